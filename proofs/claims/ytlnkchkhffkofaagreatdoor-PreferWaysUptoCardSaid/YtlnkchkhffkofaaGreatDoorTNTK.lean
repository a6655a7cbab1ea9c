/- The order of what is asked for,made: the walk. Conditions: sizes that fit. -/
import Derived.Test.YtlnkchkhffkofaaGreatDoorTNTG
import Derived.Test.YtlnkchkhffkofaaGreatDoorTNQO
import Derived.Test.YtlnkchkhffkofaaGreatDoorTNQA
import Derived.Test.YtlnkchkhffkofaaGreatDoorFwZb
import Derived.Shelf.SlSortCmp.Insertion
import Derived.Sort.LotA
set_option linter.all false
namespace Go.Id.Tryz
open Go Go.Id Go.Proofs Go.Shelf Go.Id.Md
set_option maxRecDepth 100000
structure PF (u:Store) (m ga:Nat) (F C0:List IV) (Tv iv av:IV) (zs:List Int) (D:List Dep):Prop where
 nx:m+1<u.next
 gm:0<ga/\ga<m
 o0:u.obj 0=some (.cells C0)
 oF:u.obj ga=some (.row F)
 o8:u.obj m=some (.cells [Tv])
 o10:u.obj (m+1)=some (.cells [iv])
 hi:as8 u (m+2) iv zs
 ha:Grow u av 5 (D.map Dep.cs)
 la:∀ id k,av=.slice id 0 k 5->m+1<id
 ne:∀ i j k k',iv=.slice i 0 k 1->av=.slice j 0 k' 5->i≠j
variable {u u':Store} {m ga:Nat} {F C0:List IV} {Tv iv av:IV} {zs:List Int} {D:List Dep}
theorem ip2 {s:Store}{lo:Nat}{v:IV}{zs:List Int}(h:as8 s lo v zs):∀ i k,v=.slice i 0 k 1->lo<=i/\i<s.next:=fun i k hv=>by
 rcases h with ⟨rfl,_⟩|⟨id,h1,h2,rfl,_⟩
 ·cases hv
 ·cases hv; exact ⟨h1,h2⟩
theorem hw6 {s:Store}{v:IV}{e:Nat}{es:List (List IV)}(h:Grow s v e es):∀ i k,v=.slice i 0 k e->i<s.next:=fun i k hv=>by
 rcases h with ⟨rfl,_⟩|⟨id,rfl,_,h2⟩
 ·cases hv
 ·cases hv; exact h2
theorem PF.mono (h:PF u m ga F C0 Tv iv av zs D)(hn:u.next<=u'.next)(ho:∀ i,i<u.next->u'.obj i=u.obj i):PF u' m ga F C0 Tv iv av zs D where
 nx:=Nat.lt_of_lt_of_le h.nx hn
 gm:=h.gm
 o0:=by rw[ho _ (by have:=h.nx; omega)]; exact h.o0
 oF:=by rw[ho _ (by have:=h.nx; have:=h.gm; omega)]; exact h.oF
 o8:=by rw[ho _ (by have:=h.nx; omega)]; exact h.o8
 o10:=by rw[ho _ h.nx]; exact h.o10
 hi:=h.hi.kept ⟨hn,ho⟩
 ha:=h.ha.mono hn fun id _ hid=>ho id hid
 la:=h.la
 ne:=h.ne
theorem PF.inp (h:PF u m ga F C0 Tv iv av zs D)(n:Int){k nid:Nat}(h1:u.next<=nid)(h2:nid<u.next+k) :
  PF ((aj8 iv ⟨u.next+k,u.obj⟩).put nid (.row ((zs++[n]).map cl7)) |>.put (m+1) (.cells [.slice nid 0 (zs.length+1) 1])) m ga F C0 Tv (.slice nid 0 (zs.length+1) 1) av (zs++[n]) D:=by
 have hx:=h.nx;have hg:=h.gm;have hkn:(aj8 iv ⟨u.next+k,u.obj⟩).next=u.next+k:=ah1 iv;have hlow:∀ i,i<m+2->(aj8 iv ⟨u.next+k,u.obj⟩).obj i=u.obj i:=fun i hi=>dt2 (h.hi.up k) hi
 have ho:∀ i,i<m+2->i≠m+1->((aj8 iv ⟨u.next+k,u.obj⟩).put nid (.row ((zs++[n]).map cl7)) |>.put (m+1) (.cells [.slice nid 0 (zs.length+1) 1])).obj i=u.obj i:=fun i hi hne=>by
  rw[aa4,if_neg hne,aa4,if_neg (by omega),hlow i hi]
 refine ⟨?_,hg,?_,?_,?_,?_,?_,?_,h.la,?_⟩
 ·rw[aa9,aa9,hkn]; omega
 ·rw[ho 0 (by omega) (by omega)]; exact h.o0
 ·rw[ho ga (by omega) (by omega)]; exact h.oF
 ·rw[ho m (by omega) (by omega)]; exact h.o8
 ·rw[aa4,if_pos rfl]
 ·refine .inr ⟨nid,by omega,by rw[aa9,aa9,hkn]; exact h2,by rw[List.length_append,List.length_singleton],?_⟩;rw[aa4,if_neg (by omega),aa4,if_pos rfl]
 ·refine (h.ha).mono (σ:=u) (by rw[aa9,aa9,hkn]; omega) fun id hv hid=>?_
  have h3:=h.la _ _ hv;rw[aa4,if_neg (by omega),aa4,if_neg (by omega)];rcases h.hi with ⟨hiv,_⟩|⟨iid,_,_,hiv,_⟩
  ·rw[hiv]; rfl
  ·have:=h.ne _ _ _ _ hiv hv;rw[hiv];show (if id=iid then none else u.obj id)=u.obj id;rw[if_neg fun e=>this e.symm]
 ·intro i j k1 k2 hi hj e;cases hi;subst e;have:=hw6 h.ha _ _ hj;omega
theorem gc2 {s:Store}{v:IV}{esz nid:Nat}{es xs:List (List IV)}(hg:Grow s v esz es)(h:∀ x∈es,x.length=esz/\x.all IV.leaf=true)(hx:∀ x∈xs,x.length=esz/\x.all IV.leaf=true)(hn:es.length+xs.length<=2147483648) :
  (xs=[]/\bf8 s nid esz v (.aa3 xs)=some (v,s))\/bf8 s nid esz v (.aa3 xs)=some (.slice nid 0 (es.length+xs.length) esz,(aj8 v s).put nid (.row (es++xs).flatten)):=by
 have hsrc:bt7 s esz (.aa3 xs)=some (xs.length,xs.flatten):=by
  have h1:xs.all (fun e=>e.length==esz)=true:=List.all_eq_true.2 fun x hm=>by rw[(hx x hm).1]; simp
  simp only[bt7,h1,if_true]
 have hl:xs.flatten.all IV.leaf=true:=bh9 fun x hm=>(hx x hm).2
 have hl2:es.flatten.all IV.leaf=true:=bh9 fun x hm=>(h x hm).2
 have hfl:es.flatten.length=es.length*esz:=as7 fun x hm=>(h x hm).1
 have hn2:xs.length<=2147483648:=by omega
 by_cases h0:xs.length=0
 ·have hxe:xs=[]:=List.length_eq_zero_iff.1 h0;subst hxe;refine .inl ⟨rfl,?_⟩;unfold bf8;rw[hsrc];rcases hg with ⟨rfl,rfl⟩|⟨id,rfl,ho,hid⟩
  ·simp
  ·simp[ho]
 ·refine .inr ?_;unfold bf8;rw[hsrc];rcases hg with ⟨rfl,rfl⟩|⟨id,rfl,ho,hid⟩
  ·simp[hl,h0,hn2,aj8]
  ·simp[hl,ho,h0,hfl,hl2,hn,aj8]
theorem PF.atoms (h:PF u m ga F C0 Tv iv av zs D)(E:List Dep){k nid:Nat}(h1:u.next<=nid)(h2:nid<u.next+k) :
  PF ((aj8 av ⟨u.next+k,u.obj⟩).put nid (.row (D.map Dep.cs++E.map Dep.cs).flatten)) m ga F C0 Tv iv (.slice nid 0 ((D.map Dep.cs).length+(E.map Dep.cs).length) 5) zs (D++E):=by
 have hx:=h.nx;have hg:=h.gm;have hkn:(aj8 av ⟨u.next+k,u.obj⟩).next=u.next+k:=ah1 av
 have hk:∀ i,(∀ k',av≠.slice i 0 k' 5)->(aj8 av ⟨u.next+k,u.obj⟩).obj i=u.obj i:=fun i hi=>by
  rcases h.ha with ⟨hv,_⟩|⟨id,hv,_,_⟩
  ·rw[hv]; rfl
  ·rw[hv];show (if i=id then none else u.obj i)=u.obj i;rw[if_neg fun e=>hi _ (by rw[e]; exact hv)]
 have hlow:∀ i,i<m+2->((aj8 av ⟨u.next+k,u.obj⟩).put nid (.row (D.map Dep.cs++E.map Dep.cs).flatten)).obj i=u.obj i:=fun i hi=>by
  rw[aa4,if_neg (by omega),hk i fun k' hv=>by have:=h.la _ _ hv; omega]
 refine ⟨by rw[aa9,hkn]; omega,hg,?_,?_,?_,?_,?_,?_,fun id k' hv=>by cases hv; omega,fun i j k1 k2 hi hj e=>?_⟩
 ·rw[hlow 0 (by omega)]; exact h.o0
 ·rw[hlow ga (by omega)]; exact h.oF
 ·rw[hlow m (by omega)]; exact h.o8
 ·rw[hlow (m+1) (by omega)]; exact h.o10
 ·rcases h.hi with ⟨hv,hz⟩|⟨id,i1,i2,hv,ho⟩
  ·exact .inl ⟨hv,hz⟩
  ·refine .inr ⟨id,i1,by rw[aa9,hkn]; omega,hv,?_⟩;rw[aa4,if_neg (by omega),hk id fun k' hv2=>h.ne _ _ _ _ hv hv2 rfl];exact ho
 ·refine .inr ⟨nid,by rw[List.map_append,List.length_append],by rw[aa4,if_pos rfl,List.map_append],by rw[aa9,hkn]; exact h2⟩
 ·cases hj;subst e;have:=(ip2 h.hi _ _ hi).2;omega
theorem dh1 {s:Store}{S:Nat->Prop}{fn:Fn}{cap cap':List IV}(h:ge7 s S cap cap'):Frz s S (.func fn [] cap) (.func fn [] cap'):=.func fn [] [] cap cap' rfl h.at.1 (fun i h=>absurd h (Nat.not_lt_zero _)) h.at.2
theorem bp2 {s:Store}{id:Nat}{cs:List IV}(ho:s.obj id=some (.cells cs))(hb:∀ c∈cs,Bnd 0 c):cn4 s 0 (.ptr id 0) (.ab6 cs):=.ptr id 0 cs cs (Nat.not_lt_zero _) (.inl ho) (by omega) fun j hj=>by
 rw[Nat.zero_add,List.getD_eq_getElem?_getD,List.getElem?_eq_getElem hj];exact .keep _ (hb _ (List.getElem_mem hj))
theorem er2 (l:List Bool):∀ x∈l.map bp8,x.length=1/\x.all IV.leaf=true:=fun x hx=>by
 obtain ⟨b,_,rfl⟩:=List.mem_map.1 hx; exact ⟨rfl,rfl⟩
theorem fj6 (a:ah7)(ni:Nat)(hA:AOK a)(hm:∀ q∈a.l,ag8 q=true)(hni:a.p.inst=ni):PC Tryz.prog EE 43 [a.v] (.tuple [(ak1.mk a (az9 a.l ni)).v,.int .i64 0]):=by
 refine ag3 hE fok43 (nZ rfl) (av3 (aq2 a)) ?_;have hlen:=hA.len;have hle:ni<=a.l.length:=by have:=hA.inst; omega
 have hP:=fj5 a;have hR:=do5 a hA;have hT:=ei9 a.p hlen fun x hx=>⟨hA.fit x hx,hA.tiny x hx⟩
 have hT:PC Tryz.prog EE 104 [a.p.v] (.tuple [ap9 a.l,.int .i64 0]):=hT;have hrl:a.p.rows.length=a.l.length:=by simp[ah7.l,ac8]
 have hC:=bb3 a.p;rw[hrl] at hC;have hI:=ax2 a.p;rw[hni] at hI
 have hpk:∀ j (h:j<a.l.length),PC Tryz.prog EE 19 [a.p.v,.int .i64 j] (.tuple [.agg a.l[j].cs,.int .i64 0]):=fun j h=>by
  have hq:a.p.rows[j].pkg=a.l[j]:=by simp[ah7.l,ac8]
  have h1:=av8 a.p j (by omega) (by rw[hq]; exact hA.fit _ (List.getElem_mem h));rw[hq] at h1; exact h1
 have hbA:=aq2 a;have hbP:=aq8 a.p;have hbT:=aw9 a.l;have k0:a.r.cs[0]? = some (.int .u8 a.r.an1):=rfl;have vnl:∀ d:TypeId,cl1 (.pointer d) a.v=some false:=fun _=>rfl
 have alf:a.v.leaf=true:=rfl;have acs:a.v.cs=[a.v]:=rfl;have plf:a.p.v.leaf=true:=rfl;have pcs:a.p.v.cs=[a.p.v]:=rfl;have tlf:(ap9 a.l).leaf=true:=rfl;have tcs:(ap9 a.l).cs=[ap9 a.l]:=rfl;have hS:=fun zs hz r h1 h2=>ej3 a.l hlen hA.small zs hz r h1 h2
 have hV:(ak1.mk a (az9 a.l ni)).v=.ab6 [a.v,a.p.v,.int .u8 a.r.an1,.aa3 (a.l.map aa2.cs),.aa3 ((az9 a.l ni).map bp8)]:=rfl;rw[hV];generalize hav:a.v=Av at *;generalize hpv:a.p.v=Pv at *;generalize htv:ap9 a.l=Tv at *;simp only[ic43,go_sem,vnl]
 first|refine aa5 fok102 (hP) ?_|refine aa6 (hP) ?_
 simp only[go_sem]
 first|refine aa5 fok103 (hR) ?_|refine aa6 (hR) ?_
 simp only[go_sem,bs9,ar1,k0,alf,acs,plf,pcs]
 first|refine aa5 fok28 (hC) ?_|refine aa6 (hC) ?_
 simp only[go_sem];refine ab4 noT (fun n fr s=>∃ gv,fr=[(4,.ptr 0 0),(34,.int .i64 a.l.length),(35,.int .i64 (n:Int))]/\1<=s.next/\s.obj 0=some (.cells [Av,Pv,.int .u8 a.r.an1,gv,.aa1])/\Grow s gv 15 ((a.l.take n).map aa2.cs)) a.l.length ⟨.aa1,rfl,Nat.le_refl 1,by simp only[aa4,if_true],.inl ⟨rfl,rfl⟩⟩ ?_;rintro n fr s hn ⟨gv,rfl,hnx,ho,hg⟩;by_cases hlt:n<a.l.length
 ·have d1:(n:Int)<(a.l.length:Int):=by omega
  have w1:=ad4 (i:=n) (by omega);have hp:=hpk n hlt;have n5:¬ 0=s.next:=by omega
  have htk:a.l.take (n+1)=a.l.take n++[a.l[n]]:=by
   rw[List.take_add_one,List.getElem?_eq_getElem hlt]; rfl
  have hgl:gv.leaf=true:=by rcases hg with ⟨rfl,_⟩|⟨id,rfl,_⟩<;>rfl
  have hgc:gv.cs=[gv]:=by rcases hg with ⟨rfl,_⟩|⟨id,rfl,_⟩<;>rfl
  simp only[go_sem,d1,ho]
  first|refine aa5 fok19 (hp) ?_|refine aa6 (hp) ?_
  simp only[go_sem,ag1,ag6,af1,n5,ho,b_o,b_p,b_t];obtain ⟨s1,a1,a2,a3,a4⟩:=em6 (k:=11) (nid:=s.next+1+1+1+1+1+1+1+1) (e:=a.l[n].cs) (A:=.cells [.str [],.int .i64 0,.str [],.str [],.int .u8 0,.str [],.aa1,.aa1,.aa1,.aa1,.aa1,.aa1,.aa1,.aa1,.aa1]) (B:=.cells a.l[n].cs) hg (bs6 _) ⟨rfl,rfl⟩ (by rw[List.length_map,List.length_take]; omega) ho (by omega) (by omega);simp only[go_sem,a1,a3,b_o,b_p,b_t,w1];refine ⟨hlt,_,by rw[a2]; omega,rfl,?_⟩;rw[htk,List.map_append];have a5:=a4 [Av,Pv,.int .u8 a.r.an1,.slice (s.next+1+1+1+1+1+1+1+1) 0 ((a.l.take n).length+1) 15,.aa1] s1.next (by rw[a2]; omega);rw[List.length_map] at a5;exact a5
 have hn':n=a.l.length:=by omega
 subst hn';have d1:¬ (a.l.length:Int)<(a.l.length:Int):=by omega
 rw[List.take_length] at hg;have n5:¬ 0=s.next:=by omega
 have n6:¬ 0=s.next+1:=by omega
 simp only[go_sem,d1,ho]
 first|refine aa5 fok104 (hT) ?_|refine aa6 (hT) ?_
 simp only[go_sem,tlf,tcs,n5,n6,ho];rcases hg with ⟨rfl,h0⟩|⟨ga,rfl,hga,hgl⟩
 ·-- nobody
  have hl0:a.l=[]:=List.map_eq_nil_iff.1 h0;have hn0:ni=0:=by rw[hl0] at hle; simpa using hle
  subst hn0
  first|refine aa5 fok99 (hI) ?_|refine aa6 (hI) ?_
  have hs0:cu8 15 none (some (.int .i64 0)) .aa1=some .aa1:=rfl;have hl1:a.l.length=0:=by rw[hl0]; rfl
  simp only[go_sem,hs0];refine ab4 noT (fun i fr t=>fr=[(4,.ptr 0 0),(8,.ptr s.next 0),(10,.ptr (s.next+1) 0),(11,.aa1),(81,.aa1),(82,.int .i64 0),(83,.int .i64 (i:Int))]/\t.obj 0=some (.cells [Av,Pv,.int .u8 a.r.an1,.aa1,.aa1])) 0 ⟨rfl,by simp only[aa4,n5,n6,if_false]; exact ho⟩ ?_;rintro i fr t hi0 ⟨rfl,ht0⟩;have hi1:i=0:=by omega
  subst hi1;have z0:¬ ((0:Nat):Int)<0:=by decide
  simp only[go_sem,z0,ht0];refine ab4 noT (fun i fr t=>fr=[(4,.ptr 0 0),(8,.ptr s.next 0),(10,.ptr (s.next+1) 0),(11,.aa1),(108,.aa1),(109,.int .i64 0),(110,.int .i64 (i:Int))]/\t.obj 0=some (.cells [Av,Pv,.int .u8 a.r.an1,.aa1,.aa1])) 0 ⟨rfl,ht0⟩ ?_;rintro i fr u hi0 ⟨rfl,hu0⟩;have hi1:i=0:=by omega
  subst hi1;simp only[go_sem,z0];rw[show az9 a.l 0=[] by rw[hl0]; rfl,hl0];refine .bu8 (.cons (.ptr 0 0 _ _ (Nat.not_lt_zero _) (.inl hu0) (Nat.le_refl _) (fun j hj=>?_)) (.cons (bc1 rfl) .nil))
  match j,hj with
  | 0,_=>exact .keep _ hbA
  | 1,_=>exact .keep _ hbP
  | 2,_=>exact .keep _ (.int _ _)
  | 3,_=>exact .bg7
  | 4,_=>exact .bg7
 first|refine aa5 fok99 (hI) ?_|refine aa6 (hI) ?_
 rw[List.length_map] at *
 have hs0:cu8 15 none (some (.int .i64 (ni:Int))) (.slice ga 0 a.l.length 15)=some (.slice ga 0 ni 15):=by
  have h1:(0:Int)<=ni:=by omega
  simp[cu8,co9,es5,h1,hle]
 simp only[go_sem,hs0];obtain ⟨m,hm0⟩:∃ m,s.next=m:=⟨_,rfl⟩
 have hgz:0<ga:=by
  rcases Nat.eq_zero_or_pos ga with h|h
  ·rw[h,ho] at hga; cases hga
  ·exact h
 have hrow:∀ i (h:i<a.l.length),((a.l.map aa2.cs).flatten.drop (i*15)).take 15=a.l[i].cs/\15<=((a.l.map aa2.cs).flatten.drop (i*15)).length:=fun i h=>by
  have hl:∀ e∈a.l.map aa2.cs,e.length=15:=fun e he=>(bs6 _ e he).1
  have h1:=aw4 hl i (by rw[List.length_map]; exact h);have h2:=as7 hl;refine ⟨by rw[h1]; simp[List.getD_eq_getElem?_getD,h],?_⟩;rw[List.length_drop,h2,List.length_map]; omega
 rw[hm0] at n5 n6 hnx hgl ⊢;generalize hF:(a.l.map aa2.cs).flatten=F at *;generalize hC0:[Av,Pv,IV.int .u8 a.r.an1,IV.slice ga 0 a.l.length 15,IV.aa1]=C0 at *
 have hmay:∀ i (h:i<a.l.length),(a.l[i].suggests.length<=32/\∀ r∈a.l[i].suggests,r.fit/\r.count<=24/\∀ d∈r.atoms,al2 d=true)/\a.l[i].ac5.length<=32/\∀ r∈a.l[i].ac5,r.fit/\r.count<=24:=fun i h=>by
  obtain ⟨⟨h1,h2⟩,h3,h4⟩:=gt1 (hm _ (List.getElem_mem h));have hr:=(hA.fit _ (List.getElem_mem h)).rich;simp only[aa2.rows,List.mem_cons,List.not_mem_nil,or_false,forall_eq_or_imp,forall_eq] at hr;exact ⟨⟨h1,fun r hr'=>⟨(hr.2.2.2.2.1.2 r hr').1,dg9 (h2 r hr')⟩⟩,h3,fun r hr'=>⟨(hr.2.2.2.2.2.2 r hr').1,(dg9 (h4 r hr')).1⟩⟩
 have hatl:∀ L:List aa2,(∀ q∈L,q∈a.l)->(at7 L).length<=L.length*(32*24):=fun L hL=>by
  refine ej1 _ _ L fun q hq=>?_
  obtain ⟨i,hi,rfl⟩:=List.mem_iff_getElem.1 (hL q hq);obtain ⟨⟨h1,h2⟩,_⟩:=hmay i hi;refine Nat.le_trans (ej1 _ 24 _ fun r hr=>Nat.le_trans (cu5 r) (h2 r hr).2.1) (Nat.mul_le_mul h1 (Nat.le_refl 24))
 refine ab4 noT (fun i fr u=>∃ iv av,fr=[(4,.ptr 0 0),(8,.ptr m 0),(10,.ptr (m+1) 0),(11,av),(81,.slice ga 0 ni 15),(82,.int .i64 ni),(83,.int .i64 (i:Int))]/\PF u m ga F C0 Tv iv av (am6 (fun _=>true) i) (at7 (a.l.take i))) ni ⟨.aa1,.aa1,rfl,?_⟩ ?_
 ·refine ⟨by show m+1<m+2+_; omega,⟨hgz,hgl⟩,?_,?_,?_,?_,.inl ⟨rfl,rfl⟩,.inl ⟨rfl,rfl⟩,fun id k h=>(by cases h),fun i j k k' h=>(by cases h)⟩
  ·simp only[aa4,n5,n6,if_false]; exact ho
  ·have e1:¬ ga=m:=by omega
   have e2:¬ ga=m+1:=by omega
   simp only[aa4,e1,e2,if_false]; exact hga
  ·have e1:¬ m=m+1:=by omega
   simp only[aa4,e1,if_false,if_true]
  ·simp only[aa4,if_true]
 rintro i fr u hi ⟨iv,av,rfl,hpf⟩;by_cases hlt:i<ni
 ·have d2:(i:Int)<ni:=by omega
  have d3:(0:Int)<=i:=by omega
  have w1:=ad4 (i:=i) (by omega);have hil:i<a.l.length:=by omega
  obtain ⟨r1,r2⟩:=hrow i hil;obtain ⟨⟨s1,s2⟩,_⟩:=hmay i hil;have hat:=hatl (a.l.take i) fun q hq=>List.mem_of_mem_take hq
  have htk:a.l.take (i+1)=a.l.take i++[a.l[i]]:=by
   rw[List.take_add_one,List.getElem?_eq_getElem hil]; rfl
  have hsg:(a.l[i].cs.drop 12).head? = some (ae8 a.l[i].suggests):=rfl;have hgu:¬ ga=u.next:=by have:=hpf.nx; omega
  have h1u:¬ m+1=u.next:=by have:=hpf.nx; omega
  generalize a.l[i]=q at *;simp only[go_sem,d2,d3,hpf.oF,r1,r2,Nat.zero_add,Int.toNat_natCast,ag1,ag6,af1,h1u,hpf.o10,hsg];generalize hX:Store.put _ u.next (ak3.cells q.cs)=X;have hXn:X.next=u.next+1:=by rw[<- hX]; rfl
  have hXo:∀ i,i<u.next->X.obj i=u.obj i:=fun i hi=>by
   have:¬ i=u.next:=by omega
   rw[<- hX]; simp only[aa4,this,if_false]
  have hXb:X.obj u.next=some (.cells q.cs):=by rw[<- hX]; simp only[aa4,if_true]
  have hpX:PF X m ga F C0 Tv iv av (am6 (fun _=>true) i) (at7 (a.l.take i)):=hpf.mono (by omega) hXo;have hzl:=az3 (fun _=>true) i;have hns:am6 (fun _=>true) (i+1)=am6 (fun _=>true) i++[(i:Int)]:=by rw[df1]; rfl
  have hap:=ed4 (s:=⟨X.next+1,X.obj⟩) (nid:=X.next) (hpX.hi.up 1) (i:Int) (by omega);have hpW:=hpX.inp (i:Int) (k:=1) (nid:=X.next) (Nat.le_refl _) (Nat.lt_succ_self _)
  have hcl:∀ j cs,X.obj j=some (.cells cs)->(aj8 iv ⟨X.next+1,X.obj⟩).obj j=some (.cells cs):=fun j cs h=>by
   rcases hpX.hi with ⟨hv,_⟩|⟨id,_,_,hv,ho⟩
   ·rw[hv]; exact h
   ·rw[hv];show (if j=id then none else X.obj j)=_;rw[if_neg fun e=>by rw[e,ho] at h; cases h]; exact h
  have k1:=hcl _ _ hpX.o10;have k2:=hcl _ _ hXb;have e1:¬ m+1=X.next:=by have:=hpX.nx; omega
  have e2:¬ u.next=X.next:=by omega
  have e3:¬ u.next=m+1:=by have:=hpf.nx; omega
  rw[<- hXn,hap];rw[<- hns] at hpW;simp only[go_sem,e1,e2,e3,k1,k2,hsg];generalize hY:Store.put _ (m+1) (ak3.cells [IV.slice X.next 0 ((am6 (fun _=>true) i).length+1) 1])=Y at *;generalize IV.slice X.next 0 ((am6 (fun _=>true) i).length+1) 1=iv' at *;have hzl2:=az3 (fun _=>true) (i+1)
  refine ab4 noT (fun j fr t=>∃ av',fr=[(4,.ptr 0 0),(8,.ptr m 0),(10,.ptr (m+1) 0),(11,av'),(81,.slice ga 0 ni 15),(82,.int .i64 ni),(83,.int .i64 (i:Int)),(93,ae8 q.suggests),(94,.int .i64 q.suggests.length),(95,.int .i64 (j:Int))] /\
   PF t m ga F C0 Tv iv' av' (am6 (fun _=>true) (i+1)) (at7 (a.l.take i)++(q.suggests.take j).flatMap aa8.atoms)) q.suggests.length ⟨av,rfl,?_⟩ ?_
  ·rw[List.take_zero,List.flatMap_nil,List.append_nil];refine hpW.mono (Nat.le_of_eq ?_) fun z hz=>?_
   ·rw[<- hY,hns]; try rfl
   ·rw[<- hY,hns]; try rfl
  rintro j fr t hj ⟨av',rfl,hpt⟩;by_cases hjl:j<q.suggests.length
  ·obtain ⟨r,hr,hrj,hdr,hget,htkj⟩:=af5 q.suggests j hjl;have f1:(j:Int)<q.suggests.length:=by omega
   have f2:(0:Int)<=j:=by omega
   have w2:=ad4 (i:=j) (by omega);obtain ⟨g1,g2,g3⟩:=s2 r hr;have hAt:=gs9 r g1 (by omega);simp only[go_sem,f1,f2,hget,ac2,ad2,ab8]
   first|refine aa5 fok84 (hAt) ?_|refine aa6 (hAt) ?_
   simp only[go_sem];generalize hX2:Store.put _ t.next (ak3.cells r.cs)=X2;have hX2n:X2.next=t.next+1:=by rw[<- hX2]; rfl
   have hpX2:PF X2 m ga F C0 Tv iv' av' (am6 (fun _=>true) (i+1)) (at7 (a.l.take i)++(q.suggests.take j).flatMap aa8.atoms):=hpt.mono (by omega) fun z hz=>by
    have:¬ z=t.next:=by omega
    rw[<- hX2]; simp only[aa4,this,if_false]
   have hfj:((q.suggests.take j).flatMap aa8.atoms).length<=32*24:=Nat.le_trans (ej1 _ 24 _ fun x hx=>Nat.le_trans (cu5 x) (s2 x (List.mem_of_mem_take hx)).2.1) (Nat.mul_le_mul (by rw[List.length_take]; omega) (Nat.le_refl 24));have hra:=cu5 r;have hti:(a.l.take i).length<=256:=by rw[List.length_take]; omega
   have hmul:(a.l.take i).length*(32*24)<=256*(32*24):=Nat.mul_le_mul hti (Nat.le_refl _);have hap2:=gc2 (s:=⟨X2.next+1,X2.obj⟩) (nid:=X2.next) (xs:=r.atoms.map Dep.cs) (hpX2.ha.mono (Nat.le_succ _) fun _ _ _=>rfl) (by2 _) (by2 _) (by rw[List.length_map,List.length_map,List.length_append]; omega);have htkj':(q.suggests.take (j+1)).flatMap aa8.atoms=(q.suggests.take j).flatMap aa8.atoms++r.atoms:=by rw[htkj,List.flatMap_append,List.flatMap_cons,List.flatMap_nil,List.append_nil]
   rw[<- hX2n];rcases hap2 with ⟨hz,hap2⟩|hap2
   ·have hz':r.atoms=[]:=List.map_eq_nil_iff.1 hz;rw[hap2];simp only[go_sem,w2];refine ⟨hjl,av',rfl,?_⟩;rw[htkj',hz',List.append_nil];exact hpX2.mono (Nat.le_succ _) fun _ _=>rfl
   ·have hpA:=hpX2.atoms r.atoms (k:=1) (nid:=X2.next) (Nat.le_refl _) (Nat.lt_succ_self _);rw[hap2];simp only[go_sem,w2];refine ⟨hjl,_,rfl,?_⟩;rw[htkj',<- List.append_assoc];rw[List.length_map,List.length_map] at hpA;exact hpA
  have hj':j=q.suggests.length:=by omega
  subst hj';have f1:¬ (q.suggests.length:Int)<q.suggests.length:=by omega
  simp only[go_sem,f1,w1];refine ⟨hlt,iv',av',rfl,?_⟩;rw[List.take_length] at hpt;rw[htk];unfold at7 at *;rw[List.flatMap_append,List.flatMap_cons,List.flatMap_nil,List.append_nil];exact hpt
 have hi':i=ni:=by omega
 subst hi';have d2:¬ (i:Int)<(i:Int):=by omega
 have hc3:(C0.drop 3).head? = some (.slice ga 0 a.l.length 15):=by rw[<- hC0]; rfl
 simp only[go_sem,d2,hpf.o0,hc3];obtain ⟨M,hM0⟩:∃ M,u.next=M:=⟨_,rfl⟩;have hmM:m+1<M:=by rw[<- hM0]; exact hpf.nx
 have hlm:(az9 a.l i).length=a.l.length:=List.length_map ..
 refine ab4 noT (fun n fr t=>∃ lv,fr=[(4,.ptr 0 0),(8,.ptr m 0),(10,.ptr (m+1) 0),(11,av),(108,.slice ga 0 a.l.length 15),(109,.int .i64 a.l.length),(110,.int .i64 (n:Int))]/\M<=t.next/\(∀ z,0<z->z<M->t.obj z=u.obj z) /\
  t.obj 0=some (.cells [Av,Pv,.int .u8 a.r.an1,.slice ga 0 a.l.length 15,lv])/\Grow t lv 1 (((az9 a.l i).take n).map bp8)/\∀ id k,lv=.slice id 0 k 1->M<=id) a.l.length ⟨.aa1,rfl,by omega,fun _ _ _=>rfl,by rw[hC0]; exact hpf.o0,.inl ⟨rfl,rfl⟩,fun id k h=>by cases h⟩ ?_
 rintro n fr t hn ⟨lv,rfl,hMt,hk,ho0,hlv,hll⟩;have hgaM:ga<M:=by have:=hpf.gm; omega
 have tF:t.obj ga=some (.row F):=by rw[hk ga hgz hgaM]; exact hpf.oF
 by_cases hlt2:n<a.l.length
 ·have d3:(n:Int)<a.l.length:=by omega
  have d4:(0:Int)<=n:=by omega
  have w1:=ad4 (i:=n) (by omega);obtain ⟨r1,r2⟩:=hrow n hlt2;obtain ⟨_,s1,s2⟩:=hmay n hlt2;have hsq:=hA.small _ (List.getElem_mem hlt2);have hti:(a.l.take i).length<=256:=by rw[List.length_take]; omega
  have hmul:(a.l.take i).length*(32*24)<=256*(32*24):=Nat.mul_le_mul hti (Nat.le_refl _);have hat:=hatl (a.l.take i) fun q hq=>List.mem_of_mem_take hq
  have hzl:=az3 (fun _=>true) i
  have htk:((az9 a.l i).take (n+1))=(az9 a.l i).take n++[gc1 a.l i a.l[n]]:=by
   rw[List.take_add_one];simp[az9,hlt2]
  have hen:(a.l[n].cs.drop 13).head? = some (ae8 a.l[n].ac5):=rfl
  have hD:∀ d∈at7 (a.l.take i),Dep.small d:=fun d hd=>by
   obtain ⟨q,hq,hd2⟩:=List.mem_flatMap.1 hd;obtain ⟨r,hr,hd3⟩:=List.mem_flatMap.1 hd2;obtain ⟨j,hj,hqj⟩:=List.mem_iff_getElem.1 (List.mem_of_mem_take hq);rw[<- hqj] at hr;exact dy5 (((hmay j hj).1.2 r hr).2.2 d hd3)
  have hcD:=bx2 (at7 (a.l.take i)) 105 [] [.ab6 a.l[n].cs] (fun d=>provides a.l[n] d) (by omega) fok105.1 fun d hd=>ej2 a.l[n] d hsq (hD d hd)
  have hcR:=bo7 a.l[n].ac5 106 [] [.ab6 [Tv],.ab6 [.aa3 ((am6 (fun _=>true) i).map Md.af3)]] (fun r=>hm5 a.l (am6 (fun _=>true) i) r) (by omega) fok106.1 fun r hr=>hS _ (by omega) r (s2 r hr).1 (by have:=(s2 r hr).2; omega)
  have hlp:gc1 a.l i a.l[n]=((at7 (a.l.take i)).any (fun d=>provides a.l[n] d)||a.l[n].ac5.any fun r=>hm5 a.l (am6 (fun _=>true) i) r):=rfl;rw[hlp] at htk;generalize (at7 (a.l.take i)).any (fun d=>provides a.l[n] d)=B1 at *;generalize (a.l[n].ac5.any fun r=>hm5 a.l (am6 (fun _=>true) i) r)=B2 at *;generalize a.l[n]=q at *;simp only[go_sem,d3,d4,tF,r1,r2,Nat.zero_add,Int.toNat_natCast,ag1,ag6,af1];generalize hX:Store.put _ t.next (ak3.cells q.cs)=X;have hXn:X.next=t.next+1:=by rw[<- hX]; rfl
  have hXo:∀ i,i<t.next->X.obj i=t.obj i:=fun i hi=>by
   have:¬ i=t.next:=by omega
   rw[<- hX]; simp only[aa4,this,if_false]
  have hXb:X.obj t.next=some (.cells q.cs):=by rw[<- hX]; simp only[aa4,if_true]
  have hmt:¬ m=t.next:=by omega
  have hm1t:¬ m+1=t.next:=by omega
  have hXu:∀ z,0<z->z<M->X.obj z=u.obj z:=fun z h1 h2=>by rw[hXo z (by omega),hk z h1 h2]
  have hav2:∀ τ:Store,τ.obj=X.obj->M<=τ.next->cn4 τ 0 av (.aa3 ((at7 (a.l.take i)).map Dep.cs)):=fun τ h1 h2=>by
   refine (hpf.ha.mono (σ:=u) (by omega) fun id hv hid=>?_:Grow τ av 5 ((at7 (a.l.take i)).map Dep.cs)).frz (fun e he=>(by2 _ e he).1) (fun _ _=>Nat.not_lt_zero _) fun e he c hc=>by
    obtain ⟨x,_,rfl⟩:=List.mem_map.1 he;exact er1 x c hc
   rw[h1];exact hXu id (by have:=hpf.la _ _ hv; omega) (by omega)
  refine ac9 fok83 (bi4 (args':=[.aa3 ((at7 (a.l.take i)).map Dep.cs),.func (.func 105) [] [.ab6 q.cs]]) hE rfl (fun z hz=>by
   match z,hz with
   | 0,_=>exact hav2 _ rfl (by show M<=t.next+1; omega)
   | 1,_=>exact dh1 (.cons (bp2 hXb (ag9 q)) .nil)) (by simp[IV.plain]) hcD) ?_
  rintro v w ⟨rfl,rfl⟩;refine ⟨Nat.le_refl _,?_⟩
  have hiv2:cn4 (⟨t.next+1,X.obj⟩:Store) 0 (.ptr (m+1) 0) (.ab6 [.aa3 ((am6 (fun _=>true) i).map Md.af3)]):=by
   refine .ptr (m+1) 0 [iv] _ (Nat.not_lt_zero _) (.inl (by show X.obj (m+1)=_; rw[hXu _ (by omega) (by omega)]; exact hpf.o10)) (Nat.le_refl _) fun j hj=>?_
   have hj0:j=0:=by simp only[List.length_singleton] at hj; omega
   subst hj0
   have hir:as8 (⟨t.next+1,X.obj⟩:Store) (m+2) iv (am6 (fun _=>true) i):=by
    rcases hpf.hi with h|⟨id,i1,i2,i3,i4⟩
    ·exact .inl h
    ·exact .inr ⟨id,i1,by show id<t.next+1; omega,i3,by show X.obj id=_; rw[hXu id (by omega) (by omega)]; exact i4⟩
   exact hir.w.frz fun _ _=>Nat.not_lt_zero _
  simp only[go_sem,hXb,hen]
  refine ac9 fok81 (bi4 (args':=[ae8 q.ac5,.func (.func 106) [] [.ab6 [Tv],.ab6 [.aa3 ((am6 (fun _=>true) i).map Md.af3)]]]) hE rfl (fun z hz=>by
   match z,hz with
   | 0,_=>exact .keep _ (be1 _)
   | 1,_=>exact dh1 (.cons (bp2 (by show X.obj m=_; rw[hXu _ (by omega) (by omega)]; exact hpf.o8) (av3 hbT)) (.cons hiv2 .nil))) (by simp[IV.plain]) hcR) ?_
  rintro v w ⟨rfl,rfl⟩;refine ⟨Nat.le_refl _,?_⟩;have hx0:X.obj 0=some (.cells [Av,Pv,.int .u8 a.r.an1,.slice ga 0 a.l.length 15,lv]):=by rw[hXo 0 (by omega)]; exact ho0
  simp only[go_sem,hx0];have hlx:Grow (⟨t.next+1+1,X.obj⟩:Store) lv 1 (((az9 a.l i).take n).map bp8):=hlv.mono (by show t.next<=t.next+1+1; omega) fun id _ hid=>hXo id hid
  have hap:=fun b:Bool=>ao9 (nid:=t.next+1) (e:=[IV.bool b]) hlx (er2 _) ⟨rfl,rfl⟩ (by rw[List.length_map,List.length_take]; omega)
  have kn:(aj8 lv (⟨t.next+1+1,X.obj⟩:Store)).next=t.next+1+1:=ah1 lv;have k0:=ai4 hlx 0 _ hx0 (fun _ h=>by cases h)
  have kz:∀ z,0<z->z<M->(aj8 lv (⟨t.next+1+1,X.obj⟩:Store)).obj z=u.obj z:=fun z h1 h2=>by
   rcases hlx with ⟨hv,_⟩|⟨id,hv,_,_⟩
   ·rw[hv]; exact hXu z h1 h2
   ·have:=hll _ _ hv;rw[hv];show (if z=id then none else X.obj z)=_;rw[if_neg (by omega)]; exact hXu z h1 h2
  have e0:¬ 0=t.next+1:=by omega
  have e1:¬ t.next+1=0:=by omega
  have hlen2:((az9 a.l i).take n).length=n:=by rw[List.length_take,hlm]; omega
  have hfin:∀ b:Bool,b=(B1||B2)->∀ cs,cs=(((az9 a.l i).take n).map bp8++[[IV.bool b]]).flatten->n<a.l.length/\∃ lv',[(4,IV.ptr 0 0),(8,.ptr m 0),(10,.ptr (m+1) 0),(11,av),(108,.slice ga 0 a.l.length 15),(109,.int .i64 a.l.length),(110,.int .i64 ((n+1:Nat):Int))]=[(4,IV.ptr 0 0),(8,.ptr m 0),(10,.ptr (m+1) 0),(11,av),(108,.slice ga 0 a.l.length 15),(109,.int .i64 a.l.length),(110,.int .i64 ((n+1:Nat):Int))]/\lv'=.slice (t.next+1) 0 ((((az9 a.l i).take n).map bp8).length+1) 1 /\
    (((aj8 lv (⟨t.next+1+1,X.obj⟩:Store)).put (t.next+1) (.row cs)).put 0 (.cells [Av,Pv,.int .u8 a.r.an1,.slice ga 0 a.l.length 15,lv'])).next=t.next+1+1/\(∀ z,0<z->z<M->(((aj8 lv (⟨t.next+1+1,X.obj⟩:Store)).put (t.next+1) (.row cs)).put 0 (.cells [Av,Pv,.int .u8 a.r.an1,.slice ga 0 a.l.length 15,lv'])).obj z=u.obj z) /\
    Grow (((aj8 lv (⟨t.next+1+1,X.obj⟩:Store)).put (t.next+1) (.row cs)).put 0 (.cells [Av,Pv,.int .u8 a.r.an1,.slice ga 0 a.l.length 15,lv'])) lv' 1 (((az9 a.l i).take (n+1)).map bp8):=fun b hb cs hcs=>by
   refine ⟨hlt2,_,rfl,rfl,by rw[aa9,aa9,kn],fun z h1 h2=>?_,?_⟩
   ·rw[aa4,if_neg (by omega),aa4,if_neg (by omega)]; exact kz z h1 h2
   ·refine .inr ⟨t.next+1,?_,?_,by rw[aa9,aa9,kn]; omega⟩
    ·rw[htk]; simp
    ·rw[aa4,if_neg e1,aa4,if_pos rfl,htk,hcs,hb,List.map_append]; rfl
  cases B1 with
  | true=>
   simp only[go_sem,hap,e0,k0,w1];obtain ⟨_,lv',_,h2,h3,h4,h5⟩:=hfin true rfl _ rfl;rw[h2,List.length_map] at h3 h4 h5;refine ⟨hlt2,_,by rw[kn]; omega,fun z h1 h2=>?_,rfl,h5,fun id k h=>by cases h; omega⟩;have:=h4 z h1 h2
   simpa only[aa4] using this
   -- fun id k h=>by cases h; omega⟩
  | false=>
   simp only[go_sem,hap,e0,k0,w1];obtain ⟨_,lv',_,h2,h3,h4,h5⟩:=hfin B2 rfl _ rfl;rw[h2,List.length_map] at h3 h4 h5;refine ⟨hlt2,_,by rw[kn]; omega,fun z h1 h2=>?_,rfl,h5,fun id k h=>by cases h; omega⟩;have:=h4 z h1 h2
   simpa only[aa4] using this
   -- fun id k h=>by cases h; omega⟩
 have hn':n=a.l.length:=by omega
 subst hn';have d3:¬ (a.l.length:Int)<(a.l.length:Int):=by omega
 simp only[go_sem,d3];rw[List.take_of_length_le (by rw[hlm]; exact Nat.le_refl _)] at hlv;refine .bu8 (.cons (.ptr 0 0 _ _ (Nat.not_lt_zero _) (.inl ho0) (Nat.le_refl _) (fun j hj=>?_)) (.cons (bc1 rfl) .nil))
 match j,hj with
 | 0,_=>exact .keep _ hbA
 | 1,_=>exact .keep _ hbP
 | 2,_=>exact .keep _ (.int _ _)
 | 3,_=>
  have hgr:Grow t (.slice ga 0 a.l.length 15) 15 (a.l.map aa2.cs):=.inr ⟨ga,by rw[List.length_map],by rw[tF,hF],by omega⟩
  exact hgr.frz (fun x hx=>(bs6 _ x hx).1) (fun _ _=>Nat.not_lt_zero _) fun e he c hc=>by
   obtain ⟨y,_,rfl⟩:=List.mem_map.1 he
   exact ag9 y c hc
 | 4,_=>
  exact hlv.frz (fun x hx=>(er2 _ x hx).1) (fun _ _=>Nat.not_lt_zero _) fun e he c hc=>by
   obtain ⟨y,_,rfl⟩:=List.mem_map.1 he
   cases hc with
   | head=>exact .bool _
   | tail _ h=>cases h
theorem ag7 (o:ak1):Bnd 0 o.v:=.ab6 _ fun c hc=>by
 simp only[ak1.cs,List.mem_cons,List.not_mem_nil,or_false] at hc;rcases hc with rfl|rfl|rfl|rfl|rfl
 ·exact aq2 _
 ·exact aq8 _
 ·exact .int _ _
 ·exact ax6 _
 ·exact dy3 _
theorem do6 (o:ak1):o.v=.ab6 [o.a.v,o.a.p.v,.int .u8 o.a.r.an1,.aa3 (o.a.l.map aa2.cs),dy2 o.dv8]:=rfl
structure OOK (o:ak1):Prop where
 a:AOK o.a
 lk:o.dv8.length=o.a.l.length
theorem by3 (o:ak1)(n:Int):PC Tryz.prog EE 64 [o.v,.int .i64 n] (.bool (o.a.is n)):=by
 refine ag3 hE fok64 (nZ rfl) (ah6 (ag7 o) (.int _ _)) ?_;unfold ah7.is;rw[do6];have hl:(o.a.l.map aa2.cs).length=o.a.l.length:=List.length_map ..;generalize o.a.l.map aa2.cs=es at *;generalize o.a.l.length=k at *;by_cases h1:0<=n
 ·by_cases h2:n<(k:Nat)
  ·simp only[ic64,go_sem,am4,h1,h2,hl]; exact ad9 rfl
  ·simp only[ic64,go_sem,am4,h1,h2,hl]; exact ad9 rfl
 ·simp only[ic64,go_sem,am4,h1]; exact ad9 rfl
theorem cw3 {a:ah7}{n:Int}(h:a.is n=true):∃ k:Nat,n=k/\k<a.l.length:=by
 unfold ah7.is at h;simp only[Bool.and_eq_true,decide_eq_true_eq] at h;exact ⟨n.toNat,by omega,by omega⟩
theorem dy9 (a:ah7){k:Nat}(h:k<a.l.length):a.pk k=a.l[k]:=by simp[ah7.pk,List.getD_eq_getElem?_getD,h]
theorem bq8 (b:Bool):PC Tryz.prog EE 54 [.bool b] (.int .i64 (ak1.ba4 b)):=by
 refine ag3 hE fok54 (nZ rfl) (av3 (.bool _)) ?_
 cases b with
 | false=>simp only[ic54,go_sem]; exact bc1 rfl
 | true=>simp only[ic54,go_sem]; exact bc1 rfl
theorem ah2 {v:IV}(h:Bnd 0 v):Bnd 0 (.ab6 [v]):=.ab6 _ (av3 h)
theorem hw9 (o:ak1)(n m:Int):PC Tryz.prog EE 131 [.ab6 [o.v],.ab6 [.int .i64 n],.ab6 [.int .i64 m]] (.int .i64 (am5 (ak1.ba4 (o.a.fits n)) (ak1.ba4 (o.a.fits m)))):=by
 refine ag3 hE fok131 (nZ rfl) (aw5 (ah2 (ag7 o)) (ah2 (.int _ _)) (ah2 (.int _ _))) ?_;have h1:=dg6 o.a n;have h2:=dg6 o.a m;have y1:=bq8 (o.a.fits n);have y2:=bq8 (o.a.fits m);have hc:=az7 (ak1.ba4 (o.a.fits n)) (ak1.ba4 (o.a.fits m));rw[do6];simp only[ic131,go_sem,am4]
 first|refine aa5 fok132 (h1) ?_|refine aa6 (h1) ?_
 simp only[go_sem]
 first|refine aa5 fok54 (y1) ?_|refine aa6 (y1) ?_
 simp only[go_sem,am4]
 first|refine aa5 fok132 (h2) ?_|refine aa6 (h2) ?_
 simp only[go_sem]
 first|refine aa5 fok54 (y2) ?_|refine aa6 (y2) ?_
 simp only[go_sem]
 first|refine aa5 fok32 (hc) ?_|refine aa6 (hc) ?_
 simp only[go_sem];exact bc1 rfl
theorem hx8 (o:ak1)(p q:aa2):PC Tryz.prog EE 133 [.ab6 [o.v],.ab6 p.cs,.ab6 q.cs] (.int .i64 (am5 (az4 o.a.r.an1 p.an1) (az4 o.a.r.an1 q.an1))):=by
 refine ag3 hE fok133 (nZ rfl) (aw5 (ah2 (ag7 o)) (.ab6 _ (ag9 p)) (.ab6 _ (ag9 q))) ?_;have h1:=dm9 o.a.r.an1 p.an1;have h2:=dm9 o.a.r.an1 q.an1;have hc:=az7 (az4 o.a.r.an1 p.an1) (az4 o.a.r.an1 q.an1);have p4:(p.cs.drop 4).head? = some (.int .u8 p.an1):=rfl;have q4:(q.cs.drop 4).head? = some (.int .u8 q.an1):=rfl;rw[do6];simp only[ic133,go_sem,am4,ag1,p4]
 first|refine aa5 fok134 (h1) ?_|refine aa6 (h1) ?_
 simp only[go_sem,am4,ag1,q4]
 first|refine aa5 fok134 (h2) ?_|refine aa6 (h2) ?_
 simp only[go_sem]
 first|refine aa5 fok32 (hc) ?_|refine aa6 (hc) ?_
 simp only[go_sem];exact bc1 rfl
theorem gc3 (r:ax5):(r.cs.drop 16).head? = some (.int .i64 r.prio):=rfl
theorem bj8 (p:Pool)(n:Nat)(h:n<p.rows.length):PC Tryz.prog EE 136 [p.v,.int .i64 n] (.int .i64 p.rows[n].prio):=by
 refine ap7 fok136 (nZ rfl) fun σ=>?_
 have c1:(n:Int)<p.rows.length:=by omega
 have c2:(0:Int)<=n:=by omega
 have hg:(p.rows.map ax5.cs).getD n []=p.rows[n].cs:=by simp[List.getD_eq_getElem?_getD,h]
 simp only[ic136,go_sem,Pool.v];refine aa5 fok57 (bx3 p.rows n) ?_;simp only[go_sem,c1,c2,hg,bb4,gc3,and_self]
theorem gc4 (o:ak1){k:Nat}(h:k<o.a.l.length):∃ h2:k<o.a.p.rows.length,o.prio k=o.a.p.rows[k].prio:=by
 have hrl:o.a.p.rows.length=o.a.l.length:=by simp[ah7.l,ac8]
 exact ⟨by omega,by simp[ak1.prio,List.getD_eq_getElem?_getD,show k<o.a.p.rows.length by omega]⟩
theorem hx9 (o:ak1){n m:Nat}(hn:n<o.a.l.length)(hm:m<o.a.l.length):PC Tryz.prog EE 135 [.ab6 [o.v],.ab6 [.int .i64 m],.ab6 [.int .i64 n]] (.int .i64 (am5 (o.prio m) (o.prio n))):=by
 refine ag3 hE fok135 (nZ rfl) (aw5 (ah2 (ag7 o)) (ah2 (.int _ _)) (ah2 (.int _ _))) ?_;obtain ⟨h1,e1⟩:=gc4 o hn;obtain ⟨h2,e2⟩:=gc4 o hm;have p1:=bj8 o.a.p n h1;have p2:=bj8 o.a.p m h2;rw[<- e1] at p1;rw[<- e2] at p2;have hc:=az7 (o.prio m) (o.prio n);rw[do6];simp only[ic135,go_sem,am4]
 first|refine aa5 fok136 (p2) ?_|refine aa6 (p2) ?_
 simp only[go_sem,am4]
 first|refine aa5 fok136 (p1) ?_|refine aa6 (p1) ?_
 simp only[go_sem]
 first|refine aa5 fok32 (hc) ?_|refine aa6 (hc) ?_
 simp only[go_sem];exact bc1 rfl
theorem hy5 (o:ak1)(hO:OOK o){n m:Nat}(hn:n<o.a.l.length)(hm:m<o.a.l.length):PC Tryz.prog EE 137 [.ab6 [o.v],.ab6 [.int .i64 n],.ab6 [.int .i64 m]] (.int .i64 (am5 (ak1.ba4 (o.lk n)) (ak1.ba4 (o.lk m)))):=by
 refine ag3 hE fok137 (nZ rfl) (aw5 (ah2 (ag7 o)) (ah2 (.int _ _)) (ah2 (.int _ _))) ?_;have g1:=bx8 (st:=o.dv8) (n:=n) (by rw[hO.lk]; exact hn);have g2:=bx8 (st:=o.dv8) (n:=m) (by rw[hO.lk]; exact hm);have c1:(n:Int)<o.dv8.length:=by rw[hO.lk]; omega
 have c2:(0:Int)<=n:=by omega
 have c3:(m:Int)<o.dv8.length:=by rw[hO.lk]; omega
 have c4:(0:Int)<=m:=by omega
 have y1:=bq8 (o.lk n);have y2:=bq8 (o.lk m);have hc:=az7 (ak1.ba4 (o.lk n)) (ak1.ba4 (o.lk m));unfold ak1.lk at *;rw[Int.toNat_natCast] at *;rw[do6];simp only[ic137,go_sem,am4,c1,c2,g1]
 first|refine aa5 fok54 (y1) ?_|refine aa6 (y1) ?_
 simp only[go_sem,am4,c3,c4,g2]
 first|refine aa5 fok54 (y2) ?_|refine aa6 (y2) ?_
 simp only[go_sem]
 first|refine aa5 fok32 (hc) ?_|refine aa6 (hc) ?_
 simp only[go_sem];exact bc1 rfl
theorem hy6 (p q:aa2)(hp:EVR.small p.evr)(hq:EVR.small q.evr):PC Tryz.prog EE 138 [.ab6 q.cs,.ab6 p.cs] (.int .i64 (ak8 q.evr p.evr)):=by
 refine ag3 hE fok138 (nZ rfl) (ah6 (.ab6 _ (ag9 q)) (.ab6 _ (ag9 p))) ?_;have h:=at6 q.evr p.evr hq hp;have p1:(p.cs.drop 1).take 3=p.evr.cs:=rfl;have q1:(q.cs.drop 1).take 3=q.evr.cs:=rfl;have p2:(p.cs.drop 1).length=14:=rfl;have q2:(q.cs.drop 1).length=14:=rfl;simp only[ic138,go_sem,ag1,p1,q1,p2,q2]
 first|refine aa5 fok20 (h) ?_|refine aa6 (h) ?_
 simp only[go_sem];exact bc1 rfl
theorem hy7 (n m:Int):PC Tryz.prog EE 139 [.ab6 [.int .i64 n],.ab6 [.int .i64 m]] (.int .i64 (am5 n m)):=by
 refine ag3 hE fok139 (nZ rfl) (ah6 (ah2 (.int _ _)) (ah2 (.int _ _))) ?_;have hc:=az7 n m;simp only[ic139,go_sem]
 first|refine aa5 fok32 (hc) ?_|refine aa6 (hc) ?_
 simp only[go_sem];exact bc1 rfl
theorem ck7 (fs:List (Nat×List IV))(vals:List Int)(hl:fs.length=vals.length)(hn:fs.length<2^40)(hb:∀ f∈fs,∀ c∈f.2,Bnd 0 c)
  (h:∀ i (h1:i<fs.length) (h2:i<vals.length),okF Tryz.prog fs[i].1=true/\PC Tryz.prog EE fs[i].1 fs[i].2 (.int .i64 vals[i])):PC Tryz.prog EE 122 [.aa3 (fs.map fnC)] (.int .i64 (orM vals)):=by
 refine ag3 hE fok122 (nZ rfl) (ae4 (.aa3 _ fun e he c hc=>?_)) ?_
 ·obtain ⟨f,hf,rfl⟩:=List.mem_map.1 he
  cases hc with
  | head=>exact .func _ _ _ (fun c hc=>by cases hc) (hb f hf)
  | tail _ h=>cases h
 simp only[ic122,go_sem];refine ab4 noT (fun i fr s=>fr=[(6,.aa3 (fs.map fnC)),(7,.int .i64 fs.length),(8,.int .i64 i)]/\orM vals=orM (vals.drop i)) fs.length ⟨rfl,rfl⟩ ?_;rintro i fr s hle ⟨rfl,hI⟩;by_cases hlt:i<fs.length
 ·obtain ⟨f,hf,hget0,hdr,hget,htk⟩:=af5 fs i hlt;have hlt2:i<vals.length:=by omega
  have c1:(i:Int)<fs.length:=by omega
  have c2:(0:Int)<=i:=by omega
  have w1:=ad4 (i:=i) (by omega);obtain ⟨k1,k2⟩:=h i hlt hlt2
  have hfi:fs[i]=f:=by
   have:=List.getElem?_eq_getElem hlt; rw[this] at hget0; exact Option.some.inj hget0
  rw[hfi] at k1 k2;rw[List.drop_eq_getElem_cons hlt2,orM] at hI;generalize vals[i]=x at *;simp only[go_sem,c1,c2,hget,fnC];refine ak5 k1 k2 ?_;by_cases hx:x=0
  ·subst hx;simp only[go_sem,w1];exact ⟨hlt,by simpa using hI⟩
  ·rw[if_neg hx] at hI;simp only[go_sem,hx];rw[hI]; exact ad8 _ _
 ·have hi':i=fs.length:=by omega
  subst hi';have c1:¬ (fs.length:Int)<fs.length:=by omega
  rw[hl,List.drop_length,orM] at hI;simp only[go_sem,c1];rw[hI]; exact ad8 _ _
theorem ci7 (o:ak1)(hO:OOK o){n m:Nat}(hn:n<o.a.l.length)(hm:m<o.a.l.length):PC Tryz.prog EE 65 [o.v,.int .i64 n,.int .i64 m] (.int .i64 (o.cmp n m)):=by
 refine ag3 hE fok65 (nZ rfl) (aw5 (ag7 o) (.int _ _) (.int _ _)) ?_;have hlen:=hO.a.len;have hpn:=dy9 o.a hn;have hpm:=dy9 o.a hm;have en:=(hO.a.small _ (List.getElem_mem hn)).1;have em:=(hO.a.small _ (List.getElem_mem hm)).1
 have hv:o.cmp n m=orM [am5 (ak1.ba4 (o.a.fits n)) (ak1.ba4 (o.a.fits m)),am5 (az4 o.a.r.an1 o.a.l[n].an1) (az4 o.a.r.an1 o.a.l[m].an1),am5 (o.prio m) (o.prio n),am5 (ak1.ba4 (o.lk n)) (ak1.ba4 (o.lk m)),ak8 o.a.l[m].evr o.a.l[n].evr,am5 n m]:=by
  unfold ak1.cmp Md.lex;rw[hpn,hpm];simp only[orM]
  repeat (first|rfl|split)
  all_goals simp_all
 have c1:=hw9 o n m;have c2:=hx8 o o.a.l[n] o.a.l[m];have c3:=hx9 o hn hm;have c4:=hy5 o hO hn hm;have c5:=hy6 o.a.l[n] o.a.l[m] en em;have c6:=hy7 n m;have b1:=ah2 (ag7 o);have b2:=ah2 (v:=.int .i64 n) (.int _ _);have b3:=ah2 (v:=.int .i64 m) (.int _ _);have b4:Bnd 0 (.ab6 o.a.l[n].cs):=.ab6 _ (ag9 _);have b5:Bnd 0 (.ab6 o.a.l[m].cs):=.ab6 _ (ag9 _)
 have hf:=ck7 [(131,[.ab6 [o.v],.ab6 [.int .i64 n],.ab6 [.int .i64 m]]),(133,[.ab6 [o.v],.ab6 o.a.l[n].cs,.ab6 o.a.l[m].cs]),(135,[.ab6 [o.v],.ab6 [.int .i64 m],.ab6 [.int .i64 n]]),(137,[.ab6 [o.v],.ab6 [.int .i64 n],.ab6 [.int .i64 m]]),(138,[.ab6 o.a.l[m].cs,.ab6 o.a.l[n].cs]),(139,[.ab6 [.int .i64 n],.ab6 [.int .i64 m]])]
  [am5 (ak1.ba4 (o.a.fits n)) (ak1.ba4 (o.a.fits m)),am5 (az4 o.a.r.an1 o.a.l[n].an1) (az4 o.a.r.an1 o.a.l[m].an1),am5 (o.prio m) (o.prio n),am5 (ak1.ba4 (o.lk n)) (ak1.ba4 (o.lk m)),ak8 o.a.l[m].evr o.a.l[n].evr,am5 n m] rfl (by simp)
  (fun f hf c hc=>by
   simp only[List.mem_cons,List.not_mem_nil,or_false] at hf;rcases hf with rfl|rfl|rfl|rfl|rfl|rfl
   ·exact aw5 b1 b2 b3 c hc
   ·exact aw5 b1 b4 b5 c hc
   ·exact aw5 b1 b3 b2 c hc
   ·exact aw5 b1 b2 b3 c hc
   ·exact ah6 b5 b4 c hc
   ·exact ah6 b2 b3 c hc)
  (fun i h1 h2=>by
   match i,h1 with
   | 0,_=>exact ⟨fok131.1,c1⟩
   | 1,_=>exact ⟨fok133.1,c2⟩
   | 2,_=>exact ⟨fok135.1,c3⟩
   | 3,_=>exact ⟨fok137.1,c4⟩
   | 4,_=>exact ⟨fok138.1,c5⟩
   | 5,_=>exact ⟨fok139.1,c6⟩
   | i+6,h=>simp at h; omega)
 rw[<- hv] at hf;have bo:=ag7 o;have hov:=do6 o;have d1:(n:Int)<o.a.l.length:=by omega
 have d2:(0:Int)<=n:=by omega
 have d3:(m:Int)<o.a.l.length:=by omega
 have d4:(0:Int)<=m:=by omega
 have g1:(o.a.l.map aa2.cs).getD n []=o.a.l[n].cs:=by simp[List.getD_eq_getElem?_getD,hn]
 have g2:(o.a.l.map aa2.cs).getD m []=o.a.l[m].cs:=by simp[List.getD_eq_getElem?_getD,hm]
 have olf:o.v.leaf=true:=rfl;have ocs:o.v.cs=[o.v]:=rfl;have onc:∀ (P:Prop),P->P:=fun _ h=>h
 simp only[ic65,go_sem,olf,ocs,hov,d1,d2,d3,d4,g1,g2,ag1,ag6,af1];rw[<- hov];generalize hS:Store.mk 18 _=S;have s14:S.obj 14=some (.cells o.a.l[n].cs):=by rw[<- hS]; simp only[aa4]; rfl
 have s15:S.obj 15=some (.cells o.a.l[m].cs):=by rw[<- hS]; simp only[aa4,if_true]
 have f14:=bp2 s14 (ag9 _);have f15:=bp2 s15 (ag9 _);have kf:∀ (g:Nat) (cs:List IV),(∀ c∈cs,Bnd 0 c)->cn4 S 0 (.func (.func g) [] cs) (.func (.func g) [] cs):=fun g cs h=>.keep _ (.func _ _ _ (fun c hc=>by cases hc) h)
 have hl1:∀ (x y:IV),[x].length=[y].length:=fun _ _=>rfl
 refine ac9 fok122 (bi4 hE (hl1 _ _) (fun i hi=>?_) (by simp[IV.plain]) hf) ?_
 ·match i,hi with
  | 0,_=>
   refine .aa3 _ _ rfl (fun i hi=>?_) fun i hi j hj=>?_
   ·match i,hi with
    | 0,_=>rfl
    | 1,_=>rfl
    | 2,_=>rfl
    | 3,_=>rfl
    | 4,_=>rfl
    | 5,_=>rfl
   ·match i,hi,j,hj with
    | 0,_,0,_=>exact kf _ _ (aw5 b1 b2 b3)
    | 1,_,0,_=>exact dh1 (.cons (.keep _ b1) (.cons f14 (.cons f15 .nil)))
    | 2,_,0,_=>exact kf _ _ (aw5 b1 b3 b2)
    | 3,_,0,_=>exact kf _ _ (aw5 b1 b2 b3)
    | 4,_,0,_=>exact dh1 (.cons f15 (.cons f14 .nil))
    | 5,_,0,_=>exact kf _ _ (ah6 b2 b3)
 rintro v w ⟨rfl,rfl⟩;refine ⟨Nat.le_refl _,?_⟩;simp only[go_sem];exact bc1 rfl
theorem bj9 (o:ak1)(hO:OOK o)(n m:Int):PC Tryz.prog EE 22 [o.v,.int .i64 n,.int .i64 m] (.bool (o.better n m)):=by
 refine ag3 hE fok22 (nZ rfl) (aw5 (ag7 o) (.int _ _) (.int _ _)) ?_;have h1:=by3 o n
 have h2:=by3 o m
 unfold ak1.better;simp only[ic22,go_sem]
 first|refine aa5 fok64 (h1) ?_|refine aa6 (h1) ?_
 cases e1:o.a.is n with
 | false=>simp only[go_sem]; exact ad9 rfl
 | true=>
  simp only[go_sem]
  first|refine aa5 fok64 (h2) ?_|refine aa6 (h2) ?_
  cases e2:o.a.is m with
  | false=>simp only[go_sem]; exact ad9 rfl
  | true=>
   obtain ⟨k,rfl,hk⟩:=cw3 e1;obtain ⟨j,rfl,hj⟩:=cw3 e2;have hc:=ci7 o hO hk hj;simp only[go_sem]
   first|refine aa5 fok65 (hc) ?_|refine aa6 (hc) ?_
   simp only[go_sem];exact ad9 rfl
open Go Go.Id Go.Proofs
section
variable {α:Type} [Inhabited α] (emb:α->Int)
def ej4 (d:Array α):List IV:=d.toList.map fun x=>.int .i64 (emb x)
theorem ax7 (d:Array α):(ej4 emb d).length=d.size:=by simp[ej4]
theorem hy8 {d:Array α}{k:Nat}(h:k<d.size):((ej4 emb d).drop k).head? = some (.int .i64 (emb d[k]!)):=by
 simp[ej4,List.head?_drop,h]
theorem er3 {d:Array α}{i:Nat}(h:i<(ej4 emb d).length):(ej4 emb d)[i]=.int .i64 (emb (d[i]'(by rw[ax7] at h; exact h))):=by simp[ej4]
theorem gt2 {d:Array α}{k:Nat}(h:k<d.size)(x:α):as6 (ej4 emb d) k [.int .i64 (emb x)]=ej4 emb (d.setIfInBounds k x):=by
 refine List.ext_getElem (by rw[af8 (by rw[ax7]; simp only[List.length_singleton]; omega),ax7,ax7,Array.size_setIfInBounds]) fun i h1 h2=>?_
 have h3:i<d.size:=by rw[ax7,Array.size_setIfInBounds] at h2; exact h2
 have e0:(ej4 emb (d.setIfInBounds k x))[i]=.int .i64 (emb (if k=i then x else d[i])):=by
  rw[er3]; congr 2; exact Array.getElem_setIfInBounds ..
 rw[e0];unfold as6;simp only[List.getElem_append,List.length_take,ax7,List.getElem_take,List.getElem_drop,List.length_append,List.length_singleton,er3];by_cases e:i=k
 ·subst e;have g1:¬ i<min i d.size:=by omega
  have g2:i<min i d.size+1:=by omega
  simp only[g1,g2,dite_false,dite_true,if_true,List.getElem_singleton]
 ·have e':¬ k=i:=fun h=>e h.symm
  by_cases e2:i<k
  ·have g1:i<min k d.size:=by omega
   have g2:i<min k d.size+1:=by omega
   simp only[g1,g2,dite_true,e',if_false]
  ·have g1:¬ i<min k d.size:=by omega
   have g2:¬ i<min k d.size+1:=by omega
   have g3:k+1+(i-(min k d.size+1))=i:=by omega
   simp only[g2,g3,dite_false,e',if_false]
theorem gt3 {a t vs:List IV}{k:Nat}(h:k+vs.length<=a.length):as6 (a++t) k vs=as6 a k vs++t:=by
 unfold as6;rw[List.take_append_of_le_length (by omega),List.drop_append_of_le_length h];simp only[List.append_assoc]
variable (tl:List IV)
def ax8 (d:Array α):List IV:=ej4 emb d++tl
theorem bp3 (d:Array α):(ax8 emb tl d).length=d.size+tl.length:=by rw[ax8,List.length_append,ax7]
theorem ai6 {d:Array α}{k:Nat}(h:k<d.size):((ax8 emb tl d).drop k).head? = some (.int .i64 (emb d[k]!)):=by
 rw[ax8,List.drop_append_of_le_length (by rw[ax7]; omega),List.head?_append,hy8 emb h]; rfl
theorem er4 {d:Array α}{k:Nat}(h:k<d.size)(x:α):as6 (ax8 emb tl d) k [.int .i64 (emb x)]=ax8 emb tl (d.setIfInBounds k x):=by
 rw[ax8,gt3 (by rw[ax7,List.length_singleton]; omega),gt2 emb h,ax8]
theorem er5 {d:Array α}{i j:Nat}(hi:i<d.size)(hj:j<d.size):as6 (as6 (ax8 emb tl d) i [.int .i64 (emb d[j]!)]) j [.int .i64 (emb d[i]!)]=ax8 emb tl (Go.Sort.swp d i j):=by
 rw[er4 emb tl hi,er4 emb tl (by rw[Array.size_setIfInBounds]; exact hj)]; rfl
theorem swp_size (d:Array α)(i j:Nat):(Go.Sort.swp d i j).size=d.size:=by simp[Go.Sort.swp]
structure SO (id:Nat) (d':Array α) (σ s:Store):Prop where
 next:σ.next<=s.next
 other:∀ i,i≠id->s.obj i=σ.obj i
 row:s.obj id=some (.row (ax8 emb tl d'))
variable {cf:α->α->Int} {g:Nat} {first cap:List IV} {id:Nat}
structure bp9 (cf:α->α->Int) (g:Nat) (first cap:List IV):Prop where
 ok:okF Tryz.prog g=true
 pc:∀ x y:α,PC Tryz.prog EE g (first++[.int .i64 (emb x),.int .i64 (emb y)]++cap) (.int .i64 (cf x y))
theorem dz1 (hC:bp9 emb cf g first cap){σ:Store}(d:Array α)(a b:Nat)(hab:a<=b)(hb:b<=d.size)(hz:d.size<2^40)(ho:σ.obj id=some (.row (ax8 emb tl d))) :
  C Tryz.prog EE 150 [.slice id 0 d.size 1,.int .i64 a,.int .i64 b,.func (.func g) first cap] σ fun v s=>v=.tuple []/\SO emb tl id (Go.Sort.insertionSort (ltOf cf) d a b) σ s:=by
 refine C_f fok150 (nZ rfl) ?_;have w0:=ad4 (i:=a) (by omega);simp only[ic150,go_sem,w0];refine ab4 noT (fun k fr t=>∃ dk:Array α,fr=[(0,.slice id 0 d.size 1),(1,.int .i64 a),(2,.int .i64 b),(3,.func (.func g) first cap),(8,.int .i64 ((a+1+k:Nat):Int))]/\SO emb tl id dk σ t/\dk.size=d.size/\Go.Sort.insOuter (ltOf cf) a b (a+1+k) dk=Go.Sort.insertionSort (ltOf cf) d a b) (b-(a+1)) ⟨d,rfl,⟨Nat.le_refl _,fun _ _=>rfl,ho⟩,rfl,rfl⟩ ?_;rintro k fr t hk ⟨dk,rfl,hS,hsz,hI⟩;by_cases hlt:a+1+k<b
 ·have c1:((a+1+k:Nat):Int)<b:=by omega
  have w1:=ad4 (i:=a+1+k) (by omega);rw[Go.Sort.insOuter,if_pos hlt] at hI;simp only[go_sem,c1];refine ab4 noT (fun m fr u=>∃ (j:Nat) (dj:Array α),fr=[(0,.slice id 0 d.size 1),(1,.int .i64 a),(2,.int .i64 b),(3,.func (.func g) first cap),(8,.int .i64 ((a+1+k:Nat):Int)),(9,.int .i64 (j:Int))]/\j+m=a+1+k/\SO emb tl id dj σ u/\dj.size=d.size/\Go.Sort.insInner (ltOf cf) a j dj=Go.Sort.insInner (ltOf cf) a (a+1+k) dk) (a+1+k) ⟨a+1+k,dk,rfl,rfl,?_,hsz,rfl⟩ ?_
  ·exact ⟨hS.next,hS.other,hS.row⟩
  rintro m fr u hm ⟨j,dj,rfl,hj,hSj,hszj,hIj⟩;by_cases hja:a<j
  ·obtain ⟨j',rfl⟩:∃ j',j=j'+1:=⟨j-1,by omega⟩;have d1:(a:Int)<((j'+1:Nat):Int):=by omega
   have d2:IntKind.i64.wrap (((j'+1:Nat):Int)-1)=(j':Int):=by rw[wrap64 (by omega) (by omega)]; omega
   have d3:(0:Int)<=((j'+1:Nat):Int):=by omega
   have d4:((j'+1:Nat):Int)<d.size:=by omega
   have d5:(0:Int)<=(j':Int):=by omega
   have d6:(j':Int)<d.size:=by omega
   have r1:=ai6 emb tl (d:=dj) (k:=j'+1) (by omega);have r2:=ai6 emb tl (d:=dj) (k:=j') (by omega);have hc:=hC.pc dj[j'+1]! dj[j']!;rw[Go.Sort.insInner] at hIj;have hgt:decide (j'+1>a)=true:=decide_eq_true hja;rw[hgt,Bool.true_and] at hIj;simp only[go_sem,d1,d2,d3,d4,d5,d6,hSj.row,r1,r2,Int.toNat_natCast,Nat.zero_add,Nat.mul_one];refine ak5 hC.ok hc ?_;by_cases hcf:cf dj[j'+1]! dj[j']! < 0
   ·have hlt2:ltOf cf dj[j'+1]! dj[j']! = true:=decide_eq_true hcf;rw[if_pos hlt2] at hIj;have hsw:=er5 emb tl (d:=dj) (i:=j'+1) (j:=j') (by omega) (by omega);have r3:j'+1+1<=(ax8 emb tl dj).length:=by rw[bp3]; omega
    have r4:j'+1<=(as6 (ax8 emb tl dj) (j'+1) [.int .i64 (emb dj[j']!)]).length:=by rw[af8 (by rw[bp3]; simp only[List.length_singleton]; omega),bp3]; omega
    simp only[go_sem,hcf,d2,d3,d4,d5,d6,hSj.row,r1,r2,r3,r4,hsw,Int.toNat_natCast,Nat.zero_add,Nat.mul_one];refine ⟨by omega,j',Go.Sort.swp dj (j'+1) j',rfl,by omega,⟨?_,fun i hi=>?_,?_⟩,by rw[swp_size]; exact hszj,hIj⟩
    ·have:=hSj.next; simp only[aa9]; omega
    ·simp only[aa4,hi,if_false]; exact hSj.other i hi
    ·simp only[aa4,if_true]
   ·have hlt2:¬ ltOf cf dj[j'+1]! dj[j']! = true:=by unfold ltOf; simp[hcf]
    rw[if_neg hlt2] at hIj;simp only[go_sem,hcf,w1];refine ⟨by omega,dj,rfl,⟨?_,hSj.other,hSj.row⟩,hszj,?_⟩
    ·have:=hSj.next; show σ.next<=u.next+_; omega
    ·rw[<- hI,<- hIj];exact congrArg (fun n=>Go.Sort.insOuter (ltOf cf) a b n dj) (by omega)
  ·have d1:¬ (a:Int)<(j:Int):=by omega
   have hd:dj=Go.Sort.insInner (ltOf cf) a (a+1+k) dk:=by
    rw[<- hIj]
    cases j with
    | zero=>rfl
    | succ j'=>
     rw[Go.Sort.insInner];have:decide (j'+1>a)=false:=decide_eq_false hja;rw[this]; rfl
   simp only[go_sem,d1,w1];refine ⟨by omega,dj,rfl,⟨?_,hSj.other,hSj.row⟩,hszj,?_⟩
   ·have:=hSj.next; show σ.next<=u.next+_; omega
   ·rw[<- hI,hd];exact congrArg (fun n=>Go.Sort.insOuter (ltOf cf) a b n _) (by omega)
 ·have c1:¬ ((a+1+k:Nat):Int)<b:=by omega
  rw[Go.Sort.insOuter,if_neg hlt] at hI;simp only[go_sem,c1];rw[<- hI];exact ⟨hS.next,hS.other,hS.row⟩
end
section
variable {α:Type} [Inhabited α] (emb:α->Int) (tl:List IV) {cf:α->α->Int} {g:Nat} {first cap:List IV} {id:Nat}
theorem SO.trans {d d':Array α}{σ s t:Store}(h:SO emb tl id d σ s)(h2:SO emb tl id d' s t):SO emb tl id d' σ t :=
 ⟨Nat.le_trans h.next h2.next,fun i hi=>by rw[h2.other i hi,h.other i hi],h2.row⟩
theorem fj7 (hC:bp9 emb cf g first cap){σ:Store}(d:Array α)(lim:Int)(hz:d.size<=12)(ho:σ.obj id=some (.row (ax8 emb tl d))) :
  C Tryz.prog EE 71 [.slice id 0 d.size 1,.int .i64 0,.int .i64 d.size,.int .i64 lim,.func (.func g) first cap] σ fun v s=>v=.tuple []/\SO emb tl id (Go.Sort.insertionSort (ltOf cf) d 0 d.size) σ s:=by
 refine C_f fok71 (nZ rfl) ?_;have w0:IntKind.i64.wrap ((d.size:Int)-0)=d.size:=by rw[wrap64 (by omega) (by omega)]; omega
 have c1:(d.size:Int)<=12:=by omega
 simp only[ic71,go_sem];refine ab4 noT (fun k fr t=>k=0/\fr=[(0,.slice id 0 d.size 1),(1,.int .i64 0),(2,.int .i64 d.size),(3,.int .i64 lim),(4,.func (.func g) first cap),(10,.bool true),(11,.bool true)]/\t.obj=σ.obj/\σ.next<=t.next) 0 ⟨rfl,rfl,rfl,Nat.le_refl _⟩ ?_;rintro k fr t _ ⟨rfl,rfl,hto,htn⟩;simp only[go_sem,w0,c1];refine ac9 fok150 (dz1 emb tl hC d 0 d.size (Nat.zero_le _) (Nat.le_refl _) (by omega) (by rw[hto]; exact ho)) ?_;rintro v s ⟨rfl,hs⟩;refine ⟨hs.next,?_⟩;simp only[go_sem];exact ⟨Nat.le_trans htn hs.next,fun i hi=>by rw[hs.other i hi,hto],hs.row⟩
theorem ej5 (hC:bp9 emb cf g first cap){σ:Store}(d:Array α)(hz:d.size<=12)(L:Int)(hL:PC Tryz.prog EE 72 [.int .u64 d.size] (.int .i64 L))(ho:σ.obj id=some (.row (ax8 emb tl d))) :
  C Tryz.prog EE 31 [.slice id 0 d.size 1,.func (.func g) first cap] σ fun v s=>v=.tuple []/\SO emb tl id (Go.Sort.insertionSort (ltOf cf) d 0 d.size) σ s:=by
 refine C_f fok31 (nZ rfl) ?_
 have w0:IntKind.u64.wrap (d.size:Int)=d.size:=by
  show (d.size:Int)%18446744073709551616=d.size;omega
 simp only[ic31,go_sem,w0];refine aa5 fok72 hL ?_;simp only[go_sem];refine ac9 fok71 (fj7 emb tl hC d L hz ho) ?_;rintro v s ⟨rfl,hs⟩;refine ⟨hs.next,?_⟩;simp only[go_sem];exact hs
end
theorem hy9:PC Tryz.prog EE 72 [.int .u64 0] (.int .i64 0):=by
 have h:PC Tryz.prog EE 159 [.int .u64 0] (.int .i64 0):=by
  refine ap7 fok159 (nZ rfl) fun σ=>?_
  simp only[ic159,go_sem];show ex3 (some (IV.int .u8 0)) σ _;have w1:IntKind.i64.wrap 0=0:=by decide
  have w2:IntKind.i64.wrap (0+0)=0:=by decide
  simp only[go_sem,w1,w2,and_self]
 refine ap7 fok72 (nZ rfl) fun σ=>?_
 simp only[ic72,go_sem];refine aa5 fok159 h ?_;simp only[go_sem,and_self]
theorem hz4:PC Tryz.prog EE 72 [.int .u64 1] (.int .i64 1):=by
 have h:PC Tryz.prog EE 159 [.int .u64 1] (.int .i64 1):=by
  refine ap7 fok159 (nZ rfl) fun σ=>?_
  simp only[ic159,go_sem];show ex3 (some (IV.int .u8 1)) σ _;have w1:IntKind.i64.wrap 1=1:=by decide
  have w2:IntKind.i64.wrap (0+1)=1:=by decide
  simp only[go_sem,w1,w2,and_self]
 refine ap7 fok72 (nZ rfl) fun σ=>?_
 simp only[ic72,go_sem];refine aa5 fok159 h ?_;simp only[go_sem,and_self]
theorem hz5:PC Tryz.prog EE 72 [.int .u64 2] (.int .i64 2):=by
 have h:PC Tryz.prog EE 159 [.int .u64 2] (.int .i64 2):=by
  refine ap7 fok159 (nZ rfl) fun σ=>?_
  simp only[ic159,go_sem];show ex3 (some (IV.int .u8 2)) σ _;have w1:IntKind.i64.wrap 2=2:=by decide
  have w2:IntKind.i64.wrap (0+2)=2:=by decide
  simp only[go_sem,w1,w2,and_self]
 refine ap7 fok72 (nZ rfl) fun σ=>?_
 simp only[ic72,go_sem];refine aa5 fok159 h ?_;simp only[go_sem,and_self]
theorem hz6:PC Tryz.prog EE 72 [.int .u64 3] (.int .i64 2):=by
 have h:PC Tryz.prog EE 159 [.int .u64 3] (.int .i64 2):=by
  refine ap7 fok159 (nZ rfl) fun σ=>?_
  simp only[ic159,go_sem];show ex3 (some (IV.int .u8 2)) σ _;have w1:IntKind.i64.wrap 2=2:=by decide
  have w2:IntKind.i64.wrap (0+2)=2:=by decide
  simp only[go_sem,w1,w2,and_self]
 refine ap7 fok72 (nZ rfl) fun σ=>?_
 simp only[ic72,go_sem];refine aa5 fok159 h ?_;simp only[go_sem,and_self]
theorem hz7:PC Tryz.prog EE 72 [.int .u64 4] (.int .i64 3):=by
 have h:PC Tryz.prog EE 159 [.int .u64 4] (.int .i64 3):=by
  refine ap7 fok159 (nZ rfl) fun σ=>?_
  simp only[ic159,go_sem];show ex3 (some (IV.int .u8 3)) σ _;have w1:IntKind.i64.wrap 3=3:=by decide
  have w2:IntKind.i64.wrap (0+3)=3:=by decide
  simp only[go_sem,w1,w2,and_self]
 refine ap7 fok72 (nZ rfl) fun σ=>?_
 simp only[ic72,go_sem];refine aa5 fok159 h ?_;simp only[go_sem,and_self]
theorem hz8:PC Tryz.prog EE 72 [.int .u64 5] (.int .i64 3):=by
 have h:PC Tryz.prog EE 159 [.int .u64 5] (.int .i64 3):=by
  refine ap7 fok159 (nZ rfl) fun σ=>?_
  simp only[ic159,go_sem];show ex3 (some (IV.int .u8 3)) σ _;have w1:IntKind.i64.wrap 3=3:=by decide
  have w2:IntKind.i64.wrap (0+3)=3:=by decide
  simp only[go_sem,w1,w2,and_self]
 refine ap7 fok72 (nZ rfl) fun σ=>?_
 simp only[ic72,go_sem];refine aa5 fok159 h ?_;simp only[go_sem,and_self]
theorem hz9 (k:Nat)(hk:k<=5):∃ L:Int,PC Tryz.prog EE 72 [.int .u64 k] (.int .i64 L):=by
 match k,hk with
 | 0,_=>exact ⟨_,hy9⟩
 | 1,_=>exact ⟨_,hz4⟩
 | 2,_=>exact ⟨_,hz5⟩
 | 3,_=>exact ⟨_,hz6⟩
 | 4,_=>exact ⟨_,hz7⟩
 | 5,_=>exact ⟨_,hz8⟩
end Go.Id.Tryz
