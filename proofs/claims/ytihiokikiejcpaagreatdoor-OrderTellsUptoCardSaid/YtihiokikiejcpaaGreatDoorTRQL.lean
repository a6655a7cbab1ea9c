/- What a package may offer; numbers that a list has. Conditions: sizes that fit. -/
import Derived.Test.YtihiokikiejcpaaGreatDoorTRQC
import Derived.Test.YtihiokikiejcpaaGreatDoorMb
import Derived.Test.YtihiokikiejcpaaGreatDoorTRPE
import Derived.Test.YtihiokikiejcpaaGreatDoorFwZb
import Derived.Test.YtihiokikiejcpaaGreatDoorTRPB
set_option linter.all false
namespace Go.Id.Tryz
open Go Go.Id Go.Proofs Go.Id.Md
theorem hl9 (nm:Nms):Bnd 0 (.al4 (nmV nm)):=by
 refine .al4 _ (fun e he=>?_) (fun e he=>?_)<;>(simp only[nmV,List.mem_map] at he; obtain ⟨t,_,rfl⟩:=he)
 ·exact .str _
 ·refine .aa3 _ fun x hx c hc=>?_
  obtain ⟨n,_,rfl⟩:=List.mem_map.1 hx
  cases hc with
  | head=>exact .int _ _
  | tail _ h=>cases h
theorem gm7 (l:List bb9):Bnd 0 (.aa3 (l.map bb9.cs)):=.aa3 _ fun e he c hc=>by
 obtain ⟨r,_,rfl⟩:=List.mem_map.1 he; exact ej1 r c hc
theorem bv4 (p:Pool):Bnd 0 p.v:=.ad4 _ fun c hc=>by
 simp only[List.mem_cons,List.not_mem_nil,or_false] at hc;rcases hc with rfl|rfl|rfl
 ·exact gm7 _
 ·exact .int _ _
 ·exact hl9 _
theorem ds2 (l:List bb9)(n:Int):PC Tryz.prog EE 44 [.aa3 (l.map bb9.cs),.int .i64 n] (.bool (decide (0<=n)&&decide (n<l.length))):=by
 refine av1 fok44 (nZ rfl) fun σ=>?_
 by_cases h:0<=n
 ·simp only[ic44,go_sem,h,and_self]
 ·simp only[ic44,go_sem,h,and_self]
theorem ds4 (p:Pool):PC Tryz.prog EE 14 [p.v] (.int .i64 p.rows.length):=by
 refine av1 fok14 (nZ rfl) fun σ=>?_
 simp only[ic14,go_sem,Pool.v,and_self]
theorem gm8 (r:bb9):r.cs.take 15=r.pkg.cs:=rfl
theorem cr9 (p:Pool)(n:Nat)(h:n<p.rows.length)(hf:p.rows[n].pkg.Fit):PC Tryz.prog EE 24 [p.v,.int .i64 n] (.tuple [.agg p.rows[n].pkg.cs,.int .i64 0]):=by
 refine ao4 hE fok24 (nZ rfl) (an3 (bv4 p) (.int _ _)) ?_;have c1:(n:Int)<p.rows.length:=by omega
 have c2:(0:Int)<=n:=by omega
 have hg:(p.rows.map bb9.cs).getD n []=p.rows[n].cs:=by simp[List.getD_eq_getElem?_getD,h]
 have h15:∀ r:bb9,(15<=r.cs.length)=True:=fun r=>by rw[bn2]; simp
 simp only[ic24,go_sem,Pool.v];refine aa5 fok44 (ds2 p.rows n) ?_;simp only[go_sem,c1,c2,hg,bn2,gm8];refine aa5 fok30 (dc3 _ hf) ?_;simp only[go_sem,al9,aj7,ah2];exact .keep _ (.tuple _ (an3 (av7 _) (.int _ _)))
structure MS (s:Store) (tag:Nat->Nat) (c mid:Nat) (L:NmL) (B:Nat):Prop where
 map:s.obj mid=some (.map (mEs L))
 row:∀ t∈L,s.obj t.2.2=some (.row (t.2.1.map Md.af9).flatten)/\t.2.2<s.next/\t.2.1.length<=B
 fu8:∀ t∈L,tag t.2.2=c
 ids:(L.map (·.2.2)).Nodup
 keys:(L.map (·.1)).Nodup
 lt:mid<s.next
 hq6:tag mid=c
theorem MS.keep {s s':Store}{tag tag':Nat->Nat}{c mid:Nat}{L:NmL}{B B':Nat}(h:MS s tag c mid L B)(hB:B<=B')(hn:s.next<=s'.next)(ho:∀ i,i<s.next->tag i=c->s'.obj i=s.obj i)(ht:∀ i,i<s.next->tag' i=tag i):MS s' tag' c mid L B' where
 map:=by rw[ho _ h.lt h.hq6]; exact h.map
 row:=fun t m=>⟨by rw[ho _ (h.row t m).2.1 (h.fu8 t m)]; exact (h.row t m).1,by have:=(h.row t m).2.1; omega,by have:=(h.row t m).2.2; omega⟩
 fu8:=fun t m=>by rw[ht _ (h.row t m).2.1]; exact h.fu8 t m
 ids:=h.ids
 keys:=h.keys
 lt:=by have:=h.lt; omega
 hq6:=by rw[ht _ h.lt]; exact h.hq6
def hq5 (tag:Nat->Nat)(c nid:Nat):Nat->Nat:=fun i=>if i=nid then c else tag i
theorem cf6 {tag:Nat->Nat}{c nid n:Nat}(h:n<=nid):∀ i,i<n->hq5 tag c nid i=tag i:=fun i hi=>by
 unfold hq5; rw[if_neg (by omega)]
theorem MS.cur {s:Store}{tag:Nat->Nat}{c mid:Nat}{L:NmL}{B:Nat}(h:MS s tag c mid L B)(k:Str)(m:Nat)(hm:s.next<=m):Grow ⟨m,s.obj⟩ (dg2 L k) 1 ((db3 L k).map Md.af9)/\(db3 L k).length<=B:=by
 rcases bt5 L k with ⟨h1,h2⟩|⟨t,ht,_,h1,h2⟩
 ·rw[h1,h2]; exact ⟨.inl ⟨rfl,rfl⟩,Nat.zero_le _⟩
 ·rw[h1,h2]; exact ⟨.inr ⟨t.2.2,by rw[List.length_map],(h.row t ht).1,by have:=(h.row t ht).2.1; show t.2.2<m; omega⟩,(h.row t ht).2.2⟩
theorem MS.upd {s:Store}{tag:Nat->Nat}{c mid:Nat}{L:NmL}{B:Nat}(h:MS s tag c mid L B)(k:Str)(n:Int)(m nid:Nat)(hm:s.next<=m)(hnew:s.next<=nid)(hb:B<2^30) :
  ∃ s1,an5 ⟨m,s.obj⟩ nid 1 (dg2 L k) (.aa3 [[.int .i64 n]])=some (.slice nid 0 ((db3 L k).length+1) 1,s1)/\s1.next=m/\s1.obj mid=some (.map (mEs L))/\(∀ i o,i<s.next->s.obj i=some o->(∀ cs,o≠.row cs)->s1.obj i=some o) /\
   ∀ nx,nid<nx->MS ⟨nx,(s1.put mid (.map (mEs (cg8 L k n nid)))).obj⟩ (hq5 tag c nid) c mid (cg8 L k n nid) (B+1)/\∀ i,i<s.next->tag i≠c->(s1.put mid (.map (mEs (cg8 L k n nid)))).obj i=s.obj i:=by
 obtain ⟨hg,hlen⟩:=h.cur k m hm;have hap:=aj6 (nid:=nid) (e:=[.int .i64 n]) hg (di4 _) ⟨rfl,rfl⟩ (by rw[List.length_map]; omega);rw[List.length_map] at hap;have hlt:=h.lt;have hmid:¬ mid=nid:=by omega
 have kother:∀ i,(∀ t∈L,t.1=k->t.2.2≠i)->(ad7 (dg2 L k) ⟨m,s.obj⟩).obj i=s.obj i:=by
  intro i hne;rcases bt5 L k with ⟨h1,_⟩|⟨t,ht,hk,h1,_⟩
  ·rw[h1]; rfl
  ·rw[h1];show (if i=t.2.2 then none else s.obj i)=_;rw[if_neg (fun e=>hne t ht hk e.symm)]
 have hrow_ne_mid:∀ i cs,s.obj i=some (.row cs)->¬ i=mid:=fun i cs hi e=>by subst e; rw[h.map] at hi; cases hi
 refine ⟨_,hap,by rw[aa6,ac1],?_,?_,fun nx hnx=>⟨?_,?_⟩⟩
 ·rw[aa2,if_neg hmid]; exact af7 hg mid _ h.map (fun _ e=>by cases e)
 ·intro i o hi ho hr;rw[aa2,if_neg (by omega)]; exact af7 hg i _ ho hr
 ·exact {
   map:=by
    show (if mid=mid then _ else _)=_;rw[if_pos rfl]
   row:=by
    intro t ht;rcases dg3 h.keys t ht with ⟨h1,h2⟩|rfl
    ·obtain ⟨r1,r2,r3⟩:=h.row t h1;refine ⟨?_,by show t.2.2<nx; omega,by omega⟩;show (if t.2.2=mid then _ else if t.2.2=nid then _ else (ad7 (dg2 L k) ⟨m,s.obj⟩).obj t.2.2)=_;rw[if_neg (hrow_ne_mid _ _ r1),if_neg (by omega),kother _ fun u hu hk e=>h2 (by rw[<- fo6 h.keys h.ids u hu t h1 e]; exact hk)];exact r1
    ·refine ⟨?_,hnx,?_⟩
     ·show (if nid=mid then _ else if nid=nid then _ else _)=_;rw[if_neg (fun e=>hmid e.symm),if_pos rfl,List.map_append];rfl
     ·show (db3 L k++[n]).length<=B+1;rw[List.length_append]; simp; exact hlen
   fu8:=by
    intro t ht;rcases dg3 h.keys t ht with ⟨h1,h2⟩|rfl
    ·rw[cf6 hnew _ (h.row t h1).2.1]; exact h.fu8 t h1
    ·unfold hq5; rw[if_pos rfl]
   ids:=(fo5 L h.ids (fun hm=>by
    obtain ⟨t,ht,e⟩:=List.mem_map.1 hm;have:=(h.row t ht).2.1;have e':t.2.2=nid:=e;omega)).1
   keys:=(ef3 L h.keys).1
   lt:=by show mid<nx; omega
   hq6:=by rw[cf6 hnew _ h.lt]; exact h.hq6 }
 ·intro i hi hc;show (if i=mid then _ else if i=nid then _ else (ad7 (dg2 L k) ⟨m,s.obj⟩).obj i)=_;rw[if_neg (fun e=>hc (by rw[e]; exact h.hq6)),if_neg (by omega),kother _ fun t ht _ e=>hc (by rw[<- e]; exact h.fu8 t ht)]
theorem MS.frz {s:Store}{tag:Nat->Nat}{c mid:Nat}{L:NmL}{B:Nat}(h:MS s tag c mid L B){nm:Nms}(hp:(cd9 L).Perm nm):dk5 s 0 (.map mid) (.al4 (nmV nm)):=by
 have hat:∀ i,i<(mEs L).length->∃ t∈L,(mEs L).getD i (.undef,.undef)=(.str t.1,.slice t.2.2 0 t.2.1.length 1)/\(nmV (cd9 L)).getD i (.undef,.undef)=(.str t.1,.aa3 (t.2.1.map Md.af9)):=by
  intro i hi;have hi':i<L.length:=by simpa [mEs] using hi
  exact ⟨L[i],List.getElem_mem hi',by simp[mEs,List.getD_eq_getElem?_getD,hi'],by simp[nmV,cd9,List.getD_eq_getElem?_getD,hi']⟩
 have hkn:KN nm:=KN.perm (nm:=cd9 L) (by show ((cd9 L).map (·.1)).Nodup; unfold cd9; rw[List.map_map]; exact h.keys) hp;refine .map mid (mEs L) (nmV (cd9 L)) (nmV nm) (Nat.not_lt_zero _) h.map (by simp[nmV,cd9,mEs]) (hp.map _) ⟨?_,.str,fun e he=>?_⟩ (fun i hi=>?_) (fun i hi=>?_)
 ·have:(nmV nm).map (·.1)=(nm.map (·.1)).map IV.str:=by simp[nmV]
  rw[this];exact List.Pairwise.map _ (fun a b hab e=>hab (by cases e; rfl)) hkn
 ·simp only[nmV,List.mem_map] at he;obtain ⟨t,_,rfl⟩:=he;trivial
 ·obtain ⟨t,ht,e1,e2⟩:=hat i hi;rw[e1,e2]; exact bd3 _
 ·obtain ⟨t,ht,e1,e2⟩:=hat i hi;rw[e1,e2];obtain ⟨r1,r2,_⟩:=h.row t ht;have hg:Grow s (.slice t.2.2 0 t.2.1.length 1) 1 (t.2.1.map Md.af9):=.inr ⟨t.2.2,by rw[List.length_map],r1,r2⟩;refine hg.frz (fun x hx=>(di4 _ x hx).1) (fun _ _=>Nat.not_lt_zero _) fun e he c hc=>?_
  obtain ⟨n,_,rfl⟩:=List.mem_map.1 he
  cases hc with
  | head=>exact .int _ _
  | tail _ h=>cases h
structure IS (s:Store) (pp m1 m2 m3:Nat) (all:List aa4) (rv:IV) (L1 L2 L3:NmL) (tag:Nat->Nat) (B:Nat):Prop where
 cell:s.obj pp=some (.cells [rv,.map m1,.map m2,.map m3])
 ltp:pp<s.next
 grow:Grow s rv 15 (all.map aa4.cs)
 fu8:∀ id n,rv=.slice id 0 n 15->tag id=0
 m1:MS s tag 1 m1 L1 B
 m2:MS s tag 2 m2 L2 B
 m3:MS s tag 3 m3 L3 B
 ih6:tag pp=4
theorem IS.mono {s s':Store}{pp m1 m2 m3:Nat}{all:List aa4}{rv:IV}{L1 L2 L3:NmL}{tag:Nat->Nat}{B B':Nat}(h:IS s pp m1 m2 m3 all rv L1 L2 L3 tag B)(hB:B<=B')(hn:s.next<=s'.next)(ho:∀ i,i<s.next->s'.obj i=s.obj i):IS s' pp m1 m2 m3 all rv L1 L2 L3 tag B' where
 cell:=by rw[ho _ h.ltp]; exact h.cell
 ltp:=by have:=h.ltp; omega
 grow:=h.grow.mono hn fun id _ hid=>ho id hid
 fu8:=h.fu8
 m1:=h.m1.keep hB hn (fun i hi _=>ho i hi) fun _ _=>rfl
 m2:=h.m2.keep hB hn (fun i hi _=>ho i hi) fun _ _=>rfl
 m3:=h.m3.keep hB hn (fun i hi _=>ho i hi) fun _ _=>rfl
 ih6:=h.ih6
theorem cf7 (l:List aa4):∀ e∈l.map aa4.cs,e.length=15/\e.all IV.leaf=true:=fun e he=>by
 obtain ⟨x,_,rfl⟩:=List.mem_map.1 he;exact ⟨al9 x,ah2 x⟩
theorem IS.push {s:Store}{pp m1 m2 m3:Nat}{all:List aa4}{rv:IV}{L1 L2 L3:NmL}{tag:Nat->Nat}{B:Nat}(h:IS s pp m1 m2 m3 all rv L1 L2 L3 tag B)(x:aa4)(m nid:Nat)(hm:s.next<=m)(hnew:s.next<=nid)(hb:all.length<2^30) :
  ∃ s1,an5 ⟨m,s.obj⟩ nid 15 rv (.aa3 [x.cs])=some (.slice nid 0 (all.length+1) 15,s1)/\s1.next=m/\s1.obj pp=s.obj pp/\(∀ i o,i<s.next->s.obj i=some o->(∀ cs,o≠.row cs)->s1.obj i=some o) /\
   ∀ nx,nid<nx->IS ⟨nx,(s1.put pp (.cells [.slice nid 0 (all.length+1) 15,.map m1,.map m2,.map m3])).obj⟩ pp m1 m2 m3 (all++[x]) (.slice nid 0 (all.length+1) 15) L1 L2 L3 (hq5 tag 0 nid) B:=by
 have hg:Grow ⟨m,s.obj⟩ rv 15 (all.map aa4.cs):=Grow.mono (σ:=s) h.grow hm fun _ _ _=>rfl
 have hap:=aj6 (nid:=nid) (e:=x.cs) hg (cf7 all) ⟨al9 x,ah2 x⟩ (by rw[List.length_map]; omega);rw[List.length_map] at hap;have hlt:=h.ltp;have hpp:¬ pp=nid:=by omega
 have kp:=af7 hg pp _ h.cell (fun _ e=>by cases e)
 have kk:∀ i,i<s.next->tag i≠0->tag i≠4->((ad7 rv ⟨m,s.obj⟩).put nid (.row (all.map aa4.cs++[x.cs]).flatten) |>.put pp (.cells [.slice nid 0 (all.length+1) 15,.map m1,.map m2,.map m3])).obj i=s.obj i:=by
  intro i hi h0 h4;show (if i=pp then _ else if i=nid then _ else (ad7 rv ⟨m,s.obj⟩).obj i)=_;rw[if_neg (fun e=>h4 (by rw[e]; exact h.ih6)),if_neg (by omega)];rcases h.grow with ⟨hv,_⟩|⟨id,hv,ho,hl⟩
  ·rw[hv]; rfl
  ·have ht:=h.fu8 id _ hv;rw[hv];show (if i=id then none else s.obj i)=_;rw[if_neg (fun e=>h0 (by rw[e]; exact ht))]
 refine ⟨_,hap,by rw[aa6,ac1],by rw[aa2,if_neg hpp,kp,h.cell],?_,fun nx hnx=>?_⟩
 ·intro i o hi ho hr;rw[aa2,if_neg (by omega)]; exact af7 hg i _ ho hr
 ·exact {
   cell:=by
    show (if pp=pp then _ else _)=_;rw[if_pos rfl]
   ltp:=by show pp<nx; omega
   grow:=by
    refine .inr ⟨nid,by rw[List.map_append,List.length_append,List.length_map]; rfl,?_,hnx⟩;show (if nid=pp then _ else if nid=nid then _ else _)=_;rw[if_neg (fun e=>hpp e.symm),if_pos rfl,List.map_append]; rfl
   fu8:=fun id n hv=>by cases hv; unfold hq5; rw[if_pos rfl]
   m1:=h.m1.keep (Nat.le_refl _) (by show s.next<=nx; omega) (fun i hi e=>kk i hi (by rw[e]; decide) (by rw[e]; decide)) (cf6 hnew)
   m2:=h.m2.keep (Nat.le_refl _) (by show s.next<=nx; omega) (fun i hi e=>kk i hi (by rw[e]; decide) (by rw[e]; decide)) (cf6 hnew)
   m3:=h.m3.keep (Nat.le_refl _) (by show s.next<=nx; omega) (fun i hi e=>kk i hi (by rw[e]; decide) (by rw[e]; decide)) (cf6 hnew)
   ih6:=by rw[cf6 hnew _ h.ltp]; exact h.ih6 }
theorem IS.frz {s:Store}{pp m1 m2 m3:Nat}{all:List aa4}{rv:IV}{L1 L2 L3:NmL}{tag:Nat->Nat}{B:Nat}(h:IS s pp m1 m2 m3 all rv L1 L2 L3 tag B){x:Index}(h0:x.all=all)(h1:(cd9 L1).Perm x.bp7)(h2:(cd9 L2).Perm x.names)(h3:(cd9 L3).Perm x.over):dk5 s 0 (.ptr pp 0) x.v:=by
 subst h0;refine .ptr pp 0 _ _ (Nat.not_lt_zero _) (.inl h.cell) (Nat.le_refl _) fun j hj=>?_
 have hj3:j=0\/j=1\/j=2\/j=3:=by simp only[List.length_cons,List.length_nil] at hj; omega
 rcases hj3 with rfl|rfl|rfl|rfl
 ·refine h.grow.frz (fun x hx=>(cf7 _ x hx).1) (fun _ _=>Nat.not_lt_zero _) fun e he c hc=>?_
  obtain ⟨r,_,rfl⟩:=List.mem_map.1 he;exact az8 r c hc
 ·exact h.m1.frz h1
 ·exact h.m2.frz h2
 ·exact h.m3.frz h3
theorem am1 {f:Nat}{args:List IV}{v:IV}{σ:Store}{K:IV->Store->Prop}(hf:okF Tryz.prog f=true)(h:PC Tryz.prog EE f args v)(hk:K v σ):cn6 Tryz.prog EE none f args σ K :=
 as5 hf (gf5 h) fun _ _ ⟨h1,h2⟩=>by subst h1; subst h2; exact ⟨Nat.le_refl _,hk⟩
set_option maxRecDepth 100000
theorem ds5 (s:Str):PC Tryz.prog EE 152 [.str s] (.func (.func 156) [] [.ad4 [.str s]]):=by
 refine ao4 hE fok152 (nZ rfl) (ah6 (.str _)) ?_;simp only[ic152,go_sem];have h1:∀ c∈[IV.str s],Bnd 0 c:=ah6 (.str _);have h2:∀ c∈[IV.ad4 [.str s]],Bnd 0 c:=ah6 (.ad4 _ h1);exact .keep _ (.func _ _ _ (fun c hc=>by cases hc) h2)
theorem ay9 (l:List Part):∀ e∈l.map Part.cs,e.length=2/\e.all IV.leaf=true:=fun e he=>by
 obtain ⟨x,_,rfl⟩:=List.mem_map.1 he; exact ⟨rfl,rfl⟩
theorem fb5:∀ (n:Nat) (l:Str),l.length<=n->(aq4 n l).length<=l.length:=by
 intro n
 induction n with
 | zero=>intro l h; simp[aq4]
 | succ n ih=>
  intro l h
  cases l with
  | nil=>simp[aq4]
  | cons b l=>
   simp only[List.length_cons] at h;simp only[aq4];split
   ·exact Nat.le_trans (ih l (by omega)) (by simp)
   ·split
    ·simp only[List.length_cons]; have:=ih l (by omega); omega
    ·simp only[List.length_cons]
     have hd:((b::l).dropWhile fun c=>ac5 c==ac5 b).length<=l.length:=by
      rw[List.dropWhile_cons,if_pos (by simp)]; exact cj9 l
     have:=ih _ (Nat.le_trans hd (by omega));omega
theorem bc5 (s:Str):(ab4 s).length<=s.length:=fb5 _ _ (Nat.le_refl _)
theorem dc4 (s:Str)(hs:s.length<2^30)(σ:Store):C Tryz.prog EE 150 [.str s] σ fun v t=>(∀ i,i<σ.next->t.obj i=σ.obj i)/\σ.next<=t.next/\Grow t v 2 ((ab4 s).map Part.cs)/\∀ id n,v=.slice id 0 n 2->σ.next<=id:=by
 refine C_f fok150 (nZ rfl) ?_;simp only[ic150,go_sem];refine aa5 fok152 (ds5 s) ?_;simp only[go_sem];have hvl:=bc5 s;refine bx3 (gm6 s (by omega)) (fun rest t=>∃ n v,n<=(ab4 s).length/\rest=((ab4 s).drop n).map evP/\(∀ i,i<σ.next->t.obj i=σ.obj i)/\t.obj σ.next=some (.cells [v])/\σ.next<t.next/\Grow t v 2 (((ab4 s).take n).map Part.cs)/\∀ id k,v=.slice id 0 k 2->σ.next+1<id) (fun _ _ _=>trivial) ?_ ?_ ?_ ?_ ?_
 ·rintro rest t t' ⟨n,v,h0,h1,h2,h3,h4,h5,h6⟩ hn ho;exact ⟨n,v,h0,h1,fun i hi=>by rw[ho i (by omega)]; exact h2 i hi,by rw[ho _ h4]; exact h3,by omega,h5.mono hn fun id _ hid=>ho id hid,h6⟩
 ·intro a ha;obtain ⟨p,_,rfl⟩:=List.mem_map.1 ha;rfl
 ·intro o;have e0:¬ σ.next=σ.next+1:=by omega
  refine ⟨0,.aa1,Nat.zero_le _,rfl,fun i hi=>?_,?_,by show σ.next<σ.next+1+1; omega,.inl ⟨rfl,by simp⟩,fun id k h=>by cases h⟩
  ·have e1:¬ i=σ.next:=by omega
   have e2:¬ i=σ.next+1:=by omega
   simp only[aa2,aa6,e1,e2,if_false]
  ·simp only[aa2,aa6,e0,if_false,if_true]
 ·rintro L pre a rest t hev ⟨n,v,h0,h1,h2,h3,h4,h5,h6⟩ hL hlt
  have hn:n<(ab4 s).length:=by
   rcases Nat.lt_or_ge n (ab4 s).length with h|h
   ·exact h
   ·rw[List.drop_of_length_le h] at h1; cases h1
  rw[List.drop_eq_getElem_cons hn,List.map_cons] at h1;obtain ⟨ha,hrest⟩:=List.cons.inj h1;subst ha;simp only[evP,Part.cs,aa6] at hL hlt ⊢;have e1:¬ σ.next+1=t.next:=by omega
  have e2:¬ σ.next=t.next:=by omega
  have e3:¬ σ.next=σ.next+1:=by omega
  have e4:¬ t.next=σ.next+1:=by omega
  have e5:¬ t.next=σ.next:=by omega
  simp only[go_sem,hL,e1,e2,e3,e4,h3];generalize hU:(((Store.put ⟨t.next+1,t.obj⟩ t.next (ak4.cells [IV.int .u8 0,IV.str []])).put t.next (ak4.cells [IV.int .u8 ↑(ab4 s)[n].kind,IV.str (ab4 s)[n].s])).put (σ.next+1) (L .busy none))=U
  have hUo:∀ i,i<t.next->i≠σ.next+1->U.obj i=t.obj i:=fun i hi hne=>by
   have:¬ i=t.next:=by omega
   rw[<- hU]; simp only[aa2,hne,this,if_false]
  have hUL:U.obj (σ.next+1)=some (L .busy none):=by rw[<- hU]; simp only[aa2,if_true]
  have hg:Grow ⟨t.next+1+1,U.obj⟩ v 2 (((ab4 s).take n).map Part.cs):=by
   refine h5.mono (by show t.next<=t.next+1+1; omega) fun id hv hid=>?_
   have:=h6 _ _ hv;exact hUo id hid (by omega)
  have hl0:(((ab4 s).take n).map Part.cs).length=n:=by rw[List.length_map,List.length_take]; omega
  have hap:=aj6 (nid:=t.next+1) (e:=[IV.int .u8 ↑(ab4 s)[n].kind,IV.str (ab4 s)[n].s]) hg (ay9 _) ⟨rfl,rfl⟩ (by rw[hl0]; omega);have k1:=af7 hg σ.next (.cells [v]) (by show U.obj _=_; rw[hUo _ h4 e3]; exact h3) (fun _ h=>by cases h)
  have k2:(ad7 v ⟨t.next+1+1,U.obj⟩).obj (σ.next+1)=some (L .busy none):=by
   cases hv:v<;>try exact hUL
   rename_i id o n' e;show (if σ.next+1=id then none else U.obj _)=_;rcases h5 with ⟨h,_⟩|⟨id',h,_,_⟩
   ·rw[h] at hv; cases hv
   ·rw[hv] at h; cases h;have:=h6 _ _ hv;rw[if_neg (by omega)]; exact hUL
  have k3:∀ i,i<σ.next->(ad7 v ⟨t.next+1+1,U.obj⟩).obj i=σ.obj i:=fun i hi=>by
   have e7:U.obj i=σ.obj i:=by rw[hUo i (by omega) (by omega)]; exact h2 i hi
   cases hv:v<;>try exact e7
   rename_i id o n' e;show (if i=id then none else U.obj _)=_;rcases h5 with ⟨h,_⟩|⟨id',h,_,_⟩
   ·rw[h] at hv; cases hv
   ·rw[hv] at h; cases h;have:=h6 _ _ hv;rw[if_neg (by omega)]; exact e7
  have kn:=ac1 (σ:=⟨t.next+1+1,U.obj⟩) v;rw[hl0] at hap;have e6:¬ σ.next=t.next+1:=by omega
  have e7:¬ σ.next+1=t.next+1:=by omega
  have e8:¬ σ.next+1=σ.next:=by omega
  simp only[go_sem,hap,e6,k1,e7,e8,k2];refine cr1 (by rw[aa6,aa6,aa6,kn]; show t.next<=t.next+1+1; omega) (by simp only[aa2,if_true]) ?_;refine ⟨n+1,.slice (t.next+1) 0 (n+1) 2,hn,hrest,fun i hi=>?_,?_,?_,?_,fun id k h=>?_⟩
  ·have g1:¬ i=σ.next+1:=by omega
   have g2:¬ i=σ.next:=by omega
   have g3:¬ i=t.next+1:=by omega
   simp only[aa2,g1,g2,g3,if_false]; exact k3 i hi
  ·simp only[aa2,e3,if_false,if_true]
  ·simp only[aa6,kn]; omega
  ·have htk:(ab4 s).take (n+1)=(ab4 s).take n++[(ab4 s)[n]]:=by rw[List.take_succ_eq_append_getElem hn]
   rw[htk,List.map_append];refine .inr ⟨t.next+1,by simp; omega,?_,by simp only[aa6,kn]; omega⟩;have g1:¬ t.next+1=σ.next+1:=by omega
   have g2:¬ t.next+1=σ.next:=by omega
   simp only[aa2,g1,g2,if_false,if_true]; rfl
  ·cases h; omega
 ·rintro t o ⟨n,v,h0,h1,h2,h3,h4,h5,h6⟩ hlt ho
  have hn:n=(ab4 s).length:=by
   rcases Nat.lt_or_ge n (ab4 s).length with h|h
   ·rw[List.drop_eq_getElem_cons h] at h1; cases h1
   ·omega
  subst hn;have e3:¬ σ.next=σ.next+1:=by omega
  simp only[aa6] at hlt ho ⊢;simp only[go_sem,e3,h3];rw[List.take_length] at h5;refine ⟨fun i hi=>?_,by omega,h5.mono (Nat.le_refl _) fun id hv hid=>?_,fun id k h=>?_⟩
  ·have g1:¬ i=σ.next+1:=by omega
   rw[if_neg g1]; exact h2 i hi
  ·have:=h6 _ _ hv;have g1:¬ id=σ.next+1:=by omega
   show (if id=σ.next+1 then none else t.obj id)=_;rw[if_neg g1]
  ·have:=h6 _ _ h; omega
theorem gu5 {p:UInt8->Bool}(l:Str):(l.takeWhile p).length<=l.length:=(List.takeWhile_sublist _).length_le
theorem gm9:∀ (n:Nat) (l:Str),l.length<=n->∀ p∈aq4 n l,p.s.length<=l.length:=by
 intro n
 induction n with
 | zero=>intro l h p hp; simp[aq4] at hp
 | succ n ih=>
  intro l h p hp
  cases l with
  | nil=>simp[aq4] at hp
  | cons b l=>
   simp only[List.length_cons] at h;simp only[aq4] at hp;split at hp
   ·exact Nat.le_trans (ih l (by omega) p hp) (by simp)
   ·split at hp
    ·rcases List.mem_cons.1 hp with rfl|hp
     ·simp
     ·exact Nat.le_trans (ih l (by omega) p hp) (by simp)
    ·have hd:((b::l).dropWhile fun c=>ac5 c==ac5 b).length<=l.length:=by
      rw[List.dropWhile_cons,if_pos (by simp)]; exact cj9 l
     rcases List.mem_cons.1 hp with rfl|hp
     ·simp only;split
      ·exact Nat.le_trans (cj9 _) (gu5 _)
      ·exact gu5 _
     ·exact Nat.le_trans (ih _ (Nat.le_trans hd (by omega)) p hp) (Nat.le_trans hd (by simp))
theorem gn1 (s:Str):∀ p∈ab4 s,p.s.length<=s.length:=gm9 _ _ (Nat.le_refl _)
def eg4:Part:=⟨2,[]⟩
abbrev vL (s:Str):List Part:=ab4 s++[eg4]
theorem ik6 (s:Str):∀ p∈vL s,p.s.length<=s.length:=fun p hp=>by
 rcases List.mem_append.1 hp with h|h
 ·exact gn1 s p h
 ·simp[eg4] at h; subst h; exact Nat.zero_le _
theorem bv5 {xs ys:List Part}{i:Nat}(h1:i<xs.length)(h2:i<ys.length):aj4 (xs.drop i) (ys.drop i)=if af8 xs[i] ys[i]≠0 then af8 xs[i] ys[i] else aj4 (xs.drop (i+1)) (ys.drop (i+1)):=by
 rw[List.drop_eq_getElem_cons h1,List.drop_eq_getElem_cons h2,aj4]
theorem ch1 {xs ys:List Part}{i:Nat}(h:xs.length<=i\/ys.length<=i):aj4 (xs.drop i) (ys.drop i)=0:=by
 rcases h with h|h
 ·rw[List.drop_of_length_le h,aj4]; intros; contradiction
 ·rw[List.drop_of_length_le h]; cases xs.drop i<;>rw[aj4]<;>intros<;>contradiction
theorem fu6 (l:List Part)(i:Nat)(h:i<l.length):(l.map Part.cs).getD i []=Part.cs l[i]:=by simp[List.getD_eq_getElem?_getD,h]
theorem fu7 {σ:Store}{id i:Nat}{l:List Part}(ho:σ.obj id=some (.row (l.map Part.cs).flatten))(h:i<l.length):cr4 (some 2) (i*2) (σ.obj id)=some (.agg (Part.cs l[i])):=by
 have hall:∀ e∈l.map Part.cs,e.length=2:=fun e he=>(ay9 l e he).1
 have hlen:=as3 hall;rw[List.length_map] at hlen;have hp:=aw9 hall i (by rw[List.length_map]; exact h);rw[ho];simp only[cr4];have h1:i*2+2<=l.length*2:=by omega
 rw[if_pos (by rw[List.length_drop,hlen]; omega),hp,fu6 l i h]
theorem bv6 (a b:Str)(ha:a.length<2^30)(hb:b.length<2^30):PC Tryz.prog EE 146 [.str a,.str b] (.int .i64 (au2 a b)):=by
 refine ao4 hE fok146 (nZ rfl) (an3 (.str _) (.str _)) ?_;have la:=bc5 a;have lb:=bc5 b;simp only[ic146,go_sem];refine ad3 fok150 (dc4 a ha _) ?_;rintro v1 s1 ⟨-,n1,g1,-⟩;refine ⟨n1,?_⟩;have n1:2<=s1.next:=n1;have ap1:=aj6 (nid:=0) (e:=[IV.int .u8 2,IV.str []]) g1 (ay9 _) ⟨rfl,rfl⟩ (by rw[List.length_map]; omega);simp only[go_sem,ap1];have hl1:∀ e∈(vL a).map Part.cs,e.length=2:=fun e he=>(ay9 _ e he).1
 have r1:((ab4 a).map Part.cs++[[IV.int .u8 2,IV.str []]]).flatten=((vL a).map Part.cs).flatten:=by rw[List.map_append]; rfl
 have r2:((ab4 b).map Part.cs++[[IV.int .u8 2,IV.str []]]).flatten=((vL b).map Part.cs).flatten:=by rw[List.map_append]; rfl
 rw[r1];refine ad3 fok150 (dc4 b hb _) ?_;rintro v2 s2 ⟨o2,n2,g2,h2⟩;refine ⟨n2,?_⟩;have n2:2<=s2.next:=by rw[aa6,ac1] at n2; omega
 have ap2:=aj6 (nid:=1) (e:=[IV.int .u8 2,IV.str []]) g2 (ay9 _) ⟨rfl,rfl⟩ (by rw[List.length_map]; omega)
 have q0:s2.obj 0=some (.row ((vL a).map Part.cs).flatten):=by
  rw[o2 0 (by rw[aa6,ac1]; omega)];simp only[aa2,if_true]
 have q1:(ad7 v2 s2).obj 0=some (.row ((vL a).map Part.cs).flatten):=by
  rcases g2 with ⟨rfl,_⟩|⟨id,rfl,_,_⟩
  ·exact q0
  ·have:=h2 _ _ rfl;rw[aa6,ac1] at this;show (if 0=id then none else s2.obj 0)=_;rw[if_neg (by omega)]; exact q0
 rw[r2] at ap2;simp only[go_sem,ap2];generalize hS:(ad7 v2 s2).put 1 (.row ((vL b).map Part.cs).flatten)=S;have k0:S.obj 0=some (.row ((vL a).map Part.cs).flatten):=by rw[<- hS]; exact q1
 have k1:S.obj 1=some (.row ((vL b).map Part.cs).flatten):=by rw[<- hS]; simp only[aa2,if_true]
 clear hS ap1 ap2
 have hmin:(if ((ab4 b).length+1:Nat)<(((ab4 a).length+1:Nat):Int) then (((ab4 b).length+1:Nat):Int) else (((ab4 a).length+1:Nat):Int))=((min (vL a).length (vL b).length:Nat):Int):=by
  simp only[List.length_append,List.length_cons,List.length_nil];split<;>omega
 rw[hmin];have hA:(ab4 a).length+1=(vL a).length:=by simp
 have hB:(ab4 b).length+1=(vL b).length:=by simp
 rw[hA,hB];have hNa:min (vL a).length (vL b).length<=(vL a).length:=Nat.min_le_left _ _;have hNb:min (vL a).length (vL b).length<=(vL b).length:=Nat.min_le_right _ _;have hN:(vL a).length<=min (vL a).length (vL b).length\/(vL b).length<=min (vL a).length (vL b).length:=by omega
 have hsm:min (vL a).length (vL b).length<2^40:=by rw[<- hA] at hNa; omega
 generalize min (vL a).length (vL b).length=N at *;refine ab3 noT (fun i fr s=>fr=[(5,.slice 0 0 (vL a).length 2),(6,.slice 1 0 (vL b).length 2),(23,.int .i64 N),(24,.int .i64 i)]/\s.obj=S.obj/\au2 a b=aj4 ((vL a).drop i) ((vL b).drop i)) N ⟨rfl,rfl,rfl⟩ ?_;rintro i fr s hle ⟨rfl,hs,hI⟩;by_cases hlt:i<N
 ·have c1:(i:Int)<N:=by omega
  have c2:(0:Int)<=i:=by omega
  have ia:i<(vL a).length:=by omega
  have ib:i<(vL b).length:=by omega
  have c3:(i:Int)<(vL a).length:=by omega
  have c4:(i:Int)<(vL b).length:=by omega
  have w1:=ad2 (i:=i) (by omega);have l0:=fu7 k0 ia;have l1:=fu7 k1 ib;rw[bv5 ia ib] at hI;have hp:=fb4 (vL a)[i] (vL b)[i] (by have:=ik6 a _ (List.getElem_mem ia); omega) (by have:=ik6 b _ (List.getElem_mem ib); omega);generalize (vL a)[i]=x at *;generalize (vL b)[i]=y at *;simp only[go_sem,c1,c2,c3,c4,hs,l0,l1];refine aa5 fok151 hp ?_;by_cases hz:af8 x y=0
  ·simp only[go_sem,hz,w1];rw[hz,if_neg (by simp)] at hI;exact ⟨hlt,hI⟩
  ·rw[if_pos hz] at hI;simp only[go_sem,hz];rw[hI]; exact ac8 _ _
 ·have hi':i=N:=by omega
  subst hi';have c1:¬ (i:Int)<i:=by omega
  rw[ch1 hN] at hI;simp only[go_sem,c1];rw[hI]; exact ac8 _ _
end Go.Id.Tryz
set_option linter.all false
namespace Go.Id.Tryz
open Go Go.Id Go.Proofs Go.Id.Md
set_option maxRecDepth 100000
set_option maxHeartbeats 1000000
theorem di8 (b:UInt8):PC Tryz.prog EE 148 [.int .u8 b.toNat] (.int .u8 (ac5 b)):=by
 rw[fu5];have hb:=b.toNat_lt;generalize b.toNat=n at *;unfold vkN;refine ao4 hE fok148 (nZ rfl) (ah6 (.int _ _)) ?_;by_cases e1:n=126
 ·have e1':(n:Int)=126:=by omega
  rw[if_pos e1];simp only[ic148,go_sem,e1'];exact .keep _ (.int _ _)
 have e1':¬ (n:Int)=126:=by omega
 rw[if_neg e1];by_cases e2:n=94
 ·have e2':(n:Int)=94:=by omega
  have q:¬ (94:Int)=126:=by decide
  rw[if_pos e2];simp only[ic148,go_sem,e2',q];exact .keep _ (.int _ _)
 have e2':¬ (n:Int)=94:=by omega
 rw[if_neg e2];by_cases e3:97<=n/\n<=122
 ·have f1:(97:Int)<=n:=by omega
  have f2:(n:Int)<=122:=by omega
  rw[if_pos (.inl e3)];simp only[ic148,go_sem,e1',e2',f1,f2];exact .keep _ (.int _ _)
 by_cases e4:65<=n/\n<=90
 ·have f1:¬ (97:Int)<=n:=by omega
  have f3:(65:Int)<=n:=by omega
  have f4:(n:Int)<=90:=by omega
  rw[if_pos (.inr e4)];simp only[ic148,go_sem,e1',e2',f1,f3,f4];exact .keep _ (.int _ _)
 rw[if_neg (fun h=>h.elim e3 e4)];by_cases e5:48<=n/\n<=57
 ·have f1:¬ (97:Int)<=n:=by omega
  have f3:¬ (65:Int)<=n:=by omega
  have f5:(48:Int)<=n:=by omega
  have f6:(n:Int)<=57:=by omega
  rw[if_pos e5];simp only[ic148,go_sem,e1',e2',f1,f3,f5,f6];exact .keep _ (.int _ _)
 rw[if_neg e5];by_cases f1:(97:Int)<=n
 ·have f2:¬ (n:Int)<=122:=by omega
  have f3:(65:Int)<=n:=by omega
  have f4:¬ (n:Int)<=90:=by omega
  have f5:(48:Int)<=n:=by omega
  have f6:¬ (n:Int)<=57:=by omega
  simp only[ic148,go_sem,e1',e2',f1,f2,f3,f4,f5,f6];exact .keep _ (.int _ _)
 by_cases f3:(65:Int)<=n
 ·have f4:¬ (n:Int)<=90:=by omega
  have f5:(48:Int)<=n:=by omega
  have f6:¬ (n:Int)<=57:=by omega
  simp only[ic148,go_sem,e1',e2',f1,f3,f4,f5,f6];exact .keep _ (.int _ _)
 by_cases f5:(48:Int)<=n
 ·have f6:¬ (n:Int)<=57:=by omega
  simp only[ic148,go_sem,e1',e2',f1,f3,f5,f6];exact .keep _ (.int _ _)
 ·simp only[ic148,go_sem,e1',e2',f1,f3,f5];exact .keep _ (.int _ _)
theorem ej3 (p:Part):∀ c∈Part.cs p,Bnd 0 c:=au8 (.int _ _) (.str _)
theorem ds6 (l:List Part):Bnd 0 (.aa3 (l.map Part.cs)):=.aa3 _ fun e he c hc=>by
 obtain ⟨d,_,rfl⟩:=List.mem_map.1 he; exact ej3 d c hc
theorem ds7 {t:Store}{gv:IV}{esz n nid:Nat}{es:List (List IV)}{e:List IV}(hg:Grow t gv esz es)(hall:∀ x∈es,x.length=esz/\x.all IV.leaf=true)(he:e.length=esz/\e.all IV.leaf=true)(hl:es.length<2147483648)(h1:t.next<=nid)(h2:nid<t.next+n) :
  ∃ v' σ',an5 ⟨t.next+n,t.obj⟩ nid esz gv (.aa3 [e])=some (v',σ')/\σ'.next=t.next+n/\Grow σ' v' esz (es++[e]):=by
 have hg2:Grow ⟨t.next+n,t.obj⟩ gv esz es:=hg.mono (Nat.le_add_right _ _) fun _ _ _=>rfl
 have hap:=aj6 (nid:=nid) (e:=e) hg2 hall he hl;have kn:(ad7 gv (⟨t.next+n,t.obj⟩:Store)).next=t.next+n:=ac1 gv;refine ⟨_,_,hap,by rw[aa6,kn],.inr ⟨nid,by rw[List.length_append,List.length_singleton],by simp only[aa2,if_true],by rw[aa6,kn]; exact h2⟩⟩
theorem ds8 (s:Str)(hs:s.length<2^30):PC Tryz.prog EE 136 [.str s] (.aa3 ((ab4 s).map Part.cs)):=by
 refine ao4 hE fok136 (nZ rfl) (fn5 (.str _)) ?_;simp only[ic136,go_sem];refine ab3 noT (fun j fr t=>∃ (a:Nat) (gv:IV) (pre:List Part),fr=[(0,.str s),(3,gv),(4,.int .i64 (a:Int))]/\j<=a/\a<=s.length/\pre.length<=a/\ab4 s=pre++ab4 (s.drop a)/\Grow t gv 2 (pre.map Part.cs)) s.length ⟨0,.aa1,[],rfl,Nat.le_refl _,Nat.zero_le _,Nat.le_refl _,rfl,.inl ⟨rfl,rfl⟩⟩ ?_;rintro j fr t hj ⟨a,gv,pre,rfl,hja,has,hpl,hv,hg⟩;by_cases hlt:a<s.length
 ·obtain ⟨b,hb,hget,hdr,_,htk⟩:=ae8 s a hlt;have c1:(a:Int)<s.length:=by omega
  have c2:(0:Int)<=a:=by omega
  have w1:=ad2 (i:=a) (by omega);have hk:=di8 b;rw[hdr] at hv;simp only[go_sem,c1,aw8,c2,Int.toNat_natCast,hget,Option.map]
  first|refine aa5 fok148 (hk) ?_|refine aa8 (hk) ?_
  by_cases h0:ac5 b=0
  ·have k0:((ac5 b:Nat):Int)=0:=by omega
   rw[eg6 h0] at hv;simp only[go_sem,k0,w1];exact ⟨by omega,a+1,gv,pre,rfl,by omega,by omega,by omega,hv,hg⟩
  have k0:¬ ((ac5 b:Nat):Int)=0:=by omega
  by_cases h4:ac5 b<4
  ·have k4:((ac5 b:Nat):Int)<4:=by omega
   rw[eg7 h0 h4] at hv;obtain ⟨v',σ',h1,h2,h3⟩:=ds7 (n:=1) (nid:=t.next) (e:=[.int .u8 (ac5 b:Nat),.str []]) hg (ay9 _) ⟨rfl,rfl⟩ (by rw[List.length_map]; omega) (Nat.le_refl _) (by omega);simp only[go_sem,k0,k4,h1,w1];refine ⟨by omega,a+1,v',pre++[⟨ac5 b,[]⟩],rfl,by omega,by omega,by rw[List.length_append]; simp only[List.length_singleton]; omega,by rw[hv]; simp,?_⟩;rw[List.map_append]; exact h3
  have k4:¬ ((ac5 b:Nat):Int)<4:=by omega
  simp only[go_sem,k0,k4];obtain ⟨R,hR⟩:∃ R,R=fd5 b (s.drop (a+1)):=⟨_,rfl⟩;have hrl:=gs8 b (s.drop (a+1));rw[<- hR,List.length_drop] at hrl
  have hrun:∀ m,m<R+1->∃ c,s[a+m]? = some c/\ac5 c=ac5 b:=fun m hm=>by
   cases m with
   | zero=>exact ⟨b,hget,rfl⟩
   | succ m=>
    obtain ⟨c,h1,h2⟩:=gs6 (b:=b) (l:=s.drop (a+1)) (m:=m) (by omega);rw[List.getElem?_drop] at h1;exact ⟨c,by rw[<- h1]; congr 1; omega,h2⟩
  have hend:∀ c,s[a+(R+1)]? = some c->ac5 c≠ac5 b:=fun c h=>gs7 (l:=s.drop (a+1)) (by rw[<- hR,List.getElem?_drop,<- h]; congr 1; omega)
  refine ab3 noT (fun m fr u=>fr=[(0,.str s),(3,gv),(4,.int .i64 (a:Int)),(5,.int .u8 (ac5 b:Nat)),(6,.int .i64 ((a+m:Nat):Int))]/\u.obj=t.obj/\t.next<=u.next) (R+1) ⟨rfl,rfl,Nat.le_refl _⟩ ?_;rintro m fr u hmR ⟨rfl,uo,un⟩;have d2:(0:Int)<=((a+m:Nat):Int):=by omega
  have w2:=ad2 (i:=a+m) (by omega);by_cases hm:m<R+1
  ·obtain ⟨c,hc1,hc2⟩:=hrun m hm;have k2:((a+m:Nat):Int)<s.length:=by omega
   have k3:=di8 c;rw[hc2] at k3;simp only[go_sem,k2,aw8,d2,Int.toNat_natCast,hc1,Option.map]
   first|refine aa5 fok148 (k3) ?_|refine aa8 (k3) ?_
   simp only[go_sem,w2];exact ⟨hm,rfl,uo,un⟩
  have hm':m=R+1:=by omega
  subst hm';have hw:((b::s.drop (a+1)).take (R+1))=(s.drop a).take (R+1):=by rw[hdr]
  have hv4:=hv;rw[eg8 h4,<- hR,hw,List.drop_drop] at hv4;have hdd:a+1+R=a+(R+1):=by omega
  rw[hdd] at hv4;obtain ⟨w,hwd⟩:∃ w,w=(s.drop a).take (R+1):=⟨_,rfl⟩;rw[<- hwd] at hv4;have hwl:w.length=R+1:=by rw[hwd,List.length_take,List.length_drop]; omega
  have hwg:∀ z,z<R+1->w[z]? = s[a+z]?:=fun z hz=>by rw[hwd,List.getElem?_take,if_pos hz,List.getElem?_drop]
  by_cases hen:a+(R+1)<s.length
  case' pos=>
   have k2:((a+(R+1):Nat):Int)<s.length:=by omega
   have hc:s[a+(R+1)]? = some s[a+(R+1)]:=List.getElem?_eq_getElem hen;have hne:=hend _ hc;have k7:¬ ((ac5 s[a+(R+1)]:Nat):Int)=ac5 b:=by omega
   have k3:=di8 s[a+(R+1)];simp only[go_sem,k2,aw8,d2,Int.toNat_natCast,hc,Option.map]
   first|refine aa5 fok148 (k3) ?_|refine aa8 (k3) ?_
   simp only[go_sem,k7]
  case' neg=>
   have k2:¬ ((a+(R+1):Nat):Int)<s.length:=by omega
   simp only[go_sem,k2]
  all_goals
   obtain ⟨Z,hZ⟩:∃ Z,Z=if ac5 b=5 then (w.takeWhile (· == 48)).length else 0:=⟨_,rfl⟩
   have hZl:Z<=R+1:=by
    rw[hZ]; split
    ·rw[<- hwl]; exact (List.takeWhile_sublist _).length_le
    ·omega
   have hdw:(if ac5 b=5 then w.dropWhile (· == 48) else w)=w.drop Z:=by
    rw[hZ]; split
    ·exact (ck3 _ w).2
    ·rfl
   rw[hdw] at hv4;refine ab3 noT (fun z fr v=>(∃ tl:Frm,fr=(0,.str s)::(3,gv)::(4,.int .i64 ((a+z:Nat):Int))::(5,.int .u8 (ac5 b:Nat))::(6,.int .i64 ((a+(R+1):Nat):Int))::tl)/\v.obj=t.obj/\t.next<=v.next) Z ⟨⟨_,rfl⟩,uo,by first|exact un|(show t.next<=_; omega)⟩ ?_;rintro z fr v hz ⟨⟨tl,rfl⟩,vo,vn⟩;have z2:(0:Int)<=((a+z:Nat):Int):=by omega
   have z3:=ad2 (i:=a+z) (by omega);by_cases hzz:z<Z
   ·have h5:ac5 b=5:=by
     by_cases h:ac5 b=5
     ·exact h
     ·rw[if_neg h] at hZ; omega
    have k5:((ac5 b:Nat):Int)=5:=by omega
    rw[if_pos h5] at hZ;obtain ⟨c,hc1,hc2⟩:=ie2 (p:=fun c=>c==48) w z (by omega);have hc0:c=48:=by simpa using hc2
    rw[hwg z (by omega),hc0] at hc1;have e1:((a+z:Nat):Int)<((a+(R+1):Nat):Int):=by omega
    have e2:((a+z:Nat):Int)<s.length:=by omega
    have e3:((48:UInt8).toNat:Int)=48:=rfl;simp only[go_sem,k5,e1,e2,aw8,z2,Int.toNat_natCast,hc1,Option.map,e3,z3];exact ⟨hzz,⟨_,rfl⟩,vo,vn⟩
   ·have hz':z=Z:=by omega
    subst hz'
    have hss:ch4 (some (.int .i64 ((a+z:Nat):Int))) (some (.int .i64 ((a+(R+1):Nat):Int))) (.str s)=some (.str (w.drop z)):=by
     have e1:(0:Int)<=((a+(R+1):Nat):Int):=by omega
     have e2:a+z<=a+(R+1)/\a+(R+1)<=s.length:=by omega
     simp only[ch4,bq4,cq2,z2,e1,if_true,Int.toNat_natCast,e2,and_self];rw[hwd,List.drop_take,List.drop_take,List.drop_drop];congr 3; omega
    have hvg:Grow v gv 2 (pre.map Part.cs):=hg.mono vn fun _ _ _=>by rw[vo]
    obtain ⟨v',σ',h1,h2,h3⟩:=ds7 (n:=1) (nid:=v.next) (e:=[.int .u8 (ac5 b:Nat),.str (w.drop z)]) hvg (ay9 _) ⟨rfl,rfl⟩ (by rw[List.length_map]; omega) (Nat.le_refl _) (by omega)
    have fin:ab4 s=(pre++[(⟨ac5 b,w.drop z⟩:Part)])++ab4 (s.drop (a+(R+1)))/\Grow σ' v' 2 ((pre++[(⟨ac5 b,w.drop z⟩:Part)]).map Part.cs)/\(pre++[(⟨ac5 b,w.drop z⟩:Part)]).length<=a+(R+1):=by
     refine ⟨by rw[hv4]; simp,by rw[List.map_append]; exact h3,by rw[List.length_append,List.length_singleton]; omega⟩
    by_cases h5:ac5 b=5
    ·have k5:((ac5 b:Nat):Int)=5:=by omega
     rw[if_pos h5] at hZ;by_cases hzR:z<R+1
     ·have e1:((a+z:Nat):Int)<((a+(R+1):Nat):Int):=by omega
      have e2:((a+z:Nat):Int)<s.length:=by omega
      have hc:s[a+z]? = some s[a+z]:=List.getElem?_eq_getElem (by omega)
      have hne:¬ s[a+z]=48:=by
       have:=ie3 (p:=fun c=>c==48) w s[a+z] (by rw[<- hZ,hwg z hzR]; exact hc)
       simpa using this
      have hne2:¬ (s[a+z].toNat:Int)=48:=fun h=>hne (UInt8.toNat_inj.1 (by show _=48; omega))
      simp only[k5] at h1;simp only[go_sem,k5,e1,e2,aw8,z2,Int.toNat_natCast,hc,Option.map,hne2,hss,h1];exact ⟨by omega,a+(R+1),v',_,rfl,by omega,by omega,fin.2.2,fin.1,fin.2.1⟩
     ·have e1:¬ ((a+z:Nat):Int)<((a+(R+1):Nat):Int):=by omega
      simp only[k5] at h1;simp only[go_sem,k5,e1,hss,h1];exact ⟨by omega,a+(R+1),v',_,rfl,by omega,by omega,fin.2.2,fin.1,fin.2.1⟩
    ·have k5:¬ ((ac5 b:Nat):Int)=5:=by omega
     simp only[go_sem,k5,hss,h1];exact ⟨by omega,a+(R+1),v',_,rfl,by omega,by omega,fin.2.2,fin.1,fin.2.1⟩
 ·have ha:a=s.length:=by omega
  subst ha;have c1:¬ (s.length:Int)<s.length:=by omega
  rw[List.drop_length,ey8,List.append_nil] at hv;rw[hv];simp only[go_sem,c1];exact hg.frz (fun x hx=>(ay9 _ x hx).1) (fun _ _=>Nat.not_lt_zero _) (aq8 (ds6 pre))
theorem fu9 (a b:EVR):PC Tryz.prog EE 144 [.ad4 a.cs,.ad4 b.cs] (.int .i64 (ao7 a.am6 b.am6)):=by
 refine av1 fok144 (nZ rfl) fun σ=>?_
 simp only[ic144,go_sem,EVR.cs];refine aa5 fok18 (di7 _ _) ?_;simp only[go_sem,and_self]
theorem fv1 (a b:EVR)(h1:a.ver.length<2^30)(h2:b.ver.length<2^30):PC Tryz.prog EE 145 [.ad4 a.cs,.ad4 b.cs] (.int .i64 (au2 a.ver b.ver)):=by
 refine av1 fok145 (nZ rfl) fun σ=>?_
 simp only[ic145,go_sem,EVR.cs];refine aa5 fok146 (bv6 _ _ h1 h2) ?_;simp only[go_sem,and_self]
theorem fv2 (a b:EVR)(h1:a.rel.length<2^30)(h2:b.rel.length<2^30):PC Tryz.prog EE 147 [.ad4 a.cs,.ad4 b.cs] (.int .i64 (if a.rel=[]\/b.rel=[] then 0 else au2 a.rel b.rel)):=by
 refine av1 fok147 (nZ rfl) fun σ=>?_
 by_cases e1:a.rel=[]
 ·simp only[ic147,go_sem,EVR.cs,e1,true_or,and_self]
 ·by_cases e2:b.rel=[]
  ·simp only[ic147,go_sem,EVR.cs,e1,e2,or_true,and_self]
  ·simp only[ic147,go_sem,EVR.cs,e1,e2,or_self];refine aa5 fok146 (bv6 _ _ h1 h2) ?_;simp only[go_sem,and_self]
def fnC (f:Nat×List IV):List IV:=[.func (.func f.1) [] f.2]
theorem eb7 (fs:List (Nat×List IV))(vals:List Int)(hl:fs.length=vals.length)(hn:fs.length<2^40)(hb:∀ f∈fs,∀ c∈f.2,Bnd 0 c)
  (h:∀ i (h1:i<fs.length) (h2:i<vals.length),okF Tryz.prog fs[i].1=true/\PC Tryz.prog EE fs[i].1 fs[i].2 (.int .i64 vals[i])):PC Tryz.prog EE 143 [.aa3 (fs.map fnC)] (.int .i64 (orM vals)):=by
 refine ao4 hE fok143 (nZ rfl) (ah6 (.aa3 _ fun e he c hc=>?_)) ?_
 ·obtain ⟨f,hf,rfl⟩:=List.mem_map.1 he
  cases hc with
  | head=>exact .func _ _ _ (fun c hc=>by cases hc) (hb f hf)
  | tail _ h=>cases h
 simp only[ic143,go_sem];refine ab3 noT (fun i fr s=>fr=[(6,.aa3 (fs.map fnC)),(7,.int .i64 fs.length),(8,.int .i64 i)]/\orM vals=orM (vals.drop i)) fs.length ⟨rfl,rfl⟩ ?_;rintro i fr s hle ⟨rfl,hI⟩;by_cases hlt:i<fs.length
 ·obtain ⟨f,hf,hget0,hdr,hget,htk⟩:=ae8 fs i hlt;have hlt2:i<vals.length:=by omega
  have c1:(i:Int)<fs.length:=by omega
  have c2:(0:Int)<=i:=by omega
  have w1:=ad2 (i:=i) (by omega);obtain ⟨k1,k2⟩:=h i hlt hlt2
  have hfi:fs[i]=f:=by
   have:=List.getElem?_eq_getElem hlt; rw[this] at hget0; exact Option.some.inj hget0
  rw[hfi] at k1 k2;rw[List.drop_eq_getElem_cons hlt2,orM] at hI;generalize vals[i]=x at *;simp only[go_sem,c1,c2,hget,fnC];refine am1 k1 k2 ?_;by_cases hx:x=0
  ·subst hx;simp only[go_sem,w1];exact ⟨hlt,by simpa using hI⟩
  ·rw[if_neg hx] at hI;simp only[go_sem,hx];rw[hI]; exact ac8 _ _
 ·have hi':i=fs.length:=by omega
  subst hi';have c1:¬ (fs.length:Int)<fs.length:=by omega
  rw[hl,List.drop_length,orM] at hI;simp only[go_sem,c1];rw[hI]; exact ac8 _ _
theorem ej4 (a:EVR):Bnd 0 (.ad4 a.cs):=.ad4 _ fun c hc=>by
 simp only[EVR.cs,List.mem_cons,List.not_mem_nil,or_false] at hc;rcases hc with rfl|rfl|rfl
 ·exact .int _ _
 ·exact .str _
 ·exact .str _
theorem bn3 (a:EVR):Bnd 0 (.agg a.cs):=.agg _ fun c hc=>by
 simp only[EVR.cs,List.mem_cons,List.not_mem_nil,or_false] at hc;rcases hc with rfl|rfl|rfl
 ·exact .int _ _
 ·exact .str _
 ·exact .str _
def EVR.small (e:EVR):Prop:=e.ver.length<2^30/\e.rel.length<2^30
theorem di9 (a b:EVR)(ha:EVR.small a)(hb:EVR.small b):PC Tryz.prog EE 134 [.agg a.cs,.agg b.cs] (.int .i64 (be5 a b)):=by
 refine ao4 hE fok134 (nZ rfl) (an3 (bn3 a) (bn3 b)) ?_
 have hv:be5 a b=orM [ao7 a.am6 b.am6,au2 a.ver b.ver,if a.rel=[]\/b.rel=[] then 0 else au2 a.rel b.rel]:=by
  rw[ik5]; unfold be5;split
  ·rfl
  ·split
   ·rfl
   ·rfl
 have hf:=eb7 [(144,[.ad4 a.cs,.ad4 b.cs]),(145,[.ad4 a.cs,.ad4 b.cs]),(147,[.ad4 a.cs,.ad4 b.cs])] [ao7 a.am6 b.am6,au2 a.ver b.ver,if a.rel=[]\/b.rel=[] then 0 else au2 a.rel b.rel] rfl (by simp)
  (fun f hf c hc=>by
   simp only[List.mem_cons,List.not_mem_nil,or_false] at hf;rcases hf with rfl|rfl|rfl<;>exact an3 (ej4 a) (ej4 b) c hc)
  (fun i h1 h2=>by
   match i,h1 with
   | 0,_=>exact ⟨fok144.1,fu9 a b⟩
   | 1,_=>exact ⟨fok145.1,fv1 a b ha.1 hb.1⟩
   | 2,_=>exact ⟨fok147.1,fv2 a b ha.2 hb.2⟩
   | i+3,h=>simp at h; omega)
 rw[<- hv] at hf;have ea:(IV.agg a.cs).cs.all IV.leaf=true:=rfl;have eb:(IV.agg b.cs).cs.all IV.leaf=true:=rfl;simp only[EVR.cs] at hf ⊢;simp only[ic134,go_sem];refine aa5 fok143 hf ?_;simp only[go_sem];exact ac8 _ _
def bf2 (a b:Int):Int:=IntKind.u8.wrap ((BitVec.ofInt 8 a &&& BitVec.ofInt 8 b).toNat:Int)
theorem ao8 (a b:Int):ap9 .and (.int .u8 a) (.int .u8 b)=some (.int .u8 (bf2 a b)):=rfl
theorem is8 {n:Nat}(h:n<256):IntKind.u8.wrap (n:Int)=n:=by
 simp[IntKind.wrap,IntKind.bits,IntKind.signed]; omega
theorem am4 (a b:Nat)(ha:a<256)(hb:b<256):bf2 a b=((a &&& b:Nat):Int):=by
 unfold bf2;rw[BitVec.toNat_and]
 have e:∀ n:Nat,n<256->(BitVec.ofInt 8 (n:Int)).toNat=n:=fun n hn=>by
  rw[BitVec.toNat_ofInt]; omega
 rw[e a ha,e b hb];exact is8 (Nat.lt_of_le_of_lt Nat.and_le_left ha)
theorem and7:∀ a,a<256->((a &&& 7=0)↔a%8=0):=by decide +kernel
theorem dj1:∀ x,x<256->((x &&& 7=0)↔(x.testBit 0=false/\x.testBit 1=false/\x.testBit 2=false)):=by decide +kernel
theorem and1:∀ a,a<256->((a &&& 1=0)↔a.testBit 0=false):=by decide +kernel
theorem gu6:∀ a,a<256->((a &&& 4=0)↔a.testBit 2=false):=by decide +kernel
theorem fv3 (a b:Int):ao7 a b=-1\/ao7 a b=0\/ao7 a b=1:=by
 unfold ao7; split
 ·exact .inl rfl
 ·split
  ·exact .inr (.inl rfl)
  ·exact .inr (.inr rfl)
theorem ih7 (a b:Str):cj8 a b=-1\/cj8 a b=0\/cj8 a b=1:=by
 unfold cj8; split
 ·exact .inl rfl
 ·split
  ·exact .inr (.inl rfl)
  ·exact .inr (.inr rfl)
theorem ds9 (a b:Part):af8 a b=-1\/af8 a b=0\/af8 a b=1:=by
 have h:∀ k n s:Int,(k=-1\/k=0\/k=1)->(n=-1\/n=0\/n=1)->(s=-1\/s=0\/s=1)->((if k≠0 then k else if n≠0 then n else s)=-1\/(if k≠0 then k else if n≠0 then n else s)=0\/(if k≠0 then k else if n≠0 then n else s)=1):=by
  intro k n s h1 h2 h3;rcases h1 with rfl|rfl|rfl<;>rcases h2 with rfl|rfl|rfl<;>simp<;>exact h3
 refine h (ao7 a.kind b.kind) (if a.kind=5/\b.kind=5 then ao7 a.s.length b.s.length else 0) (cj8 a.s b.s) (fv3 _ _) ?_ (ih7 _ _);split
 ·exact fv3 _ _
 ·exact .inr (.inl rfl)
theorem fb6:∀ (l m:List Part),aj4 l m=-1\/aj4 l m=0\/aj4 l m=1:=by
 intro l
 induction l with
 | nil=>intro m; exact .inr (.inl (by rw[aj4]; intros; contradiction))
 | cons a l ih=>
  intro m
  cases m with
  | nil=>exact .inr (.inl (by rw[aj4]; intros; contradiction))
  | cons b m=>
   rw[aj4];split
   ·exact ds9 a b
   ·exact ih m
theorem ej5 (a b:Str):au2 a b=-1\/au2 a b=0\/au2 a b=1:=fb6 _ _
theorem ej6 (a b:EVR):be5 a b=-1\/be5 a b=0\/be5 a b=1:=by
 unfold be5;split
 ·exact fv3 _ _
 ·split
  ·exact ej5 _ _
  ·split
   ·exact .inr (.inl rfl)
   ·exact ej5 _ _
def Dep.small (d:Dep):Prop:=0<=d.op/\d.op<256/\EVR.small d.evr
theorem am5 (d:Dep):Bnd 0 (.agg d.cs):=.agg _ fun c hc=>by
 simp only[Dep.cs,List.mem_cons,List.not_mem_nil,or_false] at hc;rcases hc with rfl|rfl|rfl|rfl|rfl
 ·exact .str _
 ·exact .int _ _
 ·exact .int _ _
 ·exact .str _
 ·exact .str _
theorem eb8 (a b:Dep)(ha:Dep.small a)(hb:Dep.small b):PC Tryz.prog EE 115 [.agg a.cs,.agg b.cs] (.bool (meet a b)):=by
 refine ao4 hE fok115 (nZ rfl) (an3 (am5 a) (am5 b)) ?_;obtain ⟨a1,a2,a3⟩:=ha;obtain ⟨b1,b2,b3⟩:=hb;have hc:=di9 a.evr b.evr a3 b3;have h3:=ej6 a.evr b.evr;unfold meet;generalize be5 a.evr b.evr=n at hc h3;simp only[EVR.cs] at hc;obtain ⟨x,hx⟩:∃ x:Nat,a.op=x:=⟨a.op.toNat,by omega⟩;obtain ⟨y,hy⟩:∃ y:Nat,b.op=y:=⟨b.op.toNat,by omega⟩;have hx2:x<256:=by omega
 have hy2:y<256:=by omega
 have ex7:bf2 x 7=((x &&& 7:Nat):Int):=am4 x 7 hx2 (by omega);have ey7:bf2 y 7=((y &&& 7:Nat):Int):=am4 y 7 hy2 (by omega);rw[hx,hy,Int.toNat_natCast,Int.toNat_natCast];by_cases hx0:x%8=0
 ·have q:=(and7 x hx2).2 hx0;rw[q] at ex7;have q':bf2 x 7=0:=ex7;simp only[ic115,go_sem,Dep.cs,hx,hy,ao8,q',hx0,true_or];exact ac4 _
 ·have q:¬ (x &&& 7=0):=fun e=>hx0 ((and7 x hx2).1 e)
  have q':¬ bf2 x 7=0:=by rw[ex7]; omega
  by_cases hy0:y%8=0
  ·have r:=(and7 y hy2).2 hy0;rw[r] at ey7;have r':bf2 y 7=0:=ey7;simp only[ic115,go_sem,Dep.cs,hx,hy,ao8,q',r',hy0,or_true];exact ac4 _
  ·have r:¬ (y &&& 7=0):=fun e=>hy0 ((and7 y hy2).1 e)
   have r':¬ bf2 y 7=0:=by rw[ey7]; omega
   simp only[ic115,go_sem,Dep.cs,hx,hy,ao8,q',r',hx0,hy0,or_self];refine aa5 fok134 hc ?_;have exy:bf2 x y=((x &&& y:Nat):Int):=am4 x y hx2 hy2;have hxy:x &&& y<256:=Nat.lt_of_le_of_lt Nat.and_le_left hx2;have exy7:bf2 ((x &&& y:Nat):Int) 7=((x &&& y &&& 7:Nat):Int):=am4 _ 7 hxy (by omega);have s1:=fu4 1 (.inr (.inr rfl));have s2:=fu4 (-1) (.inl rfl);have n1:¬ ((1:Int)<0):=by decide
   have n2:¬ ((1:Int)=0):=by decide
   have n3:((-1:Int)<0):=by decide
   rw[if_neg n1,if_neg n2] at s1;rw[if_pos n3] at s2;have x1:bf2 x 1=((x &&& 1:Nat):Int):=am4 x 1 hx2 (by omega);have x4:bf2 x 4=((x &&& 4:Nat):Int):=am4 x 4 hx2 (by omega);have y1:bf2 y 1=((y &&& 1:Nat):Int):=am4 y 1 hy2 (by omega);have y4:bf2 y 4=((y &&& 4:Nat):Int):=am4 y 4 hy2 (by omega);have w1:IntKind.i64.wrap (0 - -1)=1:=by decide
   have w2:IntKind.i64.wrap (0-1)=-1:=by decide
   have bt:∀ (k i:Nat),bit (k:Int) i=k.testBit i:=fun k i=>by unfold bit; rw[Int.toNat_natCast]
   have z0:∀ k:Nat,((k:Int)=0)↔k=0:=fun k=>by omega
   rcases h3 with rfl|rfl|rfl
   ·have g1:side (- -1)=2:=by decide
    have g2:side (-1)=0:=by decide
    have m0:¬ ((-1:Int)=0):=by decide
    simp only[go_sem,m0,w1,g1,g2,bt];refine aa8 s1 ?_
    cases hb:x.testBit 2 with
    | true=>
     have e:¬ bf2 x 4=0:=by rw[x4,z0,gu6 x hx2,hb]; simp
     simp only[go_sem,ao8,e]
     exact ac4 _
    | false=>
     have e:bf2 x 4=0:=by rw[x4,z0,gu6 x hx2,hb]
     simp only[go_sem,ao8,e];refine aa8 s2 ?_
     cases hc:y.testBit 0 with
     | true=>
      have e2:¬ bf2 y 1=0:=by rw[y1,z0,and1 y hy2,hc]; simp
      simp only[go_sem,ao8,e2]
      exact ac4 _
     | false=>
      have e2:bf2 y 1=0:=by rw[y1,z0,and1 y hy2,hc]
      simp only[go_sem,ao8,e2];exact ac4 _
   ·simp only[go_sem,ao8,exy,exy7,bt]
    have e:(!decide (((x &&& y &&& 7:Nat):Int)=0))=(x.testBit 0&&y.testBit 0||x.testBit 1&&y.testBit 1||x.testBit 2&&y.testBit 2):=by
     by_cases hz:x &&& y &&& 7=0
     ·obtain ⟨t0,t1,t2⟩:=(dj1 _ hxy).1 hz;rw[Nat.testBit_and] at t0 t1 t2;rw[hz,t0,t1,t2]; rfl
     ·have hz':¬ ((x &&& y &&& 7:Nat):Int)=0:=fun h=>hz (by omega)
      have ht:¬ ((x &&& y).testBit 0=false/\(x &&& y).testBit 1=false/\(x &&& y).testBit 2=false):=fun h=>hz ((dj1 _ hxy).2 h)
      rw[Nat.testBit_and,Nat.testBit_and,Nat.testBit_and] at ht;rw[decide_eq_false hz']
      revert ht
      generalize (x.testBit 0&&y.testBit 0)=b0;generalize (x.testBit 1&&y.testBit 1)=b1;generalize (x.testBit 2&&y.testBit 2)=b2;cases b0<;>cases b1<;>cases b2<;>simp
    rw[e];exact ac4 _
   ·have g1:side (-1)=0:=by decide
    have g2:side 1=2:=by decide
    simp only[go_sem,n2,w2,g1,g2,bt];refine aa8 s2 ?_
    cases hb:x.testBit 0 with
    | true=>
     have e:¬ bf2 x 1=0:=by rw[x1,z0,and1 x hx2,hb]; simp
     simp only[go_sem,ao8,e]
     exact ac4 _
    | false=>
     have e:bf2 x 1=0:=by rw[x1,z0,and1 x hx2,hb]
     simp only[go_sem,ao8,e];refine aa8 s1 ?_
     cases hc:y.testBit 2 with
     | true=>
      have e2:¬ bf2 y 4=0:=by rw[y4,z0,gu6 y hy2,hc]; simp
      simp only[go_sem,ao8,e2]
      exact ac4 _
     | false=>
      have e2:bf2 y 4=0:=by rw[y4,z0,gu6 y hy2,hc]
      simp only[go_sem,ao8,e2];exact ac4 _
theorem gn2 (d:Dep):Bnd 0 (.ad4 d.cs):=.ad4 _ fun c hc=>by
 simp only[Dep.cs,List.mem_cons,List.not_mem_nil,or_false] at hc;rcases hc with rfl|rfl|rfl|rfl|rfl
 ·exact .str _
 ·exact .int _ _
 ·exact .int _ _
 ·exact .str _
 ·exact .str _
theorem ej7 (a d:Dep)(ha:Dep.small a)(hd:Dep.small d):PC Tryz.prog EE 87 [.agg a.cs,.agg d.cs] (.bool (meets a d)):=by
 refine ao4 hE fok87 (nZ rfl) (an3 (am5 a) (am5 d)) ?_;have hm:=eb8 a d ha hd;unfold meets;simp only[Dep.cs] at hm;by_cases h:a.name=d.name
 ·simp only[ic87,go_sem,Dep.cs,h] at hm ⊢;refine aa5 fok115 hm ?_;simp only[go_sem];exact ac4 _
 ·simp only[ic87,go_sem,Dep.cs,h];exact ac4 _
theorem fv4 (n:Str)(e:EVR):PC Tryz.prog EE 133 [.str n,.agg e.cs] (.agg (Dep.cs ⟨n,2,e⟩)):=by
 refine ao4 hE fok133 (nZ rfl) (an3 (.str _) (bn3 e)) ?_;simp only[ic133,go_sem,EVR.cs,Dep.cs]
 exact .keep _ (.agg _ fun c hc=>by
  simp only[List.mem_cons,List.not_mem_nil,or_false] at hc;rcases hc with rfl|rfl|rfl|rfl|rfl
  ·exact .str _
  ·exact .int _ _
  ·exact .int _ _
  ·exact .str _
  ·exact .str _)
theorem fv5 (p:aa4):PC Tryz.prog EE 114 [.agg p.cs] (.agg (own p).cs):=by
 refine ao4 hE fok114 (nZ rfl) (ah6 (av7 p)) ?_;have ho:=fv4 p.name p.evr;simp only[EVR.cs,Dep.cs] at ho;simp only[ic114,go_sem,aa4.cs,own,Dep.cs];refine aa5 fok133 ho ?_;simp only[go_sem];exact .keep _ (am5 (own p))
def Pkg.small (p:aa4):Prop:=EVR.small p.evr/\(∀ d∈p.provides,Dep.small d)/\(∀ d∈p.ac6,Dep.small d)/\p.provides.length<2^40/\p.ac6.length<2^40/\p.files.length<2^40
theorem dt1 {p:aa4}(h:Pkg.small p):Dep.small (own p):=⟨by show (0:Int)<=2; decide,by show (2:Int)<256; decide,h.1⟩
theorem as8 (p:aa4):p.cs.length=15:=rfl
theorem ao9 (p:aa4):p.cs.take 15=p.cs:=rfl
theorem ap3 (p:aa4):p.cs.all IV.leaf=true:=rfl
theorem gn3 (p:aa4)(d:Dep)(hp:Pkg.small p)(hd:Dep.small d):PC Tryz.prog EE 85 [.agg p.cs,.agg d.cs] (.bool (named p d)):=by
 refine ao4 hE fok85 (nZ rfl) (an3 (av7 p) (am5 d)) ?_;have ho:=fv5 p;have hm:=ej7 (own p) d (dt1 hp) hd;generalize hx:Dep.cs (own p)=x at ho hm;simp only[ic85,go_sem,as8,ao9,ap3,ak5,ai9,ah7];refine aa8 ho ?_;simp only[go_sem,ak5,ai9,ah7];refine aa8 hm ?_;simp only[go_sem];exact ac4 _
theorem fv6 (a d:Dep)(ha:Dep.small a)(hd:Dep.small d):PC Tryz.prog EE 86 ([]++[.agg a.cs]++[.ad4 d.cs]) (.bool (meets a d)):=by
 refine ao4 hE fok86 (nZ rfl) (an3 (am5 a) (gn2 d)) ?_;simp only[ic86,go_sem,ak5,ai9,ah7];refine aa5 fok87 (ej7 a d ha hd) ?_;simp only[go_sem];exact ac4 _
theorem eb9 (l:List Str)(s:Str)(hl:l.length<2^40):PC Tryz.prog EE 116 [.aa3 (l.map bn7),.str s] (.int .i64 (al3 (fun x=>decide (s=x)) l 0)):=by
 refine av1 fok116 (nZ rfl) fun σ=>?_
 simp only[ic116,go_sem];refine ab3 noT (fun i fr t=>t=σ/\fr=[(0,.aa3 (l.map bn7)),(1,.str s),(7,.int .i64 l.length),(8,.int .i64 i)]/\al3 (fun x=>decide (s=x)) l 0=al3 (fun x=>decide (s=x)) (l.drop i) i) l.length ⟨rfl,rfl,rfl⟩ ?_;rintro i fr t hi ⟨rfl,rfl,hf⟩;by_cases hlt:i<l.length
 ·obtain ⟨x,ha,_,hdr,hget,_⟩:=ae8 l i hlt;have c1:(i:Int)<l.length:=by omega
  have c2:(0:Int)<=i:=by omega
  have w1:=ad2 (i:=i) (by omega);rw[hdr,al3] at hf;by_cases e:s=x
  ·rw[if_pos (by simpa using e)] at hf;subst e;simp only[go_sem,c1,c2,hget,di3,bn7,hf,and_self]
  ·rw[if_neg (by simpa using e)] at hf;simp only[go_sem,c1,c2,hget,di3,bn7,e,w1];exact ⟨hlt,by rw[hf]; simp only[Int.natCast_add,Int.natCast_one]⟩
 ·have hi':i=l.length:=by omega
  subst hi';have c1:¬ (l.length:Int)<l.length:=by omega
  rw[List.drop_length] at hf;simp only[go_sem,c1,hf,al3,and_self]
theorem fv7 (l:List Str)(s:Str)(hl:l.length<2^40):PC Tryz.prog EE 88 [.aa3 (l.map bn7),.str s] (.bool (l.contains s)):=by
 refine av1 fok88 (nZ rfl) fun σ=>?_
 simp only[ic88,go_sem];refine aa5 fok116 (eb9 l s hl) ?_
 have e:l.any (fun x=>decide (s=x))=l.contains s:=by
  induction l with
  | nil=>rfl
  | cons a l ih=>rw[List.any_cons,List.contains_cons,ih (by simp at hl; omega)]; congr 1; by_cases h:s=a<;>simp[h]
 simp only[go_sem,bc3,e,and_self]
theorem ec1 (p:aa4)(d:Dep)(hp:Pkg.small p)(hd:Dep.small d):PC Tryz.prog EE 50 [.agg p.cs,.agg d.cs] (.bool (provides p d)):=by
 refine ao4 hE fok50 (nZ rfl) (an3 (av7 p) (am5 d)) ?_;have hn:=gn3 p d hp hd;have hc:=cp5 p.provides 86 [] [.ad4 d.cs] (fun a=>meets a d) (by have:=hp.2.2.2.1; omega) fok86.1 fun a ha=>fv6 a d (hp.2.1 a ha) hd
 have hs:=fv7 p.files d.name hp.2.2.2.2.2;have hf:(p.cs.drop 6).head? = some (deps p.provides):=rfl;have hg:(p.cs.drop 14).head? = some (strs p.files):=rfl;have d0:d.cs.head? = some (.str d.name):=rfl;have d1:(d.cs.drop 1).head? = some (.int .u8 d.op):=rfl;unfold provides
 cases hb:named p d with
 | true=>
  rw[hb] at hn;simp only[ic50,go_sem,as8,ao9,ap3,ak5,ai9,ah7];refine aa5 fok85 hn ?_;simp only[go_sem]
  exact ac4 _
 | false=>
  rw[hb] at hn;simp only[ic50,go_sem,as8,ao9,ap3,ak5,ai9,ah7];refine aa5 fok85 hn ?_;simp only[go_sem,hf];refine aa5 fok47 hc ?_
  cases ha:p.provides.any (fun a=>meets a d) with
  | true=>
   simp only[go_sem]
   exact ac4 _
  | false=>
   by_cases h0:d.op=0
   ·simp only[go_sem,d0,d1,h0,hg];refine aa5 fok88 hs ?_;simp only[go_sem];exact ac4 _
   ·simp only[go_sem,d0,d1,h0];exact ac4 _
end Go.Id.Tryz
set_option linter.all false
namespace Go.Id.Tryz
open Go Go.Id Go.Proofs Go.Id.Md
set_option maxRecDepth 100000
abbrev wr (n:Int):Int:=IntKind.i64.wrap n
mutual
def ptR:aa9->Int->Int
 | .mk _ _ xs,n=>ptL xs n 0
def ptL:List aa9->Int->Int->Int
 | [],_,w=>w
 | r::rs,n,w=>if w<n then ptL rs n (wr (wr (w+1)+ptR r (wr (n-w)))) else w
end
theorem ih9 (r:aa9)(n:Int):ptR r n=ptL r.args n 0:=by cases r with|mk k d xs=>simp only[ptR,aa9.args]
theorem gn7 (r:aa9):(r.cs.drop 6).head? = some (ae6 r.args):=by rw[aa9.au9]; rfl
def lR (l:List aa9):List IV:=[ae6 l]
def hm3:List (List aa9)->Int->Int->Int
 | [],_,w=>w
 | l::ls,n,w=>hm3 ls n (wr (w+ptL l n 0))
def szP (p:aa4)(n w:Int):Int:=hm3 (ax3 p) n (wr (wr (wr (wr (w+1)+p.provides.length)+p.ac6.length)+p.files.length))
def szL:List aa4->Int->Int->Int
 | [],_,w=>w
 | p::ps,n,w=>if w<n then szL ps n (szP p n w) else w
theorem fv9 {p:aa4}(h:p.Ok):∀ l∈ax3 p,l.length<2^62/\∀ r∈l,r.ok:=by
 intro l hl;simp only[ax3,List.mem_cons,List.not_mem_nil,or_false] at hl;have:=h.db2;simp only[aa4.rows,List.mem_cons,List.not_mem_nil,or_false,forall_eq_or_imp,forall_eq] at this;obtain ⟨a1,a2,a3,a4,a5,a6⟩:=this;rcases hl with rfl|rfl|rfl|rfl|rfl|rfl
 ·exact a1
 ·exact a2
 ·exact a3
 ·exact a4
 ·exact a5
 ·exact a6
structure ik7 (ab5:List ak2) (inst:List aa4):Prop where
 r1:ab5.length<2^20
 i1:inst.length<2^20
 s1:ag6 ab5<2^40
 rf:∀ r∈ab5,ak2.Fit r
 pf:∀ p∈inst,p.Fit
 ro:∀ r∈ab5,ak2.Ok r
 po:∀ p∈inst,p.Ok
theorem fb8 {p:aa4}(h:p.Tiny):Pkg.small p:=by
 have e:∀ v:EVR,v.tiny->EVR.small v:=fun v hv=>⟨by have:=hv.1; omega,by have:=hv.2; omega⟩
 refine ⟨e _ h.evr,fun d hd=>?_,fun d hd=>?_,?_,?_,?_⟩
 ·obtain ⟨a,b,c,_⟩:=h.bp7.2 d hd; exact ⟨a,b,e _ c⟩
 ·obtain ⟨a,b,c,_⟩:=h.obs.2 d hd; exact ⟨a,b,e _ c⟩
 ·have:=h.bp7.1; omega
 ·have:=h.obs.1; omega
 ·have:=h.files; omega
theorem ii1 {ab5:List ak2}{inst:List aa4}{p:Pool}(hI:ik7 ab5 inst)(h:co5 ab5 inst=.inl p):∀ x∈an9 p,x.Fit/\Pkg.small x/\x.Tiny:=by
 intro x hx;obtain ⟨h1,h2⟩:=ef7 h x hx;refine ⟨?_,fb8 (eg1 h1),eg1 h1⟩;rcases h2 with h2|⟨r,hr,h2⟩
 ·exact hI.pf x h2
 ·exact (hI.rf r hr).2 x h2
abbrev iv (n:Int):IV:=.int .i64 n
theorem ii2 {id n k:Nat}(h:k<=n):bh9 1 (some (.int .i64 (k:Int))) none (.slice id 0 n 1)=some (.slice id k (n-k) 1):=by
 have e:(0:Int)<=k:=by omega
 simp[bh9,bq4,cq2,e,h]
theorem is9 {pt:PT}{ct:CT}{P:Program}{E:Nat->IV}{e id:Nat}{z:List IV}{x:IX}{fr:Frm}{σ:Store}{K:IV->Store->Prop}:opT pt ct P E (.clr e z x) id fr σ K=bs8 (fh6 σ e z (x.ev E fr)) fun σ'=>σ'.next=σ.next/\K .undef σ':=rfl
end Go.Id.Tryz
