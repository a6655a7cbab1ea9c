/- The better ahead: Sort,walked. Conditions: sizes that fit. -/
import Derived.Test.YtlnkchkhffkofaaGreatDoorTNTK
import Derived.Test.YtlnkchkhffkofaaGreatDoorTNTG
import Derived.Test.YtlnkchkhffkofaaGreatDoorTNQO
import Derived.Sort.LotB
set_option linter.all false
namespace Go.Id.Tryz
open Go Go.Id Go.Proofs Go.Shelf Go.Id.Md
set_option maxRecDepth 100000
theorem ej6 (zs:List Int)(hz:zs≠[])(hl:zs.length<2^30)(σ:Store):C Tryz.prog EE 89 [.aa3 (zs.map Md.af3)] σ (ed2 σ zs):=by
 refine C_f fok89 (nZ rfl) ?_
 have hnil:∀ (d:TypeId),cl1 (.slice d) (.aa3 (zs.map Md.af3))=some false:=fun d=>by
  cases zs with
  | nil=>exact absurd rfl hz
  | cons z zs=>rfl
 simp only[ic89,go_sem,hnil];generalize hS:Store.put _ σ.next (ak3.row [])=S;have hSn:S.next=σ.next+2:=by rw[<- hS]; rfl
 have hSo:S.obj σ.next=some (.row []):=by rw[<- hS]; simp only[aa4,if_true]
 have hSk:∀ i,i<σ.next->S.obj i=σ.obj i:=fun i hi=>by
  have:¬ i=σ.next:=by omega
  rw[<- hS]; simp only[aa4,this,if_false]
 have hg:as8 S σ.next (.slice σ.next 0 0 1) []:=.inr ⟨σ.next,Nat.le_refl _,by omega,rfl,hSo⟩;obtain ⟨v',σ',h1,h2,h3,h4⟩:=gk5 (nid:=σ.next+1) (xs:=zs) hg (by simp only[List.length_nil]; omega);simp only[go_sem,h1];have h5:=h4 σ' rfl (by omega) (by omega) (by omega);rw[List.nil_append] at h5;exact ⟨⟨by omega,fun i hi=>by rw[h3 i hi (by omega)]; exact hSk i hi⟩,h5⟩
abbrev fl1 (o:ak1):={ k:Nat // k<o.a.l.length }
def al5 (o:ak1)(x:fl1 o):Int:=((x.1:Nat):Int)
def cfO (o:ak1)(x y:fl1 o):Int:=o.cmp (al5 o x) (al5 o y)
theorem iz3 (o:ak1)(hO:OOK o):bp9 (al5 o) (cfO o) 65 [o.v] []:=⟨fok65.1,fun x y=>ci7 o hO x.2 y.2⟩
theorem gt4 (o:ak1)(n:Int):PC Tryz.prog EE 90 [.int .i64 n,.ab6 [o.v]] (.bool (!o.a.is n)):=by
 refine ag3 hE fok90 (nZ rfl) (ah6 (.int _ _) (ah2 (ag7 o))) ?_;have h:=by3 o n
 simp only[ic90,go_sem]
 first|refine aa5 fok64 (h) ?_|refine aa6 (h) ?_
 simp only[go_sem];exact ad9 rfl
theorem jh5 (o:ak1)(hr:∀ n,o.a.is n=true->(o.a.pk n).evr.rel≠[]):Go.Sort.SWO (ltOf (cfO o)):=by
 have hs:∀ x:fl1 o,(o.a.pk (al5 o x)).evr.rel≠[]:=fun x=>hr _ (by unfold al5; rw[ah7.df3]; exact decide_eq_true x.2)
 refine ⟨fun x=>?_,fun x y z h1 h2=>?_,fun x y z h1 h2=>?_⟩
 ·unfold ltOf cfO; rw[o.dl9]; rfl
 ·unfold ltOf cfO at *;have t1:=o.wo.tr (al5 o x) (al5 o y) (al5 o z) (hs x) (hs y) (hs z);have t2:=o.wo.tr (al5 o z) (al5 o x) (al5 o y) (hs z) (hs x) (hs y);have n1:=o.wo.neg (al5 o x) (al5 o y);have n2:=o.wo.neg (al5 o y) (al5 o z);have n3:=o.wo.neg (al5 o x) (al5 o z);simp only[decide_eq_true_eq] at h1 h2 ⊢;omega
 ·unfold ltOf cfO at *;have t1:=o.wo.tr (al5 o z) (al5 o y) (al5 o x) (hs z) (hs y) (hs x);have n1:=o.wo.neg (al5 o x) (al5 o y);have n2:=o.wo.neg (al5 o y) (al5 o z);have n3:=o.wo.neg (al5 o x) (al5 o z);simp only[decide_eq_false_iff_not] at h1 h2 ⊢;omega
theorem ej7 (o:ak1)(hO:OOK o)(hr:∀ n,o.a.is n=true->(o.a.pk n).evr.rel≠[])(l:List Int)(hl0:l≠[])(hl:l.length<2^30)
  (hSF:∀ (inst:Inhabited (fl1 o)) (σ:Store) (id:Nat) (tl:List IV) (d:Array (fl1 o)),d.size<=l.length->id<σ.next->σ.obj id=some (.row (ax8 (al5 o) tl d)) ->
   C Tryz.prog EE 31 [.slice id 0 d.size 1,.func (.func 65) [o.v] []] σ fun v s=>v=.tuple []/\∃ d',Go.Sort.PermIn 0 d.size d d'/\Go.Sort.SortedIn (ltOf (cfO o)) 0 d.size d'/\σ.next<=s.next/\s.obj id=some (.row (ax8 (al5 o) tl d'))) :
  PC Tryz.prog EE 40 [o.v,.aa3 (l.map Md.af3)] (.aa3 ((o.bw3 l).map Md.af3)):=by
 refine ag3 hE fok40 (nZ rfl) (ah6 (ag7 o) (an9 l)) ?_;have olf:o.v.leaf=true:=rfl;have ocs:o.v.cs=[o.v]:=rfl;simp only[ic40,go_sem,olf,ocs];refine ac9 fok89 (ej6 l hl0 hl _) ?_;rintro v s ⟨hk,hrow⟩;refine ⟨hk.next,?_⟩;rcases hrow with ⟨_,h0⟩|⟨id,hid1,hid2,rfl,ho⟩
 ·exact absurd h0 hl0
 simp only[go_sem];refine ac9 fok88 (gb7 (fun z=>!o.a.is z) (by omega) ho (by rw[List.take_of_length_le (by simp)]) (by simp) fok90.1 (av3 (ah2 (ag7 o))) fun z _=>gt4 o z) ?_;rintro v s2 ⟨hn2,_,cs,rfl,ho2,hct,hcl⟩;refine ⟨hn2,?_⟩;have hff:(l.filter fun x=>!(!o.a.is x))=l.filter o.a.is:=List.filter_congr fun x _=>by rw[Bool.not_not]
 simp only[hff] at hct hcl ho2 ⊢;have hfl:(l.filter o.a.is).length<=l.length:=List.length_filter_le _ _;by_cases h0:(l.filter o.a.is).length=0
 ·have h0':((l.filter o.a.is).length:Int)=0:=by omega
  simp only[go_sem,h0']
  have:o.bw3 l=[]:=List.eq_nil_iff_forall_not_mem.2 fun x hx=>by
   obtain ⟨h1,h2⟩:=o.bw4.1 hx;have:=List.mem_filter.2 ⟨h1,h2⟩;rw[List.length_eq_zero_iff.1 h0] at this;cases this
  rw[this];exact .bg7
 have h0':¬ ((l.filter o.a.is).length:Int)=0:=by omega
 simp only[go_sem,h0'];obtain ⟨zs,hzs⟩:∃ zs,l.filter o.a.is=zs:=⟨_,rfl⟩;rw[hzs] at h0 h0' hct hcl hfl ⊢;have hall:∀ z∈zs,∃ k:Nat,z=k/\k<o.a.l.length:=fun z hz=>cw3 (List.mem_filter.1 (by rw[hzs]; exact hz)).2
 obtain ⟨ds,hds⟩:∃ ds:List (fl1 o),ds.map (al5 o)=zs:=by
  clear hzs h0 h0' hct hcl hfl
  induction zs with
  | nil=>exact ⟨[],rfl⟩
  | cons z zs ih=>
   obtain ⟨ds,h⟩:=ih fun y hy=>hall y (List.mem_cons_of_mem _ hy)
   obtain ⟨k,rfl,hk⟩:=hall z List.mem_cons_self;exact ⟨⟨k,hk⟩::ds,by rw[List.map_cons,h]; rfl⟩
 have hdl:ds.length=zs.length:=by rw[<- hds,List.length_map]
 have inst:Inhabited (fl1 o):=⟨ds[0]'(by omega)⟩
 have hrw:s2.obj id=some (.row (ax8 (al5 o) (cs.drop zs.length) ds.toArray)):=by
  rw[ho2,ax8,ej4];have h2:ds.toArray.toList.map (fun x=>IV.int .i64 (al5 o x))=zs.map cl7:=by rw[<- hds,List.map_map]; rfl
  rw[h2,<- hct,List.take_append_drop]
 have hsz:ds.toArray.size=zs.length:=hdl;have hS:=hSF inst s2 id (cs.drop zs.length) ds.toArray (by omega) (Nat.lt_of_lt_of_le hid2 hn2) hrw;rw[hsz] at hS;refine ac9 fok31 hS ?_;rintro v s3 ⟨rfl,d',hP,hU,hS3n,hS3r⟩;refine ⟨hS3n,?_⟩;simp only[go_sem];obtain ⟨zs2,hz2⟩:∃ zs2,d'.toList.map (al5 o)=zs2:=⟨_,rfl⟩;have hd's:d'.size=zs.length:=by rw[hP.1]; exact hdl
 have hz2l:zs2.length=zs.length:=by rw[<- hz2,List.length_map,Array.length_toList,hd's]
 have hpm:d'.toList.Perm ds:=by
  have h3:=hP.2.2;have e1:d'.extract 0 zs.length=d':=by rw[<- hd's]; exact Array.extract_size
  have e2:ds.toArray.extract 0 zs.length=ds.toArray:=by rw[<- hsz]; exact Array.extract_size
  rw[e1,e2] at h3;exact h3
 have hmem:∀ x,x∈zs2↔x∈l/\o.a.is x=true:=fun x=>by
  rw[<- hz2,(hpm.map _).mem_iff,hds,<- hzs,List.mem_filter]
 have hup:zs2.Pairwise fun x y=>x=y\/o.cmp x y<0:=by
  refine List.pairwise_iff_getElem.2 fun i j hi hj hij=>?_
  have hi2:i<d'.size:=by rw[hd's]; omega
  have hj2:j<d'.size:=by rw[hd's]; omega
  have h4:=hU i j (Nat.zero_le _) hij (by omega);rw[getElem!_pos d' i hi2,getElem!_pos d' j hj2] at h4;have g1:zs2[i]=al5 o d'[i]:=by simp[<- hz2]
  have g2:zs2[j]=al5 o d'[j]:=by simp[<- hz2]
  rw[g1,g2];unfold ltOf cfO at h4;have h5:¬ o.cmp (al5 o d'[j]) (al5 o d'[i])<0:=of_decide_eq_false h4;have n1:=o.wo.neg (al5 o d'[i]) (al5 o d'[j]);by_cases e:o.cmp (al5 o d'[i]) (al5 o d'[j])=0
  ·exact .inl (o.co4 e)
  ·exact .inr (by omega)
 have hrow2:s3.obj id=some (.row (zs2.map iv++cs.drop zs.length)):=by
  rw[hS3r,ax8,ej4,<- hz2,List.map_map]; rfl
 have hc:=dg4 (R:=fun x y=>o.cmp x y<0) (σ:=s3) (id:=id) (zs:=zs2) (fun a ha b hb c hc h1 h2=>o.lt_trans hr ((hmem a).1 ha).2 ((hmem b).1 hb).2 ((hmem c).1 hc).2 h1 h2) (by omega) hrow2 hup;rw[hz2l] at hc;refine ac9 fok51 hc ?_;rintro v s4 ⟨⟨D,cs2,hD1,hD2,rfl,ho4,hct2,hcl2⟩,hn4,_⟩;refine ⟨hn4,?_⟩;simp only[go_sem];have hDs:D=o.bw3 l:=o.dv7 hr hD1 fun x=>(hD2 x).trans (hmem x)
 rw[<- hDs];exact do3 ho4 hct2 hcl2
theorem gc6 (o:ak1)(hO:OOK o)(hr:∀ n,o.a.is n=true->(o.a.pk n).evr.rel≠[])(l:List Int)(hl0:l.length=5)(hlen:∀ k:Nat,k<=5->∃ L:Int,PC Tryz.prog EE 72 [.int .u64 k] (.int .i64 L)) :
  PC Tryz.prog EE 40 [o.v,.aa3 (l.map Md.af3)] (.aa3 ((o.bw3 l).map Md.af3)):=
 ej7 o hO hr l (fun h=>by rw[h] at hl0; cases hl0) (by omega) fun inst σ id tl d hd hid ho=>by
  obtain ⟨L,hL⟩:=hlen d.size (by omega);have hw:=jh5 o hr;obtain ⟨h1,h2⟩:=@Go.Sort.insertionSort_holds _ inst (ltOf (cfO o)) hw d 0 d.size (Nat.zero_le _) (Nat.le_refl _);exact (ej5 (al5 o) tl (iz3 o hO) d (by omega) L hL ho).mono fun v s ⟨e,h⟩=>⟨e,_,h1,h2,h.next,h.row⟩
open Go Go.Id Go.Proofs Go.Id.Md
theorem dz2 (l:List aa8)(n:Int)(hl:l.length<2^62)(ih:∀ r∈l,∀ m:Int,PC Tryz.prog EE 91 [ae8 r.args,.int .i64 m] (.int .i64 (ptR r m))) :
  PC Tryz.prog EE 91 [ae8 l,.int .i64 n] (.int .i64 (ptL l n 0)):=by
 refine ap7 fok91 (nZ rfl) fun σ=>?_
 simp only[ic91,go_sem];refine ab4 noT (fun i fr t=>∃ w:Int,t.obj=σ.obj/\t.next=σ.next/\fr=[(0,ae8 l),(1,.int .i64 n),(5,.int .i64 w),(6,.int .i64 i)]/\ptL l n 0=ptL (l.drop i) n w) l.length ⟨0,rfl,rfl,rfl,rfl⟩ ?_;rintro i fr t hi ⟨w,ho,hn,rfl,hf⟩;have ht:t=σ:=by cases t; cases σ; simp only at ho hn; rw[ho,hn]
 subst ht;by_cases hlt:i<l.length
 ·obtain ⟨r,ha,_,hdr,hget,_⟩:=af5 l i hlt;have c1:(i:Int)<l.length:=by omega
  have c2:(0:Int)<=i:=by omega
  have w1:=ad4 (i:=i) (by omega);rw[hdr,ptL] at hf;by_cases hw:w<n
  ·rw[if_pos hw] at hf;simp only[go_sem,c1,c2,hw,hget,ac2,gr6];refine aa5 fok91 (ih r ha _) ?_;simp only[go_sem,w1];exact ⟨hlt,_,rfl,hf⟩
  ·rw[if_neg hw] at hf;simp only[go_sem,c1,hw];rw[hf]
 ·have hi':i=l.length:=by omega
  subst hi';have c1:¬ (l.length:Int)<l.length:=by omega
  rw[List.drop_length,ptL] at hf;simp only[go_sem,c1,hf,and_self]
theorem gt5 (r:aa8):r.ok->∀ m:Int,PC Tryz.prog EE 91 [ae8 r.args,.int .i64 m] (.int .i64 (ptR r m)):=by
 induction r using aa8.ind with
 | h k d xs ih=>
  intro ho m;obtain ⟨_,_,_,h4,h5⟩:=aa8.hl8.1 ho;rw[in2];exact dz2 xs m h4 fun r hr m=>ih r hr (h5 r hr) m
theorem gt6 (l:List aa8)(hl:l.length<2^62)(h:∀ r∈l,r.ok)(n:Int):PC Tryz.prog EE 91 [ae8 l,.int .i64 n] (.int .i64 (ptL l n 0)):=
 dz2 l n hl fun r hr m=>gt5 r (h r hr) m
theorem bp4 (l:List aa2)(n:Int)(hl:l.length<2^62)(h:∀ p∈l,p.Ok):PC Tryz.prog EE 41 [bg8 l,.int .i64 n] (.int .i64 (szL l n 0)):=by
 refine ag3 hE fok41 (nZ rfl) (am2 (ax6 l) (.int _ _)) ?_;simp only[ic41,go_sem];refine ab4 noT (fun i fr t=>∃ w:Int,fr=[(0,bg8 l),(1,.int .i64 n),(5,.int .i64 w),(6,.int .i64 i)]/\szL l n 0=szL (l.drop i) n w) l.length ⟨0,rfl,rfl⟩ ?_;rintro i fr t hi ⟨w,rfl,hf⟩;by_cases hlt:i<l.length
 ·obtain ⟨p,ha,_,hdr,hget,_⟩:=af5 l i hlt;have c1:(i:Int)<l.length:=by omega
  have c2:(0:Int)<=i:=by omega
  have w1:=ad4 (i:=i) (by omega);rw[hdr,szL] at hf;by_cases hw:w<n
  ·rw[if_pos hw] at hf;have f6:(p.cs.drop 6).head? = some (deps p.provides):=rfl;have f7:(p.cs.drop 7).head? = some (ae8 p.requires):=rfl;have f8:(p.cs.drop 8).head? = some (ae8 p.conflicts):=rfl;have f9:(p.cs.drop 9).head? = some (deps p.ab2):=rfl;have f10:(p.cs.drop 10).head? = some (ae8 p.ac3):=rfl;have f11:(p.cs.drop 11).head? = some (ae8 p.ac1):=rfl;have f12:(p.cs.drop 12).head? = some (ae8 p.suggests):=rfl;have f13:(p.cs.drop 13).head? = some (ae8 p.ac5):=rfl;have f14:(p.cs.drop 14).head? = some (strs p.files):=rfl;simp only[go_sem,c1,c2,hw,hget,av9,aq7,ao7,f6,f7,f8,f9,f10,f11,f12,f13,f14,be9];have hL:∀ (k:Nat) (hk:k<(ay9 p).length),((ay9 p).map lR).getD k []=[ae8 (ay9 p)[k]]:=fun k hk=>by simp[List.getD_eq_getElem?_getD,hk,lR]
   have hok:=fz7 (h p ha);have hlen:(ay9 p).length=6:=rfl;unfold szP wr at hf;generalize hw0:IntKind.i64.wrap (IntKind.i64.wrap (IntKind.i64.wrap (IntKind.i64.wrap (w+1)+p.provides.length)+p.ab2.length)+p.files.length)=w0 at *;have hl6:IV.aa3 [[ae8 p.requires],[ae8 p.conflicts],[ae8 p.ac3],[ae8 p.ac1],[ae8 p.suggests],[ae8 p.ac5]]=.aa3 ((ay9 p).map lR):=rfl;rw[hl6];have hf':szL l n 0=szL (l.drop (i+1)) n (hr9 (ay9 p) n w0):=hf;clear hf hdr hget f6 f7 f8 f9 f10 f11 f12 f13 f14 hl6;refine ab4 noT (fun k fr u=>∃ v:Int,fr=[(0,bg8 l),(1,.int .i64 n),(5,.int .i64 v),(6,.int .i64 i),(51,.aa3 ((ay9 p).map lR)),(52,.int .i64 6),(53,.int .i64 k)]/\hr9 (ay9 p) n w0=hr9 ((ay9 p).drop k) n v) 6 ⟨w0,rfl,rfl⟩ ?_;rintro k fr u hk ⟨v,rfl,hs⟩;by_cases hlt2:k<6
   ·have d1:(k:Int)<6:=by omega
    have d2:(0:Int)<=k:=by omega
    have d3:(k:Int)<(ay9 p).length:=by omega
    have w2:=ad4 (i:=k) (by omega);have hk2:k<(ay9 p).length:=by omega
    have hgk:=hL k hk2;obtain ⟨o1,o2⟩:=hok _ (List.getElem_mem hk2);rw[List.drop_eq_getElem_cons hk2,hr9] at hs;generalize (ay9 p)[k]=x at *;simp only[go_sem,d1,d2,d3,hgk];refine aa5 fok91 (gt6 x o1 o2 n) ?_;simp only[go_sem,w2];exact ⟨hlt2,_,rfl,hs⟩
   ·have hk':k=6:=by omega
    subst hk';have d1:¬ ((6:Nat):Int)<6:=by omega
    rw[List.drop_of_length_le (by omega),hr9] at hs;rw[hs] at hf';simp only[go_sem,d1,w1];exact ⟨hlt,_,rfl,hf'⟩
  ·rw[if_neg hw] at hf;simp only[go_sem,c1,hw];rw[hf];exact ad8 _ _
 ·have hi':i=l.length:=by omega
  subst hi';have c1:¬ (l.length:Int)<l.length:=by omega
  rw[List.drop_length,szL] at hf;simp only[go_sem,c1];rw[hf];exact ad8 _ _
theorem dz3 (xs ys:List Int)(h1:xs.length<2^62)(h2:ys.length<2^62):PC Tryz.prog EE 87 [.aa3 (xs.map Md.af3),.aa3 (ys.map Md.af3)] (.bool (decide (xs=ys))):=by
 refine ag3 hE fok87 (nZ rfl) (am2 (an9 xs) (an9 ys)) ?_;by_cases hl:xs.length=ys.length
 case neg=>
  have hl':¬ (xs.length:Int)=ys.length:=by omega
  have:decide (xs=ys)=false:=decide_eq_false fun e=>hl (by rw[e])
  simp only[ic87,go_sem,hl',this];exact ab9 _
 have hl':(xs.length:Int)=ys.length:=by omega
 have hl2:decide ((xs.length:Int)=ys.length)=true:=decide_eq_true hl';simp only[ic87,go_sem,hl2];refine ab4 noT (fun i fr s=>fr=[(0,.aa3 (xs.map Md.af3)),(1,.aa3 (ys.map Md.af3)),(5,.int .i64 i)]/\xs.take i=ys.take i) xs.length ⟨rfl,rfl⟩ ?_;rintro i fr s hi ⟨rfl,hf⟩;by_cases hlt:i<xs.length
 ·obtain ⟨x,hx,hxi,hdr,hget,htk⟩:=af5 xs i hlt;obtain ⟨y,hy,hyi,hdr2,hget2,htk2⟩:=af5 ys i (by omega);have c1:(i:Int)<xs.length:=by omega
  have c3:(i:Int)<ys.length:=by omega
  have c2:(0:Int)<=i:=by omega
  have w1:=ad4 (i:=i) (by omega);simp only[go_sem,c1,c2,c3,hget,hget2,Md.af3,w1];by_cases hxy:x=y
  ·have hd:decide (x=y)=true:=decide_eq_true hxy;simp only[go_sem,hd,w1];refine ⟨hlt,?_⟩;rw[htk,htk2,hf,hxy]
  ·have hd:decide (x=y)=false:=decide_eq_false hxy;have hne:decide (xs=ys)=false:=decide_eq_false fun e=>hxy (by rw[e] at hxi; rw[hxi] at hyi; cases hyi; rfl)
   simp only[go_sem,hd,hne];exact ab9 _
 ·have hi':i=xs.length:=by omega
  subst hi';have c1:¬ (xs.length:Int)<xs.length:=by omega
  rw[List.take_length,hl,List.take_length] at hf;have:decide (xs=ys)=true:=decide_eq_true hf;simp only[go_sem,c1,this];exact ab9 _
theorem aok {ab5:List al1}{inst:List aa2}{p:Pool}{r:Req}(hI:gy5 ab5 inst)(hn:bq7 ab5 inst=.inl p)(hR:ei8 r)(he:au3 r p.inst=0):AOK ⟨p,r⟩:=by
 have hf:=fz8 hI hn;have hlen:(ac8 p).length<=256:=by simp only[ac8,List.length_map]; exact dl5 hn
 unfold au3 at he;split at he
 ·cases he
 split at he
 ·cases he
 rename_i hb;split at he
 ·cases he
 rename_i hj;refine ⟨hlen,fun x hx=>(hf x hx).2.1,fun x hx=>(hf x hx).1,fun x hx=>(hf x hx).2.2,?_,?_,?_,fun j hj=>(hR.ir8 j hj).1,fun j hjm=>?_⟩
 ·have h1:=bw2 hn
  have h2:p.inst=inst.length:=by
   unfold bq7 at hn;split at hn
   ·cases hn
   split at hn
   ·cases hn
   split at hn
   ·cases hn; rfl
   ·cases hn
  show p.inst<=((ac8 p).length:Nat);rw[h2,h1,List.length_append]; omega
 ·show r.an2.length<=64; omega
 ·show r.al4.length<=128; omega
 ·have h1:r.an2.all ck3=true:=by simpa using hj
  have h2:=List.all_eq_true.1 h1 j hjm;unfold ck3 at h2;simp only[Bool.and_eq_true,decide_eq_true_eq] at h2;exact ⟨h2.1.1,h2.1.2⟩
theorem gc7 {ab5:List al1}{inst:List aa2}{p:Pool}(hn:bq7 ab5 inst=.inl p):p.inst=inst.length:=by
 unfold bq7 at hn;split at hn
 ·cases hn
 split at hn
 ·cases hn
 split at hn
 ·cases hn; rfl
 ·cases hn
def cm9 (name ver:Str):aa2:={ name:=name,evr:=⟨0,ver,[49]⟩,an1:=2,vendor:=[],provides:=[],requires:=[],conflicts:=[],ab2:=[],ac3:=[],ac1:=[],suggests:=[],ac5:=[],files:=[] }
theorem dz4 {s:Store}(x:Str):cn4 s 0 (.str x) (.str x):=.keep _ (.str _)
theorem gc8 {s:Store}(k:IntKind)(n:Int):cn4 s 0 (.int k n) (.int k n):=.keep _ (.int _ _)
def by5 (ab5:List al1)(inst:List aa2):Pool:=match bq7 ab5 inst with
 | .inl p=>p
 | .inr _=>⟨[],0,[]⟩
def r15:Req:=⟨2,false,[],[],0⟩
def er6 (d:Dep):Bool:=decide (d.name.length<100)&&decide (d.evr.ver.length<100)&&decide (d.evr.rel.length<100)
def er7 (p:aa2):Bool:=decide (p.name.length<100)&&decide (p.vendor.length<100)&&decide (p.evr.ver.length<100)&&decide (p.evr.rel.length<100)&&decide (p.provides.length<100)&&p.provides.all er6&&decide (p.ab2.length<100)&&p.ab2.all er6 &&
 decide (p.files.length<100)&&p.files.all (fun s=>decide (s.length<100))&&p.rows.all fun x=>x.2.isEmpty
theorem co7 {p:aa2}(h:er7 p=true):p.Fit/\p.Ok:=by
 unfold er7 at h;simp only[Bool.and_eq_true,decide_eq_true_eq,List.all_eq_true] at h;obtain ⟨⟨⟨⟨⟨⟨⟨⟨⟨⟨h1,h2⟩,h3⟩,h4⟩,h5⟩,h6⟩,h7⟩,h8⟩,h9⟩,h10⟩,h11⟩:=h
 have hd:∀ d:Dep,er6 d=true->d.fit:=fun d hd=>by
  unfold er6 at hd;simp only[Bool.and_eq_true,decide_eq_true_eq] at hd;exact ⟨by omega,by omega,by omega⟩
 have hr:∀ x∈p.rows,x.2=[]:=fun x hx=>List.isEmpty_iff.1 (h11 x hx)
 exact ⟨⟨by omega,⟨by omega,by omega⟩,⟨by omega,fun d hx=>hd d (h6 d hx)⟩,⟨by omega,fun d hx=>hd d (h8 d hx)⟩,⟨by omega,fun x hx=>by have:=h10 x hx; omega⟩,fun x hx=>by rw[hr x hx]; exact ⟨by simp,fun r h=>by cases h⟩⟩,
  ⟨by omega,by omega,⟨by omega,by omega⟩,⟨by omega,fun d hx=>hd d (h6 d hx)⟩,⟨by omega,fun d hx=>hd d (h8 d hx)⟩,⟨by omega,fun x hx=>by have:=h10 x hx; omega⟩,fun x hx=>by rw[hr x hx]; exact ⟨by simp,fun r h=>by cases h⟩⟩⟩
def gc9 (ab5:List al1)(inst:List aa2):Bool:=decide (ab5.length<100)&&decide (inst.length<1000)&&inst.all er7&&ab5.all (fun r=>decide (r.packages.length<1000)&&r.packages.all er7)&&decide (ag4 ab5<100000)
theorem gt7 {ab5:List al1}{inst:List aa2}(h:gc9 ab5 inst=true):gy5 ab5 inst:=by
 unfold gc9 at h;simp only[Bool.and_eq_true,decide_eq_true_eq,List.all_eq_true] at h;obtain ⟨⟨⟨⟨h1,h2⟩,h3⟩,h4⟩,h5⟩:=h;exact ⟨by omega,by omega,by omega,fun r hr=>⟨by have:=(h4 r hr).1; omega,fun p hp=>(co7 ((h4 r hr).2 p hp)).1⟩,fun p hp=>(co7 (h3 p hp)).1,fun r hr=>⟨by have:=(h4 r hr).1; omega,fun p hp=>(co7 ((h4 r hr).2 p hp)).2⟩,fun p hp=>(co7 (h3 p hp)).2⟩
theorem ip3:ei8 r15:=⟨by decide,by decide,fun j h=>by cases h⟩
def lgP (m:Int):List al1->Int->Int->Int×Int
 | [],w,n=>(w,n)
 | r::rs,w,n=>if w<m then lgP m rs (wr (wr (w+1)+szL r.packages m 0)) (wr (n+r.packages.length)) else (w,n)
def by6 (ab5:List al1)(inst:List aa2)(r:Req):Bool:=decide (800<=(lgP 800 ab5 (szL inst 800 0) inst.length).1)||decide (40<(lgP 800 ab5 (szL inst 800 0) inst.length).2)||decide (20<r.an2.length)||decide (20<r.al4.length)
theorem fj9 (ab5:List al1)(inst:List aa2)(r:Req)(h1:ab5.length<2^62)(h2:inst.length<2^62)(hr:∀ r∈ab5,al1.Ok r)(hi:∀ p∈inst,p.Ok) :
  PC Tryz.prog EE 13 [az6 ab5,bg8 inst,.agg r.cs] (.bool (by6 ab5 inst r)):=by
 refine ag3 hE fok13 (nZ rfl) (aw5 (bj4 ab5) (ax6 inst) (.agg _ (bj7 r))) ?_;have k2:(r.cs.drop 2).head? = some (bs3 r.an2):=rfl;have k3:(r.cs.drop 3).head? = some (aw6 r.al4):=rfl;unfold by6;simp only[ic13,go_sem,ar1]
 first|refine aa5 fok41 (bp4 inst 800 h2 hi) ?_|refine aa6 (bp4 inst 800 h2 hi) ?_
 simp only[go_sem];refine ab4 noT (fun i fr t=>∃ w n:Int,fr=[(0,az6 ab5),(5,.ab6 r.cs),(7,.int .i64 w),(8,.int .i64 n),(9,.int .i64 i)]/\lgP 800 ab5 (szL inst 800 0) inst.length=lgP 800 (ab5.drop i) w n) ab5.length ⟨_,_,rfl,rfl⟩ ?_;rintro i fr t hle ⟨w,n,rfl,hf⟩;by_cases hlt:i<ab5.length/\w<800
 ·obtain ⟨hlt,hw⟩:=hlt;obtain ⟨x,ha,_,hdr,hget,_⟩:=af5 ab5 i hlt;have c1:(i:Int)<ab5.length:=by omega
  have c2:(0:Int)<=i:=by omega
  have w1:=ad4 (i:=i) (by omega);rw[hdr,lgP,if_pos hw] at hf;have f1:(x.cs.drop 1).head? = some (bg8 x.packages):=rfl;simp only[go_sem,c1,c2,hw,hget,co6,f1]
  first|refine aa5 fok41 (bp4 x.packages 800 (hr x ha).1 (hr x ha).2) ?_|refine aa6 (bp4 x.packages 800 (hr x ha).1 (hr x ha).2) ?_
  simp only[go_sem,c1,c2,hget,co6,f1,w1];exact ⟨hlt,_,_,rfl,hf⟩
 have hw2:lgP 800 (ab5.drop i) w n=(w,n):=by
  by_cases hl2:i<ab5.length
  ·obtain ⟨x,ha,_,hdr,hget,_⟩:=af5 ab5 i hl2;rw[hdr,lgP,if_neg (fun h=>hlt ⟨hl2,h⟩)]
  ·rw[List.drop_of_length_le (by omega)]; rfl
 rw[hw2] at hf;rw[hf];simp only;by_cases hl2:i<ab5.length
 case' pos=>
  have c1:(i:Int)<ab5.length:=by omega
  have hw:¬ w<800:=fun h=>hlt ⟨hl2,h⟩
  have hw':800<=w:=by omega
  simp only[go_sem,c1,hw,hw'];exact ad9 (by simp)
 have c1:¬ (i:Int)<ab5.length:=by omega
 by_cases hw:800<=w
 ·simp only[go_sem,c1,hw];exact ad9 (by simp)
 by_cases hn:40<n
 ·simp only[go_sem,c1,hw,hn];exact ad9 (by simp)
 by_cases hj:20<r.an2.length
 ·have hj':(20:Int)<r.an2.length:=by omega
  simp only[go_sem,c1,hw,hn,k2,hj'];exact ad9 (by simp[hj])
 have hj':¬ (20:Int)<r.an2.length:=by omega
 by_cases he:20<r.al4.length
 ·have he':(20:Int)<r.al4.length:=by omega
  simp only[go_sem,c1,hw,hn,k2,k3,hj',he'];exact ad9 (by simp[he])
 ·have he':¬ (20:Int)<r.al4.length:=by omega
  simp only[go_sem,c1,hw,hn,k2,k3,hj',he'];exact ad9 (by simp[he,hj])
def ci8 (p:Pool)(r:Req)(n:Nat):ak1:=⟨⟨p,r⟩,az9 (ac8 p) n⟩
def gt8 (ab5:List al1)(inst:List aa2)(r:Req):IV:=match bq7 ab5 inst with
 | .inl p=>if au3 r p.inst=0 then .tuple [(ci8 p r inst.length).v,(ah7.mk p r).v,p.v,.bool true] else .tuple [.ab7,.ab7,.ab7,.bool false]
 | .inr _=>.tuple [.ab7,.ab7,.ab7,.bool false]
theorem ej8 {ab5:List al1}{inst:List aa2}{p:Pool}(hn:bq7 ab5 inst=.inl p):∀ q∈ac8 p,ag8 q=true:=fun q hq=>(en6 hn q hq).1
theorem gd1 (ab5:List al1)(inst:List aa2)(r:Req)(hI:gy5 ab5 inst)(hR:ei8 r):PC Tryz.prog EE 14 [az6 ab5,bg8 inst,.agg r.cs] (gt8 ab5 inst r):=by
 refine ag3 hE fok14 (nZ rfl) (aw5 (bj4 ab5) (ax6 inst) (.agg _ (bj7 r))) ?_;have hp:=ci5 ab5 inst hI.r1 hI.i1 hI.s1 hI.rf hI.pf;unfold gt8
 cases hn:bq7 ab5 inst with
 | inr e=>
  rw[hn] at hp;have he:¬ e=0:=by rcases gm8 hn with rfl|rfl<;>decide
  simp only[ik3] at hp;simp only[ic14,go_sem,ar1]
  first|refine aa5 fok7 (hp) ?_|refine aa6 (hp) ?_
  simp only[go_sem,he]
  exact .keep _ (.tuple _ (du1 .ab7 .ab7 .ab7 (.bool _)))
 | inl p=>
  rw[hn] at hp;have hf:=fz8 hI hn;have hlen:(ac8 p).length<=256:=by simp only[ac8,List.length_map]; exact dl5 hn
  have ha:=gb9 p r hR hlen fun x hx=>⟨(hf x hx).1,(hf x hx).2.2⟩
  have hb:=aq2 ⟨p,r⟩;simp only[ik3] at hp;unfold ik6 at ha;simp only[ic14,go_sem,ar1]
  first|refine aa5 fok7 (hp) ?_|refine aa6 (hp) ?_
  by_cases he:au3 r p.inst=0
  ·rw[if_pos he] at ha;have hA:=aok hI hn hR he;have hP:=fj6 ⟨p,r⟩ inst.length hA (ej8 hn) (gc7 hn);have hbo:=ag7 (ci8 p r inst.length);have hnl:∀ d:TypeId,cl1 (.pointer d) (ci8 p r inst.length).v=some false:=fun _=>rfl
   have hP:PC Tryz.prog EE 43 [(ah7.mk p r).v] (.tuple [(ci8 p r inst.length).v,.int .i64 0]):=hP;simp only[go_sem,he,bs9,bp1]
   first|refine aa5 fok42 (ha) ?_|refine aa6 (ha) ?_
   simp only[go_sem]
   first|refine aa5 fok43 (hP) ?_|refine aa6 (hP) ?_
   simp only[go_sem,hnl];exact .keep _ (.tuple _ (du1 hbo hb (aq8 p) (.bool _)))
  ·rw[if_neg he] at ha;simp only[go_sem,bs9,bp1]
   first|refine aa5 fok42 (ha) ?_|refine aa6 (ha) ?_
   simp only[go_sem,he];exact .keep _ (.tuple _ (du1 .ab7 .ab7 .ab7 (.bool _)))
theorem ook {ab5:List al1}{inst:List aa2}{p:Pool}{r:Req}(hI:gy5 ab5 inst)(hn:bq7 ab5 inst=.inl p)(hR:ei8 r)(he:au3 r p.inst=0)(n:Nat):OOK (ci8 p r n):=⟨aok hI hn hR he,List.length_map ..⟩
theorem ip4 {q:aa2}(h:ag8 q=true):q.evr.rel≠[]:=by
 unfold ag8 bg3 bg2 at h;simp only[Bool.and_eq_true,Bool.or_eq_true,decide_eq_true_eq] at h;intro e;rw[e] at h;simp at h
theorem gd2 {p:Pool}{r:Req}{n:Nat}(h:∀ q∈ac8 p,ag8 q=true):∀ k,(ci8 p r n).a.is k=true->((ci8 p r n).a.pk k).evr.rel≠[]:=fun k hk=>by
 obtain ⟨m,rfl,hm⟩:=cw3 hk;rw[dy9 _ hm];exact ip4 (h _ (List.getElem_mem hm))
theorem cu6 (name ver:Str):PC Tryz.prog EE 38 [.str name,.str ver] (.agg (cm9 name ver).cs):=by
 refine ag3 hE fok38 (nZ rfl) (ah6 (.str _) (.str _)) ?_;simp only[ic38,go_sem];exact .ih6 (.cons (dz4 _) (.cons (gc8 _ _) (.cons (dz4 _) (.cons (dz4 _) (.cons (gc8 _ _) (.cons (dz4 _) (.cons .bg7 (.cons .bg7 (.cons .bg7 (.cons .bg7 (.cons .bg7 (.cons .bg7 (.cons .bg7 (.cons .bg7 (.cons .bg7 .nil)))))))))))))))
theorem gt9 (a b:List Int)(h1:a.length<2^62)(h2:b.length<2^62):PC Tryz.prog EE 39 [.aa3 (a.map Md.af3),.aa3 (b.map Md.af3)] (.bool (decide (a=b))):=by
 refine ag3 hE fok39 (nZ rfl) (ah6 (an9 _) (an9 _)) ?_;have h:=dz3 a b h1 h2;simp only[ic39,go_sem]
 first|refine aa5 fok87 (h) ?_|refine aa6 (h) ?_
 simp only[go_sem];exact ad9 rfl
def bq1:List al1:=[⟨1,[cm9 [97] [49],cm9 [97] [50]]⟩,⟨9,[cm9 [97] [49]]⟩]
def ea2:List aa2:=[cm9 [122] [48]]
def ax9:ak1:=ci8 (by5 bq1 ea2) r15 1
theorem ia1:bq7 bq1 ea2=.inl (by5 bq1 ea2):=by kernel_rfl
theorem ip5:au3 r15 (by5 bq1 ea2).inst=0:=by kernel_rfl
theorem gz3:gy5 bq1 ea2:=gt7 (by kernel_rfl)
theorem iz4:ax9.a.l.length=4:=by kernel_rfl
theorem b21:ax9.better 2 1=true:=by kernel_rfl
theorem b12:ax9.better 1 2=false:=by kernel_rfl
theorem b32:ax9.better 3 2=true:=by kernel_rfl
theorem b03:ax9.better 0 3=true:=by kernel_rfl
theorem c03:decide (ax9.cmp 0 3<0)=true:=by kernel_rfl
theorem c02:decide (ax9.cmp 0 2<0)=true:=by kernel_rfl
theorem c01:decide (ax9.cmp 0 1<0)=true:=by kernel_rfl
theorem c32:decide (ax9.cmp 3 2<0)=true:=by kernel_rfl
theorem c31:decide (ax9.cmp 3 1<0)=true:=by kernel_rfl
theorem c21:decide (ax9.cmp 2 1<0)=true:=by kernel_rfl
theorem gd3:OOK ax9:=ook gz3 ia1 ip3 ip5 1
theorem ip6:∀ k,ax9.a.is k=true->(ax9.a.pk k).evr.rel≠[]:=gd2 (ej8 ia1)
theorem ip7:ax9.bw3 [1,2,3,0,1]=[0,3,2,1]:=by
 refine (ax9.dv7 ip6 ?_ fun x=>?_).symm
 ·have h1:=of_decide_eq_true c03;have h2:=of_decide_eq_true c02;have h3:=of_decide_eq_true c01;have h4:=of_decide_eq_true c32;have h5:=of_decide_eq_true c31;have h6:=of_decide_eq_true c21;simp[h1,h2,h3,h4,h5,h6]
 ·unfold ah7.is;rw[iz4];simp only[List.mem_cons,List.not_mem_nil,or_false,Bool.and_eq_true,decide_eq_true_eq];omega
theorem iz5:PC Tryz.prog EE 14 [az6 bq1,bg8 ea2,.agg r15.cs] (.tuple [ax9.v,(ah7.mk (by5 bq1 ea2) r15).v,(by5 bq1 ea2).v,.bool true]):=by
 have h:=gd1 bq1 ea2 r15 gz3 ip3;unfold gt8 at h;rw[ia1] at h;simp only[ip5,if_true] at h;exact h
theorem bp5:PC Tryz.prog EE 12 [] (.bool true):=by
 refine ag3 hE fok12 (nZ rfl) (fun a h=>by cases h) ?_;have b1:=cu6 [97] [49];have b2:=cu6 [97] [50];have b3:=cu6 [122] [48];have ho:=iz5;have m21:=bj9 ax9 gd3 2 1;have m12:=bj9 ax9 gd3 1 2;have m32:=bj9 ax9 gd3 3 2;have m03:=bj9 ax9 gd3 0 3;rw[b21] at m21;rw[b12] at m12;rw[b32] at m32;rw[b03] at m03;have hs:=gc6 ax9 gd3 ip6 [1,2,3,0,1] rfl hz9;rw[ip7] at hs;have ha:=gt9 [0,3,2,1] [0,3,2,1] (by decide) (by decide);rw[decide_eq_true rfl] at ha;have hi:bg8 ea2=.aa3 [(cm9 [122] [48]).cs]:=rfl;have hrep:az6 bq1=.aa3 [[.int .i64 1,.aa3 [(cm9 [97] [49]).cs,(cm9 [97] [50]).cs]],[.int .i64 9,.aa3 [(cm9 [97] [49]).cs]]]:=rfl;have hr5:r15.cs=[.int .u8 2,.bool false,bs3 [],aw6 [],.int .i64 0]:=rfl;have hw:∀ {v:IV} {σ:Store},Bnd 0 v->Frz σ (fun _=>true=true) v v:=fun h=>.keep _ (h.weak fun _ _=>rfl)
 have ho2:PC Tryz.prog EE 14 [az6 bq1,bg8 ea2,.agg [.int .u8 2,.bool false,.aa1,.aa1,.int .i64 0]] (.tuple [ax9.v,(ah7.mk (by5 bq1 ea2) r15).v,(by5 bq1 ea2).v,.bool true]):=dk5 (args':=[az6 bq1,bg8 ea2,.agg r15.cs]) rfl (fun σ i hi=>by
  match i,hi with
  | 0,_=>exact hw (bj4 _)
  | 1,_=>exact hw (ax6 _)
  | 2,_=>
   rw[hr5];exact .ih6 (.cons (hw (.int _ _)) (.cons (hw (.bool _)) (.cons .bg7 (.cons .bg7 (.cons (hw (.int _ _)) .nil)))))) ho
 have hcs1:(cm9 [97] [49]).cs=[.str [97],.int .i64 0,.str [49],.str [49],.int .u8 2,.str [],.aa3 [],.aa3 [],.aa3 [],.aa3 [],.aa3 [],.aa3 [],.aa3 [],.aa3 [],.aa3 []]:=rfl;have hcs2:(cm9 [97] [50]).cs=[.str [97],.int .i64 0,.str [50],.str [49],.int .u8 2,.str [],.aa3 [],.aa3 [],.aa3 [],.aa3 [],.aa3 [],.aa3 [],.aa3 [],.aa3 [],.aa3 []]:=rfl;have hcs3:(cm9 [122] [48]).cs=[.str [122],.int .i64 0,.str [48],.str [49],.int .u8 2,.str [],.aa3 [],.aa3 [],.aa3 [],.aa3 [],.aa3 [],.aa3 [],.aa3 [],.aa3 [],.aa3 []]:=rfl;rw[hi,hrep,hcs1,hcs2,hcs3] at ho2;rw[hcs1] at b1;rw[hcs2] at b2;rw[hcs3] at b3;generalize ax9.v=O at *;generalize (ah7.mk (by5 bq1 ea2) r15).v=A1 at *;generalize (by5 bq1 ea2).v=P1 at *;simp only[List.map_cons,List.map_nil,Md.af3] at hs ha;simp only[ic12,go_sem]
 first|refine aa5 fok38 (b1) ?_|refine aa6 (b1) ?_
 simp only[go_sem]
 first|refine aa5 fok38 (b2) ?_|refine aa6 (b2) ?_
 simp only[go_sem]
 first|refine aa5 fok38 (b1) ?_|refine aa6 (b1) ?_
 simp only[go_sem]
 first|refine aa5 fok38 (b3) ?_|refine aa6 (b3) ?_
 simp only[go_sem]
 first|refine aa5 fok14 (ho2) ?_|refine aa6 (ho2) ?_
 simp only[go_sem]
 first|refine aa5 fok22 (m21) ?_|refine aa6 (m21) ?_
 simp only[go_sem]
 first|refine aa5 fok22 (m12) ?_|refine aa6 (m12) ?_
 simp only[go_sem]
 first|refine aa5 fok22 (m32) ?_|refine aa6 (m32) ?_
 simp only[go_sem]
 first|refine aa5 fok22 (m03) ?_|refine aa6 (m03) ?_
 simp only[go_sem]
 first|refine aa5 fok40 (hs) ?_|refine aa6 (hs) ?_
 simp only[go_sem]
 first|refine aa5 fok39 (ha) ?_|refine aa6 (ha) ?_
 simp only[go_sem];exact ad9 rfl
open Go Go.Id Go.Proofs
theorem ge9 {a b:Nat}(h:a+b<2^62):IntKind.i64.wrap ((a:Int)+(b:Int))=((a+b:Nat):Int):=by rw[wrap64 (by omega) (by omega)]; omega
theorem fl2 {a b:Nat}(h:b<=a)(h2:a<2^62):IntKind.i64.wrap ((a:Int)-(b:Int))=((a-b:Nat):Int):=by rw[wrap64 (by omega) (by omega)]; omega
theorem bg9 {a:Nat}(h:1<=a)(h2:a<2^62):IntKind.i64.wrap ((a:Int)-1)=((a-1:Nat):Int):=by rw[wrap64 (by omega) (by omega)]; omega
theorem jh6 {a:Nat}(h:a<2^60):IntKind.i64.wrap (2*(a:Int))=((2*a:Nat):Int):=by rw[wrap64 (by omega) (by omega)]; omega
section
variable {α:Type} [Inhabited α] (emb:α->Int) (tl:List IV) {cf:α->α->Int} {g:Nat} {first cap:List IV} {id:Nat}
theorem ai7 {d:Array α}{i j:Nat}(hi:i<d.size)(hj:j<d.size) :
  ((ax8 emb tl d).drop i).head? = some (.int .i64 (emb d[i]!))/\((ax8 emb tl d).drop j).head? = some (.int .i64 (emb d[j]!))/\i+1<=(ax8 emb tl d).length/\j+1<=(as6 (ax8 emb tl d) i [.int .i64 (emb d[j]!)]).length /\
  as6 (as6 (ax8 emb tl d) i [.int .i64 (emb d[j]!)]) j [.int .i64 (emb d[i]!)]=ax8 emb tl (Go.Sort.swp d i j):=
 ⟨ai6 emb tl hi,ai6 emb tl hj,by rw[bp3]; omega,by rw[af8 (by rw[bp3]; simp only[List.length_singleton]; omega),bp3]; omega,er5 emb tl hi hj⟩
theorem SO.put {d d':Array α}{σ u:Store}{n:Nat}(h:SO emb tl id d σ u)(hn:σ.next<=n){a:List IV}:SO emb tl id d' σ ⟨n,(((⟨n,u.obj⟩:Store).put id (.row a)).put id (.row (ax8 emb tl d'))).obj⟩:=
 ⟨hn,fun i hi=>by simp only[aa4,hi,if_false]; exact h.other i hi,by simp only[aa4,if_true]⟩
theorem gd4 {f:List IV}{σ:Store}(d:Array α)(a b:Nat)(fv:IV)(hab:a<b)(hb:b<=d.size)(hz:d.size<2^40)(ho:σ.obj id=some (.row (ax8 emb tl d))) :
  C Tryz.prog EE 154 [.slice id 0 d.size 1,.int .i64 a,.int .i64 b,fv] σ fun v s=>v=.tuple []/\SO emb tl id (Go.Sort.reverseRange d a b) σ s:=by
 refine C_f fok154 (nZ rfl) ?_;have w0:=bg9 (a:=b) (by omega) (by omega);simp only[ic154,go_sem,w0];refine ab4 noT (fun k fr t=>∃ (i j:Nat) (dk:Array α),fr=[(0,.slice id 0 d.size 1),(8,.int .i64 (i:Int)),(9,.int .i64 (j:Int))]/\SO emb tl id dk σ t/\dk.size=d.size/\k<=i/\j<d.size/\Go.Sort.reverseLoop i j dk=Go.Sort.reverseRange d a b) d.size ⟨a,b-1,d,rfl,⟨Nat.le_refl _,fun _ _=>rfl,ho⟩,rfl,Nat.zero_le _,by omega,rfl⟩ ?_;rintro k fr t hk ⟨i,j,dk,rfl,hS,hsz,hki,hjd,hI⟩;by_cases hlt:i<j
 ·have c1:(i:Int)<(j:Int):=by omega
  have c2:(0:Int)<=i:=by omega
  have c3:(i:Int)<d.size:=by omega
  have c4:(0:Int)<=j:=by omega
  have c5:(j:Int)<d.size:=by omega
  have w1:=ad4 (i:=i) (by omega);have w2:=bg9 (a:=j) (by omega) (by omega);obtain ⟨r1,r2,r3,r4,r5⟩:=ai7 emb tl (d:=dk) (i:=i) (j:=j) (by omega) (by omega);rw[Go.Sort.reverseLoop,if_pos hlt] at hI;simp only[go_sem,c1,c2,c3,c4,c5,hS.row,r1,r2,r3,r4,r5,w1,w2,Nat.mul_one];refine ⟨by omega,i+1,j-1,Go.Sort.swp dk i j,rfl,⟨?_,fun m hm=>?_,?_⟩,by rw[swp_size]; exact hsz,by omega,by omega,hI⟩
  ·have:=hS.next; simp only[aa9]; omega
  ·simp only[aa4,hm,if_false]; exact hS.other m hm
  ·simp only[aa4,if_true]
 ·have c1:¬ (i:Int)<(j:Int):=by omega
  rw[Go.Sort.reverseLoop,if_neg hlt] at hI;simp only[go_sem,c1];rw[<- hI];exact ⟨hS.next,hS.other,hS.row⟩
theorem by7 (lt:α->α->Bool)(hi fst:Nat):∀ (n root:Nat) (d:Array α),hi-root<=n->(Go.Sort.siftDown lt hi fst root d).size=d.size:=by
 intro n
 induction n with
 | zero=>
  intro root d h
  rw[Go.Sort.siftDown,dif_pos (by omega)]
 | succ n ih=>
  intro root d h;rw[Go.Sort.siftDown]
  repeat' split
  all_goals first|rfl|(rw[ih _ _ (by omega),swp_size])
theorem dh2 (hC:bp9 emb cf g first cap){σ:Store}(d:Array α)(lo hi fst:Nat)(hb:fst+hi<=d.size)(hz:d.size<2^40)(hlo:lo<2^40)(ho:σ.obj id=some (.row (ax8 emb tl d))) :
  C Tryz.prog EE 210 [.slice id 0 d.size 1,.int .i64 lo,.int .i64 hi,.int .i64 fst,.func (.func g) first cap] σ fun v s=>v=.tuple []/\SO emb tl id (Go.Sort.siftDown (ltOf cf) hi fst lo d) σ s:=by
 refine C_f fok210 (nZ rfl) ?_;simp only[ic210,go_sem];refine ab4 noT (fun k fr t=>∃ (root:Nat) (dk:Array α),fr=[(0,.slice id 0 d.size 1),(2,.int .i64 hi),(3,.int .i64 fst),(4,.func (.func g) first cap),(10,.int .i64 (root:Int))]/\SO emb tl id dk σ t/\dk.size=d.size/\k<=root/\root<2^40/\Go.Sort.siftDown (ltOf cf) hi fst root dk=Go.Sort.siftDown (ltOf cf) hi fst lo d) hi ⟨lo,d,rfl,⟨Nat.le_refl _,fun _ _=>rfl,ho⟩,rfl,Nat.zero_le _,hlo,rfl⟩ ?_;rintro k fr t hk ⟨root,dk,rfl,hS,hsz,hkr,hrt,hI⟩;have w1:=jh6 (a:=root) (by omega);have w2:=ad4 (i:=2*root) (by omega);have w3:=ad4 (i:=2*root+1) (by omega);rw[Go.Sort.siftDown] at hI;by_cases hge:2*root+1≥hi
 ·have c1:((hi:Nat):Int)<=((2*root+1:Nat):Int):=by omega
  rw[dif_pos hge] at hI;simp only[go_sem,w1,w2,c1];rw[<- hI];exact ⟨hS.next,hS.other,hS.row⟩
 have c1:¬ ((hi:Nat):Int)<=((2*root+1:Nat):Int):=by omega
 have v1:=ge9 (a:=fst) (b:=root) (by omega);have v2:=ge9 (a:=fst) (b:=2*root+1) (by omega);have v3:=ad4 (i:=fst+(2*root+1)) (by omega);have p1:(0:Int)<=((fst+(2*root+1):Nat):Int):=by omega
 have p2:((fst+(2*root+1):Nat):Int)<d.size:=by omega
 have p3:(0:Int)<=((fst+root:Nat):Int):=by omega
 have p4:((fst+root:Nat):Int)<d.size:=by omega
 rw[dif_neg hge] at hI;have x1:=ai6 emb tl (d:=dk) (k:=fst+(2*root+1)) (by omega);have x0:=ai6 emb tl (d:=dk) (k:=fst+root) (by omega);by_cases h2:2*root+2<hi
 ·have c2:((2*root+1+1:Nat):Int)<hi:=by omega
  have p5:(0:Int)<=((fst+(2*root+1)+1:Nat):Int):=by omega
  have p6:((fst+(2*root+1)+1:Nat):Int)<d.size:=by omega
  have x2:=ai6 emb tl (d:=dk) (k:=fst+(2*root+1)+1) (by omega);have e2:(2*root+1+1<hi)=True:=eq_true (by omega);have hc1:=hC.pc dk[fst+(2*root+1)]! dk[fst+(2*root+1)+1]!;simp only[go_sem,w1,w2,w3,c1,c2,p1,p2,p5,p6,v2,v3,x1,x2,hS.row,Nat.mul_one];refine ak5 hC.ok hc1 ?_;by_cases hcf:cf dk[fst+(2*root+1)]! dk[fst+(2*root+1)+1]! < 0
  ·have hl2:ltOf cf dk[fst+(2*root+1)]! dk[fst+(2*root+1)+1]! = true:=decide_eq_true hcf;have hh:decide (2*root+1+1<hi)=true:=decide_eq_true (by omega);rw[hl2,hh,Bool.and_self,if_pos rfl] at hI;simp only[h2,dite_true] at hI;have e3:2*root+1+1=2*root+2:=by omega
   have v4:=ge9 (a:=fst) (b:=2*root+2) (by omega);have q1:(0:Int)<=((fst+(2*root+2):Nat):Int):=by omega
   have q2:((fst+(2*root+2):Nat):Int)<d.size:=by omega
   have x4:=ai6 emb tl (d:=dk) (k:=fst+(2*root+2)) (by omega);have hc2:=hC.pc dk[fst+root]! dk[fst+(2*root+2)]!;simp only[go_sem,hcf,w3,e3,v1,v4,p3,p4,q1,q2,x0,x4,hS.row,Nat.mul_one];refine ak5 hC.ok hc2 ?_;by_cases hcg:cf dk[fst+root]! dk[fst+(2*root+2)]! < 0
   ·have hl3:ltOf cf dk[fst+root]! dk[fst+(2*root+2)]! = true:=decide_eq_true hcg;rw[hl3] at hI;simp only[Bool.not_true,Bool.false_eq_true,if_false] at hI;obtain ⟨r1,r2,r3,r4,r5⟩:=ai7 emb tl (d:=dk) (i:=fst+root) (j:=fst+(2*root+2)) (by omega) (by omega);simp only[go_sem,hcg,v1,v4,p3,p4,q1,q2,r1,r2,r3,r4,r5,hS.row,Nat.mul_one];refine ⟨by omega,2*root+2,Go.Sort.swp dk (fst+root) (fst+(2*root+2)),rfl,⟨?_,fun m hm=>?_,?_⟩,by rw[swp_size]; exact hsz,by omega,by omega,hI⟩
    ·have:=hS.next; simp only[aa9]; omega
    ·simp only[aa4,hm,if_false]; exact hS.other m hm
    ·simp only[aa4,if_true]
   ·have hl3:ltOf cf dk[fst+root]! dk[fst+(2*root+2)]! = false:=decide_eq_false hcg;rw[hl3] at hI;simp only[Bool.not_false,if_true] at hI;simp only[go_sem,hcg];rw[<- hI];exact ⟨by have:=hS.next; show σ.next<=t.next+_+_; omega,hS.other,hS.row⟩
  ·have hl2:ltOf cf dk[fst+(2*root+1)]! dk[fst+(2*root+1)+1]! = false:=decide_eq_false hcf;rw[hl2,Bool.and_false,if_neg (by decide)] at hI;have hc2:=hC.pc dk[fst+root]! dk[fst+(2*root+1)]!;simp only[go_sem,hcf,v1,v2,p3,p4,p1,p2,x0,x1,hS.row,Nat.mul_one];refine ak5 hC.ok hc2 ?_;by_cases hcg:cf dk[fst+root]! dk[fst+(2*root+1)]! < 0
   ·have hl3:ltOf cf dk[fst+root]! dk[fst+(2*root+1)]! = true:=decide_eq_true hcg;rw[hl3] at hI;simp only[Bool.not_true,Bool.false_eq_true,if_false] at hI;obtain ⟨r1,r2,r3,r4,r5⟩:=ai7 emb tl (d:=dk) (i:=fst+root) (j:=fst+(2*root+1)) (by omega) (by omega);simp only[go_sem,hcg,v1,v2,p3,p4,p1,p2,r1,r2,r3,r4,r5,hS.row,Nat.mul_one];refine ⟨by omega,2*root+1,Go.Sort.swp dk (fst+root) (fst+(2*root+1)),rfl,⟨?_,fun m hm=>?_,?_⟩,by rw[swp_size]; exact hsz,by omega,by omega,hI⟩
    ·have:=hS.next; simp only[aa9]; omega
    ·simp only[aa4,hm,if_false]; exact hS.other m hm
    ·simp only[aa4,if_true]
   ·have hl3:ltOf cf dk[fst+root]! dk[fst+(2*root+1)]! = false:=decide_eq_false hcg;rw[hl3] at hI;simp only[Bool.not_false,if_true] at hI;simp only[go_sem,hcg];rw[<- hI];exact ⟨by have:=hS.next; show σ.next<=t.next+_+_; omega,hS.other,hS.row⟩
 ·have c2:¬ ((2*root+1+1:Nat):Int)<hi:=by omega
  have hh:decide (2*root+1+1<hi)=false:=decide_eq_false (by omega);rw[hh,Bool.false_and,if_neg (by decide)] at hI;have hc2:=hC.pc dk[fst+root]! dk[fst+(2*root+1)]!;simp only[go_sem,w1,w2,w3,c1,c2,v1,v2,p3,p4,p1,p2,x0,x1,hS.row,Nat.mul_one];refine ak5 hC.ok hc2 ?_;by_cases hcg:cf dk[fst+root]! dk[fst+(2*root+1)]! < 0
  ·have hl3:ltOf cf dk[fst+root]! dk[fst+(2*root+1)]! = true:=decide_eq_true hcg;rw[hl3] at hI;simp only[Bool.not_true,Bool.false_eq_true,if_false] at hI;obtain ⟨r1,r2,r3,r4,r5⟩:=ai7 emb tl (d:=dk) (i:=fst+root) (j:=fst+(2*root+1)) (by omega) (by omega);simp only[go_sem,hcg,v1,v2,p3,p4,p1,p2,r1,r2,r3,r4,r5,hS.row,Nat.mul_one];refine ⟨by omega,2*root+1,Go.Sort.swp dk (fst+root) (fst+(2*root+1)),rfl,⟨?_,fun m hm=>?_,?_⟩,by rw[swp_size]; exact hsz,by omega,by omega,hI⟩
   ·have:=hS.next; simp only[aa9]; omega
   ·simp only[aa4,hm,if_false]; exact hS.other m hm
   ·simp only[aa4,if_true]
  ·have hl3:ltOf cf dk[fst+root]! dk[fst+(2*root+1)]! = false:=decide_eq_false hcg;rw[hl3] at hI;simp only[Bool.not_false,if_true] at hI;simp only[go_sem,hcg];rw[<- hI];exact ⟨by have:=hS.next; show σ.next<=t.next+_+_; omega,hS.other,hS.row⟩
theorem fk1 (hC:bp9 emb cf g first cap){σ:Store}(d:Array α)(a b:Nat)(hab:a<b)(hb:b<=d.size)(hz:d.size<2^40)(ho:σ.obj id=some (.row (ax8 emb tl d))) :
  C Tryz.prog EE 151 [.slice id 0 d.size 1,.int .i64 a,.int .i64 b,.func (.func g) first cap] σ fun v s=>v=.tuple []/\SO emb tl id (Go.Sort.heapSort (ltOf cf) d a b) σ s:=by
 refine C_f fok151 (nZ rfl) ?_;have w0:=fl2 (a:=b) (b:=a) (by omega) (by omega);obtain ⟨hi,hhi⟩:∃ hi,hi=b-a:=⟨_,rfl⟩;rw[<- hhi] at w0;have w1:=bg9 (a:=hi) (by omega) (by omega)
 have w2:IntKind.i64.wrap (((hi-1:Nat):Int).tdiv 2)=(((hi-1)/2+1:Nat):Int)-1:=by
  have:((hi-1:Nat):Int).tdiv 2=(((hi-1)/2:Nat):Int):=by
   rw[Int.tdiv_eq_ediv_of_nonneg (by omega)]; omega
  rw[this,wrap64 (by omega) (by omega)]; omega
 unfold Go.Sort.heapSort;rw[<- hhi];have n2:¬ ((2:Int)=0):=by decide
 simp only[ic151,go_sem,w0,w1,w2,n2];refine ab4 noT (fun k fr t=>∃ (r:Nat) (dk:Array α),fr=[(0,.slice id 0 d.size 1),(3,.func (.func g) first cap),(8,.int .i64 a),(9,.int .i64 0),(10,.int .i64 hi),(11,.int .i64 ((r:Int)-1))]/\r+k=(hi-1)/2+1/\SO emb tl id dk σ t/\dk.size=d.size/\Go.Sort.heapBuild (ltOf cf) hi a r dk=Go.Sort.heapBuild (ltOf cf) hi a ((hi-1)/2+1) d) ((hi-1)/2+1) ⟨_,d,rfl,rfl,⟨Nat.le_refl _,fun _ _=>rfl,ho⟩,rfl,rfl⟩ ?_;rintro k fr t hk ⟨r,dk,rfl,hrk,hS,hsz,hI⟩
 cases r with
 | succ r=>
  have e1:(((r+1:Nat):Int)-1)=(r:Int):=by omega
  have c1:(0:Int)<=(r:Int):=by omega
  have w3:IntKind.i64.wrap ((r:Int)-1)=(r:Int)-1:=wrap64 (by omega) (by omega);have hs1:=dh2 emb tl hC (id:=id) (σ:=t) dk r hi a (by omega) (by omega) (by omega) hS.row;rw[hsz] at hs1;simp only[go_sem,e1,c1];refine ac9 fok210 hs1 ?_;rintro v s ⟨rfl,h1⟩;refine ⟨h1.next,?_⟩;simp only[go_sem,w3]
  refine ⟨by omega,r,_,rfl,by omega,hS.trans emb tl h1,by rw[by7 _ _ _ _ _ _ (Nat.le_refl _)]; exact hsz,hI⟩
 | zero=>
  have e1:¬ (0:Int)<=0-1:=by decide
  have e0:(((0:Nat):Int))=0:=rfl;have e2:Go.Sort.heapBuild (ltOf cf) hi a 0 dk=dk:=rfl;rw[e2] at hI;have w4:(((hi-1:Nat):Int))=((hi:Nat):Int)-1:=by omega
  simp only[go_sem,e0,e1,w1,w4];rw[<- hI];refine ab4 noT (fun k fr t=>∃ (r:Nat) (dj:Array α),fr=[(0,.slice id 0 d.size 1),(3,.func (.func g) first cap),(8,.int .i64 a),(9,.int .i64 0),(12,.int .i64 ((r:Int)-1))]/\r+k=hi/\SO emb tl id dj σ t/\dj.size=d.size/\Go.Sort.heapPop (ltOf cf) a r dj=Go.Sort.heapPop (ltOf cf) a hi dk) hi ⟨_,dk,rfl,rfl,⟨by have:=hS.next; show σ.next<=t.next; omega,hS.other,hS.row⟩,hsz,rfl⟩ ?_;rintro k fr t hk ⟨r,dj,rfl,hrk,hS,hsz,hI⟩
  cases r with
  | succ r=>
   have e1:(((r+1:Nat):Int)-1)=(r:Int):=by omega
   have c1:(0:Int)<=(r:Int):=by omega
   have c2:(0:Int)<=(a:Int):=by omega
   have c3:(a:Int)<d.size:=by omega
   have c4:(0:Int)<=((a+r:Nat):Int):=by omega
   have c5:((a+r:Nat):Int)<d.size:=by omega
   have v1:=ge9 (a:=a) (b:=r) (by omega);have w3:IntKind.i64.wrap ((r:Int)-1)=(r:Int)-1:=wrap64 (by omega) (by omega);obtain ⟨r1,r2,r3,r4,r5⟩:=ai7 emb tl (d:=dj) (i:=a) (j:=a+r) (by omega) (by omega);simp only[go_sem,e1,c1,c2,c3,c4,c5,v1,r1,r2,r3,r4,r5,hS.row,Nat.mul_one]
   have hs1:∀ U:Store,SO emb tl id (Go.Sort.swp dj a (a+r)) σ U->C Tryz.prog EE 210 [.slice id 0 d.size 1,.int .i64 0,.int .i64 r,.int .i64 a,.func (.func g) first cap] U fun v s=>v=.tuple []/\σ.next<=U.next/\SO emb tl id (Go.Sort.swp dj a (a+r)) σ U/\SO emb tl id (Go.Sort.siftDown (ltOf cf) r a 0 (Go.Sort.swp dj a (a+r))) U s:=fun U hU=>by
    have h:=dh2 emb tl hC (id:=id) (σ:=U) (Go.Sort.swp dj a (a+r)) 0 r a (by rw[swp_size]; omega) (by rw[swp_size]; omega) (by omega) hU.row;rw[swp_size,hsz] at h;exact h.mono fun v s ⟨e,h⟩=>⟨e,hU.next,hU,h⟩
   refine ac9 fok210 (hs1 _ ⟨?_,fun m hm=>?_,?_⟩) ?_
   ·have:=hS.next; simp only[aa9]; omega
   ·simp only[aa4,hm,if_false]; exact hS.other m hm
   ·simp only[aa4,if_true]
   rintro v s ⟨rfl,_,hUs,h1⟩;refine ⟨h1.next,?_⟩;simp only[go_sem,w3]
   refine ⟨by omega,r,_,rfl,by omega,hUs.trans emb tl h1,by rw[by7 _ _ _ _ _ _ (Nat.le_refl _),swp_size]; exact hsz,hI⟩
  | zero=>
   have e1:¬ (0:Int)<=0-1:=by decide
   have e0:(((0:Nat):Int))=0:=rfl;have e2:Go.Sort.heapPop (ltOf cf) a 0 dj=dj:=rfl;rw[e2] at hI;simp only[go_sem,e0,e1];rw[<- hI];exact ⟨hS.next,hS.other,hS.row⟩
end
end Go.Id.Tryz
