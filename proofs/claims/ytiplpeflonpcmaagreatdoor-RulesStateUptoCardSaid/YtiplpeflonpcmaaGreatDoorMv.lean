/- A rich dependency's literal tells whether a state satisfies it. Conditions: none; no program in sight. -/
import Derived.Test.YtiplpeflonpcmaaGreatDoorMsb
import Derived.Test.YtiplpeflonpcmaaGreatDoorFwQ
import Derived.Test.YtiplpeflonpcmaaGreatDoorFwRo
open List renaming getD_eq_getElem?_getD→za,mem_cons_self→zc,mem_map→ze,length_map→zg,length_append→zh,mem_cons_of_mem→zi,length_cons→zk,getElem?_eq_getElem→zm,mem_singleton→zn,any_eq_true→zo,all_eq_true→zp,mem_cons→zq,length_singleton→zr,map_cons→zv,getElem_mem→zw,any_cons→zx,length_filter_le→zy,mem_range→zz,not_mem_nil→z0,any_nil→z4,cons_append→z6,mem_filter→z8,takeWhile_cons→z9,dropWhile_cons→qa,any_eq_false→qb,map_nil→qe,take_succ_cons→qf,range→qg,mem_append→qi,map_congr_left→qk,pairwise_map→qo
open Bool renaming and_eq_true→zb,or_false→z1,eq_iff_iff→z3,true_or→z5,true_and→z7,not_eq_true'→qc,and_comm→qd
open Nat renaming le_trans→zd,le_add_right→zf,le_refl→zj,lt_of_lt_of_le→zl,not_lt_zero→zt,add_le_add_left→ql
open Int renaming toNat_natCast→zu,eq_ofNat_of_zero_le→qj
open Option renaming some→z2,none→qm,map_some→qn
open Classical renaming byContradiction→qh
set_option linter.all false
private theorem om{P:Prop}(h:P:=by omega):P:=h
namespace Go.Id.Md
open Go Go.Id
variable {c:Nat} {t:ah6}
def inT (c:Nat)(b:Int)(T:Int->Bool):List Bool:=(qg c).map fun (m:Nat)=>T ((m:Int)+1)&&!decide ((m:Int)=b)
theorem ex8 (b:Int)(T:Int->Bool)(n:Nat):(inT c b T).getD n false=(decide (n<c)&&(T ((n:Int)+1)&&!decide ((n:Int)=b))):=by
 unfold inT;by_cases h:n<c
 ·simp[za,h]
 ·simp[za,h]
theorem jb8 (b:Int)(T:Int->Bool):(inT c b T).length=c:=by unfold inT; simp
theorem gt1 (l:List Int)(b:Int)(f:Int->Bool):(cu9 l b).any f=l.any fun n=>!decide (n=b)&&f n:=by
 unfold cu9; rw[List.any_filter]
theorem ed3 (q:aa2->Bool)(l:List aa2)(f:Int->Bool):(numsOf q l).any f=(qg l.length).any fun n=>q (l.getD n default)&&f n:=by
 rw[z3,zo,zo];constructor
 ·rintro ⟨n,hn,h⟩;obtain ⟨m,rfl,h1,h2⟩:=al3.1 hn;refine ⟨m,zz.2 h1,?_⟩;rw[h2,h]; rfl
 ·rintro ⟨m,hm,h⟩;have h1:=zz.1 hm;rw[zb] at h;exact ⟨m,al3.2 ⟨m,rfl,h1,h.1⟩,h.2⟩
theorem gt2 {l:List aa2}{q:aa2->Bool}{b:Int}:∀ n∈cu9 (numsOf q l) b,0<=n/\n<(l.length:Int):=fun n hn=>by
 obtain ⟨m,rfl,h1,_⟩:=al3.1 (z8.1 hn).1;omega
theorem Told.weak {n m:Nat}{r:Int×ah6}{P Q:(Int->Bool)->Bool}(h:Told c n t r P)(hm:n<=m)(hP:∀ T,P T=Q T):Told c m t r Q :=
 ⟨⟨h.le.1,by have:=h.le.2; omega⟩,h.cl,h.ok,fun T a b d=>by rw[<- hP]; exact h.says T a b d⟩
structure ie5 (c n:Nat) (t:ah6) (r:List Int×ah6) (P:(Int->Bool)->List Bool):Prop where
 le:t.h<=r.2.h/\r.2.h<=t.h+n
 cl:∀ q∈t.cl,q∈r.2.cl
 ok:r.2.OK c/\∀ x∈r.1,RgN (c+r.2.h) x
 says:∀ T,fi4 (c+r.2.h) T->id7 T r.2.cl->df6 T t->r.1.map T=P T/\df6 T r.2
theorem ie5.then {n m:Nat}{r:List Int×ah6}{P:(Int->Bool)->List Bool}{w:Int×ah6}{Q R:(Int->Bool)->Bool}(h:ie5 c n t r P)(g:Told c m r.2 w Q)
  (hq:∀ T,fi4 (c+r.2.h) T->r.1.map T=P T->Q T=R T):Told c (n+m) t w R :=
 ⟨⟨zd h.le.1 g.le.1,by have:=h.le.2; have:=g.le.2; omega⟩,fun q hq=>g.cl q (h.cl q hq),g.ok,fun T a b d=>by
  have a':fi4 (c+r.2.h) T:=a.mono (by have:=g.le.1; omega);obtain ⟨h1,h2⟩:=h.says T a' (fun q hq=>b q (g.cl q hq)) d;obtain ⟨g1,g2⟩:=g.says T a b h2;exact ⟨g1.trans (hq T a' h1),g2⟩⟩
theorem jr8 {l:List Int}{P:List Bool}{T:Int->Bool}(h:l.map T=P){i:Nat}(hi:i<l.length):T (l.getD i 0)=P.getD i false:=by
 rw[<- h]; simp[za,hi]
variable (l:List aa2) (hc:l.length<=100) (b:Int)
include hc
theorem bm7 (r:aa6):r.ak7 1 false=true\/r.ak7 1 true=true->∀ t:ah6,t.OK l.length->Told l.length r.count t (r.bp2 l b t) fun T=>r.tr l (inT l.length b T):=by
 induction r using aa6.ind with
 | h k d aZ ih=>
  intro hf t ho
  have hh:(bh3 1 k d aZ.length false=true\/bh3 1 k d aZ.length true=true)/\∀ a∈aZ,a.ak7 1 false=true\/a.ak7 1 true=true:=by
   rcases hf with hf|hf<;>simp only[aa6.ak7,zb,aa6.ap5,zp] at hf
   ·refine ⟨.inl hf.1,fun a ha=>?_⟩;have:=hf.2 a ha;cases hx:(false||decide (k=6)||decide (k=7))<;>rw[hx] at this
    ·exact .inl this
    ·exact .inr this
   ·refine ⟨.inr hf.1,fun a ha=>?_⟩;have:=hf.2 a ha;rw[z5,z5] at this;exact .inr this
  obtain ⟨h1,h2⟩:=hh;unfold aa6.bp2;simp only[aa6.count];by_cases e1:k=1
  ·rw[if_pos e1];refine (fi6 ho gt2 hc).weak om fun T=>?_
   show _=trK _ _ _ _ _;unfold trK;rw[if_pos e1,gt1];unfold ae9;rw[ed3,ed3,z3,zo,zo];refine exists_congr fun n=>and_congr_right fun hn=>?_
   rw[zu,ex8,decide_eq_true (zz.1 hn),z7,qd (T _)]
  rw[if_neg e1];by_cases e6:k=6\/k=7
  ·rw[if_pos e6];refine (fi6 ho gt2 hc).weak om fun T=>?_
   have h3:∀ a∈aZ,a.ak7 1 true=true:=by
    have e:((decide (k=6))||decide (k=7))=true:=by rcases e6 with rfl|rfl<;>decide
    rcases hf with hf|hf<;>simp only[aa6.ak7,zb,aa6.ap5,zp,Bool.or_assoc,e,Bool.or_true] at hf<;>exact hf.2
   have h4:bh3 1 k d aZ.length true=true:=by
    rcases h1 with h1|h1
    ·unfold bh3 at h1 ⊢;rcases e6 with rfl|rfl<;>simpa using h1
    ·exact h1
   have h5:(aa6.mk k d aZ).ak7 1 true=true:=by
    simp only[aa6.ak7,zb,aa6.ap5,zp,z5];exact ⟨h4,h3⟩
   rw[gt1,ed3];show _=trK _ _ _ _ _;have hal:∀ n,n<l.length->(aa6.mk k d aZ).alone (l.getD n default)=trK l k d (aa6.trs l aZ) (ci1 l.length n):=fun n hn=>id6 l n hn 1 _ h5
   unfold trK at hal ⊢;unfold gb1;rw[jb8,if_neg e1,if_neg om,if_neg om,if_neg om,if_neg om];have hol:∀ n,(ci1 l.length n).length=l.length:=fun n=>by rw[ec8,df2]
   split
   ·rename_i e;rw[z3,zo,zo];refine exists_congr fun n=>and_congr_right fun hn=>?_
    have hn':=zz.1 hn;rw[hal n hn',if_neg e1,if_neg om,if_neg om,if_neg om,if_neg om,if_pos e,cz3 _ _ hn',ex8,hol,decide_eq_true hn',z7,qd (T _),qd]
   ·rename_i e;rw[z3,zo,zo];refine exists_congr fun n=>and_congr_right fun hn=>?_
    have hn':=zz.1 hn;rw[hal n hn',if_neg e1,if_neg om,if_neg om,if_neg om,if_neg om,if_neg e,cz3 _ _ hn',ex8,hol,decide_eq_true hn',z7,qd (T _),qd]
  rw[if_neg e6]
  have hA:∀ (aZ:List aa6),(∀ a∈aZ,∀ t:ah6,t.OK l.length->Told l.length a.count t (a.bp2 l b t) fun T=>a.tr l (inT l.length b T))->∀ t:ah6,t.OK l.length ->
    ie5 l.length (aa6.counts aZ) t (aa6.ak8 l b aZ t) fun T=>aZ.map fun a=>a.tr l (inT l.length b T):=by
   intro aZ
   induction aZ with
   | nil=>intro _ t ho; exact ⟨⟨zj _,zf _ _⟩,fun _ h=>h,⟨ho,fun _ h=>by cases h⟩,fun T _ _ hk=>⟨rfl,hk⟩⟩
   | cons a aZ ih=>
    intro h t ho;have g:=h a zc t ho;have f:=ih (fun a ha=>h a (zi _ ha)) _ g.ok.1;simp only[aa6.counts,aa6.ak8];refine ⟨⟨zd g.le.1 f.le.1,by have:=g.le.2; have:=f.le.2; show (aa6.ak8 l b aZ (a.bp2 l b t).2).2.h<=_; omega⟩,fun q hq=>f.cl q (g.cl q hq),⟨f.ok.1,fun x hx=>?_⟩,fun T hv hs hk=>?_⟩
    ·rcases zq.1 hx with rfl|hx
     ·exact g.ok.2.mono (by have:=f.le.1; show l.length+_<=l.length+(aa6.ak8 l b aZ (a.bp2 l b t).2).2.h; omega)
     ·exact f.ok.2 x hx
    ·obtain ⟨g1,g2⟩:=g.says T (hv.mono (by have:=f.le.1; show l.length+_<=l.length+(aa6.ak8 l b aZ (a.bp2 l b t).2).2.h; omega)) (fun q hq=>hs q (f.cl q hq)) hk;obtain ⟨f1,f2⟩:=f.says T hv hs g2;exact ⟨by simp only[zv,g1,f1],f2⟩
  have hL:=hA aZ (fun a ha=>ih a ha (h2 a ha)) t ho
  have hn:∀ (aZ:List aa6) (t:ah6),(aa6.ak8 l b aZ t).1.length=aZ.length:=by
   intro aZ
   induction aZ with
   | nil=>intro t; rfl
   | cons a aZ ih=>intro t; simp only[aa6.ak8,zk,ih]
  have hn:=hn aZ t;generalize aa6.ak8 l b aZ t=w at hL hn ⊢;obtain ⟨hO,hR⟩:=hL.ok
  have ht:∀ T i,(aa6.trs l aZ).getD i ff (inT l.length b T)=(aZ.map fun a=>a.tr l (inT l.length b T)).getD i false:=fun T i=>by
   rw[aa6.gr5];split
   ·rename_i h; simp[za,h]
   ·rename_i h; simp[za,h]
  have tl:(aa6.trs l aZ).length=aZ.length:=by rw[aa6.bh2,zg]
  have hg:∀ i,i<aZ.length->RgN (l.length+w.2.h) (w.1.getD i 0):=fun i hi=>by
   rw[<- hn] at hi;refine hR _ ?_;rw[za,zm hi]; exact zw hi
  have ma:∀ T,w.1.map T=(aZ.map fun a=>a.tr l (inT l.length b T))->∀ i,i<aZ.length->T (w.1.getD i 0)=(aZ.map fun a=>a.tr l (inT l.length b T)).getD i false:=fun T h i hi=>jr8 h (by rw[hn]; exact hi)
  unfold bh3 at h1;rw[if_neg e1,if_neg e1] at h1;show Told l.length (aa6.counts aZ+1) t _ fun T=>trK l k d (aa6.trs l aZ) (inT l.length b T)
  unfold gb5;by_cases e2:k=2
  ·rw[if_pos e2];refine hL.then (du9 hO hR) fun T _ hm=>?_
   unfold trK;rw[if_neg e1,if_pos e2,aa6.bh2,List.all_map];have:=congrArg (fun m:List Bool=>m.all fun b=>b) hm;simp only[List.all_map] at this;exact this
  rw[if_neg e2];by_cases e3:k=3
  ·rw[if_pos e3];refine hL.then (bm6 hO hR) fun T _ hm=>?_
   unfold trK;rw[if_neg e1,if_neg e2,if_pos e3,aa6.bh2,List.any_map];have:=congrArg (fun m:List Bool=>m.any fun b=>b) hm;simp only[List.any_map] at this;exact this
  rw[if_neg e3];by_cases e4:k=4
  ·have h6:aZ.length=2\/aZ.length=3:=by
    simp[e4] at h1;exact h1.1
   rw[if_pos e4,hn];by_cases h3:aZ.length=3
   ·rw[if_pos h3];refine hL.then (df7 hO (hg 0 om) (hg 2 om) (hg 1 om)) fun T _ hm=>?_
    unfold trK;rw[if_neg e1,if_neg e2,if_neg e3,if_pos e4,ht,ht,ht,tl,ma T hm 0 om,ma T hm 1 om,ma T hm 2 om,decide_eq_false (by omega:¬ aZ.length<3),Bool.false_or]
   ·rw[if_neg h3];refine hL.then (bm6 hO fun x hx=>?_) fun T hv hm=>?_
    ·simp only[zq,z0,or_false] at hx;rcases hx with rfl|rfl
     ·exact hg 0 om
     ·exact (hg 1 om).neg
    ·unfold trK;rw[if_neg e1,if_neg e2,if_neg e3,if_pos e4,ht,ht,ht,tl,zx,zx,z4,hv _ (hg 1 om),ma T hm 0 om,ma T hm 1 om,decide_eq_true (by omega:aZ.length<3),z5,z1];generalize (aZ.map fun a=>a.tr l (inT l.length b T)).getD 0 false=x;generalize (aZ.map fun a=>a.tr l (inT l.length b T)).getD 1 false=y;cases x<;>cases y<;>rfl
  rw[if_neg e4]
  have e5:k=5:=by
   apply qh;intro e5;simp[e2,e3,e4,e5,e6,show ¬ k=6 from fun h=>e6 (.inl h),show ¬ k=7 from fun h=>e6 (.inr h)] at h1
  have h6:aZ.length=2\/aZ.length=3:=by
   simp[e5] at h1;exact h1.1
  rw[hn];by_cases h3:aZ.length=3
  ·rw[if_pos h3];refine hL.then (df7 hO (hg 2 om) (hg 0 om) (hg 1 om)) fun T _ hm=>?_
   unfold trK;rw[if_neg e1,if_neg e2,if_neg e3,if_neg e4,if_pos e5,ht,ht,ht,tl,ma T hm 0 om,ma T hm 1 om,ma T hm 2 om,decide_eq_true h3,z7]
  ·rw[if_neg h3];refine hL.then (du9 hO fun x hx=>?_) fun T hv hm=>?_
   ·simp only[zq,z0,or_false] at hx;rcases hx with rfl|rfl
    ·exact hg 0 om
    ·exact (hg 1 om).neg
   ·unfold trK;rw[if_neg e1,if_neg e2,if_neg e3,if_neg e4,if_pos e5,ht,ht,ht,tl,List.all_cons,List.all_cons,List.all_nil,hv _ (hg 1 om),ma T hm 0 om,ma T hm 1 om,decide_eq_false h3,Bool.false_and,Bool.and_true];generalize (aZ.map fun a=>a.tr l (inT l.length b T)).getD 0 false=x;generalize (aZ.map fun a=>a.tr l (inT l.length b T)).getD 1 false=y;cases x<;>cases y<;>rfl
end Go.Id.Md
namespace Go.Id.Md
open Go Go.Id
def noL (l:List Int):List Int:=l.map fun n=>-(n+1)
namespace ab7
variable (a:ab7)
def dg2 (j:Int):List (List Int):=
 if (a.jb j).kind=1 then [upL (a.meant j)]
 else if (a.jb j).kind=3 then (a.meant j).map fun n=>upL (a.ao9 n)
 else if (a.jb j).kind=4 then ((a.meant j).filter fun n=>decide (0<(a.by7 n).length)).map fun n=>upL (a.by7 n)
 else (a.meant j).map fun n=>noL [n]
def ca8 (x:Itm):List (List Int):=
 if x.kind=1 then [noL [x.p]]
 else if x.kind=4 then (cu9 (am1 a.l (a.cx3 x)) x.p).map fun n=>noL [x.p,n]
 else if x.kind=5 then [noL [x.p,x.q]]
 else if x.kind=6 then [upL (a.ao9 x.p)]
 else a.dg2 x.p
def ai3 (x:Itm)(t:ah6):List (List Int)×ah6 :=
 if x.kind=2 then ([noL [x.p]++[((a.by2 x).bp2 a.l (-1) t).1]],((a.by2 x).bp2 a.l (-1) t).2)
 else if x.kind=3 then ([noL [x.p]++[-((a.bb1 x).bp2 a.l x.p t).1]],((a.bb1 x).bp2 a.l x.p t).2)
 else (a.ca8 x,t)
def ai5:List Itm->ah6->List (List (List Int))×ah6
 | [],t=>([],t)
 | x::xs,t=>((a.ai3 x t).1::(ai5 xs (a.ai3 x t).2).1,(ai5 xs (a.ai3 x t).2).2)
variable {a} {T:Int->Bool} {st:List Int}
theorem ed4 (hT:∀ n:Nat,n<a.l.length->T ((n:Int)+1)=inS st n){ns:List Int}(h:∀ n∈ns,a.is n=true):(upL ns).any T=ab7.some st ns:=by
 rw[ir5];unfold ab7.some;rw[z3,zo,zo];refine exists_congr fun n=>and_congr_right fun hn=>?_
 have:=h n hn;unfold is at this;simp only[zb,decide_eq_true_eq] at this;obtain ⟨m,rfl⟩:=qj this.1;rw[hT m om]; rfl
theorem jb9 (hT:∀ n:Nat,n<a.l.length->T ((n:Int)+1)=inS st n){V:Nat}(hV:a.l.length<=V)(hv:fi4 V T){n:Int}(h:a.is n=true):T (-(n+1))=!inS st n:=by
 unfold is at h;simp only[zb,decide_eq_true_eq] at h;obtain ⟨m,rfl⟩:=qj h.1;rw[hv _ ⟨om,om,om⟩,hT m om]
theorem aw9 {i:Int}:∀ n∈a.ao9 i,a.is n=true:=fun n hn=>by
 obtain ⟨_,m,rfl,h⟩:=a.ib6 hn;rw[ab7.cf2]; exact decide_eq_true h
theorem bj8 {j:Int}:∀ n∈a.meant j,a.is n=true:=fun n hn=>by
 obtain ⟨m,rfl,h⟩:=a.if3 hn;rw[ab7.cf2]; exact decide_eq_true h
theorem ex9 (hT:∀ n:Nat,n<a.l.length->T ((n:Int)+1)=inS st n){V:Nat}(hV:a.l.length<=V)(hv:fi4 V T)(hk:∀ j:Nat,j<a.r.ag6.length->1<=(a.jb j).kind/\(a.jb j).kind<=4){x:Itm}(hx:a.Has x)(h2:x.kind≠2)(h3:x.kind≠3)(hs:id7 T (a.ca8 x)):a.keeps st x=true:=by
 have isN:∀ n:Nat,n<a.l.length->a.is n=true:=fun n hn=>by rw[ab7.cf2]; exact decide_eq_true hn
 have no:=fun {n:Int} h=>jb9 (n:=n) hT hV hv h
 cases hx with
 | au7 p hp _=>
  have:=hs [-((p:Int)+1)] zc;rw[zx,z4,z1,no (isN p hp)] at this
  exact this
 | need p q _ _=>exact absurd rfl h2
 | clash p q _ _=>exact absurd rfl h3
 | over p q hp hq=>
  show (!inS st p || !((am1 a.l (a.cx3 ⟨4,p,q⟩)).any fun n=>!decide (n=(p:Int))&&inS st n))=true
  cases hin:inS st p with
  | false=>rfl
  | true=>
   rw[Bool.not_true,Bool.false_or,qc,qb];intro n hn h;rw[zb] at h;obtain ⟨m,rfl,h1,_⟩:=al3.1 hn;have:=hs (noL [(p:Int),m]) (ze.2 ⟨m,z8.2 ⟨hn,h.1⟩,rfl⟩);simp only[noL,zv,qe,zx,z4,z1] at this;rw[no (isN p hp),no (isN m h1),hin,h.2] at this
   cases this
 | twin p q h1 h4 _=>
  have:=hs (noL [(p:Int),q]) zc;simp only[noL,zv,qe,zx,z4,z1] at this;rw[no (isN p om),no (isN q h4)] at this
  exact this
 | keep i hi _=>
  have:=hs (upL (a.ao9 i)) zc;rw[ed4 hT aw9] at this
  exact this
 | job j hj _=>
  show a.br1 j st=true;have hs:id7 T (a.dg2 j):=hs;unfold dg2 at hs;unfold br1;rw[Bool.or_eq_true];refine .inr ?_;by_cases k1:(a.jb j).kind=1
  ·rw[if_pos k1] at hs ⊢;rw[<- ed4 hT bj8];exact hs _ zc
  rw[if_neg k1] at hs ⊢;by_cases k3:(a.jb j).kind=3
  ·rw[if_pos k3] at hs;rw[if_neg om,if_pos k3,qc,qb];intro n hn h;have:=hs _ (ze.2 ⟨n,hn,rfl⟩);rw[ed4 hT aw9] at this;rw[this] at h;cases h
  rw[if_neg k3] at hs ⊢;by_cases k4:(a.jb j).kind=4
  ·rw[if_pos k4] at hs;rw[if_neg om,qc,qb];intro n hn h;rw[zb] at h;have:=hs _ (ze.2 ⟨n,z8.2 ⟨hn,h.1⟩,rfl⟩);rw[ed4 hT fun m hm=>aw9 m (a.ec5 hm).1] at this;rw[this] at h;cases h.2
  rw[if_neg k4] at hs;have k2:(a.jb j).kind=2:=by have:=hk j hj; omega
  rw[if_pos k2,qc];unfold ab7.some;rw[qb];intro n hn h;have:=hs _ (ze.2 ⟨n,hn,rfl⟩);simp only[noL,zv,qe,zx,z4,z1] at this;rw[no (bj8 n hn)] at this;unfold inS at this;rw[h] at this;cases this
theorem jr9 (hT:∀ n:Nat,n<a.l.length->T ((n:Int)+1)=inS st n):inT a.l.length (-1) T=stB a.l.length st:=by
 unfold inT stB;refine qk fun m hm=>?_
 have e:¬ (m:Int)=-1:=om
 rw[hT m (zz.1 hm),decide_eq_false e,Bool.not_false,Bool.and_true]; rfl
theorem jc1 (hT:∀ n:Nat,n<a.l.length->T ((n:Int)+1)=inS st n)(p:Int):inT a.l.length p T=stB a.l.length (less st p):=by
 unfold inT stB;refine qk fun m hm=>?_
 rw[hT m (zz.1 hm),z3,zb,decide_eq_true_eq];unfold less inS;rw[z8,decide_eq_true_eq]
structure bo2 (a:ab7):Prop where
 len:a.l.length<=100
 need:∀ p:Nat,p<a.l.length->∀ r∈(a.pk p).requires,r.ak7 1 false=true/\bj7 r=true/\r.count<=24
 clash:∀ p:Nat,p<a.l.length->∀ r∈(a.pk p).conflicts,r.ak7 1 false=true/\bj7 r=true/\r.count<=24
 kind:∀ j:Nat,j<a.r.ag6.length->1<=(a.jb j).kind/\(a.jb j).kind<=4
variable (hO:bo2 a)
include hO
theorem ed5 {p q:Nat}(hp:p<a.l.length)(hq:q<(a.pk p).requires.length):(a.by2 ⟨2,p,q⟩).ak7 1 false=true/\bj7 (a.by2 ⟨2,p,q⟩)=true/\(a.by2 ⟨2,p,q⟩).count<=24:=by
 refine hO.need p hp _ ?_;unfold by2;rw[zu,za,zm hq]; exact zw hq
theorem cz4 {p q:Nat}(hp:p<a.l.length)(hq:q<(a.pk p).conflicts.length):(a.bb1 ⟨3,p,q⟩).ak7 1 false=true/\bj7 (a.bb1 ⟨3,p,q⟩)=true/\(a.bb1 ⟨3,p,q⟩).count<=24:=by
 refine hO.clash p hp _ ?_;unfold bb1;rw[zu,za,zm hq]; exact zw hq
structure ie6 (x:Itm) (t:ah6):Prop where
 le:t.h<=(a.ai3 x t).2.h/\(a.ai3 x t).2.h<=t.h+24
 cl:∀ q∈t.cl,q∈(a.ai3 x t).2.cl
 ok:(a.ai3 x t).2.OK a.l.length
 says:∀ T st,(∀ n:Nat,n<a.l.length->T ((n:Int)+1)=inS st n)->fi4 (a.l.length+(a.ai3 x t).2.h) T->id7 T (a.ai3 x t).2.cl->df6 T t->df6 T (a.ai3 x t).2/\(id7 T (a.ai3 x t).1->a.keeps st x=true)
theorem eo1 {x:Itm}(hx:a.Has x){t:ah6}(ho:t.OK a.l.length):ie6 (a:=a) x t:=by
 by_cases h2:x.kind=2
 ·cases hx with
  | need p q hp hq=>
   obtain ⟨f,w,n⟩:=ed5 hO hp hq;have h:=bm7 a.l hO.len (-1) _ (.inl f) t ho;refine ⟨⟨h.le.1,zd h.le.2 (ql n _)⟩,h.cl,h.ok.1,fun T st hT hv hs hk=>?_⟩;obtain ⟨g1,g2⟩:=h.says T hv hs hk;refine ⟨g2,fun hc=>?_⟩;have:=hc _ zc;simp only[noL,zv,qe,z6,List.nil_append,zx,z4,z1] at this;rw[jb9 hT (zf _ _) hv (by rw[ab7.cf2]; exact decide_eq_true hp),g1,jr9 hT] at this;show (!inS st p||gq8 a.l st (a.by2 ⟨2,p,q⟩))=true;unfold gq8
   rw[w,z7]; exact this
  | _=>simp at h2
 by_cases h3:x.kind=3
 ·cases hx with
  | clash p q hp hq=>
   obtain ⟨f,w,n⟩:=cz4 hO hp hq;have h:=bm7 a.l hO.len p _ (.inl f) t ho;refine ⟨⟨h.le.1,zd h.le.2 (ql n _)⟩,h.cl,h.ok.1,fun T st hT hv hs hk=>?_⟩;obtain ⟨g1,g2⟩:=h.says T hv hs hk;refine ⟨g2,fun hc=>?_⟩;have:=hc _ zc;simp only[noL,zv,qe,z6,List.nil_append,zx,z4,z1] at this;rw[jb9 hT (zf _ _) hv (by rw[ab7.cf2]; exact decide_eq_true hp),hv _ h.ok.2,g1,jc1 hT] at this;show (!inS st p || !gq8 a.l (less st p) (a.bb1 ⟨3,p,q⟩))=true;unfold gq8
   rw[w,z7]; exact this
  | _=>simp at h3
 have e:a.ai3 x t=(a.ca8 x,t):=by unfold ai3; rw[if_neg h2,if_neg h3]
 refine ⟨by rw[e]; exact ⟨zj _,zf _ _⟩,by rw[e]; exact fun _ h=>h,by rw[e]; exact ho,fun T st hT hv hs hk=>?_⟩;rw[e] at hv ⊢;exact ⟨hk,ex9 hT (zf _ _) hv hO.kind hx h2 h3⟩
theorem bw9:∀ (xs:List Itm),(∀ x∈xs,a.Has x)->∀ t:ah6,t.OK a.l.length ->
  (t.h<=(a.ai5 xs t).2.h/\(a.ai5 xs t).2.h<=t.h+24*xs.length)/\(∀ q∈t.cl,q∈(a.ai5 xs t).2.cl)/\(a.ai5 xs t).2.OK a.l.length /\
  ∀ T st,(∀ n:Nat,n<a.l.length->T ((n:Int)+1)=inS st n)->fi4 (a.l.length+(a.ai5 xs t).2.h) T->id7 T (a.ai5 xs t).2.cl->df6 T t->(∀ q∈(a.ai5 xs t).1,id7 T q)->∀ x∈xs,a.keeps st x=true:=by
 intro xs
 induction xs with
 | nil=>intro _ t ho; exact ⟨⟨zj _,zf _ _⟩,fun _ h=>h,ho,fun T st _ _ _ _ _ x hx=>by cases hx⟩
 | cons y ys ih=>
  intro h t ho;have g:=eo1 hO (h y zc) ho;obtain ⟨f1,f2,f3,f4⟩:=ih (fun x hx=>h x (zi _ hx)) _ g.ok;refine ⟨⟨zd g.le.1 f1.1,?_⟩,fun q hq=>f2 q (g.cl q hq),f3,fun T st hT hv hs hk hc=>?_⟩
  ·have:=g.le.2; have:=f1.2;show (a.ai5 ys (a.ai3 y t).2).2.h<=_;rw[zk]; omega
  ·have hv':fi4 (a.l.length+(a.ai3 y t).2.h) T:=hv.mono (by have:=f1.1; show _<=a.l.length+(a.ai5 ys (a.ai3 y t).2).2.h; omega);obtain ⟨g1,g2⟩:=g.says T st hT hv' (fun q hq=>hs q (f2 q hq)) hk;intro x hx;rcases zq.1 hx with rfl|hx
   ·exact g2 (hc _ zc)
   ·exact f4 T st hT hv hs g1 (fun q hq=>hc q (zi _ hq)) x hx
theorem gb9 {T:Int->Bool}{st:List Int}(hT:∀ n:Nat,n<a.l.length->T ((n:Int)+1)=inS st n)(hv:fi4 (a.l.length+(a.ai5 a.items ⟨0,[],[]⟩).2.h) T)
  (hs:id7 T ((a.ai5 a.items ⟨0,[],[]⟩).2.cl++(a.ai5 a.items ⟨0,[],[]⟩).1.flatten)):a.good st=true:=by
 have h0:(⟨0,[],[]⟩:ah6).OK a.l.length:=⟨fun _ h=>(by cases h),fun _ h=>(by cases h),.nil⟩;obtain ⟨_,_,_,h⟩:=bw9 hO a.items (fun x hx=>a.df3.1 hx) _ h0;refine a.id5.2 (h T st hT hv (fun q hq=>hs q (List.mem_append_left _ hq)) (fun l x _ hx=>by cases hx) fun q hq r hr=>hs r (List.mem_append_right _ (List.mem_flatten.2 ⟨q,hq,hr⟩)))
end ab7
end Go.Id.Md
namespace Go.Id.Md
open Go Go.Id
theorem gt3 {k:Int}{d:Dep}{n:Nat}{b:Bool}(h:bh3 2 k d n b=true):bh3 1 k d n b=true:=by
 unfold bh3 at *;split
 ·rename_i e; rw[if_pos e] at h; exact h
 rename_i e1;rw[if_neg e1] at h;rw[zb] at h ⊢;refine ⟨?_,h.2⟩;have h:=h.1;split
 ·rename_i e; rw[if_pos e] at h; exact h
 rename_i e2;rw[if_neg e2] at h;split
 ·rename_i e; rw[if_pos e] at h; exact h
 rename_i e3;rw[if_neg e3] at h;split
 ·rename_i e; rw[if_pos e] at h; simp at h
 rename_i e4;rw[if_neg e4] at h;split
 ·rename_i e; rw[if_pos e] at h; simpa using h
 ·rename_i e; rw[if_neg e] at h; exact h
theorem gt4 (r:aa6):∀ b,r.ak7 2 b=true->r.ak7 1 b=true:=by
 induction r using aa6.ind with
 | h k d aZ ih=>
  intro b h;simp only[aa6.ak7,zb,aa6.ap5,zp] at h ⊢;exact ⟨gt3 h.1,fun a ha=>ih a ha _ (h.2 a ha)⟩
theorem bx2 {r:aa6}{wh:Int}(h:an8 r wh=0)(hw:wh=1\/wh=2):r.ak7 1 false=true/\bj7 r=true/\r.count<=24:=by
 refine ⟨?_,gr7 h,?_⟩
 ·rw [bm4] at h;split at h
  ·cases h
  ·split at h
   ·cases h
   ·split at h
    ·cases h
    ·split at h
     ·cases h
     ·rename_i hf;have hf:r.ak7 wh false=true:=by simpa using hf
      rcases hw with rfl|rfl
      ·exact hf
      ·exact gt4 r _ hf
 ·rw[bm4] at h;split at h
  ·cases h
  ·split at h
   ·cases h
   ·rename_i h2; omega
theorem fi7 {r:aa6}{wh:Int}(h:an8 r wh=0)(hw:wh=1\/wh=2):an8 r 1=0:=by
 have h2:=(bx2 h hw).1;rw[bm4] at h ⊢;rw[h2];split at h
 ·cases h
 ·split at h
  ·cases h
  ·split at h
   ·cases h
   ·rename_i e1 e2 e3;rw[if_neg (by decide),if_neg e2,if_neg e3]; rfl
theorem bx3 {l:List aa6}{wh:Int}(h:ak6 l wh=true):∀ r∈l,an8 r wh=0:=fun r hr=>by
 unfold ak6 at h;rw[zb,zp] at h;exact of_decide_eq_true (h.2 r hr)
theorem bj9 {p:aa2}(h:ak1 p=true):ak6 p.requires 1=true/\ak6 p.conflicts 2=true:=by
 unfold ak1 at h;simp only[zb] at h;exact ⟨h.1.1.1.1.1.2,h.1.1.1.1.2⟩
theorem js1 {a:ab7}(hp:∀ p∈a.l,ak1 p=true)(hl:a.l.length<=100)(hr:aj7 a.r a.p.inst=0):a.bo2 where
 len:=hl
 need:=fun p h r hr=>by
  have hm:a.pk p∈a.l:=by
   unfold ab7.pk;rw[zu,za,zm h]; exact zw h
  exact bx2 (bx3 (bj9 (hp _ hm)).1 r hr) (.inl rfl)
 clash:=fun p h r hr=>by
  have hm:a.pk p∈a.l:=by
   unfold ab7.pk;rw[zu,za,zm h]; exact zw h
  exact bx2 (bx3 (bj9 (hp _ hm)).2 r hr) (.inr rfl)
 kind:=fun j hj=>by
  unfold aj7 at hr;split at hr
  ·cases hr
  ·split at hr
   ·cases hr
   ·split at hr
    ·cases hr
    ·rename_i h;have h:a.r.ag6.all aw7=true:=by simpa using h
     have hm:a.jb j∈a.r.ag6:=by
      unfold ab7.jb;rw[zu,za,zm hj]; exact zw hj
     have:=zp.1 h _ hm;unfold aw7 at this;simp only[zb,decide_eq_true_eq] at this;exact this.1
theorem ed6 (f:Nat->Bool)(g:Nat->Itm)(n:Nat):(bd3 f g n).length<=n:=by
 unfold bd3;rw[zg];exact zd (zy _ _) (by rw[List.length_range]; exact zj _)
theorem gt5 {a:ab7}(hp:∀ p∈a.l,ak1 p=true)(hl:a.l.length<=100)(hi:a.p.inst<=a.l.length)(hj:a.r.ag6.length<=64):a.items.length<=20000:=by
 have h1:∀ k,k<=a.l.length->(a.owns k).length<=97*k:=by
  intro k
  induction k with
  | zero=>intro _; exact zj _
  | succ k ih=>
   intro hk;have ih:=ih om;rw[a.cf3,zh]
   have hm:a.pk k∈a.l:=by
    unfold ab7.pk;rw[zu,za,zm hk]; exact zw hk
   have hm:=hp _ hm;obtain ⟨m1,m2⟩:=bj9 hm;unfold ak1 at hm;simp only[zb,decide_eq_true_eq] at hm;have m3:=hm.1.1.1.1.1.1.1.1.2.1;unfold ak6 at m1 m2;rw[zb,decide_eq_true_eq] at m1 m2;unfold ab7.hl7 ab7.br3;rw[zh,zh,zh,ab7.bf9,ab7.bf9,ab7.bf9];have m1:=m1.1; have m2:=m2.1;split<;>simp only[List.length_nil,zr]<;>omega
 have h2:∀ k,(a.as7 k).length<=100*k:=by
  intro k
  induction k with
  | zero=>exact zj _
  | succ k ih=>
   rw[a.bm5,zh];have:=ed6 (fun q=>decide (k<q)&&a.twins k q) (fun q=>⟨5,k,q⟩) a.l.length;unfold ab7.gs2 ab7.cx2;omega
 have h1:=h1 _ (zj _);have h2:=h2 a.l.length;have h3:=ed6 (fun i=>!a.goes i) (fun i=>⟨6,i,0⟩) a.p.inst.toNat;have h4:=ed6 (fun i=>!a.dropped i) (fun i=>⟨7,i,0⟩) a.r.ag6.length;rw[a.ay4];unfold ab7.ca6 ab7.gg6;omega
end Go.Id.Md
namespace Go.Id.Md
open Go Go.Id
def dj6 (l:List (Str×Int)):List (IV×IV):=l.map fun e=>(.str e.1,.int .i64 e.2)
theorem ie7 (k:Str):∀ l:List (Str×Int),aw2 2 (.str k) (dj6 l)=z2 ((bh4 l k).map fun x=>.int .i64 x):=by
 intro l
 induction l with
 | nil=>rfl
 | cons t l ih=>
  have e:bh4 (t::l) k=if k=t.1 then z2 t.2 else bh4 l k:=rfl
  rw[e];unfold dj6 at *;simp only[zv,aw2,dm6];by_cases h:k=t.1
  ·simp[h]
  ·simp only[h,decide_false,ih,if_false]
theorem jc2 {k:Str}{x:Int}:∀ {l:List (Str×Int)},bh4 l k=qm->eh8 2 (.str k) (.int .i64 x) (dj6 l)=z2 (dj6 (l++[(k,x)])):=by
 intro l
 induction l with
 | nil=>intro _; rfl
 | cons t l ih=>
  intro h;unfold bh4 at h;split at h
  ·cases h
  ·rename_i e;have:=ih h;unfold dj6 at *;simp only[zv,z6,eh8,dm6,e,decide_false,this,qn]
theorem ie8 {l:List (Str×Int)}(h:(l.map (·.1)).Nodup):da5 (dj6 l):=by
 refine ⟨?_,.str,fun e he=>?_⟩
 ·unfold dj6;rw[List.map_map];have h2:=qo.1 h;exact qo.2 (h2.imp fun {a b} hab e=>hab (IV.str.inj e))
 ·obtain ⟨x,_,rfl⟩:=ze.1 he;trivial
def clE (q:List Int):List IV:=[.aa4 (q.map ad9)]
theorem br6 (l:List (List Int)):∀ e∈l.map clE,e.length=1/\e.all IV.leaf=true:=fun e he=>by
 obtain ⟨x,_,rfl⟩:=ze.1 he;exact ⟨rfl,rfl⟩
structure aq8 (s:Store) (tp mid:Nat) (xv allv clv:IV) (P:List aa2) (t:ah6):Prop where
 cell:s.obj tp=z2 (.cells [xv,allv,.int .i64 t.h,clv,.map mid])
 all:Grow s allv 15 (P.map aa2.cs)
 cls:Grow s clv 1 (t.cl.map clE)
 map:s.obj mid=z2 (.map (dj6 t.sets))
 ne:∀ i k j l,clv=.slice i 0 k 1->allv=.slice j 0 l 15->i≠j
 lt:tp<s.next/\mid<s.next
structure be2 (σ s:Store) (tp mid:Nat) (clv clv':IV):Prop where
 next:σ.next<=s.next
 obj:∀ i,i<σ.next->i≠tp->i≠mid->(∀ k,clv≠.slice i 0 k 1)->s.obj i=σ.obj i
 new:clv'=clv\/∀ i k,clv'=.slice i 0 k 1->σ.next<=i
theorem be2.refl (σ:Store)(tp mid:Nat)(clv:IV):be2 σ σ tp mid clv clv:=⟨zj _,fun _ _ _ _ _=>rfl,.inl rfl⟩
theorem be2.trans {σ s u:Store}{tp mid:Nat}{a b c:IV}(h:be2 σ s tp mid a b)(g:be2 s u tp mid b c):be2 σ u tp mid a c where
 next:=zd h.next g.next
 obj:=fun i hi h1 h2 h3=>by
  rw[g.obj i (zl hi h.next) h1 h2 fun k e=>?_,h.obj i hi h1 h2 h3];rcases h.new with h4|h4
  ·exact h3 k (by rw[<- h4]; exact e)
  ·have:=h4 i k e; omega
 new:=by
  rcases g.new with e|g4
  ·rw[e]; exact h.new
  ·exact .inr fun i k e=>zd h.next (g4 i k e)
theorem aq8.mono {s s':Store}{tp mid:Nat}{xv allv clv:IV}{P:List aa2}{t:ah6}(h:aq8 s tp mid xv allv clv P t)(hn:s.next<=s'.next)(ho:∀ i,i<s.next->s'.obj i=s.obj i):aq8 s' tp mid xv allv clv P t where
 cell:=by rw[ho _ h.lt.1]; exact h.cell
 all:=h.all.mono hn fun id _ hid=>ho id hid
 cls:=h.cls.mono hn fun id _ hid=>ho id hid
 map:=by rw[ho _ h.lt.2]; exact h.map
 ne:=h.ne
 lt:=⟨by have:=h.lt.1; omega,by have:=h.lt.2; omega⟩
theorem be2.kj1 {σ s:Store}{tp mid:Nat}{xv allv clv clv' v:IV}{P:List aa2}{t:ah6}{lo:Nat}{zs:List Int}(g:be2 σ s tp mid clv clv')(h:aq8 σ tp mid xv allv clv P t)(hr:al2 σ lo v zs)(hne:∀ i k l,clv=.slice i 0 k 1->v≠.slice i 0 l 1):al2 s lo v zs:=by
 rcases hr with h0|⟨id,h1,h2,h3,h4⟩
 ·exact .inl h0
 ·refine .inr ⟨id,h1,zl h2 g.next,h3,?_⟩;rw[g.obj id h2 (fun e=>?_) (fun e=>?_) fun k e=>hne id k _ e h3]
  ·exact h4
  ·rw[e,h.cell] at h4; cases h4
  ·rw[e,h.map] at h4; cases h4
end Go.Id.Md
namespace Go.Id.Md
open Go Go.Id
def isV (v:List Int)(x:Int):Int:=if x=0\/(v.length:Int)<x\/x < -(v.length:Int) then 0 else if 0<x then v.getD (x-1).toNat 0 else -(v.getD (-x-1).toNat 0)
def dk9 (v:List Int)(l:List (List Int)):Bool:=l.all fun q=>q.any fun x=>decide (isV v x=1)
def ca7 (b:List Bool)(n:Nat):List Int:=(qg n).map fun i=>if b.getD i false then 1 else -1
def df8 (b:List Bool)(c:Nat):List Int:=ba7 (fun n=>b.getD n false) (min b.length c)
theorem df9 (b:List Bool)(n:Nat):(ca7 b n).length=n:=by unfold ca7; simp
theorem dg1 (b:List Bool){n i:Nat}(h:i<n):(ca7 b n).getD i 0=if b.getD i false then 1 else -1:=by
 unfold ca7; simp[za,h]
theorem gs9 (b:List Bool)(n:Nat):fi4 n fun x=>decide (isV (ca7 b n) x=1):=fun x h=>by
 have h2:=h.2.1; have h3:=h.2.2; have h1:=h.1;show decide (_=_)=!decide (_=_);unfold isV;rw[df9];by_cases hp:0<x
 ·rw[if_neg om,if_neg om,if_neg om,if_pos hp,Int.neg_neg,dg1 b (by omega:(x-1).toNat<n)];split<;>decide
 ·rw[if_neg om,if_pos om,if_neg om,if_neg hp,dg1 b (by omega:(-x-1).toNat<n)];split<;>decide
theorem jb6 (b:List Bool){n c:Nat}(hc:c<=n)(i:Nat)(hi:i<c):decide (isV (ca7 b n) ((i:Int)+1)=1)=ab7.inS (df8 b c) i:=by
 unfold isV ab7.inS;rw[df9,if_neg om,if_pos om,show ((i:Int)+1-1).toNat=i by omega,dg1 b om];rw[decide_eq_decide];unfold df8;rw[bq9]
 cases hb:b.getD i false with
 | true=>
  have hl:i<b.length:=by
   apply qh;intro hl;rw[za,List.getElem?_eq_none om] at hb;cases hb
  exact ⟨fun _=>⟨i,rfl,om,hb⟩,fun _=>rfl⟩
 | false=>
  refine ⟨fun h=>(by cases h),fun ⟨m,e,_,h⟩=>?_⟩;have:i=m:=om
  subst this;rw[hb] at h; cases h
theorem gb8 {a:ab7}(hO:a.bo2)(b:List Bool){n:Nat}(hn:n=a.l.length+(a.ai5 a.items ⟨0,[],[]⟩).2.h)
  (h:dk9 (ca7 b n) ((a.ai5 a.items ⟨0,[],[]⟩).2.cl++(a.ai5 a.items ⟨0,[],[]⟩).1.flatten)=true):a.good (df8 b a.l.length)=true:=by
 refine a.gb9 hO (T:=fun x=>decide (isV (ca7 b n) x=1)) (fun i hi=>jb6 b om i hi) (by rw[<- hn]; exact gs9 b n) fun q hq=>?_
 unfold dk9 at h;exact zp.1 h q hq
end Go.Id.Md
namespace Go.Id.Md
open Go Go.Id
namespace ab7
variable {a:ab7}
def RgL (V:Nat)(l:List (List Int)):Prop:=∀ q∈l,∀ y∈q,RgN V y
theorem RgL.mono {V W:Nat}{l:List (List Int)}(h:RgL V l)(hw:V<=W):RgL W l:=fun q hq y hy=>(h q hq y hy).mono hw
theorem id9 {n:Int}(h:a.is n=true){V:Nat}(hV:a.l.length<=V):RgN V (n+1):=by
 unfold is at h;simp only[zb,decide_eq_true_eq] at h;exact ⟨om,om,om⟩
theorem ie1 {ns:List Int}(h:∀ n∈ns,a.is n=true){V:Nat}(hV:a.l.length<=V):∀ y∈upL ns,RgN V y:=fun y hy=>by
 obtain ⟨n,hn,rfl⟩:=ze.1 hy;exact id9 (h n hn) hV
theorem ie2 {ns:List Int}(h:∀ n∈ns,a.is n=true){V:Nat}(hV:a.l.length<=V):∀ y∈noL ns,RgN V y:=fun y hy=>by
 obtain ⟨n,hn,rfl⟩:=ze.1 hy;exact (id9 (h n hn) hV).neg
theorem ie3 {x:Itm}(hx:a.Has x)(h2:x.kind≠2)(h3:x.kind≠3){V:Nat}(hV:a.l.length<=V):RgL V (a.ca8 x):=by
 have isN:∀ n:Nat,n<a.l.length->a.is n=true:=fun n hn=>by rw[ab7.cf2]; exact decide_eq_true hn
 have one:∀ {l:List Int},(∀ y∈l,RgN V y)->RgL V [l]:=fun h q hq=>by rw[zn] at hq; rw[hq]; exact h
 cases hx with
 | au7 p hp _=>exact one (ie2 (fun n hn=>by rw[zn] at hn; rw[hn]; exact isN p hp) hV)
 | need p q _ _=>exact absurd rfl h2
 | clash p q _ _=>exact absurd rfl h3
 | over p q hp hq=>
  intro r hr;obtain ⟨n,hn,rfl⟩:=ze.1 hr;obtain ⟨m,rfl,h1,_⟩:=al3.1 (z8.1 hn).1;refine ie2 (fun k hk=>?_) hV;simp only[zq,z0,or_false] at hk;rcases hk with rfl|rfl
  ·exact isN p hp
  ·exact isN m h1
 | twin p q h1 h4 _=>
  refine one (ie2 (fun k hk=>?_) hV);simp only[zq,z0,or_false] at hk;rcases hk with rfl|rfl
  ·exact isN p om
  ·exact isN q h4
 | keep i hi _=>exact one (ie1 aw9 hV)
 | job j hj _=>
  show RgL V (a.dg2 j);unfold dg2;split
  ·exact one (ie1 bj8 hV)
  ·split
   ·intro r hr;obtain ⟨n,_,rfl⟩:=ze.1 hr;exact ie1 aw9 hV
   ·split
    ·intro r hr;obtain ⟨n,_,rfl⟩:=ze.1 hr;exact ie1 (fun m hm=>aw9 m (a.ec5 hm).1) hV
    ·intro r hr;obtain ⟨n,hn,rfl⟩:=ze.1 hr;exact ie2 (fun m hm=>by rw[zn] at hm; rw[hm]; exact bj8 n hn) hV
variable (hO:bo2 a)
include hO
theorem jb7 {x:Itm}(hx:a.Has x){t:ah6}(ho:t.OK a.l.length):RgL (a.l.length+(a.ai3 x t).2.h) (a.ai3 x t).1:=by
 have two:∀ {V:Nat} {y z:Int},RgN V y->RgN V z->RgL V [[y,z]]:=fun h1 h2 q hq w hw=>by
  rw[zn] at hq;rw[hq] at hw;simp only[zq,z0,or_false] at hw;rcases hw with rfl|rfl<;>assumption
 by_cases h2:x.kind=2
 ·cases hx with
  | need p q hp hq=>
   obtain ⟨f,_,_⟩:=ed5 hO hp hq;have h:=bm7 a.l hO.len (-1) _ (.inl f) t ho
   exact two (id9 (by rw[ab7.cf2]; exact decide_eq_true hp) (zf _ _)).neg h.ok.2
  | _=>simp at h2
 by_cases h3:x.kind=3
 ·cases hx with
  | clash p q hp hq=>
   obtain ⟨f,_,_⟩:=cz4 hO hp hq;have h:=bm7 a.l hO.len p _ (.inl f) t ho
   exact two (id9 (by rw[ab7.cf2]; exact decide_eq_true hp) (zf _ _)).neg h.ok.2.neg
  | _=>simp at h3
 have e:a.ai3 x t=(a.ca8 x,t):=by unfold ai3; rw[if_neg h2,if_neg h3]
 rw[e]; exact ie3 hx h2 h3 (zf _ _)
theorem ie4:∀ (xs:List Itm),(∀ x∈xs,a.Has x)->∀ t:ah6,t.OK a.l.length->∀ q∈(a.ai5 xs t).1,RgL (a.l.length+(a.ai5 xs t).2.h) q:=by
 intro xs
 induction xs with
 | nil=>intro _ t _ q hq; cases hq
 | cons y ys ih=>
  intro h t ho q hq;have g:=eo1 hO (h y zc) ho;have f:=bw9 hO ys (fun x hx=>h x (zi _ hx)) _ g.ok;rcases zq.1 hq with rfl|hq
  ·exact (jb7 hO (h y zc) ho).mono (by have:=f.1.1; show _<=a.l.length+(a.ai5 ys (a.ai3 y t).2).2.h; omega)
  ·exact ih (fun x hx=>h x (zi _ hx)) _ g.ok q hq
end ab7
end Go.Id.Md
namespace Go.Id.Md
open Go Go.Id
variable {σ s:Store} {tp mid nid k:Nat} {xv allv clv:IV} {P:List aa2} {t:ah6}
theorem aq8.ie9 (h:aq8 s tp mid xv allv clv P t):∀ i cs,s.obj i=z2 (.row cs)->i≠tp/\i≠mid:=fun i cs hi=>
 ⟨fun e=>(by rw[e,h.cell] at hi; cases hi),fun e=>(by rw[e,h.map] at hi; cases hi)⟩
theorem aq8.ntm (h:aq8 s tp mid xv allv clv P t):¬ mid=tp:=fun e=>by have h2:=h.map; rw[e,h.cell] at h2; cases h2
theorem tab_push (h:aq8 s tp mid xv allv clv P t)(q:List Int)(hn:t.cl.length<2147483648)(h1:s.next<=nid)(h2:nid<s.next+k) :
  ∃ s1,be9 ⟨s.next+k,s.obj⟩ nid 1 clv (.aa4 [clE q])=z2 (.slice nid 0 (t.cl.length+1) 1,s1)/\s1.next=s.next+k/\s1.obj tp=z2 (.cells [xv,allv,.int .i64 t.h,clv,.map mid]) /\
   aq8 (s1.put tp (.cells [xv,allv,.int .i64 t.h,.slice nid 0 (t.cl.length+1) 1,.map mid])) tp mid xv allv (.slice nid 0 (t.cl.length+1) 1) P ⟨t.h,t.cl++[q],t.sets⟩ /\
   be2 s (s1.put tp (.cells [xv,allv,.int .i64 t.h,.slice nid 0 (t.cl.length+1) 1,.map mid])) tp mid clv (.slice nid 0 (t.cl.length+1) 1):=by
 have hg:Grow (⟨s.next+k,s.obj⟩:Store) clv 1 (t.cl.map clE):=h.cls.mono (by show s.next<=s.next+k; omega) fun _ _ _=>rfl
 have hap:=aj8 (nid:=nid) (e:=clE q) hg (br6 _) ⟨rfl,rfl⟩ (by rw[zg]; exact hn);rw[zg] at hap;have ltp:=h.lt.1;have ltm:=h.lt.2;have ntn:¬ tp=nid:=om
 have nmn:¬ mid=nid:=om
 have nmt:=h.ntm
 have hkc:∀ i,(∀ k,clv≠.slice i 0 k 1)->(ae7 clv (⟨s.next+k,s.obj⟩:Store)).obj i=s.obj i:=fun i hi=>by
  rcases hg with ⟨h0,_⟩|⟨j,hj,_,_⟩
  ·rw[h0]; rfl
  ·rw[hj];show (if i=j then qm else s.obj i)=_;rw[if_neg fun e=>hi _ (by rw[hj,e])]
 have hcn:∀ i,(∀ cs,s.obj i≠z2 (.row cs))->∀ k,clv≠.slice i 0 k 1:=fun i hi k e=>by
  rcases h.cls with ⟨h0,_⟩|⟨j,hj,ho,_⟩
  ·rw[h0] at e; cases e
  ·rw[hj] at e; cases e; exact hi _ ho
 have kt:=hkc tp (hcn tp fun cs e=>by rw[h.cell] at e; cases e);have km:=hkc mid (hcn mid fun cs e=>by rw[h.map] at e; cases e);have nm:(t.cl++[q]).map clE=t.cl.map clE++[clE q]:=by rw[List.map_append]; rfl
 refine ⟨_,hap,by rw[ab2,ac2],by rw[aa5,if_neg ntn,kt]; exact h.cell,?_,?_⟩
 ·exact {
   cell:=by rw[aa5,if_pos rfl]
   all:=by
    refine h.all.mono (by rw[ab2,ab2,ac2]; show s.next<=s.next+k; omega) fun id hv hid=>?_
    have hr:∃ cs,s.obj id=z2 (.row cs):=by
     rcases h.all with ⟨h0,_⟩|⟨j,hj,ho,_⟩
     ·rw[h0] at hv; cases hv
     ·rw[hj] at hv; cases hv; exact ⟨_,ho⟩
    obtain ⟨cs,hr⟩:=hr;rw[aa5,if_neg (h.ie9 _ _ hr).1,aa5,if_neg om,hkc id fun k e=>h.ne _ _ _ _ e hv rfl]
   cls:=by
    refine .inr ⟨nid,by rw[zg,zh]; rfl,?_,by rw[ab2,ab2,ac2]; exact h2⟩;rw[aa5,if_neg (fun e=>ntn e.symm),aa5,if_pos rfl,nm]
   map:=by rw[aa5,if_neg nmt,aa5,if_neg nmn,km]; exact h.map
   ne:=fun i k j l e1 e2=>by
    cases e1;rcases h.all with ⟨h0,_⟩|⟨j',hj,_,hl⟩
    ·rw[h0] at e2; cases e2
    ·rw[hj] at e2; cases e2; omega
   lt:=by rw[ab2,ab2,ac2]; exact ⟨by show tp<s.next+k; omega,by show mid<s.next+k; omega⟩ }
 ·refine ⟨by rw[ab2,ab2,ac2]; show s.next<=s.next+k; omega,fun i hi g1 g2 g3=>?_,.inr fun i k e=>by cases e; exact h1⟩;rw[aa5,if_neg g1,aa5,if_neg om,hkc i g3]
theorem tab_set (h:aq8 s tp mid xv allv clv P t)(x:Str)(y:Int) :
  aq8 (s.put mid (.map (dj6 (t.sets++[(x,y)])))) tp mid xv allv clv P ⟨t.h,t.cl,t.sets++[(x,y)]⟩/\be2 s (s.put mid (.map (dj6 (t.sets++[(x,y)])))) tp mid clv clv:=by
 have nmt:=h.ntm
 have hr:∀ {v:IV} {esz:Nat} {es:List (List IV)},Grow s v esz es->Grow (s.put mid (.map (dj6 (t.sets++[(x,y)])))) v esz es:=fun {v esz es} hg=>by
  rcases hg with h0|⟨id,h1,h2,h3⟩
  ·exact .inl h0
  ·exact .inr ⟨id,h1,by rw[aa5,if_neg (h.ie9 _ _ h2).2]; exact h2,by rw[ab2]; exact h3⟩
 refine ⟨{ cell:=by rw[aa5,if_neg (fun e=>nmt e.symm)]; exact h.cell,all:=hr h.all,cls:=hr h.cls,map:=by rw[aa5,if_pos rfl],ne:=h.ne,lt:=by rw[ab2]; exact h.lt },⟨by rw[ab2]; exact zj _,fun i hi g1 g2 g3=>by rw[aa5,if_neg g2],.inl rfl⟩⟩
theorem tab_upd (h:s.obj mid=z2 (.map (dj6 t.sets))){x:Str}(y:Int)(hx:bh4 t.sets x=qm):ao4 s 2 (.map mid) (.str x) (.int .i64 y)=z2 (s.put mid (.map (dj6 (t.sets++[(x,y)])))):=by
 simp only[ao4,h,jc2 hx,qn]
theorem tab_look (h:s.obj mid=z2 (.map (dj6 t.sets)))(x:Str):cc3 s 2 (.int .i64 0) true (.map mid) (.str x)=z2 (.tuple [((bh4 t.sets x).map fun x=>IV.int .i64 x).getD (.int .i64 0),.bool (bh4 t.sets x).isSome]):=by
 simp only[cc3,bz3,h,ie7,if_true,Option.isSome_map]
theorem aq8.up (h:aq8 s tp mid xv allv clv P t)(n:Nat):aq8 ⟨s.next+n,s.obj⟩ tp mid xv allv clv P t:=h.mono (zf _ _) fun _ _=>rfl
theorem be2.up {clv':IV}(h:be2 σ s tp mid clv clv')(n:Nat):be2 σ ⟨s.next+n,s.obj⟩ tp mid clv clv':=⟨zd h.next (zf _ _),h.obj,h.new⟩
theorem aq8.kills (h:aq8 s tp mid xv allv clv P t){S:Nat->Bool}(hS:∀ i,S i=false->i≠tp/\i≠mid/\(∀ k,clv≠.slice i 0 k 1)/\∀ k,allv≠.slice i 0 k 15):aq8 (s.kills S) tp mid xv allv clv P t:=by
 have on:∀ i,(S i=false->False)->(s.kills S).obj i=s.obj i:=fun i hi=>by
  show (if S i=true then s.obj i else qm)=_;rw[if_pos (by cases hs:S i with|true=>rfl|false=>exact (hi hs).elim)]
 exact {
  cell:=by rw[on tp fun hs=>(hS _ hs).1 rfl]; exact h.cell
  all:=h.all.mono (zj _) fun id hv _=>on id fun hs=>(hS _ hs).2.2.2 _ hv
  cls:=h.cls.mono (zj _) fun id hv _=>on id fun hs=>(hS _ hs).2.2.1 _ hv
  map:=by rw[on mid fun hs=>(hS _ hs).2.1 rfl]; exact h.map
  ne:=h.ne
  lt:=h.lt }
end Go.Id.Md
namespace Go.Id.Md
open Go Go.Id
def ah6.few (t:ah6):Prop:=t.cl.length<=101*t.h
theorem bx4 {c:Nat}{l:List Int}{t:ah6}(h:t.few)(hl:l.length<=100):(ak3 c l t).2.few:=by
 unfold ah6.few at *;show (t.cl++(l.map fun x=>[-x,((c+(t.h+1):Nat):Int)])++[_]).length<=101*(t.h+1);simp only[zh,zg,zr];omega
theorem eo2 {c:Nat}{l:List Int}{t:ah6}(h:t.few)(hl:l.length<=100):(cf5 c l t).2.few :=
 bx4 (c:=c) (l:=dj5 l) h (by unfold dj5; rw[zg]; exact hl)
theorem dv2 {c:Nat}{x y w:Int}{t:ah6}(h:t.few):(br5 c x y w t).2.few:=by
 unfold ah6.few at *;show (t.cl++[_,_,_,_]).length<=101*(t.h+1);simp only[zh,zk,List.length_nil];omega
theorem gt6 {c:Nat}{l:List Int}{t:ah6}(h:t.few)(hl:l.length<=100):(fi3 c l t).2.few:=by
 unfold fi3;split
 ·exact h
 ·split
  ·exact h
  ·exact bx4 (c:=c) (l:=upL l) h (by unfold upL; rw[zg]; exact hl)
theorem dg3 (l:List Int)(b:Int):(cu9 l b).length<=l.length:=zy _ _
theorem cz5 (l:List aa2)(b:Int):∀ (aZ:List aa6) (t:ah6),(aa6.ak8 l b aZ t).1.length=aZ.length:=by
 intro aZ
 induction aZ with
 | nil=>intro t; rfl
 | cons a aZ ih=>intro t; simp only[aa6.ak8,zk,ih]
theorem gt7 (l:List aa2)(b:Int)(a:aa6):∀ (aZ:List aa6) (t:ah6),aa6.ak8 l b (aZ++[a]) t=((aa6.ak8 l b aZ t).1++[(a.bp2 l b (aa6.ak8 l b aZ t).2).1],(a.bp2 l b (aa6.ak8 l b aZ t).2).2):=by
 intro aZ
 induction aZ with
 | nil=>intro t; rfl
 | cons r rs ih=>intro t; simp only[z6,aa6.ak8,ih]
theorem ey1 (l:List aa2)(hc:l.length<=100)(b:Int)(r:aa6):r.count<=100->∀ t:ah6,t.few->(r.bp2 l b t).2.few:=by
 induction r using aa6.ind with
 | h k d aZ ih=>
  intro hr t ht
  have hcn:∀ aZ:List aa6,aZ.length<=aa6.counts aZ/\∀ a∈aZ,a.count<=aa6.counts aZ:=by
   intro aZ
   induction aZ with
   | nil=>exact ⟨zj _,fun a h=>by cases h⟩
   | cons a aZ ih2=>
    obtain ⟨i1,i2⟩:=ih2;have h1:1<=a.count:=by obtain ⟨k,d,xs⟩:=a; simp only[aa6.count]; omega
    simp only[aa6.counts,zk];refine ⟨om,fun x hx=>?_⟩;rcases zq.1 hx with rfl|hx
    ·omega
    ·have:=i2 x hx; omega
  simp only[aa6.count] at hr
  have hsub:∀ q:aa2->Bool,(cu9 (numsOf q l) b).length<=100:=fun q=>by
   have h1:=dg3 (numsOf q l) b;have h2:=ae8 q l;omega
  have hA:∀ (aZ:List aa6),(∀ a∈aZ,∀ t:ah6,t.few->(a.bp2 l b t).2.few)->∀ t:ah6,t.few->(aa6.ak8 l b aZ t).2.few:=by
   intro aZ
   induction aZ with
   | nil=>intro _ t h; exact h
   | cons a aZ ih2=>intro h t ht; exact ih2 (fun x hx=>h x (zi _ hx)) _ (h a zc t ht)
  obtain ⟨n1,n2⟩:=hcn aZ;have hL:=hA aZ (fun a ha=>ih a ha (by have:=n2 a ha; omega)) t ht;have hn:(aa6.ak8 l b aZ t).1.length<=100:=by rw[cz5]; omega
  unfold aa6.bp2;split
  ·exact gt6 ht (hsub _)
  ·split
   ·exact gt6 ht (hsub _)
   ·unfold gb5;split
    ·exact eo2 hL hn
    ·split
     ·exact bx4 hL hn
     ·split
      ·split
       ·exact dv2 hL
       ·exact bx4 hL (by simp)
      ·split
       ·exact dv2 hL
       ·exact eo2 hL (by simp)
def dl1:IV->Nat->Bool
 | .slice j _ _ _,i=>decide (i≠j)
 | _,_=>true
theorem ey2 {s:Store}{lo:Nat}{v:IV}{zs:List Int}(h:ch8 s lo v zs):Frz s (fun i=>dl1 v i=true) v (.aa4 (zs.map Md.ad9)):=by
 rcases h with ⟨rfl,rfl⟩|⟨id,cs,h1,h2,rfl,h4,h5,h6⟩
 ·exact .ch6
 ·refine .slice id 0 zs.length 1 cs (zs.map Md.ad9) (by simp[dl1]) (.inr h4) (by rw[zg]) om (fun i hi=>?_) fun i hi j hj=>?_
  ·simp[za,hi,Md.ad9]
  ·have hj0:j=0:=om
   subst hj0;have e2:((zs.map Md.ad9).getD i []).getD 0 .undef=bo7 zs[i]:=by simp[za,hi,Md.ad9]
   rw[e2,Nat.zero_add,Nat.mul_one,Nat.add_zero,eb3 h5 hi];exact .keep _ (.int _ _)
theorem eo3 {s:Store}{lo:Nat}{v:IV}{zs:List Int}(h:ch8 s lo v zs){i:Nat}(hi:dl1 v i=false):lo<=i/\∃ k,v=.slice i 0 k 1/\∃ cs,s.obj i=z2 (.row cs):=by
 rcases h with ⟨rfl,rfl⟩|⟨id,cs,h1,h2,rfl,h4,h5,h6⟩
 ·cases hi
 ·have e:i=id:=by simpa [dl1] using hi
  subst e;exact ⟨h1,_,rfl,_,h4⟩
variable {σ s u:Store} {tp mid lo:Nat} {xv allv clv a b c:IV} {P:List aa2} {t:ah6} {v:IV} {zs:List Int}
theorem aq8.off (h:aq8 s tp mid xv allv clv P t)(hr:ch8 s lo v zs)(hne:∀ i k l,clv=.slice i 0 k 1->v≠.slice i 0 l 1)(hna:∀ i k l,allv=.slice i 0 k 15->v≠.slice i 0 l 1):aq8 (s.kills (dl1 v)) tp mid xv allv clv P t :=
 h.kills fun i hi=>by
  obtain ⟨h1,k,h2,cs,h3⟩:=eo3 hr hi;exact ⟨(h.ie9 _ _ h3).1,(h.ie9 _ _ h3).2,fun k' e=>hne _ _ _ e h2,fun k' e=>hna _ _ _ e h2⟩
theorem be2.kill {S:Nat->Bool}(h:be2 σ s tp mid a b)(g:be2 (s.kills S) u tp mid b c)(hS:∀ i,i<σ.next->S i=true):be2 σ u tp mid a c where
 next:=zd h.next g.next
 obj:=fun i hi h1 h2 h3=>by
  have e:(s.kills S).obj i=s.obj i:=by show (if S i=true then s.obj i else qm)=_; rw[if_pos (hS i hi)]
  rw[g.obj i (zl hi h.next) h1 h2 fun k e=>?_,e,h.obj i hi h1 h2 h3];rcases h.new with h4|h4
  ·exact h3 k (by rw[<- h4]; exact e)
  ·have:=h4 i k e; omega
 new:=by
  rcases g.new with e|g4
  ·rw[e]; exact h.new
  ·exact .inr fun i k e=>zd h.next (g4 i k e)
def ed7 (σ:Store)(tp mid:Nat)(xv allv clv:IV)(P:List aa2)(r:Int×ah6)(v:IV)(s:Store):Prop :=
 v=.int .i64 r.1/\∃ clv',be2 σ s tp mid clv clv'/\aq8 s tp mid xv allv clv' P r.2
end Go.Id.Md
namespace Go.Id.Md
open Go Go.Id
variable {σ s u:Store} {tp mid lo k nid:Nat} {xv allv clv a b c:IV} {P:List aa2} {t:ah6} {v:IV} {zs:List Int}
theorem cr7 (h:al2 s lo v zs){i m:Nat}(e:v=.slice i 0 m 1):lo<=i/\∃ cs,s.obj i=z2 (.row cs):=by
 rcases h with ⟨rfl,_⟩|⟨id,h1,h2,rfl,h4⟩
 ·cases e
 ·cases e; exact ⟨h1,_,h4⟩
theorem aq8.but (h:aq8 s tp mid xv allv clv P t)(hr:al2 s lo v zs)(hne:∀ i k l,clv=.slice i 0 k 1->v≠.slice i 0 l 1)(hna:∀ i k l,allv=.slice i 0 k 15->v≠.slice i 0 l 1)(hn:s.next<=u.next)
  (ho:∀ i,i<s.next->(∀ m,v≠.slice i 0 m 1)->u.obj i=s.obj i):aq8 u tp mid xv allv clv P t where
 cell:=by
  rw[ho _ h.lt.1 fun m e=>?_]
  ·exact h.cell
  ·obtain ⟨_,cs,e2⟩:=cr7 hr e;exact (h.ie9 _ _ e2).1 rfl
 all:=h.all.mono hn fun id hv hid=>ho id hid fun m e=>hna _ _ _ hv e
 cls:=h.cls.mono hn fun id hv hid=>ho id hid fun m e=>hne _ _ _ hv e
 map:=by
  rw[ho _ h.lt.2 fun m e=>?_]
  ·exact h.map
  ·obtain ⟨_,cs,e2⟩:=cr7 hr e;exact (h.ie9 _ _ e2).2 rfl
 ne:=h.ne
 lt:=⟨by have:=h.lt.1; omega,by have:=h.lt.2; omega⟩
theorem be2.but (h:be2 σ s tp mid a b)(hr:al2 s lo v zs)(hlo:σ.next<=lo)(hn:s.next<=u.next)(ho:∀ i,i<s.next->(∀ m,v≠.slice i 0 m 1)->u.obj i=s.obj i):be2 σ u tp mid a b :=
 ⟨zd h.next hn,fun i hi h1 h2 h3=>by
  have hv:∀ m,v≠.slice i 0 m 1:=fun m e=>by have:=(cr7 hr e).1; omega
  rw[ho i (zl hi h.next) hv,h.obj i hi h1 h2 h3],h.new⟩
theorem tab_row (h:aq8 s tp mid xv allv clv P t)(hr:al2 s lo v zs)(hne:∀ i k l,clv=.slice i 0 k 1->v≠.slice i 0 l 1)(hna:∀ i k l,allv=.slice i 0 k 15->v≠.slice i 0 l 1)(n:Int)(h1:s.next<=nid)(h2:nid<s.next+k)(hlo:lo<=s.next){cs:List IV}(hc:cs=(zs++[n]).map bo7) :
  aq8 ((ae7 v ⟨s.next+k,s.obj⟩).put nid (.row cs)) tp mid xv allv clv P t/\(∀ σ a,be2 σ s tp mid a clv->σ.next<=lo->be2 σ ((ae7 v ⟨s.next+k,s.obj⟩).put nid (.row cs)) tp mid a clv) /\
   al2 ((ae7 v ⟨s.next+k,s.obj⟩).put nid (.row cs)) lo (.slice nid 0 (zs.length+1) 1) (zs++[n])/\(∀ i k l,clv=.slice i 0 k 1->IV.slice nid 0 (zs.length+1) 1≠.slice i 0 l 1)/\(∀ i k l,allv=.slice i 0 k 15->IV.slice nid 0 (zs.length+1) 1≠.slice i 0 l 1):=by
 subst hc;have hn:s.next<=((ae7 v ⟨s.next+k,s.obj⟩).put nid (.row ((zs++[n]).map bo7))).next:=by rw[ab2,ac2]; exact zf _ _
 have ho:∀ i,i<s.next->(∀ m,v≠.slice i 0 m 1)->((ae7 v ⟨s.next+k,s.obj⟩).put nid (.row ((zs++[n]).map bo7))).obj i=s.obj i:=fun i hi hv=>by
  rw[aa5,if_neg om];rcases hr with ⟨rfl,_⟩|⟨id,_,_,rfl,_⟩
  ·rfl
  ·show (if i=id then qm else s.obj i)=_;rw[if_neg fun e=>hv _ (by rw[e])]
 refine ⟨h.but hr hne hna hn ho,fun σ a g hl=>g.but hr hl hn ho,.inr ⟨nid,zd hlo h1,by rw[ab2,ac2]; exact h2,by rw[zh,zr],by rw[aa5,if_pos rfl]⟩,fun i k l e e2=>?_,fun i k l e e2=>?_⟩
 ·cases e2;rcases h.cls with ⟨h0,_⟩|⟨j,hj,_,hl⟩
  ·rw[h0] at e; cases e
  ·rw[hj] at e; cases e; omega
 ·cases e2;rcases h.all with ⟨h0,_⟩|⟨j,hj,_,hl⟩
  ·rw[h0] at e; cases e
  ·rw[hj] at e; cases e; omega
end Go.Id.Md
namespace Go.Id.Md
open Go Go.Id
theorem eo4 (l:List aa2)(hc:l.length<=100)(b:Int):∀ aZ:List aa6,(∀ a∈aZ,a.ak7 1 false=true\/a.ak7 1 true=true)->∀ t:ah6,t.OK l.length ->
  ie5 l.length (aa6.counts aZ) t (aa6.ak8 l b aZ t) fun T=>aZ.map fun a=>a.tr l (inT l.length b T):=by
 intro aZ
 induction aZ with
 | nil=>intro _ t ho; exact ⟨⟨zj _,zf _ _⟩,fun _ h=>h,⟨ho,fun _ h=>by cases h⟩,fun T _ _ hk=>⟨rfl,hk⟩⟩
 | cons a aZ ih=>
  intro h t ho;have g:=bm7 l hc b a (h a zc) t ho;have f:=ih (fun a ha=>h a (zi _ ha)) _ g.ok.1;simp only[aa6.counts,aa6.ak8];refine ⟨⟨zd g.le.1 f.le.1,by have:=g.le.2; have:=f.le.2; show (aa6.ak8 l b aZ (a.bp2 l b t).2).2.h<=_; omega⟩,fun q hq=>f.cl q (g.cl q hq),⟨f.ok.1,fun x hx=>?_⟩,fun T hv hs hk=>?_⟩
  ·rcases zq.1 hx with rfl|hx
   ·exact g.ok.2.mono (by have:=f.le.1; show l.length+_<=l.length+(aa6.ak8 l b aZ (a.bp2 l b t).2).2.h; omega)
   ·exact f.ok.2 x hx
  ·obtain ⟨g1,g2⟩:=g.says T (hv.mono (by have:=f.le.1; show l.length+_<=l.length+(aa6.ak8 l b aZ (a.bp2 l b t).2).2.h; omega)) (fun q hq=>hs q (f.cl q hq)) hk;obtain ⟨f1,f2⟩:=f.says T hv hs g2;exact ⟨by simp only[zv,g1,f1],f2⟩
theorem fi8 (l:List aa2)(hc:l.length<=100)(b:Int):∀ aZ:List aa6,(∀ a∈aZ,a.count<=100)->∀ t:ah6,t.few->(aa6.ak8 l b aZ t).2.few:=by
 intro aZ
 induction aZ with
 | nil=>intro _ t h; exact h
 | cons a aZ ih2=>intro h t ht; exact ih2 (fun x hx=>h x (zi _ hx)) _ (ey1 l hc b a (h a zc) t ht)
theorem ey3 (aZ:List aa6):∀ i,(h:i<aZ.length)->aa6.counts (aZ.take i)+(aZ[i]).count<=aa6.counts aZ:=by
 induction aZ with
 | nil=>intro i h; exact absurd h (zt _)
 | cons a aZ ih=>
  intro i h
  cases i with
  | zero=>simp only[List.take_zero,aa6.counts,List.getElem_cons_zero]; omega
  | succ i=>
   have:=ih i (by simpa using h);simp only[qf,aa6.counts,List.getElem_cons_succ]; omega
theorem eo5 {k:Int}{d:Dep}{aZ:List aa6}{wh:Int}(hf:(aa6.mk k d aZ).ak7 wh false=true\/(aa6.mk k d aZ).ak7 wh true=true) :
  (bh3 wh k d aZ.length false=true\/bh3 wh k d aZ.length true=true)/\∀ a∈aZ,a.ak7 wh false=true\/a.ak7 wh true=true:=by
 rcases hf with hf|hf<;>simp only[aa6.ak7,zb,aa6.ap5,zp] at hf
 ·refine ⟨.inl hf.1,fun a ha=>?_⟩;have:=hf.2 a ha;cases hx:(false||decide (k=6)||decide (k=7))<;>rw[hx] at this
  ·exact .inl this
  ·exact .inr this
 ·refine ⟨.inr hf.1,fun a ha=>?_⟩;have:=hf.2 a ha;rw[z5,z5] at this;exact .inr this
theorem dv3 {k:Int}{d:Dep}{aZ:List aa6}(e:k=6\/k=7)(hf:(aa6.mk k d aZ).ak7 1 false=true\/(aa6.mk k d aZ).ak7 1 true=true):(aa6.mk k d aZ).ak7 1 true=true:=by
 have h1:=(eo5 hf).1
 have h3:∀ a∈aZ,a.ak7 1 true=true:=by
  have e:((decide (k=6))||decide (k=7))=true:=by rcases e with rfl|rfl<;>decide
  rcases hf with hf|hf<;>simp only[aa6.ak7,zb,aa6.ap5,zp,Bool.or_assoc,e,Bool.or_true] at hf<;>exact hf.2
 have h4:bh3 1 k d aZ.length true=true:=by
  rcases h1 with h1|h1
  ·unfold bh3 at h1 ⊢;rcases e with rfl|rfl<;>simpa using h1
  ·exact h1
 simp only[aa6.ak7,zb,aa6.ap5,zp,z5];exact ⟨h4,h3⟩
theorem gc1 {k:Int}{d:Dep}{n:Nat}(h:bh3 1 k d n false=true\/bh3 1 k d n true=true):(k=1/\n=0/\aj9 d=true)\/k=2\/k=3\/(k=4/\(n=2\/n=3))\/(k=5/\(n=2\/n=3))\/k=6\/k=7:=by
 unfold bh3 at h;by_cases e1:k=1
 ·simp only[e1,if_true,or_self,zb,decide_eq_true_eq] at h;exact .inl ⟨e1,h.1,h.2⟩
 rw[if_neg e1,if_neg e1] at h;by_cases e2:k=2
 ·exact .inr (.inl e2)
 by_cases e3:k=3
 ·exact .inr (.inr (.inl e3))
 by_cases e6:k=6
 ·exact .inr (.inr (.inr (.inr (.inr (.inl e6)))))
 by_cases e7:k=7
 ·exact .inr (.inr (.inr (.inr (.inr (.inr e7)))))
 by_cases e4:k=4
 ·simp[e4] at h; exact .inr (.inr (.inr (.inl ⟨e4,h.1⟩)))
 by_cases e5:k=5
 ·simp[e5] at h; exact .inr (.inr (.inr (.inr (.inl ⟨e5,h.1⟩))))
 ·simp[e2,e3,e4,e5,e6,e7] at h
variable {σ s u:Store} {tp mid lo k nid:Nat} {xv allv clv a b c:IV} {P:List aa2} {t:ah6} {v:IV} {zs:List Int}
theorem tab_row2 (h:aq8 s tp mid xv allv clv P t)(hr:al2 s lo v zs)(hne:∀ i k l,clv=.slice i 0 k 1->v≠.slice i 0 l 1)(hna:∀ i k l,allv=.slice i 0 k 15->v≠.slice i 0 l 1)(n:Int)(h1:lo<=nid)(h2:nid<s.next)
  (h3:nid≠tp/\nid≠mid/\(∀ k,clv≠.slice nid 0 k 1)/\∀ k,allv≠.slice nid 0 k 15) {cs:List IV} (hc:cs=(zs++[n]).map bo7) :
  aq8 ((ae7 v s).put nid (.row cs)) tp mid xv allv clv P t/\(∀ σ a,be2 σ s tp mid a clv->σ.next<=lo->be2 σ ((ae7 v s).put nid (.row cs)) tp mid a clv) /\
   al2 ((ae7 v s).put nid (.row cs)) lo (.slice nid 0 (zs.length+1) 1) (zs++[n])/\(∀ i k l,clv=.slice i 0 k 1->IV.slice nid 0 (zs.length+1) 1≠.slice i 0 l 1)/\(∀ i k l,allv=.slice i 0 k 15->IV.slice nid 0 (zs.length+1) 1≠.slice i 0 l 1):=by
 subst hc;have hn:s.next<=((ae7 v s).put nid (.row ((zs++[n]).map bo7))).next:=by rw[ab2,ac2]; exact zj _
 have ho:∀ i,i≠nid->(∀ m,v≠.slice i 0 m 1)->((ae7 v s).put nid (.row ((zs++[n]).map bo7))).obj i=s.obj i:=fun i hi hv=>by
  rw[aa5,if_neg hi];rcases hr with ⟨rfl,_⟩|⟨id,_,_,rfl,_⟩
  ·rfl
  ·show (if i=id then qm else s.obj i)=_;rw[if_neg fun e=>hv _ (by rw[e])]
 have hvt:∀ i cs,s.obj i=z2 (.cells cs)->∀ m,v≠.slice i 0 m 1:=fun i cs hi m e=>by
  obtain ⟨_,cs',e2⟩:=cr7 hr e;rw[hi] at e2; cases e2
 have hvm:∀ i cs,s.obj i=z2 (.map cs)->∀ m,v≠.slice i 0 m 1:=fun i cs hi m e=>by
  obtain ⟨_,cs',e2⟩:=cr7 hr e;rw[hi] at e2; cases e2
 refine ⟨?_,fun σ a g hl=>⟨zd g.next hn,fun i hi g1 g2 g3=>?_,g.new⟩,.inr ⟨nid,h1,by rw[ab2,ac2]; exact h2,by rw[zh,zr],by rw[aa5,if_pos rfl]⟩,fun i k l e e2=>?_,fun i k l e e2=>?_⟩
 ·exact {
   cell:=by rw[ho _ (fun e=>h3.1 e.symm) (hvt _ _ h.cell)]; exact h.cell
   all:=h.all.mono hn fun id hv _=>ho id (fun e=>h3.2.2.2 _ (by rw[<- e]; exact hv)) fun m e=>hna _ _ _ hv e
   cls:=h.cls.mono hn fun id hv _=>ho id (fun e=>h3.2.2.1 _ (by rw[<- e]; exact hv)) fun m e=>hne _ _ _ hv e
   map:=by rw[ho _ (fun e=>h3.2.1 e.symm) (hvm _ _ h.map)]; exact h.map
   ne:=h.ne
   lt:=⟨zl h.lt.1 hn,zl h.lt.2 hn⟩ }
 ·have hv:∀ m,v≠.slice i 0 m 1:=fun m e=>by have:=(cr7 hr e).1; omega
  rw[ho i om hv,g.obj i hi g1 g2 g3]
 ·cases e2; exact h3.2.2.1 _ e
 ·cases e2; exact h3.2.2.2 _ e
theorem ed7.from {T:Store}{r:Int×ah6}(h:ed7 T tp mid xv allv b P r v s)(g:be2 σ T tp mid a b):ed7 σ tp mid xv allv a P r v s:=by
 obtain ⟨h1,clv',h2,h3⟩:=h;exact ⟨h1,clv',g.trans h2,h3⟩
theorem aq8.free (h:aq8 s tp mid xv allv clv P t){i:Nat}(hi:s.next<=i):i≠tp/\i≠mid/\(∀ k,clv≠.slice i 0 k 1)/\∀ k,allv≠.slice i 0 k 15:=by
 refine ⟨by have:=h.lt.1; omega,by have:=h.lt.2; omega,fun k e=>?_,fun k e=>?_⟩
 ·rcases h.cls with ⟨h0,_⟩|⟨j,hj,_,hl⟩
  ·rw[h0] at e; cases e
  ·rw[hj] at e; cases e; omega
 ·rcases h.all with ⟨h0,_⟩|⟨j,hj,_,hl⟩
  ·rw[h0] at e; cases e
  ·rw[hj] at e; cases e; omega
theorem gt8 (h:al2 s lo v zs)(hz:0<zs.length):∃ id,v=.slice id 0 zs.length 1/\s.obj id=z2 (.row (zs.map bo7)):=by
 rcases h with ⟨_,rfl⟩|⟨id,_,_,h3,h4⟩
 ·exact absurd hz (Nat.lt_irrefl _)
 ·exact ⟨id,h3,h4⟩
end Go.Id.Md
namespace Go.Id
open Go
theorem ir6 {P:Program}{E:Nat->IV}{σ:Store}{f:Nat}{args:List IV}{Q Q':IV->Store->Prop}(h:C P E f args σ Q)(hq:∀ v s,Q v s->∃ (S:Nat->Bool) (v':IV),Frz s (fun i=>S i=true) v v'/\Q' v' (s.kills S)):C P E f args σ Q':=by
 intro ρ w rargs hs ha;refine CallsIn.mono (h ρ w rargs hs ha) ?_;rintro e w' ⟨v,r,ρ',σ',rfl,q,hs',hv',hx⟩;obtain ⟨S,v',hf,q'⟩:=hq v σ' q;obtain ⟨ρd,hsd,hxd,hvd⟩:=bm3 (S:=S) hs';exact ⟨v',r,ρd,σ'.kills S,rfl,q',hsd,hvd _ _ _ hf hv',hx.trans ((hxd _).weak (zj _))⟩
end Go.Id
namespace Go.Id
open Go
theorem fi9 {σ s:Store}{gv:IV}{esz nid k:Nat}{es:List (List IV)}{e:List IV}(hk:Kept σ s)(hg:Grow s gv esz es)(hi:∀ i k,gv=.slice i 0 k esz->σ.next<=i)(h:∀ x∈es,x.length=esz/\x.all IV.leaf=true)(he:e.length=esz/\e.all IV.leaf=true)(hn:es.length<2147483648)
  (h1:s.next<=nid) (h2:nid<s.next+k):be9 ⟨s.next+k,s.obj⟩ nid esz gv (.aa4 [e])=z2 (.slice nid 0 (es.length+1) esz,(ae7 gv ⟨s.next+k,s.obj⟩).put nid (.row (es++[e]).flatten)) /\
   Kept σ ((ae7 gv ⟨s.next+k,s.obj⟩).put nid (.row (es++[e]).flatten))/\Grow ((ae7 gv ⟨s.next+k,s.obj⟩).put nid (.row (es++[e]).flatten)) (.slice nid 0 (es.length+1) esz) esz (es++[e])/\∀ i m,IV.slice nid 0 (es.length+1) esz=.slice i 0 m esz->σ.next<=i:=by
 have hg1:Grow (⟨s.next+k,s.obj⟩:Store) gv esz es:=hg.mono (zf _ _) fun _ _ _=>rfl
 have hkn:=hk.next;refine ⟨aj8 hg1 h he hn,⟨?_,fun i hl=>?_⟩,.inr ⟨nid,by rw[zh]; rfl,by rw[aa5,if_pos rfl],by rw[ab2,ac2]; exact h2⟩,fun i m e=>by cases e; omega⟩
 ·rw[ab2,ac2]; exact zd hkn (zf _ _)
 ·rw[aa5,if_neg om];rcases hg with ⟨rfl,_⟩|⟨id,rfl,_,_⟩
  ·exact hk.obj i hl
  ·have:=hi id _ rfl;show (if i=id then qm else s.obj i)=_;rw[if_neg om]; exact hk.obj i hl
end Go.Id
namespace Go.Id.Md
open Go Go.Id
def bx5 (l:List (List Int)):IV:=.aa4 (l.map clE)
theorem eo6 (q:List Int):∀ c∈clE q,Bnd 0 c:=fun c hc=>by
 rw[clE,zn] at hc;subst hc
 exact .aa4 _ fun e he c hc=>by
  obtain ⟨x,_,rfl⟩:=ze.1 he;rw[Md.ad9,zn] at hc;subst hc;exact .int _ _
theorem bm8 (l:List (List Int)):Bnd 0 (bx5 l):=.aa4 _ fun e he c hc=>by
 obtain ⟨q,_,rfl⟩:=ze.1 he;exact eo6 q c hc
def jj4 (σ:Store)(tp mid:Nat)(xv allv clv:IV)(P:List aa2)(r:List (List Int)×ah6)(v:IV)(s:Store):Prop :=
 v=.tuple [bx5 r.1,.int .i64 0]/\∃ clv',be2 σ s tp mid clv clv'/\aq8 s tp mid xv allv clv' P r.2
variable {Pr:Program} {E:Nat->IV} {σ s:Store} {tp mid f:Nat} {xv allv clv:IV} {P:List aa2} {t:ah6} {args:List IV} {cls:List (List Int)}
theorem ey4 {S:Nat->Prop}{v v':IV}(h:Frz s S v v'):Frz s S (.tuple [v,.int .i64 0]) (.tuple [v',.int .i64 0]):=.by5 (.cons h (.cons (.keep _ (.int _ _)) .nil))
theorem ir7 (hM:aq8 σ tp mid xv allv clv P t)(h:C Pr E f args σ fun v s=>∃ gv,v=.tuple [gv,.int .i64 0]/\Kept σ s/\Grow s gv 1 (cls.map clE)/\∀ i k,gv=.slice i 0 k 1->σ.next<=i):C Pr E f args σ (jj4 σ tp mid xv allv clv P (cls,t)):=by
 refine ir6 h ?_;rintro v s ⟨gv,rfl,hk,hg,hi⟩
 have hS:∀ i,i<σ.next->dl1 gv i=true:=fun i hl=>by
  rcases hg with ⟨rfl,_⟩|⟨id,rfl,_,_⟩
  ·rfl
  ·have:=hi id _ rfl;simp only[dl1,decide_eq_true_eq]; omega
 have hkk:Kept σ (s.kills (dl1 gv)):=⟨hk.next,fun i hl=>by
  show (if dl1 gv i=true then s.obj i else qm)=_;rw[if_pos (hS i hl),hk.obj i hl]⟩
 refine ⟨dl1 gv,_,ey4 (hg.frz (fun x hx=>(br6 _ x hx).1) (fun id e=>by rw[e]; simp[dl1]) fun e he c hc=>?_),rfl,clv,⟨hkk.next,fun i hl _ _ _=>hkk.obj i hl,.inl rfl⟩,hM.mono hkk.next hkk.obj⟩;obtain ⟨q,_,rfl⟩:=ze.1 he;exact (eo6 q c hc).weak fun i h=>absurd h (zt _)
theorem fj1 (hM:aq8 σ tp mid xv allv clv P t)(h:C Pr E f args σ fun v s=>v=.tuple [bx5 cls,.int .i64 0]/\Kept σ s):C Pr E f args σ (jj4 σ tp mid xv allv clv P (cls,t)):=
 h.mono fun v s ⟨h1,hk⟩=>⟨h1,clv,⟨hk.next,fun i hl _ _ _=>hk.obj i hl,.inl rfl⟩,hM.mono hk.next hk.obj⟩
theorem ir8 {zs:List Int}(h:C Pr E f args σ fun v s=>∃ gv clv',v=.tuple [.aa4 [[gv]],.int .i64 0]/\be2 σ s tp mid clv clv'/\aq8 s tp mid xv allv clv' P t/\al2 s σ.next gv zs/\(∀ i k l,clv'=.slice i 0 k 1->gv≠.slice i 0 l 1)/\(∀ i k l,allv=.slice i 0 k 15->gv≠.slice i 0 l 1)) :
  C Pr E f args σ (jj4 σ tp mid xv allv clv P ([zs],t)):=by
 refine ir6 h ?_;rintro v s ⟨gv,clv',rfl,hT,hM,hg,hne,hna⟩;refine ⟨dl1 gv,.tuple [bx5 [zs],.int .i64 0],ey4 (.aa4 _ _ rfl (fun i hi=>?_) fun i hi j hj=>?_),rfl,clv',hT.kill (be2.refl _ _ _ _) fun i hi=>?_,hM.off hg.w hne hna⟩
 ·have:i=0:=by simpa using hi
  subst this; rfl
 ·have h0:i=0:=by simpa using hi
  subst h0;have h1:j=0:=by simpa using hj
  subst h1;exact ey2 hg.w
 ·cases ho:dl1 gv i with
  | true=>rfl
  | false=>have:=(eo3 hg.w ho).1; omega
end Go.Id.Md
namespace Go.Id.Md
open Go Go.Id
variable {σ s u:Store} {tp mid rp dm nid k:Nat} {xv allv clv clv' cv av c1 c3:IV} {P:List aa2} {t t':ah6} {fm:List (IV×IV)} {cs:List (List (List Int))}
def bkE (q:List (List Int)):List IV:=[bx5 q]
theorem ir9 (l:List (List (List Int))):∀ e∈l.map bkE,e.length=1/\e.all IV.leaf=true:=fun e he=>by
 obtain ⟨x,_,rfl⟩:=ze.1 he;exact ⟨rfl,rfl⟩
structure cx4 (s:Store) (av c1 c3:IV) (rp dm tp mid:Nat) (fm:List (IV×IV)) (xv allv clv cv:IV) (P:List aa2) (t:ah6) (cs:List (List (List Int))):Prop where
 cell:s.obj rp=z2 (.cells [av,c1,.ptr tp 0,c3,cv])
 map:s.obj dm=z2 (.map fm)
 tab:aq8 s tp mid xv allv clv P t
 grow:Grow s cv 1 (cs.map bkE)
 ne:∀ i k m,clv=.slice i 0 k 1->cv≠.slice i 0 m 1
 na:∀ i k m,allv=.slice i 0 k 15->cv≠.slice i 0 m 1
 lt:rp<s.next/\dm<s.next
 dt:rp≠tp/\rp≠mid/\dm≠tp/\dm≠mid
theorem cx4.mono (h:cx4 s av c1 c3 rp dm tp mid fm xv allv clv cv P t cs)(hk:Kept s u):cx4 u av c1 c3 rp dm tp mid fm xv allv clv cv P t cs where
 cell:=by rw[hk.obj _ h.lt.1]; exact h.cell
 map:=by rw[hk.obj _ h.lt.2]; exact h.map
 tab:=h.tab.mono hk.next hk.obj
 grow:=h.grow.mono hk.next fun id _ hid=>hk.obj id hid
 ne:=h.ne
 na:=h.na
 lt:=⟨zl h.lt.1 hk.next,zl h.lt.2 hk.next⟩
 dt:=h.dt
theorem ey5 (h:aq8 s tp mid xv allv clv P t){i k:Nat}(e:clv=.slice i 0 k 1):(∃ cs,s.obj i=z2 (.row cs))/\i<s.next:=by
 rcases h.cls with ⟨h0,_⟩|⟨j,hj,ho,hl⟩
 ·rw[h0] at e; cases e
 ·rw[hj] at e; cases e; exact ⟨⟨_,ho⟩,hl⟩
theorem az1 {gv:IV}{esz:Nat}{es:List (List IV)}(h:Grow s gv esz es){i k:Nat}(e:gv=.slice i 0 k esz):(∃ cs,s.obj i=z2 (.row cs))/\i<s.next:=by
 rcases h with ⟨h0,_⟩|⟨j,hj,ho,hl⟩
 ·rw[h0] at e; cases e
 ·rw[hj] at e; cases e; exact ⟨⟨_,ho⟩,hl⟩
theorem cx4.eff (h:cx4 s av c1 c3 rp dm tp mid fm xv allv clv cv P t cs)(hT:be2 s u tp mid clv clv')(hM:aq8 u tp mid xv allv clv' P t'):cx4 u av c1 c3 rp dm tp mid fm xv allv clv' cv P t' cs where
 cell:=by
  rw[hT.obj _ h.lt.1 h.dt.1 h.dt.2.1 fun k e=>?_]
  ·exact h.cell
  ·obtain ⟨⟨cs,h1⟩,_⟩:=ey5 h.tab e;rw[h.cell] at h1; cases h1
 map:=by
  rw[hT.obj _ h.lt.2 h.dt.2.2.1 h.dt.2.2.2 fun k e=>?_]
  ·exact h.map
  ·obtain ⟨⟨cs,h1⟩,_⟩:=ey5 h.tab e;rw[h.map] at h1; cases h1
 tab:=hM
 grow:=h.grow.mono hT.next fun id hv hid=>by
  obtain ⟨⟨cs,h1⟩,_⟩:=az1 h.grow hv;exact hT.obj id hid (h.tab.ie9 _ _ h1).1 (h.tab.ie9 _ _ h1).2 fun k e=>h.ne _ _ _ e hv
 ne:=fun i k m e e2=>by
  obtain ⟨_,hl⟩:=az1 h.grow e2;rcases hT.new with h3|h3
  ·exact h.ne i k m (by rw[<- h3]; exact e) e2
  ·have:=h3 i k e; omega
 na:=h.na
 lt:=⟨zl h.lt.1 hT.next,zl h.lt.2 hT.next⟩
 dt:=h.dt
theorem gt9 (h:cx4 s av c1 c3 rp dm tp mid fm xv allv clv cv P t cs)(q:List (List Int))(hn:cs.length<2147483648)(h1:s.next<=nid)(h2:nid<s.next+k) :
  ∃ s1,be9 ⟨s.next+k,s.obj⟩ nid 1 cv (.aa4 [[bx5 q]])=z2 (.slice nid 0 (cs.length+1) 1,s1)/\s1.next=s.next+k/\s1.obj rp=z2 (.cells [av,c1,.ptr tp 0,c3,cv]) /\
   cx4 (s1.put rp (.cells [av,c1,.ptr tp 0,c3,.slice nid 0 (cs.length+1) 1])) av c1 c3 rp dm tp mid fm xv allv clv (.slice nid 0 (cs.length+1) 1) P t (cs++[q]):=by
 have hg:Grow (⟨s.next+k,s.obj⟩:Store) cv 1 (cs.map bkE):=h.grow.mono (by show s.next<=s.next+k; omega) fun _ _ _=>rfl
 have hap:=aj8 (nid:=nid) (e:=bkE q) hg (ir9 _) ⟨rfl,rfl⟩ (by rw[zg]; exact hn);rw[zg] at hap
 have hkc:∀ i,(∀ k,cv≠.slice i 0 k 1)->(ae7 cv (⟨s.next+k,s.obj⟩:Store)).obj i=s.obj i:=fun i hi=>by
  rcases hg with ⟨h0,_⟩|⟨j,hj,_,_⟩
  ·rw[h0]; rfl
  ·rw[hj];show (if i=j then qm else s.obj i)=_;rw[if_neg fun e=>hi _ (by rw[hj,e])]
 have hcn:∀ i,(∀ cs,s.obj i≠z2 (.row cs))->∀ k,cv≠.slice i 0 k 1:=fun i hi k e=>by
  obtain ⟨⟨cs,g⟩,_⟩:=az1 h.grow e;exact hi _ g
 have lrp:=h.lt.1;have ldm:=h.lt.2;have ltp:=h.tab.lt.1;have ltm:=h.tab.lt.2;have kr:=hkc rp (hcn rp fun cs e=>by rw[h.cell] at e; cases e);have kd:=hkc dm (hcn dm fun cs e=>by rw[h.map] at e; cases e);have kt:=hkc tp (hcn tp fun cs e=>by rw[h.tab.cell] at e; cases e);have km:=hkc mid (hcn mid fun cs e=>by rw[h.tab.map] at e; cases e);have nrd:¬ dm=rp:=fun e=>by have:=h.map; rw[e,h.cell] at this; cases this
 have nm:(cs++[q]).map bkE=cs.map bkE++[bkE q]:=by rw[List.map_append]; rfl
 have put1:∀ i,i≠rp->i≠nid->((((ae7 cv (⟨s.next+k,s.obj⟩:Store)).put nid (.row (cs.map bkE++[bkE q]).flatten))).put rp (.cells [av,c1,.ptr tp 0,c3,.slice nid 0 (cs.length+1) 1])).obj i=(ae7 cv (⟨s.next+k,s.obj⟩:Store)).obj i:=fun i g1 g2=>by
  rw[aa5,if_neg g1,aa5,if_neg g2]
 have nx:((((ae7 cv (⟨s.next+k,s.obj⟩:Store)).put nid (.row (cs.map bkE++[bkE q]).flatten))).put rp (.cells [av,c1,.ptr tp 0,c3,.slice nid 0 (cs.length+1) 1])).next=s.next+k:=by rw[ab2,ab2,ac2]
 refine ⟨_,hap,by rw[ab2,ac2],by rw[aa5,if_neg om,kr]; exact h.cell,?_⟩
 exact {
  cell:=by rw[aa5,if_pos rfl]
  map:=by rw[put1 _ nrd om,kd]; exact h.map
  tab:={
   cell:=by rw[put1 _ (fun e=>h.dt.1 e.symm) om,kt]; exact h.tab.cell
   all:=h.tab.all.mono (by rw[nx]; omega) fun id hv hid=>by
    obtain ⟨⟨c,g⟩,_⟩:=az1 h.tab.all hv;rw[put1 _ (fun e=>by rw[e,h.cell] at g; cases g) om,hkc id fun k e=>h.na _ _ _ hv e]
   cls:=h.tab.cls.mono (by rw[nx]; omega) fun id hv hid=>by
    obtain ⟨⟨c,g⟩,_⟩:=az1 h.tab.cls hv;rw[put1 _ (fun e=>by rw[e,h.cell] at g; cases g) om,hkc id fun k e=>h.ne _ _ _ hv e]
   map:=by rw[put1 _ (fun e=>h.dt.2.1 e.symm) om,km]; exact h.tab.map
   ne:=h.tab.ne
   lt:=by rw[nx]; exact ⟨om,om⟩ }
  grow:=by
   refine .inr ⟨nid,by rw[zg,zh]; rfl,?_,by rw[nx]; exact h2⟩;rw[aa5,if_neg om,aa5,if_pos rfl,nm]
  ne:=fun i k m e e2=>by
   cases e2;obtain ⟨_,g⟩:=ey5 h.tab e;omega
  na:=fun i k m e e2=>by
   cases e2;obtain ⟨_,g⟩:=az1 h.tab.all e;omega
  lt:=by rw[nx]; exact ⟨om,om⟩
  dt:=h.dt }
def tabV (xv:IV)(P:List aa2)(t:ah6):IV:=.ab9 [xv,.aa4 (P.map aa2.cs),.int .i64 t.h,bx5 t.cl,.ak9 (dj6 t.sets)]
def bb9 (av c1 c3 xv:IV)(P:List aa2)(t:ah6)(cs:List (List (List Int))):IV:=.ab9 [av,c1,tabV xv P t,c3,.aa4 (cs.map bkE)]
theorem aq8.frz (h:aq8 s tp mid xv allv clv P t)(hx:Bnd 0 xv)(hp:∀ y:aa2,∀ c∈y.cs,Bnd 0 c)(hpl:∀ e∈P.map aa2.cs,e.length=15)(hn:(t.sets.map (·.1)).Nodup):cu4 s 0 (.ptr tp 0) (tabV xv P t):=by
 refine .ptr tp 0 _ _ (zt _) (.inl h.cell) (zj _) fun j hj=>?_
 match j,hj with
 | 0,_=>exact .keep _ hx
 | 1,_=>
  exact h.all.frz hpl (fun _ _=>zt _) fun e he c hc=>by
   obtain ⟨y,_,rfl⟩:=ze.1 he
   exact hp y c hc
 | 2,_=>exact .keep _ (.int _ _)
 | 3,_=>
  exact h.cls.frz (fun x hx=>(br6 _ x hx).1) (fun _ _=>zt _) fun e he c hc=>by
   obtain ⟨y,_,rfl⟩:=ze.1 he
   exact eo6 y c hc
 | 4,_=>
  refine .map mid (dj6 t.sets) (dj6 t.sets) (dj6 t.sets) (zt _) h.map rfl (List.Perm.refl _) (ie8 hn) (fun i hi=>?_) fun i hi=>?_
  ·have:(dj6 t.sets).getD i (.undef,.undef)∈dj6 t.sets:=ad2 _ hi;obtain ⟨x,_,hx⟩:=ze.1 this;rw[<- hx]; exact .keep _ (.str _)
  ·have:(dj6 t.sets).getD i (.undef,.undef)∈dj6 t.sets:=ad2 _ hi;obtain ⟨x,_,hx⟩:=ze.1 this;rw[<- hx]; exact .keep _ (.int _ _)
theorem cx4.frz (h:cx4 s av c1 c3 rp dm tp mid fm xv allv clv cv P t cs)(ha:Bnd 0 av)(h1:Bnd 0 c1)(h3:Bnd 0 c3)(hx:Bnd 0 xv)(hp:∀ y:aa2,∀ c∈y.cs,Bnd 0 c)(hpl:∀ e∈P.map aa2.cs,e.length=15)(hn:(t.sets.map (·.1)).Nodup):cu4 s 0 (.ptr rp 0) (bb9 av c1 c3 xv P t cs):=by
 refine .ptr rp 0 _ _ (zt _) (.inl h.cell) (zj _) fun j hj=>?_
 match j,hj with
 | 0,_=>exact .keep _ ha
 | 1,_=>exact .keep _ h1
 | 2,_=>exact h.tab.frz hx hp hpl hn
 | 3,_=>exact .keep _ h3
 | 4,_=>
  exact h.grow.frz (fun x hx=>(ir9 _ x hx).1) (fun _ _=>zt _) fun e he c hc=>by
   obtain ⟨y,_,rfl⟩:=ze.1 he;rw[bkE,zn] at hc;subst hc;exact bm8 y
namespace ab7
theorem gc2 (a:ab7)(x:Itm):∀ (xs:List Itm) (t:ah6),a.ai5 (xs++[x]) t=((a.ai5 xs t).1++[(a.ai3 x (a.ai5 xs t).2).1],(a.ai3 x (a.ai5 xs t).2).2):=by
 intro xs
 induction xs with
 | nil=>intro t; rfl
 | cons y ys ih=>intro t; simp only[z6,ai5,ih]
theorem eo7 (a:ab7):∀ (xs:List Itm) (t:ah6),(a.ai5 xs t).1.length=xs.length:=by
 intro xs
 induction xs with
 | nil=>intro t; rfl
 | cons y ys ih=>intro t; simp only[ai5,zk,ih]
theorem if1 {a:ab7}(hO:a.bo2){x:Itm}(hx:a.Has x){t:ah6}(h:t.few):(a.ai3 x t).2.few:=by
 unfold ai3;split
 ·rename_i e
  cases hx with
  | need p q hp hq=>exact ey1 a.l hO.len _ _ (by have:=(ed5 hO hp hq).2.2; omega) t h
  | _=>simp at e
 ·split
  ·rename_i e
   cases hx with
   | clash p q hp hq=>exact ey1 a.l hO.len _ _ (by have:=(cz4 hO hp hq).2.2; omega) t h
   | _=>simp at e
  ·exact h
theorem eo8 {a:ab7}(hO:a.bo2):∀ (xs:List Itm),(∀ x∈xs,a.Has x)->∀ t:ah6,t.few->(a.ai5 xs t).2.few:=by
 intro xs
 induction xs with
 | nil=>intro _ t h; exact h
 | cons y ys ih=>intro h t ht; exact ih (fun x hx=>h x (zi _ hx)) _ (if1 hO (h y zc) ht)
end ab7
end Go.Id.Md
namespace Go.Id
open Go
def cv2 (c:Nat->Int)(n:Nat):List IV:=(qg n).map fun j=>.int .i64 (c j)
theorem az2 (c:Nat->Int)(n:Nat):(cv2 c n).length=n:=by simp[cv2]
theorem eo9:∀ n:Nat,rep [IV.int .i64 0] n=cv2 (fun _=>0) n:=by
 intro n
 induction n with
 | zero=>rfl
 | succ n ih=>
  have h:∀ m,rep [IV.int .i64 0] m=List.replicate m (.int .i64 0):=by
   intro m
   induction m with
   | zero=>rfl
   | succ m ih=>show [IV.int .i64 0]++rep _ m=_; rw[ih]; rfl
  rw[h];refine List.ext_getElem (by simp[cv2]) fun i h1 h2=>by simp[cv2]
theorem jc3 (c:Nat->Int){n j:Nat}(h:j<n):((cv2 c n).drop j).head? = z2 (.int .i64 (c j)):=by
 simp[cv2,List.head?_drop,h]
theorem fj3 (c:Nat->Int){n i:Nat}(h:i<(cv2 c n).length):(cv2 c n)[i]=.int .i64 (c i):=by simp[cv2]
theorem cz6 (c:Nat->Int){n j:Nat}(h:j<n)(x:Int):bb3 (cv2 c n) j [.int .i64 x]=cv2 (fun i=>if i=j then x else c i) n:=by
 refine List.ext_getElem (by rw[ah4 (by rw[az2]; simp only[zr]; omega),az2,az2]) fun i h1 h2=>?_
 rw[fj3];rw[az2] at h2;unfold bb3;simp only[List.getElem_append,List.length_take,az2,List.getElem_take,List.getElem_drop,zh,zr,fj3];by_cases e:i=j
 ·subst e;have g1:¬ i<min i n:=om
  have g2:i<min i n+1:=om
  simp only[g1,g2,dite_false,dite_true,if_true,List.getElem_singleton]
 ·by_cases e2:i<j
  ·have g1:i<min j n:=om
   have g2:i<min j n+1:=om
   simp only[g1,g2,dite_true,e,if_false]
  ·have g1:¬ i<min j n:=om
   have g2:¬ i<min j n+1:=om
   have g3:j+1+(i-(min j n+1))=i:=om
   simp only[g2,g3,dite_false,e,if_false]
theorem fj4 {pt:PT}{ct:CT}{P:Program}{E:Nat->IV}{e id:Nat}{z:List IV}{x:IX}{fr:Frm}{σ:Store}{K:IV->Store->Prop}:opT pt ct P E (.dd2 e z x) id fr σ K=bt4 (db5 (x.ev E fr)) fun n=>K (.slice id 0 n e) (σ.put id (.row (rep z n))):=rfl
theorem ed8 {K:Nat->Prop}(n:Nat)(h:n<=2147483648):bt4 (db5 (.int .i64 (n:Int))) K=K n:=by
 have h1:(0:Int)<=n/\(n:Int)<=2147483648:=om
 show bt4 (if 0<=(n:Int)/\(n:Int)<=2147483648 then z2 ((n:Int).toNat) else qm) K=K n;rw[if_pos h1]; rfl
theorem fj5 (c:Nat->Int)(n:Nat):cv2 c n=((qg n).map c).map bo7:=by unfold cv2; rw[List.map_map]; rfl
end Go.Id
namespace Go.Id.Md
open Go Go.Id
def ah6.wid (t:ah6):Prop:=∀ q∈t.cl,q.length<=101
theorem bx6 {c:Nat}{l:List Int}{t:ah6}(h:t.wid)(hl:l.length<=100):(ak3 c l t).2.wid:=fun q hq=>by
 rcases qi.1 hq with hq|hq
 ·rcases qi.1 hq with hq|hq
  ·exact h q hq
  ·obtain ⟨x,_,rfl⟩:=ze.1 hq;simp
 ·rw[zn.1 hq,zk]; omega
theorem ep1 {c:Nat}{l:List Int}{t:ah6}(h:t.wid)(hl:l.length<=100):(cf5 c l t).2.wid :=
 bx6 (c:=c) (l:=dj5 l) h (by unfold dj5; rw[zg]; exact hl)
theorem dv4 {c:Nat}{x y w:Int}{t:ah6}(h:t.wid):(br5 c x y w t).2.wid:=fun q hq=>by
 rcases qi.1 hq with hq|hq
 ·exact h q hq
 ·simp only[zq,z0,or_false] at hq;rcases hq with rfl|rfl|rfl|rfl<;>simp
theorem gu1 {c:Nat}{l:List Int}{t:ah6}(h:t.wid)(hl:l.length<=100):(fi3 c l t).2.wid:=by
 unfold fi3;split
 ·exact h
 ·split
  ·exact h
  ·exact bx6 (c:=c) (l:=upL l) h (by unfold upL; rw[zg]; exact hl)
theorem gu2 (l:List aa2)(hc:l.length<=100)(b:Int)(r:aa6):r.count<=100->∀ t:ah6,t.wid->(r.bp2 l b t).2.wid:=by
 induction r using aa6.ind with
 | h k d xs ih=>
  intro hr t ht;simp only[aa6.count] at hr
  have hsub:∀ q:aa2->Bool,(cu9 (numsOf q l) b).length<=100:=fun q=>by
   have h1:=dg3 (numsOf q l) b;have h2:=ae8 q l;omega
  have hA:∀ (xs:List aa6),(∀ a∈xs,∀ t:ah6,t.wid->(a.bp2 l b t).2.wid)->∀ t:ah6,t.wid->(aa6.ak8 l b xs t).2.wid:=by
   intro xs
   induction xs with
   | nil=>intro _ t h; exact h
   | cons a xs ih2=>intro h t ht; exact ih2 (fun x hx=>h x (zi _ hx)) _ (h a zc t ht)
  have n1:=aa6.bw7 xs;have hL:=hA xs (fun a ha=>ih a ha (by have:=aa6.bd1 ha; omega)) t ht;have hn:(aa6.ak8 l b xs t).1.length<=100:=by rw[cz5]; omega
  unfold aa6.bp2;split
  ·exact gu1 ht (hsub _)
  ·split
   ·exact gu1 ht (hsub _)
   ·unfold gb5;split
    ·exact ep1 hL hn
    ·split
     ·exact bx6 hL hn
     ·split
      ·split
       ·exact dv4 hL
       ·exact bx6 hL (by simp)
      ·split
       ·exact dv4 hL
       ·exact ep1 hL (by simp)
namespace ab7
variable {a:ab7}
theorem ca9 (i:Int):(a.ao9 i).length<=a.l.length:=by
 unfold ao9;split
 ·exact aw6 _ _
 ·exact Nat.zero_le _
theorem ey6 (j:Int):(a.meant j).length<=a.l.length:=by
 unfold meant;split
 ·split
  ·exact ae8 _ _
  ·split
   ·exact ae8 _ _
   ·exact zd (zy _ _) (ae8 _ _)
 ·exact Nat.zero_le _
def Wid (l:List (List Int)):Prop:=l.length<=100/\∀ q∈l,q.length<=101
theorem cr8 {q:List Int}(h:q.length<=101):Wid [q]:=⟨by simp,fun r hr=>by rw[zn.1 hr]; exact h⟩
theorem ed9 {l:List Int}{f:Int->List Int}(hl:l.length<=100)(h:∀ n,(f n).length<=101):Wid (l.map f):=⟨by rw[zg]; exact hl,fun q hq=>by obtain ⟨n,_,rfl⟩:=ze.1 hq; exact h n⟩
theorem gu3 (hl:a.l.length<=100)(x:Itm):Wid (a.ca8 x):=by
 have up:∀ l:List Int,l.length<=a.l.length->(upL l).length<=101:=fun l h=>by unfold upL; rw[zg]; omega
 unfold ca8;split
 ·exact cr8 (by simp[noL])
 split
 ·exact ed9 (zd (dg3 _ _) (zd (ae8 _ _) hl)) fun n=>by simp[noL]
 split
 ·exact cr8 (by simp[noL])
 split
 ·exact cr8 (up _ (ca9 _))
 unfold dg2;have hm:=ey6 (a:=a) x.p;split
 ·exact cr8 (up _ hm)
 split
 ·exact ed9 om fun n=>up _ (ca9 n)
 split
 ·exact ed9 (zd (zy _ _) om) fun n=>up _ (zd (zy _ _) (ca9 n))
 ·exact ed9 om fun n=>by simp[noL]
variable (hO:bo2 a)
include hO
theorem if2 {x:Itm}(hx:a.Has x){t:ah6}(h:t.wid):Wid (a.ai3 x t).1/\(a.ai3 x t).2.wid:=by
 unfold ai3;split
 ·rename_i e;refine ⟨cr8 (by simp[noL]),?_⟩
  cases hx with
  | need p q hp hq=>exact gu2 a.l hO.len _ _ (by have:=(ed5 hO hp hq).2.2; omega) t h
  | _=>simp at e
 ·split
  ·rename_i e;refine ⟨cr8 (by simp[noL]),?_⟩
   cases hx with
   | clash p q hp hq=>exact gu2 a.l hO.len _ _ (by have:=(cz4 hO hp hq).2.2; omega) t h
   | _=>simp at e
  ·exact ⟨gu3 hO.len x,h⟩
theorem gu4:∀ (xs:List Itm),(∀ x∈xs,a.Has x)->∀ t:ah6,t.wid->(∀ q∈(a.ai5 xs t).1,Wid q)/\(a.ai5 xs t).2.wid:=by
 intro xs
 induction xs with
 | nil=>intro _ t h; exact ⟨fun q hq=>(by cases hq),h⟩
 | cons y ys ih=>
  intro h t ht;have g:=if2 hO (h y zc) ht;have f:=ih (fun x hx=>h x (zi _ hx)) _ g.2;refine ⟨fun q hq=>?_,f.2⟩;rcases zq.1 hq with rfl|hq
  ·exact g.1
  ·exact f.1 q hq
end ab7
end Go.Id.Md
namespace Go.Id.Md
open Go Go.Id
theorem cz7 {p:UInt8->Bool}(l:Str):(l.dropWhile p).length<=l.length:=by
 induction l with
 | nil=>exact zj _
 | cons a l ih=>
  rw[qa];split
  ·exact zd ih (Nat.le_succ _)
  ·exact zj _
theorem ey8:∀ (n m:Nat) (l:Str),l.length<=n->l.length<=m->av4 n l=av4 m l:=by
 intro n
 induction n with
 | zero=>
  intro m l h1 _;have:l=[]:=List.length_eq_zero_iff.1 (Nat.le_zero.1 h1);subst this
  cases m<;>rfl
 | succ n ih=>
  intro m l h1 h2
  cases l with
  | nil=>cases m<;>rfl
  | cons b l=>
   cases m with
   | zero=>simp at h2
   | succ m=>
    simp only[zk] at h1 h2
    have hd:af5 b=af5 b->((b::l).dropWhile fun c=>af5 c==af5 b).length<=l.length:=fun _=>by
     rw[qa,if_pos (by simp)];exact cz7 l
    have hd:=hd rfl;simp only[av4];rw[ih m l om om,ih m _ (zd hd om) (zd hd om)]
def gu5 (b:UInt8)(l:Str):Nat:=(l.takeWhile fun c=>af5 c==af5 b).length
theorem if4 {b:UInt8}{l:Str}(h:af5 b=0):af9 (b::l)=af9 l:=by
 unfold af9;simp only[zk,av4,h,if_true]
theorem if5 {b:UInt8}{l:Str}(h:af5 b≠0)(h4:af5 b<4):af9 (b::l)=⟨af5 b,[]⟩::af9 l:=by
 unfold af9;simp only[zk,av4,h,h4,if_true,if_false]
theorem ee1 (p:UInt8->Bool)(l:Str):l.takeWhile p=l.take (l.takeWhile p).length/\l.dropWhile p=l.drop (l.takeWhile p).length:=by
 induction l with
 | nil=>exact ⟨rfl,rfl⟩
 | cons a l ih=>
  rw[z9,qa]
  cases h:p a with
  | true=>
   simp only[if_true,zk,qf,List.drop_succ_cons]
   exact ⟨by rw[<- ih.1],ih.2⟩
  | false=>simp
theorem if6 {b:UInt8}{l:Str}(h4:¬ af5 b<4):af9 (b::l)=⟨af5 b,if af5 b=5 then ((b::l).take (gu5 b l+1)).dropWhile (· == 48) else (b::l).take (gu5 b l+1)⟩::af9 (l.drop (gu5 b l)):=by
 have h0:af5 b≠0:=om
 unfold af9;simp only[zk,av4,h0,h4,if_false]
 have e1:(b::l).takeWhile (fun c=>af5 c==af5 b)=(b::l).take (gu5 b l+1):=by
  rw[z9,if_pos (by simp),qf,(ee1 (fun c=>af5 c==af5 b) l).1];unfold gu5; rw[<- (ee1 (fun c=>af5 c==af5 b) l).1]
 have e2:(b::l).dropWhile (fun c=>af5 c==af5 b)=l.drop (gu5 b l):=by
  rw[qa,if_pos (by simp)];exact (ee1 (fun c=>af5 c==af5 b) l).2
 rw[e1,e2,ey8 l.length (l.drop (gu5 b l)).length _ (by rw[List.length_drop]; omega) (zj _)]
theorem kf8 {p:UInt8->Bool}:∀ (l:Str) (m:Nat),m<(l.takeWhile p).length->∃ c,l[m]? = z2 c/\p c=true:=by
 intro l
 induction l with
 | nil=>intro m h; simp at h
 | cons a l ih=>
  intro m h;rw[z9] at h
  cases hp:p a with
  | false=>rw[hp] at h; simp at h
  | true=>
   rw[hp] at h
   cases m with
   | zero=>exact ⟨a,rfl,hp⟩
   | succ m=>exact ih m (by simpa using h)
theorem kf9 {p:UInt8->Bool}:∀ (l:Str) (c:UInt8),l[(l.takeWhile p).length]? = z2 c->p c=false:=by
 intro l
 induction l with
 | nil=>intro c h; simp at h
 | cons a l ih=>
  intro c h;rw[z9] at h
  cases hp:p a with
  | false=>rw[hp] at h; simp at h; rw[<- h]; exact hp
  | true=>rw[hp] at h; exact ih c (by simpa using h)
theorem js2 {b:UInt8}{l:Str}{m:Nat}(h:m<gu5 b l):∃ c,l[m]? = z2 c/\af5 c=af5 b:=by
 obtain ⟨c,h1,h2⟩:=kf8 l m h;exact ⟨c,h1,by simpa using h2⟩
theorem js3 {b:UInt8}{l:Str}{c:UInt8}(h:l[gu5 b l]? = z2 c):af5 c≠af5 b:=by
 have:=kf9 l c h
 simpa using this
theorem js4 (b:UInt8)(l:Str):gu5 b l<=l.length:=(List.takeWhile_sublist _).length_le
end Go.Id.Md
