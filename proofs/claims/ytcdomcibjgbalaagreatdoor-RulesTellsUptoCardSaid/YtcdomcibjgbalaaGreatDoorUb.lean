/- Versions compared by the reference. Conditions: sizes that fit. -/
import Derived.Test.YtcdomcibjgbalaaGreatDoorTHNA
import Derived.Test.YtcdomcibjgbalaaGreatDoorTHQO
import Derived.Test.YtcdomcibjgbalaaGreatDoorTHYJ
import Derived.Test.YtcdomcibjgbalaaGreatDoorMsb
import Derived.Test.YtcdomcibjgbalaaGreatDoorTHYY
import Derived.Test.YtcdomcibjgbalaaGreatDoorMv
import Derived.Test.YtcdomcibjgbalaaGreatDoorTHQB
import Derived.Test.YtcdomcibjgbalaaGreatDoorGHR
open List renaming getD_eq_getElem?_getD→za,append_nil→zb,append_assoc→zc,length_append→zd,length_take→zh,length_map→zj,map_append→zk,map_cons→zn,getElem_mem→zo,getElem?_eq_none→zq,mem_map→zs,length_cons→zt,cons_append→zu,getElem?_eq_getElem→zv,take_of_length_le→zx,take_length→zy,nil_append→z2,length_nil→z3,getElem?_eq_some_iff→z4,mem_cons→z5,map_nil→z8,flatMap_append→qa,take_add_one→qd,flatMap_cons→qe,flatMap_nil→qf,drop_length→qg,mem_append→qi,length_singleton→qp,length_filter_le→qq,mem_of_mem_take→qs,mem_singleton→qu,filter_append→qv
open Nat renaming le_refl→ze,le_add_right→zi,not_lt_zero→zl,le_trans→zp,zero_le→zr,lt_succ_self→z1,reduceAdd→z7,testBit_and→z9,lt_of_le_of_lt→qc,le_of_not_lt→qh,min_eq_left→qk,zero_add→qn,le_of_lt→qo,mul_one→qt
open Int renaming toNat_natCast→zf,reduceEq→zm,natCast_nonneg→zw,reduceNeg→qm
open Option renaming some→zg
open Bool renaming and_eq_true→zz,false_or→z6,false_eq_true→qb,eq_iff_iff→qj,true_and→ql,and_eq_false_iff→qr,not_eq_true'→qw
set_option linter.all false
set_option maxRecDepth 100000
set_option maxHeartbeats 1000000
private theorem om{P:Prop}(h:P:=by omega):P:=h
namespace Go.Id.Tryz
open Go Go.Id Go.Proofs Go.Id.Md
def eo3 (a b:Part):Bool:=decide (af1 a b=-1)
theorem ez9 {a b:Int}:ar1 a b=-1↔a<b:=by
 unfold ar1;by_cases h:a<b
 ·simp[h]
 ·rw[if_neg h];split<;>simp[h]
theorem je9 {a b:Str}:cr3 a b=-1↔Op.bytesLess a b=true:=by
 unfold cr3
 cases h:Op.bytesLess a b with
 | true=>simp
 | false=>
  simp only[qb,if_false];split<;>simp
theorem ii8 (a b:Part):eo3 a b=if a.kind≠b.kind then decide (a.kind<b.kind) else if a.kind=5/\a.s.length≠b.s.length then decide (a.s.length<b.s.length) else Op.bytesLess a.s b.s:=by
 unfold eo3;have hp:af1 a b=if ar1 a.kind b.kind≠0 then ar1 a.kind b.kind else if (if a.kind=5/\b.kind=5 then ar1 a.s.length b.s.length else 0)≠0 then (if a.kind=5/\b.kind=5 then ar1 a.s.length b.s.length else 0) else cr3 a.s b.s:=rfl
 rw[hp];have key:∀(x:Int) (p:Prop) [Decidable p] ,(x=-1↔p)->decide (x=-1)=decide p:=λx p _ h=>decide_eq_decide.2 h
 have hS:decide (cr3 a.s b.s=-1)=Op.bytesLess a.s b.s:=by
  rw[key _ _ je9];simp
 by_cases hk:a.kind=b.kind
 ·have e0:ar1 a.kind b.kind=0:=bd2.2 om;have q0:¬(a.kind≠b.kind):=λh=>h hk
  have q1:¬(ar1 (a.kind:Int) (b.kind:Int)≠0):=λh=>h e0
  rw[if_neg q1,if_neg q0];by_cases h5:a.kind=5
  ·have q2:a.kind=5/\b.kind=5:=⟨h5,om⟩;simp only[if_pos q2];by_cases hl:a.s.length=b.s.length
   ·have e1:ar1 a.s.length b.s.length=0:=bd2.2 om;have q3:¬(ar1 (a.s.length:Int) (b.s.length:Int)≠0):=λh=>h e1
    have q4:¬(a.kind=5/\a.s.length≠b.s.length):=λh=>h.2 hl
    rw[if_neg q3,if_neg q4,hS]
   ·have e1:ar1 (a.s.length:Int) (b.s.length:Int)≠0:=λh=>hl (by have:=bd2.1 h;omega)
    have q4:a.kind=5/\a.s.length≠b.s.length:=⟨h5,hl⟩;rw[if_pos e1,if_pos q4,key _ _ ez9];exact decide_eq_decide.2 om
  ·have q2:¬(a.kind=5/\b.kind=5):=λh=>h5 h.1
   have q3:¬((0:Int)≠0):=λh=>h rfl
   have q4:¬(a.kind=5/\a.s.length≠b.s.length):=λh=>h5 h.1
   simp only[if_neg q2];rw[if_neg q3,if_neg q4,hS]
 ·have e0:ar1 (a.kind:Int) (b.kind:Int)≠0:=λh=>hk (by have:=bd2.1 h;omega)
  have q0:a.kind≠b.kind:=hk;rw[if_pos e0,if_pos q0,key _ _ ez9];exact decide_eq_decide.2 om
theorem ii9 (p:Part):(Part.cs p).length=2:=rfl
theorem br4 (p:Part):(Part.cs p).all IV.leaf=true:=rfl
theorem gy2 (p:Part):(Part.cs p).take 2=Part.cs p:=rfl
theorem fl6 (p:Part):(Part.cs p).head? = zg (.int .u8 p.kind):=rfl
theorem gy3 (p:Part):((Part.cs p).drop 1).head? = zg (.str p.s):=rfl
theorem cg5 (p:Part):Bnd 0 (.agg (Part.cs p)):=.agg _ (fl5 p)
theorem eo4 (a b:Part)(ha:a.s.length<2^62)(hb:b.s.length<2^62):Pq 158 [.agg (Part.cs a),.agg (Part.cs b)] (.bool (eo3 a b)):=by
 refine af4 hE fok158 (nZ rfl) (ah6 (cg5 a) (cg5 b)) ?_;rw[ii8];by_cases hk:a.kind=b.kind
 case neg=>
  have e:¬(a.kind:Int)=b.kind:=om;have e2:decide (a.kind<b.kind)=decide ((a.kind:Int)<b.kind):=by simp
  rw[if_pos hk,e2];simp only[ic158,go_sem,br4,fl6,e];exact ab6 rfl
 have e:(a.kind:Int)=b.kind:=om;rw[if_neg (by simpa using hk)];by_cases h5:a.kind=5
 ·have e5:(b.kind:Int)=5:=om;by_cases hl:a.s.length=b.s.length
  ·rw[if_neg (λh=>h.2 hl)];have el:(a.s.length:Int)=b.s.length:=om;simp only[ic158,go_sem,br4,fl6,gy3,e,e5,el];exact ab6 rfl
  ·rw[if_pos ⟨h5,hl⟩];have el:¬(a.s.length:Int)=b.s.length:=om;have e2:decide (a.s.length<b.s.length)=decide ((a.s.length:Int)<b.s.length):=by simp
   rw[e2];simp only[ic158,go_sem,br4,fl6,gy3,e,e5,el];exact ab6 rfl
 ·have e5:¬(b.kind:Int)=5:=om;rw[if_neg (λh=>h5 h.1)];simp only[ic158,go_sem,br4,fl6,gy3,e,e5];exact ab6 rfl
def atP (l:List Part)(i:Nat):Part:=l.getD i di3
theorem iu4 (l:List Part)(i:Nat):Pq 159 [.aa3 (l.map Part.cs),.int .i64 i] (.agg (Part.cs (atP l i))):=by
 refine af4 hE fok159 (nZ rfl) (ah6 (eo1 l) (.int _ _)) ?_;unfold atP;by_cases h:i<l.length
 ·have c1:¬(l.length:Int)<=i:=om;have c2:(i:Int)<l.length:=om;have c3:(0:Int)<=(i:Int):=om;have g:=hg6 l i h;have e:l.getD i di3=l[i]:=by simp[za,h]
  rw[e];simp only[ic159,go_sem,c1,c2,c3,g,ii9,br4,gy2];exact .keep _ (cg5 _)
 ·have c1:(l.length:Int)<=i:=om;have e:l.getD i di3=di3:=by simp[za,zq (qh h)]
  rw[e];simp only[ic159,go_sem,c1];exact .keep _ (cg5 di3)
theorem ju9 (s:Str)(i:Nat)(h:i<=(ab5 s).length):(vL s)[i]? = zg (atP (ab5 s) i):=by
 unfold atP;by_cases hl:i<(ab5 s).length
 ·rw[List.getElem?_append_left hl,zv hl];simp[za,hl]
 ·have:i=(ab5 s).length:=om;subst this;rw[List.getElem?_append_right (ze _),Nat.sub_self];simp[za]
theorem df6 (a b:Str)(ha:a.length<2^30)(hb:b.length<2^30):Pq 110 [.str a,.str b] (.int .i64 (ap9 a b)):=by
 refine af4 hE fok110 (nZ rfl) (ah6 (.str _) (.str _)) ?_;have la:=bk5 a;have lb:=bk5 b;have pa:=eo2 a ha;have pb:=eo2 b hb;have na:=bq3 a;have nb:=bq3 b;simp only[ic110,go_sem];refine aa4 fok157 (pa) ?_;simp only[go_sem];refine aa4 fok157 (pb) ?_;simp only[go_sem];refine ab1 noT (λi fr s=>fr=[(5,.aa3 ((ab5 a).map Part.cs)),(6,.aa3 ((ab5 b).map Part.cs)),(7,.int .i64 (i:Int))]/\i<=(ab5 a).length/\i<=(ab5 b).length/\ap9 a b=ag2 ((vL a).drop i) ((vL b).drop i)) (2^30) ⟨rfl,zr _,zr _,rfl⟩ ?_;rintro i fr s hi ⟨rfl,ia,ib,hv⟩;have w1:=ac3 (i:=i) om;have xa:=ju9 a i ia;have xb:=ju9 b i ib;obtain ⟨hia,hxa⟩:=z4.1 xa;obtain ⟨hib,hxb⟩:=z4.1 xb;rw[ch5 hia hib,hxa,hxb] at hv;by_cases hmore:i<(ab5 a).length\/i<(ab5 b).length
 ·have ga:=iu4 (ab5 a) i;have gb:=iu4 (ab5 b) i;have sa:(atP (ab5 a) i).s.length<=a.length:=ka8 a _ (hxa▸zo hia);have sb:(atP (ab5 b) i).s.length<=b.length:=ka8 b _ (hxb▸zo hib);have b1:=eo4 (atP (ab5 a) i) (atP (ab5 b) i) om om;have b2:=eo4 (atP (ab5 b) i) (atP (ab5 a) i) om om;have h3:=ep7 (atP (ab5 a) i) (atP (ab5 b) i);have hneg:=de2 (atP (ab5 a) i) (atP (ab5 b) i)
  have hnext:af1 (atP (ab5 a) i) (atP (ab5 b) i)=0->i+1<=(ab5 a).length/\i+1<=(ab5 b).length:=λh0=>by
   have hk:=cf1 h0;rcases hmore with h|h
   ·refine ⟨h,?_⟩;by_cases h':i<(ab5 b).length
    ·exact h'
    ·have e1:atP (ab5 b) i=di3:=by unfold atP;simp[za,zq (qh h')]
     have e2:atP (ab5 a) i=(ab5 a)[i]:=by unfold atP;simp[za,h]
     rw[e1,e2] at hk;exact absurd hk (na _ (zo h))
   ·refine ⟨?_,h⟩;by_cases h':i<(ab5 a).length
    ·exact h'
    ·have e1:atP (ab5 a) i=di3:=by unfold atP;simp[za,zq (qh h')]
     have e2:atP (ab5 b) i=(ab5 b)[i]:=by unfold atP;simp[za,h]
     rw[e1,e2] at hk;exact absurd hk.symm (nb _ (zo h))
  have v1:eo3 (atP (ab5 a) i) (atP (ab5 b) i)=decide (af1 (atP (ab5 a) i) (atP (ab5 b) i)=-1):=rfl;have v2:eo3 (atP (ab5 b) i) (atP (ab5 a) i)=decide (af1 (atP (ab5 b) i) (atP (ab5 a) i)=-1):=rfl;rw[v1] at b1;rw[v2] at b2;generalize atP (ab5 a) i=x at *;generalize atP (ab5 b) i=y at *;generalize af1 y x=c2 at *;generalize af1 x y=c at *;by_cases hA:i<(ab5 a).length
  case' pos=>
   have d1:(i:Int)<(ab5 a).length:=om;simp only[go_sem,d1]
  case' neg=>
   have d1:¬(i:Int)<(ab5 a).length:=om;have d2:(i:Int)<(ab5 b).length:=om;simp only[go_sem,d1,d2]
  all_goals
   refine aa4 fok159 (ga) ?_;simp only[go_sem];refine aa4 fok159 (gb) ?_;simp only[go_sem];refine aa4 fok158 (b1) ?_;rcases h3 with h|h|h
   ·subst h;rw[if_pos (by decide)] at hv;simp only[go_sem,decide_true];rw[hv];exact ad5 _ _
   ·subst h;have hc2:c2=0:=om;subst hc2;rw[if_neg (by decide)] at hv;obtain ⟨n1,n2⟩:=hnext rfl;simp only[go_sem,zm,qm,decide_false];refine aa4 fok159 (gb) ?_;simp only[go_sem];refine aa4 fok159 (ga) ?_;simp only[go_sem];refine aa4 fok158 (b2) ?_;simp only[go_sem,zm,qm,decide_false,w1];exact ⟨om,n1,n2,hv⟩
   ·subst h;subst hneg;rw[if_pos (by decide)] at hv;simp only[go_sem,zm,qm,decide_false];refine aa4 fok159 (gb) ?_;simp only[go_sem];refine aa4 fok159 (ga) ?_;simp only[go_sem];refine aa4 fok158 (b2) ?_;simp only[go_sem,decide_true];rw[hv];exact ad5 _ _
 ·have ea:i=(ab5 a).length:=om;have eb:i=(ab5 b).length:=om;have d1:¬(i:Int)<(ab5 a).length:=om;have d2:¬(i:Int)<(ab5 b).length:=om;have e1:atP (ab5 a) i=di3:=by unfold atP;simp[za,zq (show (ab5 a).length<=i by omega)]
  have e2:atP (ab5 b) i=di3:=by unfold atP;simp[za,zq (show (ab5 b).length<=i by omega)]
  have h0:af1 di3 di3=0:=by decide
  have hend:ag2 ((vL a).drop (i+1)) ((vL b).drop (i+1))=0:=cv8 (.inl (by simp only[zd,qp];omega));rw[e1,e2,h0,if_neg (by decide),hend] at hv;simp only[go_sem,d1,d2];rw[hv];exact ad5 _ _
theorem ed5 (e:EVR):e.cs.all IV.leaf=true:=rfl
theorem jf1 (e:EVR):e.cs.head? = zg (.int .i64 e.am4):=rfl
theorem ki4 (e:EVR):(e.cs.drop 1).head? = zg (.str e.ver):=rfl
theorem jf2 (e:EVR):(e.cs.drop 2).head? = zg (.str e.rel):=rfl
theorem ca3 (a b:EVR)(ha:EVR.small a)(hb:EVR.small b):Pq 71 [.agg a.cs,.agg b.cs] (.int .i64 (aq4 a b)):=by
 refine af4 hE fok71 (nZ rfl) (ah6 (bx2 a) (bx2 b)) ?_;have h1:=df6 a.ver b.ver ha.1 hb.1;have h2:=df6 a.rel b.rel ha.2 hb.2;unfold aq4;by_cases e1:a.am4<b.am4
 ·have c0:ar1 a.am4 b.am4=-1:=ez9.2 e1;rw[c0,if_pos (by decide)];simp only[ic71,go_sem,ed5,jf1,e1];exact ad5 _ _
 by_cases e2:b.am4<a.am4
 ·have c0:ar1 a.am4 b.am4=1:=by
   unfold ar1;rw[if_neg e1,if_neg om]
  rw[c0,if_pos (by decide)];simp only[ic71,go_sem,ed5,jf1,e1,e2];exact ad5 _ _
 have c0:ar1 a.am4 b.am4=0:=bd2.2 om;have nn:∀ {α:Type} (x y:α),(if (0:Int)≠0 then x else y)=y:=λ_ _=>if_neg (by decide)
 rw[c0,nn];simp only[ic71,go_sem,ed5,jf1,ki4,e1,e2];refine aa4 fok110 (h1) ?_;generalize ap9 a.ver b.ver=n at *;by_cases hn:n=0
 ·subst hn;rw[nn];by_cases r1:a.rel=[]
  ·rw[if_pos (.inl r1)];simp only[go_sem,jf2,r1];exact ad5 _ _
  by_cases r2:b.rel=[]
  ·rw[if_pos (.inr r2)];simp only[go_sem,jf2,r1,r2];exact ad5 _ _
  rw[if_neg (by simp[r1,r2])];simp only[go_sem,jf2,r1,r2];refine aa4 fok110 (h2) ?_;simp only[go_sem];exact ad5 _ _
 ·have hn':n≠0:=hn;rw[if_pos hn'];simp only[go_sem,hn];exact ad5 _ _
theorem fl7 (a b:Dep)(ha:Dep.small a)(hb:Dep.small b):Pq 75 [.agg a.cs,.agg b.cs] (.bool (meet a b)):=by
 refine af4 hE fok75 (nZ rfl) (ak3 (am1 a) (am1 b)) ?_;obtain ⟨a1,a2,a3⟩:=ha;obtain ⟨b1,b2,b3⟩:=hb;have hc:=ca3 a.evr b.evr a3 b3;have h3:=fn9 a.evr b.evr;unfold meet;generalize aq4 a.evr b.evr=n at hc h3;simp only[EVR.cs] at hc;obtain ⟨x,hx⟩:∃x:Nat,a.op=x:=⟨a.op.toNat,om⟩;obtain ⟨y,hy⟩:∃y:Nat,b.op=y:=⟨b.op.toNat,om⟩;have hx2:x<256:=om;have hy2:y<256:=om;rw[hx,hy,zf,zf];have tm:∀k:Nat,(k:Int).tmod 8=((k%8:Nat):Int):=λk=>rfl
 have z0:∀k:Nat,((k:Int)=0)↔k=0:=λk=>by omega
 have bt:∀(k i:Nat),bit (k:Int) i=k.testBit i:=λk i=>by unfold bit;rw[zf]
 by_cases hx0:x%8=0
 ·have q:(x:Int).tmod 8=0:=by rw[tm,z0];exact hx0
  rw[if_pos (.inl hx0)];simp only[ic75,go_sem,Dep.cs,hx,hy,q,zm,true_and,not_false_eq_true];exact ab4 _
 have q:¬(x:Int).tmod 8=0:=by rw[tm,z0];exact hx0
 by_cases hy0:y%8=0
 ·have q2:(y:Int).tmod 8=0:=by rw[tm,z0];exact hy0
  rw[if_pos (.inr hy0)];simp only[ic75,go_sem,Dep.cs,hx,hy,q,q2,zm,true_and,not_false_eq_true];exact ab4 _
 have q2:¬(y:Int).tmod 8=0:=by rw[tm,z0];exact hy0
 rw[if_neg (λh=>h.elim hx0 hy0)];simp only[ic75,go_sem,Dep.cs,hx,hy,q,q2,zm,true_and,not_false_eq_true];refine aa4 fok71 (hc) ?_;have exy:bo3 x y=((x &&& y:Nat):Int):=aq5 x y hx2 hy2;have hxy:x &&& y<256:=qc Nat.and_le_left hx2;have exy7:bo3 ((x &&& y:Nat):Int) 7=((x &&& y &&& 7:Nat):Int):=aq5 _ 7 hxy om;have x1:bo3 x 1=((x &&& 1:Nat):Int):=aq5 x 1 hx2 om;have x4:bo3 x 4=((x &&& 4:Nat):Int):=aq5 x 4 hx2 om;have y1:bo3 y 1=((y &&& 1:Nat):Int):=aq5 y 1 hy2 om;have y4:bo3 y 4=((y &&& 4:Nat):Int):=aq5 y 4 hy2 om;rcases h3 with rfl|rfl|rfl
 ·have g1:side (- -1)=2:=by decide
  have g2:side (-1)=0:=by decide
  have m0:¬((-1:Int)=0):=by decide
  have m1:((-1:Int)<0):=by decide
  simp only[go_sem,m0,m1,g1,g2,bt,if_false]
  cases hb:x.testBit 2 with
  | true=>
   have e:¬bo3 x 4=0:=by rw[x4,z0,iv2 x hx2,hb];simp
   simp only[go_sem,at1,e]
   exact ab4 _
  | false=>
   have e:bo3 x 4=0:=by rw[x4,z0,iv2 x hx2,hb]
   simp only[go_sem,at1,e]
   cases hc:y.testBit 0 with
   | true=>
    have e2:¬bo3 y 1=0:=by rw[y1,z0,and1 y hy2,hc];simp
    simp only[go_sem,at1,e2]
    exact ab4 _
   | false=>
    have e2:bo3 y 1=0:=by rw[y1,z0,and1 y hy2,hc]
    simp only[go_sem,at1,e2];exact ab4 _
 ·have m1:¬((0:Int)<0):=by decide
  simp only[go_sem,at1,exy,exy7,bt,m1]
  have e:(!decide (((x &&& y &&& 7:Nat):Int)=0))=(x.testBit 0&&y.testBit 0||x.testBit 1&&y.testBit 1||x.testBit 2&&y.testBit 2):=by
   by_cases hz:x &&& y &&& 7=0
   ·obtain ⟨t0,t1,t2⟩:=(ef2 _ hxy).1 hz;rw[z9] at t0 t1 t2;rw[hz,t0,t1,t2];rfl
   ·have hz':¬((x &&& y &&& 7:Nat):Int)=0:=λh=>hz om
    have ht:¬((x &&& y).testBit 0=false/\(x &&& y).testBit 1=false/\(x &&& y).testBit 2=false):=λh=>hz ((ef2 _ hxy).2 h)
    rw[z9,z9,z9] at ht;rw[decide_eq_false hz']
    revert ht
    generalize (x.testBit 0&&y.testBit 0)=b0;generalize (x.testBit 1&&y.testBit 1)=b1;generalize (x.testBit 2&&y.testBit 2)=b2;cases b0<;>cases b1<;>cases b2<;>simp
  exact ab6 e
 ·have g1:side (-1)=0:=by decide
  have g2:side 1=2:=by decide
  have m0:¬((1:Int)=0):=by decide
  have m1:¬((1:Int)<0):=by decide
  have m2:(0:Int)<1:=by decide
  simp only[go_sem,m0,m1,m2,g1,g2,bt,if_false]
  cases hb:x.testBit 0 with
  | true=>
   have e:¬bo3 x 1=0:=by rw[x1,z0,and1 x hx2,hb];simp
   simp only[go_sem,at1,e]
   exact ab4 _
  | false=>
   have e:bo3 x 1=0:=by rw[x1,z0,and1 x hx2,hb]
   simp only[go_sem,at1,e]
   cases hc:y.testBit 2 with
   | true=>
    have e2:¬bo3 y 4=0:=by rw[y4,z0,iv2 y hy2,hc];simp
    simp only[go_sem,at1,e2]
    exact ab4 _
   | false=>
    have e2:bo3 y 4=0:=by rw[y4,z0,iv2 y hy2,hc]
    simp only[go_sem,at1,e2];exact ab4 _
theorem fl8 (a:Int):bg8 a=(decide (a=2)||decide (a=3)||decide (a=4)):=by
 unfold bg8 ak6;rw[qj];simp only[zz,Bool.or_eq_true,decide_eq_true_eq,qw,decide_eq_false_iff_not];omega
theorem gy4 (m a:Int):Pq 109 [.int .u8 m,.int .u8 a] (.int .i64 (az5 m a)):=by
 refine af4 hE fok109 (nZ rfl) (ah6 (.int _ _) (.int _ _)) ?_;have hm:=da1 m;by_cases g:m=2\/m=3\/m=4
 ·have hmm:bg8 m=true:=by rw[fl8];rcases g with rfl|rfl|rfl<;>rfl
  rw[hmm] at hm;by_cases e1:a=m
  ·subst e1;simp only[ic109,go_sem];refine aa4 fok58 (hm) ?_;simp only[go_sem];exact bn2 (by unfold az5;rcases g with rfl|rfl|rfl<;>rfl)
  by_cases e2:a=1
  ·subst e2;simp only[ic109,go_sem];refine aa4 fok58 (hm) ?_;simp only[go_sem,e1];exact bn2 (by unfold az5;rcases g with rfl|rfl|rfl<;>rfl)
  simp only[ic109,go_sem];refine aa4 fok58 (hm) ?_;by_cases e3:m=2
  ·subst e3;by_cases e4:a=3
   ·subst e4;simp only[go_sem,zm];exact bn2 rfl
   ·simp only[go_sem,e1,e2,e4];exact bn2 (by unfold az5;simp[e1,e2,e4])
  ·simp only[go_sem,e1,e2,e3];refine bn2 ?_;unfold az5;rw[if_neg e3];rcases g with rfl|rfl|rfl
   ·exact absurd rfl e3
   ·simp[e1,e2]
   ·simp[e1,e2]
 ·have hmm:bg8 m=false:=by
   rw[fl8];simp only[not_or] at g;simp[g.1,g.2.1,g.2.2]
  rw[hmm] at hm;simp only[ic109,go_sem];refine aa4 fok58 (hm) ?_;simp only[go_sem];simp only[not_or] at g;exact bn2 (by unfold az5;simp[g.1,g.2.1,g.2.2])
theorem ij1 (m a:Int):0<=az5 m a:=by
 unfold az5
 repeat' split
 all_goals decide
theorem ij2 (m a:Int):Pq 69 [.int .u8 m,.int .u8 a] (.bool (if3 m a)):=by
 refine af4 hE fok69 (nZ rfl) (ah6 (.int _ _) (.int _ _)) ?_;have h:=gy4 m a;have hn:=ij1 m a;simp only[ic69,go_sem];refine aa4 fok109 (h) ?_;simp only[go_sem];refine ab6 ?_;unfold if3;by_cases h0:az5 m a=0
 ·simp[h0]
 ·have:0<az5 m a:=om;simp[h0,this]
theorem gy5 (a b:Int):Pq 70 [.int .u8 a,.int .u8 b] (.bool (ce9 a b)):=by
 refine af4 hE fok70 (nZ rfl) (ah6 (.int _ _) (.int _ _)) ?_;have ha:=da1 a;have hb:=da1 b;unfold ce9;by_cases e:a=b
 ·simp only[ic70,go_sem,e];exact ab6 (by simp)
 ·simp only[ic70,go_sem,e];refine aa4 fok58 (ha) ?_
  cases bg8 a with
  | false=>simp only[go_sem];exact ab6 (by simp)
  | true=>
   simp only[go_sem];refine aa4 fok58 (hb) ?_;simp only[go_sem];exact ab6 (by simp[e])
theorem cv5 (a:Int):(as8 a=[])↔ak6 a=false:=by
 unfold as8 ak6;by_cases g:a=1\/a=2\/a=3\/a=4
 ·rcases g with rfl|rfl|rfl|rfl<;>simp
 ·simp only[not_or] at g;have:¬(1<=a/\a<=4):=om;simp only[g.1,g.2.1,g.2.2.1,g.2.2.2,if_false,true_iff,qr,decide_eq_false_iff_not];omega
theorem fa8 (a b:Int):Pq 113 [.int .u8 a,.int .u8 b] (.bool (av7 a b)):=by
 refine af4 hE fok113 (nZ rfl) (ah6 (.int _ _) (.int _ _)) ?_;have ha:=fp6 a;have hb:=fp6 b;have na:=cv5 a;have nb:=cv5 b;simp only[ic113,go_sem];refine aa4 fok160 (ha) ?_;by_cases h1:as8 a=[]
 ·have:=na.1 h1;simp only[go_sem,h1];exact ab6 (by unfold av7;simp[this])
 have oa:ak6 a=true:=by
  cases h:ak6 a with
  | true=>rfl
  | false=>exact absurd (na.2 h) h1
 simp only[go_sem,h1];refine aa4 fok160 (hb) ?_;by_cases h2:as8 b=[]
 ·have:=nb.1 h2;simp only[go_sem,h2];exact ab6 (by unfold av7;simp[this])
 have ob:ak6 b=true:=by
  cases h:ak6 b with
  | true=>rfl
  | false=>exact absurd (nb.2 h) h2
 have hf:av7 a b=(decide (a=b)||decide (a=1)||decide (b=1)):=by
  unfold av7 ce9 bg8;rw[oa,ob];rw[qj];simp only[zz,Bool.or_eq_true,decide_eq_true_eq,qw,ql,qr,decide_eq_false_iff_not,Bool.not_eq_false'];omega
 rw[hf];by_cases e1:a=b
 ·simp only[go_sem,h2,e1];exact ab6 (by simp)
 by_cases e2:a=1
 ·subst e2;simp only[go_sem,h2,e1];exact ab6 (by simp)
 ·simp only[go_sem,h2,e1,e2];exact ab6 (by simp[e1,e2])
theorem jf3 (n:Str)(e:EVR):Pq 111 [.str n,.agg e.cs] (.agg (Dep.cs ⟨n,2,e⟩)):=by
 refine af4 hE fok111 (nZ rfl) (ah6 (.str _) (bx2 e)) ?_;simp only[ic111,go_sem,EVR.cs,Dep.cs];exact .keep _ (.agg _ (jb7 (.str _) (.int _ _) (.int _ _) (.str _) (.str _)))
theorem ij3 (p:aa2):Pq 76 [.agg p.cs] (.agg (own p).cs):=by
 refine af4 hE fok76 (nZ rfl) (ak1 (aj8 p)) ?_;have ho:=jf3 p.name p.evr;have hb:=am1 (own p);simp only[EVR.cs,Dep.cs,own] at ho hb;simp only[ic76,go_sem,aa2.cs,own,Dep.cs];refine aa4 fok111 (ho) ?_;simp only[go_sem];exact .keep _ hb
theorem ge4 (p:aa2):p.cs.head? = zg (.str p.name):=rfl
theorem fa9 (d:Dep):d.cs.head? = zg (.str d.name):=rfl
theorem bk1 (p:aa2)(d:Dep)(hp:Pkg.small p)(hd:Dep.small d):Pq 37 [.agg p.cs,.agg d.cs] (.bool (named p d)):=by
 refine af4 hE fok37 (nZ rfl) (ak3 (aj8 p) (am1 d)) ?_;have ho:=ij3 p;have hm:=fl7 (own p) d (ep8 hp) hd;have hnm:named p d=(decide (p.name=d.name)&&meet (own p) d):=rfl;rw[hnm];generalize hx:Dep.cs (own p)=x at ho hm;by_cases e:p.name=d.name
 ·have e':d.name=p.name:=e.symm;simp only[ic37,go_sem,ah4,ag7,af9,ai8,ag8,af8,ge4,fa9,e'];refine ab2 (ho) ?_;simp only[go_sem,ai8,ag8,af8]
  first|refine aa4 fok75 (hm) ?_|refine ab2 (hm) ?_
  simp only[go_sem];exact ab6 (by simp)
 ·have e':¬d.name=p.name:=λh=>e h.symm
  simp only[ic37,go_sem,ah4,ag7,af9,ai8,ag8,af8,ge4,fa9,e'];exact ab6 (by simp[e])
theorem eo5 {α:Type}{q:α->Bool}{l:List α}{i:Nat}{a:α}(h:l.drop i=a::l.drop (i+1)):(l.drop i).any q=(q a||(l.drop (i+1)).any q):=by rw[h];simp
theorem jf4 (p:aa2):(p.cs.drop 6).head? = zg (deps p.provides):=rfl
theorem jv1 (p:aa2):(p.cs.drop 9).head? = zg (deps p.aa7):=rfl
theorem fl9 (p:aa2):(p.cs.drop 14).head? = zg (strs p.files):=rfl
theorem jf5 (d:Dep):(d.cs.drop 1).head? = zg (.int .u8 d.op):=rfl
theorem ed6 (p:aa2)(d:Dep)(hp:Pkg.small p)(hd:Dep.small d):Pq 114 [.agg p.cs,.agg d.cs] (.bool (provides p d)):=by
 refine af4 hE fok114 (nZ rfl) (ak3 (aj8 p) (am1 d)) ?_;have hn:=bk1 p d hp hd;have l1:=hp.2.2.2.1;have l2:=hp.2.2.2.2.2;have hpv:provides p d=(named p d||p.provides.any (λa=>meets a d)||decide (d.op=0)&&p.files.contains d.name):=rfl;rw[hpv];simp only[ic114,go_sem,ah4,ag7,af9,ai8,ag8,af8];refine aa4 fok37 (hn) ?_
 cases hnb:named p d with
 | true=>simp only[go_sem];exact ab6 (by simp)
 | false=>
 simp only[go_sem];refine ab1 noT (λi fr s=>fr=[(2,.ab8 p.cs),(3,.ab8 d.cs),(5,.int .i64 (i:Int))]/\p.provides.any (λa=>meets a d)=(p.provides.drop i).any (λa=>meets a d)) p.provides.length ⟨rfl,rfl⟩ ?_;rintro i fr s hi ⟨rfl,ha⟩;by_cases hlt:i<p.provides.length
 ·obtain ⟨x,hx,hxi,hdr,hget,htk⟩:=ad2 p.provides i hlt;have d1:(i:Int)<p.provides.length:=om;have d2:(0:Int)<=(i:Int):=om;have w1:=ac3 (i:=i) om;have hm:=fl7 x d (hp.2.1 x hx) hd;have hms:meets x d=(decide (x.name=d.name)&&meet x d):=rfl;rw[eo5 hdr,hms] at ha;by_cases e:x.name=d.name
  ·simp only[go_sem,jf4,d1,d2,hget,fa9,ai8,ag8,af8,e]
   first|refine aa4 fok75 (hm) ?_|refine ab2 (hm) ?_
   cases hb:meet x d with
   | true=>
    rw[hb] at ha;simp only[go_sem]
    exact ab6 (by rw[ha];simp[e])
   | false=>
    rw[hb,Bool.and_false,z6] at ha;simp only[go_sem,w1];exact ⟨hlt,ha⟩
  ·rw[decide_eq_false e,Bool.false_and,z6] at ha;simp only[go_sem,jf4,d1,d2,hget,fa9,ai8,ag8,af8,e,w1];exact ⟨hlt,ha⟩
 have hi':i=p.provides.length:=om;subst hi';have d1:¬(p.provides.length:Int)<p.provides.length:=om;rw[qg,List.any_nil] at ha;rw[ha];simp only[go_sem,jf4,d1];refine ab1 noT (λi fr s=>fr=[(2,.ab8 p.cs),(3,.ab8 d.cs),(6,.int .i64 (i:Int))]/\(d.op=0->p.files.contains d.name=(p.files.drop i).contains d.name)) p.files.length ⟨rfl,λ_=>rfl⟩ ?_;rintro i fr s hi ⟨rfl,hf⟩;by_cases hlt:i<p.files.length
 ·obtain ⟨x,hx,hxi,hdr,hget,htk⟩:=ad2 p.files i hlt;have d1:(i:Int)<p.files.length:=om;have d2:(0:Int)<=(i:Int):=om;have w1:=ac3 (i:=i) om;have hgs:=hget bv8;by_cases e0:d.op=0
  ·have hf:=hf e0;rw[hdr,List.contains_cons] at hf;by_cases e:x=d.name
   ·have hin:p.files.contains d.name=true:=by rw[hf,e];simp
    simp only[go_sem,fl9,d1,d2,hgs,bv8,fa9,jf5,e0,e];exact ab6 (by first|(rw[hin];rfl)|rw[hin])
   ·have e2:(d.name==x)=false:=by simpa using λh=>e h.symm
    rw[e2,z6] at hf;simp only[go_sem,fl9,d1,d2,hgs,bv8,fa9,jf5,e0,e,w1];exact ⟨hlt,λ_=>hf⟩
  ·simp only[go_sem,fl9,d1,d2,hgs,bv8,fa9,jf5,e0,w1];exact ⟨hlt,λh=>by first|exact absurd h e0|exact h.elim⟩
 ·have hi':i=p.files.length:=om;subst hi';have d1:¬(p.files.length:Int)<p.files.length:=om;rw[qg] at hf;simp only[go_sem,fl9,d1];refine ab6 ?_;by_cases e0:d.op=0
  ·rw[hf e0];simp
  ·simp[e0]
theorem dj8 (p q:aa2)(hp:Pkg.small p)(hq:Pkg.small q):Pq 112 [.agg p.cs,.agg q.cs] (.bool (aa7 p q)):=by
 refine af4 hE fok112 (nZ rfl) (ak3 (aj8 p) (aj8 q)) ?_;have l1:=hp.2.2.2.2.1;have hob:aa7 p q=p.aa7.any λd=>named q d:=rfl
 rw[hob];simp only[ic112,go_sem,af9];refine ab1 noT (λi fr s=>fr=[(2,.ab8 p.cs),(3,.ab8 q.cs),(5,.int .i64 (i:Int))]/\p.aa7.any (λd=>named q d)=(p.aa7.drop i).any λd=>named q d) p.aa7.length ⟨rfl,rfl⟩ ?_;rintro i fr s hi ⟨rfl,ha⟩;by_cases hlt:i<p.aa7.length
 ·obtain ⟨x,hx,hxi,hdr,hget,htk⟩:=ad2 p.aa7 i hlt;have d1:(i:Int)<p.aa7.length:=om;have d2:(0:Int)<=(i:Int):=om;have w1:=ac3 (i:=i) om;have hm:=bk1 q x hq (hp.2.2.1 x hx);rw[eo5 hdr] at ha;simp only[go_sem,jv1,d1,d2,hget,ah4,ag7,af9,ai8,ag8,af8];refine aa4 fok37 (hm) ?_
  cases hb:named q x with
  | true=>
   rw[hb,Bool.true_or] at ha;simp only[go_sem]
   exact ab6 ha.symm
  | false=>
   rw[hb,z6] at ha;simp only[go_sem,w1];exact ⟨hlt,ha⟩
 ·have hi':i=p.aa7.length:=om;subst hi';have d1:¬(p.aa7.length:Int)<p.aa7.length:=om;rw[qg,List.any_nil] at ha;simp only[go_sem,jv1,d1];exact ab6 ha.symm
theorem ca4 (l:List Int):∀x∈l.map Md.ae1,x.length=1/\x.all IV.leaf=true:=λx hx=>by
 obtain ⟨n,_,rfl⟩:=zs.1 hx;exact ⟨rfl,rfl⟩
theorem dv2 (l:List aa2)(d:Dep)(hl:l.length<2^30)(hs:∀p∈l,Pkg.small p)(hd:Dep.small d):Pq 79 [av4 l,.agg d.cs] (.aa3 ((ak8 l d).map Md.ae1)):=by
 refine af4 hE fok79 (nZ rfl) (ak3 (ap6 l) (am1 d)) ?_;have hM:ak8 l d=numsOf (λp=>named p d) l:=rfl;rw[hM];simp only[ic79,go_sem,af8];refine ab1 noT (λi fr t=>∃gv,fr=[(0,av4 l),(3,.ab8 d.cs),(5,gv),(6,.int .i64 (i:Int))]/\Grow t gv 1 ((numsOf (λp=>named p d) (l.take i)).map Md.ae1)) l.length ⟨.aa1,rfl,.inl ⟨rfl,rfl⟩⟩ ?_;rintro i fr t hi ⟨gv,rfl,hg⟩;by_cases hlt:i<l.length
 ·obtain ⟨x,hx,hxi,hdr,hget,htk⟩:=ad2 l i hlt;have d1:(i:Int)<l.length:=om;have d2:(0:Int)<=(i:Int):=om;have w1:=ac3 (i:=i) om;have hm:=bk1 x d (hs x hx) hd;have hsn:=ax6 (λp=>named p d) (l.take i) x;rw[<- htk,zh,qk om] at hsn;simp only[go_sem,d1,d2,hget,ah4,ag7,af9,ai8,ag8,af8];refine aa4 fok37 (hm) ?_
  cases hb:named x d with
  | true=>
   rw[if_pos hb] at hsn;have hnl:=ae5 (λp=>named p d) (l.take i);rw[zh] at hnl;obtain ⟨v',σ',h1,h2,h3⟩:=bj9 (n:=7) (nid:=t.next+6) (e:=[.int .i64 (i:Int)]) hg (ca4 _) ⟨rfl,rfl⟩ (by rw[zj];omega) om om;have h1':as2 ({ next:=t.next+6+1,obj:=t.obj }:Store) (t.next+6) 1 gv (.aa3 [[.int .i64 (i:Int)]])=zg (v',σ'):=h1;simp only[go_sem,h1',w1];refine ⟨hlt,v',rfl,?_⟩;rw[hsn,zk]
   exact h3
  | false=>
   rw[if_neg (by rw[hb];simp),zb] at hsn;simp only[go_sem,w1];exact ⟨hlt,gv,rfl,by rw[hsn];exact hg.mono (zi _ _) λ_ _ _=>rfl⟩
 ·have hi':i=l.length:=om;subst hi';have d1:¬(l.length:Int)<l.length:=om;rw[zy] at hg;simp only[go_sem,d1]
  exact hg.frz (λx hx=>(ca4 _ x hx).1) (λ_ _=>zl _) λe he c hc=>by
   obtain ⟨n,_,rfl⟩:=zs.1 he;exact ak1 (.int _ _) c hc
theorem ed7 (l:List aa2)(d:Dep)(hl:l.length<2^30)(hs:∀p∈l,Pkg.small p)(hd:Dep.small d):Pq 78 [av4 l,.agg d.cs] (.aa3 ((ag1 l d).map Md.ae1)):=by
 refine af4 hE fok78 (nZ rfl) (ak3 (ap6 l) (am1 d)) ?_;have hM:ag1 l d=numsOf (λp=>provides p d) l:=rfl;rw[hM];simp only[ic78,go_sem,af8];refine ab1 noT (λi fr t=>∃gv,fr=[(0,av4 l),(3,.ab8 d.cs),(5,gv),(6,.int .i64 (i:Int))]/\Grow t gv 1 ((numsOf (λp=>provides p d) (l.take i)).map Md.ae1)) l.length ⟨.aa1,rfl,.inl ⟨rfl,rfl⟩⟩ ?_;rintro i fr t hi ⟨gv,rfl,hg⟩;by_cases hlt:i<l.length
 ·obtain ⟨x,hx,hxi,hdr,hget,htk⟩:=ad2 l i hlt;have d1:(i:Int)<l.length:=om;have d2:(0:Int)<=(i:Int):=om;have w1:=ac3 (i:=i) om;have hm:=ed6 x d (hs x hx) hd;have hsn:=ax6 (λp=>provides p d) (l.take i) x;rw[<- htk,zh,qk om] at hsn;simp only[go_sem,d1,d2,hget,ah4,ag7,af9,ai8,ag8,af8];refine aa4 fok114 (hm) ?_
  cases hb:provides x d with
  | true=>
   rw[if_pos hb] at hsn;have hnl:=ae5 (λp=>provides p d) (l.take i);rw[zh] at hnl;obtain ⟨v',σ',h1,h2,h3⟩:=bj9 (n:=7) (nid:=t.next+6) (e:=[.int .i64 (i:Int)]) hg (ca4 _) ⟨rfl,rfl⟩ (by rw[zj];omega) om om;have h1':as2 ({ next:=t.next+6+1,obj:=t.obj }:Store) (t.next+6) 1 gv (.aa3 [[.int .i64 (i:Int)]])=zg (v',σ'):=h1;simp only[go_sem,h1',w1];refine ⟨hlt,v',rfl,?_⟩;rw[hsn,zk]
   exact h3
  | false=>
   rw[if_neg (by rw[hb];simp),zb] at hsn;simp only[go_sem,w1];exact ⟨hlt,gv,rfl,by rw[hsn];exact hg.mono (zi _ _) λ_ _ _=>rfl⟩
 ·have hi':i=l.length:=om;subst hi';have d1:¬(l.length:Int)<l.length:=om;rw[zy] at hg;simp only[go_sem,d1]
  exact hg.frz (λx hx=>(ca4 _ x hx).1) (λ_ _=>zl _) λe he c hc=>by
   obtain ⟨n,_,rfl⟩:=zs.1 he;exact ak1 (.int _ _) c hc
end Go.Id.Tryz
namespace Go.Id.Md
open Go Go.Id
def ab3.dcs (a:ab3):List IV:=.aa3 (a.l.map aa2.cs)::.int .i64 a.p.inst::a.r.cs
def ab3.dv (a:ab3):IV:=.ab8 a.dcs
end Go.Id.Md
namespace Go.Id.Tryz
open Go Go.Id Go.Proofs Go.Id.Md
theorem aw4 (a:ab3):Bnd 0 a.dv:=.ab8 _ λc hc=>by
 rcases z5.1 hc with rfl|hc
 ·exact ap6 _
 ·rcases z5.1 hc with rfl|hc
  ·exact .int _ _
  ·exact ba1 a.r c hc
theorem ar6 (a:ab3):a.dcs.head? = zg (.aa3 (a.l.map aa2.cs)):=rfl
theorem df7 (a:ab3):(a.dcs.drop 1).head? = zg (.int .i64 a.p.inst):=rfl
theorem ki5 (a:ab3):(a.dcs.drop 2).head? = zg (.int .u8 a.r.ap7):=rfl
theorem ki6 (a:ab3):((a.dcs.drop 2).drop 1).head? = zg (.bool a.r.vendor):=rfl
theorem ct1 (a:ab3):((a.dcs.drop 2).drop 2).head? = zg (as5 a.r.af2):=rfl
theorem ij4 (a:ab3):((a.dcs.drop 2).drop 3).head? = zg (ao7 a.r.ag5):=rfl
theorem gy6 (a:ab3):a.dv.cs=[a.dv]:=rfl
theorem ed8 (a:ab3):a.dv.leaf=true:=rfl
theorem ac9 (a:ab3):a.dv=.ab8 a.dcs:=rfl
theorem cg6 (l:List az4)(σ:Store):cc2 0 σ (ao7 l)=zg (.int .i64 l.length):=by unfold ao7;simp only[go_sem]
theorem al3 (l:List Job)(σ:Store):cc2 0 σ (as5 l)=zg (.int .i64 l.length):=by unfold as5;simp only[go_sem]
theorem gy7 (e:az4):e.cs.head? = zg (.int .u8 e.kind):=rfl
theorem gy8 (e:az4):(e.cs.drop 1).head? = zg (.int .i64 e.n):=rfl
theorem bn1 (a:ab3)(hA:AOK a)(k n:Int):Pq 73 [a.dv,.int .u8 k,.int .i64 n] (.bool (a.ba4 k n)):=by
 refine af4 hE fok73 (nZ rfl) (ce2 (aw4 a) (.int _ _) (.int _ _)) ?_;have hl:=hA.ag5;simp only[ic73,go_sem];refine ab1 noT (λi fr s=>fr=[(0,a.dv),(1,.int .u8 k),(2,.int .i64 n),(7,.int .i64 (i:Int))]/\(⟨k,n⟩:az4) ∉ a.r.ag5.take i) a.r.ag5.length ⟨rfl,by simp⟩ ?_;rintro i fr s hi ⟨rfl,hn⟩;by_cases hlt:i<a.r.ag5.length
 ·obtain ⟨x,hx,hxi,hdr,hget,htk⟩:=ad2 a.r.ag5 i hlt;have d1:(i:Int)<a.r.ag5.length:=om;have d2:(0:Int)<=(i:Int):=om;have w1:=ac3 (i:=i) om;have hg:=hget az4.cs;by_cases e1:x.kind=k
  ·by_cases e2:x.n=n
   ·have hin:(⟨k,n⟩:az4)∈a.r.ag5:=by
     have:x=⟨k,n⟩:=by cases x;simp only at e1 e2;subst e1;subst e2;rfl
     rw[<- this];exact hx
    simp only[go_sem,ac9,ij4,cg6,ao7,d1,d2,hg,gy7,gy8,an7,e1,e2,ac2];exact ab6 (decide_eq_true hin).symm
   ·simp only[go_sem,ac9,ij4,cg6,ao7,d1,d2,hg,gy7,gy8,an7,e1,e2,w1,ac2];refine ⟨hlt,?_⟩;rw[htk,qi,not_or];exact ⟨hn,λh=>e2 (by rw[<- qu.1 h])⟩
  ·simp only[go_sem,ac9,ij4,cg6,ao7,d1,d2,hg,gy7,gy8,an7,e1,w1,ac2];refine ⟨hlt,?_⟩;rw[htk,qi,not_or];exact ⟨hn,λh=>e1 (by rw[<- qu.1 h])⟩
 ·have d1:¬(i:Int)<a.r.ag5.length:=om;rw[zx om] at hn;simp only[go_sem,ac9,ij4,cg6,d1,ac2];exact ab6 (decide_eq_false hn).symm
theorem cv6 (a:ab3)(hA:AOK a)(n:Int):Pq 33 [a.dv,.int .i64 n] (.bool (a.dropped n)):=by
 refine af4 hE fok33 (nZ rfl) (ah6 (aw4 a) (.int _ _)) ?_;have he:=bn1 a hA 1 n;by_cases h0:0<=n
 ·by_cases h1:n<a.r.af2.length
  ·simp only[ic33,go_sem,ac9,ct1,al3,h0,h1,ac2];rw[<- ac9];refine aa4 fok73 (he) ?_;simp only[go_sem];exact ab6 (by unfold ab3.dropped ab3.job;simp[h0,h1])
  ·simp only[ic33,go_sem,ac9,ct1,al3,h0,h1,ac2];exact ab6 (by unfold ab3.dropped ab3.job;simp[h1])
 ·simp only[ic33,go_sem,ac9,ct1,al3,h0,ac2];exact ab6 (by unfold ab3.dropped ab3.job;simp[h0])
theorem eo6 (a:ab3)(n:Int):Pq 30 [a.dv,.int .i64 n] (.bool (a.fits n)):=by
 refine af4 hE fok30 (nZ rfl) (ah6 (aw4 a) (.int _ _)) ?_;have p4:∀p:aa2,(p.cs.drop 4).head? = zg (.int .u8 p.ap7):=λ_=>rfl
 by_cases h0:0<=n
 ·by_cases h1:n<a.l.length
  ·obtain ⟨m,rfl⟩:∃m:Nat,n=m:=⟨n.toNat,om⟩;have hm:m<a.l.length:=om;have hg:(a.l.map aa2.cs).getD m []=(a.pk m).cs:=by simp[ab3.pk,za,hm]
   have hf:=ij2 a.r.ap7 (a.pk m).ap7;simp only[ic30,go_sem,ac9,ar6,ki5,h0,h1,hg,p4,ah4,ac2];refine aa4 fok69 (hf) ?_;simp only[go_sem];exact ab6 (by unfold ab3.fits ab3.is;simp[h0,h1])
  ·simp only[ic30,go_sem,ac9,ar6,h0,h1,ac2];exact ab6 (by unfold ab3.fits ab3.is;simp[h1])
 ·simp only[ic30,go_sem,ac9,ar6,h0,ac2];exact ab6 (by unfold ab3.fits ab3.is;simp[h0])
theorem bf7 (a:ab3){m:Nat}(h:m<a.l.length):(a.l.map aa2.cs).getD m []=(a.pk m).cs:=by simp[ab3.pk,za,h]
theorem gy9 (a:ab3){p:Nat}(h:p<a.l.length):a.pk p∈a.l:=by
 have:a.pk p=a.l[p]:=by simp[ab3.pk,za,h]
 rw[this];exact zo h
theorem ge5 (a:ab3)(hA:AOK a)(n m:Int):Pq 31 [a.dv,.int .i64 n,.int .i64 m] (.bool (a.twins n m)):=by
 refine af4 hE fok31 (nZ rfl) (ce2 (aw4 a) (.int _ _) (.int _ _)) ?_;by_cases h0:n<0
 ·simp only[ic31,go_sem,ac9,ar6,h0,ac2];exact ab6 (by unfold ab3.twins ab3.is;simp[show ¬0<=n by omega])
 by_cases h1:m<0
 ·simp only[ic31,go_sem,ac9,ar6,h0,h1,ac2];exact ab6 (by unfold ab3.twins ab3.is;simp[show ¬0<=m by omega])
 by_cases h2:(a.l.length:Int)<=n
 ·simp only[ic31,go_sem,ac9,ar6,h0,h1,h2,ac2];exact ab6 (by unfold ab3.twins ab3.is;simp[show ¬n<a.l.length by omega])
 by_cases h3:(a.l.length:Int)<=m
 ·simp only[ic31,go_sem,ac9,ar6,h0,h1,h2,h3,ac2];exact ab6 (by unfold ab3.twins ab3.is;simp[show ¬m<a.l.length by omega])
 by_cases h4:n=m
 ·simp only[ic31,go_sem,ac9,ar6,h0,h1,h2,h3,h4,ac2];exact ab6 (by unfold ab3.twins;simp[h4])
 obtain ⟨x,rfl⟩:∃x:Nat,n=x:=⟨n.toNat,om⟩;obtain ⟨y,rfl⟩:∃y:Nat,m=y:=⟨m.toNat,om⟩;have c1:x<a.l.length:=om;have c2:y<a.l.length:=om;have d1:(0:Int)<=(x:Int):=om;have d2:(0:Int)<=(y:Int):=om;have d3:(x:Int)<a.l.length:=om;have d4:(y:Int)<a.l.length:=om;have gx:=bf7 a c1;have gy:=bf7 a c2;have sx:=hA.small _ (gy9 a c1);have sy:=hA.small _ (gy9 a c2);have ht:a.twins x y=ab3.fh6 (a.pk x) (a.pk y):=by unfold ab3.twins ab3.is;simp[h4,d1,d2,c1,c2]
 rw[ht];generalize a.pk x=p at *;generalize a.pk y=q at *;have ha:=gy5 p.ap7 q.ap7;have hc:=ca3 p.evr q.evr sx.1 sy.1;have p1:∀p:aa2,(p.cs.drop 1).take 3=p.evr.cs:=λ_=>rfl
 have p4:∀p:aa2,(p.cs.drop 4).head? = zg (.int .u8 p.ap7):=λ_=>rfl
 have l1:∀p:aa2,3<=(p.cs.drop 1).length:=λp=>by show 3<=14;decide
 unfold ab3.fh6;by_cases hnm:p.name=q.name
 ·simp only[ic31,go_sem,ac9,ar6,h0,h1,h2,h3,h4,ac2,d1,d2,d3,d4,gx,gy,ah4,ag7,af9,ge4,hnm,p4];refine aa4 fok70 (ha) ?_
  cases hap:ce9 p.ap7 q.ap7 with
  | false=>
   simp only[go_sem]
   exact ab6 (by simp)
  | true=>
   simp only[go_sem,p1,l1,cz6];refine aa4 fok71 (hc) ?_;simp only[go_sem];exact ab6 (by simp)
 ·simp only[ic31,go_sem,ac9,ar6,h0,h1,h2,h3,h4,ac2,d1,d2,d3,d4,gx,gy,ah4,ag7,af9,ge4,hnm];exact ab6 (by simp[hnm])
theorem ed9 (a:ab3){m:Nat}(h:m<a.r.af2.length):(a.r.af2.map Job.cs).getD m []=(a.jb m).cs:=by simp[ab3.jb,za,h]
theorem jf6 (a:ab3){p:Nat}(h:p<a.r.af2.length):a.jb p∈a.r.af2:=by
 have:a.jb p=a.r.af2[p]:=by simp[ab3.jb,za,h]
 rw[this];exact zo h
theorem ij5 (j:Job):j.cs.head? = zg (.int .u8 j.kind):=rfl
theorem ka5 (j:Job):(j.cs.drop 1).take 5=j.dep.cs:=rfl
theorem ij6 (j:Job):j.cs.length=6:=rfl
theorem ij7 (j:Job):(j.cs.drop 1).length=5:=rfl
theorem ij8 (a:ab3){n:Nat}(h:n<a.l.length)(d:Dep):decide ((n:Int)∈ak8 a.l d)=named (a.pk n) d:=by
 have hp:a.l.getD n default=a.pk n:=rfl
 cases hb:named (a.pk n) d with
 | true=>exact decide_eq_true (am5.2 ⟨n,rfl,h,by rw[hp];exact hb⟩)
 | false=>
  refine decide_eq_false λhm=>?_
  obtain ⟨m,h1,_,h3⟩:=am5.1 hm;have:m=n:=om;subst this;rw[hp,hb] at h3;cases h3
theorem dv3 (a:ab3)(hA:AOK a)(k:Int)(n:Nat)(hn:n<a.l.length):Pq 72 [a.dv,.int .u8 k,.int .i64 n] (.bool (a.ax8 k n)):=by
 refine af4 hE fok72 (nZ rfl) (ce2 (aw4 a) (.int _ _) (.int _ _)) ?_;have hl:=hA.af2;obtain ⟨f,hf⟩:∃f:Nat->Bool,f=λi:Nat=>decide ((a.jb i).kind=k)&&!a.dropped i&&decide ((n:Int)∈ak8 a.l (a.jb i).dep):=⟨_,rfl⟩
 obtain ⟨g,hg⟩:∃g:Nat->Bool,g=λi=>(List.range i).any f:=⟨_,rfl⟩
 have hB:a.ax8 k n=g a.r.af2.length:=by rw[hg,hf];rfl
 have hsn:∀i,g (i+1)=(g i||f i):=λi=>by rw[hg];simp only[List.range_succ,List.any_append];simp
 have hlast:∀i,i<a.r.af2.length->f i=true->g a.r.af2.length=true:=λi hi h=>by rw[hg];exact List.any_eq_true.2 ⟨i,List.mem_range.2 hi,h⟩
 have hg0:g 0=false:=by rw[hg];rfl
 clear hg;rw[hB];have e1:(0:Int)<=(n:Int):=om;have e2:(n:Int)<a.l.length:=om;have gn:=bf7 a hn;simp only[ic72,go_sem];refine ab1 noT (λi fr s=>fr=[(0,a.dv),(1,.int .u8 k),(2,.int .i64 n),(7,.int .i64 (i:Int))]/\g i=false) a.r.af2.length ⟨rfl,hg0⟩ ?_;rintro i fr s hi ⟨rfl,hno⟩;by_cases hlt:i<a.r.af2.length
 ·have d1:(i:Int)<a.r.af2.length:=om;have d2:(0:Int)<=(i:Int):=om;have w1:=ac3 (i:=i) om;have gj:=ed9 a hlt;have hD:=cv6 a hA i;have hN:=bk1 (a.pk n) (a.jb i).dep (hA.small _ (gy9 a hn)) (hA.it9 _ (jf6 a hlt));have hfi:f i=(decide ((a.jb i).kind=k)&&!a.dropped i&&named (a.pk n) (a.jb i).dep):=by rw[hf,<- ij8 a hn]
  have hst:=hsn i;rw[hno,z6] at hst;have hla:=hlast i hlt;rw[hfi] at hst hla;generalize a.jb i=jv at *;by_cases k1:jv.kind=k
  ·simp only[go_sem,ac9,ct1,al3,as5,d1,d2,gj,ij5,ij6,k1,ac2];rw[<- ac9];refine aa4 fok33 (hD) ?_
   cases hd:a.dropped i with
   | true=>
    rw[hd] at hst;simp only[go_sem,w1]
    exact ⟨hlt,by rw[hst];simp⟩
   | false=>
    rw[hd] at hst hla;simp only[go_sem,ac9,ar6,ct1,al3,as5,d1,d2,gj,gn,e1,e2,ij5,ka5,ij6,ij7,k1,ac2,ah4,ag7,af9,ai8,ag8,af8];refine aa4 fok37 (hN) ?_
    cases hb:named (a.pk n) jv.dep with
    | true=>
     simp only[go_sem]
     exact ab6 (hla (by rw[hb];simp[k1])).symm
    | false=>
     rw[hb] at hst;simp only[go_sem,w1];exact ⟨hlt,by rw[hst];simp⟩
  ·simp only[go_sem,ac9,ct1,al3,as5,d1,d2,gj,ij5,ij6,k1,w1,ac2];exact ⟨hlt,by rw[hst];simp[k1]⟩
 ·have hi':i=a.r.af2.length:=om;subst hi';have d1:¬(a.r.af2.length:Int)<a.r.af2.length:=om;simp only[go_sem,ac9,ct1,al3,d1,ac2];exact ab6 hno.symm
theorem gz1 (a:ab3)(hA:AOK a)(n:Int):Pq 32 [a.dv,.int .i64 n] (.bool (a.goes n)):=by
 refine af4 hE fok32 (nZ rfl) (ah6 (aw4 a) (.int _ _)) ?_;have he:=bn1 a hA 2 n;have hI:=hA.inst;by_cases h0:0<=n
 ·by_cases h1:n<a.p.inst
  ·obtain ⟨m,rfl⟩:∃m:Nat,n=m:=⟨n.toNat,om⟩;have hN:=dv3 a hA 2 m om;have hin:a.inst m=true:=by unfold ab3.inst ab3.is;simp[h1];omega
   have hg:a.goes m=(a.ax8 2 m||a.ba4 2 m):=by unfold ab3.goes;rw[hin];rfl
   rw[hg];simp only[ic32,go_sem,ac9,df7,h0,h1,ac2];rw[<- ac9];refine aa4 fok72 (hN) ?_
   cases a.ax8 2 m with
   | true=>simp only[go_sem];exact ab6 (by simp)
   | false=>
    simp only[go_sem];refine aa4 fok73 (he) ?_;simp only[go_sem];exact ab6 (by simp)
  ·simp only[ic32,go_sem,ac9,df7,h0,h1,ac2];exact ab6 (by unfold ab3.goes ab3.inst;simp[h1])
 ·simp only[ic32,go_sem,ac9,df7,h0,ac2];exact ab6 (by unfold ab3.goes ab3.inst ab3.is;simp[h0])
end Go.Id.Tryz
namespace Go.Id.Md
open Go Go.Id
def ab3.iu5 (a:ab3)(i n:Nat):Bool:=decide ((n:Int)=i)||a.ka3 i (a.pk n)||(!decide ((n:Int)=i)&&aa7 (a.pk n) (a.pk i))
end Go.Id.Md
namespace Go.Id.Tryz
open Go Go.Id Go.Proofs Go.Id.Md
theorem dj9 (a:ab3)(hA:AOK a)(i n:Nat)(hi:i<a.l.length)(hn:n<a.l.length):Pq 77 [a.dv,.int .i64 i,.int .i64 n] (.bool (a.iu5 i n)):=by
 refine af4 hE fok77 (nZ rfl) (ce2 (aw4 a) (.int _ _) (.int _ _)) ?_;have d1:(0:Int)<=(i:Int):=om;have d2:(0:Int)<=(n:Int):=om;have d3:(i:Int)<a.l.length:=om;have d4:(n:Int)<a.l.length:=om;have gi:=bf7 a hi;have gn:=bf7 a hn;have si:=hA.small _ (gy9 a hi);have sn:=hA.small _ (gy9 a hn);have he3:=bn1 a hA 3 i;have he4:=bn1 a hA 4 i;have hn4:=dv3 a hA 4 i hi;generalize hR:a.iu5 i n=R;unfold ab3.iu5 ab3.ka3 ab3.eb8 at hR;generalize a.pk i=p at *;generalize a.pk n=q at *;have hO:=dj8 q p sn si;have hC:=ca3 q.evr p.evr sn.1 si.1;have hF:=fa8 q.ap7 p.ap7;have p1:∀p:aa2,(p.cs.drop 1).take 3=p.evr.cs:=λ_=>rfl
 have p4:∀p:aa2,(p.cs.drop 4).head? = zg (.int .u8 p.ap7):=λ_=>rfl
 have p5:∀p:aa2,(p.cs.drop 5).head? = zg (.str p.vendor):=λ_=>rfl
 by_cases hni:(n:Int)=i
 ·simp only[ic77,go_sem,ac9,ar6,ac2,d1,d2,d3,d4,gi,gn,ah4,ag7,af9,hni];exact ab6 (by rw[<- hR];simp[hni])
 simp only[ic77,go_sem,ac9,ar6,ac2,d1,d2,d3,d4,gi,gn,ah4,ag7,af9,hni];refine aa4 fok112 (hO) ?_
 cases hob:aa7 q p with
 | true=>
  simp only[go_sem]
  exact ab6 (by rw[<- hR];simp[hni,hob])
 | false=>
 by_cases hnm:q.name=p.name
 case neg=>
  simp only[go_sem,ge4,hnm];exact ab6 (by rw[<- hR];simp[hni,hnm,hob])
 simp only[go_sem,ge4,hnm,<- ac9];refine aa4 fok73 (he3) ?_;have hres:R=((a.ba4 3 i||a.ax8 4 i||decide (0<=aq4 q.evr p.evr))&&(a.ba4 4 i||av7 q.ap7 p.ap7)&&(a.r.vendor||decide (q.vendor=p.vendor))):=by rw[<- hR];simp[hni,hnm,hob]
 clear hR;cases h3:a.ba4 3 i
 case' true=>simp only[go_sem]
 case' false=>
  simp only[go_sem];refine aa4 fok72 (hn4) ?_;cases h4:a.ax8 4 i<;>simp only[go_sem]
 all_goals
  simp only[go_sem,p1,cz6];refine aa4 fok71 (hC) ?_;generalize aq4 q.evr p.evr=c at *;by_cases hc0:c<0
  case' pos=>
   have hc1:¬0<=c:=om;simp only[go_sem,hc0,p4]
  case' neg=>
   have hc1:0<=c:=om;simp only[go_sem,hc0,p4]
 all_goals try (exact ab6 (by rw[hres];simp[*]))
 all_goals
  refine aa4 fok113 (hF) ?_;cases hfo:av7 q.ap7 p.ap7
  case' true=>simp only[go_sem,p5]
  case' false=>
   simp only[go_sem,<- ac9];refine aa4 fok73 (he4) ?_;cases h5:a.ba4 4 i<;>simp only[go_sem,p5]
 all_goals try (exact ab6 (by rw[hres];simp[*]))
 all_goals
  by_cases hv:q.vendor=p.vendor
  ·simp only[go_sem,hv];exact ab6 (by rw[hres];simp[*])
  ·simp only[go_sem,hv,ac9,ki6,ac2];exact ab6 (by rw[hres];simp[*])
theorem ee1 (a:ab3)(i:Int):a.an4 i=ak9 (λn=>a.inst i&&a.iu5 i.toNat n) a.l.length:=by
 unfold ab3.an4
 cases h:a.inst i with
 | true=>
  have h0:0<=i:=by
   unfold ab3.inst ab3.is at h;simp only[zz,decide_eq_true_eq] at h;exact h.1.1
  obtain ⟨m,rfl⟩:∃m:Nat,i=m:=⟨i.toNat,om⟩;simp only[if_true,ql,zf]
  rfl
 | false=>
  have:ak9 (λn=>false&&a.iu5 i.toNat n) a.l.length=[]:=by
   unfold ak9;simp
  rw[this];simp
theorem fm1 {t:Store}{gv:IV}{l:List Int}(hg:Grow t gv 1 (l.map Md.ae1)):cb5 t 0 gv (.aa3 (l.map Md.ae1)):=
 hg.frz (λx hx=>(ca4 _ x hx).1) (λ_ _=>zl _) λe he c hc=>by
  obtain ⟨n,_,rfl⟩:=zs.1 he;exact ak1 (.int _ _) c hc
theorem bd7 (a:ab3)(hA:AOK a)(i:Int):Pq 39 [a.dv,.int .i64 i] (.aa3 ((a.an4 i).map Md.ae1)):=by
 refine af4 hE fok39 (nZ rfl) (ah6 (aw4 a) (.int _ _)) ?_;have hl:=hA.len;have hI:=hA.inst;rw[ee1];obtain ⟨f,hf⟩:∃f:Nat->Bool,f=λn=>a.inst i&&a.iu5 i.toNat n:=⟨_,rfl⟩
 rw[<- hf];simp only[ic39,go_sem];refine ab1 noT (λn fr t=>∃gv,fr=[(0,a.dv),(1,.int .i64 i),(5,gv),(6,.int .i64 (n:Int))]/\Grow t gv 1 ((ak9 f n).map Md.ae1)) a.l.length ⟨.aa1,rfl,.inl ⟨rfl,rfl⟩⟩ ?_;rintro n fr t hn ⟨gv,rfl,hg⟩;by_cases hlt:n<a.l.length
 ·have d1:(n:Int)<a.l.length:=om;have w1:=ac3 (i:=n) om;have hsn:=ax7 f n;have hnl:=ao4 f n
  have hno:f n=false->∀u:Store,u.obj=t.obj->t.next<=u.next->Grow u gv 1 ((ak9 f (n+1)).map Md.ae1):=λh u h1 h2=>by
   rw[hsn,h];simp only[qb,if_false,zb];exact hg.mono h2 λ_ _ _=>by rw[h1]
  by_cases h0:0<=i
  ·by_cases h1:i<a.p.inst
   ·obtain ⟨m,rfl⟩:∃m:Nat,i=m:=⟨i.toNat,om⟩;have hin:a.inst m=true:=by unfold ab3.inst ab3.is;simp[h1];omega
    have hfn:f n=a.iu5 m n:=by rw[hf,hin];rfl
    have hS:=dj9 a hA m n om hlt;simp only[go_sem,ac9,ar6,df7,d1,h0,h1,ac2];rw[<- ac9];refine aa4 fok77 (hS) ?_
    cases hb:a.iu5 m n with
    | true=>
     rw[hfn,hb,if_pos rfl] at hsn;obtain ⟨v',σ',h1,h2,h3⟩:=bj9 (n:=1) (nid:=t.next) (e:=[.int .i64 (n:Int)]) hg (ca4 _) ⟨rfl,rfl⟩ (by rw[zj];omega) (ze _) om;simp only[go_sem,h1,w1];refine ⟨hlt,v',rfl,?_⟩;rw[hsn,zk]
     exact h3
    | false=>
     simp only[go_sem,w1];exact ⟨hlt,gv,rfl,hno (by rw[hfn,hb]) _ rfl (ze _)⟩
   ·have hfn:f n=false:=by rw[hf];simp[ab3.inst,h1]
    simp only[go_sem,ac9,ar6,df7,d1,h0,h1,ac2,w1];exact ⟨hlt,gv,rfl,hno hfn _ rfl (ze _)⟩
  ·have hfn:f n=false:=by rw[hf];simp[ab3.inst,ab3.is,h0]
   simp only[go_sem,ac9,ar6,df7,d1,h0,ac2,w1];exact ⟨hlt,gv,rfl,hno hfn _ rfl (ze _)⟩
 ·have hn':n=a.l.length:=om;subst hn';have d1:¬(a.l.length:Int)<a.l.length:=om;simp only[go_sem,ac9,ar6,d1,ac2];exact fm1 hg
theorem ge6 (a:ab3)(hA:AOK a)(i:Int):(a.an4 i).length<=256:=by
 rw[ee1];exact zp (ao4 _ _) hA.len
theorem dk4 (a:ab3)(hA:AOK a)(i:Int):Pq 41 [a.dv,.int .i64 i] (.aa3 ((a.bx7 i).map Md.ae1)):=by
 refine af4 hE fok41 (nZ rfl) (ah6 (aw4 a) (.int _ _)) ?_;have hS:=bd7 a hA i;have hsl:=ge6 a hA i
 have hsz:∀n∈a.an4 i,0<=n/\n<a.l.length:=λn hn=>by
  rw[ee1] at hn;obtain ⟨m,rfl,h1,_⟩:=bq2.1 hn;omega
 have hnw:a.bx7 i=(a.an4 i).filter λn=>!(a.inst n || !a.fits n):=rfl
 rw[hnw];generalize a.an4 i=L at *;obtain ⟨q,hq⟩:∃q:Int->Bool,q=λn=>!(a.inst n || !a.fits n):=⟨_,rfl⟩
 rw[<- hq];simp only[ic41,go_sem];refine aa4 fok39 (hS) ?_;simp only[go_sem];refine ab1 noT (λn fr t=>∃gv,fr=[(0,a.dv),(5,gv),(6,.aa3 (L.map Md.ae1)),(7,.int .i64 (n:Int))]/\Grow t gv 1 (((L.take n).filter q).map Md.ae1)) L.length ⟨.aa1,rfl,.inl ⟨rfl,rfl⟩⟩ ?_;rintro n fr t hn ⟨gv,rfl,hg⟩;by_cases hlt:n<L.length
 ·have d1:(n:Int)<L.length:=om;have d2:(0:Int)<=(n:Int):=om;have w1:=ac3 (i:=n) om;have g:=(show (L.map Md.ae1).getD n []=[.int .i64 L[n]] by simp[za,hlt,Md.ae1]);have hz:=hsz _ (zo hlt)
  have htk:(L.take (n+1)).filter q=(L.take n).filter q++if q L[n] then [L[n]] else []:=by
   rw[qd,zv hlt,qv];congr 1;simp only[Option.toList,List.filter_cons,List.filter_nil]
  have hfl:((L.take n).filter q).length<=n:=by
   refine zp (qq _ _) ?_;rw[zh];omega
  have hF:=eo6 a L[n];generalize L[n]=z at *
  have hno:q z=false->∀u:Store,u.obj=t.obj->t.next<=u.next->Grow u gv 1 (((L.take (n+1)).filter q).map Md.ae1):=λh u h1 h2=>by
   rw[htk,h];simp only[qb,if_false,zb];exact hg.mono h2 λ_ _ _=>by rw[h1]
  have hiz:a.is z=true:=by unfold ab3.is;simp[hz.1,hz.2]
  by_cases h1:a.p.inst<=z
  ·have hin:a.inst z=false:=by unfold ab3.inst;simp[show ¬z<a.p.inst by omega]
   have hqz:q z=a.fits z:=by rw[hq];simp[hin]
   simp only[go_sem,ac9,df7,d1,d2,g,h1,ac2];rw[<- ac9];refine aa4 fok30 (hF) ?_
   cases hb:a.fits z with
   | true=>
    rw[hqz,hb,if_pos rfl] at htk;obtain ⟨v',σ',h1,h2,h3⟩:=bj9 (n:=18) (nid:=t.next+17) (e:=[.int .i64 z]) hg (ca4 _) ⟨rfl,rfl⟩ (by rw[zj];omega) om om;have h1':as2 ({ next:=t.next+17+1,obj:=t.obj }:Store) (t.next+17) 1 gv (.aa3 [[.int .i64 z]])=zg (v',σ'):=h1;simp only[go_sem,d1,d2,g,h1',w1];refine ⟨hlt,v',rfl,?_⟩;rw[htk,zk]
    exact h3
   | false=>
    simp only[go_sem,w1];exact ⟨hlt,gv,rfl,hno (by rw[hqz,hb]) _ rfl (zi _ _)⟩
  ·have hin:a.inst z=true:=by unfold ab3.inst;rw[hiz];simp;omega
   have hqz:q z=false:=by rw[hq];simp[hin]
   simp only[go_sem,ac9,df7,d1,d2,g,h1,ac2,w1];exact ⟨hlt,gv,rfl,hno hqz _ rfl (zi _ _)⟩
 ·have hn':n=L.length:=om;subst hn';have d1:¬(L.length:Int)<L.length:=om;rw[zy] at hg;simp only[go_sem,d1];exact fm1 hg
theorem ge7 (q:aa2->Bool)(l:List aa2):∀m:List aa2,(numsOf q (l++m)).filter (λn:Int=>decide (n<(l.length:Int)))=numsOf q l:=by
 have hall:∀l:List aa2,(numsOf q l).filter (λn:Int=>decide (n<(l.length:Int)))=numsOf q l:=λl=>List.filter_eq_self.2 λn hn=>by
  obtain ⟨m,rfl,h,_⟩:=am5.1 hn;exact decide_eq_true om
 have key:∀k:Nat,∀m:List aa2,m.length=k->(numsOf q (l++m)).filter (λn:Int=>decide (n<(l.length:Int)))=numsOf q l:=by
  intro k
  induction k with
  | zero=>
   intro m hm;have:m=[]:=List.length_eq_zero_iff.1 hm;subst this
   rw[zb];exact hall l
  | succ k ih=>
   intro m hm;have hne:m≠[]:=λe=>by rw[e] at hm;cases hm
   obtain ⟨m',p,hmp⟩:=(List.eq_nil_or_concat m).resolve_left hne;rw[List.concat_eq_append] at hmp;subst hmp;rw[<- zc,ax6,qv,ih m' (by rw[zd,qp] at hm;omega)]
   have:((if q p=true then [((l++m').length:Int)] else []):List Int).filter (λn:Int=>decide (n<(l.length:Int)))=[]:=by
    split
    ·rw[zd];simp;omega
    ·rfl
   rw[this,zb]
 exact λm=>key m.length m rfl
theorem fb1 (a:ab3)(hA:AOK a)(hp:0<=a.p.inst)(d:Dep):(ak8 a.l d).filter (λn=>a.inst n)=ak8 (a.l.take a.p.inst.toNat) d:=by
 have hI:=hA.inst;have h:=ge7 (λp=>named p d) (a.l.take a.p.inst.toNat) (a.l.drop a.p.inst.toNat);rw[List.take_append_drop,zh,qk om] at h;show (numsOf (λp=>named p d) a.l).filter (λn=>a.inst n)=numsOf (λp=>named p d) (a.l.take a.p.inst.toNat);rw[<- h];refine List.filter_congr λn hn=>?_
 obtain ⟨m,rfl,h1,_⟩:=am5.1 hn;unfold ab3.inst ab3.is;rw[qj];simp only[zz,decide_eq_true_eq];omega
theorem ge8 (a:ab3)(hA:AOK a)(hp:0<=a.p.inst)(j:Int):Pq 40 [a.dv,.int .i64 j] (.aa3 ((a.meant j).map Md.ae1)):=by
 refine af4 hE fok40 (nZ rfl) (ah6 (aw4 a) (.int _ _)) ?_;have hl:=hA.len;have hI:=hA.inst;by_cases h0:j<0
 ·have:a.meant j=[]:=by unfold ab3.meant ab3.job;simp[show ¬0<=j by omega]
  rw[this];simp only[ic40,go_sem,ac9,h0,ac2];exact .bz3
 by_cases h1:(a.r.af2.length:Int)<=j
 ·have:a.meant j=[]:=by unfold ab3.meant ab3.job;simp[show ¬j<a.r.af2.length by omega]
  rw[this];simp only[ic40,go_sem,ac9,ct1,al3,h0,h1,ac2];exact .bz3
 obtain ⟨m,rfl⟩:∃m:Nat,j=m:=⟨j.toNat,om⟩;have hm:m<a.r.af2.length:=om;have d1:(0:Int)<=(m:Int):=om;have d2:(m:Int)<a.r.af2.length:=om;have gj:=ed9 a hm;have hd:=hA.it9 _ (jf6 a hm)
 have hme:a.meant m=if (a.jb m).kind=1 then ag1 a.l (a.jb m).dep else if (a.jb m).kind=2 then ak8 a.l (a.jb m).dep else ak8 (a.l.take a.p.inst.toNat) (a.jb m).dep:=by
  have hj:a.job m=true:=by unfold ab3.job;simp[hm]
  unfold ab3.meant;rw[hj,if_pos rfl,fb1 a hA hp]
 rw[hme];generalize a.jb m=jv at *;have hP:=ed7 a.l jv.dep om hA.small hd;have hN:=dv2 a.l jv.dep om hA.small hd;have hT:=dv2 (a.l.take a.p.inst.toNat) jv.dep (by rw[zh];omega) (λp hp=>hA.small p (qs hp)) hd;have jlf:jv.cs.all IV.leaf=true:=rfl;have jtk:jv.cs.take 6=jv.cs:=rfl;simp only[ic40,go_sem,ac9,ct1,al3,as5,h0,h1,d1,d2,gj,ij5,ij6,jlf,jtk,ac2];by_cases k1:jv.kind=1
 ·rw[if_pos k1];simp only[go_sem,k1,ar6,ij5,ka5,ij6,ij7,ac2];refine aa4 fok78 (hP) ?_;simp only[go_sem];exact .keep _ (aw5 _)
 rw[if_neg k1];by_cases k2:jv.kind=2
 ·rw[if_pos k2];simp only[go_sem,zm,k2,ar6,ij5,ka5,ij6,ij7,ac2];refine aa4 fok79 (hN) ?_;simp only[go_sem];exact .keep _ (aw5 _)
 rw[if_neg k2];obtain ⟨h,hh⟩:∃h:Nat,a.p.inst=h:=⟨a.p.inst.toNat,om⟩;have hle:h<=a.l.length:=om
 have hsl:dk9 15 none (zg (.int .i64 a.p.inst)) (.aa3 (a.l.map aa2.cs))=zg (av4 (a.l.take a.p.inst.toNat)):=by
  rw[hh,zf];have e:(0:Int)<=h:=om
  have e3:(a.l.map aa2.cs).all (λe=>e.length==15)=true:=by
   rw[List.all_eq_true];intro e he;obtain ⟨p,_,rfl⟩:=zs.1 he;rfl
  have e4:(0:Nat)<=h/\h<=(a.l.map aa2.cs).length/\(a.l.map aa2.cs).all (λe=>e.length==15)=true:=⟨zr _,by rw[zj];exact hle,e3⟩;simp only[dk9,cw3,es7,e,if_true,zf];rw[if_pos e4,List.drop_zero,<- List.map_take]
 simp only[go_sem,k1,k2,ar6,df7,ij5,ka5,ij6,ij7,ac2,hsl];refine aa4 fok79 (hT) ?_;simp only[go_sem];exact .keep _ (aw5 _)
theorem fb2 (a:ab3)(hA:AOK a)(j:Int):(a.meant j).length<=256:=by
 have hl:=hA.len;unfold ab3.meant;split
 ·split
  ·exact zp (ae5 _ _) hl
  ·split
   ·exact zp (ae5 _ _) hl
   ·exact zp (qq _ _) (zp (ae5 _ _) hl)
 ·exact zr _
open Go Go.Id Go.Proofs Go.Shelf Go.Id.Md
theorem iv6 {s:Store}{gv:IV}{L:List (List Int)}(h:Grow s gv 1 (L.map clE)):cb5 s 0 gv (ba5 L):=
 h.frz (λx hx=>(cv4 _ x hx).1) (λ_ _=>zl _) λe he c hc=>by
  obtain ⟨y,_,rfl⟩:=zs.1 he;exact fj7 y c hc
theorem cz4 (l:List Int)(hl:l.length<2^30)(hr:∀x∈l,-(2^40)<=x/\x<=2^40):Pq 38 [.aa3 (l.map Md.ae1)] (.aa3 ((upL l).map Md.ae1)):=by
 refine ea6 λσ=>?_
 refine C_f fok38 (nZ rfl) ?_;simp only[ic38,go_sem];refine ab1 noT (λi fr s=>∃gv,fr=[(0,.aa3 (l.map Md.ae1)),(3,gv),(4,.int .i64 (i:Int))]/\Kept σ s/\ai4 s σ.next gv (upL (l.take i))) l.length ⟨.aa1,rfl,Kept.refl σ,.inl ⟨rfl,rfl⟩⟩ ?_;rintro i fr s hle ⟨gv,rfl,hk,hg⟩;by_cases hlt:i<l.length
 ·obtain ⟨n,hn,_,hdr,hget,htk⟩:=ad2 l i hlt;have c1:(i:Int)<l.length:=om;have c2:(0:Int)<=i:=om;have w1:=ac3 (i:=i) om;have hlen:(upL (l.take i)).length<=i:=by unfold upL;rw[zj,zh];omega
  have hap:=az9 (nid:=s.next) (hg.up 1) (n+1) om;have e:upL (l.take (i+1))=upL (l.take i)++[n+1]:=by rw[htk];unfold upL;rw[zk];rfl
  have hn2:=hr n hn;have wm:IntKind.wrap .i64 (n+1)=n+1:=wrap64 om om;simp only[go_sem,c1,c2,hget,Md.ae1,wm,hap,w1,e];have hz:=bb2 hk hg (n+1) (a:=1) (nid:=s.next) (ze _) (z1 _) rfl;exact ⟨hlt,_,rfl,hz.1,hz.2⟩
 ·have hi':i=l.length:=om;subst hi';have c1:¬(l.length:Int)<l.length:=om;rw[zy] at hg;simp only[go_sem,c1];exact ⟨hk,hg⟩
theorem ef5 (a:ab3)(x:Itm)(hk:x.kind=1\/x.kind=5\/x.kind=6)(hA:AOK a)(hp:0<=x.p/\x.p<1000)(hq:0<=x.q/\x.q<1000):Pq 16 [a.dv,.agg x.cs] (ba5 (a.an6 x)):=by
 refine af4 hE fok16 (nZ rfl) (ah6 (aw4 a) (.agg _ (bm8 x))) ?_;have hS:=bd7 a hA x.p;have hO:=cz4 (a.an4 x.p) (by have:=az6 a x.p;have:=hA.len;omega) (bb8 hA ab3.aw2);have w1:IntKind.wrap .i64 (x.p+1)=x.p+1:=wrap64 om om;have w2:IntKind.wrap .i64 (0-(x.p+1))=-(x.p+1):=by rw[wrap64 om om];omega
 have w3:IntKind.wrap .i64 (x.q+1)=x.q+1:=wrap64 om om;have w4:IntKind.wrap .i64 (0-(x.q+1))=-(x.q+1):=by rw[wrap64 om om];omega
 have n51:¬(5:Int)=1:=by decide
 have n54:¬(5:Int)=4:=by decide
 have n61:¬(6:Int)=1:=by decide
 have n64:¬(6:Int)=4:=by decide
 have n65:¬(6:Int)=5:=by decide
 have hb:Bnd 0 (ba5 (a.an6 x)):=bg9 _;rw[fp1];rcases hk with hk|hk|hk
 ·have e:a.an6 x=[[-(x.p+1)]]:=by unfold ab3.an6;rw[if_pos hk];rfl
  rw[e] at hb ⊢;simp only[ic16,go_sem,hk,w1,w2];exact .keep _ hb
 ·have e:a.an6 x=[[-(x.p+1),-(x.q+1)]]:=by unfold ab3.an6;rw[hk];rfl
  rw[e] at hb ⊢;simp only[ic16,go_sem,hk,w1,w2,w3,w4,n51,n54];exact .keep _ hb
 ·have e:a.an6 x=[upL (a.an4 x.p)]:=by unfold ab3.an6;rw[hk];rfl
  rw[e] at hb ⊢;simp only[ic16,go_sem,hk,n61,n64,n65,gy6,ed8];refine aa4 fok39 (hS) ?_;simp only[go_sem];refine aa4 fok38 (hO) ?_;simp only[go_sem];exact .keep _ hb
theorem im7 (a:ab3)(hA:AOK a)(p q:Nat)(hp:p<a.l.length)(hq:q<(a.pk p).aa7.length):Pq 16 [a.dv,.agg (⟨4,p,q⟩:Itm).cs] (ba5 (a.an6 ⟨4,p,q⟩)):=by
 refine af4 hE fok16 (nZ rfl) (ah6 (aw4 a) (.agg _ (bm8 _))) ?_;have hlen:=hA.len;have hsm:=hA.small _ (cg3 a hp);have hdm:a.bx9 ⟨4,p,q⟩∈(a.pk p).aa7:=getD_in _ hq;have hds:Dep.small (a.bx9 ⟨4,p,q⟩):=hsm.2.2.1 _ hdm;have gP:=bf7 a hp;have g9:((a.pk p).cs.drop 9).head? = zg (deps (a.pk p).aa7):=rfl;have hda:=it8 (a.pk p).aa7 hq;have hde:(a.pk p).aa7.getD q default=a.bx9 ⟨4,p,q⟩:=rfl;rw[hde] at hda;have hcl:a.an6 ⟨4,p,q⟩=(bz9 (ak9 (λn=>named (a.pk n) (a.bx9 ⟨4,p,q⟩)) a.l.length) p).map λn=>noL [(p:Int),n]:=rfl
 rw[hcl];have hnm:=λn h=>bk1 (a.pk n) (a.bx9 ⟨4,p,q⟩) (hA.small _ (cg3 a h)) hds
 generalize a.bx9 ⟨4,p,q⟩=D at *;generalize hQ:(λn:Nat=>named (a.pk n) D)=Q;have hQn:∀n:Nat,Q n=named (a.pk n) D:=λn=>by rw[<- hQ]
 have e1:(0:Int)<=(p:Int):=om;have e2:(p:Int)<a.l.length:=om;have e3:(0:Int)<=(q:Int):=om;have e4:(q:Int)<(a.pk p).aa7.length:=om;have n41:¬(4:Int)=1:=by decide
 have w1:IntKind.wrap .i64 ((p:Int)+1)=(p:Int)+1:=wrap64 om om;have w2:IntKind.wrap .i64 (0-((p:Int)+1))=-((p:Int)+1):=by rw[wrap64 om om];omega
 have hxc:(⟨4,p,q⟩:Itm).cs=[.int .u8 4,.int .i64 p,.int .i64 q]:=rfl;rw[hxc];simp only[ic16,go_sem,n41];refine ab1 noT (λi fr s=>∃gv,fr=[(0,a.dv),(3,.ab8 [.int .u8 4,.int .i64 p,.int .i64 q]),(5,gv),(6,.int .i64 (i:Int))]/\Kept ⟨0,emp.obj⟩ s/\Grow s gv 1 (((bz9 (ak9 Q i) p).map λn=>noL [(p:Int),n]).map clE)) a.l.length ⟨.aa1,rfl,Kept.refl _,.inl ⟨rfl,rfl⟩⟩ ?_;rintro i fr s hle ⟨gv,rfl,hk,hg⟩;by_cases hlt:i<a.l.length
 ·have d1:(i:Int)<a.l.length:=om;have d2:(0:Int)<=(i:Int):=om;have hi31:i<2147483648:=om;have wi:=ac3 (i:=i) om;have gN:=bf7 a hlt;have hsn:=ax7 Q i;have hln:=ao4 Q i;have hbl:=cs3 (ak9 Q i) p;by_cases e:i=p
  ·subst e
   have hbu:bz9 (ak9 Q (i+1)) i=bz9 (ak9 Q i) i:=by
    rw[hsn]
    cases Q i with
    | false=>simp
    | true=>rw[if_pos rfl,ef9,if_pos rfl,zb]
   simp only[go_sem,ac9,ar6,ac2,d1,wi];exact ⟨hlt,gv,rfl,hk.up _,by rw[hbu];exact hg.mono (zi _ _) λ_ _ _=>rfl⟩
  ·have ei:¬(i:Int)=p:=om;have hN:=hnm i hlt;rw[<- hQn] at hN;simp only[go_sem,ac9,ar6,ac2,d1,d2,ei,gN,gP,e1,e2,e3,e4,g9,hda,zf,af7,ae8,ac7,ah4,ag7,af9,ai8,ag8,af8];refine aa4 fok37 (hN) ?_
   cases hq:Q i with
   | false=>
    rw[hq,if_neg (by simp),zb] at hsn;simp only[go_sem,wi]
    exact ⟨hlt,gv,rfl,hk.up _,by rw[hsn];exact hg.mono (zi _ _) λ_ _ _=>rfl⟩
   | true=>
    rw[hq,if_pos rfl] at hsn;have wn:IntKind.wrap .i64 ((i:Int)+1)=(i:Int)+1:=wrap64 om om;have wm:IntKind.wrap .i64 (0-((i:Int)+1))=-((i:Int)+1):=by rw[wrap64 om om];omega
    obtain ⟨g1,g2,g3,_⟩:=fj6 (σ:=⟨0,emp.obj⟩) (nid:=s.next+27) (k:=1) (e:=clE (noL [(p:Int),(i:Int)])) (hk.up 27) (hg.mono (zi _ _) λ_ _ _=>rfl) (λ_ _ _=>zr _) (cv4 _) ⟨rfl,rfl⟩ (by rw[zj,zj];exact qc hbl (qc hln hi31)) (ze _) (z1 _);have hbe:((bz9 (ak9 Q (i+1)) p).map λn=>noL [(p:Int),n]).map clE=((bz9 (ak9 Q i) p).map λn=>noL [(p:Int),n]).map clE++[clE (noL [(p:Int),(i:Int)])]:=by rw[hsn,ef9,if_neg ei,zk,zk];rfl
    have hce:clE (noL [(p:Int),(i:Int)])=[.aa3 [[.int .i64 (-((p:Int)+1))],[.int .i64 (-((i:Int)+1))]]]:=rfl;generalize ((bz9 (ak9 Q i) p).map λn=>noL [(p:Int),n]).map clE=es at *;rw[hce] at g1 g2 g3 hbe;simp only[go_sem,w1,w2,wn,wm,g1,wi];exact ⟨hlt,_,rfl,g2,by rw[hbe];exact g3⟩
 ·have hi':i=a.l.length:=om;subst hi';have d1:¬(a.l.length:Int)<a.l.length:=om;simp only[go_sem,ac9,ar6,ac2,d1];exact iv6 hg
theorem im8 (a:ab3)(hA:AOK a)(hp:0<=a.p.inst)(j:Nat)(hj:j<a.r.af2.length):Pq 16 [a.dv,.agg (⟨7,j,0⟩:Itm).cs] (ba5 (a.cr9 j)):=by
 refine af4 hE fok16 (nZ rfl) (ah6 (aw4 a) (.agg _ (bm8 _))) ?_;have hMe:=ge8 a hA hp j;have hlen:=hA.len;have hml:=fb2 a hA j;have hma:∀n∈a.meant j,-(2^40)<=n/\n<=2^40:=bb8 hA ab3.bq8;have hS:=λn=>bd7 a hA n
 have hOS:=λn=>cz4 (a.an4 n) (by have:=az6 a n;omega) (bb8 hA ab3.aw2)
 have hN:=λn=>dk4 a hA n
 have hON:=λn=>cz4 (a.bx7 n) (by have:=ec2 a n;omega) (bb8 hA λm hm=>ab3.aw2 m (a.ec1 hm).1)
 have d1:(0:Int)<=(j:Int):=om;have d2:(j:Int)<a.r.af2.length:=om;have gj:=ed9 a hj;have hkd:=hA.kj2 _ (jf6 a hj);have hxc:(⟨7,j,0⟩:Itm).cs=[.int .u8 7,.int .i64 j,.int .i64 0]:=rfl;have n71:¬(7:Int)=1:=by decide
 have n74:¬(7:Int)=4:=by decide
 have n75:¬(7:Int)=5:=by decide
 have n76:¬(7:Int)=6:=by decide
 rw[hxc];by_cases k1:(a.jb j).kind=1
 ·have e:a.cr9 j=[upL (a.meant j)]:=by unfold ab3.cr9;rw[if_pos k1]
  have hO:=cz4 (a.meant j) om hma;have hb:Bnd 0 (ba5 (a.cr9 j)):=bg9 _;rw[e] at hb ⊢;generalize a.meant j=L at *;generalize a.jb j=jv at *;simp only[ic16,go_sem,n71,n74,n75,n76];refine aa4 fok40 (hMe) ?_;simp only[go_sem,ac9,ct1,al3,as5,d1,d2,gj,ij5,ij6,ac2,k1];refine aa4 fok38 (hO) ?_;simp only[go_sem];exact .keep _ hb
 rw[a.dw7 j k1];have hJl:=a.fp3 (a.jb j).kind;have hF:∀n,a.hm6 (a.jb j).kind n=if (a.jb j).kind=3 then [upL (a.an4 n)] else if (a.jb j).kind=4 then (if 0<(a.bx7 n).length then [upL (a.bx7 n)] else []) else [noL [n]]:=λn=>rfl
 generalize a.hm6 (a.jb j).kind=F at *;generalize a.meant j=mt at *;generalize a.jb j=J at *;have hcl:∀q,clE q=[.aa3 (q.map Md.ae1)]:=λ_=>rfl
 have push:=λ{s:Store} {gv:IV} {es:List (List Int)} (q:List Int) (hk:Kept ⟨0,emp.obj⟩ s) (hg:Grow s gv 1 (es.map clE)) (hl:es.length<=256)=>fj6 (nid:=s.next) (k:=1) (e:=clE q) hk hg (λ_ _ _=>zr _) (cv4 _) ⟨rfl,rfl⟩ (by rw[zj];omega) (ze _) (z1 _)
 have hbe:∀(i:Nat) q,(mt.take (i+1)).flatMap F=(mt.take i).flatMap F++[q]->((mt.take (i+1)).flatMap F).map clE=((mt.take i).flatMap F).map clE++[clE q]:=λi q e=>by rw[e,zk];rfl
 have hbl:∀i,((mt.take i).flatMap F).length<=256:=λi=>zp (hJl _) (by rw[zh];omega)
 have hfr:∀ {s:Store} {gv:IV},Grow s gv 1 (((mt.take mt.length).flatMap F).map clE)->cb5 s 0 gv (ba5 (mt.flatMap F)):=λh=>iv6 (by rw[zy] at h;exact h)
 simp only[ic16,go_sem,n71,n74,n75,n76];refine aa4 fok40 (hMe) ?_;simp only[go_sem,ac9,ct1,al3,as5,d1,d2,gj,ij5,ij6,ac2,k1];rw[<- ac9];by_cases k2:J.kind=2
 ·have n23:¬(2:Int)=3:=by decide
  have n24:¬(2:Int)=4:=by decide
  simp only[go_sem,k2];refine ab1 noT (λi fr s=>∃gv,fr=[(5,gv),(7,.aa3 (mt.map Md.ae1)),(8,.int .i64 (i:Int))]/\Kept ⟨0,emp.obj⟩ s/\Grow s gv 1 (((mt.take i).flatMap F).map clE)) mt.length ⟨.aa1,rfl,⟨zr _,λ_ h=>absurd h (zl _)⟩,.inl ⟨rfl,rfl⟩⟩ ?_;rintro i fr s hle ⟨gv,rfl,hk,hg⟩;by_cases hlt:i<mt.length
  ·obtain ⟨n,hn,_,hdr,hget,htk⟩:=ad2 mt i hlt;have c1:(i:Int)<mt.length:=om;have c2:(0:Int)<=i:=om;have w1:=ac3 (i:=i) om;have hn2:=hma n hn;have w2:IntKind.wrap .i64 (n+1)=n+1:=wrap64 om om;have w3:IntKind.wrap .i64 (0-(n+1))=-(n+1):=by rw[wrap64 om om];omega
   have hfl:(mt.take (i+1)).flatMap F=(mt.take i).flatMap F++[noL [n]]:=by rw[htk,qa,qe,qf,zb,hF,k2,if_neg n23,if_neg n24]
   obtain ⟨g1,g2,g3,_⟩:=push (noL [n]) hk hg (hbl i);have hbe:=hbe i _ hfl;have hce:clE (noL [n])=[.aa3 [[.int .i64 (-(n+1))]]]:=rfl;rw[hce] at g1 g2 g3 hbe;generalize ((mt.take i).flatMap F).map clE=es at *;simp only[go_sem,c1,c2,hget,Md.ae1,w2,w3,g1,w1];exact ⟨hlt,_,rfl,g2,by rw[hbe];exact g3⟩
  ·have hi':i=mt.length:=om;subst hi';have c1:¬(mt.length:Int)<mt.length:=om;simp only[go_sem,c1];exact hfr hg
 by_cases k3:J.kind=3
 ·simp only[go_sem,k2,k3];refine ab1 noT (λi fr s=>∃gv,fr=[(0,a.dv),(5,gv),(7,.aa3 (mt.map Md.ae1)),(9,.int .i64 (i:Int))]/\Kept ⟨0,emp.obj⟩ s/\Grow s gv 1 (((mt.take i).flatMap F).map clE)) mt.length ⟨.aa1,rfl,⟨zr _,λ_ h=>absurd h (zl _)⟩,.inl ⟨rfl,rfl⟩⟩ ?_;rintro i fr s hle ⟨gv,rfl,hk,hg⟩;by_cases hlt:i<mt.length
  ·obtain ⟨n,hn,_,hdr,hget,htk⟩:=ad2 mt i hlt;have c1:(i:Int)<mt.length:=om;have c2:(0:Int)<=i:=om;have w1:=ac3 (i:=i) om;have hfl:(mt.take (i+1)).flatMap F=(mt.take i).flatMap F++[upL (a.an4 n)]:=by rw[htk,qa,qe,qf,zb,hF,if_pos k3]
   obtain ⟨g1,g2,g3,_⟩:=push (upL (a.an4 n)) hk hg (hbl i);have hbe:=hbe i _ hfl;have hS:=hS n;have hOS:=hOS n;rw[hcl] at g1 g2 g3 hbe;generalize ((mt.take i).flatMap F).map clE=es at *;generalize a.an4 n=ss at *;generalize (upL ss).map Md.ae1=nv at *;simp only[go_sem,c1,c2,hget,Md.ae1];refine aa4 fok39 (hS) ?_;simp only[go_sem];refine aa4 fok38 (hOS) ?_;simp only[go_sem,g1,w1];exact ⟨hlt,_,rfl,g2,by rw[hbe];exact g3⟩
  ·have hi':i=mt.length:=om;subst hi';have c1:¬(mt.length:Int)<mt.length:=om;simp only[go_sem,c1];exact hfr hg
 have k4:J.kind=4:=om;have n43:¬(4:Int)=3:=by decide
 simp only[go_sem,k2,k3,k4];refine ab1 noT (λi fr s=>∃gv,fr=[(0,a.dv),(5,gv),(7,.aa3 (mt.map Md.ae1)),(10,.int .i64 (i:Int))]/\Kept ⟨0,emp.obj⟩ s/\Grow s gv 1 (((mt.take i).flatMap F).map clE)) mt.length ⟨.aa1,rfl,⟨zr _,λ_ h=>absurd h (zl _)⟩,.inl ⟨rfl,rfl⟩⟩ ?_;rintro i fr s hle ⟨gv,rfl,hk,hg⟩;by_cases hlt:i<mt.length
 ·obtain ⟨n,hn,_,hdr,hget,htk⟩:=ad2 mt i hlt;have c1:(i:Int)<mt.length:=om;have c2:(0:Int)<=i:=om;have w1:=ac3 (i:=i) om;have hN:=hN n;have hON:=hON n;have hfl:(mt.take (i+1)).flatMap F=(mt.take i).flatMap F++if 0<(a.bx7 n).length then [upL (a.bx7 n)] else []:=by rw[htk,qa,qe,qf,zb,hF,k4,if_neg n43,if_pos rfl]
  by_cases hz:0<(a.bx7 n).length
  ·rw[if_pos hz] at hfl;obtain ⟨g1,g2,g3,_⟩:=push (upL (a.bx7 n)) hk hg (hbl i);have hbe:=hbe i _ hfl;have c3:(0:Int)<(a.bx7 n).length:=om;rw[hcl] at g1 g2 g3 hbe;generalize ((mt.take i).flatMap F).map clE=es at *;generalize a.bx7 n=ss at *;generalize (upL ss).map Md.ae1=nv at *;simp only[go_sem,c1,c2,hget,Md.ae1];refine aa4 fok41 (hN) ?_;simp only[go_sem,c3];refine aa4 fok38 (hON) ?_;simp only[go_sem,g1,w1];exact ⟨hlt,_,rfl,g2,by rw[hbe];exact g3⟩
  ·rw[if_neg hz,zb] at hfl;have c3:¬(0:Int)<(a.bx7 n).length:=om;generalize a.bx7 n=ss at *;simp only[go_sem,c1,c2,hget,Md.ae1];refine aa4 fok41 (hN) ?_;simp only[go_sem,c3,w1];exact ⟨hlt,gv,rfl,hk,by rw[hfl];exact hg⟩
 ·have hi':i=mt.length:=om;subst hi';have c1:¬(mt.length:Int)<mt.length:=om;simp only[go_sem,c1];exact hfr hg
theorem jh7 (a:ab3)(hA:AOK a)(hp:0<=a.p.inst){x:Itm}(hx:a.Has x)(h:¬(x.kind=2\/x.kind=3)):Pq 16 [a.dv,.agg x.cs] (ba5 (a.an6 x)):=by
 have hlen:=hA.len
 cases hx with
 | ap7 p _ _=>exact ef5 a _ (.inl rfl) hA ⟨zw _,by show ((p:Nat):Int)<1000;omega⟩ ⟨Int.le_refl 0,by show (0:Int)<1000;decide⟩
 | need=>exact absurd (.inl rfl) h
 | clash=>exact absurd (.inr rfl) h
 | over p q hp hq=>exact im7 a hA p q hp hq
 | twin p q _ _=>exact ef5 a _ (.inr (.inl rfl)) hA ⟨zw _,by show ((p:Nat):Int)<1000;omega⟩ ⟨zw _,by show ((q:Nat):Int)<1000;omega⟩
 | keep p _ _=>
  have hil:=hA.inst
  exact ef5 a _ (.inr (.inr rfl)) hA ⟨zw _,by show ((p:Nat):Int)<1000;omega⟩ ⟨Int.le_refl 0,by show (0:Int)<1000;decide⟩
 | job j hj=>exact im8 a hA hp j hj
theorem fo5 (l:List Itm){i:Nat}(h:i<l.length):(l.map Itm.cs).getD i []=l[i].cs:=by
 simp[za,h]
theorem hk7 (l m:List Itm)(hl:l.length<2^62)(hm:m.length<2^62):Pq 8 [aj5 l,aj5 m] (.bool (decide (l=m))):=by
 refine af4 hE fok8 (nZ rfl) (ah6 (as7 l) (as7 m)) ?_;have il:∀l:List Itm,∀σ:Store,cc2 0 σ (aj5 l)=zg (.int .i64 l.length):=λl σ=>by unfold aj5;simp only[go_sem]
 by_cases hn:l.length=m.length
 case neg=>
  have e:¬(l.length:Int)=m.length:=om
  have e2:decide (l=m)=false:=by
   rw[decide_eq_false_iff_not];intro h;exact hn (by rw[h])
  rw[e2];simp only[ic8,go_sem,il,e];exact ab6 rfl
 have e:(l.length:Int)=m.length:=om;simp only[ic8,go_sem,il,e];refine ab1 noT (λi fr s=>fr=[(0,aj5 l),(1,aj5 m),(5,.int .i64 (i:Int))]/\l.take i=m.take i) l.length ⟨rfl,rfl⟩ ?_;rintro i fr s hi ⟨rfl,ht⟩;by_cases hlt:i<l.length
 ·have c1:(i:Int)<l.length:=om;have c2:(0:Int)<=(i:Int):=om;have c3:(i:Int)<m.length:=om;have w1:=ac3 (i:=i) om;have g1:=fo5 l hlt;have g2:=fo5 m (i:=i) om;simp only[go_sem,aj5,c1,c2,c3,g1,g2,bm7,bj7,is4];by_cases hq:l[i]=m[i]'om
  ·simp only[hq,go_sem,w1];refine ⟨hlt,?_⟩;rw[qd,qd,ht,zv hlt,zv om,hq]
  ·have e2:decide (l=m)=false:=by
    rw[decide_eq_false_iff_not];intro h;subst h;exact hq rfl
   rw[e2];simp only[hq,go_sem];exact ab6 rfl
 ·have c1:¬(i:Int)<l.length:=om;rw[zx om,zx om] at ht;subst ht;simp only[go_sem,il,c1];exact ab6 (by simp)
abbrev GI (s:Store)(v:IV)(xs:List Itm):Prop:=Grow s v 3 (xs.map Itm.cs)
theorem hk8 (xs:List Itm):∀e∈xs.map Itm.cs,e.length=3/\e.all IV.leaf=true:=λe he=>by
 obtain ⟨x,_,rfl⟩:=zs.1 he;exact ⟨rfl,rfl⟩
theorem jw8 {t:Store}{gv:IV}{l:List Itm}(hg:GI t gv l):cb5 t 0 gv (aj5 l):=
 hg.frz (λx hx=>(hk8 _ x hx).1) (λ_ _=>zl _) λe he c hc=>by
  obtain ⟨n,_,rfl⟩:=zs.1 he;exact bm8 n c hc
theorem ca8 {t:Store}{gv:IV}(xs:List Itm)(x:Itm)(k m:Nat)(hg:GI t gv xs)(hl:xs.length<2^30)(hk:k<m) :
  ∃v' σ',as2 ⟨t.next+m,t.obj⟩ (t.next+k) 3 gv (.aa3 [x.cs])=zg (v',σ')/\σ'.next=t.next+m/\GI σ' v' (xs++[x])/\v'.leaf=true/\v'.cs=[v']/\∀i cs,i<t.next->t.obj i=zg (.cells cs)->σ'.obj i=zg (.cells cs):=by
 have hg2:Grow ⟨t.next+m,t.obj⟩ gv 3 (xs.map Itm.cs):=hg.mono (zi _ _) λ_ _ _=>rfl
 have hap:=ai2 (nid:=t.next+k) (e:=x.cs) hg2 (hk8 xs) ⟨rfl,rfl⟩ (by rw[zj];omega);have kn:(ae9 gv (⟨t.next+m,t.obj⟩:Store)).next=t.next+m:=ab7 gv;refine ⟨_,_,hap,by rw[aa8,kn],?_,rfl,rfl,λi cs hi ho=>?_⟩
 ·show Grow _ _ 3 ((xs++[x]).map Itm.cs);rw[zk];exact .inr ⟨t.next+k,by rw[zd];rfl,by simp only[aa5,if_true];rfl,by rw[aa8,kn];show t.next+k<t.next+m;omega⟩
 ·rw[aa5,if_neg om];exact af5 hg2 i _ ho λ_ e=>by cases e
theorem gh2 (a:ab3)(hA:AOK a)(hI:0<=a.p.inst)(hIt:a.items.length<2^30):Pq 9 [a.dv] (aj5 a.items):=by
 refine jq1 hE fok9 (nZ rfl) (ak1 (aw4 a)) ?_;have hlen:=hA.len;have hjl:=hA.af2;have hil:=hA.inst;simp only[ic9,go_sem];refine ab9 (ad6 ?_);simp only[go_sem];refine ab9 (ad6 ?_);simp only[go_sem];have x1:∀(p k:Int) (q:Int),(⟨k,p,q⟩:Itm).cs=[.int .u8 k,.int .i64 p,.int .i64 q]:=λ_ _ _=>rfl
 -- what each package has of its own
 refine ab9 (ab9 (ad6 ?_));simp only[go_sem]
 refine ai3 (an3 (Q:=λe f s=>e=.exit 0/\∃gv rst,f=(0,a.dv)::(3,gv)::rst/\GI s gv (a.owns a.l.length))
  (av5 (λp fr s=>∃gv,fr=[(0,a.dv),(3,gv),(4,.int .i64 (p:Int))]/\GI s gv (a.owns p)) a.l.length ⟨.aa1,rfl,.inl ⟨rfl,rfl⟩⟩ ?_) ?_)
 ·rintro p fr t hp ⟨gv,rfl,hg⟩;refine ab9 (ad6 ?_);by_cases hpl:p<a.l.length
  case neg=>
   have hp':p=a.l.length:=om;subst hp';have c1:¬(a.l.length:Int)<a.l.length:=om;simp only[go_sem,ac9,ar6,c1,ac2];exact ⟨gv,_,rfl,hg⟩
  have c1:(p:Int)<a.l.length:=om;have c2:(0:Int)<=(p:Int):=om;have w1:=ac3 (i:=p) om;have gp:=bf7 a hpl;simp only[go_sem,ac9,ar6,c1,ac2];refine ab9 (ai3 (ab9 (ad6 ?_)));simp only[go_sem,ar6,c1,c2,gp,ac2,af7,ae8,ac7,ah4,ag7,af9];generalize hT:Store.put _ t.next (aj2.cells (a.pk p).cs)=T;have Tn:T.next=t.next+1:=by rw[<- hT];rfl
  have To:∀i,i<t.next->T.obj i=t.obj i:=λi hi=>by
   have:¬i=t.next:=om;rw[<- hT];simp only[aa5,this,if_false]
  have Tb:T.obj t.next=zg (.cells (a.pk p).cs):=by rw[<- hT];simp only[aa5,if_true]
  have hgT:GI T gv (a.owns p):=hg.mono om λi _ hi=>To i hi
  have hfit:=eo6 a p;rw[<- ac9];refine ab9 (an3 (Q:=λe f s=>e=.normal/\∃gv rst,f=(0,a.dv)::(3,gv)::(4,.int .i64 (p:Int))::(5,.ptr t.next 0)::rst/\t.next<s.next/\s.obj t.next=zg (.cells (a.pk p).cs)/\GI s gv (a.owns p++a.aw7 p)) (ad6 ?_) ?_)
  ·simp only[go_sem];refine aa4 fok30 (hfit) ?_
   cases hf:a.fits p with
   | true=>
    have e:a.aw7 p=[]:=by unfold ab3.aw7;rw[hf];rfl
    simp only[go_sem]
    exact ⟨gv,_,rfl,om,Tb,by rw[e,zb];exact hgT⟩
   | false=>
    have e:a.aw7 p=[⟨1,p,0⟩]:=by unfold ab3.aw7;rw[hf];rfl
    obtain ⟨v',σ',h1,h2,h3,h4,h5,h6⟩:=ca8 (a.owns p) ⟨1,p,0⟩ 0 1 hgT (by have:=a.fi3 hpl;omega) om;have h1':as2 ({ next:=T.next+1,obj:=T.obj }:Store) T.next 3 gv (.aa3 [[.int .u8 1,.int .i64 (p:Int),.int .i64 0]])=zg (v',σ'):=h1;simp only[go_sem,h1',h4,h5];exact ⟨v',_,rfl,om,h6 _ _ om Tb,by rw[e];exact h3⟩
  clear hgT hT Tn To Tb T hg;rintro e f T ⟨rfl,gv,rst,rfl,Tn,Tb,hg⟩;simp only[go_sem];have g7:((a.pk p).cs.drop 7).head? = zg (ap8 (a.pk p).requires):=rfl;have g8:((a.pk p).cs.drop 8).head? = zg (ap8 (a.pk p).conflicts):=rfl;have g9:((a.pk p).cs.drop 9).head? = zg (deps (a.pk p).aa7):=rfl;refine ab9 (ab9 (ad6 ?_));simp only[go_sem]
  refine ai3 (an3 (Q:=λe f s=>e=.exit 2/\∃gv rst,f=(0,a.dv)::(3,gv)::(4,.int .i64 (p:Int))::(5,.ptr t.next 0)::rst/\t.next<s.next/\s.obj t.next=zg (.cells (a.pk p).cs)/\GI s gv (a.owns p++a.aw7 p++a.ci7 p 1))
   (av5 (λq fr s=>∃gv,fr=[(0,a.dv),(3,gv),(4,.int .i64 (p:Int)),(5,.ptr t.next 0),(6,.int .i64 (q:Int))]/\t.next<s.next/\s.obj t.next=zg (.cells (a.pk p).cs)/\GI s gv (a.owns p++a.aw7 p++a.ci7 p 0++bd3 ((2+0:Nat):Int) p q)) (a.nsI p 0) ⟨gv,rfl,Tn,Tb,by simpa [bd3,ab3.ci7] using hg⟩ ?_) ?_)
  ·clear hg Tb Tn;rintro q fr u hq ⟨gv,rfl,un,ub,hg⟩;refine ad6 ?_;have hns:a.nsI p 0=(a.pk p).requires.length:=rfl;by_cases hlt:q<a.nsI p 0
   ·have d1:(q:Int)<(a.pk p).requires.length:=om;have hb:=a.bq6 hpl (j:=0) om (qo hlt);have w2:=ac3 (i:=q) (by have:=a.bq6 hpl (j:=0) om (ze (a.nsI p 0));rw[zd,ab3.aw1] at this;omega);obtain ⟨v',σ',h1,h2,h3,h4,h5,h6⟩:=ca8 _ ⟨2,p,q⟩ 0 1 hg om om;have h1':as2 ({ next:=u.next+1,obj:=u.obj }:Store) u.next 3 gv (.aa3 [[.int .u8 2,.int .i64 (p:Int),.int .i64 (q:Int)]])=zg (v',σ'):=h1;simp only[go_sem,ub,g7,d1,h1',h4,h5,w2];exact ⟨hlt,v',rfl,om,h6 _ _ un ub,by rw[bw4,<- zc];exact h3⟩
   ·have hq':q=a.nsI p 0:=om;subst hq';have d1:¬(((a.pk p).requires.length:Nat):Int)<(a.pk p).requires.length:=om;simp only[go_sem,ub,g7,hns,d1];refine ⟨gv,_,rfl,un,?_⟩;rw[a.ao5,<- zc];exact hg
  clear hg Tb Tn rst gv T;rintro e f T ⟨rfl,gv,rst,rfl,Tn,Tb,hg⟩;simp only[go_sem];refine ab9 (ab9 (ad6 ?_));simp only[go_sem]
  refine ai3 (an3 (Q:=λe f s=>e=.exit 4/\∃gv rst,f=(0,a.dv)::(3,gv)::(4,.int .i64 (p:Int))::(5,.ptr t.next 0)::rst/\t.next<s.next/\s.obj t.next=zg (.cells (a.pk p).cs)/\GI s gv (a.owns p++a.aw7 p++a.ci7 p 2))
   (av5 (λq fr s=>∃gv,fr=[(0,a.dv),(3,gv),(4,.int .i64 (p:Int)),(5,.ptr t.next 0),(7,.int .i64 (q:Int))]/\t.next<s.next/\s.obj t.next=zg (.cells (a.pk p).cs)/\GI s gv (a.owns p++a.aw7 p++a.ci7 p 1++bd3 ((2+1:Nat):Int) p q)) (a.nsI p 1) ⟨gv,rfl,Tn,Tb,by simpa [bd3,ab3.ci7] using hg⟩ ?_) ?_)
  ·clear hg Tb Tn;rintro q fr u hq ⟨gv,rfl,un,ub,hg⟩;refine ad6 ?_;have hns:a.nsI p 1=(a.pk p).conflicts.length:=rfl;by_cases hlt:q<a.nsI p 1
   ·have d1:(q:Int)<(a.pk p).conflicts.length:=om;have hb:=a.bq6 hpl (j:=1) om (qo hlt);have w2:=ac3 (i:=q) (by have:=a.bq6 hpl (j:=1) om (ze (a.nsI p 1));rw[zd,ab3.aw1] at this;omega);obtain ⟨v',σ',h1,h2,h3,h4,h5,h6⟩:=ca8 _ ⟨3,p,q⟩ 0 1 hg om om;have h1':as2 ({ next:=u.next+1,obj:=u.obj }:Store) u.next 3 gv (.aa3 [[.int .u8 3,.int .i64 (p:Int),.int .i64 (q:Int)]])=zg (v',σ'):=h1;simp only[go_sem,ub,g8,d1,h1',h4,h5,w2];exact ⟨hlt,v',rfl,om,h6 _ _ un ub,by rw[bw4,<- zc];exact h3⟩
   ·have hq':q=a.nsI p 1:=om;subst hq';have d1:¬(((a.pk p).conflicts.length:Nat):Int)<(a.pk p).conflicts.length:=om;simp only[go_sem,ub,g8,hns,d1];refine ⟨gv,_,rfl,un,?_⟩;rw[a.ao5,<- zc];exact hg
  clear hg Tb Tn rst gv T;rintro e f T ⟨rfl,gv,rst,rfl,Tn,Tb,hg⟩;simp only[go_sem];refine ab9 (ad6 ?_);simp only[go_sem]
  refine ai3 (an3 (Q:=λe f s=>e=.exit 6/\∃gv rst,f=(0,a.dv)::(3,gv)::(4,.int .i64 (p:Int))::(5,.ptr t.next 0)::rst/\t.next<s.next/\s.obj t.next=zg (.cells (a.pk p).cs)/\GI s gv (a.owns p++a.aw7 p++a.ci7 p 3))
   (av5 (λq fr s=>∃gv,fr=[(0,a.dv),(3,gv),(4,.int .i64 (p:Int)),(5,.ptr t.next 0),(8,.int .i64 (q:Int))]/\t.next<s.next/\s.obj t.next=zg (.cells (a.pk p).cs)/\GI s gv (a.owns p++a.aw7 p++a.ci7 p 2++bd3 ((2+2:Nat):Int) p q)) (a.nsI p 2) ⟨gv,rfl,Tn,Tb,by simpa [bd3,ab3.ci7] using hg⟩ ?_) ?_)
  ·clear hg Tb Tn;rintro q fr u hq ⟨gv,rfl,un,ub,hg⟩;refine ad6 ?_;have hns:a.nsI p 2=(a.pk p).aa7.length:=rfl;by_cases hlt:q<a.nsI p 2
   ·have d1:(q:Int)<(a.pk p).aa7.length:=om;have hb:=a.bq6 hpl (j:=2) om (qo hlt);have w2:=ac3 (i:=q) (by have:=a.bq6 hpl (j:=2) om (ze (a.nsI p 2));rw[zd,ab3.aw1] at this;omega);obtain ⟨v',σ',h1,h2,h3,h4,h5,h6⟩:=ca8 _ ⟨4,p,q⟩ 0 1 hg om om;have h1':as2 ({ next:=u.next+1,obj:=u.obj }:Store) u.next 3 gv (.aa3 [[.int .u8 4,.int .i64 (p:Int),.int .i64 (q:Int)]])=zg (v',σ'):=h1;simp only[go_sem,ub,g9,d1,h1',h4,h5,w2];exact ⟨hlt,v',rfl,om,h6 _ _ un ub,by rw[bw4,<- zc];exact h3⟩
   ·have hq':q=a.nsI p 2:=om;subst hq';have d1:¬(((a.pk p).aa7.length:Nat):Int)<(a.pk p).aa7.length:=om;simp only[go_sem,ub,g9,hns,d1];refine ⟨gv,_,rfl,un,?_⟩;rw[a.ao5,<- zc];exact hg
  clear hg Tb Tn rst gv T;rintro e f T ⟨rfl,gv,rst,rfl,Tn,Tb,hg⟩;simp only[go_sem];refine ad6 ?_;simp only[go_sem,w1];refine ⟨om,gv,rfl,?_⟩;rw[a.bq4,a.gu1,<- zc];exact hg
 rintro e f T ⟨rfl,gv,rst,rfl,hg⟩;simp only[go_sem]
 -- twins
 refine ab9 (ab9 (ad6 ?_));simp only[go_sem]
 refine ai3 (an3 (Q:=λe f s=>e=.exit 8/\∃gv rst,f=(0,a.dv)::(3,gv)::rst/\GI s gv (a.owns a.l.length++a.am3 a.l.length))
  (av5 (λp fr s=>∃gv,fr=[(0,a.dv),(3,gv),(9,.int .i64 (p:Int))]/\GI s gv (a.owns a.l.length++a.am3 p)) a.l.length ⟨gv,rfl,by simpa [ab3.am3] using hg⟩ ?_) ?_)
 ·clear hg gv T;rintro p fr t hp ⟨gv,rfl,hg⟩;refine ab9 (ad6 ?_);by_cases hpl:p<a.l.length
  case neg=>
   have hp':p=a.l.length:=om;subst hp';have c1:¬(a.l.length:Int)<a.l.length:=om;simp only[go_sem,ac9,ar6,c1,ac2];exact ⟨gv,_,rfl,hg⟩
  have c1:(p:Int)<a.l.length:=om;have w1:=ac3 (i:=p) om;simp only[go_sem,ac9,ar6,c1,ac2];rw[<- ac9];refine ab9 (ai3 (ab9 (ad6 ?_)));simp only[go_sem,w1]
  refine ai3 (an3 (Q:=λe f s=>e=.exit 10/\∃gv rst,f=(0,a.dv)::(3,gv)::(9,.int .i64 (p:Int))::rst/\GI s gv (a.owns a.l.length++a.am3 (p+1)))
   (av5 (λi fr s=>∃gv,fr=[(0,a.dv),(3,gv),(9,.int .i64 (p:Int)),(10,.int .i64 ((p+1+i:Nat):Int))]/\GI s gv (a.owns a.l.length++a.am3 p++a.bx8 p (p+1+i))) (a.l.length-(p+1)) ⟨gv,rfl,by rw[Nat.add_zero,a.de6,zb];exact hg⟩ ?_) ?_)
  ·clear hg gv t;rintro i fr u hi ⟨gv,rfl,hg⟩;refine ad6 ?_;by_cases hlt:i<a.l.length-(p+1)
   ·have d1:((p+1+i:Nat):Int)<a.l.length:=om;have w2:=ac3 (i:=p+1+i) om;have hb:=a.ec5 hpl (k:=p+1+i) om;have ht:=ge5 a hA p ((p+1+i:Nat):Int)
    have hsn:a.bx8 p (p+1+i+1)=a.bx8 p (p+1+i)++if a.twins p ((p+1+i:Nat):Int)=true then [⟨5,p,((p+1+i:Nat):Int)⟩] else []:=by
     unfold ab3.bx8;rw[ay1];simp only[show p<p+1+i by omega,decide_true,ql]
    simp only[go_sem,ac9,ar6,d1,ac2];rw[<- ac9];refine aa4 fok31 (ht) ?_
    cases hb2:a.twins p ((p+1+i:Nat):Int) with
    | false=>
     rw[hb2,if_neg (by decide),zb] at hsn;simp only[go_sem,w2]
     exact ⟨hlt,gv,rfl,by rw[show p+1+(i+1)=p+1+i+1 from rfl,hsn];exact hg⟩
    | true=>
     rw[hb2,if_pos rfl] at hsn;have hlast:=a.ec5 hpl (k:=p+1+i+1) om;obtain ⟨v',σ',h1,h2,h3,h4,h5,h6⟩:=ca8 _ ⟨5,p,((p+1+i:Nat):Int)⟩ 0 1 hg om om;have h1':as2 ({ next:=u.next+1,obj:=u.obj }:Store) u.next 3 gv (.aa3 [[.int .u8 5,.int .i64 (p:Int),.int .i64 ((p+1+i:Nat):Int)]])=zg (v',σ'):=h1;simp only[go_sem,h1',h4,h5,w2];exact ⟨hlt,v',rfl,by rw[show p+1+(i+1)=p+1+i+1 from rfl,hsn,<- zc];exact h3⟩
   ·have hi':p+1+i=a.l.length:=om;have d1:¬((p+1+i:Nat):Int)<a.l.length:=om;simp only[go_sem,ac9,ar6,d1,ac2];rw[<- ac9];refine ⟨gv,_,rfl,?_⟩;rw[a.bd5,<- zc];rw[hi'] at hg;exact hg
  clear hg gv t;rintro e f t ⟨rfl,gv,rst,rfl,hg⟩;simp only[go_sem];refine ad6 ?_;simp only[go_sem,w1];exact ⟨om,gv,rfl,hg⟩
 clear hg gv T;rintro e f T ⟨rfl,gv,rst,rfl,hg⟩;simp only[go_sem];refine ab9 (ab9 (ad6 ?_));simp only[go_sem]
 refine ai3 (an3 (Q:=λe f s=>e=.exit 12/\∃gv rst,f=(0,a.dv)::(3,gv)::rst/\GI s gv (a.owns a.l.length++a.am3 a.l.length++a.bd4 a.p.inst.toNat))
  (av5 (λp fr s=>∃gv,fr=[(0,a.dv),(3,gv),(11,.int .i64 (p:Int))]/\GI s gv (a.owns a.l.length++a.am3 a.l.length++a.bd4 p)) a.p.inst.toNat ⟨gv,rfl,by rw[show a.bd4 0=[] from rfl,zb];exact hg⟩ ?_) ?_)
 ·clear hg gv T;rintro p fr u hp ⟨gv,rfl,hg⟩;refine ad6 ?_;by_cases hlt:p<a.p.inst.toNat
  ·have d1:(p:Int)<a.p.inst:=om;have w2:=ac3 (i:=p) om;have hb:=a.fi4 (k:=p) om;have ht:=gz1 a hA p
   have hsn:a.bd4 (p+1)=a.bd4 p++if (!a.goes p)=true then [⟨6,p,0⟩] else []:=by
    unfold ab3.bd4;rw[ay1]
   simp only[go_sem,ac9,df7,d1,ac2];rw[<- ac9];refine aa4 fok32 (ht) ?_
   cases hb2:a.goes p with
   | true=>
    rw[hb2,if_neg (by decide),zb] at hsn;simp only[go_sem,w2]
    exact ⟨hlt,gv,rfl,by rw[hsn];exact hg⟩
   | false=>
    rw[hb2,if_pos (by decide)] at hsn;obtain ⟨v',σ',h1,h2,h3,h4,h5,h6⟩:=ca8 _ ⟨6,p,0⟩ 0 1 hg om om;have h1':as2 ({ next:=u.next+1,obj:=u.obj }:Store) u.next 3 gv (.aa3 [[.int .u8 6,.int .i64 (p:Int),.int .i64 0]])=zg (v',σ'):=h1;simp only[go_sem,h1',h4,h5,w2];exact ⟨hlt,v',rfl,by rw[hsn,<- zc];exact h3⟩
  ·have hp':p=a.p.inst.toNat:=om;have d1:¬(p:Int)<a.p.inst:=om;simp only[go_sem,ac9,df7,d1,ac2];rw[<- ac9];subst hp';exact ⟨gv,_,rfl,hg⟩
 clear hg gv T;rintro e f T ⟨rfl,gv,rst,rfl,hg⟩;simp only[go_sem];refine ab9 (ab9 (ad6 ?_));simp only[go_sem]
 refine ai3 (an3 (Q:=λe f s=>e=.exit 14/\∃gv rst,f=(0,a.dv)::(3,gv)::rst/\GI s gv (a.owns a.l.length++a.am3 a.l.length++a.bd4 a.p.inst.toNat++a.eg7 a.r.af2.length))
  (av5 (λp fr s=>∃gv,fr=[(0,a.dv),(3,gv),(12,.int .i64 (p:Int))]/\GI s gv (a.owns a.l.length++a.am3 a.l.length++a.bd4 a.p.inst.toNat++a.eg7 p)) a.r.af2.length ⟨gv,rfl,by rw[show a.eg7 0=[] from rfl,zb];exact hg⟩ ?_) ?_)
 ·clear hg gv T;rintro p fr u hp ⟨gv,rfl,hg⟩;refine ad6 ?_;by_cases hlt:p<a.r.af2.length
  ·have d1:(p:Int)<a.r.af2.length:=om;have w2:=ac3 (i:=p) om;have hb:=a.gu2 (k:=p) om;have ht:=cv6 a hA p
   have hsn:a.eg7 (p+1)=a.eg7 p++if (!a.dropped p)=true then [⟨7,p,0⟩] else []:=by
    unfold ab3.eg7;rw[ay1]
   simp only[go_sem,ac9,ct1,al3,d1,ac2];rw[<- ac9];refine aa4 fok33 (ht) ?_
   cases hb2:a.dropped p with
   | true=>
    rw[hb2,if_neg (by decide),zb] at hsn;simp only[go_sem,w2]
    exact ⟨hlt,gv,rfl,by rw[hsn];exact hg⟩
   | false=>
    rw[hb2,if_pos (by decide)] at hsn;obtain ⟨v',σ',h1,h2,h3,h4,h5,h6⟩:=ca8 _ ⟨7,p,0⟩ 0 1 hg om om;have h1':as2 ({ next:=u.next+1,obj:=u.obj }:Store) u.next 3 gv (.aa3 [[.int .u8 7,.int .i64 (p:Int),.int .i64 0]])=zg (v',σ'):=h1;simp only[go_sem,h1',h4,h5,w2];exact ⟨hlt,v',rfl,by rw[hsn,<- zc];exact h3⟩
  ·have hp':p=a.r.af2.length:=om;have d1:¬(p:Int)<a.r.af2.length:=om;simp only[go_sem,ac9,ct1,al3,d1,ac2];rw[<- ac9];subst hp';exact ⟨gv,_,rfl,hg⟩
 clear hg gv T;rintro e f T ⟨rfl,gv,rst,rfl,hg⟩;simp only[go_sem];refine ad6 ?_;simp only[go_sem];exact jw8 (l:=a.items) hg
theorem ef4 (repos:List ao2)(inst:List aa2)(r:Req)(st:List Bool)(hI:jh3 repos inst)(hR:en6 r)(hs:st.length<2^30) :
  Pq 3 [ba6 repos,av4 inst,.agg r.cs,be3 st] (.bool true):=by
 refine af4 hE fok3 (nZ rfl) (jr2 (br5 repos) (ap6 inst) (.agg _ (ba1 r)) (hm4 st)) ?_;have hW:=gx7 repos inst r 30 (by have:=hI.r1;omega) (by have:=hI.i1;omega) (by decide) hI.ro hI.po;have rl:r.cs.length=5:=rfl;have bl:∀σ:Store,cc2 0 σ (be3 st)=zg (.int .i64 st.length):=λσ=>by unfold be3;simp only[go_sem]
 simp only[ic3,go_sem,ag3,rl,bb5];refine aa4 fok4 (hW) ?_
 cases hwd:bh2 repos inst r 30 with
 | true=>
  simp only[go_sem];refine aa4 fok5 (bj8) ?_;simp only[go_sem]
  exact ab6 rfl
 | false=>
 by_cases hbig:1000<st.length
 ·have c1:(1000:Int)<st.length:=om;simp only[go_sem,bl,c1];refine aa4 fok5 (bj8) ?_;simp only[go_sem];exact ab6 rfl
 have c1:¬(1000:Int)<st.length:=om;have hfew:=λp hn=>ii7 hwd (p:=p) hn
 have hM:=er7 repos inst r hI hR λp hn=>by have:=hfew p hn;omega
 simp only[go_sem,bl,c1,ag3,rl,bb5];refine aa4 fok6 (hM) ?_;rcases ge3 repos inst r with h0|⟨p,hn,he,h0⟩
 ·rw[h0];simp only[dx1,go_sem];refine aa4 fok5 (bj8) ?_;simp only[go_sem];exact ab6 rfl
 rw[h0];have hA:=aok hI hn hR he;have hl30:=hfew p hn;obtain ⟨o1,o2,o3,o4⟩:=fp8 hI hn hR he om;have hal:er9 repos inst=ac1 p:=(bq1 hn).symm;rw[hal];obtain ⟨a,ha⟩:∃a,a=ab3.mk p r:=⟨_,rfl⟩;have hdv:IV.ab8 (av4 (ac1 p)::.int .i64 p.inst::r.cs)=a.dv:=by rw[ha];rfl
 have hl:a.l.length<=30:=by rw[ha];exact hl30
 rw[hdv];rw[<- ha] at hA o1 o2 o3 o4 ⊢;clear ha hM hdv h0 hal hW hwd;have hin:∀x∈a.items,a.Has x:=λx hx=>a.ex8.1 hx
 have h00:(⟨0,[],[]⟩:ag9).OK a.l.length:=⟨λ_ h=>(by cases h),λ_ h=>(by cases h),.nil⟩;obtain ⟨⟨_,t2⟩,t3,trg⟩:=ab3.du5 o1 a.items hin _ h00;have tf:=ab3.em9 o1 a.items hin ⟨0,[],[]⟩ (ze _);obtain ⟨tw1,tw2⟩:=ab3.gw1 o1 a.items hin ⟨0,[],[]⟩ λq hq=>by cases hq
 have tl:=a.em8 a.items ⟨0,[],[]⟩
 have hat:∀(i:Nat) (x:Itm),a.items[i]? = zg x->((x.kind=2\/x.kind=3)/\∃y:Int,(a.al1 a.items ⟨0,[],[]⟩).1.getD i []=[[-(x.p+1),y]])\/(¬(x.kind=2\/x.kind=3)/\(a.al1 a.items ⟨0,[],[]⟩).1.getD i []=a.an6 x):=λi x h=>by
  rw[a.ih6 a.items ⟨0,[],[]⟩ i x h];exact a.jd4 x _
 have hRV:ab3.rV a=aw3 a.v a.mv (aj5 a.items) (ad8 a.l).v a.l (a.al1 a.items ⟨0,[],[]⟩).2 (a.al1 a.items ⟨0,[],[]⟩).1:=rfl;have t2':(a.al1 a.items ⟨0,[],[]⟩).2.h<=480000:=by have:(⟨0,[],[]⟩:ag9).h=0:=rfl;omega
 clear t2;generalize a.al1 a.items ⟨0,[],[]⟩=w at *;unfold ag9.few at tf;have b1:=ah5 a;have b2:=br3 a;have b3:=as7 a.items;have b4:=ar9 (ad8 a.l);have hqw:∀q∈w.1,q.length<=1000/\∀y∈q,y.length<2^30:=λq hq=>⟨by have:=(tw1 q hq).1;omega,λy hy=>by have:=(tw1 q hq).2 y hy;omega⟩
 have hqt:∀q∈w.2.cl,q.length<2^30:=λq hq=>by have:=tw2 q hq;omega
 have hV:=hn6 b1 b2 b3 b4 a.l w.2 w.1 om om;have hAll:=jy6 b1 b2 b3 b4 a.l w.2 w.1 om hqt om hqw;have hMo:=gh7 b1 b2 b3 b4 a.l w.2 w.1;have hIt:=du9 b1 b2 b3 b4 a.l w.2 w.1 a.items om rfl;have hSt:=gh8 a hA b2 b3 b4 a.l w.2 w.1 st om;have hBase:=λσ=>hm9 (av:=a.v) (c1:=a.mv) (c3:=aj5 a.items) (xv:=(ad8 a.l).v) a.l w.2 w.1 om hqt σ
 have hgw:∀i,i<w.1.length->(w.1.getD i [])∈w.1:=λi hi=>ey9 hi
 have hCl:=λi (hi:i<w.1.length) σ=>cb1 (av:=a.v) (c1:=a.mv) (c3:=aj5 a.items) (xv:=(ad8 a.l).v) a.l w.2 w.1 i hi om (by have:=(hqw _ (hgw i hi)).1;omega) (hqw _ (hgw i hi)).2 σ
 have hNo:=λz hz=>er5 a.l w.2 w.1 (bg2 b1 b2 b3 b4 a.l w.2 w.1) z hz
 have hMI:=en8 a om;have hDI:=gh2 a hA o2 om;have hS16:=hk7 a.items a.items om om;rw[decide_eq_true (rfl:a.items=a.items)] at hS16
 have hq2:∀q∈w.2.cl++w.1.flatten,q.length<=101/\∀x∈q,RgN (a.l.length+w.2.h) x:=λq hq=>by
  rcases qi.1 hq with hq|hq
  ·exact ⟨tw2 q hq,t3.cl q hq⟩
  ·obtain ⟨y,hy,hqy⟩:=List.mem_flatten.1 hq;exact ⟨(tw1 y hy).2 q hqy,trg y hy q hqy⟩
 have hft:∀i,((w.1.take i).flatten).length<=1000*20000:=λi=>by
  have h1:=ci2 (cs:=w.1.take i) (m:=1000) λq hq=>(hqw q (qs hq)).1
  have h2:(w.1.take i).length<=20000:=by rw[zh];omega
  exact zp h1 (Nat.mul_le_mul_left _ h2)
 rw[<- hRV] at hV hAll hMo hIt hSt;simp only[<- hRV] at hBase hCl hNo;clear hRV;obtain ⟨rc,hrc⟩:∃rc,ab3.rV a=.ab8 rc:=⟨_,rfl⟩;rw[hrc] at hV hAll hMo hIt hSt ⊢;simp only[hrc] at hBase hCl hNo;clear hrc;have hiv:aj5 a.items=.aa3 (a.items.map Itm.cs):=rfl;rw[hiv] at hIt hMI hDI hS16;have mlf:a.mv.leaf=true:=rfl;have mcs':a.mv.cs=[a.mv]:=rfl;generalize a.mv=MV at *;obtain ⟨V,hVd⟩:∃V,V=a.l.length+w.2.h:=⟨_,rfl⟩;rw[<- hVd] at hV hq2;have v0:¬(V:Int)<a.l.length:=om;have v1:IntKind.wrap .i64 (0-(V:Int))=-(V:Int):=by rw[wrap64 om om];omega
 simp only[go_sem];refine aa4 fok7 (hIt) ?_;simp only[go_sem,ac2,gy6,ed8];refine ab2 (hDI) ?_;simp only[go_sem];refine ab2 (hS16) ?_;simp only[go_sem];refine ab2 (hMo) ?_;simp only[go_sem,mlf,mcs']
 first|refine aa4 fok11 (hMI) ?_|refine ab2 (hMI) ?_
 simp only[go_sem];refine ab2 (hS16) ?_;simp only[go_sem]
 first|refine aa4 fok12 (hV) ?_|refine ab2 (hV) ?_
 simp only[go_sem,ac9,ar6,ac2,v0];rw[<- ac9];clear hIt hDI hMo hMI hS16 v0;refine ab1 noT (λn fr s=>fr=[(3,be3 st),(9,.ab8 rc),(11,a.dv),(13,.aa3 (a.items.map Itm.cs)),(14,.int .i64 (n:Int))]) 2 rfl ?_;rintro n fr t hn rfl;by_cases hn2:n<2
 ·have d0:(n:Int)<2:=om;have w0:=ac3 (i:=n) om;simp only[go_sem,d0];refine ac4 fok13 (hBase _) ?_;rintro bv s1 ⟨hk1,hn1⟩;refine ⟨hk1.next,?_⟩;simp only[go_sem];refine ab1 noT (λi fr s=>∃gv,fr=[(3,be3 st),(9,.ab8 rc),(11,a.dv),(13,.aa3 (a.items.map Itm.cs)),(14,.int .i64 (n:Int)),(15,gv),(16,.int .i64 (i:Int))]/\Kept t s/\bq9 s t.next gv (w.2.cl++(w.1.take i).flatten)) a.items.length ⟨bv,rfl,hk1,by simpa using hn1⟩ ?_;rintro i fr s hi ⟨gv,rfl,hk,hg⟩;by_cases hlt:i<a.items.length
  ·obtain ⟨x,hx,hxi,hdr,hget,htk⟩:=ad2 a.items i hlt;have d1:(i:Int)<a.items.length:=om;have d2:(0:Int)<=i:=om;have w1:=ac3 (i:=i) om;have gi:=hget Itm.cs
   have hxp:0<=x.p/\x.p<1000:=by
    have h64:=hA.af2;have hil:=hA.inst;cases hin x hx<;>exact ⟨zw _,by show ((_:Nat):Int)<1000;omega⟩
   have w2:IntKind.wrap .i64 (x.p+1)=x.p+1:=wrap64 om om;have w3:IntKind.wrap .i64 (0-(x.p+1))=-(x.p+1):=by rw[wrap64 om om];omega
   have fl:=dj7 w.1 (i:=i) om;have hgl:=(hqw _ (hgw i om)).1;have hfi:=hft i;have hat:=hat i x hxi;have hX:=hin x hx;simp only[go_sem,d1];refine ac4 fok14 (hCl i om _) ?_;rintro cv u ⟨hk2,hc2⟩;refine ⟨hk2.next,?_⟩;rcases hat with ⟨hkd,y,hy⟩|⟨hkd,hy⟩
   ·obtain ⟨v',S,e1,e2,e3,e4⟩:=gv3 hk hg (hk2.up 25) (hc2.mono (u:=⟨u.next+25,u.obj⟩) (zi _ _) λ_ _ _=>rfl) (m:=0) (nid:=u.next+25) (k:=1) (zp hk2.next (zi _ _)) (.inr (ze _)) (z1 _) (by rw[zd];omega);rw[zc,<- fl] at e4;rw[hy] at hc2;obtain ⟨j,b,cs,rfl,g1,g2,g3,g4,_⟩:=hc2.at (i:=0) (Nat.zero_lt_one) (Nat.zero_lt_succ 1);have g2:(cs.drop 0).head? = zg (.slice b 0 2 1):=g2;have g4:u.obj b=zg (.row [.int .i64 (-(x.p+1)),.int .i64 y]):=g4;have g3:1<=cs.length:=g3;rw[List.drop_zero] at g2;have e1:as2 ⟨u.next+25+1,u.obj⟩ (u.next+25) 1 gv (.slice j 0 1 1)=zg (v',S):=e1;rcases hkd with hkd|hkd
    ·simp only[go_sem,d1,d2,gi,bm7,bj7,bj6,gx1,gx2,hkd,zm,w2,w3,g1,g2,g3,g4,e1,w1];exact ⟨hlt,_,rfl,e3,e4⟩
    ·simp only[go_sem,d1,d2,gi,bm7,bj7,bj6,gx1,gx2,hkd,zm,w2,w3,g1,g2,g3,g4,e1,w1];exact ⟨hlt,_,rfl,e3,e4⟩
   ·obtain ⟨v',S,e1,e2,e3,e4⟩:=gv3 (m:=0) hk hg hk2 hc2 (nid:=u.next) (k:=1) hk2.next (.inr (ze _)) (z1 _) (by rw[zd];omega);rw[zc,<- fl] at e4;have k2:¬x.kind=2:=λh=>hkd (.inl h)
    have k3:¬x.kind=3:=λh=>hkd (.inr h)
    have hR18:=jh7 a hA o2 hX hkd;have hfz:=hc2.frz;have hm:=hqw _ (hgw i om);rw[hy] at hfz hm;have hS18:=df4 (a.an6 x) om λq hq=>by have:=hm.2 q hq;omega
    simp only[go_sem,d1,d2,gi,bm7,bj7,bj6,gx1,gx2,k2,k3,gy6,ed8];refine aa4 fok16 (hR18) ?_;simp only[go_sem]
    refine ac4 fok15 (cr1 (args':=[ba5 (a.an6 x),ba5 (a.an6 x)]) hE rfl (λk hk=>by
     match k,hk with
     | 0,_=>exact hfz
     | 1,_=>exact .keep _ (bg9 _)) (by simp[IV.plain]) hS18) ?_
    rintro v u2 ⟨rfl,rfl⟩;refine ⟨ze _,?_⟩;simp only[go_sem,e1,w1];exact ⟨hlt,_,rfl,e3,e4⟩
  ·have hi':i=a.items.length:=om;subst hi';have d1:¬(a.items.length:Int)<a.items.length:=om;have hft:=hft a.items.length;rw[zx om] at hg hft;have hll:(w.2.cl++w.1.flatten).length<2^40:=by rw[zd];omega
   have hN1:=hNo (-1) (.inl (by decide));have hN2:=hNo (a.items.length:Int) (.inr om);generalize w.2.cl++w.1.flatten=L at *;have hS18:=df4 L om λq hq=>by have:=(hq2 q hq).1;omega
   simp only[go_sem,d1];refine aa4 fok17 (hAll) ?_;simp only[go_sem]
   refine ac4 fok15 (cr1 (args':=[ba5 L,ba5 L]) hE rfl (λk hk=>by
    match k,hk with
    | 0,_=>exact .keep _ (bg9 _)
    | 1,_=>exact hg.frz) (by simp[IV.plain]) hS18) ?_
   rintro v u2 ⟨rfl,rfl⟩;refine ⟨ze _,?_⟩;simp only[go_sem];refine aa4 fok14 (hN1) ?_;simp only[go_sem];refine aa4 fok14 (hN2) ?_;simp only[go_sem];refine ab1 noT (λi fr s=>fr=[(3,be3 st),(9,.ab8 rc),(11,a.dv),(13,.aa3 (a.items.map Itm.cs)),(14,.int .i64 (n:Int)),(15,gv),(18,.int .i64 (i:Int))]/\∃M,jd5 L M i/\bq9 s t.next gv M) L.length ⟨rfl,L,⟨rfl,λ_ _=>rfl⟩,hg⟩ ?_;clear hk hg;rintro i fr s hi ⟨rfl,M,hT,hM⟩;have hgl:=hM.len;rw[hT.1] at hgl;by_cases hlt:i<L.length
   ·have c1:(i:Int)<L.length:=om;have c2:(0:Int)<=i:=om;have w1:=ac3 (i:=i) om;simp only[go_sem,hgl,c1];refine ab1 noT (λk fr s=>fr=[(3,be3 st),(9,.ab8 rc),(11,a.dv),(13,.aa3 (a.items.map Itm.cs)),(14,.int .i64 (n:Int)),(15,gv),(18,.int .i64 (i:Int)),(19,.int .i64 (k:Int))]/\∃M,ez1 L M i k/\bq9 s t.next gv M) (L.getD i []).length ⟨rfl,M,hT.one,hM⟩ ?_;clear hM hT;rintro k fr s hk ⟨rfl,M,hT,hM⟩;have hqi:=hq2 (L.getD i []) (ey9 hlt);have hmi:i<M.length:=by rw[hT.len];exact hlt
    by_cases hkl:k<(L.getD i []).length
    ·obtain ⟨j,b,cs,hgv,g1,g2,g3,g4,_,_,hset⟩:=hM.at hmi (by rw[hT.wid];omega);have hkm:k<(M.getD i []).length:=by rw[hT.wid];exact hkl
     have m1:=jd6 hkm;have m2:=ih7 hkm 0;have m3:k+1<=(M.getD i []).length:=hkm;have m4:=hset 0 0 k hkm;have m5:=hT.step hmi 0;have hrg:=hqi.2 ((L.getD i []).getD k 0) (ey9 hkl);rw[hT.cel k (ze _)] at m1;rw[hT.wid] at g2;rw[hT.len] at hgv;have c3:(k:Int)<(L.getD i []).length:=om;have c4:(0:Int)<=k:=om;have wk:=ac3 (i:=k) (by have:=hqi.1;omega);generalize (L.getD i []).getD k 0=y at *;obtain ⟨r1,r2,r3⟩:=hrg;have r4:¬(V:Int)<y:=om;have r5:¬y < -(V:Int):=om;subst hgv;simp only[go_sem,c1,c2,c3,c4,g1,g2,g3,g4,m1,m3,zf,qn,qt,r1]
     first|refine aa4 fok12 (hV) ?_|refine ab2 (hV) ?_
     simp only[go_sem,r4]
     first|refine aa4 fok12 (hV) ?_|refine ab2 (hV) ?_
     simp only[go_sem,v1,r5,c1,c2,c3,c4,g1,g2,g3,g4,m2,m3,zf,qn,qt,wk];exact ⟨hkl,_,m5,m4⟩
    ·have hk':k=(L.getD i []).length:=om;subst hk';obtain ⟨j,c,cs,hgv,g1,g2,g3,g4⟩:=hM.cell hmi;rw[hT.len] at hgv;simp only[hT.wid] at g4;have c3:¬((L.getD i []).length:Int)<(L.getD i []).length:=om;subst hgv;simp only[go_sem,c1,c2,c3,g1,g2,g3,g4,zf,qn,qt,w1];exact ⟨hlt,_,hT.end,hM⟩
   ·have hi':i=L.length:=om;subst hi';have c1:¬(L.length:Int)<L.length:=om;simp only[go_sem,hgl,c1,w0];exact hn2
 ·have hn':n=2:=om;subst hn'
  have hsl:(cv3 st a.l.length).length<=st.length:=by
   have:=ao4 (λn=>st.getD n false) (min st.length a.l.length);unfold cv3;omega
  simp only[go_sem];refine aa4 fok18 (hSt) ?_;simp only[go_sem];refine ab1 noT (λv fr s=>fr=[(3,be3 st),(11,a.dv),(21,.aa3 ((cv3 st a.l.length).map Md.ae1)),(22,.int .i64 ((ak9 (λn=>st.getD n false) v).length:Int)),(23,.int .i64 (v:Int))]) (min st.length a.l.length) rfl ?_;rintro v fr s hv rfl;have hnl:=ao4 (λn=>st.getD n false) v;have hsn:=ax7 (λn=>st.getD n false) v;by_cases hvl:v<min st.length a.l.length
  ·have c1:(v:Int)<st.length:=om;have c2:(v:Int)<a.l.length:=om;have c3:(0:Int)<=v:=om;have wv:=ac3 (i:=v) om;have gb:=er1 (st:=st) (n:=v) om;have bv:be3 st=.aa3 (st.map ec3):=rfl
   cases hb:st.getD v false with
   | false=>
    rw[hb] at gb;have hsn:ak9 (λn=>st.getD n false) (v+1)=ak9 (λn=>st.getD n false) v:=by rw[hsn,if_neg (by rw[hb];exact Bool.false_ne_true),zb]
    simp only[go_sem,bv,c1,c2,c3,gb,ac9,ar6,ac2,wv]
    exact ⟨hvl,by rw[hsn]⟩
   | true=>
    rw[hb] at gb;have hsn:(ak9 (λn=>st.getD n false) (v+1)).length=(ak9 (λn=>st.getD n false) v).length+1:=by rw[hsn,if_pos hb,zd];rfl
    have hat:=ih5 (λn=>st.getD n false) (min st.length a.l.length) v hvl hb;have wn:=ac3 (i:=(ak9 (λn=>st.getD n false) v).length) om;have hSv:cv3 st a.l.length=ak9 (λn=>st.getD n false) (min st.length a.l.length):=rfl;rw[<- hSv] at hat;generalize cv3 st a.l.length=S at *;generalize (ak9 (λn=>st.getD n false) v).length=z at *;obtain ⟨hz,hz2⟩:=z4.1 hat;have gz:(S.map Md.ae1).getD z []=[.int .i64 (v:Int)]:=by simp[za,hat,Md.ae1]
    have c4:¬(S.length:Int)<=z:=om;have c5:(z:Int)<S.length:=om;have c6:(0:Int)<=z:=om;simp only[go_sem,bv,c1,c2,c3,c4,c5,c6,gb,gz,ac9,ar6,ac2,wv,wn];exact ⟨hvl,by rw[hsn]⟩
  ·have hv':v=min st.length a.l.length:=om;have hSv:cv3 st a.l.length=ak9 (λn=>st.getD n false) v:=by rw[hv'];rfl
   rw[hSv];by_cases c1:(v:Int)<st.length
   ·have c2:¬(v:Int)<a.l.length:=om;simp only[go_sem,bl,c1,c2,ac9,ar6,ac2];refine aa4 fok5 (bj8) ?_;simp only[go_sem];exact ab6 rfl
   ·simp only[go_sem,bl,c1];refine aa4 fok5 (bj8) ?_;simp only[go_sem];exact ab6 rfl
variable {H:Type} {enc:TypeId×Value->H} {w:World} {base:Nat} {sp:Nat->Bool} {held:Bool}
abbrev Rd (enc:TypeId×Value->H)(w:World)(base:Nat)(sp:Nat->Bool)(held:Bool):=Rdg enc Tryz.prog w base sp held
theorem hc5 {n:Nat}{d:DataW H}(h:Rd enc w base sp held n 57 d)(hw:WT Tryz.prog 57 d):∃e:EVR,e.fit/\∀m,n<=m->dv Tryz.prog m 57 d=zg e.cs:=by
 obtain ⟨n',ds,rfl,rfl,hl,hf⟩:=av6 Tryz.underlying57 h hw
 match ds,hl with
 | [d0,d1,d2],_=>
  obtain ⟨r0,w0⟩:=hf 0 _ d0 rfl rfl;obtain ⟨r1,w1⟩:=hf 1 _ d1 rfl rfl;obtain ⟨r2,w2⟩:=hf 2 _ d2 rfl rfl;obtain ⟨z,_,_,e0⟩:=bp8 Tryz.underlying3 r0;obtain ⟨s1,l1,e1⟩:=dd5 Tryz.underlying9 r1 w1;obtain ⟨s2,l2,e2⟩:=dd5 Tryz.underlying9 r2 w2;refine ⟨⟨z,s1,s2⟩,⟨l1,l2⟩,λm hm=>?_⟩
  cases m with
  | zero=>omega
  | succ m=>
   have c3:Tryz.prog.cellsOf 3=1:=by kernel_rfl
   have c9:Tryz.prog.cellsOf 9=1:=by kernel_rfl
   have ct:Tryz.prog.cellsOf 57=3:=by kernel_rfl
   simp only[dv,Tryz.underlying57,zn,z8,dvF,e0 m om,e1 m om,e2 m om,zt,z3,c3,c9,ct,zu,z2,zb,z7,↓reduceIte];rfl
theorem jv6 {z:Int}(h:(Lit.int .u8 z).wf=true):0<=z/\z<256:=by
 simp only[Lit.wf,zz,decide_eq_true_eq] at h;have e1:IntKind.u8.min=0:=rfl;have e2:IntKind.u8.max=255:=rfl;omega
theorem jg4:Tryz.prog.cellsOf 3=1:=by kernel_rfl
theorem jg5:Tryz.prog.cellsOf 5=1:=by kernel_rfl
theorem ik9:Tryz.prog.cellsOf 9=1:=by kernel_rfl
theorem jg6:Tryz.prog.cellsOf 57=3:=by kernel_rfl
theorem hc7:Tryz.prog.cellsOf 67=5:=by kernel_rfl
theorem hc9:Tryz.prog.cellsOf 69=7:=by kernel_rfl
theorem jv7:Tryz.prog.cellsOf 62=15:=by kernel_rfl
theorem iu8:Tryz.prog.cellsOf 64=2:=by kernel_rfl
theorem jv8:Tryz.prog.cellsOf 58=1:=by kernel_rfl
theorem fn1:Tryz.prog.cellsOf 59=1:=by kernel_rfl
theorem jv9:Tryz.prog.cellsOf 60=1:=by kernel_rfl
theorem jw1:Tryz.prog.cellsOf 23=1:=by kernel_rfl
theorem iu9 {n:Nat}{d:DataW H}(h:Rd enc w base sp held n 67 d)(hw:WT Tryz.prog 67 d):∃e:Dep,e.fit/\∀m,n<=m->dv Tryz.prog m 67 d=zg e.cs:=by
 obtain ⟨n',ds,rfl,rfl,hl,hf⟩:=av6 Tryz.underlying67 h hw
 match ds,hl with
 | [d0,d1,d2],_=>
  obtain ⟨r0,w0⟩:=hf 0 _ d0 rfl rfl;obtain ⟨r1,w1⟩:=hf 1 _ d1 rfl rfl;obtain ⟨r2,w2⟩:=hf 2 _ d2 rfl rfl;obtain ⟨s0,l0,e0⟩:=dd5 Tryz.underlying9 r0 w0;obtain ⟨z,_,_,e1⟩:=bp8 Tryz.underlying5 r1;obtain ⟨e,l2,e2⟩:=hc5 r2 w2;refine ⟨⟨s0,z,e⟩,⟨l0,l2⟩,λm hm=>?_⟩
  cases m with
  | zero=>omega
  | succ m=>
   simp only[dv,Tryz.underlying67,zn,z8,dvF,e0 m om,e1 m om,e2 m om,EVR.cs,zt,z3,ik9,jg5,jg6,hc7,zu,z2,zb,z7,↓reduceIte];rfl
theorem jg7:∀(n:Nat) (d:DataW H),Rd enc w base sp held n 69 d->WT Tryz.prog 69 d->∃r:aa6,r.ok/\∀m,n<=m->dv Tryz.prog m 69 d=zg r.cs:=by
 intro n
 induction n using Nat.strongRecOn with
 | ind n ih=>
  intro d h hw;obtain ⟨n',ds,rfl,rfl,hl,hf⟩:=av6 Tryz.underlying69 h hw
  match ds,hl with
  | [d0,d1,d2],_=>
   obtain ⟨r0,w0⟩:=hf 0 _ d0 rfl rfl;obtain ⟨r1,w1⟩:=hf 1 _ d1 rfl rfl;obtain ⟨r2,w2⟩:=hf 2 _ d2 rfl rfl;obtain ⟨z,_,hz,e0⟩:=bp8 Tryz.underlying5 r0;obtain ⟨e,l1,e1⟩:=iu9 r1 w1;obtain ⟨l,k1,k2,e2⟩:=bb3 aa6.cs aa6.ok Tryz.underlying59 hc9 (by decide) (by decide +kernel) (λr=>by rw[aa6.ax5];rfl) (λm d' hm hr hw'=>ih m om d' hr hw') r2 w2;have hz':=jv6 hz;refine ⟨.mk z e l,aa6.gc2.2 ⟨hz'.1,hz'.2,l1,k1,k2⟩,λm hm=>?_⟩
   cases m with
   | zero=>omega
   | succ m=>
    simp only[dv,Tryz.underlying69,zn,z8,dvF,e0 m om,e1 m om,e2 m om,Dep.cs,zt,z3,fn1,jg5,hc7,hc9,zu,z2,zb,z7,↓reduceIte];rw[aa6.ax5];rfl
theorem hd8 {n:Nat}{d:DataW H}(h:Rd enc w base sp held n 58 d)(hw:WT Tryz.prog 58 d):∃l:List Dep,l.length<2^62/\(∀a∈l,a.fit)/\∀m,n<=m->dv Tryz.prog m 58 d=zg [deps l]:=
 bb3 Dep.cs Dep.fit Tryz.underlying58 hc7 (by decide) (by decide +kernel) (λ_=>rfl) (λ_ _ _ hr hw'=>iu9 hr hw') h hw
theorem bk4 {n:Nat}{d:DataW H}(h:Rd enc w base sp held n 59 d)(hw:WT Tryz.prog 59 d):∃l:List aa6,l.length<2^62/\(∀a∈l,a.ok)/\∀m,n<=m->dv Tryz.prog m 59 d=zg [ap8 l]:=
 bb3 aa6.cs aa6.ok Tryz.underlying59 hc9 (by decide) (by decide +kernel) (λr=>by rw[aa6.ax5];rfl) (λm d' _ hr hw'=>jg7 m d' hr hw') h hw
theorem jg8 {n:Nat}{d:DataW H}(h:Rd enc w base sp held n 60 d)(hw:WT Tryz.prog 60 d):∃l:List Str,l.length<2^62/\(∀a∈l,a.length<2^62)/\∀m,n<=m->dv Tryz.prog m 60 d=zg [strs l]:=
 bb3 bv8 (λs:Str=>s.length<2^62) Tryz.underlying60 ik9 (by decide) (by decide +kernel) (λ_=>rfl) (λ_ _ _ hr hw'=>dd5 Tryz.underlying9 hr hw') h hw
theorem jw2 {n:Nat}{d:DataW H}(h:Rd enc w base sp held n 62 d)(hw:WT Tryz.prog 62 d):∃p:aa2,p.Ok/\∀m,n<=m->dv Tryz.prog m 62 d=zg p.cs:=by
 obtain ⟨n',ds,rfl,rfl,hl,hf⟩:=av6 Tryz.underlying62 h hw
 match ds,hl with
 | [d0,d1,d2,d3,d4,d5,d6,d7,d8,d9,d10,d11,d12],_=>
  obtain ⟨r0,w0⟩:=hf 0 _ d0 rfl rfl;obtain ⟨r1,w1⟩:=hf 1 _ d1 rfl rfl;obtain ⟨r2,w2⟩:=hf 2 _ d2 rfl rfl;obtain ⟨r3,w3⟩:=hf 3 _ d3 rfl rfl;obtain ⟨r4,w4⟩:=hf 4 _ d4 rfl rfl;obtain ⟨r5,w5⟩:=hf 5 _ d5 rfl rfl;obtain ⟨r6,w6⟩:=hf 6 _ d6 rfl rfl;obtain ⟨r7,w7⟩:=hf 7 _ d7 rfl rfl;obtain ⟨r8,w8⟩:=hf 8 _ d8 rfl rfl;obtain ⟨r9,w9⟩:=hf 9 _ d9 rfl rfl;obtain ⟨r10,w10⟩:=hf 10 _ d10 rfl rfl;obtain ⟨r11,w11⟩:=hf 11 _ d11 rfl rfl;obtain ⟨r12,w12⟩:=hf 12 _ d12 rfl rfl;obtain ⟨x0,l0,e0⟩:=dd5 Tryz.underlying9 r0 w0;obtain ⟨x1,l1,e1⟩:=hc5 r1 w1;obtain ⟨x2,_,_,e2⟩:=bp8 Tryz.underlying5 r2;obtain ⟨x3,l3,e3⟩:=dd5 Tryz.underlying9 r3 w3;obtain ⟨x4,l4,k4,e4⟩:=hd8 r4 w4;obtain ⟨x5,l5,k5,e5⟩:=bk4 r5 w5;obtain ⟨x6,l6,k6,e6⟩:=bk4 r6 w6;obtain ⟨x7,l7,k7,e7⟩:=hd8 r7 w7;obtain ⟨x8,l8,k8,e8⟩:=bk4 r8 w8;obtain ⟨x9,l9,k9,e9⟩:=bk4 r9 w9;obtain ⟨x10,l10,k10,e10⟩:=bk4 r10 w10;obtain ⟨x11,l11,k11,e11⟩:=bk4 r11 w11;obtain ⟨x12,l12,k12,e12⟩:=jg8 r12 w12;refine ⟨⟨x0,x1,x2,x3,x4,x5,x6,x7,x8,x9,x10,x11,x12⟩,⟨l0,l3,l1,⟨l4,k4⟩,⟨l7,k7⟩,⟨l12,k12⟩,?_⟩,λm hm=>?_⟩
  ·intro x hx;simp only[aa2.rows,z5,List.not_mem_nil,or_false] at hx;rcases hx with rfl|rfl|rfl|rfl|rfl|rfl
   ·exact ⟨l5,k5⟩
   ·exact ⟨l6,k6⟩
   ·exact ⟨l8,k8⟩
   ·exact ⟨l9,k9⟩
   ·exact ⟨l10,k10⟩
   ·exact ⟨l11,k11⟩
  cases m with
  | zero=>omega
  | succ m=>
   simp only[dv,Tryz.underlying62,zn,z8,dvF,e0 m om,e1 m om,e2 m om,e3 m om,e4 m om,e5 m om,e6 m om,e7 m om,e8 m om,e9 m om,e10 m om,e11 m om,e12 m om,EVR.cs,zt,z3,ik9,jg5,jg6,jv8,fn1,jv9,jv7,zu,z2,zb,z7,↓reduceIte];rfl
theorem hd9 {n:Nat}{d:DataW H}(h:Rd enc w base sp held n 23 d)(hw:WT Tryz.prog 23 d):∃l:List aa2,l.length<2^62/\(∀a∈l,a.Ok)/\∀m,n<=m->dv Tryz.prog m 23 d=zg [.aa3 (l.map aa2.cs)]:=
 bb3 aa2.cs aa2.Ok Tryz.underlying23 jv7 (by decide) (by decide +kernel) (λ_=>rfl) (λ_ _ _ hr hw'=>jw2 hr hw') h hw
theorem jg9 {n:Nat}{d:DataW H}(h:Rd enc w base sp held n 64 d)(hw:WT Tryz.prog 64 d):∃r:ao2,ao2.Ok r/\∀m,n<=m->dv Tryz.prog m 64 d=zg r.cs:=by
 obtain ⟨n',ds,rfl,rfl,hl,hf⟩:=av6 Tryz.underlying64 h hw
 match ds,hl with
 | [d0,d1],_=>
  obtain ⟨r0,w0⟩:=hf 0 _ d0 rfl rfl;obtain ⟨r1,w1⟩:=hf 1 _ d1 rfl rfl;obtain ⟨z,_,_,e0⟩:=bp8 Tryz.underlying3 r0;obtain ⟨l,k1,k2,e1⟩:=hd9 r1 w1;refine ⟨⟨z,l⟩,⟨k1,k2⟩,λm hm=>?_⟩
  cases m with
  | zero=>omega
  | succ m=>
   simp only[dv,Tryz.underlying64,zn,z8,dvF,e0 m om,e1 m om,zt,z3,jg4,jw1,iu8,zu,z2,zb,z7,↓reduceIte];rfl
theorem il1 {n:Nat}{d:DataW H}(h:Rd enc w base sp held n 22 d)(hw:WT Tryz.prog 22 d):∃l:List ao2,l.length<2^62/\(∀a∈l,ao2.Ok a)/\∀m,n<=m->dv Tryz.prog m 22 d=zg [.aa3 (l.map ao2.cs)]:=
 bb3 ao2.cs ao2.Ok Tryz.underlying22 iu8 (by decide) (by decide +kernel) (λ_=>rfl) (λ_ _ _ hr hw'=>jg9 hr hw') h hw
end Go.Id.Tryz
namespace Go.Id
open Go Go.Id
mutual
def isz:IV->Nat
 | .str s=>s.length+1
 | .aa3 es=>cw2 es+1
 | _=>1
def be7:List IV->Nat
 | []=>0
 | c::cs=>isz c+be7 cs
def cw2:List (List IV)->Nat
 | []=>0
 | e::es=>be7 e+cw2 es
end
theorem fd9 (a b:List IV):be7 (a++b)=be7 a+be7 b:=by
 induction a with
 | nil=>simp[be7]
 | cons x a ih=>simp only[zu,be7,ih];omega
theorem bx3 {α:Type}(f:α->List IV):∀(l:List α),∀a∈l,be7 (f a)<=cw2 (l.map f):=by
 intro l
 induction l with
 | nil=>intro a h;cases h
 | cons x l ih=>
  intro a h;simp only[zn,cw2];rcases z5.1 h with rfl|h
  ·omega
  ·have:=ih a h;omega
theorem at6 {α:Type}(f:α->List IV)(hf:∀a,1<=be7 (f a)):∀(l:List α),l.length<=cw2 (l.map f):=by
 intro l
 induction l with
 | nil=>simp
 | cons x l ih=>
  simp only[zn,cw2,zt];have:=hf x;omega
namespace Md
theorem Dep.szs (d:Dep):be7 d.cs=d.name.length+d.evr.ver.length+d.evr.rel.length+5:=by
 simp only[Dep.cs,be7,isz];omega
theorem aa6.szs (r:aa6):be7 r.cs=r.dep.name.length+r.dep.evr.ver.length+r.dep.evr.rel.length+cw2 (r.args.map aa6.cs)+7:=by
 rw[aa6.ax5];simp only[be7,isz];omega
theorem aa2.szs (p:aa2):be7 p.cs=p.name.length+p.evr.ver.length+p.evr.rel.length+p.vendor.length+cw2 (p.provides.map Dep.cs)+cw2 (p.requires.map aa6.cs)+cw2 (p.conflicts.map aa6.cs)+cw2 (p.aa7.map Dep.cs)+cw2 (p.ar4.map aa6.cs)+cw2 (p.ap5.map aa6.cs)+cw2 (p.suggests.map aa6.cs)+cw2 (p.bb4.map aa6.cs)+cw2 (p.files.map bv8)+15:=by
 simp only[aa2.cs,be7,isz];omega
theorem ao2.szs (r:ao2):be7 r.cs=cw2 (r.packages.map aa2.cs)+2:=by
 simp only[ao2.cs,be7,isz];omega
theorem gi1 (r:aa6):r.count<=be7 r.cs:=by
 induction r using aa6.ind with
 | h k d xs ih=>
  rw[aa6.szs]
  have:∀ys:List aa6,(∀y∈ys,y∈xs)->aa6.counts ys<=cw2 (ys.map aa6.cs):=by
   intro ys
   induction ys with
   | nil=>intro _;simp[aa6.counts]
   | cons y ys ih2=>
    intro h;have h1:=ih y (h y (List.mem_cons_self ..));have h2:=ih2 λz hz=>h z (List.mem_cons_of_mem _ hz)
    simp only[aa6.counts,zn,cw2];omega
  have:=this xs λy h=>h
  simp only[aa6.count,aa6.args];omega
theorem ip1 (r:aa6):r.ok->be7 r.cs<2^31->r.fit:=by
 induction r using aa6.ind with
 | h k d xs ih=>
  intro ho hs;obtain ⟨a,b,c,e,f⟩:=aa6.gc2.1 ho;rw[aa6.szs] at hs;simp only[aa6.args] at hs;have hl:=at6 aa6.cs (λr=>by rw[aa6.szs];omega) xs;refine aa6.ce3.2 ⟨a,b,c,om,λr hr=>ih r hr (f r hr) ?_⟩;have:=bx3 aa6.cs xs r hr;omega
theorem ho5 {p:aa2}(h:p.Ok)(hs:be7 p.cs<2^31):p.Fit:=by
 rw[aa2.szs] at hs;have l1:=at6 Dep.cs (λr=>by rw[Dep.szs];omega) p.provides;have l2:=at6 Dep.cs (λr=>by rw[Dep.szs];omega) p.aa7;have l3:=at6 bv8 (λr=>by simp only[bv8,be7,isz];omega) p.files
 have hr:∀x∈p.rows,cw2 (x.2.map aa6.cs)<2^31:=by
  intro x hx;simp only[aa2.rows,z5,List.not_mem_nil,or_false] at hx;rcases hx with rfl|rfl|rfl|rfl|rfl|rfl<;>simp only[]<;>omega
 exact {
  name:=h.name
  evr:=h.evr
  at5:=⟨om,h.at5.2⟩
  obs:=⟨om,h.obs.2⟩
  files:=⟨om,h.files.2⟩
  cw8:=λx hx=>by
   have h1:=hr x hx;have h2:=at6 aa6.cs (λr=>by rw[aa6.szs];omega) x.2;refine ⟨om,λr hr'=>?_⟩;have h3:=bx3 aa6.cs x.2 r hr';have h4:=gi1 r;exact ⟨ip1 r ((h.cw8 x hx).2 r hr') om,om⟩ }
theorem ho6 (repos:List ao2):am8 repos<=cw2 (repos.map ao2.cs):=by
 induction repos with
 | nil=>simp[am8]
 | cons r rs ih=>
  have h2:=at6 aa2.cs (λr=>by rw[aa2.szs];omega) r.packages;have h3:=ao2.szs r;simp only[am8,zn,List.sum_cons,cw2] at ih ⊢;omega
end Md
end Go.Id
