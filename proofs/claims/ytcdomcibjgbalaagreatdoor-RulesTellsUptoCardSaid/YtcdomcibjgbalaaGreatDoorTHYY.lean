/- norm: the literals of all parts. Conditions: sizes that fit. -/
import Derived.Test.YtcdomcibjgbalaaGreatDoorTHYJ
import Derived.Test.YtcdomcibjgbalaaGreatDoorMv
import Derived.Test.YtcdomcibjgbalaaGreatDoorTHQO
import Derived.Test.YtcdomcibjgbalaaGreatDoorMsb
import Derived.Test.YtcdomcibjgbalaaGreatDoorGHR
open List renaming getD_eq_getElem?_getD→za,length_map→zb,length_take→ze,mem_map→zf,mem_append→zg,append_assoc→zh,take_length→zi,length_append→zj,map_append→zk,getElem?_eq_getElem→zm,mem_map_of_mem→zn,not_mem_nil→zo,head?_cons→zp,all_cons→zr,length_cons→zt,mem_cons→zu,length_nil→zv,append_nil→zw,mem_singleton→zx,all_nil→zy,getElem_mem→z0,map_nil→z2,mem_of_mem_take→z3,map_cons→z4,take_add_one→z5,flatMap_cons→z6,take_of_length_le→z7
open Nat renaming le_refl→zc,not_lt_zero→zq,lt_succ_self→zz,le_add_right→z1,le_trans→z8
open Option renaming some→zd
open Int renaming toNat_natCast→zl
set_option linter.all false
set_option maxRecDepth 100000
set_option maxHeartbeats 1000000
private theorem om{P:Prop}(h:P:=by omega):P:=h
namespace Go.Id.Tryz
open Go Go.Id Go.Proofs Go.Shelf Go.Id.Md
def kh6 (l:List aa2)(b:Int)(r:aa6):Prop:=∀(σ:Store) (tp mid:Nat) (allv clv:IV) (t:ag9),ar2 σ tp mid (ad8 l).v allv clv l t->t.OK l.length->t.few->t.h+r.count<=2^20 ->
 Cq 139 [.ptr tp 0,.agg r.cs,.int .i64 b] σ (ec9 σ tp mid (ad8 l).v allv clv l (r.by5 l b t))
def kh7 (σ:Store)(tp mid:Nat)(xv allv clv:IV)(P:List aa2)(r:List Int×ag9)(v:IV)(s:Store):Prop :=
 ∃clv',bd6 σ s tp mid clv clv'/\ar2 s tp mid xv allv clv' P r.2/\ai4 s σ.next v r.1/\(∀i k l,clv'=.slice i 0 k 1->v≠.slice i 0 l 1)/\(∀i k l,allv=.slice i 0 k 15->v≠.slice i 0 l 1)
variable (l:List aa2) (hl:l.length<=100) (b:Int)
include hl
theorem fk6 (k:Int)(d:Dep)(xs:List aa6)(hL:∀a∈xs,kh6 l b a)(hfa:∀a∈xs,a.an5 1 false=true\/a.an5 1 true=true)(hcn:aa6.counts xs<=100)(σ:Store)(tp mid:Nat)(allv clv:IV)(t:ag9)
  (h:ar2 σ tp mid (ad8 l).v allv clv l t) (ho:t.OK l.length) (hf:t.few) (hh:t.h+aa6.counts xs<=2^20) :
  Cq 211 [.ptr tp 0,.agg (aa6.mk k d xs).cs,.int .i64 b] σ (kh7 σ tp mid (ad8 l).v allv clv l (aa6.an1 l b xs t)):=by
 refine C_f fok211 (nZ rfl) ?_;have hal:=aa6.bw3 xs;simp only[ic211,go_sem,ac5,er2]
 refine ab1 noT (λi fr s=>∃gv,fr=[(0,.ptr tp 0),(2,.int .i64 b),(7,gv),(11,.aa3 (xs.map aa6.cs)),(12,.int .i64 xs.length),(13,.int .i64 (i:Int))]/\kh7 σ tp mid (ad8 l).v allv clv l (aa6.an1 l b (xs.take i) t) gv s) xs.length
  ⟨.aa1,rfl,clv,bd6.refl _ _ _ _,h,.inl ⟨rfl,rfl⟩,λ_ _ _ _ e=>(by cases e),λ_ _ _ _ e=>(by cases e)⟩ ?_
 rintro i fr s hle ⟨gv,rfl,clv',hT,hM,hg,hne,hna⟩;by_cases hlt:i<xs.length
 ·obtain ⟨a,ha,hai,hdr,hget,htk⟩:=ad2 xs i hlt;have c1:(i:Int)<xs.length:=om;have c2:(0:Int)<=(i:Int):=om;have wi:=ac3 (i:=i) om;have hct:=ey4 xs i hlt;have hxi:xs[i]=a:=by rw[zm hlt] at hai;exact zd.inj hai
  rw[hxi] at hct;have hsub:∀x∈xs.take i,x∈xs:=λx hx=>z3 hx
  have hK:=en2 l b (xs.take i) (λx hx=>hfa x (hsub x hx)) t ho;have hFw:=fj5 l hl b (xs.take i) (λx hx=>by have:=aa6.bc3 (hsub x hx);omega) t hf;have hll:=cf6 l b (xs.take i) t;have hsn:=gu8 l b a (xs.take i) t;rw[<- htk] at hsn;have hh2:=hK.le.2;obtain ⟨hO2,_⟩:=hK.ok;have hlen:(aa6.an1 l b (xs.take i) t).1.length<=i:=by rw[hll,ze];omega
  generalize aa6.an1 l b (xs.take i) t=w at *;simp only[go_sem,c1,c2,hget,ae6,ad9,ac5];have hKb:∀A B:aj2,Kept s ⟨s.next+1+1,(((⟨s.next+1,s.obj⟩:Store).put s.next A).put s.next B).obj⟩:=λA B=>(Kept.box s A B).up 1
  refine ac4 fok139 (hL a ha _ tp mid allv clv' _ (hM.mono (hKb _ _).next (hKb _ _).obj) hO2 hFw om) ?_;rintro v u ⟨rfl,clv2,hT2,hM2⟩;refine ⟨hT2.next,?_⟩;have hT3:bd6 s u tp mid clv' clv2:=(ar7 (hKb (.cells [.int .u8 0,.str [],.int .u8 0,.int .i64 0,.str [],.str [],.aa1]) (.cells a.cs)) tp mid clv').trans hT2;have hg2:=hT3.kl5 hM hg hne;have hnx:s.next+1+1<=u.next:=hT2.next;have hnew:=hT2.new
  have hgs:∀i m,gv=.slice i 0 m 1->i<s.next:=λi m e=>by
   rcases hg with ⟨h0,_⟩|⟨j,_,hj,h0,_⟩
   ·rw[h0] at e;cases e
   ·rw[h0] at e;cases e;exact hj
  have hne2:∀i k m,clv2=.slice i 0 k 1->gv≠.slice i 0 m 1:=λi k m e e2=>by
   have h1:=hgs i m e2;rcases hnew with h3|h3
   ·exact hne i k m (by rw[<- h3];exact e) e2
   ·have h4:s.next+1+1<=i:=h3 i k e;omega
  have hfree:=hM.free (i:=s.next+1) om;have hap:=az9 (nid:=s.next+1) hg2 (a.by5 l b w.2).1 om
  obtain ⟨q1,q2,q3,q4,q5⟩:=tab_row2 (nid:=s.next+1) hM2 hg2 hne2 hna (a.by5 l b w.2).1 (by have:=hT.next;omega) om ⟨hfree.1,hfree.2.1,λk e=>by
   rcases hnew with h3|h3
   ·exact hfree.2.2.1 k (by rw[<- h3];exact e)
   ·have h4:s.next+1+1<=s.next+1:=h3 _ k e;omega,hfree.2.2.2⟩ rfl
  simp only[go_sem,hap,wi];refine ⟨hlt,_,rfl,clv2,q2 σ clv (hT.trans hT3) (zc _),?_,?_,q4,q5⟩
  ·rw[hsn];exact q1
  ·rw[hsn];exact q3
 ·have hi':i=xs.length:=om;subst hi';have c1:¬(xs.length:Int)<xs.length:=om;rw[zi] at hM hg;simp only[go_sem,c1];exact ⟨clv',hT,hM,hg,hne,hna⟩
end Go.Id.Tryz
namespace Go.Id.Tryz
open Go Go.Id Go.Proofs Go.Shelf Go.Id.Md
theorem fk7 {zs:List Int}(h:zs.length=2):∃x y,zs=[x,y]:=by
 match zs,h with
 | [x,y],_=>exact ⟨x,y,rfl⟩
theorem du6 {zs:List Int}(h:zs.length=3):∃x y z,zs=[x,y,z]:=by
 match zs,h with
 | [x,y,z],_=>exact ⟨x,y,z,rfl⟩
variable (l:List aa2) (hl:l.length<=100) (b:Int)
theorem fk8 {σ s:Store}{tp mid g:Nat}{xv allv clv v:IV}{w:List Int×ag9}{r:Int×ag9}(h:kh7 σ tp mid xv allv clv l w v s)
  (hg:∀K clv',ar2 K tp mid xv allv clv' l w.2->Cq g [.ptr tp 0,.aa3 (w.1.map Md.ae1)] K (ec9 K tp mid xv allv clv' l r)):Cq g [.ptr tp 0,v] s (λv' u=>s.next<=u.next/\ec9 σ tp mid xv allv clv l r v' u):=by
 obtain ⟨clv',h1,h2,h3,h4,h5⟩:=h;exact hl8 h2 h1 h3.w (zc _) ⟨h4,h5⟩ λK hK=>hg K clv' hK
structure gd8 (l:List aa2) (b:Int) (xs:List aa6) (t:ag9):Prop where
 lit:∀a∈xs,kh6 l b a
 fits:∀a∈xs,a.an5 1 false=true\/a.an5 1 true=true
 few:aa6.counts xs<=99
 ok:t.OK l.length
 ju2:t.few
 le:t.h+(aa6.counts xs+1)<=2^20
include hl
theorem cg2 {xs:List aa6}{t:ag9}(h:gd8 l b xs t):(aa6.an1 l b xs t).2.few/\(aa6.an1 l b xs t).2.h<2^20/\(aa6.an1 l b xs t).1.length=xs.length/\xs.length<=99/\∀x∈(aa6.an1 l b xs t).1,-(2^30)<=x/\x<=2^30:=by
 have h1:=en2 l b xs h.fits t h.ok;have h2:=fj5 l hl b xs (λx hx=>by have:=aa6.bc3 hx;have:=h.few;omega) t h.ju2;have h3:=h1.le.2;have h4:=h.le;have h5:=aa6.bw3 xs;have h6:=h.few;refine ⟨h2,om,cf6 l b xs t,om,λx hx=>?_⟩;have:=h1.ok.2 x hx;exact ⟨by have:=this.2.1;omega,by have:=this.2.2;omega⟩
theorem kh8 (k:Int)(d:Dep)(xs:List aa6)(σ:Store)(tp mid:Nat)(allv clv:IV)(t:ag9)(h:ar2 σ tp mid (ad8 l).v allv clv l t)(hp:gd8 l b xs t) :
  Cq 178 [.ptr tp 0,.agg (aa6.mk k d xs).cs,.int .i64 b] σ (ec9 σ tp mid (ad8 l).v allv clv l (cf5 l.length (aa6.an1 l b xs t).1 (aa6.an1 l b xs t).2)):=by
 refine C_f fok178 (nZ rfl) ?_;obtain ⟨p1,p2,p3,p4,p5⟩:=cg2 l hl b hp;simp only[ic178,go_sem,ac5,ae6,ad9];refine ac4 fok211 (fk6 l hl b k d xs hp.lit hp.fits (by have:=hp.few;omega) _ tp mid allv clv t h hp.ok hp.ju2 (by have:=hp.le;omega)) ?_;rintro v s hL;refine ⟨by obtain ⟨_,h1,_⟩:=hL;exact h1.next,?_⟩;simp only[go_sem];refine ac4 fok210 (fk8 l hL λK clv' hK=>hl9 _ om (λx hx=>by have:=p5 x hx;omega) K tp mid _ allv clv' l _ hK om p2 p1) ?_;rintro v' u ⟨h1,h2⟩;refine ⟨h1,?_⟩;simp only[go_sem];exact h2
theorem kx1 (k:Int)(d:Dep)(xs:List aa6)(σ:Store)(tp mid:Nat)(allv clv:IV)(t:ag9)(h:ar2 σ tp mid (ad8 l).v allv clv l t)(hp:gd8 l b xs t) :
  Cq 179 [.ptr tp 0,.agg (aa6.mk k d xs).cs,.int .i64 b] σ (ec9 σ tp mid (ad8 l).v allv clv l (ak2 l.length (aa6.an1 l b xs t).1 (aa6.an1 l b xs t).2)):=by
 refine C_f fok179 (nZ rfl) ?_;obtain ⟨p1,p2,p3,p4,p5⟩:=cg2 l hl b hp;simp only[ic179,go_sem,ac5,ae6,ad9];refine ac4 fok211 (fk6 l hl b k d xs hp.lit hp.fits (by have:=hp.few;omega) _ tp mid allv clv t h hp.ok hp.ju2 (by have:=hp.le;omega)) ?_;rintro v s hL;refine ⟨by obtain ⟨_,h1,_⟩:=hL;exact h1.next,?_⟩;simp only[go_sem];refine ac4 fok212 (fk8 l hL λK clv' hK=>cz8 _ om (λx hx=>by have:=p5 x hx;omega) K tp mid _ allv clv' l _ hK om p2 p1) ?_;rintro v' u ⟨h1,h2⟩;refine ⟨h1,?_⟩;simp only[go_sem];exact h2
theorem ju1 (k:Int)(d:Dep)(xs:List aa6)(hx:xs.length=2\/xs.length=3)(σ:Store)(tp mid:Nat)(allv clv:IV)(t:ag9)(h:ar2 σ tp mid (ad8 l).v allv clv l t)(hp:gd8 l b xs t) :
  Cq 180 [.ptr tp 0,.agg (aa6.mk k d xs).cs,.int .i64 b] σ (ec9 σ tp mid (ad8 l).v allv clv l (fi9 l.length 4 (aa6.an1 l b xs t).1 (aa6.an1 l b xs t).2)):=by
 refine C_f fok180 (nZ rfl) ?_;obtain ⟨p1,p2,p3,p4,p5⟩:=cg2 l hl b hp;simp only[ic180,go_sem,ac5,ae6,ad9];refine ac4 fok211 (fk6 l hl b k d xs hp.lit hp.fits (by have:=hp.few;omega) _ tp mid allv clv t h hp.ok hp.ju2 (by have:=hp.le;omega)) ?_;rintro v s ⟨clv',hT,hM,hr,hne,hna⟩;refine ⟨hT.next,?_⟩;generalize aa6.an1 l b xs t=w at *;obtain ⟨zs,t2⟩:=w;simp only at *;obtain ⟨id,rfl,hob⟩:=gu9 hr om;rcases hx with hx|hx
 ·obtain ⟨x,y,rfl⟩:=fk7 (p3.trans hx);have hy:=p5 y (by simp);have hxx:=p5 x (by simp);have n23:¬(2:Int)=3:=by decide
  have wy:IntKind.wrap .i64 (0-y)=-y:=by rw[wrap64 om om];omega
  have e:fi9 l.length 4 [x,y] t2=ak2 l.length [x,-y] t2:=rfl;rw[e];simp only[go_sem,hob,z4,z2,zt,zv,wy,n23]
  refine ac4 fok212 (cz8 [x,-y] (by simp) (λz hz=>by
   simp only[zu,zo,or_false] at hz;rcases hz with rfl|rfl<;>omega) _ tp mid _ allv clv' l t2 (hM.up _) om p2 p1) ?_
  rintro v' u hO;refine ⟨by obtain ⟨_,_,h2,_⟩:=hO;exact h2.next,?_⟩;simp only[go_sem];exact hO.from (hT.up _)
 ·obtain ⟨x,y,z,rfl⟩:=du6 (p3.trans hx);have hxx:=p5 x (by simp);have hy:=p5 y (by simp);have hz:=p5 z (by simp);have e:fi9 l.length 4 [x,y,z] t2=bq7 l.length x z y t2:=rfl;rw[e];simp only[go_sem,hob,z4,z2,zt,zv];refine ac4 fok213 (fo8 x z y om om om _ tp mid _ allv clv' l t2 (hM.up _) om p2 p1) ?_;rintro v' u hO;refine ⟨by obtain ⟨_,_,h2,_⟩:=hO;exact h2.next,?_⟩;simp only[go_sem];exact hO.from (hT.up _)
theorem ii3 (k:Int)(d:Dep)(xs:List aa6)(hx:xs.length=2\/xs.length=3)(σ:Store)(tp mid:Nat)(allv clv:IV)(t:ag9)(h:ar2 σ tp mid (ad8 l).v allv clv l t)(hp:gd8 l b xs t) :
  Cq 181 [.ptr tp 0,.agg (aa6.mk k d xs).cs,.int .i64 b] σ (ec9 σ tp mid (ad8 l).v allv clv l (fi9 l.length 5 (aa6.an1 l b xs t).1 (aa6.an1 l b xs t).2)):=by
 refine C_f fok181 (nZ rfl) ?_;obtain ⟨p1,p2,p3,p4,p5⟩:=cg2 l hl b hp;simp only[ic181,go_sem,ac5,ae6,ad9];refine ac4 fok211 (fk6 l hl b k d xs hp.lit hp.fits (by have:=hp.few;omega) _ tp mid allv clv t h hp.ok hp.ju2 (by have:=hp.le;omega)) ?_;rintro v s ⟨clv',hT,hM,hr,hne,hna⟩;refine ⟨hT.next,?_⟩;generalize aa6.an1 l b xs t=w at *;obtain ⟨zs,t2⟩:=w;simp only at *;obtain ⟨id,rfl,hob⟩:=gu9 hr om;rcases hx with hx|hx
 ·obtain ⟨x,y,rfl⟩:=fk7 (p3.trans hx);have hy:=p5 y (by simp);have hxx:=p5 x (by simp);have n23:¬(2:Int)=3:=by decide
  have wy:IntKind.wrap .i64 (0-y)=-y:=by rw[wrap64 om om];omega
  have e:fi9 l.length 5 [x,y] t2=cf5 l.length [x,-y] t2:=rfl;rw[e];simp only[go_sem,hob,z4,z2,zt,zv,wy,n23]
  refine ac4 fok210 (hl9 [x,-y] (by simp) (λz hz=>by
   simp only[zu,zo,or_false] at hz;rcases hz with rfl|rfl<;>omega) _ tp mid _ allv clv' l t2 (hM.up _) om p2 p1) ?_
  rintro v' u hO;refine ⟨by obtain ⟨_,_,h2,_⟩:=hO;exact h2.next,?_⟩;simp only[go_sem];exact hO.from (hT.up _)
 ·obtain ⟨x,y,z,rfl⟩:=du6 (p3.trans hx);have hxx:=p5 x (by simp);have hy:=p5 y (by simp);have hz:=p5 z (by simp);have e:fi9 l.length 5 [x,y,z] t2=bq7 l.length z x y t2:=rfl;rw[e];simp only[go_sem,hob,z4,z2,zt,zv];refine ac4 fok213 (fo8 z x y om om om _ tp mid _ allv clv' l t2 (hM.up _) om p2 p1) ?_;rintro v' u hO;refine ⟨by obtain ⟨_,_,h2,_⟩:=hO;exact h2.next,?_⟩;simp only[go_sem];exact hO.from (hT.up _)
end Go.Id.Tryz
namespace Go.Id.Tryz
open Go Go.Id Go.Proofs Go.Shelf Go.Id.Md
theorem kh9 (l:List aa2)(hl:l.length<=100)(hs:∀p∈l,Pkg.small p)(b:Int)(r:aa6):r.an5 1 false=true\/r.an5 1 true=true->r.fit->r.count<=100->kh6 l b r:=by
 induction r using aa6.ind with
 | h k d xs ih=>
  intro hf hfit hcn σ tp mid allv clv t h ho hfw hh;simp only[aa6.count] at hcn hh;obtain ⟨h1,h2⟩:=de7 hf;obtain ⟨f1,f2,f3,f4,f5⟩:=aa6.ce3.1 hfit;have hp:gd8 l b xs t:=⟨λa ha=>ih a ha (h2 a ha) (f5 a ha) (by have:=aa6.bc3 ha;omega),h2,om,ho,hfw,om⟩
  have eL:(aa6.mk k d xs).by5 l b t=if k=1 then fi8 l.length (bz9 (ag1 l d) b) t
   else if k=6\/k=7 then fi8 l.length (bz9 (numsOf (λp=>(aa6.mk k d xs).alone p) l) b) t
   else fi9 l.length k (aa6.an1 l b xs t).1 (aa6.an1 l b xs t).2:=by rw[aa6.by5]
  rw[eL];refine C_f fok139 (nZ rfl) ?_;have hK:∀A B:aj2,Kept σ ⟨σ.next+1+9,(((⟨σ.next+1,σ.obj⟩:Store).put σ.next A).put σ.next B).obj⟩:=λA B=>(Kept.box σ A B).up 9
  rcases du2 h1 with ⟨rfl,hn,hd⟩|rfl|rfl|⟨rfl,hn⟩|⟨rfl,hn⟩|rfl|rfl
  ·rw[if_pos rfl];have hx:xs=[]:=List.length_eq_zero_iff.1 hn;subst hx;simp only[ic139,go_sem,ac5,ae6,ad9,br7];refine ⟨rfl,?_⟩;refine ac4 fok177 (jx4 l hl hs b d hd _ tp mid allv clv t (h.mono (hK _ _).next (hK _ _).obj) om hfw) ?_;rintro v u hO;refine ⟨by obtain ⟨_,_,g,_⟩:=hO;exact g.next,?_⟩;simp only[go_sem];exact hO.from (ar7 (hK _ _) _ _ _)
  ·rw[if_neg (by decide),if_neg (by decide),show fi9 l.length 2 _ _=cf5 l.length _ _ from rfl];simp only[ic139,go_sem,ac5,ae6,ad9,br7];refine ⟨rfl,?_⟩;refine ac4 fok178 (kh8 l hl b 2 d xs _ tp mid allv clv t (h.mono (hK _ _).next (hK _ _).obj) hp) ?_;rintro v u hO;refine ⟨by obtain ⟨_,_,g,_⟩:=hO;exact g.next,?_⟩;simp only[go_sem];exact hO.from (ar7 (hK _ _) _ _ _)
  ·rw[if_neg (by decide),if_neg (by decide),show fi9 l.length 3 _ _=ak2 l.length _ _ from rfl];simp only[ic139,go_sem,ac5,ae6,ad9,br7];refine ⟨rfl,?_⟩;refine ac4 fok179 (kx1 l hl b 3 d xs _ tp mid allv clv t (h.mono (hK _ _).next (hK _ _).obj) hp) ?_;rintro v u hO;refine ⟨by obtain ⟨_,_,g,_⟩:=hO;exact g.next,?_⟩;simp only[go_sem];exact hO.from (ar7 (hK _ _) _ _ _)
  ·rw[if_neg (by decide),if_neg (by decide)];simp only[ic139,go_sem,ac5,ae6,ad9,br7];refine ⟨rfl,?_⟩;refine ac4 fok180 (ju1 l hl b 4 d xs hn _ tp mid allv clv t (h.mono (hK _ _).next (hK _ _).obj) hp) ?_;rintro v u hO;refine ⟨by obtain ⟨_,_,g,_⟩:=hO;exact g.next,?_⟩;simp only[go_sem];exact hO.from (ar7 (hK _ _) _ _ _)
  ·rw[if_neg (by decide),if_neg (by decide)];simp only[ic139,go_sem,ac5,ae6,ad9,br7];refine ⟨rfl,?_⟩;refine ac4 fok181 (ii3 l hl b 5 d xs hn _ tp mid allv clv t (h.mono (hK _ _).next (hK _ _).obj) hp) ?_;rintro v u hO;refine ⟨by obtain ⟨_,_,g,_⟩:=hO;exact g.next,?_⟩;simp only[go_sem];exact hO.from (ar7 (hK _ _) _ _ _)
  ·rw[if_neg (by decide),if_pos (by decide)];simp only[ic139,go_sem,ac5,ae6,ad9,br7];refine ⟨rfl,?_⟩;refine ac4 fok182 (hm5 l hl hs b (.mk 6 d xs) (du1 (by decide) hf) hfit _ tp mid _ allv clv t (h.mono (hK _ _).next (hK _ _).obj) om hfw) ?_;rintro v u hO;refine ⟨by obtain ⟨_,_,g,_⟩:=hO;exact g.next,?_⟩;simp only[go_sem];exact hO.from (ar7 (hK _ _) _ _ _)
  ·rw[if_neg (by decide),if_pos (by decide)];simp only[ic139,go_sem,ac5,ae6,ad9,br7];refine ⟨rfl,?_⟩;refine ac4 fok182 (hm5 l hl hs b (.mk 7 d xs) (du1 (by decide) hf) hfit _ tp mid _ allv clv t (h.mono (hK _ _).next (hK _ _).obj) om hfw) ?_;rintro v u hO;refine ⟨by obtain ⟨_,_,g,_⟩:=hO;exact g.next,?_⟩;simp only[go_sem];exact hO.from (ar7 (hK _ _) _ _ _)
theorem it6 (l:List aa2)(hl:l.length<=100)(hs:∀p∈l,Pkg.small p)(b:Int)(r:aa6)(hm:ao3 r 1=0)(hfit:r.fit)(σ:Store)(tp mid:Nat)(allv clv:IV)(t:ag9)(h:ar2 σ tp mid (ad8 l).v allv clv l t)(ho:t.OK l.length)(hfw:t.few)(hh:t.h+r.count<=2^20) :
  Cq 101 [.ptr tp 0,.agg r.cs,.int .i64 b] σ (λv s=>∃w,v=.tuple [w,.int .i64 0]/\ec9 σ tp mid (ad8 l).v allv clv l (r.by5 l b t) w s):=by
 refine C_f fok101 (nZ rfl) ?_;obtain ⟨g1,g2,g3⟩:=bw5 hm (.inl rfl);have hM:=df8 r 1 hfit om;have hC:=ch1 r hfit om;have hc:=h.cell;rw[hm] at hM;have w1:IntKind.wrap .i64 ((t.h:Int)+(r.count:Int))=((t.h+r.count:Nat):Int):=by rw[wrap64 om om];omega
 have c1:¬(1048576:Int)<((t.h+r.count:Nat):Int):=om;simp only[ic101,go_sem,ac5,ae6,ad9];refine aa4 fok121 (hM) ?_;simp only[go_sem,hc,ae6,ad9,ac5]
 first|refine aa4 fok138 (hC) ?_|refine ab2 (hC) ?_
 simp only[go_sem,w1,c1,ae6,ad9,ac5];refine ac4 fok139 (kh9 l hl hs b r (.inl g1) hfit om _ tp mid allv clv t (h.up _) ho hfw hh) ?_;rintro v u hO;refine ⟨by obtain ⟨_,_,g,_⟩:=hO;exact g.next,?_⟩;simp only[go_sem];exact ⟨v,rfl,hO.from ((bd6.refl σ tp mid clv).up _)⟩
structure en6 (r:Req):Prop where
 af2:r.af2.length<2^20
 ag5:r.ag5.length<2^20
 it9:∀j∈r.af2,Dep.small j.dep/\j.dep.name.length<2^30
theorem ba1 (r:Req):∀c∈r.cs,Bnd 0 c:=jb7 (.int _ _) (.bool _) (ch8 _) (be2 _) (.int _ _)
theorem je2 (r:Req):r.cs.length=5:=rfl
theorem ag3 (r:Req):r.cs.all IV.leaf=true:=rfl
theorem bb5 (r:Req):r.cs.take 5=r.cs:=rfl
theorem gw7 (j:Job)(h:Dep.small j.dep/\j.dep.name.length<2^30):Pq 49 [.agg j.cs] (.bool (!av8 j)):=by
 refine af4 hE fok49 (nZ rfl) (ak1 (im6 j)) ?_;have hd:=cg8 j.dep om (by have:=h.1.2.2.1;omega) (by have:=h.1.2.2.2;omega);have k0:j.cs.head? = zd (.int .u8 j.kind):=rfl;have k1:=cz7 j;have k2:(j.cs.drop 1).length=5:=rfl;unfold av8;by_cases e1:j.kind<1
 ·have e1':¬1<=j.kind:=om;simp only[ic49,go_sem,bb7,k0,e1];exact ab6 (by simp[e1'])
 have e1':1<=j.kind:=om;by_cases e2:4<j.kind
 ·have e2':¬j.kind<=4:=om;simp only[ic49,go_sem,bb7,k0,e1,e2];exact ab6 (by simp[e2'])
 have e2':j.kind<=4:=om;simp only[ic49,go_sem,bb7,k0,k1,k2,e1,e2];refine aa4 fok50 (hd) ?_;simp only[go_sem];exact ab6 (by simp[e1',e2'])
theorem gd9 (e:az4)(af2 inst:Int):Pq 53 [.agg e.cs,.int .i64 af2,.int .i64 inst] (.bool (au5 e af2 inst)):=by
 refine af4 hE fok53 (nZ rfl) (ce2 (ch9 e) (.int _ _) (.int _ _)) ?_;have k0:e.cs.head? = zd (.int .u8 e.kind):=rfl;have k1:(e.cs.drop 1).head? = zd (.int .i64 e.n):=rfl;unfold au5;by_cases d1:e.kind=1
 case' pos=>
  have f1:(1:Int)<=1:=by decide
  have f2:(1:Int)<=4:=by decide
  rw[d1] at k0 ⊢;simp only[ic53,go_sem,ai6,k0,f1,f2,k1];generalize af2=most
 case' neg=>
  rw[if_neg d1];by_cases d2:1<=e.kind
  case' neg=>
   simp only[ic53,go_sem,ai6,k0,d1,d2];exact ab6 (by simp)
  by_cases d3:e.kind<=4
  case' neg=>
   simp only[ic53,go_sem,ai6,k0,d1,d2,d3];exact ab6 (by simp)
  simp only[ic53,go_sem,ai6,k0,d1,d2,d3,k1];generalize inst=most
 all_goals
  by_cases d4:0<=e.n
  ·simp only[go_sem,d4,k1];exact ab6 (by simp)
  ·simp only[go_sem,d4];exact ab6 (by simp)
theorem je3 (e:az4)(p:Pool)(r:Req):Pq 52 [.agg e.cs,.ab8 r.cs,.ab8 [p.v]] (.bool (!au5 e r.af2.length p.inst)):=by
 refine af4 hE fok52 (nZ rfl) (ce2 (ch9 e) (.ab8 _ (ba1 r)) (.ab8 _ (ak1 (bf8 p)))) ?_;have h1:=ba2 p;have h2:=gd9 e r.af2.length p.inst;have k2:(r.cs.drop 2).head? = zd (as5 r.af2):=rfl;simp only[ic52,go_sem,ai6,an7,aq1,k2]
 first|refine aa4 fok54 (h1) ?_|refine ab2 (h1) ?_
 simp only[go_sem];refine ab2 (h2) ?_;simp only[go_sem];exact ab6 rfl
theorem it7 (r:Req)(h1:r.af2.length<=2147483648)(h2:r.ag5.length<=2147483648):Pq 56 [.agg r.cs] (.agg r.cs):=by
 refine af4 hE fok56 (nZ rfl) (ak1 (.agg _ (ba1 r))) ?_;have c1:=fd2 r.af2 h1;have c2:=eq5 r.ag5 h2;have hb:=ba1 r;unfold Req.cs at *;simp only[ic56,go_sem];refine ab2 (c1) ?_;simp only[go_sem];refine ab2 (c2) ?_;simp only[go_sem];exact .keep _ (.agg _ hb)
theorem je4 {α:Type}(q:α->Bool)(l:List α):(l.any λx=>!q x)=!l.all q:=by
 induction l with
 | nil=>rfl
 | cons x l ih=>simp only[List.any_cons,zr,ih,Bool.not_and]
theorem gw8 (p:Pool)(r:Req)(hR:en6 r)(hl:(ac1 p).length<=256)(hf:∀x∈ac1 p,x.Fit/\x.Tiny):Pq 25 [p.v,.agg r.cs] (jk8 p r):=by
 refine af4 hE fok25 (nZ rfl) (ah6 (bf8 p) (.agg _ (ba1 r))) ?_;have hm:=ct4 r.ap7;have hJ:=hk6 r.af2 49 [] [] (λj=>!av8 j) (by have:=hR.af2;omega) fok49.1 λj hj=>gw7 j (hR.it9 j hj)
 have hEd:=gg9 r.ag5 52 [] [.ab8 r.cs,.ab8 [p.v]] (λe=>!au5 e r.af2.length p.inst) (by have:=hR.ag5;omega) fok52.1 λe he=>je3 e p r
 rw[je4] at hJ hEd;have hrl:p.rows.length=(ac1 p).length:=by simp[ac1]
 have hM:=bd9 p (λx hx=>(hf _ (zn (f:=λx:be5=>x.pkg) hx)).1) om (λx hx=>by
  have:=(hf _ (zn (f:=λx:be5=>x.pkg) hx)).2;have a:=this.at5.1;have b:=this.obs.1;have c:=this.files;omega)
 have hM:Pq 55 [p.v] (.tuple [(ad8 (ac1 p)).v,.int .i64 0]):=hM;have hO:=it7 r (by have:=hR.af2;omega) (by have:=hR.ag5;omega);have hC:=av2 p;rw[hrl] at hC
 have hpk:∀j (h:j<(ac1 p).length),Pq 57 [p.v,.int .i64 j] (.tuple [.agg (ac1 p)[j].cs,.int .i64 0]):=λj h=>by
  have hq:p.rows[j].pkg=(ac1 p)[j]:=by simp[ac1]
  have h1:=as9 p j om (by rw[hq];exact (hf _ (z0 h)).1);rw[hq] at h1;exact h1
 have hbA:=ah5 ⟨p,r⟩;have k0:r.cs.head? = zd (.int .u8 r.ap7):=rfl;have k2:(r.cs.drop 2).head? = zd (as5 r.af2):=rfl;have k3:(r.cs.drop 3).head? = zd (ao7 r.ag5):=rfl;have k4:(r.cs.drop 4).head? = zd (.int .i64 r.budget):=rfl;obtain ⟨V,hV⟩:∃V,jk8 p r=V:=⟨_,rfl⟩
 have herr:∀(s:Store) (e:Int),aj4 r p.inst=e->e≠0->cb5 s 0 (.tuple [.ae3,.int .i64 e]) V:=λs e h1 h2=>by
  rw[<- hV];unfold jk8;rw[h1,if_neg h2];exact .keep _ (.tuple _ (ah6 .ae3 (.int _ _)))
 rw[hV];have vcs:p.v.cs=[p.v]:=rfl;have vlf:p.v.leaf=true:=rfl;have vnl:∀d:TypeId,ct9 (.pointer d) p.v=zd false:=λ_=>rfl
 by_cases c1:bg8 r.ap7=false
 ·simp only[ic25,go_sem,vcs,zr,vlf,zy,zp,ag3,vnl,k0];refine aa4 fok47 (hm) ?_;simp only[go_sem,c1];exact herr _ 1 (by unfold aj4;rw[if_pos (.inl c1)]) (by decide)
 have c1':bg8 r.ap7=true:=by simpa using c1
 by_cases c2:r.budget<0
 ·simp only[ic25,go_sem,vcs,zr,vlf,zy,zp,ag3,vnl,k0];refine aa4 fok47 (hm) ?_;simp only[go_sem,c1',k4,c2];exact herr _ 1 (by unfold aj4;rw[if_pos (.inr (.inl c2))]) (by decide)
 by_cases c3:1099511627776<r.budget
 ·simp only[ic25,go_sem,vcs,zr,vlf,zy,zp,ag3,vnl,k0];refine aa4 fok47 (hm) ?_;simp only[go_sem,c1',k4,c2,c3];exact herr _ 1 (by unfold aj4;rw[if_pos (.inr (.inr c3))]) (by decide)
 have q1:¬(bg8 r.ap7=false\/r.budget<0\/1099511627776<r.budget):=λh=>h.elim c1 λh=>h.elim c2 c3
 by_cases c4:64<r.af2.length
 ·have c4':(64:Int)<r.af2.length:=om;simp only[ic25,go_sem,vcs,zr,vlf,zy,zp,ag3,vnl,k0];refine aa4 fok47 (hm) ?_;simp only[go_sem,c1',k4,c2,c3,k2,c4'];exact herr _ 40 (by unfold aj4;rw[if_neg q1,if_pos (.inl c4)]) (by decide)
 have c4':¬(64:Int)<r.af2.length:=om;by_cases c5:64<r.ag5.length
 ·have c5':(64:Int)<r.ag5.length:=om;simp only[ic25,go_sem,vcs,zr,vlf,zy,zp,ag3,vnl,k0];refine aa4 fok47 (hm) ?_;simp only[go_sem,c1',k4,c2,c3,k2,k3,c4',c5'];exact herr _ 40 (by unfold aj4;rw[if_neg q1,if_pos (.inr c5)]) (by decide)
 have c5':¬(64:Int)<r.ag5.length:=om;have q2:¬(64<r.af2.length\/64<r.ag5.length):=λh=>h.elim c4 c5
 by_cases c6:r.af2.all av8=false
 ·simp only[ic25,go_sem,vcs,zr,vlf,zy,zp,ag3,vnl,k0];refine aa4 fok47 (hm) ?_;simp only[go_sem,c1',k4,c2,c3,k2,k3,c4',c5'];refine aa4 fok48 (hJ) ?_;simp only[go_sem,c6,Bool.not_false];exact herr _ 4 (by unfold aj4;rw[if_neg q1,if_neg q2,if_pos c6]) (by decide)
 have c6':r.af2.all av8=true:=by simpa using c6
 simp only[ic25,go_sem,vcs,zr,vlf,zy,zp,ag3,vnl,k0];refine aa4 fok47 (hm) ?_;simp only[go_sem,c1',k4,c2,c3,k2,k3,c4',c5'];refine aa4 fok48 (hJ) ?_;simp only[go_sem,c6',Bool.not_true,k3];refine aa4 fok51 (hEd) ?_;by_cases c7:(r.ag5.all λe=>au5 e r.af2.length p.inst)=false
 ·simp only[go_sem,c7,Bool.not_false];exact herr _ 5 (by unfold aj4;rw[if_neg q1,if_neg q2,if_neg c6,if_pos c7]) (by decide)
 have c7':(r.ag5.all λe=>au5 e r.af2.length p.inst)=true:=by simpa using c7
 have hV0:V=.tuple [.ab8 [p.v,(ad8 (ac1 p)).v,.int .u8 r.ap7,.bool r.vendor,as5 r.af2,ao7 r.ag5,.int .i64 r.budget,.aa3 ((ac1 p).map aa2.cs)],.int .i64 0]:=by
  rw[<- hV];unfold jk8;rw[if_pos (by unfold aj4;rw[if_neg q1,if_neg q2,if_neg c6,if_neg c7])];rfl
 have hbX:=ar9 (ad8 (ac1 p));have hbP:=bf8 p;rw[hV0];clear herr hV hV0 hJ hEd;simp only[go_sem,c7',Bool.not_true];refine aa4 fok55 (hM) ?_;simp only[go_sem,je2,bb5]
 first|refine aa4 fok56 (hO) ?_|refine ab2 (hO) ?_
 have hrc:r.cs=[.int .u8 r.ap7,.bool r.vendor,as5 r.af2,ao7 r.ag5,.int .i64 r.budget]:=rfl;rw[hrc];have xlf:(ad8 (ac1 p)).v.leaf=true:=rfl;have xcs:(ad8 (ac1 p)).v.cs=[(ad8 (ac1 p)).v]:=rfl;generalize (ad8 (ac1 p)).v=X at *;generalize hPv:p.v=Pv at *;simp only[go_sem,vcs,vlf,xlf,xcs];refine aa4 fok43 (hC) ?_;simp only[go_sem];refine ab1 noT (λn fr s=>∃gv,fr=[(2,.ab8 [Pv]),(8,.ptr 5 0),(65,.int .i64 (ac1 p).length),(66,.int .i64 (n:Int))]/\7<=s.next/\s.obj 5=zd (.cells [Pv,X,.int .u8 r.ap7,.bool r.vendor,as5 r.af2,ao7 r.ag5,.int .i64 r.budget,gv])/\Grow s gv 15 (((ac1 p).take n).map aa2.cs)) (ac1 p).length ⟨.aa1,rfl,zc _,by simp only[aa5,if_true],.inl ⟨rfl,rfl⟩⟩ ?_;rintro n fr s hn ⟨gv,rfl,hnx,ho,hg⟩;by_cases hlt:n<(ac1 p).length
 ·have d1:(n:Int)<((ac1 p).length:Int):=om;have w1:=ac3 (i:=n) om;have hp:=hpk n hlt;have n5:¬5=s.next:=om
  have htk:(ac1 p).take (n+1)=(ac1 p).take n++[(ac1 p)[n]]:=by
   rw[z5,zm hlt];rfl
  have hgl:gv.leaf=true:=by rcases hg with ⟨rfl,_⟩|⟨id,rfl,_⟩<;>rfl
  have hgc:gv.cs=[gv]:=by rcases hg with ⟨rfl,_⟩|⟨id,rfl,_⟩<;>rfl
  simp only[go_sem,d1]
  first|refine aa4 fok57 (hp) ?_|refine ab2 (hp) ?_
  simp only[go_sem,af7,ae8,ac7,n5,ho,b_o,b_p,b_t];obtain ⟨s1,a1,a2,a3,a4⟩:=ib9 (k:=11) (nid:=s.next+1+1+1+1+1+1+1+1) (e:=(ac1 p)[n].cs) (A:=.cells [.str [],.int .i64 0,.str [],.str [],.int .u8 0,.str [],.aa1,.aa1,.aa1,.aa1,.aa1,.aa1,.aa1,.aa1,.aa1]) (B:=.cells (ac1 p)[n].cs) hg (aw6 _) ⟨rfl,rfl⟩ (by rw[zb,ze];omega) ho om om;simp only[go_sem,a1,a3,b_o,b_p,b_t,w1];refine ⟨hlt,_,by rw[a2];omega,rfl,?_⟩;rw[htk,zk];have a5:=a4 [Pv,X,.int .u8 r.ap7,.bool r.vendor,as5 r.af2,ao7 r.ag5,.int .i64 r.budget,.slice (s.next+1+1+1+1+1+1+1+1) 0 (((ac1 p).take n).length+1) 15] s1.next (by rw[a2];omega);rw[zb] at a5;exact a5
 ·have hn':n=(ac1 p).length:=om;subst hn';have d1:¬((ac1 p).length:Int)<((ac1 p).length:Int):=om;rw[zi] at hg;simp only[go_sem,d1]
  have hbe:∀e∈(ac1 p).map aa2.cs,∀c∈e,Bnd 0 c:=λe he c hc=>by
   obtain ⟨y,_,rfl⟩:=zf.1 he;exact au6 y c hc
  refine .by4 (.cons (.ptr 5 0 _ _ (zq _) (.inl ho) (zc _) (λj hj=>?_)) (.cons (bn2 rfl) .nil))
  match j,hj with
  | 0,_=>exact .keep _ hbP
  | 1,_=>exact .keep _ hbX
  | 2,_=>exact .keep _ (.int _ _)
  | 3,_=>exact .keep _ (.bool _)
  | 4,_=>exact .keep _ (ch8 _)
  | 5,_=>exact .keep _ (be2 _)
  | 6,_=>exact .keep _ (.int _ _)
  | 7,_=>exact hg.frz (λx hx=>(aw6 _ x hx).1) (λ_ _=>zq _) hbe
theorem ez4 (p:Pool)(hl:(ac1 p).length<=256)(hf:∀x∈ac1 p,x.Fit/\x.Tiny):Pq 98 [p.v] (.tuple [br6 (ac1 p),.int .i64 0]):=by
 refine af4 hE fok98 (nZ rfl) (ak1 (bf8 p)) ?_;have hrl:p.rows.length=(ac1 p).length:=by simp[ac1]
 have hM:=bd9 p (λx hx=>(hf _ (zn (f:=λx:be5=>x.pkg) hx)).1) om (λx hx=>by
  have:=(hf _ (zn (f:=λx:be5=>x.pkg) hx)).2;have a:=this.at5.1;have b:=this.obs.1;have c:=this.files;omega)
 have hM:Pq 55 [p.v] (.tuple [(ad8 (ac1 p)).v,.int .i64 0]):=hM;have hC:=av2 p;rw[hrl] at hC;have hb:=dh9 (ac1 p);unfold br6 at *;have xlf:(ad8 (ac1 p)).v.leaf=true:=rfl;have xcs:(ad8 (ac1 p)).v.cs=[(ad8 (ac1 p)).v]:=rfl;generalize (ad8 (ac1 p)).v=X at *;simp only[ic98,go_sem];refine aa4 fok55 (hM) ?_;simp only[go_sem];refine aa4 fok43 (hC) ?_;simp only[go_sem,xlf,xcs];exact .keep _ (.tuple _ (ah6 hb (.int _ _)))
theorem ay3 (a:ab3):Pq 42 [a.v] a.p.v:=by
 refine af4 hE fok42 (nZ rfl) (ak1 (ah5 a)) ?_;have hb:=bf8 a.p;unfold ab3.v ab3.cs;simp only[ic42,go_sem,ac2];exact .keep _ hb
theorem bm6 (a:ab3)(hA:AOK a):Pq 106 [a.v] (.agg a.r.cs):=by
 refine af4 hE fok106 (nZ rfl) (ak1 (ah5 a)) ?_;have hO:=it7 a.r (by have:=hA.af2;omega) (by have:=hA.ag5;omega);have hb:=ba1 a.r;unfold ab3.v ab3.cs;unfold Req.cs at *;simp only[ic106,go_sem,ac2]
 first|refine aa4 fok56 (hO) ?_|refine ab2 (hO) ?_
 simp only[go_sem];exact .keep _ (.agg _ hb)
theorem gw9 (p:Pool)(hl:(ac1 p).length<=256)(hf:∀x∈ac1 p,x.Fit/\x.Tiny)(σ:Store) :
  Cq 61 [p.v] σ (λv s=>∃tp mid allv,v=.tuple [.ptr tp 0,.int .i64 0]/\Kept σ s/\σ.next<=tp/\ar2 s tp mid (ad8 (ac1 p)).v allv .aa1 (ac1 p) ⟨0,[],[]⟩):=by
 refine C_f fok61 (nZ rfl) ?_;have hrl:p.rows.length=(ac1 p).length:=by simp[ac1]
 have hM:=bd9 p (λx hx=>(hf _ (zn (f:=λx:be5=>x.pkg) hx)).1) om (λx hx=>by
  have:=(hf _ (zn (f:=λx:be5=>x.pkg) hx)).2;have a:=this.at5.1;have b:=this.obs.1;have c:=this.files;omega)
 have hM:Pq 55 [p.v] (.tuple [(ad8 (ac1 p)).v,.int .i64 0]):=hM;have hC:=av2 p;rw[hrl] at hC
 have hpk:∀j (h:j<(ac1 p).length),Pq 57 [p.v,.int .i64 j] (.tuple [.agg ((ac1 p).getD j default).cs,.int .i64 0]):=λj h=>by
  have hj:j<p.rows.length:=om
  have hq:p.rows[j].pkg=(ac1 p).getD j default:=by
   have:(ac1 p).getD j default=(ac1 p)[j]:=by simp[za,h]
   rw[this];simp[ac1]
  have hm:(ac1 p).getD j default∈ac1 p:=by
   rw[za,zm h];exact z0 h
  have h1:=as9 p j hj (by rw[hq];exact (hf _ hm).1);rw[hq] at h1;exact h1
 have pvl:p.v.leaf=true:=rfl;have pvc:p.v.cs=[p.v]:=rfl;have xlf:(ad8 (ac1 p)).v.leaf=true:=rfl;have xcs:(ad8 (ac1 p)).v.cs=[(ad8 (ac1 p)).v]:=rfl;generalize (ad8 (ac1 p)).v=X at *;generalize p.v=PV at *;generalize ac1 p=l at *;simp only[ic61,go_sem,pvl,pvc];refine aa4 fok55 (hM) ?_;simp only[go_sem,xlf,xcs,pvl,pvc];refine aa4 fok43 (hC) ?_;simp only[go_sem]
 refine ab1 noT (λn fr s=>∃gv,fr=[(0,PV),(6,.ptr (σ.next+1) 0),(23,.int .i64 l.length),(24,.int .i64 (n:Int))]/\Kept σ s/\σ.next+2<=s.next/\s.obj σ.next=zd (.map [])/\s.obj (σ.next+1)=zd (.cells [X,gv,.int .i64 0,.aa1,.map σ.next])/\Grow s gv 15 ((l.take n).map aa2.cs)/\∀i k,gv=.slice i 0 k 15->σ.next<=i) l.length
   ⟨.aa1,rfl,⟨z1 _ _,λi hi=>?_⟩,zc _,?_,?_,.inl ⟨rfl,rfl⟩,λ_ _ e=>by cases e⟩ ?_
 ·have h1:¬i=σ.next:=om;have h2:¬i=σ.next+1:=om;simp only[aa5,h1,h2,if_false]
 ·have h1:¬σ.next=σ.next+1:=om;simp only[aa5,h1,if_true,if_false]
 ·simp only[aa5,if_true]
 rintro n fr s hn ⟨gv,rfl,hk,hnx,hm,ho,hg,hgi⟩;by_cases hlt:n<l.length
 ·have d1:(n:Int)<l.length:=om;have w1:=ac3 (i:=n) om;have hp:=hpk n hlt;have n1:¬σ.next+1=s.next:=om;have n0:¬σ.next=s.next:=om
  have htk:l.take (n+1)=l.take n++[l.getD n default]:=by
   have:l.getD n default=l[n]:=by simp[za,hlt]
   rw[this,z5,zm hlt];rfl
  generalize l.getD n default=q at *;have hgl:gv.leaf=true:=by rcases hg with ⟨rfl,_⟩|⟨id,rfl,_⟩<;>rfl
  have hgc:gv.cs=[gv]:=by rcases hg with ⟨rfl,_⟩|⟨id,rfl,_⟩<;>rfl
  obtain ⟨S,hS⟩:∃S:Store,S=(({ next:=s.next+1,obj:=s.obj }:Store).put s.next (aj2.cells [.str [],.int .i64 0,.str [],.str [],.int .u8 0,.str [],.aa1,.aa1,.aa1,.aa1,.aa1,.aa1,.aa1,.aa1,.aa1])).put s.next (aj2.cells q.cs):=⟨_,rfl⟩;have So:∀i,¬i=s.next->S.obj i=s.obj i:=λi hi=>by rw[hS];simp only[aa5,hi,if_false]
  have hg1:Grow (⟨s.next+1+11,S.obj⟩:Store) gv 15 ((l.take n).map aa2.cs):=hg.mono (by show s.next<=s.next+1+11;omega) λid _ hid=>So id om
  have hap:=ai2 (nid:=s.next+1+7) (e:=q.cs) hg1 (aw6 _) ⟨rfl,rfl⟩ (by rw[zb,ze];omega);rw[zb] at hap;have k1:=af5 hg1 (σ.next+1) _ (by rw[<- ho];exact So _ n1) (λ_ e=>by cases e);have k0:=af5 hg1 σ.next _ (by rw[<- hm];exact So _ n0) (λ_ e=>by cases e);have kn:(ae9 gv (⟨s.next+1+11,S.obj⟩:Store)).next=s.next+1+11:=ab7 gv;have m1:¬σ.next+1=s.next+1+7:=om;have m0:¬σ.next=s.next+1+7:=om;have m01:¬σ.next=σ.next+1:=om
  have kl:∀i,i<σ.next->(ae9 gv (⟨s.next+1+11,S.obj⟩:Store)).obj i=s.obj i:=λi hi=>by
   rcases hg1 with ⟨h0,_⟩|⟨j,hj,_,_⟩
   ·rw[h0];exact So i om
   ·have:=hgi j _ hj;rw[hj];show (if i=j then none else S.obj i)=_;rw[if_neg om];exact So i om
  simp only[go_sem,d1,pvl,pvc]
  first|refine aa4 fok57 (hp) ?_|refine ab2 (hp) ?_
  simp only[go_sem,af7,ae8,ac7,n1,n0,ho,b_o,b_p,b_t];rw[<- hS];generalize ae9 gv (⟨s.next+1+11,S.obj⟩:Store)=K at *;simp only[show s.next+1+1+1+1+1+1+1+1=s.next+1+7 from rfl,hap,go_sem,m1,m0,k1,k0,w1];refine ⟨hlt,_,⟨by rw[kn];omega,λi hi=>?_⟩,by rw[kn];omega,if_neg m01,rfl,?_,λi k e=>?_⟩
  ·have h1:¬i=s.next+1+7:=om;have h2:¬i=σ.next+1:=om;simp only[aa5,h1,h2,if_false];rw[kl i hi,hk.obj i hi]
  ·rw[htk,zk];refine .inr ⟨s.next+1+7,by rw[zj,zb];rfl,?_,by rw[kn];omega⟩;simp only[aa5];rw[if_neg (λe=>m1 e.symm),if_pos trivial];rfl
  ·cases e;omega
 ·have d1:¬(n:Int)<l.length:=om;rw[z7 om] at hg;simp only[go_sem,d1];exact ⟨σ.next+1,σ.next,gv,rfl,hk,om,{ cell:=ho,all:=hg,cls:=.inl ⟨rfl,rfl⟩,map:=hm,ne:=λ_ _ _ _ h=>(by cases h),lt:=⟨om,om⟩ }⟩
theorem bm7 (d:Itm):d.cs.length=3:=rfl
theorem bj6 (d:Itm):d.cs.all IV.leaf=true:=rfl
theorem bj7 (d:Itm):d.cs.take 3=d.cs:=rfl
theorem gx1 (d:Itm):d.cs.head? = zd (.int .u8 d.kind):=rfl
theorem gx2 (d:Itm):(d.cs.drop 1).head? = zd (.int .i64 d.p):=rfl
theorem bm8 (d:Itm):∀c∈d.cs,Bnd 0 c:=ce2 (.int _ _) (.int _ _) (.int _ _)
theorem en7 (d:Itm):Bnd 0 (.agg d.cs):=.agg _ (bm8 d)
theorem as7 (l:List Itm):Bnd 0 (aj5 l):=.aa3 _ λe he c hc=>by
 obtain ⟨d,_,rfl⟩:=zf.1 he;exact bm8 d c hc
theorem gx3 (l:List Itm):Bnd 0 (.al4 (bj4 l)):=.al4 _ (λe he=>by
 obtain ⟨d,_,rfl⟩:=zf.1 he;exact en7 d) λe he=>by
 obtain ⟨d,_,rfl⟩:=zf.1 he;exact .agg _ λc hc=>by cases hc
end Go.Id.Tryz
namespace Go.Id.Md
open Go Go.Id
def ab3.mcs (a:ab3):List IV:=[a.v,Go.Id.Tryz.br6 a.l,.aa3 (a.l.map aa2.cs),aj5 a.items,.al4 (bj4 a.items)]
def ab3.mv (a:ab3):IV:=.ab8 a.mcs
def ab3.held (a:ab3)(st:List Int)(x:Itm):List IV:=[a.mv,.aa3 (st.map Md.ae1),.int .u8 x.kind,.int .i64 x.p,.int .i64 x.q]
end Go.Id.Md
namespace Go.Id.Tryz
open Go Go.Id Go.Proofs Go.Shelf Go.Id.Md
open Go.Id.Md.ab3 (inS less)
theorem br3 (a:ab3):Bnd 0 a.mv:=.ab8 _ λc hc=>by
 simp only[ab3.mcs,zu,zo,or_false] at hc;rcases hc with rfl|rfl|rfl|rfl|rfl
 ·exact ah5 a
 ·exact dh9 _
 ·exact ap6 _
 ·exact as7 _
 ·exact gx3 _
theorem fk9 (zs:List Int)(hl:zs.length<2^30)(σ:Store):Cq 74 [.aa3 (zs.map Md.ae1)] σ (bo1 σ zs):=by
 cases hz:zs with
 | nil=>
  refine fg2 ?_ ?_
  ·refine C_f fok74 (nZ rfl) ?_;simp only[ic74,go_sem,ai7];exact ⟨Kept.refl σ,.inl ⟨rfl,rfl⟩⟩
  ·refine C_f fok74 (nZ rfl) ?_;simp only[ic74,go_sem,ai7];rw[bl7 (by simp only[aa5,if_true]) rfl];simp only[go_sem];refine ⟨⟨by show σ.next<=σ.next+2;omega,λi hi=>?_⟩,.inr ⟨σ.next,zc _,by show σ.next<σ.next+2;omega,rfl,by simp only[aa5,if_true];rfl⟩⟩;have:¬i=σ.next:=om
   simp only[aa5,this,if_false]
 | cons z ys=>
  have hne:zs≠[]:=by rw[hz];exact λh=>by cases h
  rw[<- hz];refine C_f fok74 (nZ rfl) ?_;have hnil:∀(d:TypeId),ct9 (.slice d) (.aa3 (zs.map Md.ae1))=zd false:=λd=>by rw[hz];rfl
  simp only[ic74,go_sem,hnil];generalize hS:Store.put _ σ.next (aj2.row [])=S;have hSn:S.next=σ.next+2:=by rw[<- hS];rfl
  have hSo:S.obj σ.next=zd (.row []):=by rw[<- hS];simp only[aa5,if_true]
  have hSk:∀i,i<σ.next->S.obj i=σ.obj i:=λi hi=>by
   have:¬i=σ.next:=om;rw[<- hS];simp only[aa5,this,if_false]
  have hg:ai4 S σ.next (.slice σ.next 0 0 1) []:=.inr ⟨σ.next,zc _,om,rfl,hSo⟩;obtain ⟨v',σ',h1,h2,h3,h4⟩:=ib8 (nid:=σ.next+1) (xs:=zs) hg (by simp only[zv];omega);simp only[go_sem,h1];have h5:=h4 σ' rfl om om om;rw[List.nil_append] at h5;exact ⟨⟨om,λi hi=>by rw[h3 i hi om];exact hSk i hi⟩,h5⟩
theorem cg3 (a:ab3){p:Nat}(h:p<a.l.length):a.pk p∈a.l:=by
 have:a.pk p=a.l[p]:=by simp[ab3.pk,za,h]
 rw[this];exact z0 h
theorem ki1 (a:ab3){p:Nat}(h:p<a.l.length):(a.l.map aa2.cs).getD p []=(a.pk p).cs:=by
 simp[ab3.pk,za,h]
theorem gx4 (l:List aa6){q:Nat}(h:q<l.length):(l.map aa6.cs).getD q []=(l.getD q default).cs:=by
 simp[za,h]
theorem it8 (l:List Dep){q:Nat}(h:q<l.length):(l.map Dep.cs).getD q []=(l.getD q default).cs:=by
 simp[za,h]
theorem getD_in {α:Type}[Inhabited α](l:List α){q:Nat}(h:q<l.length):l.getD q default∈l:=by
 have:l.getD q default=l[q]:=by simp[za,h]
 rw[this];exact z0 h
theorem ki2 (a:ab3):((ab3.mcs a).drop 3).head? = zd (aj5 a.items):=rfl
theorem ez5 (a:ab3):Pq 102 [a.v] (ad8 a.l).v:=by
 refine af4 hE fok102 (nZ rfl) (ak1 (ah5 a)) ?_;have hb:=ar9 (ad8 a.l);unfold ab3.v ab3.cs;simp only[ic102,go_sem,ac2];exact .keep _ hb
theorem df2 (xs:List Itm)(hn:xs.length<=2147483648):Pq 29 [.aa3 (xs.map Itm.cs)] (.aa3 (xs.map Itm.cs)):=by
 cases hx:xs with
 | nil=>
  rw[z2];refine bp2 ?_ ?_
  ·refine af4 hE fok29 (nZ rfl) (af3 .aa1) ?_;simp only[ic29,go_sem,ai7];exact .bz3
  ·refine af4 hE fok29 (nZ rfl) (af3 .af6) ?_;simp only[ic29,go_sem,ai7];rw[bl7 (by simp only[aa5,if_true]) rfl];simp only[go_sem]
   exact .dl5 _ _ _ (by simp only[aa5,if_true];exact λh=>(by cases h))
 | cons a as'=>
  have hne:xs.map Itm.cs≠[]:=by rw[hx];exact λh=>(by cases h)
  have hall:∀e∈xs.map Itm.cs,e.length=3/\e.all IV.leaf=true:=λe he=>by
   obtain ⟨x,_,rfl⟩:=zf.1 he;exact ⟨bm7 x,bj6 x⟩
  rw[<- hx];refine af4 hE fok29 (nZ rfl) (af3 (as7 xs)) ?_;have hnil:∀d,ct9 (.slice d) (.aa3 (xs.map Itm.cs))=zd false:=λd=>by rw[hx];rfl
  simp only[ic29,go_sem,ai7,hnil];rw[ck3 (by simp only[aa5,if_true]) hne hall (by rw[zb];exact hn)];simp only[go_sem];refine Grow.frz (esz:=3) (es:=xs.map Itm.cs) (.inr ⟨1,by rw[zb],by simp only[aa5,if_true],zz _⟩) (λx hx=>(hall x hx).1) (λ_ _=>zq _) (an2 (as7 xs))
theorem en8 (a:ab3)(hl:a.items.length<=2147483648):Pq 11 [a.mv] (aj5 a.items):=by
 refine af4 hE fok11 (nZ rfl) (ak1 (br3 a)) ?_;have h:=df2 a.items hl;have hnl:∀d:TypeId,ct9 (.pointer d) (.ab8 a.mcs)=zd false:=λ_=>rfl
 unfold ab3.mv at *;simp only[ic11,go_sem,hnl,ki2,ac2];refine aa4 fok29 (h) ?_;simp only[go_sem];exact .keep _ (as7 _)
structure MO (s:Store) (pp mid:Nat) (av tv allv itv:IV) (P:List aa2) (D:List Itm):Prop where
 cell:s.obj pp=zd (.cells [av,tv,allv,itv,.map mid])
 grow:Grow s itv 3 (D.map Itm.cs)
 map:s.obj mid=zd (.map (bj4 D))
 all:Grow s allv 15 (P.map aa2.cs)
 ne:∀i k j l,itv=.slice i 0 k 3->allv=.slice j 0 l 15->i≠j
 lt:pp<s.next/\mid<s.next
theorem MO.mono {s s':Store}{pp mid:Nat}{av tv allv itv:IV}{P:List aa2}{D:List Itm}(h:MO s pp mid av tv allv itv P D)(hn:s.next<=s'.next)(ho:∀i,i<s.next->s'.obj i=s.obj i):MO s' pp mid av tv allv itv P D where
 cell:=by rw[ho _ h.lt.1];exact h.cell
 grow:=h.grow.mono hn λid _ hid=>ho id hid
 map:=by rw[ho _ h.lt.2];exact h.map
 all:=h.all.mono hn λid _ hid=>ho id hid
 ne:=h.ne
 lt:=⟨by have:=h.lt.1;omega,by have:=h.lt.2;omega⟩
theorem fl1 (l:List Itm):∀e∈l.map Itm.cs,e.length=3/\e.all IV.leaf=true:=λe he=>by
 obtain ⟨x,_,rfl⟩:=zf.1 he;exact ⟨rfl,rfl⟩
theorem gx5 {τ:Store}{mid:Nat}{D:List Itm}{x:Itm}(h:τ.obj mid=zd (.map (bj4 D)))(hx:x ∉ D):ao9 τ 6 (.map mid) (.agg [.int .u8 x.kind,.int .i64 x.p,.int .i64 x.q]) (.agg [])=zd (τ.put mid (.map (bj4 (D++[x])))):=by
 have h2:=if8 hx;have hxc:x.cs=[.int .u8 x.kind,.int .i64 x.p,.int .i64 x.q]:=rfl;rw[hxc] at h2;simp only[ao9,h,h2,Option.map]
def je5 (pp:Nat)(σ s:Store):Prop:=σ.next<=s.next/\∀i cs,i<σ.next->i≠pp->σ.obj i=zd (.cells cs)->s.obj i=zd (.cells cs)
theorem en9 (σ:Store)(pp mid:Nat)(av tv allv itv:IV)(P:List aa2)(D:List Itm)(x:Itm)(h:MO σ pp mid av tv allv itv P D)(hx:x ∉ D)(hD:D.length<2^30) :
  Cq 134 [.ptr pp 0,.int .u8 x.kind,.int .i64 x.p,.int .i64 x.q] σ (λv s=>je5 pp σ s/\∃itv',MO s pp mid av tv allv itv' P (D++[x])):=by
 refine C_f fok134 (nZ rfl) ?_;have hxc:x.cs=[.int .u8 x.kind,.int .i64 x.p,.int .i64 x.q]:=rfl;have npp:¬pp=σ.next:=by have:=h.lt.1;omega
 have nmid:¬mid=σ.next:=by have:=h.lt.2;omega
 have npn:¬pp=σ.next+1+7:=by have:=h.lt.1;omega
 have nmn:¬mid=σ.next+1+7:=by have:=h.lt.2;omega
 have nmp:¬mid=pp:=λe=>by have h1:=h.cell;have h2:=h.map;rw[<- e,h2] at h1;cases h1
 have nsn:¬σ.next=σ.next+1+7:=om;have nsp:¬σ.next=pp:=λe=>npp e.symm
 have hc:=h.cell;have hm:=h.map;obtain ⟨S,hS⟩:∃S:Store,S=(({ next:=σ.next+1,obj:=σ.obj }:Store).put σ.next (aj2.cells [.int .u8 0,.int .i64 0,.int .i64 0])).put σ.next (aj2.cells [.int .u8 x.kind,.int .i64 x.p,.int .i64 x.q]):=⟨_,rfl⟩;have So:∀i,¬i=σ.next->S.obj i=σ.obj i:=λi hi=>by rw[hS];simp only[aa5,hi,if_false]
 have Sb:S.obj σ.next=zd (.cells [.int .u8 x.kind,.int .i64 x.p,.int .i64 x.q]):=by rw[hS];simp only[aa5,if_true]
 have hg1:Grow (⟨σ.next+1+11,S.obj⟩:Store) itv 3 (D.map Itm.cs):=h.grow.mono (by show σ.next<=σ.next+1+11;omega) λid _ hid=>So id om
 have ha1:Grow (⟨σ.next+1+11,S.obj⟩:Store) allv 15 (P.map aa2.cs):=h.all.mono (by show σ.next<=σ.next+1+11;omega) λid _ hid=>So id om
 have hap:=ai2 (nid:=σ.next+1+7) (e:=x.cs) hg1 (fl1 D) ⟨rfl,rfl⟩ (by rw[zb];omega);rw[zb,hxc] at hap;have kp:=af5 hg1 pp _ (by rw[<- hc];exact So pp npp) (λ_ e=>by cases e);have km:=af5 hg1 mid _ (by rw[<- hm];exact So mid nmid) (λ_ e=>by cases e);have kb:=af5 hg1 σ.next _ Sb (λ_ e=>by cases e);have kn:(ae9 itv (⟨σ.next+1+11,S.obj⟩:Store)).next=σ.next+1+11:=ab7 itv;have hcp:S.obj pp=zd (.cells [av,tv,allv,itv,.map mid]):=by rw[So pp npp];exact hc
 have kall:∀i cs,i<σ.next->σ.obj i=zd (.cells cs)->(ae9 itv (⟨σ.next+1+11,S.obj⟩:Store)).obj i=zd (.cells cs):=λi cs hi ho=>af5 hg1 i _ (by rw[<- ho];exact So i om) (λ_ e=>by cases e)
 have hkall:Grow (ae9 itv (⟨σ.next+1+11,S.obj⟩:Store)) allv 15 (P.map aa2.cs):=by
  refine ha1.mono (by rw[kn];exact zc _) λid hv _=>?_
  rcases hg1 with ⟨h0,_⟩|⟨j,hj,_,_⟩
  ·rw[h0];rfl
  ·have hne:=h.ne _ _ _ _ hj hv;rw[hj];show (if id=j then none else S.obj id)=_;rw[if_neg λe=>hne e.symm]
 simp only[ic134,go_sem,npp,hc,b_o,b_p,b_t];rw[<- hS];generalize ae9 itv (⟨σ.next+1+11,S.obj⟩:Store)=K at *;simp only[show σ.next+1+1+1+1+1+1+1+1=σ.next+1+7 from rfl,hap,go_sem,npn,nmn,nmp,nsn,nsp,kp,km,kb];generalize hK2:(⟨K.next+7,_⟩:Store)=K2;have K2o:K2.obj=((K.put (σ.next+1+7) (aj2.row (List.map Itm.cs D++[[IV.int IntKind.u8 x.kind,IV.int IntKind.i64 x.p,IV.int IntKind.i64 x.q]]).flatten)).put pp (aj2.cells [av,tv,allv,IV.slice (σ.next+1+7) 0 (D.length+1) 3,IV.map mid])).obj:=by rw[<- hK2]
 have K2n:K2.next=σ.next+1+11+7:=by rw[<- hK2];show K.next+7=_;rw[kn]
 have hmk:K2.obj mid=zd (.map (bj4 D)):=by rw[K2o];simp only[aa5,nmp,nmn,if_false];exact km
 have npm:¬pp=mid:=λe=>nmp e.symm
 rw[gx5 hmk hx];simp only[go_sem];refine ⟨⟨by rw[aa8,K2n];omega,λi cs hi hip ho=>?_⟩,.slice (σ.next+1+7) 0 (D.length+1) 3,?_⟩
 ·have him:¬i=mid:=λe=>by rw[e,hm] at ho;cases ho
  have hin:¬i=σ.next+1+7:=om;rw[aa5,if_neg him,K2o];simp only[aa5,hip,hin,if_false];exact kall i cs hi ho
 ·have hrow:∀id,id≠mid->id≠pp->id≠σ.next+1+7->(K2.put mid (.map (bj4 (D++[x])))).obj id=K.obj id:=λid h1 h2 h3=>by
   rw[aa5,if_neg h1,K2o];simp only[aa5,h2,h3,if_false]
  exact {
   cell:=by rw[aa5,if_neg npm,K2o];simp only[aa5,if_true]
   grow:=by
    refine .inr ⟨σ.next+1+7,by rw[zk,zj,zb];rfl,?_,by rw[aa8,K2n];omega⟩;rw[aa5,if_neg (λe=>nmn e.symm),K2o];simp only[aa5,if_true];rw[if_neg (λe=>npn e.symm),zk];rfl
   map:=by rw[aa5,if_pos rfl]
   all:=by
    refine hkall.mono (by rw[aa8,K2n,kn];omega) λid hv hid=>?_
    rw[kn] at hid
    have hr:K.obj id=zd (.row (P.map aa2.cs).flatten):=by
     rcases hkall with ⟨h0,_⟩|⟨j,hj,ho,_⟩
     ·rw[h0] at hv;cases hv
     ·rw[hj] at hv;cases hv;exact ho
    refine hrow id (λe=>by rw[e,km] at hr;cases hr) (λe=>by rw[e,kp] at hr;cases hr) λe=>?_
    rw[e] at hv;rcases h.all with ⟨h0,_⟩|⟨j,hj,_,hjl⟩
    ·rw[h0] at hv;cases hv
    ·rw[hj] at hv;cases hv;omega
   ne:=λi k j l e1 e2=>by
    cases e1;rcases h.all with ⟨h0,_⟩|⟨j',hj,_,hjl⟩
    ·rw[h0] at e2;cases e2
    ·rw[hj] at e2;cases e2;omega
   lt:=⟨by rw[aa8,K2n];have:=h.lt.1;omega,by rw[aa8,K2n];have:=h.lt.2;omega⟩ }
theorem je5.refl (pp:Nat)(σ:Store):je5 pp σ σ:=⟨zc _,λ_ _ _ _ h=>h⟩
theorem je5.trans {pp:Nat}{a b c:Store}(h1:je5 pp a b)(h2:je5 pp b c):je5 pp a c:=⟨z8 h1.1 h2.1,λi cs hi hp ho=>h2.2 i cs (Nat.lt_of_lt_of_le hi h1.1) hp (h1.2 i cs hi hp ho)⟩
theorem jx5 (a:ab3){i:Nat}(h:i<a.l.length):((a.l.map aa2.cs).flatten.drop (i*15)).take 15=(a.pk i).cs/\15<=((a.l.map aa2.cs).flatten.drop (i*15)).length:=by
 have hl:∀e∈a.l.map aa2.cs,e.length=15:=λe he=>(aw6 _ e he).1
 have h1:=cd2 hl i (by rw[zb];exact h);have h2:=bl6 hl;refine ⟨by rw[h1];exact ki1 a h,?_⟩;rw[List.length_drop,h2,zb];omega
theorem jx6 (a:ab3) (hA:AOK a) (hI:0<=a.p.inst) (σ:Store) (pp mid:Nat) (tv allv itv:IV) (h:MO σ pp mid a.v tv allv itv a.l []) (hIt:a.items.length<2^30) :
  Cq 99 [.ptr pp 0] σ (λv s=>σ.next<=s.next/\∃itv',MO s pp mid a.v tv allv itv' a.l a.items):=by
 refine id3 fok99 (nZ rfl) ?_;have hlen:=hA.len;have vcs:a.v.cs=[a.v]:=rfl;have vlf:a.v.leaf=true:=rfl;simp only[ic99,go_sem]
 have hlen0:cc2 0 σ allv=zd (.int .i64 a.l.length):=by
  have:=ch4 (s':=σ) h.all;rw[zb] at this;exact this
 have hc:=h.cell;refine ab9 (ab9 (ad6 ?_));simp only[go_sem,hc,hlen0];have x1:∀(p k:Int) (q:Int),(⟨k,p,q⟩:Itm).cs=[.int .u8 k,.int .i64 p,.int .i64 q]:=λ_ _ _=>rfl
 refine ai3 (an3 (Q:=λe f s=>e=.exit 0/\σ.next<=s.next/\(∃itv,MO s pp mid a.v tv allv itv a.l (a.owns a.l.length))/\∃rst:Frm,f=(0,.ptr pp 0)::rst)
  (av5 (λp fr s=>fr=[(0,.ptr pp 0),(14,allv),(15,.int .i64 a.l.length),(16,.int .i64 (p:Int))]/\σ.next<=s.next/\∃itv,MO s pp mid a.v tv allv itv a.l (a.owns p)) a.l.length ⟨rfl,zc _,itv,h⟩ ?_) ?_)
 ·clear h hc hlen0 itv;rintro p fr t hp ⟨rfl,hn,itv,hM⟩;refine ab9 (ad6 ?_);by_cases hpl:p<a.l.length
  ·have c1:(p:Int)<a.l.length:=om;have c2:(0:Int)<=(p:Int):=om;have w1:=ac3 (i:=p) om;obtain ⟨r1,r2⟩:=jx5 a hpl
   obtain ⟨ga,hga,hgo,hgl⟩:∃ga,allv=.slice ga 0 a.l.length 15/\t.obj ga=zd (.row (a.l.map aa2.cs).flatten)/\ga<t.next:=by
    rcases hM.all with ⟨_,h1⟩|⟨ga,h1,h2,h3⟩
    ·have:=congrArg List.length h1;rw[zb,zv] at this;omega
    ·exact ⟨ga,by rw[h1,zb],h2,h3⟩
   subst hga;simp only[go_sem,c1];refine ab9 (ad6 ?_);simp only[go_sem];refine ab9 (ai3 (ab9 (ad6 ?_)));simp only[go_sem,c1,c2,hgo,r1,r2,Nat.zero_add,zl,af7,ae8,ac7];generalize hT:Store.put _ t.next (aj2.cells (a.pk p).cs)=T;have Tn:T.next=t.next+1:=by rw[<- hT];rfl
   have To:∀i,i<t.next->T.obj i=t.obj i:=λi hi=>by
    have:¬i=t.next:=om;rw[<- hT];simp only[aa5,this,if_false]
   have Tb:T.obj t.next=zd (.cells (a.pk p).cs):=by rw[<- hT];simp only[aa5,if_true]
   have hMT:=hM.mono (s':=T) om To;have hpt:=hM.lt.1;have hfit:=dw5 a p;have hcT:=hMT.cell
   refine ab9 (an3 (Q:=λe f s=>e=.normal/\(∃rst:Frm,f=(0,.ptr pp 0)::(2,.int .i64 (p:Int))::(3,.ptr t.next 0)::(14,.slice ga 0 a.l.length 15)::(15,.int .i64 a.l.length)::(16,.int .i64 (p:Int))::rst)/\t.next+1<=s.next/\s.obj t.next=zd (.cells (a.pk p).cs) /\
    ∃itv,MO s pp mid a.v tv (.slice ga 0 a.l.length 15) itv a.l (a.owns p++a.aw7 p)) (ad6 ?_) ?_)
   ·simp only[go_sem,hcT,vcs,vlf];refine aa4 fok133 (hfit) ?_
    cases hf:a.fits p with
    | true=>
     have e:a.aw7 p=[]:=by unfold ab3.aw7;rw[hf];rfl
     simp only[go_sem]
     exact ⟨⟨_,rfl⟩,om,Tb,itv,by rw[e,zw];exact hMT⟩
    | false=>
     have e:a.aw7 p=[⟨1,p,0⟩]:=by unfold ab3.aw7;rw[hf];rfl
     simp only[go_sem];refine ac4 fok134 (en9 T pp mid a.v tv _ itv a.l (a.owns p) ⟨1,p,0⟩ hMT (λhm=>by obtain ⟨_,_,p',hp',e'⟩:=a.de4 hm;simp only at e';omega) (by have:=a.fi3 hpl;omega)) ?_;rintro v s ⟨⟨s1,s2⟩,itv2,hM2⟩;refine ⟨s1,?_⟩;simp only[go_sem];exact ⟨⟨_,rfl⟩,om,s2 t.next _ om om Tb,itv2,by rw[e];exact hM2⟩
   clear hMT hcT hT Tn To Tb T hM;rintro e f T ⟨rfl,⟨rst,rfl⟩,Tn,Tb,itv,hM⟩;simp only[go_sem];obtain ⟨K,hK⟩:∃K,K=[IV.int .u8 2,.int .i64 ((a.pk p).requires.length:Nat),.int .u8 3,.int .i64 ((a.pk p).conflicts.length:Nat),.int .u8 4,.int .i64 ((a.pk p).aa7.length:Nat)]:=⟨_,rfl⟩;have g7:((a.pk p).cs.drop 7).head? = zd (ap8 (a.pk p).requires):=rfl;have g8:((a.pk p).cs.drop 8).head? = zd (ap8 (a.pk p).conflicts):=rfl;have g9:((a.pk p).cs.drop 9).head? = zd (deps (a.pk p).aa7):=rfl;refine ab9 (ad6 ?_);simp only[go_sem,Tb,g7,g8,g9];rw[<- hK]
   have hKj:∀j,j<3->(K.drop (j*2)).take 2=[.int .u8 ((2+j:Nat):Int),.int .i64 (a.nsI p j)]/\2<=(K.drop (j*2)).length:=λj hj=>by
    have:j=0\/j=1\/j=2:=om;rcases this with rfl|rfl|rfl<;>(rw[hK];exact ⟨rfl,by simp⟩)
   have hKl:K.length=6:=by rw[hK];rfl
   refine ai3 (an3 (Q:=λe f s=>e=.exit 2/\σ.next<=s.next/\(∃itv,MO s pp mid a.v tv (.slice ga 0 a.l.length 15) itv a.l (a.owns p++a.aw7 p++a.ci7 p 3))/\∃rst:Frm,f=(0,.ptr pp 0)::(2,.int .i64 (p:Int))::(14,.slice ga 0 a.l.length 15)::(15,.int .i64 a.l.length)::(16,.int .i64 (p:Int))::rst)
    (av5 (λj fr s=>fr=[(0,.ptr pp 0),(2,.int .i64 (p:Int)),(14,.slice ga 0 a.l.length 15),(15,.int .i64 a.l.length),(16,.int .i64 (p:Int)),(43,.agg K),(44,.int .i64 (j:Int))]/\σ.next<=s.next/\∃itv,MO s pp mid a.v tv (.slice ga 0 a.l.length 15) itv a.l (a.owns p++a.aw7 p++a.ci7 p j)) 3 ⟨rfl,om,itv,by simpa [ab3.ci7] using hM⟩ ?_) ?_)
   ·clear hM Tb Tn itv g7 g8 g9 hK;rintro j fr u hj ⟨rfl,un,itv,hM⟩;refine ab9 (ad6 ?_);by_cases hj3:j<3
    ·have d1:(j:Int)<3:=om;have d2:(0:Int)<=(j:Int):=om;have w2:=ac3 (i:=j) om;obtain ⟨k1,k2⟩:=hKj j hj3;simp only[go_sem,d1];refine ab9 (ad6 ?_);simp only[go_sem];refine ab9 (ai3 (ab9 (ad6 ?_)));simp only[go_sem,d1,d2,k1,k2,hKl];refine ⟨om,?_⟩;generalize hU:Store.put _ u.next (aj2.cells [IV.int .u8 ((2+j:Nat):Int),IV.int .i64 (a.nsI p j)])=U;have Un:U.next=u.next+1:=by rw[<- hU];rfl
     have Uo:∀i,i<u.next->U.obj i=u.obj i:=λi hi=>by
      have:¬i=u.next:=om;rw[<- hU];simp only[aa5,this,if_false]
     have Ub:U.obj u.next=zd (.cells [IV.int .u8 ((2+j:Nat):Int),IV.int .i64 (a.nsI p j)]):=by rw[<- hU];simp only[aa5,if_true]
     have hMU:=hM.mono (s':=U) om Uo;have hpu:=hM.lt.1
     have hnn:a.nsI p j<2^30:=by
      have:=a.bq6 hpl hj3 (zc (a.nsI p j));rw[zj,ab3.aw1] at this;omega
     refine ab9 (ad6 ?_);simp only[go_sem,Ub]
     refine ai3 (an3 (Q:=λe f s=>e=.exit 4/\σ.next<=s.next/\(∃itv,MO s pp mid a.v tv (.slice ga 0 a.l.length 15) itv a.l (a.owns p++a.aw7 p++a.ci7 p (j+1)))/\∃rst:Frm,f=(0,.ptr pp 0)::(2,.int .i64 (p:Int))::(5,.ptr u.next 0)::(14,.slice ga 0 a.l.length 15)::(15,.int .i64 a.l.length)::(16,.int .i64 (p:Int))::(43,.agg K)::(44,.int .i64 (j:Int))::rst)
      (ab1 noT (λq fr s=>fr=[(0,.ptr pp 0),(2,.int .i64 (p:Int)),(5,.ptr u.next 0),(14,.slice ga 0 a.l.length 15),(15,.int .i64 a.l.length),(16,.int .i64 (p:Int)),(43,.agg K),(44,.int .i64 (j:Int)),(48,.int .i64 (a.nsI p j)),(49,.int .i64 (q:Int))]/\u.next+1<=s.next/\s.obj u.next=zd (.cells [IV.int .u8 ((2+j:Nat):Int),IV.int .i64 (a.nsI p j)]) /\
       ∃itv,MO s pp mid a.v tv (.slice ga 0 a.l.length 15) itv a.l (a.owns p++a.aw7 p++a.ci7 p j++bd3 ((2+j:Nat):Int) p q)) (a.nsI p j) ⟨rfl,om,Ub,itv,by simpa [bd3] using hMU⟩ ?_) ?_)
     ·clear hM hMU Un Uo Ub hU U itv;rintro q fr U hq ⟨rfl,Un,Ub,itv,hM⟩;by_cases hql:q<a.nsI p j
      ·have e1:(q:Int)<(a.nsI p j:Nat):=om;have w3:=ac3 (i:=q) om;simp only[go_sem,e1,Ub];refine ac4 fok134 (en9 U pp mid a.v tv _ itv a.l _ ⟨((2+j:Nat):Int),p,q⟩ hM (λhm=>?_) ?_) ?_
       ·rcases zg.1 hm with hm|hm
        ·rcases zg.1 hm with hm|hm
         ·rcases zg.1 hm with hm|hm
          ·obtain ⟨_,_,p',hp',e'⟩:=a.de4 hm;simp only at e';omega
          ·have:=a.jc8 hm;simp only at this;omega
         ·have:=a.js5 hm;simp only at this;omega
        ·obtain ⟨q',hq',e'⟩:=av9.1 hm;have:=congrArg Itm.q e';simp only at this;omega
       ·have:=a.bq6 hpl hj3 hq;omega
       rintro v s ⟨⟨s1,s2⟩,itv2,hM2⟩;refine ⟨s1,?_⟩;simp only[go_sem,w3];refine ⟨hql,om,s2 u.next _ om om Ub,itv2,?_⟩;rw[bw4,<- zh];exact hM2
      ·have e1:¬(q:Int)<(a.nsI p j:Nat):=om;have e:q=a.nsI p j:=om;simp only[go_sem,e1];refine ⟨om,⟨itv,?_⟩,_,rfl⟩;rw[a.ao5,<- zh,<- e];exact hM
     ·rintro e f U ⟨rfl,Un,⟨itv,hM⟩,rst,rfl⟩;simp only[go_sem];refine ad6 ?_;simp only[go_sem,w2];exact ⟨hj3,Un,itv,hM⟩
    ·have d1:¬(j:Int)<3:=om;have e:j=3:=om;subst e;simp only[go_sem,d1];refine ab9 (ad6 ?_);simp only[go_sem];exact ⟨un,⟨itv,hM⟩,_,rfl⟩
   ·rintro e f u ⟨rfl,un,⟨itv,hM⟩,rst,rfl⟩;simp only[go_sem];refine ad6 ?_;simp only[go_sem,w1];refine ⟨hpl,un,itv,?_⟩;rw[a.bq4,a.gu1,<- zh];exact hM
  ·have c1:¬(p:Int)<a.l.length:=om;have e:p=a.l.length:=om;simp only[go_sem,c1];refine ab9 (ad6 ?_);simp only[go_sem];exact ⟨hn,⟨itv,by rw[<- e];exact hM⟩,_,rfl⟩
 rintro e f t ⟨rfl,hn,⟨itv2,hM⟩,rst,rfl⟩;simp only[go_sem];clear h hc hlen0;have hc:=hM.cell
 have hlen0:∀s:Store,cc2 0 s allv=zd (.int .i64 a.l.length):=λs=>by
  have:=ch4 (s':=s) hM.all;rw[zb] at this;exact this
 refine ab9 (ab9 (ad6 ?_));simp only[go_sem,hc,hlen0]
 refine ai3 (an3 (Q:=λe f s=>e=.exit 6/\σ.next<=s.next/\(∃itv,MO s pp mid a.v tv allv itv a.l (a.owns a.l.length++a.am3 a.l.length))/\∃rst:Frm,f=(0,.ptr pp 0)::rst)
  (av5 (λp fr s=>fr=[(0,.ptr pp 0),(65,.int .i64 a.l.length),(66,.int .i64 (p:Int))]/\σ.next<=s.next/\∃itv,MO s pp mid a.v tv allv itv a.l (a.owns a.l.length++a.am3 p)) a.l.length ⟨rfl,hn,itv2,by simpa [ab3.am3] using hM⟩ ?_) ?_)
 ·clear hM hc itv2;rintro p fr t hp ⟨rfl,hn,itv,hM⟩;refine ab9 (ad6 ?_);by_cases hpl:p<a.l.length
  ·have c1:(p:Int)<a.l.length:=om;have w1:=ac3 (i:=p) om;simp only[go_sem,c1];refine ab9 (ad6 ?_);simp only[go_sem];refine ab9 (ai3 (ab9 (ad6 ?_)));simp only[go_sem];refine ab9 (ad6 ?_);simp only[go_sem,w1]
   refine ai3 (an3 (Q:=λe f s=>e=.exit 8/\σ.next<=s.next/\(∃itv,MO s pp mid a.v tv allv itv a.l (a.owns a.l.length++a.am3 (p+1)))/\∃rst:Frm,f=(0,.ptr pp 0)::(7,.int .i64 (p:Int))::(8,.int .i64 (a.l.length:Nat))::(65,.int .i64 a.l.length)::(66,.int .i64 (p:Int))::rst)
    (ab1 noT (λd fr s=>fr=[(0,.ptr pp 0),(7,.int .i64 (p:Int)),(8,.int .i64 ((p+1+d:Nat):Int)),(65,.int .i64 a.l.length),(66,.int .i64 (p:Int))]/\σ.next<=s.next/\∃itv,MO s pp mid a.v tv allv itv a.l (a.owns a.l.length++a.am3 p++a.bx8 p (p+1+d))) (a.l.length-(p+1)) ⟨rfl,hn,itv,by rw[Nat.add_zero,a.de6,zw];exact hM⟩ ?_) ?_)
   ·clear hM itv hn;rintro d fr u hd ⟨rfl,hn,itv,hM⟩;have hcu:=hM.cell;by_cases hdl:p+1+d<a.l.length
    ·have d1:((p+1+d:Nat):Int)<a.l.length:=om;have w2:=ac3 (i:=p+1+d) om;have hdl2:d<a.l.length-(p+1):=om;have htw:=fd3 a p ((p+1+d:Nat):Int) hA
     have hsn:a.bx8 p (p+1+(d+1))=a.bx8 p (p+1+d)++if a.twins p ((p+1+d:Nat):Int) then [⟨5,p,((p+1+d:Nat):Int)⟩] else []:=by
      have e:p+1+(d+1)=p+1+d+1:=om;have l1:p<p+1+d:=om;rw[e];unfold ab3.bx8;rw[ay1];simp[l1]
     simp only[go_sem,hcu,hlen0,d1,vcs,vlf];refine aa4 fok135 (htw) ?_
     cases ht:a.twins p ((p+1+d:Nat):Int) with
     | false=>
      rw[ht] at hsn;simp only[go_sem,w2];refine ⟨hdl2,by rw[show p+1+(d+1)=p+1+d+1 by omega],hn,itv,?_⟩
      rw[hsn];simpa using hM
     | true=>
      rw[ht] at hsn;simp only[go_sem];refine ac4 fok134 (en9 u pp mid a.v tv _ itv a.l _ ⟨5,p,((p+1+d:Nat):Int)⟩ hM (λhm=>?_) ?_) ?_
      ·rcases zg.1 hm with hm|hm
       ·rcases zg.1 hm with hm|hm
        ·obtain ⟨_,h4,_⟩:=a.de4 hm;simp only at h4;omega
        ·obtain ⟨_,p',hp',e'⟩:=a.ec4 hm;simp only at e';omega
       ·obtain ⟨_,_,q',hq',e'⟩:=a.if9 hm;simp only at e';omega
      ·have:=a.ec5 hpl (show p+1+d<=a.l.length by omega);omega
      rintro v s ⟨⟨s1,s2⟩,itv2,hM2⟩;refine ⟨s1,?_⟩;simp only[go_sem,w2];refine ⟨hdl2,by rw[show p+1+(d+1)=p+1+d+1 by omega],om,itv2,?_⟩;rw[hsn,if_pos rfl,<- zh];exact hM2
    ·have d1:¬((p+1+d:Nat):Int)<a.l.length:=om;have e:p+1+d=a.l.length:=om;simp only[go_sem,hcu,hlen0,d1];refine ⟨hn,⟨itv,?_⟩,_,by rw[e]⟩;rw[a.bd5,<- zh];unfold ab3.gt6;rw[e] at hM;exact hM
   ·rintro e f u ⟨rfl,un,⟨itv,hM⟩,rst,rfl⟩;simp only[go_sem];refine ad6 ?_;simp only[go_sem,w1];exact ⟨hpl,un,itv,hM⟩
  ·have c1:¬(p:Int)<a.l.length:=om;have e:p=a.l.length:=om;simp only[go_sem,c1];refine ab9 (ad6 ?_);simp only[go_sem];exact ⟨hn,⟨itv,by rw[e] at hM;exact hM⟩,_,rfl⟩
 clear hM hc itv2 hn;rintro e f t ⟨rfl,hn,⟨itv2,hM⟩,rst,rfl⟩;simp only[go_sem];have hP:=ay3 a;have hIn:=ba2 a.p;have pvl:a.p.v.leaf=true:=rfl;have pvc:a.p.v.cs=[a.p.v]:=rfl;have hin:(a.p.inst:Int)=((a.p.inst.toNat:Nat):Int):=om;have hin2:a.p.inst.toNat<=a.l.length:=by have:=hA.inst;omega
 rw[hin] at hIn;have hc:=hM.cell;refine ab9 (ab9 (ad6 ?_));simp only[go_sem,hc,vcs,vlf]
 first|refine aa4 fok42 (hP) ?_|refine ab2 (hP) ?_
 simp only[go_sem,pvl,pvc]
 first|refine aa4 fok54 (hIn) ?_|refine ab2 (hIn) ?_
 simp only[go_sem]
 refine ai3 (an3 (Q:=λe f s=>e=.exit 10/\σ.next<=s.next/\(∃itv,MO s pp mid a.v tv allv itv a.l (a.owns a.l.length++a.am3 a.l.length++a.bd4 a.p.inst.toNat))/\∃rst:Frm,f=(0,.ptr pp 0)::rst)
  (ab1 noT (λi fr s=>fr=[(0,.ptr pp 0),(97,.int .i64 ((a.p.inst.toNat:Nat):Int)),(98,.int .i64 (i:Int))]/\σ.next<=s.next/\∃itv,MO s pp mid a.v tv allv itv a.l (a.owns a.l.length++a.am3 a.l.length++a.bd4 i)) a.p.inst.toNat ⟨rfl,hn,itv2,by rw[show a.bd4 0=[] from rfl,zw];exact hM⟩ ?_) ?_)
 ·clear hM hc itv2 hn;rintro i fr u hi ⟨rfl,hn,itv,hM⟩;have hcu:=hM.cell;by_cases hil:i<a.p.inst.toNat
  ·have d1:(i:Int)<((a.p.inst.toNat:Nat):Int):=om;have w1:=ac3 (i:=i) om;have hg:=gh3 a i hA;have hsn:a.bd4 (i+1)=a.bd4 i++if !a.goes i then [⟨6,i,0⟩] else []:=ay1 _ _ _
   simp only[go_sem,hcu,d1,vcs,vlf];refine aa4 fok136 (hg) ?_
   cases hgo:a.goes i with
   | true=>
    rw[hgo] at hsn;simp only[go_sem,w1];refine ⟨hil,hn,itv,?_⟩
    rw[hsn];simpa using hM
   | false=>
    rw[hgo] at hsn;simp only[go_sem];refine ac4 fok134 (en9 u pp mid a.v tv _ itv a.l _ ⟨6,i,0⟩ hM (λhm=>?_) ?_) ?_
    ·rcases zg.1 hm with hm|hm
     ·rcases zg.1 hm with hm|hm
      ·obtain ⟨_,h4,_⟩:=a.de4 hm;simp only at h4;omega
      ·obtain ⟨h4,_⟩:=a.ec4 hm;simp only at h4;omega
     ·obtain ⟨_,q',hq',e'⟩:=a.gt9 hm;simp only at e';omega
    ·have:=a.fi4 hi;omega
    rintro v s ⟨⟨s1,s2⟩,itv2,hM2⟩;refine ⟨s1,?_⟩;simp only[go_sem,w1];refine ⟨hil,om,itv2,?_⟩;rw[hsn,<- zh];exact hM2
  ·have d1:¬(i:Int)<((a.p.inst.toNat:Nat):Int):=om;have e:i=a.p.inst.toNat:=om;simp only[go_sem,d1];exact ⟨hn,⟨itv,by rw[<- e];exact hM⟩,_,rfl⟩
 clear hM hc itv2 hn;rintro e f t ⟨rfl,hn,⟨itv2,hM⟩,rst,rfl⟩;simp only[go_sem];have hR:=bm6 a hA;have hc:=hM.cell;have r2:a.r.cs[2]? = zd (as5 a.r.af2):=rfl;refine ab9 (ad6 ?_);simp only[go_sem,hc,vcs,vlf]
 first|refine aa4 fok106 (hR) ?_|refine ab2 (hR) ?_
 simp only[go_sem,r2];refine ai3 ?_;refine ab1 noT (λj fr s=>fr=[(0,.ptr pp 0),(118,.int .i64 a.r.af2.length),(119,.int .i64 (j:Int))]/\σ.next<=s.next/\∃itv,MO s pp mid a.v tv allv itv a.l (a.owns a.l.length++a.am3 a.l.length++a.bd4 a.p.inst.toNat++a.eg7 j)) a.r.af2.length ⟨rfl,hn,itv2,by rw[show a.eg7 0=[] from rfl,zw];exact hM⟩ ?_;clear hM hc itv2 hn;rintro j fr u hj ⟨rfl,hn,itv,hM⟩;have hcu:=hM.cell;have hjb:=hA.af2;by_cases hjl:j<a.r.af2.length
 ·have d1:(j:Int)<a.r.af2.length:=om;have w1:=ac3 (i:=j) om;have hg:=ci1 a j hA;have hsn:a.eg7 (j+1)=a.eg7 j++if !a.dropped j then [⟨7,j,0⟩] else []:=ay1 _ _ _
  simp only[go_sem,hcu,d1,vcs,vlf]
  first|refine aa4 fok137 (hg) ?_|refine ab2 (hg) ?_
  cases hgo:a.dropped j with
  | true=>
   rw[hgo] at hsn;simp only[go_sem,w1];refine ⟨hjl,hn,itv,?_⟩
   rw[hsn];simpa using hM
  | false=>
   rw[hgo] at hsn;simp only[go_sem];refine ac4 fok134 (en9 u pp mid a.v tv _ itv a.l _ ⟨7,j,0⟩ hM (λhm=>?_) ?_) ?_
   ·rcases zg.1 hm with hm|hm
    ·rcases zg.1 hm with hm|hm
     ·rcases zg.1 hm with hm|hm
      ·obtain ⟨_,h4,_⟩:=a.de4 hm;simp only at h4;omega
      ·obtain ⟨h4,_⟩:=a.ec4 hm;simp only at h4;omega
     ·obtain ⟨h4,_⟩:=a.gt9 hm;simp only at h4;omega
    ·obtain ⟨_,q',hq',e'⟩:=a.js4 hm;simp only at e';omega
   ·have:=a.gu2 hj;omega
   rintro v s ⟨⟨s1,s2⟩,itv2,hM2⟩;refine ⟨s1,?_⟩;simp only[go_sem,w1];refine ⟨hjl,om,itv2,?_⟩;rw[hsn,<- zh];exact hM2
 ·have d1:¬(j:Int)<a.r.af2.length:=om;have e:j=a.r.af2.length:=om;simp only[go_sem,d1];exact ⟨hn,itv,by unfold ab3.items;rw[<- e];exact hM⟩
theorem MO.frz {s:Store}{pp mid:Nat}{a:ab3}{allv itv:IV}(h:MO s pp mid a.v (br6 a.l) allv itv a.l a.items):cb5 s 0 (.ptr pp 0) a.mv:=by
 refine .ptr pp 0 _ _ (zq _) (.inl h.cell) (zc _) λj hj=>?_
 match j,hj with
 | 0,_=>exact .keep _ (ah5 a)
 | 1,_=>exact .keep _ (dh9 _)
 | 2,_=>
  exact h.all.frz (λx hx=>(aw6 _ x hx).1) (λ_ _=>zq _) λe he c hc=>by
   obtain ⟨y,_,rfl⟩:=zf.1 he
   exact au6 y c hc
 | 3,_=>
  exact h.grow.frz (λx hx=>(fl1 _ x hx).1) (λ_ _=>zq _) λe he c hc=>by
   obtain ⟨y,_,rfl⟩:=zf.1 he
   exact bm8 y c hc
 | 4,_=>
  refine .map mid (bj4 a.items) (bj4 a.items) (bj4 a.items) (zq _) h.map rfl (List.Perm.refl _) (gt5 a.nodup) (λi hi=>?_) λi hi=>?_
  ·have:(bj4 a.items).getD i (.undef,.undef)∈bj4 a.items:=ad3 _ hi;obtain ⟨x,_,hx⟩:=zf.1 this;rw[<- hx];exact .keep _ (en7 x)
  ·have:(bj4 a.items).getD i (.undef,.undef)∈bj4 a.items:=ad3 _ hi;obtain ⟨x,_,hx⟩:=zf.1 this;rw[<- hx];exact .keep _ (.agg _ λc hc=>by cases hc)
theorem fd6 (a:ab3)(hA:AOK a)(hI:0<=a.p.inst)(hIt:a.items.length<2^30):Pq 60 [a.v] (.tuple [a.mv,.int .i64 0]):=by
 refine jq1 hE fok60 (nZ rfl) (ak1 (ah5 a)) ?_;have hP:=ay3 a;have hT:=ez4 a.p hA.len λx hx=>⟨hA.fit x hx,hA.tiny x hx⟩
 have hC:=av2 a.p;have hrl:a.p.rows.length=a.l.length:=by show _=(ac1 a.p).length;simp[ac1]
 rw[hrl] at hC;have hlen:=hA.len
 have hpk:∀j (h:j<a.l.length),Pq 57 [a.p.v,.int .i64 j] (.tuple [.agg (a.pk j).cs,.int .i64 0]):=λj h=>by
  have hj:j<a.p.rows.length:=om
  have hq:a.p.rows[j].pkg=a.pk j:=by
   have:a.pk j=a.l[j]:=by simp[ab3.pk,za,h]
   rw[this];simp[ab3.l,ac1]
  have h1:=as9 a.p j hj (by rw[hq];exact hA.fit _ (cg3 a h));rw[hq] at h1;exact h1
 have vcs:a.v.cs=[a.v]:=rfl;have vlf:a.v.leaf=true:=rfl;have pvl:a.p.v.leaf=true:=rfl;have pvc:a.p.v.cs=[a.p.v]:=rfl;have tvl:(br6 a.l).leaf=true:=rfl;have tvc:(br6 a.l).cs=[br6 a.l]:=rfl;have hnl:∀d:TypeId,ct9 (.pointer d) a.v=zd false:=λ_=>rfl
 have hT:Pq 98 [a.p.v] (.tuple [br6 a.l,.int .i64 0]):=hT;simp only[ic60,go_sem];refine ab9 (ad6 ?_);simp only[go_sem];refine ab9 (ad6 ?_);simp only[go_sem,hnl];refine ab9 (ad6 ?_);simp only[go_sem,vcs,vlf]
 first|refine aa4 fok42 (hP) ?_|refine ab2 (hP) ?_
 simp only[go_sem,pvl,pvc];refine aa4 fok98 (hT) ?_;simp only[go_sem];refine ab9 (ad6 ?_);simp only[go_sem];refine ab9 (ad6 ?_);simp only[go_sem,vcs,vlf,tvl,tvc];refine ab9 (ab9 (ad6 ?_));simp only[go_sem,vcs,vlf]
 first|refine aa4 fok42 (hP) ?_|refine ab2 (hP) ?_
 simp only[go_sem,pvl,pvc];refine aa4 fok43 (hC) ?_;simp only[go_sem]
 refine ai3 (an3 (Q:=λe f s=>e=.exit 0/\(∃allv,MO s 1 0 a.v (br6 a.l) allv .aa1 a.l [])/\∃rst:Frm,f=(0,a.v)::(6,.ptr 1 0)::rst)
  (ab1 noT (λn fr s=>∃gv,fr=[(0,a.v),(6,.ptr 1 0),(28,.int .i64 a.l.length),(29,.int .i64 (n:Int))]/\2<=s.next/\s.obj 0=zd (.map [])/\s.obj 1=zd (.cells [a.v,br6 a.l,gv,.aa1,.map 0])/\Grow s gv 15 ((a.l.take n).map aa2.cs)) a.l.length
   ⟨.aa1,rfl,zc _,rfl,rfl,.inl ⟨rfl,rfl⟩⟩ ?_) ?_)
 ·rintro n fr s hn ⟨gv,rfl,hnx,hm,ho,hg⟩;by_cases hlt:n<a.l.length
  ·have d1:(n:Int)<a.l.length:=om;have w1:=ac3 (i:=n) om;have hp:=hpk n hlt;have n1:¬1=s.next:=om;have n0:¬0=s.next:=om
   have htk:a.l.take (n+1)=a.l.take n++[a.pk n]:=by
    have:a.pk n=a.l[n]:=by simp[ab3.pk,za,hlt]
    rw[this,z5,zm hlt];rfl
   have hgl:gv.leaf=true:=by rcases hg with ⟨rfl,_⟩|⟨id,rfl,_⟩<;>rfl
   have hgc:gv.cs=[gv]:=by rcases hg with ⟨rfl,_⟩|⟨id,rfl,_⟩<;>rfl
   obtain ⟨S,hS⟩:∃S:Store,S=(({ next:=s.next+1,obj:=s.obj }:Store).put s.next (aj2.cells [.str [],.int .i64 0,.str [],.str [],.int .u8 0,.str [],.aa1,.aa1,.aa1,.aa1,.aa1,.aa1,.aa1,.aa1,.aa1])).put s.next (aj2.cells (a.pk n).cs):=⟨_,rfl⟩;have So:∀i,¬i=s.next->S.obj i=s.obj i:=λi hi=>by rw[hS];simp only[aa5,hi,if_false]
   have hg1:Grow (⟨s.next+1+11,S.obj⟩:Store) gv 15 ((a.l.take n).map aa2.cs):=hg.mono (by show s.next<=s.next+1+11;omega) λid _ hid=>So id om
   have hap:=ai2 (nid:=s.next+1+7) (e:=(a.pk n).cs) hg1 (aw6 _) ⟨rfl,rfl⟩ (by rw[zb,ze];omega);rw[zb] at hap;have k1:=af5 hg1 1 _ (by rw[<- ho];exact So 1 n1) (λ_ e=>by cases e);have k0:=af5 hg1 0 _ (by rw[<- hm];exact So 0 n0) (λ_ e=>by cases e);have kn:(ae9 gv (⟨s.next+1+11,S.obj⟩:Store)).next=s.next+1+11:=ab7 gv;have m1:¬1=s.next+1+7:=om;have m0:¬0=s.next+1+7:=om;have hcl:∀i cs,¬i=s.next->s.obj i=zd (.cells cs)->S.obj i=zd (.cells cs):=λi cs h1 h2=>by rw[So i h1];exact h2
   simp only[go_sem,d1,vcs,vlf]
   first|refine aa4 fok42 (hP) ?_|refine ab2 (hP) ?_
   simp only[go_sem,pvl,pvc]
   first|refine aa4 fok57 (hp) ?_|refine ab2 (hp) ?_
   simp only[go_sem,af7,ae8,ac7,n1,n0,ho,b_o,b_p,b_t];rw[<- hS];generalize ae9 gv (⟨s.next+1+11,S.obj⟩:Store)=K at *;simp only[show s.next+1+1+1+1+1+1+1+1=s.next+1+7 from rfl,hap,go_sem,m1,m0,k1,k0,w1];refine ⟨hlt,_,by rw[kn];omega,rfl,?_⟩;rw[htk,zk];refine .inr ⟨s.next+1+7,by rw[zj,zb];rfl,?_,by rw[kn];omega⟩;simp only[aa5];rw[if_neg (λe=>m1 e.symm),if_pos trivial];rfl
  ·have d1:¬(n:Int)<a.l.length:=om;rw[z7 om] at hg;simp only[go_sem,d1];exact ⟨⟨gv,{ cell:=ho,grow:=.inl ⟨rfl,rfl⟩,map:=hm,all:=hg,ne:=λ_ _ _ _ h=>(by cases h),lt:=⟨om,om⟩ }⟩,_,rfl⟩
 rintro e f t ⟨rfl,⟨allv,hM⟩,rst,rfl⟩;simp only[go_sem];refine ab9 (ad6 ?_);simp only[go_sem];refine ac4 fok99 (jx6 a hA hI t 1 0 _ _ _ hM hIt) ?_;rintro v s ⟨s1,itv,hM2⟩;refine ⟨s1,?_⟩;simp only[go_sem];refine ad6 ?_;simp only[go_sem];exact .by4 (.cons hM2.frz (.cons (bn2 rfl) .nil))
theorem fo9 (l:List Int)(hl:l.length<2^30)(hr:∀x∈l,-(2^40)<=x/\x<=2^40):Pq 100 [.aa3 (l.map Md.ae1)] (.aa3 ((noL l).map Md.ae1)):=ea6 λσ=>ji2 l hl hr σ
theorem ef8 (l:List Int)(hl:l.length<2^30)(hr:∀x∈l,-(2^40)<=x/\x<=2^40):Pq 104 [.aa3 (l.map Md.ae1)] (.aa3 ((upL l).map Md.ae1)):=ea6 λσ=>kj3 l hl hr σ
theorem fp1 (x:Itm):x.cs=[.int .u8 x.kind,.int .i64 x.p,.int .i64 x.q]:=rfl
theorem jx7 (rp:Nat)(σ:Store)(x:Itm)(hp:0<=x.p/\x.p<1000):Cq 62 [.ptr rp 0,.agg x.cs] σ (λv s=>v=.tuple [ba5 [noL [x.p]],.int .i64 0]/\Kept σ s):=by
 refine C_f fok62 (nZ rfl) ?_;have hN:=fo9 [x.p] (by simp) (λy hy=>by rw[zx] at hy;omega);rw[fp1];simp only[ic62,go_sem];refine aa4 fok100 (hN) ?_;simp only[go_sem];exact ⟨rfl,Kept.refl σ⟩
theorem jx8 (rp:Nat)(σ:Store)(x:Itm)(hp:0<=x.p/\x.p<1000)(hq:0<=x.q/\x.q<1000):Cq 66 [.ptr rp 0,.agg x.cs] σ (λv s=>v=.tuple [ba5 [noL [x.p,x.q]],.int .i64 0]/\Kept σ s):=by
 refine C_f fok66 (nZ rfl) ?_
 have hN:=fo9 [x.p,x.q] (by simp) (λy hy=>by
  simp only[zu,zo,or_false] at hy;rcases hy with rfl|rfl<;>omega)
 rw[fp1];simp only[ic66,go_sem];refine aa4 fok100 (hN) ?_;simp only[go_sem];exact ⟨rfl,Kept.refl σ⟩
theorem bb8 {a:ab3}(hA:AOK a){l:List Int}(h:∀n∈l,a.is n=true):∀x∈l,-(2^40)<=x/\x<=2^40:=λx hx=>by
 have:=h x hx;unfold ab3.is at this;simp only[Bool.and_eq_true,decide_eq_true_eq] at this;have:=hA.len;omega
theorem az6 (a:ab3)(i:Int):(a.an4 i).length<=a.l.length:=by
 unfold ab3.an4;split
 ·exact ao4 _ _
 ·exact Nat.zero_le _
theorem jx9 (a:ab3)(hA:AOK a)(rp:Nat)(c1 c2 c3 c4:IV)(σ:Store)(x:Itm)(ho:σ.obj rp=zd (.cells [a.v,c1,c2,c3,c4])):Cq 67 [.ptr rp 0,.agg x.cs] σ (λv s=>v=.tuple [ba5 [upL (a.an4 x.p)],.int .i64 0]/\Kept σ s):=by
 refine C_f fok67 (nZ rfl) ?_;have hS:=dh7 a x.p hA;have hO:=ef8 (a.an4 x.p) (by have:=az6 a x.p;have:=hA.len;omega) (bb8 hA ab3.aw2);have vcs:a.v.cs=[a.v]:=rfl;have vlf:a.v.leaf=true:=rfl;rw[fp1];generalize a.v=AV at *;generalize hss:a.an4 x.p=ss at *;simp only[ic67,go_sem,ho,vcs,vlf];refine aa4 fok105 (hS) ?_;simp only[go_sem];refine aa4 fok104 (hO) ?_;simp only[go_sem];exact ⟨rfl,z1 _ _,λ_ _=>rfl⟩
theorem ef9 (l:List Int)(n b:Int):bz9 (l++[n]) b=bz9 l b++if n=b then [] else [n]:=by
 unfold bz9;rw[List.filter_append];congr 1;by_cases h:n=b<;>simp[h]
theorem eg1 (a:ab3)(hA:AOK a):∀j (h:j<a.l.length),Pq 57 [a.p.v,.int .i64 j] (.tuple [.agg (a.pk j).cs,.int .i64 0]):=λj h=>by
 have hrl:a.p.rows.length=a.l.length:=by show _=(ac1 a.p).length;simp[ac1]
 have hj:j<a.p.rows.length:=om
 have hq:a.p.rows[j].pkg=a.pk j:=by
  have:a.pk j=a.l[j]:=by simp[ab3.pk,za,h]
  rw[this];simp[ab3.l,ac1]
 have h1:=as9 a.p j hj (by rw[hq];exact hA.fit _ (cg3 a h));rw[hq] at h1;exact h1
theorem jy1 (a:ab3)(hA:AOK a)(rp:Nat)(c1 c2 c3 c4:IV)(σ:Store)(p q:Nat)(hp:p<a.l.length)(hq:q<(a.pk p).aa7.length)(ho:σ.obj rp=zd (.cells [a.v,c1,c2,c3,c4]))(hrp:rp<σ.next) :
  Cq 65 [.ptr rp 0,.agg (⟨4,p,q⟩:Itm).cs] σ (λv s=>∃gv,v=.tuple [gv,.int .i64 0]/\Kept σ s/\Grow s gv 1 (((bz9 (ak8 a.l (a.bx9 ⟨4,p,q⟩)) p).map λn=>noL [(p:Int),n]).map clE)/\∀i k,gv=.slice i 0 k 1->σ.next<=i):=by
 refine C_f fok65 (nZ rfl) ?_;have hP:=ay3 a;have hK:=eg1 a hA p hp;have hI:=ez5 a;have hsm:=hA.small _ (cg3 a hp);have hdm:a.bx9 ⟨4,p,q⟩∈(a.pk p).aa7:=getD_in _ hq;have hds:Dep.small (a.bx9 ⟨4,p,q⟩):=hsm.2.2.1 _ hdm;have hlen:=hA.len;have hN:=ca7 a.l (a.bx9 ⟨4,p,q⟩) om hA.small hds;have g9:((a.pk p).cs.drop 9).head? = zd (deps (a.pk p).aa7):=rfl;have hda:=it8 (a.pk p).aa7 hq;have hde:(a.pk p).aa7.getD q default=a.bx9 ⟨4,p,q⟩:=rfl;rw[hde] at hda;have hnl:(ak8 a.l (a.bx9 ⟨4,p,q⟩)).length<=a.l.length:=ae5 _ _
 have hns:∀n∈ak8 a.l (a.bx9 ⟨4,p,q⟩),0<=n/\n<a.l.length:=λn hn=>by
  obtain ⟨m,rfl,h,_⟩:=am5.1 hn;omega
 have vcs:a.v.cs=[a.v]:=rfl;have vlf:a.v.leaf=true:=rfl;have pvl:a.p.v.leaf=true:=rfl;have pvc:a.p.v.cs=[a.p.v]:=rfl;have xlf:(ad8 a.l).v.leaf=true:=rfl;have xcs:(ad8 a.l).v.cs=[(ad8 a.l).v]:=rfl;have hxc:(⟨4,p,q⟩:Itm).cs=[.int .u8 4,.int .i64 p,.int .i64 q]:=rfl;have e1:(0:Int)<=(q:Int):=om;have e2:(q:Int)<(a.pk p).aa7.length:=om;have nrp:∀k,¬rp=σ.next+k:=λk=>by omega
 rw[hxc];generalize a.v=AV at *;generalize a.p.v=PV at *;generalize (ad8 a.l).v=XV at *;generalize a.bx9 ⟨4,p,q⟩=D at *;generalize ak8 a.l D=nm at *;simp only[ic65,go_sem,ho,vcs,vlf,pvl,pvc]
 first|refine aa4 fok42 (hP) ?_|refine ab2 (hP) ?_
 simp only[go_sem,pvl,pvc]
 first|refine aa4 fok57 (hK) ?_|refine ab2 (hK) ?_
 simp only[go_sem,af7,ae8,ac7];have n11:∀i,i<σ.next->¬i=σ.next+1+1+1+1+1+1+1+1+1+1+1:=λi hi=>by omega
 simp only[n11 rp hrp,if_false,ho,go_sem,vcs,vlf];refine ab2 (hI) ?_;simp only[go_sem,g9,hda,e1,e2,zl,ai8,ag8,af8,xlf,xcs]
 first|refine aa4 fok103 (hN) ?_|refine ab2 (hN) ?_
 simp only[go_sem]
 refine ab1 noT (λi fr s=>∃gv,fr=[(3,.ab8 [.int .u8 4,.int .i64 p,.int .i64 q]),(8,gv),(36,.aa3 (nm.map Md.ae1)),(37,.int .i64 nm.length),(38,.int .i64 (i:Int))]/\Kept σ s/\Grow s gv 1 (((bz9 (nm.take i) p).map λn=>noL [(p:Int),n]).map clE)/\∀i k,gv=.slice i 0 k 1->σ.next<=i) nm.length
  ⟨.aa1,rfl,⟨by show σ.next<=σ.next+_+_;omega,λi hi=>?_⟩,.inl ⟨rfl,rfl⟩,λ_ _ e=>by cases e⟩ ?_
 ·simp only[aa5,n11 i hi,if_false]
 rintro i fr s hle ⟨gv,rfl,hk,hg,hgi⟩;by_cases hlt:i<nm.length
 ·obtain ⟨n,hn,_,hdr,hget,htk⟩:=ad2 nm i hlt;have d1:(i:Int)<nm.length:=om;have d2:(0:Int)<=i:=om;have w1:=ac3 (i:=i) om;have hn2:=hns n hn;have hb:=ef9 (nm.take i) n p;rw[<- htk] at hb;have hbl:=cs3 (nm.take i) p;rw[ze] at hbl;by_cases e:n=p
  ·rw[if_pos e,zw] at hb;simp only[go_sem,d1,d2,hget,Md.ae1,e,w1];exact ⟨hlt,gv,rfl,hk,by rw[hb];exact hg,hgi⟩
  ·rw[if_neg e] at hb
   have hNo:=fo9 [(p:Int),n] (by simp) (λy hy=>by
    simp only[zu,zo,or_false] at hy;rcases hy with rfl|rfl<;>omega)
   obtain ⟨g1,g2,g3,g4⟩:=fj6 (nid:=s.next) (k:=1) (e:=clE (noL [(p:Int),n])) hk hg hgi (cv4 _) ⟨rfl,rfl⟩ (by rw[zb,zb];omega) (zc _) (zz _);have hcl:clE (noL [(p:Int),n])=[.aa3 ((noL [(p:Int),n]).map Md.ae1)]:=rfl;have hbe:((bz9 (nm.take (i+1)) p).map λn=>noL [(p:Int),n]).map clE=((bz9 (nm.take i) p).map λn=>noL [(p:Int),n]).map clE++[clE (noL [(p:Int),n])]:=by rw[hb,zk,zk];rfl
   generalize ((bz9 (nm.take i) p).map λn=>noL [(p:Int),n]).map clE=es at *;rw[hcl] at g1 g2 g3 hbe;generalize (noL [(p:Int),n]).map Md.ae1=nv at *;simp only[go_sem,d1,d2,hget,Md.ae1,e];refine aa4 fok100 (hNo) ?_;simp only[go_sem,g1,w1];exact ⟨hlt,_,rfl,g2,by rw[hbe];exact g3,g4⟩
 ·have hi':i=nm.length:=om;subst hi';have d1:¬(nm.length:Int)<nm.length:=om;rw[zi] at hg;simp only[go_sem,d1];exact ⟨gv,rfl,hk,hg,hgi⟩
end Go.Id.Tryz
namespace Go.Id.Md.ab3
open Go Go.Id Go.Id.Md
def hm6 (a:ab3)(k:Int)(n:Int):List (List Int):=if k=3 then [upL (a.an4 n)] else if k=4 then (if 0<(a.bx7 n).length then [upL (a.bx7 n)] else []) else [noL [n]]
theorem dw7 (a:ab3)(j:Int)(h:(a.jb j).kind≠1):a.cr9 j=(a.meant j).flatMap (a.hm6 (a.jb j).kind):=by
 have sing:∀(f:Int->List Int) (l:List Int),l.flatMap (λn=>[f n])=l.map f:=λf l=>by
  induction l with
  | nil=>rfl
  | cons n l ih=>rw[z6,ih];rfl
 have filt:∀(q:Int->Bool) (f:Int->List Int) (l:List Int),l.flatMap (λn=>if q n=true then [f n] else [])=(l.filter q).map f:=λq f l=>by
  induction l with
  | nil=>rfl
  | cons n l ih=>
   rw[z6,ih,List.filter_cons];cases q n<;>rfl
 unfold cr9;rw[if_neg h];by_cases k3:(a.jb j).kind=3
 ·rw[if_pos k3,<- sing];congr 1;funext n;unfold hm6;rw[if_pos k3]
 rw[if_neg k3];by_cases k4:(a.jb j).kind=4
 ·rw[if_pos k4,<- filt];congr 1;funext n;unfold hm6;rw[if_neg k3,if_pos k4];simp only[decide_eq_true_eq]
 ·rw[if_neg k4,<- sing];congr 1;funext n;unfold hm6;rw[if_neg k3,if_neg k4]
theorem fp3 (a:ab3)(k:Int)(l:List Int):(l.flatMap (a.hm6 k)).length<=l.length:=by
 induction l with
 | nil=>exact zc _
 | cons n l ih=>
  rw[z6,zj,zt]
  have:(a.hm6 k n).length<=1:=by
   unfold hm6;split
   ·exact zc _
   ·split
    ·split<;>simp
    ·exact zc _
  omega
end Go.Id.Md.ab3
namespace Go.Id.Tryz
open Go Go.Id Go.Proofs Go.Shelf Go.Id.Md
theorem ec2 (a:ab3)(j:Int):(a.bx7 j).length<=a.l.length:=z8 (List.length_filter_le _ _) (az6 a j)
theorem jy2 (a:ab3)(hA:AOK a)(rp:Nat)(c1 c2 c3 c4:IV)(σ:Store)(j:Nat)(hj:j<a.r.af2.length)(hk1:(a.jb j).kind=1)(ho:σ.obj rp=zd (.cells [a.v,c1,c2,c3,c4])) :
  Cq 68 [.ptr rp 0,.agg (⟨7,j,0⟩:Itm).cs] σ (λv s=>v=.tuple [ba5 [upL (a.meant j)],.int .i64 0]/\Kept σ s):=by
 refine C_f fok68 (nZ rfl) ?_;have hR:=bm6 a hA;have hM:=dh8 a j hA;have hlen:=hA.len;have hml:=eq7 a j;have hO:=ef8 (a.meant j) om (bb8 hA ab3.bq8);have r2:a.r.cs[2]? = zd (as5 a.r.af2):=rfl;have hjb:(a.r.af2.map Job.cs).getD j []=(a.jb j).cs:=by simp[ab3.jb,za,hj]
 have k0:(a.jb j).cs.head? = zd (.int .u8 (a.jb j).kind):=rfl;have vcs:a.v.cs=[a.v]:=rfl;have vlf:a.v.leaf=true:=rfl;have hxc:(⟨7,j,0⟩:Itm).cs=[.int .u8 7,.int .i64 j,.int .i64 0]:=rfl;have e1:(0:Int)<=(j:Int):=om;have e2:(j:Int)<a.r.af2.length:=om;rw[hxc];generalize a.v=AV at *;generalize a.meant j=mt at *;generalize a.jb j=J at *;generalize a.r=R at *;simp only[ic68,go_sem,ho,vcs,vlf]
 first|refine aa4 fok106 (hR) ?_|refine ab2 (hR) ?_
 simp only[go_sem,r2,as5,e1,e2,zl,hjb,be1,k0,hk1,ho,vcs,vlf];refine ab2 (hM) ?_;simp only[go_sem,hk1];refine aa4 fok104 (hO) ?_;simp only[go_sem];exact ⟨rfl,z1 _ _,λ_ _=>rfl⟩
theorem kj4 (a:ab3)(hA:AOK a)(rp:Nat)(c1 c2 c3 c4:IV)(σ:Store)(j:Nat)(hj:j<a.r.af2.length)(hk1:(a.jb j).kind≠1)(ho:σ.obj rp=zd (.cells [a.v,c1,c2,c3,c4]))(hrp:rp<σ.next) :
  Cq 68 [.ptr rp 0,.agg (⟨7,j,0⟩:Itm).cs] σ (λv s=>∃gv,v=.tuple [gv,.int .i64 0]/\Kept σ s/\Grow s gv 1 ((a.cr9 j).map clE)/\∀i k,gv=.slice i 0 k 1->σ.next<=i):=by
 refine C_f fok68 (nZ rfl) ?_;have hR:=bm6 a hA;have hM:=dh8 a j hA;have hlen:=hA.len;have hml:=eq7 a j;have hS:=λn=>dh7 a n hA
 have hOS:=λn=>ef8 (a.an4 n) (by have:=az6 a n;omega) (bb8 hA ab3.aw2)
 have hN:=λn=>gh4 a n hA
 have hON:=λn=>ef8 (a.bx7 n) (by have:=ec2 a n;omega) (bb8 hA λm hm=>ab3.aw2 m (a.ec1 hm).1)
 have hma:∀n∈a.meant j,-(2^40)<=n/\n<=2^40:=bb8 hA ab3.bq8;have r2:a.r.cs[2]? = zd (as5 a.r.af2):=rfl;have hjb:(a.r.af2.map Job.cs).getD j []=(a.jb j).cs:=by simp[ab3.jb,za,hj]
 have k0:(a.jb j).cs.head? = zd (.int .u8 (a.jb j).kind):=rfl;have vcs:a.v.cs=[a.v]:=rfl;have vlf:a.v.leaf=true:=rfl;have hxc:(⟨7,j,0⟩:Itm).cs=[.int .u8 7,.int .i64 j,.int .i64 0]:=rfl;have e1:(0:Int)<=(j:Int):=om;have e2:(j:Int)<a.r.af2.length:=om;rw[a.dw7 j hk1,hxc];have hJl:=a.fp3 (a.jb j).kind;have hF:∀n,a.hm6 (a.jb j).kind n=if (a.jb j).kind=3 then [upL (a.an4 n)] else if (a.jb j).kind=4 then (if 0<(a.bx7 n).length then [upL (a.bx7 n)] else []) else [noL [n]]:=λn=>rfl
 generalize a.hm6 (a.jb j).kind=F at *;generalize a.v=AV at *;generalize a.meant j=mt at *;generalize a.jb j=J at *;generalize hRq:a.r=R at *;simp only[ic68,go_sem,ho,vcs,vlf]
 first|refine aa4 fok106 (hR) ?_|refine ab2 (hR) ?_
 simp only[go_sem,r2,as5,e1,e2,zl,hjb,be1,k0,hk1,ho,vcs,vlf];refine ab2 (hM) ?_;simp only[go_sem,hk1]
 refine ab1 noT (λi fr s=>∃gv,fr=[(0,.ptr rp 0),(6,.int .u8 J.kind),(8,gv),(35,.aa3 (mt.map Md.ae1)),(36,.int .i64 mt.length),(37,.int .i64 (i:Int))]/\Kept σ s/\Grow s gv 1 (((mt.take i).flatMap F).map clE)/\∀i k,gv=.slice i 0 k 1->σ.next<=i) mt.length
  ⟨.aa1,rfl,⟨z1 _ _,λ_ _=>rfl⟩,.inl ⟨rfl,rfl⟩,λ_ _ e=>by cases e⟩ ?_
 rintro i fr s hle ⟨gv,rfl,hk,hg,hgi⟩;by_cases hlt:i<mt.length
 ·obtain ⟨n,hn,_,hdr,hget,htk⟩:=ad2 mt i hlt;have d1:(i:Int)<mt.length:=om;have d2:(0:Int)<=i:=om;have w1:=ac3 (i:=i) om;have hn2:=hma n hn;have hos:s.obj rp=zd (.cells [AV,c1,c2,c3,c4]):=(hk.obj rp hrp).trans ho;have hfl:(mt.take (i+1)).flatMap F=(mt.take i).flatMap F++F n:=by rw[htk,List.flatMap_append];simp
  have hbl:((mt.take i).flatMap F).length<=i:=z8 (hJl _) (by rw[ze];omega);have hNo:=fo9 [n] (by simp) (λy hy=>by rw[zx] at hy;omega);rw[hF] at hfl;have hcl:∀q,clE q=[.aa3 (q.map Md.ae1)]:=λ_=>rfl
  have push:=λq:List Int=>fj6 (nid:=s.next) (k:=1) (e:=clE q) hk hg hgi (cv4 _) ⟨rfl,rfl⟩ (by rw[zb];omega) (zc _) (zz _)
  have hbe:∀q,(mt.take (i+1)).flatMap F=(mt.take i).flatMap F++[q]->((mt.take (i+1)).flatMap F).map clE=((mt.take i).flatMap F).map clE++[clE q]:=λq e=>by rw[e,zk];rfl
  by_cases k3:J.kind=3
  ·rw[if_pos k3] at hfl;obtain ⟨g1,g2,g3,g4⟩:=push (upL (a.an4 n));have hbe:=hbe _ hfl;have hS:=hS n;have hOS:=hOS n;rw[hcl] at g1 g2 g3 hbe;generalize ((mt.take i).flatMap F).map clE=es at *;generalize a.an4 n=ss at *;generalize (upL ss).map Md.ae1=nv at *;simp only[go_sem,d1,d2,hget,Md.ae1];refine aa4 fok100 (hNo) ?_;simp only[go_sem,k3,hos,vcs,vlf];refine aa4 fok105 (hS) ?_;simp only[go_sem];refine aa4 fok104 (hOS) ?_;simp only[go_sem,g1,w1];exact ⟨hlt,_,rfl,g2,by rw[hbe];exact g3,g4⟩
  rw[if_neg k3] at hfl;by_cases k4:J.kind=4
  ·rw[if_pos k4] at hfl;have n43:¬(4:Int)=3:=by decide
   have hN:=hN n;have hON:=hON n;by_cases hz:0<(a.bx7 n).length
   ·rw[if_pos hz] at hfl;obtain ⟨g1,g2,g3,g4⟩:=push (upL (a.bx7 n));have hbe:=hbe _ hfl;rw[hcl] at g1 g2 g3 hbe;have hul:¬(((upL (a.bx7 n)).length:Nat):Int)=0:=by unfold upL;rw[zb];omega
    generalize ((mt.take i).flatMap F).map clE=es at *;generalize a.bx7 n=ss at *;simp only[go_sem,d1,d2,hget,Md.ae1];refine aa4 fok100 (hNo) ?_;simp only[go_sem,k3,k4,n43,hos,vcs,vlf];refine aa4 fok108 (hN) ?_;simp only[go_sem];refine aa4 fok104 (hON) ?_;simp only[go_sem,hul,g1,w1];exact ⟨hlt,_,rfl,g2,by rw[hbe];exact g3,g4⟩
   ·rw[if_neg hz,zw] at hfl;have hul:(((upL (a.bx7 n)).length:Nat):Int)=0:=by unfold upL;rw[zb];omega
    generalize a.bx7 n=ss at *;simp only[go_sem,d1,d2,hget,Md.ae1];refine aa4 fok100 (hNo) ?_;simp only[go_sem,k3,k4,n43,hos,vcs,vlf];refine aa4 fok108 (hN) ?_;simp only[go_sem];refine aa4 fok104 (hON) ?_;simp only[go_sem,hul,w1];exact ⟨hlt,gv,rfl,hk,by rw[hfl];exact hg,hgi⟩
  ·rw[if_neg k4] at hfl;obtain ⟨g1,g2,g3,g4⟩:=push (noL [n]);have hbe:=hbe _ hfl;rw[hcl] at g1 g2 g3 hbe;generalize ((mt.take i).flatMap F).map clE=es at *;generalize (noL [n]).map Md.ae1=nv at *;simp only[go_sem,d1,d2,hget,Md.ae1];refine aa4 fok100 (hNo) ?_;simp only[go_sem,k3,k4,g1,w1];exact ⟨hlt,_,rfl,g2,by rw[hbe];exact g3,g4⟩
 ·have hi':i=mt.length:=om;subst hi';have d1:¬(mt.length:Int)<mt.length:=om;rw[zi] at hg;simp only[go_sem,d1];exact ⟨gv,rfl,hk,hg,hgi⟩
theorem iw1 {σ u s:Store}{tp mid:Nat}{xv allv clv clv' gv:IV}{P:List aa2}{t:ag9}{zs:List Int}(hT:bd6 σ u tp mid clv clv')(hM:ar2 u tp mid xv allv clv' P t)(hk:Kept ⟨u.next+1,u.obj⟩ s)(hg:ai4 s (u.next+1) gv zs)(hz:zs.length<1000)(n:Int) :
  as2 s u.next 1 gv (.aa3 [[.int .i64 n]])=zd (.slice u.next 0 (zs.length+1) 1,(ae9 gv s).put u.next (.row ((zs++[n]).map bh4)))/\bd6 σ ((ae9 gv s).put u.next (.row ((zs++[n]).map bh4))) tp mid clv clv'/\ar2 ((ae9 gv s).put u.next (.row ((zs++[n]).map bh4))) tp mid xv allv clv' P t /\
   ai4 ((ae9 gv s).put u.next (.row ((zs++[n]).map bh4))) σ.next (.slice u.next 0 (zs.length+1) 1) (zs++[n])/\(∀i k l,clv'=.slice i 0 k 1->IV.slice u.next 0 (zs.length+1) 1≠.slice i 0 l 1)/\(∀i k l,allv=.slice i 0 k 15->IV.slice u.next 0 (zs.length+1) 1≠.slice i 0 l 1):=by
 have hkl:=hk.low;have hn:u.next+1<=s.next:=hk.next;have hM2:=hM.mono hkl.next hkl.obj;have hl:=tab_late (hM.up 1) (hg.w:ci5 s (⟨u.next+1,u.obj⟩:Store).next gv zs);have hf:=hM.free (i:=u.next) (zc _);obtain ⟨q1,q2,q3,q4,q5⟩:=tab_row2 (nid:=u.next) hM2 (hg.low (Nat.le_succ _)) hl.1 hl.2 n (zc _) om hf rfl;exact ⟨az9 hg n om,q2 σ clv (hT.trans (ar7 hkl _ _ _)) hT.next,q1,q3.low hT.next,q4,q5⟩
theorem jy3 (a:ab3)(hA:AOK a)(hO:a.bn7)(rp:Nat)(c1 c3 c4:IV)(σ:Store)(p q:Nat)(hp:p<a.l.length)(hq:q<(a.pk p).requires.length)(hmay:ao3 (a.cf4 ⟨2,p,q⟩) 1=0)(tp mid:Nat)(allv clv:IV)(t:ag9)
  (ho:σ.obj rp=zd (.cells [a.v,c1,.ptr tp 0,c3,c4])) (hrp:rp<σ.next) (hM:ar2 σ tp mid (ad8 a.l).v allv clv a.l t) (hok:t.OK a.l.length) (hfw:t.few) (hh:t.h+24<=2^20) :
  Cq 63 [.ptr rp 0,.agg (⟨2,p,q⟩:Itm).cs] σ (jk9 σ tp mid (ad8 a.l).v allv clv a.l (a.aj6 ⟨2,p,q⟩ t)):=by
 have hit:a.aj6 ⟨2,p,q⟩ t=([noL [(p:Int)]++[((a.cf4 ⟨2,p,q⟩).by5 a.l (-1) t).1]],((a.cf4 ⟨2,p,q⟩).by5 a.l (-1) t).2):=rfl;rw[hit];refine is7 (C_f fok63 (nZ rfl) ?_);have hf:=(hA.fit _ (cg3 a hp)).cw8 (1,(a.pk p).requires) (by simp[aa2.rows]);obtain ⟨f1,f2⟩:=hf.2 _ (getD_in _ hq);have e2:=gx4 (a.pk p).requires hq;have hde:(a.pk p).requires.getD q default=a.cf4 ⟨2,p,q⟩:=rfl;rw[hde] at e2 f1 f2;obtain ⟨m1,_,m3⟩:=bw5 hmay (.inl rfl);have hrg:=(cg1 a.l (-1) (a.cf4 ⟨2,p,q⟩) (.inl m1) t hok);have hL:=λσ' h=>it6 a.l hO.len hA.small (-1) (a.cf4 ⟨2,p,q⟩) hmay f1 σ' tp mid allv clv t h hok hfw om
 have hP:=ay3 a;have hK:=eg1 a hA p hp;have e3:((a.pk p).cs.drop 7).head? = zd (ap8 (a.pk p).requires):=rfl;have hlen:=hO.len;have hNo:=λσ=>ji2 [(p:Int)] (by simp) (λy hy=>by rw[zx] at hy;omega) σ
 have vcs:a.v.cs=[a.v]:=rfl;have vlf:a.v.leaf=true:=rfl;have pvl:a.p.v.leaf=true:=rfl;have pvc:a.p.v.cs=[a.p.v]:=rfl;have hxc:(⟨2,p,q⟩:Itm).cs=[.int .u8 2,.int .i64 p,.int .i64 q]:=rfl;have d3:(0:Int)<=(q:Int):=om;have d4:(q:Int)<(a.pk p).requires.length:=om;have n11:∀i,i<σ.next->¬i=σ.next+1+1+1+1+1+1+1+1+1+1+1:=λi hi=>by omega
 rw[hxc];generalize a.v=AV at *;generalize a.p.v=PV at *;generalize hRd:a.cf4 ⟨2,p,q⟩=R at *;generalize hw:R.by5 a.l (-1) t=w at *;have hwr:=hrg.ok.2;have hwl:=hrg.le.2;simp only[ic63,go_sem,ho,vcs,vlf,pvl,pvc]
 first|refine aa4 fok42 (hP) ?_|refine ab2 (hP) ?_
 simp only[go_sem,pvl,pvc]
 first|refine aa4 fok57 (hK) ?_|refine ab2 (hK) ?_
 simp only[go_sem,af7,ae8,ac7];simp only[n11 rp hrp,if_false,ho,go_sem,e2,e3,d3,d4,zl,ae6,ad9,ac5];have hKt:∀(m m2:Nat) (A B:aj2),Kept σ ⟨σ.next+m+m2,(((⟨σ.next+m,σ.obj⟩:Store).put (σ.next+1+1+1+1+1+1+1+1+1+1+1) A).put (σ.next+1+1+1+1+1+1+1+1+1+1+1) B).obj⟩:=λm m2 A B=>⟨by show σ.next<=σ.next+m+m2;omega,λi hi=>by simp only[aa5,n11 i hi,if_false]⟩
 refine ac4 fok101 (hL _ (hM.mono (hKt _ _ _ _).next (hKt _ _ _ _).obj)) ?_;rintro v u ⟨w',rfl,hO2⟩;have hO3:=hO2.from (ar7 (hKt _ _ _ _) tp mid clv);refine ⟨by obtain ⟨_,_,g,_⟩:=hO2;exact g.next,?_⟩;obtain ⟨rfl,clv',hT,hM2⟩:=hO3;simp only[go_sem];refine ac4 fok100 (hNo _) ?_;rintro gv s ⟨hk,hg⟩;refine ⟨hk.next,?_⟩;obtain ⟨g1,g2,g3,g4,g5,g6⟩:=iw1 hT hM2 hk hg (by simp[noL]) w.1;simp only[go_sem,g1];exact ⟨_,clv',rfl,g2,g3,g4,g5,g6⟩
theorem ji3 (a:ab3)(hA:AOK a)(hO:a.bn7)(rp:Nat)(c1 c3 c4:IV)(σ:Store)(p q:Nat)(hp:p<a.l.length)(hq:q<(a.pk p).conflicts.length)(hmay:ao3 (a.bf5 ⟨3,p,q⟩) 1=0)(tp mid:Nat)(allv clv:IV)(t:ag9)
  (ho:σ.obj rp=zd (.cells [a.v,c1,.ptr tp 0,c3,c4])) (hrp:rp<σ.next) (hM:ar2 σ tp mid (ad8 a.l).v allv clv a.l t) (hok:t.OK a.l.length) (hfw:t.few) (hh:t.h+24<=2^20) :
  Cq 64 [.ptr rp 0,.agg (⟨3,p,q⟩:Itm).cs] σ (jk9 σ tp mid (ad8 a.l).v allv clv a.l (a.aj6 ⟨3,p,q⟩ t)):=by
 have hit:a.aj6 ⟨3,p,q⟩ t=([noL [(p:Int)]++[-((a.bf5 ⟨3,p,q⟩).by5 a.l p t).1]],((a.bf5 ⟨3,p,q⟩).by5 a.l p t).2):=rfl;rw[hit];refine is7 (C_f fok64 (nZ rfl) ?_);have hf:=(hA.fit _ (cg3 a hp)).cw8 (2,(a.pk p).conflicts) (by simp[aa2.rows]);obtain ⟨f1,f2⟩:=hf.2 _ (getD_in _ hq);have e2:=gx4 (a.pk p).conflicts hq;have hde:(a.pk p).conflicts.getD q default=a.bf5 ⟨3,p,q⟩:=rfl;rw[hde] at e2 f1 f2;obtain ⟨m1,_,m3⟩:=bw5 hmay (.inl rfl);have hrg:=(cg1 a.l p (a.bf5 ⟨3,p,q⟩) (.inl m1) t hok);have hL:=λσ' h=>it6 a.l hO.len hA.small p (a.bf5 ⟨3,p,q⟩) hmay f1 σ' tp mid allv clv t h hok hfw om
 have hP:=ay3 a;have hK:=eg1 a hA p hp;have e3:((a.pk p).cs.drop 8).head? = zd (ap8 (a.pk p).conflicts):=rfl;have hlen:=hO.len;have hNo:=λσ=>ji2 [(p:Int)] (by simp) (λy hy=>by rw[zx] at hy;omega) σ
 have vcs:a.v.cs=[a.v]:=rfl;have vlf:a.v.leaf=true:=rfl;have pvl:a.p.v.leaf=true:=rfl;have pvc:a.p.v.cs=[a.p.v]:=rfl;have hxc:(⟨3,p,q⟩:Itm).cs=[.int .u8 3,.int .i64 p,.int .i64 q]:=rfl;have d3:(0:Int)<=(q:Int):=om;have d4:(q:Int)<(a.pk p).conflicts.length:=om;have n11:∀i,i<σ.next->¬i=σ.next+1+1+1+1+1+1+1+1+1+1+1:=λi hi=>by omega
 rw[hxc];generalize a.v=AV at *;generalize a.p.v=PV at *;generalize hRd:a.bf5 ⟨3,p,q⟩=R at *;generalize hw:R.by5 a.l p t=w at *;have hwr:=hrg.ok.2;have hwl:=hrg.le.2;simp only[ic64,go_sem,ho,vcs,vlf,pvl,pvc]
 first|refine aa4 fok42 (hP) ?_|refine ab2 (hP) ?_
 simp only[go_sem,pvl,pvc]
 first|refine aa4 fok57 (hK) ?_|refine ab2 (hK) ?_
 simp only[go_sem,af7,ae8,ac7];simp only[n11 rp hrp,if_false,ho,go_sem,e2,e3,d3,d4,zl,ae6,ad9,ac5];have hKt:∀(m m2:Nat) (A B:aj2),Kept σ ⟨σ.next+m+m2,(((⟨σ.next+m,σ.obj⟩:Store).put (σ.next+1+1+1+1+1+1+1+1+1+1+1) A).put (σ.next+1+1+1+1+1+1+1+1+1+1+1) B).obj⟩:=λm m2 A B=>⟨by show σ.next<=σ.next+m+m2;omega,λi hi=>by simp only[aa5,n11 i hi,if_false]⟩
 refine ac4 fok101 (hL _ (hM.mono (hKt _ _ _ _).next (hKt _ _ _ _).obj)) ?_;rintro v u ⟨w',rfl,hO2⟩;have hO3:=hO2.from (ar7 (hKt _ _ _ _) tp mid clv);refine ⟨by obtain ⟨_,_,g,_⟩:=hO2;exact g.next,?_⟩;obtain ⟨rfl,clv',hT,hM2⟩:=hO3;simp only[go_sem];refine ac4 fok100 (hNo _) ?_;rintro gv s ⟨hk,hg⟩;refine ⟨hk.next,?_⟩;have wn:IntKind.wrap .i64 (0-w.1)=-w.1:=by have:=hwr.2.1;have:=hwr.2.2;rw[wrap64 om om];omega
 obtain ⟨g1,g2,g3,g4,g5,g6⟩:=iw1 hT hM2 hk hg (by simp[noL]) (-w.1);simp only[go_sem,wn,g1];exact ⟨_,clv',rfl,g2,g3,g4,g5,g6⟩
def ct8 (k:Int):Nat:=if k=1 then 62 else if k=2 then 63 else if k=3 then 64 else if k=4 then 65 else if k=5 then 66 else if k=6 then 67 else 68
def eg2 (rp:Nat):List (IV×IV):=[(.int .u8 1,.func (.func (ct8 1)) [.ptr rp 0] []),(.int .u8 2,.func (.func (ct8 2)) [.ptr rp 0] []),(.int .u8 3,.func (.func (ct8 3)) [.ptr rp 0] []),(.int .u8 4,.func (.func (ct8 4)) [.ptr rp 0] []),(.int .u8 5,.func (.func (ct8 5)) [.ptr rp 0] []),(.int .u8 6,.func (.func (ct8 6)) [.ptr rp 0] []),(.int .u8 7,.func (.func (ct8 7)) [.ptr rp 0] [])]
theorem ji4 (k:Int):okF Tryz.prog (ct8 k)=true:=by
 unfold ct8;split;· exact fok62.1
 split;· exact fok63.1
 split;· exact fok64.1
 split;· exact fok65.1
 split;· exact fok66.1
 split;· exact fok67.1
 exact fok68.1
theorem hm7 {s:Store}{dm rp:Nat}(h:s.obj dm=zd (.map (eg2 rp))){a:ab3}{x:Itm}(hx:a.Has x):cj1 s 1 .ad7 false (.map dm) (.int .u8 x.kind)=zd (.func (.func (ct8 x.kind)) [.ptr rp 0] []):=by
 simp only[cj1,cb9,h];cases hx<;>rfl
theorem ca9 {P:Program}{E:Nat->IV}{o:Option Store}{S:Store}{K:IV->Store->Prop}(h:o=zd S)(hk:K .undef S):jj9 o K:=by rw[h];exact hk
theorem bn5 (B:Store)(dm rp n:Nat)(h:n<7):ao9 (B.put dm (.map ((eg2 rp).take n))) 1 (.map dm) (.int .u8 ((n+1:Nat):Int)) (.func (.func (ct8 ((n+1:Nat):Int))) [.ptr rp 0] [])=zd (B.put dm (.map ((eg2 rp).take (n+1)))):=by
 have e1:∀L,(B.put dm (.map L)).obj dm=zd (.map L):=λL=>if_pos rfl
 have e2:∀x y:aj2,(B.put dm x).put dm y=B.put dm y:=λx y=>by
  unfold Store.put;congr 1;funext i;by_cases hi:i=dm<;>simp[hi]
 simp only[ao9,e1];have:n=0\/n=1\/n=2\/n=3\/n=4\/n=5\/n=6:=om;rcases this with rfl|rfl|rfl|rfl|rfl|rfl|rfl<;>exact congrArg zd (e2 _ _)
theorem jy4 (a:ab3)(hA:AOK a)(hO:a.bn7)(hmay:∀p∈a.l,aj7 p=true){x:Itm}(hx:a.Has x)(rp:Nat)(c1 c3 c4:IV)(σ:Store)(tp mid:Nat)(allv clv:IV)(t:ag9)
  (ho:σ.obj rp=zd (.cells [a.v,c1,.ptr tp 0,c3,c4])) (hrp:rp<σ.next) (hM:ar2 σ tp mid (ad8 a.l).v allv clv a.l t) (hok:t.OK a.l.length) (hfw:t.few) (hh:t.h+24<=2^20) :
  Cq (ct8 x.kind) [.ptr rp 0,.agg x.cs] σ (jk9 σ tp mid (ad8 a.l).v allv clv a.l (a.aj6 x t)):=by
 have hlen:=hO.len
 cases hx with
 | ap7 p hp _=>exact fj8 hM (jx7 rp σ ⟨1,p,0⟩ (by simp only;omega))
 | need p q hp hq=>exact jy3 a hA hO rp c1 c3 c4 σ p q hp hq (fj4 (bw6 (bj5 (hmay _ (cg3 a hp))).1 _ (getD_in _ hq)) (.inl rfl)) tp mid allv clv t ho hrp hM hok hfw hh
 | clash p q hp hq=>exact ji3 a hA hO rp c1 c3 c4 σ p q hp hq (fj4 (bw6 (bj5 (hmay _ (cg3 a hp))).2 _ (getD_in _ hq)) (.inr rfl)) tp mid allv clv t ho hrp hM hok hfw hh
 | over p q hp hq=>exact is6 hM (jy1 a hA rp _ _ _ _ σ p q hp hq ho hrp)
 | twin p q h1 h4 _=>exact fj8 hM (jx8 rp σ ⟨5,p,q⟩ (by simp only;omega) (by simp only;omega))
 | keep i hi _=>exact fj8 hM (jx9 a hA rp _ _ _ _ σ ⟨6,i,0⟩ ho)
 | job j hj _=>
  by_cases hk:(a.jb j).kind=1
  ·have e:a.aj6 ⟨7,j,0⟩ t=([upL (a.meant j)],t):=by
    show (a.cr9 j,t)=_;unfold ab3.cr9;rw[if_pos hk]
   rw[e];exact fj8 hM (jy2 a hA rp _ _ _ _ σ j hj hk ho)
  ·exact is6 hM (kj4 a hA rp _ _ _ _ σ j hj hk ho hrp)
def ab3.rN (a:ab3):List (List (List Int))×ag9:=a.al1 a.items ⟨0,[],[]⟩
def ab3.rV (a:ab3):IV:=aw3 a.v a.mv (aj5 a.items) (ad8 a.l).v a.l (ab3.rN a).2 (ab3.rN a).1
theorem fd7 (a:ab3)(hA:AOK a)(hO:a.bn7)(hI:0<=a.p.inst)(hmay:∀p∈a.l,aj7 p=true)(hit:a.items.length<=20000):Pq 28 [a.v] (.tuple [ab3.rV a,.int .i64 0]):=by
 refine af4 hE fok28 (nZ rfl) (ak1 (ah5 a)) ?_;have hMod:=fd6 a hA hI om;have hP:=ay3 a;have hItm:=en8 a om;have hNew:=λσ=>gw9 a.p hA.len (λx hx=>⟨hA.fit x hx,hA.tiny x hx⟩) σ
 have vcs:a.v.cs=[a.v]:=rfl;have vlf:a.v.leaf=true:=rfl;have mcs':a.mv.cs=[a.mv]:=rfl;have mlf:a.mv.leaf=true:=rfl;have pvl:a.p.v.leaf=true:=rfl;have pvc:a.p.v.cs=[a.p.v]:=rfl;simp only[ic28,go_sem,vcs,vlf];refine aa4 fok60 (hMod) ?_;simp only[go_sem,vcs,vlf]
 first|refine aa4 fok42 (hP) ?_|refine ab2 (hP) ?_
 simp only[go_sem,pvl,pvc];refine ac4 fok61 (hNew _) ?_;rintro v s ⟨tp,mid,allv,rfl,hk0,htp,hM0⟩;refine ⟨hk0.next,?_⟩;simp only[go_sem,vcs,vlf,mcs',mlf]
 first|refine aa4 fok11 (hItm) ?_|refine ab2 (hItm) ?_
 have ivl:(aj5 a.items).leaf=true:=rfl;have ivc:(aj5 a.items).cs=[aj5 a.items]:=rfl;simp only[go_sem,vcs,vlf,mcs',mlf,ivl,ivc];refine ca9 (P:=Tryz.prog) (E:=EE) (bn5 _ (s.next+1) s.next 0 (by decide)) ?_;simp only[go_sem];refine ca9 (P:=Tryz.prog) (E:=EE) (bn5 _ (s.next+1) s.next 1 (by decide)) ?_;simp only[go_sem];refine ca9 (P:=Tryz.prog) (E:=EE) (bn5 _ (s.next+1) s.next 2 (by decide)) ?_;simp only[go_sem];refine ca9 (P:=Tryz.prog) (E:=EE) (bn5 _ (s.next+1) s.next 3 (by decide)) ?_;simp only[go_sem];refine ca9 (P:=Tryz.prog) (E:=EE) (bn5 _ (s.next+1) s.next 4 (by decide)) ?_;simp only[go_sem];refine ca9 (P:=Tryz.prog) (E:=EE) (bn5 _ (s.next+1) s.next 5 (by decide)) ?_;simp only[go_sem];refine ca9 (P:=Tryz.prog) (E:=EE) (bn5 _ (s.next+1) s.next 6 (by decide)) ?_;have nsd:¬s.next=s.next+1:=om;have ill:∀σ:Store,cc2 0 σ (aj5 a.items)=zd (.int .i64 a.items.length):=λσ=>by unfold aj5;simp only[go_sem]
 have ht7:(eg2 s.next).take 7=eg2 s.next:=rfl
 have hB0:cx2 ((({ next:=s.next+1+1,obj:=({ next:=s.next+1,obj:=s.obj }:Store).put s.next (aj2.cells [a.v,a.mv,IV.ptr tp 0,aj5 a.items,IV.aa1]) |>.obj }:Store).put (s.next+1) (aj2.map (eg2 s.next)))) a.v a.mv (aj5 a.items) s.next (s.next+1) tp mid (eg2 s.next) (ad8 a.l).v allv .aa1 .aa1 a.l ⟨0,[],[]⟩ []:=by
  have l1:=hM0.lt.1;have l2:=hM0.lt.2
  exact {
   cell:=by simp only[aa5,nsd,if_true,if_false]
   map:=by simp only[aa5,if_true]
   tab:=hM0.mono (by show s.next<=s.next+1+1;omega) λi hi=>by
    have h1:¬i=s.next:=om;have h2:¬i=s.next+1:=om;simp only[aa5,h1,h2,if_false]
   grow:=.inl ⟨rfl,rfl⟩
   ne:=λ_ _ _ e=>by cases e
   na:=λ_ _ _ _ e=>by cases e
   lt:=⟨by show s.next<s.next+1+1;omega,by show s.next+1<s.next+1+1;omega⟩
   dt:=⟨om,om,om,om⟩ }
 simp only[ht7,go_sem,nsd,ill];generalize hrp:s.next=rp at *;clear hk0 hM0 hMod hNew ht7 hrp;refine ab1 noT (λi fr u=>∃clv cv,fr=[(7,.ptr rp 0),(8,.map (rp+1)),(56,aj5 a.items),(57,.int .i64 a.items.length),(58,.int .i64 (i:Int))]/\cx2 u a.v a.mv (aj5 a.items) rp (rp+1) tp mid (eg2 rp) (ad8 a.l).v allv clv cv a.l (a.al1 (a.items.take i) ⟨0,[],[]⟩).2 (a.al1 (a.items.take i) ⟨0,[],[]⟩).1) a.items.length ⟨.aa1,.aa1,rfl,hB0⟩ ?_;clear hB0;rintro i fr u hle ⟨clv,cv,rfl,hB⟩;have h00:(⟨0,[],[]⟩:ag9).OK a.l.length:=⟨λ_ h=>(by cases h),λ_ h=>(by cases h),.nil⟩;have h0f:(⟨0,[],[]⟩:ag9).few:=zc _;have hin:∀x∈a.items.take i,a.Has x:=λx hx=>a.ex8.1 (z3 hx)
 obtain ⟨⟨_,t2⟩,t3,_⟩:=ab3.du5 hO (a.items.take i) hin _ h00;have tf:=ab3.em9 hO (a.items.take i) hin _ h0f;have tl:=a.em8 (a.items.take i) ⟨0,[],[]⟩;have hsn:=λx=>a.gd6 x (a.items.take i) ⟨0,[],[]⟩
 rw[ze] at t2 tl;by_cases hlt:i<a.items.length
 ·obtain ⟨x,hx,hxi,hdr,hget,htk⟩:=ad2 a.items i hlt;have c1:(i:Int)<a.items.length:=om;have c2:(0:Int)<=(i:Int):=om;have w1:=ac3 (i:=i) om;have hH:=a.ex8.1 hx;have hsn:=hsn x;rw[<- htk] at hsn;generalize a.al1 (a.items.take i) ⟨0,[],[]⟩=w at *;have k0:x.cs.head? = zd (.int .u8 x.kind):=rfl;have hd:=hB.map;have l2:=hB.lt.2;have n1:¬rp+1=u.next:=om;have hlk:∀T:Store,T.obj (rp+1)=zd (.map (eg2 rp))->cj1 T 1 .ad7 false (.map (rp+1)) (.int .u8 x.kind)=zd (.func (.func (ct8 x.kind)) [.ptr rp 0] []):=λT h=>hm7 h hH
  have iv:aj5 a.items=.aa3 (a.items.map Itm.cs):=rfl;have hBK:=λA B=>hB.mono (Kept.box u A B)
  simp only[go_sem,iv,c1,c2,hget,bm7,bj7,bj6,k0];rw[hlk _ (by simp only[aa5,n1,if_false];exact hd)];simp only[go_sem,bm7,bj7,bj6];refine ap4 (ji4 _) (jy4 a hA hO hmay hH rp _ _ _ _ tp mid allv clv w.2 (hBK _ _).cell (hBK _ _).lt.1 (hBK _ _).tab t3 tf (by show w.2.h+24<=_;have:(⟨0,[],[]⟩:ag9).h=0:=rfl;omega)) ?_;rintro v u2 ⟨rfl,clv',hT,hM2⟩;refine ⟨hT.next,?_⟩;have hB2:=(hBK _ _).eff hT hM2;obtain ⟨s1,e1,e2,e3,hB3⟩:=gv4 (nid:=u2.next) (k:=1) hB2 (a.aj6 x w.2).1 om (zc _) (zz _);have hc2:=hB2.cell;have qlf:(ba5 (a.aj6 x w.2).1).leaf=true:=rfl;have qcs:(ba5 (a.aj6 x w.2).1).cs=[ba5 (a.aj6 x w.2).1]:=rfl;rw[iv] at hc2 e3;generalize ba5 (a.aj6 x w.2).1=qv at *;simp only[go_sem,hc2,qlf,qcs,e1,e3,w1];refine ⟨hlt,clv',?_⟩;rw[hsn];exact ⟨_,hB3⟩
 ·have hi':i=a.items.length:=om;subst hi';have c1:¬(a.items.length:Int)<a.items.length:=om;rw[zi] at hB t3;simp only[go_sem,c1];refine ey5 (hB.frz (ah5 a) (br3 a) (as7 _) (ar9 _) au6 (λe he=>(aw6 _ e he).1) t3.kn)
theorem eg3 (xv:IV)(P:List aa2)(t:ag9)(hl:t.cl.length<2^30)(hq:∀q∈t.cl,q.length<2^30)(σ:Store):Cq 35 [tabV xv P t] σ (jt1 σ t.cl):=by
 refine C_f fok35 (nZ rfl) ?_;unfold tabV ba5;generalize t.cl=L at *;simp only[ic35,go_sem,ac2]
 refine ab1 noT (λi fr s=>∃gv,fr=[(3,gv),(11,.aa3 (L.map clE)),(12,.int .i64 L.length),(13,.int .i64 (i:Int))]/\Kept σ s/\bq9 s σ.next gv (L.take i)) L.length
  ⟨.aa1,rfl,Kept.refl σ,.inl ⟨rfl,rfl⟩⟩ ?_
 rintro i fr s hle ⟨gv,rfl,hk,hg⟩;by_cases hlt:i<L.length
 ·obtain ⟨q,hqm,_,hdr,hget,htk⟩:=ad2 L i hlt;have d1:(i:Int)<L.length:=om;have d2:(0:Int)<=i:=om;have w1:=ac3 (i:=i) om;have hc:=fk9 q (hq q hqm);have hcl:clE q=[.aa3 (q.map Md.ae1)]:=rfl;simp only[go_sem,d1,d2,hget,hcl];refine ac4 fok74 (hc _) ?_;rintro c u ⟨hk2,hr⟩;refine ⟨hk2.next,?_⟩;obtain ⟨S,e1,e2,e3,e4⟩:=gv2 hk hg hk2 hr (by rw[ze];omega);have hlf:=cf9 hr;have hcs:c.cs=[c]:=by rcases hr with ⟨rfl,_⟩|⟨_,_,_,rfl,_⟩<;>rfl
  simp only[go_sem,hlf,hcs,e1,w1];exact ⟨hlt,_,rfl,e3,by rw[htk];exact e4⟩
 ·have hi':i=L.length:=om;subst hi';have d1:¬(L.length:Int)<L.length:=om;rw[zi] at hg;simp only[go_sem,d1];exact ⟨hk,hg⟩
theorem dw8 (L:List (List Int))(hl:L.length<2^30)(hq:∀q∈L,q.length<2^30)(σ:Store):Cq 36 [ba5 L] σ (jt1 σ L):=by
 refine C_f fok36 (nZ rfl) ?_;unfold ba5;simp only[ic36,go_sem]
 refine ab1 noT (λi fr s=>∃gv,fr=[(3,gv),(6,.aa3 (L.map clE)),(7,.int .i64 L.length),(8,.int .i64 (i:Int))]/\Kept σ s/\bq9 s σ.next gv (L.take i)) L.length
  ⟨.aa1,rfl,Kept.refl σ,.inl ⟨rfl,rfl⟩⟩ ?_
 rintro i fr s hle ⟨gv,rfl,hk,hg⟩;by_cases hlt:i<L.length
 ·obtain ⟨q,hqm,_,hdr,hget,htk⟩:=ad2 L i hlt;have d1:(i:Int)<L.length:=om;have d2:(0:Int)<=i:=om;have w1:=ac3 (i:=i) om;have hc:=fk9 q (hq q hqm);have hcl:clE q=[.aa3 (q.map Md.ae1)]:=rfl;simp only[go_sem,d1,d2,hget,hcl];refine ac4 fok74 (hc _) ?_;rintro c u ⟨hk2,hr⟩;refine ⟨hk2.next,?_⟩;obtain ⟨S,e1,e2,e3,e4⟩:=gv2 hk hg hk2 hr (by rw[ze];omega);have hlf:=cf9 hr;have hcs:c.cs=[c]:=by rcases hr with ⟨rfl,_⟩|⟨_,_,_,rfl,_⟩<;>rfl
  simp only[go_sem,hlf,hcs,e1,w1];exact ⟨hlt,_,rfl,e3,by rw[htk];exact e4⟩
 ·have hi':i=L.length:=om;subst hi';have d1:¬(L.length:Int)<L.length:=om;rw[zi] at hg;simp only[go_sem,d1];exact ⟨hk,hg⟩
theorem hm8 {xv:IV}(hx:Bnd 0 xv)(P:List aa2)(t:ag9):Bnd 0 (tabV xv P t):=.ab8 _ λc hc=>by
 simp only[zu,zo,or_false] at hc;rcases hc with rfl|rfl|rfl|rfl|rfl
 ·exact hx
 ·exact ap6 P
 ·exact .int _ _
 ·exact bg9 _
 ·exact .al4 _ (λe he=>by obtain ⟨x,_,rfl⟩:=zf.1 he;exact .str _) λe he=>by obtain ⟨x,_,rfl⟩:=zf.1 he;exact .int _ _
theorem bg2 {av c1 c3 xv:IV}(ha:Bnd 0 av)(h1:Bnd 0 c1)(h3:Bnd 0 c3)(hx:Bnd 0 xv)(P:List aa2)(t:ag9)(cs:List (List (List Int))):Bnd 0 (aw3 av c1 c3 xv P t cs):=.ab8 _ λc hc=>by
 simp only[zu,zo,or_false] at hc;rcases hc with rfl|rfl|rfl|rfl|rfl
 ·exact ha
 ·exact h1
 ·exact hm8 hx P t
 ·exact h3
 ·exact .aa3 _ λe he c hc=>by
   obtain ⟨x,_,rfl⟩:=zf.1 he;rw[bkE,zx] at hc;subst hc;exact bg9 x
variable {av c1 c3 xv:IV} (ha:Bnd 0 av) (h1:Bnd 0 c1) (h3:Bnd 0 c3) (hx:Bnd 0 xv) (P:List aa2) (t:ag9) (cs:List (List (List Int)))
theorem hm9 (hl:t.cl.length<2^30)(hq:∀q∈t.cl,q.length<2^30)(σ:Store):Cq 13 [aw3 av c1 c3 xv P t cs] σ (jt1 σ t.cl):=by
 refine C_f fok13 (nZ rfl) ?_;have hC:=λσ=>eg3 xv P t hl hq σ
 have tcs:(tabV xv P t).cs=[tabV xv P t]:=rfl;have tlf:(tabV xv P t).leaf=true:=rfl;unfold aw3;generalize tabV xv P t=T at *;simp only[ic13,go_sem,ac2,tcs,tlf];refine ac4 fok35 (hC _) ?_;rintro v s hk;refine ⟨hk.1.next,?_⟩;simp only[go_sem];exact hk
theorem jy5 {cs:List (List (List Int))}{i:Nat}(h:i<cs.length):(cs.map bkE).getD i []=[ba5 (cs.getD i [])]:=by simp[za,h,bkE]
theorem cb1 (i:Nat)(hi:i<cs.length)(hn:cs.length<2^30)(hl:(cs.getD i []).length<2^30)(hq:∀q∈cs.getD i [],q.length<2^30)(σ:Store):Cq 14 [aw3 av c1 c3 xv P t cs,.int .i64 (i:Int)] σ (jt1 σ (cs.getD i [])):=by
 refine C_f fok14 (nZ rfl) ?_;have hC:=λσ=>dw8 (cs.getD i []) hl hq σ
 have g:=jy5 hi;have d0:¬(i:Int)<0:=om;have d1:¬(cs.length:Int)<=(i:Int):=om;have d2:(0:Int)<=(i:Int):=om;have d3:(i:Int)<cs.length:=om;have qlf:(ba5 (cs.getD i [])).leaf=true:=rfl;have qcs:(ba5 (cs.getD i [])).cs=[ba5 (cs.getD i [])]:=rfl;unfold aw3;generalize ba5 (cs.getD i [])=Q at *;simp only[ic14,go_sem,ac2,d0,d1,d2,d3,zl,g,qlf,qcs];refine ac4 fok36 (hC _) ?_;rintro v s hk;refine ⟨hk.1.next,?_⟩;simp only[go_sem];exact hk
theorem er5 (hb:Bnd 0 (aw3 av c1 c3 xv P t cs))(z:Int)(hz:z<0\/(cs.length:Int)<=z):Pq 14 [aw3 av c1 c3 xv P t cs,.int .i64 z] .aa1:=by
 refine af4 hE fok14 (nZ rfl) (ah6 hb (.int _ _)) ?_;unfold aw3;by_cases d0:z<0
 ·simp only[ic14,go_sem,ac2,d0];exact .keep _ .aa1
 ·have d1:(cs.length:Int)<=z:=hz.resolve_left d0;simp only[ic14,go_sem,ac2,d0,d1];exact .keep _ .aa1
theorem ci2 {cs:List (List (List Int))}{m:Nat}(h:∀q∈cs,q.length<=m):cs.flatten.length<=m*cs.length:=by
 induction cs with
 | nil=>exact zc _
 | cons q cs ih=>
  have h1:=h q List.mem_cons_self;have h2:=ih λx hx=>h x (List.mem_cons_of_mem _ hx)
  rw[List.flatten_cons,zj,zt,Nat.mul_add];omega
include ha h1 h3 hx
theorem jy6 (hl:t.cl.length<2^30)(hq:∀q∈t.cl,q.length<2^30)(hc:cs.length<=20000)(hcq:∀q∈cs,q.length<=1000/\∀y∈q,y.length<2^30):Pq 17 [aw3 av c1 c3 xv P t cs] (ba5 (t.cl++cs.flatten)):=by
 refine af4 hE fok17 (nZ rfl) (ak1 (bg2 ha h1 h3 hx P t cs)) ?_;have hB:=λσ=>hm9 (av:=av) (c1:=c1) (c3:=c3) (xv:=xv) P t cs hl hq σ
 unfold aw3 at *;generalize tabV xv P t=T at *;simp only[ic17,go_sem,ac2];refine ac4 fok13 (hB _) ?_;rintro v s ⟨hk,hg⟩;refine ⟨hk.next,?_⟩;simp only[go_sem]
 refine ab1 noT (λi fr s=>∃gv,fr=[(3,gv),(13,.aa3 (cs.map bkE)),(14,.int .i64 cs.length),(15,.int .i64 (i:Int))]/\Kept ⟨0,emp.obj⟩ s/\bq9 s 0 gv (t.cl++(cs.take i).flatten)) cs.length
  ⟨v,rfl,hk,by simpa using hg⟩ ?_
 clear hg hk;rintro i fr s hle ⟨gv,rfl,hk,hg⟩;by_cases hlt:i<cs.length
 ·obtain ⟨q,hqm,_,hdr,hget,htk⟩:=ad2 cs i hlt;have d1:(i:Int)<cs.length:=om;have d2:(0:Int)<=i:=om;have w1:=ac3 (i:=i) om;have hcp:=λσ=>dw8 q (by have:=(hcq q hqm).1;omega) (hcq q hqm).2 σ
  have hfl:=ci2 (cs:=cs.take i) (m:=1000) λx hx=>(hcq x (z3 hx)).1
  rw[ze] at hfl;have qlf:(ba5 q).leaf=true:=rfl;have qcs:(ba5 q).cs=[ba5 q]:=rfl;simp only[go_sem,d1,d2,hget,bkE,qlf,qcs];refine ac4 fok36 (hcp _) ?_;rintro c u ⟨hk2,hc⟩;refine ⟨hk2.next,?_⟩;obtain ⟨v',S,e1,_,e3,e4⟩:=gv3 (σ:=⟨0,emp.obj⟩) (m:=1) hk hg hk2 hc (nid:=s.next) (k:=0) (zc _) (.inl (zz _)) hk2.next (by rw[zj];have:=(hcq q hqm).1;omega);have e1:as2 u s.next 1 gv c=zd (v',S):=e1;simp only[go_sem,e1,w1];exact ⟨hlt,v',rfl,e3,by rw[htk,List.flatten_append,<- zh];simpa using e4⟩
 ·have hi':i=cs.length:=om;subst hi';have d1:¬(cs.length:Int)<cs.length:=om;rw[zi] at hg;simp only[go_sem,d1];exact hg.frz
theorem fd8 (hP:P.length<2^30)(ht:t.h<2^30):Pq 34 [tabV xv P t] (.int .i64 ((P.length+t.h:Nat):Int)):=by
 refine af4 hE fok34 (nZ rfl) (ak1 (hm8 hx P t)) ?_;have w1:IntKind.wrap .i64 ((P.length:Int)+(t.h:Int))=((P.length+t.h:Nat):Int):=by rw[wrap64 om om];omega
 unfold tabV;simp only[ic34,go_sem,ac2,w1];exact bn2 rfl
theorem hn6 (hP:P.length<2^30)(ht:t.h<2^30):Pq 12 [aw3 av c1 c3 xv P t cs] (.int .i64 ((P.length+t.h:Nat):Int)):=by
 refine af4 hE fok12 (nZ rfl) (ak1 (bg2 ha h1 h3 hx P t cs)) ?_;have hV:=fd8 ha h1 h3 hx P t hP ht;have tcs:(tabV xv P t).cs=[tabV xv P t]:=rfl;have tlf:(tabV xv P t).leaf=true:=rfl;unfold aw3;generalize tabV xv P t=T at *;simp only[ic12,go_sem,ac2,tcs,tlf];refine aa4 fok34 (hV) ?_;simp only[go_sem];exact bn2 rfl
theorem gh7:Pq 10 [aw3 av c1 c3 xv P t cs] c1:=by
 refine af4 hE fok10 (nZ rfl) (ak1 (bg2 ha h1 h3 hx P t cs)) ?_;unfold aw3;simp only[ic10,go_sem,ac2];exact .keep _ h1
end Go.Id.Tryz
