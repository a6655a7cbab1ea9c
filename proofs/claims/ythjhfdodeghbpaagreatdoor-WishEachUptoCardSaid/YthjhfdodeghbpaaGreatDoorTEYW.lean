/- norm: the literals of all parts. Conditions: sizes that fit. -/
import Derived.Test.YthjhfdodeghbpaaGreatDoorTEYJ
import Derived.Test.YthjhfdodeghbpaaGreatDoorMwa
import Derived.Test.YthjhfdodeghbpaaGreatDoorTEQO
import Derived.Test.YthjhfdodeghbpaaGreatDoorMg
import Derived.Test.YthjhfdodeghbpaaGreatDoorFwZb
open List renaming length_map→za,getD_eq_getElem?_getD→zb,append_assoc→ze,mem_append→zf,mem_map→zh,map_append→zi,length_append→zj,append_nil→zk,getElem?_eq_getElem→zl,mem_map_of_mem→zm,length_cons→zn,head?_cons→zo,all_cons→zp,not_mem_nil→zr,length_take→zt,getElem_mem→zu,mem_singleton→zv,all_nil→zw,mem_cons→zx,length_nil→zy,flatMap_cons→zz,map_cons→z0,take_length→z1,map_nil→z5,take_add_one→z6,length_filterMap_le→z8,take_of_length_le→z9,filterMap_append→qb,filterMap_cons→qc,filterMap_nil→qd
open Nat renaming le_refl→zc,not_lt_zero→zg,lt_succ_self→z3,le_add_right→z4,le_succ→z7,le_trans→qa
open Option renaming some→zd
open Int renaming toNat_natCast→zq
open Bool renaming and_eq_true→z2,false_ne_true→qe
set_option linter.all false
set_option maxRecDepth 100000
set_option maxHeartbeats 1000000
private theorem om{P:Prop}(h:P:=by omega):P:=h
private theorem sm{P:Prop}(h:P:=by simp):P:=h
namespace Go.Id.Tryz
open Go Go.Id Go.Proofs Go.Shelf Go.Id.Md
def ku3 (l:List aa1)(b:Int)(r:aa6):Prop:=∀(σ:Store) (tp mid:Nat) (allv clv:IV) (t:ag9),ar1 σ tp mid (ad7 l).v allv clv l t->t.OK l.length->t.few->t.h+r.count<=2^20 ->
 Cq 119 [.ptr tp 0,.agg r.cs,.int .i64 b] σ (dv5 σ tp mid (ad7 l).v allv clv l (r.bn2 l b t))
def ku4 (σ:Store)(tp mid:Nat)(xv allv clv:IV)(P:List aa1)(r:List Int×ag9)(v:IV)(s:Store):Prop :=
 ∃clv',bc3 σ s tp mid clv clv'/\ar1 s tp mid xv allv clv' P r.2/\ah7 s σ.next v r.1/\(∀i k l,clv'=.slice i 0 k 1->v≠.slice i 0 l 1)/\(∀i k l,allv=.slice i 0 k 15->v≠.slice i 0 l 1)
variable (l:List aa1) (hl:l.length<=100) (b:Int)
include hl
theorem fp6 (k:Int)(d:Dep)(xs:List aa6)(hL:∀a∈xs,ku3 l b a)(ab:∀a∈xs,a.an4 1 false=true\/a.an4 1 true=true)(al:aa6.counts xs<=100)(σ:Store)(r mid:Nat)(g o:IV)(t:ag9)
  (h:ar1 σ r mid (ad7 l).v g o l t) (ho:t.OK l.length) (hf:t.few) (hh:t.h+aa6.counts xs<=2^20) :
  Cq 226 [.ptr r 0,.agg (aa6.mk k d xs).cs,.int .i64 b] σ (ku4 σ r mid (ad7 l).v g o l (aa6.an7 l b xs t)):=by
 refine C_f fok226 (nZ rfl) ?_;have am:=aa6.cr6 xs;simp only[ic226,go_sem,ab3,bb3]
 refine aa9 noT (λi fr s=>∃S,fr=[(0,.ptr r 0),(2,.int .i64 b),(7,S),(11,.aa2 (xs.map aa6.cs)),(12,.int .i64 xs.length),(13,.int .i64 (i:Int))]/\ku4 σ r mid (ad7 l).v g o l (aa6.an7 l b (xs.take i) t) S s) xs.length
  ⟨.aa5,rfl,o,bc3.refl _ _ _ _,h,.inl ⟨rfl,rfl⟩,λ_ _ _ _ e=>(by cases e),λ_ _ _ _ e=>(by cases e)⟩ ?_
 rintro i fr s ai ⟨S,rfl,f,hT,Q,T,E,K⟩;by_cases p:i<xs.length
 .have⟨a,ha,N,ak,L,V⟩:=ad3 xs i p;have c1:(i:Int)<xs.length:=om;have c2:(0:Int)<=(i:Int):=om;have wi:=ac6 (i:=i) om;have ac:=fb7 xs i p;have U:xs[i]=a:=by rw[zl p] at N;exact zd.inj N
  rw[U] at ac;have y:∀x∈xs.take i,x∈xs:=λx I=>List.mem_of_mem_take I
  have hK:=eo5 l b (xs.take i) (λx I=>ab x (y x I)) t ho;have ag:=fl9 l hl b (xs.take i) (λx I=>by have:=aa6.bk7 (y x I);omega) t hf;have W:=cy9 l b (xs.take i) t;have D:=gz8 l b a (xs.take i) t;rw[<- V] at D;have aj:=hK.le.2;have⟨ae,_⟩:=hK.ok;have aa:(aa6.an7 l b (xs.take i) t).1.length<=i:=by rw[W,zt];omega
  generalize aa6.an7 l b (xs.take i) t=w at *;simp only[go_sem,c1,c2,L,ac5,ab9,ab3];have F:∀A B:aj8,Kept s ⟨s.next+1+1,(((⟨s.next+1,s.obj⟩:Store).put s.next A).put s.next B).obj⟩:=λA B=>(Kept.box s A B).up 1
  refine ab8 fok119 (hL a ha _ r mid g f _ (Q.mono (F _ _).next (F _ _).obj) ae ag om) ?_;rintro v u ⟨rfl,n,q,af⟩;refine ⟨q.next,?_⟩;have P:bc3 s u r mid f n:=(as5 (F (.cells [.int .u8 0,.str [],.int .u8 0,.int .i64 0,.str [],.str [],.aa5]) (.cells a.cs)) r mid f).trans q;have M:=P.kx7 Q T E;have ah:s.next+1+1<=u.next:=q.next;have z:=q.new
  have Y:∀i m,S=.slice i 0 m 1->i<s.next:=λi m e=>by
   rcases T with ⟨h0,_⟩|⟨j,_,hj,h0,_⟩
   .rw[h0] at e;cases e
   .rw[h0] at e;cases e;exact hj
  have J:∀i k m,n=.slice i 0 k 1->S≠.slice i 0 m 1:=λi k m e e2=>by
   have h1:=Y i m e2;rcases z with H|H
   .exact E i k m (by rw[<- H];exact e) e2
   .have h4:s.next+1+1<=i:=H i k e;omega
  have c:=Q.free (i:=s.next+1) om;have ad:=az4 (nid:=s.next+1) M (a.bn2 l b w.2).1 om
  have⟨q1,q2,q3,q4,q5⟩:=tab_row2 (nid:=s.next+1) af M J K (a.bn2 l b w.2).1 (by have:=hT.next;omega) om ⟨c.1,c.2.1,λk e=>by
   rcases z with H|H
   .exact c.2.2.1 k (by rw[<- H];exact e)
   .have h4:s.next+1+1<=s.next+1:=H _ k e;omega,c.2.2.2⟩ rfl
  simp only[go_sem,ad,wi];refine ⟨p,_,rfl,n,q2 σ o (hT.trans P) (zc _),?_,?_,q4,q5⟩
  .rw[D];exact q1
  .rw[D];exact q3
 .have X:i=xs.length:=om;subst X;have c1:¬(xs.length:Int)<xs.length:=om;rw[z1] at Q T;simp only[go_sem,c1];exact ⟨f,hT,Q,T,E,K⟩
end Go.Id.Tryz
namespace Go.Id.Tryz
open Go Go.Id Go.Proofs Go.Shelf Go.Id.Md
def fp7 {zs:List Int}(h:zs.length=2):∃x y,zs=[x,y]:=by
 match zs,h with
 | [x,y],_=>exact ⟨x,y,rfl⟩
def dx3 {zs:List Int}(h:zs.length=3):∃x y z,zs=[x,y,z]:=by
 match zs,h with
 | [x,y,z],_=>exact ⟨x,y,z,rfl⟩
variable (l:List aa1) (hl:l.length<=100) (b:Int)
def fp8 {σ s:Store}{tp mid g:Nat}{xv allv clv v:IV}{w:List Int×ag9}{r:Int×ag9}(h:ku4 σ tp mid xv allv clv l w v s)
  (hg:∀K clv',ar1 K tp mid xv allv clv' l w.2->Cq g [.ptr tp 0,.aa2 (w.1.map Md.ad1)] K (dv5 K tp mid xv allv clv' l r)):Cq g [.ptr tp 0,v] s (λv' u=>s.next<=u.next/\dv5 σ tp mid xv allv clv l r v' u):=by
 have⟨clv',h1,h2,h3,h4,h5⟩:=h;exact hz4 h2 h1 h3.w (zc _) ⟨h4,h5⟩ λK hK=>hg K clv' hK
structure gj5 (l:List aa1) (b:Int) (xs:List aa6) (t:ag9):Prop where
 lit:∀a∈xs,ku3 l b a
 fits:∀a∈xs,a.an4 1 false=true\/a.an4 1 true=true
 few:aa6.counts xs<=99
 ok:t.OK l.length
 kh3:t.few
 le:t.h+(aa6.counts xs+1)<=2^20
include hl
theorem ch5 {xs:List aa6}{t:ag9}(h:gj5 l b xs t):(aa6.an7 l b xs t).2.few/\(aa6.an7 l b xs t).2.h<2^20/\(aa6.an7 l b xs t).1.length=xs.length/\xs.length<=99/\∀x∈(aa6.an7 l b xs t).1,-(2^30)<=x/\x<=2^30:=by
 have c:=eo5 l b xs h.fits t h.ok;have d:=fl9 l hl b xs (λx a=>by have:=aa6.bk7 a;have:=h.few;omega) t h.kh3;have i:=c.le.2;have g:=h.le;have f:=aa6.cr6 xs;have e:=h.few;refine ⟨d,om,cy9 l b xs t,om,λx a=>?_⟩;have:=c.ok.2 x a;exact ⟨by have:=this.2.1;omega,by have:=this.2.2;omega⟩
theorem ku5 (k:Int)(d:Dep)(xs:List aa6)(σ:Store)(e mid:Nat)(a c:IV)(t:ag9)(h:ar1 σ e mid (ad7 l).v a c l t)(hp:gj5 l b xs t) :
  Cq 174 [.ptr e 0,.agg (aa6.mk k d xs).cs,.int .i64 b] σ (dv5 σ e mid (ad7 l).v a c l (cu9 l.length (aa6.an7 l b xs t).1 (aa6.an7 l b xs t).2)):=by
 refine C_f fok174 (nZ rfl) ?_;have⟨n,m,z,y,j⟩:=ch5 l hl b hp;simp only[ic174,go_sem,ab3,ac5,ab9];refine ab8 fok226 (fp6 l hl b k d xs hp.lit hp.fits (by have:=hp.few;omega) _ e mid a c t h hp.ok hp.kh3 (by have:=hp.le;omega)) ?_;rintro v s i;refine ⟨by have⟨_,g,_⟩:=i;exact g.next,?_⟩;simp only[go_sem];refine ab8 fok225 (fp8 l i λK f p=>hz5 _ om (λx o=>by have:=j x o;omega) K e mid _ a f l _ p om m n) ?_;rintro r u ⟨g,q⟩;refine ⟨g,?_⟩;simp only[go_sem];exact q
theorem ld8 (k:Int)(d:Dep)(xs:List aa6)(σ:Store)(e mid:Nat)(a c:IV)(t:ag9)(h:ar1 σ e mid (ad7 l).v a c l t)(hp:gj5 l b xs t) :
  Cq 175 [.ptr e 0,.agg (aa6.mk k d xs).cs,.int .i64 b] σ (dv5 σ e mid (ad7 l).v a c l (al6 l.length (aa6.an7 l b xs t).1 (aa6.an7 l b xs t).2)):=by
 refine C_f fok175 (nZ rfl) ?_;have⟨n,m,z,y,j⟩:=ch5 l hl b hp;simp only[ic175,go_sem,ab3,ac5,ab9];refine ab8 fok226 (fp6 l hl b k d xs hp.lit hp.fits (by have:=hp.few;omega) _ e mid a c t h hp.ok hp.kh3 (by have:=hp.le;omega)) ?_;rintro v s i;refine ⟨by have⟨_,g,_⟩:=i;exact g.next,?_⟩;simp only[go_sem];refine ab8 fok227 (fp8 l i λK f p=>da2 _ om (λx o=>by have:=j x o;omega) K e mid _ a f l _ p om m n) ?_;rintro r u ⟨g,q⟩;refine ⟨g,?_⟩;simp only[go_sem];exact q
theorem kh2 (k:Int)(d:Dep)(xs:List aa6)(m:xs.length=2\/xs.length=3)(σ:Store)(g mid:Nat)(a f:IV)(t:ag9)(h:ar1 σ g mid (ad7 l).v a f l t)(hp:gj5 l b xs t) :
  Cq 176 [.ptr g 0,.agg (aa6.mk k d xs).cs,.int .i64 b] σ (dv5 σ g mid (ad7 l).v a f l (gg7 l.length 4 (aa6.an7 l b xs t).1 (aa6.an7 l b xs t).2)):=by
 refine C_f fok176 (nZ rfl) ?_;have⟨F,E,D,N,j⟩:=ch5 l hl b hp;simp only[ic176,go_sem,ab3,ac5,ab9];refine ab8 fok226 (fp6 l hl b k d xs hp.lit hp.fits (by have:=hp.few;omega) _ g mid a f t h hp.ok hp.kh3 (by have:=hp.le;omega)) ?_;rintro v s ⟨c,A,H,hr,L,M⟩;refine ⟨A.next,?_⟩;generalize aa6.an7 l b xs t=w at *;have⟨zs,i⟩:=w;simp only at *;obtain ⟨id,rfl,n⟩:=gz9 hr om;rcases m with m|m
 .obtain ⟨x,y,rfl⟩:=fp7 (D.trans m);have K:=j y sm;have r:=j x sm;have p:¬(2:Int)=3:=by decide
  have I:IntKind.wrap .i64 (0-y)=-y:=by rw[wrap64 om om];omega
  have e:gg7 l.length 4 [x,y] i=al6 l.length [x,-y] i:=rfl;rw[e];simp only[go_sem,n,z0,z5,zn,zy,I,p]
  refine ab8 fok227 (da2 [x,-y] sm (λz q=>by
   simp only[zx,zr,or_false] at q;rcases q with rfl|rfl<;>omega) _ g mid _ a c l i (H.up _) om E F) ?_
  rintro J u o;refine ⟨by have⟨_,_,B,_⟩:=o;exact B.next,?_⟩;simp only[go_sem];exact o.from (A.up _)
 .obtain ⟨x,y,z,rfl⟩:=dx3 (D.trans m);have r:=j x sm;have K:=j y sm;have q:=j z sm;have e:gg7 l.length 4 [x,y,z] i=ca7 l.length x z y i:=rfl;rw[e];simp only[go_sem,n,z0,z5,zn,zy];refine ab8 fok228 (es9 x z y om om om _ g mid _ a c l i (H.up _) om E F) ?_;rintro J u o;refine ⟨by have⟨_,_,B,_⟩:=o;exact B.next,?_⟩;simp only[go_sem];exact o.from (A.up _)
theorem is6 (k:Int)(d:Dep)(xs:List aa6)(m:xs.length=2\/xs.length=3)(σ:Store)(g mid:Nat)(a f:IV)(t:ag9)(h:ar1 σ g mid (ad7 l).v a f l t)(hp:gj5 l b xs t) :
  Cq 177 [.ptr g 0,.agg (aa6.mk k d xs).cs,.int .i64 b] σ (dv5 σ g mid (ad7 l).v a f l (gg7 l.length 5 (aa6.an7 l b xs t).1 (aa6.an7 l b xs t).2)):=by
 refine C_f fok177 (nZ rfl) ?_;have⟨F,E,D,N,j⟩:=ch5 l hl b hp;simp only[ic177,go_sem,ab3,ac5,ab9];refine ab8 fok226 (fp6 l hl b k d xs hp.lit hp.fits (by have:=hp.few;omega) _ g mid a f t h hp.ok hp.kh3 (by have:=hp.le;omega)) ?_;rintro v s ⟨c,A,H,hr,L,M⟩;refine ⟨A.next,?_⟩;generalize aa6.an7 l b xs t=w at *;have⟨zs,i⟩:=w;simp only at *;obtain ⟨id,rfl,n⟩:=gz9 hr om;rcases m with m|m
 .obtain ⟨x,y,rfl⟩:=fp7 (D.trans m);have K:=j y sm;have r:=j x sm;have p:¬(2:Int)=3:=by decide
  have I:IntKind.wrap .i64 (0-y)=-y:=by rw[wrap64 om om];omega
  have e:gg7 l.length 5 [x,y] i=cu9 l.length [x,-y] i:=rfl;rw[e];simp only[go_sem,n,z0,z5,zn,zy,I,p]
  refine ab8 fok225 (hz5 [x,-y] sm (λz q=>by
   simp only[zx,zr,or_false] at q;rcases q with rfl|rfl<;>omega) _ g mid _ a c l i (H.up _) om E F) ?_
  rintro J u o;refine ⟨by have⟨_,_,B,_⟩:=o;exact B.next,?_⟩;simp only[go_sem];exact o.from (A.up _)
 .obtain ⟨x,y,z,rfl⟩:=dx3 (D.trans m);have r:=j x sm;have K:=j y sm;have q:=j z sm;have e:gg7 l.length 5 [x,y,z] i=ca7 l.length z x y i:=rfl;rw[e];simp only[go_sem,n,z0,z5,zn,zy];refine ab8 fok228 (es9 z x y om om om _ g mid _ a c l i (H.up _) om E F) ?_;rintro J u o;refine ⟨by have⟨_,_,B,_⟩:=o;exact B.next,?_⟩;simp only[go_sem];exact o.from (A.up _)
end Go.Id.Tryz
namespace Go.Id.Tryz
open Go Go.Id Go.Proofs Go.Shelf Go.Id.Md
def ku6 (l:List aa1)(hl:l.length<=100)(hs:∀p∈l,Pkg.small p)(b:Int)(r:aa6):r.an4 1 false=true\/r.an4 1 true=true->r.fit->r.count<=100->ku3 l b r:=by
 induction r using aa6.ind with
 | h k d xs ih=>
  intro hf j s σ n mid c i t h z m D;simp only[aa6.count] at s D;have⟨F,x⟩:=df3 hf;have⟨M,L,K,J,H⟩:=aa6.ce5.1 j;have hp:gj5 l b xs t:=⟨λa q=>ih a q (x a q) (H a q) (by have:=aa6.bk7 q;omega),x,om,z,m,om⟩
  have I:(aa6.mk k d xs).bn2 l b t=if k=1 then gm3 l.length (de9 (ag3 l d) b) t
   else if k=6\/k=7 then gm3 l.length (de9 (numsOf (λp=>(aa6.mk k d xs).alone p) l) b) t
   else gg7 l.length k (aa6.an7 l b xs t).1 (aa6.an7 l b xs t).2:=by rw[aa6.bn2]
  rw[I];refine C_f fok119 (nZ rfl) ?_;have e:∀A B:aj8,Kept σ ⟨σ.next+1+9,(((⟨σ.next+1,σ.obj⟩:Store).put σ.next A).put σ.next B).obj⟩:=λA B=>(Kept.box σ A B).up 9
  rcases dv7 F with ⟨rfl,o,E⟩|rfl|rfl|⟨rfl,o⟩|⟨rfl,o⟩|rfl|rfl
  .rw[if_pos rfl];have y:xs=[]:=List.length_eq_zero_iff.1 o;subst y;simp only[ic119,go_sem,ab3,ac5,ab9,aw4];refine ⟨rfl,?_⟩;refine ab8 fok173 (kj8 l hl hs b d E _ n mid c i t (h.mono (e _ _).next (e _ _).obj) om m) ?_;rintro v u f;refine ⟨by have⟨_,_,g,_⟩:=f;exact g.next,?_⟩;simp only[go_sem];exact f.from (as5 (e _ _) _ _ _)
  .rw[if_neg (by decide),if_neg (by decide),show gg7 l.length 2 _ _=cu9 l.length _ _ from rfl];simp only[ic119,go_sem,ab3,ac5,ab9,aw4];refine ⟨rfl,?_⟩;refine ab8 fok174 (ku5 l hl b 2 d xs _ n mid c i t (h.mono (e _ _).next (e _ _).obj) hp) ?_;rintro v u f;refine ⟨by have⟨_,_,g,_⟩:=f;exact g.next,?_⟩;simp only[go_sem];exact f.from (as5 (e _ _) _ _ _)
  .rw[if_neg (by decide),if_neg (by decide),show gg7 l.length 3 _ _=al6 l.length _ _ from rfl];simp only[ic119,go_sem,ab3,ac5,ab9,aw4];refine ⟨rfl,?_⟩;refine ab8 fok175 (ld8 l hl b 3 d xs _ n mid c i t (h.mono (e _ _).next (e _ _).obj) hp) ?_;rintro v u f;refine ⟨by have⟨_,_,g,_⟩:=f;exact g.next,?_⟩;simp only[go_sem];exact f.from (as5 (e _ _) _ _ _)
  .rw[if_neg (by decide),if_neg (by decide)];simp only[ic119,go_sem,ab3,ac5,ab9,aw4];refine ⟨rfl,?_⟩;refine ab8 fok176 (kh2 l hl b 4 d xs o _ n mid c i t (h.mono (e _ _).next (e _ _).obj) hp) ?_;rintro v u f;refine ⟨by have⟨_,_,g,_⟩:=f;exact g.next,?_⟩;simp only[go_sem];exact f.from (as5 (e _ _) _ _ _)
  .rw[if_neg (by decide),if_neg (by decide)];simp only[ic119,go_sem,ab3,ac5,ab9,aw4];refine ⟨rfl,?_⟩;refine ab8 fok177 (is6 l hl b 5 d xs o _ n mid c i t (h.mono (e _ _).next (e _ _).obj) hp) ?_;rintro v u f;refine ⟨by have⟨_,_,g,_⟩:=f;exact g.next,?_⟩;simp only[go_sem];exact f.from (as5 (e _ _) _ _ _)
  .rw[if_neg (by decide),if_pos (by decide)];simp only[ic119,go_sem,ab3,ac5,ab9,aw4];refine ⟨rfl,?_⟩;refine ab8 fok178 (ia4 l hl hs b (.mk 6 d xs) (dv6 (by decide) hf) j _ n mid _ c i t (h.mono (e _ _).next (e _ _).obj) om m) ?_;rintro v u f;refine ⟨by have⟨_,_,g,_⟩:=f;exact g.next,?_⟩;simp only[go_sem];exact f.from (as5 (e _ _) _ _ _)
  .rw[if_neg (by decide),if_pos (by decide)];simp only[ic119,go_sem,ab3,ac5,ab9,aw4];refine ⟨rfl,?_⟩;refine ab8 fok178 (ia4 l hl hs b (.mk 7 d xs) (dv6 (by decide) hf) j _ n mid _ c i t (h.mono (e _ _).next (e _ _).obj) om m) ?_;rintro v u f;refine ⟨by have⟨_,_,g,_⟩:=f;exact g.next,?_⟩;simp only[go_sem];exact f.from (as5 (e _ _) _ _ _)
def hq6 (l:List aa1)(hl:l.length<=100)(hs:∀p∈l,Pkg.small p)(b:Int)(r:aa6)(i:af3 r 1=0)(a:r.fit)(σ:Store)(e mid:Nat)(c d:IV)(t:ag9)(h:ar1 σ e mid (ad7 l).v c d l t)(o:t.OK l.length)(f:t.few)(q:t.h+r.count<=2^20) :
  Cq 70 [.ptr e 0,.agg r.cs,.int .i64 b] σ (λv s=>∃w,v=.tuple [w,.int .i64 0]/\dv5 σ e mid (ad7 l).v c d l (r.bn2 l b t) w s):=by
 refine C_f fok70 (nZ rfl) ?_;have⟨x,A,z⟩:=bh2 i (.inl rfl);have k:=dg5 r 1 a om;have m:=cg5 r a om;have hc:=h.cell;rw[i] at k;have n:IntKind.wrap .i64 ((t.h:Int)+(r.count:Int))=((t.h+r.count:Nat):Int):=by rw[wrap64 om om];omega
 have y:¬(1048576:Int)<((t.h+r.count:Nat):Int):=om;simp only[ic70,go_sem,ab3,ac5,ab9];refine aa4 fok101 (k) ?_;simp only[go_sem,hc,ac5,ab9,ab3]
 first|refine aa4 fok118 (m) ?_|refine aa8 (m) ?_
 simp only[go_sem,n,y,ac5,ab9,ab3];refine ab8 fok119 (ku6 l hl hs b r (.inl x) a om _ e mid c d t (h.up _) o f q) ?_;rintro v u j;refine ⟨by have⟨_,_,g,_⟩:=j;exact g.next,?_⟩;simp only[go_sem];exact ⟨v,rfl,j.from ((bc3.refl σ e mid d).up _)⟩
def jp1 (c n:Nat):stB c [(n:Int)]=en6 c n:=by
 unfold stB en6;refine List.map_congr_left λm _=>decide_eq_decide.2 ?_
 rw[zv];omega
def is7 (c n:Nat):(en6 c n).length=c:=by simp[en6]
def jc9 (l:List aa1)(hl:l.length<=256)(st:List Bool)(d:st.length=l.length)(g:Nat)(cap:List IV)(q:List Bool->Bool)(x:okF Tryz.prog g=true)(f:∀c∈cap,Bnd 0 c)
  (J:∀u:List Bool,u.length=l.length->Pq g (.agg (an6 l u)::cap) (.bool (q u))):Pq 250 [.agg (an6 l st),.func (.func g) [] cap] (.bool (il7 st λn=>q (en6 st.length n))):=by
 have B:Bnd 0 (.func (.func g) [] cap):=.func _ _ _ (λc hc=>by cases hc) f;refine af5 hE fok250 (nZ rfl) (ag7 (ao5 l st) B) ?_;simp only[ic250,go_sem,ae7,ae2,hz7];refine aa9 noT (λi fr t=>fr=[(1,.func (.func g) [] cap),(2,.ab5 (an6 l st)),(8,et2 st),(9,.int .i64 st.length),(10,.int .i64 (i:Int))]/\∀j,j<i->(st.getD j false&&q (en6 st.length j))=false) st.length ⟨rfl,λj m=>absurd m (zg _)⟩ ?_;rintro i fr t L ⟨rfl,D⟩;by_cases a:i<st.length
 .have r:(i:Int)<st.length:=om;have I:(0:Int)<=i:=om;have E:=ac6 (i:=i) om;have p:=ci2 a
  cases o:st.getD i false with
  | false=>
   rw[o] at p;simp only[go_sem,r,I,p,E];refine ⟨a,λj m=>?_⟩;by_cases e:j=i
   .subst e;rw[o];rfl
   .exact D j om
  | true=>
   rw[o] at p;have H:=fs9 l [(i:Int)] hl (by show 1<_;decide);rw[jp1] at H;have M:=J (en6 l.length i) (is7 _ _);simp only[go_sem,r,I,p,ae7,hz8]
   have A:Frz (({ next:=t.next+1,obj:=t.obj }:Store).put t.next (.row [.int .i64 i])) (λ_=>false=true) (.slice t.next 0 1 1) (.aa2 ([(i:Int)].map Md.ad1)):=
    .slice t.next 0 1 1 [.int .i64 i] _ qe (.inr (by rw[aa3,if_pos rfl])) rfl (zc 1) (λk y=>by
     have:k=0:=om;subst this;rfl) λk y j m=>by
     have:k=0:=om;have:j=0:=om;subst this;subst k;exact .keep _ (.int _ _)
   refine ab8 fok144 (fj4 (S:=λ_=>false) (args':=[af4 l,.aa2 ([(i:Int)].map Md.ad1)]) rfl (λk y=>by
    match k,y with
    | 0,_=>exact .keep _ ((au3 l).weak λ_ h=>absurd h (zg _))
    | 1,_=>exact A) (ey8 H)) ?_
   rintro v s ⟨rfl,rfl⟩;refine ⟨zc _,?_⟩;simp only[go_sem];refine al7 x M ?_
   cases F:q (en6 l.length i) with
   | true=>
    have e:il7 st (λn=>q (en6 st.length n))=true:=by
     unfold il7;exact List.any_eq_true.2 ⟨i,List.mem_range.2 a,by rw[o,d];show (true&&q (en6 l.length i))=true;rw[F];rfl⟩
    simp only[go_sem,e]
    exact ab6 _
   | false=>
    simp only[go_sem,E];refine ⟨a,λj m=>?_⟩;by_cases e:j=i
    .subst e;rw[d,F,Bool.and_false]
    .exact D j om
 .have z:i=st.length:=om;subst z;have r:¬(st.length:Int)<st.length:=om
  have e:il7 st (λn=>q (en6 st.length n))=false:=by
   unfold il7;refine List.any_eq_false.2 λn K=>?_
   rw[D n (List.mem_range.1 K)];exact qe
  simp only[go_sem,r,e];exact ab6 _
def is8 (l:List aa1)(k:Int)(d:Dep)(xs:List aa6)(e:xs.length<2^62)(c:∀x∈xs,hz9 l x)(st:List Bool)(a:st.length=l.length) :
  Pq 251 [.agg (an6 l st),.ab5 (aa6.mk k d xs).cs] (.bool ((aa6.trs l xs).all λf=>f st)):=by
 refine af5 hE fok251 (nZ rfl) (ag7 (ao5 l st) (ci3 _)) ?_;have h:=jd9 l st a k d xs e c;simp only[ic251,go_sem,ae7,ae2,af2,ac5,ab9,ab3];refine aa4 fok199 (h) ?_;simp only[go_sem];exact ac8 rfl
def fe9 (l:List aa1)(k:Int)(d:Dep)(xs:List aa6)(m:2<=xs.length)(e:∀x∈xs,hz9 l x)(st:List Bool)(a:st.length=l.length) :
  Pq 252 [.agg (an6 l st),.ab5 (aa6.mk k d xs).cs] (.bool (((aa6.trs l xs).getD 0 ff) st&&!((aa6.trs l xs).getD 1 ff) st)):=by
 refine af5 hE fok252 (nZ rfl) (ag7 (ao5 l st) (ci3 _)) ?_;have n0:0<xs.length:=om;have c:1<xs.length:=om;have h0:=e _ (zu n0) st a;have f:=e _ (zu c) st a;have h:=dl8 n0;have g:=dl8 c;have j:(0:Int)<xs.length:=om;have i:(1:Int)<xs.length:=om;rw[et6 c,et6 n0];simp only[ic252,go_sem,ae7,ae2,af2,ac5,bb3,j,i,h,g,ab9,ab3]
 first|refine aa4 fok145 (h0) ?_|refine aa8 (h0) ?_
 cases xs[0].tr l st with
 | false=>simp only[go_sem];exact ac8 rfl
 | true=>
  simp only[go_sem,ae7,ae2,af2,ac5,bb3,j,i,h,g,ab9,ab3]
  first|refine aa4 fok145 (f) ?_|refine aa8 (f) ?_
  simp only[go_sem];exact ac8 rfl
def jp2 (l:List aa1)(hl:l.length<=256)(st:List Bool)(hst:st.length=l.length)(k:Int)(d:Dep)(xs:List aa6)(hn:xs.length<2^62)(hx:∀x∈xs,hz9 l x) :
  Pq 203 [.agg (an6 l st),.agg (aa6.mk k d xs).cs] (.bool (il7 st λn=>(aa6.trs l xs).all λf=>f (en6 st.length n))):=by
 refine af5 hE fok203 (nZ rfl) (ag7 (ao5 l st) (ah2 _)) ?_;have h:=jc9 l hl st hst 251 [.ab5 (aa6.mk k d xs).cs] (λs2=>(aa6.trs l xs).all λf=>f s2) fok251.1 (al3 (ci3 _)) λs2 h2=>is8 l k d xs hn hx s2 h2
 have h7:=ab3 (.mk k d xs);simp only[ic203,go_sem,ae7,ae2,af2,ac5,h7];refine aa4 fok250 (h) ?_;simp only[go_sem];exact ac8 rfl
def gj6 (l:List aa1)(hl:l.length<=256)(st:List Bool)(hst:st.length=l.length)(k:Int)(d:Dep)(xs:List aa6)(hn:2<=xs.length)(hx:∀x∈xs,hz9 l x) :
  Pq 204 [.agg (an6 l st),.agg (aa6.mk k d xs).cs] (.bool (il7 st λn=>((aa6.trs l xs).getD 0 ff) (en6 st.length n)&&!((aa6.trs l xs).getD 1 ff) (en6 st.length n))):=by
 refine af5 hE fok204 (nZ rfl) (ag7 (ao5 l st) (ah2 _)) ?_;have h:=jc9 l hl st hst 252 [.ab5 (aa6.mk k d xs).cs] (λs2=>((aa6.trs l xs).getD 0 ff) s2&&!((aa6.trs l xs).getD 1 ff) s2) fok252.1 (al3 (ci3 _)) λs2 h2=>fe9 l k d xs hn hx s2 h2
 have h7:=ab3 (.mk k d xs);simp only[ic204,go_sem,ae7,ae2,af2,ac5,h7];refine aa4 fok250 (h) ?_;simp only[go_sem];exact ac8 rfl
def ku7 (l:List aa1)(hl:l.length<=256)(hs:∀p∈l,Pkg.small p)(r:aa6):r.Good->hz9 l r:=by
 induction r using aa6.ind with
 | h k d xs ih=>
  intro t st c;refine af5 hE fok145 (nZ rfl) (ag7 (ao5 l st) (ah2 _)) ?_;have i:=ab3 (.mk k d xs);have g:=ab9 (.mk k d xs);have a:IV.ai8.leaf=true:=rfl;have e:(aa6.mk k d xs).tr l st=trK l k d (aa6.trs l xs) st:=by rw[aa6.tr]
  rw[e]
  cases t with
  | atom _ hd=>
   have h:=js8 l hl hs st c d hd;unfold trK;simp only[ic145,go_sem,ae7,ae2,af2,ac5,i,g,aw4,a]
   first|refine aa4 fok198 (h) ?_|refine aa8 (h) ?_
   simp only[go_sem]
   exact ac8 rfl
  | node _ _ _ h1 h2 h3 h4 h5=>
   have f:∀x∈xs,hz9 l x:=λx f=>ih x f (h5 x f)
   have y:xs.length<=24:=by
    unfold en5 at h4;split at h4
    .omega
    split at h4
    .omega
    split at h4<;>omega
   have u:=jd9 l st c k d xs om f;have q:=kj6 l st c k d xs om f;have o:=kj7 l st c k d xs om f;have n:=ia3 l st c k d xs om om f;have m:=jp2 l hl st c k d xs om f;have j:=gj6 l hl st c k d xs om f;unfold trK;have s:k=2\/k=3\/k=4\/k=5\/k=6\/k=7:=om;rcases s with rfl|rfl|rfl|rfl|rfl|rfl
   .simp only[ic145,go_sem,ae7,ae2,af2,ac5,i,g,aw4,a];refine aa4 fok199 (u) ?_;simp only[go_sem];exact ac8 rfl
   .simp only[ic145,go_sem,ae7,ae2,af2,ac5,i,g,aw4,a]
    first|refine aa4 fok200 (q) ?_|refine aa8 (q) ?_
    simp only[go_sem];exact ac8 rfl
   .simp only[ic145,go_sem,ae7,ae2,af2,ac5,i,g,aw4,a]
    first|refine aa4 fok201 (o) ?_|refine aa8 (o) ?_
    simp only[go_sem];exact ac8 rfl
   .simp only[ic145,go_sem,ae7,ae2,af2,ac5,i,g,aw4,a]
    first|refine aa4 fok202 (n) ?_|refine aa8 (n) ?_
    simp only[go_sem];exact ac8 rfl
   .simp only[ic145,go_sem,ae7,ae2,af2,ac5,i,g,aw4,a]
    first|refine aa4 fok203 (m) ?_|refine aa8 (m) ?_
    simp only[go_sem];exact ac8 rfl
   .simp only[ic145,go_sem,ae7,ae2,af2,ac5,i,g,aw4,a]
    first|refine aa4 fok204 (j) ?_|refine aa8 (j) ?_
    simp only[go_sem];exact ac8 rfl
def gx9 (c:Nat)(zs:List Int):(stB c zs).length=c:=by simp[stB]
def cv6 (l:List aa1)(hl:l.length<=256)(hs:∀p∈l,Pkg.small p)(zs:List Int)(f:zs.length<2^40)(r:aa6)(j:r.fit)(i:r.count<2^31) :
  Pq 84 [af4 l,.aa2 (zs.map Md.ad1),.agg r.cs] (.bool (fb2 l zs r)):=by
 refine af5 hE fok84 (nZ rfl) (aw9 (au3 l) (ax6 zs) (ah2 _)) ?_;have g:=iw9 r j i;have e:=fs9 l zs hl f;have c:∀d:TypeId,ci5 (.pointer d) (af4 l)=zd false:=λ_=>rfl
 unfold fb2;simp only[ic84,go_sem,c,ac5,ab9,ab3];refine aa8 (g) ?_
 cases a:bk6 r with
 | false=>simp only[go_sem];exact ac8 rfl
 | true=>
  have h:r.ms.2.2=true:=by
   unfold bk6 at a;simp only[z2] at a;exact a.1.1
  have hi:=ku7 l hl hs r (aa6.jk9 r h) (stB l.length zs) (gx9 _ _);simp only[go_sem]
  first|refine aa4 fok144 (e) ?_|refine aa8 (e) ?_
  simp only[go_sem,ac5,ab9,ab3]
  first|refine aa4 fok145 (hi) ?_|refine aa8 (hi) ?_
  simp only[go_sem];exact ac8 rfl
structure ef9 (r:Req):Prop where
 ae8:r.ae8.length<2^20
 ah9:r.ah9.length<2^20
 jv3:∀j∈r.ae8,Dep.small j.dep/\j.dep.name.length<2^30
def bf5 (r:Req):∀c∈r.cs,Bnd 0 c:=kb2 (.int _ _) (.bool _) (ch3 _) (bf4 _) (.int _ _)
def hq7 (r:Req):r.cs.length=5:=rfl
def ag1 (r:Req):r.cs.all IV.leaf=true:=rfl
def bc7 (r:Req):r.cs.take 5=r.cs:=rfl
def hq9 (j:Job)(h:Dep.small j.dep/\j.dep.name.length<2^30):Pq 20 [.agg j.cs] (.bool (!ax3 j)):=by
 refine af5 hE fok20 (nZ rfl) (al3 (is2 j)) ?_;have g:=br6 j.dep om (by have:=h.1.2.2.1;omega) (by have:=h.1.2.2.2;omega);have d:j.cs.head? = zd (.int .u8 j.kind):=rfl;have f:=da1 j;have e:(j.cs.drop 1).length=5:=rfl;unfold ax3;by_cases e1:j.kind<1
 .have c:¬1<=j.kind:=om;simp only[ic20,go_sem,au7,d,e1];exact ac8 (by simp[c])
 have c:1<=j.kind:=om;by_cases e2:4<j.kind
 .have a:¬j.kind<=4:=om;simp only[ic20,go_sem,au7,d,e1,e2];exact ac8 (by simp[a])
 have a:j.kind<=4:=om;simp only[ic20,go_sem,au7,d,f,e,e1,e2];refine aa4 fok21 (g) ?_;simp only[go_sem];exact ac8 (by simp[c,a])
def gj7 (e:be8)(a inst:Int):Pq 24 [.agg e.cs,.int .i64 a,.int .i64 inst] (.bool (av2 e a inst)):=by
 refine af5 hE fok24 (nZ rfl) (aw9 (ch4 e) (.int _ _) (.int _ _)) ?_;have c:e.cs.head? = zd (.int .u8 e.kind):=rfl;have f:(e.cs.drop 1).head? = zd (.int .i64 e.n):=rfl;unfold av2;by_cases d:e.kind=1
 case' pos=>
  have k:(1:Int)<=1:=by decide
  have j:(1:Int)<=4:=by decide
  rw[d] at c ⊢;simp only[ic24,go_sem,aj6,c,k,j,f];generalize a=most
 case' neg=>
  rw[if_neg d];by_cases g:1<=e.kind
  case' neg=>
   simp only[ic24,go_sem,aj6,c,d,g];exact ac8 sm
  by_cases i:e.kind<=4
  case' neg=>
   simp only[ic24,go_sem,aj6,c,d,g,i];exact ac8 sm
  simp only[ic24,go_sem,aj6,c,d,g,i,f];generalize inst=most
 all_goals
  by_cases h:0<=e.n
  .simp only[go_sem,h,f];exact ac8 sm
  .simp only[go_sem,h];exact ac8 sm
def jp3 (e:be8)(p:Pool)(r:Req):Pq 23 [.agg e.cs,.ab5 r.cs,.ab5 [p.v]] (.bool (!av2 e r.ae8.length p.inst)):=by
 refine af5 hE fok23 (nZ rfl) (aw9 (ch4 e) (.ab5 _ (bf5 r)) (.ab5 _ (al3 (ba4 p)))) ?_;have a:=aq1 p;have d:=gj7 e r.ae8.length p.inst;have c:(r.cs.drop 2).head? = zd (ax2 r.ae8):=rfl;simp only[ic23,go_sem,aj6,as3,aq2,c]
 first|refine aa4 fok25 (a) ?_|refine aa8 (a) ?_
 simp only[go_sem];refine aa8 (d) ?_;simp only[go_sem];exact ac8 rfl
def jd1 (r:Req)(d:r.ae8.length<=2147483648)(c:r.ah9.length<=2147483648):Pq 27 [.agg r.cs] (.agg r.cs):=by
 refine af5 hE fok27 (nZ rfl) (al3 (.agg _ (bf5 r))) ?_;have f:=fe7 r.ae8 d;have e:=er1 r.ah9 c;have a:=bf5 r;unfold Req.cs at *;simp only[ic27,go_sem];refine aa8 (f) ?_;simp only[go_sem];refine aa8 (e) ?_;simp only[go_sem];exact .keep _ (.agg _ a)
def jp4 {a:Type}(q:a->Bool)(l:List a):(l.any λx=>!q x)=!l.all q:=by
 induction l with
 | nil=>rfl
 | cons x l ih=>simp only[List.any_cons,zp,ih,Bool.not_and]
def hr5 (p:Pool)(r:Req)(S:ef9 r)(hl:(ac3 p).length<=256)(hf:∀x∈ac3 p,x.Fit/\x.Tiny):Pq 11 [p.v,.agg r.cs] (jv1 p r):=by
 refine af5 hE fok11 (nZ rfl) (ag7 (ba4 p) (.agg _ (bf5 r))) ?_;have F:=cs7 r.al9;have hJ:=hq5 r.ae8 20 [] [] (λj=>!ax3 j) (by have:=S.ae8;omega) fok20.1 λj hj=>hq9 j (S.jv3 j hj)
 have I:=gj3 r.ah9 23 [] [.ab5 r.cs,.ab5 [p.v]] (λe=>!av2 e r.ae8.length p.inst) (by have:=S.ah9;omega) fok23.1 λe he=>jp3 e p r
 rw[jp4] at hJ I;have ad:p.rows.length=(ac3 p).length:=by simp[ac3]
 have hM:=bf2 p (λx N=>(hf _ (zm (f:=λx:bb5=>x.pkg) N)).1) om (λx N=>by
  have:=(hf _ (zm (f:=λx:bb5=>x.pkg) N)).2;have a:=this.au4.1;have b:=this.obs.1;have c:=this.files;omega)
 have hM:Pq 26 [p.v] (.tuple [(ad7 (ac3 p)).v,.int .i64 0]):=hM;have hO:=jd1 r (by have:=S.ae8;omega) (by have:=S.ah9;omega);have hC:=ao8 p;rw[ad] at hC
 have af:∀j (h:j<(ac3 p).length),Pq 29 [p.v,.int .i64 j] (.tuple [.agg (ac3 p)[j].cs,.int .i64 0]):=λj h=>by
  have hq:p.rows[j].pkg=(ac3 p)[j]:=by simp[ac3]
  have h1:=aq3 p j om (by rw[hq];exact (hf _ (zu h)).1);rw[hq] at h1;exact h1
 have ap:=ai5 ⟨p,r⟩;have E:r.cs.head? = zd (.int .u8 r.al9):=rfl;have W:(r.cs.drop 2).head? = zd (ax2 r.ae8):=rfl;have U:(r.cs.drop 3).head? = zd (aw1 r.ah9):=rfl;have K:(r.cs.drop 4).head? = zd (.int .i64 r.budget):=rfl;obtain ⟨V,Y⟩:∃V,jv1 p r=V:=⟨_,rfl⟩
 have g:∀(s:Store) (e:Int),ak3 r p.inst=e->e≠0->cc3 s 0 (.tuple [.ag2,.int .i64 e]) V:=λs e h1 h2=>by
  rw[<- Y];unfold jv1;rw[h1,if_neg h2];exact .keep _ (.tuple _ (ag7 .ag2 (.int _ _)))
 rw[Y];have o:p.v.cs=[p.v]:=rfl;have m:p.v.leaf=true:=rfl;have q:∀d:TypeId,ci5 (.pointer d) p.v=zd false:=λ_=>rfl
 by_cases c1:ca3 r.al9=false
 .simp only[ic11,go_sem,o,zp,m,zw,zo,ag1,q,E];refine aa4 fok18 (F) ?_;simp only[go_sem,c1];exact g _ 1 (by unfold ak3;rw[if_pos (.inl c1)]) (by decide)
 have t:ca3 r.al9=true:=by simpa using c1
 by_cases D:r.budget<0
 .simp only[ic11,go_sem,o,zp,m,zw,zo,ag1,q,E];refine aa4 fok18 (F) ?_;simp only[go_sem,t,K,D];exact g _ 1 (by unfold ak3;rw[if_pos (.inr (.inl D))]) (by decide)
 by_cases J:1099511627776<r.budget
 .simp only[ic11,go_sem,o,zp,m,zw,zo,ag1,q,E];refine aa4 fok18 (F) ?_;simp only[go_sem,t,K,D,J];exact g _ 1 (by unfold ak3;rw[if_pos (.inr (.inr J))]) (by decide)
 have M:¬(ca3 r.al9=false\/r.budget<0\/1099511627776<r.budget):=λh=>h.elim c1 λh=>h.elim D J
 by_cases c4:64<r.ae8.length
 .have u:(64:Int)<r.ae8.length:=om;simp only[ic11,go_sem,o,zp,m,zw,zo,ag1,q,E];refine aa4 fok18 (F) ?_;simp only[go_sem,t,K,D,J,W,u];exact g _ 40 (by unfold ak3;rw[if_neg M,if_pos (.inl c4)]) (by decide)
 have u:¬(64:Int)<r.ae8.length:=om;by_cases c5:64<r.ah9.length
 .have z:(64:Int)<r.ah9.length:=om;simp only[ic11,go_sem,o,zp,m,zw,zo,ag1,q,E];refine aa4 fok18 (F) ?_;simp only[go_sem,t,K,D,J,W,U,u,z];exact g _ 40 (by unfold ak3;rw[if_neg M,if_pos (.inr c5)]) (by decide)
 have z:¬(64:Int)<r.ah9.length:=om;have q2:¬(64<r.ae8.length\/64<r.ah9.length):=λh=>h.elim c4 c5
 by_cases T:r.ae8.all ax3=false
 .simp only[ic11,go_sem,o,zp,m,zw,zo,ag1,q,E];refine aa4 fok18 (F) ?_;simp only[go_sem,t,K,D,J,W,U,u,z];refine aa4 fok19 (hJ) ?_;simp only[go_sem,T,Bool.not_false];exact g _ 4 (by unfold ak3;rw[if_neg M,if_neg q2,if_pos T]) (by decide)
 have al:r.ae8.all ax3=true:=by simpa using T
 simp only[ic11,go_sem,o,zp,m,zw,zo,ag1,q,E];refine aa4 fok18 (F) ?_;simp only[go_sem,t,K,D,J,W,U,u,z];refine aa4 fok19 (hJ) ?_;simp only[go_sem,al,Bool.not_true,U];refine aa4 fok22 (I) ?_;by_cases c7:(r.ah9.all λe=>av2 e r.ae8.length p.inst)=false
 .simp only[go_sem,c7,Bool.not_false];exact g _ 5 (by unfold ak3;rw[if_neg M,if_neg q2,if_neg T,if_pos c7]) (by decide)
 have ak:(r.ah9.all λe=>av2 e r.ae8.length p.inst)=true:=by simpa using c7
 have Q:V=.tuple [.ab5 [p.v,(ad7 (ac3 p)).v,.int .u8 r.al9,.bool r.vendor,ax2 r.ae8,aw1 r.ah9,.int .i64 r.budget,.aa2 ((ac3 p).map aa1.cs)],.int .i64 0]:=by
  rw[<- Y];unfold jv1;rw[if_pos (by unfold ak3;rw[if_neg M,if_neg q2,if_neg T,if_neg c7])];rfl
 have ai:=az9 (ad7 (ac3 p));have aj:=ba4 p;rw[Q];clear g Y Q hJ I;simp only[go_sem,ak,Bool.not_true];refine aa4 fok26 (hM) ?_;simp only[go_sem,hq7,bc7]
 first|refine aa4 fok27 (hO) ?_|refine aa8 (hO) ?_
 have ae:r.cs=[.int .u8 r.al9,.bool r.vendor,ax2 r.ae8,aw1 r.ah9,.int .i64 r.budget]:=rfl;rw[ae];have aa:(ad7 (ac3 p)).v.leaf=true:=rfl;have ab:(ad7 (ac3 p)).v.cs=[(ad7 (ac3 p)).v]:=rfl;generalize (ad7 (ac3 p)).v=X at *;generalize aq:p.v=Pv at *;simp only[go_sem,o,m,aa,ab];refine aa4 fok28 (hC) ?_;simp only[go_sem];refine aa9 noT (λn fr s=>∃L,fr=[(2,.ab5 [Pv]),(8,.ptr 5 0),(65,.int .i64 (ac3 p).length),(66,.int .i64 (n:Int))]/\7<=s.next/\s.obj 5=zd (.cells [Pv,X,.int .u8 r.al9,.bool r.vendor,ax2 r.ae8,aw1 r.ah9,.int .i64 r.budget,L])/\Grow s L 15 (((ac3 p).take n).map aa1.cs)) (ac3 p).length ⟨.aa5,rfl,zc _,by simp only[aa3,if_true],.inl ⟨rfl,rfl⟩⟩ ?_;rintro n fr s hn ⟨L,rfl,am,ho,P⟩;by_cases H:n<(ac3 p).length
 .have d1:(n:Int)<((ac3 p).length:Int):=om;have w1:=ac6 (i:=n) om;have hp:=af n H;have n5:¬5=s.next:=om
  have ac:(ac3 p).take (n+1)=(ac3 p).take n++[(ac3 p)[n]]:=by
   rw[z6,zl H];rfl
  have an:L.leaf=true:=by rcases P with ⟨rfl,_⟩|⟨id,rfl,_⟩<;>rfl
  have ao:L.cs=[L]:=by rcases P with ⟨rfl,_⟩|⟨id,rfl,_⟩<;>rfl
  simp only[go_sem,d1]
  first|refine aa4 fok29 (hp) ?_|refine aa8 (hp) ?_
  simp only[go_sem,ad8,ad9,ac9,n5,ho,b_o,b_p,b_t];have⟨s1,a1,a2,a3,a4⟩:=fi9 (k:=11) (nid:=s.next+1+1+1+1+1+1+1+1) (e:=(ac3 p)[n].cs) (A:=.cells [.str [],.int .i64 0,.str [],.str [],.int .u8 0,.str [],.aa5,.aa5,.aa5,.aa5,.aa5,.aa5,.aa5,.aa5,.aa5]) (B:=.cells (ac3 p)[n].cs) P (ar7 _) ⟨rfl,rfl⟩ (by rw[za,zt];omega) ho om om;simp only[go_sem,a1,a3,b_o,b_p,b_t,w1];refine ⟨H,_,by rw[a2];omega,rfl,?_⟩;rw[ac,zi];have a5:=a4 [Pv,X,.int .u8 r.al9,.bool r.vendor,ax2 r.ae8,aw1 r.ah9,.int .i64 r.budget,.slice (s.next+1+1+1+1+1+1+1+1) 0 (((ac3 p).take n).length+1) 15] s1.next (by rw[a2];omega);rw[za] at a5;exact a5
 .have ag:n=(ac3 p).length:=om;subst ag;have d1:¬((ac3 p).length:Int)<((ac3 p).length:Int):=om;rw[z1] at P;simp only[go_sem,d1]
  have ah:∀e∈(ac3 p).map aa1.cs,∀c∈e,Bnd 0 c:=λe he c hc=>by
   obtain ⟨y,_,rfl⟩:=zh.1 he;exact ag4 y c hc
  refine .bo4 (.cons (.ptr 5 0 _ _ (zg _) (.inl ho) (zc _) (λj hj=>?_)) (.cons (bf8 rfl) .nil))
  match j,hj with
  | 0,_=>exact .keep _ aj
  | 1,_=>exact .keep _ ai
  | 2,_=>exact .keep _ (.int _ _)
  | 3,_=>exact .keep _ (.bool _)
  | 4,_=>exact .keep _ (ch3 _)
  | 5,_=>exact .keep _ (bf4 _)
  | 6,_=>exact .keep _ (.int _ _)
  | 7,_=>exact P.frz (λx N=>(ar7 _ x N).1) (λ_ _=>zg _) ah
def ch6 (l:List Dep):∀x∈l.map Dep.cs,x.length=5/\x.all IV.leaf=true:=λx a=>by
 obtain ⟨d,_,rfl⟩:=zh.1 a;exact ⟨rfl,rfl⟩
def fp9 (d:Dep):∀c∈d.cs,Bnd 0 c:=λc hc=>by
 simp only[Dep.cs,zx,zr,or_false] at hc;rcases hc with rfl|rfl|rfl|rfl|rfl
 .exact .str _
 .exact .int _ _
 .exact .int _ _
 .exact .str _
 .exact .str _
def cx2 (p:aa6×Bool):Option Dep:=if p.1.kind=1 then zd p.1.dep else none
def is9 (r:aa6)(hf:r.fit)(hc:r.count<2^30):Pq 78 [.agg r.cs] (.aa2 (r.atoms.map Dep.cs)):=by
 refine af5 hE fok78 (nZ rfl) (ae6 (ah2 _)) ?_;simp only[ic78,go_sem,ab3,ab9,ac5];refine ab8 fok137 (fd2 r _) ?_;rintro v s1 ⟨rfl,hb,hn,hs⟩;refine ⟨hn,?_⟩;simp only[go_sem] at hn hs hb ⊢;have h0:s1.obj 0=zd (.cells [.aa5]):=by rw[hs 0 om];rfl
 have hb1:=hb.1;refine dc1 (cs8 r hf 1) (λrest t=>boxed 1 t/\∃(ps rs:List (aa6×Bool)) (v:IV),rest=rs.map row/\ps++rs=r.parts false/\t.obj 0=zd (.cells [v])/\s1.next<t.next/\Grow t v 5 ((ps.filterMap cx2).map Dep.cs)/\∀id k,v=.slice id 0 k 5->s1.next<id) (λ_ _ h=>h.1) ?_ ee8 ?_ ?_ ?_
 .rintro rest t t' ⟨⟨q1,q2⟩,ps,rs,v,h1,h2,h3,h4,h5,h6⟩ hn' hs';exact ⟨⟨om,by rw[hs' 1 q1];exact q2⟩,ps,rs,v,h1,h2,by rw[hs' 0 om];exact h3,om,h5.mono hn' λid _ hid=>hs' id hid,h6⟩
 .intro o;have e0:¬0=s1.next:=om;have e1:¬1=s1.next:=om;refine ⟨⟨by show 1<s1.next+1;omega,by simp only[aa3,e1,if_false];exact hb.2⟩,[],r.parts false,.aa5,rfl,rfl,by simp only[aa3,e0,if_false];exact h0,z3 _,.inl ⟨rfl,rfl⟩,λid k h=>by cases h⟩
 .rintro L pre a rest t hev ⟨⟨q1,q2⟩,ps,rs,v,h1,h2,h3,h4,h5,h6⟩ hL hlt
  cases rs with
  | nil=>cases h1
  | cons p rs=>
  rw[z0] at h1;have⟨ha,hrest⟩:=List.cons.inj h1;subst ha;have⟨⟨k,d,xs⟩,al⟩:=p;simp only[row,aa7] at hL hlt ⊢;have e1:¬s1.next=t.next:=om;have e2:¬0=t.next:=om;have e3:¬s1.next=0:=om;have e4:¬0=s1.next:=om;have e5:¬1=t.next:=om;have e6:¬1=s1.next:=om;have e7:¬t.next=s1.next:=om;have e8:¬t.next=0:=om;have e9:¬0=1:=om;simp only[go_sem,hL,e1,e2,e3,e4,e5,e6,e7,e8,ac5,ab9,ab3,aw4,ia1,et5,h3];generalize hU:Store.mk (t.next+1) _=U;have un:U.next=t.next+1:=by rw[<- hU]
  have uL:U.obj s1.next=zd (L .busy none):=by rw[<- hU];simp only[aa3,if_true]
  have uo:∀i,i<t.next->i≠s1.next->U.obj i=t.obj i:=λi hi hne=>by
   have:¬i=t.next:=om;rw[<- hU];simp only[aa3,hne,this,if_false]
  have u0:=uo 0 om e4;rw[h3] at u0;have ub:U.obj t.next=zd (.cells (aa6.mk k d xs).cs):=by rw[<- hU];simp only[aa3,e7,if_false,if_true]
  have hg:Grow U v 5 ((ps.filterMap cx2).map Dep.cs):=h5.mono om λid hv hid=>uo id hid (by have:=h6 _ _ hv;omega)
  have hcnt:ps.length+(rs.length+1)=r.count:=by
   have:=congrArg List.length h2;rw[zj,zn,aa6.dg4] at this;exact this
  have hpl:(ps.filterMap cx2).length<2^30:=by
   have:=z8 cx2 ps;omega
  have hbx:1<U.next/\U.obj 1=zd (.cells [.func (.func 193) [] [.ptr 1 0]]):=⟨om,by rw[uo 1 q1 e6];exact q2⟩;by_cases hk:k=1
  .have hat:cx2 (aa6.mk k d xs,al)=zd d:=by unfold cx2;rw[if_pos];rfl;exact hk
   have hap:=ai1 (nid:=U.next) (e:=d.cs) (σ:=⟨U.next+1,U.obj⟩) (hg.mono (z7 _) λ_ _ _=>rfl) (ch6 _) ⟨rfl,rfl⟩ (by rw[za];omega);have k0:=ae4 hg 0 (.cells [v]) u0 (λ_ h=>by cases h)
   have kL:(ad4 v ⟨U.next+1,U.obj⟩).obj s1.next=zd (L .busy none):=by
    cases hv:v<;>try exact uL
    rename_i id o n' e;show (if s1.next=id then none else U.obj _)=_;rcases hg with ⟨h,_⟩|⟨id',h,_,_⟩
    .rw[h] at hv;cases hv
    .rw[hv] at h;cases h;have:=h6 _ _ hv;rw[if_neg om];exact uL
   have k0':=ae4 (hg.mono (z7 _) λ_ _ _=>rfl:Grow ⟨U.next+1,U.obj⟩ v 5 _) 0 (.cells [v]) u0 (λ_ h=>by cases h);have k1:=ae4 (hg.mono (z7 _) λ_ _ _=>rfl:Grow ⟨U.next+1,U.obj⟩ v 5 _) 1 _ hbx.2 (λ_ h=>by cases h);have kn:=ac1 (σ:=⟨U.next+1,U.obj⟩) v;have x1:¬0=U.next:=om;have x2:¬s1.next=U.next:=om;have x3:¬1=U.next:=om;have x4:¬U.next=s1.next:=om;have x5:¬U.next=0:=om;have x6:¬1=0:=om;rw[za] at hap;simp only[go_sem,hk,u0,ub,aw4,ia1,et5,aq8,an2,am8,hap,k0',kL,x1,x2,e3,e4];refine ea6 (by simp only[aa7,kn];omega) (by simp only[aa3,if_true]) ⟨⟨?_,?_⟩,ps++[(aa6.mk k d xs,al)],rs,.slice U.next 0 ((ps.filterMap cx2).length+1) 5,hrest,by rw[ze];exact h2,?_,?_,?_,λid k h=>?_⟩
   .simp only[aa7,kn];omega
   .simp only[aa3,x3,x6,e6,if_false];exact k1
   .simp only[aa3,e4,if_false,if_true]
   .simp only[aa7,kn];omega
   .rw[qb];simp only[qc,hat,qd];rw[zi];refine .inr ⟨U.next,by simp,?_,by simp only[aa7,kn];omega⟩;simp only[aa3,x4,x5,if_false,if_true];rfl
   .cases h;omega
  .have hat:cx2 (aa6.mk k d xs,al)=none:=by unfold cx2;rw[if_neg];exact hk
   simp only[go_sem,hk,uL];refine ea6 (by rw[aa7,un];omega) (by simp only[aa3,if_true]) ⟨⟨by rw[aa7];exact hbx.1,by rw[aa3,if_neg e6];exact hbx.2⟩,ps++[(aa6.mk k d xs,al)],rs,v,hrest,by rw[ze];exact h2,by rw[aa3,if_neg e4];exact u0,by rw[aa7,un];omega,?_,h6⟩;rw[qb];simp only[qc,hat,qd,zk];exact hg.mono (zc _) λid hv _=>by rw[aa3,if_neg (by have:=h6 _ _ hv;omega)]
 .rintro t o ⟨⟨q1,q2⟩,ps,rs,v,h1,h2,h3,h4,h5,h6⟩ hlt ho
  cases rs with
  | cons k rs=>cases h1
  | nil=>
  have e0:¬0=s1.next:=om;rw[zk] at h2;have hat:r.atoms=ps.filterMap cx2:=by unfold aa6.atoms;rw[<- h2];rfl
  simp only[go_sem,e0,h3];rw[hat]
  have hg:Grow { next:=t.next,obj:=(t.kill s1.next).obj } v 5 ((ps.filterMap cx2).map Dep.cs):=h5.mono (zc _) λid hv hid=>by
   have:=h6 _ _ hv;show (if id=s1.next then none else t.obj id)=_;rw[if_neg om]
  exact hg.frz (λe he=>(ch6 _ e he).1) (λ_ _=>zg _) λe he c hc=>by
   obtain ⟨x,_,rfl⟩:=zh.1 he;exact fp9 x c hc
def cb5 (p:Pool)(hl:(ac3 p).length<=256)(hf:∀x∈ac3 p,x.Fit/\x.Tiny):Pq 44 [p.v] (.tuple [af4 (ac3 p),.int .i64 0]):=by
 refine af5 hE fok44 (nZ rfl) (al3 (ba4 p)) ?_;have h:p.rows.length=(ac3 p).length:=by simp[ac3]
 have i:=bf2 p (λx g=>(hf _ (zm (f:=λx:bb5=>x.pkg) g)).1) om (λx g=>by
  have:=(hf _ (zm (f:=λx:bb5=>x.pkg) g)).2;have a:=this.au4.1;have b:=this.obs.1;have c:=this.files;omega)
 have i:Pq 26 [p.v] (.tuple [(ad7 (ac3 p)).v,.int .i64 0]):=i;have j:=ao8 p;rw[h] at j;have k:=au3 (ac3 p);unfold af4 at *;have d:(ad7 (ac3 p)).v.leaf=true:=rfl;have e:(ad7 (ac3 p)).v.cs=[(ad7 (ac3 p)).v]:=rfl;generalize (ad7 (ac3 p)).v=X at *;simp only[ic44,go_sem];refine aa4 fok26 (i) ?_;simp only[go_sem];refine aa4 fok28 (j) ?_;simp only[go_sem,d,e];exact .keep _ (.tuple _ (ag7 k (.int _ _)))
def aq4 (a:ac2):Pq 34 [a.v] a.p.v:=by
 refine af5 hE fok34 (nZ rfl) (al3 (ai5 a)) ?_;have c:=ba4 a.p;unfold ac2.v ac2.cs;simp only[ic34,go_sem,an5];exact .keep _ c
def as4 (a:ac2)(d:AOK a):Pq 75 [a.v] (.agg a.r.cs):=by
 refine af5 hE fok75 (nZ rfl) (al3 (ai5 a)) ?_;have c:=jd1 a.r (by have:=d.ae8;omega) (by have:=d.ah9;omega);have e:=bf5 a.r;unfold ac2.v ac2.cs;unfold Req.cs at *;simp only[ic75,go_sem,an5]
 first|refine aa4 fok27 (c) ?_|refine aa8 (c) ?_
 simp only[go_sem];exact .keep _ (.agg _ e)
def dx4 {r:aa6}{g:Int}(h:af3 r g=0):r.count<=24/\∀d∈r.atoms,ak2 d=true:=by
 unfold af3 at h;split at h
 .cases h
 split at h
 .cases h
 split at h
 .cases h
 split at h
 case isFalse=>cases h
 rename_i hc _ hp;refine ⟨om,λd e=>?_⟩;unfold aa6.atoms at e;have⟨p,c,a⟩:=List.mem_filterMap.1 e;have:=List.all_eq_true.1 hp p c;split at a
 .rename_i i;cases a;unfold ah5 at this;simp only[z2] at this;have f:=this.2;rw[if_pos i] at f;exact f
 .cases a
def it1 {p:aa1}(h:ae9 p=true):(p.suggests.length<=32/\∀r∈p.suggests,af3 r 1=0)/\p.ak8.length<=32/\∀r∈p.ak8,af3 r 3=0:=by
 unfold ae9 ai2 at h;simp only[z2,decide_eq_true_eq,List.all_eq_true] at h;exact ⟨h.1.2,h.2⟩
def ay1 (L:List aa1):List Dep:=L.flatMap λq=>q.suggests.flatMap aa6.atoms
def hr6 (l:List aa1)(n:Nat)(q:aa1):Bool:=((ay1 (l.take n)).any λd=>provides q d)||q.ak8.any λr=>fb2 l (aj5 (λ_=>true) n) r
def aw3 (l:List aa1)(n:Nat):List Bool:=l.map (hr6 l n)
def dh9 (r:aa6):r.atoms.length<=r.count:=by
 have:=z8 cx2 (r.parts false);rw[aa6.dg4] at this;exact this
def ff1 {a c:Type}(f:a->List c)(m:Nat):∀(l:List a),(∀x∈l,(f x).length<=m)->(l.flatMap f).length<=l.length*m:=by
 intro l
 induction l with
 | nil=>intro _;simp
 | cons x l ih=>
  intro h;rw[zz,zj,zn,Nat.add_mul];have:=h x List.mem_cons_self;have:=ih λy d=>h y (List.mem_cons_of_mem _ d)
  omega
def ff2 (q:aa1)(d:Dep)(a:Pkg.small q)(c:Dep.small d):Pq 80 [.agg d.cs,.ab5 q.cs] (.bool (provides q d)):=by
 refine af5 hE fok80 (nZ rfl) (ag7 (au6 d) (.ab5 _ (ag4 q))) ?_;have h:=cb3 q d a c;simp only[ic80,go_sem,aq8,an2,am8,ad8,ad9,ac9];refine aa4 fok81 (h) ?_;simp only[go_sem];exact ac8 rfl
def ff3 (l:List aa1)(hl:l.length<=256)(hs:∀p∈l,Pkg.small p)(zs:List Int)(a:zs.length<2^40)(r:aa6)(d:r.fit)(c:r.count<2^31) :
  Pq 83 [.agg r.cs,.ab5 [af4 l],.ab5 [.aa2 (zs.map Md.ad1)]] (.bool (fb2 l zs r)):=by
 refine af5 hE fok83 (nZ rfl) (aw9 (ah2 _) (.ab5 _ (al3 (au3 l))) (.ab5 _ (al3 (ax6 zs)))) ?_;have h:=cv6 l hl hs zs a r d c;simp only[ic83,go_sem,ac5,ab9,ab3];refine aa4 fok84 (h) ?_;simp only[go_sem];exact ac8 rfl
def ee1 (d:Itm):d.cs.length=3:=rfl
def dg3 (d:Itm):d.cs.all IV.leaf=true:=rfl
def ep1 (d:Itm):d.cs.take 3=d.cs:=rfl
def ee2 (d:Itm):∀c∈d.cs,Bnd 0 c:=aw9 (.int _ _) (.int _ _) (.int _ _)
def ep2 (d:Itm):Bnd 0 (.agg d.cs):=.agg _ (ee2 d)
def br5 (l:List Itm):Bnd 0 (bb7 l):=.aa2 _ λe a c hc=>by
 obtain ⟨d,_,rfl⟩:=zh.1 a;exact ee2 d c hc
def he8 (l:List Itm):Bnd 0 (.am2 (bk8 l)):=.am2 _ (λe a=>by
 obtain ⟨d,_,rfl⟩:=zh.1 a;exact ep2 d) λe a=>by
 obtain ⟨d,_,rfl⟩:=zh.1 a;exact .agg _ λc hc=>by cases hc
end Go.Id.Tryz
namespace Go.Id.Md
open Go Go.Id
def ac2.mcs (a:ac2):List IV:=[a.v,Go.Id.Tryz.af4 a.l,.aa2 (a.l.map aa1.cs),bb7 a.items,.am2 (bk8 a.items)]
def ac2.mv (a:ac2):IV:=.ab5 a.mcs
def ac2.held (a:ac2)(st:List Int)(x:Itm):List IV:=[a.mv,.aa2 (st.map Md.ad1),.int .u8 x.kind,.int .i64 x.p,.int .i64 x.q]
end Go.Id.Md
namespace Go.Id.Tryz
open Go Go.Id Go.Proofs Go.Shelf Go.Id.Md
open Go.Id.Md.ac2 (inS less)
def ep3 (a:ac2):Bnd 0 a.mv:=.ab5 _ λc hc=>by
 simp only[ac2.mcs,zx,zr,or_false] at hc;rcases hc with rfl|rfl|rfl|rfl|rfl
 .exact ai5 a
 .exact au3 _
 .exact au5 _
 .exact br5 _
 .exact he8 _
def cf9 (a:ac2){p:Nat}(h:p<a.l.length):a.pk p∈a.l:=by
 have:a.pk p=a.l[p]:=by simp[ac2.pk,zb,h]
 rw[this];exact zu h
def kt5 (a:ac2){p:Nat}(h:p<a.l.length):(a.l.map aa1.cs).getD p []=(a.pk p).cs:=by
 simp[ac2.pk,zb,h]
def he9 (l:List aa6){q:Nat}(h:q<l.length):(l.map aa6.cs).getD q []=(l.getD q default).cs:=by
 simp[zb,h]
def ke7 (l:List Dep){q:Nat}(h:q<l.length):(l.map Dep.cs).getD q []=(l.getD q default).cs:=by
 simp[zb,h]
def getD_in {a:Type}[Inhabited a](l:List a){q:Nat}(h:q<l.length):l.getD q default∈l:=by
 have:l.getD q default=l[q]:=by simp[zb,h]
 rw[this];exact zu h
def kt6 (a:ac2):((ac2.mcs a).drop 3).head? = zd (bb7 a.items):=rfl
def fc5 (a:ac2):Pq 71 [a.v] (ad7 a.l).v:=by
 refine af5 hE fok71 (nZ rfl) (al3 (ai5 a)) ?_;have c:=az9 (ad7 a.l);unfold ac2.v ac2.cs;simp only[ic71,go_sem,an5];exact .keep _ c
def fc6 (xs:List Itm)(j:xs.length<=2147483648):Pq 68 [.aa2 (xs.map Itm.cs)] (.aa2 (xs.map Itm.cs)):=by
 cases f:xs with
 | nil=>
  rw[z5];refine bp8 ?_ ?_
  .refine af5 hE fok68 (nZ rfl) (ae6 .aa5) ?_;simp only[ic68,go_sem,aj9];exact .by1
  .refine af5 hE fok68 (nZ rfl) (ae6 .af7) ?_;simp only[ic68,go_sem,aj9];rw[bm5 (by simp only[aa3,if_true]) rfl];simp only[go_sem]
   exact .dm8 _ _ _ (by simp only[aa3,if_true];exact λh=>(by cases h))
 | cons a as'=>
  have i:xs.map Itm.cs≠[]:=by rw[f];exact λh=>(by cases h)
  have c:∀e∈xs.map Itm.cs,e.length=3/\e.all IV.leaf=true:=λe k=>by
   obtain ⟨x,_,rfl⟩:=zh.1 k;exact ⟨ee1 x,dg3 x⟩
  rw[<- f];refine af5 hE fok68 (nZ rfl) (ae6 (br5 xs)) ?_;have g:∀d,ci5 (.slice d) (.aa2 (xs.map Itm.cs))=zd false:=λd=>by rw[f];rfl
  simp only[ic68,go_sem,aj9,g];rw[bz8 (by simp only[aa3,if_true]) i c (by rw[za];exact j)];simp only[go_sem];refine Grow.frz (esz:=3) (es:=xs.map Itm.cs) (.inr ⟨1,by rw[za],by simp only[aa3,if_true],z3 _⟩) (λx f=>(c x f).1) (λ_ _=>zg _) (ap6 (br5 xs))
def hf5 (a:ac2)(hl:a.items.length<=2147483648):Pq 35 [a.mv] (bb7 a.items):=by
 refine af5 hE fok35 (nZ rfl) (al3 (ep3 a)) ?_;have h:=fc6 a.items hl;have c:∀d:TypeId,ci5 (.pointer d) (.ab5 a.mcs)=zd false:=λ_=>rfl
 unfold ac2.mv at *;simp only[ic35,go_sem,c,kt6,an5];refine aa4 fok68 (h) ?_;simp only[go_sem];exact .keep _ (br5 _)
structure MO (s:Store) (pp mid:Nat) (av tv allv itv:IV) (P:List aa1) (D:List Itm):Prop where
 cell:s.obj pp=zd (.cells [av,tv,allv,itv,.map mid])
 grow:Grow s itv 3 (D.map Itm.cs)
 map:s.obj mid=zd (.map (bk8 D))
 all:Grow s allv 15 (P.map aa1.cs)
 ne:∀i k j l,itv=.slice i 0 k 3->allv=.slice j 0 l 15->i≠j
 lt:pp<s.next/\mid<s.next
def MO.mono {s s':Store}{g mid:Nat}{k f a d:IV}{P:List aa1}{D:List Itm}(h:MO s g mid k f a d P D)(j:s.next<=s'.next)(e:∀i,i<s.next->s'.obj i=s.obj i):MO s' g mid k f a d P D where
 cell:=by rw[e _ h.lt.1];exact h.cell
 grow:=h.grow.mono j λid _ c=>e id c
 map:=by rw[e _ h.lt.2];exact h.map
 all:=h.all.mono j λid _ c=>e id c
 ne:=h.ne
 lt:=⟨by have:=h.lt.1;omega,by have:=h.lt.2;omega⟩
def fn2 (l:List Itm):∀e∈l.map Itm.cs,e.length=3/\e.all IV.leaf=true:=λe a=>by
 obtain ⟨x,_,rfl⟩:=zh.1 a;exact ⟨rfl,rfl⟩
def hf6 {a:Store}{mid:Nat}{D:List Itm}{x:Itm}(h:a.obj mid=zd (.map (bk8 D)))(e:x ∉ D):ap3 a 6 (.map mid) (.agg [.int .u8 x.kind,.int .i64 x.p,.int .i64 x.q]) (.agg [])=zd (a.put mid (.map (bk8 (D++[x])))):=by
 have d:=im2 e;have c:x.cs=[.int .u8 x.kind,.int .i64 x.p,.int .i64 x.q]:=rfl;rw[c] at d;simp only[ap3,h,d,Option.map]
def jm3 (pp:Nat)(σ s:Store):Prop:=σ.next<=s.next/\∀i cs,i<σ.next->i≠pp->σ.obj i=zd (.cells cs)->s.obj i=zd (.cells cs)
def ep4 (σ:Store)(d mid:Nat)(U N a c:IV)(P:List aa1)(D:List Itm)(x:Itm)(h:MO σ d mid U N a c P D)(hx:x ∉ D)(hD:D.length<2^30) :
  Cq 114 [.ptr d 0,.int .u8 x.kind,.int .i64 x.p,.int .i64 x.q] σ (λv s=>jm3 d σ s/\∃I,MO s d mid U N a I P (D++[x])):=by
 refine C_f fok114 (nZ rfl) ?_;have aa:x.cs=[.int .u8 x.kind,.int .i64 x.p,.int .i64 x.q]:=rfl;have r:¬d=σ.next:=by have:=h.lt.1;omega
 have F:¬mid=σ.next:=by have:=h.lt.2;omega
 have E:¬d=σ.next+1+7:=by have:=h.lt.1;omega
 have y:¬mid=σ.next+1+7:=by have:=h.lt.2;omega
 have u:¬mid=d:=λe=>by have T:=h.cell;have h2:=h.map;rw[<- e,h2] at T;cases T
 have W:¬σ.next=σ.next+1+7:=om;have V:¬σ.next=d:=λe=>r e.symm
 have hc:=h.cell;have hm:=h.map;obtain ⟨S,hS⟩:∃S:Store,S=(({ next:=σ.next+1,obj:=σ.obj }:Store).put σ.next (aj8.cells [.int .u8 0,.int .i64 0,.int .i64 0])).put σ.next (aj8.cells [.int .u8 x.kind,.int .i64 x.p,.int .i64 x.q]):=⟨_,rfl⟩;have B:∀i,¬i=σ.next->S.obj i=σ.obj i:=λi hi=>by rw[hS];simp only[aa3,hi,if_false]
 have Sb:S.obj σ.next=zd (.cells [.int .u8 x.kind,.int .i64 x.p,.int .i64 x.q]):=by rw[hS];simp only[aa3,if_true]
 have f:Grow (⟨σ.next+1+11,S.obj⟩:Store) c 3 (D.map Itm.cs):=h.grow.mono (by show σ.next<=σ.next+1+11;omega) λid _ A=>B id om
 have ah:Grow (⟨σ.next+1+11,S.obj⟩:Store) a 15 (P.map aa1.cs):=h.all.mono (by show σ.next<=σ.next+1+11;omega) λid _ A=>B id om
 have L:=ai1 (nid:=σ.next+1+7) (e:=x.cs) f (fn2 D) ⟨rfl,rfl⟩ (by rw[za];omega);rw[za,aa] at L;have kp:=ae4 f d _ (by rw[<- hc];exact B d r) (λ_ e=>by cases e);have Y:=ae4 f mid _ (by rw[<- hm];exact B mid F) (λ_ e=>by cases e);have kb:=ae4 f σ.next _ Sb (λ_ e=>by cases e);have Q:(ad4 c (⟨σ.next+1+11,S.obj⟩:Store)).next=σ.next+1+11:=ac1 c;have ai:S.obj d=zd (.cells [U,N,a,c,.map mid]):=by rw[B d r];exact hc
 have H:∀i cs,i<σ.next->σ.obj i=zd (.cells cs)->(ad4 c (⟨σ.next+1+11,S.obj⟩:Store)).obj i=zd (.cells cs):=λi cs hi z=>ae4 f i _ (by rw[<- z];exact B i om) (λ_ e=>by cases e)
 have m:Grow (ad4 c (⟨σ.next+1+11,S.obj⟩:Store)) a 15 (P.map aa1.cs):=by
  refine ah.mono (by rw[Q];exact zc _) λid g _=>?_
  rcases f with ⟨h0,_⟩|⟨j,t,_,_⟩
  .rw[h0];rfl
  .have ab:=h.ne _ _ _ _ t g;rw[t];show (if id=j then none else S.obj id)=_;rw[if_neg λe=>ab e.symm]
 simp only[ic114,go_sem,r,hc,b_o,b_p,b_t];rw[<- hS];generalize ad4 c (⟨σ.next+1+11,S.obj⟩:Store)=K at *;simp only[show σ.next+1+1+1+1+1+1+1+1=σ.next+1+7 from rfl,L,go_sem,E,y,u,W,V,kp,Y,kb];generalize M:(⟨K.next+7,_⟩:Store)=K2;have n:K2.obj=((K.put (σ.next+1+7) (aj8.row (List.map Itm.cs D++[[IV.int IntKind.u8 x.kind,IV.int IntKind.i64 x.p,IV.int IntKind.i64 x.q]]).flatten)).put d (aj8.cells [U,N,a,IV.slice (σ.next+1+7) 0 (D.length+1) 3,IV.map mid])).obj:=by rw[<- M]
 have o:K2.next=σ.next+1+11+7:=by rw[<- M];show K.next+7=_;rw[Q]
 have ac:K2.obj mid=zd (.map (bk8 D)):=by rw[n];simp only[aa3,u,y,if_false];exact Y
 have X:¬d=mid:=λe=>u e.symm
 rw[hf6 ac hx];simp only[go_sem];refine ⟨⟨by rw[aa7,o];omega,λi cs hi ae z=>?_⟩,.slice (σ.next+1+7) 0 (D.length+1) 3,?_⟩
 .have ag:¬i=mid:=λe=>by rw[e,hm] at z;cases z
  have af:¬i=σ.next+1+7:=om;rw[aa3,if_neg ag,n];simp only[aa3,ae,af,if_false];exact H i cs hi z
 .have J:∀id,id≠mid->id≠d->id≠σ.next+1+7->(K2.put mid (.map (bk8 (D++[x])))).obj id=K.obj id:=λid T h2 h3=>by
   rw[aa3,if_neg T,n];simp only[aa3,h2,h3,if_false]
  exact {
   cell:=by rw[aa3,if_neg X,n];simp only[aa3,if_true]
   grow:=by
    refine .inr ⟨σ.next+1+7,by rw[zi,zj,za];rfl,?_,by rw[aa7,o];omega⟩;rw[aa3,if_neg (λe=>y e.symm),n];simp only[aa3,if_true];rw[if_neg (λe=>E e.symm),zi];rfl
   map:=by rw[aa3,if_pos rfl]
   all:=by
    refine m.mono (by rw[aa7,o,Q];omega) λid g A=>?_
    rw[Q] at A
    have hr:K.obj id=zd (.row (P.map aa1.cs).flatten):=by
     rcases m with ⟨h0,_⟩|⟨j,t,z,_⟩
     .rw[h0] at g;cases g
     .rw[t] at g;cases g;exact z
    refine J id (λe=>by rw[e,Y] at hr;cases hr) (λe=>by rw[e,kp] at hr;cases hr) λe=>?_
    rw[e] at g;rcases h.all with ⟨h0,_⟩|⟨j,t,_,ad⟩
    .rw[h0] at g;cases g
    .rw[t] at g;cases g;omega
   ne:=λi k j l e1 e2=>by
    cases e1;rcases h.all with ⟨h0,_⟩|⟨j',t,_,ad⟩
    .rw[h0] at e2;cases e2
    .rw[t] at e2;cases e2;omega
   lt:=⟨by rw[aa7,o];have:=h.lt.1;omega,by rw[aa7,o];have:=h.lt.2;omega⟩ }
def ia5 (p:Pool)(hl:(ac3 p).length<=256)(hf:∀x∈ac3 p,x.Fit/\x.Tiny)(σ:Store) :
  Cq 33 [p.v] σ (λv s=>∃H mid z,v=.tuple [.ptr H 0,.int .i64 0]/\Kept σ s/\σ.next<=H/\ar1 s H mid (ad7 (ac3 p)).v z .aa5 (ac3 p) ⟨0,[],[]⟩):=by
 refine C_f fok33 (nZ rfl) ?_;have N:p.rows.length=(ac3 p).length:=by simp[ac3]
 have U:=bf2 p (λx L=>(hf _ (zm (f:=λx:bb5=>x.pkg) L)).1) om (λx L=>by
  have:=(hf _ (zm (f:=λx:bb5=>x.pkg) L)).2;have a:=this.au4.1;have b:=this.obs.1;have c:=this.files;omega)
 have U:Pq 26 [p.v] (.tuple [(ad7 (ac3 p)).v,.int .i64 0]):=U;have hC:=ao8 p;rw[N] at hC
 have P:∀j (h:j<(ac3 p).length),Pq 29 [p.v,.int .i64 j] (.tuple [.agg ((ac3 p).getD j default).cs,.int .i64 0]):=λj h=>by
  have D:j<p.rows.length:=om
  have hq:p.rows[j].pkg=(ac3 p).getD j default:=by
   have:(ac3 p).getD j default=(ac3 p)[j]:=by simp[zb,h]
   rw[this];simp[ac3]
  have B:(ac3 p).getD j default∈ac3 p:=by
   rw[zb,zl h];exact zu h
  have o:=aq3 p j D (by rw[hq];exact (hf _ B).1);rw[hq] at o;exact o
 have r:p.v.leaf=true:=rfl;have t:p.v.cs=[p.v]:=rfl;have E:(ad7 (ac3 p)).v.leaf=true:=rfl;have F:(ad7 (ac3 p)).v.cs=[(ad7 (ac3 p)).v]:=rfl;generalize (ad7 (ac3 p)).v=X at *;generalize p.v=PV at *;generalize ac3 p=l at *;simp only[ic33,go_sem,r,t];refine aa4 fok26 (U) ?_;simp only[go_sem,E,F,r,t];refine aa4 fok28 (hC) ?_;simp only[go_sem]
 refine aa9 noT (λn fr s=>∃d,fr=[(0,PV),(6,.ptr (σ.next+1) 0),(23,.int .i64 l.length),(24,.int .i64 (n:Int))]/\Kept σ s/\σ.next+2<=s.next/\s.obj σ.next=zd (.map [])/\s.obj (σ.next+1)=zd (.cells [X,d,.int .i64 0,.aa5,.map σ.next])/\Grow s d 15 ((l.take n).map aa1.cs)/\∀i k,d=.slice i 0 k 15->σ.next<=i) l.length
   ⟨.aa5,rfl,⟨z4 _ _,λi hi=>?_⟩,zc _,?_,?_,.inl ⟨rfl,rfl⟩,λ_ _ e=>by cases e⟩ ?_
 .have o:¬i=σ.next:=om;have V:¬i=σ.next+1:=om;simp only[aa3,o,V,if_false]
 .have o:¬σ.next=σ.next+1:=om;simp only[aa3,o,if_true,if_false]
 .simp only[aa3,if_true]
 rintro n fr s hn ⟨d,rfl,hk,aa,B,Q,u,T⟩;by_cases g:n<l.length
 .have W:(n:Int)<l.length:=om;have w1:=ac6 (i:=n) om;have hp:=P n g;have Y:¬σ.next+1=s.next:=om;have n0:¬σ.next=s.next:=om
  have M:l.take (n+1)=l.take n++[l.getD n default]:=by
   have:l.getD n default=l[n]:=by simp[zb,g]
   rw[this,z6,zl g];rfl
  generalize l.getD n default=q at *;have ac:d.leaf=true:=by rcases u with ⟨rfl,_⟩|⟨id,rfl,_⟩<;>rfl
  have ad:d.cs=[d]:=by rcases u with ⟨rfl,_⟩|⟨id,rfl,_⟩<;>rfl
  obtain ⟨S,hS⟩:∃S:Store,S=(({ next:=s.next+1,obj:=s.obj }:Store).put s.next (aj8.cells [.str [],.int .i64 0,.str [],.str [],.int .u8 0,.str [],.aa5,.aa5,.aa5,.aa5,.aa5,.aa5,.aa5,.aa5,.aa5])).put s.next (aj8.cells q.cs):=⟨_,rfl⟩;have A:∀i,¬i=s.next->S.obj i=s.obj i:=λi hi=>by rw[hS];simp only[aa3,hi,if_false]
  have m:Grow (⟨s.next+1+11,S.obj⟩:Store) d 15 ((l.take n).map aa1.cs):=u.mono (by show s.next<=s.next+1+11;omega) λid _ ab=>A id om
  have y:=ai1 (nid:=s.next+1+7) (e:=q.cs) m (ar7 _) ⟨rfl,rfl⟩ (by rw[za,zt];omega);rw[za] at y;have k1:=ae4 m (σ.next+1) _ (by rw[<- Q];exact A _ Y) (λ_ e=>by cases e);have k0:=ae4 m σ.next _ (by rw[<- B];exact A _ n0) (λ_ e=>by cases e);have J:(ad4 d (⟨s.next+1+11,S.obj⟩:Store)).next=s.next+1+11:=ac1 d;have m1:¬σ.next+1=s.next+1+7:=om;have m0:¬σ.next=s.next+1+7:=om;have I:¬σ.next=σ.next+1:=om
  have kl:∀i,i<σ.next->(ad4 d (⟨s.next+1+11,S.obj⟩:Store)).obj i=s.obj i:=λi hi=>by
   rcases m with ⟨h0,_⟩|⟨j,D,_,_⟩
   .rw[h0];exact A i om
   .have:=T j _ D;rw[D];show (if i=j then none else S.obj i)=_;rw[if_neg om];exact A i om
  simp only[go_sem,W,r,t]
  first|refine aa4 fok29 (hp) ?_|refine aa8 (hp) ?_
  simp only[go_sem,ad8,ad9,ac9,Y,n0,Q,b_o,b_p,b_t];rw[<- hS];generalize ad4 d (⟨s.next+1+11,S.obj⟩:Store)=K at *;simp only[show s.next+1+1+1+1+1+1+1+1=s.next+1+7 from rfl,y,go_sem,m1,m0,k1,k0,w1];refine ⟨g,_,⟨by rw[J];omega,λi hi=>?_⟩,by rw[J];omega,if_neg I,rfl,?_,λi k e=>?_⟩
  .have o:¬i=s.next+1+7:=om;have V:¬i=σ.next+1:=om;simp only[aa3,o,V,if_false];rw[kl i hi,hk.obj i hi]
  .rw[M,zi];refine .inr ⟨s.next+1+7,by rw[zj,za];rfl,?_,by rw[J];omega⟩;simp only[aa3];rw[if_neg (λe=>m1 e.symm),if_pos trivial];rfl
  .cases e;omega
 .have W:¬(n:Int)<l.length:=om;rw[z9 om] at u;simp only[go_sem,W];exact ⟨σ.next+1,σ.next,d,rfl,hk,om,{ cell:=Q,all:=u,cls:=.inl ⟨rfl,rfl⟩,map:=B,ne:=λ_ _ _ _ h=>(by cases h),lt:=⟨om,om⟩ }⟩
def jm3.refl (a:Nat)(σ:Store):jm3 a σ σ:=⟨zc _,λ_ _ _ _ h=>h⟩
def jm3.trans {d:Nat}{a b c:Store}(e:jm3 d a b)(f:jm3 d b c):jm3 d a c:=⟨qa e.1 f.1,λi cs hi hp g=>f.2 i cs (Nat.lt_of_lt_of_le hi e.1) hp (e.2 i cs hi hp g)⟩
def kj9 (a:ac2){i:Nat}(h:i<a.l.length):((a.l.map aa1.cs).flatten.drop (i*15)).take 15=(a.pk i).cs/\15<=((a.l.map aa1.cs).flatten.drop (i*15)).length:=by
 have hl:∀e∈a.l.map aa1.cs,e.length=15:=λe c=>(ar7 _ e c).1
 have f:=bp9 hl i (by rw[za];exact h);have d:=bc1 hl;refine ⟨by rw[f];exact kt5 a h,?_⟩;rw[List.length_drop,d,za];omega
def kk3 (a:ac2) (hA:AOK a) (hI:0<=a.p.inst) (σ:Store) (pp mid:Nat) (tv allv itv:IV) (h:MO σ pp mid a.v tv allv itv a.l []) (hIt:a.items.length<2^30) :
  Cq 67 [.ptr pp 0] σ (λv s=>σ.next<=s.next/\∃itv',MO s pp mid a.v tv allv itv' a.l a.items):=by
 refine eb4 fok67 (nZ rfl) ?_;have hlen:=hA.len;have vcs:a.v.cs=[a.v]:=rfl;have vlf:a.v.leaf=true:=rfl;simp only[ic67,go_sem]
 have hlen0:cx6 0 σ allv=zd (.int .i64 a.l.length):=by
  have:=cg9 (s':=σ) h.all;rw[za] at this;exact this
 have hc:=h.cell;refine ab7 (ab7 (ac4 ?_));simp only[go_sem,hc,hlen0];have x1:∀(p k:Int) (q:Int),(⟨k,p,q⟩:Itm).cs=[.int .u8 k,.int .i64 p,.int .i64 q]:=λ_ _ _=>rfl
 refine aj4 (ak9 (Q:=λe f s=>e=.exit 0/\σ.next<=s.next/\(∃itv,MO s pp mid a.v tv allv itv a.l (a.owns a.l.length))/\∃rst:Frm,f=(0,.ptr pp 0)::rst)
  (ea1 (λp fr s=>fr=[(0,.ptr pp 0),(14,allv),(15,.int .i64 a.l.length),(16,.int .i64 (p:Int))]/\σ.next<=s.next/\∃itv,MO s pp mid a.v tv allv itv a.l (a.owns p)) a.l.length ⟨rfl,zc _,itv,h⟩ ?_) ?_)
 .clear h hc hlen0 itv;rintro p fr t hp ⟨rfl,hn,itv,hM⟩;refine ab7 (ac4 ?_);by_cases hpl:p<a.l.length
  .have c1:(p:Int)<a.l.length:=om;have c2:(0:Int)<=(p:Int):=om;have w1:=ac6 (i:=p) om;have⟨r1,r2⟩:=kj9 a hpl
   obtain ⟨ga,hga,hgo,hgl⟩:∃ga,allv=.slice ga 0 a.l.length 15/\t.obj ga=zd (.row (a.l.map aa1.cs).flatten)/\ga<t.next:=by
    rcases hM.all with ⟨_,h1⟩|⟨ga,h1,h2,h3⟩
    .have:=congrArg List.length h1;rw[za,zy] at this;omega
    .exact ⟨ga,by rw[h1,za],h2,h3⟩
   subst hga;simp only[go_sem,c1];refine ab7 (ac4 ?_);simp only[go_sem];refine ab7 (aj4 (ab7 (ac4 ?_)));simp only[go_sem,c1,c2,hgo,r1,r2,Nat.zero_add,zq,ad8,ad9,ac9];generalize hT:Store.put _ t.next (aj8.cells (a.pk p).cs)=T;have Tn:T.next=t.next+1:=by rw[<- hT];rfl
   have To:∀i,i<t.next->T.obj i=t.obj i:=λi hi=>by
    have:¬i=t.next:=om;rw[<- hT];simp only[aa3,this,if_false]
   have Tb:T.obj t.next=zd (.cells (a.pk p).cs):=by rw[<- hT];simp only[aa3,if_true]
   have hMT:=hM.mono (s':=T) om To;have hpt:=hM.lt.1;have hfit:=bx3 a p;have hcT:=hMT.cell
   refine ab7 (ak9 (Q:=λe f s=>e=.normal/\(∃rst:Frm,f=(0,.ptr pp 0)::(2,.int .i64 (p:Int))::(3,.ptr t.next 0)::(14,.slice ga 0 a.l.length 15)::(15,.int .i64 a.l.length)::(16,.int .i64 (p:Int))::rst)/\t.next+1<=s.next/\s.obj t.next=zd (.cells (a.pk p).cs) /\
    ∃itv,MO s pp mid a.v tv (.slice ga 0 a.l.length 15) itv a.l (a.owns p++a.br1 p)) (ac4 ?_) ?_)
   .simp only[go_sem,hcT,vcs,vlf]
    first|refine aa4 fok113 (hfit) ?_|refine aa8 (hfit) ?_
    cases hf:a.fits p with
    | true=>
     have e:a.br1 p=[]:=by unfold ac2.br1;rw[hf];rfl
     simp only[go_sem]
     exact ⟨⟨_,rfl⟩,om,Tb,itv,by rw[e,zk];exact hMT⟩
    | false=>
     have e:a.br1 p=[⟨1,p,0⟩]:=by unfold ac2.br1;rw[hf];rfl
     simp only[go_sem];refine ab8 fok114 (ep4 T pp mid a.v tv _ itv a.l (a.owns p) ⟨1,p,0⟩ hMT (λhm=>by have⟨_,_,p',hp',e'⟩:=a.de7 hm;simp only at e';omega) (by have:=a.im4 hpl;omega)) ?_;rintro v s ⟨⟨s1,s2⟩,itv2,hM2⟩;refine ⟨s1,?_⟩;simp only[go_sem];exact ⟨⟨_,rfl⟩,om,s2 t.next _ om om Tb,itv2,by rw[e];exact hM2⟩
   clear hMT hcT hT Tn To Tb T hM;rintro e f T ⟨rfl,⟨rst,rfl⟩,Tn,Tb,itv,hM⟩;simp only[go_sem];obtain ⟨K,hK⟩:∃K,K=[IV.int .u8 2,.int .i64 ((a.pk p).requires.length:Nat),.int .u8 3,.int .i64 ((a.pk p).conflicts.length:Nat),.int .u8 4,.int .i64 ((a.pk p).ab2.length:Nat)]:=⟨_,rfl⟩;have g7:((a.pk p).cs.drop 7).head? = zd (ao3 (a.pk p).requires):=rfl;have g8:((a.pk p).cs.drop 8).head? = zd (ao3 (a.pk p).conflicts):=rfl;have g9:((a.pk p).cs.drop 9).head? = zd (deps (a.pk p).ab2):=rfl;refine ab7 (ac4 ?_);simp only[go_sem,Tb,g7,g8,g9];rw[<- hK]
   have hKj:∀j,j<3->(K.drop (j*2)).take 2=[.int .u8 ((2+j:Nat):Int),.int .i64 (a.nsI p j)]/\2<=(K.drop (j*2)).length:=λj hj=>by
    have:j=0\/j=1\/j=2:=om;rcases this with rfl|rfl|rfl<;>(rw[hK];exact ⟨rfl,by simp⟩)
   have hKl:K.length=6:=by rw[hK];rfl
   refine aj4 (ak9 (Q:=λe f s=>e=.exit 2/\σ.next<=s.next/\(∃itv,MO s pp mid a.v tv (.slice ga 0 a.l.length 15) itv a.l (a.owns p++a.br1 p++a.ed2 p 3))/\∃rst:Frm,f=(0,.ptr pp 0)::(2,.int .i64 (p:Int))::(14,.slice ga 0 a.l.length 15)::(15,.int .i64 a.l.length)::(16,.int .i64 (p:Int))::rst)
    (ea1 (λj fr s=>fr=[(0,.ptr pp 0),(2,.int .i64 (p:Int)),(14,.slice ga 0 a.l.length 15),(15,.int .i64 a.l.length),(16,.int .i64 (p:Int)),(43,.agg K),(44,.int .i64 (j:Int))]/\σ.next<=s.next/\∃itv,MO s pp mid a.v tv (.slice ga 0 a.l.length 15) itv a.l (a.owns p++a.br1 p++a.ed2 p j)) 3 ⟨rfl,om,itv,by simpa [ac2.ed2] using hM⟩ ?_) ?_)
   .clear hM Tb Tn itv g7 g8 g9 hK;rintro j fr u hj ⟨rfl,un,itv,hM⟩;refine ab7 (ac4 ?_);by_cases hj3:j<3
    .have d1:(j:Int)<3:=om;have d2:(0:Int)<=(j:Int):=om;have w2:=ac6 (i:=j) om;have⟨k1,k2⟩:=hKj j hj3;simp only[go_sem,d1];refine ab7 (ac4 ?_);simp only[go_sem];refine ab7 (aj4 (ab7 (ac4 ?_)));simp only[go_sem,d1,d2,k1,k2,hKl];refine ⟨om,?_⟩;generalize hU:Store.put _ u.next (aj8.cells [IV.int .u8 ((2+j:Nat):Int),IV.int .i64 (a.nsI p j)])=U;have Un:U.next=u.next+1:=by rw[<- hU];rfl
     have Uo:∀i,i<u.next->U.obj i=u.obj i:=λi hi=>by
      have:¬i=u.next:=om;rw[<- hU];simp only[aa3,this,if_false]
     have Ub:U.obj u.next=zd (.cells [IV.int .u8 ((2+j:Nat):Int),IV.int .i64 (a.nsI p j)]):=by rw[<- hU];simp only[aa3,if_true]
     have hMU:=hM.mono (s':=U) om Uo;have hpu:=hM.lt.1
     have hnn:a.nsI p j<2^30:=by
      have:=a.gy9 hpl hj3 (zc (a.nsI p j));rw[zj,ac2.bg8] at this;omega
     refine ab7 (ac4 ?_);simp only[go_sem,Ub]
     refine aj4 (ak9 (Q:=λe f s=>e=.exit 4/\σ.next<=s.next/\(∃itv,MO s pp mid a.v tv (.slice ga 0 a.l.length 15) itv a.l (a.owns p++a.br1 p++a.ed2 p (j+1)))/\∃rst:Frm,f=(0,.ptr pp 0)::(2,.int .i64 (p:Int))::(5,.ptr u.next 0)::(14,.slice ga 0 a.l.length 15)::(15,.int .i64 a.l.length)::(16,.int .i64 (p:Int))::(43,.agg K)::(44,.int .i64 (j:Int))::rst)
      (aa9 noT (λq fr s=>fr=[(0,.ptr pp 0),(2,.int .i64 (p:Int)),(5,.ptr u.next 0),(14,.slice ga 0 a.l.length 15),(15,.int .i64 a.l.length),(16,.int .i64 (p:Int)),(43,.agg K),(44,.int .i64 (j:Int)),(48,.int .i64 (a.nsI p j)),(49,.int .i64 (q:Int))]/\u.next+1<=s.next/\s.obj u.next=zd (.cells [IV.int .u8 ((2+j:Nat):Int),IV.int .i64 (a.nsI p j)]) /\
       ∃itv,MO s pp mid a.v tv (.slice ga 0 a.l.length 15) itv a.l (a.owns p++a.br1 p++a.ed2 p j++bq9 ((2+j:Nat):Int) p q)) (a.nsI p j) ⟨rfl,om,Ub,itv,by simpa [bq9] using hMU⟩ ?_) ?_)
     .clear hM hMU Un Uo Ub hU U itv;rintro q fr U hq ⟨rfl,Un,Ub,itv,hM⟩;by_cases hql:q<a.nsI p j
      .have e1:(q:Int)<(a.nsI p j:Nat):=om;have w3:=ac6 (i:=q) om;simp only[go_sem,e1,Ub];refine ab8 fok114 (ep4 U pp mid a.v tv _ itv a.l _ ⟨((2+j:Nat):Int),p,q⟩ hM (λhm=>?_) ?_) ?_
       .rcases zf.1 hm with hm|hm
        .rcases zf.1 hm with hm|hm
         .rcases zf.1 hm with hm|hm
          .have⟨_,_,p',hp',e'⟩:=a.de7 hm;simp only at e';omega
          .have:=a.jl2 hm;simp only at this;omega
         .have:=a.kc9 hm;simp only at this;omega
        .have⟨q',hq',e'⟩:=ax5.1 hm;have:=congrArg Itm.q e';simp only at this;omega
       .have:=a.gy9 hpl hj3 hq;omega
       rintro v s ⟨⟨s1,s2⟩,itv2,hM2⟩;refine ⟨s1,?_⟩;simp only[go_sem,w3];refine ⟨hql,om,s2 u.next _ om om Ub,itv2,?_⟩;rw[gg4,<- ze];exact hM2
      .have e1:¬(q:Int)<(a.nsI p j:Nat):=om;have e:q=a.nsI p j:=om;simp only[go_sem,e1];refine ⟨om,⟨itv,?_⟩,_,rfl⟩;rw[a.au1,<- ze,<- e];exact hM
     .rintro e f U ⟨rfl,Un,⟨itv,hM⟩,rst,rfl⟩;simp only[go_sem];refine ac4 ?_;simp only[go_sem,w2];exact ⟨hj3,Un,itv,hM⟩
    .have d1:¬(j:Int)<3:=om;have e:j=3:=om;subst e;simp only[go_sem,d1];refine ab7 (ac4 ?_);simp only[go_sem];exact ⟨un,⟨itv,hM⟩,_,rfl⟩
   .rintro e f u ⟨rfl,un,⟨itv,hM⟩,rst,rfl⟩;simp only[go_sem];refine ac4 ?_;simp only[go_sem,w1];refine ⟨hpl,un,itv,?_⟩;rw[a.cf2,a.ja6,<- ze];exact hM
  .have c1:¬(p:Int)<a.l.length:=om;have e:p=a.l.length:=om;simp only[go_sem,c1];refine ab7 (ac4 ?_);simp only[go_sem];exact ⟨hn,⟨itv,by rw[<- e];exact hM⟩,_,rfl⟩
 rintro e f t ⟨rfl,hn,⟨itv2,hM⟩,rst,rfl⟩;simp only[go_sem];clear h hc hlen0;have hc:=hM.cell
 have hlen0:∀s:Store,cx6 0 s allv=zd (.int .i64 a.l.length):=λs=>by
  have:=cg9 (s':=s) hM.all;rw[za] at this;exact this
 refine ab7 (ab7 (ac4 ?_));simp only[go_sem,hc,hlen0]
 refine aj4 (ak9 (Q:=λe f s=>e=.exit 6/\σ.next<=s.next/\(∃itv,MO s pp mid a.v tv allv itv a.l (a.owns a.l.length++a.at7 a.l.length))/\∃rst:Frm,f=(0,.ptr pp 0)::rst)
  (ea1 (λp fr s=>fr=[(0,.ptr pp 0),(65,.int .i64 a.l.length),(66,.int .i64 (p:Int))]/\σ.next<=s.next/\∃itv,MO s pp mid a.v tv allv itv a.l (a.owns a.l.length++a.at7 p)) a.l.length ⟨rfl,hn,itv2,by simpa [ac2.at7] using hM⟩ ?_) ?_)
 .clear hM hc itv2;rintro p fr t hp ⟨rfl,hn,itv,hM⟩;refine ab7 (ac4 ?_);by_cases hpl:p<a.l.length
  .have c1:(p:Int)<a.l.length:=om;have w1:=ac6 (i:=p) om;simp only[go_sem,c1];refine ab7 (ac4 ?_);simp only[go_sem];refine ab7 (aj4 (ab7 (ac4 ?_)));simp only[go_sem];refine ab7 (ac4 ?_);simp only[go_sem,w1]
   refine aj4 (ak9 (Q:=λe f s=>e=.exit 8/\σ.next<=s.next/\(∃itv,MO s pp mid a.v tv allv itv a.l (a.owns a.l.length++a.at7 (p+1)))/\∃rst:Frm,f=(0,.ptr pp 0)::(7,.int .i64 (p:Int))::(8,.int .i64 (a.l.length:Nat))::(65,.int .i64 a.l.length)::(66,.int .i64 (p:Int))::rst)
    (aa9 noT (λd fr s=>fr=[(0,.ptr pp 0),(7,.int .i64 (p:Int)),(8,.int .i64 ((p+1+d:Nat):Int)),(65,.int .i64 a.l.length),(66,.int .i64 (p:Int))]/\σ.next<=s.next/\∃itv,MO s pp mid a.v tv allv itv a.l (a.owns a.l.length++a.at7 p++a.cx1 p (p+1+d))) (a.l.length-(p+1)) ⟨rfl,hn,itv,by rw[Nat.add_zero,a.fb4,zk];exact hM⟩ ?_) ?_)
   .clear hM itv hn;rintro d fr u hd ⟨rfl,hn,itv,hM⟩;have hcu:=hM.cell;by_cases hdl:p+1+d<a.l.length
    .have d1:((p+1+d:Nat):Int)<a.l.length:=om;have w2:=ac6 (i:=p+1+d) om;have hdl2:d<a.l.length-(p+1):=om;have htw:=ff9 a p ((p+1+d:Nat):Int) hA
     have hsn:a.cx1 p (p+1+(d+1))=a.cx1 p (p+1+d)++if a.twins p ((p+1+d:Nat):Int) then [⟨5,p,((p+1+d:Nat):Int)⟩] else []:=by
      have e:p+1+(d+1)=p+1+d+1:=om;have l1:p<p+1+d:=om;rw[e];unfold ac2.cx1;rw[bw6];simp[l1]
     simp only[go_sem,hcu,hlen0,d1,vcs,vlf];refine aa4 fok115 (htw) ?_
     cases ht:a.twins p ((p+1+d:Nat):Int) with
     | false=>
      rw[ht] at hsn;simp only[go_sem,w2];refine ⟨hdl2,by rw[show p+1+(d+1)=p+1+d+1 by omega],hn,itv,?_⟩
      rw[hsn];simpa using hM
     | true=>
      rw[ht] at hsn;simp only[go_sem];refine ab8 fok114 (ep4 u pp mid a.v tv _ itv a.l _ ⟨5,p,((p+1+d:Nat):Int)⟩ hM (λhm=>?_) ?_) ?_
      .rcases zf.1 hm with hm|hm
       .rcases zf.1 hm with hm|hm
        .have⟨_,h4,_⟩:=a.de7 hm;simp only at h4;omega
        .have⟨_,p',hp',e'⟩:=a.ed1 hm;simp only at e';omega
       .have⟨_,_,q',hq',e'⟩:=a.im3 hm;simp only at e';omega
      .have:=a.im5 hpl (show p+1+d<=a.l.length by omega);omega
      rintro v s ⟨⟨s1,s2⟩,itv2,hM2⟩;refine ⟨s1,?_⟩;simp only[go_sem,w2];refine ⟨hdl2,by rw[show p+1+(d+1)=p+1+d+1 by omega],om,itv2,?_⟩;rw[hsn,if_pos rfl,<- ze];exact hM2
    .have d1:¬((p+1+d:Nat):Int)<a.l.length:=om;have e:p+1+d=a.l.length:=om;simp only[go_sem,hcu,hlen0,d1];refine ⟨hn,⟨itv,?_⟩,_,by rw[e]⟩;rw[a.bn1,<- ze];unfold ac2.gy4;rw[e] at hM;exact hM
   .rintro e f u ⟨rfl,un,⟨itv,hM⟩,rst,rfl⟩;simp only[go_sem];refine ac4 ?_;simp only[go_sem,w1];exact ⟨hpl,un,itv,hM⟩
  .have c1:¬(p:Int)<a.l.length:=om;have e:p=a.l.length:=om;simp only[go_sem,c1];refine ab7 (ac4 ?_);simp only[go_sem];exact ⟨hn,⟨itv,by rw[e] at hM;exact hM⟩,_,rfl⟩
 clear hM hc itv2 hn;rintro e f t ⟨rfl,hn,⟨itv2,hM⟩,rst,rfl⟩;simp only[go_sem];have hP:=aq4 a;have hIn:=aq1 a.p;have pvl:a.p.v.leaf=true:=rfl;have pvc:a.p.v.cs=[a.p.v]:=rfl;have hin:(a.p.inst:Int)=((a.p.inst.toNat:Nat):Int):=om;have hin2:a.p.inst.toNat<=a.l.length:=by have:=hA.inst;omega
 rw[hin] at hIn;have hc:=hM.cell;refine ab7 (ab7 (ac4 ?_));simp only[go_sem,hc,vcs,vlf]
 first|refine aa4 fok34 (hP) ?_|refine aa8 (hP) ?_
 simp only[go_sem,pvl,pvc]
 first|refine aa4 fok25 (hIn) ?_|refine aa8 (hIn) ?_
 simp only[go_sem]
 refine aj4 (ak9 (Q:=λe f s=>e=.exit 10/\σ.next<=s.next/\(∃itv,MO s pp mid a.v tv allv itv a.l (a.owns a.l.length++a.at7 a.l.length++a.ca6 a.p.inst.toNat))/\∃rst:Frm,f=(0,.ptr pp 0)::rst)
  (aa9 noT (λi fr s=>fr=[(0,.ptr pp 0),(97,.int .i64 ((a.p.inst.toNat:Nat):Int)),(98,.int .i64 (i:Int))]/\σ.next<=s.next/\∃itv,MO s pp mid a.v tv allv itv a.l (a.owns a.l.length++a.at7 a.l.length++a.ca6 i)) a.p.inst.toNat ⟨rfl,hn,itv2,by rw[show a.ca6 0=[] from rfl,zk];exact hM⟩ ?_) ?_)
 .clear hM hc itv2 hn;rintro i fr u hi ⟨rfl,hn,itv,hM⟩;have hcu:=hM.cell;by_cases hil:i<a.p.inst.toNat
  .have d1:(i:Int)<((a.p.inst.toNat:Nat):Int):=om;have w1:=ac6 (i:=i) om;have hg:=gl1 a i hA;have hsn:a.ca6 (i+1)=a.ca6 i++if !a.goes i then [⟨6,i,0⟩] else []:=bw6 _ _ _
   simp only[go_sem,hcu,d1,vcs,vlf];refine aa4 fok116 (hg) ?_
   cases hgo:a.goes i with
   | true=>
    rw[hgo] at hsn;simp only[go_sem,w1];refine ⟨hil,hn,itv,?_⟩
    rw[hsn];simpa using hM
   | false=>
    rw[hgo] at hsn;simp only[go_sem];refine ab8 fok114 (ep4 u pp mid a.v tv _ itv a.l _ ⟨6,i,0⟩ hM (λhm=>?_) ?_) ?_
    .rcases zf.1 hm with hm|hm
     .rcases zf.1 hm with hm|hm
      .have⟨_,h4,_⟩:=a.de7 hm;simp only at h4;omega
      .have⟨h4,_⟩:=a.ed1 hm;simp only at h4;omega
     .have⟨_,q',hq',e'⟩:=a.gy8 hm;simp only at e';omega
    .have:=a.im6 hi;omega
    rintro v s ⟨⟨s1,s2⟩,itv2,hM2⟩;refine ⟨s1,?_⟩;simp only[go_sem,w1];refine ⟨hil,om,itv2,?_⟩;rw[hsn,<- ze];exact hM2
  .have d1:¬(i:Int)<((a.p.inst.toNat:Nat):Int):=om;have e:i=a.p.inst.toNat:=om;simp only[go_sem,d1];exact ⟨hn,⟨itv,by rw[<- e];exact hM⟩,_,rfl⟩
 clear hM hc itv2 hn;rintro e f t ⟨rfl,hn,⟨itv2,hM⟩,rst,rfl⟩;simp only[go_sem];have hR:=as4 a hA;have hc:=hM.cell;have r2:a.r.cs[2]? = zd (ax2 a.r.ae8):=rfl;refine ab7 (ac4 ?_);simp only[go_sem,hc,vcs,vlf]
 first|refine aa4 fok75 (hR) ?_|refine aa8 (hR) ?_
 simp only[go_sem,r2];refine aj4 ?_;refine aa9 noT (λj fr s=>fr=[(0,.ptr pp 0),(118,.int .i64 a.r.ae8.length),(119,.int .i64 (j:Int))]/\σ.next<=s.next/\∃itv,MO s pp mid a.v tv allv itv a.l (a.owns a.l.length++a.at7 a.l.length++a.ca6 a.p.inst.toNat++a.gm2 j)) a.r.ae8.length ⟨rfl,hn,itv2,by rw[show a.gm2 0=[] from rfl,zk];exact hM⟩ ?_;clear hM hc itv2 hn;rintro j fr u hj ⟨rfl,hn,itv,hM⟩;have hcu:=hM.cell;have hjb:=hA.ae8;by_cases hjl:j<a.r.ae8.length
 .have d1:(j:Int)<a.r.ae8.length:=om;have w1:=ac6 (i:=j) om;have hg:=bo1 a j hA;have hsn:a.gm2 (j+1)=a.gm2 j++if !a.dropped j then [⟨7,j,0⟩] else []:=bw6 _ _ _
  simp only[go_sem,hcu,d1,vcs,vlf]
  first|refine aa4 fok117 (hg) ?_|refine aa8 (hg) ?_
  cases hgo:a.dropped j with
  | true=>
   rw[hgo] at hsn;simp only[go_sem,w1];refine ⟨hjl,hn,itv,?_⟩
   rw[hsn];simpa using hM
  | false=>
   rw[hgo] at hsn;simp only[go_sem];refine ab8 fok114 (ep4 u pp mid a.v tv _ itv a.l _ ⟨7,j,0⟩ hM (λhm=>?_) ?_) ?_
   .rcases zf.1 hm with hm|hm
    .rcases zf.1 hm with hm|hm
     .rcases zf.1 hm with hm|hm
      .have⟨_,h4,_⟩:=a.de7 hm;simp only at h4;omega
      .have⟨h4,_⟩:=a.ed1 hm;simp only at h4;omega
     .have⟨h4,_⟩:=a.gy8 hm;simp only at h4;omega
    .have⟨_,q',hq',e'⟩:=a.kc8 hm;simp only at e';omega
   .have:=a.jl3 hj;omega
   rintro v s ⟨⟨s1,s2⟩,itv2,hM2⟩;refine ⟨s1,?_⟩;simp only[go_sem,w1];refine ⟨hjl,om,itv2,?_⟩;rw[hsn,<- ze];exact hM2
 .have d1:¬(j:Int)<a.r.ae8.length:=om;have e:j=a.r.ae8.length:=om;simp only[go_sem,d1];exact ⟨hn,itv,by unfold ac2.items;rw[<- e];exact hM⟩
def MO.frz {s:Store}{f mid:Nat}{a:ac2}{e g:IV}(h:MO s f mid a.v (af4 a.l) e g a.l a.items):cc3 s 0 (.ptr f 0) a.mv:=by
 refine .ptr f 0 _ _ (zg _) (.inl h.cell) (zc _) λj m=>?_
 match j,m with
 | 0,_=>exact .keep _ (ai5 a)
 | 1,_=>exact .keep _ (au3 _)
 | 2,_=>
  exact h.all.frz (λx d=>(ar7 _ x d).1) (λ_ _=>zg _) λe k c hc=>by
   obtain ⟨y,_,rfl⟩:=zh.1 k
   exact ag4 y c hc
 | 3,_=>
  exact h.grow.frz (λx d=>(fn2 _ x d).1) (λ_ _=>zg _) λe k c hc=>by
   obtain ⟨y,_,rfl⟩:=zh.1 k
   exact ee2 y c hc
 | 4,_=>
  refine .map mid (bk8 a.items) (bk8 a.items) (bk8 a.items) (zg _) h.map rfl (List.Perm.refl _) (gy3 a.nodup) (λi hi=>?_) λi hi=>?_
  .have:(bk8 a.items).getD i (.undef,.undef)∈bk8 a.items:=ad5 _ hi;have⟨x,_,d⟩:=zh.1 this;rw[<- d];exact .keep _ (ep2 x)
  .have:(bk8 a.items).getD i (.undef,.undef)∈bk8 a.items:=ad5 _ hi;have⟨x,_,d⟩:=zh.1 this;rw[<- d];exact .keep _ (.agg _ λc hc=>by cases hc)
def fg3 (a:ac2)(z:AOK a)(hI:0<=a.p.inst)(V:a.items.length<2^30):Pq 32 [a.v] (.tuple [a.mv,.int .i64 0]):=by
 refine ks1 hE fok32 (nZ rfl) (al3 (ai5 a)) ?_;have y:=aq4 a;have T:=cb5 a.p z.len λx hx=>⟨z.fit x hx,z.tiny x hx⟩
 have hC:=ao8 a.p;have L:a.p.rows.length=a.l.length:=by show _=(ac3 a.p).length;simp[ac3]
 rw[L] at hC;have aa:=z.len
 have M:∀j (h:j<a.l.length),Pq 29 [a.p.v,.int .i64 j] (.tuple [.agg (a.pk j).cs,.int .i64 0]):=λj h=>by
  have hj:j<a.p.rows.length:=om
  have hq:a.p.rows[j].pkg=a.pk j:=by
   have:a.pk j=a.l[j]:=by simp[ac2.pk,zb,h]
   rw[this];simp[ac2.l,ac3]
  have E:=aq3 a.p j hj (by rw[hq];exact z.fit _ (cf9 a h));rw[hq] at E;exact E
 have k:a.v.cs=[a.v]:=rfl;have g:a.v.leaf=true:=rfl;have q:a.p.v.leaf=true:=rfl;have r:a.p.v.cs=[a.p.v]:=rfl;have H:(af4 a.l).leaf=true:=rfl;have I:(af4 a.l).cs=[af4 a.l]:=rfl;have P:∀d:TypeId,ci5 (.pointer d) a.v=zd false:=λ_=>rfl
 have T:Pq 44 [a.p.v] (.tuple [af4 a.l,.int .i64 0]):=T;simp only[ic32,go_sem];refine ab7 (ac4 ?_);simp only[go_sem];refine ab7 (ac4 ?_);simp only[go_sem,P];refine ab7 (ac4 ?_);simp only[go_sem,k,g]
 first|refine aa4 fok34 (y) ?_|refine aa8 (y) ?_
 simp only[go_sem,q,r];refine aa4 fok44 (T) ?_;simp only[go_sem];refine ab7 (ac4 ?_);simp only[go_sem];refine ab7 (ac4 ?_);simp only[go_sem,k,g,H,I];refine ab7 (ab7 (ac4 ?_));simp only[go_sem,k,g]
 first|refine aa4 fok34 (y) ?_|refine aa8 (y) ?_
 simp only[go_sem,q,r];refine aa4 fok28 (hC) ?_;simp only[go_sem]
 refine aj4 (ak9 (Q:=λe f s=>e=.exit 0/\(∃o,MO s 1 0 a.v (af4 a.l) o .aa5 a.l [])/\∃A:Frm,f=(0,a.v)::(6,.ptr 1 0)::A)
  (aa9 noT (λn fr s=>∃c,fr=[(0,a.v),(6,.ptr 1 0),(28,.int .i64 a.l.length),(29,.int .i64 (n:Int))]/\2<=s.next/\s.obj 0=zd (.map [])/\s.obj 1=zd (.cells [a.v,af4 a.l,c,.aa5,.map 0])/\Grow s c 15 ((a.l.take n).map aa1.cs)) a.l.length
   ⟨.aa5,rfl,zc _,rfl,rfl,.inl ⟨rfl,rfl⟩⟩ ?_) ?_)
 .rintro n fr s hn ⟨c,rfl,ac,hm,N,B⟩;by_cases m:n<a.l.length
  .have W:(n:Int)<a.l.length:=om;have w1:=ac6 (i:=n) om;have hp:=M n m;have X:¬1=s.next:=om;have n0:¬0=s.next:=om
   have J:a.l.take (n+1)=a.l.take n++[a.pk n]:=by
    have:a.pk n=a.l[n]:=by simp[ac2.pk,zb,m]
    rw[this,z6,zl m];rfl
   have ae:c.leaf=true:=by rcases B with ⟨rfl,_⟩|⟨id,rfl,_⟩<;>rfl
   have af:c.cs=[c]:=by rcases B with ⟨rfl,_⟩|⟨id,rfl,_⟩<;>rfl
   obtain ⟨S,hS⟩:∃S:Store,S=(({ next:=s.next+1,obj:=s.obj }:Store).put s.next (aj8.cells [.str [],.int .i64 0,.str [],.str [],.int .u8 0,.str [],.aa5,.aa5,.aa5,.aa5,.aa5,.aa5,.aa5,.aa5,.aa5])).put s.next (aj8.cells (a.pk n).cs):=⟨_,rfl⟩;have F:∀i,¬i=s.next->S.obj i=s.obj i:=λi hi=>by rw[hS];simp only[aa3,hi,if_false]
   have u:Grow (⟨s.next+1+11,S.obj⟩:Store) c 15 ((a.l.take n).map aa1.cs):=B.mono (by show s.next<=s.next+1+11;omega) λid _ ad=>F id om
   have D:=ai1 (nid:=s.next+1+7) (e:=(a.pk n).cs) u (ar7 _) ⟨rfl,rfl⟩ (by rw[za,zt];omega);rw[za] at D;have k1:=ae4 u 1 _ (by rw[<- N];exact F 1 X) (λ_ e=>by cases e);have k0:=ae4 u 0 _ (by rw[<- hm];exact F 0 n0) (λ_ e=>by cases e);have kn:(ad4 c (⟨s.next+1+11,S.obj⟩:Store)).next=s.next+1+11:=ac1 c;have Y:¬1=s.next+1+7:=om;have m0:¬0=s.next+1+7:=om;have ag:∀i cs,¬i=s.next->s.obj i=zd (.cells cs)->S.obj i=zd (.cells cs):=λi cs E h2=>by rw[F i E];exact h2
   simp only[go_sem,W,k,g]
   first|refine aa4 fok34 (y) ?_|refine aa8 (y) ?_
   simp only[go_sem,q,r]
   first|refine aa4 fok29 (hp) ?_|refine aa8 (hp) ?_
   simp only[go_sem,ad8,ad9,ac9,X,n0,N,b_o,b_p,b_t];rw[<- hS];generalize ad4 c (⟨s.next+1+11,S.obj⟩:Store)=K at *;simp only[show s.next+1+1+1+1+1+1+1+1=s.next+1+7 from rfl,D,go_sem,Y,m0,k1,k0,w1];refine ⟨m,_,by rw[kn];omega,rfl,?_⟩;rw[J,zi];refine .inr ⟨s.next+1+7,by rw[zj,za];rfl,?_,by rw[kn];omega⟩;simp only[aa3];rw[if_neg (λe=>Y e.symm),if_pos trivial];rfl
  .have W:¬(n:Int)<a.l.length:=om;rw[z9 om] at B;simp only[go_sem,W];exact ⟨⟨c,{ cell:=N,grow:=.inl ⟨rfl,rfl⟩,map:=hm,all:=B,ne:=λ_ _ _ _ h=>(by cases h),lt:=⟨om,om⟩ }⟩,_,rfl⟩
 rintro e f t ⟨rfl,⟨o,hM⟩,A,rfl⟩;simp only[go_sem];refine ab7 (ac4 ?_);simp only[go_sem];refine ab8 fok67 (kk3 a z hI t 1 0 _ _ _ hM V) ?_;rintro v s ⟨s1,ab,U⟩;refine ⟨s1,?_⟩;simp only[go_sem];refine ac4 ?_;simp only[go_sem];exact .bo4 (.cons U.frz (.cons (bf8 rfl) .nil))
def ft1 (l:List Int)(hl:l.length<2^30)(hr:∀x∈l,-(2^40)<=x/\x<=2^40):Pq 69 [.aa2 (l.map Md.ad1)] (.aa2 ((noL l).map Md.ad1)):=gu6 λσ=>js7 l hl hr σ
def eh3 (l:List Int)(hl:l.length<2^30)(hr:∀x∈l,-(2^40)<=x/\x<=2^40):Pq 73 [.aa2 (l.map Md.ad1)] (.aa2 ((upL l).map Md.ad1)):=gu6 λσ=>kv8 l hl hr σ
def ia6 (x:Itm):x.cs=[.int .u8 x.kind,.int .i64 x.p,.int .i64 x.q]:=rfl
def kk4 (a:Nat)(σ:Store)(x:Itm)(hp:0<=x.p/\x.p<1000):Cq 36 [.ptr a 0,.agg x.cs] σ (λv s=>v=.tuple [cv2 [noL [x.p]],.int .i64 0]/\Kept σ s):=by
 refine C_f fok36 (nZ rfl) ?_;have d:=ft1 [x.p] sm (λy c=>by rw[zv] at c;omega);rw[ia6];simp only[ic36,go_sem];refine aa4 fok69 (d) ?_;simp only[go_sem];exact ⟨rfl,Kept.refl σ⟩
def kk5 (c:Nat)(σ:Store)(x:Itm)(hp:0<=x.p/\x.p<1000)(e:0<=x.q/\x.q<1000):Cq 40 [.ptr c 0,.agg x.cs] σ (λv s=>v=.tuple [cv2 [noL [x.p,x.q]],.int .i64 0]/\Kept σ s):=by
 refine C_f fok40 (nZ rfl) ?_
 have d:=ft1 [x.p,x.q] sm (λy a=>by
  simp only[zx,zr,or_false] at a;rcases a with rfl|rfl<;>omega)
 rw[ia6];simp only[ic40,go_sem];refine aa4 fok69 (d) ?_;simp only[go_sem];exact ⟨rfl,Kept.refl σ⟩
def ci4 {a:ac2}(d:AOK a){l:List Int}(h:∀n∈l,a.is n=true):∀x∈l,-(2^40)<=x/\x<=2^40:=λx c=>by
 have:=h x c;unfold ac2.is at this;simp only[z2,decide_eq_true_eq] at this;have:=d.len;omega
def bf1 (a:ac2)(i:Int):(a.an3 i).length<=a.l.length:=by
 unfold ac2.an3;split
 .exact ai3 _ _
 .exact Nat.zero_le _
def kk6 (a:ac2)(e:AOK a)(f:Nat)(o n m k:IV)(σ:Store)(x:Itm)(h:σ.obj f=zd (.cells [a.v,o,n,m,k])):Cq 41 [.ptr f 0,.agg x.cs] σ (λv s=>v=.tuple [cv2 [upL (a.an3 x.p)],.int .i64 0]/\Kept σ s):=by
 refine C_f fok41 (nZ rfl) ?_;have i:=di7 a x.p e;have j:=eh3 (a.an3 x.p) (by have:=bf1 a x.p;have:=e.len;omega) (ci4 e ac2.bk9);have d:a.v.cs=[a.v]:=rfl;have c:a.v.leaf=true:=rfl;rw[ia6];generalize a.v=AV at *;generalize g:a.an3 x.p=ss at *;simp only[ic41,go_sem,h,d,c];refine aa4 fok74 (i) ?_;simp only[go_sem];refine aa4 fok73 (j) ?_;simp only[go_sem];exact ⟨rfl,z4 _ _,λ_ _=>rfl⟩
def ix4 (l:List Int)(n b:Int):de9 (l++[n]) b=de9 l b++if n=b then [] else [n]:=by
 unfold de9;rw[List.filter_append];congr 1;by_cases h:n=b<;>simp[h]
def da4 (a:ac2)(g:AOK a):∀j (h:j<a.l.length),Pq 29 [a.p.v,.int .i64 j] (.tuple [.agg (a.pk j).cs,.int .i64 0]):=λj h=>by
 have e:a.p.rows.length=a.l.length:=by show _=(ac3 a.p).length;simp[ac3]
 have f:j<a.p.rows.length:=om
 have c:a.p.rows[j].pkg=a.pk j:=by
  have:a.pk j=a.l[j]:=by simp[ac2.pk,zb,h]
  rw[this];simp[ac2.l,ac3]
 have d:=aq3 a.p j f (by rw[c];exact g.fit _ (cf9 a h));rw[c] at d;exact d
def kk7 (a:ac2)(E:AOK a)(r:Nat)(c1 c2 c3 c4:IV)(σ:Store)(p q:Nat)(hp:p<a.l.length)(hq:q<(a.pk p).ab2.length)(ho:σ.obj r=zd (.cells [a.v,c1,c2,c3,c4]))(M:r<σ.next) :
  Cq 39 [.ptr r 0,.agg (⟨4,p,q⟩:Itm).cs] σ (λv s=>∃c,v=.tuple [c,.int .i64 0]/\Kept σ s/\Grow s c 1 (((de9 (ap8 a.l (a.dk8 ⟨4,p,q⟩)) p).map λn=>noL [(p:Int),n]).map clE)/\∀i k,c=.slice i 0 k 1->σ.next<=i):=by
 refine C_f fok39 (nZ rfl) ?_;have hP:=aq4 a;have hK:=da4 a E p hp;have hI:=fc5 a;have L:=E.small _ (cf9 a hp);have U:a.dk8 ⟨4,p,q⟩∈(a.pk p).ab2:=getD_in _ hq;have T:Dep.small (a.dk8 ⟨4,p,q⟩):=L.2.2.1 _ U;have aa:=E.len;have hN:=cb4 a.l (a.dk8 ⟨4,p,q⟩) om E.small T;have g9:((a.pk p).cs.drop 9).head? = zd (deps (a.pk p).ab2):=rfl;have y:=ke7 (a.pk p).ab2 hq;have V:(a.pk p).ab2.getD q default=a.dk8 ⟨4,p,q⟩:=rfl;rw[V] at y;have ac:(ap8 a.l (a.dk8 ⟨4,p,q⟩)).length<=a.l.length:=ai6 _ _
 have N:∀n∈ap8 a.l (a.dk8 ⟨4,p,q⟩),0<=n/\n<a.l.length:=λn P=>by
  obtain ⟨m,rfl,h,_⟩:=av9.1 P;omega
 have o:a.v.cs=[a.v]:=rfl;have j:a.v.leaf=true:=rfl;have t:a.p.v.leaf=true:=rfl;have u:a.p.v.cs=[a.p.v]:=rfl;have H:(ad7 a.l).v.leaf=true:=rfl;have I:(ad7 a.l).v.cs=[(ad7 a.l).v]:=rfl;have J:(⟨4,p,q⟩:Itm).cs=[.int .u8 4,.int .i64 p,.int .i64 q]:=rfl;have e1:(0:Int)<=(q:Int):=om;have e2:(q:Int)<(a.pk p).ab2.length:=om;have ab:∀k,¬r=σ.next+k:=λk=>by omega
 rw[J];generalize a.v=AV at *;generalize a.p.v=PV at *;generalize (ad7 a.l).v=XV at *;generalize a.dk8 ⟨4,p,q⟩=D at *;generalize ap8 a.l D=nm at *;simp only[ic39,go_sem,ho,o,j,t,u]
 first|refine aa4 fok34 (hP) ?_|refine aa8 (hP) ?_
 simp only[go_sem,t,u]
 first|refine aa4 fok29 (hK) ?_|refine aa8 (hK) ?_
 simp only[go_sem,ad8,ad9,ac9];have x:∀i,i<σ.next->¬i=σ.next+1+1+1+1+1+1+1+1+1+1+1:=λi hi=>by omega
 simp only[x r M,if_false,ho,go_sem,o,j];refine aa8 (hI) ?_;simp only[go_sem,g9,y,e1,e2,zq,aq8,an2,am8,H,I]
 first|refine aa4 fok72 (hN) ?_|refine aa8 (hN) ?_
 simp only[go_sem]
 refine aa9 noT (λi fr s=>∃c,fr=[(3,.ab5 [.int .u8 4,.int .i64 p,.int .i64 q]),(8,c),(36,.aa2 (nm.map Md.ad1)),(37,.int .i64 nm.length),(38,.int .i64 (i:Int))]/\Kept σ s/\Grow s c 1 (((de9 (nm.take i) p).map λn=>noL [(p:Int),n]).map clE)/\∀i k,c=.slice i 0 k 1->σ.next<=i) nm.length
  ⟨.aa5,rfl,⟨by show σ.next<=σ.next+_+_;omega,λi hi=>?_⟩,.inl ⟨rfl,rfl⟩,λ_ _ e=>by cases e⟩ ?_
 .simp only[aa3,x i hi,if_false]
 rintro i fr s ae ⟨c,rfl,Q,B,g⟩;by_cases f:i<nm.length
 .have⟨n,P,_,af,d,K⟩:=ad3 nm i f;have F:(i:Int)<nm.length:=om;have d2:(0:Int)<=i:=om;have w1:=ac6 (i:=i) om;have ad:=N n P;have A:=ix4 (nm.take i) n p;rw[<- K] at A;have X:=fb6 (nm.take i) p;rw[zt] at X;by_cases e:n=p
  .rw[if_pos e,zk] at A;simp only[go_sem,F,d2,d,Md.ad1,e,w1];exact ⟨f,c,rfl,Q,by rw[A];exact B,g⟩
  .rw[if_neg e] at A
   have Y:=ft1 [(p:Int),n] sm (λy hy=>by
    simp only[zx,zr,or_false] at hy;rcases hy with rfl|rfl<;>omega)
   have⟨g1,g2,g3,g4⟩:=ha6 (nid:=s.next) (k:=1) (e:=clE (noL [(p:Int),n])) Q B g (eo3 _) ⟨rfl,rfl⟩ (by rw[za,za];omega) (zc _) (z3 _);have W:clE (noL [(p:Int),n])=[.aa2 ((noL [(p:Int),n]).map Md.ad1)]:=rfl;have z:((de9 (nm.take (i+1)) p).map λn=>noL [(p:Int),n]).map clE=((de9 (nm.take i) p).map λn=>noL [(p:Int),n]).map clE++[clE (noL [(p:Int),n])]:=by rw[A,zi,zi];rfl
   generalize ((de9 (nm.take i) p).map λn=>noL [(p:Int),n]).map clE=es at *;rw[W] at g1 g2 g3 z;generalize (noL [(p:Int),n]).map Md.ad1=nv at *;simp only[go_sem,F,d2,d,Md.ad1,e];refine aa4 fok69 (Y) ?_;simp only[go_sem,g1,w1];exact ⟨f,_,rfl,g2,by rw[z];exact g3,g4⟩
 .have S:i=nm.length:=om;subst S;have F:¬(nm.length:Int)<nm.length:=om;rw[z1] at B;simp only[go_sem,F];exact ⟨c,rfl,Q,B,g⟩
end Go.Id.Tryz
namespace Go.Id.Md.ac2
open Go Go.Id Go.Id.Md
def ix5 (a:ac2)(k:Int)(n:Int):List (List Int):=if k=3 then [upL (a.an3 n)] else if k=4 then (if 0<(a.du9 n).length then [upL (a.du9 n)] else []) else [noL [n]]
def gl6 (a:ac2)(j:Int)(h:(a.jb j).kind≠1):a.eo2 j=(a.meant j).flatMap (a.ix5 (a.jb j).kind):=by
 have c:∀(f:Int->List Int) (l:List Int),l.flatMap (λn=>[f n])=l.map f:=λf l=>by
  induction l with
  | nil=>rfl
  | cons n l ih=>rw[zz,ih];rfl
 have e:∀(q:Int->Bool) (f:Int->List Int) (l:List Int),l.flatMap (λn=>if q n=true then [f n] else [])=(l.filter q).map f:=λq f l=>by
  induction l with
  | nil=>rfl
  | cons n l ih=>
   rw[zz,ih,List.filter_cons];cases q n<;>rfl
 unfold eo2;rw[if_neg h];by_cases d:(a.jb j).kind=3
 .rw[if_pos d,<- c];congr 1;funext n;unfold ix5;rw[if_pos d]
 rw[if_neg d];by_cases g:(a.jb j).kind=4
 .rw[if_pos g,<- e];congr 1;funext n;unfold ix5;rw[if_neg d,if_pos g];simp only[decide_eq_true_eq]
 .rw[if_neg g,<- c];congr 1;funext n;unfold ix5;rw[if_neg d,if_neg g]
def ix6 (a:ac2)(k:Int)(l:List Int):(l.flatMap (a.ix5 k)).length<=l.length:=by
 induction l with
 | nil=>exact zc _
 | cons n l ih=>
  rw[zz,zj,zn]
  have:(a.ix5 k n).length<=1:=by
   unfold ix5;split
   .exact zc _
   .split
    .split<;>simp
    .exact zc _
  omega
end Go.Id.Md.ac2
namespace Go.Id.Tryz
open Go Go.Id Go.Proofs Go.Shelf Go.Id.Md
def fk8 (a:ac2)(j:Int):(a.du9 j).length<=a.l.length:=qa (List.length_filter_le _ _) (bf1 a j)
def kk8 (a:ac2)(f:AOK a)(i:Nat)(B A z y:IV)(σ:Store)(j:Nat)(u:j<a.r.ae8.length)(e:(a.jb j).kind=1)(k:σ.obj i=zd (.cells [a.v,B,A,z,y])) :
  Cq 42 [.ptr i 0,.agg (⟨7,j,0⟩:Itm).cs] σ (λv s=>v=.tuple [cv2 [upL (a.meant j)],.int .i64 0]/\Kept σ s):=by
 refine C_f fok42 (nZ rfl) ?_;have n:=as4 a f;have o:=bo2 a j f;have m:=f.len;have t:=bf6 a j;have x:=eh3 (a.meant j) om (ci4 f ac2.cf5);have p:a.r.cs[2]? = zd (ax2 a.r.ae8):=rfl;have h:(a.r.ae8.map Job.cs).getD j []=(a.jb j).cs:=by simp[ac2.jb,zb,u]
 have q:(a.jb j).cs.head? = zd (.int .u8 (a.jb j).kind):=rfl;have d:a.v.cs=[a.v]:=rfl;have c:a.v.leaf=true:=rfl;have g:(⟨7,j,0⟩:Itm).cs=[.int .u8 7,.int .i64 j,.int .i64 0]:=rfl;have e1:(0:Int)<=(j:Int):=om;have e2:(j:Int)<a.r.ae8.length:=om;rw[g];generalize a.v=AV at *;generalize a.meant j=mt at *;generalize a.jb j=J at *;generalize a.r=R at *;simp only[ic42,go_sem,k,d,c]
 first|refine aa4 fok75 (n) ?_|refine aa8 (n) ?_
 simp only[go_sem,p,ax2,e1,e2,zq,h,ax9,q,e,k,d,c]
 first|refine aa4 fok76 (o) ?_|refine aa8 (o) ?_
 simp only[go_sem,e];refine aa4 fok73 (x) ?_;simp only[go_sem];exact ⟨rfl,z4 _ _,λ_ _=>rfl⟩
def kv9 (a:ac2)(x:AOK a)(L:Nat)(c1 c2 c3 c4:IV)(σ:Store)(j:Nat)(hj:j<a.r.ae8.length)(E:(a.jb j).kind≠1)(ho:σ.obj L=zd (.cells [a.v,c1,c2,c3,c4]))(ab:L<σ.next) :
  Cq 42 [.ptr L 0,.agg (⟨7,j,0⟩:Itm).cs] σ (λv s=>∃p,v=.tuple [p,.int .i64 0]/\Kept σ s/\Grow s p 1 ((a.eo2 j).map clE)/\∀i k,p=.slice i 0 k 1->σ.next<=i):=by
 refine C_f fok42 (nZ rfl) ?_;have hR:=as4 a x;have hM:=bo2 a j x;have ad:=x.len;have ai:=bf6 a j;have hS:=λn=>di7 a n x
 have K:=λn=>eh3 (a.an3 n) (by have:=bf1 a n;omega) (ci4 x ac2.bk9)
 have W:=λn=>gl2 a n x
 have t:=λn=>eh3 (a.du9 n) (by have:=fk8 a n;omega) (ci4 x λm hm=>ac2.bk9 m (a.fk7 hm).1)
 have ac:∀n∈a.meant j,-(2^40)<=n/\n<=2^40:=ci4 x ac2.cf5;have r2:a.r.cs[2]? = zd (ax2 a.r.ae8):=rfl;have ae:(a.r.ae8.map Job.cs).getD j []=(a.jb j).cs:=by simp[ac2.jb,zb,hj]
 have k0:(a.jb j).cs.head? = zd (.int .u8 (a.jb j).kind):=rfl;have h:a.v.cs=[a.v]:=rfl;have g:a.v.leaf=true:=rfl;have Y:(⟨7,j,0⟩:Itm).cs=[.int .u8 7,.int .i64 j,.int .i64 0]:=rfl;have e1:(0:Int)<=(j:Int):=om;have e2:(j:Int)<a.r.ae8.length:=om;rw[a.gl6 j E,Y];have ag:=a.ix6 (a.jb j).kind;have hF:∀n,a.ix5 (a.jb j).kind n=if (a.jb j).kind=3 then [upL (a.an3 n)] else if (a.jb j).kind=4 then (if 0<(a.du9 n).length then [upL (a.du9 n)] else []) else [noL [n]]:=λn=>rfl
 generalize a.ix5 (a.jb j).kind=F at *;generalize a.v=AV at *;generalize a.meant j=mt at *;generalize a.jb j=J at *;generalize am:a.r=R at *;simp only[ic42,go_sem,ho,h,g]
 first|refine aa4 fok75 (hR) ?_|refine aa8 (hR) ?_
 simp only[go_sem,r2,ax2,e1,e2,zq,ae,ax9,k0,E,ho,h,g]
 first|refine aa4 fok76 (hM) ?_|refine aa8 (hM) ?_
 simp only[go_sem,E]
 refine aa9 noT (λi fr s=>∃p,fr=[(0,.ptr L 0),(6,.int .u8 J.kind),(8,p),(35,.aa2 (mt.map Md.ad1)),(36,.int .i64 mt.length),(37,.int .i64 (i:Int))]/\Kept σ s/\Grow s p 1 (((mt.take i).flatMap F).map clE)/\∀i k,p=.slice i 0 k 1->σ.next<=i) mt.length
  ⟨.aa5,rfl,⟨z4 _ _,λ_ _=>rfl⟩,.inl ⟨rfl,rfl⟩,λ_ _ e=>by cases e⟩ ?_
 rintro i fr s aj ⟨p,rfl,U,V,H⟩;by_cases o:i<mt.length
 .have⟨n,hn,_,ak,f,aa⟩:=ad3 mt i o;have N:(i:Int)<mt.length:=om;have X:(0:Int)<=i:=om;have T:=ac6 (i:=i) om;have ah:=ac n hn;have D:s.obj L=zd (.cells [AV,c1,c2,c3,c4]):=(U.obj L ab).trans ho;have d:(mt.take (i+1)).flatMap F=(mt.take i).flatMap F++F n:=by rw[aa,List.flatMap_append];simp
  have al:((mt.take i).flatMap F).length<=i:=qa (ag _) (by rw[zt];omega);have u:=ft1 [n] sm (λy hy=>by rw[zv] at hy;omega);rw[hF] at d;have I:∀q,clE q=[.aa2 (q.map Md.ad1)]:=λ_=>rfl
  have push:=λq:List Int=>ha6 (nid:=s.next) (k:=1) (e:=clE q) U V H (eo3 _) ⟨rfl,rfl⟩ (by rw[za];omega) (zc _) (z3 _)
  have c:∀q,(mt.take (i+1)).flatMap F=(mt.take i).flatMap F++[q]->((mt.take (i+1)).flatMap F).map clE=((mt.take i).flatMap F).map clE++[clE q]:=λq e=>by rw[e,zi];rfl
  by_cases M:J.kind=3
  .rw[if_pos M] at d;have⟨A,z,y,S⟩:=push (upL (a.an3 n));have c:=c _ d;have hS:=hS n;have K:=K n;rw[I] at A z y c;generalize ((mt.take i).flatMap F).map clE=es at *;generalize a.an3 n=ss at *;generalize (upL ss).map Md.ad1=nv at *;simp only[go_sem,N,X,f,Md.ad1];refine aa4 fok69 (u) ?_;simp only[go_sem,M,D,h,g];refine aa4 fok74 (hS) ?_;simp only[go_sem];refine aa4 fok73 (K) ?_;simp only[go_sem,A,T];exact ⟨o,_,rfl,z,by rw[c];exact y,S⟩
  rw[if_neg M] at d;by_cases Q:J.kind=4
  .rw[if_pos Q] at d;have P:¬(4:Int)=3:=by decide
   have W:=W n;have t:=t n;by_cases hz:0<(a.du9 n).length
   .rw[if_pos hz] at d;have⟨A,z,y,S⟩:=push (upL (a.du9 n));have c:=c _ d;rw[I] at A z y c;have B:¬(((upL (a.du9 n)).length:Nat):Int)=0:=by unfold upL;rw[za];omega
    generalize ((mt.take i).flatMap F).map clE=es at *;generalize a.du9 n=ss at *;simp only[go_sem,N,X,f,Md.ad1];refine aa4 fok69 (u) ?_;simp only[go_sem,M,Q,P,D,h,g];refine aa4 fok77 (W) ?_;simp only[go_sem];refine aa4 fok73 (t) ?_;simp only[go_sem,B,A,T];exact ⟨o,_,rfl,z,by rw[c];exact y,S⟩
   .rw[if_neg hz,zk] at d;have B:(((upL (a.du9 n)).length:Nat):Int)=0:=by unfold upL;rw[za];omega
    generalize a.du9 n=ss at *;simp only[go_sem,N,X,f,Md.ad1];refine aa4 fok69 (u) ?_;simp only[go_sem,M,Q,P,D,h,g];refine aa4 fok77 (W) ?_;simp only[go_sem];refine aa4 fok73 (t) ?_;simp only[go_sem,B,T];exact ⟨o,p,rfl,U,by rw[d];exact V,H⟩
  .rw[if_neg Q] at d;have⟨A,z,y,S⟩:=push (noL [n]);have c:=c _ d;rw[I] at A z y c;generalize ((mt.take i).flatMap F).map clE=es at *;generalize (noL [n]).map Md.ad1=nv at *;simp only[go_sem,N,X,f,Md.ad1];refine aa4 fok69 (u) ?_;simp only[go_sem,M,Q,A,T];exact ⟨o,_,rfl,z,by rw[c];exact y,S⟩
 .have af:i=mt.length:=om;subst af;have N:¬(mt.length:Int)<mt.length:=om;rw[z1] at V;simp only[go_sem,N];exact ⟨p,rfl,U,V,H⟩
def je1 {σ u s:Store}{g mid:Nat}{p c f a e:IV}{P:List aa1}{t:ag9}{zs:List Int}(j:bc3 σ u g mid f a)(o:ar1 u g mid p c a P t)(q:Kept ⟨u.next+1,u.obj⟩ s)(h:ah7 s (u.next+1) e zs)(B:zs.length<1000)(n:Int) :
  bb4 s u.next 1 e (.aa2 [[.int .i64 n]])=zd (.slice u.next 0 (zs.length+1) 1,(ad4 e s).put u.next (.row ((zs++[n]).map bg1)))/\bc3 σ ((ad4 e s).put u.next (.row ((zs++[n]).map bg1))) g mid f a/\ar1 ((ad4 e s).put u.next (.row ((zs++[n]).map bg1))) g mid p c a P t /\
   ah7 ((ad4 e s).put u.next (.row ((zs++[n]).map bg1))) σ.next (.slice u.next 0 (zs.length+1) 1) (zs++[n])/\(∀i k l,a=.slice i 0 k 1->IV.slice u.next 0 (zs.length+1) 1≠.slice i 0 l 1)/\(∀i k l,c=.slice i 0 k 15->IV.slice u.next 0 (zs.length+1) 1≠.slice i 0 l 1):=by
 have d:=q.low;have D:u.next+1<=s.next:=q.next;have m:=o.mono d.next d.obj;have hl:=tab_late (o.up 1) (h.w:cb9 s (⟨u.next+1,u.obj⟩:Store).next e zs);have hf:=o.free (i:=u.next) (zc _);have⟨A,z,y,x,r⟩:=tab_row2 (nid:=u.next) m (h.low (z7 _)) hl.1 hl.2 n (zc _) om hf rfl;exact ⟨az4 h n om,z σ f (j.trans (as5 d _ _ _)) j.next,A,y.low j.next,x,r⟩
def kk9 (a:ac2)(S:AOK a)(Y:a.bo6)(D:Nat)(c1 c3 c4:IV)(σ:Store)(p q:Nat)(hp:p<a.l.length)(T:q<(a.pk p).requires.length)(e:af3 (a.cf4 ⟨2,p,q⟩) 1=0)(j mid:Nat)(c d:IV)(t:ag9)
  (U:σ.obj D=zd (.cells [a.v,c1,.ptr j 0,c3,c4])) (J:D<σ.next) (hM:ar1 σ j mid (ad7 a.l).v c d a.l t) (x:t.OK a.l.length) (L:t.few) (hh:t.h+24<=2^20) :
  Cq 37 [.ptr D 0,.agg (⟨2,p,q⟩:Itm).cs] σ (jv2 σ j mid (ad7 a.l).v c d a.l (a.ao4 ⟨2,p,q⟩ t)):=by
 have K:a.ao4 ⟨2,p,q⟩ t=([noL [(p:Int)]++[((a.cf4 ⟨2,p,q⟩).bn2 a.l (-1) t).1]],((a.cf4 ⟨2,p,q⟩).bn2 a.l (-1) t).2):=rfl;rw[K];refine ja8 (C_f fok37 (nZ rfl) ?_);have hf:=(S.fit _ (cf9 a hp)).rich (1,(a.pk p).requires) (by simp[aa1.rows]);have⟨f1,f2⟩:=hf.2 _ (getD_in _ T);have e2:=he9 (a.pk p).requires T;have M:(a.pk p).requires.getD q default=a.cf4 ⟨2,p,q⟩:=rfl;rw[M] at e2 f1 f2;have⟨m1,_,m3⟩:=bh2 e (.inl rfl);have r:=(bn4 a.l (-1) (a.cf4 ⟨2,p,q⟩) (.inl m1) t x);have hL:=λσ' h=>hq6 a.l Y.len S.small (-1) (a.cf4 ⟨2,p,q⟩) e f1 σ' j mid c d t h x L om
 have X:=aq4 a;have hK:=da4 a S p hp;have e3:((a.pk p).cs.drop 7).head? = zd (ao3 (a.pk p).requires):=rfl;have V:=Y.len;have P:=λσ=>js7 [(p:Int)] sm (λy hy=>by rw[zv] at hy;omega) σ
 have F:a.v.cs=[a.v]:=rfl;have E:a.v.leaf=true:=rfl;have k:a.p.v.leaf=true:=rfl;have n:a.p.v.cs=[a.p.v]:=rfl;have I:(⟨2,p,q⟩:Itm).cs=[.int .u8 2,.int .i64 p,.int .i64 q]:=rfl;have d3:(0:Int)<=(q:Int):=om;have d4:(q:Int)<(a.pk p).requires.length:=om;have o:∀i,i<σ.next->¬i=σ.next+1+1+1+1+1+1+1+1+1+1+1:=λi hi=>by omega
 rw[I];generalize a.v=AV at *;generalize a.p.v=PV at *;generalize ac:a.cf4 ⟨2,p,q⟩=R at *;generalize hw:R.bn2 a.l (-1) t=w at *;have aa:=r.ok.2;have ab:=r.le.2;simp only[ic37,go_sem,U,F,E,k,n]
 first|refine aa4 fok34 (X) ?_|refine aa8 (X) ?_
 simp only[go_sem,k,n]
 first|refine aa4 fok29 (hK) ?_|refine aa8 (hK) ?_
 simp only[go_sem,ad8,ad9,ac9];simp only[o D J,if_false,U,go_sem,e2,e3,d3,d4,zq,ac5,ab9,ab3];have f:∀(m H:Nat) (A B:aj8),Kept σ ⟨σ.next+m+H,(((⟨σ.next+m,σ.obj⟩:Store).put (σ.next+1+1+1+1+1+1+1+1+1+1+1) A).put (σ.next+1+1+1+1+1+1+1+1+1+1+1) B).obj⟩:=λm H A B=>⟨by show σ.next<=σ.next+m+H;omega,λi hi=>by simp only[aa3,o i hi,if_false]⟩
 refine ab8 fok70 (hL _ (hM.mono (f _ _ _ _).next (f _ _ _ _).obj)) ?_;rintro v u ⟨w',rfl,y⟩;have N:=y.from (as5 (f _ _ _ _) j mid d);refine ⟨by have⟨_,_,g,_⟩:=y;exact g.next,?_⟩;obtain ⟨rfl,z,hT,Q⟩:=N;simp only[go_sem];refine ab8 fok69 (P _) ?_;rintro gv s ⟨W,hg⟩;refine ⟨W.next,?_⟩;have⟨g1,g2,g3,g4,g5,g6⟩:=je1 hT Q W hg (by simp[noL]) w.1;simp only[go_sem,g1];exact ⟨_,z,rfl,g2,g3,g4,g5,g6⟩
def jt1 (a:ac2)(T:AOK a)(hO:a.bo6)(E:Nat)(c1 c3 c4:IV)(σ:Store)(p q:Nat)(hp:p<a.l.length)(U:q<(a.pk p).conflicts.length)(e:af3 (a.bg9 ⟨3,p,q⟩) 1=0)(j mid:Nat)(c d:IV)(t:ag9)
  (V:σ.obj E=zd (.cells [a.v,c1,.ptr j 0,c3,c4])) (K:E<σ.next) (hM:ar1 σ j mid (ad7 a.l).v c d a.l t) (y:t.OK a.l.length) (M:t.few) (hh:t.h+24<=2^20) :
  Cq 38 [.ptr E 0,.agg (⟨3,p,q⟩:Itm).cs] σ (jv2 σ j mid (ad7 a.l).v c d a.l (a.ao4 ⟨3,p,q⟩ t)):=by
 have L:a.ao4 ⟨3,p,q⟩ t=([noL [(p:Int)]++[-((a.bg9 ⟨3,p,q⟩).bn2 a.l p t).1]],((a.bg9 ⟨3,p,q⟩).bn2 a.l p t).2):=rfl;rw[L];refine ja8 (C_f fok38 (nZ rfl) ?_);have hf:=(T.fit _ (cf9 a hp)).rich (2,(a.pk p).conflicts) (by simp[aa1.rows]);have⟨f1,f2⟩:=hf.2 _ (getD_in _ U);have e2:=he9 (a.pk p).conflicts U;have N:(a.pk p).conflicts.getD q default=a.bg9 ⟨3,p,q⟩:=rfl;rw[N] at e2 f1 f2;have⟨m1,_,m3⟩:=bh2 e (.inl rfl);have x:=(bn4 a.l p (a.bg9 ⟨3,p,q⟩) (.inl m1) t y);have hL:=λσ' h=>hq6 a.l hO.len T.small p (a.bg9 ⟨3,p,q⟩) e f1 σ' j mid c d t h y M om
 have Y:=aq4 a;have hK:=da4 a T p hp;have e3:((a.pk p).cs.drop 8).head? = zd (ao3 (a.pk p).conflicts):=rfl;have W:=hO.len;have Q:=λσ=>js7 [(p:Int)] sm (λy hy=>by rw[zv] at hy;omega) σ
 have H:a.v.cs=[a.v]:=rfl;have F:a.v.leaf=true:=rfl;have k:a.p.v.leaf=true:=rfl;have n:a.p.v.cs=[a.p.v]:=rfl;have J:(⟨3,p,q⟩:Itm).cs=[.int .u8 3,.int .i64 p,.int .i64 q]:=rfl;have d3:(0:Int)<=(q:Int):=om;have d4:(q:Int)<(a.pk p).conflicts.length:=om;have o:∀i,i<σ.next->¬i=σ.next+1+1+1+1+1+1+1+1+1+1+1:=λi hi=>by omega
 rw[J];generalize a.v=AV at *;generalize a.p.v=PV at *;generalize ab:a.bg9 ⟨3,p,q⟩=R at *;generalize hw:R.bn2 a.l p t=w at *;have r:=x.ok.2;have aa:=x.le.2;simp only[ic38,go_sem,V,H,F,k,n]
 first|refine aa4 fok34 (Y) ?_|refine aa8 (Y) ?_
 simp only[go_sem,k,n]
 first|refine aa4 fok29 (hK) ?_|refine aa8 (hK) ?_
 simp only[go_sem,ad8,ad9,ac9];simp only[o E K,if_false,V,go_sem,e2,e3,d3,d4,zq,ac5,ab9,ab3];have f:∀(m I:Nat) (A B:aj8),Kept σ ⟨σ.next+m+I,(((⟨σ.next+m,σ.obj⟩:Store).put (σ.next+1+1+1+1+1+1+1+1+1+1+1) A).put (σ.next+1+1+1+1+1+1+1+1+1+1+1) B).obj⟩:=λm I A B=>⟨by show σ.next<=σ.next+m+I;omega,λi hi=>by simp only[aa3,o i hi,if_false]⟩
 refine ab8 fok70 (hL _ (hM.mono (f _ _ _ _).next (f _ _ _ _).obj)) ?_;rintro v u ⟨w',rfl,z⟩;have P:=z.from (as5 (f _ _ _ _) j mid d);refine ⟨by have⟨_,_,g,_⟩:=z;exact g.next,?_⟩;obtain ⟨rfl,D,hT,S⟩:=P;simp only[go_sem];refine ab8 fok69 (Q _) ?_;rintro gv s ⟨X,hg⟩;refine ⟨X.next,?_⟩;have wn:IntKind.wrap .i64 (0-w.1)=-w.1:=by have:=r.2.1;have:=r.2.2;rw[wrap64 om om];omega
 have⟨g1,g2,g3,g4,g5,g6⟩:=je1 hT S X hg (by simp[noL]) (-w.1);simp only[go_sem,wn,g1];exact ⟨_,D,rfl,g2,g3,g4,g5,g6⟩
def ct8 (k:Int):Nat:=if k=1 then 36 else if k=2 then 37 else if k=3 then 38 else if k=4 then 39 else if k=5 then 40 else if k=6 then 41 else 42
def dl9 (rp:Nat):List (IV×IV):=[(.int .u8 1,.func (.func (ct8 1)) [.ptr rp 0] []),(.int .u8 2,.func (.func (ct8 2)) [.ptr rp 0] []),(.int .u8 3,.func (.func (ct8 3)) [.ptr rp 0] []),(.int .u8 4,.func (.func (ct8 4)) [.ptr rp 0] []),(.int .u8 5,.func (.func (ct8 5)) [.ptr rp 0] []),(.int .u8 6,.func (.func (ct8 6)) [.ptr rp 0] []),(.int .u8 7,.func (.func (ct8 7)) [.ptr rp 0] [])]
def jt2 (k:Int):okF Tryz.prog (ct8 k)=true:=by
 unfold ct8;split;· exact fok36.1
 split;· exact fok37.1
 split;· exact fok38.1
 split;· exact fok39.1
 split;· exact fok40.1
 split;· exact fok41.1
 exact fok42.1
def ia7 {s:Store}{d c:Nat}(h:s.obj d=zd (.map (dl9 c))){a:ac2}{x:Itm}(e:a.Has x):cj3 s 1 .ai8 false (.map d) (.int .u8 x.kind)=zd (.func (.func (ct8 x.kind)) [.ptr c 0] []):=by
 simp only[cj3,cc7,h];cases e<;>rfl
def cb7 {P:Program}{E:Nat->IV}{o:Option Store}{S:Store}{K:IV->Store->Prop}(h:o=zd S)(a:K .undef S):ju2 o K:=by rw[h];exact a
def bo3 (B:Store)(a c n:Nat)(h:n<7):ap3 (B.put a (.map ((dl9 c).take n))) 1 (.map a) (.int .u8 ((n+1:Nat):Int)) (.func (.func (ct8 ((n+1:Nat):Int))) [.ptr c 0] [])=zd (B.put a (.map ((dl9 c).take (n+1)))):=by
 have e1:∀L,(B.put a (.map L)).obj a=zd (.map L):=λL=>if_pos rfl
 have e2:∀x y:aj8,(B.put a x).put a y=B.put a y:=λx y=>by
  unfold Store.put;congr 1;funext i;by_cases hi:i=a<;>simp[hi]
 simp only[ap3,e1];have:n=0\/n=1\/n=2\/n=3\/n=4\/n=5\/n=6:=om;rcases this with rfl|rfl|rfl|rfl|rfl|rfl|rfl<;>exact congrArg zd (e2 _ _)
def kl1 (a:ac2)(o:AOK a)(z:a.bo6)(k:∀p∈a.l,ae9 p=true){x:Itm}(H:a.Has x)(d:Nat)(D B A:IV)(σ:Store)(r mid:Nat)(c g:IV)(t:ag9)
  (n:σ.obj d=zd (.cells [a.v,D,.ptr r 0,B,A])) (f:d<σ.next) (m:ar1 σ r mid (ad7 a.l).v c g a.l t) (s:t.OK a.l.length) (u:t.few) (F:t.h+24<=2^20) :
  Cq (ct8 x.kind) [.ptr d 0,.agg x.cs] σ (jv2 σ r mid (ad7 a.l).v c g a.l (a.ao4 x t)):=by
 have E:=z.len
 cases H with
 | al9 p hp _=>exact fm1 m (kk4 d σ ⟨1,p,0⟩ (by simp only;omega))
 | need p q hp hq=>exact kk9 a o z d D B A σ p q hp hq (fl8 (bd5 (bl4 (k _ (cf9 a hp))).1 _ (getD_in _ hq)) (.inl rfl)) r mid c g t n f m s u F
 | clash p q hp hq=>exact jt1 a o z d D B A σ p q hp hq (fl8 (bd5 (bl4 (k _ (cf9 a hp))).2 _ (getD_in _ hq)) (.inr rfl)) r mid c g t n f m s u F
 | over p q hp hq=>exact ja7 m (kk7 a o d _ _ _ _ σ p q hp hq n f)
 | twin p q h1 h4 _=>exact fm1 m (kk5 d σ ⟨5,p,q⟩ (by simp only;omega) (by simp only;omega))
 | keep i hi _=>exact fm1 m (kk6 a o d _ _ _ _ σ ⟨6,i,0⟩ n)
 | job j hj _=>
  by_cases y:(a.jb j).kind=1
  .have e:a.ao4 ⟨7,j,0⟩ t=([upL (a.meant j)],t):=by
    show (a.eo2 j,t)=_;unfold ac2.eo2;rw[if_pos y]
   rw[e];exact fm1 m (kk8 a o d _ _ _ _ σ j hj y n)
  .exact ja7 m (kv9 a o d _ _ _ _ σ j hj y n f)
def ac2.rN (a:ac2):List (List (List Int))×ag9:=a.as7 a.items ⟨0,[],[]⟩
end Go.Id.Tryz
