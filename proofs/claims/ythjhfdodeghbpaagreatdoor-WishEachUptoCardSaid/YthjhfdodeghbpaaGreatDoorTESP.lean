/- The document's answers on versions,dependencies,rich dependencies and packages: walked. Conditions: sizes that fit. -/
import Derived.Test.YthjhfdodeghbpaaGreatDoorTEMA
import Derived.Test.YthjhfdodeghbpaaGreatDoorFwZb
import Derived.Test.YthjhfdodeghbpaaGreatDoorTEYW
import Derived.Test.YthjhfdodeghbpaaGreatDoorTEUA
import Derived.Test.YthjhfdodeghbpaaGreatDoorTEQO
import Derived.Test.YthjhfdodeghbpaaGreatDoorTEQB
import Derived.Test.YthjhfdodeghbpaaGreatDoorMg
import Derived.Test.YthjhfdodeghbpaaGreatDoorRows
open List renaming length_map→za,mem_map→zb,mem_append→zc,map_cons→zd,length_cons→ze,cons_append→zf,nil_append→zg,length_nil→zh,length_append→zj,mem_cons→zk,append_nil→zl,mem_flatMap→zo,mem_singleton→zq,map_nil→zr,take_length→zu,mem_cons_of_mem→zv,mem_cons_self→zx,not_mem_nil→zz,length_singleton→z1,countP_eq_zero→z2,countP_append→z3,mem_filter→z5,countP_singleton→z8,pairwise_cons→z9
open Option renaming some→zi
open Int renaming toNat_natCast→zm,eq_ofNat_of_zero_le→zp
open Nat renaming reduceAdd→zn,zero_add→zw,mul_one→zy,le_add_right→z0,le_refl→z4,le_trans→z7
open Bool renaming and_eq_true→zt,true_and→z6
set_option linter.all false
set_option maxRecDepth 100000
set_option maxHeartbeats 1000000
private theorem om{P:Prop}(h:P:=by omega):P:=h
private theorem sm{P:Prop}(h:P:=by simp):P:=h
namespace Go.Id.Tryz
open Go Go.Id Go.Proofs Go.Shelf Go.Id.Md
def fr5 (s:Str)(hs:s.length<2^62):Pq 112 [.str s] (.bool (ay7 s)):=by
 refine af5 hE fok112 (nZ rfl) (al3 (.str _)) ?_;simp only[ic112,go_sem];refine aa9 noT (λi fr t=>fr=[(0,.str s),(3,.int .i64 (i:Int))]/\(s.take i).all bp1=true) s.length ⟨rfl,rfl⟩ ?_;rintro i fr t hi ⟨rfl,B⟩;by_cases a:i<s.length
 .have z:(i:Int)<s.length:=om;have S:(0:Int)<=i:=om;have o:=ac6 (i:=i) om;have c:=io6 s[i];have b:bp1 s[i]=true->(s.take (i+1)).all bp1=true:=λh=>by rw[cz5 a,B,h];rfl
  have fin:bp1 s[i]=false->ay7 s=false:=λh=>by simp only[ay7,bl5 a h,Bool.and_false]
  simp only[go_sem,z,S,List.getElem?_eq_getElem a,zm];generalize s[i].toNat=n at *;by_cases g:n=46\/n=95\/n=43\/n=126\/n=94
  .rcases g with rfl|rfl|rfl|rfl|rfl
   all_goals
    simp only[go_sem,Int.cast_ofNat_Int,Int.reduceEq,o];exact ⟨a,b (c.trans (by decide))⟩
  .simp only[not_or] at g;have⟨Q,P,N,M,L⟩:=g;have hc:[46,95,43,126,94].contains n=false:=by simp[Q,P,N,M,L]
   have y:¬(n:Int)=46:=om;have x:¬(n:Int)=95:=om;have u:¬(n:Int)=43:=om;have r:¬(n:Int)=126:=om;have q:¬(n:Int)=94:=om;unfold kt4 alN at c;rw[hc,Bool.or_false] at c;by_cases f:(97:Int)<=n
   .have k:(48:Int)<=n:=om;have j:¬(n:Int)<=57:=om;by_cases I:(n:Int)<=122
    .have a1:97<=n:=om;have a2:n<=122:=om;simp only[go_sem,f,I,k,j,o];exact ⟨a,b (c.trans (by simp[a1,a2]))⟩
    .have d:(65:Int)<=n:=om;have p:¬(n:Int)<=90:=om;simp only[go_sem,f,I,d,p,k,j,y,x,u,r,q];have U:¬n<=122:=om;have E:¬n<=90:=om;have m:¬n<=57:=om;exact ac8 (fin (c.trans (by simp[U,E,m]))).symm
   .have F:¬97<=n:=om;by_cases d:(65:Int)<=n
    .have k:(48:Int)<=n:=om;have j:¬(n:Int)<=57:=om;by_cases p:(n:Int)<=90
     .simp only[go_sem,f,d,p,k,j,o];have W:65<=n:=om;have V:n<=90:=om;exact ⟨a,b (c.trans (by simp[W,V]))⟩
     .simp only[go_sem,f,d,p,k,j,y,x,u,r,q];have E:¬n<=90:=om;have m:¬n<=57:=om;exact ac8 (fin (c.trans (by simp[F,E,m]))).symm
    .have K:¬65<=n:=om;by_cases A:(48:Int)<=n
     .by_cases H:(n:Int)<=57
      .simp only[go_sem,f,d,A,H,o];have k:48<=n:=om;have j:n<=57:=om;exact ⟨a,b (c.trans (by simp[k,j]))⟩
      .simp only[go_sem,f,d,A,H,y,x,u,r,q];have m:¬n<=57:=om;exact ac8 (fin (c.trans (by simp[F,K,m]))).symm
     .simp only[go_sem,f,d,A,y,x,u,r,q];have T:¬48<=n:=om;exact ac8 (fin (c.trans (by simp[F,K,T]))).symm
 .have z:¬(i:Int)<s.length:=om;have e:i=s.length:=om;subst e;rw[zu] at B;unfold ay7;rw[B,Bool.and_true];by_cases J:1<=s.length
  .have D:(1:Int)<=s.length:=om;simp only[go_sem,z,D];refine ac8 ?_;have:decide ((s.length:Int)<=64)=decide (s.length<=64):=decide_eq_decide.2 om;simp[J,this]
  .have D:¬(1:Int)<=s.length:=om;simp only[go_sem,z,D];exact ac8 (by simp[J])
def jr9 (e:EVR)(dep:Bool)(k:e.ver.length<2^62)(j:e.rel.length<2^62):Pq 66 [.agg e.cs,.bool dep] (.bool (bg6 e dep)):=by
 have⟨b,c,a⟩:=e;refine af5 hE fok66 (nZ rfl) (ag7 (.agg _ (aw9 (.int _ _) (.str _) (.str _))) (.bool _)) ?_;have h:=fr5 c k;have d:=fr5 a j;unfold bg6;by_cases a1:b<0
 .have g:¬(0:Int)<=b:=om;simp only[ic66,go_sem,EVR.cs,a1];exact ac8 (by simp[g])
 have g:(0:Int)<=b:=om;by_cases a2:2147483647<b
 .have f:¬b<=2147483647:=om;simp only[ic66,go_sem,EVR.cs,a1,a2];exact ac8 (by simp[f])
 have f:b<=2147483647:=om;simp only[g,f,decide_true,z6];simp only[ic66,go_sem,EVR.cs,a1,a2];refine aa4 fok112 (h) ?_
 cases m:ay7 c with
 | false=>simp only[go_sem];exact ac8 sm
 | true=>
  by_cases hr:a=[]
  .subst hr;simp only[go_sem];refine ac8 ?_;have:ay7 []=false:=by decide
   rw[this];simp
  .have i:a.isEmpty=false:=by simpa using hr
   simp only[go_sem,hr];refine aa4 fok112 (d) ?_;simp only[go_sem];exact ac8 (by rw[i];simp)
def js1 (n:Int):Pq 64 [.int .u8 n] (.bool (eb8 n)):=by
 refine af5 hE fok64 (nZ rfl) (al3 (.int _ _)) ?_;unfold eb8;by_cases g:n=0\/n=1\/n=2\/n=3\/n=4\/n=6
 .rcases g with rfl|rfl|rfl|rfl|rfl|rfl
  all_goals
   simp only[ic64,go_sem];exact ac8 (by decide)
 .simp only[not_or] at g;have⟨f,e,d,c,b,a⟩:=g;simp only[ic64,go_sem,f,e,d,c,b,a];exact ac8 (by simp[f,e,d,c,b,a])
def js2 (e:EVR):allEq [1,2,2] e.cs gw3.cs=zi (decide (e=gw3)):=by
 have⟨c,a,b⟩:=e;simp[EVR.cs,gw3,allEq,al1]
def js3 (d:Dep)(b:d.name.length<2^62)(j:d.evr.ver.length<2^62)(i:d.evr.rel.length<2^62):Pq 31 [.agg d.cs] (.bool (ak2 d)):=by
 refine af5 hE fok31 (nZ rfl) (al3 (.agg _ (hf8 d))) ?_;have g:=fn1 d.name b;have hf:=io9 d.name b;have f:=js1 d.op;have h:=jr9 d.evr true j i;have a:=js2 d.evr;unfold ak2;have⟨name,op,⟨k,c,e⟩⟩:=d;unfold EVR.cs gw3 at a;simp only at *;simp only[ic31,go_sem,Dep.cs];refine aa4 fok63 (g) ?_
 cases at5 name with
 | false=>simp only[go_sem];exact ac8 sm
 | true=>
  simp only[go_sem];refine aa4 fok64 (f) ?_
  cases eb8 op with
  | false=>simp only[go_sem];exact ac8 sm
  | true=>
   by_cases h0:op=0
   .simp only[go_sem,h0,a,Option.map_some];exact ac8 (by simp[gw3])
   .simp only[go_sem,h0];refine aa4 fok65 (hf) ?_
    cases bj8 name with
    | true=>simp only[go_sem];exact ac8 (by simp[h0])
    | false=>
     simp only[go_sem];refine aa4 fok66 (h) ?_;simp only[go_sem];exact ac8 (by simp[h0])
def ki9 (e:Nat)(es:List (List IV)):Prop:=∀x∈es,x.length=e/\x.all IV.leaf=true
def Far (v w:IV):Prop:=∀i k e j l f,v=.slice i 0 k e->w=.slice j 0 l f->i≠j
structure Q12 (s:Store) (id:Nat) (n:Int) (k:Nat) (Lv Rv Pv:IV) (eL eR eP:List (List IV)):Prop where
 cell:s.obj id=zi (.cells [Lv,.int .i64 n,Rv,Pv])
 lt:id<s.next
 gL:Grow s Lv 15 eL
 gR:Grow s Rv 1 eR
 gP:Grow s Pv 1 eP
 aL:ki9 15 eL
 aR:ki9 1 eR
 aP:ki9 1 eP
 kL:eL.length<=k
 kR:eR.length<=k
 kP:eP.length<=k
 lr:Far Lv Rv
 lp:Far Lv Pv
 rp:Far Rv Pv
def Q12.mono {s s':Store}{id:Nat}{n:Int}{k:Nat}{j f g:IV}{e c d:List (List IV)}(h:Q12 s id n k j f g e c d)(b:s.next<=s'.next)(a:∀i,i<s.next->s'.obj i=s.obj i):Q12 s' id n k j f g e c d :=
 {h with
  cell:=by rw[a _ h.lt];exact h.cell
  lt:=Nat.lt_of_lt_of_le h.lt b
  gL:=h.gL.mono b λi _ hi=>a i hi
  gR:=h.gR.mono b λi _ hi=>a i hi
  gP:=h.gP.mono b λi _ hi=>a i hi }
def fr6 {s:Store}{v:IV}{e:Nat}{es:List (List IV)}(h:Grow s v e es){i k f:Nat}(a:v=.slice i 0 k f):i<s.next/\∃cs,s.obj i=zi (.row cs):=by
 rcases h with ⟨h0,_⟩|⟨j,d,b,c⟩
 .rw[h0] at a;cases a
 .rw[d] at a;cases a;exact ⟨c,_,b⟩
def hx9 {s:Store}{v:IV}{i:Nat}(h:∀k e,v≠.slice i 0 k e){e:Nat}{es:List (List IV)}(b:Grow s v e es):(ad4 v s).obj i=s.obj i:=by
 rcases b with ⟨h0,_⟩|⟨j,a,_,_⟩
 .rw[h0];rfl
 .rw[a];show (if i=j then none else s.obj i)=_;rw[if_neg λe=>h _ _ (by rw[a,e])]
def gk8 {s:Store}{v w:IV}{e f m nid:Nat}{es d:List (List IV)}(c:s.next<=m)(o:Grow s v e es)(h:Grow s w f d)(hf:Far v w)(j:∀i k g,w=.slice i 0 k g->i≠nid)(r:aj8) :
  Grow ((ad4 v (⟨m,s.obj⟩:Store)).put nid r) w f d:=by
 have a:Grow (⟨m,s.obj⟩:Store) v e es:=o.mono c λ_ _ _=>rfl
 refine h.mono (by rw[aa7,ac1];exact c) λi b _=>?_
 rw[aa3,if_neg (j _ _ _ b),hx9 (λk g n=>hf _ _ _ _ _ _ n b rfl) a]
def Q12.push {t:Store}{id:Nat}{n:Int}{k:Nat}{Lv Rv Pv:IV}{eL eR eP:List (List IV)}(h:Q12 t id n k Lv Rv Pv eL eR eP)(hk:k<2^20){c:List IV}(hc:c.length=15/\c.all IV.leaf=true)(a b:Int){d1 d2 d3 d4:Nat}(h12:d1<d2)(h23:d2<d3)(h34:d3<d4) :
  ∃L' R' P' S1 S2 S3,bb4 ⟨t.next+d4,t.obj⟩ (t.next+d1) 15 Lv (.aa2 [c])=zi (L',S1)/\S1.obj id=zi (.cells [Lv,.int .i64 n,Rv,Pv])/\bb4 S1 (t.next+d2) 1 Rv (.aa2 [[.int .i64 a]])=zi (R',S2)/\S2.obj id=zi (.cells [Lv,.int .i64 n,Rv,Pv]) /\
   bb4 S2 (t.next+d3) 1 Pv (.aa2 [[.int .i64 b]])=zi (P',S3)/\S3.obj id=zi (.cells [Lv,.int .i64 n,Rv,Pv])/\(L'.leaf=true/\L'.cs=[L']/\R'.leaf=true/\R'.cs=[R']/\P'.leaf=true/\P'.cs=[P'])/\S3.next=t.next+d4 /\
   ∀τ:Store,t.next+d4<=τ.next->τ.obj id=zi (.cells [L',.int .i64 n,R',P'])->(∀i,i≠id->τ.obj i=S3.obj i)->Q12 τ id n (k+1) L' R' P' (eL++[c]) (eR++[[.int .i64 a]]) (eP++[[.int .i64 b]]):=by
 have hcell:=h.cell;have nid1:¬id=t.next+d1:=by have:=h.lt;omega
 have nid2:¬id=t.next+d2:=by have:=h.lt;omega
 have nid3:¬id=t.next+d3:=by have:=h.lt;omega
 have notrow:∀ {s:Store} {v:IV} {e:Nat} {es:List (List IV)},Grow s v e es->s.obj id=zi (.cells [Lv,.int .i64 n,Rv,Pv])->∀kk ee,v≠.slice id 0 kk ee:=λhg ho kk ee hv=>by
  have⟨_,cs,hr⟩:=fr6 hg hv;rw[ho] at hr;cases hr
 have old:∀ {s:Store} {v:IV} {e:Nat} {es:List (List IV)},Grow s v e es->s.next=t.next->∀d i kk g,v=.slice i 0 kk g->i≠t.next+d:=λhg hs d i kk g hv=>by
  have:=(fr6 hg hv).1;omega
 -- the first row
 have G0:Grow (⟨t.next+d4,t.obj⟩:Store) Lv 15 eL:=h.gL.mono (by show t.next<=t.next+d4;omega) λ_ _ _=>rfl
 have A1:=ai1 (nid:=t.next+d1) (e:=c) G0 h.aL hc (by have:=h.kL;omega)
 have c1:((ad4 Lv (⟨t.next+d4,t.obj⟩:Store)).put (t.next+d1) (.row (eL++[c]).flatten)).obj id=zi (.cells [Lv,.int .i64 n,Rv,Pv]):=by
  rw[aa3,if_neg nid1];exact ae4 G0 id _ hcell (λ_ e=>by cases e)
 have R1:=gk8 (m:=t.next+d4) (nid:=t.next+d1) (z0 _ _) h.gL h.gR h.lr (old h.gR rfl d1) (.row (eL++[c]).flatten);have P1:=gk8 (m:=t.next+d4) (nid:=t.next+d1) (z0 _ _) h.gL h.gP h.lp (old h.gP rfl d1) (.row (eL++[c]).flatten);have L1:Grow ((ad4 Lv (⟨t.next+d4,t.obj⟩:Store)).put (t.next+d1) (.row (eL++[c]).flatten)) (.slice (t.next+d1) 0 (eL.length+1) 15) 15 (eL++[c]):=Grow.new (v:=.aa5) (by rw[aa7,ac1];show _<t.next+d4;omega) (by rw[aa3,if_pos rfl]);have N1:((ad4 Lv (⟨t.next+d4,t.obj⟩:Store)).put (t.next+d1) (.row (eL++[c]).flatten)).next=t.next+d4:=by rw[aa7,ac1]
 generalize (ad4 Lv (⟨t.next+d4,t.obj⟩:Store)).put (t.next+d1) (.row (eL++[c]).flatten)=S1 at *
 -- the second
 have A2:=ai1 (nid:=t.next+d2) (e:=[IV.int .i64 a]) R1 h.aR ⟨rfl,rfl⟩ (by have:=h.kR;omega);have e1:(⟨S1.next,S1.obj⟩:Store)=S1:=rfl
 have c2:((ad4 Rv S1).put (t.next+d2) (.row (eR++[[IV.int .i64 a]]).flatten)).obj id=zi (.cells [Lv,.int .i64 n,Rv,Pv]):=by
  rw[aa3,if_neg nid2];exact ae4 R1 id _ c1 (λ_ e=>by cases e)
 have P2:Grow ((ad4 Rv S1).put (t.next+d2) (.row (eR++[[IV.int .i64 a]]).flatten)) Pv 1 eP:=gk8 (s:=S1) (m:=S1.next) (nid:=t.next+d2) (z4 _) R1 P1 h.rp (λi kk g hv=>old h.gP rfl d2 i kk g hv) _;have L2:Grow ((ad4 Rv S1).put (t.next+d2) (.row (eR++[[IV.int .i64 a]]).flatten)) (.slice (t.next+d1) 0 (eL.length+1) 15) 15 (eL++[c]):=gk8 (s:=S1) (m:=S1.next) (nid:=t.next+d2) (z4 _) R1 L1 (λi kk g j l f hv hw=>by cases hw;exact old h.gR rfl d1 _ _ _ hv) (λi kk g hv=>by cases hv;omega) _;have R2:Grow ((ad4 Rv S1).put (t.next+d2) (.row (eR++[[IV.int .i64 a]]).flatten)) (.slice (t.next+d2) 0 (eR.length+1) 1) 1 (eR++[[IV.int .i64 a]]):=Grow.new (v:=.aa5) (by rw[aa7,ac1,N1];omega) (by rw[aa3,if_pos rfl]);have N2:((ad4 Rv S1).put (t.next+d2) (.row (eR++[[IV.int .i64 a]]).flatten)).next=t.next+d4:=by rw[aa7,ac1,N1]
 generalize (ad4 Rv S1).put (t.next+d2) (.row (eR++[[IV.int .i64 a]]).flatten)=S2 at *
 -- the third
 have A3:=ai1 (nid:=t.next+d3) (e:=[IV.int .i64 b]) P2 h.aP ⟨rfl,rfl⟩ (by have:=h.kP;omega)
 have c3:((ad4 Pv S2).put (t.next+d3) (.row (eP++[[IV.int .i64 b]]).flatten)).obj id=zi (.cells [Lv,.int .i64 n,Rv,Pv]):=by
  rw[aa3,if_neg nid3];exact ae4 P2 id _ c2 (λ_ e=>by cases e)
 have L3:Grow ((ad4 Pv S2).put (t.next+d3) (.row (eP++[[IV.int .i64 b]]).flatten)) (.slice (t.next+d1) 0 (eL.length+1) 15) 15 (eL++[c]):=gk8 (s:=S2) (m:=S2.next) (nid:=t.next+d3) (z4 _) P2 L2 (λi kk g j l f hv hw=>by cases hw;exact old h.gP rfl d1 _ _ _ hv) (λi kk g hv=>by cases hv;omega) _;have R3:Grow ((ad4 Pv S2).put (t.next+d3) (.row (eP++[[IV.int .i64 b]]).flatten)) (.slice (t.next+d2) 0 (eR.length+1) 1) 1 (eR++[[IV.int .i64 a]]):=gk8 (s:=S2) (m:=S2.next) (nid:=t.next+d3) (z4 _) P2 R2 (λi kk g j l f hv hw=>by cases hw;exact old h.gP rfl d2 _ _ _ hv) (λi kk g hv=>by cases hv;omega) _;have P3:Grow ((ad4 Pv S2).put (t.next+d3) (.row (eP++[[IV.int .i64 b]]).flatten)) (.slice (t.next+d3) 0 (eP.length+1) 1) 1 (eP++[[IV.int .i64 b]]):=Grow.new (v:=.aa5) (by rw[aa7,ac1,N2];omega) (by rw[aa3,if_pos rfl]);have N3:((ad4 Pv S2).put (t.next+d3) (.row (eP++[[IV.int .i64 b]]).flatten)).next=t.next+d4:=by rw[aa7,ac1,N2]
 generalize (ad4 Pv S2).put (t.next+d3) (.row (eP++[[IV.int .i64 b]]).flatten)=S3 at *;refine ⟨_,_,_,S1,S2,S3,A1,c1,A2,c2,A3,c3,⟨rfl,rfl,rfl,rfl,rfl,rfl⟩,N3,λτ hτ hcτ hoτ=>?_⟩;have keep:∀ {v:IV} {e:Nat} {es:List (List IV)},Grow S3 v e es->Grow τ v e es:=λhg=>hg.mono om λi hv _=>hoτ i λe=>notrow hg c3 _ _ (by rw[<- e];exact hv)
 have snocE:∀ {e:Nat} {es:List (List IV)} {x:List IV},ki9 e es->(x.length=e/\x.all IV.leaf=true)->ki9 e (es++[x]):=λh1 h2 y hy=>by
  rcases zc.1 hy with hy|hy
  .exact h1 y hy
  .rw[zq] at hy;rw[hy];exact h2
 exact {
  cell:=hcτ
  lt:=by have:=h.lt;omega
  gL:=keep L3
  gR:=keep R3
  gP:=keep P3
  aL:=snocE h.aL hc
  aR:=snocE h.aR ⟨rfl,rfl⟩
  aP:=snocE h.aP ⟨rfl,rfl⟩
  kL:=by rw[zj];have:=h.kL;simp only[z1];omega
  kR:=by rw[zj];have:=h.kR;simp only[z1];omega
  kP:=by rw[zj];have:=h.kP;simp only[z1];omega
  lr:=λi k e j l f h1 h2=>by cases h1;cases h2;omega
  lp:=λi k e j l f h1 h2=>by cases h1;cases h2;omega
  rp:=λi k e j l f h1 h2=>by cases h1;cases h2;omega }
def hy5 (ab4:List al5)(inst:List aa1):List aa1:=inst++ab4.flatMap λr=>r.packages
def iv6 (b:List al5)(inst:List aa1)(M:inst.length+ah3 b<=256)(hr:b.length<=16):Pq 13 [bb8 b,ay5 inst] (ay5 (hy5 b inst)):=by
 refine af5 hE fok13 (nZ rfl) (ag7 (br7 b) (au5 inst)) ?_;have E:Grow (({ next:=2,obj:=emp.obj }:Store).put 0 (aj8.row [])) (.slice 0 0 0 15) 15 []:=.inr ⟨0,rfl,by rw[aa3,if_pos rfl];rfl,by show 0<2;omega⟩;have⟨s,I,a1,K,p,_,_⟩:=ej6 (nid:=1) (xs:=inst.map aa1.cs) E (λx h=>by cases h) (ar7 _) (by rw[za,zh];omega) (by show 1<2;omega);rw[zg] at p;simp only[ic13,go_sem,a1];refine aa9 noT (λi fr t=>∃n,fr=[(0,bb8 b),(5,n),(6,.int .i64 (i:Int))]/\Grow t n 15 ((hy5 (b.take i) inst).map aa1.cs)/\(hy5 (b.take i) inst).length+ah3 (b.drop i)=inst.length+ah3 b) b.length ⟨s,rfl,by simpa [hy5] using p,by simp[hy5]⟩ ?_;rintro i fr t B ⟨n,rfl,m,d⟩;by_cases e:i<b.length
 .have⟨a,L,_,g,f,A⟩:=ad3 b i e;have o:(i:Int)<b.length:=om;have F:(0:Int)<=i:=om;have q:=ac6 (i:=i) om;rw[ef4 b i a g] at d
  have j:hy5 (b.take (i+1)) inst=hy5 (b.take i) inst++a.packages:=by
   unfold hy5
   have:b.take (i+1)=b.take i++[a]:=by
    rw[List.take_add_one];have:=congrArg List.head? g;rw[List.head?_drop] at this;rw[this];rfl
   rw[this,List.flatMap_append];simp
  have⟨r,H,a2,J,u,_,_⟩:=ej6 (nid:=t.next) (xs:=a.packages.map aa1.cs) (m.mono (σ':=⟨t.next+1,t.obj⟩) (Nat.le_succ _) λ_ _ _=>rfl) (ar7 _) (ar7 _) (by rw[za,za];omega) (Nat.lt_succ_self _);simp only[go_sem,o,F,f,bn6,dh2,dh1,al5.cs,a2,q];refine ⟨e,r,rfl,?_,?_⟩
  .rw[j,List.map_append];exact u
  .rw[j,zj];omega
 .have k:i=b.length:=om;subst k;have o:¬(b.length:Int)<b.length:=om;rw[zu] at m;simp only[go_sem,o];refine m.frz (λx z=>(ar7 _ x z).1) (λ_ _=>Nat.not_lt_zero _) λe D c hc=>?_
  obtain ⟨y,_,rfl⟩:=zb.1 D;exact ag4 y c hc
def dy2 (all:List aa1)(inst:Int)(r:Req):IV:=if ak3 r inst=0 then .tuple [.ab5 (ay5 all::.int .i64 inst::r.cs),.int .i64 0] else .tuple [.ag2,.int .i64 (ak3 r inst)]
def iv7 (j:List aa1)(inst:Int)(r:Req)(hR:ef9 r):Pq 12 [ay5 j,.int .i64 inst,.agg r.cs] (dy2 j inst r):=by
 refine af5 hE fok12 (nZ rfl) (aw9 (au5 j) (.int _ _) (.agg _ (bf5 r))) ?_;have A:=io7 r.al9;have J:r.cs.head? = zi (.int .u8 r.al9):=rfl;have k:(r.cs.drop 2).head? = zi (ax2 r.ae8):=rfl;have u:(r.cs.drop 3).head? = zi (aw1 r.ah9):=rfl;have M:(r.cs.drop 4).head? = zi (.int .i64 r.budget):=rfl;obtain ⟨V,Y⟩:∃V,dy2 j inst r=V:=⟨_,rfl⟩
 have a:∀(s:Store) (e:Int),ak3 r inst=e->e≠0->cc3 s 0 (.tuple [.ag2,.int .i64 e]) V:=λs e h1 h2=>by
  rw[<- Y];unfold dy2;rw[h1,if_neg h2];exact .keep _ (.tuple _ (ag7 .ag2 (.int _ _)))
 rw[Y];by_cases U:ca3 r.al9=false
 .rw[U] at A;simp only[ic12,go_sem,ag1,J];refine aa4 fok30 (A) ?_;simp only[go_sem];exact a _ 1 (by unfold ak3;rw[if_pos (.inl U)]) (by decide)
 have aa:ca3 r.al9=true:=by simpa using U
 rw[aa] at A;by_cases I:r.budget<0
 .simp only[ic12,go_sem,ag1,J];refine aa4 fok30 (A) ?_;simp only[go_sem,M,I];exact a _ 1 (by unfold ak3;rw[if_pos (.inr (.inl I))]) (by decide)
 by_cases K:1099511627776<r.budget
 .simp only[ic12,go_sem,ag1,J];refine aa4 fok30 (A) ?_;simp only[go_sem,M,I,K];exact a _ 1 (by unfold ak3;rw[if_pos (.inr (.inr K))]) (by decide)
 have L:¬(ca3 r.al9=false\/r.budget<0\/1099511627776<r.budget):=λh=>h.elim U λh=>h.elim I K
 by_cases c4:64<r.ae8.length
 .have z:(64:Int)<r.ae8.length:=om;simp only[ic12,go_sem,ag1,J];refine aa4 fok30 (A) ?_;simp only[go_sem,M,I,K,k,z];exact a _ 40 (by unfold ak3;rw[if_neg L,if_pos (.inl c4)]) (by decide)
 have z:¬(64:Int)<r.ae8.length:=om;by_cases c5:64<r.ah9.length
 .have H:(64:Int)<r.ah9.length:=om;simp only[ic12,go_sem,ag1,J];refine aa4 fok30 (A) ?_;simp only[go_sem,M,I,K,k,u,z,H];exact a _ 40 (by unfold ak3;rw[if_neg L,if_pos (.inr c5)]) (by decide)
 have H:¬(64:Int)<r.ah9.length:=om;have W:¬(64<r.ae8.length\/64<r.ah9.length):=λh=>h.elim c4 c5
 simp only[ic12,go_sem,ag1,J];refine aa4 fok30 (A) ?_;simp only[go_sem,M,I,K,k,u,z,H];refine aa9 noT (λi fr t=>fr=[(0,ay5 j),(1,.int .i64 inst),(5,.ab5 r.cs),(8,.int .i64 (i:Int))]/\(r.ae8.drop i).all ax3=r.ae8.all ax3) r.ae8.length ⟨rfl,rfl⟩ ?_;rintro i fr t hi ⟨rfl,f⟩;by_cases m:i<r.ae8.length
 .have⟨x,hx,_,D,b,_⟩:=ad3 r.ae8 i m;have p:(i:Int)<r.ae8.length:=om;have o:(0:Int)<=i:=om;have T:=ac6 (i:=i) om;have⟨N,ab⟩:=hR.jv3 x hx;have P:=js3 x.dep om (by have:=N.2.2.1;omega) (by have:=N.2.2.2;omega);have q:x.cs.head? = zi (.int .u8 x.kind):=rfl;have y:=da1 x;have x2:(x.cs.drop 1).length=5:=rfl;rw[D,List.all_cons] at f
  have d:ax3 x=false->ak3 r inst=4:=λh=>by
   rw[h,Bool.false_and] at f;unfold ak3;rw[if_neg L,if_neg W,if_pos f.symm]
  by_cases e1:x.kind<1
  .have F:¬1<=x.kind:=om;simp only[go_sem,p,o,k,b,ax9,q,e1];exact a _ 4 (d (by unfold ax3;simp[F])) (by decide)
  by_cases e2:4<x.kind
  .have E:¬x.kind<=4:=om;simp only[go_sem,p,o,k,b,ax9,q,e1,e2];exact a _ 4 (d (by unfold ax3;simp[E])) (by decide)
  have F:1<=x.kind:=om;have E:x.kind<=4:=om;simp only[go_sem,p,o,k,b,ax9,q,y,x2,e1,e2];refine aa4 fok31 (P) ?_
  cases hb:ak2 x.dep with
  | false=>
   simp only[go_sem]
   exact a _ 4 (d (by unfold ax3;simp[hb])) (by decide)
  | true=>
   have:ax3 x=true:=by unfold ax3;simp[F,E,hb]
   rw[this,z6] at f;simp only[go_sem,T];exact ⟨m,f⟩
 have B:i=r.ae8.length:=om;subst B;rw[List.drop_length] at f;have Q:¬r.ae8.all ax3=false:=by rw[<- f];simp
 have p:¬(r.ae8.length:Int)<r.ae8.length:=om;simp only[go_sem,p,k];refine aa9 noT (λi fr t=>fr=[(0,ay5 j),(1,.int .i64 inst),(5,.ab5 r.cs),(9,.int .i64 (i:Int))]/\((r.ah9.drop i).all λe=>av2 e r.ae8.length inst)=r.ah9.all λe=>av2 e r.ae8.length inst) r.ah9.length ⟨rfl,rfl⟩ ?_;clear f;rintro i fr t hi ⟨rfl,f⟩;by_cases m:i<r.ah9.length
 .have⟨x,hx,_,D,b,_⟩:=ad3 r.ah9 i m;have p:(i:Int)<r.ah9.length:=om;have o:(0:Int)<=i:=om;have T:=ac6 (i:=i) om;have q:x.cs.head? = zi (.int .u8 x.kind):=rfl;have y:(x.cs.drop 1).head? = zi (.int .i64 x.n):=rfl;rw[D,List.all_cons] at f
  have d:av2 x r.ae8.length inst=false->ak3 r inst=5:=λh=>by
   rw[h,Bool.false_and] at f;unfold ak3;rw[if_neg L,if_neg W,if_neg Q,if_pos f.symm]
  have g:av2 x r.ae8.length inst=true->((r.ah9.drop (i+1)).all λe=>av2 e r.ae8.length inst)=r.ah9.all λe=>av2 e r.ae8.length inst:=λh=>by
   rw[h,z6] at f;exact f
  unfold av2 at d g;by_cases e1:0<=x.n
  case neg=>
   simp only[go_sem,p,o,k,u,b,as3,aq2,aj6,q,y,e1];exact a _ 5 (d (by simp[e1])) (by decide)
  by_cases e2:x.kind=1
  .by_cases e3:x.n<r.ae8.length
   .simp only[go_sem,p,o,k,u,b,as3,aq2,aj6,q,y,e1,e2,e3,T];exact ⟨m,g (by simp[e1,e2,e3])⟩
   .simp only[go_sem,p,o,k,u,b,as3,aq2,aj6,q,y,e1,e2,e3];exact a _ 5 (d (by simp[e2,e3])) (by decide)
  .by_cases e4:1<x.kind
   .by_cases S:x.kind<=4
    .have e6:1<=x.kind:=om;by_cases e3:x.n<inst
     .simp only[go_sem,p,o,k,u,b,as3,aq2,aj6,q,y,e1,e2,e3,e4,S,T];exact ⟨m,g (by simp[e1,e2,e3,S,e6])⟩
     .simp only[go_sem,p,o,k,u,b,as3,aq2,aj6,q,y,e1,e2,e3,e4,S];exact a _ 5 (d (by simp[e2,e3])) (by decide)
    .simp only[go_sem,p,o,k,u,b,as3,aq2,aj6,q,y,e1,e2,e4,S];exact a _ 5 (d (by simp[S])) (by decide)
   .have e6:¬1<=x.kind:=om;simp only[go_sem,p,o,k,u,b,as3,aq2,aj6,q,y,e1,e2,e4];exact a _ 5 (d (by simp[e6])) (by decide)
 have B:i=r.ah9.length:=om;subst B;rw[List.drop_length] at f;have X:¬(r.ah9.all λe=>av2 e r.ae8.length inst)=false:=by rw[<- f];simp
 have o:¬(r.ah9.length:Int)<r.ah9.length:=om;have hz:ak3 r inst=0:=by unfold ak3;rw[if_neg L,if_neg W,if_neg Q,if_neg X]
 have ac:r.cs=[.int .u8 r.al9,.bool r.vendor,ax2 r.ae8,aw1 r.ah9,.int .i64 r.budget]:=rfl;rw[<- Y];unfold dy2;rw[if_pos hz];have rl:r.cs.length=5:=rfl;simp only[go_sem,o,u,rl,bc7,ag1];refine .keep _ (.tuple _ (ag7 (.ab5 _ λc hc=>?_) (.int _ _)));rcases zk.1 hc with rfl|hc
 .exact au5 j
 .rcases zk.1 hc with rfl|hc
  .exact .int _ _
  .exact bf5 r c hc
def dy3:IV:=.tuple [.ag2,.aa5,.ag2,.bool false]
def er9 (a:ac2):ah4:=⟨a,aw3 a.l a.p.inst.toNat⟩
def fr7 {a:List al5}{inst:List aa1}{p:Pool}{r:Req}(g:ir9 a inst)(b:by5 a inst=.inl p)(f:ef9 r)(e:ak3 r p.inst=0)(d:(ac3 p).length<=100):bx8 (er9 ⟨p,r⟩):=
 ⟨⟨aok g b f e,za ..⟩,jq5 λq c=>(ec5 b q c).1,Nat.lt_of_le_of_lt d (by decide)⟩
def iv8 {a:ac2}(h:AOK a)(f:a.l.length<=100)(b:∀p∈a.l,ae9 p=true){t:ag9}(j:t.OK a.l.length)(i:t.few):(fc2 (er9 a) t).2.OK a.l.length/\(fc2 (er9 a) t).2.few :=
 (dy1 a.l f ((ap4 a).flatMap (ar8 a (az8 a))) (λd c=>by
  have⟨x,e,c⟩:=zo.1 c;obtain ⟨k,rfl,g⟩:=cz4 x e;exact (bs3 h b g).2 d c) t j i).2
def gk9 (a:ac2):List ai7×ag9:=fc2 (er9 a) (ac2.rN a).2
def di2 (l:List ai7):IV:=.aa2 (l.map ai7.cs)
def ct5 (ab4:List al5)(inst:List aa1)(r:Req):IV:=match by5 ab4 inst with
 | .inr _=>dy3
 | .inl p=>if ak3 r p.inst=0 then .tuple [jl6 (ac2.mk p r).v (ac2.mk p r).mv (bb7 (ac2.mk p r).items) (ad7 (ac2.mk p r).l).v (ac2.mk p r).l (gk9 ⟨p,r⟩).2 (ac2.rN ⟨p,r⟩).1,di2 (gk9 ⟨p,r⟩).1,.ab5 (ay5 (hy5 ab4 inst)::.int .i64 p.inst::r.cs),.bool true] else dy3
def fr8 {a:List al5}{inst:List aa1}{p:Pool}{r:Req}(i:ir9 a inst)(b:by5 a inst=.inl p)(h:ef9 r)(e:ak3 r p.inst=0)(d:(ac3 p).length<=100) :
  (ac2.mk p r).bo6/\0<=(ac2.mk p r).p.inst/\(∀q∈(ac2.mk p r).l,ae9 q=true)/\(ac2.mk p r).items.length<=20000:=by
 have f:=aok i b h e;have hp:p.inst=inst.length:=(cy2 b).2;have c:∀q∈(ac2.mk p r).l,ae9 q=true:=λq g=>(ec5 b q g).1
 exact ⟨kd3 c d e,by show 0<=p.inst;rw[hp];omega,c,gz5 c d f.inst f.ae8⟩
def es3 (b:List al5)(inst:List aa1)(r:Req)(k:ir9 b inst)(E:ef9 r)(H:∀p,by5 b inst=.inl p->(ac3 p).length<=100):Pq 6 [bb8 b,ay5 inst,.agg r.cs] (ct5 b inst r):=by
 refine af5 hE fok6 (nZ rfl) (aw9 (br7 b) (au5 inst) (.agg _ (bf5 r))) ?_;have hp:=ct1 b inst k.r1 k.i1 k.s1 k.rf k.pf
 have m:∀s:Store,cc3 s 0 dy3 dy3:=λs=>.keep _ (.tuple _ λc hc=>by
  simp only[zk,zz,or_false] at hc;rcases hc with rfl|rfl|rfl|rfl
  .exact .ag2
  .exact .aa5
  .exact .ag2
  .exact .bool _)
 unfold ct5
 cases g:by5 b inst with
 | inr e=>
  have d:¬e=0:=by rcases il3 g with rfl|rfl<;>decide
  rw[g] at hp;simp only[ic6,go_sem,ag1];refine aa4 fok10 (hp) ?_;simp only[kb6,go_sem,d]
  exact m _
 | inl p=>
  have⟨g1,g2,_,_⟩:=cr3 g;have j:p.inst=inst.length:=(cy2 g).2;rw[g] at hp;have hf:=jc5 k g;have z:(ac3 p).length<=256:=by simp only[ac3,za];exact fk1 g
  have U:=hr5 p r E z λx F=>⟨(hf x F).1,(hf x F).2.2⟩
  have n:=iv6 b inst g2 g1;have f:=iv7 (hy5 b inst) p.inst r E;have T:=au5 (hy5 b inst);rw[j] at f;have J:p.v.cs=[p.v]:=rfl;have I:p.v.leaf=true:=rfl;have t:r.cs.length=5:=rfl;have i:∀σ:Store,cx6 0 σ (ay5 inst)=zi (.int .i64 inst.length):=λσ=>by unfold ay5;simp only[go_sem]
  simp only[ic6,go_sem,ag1];refine aa4 fok10 (hp) ?_;simp only[kb6,go_sem,J,I,t,bc7,ag1];refine aa4 fok11 (U) ?_;by_cases d:ak3 r p.inst=0
  .have hA:=aok k g E d;have⟨o1,X,K,o4⟩:=fr8 k g E d (H p g);have hM:=λσ=>gh3 ⟨p,r⟩ hA o1 X K o4 σ
   have o:(ac2.mk p r).v.leaf=true:=rfl;have q:(ac2.mk p r).v.cs=[(ac2.mk p r).v]:=rfl;have A:=ai5 ⟨p,r⟩;have h:=d;rw[j] at h;unfold jv1;unfold dy2 at f;rw[if_pos h] at f;rw[if_pos d];rw[if_pos d];rw[j];simp only[go_sem,o,q,i,t,bc7,ag1];refine aa8 (n) ?_;simp only[go_sem,i,t,bc7,ag1];refine aa8 (f) ?_;simp only[go_sem,o,q];refine ab8 fok14 (hM _) ?_;rintro v s ⟨N,rp,tp,mid,aa,ab,cv,rfl,hB,W,V,t3⟩;refine ⟨N,?_⟩;have L:(ac2.mk p r).p.inst=((ac2.mk p r).p.inst.toNat:Int):=(Int.toNat_of_nonneg X).symm;have B:bx8 (er9 ⟨p,r⟩):=fr7 k g E d (H p g);have A:=ai5 ⟨p,r⟩;have Q:=ep3 ⟨p,r⟩;have S:=br5 (ac2.mk p r).items;have P:=az9 (ad7 (ac2.mk p r).l);simp only[go_sem,o,q];refine ab8 fok15 (kt3 ⟨p,r⟩ _ L B (H p g) K _ W V t3 hB) ?_;rintro v u ⟨lp,c0,c2,c3,c4,c5,ov,Y,rfl,M,D⟩;refine ⟨M,?_⟩;simp only[go_sem];refine .bo4 (.cons ?_ (.cons ?_ (.cons ?_ (.cons (ab6 _) .nil))))
   .exact D.bk.frz A Q S P ag4 (λe d=>(ar7 _ e d).1) (iv8 B.ok.a (H p g) K W V).1.kn
   .exact D.li.out.frz (λx F=>(fm6 _ x F).1) (λ_ _=>Nat.not_lt_zero _) λe d c hc=>by
     obtain ⟨y,_,rfl⟩:=zb.1 d;exact in7 y c hc
   .refine .keep _ (.ab5 _ λc hc=>?_);rcases zk.1 hc with rfl|hc
    .exact T
    .rcases zk.1 hc with rfl|hc
     .exact .int _ _
     .exact bf5 r c hc
  .have h:=d;rw[j] at h;unfold jv1;unfold dy2 at f;rw[if_neg h] at f;rw[if_neg d];rw[if_neg d];simp only[go_sem,i,t,bc7,ag1];refine aa8 (n) ?_;simp only[go_sem,i,t,bc7,ag1];refine aa8 (f) ?_;simp only[go_sem,d];exact m _
def wkR:List al5:=[⟨0,[ke6 [98] [49]]⟩]
def wkI:List aa1:=[ke6 [97] [49]]
def wkQ:Req:=⟨2,false,[],[],0⟩
def wkP:Pool:=jd4 wkR wkI
def jd6:by5 wkR wkI=.inl wkP:=by kernel_rfl
def kj1:ak3 wkQ wkP.inst=0:=by kernel_rfl
def kv6:ir9 wkR wkI:=it7 (by kernel_rfl)
def kj2:ef9 wkQ:=⟨by decide,by decide,λj h=>by cases h⟩
def kj3:(ac3 wkP).length=2:=by kernel_rfl
def js4:(gk9 ⟨wkP,wkQ⟩).1=[⟨3,0,[[[1]]]⟩,⟨5,1,[[[-2]]]⟩,⟨6,0,[[[1]]]⟩]:=by kernel_rfl
def dy4:Pq 5 [] (.bool true):=by
 have f:=dw2 [97] [49];have e:=dw2 [98] [49]
 have d:=es3 wkR wkI wkQ kv6 kj2 (λp hp=>by
  rw[jd6] at hp;cases hp;have:=kj3;omega)
 unfold ct5 at d;rw[jd6] at d;simp only[kj1,if_true,js4] at d;have cA:(ke6 [97] [49]).cs=[.str [97],.int .i64 0,.str [49],.str [49],.int .u8 1,.str [],.aa2 [],.aa2 [],.aa2 [],.aa2 [],.aa2 [],.aa2 [],.aa2 [],.aa2 [],.aa2 []]:=rfl;have cB:(ke6 [98] [49]).cs=[.str [98],.int .i64 0,.str [49],.str [49],.int .u8 1,.str [],.aa2 [],.aa2 [],.aa2 [],.aa2 [],.aa2 [],.aa2 [],.aa2 [],.aa2 [],.aa2 []]:=rfl;rw[cA] at f;rw[cB] at e;have a:=cf8 [[1]] [[1]] (by decide) (by decide);have c:=cf8 [[-2]] [[-2]] (by decide) (by decide);refine af5 hE fok5 (nZ rfl) (λa h=>by cases h) ?_;generalize jl6 _ _ _ _ _ _ _=BV at *;generalize IV.ab5 _=TV at *
 have b:Pq 6 [.aa2 [[.int .i64 0,.aa2 [[.str [98],.int .i64 0,.str [49],.str [49],.int .u8 1,.str [],.aa2 [],.aa2 [],.aa2 [],.aa2 [],.aa2 [],.aa2 [],.aa2 [],.aa2 [],.aa2 []]]]],
   .aa2 [[.str [97],.int .i64 0,.str [49],.str [49],.int .u8 1,.str [],.aa2 [],.aa2 [],.aa2 [],.aa2 [],.aa2 [],.aa2 [],.aa2 [],.aa2 [],.aa2 []]],
   .agg [.int .u8 2,.bool false,.aa5,.aa5,.int .i64 0]] (.tuple [BV,.aa2 [[.int .u8 3,.int .i64 0,.aa2 [[cv2 [[1]]]]],[.int .u8 5,.int .i64 1,.aa2 [[cv2 [[-2]]]]],[.int .u8 6,.int .i64 0,.aa2 [[cv2 [[1]]]]]],TV,.bool true]):=ji7 (args':=[bb8 wkR,ay5 wkI,.agg wkQ.cs]) (by kernel_rfl) d
 have i:cv2 [[1]]=.aa2 [[.aa2 [[.int .i64 1]]]]:=rfl;have g:cv2 [[-2]]=.aa2 [[.aa2 [[.int .i64 (-2)]]]]:=rfl;rw[i] at a b;rw[g] at c b;simp only[ic5,go_sem];refine aa4 fok9 (e) ?_;simp only[go_sem];refine aa4 fok9 (f) ?_;simp only[go_sem];refine aa4 fok6 (b) ?_;simp only[go_sem];refine aa4 fok7 (a) ?_;simp only[go_sem];refine aa4 fok7 (c) ?_;simp only[go_sem];refine aa4 fok7 (a) ?_;simp only[go_sem];exact ab6 _
def ownB (j:Int)(w:ai7):Bool:=(decide (w.kind=5)||decide (w.kind=6))&&decide (w.p=j)
def es4 (j:Int)(w:ai7):Bool:=(decide (w.kind=2)||decide (w.kind=3))&&decide (w.p=j)
structure ky2 (a:ac2) (W:List ai7):Prop where
 len:W.length<2^30
 up:W.Pairwise λx y=>x.kind<=y.kind
 top:∀w∈W,1<=w.kind/\w.kind<=6
 one:∀w∈W,w.kind=1->0<=w.p/\w.p<a.r.ae8.length/\(a.jb w.p).kind=1
 met:∀w∈W,w.kind=2\/w.kind=3->0<=w.p/\w.p<a.p.inst/\w.p<a.l.length/\∃l,w.ways=aq9 l/\l.length<2^30/\w.p∈l
 weak:∀w∈W,w.kind=4->0<=w.p/\a.p.inst<=w.p/\w.p<a.l.length
 off:∀w∈W,w.kind=5->0<=w.p/\a.p.inst<=w.p/\w.p<a.l.length
 on:∀w∈W,w.kind=6->0<=w.p/\w.p<a.p.inst/\w.p<a.l.length
 own:∀j:Nat,j<a.l.length->W.countP (ownB j)=1
 le4:∀j:Nat,j<a.l.length->(j:Int)<a.p.inst->0<W.countP (es4 j)
variable {o:ah4} {t:ag9}
def eg8 {a:ac2}{n:Int}:n∈az8 a↔∃k:Nat,n=k/\k<a.l.length/\(k:Int)<a.p.inst:=by
 unfold az8;rw[al4];simp
def fr9 {a:ac2}{n:Int}:n∈ap4 a↔∃k:Nat,n=k/\k<a.l.length/\a.p.inst<=(k:Int):=by
 unfold ap4;rw[al4];simp
def fs1 (l:List aa1):∀(ds:List WD) (t:ag9),∀w∈(ay2 l ds t).1,w.kind=4/\∃d∈ds,w.p=d.1:=by
 intro ds
 induction ds with
 | nil=>intro t w a;cases a
 | cons d ds ih=>
  intro t w a;rcases zk.1 a with rfl|a
  .exact ⟨rfl,d,zx,rfl⟩
  .have⟨f,e,c,b⟩:=ih _ w a;exact ⟨f,e,zv _ c,b⟩
def fs2 {w:ai7}(c:w∈bb2 o (az8 o.a)):(w.kind=2\/w.kind=3)/\o.a.inst w.p=true/\∃f,w.ways=aq9 (o.bi3 f w.p):=by
 unfold bb2 at c;rcases zc.1 c with c|c
 .have⟨j,g,c⟩:=zo.1 c;obtain ⟨n,b,rfl⟩:=zb.1 c;obtain ⟨m,rfl,e,d⟩:=al4.1 g;refine ⟨.inl rfl,?_,?_⟩
  .have h:(o.a.jb m).kind=3\/(o.a.jb m).kind=4:=by
    simp only[zt,decide_eq_true_eq,zk,zz,or_false] at d;exact d.1
   unfold ac2.meant at b;split at b
   .rw[if_neg om,if_neg om] at b;exact (z5.1 b).2
   .cases b
  .show ∃f,aq9 (gm6 o _ n)=_;unfold gm6;split
   .exact ⟨_,rfl⟩
   .exact ⟨_,rfl⟩
 .obtain ⟨n,b,rfl⟩:=zb.1 c;have⟨b,_⟩:=z5.1 b;obtain ⟨k,rfl,e,d⟩:=eg8.1 b;exact ⟨.inr rfl,by simp[ac2.inst,ac2.is,e,d],_,rfl⟩
def count_one {l:List Int}(h:l.Nodup){j:Int}(a:j∈l):l.countP (λn=>decide (n=j))=1:=by
 induction l with
 | nil=>cases a
 | cons x xs ih=>
  have⟨d,c⟩:=List.nodup_cons.1 h;by_cases e:x=j
  .subst e;have:xs.countP (λn=>decide (n=x))=0:=z2.2 λy b e=>d (by rw[<- of_decide_eq_true e];exact b)
   rw[List.countP_cons,this];simp
  .rcases zk.1 a with rfl|a
   .exact absurd rfl e
   .rw[List.countP_cons,ih c a];simp[e]
def fs3 {l:List Int}{j:Int}(b:j ∉ l):l.countP (λn=>decide (n=j))=0 :=
 z2.2 λy a e=>b (by rw[<- of_decide_eq_true e];exact a)
def di3 (q:Nat->Bool)(k:Nat):(aj5 q k).Nodup:=(cy4 q k).imp λh=>by omega
def ff8 (zs:List Int):(o.av3 zs).Nodup:=(List.mergeSort_perm _ _).nodup_iff.2 (di3 _ _)
def hy6 {j:Int}{l:List ai7}(h:∀w∈l,w.kind<=4):l.countP (ownB j)=0:=z2.2 λw a e=>by
 have:=h w a;unfold ownB at e;simp only[zt,Bool.or_eq_true,decide_eq_true_eq] at e;omega
def hy7 {f:Int->ai7}{j:Int}(a:∀n,(f n).kind=5\/(f n).kind=6)(hp:∀n,(f n).p=n)(l:List Int):(l.map f).countP (ownB j)=l.countP λn=>decide (n=j):=by
 rw[List.countP_map];refine List.countP_congr λn _=>?_
 have:=a n;simp only[Function.comp,ownB,hp n,zt,Bool.or_eq_true,decide_eq_true_eq];exact ⟨λh=>h.2,λh=>⟨this,h⟩⟩
def es5 {A B:List ai7}{m:Int}(d:A.Pairwise λx y=>x.kind<=y.kind)(c:B.Pairwise λx y=>x.kind<=y.kind)(f:∀w∈A,w.kind<=m)(e:∀w∈B,m<=w.kind):(A++B).Pairwise λx y=>x.kind<=y.kind :=
 List.pairwise_append.2 ⟨d,c,λx b y a=>Int.le_trans (f x b) (e y a)⟩
def ct6 {A:List ai7}{m:Int}(h:∀w∈A,w.kind=m):A.Pairwise λx y=>x.kind<=y.kind:=by
 induction A with
 | nil=>exact .nil
 | cons x xs ih=>
  refine z9.2 ⟨λy a=>?_,ih λw b=>h w (zv _ b)⟩;rw[h x zx,h y (zv _ a)];exact Int.le_refl _
def iv9 (V:bx8 o)(hl:o.a.l.length<=100)(J:∀p∈o.a.l,ae9 p=true):ky2 o.a (fc2 o t).1:=by
 have P:=V.ok.a;have n1:(az8 o.a).length<=o.a.l.length:=ai3 _ _;have n2:(ap4 o.a).length<=o.a.l.length:=ai3 _ _;have w1:(av4 o).length<=64:=by rw[av4,za];have:=bs1 o.a [1];have:=P.ae8;omega
 have w2:=fm8 o P om
 have T:∀x∈ap4 o.a,(ar8 o.a (az8 o.a) x).length<=64/\∀d∈ar8 o.a (az8 o.a) x,af3 d.2.2 1=0:=λx E=>by
  obtain ⟨k,rfl,H⟩:=cz4 x E;exact bs3 P J H
 have S:((ap4 o.a).flatMap (ar8 o.a (az8 o.a))).length<=6400:=by
  have:=ct4 (f:=ar8 o.a (az8 o.a)) (m:=64) (ap4 o.a) λx E=>(T x E).1
  omega
 have Y:(bs2 o.a (az8 o.a) (ap4 o.a) t).1.length<=6400:=by rw[bs2,di1];exact S
 have X:(er8 o (az8 o.a) (ap4 o.a)).length<=200:=by
  have:=eg6 o (ap4 o.a);simp only[er8,fr4,onW,zj,za,List.length_reverse];omega
 have g:∀w∈av4 o,w.kind=1:=λw b=>by obtain ⟨j,_,rfl⟩:=zb.1 b;rfl
 have r:∀w∈bb2 o (az8 o.a),w.kind=2\/w.kind=3:=λw b=>(fs2 b).1
 have q:∀w∈(bs2 o.a (az8 o.a) (ap4 o.a) t).1,w.kind=4:=λw b=>(fs1 _ _ _ w b).1
 have z:∀w∈fr4 (o.av3 (ap4 o.a)).reverse,w.kind=5:=λw b=>by obtain ⟨j,_,rfl⟩:=zb.1 b;rfl
 have u:∀w∈onW (az8 o.a),w.kind=6:=λw b=>by obtain ⟨j,_,rfl⟩:=zb.1 b;rfl
 have U:(bb2 o (az8 o.a)).Pairwise λx y=>x.kind<=y.kind:=by
  unfold bb2;refine es5 (m:=2) (ct6 (m:=2) λw b=>?_) (ct6 (m:=3) λw b=>?_) (λw b=>?_) λw b=>?_
  .have⟨j,_,b⟩:=zo.1 b;obtain ⟨n,_,rfl⟩:=zb.1 b;rfl
  .obtain ⟨n,_,rfl⟩:=zb.1 b;rfl
  .have⟨j,_,b⟩:=zo.1 b;obtain ⟨n,_,rfl⟩:=zb.1 b;exact Int.le_refl _
  .obtain ⟨n,_,rfl⟩:=zb.1 b;show (2:Int)<=3;decide
 have F:∀w∈(fc2 o t).1,w∈av4 o\/w∈bb2 o (az8 o.a)\/w∈(bs2 o.a (az8 o.a) (ap4 o.a) t).1\/w∈fr4 (o.av3 (ap4 o.a)).reverse\/w∈onW (az8 o.a):=λw b=>by
  simp only[fc2,er8,zc] at b;rcases b with ((h|h)|h)|h|h
  .exact .inl h
  .exact .inr (.inl h)
  .exact .inr (.inr (.inl h))
  .exact .inr (.inr (.inr (.inl h)))
  .exact .inr (.inr (.inr (.inr h)))
 have c:∀n∈ap4 o.a,0<=n/\o.a.p.inst<=n/\n<o.a.l.length:=λn M=>by
  obtain ⟨k,rfl,s,D⟩:=fr9.1 M;exact ⟨om,D,om⟩
 have A:∀n∈az8 o.a,0<=n/\n<o.a.p.inst/\n<o.a.l.length:=λn M=>by
  obtain ⟨k,rfl,s,D⟩:=eg8.1 M;exact ⟨om,D,om⟩
 have I:∀j:Int,(fc2 o t).1.countP (ownB j)=((o.av3 (ap4 o.a)).countP λn=>decide (n=j))+(az8 o.a).countP λn=>decide (n=j):=λj=>by
  unfold fc2 er8;simp only[z3];rw[hy6 λw b=>by rw[g w b];decide,hy6 λw b=>by have:=r w b;omega,hy6 λw b=>by rw[q w b];decide];unfold fr4 onW;rw[hy7 (λ_=>.inl rfl) (λ_=>rfl),hy7 (λ_=>.inr rfl) (λ_=>rfl),List.countP_reverse];omega
 refine ⟨?_,?_,λw b=>?_,λw b H=>?_,λw b H=>?_,λw b H=>?_,λw b H=>?_,λw b H=>?_,λj i=>?_,λj i N=>?_⟩
 .simp only[fc2,zj];omega
 .unfold fc2 er8;refine es5 (m:=4) (es5 (m:=3) (es5 (m:=1) (ct6 g) U (λw b=>by rw[g w b];decide) λw b=>by have:=r w b;omega) (ct6 q) (λw b=>?_) λw b=>by rw[q w b];decide) (es5 (m:=5) (ct6 z) (ct6 u) (λw b=>by rw[z w b];decide) λw b=>by rw[u w b];decide) (λw b=>?_) λw b=>?_
  .rcases zc.1 b with h|h
   .rw[g w h];decide
   .have:=r w h;omega
  .rcases zc.1 b with h|h
   .rcases zc.1 h with h|h
    .rw[g w h];decide
    .have:=r w h;omega
   .rw[q w h];decide
  .rcases zc.1 b with h|h
   .rw[z w h];decide
   .rw[u w h];decide
 .rcases F w b with h|h|h|h|h
  .have:=g w h;omega
  .have:=r w h;omega
  .have:=q w h;omega
  .have:=z w h;omega
  .have:=u w h;omega
 .rcases F w b with h|h|h|h|h
  .obtain ⟨j,i,rfl⟩:=zb.1 h;obtain ⟨m,rfl,s,D⟩:=al4.1 i;simp only[zt,decide_eq_true_eq,zq] at D;exact ⟨by show (0:Int)<=m;omega,by show (m:Int)<_;omega,D.1⟩
  .have:=r w h;omega
  .have:=q w h;omega
  .have:=z w h;omega
  .have:=u w h;omega
 .rcases F w b with h|h|h|h|h
  .have:=g w h;omega
  .have⟨_,s,Q,D⟩:=fs2 h;have W:=o.du5 s;unfold ac2.inst ac2.is at s;simp only[zt,decide_eq_true_eq] at s;refine ⟨s.1.1,s.2,s.1.2,_,D,?_,(o.bk1 Q _).mem_iff.2 W⟩;have:=cz8 o Q w.p;omega
  .have:=q w h;omega
  .have:=z w h;omega
  .have:=u w h;omega
 .rcases F w b with h|h|h|h|h
  .have:=g w h;omega
  .have:=r w h;omega
  .have⟨_,d,B,e⟩:=fs1 _ _ _ w h;have⟨x,E,B⟩:=zo.1 B
   have:d.1=x:=by
    unfold ar8 iv5 gm7 at B;rcases zc.1 B with B|B
    .obtain ⟨_,_,rfl⟩:=zb.1 B;rfl
    .obtain ⟨_,_,rfl⟩:=zb.1 B;rfl
   rw[e,this];exact c x E
  .have:=z w h;omega
  .have:=u w h;omega
 .rcases F w b with h|h|h|h|h
  .have:=g w h;omega
  .have:=r w h;omega
  .have:=q w h;omega
  .obtain ⟨j,i,rfl⟩:=zb.1 h;exact c j (o.ax4.1 (List.mem_reverse.1 i)).1
  .have:=u w h;omega
 .rcases F w b with h|h|h|h|h
  .have:=g w h;omega
  .have:=r w h;omega
  .have:=q w h;omega
  .have:=z w h;omega
  .obtain ⟨j,i,rfl⟩:=zb.1 h;exact A j i
 .rw[I];by_cases hi:(j:Int)<o.a.p.inst
  .have e1:(j:Int)∈az8 o.a:=eg8.2 ⟨j,rfl,i,hi⟩;have e2:(j:Int) ∉ o.av3 (ap4 o.a):=λh=>by have:=c _ (o.ax4.1 h).1;omega
   rw[fs3 e2,count_one (l:=az8 o.a) (di3 _ _) e1]
  .have e1:(j:Int) ∉ az8 o.a:=λh=>by have:=A _ h;omega
   have e2:(j:Int)∈o.av3 (ap4 o.a):=o.ax4.2 ⟨fr9.2 ⟨j,rfl,i,om⟩,by simp[ac2.is];omega⟩;rw[fs3 e1,count_one (ff8 _) e2]
 .refine List.countP_pos_iff.2 ?_;by_cases K:(j:Int)∈kv4 o
  .have⟨x,E,L⟩:=zo.1 K
   exact ⟨⟨2,j,aq9 (gm6 o x j)⟩,by
    simp only[fc2,bb2,zc];exact .inl (.inl (.inr (.inl (zo.2 ⟨x,E,zb.2 ⟨j,L,rfl⟩⟩)))),by simp[es4]⟩
  .exact ⟨⟨3,j,aq9 (o.bi3 [ah4.cr2 j] j)⟩,by
    simp only[fc2,bb2,zc];exact .inl (.inl (.inr (.inr (zb.2 ⟨j,z5.2 ⟨eg8.2 ⟨j,rfl,i,N⟩,by simp[K]⟩,rfl⟩)))),by simp[es4]⟩
end Go.Id.Tryz
namespace Go.Id.Tryz
open Go Go.Id Go.Proofs Go.Shelf Go.Id.Md
def ir7 {a:Nat}:∀ {b:List al5} {n:Nat},n<=a->by7 a b n=false->n+ah3 b<=a:=by
 intro b
 induction b with
 | nil=>intro n h _;simpa [ah3] using h
 | cons r b ih=>
  intro n h c;rw[dg2] at c;split at c
  .cases c
  .split at c
   .cases c
   .have:=ih (n:=n+r.packages.length) om c;have e:ah3 (r::b)=r.packages.length+ah3 b:=by simp[ah3]
    rw[e];omega
def ir8 {b:List al5}{inst:List aa1}{r:Req}{a:Nat}(h:bi5 b inst r a=false){p:Pool}(c:by5 b inst=.inl p):(ac3 p).length<=a:=by
 unfold bi5 at h;simp only[Bool.or_eq_false_iff,decide_eq_false_iff_not] at h;have:=ir7 om h.2.2.2.2.2;rw[bk4 c,zj,List.length_flatMap];unfold ah3 at this;exact this
def gi8 (a:List al5)(inst:List aa1)(r:Req):ct5 a inst r=dy3\/∃p d,by5 a inst=.inl p/\ak3 r p.inst=0/\ct5 a inst r=.tuple [d,di2 (gk9 ⟨p,r⟩).1,.ab5 (ay5 (ac3 p)::.int .i64 p.inst::r.cs),.bool true]:=by
 unfold ct5
 cases c:by5 a inst with
 | inr e=>exact .inl rfl
 | inl p=>
  by_cases b:ak3 r p.inst=0
  .exact .inr ⟨p,_,rfl,b,by simp only[if_pos b];rw[bk4 c];rfl⟩
  .exact .inl (if_neg b)
def fe6 (ab4:List al5)(inst:List aa1)(r:Req)(hI:ir9 ab4 inst)(hR:ef9 r) :
  Pq 3 [bb8 ab4,ay5 inst,.agg r.cs] (.bool true):=by
 refine af5 hE fok3 (nZ rfl) (aw9 (br7 ab4) (au5 inst) (.agg _ (bf5 r))) ?_;have hW:=he6 ab4 inst r 24 (by have:=hI.r1;omega) (by have:=hI.i1;omega) (by decide) hI.ro hI.po;have rl:r.cs.length=5:=rfl;simp only[ic3,go_sem,ag1,rl,bc7];refine aa4 fok4 (hW) ?_
 cases hwd:bi5 ab4 inst r 24 with
 | true=>
  simp only[go_sem];refine aa4 fok5 (dy4) ?_;simp only[go_sem]
  exact ac8 rfl
 | false=>
 have hfew:=λp hn=>ir8 hwd (p:=p) hn
 have hM:=es3 ab4 inst r hI hR λp hn=>by have:=hfew p hn;omega
 simp only[go_sem];refine aa4 fok5 (dy4) ?_;simp only[go_sem,ag1,rl,bc7];refine aa4 fok6 (hM) ?_;rcases gi8 ab4 inst r with h0|⟨p,bv,hn,he,h0⟩
 .rw[h0];simp only[dy3,go_sem];exact ac8 rfl
 rw[h0];have hl24:=hfew p hn;have⟨o1,o2,o3,o4⟩:=fr8 hI hn hR he om;have hWO:=fr7 hI hn hR he om;have hL:ky2 (ac2.mk p r) (gk9 ⟨p,r⟩).1:=iv9 hWO (by show (ac3 p).length<=100;omega) o3;have hin:(ac2.mk p r).p.inst=inst.length:=(cy2 hn).2;have hrj:(ac2.mk p r).r=r:=rfl;have hal:(ac2.mk p r).l=ac3 p:=rfl;have hjn:=(aok hI hn hR he).ae8;generalize (gk9 ⟨p,r⟩).1=W at *;have hq1:=hL.len;obtain ⟨n,hnn⟩:∃n,n=(ac3 p).length:=⟨_,rfl⟩;have hil:inst.length<=n:=by rw[hnn,bk4 hn,zj];omega
 rw[<- hnn] at hl24;have pl:∀σ:Store,cx6 0 σ (ay5 (ac3 p))=zi (.int .i64 n):=λσ=>by rw[hnn];unfold ay5;simp only[go_sem]
 have il:∀σ:Store,cx6 0 σ (ay5 inst)=zi (.int .i64 inst.length):=λσ=>by unfold ay5;simp only[go_sem]
 have r2:(r.cs.drop 2).head? = zi (ax2 r.ae8):=rfl;generalize ay5 (ac3 p)=PV at *;generalize ay5 inst=IN at *;simp only[go_sem,pl];simp only[fm3,ed5 _ (show n<=2147483648 by omega),go_sem,pl];rw[hb9];have eqf:ib8 [0] false true (.bool false) (.bool false)=zi (.bool false):=rfl;have eqt:ib8 [0] false true (.bool true) (.bool true)=zi (.bool false):=rfl;have hcs:∀k q ways,ai7.cs ⟨k,q,ways⟩=[.int .u8 k,.int .i64 q,.aa2 (ways.map cf6)]:=λ_ _ _=>rfl
 refine aa9 noT (λi fr s=>∃last,fr=[(1,IN),(5,.ab5 r.cs),(8,di2 W),(9,.ab5 (PV::.int .i64 p.inst::r.cs)),(11,.slice 5 0 n 1),(12,.slice 11 0 n 1),(13,.int .u8 last),(14,.int .i64 (i:Int))]/\12<=s.next/\(∀w∈W.drop i,last<=w.kind)/\∃c d,s.obj 5=zi (.row (cz1 c n))/\s.obj 11=zi (.row (cz1 d n))/\(∀j:Nat,j<n->c j=((W.take i).countP (ownB j):Nat))/\∀j:Nat,j<n->d j=((W.take i).countP (es4 j):Nat)) W.length
  ⟨0,rfl,nZ rfl,λw hw=>by have:=(hL.top w (List.mem_of_mem_drop hw)).1;omega,λ_=>0,λ_=>0,by simp only[go_sem],by simp only[go_sem],λj _=>rfl,λj _=>rfl⟩ ?_
 rintro i fr s hle ⟨last,rfl,hnx,hla,c,d,ho0,ho1,hc,hd⟩;by_cases hlt:i<W.length
 .have⟨w,hwm,hwi,hdr,hget,htk⟩:=ad3 W i hlt;have a1:(i:Int)<W.length:=om;have a2:(0:Int)<=i:=om;have w1:=ac6 (i:=i) om;have hlk:last<=w.kind:=hla w (by rw[hdr];exact zx)
  have hnext:∀v∈W.drop (i+1),w.kind<=v.kind:=by
   have h1:=hL.up.sublist (List.drop_sublist i W);rw[hdr] at h1;exact (z9.1 h1).1
  have hco:∀j:Nat,(W.take (i+1)).countP (ownB j)=(W.take i).countP (ownB j)+if ownB j w=true then 1 else 0:=λj=>by rw[htk,z3,z8]
  have hcm:∀j:Nat,(W.take (i+1)).countP (es4 j)=(W.take i).countP (es4 j)+if es4 j w=true then 1 else 0:=λj=>by rw[htk,z3,z8]
  have htop:=hL.top w hwm;have hone:=hL.one w hwm;have hmet:=hL.met w hwm;have hweak:=hL.weak w hwm;have hoff:=hL.off w hwm;have hon:=hL.on w hwm;clear hwm hwi hdr htk hla;have ml:∀f,(W.take i).countP f<=W.length:=λf=>z7 List.countP_le_length (by rw[List.length_take];omega)
  have⟨k,q,ways⟩:=w;simp only at htop hone hmet hweak hoff hon hlk hnext;rw[hin] at hmet hweak hoff hon;rw[hal,<- hnn] at hmet hweak hoff hon;have nz0:¬5=s.next:=om;have nz1:¬11=s.next:=om;have nz0':¬s.next=5:=om;have nz1':¬s.next=11:=om;have k1:¬k<last:=om;have k2:¬(6:Int)<k:=om;unfold di2;obtain hk|hk|hk|hk|hk|hk:k=1\/k=2\/k=3\/k=4\/k=5\/k=6:=om
  .have e1:(k=1)=True:=eq_true hk;have⟨q1,q2,q3⟩:=hone hk;obtain ⟨m,rfl⟩:=zp q1;have⟨x,hxm,hxi,_,hgj,_⟩:=ad3 r.ae8 m om
   have jx:(ac2.mk p r).jb (m:Int)=x:=by
    show r.ae8.getD (m:Int).toNat default=x;rw[zm,List.getD_eq_getElem?_getD,hxi];rfl
   rw[jx] at q3;have q4:¬(m:Int)<0:=om;have q5:¬(r.ae8.length:Int)<=m:=om;have q6:(m:Int)<r.ae8.length:=om;have j0:x.cs.head? = zi (.int .u8 x.kind):=rfl;have jv:ax2 r.ae8=.aa2 (r.ae8.map Job.cs):=rfl;simp only[go_sem,a1,a2,hget,hcs,k1,k2,e1,q1,q3,q4,q5,q6,r2,jv,za,hgj,ax9,bh5,au7,j0,w1,nz0,nz1,ho0,ho1];exact ⟨hlt,k,rfl,om,hnext,c,d,rfl,rfl,λj hj=>by rw[hco,hc j hj];simp[ownB,hk],λj hj=>by rw[hcm,hd j hj];simp[es4,hk]⟩
  .have e1:¬k=1:=om;have e2:(k=2)=True:=eq_true hk;have e3:¬k=3:=om;obtain ⟨q1,q2,q3,l,rfl,hll,hql⟩:=hmet (.inl hk);obtain ⟨m,rfl⟩:=zp q1;have hm:m<n:=om;have q4:¬(m:Int)<0:=om;have q5:¬(n:Int)<=m:=om;have q6:(m:Int)<inst.length:=om;have q7:(m:Int)<n:=om;have hdb:d m<=W.length:=by rw[hd m hm];have:=ml (es4 m);omega
   have hd0:0<=d m:=by rw[hd m hm];omega
   have w2:IntKind.wrap .i64 (d m+1)=d m+1:=wrap64 om om;have w3:IntKind.wrap .i64 ((m:Int)+1)=(m:Int)+1:=wrap64 om om;have hpl:m+1<=(cz1 d n).length:=by rw[bc4];omega
   have hat:=cs3 d hm;have hput:=cz2 d hm (d m+1);have hwl:(aq9 l).map cf6=l.map λx=>cf6 [[x+1]]:=by unfold aq9;rw[List.map_map];rfl
   have hwy:∀x:Int,cf6 [[x+1]]=[.aa2 [[.aa2 [[.int .i64 (x+1)]]]]]:=λ_=>rfl
   simp only[go_sem,a1,a2,hget,hcs,k1,k2,e1,e2,e3,q1,q4,q5,q6,q7,pl,il,w1,hwl]
   refine aa9 noT (λj fr u=>fr=[(1,IN),(5,.ab5 r.cs),(8,.aa2 (W.map ai7.cs)),(9,.ab5 (PV::.int .i64 p.inst::r.cs)),(11,.slice 5 0 n 1),(12,.slice 11 0 n 1),(13,.int .u8 k),(14,.int .i64 (i:Int)),(15,.ptr s.next 0),(16,.bool true),(17,.bool (decide ((m:Int)∈l.take j))),(18,.int .i64 (j:Int))]/\12<=u.next/\u.obj 5=zi (.row (cz1 c n))/\u.obj 11=zi (.row (cz1 d n))/\u.obj s.next=zi (.cells [.int .u8 k,.int .i64 m,.aa2 (l.map λx=>cf6 [[x+1]])])) l.length
    ⟨by rw[List.take_zero];rfl,z7 hnx (z0 _ _),by simp only[go_sem,nz0,ho0],by simp only[go_sem,nz1,ho1],by simp only[go_sem]⟩ ?_
   clear ho0 ho1;rintro j fr u hj ⟨rfl,hun,ho0,ho1,hb⟩;by_cases hjl:j<l.length
   .have⟨x,hxm,hxi,_,hgw,htw⟩:=ad3 l j hjl;have b1:(j:Int)<l.length:=om;have b2:(0:Int)<=j:=om;have w4:=ac6 (i:=j) om;by_cases hin2:(m:Int)∈l.take j
    .have t2:decide ((m:Int)∈l.take j)=true:=decide_eq_true hin2;have t3:decide ((m:Int)∈l.take (j+1))=true:=decide_eq_true (by rw[htw];exact zc.2 (.inl hin2));simp only[go_sem,hb,za,b1,b2,t2,t3,w4];exact ⟨hjl,ho0,ho1⟩
    .have t2:decide ((m:Int)∈l.take j)=false:=decide_eq_false hin2
     have t3:decide ((m:Int)∈l.take (j+1))=decide ([[x+1]]=[[(m:Int)+1]]):=by
      rw[htw];congr 1;simp only[zc,zq,hin2,false_or,List.cons.injEq,and_true];exact propext ⟨λh=>om,λh=>om⟩
     have hSm:=cf8 [[x+1]] [[(m:Int)+1]] (by show 1<2^40;decide) (λq hq=>by rw[zq.1 hq];show 1<2^40;decide);have hcl:∀z:Int,cv2 [[z]]=.aa2 [[.aa2 [[.int .i64 z]]]]:=λ_=>rfl
     rw[hcl,hcl,<- t3] at hSm;simp only[go_sem,hb,za,b1,b2,t2,hgw,hwy x,w3];refine aa4 fok7 (hSm) ?_;simp only[go_sem,w4];exact ⟨hjl,ho0,ho1,hb⟩
   .have hj':j=l.length:=om;subst hj';have b1:¬(l.length:Int)<l.length:=om;have t2:decide ((m:Int)∈l.take l.length)=true:=by rw[zu];exact decide_eq_true hql
    simp only[go_sem,hb,za,b1,t2,q1,q7,ho0,ho1,w1,w2,zm,zw,zy,hpl,hat,hput]
    exact ⟨hlt,k,rfl,hun,hnext,c,_,rfl,rfl,λj hj=>by rw[hco,hc j hj];simp[ownB,hk],λj hj=>by
     rw[hcm];by_cases e:j=m
     .subst e;rw[if_pos rfl,hd j hj];simp[es4,hk]
     .rw[if_neg e,hd j hj];have:¬(m:Int)=j:=om;simp[es4,this]⟩
  .have e1:¬k=1:=om;have e3:(k=3)=True:=eq_true hk;have e2:¬k=2:=om;obtain ⟨q1,q2,q3,l,rfl,hll,hql⟩:=hmet (.inr hk);obtain ⟨m,rfl⟩:=zp q1;have hm:m<n:=om;have q4:¬(m:Int)<0:=om;have q5:¬(n:Int)<=m:=om;have q6:(m:Int)<inst.length:=om;have q7:(m:Int)<n:=om;have hdb:d m<=W.length:=by rw[hd m hm];have:=ml (es4 m);omega
   have hd0:0<=d m:=by rw[hd m hm];omega
   have w2:IntKind.wrap .i64 (d m+1)=d m+1:=wrap64 om om;have w3:IntKind.wrap .i64 ((m:Int)+1)=(m:Int)+1:=wrap64 om om;have hpl:m+1<=(cz1 d n).length:=by rw[bc4];omega
   have hat:=cs3 d hm;have hput:=cz2 d hm (d m+1);have hwl:(aq9 l).map cf6=l.map λx=>cf6 [[x+1]]:=by unfold aq9;rw[List.map_map];rfl
   have hwy:∀x:Int,cf6 [[x+1]]=[.aa2 [[.aa2 [[.int .i64 (x+1)]]]]]:=λ_=>rfl
   simp only[go_sem,a1,a2,hget,hcs,k1,k2,e1,e2,e3,q1,q4,q5,q6,q7,pl,il,w1,hwl]
   refine aa9 noT (λj fr u=>fr=[(1,IN),(5,.ab5 r.cs),(8,.aa2 (W.map ai7.cs)),(9,.ab5 (PV::.int .i64 p.inst::r.cs)),(11,.slice 5 0 n 1),(12,.slice 11 0 n 1),(13,.int .u8 k),(14,.int .i64 (i:Int)),(15,.ptr s.next 0),(16,.bool true),(17,.bool (decide ((m:Int)∈l.take j))),(18,.int .i64 (j:Int))]/\12<=u.next/\u.obj 5=zi (.row (cz1 c n))/\u.obj 11=zi (.row (cz1 d n))/\u.obj s.next=zi (.cells [.int .u8 k,.int .i64 m,.aa2 (l.map λx=>cf6 [[x+1]])])) l.length
    ⟨by rw[List.take_zero];rfl,z7 hnx (z0 _ _),by simp only[go_sem,nz0,ho0],by simp only[go_sem,nz1,ho1],by simp only[go_sem]⟩ ?_
   clear ho0 ho1;rintro j fr u hj ⟨rfl,hun,ho0,ho1,hb⟩;by_cases hjl:j<l.length
   .have⟨x,hxm,hxi,_,hgw,htw⟩:=ad3 l j hjl;have b1:(j:Int)<l.length:=om;have b2:(0:Int)<=j:=om;have w4:=ac6 (i:=j) om;by_cases hin2:(m:Int)∈l.take j
    .have t2:decide ((m:Int)∈l.take j)=true:=decide_eq_true hin2;have t3:decide ((m:Int)∈l.take (j+1))=true:=decide_eq_true (by rw[htw];exact zc.2 (.inl hin2));simp only[go_sem,hb,za,b1,b2,t2,t3,w4];exact ⟨hjl,ho0,ho1⟩
    .have t2:decide ((m:Int)∈l.take j)=false:=decide_eq_false hin2
     have t3:decide ((m:Int)∈l.take (j+1))=decide ([[x+1]]=[[(m:Int)+1]]):=by
      rw[htw];congr 1;simp only[zc,zq,hin2,false_or,List.cons.injEq,and_true];exact propext ⟨λh=>om,λh=>om⟩
     have hSm:=cf8 [[x+1]] [[(m:Int)+1]] (by show 1<2^40;decide) (λq hq=>by rw[zq.1 hq];show 1<2^40;decide);have hcl:∀z:Int,cv2 [[z]]=.aa2 [[.aa2 [[.int .i64 z]]]]:=λ_=>rfl
     rw[hcl,hcl,<- t3] at hSm;simp only[go_sem,hb,za,b1,b2,t2,hgw,hwy x,w3];refine aa4 fok7 (hSm) ?_;simp only[go_sem,w4];exact ⟨hjl,ho0,ho1,hb⟩
   .have hj':j=l.length:=om;subst hj';have b1:¬(l.length:Int)<l.length:=om;have t2:decide ((m:Int)∈l.take l.length)=true:=by rw[zu];exact decide_eq_true hql
    simp only[go_sem,hb,za,b1,t2,q1,q7,ho0,ho1,w1,w2,zm,zw,zy,hpl,hat,hput]
    exact ⟨hlt,k,rfl,hun,hnext,c,_,rfl,rfl,λj hj=>by rw[hco,hc j hj];simp[ownB,hk],λj hj=>by
     rw[hcm];by_cases e:j=m
     .subst e;rw[if_pos rfl,hd j hj];simp[es4,hk]
     .rw[if_neg e,hd j hj];have:¬(m:Int)=j:=om;simp[es4,this]⟩
  .have e1:¬k=1:=om;have e2:¬k=2:=om;have e3:¬k=3:=om;have e5:¬k=5:=om;have e6:¬k=6:=om;have⟨q1,q2,q3⟩:=hweak hk;have q4:¬q<0:=om;have q5:¬(n:Int)<=q:=om;have q6:¬q<(inst.length:Int):=om;simp only[go_sem,a1,a2,hget,hcs,k1,k2,e1,e2,e3,e5,e6,q4,q5,q6,pl,il,w1,nz0,nz1,ho0,ho1];exact ⟨hlt,k,rfl,hnext,c,d,rfl,rfl,λj hj=>by rw[hco,hc j hj];simp[ownB,e5,e6],λj hj=>by rw[hcm,hd j hj];simp[es4,e2,e3]⟩
  .have e1:¬k=1:=om;have e2:¬k=2:=om;have e3:¬k=3:=om;have e5:(k=5)=True:=eq_true hk;have e6:¬k=6:=om;have⟨q1,q2,q3⟩:=hoff hk;obtain ⟨m,rfl⟩:=zp q1;have hm:m<n:=om;have q4:¬(m:Int)<0:=om;have q5:¬(n:Int)<=m:=om;have q6:¬(m:Int)<inst.length:=om;have q7:(m:Int)<n:=om;have hcb:c m<=W.length:=by rw[hc m hm];have:=ml (ownB m);omega
   have hc0:0<=c m:=by rw[hc m hm];omega
   have w2:IntKind.wrap .i64 (c m+1)=c m+1:=wrap64 om om;have hpl:m+1<=(cz1 c n).length:=by rw[bc4];omega
   have hat:=cs3 c hm;have hput:=cz2 c hm (c m+1);simp only[go_sem,a1,a2,hget,hcs,k1,k2,e1,e2,e3,e5,e6,q1,q4,q5,q6,q7,pl,il,w1,w2,nz0,nz1,nz0',nz1',ho0,ho1,eqf,eqt,zm,zw,zy,hpl,hat,hput]
   exact ⟨hlt,k,rfl,hnext,_,d,rfl,rfl,λj hj=>by
    rw[hco];by_cases e:j=m
    .subst e;rw[if_pos rfl,hc j hj];simp[ownB,hk]
    .rw[if_neg e,hc j hj];have:¬(m:Int)=j:=om;simp[ownB,this],λj hj=>by rw[hcm,hd j hj];simp[es4,hk]⟩
  .have e1:¬k=1:=om;have e2:¬k=2:=om;have e3:¬k=3:=om;have e6:(k=6)=True:=eq_true hk;have e5:¬k=5:=om;have⟨q1,q2,q3⟩:=hon hk;obtain ⟨m,rfl⟩:=zp q1;have hm:m<n:=om;have q4:¬(m:Int)<0:=om;have q5:¬(n:Int)<=m:=om;have q6:(m:Int)<inst.length:=om;have q7:(m:Int)<n:=om;have hcb:c m<=W.length:=by rw[hc m hm];have:=ml (ownB m);omega
   have hc0:0<=c m:=by rw[hc m hm];omega
   have w2:IntKind.wrap .i64 (c m+1)=c m+1:=wrap64 om om;have hpl:m+1<=(cz1 c n).length:=by rw[bc4];omega
   have hat:=cs3 c hm;have hput:=cz2 c hm (c m+1);simp only[go_sem,a1,a2,hget,hcs,k1,k2,e1,e2,e3,e5,e6,q1,q4,q5,q6,q7,pl,il,w1,w2,nz0,nz1,nz0',nz1',ho0,ho1,eqf,eqt,zm,zw,zy,hpl,hat,hput]
   exact ⟨hlt,k,rfl,hnext,_,d,rfl,rfl,λj hj=>by
    rw[hco];by_cases e:j=m
    .subst e;rw[if_pos rfl,hc j hj];simp[ownB,hk]
    .rw[if_neg e,hc j hj];have:¬(m:Int)=j:=om;simp[ownB,this],λj hj=>by rw[hcm,hd j hj];simp[es4,hk]⟩
 .have hi':i=W.length:=om;subst hi';have a1:¬(W.length:Int)<W.length:=om;rw[zu] at hc hd;simp only[di2,go_sem,a1,za];refine aa9 noT (λj fr u=>fr=[(1,IN),(9,.ab5 (PV::.int .i64 p.inst::r.cs)),(11,.slice 5 0 n 1),(12,.slice 11 0 n 1),(19,.int .i64 (j:Int))]/\u.obj 5=zi (.row (cz1 c n))/\u.obj 11=zi (.row (cz1 d n))) n ⟨rfl,ho0,ho1⟩ ?_;clear ho0 ho1;rintro j fr u hj ⟨rfl,ho0,ho1⟩;by_cases hjn:j<n
  .have b1:(j:Int)<n:=om;have b2:(0:Int)<=j:=om;have w4:=ac6 (i:=j) om;have h1:c j=1:=by rw[hc j hjn,hL.own j (by rw[hal,<- hnn];exact hjn)];rfl
   have hat:=cs3 c hjn;have hat2:=cs3 d hjn;rw[h1] at hat;by_cases hji:j<inst.length
   .have b3:(j:Int)<inst.length:=om
    have h2:¬d j<1:=by
     have:=hL.le4 j (by rw[hal,<- hnn];exact hjn) (by rw[hin];exact b3);rw[hd j hjn];omega
    simp only[go_sem,pl,il,b1,b2,b3,ho0,ho1,zm,zw,zy,hat,hat2,h2,w4];exact hjn
   .have b3:¬(j:Int)<inst.length:=om;simp only[go_sem,pl,il,b1,b2,b3,ho0,ho1,zm,zw,zy,hat,w4];exact hjn
  .have hj':j=n:=om;subst hj';have b1:¬(j:Int)<j:=om;simp only[go_sem,pl,b1];exact ac8 rfl
open Go Go.Id Go.Proofs Go.Id.Md
variable {H:Type} {enc:TypeId×Value->H} {w:World} {base:Nat} {sp:Nat->Bool} {held:Bool}
abbrev Rd (enc:TypeId×Value->H)(w:World)(base:Nat)(sp:Nat->Bool)(held:Bool):=Rdg enc Tryz.prog w base sp held
def hi8 {n:Nat}{d:DataW H}(h:Rd enc w base sp held n 42 d)(q:WT Tryz.prog 42 d):∃e:EVR,e.fit/\∀m,n<=m->dv Tryz.prog m 42 d=zi e.cs:=by
 obtain ⟨n',ds,rfl,rfl,r,hf⟩:=ax1 Tryz.underlying42 h q
 match ds,r with
 | [d0,d1,d2],_=>
  have⟨j,w0⟩:=hf 0 _ d0 rfl rfl;have⟨i,b⟩:=hf 1 _ d1 rfl rfl;have⟨g,a⟩:=hf 2 _ d2 rfl rfl;have⟨z,_,_,s⟩:=bq6 Tryz.underlying3 j;have⟨f,p,e1⟩:=dd5 Tryz.underlying9 i b;have⟨c,k,e2⟩:=dd5 Tryz.underlying9 g a;refine ⟨⟨z,f,c⟩,⟨p,k⟩,λm A=>?_⟩
  cases m with
  | zero=>omega
  | succ m=>
   have y:Tryz.prog.cellsOf 3=1:=by kernel_rfl
   have x:Tryz.prog.cellsOf 9=1:=by kernel_rfl
   have u:Tryz.prog.cellsOf 42=3:=by kernel_rfl
   simp only[dv,Tryz.underlying42,zd,zr,dvF,s m om,e1 m om,e2 m om,ze,zh,y,x,u,zf,zg,zl,zn,↓reduceIte];rfl
def kf3 {z:Int}(h:(Lit.int .u8 z).wf=true):0<=z/\z<256:=by
 simp only[Lit.wf,zt,decide_eq_true_eq] at h;have e1:IntKind.u8.min=0:=rfl;have e2:IntKind.u8.max=255:=rfl;omega
def jn1:Tryz.prog.cellsOf 3=1:=by kernel_rfl
def jn2:Tryz.prog.cellsOf 5=1:=by kernel_rfl
def ip9:Tryz.prog.cellsOf 9=1:=by kernel_rfl
def jn3:Tryz.prog.cellsOf 42=3:=by kernel_rfl
def hj4:Tryz.prog.cellsOf 44=5:=by kernel_rfl
def hj5:Tryz.prog.cellsOf 128=7:=by kernel_rfl
def kf4:Tryz.prog.cellsOf 55=15:=by kernel_rfl
def jc2:Tryz.prog.cellsOf 57=2:=by kernel_rfl
def kf5:Tryz.prog.cellsOf 51=1:=by kernel_rfl
def fo2:Tryz.prog.cellsOf 52=1:=by kernel_rfl
def kf6:Tryz.prog.cellsOf 53=1:=by kernel_rfl
def kf7:Tryz.prog.cellsOf 23=1:=by kernel_rfl
def jc3 {n:Nat}{d:DataW H}(h:Rd enc w base sp held n 44 d)(k:WT Tryz.prog 44 d):∃e:Dep,e.fit/\∀m,n<=m->dv Tryz.prog m 44 d=zi e.cs:=by
 obtain ⟨n',ds,rfl,rfl,p,hf⟩:=ax1 Tryz.underlying44 h k
 match ds,p with
 | [d0,d1,d2],_=>
  have⟨g,w0⟩:=hf 0 _ d0 rfl rfl;have⟨f,r⟩:=hf 1 _ d1 rfl rfl;have⟨c,a⟩:=hf 2 _ d2 rfl rfl;have⟨b,j,q⟩:=dd5 Tryz.underlying9 g w0;have⟨z,_,_,e1⟩:=bq6 Tryz.underlying5 f;have⟨e,i,e2⟩:=hi8 c a;refine ⟨⟨b,z,e⟩,⟨j,i⟩,λm s=>?_⟩
  cases m with
  | zero=>omega
  | succ m=>
   simp only[dv,Tryz.underlying44,zd,zr,dvF,q m om,e1 m om,e2 m om,EVR.cs,ze,zh,ip9,jn2,jn3,hj4,zf,zg,zl,zn,↓reduceIte];rfl
def jn4:∀(n:Nat) (d:DataW H),Rd enc w base sp held n 128 d->WT Tryz.prog 128 d->∃r:aa6,r.ok/\∀m,n<=m->dv Tryz.prog m 128 d=zi r.cs:=by
 intro n
 induction n using Nat.strongRecOn with
 | ind n ih=>
  intro d h u;obtain ⟨n',ds,rfl,rfl,y,hf⟩:=ax1 Tryz.underlying128 h u
  match ds,y with
  | [d0,d1,d2],_=>
   have⟨j,w0⟩:=hf 0 _ d0 rfl rfl;have⟨i,f⟩:=hf 1 _ d1 rfl rfl;have⟨g,c⟩:=hf 2 _ d2 rfl rfl;have⟨z,_,s,A⟩:=bq6 Tryz.underlying5 j;have⟨e,k,e1⟩:=jc3 i f;have⟨l,q,p,e2⟩:=bg4 aa6.cs aa6.ok Tryz.underlying52 hj5 (by decide) (by decide +kernel) (λr=>by rw[aa6.as1];rfl) (λm B x hr b=>ih m om B hr b) g c;have a:=kf3 s;refine ⟨.mk z e l,aa6.gw8.2 ⟨a.1,a.2,k,q,p⟩,λm x=>?_⟩
   cases m with
   | zero=>omega
   | succ m=>
    simp only[dv,Tryz.underlying128,zd,zr,dvF,A m om,e1 m om,e2 m om,Dep.cs,ze,zh,fo2,jn2,hj4,hj5,zf,zg,zl,zn,↓reduceIte];rw[aa6.as1];rfl
def hj6 {n:Nat}{d:DataW H}(h:Rd enc w base sp held n 51 d)(c:WT Tryz.prog 51 d):∃l:List Dep,l.length<2^62/\(∀a∈l,a.fit)/\∀m,n<=m->dv Tryz.prog m 51 d=zi [deps l]:=
 bg4 Dep.cs Dep.fit Tryz.underlying51 hj4 (by decide) (by decide +kernel) (λ_=>rfl) (λ_ _ _ hr b=>jc3 hr b) h c
def bl6 {n:Nat}{d:DataW H}(h:Rd enc w base sp held n 52 d)(c:WT Tryz.prog 52 d):∃l:List aa6,l.length<2^62/\(∀a∈l,a.ok)/\∀m,n<=m->dv Tryz.prog m 52 d=zi [ao3 l]:=
 bg4 aa6.cs aa6.ok Tryz.underlying52 hj5 (by decide) (by decide +kernel) (λr=>by rw[aa6.as1];rfl) (λm e _ hr b=>jn4 m e hr b) h c
def jn5 {n:Nat}{d:DataW H}(h:Rd enc w base sp held n 53 d)(c:WT Tryz.prog 53 d):∃l:List Str,l.length<2^62/\(∀a∈l,a.length<2^62)/\∀m,n<=m->dv Tryz.prog m 53 d=zi [strs l]:=
 bg4 cc4 (λs:Str=>s.length<2^62) Tryz.underlying53 ip9 (by decide) (by decide +kernel) (λ_=>rfl) (λ_ _ _ hr b=>dd5 Tryz.underlying9 hr b) h c
def kf8 {n:Nat}{d:DataW H}(h:Rd enc w base sp held n 55 d)(hw:WT Tryz.prog 55 d):∃p:aa1,p.Ok/\∀m,n<=m->dv Tryz.prog m 55 d=zi p.cs:=by
 obtain ⟨n',ds,rfl,rfl,hl,hf⟩:=ax1 Tryz.underlying55 h hw
 match ds,hl with
 | [d0,d1,d2,d3,d4,d5,d6,d7,d8,d9,d10,d11,d12],_=>
  have⟨r0,w0⟩:=hf 0 _ d0 rfl rfl;have⟨r1,w1⟩:=hf 1 _ d1 rfl rfl;have⟨r2,w2⟩:=hf 2 _ d2 rfl rfl;have⟨r3,w3⟩:=hf 3 _ d3 rfl rfl;have⟨r4,Y⟩:=hf 4 _ d4 rfl rfl;have⟨r5,X⟩:=hf 5 _ d5 rfl rfl;have⟨r6,W⟩:=hf 6 _ d6 rfl rfl;have⟨r7,V⟩:=hf 7 _ d7 rfl rfl;have⟨r8,U⟩:=hf 8 _ d8 rfl rfl;have⟨r9,T⟩:=hf 9 _ d9 rfl rfl;have⟨k,g⟩:=hf 10 _ d10 rfl rfl;have⟨j,f⟩:=hf 11 _ d11 rfl rfl;have⟨i,e⟩:=hf 12 _ d12 rfl rfl;have⟨S,l0,e0⟩:=dd5 Tryz.underlying9 r0 w0;have⟨Q,l1,e1⟩:=hi8 r1 w1;have⟨P,_,_,e2⟩:=bq6 Tryz.underlying5 r2;have⟨N,l3,e3⟩:=dd5 Tryz.underlying9 r3 w3;have⟨M,l4,k4,e4⟩:=hj6 r4 Y;have⟨L,l5,k5,e5⟩:=bl6 r5 X;have⟨K,l6,k6,e6⟩:=bl6 r6 W;have⟨J,l7,k7,e7⟩:=hj6 r7 V;have⟨I,l8,k8,e8⟩:=bl6 r8 U;have⟨F,l9,k9,e9⟩:=bl6 r9 T;have⟨c,s,z,D⟩:=bl6 k g;have⟨b,r,y,B⟩:=bl6 j f;have⟨a,q,u,A⟩:=jn5 i e;refine ⟨⟨S,Q,P,N,M,L,K,J,I,F,c,b,a⟩,⟨l0,l3,l1,⟨l4,k4⟩,⟨l7,k7⟩,⟨q,u⟩,?_⟩,λm hm=>?_⟩
  .intro x E;simp only[aa1.rows,zk,zz,or_false] at E;rcases E with rfl|rfl|rfl|rfl|rfl|rfl
   .exact ⟨l5,k5⟩
   .exact ⟨l6,k6⟩
   .exact ⟨l8,k8⟩
   .exact ⟨l9,k9⟩
   .exact ⟨s,z⟩
   .exact ⟨r,y⟩
  cases m with
  | zero=>omega
  | succ m=>
   simp only[dv,Tryz.underlying55,zd,zr,dvF,e0 m om,e1 m om,e2 m om,e3 m om,e4 m om,e5 m om,e6 m om,e7 m om,e8 m om,e9 m om,D m om,B m om,A m om,EVR.cs,ze,zh,ip9,jn2,jn3,kf5,fo2,kf6,kf4,zf,zg,zl,zn,↓reduceIte];rfl
def hj7 {n:Nat}{d:DataW H}(h:Rd enc w base sp held n 23 d)(c:WT Tryz.prog 23 d):∃l:List aa1,l.length<2^62/\(∀a∈l,a.Ok)/\∀m,n<=m->dv Tryz.prog m 23 d=zi [.aa2 (l.map aa1.cs)]:=
 bg4 aa1.cs aa1.Ok Tryz.underlying23 kf4 (by decide) (by decide +kernel) (λ_=>rfl) (λ_ _ _ hr b=>kf8 hr b) h c
def jn6 {n:Nat}{d:DataW H}(h:Rd enc w base sp held n 57 d)(g:WT Tryz.prog 57 d):∃r:al5,al5.Ok r/\∀m,n<=m->dv Tryz.prog m 57 d=zi r.cs:=by
 obtain ⟨n',ds,rfl,rfl,i,hf⟩:=ax1 Tryz.underlying57 h g
 match ds,i with
 | [d0,d1],_=>
  have⟨c,w0⟩:=hf 0 _ d0 rfl rfl;have⟨b,a⟩:=hf 1 _ d1 rfl rfl;have⟨z,_,_,j⟩:=bq6 Tryz.underlying3 c;have⟨l,f,e,e1⟩:=hj7 b a;refine ⟨⟨z,l⟩,⟨f,e⟩,λm k=>?_⟩
  cases m with
  | zero=>omega
  | succ m=>
   simp only[dv,Tryz.underlying57,zd,zr,dvF,j m om,e1 m om,ze,zh,jn1,kf7,jc2,zf,zg,zl,zn,↓reduceIte];rfl
def iq1 {n:Nat}{d:DataW H}(h:Rd enc w base sp held n 22 d)(c:WT Tryz.prog 22 d):∃l:List al5,l.length<2^62/\(∀a∈l,al5.Ok a)/\∀m,n<=m->dv Tryz.prog m 22 d=zi [.aa2 (l.map al5.cs)]:=
 bg4 al5.cs al5.Ok Tryz.underlying22 jc2 (by decide) (by decide +kernel) (λ_=>rfl) (λ_ _ _ hr b=>jn6 hr b) h c
end Go.Id.Tryz
namespace Go.Id
open Go Go.Id
mutual
def isz:IV->Nat
 | .str s=>s.length+1
 | .aa2 es=>cw1 es+1
 | _=>1
def bi6:List IV->Nat
 | []=>0
 | c::cs=>isz c+bi6 cs
def cw1:List (List IV)->Nat
 | []=>0
 | e::es=>bi6 e+cw1 es
end
def fg5 (a b:List IV):bi6 (a++b)=bi6 a+bi6 b:=by
 induction a with
 | nil=>simp[bi6]
 | cons x a ih=>simp only[zf,bi6,ih];omega
def bx4 {b:Type}(f:b->List IV):∀(l:List b),∀a∈l,bi6 (f a)<=cw1 (l.map f):=by
 intro l
 induction l with
 | nil=>intro a h;cases h
 | cons x l ih=>
  intro a h;simp only[zd,cw1];rcases zk.1 h with rfl|h
  .omega
  .have:=ih a h;omega
def ay3 {b:Type}(f:b->List IV)(hf:∀a,1<=bi6 (f a)):∀(l:List b),l.length<=cw1 (l.map f):=by
 intro l
 induction l with
 | nil=>simp
 | cons x l ih=>
  simp only[zd,cw1,ze];have:=hf x;omega
namespace Md
def Dep.szs (d:Dep):bi6 d.cs=d.name.length+d.evr.ver.length+d.evr.rel.length+5:=by
 simp only[Dep.cs,bi6,isz];omega
def aa6.szs (r:aa6):bi6 r.cs=r.dep.name.length+r.dep.evr.ver.length+r.dep.evr.rel.length+cw1 (r.args.map aa6.cs)+7:=by
 rw[aa6.as1];simp only[bi6,isz];omega
def aa1.szs (p:aa1):bi6 p.cs=p.name.length+p.evr.ver.length+p.evr.rel.length+p.vendor.length+cw1 (p.provides.map Dep.cs)+cw1 (p.requires.map aa6.cs)+cw1 (p.conflicts.map aa6.cs)+cw1 (p.ab2.map Dep.cs)+cw1 (p.ae1.map aa6.cs)+cw1 (p.ac7.map aa6.cs)+cw1 (p.suggests.map aa6.cs)+cw1 (p.ak8.map aa6.cs)+cw1 (p.files.map cc4)+15:=by
 simp only[aa1.cs,bi6,isz];omega
def al5.szs (r:al5):bi6 r.cs=cw1 (r.packages.map aa1.cs)+2:=by
 simp only[al5.cs,bi6,isz];omega
def gl7 (r:aa6):r.count<=bi6 r.cs:=by
 induction r using aa6.ind with
 | h k d xs ih=>
  rw[aa6.szs]
  have:∀a:List aa6,(∀y∈a,y∈xs)->aa6.counts a<=cw1 (a.map aa6.cs):=by
   intro a
   induction a with
   | nil=>intro _;simp[aa6.counts]
   | cons y a ih2=>
    intro h;have e:=ih y (h y (zx ..));have c:=ih2 λz b=>h z (zv _ b)
    simp only[aa6.counts,zd,cw1];omega
  have:=this xs λy h=>h
  simp only[aa6.count,aa6.args];omega
def ix7 (r:aa6):r.ok->bi6 r.cs<2^31->r.fit:=by
 induction r using aa6.ind with
 | h k d xs ih=>
  intro g hs;have⟨a,b,c,e,f⟩:=aa6.gw8.1 g;rw[aa6.szs] at hs;simp only[aa6.args] at hs;have i:=ay3 aa6.cs (λr=>by rw[aa6.szs];omega) xs;refine aa6.ce5.2 ⟨a,b,c,om,λr hr=>ih r hr (f r hr) ?_⟩;have:=bx4 aa6.cs xs r hr;omega
def ia8 {p:aa1}(h:p.Ok)(hs:bi6 p.cs<2^31):p.Fit:=by
 rw[aa1.szs] at hs;have e:=ay3 Dep.cs (λr=>by rw[Dep.szs];omega) p.provides;have d:=ay3 Dep.cs (λr=>by rw[Dep.szs];omega) p.ab2;have c:=ay3 cc4 (λr=>by simp only[cc4,bi6,isz];omega) p.files
 have hr:∀x∈p.rows,cw1 (x.2.map aa6.cs)<2^31:=by
  intro x a;simp only[aa1.rows,zk,zz,or_false] at a;rcases a with rfl|rfl|rfl|rfl|rfl|rfl<;>simp only[]<;>omega
 exact {
  name:=h.name
  evr:=h.evr
  au4:=⟨om,h.au4.2⟩
  obs:=⟨om,h.obs.2⟩
  files:=⟨om,h.files.2⟩
  rich:=λx a=>by
   have j:=hr x a;have i:=ay3 aa6.cs (λr=>by rw[aa6.szs];omega) x.2;refine ⟨om,λr b=>?_⟩;have g:=bx4 aa6.cs x.2 r b;have f:=gl7 r;exact ⟨ix7 r ((h.rich x a).2 r b) om,om⟩ }
def ia9 (a:List al5):ah3 a<=cw1 (a.map al5.cs):=by
 induction a with
 | nil=>simp[ah3]
 | cons r rs ih=>
  have c:=ay3 aa1.cs (λr=>by rw[aa1.szs];omega) r.packages;have b:=al5.szs r;simp only[ah3,zd,List.sum_cons,cw1] at ih ⊢;omega
end Md
end Go.Id
namespace Go.Id.Tryz
open Go Go.Id Go.Proofs Go.Id.Md
open Go.Proofs.YthjhfdodeghbpaaGreatDoor
variable {H:Type} {enc:TypeId×Value->H} {w:World} {base:Nat} {sp:Nat->Bool} {held:Bool}
def is3 (d:DataW H):1<=Rows.uptoBulk d:=by
 cases d with
 | lit l=>cases l<;>simp[Rows.uptoBulk]
 | _=>simp[Rows.uptoBulk]
def is4 {r:DataW H->Option (List IV)}{c:Nat}(hr:∀d cs,r d=zi cs->bi6 cs<=Rows.uptoBulk d):∀(ds:List (DataW H)) es,dvS r c ds=zi es->cw1 es<=Rows.uptoBulkAll ds:=by
 intro ds
 induction ds with
 | nil=>intro es h;cases h;simp[cw1]
 | cons d ds ih=>
  intro es h;simp only[dvS] at h;split at h
  .rename_i a f;split at h
   .split at h
    .rename_i b e;cases h;have i:=hr d a f;have g:=ih b e;simp only[cw1,Rows.uptoBulkAll];omega
    .cases h
   .cases h
  .cases h
def fp5 {r:TypeId->DataW H->Option (List IV)}{P:Program}(hr:∀t d cs,r t d=zi cs->bi6 cs<=Rows.uptoBulk d):∀(c:List (TypeId×Nat)) (ds:List (DataW H)) (off:Nat) es,dvF r P c ds off=zi es->bi6 es<=Rows.uptoBulkAll ds:=by
 intro c
 induction c with
 | nil=>
  intro ds off es h
  cases ds with
  | nil=>cases h;simp[bi6]
  | cons d ds=>simp[dvF] at h
 | cons f c ih=>
  intro ds off es h
  cases ds with
  | nil=>simp[dvF] at h
  | cons d ds=>
   simp only[dvF] at h;split at h
   .split at h
    .rename_i a g;split at h
     .split at h
      .rename_i b e;cases h;have j:=hr _ d a g;have i:=ih ds _ b e;simp only[fg5,Rows.uptoBulkAll];omega
      .cases h
     .cases h
    .cases h
   .cases h
def fe8 {P:Program}:∀(m:Nat) (t:TypeId) (d:DataW H) cs,dv P m t d=zi cs->bi6 cs<=Rows.uptoBulk d:=by
 intro m
 induction m with
 | zero=>intro t d cs h;simp[dv] at h
 | succ m ih=>
  intro t d cs h;have a:=is3 d;simp only[dv] at h;split at h
  .cases h;simpa [bi6,isz] using a
  .cases h;simpa [bi6,isz] using a
  .cases h;simp[bi6,isz,Rows.uptoBulk]
  .cases h;simpa [bi6,isz] using a
  .split at h
   .cases h;simpa [bi6,isz] using a
   .cases h
  .cases h;simpa [bi6,isz,cw1] using a
  .split at h
   .cases h
   .split at h
    .rename_i es b;cases h;have:=is4 (ih _) _ _ b;simp only[bi6,isz,Rows.uptoBulk];omega
    .cases h
  .split at h
   .rename_i c b;split at h
    .cases h;have:=fp5 (λt d cs=>ih t d cs) _ _ _ _ b;simp only[Rows.uptoBulk];omega
    .cases h
   .cases h
  .split at h
   .rename_i c b;split at h
    .cases h;have:=fp5 (λt d cs=>ih t d cs) _ _ _ _ b;simp only[Rows.uptoBulk];omega
    .cases h
   .cases h
  .split at h
   .split at h
    .cases h;simpa [bi6,isz] using a
    .cases h
   .cases h
  .cases h
def ku1 {a:List al5}{inst:List aa1}(c:∀r∈a,al5.Ok r)(b:∀p∈inst,p.Ok)(f:bi6 [IV.aa2 (a.map al5.cs)]<=1048576)(e:bi6 [IV.aa2 (inst.map aa1.cs)]<=1048576):ir9 a inst:=by
 simp only[bi6,isz] at f e;have j:=ay3 al5.cs (λr=>by rw[al5.szs];omega) a;have i:=ay3 aa1.cs (λr=>by rw[aa1.szs];omega) inst;have h:=ia9 a;refine ⟨om,om,om,λr hr=>?_,λp hp=>?_,c,b⟩
 .have d:=bx4 al5.cs a r hr;rw[al5.szs] at d;have g:=ay3 aa1.cs (λr=>by rw[aa1.szs];omega) r.packages;refine ⟨om,λp hp=>ia8 ((c r hr).2 p hp) ?_⟩;have:=bx4 aa1.cs r.packages p hp;omega
 .have:=bx4 aa1.cs inst p hp;exact ia8 (b p hp) om
end Go.Id.Tryz
namespace Go.Id.Tryz
open Go Go.Id Go.Proofs Go.Id.Md
variable {H:Type} {enc:TypeId×Value->H} {w:World} {base:Nat} {sp:Nat->Bool} {held:Bool}
def jo5 {n:Nat}{t:TypeId}{d:DataW H}(a:Tryz.prog.underlying t=zi .bool)(h:Rd enc w base sp held n t d):∃b,d=.lit (.bool b)/\∀m,n<=m->dv Tryz.prog m t d=zi [.bool b]:=by
 have⟨cs,ps,h⟩:=h;have f:n≠0:=λe=>by subst e;simp[DataW.trod] at h
 obtain ⟨b,rfl,c⟩:=DataW.trod_bool a h;cases c;refine ⟨b,rfl,λm g=>?_⟩
 cases m with
 | zero=>omega
 | succ m=>simp only[dv,a]
def kg5:Tryz.prog.cellsOf 46=6:=by kernel_rfl
def jc8:Tryz.prog.cellsOf 88=2:=by kernel_rfl
def ku2:Tryz.prog.cellsOf 27=5:=by kernel_rfl
def kg6:Tryz.prog.cellsOf 4=1:=by kernel_rfl
def kg7:Tryz.prog.cellsOf 24=1:=by kernel_rfl
def jo6:Tryz.prog.cellsOf 25=1:=by kernel_rfl
def jo7 {n:Nat}{d:DataW H}(h:Rd enc w base sp held n 44 d)(j:WT Tryz.prog 44 d):∃e:Dep,(0<=e.op/\e.op<256)/\∀m,n<=m->dv Tryz.prog m 44 d=zi e.cs:=by
 obtain ⟨n',ds,rfl,rfl,k,hf⟩:=ax1 Tryz.underlying44 h j
 match ds,k with
 | [d0,d1,d2],_=>
  have⟨g,w0⟩:=hf 0 _ d0 rfl rfl;have⟨f,q⟩:=hf 1 _ d1 rfl rfl;have⟨c,a⟩:=hf 2 _ d2 rfl rfl;have⟨b,s,p⟩:=dd5 Tryz.underlying9 g w0;have⟨z,_,i,e1⟩:=bq6 Tryz.underlying5 f;have⟨e,r,e2⟩:=hi8 c a;refine ⟨⟨b,z,e⟩,kf3 i,λm u=>?_⟩
  cases m with
  | zero=>omega
  | succ m=>
   simp only[dv,Tryz.underlying44,zd,zr,dvF,p m om,e1 m om,e2 m om,EVR.cs,ze,zh,ip9,jn2,jn3,hj4,zf,zg,zl,zn,↓reduceIte];rfl
def kg8 {n:Nat}{d:DataW H}(h:Rd enc w base sp held n 46 d)(g:WT Tryz.prog 46 d):∃j:Job,(0<=j.dep.op/\j.dep.op<256)/\∀m,n<=m->dv Tryz.prog m 46 d=zi j.cs:=by
 obtain ⟨n',ds,rfl,rfl,i,hf⟩:=ax1 Tryz.underlying46 h g
 match ds,i with
 | [d0,d1],_=>
  have⟨c,w0⟩:=hf 0 _ d0 rfl rfl;have⟨b,a⟩:=hf 1 _ d1 rfl rfl;have⟨z,_,p,k⟩:=bq6 Tryz.underlying5 c;have⟨e,f,e1⟩:=jo7 b a;refine ⟨⟨z,e⟩,f,λm q=>?_⟩
  cases m with
  | zero=>omega
  | succ m=>
   simp only[dv,Tryz.underlying46,zd,zr,dvF,k m om,e1 m om,Dep.cs,ze,zh,jn2,hj4,kg5,zf,zg,zl,zn,↓reduceIte];rfl
def jo8 {n:Nat}{d:DataW H}(h:Rd enc w base sp held n 88 d)(c:WT Tryz.prog 88 d):∃e:be8,True/\∀m,n<=m->dv Tryz.prog m 88 d=zi e.cs:=by
 obtain ⟨n',ds,rfl,rfl,f,hf⟩:=ax1 Tryz.underlying88 h c
 match ds,f with
 | [d0,d1],_=>
  have⟨b,w0⟩:=hf 0 _ d0 rfl rfl;have⟨a,i⟩:=hf 1 _ d1 rfl rfl;have⟨z,_,j,g⟩:=bq6 Tryz.underlying5 b;have⟨y,_,k,e1⟩:=bq6 Tryz.underlying3 a;refine ⟨⟨z,y⟩,trivial,λm p=>?_⟩
  cases m with
  | zero=>omega
  | succ m=>
   simp only[dv,Tryz.underlying88,zd,zr,dvF,g m om,e1 m om,ze,zh,jn2,jn1,jc8,zf,zg,zl,zn,↓reduceIte];rfl
def jo9 {n:Nat}{d:DataW H}(h:Rd enc w base sp held n 24 d)(b:WT Tryz.prog 24 d):∃l:List Job,l.length<2^62/\(∀j∈l,0<=j.dep.op/\j.dep.op<256)/\∀m,n<=m->dv Tryz.prog m 24 d=zi [ax2 l]:=
 bg4 Job.cs (λj=>0<=j.dep.op/\j.dep.op<256) Tryz.underlying24 kg5 (by decide) (by decide +kernel) (λ_=>rfl) (λ_ _ _ hr a=>kg8 hr a) h b
def is5 {n:Nat}{d:DataW H}(h:Rd enc w base sp held n 25 d)(b:WT Tryz.prog 25 d):∃l:List be8,l.length<2^62/\(∀j∈l,True)/\∀m,n<=m->dv Tryz.prog m 25 d=zi [aw1 l]:=
 bg4 be8.cs (λ_=>True) Tryz.underlying25 jc8 (by decide) (by decide +kernel) (λ_=>rfl) (λ_ _ _ hr a=>jo8 hr a) h b
def kg9 {n:Nat}{d:DataW H}(h:Rd enc w base sp held n 27 d)(y:WT Tryz.prog 27 d):∃r:Req,(∀j∈r.ae8,0<=j.dep.op/\j.dep.op<256)/\∀m,n<=m->dv Tryz.prog m 27 d=zi r.cs:=by
 obtain ⟨n',ds,rfl,rfl,z,hf⟩:=ax1 Tryz.underlying27 h y
 match ds,z with
 | [d0,d1,d2,d3,d4],_=>
  have⟨u,w0⟩:=hf 0 _ d0 rfl rfl;have⟨s,D⟩:=hf 1 _ d1 rfl rfl;have⟨q,i⟩:=hf 2 _ d2 rfl rfl;have⟨p,g⟩:=hf 3 _ d3 rfl rfl;have⟨k,B⟩:=hf 4 _ d4 rfl rfl;have⟨f,_,_,A⟩:=bq6 Tryz.underlying5 u;have⟨e,_,e1⟩:=jo5 Tryz.underlying4 s;have⟨c,_,x,e2⟩:=jo9 q i;have⟨b,_,_,e3⟩:=is5 p g;have⟨a,_,_,e4⟩:=bq6 Tryz.underlying3 k;refine ⟨⟨f,e,c,b,a⟩,x,λm E=>?_⟩
  cases m with
  | zero=>omega
  | succ m=>
   simp only[dv,Tryz.underlying27,zd,zr,dvF,A m om,e1 m om,e2 m om,e3 m om,e4 m om,ze,zh,jn2,kg6,kg7,jo6,jn1,ku2,zf,zg,zl,zn,↓reduceIte];rfl
def kh1 {r:Req}(h:∀j∈r.ae8,0<=j.dep.op/\j.dep.op<256)(b:bi6 r.cs<=1048576):ef9 r:=by
 have hs:∀j:Job,bi6 j.cs=j.dep.name.length+j.dep.evr.ver.length+j.dep.evr.rel.length+6:=λj=>by
  simp only[Job.cs,bi6,isz];omega
 have d:∀e:be8,1<=bi6 e.cs:=λe=>by simp only[be8.cs,bi6,isz];omega
 simp only[Req.cs,bi6,isz] at b;have g:=ay3 Job.cs (λj=>by rw[hs];omega) r.ae8;have f:=ay3 be8.cs d r.ah9;refine ⟨om,om,λj a=>?_⟩;have c:=bx4 Job.cs r.ae8 j a;rw[hs] at c;exact ⟨⟨(h j a).1,(h j a).2,om,om⟩,om⟩
end Go.Id.Tryz
