/- Indexes asked: rows of one's own. Conditions: sizes that fit. -/
import Derived.Test.YthjhfdodeghbpaaGreatDoorTEQO
import Derived.Test.YthjhfdodeghbpaaGreatDoorFwRo
import Derived.Test.YthjhfdodeghbpaaGreatDoorTEQB
import Derived.Test.YthjhfdodeghbpaaGreatDoorMg
import Derived.Test.YthjhfdodeghbpaaGreatDoorMwa
open List renaming getD_eq_getElem?_getD→za,length_map→zb,getElem_mem→zd,length_append→zf,length_take→zg,take_length→zi,length_singleton→zl,getElem?_eq_getElem→zm,map_append→zp,append_nil→zq,mem_map→zt,range→zu,drop_length→zv,filter_append→zx,length_cons→zy,mem_cons→z2,map_nil→z3,append_assoc→z4,not_any_eq_all_not→z6,length_filter_le→z8,take_add_one→qb
open Nat renaming le_refl→zc,lt_succ_self→ze,le_add_right→zn,not_lt_zero→zo,zero_add→zw,le_trans→zz,mul_one→z5,add_zero→z7,lt_of_lt_of_le→qa
open Int renaming toNat_natCast→zh,natCast_one→z0,natCast_add→z1
open Option renaming some→zj,map_some→z9
open Bool renaming and_eq_true→zk,false_eq_true→zr
set_option linter.all false
set_option maxRecDepth 100000
set_option maxHeartbeats 1000000
private theorem om{P:Prop}(h:P:=by omega):P:=h
private theorem sm{P:Prop}(h:P:=by simp):P:=h
namespace Go.Id.Tryz
open Go Go.Id Go.Proofs Go.Id.Md
def fp3 {f:Nat}{args args':List IV}{σ:Store}{Q:IV->Store->Prop}(a:args'.length=args.length)(b:∀i,i<args.length->Frz σ (λ_=>true=true) (args.getD i .undef) (args'.getD i .undef))(h:Cq f args' σ Q):Cq f args σ Q :=
 fj4 (S:=λ_=>true) a b h
def ho9 (x:Index)(l:List Int)(N:l.length<2^30)(k:Nat)(cap:List IV)(w:Int->Bool)(o:okF Tryz.prog k=true)
  (J:∀n∈l,∃m:Nat,n=m/\∃h:m<x.all.length,Pq k (.agg x.all[m].cs::.int .i64 n::cap) (.bool (w n))) (σ:Store) :
  Cq 120 [x.v,.aa2 (l.map Md.ad1),.func (.func k) [] cap] σ (bj1 σ (l.filter w)):=by
 have D:x.v=.ab5 [.aa2 (x.all.map aa1.cs),.am2 (nmV x.au4),.am2 (nmV x.names),.am2 (nmV x.over)]:=rfl;rw[D];generalize IV.am2 (nmV x.au4)=v1 at *;generalize IV.am2 (nmV x.names)=v2 at *;generalize IV.am2 (nmV x.over)=v3 at *;refine C_f fok120 (nZ rfl) ?_;simp only[ic120,go_sem];refine aa9 noT (λi fr s=>∃g,fr=[(0,.ab5 [.aa2 (x.all.map aa1.cs),v1,v2,v3]),(2,.func (.func k) [] cap),(7,g),(10,.aa2 (l.map Md.ad1)),(11,.int .i64 l.length),(12,.int .i64 i)]/\Kept σ s/\ah7 s σ.next g ((l.take i).filter w)) l.length ⟨.aa5,rfl,Kept.refl σ,.inl ⟨rfl,rfl⟩⟩ ?_;rintro i fr s H ⟨g,rfl,p,f⟩;by_cases b:i<l.length
 .have⟨n,E,_,I,d,c⟩:=ad3 l i b;have u:(i:Int)<l.length:=om;have M:(0:Int)<=i:=om;have y:=ac6 (i:=i) om;obtain ⟨m,rfl,F,j⟩:=J n E;have L:(m:Int)<x.all.length:=om;have K:(0:Int)<=m:=om;have r:(x.all.map aa1.cs).getD m []=x.all[m].cs:=by simp[za,F]
  simp only[go_sem,u,M,L,K,d,Md.ad1,r,ad8,ad9,ac9,zh,zb];refine al7 o j ?_
  cases A:w (m:Int) with
  | false=>
   simp only[go_sem,y];have e:(l.take (i+1)).filter w=(l.take i).filter w:=by rw[c,zx];simp[A]
   rw[e]
   exact ⟨b,g,rfl,p,f⟩
  | true=>
   have B:((l.take i).filter w).length<=i:=by
    refine zz (z8 _ _) ?_;rw[zg];omega
   have t:=az4 (nid:=s.next) (f.up 1) (m:Int) om;have e:(l.take (i+1)).filter w=(l.take i).filter w++[(m:Int)]:=by rw[c,zx];simp[A]
   simp only[go_sem,t,y,e];have z:=bc2 p f (m:Int) (a:=1) (nid:=s.next) (zc _) (ze _) rfl;exact ⟨b,_,rfl,z.1,z.2⟩
 .have q:i=l.length:=om;subst q;have u:¬(l.length:Int)<l.length:=om;rw[zi] at f;simp only[go_sem,u];exact ⟨p,f⟩
open Go Go.Id Go.Proofs Go.Shelf Go.Id.Md
def ax9 (d:Job):d.cs.length=6:=rfl
def au7 (d:Job):d.cs.all IV.leaf=true:=rfl
def bh5 (d:Job):d.cs.take 6=d.cs:=rfl
def as3 (d:be8):d.cs.length=2:=rfl
def aj6 (d:be8):d.cs.all IV.leaf=true:=rfl
def aq2 (d:be8):d.cs.take 2=d.cs:=rfl
def hp4 (d:Job):∀c∈d.cs,Bnd 0 c:=ks5 (.int _ _) (.str _) (.int _ _) (.int _ _) (.str _) (.str _)
def fp4 (d:be8):∀c∈d.cs,Bnd 0 c:=ag7 (.int _ _) (.int _ _)
def ch3 (l:List Job):Bnd 0 (ax2 l):=.aa2 _ λe a c hc=>by
 obtain ⟨d,_,rfl⟩:=zt.1 a;exact hp4 d c hc
def bf4 (l:List be8):Bnd 0 (aw1 l):=.aa2 _ λe a c hc=>by
 obtain ⟨d,_,rfl⟩:=zt.1 a;exact fp4 d c hc
def is2 (d:Job):Bnd 0 (.agg d.cs):=.agg _ (hp4 d)
def ch4 (d:be8):Bnd 0 (.agg d.cs):=.agg _ (fp4 d)
def dh8 (xs:List Int)(g:Nat)(first cap:List IV)(q:Int->Bool)(o:xs.length<2^62)(d:okF Tryz.prog g=true)
  (k:∀x∈xs,Pq g (first++[IV.int .i64 x]++cap) (.bool (q x))):Pq 192 [.aa2 (xs.map Md.ad1),.func (.func g) first cap] (.int .i64 (ak4 q xs 0)):=by
 refine aw8 fok192 (nZ rfl) λσ=>?_
 simp only[ic192,go_sem];refine aa9 noT (λi fr s=>s=σ/\fr=[(0,.aa2 (xs.map Md.ad1)),(1,.func (.func g) first cap),(7,.int .i64 xs.length),(8,.int .i64 i)]/\ak4 q xs 0=ak4 q (xs.drop i) i) xs.length ⟨rfl,rfl,rfl⟩ ?_;rintro i fr s hi ⟨rfl,rfl,hf⟩;by_cases b:i<xs.length
 .have⟨x,m,_,f,c,_⟩:=ad3 xs i b;have h:(i:Int)<xs.length:=om;have n:(0:Int)<=i:=om;have j:=ac6 (i:=i) om;rw[f] at hf;simp only[go_sem,h,n,c,Md.ad1];refine ak7 d (ey8 (k x m)) ?_;rintro v s ⟨rfl,rfl⟩;refine ⟨zc _,?_⟩
  cases a:q x with
  | true=>simp only[go_sem,hf,ak4,a,and_self]
  | false=>
   simp only[go_sem,j];exact ⟨b,by rw[hf];simp only[ak4,a,zr,if_false,z1,z0]⟩
 .have e:i=xs.length:=om;subst e;have h:¬(xs.length:Int)<xs.length:=om;rw[zv] at hf;simp only[go_sem,h,hf,ak4,and_self]
def hp5 (xs:List Int)(g:Nat)(first cap:List IV)(q:Int->Bool)(c:xs.length<2^62)(a:okF Tryz.prog g=true)
  (b:∀x∈xs,Pq g (first++[IV.int .i64 x]++cap) (.bool (q x))):Pq 247 [.aa2 (xs.map Md.ad1),.func (.func g) first cap] (.bool (xs.any q)):=by
 refine aw8 fok247 (nZ rfl) λσ=>?_
 simp only[ic247,go_sem];refine aa4 fok192 (dh8 xs g first cap q c a b) ?_;simp only[go_sem,aw2,and_self]
def hp9 (xs:List Job)(g:Nat)(first cap:List IV)(q:Job->Bool)(o:xs.length<2^62)(d:okF Tryz.prog g=true)
  (k:∀x∈xs,Pq g (first++[IV.agg (Job.cs x)]++cap) (.bool (q x))):Pq 52 [.aa2 (xs.map Job.cs),.func (.func g) first cap] (.int .i64 (ak4 q xs 0)):=by
 refine aw8 fok52 (nZ rfl) λσ=>?_
 simp only[ic52,go_sem];refine aa9 noT (λi fr s=>s=σ/\fr=[(0,.aa2 (xs.map Job.cs)),(1,.func (.func g) first cap),(7,.int .i64 xs.length),(8,.int .i64 i)]/\ak4 q xs 0=ak4 q (xs.drop i) i) xs.length ⟨rfl,rfl,rfl⟩ ?_;rintro i fr s hi ⟨rfl,rfl,hf⟩;by_cases b:i<xs.length
 .have⟨x,m,_,f,c,_⟩:=ad3 xs i b;have h:(i:Int)<xs.length:=om;have n:(0:Int)<=i:=om;have j:=ac6 (i:=i) om;rw[f] at hf;simp only[go_sem,h,n,c,ax9,bh5,au7];refine ak7 d (ey8 (k x m)) ?_;rintro v s ⟨rfl,rfl⟩;refine ⟨zc _,?_⟩
  cases a:q x with
  | true=>simp only[go_sem,hf,ak4,a,and_self]
  | false=>
   simp only[go_sem,j];exact ⟨b,by rw[hf];simp only[ak4,a,zr,if_false,z1,z0]⟩
 .have e:i=xs.length:=om;subst e;have h:¬(xs.length:Int)<xs.length:=om;rw[zv] at hf;simp only[go_sem,h,hf,ak4,and_self]
def hq5 (xs:List Job)(g:Nat)(first cap:List IV)(q:Job->Bool)(c:xs.length<2^62)(a:okF Tryz.prog g=true)
  (b:∀x∈xs,Pq g (first++[IV.agg (Job.cs x)]++cap) (.bool (q x))):Pq 19 [.aa2 (xs.map Job.cs),.func (.func g) first cap] (.bool (xs.any q)):=by
 refine aw8 fok19 (nZ rfl) λσ=>?_
 simp only[ic19,go_sem];refine aa4 fok52 (hp9 xs g first cap q c a b) ?_;simp only[go_sem,aw2,and_self]
def gj2 (xs:List be8)(g:Nat)(first cap:List IV)(q:be8->Bool)(o:xs.length<2^62)(d:okF Tryz.prog g=true)
  (k:∀x∈xs,Pq g (first++[IV.agg (be8.cs x)]++cap) (.bool (q x))):Pq 57 [.aa2 (xs.map be8.cs),.func (.func g) first cap] (.int .i64 (ak4 q xs 0)):=by
 refine aw8 fok57 (nZ rfl) λσ=>?_
 simp only[ic57,go_sem];refine aa9 noT (λi fr s=>s=σ/\fr=[(0,.aa2 (xs.map be8.cs)),(1,.func (.func g) first cap),(7,.int .i64 xs.length),(8,.int .i64 i)]/\ak4 q xs 0=ak4 q (xs.drop i) i) xs.length ⟨rfl,rfl,rfl⟩ ?_;rintro i fr s hi ⟨rfl,rfl,hf⟩;by_cases b:i<xs.length
 .have⟨x,m,_,f,c,_⟩:=ad3 xs i b;have h:(i:Int)<xs.length:=om;have n:(0:Int)<=i:=om;have j:=ac6 (i:=i) om;rw[f] at hf;simp only[go_sem,h,n,c,as3,aq2,aj6];refine ak7 d (ey8 (k x m)) ?_;rintro v s ⟨rfl,rfl⟩;refine ⟨zc _,?_⟩
  cases a:q x with
  | true=>simp only[go_sem,hf,ak4,a,and_self]
  | false=>
   simp only[go_sem,j];exact ⟨b,by rw[hf];simp only[ak4,a,zr,if_false,z1,z0]⟩
 .have e:i=xs.length:=om;subst e;have h:¬(xs.length:Int)<xs.length:=om;rw[zv] at hf;simp only[go_sem,h,hf,ak4,and_self]
def gj3 (xs:List be8)(g:Nat)(first cap:List IV)(q:be8->Bool)(c:xs.length<2^62)(a:okF Tryz.prog g=true)
  (b:∀x∈xs,Pq g (first++[IV.agg (be8.cs x)]++cap) (.bool (q x))):Pq 22 [.aa2 (xs.map be8.cs),.func (.func g) first cap] (.bool (xs.any q)):=by
 refine aw8 fok22 (nZ rfl) λσ=>?_
 simp only[ic22,go_sem];refine aa4 fok57 (gj2 xs g first cap q c a b) ?_;simp only[go_sem,aw2,and_self]
def jo4 {a:Type}[DecidableEq a](xs:List a)(n:a):xs.any (λx=>decide (n=x))=decide (n∈xs):=by
 rw[Bool.eq_iff_iff];simp
def jc7 (a b:be8):ib8 [1,1] true false (.agg a.cs) (.agg b.cs)=zj (.bool (decide (a=b))):=by
 have e:decide (a=b)=(decide (a.kind=b.kind)&&decide (a.n=b.n)):=by
  cases a;cases b;simp only[be8.mk.injEq,Bool.decide_and]
 rw[e];unfold be8.cs;simp only[iy8,iz1,iy9,go_sem,z9,kn9,al1,Bool.xor_false,Bool.and_true]
def eq9 (xs:List be8)(n:be8)(j:xs.length<2^62):Pq 231 [aw1 xs,.agg n.cs] (.int .i64 (ak4 (λx=>decide (n=x)) xs 0)):=by
 refine af5 hE fok231 (nZ rfl) (ag7 (bf4 xs) (ch4 n)) ?_;simp only[ic231,go_sem,aj6];refine aa9 noT (λi fr s=>fr=[(0,aw1 xs),(3,.ab5 n.cs),(7,.int .i64 xs.length),(8,.int .i64 i)]/\ak4 (λx=>decide (n=x)) xs 0=ak4 (λx=>decide (n=x)) (xs.drop i) i) xs.length ⟨rfl,rfl⟩ ?_;rintro i fr s hi ⟨rfl,hf⟩;by_cases b:i<xs.length
 .have⟨x,k,_,f,a,_⟩:=ad3 xs i b;have c:(i:Int)<xs.length:=om;have g:(0:Int)<=i:=om;have h:=ac6 (i:=i) om;rw[f] at hf;by_cases e:n=x
  .simp only[go_sem,c,g,a,as3,aq2,aj6,jc7,e];subst e;exact bf8 (by rw[hf];simp[ak4])
  .simp only[go_sem,c,g,a,as3,aq2,aj6,jc7,e,h];exact ⟨b,by rw[hf];simp only[ak4,e,decide_false,zr,if_false,z1,z0]⟩
 .have d:i=xs.length:=om;subst d;have c:¬(xs.length:Int)<xs.length:=om;rw[zv] at hf;simp only[go_sem,c];exact bf8 (by rw[hf];rfl)
def gj4 (xs:List be8)(n:be8)(a:xs.length<2^62):Pq 180 [aw1 xs,.agg n.cs] (.bool (decide (n∈xs))):=by
 refine af5 hE fok180 (nZ rfl) (ag7 (bf4 xs) (ch4 n)) ?_;have h:=eq9 xs n a;have e:=aw2 (λx=>decide (n=x)) xs;rw[jo4] at e;simp only[ic180,go_sem,as3,aq2,aj6];refine aa4 fok231 (h) ?_;simp only[go_sem,e];exact ac8 rfl
def fe7 (xs:List Job)(i:xs.length<=2147483648):Pq 60 [.aa2 (xs.map Job.cs)] (.aa2 (xs.map Job.cs)):=by
 cases c:xs with
 | nil=>
  rw[z3];refine bp8 ?_ ?_
  .refine af5 hE fok60 (nZ rfl) (ae6 .aa5) ?_;simp only[ic60,go_sem,aj9];exact .by1
  .refine af5 hE fok60 (nZ rfl) (ae6 .af7) ?_;simp only[ic60,go_sem,aj9];rw[bm5 (by simp only[aa3,if_true]) rfl];simp only[go_sem]
   exact .dm8 _ _ _ (by simp only[aa3,if_true];exact λh=>(by cases h))
 | cons a as'=>
  have g:xs.map Job.cs≠[]:=by rw[c];exact λh=>(by cases h)
  have b:∀e∈xs.map Job.cs,e.length=6/\e.all IV.leaf=true:=λe j=>by
   obtain ⟨x,_,rfl⟩:=zt.1 j;exact ⟨ax9 x,au7 x⟩
  rw[<- c];refine af5 hE fok60 (nZ rfl) (ae6 (ch3 xs)) ?_;have f:∀d,ci5 (.slice d) (.aa2 (xs.map Job.cs))=zj false:=λd=>by rw[c];rfl
  simp only[ic60,go_sem,aj9,f];rw[bz8 (by simp only[aa3,if_true]) g b (by rw[zb];exact i)];simp only[go_sem];refine Grow.frz (esz:=6) (es:=xs.map Job.cs) (.inr ⟨1,by rw[zb],by simp only[aa3,if_true],ze _⟩) (λx c=>(b x c).1) (λ_ _=>zo _) (ap6 (ch3 xs))
def er1 (xs:List be8)(i:xs.length<=2147483648):Pq 61 [.aa2 (xs.map be8.cs)] (.aa2 (xs.map be8.cs)):=by
 cases c:xs with
 | nil=>
  rw[z3];refine bp8 ?_ ?_
  .refine af5 hE fok61 (nZ rfl) (ae6 .aa5) ?_;simp only[ic61,go_sem,aj9];exact .by1
  .refine af5 hE fok61 (nZ rfl) (ae6 .af7) ?_;simp only[ic61,go_sem,aj9];rw[bm5 (by simp only[aa3,if_true]) rfl];simp only[go_sem]
   exact .dm8 _ _ _ (by simp only[aa3,if_true];exact λh=>(by cases h))
 | cons a as'=>
  have g:xs.map be8.cs≠[]:=by rw[c];exact λh=>(by cases h)
  have b:∀e∈xs.map be8.cs,e.length=2/\e.all IV.leaf=true:=λe j=>by
   obtain ⟨x,_,rfl⟩:=zt.1 j;exact ⟨as3 x,aj6 x⟩
  rw[<- c];refine af5 hE fok61 (nZ rfl) (ae6 (bf4 xs)) ?_;have f:∀d,ci5 (.slice d) (.aa2 (xs.map be8.cs))=zj false:=λd=>by rw[c];rfl
  simp only[ic61,go_sem,aj9,f];rw[bz8 (by simp only[aa3,if_true]) g b (by rw[zb];exact i)];simp only[go_sem];refine Grow.frz (esz:=2) (es:=xs.map be8.cs) (.inr ⟨1,by rw[zb],by simp only[aa3,if_true],ze _⟩) (λx c=>(b x c).1) (λ_ _=>zo _) (ap6 (bf4 xs))
structure AOK (a:ac2):Prop where
 len:a.l.length<=256
 small:∀p∈a.l,Pkg.small p
 fit:∀p∈a.l,p.Fit
 tiny:∀p∈a.l,p.Tiny
 inst:a.p.inst<=a.l.length
 ae8:a.r.ae8.length<=64
 ah9:a.r.ah9.length<=128
 jv3:∀j∈a.r.ae8,Dep.small j.dep
 le5:∀j∈a.r.ae8,1<=j.kind/\j.kind<=4
def ai5 (a:ac2):Bnd 0 a.v:=.ab5 _ λc hc=>by
 simp only[ac2.cs,z2,List.not_mem_nil,or_false] at hc;rcases hc with rfl|rfl|rfl|rfl|rfl|rfl|rfl|rfl
 .exact ba4 _
 .exact az9 _
 .exact .int _ _
 .exact .bool _
 .exact ch3 _
 .exact bf4 _
 .exact .int _ _
 .exact au5 _
def an5 {d:TypeId}{c:IV}{cs:List IV}:ci5 (.pointer d) (.ab5 (c::cs))=zj false:=rfl
def cz9 (a:ac2)(n:Int):Pq 170 [a.v,.int .i64 n] (.bool (a.is n)):=by
 refine af5 hE fok170 (nZ rfl) (ag7 (ai5 a) (.int _ _)) ?_;unfold ac2.is ac2.v ac2.cs;have c:(a.l.map aa1.cs).length=a.l.length:=zb ..;generalize a.l.map aa1.cs=es at *;generalize a.l.length=k at *;by_cases b:0<=n
 .by_cases d:n<(k:Nat)
  .simp only[ic170,go_sem,an5,b,d,c];exact ac8 rfl
  .simp only[ic170,go_sem,an5,b,d,c];exact ac8 rfl
 .simp only[ic170,go_sem,an5,b];exact ac8 rfl
def es6 (a:ac2)(n:Int):Pq 132 [a.v,.int .i64 n] (.bool (a.job n)):=by
 refine af5 hE fok132 (nZ rfl) (ag7 (ai5 a) (.int _ _)) ?_;unfold ac2.job ac2.v ac2.cs;by_cases b:0<=n
 .by_cases c:n<(a.r.ae8.length:Nat)
  .simp only[ic132,go_sem,an5,b,c];exact ac8 (by simp[b, *])
  .simp only[ic132,go_sem,an5,b,c];exact ac8 (by simp[b, *])
 .simp only[ic132,go_sem,an5,b];exact ac8 rfl
def bl7 (a:ac2)(n:Int):Pq 123 [a.v,.int .i64 n] (.bool (a.inst n)):=by
 refine af5 hE fok123 (nZ rfl) (ag7 (ai5 a) (.int _ _)) ?_;have h:=cz9 a n;have hp:=aq1 a.p;unfold ac2.inst;unfold ac2.v ac2.cs at *;simp only[ic123,go_sem];refine aa4 fok170 (h) ?_
 cases a.is n with
 | false=>simp only[go_sem];exact ac8 rfl
 | true=>
  simp only[go_sem]
  first|refine aa4 fok25 (hp) ?_|refine aa8 (hp) ?_
  simp only[go_sem];exact ac8 rfl
def bx3 (a:ac2)(n:Int):Pq 113 [a.v,.int .i64 n] (.bool (a.fits n)):=by
 refine af5 hE fok113 (nZ rfl) (ag7 (ai5 a) (.int _ _)) ?_;have h:=cz9 a n;have hf:=jm6 a.r.al9 (a.pk n).al9;unfold ac2.fits
 cases hi:a.is n with
 | false=>
  rw[hi] at h;unfold ac2.v ac2.cs at *;simp only[ic113,go_sem];refine aa4 fok170 (h) ?_
  simp only[go_sem];exact ac8 rfl
 | true=>
  rw[hi] at h;unfold ac2.is at hi;simp only[zk,decide_eq_true_eq] at hi;have f:(a.l.map aa1.cs).length=a.l.length:=zb ..;have b:n.toNat<a.l.length:=om
  have d:(a.l.map aa1.cs).getD n.toNat []=(a.pk n).cs:=by
   unfold ac2.pk;rw[getD_at _ _ b];simp[za,b]
  have c:((a.pk n).cs.drop 4).head? = zj (.int .u8 (a.pk n).al9):=rfl;unfold ac2.v ac2.cs at *;generalize a.pk n=q at *;generalize a.l.map aa1.cs=es at *;have e:n<(es.length:Nat):=om;simp only[ic113,go_sem];refine aa4 fok170 (h) ?_;simp only[go_sem,hi.1,e,d,c,ad8];refine aa4 fok171 (hf) ?_;simp only[go_sem];exact ac8 rfl
def bh6 (a:ac2)(k n:Int)(b:AOK a):Pq 124 [a.v,.int .u8 k,.int .i64 n] (.bool (a.cf1 k n)):=by
 refine af5 hE fok124 (nZ rfl) (aw9 (ai5 a) (.int _ _) (.int _ _)) ?_;have h:=gj4 a.r.ah9 ⟨k,n⟩ (by have:=b.ah9;omega);unfold ac2.cf1;unfold ac2.v ac2.cs;unfold be8.cs at h;simp only[ic124,go_sem];refine aa4 fok180 (h) ?_;simp only[go_sem];exact ac8 rfl
def bo1 (a:ac2)(n:Int)(b:AOK a):Pq 117 [a.v,.int .i64 n] (.bool (a.dropped n)):=by
 refine af5 hE fok117 (nZ rfl) (ag7 (ai5 a) (.int _ _)) ?_;have h:=es6 a n;have c:=bh6 a 1 n b;unfold ac2.dropped;simp only[ic117,go_sem];refine aa4 fok132 (h) ?_
 cases a.job n with
 | false=>simp only[go_sem];exact ac8 rfl
 | true=>
  simp only[go_sem];refine aa4 fok124 (c) ?_;simp only[go_sem];exact ac8 rfl
def iw1 (a:ac2){n:Int}(h:a.is n=true):0<=n/\n<(a.l.map aa1.cs).length/\(a.l.map aa1.cs).getD n.toNat []=(a.pk n).cs/\a.pk n∈a.l:=by
 unfold ac2.is at h;simp only[zk,decide_eq_true_eq] at h;have b:n.toNat<a.l.length:=om;refine ⟨h.1,by rw[zb];exact h.2,?_,?_⟩
 .unfold ac2.pk;rw[getD_at _ _ b];simp[za,b]
 .unfold ac2.pk;rw[getD_at _ _ b];exact zd b
def fs4 (p:aa1):(p.cs.drop 1).length=14:=rfl
def ff9 (a:ac2)(n m:Int)(i:AOK a):Pq 115 [a.v,.int .i64 n,.int .i64 m] (.bool (a.twins n m)):=by
 refine af5 hE fok115 (nZ rfl) (aw9 (ai5 a) (.int _ _) (.int _ _)) ?_;have b:=cz9 a n;have c:=cz9 a m;unfold ac2.twins
 cases d:a.is n with
 | false=>
  rw[d] at b;unfold ac2.v ac2.cs at *;simp only[ic115,go_sem];refine aa4 fok170 (b) ?_
  simp only[go_sem];exact ac8 rfl
 | true=>
 cases f:a.is m with
 | false=>
  rw[d] at b;rw[f] at c;unfold ac2.v ac2.cs at *;simp only[ic115,go_sem];refine aa4 fok170 (b) ?_;simp only[go_sem];refine aa4 fok170 (c) ?_
  simp only[go_sem];exact ac8 rfl
 | true=>
 have⟨z,y,x,u⟩:=iw1 a d;have⟨E,D,B,A⟩:=iw1 a f;rw[d] at b;rw[f] at c;have h:=fn5 (a.pk n).al9 (a.pk m).al9;have g:=ax7 (a.pk n).evr (a.pk m).evr (i.small _ u).1 (i.small _ A).1;unfold ac2.ja3;unfold ac2.v ac2.cs at *;generalize a.pk n=p at *;generalize a.pk m=q at *;generalize a.l.map aa1.cs=es at *;by_cases e:n=m
 .simp only[ic115,go_sem];refine aa4 fok170 (b) ?_;simp only[go_sem];refine aa4 fok170 (c) ?_;simp only[go_sem,e];exact ac8 sm
 have t:p.cs.head? = zj (.str p.name):=rfl;have o:q.cs.head? = zj (.str q.name):=rfl;have r:(p.cs.drop 4).head? = zj (.int .u8 p.al9):=rfl;have j:(q.cs.drop 4).head? = zj (.int .u8 q.al9):=rfl;have s:(p.cs.drop 1).take 3=p.evr.cs:=rfl;have k:(q.cs.drop 1).take 3=q.evr.cs:=rfl;simp only[ic115,go_sem];refine aa4 fok170 (b) ?_;simp only[go_sem];refine aa4 fok170 (c) ?_;simp only[go_sem,e,z,y,x,E,D,B,ad8,ad9,ac9,t,o];by_cases e2:p.name=q.name
 .simp only[go_sem,e2,r,j];refine aa4 fok172 (h) ?_
  cases en2 p.al9 q.al9 with
  | false=>simp only[go_sem];exact ac8 rfl
  | true=>
   simp only[go_sem,ad8,s,k,fs4];refine aa4 fok127 (g) ?_;simp only[go_sem];exact ac8 sm
 .simp only[go_sem,e2];exact ac8 sm
def da1 (j:Job):(j.cs.drop 1).take 5=j.dep.cs:=rfl
def di4 (a:ac2)(k n:Int)(f:AOK a):Pq 125 [a.v,.int .u8 k,.int .i64 n] (.bool (a.ca4 k n)):=by
 refine af5 hE fok125 (nZ rfl) (aw9 (ai5 a) (.int _ _) (.int _ _)) ?_;have F:∀i:Nat,i<a.r.ae8.length->Pq 117 [a.v,.int .i64 i] (.bool (a.dropped i)):=λi _=>bo1 a i f
 have D:∀(i:Nat) (h:i<a.r.ae8.length),Pq 72 [(ad7 a.l).v,.agg (a.jb i).dep.cs] (.aa2 ((ap8 a.l (a.jb i).dep).map Md.ad1)):=λi h=>
  cb4 a.l (a.jb i).dep (by have:=f.len;omega) f.small (f.jv3 _ (by
   have e:a.jb i=a.r.ae8[i]:=by simp[ac2.jb,za,h]
   rw[e];exact zd h))
 have E:∀i:Nat,Pq 59 [.aa2 ((ap8 a.l (a.jb i).dep).map Md.ad1),.int .i64 n] (.bool (decide (n∈ap8 a.l (a.jb i).dep))):=λi=>
  eq1 _ n (by have K:=ai6 (λp=>named p (a.jb i).dep) a.l;have:=f.len;have:(ap8 a.l (a.jb i).dep).length<=a.l.length:=K;omega)
 have A:∀i:Nat,i<a.r.ae8.length->(a.r.ae8.map Job.cs).getD i []=(a.jb i).cs:=λi h=>by simp[ac2.jb,za,h]
 have z:=f.ae8;unfold ac2.ca4;unfold ac2.v ac2.cs at *;simp only[ic125,go_sem];generalize a.dropped=dr at *;generalize a.jb=jb at *;generalize ap8 a.l=nm at *;refine aa9 noT (λi fr s=>fr=[(0,.ab5 [a.p.v,(ad7 a.l).v,.int .u8 a.r.al9,.bool a.r.vendor,ax2 a.r.ae8,aw1 a.r.ah9,.int .i64 a.r.budget,.aa2 (a.l.map aa1.cs)]),(1,.int .u8 k),(2,.int .i64 n),(13,.aa2 (a.r.ae8.map Job.cs)),(14,.int .i64 a.r.ae8.length),(15,.int .i64 (i:Int))]/\((zu i).any λi=>decide ((jb i).kind=k)&&!dr i&&decide (n∈nm (jb i).dep))=false) a.r.ae8.length ⟨rfl,rfl⟩ ?_;rintro i fr t hi ⟨rfl,hf⟩;by_cases c:i<a.r.ae8.length
 .have y:(i:Int)<a.r.ae8.length:=om;have L:(0:Int)<=i:=om;have q:=ac6 (i:=i) om;have x:=A i c;have o:=F i c;have g:=D i c;have m:=E i
  have d:∀b,(decide ((jb i).kind=k)&&!dr i&&decide (n∈nm (jb i).dep))=b->(b=true->((zu a.r.ae8.length).any λi=>decide ((jb i).kind=k)&&!dr i&&decide (n∈nm (jb i).dep))=true)/\(b=false->((zu i++[i]).any λi=>decide ((jb i).kind=k)&&!dr i&&decide (n∈nm (jb i).dep))=false):=by
   intro b B;refine ⟨λh=>List.any_eq_true.2 ⟨i,List.mem_range.2 c,by rw[B];exact h⟩,λh=>?_⟩;rw[List.any_append,hf];simp only[List.any_cons,List.any_nil,Bool.or_false,Bool.false_or,B,h]
  clear F D E A;have J:(jb i).cs.head? = zj (.int .u8 (jb i).kind):=rfl;have I:=da1 (jb i);have H:((jb i).cs.drop 1).length=5:=rfl;generalize jb i=j at *;simp only[go_sem,y,L,x,ax9,bh5,au7,J];by_cases e1:j.kind=k
  .simp only[go_sem,e1]
   first|refine aa4 fok117 (o) ?_|refine aa8 (o) ?_
   cases e2:dr (i:Int) with
   | true=>
    simp only[go_sem,q]
    exact ⟨c,(d _ rfl).2 (by simp[e2])⟩
   | false=>
    simp only[go_sem,I,H]
    first|refine aa4 fok72 (g) ?_|refine aa8 (g) ?_
    simp only[go_sem]
    first|refine aa4 fok59 (m) ?_|refine aa8 (m) ?_
    by_cases e3:n∈nm j.dep
    .simp only[go_sem,e3];exact ac8 ((d _ rfl).1 (by simp[e1,e2,e3])).symm
    .simp only[go_sem,e3,q];exact ⟨c,(d _ rfl).2 (by simp[e3])⟩
  .simp only[go_sem,e1,q];exact ⟨c,(d _ rfl).2 (by simp[e1])⟩
 .have u:i=a.r.ae8.length:=om;subst u;have y:¬(a.r.ae8.length:Int)<(a.r.ae8.length:Int):=om;simp only[go_sem,y];exact ac8 hf.symm
def gl1 (a:ac2)(n:Int)(b:AOK a):Pq 116 [a.v,.int .i64 n] (.bool (a.goes n)):=by
 refine af5 hE fok116 (nZ rfl) (ag7 (ai5 a) (.int _ _)) ?_;have h:=bl7 a n;have d:=di4 a 2 n b;have c:=bh6 a 2 n b;unfold ac2.goes;simp only[ic116,go_sem];refine aa4 fok123 (h) ?_
 cases a.inst n with
 | false=>simp only[go_sem];exact ac8 rfl
 | true=>
  simp only[go_sem];refine aa4 fok125 (d) ?_
  cases a.ca4 2 n with
  | true=>simp only[go_sem];exact ac8 rfl
  | false=>
   simp only[go_sem];refine aa4 fok124 (c) ?_;simp only[go_sem];exact ac8 rfl
def fg1 {f:Type}(q:f->Bool):∀(l:List f) (i:Int),ak4 q l i=-1/\(∀x∈l,q x=false)\/∃k,∃h:k<l.length,ak4 q l i=i+k/\q l[k]=true/\∀x∈l.take k,q x=false:=by
 intro l
 induction l with
 | nil=>intro i;exact .inl ⟨rfl,λx h=>by cases h⟩
 | cons a l ih=>
  intro i;simp only[ak4]
  cases c:q a with
  | true=>exact .inr ⟨0,by simp,by simp,by simpa using c,λx h=>by cases h⟩
  | false=>
   simp only[zr,if_false];rcases ih (i+1) with ⟨e,d⟩|⟨k,h,e,d,g⟩
   .exact .inl ⟨e,λx b=>by
     rcases z2.1 b with rfl|b
     .exact c
     .exact d x b⟩
   .refine .inr ⟨k+1,by simp only[zy];omega,by rw[e];omega,by simpa using d,λx b=>?_⟩;rw[List.take_succ_cons] at b;rcases z2.1 b with rfl|b
    .exact c
    .exact g x b
def di5 {q:Int->Bool}{l:List Int}(h:∀x∈l,q x=false):(l.filter λx=>!q x)=l:=List.filter_eq_self.2 λx a=>by rw[h x a];rfl
def fs5 {σ:Store}{id:Nat}{cs:List IV}{zs:List Int}(c:σ.obj id=zj (.row cs))(b:cs.take zs.length=zs.map bg1)(d:zs.length<=cs.length):cc3 σ 0 (.slice id 0 zs.length 1) (.aa2 (zs.map Md.ad1)):=by
 refine .slice id 0 zs.length 1 cs (zs.map Md.ad1) (zo _) (.inr c) (by rw[zb]) om (λi hi=>?_) λi hi j e=>?_
 .simp[za,hi,Md.ad1]
 .have a:j=0:=om;subst a;have e2:((zs.map Md.ad1).getD i []).getD 0 .undef=bg1 zs[i]:=by simp[za,hi,Md.ad1]
  rw[e2,zw,z5,z7,eb2 b hi];exact .keep _ (.int _ _)
def es7 {σ:Store}{id g:Nat}{cap f:List IV}{zs:List Int}(q:Int->Bool)(hz:zs.length<2^40)(L:σ.obj id=zj (.row f))(o:f.take zs.length=zs.map bg1)(E:zs.length<=f.length)
  (B:okF Tryz.prog g=true) (F:∀c∈cap,Bnd 0 c) (p:∀z∈zs,Pq g (.int .i64 z::cap) (.bool (q z))) :
  Cq 134 [.slice id 0 zs.length 1,.func (.func g) [] cap] σ (λv s=>σ.next<=s.next/\(∀i,i≠id->s.obj i=σ.obj i) /\
   ∃cs,v=.slice id 0 (zs.filter λx=>!q x).length 1/\s.obj id=zj (.row cs)/\cs.take (zs.filter λx=>!q x).length=(zs.filter λx=>!q x).map bg1/\(zs.filter λx=>!q x).length<=cs.length):=by
 refine C_f fok134 (nZ rfl) ?_;simp only[ic134,go_sem]
 have hI:=bq4 (σ:=σ) (args:=[.slice id 0 zs.length 1,.func (.func g) [] cap]) (args':=[.aa2 (zs.map Md.ad1),.func (.func g) [] cap]) hE rfl (λi hi=>by
  match i,hi with
  | 0,_=>exact fs5 L o E
  | 1,_=>exact .keep _ (.func _ _ _ (λc hc=>by cases hc) F)) (by simp[IV.plain]) (dh8 zs g [] cap q om B p)
 refine ab8 fok192 hI ?_;rintro v s ⟨rfl,rfl⟩;refine ⟨zc _,?_⟩;rcases fg1 q zs 0 with ⟨T,Q⟩|⟨a,P,T,Q,h3⟩
 .simp only[go_sem,T,di5 Q];exact ⟨zc _,λ_ _=>trivial,f,L,o,E⟩
 have S:ak4 q zs 0=(a:Int):=by rw[T];omega
 have d1:¬(a:Int)=-1:=om;have w0:=ac6 (i:=a) om;simp only[go_sem,S,d1,w0]
 refine aa9 noT (λj fr t=>∃(k:Nat) (cs:List IV),fr=[(0,.slice id 0 zs.length 1),(1,.func (.func g) [] cap),(5,.int .i64 (k:Int)),(6,.int .i64 ((a+1+j:Nat):Int))] /\
  (s.next<=t.next/\∀q,q≠id->t.obj q=s.obj q)/\t.obj id=zj (.row cs)/\cs.length=f.length/\k<=a+j/\a+1+j<=zs.length/\k=((zs.take (a+1+j)).filter λx=>!q x).length/\cs.take k=((zs.take (a+1+j)).filter λx=>!q x).map bg1 /\
  ∀(x:Nat) (h:x<zs.length),a+j<x->(cs.drop x).head? = zj (.int .i64 zs[x])) (zs.length-(a+1)) ?_ ?_
 .have e:((zs.take (a+1)).filter λx=>!q x)=zs.take a:=by
   rw[qb,zm P,zx,di5 h3];simp[Q]
  refine ⟨a,f,rfl,⟨zc _,λ_ _=>rfl⟩,L,rfl,om,om,?_,?_,λx h _=>?_⟩
  .rw[z7,e,zg];omega
  .rw[z7,e,List.map_take,<- o,List.take_take];congr 1;omega
  .have:=eb2 o h;rw[List.head?_drop];rw[za,zm om] at this;rw[zm om];exact congrArg zj this
 rintro j fr t hj ⟨k,cs,rfl,⟨I,H⟩,m,r,Y,X,d,n,y⟩;by_cases D:j<zs.length-(a+1)
 .have e1:((a+1+j:Nat):Int)<zs.length:=om;have e2:(0:Int)<=((a+1+j:Nat):Int):=om;have A:a+1+j<zs.length:=om;have g1:=y (a+1+j) A om;have U:=ac6 (i:=a+1+j) om;have W:=ac6 (i:=k) om;have K:=p _ (zd A);have e3:(0:Int)<=(k:Int):=om;have e4:(k:Int)<zs.length:=om;have e5:k+1<=cs.length:=om
  have b:(zs.take (a+1+j+1)).filter (λx=>!q x)=(zs.take (a+1+j)).filter (λx=>!q x)++if q zs[a+1+j] then [] else [zs[a+1+j]]:=by
   rw[qb,zm A,zx];congr 1;simp only[Option.toList,List.filter_cons,List.filter_nil];cases q zs[a+1+j]<;>rfl
  simp only[go_sem,e1,e2,m,g1,zh,zw,z5];refine ak7 B (ey8 K) ?_;rintro v u ⟨rfl,rfl⟩;refine ⟨zc _,?_⟩
  cases V:q zs[a+1+j] with
  | true=>
   rw[V,if_pos rfl,zq] at b;simp only[go_sem,U]
   exact ⟨D,k,cs,rfl,⟨I,H⟩,m,r,om,om,by rw[show a+1+(j+1)=a+1+j+1 by omega,b];exact d,by rw[show a+1+(j+1)=a+1+j+1 by omega,b];exact n,λx h A=>y x h om⟩
  | false=>
   rw[V,if_neg sm] at b;simp only[go_sem,U,W,e3,e4,e5,m,zh,zw,z5];refine ⟨D,k+1,ay4 cs k [.int .i64 zs[a+1+j]],rfl,⟨I,λq p=>?_⟩,?_,?_,om,om,?_,?_,λx h A=>?_⟩
   .simp only[if_neg p];exact H q p
   .rfl
   .rw[af8 (by rw[zl];omega)];exact r
   .rw[show a+1+(j+1)=a+1+j+1 by omega,b,zf,<- d];rfl
   .rw[show a+1+(j+1)=a+1+j+1 by omega,b,dw9 om,n,zp];rfl
   .rw[dx1 om om];exact y x h om
 .have N:a+1+j=zs.length:=om;have e1:¬((a+1+j:Nat):Int)<zs.length:=om;rw[N,zi] at d n;have M:k<zs.length:=om;simp only[go_sem,e1,ho5 (show k<=zs.length by omega),jc6 (show k<=zs.length by omega),m,kg2,ho6 m M om];have J:(rep [IV.int .i64 0] (zs.length-k)).length=zs.length-k:=by rw[ar9];simp
  refine ⟨I,λq p=>?_,ay4 cs k (rep [IV.int .i64 0] (zs.length-k)),by rw[d],by simp only[aa3,if_true],?_,?_⟩
  .simp only[aa3,if_neg p];exact H q p
  .rw[<- d,eq8 om];exact n
  .rw[af8 (by rw[J];omega),<- d];omega
def fg2 (a:ac2)(c b:Bool)(old q:aa1)(o:Pkg.small old)(n:Pkg.small q):Pq 126 [.agg q.cs,.ab5 old.cs,.ab5 [.bool c],.ab5 [.bool b],.ab5 [a.v]] (.bool (ac2.en3 a.r.vendor c b old q)):=by
 refine af5 hE fok126 (nZ rfl) (kb2 (ap5 _) (.ab5 _ (ag4 _)) (.ab5 _ (al3 (.bool _))) (.ab5 _ (al3 (.bool _))) (.ab5 _ (al3 (ai5 a)))) ?_;have hf:=gh7 q.al9 old.al9;have d:=ax7 q.evr old.evr n.1 o.1;have h:q.cs.head? = zj (.str q.name):=rfl;have f:old.cs.head? = zj (.str old.name):=rfl;have k:(q.cs.drop 4).head? = zj (.int .u8 q.al9):=rfl;have i:(old.cs.drop 4).head? = zj (.int .u8 old.al9):=rfl;have g:(q.cs.drop 5).head? = zj (.str q.vendor):=rfl;have e:(old.cs.drop 5).head? = zj (.str old.vendor):=rfl;have m:(q.cs.drop 1).take 3=q.evr.cs:=rfl;have j:(old.cs.drop 1).take 3=old.evr.cs:=rfl;unfold ac2.en3;unfold ac2.v ac2.cs;by_cases e1:q.name=old.name
 case neg=>
  simp only[ic126,go_sem,ad8,ad9,ac9,h,f,e1];exact ac8 sm
 simp only[ic126,go_sem,ad8,ad9,ac9,h,f,e1];cases c
 case' true=>simp only[go_sem]
 case' false=>
  simp only[go_sem,fs4,m,j];refine aa4 fok127 (d) ?_;by_cases e2:0<=ao6 q.evr old.evr
  case neg=>
   simp only[go_sem,e2];exact ac8 sm
  simp only[go_sem,e2]
 all_goals
  cases b
  case' true=>simp only[go_sem]
  case' false=>
   simp only[go_sem,k,i];refine aa4 fok128 (hf) ?_;cases cy5 q.al9 old.al9
   case false=>
    simp only[go_sem];exact ac8 sm
   simp only[go_sem]
  all_goals
   cases a.r.vendor
   case true=>
    simp only[go_sem];exact ac8 sm
   by_cases e3:q.vendor=old.vendor
   .simp only[go_sem,g,e,e3];exact ac8 sm
   .simp only[go_sem,g,e,e3];exact ac8 sm
def di6 (l:List aa1)(n:Nat)(hl:l.length<2^20)(hn:n<l.length)(hs:∀p∈l,Pkg.small p)(σ:Store):Cq 129 [(ad7 l).v,.int .i64 n] σ (bj1 σ (am6 l n)):=by
 have hi:=bi4 l;have hlook:=hi.over (l.getD n default).name
 have hsift:∀(σ:Store) v,(v=.aa2 ((ad6 (ad7 l).over (l.getD n default).name).map Md.ad1)\/v=.aa5/\ad6 (ad7 l).over (l.getD n default).name=[])->Cq 120 [(ad7 l).v,v,.func (.func 187) [] [.ab5 [.int .i64 n],.ab5 [(ad7 l).v]]] σ (bj1 σ (am6 l n)):=by
  intro σ v hv
  have h:=ho9 (ad7 l) (ad6 (ad7 l).over (l.getD n default).name) (by rw[hlook];have:=ai6 (λp=>decide (∃d∈p.ab2,d.name=(l.getD n default).name)) l;omega) 187 [.ab5 [.int .i64 n],.ab5 [(ad7 l).v]] (λk=>decide (k.toNat≠n)&&ab2 (l.getD k.toNat default) (l.getD n default)) fok187.1 (λk hk=>by
   rw[hlook] at hk;obtain ⟨m,rfl,hm⟩:=numsOf_at hk;refine ⟨m,rfl,by rw[hi.all];exact hm,?_⟩;have e:(ad7 l).all[m]'(by rw[hi.all];exact hm)=l[m]:=by simp only[hi.all]
   rw[e,zh,getD_at l m hm,getD_at l n hn];exact hn9 l m n hm hn hs) σ
  have e:am6 l n=(ad6 (ad7 l).over (l.getD n default).name).filter λk=>decide (k.toNat≠n)&&ab2 (l.getD k.toNat default) (l.getD n default):=rfl
  rw[<- e] at h;rcases hv with rfl|⟨rfl,h0⟩
  .exact h
  .rw[h0] at h;refine fp3 (args':=[(ad7 l).v,.aa2 [],.func (.func 187) [] [.ab5 [.int .i64 n],.ab5 [(ad7 l).v]]]) rfl (λi hi=>?_) h;have hw:∀ {v:IV} {σ:Store},Bnd 0 v->Frz σ (λ_=>true=true) v v:=λh=>.keep _ (h.weak λ_ _=>rfl)
   have hb:=az9 (ad7 l)
   match i,hi with
   | 0,_=>exact hw hb
   | 1,_=>exact .by1
   | 2,_=>exact hw (.func _ _ _ (λc hc=>by cases hc) (ag7 (.ab5 _ (al3 (.int _ _))) (.ab5 _ (al3 hb))))
 have hx:(ad7 l).v=.ab5 [.aa2 (l.map aa1.cs),.am2 (nmV (ad7 l).au4),.am2 (nmV (ad7 l).names),.am2 (nmV (ad7 l).over)]:=by
  show IV.ab5 [.aa2 ((ad7 l).all.map aa1.cs),_,_,_]=_;rw[hi.all]
 have his:=jo2 (ad7 l) n
 have i1:(decide ((0:Int)<=(n:Int))&&decide ((n:Int)<(ad7 l).all.length))=true:=by
  rw[hi.all];simp only[zk,decide_eq_true_eq];omega
 rw[i1] at his
 have hk0:∀σ:Store,∃v,cj3 σ 2 .aa5 false (.am2 (nmV (ad7 l).over)) (.str (l.getD n default).name)=zj v/\∀τ,Cq 120 [(ad7 l).v,v,.func (.func 187) [] [.ab5 [.int .i64 n],.ab5 [(ad7 l).v]]] τ (bj1 τ (am6 l n)):=λσ=>
  let ⟨v,h1,h2⟩:=eq7 (ad7 l).over σ (l.getD n default).name
  ⟨v,h1,λτ=>hsift τ v h2⟩
 have hg:(l.map aa1.cs).getD n []=l[n].cs:=by simp[za,hn]
 have hnm:(l.getD n default).name=l[n].name:=by rw[getD_at l n hn]
 have p0:l[n].cs.head? = zj (.str l[n].name):=rfl;have hle:(l.map aa1.cs).length=l.length:=zb ..;clear hsift hlook i1;rw[hnm] at hk0;rw[hx] at hk0 his ⊢;generalize am6 l n=res at *;generalize l.map aa1.cs=a0 at *;generalize l[n]=q at *;have c1:(0:Int)<=n:=om;have c2:(n:Int)<a0.length:=om;refine C_f fok129 (nZ rfl) ?_;simp only[ic129,go_sem];refine aa4 fok186 (his) ?_;simp only[go_sem,c1,c2,hg,p0,bc6,ax8,au2];have⟨v,hk,hsv⟩:=hk0 ⟨σ.next+17,σ.obj⟩;simp only[go_sem,hk];refine ab8 fok120 (hsv _) ?_;rintro v' s ⟨hkp,hr⟩;refine ⟨hkp.next,?_⟩;simp only[go_sem];exact ⟨hkp.low,hr.low (zn _ _)⟩
def eg9 {σ:Store}{id:Nat}{cs:List IV}(a:σ.obj id=zj (.cells cs))(d:∀c∈cs,Bnd 0 c):cc3 σ 0 (.ptr id 0) (.ab5 cs):=by
 refine .ptr id 0 cs cs (zo _) (.inl a) om (λj b=>?_);rw[zw];exact .keep _ (d _ (ad5 _ b))
def kj4 (zs:List Int):(jo3 zs).Pairwise (·<=·):=by
 refine List.Pairwise.imp (λh=>of_decide_eq_true h) (List.pairwise_mergeSort (le:=λx y:Int=>decide (x<=y)) (λa b c e d=>?_) (λa b=>?_) _)
 .exact decide_eq_true (Int.le_trans (of_decide_eq_true e) (of_decide_eq_true d))
 .rcases Int.le_total a b with h|h
  .simp[h]
  .simp[h]
def ct7 (a:ac2)(i:Int)(hA:AOK a)(σ:Store):Cq 74 [a.v,.int .i64 i] σ (ji4 σ (a.an3 i)):=by
 have hin:=bl7 a i;refine C_f fok74 (nZ rfl) ?_;unfold ac2.an3
 cases hi:a.inst i with
 | false=>
  rw[hi] at hin;unfold ac2.v ac2.cs at *;simp only[ic74,go_sem];refine aa4 fok123 (hin) ?_;simp only[go_sem]
  exact ⟨Kept.refl σ,.inl ⟨rfl,rfl⟩⟩
 | true=>
 rw[hi] at hin;have his:a.is i=true:=by unfold ac2.inst at hi;exact (zk _ _▸hi).1
 have⟨i1,i2,i3,i4⟩:=iw1 a his;obtain ⟨m,rfl⟩:∃m:Nat,i=m:=⟨i.toNat,om⟩;have hml:m<a.l.length:=by rw[zb] at i2;omega
 have e3:=bh6 a 3 m hA;have e4:=bh6 a 4 m hA;have n4:=di4 a 4 m hA;have hob:=di6 a.l m (by have:=hA.len;omega) hml hA.small;have hlen:=hA.len
 have hall:∀n (h:n<a.l.length),(a.l.map aa1.cs).getD n []=(a.pk n).cs/\a.pk (n:Int)∈a.l:=λn h=>by
  have hn:a.is (n:Int)=true:=by rw[ac2.bq8];exact decide_eq_true h
  have⟨_,_,h3,h4⟩:=iw1 a hn;exact ⟨by simpa using h3,h4⟩
 have hfl:∀down other n (h:n<a.l.length),Pq 126 [.agg (a.pk n).cs,.ab5 (a.pk m).cs,.ab5 [.bool down],.ab5 [.bool other],.ab5 [a.v]] (.bool (ac2.en3 a.r.vendor down other (a.pk m) (a.pk n))):=
  λdown other n h=>fg2 a down other _ _ (hA.small _ i4) (hA.small _ (hall n h).2)
 have hba:=ai5 a;unfold ac2.kx5;unfold ac2.v ac2.cs at *;generalize (ad7 a.l).v=X at *;generalize a.p.v=Pv at *;have c0:(0:Int)<=m:=om;have c2:(m:Int)<a.l.length:=om;have hgm:=(hall m hml).1;generalize hdn:(a.cf1 3 m||a.ca4 4 m)=down;generalize hot:a.cf1 4 m=other at *;simp only[ic74,go_sem];refine aa4 fok123 (hin) ?_;simp only[go_sem,c0,c2,hgm,ad8,ad9,ac9];cases h3:a.cf1 3 m
 case' true=>
  rw[h3] at hdn e3;have hd:true=down:=by simpa using hdn
  refine aa4 fok124 (e3) ?_;simp only[go_sem]
 case' false=>
  rw[h3] at hdn e3;have hd:a.ca4 4 m=down:=by simpa using hdn
  refine aa4 fok124 (e3) ?_;simp only[go_sem];refine aa4 fok125 (n4) ?_;simp only[go_sem]
 all_goals
  refine aa4 fok124 (e4) ?_;simp only[go_sem];refine ab8 fok129 (hob _) ?_;rintro v s ⟨hk0,hr0⟩;refine ⟨hk0.next,?_⟩;simp only[go_sem];have g1:¬σ.next=σ.next+1+1:=om;have g2:¬σ.next=σ.next+1:=om;have g3:¬σ.next+1=σ.next+1+1:=om;have b5:s.obj σ.next=zj (.cells (a.pk m).cs):=(hk0.obj σ.next (by show σ.next<σ.next+_;omega)).trans (by simp only[aa3,g1,g2,if_true,if_false]);have b6:s.obj (σ.next+1)=zj (.cells [.bool down]):=(hk0.obj (σ.next+1) (by show σ.next+1<σ.next+_;omega)).trans (by simp only[aa3,g3,if_true,if_false,hd]);have b7:s.obj (σ.next+1+1)=zj (.cells [.bool other]):=(hk0.obj (σ.next+1+1) (by show σ.next+1+1<σ.next+_;omega)).trans (by simp only[aa3,if_true])
  have blo:∀i,i<σ.next->s.obj i=σ.obj i:=λi hi=>(hk0.obj i (by show i<σ.next+_;omega)).trans (by
   have u1:¬i=σ.next:=om;have u2:¬i=σ.next+1:=om;have u3:¬i=σ.next+1+1:=om;simp only[aa3,u1,u2,u3,if_false])
  have bnx:σ.next+1+1+1<=s.next:=zz (by show σ.next+1+1+1<=σ.next+_;omega) hk0.next;have hr1:ah7 s (σ.next+1+1+1) v (am6 a.l m):=hr0.low (by show σ.next+1+1+1<=σ.next+_;omega);clear hk0 hr0 hob e3 e4 n4 hin;generalize hq:(λn:Nat=>decide ((n:Int)=m)||ac2.en3 a.r.vendor down other (a.pk m) (a.pk n))=qq;have hqn:∀n,qq n=(decide ((n:Int)=m)||ac2.en3 a.r.vendor down other (a.pk m) (a.pk n)):=λn=>by rw[<- hq]
  have hobl:=dh6 a.l m;have obm:=λk=>dh5 (l:=a.l) (n:=m) (k:=k)
  generalize am6 a.l m=ob at *
  refine aa9 noT (λn fr t=>∃gv,fr=[(1,.int .i64 (m:Int)),(8,.func (.func 126) [] [.ptr σ.next 0,.ptr (σ.next+1) 0,.ptr (σ.next+1+1) 0,.ab5 [.ab5 [Pv,X,.int .u8 a.r.al9,.bool a.r.vendor,ax2 a.r.ae8,aw1 a.r.ah9,.int .i64 a.r.budget,.aa2 (a.l.map aa1.cs)]]]),(9,gv),(44,.aa2 (a.l.map aa1.cs)),(45,.int .i64 a.l.length),(46,.int .i64 (n:Int))] /\
   Kept ⟨σ.next+1+1+1,s.obj⟩ t/\ah7 t (σ.next+1+1+1) gv (ob++aj5 qq n)) a.l.length ⟨v,rfl,⟨bnx,λ_ _=>rfl⟩,by rw[show aj5 qq 0=[] from rfl,zq];exact hr1⟩ ?_
  rintro n fr t hn ⟨gv,rfl,hk,hg⟩;by_cases hlt:n<a.l.length
  .have d1:(n:Int)<a.l.length:=om;have d2:(0:Int)<=n:=om;have w1:=ac6 (i:=n) om;have hgn:=(hall n hlt).1;have hpn:=hfl down other n hlt;have hsn:=bd3 qq n;have hln:=ai3 qq n;have hzl:(ob++aj5 qq n).length<2147483648:=by rw[zf];omega
   have n5:¬σ.next=t.next:=by have:=hk.next;show ¬_;intro e;have:σ.next+1+1+1<=t.next:=this;omega
   have n6:¬σ.next+1=t.next:=by have:=hk.next;intro e;have:σ.next+1+1+1<=t.next:=this;omega
   have n7:¬σ.next+1+1=t.next:=by have:=hk.next;intro e;have:σ.next+1+1+1<=t.next:=this;omega
   have t5:=(hk.obj σ.next (by show σ.next<σ.next+1+1+1;omega)).trans b5;have t6:=(hk.obj (σ.next+1) (by show σ.next+1<σ.next+1+1+1;omega)).trans b6;have t7:=(hk.obj (σ.next+1+1) (by show σ.next+1+1<σ.next+1+1+1;omega)).trans b7;by_cases e:(n:Int)=m
   case' pos=>
    have hqt:qq n=true:=by rw[hqn,e];simp
    have e':n=m:=om;subst e';simp only[go_sem,d1,d2,hgn,ad8,ad9,ac9,eq_self]
   case' neg=>
    simp only[go_sem,d1,d2,hgn,ad8,ad9,ac9,e]
    refine ak7 fok126.1 (bq4 (args':=[.agg (a.pk n).cs,.ab5 (a.pk m).cs,.ab5 [.bool down],.ab5 [.bool other],.ab5 [.ab5 [Pv,X,.int .u8 a.r.al9,.bool a.r.vendor,ax2 a.r.ae8,aw1 a.r.ah9,.int .i64 a.r.budget,.aa2 (a.l.map aa1.cs)]]]) hE rfl (λi hi=>by
     match i,hi with
     | 0,_=>exact .keep _ (ap5 _)
     | 1,_=>exact eg9 (by simp only[aa3,n5,if_false];exact t5) (ag4 _)
     | 2,_=>exact eg9 (by simp only[aa3,n6,if_false];exact t6) (al3 (.bool _))
     | 3,_=>exact eg9 (by simp only[aa3,n7,if_false];exact t7) (al3 (.bool _))
     | 4,_=>exact .keep _ (.ab5 _ (al3 hba))) (by simp[IV.plain]) hpn) ?_
    rintro v' u ⟨rfl,rfl⟩;refine ⟨zc _,?_⟩;cases hfb:ac2.en3 a.r.vendor down other (a.pk m) (a.pk n)
    case' false=>
     have hqt:qq n=false:=by rw[hqn,hfb];simp[e]
     rw[hqt] at hsn;simp only[go_sem,w1];rw[if_neg sm,zq] at hsn;exact ⟨hlt,gv,rfl,hk.trans (Kept.box t _ _),by rw[hsn];exact hg.kept (Kept.box t _ _)⟩
    have hqt:qq n=true:=by rw[hqn,hfb];simp
    simp only[go_sem]
   all_goals
    rw[hqt,if_pos rfl] at hsn;rw[az4 (s:=⟨t.next+1+1,_⟩) (lo:=σ.next+1+1+1) (zs:=ob++aj5 qq n) ((hg.kept (Kept.box t _ _)).up 1) (n:Int) hzl];simp only[go_sem,w1];have hz:=bc2 (hk.trans (Kept.box t (.cells [.str [],.int .i64 0,.str [],.str [],.int .u8 0,.str [],.aa5,.aa5,.aa5,.aa5,.aa5,.aa5,.aa5,.aa5,.aa5]) (.cells (a.pk n).cs))) (hg.kept (Kept.box t _ _)) (n:Int) (a:=1) (nid:=t.next+1) (zc _) (ze _) rfl;rw[hsn,<- z4];exact ⟨hlt,_,rfl,hz.1,hz.2⟩
  .have hn':n=a.l.length:=om;subst hn';have d1:¬(a.l.length:Int)<(a.l.length:Int):=om;simp only[go_sem,d1];have hln:=ai3 qq a.l.length;have hzl:(ob++aj5 qq a.l.length).length<2^20:=by rw[zf];omega
   have hmm:(m:Int)∈ob++aj5 qq a.l.length:=List.mem_append_right _ (al4.2 ⟨m,rfl,hml,by rw[hqn];simp⟩)
   have hfin:∀D:List Int,D.Pairwise (· < ·)->(∀x,x∈D↔x∈ob++aj5 qq a.l.length)->D=aj5 (λn=>decide ((n:Int)=m)||ac2.en3 a.r.vendor down other (a.pk m) (a.pk n)||(!decide ((n:Int)=m)&&ab2 (a.pk n) (a.pk m))) a.l.length:=λD h1 h2=>ho8 h1 (cy4 _ _) λx=>by
    rw[h2,List.mem_append,obm,al4,al4];constructor
    .rintro (⟨u,rfl,h3,h4,h5⟩|⟨u,rfl,h3,h4⟩)
     .refine ⟨u,rfl,h3,?_⟩;have h6:¬(u:Int)=m:=om;simp only[ac2.pk,zh,h5,h6,decide_false,Bool.not_false,Bool.and_self,Bool.or_true]
     .rw[hqn] at h4;exact ⟨u,rfl,h3,by rw[h4,Bool.true_or]⟩
    .rintro ⟨u,rfl,h3,h4⟩;rw[Bool.or_eq_true] at h4;rcases h4 with h4|h4
     .exact .inr ⟨u,rfl,h3,by rw[hqn];exact h4⟩
     .simp only[zk,Bool.not_eq_true',decide_eq_false_iff_not,ac2.pk,zh] at h4;exact .inl ⟨u,rfl,h3,om,h4.2⟩
   generalize ob++aj5 qq a.l.length=zs at *;rcases hg with ⟨_,h0⟩|⟨id,hid1,hid2,rfl,ho⟩
   .rw[h0] at hmm;cases hmm
   refine ab8 fok130 (gj1 (zs:=zs) om ho) ?_;rintro v s' ⟨rfl,rfl⟩;refine ⟨by show t.next<=_;exact zc _,?_⟩;simp only[go_sem];have hsl:(jo3 zs).length=zs.length:=List.length_mergeSort _;have hc:=ho7 (σ:=t.put id (.row ((jo3 zs).map (IV.int .i64)))) (id:=id) (zs:=jo3 zs) om (by simp only[aa3,if_true]) (kj4 zs);rw[hsl] at hc;refine ab8 fok131 hc ?_;rintro v s' ⟨⟨D,cs,q1,q2,rfl,q4,q5,q6⟩,hsn,hso⟩;refine ⟨hsn,?_⟩;have hD:=hfin D q1 λx=>(q2 x).trans List.mem_mergeSort
   simp only[go_sem];have hsn':t.next<=s'.next:=hsn;have hkn:σ.next+1+1+1<=t.next:=hk.next;rw[<- hD];refine ⟨⟨om,λi hi=>?_⟩,.inr ⟨id,cs,om,om,rfl,q4,q5,q6⟩⟩;have hne:i≠id:=om;rw[hso i hne];show (if i=id then _ else t.obj i)=_;rw[if_neg hne,hk.obj i (by show i<σ.next+1+1+1;omega)];exact blo i hi
def di7 (a:ac2)(i:Int)(b:AOK a):Pq 74 [a.v,.int .i64 i] (.aa2 ((a.an3 i).map Md.ad1)):=gu5 λσ=>ct7 a i b σ
def iw2 {σ:Store}{g:Nat}{cap:List IV}(b:okF Tryz.prog g=true)(a:∀c∈cap,Bnd 0 c):Cq 134 [.aa5,.func (.func g) [] cap] σ (ji4 σ []):=by
 refine C_f fok134 (nZ rfl) ?_;simp only[ic134,go_sem]
 have e:Cq 192 [.aa5,.func (.func g) [] cap] σ (ka4 (.int .i64 (-1)) σ):=by
  refine fp3 (args':=[.aa2 (([]:List Int).map Md.ad1),.func (.func g) [] cap]) rfl (λi hi=>?_) (ey8 (dh8 [] g [] cap (λ_=>true) sm b (λz d=>by cases d)))
  match i,hi with
  | 0,_=>exact .by1
  | 1,_=>exact .keep _ ((Nm.func _ _ _ (λc hc=>by cases hc) a:Bnd 0 (.func (.func g) [] cap)).weak λ_ _=>rfl)
 refine ab8 fok192 e ?_;rintro v s ⟨rfl,rfl⟩;refine ⟨zc _,?_⟩;simp only[go_sem];exact ⟨Kept.refl _,.inl ⟨rfl,rfl⟩⟩
def iw3 {σ:Store}{v:IV}{lo g:Nat}{cap:List IV}{zs:List Int}(q:Int->Bool)(o:zs.length<2^40)(hr:cb9 σ lo v zs)(b:okF Tryz.prog g=true)(a:∀c∈cap,Bnd 0 c)(p:∀z∈zs,Pq g (.int .i64 z::cap) (.bool (q z))) :
  Cq 134 [v,.func (.func g) [] cap] σ (λv s=>(σ.next<=s.next/\∀i,i<lo->i<σ.next->s.obj i=σ.obj i)/\cb9 s (min lo σ.next) v (zs.filter λx=>!q x)):=by
 rcases hr with ⟨rfl,rfl⟩|⟨id,cs,d,e,rfl,u,t,r⟩
 .exact (iw2 b a).mono λv s ⟨d,e⟩=>⟨⟨d.next,λi _ hi=>d.obj i hi⟩,e.low (Nat.min_le_right _ _)⟩
 .refine (es7 q o u t r b a p).mono λv s ⟨n,m,cs',k,j,h,f⟩=>⟨⟨n,λi hi _=>m i om⟩,.inr ⟨id,cs',om,om,k,j,h,f⟩⟩
def iw4 (a:ac2)(n:Int):Pq 136 [.int .i64 n,.ab5 [a.v]] (.bool (a.inst n || !a.fits n)):=by
 refine af5 hE fok136 (nZ rfl) (ag7 (.int _ _) (.ab5 _ (al3 (ai5 a)))) ?_;have c:=bl7 a n;have b:=bx3 a n;simp only[ic136,go_sem];refine aa4 fok123 (c) ?_
 cases a.inst n with
 | true=>simp only[go_sem];exact ac8 rfl
 | false=>
  simp only[go_sem]
  first|refine aa4 fok113 (b) ?_|refine aa8 (b) ?_
  simp only[go_sem];exact ac8 rfl
def hy8 (a:ac2)(n:Int):Pq 135 [.int .i64 n,.ab5 [a.v]] (.bool (!a.inst n)):=by
 refine af5 hE fok135 (nZ rfl) (ag7 (.int _ _) (.ab5 _ (al3 (ai5 a)))) ?_;have b:=bl7 a n;simp only[ic135,go_sem];refine aa4 fok123 (b) ?_;simp only[go_sem];exact ac8 rfl
def gl2 (a:ac2)(i:Int)(h:AOK a):Pq 77 [a.v,.int .i64 i] (.aa2 ((a.du9 i).map Md.ad1)):=by
 refine af5 hE fok77 (nZ rfl) (ag7 (ai5 a) (.int _ _)) ?_;have b:=bl7 a i;have o:=ct7 a i h;have g:=ai5 a;have f:=iw4 a;have j:=a.bf1 i;have m:=h.len;have d:a.v.cs=[a.v]:=rfl;have c:a.v.leaf=true:=rfl;unfold ac2.du9
 cases hi:a.inst i with
 | false=>
  rw[hi] at b;have e:a.an3 i=[]:=by unfold ac2.an3;rw[hi];rfl
  rw[e];generalize a.v=V at *;simp only[ic77,go_sem,d,List.all_cons,c,List.all_nil,List.head?_cons];refine aa4 fok123 (b) ?_;simp only[go_sem]
  exact .by1
 | true=>
  rw[hi] at b;generalize a.v=V at *;generalize a.an3 i=zs at *;simp only[ic77,go_sem,d,List.all_cons,c,List.all_nil,List.head?_cons];refine aa4 fok123 (b) ?_;simp only[go_sem];refine ab8 fok74 (o _) ?_;rintro v s ⟨k,hr⟩;refine ⟨k.next,?_⟩;simp only[go_sem];refine ab8 fok134 (iw3 (λn=>a.inst n || !a.fits n) om hr fok136.1 (al3 (.ab5 _ (al3 g))) λz p=>f z) ?_;rintro v s ⟨⟨b,_⟩,hr⟩;refine ⟨b,?_⟩;simp only[go_sem];exact hr.frz λi _=>zo i
def gl3 (l:List aa1)(d:Dep)(hl:l.length<2^20)(hs:∀p∈l,Pkg.small p)(hd:Dep.small d)(σ:Store):Cq 72 [(ad7 l).v,.agg d.cs] σ (bj1 σ (ap8 l d)):=by
 have hi:=bi4 l;have hlook:=hi.names d.name
 have hsift:∀(σ:Store) v,(v=.aa2 ((ad6 (ad7 l).names d.name).map Md.ad1)\/v=.aa5/\ad6 (ad7 l).names d.name=[])->Cq 120 [(ad7 l).v,v,.func (.func 121) [] [.ab5 d.cs]] σ (bj1 σ (ap8 l d)):=by
  intro σ v hv
  have h:=ho9 (ad7 l) (ad6 (ad7 l).names d.name) (by rw[hlook];have:=ai6 (λp=>decide (p.name=d.name)) l;omega) 121 [.ab5 d.cs] (λn=>named (l.getD n.toNat default) d) fok121.1 (λn hn=>by
   rw[hlook] at hn;obtain ⟨m,rfl,hm⟩:=numsOf_at hn;refine ⟨m,rfl,by rw[hi.all];exact hm,?_⟩;have e:(ad7 l).all[m]'(by rw[hi.all];exact hm)=l[m]:=by simp only[hi.all]
   rw[e,zh,getD_at l m hm];exact dh4 l[m] m d (hs _ (zd hm)) hd) σ
  rw[fj9] at h;rcases hv with rfl|⟨rfl,h0⟩
  .exact h
  .rw[h0] at h;refine fp3 (args':=[(ad7 l).v,.aa2 [],.func (.func 121) [] [.ab5 d.cs]]) rfl (λi hi=>?_) h;have hw:∀ {v:IV} {σ:Store},Bnd 0 v->Frz σ (λ_=>true=true) v v:=λh=>.keep _ (h.weak λ_ _=>rfl)
   match i,hi with
   | 0,_=>exact hw (az9 (ad7 l))
   | 1,_=>exact .by1
   | 2,_=>exact hw (.func _ _ _ (λc hc=>by cases hc) (ae6 (bc5 d)))
 have hx:(ad7 l).v=.ab5 [.aa2 ((ad7 l).all.map aa1.cs),.am2 (nmV (ad7 l).au4),.am2 (nmV (ad7 l).names),.am2 (nmV (ad7 l).over)]:=rfl;have d0:d.cs.head? = zj (.str d.name):=rfl
 have hk0:∀σ:Store,∃v,cj3 σ 2 .aa5 false (.am2 (nmV (ad7 l).names)) (.str d.name)=zj v/\∀τ,Cq 120 [(ad7 l).v,v,.func (.func 121) [] [.ab5 d.cs]] τ (bj1 τ (ap8 l d)):=λσ=>
  let ⟨v,h1,h2⟩:=eq7 (ad7 l).names σ d.name
  ⟨v,h1,λτ=>hsift τ v h2⟩
 clear hsift hlook;rw[hx] at hk0 ⊢;generalize (ad7 l).all.map aa1.cs=a0 at *;refine C_f fok72 (nZ rfl) ?_;simp only[ic72,go_sem,aq8,an2,am8,d0];have⟨v,hk,hsv⟩:=hk0 ⟨σ.next+11,σ.obj⟩;simp only[go_sem,hk];refine ab8 fok120 (hsv _) ?_;rintro v' s ⟨hkp,hr⟩;refine ⟨hkp.next,?_⟩;simp only[go_sem];exact ⟨hkp.low,hr.low (zn _ _)⟩
def kv7 (a:ac2){n:Int}(h:a.job n=true):0<=n/\n<a.r.ae8.length/\(a.r.ae8.map Job.cs).getD n.toNat []=(a.jb n).cs/\a.jb n∈a.r.ae8:=by
 unfold ac2.job at h;simp only[zk,decide_eq_true_eq] at h;have b:n.toNat<a.r.ae8.length:=om;have e:a.jb n=a.r.ae8[n.toNat]:=by simp[ac2.jb,za,b]
 exact ⟨h.1,h.2,by rw[e];simp[za,b],by rw[e];exact zd b⟩
def bo2 (a:ac2)(j:Int)(e:AOK a):Pq 76 [a.v,.int .i64 j] (.aa2 ((a.meant j).map Md.ad1)):=by
 refine af5 hE fok76 (nZ rfl) (ag7 (ai5 a) (.int _ _)) ?_;have b:=es6 a j;have q:=ai5 a;have p:=hy8 a;have t:=e.len;unfold ac2.meant
 cases o:a.job j with
 | false=>
  rw[o] at b;unfold ac2.v ac2.cs at *;simp only[ic76,go_sem];refine aa4 fok132 (b) ?_;simp only[go_sem]
  exact .by1
 | true=>
  rw[o] at b;have⟨m,k,h,D⟩:=kv7 a o;have c:=e.jv3 _ D;have y:=br8 a.l (a.jb j).dep om e.small c;have A:=cb4 a.l (a.jb j).dep om e.small c;have r:=gl3 a.l (a.jb j).dep om e.small c;have H:=ax6 (ag3 a.l (a.jb j).dep);have F:=ax6 (ap8 a.l (a.jb j).dep);have I:(ap8 a.l (a.jb j).dep).length<=a.l.length:=ai6 _ _;have d:(a.jb j).cs.head? = zj (.int .u8 (a.jb j).kind):=rfl;have g:=da1 (a.jb j);have f:((a.jb j).cs.drop 1).length=5:=rfl;generalize a.jb j=x at *;generalize ap8 a.l x.dep=nm at *;generalize ag3 a.l x.dep=pv at *;unfold ac2.v ac2.cs at *;generalize (ad7 a.l).v=X at *;have c21:¬(2:Int)=1:=by decide
  by_cases e1:x.kind=1
  .rw[if_pos rfl,if_pos e1];simp only[ic76,go_sem];refine aa4 fok132 (b) ?_;simp only[go_sem,m,k,h,ax9,bh5,au7,d,g,f,e1]
   first|refine aa4 fok133 (y) ?_|refine aa8 (y) ?_
   simp only[go_sem];exact .keep _ H
  by_cases e2:x.kind=2
  .rw[if_pos rfl,if_neg e1,if_pos e2];simp only[ic76,go_sem];refine aa4 fok132 (b) ?_;simp only[go_sem,m,k,h,ax9,bh5,au7,d,g,f,e2,c21]
   first|refine aa4 fok72 (A) ?_|refine aa8 (A) ?_
   simp only[go_sem,d,e2];exact .keep _ F
  .rw[if_pos rfl,if_neg e1,if_neg e2];simp only[ic76,go_sem];refine aa4 fok132 (b) ?_;simp only[go_sem,m,k,h,ax9,bh5,au7,d,g,f,e1];refine ab8 fok72 (r _) ?_;rintro v s ⟨u,hr⟩;refine ⟨u.next,?_⟩;have B:s.obj 0=zj (.cells x.cs):=(u.obj 0 (Nat.succ_pos _)).trans (by simp only[aa3,if_true]);simp only[go_sem,B,d,e2];refine ab8 fok134 (iw3 (λn=>!a.inst n) om hr.w fok135.1 (al3 (.ab5 _ (al3 q))) λz J=>p z) ?_;rintro v s ⟨⟨b,_⟩,hr⟩;refine ⟨b,?_⟩;have E:(nm.filter λx=>!(!a.inst x))=nm.filter λn=>a.inst n:=List.filter_congr λx _=>Bool.not_not _
   rw[E] at hr;simp only[go_sem];exact hr.frz λi _=>zo i
def bf6 (a:ac2)(j:Int):(a.meant j).length<=a.l.length:=by
 unfold ac2.meant;split
 .split
  .exact ai6 _ _
  .split
   .exact ai6 _ _
   .exact zz (z8 _ _) (ai6 _ _)
 .exact Nat.zero_le _
def dl7 (l:List aa1)(d:Dep)(hl:l.length<2^20)(hs:∀p∈l,Pkg.small p)(hd:Dep.small d)(σ:Store):Cq 133 [(ad7 l).v,.agg d.cs] σ (bj1 σ (ag3 l d)):=by
 have hi:=bi4 l;have hlook:=hi.au4 d.name
 have hsift:∀(σ:Store) v,(v=.aa2 ((ad6 (ad7 l).au4 d.name).map Md.ad1)\/v=.aa5/\ad6 (ad7 l).au4 d.name=[])->Cq 120 [(ad7 l).v,v,.func (.func 191) [] [.ab5 d.cs]] σ (bj1 σ (ag3 l d)):=by
  intro σ v hv
  have h:=ho9 (ad7 l) (ad6 (ad7 l).au4 d.name) (by rw[hlook];have:=ai6 (λp=>decide (d.name∈cy3 p)) l;omega) 191 [.ab5 d.cs] (λn=>provides (l.getD n.toNat default) d) fok191.1 (λn hn=>by
   rw[hlook] at hn;obtain ⟨m,rfl,hm⟩:=numsOf_at hn;refine ⟨m,rfl,by rw[hi.all];exact hm,?_⟩;have e:(ad7 l).all[m]'(by rw[hi.all];exact hm)=l[m]:=by simp only[hi.all]
   rw[e,zh,getD_at l m hm];exact dw8 l[m] m d (hs _ (zd hm)) hd) σ
  rw[cu8] at h;rcases hv with rfl|⟨rfl,h0⟩
  .exact h
  .rw[h0] at h;refine fp3 (args':=[(ad7 l).v,.aa2 [],.func (.func 191) [] [.ab5 d.cs]]) rfl (λi hi=>?_) h;have hw:∀ {v:IV} {σ:Store},Bnd 0 v->Frz σ (λ_=>true=true) v v:=λh=>.keep _ (h.weak λ_ _=>rfl)
   match i,hi with
   | 0,_=>exact hw (az9 (ad7 l))
   | 1,_=>exact .by1
   | 2,_=>exact hw (.func _ _ _ (λc hc=>by cases hc) (ae6 (bc5 d)))
 have hx:(ad7 l).v=.ab5 [.aa2 ((ad7 l).all.map aa1.cs),.am2 (nmV (ad7 l).au4),.am2 (nmV (ad7 l).names),.am2 (nmV (ad7 l).over)]:=rfl;have d0:d.cs.head? = zj (.str d.name):=rfl
 have hk0:∀σ:Store,∃v,cj3 σ 2 .aa5 false (.am2 (nmV (ad7 l).au4)) (.str d.name)=zj v/\∀τ,Cq 120 [(ad7 l).v,v,.func (.func 191) [] [.ab5 d.cs]] τ (bj1 τ (ag3 l d)):=λσ=>
  let ⟨v,h1,h2⟩:=eq7 (ad7 l).au4 σ d.name
  ⟨v,h1,λτ=>hsift τ v h2⟩
 clear hsift hlook;rw[hx] at hk0 ⊢;generalize (ad7 l).all.map aa1.cs=a0 at *;refine C_f fok133 (nZ rfl) ?_;simp only[ic133,go_sem,aq8,an2,am8,d0];have⟨v,hk,hsv⟩:=hk0 ⟨σ.next+11,σ.obj⟩;simp only[go_sem,hk];refine ab8 fok120 (hsv _) ?_;rintro v' s ⟨hkp,hr⟩;refine ⟨hkp.next,?_⟩;simp only[go_sem];exact ⟨hkp.low,hr.low (zn _ _)⟩
def iw5 (l:List Int)(B:l.length<2^30)(hr:∀x∈l,-(2^40)<=x/\x<=2^40)(σ:Store):Cq 264 [.aa2 (l.map Md.ad1)] σ (bj1 σ (en9 l)):=by
 refine C_f fok264 (nZ rfl) ?_;simp only[ic264,go_sem];refine aa9 noT (λi fr s=>∃j,fr=[(3,j),(6,.aa2 (l.map Md.ad1)),(7,.int .i64 l.length),(8,.int .i64 i)]/\Kept σ s/\ah7 s σ.next j (en9 (l.take i))) l.length ⟨.aa5,rfl,Kept.refl σ,.inl ⟨rfl,rfl⟩⟩ ?_;rintro i fr s y ⟨j,rfl,p,d⟩;by_cases b:i<l.length
 .have⟨n,u,_,z,c,f⟩:=ad3 l i b;have k:(i:Int)<l.length:=om;have A:(0:Int)<=i:=om;have r:=ac6 (i:=i) om;have o:(en9 (l.take i)).length<=i:=by unfold en9;rw[zb,zg];omega
  have h:=az4 (nid:=s.next) (d.up 1) (-n) om;have e:en9 (l.take (i+1))=en9 (l.take i)++[-n]:=by rw[f];unfold en9;rw[zp];rfl
  have t:=hr n u;have q:IntKind.wrap .i64 (0-n)=-n:=by rw[wrap64 om om];omega
  simp only[go_sem,k,A,c,Md.ad1,q,h,r,e];have m:=bc2 p d (-n) (a:=1) (nid:=s.next) (zc _) (ze _) rfl;exact ⟨b,_,rfl,m.1,m.2⟩
 .have g:i=l.length:=om;subst g;have k:¬(l.length:Int)<l.length:=om;rw[zi] at d;simp only[go_sem,k];exact ⟨p,d⟩
def fs6 (σ:Store)(g mid:Nat)(m a c:IV)(P:List aa1)(t:ag9)(h:ar1 σ g mid m a c P t)(q:P.length<2^20)(p:t.h<2^30) :
  Cq 265 [.ptr g 0] σ (λv s=>v=.int .i64 ((P.length+(t.h+1):Nat):Int)/\bc3 σ s g mid c c/\ar1 s g mid m a c P ⟨t.h+1,t.cl,t.sets⟩):=by
 refine C_f fok265 (nZ rfl) ?_;have hc:=h.cell
 have k:∀σ,cx6 0 σ a=zj (.int .i64 P.length):=λσ=>by
  have:=cg9 (s':=σ) h.all;rw[zb] at this;exact this
 have n:IntKind.wrap .i64 ((P.length:Int)+((t.h+1:Nat):Int))=((P.length+(t.h+1):Nat):Int):=by rw[wrap64 om om];omega
 have o:=ac6 (i:=t.h) om;simp only[ic265,go_sem,hc,o,k,n];have ntm:¬mid=g:=λe=>by have b:=h.map;rw[e,hc] at b;cases b
 refine ⟨⟨zn _ _,λi hi f b j=>by simp only[aa3,f,if_false],.inl rfl⟩,?_⟩;have d:∀i cs,σ.obj i=zj (.row cs)->i≠g:=λi cs f e=>by rw[e,hc] at f;cases f
 exact {
  cell:=by simp only[aa3,if_true]
  all:=by
   rcases h.all with h0|⟨id,f,b,j⟩
   .exact .inl h0
   .exact .inr ⟨id,f,by simp only[aa3,d id _ b,if_false];exact b,qa j (zn _ _)⟩
  cls:=by
   rcases h.cls with h0|⟨id,f,b,j⟩
   .exact .inl h0
   .exact .inr ⟨id,f,by simp only[aa3,d id _ b,if_false];exact b,qa j (zn _ _)⟩
  map:=by simp only[aa3,ntm,if_false];exact h.map
  ne:=h.ne
  lt:=⟨by have:=h.lt.1;show g<σ.next+_;omega,by have:=h.lt.2;show mid<σ.next+_;omega⟩ }
def eh1:Str:=[48,48,48,49,48,50,48,51,48,52,48,53,48,54,48,55,48,56,48,57,49,48,49,49,49,50,49,51,49,52,49,53,49,54,49,55,49,56,49,57,50,48,50,49,50,50,50,51,50,52,50,53,50,54,50,55,50,56,50,57,51,48,51,49,51,50,51,51,51,52,51,53,51,54,51,55,51,56,51,57,52,48,52,49,52,50,52,51,52,52,52,53,52,54,52,55,52,56,52,57,53,48,53,49,53,50,53,51,53,52,53,53,53,54,53,55,53,56,53,57,54,48,54,49,54,50,54,51,54,52,54,53,54,54,54,55,54,56,54,57,55,48,55,49,55,50,55,51,55,52,55,53,55,54,55,55,55,56,55,57,56,48,56,49,56,50,56,51,56,52,56,53,56,54,56,55,56,56,56,57,57,48,57,49,57,50,57,51,57,52,57,53,57,54,57,55,57,56,57,57]
def hy9:∀n:Fin 100,¬n.val<10->(eh1.take (n.val*2+2)).drop (n.val*2)=fl4 (n.val:Int)/\n.val*2+2<=eh1.length:=by decide
def iw6:Str:=[48,49,50,51,52,53,54,55,56,57,97,98,99,100,101,102,103,104,105,106,107,108,109,110,111,112,113,114,115,116,117,118,119,120,121,122]
def js5:∀n:Fin 10,(iw6.take (n.val+1)).drop n.val=fl4 (n.val:Int)/\n.val+1<=iw6.length:=by decide
def jd7 (s:Str){l h:Nat}{r:Str}(a:l<=h)(hr:(s.take h).drop l=r/\h<=s.length):cw2 (zj (.int .i64 (l:Int))) (zj (.int .i64 (h:Int))) (.str s)=zj (.str r):=by
 have c:(0:Int)<=(l:Int):=om;have b:(0:Int)<=(h:Int):=om;simp only[cw2,cx3,fg8,c,b,if_true,zh,a,hr.2,and_self,hr.1]
def iw7 (n:Nat)(f:n<100):Pq 293 [.int .i64 n] (.str (fl4 n)):=by
 refine af5 hE fok293 (nZ rfl) (al3 (.int _ _)) ?_;simp only[ic293,go_sem];have d:=ac6 (i:=n) om;have c:IntKind.wrap .i64 ((n:Int)*2)=((n*2:Nat):Int):=by rw[wrap64 om om];omega
 have b:IntKind.wrap .i64 (((n*2:Nat):Int)+2)=((n*2+2:Nat):Int):=by rw[wrap64 om om];omega
 by_cases h:n<10
 .have a:(n:Int)<10:=om;have e:=jd7 iw6 (Nat.le_succ n) (js5 ⟨n,h⟩);unfold iw6 at e;simp only[go_sem,a,d,e];exact .keep _ (.str _)
 .have a:¬(n:Int)<10:=om;have e:=jd7 eh1 (zn _ _) (hy9 ⟨n,f⟩ h);unfold eh1 at e;simp only[go_sem,a,c,b,e];exact .keep _ (.str _)
def js6 (n:Nat)(a:n<100):Pq 262 [.int .i64 n] (.str (fl4 n)):=by
 have f:(0:Int)<=n:=om;have e:(n:Int)<100:=om;have d:=iw7 n a
 have c:Pq 288 [.int .i64 n,.int .i64 10] (.str (fl4 n)):=by
  refine af5 hE fok288 (nZ rfl) (ag7 (.int _ _) (.int _ _)) ?_;simp only[ic288,go_sem,f,e];refine aa4 fok293 (d) ?_;simp only[go_sem];exact .keep _ (.str _)
 have b:Pq 280 [.int .i64 n] (.str (fl4 n)):=by
  refine af5 hE fok280 (nZ rfl) (al3 (.int _ _)) ?_;simp only[ic280,go_sem];refine aa4 fok288 (c) ?_;simp only[go_sem];exact .keep _ (.str _)
 refine af5 hE fok262 (nZ rfl) (al3 (.int _ _)) ?_;simp only[ic262,go_sem];refine aa4 fok280 (b) ?_;simp only[go_sem];exact .keep _ (.str _)
def js7 (l:List Int)(D:l.length<2^30)(hr:∀x∈l,-(2^40)<=x/\x<=2^40)(σ:Store):Cq 69 [.aa2 (l.map Md.ad1)] σ (bj1 σ (noL l)):=by
 refine C_f fok69 (nZ rfl) ?_;simp only[ic69,go_sem];refine aa9 noT (λi fr s=>∃j,fr=[(3,j),(6,.aa2 (l.map Md.ad1)),(7,.int .i64 l.length),(8,.int .i64 i)]/\Kept σ s/\ah7 s σ.next j (noL (l.take i))) l.length ⟨.aa5,rfl,Kept.refl σ,.inl ⟨rfl,rfl⟩⟩ ?_;rintro i fr s z ⟨j,rfl,p,d⟩;by_cases b:i<l.length
 .have⟨n,y,_,A,c,f⟩:=ad3 l i b;have k:(i:Int)<l.length:=om;have B:(0:Int)<=i:=om;have t:=ac6 (i:=i) om;have o:(noL (l.take i)).length<=i:=by unfold noL;rw[zb,zg];omega
  have h:=az4 (nid:=s.next) (d.up 1) (-(n+1)) om;have e:noL (l.take (i+1))=noL (l.take i)++[-(n+1)]:=by rw[f];unfold noL;rw[zp];rfl
  have u:=hr n y;have r:IntKind.wrap .i64 (n+1)=n+1:=wrap64 om om;have q:IntKind.wrap .i64 (0-(n+1))=-(n+1):=by rw[wrap64 om om];omega
  simp only[go_sem,k,B,c,Md.ad1,r,q,h,t,e];have m:=bc2 p d (-(n+1)) (a:=1) (nid:=s.next) (zc _) (ze _) rfl;exact ⟨b,_,rfl,m.1,m.2⟩
 .have g:i=l.length:=om;subst g;have k:¬(l.length:Int)<l.length:=om;rw[zi] at d;simp only[go_sem,k];exact ⟨p,d⟩
def kv8 (l:List Int)(B:l.length<2^30)(hr:∀x∈l,-(2^40)<=x/\x<=2^40)(σ:Store):Cq 73 [.aa2 (l.map Md.ad1)] σ (bj1 σ (upL l)):=by
 refine C_f fok73 (nZ rfl) ?_;simp only[ic73,go_sem];refine aa9 noT (λi fr s=>∃j,fr=[(3,j),(7,.aa2 (l.map Md.ad1)),(8,.int .i64 l.length),(9,.int .i64 i)]/\Kept σ s/\ah7 s σ.next j (upL (l.take i))) l.length ⟨.slice σ.next 0 0 1,rfl,⟨Nat.le_succ _,λi hi=>?_⟩,.inr ⟨σ.next,zc _,ze _,rfl,?_⟩⟩ ?_
 .have:¬i=σ.next:=om;simp only[aa3,this,if_false]
 .simp only[aa3,if_true];rfl
 rintro i fr s y ⟨j,rfl,p,d⟩;by_cases b:i<l.length
 .have⟨n,u,_,z,c,f⟩:=ad3 l i b;have k:(i:Int)<l.length:=om;have A:(0:Int)<=i:=om;have r:=ac6 (i:=i) om;have o:(upL (l.take i)).length<=i:=by unfold upL;rw[zb,zg];omega
  have h:=az4 (nid:=s.next) (d.up 1) (n+1) om;have e:upL (l.take (i+1))=upL (l.take i)++[n+1]:=by rw[f];unfold upL;rw[zp];rfl
  have t:=hr n u;have q:IntKind.wrap .i64 (n+1)=n+1:=wrap64 om om;simp only[go_sem,k,A,c,Md.ad1,q,h,r,e];have m:=bc2 p d (n+1) (a:=1) (nid:=s.next) (zc _) (ze _) rfl;exact ⟨b,_,rfl,m.1,m.2⟩
 .have g:i=l.length:=om;subst g;have k:¬(l.length:Int)<l.length:=om;rw[zi] at d;simp only[go_sem,k];exact ⟨p,d⟩
def gl4 (b n:Int):Pq 263 [.int .i64 n,.ab5 [.int .i64 b]] (.bool (decide (n=b))):=by
 refine af5 hE fok263 (nZ rfl) (ag7 (.int _ _) (.ab5 _ (al3 (.int _ _)))) ?_;simp only[ic263,go_sem];exact ac8 rfl
def es8 {σ:Store}{v:IV}{lo:Nat}{zs:List Int}(b:Int)(d:zs.length<2^40)(hr:cb9 σ lo v zs) :
  Cq 224 [v,.int .i64 b] σ (λv s=>(σ.next<=s.next/\∀i,i<lo->i<σ.next->s.obj i=σ.obj i)/\cb9 s (min lo σ.next) v (de9 zs b)):=by
 have a:v.leaf=true/\v.cs=[v]:=by
  rcases hr with ⟨rfl,_⟩|⟨_,_,_,_,rfl,_⟩<;>exact ⟨rfl,rfl⟩
 refine C_f fok224 (nZ rfl) ?_;simp only[ic224,go_sem,a.1,a.2];refine ab8 fok134 (iw3 (λn=>decide (n=b)) d hr fok263.1 (al3 (.ab5 _ (al3 (.int _ _)))) λz _=>gl4 b z) ?_;rintro v s ⟨⟨c,e⟩,hr⟩;refine ⟨c,?_⟩;simp only[go_sem];exact ⟨⟨c,e⟩,hr⟩
def da2 (l:List Int)(hl:l.length<=100)(hr:∀x∈l,-(2^40)<=x/\x<=2^40)(σ:Store)(g mid:Nat)(E b c:IV)(P:List aa1)(t:ag9)(h:ar1 σ g mid E b c P t)(hP:P.length<2^20)(ht:t.h<2^20)(hf:t.few) :
  Cq 227 [.ptr g 0,.aa2 (l.map Md.ad1)] σ (dv5 σ g mid E b c P (al6 P.length l t)):=by
 refine eb4 fok227 (nZ rfl) ?_;unfold ag9.few at hf;simp only[ic227,go_sem];refine ab7 (ac4 ?_);simp only[go_sem];refine ab7 (ac4 ?_);simp only[go_sem];refine ab8 fok265 (fs6 _ g mid E b c P t h hP om) ?_;rintro v s ⟨rfl,o,p⟩;refine ⟨o.next,?_⟩;obtain ⟨H,hH⟩:∃H:Nat,H=P.length+(t.h+1):=⟨_,rfl⟩;rw[<- hH];simp only[go_sem];have w1:IntKind.wrap .i64 (0-(H:Int))=-(H:Int):=by rw[wrap64 om om];omega
 refine ab7 (ac4 ?_);simp only[go_sem,w1];refine ab7 (ab7 (ac4 ?_));simp only[go_sem];have h0:=tab_row (v:=.aa5) (zs:=[]) (lo:=σ.next) (k:=1) (nid:=s.next) (cs:=[.int .i64 (-(H:Int))]) p (.inl ⟨rfl,rfl⟩) (λ_ _ _ _ e=>by cases e) (λ_ _ _ _ e=>by cases e) (-(H:Int)) (zc _) (ze _) o.next rfl
 refine aj4 (ak9 (Q:=λe f s=>e=.exit 0/\∃a d,bc3 σ s g mid c a/\ar1 s g mid E b a P ⟨t.h+1,t.cl++l.map (λx=>[-x,(H:Int)]),t.sets⟩/\ah7 s σ.next d (-(H:Int)::l)/\(∀i k m,a=.slice i 0 k 1->d≠.slice i 0 m 1)/\(∀i k m,b=.slice i 0 k 15->d≠.slice i 0 m 1) /\
   ∃A:Frm,f=(0,.ptr g 0)::(5,.int .i64 (H:Int))::(6,d)::A)
  (aa9 noT (λi fr s=>∃a d,fr=[(0,.ptr g 0),(5,.int .i64 (H:Int)),(6,d),(14,.aa2 (l.map Md.ad1)),(15,.int .i64 l.length),(16,.int .i64 (i:Int))]/\bc3 σ s g mid c a/\ar1 s g mid E b a P ⟨t.h+1,t.cl++(l.take i).map (λx=>[-x,(H:Int)]),t.sets⟩/\ah7 s σ.next d (-(H:Int)::l.take i) /\
   (∀i k m,a=.slice i 0 k 1->d≠.slice i 0 m 1)/\(∀i k m,b=.slice i 0 k 15->d≠.slice i 0 m 1)) l.length ⟨c,_,rfl,h0.2.1 σ c o (zc _),by rw[List.take_zero,z3,zq];exact h0.1,h0.2.2.1,h0.2.2.2.1,h0.2.2.2.2⟩ ?_) ?_)
 .clear h0 p o;rintro i fr u ab ⟨a,d,rfl,o,p,z,q,r⟩;by_cases I:i<l.length
  .have⟨n,hn,_,ac,J,F⟩:=ad3 l i I;have Y:(i:Int)<l.length:=om;have c2:(0:Int)<=i:=om;have wi:=ac6 (i:=i) om;have aa:=hr n hn;have wn:IntKind.wrap .i64 (0-n)=-n:=by rw[wrap64 om om];omega
   have⟨U,e1,e2,e3,D,y⟩:=tab_push (nid:=u.next) (k:=1) p [-n,(H:Int)] (by simp only[zf,zb,zg];omega) (zc _) (ze _);have B:clE [-n,(H:Int)]=[.aa2 [[.int .i64 (-n)],[.int .i64 (H:Int)]]]:=rfl;rw[B] at e1;have hc:=p.cell;have L:=y.kx7 p z q;have hL:(t.cl++(l.take i).map (λx=>[-x,(H:Int)])).length<2147483648:=by simp only[zf,zb,zg];omega
   generalize W:(aj8.cells [E,b,IV.int IntKind.i64 ↑(t.h+1),IV.slice u.next 0 ((t.cl++(l.take i).map (λx=>[-x,(H:Int)])).length+1) 1,IV.map mid])=CS at *;have N:=az4 (nid:=U.next) (L.up 1) n (by simp only[zy,zg];omega)
   have⟨q1,q2,q3,q4,q5⟩:=tab_row (k:=1) (nid:=U.next) (cs:=bg1 (-(H:Int))::(l.take i++[n]).map bg1) D L (λi' k' l' e e2=>by
    cases e;rcases z with ⟨h0,_⟩|⟨j,_,hj,h0,_⟩
    .rw[h0] at e2;cases e2
    .rw[h0] at e2;cases e2;omega) r n (zc _) (ze _) (by show σ.next<=U.next;have:=o.next;omega) sm
   have M:t.cl++(l.take (i+1)).map (λx=>[-x,(H:Int)])=t.cl++(l.take i).map (λx=>[-x,(H:Int)])++[[-n,(H:Int)]]:=by rw[F,zp,<- z4];rfl
   simp only[aa7] at N q1 q2 q3;simp only[go_sem,Y,c2,J,Md.ad1,hc,wn,e1,e3,W,N,wi];refine ⟨I,_,_,rfl,q2 σ c (o.trans y) (zc _),?_,?_,q4,q5⟩
   .rw[M];exact q1
   .rw[F];exact q3
  .have V:i=l.length:=om;subst V;have Y:¬(l.length:Int)<l.length:=om;rw[zi] at p z;simp only[go_sem,Y];exact ⟨a,d,o,p,z,q,r,_,rfl⟩
 clear h0 p o;rintro e f u ⟨rfl,a,d,o,p,z,q,r,A,rfl⟩;simp only[go_sem];refine ab7 (fj5 (S:=bp3 d) (fr':=(0,.ptr g 0)::(5,.int .i64 (H:Int))::(6,.aa2 ((-(H:Int)::l).map Md.ad1))::A) (λk=>?_) (ac4 ?_))
 .by_cases hk:k=6
  .subst hk;exact .inr (df1 z.w)
  .left;have e:(k==6)=false:=by simpa using hk
   simp only[Frm.get,List.lookup,e]
   try rfl
 have T:=p.off z.w q r
 have X:bc3 σ (u.kills (bp3 d)) g mid c a:=o.kill (bc3.refl _ _ _ _) λi hi=>by
  cases ho:bp3 d i with
  | true=>rfl
  | false=>have:=(df2 z.w ho).1;omega
 generalize u.kills (bp3 d)=K at *;have⟨U,e1,e2,e3,D,y⟩:=tab_push (nid:=K.next) (k:=1) T (-(H:Int)::l) (by simp only[zf,zb];omega) (zc _) (ze _);have B:clE (-(H:Int)::l)=[.aa2 ((-(H:Int)::l).map Md.ad1)]:=rfl;rw[B] at e1;have hc:=T.cell;generalize (-(H:Int)::l).map Md.ad1=rowV at *;simp only[go_sem,hc,e1,e3];refine ab7 (ac4 ?_);simp only[go_sem];refine ac4 ?_;simp only[go_sem];have he:al6 P.length l t=((H:Int),⟨t.h+1,t.cl++l.map (λx=>[-x,(H:Int)])++[-(H:Int)::l],t.sets⟩):=by rw[hH];rfl
 rw[he];exact ⟨rfl,_,X.trans y,D⟩
def jd8 {s:Store}{lo:Nat}{v:IV}{zs:List Int}(h:cb9 s lo v zs){i m:Nat}(e:v=.slice i 0 m 1):lo<=i:=by
 rcases h with ⟨rfl,_⟩|⟨id,cs,a,c,rfl,b⟩
 .cases e
 .cases e;exact a
def tab_late {σ s:Store}{f mid:Nat}{d a b v:IV}{P:List aa1}{t:ag9}{zs:List Int}(h:ar1 σ f mid d a b P t)(hr:cb9 s σ.next v zs):(∀i k l,b=.slice i 0 k 1->v≠.slice i 0 l 1)/\(∀i k l,a=.slice i 0 k 15->v≠.slice i 0 l 1):=by
 refine ⟨λi k l e e2=>?_,λi k l e e2=>?_⟩
 .have:=jd8 hr e2;rcases h.cls with ⟨h0,_⟩|⟨j,c,_,g⟩
  .rw[h0] at e;cases e
  .rw[c] at e;cases e;omega
 .have:=jd8 hr e2;rcases h.all with ⟨h0,_⟩|⟨j,c,_,g⟩
  .rw[h0] at e;cases e
  .rw[c] at e;cases e;omega
def hz4 {σ s:Store}{tp mid lo g:Nat}{xv allv clv clv0 v:IV}{P:List aa1}{t:ag9}{r:Int×ag9}{zs:List Int}(hM:ar1 s tp mid xv allv clv P t)(hT:bc3 σ s tp mid clv0 clv)(hr:cb9 s lo v zs)(hlo:σ.next<=lo)
  (hne:(∀i k l,clv=.slice i 0 k 1->v≠.slice i 0 l 1)/\(∀i k l,allv=.slice i 0 k 15->v≠.slice i 0 l 1))
  (h:∀K,ar1 K tp mid xv allv clv P t->Cq g [.ptr tp 0,.aa2 (zs.map Md.ad1)] K (dv5 K tp mid xv allv clv P r)):Cq g [.ptr tp 0,v] s (λv' u=>s.next<=u.next/\dv5 σ tp mid xv allv clv0 P r v' u):=by
 have htp:bp3 v tp=true:=by
  cases ho:bp3 v tp with
  | true=>rfl
  | false=>
   have⟨_,_,_,cs,h3⟩:=df2 hr ho;exact absurd rfl (hM.gg9 _ _ h3).1
 refine C.mono (fj4 (S:=bp3 v) (args':=[.ptr tp 0,.aa2 (zs.map Md.ad1)]) rfl (λi hi=>?_) (h _ (hM.off hr hne.1 hne.2))) ?_
 .match i,hi with
  | 0,_=>exact .keep _ (.ptr _ _ htp)
  | 1,_=>exact df1 hr
 .rintro v' u ⟨rfl,clv',g1,g2⟩;refine ⟨g1.next,rfl,clv',hT.kill g1 λi hi=>?_,g2⟩
  cases ho:bp3 v i with
  | true=>rfl
  | false=>have:=(df2 hr ho).1;omega
def hz5 (l:List Int)(r:l.length<=100)(hr:∀x∈l,-(2^40)<=x/\x<=2^40)(σ:Store)(f mid:Nat)(g a b:IV)(P:List aa1)(t:ag9)(h:ar1 σ f mid g a b P t)(z:P.length<2^20)(q:t.h<2^20)(hf:t.few) :
  Cq 225 [.ptr f 0,.aa2 (l.map Md.ad1)] σ (dv5 σ f mid g a b P (cu9 P.length l t)):=by
 refine C_f fok225 (nZ rfl) ?_;simp only[ic225,go_sem];refine ab8 fok264 (iw5 l om hr _) ?_;rintro v s ⟨c,m⟩;refine ⟨c.next,?_⟩;simp only[go_sem];have A:=h.mono c.next c.obj
 refine ab8 fok227 (hz4 (σ:=σ) A ⟨c.next,λi hi _ _ _=>c.obj i hi,.inl rfl⟩ m.w (zc _) (tab_late h m.w) λK B=>da2 (en9 l) (by unfold en9;rw[zb];exact r) (λx p=>by
  obtain ⟨y,o,rfl⟩:=zt.1 p;have:=hr y o;exact ⟨om,om⟩) K f mid g a b P t B z q hf) ?_
 rintro E u ⟨D,rfl,d,j,k⟩;refine ⟨D,?_⟩
 have n:IntKind.wrap .i64 (0-(al6 P.length (en9 l) t).1)=-(al6 P.length (en9 l) t).1:=by
  have e:(al6 P.length (en9 l) t).1=((P.length+(t.h+1):Nat):Int):=rfl;rw[e,wrap64 om om];omega
 simp only[go_sem,n];exact ⟨rfl,d,j,k⟩
def es9 (x y w:Int)(X:-(2^40)<=x/\x<=2^40)(W:-(2^40)<=y/\y<=2^40)(Y:-(2^40)<=w/\w<=2^40)(σ:Store)(d mid:Nat)(m a c:IV)(P:List aa1)(t:ag9)(h:ar1 σ d mid m a c P t)(N:P.length<2^20)(ht:t.h<2^20)(hf:t.few) :
  Cq 228 [.ptr d 0,.int .i64 x,.int .i64 y,.int .i64 w] σ (dv5 σ d mid m a c P (ca7 P.length x y w t)):=by
 refine C_f fok228 (nZ rfl) ?_;unfold ag9.few at hf;simp only[ic228,go_sem];refine ab8 fok265 (fs6 _ d mid m a c P t h N om) ?_;rintro v s ⟨rfl,f,e⟩;refine ⟨f.next,?_⟩;obtain ⟨H,B⟩:∃H:Nat,H=P.length+(t.h+1):=⟨_,rfl⟩;rw[<- B];have J:IntKind.wrap .i64 (0-(H:Int))=-(H:Int):=by rw[wrap64 om om];omega
 have E:IntKind.wrap .i64 (0-x)=-x:=by rw[wrap64 om om];omega
 have D:IntKind.wrap .i64 (0-y)=-y:=by rw[wrap64 om om];omega
 have F:IntKind.wrap .i64 (0-w)=-w:=by rw[wrap64 om om];omega
 simp only[go_sem,J,E,D,F];obtain ⟨Q,z⟩:∃Q:List (List Int),Q=[[-w,-x,(H:Int)],[-w,x,-(H:Int)],[w,-y,(H:Int)],[w,y,-(H:Int)]]:=⟨_,rfl⟩;refine aa9 noT (λi fr s=>∃b,fr=[(0,.ptr d 0),(9,.int .i64 (H:Int)),(36,.aa2 (Q.map clE)),(37,.int .i64 4),(38,.int .i64 (i:Int))]/\bc3 σ s d mid c b/\ar1 s d mid m a b P ⟨t.h+1,t.cl++Q.take i,t.sets⟩) 4 ⟨c,by rw[z];rfl,f,by rw[List.take_zero,zq];exact e⟩ ?_;clear e f;rintro i fr u K ⟨b,rfl,f,e⟩;have M:Q.length=4:=by rw[z];rfl
 by_cases o:i<4
 .have⟨q,hq,_,L,g,n⟩:=ad3 Q i om;have T:(i:Int)<4:=om;have U:(i:Int)<(Q.length:Nat):=om;have S:(0:Int)<=i:=om;have I:=ac6 (i:=i) om;have⟨V,e1,e2,e3,A,r⟩:=tab_push (nid:=u.next) (k:=1) e q (by simp only[zf,zg];omega) (zc _) (ze _);have j:clE q=[.aa2 (q.map Md.ad1)]:=rfl;rw[j] at e1;have hc:=e.cell;generalize q.map Md.ad1=qv at *;simp only[go_sem,U,T,S,g,j,hc,e1,e3,I];refine ⟨o,_,f.trans r,?_⟩;rw[n,<- z4];exact A
 .have p:i=4:=om;subst p;rw[List.take_of_length_le om] at e;simp only[go_sem];rw[B,z] at *;exact ⟨rfl,_,f,e⟩
def da3 (n:Int):(fl4 n).length<=2:=by unfold fl4;split<;>simp
def iw8 (l:List Int):(dk9 l).length<=3*l.length:=by
 induction l with
 | nil=>exact zc _
 | cons n l ih=>
  have e:dk9 (n::l)=(fl4 n++[32])++dk9 l:=rfl;have:=da3 n;rw[e,zf,zf,zl,zy];omega
def hz6 (l:List Int)(n:Int):dk9 (l++[n])=dk9 l++(fl4 n++[32]):=by unfold dk9;rw[List.flatMap_append];simp
def kj5 (l:List Int)(hl:l.length<=100)(hr:∀x∈l,0<=x/\x<100)(σ:Store)(p mid:Nat)(H d b:IV)(P:List aa1)(t:ag9)(h:ar1 σ p mid H d b P t)(hP:P.length<2^20)(ht:t.h<2^20)(hf:t.few) :
  Cq 223 [.ptr p 0,.aa2 (l.map Md.ad1)] σ (dv5 σ p mid H d b P (gm3 P.length l t)):=by
 refine C_f fok223 (nZ rfl) ?_;unfold gm3;by_cases h1:l.length=1
 .obtain ⟨n,rfl⟩:=List.length_eq_one_iff.1 h1;have I:=hr n List.mem_cons_self;have wn:IntKind.wrap .i64 (n+1)=n+1:=wrap64 om om;rw[if_pos h1];simp only[ic223,go_sem,List.map_cons,z3,zy,List.length_nil,Md.ad1,wn];exact ⟨rfl,b,bc3.refl _ _ _ _,h⟩
 have c0:¬(l.length:Int)=1:=om;rw[if_neg h1];simp only[ic223,go_sem,c0];refine aa9 noT (λi fr s=>fr=[(0,.ptr p 0),(1,.aa2 (l.map Md.ad1)),(5,.str (dk9 (l.take i))),(21,.aa2 (l.map Md.ad1)),(22,.int .i64 l.length),(23,.int .i64 (i:Int))]/\bc3 σ s p mid b b/\ar1 s p mid H d b P t) l.length ⟨rfl,bc3.refl _ _ _ _,h⟩ ?_;rintro i fr s Q ⟨rfl,J,A⟩;by_cases f:i<l.length
 .have⟨n,I,_,S,g,q⟩:=ad3 l i f;have L:(i:Int)<l.length:=om;have c2:(0:Int)<=i:=om;have wi:=ac6 (i:=i) om;have D:=hr n I;obtain ⟨m,rfl⟩:=Int.eq_ofNat_of_zero_le D.1;have hI:=js6 m om;have l1:(fl4 (m:Int)).length+[(32:UInt8)].length<2^62:=by have:=da3 (m:Int);simp only[zl];omega
  have l2:(dk9 (l.take i)).length+(fl4 (m:Int)++[(32:UInt8)]).length<2^62:=by
   have:=da3 (m:Int);have:=iw8 (l.take i);rw[zg] at this;simp only[zf,zl];omega
  have r:dk9 (l.take (i+1))=dk9 (l.take i)++(fl4 (m:Int)++[32]):=by rw[q,hz6]
  simp only[go_sem,L,c2,g,Md.ad1];refine aa4 fok262 (hI) ?_;simp only[go_sem,dc8,l1,l2,wi];exact ⟨by have:=da3 (m:Int);omega,f,by rw[r],J,A⟩
 have z:i=l.length:=om;subst z;have L:¬(l.length:Int)<l.length:=om;rw[zi];have hc:=A.cell;have j:=λn=>tab_look (s:=⟨s.next+n,s.obj⟩) A.map (dk9 l)
 have c:=tab_look (s:=s) A.map (dk9 l)
 cases k:bx7 t.sets (dk9 l) with
 | some x=>
  simp only[k] at c j;simp only[go_sem,L,hc,c,j,z9,Option.getD_some,Option.isSome_some]
  exact ⟨rfl,b,J,A⟩
 | none=>
  simp only[k] at c j;simp only[go_sem,L,hc,c,j,Option.map_none,Option.getD_none,Option.isSome_none];refine aa9 noT (λi fr u=>∃gv,fr=[(0,.ptr p 0),(5,.str (dk9 l)),(10,gv),(44,.aa2 (l.map Md.ad1)),(45,.int .i64 l.length),(46,.int .i64 (i:Int))]/\Kept s u/\ah7 u s.next gv (upL (l.take i))) l.length ⟨.aa5,rfl,Kept.refl s,.inl ⟨rfl,rfl⟩⟩ ?_;rintro i fr u Q ⟨gv,rfl,r,E⟩;by_cases f:i<l.length
  .have⟨n,I,_,S,g,q⟩:=ad3 l i f;have d1:(i:Int)<l.length:=om;have d2:(0:Int)<=i:=om;have w1:=ac6 (i:=i) om;have aa:(upL (l.take i)).length<=i:=by unfold upL;rw[zb,zg];omega
   have U:=az4 (nid:=u.next) (E.up 1) (n+1) om;have e:upL (l.take (i+1))=upL (l.take i)++[n+1]:=by rw[q];unfold upL;rw[zp];rfl
   have D:=hr n I;have wm:IntKind.wrap .i64 (n+1)=n+1:=wrap64 om om;simp only[go_sem,d1,d2,g,Md.ad1,wm,U,w1,e];have hz:=bc2 r E (n+1) (a:=1) (nid:=u.next) (zc _) (ze _) rfl;exact ⟨f,_,rfl,hz.1,hz.2⟩
  .have z:i=l.length:=om;subst z;have d1:¬(l.length:Int)<l.length:=om;rw[zi] at E;simp only[go_sem,d1];have X:=A.mono r.next r.obj
   refine ab8 fok227 (hz4 (σ:=σ) X (J.trans ⟨r.next,λi hi _ _ _=>r.obj i hi,.inl rfl⟩) E.w J.next (tab_late A E.w) λK hK=>da2 (upL l) (by unfold upL;rw[zb];exact hl) (λx hx=>by
    obtain ⟨y,hy,rfl⟩:=zt.1 hx;have:=hr y hy;exact ⟨om,om⟩) K p mid H d b P t hK hP ht hf) ?_
   rintro v' M ⟨g1,rfl,F,W,o⟩;refine ⟨g1,?_⟩;have T:=o.cell;have ab:(al6 P.length (upL l) t).2.sets=t.sets:=rfl;have N:=λn=>tab_upd (s:=⟨M.next+n,M.obj⟩) (mid:=mid) o.map (x:=dk9 l) (al6 P.length (upL l) t).1 k
   have B:=tab_upd (s:=M) (mid:=mid) o.map (x:=dk9 l) (al6 P.length (upL l) t).1 k;have⟨Y,V⟩:=tab_set o (dk9 l) (al6 P.length (upL l) t).1;simp only[go_sem,T,B,N];exact ⟨rfl,F,W.trans V,Y⟩
def msV (m:Nat×Nat×Bool):IV:=.tuple [.int .i64 m.1,.int .i64 m.2.1,.bool m.2.2]
def fs7 {s:Store}(m:Nat×Nat×Bool):cc3 s 0 (.tuple [.int .i64 m.1,.int .i64 m.2.1,.bool m.2.2]) (msV m):=.keep _ (.tuple _ (aw9 (.int _ _) (.int _ _) (.bool _)))
def gl5 (r:aa6):r.fit->r.count<2^31->Pq 197 [.agg r.cs] (msV r.ms):=by
 induction r using aa6.ind with
 | h k d xs ih=>
  intro hf hc;have⟨f1,f2,P,f4,T⟩:=aa6.ce5.1 hf;have I:∀a∈xs,a.ms.1<=a.count/\a.ms.2.1<=a.count:=λa _=>aa6.kc3 a
  refine af5 hE fok197 (nZ rfl) (ae6 (ah2 _)) ?_;by_cases m:k=1
  .subst m;have hm:=br6 d P.1 P.2.1 P.2.2;by_cases h0:xs.length=0
   .have s:(xs.length:Int)=0:=om;simp only[ic197,go_sem,aa6.as1,aa6.kind,aa6.dep,aa6.args,s];refine aa4 fok21 (hm) ?_;simp only[go_sem];have e:aa6.ms (.mk 1 d xs)=(1,0,ak2 d):=by simp[aa6.ms,h0]
    rw[e];exact fs7 (1,0,ak2 d)
   .have s:¬(xs.length:Int)=0:=om;simp only[ic197,go_sem,aa6.as1,aa6.kind,aa6.dep,aa6.args,s];have e:aa6.ms (.mk 1 d xs)=(1,0,false):=by simp[aa6.ms,h0]
    rw[e];exact fs7 (1,0,false)
  have e:aa6.ms (.mk k d xs)=((aa6.msL xs 1 0 (ap9 k d xs.length)).1,(aa6.msL xs 1 0 (ap9 k d xs.length)).2.1+1,(aa6.msL xs 1 0 (ap9 k d xs.length)).2.2):=by rw[aa6.ms,if_neg m]
  have q:decide (d=cq9)=(decide (d.name=[])&&(decide (d.op=0)&&(decide (d.evr.ar6=0)&&(decide (d.evr.ver=[])&&decide (d.evr.rel=[]))))):=by
   have⟨n,o,e,v,r⟩:=d;simp only[cq9,gw3,Dep.mk.injEq,EVR.mk.injEq,Bool.decide_and]
  have hg:∀a∈xs,a.fit/\a.count<2^31/\a.count<=aa6.counts xs:=λa D=>by
   have h1:a.count<=aa6.counts xs:=by
    clear hc f4 T I ih q e hf
    induction xs with
    | nil=>cases D
    | cons y ys ihy=>
     simp only[aa6.counts];rcases z2.1 D with rfl|D
     .omega
     .have:=ihy D;omega
   have h2:aa6.counts xs<2^31:=by simp only[aa6.count] at hc;omega
   exact ⟨T a D,om,h1⟩
  have ae:aa6.counts xs<2^31:=by simp only[aa6.count] at hc;omega
  -- what holds of Kinds and counts
  by_cases u:1<k
  case' neg=>
   have z:ap9 k d xs.length=false:=by simp[ap9,u]
   simp only[ic197,go_sem,aa6.as1,aa6.kind,aa6.dep,aa6.args,m,u]
  case' pos=>
   by_cases A:k<=7
   case' neg=>
    have z:ap9 k d xs.length=false:=by simp[ap9,A]
    simp only[ic197,go_sem,aa6.as1,aa6.kind,aa6.dep,aa6.args,m,u,A]
   case' pos=>
    by_cases H:d=cq9
    case' neg=>
     have b:decide (d=cq9)=false:=decide_eq_false H;rw[q] at b;have z:ap9 k d xs.length=false:=by simp[ap9,H]
     simp only[ic197,go_sem,aa6.as1,aa6.kind,aa6.dep,aa6.args,m,u,A,b]
    case' pos=>
     have b:decide (d=cq9)=true:=decide_eq_true H;rw[q] at b;by_cases q4:2<=xs.length
     case' neg=>
      have j:¬(2:Int)<=xs.length:=om;have z:ap9 k d xs.length=false:=by simp[ap9,q4]
      simp only[ic197,go_sem,aa6.as1,aa6.kind,aa6.dep,aa6.args,m,u,A,b,j]
     case' pos=>
      have j:(2:Int)<=xs.length:=om
      obtain ⟨ks,L,K,J⟩:∃ks,(if 0<=k/\k<8 then ci9 (k.toNat*2) (EE 2) else none)=zj (.ab5 ks)/\(ks.drop 1).head? = zj (.int .i64 (en5 k))/\1<ks.length:=by
       have hk:k=2\/k=3\/k=4\/k=5\/k=6\/k=7:=om;rcases hk with rfl|rfl|rfl|rfl|rfl|rfl<;>exact ⟨_,rfl,rfl,by decide⟩
      simp only[ic197,go_sem,aa6.as1,aa6.kind,aa6.dep,aa6.args,m,u,A,b,j,L,K,J];by_cases q5:xs.length<=en5 k
      case' neg=>
       have g:¬(xs.length:Int)<=en5 k:=om;have z:ap9 k d xs.length=false:=by simp[ap9,q5]
       simp only[go_sem,g]
      case' pos=>
       have g:(xs.length:Int)<=en5 k:=om;have z:ap9 k d xs.length=true:=by simp[ap9, *]
       simp only[go_sem,g]
  all_goals
   rw[e]
   refine aa9 noT (λi fr t=>∃(p c:Nat) (ok:Bool),fr=[(2,.int .i64 p),(3,.int .i64 c),(4,.bool ok),(54,.aa2 (xs.map aa6.cs)),(55,.int .i64 xs.length),(56,.int .i64 (i:Int))]/\p+aa6.counts (xs.drop i)<=1+aa6.counts xs/\c<=aa6.counts xs /\
    aa6.msL xs 1 0 (ap9 k d xs.length)=aa6.msL (xs.drop i) p c ok) xs.length ⟨1,0,_,rfl,zc _,Nat.zero_le _,by rw[z];rfl⟩ ?_
   rintro i fr t ac ⟨p,c,ok,rfl,hp,ad,S⟩;rw[S];by_cases B:i<xs.length
   .have⟨x,Q,_,N,f,aa⟩:=ad3 xs i B;have E:(i:Int)<xs.length:=om;have U:(0:Int)<=i:=om;have w1:=ac6 (i:=i) om;rw[N] at hp S ⊢;have⟨W,V,x3⟩:=hg x Q
    cases ok with
    | false=>
     have F:=ac6 (i:=c) om;simp only[go_sem,E,U,f,ac5,ab9,ab3,F,aa6.msL]
     exact fs7 (p,c+1,false)
    | true=>
     have hA:=ih x Q W V;have ab:=aa6.kc3 x;simp only[aa6.counts] at hp;have Y:IntKind.i64.wrap ((p:Int)+x.ms.1)=((p+x.ms.1:Nat):Int):=by rw[wrap64 om om];omega
     simp only[go_sem,E,U,f,ac5,ab9,ab3];refine aa4 fok197 (hA) ?_;simp only[go_sem,msV,w1,Y];have X:(if (x.ms.2.1:Int)>c then (x.ms.2.1:Int) else c)=((max c x.ms.2.1:Nat):Int):=by split<;>omega
     exact ⟨B,p+x.ms.1,max c x.ms.2.1,x.ms.2.2,by rw[X],om,om,by simp[aa6.msL]⟩
   .have M:i=xs.length:=om;subst M;have E:¬(xs.length:Int)<xs.length:=om;have F:=ac6 (i:=c) om;rw[zv];simp only[go_sem,E,F,aa6.msL];exact fs7 (p,c+1,ok)
def iw9 (r:aa6)(g:r.fit)(f:r.count<2^31):Pq 143 [.agg r.cs] (.bool (bk6 r)):=by
 refine af5 hE fok143 (nZ rfl) (ae6 (ah2 _)) ?_;have h:=gl5 r g f;unfold bk6;generalize r.ms=m at *;have⟨p,d,ok⟩:=m;simp only[ic143,go_sem,ac5,ab9,ab3];refine aa4 fok197 (h) ?_;have e1:((p:Int)<=24)=(p<=24):=by simp only[eq_iff_iff];omega
 have e2:((d:Int)<=8)=(d<=8):=by simp only[eq_iff_iff];omega
 cases ok with
 | false=>simp only[go_sem,msV];exact ab6 _
 | true=>
  by_cases c:p<=24
  .have a:(p:Int)<=24:=om;by_cases e:d<=8
   .have b:(d:Int)<=8:=om;simp only[go_sem,msV,c,a,e,b];exact ab6 _
   .have b:¬(d:Int)<=8:=om;simp only[go_sem,msV,c,a,e,b];exact ab6 _
  .have a:¬(p:Int)<=24:=om;simp only[go_sem,msV,c,a];exact ab6 _
def di8 (c:Nat->Bool)(n:Nat):List IV:=(zu n).map λj=>.bool (c j)
def bc9 (c:Nat->Bool)(n:Nat):(di8 c n).length=n:=by simp[di8]
def et1:∀n:Nat,rep [IV.bool false] n=di8 (λ_=>false) n:=by
 intro n
 have h:∀m,rep [IV.bool false] m=List.replicate m (.bool false):=by
  intro m
  induction m with
  | zero=>rfl
  | succ m ih=>show [IV.bool false]++rep _ m=_;rw[ih];rfl
 rw[h];exact List.ext_getElem (by simp[di8]) λi b a=>by simp[di8]
def eh2 (c:Nat->Bool){n i:Nat}(h:i<(di8 c n).length):(di8 c n)[i]=.bool (c i):=by simp[di8]
def fs8 (c:Nat->Bool){n j:Nat}(h:j<n)(x:Bool):ay4 (di8 c n) j [.bool x]=di8 (λi=>if i=j then x else c i) n:=by
 refine List.ext_getElem (by rw[af8 (by rw[bc9];simp only[zl];omega),bc9,bc9]) λi g d=>?_
 rw[eh2];rw[bc9] at d;unfold ay4;simp only[List.getElem_append,zg,bc9,List.getElem_take,List.getElem_drop,zf,zl,eh2];by_cases e:i=j
 .subst e;have b:¬i<min i n:=om;have a:i<min i n+1:=om;simp only[b,a,dite_false,dite_true,if_true,List.getElem_singleton]
 .by_cases e2:i<j
  .have b:i<min j n:=om;have a:i<min j n+1:=om;simp only[b,a,dite_true,e,if_false]
  .have b:¬i<min j n:=om;have a:¬i<min j n+1:=om;have f:j+1+(i-(min j n+1))=i:=om;simp only[a,f,dite_false,e,if_false]
def fm3 {a:PT}{b:CT}{P:Program}{E:Nat->IV}{e id:Nat}{z:List IV}{x:IX}{fr:Frm}{σ:Store}{K:IV->Store->Prop}:opT a b P E (.dn3 e z x) id fr σ K=bt3 (db4 (x.ev E fr)) λn=>K (.slice id 0 n e) (σ.put id (.row (rep z n))):=rfl
def ed5 {K:Nat->Prop}(n:Nat)(h:n<=2147483648):bt3 (db4 (.int .i64 (n:Int))) K=K n:=by
 have a:(0:Int)<=n/\(n:Int)<=2147483648:=om;show bt3 (if 0<=(n:Int)/\(n:Int)<=2147483648 then zj ((n:Int).toNat) else none) K=K n;rw[if_pos a];rfl
def ix1 {s:Store}{S:Nat->Prop}{id n:Nat}{c:Nat->Bool}(b:¬S id)(d:s.obj id=zj (.row (di8 c n))):Frz s S (.slice id 0 n 1) (.aa2 (((zu n).map c).map bx6)):=by
 have e:(((zu n).map c).map bx6).length=n:=sm
 refine .slice id 0 n 1 (di8 c n) _ b (.inr d) e (by rw[bc9];omega) (λi hi=>?_) λi hi j f=>?_
 .simp[za,hi,bx6]
 .have a:j=0:=om;subst a;have e2:((((zu n).map c).map bx6).getD i []).getD 0 .undef=.bool (c i):=by simp[za,hi,bx6]
  have e3:(di8 c n).getD (0+(i*1+0)) .undef=.bool (c i):=by simp[za,hi,di8]
  rw[e2,e3];exact .keep _ (.bool _)
abbrev et2 (st:List Bool):IV:=.aa2 (st.map bx6)
def af4 (l:List aa1):IV:=.ab5 [(ad7 l).v,.int .i64 l.length]
def an6 (l:List aa1)(st:List Bool):List IV:=[af4 l,et2 st]
def et3 (st:List Bool):Bnd 0 (et2 st):=.aa2 _ λe a c hc=>by
 obtain ⟨b,_,rfl⟩:=zt.1 a
 cases hc with
 | head=>exact .bool _
 | tail _ h=>cases h
def au3 (l:List aa1):Bnd 0 (af4 l):=.ab5 _ (ag7 (az9 _) (.int _ _))
def et4 (l:List aa1)(st:List Bool):∀c∈an6 l st,Bnd 0 c:=ag7 (au3 l) (et3 st)
def fs9 (l:List aa1)(zs:List Int)(K:l.length<=256)(I:zs.length<2^40):Pq 144 [af4 l,.aa2 (zs.map Md.ad1)] (.agg (an6 l (stB l.length zs))):=by
 refine af5 hE fok144 (nZ rfl) (ag7 (au3 l) (ax6 zs)) ?_;have D:(af4 l)=.ab5 [(ad7 l).v,.int .i64 l.length]:=rfl;simp only[ic144,go_sem,af4];simp only[fm3,ed5 _ (show l.length<=2147483648 by omega),go_sem];rw[et1]
 refine aa9 noT (λi fr t=>∃c:Nat->Bool,fr=[(0,af4 l),(4,.ptr 0 0),(5,.ptr 2 0),(15,.aa2 (zs.map Md.ad1)),(16,.int .i64 zs.length),(17,.int .i64 (i:Int))]/\2<t.next/\t.obj 0=zj (.cells [.ag2,.aa5])/\t.obj 1=zj (.row (di8 c l.length)) /\
  t.obj 2=zj (.cells [af4 l,.slice 1 0 l.length 1])/\∀j,j<l.length->c j=decide ((j:Int)∈zs.take i)) zs.length ⟨λ_=>false,rfl,by show 2<3;omega,rfl,rfl,rfl,λj g=>by simp⟩ ?_
 rintro i fr t F ⟨c,rfl,f,o,h,n,hc⟩;by_cases b:i<zs.length
 .have⟨x,J,_,H,a,d⟩:=ad3 zs i b;have k:(i:Int)<zs.length:=om;have y:(0:Int)<=i:=om;have p:=ac6 (i:=i) om;by_cases q:0<=x
  .by_cases z:x<(l.length:Nat)
   .have r:x.toNat<l.length:=om;have B:=fs8 c r true;have A:x.toNat+1<=(di8 c l.length).length:=by rw[bc9];omega
    simp only[go_sem,k,y,a,Md.ad1,q,z,af4,n,h,zw,z5,B,A,p];refine ⟨b,λi=>if i=x.toNat then true else c i,f,o,rfl,λj g=>?_⟩
    .show (if j=x.toNat then true else c j)=_;rw[d];by_cases e:j=x.toNat
     .rw[if_pos e];have:(j:Int)=x:=om;simp[this]
     .rw[if_neg e,hc j g];have:¬(j:Int)=x:=om;simp[this]
   .simp only[go_sem,k,y,a,Md.ad1,q,z,af4,p];refine ⟨b,c,f,o,h,n,λj g=>?_⟩;have:¬(j:Int)=x:=om;rw[hc j g,d];simp[this]
  .simp only[go_sem,k,y,a,Md.ad1,q,p];refine ⟨b,c,f,o,h,n,λj g=>?_⟩;have:¬(j:Int)=x:=om;rw[hc j g,d];simp[this]
 .have u:i=zs.length:=om;subst u;have k:¬(zs.length:Int)<zs.length:=om
  have s:stB l.length zs=(zu l.length).map c:=by
   unfold stB;refine List.map_congr_left λm E=>?_
   rw[hc m (List.mem_range.1 E),zi]
  simp only[go_sem,k,o,h,n];rw[s];exact ⟨rfl,.kp8 (.cons (.keep _ (au3 l)) (.cons (ix1 (zo _) (by rw[aa3,if_neg (by decide)];exact h)) .nil))⟩
def ci1 {d:Dep}(h:ak2 d=true):Dep.small d:=by
 have⟨c,b,a,e⟩:=ec6 h;exact ⟨c,b,by have:=a.1;omega,by have:=a.2;omega⟩
def ae2 (l:List aa1)(st:List Bool):(an6 l st).all IV.leaf=true:=rfl
def af2 (l:List aa1)(st:List Bool):(an6 l st).take 2=an6 l st:=rfl
def ae7 (l:List aa1)(st:List Bool):(an6 l st).length=2:=rfl
def hz7 (l:List aa1)(st:List Bool):((an6 l st).drop 1).head? = zj (et2 st):=rfl
def hz8 (l:List aa1)(st:List Bool):(an6 l st).head? = zj (af4 l):=rfl
def ci2 {st:List Bool}{n:Nat}(h:n<st.length):(st.map bx6).getD n []=[.bool (st.getD n false)]:=by simp[za,h,bx6]
abbrev hz9 (l:List aa1)(r:aa6):Prop:=∀st:List Bool,st.length=l.length->Pq 145 [.agg (an6 l st),.agg r.cs] (.bool (r.tr l st))
def ao5 (l:List aa1)(st:List Bool):Bnd 0 (.agg (an6 l st)):=.agg _ (et4 l st)
def dy5 (l:List aa1)(st:List Bool):Bnd 0 (.ab5 (an6 l st)):=.ab5 _ (et4 l st)
def ci3 (r:aa6):Bnd 0 (.ab5 r.cs):=.ab5 _ (ee6 r)
def ia1 (d:Dep)(xs:List aa6)(k:Int):((aa6.mk k d xs).cs.drop 1).take 5=d.cs:=by rw[aa6.as1];rfl
def et5 (d:Dep)(xs:List aa6)(k:Int):((aa6.mk k d xs).cs.drop 1).length=6:=by rw[aa6.as1];rfl
def bb3 (d:Dep)(xs:List aa6)(k:Int):((aa6.mk k d xs).cs.drop 6).head? = zj (ao3 xs):=by rw[aa6.as1];rfl
def aw4 (d:Dep)(xs:List aa6)(k:Int):(aa6.mk k d xs).cs.head? = zj (.int .u8 k):=by rw[aa6.as1];rfl
def dl8 {xs:List aa6}{n:Nat}(h:n<xs.length):(xs.map aa6.cs).getD n []=(xs[n]).cs:=by simp[za,h]
def ix2 (l:List aa1)(st:List Bool)(n:Nat)(h:n<st.length):Pq 248 [.int .i64 n,.ab5 (an6 l st)] (.bool (st.getD n false)):=by
 refine af5 hE fok248 (nZ rfl) (ag7 (.int _ _) (dy5 l st)) ?_;have b:(n:Int)<st.length:=om;have a:(0:Int)<=n:=om;have g:=ci2 h;simp only[ic248,go_sem,ae7,hz7,b,a,g];exact ac8 rfl
def js8 (l:List aa1)(j:l.length<=256)(hs:∀p∈l,Pkg.small p)(st:List Bool)(e:st.length=l.length)(d:Dep)(f:ak2 d=true) :
  Pq 198 [.agg (an6 l st),.agg (aa6.mk 1 d []).cs] (.bool ((ag3 l d).any λn=>st.getD n.toNat false)):=by
 refine af5 hE fok198 (nZ rfl) (ag7 (ao5 l st) (ah2 _)) ?_;have a:=br8 l d om hs (ci1 f)
 have h:=hp5 (ag3 l d) 248 [] [.ab5 (an6 l st)] (λn=>st.getD n.toNat false) (by have:=ai6 (λp=>provides p d) l;unfold ag3;omega) fok248.1 λx b=>by
  obtain ⟨m,rfl,i⟩:=numsOf_at b;rw[zh];exact ix2 l st m om
 have c:af4 l=.ab5 [(ad7 l).v,.int .i64 l.length]:=rfl;have g:=ab3 (.mk 1 d []);simp only[ic198,go_sem,ae7,ae2,hz8,ac5,g,ia1,et5,c]
 first|refine aa4 fok133 (a) ?_|refine aa8 (a) ?_
 simp only[go_sem,ae7,ae2];refine aa8 (h) ?_;simp only[go_sem];exact ac8 rfl
def js9 (l:List aa1)(st:List Bool)(a:st.length=l.length)(x:aa6)(b:hz9 l x):Pq 249 [.agg x.cs,.ab5 (an6 l st)] (.bool !(x.tr l st)):=by
 refine af5 hE fok249 (nZ rfl) (ag7 (ah2 _) (dy5 l st)) ?_;have h:=b st a;simp only[ic249,go_sem,ae7,af2,ae2,ac5,ab9,ab3]
 first|refine aa4 fok145 (h) ?_|refine aa8 (h) ?_
 simp only[go_sem];exact ac8 rfl
def jd9 (l:List aa1)(st:List Bool)(a:st.length=l.length)(k:Int)(d:Dep)(xs:List aa6)(c:xs.length<2^62)(b:∀x∈xs,hz9 l x):Pq 199 [.agg (an6 l st),.agg (aa6.mk k d xs).cs] (.bool ((aa6.trs l xs).all λf=>f st)):=by
 refine af5 hE fok199 (nZ rfl) (ag7 (ao5 l st) (ah2 _)) ?_;have h:=bd7 xs 249 [] [.ab5 (an6 l st)] (λx=>!(x.tr l st)) c fok249.1 λx g=>js9 l st a x (b x g)
 have e:(aa6.trs l xs).all (λf=>f st)=!xs.any λx=>!(x.tr l st):=by
  rw[aa6.ec7,List.all_map,z6];congr 1;funext x;simp
 have i:=ab3 (.mk k d xs);rw[e];simp only[ic199,go_sem,ae7,ae2,ac5,i,bb3];refine aa4 fok82 (h) ?_;simp only[go_sem];exact ac8 rfl
def kj6 (l:List aa1)(st:List Bool)(a:st.length=l.length)(k:Int)(d:Dep)(xs:List aa6)(c:xs.length<2^62)(b:∀x∈xs,hz9 l x):Pq 200 [.agg (an6 l st),.agg (aa6.mk k d xs).cs] (.bool ((aa6.trs l xs).any λf=>f st)):=by
 refine af5 hE fok200 (nZ rfl) (ag7 (ao5 l st) (ah2 _)) ?_;have h:=bd7 xs 145 [.agg (an6 l st)] [] (λx=>x.tr l st) c fok145.1 λx g=>b x g st a
 have e:(aa6.trs l xs).any (λf=>f st)=xs.any λx=>x.tr l st:=by
  rw[aa6.ec7,List.any_map];rfl
 have i:=ab3 (.mk k d xs);rw[e];simp only[ic200,go_sem,ae7,ae2,af2,ac5,i,bb3];refine aa4 fok82 (h) ?_;simp only[go_sem];exact ac8 rfl
def et6 {l:List aa1}{xs:List aa6}{n:Nat}(h:n<xs.length)(st:List Bool):((aa6.trs l xs).getD n ff) st=(xs[n]).tr l st:=by rw[aa6.ec7];simp[za,h]
def ia2 (l:List aa1)(xs:List aa6):(aa6.trs l xs).length=xs.length:=by rw[aa6.ec7,zb]
def kj7 (l:List aa1)(st:List Bool)(a:st.length=l.length)(k:Int)(d:Dep)(xs:List aa6)(s:2<=xs.length)(g:∀x∈xs,hz9 l x):Pq 201 [.agg (an6 l st),.agg (aa6.mk k d xs).cs]
  (.bool (if ((aa6.trs l xs).getD 1 ff) st then ((aa6.trs l xs).getD 0 ff) st else decide ((aa6.trs l xs).length<3)||((aa6.trs l xs).getD 2 ff) st)):=by
 refine af5 hE fok201 (nZ rfl) (ag7 (ao5 l st) (ah2 _)) ?_;have n0:0<xs.length:=om;have f:1<xs.length:=om;have h0:=g _ (zd n0) st a;have i:=g _ (zd f) st a;have m:=dl8 n0;have j:=dl8 f;have o:(0:Int)<xs.length:=om;have n:(1:Int)<xs.length:=om;have b:=ab3 (.mk k d xs);rw[et6 f,et6 n0,ia2];simp only[ic201,go_sem,ae7,ae2,af2,ac5,b,bb3,o,n,m,j,ab9,ab3]
 first|refine aa4 fok145 (i) ?_|refine aa8 (i) ?_
 cases xs[1].tr l st with
 | true=>
  simp only[go_sem,ae7,ae2,af2,ac5,b,bb3,o,n,m,j,ab9,ab3]
  first|refine aa4 fok145 (h0) ?_|refine aa8 (h0) ?_
  simp only[go_sem]
  exact ac8 rfl
 | false=>
  by_cases q:xs.length<3
  .have c:(xs.length:Int)<3:=om;simp only[go_sem,ae7,ae2,af2,ac5,b,bb3,c];exact ac8 (by simp[q])
  .have c:¬(xs.length:Int)<3:=om;have e:2<xs.length:=om;have h:=g _ (zd e) st a;have p:=dl8 e;have r:(2:Int)<xs.length:=om;rw[et6 e];simp only[go_sem,ae7,ae2,af2,ac5,b,bb3,c,r,p,ab9,ab3]
   first|refine aa4 fok145 (h) ?_|refine aa8 (h) ?_
   simp only[go_sem];exact ac8 (by simp[q])
def ia3 (l:List aa1)(st:List Bool)(a:st.length=l.length)(k:Int)(d:Dep)(xs:List aa6)(t:2<=xs.length)(p:xs.length<2^31)(g:∀x∈xs,hz9 l x):Pq 202 [.agg (an6 l st),.agg (aa6.mk k d xs).cs]
  (.bool (if ((aa6.trs l xs).getD 1 ff) st then decide ((aa6.trs l xs).length=3)&&((aa6.trs l xs).getD 2 ff) st else ((aa6.trs l xs).getD 0 ff) st)):=by
 refine af5 hE fok202 (nZ rfl) (ag7 (ao5 l st) (ah2 _)) ?_;have n0:0<xs.length:=om;have f:1<xs.length:=om;have h0:=g _ (zd n0) st a;have i:=g _ (zd f) st a;have m:=dl8 n0;have j:=dl8 f;have o:(0:Int)<xs.length:=om;have n:(1:Int)<xs.length:=om;have b:=ab3 (.mk k d xs);rw[et6 f,et6 n0,ia2];simp only[ic202,go_sem,ae7,ae2,af2,ac5,b,bb3,o,n,m,j,ab9,ab3]
 first|refine aa4 fok145 (i) ?_|refine aa8 (i) ?_
 cases xs[1].tr l st with
 | false=>
  simp only[go_sem,ae7,ae2,af2,ac5,b,bb3,o,n,m,j,ab9,ab3]
  first|refine aa4 fok145 (h0) ?_|refine aa8 (h0) ?_
  simp only[go_sem]
  exact ac8 rfl
 | true=>
  by_cases q:xs.length=3
  .have c:(xs.length:Int)=3:=om;have e:2<xs.length:=om;have h:=g _ (zd e) st a;have r:=dl8 e;have s:(2:Int)<3:=om;rw[et6 e];simp only[go_sem,ae7,ae2,af2,ac5,b,bb3,c,s,r,ab9,ab3]
   first|refine aa4 fok145 (h) ?_|refine aa8 (h) ?_
   simp only[go_sem];exact ac8 (by simp[q])
  .have c:¬(xs.length:Int)=3:=om;simp only[go_sem,ae7,ae2,af2,ac5,b,bb3,c];exact ac8 (by simp[q])
abbrev IsA (p:aa1)(r:aa6):Prop:=Pq 229 [.agg p.cs,.agg r.cs] (.bool (r.alone p))
def et7 (p:aa1)(x:aa6)(a:IsA p x):Pq 266 [.agg x.cs,.ab5 p.cs] (.bool (x.alone p)):=by
 refine af5 hE fok266 (nZ rfl) (ag7 (ah2 _) (.ab5 _ (ag4 p))) ?_;simp only[ic266,go_sem,ad8,ad9,ac9,ac5,ab9,ab3];refine aa4 fok229 (a) ?_;simp only[go_sem];exact ac8 rfl
def et8 (p:aa1)(x:aa6)(a:IsA p x):Pq 267 [.agg x.cs,.ab5 p.cs] (.bool !(x.alone p)):=by
 refine af5 hE fok267 (nZ rfl) (ag7 (ah2 _) (.ab5 _ (ag4 p))) ?_;simp only[ic267,go_sem,ad8,ad9,ac9,ac5,ab9,ab3];refine aa4 fok229 (a) ?_;simp only[go_sem];exact ac8 rfl
def ix3 (p:aa1)(hp:Pkg.small p)(t:Int)(r:aa6):r.an4 t true=true->r.fit->IsA p r:=by
 induction r using aa6.ind with
 | h k d xs ih=>
  intro hf c;simp only[aa6.an4,zk,aa6.bd4,List.all_eq_true,Bool.true_or] at hf;have⟨b,D⟩:=hf;have⟨P,N,M,L,E⟩:=aa6.ce5.1 c;have a:∀x∈xs,IsA p x:=λx a=>ih x a (D x a) (E x a)
  have H:=bd7 xs 266 [] [.ab5 p.cs] (λx=>x.alone p) om fok266.1 λx m=>et7 p x (a x m)
  have I:=bd7 xs 267 [] [.ab5 p.cs] (λx=>!(x.alone p)) om fok267.1 λx m=>et8 p x (a x m)
  have K:=ab3 (.mk k d xs)
  have F:(aa6.mk k d xs).alone p=fl2 p k d (xs.map λr=>r.alone p):=by
   show fl2 _ _ _ _=_;rw[aa6.gg6]
  unfold IsA;rw[F];refine af5 hE fok229 (nZ rfl) (ag7 (ap5 p) (ah2 _)) ?_;unfold fl2;have i:¬(3:Int)=1:=by decide
  have g:¬(7:Int)=1:=by decide
  have f:¬(7:Int)=3:=by decide
  unfold ca5 at b;by_cases e1:k=1
  .rw[if_pos e1] at b;simp only[zk,decide_eq_true_eq] at b;have B:=cb3 p d hp (ci1 b.2);rw[if_pos e1];simp only[ic229,go_sem,ad8,ad9,ac9,ac5,ab9,ab3,aw4,ia1,et5,e1];refine aa4 fok81 (B) ?_;simp only[go_sem];exact ac8 rfl
  rw[if_neg e1] at b ⊢;by_cases e3:k=3
  .rw[if_pos e3];simp only[ic229,go_sem,ad8,ad9,ac9,ac5,ab9,ab3,aw4,bb3,e3,i];refine aa4 fok82 (H) ?_;simp only[go_sem];exact ac8 (by rw[List.any_map];rfl)
  rw[if_neg e3];by_cases e:k=7
  .have J:xs.length=2:=by
    simp[e] at b;exact b.1
   have n0:0<xs.length:=om;have j:1<xs.length:=om;have y:=et7 p _ (a _ (zd n0));have u:=et8 p _ (a _ (zd j));have o:=dl8 n0;have n:=dl8 j;have s:(0:Int)<xs.length:=om;have q:(1:Int)<xs.length:=om;have A:(xs.map λr=>r.alone p).getD 0 false=xs[0].alone p:=by simp[za,n0]
   have z:(xs.map λr=>r.alone p).getD 1 false=xs[1].alone p:=by simp[za,j]
   rw[if_pos e,A,z];simp only[ic229,go_sem,ad8,ad9,ac9,ac5,ab9,ab3,aw4,bb3,e,g,f,s,q,o,n];refine al7 fok266.1 y ?_
   cases xs[0].alone p with
   | false=>simp only[go_sem];exact ac8 rfl
   | true=>
    simp only[go_sem,ac5,ab9,ab3,bb3,s,q,o,n];refine al7 fok267.1 u ?_;simp only[go_sem];exact ac8 rfl
  rw[if_neg e];simp only[ic229,go_sem,ad8,ad9,ac9,ac5,ab9,ab3,aw4,bb3,e1,e3,e];refine aa4 fok82 (I) ?_;simp only[go_sem];refine ac8 ?_;rw[List.all_map,z6];congr 2;funext x;simp
def le6 (l:List aa1){i:Nat}(h:i<l.length):((l.map aa1.cs).flatten.drop (i*15)).take 15=(l.getD i default).cs/\15<=((l.map aa1.cs).flatten.drop (i*15)).length:=by
 have a:∀e∈l.map aa1.cs,e.length=15:=λe b=>(ar7 _ e b).1
 have d:=bp9 a i (by rw[zb];exact h);have c:=bc1 a;refine ⟨by rw[d];simp[za,h],?_⟩;rw[List.length_drop,c,zb];omega
def as5 {σ s:Store}(b:Kept σ s)(c mid:Nat)(a:IV):bc3 σ s c mid a a:=⟨b.next,λi hi _ _ _=>b.obj i hi,.inl rfl⟩
variable (l:List aa1) (hl:l.length<=100) (hs:∀p∈l,Pkg.small p) (b:Int)
include hl
theorem di9 {q:aa1->Bool}:(de9 (numsOf q l) b).length<=100/\∀x∈de9 (numsOf q l) b,0<=x/\x<100:=by
 have d:=fb6 (numsOf q l) b;have c:=ai6 q l;exact ⟨om,λx a=>by have:=fl6 x a;omega⟩
include hs
theorem kj8 (d:Dep)(H:ak2 d=true)(σ:Store)(g mid:Nat)(a c:IV)(t:ag9)(h:ar1 σ g mid (ad7 l).v a c l t)(E:t.h<2^20)(hf:t.few) :
  Cq 173 [.ptr g 0,.agg (aa6.mk 1 d []).cs,.int .i64 b] σ (dv5 σ g mid (ad7 l).v a c l (gm3 l.length (de9 (ag3 l d) b) t)):=by
 refine C_f fok173 (nZ rfl) ?_;have hc:=h.cell;have j:(ad7 l).v.leaf=true:=rfl;have k:(ad7 l).v.cs=[(ad7 l).v]:=rfl;have I:=λσ=>dl7 l d om hs (ci1 H) σ
 have F:=ai6 (λp=>provides p d) l;generalize (ad7 l).v=X at *;simp only[ic173,go_sem,ab3,hc,j,k,ac5,ia1,et5];refine ab8 fok133 (I _) ?_;rintro v s ⟨o,hr⟩;refine ⟨o.next,?_⟩;simp only[go_sem];refine ab8 fok224 (es8 b (by unfold ag3;omega) hr.w) ?_;rintro B z ⟨⟨A,D⟩,m⟩;refine ⟨A,?_⟩;simp only[go_sem];have n:σ.next<=s.next:=o.low.next;have y:Kept σ z:=⟨zz n A,λi hi=>by rw[D i (by show i<σ.next+_;omega) om,o.low.obj i hi]⟩;have e:cb9 z σ.next B (de9 (ag3 l d) b):=m.low (by show σ.next<=min (σ.next+_) s.next;omega);refine ab8 fok223 (hz4 (σ:=σ) (h.mono y.next y.obj) (as5 y _ _ _) e (zc _) (tab_late h e) λK x=>kj5 _ (di9 l hl b).1 (di9 l hl b).2 K g mid X a c l t x om E hf) ?_;rintro L u ⟨J,rfl,f,q,r⟩;refine ⟨J,?_⟩;simp only[go_sem];exact ⟨rfl,f,q,r⟩
theorem ia4 (r:aa6)(hr:r.an4 1 true=true)(y:r.fit)(σ:Store)(k mid:Nat)(E c f:IV)(t:ag9)(h:ar1 σ k mid E c f l t)(ht:t.h<2^20)(hf:t.few) :
  Cq 178 [.ptr k 0,.agg r.cs,.int .i64 b] σ (dv5 σ k mid E c f l (gm3 l.length (de9 (numsOf (λp=>r.alone p) l) b) t)):=by
 refine C_f fok178 (nZ rfl) ?_;have hc:=h.cell
 have L:∀s,cx6 0 s c=zj (.int .i64 l.length):=λs=>by
  have:=cg9 (s':=s) h.all;rw[zb] at this;exact this
 simp only[ic178,go_sem,ab3,ac5,hc,L];have x:numsOf (λp=>r.alone p) l=aj5 (λn=>r.alone (l.getD n default)) l.length:=rfl;rw[x];generalize o:(λn:Nat=>r.alone (l.getD n default))=qq;have H:∀n,qq n=r.alone (l.getD n default):=λn=>by rw[<- o]
 refine aa9 noT (λi fr s=>∃D,fr=[(0,.ptr k 0),(2,.int .i64 b),(4,.ab5 r.cs),(7,D),(13,c),(14,.int .i64 l.length),(15,.int .i64 (i:Int))]/\Kept σ s/\ah7 s σ.next D (aj5 qq i)) l.length ⟨.aa5,rfl,Kept.refl σ,.inl ⟨rfl,rfl⟩⟩ ?_;rintro i fr s aa ⟨D,rfl,g,B⟩;by_cases d:i<l.length
 .have Y:(i:Int)<l.length:=om;have c2:(0:Int)<=(i:Int):=om;have wi:=ac6 (i:=i) om;have⟨r1,r2⟩:=le6 l d
  have I:l.getD i default∈l:=by
   rw[za,zm d];exact zd d
  have X:=ix3 (l.getD i default) (hs _ I) 1 r hr y;unfold IsA at X;rw[<- H] at X
  obtain ⟨j,Q,P,ab⟩:∃j,c=.slice j 0 l.length 15/\s.obj j=zj (.row (l.map aa1.cs).flatten)/\j<s.next:=by
   rcases (h.mono g.next g.obj).all with ⟨_,z⟩|⟨j,z,h2,h3⟩
   .have:=congrArg List.length z;rw[zb,List.length_nil] at this;omega
   .exact ⟨j,by rw[z,zb],h2,h3⟩
  subst Q;have e:=bd3 qq i;have J:=ai3 qq i;generalize l.getD i default=p at *;simp only[go_sem,Y,c2,P,r1,r2,zw,zh,ad8,ad9,ac9,ac5,ab9,ab3];refine aa4 fok229 (X) ?_
  cases hq:qq i with
  | false=>
   rw[hq,if_neg sm,zq] at e;simp only[go_sem,wi]
   exact ⟨d,D,rfl,g.trans (Kept.box s _ _),by rw[e];exact B.kept (Kept.box s _ _)⟩
  | true=>
   rw[hq,if_pos rfl] at e;simp only[go_sem];rw[az4 (s:=⟨s.next+1+1,_⟩) (lo:=σ.next) (zs:=aj5 qq i) ((B.kept (Kept.box s _ _)).up 1) (i:Int) om];simp only[go_sem,wi];have hz:=bc2 (g.trans (Kept.box s (.cells [.str [],.int .i64 0,.str [],.str [],.int .u8 0,.str [],.aa5,.aa5,.aa5,.aa5,.aa5,.aa5,.aa5,.aa5,.aa5]) (.cells p.cs))) (B.kept (Kept.box s _ _)) (i:Int) (a:=1) (nid:=s.next+1) (zc _) (ze _) rfl;rw[e];exact ⟨d,_,rfl,hz.1,hz.2⟩
 .have N:i=l.length:=om;subst N;have Y:¬(l.length:Int)<l.length:=om;have J:=ai3 qq l.length;simp only[go_sem,Y];refine ab8 fok224 (es8 b om B.w) ?_;rintro v2 s2 ⟨⟨k1,k2⟩,F⟩;refine ⟨k1,?_⟩;simp only[go_sem];have M:=g.next;have W:Kept σ s2:=⟨zz M k1,λi hi=>by rw[k2 i hi om,g.obj i hi]⟩;have m:cb9 s2 σ.next v2 (de9 (aj5 qq l.length) b):=F.low om;have S:=di9 (q:=λp=>r.alone p) l hl b;rw[x,o] at S;refine ab8 fok223 (hz4 (σ:=σ) (h.mono W.next W.obj) (as5 W _ _ _) m (zc _) (tab_late h m) λK V=>kj5 _ S.1 S.2 K k mid E c f l t V om ht hf) ?_;rintro v' u ⟨z,rfl,A,T,U⟩;refine ⟨z,?_⟩;simp only[go_sem];exact ⟨rfl,A,T,U⟩
end Go.Id.Tryz
