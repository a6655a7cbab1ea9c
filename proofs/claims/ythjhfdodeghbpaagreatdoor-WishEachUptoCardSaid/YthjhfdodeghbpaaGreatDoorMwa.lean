/- A rich dependency's literal tells whether a state satisfies it. Conditions: none; no program in sight. -/
import Derived.Test.YthjhfdodeghbpaaGreatDoorMg
import Derived.Test.YthjhfdodeghbpaaGreatDoorFwQ
import Derived.Test.YthjhfdodeghbpaaGreatDoorFwRo
open Nat renaming lt_of_lt_of_le→za,le_refl→zd,le_trans→ze,le_add_right→zj,not_lt_zero→zq,le_succ→z0,add_le_add_left→z7
open List renaming mem_map→zb,length_append→zc,getD_eq_getElem?_getD→zf,length_map→zg,mem_singleton→zh,mem_cons→zk,getElem?_eq_getElem→zl,not_mem_nil→zm,length_cons→zn,mem_cons_self→zo,length_singleton→zp,mem_cons_of_mem→zr,getElem_mem→zt,all_eq_true→zv,takeWhile_cons→zx,dropWhile_cons→zy,map_append→zz,take_succ_cons→z1,cons_append→z2,mem_append→z3,length_filter_le→z5,pairwise_map→z9
open Bool renaming and_eq_true→zi,true_or→z4
open Int renaming toNat_natCast→zu
open Option renaming some→zw,none→z6,map_some→z8
set_option linter.all false
private theorem om{P:Prop}(h:P:=by omega):P:=h
private theorem sm{P:Prop}(h:P:=by simp):P:=h
namespace Go.Id.Md
open Go Go.Id
variable {c:Nat} {t:ag9}
def fl6 {l:List aa1}{q:aa1->Bool}{b:Int}:∀n∈de9 (numsOf q l) b,0<=n/\n<(l.length:Int):=λn a=>by
 obtain ⟨m,rfl,d,_⟩:=av9.1 (List.mem_filter.1 a).1;omega
def Told.weak {n m:Nat}{r:Int×ag9}{P Q:(Int->Bool)->Bool}(h:Told c n t r P)(f:n<=m)(e:∀T,P T=Q T):Told c m t r Q :=
 ⟨⟨h.le.1,by have:=h.le.2;omega⟩,h.cl,h.ok,λT a b d=>by rw[<- e];exact h.says T a b d⟩
structure kd2 (c n:Nat) (t:ag9) (r:List Int×ag9) (P:(Int->Bool)->List Bool):Prop where
 le:t.h<=r.2.h/\r.2.h<=t.h+n
 cl:∀q∈t.cl,q∈r.2.cl
 ok:r.2.OK c/\∀x∈r.1,RgN (c+r.2.h) x
 says:∀T,jl4 (c+r.2.h) T->kx6 T r.2.cl->fl5 T t->r.1.map T=P T/\fl5 T r.2
def kd2.then {n m:Nat}{r:List Int×ag9}{P:(Int->Bool)->List Bool}{w:Int×ag9}{Q R:(Int->Bool)->Bool}(h:kd2 c n t r P)(g:Told c m r.2 w Q)
  (e:∀T,jl4 (c+r.2.h) T->r.1.map T=P T->Q T=R T):Told c (n+m) t w R :=
 ⟨⟨ze h.le.1 g.le.1,by have:=h.le.2;have:=g.le.2;omega⟩,λq e=>g.cl q (h.cl q e),g.ok,λT a b d=>by
  have f:jl4 (c+r.2.h) T:=a.mono (by have:=g.le.1;omega);have⟨j,i⟩:=h.says T f (λq e=>b q (g.cl q e)) d;have⟨o,k⟩:=g.says T a b i;exact ⟨o.trans (e T f j),k⟩⟩
variable (l:List aa1) (hc:l.length<=100) (b:Int)
include hc
end Go.Id.Md
namespace Go.Id.Md
open Go Go.Id
def noL (l:List Int):List Int:=l.map λn=>-(n+1)
namespace ac2
variable (a:ac2)
def eo2 (j:Int):List (List Int):=
 if (a.jb j).kind=1 then [upL (a.meant j)]
 else if (a.jb j).kind=3 then (a.meant j).map λn=>upL (a.an3 n)
 else if (a.jb j).kind=4 then ((a.meant j).filter λn=>decide (0<(a.du9 n).length)).map λn=>upL (a.du9 n)
 else (a.meant j).map λn=>noL [n]
def fb5 (x:Itm):List (List Int):=
 if x.kind=1 then [noL [x.p]]
 else if x.kind=4 then (de9 (ap8 a.l (a.dk8 x)) x.p).map λn=>noL [x.p,n]
 else if x.kind=5 then [noL [x.p,x.q]]
 else if x.kind=6 then [upL (a.an3 x.p)]
 else a.eo2 x.p
def ao4 (x:Itm)(t:ag9):List (List Int)×ag9 :=
 if x.kind=2 then ([noL [x.p]++[((a.cf4 x).bn2 a.l (-1) t).1]],((a.cf4 x).bn2 a.l (-1) t).2)
 else if x.kind=3 then ([noL [x.p]++[-((a.bg9 x).bn2 a.l x.p t).1]],((a.bg9 x).bn2 a.l x.p t).2)
 else (a.fb5 x,t)
def as7:List Itm->ag9->List (List (List Int))×ag9
 | [],t=>([],t)
 | x::xs,t=>((a.ao4 x t).1::(as7 xs (a.ao4 x t).2).1,(as7 xs (a.ao4 x t).2).2)
variable {a} {T:Int->Bool} {st:List Int}
def bk9 {i:Int}:∀n∈a.an3 i,a.is n=true:=λn d=>by
 obtain ⟨_,m,rfl,h⟩:=a.fk6 d;rw[ac2.bq8];exact decide_eq_true h
def cf5 {j:Int}:∀n∈a.meant j,a.is n=true:=λn d=>by
 obtain ⟨m,rfl,h⟩:=a.fm5 d;rw[ac2.bq8];exact decide_eq_true h
structure bo6 (a:ac2):Prop where
 len:a.l.length<=100
 need:∀p:Nat,p<a.l.length->∀r∈(a.pk p).requires,r.an4 1 false=true/\bk6 r=true/\r.count<=24
 clash:∀p:Nat,p<a.l.length->∀r∈(a.pk p).conflicts,r.an4 1 false=true/\bk6 r=true/\r.count<=24
 kind:∀j:Nat,j<a.r.ae8.length->1<=(a.jb j).kind/\(a.jb j).kind<=4
variable (hO:bo6 a)
include hO
theorem gz2 {p q:Nat}(hp:p<a.l.length)(d:q<(a.pk p).requires.length):(a.cf4 ⟨2,p,q⟩).an4 1 false=true/\bk6 (a.cf4 ⟨2,p,q⟩)=true/\(a.cf4 ⟨2,p,q⟩).count<=24:=by
 refine hO.need p hp _ ?_;unfold cf4;rw[zu,zf,zl d];exact zt d
theorem fl7 {p q:Nat}(hp:p<a.l.length)(d:q<(a.pk p).conflicts.length):(a.bg9 ⟨3,p,q⟩).an4 1 false=true/\bk6 (a.bg9 ⟨3,p,q⟩)=true/\(a.bg9 ⟨3,p,q⟩).count<=24:=by
 refine hO.clash p hp _ ?_;unfold bg9;rw[zu,zf,zl d];exact zt d
end ac2
theorem gz3 {k:Int}{d:Dep}{n:Nat}{b:Bool}(h:ca5 2 k d n b=true):ca5 1 k d n b=true:=by
 unfold ca5 at *;split
 .rename_i e;rw[if_pos e] at h;exact h
 rename_i e1;rw[if_neg e1] at h;rw[zi] at h ⊢;refine ⟨?_,h.2⟩;have h:=h.1;split
 .rename_i e;rw[if_pos e] at h;exact h
 rename_i e2;rw[if_neg e2] at h;split
 .rename_i e;rw[if_pos e] at h;exact h
 rename_i e3;rw[if_neg e3] at h;split
 .rename_i e;rw[if_pos e] at h;simp at h
 rename_i e4;rw[if_neg e4] at h;split
 .rename_i e;rw[if_pos e] at h;simpa using h
 .rename_i e;rw[if_neg e] at h;exact h
theorem gz4 (r:aa6):∀b,r.an4 2 b=true->r.an4 1 b=true:=by
 induction r using aa6.ind with
 | h k d aZ ih=>
  intro b h;simp only[aa6.an4,zi,aa6.bd4,zv] at h ⊢;exact ⟨gz3 h.1,λa e=>ih a e _ (h.2 a e)⟩
theorem bh2 {r:aa6}{d:Int}(h:af3 r d=0)(e:d=1\/d=2):r.an4 1 false=true/\bk6 r=true/\r.count<=24:=by
 refine ⟨?_,gy2 h,?_⟩
 .rw [bm9] at h;split at h
  .cases h
  .split at h
   .cases h
   .split at h
    .cases h
    .split at h
     .cases h
     .rename_i hf;have hf:r.an4 d false=true:=by simpa using hf
      rcases e with rfl|rfl
      .exact hf
      .exact gz4 r _ hf
 .rw[bm9] at h;split at h
  .cases h
  .split at h
   .cases h
   .rename_i f;omega
theorem fl8 {r:aa6}{d:Int}(h:af3 r d=0)(e:d=1\/d=2):af3 r 1=0:=by
 have f:=(bh2 h e).1;rw[bm9] at h ⊢;rw[f];split at h
 .cases h
 .split at h
  .cases h
  .split at h
   .cases h
   .rename_i e1 e2 e3;rw[if_neg (by decide),if_neg e2,if_neg e3];rfl
theorem bd5 {l:List aa6}{d:Int}(h:ai2 l d=true):∀r∈l,af3 r d=0:=λr hr=>by
 unfold ai2 at h;rw[zi,zv] at h;exact of_decide_eq_true (h.2 r hr)
theorem bl4 {p:aa1}(h:ae9 p=true):ai2 p.requires 1=true/\ai2 p.conflicts 2=true:=by
 unfold ae9 at h;simp only[zi] at h;exact ⟨h.1.1.1.1.1.2,h.1.1.1.1.2⟩
theorem kd3 {a:ac2}(hp:∀p∈a.l,ae9 p=true)(f:a.l.length<=100)(hr:ak3 a.r a.p.inst=0):a.bo6 where
 len:=f
 need:=λp h r hr=>by
  have d:a.pk p∈a.l:=by
   unfold ac2.pk;rw[zu,zf,zl h];exact zt h
  exact bh2 (bd5 (bl4 (hp _ d)).1 r hr) (.inl rfl)
 clash:=λp h r hr=>by
  have d:a.pk p∈a.l:=by
   unfold ac2.pk;rw[zu,zf,zl h];exact zt h
  exact bh2 (bd5 (bl4 (hp _ d)).2 r hr) (.inr rfl)
 kind:=λj e=>by
  unfold ak3 at hr;split at hr
  .cases hr
  .split at hr
   .cases hr
   .split at hr
    .cases hr
    .rename_i h;have h:a.r.ae8.all ax3=true:=by simpa using h
     have d:a.jb j∈a.r.ae8:=by
      unfold ac2.jb;rw[zu,zf,zl e];exact zt e
     have:=zv.1 h _ d;unfold ax3 at this;simp only[zi,decide_eq_true_eq] at this;exact this.1
theorem ed3 (f:Nat->Bool)(g:Nat->Itm)(n:Nat):(be1 f g n).length<=n:=by
 unfold be1;rw[zg];exact ze (z5 _ _) (by rw[List.length_range];exact zd _)
theorem gz5 {a:ac2}(hp:∀p∈a.l,ae9 p=true)(o:a.l.length<=100)(hi:a.p.inst<=a.l.length)(s:a.r.ae8.length<=64):a.items.length<=20000:=by
 have m:∀k,k<=a.l.length->(a.owns k).length<=97*k:=by
  intro k
  induction k with
  | zero=>intro _;exact zd _
  | succ k g=>
   intro h;have g:=g om;rw[a.cf2,zc]
   have d:a.pk k∈a.l:=by
    unfold ac2.pk;rw[zu,zf,zl h];exact zt h
   have d:=hp _ d;have⟨f,e⟩:=bl4 d;unfold ae9 at d;simp only[zi,decide_eq_true_eq] at d;have n:=d.1.1.1.1.1.1.1.1.2.1;unfold ai2 at f e;rw[zi,decide_eq_true_eq] at f e;unfold ac2.id4 ac2.br1;rw[zc,zc,zc,ac2.bg8,ac2.bg8,ac2.bg8];have f:=f.1;have e:=e.1;split<;>simp only[List.length_nil,zp]<;>omega
 have j:∀k,(a.at7 k).length<=100*k:=by
  intro k
  induction k with
  | zero=>exact zd _
  | succ k g=>
   rw[a.bn1,zc];have:=ed3 (λq=>decide (k<q)&&a.twins k q) (λq=>⟨5,k,q⟩) a.l.length;unfold ac2.gy4 ac2.cx1;omega
 have m:=m _ (zd _);have j:=j a.l.length;have x:=ed3 (λi=>!a.goes i) (λi=>⟨6,i,0⟩) a.p.inst.toNat;have u:=ed3 (λi=>!a.dropped i) (λi=>⟨7,i,0⟩) a.r.ae8.length;rw[a.az7];unfold ac2.ca6 ac2.gm2;omega
def dj1 (l:List (Str×Int)):List (IV×IV):=l.map λe=>(.str e.1,.int .i64 e.2)
theorem gz6 (k:Str):∀l:List (Str×Int),ba7 2 (.str k) (dj1 l)=zw ((bx7 l k).map λx=>.int .i64 x):=by
 intro l
 induction l with
 | nil=>rfl
 | cons t l ih=>
  have e:bx7 (t::l) k=if k=t.1 then zw t.2 else bx7 l k:=rfl
  rw[e];unfold dj1 at *;simp only[List.map_cons,ba7,dn1];by_cases h:k=t.1
  .simp[h]
  .simp only[h,decide_false,ih,if_false]
theorem jl5 {k:Str}{x:Int}:∀ {l:List (Str×Int)},bx7 l k=z6->eh5 2 (.str k) (.int .i64 x) (dj1 l)=zw (dj1 (l++[(k,x)])):=by
 intro l
 induction l with
 | nil=>intro _;rfl
 | cons t l ih=>
  intro h;unfold bx7 at h;split at h
  .cases h
  .rename_i e;have:=ih h;unfold dj1 at *;simp only[List.map_cons,z2,eh5,dn1,e,decide_false,this,z8]
theorem im7 {l:List (Str×Int)}(h:(l.map (·.1)).Nodup):da5 (dj1 l):=by
 refine ⟨?_,.str,λe d=>?_⟩
 .unfold dj1;rw[List.map_map];have f:=z9.1 h;exact z9.2 (f.imp λ{a b} hab e=>hab (IV.str.inj e))
 .obtain ⟨x,_,rfl⟩:=zb.1 d;trivial
def clE (q:List Int):List IV:=[.aa2 (q.map ad1)]
theorem eo3 (l:List (List Int)):∀e∈l.map clE,e.length=1/\e.all IV.leaf=true:=λe d=>by
 obtain ⟨x,_,rfl⟩:=zb.1 d;exact ⟨rfl,rfl⟩
structure ar1 (s:Store) (tp mid:Nat) (xv allv clv:IV) (P:List aa1) (t:ag9):Prop where
 cell:s.obj tp=zw (.cells [xv,allv,.int .i64 t.h,clv,.map mid])
 all:Grow s allv 15 (P.map aa1.cs)
 cls:Grow s clv 1 (t.cl.map clE)
 map:s.obj mid=zw (.map (dj1 t.sets))
 ne:∀i k j l,clv=.slice i 0 k 1->allv=.slice j 0 l 15->i≠j
 lt:tp<s.next/\mid<s.next
structure bc3 (σ s:Store) (tp mid:Nat) (clv clv':IV):Prop where
 next:σ.next<=s.next
 obj:∀i,i<σ.next->i≠tp->i≠mid->(∀k,clv≠.slice i 0 k 1)->s.obj i=σ.obj i
 new:clv'=clv\/∀i k,clv'=.slice i 0 k 1->σ.next<=i
theorem bc3.refl (σ:Store)(e mid:Nat)(d:IV):bc3 σ σ e mid d d:=⟨zd _,λ_ _ _ _ _=>rfl,.inl rfl⟩
theorem bc3.trans {σ s u:Store}{d mid:Nat}{a b c:IV}(h:bc3 σ s d mid a b)(g:bc3 s u d mid b c):bc3 σ u d mid a c where
 next:=ze h.next g.next
 obj:=λi hi n m j=>by
  rw[g.obj i (za hi h.next) n m λk e=>?_,h.obj i hi n m j];rcases h.new with f|f
  .exact j k (by rw[<- f];exact e)
  .have:=f i k e;omega
 new:=by
  rcases g.new with e|o
  .rw[e];exact h.new
  .exact .inr λi k e=>ze h.next (o i k e)
theorem ar1.mono {s s':Store}{k mid:Nat}{j d f:IV}{P:List aa1}{t:ag9}(h:ar1 s k mid j d f P t)(m:s.next<=s'.next)(g:∀i,i<s.next->s'.obj i=s.obj i):ar1 s' k mid j d f P t where
 cell:=by rw[g _ h.lt.1];exact h.cell
 all:=h.all.mono m λid _ e=>g id e
 cls:=h.cls.mono m λid _ e=>g id e
 map:=by rw[g _ h.lt.2];exact h.map
 ne:=h.ne
 lt:=⟨by have:=h.lt.1;omega,by have:=h.lt.2;omega⟩
theorem bc3.kx7 {σ s:Store}{o mid:Nat}{r m d j v:IV}{P:List aa1}{t:ag9}{lo:Nat}{zs:List Int}(g:bc3 σ s o mid d j)(h:ar1 σ o mid r m d P t)(hr:ah7 σ lo v zs)(n:∀i k l,d=.slice i 0 k 1->v≠.slice i 0 l 1):ah7 s lo v zs:=by
 rcases hr with h0|⟨id,u,q,p,f⟩
 .exact .inl h0
 .refine .inr ⟨id,u,za q g.next,p,?_⟩;rw[g.obj id q (λe=>?_) (λe=>?_) λk e=>n id k _ e p]
  .exact f
  .rw[e,h.cell] at f;cases f
  .rw[e,h.map] at f;cases f
variable {σ s:Store} {tp mid nid k:Nat} {xv allv clv:IV} {P:List aa1} {t:ag9}
theorem ar1.gg9 (h:ar1 s tp mid xv allv clv P t):∀i cs,s.obj i=zw (.row cs)->i≠tp/\i≠mid:=λi cs hi=>
 ⟨λe=>(by rw[e,h.cell] at hi;cases hi),λe=>(by rw[e,h.map] at hi;cases hi)⟩
theorem ar1.ntm (h:ar1 s tp mid xv allv clv P t):¬mid=tp:=λe=>by have d:=h.map;rw[e,h.cell] at d;cases d
theorem tab_push (h:ar1 s tp mid xv allv clv P t)(q:List Int)(E:t.cl.length<2147483648)(I:s.next<=nid)(H:nid<s.next+k) :
  ∃g,bb4 ⟨s.next+k,s.obj⟩ nid 1 clv (.aa2 [clE q])=zw (.slice nid 0 (t.cl.length+1) 1,g)/\g.next=s.next+k/\g.obj tp=zw (.cells [xv,allv,.int .i64 t.h,clv,.map mid]) /\
   ar1 (g.put tp (.cells [xv,allv,.int .i64 t.h,.slice nid 0 (t.cl.length+1) 1,.map mid])) tp mid xv allv (.slice nid 0 (t.cl.length+1) 1) P ⟨t.h,t.cl++[q],t.sets⟩ /\
   bc3 s (g.put tp (.cells [xv,allv,.int .i64 t.h,.slice nid 0 (t.cl.length+1) 1,.map mid])) tp mid clv (.slice nid 0 (t.cl.length+1) 1):=by
 have y:Grow (⟨s.next+k,s.obj⟩:Store) clv 1 (t.cl.map clE):=h.cls.mono (by show s.next<=s.next+k;omega) λ_ _ _=>rfl
 have p:=ai1 (nid:=nid) (e:=clE q) y (eo3 _) ⟨rfl,rfl⟩ (by rw[zg];exact E);rw[zg] at p;have z:=h.lt.1;have A:=h.lt.2;have m:¬tp=nid:=om;have u:¬mid=nid:=om;have r:=h.ntm
 have d:∀i,(∀k,clv≠.slice i 0 k 1)->(ad4 clv (⟨s.next+k,s.obj⟩:Store)).obj i=s.obj i:=λi hi=>by
  rcases y with ⟨h0,_⟩|⟨j,f,_,_⟩
  .rw[h0];rfl
  .rw[f];show (if i=j then z6 else s.obj i)=_;rw[if_neg λe=>hi _ (by rw[f,e])]
 have o:∀i,(∀cs,s.obj i≠zw (.row cs))->∀k,clv≠.slice i 0 k 1:=λi hi k e=>by
  rcases h.cls with ⟨h0,_⟩|⟨j,f,x,_⟩
  .rw[h0] at e;cases e
  .rw[f] at e;cases e;exact hi _ x
 have B:=d tp (o tp λcs e=>by rw[h.cell] at e;cases e);have D:=d mid (o mid λcs e=>by rw[h.map] at e;cases e);have nm:(t.cl++[q]).map clE=t.cl.map clE++[clE q]:=by rw[zz];rfl
 refine ⟨_,p,by rw[aa7,ac1],by rw[aa3,if_neg m,B];exact h.cell,?_,?_⟩
 .exact {
   cell:=by rw[aa3,if_pos rfl]
   all:=by
    refine h.all.mono (by rw[aa7,aa7,ac1];show s.next<=s.next+k;omega) λid n F=>?_
    have hr:∃cs,s.obj id=zw (.row cs):=by
     rcases h.all with ⟨h0,_⟩|⟨j,f,x,_⟩
     .rw[h0] at n;cases n
     .rw[f] at n;cases n;exact ⟨_,x⟩
    have⟨cs,hr⟩:=hr;rw[aa3,if_neg (h.gg9 _ _ hr).1,aa3,if_neg om,d id λk e=>h.ne _ _ _ _ e n rfl]
   cls:=by
    refine .inr ⟨nid,by rw[zg,zc];rfl,?_,by rw[aa7,aa7,ac1];exact H⟩;rw[aa3,if_neg (λe=>m e.symm),aa3,if_pos rfl,nm]
   map:=by rw[aa3,if_neg r,aa3,if_neg u,D];exact h.map
   ne:=λi k j l e1 e2=>by
    cases e1;rcases h.all with ⟨h0,_⟩|⟨L,f,_,M⟩
    .rw[h0] at e2;cases e2
    .rw[f] at e2;cases e2;omega
   lt:=by rw[aa7,aa7,ac1];exact ⟨by show tp<s.next+k;omega,by show mid<s.next+k;omega⟩ }
 .refine ⟨by rw[aa7,aa7,ac1];show s.next<=s.next+k;omega,λi hi K N J=>?_,.inr λi k e=>by cases e;exact I⟩;rw[aa3,if_neg K,aa3,if_neg om,d i J]
theorem tab_set (h:ar1 s tp mid xv allv clv P t)(x:Str)(y:Int) :
  ar1 (s.put mid (.map (dj1 (t.sets++[(x,y)])))) tp mid xv allv clv P ⟨t.h,t.cl,t.sets++[(x,y)]⟩/\bc3 s (s.put mid (.map (dj1 (t.sets++[(x,y)])))) tp mid clv clv:=by
 have d:=h.ntm
 have hr:∀ {v:IV} {esz:Nat} {es:List (List IV)},Grow s v esz es->Grow (s.put mid (.map (dj1 (t.sets++[(x,y)])))) v esz es:=λ{v esz es} hg=>by
  rcases hg with h0|⟨id,i,f,g⟩
  .exact .inl h0
  .exact .inr ⟨id,i,by rw[aa3,if_neg (h.gg9 _ _ f).2];exact f,by rw[aa7];exact g⟩
 refine ⟨{ cell:=by rw[aa3,if_neg (λe=>d e.symm)];exact h.cell,all:=hr h.all,cls:=hr h.cls,map:=by rw[aa3,if_pos rfl],ne:=h.ne,lt:=by rw[aa7];exact h.lt },⟨by rw[aa7];exact zd _,λi hi n j m=>by rw[aa3,if_neg j],.inl rfl⟩⟩
theorem tab_upd (h:s.obj mid=zw (.map (dj1 t.sets))){x:Str}(y:Int)(d:bx7 t.sets x=z6):ap3 s 2 (.map mid) (.str x) (.int .i64 y)=zw (s.put mid (.map (dj1 (t.sets++[(x,y)])))):=by
 simp only[ap3,h,jl5 d,z8]
theorem tab_look (h:s.obj mid=zw (.map (dj1 t.sets)))(x:Str):cj3 s 2 (.int .i64 0) true (.map mid) (.str x)=zw (.tuple [((bx7 t.sets x).map λx=>IV.int .i64 x).getD (.int .i64 0),.bool (bx7 t.sets x).isSome]):=by
 simp only[cj3,cc7,h,gz6,if_true,Option.isSome_map]
theorem ar1.up (h:ar1 s tp mid xv allv clv P t)(n:Nat):ar1 ⟨s.next+n,s.obj⟩ tp mid xv allv clv P t:=h.mono (zj _ _) λ_ _=>rfl
theorem bc3.up {d:IV}(h:bc3 σ s tp mid clv d)(n:Nat):bc3 σ ⟨s.next+n,s.obj⟩ tp mid clv d:=⟨ze h.next (zj _ _),h.obj,h.new⟩
theorem ar1.kills (h:ar1 s tp mid xv allv clv P t){S:Nat->Bool}(e:∀i,S i=false->i≠tp/\i≠mid/\(∀k,clv≠.slice i 0 k 1)/\∀k,allv≠.slice i 0 k 15):ar1 (s.kills S) tp mid xv allv clv P t:=by
 have d:∀i,(S i=false->False)->(s.kills S).obj i=s.obj i:=λi hi=>by
  show (if S i=true then s.obj i else z6)=_;rw[if_pos (by cases hs:S i with|true=>rfl|false=>exact (hi hs).elim)]
 exact {
  cell:=by rw[d tp λhs=>(e _ hs).1 rfl];exact h.cell
  all:=h.all.mono (zd _) λid f _=>d id λhs=>(e _ hs).2.2.2 _ f
  cls:=h.cls.mono (zd _) λid f _=>d id λhs=>(e _ hs).2.2.1 _ f
  map:=by rw[d mid λhs=>(e _ hs).2.1 rfl];exact h.map
  ne:=h.ne
  lt:=h.lt }
end Go.Id.Md
namespace Go.Id.Md
open Go Go.Id
def ag9.few (t:ag9):Prop:=t.cl.length<=101*t.h
def bw7 {c:Nat}{l:List Int}{t:ag9}(h:t.few)(d:l.length<=100):(al6 c l t).2.few:=by
 unfold ag9.few at *;show (t.cl++(l.map λx=>[-x,((c+(t.h+1):Nat):Int)])++[_]).length<=101*(t.h+1);simp only[zc,zg,zp];omega
def eo4 {c:Nat}{l:List Int}{t:ag9}(h:t.few)(d:l.length<=100):(cu9 c l t).2.few :=
 bw7 (c:=c) (l:=en9 l) h (by unfold en9;rw[zg];exact d)
def dv4 {c:Nat}{x y w:Int}{t:ag9}(h:t.few):(ca7 c x y w t).2.few:=by
 unfold ag9.few at *;show (t.cl++[_,_,_,_]).length<=101*(t.h+1);simp only[zc,zn,List.length_nil];omega
def gz7 {c:Nat}{l:List Int}{t:ag9}(h:t.few)(d:l.length<=100):(gm3 c l t).2.few:=by
 unfold gm3;split
 .exact h
 .split
  .exact h
  .exact bw7 (c:=c) (l:=upL l) h (by unfold upL;rw[zg];exact d)
def fb6 (l:List Int)(b:Int):(de9 l b).length<=l.length:=z5 _ _
def cy9 (l:List aa1)(b:Int):∀(d:List aa6) (t:ag9),(aa6.an7 l b d t).1.length=d.length:=by
 intro d
 induction d with
 | nil=>intro t;rfl
 | cons a d ih=>intro t;simp only[aa6.an7,zn,ih]
def gz8 (l:List aa1)(b:Int)(a:aa6):∀(d:List aa6) (t:ag9),aa6.an7 l b (d++[a]) t=((aa6.an7 l b d t).1++[(a.bn2 l b (aa6.an7 l b d t).2).1],(a.bn2 l b (aa6.an7 l b d t).2).2):=by
 intro d
 induction d with
 | nil=>intro t;rfl
 | cons r rs ih=>intro t;simp only[z2,aa6.an7,ih]
def ed4 (l:List aa1)(hc:l.length<=100)(b:Int)(r:aa6):r.count<=100->∀t:ag9,t.few->(r.bn2 l b t).2.few:=by
 induction r using aa6.ind with
 | h k d e ih=>
  intro hr t j
  have m:∀e:List aa6,e.length<=aa6.counts e/\∀a∈e,a.count<=aa6.counts e:=by
   intro e
   induction e with
   | nil=>exact ⟨zd _,λa h=>by cases h⟩
   | cons a e ih2=>
    have⟨B,u⟩:=ih2;have z:1<=a.count:=by have⟨k,d,xs⟩:=a;simp only[aa6.count];omega
    simp only[aa6.counts,zn];refine ⟨om,λx i=>?_⟩;rcases zk.1 i with rfl|i
    .omega
    .have:=u x i;omega
  simp only[aa6.count] at hr
  have f:∀q:aa1->Bool,(de9 (numsOf q l) b).length<=100:=λq=>by
   have z:=fb6 (numsOf q l) b;have D:=ai6 q l;omega
  have y:∀(e:List aa6),(∀a∈e,∀t:ag9,t.few->(a.bn2 l b t).2.few)->∀t:ag9,t.few->(aa6.an7 l b e t).2.few:=by
   intro e
   induction e with
   | nil=>intro _ t h;exact h
   | cons a e ih2=>intro h t j;exact ih2 (λx i=>h x (zr _ i)) _ (h a zo t j)
  have⟨A,p⟩:=m e;have g:=y e (λa o=>ih a o (by have:=p a o;omega)) t j;have n:(aa6.an7 l b e t).1.length<=100:=by rw[cy9];omega
  unfold aa6.bn2;split
  .exact gz7 j (f _)
  .split
   .exact gz7 j (f _)
   .unfold gg7;split
    .exact eo4 g n
    .split
     .exact bw7 g n
     .split
      .split
       .exact dv4 g
       .exact bw7 g sm
      .split
       .exact dv4 g
       .exact eo4 g sm
def bp3:IV->Nat->Bool
 | .slice j _ _ _,i=>decide (i≠j)
 | _,_=>true
def df1 {s:Store}{lo:Nat}{v:IV}{zs:List Int}(h:cb9 s lo v zs):Frz s (λi=>bp3 v i=true) v (.aa2 (zs.map Md.ad1)):=by
 rcases h with ⟨rfl,rfl⟩|⟨id,cs,o,n,rfl,f,e,m⟩
 .exact .by1
 .refine .slice id 0 zs.length 1 cs (zs.map Md.ad1) (by simp[bp3]) (.inr f) (by rw[zg]) om (λi hi=>?_) λi hi j g=>?_
  .simp[zf,hi,Md.ad1]
  .have d:j=0:=om;subst d;have e2:((zs.map Md.ad1).getD i []).getD 0 .undef=bg1 zs[i]:=by simp[zf,hi,Md.ad1]
   rw[e2,Nat.zero_add,Nat.mul_one,Nat.add_zero,eb2 e hi];exact .keep _ (.int _ _)
def df2 {s:Store}{lo:Nat}{v:IV}{zs:List Int}(h:cb9 s lo v zs){i:Nat}(hi:bp3 v i=false):lo<=i/\∃k,v=.slice i 0 k 1/\∃cs,s.obj i=zw (.row cs):=by
 rcases h with ⟨rfl,rfl⟩|⟨id,cs,f,m,rfl,d,j,g⟩
 .cases hi
 .have e:i=id:=by simpa [bp3] using hi
  subst e;exact ⟨f,_,rfl,_,d⟩
variable {σ s u:Store} {tp mid lo:Nat} {xv allv clv a b c:IV} {P:List aa1} {t:ag9} {v:IV} {zs:List Int}
def ar1.off (h:ar1 s tp mid xv allv clv P t)(hr:cb9 s lo v zs)(d:∀i k l,clv=.slice i 0 k 1->v≠.slice i 0 l 1)(f:∀i k l,allv=.slice i 0 k 15->v≠.slice i 0 l 1):ar1 (s.kills (bp3 v)) tp mid xv allv clv P t :=
 h.kills λi hi=>by
  have⟨m,k,j,cs,g⟩:=df2 hr hi;exact ⟨(h.gg9 _ _ g).1,(h.gg9 _ _ g).2,λk' e=>d _ _ _ e j,λk' e=>f _ _ _ e j⟩
def bc3.kill {S:Nat->Bool}(h:bc3 σ s tp mid a b)(g:bc3 (s.kills S) u tp mid b c)(n:∀i,i<σ.next->S i=true):bc3 σ u tp mid a c where
 next:=ze h.next g.next
 obj:=λi hi m j f=>by
  have e:(s.kills S).obj i=s.obj i:=by show (if S i=true then s.obj i else z6)=_;rw[if_pos (n i hi)]
  rw[g.obj i (za hi h.next) m j λk e=>?_,e,h.obj i hi m j f];rcases h.new with d|d
  .exact f k (by rw[<- d];exact e)
  .have:=d i k e;omega
 new:=by
  rcases g.new with e|o
  .rw[e];exact h.new
  .exact .inr λi k e=>ze h.next (o i k e)
def dv5 (σ:Store)(tp mid:Nat)(xv allv clv:IV)(P:List aa1)(r:Int×ag9)(v:IV)(s:Store):Prop :=
 v=.int .i64 r.1/\∃clv',bc3 σ s tp mid clv clv'/\ar1 s tp mid xv allv clv' P r.2
end Go.Id.Md
namespace Go.Id.Md
open Go Go.Id
variable {σ s u:Store} {tp mid lo k nid:Nat} {xv allv clv a b c:IV} {P:List aa1} {t:ag9} {v:IV} {zs:List Int}
def cr9 (h:ah7 s lo v zs){i m:Nat}(e:v=.slice i 0 m 1):lo<=i/\∃cs,s.obj i=zw (.row cs):=by
 rcases h with ⟨rfl,_⟩|⟨id,f,g,rfl,d⟩
 .cases e
 .cases e;exact ⟨f,_,d⟩
def ar1.but (h:ar1 s tp mid xv allv clv P t)(hr:ah7 s lo v zs)(j:∀i k l,clv=.slice i 0 k 1->v≠.slice i 0 l 1)(n:∀i k l,allv=.slice i 0 k 15->v≠.slice i 0 l 1)(o:s.next<=u.next)
  (f:∀i,i<s.next->(∀m,v≠.slice i 0 m 1)->u.obj i=s.obj i):ar1 u tp mid xv allv clv P t where
 cell:=by
  rw[f _ h.lt.1 λm e=>?_]
  .exact h.cell
  .have⟨_,cs,e2⟩:=cr9 hr e;exact (h.gg9 _ _ e2).1 rfl
 all:=h.all.mono o λid g d=>f id d λm e=>n _ _ _ g e
 cls:=h.cls.mono o λid g d=>f id d λm e=>j _ _ _ g e
 map:=by
  rw[f _ h.lt.2 λm e=>?_]
  .exact h.map
  .have⟨_,cs,e2⟩:=cr9 hr e;exact (h.gg9 _ _ e2).2 rfl
 ne:=h.ne
 lt:=⟨by have:=h.lt.1;omega,by have:=h.lt.2;omega⟩
def bc3.but (h:bc3 σ s tp mid a b)(hr:ah7 s lo v zs)(j:σ.next<=lo)(g:s.next<=u.next)(f:∀i,i<s.next->(∀m,v≠.slice i 0 m 1)->u.obj i=s.obj i):bc3 σ u tp mid a b :=
 ⟨ze h.next g,λi hi p o n=>by
  have d:∀m,v≠.slice i 0 m 1:=λm e=>by have:=(cr9 hr e).1;omega
  rw[f i (za hi h.next) d,h.obj i hi p o n],h.new⟩
def tab_row (h:ar1 s tp mid xv allv clv P t)(hr:ah7 s lo v zs)(d:∀i k l,clv=.slice i 0 k 1->v≠.slice i 0 l 1)(f:∀i k l,allv=.slice i 0 k 15->v≠.slice i 0 l 1)(n:Int)(A:s.next<=nid)(z:nid<s.next+k)(o:lo<=s.next){cs:List IV}(hc:cs=(zs++[n]).map bg1) :
  ar1 ((ad4 v ⟨s.next+k,s.obj⟩).put nid (.row cs)) tp mid xv allv clv P t/\(∀σ a,bc3 σ s tp mid a clv->σ.next<=lo->bc3 σ ((ad4 v ⟨s.next+k,s.obj⟩).put nid (.row cs)) tp mid a clv) /\
   ah7 ((ad4 v ⟨s.next+k,s.obj⟩).put nid (.row cs)) lo (.slice nid 0 (zs.length+1) 1) (zs++[n])/\(∀i k l,clv=.slice i 0 k 1->IV.slice nid 0 (zs.length+1) 1≠.slice i 0 l 1)/\(∀i k l,allv=.slice i 0 k 15->IV.slice nid 0 (zs.length+1) 1≠.slice i 0 l 1):=by
 subst hc;have x:s.next<=((ad4 v ⟨s.next+k,s.obj⟩).put nid (.row ((zs++[n]).map bg1))).next:=by rw[aa7,ac1];exact zj _ _
 have r:∀i,i<s.next->(∀m,v≠.slice i 0 m 1)->((ad4 v ⟨s.next+k,s.obj⟩).put nid (.row ((zs++[n]).map bg1))).obj i=s.obj i:=λi hi y=>by
  rw[aa3,if_neg om];rcases hr with ⟨rfl,_⟩|⟨id,_,_,rfl,_⟩
  .rfl
  .show (if i=id then z6 else s.obj i)=_;rw[if_neg λe=>y _ (by rw[e])]
 refine ⟨h.but hr d f x r,λσ a g p=>g.but hr p x r,.inr ⟨nid,ze o A,by rw[aa7,ac1];exact z,by rw[zc,zp],by rw[aa3,if_pos rfl]⟩,λi k l e e2=>?_,λi k l e e2=>?_⟩
 .cases e2;rcases h.cls with ⟨h0,_⟩|⟨j,q,_,p⟩
  .rw[h0] at e;cases e
  .rw[q] at e;cases e;omega
 .cases e2;rcases h.all with ⟨h0,_⟩|⟨j,q,_,p⟩
  .rw[h0] at e;cases e
  .rw[q] at e;cases e;omega
end Go.Id.Md
namespace Go.Id.Md
open Go Go.Id
def fl9 (l:List aa1)(hc:l.length<=100)(b:Int):∀d:List aa6,(∀a∈d,a.count<=100)->∀t:ag9,t.few->(aa6.an7 l b d t).2.few:=by
 intro d
 induction d with
 | nil=>intro _ t h;exact h
 | cons a d ih2=>intro h t f;exact ih2 (λx e=>h x (zr _ e)) _ (ed4 l hc b a (h a zo) t f)
def fb7 (d:List aa6):∀i,(h:i<d.length)->aa6.counts (d.take i)+(d[i]).count<=aa6.counts d:=by
 induction d with
 | nil=>intro i h;exact absurd h (zq _)
 | cons a d ih=>
  intro i h
  cases i with
  | zero=>simp only[List.take_zero,aa6.counts,List.getElem_cons_zero];omega
  | succ i=>
   have:=ih i (by simpa using h);simp only[z1,aa6.counts,List.getElem_cons_succ];omega
def df3 {k:Int}{d:Dep}{f:List aa6}{e:Int}(hf:(aa6.mk k d f).an4 e false=true\/(aa6.mk k d f).an4 e true=true) :
  (ca5 e k d f.length false=true\/ca5 e k d f.length true=true)/\∀a∈f,a.an4 e false=true\/a.an4 e true=true:=by
 rcases hf with hf|hf<;>simp only[aa6.an4,zi,aa6.bd4,zv] at hf
 .refine ⟨.inl hf.1,λa g=>?_⟩;have:=hf.2 a g;cases h:(false||decide (k=6)||decide (k=7))<;>rw[h] at this
  .exact .inl this
  .exact .inr this
 .refine ⟨.inr hf.1,λa g=>?_⟩;have:=hf.2 a g;rw[z4,z4] at this;exact .inr this
def dv6 {k:Int}{d:Dep}{g:List aa6}(e:k=6\/k=7)(hf:(aa6.mk k d g).an4 1 false=true\/(aa6.mk k d g).an4 1 true=true):(aa6.mk k d g).an4 1 true=true:=by
 have f:=(df3 hf).1
 have i:∀a∈g,a.an4 1 true=true:=by
  have e:((decide (k=6))||decide (k=7))=true:=by rcases e with rfl|rfl<;>decide
  rcases hf with hf|hf<;>simp only[aa6.an4,zi,aa6.bd4,zv,Bool.or_assoc,e,Bool.or_true] at hf<;>exact hf.2
 have h:ca5 1 k d g.length true=true:=by
  rcases f with f|f
  .unfold ca5 at f ⊢;rcases e with rfl|rfl<;>simpa using f
  .exact f
 simp only[aa6.an4,zi,aa6.bd4,zv,z4];exact ⟨h,i⟩
def dv7 {k:Int}{d:Dep}{n:Nat}(h:ca5 1 k d n false=true\/ca5 1 k d n true=true):(k=1/\n=0/\ak2 d=true)\/k=2\/k=3\/(k=4/\(n=2\/n=3))\/(k=5/\(n=2\/n=3))\/k=6\/k=7:=by
 unfold ca5 at h;by_cases e1:k=1
 .simp only[e1,if_true,or_self,zi,decide_eq_true_eq] at h;exact .inl ⟨e1,h.1,h.2⟩
 rw[if_neg e1,if_neg e1] at h;by_cases e2:k=2
 .exact .inr (.inl e2)
 by_cases e3:k=3
 .exact .inr (.inr (.inl e3))
 by_cases g:k=6
 .exact .inr (.inr (.inr (.inr (.inr (.inl g)))))
 by_cases f:k=7
 .exact .inr (.inr (.inr (.inr (.inr (.inr f)))))
 by_cases e4:k=4
 .simp[e4] at h;exact .inr (.inr (.inr (.inl ⟨e4,h.1⟩)))
 by_cases e:k=5
 .simp[e] at h;exact .inr (.inr (.inr (.inr (.inl ⟨e,h.1⟩))))
 .simp[e2,e3,e4,e,g,f] at h
variable {σ s u:Store} {tp mid lo k nid:Nat} {xv allv clv a b c:IV} {P:List aa1} {t:ag9} {v:IV} {zs:List Int}
def tab_row2 (h:ar1 s tp mid xv allv clv P t)(hr:ah7 s lo v zs)(r:∀i k l,clv=.slice i 0 k 1->v≠.slice i 0 l 1)(x:∀i k l,allv=.slice i 0 k 15->v≠.slice i 0 l 1)(n:Int)(z:lo<=nid)(y:nid<s.next)
  (f:nid≠tp/\nid≠mid/\(∀k,clv≠.slice nid 0 k 1)/\∀k,allv≠.slice nid 0 k 15) {cs:List IV} (hc:cs=(zs++[n]).map bg1) :
  ar1 ((ad4 v s).put nid (.row cs)) tp mid xv allv clv P t/\(∀σ a,bc3 σ s tp mid a clv->σ.next<=lo->bc3 σ ((ad4 v s).put nid (.row cs)) tp mid a clv) /\
   ah7 ((ad4 v s).put nid (.row cs)) lo (.slice nid 0 (zs.length+1) 1) (zs++[n])/\(∀i k l,clv=.slice i 0 k 1->IV.slice nid 0 (zs.length+1) 1≠.slice i 0 l 1)/\(∀i k l,allv=.slice i 0 k 15->IV.slice nid 0 (zs.length+1) 1≠.slice i 0 l 1):=by
 subst hc;have o:s.next<=((ad4 v s).put nid (.row ((zs++[n]).map bg1))).next:=by rw[aa7,ac1];exact zd _
 have j:∀i,i≠nid->(∀m,v≠.slice i 0 m 1)->((ad4 v s).put nid (.row ((zs++[n]).map bg1))).obj i=s.obj i:=λi hi d=>by
  rw[aa3,if_neg hi];rcases hr with ⟨rfl,_⟩|⟨id,_,_,rfl,_⟩
  .rfl
  .show (if i=id then z6 else s.obj i)=_;rw[if_neg λe=>d _ (by rw[e])]
 have p:∀i cs,s.obj i=zw (.cells cs)->∀m,v≠.slice i 0 m 1:=λi cs hi m e=>by
  have⟨_,cs',e2⟩:=cr9 hr e;rw[hi] at e2;cases e2
 have q:∀i cs,s.obj i=zw (.map cs)->∀m,v≠.slice i 0 m 1:=λi cs hi m e=>by
  have⟨_,cs',e2⟩:=cr9 hr e;rw[hi] at e2;cases e2
 refine ⟨?_,λσ a g E=>⟨ze g.next o,λi hi D B A=>?_,g.new⟩,.inr ⟨nid,z,by rw[aa7,ac1];exact y,by rw[zc,zp],by rw[aa3,if_pos rfl]⟩,λi k l e e2=>?_,λi k l e e2=>?_⟩
 .exact {
   cell:=by rw[j _ (λe=>f.1 e.symm) (p _ _ h.cell)];exact h.cell
   all:=h.all.mono o λid d _=>j id (λe=>f.2.2.2 _ (by rw[<- e];exact d)) λm e=>x _ _ _ d e
   cls:=h.cls.mono o λid d _=>j id (λe=>f.2.2.1 _ (by rw[<- e];exact d)) λm e=>r _ _ _ d e
   map:=by rw[j _ (λe=>f.2.1 e.symm) (q _ _ h.map)];exact h.map
   ne:=h.ne
   lt:=⟨za h.lt.1 o,za h.lt.2 o⟩ }
 .have d:∀m,v≠.slice i 0 m 1:=λm e=>by have:=(cr9 hr e).1;omega
  rw[j i om d,g.obj i hi D B A]
 .cases e2;exact f.2.2.1 _ e
 .cases e2;exact f.2.2.2 _ e
def dv5.from {T:Store}{r:Int×ag9}(h:dv5 T tp mid xv allv b P r v s)(g:bc3 σ T tp mid a b):dv5 σ tp mid xv allv a P r v s:=by
 have⟨i,d,f,e⟩:=h;exact ⟨i,d,g.trans f,e⟩
def ar1.free (h:ar1 s tp mid xv allv clv P t){i:Nat}(hi:s.next<=i):i≠tp/\i≠mid/\(∀k,clv≠.slice i 0 k 1)/\∀k,allv≠.slice i 0 k 15:=by
 refine ⟨by have:=h.lt.1;omega,by have:=h.lt.2;omega,λk e=>?_,λk e=>?_⟩
 .rcases h.cls with ⟨h0,_⟩|⟨j,d,_,f⟩
  .rw[h0] at e;cases e
  .rw[d] at e;cases e;omega
 .rcases h.all with ⟨h0,_⟩|⟨j,d,_,f⟩
  .rw[h0] at e;cases e
  .rw[d] at e;cases e;omega
def gz9 (h:ah7 s lo v zs)(d:0<zs.length):∃id,v=.slice id 0 zs.length 1/\s.obj id=zw (.row (zs.map bg1)):=by
 rcases h with ⟨_,rfl⟩|⟨id,_,_,f,e⟩
 .exact absurd d (Nat.lt_irrefl _)
 .exact ⟨id,f,e⟩
end Go.Id.Md
namespace Go.Id
open Go
def ha5 {P:Program}{E:Nat->IV}{σ:Store}{f:Nat}{args:List IV}{Q Q':IV->Store->Prop}(h:C P E f args σ Q)(B:∀v s,Q v s->∃(S:Nat->Bool) (g:IV),Frz s (λi=>S i=true) v g/\Q' g (s.kills S)):C P E f args σ Q':=by
 intro ρ w d hs D;refine CallsIn.mono (h ρ w d hs D) ?_;rintro e F ⟨v,r,y,σ',rfl,q,x,o,A⟩;have⟨S,g,hf,z⟩:=B v σ' q;have⟨j,p,m,n⟩:=be4 (S:=S) x;exact ⟨g,r,j,σ'.kills S,rfl,z,p,n _ _ _ hf o,A.trans ((m _).weak (zd _))⟩
def ha6 {σ s:Store}{d:IV}{esz nid k:Nat}{es:List (List IV)}{e:List IV}(g:Kept σ s)(o:Grow s d esz es)(hi:∀i k,d=.slice i 0 k esz->σ.next<=i)(h:∀x∈es,x.length=esz/\x.all IV.leaf=true)(q:e.length=esz/\e.all IV.leaf=true)(p:es.length<2147483648)
  (y:s.next<=nid) (r:nid<s.next+k):bb4 ⟨s.next+k,s.obj⟩ nid esz d (.aa2 [e])=zw (.slice nid 0 (es.length+1) esz,(ad4 d ⟨s.next+k,s.obj⟩).put nid (.row (es++[e]).flatten)) /\
   Kept σ ((ad4 d ⟨s.next+k,s.obj⟩).put nid (.row (es++[e]).flatten))/\Grow ((ad4 d ⟨s.next+k,s.obj⟩).put nid (.row (es++[e]).flatten)) (.slice nid 0 (es.length+1) esz) esz (es++[e])/\∀i m,IV.slice nid 0 (es.length+1) esz=.slice i 0 m esz->σ.next<=i:=by
 have j:Grow (⟨s.next+k,s.obj⟩:Store) d esz es:=o.mono (zj _ _) λ_ _ _=>rfl
 have f:=g.next;refine ⟨ai1 j h q p,⟨?_,λi n=>?_⟩,.inr ⟨nid,by rw[zc];rfl,by rw[aa3,if_pos rfl],by rw[aa7,ac1];exact r⟩,λi m e=>by cases e;omega⟩
 .rw[aa7,ac1];exact ze f (zj _ _)
 .rw[aa3,if_neg om];rcases o with ⟨rfl,_⟩|⟨id,rfl,_,_⟩
  .exact g.obj i n
  .have:=hi id _ rfl;show (if i=id then z6 else s.obj i)=_;rw[if_neg om];exact g.obj i n
end Go.Id
namespace Go.Id.Md
open Go Go.Id
def cv2 (l:List (List Int)):IV:=.aa2 (l.map clE)
def ha7 (q:List Int):∀c∈clE q,Bnd 0 c:=λc hc=>by
 rw[clE,zh] at hc;subst hc
 exact .aa2 _ λe d c hc=>by
  obtain ⟨x,_,rfl⟩:=zb.1 d;rw[Md.ad1,zh] at hc;subst hc;exact .int _ _
def df4 (l:List (List Int)):Bnd 0 (cv2 l):=.aa2 _ λe d c hc=>by
 obtain ⟨q,_,rfl⟩:=zb.1 d;exact ha7 q c hc
def jv2 (σ:Store)(tp mid:Nat)(xv allv clv:IV)(P:List aa1)(r:List (List Int)×ag9)(v:IV)(s:Store):Prop :=
 v=.tuple [cv2 r.1,.int .i64 0]/\∃clv',bc3 σ s tp mid clv clv'/\ar1 s tp mid xv allv clv' P r.2
variable {Pr:Program} {E:Nat->IV} {σ s:Store} {tp mid f:Nat} {xv allv clv:IV} {P:List aa1} {t:ag9} {args:List IV} {cls:List (List Int)}
def ha8 {S:Nat->Prop}{v d:IV}(h:Frz s S v d):Frz s S (.tuple [v,.int .i64 0]) (.tuple [d,.int .i64 0]):=.bo4 (.cons h (.cons (.keep _ (.int _ _)) .nil))
def ja7 (y:ar1 σ tp mid xv allv clv P t)(h:C Pr E f args σ λv s=>∃g,v=.tuple [g,.int .i64 0]/\Kept σ s/\Grow s g 1 (cls.map clE)/\∀i k,g=.slice i 0 k 1->σ.next<=i):C Pr E f args σ (jv2 σ tp mid xv allv clv P (cls,t)):=by
 refine ha5 h ?_;rintro v s ⟨g,rfl,m,n,hi⟩
 have r:∀i,i<σ.next->bp3 g i=true:=λi j=>by
  rcases n with ⟨rfl,_⟩|⟨id,rfl,_,_⟩
  .rfl
  .have:=hi id _ rfl;simp only[bp3,decide_eq_true_eq];omega
 have d:Kept σ (s.kills (bp3 g)):=⟨m.next,λi j=>by
  show (if bp3 g i=true then s.obj i else z6)=_;rw[if_pos (r i j),m.obj i j]⟩
 refine ⟨bp3 g,_,ha8 (n.frz (λx o=>(eo3 _ x o).1) (λid e=>by rw[e];simp[bp3]) λe p c hc=>?_),rfl,clv,⟨d.next,λi j _ _ _=>d.obj i j,.inl rfl⟩,y.mono d.next d.obj⟩;obtain ⟨q,_,rfl⟩:=zb.1 p;exact (ha7 q c hc).weak λi h=>absurd h (zq _)
def fm1 (g:ar1 σ tp mid xv allv clv P t)(h:C Pr E f args σ λv s=>v=.tuple [cv2 cls,.int .i64 0]/\Kept σ s):C Pr E f args σ (jv2 σ tp mid xv allv clv P (cls,t)):=
 h.mono λv s ⟨j,d⟩=>⟨j,clv,⟨d.next,λi e _ _ _=>d.obj i e,.inl rfl⟩,g.mono d.next d.obj⟩
def ja8 {zs:List Int}(h:C Pr E f args σ λv s=>∃e d,v=.tuple [.aa2 [[e]],.int .i64 0]/\bc3 σ s tp mid clv d/\ar1 s tp mid xv allv d P t/\ah7 s σ.next e zs/\(∀i k l,d=.slice i 0 k 1->e≠.slice i 0 l 1)/\(∀i k l,allv=.slice i 0 k 15->e≠.slice i 0 l 1)) :
  C Pr E f args σ (jv2 σ tp mid xv allv clv P ([zs],t)):=by
 refine ha5 h ?_;rintro v s ⟨e,d,rfl,q,r,n,g,m⟩;refine ⟨bp3 e,.tuple [cv2 [zs],.int .i64 0],ha8 (.aa2 _ _ rfl (λi hi=>?_) λi hi j p=>?_),rfl,d,q.kill (bc3.refl _ _ _ _) λi hi=>?_,r.off n.w g m⟩
 .have:i=0:=by simpa using hi
  subst this;rfl
 .have h0:i=0:=by simpa using hi
  subst h0;have x:j=0:=by simpa using p
  subst x;exact df1 n.w
 .cases o:bp3 e i with
  | true=>rfl
  | false=>have:=(df2 n.w o).1;omega
end Go.Id.Md
namespace Go.Id.Md
open Go Go.Id
variable {σ s u:Store} {tp mid rp dm nid k:Nat} {xv allv clv clv' cv av c1 c3:IV} {P:List aa1} {t t':ag9} {fm:List (IV×IV)} {cs:List (List (List Int))}
def bkE (q:List (List Int)):List IV:=[cv2 q]
def ja9 (l:List (List (List Int))):∀e∈l.map bkE,e.length=1/\e.all IV.leaf=true:=λe d=>by
 obtain ⟨x,_,rfl⟩:=zb.1 d;exact ⟨rfl,rfl⟩
structure br3 (s:Store) (av c1 c3:IV) (rp dm tp mid:Nat) (fm:List (IV×IV)) (xv allv clv cv:IV) (P:List aa1) (t:ag9) (cs:List (List (List Int))):Prop where
 cell:s.obj rp=zw (.cells [av,c1,.ptr tp 0,c3,cv])
 map:s.obj dm=zw (.map fm)
 tab:ar1 s tp mid xv allv clv P t
 grow:Grow s cv 1 (cs.map bkE)
 ne:∀i k m,clv=.slice i 0 k 1->cv≠.slice i 0 m 1
 na:∀i k m,allv=.slice i 0 k 15->cv≠.slice i 0 m 1
 lt:rp<s.next/\dm<s.next
 dt:rp≠tp/\rp≠mid/\dm≠tp/\dm≠mid
def br3.mono (h:br3 s av c1 c3 rp dm tp mid fm xv allv clv cv P t cs)(d:Kept s u):br3 u av c1 c3 rp dm tp mid fm xv allv clv cv P t cs where
 cell:=by rw[d.obj _ h.lt.1];exact h.cell
 map:=by rw[d.obj _ h.lt.2];exact h.map
 tab:=h.tab.mono d.next d.obj
 grow:=h.grow.mono d.next λid _ e=>d.obj id e
 ne:=h.ne
 na:=h.na
 lt:=⟨za h.lt.1 d.next,za h.lt.2 d.next⟩
 dt:=h.dt
def df5 (h:ar1 s tp mid xv allv clv P t){i k:Nat}(e:clv=.slice i 0 k 1):(∃cs,s.obj i=zw (.row cs))/\i<s.next:=by
 rcases h.cls with ⟨h0,_⟩|⟨j,m,d,g⟩
 .rw[h0] at e;cases e
 .rw[m] at e;cases e;exact ⟨⟨_,d⟩,g⟩
def am7 {d:IV}{esz:Nat}{es:List (List IV)}(h:Grow s d esz es){i k:Nat}(e:d=.slice i 0 k esz):(∃cs,s.obj i=zw (.row cs))/\i<s.next:=by
 rcases h with ⟨h0,_⟩|⟨j,n,g,m⟩
 .rw[h0] at e;cases e
 .rw[n] at e;cases e;exact ⟨⟨_,g⟩,m⟩
def br3.eff (h:br3 s av c1 c3 rp dm tp mid fm xv allv clv cv P t cs)(g:bc3 s u tp mid clv clv')(p:ar1 u tp mid xv allv clv' P t'):br3 u av c1 c3 rp dm tp mid fm xv allv clv' cv P t' cs where
 cell:=by
  rw[g.obj _ h.lt.1 h.dt.1 h.dt.2.1 λk e=>?_]
  .exact h.cell
  .have⟨⟨cs,d⟩,_⟩:=df5 h.tab e;rw[h.cell] at d;cases d
 map:=by
  rw[g.obj _ h.lt.2 h.dt.2.2.1 h.dt.2.2.2 λk e=>?_]
  .exact h.map
  .have⟨⟨cs,d⟩,_⟩:=df5 h.tab e;rw[h.map] at d;cases d
 tab:=p
 grow:=h.grow.mono g.next λid o j=>by
  have⟨⟨cs,d⟩,_⟩:=am7 h.grow o;exact g.obj id j (h.tab.gg9 _ _ d).1 (h.tab.gg9 _ _ d).2 λk e=>h.ne _ _ _ e o
 ne:=λi k m e e2=>by
  have⟨_,q⟩:=am7 h.grow e2;rcases g.new with n|n
  .exact h.ne i k m (by rw[<- n];exact e) e2
  .have:=n i k e;omega
 na:=h.na
 lt:=⟨za h.lt.1 g.next,za h.lt.2 g.next⟩
 dt:=h.dt
def ha9 (h:br3 s av c1 c3 rp dm tp mid fm xv allv clv cv P t cs)(q:List (List Int))(N:cs.length<2147483648)(V:s.next<=nid)(Q:nid<s.next+k) :
  ∃y,bb4 ⟨s.next+k,s.obj⟩ nid 1 cv (.aa2 [[cv2 q]])=zw (.slice nid 0 (cs.length+1) 1,y)/\y.next=s.next+k/\y.obj rp=zw (.cells [av,c1,.ptr tp 0,c3,cv]) /\
   br3 (y.put rp (.cells [av,c1,.ptr tp 0,c3,.slice nid 0 (cs.length+1) 1])) av c1 c3 rp dm tp mid fm xv allv clv (.slice nid 0 (cs.length+1) 1) P t (cs++[q]):=by
 have D:Grow (⟨s.next+k,s.obj⟩:Store) cv 1 (cs.map bkE):=h.grow.mono (by show s.next<=s.next+k;omega) λ_ _ _=>rfl
 have x:=ai1 (nid:=nid) (e:=bkE q) D (ja9 _) ⟨rfl,rfl⟩ (by rw[zg];exact N);rw[zg] at x
 have n:∀i,(∀k,cv≠.slice i 0 k 1)->(ad4 cv (⟨s.next+k,s.obj⟩:Store)).obj i=s.obj i:=λi hi=>by
  rcases D with ⟨h0,_⟩|⟨j,B,_,_⟩
  .rw[h0];rfl
  .rw[B];show (if i=j then z6 else s.obj i)=_;rw[if_neg λe=>hi _ (by rw[B,e])]
 have o:∀i,(∀cs,s.obj i≠zw (.row cs))->∀k,cv≠.slice i 0 k 1:=λi hi k e=>by
  have⟨⟨cs,g⟩,_⟩:=am7 h.grow e;exact hi _ g
 have I:=h.lt.1;have J:=h.lt.2;have F:=h.tab.lt.1;have H:=h.tab.lt.2;have kr:=n rp (o rp λcs e=>by rw[h.cell] at e;cases e);have M:=n dm (o dm λcs e=>by rw[h.map] at e;cases e);have K:=n tp (o tp λcs e=>by rw[h.tab.cell] at e;cases e);have L:=n mid (o mid λcs e=>by rw[h.tab.map] at e;cases e);have z:¬dm=rp:=λe=>by have:=h.map;rw[e,h.cell] at this;cases this
 have nm:(cs++[q]).map bkE=cs.map bkE++[bkE q]:=by rw[zz];rfl
 have d:∀i,i≠rp->i≠nid->((((ad4 cv (⟨s.next+k,s.obj⟩:Store)).put nid (.row (cs.map bkE++[bkE q]).flatten))).put rp (.cells [av,c1,.ptr tp 0,c3,.slice nid 0 (cs.length+1) 1])).obj i=(ad4 cv (⟨s.next+k,s.obj⟩:Store)).obj i:=λi U S=>by
  rw[aa3,if_neg U,aa3,if_neg S]
 have p:((((ad4 cv (⟨s.next+k,s.obj⟩:Store)).put nid (.row (cs.map bkE++[bkE q]).flatten))).put rp (.cells [av,c1,.ptr tp 0,c3,.slice nid 0 (cs.length+1) 1])).next=s.next+k:=by rw[aa7,aa7,ac1]
 refine ⟨_,x,by rw[aa7,ac1],by rw[aa3,if_neg om,kr];exact h.cell,?_⟩
 exact {
  cell:=by rw[aa3,if_pos rfl]
  map:=by rw[d _ z om,M];exact h.map
  tab:={
   cell:=by rw[d _ (λe=>h.dt.1 e.symm) om,K];exact h.tab.cell
   all:=h.tab.all.mono (by rw[p];omega) λid r A=>by
    have⟨⟨c,g⟩,_⟩:=am7 h.tab.all r;rw[d _ (λe=>by rw[e,h.cell] at g;cases g) om,n id λk e=>h.na _ _ _ r e]
   cls:=h.tab.cls.mono (by rw[p];omega) λid r A=>by
    have⟨⟨c,g⟩,_⟩:=am7 h.tab.cls r;rw[d _ (λe=>by rw[e,h.cell] at g;cases g) om,n id λk e=>h.ne _ _ _ r e]
   map:=by rw[d _ (λe=>h.dt.2.1 e.symm) om,L];exact h.tab.map
   ne:=h.tab.ne
   lt:=by rw[p];exact ⟨om,om⟩ }
  grow:=by
   refine .inr ⟨nid,by rw[zg,zc];rfl,?_,by rw[p];exact Q⟩;rw[aa3,if_neg om,aa3,if_pos rfl,nm]
  ne:=λi k m e e2=>by
   cases e2;have⟨_,g⟩:=df5 h.tab e;omega
  na:=λi k m e e2=>by
   cases e2;have⟨_,g⟩:=am7 h.tab.all e;omega
  lt:=by rw[p];exact ⟨om,om⟩
  dt:=h.dt }
def tabV (xv:IV)(P:List aa1)(t:ag9):IV:=.ab5 [xv,.aa2 (P.map aa1.cs),.int .i64 t.h,cv2 t.cl,.am2 (dj1 t.sets)]
def jl6 (av c1 c3 xv:IV)(P:List aa1)(t:ag9)(cs:List (List (List Int))):IV:=.ab5 [av,c1,tabV xv P t,c3,.aa2 (cs.map bkE)]
def ar1.frz (h:ar1 s tp mid xv allv clv P t)(d:Bnd 0 xv)(hp:∀y:aa1,∀c∈y.cs,Bnd 0 c)(g:∀e∈P.map aa1.cs,e.length=15)(n:(t.sets.map (·.1)).Nodup):cc3 s 0 (.ptr tp 0) (tabV xv P t):=by
 refine .ptr tp 0 _ _ (zq _) (.inl h.cell) (zd _) λj o=>?_
 match j,o with
 | 0,_=>exact .keep _ d
 | 1,_=>
  exact h.all.frz g (λ_ _=>zq _) λe m c hc=>by
   obtain ⟨y,_,rfl⟩:=zb.1 m
   exact hp y c hc
 | 2,_=>exact .keep _ (.int _ _)
 | 3,_=>
  exact h.cls.frz (λx d=>(eo3 _ x d).1) (λ_ _=>zq _) λe m c hc=>by
   obtain ⟨y,_,rfl⟩:=zb.1 m
   exact ha7 y c hc
 | 4,_=>
  refine .map mid (dj1 t.sets) (dj1 t.sets) (dj1 t.sets) (zq _) h.map rfl (List.Perm.refl _) (im7 n) (λi hi=>?_) λi hi=>?_
  .have:(dj1 t.sets).getD i (.undef,.undef)∈dj1 t.sets:=ad5 _ hi;have⟨x,_,d⟩:=zb.1 this;rw[<- d];exact .keep _ (.str _)
  .have:(dj1 t.sets).getD i (.undef,.undef)∈dj1 t.sets:=ad5 _ hi;have⟨x,_,d⟩:=zb.1 this;rw[<- d];exact .keep _ (.int _ _)
def br3.frz (h:br3 s av c1 c3 rp dm tp mid fm xv allv clv cv P t cs)(o:Bnd 0 av)(q:Bnd 0 c1)(p:Bnd 0 c3)(d:Bnd 0 xv)(hp:∀y:aa1,∀c∈y.cs,Bnd 0 c)(g:∀e∈P.map aa1.cs,e.length=15)(i:(t.sets.map (·.1)).Nodup):cc3 s 0 (.ptr rp 0) (jl6 av c1 c3 xv P t cs):=by
 refine .ptr rp 0 _ _ (zq _) (.inl h.cell) (zd _) λj m=>?_
 match j,m with
 | 0,_=>exact .keep _ o
 | 1,_=>exact .keep _ q
 | 2,_=>exact h.tab.frz d hp g i
 | 3,_=>exact .keep _ p
 | 4,_=>
  exact h.grow.frz (λx d=>(ja9 _ x d).1) (λ_ _=>zq _) λe n c hc=>by
   obtain ⟨y,_,rfl⟩:=zb.1 n;rw[bkE,zh] at hc;subst hc;exact df4 y
namespace ac2
def gh1 (a:ac2)(x:Itm):∀(xs:List Itm) (t:ag9),a.as7 (xs++[x]) t=((a.as7 xs t).1++[(a.ao4 x (a.as7 xs t).2).1],(a.ao4 x (a.as7 xs t).2).2):=by
 intro xs
 induction xs with
 | nil=>intro t;rfl
 | cons y ys ih=>intro t;simp only[z2,as7,ih]
def hb7 (a:ac2):∀(xs:List Itm) (t:ag9),(a.as7 xs t).1.length=xs.length:=by
 intro xs
 induction xs with
 | nil=>intro t;rfl
 | cons y ys ih=>intro t;simp only[as7,zn,ih]
def im8 {a:ac2}(hO:a.bo6){x:Itm}(d:a.Has x){t:ag9}(h:t.few):(a.ao4 x t).2.few:=by
 unfold ao4;split
 .rename_i e
  cases d with
  | need p q hp hq=>exact ed4 a.l hO.len _ _ (by have:=(gz2 hO hp hq).2.2;omega) t h
  | _=>simp at e
 .split
  .rename_i e
   cases d with
   | clash p q hp hq=>exact ed4 a.l hO.len _ _ (by have:=(fl7 hO hp hq).2.2;omega) t h
   | _=>simp at e
  .exact h
def hb8 {a:ac2}(hO:a.bo6):∀(xs:List Itm),(∀x∈xs,a.Has x)->∀t:ag9,t.few->(a.as7 xs t).2.few:=by
 intro xs
 induction xs with
 | nil=>intro _ t h;exact h
 | cons y ys ih=>intro h t e;exact ih (λx d=>h x (zr _ d)) _ (im8 hO (h y zo) e)
end ac2
end Go.Id.Md
namespace Go.Id
open Go
def cz1 (c:Nat->Int)(n:Nat):List IV:=(List.range n).map λj=>.int .i64 (c j)
def bc4 (c:Nat->Int)(n:Nat):(cz1 c n).length=n:=by simp[cz1]
def hb9:∀n:Nat,rep [IV.int .i64 0] n=cz1 (λ_=>0) n:=by
 intro n
 induction n with
 | zero=>rfl
 | succ n ih=>
  have h:∀m,rep [IV.int .i64 0] m=List.replicate m (.int .i64 0):=by
   intro m
   induction m with
   | zero=>rfl
   | succ m ih=>show [IV.int .i64 0]++rep _ m=_;rw[ih];rfl
  rw[h];refine List.ext_getElem (by simp[cz1]) λi e d=>by simp[cz1]
def cs3 (c:Nat->Int){n j:Nat}(h:j<n):((cz1 c n).drop j).head? = zw (.int .i64 (c j)):=by
 simp[cz1,List.head?_drop,h]
def fm2 (c:Nat->Int){n i:Nat}(h:i<(cz1 c n).length):(cz1 c n)[i]=.int .i64 (c i):=by simp[cz1]
def cz2 (c:Nat->Int){n j:Nat}(h:j<n)(x:Int):ay4 (cz1 c n) j [.int .i64 x]=cz1 (λi=>if i=j then x else c i) n:=by
 refine List.ext_getElem (by rw[af8 (by rw[bc4];simp only[zp];omega),bc4,bc4]) λi p m=>?_
 rw[fm2];rw[bc4] at m;unfold ay4;simp only[List.getElem_append,List.length_take,bc4,List.getElem_take,List.getElem_drop,zc,zp,fm2];by_cases e:i=j
 .subst e;have g:¬i<min i n:=om;have d:i<min i n+1:=om;simp only[g,d,dite_false,dite_true,if_true,List.getElem_singleton]
 .by_cases e2:i<j
  .have g:i<min j n:=om;have d:i<min j n+1:=om;simp only[g,d,dite_true,e,if_false]
  .have g:¬i<min j n:=om;have d:¬i<min j n+1:=om;have o:j+1+(i-(min j n+1))=i:=om;simp only[d,o,dite_false,e,if_false]
def fm3 {d:PT}{g:CT}{P:Program}{E:Nat->IV}{e id:Nat}{z:List IV}{x:IX}{fr:Frm}{σ:Store}{K:IV->Store->Prop}:opT d g P E (.dn3 e z x) id fr σ K=bt3 (db4 (x.ev E fr)) λn=>K (.slice id 0 n e) (σ.put id (.row (rep z n))):=rfl
def ed5 {K:Nat->Prop}(n:Nat)(h:n<=2147483648):bt3 (db4 (.int .i64 (n:Int))) K=K n:=by
 have d:(0:Int)<=n/\(n:Int)<=2147483648:=om;show bt3 (if 0<=(n:Int)/\(n:Int)<=2147483648 then zw ((n:Int).toNat) else z6) K=K n;rw[if_pos d];rfl
end Go.Id
namespace Go.Id.Md
open Go Go.Id
namespace ac2
variable {a:ac2}
variable (hO:bo6 a)
include hO
end ac2
structure id5 (c n:Nat) (t:ag9) (r:Int×ag9):Prop where
 le:t.h<=r.2.h/\r.2.h<=t.h+n
 ok:r.2.OK c/\RgN (c+r.2.h) r.1
structure kd4 (c n:Nat) (t:ag9) (r:List Int×ag9):Prop where
 le:t.h<=r.2.h/\r.2.h<=t.h+n
 ok:r.2.OK c/\∀x∈r.1,RgN (c+r.2.h) x
variable {c:Nat} {t:ag9}
theorem jb5 (c:Nat)(t:ag9):RgN (c+(t.h+1)) ((c+(t.h+1):Nat):Int):=⟨om,om,om⟩
theorem hc5 (d:t.OK c){i:List (List Int)}(hc:∀q∈i,∀x∈q,RgN (c+(t.h+1)) x):(⟨t.h+1,t.cl++i,t.sets⟩:ag9).OK c :=
 ⟨λq j x g=>(z3.1 j).elim (λh=>(d.cl q h x g).mono (by show c+t.h<=c+(t.h+1);omega)) λh=>hc q h x g,λe m=>(d.st e m).mono (by show c+t.h<=c+(t.h+1);omega),d.kn⟩
theorem bn3 (n:t.OK c){l:List Int}(j:∀x∈l,RgN (c+t.h) x):id5 c 1 t (al6 c l t):=by
 have i:=jb5 c t;refine ⟨⟨z0 _,zd _⟩,?_,i⟩
 have e:(al6 c l t).2=⟨t.h+1,t.cl++((l.map λx=>[-x,((c+(t.h+1):Nat):Int)])++[-((c+(t.h+1):Nat):Int)::l]),t.sets⟩:=by
  unfold al6;rw[List.append_assoc]
 rw[e];refine hc5 n λq g=>?_
 rcases z3.1 g with g|g
 .obtain ⟨y,m,rfl⟩:=zb.1 g;intro x d;simp only[zk,zm,or_false] at d;rcases d with rfl|rfl
  .exact ((j y m).mono om).neg
  .exact i
 .rw[zh] at g;subst g;intro x d;rcases zk.1 d with rfl|d
  .exact i.neg
  .exact (j x d).mono om
theorem dv8 (g:t.OK c){l:List Int}(i:∀x∈l,RgN (c+t.h) x):id5 c 1 t (cu9 c l t):=by
 have h:=bn3 (c:=c) g (l:=en9 l) λx e=>by
  obtain ⟨y,d,rfl⟩:=zb.1 e;exact (i y d).neg
 exact ⟨h.le,h.ok.1,h.ok.2.neg⟩
theorem df6 (n:t.OK c){x y w:Int}(e:RgN (c+t.h) x)(d:RgN (c+t.h) y)(g:RgN (c+t.h) w):id5 c 1 t (ca7 c x y w t):=by
 have m:=jb5 c t;refine ⟨⟨z0 _,zd _⟩,hc5 n λq j=>?_,m⟩;have e:=e.mono (W:=c+(t.h+1)) om;have d:=d.mono (W:=c+(t.h+1)) om;have g:=g.mono (W:=c+(t.h+1)) om;have r:=e.neg;have q:=d.neg;have p:=g.neg;have o:=m.neg;simp only[zk,zm,or_false] at j;rcases j with rfl|rfl|rfl|rfl<;>intro z i<;>simp only[zk,zm,or_false] at i<;>rcases i with rfl|rfl|rfl<;>assumption
theorem ed6 (d:t.OK c){l:List Int}(j:∀n∈l,0<=n/\n<(c:Int)):id5 c 1 t (gm3 c l t):=by
 have hr:∀n∈l,RgN (c+t.h) (n+1):=λn i=>⟨by have:=j n i;omega,by have:=j n i;omega,by have:=j n i;omega⟩
 unfold gm3;split
 .rename_i r;obtain ⟨n,rfl⟩:=List.length_eq_one_iff.1 r;exact ⟨⟨zd _,z0 _⟩,d,hr n zo⟩
 .split
  .rename_i x hf;exact ⟨⟨zd _,z0 _⟩,d,d.st _ (gz1 hf)⟩
  .rename_i hf
   have h:=bn3 (c:=c) d (l:=upL l) λx q=>by
    obtain ⟨y,p,rfl⟩:=zb.1 q;exact hr y p
   refine ⟨h.le,⟨h.ok.1.cl,λe g=>?_,?_⟩,h.ok.2⟩
   .rcases z3.1 g with g|g
    .exact h.ok.1.st e g
    .rw[zh.1 g];exact h.ok.2
   .show ((t.sets++[(dk9 l,(al6 c (upL l) t).1)]).map (·.1)).Nodup;rw[zz,List.map_singleton,List.nodup_append];refine ⟨d.kn,(List.nodup_cons.2 ⟨zm,.nil⟩),λa o b m e=>?_⟩;rw[zh] at m;rw[e,m] at o;exact gg8 hf o
theorem fm4 (l:List aa1)(b:Int)(p:aa6->Prop):∀xs:List aa6,(∀a∈xs,p a)->(∀a∈xs,p a->∀t:ag9,t.OK l.length->id5 l.length a.count t (a.bn2 l b t))->∀t:ag9,t.OK l.length->kd4 l.length (aa6.counts xs) t (aa6.an7 l b xs t):=by
 intro xs
 induction xs with
 | nil=>intro _ _ t e;exact ⟨⟨zd _,zj _ _⟩,e,λ_ h=>by cases h⟩
 | cons a xs ih=>
  intro hp h t e;have g:=h a zo (hp a zo) t e;have f:=ih (λa i=>hp a (zr _ i)) (λa i=>h a (zr _ i)) _ g.ok.1;simp only[aa6.counts,aa6.an7];refine ⟨⟨ze g.le.1 f.le.1,by have:=g.le.2;have:=f.le.2;show (aa6.an7 l b xs (a.bn2 l b t).2).2.h<=_;omega⟩,f.ok.1,λx d=>?_⟩;rcases zk.1 d with rfl|d
  .exact g.ok.2.mono (by have:=f.le.1;show l.length+_<=l.length+(aa6.an7 l b xs (a.bn2 l b t).2).2.h;omega)
  .exact f.ok.2 x d
theorem bn4 (l:List aa1)(b:Int)(r:aa6):r.an4 1 false=true\/r.an4 1 true=true->∀t:ag9,t.OK l.length->id5 l.length r.count t (r.bn2 l b t):=by
 induction r using aa6.ind with
 | h k d xs ih=>
  intro hf t n;have⟨z,y⟩:=df3 hf;have o:∀ {r:Int×ag9},id5 l.length 1 t r->id5 l.length (aa6.counts xs+1) t r:=λh=>⟨⟨h.le.1,by have:=h.le.2;omega⟩,h.ok⟩
  have g:=fm4 l b (λa=>a.an4 1 false=true\/a.an4 1 true=true) xs y (λa q hp=>ih a q hp) t n;have p:=cy9 l b xs t;unfold aa6.bn2;simp only[aa6.count]
  have j:∀i,i<xs.length->RgN (l.length+(aa6.an7 l b xs t).2.h) ((aa6.an7 l b xs t).1.getD i 0):=λi hi=>by
   rw[<- p] at hi;refine g.ok.2 _ ?_;rw[zf,zl hi];exact zt hi
  have e:∀ {r:Int×ag9},id5 l.length 1 (aa6.an7 l b xs t).2 r->id5 l.length (aa6.counts xs+1) t r:=λh=>⟨⟨ze g.le.1 h.le.1,by have:=h.le.2;have:=g.le.2;omega⟩,h.ok⟩
  rcases dv7 z with ⟨rfl,_⟩|rfl|rfl|⟨rfl,x⟩|⟨rfl,x⟩|rfl|rfl
  .exact o (ed6 n fl6)
  .exact e (dv8 g.ok.1 g.ok.2)
  .exact e (bn3 g.ok.1 g.ok.2)
  .rw[if_neg (by decide),if_neg (by decide)];unfold gg7;rw[if_neg (by decide),if_neg (by decide),if_pos rfl];split
   .exact e (df6 g.ok.1 (j 0 om) (j 2 om) (j 1 om))
   .refine e (bn3 g.ok.1 λx m=>?_);simp only[zk,zm,or_false] at m;rcases m with rfl|rfl
    .exact j 0 om
    .exact (j 1 om).neg
  .rw[if_neg (by decide),if_neg (by decide)];unfold gg7;rw[if_neg (by decide),if_neg (by decide),if_neg (by decide)];split
   .exact e (df6 g.ok.1 (j 2 om) (j 0 om) (j 1 om))
   .refine e (dv8 g.ok.1 λx m=>?_);simp only[zk,zm,or_false] at m;rcases m with rfl|rfl
    .exact j 0 om
    .exact (j 1 om).neg
  .exact o (ed6 n fl6)
  .exact o (ed6 n fl6)
theorem eo5 (l:List aa1)(b:Int)(xs:List aa6)(h:∀a∈xs,a.an4 1 false=true\/a.an4 1 true=true)(t:ag9)(d:t.OK l.length):kd4 l.length (aa6.counts xs) t (aa6.an7 l b xs t):=
 fm4 l b _ xs h (λa _ hp=>bn4 l b a hp) t d
end Go.Id.Md
namespace Go.Id.Md
open Go Go.Id
namespace ac2
variable {a:ac2}
def RgL (V:Nat)(l:List (List Int)):Prop:=∀q∈l,∀y∈q,RgN V y
def RgL.mono {V W:Nat}{l:List (List Int)}(h:RgL V l)(e:V<=W):RgL W l:=λq g y d=>(h q g y d).mono e
def im9 {n:Int}(h:a.is n=true){V:Nat}(d:a.l.length<=V):RgN V (n+1):=by
 unfold is at h;simp only[zi,decide_eq_true_eq] at h;exact ⟨om,om,om⟩
def in1 {d:List Int}(h:∀n∈d,a.is n=true){V:Nat}(i:a.l.length<=V):∀y∈upL d,RgN V y:=λy e=>by
 obtain ⟨n,g,rfl⟩:=zb.1 e;exact im9 (h n g) i
def in2 {d:List Int}(h:∀n∈d,a.is n=true){V:Nat}(i:a.l.length<=V):∀y∈noL d,RgN V y:=λy e=>by
 obtain ⟨n,g,rfl⟩:=zb.1 e;exact (im9 (h n g) i).neg
def in3 {x:Itm}(F:a.Has x)(I:x.kind≠2)(H:x.kind≠3){V:Nat}(o:a.l.length<=V):RgL V (a.fb5 x):=by
 have d:∀n:Nat,n<a.l.length->a.is n=true:=λn g=>by rw[ac2.bq8];exact decide_eq_true g
 have e:∀ {l:List Int},(∀y∈l,RgN V y)->RgL V [l]:=λh q B=>by rw[zh] at B;rw[B];exact h
 cases F with
 | al9 p hp _=>exact e (in2 (λn g=>by rw[zh] at g;rw[g];exact d p hp) o)
 | need p q _ _=>exact absurd rfl I
 | clash p q _ _=>exact absurd rfl H
 | over p q hp B=>
  intro r hr;obtain ⟨n,g,rfl⟩:=zb.1 hr;obtain ⟨m,rfl,D,_⟩:=av9.1 (List.mem_filter.1 g).1;refine in2 (λk z=>?_) o;simp only[zk,zm,or_false] at z;rcases z with rfl|rfl
  .exact d p hp
  .exact d m D
 | twin p q D h4 _=>
  refine e (in2 (λk z=>?_) o);simp only[zk,zm,or_false] at z;rcases z with rfl|rfl
  .exact d p om
  .exact d q h4
 | keep i hi _=>exact e (in1 bk9 o)
 | job j hj _=>
  show RgL V (a.eo2 j);unfold eo2;split
  .exact e (in1 cf5 o)
  .split
   .intro r hr;obtain ⟨n,_,rfl⟩:=zb.1 hr;exact in1 bk9 o
   .split
    .intro r hr;obtain ⟨n,_,rfl⟩:=zb.1 hr;exact in1 (λm A=>bk9 m (a.fk7 A).1) o
    .intro r hr;obtain ⟨n,g,rfl⟩:=zb.1 hr;exact in2 (λm A=>by rw[zh] at A;rw[A];exact cf5 n g) o
variable (hO:bo6 a)
include hO
end ac2
namespace ac2
variable {a:ac2} (hO:bo6 a)
include hO
theorem hc7 {x:Itm}(j:a.Has x){t:ag9}(o:t.OK a.l.length):(t.h<=(a.ao4 x t).2.h/\(a.ao4 x t).2.h<=t.h+24)/\(a.ao4 x t).2.OK a.l.length/\RgL (a.l.length+(a.ao4 x t).2.h) (a.ao4 x t).1:=by
 have g:∀ {V:Nat} {y z:Int},RgN V y->RgN V z->RgL V [[y,z]]:=λh1 i q d w m=>by
  rw[zh] at d;rw[d] at m;simp only[zk,zm,or_false] at m;rcases m with rfl|rfl<;>assumption
 by_cases i:x.kind=2
 .cases j with
  | need p q hp d=>
   have⟨f,_,n⟩:=gz2 hO hp d;have h:=bn4 a.l (-1) _ (.inl f) t o
   exact ⟨⟨h.le.1,ze h.le.2 (z7 n _)⟩,h.ok.1,g (im9 (by rw[ac2.bq8];exact decide_eq_true hp) (zj _ _)).neg h.ok.2⟩
  | _=>simp at i
 by_cases r:x.kind=3
 .cases j with
  | clash p q hp d=>
   have⟨f,_,n⟩:=fl7 hO hp d;have h:=bn4 a.l p _ (.inl f) t o
   exact ⟨⟨h.le.1,ze h.le.2 (z7 n _)⟩,h.ok.1,g (im9 (by rw[ac2.bq8];exact decide_eq_true hp) (zj _ _)).neg h.ok.2.neg⟩
  | _=>simp at r
 have e:a.ao4 x t=(a.fb5 x,t):=by unfold ao4;rw[if_neg i,if_neg r]
 rw[e];exact ⟨⟨zd _,zj _ _⟩,o,in3 j i r (zj _ _)⟩
theorem gh2:∀(xs:List Itm),(∀x∈xs,a.Has x)->∀t:ag9,t.OK a.l.length ->
  (t.h<=(a.as7 xs t).2.h/\(a.as7 xs t).2.h<=t.h+24*xs.length)/\(a.as7 xs t).2.OK a.l.length/\∀q∈(a.as7 xs t).1,RgL (a.l.length+(a.as7 xs t).2.h) q:=by
 intro xs
 induction xs with
 | nil=>intro _ t e;exact ⟨⟨zd _,zj _ _⟩,e,λq d=>by cases d⟩
 | cons y ys ih=>
  intro h t e;have⟨⟨m,r⟩,j,i⟩:=hc7 hO (h y zo) e;have⟨⟨p,z⟩,o,n⟩:=ih (λx g=>h x (zr _ g)) _ j;refine ⟨⟨ze m p,by show (a.as7 ys (a.ao4 y t).2).2.h<=_;rw[zn];omega⟩,o,λq d=>?_⟩;rcases zk.1 d with rfl|d
  .exact i.mono (by show _<=a.l.length+(a.as7 ys (a.ao4 y t).2).2.h;omega)
  .exact n q d
end ac2
theorem cz3 {p:UInt8->Bool}(l:Str):(l.dropWhile p).length<=l.length:=by
 induction l with
 | nil=>exact zd _
 | cons a l ih=>
  rw[zy];split
  .exact ze ih (z0 _)
  .exact zd _
theorem fb8:∀(n m:Nat) (l:Str),l.length<=n->l.length<=m->av6 n l=av6 m l:=by
 intro n
 induction n with
 | zero=>
  intro m l e _;have:l=[]:=List.length_eq_zero_iff.1 (Nat.le_zero.1 e);subst this
  cases m<;>rfl
 | succ n ih=>
  intro m l e g
  cases l with
  | nil=>cases m<;>rfl
  | cons b l=>
   cases m with
   | zero=>simp at g
   | succ m=>
    simp only[zn] at e g
    have d:af6 b=af6 b->((b::l).dropWhile λc=>af6 c==af6 b).length<=l.length:=λ_=>by
     rw[zy,if_pos sm];exact cz3 l
    have d:=d rfl;simp only[av6];rw[ih m l om om,ih m _ (ze d om) (ze d om)]
def hc9 (b:UInt8)(l:Str):Nat:=(l.takeWhile λc=>af6 c==af6 b).length
theorem in4 {b:UInt8}{l:Str}(h:af6 b=0):af9 (b::l)=af9 l:=by
 unfold af9;simp only[zn,av6,h,if_true]
theorem in5 {b:UInt8}{l:Str}(h:af6 b≠0)(d:af6 b<4):af9 (b::l)=⟨af6 b,[]⟩::af9 l:=by
 unfold af9;simp only[zn,av6,h,d,if_true,if_false]
theorem ed7 (p:UInt8->Bool)(l:Str):l.takeWhile p=l.take (l.takeWhile p).length/\l.dropWhile p=l.drop (l.takeWhile p).length:=by
 induction l with
 | nil=>exact ⟨rfl,rfl⟩
 | cons a l ih=>
  rw[zx,zy]
  cases h:p a with
  | true=>
   simp only[if_true,zn,z1,List.drop_succ_cons]
   exact ⟨by rw[<- ih.1],ih.2⟩
  | false=>simp
theorem in6 {b:UInt8}{l:Str}(d:¬af6 b<4):af9 (b::l)=⟨af6 b,if af6 b=5 then ((b::l).take (hc9 b l+1)).dropWhile (· == 48) else (b::l).take (hc9 b l+1)⟩::af9 (l.drop (hc9 b l)):=by
 have h0:af6 b≠0:=om;unfold af9;simp only[zn,av6,h0,d,if_false]
 have e1:(b::l).takeWhile (λc=>af6 c==af6 b)=(b::l).take (hc9 b l+1):=by
  rw[zx,if_pos sm,z1,(ed7 (λc=>af6 c==af6 b) l).1];unfold hc9;rw[<- (ed7 (λc=>af6 c==af6 b) l).1]
 have e2:(b::l).dropWhile (λc=>af6 c==af6 b)=l.drop (hc9 b l):=by
  rw[zy,if_pos sm];exact (ed7 (λc=>af6 c==af6 b) l).2
 rw[e1,e2,fb8 l.length (l.drop (hc9 b l)).length _ (by rw[List.length_drop];omega) (zd _)]
theorem ks8 {p:UInt8->Bool}:∀(l:Str) (m:Nat),m<(l.takeWhile p).length->∃c,l[m]? = zw c/\p c=true:=by
 intro l
 induction l with
 | nil=>intro m h;simp at h
 | cons a l ih=>
  intro m h;rw[zx] at h
  cases hp:p a with
  | false=>rw[hp] at h;simp at h
  | true=>
   rw[hp] at h
   cases m with
   | zero=>exact ⟨a,rfl,hp⟩
   | succ m=>exact ih m (by simpa using h)
theorem ks9 {p:UInt8->Bool}:∀(l:Str) (c:UInt8),l[(l.takeWhile p).length]? = zw c->p c=false:=by
 intro l
 induction l with
 | nil=>intro c h;simp at h
 | cons a l ih=>
  intro c h;rw[zx] at h
  cases hp:p a with
  | false=>rw[hp] at h;simp at h;rw[<- h];exact hp
  | true=>rw[hp] at h;exact ih c (by simpa using h)
theorem kd5 {b:UInt8}{l:Str}{m:Nat}(h:m<hc9 b l):∃c,l[m]? = zw c/\af6 c=af6 b:=by
 have⟨c,e,d⟩:=ks8 l m h;exact ⟨c,e,by simpa using d⟩
theorem kd6 {b:UInt8}{l:Str}{c:UInt8}(h:l[hc9 b l]? = zw c):af6 c≠af6 b:=by
 have:=ks9 l c h
 simpa using this
theorem kd7 (b:UInt8)(l:Str):hc9 b l<=l.length:=(List.takeWhile_sublist _).length_le
structure ai7 where
 kind:Int
 p:Int
 ways:List (List (List Int))
def cf6 (q:List (List Int)):List IV:=[cv2 q]
def ai7.cs (w:ai7):List IV:=[.int .u8 w.kind,.int .i64 w.p,.aa2 (w.ways.map cf6)]
theorem hd8 (l:List (List (List Int))):∀e∈l.map cf6,e.length=1/\e.all IV.leaf=true:=λe d=>by
 obtain ⟨x,_,rfl⟩:=zb.1 d;exact ⟨rfl,rfl⟩
theorem fm6 (l:List ai7):∀e∈l.map ai7.cs,e.length=3/\e.all IV.leaf=true:=λe d=>by
 obtain ⟨x,_,rfl⟩:=zb.1 d;exact ⟨rfl,rfl⟩
theorem in7 (w:ai7):∀c∈w.cs,Bnd 0 c:=λc hc=>by
 simp only[ai7.cs,zk,zm,or_false] at hc;rcases hc with rfl|rfl|rfl
 .exact .int _ _
 .exact .int _ _
 .exact .aa2 _ λe d c hc=>by
   obtain ⟨x,_,rfl⟩:=zb.1 d;rw[cf6,zh] at hc;subst hc;exact df4 x
variable {σ s u:Store} {lp tp mid rp dm nid k:Nat} {c0 c1 c2 c3 c4 c5 ov ov' av d1 d3 xv allv clv clv' cv:IV} {W:List ai7} {P:List aa1} {t t':ag9} {fm:List (IV×IV)} {cs:List (List (List Int))}
structure LI (s:Store) (lp:Nat) (c0 c1 c2 c3 c4 c5 ov:IV) (W:List ai7):Prop where
 cell:s.obj lp=zw (.cells [c0,c1,c2,c3,c4,c5,ov])
 out:Grow s ov 3 (W.map ai7.cs)
 lt:lp<s.next
structure eo6 (σ s:Store) (lp:Nat) (ov ov':IV):Prop where
 next:σ.next<=s.next
 obj:∀i,i<σ.next->i≠lp->(∀k,ov≠.slice i 0 k 3)->s.obj i=σ.obj i
 new:ov'=ov\/∀i k,ov'=.slice i 0 k 3->σ.next<=i
theorem eo6.refl (σ:Store)(lp:Nat)(ov:IV):eo6 σ σ lp ov ov:=⟨zd _,λ_ _ _ _=>rfl,.inl rfl⟩
theorem eo6.kept (d:Kept σ s):eo6 σ s lp ov ov:=⟨d.next,λi hi _ _=>d.obj i hi,.inl rfl⟩
theorem eo6.trans {a b c:IV}(h:eo6 σ s lp a b)(g:eo6 s u lp b c):eo6 σ u lp a c where
 next:=ze h.next g.next
 obj:=λi hi m j=>by
  rw[g.obj i (za hi h.next) m λk e=>?_,h.obj i hi m j];rcases h.new with d|d
  .exact j k (by rw[<- d];exact e)
  .have:=d i k e;omega
 new:=by
  rcases g.new with e|n
  .rw[e];exact h.new
  .exact .inr λi k e=>ze h.next (n i k e)
theorem LI.kept (h:LI s lp c0 c1 c2 c3 c4 c5 ov W)(d:Kept s u):LI u lp c0 c1 c2 c3 c4 c5 ov W :=
 ⟨by rw[d.obj _ h.lt];exact h.cell,h.out.mono d.next λid _ e=>d.obj id e,za h.lt d.next⟩
theorem LI.up (h:LI s lp c0 c1 c2 c3 c4 c5 ov W)(n:Nat):LI ⟨s.next+n,s.obj⟩ lp c0 c1 c2 c3 c4 c5 ov W:=h.kept ((Kept.refl s).up n)
theorem LI.gg9 (h:LI s lp c0 c1 c2 c3 c4 c5 ov W):∀k,ov≠.slice lp 0 k 3:=λk e=>by
 have⟨⟨q,d⟩,_⟩:=am7 h.out e;rw[h.cell] at d;cases d
theorem fb9 (h:LI s lp c0 c1 c2 c3 c4 c5 ov W)(w:ai7)(r:W.length<2147483648)(B:s.next<=nid)(A:nid<s.next+k) :
  ∃o,bb4 ⟨s.next+k,s.obj⟩ nid 3 ov (.aa2 [w.cs])=zw (.slice nid 0 (W.length+1) 3,o)/\o.next=s.next+k/\o.obj lp=zw (.cells [c0,c1,c2,c3,c4,c5,ov]) /\
   LI (o.put lp (.cells [c0,c1,c2,c3,c4,c5,.slice nid 0 (W.length+1) 3])) lp c0 c1 c2 c3 c4 c5 (.slice nid 0 (W.length+1) 3) (W++[w]) /\
   eo6 s (o.put lp (.cells [c0,c1,c2,c3,c4,c5,.slice nid 0 (W.length+1) 3])) lp ov (.slice nid 0 (W.length+1) 3):=by
 have q:Grow (⟨s.next+k,s.obj⟩:Store) ov 3 (W.map ai7.cs):=h.out.mono (zj _ _) λ_ _ _=>rfl
 have n:=ai1 (nid:=nid) (e:=w.cs) q (fm6 _) ⟨rfl,rfl⟩ (by rw[zg];exact r);rw[zg] at n;have x:=h.lt
 have g:∀i,(∀k,ov≠.slice i 0 k 3)->(ad4 ov (⟨s.next+k,s.obj⟩:Store)).obj i=s.obj i:=λi hi=>by
  rcases q with ⟨h0,_⟩|⟨j,p,_,_⟩
  .rw[h0];rfl
  .rw[p];show (if i=j then z6 else s.obj i)=_;rw[if_neg λe=>hi _ (by rw[p,e])]
 have nm:(W++[w]).map ai7.cs=W.map ai7.cs++[w.cs]:=by rw[zz];rfl
 have d:((ad4 ov (⟨s.next+k,s.obj⟩:Store)).put nid (.row (W.map ai7.cs++[w.cs]).flatten)).next=s.next+k:=by rw[aa7,ac1]
 have ne:¬lp=nid:=om;refine ⟨_,n,d,by rw[aa3,if_neg ne,g _ h.gg9];exact h.cell,⟨by rw[aa3,if_pos rfl],?_,by rw[aa7,d];omega⟩,⟨by rw[aa7,d];omega,λi hi z y=>?_,.inr λi m e=>by cases e;exact B⟩⟩
 .refine .inr ⟨nid,by rw[zg,zc];rfl,?_,by rw[aa7,d];exact A⟩;rw[aa3,if_neg λe=>ne e.symm,aa3,if_pos rfl,nm]
 .rw[aa3,if_neg z,aa3,if_neg om,g i y]
structure WB (s:Store) (lp:Nat) (c0 c2 c3 c4 c5 ov:IV) (W:List ai7) (av d1 d3:IV) (rp dm tp mid:Nat) (fm:List (IV×IV)) (xv allv clv cv:IV) (P:List aa1) (t:ag9) (cs:List (List (List Int))):Prop where
 li:LI s lp c0 (.ptr rp 0) c2 c3 c4 c5 ov W
 bk:br3 s av d1 d3 rp dm tp mid fm xv allv clv cv P t cs
 sep:lp≠rp/\lp≠tp
 n1:∀i k m,clv=.slice i 0 k 1->ov≠.slice i 0 m 3
 n2:∀i k m,cv=.slice i 0 k 1->ov≠.slice i 0 m 3
 n3:∀i k m,allv=.slice i 0 k 15->ov≠.slice i 0 m 3
theorem WB.kept (h:WB s lp c0 c2 c3 c4 c5 ov W av d1 d3 rp dm tp mid fm xv allv clv cv P t cs)(d:Kept s u):WB u lp c0 c2 c3 c4 c5 ov W av d1 d3 rp dm tp mid fm xv allv clv cv P t cs :=
 ⟨h.li.kept d,h.bk.mono d,h.sep,h.n1,h.n2,h.n3⟩
theorem WB.le {W':List ai7}(h:WB s lp c0 c2 c3 c4 c5 ov W av d1 d3 rp dm tp mid fm xv allv clv cv P t cs)(g:eo6 s u lp ov ov')(h':LI u lp c0 (.ptr rp 0) c2 c3 c4 c5 ov' W'):WB u lp c0 c2 c3 c4 c5 ov' W' av d1 d3 rp dm tp mid fm xv allv clv cv P t cs:=by
 have hr:∀i o,s.obj i=zw o->(∀q,o≠.row q)->∀k,ov≠.slice i 0 k 3:=λi o ho hq k e=>by
  have⟨⟨q,h1⟩,_⟩:=am7 h.li.out e;rw[ho] at h1;cases h1;exact hq _ rfl
 have hlc:∀i o,s.obj i=zw o->(∀q,o≠.cells q)->i≠lp:=λi o ho hq e=>by
  rw[e,h.li.cell] at ho;cases ho;exact hq _ rfl
 have nw:∀i e,i<s.next->(∀k,ov≠.slice i 0 k 3)->ov'≠.slice i 0 e 3:=λi e hi hne he=>by
  rcases g.new with h3|h3
  .exact hne e (by rw[<- h3];exact he)
  .have:=h3 i e he;omega
 have hb:=h.bk;have ht:=h.bk.tab
 have rw1:∀v esz es,Grow s v esz es->(∀i k,v=.slice i 0 k esz->∀m,ov≠.slice i 0 m 3)->Grow u v esz es:=λv esz es hg hn=>hg.mono g.next λid hv hid=>by
  have⟨⟨q,h1⟩,_⟩:=am7 hg hv;exact g.obj id hid (hlc id _ h1 λ_ e=>by cases e) λk=>hn id _ hv k
 exact {
  li:=h'
  bk:={
   cell:=by rw[g.obj _ hb.lt.1 h.sep.1.symm (hr _ _ hb.cell λ_ e=>by cases e)];exact hb.cell
   map:=by rw[g.obj _ hb.lt.2 (hlc _ _ hb.map λ_ e=>by cases e) (hr _ _ hb.map λ_ e=>by cases e)];exact hb.map
   tab:={
    cell:=by rw[g.obj _ ht.lt.1 h.sep.2.symm (hr _ _ ht.cell λ_ e=>by cases e)];exact ht.cell
    all:=rw1 _ _ _ ht.all λi k e m=>h.n3 i k m e
    cls:=rw1 _ _ _ ht.cls λi k e m=>h.n1 i k m e
    map:=by rw[g.obj _ ht.lt.2 (hlc _ _ ht.map λ_ e=>by cases e) (hr _ _ ht.map λ_ e=>by cases e)];exact ht.map
    ne:=ht.ne
    lt:=⟨za ht.lt.1 g.next,za ht.lt.2 g.next⟩ }
   grow:=rw1 _ _ _ hb.grow λi k e m=>h.n2 i k m e
   ne:=hb.ne
   na:=hb.na
   lt:=⟨za hb.lt.1 g.next,za hb.lt.2 g.next⟩
   dt:=hb.dt }
  sep:=h.sep
  n1:=λi k m e=>nw i m (df5 ht e).2 λk2=>h.n1 i k k2 e
  n2:=λi k m e=>nw i m (am7 hb.grow e).2 λk2=>h.n2 i k k2 e
  n3:=λi k m e=>nw i m (am7 ht.all e).2 λk2=>h.n3 i k k2 e }
theorem WB.tab (h:WB s lp c0 c2 c3 c4 c5 ov W av d1 d3 rp dm tp mid fm xv allv clv cv P t cs)(g:bc3 s u tp mid clv clv')(r:ar1 u tp mid xv allv clv' P t'):WB u lp c0 c2 c3 c4 c5 ov W av d1 d3 rp dm tp mid fm xv allv clv' cv P t' cs:=by
 have p:lp≠mid:=λe=>by have:=h.bk.tab.map;rw[<- e,h.li.cell] at this;cases this
 refine ⟨⟨?_,?_,za h.li.lt g.next⟩,h.bk.eff g r,h.sep,λi k m e e2=>?_,h.n2,h.n3⟩
 .rw[g.obj _ h.li.lt h.sep.2 p λk e=>?_]
  .exact h.li.cell
  .have⟨⟨q,d⟩,_⟩:=df5 h.bk.tab e;rw[h.li.cell] at d;cases d
 .exact h.li.out.mono g.next λid o j=>by
   have⟨⟨q,d⟩,_⟩:=am7 h.li.out o;exact g.obj id j (h.bk.tab.gg9 _ _ d).1 (h.bk.tab.gg9 _ _ d).2 λk e=>h.n1 _ _ _ e o
 .have⟨_,x⟩:=am7 h.li.out e2;rcases g.new with n|n
  .exact h.n1 i k m (by rw[<- n];exact e) e2
  .have:=n i k e;omega
end Go.Id.Md
