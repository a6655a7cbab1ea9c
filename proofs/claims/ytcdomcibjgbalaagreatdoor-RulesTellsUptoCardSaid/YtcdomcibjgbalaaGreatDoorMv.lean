/- A cw8 dependency's literal tells whether a state satisfies it. Conditions: none; no program in sight. -/
import Derived.Test.YtcdomcibjgbalaaGreatDoorMsb
import Derived.Test.YtcdomcibjgbalaaGreatDoorFwQ
import Derived.Test.YtcdomcibjgbalaaGreatDoorFwRo
open List renaming getD_eq_getElem?_getD→za,length_append→zb,getElem?_eq_getElem→zc,mem_map→zf,length_map→zg,mem_singleton→zi,mem_cons→zl,length_cons→zm,mem_cons_self→zn,not_mem_nil→zo,mem_cons_of_mem→zp,length_singleton→zr,getElem_mem→zt,all_eq_true→zv,length_filter_le→zw,mem_append→zy,length_set→zz,take_succ_cons→z0,takeWhile_cons→z1,dropWhile_cons→z2,map_append→z3,head?_drop→z4,getElem?_set_ne→z5,cons_append→z7,map_cons→z8,pairwise_map→qd,append_assoc→qe
open Nat renaming le_refl→zd,le_trans→ze,lt_of_lt_of_le→zh,le_add_right→zj,not_lt_zero→zq,le_succ→z6,add_le_add_left→qa
open Bool renaming and_eq_true→zk,true_or→z9
open Option renaming some→zu,none→qb,map_some→qc
open Int renaming toNat_natCast→zx
set_option linter.all false
private theorem om{P:Prop}(h:P:=by omega):P:=h
namespace Go.Id.Md
open Go Go.Id
variable {c:Nat} {t:ag9}
theorem fj3 {l:List aa2}{q:aa2->Bool}{b:Int}:∀n∈bz9 (numsOf q l) b,0<=n/\n<(l.length:Int):=λn hn=>by
 obtain ⟨m,rfl,h1,_⟩:=am5.1 (List.mem_filter.1 hn).1;omega
theorem Told.weak {n m:Nat}{r:Int×ag9}{P Q:(Int->Bool)->Bool}(h:Told c n t r P)(hm:n<=m)(hP:∀T,P T=Q T):Told c m t r Q :=
 ⟨⟨h.le.1,by have:=h.le.2;omega⟩,h.cl,h.ok,λT a b d=>by rw[<- hP];exact h.says T a b d⟩
structure js8 (c n:Nat) (t:ag9) (r:List Int×ag9) (P:(Int->Bool)->List Bool):Prop where
 le:t.h<=r.2.h/\r.2.h<=t.h+n
 cl:∀q∈t.cl,q∈r.2.cl
 ok:r.2.OK c/\∀x∈r.1,RgN (c+r.2.h) x
 says:∀T,jc9 (c+r.2.h) T->kl4 T r.2.cl->fj1 T t->r.1.map T=P T/\fj1 T r.2
theorem js8.then {n m:Nat}{r:List Int×ag9}{P:(Int->Bool)->List Bool}{w:Int×ag9}{Q R:(Int->Bool)->Bool}(h:js8 c n t r P)(g:Told c m r.2 w Q)
  (hq:∀T,jc9 (c+r.2.h) T->r.1.map T=P T->Q T=R T):Told c (n+m) t w R :=
 ⟨⟨ze h.le.1 g.le.1,by have:=h.le.2;have:=g.le.2;omega⟩,λq hq=>g.cl q (h.cl q hq),g.ok,λT a b d=>by
  have a':jc9 (c+r.2.h) T:=a.mono (by have:=g.le.1;omega);obtain ⟨h1,h2⟩:=h.says T a' (λq hq=>b q (g.cl q hq)) d;obtain ⟨g1,g2⟩:=g.says T a b h2;exact ⟨g1.trans (hq T a' h1),g2⟩⟩
variable (l:List aa2) (hc:l.length<=100) (b:Int)
include hc
end Go.Id.Md
namespace Go.Id.Md
open Go Go.Id
def noL (l:List Int):List Int:=l.map λn=>-(n+1)
namespace ab3
variable (a:ab3)
def cr9 (j:Int):List (List Int):=
 if (a.jb j).kind=1 then [upL (a.meant j)]
 else if (a.jb j).kind=3 then (a.meant j).map λn=>upL (a.an4 n)
 else if (a.jb j).kind=4 then ((a.meant j).filter λn=>decide (0<(a.bx7 n).length)).map λn=>upL (a.bx7 n)
 else (a.meant j).map λn=>noL [n]
def an6 (x:Itm):List (List Int):=
 if x.kind=1 then [noL [x.p]]
 else if x.kind=4 then (bz9 (ak8 a.l (a.bx9 x)) x.p).map λn=>noL [x.p,n]
 else if x.kind=5 then [noL [x.p,x.q]]
 else if x.kind=6 then [upL (a.an4 x.p)]
 else a.cr9 x.p
def aj6 (x:Itm)(t:ag9):List (List Int)×ag9 :=
 if x.kind=2 then ([noL [x.p]++[((a.cf4 x).by5 a.l (-1) t).1]],((a.cf4 x).by5 a.l (-1) t).2)
 else if x.kind=3 then ([noL [x.p]++[-((a.bf5 x).by5 a.l x.p t).1]],((a.bf5 x).by5 a.l x.p t).2)
 else (a.an6 x,t)
def al1:List Itm->ag9->List (List (List Int))×ag9
 | [],t=>([],t)
 | x::xs,t=>((a.aj6 x t).1::(al1 xs (a.aj6 x t).2).1,(al1 xs (a.aj6 x t).2).2)
variable {a} {T:Int->Bool} {st:List Int}
theorem aw2 {i:Int}:∀n∈a.an4 i,a.is n=true:=λn hn=>by
 obtain ⟨_,m,rfl,h⟩:=a.if4 hn;rw[ab3.dt5];exact decide_eq_true h
theorem bq8 {j:Int}:∀n∈a.meant j,a.is n=true:=λn hn=>by
 obtain ⟨m,rfl,h⟩:=a.ih8 hn;rw[ab3.dt5];exact decide_eq_true h
structure bn7 (a:ab3):Prop where
 len:a.l.length<=100
 need:∀p:Nat,p<a.l.length->∀r∈(a.pk p).requires,r.an5 1 false=true/\cf2 r=true/\r.count<=24
 clash:∀p:Nat,p<a.l.length->∀r∈(a.pk p).conflicts,r.an5 1 false=true/\cf2 r=true/\r.count<=24
 kind:∀j:Nat,j<a.r.af2.length->1<=(a.jb j).kind/\(a.jb j).kind<=4
variable (hO:bn7 a)
include hO
theorem ey1 {p q:Nat}(hp:p<a.l.length)(hq:q<(a.pk p).requires.length):(a.cf4 ⟨2,p,q⟩).an5 1 false=true/\cf2 (a.cf4 ⟨2,p,q⟩)=true/\(a.cf4 ⟨2,p,q⟩).count<=24:=by
 refine hO.need p hp _ ?_;unfold cf4;rw[zx,za,zc hq];exact zt hq
theorem ec7 {p q:Nat}(hp:p<a.l.length)(hq:q<(a.pk p).conflicts.length):(a.bf5 ⟨3,p,q⟩).an5 1 false=true/\cf2 (a.bf5 ⟨3,p,q⟩)=true/\(a.bf5 ⟨3,p,q⟩).count<=24:=by
 refine hO.clash p hp _ ?_;unfold bf5;rw[zx,za,zc hq];exact zt hq
end ab3
theorem gu4 {k:Int}{d:Dep}{n:Nat}{b:Bool}(h:bz8 2 k d n b=true):bz8 1 k d n b=true:=by
 unfold bz8 at *;split
 ·rename_i e;rw[if_pos e] at h;exact h
 rename_i e1;rw[if_neg e1] at h;rw[zk] at h ⊢;refine ⟨?_,h.2⟩;have h:=h.1;split
 ·rename_i e;rw[if_pos e] at h;exact h
 rename_i e2;rw[if_neg e2] at h;split
 ·rename_i e;rw[if_pos e] at h;exact h
 rename_i e3;rw[if_neg e3] at h;split
 ·rename_i e;rw[if_pos e] at h;simp at h
 rename_i e4;rw[if_neg e4] at h;split
 ·rename_i e;rw[if_pos e] at h;simpa using h
 ·rename_i e;rw[if_neg e] at h;exact h
theorem gu5 (r:aa6):∀b,r.an5 2 b=true->r.an5 1 b=true:=by
 induction r using aa6.ind with
 | h k d aZ ih=>
  intro b h;simp only[aa6.an5,zk,aa6.bc2,zv] at h ⊢;exact ⟨gu4 h.1,λa ha=>ih a ha _ (h.2 a ha)⟩
theorem bw5 {r:aa6}{wh:Int}(h:ao3 r wh=0)(hw:wh=1\/wh=2):r.an5 1 false=true/\cf2 r=true/\r.count<=24:=by
 refine ⟨?_,gt4 h,?_⟩
 ·rw [bm3] at h;split at h
  ·cases h
  ·split at h
   ·cases h
   ·split at h
    ·cases h
    ·split at h
     ·cases h
     ·rename_i hf;have hf:r.an5 wh false=true:=by simpa using hf
      rcases hw with rfl|rfl
      ·exact hf
      ·exact gu5 r _ hf
 ·rw[bm3] at h;split at h
  ·cases h
  ·split at h
   ·cases h
   ·rename_i h2;omega
theorem fj4 {r:aa6}{wh:Int}(h:ao3 r wh=0)(hw:wh=1\/wh=2):ao3 r 1=0:=by
 have h2:=(bw5 h hw).1;rw[bm3] at h ⊢;rw[h2];split at h
 ·cases h
 ·split at h
  ·cases h
  ·split at h
   ·cases h
   ·rename_i e1 e2 e3;rw[if_neg (by decide),if_neg e2,if_neg e3];rfl
theorem bw6 {l:List aa6}{wh:Int}(h:ak7 l wh=true):∀r∈l,ao3 r wh=0:=λr hr=>by
 unfold ak7 at h;rw[zk,zv] at h;exact of_decide_eq_true (h.2 r hr)
theorem bj5 {p:aa2}(h:aj7 p=true):ak7 p.requires 1=true/\ak7 p.conflicts 2=true:=by
 unfold aj7 at h;simp only[zk] at h;exact ⟨h.1.1.1.1.1.2,h.1.1.1.1.2⟩
theorem js9 {a:ab3}(hp:∀p∈a.l,aj7 p=true)(hl:a.l.length<=100)(hr:aj4 a.r a.p.inst=0):a.bn7 where
 len:=hl
 need:=λp h r hr=>by
  have hm:a.pk p∈a.l:=by
   unfold ab3.pk;rw[zx,za,zc h];exact zt h
  exact bw5 (bw6 (bj5 (hp _ hm)).1 r hr) (.inl rfl)
 clash:=λp h r hr=>by
  have hm:a.pk p∈a.l:=by
   unfold ab3.pk;rw[zx,za,zc h];exact zt h
  exact bw5 (bw6 (bj5 (hp _ hm)).2 r hr) (.inr rfl)
 kind:=λj hj=>by
  unfold aj4 at hr;split at hr
  ·cases hr
  ·split at hr
   ·cases hr
   ·split at hr
    ·cases hr
    ·rename_i h;have h:a.r.af2.all av8=true:=by simpa using h
     have hm:a.jb j∈a.r.af2:=by
      unfold ab3.jb;rw[zx,za,zc hj];exact zt hj
     have:=zv.1 h _ hm;unfold av8 at this;simp only[zk,decide_eq_true_eq] at this;exact this.1
theorem ec8 (f:Nat->Bool)(g:Nat->Itm)(n:Nat):(bc5 f g n).length<=n:=by
 unfold bc5;rw[zg];exact ze (zw _ _) (by rw[List.length_range];exact zd _)
theorem gu6 {a:ab3}(hp:∀p∈a.l,aj7 p=true)(hl:a.l.length<=100)(hi:a.p.inst<=a.l.length)(hj:a.r.af2.length<=64):a.items.length<=20000:=by
 have h1:∀k,k<=a.l.length->(a.owns k).length<=97*k:=by
  intro k
  induction k with
  | zero=>intro _;exact zd _
  | succ k ih=>
   intro hk;have ih:=ih om;rw[a.bq4,zb]
   have hm:a.pk k∈a.l:=by
    unfold ab3.pk;rw[zx,za,zc hk];exact zt hk
   have hm:=hp _ hm;obtain ⟨m1,m2⟩:=bj5 hm;unfold aj7 at hm;simp only[zk,decide_eq_true_eq] at hm;have m3:=hm.1.1.1.1.1.1.1.1.2.1;unfold ak7 at m1 m2;rw[zk,decide_eq_true_eq] at m1 m2;unfold ab3.hp9 ab3.aw7;rw[zb,zb,zb,ab3.aw1,ab3.aw1,ab3.aw1];have m1:=m1.1;have m2:=m2.1;split<;>simp only[List.length_nil,zr]<;>omega
 have h2:∀k,(a.am3 k).length<=100*k:=by
  intro k
  induction k with
  | zero=>exact zd _
  | succ k ih=>
   rw[a.bd5,zb];have:=ec8 (λq=>decide (k<q)&&a.twins k q) (λq=>⟨5,k,q⟩) a.l.length;unfold ab3.gt6 ab3.bx8;omega
 have h1:=h1 _ (zd _);have h2:=h2 a.l.length;have h3:=ec8 (λi=>!a.goes i) (λi=>⟨6,i,0⟩) a.p.inst.toNat;have h4:=ec8 (λi=>!a.dropped i) (λi=>⟨7,i,0⟩) a.r.af2.length;rw[a.ay2];unfold ab3.bd4 ab3.eg7;omega
def di4 (l:List (Str×Int)):List (IV×IV):=l.map λe=>(.str e.1,.int .i64 e.2)
theorem ig1 (k:Str):∀l:List (Str×Int),ay9 2 (.str k) (di4 l)=zu ((by1 l k).map λx=>.int .i64 x):=by
 intro l
 induction l with
 | nil=>rfl
 | cons t l ih=>
  have e:by1 (t::l) k=if k=t.1 then zu t.2 else by1 l k:=rfl
  rw[e];unfold di4 at *;simp only[z8,ay9,dl8];by_cases h:k=t.1
  ·simp[h]
  ·simp only[h,decide_false,ih,if_false]
theorem jd1 {k:Str}{x:Int}:∀ {l:List (Str×Int)},by1 l k=qb->eg6 2 (.str k) (.int .i64 x) (di4 l)=zu (di4 (l++[(k,x)])):=by
 intro l
 induction l with
 | nil=>intro _;rfl
 | cons t l ih=>
  intro h;unfold by1 at h;split at h
  ·cases h
  ·rename_i e;have:=ih h;unfold di4 at *;simp only[z8,z7,eg6,dl8,e,decide_false,this,qc]
theorem ig2 {l:List (Str×Int)}(h:(l.map (·.1)).Nodup):da2 (di4 l):=by
 refine ⟨?_,.str,λe he=>?_⟩
 ·unfold di4;rw[List.map_map];have h2:=qd.1 h;exact qd.2 (h2.imp λ{a b} hab e=>hab (IV.str.inj e))
 ·obtain ⟨x,_,rfl⟩:=zf.1 he;trivial
def clE (q:List Int):List IV:=[.aa3 (q.map ae1)]
theorem cv4 (l:List (List Int)):∀e∈l.map clE,e.length=1/\e.all IV.leaf=true:=λe he=>by
 obtain ⟨x,_,rfl⟩:=zf.1 he;exact ⟨rfl,rfl⟩
structure ar2 (s:Store) (tp mid:Nat) (xv allv clv:IV) (P:List aa2) (t:ag9):Prop where
 cell:s.obj tp=zu (.cells [xv,allv,.int .i64 t.h,clv,.map mid])
 all:Grow s allv 15 (P.map aa2.cs)
 cls:Grow s clv 1 (t.cl.map clE)
 map:s.obj mid=zu (.map (di4 t.sets))
 ne:∀i k j l,clv=.slice i 0 k 1->allv=.slice j 0 l 15->i≠j
 lt:tp<s.next/\mid<s.next
structure bd6 (σ s:Store) (tp mid:Nat) (clv clv':IV):Prop where
 next:σ.next<=s.next
 obj:∀i,i<σ.next->i≠tp->i≠mid->(∀k,clv≠.slice i 0 k 1)->s.obj i=σ.obj i
 new:clv'=clv\/∀i k,clv'=.slice i 0 k 1->σ.next<=i
theorem bd6.refl (σ:Store)(tp mid:Nat)(clv:IV):bd6 σ σ tp mid clv clv:=⟨zd _,λ_ _ _ _ _=>rfl,.inl rfl⟩
theorem bd6.trans {σ s u:Store}{tp mid:Nat}{a b c:IV}(h:bd6 σ s tp mid a b)(g:bd6 s u tp mid b c):bd6 σ u tp mid a c where
 next:=ze h.next g.next
 obj:=λi hi h1 h2 h3=>by
  rw[g.obj i (zh hi h.next) h1 h2 λk e=>?_,h.obj i hi h1 h2 h3];rcases h.new with h4|h4
  ·exact h3 k (by rw[<- h4];exact e)
  ·have:=h4 i k e;omega
 new:=by
  rcases g.new with e|g4
  ·rw[e];exact h.new
  ·exact .inr λi k e=>ze h.next (g4 i k e)
theorem ar2.mono {s s':Store}{tp mid:Nat}{xv allv clv:IV}{P:List aa2}{t:ag9}(h:ar2 s tp mid xv allv clv P t)(hn:s.next<=s'.next)(ho:∀i,i<s.next->s'.obj i=s.obj i):ar2 s' tp mid xv allv clv P t where
 cell:=by rw[ho _ h.lt.1];exact h.cell
 all:=h.all.mono hn λid _ hid=>ho id hid
 cls:=h.cls.mono hn λid _ hid=>ho id hid
 map:=by rw[ho _ h.lt.2];exact h.map
 ne:=h.ne
 lt:=⟨by have:=h.lt.1;omega,by have:=h.lt.2;omega⟩
theorem bd6.kl5 {σ s:Store}{tp mid:Nat}{xv allv clv clv' v:IV}{P:List aa2}{t:ag9}{lo:Nat}{zs:List Int}(g:bd6 σ s tp mid clv clv')(h:ar2 σ tp mid xv allv clv P t)(hr:ai4 σ lo v zs)(hne:∀i k l,clv=.slice i 0 k 1->v≠.slice i 0 l 1):ai4 s lo v zs:=by
 rcases hr with h0|⟨id,h1,h2,h3,h4⟩
 ·exact .inl h0
 ·refine .inr ⟨id,h1,zh h2 g.next,h3,?_⟩;rw[g.obj id h2 (λe=>?_) (λe=>?_) λk e=>hne id k _ e h3]
  ·exact h4
  ·rw[e,h.cell] at h4;cases h4
  ·rw[e,h.map] at h4;cases h4
def isV (v:List Int)(x:Int):Int:=if x=0\/(v.length:Int)<x\/x < -(v.length:Int) then 0 else if 0<x then v.getD (x-1).toNat 0 else -(v.getD (-x-1).toNat 0)
def ex9 (v:List Int)(l:List (List Int)):Bool:=l.all λq=>q.any λx=>decide (isV v x=1)
def cv3 (b:List Bool)(c:Nat):List Int:=ak9 (λn=>b.getD n false) (min b.length c)
variable {σ s:Store} {tp mid nid k:Nat} {xv allv clv:IV} {P:List aa2} {t:ag9}
theorem ar2.ig3 (h:ar2 s tp mid xv allv clv P t):∀i cs,s.obj i=zu (.row cs)->i≠tp/\i≠mid:=λi cs hi=>
 ⟨λe=>(by rw[e,h.cell] at hi;cases hi),λe=>(by rw[e,h.map] at hi;cases hi)⟩
theorem ar2.ntm (h:ar2 s tp mid xv allv clv P t):¬mid=tp:=λe=>by have h2:=h.map;rw[e,h.cell] at h2;cases h2
theorem tab_push (h:ar2 s tp mid xv allv clv P t)(q:List Int)(hn:t.cl.length<2147483648)(h1:s.next<=nid)(h2:nid<s.next+k) :
  ∃s1,as2 ⟨s.next+k,s.obj⟩ nid 1 clv (.aa3 [clE q])=zu (.slice nid 0 (t.cl.length+1) 1,s1)/\s1.next=s.next+k/\s1.obj tp=zu (.cells [xv,allv,.int .i64 t.h,clv,.map mid]) /\
   ar2 (s1.put tp (.cells [xv,allv,.int .i64 t.h,.slice nid 0 (t.cl.length+1) 1,.map mid])) tp mid xv allv (.slice nid 0 (t.cl.length+1) 1) P ⟨t.h,t.cl++[q],t.sets⟩ /\
   bd6 s (s1.put tp (.cells [xv,allv,.int .i64 t.h,.slice nid 0 (t.cl.length+1) 1,.map mid])) tp mid clv (.slice nid 0 (t.cl.length+1) 1):=by
 have hg:Grow (⟨s.next+k,s.obj⟩:Store) clv 1 (t.cl.map clE):=h.cls.mono (by show s.next<=s.next+k;omega) λ_ _ _=>rfl
 have hap:=ai2 (nid:=nid) (e:=clE q) hg (cv4 _) ⟨rfl,rfl⟩ (by rw[zg];exact hn);rw[zg] at hap;have ltp:=h.lt.1;have ltm:=h.lt.2;have ntn:¬tp=nid:=om;have nmn:¬mid=nid:=om;have nmt:=h.ntm
 have hkc:∀i,(∀k,clv≠.slice i 0 k 1)->(ae9 clv (⟨s.next+k,s.obj⟩:Store)).obj i=s.obj i:=λi hi=>by
  rcases hg with ⟨h0,_⟩|⟨j,hj,_,_⟩
  ·rw[h0];rfl
  ·rw[hj];show (if i=j then qb else s.obj i)=_;rw[if_neg λe=>hi _ (by rw[hj,e])]
 have hcn:∀i,(∀cs,s.obj i≠zu (.row cs))->∀k,clv≠.slice i 0 k 1:=λi hi k e=>by
  rcases h.cls with ⟨h0,_⟩|⟨j,hj,ho,_⟩
  ·rw[h0] at e;cases e
  ·rw[hj] at e;cases e;exact hi _ ho
 have kt:=hkc tp (hcn tp λcs e=>by rw[h.cell] at e;cases e);have km:=hkc mid (hcn mid λcs e=>by rw[h.map] at e;cases e);have nm:(t.cl++[q]).map clE=t.cl.map clE++[clE q]:=by rw[z3];rfl
 refine ⟨_,hap,by rw[aa8,ab7],by rw[aa5,if_neg ntn,kt];exact h.cell,?_,?_⟩
 ·exact {
   cell:=by rw[aa5,if_pos rfl]
   all:=by
    refine h.all.mono (by rw[aa8,aa8,ab7];show s.next<=s.next+k;omega) λid hv hid=>?_
    have hr:∃cs,s.obj id=zu (.row cs):=by
     rcases h.all with ⟨h0,_⟩|⟨j,hj,ho,_⟩
     ·rw[h0] at hv;cases hv
     ·rw[hj] at hv;cases hv;exact ⟨_,ho⟩
    obtain ⟨cs,hr⟩:=hr;rw[aa5,if_neg (h.ig3 _ _ hr).1,aa5,if_neg om,hkc id λk e=>h.ne _ _ _ _ e hv rfl]
   cls:=by
    refine .inr ⟨nid,by rw[zg,zb];rfl,?_,by rw[aa8,aa8,ab7];exact h2⟩;rw[aa5,if_neg (λe=>ntn e.symm),aa5,if_pos rfl,nm]
   map:=by rw[aa5,if_neg nmt,aa5,if_neg nmn,km];exact h.map
   ne:=λi k j l e1 e2=>by
    cases e1;rcases h.all with ⟨h0,_⟩|⟨j',hj,_,hl⟩
    ·rw[h0] at e2;cases e2
    ·rw[hj] at e2;cases e2;omega
   lt:=by rw[aa8,aa8,ab7];exact ⟨by show tp<s.next+k;omega,by show mid<s.next+k;omega⟩ }
 ·refine ⟨by rw[aa8,aa8,ab7];show s.next<=s.next+k;omega,λi hi g1 g2 g3=>?_,.inr λi k e=>by cases e;exact h1⟩;rw[aa5,if_neg g1,aa5,if_neg om,hkc i g3]
theorem tab_set (h:ar2 s tp mid xv allv clv P t)(x:Str)(y:Int) :
  ar2 (s.put mid (.map (di4 (t.sets++[(x,y)])))) tp mid xv allv clv P ⟨t.h,t.cl,t.sets++[(x,y)]⟩/\bd6 s (s.put mid (.map (di4 (t.sets++[(x,y)])))) tp mid clv clv:=by
 have nmt:=h.ntm
 have hr:∀ {v:IV} {esz:Nat} {es:List (List IV)},Grow s v esz es->Grow (s.put mid (.map (di4 (t.sets++[(x,y)])))) v esz es:=λ{v esz es} hg=>by
  rcases hg with h0|⟨id,h1,h2,h3⟩
  ·exact .inl h0
  ·exact .inr ⟨id,h1,by rw[aa5,if_neg (h.ig3 _ _ h2).2];exact h2,by rw[aa8];exact h3⟩
 refine ⟨{ cell:=by rw[aa5,if_neg (λe=>nmt e.symm)];exact h.cell,all:=hr h.all,cls:=hr h.cls,map:=by rw[aa5,if_pos rfl],ne:=h.ne,lt:=by rw[aa8];exact h.lt },⟨by rw[aa8];exact zd _,λi hi g1 g2 g3=>by rw[aa5,if_neg g2],.inl rfl⟩⟩
theorem tab_upd (h:s.obj mid=zu (.map (di4 t.sets))){x:Str}(y:Int)(hx:by1 t.sets x=qb):ao9 s 2 (.map mid) (.str x) (.int .i64 y)=zu (s.put mid (.map (di4 (t.sets++[(x,y)])))):=by
 simp only[ao9,h,jd1 hx,qc]
theorem tab_look (h:s.obj mid=zu (.map (di4 t.sets)))(x:Str):cj1 s 2 (.int .i64 0) true (.map mid) (.str x)=zu (.tuple [((by1 t.sets x).map λx=>IV.int .i64 x).getD (.int .i64 0),.bool (by1 t.sets x).isSome]):=by
 simp only[cj1,cb9,h,ig1,if_true,Option.isSome_map]
theorem ar2.up (h:ar2 s tp mid xv allv clv P t)(n:Nat):ar2 ⟨s.next+n,s.obj⟩ tp mid xv allv clv P t:=h.mono (zj _ _) λ_ _=>rfl
theorem bd6.up {clv':IV}(h:bd6 σ s tp mid clv clv')(n:Nat):bd6 σ ⟨s.next+n,s.obj⟩ tp mid clv clv':=⟨ze h.next (zj _ _),h.obj,h.new⟩
theorem ar2.kills (h:ar2 s tp mid xv allv clv P t){S:Nat->Bool}(hS:∀i,S i=false->i≠tp/\i≠mid/\(∀k,clv≠.slice i 0 k 1)/\∀k,allv≠.slice i 0 k 15):ar2 (s.kills S) tp mid xv allv clv P t:=by
 have on:∀i,(S i=false->False)->(s.kills S).obj i=s.obj i:=λi hi=>by
  show (if S i=true then s.obj i else qb)=_;rw[if_pos (by cases hs:S i with|true=>rfl|false=>exact (hi hs).elim)]
 exact {
  cell:=by rw[on tp λhs=>(hS _ hs).1 rfl];exact h.cell
  all:=h.all.mono (zd _) λid hv _=>on id λhs=>(hS _ hs).2.2.2 _ hv
  cls:=h.cls.mono (zd _) λid hv _=>on id λhs=>(hS _ hs).2.2.1 _ hv
  map:=by rw[on mid λhs=>(hS _ hs).2.1 rfl];exact h.map
  ne:=h.ne
  lt:=h.lt }
end Go.Id.Md
namespace Go.Id.Md
open Go Go.Id
def ag9.few (t:ag9):Prop:=t.cl.length<=101*t.h
theorem bw7 {c:Nat}{l:List Int}{t:ag9}(h:t.few)(hl:l.length<=100):(ak2 c l t).2.few:=by
 unfold ag9.few at *;show (t.cl++(l.map λx=>[-x,((c+(t.h+1):Nat):Int)])++[_]).length<=101*(t.h+1);simp only[zb,zg,zr];omega
theorem em6 {c:Nat}{l:List Int}{t:ag9}(h:t.few)(hl:l.length<=100):(cf5 c l t).2.few :=
 bw7 (c:=c) (l:=ec6 l) h (by unfold ec6;rw[zg];exact hl)
theorem dt9 {c:Nat}{x y w:Int}{t:ag9}(h:t.few):(bq7 c x y w t).2.few:=by
 unfold ag9.few at *;show (t.cl++[_,_,_,_]).length<=101*(t.h+1);simp only[zb,zm,List.length_nil];omega
theorem gu7 {c:Nat}{l:List Int}{t:ag9}(h:t.few)(hl:l.length<=100):(fi8 c l t).2.few:=by
 unfold fi8;split
 ·exact h
 ·split
  ·exact h
  ·exact bw7 (c:=c) (l:=upL l) h (by unfold upL;rw[zg];exact hl)
theorem cs3 (l:List Int)(b:Int):(bz9 l b).length<=l.length:=zw _ _
theorem cf6 (l:List aa2)(b:Int):∀(aZ:List aa6) (t:ag9),(aa6.an1 l b aZ t).1.length=aZ.length:=by
 intro aZ
 induction aZ with
 | nil=>intro t;rfl
 | cons a aZ ih=>intro t;simp only[aa6.an1,zm,ih]
theorem gu8 (l:List aa2)(b:Int)(a:aa6):∀(aZ:List aa6) (t:ag9),aa6.an1 l b (aZ++[a]) t=((aa6.an1 l b aZ t).1++[(a.by5 l b (aa6.an1 l b aZ t).2).1],(a.by5 l b (aa6.an1 l b aZ t).2).2):=by
 intro aZ
 induction aZ with
 | nil=>intro t;rfl
 | cons r rs ih=>intro t;simp only[z7,aa6.an1,ih]
theorem ey2 (l:List aa2)(hc:l.length<=100)(b:Int)(r:aa6):r.count<=100->∀t:ag9,t.few->(r.by5 l b t).2.few:=by
 induction r using aa6.ind with
 | h k d aZ ih=>
  intro hr t ht
  have hcn:∀aZ:List aa6,aZ.length<=aa6.counts aZ/\∀a∈aZ,a.count<=aa6.counts aZ:=by
   intro aZ
   induction aZ with
   | nil=>exact ⟨zd _,λa h=>by cases h⟩
   | cons a aZ ih2=>
    obtain ⟨i1,i2⟩:=ih2;have h1:1<=a.count:=by obtain ⟨k,d,xs⟩:=a;simp only[aa6.count];omega
    simp only[aa6.counts,zm];refine ⟨om,λx hx=>?_⟩;rcases zl.1 hx with rfl|hx
    ·omega
    ·have:=i2 x hx;omega
  simp only[aa6.count] at hr
  have hsub:∀q:aa2->Bool,(bz9 (numsOf q l) b).length<=100:=λq=>by
   have h1:=cs3 (numsOf q l) b;have h2:=ae5 q l;omega
  have hA:∀(aZ:List aa6),(∀a∈aZ,∀t:ag9,t.few->(a.by5 l b t).2.few)->∀t:ag9,t.few->(aa6.an1 l b aZ t).2.few:=by
   intro aZ
   induction aZ with
   | nil=>intro _ t h;exact h
   | cons a aZ ih2=>intro h t ht;exact ih2 (λx hx=>h x (zp _ hx)) _ (h a zn t ht)
  obtain ⟨n1,n2⟩:=hcn aZ;have hL:=hA aZ (λa ha=>ih a ha (by have:=n2 a ha;omega)) t ht;have hn:(aa6.an1 l b aZ t).1.length<=100:=by rw[cf6];omega
  unfold aa6.by5;split
  ·exact gu7 ht (hsub _)
  ·split
   ·exact gu7 ht (hsub _)
   ·unfold fi9;split
    ·exact em6 hL hn
    ·split
     ·exact bw7 hL hn
     ·split
      ·split
       ·exact dt9 hL
       ·exact bw7 hL (by simp)
      ·split
       ·exact dt9 hL
       ·exact em6 hL (by simp)
def dj6:IV->Nat->Bool
 | .slice j _ _ _,i=>decide (i≠j)
 | _,_=>true
theorem ey3 {s:Store}{lo:Nat}{v:IV}{zs:List Int}(h:ci5 s lo v zs):Frz s (λi=>dj6 v i=true) v (.aa3 (zs.map Md.ae1)):=by
 rcases h with ⟨rfl,rfl⟩|⟨id,cs,h1,h2,rfl,h4,h5,h6⟩
 ·exact .bz3
 ·refine .slice id 0 zs.length 1 cs (zs.map Md.ae1) (by simp[dj6]) (.inr h4) (by rw[zg]) om (λi hi=>?_) λi hi j hj=>?_
  ·simp[za,hi,Md.ae1]
  ·have hj0:j=0:=om;subst hj0;have e2:((zs.map Md.ae1).getD i []).getD 0 .undef=bh4 zs[i]:=by simp[za,hi,Md.ae1]
   rw[e2,Nat.zero_add,Nat.mul_one,Nat.add_zero,ea5 h5 hi];exact .keep _ (.int _ _)
theorem em7 {s:Store}{lo:Nat}{v:IV}{zs:List Int}(h:ci5 s lo v zs){i:Nat}(hi:dj6 v i=false):lo<=i/\∃k,v=.slice i 0 k 1/\∃cs,s.obj i=zu (.row cs):=by
 rcases h with ⟨rfl,rfl⟩|⟨id,cs,h1,h2,rfl,h4,h5,h6⟩
 ·cases hi
 ·have e:i=id:=by simpa [dj6] using hi
  subst e;exact ⟨h1,_,rfl,_,h4⟩
variable {σ s u:Store} {tp mid lo:Nat} {xv allv clv a b c:IV} {P:List aa2} {t:ag9} {v:IV} {zs:List Int}
theorem ar2.off (h:ar2 s tp mid xv allv clv P t)(hr:ci5 s lo v zs)(hne:∀i k l,clv=.slice i 0 k 1->v≠.slice i 0 l 1)(hna:∀i k l,allv=.slice i 0 k 15->v≠.slice i 0 l 1):ar2 (s.kills (dj6 v)) tp mid xv allv clv P t :=
 h.kills λi hi=>by
  obtain ⟨h1,k,h2,cs,h3⟩:=em7 hr hi;exact ⟨(h.ig3 _ _ h3).1,(h.ig3 _ _ h3).2,λk' e=>hne _ _ _ e h2,λk' e=>hna _ _ _ e h2⟩
theorem bd6.kill {S:Nat->Bool}(h:bd6 σ s tp mid a b)(g:bd6 (s.kills S) u tp mid b c)(hS:∀i,i<σ.next->S i=true):bd6 σ u tp mid a c where
 next:=ze h.next g.next
 obj:=λi hi h1 h2 h3=>by
  have e:(s.kills S).obj i=s.obj i:=by show (if S i=true then s.obj i else qb)=_;rw[if_pos (hS i hi)]
  rw[g.obj i (zh hi h.next) h1 h2 λk e=>?_,e,h.obj i hi h1 h2 h3];rcases h.new with h4|h4
  ·exact h3 k (by rw[<- h4];exact e)
  ·have:=h4 i k e;omega
 new:=by
  rcases g.new with e|g4
  ·rw[e];exact h.new
  ·exact .inr λi k e=>ze h.next (g4 i k e)
def ec9 (σ:Store)(tp mid:Nat)(xv allv clv:IV)(P:List aa2)(r:Int×ag9)(v:IV)(s:Store):Prop :=
 v=.int .i64 r.1/\∃clv',bd6 σ s tp mid clv clv'/\ar2 s tp mid xv allv clv' P r.2
end Go.Id.Md
namespace Go.Id.Md
open Go Go.Id
variable {σ s u:Store} {tp mid lo k nid:Nat} {xv allv clv a b c:IV} {P:List aa2} {t:ag9} {v:IV} {zs:List Int}
theorem cs4 (h:ai4 s lo v zs){i m:Nat}(e:v=.slice i 0 m 1):lo<=i/\∃cs,s.obj i=zu (.row cs):=by
 rcases h with ⟨rfl,_⟩|⟨id,h1,h2,rfl,h4⟩
 ·cases e
 ·cases e;exact ⟨h1,_,h4⟩
theorem ar2.but (h:ar2 s tp mid xv allv clv P t)(hr:ai4 s lo v zs)(hne:∀i k l,clv=.slice i 0 k 1->v≠.slice i 0 l 1)(hna:∀i k l,allv=.slice i 0 k 15->v≠.slice i 0 l 1)(hn:s.next<=u.next)
  (ho:∀i,i<s.next->(∀m,v≠.slice i 0 m 1)->u.obj i=s.obj i):ar2 u tp mid xv allv clv P t where
 cell:=by
  rw[ho _ h.lt.1 λm e=>?_]
  ·exact h.cell
  ·obtain ⟨_,cs,e2⟩:=cs4 hr e;exact (h.ig3 _ _ e2).1 rfl
 all:=h.all.mono hn λid hv hid=>ho id hid λm e=>hna _ _ _ hv e
 cls:=h.cls.mono hn λid hv hid=>ho id hid λm e=>hne _ _ _ hv e
 map:=by
  rw[ho _ h.lt.2 λm e=>?_]
  ·exact h.map
  ·obtain ⟨_,cs,e2⟩:=cs4 hr e;exact (h.ig3 _ _ e2).2 rfl
 ne:=h.ne
 lt:=⟨by have:=h.lt.1;omega,by have:=h.lt.2;omega⟩
theorem bd6.but (h:bd6 σ s tp mid a b)(hr:ai4 s lo v zs)(hlo:σ.next<=lo)(hn:s.next<=u.next)(ho:∀i,i<s.next->(∀m,v≠.slice i 0 m 1)->u.obj i=s.obj i):bd6 σ u tp mid a b :=
 ⟨ze h.next hn,λi hi h1 h2 h3=>by
  have hv:∀m,v≠.slice i 0 m 1:=λm e=>by have:=(cs4 hr e).1;omega
  rw[ho i (zh hi h.next) hv,h.obj i hi h1 h2 h3],h.new⟩
theorem tab_row (h:ar2 s tp mid xv allv clv P t)(hr:ai4 s lo v zs)(hne:∀i k l,clv=.slice i 0 k 1->v≠.slice i 0 l 1)(hna:∀i k l,allv=.slice i 0 k 15->v≠.slice i 0 l 1)(n:Int)(h1:s.next<=nid)(h2:nid<s.next+k)(hlo:lo<=s.next){cs:List IV}(hc:cs=(zs++[n]).map bh4) :
  ar2 ((ae9 v ⟨s.next+k,s.obj⟩).put nid (.row cs)) tp mid xv allv clv P t/\(∀σ a,bd6 σ s tp mid a clv->σ.next<=lo->bd6 σ ((ae9 v ⟨s.next+k,s.obj⟩).put nid (.row cs)) tp mid a clv) /\
   ai4 ((ae9 v ⟨s.next+k,s.obj⟩).put nid (.row cs)) lo (.slice nid 0 (zs.length+1) 1) (zs++[n])/\(∀i k l,clv=.slice i 0 k 1->IV.slice nid 0 (zs.length+1) 1≠.slice i 0 l 1)/\(∀i k l,allv=.slice i 0 k 15->IV.slice nid 0 (zs.length+1) 1≠.slice i 0 l 1):=by
 subst hc;have hn:s.next<=((ae9 v ⟨s.next+k,s.obj⟩).put nid (.row ((zs++[n]).map bh4))).next:=by rw[aa8,ab7];exact zj _ _
 have ho:∀i,i<s.next->(∀m,v≠.slice i 0 m 1)->((ae9 v ⟨s.next+k,s.obj⟩).put nid (.row ((zs++[n]).map bh4))).obj i=s.obj i:=λi hi hv=>by
  rw[aa5,if_neg om];rcases hr with ⟨rfl,_⟩|⟨id,_,_,rfl,_⟩
  ·rfl
  ·show (if i=id then qb else s.obj i)=_;rw[if_neg λe=>hv _ (by rw[e])]
 refine ⟨h.but hr hne hna hn ho,λσ a g hl=>g.but hr hl hn ho,.inr ⟨nid,ze hlo h1,by rw[aa8,ab7];exact h2,by rw[zb,zr],by rw[aa5,if_pos rfl]⟩,λi k l e e2=>?_,λi k l e e2=>?_⟩
 ·cases e2;rcases h.cls with ⟨h0,_⟩|⟨j,hj,_,hl⟩
  ·rw[h0] at e;cases e
  ·rw[hj] at e;cases e;omega
 ·cases e2;rcases h.all with ⟨h0,_⟩|⟨j,hj,_,hl⟩
  ·rw[h0] at e;cases e
  ·rw[hj] at e;cases e;omega
end Go.Id.Md
namespace Go.Id.Md
open Go Go.Id
theorem fj5 (l:List aa2)(hc:l.length<=100)(b:Int):∀aZ:List aa6,(∀a∈aZ,a.count<=100)->∀t:ag9,t.few->(aa6.an1 l b aZ t).2.few:=by
 intro aZ
 induction aZ with
 | nil=>intro _ t h;exact h
 | cons a aZ ih2=>intro h t ht;exact ih2 (λx hx=>h x (zp _ hx)) _ (ey2 l hc b a (h a zn) t ht)
theorem ey4 (aZ:List aa6):∀i,(h:i<aZ.length)->aa6.counts (aZ.take i)+(aZ[i]).count<=aa6.counts aZ:=by
 induction aZ with
 | nil=>intro i h;exact absurd h (zq _)
 | cons a aZ ih=>
  intro i h
  cases i with
  | zero=>simp only[List.take_zero,aa6.counts,List.getElem_cons_zero];omega
  | succ i=>
   have:=ih i (by simpa using h);simp only[z0,aa6.counts,List.getElem_cons_succ];omega
theorem de7 {k:Int}{d:Dep}{aZ:List aa6}{wh:Int}(hf:(aa6.mk k d aZ).an5 wh false=true\/(aa6.mk k d aZ).an5 wh true=true) :
  (bz8 wh k d aZ.length false=true\/bz8 wh k d aZ.length true=true)/\∀a∈aZ,a.an5 wh false=true\/a.an5 wh true=true:=by
 rcases hf with hf|hf<;>simp only[aa6.an5,zk,aa6.bc2,zv] at hf
 ·refine ⟨.inl hf.1,λa ha=>?_⟩;have:=hf.2 a ha;cases hx:(false||decide (k=6)||decide (k=7))<;>rw[hx] at this
  ·exact .inl this
  ·exact .inr this
 ·refine ⟨.inr hf.1,λa ha=>?_⟩;have:=hf.2 a ha;rw[z9,z9] at this;exact .inr this
theorem du1 {k:Int}{d:Dep}{aZ:List aa6}(e:k=6\/k=7)(hf:(aa6.mk k d aZ).an5 1 false=true\/(aa6.mk k d aZ).an5 1 true=true):(aa6.mk k d aZ).an5 1 true=true:=by
 have h1:=(de7 hf).1
 have h3:∀a∈aZ,a.an5 1 true=true:=by
  have e:((decide (k=6))||decide (k=7))=true:=by rcases e with rfl|rfl<;>decide
  rcases hf with hf|hf<;>simp only[aa6.an5,zk,aa6.bc2,zv,Bool.or_assoc,e,Bool.or_true] at hf<;>exact hf.2
 have h4:bz8 1 k d aZ.length true=true:=by
  rcases h1 with h1|h1
  ·unfold bz8 at h1 ⊢;rcases e with rfl|rfl<;>simpa using h1
  ·exact h1
 simp only[aa6.an5,zk,aa6.bc2,zv,z9];exact ⟨h4,h3⟩
theorem du2 {k:Int}{d:Dep}{n:Nat}(h:bz8 1 k d n false=true\/bz8 1 k d n true=true):(k=1/\n=0/\am2 d=true)\/k=2\/k=3\/(k=4/\(n=2\/n=3))\/(k=5/\(n=2\/n=3))\/k=6\/k=7:=by
 unfold bz8 at h;by_cases e1:k=1
 ·simp only[e1,if_true,or_self,zk,decide_eq_true_eq] at h;exact .inl ⟨e1,h.1,h.2⟩
 rw[if_neg e1,if_neg e1] at h;by_cases e2:k=2
 ·exact .inr (.inl e2)
 by_cases e3:k=3
 ·exact .inr (.inr (.inl e3))
 by_cases e6:k=6
 ·exact .inr (.inr (.inr (.inr (.inr (.inl e6)))))
 by_cases e7:k=7
 ·exact .inr (.inr (.inr (.inr (.inr (.inr e7)))))
 by_cases e4:k=4
 ·simp[e4] at h;exact .inr (.inr (.inr (.inl ⟨e4,h.1⟩)))
 by_cases e5:k=5
 ·simp[e5] at h;exact .inr (.inr (.inr (.inr (.inl ⟨e5,h.1⟩))))
 ·simp[e2,e3,e4,e5,e6,e7] at h
variable {σ s u:Store} {tp mid lo k nid:Nat} {xv allv clv a b c:IV} {P:List aa2} {t:ag9} {v:IV} {zs:List Int}
theorem tab_row2 (h:ar2 s tp mid xv allv clv P t)(hr:ai4 s lo v zs)(hne:∀i k l,clv=.slice i 0 k 1->v≠.slice i 0 l 1)(hna:∀i k l,allv=.slice i 0 k 15->v≠.slice i 0 l 1)(n:Int)(h1:lo<=nid)(h2:nid<s.next)
  (h3:nid≠tp/\nid≠mid/\(∀k,clv≠.slice nid 0 k 1)/\∀k,allv≠.slice nid 0 k 15) {cs:List IV} (hc:cs=(zs++[n]).map bh4) :
  ar2 ((ae9 v s).put nid (.row cs)) tp mid xv allv clv P t/\(∀σ a,bd6 σ s tp mid a clv->σ.next<=lo->bd6 σ ((ae9 v s).put nid (.row cs)) tp mid a clv) /\
   ai4 ((ae9 v s).put nid (.row cs)) lo (.slice nid 0 (zs.length+1) 1) (zs++[n])/\(∀i k l,clv=.slice i 0 k 1->IV.slice nid 0 (zs.length+1) 1≠.slice i 0 l 1)/\(∀i k l,allv=.slice i 0 k 15->IV.slice nid 0 (zs.length+1) 1≠.slice i 0 l 1):=by
 subst hc;have hn:s.next<=((ae9 v s).put nid (.row ((zs++[n]).map bh4))).next:=by rw[aa8,ab7];exact zd _
 have ho:∀i,i≠nid->(∀m,v≠.slice i 0 m 1)->((ae9 v s).put nid (.row ((zs++[n]).map bh4))).obj i=s.obj i:=λi hi hv=>by
  rw[aa5,if_neg hi];rcases hr with ⟨rfl,_⟩|⟨id,_,_,rfl,_⟩
  ·rfl
  ·show (if i=id then qb else s.obj i)=_;rw[if_neg λe=>hv _ (by rw[e])]
 have hvt:∀i cs,s.obj i=zu (.cells cs)->∀m,v≠.slice i 0 m 1:=λi cs hi m e=>by
  obtain ⟨_,cs',e2⟩:=cs4 hr e;rw[hi] at e2;cases e2
 have hvm:∀i cs,s.obj i=zu (.map cs)->∀m,v≠.slice i 0 m 1:=λi cs hi m e=>by
  obtain ⟨_,cs',e2⟩:=cs4 hr e;rw[hi] at e2;cases e2
 refine ⟨?_,λσ a g hl=>⟨ze g.next hn,λi hi g1 g2 g3=>?_,g.new⟩,.inr ⟨nid,h1,by rw[aa8,ab7];exact h2,by rw[zb,zr],by rw[aa5,if_pos rfl]⟩,λi k l e e2=>?_,λi k l e e2=>?_⟩
 ·exact {
   cell:=by rw[ho _ (λe=>h3.1 e.symm) (hvt _ _ h.cell)];exact h.cell
   all:=h.all.mono hn λid hv _=>ho id (λe=>h3.2.2.2 _ (by rw[<- e];exact hv)) λm e=>hna _ _ _ hv e
   cls:=h.cls.mono hn λid hv _=>ho id (λe=>h3.2.2.1 _ (by rw[<- e];exact hv)) λm e=>hne _ _ _ hv e
   map:=by rw[ho _ (λe=>h3.2.1 e.symm) (hvm _ _ h.map)];exact h.map
   ne:=h.ne
   lt:=⟨zh h.lt.1 hn,zh h.lt.2 hn⟩ }
 ·have hv:∀m,v≠.slice i 0 m 1:=λm e=>by have:=(cs4 hr e).1;omega
  rw[ho i om hv,g.obj i hi g1 g2 g3]
 ·cases e2;exact h3.2.2.1 _ e
 ·cases e2;exact h3.2.2.2 _ e
theorem ec9.from {T:Store}{r:Int×ag9}(h:ec9 T tp mid xv allv b P r v s)(g:bd6 σ T tp mid a b):ec9 σ tp mid xv allv a P r v s:=by
 obtain ⟨h1,clv',h2,h3⟩:=h;exact ⟨h1,clv',g.trans h2,h3⟩
theorem ar2.free (h:ar2 s tp mid xv allv clv P t){i:Nat}(hi:s.next<=i):i≠tp/\i≠mid/\(∀k,clv≠.slice i 0 k 1)/\∀k,allv≠.slice i 0 k 15:=by
 refine ⟨by have:=h.lt.1;omega,by have:=h.lt.2;omega,λk e=>?_,λk e=>?_⟩
 ·rcases h.cls with ⟨h0,_⟩|⟨j,hj,_,hl⟩
  ·rw[h0] at e;cases e
  ·rw[hj] at e;cases e;omega
 ·rcases h.all with ⟨h0,_⟩|⟨j,hj,_,hl⟩
  ·rw[h0] at e;cases e
  ·rw[hj] at e;cases e;omega
theorem gu9 (h:ai4 s lo v zs)(hz:0<zs.length):∃id,v=.slice id 0 zs.length 1/\s.obj id=zu (.row (zs.map bh4)):=by
 rcases h with ⟨_,rfl⟩|⟨id,_,_,h3,h4⟩
 ·exact absurd hz (Nat.lt_irrefl _)
 ·exact ⟨id,h3,h4⟩
end Go.Id.Md
namespace Go.Id
open Go
theorem is5 {P:Program}{E:Nat->IV}{σ:Store}{f:Nat}{args:List IV}{Q Q':IV->Store->Prop}(h:C P E f args σ Q)(hq:∀v s,Q v s->∃(S:Nat->Bool) (v':IV),Frz s (λi=>S i=true) v v'/\Q' v' (s.kills S)):C P E f args σ Q':=by
 intro ρ w rargs hs ha;refine CallsIn.mono (h ρ w rargs hs ha) ?_;rintro e w' ⟨v,r,ρ',σ',rfl,q,hs',hv',hx⟩;obtain ⟨S,v',hf,q'⟩:=hq v σ' q;obtain ⟨ρd,hsd,hxd,hvd⟩:=bm2 (S:=S) hs';exact ⟨v',r,ρd,σ'.kills S,rfl,q',hsd,hvd _ _ _ hf hv',hx.trans ((hxd _).weak (zd _))⟩
theorem fj6 {σ s:Store}{gv:IV}{esz nid k:Nat}{es:List (List IV)}{e:List IV}(hk:Kept σ s)(hg:Grow s gv esz es)(hi:∀i k,gv=.slice i 0 k esz->σ.next<=i)(h:∀x∈es,x.length=esz/\x.all IV.leaf=true)(he:e.length=esz/\e.all IV.leaf=true)(hn:es.length<2147483648)
  (h1:s.next<=nid) (h2:nid<s.next+k):as2 ⟨s.next+k,s.obj⟩ nid esz gv (.aa3 [e])=zu (.slice nid 0 (es.length+1) esz,(ae9 gv ⟨s.next+k,s.obj⟩).put nid (.row (es++[e]).flatten)) /\
   Kept σ ((ae9 gv ⟨s.next+k,s.obj⟩).put nid (.row (es++[e]).flatten))/\Grow ((ae9 gv ⟨s.next+k,s.obj⟩).put nid (.row (es++[e]).flatten)) (.slice nid 0 (es.length+1) esz) esz (es++[e])/\∀i m,IV.slice nid 0 (es.length+1) esz=.slice i 0 m esz->σ.next<=i:=by
 have hg1:Grow (⟨s.next+k,s.obj⟩:Store) gv esz es:=hg.mono (zj _ _) λ_ _ _=>rfl
 have hkn:=hk.next;refine ⟨ai2 hg1 h he hn,⟨?_,λi hl=>?_⟩,.inr ⟨nid,by rw[zb];rfl,by rw[aa5,if_pos rfl],by rw[aa8,ab7];exact h2⟩,λi m e=>by cases e;omega⟩
 ·rw[aa8,ab7];exact ze hkn (zj _ _)
 ·rw[aa5,if_neg om];rcases hg with ⟨rfl,_⟩|⟨id,rfl,_,_⟩
  ·exact hk.obj i hl
  ·have:=hi id _ rfl;show (if i=id then qb else s.obj i)=_;rw[if_neg om];exact hk.obj i hl
end Go.Id
namespace Go.Id.Md
open Go Go.Id
def ba5 (l:List (List Int)):IV:=.aa3 (l.map clE)
theorem fj7 (q:List Int):∀c∈clE q,Bnd 0 c:=λc hc=>by
 rw[clE,zi] at hc;subst hc
 exact .aa3 _ λe he c hc=>by
  obtain ⟨x,_,rfl⟩:=zf.1 he;rw[Md.ae1,zi] at hc;subst hc;exact .int _ _
theorem bg9 (l:List (List Int)):Bnd 0 (ba5 l):=.aa3 _ λe he c hc=>by
 obtain ⟨q,_,rfl⟩:=zf.1 he;exact fj7 q c hc
def jk9 (σ:Store)(tp mid:Nat)(xv allv clv:IV)(P:List aa2)(r:List (List Int)×ag9)(v:IV)(s:Store):Prop :=
 v=.tuple [ba5 r.1,.int .i64 0]/\∃clv',bd6 σ s tp mid clv clv'/\ar2 s tp mid xv allv clv' P r.2
variable {Pr:Program} {E:Nat->IV} {σ s:Store} {tp mid f:Nat} {xv allv clv:IV} {P:List aa2} {t:ag9} {args:List IV} {cls:List (List Int)}
theorem ey5 {S:Nat->Prop}{v v':IV}(h:Frz s S v v'):Frz s S (.tuple [v,.int .i64 0]) (.tuple [v',.int .i64 0]):=.by4 (.cons h (.cons (.keep _ (.int _ _)) .nil))
theorem is6 (hM:ar2 σ tp mid xv allv clv P t)(h:C Pr E f args σ λv s=>∃gv,v=.tuple [gv,.int .i64 0]/\Kept σ s/\Grow s gv 1 (cls.map clE)/\∀i k,gv=.slice i 0 k 1->σ.next<=i):C Pr E f args σ (jk9 σ tp mid xv allv clv P (cls,t)):=by
 refine is5 h ?_;rintro v s ⟨gv,rfl,hk,hg,hi⟩
 have hS:∀i,i<σ.next->dj6 gv i=true:=λi hl=>by
  rcases hg with ⟨rfl,_⟩|⟨id,rfl,_,_⟩
  ·rfl
  ·have:=hi id _ rfl;simp only[dj6,decide_eq_true_eq];omega
 have hkk:Kept σ (s.kills (dj6 gv)):=⟨hk.next,λi hl=>by
  show (if dj6 gv i=true then s.obj i else qb)=_;rw[if_pos (hS i hl),hk.obj i hl]⟩
 refine ⟨dj6 gv,_,ey5 (hg.frz (λx hx=>(cv4 _ x hx).1) (λid e=>by rw[e];simp[dj6]) λe he c hc=>?_),rfl,clv,⟨hkk.next,λi hl _ _ _=>hkk.obj i hl,.inl rfl⟩,hM.mono hkk.next hkk.obj⟩;obtain ⟨q,_,rfl⟩:=zf.1 he;exact (fj7 q c hc).weak λi h=>absurd h (zq _)
theorem fj8 (hM:ar2 σ tp mid xv allv clv P t)(h:C Pr E f args σ λv s=>v=.tuple [ba5 cls,.int .i64 0]/\Kept σ s):C Pr E f args σ (jk9 σ tp mid xv allv clv P (cls,t)):=
 h.mono λv s ⟨h1,hk⟩=>⟨h1,clv,⟨hk.next,λi hl _ _ _=>hk.obj i hl,.inl rfl⟩,hM.mono hk.next hk.obj⟩
theorem is7 {zs:List Int}(h:C Pr E f args σ λv s=>∃gv clv',v=.tuple [.aa3 [[gv]],.int .i64 0]/\bd6 σ s tp mid clv clv'/\ar2 s tp mid xv allv clv' P t/\ai4 s σ.next gv zs/\(∀i k l,clv'=.slice i 0 k 1->gv≠.slice i 0 l 1)/\(∀i k l,allv=.slice i 0 k 15->gv≠.slice i 0 l 1)) :
  C Pr E f args σ (jk9 σ tp mid xv allv clv P ([zs],t)):=by
 refine is5 h ?_;rintro v s ⟨gv,clv',rfl,hT,hM,hg,hne,hna⟩;refine ⟨dj6 gv,.tuple [ba5 [zs],.int .i64 0],ey5 (.aa3 _ _ rfl (λi hi=>?_) λi hi j hj=>?_),rfl,clv',hT.kill (bd6.refl _ _ _ _) λi hi=>?_,hM.off hg.w hne hna⟩
 ·have:i=0:=by simpa using hi
  subst this;rfl
 ·have h0:i=0:=by simpa using hi
  subst h0;have h1:j=0:=by simpa using hj
  subst h1;exact ey3 hg.w
 ·cases ho:dj6 gv i with
  | true=>rfl
  | false=>have:=(em7 hg.w ho).1;omega
end Go.Id.Md
namespace Go.Id.Md
open Go Go.Id
variable {σ s u:Store} {tp mid rp dm nid k:Nat} {xv allv clv clv' cv av c1 c3:IV} {P:List aa2} {t t':ag9} {fm:List (IV×IV)} {cs:List (List (List Int))}
def bkE (q:List (List Int)):List IV:=[ba5 q]
theorem is8 (l:List (List (List Int))):∀e∈l.map bkE,e.length=1/\e.all IV.leaf=true:=λe he=>by
 obtain ⟨x,_,rfl⟩:=zf.1 he;exact ⟨rfl,rfl⟩
structure cx2 (s:Store) (av c1 c3:IV) (rp dm tp mid:Nat) (fm:List (IV×IV)) (xv allv clv cv:IV) (P:List aa2) (t:ag9) (cs:List (List (List Int))):Prop where
 cell:s.obj rp=zu (.cells [av,c1,.ptr tp 0,c3,cv])
 map:s.obj dm=zu (.map fm)
 tab:ar2 s tp mid xv allv clv P t
 grow:Grow s cv 1 (cs.map bkE)
 ne:∀i k m,clv=.slice i 0 k 1->cv≠.slice i 0 m 1
 na:∀i k m,allv=.slice i 0 k 15->cv≠.slice i 0 m 1
 lt:rp<s.next/\dm<s.next
 dt:rp≠tp/\rp≠mid/\dm≠tp/\dm≠mid
theorem cx2.mono (h:cx2 s av c1 c3 rp dm tp mid fm xv allv clv cv P t cs)(hk:Kept s u):cx2 u av c1 c3 rp dm tp mid fm xv allv clv cv P t cs where
 cell:=by rw[hk.obj _ h.lt.1];exact h.cell
 map:=by rw[hk.obj _ h.lt.2];exact h.map
 tab:=h.tab.mono hk.next hk.obj
 grow:=h.grow.mono hk.next λid _ hid=>hk.obj id hid
 ne:=h.ne
 na:=h.na
 lt:=⟨zh h.lt.1 hk.next,zh h.lt.2 hk.next⟩
 dt:=h.dt
theorem ey6 (h:ar2 s tp mid xv allv clv P t){i k:Nat}(e:clv=.slice i 0 k 1):(∃cs,s.obj i=zu (.row cs))/\i<s.next:=by
 rcases h.cls with ⟨h0,_⟩|⟨j,hj,ho,hl⟩
 ·rw[h0] at e;cases e
 ·rw[hj] at e;cases e;exact ⟨⟨_,ho⟩,hl⟩
theorem ay6 {gv:IV}{esz:Nat}{es:List (List IV)}(h:Grow s gv esz es){i k:Nat}(e:gv=.slice i 0 k esz):(∃cs,s.obj i=zu (.row cs))/\i<s.next:=by
 rcases h with ⟨h0,_⟩|⟨j,hj,ho,hl⟩
 ·rw[h0] at e;cases e
 ·rw[hj] at e;cases e;exact ⟨⟨_,ho⟩,hl⟩
theorem cx2.eff (h:cx2 s av c1 c3 rp dm tp mid fm xv allv clv cv P t cs)(hT:bd6 s u tp mid clv clv')(hM:ar2 u tp mid xv allv clv' P t'):cx2 u av c1 c3 rp dm tp mid fm xv allv clv' cv P t' cs where
 cell:=by
  rw[hT.obj _ h.lt.1 h.dt.1 h.dt.2.1 λk e=>?_]
  ·exact h.cell
  ·obtain ⟨⟨cs,h1⟩,_⟩:=ey6 h.tab e;rw[h.cell] at h1;cases h1
 map:=by
  rw[hT.obj _ h.lt.2 h.dt.2.2.1 h.dt.2.2.2 λk e=>?_]
  ·exact h.map
  ·obtain ⟨⟨cs,h1⟩,_⟩:=ey6 h.tab e;rw[h.map] at h1;cases h1
 tab:=hM
 grow:=h.grow.mono hT.next λid hv hid=>by
  obtain ⟨⟨cs,h1⟩,_⟩:=ay6 h.grow hv;exact hT.obj id hid (h.tab.ig3 _ _ h1).1 (h.tab.ig3 _ _ h1).2 λk e=>h.ne _ _ _ e hv
 ne:=λi k m e e2=>by
  obtain ⟨_,hl⟩:=ay6 h.grow e2;rcases hT.new with h3|h3
  ·exact h.ne i k m (by rw[<- h3];exact e) e2
  ·have:=h3 i k e;omega
 na:=h.na
 lt:=⟨zh h.lt.1 hT.next,zh h.lt.2 hT.next⟩
 dt:=h.dt
theorem gv4 (h:cx2 s av c1 c3 rp dm tp mid fm xv allv clv cv P t cs)(q:List (List Int))(hn:cs.length<2147483648)(h1:s.next<=nid)(h2:nid<s.next+k) :
  ∃s1,as2 ⟨s.next+k,s.obj⟩ nid 1 cv (.aa3 [[ba5 q]])=zu (.slice nid 0 (cs.length+1) 1,s1)/\s1.next=s.next+k/\s1.obj rp=zu (.cells [av,c1,.ptr tp 0,c3,cv]) /\
   cx2 (s1.put rp (.cells [av,c1,.ptr tp 0,c3,.slice nid 0 (cs.length+1) 1])) av c1 c3 rp dm tp mid fm xv allv clv (.slice nid 0 (cs.length+1) 1) P t (cs++[q]):=by
 have hg:Grow (⟨s.next+k,s.obj⟩:Store) cv 1 (cs.map bkE):=h.grow.mono (by show s.next<=s.next+k;omega) λ_ _ _=>rfl
 have hap:=ai2 (nid:=nid) (e:=bkE q) hg (is8 _) ⟨rfl,rfl⟩ (by rw[zg];exact hn);rw[zg] at hap
 have hkc:∀i,(∀k,cv≠.slice i 0 k 1)->(ae9 cv (⟨s.next+k,s.obj⟩:Store)).obj i=s.obj i:=λi hi=>by
  rcases hg with ⟨h0,_⟩|⟨j,hj,_,_⟩
  ·rw[h0];rfl
  ·rw[hj];show (if i=j then qb else s.obj i)=_;rw[if_neg λe=>hi _ (by rw[hj,e])]
 have hcn:∀i,(∀cs,s.obj i≠zu (.row cs))->∀k,cv≠.slice i 0 k 1:=λi hi k e=>by
  obtain ⟨⟨cs,g⟩,_⟩:=ay6 h.grow e;exact hi _ g
 have lrp:=h.lt.1;have ldm:=h.lt.2;have ltp:=h.tab.lt.1;have ltm:=h.tab.lt.2;have kr:=hkc rp (hcn rp λcs e=>by rw[h.cell] at e;cases e);have kd:=hkc dm (hcn dm λcs e=>by rw[h.map] at e;cases e);have kt:=hkc tp (hcn tp λcs e=>by rw[h.tab.cell] at e;cases e);have km:=hkc mid (hcn mid λcs e=>by rw[h.tab.map] at e;cases e);have nrd:¬dm=rp:=λe=>by have:=h.map;rw[e,h.cell] at this;cases this
 have nm:(cs++[q]).map bkE=cs.map bkE++[bkE q]:=by rw[z3];rfl
 have put1:∀i,i≠rp->i≠nid->((((ae9 cv (⟨s.next+k,s.obj⟩:Store)).put nid (.row (cs.map bkE++[bkE q]).flatten))).put rp (.cells [av,c1,.ptr tp 0,c3,.slice nid 0 (cs.length+1) 1])).obj i=(ae9 cv (⟨s.next+k,s.obj⟩:Store)).obj i:=λi g1 g2=>by
  rw[aa5,if_neg g1,aa5,if_neg g2]
 have nx:((((ae9 cv (⟨s.next+k,s.obj⟩:Store)).put nid (.row (cs.map bkE++[bkE q]).flatten))).put rp (.cells [av,c1,.ptr tp 0,c3,.slice nid 0 (cs.length+1) 1])).next=s.next+k:=by rw[aa8,aa8,ab7]
 refine ⟨_,hap,by rw[aa8,ab7],by rw[aa5,if_neg om,kr];exact h.cell,?_⟩
 exact {
  cell:=by rw[aa5,if_pos rfl]
  map:=by rw[put1 _ nrd om,kd];exact h.map
  tab:={
   cell:=by rw[put1 _ (λe=>h.dt.1 e.symm) om,kt];exact h.tab.cell
   all:=h.tab.all.mono (by rw[nx];omega) λid hv hid=>by
    obtain ⟨⟨c,g⟩,_⟩:=ay6 h.tab.all hv;rw[put1 _ (λe=>by rw[e,h.cell] at g;cases g) om,hkc id λk e=>h.na _ _ _ hv e]
   cls:=h.tab.cls.mono (by rw[nx];omega) λid hv hid=>by
    obtain ⟨⟨c,g⟩,_⟩:=ay6 h.tab.cls hv;rw[put1 _ (λe=>by rw[e,h.cell] at g;cases g) om,hkc id λk e=>h.ne _ _ _ hv e]
   map:=by rw[put1 _ (λe=>h.dt.2.1 e.symm) om,km];exact h.tab.map
   ne:=h.tab.ne
   lt:=by rw[nx];exact ⟨om,om⟩ }
  grow:=by
   refine .inr ⟨nid,by rw[zg,zb];rfl,?_,by rw[nx];exact h2⟩;rw[aa5,if_neg om,aa5,if_pos rfl,nm]
  ne:=λi k m e e2=>by
   cases e2;obtain ⟨_,g⟩:=ey6 h.tab e;omega
  na:=λi k m e e2=>by
   cases e2;obtain ⟨_,g⟩:=ay6 h.tab.all e;omega
  lt:=by rw[nx];exact ⟨om,om⟩
  dt:=h.dt }
def tabV (xv:IV)(P:List aa2)(t:ag9):IV:=.ab8 [xv,.aa3 (P.map aa2.cs),.int .i64 t.h,ba5 t.cl,.al4 (di4 t.sets)]
def aw3 (av c1 c3 xv:IV)(P:List aa2)(t:ag9)(cs:List (List (List Int))):IV:=.ab8 [av,c1,tabV xv P t,c3,.aa3 (cs.map bkE)]
theorem ar2.frz (h:ar2 s tp mid xv allv clv P t)(hx:Bnd 0 xv)(hp:∀y:aa2,∀c∈y.cs,Bnd 0 c)(hpl:∀e∈P.map aa2.cs,e.length=15)(hn:(t.sets.map (·.1)).Nodup):cb5 s 0 (.ptr tp 0) (tabV xv P t):=by
 refine .ptr tp 0 _ _ (zq _) (.inl h.cell) (zd _) λj hj=>?_
 match j,hj with
 | 0,_=>exact .keep _ hx
 | 1,_=>
  exact h.all.frz hpl (λ_ _=>zq _) λe he c hc=>by
   obtain ⟨y,_,rfl⟩:=zf.1 he
   exact hp y c hc
 | 2,_=>exact .keep _ (.int _ _)
 | 3,_=>
  exact h.cls.frz (λx hx=>(cv4 _ x hx).1) (λ_ _=>zq _) λe he c hc=>by
   obtain ⟨y,_,rfl⟩:=zf.1 he
   exact fj7 y c hc
 | 4,_=>
  refine .map mid (di4 t.sets) (di4 t.sets) (di4 t.sets) (zq _) h.map rfl (List.Perm.refl _) (ig2 hn) (λi hi=>?_) λi hi=>?_
  ·have:(di4 t.sets).getD i (.undef,.undef)∈di4 t.sets:=ad3 _ hi;obtain ⟨x,_,hx⟩:=zf.1 this;rw[<- hx];exact .keep _ (.str _)
  ·have:(di4 t.sets).getD i (.undef,.undef)∈di4 t.sets:=ad3 _ hi;obtain ⟨x,_,hx⟩:=zf.1 this;rw[<- hx];exact .keep _ (.int _ _)
theorem cx2.frz (h:cx2 s av c1 c3 rp dm tp mid fm xv allv clv cv P t cs)(ha:Bnd 0 av)(h1:Bnd 0 c1)(h3:Bnd 0 c3)(hx:Bnd 0 xv)(hp:∀y:aa2,∀c∈y.cs,Bnd 0 c)(hpl:∀e∈P.map aa2.cs,e.length=15)(hn:(t.sets.map (·.1)).Nodup):cb5 s 0 (.ptr rp 0) (aw3 av c1 c3 xv P t cs):=by
 refine .ptr rp 0 _ _ (zq _) (.inl h.cell) (zd _) λj hj=>?_
 match j,hj with
 | 0,_=>exact .keep _ ha
 | 1,_=>exact .keep _ h1
 | 2,_=>exact h.tab.frz hx hp hpl hn
 | 3,_=>exact .keep _ h3
 | 4,_=>
  exact h.grow.frz (λx hx=>(is8 _ x hx).1) (λ_ _=>zq _) λe he c hc=>by
   obtain ⟨y,_,rfl⟩:=zf.1 he;rw[bkE,zi] at hc;subst hc;exact bg9 y
namespace ab3
theorem gd6 (a:ab3)(x:Itm):∀(xs:List Itm) (t:ag9),a.al1 (xs++[x]) t=((a.al1 xs t).1++[(a.aj6 x (a.al1 xs t).2).1],(a.aj6 x (a.al1 xs t).2).2):=by
 intro xs
 induction xs with
 | nil=>intro t;rfl
 | cons y ys ih=>intro t;simp only[z7,al1,ih]
theorem em8 (a:ab3):∀(xs:List Itm) (t:ag9),(a.al1 xs t).1.length=xs.length:=by
 intro xs
 induction xs with
 | nil=>intro t;rfl
 | cons y ys ih=>intro t;simp only[al1,zm,ih]
theorem ig4 {a:ab3}(hO:a.bn7){x:Itm}(hx:a.Has x){t:ag9}(h:t.few):(a.aj6 x t).2.few:=by
 unfold aj6;split
 ·rename_i e
  cases hx with
  | need p q hp hq=>exact ey2 a.l hO.len _ _ (by have:=(ey1 hO hp hq).2.2;omega) t h
  | _=>simp at e
 ·split
  ·rename_i e
   cases hx with
   | clash p q hp hq=>exact ey2 a.l hO.len _ _ (by have:=(ec7 hO hp hq).2.2;omega) t h
   | _=>simp at e
  ·exact h
theorem em9 {a:ab3}(hO:a.bn7):∀(xs:List Itm),(∀x∈xs,a.Has x)->∀t:ag9,t.few->(a.al1 xs t).2.few:=by
 intro xs
 induction xs with
 | nil=>intro _ t h;exact h
 | cons y ys ih=>intro h t ht;exact ih (λx hx=>h x (zp _ hx)) _ (ig4 hO (h y zn) ht)
end ab3
end Go.Id.Md
namespace Go.Id
open Go
def de9 (c:Nat->Int)(n:Nat):List IV:=(List.range n).map λj=>.int .i64 (c j)
theorem bf6 (c:Nat->Int)(n:Nat):(de9 c n).length=n:=by simp[de9]
theorem gv5:∀n:Nat,rep [IV.int .i64 0] n=de9 (λ_=>0) n:=by
 intro n
 induction n with
 | zero=>rfl
 | succ n ih=>
  have h:∀m,rep [IV.int .i64 0] m=List.replicate m (.int .i64 0):=by
   intro m
   induction m with
   | zero=>rfl
   | succ m ih=>show [IV.int .i64 0]++rep _ m=_;rw[ih];rfl
  rw[h];refine List.ext_getElem (by simp[de9]) λi h1 h2=>by simp[de9]
theorem jd3 (c:Nat->Int){n j:Nat}(h:j<n):((de9 c n).drop j).head? = zu (.int .i64 (c j)):=by
 simp[de9,z4,h]
theorem fj9 (c:Nat->Int){n i:Nat}(h:i<(de9 c n).length):(de9 c n)[i]=.int .i64 (c i):=by simp[de9]
theorem fk1 (c:Nat->Int){n j:Nat}(h:j<n)(x:Int):be4 (de9 c n) j [.int .i64 x]=de9 (λi=>if i=j then x else c i) n:=by
 refine List.ext_getElem (by rw[ah3 (by rw[bf6];simp only[zr];omega),bf6,bf6]) λi h1 h2=>?_
 rw[fj9];rw[bf6] at h2;unfold be4;simp only[List.getElem_append,List.length_take,bf6,List.getElem_take,List.getElem_drop,zb,zr,fj9];by_cases e:i=j
 ·subst e;have g1:¬i<min i n:=om;have g2:i<min i n+1:=om;simp only[g1,g2,dite_false,dite_true,if_true,List.getElem_singleton]
 ·by_cases e2:i<j
  ·have g1:i<min j n:=om;have g2:i<min j n+1:=om;simp only[g1,g2,dite_true,e,if_false]
  ·have g1:¬i<min j n:=om;have g2:¬i<min j n+1:=om;have g3:j+1+(i-(min j n+1))=i:=om;simp only[g2,g3,dite_false,e,if_false]
theorem is9 {pt:PT}{ct:CT}{P:Program}{E:Nat->IV}{e id:Nat}{z:List IV}{x:IX}{fr:Frm}{σ:Store}{K:IV->Store->Prop}:opT pt ct P E (.dj2 e z x) id fr σ K=bs8 (db2 (x.ev E fr)) λn=>K (.slice id 0 n e) (σ.put id (.row (rep z n))):=rfl
theorem gv6 {K:Nat->Prop}(n:Nat)(h:n<=2147483648):bs8 (db2 (.int .i64 (n:Int))) K=K n:=by
 have h1:(0:Int)<=n/\(n:Int)<=2147483648:=om;show bs8 (if 0<=(n:Int)/\(n:Int)<=2147483648 then zu ((n:Int).toNat) else qb) K=K n;rw[if_pos h1];rfl
theorem ig5 (c:Nat->Int)(n:Nat):de9 c n=((List.range n).map c).map bh4:=by unfold de9;rw[List.map_map];rfl
end Go.Id
namespace Go.Id.Md
open Go Go.Id
def ag9.wid (t:ag9):Prop:=∀q∈t.cl,q.length<=101
theorem bw8 {c:Nat}{l:List Int}{t:ag9}(h:t.wid)(hl:l.length<=100):(ak2 c l t).2.wid:=λq hq=>by
 rcases zy.1 hq with hq|hq
 ·rcases zy.1 hq with hq|hq
  ·exact h q hq
  ·obtain ⟨x,_,rfl⟩:=zf.1 hq;simp
 ·rw[zi.1 hq,zm];omega
theorem en1 {c:Nat}{l:List Int}{t:ag9}(h:t.wid)(hl:l.length<=100):(cf5 c l t).2.wid :=
 bw8 (c:=c) (l:=ec6 l) h (by unfold ec6;rw[zg];exact hl)
theorem du3 {c:Nat}{x y w:Int}{t:ag9}(h:t.wid):(bq7 c x y w t).2.wid:=λq hq=>by
 rcases zy.1 hq with hq|hq
 ·exact h q hq
 ·simp only[zl,zo,or_false] at hq;rcases hq with rfl|rfl|rfl|rfl<;>simp
theorem gv7 {c:Nat}{l:List Int}{t:ag9}(h:t.wid)(hl:l.length<=100):(fi8 c l t).2.wid:=by
 unfold fi8;split
 ·exact h
 ·split
  ·exact h
  ·exact bw8 (c:=c) (l:=upL l) h (by unfold upL;rw[zg];exact hl)
theorem gv8 (l:List aa2)(hc:l.length<=100)(b:Int)(r:aa6):r.count<=100->∀t:ag9,t.wid->(r.by5 l b t).2.wid:=by
 induction r using aa6.ind with
 | h k d xs ih=>
  intro hr t ht;simp only[aa6.count] at hr
  have hsub:∀q:aa2->Bool,(bz9 (numsOf q l) b).length<=100:=λq=>by
   have h1:=cs3 (numsOf q l) b;have h2:=ae5 q l;omega
  have hA:∀(xs:List aa6),(∀a∈xs,∀t:ag9,t.wid->(a.by5 l b t).2.wid)->∀t:ag9,t.wid->(aa6.an1 l b xs t).2.wid:=by
   intro xs
   induction xs with
   | nil=>intro _ t h;exact h
   | cons a xs ih2=>intro h t ht;exact ih2 (λx hx=>h x (zp _ hx)) _ (h a zn t ht)
  have n1:=aa6.bw3 xs;have hL:=hA xs (λa ha=>ih a ha (by have:=aa6.bc3 ha;omega)) t ht;have hn:(aa6.an1 l b xs t).1.length<=100:=by rw[cf6];omega
  unfold aa6.by5;split
  ·exact gv7 ht (hsub _)
  ·split
   ·exact gv7 ht (hsub _)
   ·unfold fi9;split
    ·exact en1 hL hn
    ·split
     ·exact bw8 hL hn
     ·split
      ·split
       ·exact du3 hL
       ·exact bw8 hL (by simp)
      ·split
       ·exact du3 hL
       ·exact en1 hL (by simp)
namespace ab3
variable {a:ab3}
theorem ca1 (i:Int):(a.an4 i).length<=a.l.length:=by
 unfold an4;split
 ·exact ao4 _ _
 ·exact Nat.zero_le _
theorem ey8 (j:Int):(a.meant j).length<=a.l.length:=by
 unfold meant;split
 ·split
  ·exact ae5 _ _
  ·split
   ·exact ae5 _ _
   ·exact ze (zw _ _) (ae5 _ _)
 ·exact Nat.zero_le _
def Wid (l:List (List Int)):Prop:=l.length<=100/\∀q∈l,q.length<=101
theorem cs5 {q:List Int}(h:q.length<=101):Wid [q]:=⟨by simp,λr hr=>by rw[zi.1 hr];exact h⟩
theorem ed1 {l:List Int}{f:Int->List Int}(hl:l.length<=100)(h:∀n,(f n).length<=101):Wid (l.map f):=⟨by rw[zg];exact hl,λq hq=>by obtain ⟨n,_,rfl⟩:=zf.1 hq;exact h n⟩
theorem gv9 (hl:a.l.length<=100)(x:Itm):Wid (a.an6 x):=by
 have up:∀l:List Int,l.length<=a.l.length->(upL l).length<=101:=λl h=>by unfold upL;rw[zg];omega
 unfold an6;split
 ·exact cs5 (by simp[noL])
 split
 ·exact ed1 (ze (cs3 _ _) (ze (ae5 _ _) hl)) λn=>by simp[noL]
 split
 ·exact cs5 (by simp[noL])
 split
 ·exact cs5 (up _ (ca1 _))
 unfold cr9;have hm:=ey8 (a:=a) x.p;split
 ·exact cs5 (up _ hm)
 split
 ·exact ed1 om λn=>up _ (ca1 n)
 split
 ·exact ed1 (ze (zw _ _) om) λn=>up _ (ze (zw _ _) (ca1 n))
 ·exact ed1 om λn=>by simp[noL]
variable (hO:bn7 a)
include hO
theorem ig6 {x:Itm}(hx:a.Has x){t:ag9}(h:t.wid):Wid (a.aj6 x t).1/\(a.aj6 x t).2.wid:=by
 unfold aj6;split
 ·rename_i e;refine ⟨cs5 (by simp[noL]),?_⟩
  cases hx with
  | need p q hp hq=>exact gv8 a.l hO.len _ _ (by have:=(ey1 hO hp hq).2.2;omega) t h
  | _=>simp at e
 ·split
  ·rename_i e;refine ⟨cs5 (by simp[noL]),?_⟩
   cases hx with
   | clash p q hp hq=>exact gv8 a.l hO.len _ _ (by have:=(ec7 hO hp hq).2.2;omega) t h
   | _=>simp at e
  ·exact ⟨gv9 hO.len x,h⟩
theorem gw1:∀(xs:List Itm),(∀x∈xs,a.Has x)->∀t:ag9,t.wid->(∀q∈(a.al1 xs t).1,Wid q)/\(a.al1 xs t).2.wid:=by
 intro xs
 induction xs with
 | nil=>intro _ t h;exact ⟨λq hq=>(by cases hq),h⟩
 | cons y ys ih=>
  intro h t ht;have g:=ig6 hO (h y zn) ht;have f:=ih (λx hx=>h x (zp _ hx)) _ g.2;refine ⟨λq hq=>?_,f.2⟩;rcases zl.1 hq with rfl|hq
  ·exact g.1
  ·exact f.1 q hq
end ab3
structure hq5 (c n:Nat) (t:ag9) (r:Int×ag9):Prop where
 le:t.h<=r.2.h/\r.2.h<=t.h+n
 ok:r.2.OK c/\RgN (c+r.2.h) r.1
structure jt2 (c n:Nat) (t:ag9) (r:List Int×ag9):Prop where
 le:t.h<=r.2.h/\r.2.h<=t.h+n
 ok:r.2.OK c/\∀x∈r.1,RgN (c+r.2.h) x
variable {c:Nat} {t:ag9}
theorem it1 (c:Nat)(t:ag9):RgN (c+(t.h+1)) ((c+(t.h+1):Nat):Int):=⟨om,om,om⟩
theorem gw2 (ho:t.OK c){cl:List (List Int)}(hc:∀q∈cl,∀x∈q,RgN (c+(t.h+1)) x):(⟨t.h+1,t.cl++cl,t.sets⟩:ag9).OK c :=
 ⟨λq hq x hx=>(zy.1 hq).elim (λh=>(ho.cl q h x hx).mono (by show c+t.h<=c+(t.h+1);omega)) λh=>hc q h x hx,λe he=>(ho.st e he).mono (by show c+t.h<=c+(t.h+1);omega),ho.kn⟩
theorem bm4 (ho:t.OK c){l:List Int}(hl:∀x∈l,RgN (c+t.h) x):hq5 c 1 t (ak2 c l t):=by
 have hh:=it1 c t;refine ⟨⟨z6 _,zd _⟩,?_,hh⟩
 have e:(ak2 c l t).2=⟨t.h+1,t.cl++((l.map λx=>[-x,((c+(t.h+1):Nat):Int)])++[-((c+(t.h+1):Nat):Int)::l]),t.sets⟩:=by
  unfold ak2;rw[qe]
 rw[e];refine gw2 ho λq hq=>?_
 rcases zy.1 hq with hq|hq
 ·obtain ⟨y,hy,rfl⟩:=zf.1 hq;intro x hx;simp only[zl,zo,or_false] at hx;rcases hx with rfl|rfl
  ·exact ((hl y hy).mono om).neg
  ·exact hh
 ·rw[zi] at hq;subst hq;intro x hx;rcases zl.1 hx with rfl|hx
  ·exact hh.neg
  ·exact (hl x hx).mono om
theorem du4 (ho:t.OK c){l:List Int}(hl:∀x∈l,RgN (c+t.h) x):hq5 c 1 t (cf5 c l t):=by
 have h:=bm4 (c:=c) ho (l:=ec6 l) λx hx=>by
  obtain ⟨y,hy,rfl⟩:=zf.1 hx;exact (hl y hy).neg
 exact ⟨h.le,h.ok.1,h.ok.2.neg⟩
theorem df1 (ho:t.OK c){x y w:Int}(hx:RgN (c+t.h) x)(hy:RgN (c+t.h) y)(hw:RgN (c+t.h) w):hq5 c 1 t (bq7 c x y w t):=by
 have hh:=it1 c t;refine ⟨⟨z6 _,zd _⟩,gw2 ho λq hq=>?_,hh⟩;have hx:=hx.mono (W:=c+(t.h+1)) om;have hy:=hy.mono (W:=c+(t.h+1)) om;have hw:=hw.mono (W:=c+(t.h+1)) om;have n1:=hx.neg;have n2:=hy.neg;have n3:=hw.neg;have n4:=hh.neg;simp only[zl,zo,or_false] at hq;rcases hq with rfl|rfl|rfl|rfl<;>intro z hz<;>simp only[zl,zo,or_false] at hz<;>rcases hz with rfl|rfl|rfl<;>assumption
theorem ed2 (ho:t.OK c){l:List Int}(hl:∀n∈l,0<=n/\n<(c:Int)):hq5 c 1 t (fi8 c l t):=by
 have hr:∀n∈l,RgN (c+t.h) (n+1):=λn hn=>⟨by have:=hl n hn;omega,by have:=hl n hn;omega,by have:=hl n hn;omega⟩
 unfold fi8;split
 ·rename_i h1;obtain ⟨n,rfl⟩:=List.length_eq_one_iff.1 h1;exact ⟨⟨zd _,z6 _⟩,ho,hr n zn⟩
 ·split
  ·rename_i x hf;exact ⟨⟨zd _,z6 _⟩,ho,ho.st _ (gu3 hf)⟩
  ·rename_i hf
   have h:=bm4 (c:=c) ho (l:=upL l) λx hx=>by
    obtain ⟨y,hy,rfl⟩:=zf.1 hx;exact hr y hy
   refine ⟨h.le,⟨h.ok.1.cl,λe he=>?_,?_⟩,h.ok.2⟩
   ·rcases zy.1 he with he|he
    ·exact h.ok.1.st e he
    ·rw[zi.1 he];exact h.ok.2
   ·show ((t.sets++[(dj5 l,(ak2 c (upL l) t).1)]).map (·.1)).Nodup;rw[z3,List.map_singleton,List.nodup_append];refine ⟨ho.kn,(List.nodup_cons.2 ⟨zo,.nil⟩),λa ha b hb e=>?_⟩;rw[zi] at hb;rw[e,hb] at ha;exact gd5 hf ha
theorem fk2 (l:List aa2)(b:Int)(p:aa6->Prop):∀xs:List aa6,(∀a∈xs,p a)->(∀a∈xs,p a->∀t:ag9,t.OK l.length->hq5 l.length a.count t (a.by5 l b t))->∀t:ag9,t.OK l.length->jt2 l.length (aa6.counts xs) t (aa6.an1 l b xs t):=by
 intro xs
 induction xs with
 | nil=>intro _ _ t ho;exact ⟨⟨zd _,zj _ _⟩,ho,λ_ h=>by cases h⟩
 | cons a xs ih=>
  intro hp h t ho;have g:=h a zn (hp a zn) t ho;have f:=ih (λa ha=>hp a (zp _ ha)) (λa ha=>h a (zp _ ha)) _ g.ok.1;simp only[aa6.counts,aa6.an1];refine ⟨⟨ze g.le.1 f.le.1,by have:=g.le.2;have:=f.le.2;show (aa6.an1 l b xs (a.by5 l b t).2).2.h<=_;omega⟩,f.ok.1,λx hx=>?_⟩;rcases zl.1 hx with rfl|hx
  ·exact g.ok.2.mono (by have:=f.le.1;show l.length+_<=l.length+(aa6.an1 l b xs (a.by5 l b t).2).2.h;omega)
  ·exact f.ok.2 x hx
theorem cg1 (l:List aa2)(b:Int)(r:aa6):r.an5 1 false=true\/r.an5 1 true=true->∀t:ag9,t.OK l.length->hq5 l.length r.count t (r.by5 l b t):=by
 induction r using aa6.ind with
 | h k d xs ih=>
  intro hf t ho;obtain ⟨h1,h2⟩:=de7 hf;have hw:∀ {r:Int×ag9},hq5 l.length 1 t r->hq5 l.length (aa6.counts xs+1) t r:=λh=>⟨⟨h.le.1,by have:=h.le.2;omega⟩,h.ok⟩
  have hL:=fk2 l b (λa=>a.an5 1 false=true\/a.an5 1 true=true) xs h2 (λa ha hp=>ih a ha hp) t ho;have hn:=cf6 l b xs t;unfold aa6.by5;simp only[aa6.count]
  have hg:∀i,i<xs.length->RgN (l.length+(aa6.an1 l b xs t).2.h) ((aa6.an1 l b xs t).1.getD i 0):=λi hi=>by
   rw[<- hn] at hi;refine hL.ok.2 _ ?_;rw[za,zc hi];exact zt hi
  have hth:∀ {r:Int×ag9},hq5 l.length 1 (aa6.an1 l b xs t).2 r->hq5 l.length (aa6.counts xs+1) t r:=λh=>⟨⟨ze hL.le.1 h.le.1,by have:=h.le.2;have:=hL.le.2;omega⟩,h.ok⟩
  rcases du2 h1 with ⟨rfl,_⟩|rfl|rfl|⟨rfl,h6⟩|⟨rfl,h6⟩|rfl|rfl
  ·exact hw (ed2 ho fj3)
  ·exact hth (du4 hL.ok.1 hL.ok.2)
  ·exact hth (bm4 hL.ok.1 hL.ok.2)
  ·rw[if_neg (by decide),if_neg (by decide)];unfold fi9;rw[if_neg (by decide),if_neg (by decide),if_pos rfl];split
   ·exact hth (df1 hL.ok.1 (hg 0 om) (hg 2 om) (hg 1 om))
   ·refine hth (bm4 hL.ok.1 λx hx=>?_);simp only[zl,zo,or_false] at hx;rcases hx with rfl|rfl
    ·exact hg 0 om
    ·exact (hg 1 om).neg
  ·rw[if_neg (by decide),if_neg (by decide)];unfold fi9;rw[if_neg (by decide),if_neg (by decide),if_neg (by decide)];split
   ·exact hth (df1 hL.ok.1 (hg 2 om) (hg 0 om) (hg 1 om))
   ·refine hth (du4 hL.ok.1 λx hx=>?_);simp only[zl,zo,or_false] at hx;rcases hx with rfl|rfl
    ·exact hg 0 om
    ·exact (hg 1 om).neg
  ·exact hw (ed2 ho fj3)
  ·exact hw (ed2 ho fj3)
theorem en2 (l:List aa2)(b:Int)(xs:List aa6)(h:∀a∈xs,a.an5 1 false=true\/a.an5 1 true=true)(t:ag9)(ho:t.OK l.length):jt2 l.length (aa6.counts xs) t (aa6.an1 l b xs t):=
 fk2 l b _ xs h (λa _ hp=>cg1 l b a hp) t ho
end Go.Id.Md
namespace Go.Id.Md
open Go Go.Id
variable {σ s u:Store} {lo lo' nid k:Nat} {v w c:IV} {L A B:List (List Int)} {cs as' bs:List IV} {q:List Int}
theorem cf7 {α:Type}(A B:List α)(k:Nat)(d:α):(A++B).getD k d=if k<A.length then A.getD k d else B.getD (k-A.length) d:=by
 simp only[za,List.getElem?_append];split<;>rfl
structure ao6 (s:Store) (lo:Nat) (cs:List IV) (L:List (List Int)):Prop where
 len:cs.length=L.length
 row:∀k,k<L.length->ai4 s lo (cs.getD k .undef) (L.getD k [])
 ne:∀k k' i m m',k<L.length->k'<L.length->k≠k'->cs.getD k .undef=.slice i 0 m 1->cs.getD k' .undef≠.slice i 0 m' 1
def bq9 (s:Store)(lo:Nat)(v:IV)(L:List (List Int)):Prop :=
 (v=.aa1/\L=[])\/∃j cs,lo<=j/\j<s.next/\v=.slice j 0 L.length 1/\s.obj j=zu (.row cs)/\ao6 s lo cs L/\∀k m,k<L.length->cs.getD k .undef≠.slice j 0 m 1
theorem cf8 (h:ai4 s lo v q)(hn:s.next<=u.next)(ho:∀i m,v=.slice i 0 m 1->i<s.next->u.obj i=s.obj i):ai4 u lo v q:=by
 rcases h with h|⟨id,h1,h2,rfl,h4⟩
 ·exact .inl h
 ·exact .inr ⟨id,h1,zh h2 hn,rfl,by rw[ho id _ rfl h2];exact h4⟩
theorem de8 (h:ai4 s lo v q){i m:Nat}(e:v=.slice i 0 m 1):lo<=i/\i<s.next:=by
 rcases h with ⟨rfl,_⟩|⟨id,h1,h2,rfl,h4⟩
 ·cases e
 ·cases e;exact ⟨h1,h2⟩
theorem ao6.keep (h:ao6 s lo cs L)(hn:s.next<=u.next)(ho:∀k i m,k<L.length->cs.getD k .undef=.slice i 0 m 1->i<s.next->u.obj i=s.obj i):ao6 u lo cs L :=
 ⟨h.len,λk hk=>cf8 (h.row k hk) hn λi m e hi=>ho k i m hk e hi,h.ne⟩
theorem ao6.low (h:ao6 s lo cs L)(hl:lo'<=lo):ao6 s lo' cs L:=⟨h.len,λk hk=>(h.row k hk).low hl,h.ne⟩
theorem ao6.app (h:ao6 s lo as' A)(g:ao6 s lo bs B)(hx:∀k k' i m m',k<A.length->k'<B.length->as'.getD k .undef=.slice i 0 m 1->bs.getD k' .undef≠.slice i 0 m' 1):ao6 s lo (as'++bs) (A++B):=by
 have g1:=h.len;have g2:=g.len;refine ⟨by rw[zb,zb,g1,g2],λk hk=>?_,λk k' i m m' hk hk' hne e e2=>?_⟩
 ·rw[zb] at hk;rw[cf7,cf7,g1];split
  ·rename_i hlt;exact h.row k hlt
  ·exact g.row _ om
 ·rw[zb] at hk hk';rw[cf7,g1] at e e2;split at e<;>split at e2
  ·rename_i h1 h2;exact h.ne k k' i m m' h1 h2 hne e e2
  ·rename_i h1 h2;exact hx k _ i m m' h1 om e e2
  ·rename_i h1 h2;exact hx k' _ i m' m h2 om e2 e
  ·exact g.ne _ _ i m m' om om om e e2
theorem ao6.one (h:ai4 s lo c q):ao6 s lo [c] [q]:=
 ⟨rfl,λk hk=>by
  have:k=0:=by simpa using hk
  subst this;exact h,λk k' i m m' hk hk' hne=>by
  have:k=0:=by simpa using hk
  have:k'=0:=by simpa using hk'
  omega⟩
theorem cf9 (h:ai4 s lo v q):v.leaf=true:=by
 rcases h with ⟨rfl,_⟩|⟨_,_,_,rfl,_⟩<;>rfl
theorem ao6.jd2 (h:ao6 s lo cs L):cs.all IV.leaf=true:=by
 rw[zv];intro x hx;obtain ⟨k,hk,rfl⟩:=List.mem_iff_getElem.1 hx;have:=h.row k (by rw[<- h.len];exact hk);rw[za,zc hk] at this;exact cf9 this
theorem bq9.mono (h:bq9 s lo v L)(hn:s.next<=u.next)(ho:∀i,lo<=i->i<s.next->u.obj i=s.obj i):bq9 u lo v L:=by
 rcases h with h|⟨j,cs,h1,h2,rfl,h4,h5,h6⟩
 ·exact .inl h
 ·refine .inr ⟨j,cs,h1,zh h2 hn,rfl,by rw[ho j h1 h2];exact h4,h5.keep hn λk i m hk e hi=>ho i (de8 (h5.row k hk) e).1 hi,h6⟩
theorem bq9.kept (h:bq9 s lo v L)(hk:Kept s u):bq9 u lo v L:=h.mono hk.next λi _ hi=>hk.obj i hi
theorem bq9.low (h:bq9 s lo v L)(hl:lo'<=lo):bq9 s lo' v L:=by
 rcases h with h|⟨j,cs,h1,h2,rfl,h4,h5,h6⟩
 ·exact .inl h
 ·exact .inr ⟨j,cs,ze hl h1,h2,rfl,h4,h5.low hl,h6⟩
theorem bq9.kl6 {S:Nat->Prop}(h:bq9 s lo v L)(hS:∀i,lo<=i->¬S i):Frz s S v (ba5 L):=by
 rcases h with ⟨rfl,rfl⟩|⟨j,cs,h1,h2,rfl,h4,h5,h6⟩
 ·exact .bz3
 ·refine .slice j 0 L.length 1 cs (L.map clE) (hS j h1) (.inr h4) (by rw[zg]) (by rw[h5.len];omega) (λi hi=>?_) λi hi k hk=>?_
  ·simp[za,hi,clE]
  ·have hk0:k=0:=om;subst hk0;have e2:((L.map clE).getD i []).getD 0 .undef=.aa3 ((L.getD i []).map Md.ae1):=by simp[za,hi,clE]
   rw[e2,Nat.zero_add,Nat.mul_one,Nat.add_zero];exact (h5.row i hi).w.frz hS
theorem bq9.frz (h:bq9 s lo v L):cb5 s 0 v (ba5 L):=h.kl6 λ_ _=>zq _
def jt1 (σ:Store)(L:List (List Int))(v:IV)(s:Store):Prop:=Kept σ s/\bq9 s σ.next v L
theorem gv1 {P:Program}{E:Nat->IV}{f:Nat}{args:List IV}(h:∀σ,C P E f args σ (jt1 σ L)):PC P E f args (ba5 L):=
 gr7 λσ _=>(h σ).mono λv s ⟨h1,h2⟩=>⟨h1.obj,h1.next,h2.kl6 λi hi hl=>Nat.lt_irrefl _ (zh hl hi)⟩
theorem gv2 (hk:Kept σ s)(h:bq9 s σ.next v L)(hk2:Kept ⟨s.next+1,s.obj⟩ u)(hc:ai4 u (s.next+1) c q)(hn:L.length<2147483648) :
  ∃S,as2 u s.next 1 v (.aa3 [[c]])=zu (.slice s.next 0 (L.length+1) 1,S)/\S.next=u.next/\Kept σ S/\bq9 S σ.next (.slice s.next 0 (L.length+1) 1) (L++[q]):=by
 have hkl:=hk2.low;have hn1:s.next+1<=u.next:=hk2.next;have hks:=hk.next;have hlc:=cf9 hc;have hcl:=λi m e=>de8 hc (i:=i) (m:=m) e
 rcases h with ⟨rfl,rfl⟩|⟨j,cs,h1,h2,rfl,h4,h5,h6⟩
 ·refine ⟨u.put s.next (.row [c]),?_,rfl,⟨by rw[aa8];omega,λi hi=>by rw[aa5,if_neg om,hkl.obj i om,hk.obj i hi]⟩,?_⟩
  ·simp[as2,bx4,hlc]
  ·refine .inr ⟨s.next,[c],hks,by rw[aa8];omega,rfl,by rw[aa5,if_pos rfl],ao6.one (cf8 (hc.low om) (by rw[aa8];exact zd _) λi m e _=>by rw[aa5,if_neg (by have:=hcl i m e;omega)]),λk m hk' e=>?_⟩;have:k=0:=by simpa using hk'
   subst this;have:=hcl _ _ e;omega
 ·have hu:u.obj j=zu (.row cs):=by rw[hkl.obj j h2];exact h4
  have hlen:=h5.len;have hcell:∀k i m,k<L.length->cs.getD k .undef=.slice i 0 m 1->i<s.next/\i≠j:=λk i m hk' e=>⟨(de8 (h5.row k hk') e).2,λe2=>h6 k m hk' (by rw[e,e2])⟩
  refine ⟨(u.kill j).put s.next (.row (cs++[c])),?_,rfl,⟨by rw[aa8];show σ.next<=u.next;omega,λi hi=>?_⟩,?_⟩
  ·have hle:=h5.jd2;simp[as2,bx4,hlc,hu,hlen,hle];omega
  ·have e1:(u.kill j).obj i=u.obj i:=if_neg om;rw[aa5,if_neg om,e1,hkl.obj i om,hk.obj i hi]
  ·have ko:∀i,i≠j->i≠s.next->((u.kill j).put s.next (.row (cs++[c]))).obj i=u.obj i:=λi g1 g2=>by
    have e1:(u.kill j).obj i=u.obj i:=if_neg g1;rw[aa5,if_neg g2,e1]
   refine .inr ⟨s.next,cs++[c],hks,by rw[aa8];show s.next<u.next;omega,by rw[zb];rfl,by rw[aa5,if_pos rfl],ao6.app (h5.keep (by rw[aa8];show s.next<=u.next;omega) λk i m hk' e hi=>?_) (ao6.one (cf8 (hc.low om) (by rw[aa8];exact zd _) λi m e _=>?_)) (λk k' i m m' hk' hk2' e e2=>?_),λk m hk' e=>?_⟩
   ·obtain ⟨g1,g2⟩:=hcell k i m hk' e;rw[ko i g2 om,hkl.obj i hi]
   ·have:=hcl i m e;exact ko i om om
   ·have hk0:k'=0:=by simpa using hk2'
    subst hk0;have g1:=(hcell k i m hk' e).1;have g2:=hcl i m' e2;omega
   ·rw[zb,zr] at hk';rw[cf7,hlen] at e;split at e
    ·rename_i hlt;have:=(hcell k _ m hlt e).1;omega
    ·have hk0:k-L.length=0:=om;rw[hk0] at e;have:=hcl _ _ e;omega
theorem gv3 {m:Nat}(hk:Kept σ s)(hA:bq9 s σ.next v A)(hkm:Kept ⟨s.next+m,s.obj⟩ u)(hB:bq9 u (s.next+m) w B)(h0:s.next<=nid)(h1:nid<s.next+m\/u.next<=nid)(h2:nid<u.next+k)(hn:A.length+B.length<2147483648) :
  ∃v' S,as2 ⟨u.next+k,u.obj⟩ nid 1 v w=zu (v',S)/\S.next=u.next+k/\Kept σ S/\bq9 S σ.next v' (A++B):=by
 have hks:Kept s u:=hkm.low;have hsn:=hks.next;have hs0:=hk.next;have hAu:bq9 u σ.next v A:=hA.kept hks;have hu:Kept σ u:=hk.trans hks;have up:∀ {lo v L},bq9 u lo v L->bq9 ⟨u.next+k,u.obj⟩ lo v L:=λh=>h.mono (zj _ _) λ_ _ _=>rfl
 have src0:B=[]->bx4 ⟨u.next+k,u.obj⟩ 1 w=zu (0,[]):=λe=>by
  subst e;rcases hB with ⟨rfl,_⟩|⟨j,cs,_,_,rfl,h4,_⟩
  ·rfl
  ·simp[bx4,h4]
 by_cases hB0:B=[]
 ·refine ⟨v,⟨u.next+k,u.obj⟩,?_,rfl,hu.up k,by rw[hB0,List.append_nil];exact up hAu⟩;unfold as2;rw[src0 hB0];rcases hAu with ⟨rfl,_⟩|⟨j,cs,_,_,rfl,h4,_⟩
  ·simp
  ·simp[h4]
 ·rcases hB with ⟨_,e⟩|⟨j',bs,b1,b2,rfl,b4,b5,b6⟩
  ·exact absurd e hB0
  have hbl:=b5.len;have hB1:0<B.length:=List.length_pos_iff.2 hB0
  have src:bx4 ⟨u.next+k,u.obj⟩ 1 (.slice j' 0 B.length 1)=zu (B.length,bs):=by
   simp[bx4,b4,hbl];exact List.take_of_length_le om
  have hlf:=b5.jd2;have hbi:∀k i m',k<B.length->bs.getD k .undef=.slice i 0 m' 1->s.next+m<=i/\i<u.next:=λk i m hk' e=>de8 (b5.row k hk') e
  have hnb:B.length≠0:=om;rcases hA with ⟨rfl,rfl⟩|⟨j,cs,a1,a2,rfl,a4,a5,a6⟩
  ·refine ⟨.slice nid 0 B.length 1,(⟨u.next+k,u.obj⟩:Store).put nid (.row bs),?_,rfl,⟨by rw[aa8];show σ.next<=u.next+k;omega,λi hi=>by rw[aa5,if_neg om];exact hu.obj i hi⟩,?_⟩
   ·unfold as2;rw[src];simp[hlf,hB0];omega
   ·rw[List.nil_append];refine .inr ⟨nid,bs,om,by rw[aa8];exact h2,rfl,by rw[aa5,if_pos rfl],(b5.low (show σ.next<=s.next+m by omega)).keep (by rw[aa8];exact zj _ _) λk i m hk' e hi=>by rw[aa5,if_neg (by have:=hbi k i m hk' e;omega)],λk m hk' e=>?_⟩;have:=hbi k _ m hk' e;omega
  ·have hal:=a5.len;have hju:u.obj j=zu (.row cs):=by rw[hks.obj j a2];exact a4
   have hcf:=a5.jd2;have hai:∀k i m,k<A.length->cs.getD k .undef=.slice i 0 m 1->i<s.next/\i≠j:=λk i m hk' e=>⟨(de8 (a5.row k hk') e).2,λe2=>a6 k m hk' (by rw[e,e2])⟩
   have ko:∀i,i≠j->i≠nid->(((⟨u.next+k,u.obj⟩:Store).kill j).put nid (.row (cs++bs))).obj i=u.obj i:=λi g1 g2=>by
    have e1:((⟨u.next+k,u.obj⟩:Store).kill j).obj i=u.obj i:=if_neg g1;rw[aa5,if_neg g2,e1]
   refine ⟨.slice nid 0 (A.length+B.length) 1,((⟨u.next+k,u.obj⟩:Store).kill j).put nid (.row (cs++bs)),?_,rfl,⟨by rw[aa8];show σ.next<=u.next+k;omega,λi hi=>?_⟩,?_⟩
   ·unfold as2;rw[src];simp[hlf,hB0,hju,hal,hcf];omega
   ·rw[ko i om om];exact hu.obj i hi
   ·have hAk:ao6 (((⟨u.next+k,u.obj⟩:Store).kill j).put nid (.row (cs++bs))) σ.next cs A:=a5.keep (by rw[aa8];show s.next<=u.next+k;omega) λk i m hk' e hi=>by
     have:=hai k i m hk' e;rw[ko i this.2 om,hks.obj i hi]
    have hBk:ao6 (((⟨u.next+k,u.obj⟩:Store).kill j).put nid (.row (cs++bs))) σ.next bs B:=(b5.low (show σ.next<=s.next+m by omega)).keep (by rw[aa8];show u.next<=u.next+k;omega) λk i m hk' e hi=>by
     have:=hbi k i m hk' e;exact ko i om om
    refine .inr ⟨nid,cs++bs,om,by rw[aa8];exact h2,by rw[zb],by rw[aa5,if_pos rfl],hAk.app hBk λk k' i m m' hk' hk2' e e2=>?_,λk m hk' e=>?_⟩
    ·have g1:=(hai k i m hk' e).1;have g2:=hbi k' i m' hk2' e2;omega
    ·rw[zb] at hk';rw[cf7,hal] at e;split at e
     ·rename_i hlt;have:=(hai k _ m hlt e).1;omega
     ·have:=hbi _ _ m om e;omega
theorem bq9.at (h:bq9 s lo v L){i:Nat}(hi:i<L.length)(hq:0<(L.getD i []).length):∃j b cs,v=.slice j 0 L.length 1/\s.obj j=zu (.row cs)/\(cs.drop i).head? = zu (.slice b 0 (L.getD i []).length 1)/\i+1<=cs.length/\s.obj b=zu (.row ((L.getD i []).map bh4))/\lo<=b/\b<s.next /\
  ∀x y:Int,∀k,k<(L.getD i []).length->bq9 (s.put b (.row (((L.getD i []).set k x).map bh4))) lo v (L.set i ((L.getD i []).set k x)):=by
 rcases h with ⟨_,rfl⟩|⟨j,cs,h1,h2,rfl,h4,h5,h6⟩
 ·cases hi
 have hlen:=h5.len;have hic:i<cs.length:=om;have hg:cs.getD i .undef=cs[i]:=by simp[za,hic]
 rcases h5.row i hi with ⟨_,e⟩|⟨b,b1,b2,b3,b4⟩
 ·rw[e] at hq;cases hq
 have hjb:j≠b:=λe=>h6 i _ hi (by rw[e];exact b3)
 refine ⟨j,b,cs,rfl,h4,?_,om,b4,b1,b2,λx _ k hk=>?_⟩
 ·rw[z4,zc hic,<- hg,b3]
 ·have hLs:(L.set i ((L.getD i []).set k x)).length=L.length:=zz
  have hLi:∀k',(L.set i ((L.getD i []).set k x)).getD k' []=if k'=i then (L.getD i []).set k x else L.getD k' []:=λk'=>by
   simp only[za,List.getElem?_set];by_cases e:i=k'
   ·subst e;simp[hi]
   ·simp[e,Ne.symm e]
  refine .inr ⟨j,cs,h1,by rw[aa8];exact h2,by rw[hLs],by rw[aa5,if_neg hjb];exact h4,⟨by rw[hLs];exact hlen,λk' hk'=>?_,λk' k'' i' m m' g1 g2=>h5.ne k' k'' i' m m' (by rw[hLs] at g1;exact g1) (by rw[hLs] at g2;exact g2)⟩,λk' m g=>h6 k' m (by rw[hLs] at g;exact g)⟩;rw[hLs] at hk';rw[hLi];by_cases e:k'=i
  ·subst e;rw[if_pos rfl];refine .inr ⟨b,b1,by rw[aa8];exact b2,by rw[zz];exact b3,by rw[aa5,if_pos rfl]⟩
  ·rw[if_neg e];refine cf8 (h5.row k' hk') (by rw[aa8];exact zd _) λi' m e2 _=>?_
   rw[aa5,if_neg λe3=>h5.ne k' i i' m _ hk' hi e e2 (by rw[e3];exact b3)]
theorem bq9.len (h:bq9 s lo v L)(t:Store):cc2 0 t v=zu (.int .i64 L.length):=by
 rcases h with ⟨rfl,rfl⟩|⟨j,cs,_,_,rfl,_⟩
 ·rfl
 ·rfl
end Go.Id.Md
namespace Go.Id.Md
open Go Go.Id
namespace ab3
variable {a:ab3}
def RgL (V:Nat)(l:List (List Int)):Prop:=∀q∈l,∀y∈q,RgN V y
theorem RgL.mono {V W:Nat}{l:List (List Int)}(h:RgL V l)(hw:V<=W):RgL W l:=λq hq y hy=>(h q hq y hy).mono hw
theorem ig7 {n:Int}(h:a.is n=true){V:Nat}(hV:a.l.length<=V):RgN V (n+1):=by
 unfold is at h;simp only[zk,decide_eq_true_eq] at h;exact ⟨om,om,om⟩
theorem ig8 {ns:List Int}(h:∀n∈ns,a.is n=true){V:Nat}(hV:a.l.length<=V):∀y∈upL ns,RgN V y:=λy hy=>by
 obtain ⟨n,hn,rfl⟩:=zf.1 hy;exact ig7 (h n hn) hV
theorem ig9 {ns:List Int}(h:∀n∈ns,a.is n=true){V:Nat}(hV:a.l.length<=V):∀y∈noL ns,RgN V y:=λy hy=>by
 obtain ⟨n,hn,rfl⟩:=zf.1 hy;exact (ig7 (h n hn) hV).neg
theorem ih4 {x:Itm}(hx:a.Has x)(h2:x.kind≠2)(h3:x.kind≠3){V:Nat}(hV:a.l.length<=V):RgL V (a.an6 x):=by
 have isN:∀n:Nat,n<a.l.length->a.is n=true:=λn hn=>by rw[ab3.dt5];exact decide_eq_true hn
 have one:∀ {l:List Int},(∀y∈l,RgN V y)->RgL V [l]:=λh q hq=>by rw[zi] at hq;rw[hq];exact h
 cases hx with
 | ap7 p hp _=>exact one (ig9 (λn hn=>by rw[zi] at hn;rw[hn];exact isN p hp) hV)
 | need p q _ _=>exact absurd rfl h2
 | clash p q _ _=>exact absurd rfl h3
 | over p q hp hq=>
  intro r hr;obtain ⟨n,hn,rfl⟩:=zf.1 hr;obtain ⟨m,rfl,h1,_⟩:=am5.1 (List.mem_filter.1 hn).1;refine ig9 (λk hk=>?_) hV;simp only[zl,zo,or_false] at hk;rcases hk with rfl|rfl
  ·exact isN p hp
  ·exact isN m h1
 | twin p q h1 h4 _=>
  refine one (ig9 (λk hk=>?_) hV);simp only[zl,zo,or_false] at hk;rcases hk with rfl|rfl
  ·exact isN p om
  ·exact isN q h4
 | keep i hi _=>exact one (ig8 aw2 hV)
 | job j hj _=>
  show RgL V (a.cr9 j);unfold cr9;split
  ·exact one (ig8 bq8 hV)
  ·split
   ·intro r hr;obtain ⟨n,_,rfl⟩:=zf.1 hr;exact ig8 aw2 hV
   ·split
    ·intro r hr;obtain ⟨n,_,rfl⟩:=zf.1 hr;exact ig8 (λm hm=>aw2 m (a.ec1 hm).1) hV
    ·intro r hr;obtain ⟨n,hn,rfl⟩:=zf.1 hr;exact ig9 (λm hm=>by rw[zi] at hm;rw[hm];exact bq8 n hn) hV
variable (hO:bn7 a)
include hO
end ab3
namespace ab3
variable {a:ab3} (hO:bn7 a)
include hO
theorem gw3 {x:Itm}(hx:a.Has x){t:ag9}(ho:t.OK a.l.length):(t.h<=(a.aj6 x t).2.h/\(a.aj6 x t).2.h<=t.h+24)/\(a.aj6 x t).2.OK a.l.length/\RgL (a.l.length+(a.aj6 x t).2.h) (a.aj6 x t).1:=by
 have two:∀ {V:Nat} {y z:Int},RgN V y->RgN V z->RgL V [[y,z]]:=λh1 h2 q hq w hw=>by
  rw[zi] at hq;rw[hq] at hw;simp only[zl,zo,or_false] at hw;rcases hw with rfl|rfl<;>assumption
 by_cases h2:x.kind=2
 ·cases hx with
  | need p q hp hq=>
   obtain ⟨f,_,n⟩:=ey1 hO hp hq;have h:=cg1 a.l (-1) _ (.inl f) t ho
   exact ⟨⟨h.le.1,ze h.le.2 (qa n _)⟩,h.ok.1,two (ig7 (by rw[ab3.dt5];exact decide_eq_true hp) (zj _ _)).neg h.ok.2⟩
  | _=>simp at h2
 by_cases h3:x.kind=3
 ·cases hx with
  | clash p q hp hq=>
   obtain ⟨f,_,n⟩:=ec7 hO hp hq;have h:=cg1 a.l p _ (.inl f) t ho
   exact ⟨⟨h.le.1,ze h.le.2 (qa n _)⟩,h.ok.1,two (ig7 (by rw[ab3.dt5];exact decide_eq_true hp) (zj _ _)).neg h.ok.2.neg⟩
  | _=>simp at h3
 have e:a.aj6 x t=(a.an6 x,t):=by unfold aj6;rw[if_neg h2,if_neg h3]
 rw[e];exact ⟨⟨zd _,zj _ _⟩,ho,ih4 hx h2 h3 (zj _ _)⟩
theorem du5:∀(xs:List Itm),(∀x∈xs,a.Has x)->∀t:ag9,t.OK a.l.length ->
  (t.h<=(a.al1 xs t).2.h/\(a.al1 xs t).2.h<=t.h+24*xs.length)/\(a.al1 xs t).2.OK a.l.length/\∀q∈(a.al1 xs t).1,RgL (a.l.length+(a.al1 xs t).2.h) q:=by
 intro xs
 induction xs with
 | nil=>intro _ t ho;exact ⟨⟨zd _,zj _ _⟩,ho,λq hq=>by cases hq⟩
 | cons y ys ih=>
  intro h t ho;obtain ⟨⟨g1,g2⟩,g3,g4⟩:=gw3 hO (h y zn) ho;obtain ⟨⟨f1,f2⟩,f3,f4⟩:=ih (λx hx=>h x (zp _ hx)) _ g3;refine ⟨⟨ze g1 f1,by show (a.al1 ys (a.aj6 y t).2).2.h<=_;rw[zm];omega⟩,f3,λq hq=>?_⟩;rcases zl.1 hq with rfl|hq
  ·exact g4.mono (by show _<=a.l.length+(a.al1 ys (a.aj6 y t).2).2.h;omega)
  ·exact f4 q hq
end ab3
theorem ih5 (q:Nat->Bool):∀m v:Nat,v<m->q v=true->(ak9 q m)[(ak9 q v).length]? = zu (v:Int):=by
 intro m
 induction m with
 | zero=>intro v h;exact absurd h (zq _)
 | succ m ih=>
  intro v h hq;rw[ax7];by_cases e:v=m
  ·subst e;rw[hq,if_pos rfl,List.getElem?_append_right (zd _),Nat.sub_self];rfl
  ·have g:=ih v om hq;obtain ⟨h1,_⟩:=List.getElem?_eq_some_iff.1 g;rw[List.getElem?_append_left h1];exact g
theorem dj7 {α:Type}(cs:List (List α)){i:Nat}(h:i<cs.length):(cs.take (i+1)).flatten=(cs.take i).flatten++cs.getD i []:=by
 rw[List.take_add_one,zc h,List.flatten_append,za,zc h];simp
namespace ab3
theorem ih6 (a:ab3):∀(xs:List Itm) (t:ag9) (i:Nat) (x:Itm),xs[i]? = zu x->(a.al1 xs t).1.getD i []=(a.aj6 x (a.al1 (xs.take i) t).2).1:=by
 intro xs
 induction xs with
 | nil=>intro t i x h;cases h
 | cons y ys ih=>
  intro t i x h
  cases i with
  | zero=>cases h;rfl
  | succ i=>
   have:=ih (a.aj6 y t).2 i x h;simp only[z0,al1,List.getD_cons_succ];exact this
theorem jd4 (a:ab3)(x:Itm)(t:ag9):(x.kind=2\/x.kind=3)/\(∃y:Int,(a.aj6 x t).1=[[-(x.p+1),y]])\/¬(x.kind=2\/x.kind=3)/\(a.aj6 x t).1=a.an6 x:=by
 unfold aj6;by_cases h2:x.kind=2
 ·rw[if_pos h2];exact .inl ⟨.inl h2,_,rfl⟩
 rw[if_neg h2];by_cases h3:x.kind=3
 ·rw[if_pos h3];exact .inl ⟨.inr h3,_,rfl⟩
 rw[if_neg h3];exact .inr ⟨λh=>h.elim h2 h3,rfl⟩
end ab3
def jd5 (L M:List (List Int))(i:Nat):Prop:=M.length=L.length/\∀j,i<=j->M.getD j []=L.getD j []
theorem jd5.set {L M:List (List Int)}{i:Nat}{q:List Int}(h:jd5 L M i):jd5 L (M.set i q) (i+1):=
 ⟨by rw[zz];exact h.1,λj hj=>by
  rw[<- h.2 j om,za,za,z5 om]⟩
theorem ey9 {α:Type}{l:List α}{i:Nat}{d:α}(h:i<l.length):l.getD i d∈l:=by
 rw[za,zc h];exact zt h
theorem bq9.cell {s:Store}{lo:Nat}{v:IV}{L:List (List Int)}(h:bq9 s lo v L){i:Nat}(hi:i<L.length):∃j c cs,v=.slice j 0 L.length 1/\s.obj j=zu (.row cs)/\(cs.drop i).head? = zu c/\i+1<=cs.length/\∀t:Store,cc2 0 t c=zu (.int .i64 (L.getD i []).length):=by
 rcases h with ⟨_,rfl⟩|⟨j,cs,h1,h2,rfl,h4,h5,h6⟩
 ·cases hi
 have hlen:=h5.len;have hic:i<cs.length:=om;refine ⟨j,cs.getD i .undef,cs,rfl,h4,?_,hic,λt=>?_⟩
 ·rw[z4,za,zc hic];rfl
 ·rcases h5.row i hi with ⟨e1,e2⟩|⟨b,_,_,e1,_⟩
  ·rw[e1,e2];rfl
  ·rw[e1];rfl
theorem jd6 {l:List Int}{k:Nat}(h:k<l.length):((l.map bh4).drop k).head? = zu (.int .i64 (l.getD k 0)):=by
 simp[z4,h,za,bh4]
theorem ih7 {l:List Int}{k:Nat}(h:k<l.length)(x:Int):be4 (l.map bh4) k [.int .i64 x]=(l.set k x).map bh4:=by
 unfold be4;rw[List.set_eq_take_append_cons_drop,if_pos h,z3,z8,List.map_take,List.map_drop,qe];rfl
structure ez1 (L M:List (List Int)) (i k:Nat):Prop where
 len:M.length=L.length
 far:∀j,i<j->M.getD j []=L.getD j []
 wid:(M.getD i []).length=(L.getD i []).length
 cel:∀m,k<=m->(M.getD i []).getD m 0=(L.getD i []).getD m 0
theorem jd5.one {L M:List (List Int)}{i:Nat}(h:jd5 L M i):ez1 L M i 0 :=
 ⟨h.1,λj hj=>h.2 j om,by rw[h.2 i (zd _)],λm _=>by rw[h.2 i (zd _)]⟩
theorem ez1.end {L M:List (List Int)}{i k:Nat}(h:ez1 L M i k):jd5 L M (i+1):=⟨h.len,λj hj=>h.far j om⟩
theorem ez1.step {L M:List (List Int)}{i k:Nat}(h:ez1 L M i k)(hi:i<M.length)(x:Int):ez1 L (M.set i ((M.getD i []).set k x)) i (k+1):=by
 have e:(M.set i ((M.getD i []).set k x)).getD i []=(M.getD i []).set k x:=by simp[za,hi]
 refine ⟨by rw[zz];exact h.len,λj hj=>?_,by rw[e,zz];exact h.wid,λm hm=>?_⟩
 ·rw[<- h.far j hj,za,za,z5 om,<- za]
 ·rw[e,<- h.cel m om,za,za,z5 om,<- za]
theorem cy9 {p:UInt8->Bool}(l:Str):(l.dropWhile p).length<=l.length:=by
 induction l with
 | nil=>exact zd _
 | cons a l ih=>
  rw[z2];split
  ·exact ze ih (z6 _)
  ·exact zd _
theorem ez2:∀(n m:Nat) (l:Str),l.length<=n->l.length<=m->au8 n l=au8 m l:=by
 intro n
 induction n with
 | zero=>
  intro m l h1 _;have:l=[]:=List.length_eq_zero_iff.1 (Nat.le_zero.1 h1);subst this
  cases m<;>rfl
 | succ n ih=>
  intro m l h1 h2
  cases l with
  | nil=>cases m<;>rfl
  | cons b l=>
   cases m with
   | zero=>simp at h2
   | succ m=>
    simp only[zm] at h1 h2
    have hd:ad1 b=ad1 b->((b::l).dropWhile λc=>ad1 c==ad1 b).length<=l.length:=λ_=>by
     rw[z2,if_pos (by simp)];exact cy9 l
    have hd:=hd rfl;simp only[au8];rw[ih m l om om,ih m _ (ze hd om) (ze hd om)]
def gi4 (b:UInt8)(l:Str):Nat:=(l.takeWhile λc=>ad1 c==ad1 b).length
theorem gd7:ab5 []=[]:=rfl
theorem fk3 {b:UInt8}{l:Str}(h:ad1 b=0):ab5 (b::l)=ab5 l:=by
 unfold ab5;simp only[zm,au8,h,if_true]
theorem fk4 {b:UInt8}{l:Str}(h:ad1 b≠0)(h4:ad1 b<4):ab5 (b::l)=⟨ad1 b,[]⟩::ab5 l:=by
 unfold ab5;simp only[zm,au8,h,h4,if_true,if_false]
theorem cz1 (p:UInt8->Bool)(l:Str):l.takeWhile p=l.take (l.takeWhile p).length/\l.dropWhile p=l.drop (l.takeWhile p).length:=by
 induction l with
 | nil=>exact ⟨rfl,rfl⟩
 | cons a l ih=>
  rw[z1,z2]
  cases h:p a with
  | true=>
   simp only[if_true,zm,z0,List.drop_succ_cons]
   exact ⟨by rw[<- ih.1],ih.2⟩
  | false=>simp
theorem fk5 {b:UInt8}{l:Str}(h4:¬ad1 b<4):ab5 (b::l)=⟨ad1 b,if ad1 b=5 then ((b::l).take (gi4 b l+1)).dropWhile (· == 48) else (b::l).take (gi4 b l+1)⟩::ab5 (l.drop (gi4 b l)):=by
 have h0:ad1 b≠0:=om;unfold ab5;simp only[zm,au8,h0,h4,if_false]
 have e1:(b::l).takeWhile (λc=>ad1 c==ad1 b)=(b::l).take (gi4 b l+1):=by
  rw[z1,if_pos (by simp),z0,(cz1 (λc=>ad1 c==ad1 b) l).1];unfold gi4;rw[<- (cz1 (λc=>ad1 c==ad1 b) l).1]
 have e2:(b::l).dropWhile (λc=>ad1 c==ad1 b)=l.drop (gi4 b l):=by
  rw[z2,if_pos (by simp)];exact (cz1 (λc=>ad1 c==ad1 b) l).2
 rw[e1,e2,ez2 l.length (l.drop (gi4 b l)).length _ (by rw[List.length_drop];omega) (zd _)]
theorem jt3 {p:UInt8->Bool}:∀(l:Str) (m:Nat),m<(l.takeWhile p).length->∃c,l[m]? = zu c/\p c=true:=by
 intro l
 induction l with
 | nil=>intro m h;simp at h
 | cons a l ih=>
  intro m h;rw[z1] at h
  cases hp:p a with
  | false=>rw[hp] at h;simp at h
  | true=>
   rw[hp] at h
   cases m with
   | zero=>exact ⟨a,rfl,hp⟩
   | succ m=>exact ih m (by simpa using h)
theorem jt4 {p:UInt8->Bool}:∀(l:Str) (c:UInt8),l[(l.takeWhile p).length]? = zu c->p c=false:=by
 intro l
 induction l with
 | nil=>intro c h;simp at h
 | cons a l ih=>
  intro c h;rw[z1] at h
  cases hp:p a with
  | false=>rw[hp] at h;simp at h;rw[<- h];exact hp
  | true=>rw[hp] at h;exact ih c (by simpa using h)
theorem it2 {b:UInt8}{l:Str}{m:Nat}(h:m<gi4 b l):∃c,l[m]? = zu c/\ad1 c=ad1 b:=by
 obtain ⟨c,h1,h2⟩:=jt3 l m h;exact ⟨c,h1,by simpa using h2⟩
theorem it3 {b:UInt8}{l:Str}{c:UInt8}(h:l[gi4 b l]? = zu c):ad1 c≠ad1 b:=by
 have:=jt4 l c h
 simpa using this
theorem it4 (b:UInt8)(l:Str):gi4 b l<=l.length:=(List.takeWhile_sublist _).length_le
end Go.Id.Md
