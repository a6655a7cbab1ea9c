/- What is asked for,in plain words: successors,newcomers,whom a job means,what fulfils it. Conditions: none; no program in sight. -/
import Derived.Test.YtiallonafbejaaaGreatDoorMm
import Derived.Test.YtiallonafbejaaaGreatDoorFwWk
set_option linter.all false
namespace Go.Id.Md
open Go Go.Id
structure Job where
 kind : Int
 dep : Dep
 deriving DecidableEq,Inhabited
structure Edit where
 kind : Int
 n : Int
 deriving DecidableEq,Inhabited
structure Req where
 arch : Int
 vendor : Bool
 jobs : List Job
 edits : List Edit
 budget : Int
def Job.cs (j : Job) : List IV:=[.int .u8 j.kind,.str j.dep.name,.int .u8 j.dep.op,.int .i64 j.dep.evr.epoch,.str j.dep.evr.ver,.str j.dep.evr.rel]
def Edit.cs (e : Edit) : List IV:=[.int .u8 e.kind,.int .i64 e.n]
abbrev jobsV (l : List Job) : IV:=.tslice (l.map Job.cs)
abbrev editsV (l : List Edit) : IV:=.tslice (l.map Edit.cs)
def Req.cs (r : Req) : List IV:=[.int .u8 r.arch,.bool r.vendor,jobsV r.jobs,editsV r.edits,.int .i64 r.budget]
/-! ### Numbers for which something holds -/
def numsN (q : Nat→Bool) (k : Nat) : List Int:=((List.range k).filter q).map fun (n : Nat) => (n : Int)
theorem numsN_snoc (q : Nat→Bool) (k : Nat) : numsN q (k+1)=numsN q k ++ if q k then [(k : Int)] else []:=by
 unfold numsN
 rw [List.range_succ,List.filter_append,List.map_append]
 congr 1
 simp only [List.filter_cons,List.filter_nil]
 split <;> rfl
theorem numsN_mem {q : Nat→Bool} {k : Nat} {n : Int} : n∈numsN q k ↔ ∃ m : Nat,n=m∧m < k∧q m=true:=by
 unfold numsN
 rw [List.mem_map]
 constructor
 ·rintro ⟨m,hm,rfl⟩
  obtain ⟨h1,h2⟩:=List.mem_filter.1 hm
  exact ⟨m,rfl,List.mem_range.1 h1,h2⟩
 ·rintro ⟨m,rfl,h1,h2⟩
  exact ⟨m,List.mem_filter.2 ⟨List.mem_range.2 h1,h2⟩,rfl⟩
theorem numsN_len (q : Nat→Bool) (k : Nat) : (numsN q k).length≤k:=by
 unfold numsN
 rw [List.length_map]
 exact Nat.le_trans (List.length_filter_le _ _) (by simp)
theorem numsN_up (q : Nat→Bool) (k : Nat) : (numsN q k).Pairwise (· < ·):=by
 unfold numsN
 refine List.Pairwise.map (R:=fun (a b : Nat) => a < b) _ (fun a b h => by show (a : Int) < b; omega) ?_
 exact List.Pairwise.filter _ List.pairwise_lt_range
/-! ### Architectures -/
def machM (a : Int) : Bool:=archOK a && !decide (a=1)
def apartM (a b : Int) : Bool:=machM a && machM b && !decide (a=b)
def followsM (a b : Int) : Bool:=archOK a && archOK b && !apartM a b
def scoreM (m a : Int) : Int :=
 if m=2 then (if a=1 then 2 else if a=2 then 1 else if a=3 then 3 else 0) else
 if m=3 then (if a=1 then 2 else if a=3 then 1 else 0) else
 if m=4 then (if a=1 then 2 else if a=4 then 1 else 0) else 0
def fitsA (m a : Int) : Bool:=decide (0 < scoreM m a)
/-! ### What is asked for -/
structure AskM where
 p : Pool
 r : Req
namespace AskM
variable (a : AskM)
def l : List Package:=pkgsOf a.p
def pk (n : Int) : Package:=a.l.getD n.toNat default
def jb (n : Int) : Job:=a.r.jobs.getD n.toNat default
def is (n : Int) : Bool:=decide (0≤n) && decide (n < a.l.length)
def inst (n : Int) : Bool:=a.is n && decide (n < a.p.inst)
def job (n : Int) : Bool:=decide (0≤n) && decide (n < a.r.jobs.length)
def fits (n : Int) : Bool:=a.is n && fitsA a.r.arch (a.pk n).arch
def twinsP (p q : Package) : Bool:=decide (p.name=q.name) && !(apartM p.arch q.arch && decide (evrCmp p.evr q.evr=0))
def twins (n m : Int) : Bool:=a.is n && a.is m && !decide (n=m) && twinsP (a.pk n) (a.pk m)
def edited (k n : Int) : Bool:=decide ((⟨k,n⟩ : Edit)∈a.r.edits)
def dropped (n : Int) : Bool:=a.job n && a.edited 1 n
def namedBy (k n : Int) : Bool:=(List.range a.r.jobs.length).any fun i => decide ((a.jb i).kind=k) && !a.dropped i && decide (n∈namedM a.l (a.jb i).dep)
def follP (vendor down other : Bool) (old q : Package) : Bool:=decide (q.name=old.name) && (down || decide (0≤evrCmp q.evr old.evr)) && (other || followsM q.arch old.arch) && (vendor || decide (q.vendor=old.vendor))
def foll (i : Int) (q : Package) : Bool:=follP a.r.vendor (a.edited 3 i || a.namedBy 4 i) (a.edited 4 i) (a.pk i) q
def succs (i : Int) : List Int:=if a.inst i then numsN (fun n => decide ((n : Int)=i) || a.foll i (a.pk n) || (!decide ((n : Int)=i) && obsoletes (a.pk n) (a.pk i))) a.l.length else []
def newc (i : Int) : List Int:=(a.succs i).filter fun n => !(a.inst n || !a.fits n)
def meant (j : Int) : List Int:=if a.job j then (if (a.jb j).kind=1 then providersM a.l (a.jb j).dep else if (a.jb j).kind=2 then namedM a.l (a.jb j).dep else (namedM a.l (a.jb j).dep).filter fun n => a.inst n) else []
def some (state l : List Int) : Bool:=l.any fun n => decide (n∈state)
def fulfils (j : Int) (state : List Int) : Bool:=!a.job j ||
 if (a.jb j).kind=1 then some state (a.meant j) else if (a.jb j).kind=2 then !some state (a.meant j) else
 if (a.jb j).kind=3 then !(a.meant j).any fun i => !some state (a.succs i) else
 !(a.meant j).any fun i => decide (0 < (a.newc i).length) && !some state (a.newc i)
def cs : List IV:=[a.p.v,(idxM a.l).v,.int .u8 a.r.arch,.bool a.r.vendor,jobsV a.r.jobs,editsV a.r.edits,.int .i64 a.r.budget,.tslice (a.l.map Package.cs)]
def v : IV:=.tptr a.cs
end AskM
def editMay (e : Edit) (jobs inst : Int) : Bool:=decide (1≤e.kind) && decide (e.kind≤4) && decide (0≤e.n) && decide (e.n < if e.kind=1 then jobs else inst)
def jobMay (j : Job) : Bool:=decide (1≤j.kind) && decide (j.kind≤4) && depMay j.dep
def reqErr (r : Req) (inst : Int) : Int :=
 if machM r.arch=false ∨ r.budget < 0 ∨ 1099511627776 < r.budget then 1 else
 if 64 < r.jobs.length ∨ 64 < r.edits.length then 40 else
 if r.jobs.all jobMay=false then 4 else
 if r.edits.all (fun e => editMay e r.jobs.length inst)=false then 5 else 0
def askV (p : Pool) (r : Req) : IV:=if reqErr r p.inst=0 then .tuple [(AskM.mk p r).v,.int .i64 0] else .tuple [.nilptr,.int .i64 (reqErr r p.inst)]
/-! ### Versions,turned about -/
theorem cmpI_neg (a b : Int) : cmpI b a=- cmpI a b:=by
 unfold cmpI; split <;> split <;> (try split) <;> (try split) <;> omega
theorem bLess_eq : ∀ (x y : List UInt8),Op.bytesLess x y=decide (x < y)
 | [],[] => by simp [Op.bytesLess]
 | _ :: _,[] => by simp [Op.bytesLess]
 | [],_ :: _ => by simp [Op.bytesLess]
 | a :: x,b :: y => by
  simp only [Op.bytesLess,bLess_eq x y,List.cons_lt_cons_iff]
  by_cases h : a < b
  ·simp [h]
  ·by_cases h2 : a=b
   ·subst h2; simp
   ·simp [h,h2]
theorem lt_or (a b : Str) : Op.bytesLess a b=true∧Op.bytesLess b a=false∧a≠b ∨ a=b∧Op.bytesLess a b=false ∨ Op.bytesLess b a=true∧Op.bytesLess a b=false∧a≠b:=by
 simp only [bLess_eq,decide_eq_true_eq,decide_eq_false_iff_not]
 rcases Decidable.em (a < b) with h | h
 ·exact .inl ⟨h,fun h2 => List.lt_asymm h h2,fun e => List.lt_irrefl a (by rw [← e] at h; exact h)⟩
 ·rcases Decidable.em (b < a) with h2 | h2
  ·exact .inr (.inr ⟨h2,h,fun e => List.lt_irrefl a (by rw [← e] at h2; exact h2)⟩)
  ·exact .inr (.inl ⟨List.le_antisymm (List.not_lt.1 h2) (List.not_lt.1 h),h⟩)
theorem cmpS_neg (a b : Str) : cmpS b a=- cmpS a b:=by
 unfold cmpS
 rcases lt_or a b with ⟨h1,h2,h3⟩ | ⟨rfl,h⟩ | ⟨h1,h2,h3⟩
 ·rw [h1,h2,if_neg (by simp),if_neg (fun e => h3 e.symm),if_pos rfl]; rfl
 ·rw [h]; simp
 ·rw [h1,h2,if_pos rfl,if_neg (by simp),if_neg h3]
theorem partCmp_neg (a b : Part) : partCmp b a=- partCmp a b:=by
 unfold partCmp
 simp only [cmpI_neg (a.kind : Int) b.kind,cmpI_neg (a.s.length : Int) b.s.length,cmpS_neg a.s b.s]
 have e : (b.kind=5∧a.kind=5) ↔ (a.kind=5∧b.kind=5):=And.comm
 by_cases h1 : cmpI (a.kind : Int) b.kind=0
 ·simp only [h1,Int.neg_zero,ne_eq,not_true_eq_false,if_false,e]
  by_cases h2 : a.kind=5∧b.kind=5
  ·simp only [h2,and_self,if_true]
   by_cases h3 : cmpI (a.s.length : Int) b.s.length=0
   ·simp [h3]
   ·have h4 : ¬ - cmpI (a.s.length : Int) b.s.length=0:=by omega
    simp [h3,h4]
  ·simp [h2]
 ·have h2 : ¬ - cmpI (a.kind : Int) b.kind=0:=by omega
  simp [h1,h2]
theorem partsCmp_neg : ∀ (a b : List Part),partsCmp b a=- partsCmp a b:=by
 intro a
 induction a with
 | nil => intro b; cases b <;> rfl
 | cons x a ih =>
  intro b
  cases b with
  | nil => rfl
  | cons y b =>
   simp only [partsCmp,partCmp_neg x y]
   by_cases h : partCmp x y=0
   ·simp [h,ih b]
   ·have h2 : ¬ - partCmp x y=0:=by omega
    simp [h,h2]
theorem verCmp_neg (a b : Str) : verCmp b a=- verCmp a b:=partsCmp_neg _ _
theorem evrCmp_neg (a b : EVR) : evrCmp b a=- evrCmp a b:=by
 unfold evrCmp
 rw [cmpI_neg a.epoch b.epoch,verCmp_neg a.ver b.ver,verCmp_neg a.rel b.rel]
 by_cases h1 : cmpI a.epoch b.epoch=0
 ·by_cases h2 : verCmp a.ver b.ver=0
  ·simp only [h1,h2,Int.neg_zero,ne_eq,not_true_eq_false,if_false]
   by_cases h3 : a.rel=[] ∨ b.rel=[]
   ·rw [if_pos h3,if_pos h3.symm]; rfl
   ·rw [if_neg h3,if_neg (fun h => h3 h.symm)]
  ·have h3 : ¬ - verCmp a.ver b.ver=0:=by omega
   simp [h1,h2,h3]
 ·have h3 : ¬ - cmpI a.epoch b.epoch=0:=by omega
  simp [h1,h3]
theorem evrCmp_zero (a b : EVR) : evrCmp a b=0 ↔ evrCmp b a=0:=by
 rw [evrCmp_neg a b]; omega
/-! ### What holds of it -/
namespace AskM
variable (a : AskM)
theorem twinsP_comm (p q : Package) : twinsP p q=twinsP q p:=by
 unfold twinsP apartM
 have e1 : decide (p.name=q.name)=decide (q.name=p.name):=decide_eq_decide.2 eq_comm
 have e2 : decide (p.arch=q.arch)=decide (q.arch=p.arch):=decide_eq_decide.2 eq_comm
 have e3 : decide (evrCmp p.evr q.evr=0)=decide (evrCmp q.evr p.evr=0):=decide_eq_decide.2 (evrCmp_zero _ _)
 rw [e1,e2,e3,Bool.and_comm (machM p.arch)]
theorem twins_comm (n m : Int) : a.twins n m=a.twins m n:=by
 unfold twins
 rw [twinsP_comm (a.pk n),Bool.and_comm (a.is n),show decide (n=m)=decide (m=n) from decide_eq_decide.2 eq_comm]
theorem twins_self (n : Int) : a.twins n n=false:=by
 unfold twins; simp
theorem is_nat (n : Nat) : a.is n=decide (n < a.l.length):=by
 unfold is
 have : (0 : Int)≤n:=by omega
 simp only [this,decide_true,Bool.true_and]
 exact decide_eq_decide.2 (by omega)
theorem inst_nat {n : Nat} (h : n < a.l.length) : a.inst n=decide ((n : Int) < a.p.inst):=by
 unfold inst; rw [is_nat,decide_eq_true h,Bool.true_and]
theorem succs_up (i : Int) : (a.succs i).Pairwise (· < ·):=by
 unfold succs
 split
 ·exact numsN_up _ _
 ·exact .nil
theorem succs_len (i : Int) : (a.succs i).length≤a.l.length:=by
 unfold succs
 split
 ·exact numsN_len _ _
 ·exact Nat.zero_le _
theorem succs_at {i n : Int} (h : n∈a.succs i) : a.inst i=true∧∃ m : Nat,n=m∧m < a.l.length:=by
 unfold succs at h
 split at h
 ·rename_i hi
  obtain ⟨m,e,h1,_⟩:=numsN_mem.1 h
  exact ⟨hi,m,e,h1⟩
 ·cases h
theorem inst_nonneg {i : Int} (h : a.inst i=true) : 0≤i∧i < a.l.length:=by
 unfold inst is at h
 simp only [Bool.and_eq_true,decide_eq_true_eq] at h
 exact h.1
theorem succs_self (i : Int) : i∈a.succs i ↔ a.inst i=true:=by
 constructor
 ·exact fun h => (a.succs_at h).1
 ·intro h
  obtain ⟨h1,h2⟩:=a.inst_nonneg h
  unfold succs
  rw [if_pos h]
  exact numsN_mem.2 ⟨i.toNat,by omega,by omega,by
   have : ((i.toNat : Nat) : Int)=i:=by omega
   simp [this]⟩
theorem newc_sub {i n : Int} (h : n∈a.newc i) : n∈a.succs i∧a.inst n=false∧a.fits n=true:=by
 obtain ⟨h1,h2⟩:=List.mem_filter.1 h
 cases h3 : a.inst n <;> cases h4 : a.fits n <;> simp_all
theorem newc_up (i : Int) : (a.newc i).Pairwise (· < ·):=(a.succs_up i).filter _
theorem newc_len (i : Int) : (a.newc i).length≤a.l.length:=Nat.le_trans (List.length_filter_le _ _) (a.succs_len i)
theorem some_iff {state l : List Int} : some state l=true ↔ ∃ n∈l,n∈state:=by
 unfold some; simp [List.any_eq_true]
end AskM
end Go.Id.Md
/- Rows of numbers that a call lays: one's own,and of what length. Conditions: none; over any program. -/
namespace Go.Id
open Go Go.Id.Md
variable {P : Program} {E : Nat→IV} {σ s t : Store} {v : IV} {zs : List Int} {lo : Nat}
abbrev iv64 (n : Int) : IV:=.int .i64 n
def IRow (s : Store) (lo : Nat) (v : IV) (zs : List Int) : Prop :=
 (v=.nilslice∧zs=[]) ∨ ∃ id cs,lo≤id∧id < s.next∧v=.slice id 0 zs.length 1∧s.obj id=some (.row cs)∧cs.take zs.length=zs.map iv64∧zs.length≤cs.length
def IRowX (s : Store) (lo : Nat) (v : IV) (zs : List Int) : Prop :=
 (v=.nilslice∧zs=[]) ∨ ∃ id,lo≤id∧id < s.next∧v=.slice id 0 zs.length 1∧s.obj id=some (.row (zs.map iv64))
theorem IRowX.w (h : IRowX s lo v zs) : IRow s lo v zs:=by
 rcases h with h | ⟨id,h1,h2,h3,h4⟩
 ·exact .inl h
 ·exact .inr ⟨id,_,h1,h2,h3,h4,by rw [List.take_of_length_le (by simp)],by simp⟩
structure Kept (σ s : Store) : Prop where
 next : σ.next≤s.next
 obj : ∀ i,i < σ.next→s.obj i=σ.obj i
theorem Kept.refl (σ : Store) : Kept σ σ:=⟨Nat.le_refl _,fun _ _ => rfl⟩
theorem Kept.trans (h : Kept σ s) (h2 : Kept s t) : Kept σ t:=⟨Nat.le_trans h.next h2.next,fun i hi => by rw [h2.obj i (Nat.lt_of_lt_of_le hi h.next),h.obj i hi]⟩
def IOut (σ : Store) (zs : List Int) (v : IV) (s : Store) : Prop:=Kept σ s∧IRow s σ.next v zs
def IOutX (σ : Store) (zs : List Int) (v : IV) (s : Store) : Prop:=Kept σ s∧IRowX s σ.next v zs
theorem IOutX.w (h : IOutX σ zs v s) : IOut σ zs v s:=⟨h.1,h.2.w⟩
theorem row_get {cs : List IV} (h : cs.take zs.length=zs.map iv64) {i : Nat} (hi : i < zs.length) : cs.getD i .undef=iv64 zs[i]:=by
 have h1 : (cs.take zs.length)[i]? = (zs.map iv64)[i]?:=by rw [h]
 rw [List.getElem?_take,if_pos hi,List.getElem?_map,List.getElem?_eq_getElem hi] at h1
 rw [List.getD_eq_getElem?_getD,h1]; rfl
theorem IRow.frz {S : Nat→Prop} (h : IRow s lo v zs) (hS : ∀ i,lo≤i→¬ S i) : Frz s S v (.tslice (zs.map Md.intC)):=by
 rcases h with ⟨rfl,rfl⟩ | ⟨id,cs,h1,h2,rfl,h4,h5,h6⟩
 ·exact .nils
 ·refine .slice id 0 zs.length 1 cs (zs.map Md.intC) (hS id h1) (.inr h4) (by rw [List.length_map]) (by omega) (fun i hi => ?_) fun i hi j hj => ?_
  ·simp [List.getD_eq_getElem?_getD,hi,Md.intC]
  ·have hj0 : j=0:=by omega
   subst hj0
   have e2 : ((zs.map Md.intC).getD i []).getD 0 .undef=iv64 zs[i]:=by simp [List.getD_eq_getElem?_getD,hi,Md.intC]
   rw [e2,Nat.zero_add,Nat.mul_one,Nat.add_zero,row_get h5 hi]
   exact .keep _ (.int _ _)
theorem PC_out {f : Nat} {args : List IV} (h : ∀ σ,C P E f args σ (IOut σ zs)) : PC P E f args (.tslice (zs.map Md.intC)) :=
 PC_frz fun σ _ => (h σ).mono fun v s ⟨h1,h2⟩ => ⟨h1.obj,h1.next,h2.frz fun i hi hl => Nat.lt_irrefl _ (Nat.lt_of_lt_of_le hl hi)⟩
theorem IRowX.grow (h : Grow s v 1 (zs.map Md.intC)) (hlo : ∀ id,v=.slice id 0 zs.length 1→lo≤id) : IRowX s lo v zs:=by
 have hfl : ∀ zs : List Int,(zs.map Md.intC).flatten=zs.map iv64:=fun zs => by
  induction zs with
  | nil => rfl
  | cons z zs ih => simp only [List.map_cons,List.flatten_cons,ih]; rfl
 rcases h with ⟨rfl,h⟩ | ⟨id,rfl,ho,hid⟩
 ·exact .inl ⟨rfl,List.map_eq_nil_iff.1 h⟩
 ·rw [List.length_map] at hlo
  exact .inr ⟨id,hlo id rfl,hid,by rw [List.length_map],by rw [ho,hfl]⟩
theorem IRowX.gr (h : IRowX s lo v zs) : Grow s v 1 (zs.map Md.intC):=by
 have hfl : ∀ zs : List Int,(zs.map Md.intC).flatten=zs.map iv64:=fun zs => by
  induction zs with
  | nil => rfl
  | cons z zs ih => simp only [List.map_cons,List.flatten_cons,ih]; rfl
 rcases h with ⟨rfl,rfl⟩ | ⟨id,h1,h2,rfl,ho⟩
 ·exact .inl ⟨rfl,rfl⟩
 ·exact .inr ⟨id,by rw [List.length_map],by rw [ho,hfl],h2⟩
theorem app_one {nid : Nat} (h : IRowX s lo v zs) (n : Int) (hn : zs.length < 2147483648) :
  appI s nid 1 v (.tslice [[.int .i64 n]])=some (.slice nid 0 (zs.length+1) 1,(killv v s).put nid (.row ((zs ++ [n]).map iv64))):=by
 have hg:=app_grow (nid:=nid) (e:=[.int .i64 n]) h.gr (fun x hx => by obtain ⟨y,_,rfl⟩:=List.mem_map.1 hx; exact ⟨rfl,rfl⟩) ⟨rfl,rfl⟩ (by rw [List.length_map]; exact hn)
 rw [hg,List.length_map]
 congr 4
 rw [List.flatten_append,List.map_append]
 congr 1
 generalize zs=l
 induction l with
 | nil => rfl
 | cons z zs ih => simp only [List.map_cons,List.flatten_cons,ih]; rfl
theorem killv_low (h : IRowX s lo v zs) {i : Nat} (hi : i < lo) : (killv v s).obj i=s.obj i:=by
 rcases h with ⟨rfl,_⟩ | ⟨id,h1,h2,rfl,ho⟩
 ·rfl
 ·show (if i=id then none else s.obj i)=s.obj i
  rw [if_neg (by omega)]
theorem Kept.up (h : Kept σ s) (n : Nat) : Kept σ ⟨s.next+n,s.obj⟩:=⟨Nat.le_trans h.next (Nat.le_add_right _ _),h.obj⟩
theorem IRowX.up (h : IRowX s lo v zs) (n : Nat) : IRowX ⟨s.next+n,s.obj⟩ lo v zs:=by
 rcases h with h | ⟨id,h1,h2,h3,h4⟩
 ·exact .inl h
 ·exact .inr ⟨id,h1,Nat.lt_of_lt_of_le h2 (Nat.le_add_right _ _),h3,h4⟩
theorem IRow.up (h : IRow s lo v zs) (n : Nat) : IRow ⟨s.next+n,s.obj⟩ lo v zs:=by
 rcases h with h | ⟨id,cs,h1,h2,h3,h4⟩
 ·exact .inl h
 ·exact .inr ⟨id,cs,h1,Nat.lt_of_lt_of_le h2 (Nat.le_add_right _ _),h3,h4⟩
theorem IRowX.kept (h : IRowX s lo v zs) (hk : Kept s t) : IRowX t lo v zs:=by
 rcases h with h | ⟨id,h1,h2,h3,h4⟩
 ·exact .inl h
 ·exact .inr ⟨id,h1,Nat.lt_of_lt_of_le h2 hk.next,h3,by rw [hk.obj id h2]; exact h4⟩
theorem IRow.kept (h : IRow s lo v zs) (hk : Kept s t) : IRow t lo v zs:=by
 rcases h with h | ⟨id,cs,h1,h2,h3,h4,h5⟩
 ·exact .inl h
 ·exact .inr ⟨id,cs,h1,Nat.lt_of_lt_of_le h2 hk.next,h3,by rw [hk.obj id h2]; exact h4,h5⟩
theorem Kept.low {k : Nat} (h : Kept ⟨σ.next+k,σ.obj⟩ s) : Kept σ s:=⟨Nat.le_trans (Nat.le_add_right _ k) h.next,fun i hi => h.obj i (Nat.lt_of_lt_of_le hi (Nat.le_add_right _ k))⟩
theorem IRowX.low {lo' : Nat} (h : IRowX s lo v zs) (hl : lo'≤lo) : IRowX s lo' v zs:=by
 rcases h with h | ⟨id,h1,h2⟩
 ·exact .inl h
 ·exact .inr ⟨id,Nat.le_trans hl h1,h2⟩
theorem IRow.low {lo' : Nat} (h : IRow s lo v zs) (hl : lo'≤lo) : IRow s lo' v zs:=by
 rcases h with h | ⟨id,cs,h1,h2⟩
 ·exact .inl h
 ·exact .inr ⟨id,cs,Nat.le_trans hl h1,h2⟩
theorem Kept.box (t : Store) (A B : IObj) : Kept t ⟨t.next+1,(((⟨t.next+1,t.obj⟩ : Store).put t.next A).put t.next B).obj⟩:=⟨Nat.le_succ _,fun i hi => by
 have h : ¬ i=t.next:=by omega
 show (if i=t.next then _ else if i=t.next then _ else t.obj i)=_
 rw [if_neg h,if_neg h]⟩
theorem box_push {gv : IV} {esz b nid k : Nat} {es : List (List IV)} {e cs : List IV} {A B : IObj} (hg : Grow s gv esz es) (h : ∀ x∈es,x.length=esz∧x.all IV.leaf=true) (he : e.length=esz∧e.all IV.leaf=true) (hn : es.length < 2147483648)
  (hb : s.obj b=some (.cells cs)) (hbl : b < s.next) (hnid : s.next < nid) :
  ∃ s1,appI ⟨s.next+1+k,(((⟨s.next+1,s.obj⟩ : Store).put s.next A).put s.next B).obj⟩ nid esz gv (.tslice [e])=some (.slice nid 0 (es.length+1) esz,s1)∧s1.next=s.next+1+k∧s1.obj b=some (.cells cs) ∧
   ∀ cs' nx,nid < nx→Grow ⟨nx,(s1.put b (.cells cs')).obj⟩ (.slice nid 0 (es.length+1) esz) esz (es ++ [e]):=by
 have ho : ∀ i,i < s.next→(((⟨s.next+1,s.obj⟩ : Store).put s.next A).put s.next B).obj i=s.obj i:=fun i hi => by
  show (if i=s.next then _ else if i=s.next then _ else s.obj i)=_
  rw [if_neg (by omega),if_neg (by omega)]
 have hg1 : Grow ⟨s.next+1+k,(((⟨s.next+1,s.obj⟩ : Store).put s.next A).put s.next B).obj⟩ gv esz es:=Grow.mono (σ:=s) hg (by show s.next≤s.next+1+k; omega) fun id _ hid => ho id hid
 have hb1 : (((⟨s.next+1,s.obj⟩ : Store).put s.next A).put s.next B).obj b=some (.cells cs):=by rw [ho b hbl,hb]
 refine ⟨_,app_grow hg1 h he hn,by rw [put_next,killv_next],?_,fun cs' nx hnx => ?_⟩
 ·rw [put_obj,if_neg (by omega)]
  exact killv_obj hg1 b _ hb1 (fun _ e => by cases e)
 ·refine Grow.new (v:=.nilslice) hnx ?_
  show (if nid=b then _ else if nid=nid then _ else _)=_
  rw [if_neg (by omega),if_pos rfl]
theorem app_kept (hk : Kept σ s) (h : IRowX s σ.next v zs) (n : Int) {a nid : Nat} (h1 : s.next≤nid) (h2 : nid < s.next+a) {cs : List IV} (hc : cs=(zs ++ [n]).map iv64) :
  Kept σ ((killv v ⟨s.next+a,s.obj⟩).put nid (.row cs))∧IRowX ((killv v ⟨s.next+a,s.obj⟩).put nid (.row cs)) σ.next (.slice nid 0 (zs.length+1) 1) (zs ++ [n]):=by
 subst hc
 have hn : (killv v ⟨s.next+a,s.obj⟩).next=s.next+a:=killv_next v
 refine ⟨⟨?_,fun i hi => ?_⟩,.inr ⟨nid,Nat.le_trans hk.next h1,?_,by rw [List.length_append,List.length_singleton],?_⟩⟩
 ·show σ.next≤(killv v _).next
  rw [hn]; exact Nat.le_trans hk.next (Nat.le_add_right _ _)
 ·have hne : i≠nid:=fun e => by have:=hk.next; omega
  show (if i=nid then _ else (killv v ⟨s.next+a,s.obj⟩).obj i)=_
  rw [if_neg hne,killv_low (h.up a) hi]
  exact hk.obj i hi
 ·show nid < (killv v _).next
  rw [hn]; exact h2
 ·show (if nid=nid then _ else _)=_
  rw [if_pos rfl]
end Go.Id
/- What holds of what is asked for: edits,states. Conditions: none; no program in sight. -/
namespace Go.Id.Md
open Go Go.Id
namespace AskM
variable (a : AskM)
theorem fulfils_now {j : Int} {s : List Int} (h : ∀ n,a.inst n=true→n∈s) (hk : (a.jb j).kind=3) : a.fulfils j s=true:=by
 unfold fulfils
 rw [Bool.or_eq_true]
 refine .inr ?_
 rw [if_neg (by omega),if_neg (by omega),if_pos hk,Bool.not_eq_true']
 refine Bool.eq_false_iff.2 fun hc => ?_
 obtain ⟨i,hi,h4⟩:=List.any_eq_true.1 hc
 have h5 : a.inst i=true:=by
  unfold meant at hi
  split at hi
  ·rw [if_neg (by omega),if_neg (by omega)] at hi
   exact (List.mem_filter.1 hi).2
  ·cases hi
 have h6 : some s (a.succs i)=true:=some_iff.2 ⟨i,(a.succs_self i).2 h5,h i h5⟩
 rw [h6] at h4; cases h4
theorem fulfils_none {j : Int} (hk : (a.jb j).kind=2) : a.fulfils j []=true:=by
 unfold fulfils
 rw [Bool.or_eq_true]
 refine .inr ?_
 rw [if_neg (by omega),if_pos hk,Bool.not_eq_true']
 unfold some
 exact List.any_eq_false.2 fun n _ h => by simp at h
/-! ### One edit more -/
variable (x : Edit)
variable {x} (hx : x.kind≠1)
include hx
end AskM
end Go.Id.Md
