/- What is asked for,in plain words: successors,newcomers,whom a job means,what fulfils it. Conditions: none; no program in sight. -/
import Derived.Test.YtiallonafbejaaaGreatDoorMm
import Derived.Test.YtiallonafbejaaaGreatDoorFwWk
set_option linter.all false
namespace Go.Id.Md
open Go Go.Id
structure Job where
 kind : Int
 dep : Dep
 deriving DecidableEq,Inhabited
structure Edit where
 kind : Int
 n : Int
 deriving DecidableEq,Inhabited
structure Req where
 arch : Int
 vendor : Bool
 jobs : List Job
 edits : List Edit
 budget : Int
def Job.cs (j : Job) : List IV:=[.int .u8 j.kind,.str j.dep.name,.int .u8 j.dep.op,.int .i64 j.dep.evr.epoch,.str j.dep.evr.ver,.str j.dep.evr.rel]
def Edit.cs (e : Edit) : List IV:=[.int .u8 e.kind,.int .i64 e.n]
abbrev jobsV (l : List Job) : IV:=.tslice (l.map Job.cs)
abbrev editsV (l : List Edit) : IV:=.tslice (l.map Edit.cs)
def Req.cs (r : Req) : List IV:=[.int .u8 r.arch,.bool r.vendor,jobsV r.jobs,editsV r.edits,.int .i64 r.budget]
/-! ### Numbers for which something holds -/
def numsN (q : Nat→Bool) (k : Nat) : List Int:=((List.range k).filter q).map fun (n : Nat) => (n : Int)
theorem numsN_snoc (q : Nat→Bool) (k : Nat) : numsN q (k+1)=numsN q k ++ if q k then [(k : Int)] else []:=by
 unfold numsN
 rw [List.range_succ,List.filter_append,List.map_append]
 congr 1
 simp only [List.filter_cons,List.filter_nil]
 split <;> rfl
theorem numsN_mem {q : Nat→Bool} {k : Nat} {n : Int} : n∈numsN q k ↔ ∃ m : Nat,n=m∧m < k∧q m=true:=by
 unfold numsN
 rw [List.mem_map]
 constructor
 ·rintro ⟨m,hm,rfl⟩
  obtain ⟨h1,h2⟩:=List.mem_filter.1 hm
  exact ⟨m,rfl,List.mem_range.1 h1,h2⟩
 ·rintro ⟨m,rfl,h1,h2⟩
  exact ⟨m,List.mem_filter.2 ⟨List.mem_range.2 h1,h2⟩,rfl⟩
theorem numsN_len (q : Nat→Bool) (k : Nat) : (numsN q k).length≤k:=by
 unfold numsN
 rw [List.length_map]
 exact Nat.le_trans (List.length_filter_le _ _) (by simp)
theorem numsN_up (q : Nat→Bool) (k : Nat) : (numsN q k).Pairwise (· < ·):=by
 unfold numsN
 refine List.Pairwise.map (R:=fun (a b : Nat) => a < b) _ (fun a b h => by show (a : Int) < b; omega) ?_
 exact List.Pairwise.filter _ List.pairwise_lt_range
theorem numsN_congr {q r : Nat→Bool} {k : Nat} (h : ∀ n,n < k→q n=r n) : numsN q k=numsN r k:=by
 unfold numsN
 congr 1
 exact List.filter_congr fun n hn => h n (List.mem_range.1 hn)
/-! ### Architectures -/
def machM (a : Int) : Bool:=archOK a && !decide (a=1)
def apartM (a b : Int) : Bool:=machM a && machM b && !decide (a=b)
def followsM (a b : Int) : Bool:=archOK a && archOK b && !apartM a b
def scoreM (m a : Int) : Int :=
 if m=2 then (if a=1 then 2 else if a=2 then 1 else if a=3 then 3 else 0) else
 if m=3 then (if a=1 then 2 else if a=3 then 1 else 0) else
 if m=4 then (if a=1 then 2 else if a=4 then 1 else 0) else 0
def fitsA (m a : Int) : Bool:=decide (0 < scoreM m a)
/-! ### What is asked for -/
structure AskM where
 p : Pool
 r : Req
namespace AskM
variable (a : AskM)
def l : List Package:=pkgsOf a.p
def pk (n : Int) : Package:=a.l.getD n.toNat default
def jb (n : Int) : Job:=a.r.jobs.getD n.toNat default
def is (n : Int) : Bool:=decide (0≤n) && decide (n < a.l.length)
def inst (n : Int) : Bool:=a.is n && decide (n < a.p.inst)
def job (n : Int) : Bool:=decide (0≤n) && decide (n < a.r.jobs.length)
def fits (n : Int) : Bool:=a.is n && fitsA a.r.arch (a.pk n).arch
def twinsP (p q : Package) : Bool:=decide (p.name=q.name) && !(apartM p.arch q.arch && decide (evrCmp p.evr q.evr=0))
def twins (n m : Int) : Bool:=a.is n && a.is m && !decide (n=m) && twinsP (a.pk n) (a.pk m)
def edited (k n : Int) : Bool:=decide ((⟨k,n⟩ : Edit)∈a.r.edits)
def dropped (n : Int) : Bool:=a.job n && a.edited 1 n
def namedBy (k n : Int) : Bool:=(List.range a.r.jobs.length).any fun i => decide ((a.jb i).kind=k) && !a.dropped i && decide (n∈namedM a.l (a.jb i).dep)
def goes (i : Int) : Bool:=a.inst i && (a.namedBy 2 i || a.edited 2 i)
def follP (vendor down other : Bool) (old q : Package) : Bool:=decide (q.name=old.name) && (down || decide (0≤evrCmp q.evr old.evr)) && (other || followsM q.arch old.arch) && (vendor || decide (q.vendor=old.vendor))
def foll (i : Int) (q : Package) : Bool:=follP a.r.vendor (a.edited 3 i || a.namedBy 4 i) (a.edited 4 i) (a.pk i) q
def succs (i : Int) : List Int:=if a.inst i then numsN (fun n => decide ((n : Int)=i) || a.foll i (a.pk n) || (!decide ((n : Int)=i) && obsoletes (a.pk n) (a.pk i))) a.l.length else []
def meant (j : Int) : List Int:=if a.job j then (if (a.jb j).kind=1 then providersM a.l (a.jb j).dep else if (a.jb j).kind=2 then namedM a.l (a.jb j).dep else (namedM a.l (a.jb j).dep).filter fun n => a.inst n) else []
def some (state l : List Int) : Bool:=l.any fun n => decide (n∈state)
def cs : List IV:=[a.p.v,(idxM a.l).v,.int .u8 a.r.arch,.bool a.r.vendor,jobsV a.r.jobs,editsV a.r.edits,.int .i64 a.r.budget,.tslice (a.l.map Package.cs)]
def v : IV:=.tptr a.cs
end AskM
def editMay (e : Edit) (jobs inst : Int) : Bool:=decide (1≤e.kind) && decide (e.kind≤4) && decide (0≤e.n) && decide (e.n < if e.kind=1 then jobs else inst)
def jobMay (j : Job) : Bool:=decide (1≤j.kind) && decide (j.kind≤4) && depMay j.dep
def reqErr (r : Req) (inst : Int) : Int :=
 if machM r.arch=false ∨ r.budget < 0 ∨ 1099511627776 < r.budget then 1 else
 if 64 < r.jobs.length ∨ 64 < r.edits.length then 40 else
 if r.jobs.all jobMay=false then 4 else
 if r.edits.all (fun e => editMay e r.jobs.length inst)=false then 5 else 0
def askV (p : Pool) (r : Req) : IV:=if reqErr r p.inst=0 then .tuple [(AskM.mk p r).v,.int .i64 0] else .tuple [.nilptr,.int .i64 (reqErr r p.inst)]
/-! ### Versions,turned about -/
/-! ### What holds of it -/
namespace AskM
variable (a : AskM)
theorem is_nat (n : Nat) : a.is n=decide (n < a.l.length):=by
 unfold is
 have : (0 : Int)≤n:=by omega
 simp only [this,decide_true,Bool.true_and]
 exact decide_eq_decide.2 (by omega)
theorem succs_up (i : Int) : (a.succs i).Pairwise (· < ·):=by
 unfold succs
 split
 ·exact numsN_up _ _
 ·exact .nil
theorem succs_len (i : Int) : (a.succs i).length≤a.l.length:=by
 unfold succs
 split
 ·exact numsN_len _ _
 ·exact Nat.zero_le _
end AskM
end Go.Id.Md
/- Rows of numbers that a call lays: one's own,and of what length. Conditions: none; over any program. -/
namespace Go.Id
open Go Go.Id.Md
variable {P : Program} {E : Nat→IV} {σ s t : Store} {v : IV} {zs : List Int} {lo : Nat}
abbrev iv64 (n : Int) : IV:=.int .i64 n
def IRow (s : Store) (lo : Nat) (v : IV) (zs : List Int) : Prop :=
 (v=.nilslice∧zs=[]) ∨ ∃ id cs,lo≤id∧id < s.next∧v=.slice id 0 zs.length 1∧s.obj id=some (.row cs)∧cs.take zs.length=zs.map iv64∧zs.length≤cs.length
def IRowX (s : Store) (lo : Nat) (v : IV) (zs : List Int) : Prop :=
 (v=.nilslice∧zs=[]) ∨ ∃ id,lo≤id∧id < s.next∧v=.slice id 0 zs.length 1∧s.obj id=some (.row (zs.map iv64))
theorem IRowX.w (h : IRowX s lo v zs) : IRow s lo v zs:=by
 rcases h with h | ⟨id,h1,h2,h3,h4⟩
 ·exact .inl h
 ·exact .inr ⟨id,_,h1,h2,h3,h4,by rw [List.take_of_length_le (by simp)],by simp⟩
structure Kept (σ s : Store) : Prop where
 next : σ.next≤s.next
 obj : ∀ i,i < σ.next→s.obj i=σ.obj i
theorem Kept.refl (σ : Store) : Kept σ σ:=⟨Nat.le_refl _,fun _ _ => rfl⟩
theorem Kept.trans (h : Kept σ s) (h2 : Kept s t) : Kept σ t:=⟨Nat.le_trans h.next h2.next,fun i hi => by rw [h2.obj i (Nat.lt_of_lt_of_le hi h.next),h.obj i hi]⟩
def IOut (σ : Store) (zs : List Int) (v : IV) (s : Store) : Prop:=Kept σ s∧IRow s σ.next v zs
def IOutX (σ : Store) (zs : List Int) (v : IV) (s : Store) : Prop:=Kept σ s∧IRowX s σ.next v zs
theorem IOutX.w (h : IOutX σ zs v s) : IOut σ zs v s:=⟨h.1,h.2.w⟩
theorem row_get {cs : List IV} (h : cs.take zs.length=zs.map iv64) {i : Nat} (hi : i < zs.length) : cs.getD i .undef=iv64 zs[i]:=by
 have h1 : (cs.take zs.length)[i]? = (zs.map iv64)[i]?:=by rw [h]
 rw [List.getElem?_take,if_pos hi,List.getElem?_map,List.getElem?_eq_getElem hi] at h1
 rw [List.getD_eq_getElem?_getD,h1]; rfl
theorem IRow.frz {S : Nat→Prop} (h : IRow s lo v zs) (hS : ∀ i,lo≤i→¬ S i) : Frz s S v (.tslice (zs.map Md.intC)):=by
 rcases h with ⟨rfl,rfl⟩ | ⟨id,cs,h1,h2,rfl,h4,h5,h6⟩
 ·exact .nils
 ·refine .slice id 0 zs.length 1 cs (zs.map Md.intC) (hS id h1) (.inr h4) (by rw [List.length_map]) (by omega) (fun i hi => ?_) fun i hi j hj => ?_
  ·simp [List.getD_eq_getElem?_getD,hi,Md.intC]
  ·have hj0 : j=0:=by omega
   subst hj0
   have e2 : ((zs.map Md.intC).getD i []).getD 0 .undef=iv64 zs[i]:=by simp [List.getD_eq_getElem?_getD,hi,Md.intC]
   rw [e2,Nat.zero_add,Nat.mul_one,Nat.add_zero,row_get h5 hi]
   exact .keep _ (.int _ _)
theorem PC_out {f : Nat} {args : List IV} (h : ∀ σ,C P E f args σ (IOut σ zs)) : PC P E f args (.tslice (zs.map Md.intC)) :=
 PC_frz fun σ _ => (h σ).mono fun v s ⟨h1,h2⟩ => ⟨h1.obj,h1.next,h2.frz fun i hi hl => Nat.lt_irrefl _ (Nat.lt_of_lt_of_le hl hi)⟩
theorem IRowX.grow (h : Grow s v 1 (zs.map Md.intC)) (hlo : ∀ id,v=.slice id 0 zs.length 1→lo≤id) : IRowX s lo v zs:=by
 have hfl : ∀ zs : List Int,(zs.map Md.intC).flatten=zs.map iv64:=fun zs => by
  induction zs with
  | nil => rfl
  | cons z zs ih => simp only [List.map_cons,List.flatten_cons,ih]; rfl
 rcases h with ⟨rfl,h⟩ | ⟨id,rfl,ho,hid⟩
 ·exact .inl ⟨rfl,List.map_eq_nil_iff.1 h⟩
 ·rw [List.length_map] at hlo
  exact .inr ⟨id,hlo id rfl,hid,by rw [List.length_map],by rw [ho,hfl]⟩
theorem IRowX.gr (h : IRowX s lo v zs) : Grow s v 1 (zs.map Md.intC):=by
 have hfl : ∀ zs : List Int,(zs.map Md.intC).flatten=zs.map iv64:=fun zs => by
  induction zs with
  | nil => rfl
  | cons z zs ih => simp only [List.map_cons,List.flatten_cons,ih]; rfl
 rcases h with ⟨rfl,rfl⟩ | ⟨id,h1,h2,rfl,ho⟩
 ·exact .inl ⟨rfl,rfl⟩
 ·exact .inr ⟨id,by rw [List.length_map],by rw [ho,hfl],h2⟩
theorem app_one {nid : Nat} (h : IRowX s lo v zs) (n : Int) (hn : zs.length < 2147483648) :
  appI s nid 1 v (.tslice [[.int .i64 n]])=some (.slice nid 0 (zs.length+1) 1,(killv v s).put nid (.row ((zs ++ [n]).map iv64))):=by
 have hg:=app_grow (nid:=nid) (e:=[.int .i64 n]) h.gr (fun x hx => by obtain ⟨y,_,rfl⟩:=List.mem_map.1 hx; exact ⟨rfl,rfl⟩) ⟨rfl,rfl⟩ (by rw [List.length_map]; exact hn)
 rw [hg,List.length_map]
 congr 4
 rw [List.flatten_append,List.map_append]
 congr 1
 generalize zs=l
 induction l with
 | nil => rfl
 | cons z zs ih => simp only [List.map_cons,List.flatten_cons,ih]; rfl
theorem killv_low (h : IRowX s lo v zs) {i : Nat} (hi : i < lo) : (killv v s).obj i=s.obj i:=by
 rcases h with ⟨rfl,_⟩ | ⟨id,h1,h2,rfl,ho⟩
 ·rfl
 ·show (if i=id then none else s.obj i)=s.obj i
  rw [if_neg (by omega)]
theorem Kept.up (h : Kept σ s) (n : Nat) : Kept σ ⟨s.next+n,s.obj⟩:=⟨Nat.le_trans h.next (Nat.le_add_right _ _),h.obj⟩
theorem IRowX.up (h : IRowX s lo v zs) (n : Nat) : IRowX ⟨s.next+n,s.obj⟩ lo v zs:=by
 rcases h with h | ⟨id,h1,h2,h3,h4⟩
 ·exact .inl h
 ·exact .inr ⟨id,h1,Nat.lt_of_lt_of_le h2 (Nat.le_add_right _ _),h3,h4⟩
theorem IRow.up (h : IRow s lo v zs) (n : Nat) : IRow ⟨s.next+n,s.obj⟩ lo v zs:=by
 rcases h with h | ⟨id,cs,h1,h2,h3,h4⟩
 ·exact .inl h
 ·exact .inr ⟨id,cs,h1,Nat.lt_of_lt_of_le h2 (Nat.le_add_right _ _),h3,h4⟩
theorem IRowX.kept (h : IRowX s lo v zs) (hk : Kept s t) : IRowX t lo v zs:=by
 rcases h with h | ⟨id,h1,h2,h3,h4⟩
 ·exact .inl h
 ·exact .inr ⟨id,h1,Nat.lt_of_lt_of_le h2 hk.next,h3,by rw [hk.obj id h2]; exact h4⟩
theorem IRow.kept (h : IRow s lo v zs) (hk : Kept s t) : IRow t lo v zs:=by
 rcases h with h | ⟨id,cs,h1,h2,h3,h4,h5⟩
 ·exact .inl h
 ·exact .inr ⟨id,cs,h1,Nat.lt_of_lt_of_le h2 hk.next,h3,by rw [hk.obj id h2]; exact h4,h5⟩
theorem Kept.low {k : Nat} (h : Kept ⟨σ.next+k,σ.obj⟩ s) : Kept σ s:=⟨Nat.le_trans (Nat.le_add_right _ k) h.next,fun i hi => h.obj i (Nat.lt_of_lt_of_le hi (Nat.le_add_right _ k))⟩
theorem IRowX.low {lo' : Nat} (h : IRowX s lo v zs) (hl : lo'≤lo) : IRowX s lo' v zs:=by
 rcases h with h | ⟨id,h1,h2⟩
 ·exact .inl h
 ·exact .inr ⟨id,Nat.le_trans hl h1,h2⟩
theorem IRow.low {lo' : Nat} (h : IRow s lo v zs) (hl : lo'≤lo) : IRow s lo' v zs:=by
 rcases h with h | ⟨id,cs,h1,h2⟩
 ·exact .inl h
 ·exact .inr ⟨id,cs,Nat.le_trans hl h1,h2⟩
theorem Kept.box (t : Store) (A B : IObj) : Kept t ⟨t.next+1,(((⟨t.next+1,t.obj⟩ : Store).put t.next A).put t.next B).obj⟩:=⟨Nat.le_succ _,fun i hi => by
 have h : ¬ i=t.next:=by omega
 show (if i=t.next then _ else if i=t.next then _ else t.obj i)=_
 rw [if_neg h,if_neg h]⟩
theorem box_push {gv : IV} {esz b nid k : Nat} {es : List (List IV)} {e cs : List IV} {A B : IObj} (hg : Grow s gv esz es) (h : ∀ x∈es,x.length=esz∧x.all IV.leaf=true) (he : e.length=esz∧e.all IV.leaf=true) (hn : es.length < 2147483648)
  (hb : s.obj b=some (.cells cs)) (hbl : b < s.next) (hnid : s.next < nid) :
  ∃ s1,appI ⟨s.next+1+k,(((⟨s.next+1,s.obj⟩ : Store).put s.next A).put s.next B).obj⟩ nid esz gv (.tslice [e])=some (.slice nid 0 (es.length+1) esz,s1)∧s1.next=s.next+1+k∧s1.obj b=some (.cells cs) ∧
   ∀ cs' nx,nid < nx→Grow ⟨nx,(s1.put b (.cells cs')).obj⟩ (.slice nid 0 (es.length+1) esz) esz (es ++ [e]):=by
 have ho : ∀ i,i < s.next→(((⟨s.next+1,s.obj⟩ : Store).put s.next A).put s.next B).obj i=s.obj i:=fun i hi => by
  show (if i=s.next then _ else if i=s.next then _ else s.obj i)=_
  rw [if_neg (by omega),if_neg (by omega)]
 have hg1 : Grow ⟨s.next+1+k,(((⟨s.next+1,s.obj⟩ : Store).put s.next A).put s.next B).obj⟩ gv esz es:=Grow.mono (σ:=s) hg (by show s.next≤s.next+1+k; omega) fun id _ hid => ho id hid
 have hb1 : (((⟨s.next+1,s.obj⟩ : Store).put s.next A).put s.next B).obj b=some (.cells cs):=by rw [ho b hbl,hb]
 refine ⟨_,app_grow hg1 h he hn,by rw [put_next,killv_next],?_,fun cs' nx hnx => ?_⟩
 ·rw [put_obj,if_neg (by omega)]
  exact killv_obj hg1 b _ hb1 (fun _ e => by cases e)
 ·refine Grow.new (v:=.nilslice) hnx ?_
  show (if nid=b then _ else if nid=nid then _ else _)=_
  rw [if_neg (by omega),if_pos rfl]
theorem app_kept (hk : Kept σ s) (h : IRowX s σ.next v zs) (n : Int) {a nid : Nat} (h1 : s.next≤nid) (h2 : nid < s.next+a) {cs : List IV} (hc : cs=(zs ++ [n]).map iv64) :
  Kept σ ((killv v ⟨s.next+a,s.obj⟩).put nid (.row cs))∧IRowX ((killv v ⟨s.next+a,s.obj⟩).put nid (.row cs)) σ.next (.slice nid 0 (zs.length+1) 1) (zs ++ [n]):=by
 subst hc
 have hn : (killv v ⟨s.next+a,s.obj⟩).next=s.next+a:=killv_next v
 refine ⟨⟨?_,fun i hi => ?_⟩,.inr ⟨nid,Nat.le_trans hk.next h1,?_,by rw [List.length_append,List.length_singleton],?_⟩⟩
 ·show σ.next≤(killv v _).next
  rw [hn]; exact Nat.le_trans hk.next (Nat.le_add_right _ _)
 ·have hne : i≠nid:=fun e => by have:=hk.next; omega
  show (if i=nid then _ else (killv v ⟨s.next+a,s.obj⟩).obj i)=_
  rw [if_neg hne,killv_low (h.up a) hi]
  exact hk.obj i hi
 ·show nid < (killv v _).next
  rw [hn]; exact h2
 ·show (if nid=nid then _ else _)=_
  rw [if_pos rfl]
end Go.Id
/- What holds of what is asked for: edits,states. Conditions: none; no program in sight. -/
namespace Go.Id.Md
open Go Go.Id
namespace AskM
variable (a : AskM)
/-! ### One edit more -/
variable (x : Edit)
def more : AskM:=⟨a.p,{ a.r with edits:=a.r.edits ++ [x] }⟩
theorem more_l : (a.more x).l=a.l:=rfl
theorem more_edited (k n : Int) : (a.more x).edited k n=(a.edited k n || decide (x=⟨k,n⟩)):=by
 unfold edited
 have e : ((⟨k,n⟩ : Edit)∈(a.more x).r.edits) ↔ ((⟨k,n⟩ : Edit)∈a.r.edits ∨ x=⟨k,n⟩):=by
  show (_∈a.r.edits ++ [x]) ↔ _
  rw [List.mem_append,List.mem_singleton]
  exact or_congr Iff.rfl eq_comm
 simp only [e,Bool.decide_or]
theorem more_dropped (j : Int) : (a.more x).dropped j=(a.dropped j || (a.job j && decide (x=⟨1,j⟩))):=by
 unfold dropped
 rw [more_edited]
 show (a.job j && _)=_
 cases a.job j <;> simp
theorem more_meant (j : Int) : (a.more x).meant j=a.meant j:=rfl
variable {x} (hx : x.kind≠1)
include hx
theorem more_dropped1 (j : Int) : (a.more x).dropped j=a.dropped j:=by
 have e : decide (x=(⟨1,j⟩ : Edit))=false:=decide_eq_false fun h => hx (by rw [h])
 rw [more_dropped,e]; simp
theorem more_namedBy (k n : Int) : (a.more x).namedBy k n=a.namedBy k n:=by
 unfold namedBy
 show (List.range a.r.jobs.length).any _=_
 congr 1
 funext i
 rw [more_dropped1 a hx]
 rfl
theorem more_goes (i : Int) : (a.more x).goes i=(a.goes i || (a.inst i && decide (x=⟨2,i⟩))):=by
 unfold goes
 rw [more_namedBy a hx,more_edited]
 show (a.inst i && _)=_
 cases a.inst i <;> simp [Bool.or_assoc]
theorem more_goes_mono {i : Int} (h : a.goes i=true) : (a.more x).goes i=true:=by
 rw [more_goes a hx,h]; rfl
theorem more_goes_off {i : Int} (h : i≠x.n) : (a.more x).goes i=a.goes i:=by
 have e : decide (x=(⟨2,i⟩ : Edit))=false:=decide_eq_false fun e => h (by rw [e])
 rw [more_goes a hx,e]; simp
theorem more_succs_off {i : Int} (h : i≠x.n) : (a.more x).succs i=a.succs i:=by
 have e : ∀ k,decide (x=(⟨k,i⟩ : Edit))=false:=fun k => decide_eq_false fun e => h (by rw [e])
 unfold succs
 show (if a.inst i=true then _ else _)=_
 congr 1
 refine numsN_congr fun n _ => ?_
 congr 2
 unfold foll
 rw [more_edited,more_edited,more_namedBy a hx,e,e,Bool.or_false,Bool.or_false]
 rfl
theorem more_succs_mono {i n : Int} (h : n∈a.succs i) : n∈(a.more x).succs i:=by
 unfold succs at h ⊢
 show n∈(if a.inst i=true then _ else _)
 split at h
 ·rename_i hi
  rw [if_pos hi]
  obtain ⟨m,e,h1,h2⟩:=numsN_mem.1 h
  refine numsN_mem.2 ⟨m,e,h1,?_⟩
  rw [Bool.or_eq_true,Bool.or_eq_true] at h2 ⊢
  refine h2.imp (fun h => h.imp id fun h => ?_) id
  unfold foll at h ⊢
  rw [more_edited,more_edited,more_namedBy a hx]
  show follP a.r.vendor _ _ (a.pk i) (a.pk m)=true
  unfold follP at h ⊢
  simp only [Bool.and_eq_true,Bool.or_eq_true] at h ⊢
  obtain ⟨⟨⟨h1,h2⟩,h3⟩,h4⟩:=h
  refine ⟨⟨⟨h1,?_⟩,?_⟩,h4⟩
  ·rcases h2 with (h2 | h2) | h2
   ·exact .inl (.inl (.inl h2))
   ·exact .inl (.inr h2)
   ·exact .inr h2
  ·rcases h3 with h3 | h3
   ·exact .inl (.inl h3)
   ·exact .inr h3
 ·cases h
theorem more_goes_new (h : x.kind=2) (hi : a.inst x.n=true) : (a.more x).goes x.n=true:=by
 have e : decide (x=(⟨2,x.n⟩ : Edit))=true:=decide_eq_true (by cases x; simp_all)
 rw [more_goes a hx,hi,e]; simp
end AskM
end Go.Id.Md
