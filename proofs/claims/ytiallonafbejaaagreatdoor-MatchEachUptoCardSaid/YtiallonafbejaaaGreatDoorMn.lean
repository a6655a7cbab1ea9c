/- Indexes, in plain words: who stands in them, by number. Conditions: none; no program in sight. -/
import Derived.Test.YtiallonafbejaaaGreatDoorMm
set_option linter.all false
namespace Go.Id.Md
open Go Go.Id
def numsOf (q : Package → Bool) (l : List Package) : List Int := ((List.range l.length).filter fun n => q (l.getD n default)).map fun (n : Nat) => (n : Int)
theorem numsOf_snoc (q : Package → Bool) (l : List Package) (p : Package) : numsOf q (l ++ [p]) = numsOf q l ++ if q p then [(l.length : Int)] else [] := by
 unfold numsOf
 rw [List.length_append, List.length_singleton, List.range_succ, List.filter_append, List.map_append]
 congr 1
 ·congr 1
  refine List.filter_congr fun n hn => ?_
  have h := List.mem_range.1 hn
  simp [List.getD_eq_getElem?_getD, List.getElem?_append, h]
 ·have e : (l ++ [p]).getD l.length default = p := by simp [List.getD_eq_getElem?_getD]
  simp only [List.filter_cons, List.filter_nil, e]
  split <;> rfl
theorem numsOf_mem {q : Package → Bool} {l : List Package} {n : Int} : n ∈ numsOf q l ↔ ∃ m : Nat, n = m ∧ m < l.length ∧ q (l.getD m default) = true := by
 unfold numsOf
 rw [List.mem_map]
 constructor
 ·rintro ⟨m, hm, rfl⟩
  obtain ⟨h1, h2⟩ := List.mem_filter.1 hm
  exact ⟨m, rfl, List.mem_range.1 h1, h2⟩
 ·rintro ⟨m, rfl, h1, h2⟩
  exact ⟨m, List.mem_filter.2 ⟨List.mem_range.2 h1, by simpa using h2⟩, rfl⟩
theorem numsOf_len (q : Package → Bool) (l : List Package) : (numsOf q l).length ≤ l.length := by
 unfold numsOf
 rw [List.length_map]
 exact Nat.le_trans (List.length_filter_le _ _) (by simp)
theorem numsOf_filter (q r : Package → Bool) (l : List Package) : (numsOf q l).filter (fun n => r (l.getD n.toNat default)) = numsOf (fun p => q p && r p) l := by
 unfold numsOf
 rw [List.filter_map, List.filter_filter]
 congr 1
 refine List.filter_congr fun n _ => ?_
 show (r (l.getD ((n : Int)).toNat default) && q (l.getD n default)) = _
 rw [Int.toNat_natCast, Bool.and_comm]
theorem numsOf_congr {q r : Package → Bool} {l : List Package} (h : ∀ p ∈ l, q p = r p) : numsOf q l = numsOf r l := by
 unfold numsOf
 congr 1
 refine List.filter_congr fun n hn => ?_
 have hlt := List.mem_range.1 hn
 refine h _ ?_
 rw [List.getD_eq_getElem?_getD, List.getElem?_eq_getElem hlt]
 exact List.getElem_mem hlt
theorem numsOf_up (q : Package → Bool) (l : List Package) : (numsOf q l).Pairwise (· < ·) := by
 unfold numsOf
 refine List.Pairwise.map (R := fun (a b : Nat) => a < b) _ (fun a b h => by show (a : Int) < b; omega) ?_
 exact List.Pairwise.filter _ List.pairwise_lt_range
theorem addAll_look {n : Int} : ∀ (ks : List Str) {nm : Nms}, KN nm → ks.Nodup → ∀ j, nmLook (addAll nm ks n) j = nmLook nm j ++ if j ∈ ks then [n] else [] := by
 intro ks
 induction ks with
 | nil => intro nm _ _ j; simp [addAll]
 | cons k ks ih =>
  intro nm h hnd j
  obtain ⟨h1, h2⟩ := List.nodup_cons.1 hnd
  show nmLook (addAll (nmAdd nm k n) ks n) j = _
  rw [ih (nmAdd_kn h) h2, nmLook_add h]
  by_cases e : j = k
  ·subst e; simp [h1]
  ·simp [e]
theorem overAll_kn {n : Int} : ∀ (ks : List Str) {nm : Nms}, KN nm → KN (overAll nm ks n) := by
 intro ks
 induction ks with
 | nil => intro nm h; exact h
 | cons k ks ih =>
  intro nm h
  show KN (overAll (if n ∈ nmLook nm k then nm else nmAdd nm k n) ks n)
  split
  ·exact ih h
  ·exact ih (nmAdd_kn h)
theorem overAll_look {n : Int} : ∀ (ks : List Str) {nm : Nms}, KN nm → ∀ j, nmLook (overAll nm ks n) j = nmLook nm j ++ if j ∈ ks ∧ n ∉ nmLook nm j then [n] else [] := by
 intro ks
 induction ks with
 | nil => intro nm _ j; simp [overAll]
 | cons k ks ih =>
  intro nm h j
  show nmLook (overAll (if n ∈ nmLook nm k then nm else nmAdd nm k n) ks n) j = _
  by_cases hk : n ∈ nmLook nm k
  ·rw [if_pos hk, ih h]
   by_cases e : j = k
   ·subst e; simp [hk]
   ·simp [e]
  ·rw [if_neg hk, ih (nmAdd_kn h), nmLook_add h]
   by_cases e : j = k
   ·subst e; simp [hk]
   ·simp [e]
theorem offAdd_mem {l : List Str} {k j : Str} : j ∈ offAdd l k ↔ j ∈ l ∨ j = k := by
 unfold offAdd
 split
 ·rename_i h; exact ⟨.inl, fun h' => h'.elim id fun e => e ▸ h⟩
 ·simp
theorem offFold_mem {j : Str} : ∀ (ks l : List Str), j ∈ ks.foldl offAdd l ↔ j ∈ l ∨ j ∈ ks := by
 intro ks
 induction ks with
 | nil => intro l; simp
 | cons k ks ih => intro l; rw [List.foldl_cons, ih, offAdd_mem, List.mem_cons, or_assoc]
theorem offAdd_nd' {l : List Str} (h : l.Nodup) (k : Str) : (offAdd l k).Nodup := by
 unfold offAdd
 split
 ·exact h
 ·rename_i hk
  rw [List.nodup_append]
  exact ⟨h, by simp, fun a ha b hb e => by simp at hb; subst hb; subst e; exact hk ha⟩
theorem offFold_nd' : ∀ (ks : List Str) {l : List Str}, l.Nodup → (ks.foldl offAdd l).Nodup
 | [], _, h => h
 | k :: ks, _, h => offFold_nd' ks (offAdd_nd' h k)
theorem offK_nd' (p : Package) : (offK p).Nodup := offFold_nd' _ (offFold_nd' _ (by simp))
theorem offK_mem (p : Package) (j : Str) : j ∈ offK p ↔ j = p.name ∨ (∃ d ∈ p.provides, d.name = j) ∨ j ∈ p.files := by
 unfold offK
 rw [offFold_mem, offFold_mem]
 simp [or_assoc]
structure IdxIs (x : Index) (l : List Package) : Prop where
 all : x.all = l
 kp : KN x.prov
 kn : KN x.names
 ko : KN x.over
 prov : ∀ j, nmLook x.prov j = numsOf (fun p => decide (j ∈ offK p)) l
 names : ∀ j, nmLook x.names j = numsOf (fun p => decide (p.name = j)) l
 over : ∀ j, nmLook x.over j = numsOf (fun p => decide (∃ d ∈ p.obsoletes, d.name = j)) l
theorem IdxIs.add {x : Index} {l : List Package} (h : IdxIs x l) (p : Package) : IdxIs (idxAdd x l.length p) (l ++ [p]) where
 all := by show x.all ++ [p] = _; rw [h.all]
 kp := addAll_kn h.kp
 kn := nmAdd_kn h.kn
 ko := overAll_kn _ h.ko
 prov := fun j => by
  show nmLook (addAll x.prov (offK p) _) j = _
  rw [addAll_look _ h.kp (offK_nd' p), h.prov, numsOf_snoc]
  simp
 names := fun j => by
  show nmLook (nmAdd x.names p.name _) j = _
  rw [nmLook_add h.kn, h.names, h.names, numsOf_snoc]
  by_cases e : j = p.name
  ·subst e; simp
  ·have e' : ¬ p.name = j := fun h => e h.symm
   simp [e, e']
 over := fun j => by
  show nmLook (overAll x.over _ _) j = _
  rw [overAll_look _ h.ko, h.over, numsOf_snoc]
  have hn : (l.length : Int) ∉ numsOf (fun p => decide (∃ d ∈ p.obsoletes, d.name = j)) l := fun hm => by
   obtain ⟨m, e, h1, _⟩ := numsOf_mem.1 hm
   omega
  simp [hn]
theorem idxFrom_is : ∀ (ps : List Package) {x : Index} {l : List Package}, IdxIs x l → IdxIs (idxFrom x l.length ps) (l ++ ps) := by
 intro ps
 induction ps with
 | nil => intro x l h; rw [List.append_nil]; exact h
 | cons p ps ih =>
  intro x l h
  have := ih (h.add p)
  rw [List.append_assoc] at this
  simpa [idxFrom] using this
theorem idxM_is (l : List Package) : IdxIs (idxM l) l := by
 have h0 : IdxIs ⟨[], [], [], []⟩ [] := ⟨rfl, List.nodup_nil, List.nodup_nil, List.nodup_nil, fun _ => by simp [nmLook, numsOf], fun _ => by simp [nmLook, numsOf], fun _ => by simp [nmLook, numsOf]⟩
 exact idxFrom_is l h0
/-! ### Who provides -/
theorem named_off {p : Package} {d : Dep} (h : named p d = true) : p.name = d.name := by
 unfold named meets own at h
 simp only [Bool.and_eq_true, decide_eq_true_eq] at h
 exact h.1
theorem provides_off {p : Package} {d : Dep} (h : provides p d = true) : d.name ∈ offK p := by
 unfold provides at h
 rw [offK_mem]
 simp only [Bool.or_eq_true, Bool.and_eq_true, decide_eq_true_eq, List.any_eq_true] at h
 rcases h with (h | ⟨a, ha, h⟩) | ⟨_, h⟩
 ·exact .inl (named_off h).symm
 ·unfold meets at h
  simp only [Bool.and_eq_true, decide_eq_true_eq] at h
  exact .inr (.inl ⟨a, ha, h.1⟩)
 ·exact .inr (.inr (by simpa using h))
theorem meet_any (a : Dep) (k : Str) (e : EVR) : meet a ⟨k, 0, e⟩ = true := by
 unfold meet; simp
theorem provides_any {p : Package} {d : Dep} (e : EVR) (h : provides p d = true) : provides p ⟨d.name, 0, e⟩ = true := by
 unfold provides named meets at h ⊢
 simp only [Bool.or_eq_true, Bool.and_eq_true, decide_eq_true_eq, List.any_eq_true] at h ⊢
 rcases h with (h | ⟨a, ha, h⟩) | ⟨_, h⟩
 ·exact .inl (.inl ⟨h.1, meet_any _ _ _⟩)
 ·exact .inl (.inr ⟨a, ha, h.1, meet_any _ _ _⟩)
 ·exact .inr ⟨trivial, h⟩
theorem named_any {p : Package} {d : Dep} (e : EVR) (h : named p d = true) : named p ⟨d.name, 0, e⟩ = true := by
 unfold named meets at h ⊢
 simp only [Bool.and_eq_true, decide_eq_true_eq] at h ⊢
 exact ⟨h.1, meet_any _ _ _⟩
theorem named_provides {p : Package} {d : Dep} (h : named p d = true) : provides p d = true := by
 unfold provides; rw [h]; rfl
def providersM (l : List Package) (d : Dep) : List Int := numsOf (fun p => provides p d) l
def namedM (l : List Package) (d : Dep) : List Int := numsOf (fun p => named p d) l
theorem providers_eq (l : List Package) (d : Dep) : (nmLook (idxM l).prov d.name).filter (fun n => provides (l.getD n.toNat default) d) = providersM l d := by
 rw [(idxM_is l).prov]
 refine (numsOf_filter (fun p => decide (d.name ∈ offK p)) (fun p => provides p d) l).trans ?_
 exact numsOf_congr fun p _ => by
  cases h : provides p d with
  | false => simp
  | true => simp [provides_off h]
theorem named_eq (l : List Package) (d : Dep) : (nmLook (idxM l).names d.name).filter (fun n => named (l.getD n.toNat default) d) = namedM l d := by
 rw [(idxM_is l).names]
 refine (numsOf_filter (fun p => decide (p.name = d.name)) (fun p => named p d) l).trans ?_
 exact numsOf_congr fun p _ => by
  cases h : named p d with
  | false => simp
  | true => simp [named_off h]
end Go.Id.Md
