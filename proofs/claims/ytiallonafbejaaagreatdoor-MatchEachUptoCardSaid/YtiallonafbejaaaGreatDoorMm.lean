/- Indexes, in plain words: names with their numbers, in whatever row. Conditions: none; no program in sight. -/
import Derived.Test.YtiallonafbejaaaGreatDoorMd
set_option linter.all false
namespace Go.Id.Md
open Go Go.Id
def nmLook : Nms → Str → List Int
 | [], _ => []
 | t :: ts, k => if k = t.1 then t.2 else nmLook ts k
def KN (nm : Nms) : Prop := (nm.map (·.1)).Nodup
theorem nmAdd_mem {nm : Nms} {k : Str} {n : Int} (h : KN nm) (t : Str × List Int) : t ∈ nmAdd nm k n ↔ (t ∈ nm ∧ t.1 ≠ k) ∨ t = (k, nmLook nm k ++ [n]) := by
 induction nm with
 | nil => simp [nmAdd, nmLook]
 | cons u us ih =>
  have h' : u.1 ∉ us.map (·.1) ∧ KN us := by simpa [KN] using h
  simp only [nmAdd, nmLook]
  by_cases e : k = u.1
  ·rw [if_pos e, if_pos e]
   subst e
   simp only [List.mem_cons]
   constructor
   ·rintro (rfl | ht)
    ·exact .inr rfl
    ·exact .inl ⟨.inr ht, fun e => h'.1 (List.mem_map.2 ⟨t, ht, e⟩)⟩
   ·rintro (⟨rfl | ht, hne⟩ | rfl)
    ·exact absurd rfl hne
    ·exact .inr ht
    ·exact .inl rfl
  ·rw [if_neg e, if_neg e]
   simp only [List.mem_cons, ih h'.2]
   constructor
   ·rintro (rfl | ⟨h1, h2⟩ | rfl)
    ·exact .inl ⟨.inl rfl, fun e' => e e'.symm⟩
    ·exact .inl ⟨.inr h1, h2⟩
    ·exact .inr rfl
   ·rintro (⟨rfl | h1, h2⟩ | rfl)
    ·exact .inl rfl
    ·exact .inr (.inl ⟨h1, h2⟩)
    ·exact .inr (.inr rfl)
theorem nmAdd_keys {k : Str} {n : Int} : ∀ {nm : Nms}, ∀ x ∈ (nmAdd nm k n).map (·.1), x = k ∨ x ∈ nm.map (·.1) := by
 intro nm
 induction nm with
 | nil => intro x hx; simpa [nmAdd] using hx
 | cons u us ih =>
  intro x hx
  simp only [nmAdd] at hx
  split at hx
  ·rename_i e; simp only [List.map_cons, List.mem_cons] at hx ⊢
   rcases hx with h | h
   ·exact .inl h
   ·exact .inr (.inr h)
  ·simp only [List.map_cons, List.mem_cons] at hx ⊢
   rcases hx with h | h
   ·exact .inr (.inl h)
   ·rcases ih x h with h | h
    ·exact .inl h
    ·exact .inr (.inr h)
theorem nmAdd_kn {nm : Nms} {k : Str} {n : Int} (h : KN nm) : KN (nmAdd nm k n) := by
 induction nm with
 | nil => simp [KN, nmAdd]
 | cons u us ih =>
  have h' : u.1 ∉ us.map (·.1) ∧ KN us := by simpa [KN] using h
  simp only [nmAdd]
  split
  ·rename_i e; subst e; exact h
  ·rename_i e
   show ((u :: nmAdd us k n).map (·.1)).Nodup
   rw [List.map_cons, List.nodup_cons]
   refine ⟨fun hm => ?_, ih h'.2⟩
   rcases nmAdd_keys _ hm with h1 | h1
   ·exact e h1.symm
   ·exact h'.1 h1
theorem KN.nd {nm : Nms} (h : KN nm) : nm.Nodup := by
 induction nm with
 | nil => exact List.nodup_nil
 | cons u us ih =>
  have h' : u.1 ∉ us.map (·.1) ∧ KN us := by simpa [KN] using h
  exact List.nodup_cons.2 ⟨fun hm => h'.1 (List.mem_map.2 ⟨u, hm, rfl⟩), ih h'.2⟩
theorem KN.perm {nm nm' : Nms} (h : KN nm) (p : nm.Perm nm') : KN nm' := (p.map (fun x : Str × List Int => x.1)).nodup_iff.1 h
theorem nmLook_mem {nm : Nms} (h : KN nm) {t : Str × List Int} (ht : t ∈ nm) : nmLook nm t.1 = t.2 := by
 induction nm with
 | nil => cases ht
 | cons u us ih =>
  have h' : u.1 ∉ us.map (·.1) ∧ KN us := by simpa [KN] using h
  simp only [nmLook]
  rcases List.mem_cons.1 ht with rfl | ht
  ·rw [if_pos rfl]
  ·rw [if_neg (fun e => h'.1 (List.mem_map.2 ⟨t, ht, e⟩))]
   exact ih h'.2 ht
theorem nmLook_none {nm : Nms} {k : Str} (h : k ∉ nm.map (·.1)) : nmLook nm k = [] := by
 induction nm with
 | nil => rfl
 | cons u us ih =>
  simp only [List.map_cons, List.mem_cons, not_or] at h
  simp only [nmLook]
  rw [if_neg h.1]; exact ih h.2
theorem nmLook_perm {nm nm' : Nms} (h : KN nm) (p : nm.Perm nm') (k : Str) : nmLook nm k = nmLook nm' k := by
 by_cases hk : k ∈ nm.map (·.1)
 ·obtain ⟨t, ht, rfl⟩ := List.mem_map.1 hk
  rw [nmLook_mem h ht, nmLook_mem (h.perm p) (p.mem_iff.1 ht)]
 ·rw [nmLook_none hk, nmLook_none (fun e => hk ((p.map (·.1)).mem_iff.2 e))]
theorem nmLook_add {nm : Nms} (h : KN nm) (k : Str) (n : Int) (j : Str) : nmLook (nmAdd nm k n) j = if j = k then nmLook nm k ++ [n] else nmLook nm j := by
 induction nm with
 | nil =>
  simp only [nmAdd, nmLook]
  split <;> rfl
 | cons u us ih =>
  have h' : u.1 ∉ us.map (·.1) ∧ KN us := by simpa [KN] using h
  simp only [nmAdd, nmLook]
  by_cases e : k = u.1
  ·rw [if_pos e, if_pos e]
   simp only [nmLook]
   by_cases ej : j = k
   ·rw [if_pos ej, if_pos ej]
   ·rw [if_neg ej, if_neg ej, if_neg (fun x => ej (x.trans e.symm))]
  ·rw [if_neg e, if_neg e]
   simp only [nmLook, ih h'.2]
   by_cases ej : j = k
   ·rw [if_pos ej, if_pos ej, if_neg (fun x => e (ej.symm.trans x))]
   ·rw [if_neg ej, if_neg ej]
theorem nmAdd_perm {nm nm' : Nms} {k : Str} {n : Int} (h : KN nm) (p : nm.Perm nm') : (nmAdd nm k n).Perm (nmAdd nm' k n) := by
 refine (List.perm_ext_iff_of_nodup (nmAdd_kn h).nd (nmAdd_kn (h.perm p)).nd).2 fun t => ?_
 rw [nmAdd_mem h, nmAdd_mem (h.perm p), nmLook_perm h p, p.mem_iff]
theorem nmAdd_comm {nm : Nms} {k j : Str} {n : Int} (h : KN nm) : (nmAdd (nmAdd nm k n) j n).Perm (nmAdd (nmAdd nm j n) k n) := by
 by_cases e : k = j
 ·subst e; exact .refl _
 refine (List.perm_ext_iff_of_nodup (nmAdd_kn (nmAdd_kn h)).nd (nmAdd_kn (nmAdd_kn h)).nd).2 fun t => ?_
 rw [nmAdd_mem (nmAdd_kn h), nmAdd_mem (nmAdd_kn h), nmAdd_mem h, nmAdd_mem h, nmLook_add h, nmLook_add h, if_neg (fun x => e x.symm), if_neg e]
 constructor
 ·rintro (⟨⟨h1, h2⟩ | rfl, h3⟩ | rfl)
  ·exact .inl ⟨.inl ⟨h1, h3⟩, h2⟩
  ·exact .inr rfl
  ·exact .inl ⟨.inr rfl, fun x => e x.symm⟩
 ·rintro (⟨⟨h1, h2⟩ | rfl, h3⟩ | rfl)
  ·exact .inl ⟨.inl ⟨h1, h3⟩, h2⟩
  ·exact .inr rfl
  ·exact .inl ⟨.inr rfl, e⟩
def addAll (nm : Nms) (ks : List Str) (n : Int) : Nms := ks.foldl (fun m k => nmAdd m k n) nm
theorem addAll_kn {n : Int} : ∀ {ks : List Str} {nm : Nms}, KN nm → KN (addAll nm ks n)
 | [], _, h => h
 | _ :: ks, _, h => addAll_kn (ks := ks) (nmAdd_kn h)
theorem addAll_perm {n : Int} : ∀ (ks : List Str) {nm nm' : Nms}, KN nm → nm.Perm nm' → (addAll nm ks n).Perm (addAll nm' ks n)
 | [], _, _, _, p => p
 | _ :: ks, _, _, h, p => addAll_perm ks (nmAdd_kn h) (nmAdd_perm h p)
theorem addAll_order {n : Int} {ks js : List Str} (p : ks.Perm js) : ∀ {nm : Nms}, KN nm → (addAll nm ks n).Perm (addAll nm js n) := by
 induction p with
 | nil => intro nm _; exact .refl _
 | cons x _ ih => intro nm h; exact ih (nmAdd_kn h)
 | swap x y l => intro nm h; exact addAll_perm l (nmAdd_kn (nmAdd_kn h)) (nmAdd_comm h)
 | trans p1 _ ih1 ih2 => intro nm h; exact (ih1 h).trans (ih2 h)
theorem addAll_snoc (nm : Nms) (ks : List Str) (k : Str) (n : Int) : addAll nm (ks ++ [k]) n = nmAdd (addAll nm ks n) k n := by simp [addAll]
def offAdd (l : List Str) (k : Str) : List Str := if k ∈ l then l else l ++ [k]
def offK (p : Package) : List Str := p.files.foldl offAdd ((p.provides.map (·.name)).foldl offAdd [p.name])
def overAll (nm : Nms) (ds : List Str) (n : Int) : Nms := ds.foldl (fun m k => if n ∈ nmLook m k then m else nmAdd m k n) nm
theorem overAll_snoc (nm : Nms) (ks : List Str) (k : Str) (n : Int) : overAll nm (ks ++ [k]) n = if n ∈ nmLook (overAll nm ks n) k then overAll nm ks n else nmAdd (overAll nm ks n) k n := by
 unfold overAll; rw [List.foldl_append]; rfl
structure Index where
 all : List Package
 prov : Nms
 names : Nms
 over : Nms
def Index.v (x : Index) : IV := .tptr [.tslice (x.all.map Package.cs), .tmap (nmV x.prov), .tmap (nmV x.names), .tmap (nmV x.over)]
def idxAdd (x : Index) (n : Nat) (p : Package) : Index := ⟨x.all ++ [p], addAll x.prov (offK p) n, nmAdd x.names p.name n, overAll x.over (p.obsoletes.map (·.name)) n⟩
def idxFrom (x : Index) : Nat → List Package → Index
 | _, [] => x
 | n, p :: ps => idxFrom (idxAdd x n p) (n + 1) ps
def idxM (l : List Package) : Index := idxFrom ⟨[], [], [], []⟩ 0 l
theorem idxFrom_snoc (ps : List Package) (p : Package) : ∀ (x : Index) (n : Nat), idxFrom x n (ps ++ [p]) = idxAdd (idxFrom x n ps) (n + ps.length) p := by
 induction ps with
 | nil => intro x n; rfl
 | cons q qs ih => intro x n; show idxFrom _ (n + 1) (qs ++ [p]) = _; rw [ih, List.length_cons]; congr 1; omega
theorem nmLook_cur (L : NmL) (k : Str) : nmLook (nmOf L) k = curL L k := by
 induction L with
 | nil => rfl
 | cons t ts ih =>
  simp only [nmOf, List.map_cons, nmLook, curL, List.find?_cons] at ih ⊢
  by_cases h : k = t.1
  ·simp [h]
  ·simp only [h, decide_false, if_false] at ih ⊢
   exact ih
end Go.Id.Md
