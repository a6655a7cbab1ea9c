/- Pools of packages that may be: sizes. Conditions: none; no program in sight. -/
import Derived.Test.YtiallonafbejaaaGreatDoorMd
import Derived.Test.YtiallonafbejaaaGreatDoorMn
set_option linter.all false
namespace Go.Id.Md
open Go Go.Id
theorem reposFrom_may : ∀ (rs : List Repo) (i : Nat) (st : List PRow × Nms) (out : List PRow × Nms), reposFrom i rs st = some out → ∀ r ∈ rs, r.packages.all pkgMay = true := by
 intro rs
 induction rs with
 | nil => intro i st out _ r hr; cases hr
 | cons x xs ih =>
  intro i st out h r hr
  simp only [reposFrom] at h
  split at h
  ·cases h
  ·rename_i hc
   rcases List.mem_cons.1 hr with rfl | hr
   ·cases hb : r.packages.all pkgMay with
    | true => rfl
    | false => exact absurd (.inr (.inr hb)) hc
   ·exact ih _ _ _ h r hr
theorem newM_parts {repos : List Repo} {inst : List Package} {p : Pool} (h : newM repos inst = .inl p) : repos.length ≤ 16 ∧ inst.length + sumLen repos ≤ 256 ∧ inst.all pkgMay = true ∧ ∀ r ∈ repos, r.packages.all pkgMay = true := by
 unfold newM at h
 split at h
 ·cases h
 rename_i hc
 split at h
 ·cases h
 rename_i hm
 split at h
 ·rename_i rows nm hr
  exact ⟨by omega, by omega, by simpa using hm, reposFrom_may _ _ _ _ hr⟩
 ·cases h
theorem rowsOf_pkg (l : List Package) (a b : Int) : (rowsOf l a b).map (·.pkg) = l := by
 induction l with
 | nil => rfl
 | cons x xs ih => show x :: (rowsOf xs a b).map (·.pkg) = _; rw [ih]
def pkgsOf (p : Pool) : List Package := p.rows.map (·.pkg)
theorem reposRows_pkg : ∀ (rs : List Repo) (i : Nat), (reposRows i rs).map (·.pkg) = rs.flatMap (·.packages) := by
 intro rs
 induction rs with
 | nil => intro i; rfl
 | cons r rs ih => intro i; simp only [reposRows, List.map_append, ih, rowsOf_pkg, List.flatMap_cons]
theorem flat_len' : ∀ (rs : List Repo), (rs.flatMap (·.packages)).length = sumLen rs := by
 intro rs
 induction rs with
 | nil => rfl
 | cons r rs ih => simp only [List.flatMap_cons, List.length_append, ih]; rfl
theorem newM_pkgs {repos : List Repo} {inst : List Package} {p : Pool} (h : newM repos inst = .inl p) : pkgsOf p = inst ++ repos.flatMap (·.packages) := by
 unfold pkgsOf
 rw [(newM_inl h).1, List.map_append, reposRows_pkg]
 congr 1
 exact rowsOf_pkg _ _ _
theorem newM_len {repos : List Repo} {inst : List Package} {p : Pool} (h : newM repos inst = .inl p) : p.rows.length ≤ 256 := by
 have e : p.rows.length = (pkgsOf p).length := by simp [pkgsOf]
 rw [e, newM_pkgs h, List.length_append, flat_len']
 exact (newM_parts h).2.1
theorem newM_mem {repos : List Repo} {inst : List Package} {p : Pool} (h : newM repos inst = .inl p) : ∀ x ∈ pkgsOf p, pkgMay x = true ∧ (x ∈ inst ∨ ∃ r ∈ repos, x ∈ r.packages) := by
 intro x hx
 rw [newM_pkgs h] at hx
 obtain ⟨_, _, h1, h2⟩ := newM_parts h
 rcases List.mem_append.1 hx with hx | hx
 ·exact ⟨List.all_eq_true.1 h1 x hx, .inl hx⟩
 ·obtain ⟨r, hr, hxr⟩ := List.mem_flatMap.1 hx
  exact ⟨List.all_eq_true.1 (h2 r hr) x hxr, .inr ⟨r, hr, hxr⟩⟩
def EVR.tiny (e : EVR) : Prop := e.ver.length ≤ 64 ∧ e.rel.length ≤ 64
theorem word_len {s : Str} (h : wordOK s = true) : s.length ≤ 64 := by
 unfold wordOK at h
 simp only [Bool.and_eq_true, decide_eq_true_eq] at h
 exact h.1.2
theorem evr_tiny {e : EVR} {b : Bool} (h : evrMay e b = true) : e.tiny := by
 unfold evrMay at h
 simp only [Bool.and_eq_true, Bool.or_eq_true, decide_eq_true_eq] at h
 refine ⟨word_len h.1.2, ?_⟩
 rcases h.2 with h | h
 ·exact word_len h
 ·have := List.isEmpty_iff.1 h.2; rw [this]; exact Nat.zero_le _
theorem dep_tiny {d : Dep} (h : depMay d = true) : 0 ≤ d.op ∧ d.op < 256 ∧ d.evr.tiny ∧ d.name.length ≤ 64 := by
 unfold depMay at h
 simp only [Bool.and_eq_true] at h
 obtain ⟨⟨h1, h2⟩, h3⟩ := h
 have hn : d.name.length ≤ 64 := by
  unfold nameOK at h1
  simp only [Bool.and_eq_true, decide_eq_true_eq] at h1
  exact h1.1.1.2
 have ho : 0 ≤ d.op ∧ d.op < 256 := by
  unfold opMay at h2
  simp only [List.contains_iff_mem, List.mem_cons, List.not_mem_nil, or_false] at h2
  omega
 refine ⟨ho.1, ho.2, ?_, hn⟩
 split at h3
 ·have : d.evr = evr0 := by simpa using h3
  rw [this]; exact ⟨by decide, by decide⟩
 ·simp only [Bool.and_eq_true] at h3
  exact evr_tiny h3.2
structure Package.Tiny (p : Package) : Prop where
 name : p.name.length ≤ 64
 evr : p.evr.tiny
 prov : p.provides.length ≤ 32 ∧ ∀ d ∈ p.provides, 0 ≤ d.op ∧ d.op < 256 ∧ d.evr.tiny ∧ d.name.length ≤ 64
 obs : p.obsoletes.length ≤ 32 ∧ ∀ d ∈ p.obsoletes, 0 ≤ d.op ∧ d.op < 256 ∧ d.evr.tiny ∧ d.name.length ≤ 64
 files : p.files.length ≤ 32
theorem pkg_tiny {p : Package} (h : pkgMay p = true) : p.Tiny := by
 unfold pkgMay at h
 simp only [Bool.and_eq_true, decide_eq_true_eq] at h
 obtain ⟨⟨⟨⟨⟨⟨⟨⟨⟨⟨⟨⟨⟨⟨h1, _⟩, h3⟩, _⟩, _⟩, h6, h6'⟩, h7, h7'⟩, h8, _⟩, _⟩, _⟩, _⟩, _⟩, _⟩, _⟩, _⟩ := h
 refine ⟨?_, evr_tiny h3, ⟨h6, fun d hd => dep_tiny (List.all_eq_true.1 h6' d hd)⟩, ⟨h7, fun d hd => dep_tiny (List.all_eq_true.1 h7' d hd)⟩, h8⟩
 unfold nameOK at h1
 simp only [Bool.and_eq_true, decide_eq_true_eq] at h1
 exact h1.1.1.2
end Go.Id.Md
