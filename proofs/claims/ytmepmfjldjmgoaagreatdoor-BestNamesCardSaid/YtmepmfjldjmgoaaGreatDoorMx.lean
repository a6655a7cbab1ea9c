/- Pools that are trees, read back; what match.New gives of one, worked out. Conditions: none; no program in sight. -/
import Derived.Test.YtmepmfjldjmgoaaGreatDoorMm
import Derived.Test.YtmepmfjldjmgoaaGreatDoorFwTf
set_option linter.all false
namespace Go.Id.Md
open Go Go.Id
def optL {α β : Type} (f : α → Option β) : List α → Option (List β)
  | [] => some []
  | a :: as => match f a with
    | some b => match optL f as with
      | some bs => some (b :: bs)
      | none => none
    | none => none
def rowsV {β : Type} (f : List IV → Option β) : IV → Option (List β)
  | .nilslice => some []
  | .tslice es => optL f es
  | _ => none
def rdDep : List IV → Option Dep
  | [.str n, .int _ o, .int _ e, .str v, .str r] => some ⟨n, o, ⟨e, v, r⟩⟩
  | _ => none
def rdRich : Nat → List IV → Option Rich
  | 0, _ => none
  | m + 1, [.int _ k, .str n, .int _ o, .int _ e, .str v, .str r, as] => match rowsV (rdRich m) as with
    | some l => some (.mk k ⟨n, o, ⟨e, v, r⟩⟩ l)
    | none => none
  | _, _ => none
def rdStr : List IV → Option Str
  | [.str s] => some s
  | _ => none
def rdInt : List IV → Option Int
  | [.int _ n] => some n
  | _ => none
def rdRow : List IV → Option PRow
  | [.str n, .int _ e, .str v, .str r, .int _ a, .str vd, p, q, c, o, rc, su, sg, en, fl, .int _ repo, .int _ prio] =>
    match rowsV rdDep p, rowsV (rdRich 30) q, rowsV (rdRich 30) c, rowsV rdDep o, rowsV (rdRich 30) rc, rowsV (rdRich 30) su, rowsV (rdRich 30) sg, rowsV (rdRich 30) en, rowsV rdStr fl with
    | some p, some q, some c, some o, some rc, some su, some sg, some en, some fl => some ⟨⟨n, ⟨e, v, r⟩, a, vd, p, q, c, o, rc, su, sg, en, fl⟩, repo, prio⟩
    | _, _, _, _, _, _, _, _, _ => none
  | _ => none
def rdNm : IV × IV → Option (Str × List Int)
  | (.str k, v) => match rowsV rdInt v with
    | some l => some (k, l)
    | none => none
  | _ => none
def rdPool : IV → Option Pool
  | .tptr [rs, .int _ i, .tmap es] => match rowsV rdRow rs, optL rdNm es with
    | some l, some nm => some ⟨l, i, nm⟩
    | _, _ => none
  | _ => none
def strB (s : Str) : Bool := Nat.blt s.length 4096
def evrB (e : EVR) : Bool := strB e.ver && strB e.rel
def depB (d : Dep) : Bool := strB d.name && evrB d.evr
def richB : Nat → Rich → Bool
  | 0, _ => false
  | m + 1, .mk k d as => decide (0 ≤ k) && decide (k < 256) && depB d && Nat.blt as.length 4096 && as.all (richB m) && Nat.blt (Rich.mk k d as).count 4096
def rowB (l : List Rich) : Bool := Nat.blt l.length 4096 && l.all (richB 30)
def pkgB (p : Package) : Bool := strB p.name && evrB p.evr && (Nat.blt p.provides.length 4096 && p.provides.all depB) && (Nat.blt p.obsoletes.length 4096 && p.obsoletes.all depB) && (Nat.blt p.files.length 4096 && p.files.all strB) &&
  rowB p.requires && rowB p.conflicts && rowB p.recommends && rowB p.supplements && rowB p.suggests && rowB p.enhances
theorem blt_lt {a b : Nat} (h : Nat.blt a b = true) : a < b := Nat.le_of_ble_eq_true h
theorem evrB_spec {e : EVR} (h : evrB e = true) : e.fit := by
  simp only [evrB, strB, Bool.and_eq_true] at h
  have h1 := blt_lt h.1
  have h2 := blt_lt h.2
  exact ⟨by omega, by omega⟩
theorem depB_spec {d : Dep} (h : depB d = true) : d.fit := by
  simp only [depB, strB, Bool.and_eq_true] at h
  have h1 := blt_lt h.1
  exact ⟨by omega, evrB_spec h.2⟩
theorem richB_spec : ∀ (m : Nat) (r : Rich), richB m r = true → r.fit ∧ r.count < 4096 := by
  intro m
  induction m with
  | zero => intro r h; cases h
  | succ m ih =>
    intro r h
    cases r with
    | mk k d as =>
      simp only [richB, Bool.and_eq_true, decide_eq_true_eq] at h
      obtain ⟨⟨⟨⟨⟨h1, h2⟩, h3⟩, h4⟩, h5⟩, h6⟩ := h
      have h4 := blt_lt h4
      exact ⟨Rich.fit_mk.2 ⟨h1, h2, depB_spec h3, by omega, fun r hr => (ih r (List.all_eq_true.1 h5 r hr)).1⟩, blt_lt h6⟩
theorem rowB_spec {l : List Rich} (h : rowB l = true) : l.length < 2 ^ 31 ∧ ∀ r ∈ l, r.fit ∧ r.count < 2 ^ 31 := by
  simp only [rowB, Bool.and_eq_true] at h
  have h1 := blt_lt h.1
  refine ⟨by omega, fun r hr => ?_⟩
  obtain ⟨a, b⟩ := richB_spec 30 r (List.all_eq_true.1 h.2 r hr)
  exact ⟨a, by omega⟩
theorem pkgB_spec {p : Package} (h : pkgB p = true) : p.Fit ∧ p.provides.length + p.files.length + p.obsoletes.length + 3 ≤ 2 ^ 15 := by
  simp only [pkgB, strB, Bool.and_eq_true] at h
  obtain ⟨⟨⟨⟨⟨⟨⟨⟨⟨⟨h1, h2⟩, h3, h3'⟩, h4, h4'⟩, h5, h5'⟩, r1⟩, r2⟩, r3⟩, r4⟩, r5⟩, r6⟩ := h
  have h1 := blt_lt h1
  have h3 := blt_lt h3
  have h4 := blt_lt h4
  have h5 := blt_lt h5
  refine ⟨⟨by omega, evrB_spec h2, ⟨by omega, fun d hd => depB_spec (List.all_eq_true.1 h3' d hd)⟩, ⟨by omega, fun d hd => depB_spec (List.all_eq_true.1 h4' d hd)⟩, ⟨by omega, fun s hs => ?_⟩, fun x hx => ?_⟩, by omega⟩
  · have := List.all_eq_true.1 h5' s hs
    simp only [strB] at this
    have := blt_lt this
    omega
  · simp only [Package.rows, List.mem_cons, List.not_mem_nil, or_false] at hx
    rcases hx with rfl | rfl | rfl | rfl | rfl | rfl <;> exact rowB_spec (by assumption)
def idxPrim : List IV → Option IV
  | [v] => match rdPool v with
    | some p => match wkB 1000 v p.v && Nat.blt p.rows.length 4096 && p.rows.all (fun r => pkgB r.pkg) with
      | true => some (.tuple [(idxM (p.rows.map (·.pkg))).v, .int .i64 0])
      | false => none
    | none => none
  | _ => none
theorem idxPrim_spec {args : List IV} {v : IV} (h : idxPrim args = some v) : ∃ p : Pool, wkL (wkB 1000) args [p.v] = true ∧ p.rows.length ≤ 2 ^ 14 ∧ (∀ r ∈ p.rows, r.pkg.Fit) ∧ (∀ r ∈ p.rows, r.pkg.provides.length + r.pkg.files.length + r.pkg.obsoletes.length + 3 ≤ 2 ^ 15) ∧
    v = .tuple [(idxM (p.rows.map (·.pkg))).v, .int .i64 0] := by
  unfold idxPrim at h
  split at h
  · split at h
    · rename_i v0 p hp
      split at h
      · rename_i hc
        cases h
        simp only [Bool.and_eq_true] at hc
        have hl := blt_lt hc.1.2
        refine ⟨p, by simp [wkL, hc.1.1], by omega, fun r hr => (pkgB_spec (List.all_eq_true.1 hc.2 r hr)).1, fun r hr => (pkgB_spec (List.all_eq_true.1 hc.2 r hr)).2, rfl⟩
      · cases h
    · cases h
  · cases h
end Go.Id.Md
