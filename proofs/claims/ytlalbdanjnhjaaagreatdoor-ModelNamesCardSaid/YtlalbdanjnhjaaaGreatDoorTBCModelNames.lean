/- ModelNames: the row and the card. Conditions: none. -/
import Derived.Test.YtlalbdanjnhjaaaGreatDoorTBMN
import Derived.Test.YtlalbdanjnhjaaaGreatDoorRows
import Derived.Test.YtlalbdanjnhjaaaGreatDoorTie
import Derived.Test.YtlalbdanjnhjaaaGreatDoorCards
import Derived.ProofKit
import Derived.LaidMore
import Derived.Lay
import Derived.OpenShut
import Derived.Stop.Joined
import Derived.SevenTiedAt
set_option linter.all false
namespace Go.Proofs.YtlalbdanjnhjaaaGreatDoor
open Go Go.Id Go.Proofs Go.ChangeShapes Go.WideShapes Go.ChangeAt Go.WideMaps Go.WideElems Go.RowKit
def laidZ : List (String × DataW Unit) := [("unicode/utf8.acceptRanges", Rows.laid_unicode_utf8_acceptRanges), ("chandlery/span.ops", Rows.laid_chandlery_span_ops), ("chandlery/dep.words", Rows.laid_chandlery_dep_words), ("chandlery/rich.kinds", Rows.laid_chandlery_rich_kinds), ("unicode/utf8.first", Rows.laid_unicode_utf8_first)]
theorem own : ownKnob Tryz.prog.godebug = none := by kernel_rfl
theorem env_ok {W : World} (h : laidMetH Tryz.prog laidZ W) : ∀ g, VR rho0 W (envOf Go.Id.Tryz.envK g) (.pointer (some ⟨g, 0, none⟩)) := by
  rw [MakeChecks.laidMetH_plain _ _ _ (by kernel_rfl)] at h
  refine laid_env h Go.Id.Tryz.envK fun x hx => ?_
  simp only [Go.Id.Tryz.envK, Go.Id.Tryz.envL, Go.Id.Tryz.envX, List.cons_append, List.nil_append, List.mem_cons, List.not_mem_nil, or_false] at hx
  rcases hx with rfl | rfl | rfl
  · refine ⟨"chandlery/dep.words", Rows.laid_chandlery_dep_words, _, 8, _, _, rfl, by simp [laidZ], by kernel_rfl, rfl, by kernel_rfl⟩
  · refine ⟨"chandlery/span.ops", Rows.laid_chandlery_span_ops, _, 8, _, _, rfl, by simp [laidZ], by kernel_rfl, rfl, by kernel_rfl⟩
  · refine ⟨"chandlery/rich.kinds", Rows.laid_chandlery_rich_kinds, _, 8, _, _, rfl, by simp [laidZ], by kernel_rfl, rfl, by kernel_rfl⟩
noncomputable def start (os : Os) : World := (World.doorLaid Tryz.prog 85 os).layVars Tryz.prog (laidZ.filter fun x => ["unicode/utf8.first"].contains x.1)
noncomputable def BB : List Nat := (List.range 15).filter fun b => some b != Tryz.prog.globalNamed "unicode/utf8.first"
theorem door_met (os : Os) (args : Array Value) : laidMetH Tryz.prog laidZ ((start os).forCall (fun _ _ => 0) ⟨#[], args, []⟩).memory := by
  rw [MakeChecks.laidMetH_plain _ _ _ (by kernel_rfl)]
  exact laidMet_layVars (w0 := World.doorLaid Tryz.prog 85 os) ["unicode/utf8.first"] BB (by simp [start, World.memory, World.forCall, Input.heap]) (by kernel_rfl) (by kernel_rfl) (LaidIn.of_run BB 8 (by kernel_rfl) (by kernel_rfl) (by kernel_rfl) (by kernel_rfl))
set_option maxRecDepth 100000
set_option maxRecDepth 100000 in
theorem modelNames_lifted (hp : PC Tryz.prog (envOf Go.Id.Tryz.envK) 3 [] (.bool true)) (os : Os) (started : os.Started) (H : Type) (enc : TypeId × Value → H) :
    ReturnsInHanded {} Tryz.checked os 3 .any (fun w args => (Rows.modelNamesSpec.pre enc Tryz.prog Tryz.f3 [] false w args ∧ laidMetH Tryz.prog laidZ w) ∧ sizedMet enc Tryz.prog Tryz.f3 (OpenSpec.ofChange Rows.modelNamesSpec) false w args)
      (Rows.modelNamesSpec.post enc Tryz.prog Tryz.f3 false true false false) := by
  refine returnsInHanded_of_change_and (C := Tryz.checked) (X := fun w _ => laidMetH Tryz.prog laidZ w) (fun _ _ _ hh h => h.of_heap hh) own started (by kernel_rfl) Tryz.func3
    (ChangeSpec.witness_shaped (enc := enc) (C := Tryz.checked) (os := os) (X := fun w _ => laidMetH Tryz.prog laidZ w) false (start os) #[] 8 (World.layVars_os _ _ _) (World.shaped_of_ZipB (by kernel_rfl) (by kernel_rfl)) (by kernel_rfl) (by kernel_rfl) (by kernel_rfl) (door_met os _)) ?_
  intro W base args ds gs before hval0 hW _ _ hL _
  have hW' := hW
  obtain ⟨p, q, hA0, hV, rfl, hfz, hnd⟩ := hW
  have hA : DataW.TrodAll enc Tryz.prog W 0 (fun _ => true) true Tryz.f3.params.toList args.toList ds p := hA0
  rw [Tryz.params3] at hA
  have h0 : args.toList = [] ∧ ds = [] ∧ p = [] := by
    cases hl : args.toList with
    | nil => rw [hl] at hA; cases ds with
      | nil => exact ⟨rfl, rfl, hA⟩
      | cons _ _ => exact hA.elim
    | cons _ _ => rw [hl] at hA; exact hA.elim
  obtain ⟨ha, rfl, rfl⟩ := h0
  have ha' : args = #[] := by simpa using ha
  subst ha'
  obtain ⟨rfl, rfl⟩ := trodVars_none hV
  refine (calls_PC hp (env_ok hL) ⟨rfl, fun i hi => by cases hi⟩).mono fun e W' ⟨he, hb⟩ => ?_
  subst he
  exact ⟨_, rfl, Go.Id.post_of_below (pa := []) (pv := []) hW' (fun _ _ _ => trodAll_mk1 (shut_bool (by kernel_rfl) _)) (fun _ _ => rfl) (fun _ _ => rfl) rfl hb (ok_one (t := Tryz.f3.resultTypes[0]!) (by kernel_rfl) rfl (okWide_bool_mk (by kernel_rfl) _))⟩
theorem modelNames_said (hp : PC Tryz.prog (envOf Go.Id.Tryz.envK) 3 [] (.bool true)) : Rows.ModelNamesSaid :=
  OpenClaim.holds_of_wide 3 Tryz.f3 rfl rfl rfl rfl rfl rfl rfl ⟨rfl, rfl, rfl, rfl, rfl⟩ rfl rfl rfl rfl rfl (by kernel_rfl) Tryz.func3 (by kernel_rfl)
    (of_decide_eq_true (by kernel_rfl)) (by unfold Func.isWrapper; first | (rw [if_pos (by decide +kernel)]; kernel_rfl) | (rw [if_neg (by decide +kernel)]; exact ⟨rfl, rfl⟩))
    (fun os started H enc _ => modelNames_lifted hp os started H enc)
theorem modelNames_row : Rows.ModelNamesSaid := modelNames_said Go.Id.Tryz.modelNames_pc
theorem modelNames_card : Rows.ModelNamesCardSaid :=
  Claim7.holds_tied_plain_at .later [] [.data, .mapped, .data, .data, .pinned] true (true, "f1b4ee1dd945822007fc6c319f356e0f6314534a3354b4a498f1403fe5e2a915") false
    modelNames_row (fun _ h => by cases h) (by kernel_rfl) (fun _ h => by cases h) modelNames_row_tie rfl ⟨rfl, rfl⟩ (by kernel_rfl) rfl
    (fun f fn hf hfn => by
      obtain rfl : f = 3 := Option.some.inj ((show Tryz.prog.funcNamed "chandlery/chandlerylaw16.ModelNames" = some 3 by kernel_rfl).symm.trans hf) |>.symm
      obtain rfl : fn = Tryz.f3 := (Option.some.inj (Tryz.func3.symm.trans hfn)).symm
      exact ⟨by kernel_rfl, fun j t ht => by
        rw [Tryz.params3] at ht
        simp at ht⟩)
    (by kernel_rfl)
end Go.Proofs.YtlalbdanjnhjaaaGreatDoor
