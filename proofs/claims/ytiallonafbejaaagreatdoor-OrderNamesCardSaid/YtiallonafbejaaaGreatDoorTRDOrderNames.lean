/- OrderNames: the row and the card. Conditions: none. -/
import Derived.Test.YtiallonafbejaaaGreatDoorTRON
import Derived.Test.YtiallonafbejaaaGreatDoorRows
import Derived.Test.YtiallonafbejaaaGreatDoorTie
import Derived.Test.YtiallonafbejaaaGreatDoorCards
import Derived.ProofKit
import Derived.LaidMore
import Derived.Lay
import Derived.OpenShut
import Derived.Stop.Joined
import Derived.SevenTiedAt
set_option linter.all false
namespace Go.Proofs.YtiallonafbejaaaGreatDoor
open Go Go.Id Go.Proofs Go.ChangeShapes Go.WideShapes Go.ChangeAt Go.WideMaps Go.WideElems Go.RowKit
def laidZ : List (String × DataW Unit) := [("unicode/utf8.acceptRanges", Rows.laid_unicode_utf8_acceptRanges), ("chandlery/span.ops", Rows.laid_chandlery_span_ops), ("chandlery/dep.words", Rows.laid_chandlery_dep_words), ("unicode/utf8.first", Rows.laid_unicode_utf8_first)]
theorem own : ownKnob Tryz.prog.godebug = none := by kernel_rfl
theorem env_ok {W : World} (h : laidMetH Tryz.prog laidZ W) : ∀ g, VR rho0 W (envOf Go.Id.Tryz.envL g) (.pointer (some ⟨g, 0, none⟩)) := by
  rw [MakeChecks.laidMetH_plain _ _ _ (by kernel_rfl)] at h
  refine laid_env h Go.Id.Tryz.envL fun x hx => ?_
  simp only [Go.Id.Tryz.envL, List.mem_cons, List.not_mem_nil, or_false] at hx
  rcases hx with rfl | rfl
  · refine ⟨"chandlery/dep.words", Rows.laid_chandlery_dep_words, _, 8, _, _, rfl, by simp [laidZ], by kernel_rfl, rfl, by kernel_rfl⟩
  · refine ⟨"chandlery/span.ops", Rows.laid_chandlery_span_ops, _, 8, _, _, rfl, by simp [laidZ], by kernel_rfl, rfl, by kernel_rfl⟩
noncomputable def start (os : Os) : World := (World.doorLaid Tryz.prog 70 os).layVars Tryz.prog (laidZ.filter fun x => ["unicode/utf8.first"].contains x.1)
noncomputable def BB : List Nat := (List.range 12).filter fun b => some b != Tryz.prog.globalNamed "unicode/utf8.first"
theorem door_met (os : Os) (args : Array Value) : laidMetH Tryz.prog laidZ ((start os).forCall (fun _ _ => 0) ⟨#[], args, []⟩).memory := by
  rw [MakeChecks.laidMetH_plain _ _ _ (by kernel_rfl)]
  exact laidMet_layVars (w0 := World.doorLaid Tryz.prog 70 os) ["unicode/utf8.first"] BB (by simp [start, World.memory, World.forCall, Input.heap]) (by kernel_rfl) (by kernel_rfl) (LaidIn.of_run BB 8 (by kernel_rfl) (by kernel_rfl) (by kernel_rfl) (by kernel_rfl))
set_option maxRecDepth 100000
set_option maxRecDepth 100000 in
theorem orderNames_lifted (hp : PC Tryz.prog (envOf Go.Id.Tryz.envL) 11 [] (.bool true)) (os : Os) (started : os.Started) (H : Type) (enc : TypeId × Value → H) :
    ReturnsInHanded {} Tryz.checked os 11 .any (fun w args => (Rows.orderNamesSpec.pre enc Tryz.prog Tryz.f11 [] false w args ∧ laidMetH Tryz.prog laidZ w) ∧ sizedMet enc Tryz.prog Tryz.f11 (OpenSpec.ofChange Rows.orderNamesSpec) false w args)
      (Rows.orderNamesSpec.post enc Tryz.prog Tryz.f11 false true false false) := by
  refine returnsInHanded_of_change_and (C := Tryz.checked) (X := fun w _ => laidMetH Tryz.prog laidZ w) (fun _ _ _ hh h => h.of_heap hh) own started (by kernel_rfl) Tryz.func11
    (ChangeSpec.witness_shaped (enc := enc) (C := Tryz.checked) (os := os) (X := fun w _ => laidMetH Tryz.prog laidZ w) false (start os) #[] 8 (World.layVars_os _ _ _) (World.shaped_of_ZipB (by kernel_rfl) (by kernel_rfl)) (by kernel_rfl) (by kernel_rfl) (by kernel_rfl) (door_met os _)) ?_
  intro W base args ds gs before hval0 hW _ _ hL _
  have hW' := hW
  obtain ⟨p, q, hA0, hV, rfl, hfz, hnd⟩ := hW
  have hA : DataW.TrodAll enc Tryz.prog W 0 (fun _ => true) true Tryz.f11.params.toList args.toList ds p := hA0
  rw [Tryz.params11] at hA
  have h0 : args.toList = [] ∧ ds = [] ∧ p = [] := by
    cases hl : args.toList with
    | nil => rw [hl] at hA; cases ds with
      | nil => exact ⟨rfl, rfl, hA⟩
      | cons _ _ => exact hA.elim
    | cons _ _ => rw [hl] at hA; exact hA.elim
  obtain ⟨ha, rfl, rfl⟩ := h0
  have ha' : args = #[] := by simpa using ha
  subst ha'
  obtain ⟨rfl, rfl⟩ := trodVars_none hV
  refine (calls_PC hp (env_ok hL) ⟨rfl, fun i hi => by cases hi⟩).mono fun e W' ⟨he, hb⟩ => ?_
  subst he
  exact ⟨_, rfl, Go.Id.post_of_below (pa := []) (pv := []) hW' (fun _ _ _ => trodAll_mk1 (shut_bool (by kernel_rfl) _)) (fun _ _ => rfl) (fun _ _ => rfl) rfl hb (ok_one (t := Tryz.f11.resultTypes[0]!) (by kernel_rfl) rfl (okWide_bool_mk (by kernel_rfl) _))⟩
end Go.Proofs.YtiallonafbejaaaGreatDoor
