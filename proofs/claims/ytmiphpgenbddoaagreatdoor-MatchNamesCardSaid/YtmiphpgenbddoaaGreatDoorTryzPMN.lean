/- MatchNames: the row and the card. Conditions: none. -/
import Derived.Test.YtmiphpgenbddoaaGreatDoorPN
import Derived.Test.YtmiphpgenbddoaaGreatDoorTryzPZ
set_option linter.all false
namespace Go.Proofs.YtmiphpgenbddoaaGreatDoor
open Go Go.Id Go.Proofs Go.ChangeShapes Go.WideShapes Go.ChangeAt Go.WideMaps Go.WideElems Go.RowKit
set_option maxRecDepth 100000
set_option maxRecDepth 100000 in
theorem matchNames_lifted (hp : PC Tryz.prog (envOf envL) 7 [] (.bool true)) (os : Os) (started : os.Started) (H : Type) (enc : TypeId × Value → H) :
    ReturnsInHanded {} Tryz.checked os 7 .any (fun w args => (Rows.matchNamesSpec.pre enc Tryz.prog Tryz.f7 [] false w args ∧ laidMetH Tryz.prog laidZ w) ∧ sizedMet enc Tryz.prog Tryz.f7 (OpenSpec.ofChange Rows.matchNamesSpec) false w args)
      (Rows.matchNamesSpec.post enc Tryz.prog Tryz.f7 false true false false) := by
  refine returnsInHanded_of_change_and (C := Tryz.checked) (X := fun w _ => laidMetH Tryz.prog laidZ w) (fun _ _ _ hh h => h.of_heap hh) own started (by kernel_rfl) Tryz.func7
    (ChangeSpec.witness_shaped (enc := enc) (C := Tryz.checked) (os := os) (X := fun w _ => laidMetH Tryz.prog laidZ w) false (start os) #[] 8 (World.layVars_os _ _ _) (World.shaped_of_ZipB (by kernel_rfl) (by kernel_rfl)) (by kernel_rfl) (by kernel_rfl) (by kernel_rfl) (door_met os _)) ?_
  intro W base args ds gs before hval0 hW _ _ hL _
  have hW' := hW
  obtain ⟨p, q, hA0, hV, rfl, hfz, hnd⟩ := hW
  have hA : DataW.TrodAll enc Tryz.prog W 0 (fun _ => true) true Tryz.f7.params.toList args.toList ds p := hA0
  rw [Tryz.params7] at hA
  have h0 : args.toList = [] ∧ ds = [] ∧ p = [] := by
    cases hl : args.toList with
    | nil => rw [hl] at hA; cases ds with
      | nil => exact ⟨rfl, rfl, hA⟩
      | cons _ _ => exact hA.elim
    | cons _ _ => rw [hl] at hA; exact hA.elim
  obtain ⟨ha, rfl, rfl⟩ := h0
  have ha' : args = #[] := by simpa using ha
  subst ha'
  obtain ⟨rfl, rfl⟩ := trodVars_none hV
  refine (calls_PC hp (env_ok hL) ⟨rfl, fun i hi => by cases hi⟩).mono fun e W' ⟨he, hb⟩ => ?_
  subst he
  exact ⟨_, rfl, Go.Id.post_of_below (pa := []) (pv := []) hW' (fun _ _ _ => trodAll_mk1 (shut_bool (by kernel_rfl) _)) (fun _ _ => rfl) (fun _ _ => rfl) rfl hb (ok_one (t := Tryz.f7.resultTypes[0]!) (by kernel_rfl) rfl (okWide_bool_mk (by kernel_rfl) _))⟩

theorem matchNames_said (hp : PC Tryz.prog (envOf envL) 7 [] (.bool true)) : Rows.MatchNamesSaid :=
  OpenClaim.holds_of_wide 7 Tryz.f7 rfl rfl rfl rfl rfl rfl rfl ⟨rfl, rfl, rfl, rfl, rfl⟩ rfl rfl rfl rfl rfl (by kernel_rfl) Tryz.func7 (by kernel_rfl)
    (of_decide_eq_true (by kernel_rfl)) (by unfold Func.isWrapper; first | (rw [if_pos (by decide +kernel)]; kernel_rfl) | (rw [if_neg (by decide +kernel)]; exact ⟨rfl, rfl⟩))
    (fun os started H enc _ => matchNames_lifted hp os started H enc)
/-- The row. -/
theorem matchNames_row : Rows.MatchNamesSaid := matchNames_said Go.Id.Tryz.matchNames_pc
/-- The card. -/
theorem matchNames_card : Rows.MatchNamesCardSaid :=
  Claim7.holds_tied_plain_at .later [] [.data, .mapped, .data, .pinned] true (true, "b5cd4db041a659c89d28377db03dbb52fb1c9b7b0afe9a86c3c9708754c263d5") false
    matchNames_row (fun _ h => by cases h) (by kernel_rfl) (fun _ h => by cases h) matchNames_row_tie rfl ⟨rfl, rfl⟩ (by kernel_rfl) rfl
    (fun f fn hf hfn => by
      obtain rfl : f = 7 := Option.some.inj ((show Tryz.prog.funcNamed "chandlery/chandlerylaw13.MatchNames" = some 7 by kernel_rfl).symm.trans hf) |>.symm
      obtain rfl : fn = Tryz.f7 := (Option.some.inj (Tryz.func7.symm.trans hfn)).symm
      exact ⟨by kernel_rfl, fun j t ht => by
        rw [Tryz.params7] at ht
        simp at ht⟩)
    (by kernel_rfl)
end Go.Proofs.YtmiphpgenbddoaaGreatDoor
