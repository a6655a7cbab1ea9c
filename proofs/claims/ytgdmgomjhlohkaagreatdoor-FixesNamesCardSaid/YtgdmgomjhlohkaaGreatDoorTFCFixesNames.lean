/- FixesNames: the row and the card. Conditions: none. -/
import Derived.Test.YtgdmgomjhlohkaaGreatDoorTFDFixesNames
import Derived.Test.YtgdmgomjhlohkaaGreatDoorTFJFixesNames
import Derived.Test.YtgdmgomjhlohkaaGreatDoorRows
import Derived.Test.YtgdmgomjhlohkaaGreatDoorTie
import Derived.Test.YtgdmgomjhlohkaaGreatDoorCards
import Derived.ProofKit
import Derived.LaidMore
import Derived.Lay
import Derived.OpenShut
import Derived.Stop.Joined
import Derived.SevenTiedAt
set_option linter.all false
namespace Go.Proofs.YtgdmgomjhlohkaaGreatDoor
open Go Go.Id Go.Proofs Go.ChangeShapes Go.WideShapes Go.ChangeAt Go.WideMaps Go.WideElems Go.RowKit
set_option maxRecDepth 100000
theorem fixesNames_said (hp : PC Tryz.prog (envOf Go.Id.Tryz.envL) 3 [] (.bool true)) : Rows.FixesNamesSaid :=
  OpenClaim.holds_of_wide 3 Tryz.f3 rfl rfl rfl rfl rfl rfl rfl ⟨rfl, rfl, rfl, rfl, rfl⟩ rfl rfl rfl rfl rfl fixesNames_n Tryz.func3 fixesNames_closed
    (of_decide_eq_true (by kernel_rfl)) (by unfold Func.isWrapper; first | (rw [if_pos (by decide +kernel)]; kernel_rfl) | (rw [if_neg (by decide +kernel)]; exact ⟨rfl, rfl⟩))
    (fun os started H enc _ => fixesNames_lifted hp os started H enc)
theorem fixesNames_row : Rows.FixesNamesSaid := fixesNames_said Go.Id.Tryz.fixesNames_pc
theorem fixesNames_card : Rows.FixesNamesCardSaid :=
  Claim7.holds_tied_plain_at .later [] [.data, .data, .data, .data, .mapped, .data, .pinned] true (true, "1125d908abd1c682e5f3ee9043be2e912c5eed178d4f388439defbc0ba08fe8b") false
    fixesNames_row (fun _ h => by cases h) fixesNames_w (fun _ h => by cases h) fixesNames_row_tie rfl ⟨rfl, rfl⟩ fixesNames_m rfl
    (fun f fn hf hfn => by
      obtain rfl : f = 3 := Option.some.inj ((show Tryz.prog.funcNamed "chandlery/chandlerylaw29.FixesNames" = some 3 from fixesNames_n).symm.trans hf) |>.symm
      obtain rfl : fn = Tryz.f3 := (Option.some.inj (Tryz.func3.symm.trans hfn)).symm
      exact ⟨fixesNames_k, fun j t ht => by
        rw [Tryz.params3] at ht
        simp at ht⟩)
    fixesNames_g
end Go.Proofs.YtgdmgomjhlohkaaGreatDoor
