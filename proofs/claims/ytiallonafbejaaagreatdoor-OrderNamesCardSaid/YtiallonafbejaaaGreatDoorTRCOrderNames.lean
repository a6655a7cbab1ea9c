/- OrderNames: the row and the card. Conditions: none. -/
import Derived.Test.YtiallonafbejaaaGreatDoorTRDOrderNames
import Derived.Test.YtiallonafbejaaaGreatDoorTRJOrderNames
import Derived.Test.YtiallonafbejaaaGreatDoorRows
import Derived.Test.YtiallonafbejaaaGreatDoorTie
import Derived.Test.YtiallonafbejaaaGreatDoorCards
import Derived.ProofKit
import Derived.LaidMore
import Derived.Lay
import Derived.OpenShut
import Derived.Stop.Joined
import Derived.SevenTiedAt
set_option linter.all false
namespace Go.Proofs.YtiallonafbejaaaGreatDoor
open Go Go.Id Go.Proofs Go.ChangeShapes Go.WideShapes Go.ChangeAt Go.WideMaps Go.WideElems Go.RowKit
set_option maxRecDepth 100000
theorem orderNames_said (hp : PC Tryz.prog (envOf Go.Id.Tryz.envL) 11 [] (.bool true)) : Rows.OrderNamesSaid :=
  OpenClaim.holds_of_wide 11 Tryz.f11 rfl rfl rfl rfl rfl rfl rfl ⟨rfl, rfl, rfl, rfl, rfl⟩ rfl rfl rfl rfl rfl orderNames_n Tryz.func11 orderNames_closed
    (of_decide_eq_true (by kernel_rfl)) (by unfold Func.isWrapper; first | (rw [if_pos (by decide +kernel)]; kernel_rfl) | (rw [if_neg (by decide +kernel)]; exact ⟨rfl, rfl⟩))
    (fun os started H enc _ => orderNames_lifted hp os started H enc)
theorem orderNames_row : Rows.OrderNamesSaid := orderNames_said Go.Id.Tryz.orderNames_pc
theorem orderNames_card : Rows.OrderNamesCardSaid :=
  Claim7.holds_tied_plain_at .later [] [.data, .mapped, .data, .pinned] true (true, "4ea36aacffac5db0ddb70f5fb71fb180dd38bc1fb11ef7841eddd6f9c9cf468e") false
    orderNames_row (fun _ h => by cases h) orderNames_w (fun _ h => by cases h) orderNames_row_tie rfl ⟨rfl, rfl⟩ orderNames_m rfl
    (fun f fn hf hfn => by
      obtain rfl : f = 11 := Option.some.inj ((show Tryz.prog.funcNamed "chandlery/chandlerylaw31.OrderNames" = some 11 from orderNames_n).symm.trans hf) |>.symm
      obtain rfl : fn = Tryz.f11 := (Option.some.inj (Tryz.func11.symm.trans hfn)).symm
      exact ⟨orderNames_k, fun j t ht => by
        rw [Tryz.params11] at ht
        simp at ht⟩)
    orderNames_g
end Go.Proofs.YtiallonafbejaaaGreatDoor
