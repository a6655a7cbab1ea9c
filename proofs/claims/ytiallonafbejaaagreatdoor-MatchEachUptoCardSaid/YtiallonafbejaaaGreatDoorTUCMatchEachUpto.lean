/- MatchEachUpto: the row and the card. Conditions: none. -/
import Derived.Test.YtiallonafbejaaaGreatDoorTULMatchEachUpto
import Derived.Test.YtiallonafbejaaaGreatDoorTUJMatchEachUpto
import Derived.Test.YtiallonafbejaaaGreatDoorRows
import Derived.Test.YtiallonafbejaaaGreatDoorTie
import Derived.Test.YtiallonafbejaaaGreatDoorCards
import Derived.ProofKit
import Derived.LaidMore
import Derived.Lay
import Derived.OpenShut
import Derived.Stop.Joined
import Derived.SevenTiedAt
import Derived.JoinedCond
set_option linter.all false
namespace Go.Proofs.YtiallonafbejaaaGreatDoor
open Go Go.Id Go.Proofs Go.ChangeShapes Go.WideShapes Go.ChangeAt Go.WideMaps Go.WideElems Go.RowKit
set_option maxRecDepth 100000
theorem matchEachUpto_said : Rows.MatchEachUptoSaid :=
 OpenClaim.holds_of_cond 5 Tryz.f5 rfl rfl rfl rfl rfl rfl rfl ⟨rfl, rfl, rfl, rfl, rfl⟩ rfl rfl rfl rfl rfl matchEachUpto_n Tryz.func5 matchEachUpto_closed
  (of_decide_eq_true (by kernel_rfl)) (by unfold Func.isWrapper; first | (rw [if_pos (by decide +kernel)]; kernel_rfl) | (rw [if_neg (by decide +kernel)]; exact ⟨rfl, rfl⟩))
  (fun os started H enc _ F => by rw [OpenClaim.pre_eq_preRow]; exact matchEachUpto_lifted os started H enc F)
theorem matchEachUpto_card : Rows.MatchEachUptoCardSaid :=
 Claim7.holds_tied_plain_at .later [] [.data, .mapped, .data, .pinned] true (true, "4ea36aacffac5db0ddb70f5fb71fb180dd38bc1fb11ef7841eddd6f9c9cf468e") false
  matchEachUpto_said (fun _ h => by cases h) matchEachUpto_w (fun _ h => by cases h) matchEachUpto_row_tie rfl ⟨rfl, rfl⟩ matchEachUpto_m rfl
  (fun f fn hf hfn => by
   obtain rfl : f = 5 := Option.some.inj ((show Tryz.prog.funcNamed "chandlery/chandlerylaw13.MatchEach" = some 5 from matchEachUpto_n).symm.trans hf) |>.symm
   obtain rfl : fn = Tryz.f5 := (Option.some.inj (Tryz.func5.symm.trans hfn)).symm
   exact ⟨matchEachUpto_k, fun j t ht => by
    rw [Tryz.params5] at ht
    have hm : t ∈ ([22, 23, 51] : List TypeId) := by simpa using Array.mem_of_getElem? ht
    exact (show Tryz.prog.wantsStandIn t = false by simpa using List.all_eq_true.1 matchEachUpto_u t hm)⟩)
  matchEachUpto_g
end Go.Proofs.YtiallonafbejaaaGreatDoor
