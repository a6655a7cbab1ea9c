/- MatchTurnedUpto: the row and the card. Conditions: none. -/
import Derived.Test.YtiallonafbejaaaGreatDoorTULMatchTurnedUpto
import Derived.Test.YtiallonafbejaaaGreatDoorTUJMatchTurnedUpto
import Derived.Test.YtiallonafbejaaaGreatDoorRows
import Derived.Test.YtiallonafbejaaaGreatDoorTie
import Derived.Test.YtiallonafbejaaaGreatDoorCards
import Derived.ProofKit
import Derived.LaidMore
import Derived.Lay
import Derived.OpenShut
import Derived.Stop.Joined
import Derived.SevenTiedAt
import Derived.JoinedCond
set_option linter.all false
namespace Go.Proofs.YtiallonafbejaaaGreatDoor
open Go Go.Id Go.Proofs Go.ChangeShapes Go.WideShapes Go.ChangeAt Go.WideMaps Go.WideElems Go.RowKit
set_option maxRecDepth 100000
theorem matchTurnedUpto_said : Rows.MatchTurnedUptoSaid :=
 OpenClaim.holds_of_cond 4 Tryz.f4 rfl rfl rfl rfl rfl rfl rfl ⟨rfl,rfl,rfl,rfl,rfl⟩ rfl rfl rfl rfl rfl matchTurnedUpto_n Tryz.func4 matchTurnedUpto_closed
  (of_decide_eq_true (by kernel_rfl)) (by unfold Func.isWrapper; first | (rw [if_pos (by decide +kernel)]; kernel_rfl) | (rw [if_neg (by decide +kernel)]; exact ⟨rfl,rfl⟩))
  (fun os started H enc _ F => by rw [OpenClaim.pre_eq_preRow]; exact matchTurnedUpto_lifted os started H enc F)
theorem matchTurnedUpto_card : Rows.MatchTurnedUptoCardSaid :=
 Claim7.holds_tied_plain_at .later [] [.data, .mapped, .data, .pinned] true (true, "4ea36aacffac5db0ddb70f5fb71fb180dd38bc1fb11ef7841eddd6f9c9cf468e") false
  matchTurnedUpto_said (fun _ h => by cases h) matchTurnedUpto_w (fun _ h => by cases h) matchTurnedUpto_row_tie rfl ⟨rfl,rfl⟩ matchTurnedUpto_m rfl
  (fun f fn hf hfn => by
   obtain rfl : f = 4 := Option.some.inj ((show Tryz.prog.funcNamed "chandlery/chandlerylaw13.MatchTurned" = some 4 from matchTurnedUpto_n).symm.trans hf) |>.symm
   obtain rfl : fn=Tryz.f4:=(Option.some.inj (Tryz.func4.symm.trans hfn)).symm
   exact ⟨matchTurnedUpto_k,fun j t ht => by
    rw [Tryz.params4] at ht
    have hm : t∈([22,23] : List TypeId):=by simpa using Array.mem_of_getElem? ht
    exact (show Tryz.prog.wantsStandIn t=false by simpa using List.all_eq_true.1 matchTurnedUpto_u t hm)⟩)
  matchTurnedUpto_g
end Go.Proofs.YtiallonafbejaaaGreatDoor
