/- AskEditsUpto: the row and the card. Conditions: none. -/
import Derived.Test.YtiallonafbejaaaGreatDoorTULAskEditsUpto
import Derived.Test.YtiallonafbejaaaGreatDoorTUJAskEditsUpto
import Derived.Test.YtiallonafbejaaaGreatDoorRows
import Derived.Test.YtiallonafbejaaaGreatDoorTie
import Derived.Test.YtiallonafbejaaaGreatDoorCards
import Derived.ProofKit
import Derived.LaidMore
import Derived.Lay
import Derived.OpenShut
import Derived.Stop.Joined
import Derived.SevenTiedAt
import Derived.JoinedCond
set_option linter.all false
namespace Go.Proofs.YtiallonafbejaaaGreatDoor
open Go Go.Id Go.Proofs Go.ChangeShapes Go.WideShapes Go.ChangeAt Go.WideMaps Go.WideElems Go.RowKit
set_option maxRecDepth 100000
theorem askEditsUpto_said : Rows.AskEditsUptoSaid :=
 OpenClaim.holds_of_cond 6 Tryz.f6 rfl rfl rfl rfl rfl rfl rfl ⟨rfl,rfl,rfl,rfl,rfl⟩ rfl rfl rfl rfl rfl askEditsUpto_n Tryz.func6 askEditsUpto_closed
  (of_decide_eq_true (by kernel_rfl)) (by unfold Func.isWrapper; first | (rw [if_pos (by decide +kernel)]; kernel_rfl) | (rw [if_neg (by decide +kernel)]; exact ⟨rfl,rfl⟩))
  (fun os started H enc _ F => by rw [OpenClaim.pre_eq_preRow]; exact askEditsUpto_lifted os started H enc F)
theorem askEditsUpto_card : Rows.AskEditsUptoCardSaid :=
 Claim7.holds_tied_plain_at .later [] [.data, .mapped, .data, .pinned] true (true, "4ea36aacffac5db0ddb70f5fb71fb180dd38bc1fb11ef7841eddd6f9c9cf468e") false
  askEditsUpto_said (fun _ h => by cases h) askEditsUpto_w (fun _ h => by cases h) askEditsUpto_row_tie rfl ⟨rfl,rfl⟩ askEditsUpto_m rfl
  (fun f fn hf hfn => by
   obtain rfl : f = 6 := Option.some.inj ((show Tryz.prog.funcNamed "chandlery/chandlerylaw15.AskEdits" = some 6 from askEditsUpto_n).symm.trans hf) |>.symm
   obtain rfl : fn=Tryz.f6:=(Option.some.inj (Tryz.func6.symm.trans hfn)).symm
   exact ⟨askEditsUpto_k,fun j t ht => by
    rw [Tryz.params6] at ht
    have hm : t∈([22,23,59,61] : List TypeId):=by simpa using Array.mem_of_getElem? ht
    exact (show Tryz.prog.wantsStandIn t=false by simpa using List.all_eq_true.1 askEditsUpto_u t hm)⟩)
  askEditsUpto_g
end Go.Proofs.YtiallonafbejaaaGreatDoor
