/- AskItselfUpto: the row and the card. Conditions: none. -/
import Derived.Test.YtiallonafbejaaaGreatDoorTULAskItselfUpto
import Derived.Test.YtiallonafbejaaaGreatDoorTUJAskItselfUpto
import Derived.Test.YtiallonafbejaaaGreatDoorRows
import Derived.Test.YtiallonafbejaaaGreatDoorTie
import Derived.Test.YtiallonafbejaaaGreatDoorCards
import Derived.ProofKit
import Derived.LaidMore
import Derived.Lay
import Derived.OpenShut
import Derived.Stop.Joined
import Derived.SevenTiedAt
import Derived.JoinedCond
set_option linter.all false
namespace Go.Proofs.YtiallonafbejaaaGreatDoor
open Go Go.Id Go.Proofs Go.ChangeShapes Go.WideShapes Go.ChangeAt Go.WideMaps Go.WideElems Go.RowKit
set_option maxRecDepth 100000
theorem askItselfUpto_said : Rows.AskItselfUptoSaid :=
 OpenClaim.holds_of_cond 7 Tryz.f7 rfl rfl rfl rfl rfl rfl rfl ⟨rfl,rfl,rfl,rfl,rfl⟩ rfl rfl rfl rfl rfl askItselfUpto_n Tryz.func7 askItselfUpto_closed
  (of_decide_eq_true (by kernel_rfl)) (by unfold Func.isWrapper; first | (rw [if_pos (by decide +kernel)]; kernel_rfl) | (rw [if_neg (by decide +kernel)]; exact ⟨rfl,rfl⟩))
  (fun os started H enc _ F => by rw [OpenClaim.pre_eq_preRow]; exact askItselfUpto_lifted os started H enc F)
theorem askItselfUpto_card : Rows.AskItselfUptoCardSaid :=
 Claim7.holds_tied_plain_at .later [] [.data, .mapped, .data, .pinned] true (true, "4ea36aacffac5db0ddb70f5fb71fb180dd38bc1fb11ef7841eddd6f9c9cf468e") false
  askItselfUpto_said (fun _ h => by cases h) askItselfUpto_w (fun _ h => by cases h) askItselfUpto_row_tie rfl ⟨rfl,rfl⟩ askItselfUpto_m rfl
  (fun f fn hf hfn => by
   obtain rfl : f = 7 := Option.some.inj ((show Tryz.prog.funcNamed "chandlery/chandlerylaw15.AskItself" = some 7 from askItselfUpto_n).symm.trans hf) |>.symm
   obtain rfl : fn=Tryz.f7:=(Option.some.inj (Tryz.func7.symm.trans hfn)).symm
   exact ⟨askItselfUpto_k,fun j t ht => by
    rw [Tryz.params7] at ht
    have hm : t∈([22,23,59] : List TypeId):=by simpa using Array.mem_of_getElem? ht
    exact (show Tryz.prog.wantsStandIn t=false by simpa using List.all_eq_true.1 askItselfUpto_u t hm)⟩)
  askItselfUpto_g
end Go.Proofs.YtiallonafbejaaaGreatDoor
