/- AskTellsUpto: the row and the card. Conditions: none. -/
import Derived.Test.YtphnnoolpagclaaGreatDoorTQLAskTellsUpto
import Derived.Test.YtphnnoolpagclaaGreatDoorTQJAskTellsUpto
import Derived.Test.YtphnnoolpagclaaGreatDoorRows
import Derived.Test.YtphnnoolpagclaaGreatDoorTie
import Derived.Test.YtphnnoolpagclaaGreatDoorCards
import Derived.ProofKit
import Derived.LaidMore
import Derived.Lay
import Derived.OpenShut
import Derived.Stop.Joined
import Derived.SevenTiedAt
import Derived.JoinedCond
set_option linter.all false
namespace Go.Proofs.YtphnnoolpagclaaGreatDoor
open Go Go.Id Go.Proofs Go.ChangeShapes Go.WideShapes Go.ChangeAt Go.WideMaps Go.WideElems Go.RowKit
set_option maxRecDepth 100000
theorem cd2:Rows.AskTellsUptoSaid :=
 OpenClaim.holds_of_cond 3 Tryz.f3 rfl rfl rfl rfl rfl rfl rfl ⟨rfl,rfl,rfl,rfl,rfl⟩ rfl rfl rfl rfl rfl bn8 Tryz.func3 bp5
  (of_decide_eq_true (by kernel_rfl)) (by unfold Func.isWrapper; first|(rw[if_pos (by decide +kernel)]; kernel_rfl)|(rw[if_neg (by decide +kernel)]; exact ⟨rfl,rfl⟩))
  (fun os started H enc _ F=>by rw[OpenClaim.pre_eq_preRow]; exact bp6 os started H enc F)
theorem askTellsUpto_card:Rows.AskTellsUptoCardSaid :=
 Claim7.holds_tied_plain_at .later [] [.data, .mapped, .data, .pinned] true (true, "277f553fe8c43381380165efa55c8aa85e9f7e7fa0f0ed85508083717f63626a") false
  cd2 (fun _ h=>by cases h) cq3 (fun _ h=>by cases h) askTellsUpto_row_tie rfl ⟨rfl,rfl⟩ cq6 rfl
  (fun f fn hf hfn=>by
   obtain rfl : f = 3 := Option.some.inj ((show Tryz.prog.funcNamed "chandlery/chandlerylaw15.AskTells" = some 3 from bn8).symm.trans hf) |>.symm
   obtain rfl:fn=Tryz.f3:=(Option.some.inj (Tryz.func3.symm.trans hfn)).symm
   exact ⟨cq4,fun j t ht=>by
    rw[Tryz.params3] at ht;have hm:t∈([22,23,27,3,3,28]:List TypeId):=by simpa using Array.mem_of_getElem? ht
    exact (show Tryz.prog.wantsStandIn t=false by simpa using List.all_eq_true.1 cq7 t hm)⟩)
  cq5
end Go.Proofs.YtphnnoolpagclaaGreatDoor
