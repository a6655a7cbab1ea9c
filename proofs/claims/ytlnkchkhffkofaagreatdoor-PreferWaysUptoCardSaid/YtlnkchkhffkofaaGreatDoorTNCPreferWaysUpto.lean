/- PreferWaysUpto: the row and the card. Conditions: none. -/
import Derived.Test.YtlnkchkhffkofaaGreatDoorTNLPreferWaysUpto
import Derived.Test.YtlnkchkhffkofaaGreatDoorTNJPreferWaysUpto
import Derived.Test.YtlnkchkhffkofaaGreatDoorRows
import Derived.Test.YtlnkchkhffkofaaGreatDoorTie
import Derived.Test.YtlnkchkhffkofaaGreatDoorCards
import Derived.ProofKit
import Derived.LaidMore
import Derived.Lay
import Derived.OpenShut
import Derived.Stop.Joined
import Derived.SevenTiedAt
import Derived.JoinedCond
set_option linter.all false
namespace Go.Proofs.YtlnkchkhffkofaaGreatDoor
open Go Go.Id Go.Proofs Go.ChangeShapes Go.WideShapes Go.ChangeAt Go.WideMaps Go.WideElems Go.RowKit
set_option maxRecDepth 100000
theorem bs5:Rows.PreferWaysUptoSaid :=
 OpenClaim.holds_of_cond 4 Tryz.f4 rfl rfl rfl rfl rfl rfl rfl ⟨rfl,rfl,rfl,rfl,rfl⟩ rfl rfl rfl rfl rfl bg4 Tryz.func4 bj1
  (of_decide_eq_true (by kernel_rfl)) (by unfold Func.isWrapper; first|(rw[if_pos (by decide +kernel)]; kernel_rfl)|(rw[if_neg (by decide +kernel)]; exact ⟨rfl,rfl⟩))
  (fun os started H enc _ F=>by rw[OpenClaim.pre_eq_preRow]; exact bj2 os started H enc F)
theorem preferWaysUpto_card:Rows.PreferWaysUptoCardSaid :=
 Claim7.holds_tied_plain_at .later [] [.data, .mapped, .data, .data, .pinned] true (true, "0d60a1630f75d1b8e9fc6e2dd6c65ee2d065bb972a8a031077b4901a03e07f7c") false
  bs5 (fun _ h=>by cases h) cm3 (fun _ h=>by cases h) preferWaysUpto_row_tie rfl ⟨rfl,rfl⟩ cm6 rfl
  (fun f fn hf hfn=>by
   obtain rfl : f = 4 := Option.some.inj ((show Tryz.prog.funcNamed "chandlery/chandlerylaw25.PreferWays" = some 4 from bg4).symm.trans hf) |>.symm
   obtain rfl:fn=Tryz.f4:=(Option.some.inj (Tryz.func4.symm.trans hfn)).symm
   exact ⟨cm4,fun j t ht=>by
    rw[Tryz.params4] at ht;have hm:t∈([22,23,43,3]:List TypeId):=by simpa using Array.mem_of_getElem? ht
    exact (show Tryz.prog.wantsStandIn t=false by simpa using List.all_eq_true.1 cm7 t hm)⟩)
  cm5
end Go.Proofs.YtlnkchkhffkofaaGreatDoor
