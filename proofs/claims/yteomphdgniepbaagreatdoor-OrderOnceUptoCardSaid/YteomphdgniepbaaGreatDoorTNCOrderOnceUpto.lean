/- OrderOnceUpto: the row and the card. Conditions: none. -/
import Derived.Test.YteomphdgniepbaaGreatDoorTNLOrderOnceUpto
import Derived.Test.YteomphdgniepbaaGreatDoorTNJOrderOnceUpto
import Derived.Test.YteomphdgniepbaaGreatDoorRows
import Derived.Test.YteomphdgniepbaaGreatDoorTie
import Derived.Test.YteomphdgniepbaaGreatDoorCards
import Derived.ProofKit
import Derived.LaidMore
import Derived.Lay
import Derived.OpenShut
import Derived.Stop.Joined
import Derived.SevenTiedAt
import Derived.JoinedCond
set_option linter.all false
namespace Go.Proofs.YteomphdgniepbaaGreatDoor
open Go Go.Id Go.Proofs Go.ChangeShapes Go.WideShapes Go.ChangeAt Go.WideMaps Go.WideElems Go.RowKit
set_option maxRecDepth 100000
theorem bs4:Rows.OrderOnceUptoSaid :=
 OpenClaim.holds_of_cond 4 Tryz.f4 rfl rfl rfl rfl rfl rfl rfl ⟨rfl,rfl,rfl,rfl,rfl⟩ rfl rfl rfl rfl rfl bg3 Tryz.func4 bm6
  (of_decide_eq_true (by kernel_rfl)) (by unfold Func.isWrapper; first|(rw[if_pos (by decide +kernel)]; kernel_rfl)|(rw[if_neg (by decide +kernel)]; exact ⟨rfl,rfl⟩))
  (fun os started H enc _ F=>by rw[OpenClaim.pre_eq_preRow]; exact bm7 os started H enc F)
theorem orderOnceUpto_card:Rows.OrderOnceUptoCardSaid :=
 Claim7.holds_tied_plain_at .later [] [.data, .mapped, .data, .pinned] true (true, "644371ce53d3e19f20d01062e5be65a7df3798e1e2114831b21592f758e30cd2") false
  bs4 (fun _ h=>by cases h) cn8 (fun _ h=>by cases h) orderOnceUpto_row_tie rfl ⟨rfl,rfl⟩ co2 rfl
  (fun f fn hf hfn=>by
   obtain rfl : f = 4 := Option.some.inj ((show Tryz.prog.funcNamed "chandlery/chandlerylaw31.OrderOnce" = some 4 from bg3).symm.trans hf) |>.symm
   obtain rfl:fn=Tryz.f4:=(Option.some.inj (Tryz.func4.symm.trans hfn)).symm
   exact ⟨cn9,fun j t ht=>by
    rw[Tryz.params4] at ht;have hm:t∈([22,23,42,3]:List TypeId):=by simpa using Array.mem_of_getElem? ht
    exact (show Tryz.prog.wantsStandIn t=false by simpa using List.all_eq_true.1 co3 t hm)⟩)
  co1
end Go.Proofs.YteomphdgniepbaaGreatDoor
