/- OrderNeedsUpto: the row and the card. Conditions: none. -/
import Derived.Test.YtlnkchkhffkofaaGreatDoorTOLOrderNeedsUpto
import Derived.Test.YtlnkchkhffkofaaGreatDoorTOJOrderNeedsUpto
import Derived.Test.YtlnkchkhffkofaaGreatDoorRows
import Derived.Test.YtlnkchkhffkofaaGreatDoorTie
import Derived.Test.YtlnkchkhffkofaaGreatDoorCards
import Derived.ProofKit
import Derived.LaidMore
import Derived.Lay
import Derived.OpenShut
import Derived.Stop.Joined
import Derived.SevenTiedAt
import Derived.JoinedCond
set_option linter.all false
namespace Go.Proofs.YtlnkchkhffkofaaGreatDoor
open Go Go.Id Go.Proofs Go.ChangeShapes Go.WideShapes Go.ChangeAt Go.WideMaps Go.WideElems Go.RowKit
set_option maxRecDepth 100000
theorem bq3:Rows.OrderNeedsUptoSaid :=
 OpenClaim.holds_of_cond 3 Tryz.f3 rfl rfl rfl rfl rfl rfl rfl ⟨rfl,rfl,rfl,rfl,rfl⟩ rfl rfl rfl rfl rfl be2 Tryz.func3 bh3
  (of_decide_eq_true (by kernel_rfl)) (by unfold Func.isWrapper; first|(rw[if_pos (by decide +kernel)]; kernel_rfl)|(rw[if_neg (by decide +kernel)]; exact ⟨rfl,rfl⟩))
  (fun os started H enc _ F=>by rw[OpenClaim.pre_eq_preRow]; exact bh4 os started H enc F)
theorem orderNeedsUpto_card:Rows.OrderNeedsUptoCardSaid :=
 Claim7.holds_tied_plain_at .later [] [.data, .mapped, .data, .pinned] true (true, "0d60a1630f75d1b8e9fc6e2dd6c65ee2d065bb972a8a031077b4901a03e07f7c") false
  bq3 (fun _ h=>by cases h) ci1 (fun _ h=>by cases h) orderNeedsUpto_row_tie rfl ⟨rfl,rfl⟩ ci4 rfl
  (fun f fn hf hfn=>by
   obtain rfl : f = 3 := Option.some.inj ((show Tryz.prog.funcNamed "chandlery/chandlerylaw31.OrderNeeds" = some 3 from be2).symm.trans hf) |>.symm
   obtain rfl:fn=Tryz.f3:=(Option.some.inj (Tryz.func3.symm.trans hfn)).symm
   exact ⟨ci2,fun j t ht=>by
    rw[Tryz.params3] at ht;have hm:t∈([22,23,24]:List TypeId):=by simpa using Array.mem_of_getElem? ht
    exact (show Tryz.prog.wantsStandIn t=false by simpa using List.all_eq_true.1 ci5 t hm)⟩)
  ci3
end Go.Proofs.YtlnkchkhffkofaaGreatDoor
