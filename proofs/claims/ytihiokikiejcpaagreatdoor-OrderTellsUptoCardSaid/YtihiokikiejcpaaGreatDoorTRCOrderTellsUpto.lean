/- OrderTellsUpto: the row and the card. Conditions: none. -/
import Derived.Test.YtihiokikiejcpaaGreatDoorTRLOrderTellsUpto
import Derived.Test.YtihiokikiejcpaaGreatDoorTRJOrderTellsUpto
import Derived.Test.YtihiokikiejcpaaGreatDoorRows
import Derived.Test.YtihiokikiejcpaaGreatDoorTie
import Derived.Test.YtihiokikiejcpaaGreatDoorCards
import Derived.ProofKit
import Derived.LaidMore
import Derived.Lay
import Derived.OpenShut
import Derived.Stop.Joined
import Derived.SevenTiedAt
import Derived.JoinedCond
set_option linter.all false
namespace Go.Proofs.YtihiokikiejcpaaGreatDoor
open Go Go.Id Go.Proofs Go.ChangeShapes Go.WideShapes Go.ChangeAt Go.WideMaps Go.WideElems Go.RowKit
set_option maxRecDepth 100000
theorem bq2:Rows.OrderTellsUptoSaid :=
 OpenClaim.holds_of_cond 3 Tryz.f3 rfl rfl rfl rfl rfl rfl rfl ⟨rfl,rfl,rfl,rfl,rfl⟩ rfl rfl rfl rfl rfl be6 Tryz.func3 bh4
  (of_decide_eq_true (by kernel_rfl)) (by unfold Func.isWrapper; first|(rw[if_pos (by decide +kernel)]; kernel_rfl)|(rw[if_neg (by decide +kernel)]; exact ⟨rfl,rfl⟩))
  (fun os started H enc _ F=>by rw[OpenClaim.pre_eq_preRow]; exact bh6 os started H enc F)
theorem orderTellsUpto_card:Rows.OrderTellsUptoCardSaid :=
 Claim7.holds_tied_plain_at .later [] [.data, .mapped, .data, .pinned] true (true, "e85785a46eb4b1a7404f08a2adb7bef659370e40222779eb820186a5ac43c1ba") false
  bq2 (fun _ h=>by cases h) ci3 (fun _ h=>by cases h) orderTellsUpto_row_tie rfl ⟨rfl,rfl⟩ ci6 rfl
  (fun f fn hf hfn=>by
   obtain rfl : f = 3 := Option.some.inj ((show Tryz.prog.funcNamed "chandlery/chandlerylaw31.OrderTells" = some 3 from be6).symm.trans hf) |>.symm
   obtain rfl:fn=Tryz.f3:=(Option.some.inj (Tryz.func3.symm.trans hfn)).symm
   exact ⟨ci4,fun j t ht=>by
    rw[Tryz.params3] at ht;have hm:t∈([22,23,24,3,3]:List TypeId):=by simpa using Array.mem_of_getElem? ht
    exact (show Tryz.prog.wantsStandIn t=false by simpa using List.all_eq_true.1 ci7 t hm)⟩)
  ci5
end Go.Proofs.YtihiokikiejcpaaGreatDoor
