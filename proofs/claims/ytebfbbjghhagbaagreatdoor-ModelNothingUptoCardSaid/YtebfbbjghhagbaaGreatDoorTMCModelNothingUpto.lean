/- ModelNothingUpto: the row and the card. Conditions: none. -/
import Derived.Test.YtebfbbjghhagbaaGreatDoorTMLModelNothingUpto
import Derived.Test.YtebfbbjghhagbaaGreatDoorTMJModelNothingUpto
import Derived.Test.YtebfbbjghhagbaaGreatDoorRows
import Derived.Test.YtebfbbjghhagbaaGreatDoorTie
import Derived.Test.YtebfbbjghhagbaaGreatDoorCards
import Derived.ProofKit
import Derived.LaidMore
import Derived.Lay
import Derived.OpenShut
import Derived.Stop.Joined
import Derived.SevenTiedAt
import Derived.JoinedCond
set_option linter.all false
namespace Go.Proofs.YtebfbbjghhagbaaGreatDoor
open Go Go.Id Go.Proofs Go.ChangeShapes Go.WideShapes Go.ChangeAt Go.WideMaps Go.WideElems Go.RowKit
set_option maxRecDepth 100000
theorem bo2:Rows.ModelNothingUptoSaid :=
 OpenClaim.holds_of_cond 3 Tryz.f3 rfl rfl rfl rfl rfl rfl rfl ⟨rfl,rfl,rfl,rfl,rfl⟩ rfl rfl rfl rfl rfl bd8 Tryz.func3 bj2
  (of_decide_eq_true (by kernel_rfl)) (by unfold Func.isWrapper; first|(rw[if_pos (by decide +kernel)]; kernel_rfl)|(rw[if_neg (by decide +kernel)]; exact ⟨rfl,rfl⟩))
  (fun os started H enc _ F=>by rw[OpenClaim.pre_eq_preRow]; exact bj3 os started H enc F)
theorem modelNothingUpto_card:Rows.ModelNothingUptoCardSaid :=
 Claim7.holds_tied_plain_at .later [] [.data, .mapped, .data, .data, .pinned] true (true, "6c5220b7435601f861055acaf4e7a8d79dad778511d1499d79b58ce15ce6db41") false
  bo2 (fun _ h=>by cases h) ca2 (fun _ h=>by cases h) modelNothingUpto_row_tie rfl ⟨rfl,rfl⟩ ca5 rfl
  (fun f fn hf hfn=>by
   obtain rfl : f = 3 := Option.some.inj ((show Tryz.prog.funcNamed "chandlery/chandlerylaw16.ModelNothing" = some 3 from bd8).symm.trans hf) |>.symm
   obtain rfl:fn=Tryz.f3:=(Option.some.inj (Tryz.func3.symm.trans hfn)).symm
   exact ⟨ca3,fun j t ht=>by
    rw[Tryz.params3] at ht;have hm:t∈([22,23,27]:List TypeId):=by simpa using Array.mem_of_getElem? ht
    exact (show Tryz.prog.wantsStandIn t=false by simpa using List.all_eq_true.1 ca6 t hm)⟩)
  ca4
end Go.Proofs.YtebfbbjghhagbaaGreatDoor
