/- ModelNeedsUpto: the row and the card. Conditions: none. -/
import Derived.Test.YtebfbbjghhagbaaGreatDoorTMLModelNeedsUpto
import Derived.Test.YtebfbbjghhagbaaGreatDoorTMJModelNeedsUpto
import Derived.Test.YtebfbbjghhagbaaGreatDoorRows
import Derived.Test.YtebfbbjghhagbaaGreatDoorTie
import Derived.Test.YtebfbbjghhagbaaGreatDoorCards
import Derived.ProofKit
import Derived.LaidMore
import Derived.Lay
import Derived.OpenShut
import Derived.Stop.Joined
import Derived.SevenTiedAt
import Derived.JoinedCond
set_option linter.all false
namespace Go.Proofs.YtebfbbjghhagbaaGreatDoor
open Go Go.Id Go.Proofs Go.ChangeShapes Go.WideShapes Go.ChangeAt Go.WideMaps Go.WideElems Go.RowKit
set_option maxRecDepth 100000
theorem bv2:Rows.ModelNeedsUptoSaid :=
 OpenClaim.holds_of_cond 7 Tryz.f7 rfl rfl rfl rfl rfl rfl rfl ⟨rfl,rfl,rfl,rfl,rfl⟩ rfl rfl rfl rfl rfl bk3 Tryz.func7 bn6
  (of_decide_eq_true (by kernel_rfl)) (by unfold Func.isWrapper; first|(rw[if_pos (by decide +kernel)]; kernel_rfl)|(rw[if_neg (by decide +kernel)]; exact ⟨rfl,rfl⟩))
  (fun os started H enc _ F=>by rw[OpenClaim.pre_eq_preRow]; exact bn7 os started H enc F)
theorem modelNeedsUpto_card:Rows.ModelNeedsUptoCardSaid :=
 Claim7.holds_tied_plain_at .later [] [.data, .mapped, .data, .data, .pinned] true (true, "6c5220b7435601f861055acaf4e7a8d79dad778511d1499d79b58ce15ce6db41") false
  bv2 (fun _ h=>by cases h) co4 (fun _ h=>by cases h) modelNeedsUpto_row_tie rfl ⟨rfl,rfl⟩ co7 rfl
  (fun f fn hf hfn=>by
   obtain rfl : f = 7 := Option.some.inj ((show Tryz.prog.funcNamed "chandlery/chandlerylaw16.ModelNeeds" = some 7 from bk3).symm.trans hf) |>.symm
   obtain rfl:fn=Tryz.f7:=(Option.some.inj (Tryz.func7.symm.trans hfn)).symm
   exact ⟨co5,fun j t ht=>by
    rw[Tryz.params7] at ht;have hm:t∈([22,23,27,35]:List TypeId):=by simpa using Array.mem_of_getElem? ht
    exact (show Tryz.prog.wantsStandIn t=false by simpa using List.all_eq_true.1 co8 t hm)⟩)
  co6
end Go.Proofs.YtebfbbjghhagbaaGreatDoor
