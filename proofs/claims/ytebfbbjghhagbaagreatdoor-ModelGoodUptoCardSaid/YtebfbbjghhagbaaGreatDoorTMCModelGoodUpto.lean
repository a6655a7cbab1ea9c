/- ModelGoodUpto: the row and the card. Conditions: none. -/
import Derived.Test.YtebfbbjghhagbaaGreatDoorTMLModelGoodUpto
import Derived.Test.YtebfbbjghhagbaaGreatDoorTMJModelGoodUpto
import Derived.Test.YtebfbbjghhagbaaGreatDoorRows
import Derived.Test.YtebfbbjghhagbaaGreatDoorTie
import Derived.Test.YtebfbbjghhagbaaGreatDoorCards
import Derived.ProofKit
import Derived.LaidMore
import Derived.Lay
import Derived.OpenShut
import Derived.Stop.Joined
import Derived.SevenTiedAt
import Derived.JoinedCond
set_option linter.all false
namespace Go.Proofs.YtebfbbjghhagbaaGreatDoor
open Go Go.Id Go.Proofs Go.ChangeShapes Go.WideShapes Go.ChangeAt Go.WideMaps Go.WideElems Go.RowKit
set_option maxRecDepth 100000
theorem bz9:Rows.ModelGoodUptoSaid :=
 OpenClaim.holds_of_cond 6 Tryz.f6 rfl rfl rfl rfl rfl rfl rfl ⟨rfl,rfl,rfl,rfl,rfl⟩ rfl rfl rfl rfl rfl bn8 Tryz.func6 bt3
  (of_decide_eq_true (by kernel_rfl)) (by unfold Func.isWrapper; first|(rw[if_pos (by decide +kernel)]; kernel_rfl)|(rw[if_neg (by decide +kernel)]; exact ⟨rfl,rfl⟩))
  (fun os started H enc _ F=>by rw[OpenClaim.pre_eq_preRow]; exact bt4 os started H enc F)
theorem modelGoodUpto_card:Rows.ModelGoodUptoCardSaid :=
 Claim7.holds_tied_plain_at .later [] [.data, .mapped, .data, .data, .pinned] true (true, "6c5220b7435601f861055acaf4e7a8d79dad778511d1499d79b58ce15ce6db41") false
  bz9 (fun _ h=>by cases h) cw4 (fun _ h=>by cases h) modelGoodUpto_row_tie rfl ⟨rfl,rfl⟩ cw7 rfl
  (fun f fn hf hfn=>by
   obtain rfl : f = 6 := Option.some.inj ((show Tryz.prog.funcNamed "chandlery/chandlerylaw16.ModelGood" = some 6 from bn8).symm.trans hf) |>.symm
   obtain rfl:fn=Tryz.f6:=(Option.some.inj (Tryz.func6.symm.trans hfn)).symm
   exact ⟨cw5,fun j t ht=>by
    rw[Tryz.params6] at ht;have hm:t∈([22,23,27,35]:List TypeId):=by simpa using Array.mem_of_getElem? ht
    exact (show Tryz.prog.wantsStandIn t=false by simpa using List.all_eq_true.1 cw8 t hm)⟩)
  cw6
end Go.Proofs.YtebfbbjghhagbaaGreatDoor
