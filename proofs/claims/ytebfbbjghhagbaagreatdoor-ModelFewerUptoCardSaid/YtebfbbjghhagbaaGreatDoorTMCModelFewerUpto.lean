/- ModelFewerUpto: the row and the card. Conditions: none. -/
import Derived.Test.YtebfbbjghhagbaaGreatDoorTMLModelFewerUpto
import Derived.Test.YtebfbbjghhagbaaGreatDoorTMJModelFewerUpto
import Derived.Test.YtebfbbjghhagbaaGreatDoorRows
import Derived.Test.YtebfbbjghhagbaaGreatDoorTie
import Derived.Test.YtebfbbjghhagbaaGreatDoorCards
import Derived.ProofKit
import Derived.LaidMore
import Derived.Lay
import Derived.OpenShut
import Derived.Stop.Joined
import Derived.SevenTiedAt
import Derived.JoinedCond
set_option linter.all false
namespace Go.Proofs.YtebfbbjghhagbaaGreatDoor
open Go Go.Id Go.Proofs Go.ChangeShapes Go.WideShapes Go.ChangeAt Go.WideMaps Go.WideElems Go.RowKit
set_option maxRecDepth 100000
theorem bv8:Rows.ModelFewerUptoSaid :=
 OpenClaim.holds_of_cond 4 Tryz.f4 rfl rfl rfl rfl rfl rfl rfl ⟨rfl,rfl,rfl,rfl,rfl⟩ rfl rfl rfl rfl rfl bk6 Tryz.func4 bn9
  (of_decide_eq_true (by kernel_rfl)) (by unfold Func.isWrapper; first|(rw[if_pos (by decide +kernel)]; kernel_rfl)|(rw[if_neg (by decide +kernel)]; exact ⟨rfl,rfl⟩))
  (fun os started H enc _ F=>by rw[OpenClaim.pre_eq_preRow]; exact bo1 os started H enc F)
theorem modelFewerUpto_card:Rows.ModelFewerUptoCardSaid :=
 Claim7.holds_tied_plain_at .later [] [.data, .mapped, .data, .data, .pinned] true (true, "6c5220b7435601f861055acaf4e7a8d79dad778511d1499d79b58ce15ce6db41") false
  bv8 (fun _ h=>by cases h) co9 (fun _ h=>by cases h) modelFewerUpto_row_tie rfl ⟨rfl,rfl⟩ cp4 rfl
  (fun f fn hf hfn=>by
   obtain rfl : f = 4 := Option.some.inj ((show Tryz.prog.funcNamed "chandlery/chandlerylaw16.ModelFewer" = some 4 from bk6).symm.trans hf) |>.symm
   obtain rfl:fn=Tryz.f4:=(Option.some.inj (Tryz.func4.symm.trans hfn)).symm
   exact ⟨cp1,fun j t ht=>by
    rw[Tryz.params4] at ht;have hm:t∈([22,23,27,35,35]:List TypeId):=by simpa using Array.mem_of_getElem? ht
    exact (show Tryz.prog.wantsStandIn t=false by simpa using List.all_eq_true.1 cp5 t hm)⟩)
  cp3
end Go.Proofs.YtebfbbjghhagbaaGreatDoor
