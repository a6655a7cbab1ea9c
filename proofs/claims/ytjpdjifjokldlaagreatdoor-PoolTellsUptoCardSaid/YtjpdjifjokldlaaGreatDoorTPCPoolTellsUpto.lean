/- PoolTellsUpto: the row and the card. Conditions: none. -/
import Derived.Test.YtjpdjifjokldlaaGreatDoorTPLPoolTellsUpto
import Derived.Test.YtjpdjifjokldlaaGreatDoorTPJPoolTellsUpto
import Derived.Test.YtjpdjifjokldlaaGreatDoorRows
import Derived.Test.YtjpdjifjokldlaaGreatDoorTie
import Derived.Test.YtjpdjifjokldlaaGreatDoorCards
import Derived.ProofKit
import Derived.LaidMore
import Derived.Lay
import Derived.OpenShut
import Derived.Stop.Joined
import Derived.SevenTiedAt
import Derived.JoinedCond
set_option linter.all false
namespace Go.Proofs.YtjpdjifjokldlaaGreatDoor
open Go Go.Id Go.Proofs Go.ChangeShapes Go.WideShapes Go.ChangeAt Go.WideMaps Go.WideElems Go.RowKit
set_option maxRecDepth 100000
theorem br3:Rows.PoolTellsUptoSaid :=
 OpenClaim.holds_of_cond 3 Tryz.f3 rfl rfl rfl rfl rfl rfl rfl ⟨rfl,rfl,rfl,rfl,rfl⟩ rfl rfl rfl rfl rfl bf4 Tryz.func3 bk8
  (of_decide_eq_true (by kernel_rfl)) (by unfold Func.isWrapper; first|(rw[if_pos (by decide +kernel)]; kernel_rfl)|(rw[if_neg (by decide +kernel)]; exact ⟨rfl,rfl⟩))
  (fun os started H enc _ F=>by rw[OpenClaim.pre_eq_preRow]; exact bk9 os started H enc F)
theorem poolTellsUpto_card:Rows.PoolTellsUptoCardSaid :=
 Claim7.holds_tied_plain_at .later [] [.data, .mapped, .data, .pinned] true (true, "3c581072be16a64a69170222decda019ddfee5f5a479ac71331cd3279e6da083") false
  br3 (fun _ h=>by cases h) cj9 (fun _ h=>by cases h) poolTellsUpto_row_tie rfl ⟨rfl,rfl⟩ ck5 rfl
  (fun f fn hf hfn=>by
   obtain rfl : f = 3 := Option.some.inj ((show Tryz.prog.funcNamed "chandlery/chandlerylaw12.PoolTells" = some 3 from bf4).symm.trans hf) |>.symm
   obtain rfl:fn=Tryz.f3:=(Option.some.inj (Tryz.func3.symm.trans hfn)).symm
   exact ⟨ck3,fun j t ht=>by
    rw[Tryz.params3] at ht;have hm:t∈([22,23,3,3,9]:List TypeId):=by simpa using Array.mem_of_getElem? ht
    exact (show Tryz.prog.wantsStandIn t=false by simpa using List.all_eq_true.1 ck6 t hm)⟩)
  ck4
end Go.Proofs.YtjpdjifjokldlaaGreatDoor
