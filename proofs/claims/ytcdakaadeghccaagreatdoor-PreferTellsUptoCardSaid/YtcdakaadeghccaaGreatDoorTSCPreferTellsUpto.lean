/- PreferTellsUpto: the row and the card. Conditions: none. -/
import Derived.Test.YtcdakaadeghccaaGreatDoorTSLPreferTellsUpto
import Derived.Test.YtcdakaadeghccaaGreatDoorTSJPreferTellsUpto
import Derived.Test.YtcdakaadeghccaaGreatDoorRows
import Derived.Test.YtcdakaadeghccaaGreatDoorTie
import Derived.Test.YtcdakaadeghccaaGreatDoorCards
import Derived.ProofKit
import Derived.LaidMore
import Derived.Lay
import Derived.OpenShut
import Derived.Stop.Joined
import Derived.SevenTiedAt
import Derived.JoinedCond
set_option linter.all false
namespace Go.Proofs.YtcdakaadeghccaaGreatDoor
open Go Go.Id Go.Proofs Go.ChangeShapes Go.WideShapes Go.ChangeAt Go.WideMaps Go.WideElems Go.RowKit
set_option maxRecDepth 100000
theorem bv1:Rows.PreferTellsUptoSaid :=
 OpenClaim.holds_of_cond 3 Tryz.f3 rfl rfl rfl rfl rfl rfl rfl ⟨rfl,rfl,rfl,rfl,rfl⟩ rfl rfl rfl rfl rfl bh2 Tryz.func3 bk9
  (of_decide_eq_true (by kernel_rfl)) (by unfold Func.isWrapper; first|(rw[if_pos (by decide +kernel)]; kernel_rfl)|(rw[if_neg (by decide +kernel)]; exact ⟨rfl,rfl⟩))
  (fun os started H enc _ F=>by rw[OpenClaim.pre_eq_preRow]; exact bl4 os started H enc F)
theorem preferTellsUpto_card:Rows.PreferTellsUptoCardSaid :=
 Claim7.holds_tied_plain_at .later [] [.data, .mapped, .data, .data, .pinned] true (true, "7341f6d47c3e1a79c6faba272345b5a8748c471ed6f3e8335a22dff27960b000") false
  bv1 (fun _ h=>by cases h) cn3 (fun _ h=>by cases h) preferTellsUpto_row_tie rfl ⟨rfl,rfl⟩ cn6 rfl
  (fun f fn hf hfn=>by
   obtain rfl : f = 3 := Option.some.inj ((show Tryz.prog.funcNamed "chandlery/chandlerylaw25.PreferTells" = some 3 from bh2).symm.trans hf) |>.symm
   obtain rfl:fn=Tryz.f3:=(Option.some.inj (Tryz.func3.symm.trans hfn)).symm
   exact ⟨cn4,fun j t ht=>by
    rw[Tryz.params3] at ht;have hm:t∈([22,23,27,28,3,3]:List TypeId):=by simpa using Array.mem_of_getElem? ht
    exact (show Tryz.prog.wantsStandIn t=false by simpa using List.all_eq_true.1 cn7 t hm)⟩)
  cn5
end Go.Proofs.YtcdakaadeghccaaGreatDoor
