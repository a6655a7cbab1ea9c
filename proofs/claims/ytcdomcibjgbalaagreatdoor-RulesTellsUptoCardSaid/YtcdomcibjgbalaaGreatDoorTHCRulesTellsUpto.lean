/- RulesTellsUpto: the row and the card. Conditions: none. -/
import Derived.Test.YtcdomcibjgbalaaGreatDoorTHLRulesTellsUpto
import Derived.Test.YtcdomcibjgbalaaGreatDoorTHJRulesTellsUpto
import Derived.Test.YtcdomcibjgbalaaGreatDoorRows
import Derived.Test.YtcdomcibjgbalaaGreatDoorTie
import Derived.Test.YtcdomcibjgbalaaGreatDoorCards
import Derived.ProofKit
import Derived.LaidMore
import Derived.Lay
import Derived.OpenShut
import Derived.Stop.Joined
import Derived.SevenTiedAt
import Derived.JoinedCond
set_option linter.all false
namespace Go.Proofs.YtcdomcibjgbalaaGreatDoor
open Go Go.Id Go.Proofs Go.ChangeShapes Go.WideShapes Go.ChangeAt Go.WideMaps Go.WideElems Go.RowKit
set_option maxRecDepth 100000
theorem ca2:Rows.RulesTellsUptoSaid :=
 OpenClaim.holds_of_cond 3 Tryz.f3 rfl rfl rfl rfl rfl rfl rfl ⟨rfl,rfl,rfl,rfl,rfl⟩ rfl rfl rfl rfl rfl bn8 Tryz.func3 br1
  (of_decide_eq_true (by kernel_rfl)) (by unfold Func.isWrapper;first|(rw[if_pos (by decide +kernel)];kernel_rfl)|(rw[if_neg (by decide +kernel)];exact ⟨rfl,rfl⟩))
  (λos started H enc _ F=>by rw[OpenClaim.pre_eq_preRow];exact br2 os started H enc F)
theorem rulesTellsUpto_card:Rows.RulesTellsUptoCardSaid :=
 Claim7.holds_tied_plain_at .later [] [.data, .data, .data, .data, .mapped, .data, .pinned] true (true, "fae4b8d63f7ddf2ba13636099a2752568ff2d5fa27116424a38b078dc5fed525") false
  ca2 (λ_ h=>by cases h) cx3 (λ_ h=>by cases h) rulesTellsUpto_row_tie rfl ⟨rfl,rfl⟩ cx6 rfl
  (λf fn hf hfn=>by
   obtain rfl : f = 3 := Option.some.inj ((show Tryz.prog.funcNamed "chandlery/chandlerylaw18.RulesTells" = some 3 from bn8).symm.trans hf) |>.symm
   obtain rfl:fn=Tryz.f3:=(Option.some.inj (Tryz.func3.symm.trans hfn)).symm
   exact ⟨cx4,λj t ht=>by
    rw[Tryz.params3] at ht;have hm:t∈([22,23,27,28]:List TypeId):=by simpa using Array.mem_of_getElem? ht
    exact (show Tryz.prog.wantsStandIn t=false by simpa using List.all_eq_true.1 cx7 t hm)⟩)
  cx5
end Go.Proofs.YtcdomcibjgbalaaGreatDoor
