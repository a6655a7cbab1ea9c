/- FixesFewerUpto: the row and the card. Conditions: none. -/
import Derived.Test.YtoanajmmemjeeaaGreatDoorTCLFixesFewerUpto
import Derived.Test.YtoanajmmemjeeaaGreatDoorTCJFixesFewerUpto
import Derived.Test.YtoanajmmemjeeaaGreatDoorRows
import Derived.Test.YtoanajmmemjeeaaGreatDoorTie
import Derived.Test.YtoanajmmemjeeaaGreatDoorCards
import Derived.ProofKit
import Derived.LaidMore
import Derived.Lay
import Derived.OpenShut
import Derived.Stop.Joined
import Derived.SevenTiedAt
import Derived.JoinedCond
set_option linter.all false
namespace Go.Proofs.YtoanajmmemjeeaaGreatDoor
open Go Go.Id Go.Proofs Go.ChangeShapes Go.WideShapes Go.ChangeAt Go.WideMaps Go.WideElems Go.RowKit
set_option maxRecDepth 100000
def Q0:Rows.FixesFewerUptoSaid :=OpenClaim.holds_of_cond 3 Tryz.f3 rfl rfl rfl rfl rfl rfl rfl ⟨rfl,rfl,rfl,rfl,rfl⟩ rfl rfl rfl rfl rfl JT Tryz.func3 QY (of_decide_eq_true (by kernel_rfl)) (by unfold Func.isWrapper;first|(rw[if_pos (by decide +kernel)];kernel_rfl)|(rw[if_neg (by decide +kernel)];exact ⟨rfl,rfl⟩)) (λos started H enc _ F=>by rw[OpenClaim.pre_eq_preRow];exact QZ os started H enc F)
theorem fixesFewerUpto_card:Rows.FixesFewerUptoCardSaid :=Claim7.holds_tied_plain_at .later [] [.data, .data, .data, .data, .mapped, .data, .pinned] true (true, "d005d6e22a4d5e59801b7a54745875a80488ca70429ccb22d053d7a220fcd3fe") false Q0 (λ_ h=>by cases h) Q7 (λ_ h=>by cases h) fixesFewerUpto_row_tie rfl ⟨rfl,rfl⟩ Ra rfl (λf fn hf hfn=>by obtain rfl : f = 3 := Option.some.inj ((show Tryz.prog.funcNamed "chandlery/chandlerylaw29.FixesFewer" = some 3 from JT).symm.trans hf) |>.symm;obtain rfl:fn=Tryz.f3:=(Option.some.inj (Tryz.func3.symm.trans hfn)).symm;exact ⟨Q8,λj t ht=>by rw[Tryz.params3]at ht;have hm:t∈([22,23,27,3]:List TypeId):=(by simpa using Array.mem_of_getElem? ht);exact (show Tryz.prog.wantsStandIn t=false by simpa using List.all_eq_true.1 Rb t hm)⟩) Q9
end Go.Proofs.YtoanajmmemjeeaaGreatDoor
