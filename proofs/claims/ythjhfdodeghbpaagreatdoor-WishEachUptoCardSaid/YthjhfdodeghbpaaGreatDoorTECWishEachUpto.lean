/- WishEachUpto: the row and the card. Conditions: none. -/
import Derived.Test.YthjhfdodeghbpaaGreatDoorTELWishEachUpto
import Derived.Test.YthjhfdodeghbpaaGreatDoorTEJWishEachUpto
import Derived.Test.YthjhfdodeghbpaaGreatDoorRows
import Derived.Test.YthjhfdodeghbpaaGreatDoorTie
import Derived.Test.YthjhfdodeghbpaaGreatDoorCards
import Derived.ProofKit
import Derived.LaidMore
import Derived.Lay
import Derived.OpenShut
import Derived.Stop.Joined
import Derived.SevenTiedAt
import Derived.JoinedCond
set_option linter.all false
namespace Go.Proofs.YthjhfdodeghbpaaGreatDoor
open Go Go.Id Go.Proofs Go.ChangeShapes Go.WideShapes Go.ChangeAt Go.WideMaps Go.WideElems Go.RowKit
set_option maxRecDepth 100000
def cs4:Rows.WishEachUptoSaid :=
 OpenClaim.holds_of_cond 3 Tryz.f3 rfl rfl rfl rfl rfl rfl rfl ⟨rfl,rfl,rfl,rfl,rfl⟩ rfl rfl rfl rfl rfl by6 Tryz.func3 ca8
  (of_decide_eq_true (by kernel_rfl)) (by unfold Func.isWrapper;first|(rw[if_pos (by decide +kernel)];kernel_rfl)|(rw[if_neg (by decide +kernel)];exact ⟨rfl,rfl⟩))
  (λos started H enc _ F=>by rw[OpenClaim.pre_eq_preRow];exact ca9 os started H enc F)
theorem wishEachUpto_card:Rows.WishEachUptoCardSaid :=
 Claim7.holds_tied_plain_at .later [] [.data, .data, .data, .data, .mapped, .data, .data, .pinned] true (true, "be51924e264aa4305ae1f66d4dcc7e5caf46fc3d248551d3e7010cccd3c2bf1e") false
  cs4 (λ_ h=>by cases h) dl1 (λ_ h=>by cases h) wishEachUpto_row_tie rfl ⟨rfl,rfl⟩ dl4 rfl
  (λf fn hf hfn=>by
   obtain rfl : f = 3 := Option.some.inj ((show Tryz.prog.funcNamed "chandlery/chandlerylaw26.WishEach" = some 3 from by6).symm.trans hf) |>.symm
   obtain rfl:fn=Tryz.f3:=(Option.some.inj (Tryz.func3.symm.trans hfn)).symm
   exact ⟨dl2,λj t ht=>by
    rw[Tryz.params3] at ht;have hm:t∈([22,23,27]:List TypeId):=by simpa using Array.mem_of_getElem? ht
    exact (show Tryz.prog.wantsStandIn t=false by simpa using List.all_eq_true.1 dl5 t hm)⟩)
  dl3
end Go.Proofs.YthjhfdodeghbpaaGreatDoor
