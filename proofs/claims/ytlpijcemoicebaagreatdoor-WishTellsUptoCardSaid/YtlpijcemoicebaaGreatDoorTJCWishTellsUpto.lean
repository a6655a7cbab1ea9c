/- WishTellsUpto: the row and the card. Conditions: none. -/
import Derived.Test.YtlpijcemoicebaaGreatDoorTJLWishTellsUpto
import Derived.Test.YtlpijcemoicebaaGreatDoorTJJWishTellsUpto
import Derived.Test.YtlpijcemoicebaaGreatDoorRows
import Derived.Test.YtlpijcemoicebaaGreatDoorTie
import Derived.Test.YtlpijcemoicebaaGreatDoorCards
import Derived.ProofKit
import Derived.LaidMore
import Derived.Lay
import Derived.OpenShut
import Derived.Stop.Joined
import Derived.SevenTiedAt
import Derived.JoinedCond
set_option linter.all false
namespace Go.Proofs.YtlpijcemoicebaaGreatDoor
open Go Go.Id Go.Proofs Go.ChangeShapes Go.WideShapes Go.ChangeAt Go.WideMaps Go.WideElems Go.RowKit
set_option maxRecDepth 100000
def RV:Rows.WishTellsUptoSaid :=OpenClaim.holds_of_cond 3 Tryz.f3 rfl rfl rfl rfl rfl rfl rfl ⟨rfl,rfl,rfl,rfl,rfl⟩ rfl rfl rfl rfl rfl KV Tryz.func3 RT (of_decide_eq_true (by kernel_rfl)) (by unfold Func.isWrapper;first|(rw[if_pos (by decide +kernel)];kernel_rfl)|(rw[if_neg (by decide +kernel)];exact ⟨rfl,rfl⟩)) (λos started H enc _ F=>by rw[OpenClaim.pre_eq_preRow];exact RU os started H enc F)
theorem wishTellsUpto_card:Rows.WishTellsUptoCardSaid :=Claim7.holds_tied_plain_at .later [] [.data, .data, .data, .data, .mapped, .data, .data, .pinned] true (true, "4aaffbfb282eeac07c381ae93acfd7a8b55208cb17a266f0313c191d4efe25a3") false RV (λ_ h=>by cases h) R2 (λ_ h=>by cases h) wishTellsUpto_row_tie rfl ⟨rfl,rfl⟩ R5 rfl (λf fn hf hfn=>by obtain rfl : f = 3 := Option.some.inj ((show Tryz.prog.funcNamed "chandlery/chandlerylaw26.WishTells" = some 3 from KV).symm.trans hf) |>.symm;obtain rfl:fn=Tryz.f3:=(Option.some.inj (Tryz.func3.symm.trans hfn)).symm;exact ⟨R3,λj t ht=>by rw[Tryz.params3]at ht;have hm:t∈([22,23,27]:List TypeId):=(by simpa using Array.mem_of_getElem? ht);exact (show Tryz.prog.wantsStandIn t=false by simpa using List.all_eq_true.1 R6 t hm)⟩) R4
end Go.Proofs.YtlpijcemoicebaaGreatDoor
