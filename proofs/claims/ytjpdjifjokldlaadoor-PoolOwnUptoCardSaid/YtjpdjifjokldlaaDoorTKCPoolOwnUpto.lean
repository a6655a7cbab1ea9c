/- PoolOwnUpto: the row and the card. Conditions: none. -/
import Derived.Test.YtjpdjifjokldlaaDoorTKLPoolOwnUpto
import Derived.Test.YtjpdjifjokldlaaDoorTKJPoolOwnUpto
import Derived.Test.YtjpdjifjokldlaaDoorRows
import Derived.Test.YtjpdjifjokldlaaDoorTie
import Derived.Test.YtjpdjifjokldlaaDoorCards
import Derived.ProofKit
import Derived.LaidMore
import Derived.Lay
import Derived.OpenShut
import Derived.Stop.Joined
import Derived.SevenTiedAt
import Derived.JoinedCond
set_option linter.all false
namespace Go.Proofs.YtjpdjifjokldlaaDoor
open Go Go.Id Go.Proofs Go.ChangeShapes Go.WideShapes Go.ChangeAt Go.WideMaps Go.WideElems Go.RowKit
set_option maxRecDepth 100000
theorem ca1:Rows.PoolOwnUptoSaid :=
 OpenClaim.holds_of_cond 3 Tryd.f3 rfl rfl rfl rfl rfl rfl rfl ⟨rfl,rfl,rfl,rfl,rfl⟩ rfl rfl rfl rfl rfl bo2 Tryd.func3 bo1
  (of_decide_eq_true (by kernel_rfl)) (by unfold Func.isWrapper; first|(rw[if_pos (by decide +kernel)]; kernel_rfl)|(rw[if_neg (by decide +kernel)]; exact ⟨rfl,rfl⟩))
  (fun os started H enc _ F=>by rw[OpenClaim.pre_eq_preRow]; exact bo3 os started H enc F)
theorem poolOwnUpto_card:Rows.PoolOwnUptoCardSaid :=
 Claim7.holds_tied_plain_at .later [] [.mapped, .data] true (true, "491e3c562b409aa37d83763811d2226c287af236e7489d03af8c6ae0a971df5a") false
  ca1 (fun _ h=>by cases h) cy1 (fun _ h=>by cases h) poolOwnUpto_row_tie rfl ⟨rfl,rfl⟩ cy4 rfl
  (fun f fn hf hfn=>by
   obtain rfl : f = 3 := Option.some.inj ((show Tryd.prog.funcNamed "chandlery/chandlerylaw12.PoolOwn" = some 3 from bo2).symm.trans hf) |>.symm
   obtain rfl:fn=Tryd.f3:=(Option.some.inj (Tryd.func3.symm.trans hfn)).symm
   exact ⟨cy2,fun j t ht=>by
    rw[Tryd.params3] at ht;have hm:t∈([22,23]:List TypeId):=by simpa using Array.mem_of_getElem? ht
    exact (show Tryd.prog.wantsStandIn t=false by simpa using List.all_eq_true.1 cy5 t hm)⟩)
  cy3
end Go.Proofs.YtjpdjifjokldlaaDoor
