/- ModelTellsUpto: the row and the card. Conditions: none. -/
import Derived.Test.YthmabjmjjonlmaaGreatDoorTLLModelTellsUpto
import Derived.Test.YthmabjmjjonlmaaGreatDoorTLJModelTellsUpto
import Derived.Test.YthmabjmjjonlmaaGreatDoorRows
import Derived.Test.YthmabjmjjonlmaaGreatDoorTie
import Derived.Test.YthmabjmjjonlmaaGreatDoorCards
import Derived.ProofKit
import Derived.LaidMore
import Derived.Lay
import Derived.OpenShut
import Derived.Stop.Joined
import Derived.SevenTiedAt
import Derived.JoinedCond
set_option linter.all false
namespace Go.Proofs.YthmabjmjjonlmaaGreatDoor
open Go Go.Id Go.Proofs Go.ChangeShapes Go.WideShapes Go.ChangeAt Go.WideMaps Go.WideElems Go.RowKit
set_option maxRecDepth 100000
theorem ca5:Rows.ModelTellsUptoSaid :=
 OpenClaim.holds_of_cond 3 Tryz.f3 rfl rfl rfl rfl rfl rfl rfl ⟨rfl,rfl,rfl,rfl,rfl⟩ rfl rfl rfl rfl rfl bo8 Tryz.func3 br7
  (of_decide_eq_true (by kernel_rfl)) (by unfold Func.isWrapper; first|(rw[if_pos (by decide +kernel)]; kernel_rfl)|(rw[if_neg (by decide +kernel)]; exact ⟨rfl,rfl⟩))
  (fun os started H enc _ F=>by rw[OpenClaim.pre_eq_preRow]; exact br8 os started H enc F)
theorem modelTellsUpto_card:Rows.ModelTellsUptoCardSaid :=
 Claim7.holds_tied_plain_at .later [] [.data, .mapped, .data, .data, .pinned] true (true, "16a7add03edfdc63c0a0b064a0abd3982947f1ac50fbf98ae5b3d711b8eb870e") false
  ca5 (fun _ h=>by cases h) cw1 (fun _ h=>by cases h) modelTellsUpto_row_tie rfl ⟨rfl,rfl⟩ cw4 rfl
  (fun f fn hf hfn=>by
   obtain rfl : f = 3 := Option.some.inj ((show Tryz.prog.funcNamed "chandlery/chandlerylaw16.ModelTells" = some 3 from bo8).symm.trans hf) |>.symm
   obtain rfl:fn=Tryz.f3:=(Option.some.inj (Tryz.func3.symm.trans hfn)).symm
   exact ⟨cw2,fun j t ht=>by
    rw[Tryz.params3] at ht;have hm:t∈([22,23,27,28,29]:List TypeId):=by simpa using Array.mem_of_getElem? ht
    exact (show Tryz.prog.wantsStandIn t=false by simpa using List.all_eq_true.1 cw5 t hm)⟩)
  cw3
end Go.Proofs.YthmabjmjjonlmaaGreatDoor
