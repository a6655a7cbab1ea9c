/- RulesStateUpto: the row and the card. Conditions: none. -/
import Derived.Test.YtiplpeflonpcmaaGreatDoorTZLRulesStateUpto
import Derived.Test.YtiplpeflonpcmaaGreatDoorTZJRulesStateUpto
import Derived.Test.YtiplpeflonpcmaaGreatDoorRows
import Derived.Test.YtiplpeflonpcmaaGreatDoorTie
import Derived.Test.YtiplpeflonpcmaaGreatDoorCards
import Derived.ProofKit
import Derived.LaidMore
import Derived.Lay
import Derived.OpenShut
import Derived.Stop.Joined
import Derived.SevenTiedAt
import Derived.JoinedCond
set_option linter.all false
namespace Go.Proofs.YtiplpeflonpcmaaGreatDoor
open Go Go.Id Go.Proofs Go.ChangeShapes Go.WideShapes Go.ChangeAt Go.WideMaps Go.WideElems Go.RowKit
set_option maxRecDepth 100000
theorem cb1:Rows.RulesStateUptoSaid :=
 OpenClaim.holds_of_cond 3 Tryz.f3 rfl rfl rfl rfl rfl rfl rfl ⟨rfl,rfl,rfl,rfl,rfl⟩ rfl rfl rfl rfl rfl bo3 Tryz.func3 br7
  (of_decide_eq_true (by kernel_rfl)) (by unfold Func.isWrapper; first|(rw[if_pos (by decide +kernel)]; kernel_rfl)|(rw[if_neg (by decide +kernel)]; exact ⟨rfl,rfl⟩))
  (fun os started H enc _ F=>by rw[OpenClaim.pre_eq_preRow]; exact br8 os started H enc F)
theorem rulesStateUpto_card:Rows.RulesStateUptoCardSaid :=
 Claim7.holds_tied_plain_at .later [] [.data, .data, .data, .data, .mapped, .data, .data, .pinned] true (true, "a2864920533177a95f36aeaf07fdb30b38eb7a3d5659d19fa1c490a2eabe7f26") false
  cb1 (fun _ h=>by cases h) cx5 (fun _ h=>by cases h) rulesStateUpto_row_tie rfl ⟨rfl,rfl⟩ cx8 rfl
  (fun f fn hf hfn=>by
   obtain rfl : f = 3 := Option.some.inj ((show Tryz.prog.funcNamed "chandlery/chandlerylaw18.RulesState" = some 3 from bo3).symm.trans hf) |>.symm
   obtain rfl:fn=Tryz.f3:=(Option.some.inj (Tryz.func3.symm.trans hfn)).symm
   exact ⟨cx6,fun j t ht=>by
    rw[Tryz.params3] at ht;have hm:t∈([22,23,27,28]:List TypeId):=by simpa using Array.mem_of_getElem? ht
    exact (show Tryz.prog.wantsStandIn t=false by simpa using List.all_eq_true.1 cx9 t hm)⟩)
  cx7
end Go.Proofs.YtiplpeflonpcmaaGreatDoor
