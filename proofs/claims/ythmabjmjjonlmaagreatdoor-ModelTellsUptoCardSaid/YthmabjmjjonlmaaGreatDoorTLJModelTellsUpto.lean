/- ModelTellsUpto: closed facts. Conditions: none. -/
import Derived.Test.YthmabjmjjonlmaaGreatDoorProg
import Derived.Test.YthmabjmjjonlmaaGreatDoorRows
import Derived.Test.YthmabjmjjonlmaaGreatDoorTie
import Derived.Test.YthmabjmjjonlmaaGreatDoorCards
import Derived.ProofKit
import Derived.LaidMore
import Derived.Lay
import Derived.OpenShut
import Derived.Stop.Joined
import Derived.SevenTiedAt
set_option linter.all false
set_option maxRecDepth 100000
namespace Go.Proofs.YthmabjmjjonlmaaGreatDoor
open Go Go.Proofs Go.ChangeShapes Go.WideShapes Go.ChangeAt Go.WideMaps Go.WideElems Go.RowKit
theorem cq6:(Rows.modelTellsUptoRow.inPlace==Tryz.pinned.checked.prog.inPlace 3)=true:=by kernel_rfl
theorem cq7:(Rows.modelTellsUptoRow.unfollowed==Tryz.pinned.checked.prog.unfollowed 3)=true:=by kernel_rfl
theorem cq8:(Rows.modelTellsUptoRow.recurses==Tryz.pinned.checked.prog.recurses 3)=true:=by kernel_rfl
theorem cq9:(Rows.modelTellsUptoRow.named==Tryz.pinned.checked.prog.varsNamed 3)=true:=by kernel_rfl
theorem br7:joinedFacts Tryz.pinned.checked.prog 3 Tryz.f3 (Rows.OpenSpec.upto Rows.modelTellsSpec).bare Rows.modelTellsUptoRow=true:=by
 unfold joinedFacts;rw[cq6,cq7,cq8,cq9]
 kernel_rfl
theorem cw1:Rows.modelTellsUptoRow.wfByText (Rows.OpenSpec.upto Rows.modelTellsSpec)=true:=by kernel_rfl
theorem cw2:false=Tryz.pinned.checked.prog.looks []:=by kernel_rfl
theorem cw3:false=Rows.modelTellsUptoRow.goesBy Tryz.pinned.checked.prog:=by kernel_rfl
theorem cw4 : Tryz.pinned.checked.prog.mainIs = some (true, ("16a7add03edfdc63c0a0b064a0abd3982947f1ac50fbf98ae5b3d711b8eb870e" : String).toList) := by kernel_rfl
theorem bo8 : Tryz.prog.funcNamed "chandlery/chandlerylaw16.ModelTells" = some 3 := by kernel_rfl
theorem cw5:(([22,23,27,28,29]:List TypeId).all fun u=>!Tryz.prog.wantsStandIn u)=true:=by kernel_rfl
end Go.Proofs.YthmabjmjjonlmaaGreatDoor
