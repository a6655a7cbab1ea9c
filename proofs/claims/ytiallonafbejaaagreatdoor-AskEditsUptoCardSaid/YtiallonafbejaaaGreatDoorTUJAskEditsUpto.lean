/- AskEditsUpto: closed facts. Conditions: none. -/
import Derived.Test.YtiallonafbejaaaGreatDoorProg
import Derived.Test.YtiallonafbejaaaGreatDoorRows
import Derived.Test.YtiallonafbejaaaGreatDoorTie
import Derived.Test.YtiallonafbejaaaGreatDoorCards
import Derived.ProofKit
import Derived.LaidMore
import Derived.Lay
import Derived.OpenShut
import Derived.Stop.Joined
import Derived.SevenTiedAt
set_option linter.all false
namespace Go.Proofs.YtiallonafbejaaaGreatDoor
open Go Go.Proofs Go.ChangeShapes Go.WideShapes Go.ChangeAt Go.WideMaps Go.WideElems Go.RowKit
set_option maxRecDepth 100000
theorem askEditsUpto_j1 : (Rows.askEditsUptoRow.inPlace == Tryz.pinned.checked.prog.inPlace 6)=true:=by kernel_rfl
theorem askEditsUpto_j2 : (Rows.askEditsUptoRow.unfollowed == Tryz.pinned.checked.prog.unfollowed 6)=true:=by kernel_rfl
theorem askEditsUpto_j3 : (Rows.askEditsUptoRow.recurses == Tryz.pinned.checked.prog.recurses 6)=true:=by kernel_rfl
theorem askEditsUpto_j4 : (Rows.askEditsUptoRow.named == Tryz.pinned.checked.prog.varsNamed 6)=true:=by kernel_rfl
theorem askEditsUpto_closed : joinedFacts Tryz.pinned.checked.prog 6 Tryz.f6 (Rows.OpenSpec.upto Rows.askEditsSpec).bare Rows.askEditsUptoRow=true:=by
 unfold joinedFacts
 rw [askEditsUpto_j1,askEditsUpto_j2,askEditsUpto_j3,askEditsUpto_j4]
 kernel_rfl
theorem askEditsUpto_w : Rows.askEditsUptoRow.wfByText (Rows.OpenSpec.upto Rows.askEditsSpec)=true:=by kernel_rfl
theorem askEditsUpto_k : false=Tryz.pinned.checked.prog.looks []:=by kernel_rfl
theorem askEditsUpto_g : false=Rows.askEditsUptoRow.goesBy Tryz.pinned.checked.prog:=by kernel_rfl
theorem askEditsUpto_m : Tryz.pinned.checked.prog.mainIs = some (true, ("4ea36aacffac5db0ddb70f5fb71fb180dd38bc1fb11ef7841eddd6f9c9cf468e" : String).toList) := by kernel_rfl
theorem askEditsUpto_n : Tryz.prog.funcNamed "chandlery/chandlerylaw15.AskEdits" = some 6 := by kernel_rfl
theorem askEditsUpto_u : (([22,23,59,61] : List TypeId).all fun u => !Tryz.prog.wantsStandIn u)=true:=by kernel_rfl
end Go.Proofs.YtiallonafbejaaaGreatDoor
