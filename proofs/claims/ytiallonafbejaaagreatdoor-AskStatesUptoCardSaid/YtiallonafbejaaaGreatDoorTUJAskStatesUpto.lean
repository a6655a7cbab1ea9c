/- AskStatesUpto: closed facts. Conditions: none. -/
import Derived.Test.YtiallonafbejaaaGreatDoorProg
import Derived.Test.YtiallonafbejaaaGreatDoorRows
import Derived.Test.YtiallonafbejaaaGreatDoorTie
import Derived.Test.YtiallonafbejaaaGreatDoorCards
import Derived.ProofKit
import Derived.LaidMore
import Derived.Lay
import Derived.OpenShut
import Derived.Stop.Joined
import Derived.SevenTiedAt
set_option linter.all false
namespace Go.Proofs.YtiallonafbejaaaGreatDoor
open Go Go.Proofs Go.ChangeShapes Go.WideShapes Go.ChangeAt Go.WideMaps Go.WideElems Go.RowKit
set_option maxRecDepth 100000
theorem askStatesUpto_j1 : (Rows.askStatesUptoRow.inPlace == Tryz.pinned.checked.prog.inPlace 8)=true:=by kernel_rfl
theorem askStatesUpto_j2 : (Rows.askStatesUptoRow.unfollowed == Tryz.pinned.checked.prog.unfollowed 8)=true:=by kernel_rfl
theorem askStatesUpto_j3 : (Rows.askStatesUptoRow.recurses == Tryz.pinned.checked.prog.recurses 8)=true:=by kernel_rfl
theorem askStatesUpto_j4 : (Rows.askStatesUptoRow.named == Tryz.pinned.checked.prog.varsNamed 8)=true:=by kernel_rfl
theorem askStatesUpto_closed : joinedFacts Tryz.pinned.checked.prog 8 Tryz.f8 (Rows.OpenSpec.upto Rows.askStatesSpec).bare Rows.askStatesUptoRow=true:=by
 unfold joinedFacts
 rw [askStatesUpto_j1,askStatesUpto_j2,askStatesUpto_j3,askStatesUpto_j4]
 kernel_rfl
theorem askStatesUpto_w : Rows.askStatesUptoRow.wfByText (Rows.OpenSpec.upto Rows.askStatesSpec)=true:=by kernel_rfl
theorem askStatesUpto_k : false=Tryz.pinned.checked.prog.looks []:=by kernel_rfl
theorem askStatesUpto_g : false=Rows.askStatesUptoRow.goesBy Tryz.pinned.checked.prog:=by kernel_rfl
theorem askStatesUpto_m : Tryz.pinned.checked.prog.mainIs = some (true, ("4ea36aacffac5db0ddb70f5fb71fb180dd38bc1fb11ef7841eddd6f9c9cf468e" : String).toList) := by kernel_rfl
theorem askStatesUpto_n : Tryz.prog.funcNamed "chandlery/chandlerylaw15.AskStates" = some 8 := by kernel_rfl
theorem askStatesUpto_u : (([22,23,59,33,33] : List TypeId).all fun u => !Tryz.prog.wantsStandIn u)=true:=by kernel_rfl
end Go.Proofs.YtiallonafbejaaaGreatDoor
