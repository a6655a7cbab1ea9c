/- AskItselfUpto: closed facts. Conditions: none. -/
import Derived.Test.YtiallonafbejaaaGreatDoorProg
import Derived.Test.YtiallonafbejaaaGreatDoorRows
import Derived.Test.YtiallonafbejaaaGreatDoorTie
import Derived.Test.YtiallonafbejaaaGreatDoorCards
import Derived.ProofKit
import Derived.LaidMore
import Derived.Lay
import Derived.OpenShut
import Derived.Stop.Joined
import Derived.SevenTiedAt
set_option linter.all false
namespace Go.Proofs.YtiallonafbejaaaGreatDoor
open Go Go.Proofs Go.ChangeShapes Go.WideShapes Go.ChangeAt Go.WideMaps Go.WideElems Go.RowKit
set_option maxRecDepth 100000
theorem askItselfUpto_j1 : (Rows.askItselfUptoRow.inPlace == Tryz.pinned.checked.prog.inPlace 7)=true:=by kernel_rfl
theorem askItselfUpto_j2 : (Rows.askItselfUptoRow.unfollowed == Tryz.pinned.checked.prog.unfollowed 7)=true:=by kernel_rfl
theorem askItselfUpto_j3 : (Rows.askItselfUptoRow.recurses == Tryz.pinned.checked.prog.recurses 7)=true:=by kernel_rfl
theorem askItselfUpto_j4 : (Rows.askItselfUptoRow.named == Tryz.pinned.checked.prog.varsNamed 7)=true:=by kernel_rfl
theorem askItselfUpto_closed : joinedFacts Tryz.pinned.checked.prog 7 Tryz.f7 (Rows.OpenSpec.upto Rows.askItselfSpec).bare Rows.askItselfUptoRow=true:=by
 unfold joinedFacts
 rw [askItselfUpto_j1,askItselfUpto_j2,askItselfUpto_j3,askItselfUpto_j4]
 kernel_rfl
theorem askItselfUpto_w : Rows.askItselfUptoRow.wfByText (Rows.OpenSpec.upto Rows.askItselfSpec)=true:=by kernel_rfl
theorem askItselfUpto_k : false=Tryz.pinned.checked.prog.looks []:=by kernel_rfl
theorem askItselfUpto_g : false=Rows.askItselfUptoRow.goesBy Tryz.pinned.checked.prog:=by kernel_rfl
theorem askItselfUpto_m : Tryz.pinned.checked.prog.mainIs = some (true, ("4ea36aacffac5db0ddb70f5fb71fb180dd38bc1fb11ef7841eddd6f9c9cf468e" : String).toList) := by kernel_rfl
theorem askItselfUpto_n : Tryz.prog.funcNamed "chandlery/chandlerylaw15.AskItself" = some 7 := by kernel_rfl
theorem askItselfUpto_u : (([22,23,59] : List TypeId).all fun u => !Tryz.prog.wantsStandIn u)=true:=by kernel_rfl
end Go.Proofs.YtiallonafbejaaaGreatDoor
