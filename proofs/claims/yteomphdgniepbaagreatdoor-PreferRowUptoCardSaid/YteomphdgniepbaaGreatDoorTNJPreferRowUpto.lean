/- PreferRowUpto: closed facts. Conditions: none. -/
import Derived.Test.YteomphdgniepbaaGreatDoorProg
import Derived.Test.YteomphdgniepbaaGreatDoorRows
import Derived.Test.YteomphdgniepbaaGreatDoorTie
import Derived.Test.YteomphdgniepbaaGreatDoorCards
import Derived.ProofKit
import Derived.LaidMore
import Derived.Lay
import Derived.OpenShut
import Derived.Stop.Joined
import Derived.SevenTiedAt
set_option linter.all false
namespace Go.Proofs.YteomphdgniepbaaGreatDoor
open Go Go.Proofs Go.ChangeShapes Go.WideShapes Go.ChangeAt Go.WideMaps Go.WideElems Go.RowKit
set_option maxRecDepth 100000
theorem cj6:(Rows.preferRowUptoRow.inPlace==Tryz.pinned.checked.prog.inPlace 3)=true:=by kernel_rfl
theorem cj7:(Rows.preferRowUptoRow.unfollowed==Tryz.pinned.checked.prog.unfollowed 3)=true:=by kernel_rfl
theorem cj8:(Rows.preferRowUptoRow.recurses==Tryz.pinned.checked.prog.recurses 3)=true:=by kernel_rfl
theorem cj9:(Rows.preferRowUptoRow.named==Tryz.pinned.checked.prog.varsNamed 3)=true:=by kernel_rfl
theorem bp5:joinedFacts Tryz.pinned.checked.prog 3 Tryz.f3 (Rows.OpenSpec.upto Rows.preferRowSpec).bare Rows.preferRowUptoRow=true:=by
 unfold joinedFacts;rw[cj6,cj7,cj8,cj9]
 kernel_rfl
theorem cq7:Rows.preferRowUptoRow.wfByText (Rows.OpenSpec.upto Rows.preferRowSpec)=true:=by kernel_rfl
theorem cq8:false=Tryz.pinned.checked.prog.looks []:=by kernel_rfl
theorem cq9:false=Rows.preferRowUptoRow.goesBy Tryz.pinned.checked.prog:=by kernel_rfl
theorem cr1 : Tryz.pinned.checked.prog.mainIs = some (true, ("644371ce53d3e19f20d01062e5be65a7df3798e1e2114831b21592f758e30cd2" : String).toList) := by kernel_rfl
theorem bi6 : Tryz.prog.funcNamed "chandlery/chandlerylaw25.PreferRow" = some 3 := by kernel_rfl
theorem cr2:(([22,23,27,3,3,3,28]:List TypeId).all fun u=>!Tryz.prog.wantsStandIn u)=true:=by kernel_rfl
end Go.Proofs.YteomphdgniepbaaGreatDoor
