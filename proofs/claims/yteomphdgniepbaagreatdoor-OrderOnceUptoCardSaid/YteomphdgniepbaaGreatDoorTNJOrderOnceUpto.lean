/- OrderOnceUpto: closed facts. Conditions: none. -/
import Derived.Test.YteomphdgniepbaaGreatDoorProg
import Derived.Test.YteomphdgniepbaaGreatDoorRows
import Derived.Test.YteomphdgniepbaaGreatDoorTie
import Derived.Test.YteomphdgniepbaaGreatDoorCards
import Derived.ProofKit
import Derived.LaidMore
import Derived.Lay
import Derived.OpenShut
import Derived.Stop.Joined
import Derived.SevenTiedAt
set_option linter.all false
namespace Go.Proofs.YteomphdgniepbaaGreatDoor
open Go Go.Proofs Go.ChangeShapes Go.WideShapes Go.ChangeAt Go.WideMaps Go.WideElems Go.RowKit
set_option maxRecDepth 100000
theorem cf8:(Rows.orderOnceUptoRow.inPlace==Tryz.pinned.checked.prog.inPlace 4)=true:=by kernel_rfl
theorem cf9:(Rows.orderOnceUptoRow.unfollowed==Tryz.pinned.checked.prog.unfollowed 4)=true:=by kernel_rfl
theorem cg1:(Rows.orderOnceUptoRow.recurses==Tryz.pinned.checked.prog.recurses 4)=true:=by kernel_rfl
theorem cg2:(Rows.orderOnceUptoRow.named==Tryz.pinned.checked.prog.varsNamed 4)=true:=by kernel_rfl
theorem bm6:joinedFacts Tryz.pinned.checked.prog 4 Tryz.f4 (Rows.OpenSpec.upto Rows.orderOnceSpec).bare Rows.orderOnceUptoRow=true:=by
 unfold joinedFacts;rw[cf8,cf9,cg1,cg2]
 kernel_rfl
theorem cn8:Rows.orderOnceUptoRow.wfByText (Rows.OpenSpec.upto Rows.orderOnceSpec)=true:=by kernel_rfl
theorem cn9:false=Tryz.pinned.checked.prog.looks []:=by kernel_rfl
theorem co1:false=Rows.orderOnceUptoRow.goesBy Tryz.pinned.checked.prog:=by kernel_rfl
theorem co2 : Tryz.pinned.checked.prog.mainIs = some (true, ("644371ce53d3e19f20d01062e5be65a7df3798e1e2114831b21592f758e30cd2" : String).toList) := by kernel_rfl
theorem bg3 : Tryz.prog.funcNamed "chandlery/chandlerylaw31.OrderOnce" = some 4 := by kernel_rfl
theorem co3:(([22,23,42,3]:List TypeId).all fun u=>!Tryz.prog.wantsStandIn u)=true:=by kernel_rfl
end Go.Proofs.YteomphdgniepbaaGreatDoor
