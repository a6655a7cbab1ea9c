/- OrderTellsUpto: closed facts. Conditions: none. -/
import Derived.Test.YtihiokikiejcpaaGreatDoorProg
import Derived.Test.YtihiokikiejcpaaGreatDoorRows
import Derived.Test.YtihiokikiejcpaaGreatDoorTie
import Derived.Test.YtihiokikiejcpaaGreatDoorCards
import Derived.ProofKit
import Derived.LaidMore
import Derived.Lay
import Derived.OpenShut
import Derived.Stop.Joined
import Derived.SevenTiedAt
set_option linter.all false
namespace Go.Proofs.YtihiokikiejcpaaGreatDoor
open Go Go.Proofs Go.ChangeShapes Go.WideShapes Go.ChangeAt Go.WideMaps Go.WideElems Go.RowKit
set_option maxRecDepth 100000
theorem ce4:(Rows.orderTellsUptoRow.inPlace==Tryz.pinned.checked.prog.inPlace 3)=true:=by kernel_rfl
theorem ce5:(Rows.orderTellsUptoRow.unfollowed==Tryz.pinned.checked.prog.unfollowed 3)=true:=by kernel_rfl
theorem ce6:(Rows.orderTellsUptoRow.recurses==Tryz.pinned.checked.prog.recurses 3)=true:=by kernel_rfl
theorem ce7:(Rows.orderTellsUptoRow.named==Tryz.pinned.checked.prog.varsNamed 3)=true:=by kernel_rfl
theorem bh4:joinedFacts Tryz.pinned.checked.prog 3 Tryz.f3 (Rows.OpenSpec.upto Rows.orderTellsSpec).bare Rows.orderTellsUptoRow=true:=by
 unfold joinedFacts;rw[ce4,ce5,ce6,ce7]
 kernel_rfl
theorem ci3:Rows.orderTellsUptoRow.wfByText (Rows.OpenSpec.upto Rows.orderTellsSpec)=true:=by kernel_rfl
theorem ci4:false=Tryz.pinned.checked.prog.looks []:=by kernel_rfl
theorem ci5:false=Rows.orderTellsUptoRow.goesBy Tryz.pinned.checked.prog:=by kernel_rfl
theorem ci6 : Tryz.pinned.checked.prog.mainIs = some (true, ("e85785a46eb4b1a7404f08a2adb7bef659370e40222779eb820186a5ac43c1ba" : String).toList) := by kernel_rfl
theorem be6 : Tryz.prog.funcNamed "chandlery/chandlerylaw31.OrderTells" = some 3 := by kernel_rfl
theorem ci7:(([22,23,24,3,3]:List TypeId).all fun u=>!Tryz.prog.wantsStandIn u)=true:=by kernel_rfl
end Go.Proofs.YtihiokikiejcpaaGreatDoor
