/- PreferWaysUpto: closed facts. Conditions: none. -/
import Derived.Test.YtlnkchkhffkofaaGreatDoorProg
import Derived.Test.YtlnkchkhffkofaaGreatDoorRows
import Derived.Test.YtlnkchkhffkofaaGreatDoorTie
import Derived.Test.YtlnkchkhffkofaaGreatDoorCards
import Derived.ProofKit
import Derived.LaidMore
import Derived.Lay
import Derived.OpenShut
import Derived.Stop.Joined
import Derived.SevenTiedAt
set_option linter.all false
namespace Go.Proofs.YtlnkchkhffkofaaGreatDoor
open Go Go.Proofs Go.ChangeShapes Go.WideShapes Go.ChangeAt Go.WideMaps Go.WideElems Go.RowKit
set_option maxRecDepth 100000
theorem ch4:(Rows.preferWaysUptoRow.inPlace==Tryz.pinned.checked.prog.inPlace 4)=true:=by kernel_rfl
theorem ch5:(Rows.preferWaysUptoRow.unfollowed==Tryz.pinned.checked.prog.unfollowed 4)=true:=by kernel_rfl
theorem ch6:(Rows.preferWaysUptoRow.recurses==Tryz.pinned.checked.prog.recurses 4)=true:=by kernel_rfl
theorem ch7:(Rows.preferWaysUptoRow.named==Tryz.pinned.checked.prog.varsNamed 4)=true:=by kernel_rfl
theorem bj1:joinedFacts Tryz.pinned.checked.prog 4 Tryz.f4 (Rows.OpenSpec.upto Rows.preferWaysSpec).bare Rows.preferWaysUptoRow=true:=by
 unfold joinedFacts;rw[ch4,ch5,ch6,ch7]
 kernel_rfl
theorem cm3:Rows.preferWaysUptoRow.wfByText (Rows.OpenSpec.upto Rows.preferWaysSpec)=true:=by kernel_rfl
theorem cm4:false=Tryz.pinned.checked.prog.looks []:=by kernel_rfl
theorem cm5:false=Rows.preferWaysUptoRow.goesBy Tryz.pinned.checked.prog:=by kernel_rfl
theorem cm6 : Tryz.pinned.checked.prog.mainIs = some (true, ("0d60a1630f75d1b8e9fc6e2dd6c65ee2d065bb972a8a031077b4901a03e07f7c" : String).toList) := by kernel_rfl
theorem bg4 : Tryz.prog.funcNamed "chandlery/chandlerylaw25.PreferWays" = some 4 := by kernel_rfl
theorem cm7:(([22,23,43,3]:List TypeId).all fun u=>!Tryz.prog.wantsStandIn u)=true:=by kernel_rfl
end Go.Proofs.YtlnkchkhffkofaaGreatDoor
