/- AskTellsUpto: closed facts. Conditions: none. -/
import Derived.Test.YtphnnoolpagclaaGreatDoorProg
import Derived.Test.YtphnnoolpagclaaGreatDoorRows
import Derived.Test.YtphnnoolpagclaaGreatDoorTie
import Derived.Test.YtphnnoolpagclaaGreatDoorCards
import Derived.ProofKit
import Derived.LaidMore
import Derived.Lay
import Derived.OpenShut
import Derived.Stop.Joined
import Derived.SevenTiedAt
set_option linter.all false
namespace Go.Proofs.YtphnnoolpagclaaGreatDoor
open Go Go.Proofs Go.ChangeShapes Go.WideShapes Go.ChangeAt Go.WideMaps Go.WideElems Go.RowKit
set_option maxRecDepth 100000
theorem cm2:(Rows.askTellsUptoRow.inPlace==Tryz.pinned.checked.prog.inPlace 3)=true:=by kernel_rfl
theorem cm3:(Rows.askTellsUptoRow.unfollowed==Tryz.pinned.checked.prog.unfollowed 3)=true:=by kernel_rfl
theorem cm4:(Rows.askTellsUptoRow.recurses==Tryz.pinned.checked.prog.recurses 3)=true:=by kernel_rfl
theorem cm5:(Rows.askTellsUptoRow.named==Tryz.pinned.checked.prog.varsNamed 3)=true:=by kernel_rfl
theorem bp5:joinedFacts Tryz.pinned.checked.prog 3 Tryz.f3 (Rows.OpenSpec.upto Rows.askTellsSpec).bare Rows.askTellsUptoRow=true:=by
 unfold joinedFacts;rw[cm2,cm3,cm4,cm5]
 kernel_rfl
theorem cq3:Rows.askTellsUptoRow.wfByText (Rows.OpenSpec.upto Rows.askTellsSpec)=true:=by kernel_rfl
theorem cq4:false=Tryz.pinned.checked.prog.looks []:=by kernel_rfl
theorem cq5:false=Rows.askTellsUptoRow.goesBy Tryz.pinned.checked.prog:=by kernel_rfl
theorem cq6 : Tryz.pinned.checked.prog.mainIs = some (true, ("277f553fe8c43381380165efa55c8aa85e9f7e7fa0f0ed85508083717f63626a" : String).toList) := by kernel_rfl
theorem bn8 : Tryz.prog.funcNamed "chandlery/chandlerylaw15.AskTells" = some 3 := by kernel_rfl
theorem cq7:(([22,23,27,3,3,28]:List TypeId).all fun u=>!Tryz.prog.wantsStandIn u)=true:=by kernel_rfl
end Go.Proofs.YtphnnoolpagclaaGreatDoor
