/- PoolTellsUpto: closed facts. Conditions: none. -/
import Derived.Test.YtjpdjifjokldlaaGreatDoorProg
import Derived.Test.YtjpdjifjokldlaaGreatDoorRows
import Derived.Test.YtjpdjifjokldlaaGreatDoorTie
import Derived.Test.YtjpdjifjokldlaaGreatDoorCards
import Derived.ProofKit
import Derived.LaidMore
import Derived.Lay
import Derived.OpenShut
import Derived.Stop.Joined
import Derived.SevenTiedAt
set_option linter.all false
namespace Go.Proofs.YtjpdjifjokldlaaGreatDoor
open Go Go.Proofs Go.ChangeShapes Go.WideShapes Go.ChangeAt Go.WideMaps Go.WideElems Go.RowKit
set_option maxRecDepth 100000
theorem cc7:(Rows.poolTellsUptoRow.inPlace==Tryz.pinned.checked.prog.inPlace 3)=true:=by kernel_rfl
theorem cc8:(Rows.poolTellsUptoRow.unfollowed==Tryz.pinned.checked.prog.unfollowed 3)=true:=by kernel_rfl
theorem cc9:(Rows.poolTellsUptoRow.recurses==Tryz.pinned.checked.prog.recurses 3)=true:=by kernel_rfl
theorem cd1:(Rows.poolTellsUptoRow.named==Tryz.pinned.checked.prog.varsNamed 3)=true:=by kernel_rfl
theorem bk8:joinedFacts Tryz.pinned.checked.prog 3 Tryz.f3 (Rows.OpenSpec.upto Rows.poolTellsSpec).bare Rows.poolTellsUptoRow=true:=by
 unfold joinedFacts;rw[cc7,cc8,cc9,cd1]
 kernel_rfl
theorem cj9:Rows.poolTellsUptoRow.wfByText (Rows.OpenSpec.upto Rows.poolTellsSpec)=true:=by kernel_rfl
theorem ck3:false=Tryz.pinned.checked.prog.looks []:=by kernel_rfl
theorem ck4:false=Rows.poolTellsUptoRow.goesBy Tryz.pinned.checked.prog:=by kernel_rfl
theorem ck5 : Tryz.pinned.checked.prog.mainIs = some (true, ("3c581072be16a64a69170222decda019ddfee5f5a479ac71331cd3279e6da083" : String).toList) := by kernel_rfl
theorem bf4 : Tryz.prog.funcNamed "chandlery/chandlerylaw12.PoolTells" = some 3 := by kernel_rfl
theorem ck6:(([22,23,3,3,9]:List TypeId).all fun u=>!Tryz.prog.wantsStandIn u)=true:=by kernel_rfl
end Go.Proofs.YtjpdjifjokldlaaGreatDoor
