/- FixesFewerUpto: closed facts. Conditions: none. -/
import Derived.Test.YtoanajmmemjeeaaGreatDoorProg
import Derived.Test.YtoanajmmemjeeaaGreatDoorRows
import Derived.Test.YtoanajmmemjeeaaGreatDoorTie
import Derived.Test.YtoanajmmemjeeaaGreatDoorCards
import Derived.ProofKit
import Derived.LaidMore
import Derived.Lay
import Derived.OpenShut
import Derived.Stop.Joined
import Derived.SevenTiedAt
set_option linter.all false
set_option maxRecDepth 100000
namespace Go.Proofs.YtoanajmmemjeeaaGreatDoor
open Go Go.Proofs Go.ChangeShapes Go.WideShapes Go.ChangeAt Go.WideMaps Go.WideElems Go.RowKit
def Q2:(Rows.fixesFewerUptoRow.inPlace==Tryz.pinned.checked.prog.inPlace 3)=true:=by kernel_rfl
def Q3:(Rows.fixesFewerUptoRow.unfollowed==Tryz.pinned.checked.prog.unfollowed 3)=true:=by kernel_rfl
def Q4:(Rows.fixesFewerUptoRow.recurses==Tryz.pinned.checked.prog.recurses 3)=true:=by kernel_rfl
def Q5:(Rows.fixesFewerUptoRow.named==Tryz.pinned.checked.prog.varsNamed 3)=true:=by kernel_rfl
def QY:joinedFacts Tryz.pinned.checked.prog 3 Tryz.f3 (Rows.OpenSpec.upto Rows.fixesFewerSpec).bare Rows.fixesFewerUptoRow=true:=by unfold joinedFacts;rw[Q2,Q3,Q4,Q5];kernel_rfl
def Q7:Rows.fixesFewerUptoRow.wfByText (Rows.OpenSpec.upto Rows.fixesFewerSpec)=true:=by kernel_rfl
def Q8:false=Tryz.pinned.checked.prog.looks []:=by kernel_rfl
def Q9:false=Rows.fixesFewerUptoRow.goesBy Tryz.pinned.checked.prog:=by kernel_rfl
def Ra : Tryz.pinned.checked.prog.mainIs = some (true, ("d005d6e22a4d5e59801b7a54745875a80488ca70429ccb22d053d7a220fcd3fe" : String).toList) := by kernel_rfl
def JT : Tryz.prog.funcNamed "chandlery/chandlerylaw29.FixesFewer" = some 3 := by kernel_rfl
def Rb:(([22,23,27,3]:List TypeId).all λu=>!Tryz.prog.wantsStandIn u)=true:=by kernel_rfl
end Go.Proofs.YtoanajmmemjeeaaGreatDoor
