/- WishEachUpto: closed facts. Conditions: none. -/
import Derived.Test.YthjhfdodeghbpaaGreatDoorProg
import Derived.Test.YthjhfdodeghbpaaGreatDoorRows
import Derived.Test.YthjhfdodeghbpaaGreatDoorTie
import Derived.Test.YthjhfdodeghbpaaGreatDoorCards
import Derived.ProofKit
import Derived.LaidMore
import Derived.Lay
import Derived.OpenShut
import Derived.Stop.Joined
import Derived.SevenTiedAt
set_option linter.all false
set_option maxRecDepth 100000
namespace Go.Proofs.YthjhfdodeghbpaaGreatDoor
open Go Go.Proofs Go.ChangeShapes Go.WideShapes Go.ChangeAt Go.WideMaps Go.WideElems Go.RowKit
def df7:(Rows.wishEachUptoRow.inPlace==Tryz.pinned.checked.prog.inPlace 3)=true:=by kernel_rfl
def df8:(Rows.wishEachUptoRow.unfollowed==Tryz.pinned.checked.prog.unfollowed 3)=true:=by kernel_rfl
def df9:(Rows.wishEachUptoRow.recurses==Tryz.pinned.checked.prog.recurses 3)=true:=by kernel_rfl
def dg1:(Rows.wishEachUptoRow.named==Tryz.pinned.checked.prog.varsNamed 3)=true:=by kernel_rfl
def ca8:joinedFacts Tryz.pinned.checked.prog 3 Tryz.f3 (Rows.OpenSpec.upto Rows.wishEachSpec).bare Rows.wishEachUptoRow=true:=by
 unfold joinedFacts;rw[df7,df8,df9,dg1]
 kernel_rfl
def dl1:Rows.wishEachUptoRow.wfByText (Rows.OpenSpec.upto Rows.wishEachSpec)=true:=by kernel_rfl
def dl2:false=Tryz.pinned.checked.prog.looks []:=by kernel_rfl
def dl3:false=Rows.wishEachUptoRow.goesBy Tryz.pinned.checked.prog:=by kernel_rfl
def dl4 : Tryz.pinned.checked.prog.mainIs = some (true, ("be51924e264aa4305ae1f66d4dcc7e5caf46fc3d248551d3e7010cccd3c2bf1e" : String).toList) := by kernel_rfl
def by6 : Tryz.prog.funcNamed "chandlery/chandlerylaw26.WishEach" = some 3 := by kernel_rfl
def dl5:(([22,23,27]:List TypeId).all λu=>!Tryz.prog.wantsStandIn u)=true:=by kernel_rfl
end Go.Proofs.YthjhfdodeghbpaaGreatDoor
