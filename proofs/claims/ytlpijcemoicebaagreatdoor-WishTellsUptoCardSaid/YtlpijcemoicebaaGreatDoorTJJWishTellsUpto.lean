/- WishTellsUpto: closed facts. Conditions: none. -/
import Derived.Test.YtlpijcemoicebaaGreatDoorProg
import Derived.Test.YtlpijcemoicebaaGreatDoorRows
import Derived.Test.YtlpijcemoicebaaGreatDoorTie
import Derived.Test.YtlpijcemoicebaaGreatDoorCards
import Derived.ProofKit
import Derived.LaidMore
import Derived.Lay
import Derived.OpenShut
import Derived.Stop.Joined
import Derived.SevenTiedAt
set_option linter.all false
set_option maxRecDepth 100000
namespace Go.Proofs.YtlpijcemoicebaaGreatDoor
open Go Go.Proofs Go.ChangeShapes Go.WideShapes Go.ChangeAt Go.WideMaps Go.WideElems Go.RowKit
def RX:(Rows.wishTellsUptoRow.inPlace==Tryz.pinned.checked.prog.inPlace 3)=true:=by kernel_rfl
def RY:(Rows.wishTellsUptoRow.unfollowed==Tryz.pinned.checked.prog.unfollowed 3)=true:=by kernel_rfl
def RZ:(Rows.wishTellsUptoRow.recurses==Tryz.pinned.checked.prog.recurses 3)=true:=by kernel_rfl
def R0:(Rows.wishTellsUptoRow.named==Tryz.pinned.checked.prog.varsNamed 3)=true:=by kernel_rfl
def RT:joinedFacts Tryz.pinned.checked.prog 3 Tryz.f3 (Rows.OpenSpec.upto Rows.wishTellsSpec).bare Rows.wishTellsUptoRow=true:=by unfold joinedFacts;rw[RX,RY,RZ,R0];kernel_rfl
def R2:Rows.wishTellsUptoRow.wfByText (Rows.OpenSpec.upto Rows.wishTellsSpec)=true:=by kernel_rfl
def R3:false=Tryz.pinned.checked.prog.looks []:=by kernel_rfl
def R4:false=Rows.wishTellsUptoRow.goesBy Tryz.pinned.checked.prog:=by kernel_rfl
def R5 : Tryz.pinned.checked.prog.mainIs = some (true, ("4aaffbfb282eeac07c381ae93acfd7a8b55208cb17a266f0313c191d4efe25a3" : String).toList) := by kernel_rfl
def KV : Tryz.prog.funcNamed "chandlery/chandlerylaw26.WishTells" = some 3 := by kernel_rfl
def R6:(([22,23,27]:List TypeId).all λu=>!Tryz.prog.wantsStandIn u)=true:=by kernel_rfl
end Go.Proofs.YtlpijcemoicebaaGreatDoor
