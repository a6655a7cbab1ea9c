/- PreferLikedUpto: closed facts. Conditions: none. -/
import Derived.Test.YtiallonafbejaaaGreatDoorProg
import Derived.Test.YtiallonafbejaaaGreatDoorRows
import Derived.Test.YtiallonafbejaaaGreatDoorTie
import Derived.Test.YtiallonafbejaaaGreatDoorCards
import Derived.ProofKit
import Derived.LaidMore
import Derived.Lay
import Derived.OpenShut
import Derived.Stop.Joined
import Derived.SevenTiedAt
set_option linter.all false
namespace Go.Proofs.YtiallonafbejaaaGreatDoor
open Go Go.Proofs Go.ChangeShapes Go.WideShapes Go.ChangeAt Go.WideMaps Go.WideElems Go.RowKit
set_option maxRecDepth 100000
theorem bo5:(Rows.preferLikedUptoRow.inPlace==Tryz.pinned.checked.prog.inPlace 10)=true:=by kernel_rfl
theorem bo6:(Rows.preferLikedUptoRow.unfollowed==Tryz.pinned.checked.prog.unfollowed 10)=true:=by kernel_rfl
theorem bo7:(Rows.preferLikedUptoRow.recurses==Tryz.pinned.checked.prog.recurses 10)=true:=by kernel_rfl
theorem bo8:(Rows.preferLikedUptoRow.named==Tryz.pinned.checked.prog.varsNamed 10)=true:=by kernel_rfl
theorem az7:joinedFacts Tryz.pinned.checked.prog 10 Tryz.f10 (Rows.OpenSpec.upto Rows.preferLikedSpec).bare Rows.preferLikedUptoRow=true:=by
 unfold joinedFacts
 rw[bo5,bo6,bo7,bo8]
 kernel_rfl
theorem by7:Rows.preferLikedUptoRow.wfByText (Rows.OpenSpec.upto Rows.preferLikedSpec)=true:=by kernel_rfl
theorem by8:false=Tryz.pinned.checked.prog.looks []:=by kernel_rfl
theorem by9:false=Rows.preferLikedUptoRow.goesBy Tryz.pinned.checked.prog:=by kernel_rfl
theorem bz1 : Tryz.pinned.checked.prog.mainIs = some (true, ("4ea36aacffac5db0ddb70f5fb71fb180dd38bc1fb11ef7841eddd6f9c9cf468e" : String).toList) := by kernel_rfl
theorem aw7 : Tryz.prog.funcNamed "chandlery/chandlerylaw25.PreferLiked" = some 10 := by kernel_rfl
theorem bz2:(([22,23,59,3,3]:List TypeId).all fun u=>!Tryz.prog.wantsStandIn u)=true:=by kernel_rfl
end Go.Proofs.YtiallonafbejaaaGreatDoor
