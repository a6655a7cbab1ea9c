/- PreferTellsUpto: closed facts. Conditions: none. -/
import Derived.Test.YtcdakaadeghccaaGreatDoorProg
import Derived.Test.YtcdakaadeghccaaGreatDoorRows
import Derived.Test.YtcdakaadeghccaaGreatDoorTie
import Derived.Test.YtcdakaadeghccaaGreatDoorCards
import Derived.ProofKit
import Derived.LaidMore
import Derived.Lay
import Derived.OpenShut
import Derived.Stop.Joined
import Derived.SevenTiedAt
set_option linter.all false
set_option maxRecDepth 100000
namespace Go.Proofs.YtcdakaadeghccaaGreatDoor
open Go Go.Proofs Go.ChangeShapes Go.WideShapes Go.ChangeAt Go.WideMaps Go.WideElems Go.RowKit
theorem cb1:(Rows.preferTellsUptoRow.inPlace==Tryz.pinned.checked.prog.inPlace 3)=true:=by kernel_rfl
theorem cb2:(Rows.preferTellsUptoRow.unfollowed==Tryz.pinned.checked.prog.unfollowed 3)=true:=by kernel_rfl
theorem cb3:(Rows.preferTellsUptoRow.recurses==Tryz.pinned.checked.prog.recurses 3)=true:=by kernel_rfl
theorem cb4:(Rows.preferTellsUptoRow.named==Tryz.pinned.checked.prog.varsNamed 3)=true:=by kernel_rfl
theorem bk9:joinedFacts Tryz.pinned.checked.prog 3 Tryz.f3 (Rows.OpenSpec.upto Rows.preferTellsSpec).bare Rows.preferTellsUptoRow=true:=by
 unfold joinedFacts;rw[cb1,cb2,cb3,cb4]
 kernel_rfl
theorem cn3:Rows.preferTellsUptoRow.wfByText (Rows.OpenSpec.upto Rows.preferTellsSpec)=true:=by kernel_rfl
theorem cn4:false=Tryz.pinned.checked.prog.looks []:=by kernel_rfl
theorem cn5:false=Rows.preferTellsUptoRow.goesBy Tryz.pinned.checked.prog:=by kernel_rfl
theorem cn6 : Tryz.pinned.checked.prog.mainIs = some (true, ("7341f6d47c3e1a79c6faba272345b5a8748c471ed6f3e8335a22dff27960b000" : String).toList) := by kernel_rfl
theorem bh2 : Tryz.prog.funcNamed "chandlery/chandlerylaw25.PreferTells" = some 3 := by kernel_rfl
theorem cn7:(([22,23,27,28,3,3]:List TypeId).all fun u=>!Tryz.prog.wantsStandIn u)=true:=by kernel_rfl
end Go.Proofs.YtcdakaadeghccaaGreatDoor
