/- OrderNeedsUpto: closed facts. Conditions: none. -/
import Derived.Test.YtlnkchkhffkofaaGreatDoorProg
import Derived.Test.YtlnkchkhffkofaaGreatDoorRows
import Derived.Test.YtlnkchkhffkofaaGreatDoorTie
import Derived.Test.YtlnkchkhffkofaaGreatDoorCards
import Derived.ProofKit
import Derived.LaidMore
import Derived.Lay
import Derived.OpenShut
import Derived.Stop.Joined
import Derived.SevenTiedAt
set_option linter.all false
namespace Go.Proofs.YtlnkchkhffkofaaGreatDoor
open Go Go.Proofs Go.ChangeShapes Go.WideShapes Go.ChangeAt Go.WideMaps Go.WideElems Go.RowKit
set_option maxRecDepth 100000
theorem ce2:(Rows.orderNeedsUptoRow.inPlace==Tryz.pinned.checked.prog.inPlace 3)=true:=by kernel_rfl
theorem ce3:(Rows.orderNeedsUptoRow.unfollowed==Tryz.pinned.checked.prog.unfollowed 3)=true:=by kernel_rfl
theorem ce4:(Rows.orderNeedsUptoRow.recurses==Tryz.pinned.checked.prog.recurses 3)=true:=by kernel_rfl
theorem ce5:(Rows.orderNeedsUptoRow.named==Tryz.pinned.checked.prog.varsNamed 3)=true:=by kernel_rfl
theorem bh3:joinedFacts Tryz.pinned.checked.prog 3 Tryz.f3 (Rows.OpenSpec.upto Rows.orderNeedsSpec).bare Rows.orderNeedsUptoRow=true:=by
 unfold joinedFacts;rw[ce2,ce3,ce4,ce5]
 kernel_rfl
theorem ci1:Rows.orderNeedsUptoRow.wfByText (Rows.OpenSpec.upto Rows.orderNeedsSpec)=true:=by kernel_rfl
theorem ci2:false=Tryz.pinned.checked.prog.looks []:=by kernel_rfl
theorem ci3:false=Rows.orderNeedsUptoRow.goesBy Tryz.pinned.checked.prog:=by kernel_rfl
theorem ci4 : Tryz.pinned.checked.prog.mainIs = some (true, ("0d60a1630f75d1b8e9fc6e2dd6c65ee2d065bb972a8a031077b4901a03e07f7c" : String).toList) := by kernel_rfl
theorem be2 : Tryz.prog.funcNamed "chandlery/chandlerylaw31.OrderNeeds" = some 3 := by kernel_rfl
theorem ci5:(([22,23,24]:List TypeId).all fun u=>!Tryz.prog.wantsStandIn u)=true:=by kernel_rfl
end Go.Proofs.YtlnkchkhffkofaaGreatDoor
