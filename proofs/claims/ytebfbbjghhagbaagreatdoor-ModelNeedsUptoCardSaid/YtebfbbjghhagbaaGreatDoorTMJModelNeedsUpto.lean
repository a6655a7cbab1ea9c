/- ModelNeedsUpto: closed facts. Conditions: none. -/
import Derived.Test.YtebfbbjghhagbaaGreatDoorProg
import Derived.Test.YtebfbbjghhagbaaGreatDoorRows
import Derived.Test.YtebfbbjghhagbaaGreatDoorTie
import Derived.Test.YtebfbbjghhagbaaGreatDoorCards
import Derived.ProofKit
import Derived.LaidMore
import Derived.Lay
import Derived.OpenShut
import Derived.Stop.Joined
import Derived.SevenTiedAt
set_option linter.all false
namespace Go.Proofs.YtebfbbjghhagbaaGreatDoor
open Go Go.Proofs Go.ChangeShapes Go.WideShapes Go.ChangeAt Go.WideMaps Go.WideElems Go.RowKit
set_option maxRecDepth 100000
theorem cj7:(Rows.modelNeedsUptoRow.inPlace==Tryz.pinned.checked.prog.inPlace 7)=true:=by kernel_rfl
theorem cj8:(Rows.modelNeedsUptoRow.unfollowed==Tryz.pinned.checked.prog.unfollowed 7)=true:=by kernel_rfl
theorem cj9:(Rows.modelNeedsUptoRow.recurses==Tryz.pinned.checked.prog.recurses 7)=true:=by kernel_rfl
theorem ck3:(Rows.modelNeedsUptoRow.named==Tryz.pinned.checked.prog.varsNamed 7)=true:=by kernel_rfl
theorem bn6:joinedFacts Tryz.pinned.checked.prog 7 Tryz.f7 (Rows.OpenSpec.upto Rows.modelNeedsSpec).bare Rows.modelNeedsUptoRow=true:=by
 unfold joinedFacts;rw[cj7,cj8,cj9,ck3]
 kernel_rfl
theorem co4:Rows.modelNeedsUptoRow.wfByText (Rows.OpenSpec.upto Rows.modelNeedsSpec)=true:=by kernel_rfl
theorem co5:false=Tryz.pinned.checked.prog.looks []:=by kernel_rfl
theorem co6:false=Rows.modelNeedsUptoRow.goesBy Tryz.pinned.checked.prog:=by kernel_rfl
theorem co7 : Tryz.pinned.checked.prog.mainIs = some (true, ("6c5220b7435601f861055acaf4e7a8d79dad778511d1499d79b58ce15ce6db41" : String).toList) := by kernel_rfl
theorem bk3 : Tryz.prog.funcNamed "chandlery/chandlerylaw16.ModelNeeds" = some 7 := by kernel_rfl
theorem co8:(([22,23,27,35]:List TypeId).all fun u=>!Tryz.prog.wantsStandIn u)=true:=by kernel_rfl
end Go.Proofs.YtebfbbjghhagbaaGreatDoor
