/- ModelNothingUpto: closed facts. Conditions: none. -/
import Derived.Test.YtebfbbjghhagbaaGreatDoorProg
import Derived.Test.YtebfbbjghhagbaaGreatDoorRows
import Derived.Test.YtebfbbjghhagbaaGreatDoorTie
import Derived.Test.YtebfbbjghhagbaaGreatDoorCards
import Derived.ProofKit
import Derived.LaidMore
import Derived.Lay
import Derived.OpenShut
import Derived.Stop.Joined
import Derived.SevenTiedAt
set_option linter.all false
namespace Go.Proofs.YtebfbbjghhagbaaGreatDoor
open Go Go.Proofs Go.ChangeShapes Go.WideShapes Go.ChangeAt Go.WideMaps Go.WideElems Go.RowKit
set_option maxRecDepth 100000
theorem bv8:(Rows.modelNothingUptoRow.inPlace==Tryz.pinned.checked.prog.inPlace 3)=true:=by kernel_rfl
theorem bv9:(Rows.modelNothingUptoRow.unfollowed==Tryz.pinned.checked.prog.unfollowed 3)=true:=by kernel_rfl
theorem bw1:(Rows.modelNothingUptoRow.recurses==Tryz.pinned.checked.prog.recurses 3)=true:=by kernel_rfl
theorem bw2:(Rows.modelNothingUptoRow.named==Tryz.pinned.checked.prog.varsNamed 3)=true:=by kernel_rfl
theorem bj2:joinedFacts Tryz.pinned.checked.prog 3 Tryz.f3 (Rows.OpenSpec.upto Rows.modelNothingSpec).bare Rows.modelNothingUptoRow=true:=by
 unfold joinedFacts;rw[bv8,bv9,bw1,bw2]
 kernel_rfl
theorem ca2:Rows.modelNothingUptoRow.wfByText (Rows.OpenSpec.upto Rows.modelNothingSpec)=true:=by kernel_rfl
theorem ca3:false=Tryz.pinned.checked.prog.looks []:=by kernel_rfl
theorem ca4:false=Rows.modelNothingUptoRow.goesBy Tryz.pinned.checked.prog:=by kernel_rfl
theorem ca5 : Tryz.pinned.checked.prog.mainIs = some (true, ("6c5220b7435601f861055acaf4e7a8d79dad778511d1499d79b58ce15ce6db41" : String).toList) := by kernel_rfl
theorem bd8 : Tryz.prog.funcNamed "chandlery/chandlerylaw16.ModelNothing" = some 3 := by kernel_rfl
theorem ca6:(([22,23,27]:List TypeId).all fun u=>!Tryz.prog.wantsStandIn u)=true:=by kernel_rfl
end Go.Proofs.YtebfbbjghhagbaaGreatDoor
