/- ModelFewerUpto: closed facts. Conditions: none. -/
import Derived.Test.YtebfbbjghhagbaaGreatDoorProg
import Derived.Test.YtebfbbjghhagbaaGreatDoorRows
import Derived.Test.YtebfbbjghhagbaaGreatDoorTie
import Derived.Test.YtebfbbjghhagbaaGreatDoorCards
import Derived.ProofKit
import Derived.LaidMore
import Derived.Lay
import Derived.OpenShut
import Derived.Stop.Joined
import Derived.SevenTiedAt
set_option linter.all false
namespace Go.Proofs.YtebfbbjghhagbaaGreatDoor
open Go Go.Proofs Go.ChangeShapes Go.WideShapes Go.ChangeAt Go.WideMaps Go.WideElems Go.RowKit
set_option maxRecDepth 100000
theorem ck9:(Rows.modelFewerUptoRow.inPlace==Tryz.pinned.checked.prog.inPlace 4)=true:=by kernel_rfl
theorem cl1:(Rows.modelFewerUptoRow.unfollowed==Tryz.pinned.checked.prog.unfollowed 4)=true:=by kernel_rfl
theorem cl2:(Rows.modelFewerUptoRow.recurses==Tryz.pinned.checked.prog.recurses 4)=true:=by kernel_rfl
theorem cl3:(Rows.modelFewerUptoRow.named==Tryz.pinned.checked.prog.varsNamed 4)=true:=by kernel_rfl
theorem bn9:joinedFacts Tryz.pinned.checked.prog 4 Tryz.f4 (Rows.OpenSpec.upto Rows.modelFewerSpec).bare Rows.modelFewerUptoRow=true:=by
 unfold joinedFacts;rw[ck9,cl1,cl2,cl3]
 kernel_rfl
theorem co9:Rows.modelFewerUptoRow.wfByText (Rows.OpenSpec.upto Rows.modelFewerSpec)=true:=by kernel_rfl
theorem cp1:false=Tryz.pinned.checked.prog.looks []:=by kernel_rfl
theorem cp3:false=Rows.modelFewerUptoRow.goesBy Tryz.pinned.checked.prog:=by kernel_rfl
theorem cp4 : Tryz.pinned.checked.prog.mainIs = some (true, ("6c5220b7435601f861055acaf4e7a8d79dad778511d1499d79b58ce15ce6db41" : String).toList) := by kernel_rfl
theorem bk6 : Tryz.prog.funcNamed "chandlery/chandlerylaw16.ModelFewer" = some 4 := by kernel_rfl
theorem cp5:(([22,23,27,35,35]:List TypeId).all fun u=>!Tryz.prog.wantsStandIn u)=true:=by kernel_rfl
end Go.Proofs.YtebfbbjghhagbaaGreatDoor
