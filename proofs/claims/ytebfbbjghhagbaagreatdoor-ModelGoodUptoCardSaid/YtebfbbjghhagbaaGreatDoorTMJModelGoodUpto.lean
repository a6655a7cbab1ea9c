/- ModelGoodUpto: closed facts. Conditions: none. -/
import Derived.Test.YtebfbbjghhagbaaGreatDoorProg
import Derived.Test.YtebfbbjghhagbaaGreatDoorRows
import Derived.Test.YtebfbbjghhagbaaGreatDoorTie
import Derived.Test.YtebfbbjghhagbaaGreatDoorCards
import Derived.ProofKit
import Derived.LaidMore
import Derived.Lay
import Derived.OpenShut
import Derived.Stop.Joined
import Derived.SevenTiedAt
set_option linter.all false
namespace Go.Proofs.YtebfbbjghhagbaaGreatDoor
open Go Go.Proofs Go.ChangeShapes Go.WideShapes Go.ChangeAt Go.WideMaps Go.WideElems Go.RowKit
set_option maxRecDepth 100000
theorem co5:(Rows.modelGoodUptoRow.inPlace==Tryz.pinned.checked.prog.inPlace 6)=true:=by kernel_rfl
theorem co6:(Rows.modelGoodUptoRow.unfollowed==Tryz.pinned.checked.prog.unfollowed 6)=true:=by kernel_rfl
theorem co7:(Rows.modelGoodUptoRow.recurses==Tryz.pinned.checked.prog.recurses 6)=true:=by kernel_rfl
theorem co8:(Rows.modelGoodUptoRow.named==Tryz.pinned.checked.prog.varsNamed 6)=true:=by kernel_rfl
theorem bt3:joinedFacts Tryz.pinned.checked.prog 6 Tryz.f6 (Rows.OpenSpec.upto Rows.modelGoodSpec).bare Rows.modelGoodUptoRow=true:=by
 unfold joinedFacts;rw[co5,co6,co7,co8]
 kernel_rfl
theorem cw4:Rows.modelGoodUptoRow.wfByText (Rows.OpenSpec.upto Rows.modelGoodSpec)=true:=by kernel_rfl
theorem cw5:false=Tryz.pinned.checked.prog.looks []:=by kernel_rfl
theorem cw6:false=Rows.modelGoodUptoRow.goesBy Tryz.pinned.checked.prog:=by kernel_rfl
theorem cw7 : Tryz.pinned.checked.prog.mainIs = some (true, ("6c5220b7435601f861055acaf4e7a8d79dad778511d1499d79b58ce15ce6db41" : String).toList) := by kernel_rfl
theorem bn8 : Tryz.prog.funcNamed "chandlery/chandlerylaw16.ModelGood" = some 6 := by kernel_rfl
theorem cw8:(([22,23,27,35]:List TypeId).all fun u=>!Tryz.prog.wantsStandIn u)=true:=by kernel_rfl
end Go.Proofs.YtebfbbjghhagbaaGreatDoor
