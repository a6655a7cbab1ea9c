/- RulesTellsUpto: closed facts. Conditions: none. -/
import Derived.Test.YtcdomcibjgbalaaGreatDoorProg
import Derived.Test.YtcdomcibjgbalaaGreatDoorRows
import Derived.Test.YtcdomcibjgbalaaGreatDoorTie
import Derived.Test.YtcdomcibjgbalaaGreatDoorCards
import Derived.ProofKit
import Derived.LaidMore
import Derived.Lay
import Derived.OpenShut
import Derived.Stop.Joined
import Derived.SevenTiedAt
set_option linter.all false
set_option maxRecDepth 100000
namespace Go.Proofs.YtcdomcibjgbalaaGreatDoor
open Go Go.Proofs Go.ChangeShapes Go.WideShapes Go.ChangeAt Go.WideMaps Go.WideElems Go.RowKit
theorem cs6:(Rows.rulesTellsUptoRow.inPlace==Tryz.pinned.checked.prog.inPlace 3)=true:=by kernel_rfl
theorem cs7:(Rows.rulesTellsUptoRow.unfollowed==Tryz.pinned.checked.prog.unfollowed 3)=true:=by kernel_rfl
theorem cs8:(Rows.rulesTellsUptoRow.recurses==Tryz.pinned.checked.prog.recurses 3)=true:=by kernel_rfl
theorem cs9:(Rows.rulesTellsUptoRow.named==Tryz.pinned.checked.prog.varsNamed 3)=true:=by kernel_rfl
theorem br1:joinedFacts Tryz.pinned.checked.prog 3 Tryz.f3 (Rows.OpenSpec.upto Rows.rulesTellsSpec).bare Rows.rulesTellsUptoRow=true:=by
 unfold joinedFacts;rw[cs6,cs7,cs8,cs9]
 kernel_rfl
theorem cx3:Rows.rulesTellsUptoRow.wfByText (Rows.OpenSpec.upto Rows.rulesTellsSpec)=true:=by kernel_rfl
theorem cx4:false=Tryz.pinned.checked.prog.looks []:=by kernel_rfl
theorem cx5:false=Rows.rulesTellsUptoRow.goesBy Tryz.pinned.checked.prog:=by kernel_rfl
theorem cx6 : Tryz.pinned.checked.prog.mainIs = some (true, ("fae4b8d63f7ddf2ba13636099a2752568ff2d5fa27116424a38b078dc5fed525" : String).toList) := by kernel_rfl
theorem bn8 : Tryz.prog.funcNamed "chandlery/chandlerylaw18.RulesTells" = some 3 := by kernel_rfl
theorem cx7:(([22,23,27,28]:List TypeId).all λu=>!Tryz.prog.wantsStandIn u)=true:=by kernel_rfl
end Go.Proofs.YtcdomcibjgbalaaGreatDoor
