/- RulesStateUpto: closed facts. Conditions: none. -/
import Derived.Test.YtiplpeflonpcmaaGreatDoorProg
import Derived.Test.YtiplpeflonpcmaaGreatDoorRows
import Derived.Test.YtiplpeflonpcmaaGreatDoorTie
import Derived.Test.YtiplpeflonpcmaaGreatDoorCards
import Derived.ProofKit
import Derived.LaidMore
import Derived.Lay
import Derived.OpenShut
import Derived.Stop.Joined
import Derived.SevenTiedAt
set_option linter.all false
set_option maxRecDepth 100000
namespace Go.Proofs.YtiplpeflonpcmaaGreatDoor
open Go Go.Proofs Go.ChangeShapes Go.WideShapes Go.ChangeAt Go.WideMaps Go.WideElems Go.RowKit
theorem cr9:(Rows.rulesStateUptoRow.inPlace==Tryz.pinned.checked.prog.inPlace 3)=true:=by kernel_rfl
theorem cs3:(Rows.rulesStateUptoRow.unfollowed==Tryz.pinned.checked.prog.unfollowed 3)=true:=by kernel_rfl
theorem cs4:(Rows.rulesStateUptoRow.recurses==Tryz.pinned.checked.prog.recurses 3)=true:=by kernel_rfl
theorem cs5:(Rows.rulesStateUptoRow.named==Tryz.pinned.checked.prog.varsNamed 3)=true:=by kernel_rfl
theorem br7:joinedFacts Tryz.pinned.checked.prog 3 Tryz.f3 (Rows.OpenSpec.upto Rows.rulesStateSpec).bare Rows.rulesStateUptoRow=true:=by
 unfold joinedFacts;rw[cr9,cs3,cs4,cs5]
 kernel_rfl
theorem cx5:Rows.rulesStateUptoRow.wfByText (Rows.OpenSpec.upto Rows.rulesStateSpec)=true:=by kernel_rfl
theorem cx6:false=Tryz.pinned.checked.prog.looks []:=by kernel_rfl
theorem cx7:false=Rows.rulesStateUptoRow.goesBy Tryz.pinned.checked.prog:=by kernel_rfl
theorem cx8 : Tryz.pinned.checked.prog.mainIs = some (true, ("a2864920533177a95f36aeaf07fdb30b38eb7a3d5659d19fa1c490a2eabe7f26" : String).toList) := by kernel_rfl
theorem bo3 : Tryz.prog.funcNamed "chandlery/chandlerylaw18.RulesState" = some 3 := by kernel_rfl
theorem cx9:(([22,23,27,28]:List TypeId).all fun u=>!Tryz.prog.wantsStandIn u)=true:=by kernel_rfl
end Go.Proofs.YtiplpeflonpcmaaGreatDoor
