/- MatchTurnedUpto: closed facts. Conditions: none. -/
import Derived.Test.YtiallonafbejaaaGreatDoorProg
import Derived.Test.YtiallonafbejaaaGreatDoorRows
import Derived.Test.YtiallonafbejaaaGreatDoorTie
import Derived.Test.YtiallonafbejaaaGreatDoorCards
import Derived.ProofKit
import Derived.LaidMore
import Derived.Lay
import Derived.OpenShut
import Derived.Stop.Joined
import Derived.SevenTiedAt
set_option linter.all false
namespace Go.Proofs.YtiallonafbejaaaGreatDoor
open Go Go.Proofs Go.ChangeShapes Go.WideShapes Go.ChangeAt Go.WideMaps Go.WideElems Go.RowKit
set_option maxRecDepth 100000
theorem matchTurnedUpto_j1 : (Rows.matchTurnedUptoRow.inPlace == Tryz.pinned.checked.prog.inPlace 4)=true:=by kernel_rfl
theorem matchTurnedUpto_j2 : (Rows.matchTurnedUptoRow.unfollowed == Tryz.pinned.checked.prog.unfollowed 4)=true:=by kernel_rfl
theorem matchTurnedUpto_j3 : (Rows.matchTurnedUptoRow.recurses == Tryz.pinned.checked.prog.recurses 4)=true:=by kernel_rfl
theorem matchTurnedUpto_j4 : (Rows.matchTurnedUptoRow.named == Tryz.pinned.checked.prog.varsNamed 4)=true:=by kernel_rfl
theorem matchTurnedUpto_closed : joinedFacts Tryz.pinned.checked.prog 4 Tryz.f4 (Rows.OpenSpec.upto Rows.matchTurnedSpec).bare Rows.matchTurnedUptoRow=true:=by
 unfold joinedFacts
 rw [matchTurnedUpto_j1,matchTurnedUpto_j2,matchTurnedUpto_j3,matchTurnedUpto_j4]
 kernel_rfl
theorem matchTurnedUpto_w : Rows.matchTurnedUptoRow.wfByText (Rows.OpenSpec.upto Rows.matchTurnedSpec)=true:=by kernel_rfl
theorem matchTurnedUpto_k : false=Tryz.pinned.checked.prog.looks []:=by kernel_rfl
theorem matchTurnedUpto_g : false=Rows.matchTurnedUptoRow.goesBy Tryz.pinned.checked.prog:=by kernel_rfl
theorem matchTurnedUpto_m : Tryz.pinned.checked.prog.mainIs = some (true, ("4ea36aacffac5db0ddb70f5fb71fb180dd38bc1fb11ef7841eddd6f9c9cf468e" : String).toList) := by kernel_rfl
theorem matchTurnedUpto_n : Tryz.prog.funcNamed "chandlery/chandlerylaw13.MatchTurned" = some 4 := by kernel_rfl
theorem matchTurnedUpto_u : (([22,23] : List TypeId).all fun u => !Tryz.prog.wantsStandIn u)=true:=by kernel_rfl
end Go.Proofs.YtiallonafbejaaaGreatDoor
