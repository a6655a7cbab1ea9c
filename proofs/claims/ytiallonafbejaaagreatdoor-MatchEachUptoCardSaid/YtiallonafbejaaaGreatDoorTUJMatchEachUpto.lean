/- MatchEachUpto: closed facts. Conditions: none. -/
import Derived.Test.YtiallonafbejaaaGreatDoorProg
import Derived.Test.YtiallonafbejaaaGreatDoorRows
import Derived.Test.YtiallonafbejaaaGreatDoorTie
import Derived.Test.YtiallonafbejaaaGreatDoorCards
import Derived.ProofKit
import Derived.LaidMore
import Derived.Lay
import Derived.OpenShut
import Derived.Stop.Joined
import Derived.SevenTiedAt
set_option linter.all false
namespace Go.Proofs.YtiallonafbejaaaGreatDoor
open Go Go.Proofs Go.ChangeShapes Go.WideShapes Go.ChangeAt Go.WideMaps Go.WideElems Go.RowKit
set_option maxRecDepth 100000
theorem matchEachUpto_j1 : (Rows.matchEachUptoRow.inPlace == Tryz.pinned.checked.prog.inPlace 5) = true := by kernel_rfl
theorem matchEachUpto_j2 : (Rows.matchEachUptoRow.unfollowed == Tryz.pinned.checked.prog.unfollowed 5) = true := by kernel_rfl
theorem matchEachUpto_j3 : (Rows.matchEachUptoRow.recurses == Tryz.pinned.checked.prog.recurses 5) = true := by kernel_rfl
theorem matchEachUpto_j4 : (Rows.matchEachUptoRow.named == Tryz.pinned.checked.prog.varsNamed 5) = true := by kernel_rfl
theorem matchEachUpto_closed : joinedFacts Tryz.pinned.checked.prog 5 Tryz.f5 (Rows.OpenSpec.upto Rows.matchEachSpec).bare Rows.matchEachUptoRow = true := by
 unfold joinedFacts
 rw [matchEachUpto_j1, matchEachUpto_j2, matchEachUpto_j3, matchEachUpto_j4]
 kernel_rfl
theorem matchEachUpto_w : Rows.matchEachUptoRow.wfByText (Rows.OpenSpec.upto Rows.matchEachSpec) = true := by kernel_rfl
theorem matchEachUpto_k : false = Tryz.pinned.checked.prog.looks [] := by kernel_rfl
theorem matchEachUpto_g : false = Rows.matchEachUptoRow.goesBy Tryz.pinned.checked.prog := by kernel_rfl
theorem matchEachUpto_m : Tryz.pinned.checked.prog.mainIs = some (true, ("4ea36aacffac5db0ddb70f5fb71fb180dd38bc1fb11ef7841eddd6f9c9cf468e" : String).toList) := by kernel_rfl
theorem matchEachUpto_n : Tryz.prog.funcNamed "chandlery/chandlerylaw13.MatchEach" = some 5 := by kernel_rfl
theorem matchEachUpto_u : (([22, 23, 51] : List TypeId).all fun u => !Tryz.prog.wantsStandIn u) = true := by kernel_rfl
end Go.Proofs.YtiallonafbejaaaGreatDoor
