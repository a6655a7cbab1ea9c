/- OrderNames: closed facts. Conditions: none. -/
import Derived.Test.YtiallonafbejaaaGreatDoorProg
import Derived.Test.YtiallonafbejaaaGreatDoorRows
import Derived.Test.YtiallonafbejaaaGreatDoorTie
import Derived.Test.YtiallonafbejaaaGreatDoorCards
import Derived.ProofKit
import Derived.LaidMore
import Derived.Lay
import Derived.OpenShut
import Derived.Stop.Joined
import Derived.SevenTiedAt
set_option linter.all false
namespace Go.Proofs.YtiallonafbejaaaGreatDoor
open Go Go.Proofs Go.ChangeShapes Go.WideShapes Go.ChangeAt Go.WideMaps Go.WideElems Go.RowKit
set_option maxRecDepth 100000
theorem orderNames_j1 : (Rows.orderNamesRow.inPlace == Tryz.pinned.checked.prog.inPlace 11) = true := by kernel_rfl
theorem orderNames_j2 : (Rows.orderNamesRow.unfollowed == Tryz.pinned.checked.prog.unfollowed 11) = true := by kernel_rfl
theorem orderNames_j3 : (Rows.orderNamesRow.recurses == Tryz.pinned.checked.prog.recurses 11) = true := by kernel_rfl
theorem orderNames_j4 : (Rows.orderNamesRow.named == Tryz.pinned.checked.prog.varsNamed 11) = true := by kernel_rfl
theorem orderNames_closed : joinedFacts Tryz.pinned.checked.prog 11 Tryz.f11 Rows.orderNamesSpec Rows.orderNamesRow = true := by
  unfold joinedFacts
  rw [orderNames_j1, orderNames_j2, orderNames_j3, orderNames_j4]
  kernel_rfl
theorem orderNames_w : Rows.orderNamesRow.wfByText (OpenSpec.ofChange Rows.orderNamesSpec) = true := by kernel_rfl
theorem orderNames_k : false = Tryz.pinned.checked.prog.looks [] := by kernel_rfl
theorem orderNames_g : false = Rows.orderNamesRow.goesBy Tryz.pinned.checked.prog := by kernel_rfl
theorem orderNames_m : Tryz.pinned.checked.prog.mainIs = some (true, ("4ea36aacffac5db0ddb70f5fb71fb180dd38bc1fb11ef7841eddd6f9c9cf468e" : String).toList) := by kernel_rfl
theorem orderNames_n : Tryz.prog.funcNamed "chandlery/chandlerylaw31.OrderNames" = some 11 := by kernel_rfl
end Go.Proofs.YtiallonafbejaaaGreatDoor
