/- FixesNames: closed facts. Conditions: none. -/
import Derived.Test.YtgdmgomjhlohkaaGreatDoorProg
import Derived.Test.YtgdmgomjhlohkaaGreatDoorRows
import Derived.Test.YtgdmgomjhlohkaaGreatDoorTie
import Derived.Test.YtgdmgomjhlohkaaGreatDoorCards
import Derived.ProofKit
import Derived.LaidMore
import Derived.Lay
import Derived.OpenShut
import Derived.Stop.Joined
import Derived.SevenTiedAt
set_option linter.all false
namespace Go.Proofs.YtgdmgomjhlohkaaGreatDoor
open Go Go.Proofs Go.ChangeShapes Go.WideShapes Go.ChangeAt Go.WideMaps Go.WideElems Go.RowKit
set_option maxRecDepth 100000
theorem fixesNames_j1 : (Rows.fixesNamesRow.inPlace == Tryz.pinned.checked.prog.inPlace 3) = true := by kernel_rfl
theorem fixesNames_j2 : (Rows.fixesNamesRow.unfollowed == Tryz.pinned.checked.prog.unfollowed 3) = true := by kernel_rfl
theorem fixesNames_j3 : (Rows.fixesNamesRow.recurses == Tryz.pinned.checked.prog.recurses 3) = true := by kernel_rfl
theorem fixesNames_j4 : (Rows.fixesNamesRow.named == Tryz.pinned.checked.prog.varsNamed 3) = true := by kernel_rfl
theorem fixesNames_closed : joinedFacts Tryz.pinned.checked.prog 3 Tryz.f3 Rows.fixesNamesSpec Rows.fixesNamesRow = true := by
  unfold joinedFacts
  rw [fixesNames_j1, fixesNames_j2, fixesNames_j3, fixesNames_j4]
  kernel_rfl
theorem fixesNames_w : Rows.fixesNamesRow.wfByText (OpenSpec.ofChange Rows.fixesNamesSpec) = true := by kernel_rfl
theorem fixesNames_k : false = Tryz.pinned.checked.prog.looks [] := by kernel_rfl
theorem fixesNames_g : false = Rows.fixesNamesRow.goesBy Tryz.pinned.checked.prog := by kernel_rfl
theorem fixesNames_m : Tryz.pinned.checked.prog.mainIs = some (true, ("1125d908abd1c682e5f3ee9043be2e912c5eed178d4f388439defbc0ba08fe8b" : String).toList) := by kernel_rfl
theorem fixesNames_n : Tryz.prog.funcNamed "chandlery/chandlerylaw29.FixesNames" = some 3 := by kernel_rfl
end Go.Proofs.YtgdmgomjhlohkaaGreatDoor
