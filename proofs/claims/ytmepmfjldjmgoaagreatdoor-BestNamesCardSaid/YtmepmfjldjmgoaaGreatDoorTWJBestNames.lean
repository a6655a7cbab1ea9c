/- BestNames: closed facts. Conditions: none. -/
import Derived.Test.YtmepmfjldjmgoaaGreatDoorProg
import Derived.Test.YtmepmfjldjmgoaaGreatDoorRows
import Derived.Test.YtmepmfjldjmgoaaGreatDoorTie
import Derived.Test.YtmepmfjldjmgoaaGreatDoorCards
import Derived.ProofKit
import Derived.LaidMore
import Derived.Lay
import Derived.OpenShut
import Derived.Stop.Joined
import Derived.SevenTiedAt
set_option linter.all false
namespace Go.Proofs.YtmepmfjldjmgoaaGreatDoor
open Go Go.Proofs Go.ChangeShapes Go.WideShapes Go.ChangeAt Go.WideMaps Go.WideElems Go.RowKit
set_option maxRecDepth 100000
theorem bestNames_j1 : (Rows.bestNamesRow.inPlace == Tryz.pinned.checked.prog.inPlace 4) = true := by kernel_rfl
theorem bestNames_j2 : (Rows.bestNamesRow.unfollowed == Tryz.pinned.checked.prog.unfollowed 4) = true := by kernel_rfl
theorem bestNames_j3 : (Rows.bestNamesRow.recurses == Tryz.pinned.checked.prog.recurses 4) = true := by kernel_rfl
theorem bestNames_j4 : (Rows.bestNamesRow.named == Tryz.pinned.checked.prog.varsNamed 4) = true := by kernel_rfl
theorem bestNames_closed : joinedFacts Tryz.pinned.checked.prog 4 Tryz.f4 Rows.bestNamesSpec Rows.bestNamesRow = true := by
  unfold joinedFacts
  rw [bestNames_j1, bestNames_j2, bestNames_j3, bestNames_j4]
  kernel_rfl
theorem bestNames_w : Rows.bestNamesRow.wfByText (OpenSpec.ofChange Rows.bestNamesSpec) = true := by kernel_rfl
theorem bestNames_k : false = Tryz.pinned.checked.prog.looks [] := by kernel_rfl
theorem bestNames_g : false = Rows.bestNamesRow.goesBy Tryz.pinned.checked.prog := by kernel_rfl
theorem bestNames_m : Tryz.pinned.checked.prog.mainIs = some (true, ("86e30f65f809f71041cd0d1d4d0867c10bfc3421da65dcdb9250d189f1c633b2" : String).toList) := by kernel_rfl
theorem bestNames_n : Tryz.prog.funcNamed "chandlery/chandlerylaw27.BestNames" = some 4 := by kernel_rfl
end Go.Proofs.YtmepmfjldjmgoaaGreatDoor
