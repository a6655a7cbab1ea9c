/- WishNames: closed facts. Conditions: none. -/
import Derived.Test.YtmepmfjldjmgoaaGreatDoorProg
import Derived.Test.YtmepmfjldjmgoaaGreatDoorRows
import Derived.Test.YtmepmfjldjmgoaaGreatDoorTie
import Derived.Test.YtmepmfjldjmgoaaGreatDoorCards
import Derived.ProofKit
import Derived.LaidMore
import Derived.Lay
import Derived.OpenShut
import Derived.Stop.Joined
import Derived.SevenTiedAt
set_option linter.all false
namespace Go.Proofs.YtmepmfjldjmgoaaGreatDoor
open Go Go.Proofs Go.ChangeShapes Go.WideShapes Go.ChangeAt Go.WideMaps Go.WideElems Go.RowKit
set_option maxRecDepth 100000
theorem wishNames_j1 : (Rows.wishNamesRow.inPlace == Tryz.pinned.checked.prog.inPlace 3) = true := by kernel_rfl
theorem wishNames_j2 : (Rows.wishNamesRow.unfollowed == Tryz.pinned.checked.prog.unfollowed 3) = true := by kernel_rfl
theorem wishNames_j3 : (Rows.wishNamesRow.recurses == Tryz.pinned.checked.prog.recurses 3) = true := by kernel_rfl
theorem wishNames_j4 : (Rows.wishNamesRow.named == Tryz.pinned.checked.prog.varsNamed 3) = true := by kernel_rfl
theorem wishNames_closed : joinedFacts Tryz.pinned.checked.prog 3 Tryz.f3 Rows.wishNamesSpec Rows.wishNamesRow = true := by
  unfold joinedFacts
  rw [wishNames_j1, wishNames_j2, wishNames_j3, wishNames_j4]
  kernel_rfl
theorem wishNames_w : Rows.wishNamesRow.wfByText (OpenSpec.ofChange Rows.wishNamesSpec) = true := by kernel_rfl
theorem wishNames_k : false = Tryz.pinned.checked.prog.looks [] := by kernel_rfl
theorem wishNames_g : false = Rows.wishNamesRow.goesBy Tryz.pinned.checked.prog := by kernel_rfl
theorem wishNames_m : Tryz.pinned.checked.prog.mainIs = some (true, ("86e30f65f809f71041cd0d1d4d0867c10bfc3421da65dcdb9250d189f1c633b2" : String).toList) := by kernel_rfl
theorem wishNames_n : Tryz.prog.funcNamed "chandlery/chandlerylaw26.WishNames" = some 3 := by kernel_rfl
end Go.Proofs.YtmepmfjldjmgoaaGreatDoor
