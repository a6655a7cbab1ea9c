/- WishNames: by its run. Conditions: none. -/
import Derived.Test.YtmepmfjldjmgoaaGreatDoorTWRK3
set_option linter.all false
namespace Go.Id.Tryz
open Go Go.Id Go.Proofs Go.Id.Md
set_option maxRecDepth 100000
def npX : List Nat := [8, 38, 40, 57, 76, 77, 80, 81, 84, 85, 86, 87, 88, 89, 90, 97, 99, 109, 110, 111, 131, 132, 133, 147, 156, 158, 160, 161, 164, 174, 179, 191, 192, 272, 281, 294]
theorem wishNames_pc : PC Tryz.prog EK 3 [] (.bool true) := runX3 npX noFz 200 .nil (by kernel_rfl)
end Go.Id.Tryz
