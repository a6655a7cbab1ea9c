/- BestNames: a call within it, by its run. Conditions: none. -/
import Derived.Test.YtmepmfjldjmgoaaGreatDoorTWBX0
set_option linter.all false
namespace Go.Id.Tryz
open Go Go.Id Go.Proofs Go.Id.Md
set_option maxRecDepth 100000
theorem bestNames_m1 : PC Tryz.prog EK 17 [] (.bool true) := runD ndX ldX npX fzX 200 .nil (by kernel_rfl)
end Go.Id.Tryz
