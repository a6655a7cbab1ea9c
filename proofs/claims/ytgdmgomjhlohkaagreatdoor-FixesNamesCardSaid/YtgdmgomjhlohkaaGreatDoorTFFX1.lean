/- FixesNames: a call within it, by its run. Conditions: none. -/
import Derived.Test.YtgdmgomjhlohkaaGreatDoorTFFX0
set_option linter.all false
namespace Go.Id.Tryz
open Go Go.Id Go.Proofs Go.Id.Md
set_option maxRecDepth 100000
theorem fixesNames_m1 : PC Tryz.prog EE 6 [] (.bool true) := runD ndX ndX npX fzX 200 .nil (by kernel_rfl)
end Go.Id.Tryz
