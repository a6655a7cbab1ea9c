/- BestNames: a call within it, by its run. Conditions: none. -/
import Derived.Test.YtmepmfjldjmgoaaGreatDoorTWBX0
set_option linter.all false
namespace Go.Id.Tryz
open Go Go.Id Go.Proofs Go.Id.Md
set_option maxRecDepth 100000
theorem bestNames_m5 : PC Tryz.prog EK 21 [vX0, .nilslice, (.tslice [[(.int .i64 (2))]]), (.tslice [[(.int .u8 (1)), (.str [108, 105, 98]), (.int .u8 (0)), (.int .i64 (0)), (.str []), (.str [])]])] (.bool true) := runD ndX ldX npX fzX 200 .nil (by kernel_rfl)
end Go.Id.Tryz
