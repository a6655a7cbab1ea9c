/- BestNames: a call within it, by its run. Conditions: none. -/
import Derived.Test.YtmepmfjldjmgoaaGreatDoorTWBX0
set_option linter.all false
namespace Go.Id.Tryz
open Go Go.Id Go.Proofs Go.Id.Md
set_option maxRecDepth 100000
theorem bestNames_m4 : PC Tryz.prog EK 21 [vX0, .nilslice, (.tslice [[(.int .i64 (5))]]), (.tslice [[(.int .u8 (1)), (.str [111, 116, 104, 101, 114]), (.int .u8 (0)), (.int .i64 (0)), (.str []), (.str [])]])] (.bool true) := runD ndX ldX npX fzX 200 .nil (by kernel_rfl)
end Go.Id.Tryz
