/- FixesNames: a call within it, by its run. Conditions: none. -/
import Derived.Test.YtgdmgomjhlohkaaGreatDoorTFFX0
set_option linter.all false
namespace Go.Id.Tryz
open Go Go.Id Go.Proofs Go.Id.Md
set_option maxRecDepth 100000
theorem fixesNames_m2 : PC Tryz.prog EE 5 [vX0, (.tslice [[(.int .u8 (7)), (.int .i64 (0)), (.int .i64 (0))], [(.int .u8 (6)), (.int .i64 (0)), (.int .i64 (0))], [(.int .u8 (3)), (.int .i64 (3)), (.int .i64 (0))]]), (.int .i64 (1099511627776))] (.tuple [(.tslice [[(.int .u8 (1)), (.int .i64 (0))], [(.int .u8 (2)), (.int .i64 (0))], [(.int .u8 (3)), (.int .i64 (0))], [(.int .u8 (4)), (.int .i64 (0))]]), (.int .i64 (6)), (.int .i64 (0))]) := runD ndX ndX npX fzX 200 .nil (by kernel_rfl)
end Go.Id.Tryz
