/- BestNames: calls within a call, by their runs. Conditions: none. -/
import Derived.Test.YtmepmfjldjmgoaaGreatDoorTWBX0
set_option linter.all false
namespace Go.Id.Tryz
open Go Go.Id Go.Proofs Go.Id.Md
set_option maxRecDepth 100000
theorem bestNames_s6_0 : PC Tryz.prog EK 23 [vX1, .nilslice, (.agg [(.int .u8 (2)), (.bool false), (.tslice [[(.int .u8 (1)), (.str [97, 112, 112]), (.int .u8 (0)), (.int .i64 (0)), (.str []), (.str [])]]), .nilslice, (.int .i64 (0))])] vX6 := runD ndX ldX npX fzX 200 .nil (by kernel_rfl)
theorem bestNames_s6_1 : PC Tryz.prog EK 56 [vX7] vX8 := runD ndX ldX npX fzX 200 .nil (by kernel_rfl)
end Go.Id.Tryz
/- BestNames: a call within it, by its run. Conditions: none. -/
namespace Go.Id.Tryz
open Go Go.Id Go.Proofs Go.Id.Md
set_option maxRecDepth 100000
theorem bestNames_n6 : MOK Tryz.prog EK [(23, [vX1, .nilslice, (.agg [(.int .u8 (2)), (.bool false), (.tslice [[(.int .u8 (1)), (.str [97, 112, 112]), (.int .u8 (0)), (.int .i64 (0)), (.str []), (.str [])]]), .nilslice, (.int .i64 (0))])], vX6), (56, [vX7], vX8)] := (.cons (by kernel_rfl) bestNames_s6_0 (.cons (by kernel_rfl) bestNames_s6_1 .nil))
theorem bestNames_m6 : PC Tryz.prog EK 21 [vX1, .nilslice, (.tslice [[(.int .i64 (0))], [(.int .i64 (2))], [(.int .i64 (4))]]), (.tslice [[(.int .u8 (1)), (.str [97, 112, 112]), (.int .u8 (0)), (.int .i64 (0)), (.str []), (.str [])]])] (.bool true) := runD ndX ldX npX fzX 200 bestNames_n6 (by kernel_rfl)
end Go.Id.Tryz
