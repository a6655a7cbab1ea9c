/- BestNames: calls within a call, by their runs. Conditions: none. -/
import Derived.Test.YtmepmfjldjmgoaaGreatDoorTWBX0
set_option linter.all false
namespace Go.Id.Tryz
open Go Go.Id Go.Proofs Go.Id.Md
set_option maxRecDepth 100000
theorem bestNames_s9_0 : PC Tryz.prog EK 23 [vX1, vX2, (.agg [(.int .u8 (2)), (.bool false), .nilslice, .nilslice, (.int .i64 (0))])] vX19 := runD ndX ldX npX fzX 200 .nil (by kernel_rfl)
theorem bestNames_s9_1 : PC Tryz.prog EK 56 [vX20] vX21 := runD ndX ldX npX fzX 200 .nil (by kernel_rfl)
end Go.Id.Tryz
/- BestNames: a call within it, by its run. Conditions: none. -/
namespace Go.Id.Tryz
open Go Go.Id Go.Proofs Go.Id.Md
set_option maxRecDepth 100000
theorem bestNames_n9 : MOK Tryz.prog EK [(23, [vX1, vX2, (.agg [(.int .u8 (2)), (.bool false), .nilslice, .nilslice, (.int .i64 (0))])], vX19), (56, [vX20], vX21)] := (.cons (by kernel_rfl) bestNames_s9_0 (.cons (by kernel_rfl) bestNames_s9_1 .nil))
theorem bestNames_m9 : PC Tryz.prog EK 21 [vX1, vX2, (.tslice [[(.int .i64 (0))], [(.int .i64 (1))], [(.int .i64 (2))]]), .nilslice] (.bool true) := runD ndX ldX npX fzX 200 bestNames_n9 (by kernel_rfl)
end Go.Id.Tryz
