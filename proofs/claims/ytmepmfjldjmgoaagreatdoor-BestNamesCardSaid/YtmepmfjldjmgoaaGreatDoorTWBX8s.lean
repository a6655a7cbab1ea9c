/- BestNames: calls within a call, by their runs. Conditions: none. -/
import Derived.Test.YtmepmfjldjmgoaaGreatDoorTWBX0
set_option linter.all false
namespace Go.Id.Tryz
open Go Go.Id Go.Proofs Go.Id.Md
set_option maxRecDepth 100000
theorem bestNames_s8_0 : PC Tryz.prog EK 23 [vX1, vX2, (.agg [(.int .u8 (2)), (.bool false), (.tslice [[(.int .u8 (3)), (.str [97, 112, 112]), (.int .u8 (0)), (.int .i64 (0)), (.str []), (.str [])]]), .nilslice, (.int .i64 (0))])] vX12 := runD ndX ldX npX fzX 200 .nil (by kernel_rfl)
theorem bestNames_s8_1 : PC Tryz.prog EK 56 [vX13] vX14 := runD ndX ldX npX fzX 200 .nil (by kernel_rfl)
theorem bestNames_s8_2 : PC Tryz.prog EK 59 [(.int .i64 (10)), vX15, (.int .i64 (1099511627771))] (.tuple [(.agg [(.bool true), (.tslice [[(.bool false)], [(.bool true)], [(.bool true)], [(.bool true)], [(.bool false)], [(.bool false)], [(.bool false)], [(.bool false)], [(.bool false)], [(.bool true)]]), (.int .i64 (2)), .nilslice, .nilslice]), (.int .i64 (0))]) := runD ndX ldX npX fzX 200 .nil (by kernel_rfl)
theorem bestNames_s8_3 : PC Tryz.prog EK 59 [(.int .i64 (10)), vX16, (.int .i64 (1099511627769))] (.tuple [(.agg [(.bool false), .nilslice, (.int .i64 (1)), .nilslice, (.tslice [[(.int .i64 (5))], [(.int .i64 (4))], [(.int .i64 (17))], [(.int .i64 (14))]])]), (.int .i64 (0))]) := runD ndX ldX npX fzX 200 .nil (by kernel_rfl)
theorem bestNames_s8_4 : PC Tryz.prog EK 59 [(.int .i64 (10)), vX17, (.int .i64 (1099511627768))] (.tuple [(.agg [(.bool false), .nilslice, (.int .i64 (1)), .nilslice, (.tslice [[(.int .i64 (21))], [(.int .i64 (14))]])]), (.int .i64 (0))]) := runD ndX ldX npX fzX 200 .nil (by kernel_rfl)
theorem bestNames_s8_5 : PC Tryz.prog EK 59 [(.int .i64 (10)), vX18, (.int .i64 (1099511627767))] (.tuple [(.agg [(.bool false), .nilslice, (.int .i64 (1)), .nilslice, (.tslice [[(.int .i64 (6))], [(.int .i64 (22))], [(.int .i64 (14))]])]), (.int .i64 (0))]) := runD ndX ldX npX fzX 200 .nil (by kernel_rfl)
end Go.Id.Tryz
