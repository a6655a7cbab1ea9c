/- FixesNames: by its run, some calls being known. Conditions: none. -/
import Derived.Test.YtgdmgomjhlohkaaGreatDoorTFFX1
import Derived.Test.YtgdmgomjhlohkaaGreatDoorTFFX2
import Derived.Test.YtgdmgomjhlohkaaGreatDoorTFFX3
import Derived.Test.YtgdmgomjhlohkaaGreatDoorTFFX4
import Derived.Test.YtgdmgomjhlohkaaGreatDoorTFFX5
set_option linter.all false
namespace Go.Id.Tryz
open Go Go.Id Go.Proofs Go.Id.Md
set_option maxRecDepth 100000
theorem fixesNames_memo : MK [(6, [], (.bool true)), (5, [vX0, (.tslice [[(.int .u8 (7)), (.int .i64 (0)), (.int .i64 (0))], [(.int .u8 (6)), (.int .i64 (0)), (.int .i64 (0))], [(.int .u8 (3)), (.int .i64 (3)), (.int .i64 (0))]]), (.int .i64 (1099511627776))], (.tuple [(.tslice [[(.int .u8 (1)), (.int .i64 (0))], [(.int .u8 (2)), (.int .i64 (0))], [(.int .u8 (3)), (.int .i64 (0))], [(.int .u8 (4)), (.int .i64 (0))]]), (.int .i64 (6)), (.int .i64 (0))])), (5, [vX0, (.tslice [[(.int .u8 (6)), (.int .i64 (0)), (.int .i64 (0))], [(.int .u8 (7)), (.int .i64 (0)), (.int .i64 (0))], [(.int .u8 (3)), (.int .i64 (3)), (.int .i64 (0))], [(.int .u8 (6)), (.int .i64 (0)), (.int .i64 (0))]]), (.int .i64 (1099511627776))], (.tuple [(.tslice [[(.int .u8 (2)), (.int .i64 (0))], [(.int .u8 (3)), (.int .i64 (0))], [(.int .u8 (4)), (.int .i64 (0))], [(.int .u8 (1)), (.int .i64 (0))]]), (.int .i64 (6)), (.int .i64 (0))])), (5, [vX0, (.tslice [[(.int .u8 (7)), (.int .i64 (0)), (.int .i64 (0))], [(.int .u8 (6)), (.int .i64 (0)), (.int .i64 (0))], [(.int .u8 (3)), (.int .i64 (3)), (.int .i64 (0))]]), (.int .i64 (6))], (.tuple [(.tslice [[(.int .u8 (1)), (.int .i64 (0))], [(.int .u8 (2)), (.int .i64 (0))], [(.int .u8 (3)), (.int .i64 (0))], [(.int .u8 (4)), (.int .i64 (0))]]), (.int .i64 (6)), (.int .i64 (0))])), (5, [vX0, (.tslice [[(.int .u8 (7)), (.int .i64 (0)), (.int .i64 (0))], [(.int .u8 (6)), (.int .i64 (0)), (.int .i64 (0))], [(.int .u8 (3)), (.int .i64 (3)), (.int .i64 (0))]]), (.int .i64 (5))], (.tuple [.nilslice, (.int .i64 (0)), (.int .i64 (44))]))] := (.cons (by kernel_rfl) fixesNames_m1 (.cons (by kernel_rfl) fixesNames_m2 (.cons (by kernel_rfl) fixesNames_m3 (.cons (by kernel_rfl) fixesNames_m4 (.cons (by kernel_rfl) fixesNames_m5 .nil)))))
theorem fixesNames_pc : PC Tryz.prog EE 3 [] (.bool true) := runD ndX ndX npX fzX 200 fixesNames_memo (by kernel_rfl)
end Go.Id.Tryz
