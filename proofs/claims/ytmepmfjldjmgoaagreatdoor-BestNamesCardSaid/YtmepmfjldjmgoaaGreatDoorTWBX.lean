/- BestNames: by its run, some calls being known. Conditions: none. -/
import Derived.Test.YtmepmfjldjmgoaaGreatDoorTWBX1
import Derived.Test.YtmepmfjldjmgoaaGreatDoorTWBX2
import Derived.Test.YtmepmfjldjmgoaaGreatDoorTWBX3
import Derived.Test.YtmepmfjldjmgoaaGreatDoorTWBX4
import Derived.Test.YtmepmfjldjmgoaaGreatDoorTWBX5
import Derived.Test.YtmepmfjldjmgoaaGreatDoorTWBX6
import Derived.Test.YtmepmfjldjmgoaaGreatDoorTWBX7
import Derived.Test.YtmepmfjldjmgoaaGreatDoorTWBX8
import Derived.Test.YtmepmfjldjmgoaaGreatDoorTWBX9
set_option linter.all false
namespace Go.Id.Tryz
open Go Go.Id Go.Proofs Go.Id.Md
set_option maxRecDepth 100000
theorem bestNames_memo : MOK Tryz.prog EK [(17, [], (.bool true)), (21, [vX0, .nilslice, (.tslice [[(.int .i64 (0))], [(.int .i64 (2))], [(.int .i64 (3))], [(.int .i64 (4))]]), (.tslice [[(.int .u8 (1)), (.str [97, 112, 112]), (.int .u8 (0)), (.int .i64 (0)), (.str []), (.str [])]])], (.bool true)), (21, [vX0, .nilslice, .nilslice, .nilslice], (.bool true)), (21, [vX0, .nilslice, (.tslice [[(.int .i64 (5))]]), (.tslice [[(.int .u8 (1)), (.str [111, 116, 104, 101, 114]), (.int .u8 (0)), (.int .i64 (0)), (.str []), (.str [])]])], (.bool true)), (21, [vX0, .nilslice, (.tslice [[(.int .i64 (2))]]), (.tslice [[(.int .u8 (1)), (.str [108, 105, 98]), (.int .u8 (0)), (.int .i64 (0)), (.str []), (.str [])]])], (.bool true)), (21, [vX1, .nilslice, (.tslice [[(.int .i64 (0))], [(.int .i64 (2))], [(.int .i64 (4))]]), (.tslice [[(.int .u8 (1)), (.str [97, 112, 112]), (.int .u8 (0)), (.int .i64 (0)), (.str []), (.str [])]])], (.bool true)), (21, [vX1, .nilslice, (.tslice [[(.int .i64 (0))], [(.int .i64 (1))], [(.int .i64 (4))]]), (.tslice [[(.int .u8 (1)), (.str [97, 112, 112]), (.int .u8 (0)), (.int .i64 (0)), (.str []), (.str [])], [(.int .u8 (1)), (.str [108, 105, 98]), (.int .u8 (1)), (.int .i64 (0)), (.str [50]), (.str [])]])], (.bool true)), (21, [vX1, vX2, (.tslice [[(.int .i64 (1))], [(.int .i64 (2))], [(.int .i64 (3))]]), (.tslice [[(.int .u8 (3)), (.str [97, 112, 112]), (.int .u8 (0)), (.int .i64 (0)), (.str []), (.str [])]])], (.bool true)), (21, [vX1, vX2, (.tslice [[(.int .i64 (0))], [(.int .i64 (1))], [(.int .i64 (2))]]), .nilslice], (.bool true))] := (.cons (by kernel_rfl) bestNames_m1 (.cons (by kernel_rfl) bestNames_m2 (.cons (by kernel_rfl) bestNames_m3 (.cons (by kernel_rfl) bestNames_m4 (.cons (by kernel_rfl) bestNames_m5 (.cons (by kernel_rfl) bestNames_m6 (.cons (by kernel_rfl) bestNames_m7 (.cons (by kernel_rfl) bestNames_m8 (.cons (by kernel_rfl) bestNames_m9 .nil)))))))))
theorem bestNames_pc : PC Tryz.prog EK 4 [] (.bool true) := runD ndX ldX npX fzX 200 bestNames_memo (by kernel_rfl)
end Go.Id.Tryz
