/- The table of the compiled codes,written by a program. Conditions: none. -/
import Derived.Test.YtebfbbjghhagbaaGreatDoorGM0
import Derived.Test.YtebfbbjghhagbaaGreatDoorGM1
import Derived.Test.YtebfbbjghhagbaaGreatDoorGM2
import Derived.Test.YtebfbbjghhagbaaGreatDoorGM3
import Derived.Test.YtebfbbjghhagbaaGreatDoorGM4
set_option linter.all false
namespace Go.Id.Tryz
open Go Go.Id Go.Proofs
end Go.Id.Tryz
