/- The table of the compiled codes,written by a program. Conditions: none. -/
import Derived.Test.YtcdomcibjgbalaaGreatDoorGH0
import Derived.Test.YtcdomcibjgbalaaGreatDoorGH1
import Derived.Test.YtcdomcibjgbalaaGreatDoorGH2
import Derived.Test.YtcdomcibjgbalaaGreatDoorGH3
set_option linter.all false
namespace Go.Id.Tryz
open Go Go.Id Go.Proofs
end Go.Id.Tryz
