/- The table of the compiled codes,written by a program. Conditions: none. -/
import Derived.Test.YtphnnoolpagclaaGreatDoorGQ0
import Derived.Test.YtphnnoolpagclaaGreatDoorGQ1
import Derived.Test.YtphnnoolpagclaaGreatDoorGQ2
set_option linter.all false
namespace Go.Id.Tryz
open Go Go.Id Go.Proofs
end Go.Id.Tryz
