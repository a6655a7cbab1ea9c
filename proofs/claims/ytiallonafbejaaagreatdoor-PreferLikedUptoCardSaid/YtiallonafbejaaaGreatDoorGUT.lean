/- The table of the compiled codes,written by a program. Conditions: none. -/
import Derived.Test.YtiallonafbejaaaGreatDoorGU0
import Derived.Test.YtiallonafbejaaaGreatDoorGU1
import Derived.Test.YtiallonafbejaaaGreatDoorGU2
import Derived.Test.YtiallonafbejaaaGreatDoorGU3
import Derived.Test.YtiallonafbejaaaGreatDoorGU4
set_option linter.all false
namespace Go.Id.Tryz
open Go Go.Id Go.Proofs
end Go.Id.Tryz
