/- The table of the compiled codes,written by a program. Conditions: none. -/
import Derived.Test.YteomphdgniepbaaGreatDoorGN0
import Derived.Test.YteomphdgniepbaaGreatDoorGN1
import Derived.Test.YteomphdgniepbaaGreatDoorGN2
import Derived.Test.YteomphdgniepbaaGreatDoorGN3
import Derived.Test.YteomphdgniepbaaGreatDoorGN4
set_option linter.all false
namespace Go.Id.Tryz
open Go Go.Id Go.Proofs
end Go.Id.Tryz
