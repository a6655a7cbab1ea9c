/- The table of the compiled codes,written by a program. Conditions: none. -/
import Derived.Test.YtlnkchkhffkofaaGreatDoorGN0
import Derived.Test.YtlnkchkhffkofaaGreatDoorGN1
import Derived.Test.YtlnkchkhffkofaaGreatDoorGN2
import Derived.Test.YtlnkchkhffkofaaGreatDoorGN3
set_option linter.all false
namespace Go.Id.Tryz
open Go Go.Id Go.Proofs
end Go.Id.Tryz
