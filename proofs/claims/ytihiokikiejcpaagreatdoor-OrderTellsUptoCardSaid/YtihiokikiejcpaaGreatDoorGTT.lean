/- The table of the compiled codes,written by a program. Conditions: none. -/
import Derived.Test.YtihiokikiejcpaaGreatDoorGT0
import Derived.Test.YtihiokikiejcpaaGreatDoorGT1
import Derived.Test.YtihiokikiejcpaaGreatDoorGT2
set_option linter.all false
namespace Go.Id.Tryz
open Go Go.Id Go.Proofs
end Go.Id.Tryz
