/- The table of the compiled codes,written by a program. Conditions: none. -/
import Derived.Test.YthjhfdodeghbpaaGreatDoorGE0
import Derived.Test.YthjhfdodeghbpaaGreatDoorGE1
import Derived.Test.YthjhfdodeghbpaaGreatDoorGE2
import Derived.Test.YthjhfdodeghbpaaGreatDoorGE3
import Derived.Test.YthjhfdodeghbpaaGreatDoorGE4
import Derived.Test.YthjhfdodeghbpaaGreatDoorGE5
import Derived.Test.YthjhfdodeghbpaaGreatDoorGE6
import Derived.Test.YthjhfdodeghbpaaGreatDoorGE7
set_option linter.all false
namespace Go.Id.Tryz
open Go Go.Id Go.Proofs
end Go.Id.Tryz
