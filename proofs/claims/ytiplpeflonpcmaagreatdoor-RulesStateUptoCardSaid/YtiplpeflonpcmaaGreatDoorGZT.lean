/- The table of the compiled codes,written by a program. Conditions: none. -/
import Derived.Test.YtiplpeflonpcmaaGreatDoorGZ0
import Derived.Test.YtiplpeflonpcmaaGreatDoorGZ1
import Derived.Test.YtiplpeflonpcmaaGreatDoorGZ2
import Derived.Test.YtiplpeflonpcmaaGreatDoorGZ3
set_option linter.all false
namespace Go.Id.Tryz
open Go Go.Id Go.Proofs
end Go.Id.Tryz
