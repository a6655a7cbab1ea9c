/- The table of the compiled codes,written by a program. Conditions: none. -/
import Derived.Test.YthmabjmjjonlmaaGreatDoorGL0
import Derived.Test.YthmabjmjjonlmaaGreatDoorGL1
import Derived.Test.YthmabjmjjonlmaaGreatDoorGL2
import Derived.Test.YthmabjmjjonlmaaGreatDoorGL3
set_option linter.all false
namespace Go.Id.Tryz
open Go Go.Id Go.Proofs
end Go.Id.Tryz
