/- Runs of the seat's functions inside the kernel. Conditions: none. -/
import Derived.Test.YtiallonafbejaaaGreatDoorTUPA
import Derived.Test.YtiallonafbejaaaGreatDoorFwKa
set_option linter.all false
namespace Go.Id.Tryz
open Go Go.Id Go.Proofs Go.Id.Md
end Go.Id.Tryz
