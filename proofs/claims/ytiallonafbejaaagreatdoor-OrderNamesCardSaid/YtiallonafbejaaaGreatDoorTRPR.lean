/- Runs of the seat's functions inside the kernel. Conditions: none. -/
import Derived.Test.YtiallonafbejaaaGreatDoorTRPA
import Derived.Test.YtiallonafbejaaaGreatDoorFwKa
set_option linter.all false
namespace Go.Id.Tryz
open Go Go.Id Go.Proofs Go.Id.Md
abbrev MK := MOK Tryz.prog EE
end Go.Id.Tryz
