/- The interpreter,turned so that the kernel runs it in fewer steps; it is the same function. Conditions: none; over any program. -/
import Derived.Test.YtiallonafbejaaaGreatDoorFwW
set_option linter.all false
namespace Go.Id
open Go
noncomputable section
variable {E : Nat→IV} {fr : Frm}
end
end Go.Id
