/- The examples, by their run. Conditions: none. -/
import Derived.Test.YtiallonafbejaaaGreatDoorTUPR
set_option linter.all false
namespace Go.Id.Tryz
open Go Go.Id Go.Proofs Go.Id.Md
set_option maxRecDepth 100000
end Go.Id.Tryz
