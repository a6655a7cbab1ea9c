/- The library's sort,as this program has it. Conditions: none. -/
import Derived.Test.YtiallonafbejaaaGreatDoorTUPA
import Derived.Test.YtiallonafbejaaaGreatDoorFwSo
set_option linter.all false
namespace Go.Id.Tryz
open Go Go.Id Go.Proofs Go.Shelf
set_option maxRecDepth 100000
end Go.Id.Tryz
