/- MatchEach. Conditions: sizes that fit. -/
import Derived.Test.YtiallonafbejaaaGreatDoorTUQH
import Derived.Test.YtiallonafbejaaaGreatDoorTUPZm
set_option linter.all false
namespace Go.Id.Tryz
open Go Go.Id Go.Proofs Go.Id.Md
set_option maxRecDepth 100000
end Go.Id.Tryz
