/- The library's sort,as this program has it. Conditions: none. -/
import Derived.Test.YteomphdgniepbaaGreatDoorTNPB
import Derived.Test.YteomphdgniepbaaGreatDoorFwSo
import Derived.Test.YteomphdgniepbaaGreatDoorTNQL
set_option linter.all false
namespace Go.Id.Tryz
open Go Go.Id Go.Proofs Go.Shelf
set_option maxRecDepth 100000
open Go Go.Id Go.Proofs Go.Shelf Go.Id.Md
end Go.Id.Tryz
/- Whom a package ab4: the function walked. Conditions: sizes that fit. -/
namespace Go.Id
open Go Go.Id
end Go.Id
namespace Go.Id.Tryz
open Go Go.Id Go.Proofs Go.Shelf Go.Id.Md
end Go.Id.Tryz
