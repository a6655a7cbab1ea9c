/- The library's sort,from the kit's contract to ideal rows. Conditions: the functions lie as the kit's contract asks. -/
import Derived.Test.YteomphdgniepbaaGreatDoorFwV
import Derived.Shelf.Sort.Plain
import Derived.Shelf.Slices.In.SortNone
set_option linter.all false
namespace Go.Id
open Go Go.Sort
variable {P:Program} {w w':World} {ρ ρ':Rho} {E:Nat→IV} {σ:Store}
end Go.Id
