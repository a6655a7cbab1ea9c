/- The compiled codes of functions,written by a program out of the given form. Conditions: none. -/
import Derived.Test.YtebfbbjghhagbaaGreatDoorFwZb
import Derived.Test.YtebfbbjghhagbaaGreatDoorProg
set_option linter.all false
namespace Go.Id.Tryz
open Go Go.Id Go.Proofs
def jp8:List Nat:=List.range 333
end Go.Id.Tryz
