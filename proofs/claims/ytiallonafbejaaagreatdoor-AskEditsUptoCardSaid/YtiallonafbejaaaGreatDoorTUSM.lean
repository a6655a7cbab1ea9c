/- AskItself. Conditions: sizes that fit. -/
import Derived.Test.YtiallonafbejaaaGreatDoorTUSJ
set_option linter.all false
namespace Go.Id.Tryz
open Go Go.Id Go.Proofs Go.Shelf Go.Id.Md
set_option maxRecDepth 100000
theorem eqb_self (b : Bool) : eqvI [0] false true (.bool b) (.bool b)=some (.bool false):=by cases b <;> rfl
end Go.Id.Tryz
