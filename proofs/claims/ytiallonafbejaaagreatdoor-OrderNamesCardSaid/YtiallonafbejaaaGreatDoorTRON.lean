/- OrderNames: by its run. Conditions: none. -/
import Derived.Test.YtiallonafbejaaaGreatDoorTRRKO
set_option linter.all false
namespace Go.Id.Tryz
open Go Go.Id Go.Proofs Go.Id.Md
set_option maxRecDepth 100000
def npO : List Nat := [18, 26, 28, 29, 32, 38, 40, 42, 52, 61, 70, 72, 82, 85, 101, 136, 139, 140, 141, 179, 196, 214, 232, 233, 235, 239, 252, 298]
noncomputable def fzO : Nat → Nat → List Nat := fun k r => bif Nat.beq k 56 then (bif Nat.beq r 15 then [6007] else []) else []
theorem orderWorks_pc : PC Tryz.prog EE 57 [] (.bool true) := runO npO fzO 200 .nil (by kernel_rfl)
theorem memoO : MK [(57, [], .bool true)] := .cons (by kernel_rfl) orderWorks_pc .nil
theorem orderNames_pc : PC Tryz.prog EE 11 [] (.bool true) := runO npO fzO 200 memoO (by kernel_rfl)
end Go.Id.Tryz
