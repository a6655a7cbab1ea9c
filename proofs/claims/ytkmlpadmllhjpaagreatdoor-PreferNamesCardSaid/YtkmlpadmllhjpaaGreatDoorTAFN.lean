/- PreferNames: by its run. Conditions: none. -/
import Derived.Test.YtkmlpadmllhjpaaGreatDoorTARK3
set_option linter.all false
namespace Go.Id.Tryz
open Go Go.Id Go.Proofs Go.Id.Md
set_option maxRecDepth 100000
def npF : List Nat := [17, 18, 19, 37, 67, 69, 70, 72, 73, 92, 101, 103, 118, 119, 130, 155, 181, 182, 183, 186]
noncomputable def fzF : Nat → Nat → List Nat := fun k r => bif Nat.beq k 5 then (bif Nat.beq r 16 then [5, 13] else []) else bif Nat.beq k 33 then (bif Nat.beq r 27 then [8, 10, 11] else []) else []
theorem preferWorks_pc : PC Tryz.prog EK 34 [] (.bool true) := runX3 npF fzF 200 .nil (by kernel_rfl)
theorem memoF : MOK Tryz.prog EK [(34, [], .bool true)] := .cons (by kernel_rfl) preferWorks_pc .nil
theorem preferNames_pc : PC Tryz.prog EK 5 [] (.bool true) := runX3 npF fzF 200 memoF (by kernel_rfl)
end Go.Id.Tryz
