/- AskNames: by its run. Conditions: none. -/
import Derived.Test.YtkmlpadmllhjpaaGreatDoorTARK
set_option linter.all false
namespace Go.Id.Tryz
open Go Go.Id Go.Proofs Go.Id.Md
set_option maxRecDepth 100000
def npA : List Nat := [17, 18, 19, 67, 69, 70, 72, 73, 101, 118, 119, 130, 155, 181, 182, 183, 186]
theorem works_pc : PC Tryz.prog EE 8 [] (.bool true) := runN npA noFz 200 .nil (by kernel_rfl)

theorem memoA : MK [(8, [], .bool true)] := .cons (by kernel_rfl) works_pc .nil
theorem askNames_pc : PC Tryz.prog EE 3 [] (.bool true) := runN npA noFz 200 memoA (by kernel_rfl)
end Go.Id.Tryz
