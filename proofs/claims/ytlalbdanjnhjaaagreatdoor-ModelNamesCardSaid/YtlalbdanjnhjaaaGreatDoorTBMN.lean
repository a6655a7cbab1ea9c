/- ModelNames: by its run. Conditions: none. -/
import Derived.Test.YtlalbdanjnhjaaaGreatDoorTBRK3
set_option linter.all false
namespace Go.Id.Tryz
open Go Go.Id Go.Proofs Go.Id.Md
set_option maxRecDepth 100000
def npM : List Nat := [6, 36, 46, 53, 61, 63, 64, 82, 84, 100, 101, 102, 103, 106, 107, 111, 112, 113, 126, 129, 134, 136, 156, 157, 159, 163, 165, 166, 167, 168, 169, 170, 216, 218, 219, 220, 221, 225, 266]
theorem modelNames_pc : PC Tryz.prog EK 3 [] (.bool true) := runX3 npM noFz 200 .nil (by kernel_rfl)
end Go.Id.Tryz
