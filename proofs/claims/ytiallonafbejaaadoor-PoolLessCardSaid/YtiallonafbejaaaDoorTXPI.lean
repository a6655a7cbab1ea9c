/- The examples,by their run. Conditions: none. -/
import Derived.Test.YtiallonafbejaaaDoorTXPR
set_option linter.all false
namespace Go.Id.Tryd
open Go Go.Id Go.Proofs Go.Id.Md
set_option maxRecDepth 100000
theorem awake_pc : PC Tryd.prog EE 6 [] (.bool true):=run_pc 60 .nil (by kernel_rfl) (by kernel_rfl)
end Go.Id.Tryd
