/- PoolNames: the run of the rest. Conditions: none. -/
import Derived.Test.YtmiphpgenbddoaaGreatDoorTryzPS
set_option linter.all false
namespace Go.Id.Tryz
open Go Go.Id Go.Proofs Go.Id.Md
set_option maxRecDepth 100000
theorem rest_run : (icK (runK tabX EE 100000 60) EE (fzN 4) 197 100000 rest [(4, pkgsV (List.replicate 257 aP)), (5, .int .i64 257), (75, .bool false)] ⟨2, .e⟩).map (fun o => (o.1, o.2.1)) = some (.ret, [(0, .bool true)]) := by kernel_rfl
end Go.Id.Tryz
