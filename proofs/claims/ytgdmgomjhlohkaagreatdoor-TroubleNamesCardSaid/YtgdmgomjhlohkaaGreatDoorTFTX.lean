/- TroubleNames: by its run. Conditions: none. -/
import Derived.Test.YtgdmgomjhlohkaaGreatDoorTFRK5
set_option linter.all false
namespace Go.Id.Tryz
open Go Go.Id Go.Proofs Go.Id.Md
set_option maxRecDepth 100000
def npX : List Nat := [46, 47, 48, 56, 65, 67, 79, 85, 95, 98, 99, 100, 101, 102, 103, 121, 131, 132, 140, 141, 142, 155, 160, 162, 163, 166, 169, 177, 201, 239]
def ndX : List Nat := [112]
def fzX : Nat → Nat → List Nat := fun k r => match Nat.beq k 133 && Nat.beq r 15, Nat.beq k 80 && Nat.beq r 7 with
  | true, _ => [6]
  | _, true => [4]
  | _, _ => []
theorem troubleNames_pc : PC Tryz.prog EE 4 [] (.bool true) := runD ndX ndX npX fzX 200 .nil (by kernel_rfl)
end Go.Id.Tryz
