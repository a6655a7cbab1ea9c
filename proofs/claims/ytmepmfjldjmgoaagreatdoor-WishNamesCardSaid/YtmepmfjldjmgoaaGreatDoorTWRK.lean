/- Runs of the seat's functions inside the kernel; match.New by its contract. Conditions: none. -/
import Derived.Test.YtmepmfjldjmgoaaGreatDoorTWPY
import Derived.Test.YtmepmfjldjmgoaaGreatDoorMx
set_option linter.all false
namespace Go.Id.Tryz
open Go Go.Id Go.Proofs Go.Id.Md
noncomputable def memN (k : Nat) (l : List Nat) : Bool := List.rec (motive := fun _ => Bool) false (fun a _ ih => Bool.rec (motive := fun _ => Bool) ih true (Nat.beq k a)) l
noncomputable def primK (M : Memo) : Nat → List IV → Option IV := fun k args => match Nat.beq k 33 with
  | true => idxPrim args
  | false => primN 136 M k args
noncomputable abbrev tabK (np : List Nat) (M : Memo) (fz : Nat → Nat → List Nat) : Tab := tabOf tabT (fun k => !memN k np) (primK M) fz
def noFz : Nat → Nat → List Nat := fun _ _ => []
end Go.Id.Tryz
