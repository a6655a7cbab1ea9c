/- Runs of the seat's functions inside the kernel, without indexes. Conditions: none. -/
import Derived.Test.YtiallonafbejaaaGreatDoorTRPR
import Derived.Test.YtiallonafbejaaaGreatDoorFwTf
set_option linter.all false
namespace Go.Id.Tryz
open Go Go.Id Go.Proofs Go.Id.Md
noncomputable def memN (k : Nat) (l : List Nat) : Bool := List.rec (motive := fun _ => Bool) false (fun a _ ih => Bool.rec (motive := fun _ => Bool) ih true (Nat.beq k a)) l
noncomputable abbrev tabO (np : List Nat) (M : Memo) (fz : Nat → Nat → List Nat) : Tab := tabOf tabT (fun k => !memN k np) (primN 280 M) fz
theorem runO {k : Nat} {M : Memo} {az : List IV} {v : IV} (np : List Nat) (fz : Nat → Nat → List Nat) (d : Nat) (hM : MK M) (h : (runK (tabO np M fz) EE 100000 d 0 k az ⟨0, .e⟩).map (·.1) = some v) : PC Tryz.prog EE k az v := by
  rw [runK_eq] at h
  exact run_PC (xs := ⟨0, .e⟩) (tabN_ok tabT_ok fok280 rfl hM) hE h
end Go.Id.Tryz
