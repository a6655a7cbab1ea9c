/- Runs of the seat's functions inside the kernel: some are run every way that is open, some are lent what is one's own. Conditions: none. -/
import Derived.Test.YtgdmgomjhlohkaaGreatDoorTFRK
import Derived.Test.YtgdmgomjhlohkaaGreatDoorFwNd
set_option linter.all false
namespace Go.Id.Tryz
open Go Go.Id Go.Proofs Go.Id.Md
noncomputable def primD (nd np : List Nat) (M : Memo) (fz : Nat → Nat → List Nat) : Nat → List IV → Option IV := fun k args => match memN k nd with
  | true => runL (runK (tabK np M fz) EE 1000 60) (tabK np M fz) EE 200 k args
  | false => primK M k args
noncomputable abbrev tabD (nd lend np : List Nat) (M : Memo) (fz : Nat → Nat → List Nat) : Tab := tabL tabT (fun k => !memN k np) (primD nd np M fz) fz (fun k => memN k lend)
theorem tabD_ok {M : Memo} (hM : MK M) (nd lend np : List Nat) (fz : Nat → Nat → List Nat) : TabOK Tryz.prog EE (tabD nd lend np M fz) :=
  tabL_ok tabT_ok fun f args v hp => by
    unfold primD at hp
    split at hp
    · exact runL_sound (tabK_ok hM np fz) hE (by rw [runK_eq]; exact runX_sound (tabK_ok hM np fz) hE 60) hp
    · exact (tabK_ok hM np fz).prim f args v hp
theorem runD {k : Nat} {M : Memo} {az : List IV} {v : IV} (nd lend np : List Nat) (fz : Nat → Nat → List Nat) (d : Nat) (hM : MK M) (h : (runK (tabD nd lend np M fz) EE 100000 d 0 k az ⟨0, .e⟩).map (·.1) = some v) : PC Tryz.prog EE k az v := by
  rw [runK_eq] at h
  exact run_PC (xs := ⟨0, .e⟩) (tabD_ok hM nd lend np fz) hE h
end Go.Id.Tryz
