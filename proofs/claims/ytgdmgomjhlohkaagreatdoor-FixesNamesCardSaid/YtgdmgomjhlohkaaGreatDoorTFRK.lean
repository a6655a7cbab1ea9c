/- Runs of the seat's functions inside the kernel; match.New by its contract. Conditions: none. -/
import Derived.Test.YtgdmgomjhlohkaaGreatDoorTFPY
import Derived.Test.YtgdmgomjhlohkaaGreatDoorMx
set_option linter.all false
namespace Go.Id.Tryz
open Go Go.Id Go.Proofs Go.Id.Md
noncomputable def memN (k : Nat) (l : List Nat) : Bool := List.rec (motive := fun _ => Bool) false (fun a _ ih => Bool.rec (motive := fun _ => Bool) ih true (Nat.beq k a)) l
noncomputable def primK (M : Memo) : Nat → List IV → Option IV := fun k args => match Nat.beq k 77 with
  | true => idxPrim args
  | false => primN 186 M k args
noncomputable abbrev tabK (np : List Nat) (M : Memo) (fz : Nat → Nat → List Nat) : Tab := tabOf tabT (fun k => !memN k np) (primK M) fz
theorem tabK_ok {M : Memo} (hM : MK M) (np : List Nat) (fz : Nat → Nat → List Nat) : TabOK Tryz.prog EE (tabK np M fz) :=
  tabOf_ok tabT_ok fun f args v hp => by
    unfold primK at hp
    split at hp
    · rename_i hk
      rw [Nat.eq_of_beq_eq_true hk]
      obtain ⟨p, h1, h2, h3, h4, rfl⟩ := idxPrim_spec hp
      exact ⟨by kernel_rfl, PC_wk h1 (matchNew_pc p h3 h2 h4)⟩
    · exact (tabN_ok (pure := fun _ => true) (fz := fz) tabT_ok fok186 rfl hM).prim f args v hp
end Go.Id.Tryz
