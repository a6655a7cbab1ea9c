/- Runs of the seat's functions inside the kernel; match.New by its contract. Conditions: none. -/
import Derived.Test.YtmepmfjldjmgoaaGreatDoorTWPY
import Derived.Test.YtmepmfjldjmgoaaGreatDoorMx
import Derived.Test.YtmepmfjldjmgoaaGreatDoorFwNd
set_option linter.all false
namespace Go.Id.Tryz
open Go Go.Id Go.Proofs Go.Id.Md
noncomputable def memN (k : Nat) (l : List Nat) : Bool := List.rec (motive := fun _ => Bool) false (fun a _ ih => Bool.rec (motive := fun _ => Bool) ih true (Nat.beq k a)) l
noncomputable def primK (M : Memo) : Nat → List IV → Option IV := fun k args => match Nat.beq k 33 with
  | true => idxPrim args
  | false => primN 136 M k args
noncomputable abbrev tabK (np : List Nat) (M : Memo) (fz : Nat → Nat → List Nat) : Tab := tabOf tabT (fun k => !memN k np) (primK M) fz
def noFz : Nat → Nat → List Nat := fun _ _ => []
end Go.Id.Tryz
/- Runs of the seat's functions inside the kernel, with rich.kinds known. Conditions: none. -/
namespace Go.Id.Tryz
open Go Go.Id Go.Proofs Go.Id.Md
def envX : List (Nat × List IV) := [(2, [.str [], .int .i64 0, .str [], .int .i64 0, .str [97, 110, 100], .int .i64 24, .str [111, 114], .int .i64 24, .str [105, 102], .int .i64 3, .str [117, 110, 108, 101, 115, 115], .int .i64 3, .str [119, 105, 116, 104], .int .i64 24, .str [119, 105, 116, 104, 111, 117, 116], .int .i64 2])]
def envK : List (Nat × List IV) := envL ++ envX
abbrev EK : Nat → IV := envOf envK
theorem hEK : ∀ g, Bnd 0 (EK g) := env_bnd (by kernel_rfl)
theorem ee_ek (g : Nat) : EE g = EK g ∨ EE g = .undef := env_more g fun e h => by
  rw [List.lookup_append, h]; rfl
theorem tabK3_ok {M : Memo} (hM : MOK Tryz.prog EK M) (np : List Nat) (fz : Nat → Nat → List Nat) : TabOK Tryz.prog EK (tabK np M fz) :=
  tabOf_ok tabT_ok fun f args v hp => by
    unfold primK at hp
    split at hp
    · rename_i hk
      rw [Nat.eq_of_beq_eq_true hk]
      obtain ⟨p, h1, h2, h3, h4, rfl⟩ := idxPrim_spec hp
      exact ⟨by kernel_rfl, PC_env ee_ek (PC_wk h1 (matchNew_pc p h3 h2 h4))⟩
    · exact (tabN_ok (pure := fun _ => true) (fz := fz) tabT_ok fok136 rfl hM).prim f args v hp
end Go.Id.Tryz
/- Runs of the seat's functions inside the kernel: some are run every way that is open, some are lent what is one's own. Conditions: none. -/
namespace Go.Id.Tryz
open Go Go.Id Go.Proofs Go.Id.Md
noncomputable def primD (nd np : List Nat) (M : Memo) (fz : Nat → Nat → List Nat) : Nat → List IV → Option IV := fun k args => match memN k nd with
  | true => runL (runK (tabK np M fz) EK 1000 60) (tabK np M fz) EK 200 k args
  | false => primK M k args
noncomputable abbrev tabD (nd lend np : List Nat) (M : Memo) (fz : Nat → Nat → List Nat) : Tab := tabL tabT (fun k => !memN k np) (primD nd np M fz) fz (fun k => memN k lend)
theorem tabD_ok {M : Memo} (hM : MOK Tryz.prog EK M) (nd lend np : List Nat) (fz : Nat → Nat → List Nat) : TabOK Tryz.prog EK (tabD nd lend np M fz) :=
  tabL_ok tabT_ok fun f args v hp => by
    unfold primD at hp
    split at hp
    · exact runL_sound (tabK3_ok hM np fz) hEK (by rw [runK_eq]; exact runX_sound (tabK3_ok hM np fz) hEK 60) hp
    · exact (tabK3_ok hM np fz).prim f args v hp
theorem runD {k : Nat} {M : Memo} {az : List IV} {v : IV} (nd lend np : List Nat) (fz : Nat → Nat → List Nat) (d : Nat) (hM : MOK Tryz.prog EK M) (h : (runK (tabD nd lend np M fz) EK 100000 d 0 k az ⟨0, .e⟩).map (·.1) = some v) : PC Tryz.prog EK k az v := by
  rw [runK_eq] at h
  exact run_PC (xs := ⟨0, .e⟩) (tabD_ok hM nd lend np fz) hEK h
end Go.Id.Tryz
