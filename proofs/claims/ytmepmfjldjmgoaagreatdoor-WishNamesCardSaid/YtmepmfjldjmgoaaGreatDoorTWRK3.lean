/- Runs of the seat's functions inside the kernel, with rich.kinds known. Conditions: none. -/
import Derived.Test.YtmepmfjldjmgoaaGreatDoorTWRK
set_option linter.all false
namespace Go.Id.Tryz
open Go Go.Id Go.Proofs Go.Id.Md
def envX : List (Nat × List IV) := [(2, [.str [], .int .i64 0, .str [], .int .i64 0, .str [97, 110, 100], .int .i64 24, .str [111, 114], .int .i64 24, .str [105, 102], .int .i64 3, .str [117, 110, 108, 101, 115, 115], .int .i64 3, .str [119, 105, 116, 104], .int .i64 24, .str [119, 105, 116, 104, 111, 117, 116], .int .i64 2])]
def envK : List (Nat × List IV) := envL ++ envX
abbrev EK : Nat → IV := envOf envK
theorem hEK : ∀ g, Bnd 0 (EK g) := env_bnd (by kernel_rfl)
theorem ee_ek (g : Nat) : EE g = EK g ∨ EE g = .undef := env_more g fun e h => by
  rw [List.lookup_append, h]; rfl
theorem tabK3_ok {M : Memo} (hM : MOK Tryz.prog EK M) (np : List Nat) (fz : Nat → Nat → List Nat) : TabOK Tryz.prog EK (tabK np M fz) :=
  tabOf_ok tabT_ok fun f args v hp => by
    unfold primK at hp
    split at hp
    · rename_i hk
      rw [Nat.eq_of_beq_eq_true hk]
      obtain ⟨p, h1, h2, h3, h4, rfl⟩ := idxPrim_spec hp
      exact ⟨by kernel_rfl, PC_env ee_ek (PC_wk h1 (matchNew_pc p h3 h2 h4))⟩
    · exact (tabN_ok (pure := fun _ => true) (fz := fz) tabT_ok fok136 rfl hM).prim f args v hp
theorem runX3 {k : Nat} {M : Memo} {az : List IV} {v : IV} (np : List Nat) (fz : Nat → Nat → List Nat) (d : Nat) (hM : MOK Tryz.prog EK M) (h : (runK (tabK np M fz) EK 100000 d 0 k az ⟨0, .e⟩).map (·.1) = some v) : PC Tryz.prog EK k az v := by
  rw [runK_eq] at h
  exact run_PC (xs := ⟨0, .e⟩) (tabK3_ok hM np fz) hEK h
end Go.Id.Tryz
