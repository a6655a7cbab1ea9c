/- Indexes: what is asked of them. Conditions: sizes that fit. -/
import Derived.Test.YtiallonafbejaaaGreatDoorTUPW
set_option linter.all false
namespace Go.Id.Tryz
open Go Go.Id Go.Proofs Go.Id.Md
theorem call_ok {f : Nat} {args : List IV} {v : IV} {σ : Store} {K : IV→Store→Prop} (hf : okF Tryz.prog f=true) (h : PC Tryz.prog EE f args v) (hk : K v σ) : callT Tryz.prog EE none f args σ K :=
 callT_of hf (PC_C h) fun _ _ ⟨h1,h2⟩ => by subst h1; subst h2; exact ⟨Nat.le_refl _,hk⟩
end Go.Id.Tryz
