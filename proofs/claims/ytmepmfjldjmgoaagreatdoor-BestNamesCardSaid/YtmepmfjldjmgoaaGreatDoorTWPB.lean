/- Rich dependencies: what the program tells of their shape. Conditions: none. -/
import Derived.Test.YtmepmfjldjmgoaaGreatDoorTWPA
import Derived.Test.YtmepmfjldjmgoaaGreatDoorTWPR
import Derived.Test.YtmepmfjldjmgoaaGreatDoorFwZ
set_option linter.all false
namespace Go.Id.Tryz
open Go Go.Id Go.Proofs Go.Id.Md
set_option linter.unusedSimpArgs false
set_option linter.unusedVariables false
/-! ### Closed values -/
theorem bnd_dep (d : Dep) : ∀ c ∈ d.cs, Bnd 0 c := by
  intro c hc
  simp only [Dep.cs, List.mem_cons, List.not_mem_nil, or_false] at hc
  rcases hc with rfl | rfl | rfl | rfl | rfl <;> first | exact .str _ | exact .int _ _
theorem bnd_rich (r : Rich) : ∀ c ∈ r.cs, Bnd 0 c := by
  induction r using Rich.ind with
  | h k d xs ih =>
    intro c hc
    rw [Rich.cs_eq] at hc
    simp only [List.mem_cons, List.not_mem_nil, or_false] at hc
    rcases hc with rfl | rfl | rfl | rfl | rfl | rfl | rfl <;> first | exact .str _ | exact .int _ _ | skip
    refine .tslice _ fun e he c hc => ?_
    obtain ⟨a, ha, rfl⟩ := List.mem_map.1 he
    exact ih a ha c hc
theorem bnd_richA (r : Rich) : Bnd 0 (.agg r.cs) := .agg _ (bnd_rich r)
theorem cs_len (r : Rich) : r.cs.length = 7 := by rw [Rich.cs_eq]; rfl
theorem one_mem {P : IV → Prop} {v : IV} (h : P v) : ∀ a ∈ [v], P a := fun a ha => by
  cases ha with
  | head => exact h
  | tail _ h => cases h
/-! ### The parts, told -/
def row (p : Rich × Bool) : List IV := [.agg p.1.cs, .bool p.2]
end Go.Id.Tryz
