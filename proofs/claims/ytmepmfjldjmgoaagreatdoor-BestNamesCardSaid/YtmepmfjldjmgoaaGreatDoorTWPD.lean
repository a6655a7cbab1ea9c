/- Rows that are looked through; packages, as they may be. Conditions: none. -/
import Derived.Test.YtmepmfjldjmgoaaGreatDoorTWPB
set_option linter.all false
namespace Go.Id.Tryz
open Go Go.Id Go.Proofs Go.Id.Md
set_option linter.unusedSimpArgs false
set_option linter.unusedVariables false
theorem dep_len (d : Dep) : d.cs.length = 5 := rfl
theorem dep_leaf (d : Dep) : d.cs.all IV.leaf = true := rfl
theorem rich_leaf (r : Rich) : r.cs.all IV.leaf = true := by rw [Rich.cs_eq]; rfl
theorem rich_take (r : Rich) : r.cs.take 7 = r.cs := List.take_of_length_le (by rw [cs_len]; exact Nat.le_refl _)
theorem bnd_deps (l : List Dep) : Bnd 0 (.tslice (l.map Dep.cs)) := .tslice _ fun e he c hc => by
  obtain ⟨d, _, rfl⟩ := List.mem_map.1 he; exact bnd_dep d c hc
theorem bnd_strs (l : List Str) : Bnd 0 (.tslice (l.map strC)) := .tslice _ fun e he c hc => by
  obtain ⟨d, _, rfl⟩ := List.mem_map.1 he; cases hc with | head => exact .str _ | tail _ h => cases h
theorem bnd_riches (l : List Rich) : Bnd 0 (.tslice (l.map Rich.cs)) := .tslice _ fun e he c hc => by
  obtain ⟨d, _, rfl⟩ := List.mem_map.1 he; exact bnd_rich d c hc
/-! ### Packages -/
theorem bnd_pkg (p : Package) : ∀ c ∈ p.cs, Bnd 0 c := by
  intro c hc
  simp only [Package.cs, List.mem_cons, List.not_mem_nil, or_false] at hc
  rcases hc with rfl | rfl | rfl | rfl | rfl | rfl | rfl | rfl | rfl | rfl | rfl | rfl | rfl | rfl | rfl <;> first | exact .str _ | exact .int _ _ | exact bnd_deps _ | exact bnd_riches _ | exact bnd_strs _
theorem bnd_pkgA (p : Package) : Bnd 0 (.agg p.cs) := .agg _ (bnd_pkg p)
theorem pkg_len (p : Package) : p.cs.length = 15 := rfl
theorem pkg_take (p : Package) : p.cs.take 15 = p.cs := rfl
theorem pkg_leaf (p : Package) : p.cs.all IV.leaf = true := rfl
end Go.Id.Tryz
