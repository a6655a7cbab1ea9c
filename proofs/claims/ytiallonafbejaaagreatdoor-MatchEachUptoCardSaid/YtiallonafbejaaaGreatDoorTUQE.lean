/- EVRs and ranges compared; who provides what. Conditions: sizes that fit. -/
import Derived.Test.YtiallonafbejaaaGreatDoorTUQD
set_option linter.all false
namespace Go.Id.Tryz
open Go Go.Id Go.Proofs Go.Id.Md
set_option maxRecDepth 100000
theorem evrCl1_pc (a b : EVR) : PC Tryz.prog EE 165 [.tptr a.cs, .tptr b.cs] (.int .i64 (cmpI a.epoch b.epoch)) := by
 refine PC_f fok165 (Nat.le_of_ble_eq_true rfl) fun σ => ?_
 simp only [ic165, go_sem, EVR.cs]
 refine call_pc fok126 (cmpI_pc _ _) ?_
 simp only [go_sem, and_self]
theorem evrCl2_pc (a b : EVR) (h1 : a.ver.length < 2 ^ 30) (h2 : b.ver.length < 2 ^ 30) : PC Tryz.prog EE 166 [.tptr a.cs, .tptr b.cs] (.int .i64 (verCmp a.ver b.ver)) := by
 refine PC_f fok166 (Nat.le_of_ble_eq_true rfl) fun σ => ?_
 simp only [ic166, go_sem, EVR.cs]
 refine call_pc fok167 (verCompare_pc _ _ h1 h2) ?_
 simp only [go_sem, and_self]
theorem evrCl3_pc (a b : EVR) (h1 : a.rel.length < 2 ^ 30) (h2 : b.rel.length < 2 ^ 30) : PC Tryz.prog EE 168 [.tptr a.cs, .tptr b.cs] (.int .i64 (if a.rel = [] ∨ b.rel = [] then 0 else verCmp a.rel b.rel)) := by
 refine PC_f fok168 (Nat.le_of_ble_eq_true rfl) fun σ => ?_
 by_cases e1 : a.rel = []
 ·simp only [ic168, go_sem, EVR.cs, e1, true_or, and_self]
 ·by_cases e2 : b.rel = []
  ·simp only [ic168, go_sem, EVR.cs, e1, e2, or_true, and_self]
  ·simp only [ic168, go_sem, EVR.cs, e1, e2, or_self]
   refine call_pc fok167 (verCompare_pc _ _ h1 h2) ?_
   simp only [go_sem, and_self]
def fnC (f : Nat × List IV) : List IV := [.func (.func f.1) [] f.2]
theorem evrFirst_pc (fs : List (Nat × List IV)) (vals : List Int) (hl : fs.length = vals.length) (hn : fs.length < 2 ^ 40) (hb : ∀ f ∈ fs, ∀ c ∈ f.2, Bnd 0 c)
  (h : ∀ i (h1 : i < fs.length) (h2 : i < vals.length), okF Tryz.prog fs[i].1 = true ∧ PC Tryz.prog EE fs[i].1 fs[i].2 (.int .i64 vals[i])) : PC Tryz.prog EE 164 [.tslice (fs.map fnC)] (.int .i64 (orM vals)) := by
 refine PC_e hE fok164 (Nat.le_of_ble_eq_true rfl) (one_mem (.tslice _ fun e he c hc => ?_)) ?_
 ·obtain ⟨f, hf, rfl⟩ := List.mem_map.1 he
  cases hc with
  | head => exact .func _ _ _ (fun c hc => by cases hc) (hb f hf)
  | tail _ h => cases h
 simp only [ic164, go_sem]
 refine loop_up noT (fun i fr s => fr = [(6, .tslice (fs.map fnC)), (7, .int .i64 fs.length), (8, .int .i64 i)] ∧ orM vals = orM (vals.drop i)) fs.length ⟨rfl, rfl⟩ ?_
 rintro i fr s hle ⟨rfl, hI⟩
 by_cases hlt : i < fs.length
 ·obtain ⟨f, hf, hget0, hdr, hget, htk⟩ := at_nth fs i hlt
  have hlt2 : i < vals.length := by omega
  have c1 : (i : Int) < fs.length := by omega
  have c2 : (0 : Int) ≤ i := by omega
  have w1 := wrapS (i := i) (by omega)
  obtain ⟨k1, k2⟩ := h i hlt hlt2
  have hfi : fs[i] = f := by
   have := List.getElem?_eq_getElem hlt; rw [this] at hget0; exact Option.some.inj hget0
  rw [hfi] at k1 k2
  rw [List.drop_eq_getElem_cons hlt2, orM] at hI
  generalize vals[i] = x at *
  simp only [go_sem, c1, c2, hget, fnC]
  refine call_ok k1 k2 ?_
  by_cases hx : x = 0
  ·subst hx
   simp only [go_sem, w1]
   exact ⟨hlt, by simpa using hI⟩
  ·rw [if_neg hx] at hI
   simp only [go_sem, hx]
   rw [hI]; exact frz_int _ _
 ·have hi' : i = fs.length := by omega
  subst hi'
  have c1 : ¬ (fs.length : Int) < fs.length := by omega
  rw [hl, List.drop_length, orM] at hI
  simp only [go_sem, c1]
  rw [hI]; exact frz_int _ _
theorem bnd_evrT (a : EVR) : Bnd 0 (.tptr a.cs) := .tptr _ fun c hc => by
 simp only [EVR.cs, List.mem_cons, List.not_mem_nil, or_false] at hc
 rcases hc with rfl | rfl | rfl
 ·exact .int _ _
 ·exact .str _
 ·exact .str _
theorem bnd_evrA (a : EVR) : Bnd 0 (.agg a.cs) := .agg _ fun c hc => by
 simp only [EVR.cs, List.mem_cons, List.not_mem_nil, or_false] at hc
 rcases hc with rfl | rfl | rfl
 ·exact .int _ _
 ·exact .str _
 ·exact .str _
def EVR.small (e : EVR) : Prop := e.ver.length < 2 ^ 30 ∧ e.rel.length < 2 ^ 30
theorem evrCompare_pc (a b : EVR) (ha : EVR.small a) (hb : EVR.small b) : PC Tryz.prog EE 106 [.agg a.cs, .agg b.cs] (.int .i64 (evrCmp a b)) := by
 refine PC_e hE fok106 (Nat.le_of_ble_eq_true rfl) (two_mem (bnd_evrA a) (bnd_evrA b)) ?_
 have hv : evrCmp a b = orM [cmpI a.epoch b.epoch, verCmp a.ver b.ver, if a.rel = [] ∨ b.rel = [] then 0 else verCmp a.rel b.rel] := by
  rw [orM3]; unfold evrCmp
  split
  ·rfl
  ·split
   ·rfl
   ·rfl
 have hf := evrFirst_pc [(165, [.tptr a.cs, .tptr b.cs]), (166, [.tptr a.cs, .tptr b.cs]), (168, [.tptr a.cs, .tptr b.cs])] [cmpI a.epoch b.epoch, verCmp a.ver b.ver, if a.rel = [] ∨ b.rel = [] then 0 else verCmp a.rel b.rel] rfl (by simp)
  (fun f hf c hc => by
   simp only [List.mem_cons, List.not_mem_nil, or_false] at hf
   rcases hf with rfl | rfl | rfl <;> exact two_mem (bnd_evrT a) (bnd_evrT b) c hc)
  (fun i h1 h2 => by
   match i, h1 with
   | 0, _ => exact ⟨fok165.1, evrCl1_pc a b⟩
   | 1, _ => exact ⟨fok166.1, evrCl2_pc a b ha.1 hb.1⟩
   | 2, _ => exact ⟨fok168.1, evrCl3_pc a b ha.2 hb.2⟩
   | i + 3, h => simp at h; omega)
 rw [← hv] at hf
 have ea : (IV.agg a.cs).cs.all IV.leaf = true := rfl
 have eb : (IV.agg b.cs).cs.all IV.leaf = true := rfl
 simp only [EVR.cs] at hf ⊢
 simp only [ic106, go_sem]
 refine call_pc fok164 hf ?_
 simp only [go_sem]
 exact frz_int _ _
end Go.Id.Tryz
