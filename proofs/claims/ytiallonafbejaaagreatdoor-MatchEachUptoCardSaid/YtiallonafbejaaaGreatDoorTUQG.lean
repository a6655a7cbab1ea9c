/- Indexes asked: providers, those that are named. Conditions: sizes that fit. -/
import Derived.Test.YtiallonafbejaaaGreatDoorTUQF
import Derived.Test.YtiallonafbejaaaGreatDoorFwTe
set_option linter.all false
namespace Go.Id.Tryz
open Go Go.Id Go.Proofs Go.Id.Md
set_option maxRecDepth 100000
theorem provClI_pc (p : Package) (n : Int) (d : Dep) (hp : Pkg.small p) (hd : Dep.small d) : PC Tryz.prog EE 87 [.agg p.cs, .int .i64 n, .tptr d.cs] (.bool (provides p d)) := by
 refine PC_e hE fok87 (Nat.le_of_ble_eq_true rfl) (fun a ha => by
  simp only [List.mem_cons, List.not_mem_nil, or_false] at ha
  rcases ha with rfl | rfl | rfl
  ·exact bnd_pkgA p
  ·exact .int _ _
  ·exact bnd_dep0 d) ?_
 simp only [ic87, go_sem, pkg_lenA, pkg_takeA, pkg_leafA, dep_len, dep_take, dep_leaf]
 refine call_pc fok31 (provides_pc p d hp hd) ?_
 simp only [go_sem]
 exact frz_bool _
theorem namedClI_pc (p : Package) (n : Int) (d : Dep) (hp : Pkg.small p) (hd : Dep.small d) : PC Tryz.prog EE 88 [.agg p.cs, .int .i64 n, .tptr d.cs] (.bool (named p d)) := by
 refine PC_e hE fok88 (Nat.le_of_ble_eq_true rfl) (fun a ha => by
  simp only [List.mem_cons, List.not_mem_nil, or_false] at ha
  rcases ha with rfl | rfl | rfl
  ·exact bnd_pkgA p
  ·exact .int _ _
  ·exact bnd_dep0 d) ?_
 simp only [ic88, go_sem, pkg_lenA, pkg_takeA, pkg_leafA, dep_len, dep_take, dep_leaf]
 refine call_pc fok32 (named_pc p d hp hd) ?_
 simp only [go_sem]
 exact frz_bool _
theorem lkp_nm (nm : Nms) (σ : Store) (k : Str) : ∃ v, lkpI σ 2 .nilslice false (.tmap (nmV nm)) (.str k) = some v ∧ (v = .tslice ((nmLook nm k).map Md.intC) ∨ v = .nilslice ∧ nmLook nm k = []) := by
 have h : ∀ nm : Nms, ∃ r, lookL 2 (.str k) (nmV nm) = some r ∧ ((∃ v, r = some v ∧ v = .tslice ((nmLook nm k).map Md.intC)) ∨ r = none ∧ nmLook nm k = []) := by
  intro nm
  induction nm with
  | nil => exact ⟨none, rfl, .inr ⟨rfl, rfl⟩⟩
  | cons t ts ih =>
   obtain ⟨r, h1, h2⟩ := ih
   simp only [nmV, List.map_cons, lookL, e_keq2, nmLook] at h1 ⊢
   by_cases e : k = t.1
   ·simp only [e, decide_true, if_true]
    exact ⟨_, rfl, .inl ⟨_, rfl, rfl⟩⟩
   ·simp only [e, decide_false, if_false]
    exact ⟨r, h1, h2⟩
 obtain ⟨r, h1, h2⟩ := h nm
 rcases h2 with ⟨v, rfl, rfl⟩ | ⟨rfl, h3⟩
 ·refine ⟨.tslice ((nmLook nm k).map Md.intC), ?_, .inl rfl⟩
  simp only [lkpI, mapAt, h1]
  rfl
 ·refine ⟨.nilslice, ?_, .inr ⟨rfl, h3⟩⟩
  simp only [lkpI, mapAt, h1]
  rfl
theorem numsOf_at {q : Package → Bool} {l : List Package} {n : Int} (h : n ∈ numsOf q l) : ∃ m : Nat, n = m ∧ m < l.length := by
 obtain ⟨m, h1, h2, _⟩ := numsOf_mem.1 h
 exact ⟨m, h1, h2⟩
theorem getD_at (l : List Package) (m : Nat) (h : m < l.length) : l.getD m default = l[m] := by simp [List.getD_eq_getElem?_getD, h]
theorem idxProviders_pc (l : List Package) (d : Dep) (hl : l.length < 2 ^ 20) (hs : ∀ p ∈ l, Pkg.small p) (hd : Dep.small d) : PC Tryz.prog EE 28 [(idxM l).v, .agg d.cs] (.tslice ((providersM l d).map Md.intC)) := by
 have hi := idxM_is l
 have hb := bnd_idx (idxM l)
 refine PC_e hE fok28 (Nat.le_of_ble_eq_true rfl) (two_mem hb (bnd_depA d)) ?_
 have hlook := hi.prov d.name
 have hsift : ∀ v, (v = .tslice ((nmLook (idxM l).prov d.name).map Md.intC) ∨ v = .nilslice ∧ nmLook (idxM l).prov d.name = []) → PC Tryz.prog EE 82 [(idxM l).v, v, .func (.func 87) [] [.tptr d.cs]] (.tslice ((providersM l d).map Md.intC)) := by
  intro v hv
  have h := sift_pc (idxM l) (nmLook (idxM l).prov d.name) (by rw [hlook]; have := numsOf_len (fun p => decide (d.name ∈ offK p)) l; omega) 87 [.tptr d.cs] (fun n => provides (l.getD n.toNat default) d) (one_mem (bnd_dep0 d)) fok87.1 (fun n hn => by
   rw [hlook] at hn
   obtain ⟨m, rfl, hm⟩ := numsOf_at hn
   refine ⟨m, rfl, by rw [hi.all]; exact hm, ?_⟩
   have e : (idxM l).all[m]'(by rw [hi.all]; exact hm) = l[m] := by simp only [hi.all]
   rw [e, Int.toNat_natCast, getD_at l m hm]
   exact provClI_pc l[m] m d (hs _ (List.getElem_mem hm)) hd)
  rw [providers_eq] at h
  rcases hv with rfl | ⟨rfl, h0⟩
  ·exact h
  ·rw [h0] at h
   have hw : ∀ {v : IV} {σ : Store}, Bnd 0 v → Frz σ (fun _ => true = true) v v := fun h => .keep _ (h.weak fun _ _ => rfl)
   refine PC_weak (args' := [(idxM l).v, .tslice [], .func (.func 87) [] [.tptr d.cs]]) rfl (fun σ i hi => ?_) h
   match i, hi with
   | 0, _ => exact hw hb
   | 1, _ => exact .nils
   | 2, _ => exact hw (.func _ _ _ (fun c hc => by cases hc) (one_mem (bnd_dep0 d)))
 have hx : (idxM l).v = .tptr [.tslice ((idxM l).all.map Package.cs), .tmap (nmV (idxM l).prov), .tmap (nmV (idxM l).names), .tmap (nmV (idxM l).over)] := rfl
 have d0 : d.cs.head? = some (.str d.name) := rfl
 have hres := bnd_ints (providersM l d)
 have hk0 : ∀ σ : Store, ∃ v, lkpI σ 2 .nilslice false (.tmap (nmV (idxM l).prov)) (.str d.name) = some v ∧ PC Tryz.prog EE 82 [(idxM l).v, v, .func (.func 87) [] [.tptr d.cs]] (.tslice ((providersM l d).map Md.intC)) := fun σ =>
  let ⟨v, h1, h2⟩ := lkp_nm (idxM l).prov σ d.name
  ⟨v, h1, hsift v h2⟩
 clear hsift hlook
 rw [hx] at hk0 ⊢
 generalize (idxM l).all.map Package.cs = a0 at *
 simp only [ic28, go_sem, dep_len, dep_take, dep_leaf, d0]
 obtain ⟨v, hk, hsv⟩ := hk0 ⟨11, emp.obj⟩
 simp only [go_sem, hk]
 refine call_pc fok82 hsv ?_
 simp only [go_sem]
 exact .keep _ hres
theorem idxNamed_pc (l : List Package) (d : Dep) (hl : l.length < 2 ^ 20) (hs : ∀ p ∈ l, Pkg.small p) (hd : Dep.small d) : PC Tryz.prog EE 29 [(idxM l).v, .agg d.cs] (.tslice ((namedM l d).map Md.intC)) := by
 have hi := idxM_is l
 have hb := bnd_idx (idxM l)
 refine PC_e hE fok29 (Nat.le_of_ble_eq_true rfl) (two_mem hb (bnd_depA d)) ?_
 have hlook := hi.names d.name
 have hsift : ∀ v, (v = .tslice ((nmLook (idxM l).names d.name).map Md.intC) ∨ v = .nilslice ∧ nmLook (idxM l).names d.name = []) → PC Tryz.prog EE 82 [(idxM l).v, v, .func (.func 88) [] [.tptr d.cs]] (.tslice ((namedM l d).map Md.intC)) := by
  intro v hv
  have h := sift_pc (idxM l) (nmLook (idxM l).names d.name) (by rw [hlook]; have := numsOf_len (fun p => decide (p.name = d.name)) l; omega) 88 [.tptr d.cs] (fun n => named (l.getD n.toNat default) d) (one_mem (bnd_dep0 d)) fok88.1 (fun n hn => by
   rw [hlook] at hn
   obtain ⟨m, rfl, hm⟩ := numsOf_at hn
   refine ⟨m, rfl, by rw [hi.all]; exact hm, ?_⟩
   have e : (idxM l).all[m]'(by rw [hi.all]; exact hm) = l[m] := by simp only [hi.all]
   rw [e, Int.toNat_natCast, getD_at l m hm]
   exact namedClI_pc l[m] m d (hs _ (List.getElem_mem hm)) hd)
  rw [named_eq] at h
  rcases hv with rfl | ⟨rfl, h0⟩
  ·exact h
  ·rw [h0] at h
   have hw : ∀ {v : IV} {σ : Store}, Bnd 0 v → Frz σ (fun _ => true = true) v v := fun h => .keep _ (h.weak fun _ _ => rfl)
   refine PC_weak (args' := [(idxM l).v, .tslice [], .func (.func 88) [] [.tptr d.cs]]) rfl (fun σ i hi => ?_) h
   match i, hi with
   | 0, _ => exact hw hb
   | 1, _ => exact .nils
   | 2, _ => exact hw (.func _ _ _ (fun c hc => by cases hc) (one_mem (bnd_dep0 d)))
 have hx : (idxM l).v = .tptr [.tslice ((idxM l).all.map Package.cs), .tmap (nmV (idxM l).prov), .tmap (nmV (idxM l).names), .tmap (nmV (idxM l).over)] := rfl
 have d0 : d.cs.head? = some (.str d.name) := rfl
 have hres := bnd_ints (namedM l d)
 have hk0 : ∀ σ : Store, ∃ v, lkpI σ 2 .nilslice false (.tmap (nmV (idxM l).names)) (.str d.name) = some v ∧ PC Tryz.prog EE 82 [(idxM l).v, v, .func (.func 88) [] [.tptr d.cs]] (.tslice ((namedM l d).map Md.intC)) := fun σ =>
  let ⟨v, h1, h2⟩ := lkp_nm (idxM l).names σ d.name
  ⟨v, h1, hsift v h2⟩
 clear hsift hlook
 rw [hx] at hk0 ⊢
 generalize (idxM l).all.map Package.cs = a0 at *
 simp only [ic29, go_sem, dep_len, dep_take, dep_leaf, d0]
 obtain ⟨v, hk, hsv⟩ := hk0 ⟨11, emp.obj⟩
 simp only [go_sem, hk]
 refine call_pc fok82 hsv ?_
 simp only [go_sem]
 exact .keep _ hres
theorem has_pc (l : List Int) (n : Int) (hl : l.length < 2 ^ 40) : PC Tryz.prog EE 27 [.tslice (l.map Md.intC), .int .i64 n] (.bool (decide (n ∈ l))) := by
 refine PC_f fok27 (Nat.le_of_ble_eq_true rfl) fun σ => ?_
 simp only [ic27, go_sem]
 refine loop_up noT (fun i fr t => t = σ ∧ fr = [(0, .tslice (l.map Md.intC)), (1, .int .i64 n), (5, .int .i64 i)] ∧ (decide (n ∈ l)) = decide (n ∈ l.drop i)) l.length ⟨rfl, rfl, rfl⟩ ?_
 rintro i fr t hi ⟨rfl, rfl, hf⟩
 by_cases hlt : i < l.length
 ·obtain ⟨x, ha, _, hdr, hget, _⟩ := at_nth l i hlt
  have c1 : (i : Int) < l.length := by omega
  have c2 : (0 : Int) ≤ i := by omega
  have w1 := wrapS (i := i) (by omega)
  by_cases e : x = n
  ·have hin : n ∈ l := e ▸ ha
   simp only [go_sem, c1, c2, hget, Md.intC, e, hin, decide_true, and_self]
  ·have e' : ¬ n = x := fun h => e h.symm
   rw [hdr] at hf
   simp only [List.mem_cons, e', false_or] at hf
   simp only [go_sem, c1, c2, hget, Md.intC, e, w1]
   exact ⟨hlt, hf⟩
 ·have hi' : i = l.length := by omega
  subst hi'
  have c1 : ¬ (l.length : Int) < l.length := by omega
  rw [List.drop_length] at hf
  simp only [List.not_mem_nil, decide_false] at hf
  simp only [go_sem, c1, hf, and_self]
def depAny (n : Str) : Dep := ⟨n, 0, ⟨0, [], []⟩⟩
theorem depLaw_pc (n : Str) : PC Tryz.prog EE 30 [.str n, .int .u8 0, .str []] (.agg (depAny n).cs) := by
 refine PC_e hE fok30 (Nat.le_of_ble_eq_true rfl) (fun a ha => by
  simp only [List.mem_cons, List.not_mem_nil, or_false] at ha
  rcases ha with rfl | rfl | rfl
  ·exact .str _
  ·exact .int _ _
  ·exact .str _) ?_
 simp only [ic30, go_sem, Dep.cs, depAny]
 exact .keep _ (bnd_depA (depAny n))
end Go.Id.Tryz
