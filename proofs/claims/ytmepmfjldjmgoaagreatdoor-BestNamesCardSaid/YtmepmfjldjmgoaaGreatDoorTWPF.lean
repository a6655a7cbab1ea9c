/- Pools: how they are made. Conditions: none. -/
import Derived.Test.YtmepmfjldjmgoaaGreatDoorTWPE
import Derived.Test.YtmepmfjldjmgoaaGreatDoorMd
set_option linter.all false
namespace Go.Id.Tryz
open Go Go.Id Go.Proofs Go.Id.Md
set_option linter.unusedSimpArgs false
set_option linter.unusedVariables false
theorem prow_len (r : PRow) : r.cs.length = 17 := by unfold PRow.cs; rw [List.length_append]; rfl
theorem prow_leaf (r : PRow) : r.cs.all IV.leaf = true := by unfold PRow.cs; rw [List.all_append]; rfl
theorem bnd_prow (r : PRow) : ∀ c ∈ r.cs, Bnd 0 c := by
  intro c hc
  unfold PRow.cs at hc
  rcases List.mem_append.1 hc with h | h
  · exact bnd_pkg _ c h
  · simp only [List.mem_cons, List.not_mem_nil, or_false] at h
    rcases h with rfl | rfl <;> exact .int _ _
structure PS (s : Store) (pp mid : Nat) (rows : List PRow) (inst : Int) (L : NmL) (rv : IV) (B : Nat) : Prop where
  cell : s.obj pp = some (.cells [rv, .int .i64 inst, .map mid])
  grow : Grow s rv 17 (rows.map PRow.cs)
  map : s.obj mid = some (.map (mEs L))
  row : ∀ t ∈ L, s.obj t.2.2 = some (.row (t.2.1.map intC).flatten) ∧ t.2.2 < s.next ∧ t.2.1.length ≤ B
  ids : (L.map (·.2.2)).Nodup
  keys : (L.map (·.1)).Nodup
  ne : ∀ id n, rv = .slice id 0 n 17 → ∀ t ∈ L, t.2.2 ≠ id
  lt : pp < s.next ∧ mid < s.next
theorem PS.mono {s s' : Store} {pp mid : Nat} {rows : List PRow} {inst : Int} {L : NmL} {rv : IV} {B : Nat} (h : PS s pp mid rows inst L rv B) (hn : s.next ≤ s'.next) (ho : ∀ i, i < s.next → s'.obj i = s.obj i) : PS s' pp mid rows inst L rv B where
  cell := by rw [ho _ h.lt.1]; exact h.cell
  grow := h.grow.mono hn fun id _ hid => ho id hid
  map := by rw [ho _ h.lt.2]; exact h.map
  row := fun t ht => ⟨by rw [ho _ (h.row t ht).2.1]; exact (h.row t ht).1, by have := (h.row t ht).2.1; omega, (h.row t ht).2.2⟩
  ids := h.ids
  keys := h.keys
  ne := h.ne
  lt := ⟨by have := h.lt.1; omega, by have := h.lt.2; omega⟩
theorem int_all (l : List Int) : ∀ e ∈ l.map Md.intC, e.length = 1 ∧ e.all IV.leaf = true := fun e he => by
  obtain ⟨x, _, rfl⟩ := List.mem_map.1 he
  exact ⟨rfl, rfl⟩
theorem prow_all (l : List PRow) : ∀ e ∈ l.map PRow.cs, e.length = 17 ∧ e.all IV.leaf = true := fun e he => by
  obtain ⟨x, _, rfl⟩ := List.mem_map.1 he
  exact ⟨prow_len x, prow_leaf x⟩
theorem PS.name {s : Store} {pp mid : Nat} {rows : List PRow} {inst : Int} {L : NmL} {rv : IV} {B : Nat} (h : PS s pp mid rows inst L rv B) (k : Str) (n : Int) (m nid : Nat) (hm : s.next ≤ m) (hnew : s.next ≤ nid) (hb : B < 2 ^ 30) :
    ∃ s1, appI ⟨m, s.obj⟩ nid 1 (curV L k) (.tslice [[.int .i64 n]]) = some (.slice nid 0 ((curL L k).length + 1) 1, s1) ∧ s1.next = m ∧ s1.obj mid = some (.map (mEs L)) ∧ (∀ i cs, i < s.next → s.obj i = some (.cells cs) → s1.obj i = some (.cells cs)) ∧
      ∀ nx, nid < nx → PS ⟨nx, (s1.put mid (.map (mEs (updM L k n nid)))).obj⟩ pp mid rows inst (updM L k n nid) rv (B + 1) := by
  have hg0 : Grow s (curV L k) 1 ((curL L k).map Md.intC) := by
    rcases cur_spec L k with ⟨h1, h2⟩ | ⟨t, ht, _, h1, h2⟩
    · rw [h1, h2]; exact .inl ⟨rfl, rfl⟩
    · rw [h1, h2]; exact .inr ⟨t.2.2, by rw [List.length_map], (h.row t ht).1, (h.row t ht).2.1⟩
  have hg : Grow ⟨m, s.obj⟩ (curV L k) 1 ((curL L k).map Md.intC) := Grow.mono (σ := s) hg0 hm fun _ _ _ => rfl
  have hlen : (curL L k).length ≤ B := by
    rcases cur_spec L k with ⟨h1, h2⟩ | ⟨t, ht, _, h1, h2⟩
    · rw [h2]; exact Nat.zero_le _
    · rw [h2]; exact (h.row t ht).2.2
  have hap := app_grow (nid := nid) (e := [.int .i64 n]) hg (int_all _) ⟨rfl, rfl⟩ (by rw [List.length_map]; omega)
  rw [List.length_map] at hap
  have hmid : ¬ mid = nid := by have := h.lt.2; omega
  have hpp : ¬ pp = nid := by have := h.lt.1; omega
  have hpm : ¬ pp = mid := fun e => by have h1 := h.cell; have h2 := h.map; rw [e, h2] at h1; cases h1
  have km := killv_obj hg mid _ h.map (fun _ e => by cases e)
  have kp := killv_obj hg pp _ h.cell (fun _ e => by cases e)
  have kother : ∀ i cs, s.obj i = some (.row cs) → (∀ t ∈ L, t.1 = k → t.2.2 ≠ i) → (killv (curV L k) ⟨m, s.obj⟩).obj i = some (.row cs) := by
    intro i cs hi hne
    rcases cur_spec L k with ⟨h1, _⟩ | ⟨t, ht, hk, h1, _⟩
    · rw [h1]; exact hi
    · rw [h1]
      show (if i = t.2.2 then none else s.obj i) = _
      rw [if_neg (fun e => hne t ht hk e.symm)]; exact hi
  refine ⟨_, hap, by rw [put_next, killv_next], by rw [put_obj, if_neg hmid]; exact km, fun i cs hi h => by rw [put_obj, if_neg (by omega)]; exact killv_obj hg i _ h (fun _ e => by cases e), fun nx hnx => ?_⟩
  have hrow_ne_mid : ∀ i cs, s.obj i = some (.row cs) → ¬ i = mid := fun i cs hi e => by subst e; rw [h.map] at hi; cases hi
  exact {
    cell := by
      show (if pp = mid then _ else if pp = nid then _ else (killv (curV L k) ⟨m, s.obj⟩).obj pp) = _
      rw [if_neg hpm, if_neg hpp]; exact kp
    grow := by
      rcases h.grow with h1 | ⟨id, hv, ho, hlt⟩
      · exact .inl h1
      · refine .inr ⟨id, hv, ?_, by show id < nx; omega⟩
        show (if id = mid then _ else if id = nid then _ else (killv (curV L k) ⟨m, s.obj⟩).obj id) = _
        rw [if_neg (hrow_ne_mid _ _ ho), if_neg (by omega)]
        exact kother id _ ho fun t ht _ => h.ne id _ hv t ht
    map := by
      show (if mid = mid then _ else _) = _
      rw [if_pos rfl]
    row := by
      intro t ht
      rcases upd_mem h.keys t ht with ⟨h1, h2⟩ | rfl
      · obtain ⟨r1, r2, r3⟩ := h.row t h1
        refine ⟨?_, by show t.2.2 < nx; omega, by omega⟩
        show (if t.2.2 = mid then _ else if t.2.2 = nid then _ else (killv (curV L k) ⟨m, s.obj⟩).obj t.2.2) = _
        rw [if_neg (hrow_ne_mid _ _ r1), if_neg (by omega)]
        exact kother _ _ r1 fun u hu hk e => h2 (by rw [← ids_inj h.keys h.ids u hu t h1 e]; exact hk)
      · refine ⟨?_, hnx, ?_⟩
        · show (if nid = mid then _ else if nid = nid then _ else _) = _
          rw [if_neg (fun e => hmid e.symm), if_pos rfl, List.map_append]
          rfl
        · show (curL L k ++ [n]).length ≤ B + 1
          rw [List.length_append]; simp; exact hlen
    ids := (upd_ids L h.ids (fun hm => by
      obtain ⟨t, ht, e⟩ := List.mem_map.1 hm
      have := (h.row t ht).2.1
      have e' : t.2.2 = nid := e
      omega)).1
    keys := (upd_keys L h.keys).1
    ne := by
      intro id m hv t ht
      rcases upd_mem h.keys t ht with ⟨h1, h2⟩ | rfl
      · exact h.ne id m hv t h1
      · rcases h.grow with ⟨h1, _⟩ | ⟨id', hv', ho, hlt⟩
        · rw [h1] at hv; cases hv
        · rw [hv'] at hv
          cases hv
          show nid ≠ id
          omega
    lt := ⟨by have := h.lt.1; show pp < nx; omega, by have := h.lt.2; show mid < nx; omega⟩ }
theorem lkp_m {σ : Store} {mid : Nat} {L : NmL} (h : σ.obj mid = some (.map (mEs L))) (k : Str) : lkpI σ 2 .nilslice false (.map mid) (.str k) = some (curV L k) := by
  obtain ⟨r, h1, h2⟩ := look_m' L k
  simp only [lkpI, mapAt, h, h1, h2, Bool.false_eq_true, if_false]
theorem mupd_m {σ : Store} {mid : Nat} {L : NmL} (h : σ.obj mid = some (.map (mEs L))) (k : Str) (n : Int) (nid : Nat) : mapUpdI σ 2 (.map mid) (.str k) (.slice nid 0 ((curL L k).length + 1) 1) = some (σ.put mid (.map (mEs (updM L k n nid)))) := by
  simp only [mapUpdI, h, upd_m L k n nid, Option.map]
theorem pkg_head (x : Package) : x.cs.head? = some (.str x.name) := rfl
theorem PS.push {s : Store} {pp mid : Nat} {rows : List PRow} {inst : Int} {L : NmL} {rv : IV} {B : Nat} (h : PS s pp mid rows inst L rv B) (r : PRow) (m nid : Nat) (hm : s.next ≤ m) (hnew : s.next ≤ nid) (hb : rows.length < 2 ^ 30) :
    ∃ s1, appI ⟨m, s.obj⟩ nid 17 rv (.tslice [r.cs]) = some (.slice nid 0 (rows.length + 1) 17, s1) ∧ s1.next = m ∧ s1.obj pp = s.obj pp ∧
      ∀ nx, nid < nx → PS ⟨nx, (s1.put pp (.cells [.slice nid 0 (rows.length + 1) 17, .int .i64 inst, .map mid])).obj⟩ pp mid (rows ++ [r]) inst L (.slice nid 0 (rows.length + 1) 17) B := by
  have hg : Grow ⟨m, s.obj⟩ rv 17 (rows.map PRow.cs) := Grow.mono (σ := s) h.grow hm fun _ _ _ => rfl
  have hap := app_grow (nid := nid) (e := r.cs) hg (prow_all rows) ⟨prow_len r, prow_leaf r⟩ (by rw [List.length_map]; omega)
  rw [List.length_map] at hap
  have hmid : ¬ mid = nid := by have := h.lt.2; omega
  have hpp : ¬ pp = nid := by have := h.lt.1; omega
  have hmp : ¬ mid = pp := fun e => by have h1 := h.cell; have h2 := h.map; rw [← e, h2] at h1; cases h1
  have km := killv_obj hg mid _ h.map (fun _ e => by cases e)
  have kp := killv_obj hg pp _ h.cell (fun _ e => by cases e)
  refine ⟨_, hap, by rw [put_next, killv_next], by rw [put_obj, if_neg hpp, kp, h.cell], fun nx hnx => ?_⟩
  exact {
    cell := by
      show (if pp = pp then _ else _) = _
      rw [if_pos rfl]
    grow := by
      refine .inr ⟨nid, by rw [List.map_append, List.length_append, List.length_map]; rfl, ?_, hnx⟩
      show (if nid = pp then _ else if nid = nid then _ else _) = _
      rw [if_neg (fun e => hpp e.symm), if_pos rfl, List.map_append]; rfl
    map := by
      show (if mid = pp then _ else if mid = nid then _ else (killv rv ⟨m, s.obj⟩).obj mid) = _
      rw [if_neg hmp, if_neg hmid]; exact km
    row := by
      intro t ht
      obtain ⟨r1, r2, r3⟩ := h.row t ht
      refine ⟨?_, by show t.2.2 < nx; omega, r3⟩
      have e1 : ¬ t.2.2 = pp := fun e => by rw [e, h.cell] at r1; cases r1
      show (if t.2.2 = pp then _ else if t.2.2 = nid then _ else (killv rv ⟨m, s.obj⟩).obj t.2.2) = _
      rw [if_neg e1, if_neg (by omega)]
      rcases h.grow with ⟨hv, _⟩ | ⟨id, hv, ho, hlt⟩
      · rw [hv]; exact r1
      · rw [hv]
        show (if t.2.2 = id then none else s.obj t.2.2) = _
        rw [if_neg (h.ne id _ hv t ht)]; exact r1
    ids := h.ids
    keys := h.keys
    ne := by
      intro id m hv t ht
      cases hv
      have := (h.row t ht).2.1
      omega
    lt := ⟨by have := h.lt.1; show pp < nx; omega, by have := h.lt.2; show mid < nx; omega⟩ }
def Repo.Fit (r : Repo) : Prop := r.packages.length < 2 ^ 20 ∧ ∀ p ∈ r.packages, p.Fit
theorem two_mem {P : IV → Prop} {u v : IV} (hu : P u) (hv : P v) : ∀ a ∈ [u, v], P a := fun a ha => by
  cases ha with
  | head => exact hu
  | tail _ h => cases h with
    | head => exact hv
    | tail _ h => cases h
theorem PS.frz {s : Store} {pp mid : Nat} {rows : List PRow} {inst : Int} {L : NmL} {rv : IV} {B : Nat} (h : PS s pp mid rows inst L rv B) : FrzN s 0 (.ptr pp 0) (Pool.v ⟨rows, inst, nmOf L⟩) := by
  refine .ptr pp 0 _ _ (Nat.not_lt_zero _) (.inl h.cell) (Nat.le_refl _) fun j hj => ?_
  have hj3 : j = 0 ∨ j = 1 ∨ j = 2 := by simp only [List.length_cons, List.length_nil] at hj; omega
  rcases hj3 with rfl | rfl | rfl
  · refine h.grow.frz (fun x hx => (prow_all rows x hx).1) (fun _ _ => Nat.not_lt_zero _) fun e he c hc => ?_
    obtain ⟨r, _, rfl⟩ := List.mem_map.1 he
    exact bnd_prow r c hc
  · exact frz_int _ _
  · have hat : ∀ i, i < (mEs L).length → ∃ t ∈ L, (mEs L).getD i (.undef, .undef) = (.str t.1, .slice t.2.2 0 t.2.1.length 1) ∧ (nmV (nmOf L)).getD i (.undef, .undef) = (.str t.1, .tslice (t.2.1.map Md.intC)) := by
      intro i hi
      have hi' : i < L.length := by simpa [mEs] using hi
      exact ⟨L[i], List.getElem_mem hi', by simp [mEs, List.getD_eq_getElem?_getD, hi'], by simp [nmV, nmOf, List.getD_eq_getElem?_getD, hi']⟩
    refine .map mid (mEs L) (nmV (nmOf L)) (nmV (nmOf L)) (Nat.not_lt_zero _) h.map (by simp [nmV, nmOf, mEs]) (List.Perm.refl _) ⟨?_, .str, fun e he => ?_⟩ (fun i hi => ?_) (fun i hi => ?_)
    · have : (nmV (nmOf L)).map (·.1) = (L.map (·.1)).map IV.str := by simp [nmV, nmOf]
      rw [this]
      exact List.Pairwise.map _ (fun a b hab e => hab (by cases e; rfl)) h.keys
    · simp only [nmV, List.mem_map] at he
      obtain ⟨t, _, rfl⟩ := he
      trivial
    · obtain ⟨t, ht, e1, e2⟩ := hat i hi
      rw [e1, e2]; exact frz_str _
    · obtain ⟨t, ht, e1, e2⟩ := hat i hi
      rw [e1, e2]
      obtain ⟨r1, r2, _⟩ := h.row t ht
      have hg : Grow s (.slice t.2.2 0 t.2.1.length 1) 1 (t.2.1.map Md.intC) := .inr ⟨t.2.2, by rw [List.length_map], r1, r2⟩
      refine hg.frz (fun x hx => (int_all _ x hx).1) (fun _ _ => Nat.not_lt_zero _) fun e he c hc => ?_
      obtain ⟨n, _, rfl⟩ := List.mem_map.1 he
      cases hc with
      | head => exact .int _ _
      | tail _ h => cases h
end Go.Id.Tryz
