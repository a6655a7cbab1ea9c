/- Open regions: a block of zeros that the world lays ahead of its turn. Conditions: none; over any program. -/
import Derived.Test.YtiallonafbejaaaGreatDoorFwNb
set_option linter.all false
namespace Go.Id
open Go
variable {P : Program} {w w' w'' : World} {ρ ρ' ρ'' : Rho} {E : Nat → IV} {σ σ' : Store} {N n n' : Nat} {fr : Frm} {a : Act} {pf : List Nat}
structure ExtX (ρ : Rho) (w : World) (ρ' : Rho) (w' : World) : Prop where
  at_ : ∀ i B d, ρ i = .at B d → ρ' i = .at B d
  dead : ∀ i, ρ i = .dead → ρ' i = .dead
  fb : ∀ b, FB ρ w b → FB ρ' w' b
  heap : ∀ b, b < w.heap.size → w'.heap[b]? = w.heap[b]?
theorem ExtX.some {o : Obj} {b : Nat} (h : ExtX ρ w ρ' w') (hb : w.heap[b]? = some o) : w'.heap[b]? = some o := by
  rw [h.heap b (Array.getElem?_eq_some_iff.1 hb).1]; exact hb
theorem ExtX.cell {b o : Nat} (h : ExtX ρ w ρ' w') (hb : FB ρ w b) : w'.cell? ⟨b, o, none⟩ = w.cell? ⟨b, o, none⟩ := by
  unfold World.cell?
  rw [h.heap b hb.1]
theorem VR.monoX (h : ExtX ρ w ρ' w') {v : IV} {r : Value} (hv : VR ρ w v r) : VR ρ' w' v r := by
  induction hv with
  | undef r => exact .undef r
  | bool b => exact .bool b
  | int k n => exact .int k n
  | str s => exact .str s
  | nilptr => exact .nilptr
  | ptr id off B d hi => exact .ptr id off B d (h.at_ _ _ _ hi)
  | ptrD id off ad hi => exact .ptrD id off ad (h.dead id hi)
  | tptr cs b o vs hf hc _ ih => exact .tptr cs b o vs (h.fb _ hf) (fun j hj => by rw [h.cell hf]; exact hc j hj) ih
  | nilslice => exact .nilslice
  | zslice a => exact .zslice a
  | eslice a cap => exact .eslice a cap
  | slice id off len esz B d cap rcs el fz hi hb hsz hle => exact .slice id off len esz B d cap rcs el fz (h.at_ _ _ _ hi) (h.some hb) hsz hle
  | sliceZ id off esz B d a hi => exact .sliceZ id off esz B d a (h.at_ _ _ _ hi)
  | sliceD id off len esz cap ad hi hle => exact .sliceD id off len esz cap ad (h.dead id hi) hle
  | cslice id off len esz B d rcs el fz hi hb hsz => exact .cslice id off len esz B d rcs el fz (h.at_ _ _ _ hi) (h.some hb) hsz
  | csliceD id off len esz ad hi => exact .csliceD id off len esz ad (h.dead id hi)
  | rslice id off len room esz B d cap rcs el fz hi hb hsz hle hr => exact .rslice id off len room esz B d cap rcs el fz (h.at_ _ _ _ hi) (h.some hb) hsz hle hr
  | rsliceD id off len room esz cap ad hi hle hr => exact .rsliceD id off len room esz cap ad (h.dead id hi) hle hr
  | tslice es b o cap esz sp vs hf hsz hc _ hle ih =>
    refine .tslice es b o cap esz sp vs (fun hne => ⟨h.fb _ (hf hne).1, (hf hne).2⟩) hsz (fun i hi j hj => ?_) ih hle
    rw [h.cell (hf (by intro h0; subst h0; simp at hi)).1]
    exact hc i hi j hj
  | tnil => exact .tnil
  | nilmap => exact .nilmap
  | map id B d hi => exact .map id B d (h.at_ _ _ _ hi)
  | mapD id B hi => exact .mapD id B (h.dead id hi)
  | tmap es es' b mes clock hp hd hf hb hl _ _ h4 h5 ihk ihv => exact .tmap es es' b mes clock hp hd (h.fb _ hf) (h.some hb) hl ihk ihv h4 h5
  | func fn first cap rf rc hy h1 h2 _ _ ihf ihc => exact .func fn first cap rf rc hy h1 h2 ihf ihc
  | yield id B d hi => exact .yield id B d (h.at_ _ _ _ hi)
  | yieldD id B hi => exact .yieldD id B (h.dead id hi)
  | nilfunc => exact .nilfunc
  | iface t v r _ ih => exact .iface t v r ih
  | niliface => exact .niliface
  | agg cs rs hl _ ih => exact .agg cs rs hl ih
  | tuple cs rs hl _ ih => exact .tuple cs rs hl ih
theorem OR.monoX {B d : Nat} {o : IObj} (h : ExtX ρ w ρ' w') (ho : OR ρ w B d o) : OR ρ' w' B d o := by
  have key : ∀ cs, CellsOR ρ w B d cs → CellsOR ρ' w' B d cs := fun cs ⟨rcs, el, h1, h2, h3⟩ => ⟨rcs, el, h.some h1, h2, fun i hi => (h3 i hi).monoX h⟩
  cases o with
  | cells cs => exact key cs ho
  | row cs => exact key cs ho
  | map es =>
    obtain ⟨mes, clock, h1, h0, h2, h3, h4, h5⟩ := ho
    exact ⟨mes, clock, h.some h1, h0, h2, fun i hi => ⟨(h3 i hi).1.monoX h, (h3 i hi).2.monoX h⟩, h4, h5⟩
  | siter s pos => exact ⟨h.some ho.1, ho.2⟩
  | loop N tmps params assign body st pend =>
    obtain ⟨hd, l, h1, h2, h3, h4, h5, h6, h7, h8⟩ := ho
    exact ⟨hd, l, h.some h1, h2, h3, h4, h5, h6, h7, fun t => (h8 t).monoX h⟩
  | miter left cur =>
    obtain ⟨hd, mb, last, seen, mes, clock, lft, h1, h2, h3, h4, h5, h6, h7, h8, hc, h9⟩ := ho
    exact ⟨hd, mb, last, seen, mes, clock, lft, h.some h1, h.fb _ h2, h.some h3, h4, h5, h6, h7, h8, fun c e => let ⟨i, g1, g2, g3, g4⟩ := hc c e; ⟨i, g1, g2, g3.monoX h, g4.monoX h⟩, fun i hi => ⟨(h9 i hi).1.monoX h, (h9 i hi).2.monoX h⟩⟩
/-! ### Laid ahead: locked -/
def Rho.lock (ρ : Rho) (B : Nat) : Rho := ⟨ρ.map, fun b => ρ.X b ∨ b = B⟩
def Rho.free (ρ : Rho) (B k : Nat) : Rho := ⟨(ρ.put k (.at B 0)).map, fun b => ρ.X b ∧ b ≠ B⟩
theorem extX_lock (o : Obj) : ExtX ρ w (ρ.lock w.heap.size) (w.alloc o) where
  at_ := fun _ _ _ h => h
  dead := fun _ h => h
  fb := fun b hb => ⟨by show b < (w.heap.push o).size; rw [Array.size_push]; have := hb.1; omega, hb.2, fun hx => hx.elim hb.3 fun e => by have := hb.1; omega⟩
  heap := fun b hb => alloc_get w o b hb
theorem sim_lock (o : Obj) (hs : Sim E ρ w σ) : Sim E (ρ.lock w.heap.size) (w.alloc o) σ where
  inj := hs.inj
  lt := fun i B d h => by have := hs.lt i B d h; show B < (w.heap.push o).size; rw [Array.size_push]; omega
  obj := fun i B d h => let ⟨o', h1, h2⟩ := hs.obj i B d h; ⟨o', h1, h2.monoX (extX_lock o)⟩
  dead := hs.dead
  fresh := hs.fresh
  noObj := hs.noObj
  env := fun g => (hs.env g).monoX (extX_lock o)
  nx := fun i B d h hx => hx.elim (hs.nx i B d h) fun e => by have := hs.lt i B d h; omega
  xlt := fun b hx => by
    show b < (w.heap.push o).size
    rw [Array.size_push]
    rcases hx with hx | rfl
    · have := hs.xlt b hx; omega
    · omega
theorem extX_free {B k : Nat} (hno : ρ k = .no) (hB : ∀ i d, ρ i ≠ .at B d) (hX : ρ.X B) : ExtX ρ w (ρ.free B k) w where
  at_ := fun i B' d h => by
    show (if i = k then _ else ρ i) = _
    rw [if_neg (fun e => by subst e; rw [hno] at h; cases h)]; exact h
  dead := fun i h => by
    show (if i = k then _ else ρ i) = _
    rw [if_neg (fun e => by subst e; rw [hno] at h; cases h)]; exact h
  fb := fun b hb => by
    have hne : b ≠ B := fun e => by subst e; exact hb.3 hX
    refine ⟨hb.1, fun i d hi => ?_, fun hx => hb.3 hx.1⟩
    replace hi : (if i = k then RRef.at B 0 else ρ i) = .at b d := hi
    split at hi
    · cases hi; exact hne rfl
    · exact hb.2 i d hi
  heap := fun _ _ => rfl
theorem sim_free {B k : Nat} {z : List IV} {rcs : Array Value} {el : TypeId} (hs : Sim E ρ w σ) (hno : ρ k = .no) (hlt : k < σ.next) (hB : ∀ i d, ρ i ≠ .at B d) (hX : ρ.X B) (hb : w.heap[B]? = some (.cells rcs el (0, 0)))
    (hc : ∀ (ρ : Rho) (w : World), CR ρ w z rcs) : Sim E (ρ.free B k) w (σ.put k (.cells z)) := by
  have hx := extX_free (w := w) hno hB hX
  have ap : ∀ i, (ρ.free B k) i = if i = k then RRef.at B 0 else ρ i := fun i => rfl
  refine ⟨?_, ?_, ?_, ?_, ?_, ?_, fun g => (hs.env g).monoX hx, ?_, fun b hb => hs.xlt b hb.1⟩
  · intro i j B' d1 d2 hi hj
    rw [ap] at hi hj
    split at hi <;> split at hj
    · rename_i h1 h2; rw [h1, h2]
    · cases hi; exact absurd hj (hB j d2)
    · cases hj; exact absurd hi (hB i d1)
    · exact hs.inj i j B' d1 d2 hi hj
  · intro i B' d hi
    rw [ap] at hi
    split at hi
    · cases hi; exact (Array.getElem?_eq_some_iff.1 hb).1
    · exact hs.lt i B' d hi
  · intro i B' d hi
    rw [ap] at hi
    simp only [Store.put]
    split at hi
    · rename_i h; cases hi
      refine ⟨.cells z, by simp [h], rcs, el, hb, by have := (hc ρ w).1; omega, fun j hj => ?_⟩
      rw [Nat.zero_add]
      exact (hc _ _).2 j hj
    · rename_i h
      obtain ⟨o, h1, h2⟩ := hs.obj i B' d hi
      exact ⟨o, by simp [h, h1], h2.monoX hx⟩
  · intro i hi
    rw [ap] at hi
    simp only [Store.put]
    split at hi
    · cases hi
    · rename_i h; simp [h, hs.dead i hi]
  · intro i hi
    rw [ap, if_neg (by have : σ.next ≤ i := hi; omega)]
    exact hs.fresh i hi
  · intro i hi
    rw [ap] at hi
    simp only [Store.put]
    split at hi
    · cases hi
    · rename_i h; simp [h, hs.noObj i hi]
  · intro i B' d hi hx'
    rw [ap] at hi
    split at hi
    · cases hi; exact hx'.2 rfl
    · exact hs.nx i B' d hi hx'.1
theorem zeroT_all {t : TypeId} {z : List IV} (h : zeroT P t = some z) : ∃ zr, (∀ w, (zeroValue t).run P w = .ok zr w) ∧ ∀ (ρ : Rho) (w : World), CR ρ w z zr.cells := by
  unfold zeroT at h
  cases hi : P.info? t with
  | none => rw [hi] at h; cases h
  | some i =>
    rw [hi] at h
    simp only at h
    cases hz : i.zero with
    | none => rw [hz] at h; cases h
    | some zr =>
      rw [hz] at h
      exact ⟨zr, fun w => by simp [zeroValue, typeInfo, hi, hz], fun ρ w => cvs_sound h⟩
def Rho.with (ρ : Rho) (X : Nat → Prop) : Rho := ⟨ρ.map, X⟩
theorem extW_with {X : Nat → Prop} {n0 : Nat} {ρ0 : Rho} {w0 : World} (h : ExtW n0 ρ0 w0 (ρ.with X) w) (h' : Ext n0 ρ w ρ' w') : ExtW n0 ρ0 w0 (ρ'.with X) w' :=
  h.trans ⟨h'.size, fun b hb => h'.keep b ⟨hb.1, hb.2⟩, h'.shape, h'.img, fun i B d _ hi => h'.at_ i B d hi, fun i _ hi => h'.dead i hi, fun i hi h0 => h'.no i hi h0, h'.output, h'.os, h'.tape, h'.loops, rfl⟩
theorem extW_lock {X : Nat → Prop} {n0 : Nat} {ρ0 : Rho} {w0 : World} (o : Obj) (h : ExtW n0 ρ0 w0 (ρ.with X) w) : ExtW n0 ρ0 w0 ((ρ.lock w.heap.size).with X) (w.alloc o) :=
  extW_with (ρ := ρ) (ρ' := ρ) h (ext_beside n0 o)
theorem extW_free {X : Nat → Prop} {n0 B k : Nat} {ρ0 : Rho} {w0 : World} (hk : n0 ≤ k) (hB : w0.heap.size ≤ B) (h : ExtW n0 ρ0 w0 (ρ.with X) w) : ExtW n0 ρ0 w0 ((ρ.free B k).with X) w := by
  have ap : ∀ i, ((ρ.free B k).with X) i = if i = k then RRef.at B 0 else ρ i := fun i => rfl
  refine ⟨h.size, h.keep, h.shape, fun i B' d hi => ?_, fun i B' d hn hi => ?_, fun i hn hi => ?_, fun i hn hi => ?_, h.output, h.os, h.tape, h.loops, h.X⟩
  · rw [ap] at hi
    split at hi
    · cases hi; exact .inr hB
    · exact h.img i B' d hi
  · rw [ap, if_neg (by omega)]; exact h.at_ i B' d hn hi
  · rw [ap, if_neg (by omega)]; exact h.dead i hn hi
  · rw [ap, if_neg (by omega)]; exact h.no i hn hi
theorem treeY_und {K : Frm → Store → Prop} (hK : ∀ f f' s, FEq f f' → K f s → K f' s) {ix kx mx d : Nat} {x : IOper} {post : List ItemY} (u : IV) (hxd : x.dst = some d) (hxu : d ∉ x.uses) :
    ∀ (pre : List ItemY) (L : List LE) (fr : Frm) (σ : Store), (∀ p ∈ pre, d ∉ p.2.1.uses ∧ p.2.1.dst ≠ some d) → treeY P E (pre ++ (ix, x, kx, mx) :: post) L fr σ K → treeY P E (pre ++ (ix, x, kx, mx) :: post) L (fr.setd (some d) u) σ K := by
  have get : ∀ (fr : Frm) (t : Nat), t ≠ d → (fr.setd (some d) u).get t = fr.get t := fun fr t h => by
    rw [setd_get, if_neg (fun e => h (Option.some.inj e).symm)]
  intro pre
  induction pre with
  | nil =>
    intro L fr σ _ h
    have hu : ∀ t ∈ x.uses, fr.get t = (fr.setd (some d) u).get t := fun t ht => (get fr t (fun e => hxu (e ▸ ht))).symm
    have fq : ∀ v, FEq (fr.setd x.dst v) ((fr.setd (some d) u).setd x.dst v) := fun v t => by
      simp only [setd_get, hxd]
      split <;> rfl
    rcases h with ⟨ha, h⟩ | ⟨ha, h⟩
    · refine .inl ⟨by rw [← actIs_eq hu]; exact ha, opR_use (fun t ht => hu t (uses_ops ht)) (opR_mono (fun v s ⟨c, k⟩ => ⟨c, ?_⟩) h)⟩
      show treeY P E post (addL E (fr.setd (some d) u) ix x.op v L) _ s K
      rw [← addL_eq (fr := fr) (fun t ht => hu t (uses_ops ht))]
      exact treeY_feq hK _ _ _ _ _ (fq v) k
    · exact .inr ⟨by rw [← actIs_eq hu]; exact ha, treeY_feq hK _ _ _ _ _ (fq skV) h⟩
  | cons p pre ih =>
    obtain ⟨ip, p, kp, mp⟩ := p
    intro L fr σ hp h
    obtain ⟨hpu, hpd⟩ := hp _ (List.mem_cons_self ..)
    simp only at hpu hpd
    have hu : ∀ t ∈ p.uses, fr.get t = (fr.setd (some d) u).get t := fun t ht => (get fr t (fun e => hpu (e ▸ ht))).symm
    have fq : ∀ v, FEq ((fr.setd p.dst v).setd (some d) u) ((fr.setd (some d) u).setd p.dst v) := fun v t => by
      simp only [setd_get]
      by_cases h1 : p.dst = some t
      · by_cases h2 : some d = some t
        · exact absurd (h1.trans h2.symm) hpd
        · simp [h1, h2]
      · simp [h1]
    have ih' := fun L fr σ => ih L fr σ (fun q hq => hp q (List.mem_cons_of_mem _ hq))
    rcases h with ⟨ha, h⟩ | ⟨ha, h⟩
    · refine .inl ⟨by rw [← actIs_eq hu]; exact ha, opR_use (fun t ht => hu t (uses_ops ht)) (opR_mono (fun v s ⟨c, k⟩ => ⟨c, ?_⟩) h)⟩
      show treeY P E (pre ++ (ix, x, kx, mx) :: post) (addL E (fr.setd (some d) u) ip p.op v L) _ s K
      rw [← addL_eq (fr := fr) (fun t ht => hu t (uses_ops ht))]
      exact treeY_feq hK _ _ _ _ _ (fq v) (ih' _ _ _ k)
    · exact .inr ⟨by rw [← actIs_eq hu]; exact ha, treeY_feq hK _ _ _ _ _ (fq skV) (ih' _ _ _ h)⟩
end Go.Id
