/- Open regions where one block of zeros may be laid ahead of its turn: the theorem. Conditions: none; over any program. -/
import Derived.Test.YtiallonafbejaaaGreatDoorFwNc
set_option linter.all false
namespace Go.Id
open Go
variable {P : Program} {w w' w'' : World} {ρ ρ' ρ'' : Rho} {E : Nat → IV} {σ σ' : Store} {N n n' : Nat} {fr : Frm} {a : Act} {pf : List Nat}
def barY (anc : Nat → Nat → Prop) (p x : ItemY) : Prop :=
  apartN p.2.1 x.2.1 ∧ (∀ k, ¬ anc k x.1) ∧ ∀ y, anc x.1 y → anc p.1 y
structure ZeroY (P : Program) (ops : Array Oper) (x : ItemY) (d : Nat) (z : List IV) (t : TypeId) : Prop where
  op : x.2.1 = ⟨some d, none, .alloc z⟩
  mask : x.2.2.2 = 0
  z : zeroT P t = some z
  o : ∃ o, ops[x.1]? = some o ∧ o.op = .alloc t ∧ o.guard = none ∧ o.dst = some d
structure RemB (P : Program) (pf : List Nat) (N : Nat) (ops : Array Oper) (anc : Nat → Nat → Prop) (base e0 : Nat) (early : Bool) (rem : List ItemY) (listed : Array Bool) : Prop where
  size : listed.size = ops.size
  un : ∀ j, j < ops.size → (listed.getD j true = false ↔ ∃ it ∈ rem, it.1 = j ∧ (early = true → j ≠ e0))
  its : ∀ it ∈ rem, ∃ o, ops[it.1]? = some o ∧ cmpOper P pf N ops o = some it.2.1 ∧ it.2.2.1 = base + it.1 ∧ ∀ y ∈ it.2.1.op.ops, IX.quiet y = true
  pw : rem.Pairwise fun p x => (anc p.1 x.1 ∨ freeY p x ∨ (x.1 = e0 ∧ barY anc p x)) ∧ p.1 ≠ x.1 ∧ ∀ o, ops[p.1]? = some o → ∀ e ∈ o.after, Region.binds .any e = true → e.on ≠ x.1
  dc : ∀ j, listed.getD j false = true → ∀ k, anc k j → listed.getD k false = true
theorem any_soundB {ops : Array Oper} {anc : Nat → Nat → Prop} {n0 base d : Nat} {te : TypeId} {z : List IV} {zr : Array Value} {B : Nat} {ro : Option Nat} {Qw : Exit → Act → World → Prop} {K : Frm → Store → Prop} {ρ0 : Rho} {w0 : World} {ds : List Deferred} {e : ItemY}
    (hKf : ∀ f f' s, FEq f f' → K f s → K f' s)
    (hfin : ∀ fr σ ρ w a, n0 ≤ σ.next → K fr σ → Sim E ρ w σ → FR ρ w N fr a.tmps → a.defers = ds → ExtW n0 ρ0 w0 ρ w → Qw .normal a w)
    (hed : ∀ j o, ops[j]? = some o → ∀ e ∈ o.after, Region.binds .any e = true → e.on < ops.size ∧ e.on ≠ j)
    (hanc : ∀ k j, anc k j → ∀ o, ops[j]? = some o → ∃ e ∈ o.after, Region.binds .any e = true ∧ (e.on = k ∨ anc k e.on))
    (hz : ZeroY P ops e d z te) (hzr : ∀ (ρ : Rho) (w : World), CR ρ w z zr) (hB0 : w0.heap.size ≤ B) (hX0 : ¬ ρ0.X B) :
    ∀ (fuel : Nat) (rem : List ItemY) (L : List LE) (listed : Array Bool) (fr : Frm) (σ : Store) (ρ : Rho) (w : World) (a : Act), rem.length = fuel + 1 → RemB P pf N ops anc base e.1 true rem listed → e ∈ rem → treeY P E rem L fr σ K →
      Sim E ρ w σ → FR ρ w N fr a.tmps → a.defers = ds → ExtW n0 ρ0 w0 (ρ.with ρ0.X) w → n0 ≤ base → base + ops.size ≤ σ.next → (∀ it ∈ rem, ρ it.2.2.1 = .no) →
      listed.getD e.1 false = true → w.heap[B]? = some (.cells zr te (0, 0)) → (∀ i d', ρ i ≠ .at B d') → (∀ b, ρ.X b ↔ ρ0.X b ∨ b = B) → a.tmps.getD d undef = .pointer (some ⟨B, 0, none⟩) → fr.get d = .undef →
      wpAnyIn (fw ro) 0 P .any ops Qw fuel listed a w := by
  obtain ⟨ie, xe, ke, me⟩ := e
  obtain ⟨hop, hmask, hzt, oe, hoe, hoe1, hoe2, hoe3⟩ := hz
  simp only at hop hmask hoe
  subst hop; subst hmask
  have adopt : ∀ (fuel : Nat) (pre post : List ItemY) (L : List LE) (listed : Array Bool) (fr : Frm) (σ : Store) (ρ : Rho) (w : World) (a : Act), (pre ++ (ie, ⟨some d, none, .alloc z⟩, ke, 0) :: post).length = fuel + 1 →
      RemB P pf N ops anc base ie true (pre ++ (ie, ⟨some d, none, .alloc z⟩, ke, 0) :: post) listed → treeY P E (pre ++ (ie, ⟨some d, none, .alloc z⟩, ke, 0) :: post) L fr σ K →
      Sim E ρ w σ → FR ρ w N fr a.tmps → a.defers = ds → ExtW n0 ρ0 w0 (ρ.with ρ0.X) w → n0 ≤ base → base + ops.size ≤ σ.next → (∀ it ∈ pre ++ (ie, ⟨some d, none, .alloc z⟩, ke, 0) :: post, ρ it.2.2.1 = .no) →
      w.heap[B]? = some (.cells zr te (0, 0)) → (∀ i d', ρ i ≠ .at B d') → (∀ b, ρ.X b ↔ ρ0.X b ∨ b = B) → a.tmps.getD d undef = .pointer (some ⟨B, 0, none⟩) → (∀ q ∈ pre, freeY q (ie, ⟨some d, none, .alloc z⟩, ke, 0)) →
      wpAnyIn (fw ro) 0 P .any ops Qw fuel listed a w := by
    intro fuel pre post L listed fr σ ρ w a hlen hr h hs hf hd hx hn0 hnx hno hhp hBu hXX hsl hfree
    have hit : (ie, (⟨some d, none, .alloc z⟩ : IOper), ke, 0) ∈ pre ++ (ie, ⟨some d, none, .alloc z⟩, ke, 0) :: post := by simp
    have hidA : ∀ p ∈ pre ++ (ie, (⟨some d, none, .alloc z⟩ : IOper), ke, 0) :: post, p.2.2.1 = base + p.1 := fun p hp => by
      obtain ⟨_, _, _, h1, _⟩ := hr.its p hp
      exact h1
    have hke : ke = base + ie := hidA _ hit
    have hie : ie < ops.size := by
      rcases Nat.lt_or_ge ie ops.size with h' | h'
      · exact h'
      · simp [Array.getElem?_eq_none h'] at hoe
    obtain ⟨hpp, hxp, hcross⟩ := List.pairwise_append.1 hr.pw
    have hcx := fun p hp => hcross p hp _ (List.mem_cons_self ..)
    have hne : ∀ it ∈ pre ++ post, it.1 ≠ ie := fun it h => by
      rcases List.mem_append.1 h with h | h
      · exact (hcx it h).2.1
      · exact fun e => ((List.pairwise_cons.1 hxp).1 it h).2.1 e.symm
    have hmem : ∀ it ∈ pre ++ post, it ∈ pre ++ (ie, (⟨some d, none, .alloc z⟩ : IOper), ke, 0) :: post := fun it h => by
      rcases List.mem_append.1 h with h | h
      · exact List.mem_append_left _ h
      · exact List.mem_append_right _ (List.mem_cons_of_mem _ h)
    have hpull := pullY (P := P) (E := E) (K := K) hKf (ix := ie) (x := ⟨some d, none, .alloc z⟩) (kx := ke) (mx := 0) (post := post) pre L fr σ hfree
      (fun p hp => ⟨by rw [hidA p (List.mem_append_left _ hp), hke]; have := (hcx p hp).2.1; omega, hs.noObj _ (hno p (List.mem_append_left _ hp))⟩)
      (by
        rw [List.nodup_iff_pairwise_ne, List.pairwise_map]
        refine (List.Pairwise.and_mem.1 hpp).imp ?_
        intro p q ⟨hp, hq, h1⟩
        rw [hidA p (List.mem_append_left _ hp), hidA q (List.mem_append_left _ hq)]
        have := h1.2.1
        omega)
      (fun _ => hs.noObj _ (hno _ hit))
      (fun p hp _ y hy => by cases hy) h
    rcases hpull with ⟨_, hk⟩ | ⟨hact, _⟩
    · obtain ⟨_, htree⟩ := hk
      have hXB : ρ.X B := (hXX B).2 (.inr rfl)
      have hk0 : ρ ke = .no := hno _ hit
      have hXe : (ρ.free B ke).with ρ0.X = ρ.free B ke := by
        unfold Rho.with Rho.free
        congr 1
        funext b
        refine propext ⟨fun h => ⟨(hXX b).2 (.inl h), fun e => hX0 (e ▸ h)⟩, fun ⟨h1, h2⟩ => ((hXX b).1 h1).resolve_right h2⟩
      have hx' := extW_free (k := ke) (by omega : n0 ≤ ke) hB0 hx
      rw [hXe] at hx'
      have hfr : FR (ρ.free B ke) w N (fr.setd (some d) (.ptr ke 0)) a.tmps := by
        refine ⟨hf.size, fun t => ?_⟩
        rw [setd_get]
        split
        · rename_i ht
          cases ht
          rw [hsl]
          exact .ptr ke 0 B 0 (by show (if ke = ke then RRef.at B 0 else _) = _; rw [if_pos rfl])
        · exact (hf.get t).monoX (extX_free hk0 hBu hXB)
      have hlen' : (pre ++ post).length = fuel := by simp at hlen ⊢; omega
      refine any_soundY (P := P) (pf := pf) (N := N) (anc := anc) (n0 := n0) (base := base) (K := K) hKf hfin hed hanc fuel (pre ++ post) L listed _ _ (ρ.free B ke) w a hlen' ?_ htree (sim_free hs hk0 (by omega) hBu hXB hhp hzr) hfr hd hx' hn0 hnx ?_
      · refine ⟨hr.size, fun j hj => ?_, fun it hit => hr.its it (hmem it hit), ?_, hr.dc⟩
        · rw [hr.un j hj]
          constructor
          · rintro ⟨it, h1, h2, h3⟩
            refine ⟨it, ?_, h2⟩
            have hj0 := h3 rfl
            rcases List.mem_append.1 h1 with h1 | h1
            · exact List.mem_append_left _ h1
            · rcases List.mem_cons.1 h1 with rfl | h1
              · exact absurd h2.symm hj0
              · exact List.mem_append_right _ h1
          · rintro ⟨it, h1, h2⟩
            exact ⟨it, hmem it h1, h2, fun _ e => hne it h1 (h2.trans e)⟩
        · refine ((List.Pairwise.and_mem.1 (hr.pw.sublist (List.Sublist.append (List.Sublist.refl _) (List.sublist_cons_self _ _)))).imp ?_)
          intro p x ⟨_, hxm, h1, h2, h3⟩
          refine ⟨?_, h2, h3⟩
          rcases h1 with h1 | h1 | ⟨h1, _⟩
          · exact .inl h1
          · exact .inr h1
          · exact absurd h1 (hne x hxm)
      · intro it hit'
        have hne' : it.2.2.1 ≠ ke := by rw [hidA it (hmem it hit'), hke]; have := hne it hit'; omega
        show (if it.2.2.1 = ke then RRef.at B 0 else ρ it.2.2.1) = _
        rw [if_neg hne']; exact hno it (hmem it hit')
    · simp [actIs] at hact
  intro fuel
  induction fuel with
  | zero =>
    intro rem L listed fr σ ρ w a hlen hr hmem h hs hf hd hx hn0 hnx hno hli hhp hBu hXX hsl hfu
    obtain ⟨pre, post, rfl⟩ := List.append_of_mem hmem
    have hp : pre = [] := by
      cases pre with
      | nil => rfl
      | cons _ _ => simp at hlen
    subst hp
    exact adopt 0 [] post L listed fr σ ρ w a hlen hr h hs hf hd hx hn0 hnx hno hhp hBu hXX hsl (fun q hq => by cases hq)
  | succ fuel ih =>
    intro rem L listed fr σ ρ w a hlen hr hmem h hs hf hd hx hn0 hnx hno hli hhp hBu hXX hsl hfu
    obtain ⟨preE, postE, hsplit⟩ := List.append_of_mem hmem
    by_cases hall : ∀ q ∈ preE, freeY q (ie, ⟨some d, none, .alloc z⟩, ke, 0)
    · subst hsplit
      exact adopt (fuel + 1) preE postE L listed fr σ ρ w a hlen hr h hs hf hd hx hn0 hnx hno hhp hBu hXX hsl hall
    have hpwE := hr.pw
    rw [hsplit] at hpwE
    obtain ⟨hppE, hxpE, hcrossE⟩ := List.pairwise_append.1 hpwE
    have hneE : ∀ it ∈ rem, it.1 = ie → it = (ie, (⟨some d, none, .alloc z⟩ : IOper), ke, 0) := fun it hit he => by
      rw [hsplit] at hit
      rcases List.mem_append.1 hit with h | h
      · exact absurd he (hcrossE it h _ (List.mem_cons_self ..)).2.1
      · rcases List.mem_cons.1 h with h | h
        · exact h
        · exact absurd he.symm ((List.pairwise_cons.1 hxpE).1 it h).2.1
    have hltR : ∀ it ∈ rem, it.1 < ops.size := fun it hit => by
      obtain ⟨o, ho, _⟩ := hr.its it hit
      rcases Nat.lt_or_ge it.1 ops.size with h' | h'
      · exact h'
      · simp [Array.getElem?_eq_none h'] at ho
    have hunl : ∀ it ∈ rem, it.1 ≠ ie → listed.getD it.1 false ≠ true := fun it hit he hL => by
      have := (hr.un it.1 (hltR it hit)).2 ⟨it, hit, rfl, fun _ => he⟩
      rw [getD_ft hL] at this
      cases this
    -- who bars the block
    obtain ⟨q, hq, hqe, hbar⟩ : ∃ q ∈ rem, q.1 ≠ ie ∧ barY anc q (ie, ⟨some d, none, .alloc z⟩, ke, 0) := by
      refine Classical.byContradiction fun hno' => hall fun q hq => ?_
      have hqm : q ∈ rem := by rw [hsplit]; exact List.mem_append_left _ hq
      obtain ⟨h1, h2, _⟩ := hcrossE q hq _ (List.mem_cons_self ..)
      rcases h1 with h1 | h1 | ⟨_, h1⟩
      · exact absurd (hr.dc _ hli _ h1) (hunl q hqm h2)
      · exact h1
      · exact absurd ⟨q, hqm, h2, h1⟩ hno'
    have hnanc : ∀ y, listed.getD y false = true ∨ True → (∀ o, ops[y]? = some o → ∀ e' ∈ o.after, Region.binds .any e' = true → listed.getD e'.on false = true) → (∃ o, ops[y]? = some o) → ¬ anc ie y := fun y _ hall' ⟨o, ho⟩ ha => by
      have hq1 := hbar.2.2 y ha
      obtain ⟨e', he', hb', heq⟩ := hanc _ _ hq1 o ho
      have hle := hall' o ho e' he' hb'
      rcases heq with heq | ha'
      · exact hunl q hq hqe (by rw [← heq]; exact hle)
      · exact hunl q hq hqe (hr.dc _ hle _ ha')
    refine ⟨fun hemp => ?_, fun i hi => ?_⟩
    · exfalso
      have hexF : ∃ it ∈ rem, it.1 ≠ ie ∧ ∀ jt ∈ rem, jt.1 ≠ ie → jt ≠ it → ∀ o, ops[it.1]? = some o → ∀ e' ∈ o.after, Region.binds .any e' = true → e'.on ≠ jt.1 := by
        cases preE with
        | nil => exact absurd (fun q hq => by cases hq) hall
        | cons it rest =>
          have hitm : it ∈ rem := by rw [hsplit]; simp
          refine ⟨it, hitm, (hcrossE it (by simp) _ (List.mem_cons_self ..)).2.1, fun jt hjt _ hne o ho e' he' hb' => ?_⟩
          have hpc := hr.pw
          rw [hsplit] at hpc hjt
          rcases List.mem_cons.1 hjt with h | h
          · exact absurd h hne
          · exact ((List.pairwise_cons.1 hpc).1 jt h).2.2 o ho e' he' hb'
      obtain ⟨it, hit, hite, hedge⟩ := hexF
      obtain ⟨o, ho, _⟩ := hr.its it hit
      have : it.1 ∈ Region.ready .any ops listed := by
        refine mem_ready.2 ⟨(hr.un _ (hltR it hit)).2 ⟨it, hit, rfl, fun _ => hite⟩, o, ho, fun e' he' hb' => ?_⟩
        obtain ⟨h1, h2⟩ := hed _ o ho e' he' hb'
        have hj : e'.on < listed.size := by rw [hr.size]; exact h1
        by_cases hL : listed.getD e'.on true = false
        · obtain ⟨jt, hjt, hje, hje2⟩ := (hr.un _ h1).1 hL
          by_cases hjit : jt = it
          · subst hjit; exact absurd hje.symm h2
          · exact absurd hje.symm (hedge jt hjt (fun e => hje2 rfl (hje ▸ e)) hjit o ho e' he' hb')
        · simp [hj] at hL ⊢; exact hL
      rw [hemp] at this
      cases this
    · obtain ⟨h0, o, ho, hallo⟩ := mem_ready.1 hi
      have hlt : i < ops.size := by rw [← hr.size]; exact getD_lt h0
      obtain ⟨it, hit, hieq, hie0⟩ := (hr.un i hlt).1 h0
      replace hie0 := hie0 rfl
      have hnai : ¬ anc ie i := hnanc i (.inr trivial) (fun o' ho' => by rw [ho] at ho'; cases ho'; exact hallo) ⟨o, ho⟩
      obtain ⟨pre, post, rfl⟩ := List.append_of_mem hit
      obtain ⟨ix, x, kx, mx⟩ := it
      simp only at hieq
      subst hieq
      obtain ⟨o', ho', hc, hkx, hqx⟩ := hr.its _ hit
      simp only at ho' hc hkx hqx
      rw [ho] at ho'
      cases ho'
      obtain ⟨hpp, hxp, hcross⟩ := List.pairwise_append.1 hr.pw
      have hcx := fun p hp => hcross p hp _ (List.mem_cons_self ..)
      have hfree : ∀ p ∈ pre, freeY p (ix, x, kx, mx) := fun p hp => by
        rcases (hcx p hp).1 with ha | hf | ⟨hb1, _⟩
        · exfalso
          by_cases hpe : p.1 = ie
          · exact hnai (hpe ▸ ha)
          · obtain ⟨e', he', hb', heq⟩ := hanc _ _ ha o ho
            have hle := hallo e' he' hb'
            have hpm : p ∈ pre ++ (ix, x, kx, mx) :: post := List.mem_append_left _ hp
            rcases heq with heq | ha'
            · exact hunl p hpm hpe (by rw [← heq]; exact hle)
            · exact hunl p hpm hpe (hr.dc _ hle _ ha')
        · exact hf
        · exact absurd hb1 hie0
      have hidp : ∀ p ∈ pre, p.2.2.1 = base + p.1 := fun p hp => by
        obtain ⟨_, _, _, h1, _⟩ := hr.its p (List.mem_append_left _ hp)
        exact h1
      have hpull := pullY (P := P) (E := E) (K := K) hKf (ix := ix) (x := x) (kx := kx) (mx := mx) (post := post) pre L fr σ hfree
        (fun p hp => ⟨by rw [hidp p hp, hkx]; have := (hcx p hp).2.1; omega, hs.noObj _ (hno p (List.mem_append_left _ hp))⟩)
        (by
          rw [List.nodup_iff_pairwise_ne, List.pairwise_map]
          refine (List.Pairwise.and_mem.1 hpp).imp ?_
          intro p q ⟨hp, hq, h1⟩
          rw [hidp p hp, hidp q hq]
          have := h1.2.1
          omega)
        (fun _ => hs.noObj _ (hno _ hit))
        (fun p hp _ y hy => IX.quiet_noRef (hqx y hy) hs hf (hno p (List.mem_append_left _ hp))) h
      obtain ⟨⟨fz, hk⟩, hdst, hdN, hg⟩ := cmpOper_dst hc
      have hidx : kx < σ.next ∧ n0 ≤ kx := by rw [hkx]; omega
      have hmemI : ∀ it ∈ pre ++ post, it ∈ pre ++ (ix, x, kx, mx) :: post := fun it h => by
        rcases List.mem_append.1 h with h | h
        · exact List.mem_append_left _ h
        · exact List.mem_append_right _ (List.mem_cons_of_mem _ h)
      have hne : ∀ it ∈ pre ++ post, it.1 ≠ ix := fun it h => by
        rcases List.mem_append.1 h with h | h
        · exact (hcx it h).2.1
        · exact fun e => ((List.pairwise_cons.1 hxp).1 it h).2.1 e.symm
      have hmemE : (ie, (⟨some d, none, .alloc z⟩ : IOper), ke, 0) ∈ pre ++ post := by
        rcases List.mem_append.1 hmem with h | h
        · exact List.mem_append_left _ h
        · rcases List.mem_cons.1 h with h | h
          · cases h; exact absurd rfl hie0
          · exact List.mem_append_right _ h
      have hxd : x.dst ≠ some d := by
        rcases List.mem_append.1 hmemE with h | h
        · exact fun hd' => ((hfree _ h).1.1 d hd').2 rfl
        · have hpx := (List.pairwise_cons.1 hxp).1 _ h
          rcases hpx.1 with ha | hf | ⟨_, hb⟩
          · exact absurd ha (hbar.2.1 _)
          · exact (hf.1.1 d rfl).2
          · exact (hb.1.1 d rfl).2
      have hrem : RemB P pf N ops anc base ie true (pre ++ post) (listed.setIfInBounds ix true) := by
        refine ⟨by simp [hr.size], fun j hj => ?_, fun it hit => hr.its it (hmemI it hit), ?_, ?_⟩
        · by_cases hji : j = ix
          · subst hji
            have : j < listed.size := by rw [hr.size]; exact hj
            constructor
            · intro h; simp [this] at h
            · rintro ⟨it, h1, h2, _⟩; exact absurd h2 (hne it h1)
          · rw [getD_set_ne true (Ne.symm hji), hr.un j hj]
            constructor
            · rintro ⟨it, h1, h2, h3⟩
              refine ⟨it, ?_, h2, h3⟩
              rcases List.mem_append.1 h1 with h1 | h1
              · exact List.mem_append_left _ h1
              · rcases List.mem_cons.1 h1 with rfl | h1
                · exact absurd h2.symm hji
                · exact List.mem_append_right _ h1
            · rintro ⟨it, h1, h2, h3⟩; exact ⟨it, hmemI it h1, h2, h3⟩
        · exact hr.pw.sublist (List.Sublist.append (List.Sublist.refl _) (List.sublist_cons_self _ _))
        · intro j hj k hk
          by_cases hji : j = ix
          · subst hji
            obtain ⟨e', he', hb', heq⟩ := hanc _ _ hk o ho
            have hle := hallo e' he' hb'
            rcases heq with rfl | ha'
            · exact getD_set_true hle
            · exact getD_set_true (hr.dc _ hle _ ha')
          · rw [getD_set_ne false (Ne.symm hji)] at hj
            exact getD_set_true (hr.dc _ hj _ hk)
      have hlen' : (pre ++ post).length = fuel + 1 := by simp at hlen ⊢; omega
      have hne2 : ∀ it ∈ pre ++ post, it.2.2.1 ≠ kx := fun it h => by
        obtain ⟨_, _, _, h1, _⟩ := hr.its it (hmemI it h)
        rw [h1, hkx]
        have := hne it h
        omega
      have hlie : (listed.setIfInBounds ix true).getD ie false = true := getD_set_true hli
      have slot : ∀ (a' : Act) (r : Value), a'.tmps.getD d undef = .pointer (some ⟨B, 0, none⟩) → (a'.put o.dst r).tmps.getD d undef = .pointer (some ⟨B, 0, none⟩) := fun a' r hh => by
        have hod : o.dst ≠ some d := by rw [← hdst]; exact hxd
        cases hdd : o.dst with
        | none => simpa [Act.put] using hh
        | some t =>
          have htd : t ≠ d := fun e => hod (by rw [hdd, e])
          simp only [Act.put]
          rw [Array.getD_eq_getD_getElem?] at hh ⊢
          rw [Array.getElem?_setIfInBounds, if_neg htd]
          exact hh
      have hfu' : ∀ v, (fr.setd x.dst v).get d = .undef := fun v => by rw [setd_get, if_neg hxd]; exact hfu
      have hnoR : ∀ (ρ' : Rho), (∀ i, i < σ.next → (x.op.lays = true → i ≠ kx) → ρ i = .no → ρ' i = .no) → ∀ jt ∈ pre ++ post, ρ' jt.2.2.1 = .no := fun ρ' hno' jt hjt => by
        obtain ⟨jo, hjo, _, h1, _⟩ := hr.its jt (hmemI jt hjt)
        have hjl := hltR jt (hmemI jt hjt)
        exact hno' _ (by rw [h1]; omega) (fun _ => hne2 jt hjt) (hno _ (hmemI jt hjt))
      unfold wpOpIn
      simp only [ho]
      have run : opR P E x.op kx fr σ (fun v σ' => chkL E L mx σ' ∧ treeY P E (pre ++ post) (addL E fr ix x.op v L) (fr.setd x.dst v) σ' K) → o.wpIn (fw ro) 0 P a w (wpAnyIn (fw ro) 0 P .any ops Qw fuel (listed.setIfInBounds ix true)) Qw := by
        intro hop
        refine op_sound hk hop hs hf (by omega) (fun hl => ⟨hno _ hit, hidx.1, hidx.2⟩) ?_
        intro v σ' r ρ' w' hnx' hK hs' hv' hx' hno'
        have hub : UB ρ w B := ⟨(Array.getElem?_eq_some_iff.1 hhp).1, hBu⟩
        refine ih (pre ++ post) _ _ _ σ' ρ' w' (a.put o.dst r) hlen' hrem hmemE hK.2 hs' ?_ (by rw [put_defers]; exact hd) (extW_with hx hx') hn0 (by omega) (hnoR ρ' hno') hlie (by rw [hx'.keep B hub]; exact hhp) (hx'.ub hub).2 (fun b => by rw [hx'.X]; exact hXX b) (slot a r hsl) (hfu' v)
        rw [hdst]; exact FR.setd (hf.mono hx') hdN hv'
      rcases hg with ⟨hg1, hg2⟩ | ⟨j, want, s, hg1, hgs, hg2⟩
      · have hw : Region.wanted o (yielded ops a.tmps) = true := by unfold Region.wanted; rw [hg1]
        rw [if_pos hw]
        rcases hpull with ⟨hact, hh⟩ | ⟨hact, hh⟩
        · exact run hh
        · simp [actIs, hg2] at hact
      · rcases hpull with ⟨hact, hh⟩ | ⟨hact, hh⟩
        · simp only [actIs, hg2] at hact
          have hw := guard_act hg1 hgs hf hact
          rw [hw]
          exact run hh
        · simp only [actIs, hg2] at hact
          have hw := guard_act hg1 hgs hf hact
          rw [hw]
          refine ⟨fun f _ => trivial, ?_⟩
          exact ih (pre ++ post) _ _ _ σ ρ w (a.put o.dst undef) hlen' hrem hmemE hh hs (by rw [hdst]; exact FR.setd hf hdN skV_vr) (by rw [put_defers]; exact hd) hx hn0 hnx (fun jt hjt => hno _ (hmemI jt hjt)) hlie hhp hBu hXX (slot a undef hsl) (hfu' skV)
end Go.Id
