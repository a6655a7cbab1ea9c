/- Codes, part by part; blocks let go at a call. Conditions: none; over any program. -/
import Derived.Test.YtlalbdanjnhjaaaGreatDoorFwZ
import Derived.Test.YtlalbdanjnhjaaaGreatDoorFwKa
set_option linter.all false
namespace Go.Id
open Go
variable {P : Program} {E : Nat → IV} {σ σ' : Store} {N n0 : Nat} {fr : Frm}

def thenR (P : Program) (E : Nat → IV) (N n0 : Nat) (b : IC) (Q : Exit → Frm → Store → Prop) : Exit → Frm → Store → Prop
  | .normal, fr, σ => RI P E N n0 b fr σ Q
  | e, fr, σ => Q e fr σ
theorem w_thn {b : IC} {Q : Exit → Frm → Store → Prop} : thenR P E N n0 b Q .normal fr σ = RI P E N n0 b fr σ Q := nr rfl
theorem w_thr {b : IC} {Q : Exit → Frm → Store → Prop} : thenR P E N n0 b Q .ret fr σ = Q .ret fr σ := nr rfl
theorem w_the {b : IC} {i : Nat} {Q : Exit → Frm → Store → Prop} : thenR P E N n0 b Q (.exit i) fr σ = Q (.exit i) fr σ := nr rfl
attribute [go_sem] w_thn w_thr w_the
theorem RI_wpT {x : IC} {Q : Exit → Frm → Store → Prop} (h : wpT noP noC P E N n0 x fr σ Q) : RI P E N n0 x fr σ Q := wpI_sound x fr σ Q (wpT_sound noT x fr σ Q h)
theorem RI_seqT {a b : IC} {Q : Exit → Frm → Store → Prop} (h : RI P E N n0 a fr σ (thenR P E N n0 b Q)) : RI P E N n0 (.seq a b) fr σ Q := by
  intro pf an c hc
  cases c with
  | seq x y =>
    simp only [cmpC] at hc
    split at hc
    · rename_i xa xb hx hy
      cases hc
      refine R_seq ((h pf an x hx).mono ?_)
      intro e f s q
      cases e with
      | normal => exact q pf an y hy
      | _ => exact q
    · cases hc
  | region id ops draw =>
    exfalso
    simp only [cmpC] at hc
    split at hc
    · cases hc
    · split at hc <;> cases hc
    · cases hc
  | cond c a b => simp only [cmpC] at hc; split at hc <;> cases hc
  | block id a => obtain ⟨_, _, h⟩ := map_some hc; cases h
  | loop a => obtain ⟨_, _, h⟩ := map_some hc; cases h
  | rangeFunc g ps a b =>
    simp only [cmpC] at hc
    split at hc
    · split at hc <;> cases hc
    · cases hc
  | _ => cases hc
theorem C_RIf {f : Nat} {ic : IC} {irs : List IR} {args : List IV} {Qc : IV → Store → Prop} (hf : FOK P f (N, ic, irs)) (hl : args.length ≤ N)
    (h : RI P E N σ.next ic (argFr args 0) σ (funT irs Qc)) : C P E f args σ Qc := by
  obtain ⟨_, pf, an, fn, h1, h2, h3, h4⟩ := hf
  cases hb : fn.body with
  | none => rw [hb] at h3; cases h3
  | some c =>
    rw [hb] at h3
    refine C_fun h1 hb h2 hl ((h pf an c h3).mono ?_)
    intro e fr' σ' q
    have q := funT_sound q
    cases e <;> first | (obtain ⟨vs, q1, q2⟩ := q; exact ⟨vs, by rw [irL_eq _ _ h4]; exact q1, q2⟩) | exact q
theorem PC_RI {f : Nat} {ic : IC} {irs : List IR} {args : List IV} {v : IV} (hE : ∀ g, Bnd 0 (E g)) (hf : FOK P f (N, ic, irs)) (hl : args.length ≤ N) (ha : ∀ a ∈ args, Bnd 0 a)
    (h : RI P E N 0 ic (argFr args 0) emp (funT irs fun v' σ' => FrzN σ' 0 v' v)) : PC P E f args v :=
  PC_empty hE ha (C_RIf (σ := emp) hf hl h)

/-- A call on rows that are let go, or that are nil. -/
theorem call_kill (S : Nat → Bool) {f : Nat} {e : FE} {args args' : List IV} {v : IV} {K : IV → Store → Prop} (hf : FOK P f e) (ha : FrzL σ (fun i => S i = true) args args') (h : PC P E f args' v) (hk : K v (σ.kills S)) : callT P E none f args σ K := by
  refine call_c hf (C_kill (Q := oneQ v (σ.kills S)) ha.at.1 ha.at.2 (h _)) ?_
  rintro v' s ⟨rfl, rfl⟩
  exact ⟨Nat.le_refl _, hk⟩
theorem kills_next {S : Nat → Bool} : (σ.kills S).next = σ.next := nr rfl
theorem kills_obj {S : Nat → Bool} {i : Nat} : (σ.kills S).obj i = if S i = true then σ.obj i else none := nr rfl
attribute [go_sem] kills_next kills_obj
/-- The rest of a code, by its run, from a store in which nothing is known. -/
theorem RI_run {T : Tab} (hT : TabOK P E T) (hE : ∀ g, Bnd 0 (E g)) {fz : Nat → List Nat} {lf d nx : Nat} {ic : IC} {Q : Exit → Frm → Store → Prop} {e : XE} {f' : Frm} (hσ : ∀ i, σ.obj i = none) (hn : nx = σ.next)
    (h : (icK (runK T E lf d) E fz N lf ic fr ⟨nx, .e⟩).map (fun o => (o.1, o.2.1)) = some (e, f')) (hq : ∀ s, Q e.ex f' s) : RI P E N n0 ic fr σ Q := by
  obtain ⟨out, ho, he⟩ := map_some h
  rw [icK_eq, runK_eq] at ho
  refine RI_mono (icX_sound (runX_sound hT hE d) ic (fun _ _ _ => default) fr ⟨nx, .e⟩ σ n0 out ⟨hn, fun i => by rw [hσ i]; rfl⟩ ho) ?_
  rintro e2 f2 s2 ⟨rfl, rfl, _⟩
  cases he
  exact hq s2
/-- Trees with nil rows are trees with empty rows. -/
theorem PC_weak {f : Nat} {args args' : List IV} {v : IV} (hl : args'.length = args.length) (ha : ∀ σ i, i < args.length → Frz σ (fun _ => true = true) (args.getD i .undef) (args'.getD i .undef)) (h : PC P E f args' v) : PC P E f args v := fun σ =>
  C_kill (S := fun _ => true) hl (ha σ) (h σ)
end Go.Id
namespace Go.Id
open Go
variable {P : Program} {E : Nat → IV} {σ σ' : Store} {N n0 : Nat} {fr : Frm}
/-- The parts ahead, by their run. -/
noncomputable def preRun (rd : RD) (E : Nat → IV) (fz : Nat → List Nat) (N lf : Nat) : List IC → Frm → XSt → Option (Frm × XSt)
  | [], fr, xs => some (fr, xs)
  | c :: cs, fr, xs => match icK rd E fz N lf c fr xs with
    | some (.normal, f, s) => preRun rd E fz N lf cs f s
    | _ => none
theorem RI_pre {T : Tab} (hT : TabOK P E T) (hE : ∀ g, Bnd 0 (E g)) {fz : Nat → List Nat} {lf d : Nat} {Λ : Lam} {b : IC} {Q : Exit → Frm → Store → Prop} : ∀ (l : List IC) (fr f' : Frm) (xs xs' : XSt) (σ : Store), XR P E Λ xs σ →
    preRun (runK T E lf d) E fz N lf l fr xs = some (f', xs') → (∀ s, XR P E Λ xs' s → RI P E N n0 b f' s Q) → RI P E N n0 (l.foldr .seq b) fr σ Q := by
  intro l
  induction l with
  | nil => intro fr f' xs xs' σ hx h hq; cases h; exact hq _ hx
  | cons c cs ih =>
    intro fr f' xs xs' σ hx h hq
    simp only [preRun] at h
    split at h
    · rename_i f s hc
      rw [icK_eq, runK_eq] at hc
      refine RI_seqT (RI_mono (icX_sound (runX_sound hT hE d) c Λ fr xs σ n0 _ hx hc) ?_)
      rintro e2 f2 s2 ⟨rfl, rfl, h3⟩
      exact ih _ _ _ _ _ h3 h hq
    · cases h
theorem RI_pre0 {T : Tab} (hT : TabOK P E T) (hE : ∀ g, Bnd 0 (E g)) {fz : Nat → List Nat} {lf d nx : Nat} {l : List IC} {b : IC} {Q : Exit → Frm → Store → Prop} {f' : Frm}
    (h : (preRun (runK T E lf d) E fz N lf l fr ⟨0, .e⟩).map (fun o => (o.1, o.2.next)) = some (f', nx)) (hq : ∀ s, s.next = nx → RI P E N n0 b f' s Q) : RI P E N n0 (l.foldr .seq b) fr emp Q := by
  obtain ⟨o, ho, he⟩ := map_some h
  refine RI_pre hT hE (Λ := fun _ _ _ => default) l _ o.1 _ o.2 _ XR_empty ho fun s hs => ?_
  cases he
  exact hq s hs.next.symm
end Go.Id
