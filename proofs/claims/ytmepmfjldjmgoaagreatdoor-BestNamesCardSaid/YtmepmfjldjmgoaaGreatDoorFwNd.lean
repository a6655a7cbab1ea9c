/- Running codes where several outcomes are open (a map that is ranged over): all of them. Conditions: none; over any program. -/
import Derived.Test.YtmepmfjldjmgoaaGreatDoorFwTf
set_option linter.all false
namespace Go.Id
open Go
variable {P : Program} {E : Nat → IV} {σ σ' : Store} {N n n0 : Nat} {fr : Frm} {rd : RD} {Λ : Lam} {xs xs' : XSt}
def bindL {α β : Type} (f : α → Option (List β)) : List α → Option (List β)
  | [] => some []
  | a :: as => match f a with
    | some x => match bindL f as with
      | some y => some (x ++ y)
      | none => none
    | none => none
theorem bindL_spec {α β : Type} {f : α → Option (List β)} : ∀ (l : List α) (r : List β), bindL f l = some r → ∀ a ∈ l, ∃ x, f a = some x ∧ ∀ b ∈ x, b ∈ r := by
  intro l
  induction l with
  | nil => intro r _ a ha; cases ha
  | cons c l ih =>
    intro r h a ha
    simp only [bindL] at h
    split at h
    · rename_i x hx
      split at h
      · rename_i y hy
        cases h
        rcases List.mem_cons.1 ha with rfl | ha
        · exact ⟨x, hx, fun b hb => List.mem_append_left _ hb⟩
        · obtain ⟨z, h1, h2⟩ := ih y hy a ha
          exact ⟨z, h1, fun b hb => List.mem_append_right _ (h2 b hb)⟩
      · cases h
    · cases h
def pickL (xs : XSt) (i : Nat) (l : List (IV × IV)) : Nat → Option (List (IV × XSt))
  | 0 => some []
  | j + 1 => match xs.put i (some (.o (.miter (l.eraseIdx j) (some (l.getD j (.undef, .undef)))))) with
    | some s => match pickL xs i l j with
      | some r => some ((.tuple [.bool true, (l.getD j (.undef, .undef)).1, (l.getD j (.undef, .undef)).2], s) :: r)
      | none => none
    | none => none
theorem pickL_spec {i : Nat} {l : List (IV × IV)} : ∀ (m : Nat) (r : List (IV × XSt)), pickL xs i l m = some r → ∀ j, j < m → ∃ s, xs.put i (some (.o (.miter (l.eraseIdx j) (some (l.getD j (.undef, .undef)))))) = some s ∧ (.tuple [.bool true, (l.getD j (.undef, .undef)).1, (l.getD j (.undef, .undef)).2], s) ∈ r := by
  intro m
  induction m with
  | zero => intro r _ j hj; exact absurd hj (Nat.not_lt_zero _)
  | succ m ih =>
    intro r h j hj
    simp only [pickL] at h
    split at h
    · rename_i s hs
      split at h
      · rename_i r' hr
        cases h
        by_cases e : j = m
        · subst e; exact ⟨s, hs, List.mem_cons_self ..⟩
        · obtain ⟨s', h1, h2⟩ := ih r' hr j (by omega)
          exact ⟨s', h1, List.mem_cons_of_mem _ h2⟩
      · cases h
    · cases h
def opL (rd : RD) (E : Nat → IV) (op : IK) (id : Nat) (fr : Frm) (xs : XSt) : Option (List (IV × XSt)) :=
  match op with
  | .mnext x => match mnextI xs.st (x.ev E fr) with
    | some (i, l) => match l with
      | [] => some [(.tuple [.bool false], xs)]
      | e :: es => pickL xs i (e :: es) (e :: es).length
    | none => none
  | op => match opX rd E op id fr xs with
    | some r => some [r]
    | none => none
theorem opL_sound (hrd : RDok P E rd) {op : IK} {id : Nat} {rs : List (IV × XSt)} {K : IV → Store → Prop} (hx : XR P E Λ xs σ) (h : opL rd E op id fr xs = some rs) (hK : ∀ r ∈ rs, ∀ s, XR P E Λ r.2 s → K r.1 s) : opR P E op id fr σ K := by
  have plain : (match opX rd E op id fr xs with | some r => some [r] | none => none) = some rs → opR P E op id fr σ K := by
    intro h
    split at h
    · rename_i r hr
      cases h
      exact opX_sound hrd hx hr (hK r (List.mem_cons_self ..))
    · cases h
  cases op with
  | mnext x =>
    have mn : ∀ {i l}, mnextI xs.st (x.ev E fr) = some (i, l) → mnextI σ (x.ev E fr) = some (i, l) := fun {i l} h => by
      unfold mnextI at h ⊢
      split at h
      · split at h
        · rename_i l' hl; rw [hx.le _ _ hl]; exact h
        · cases h
      · cases h
    simp only [opL] at h
    split at h
    · rename_i i l hm
      cases l with
      | nil =>
        cases h
        exact ⟨i, [], mn hm, fun _ => hK _ (List.mem_cons_self ..) σ hx, fun j hj => absurd hj (Nat.not_lt_zero _)⟩
      | cons a l =>
        refine ⟨i, a :: l, mn hm, (fun e => by cases e), fun j hj => ?_⟩
        obtain ⟨s, h1, h2⟩ := pickL_spec _ _ h j hj
        exact hK _ h2 _ (hx.put h1)
    · cases h
  | _ => exact plain h
def regL (rd : RD) (E : Nat → IV) : List IOper → Nat → Frm → XSt → Option (List (Frm × XSt))
  | [], _, fr, xs => some [(fr, xs)]
  | o :: rest, id, fr, xs =>
    match actIs o fr with
    | some true => match opL rd E o.op id fr xs with
      | some rs => bindL (fun r => regL rd E rest (bif o.op.lays then id + 1 else id) (fr.setd o.dst r.1) r.2) rs
      | none => none
    | some false => regL rd E rest (bif o.op.lays then id + 1 else id) (fr.setd o.dst skV) xs
    | none => none
theorem regL_sound (hrd : RDok P E rd) : ∀ (ops : List IOper) (id : Nat) (fr : Frm) (xs : XSt) (σ : Store) (rs : List (Frm × XSt)) (K : Frm → Store → Prop), XR P E Λ xs σ → regL rd E ops id fr xs = some rs → (∀ r ∈ rs, ∀ s, XR P E Λ r.2 s → K r.1 s) → ropsR P E ops id fr σ K := by
  intro ops
  induction ops with
  | nil => intro id fr xs σ rs K hx h hK; cases h; exact hK _ (List.mem_cons_self ..) σ hx
  | cons o os ih =>
    intro id fr xs σ rs K hx h hK
    have hl : (bif o.op.lays then id + 1 else id) = if o.op.lays = true then id + 1 else id := by cases o.op.lays <;> rfl
    simp only [regL, hl] at h
    simp only [ropsR]
    split at h
    · rename_i ha
      refine ⟨true, ha, ?_⟩
      rw [if_pos rfl]
      split at h
      · rename_i rs1 ho
        refine opL_sound hrd hx ho fun r hr s' hs' => ?_
        obtain ⟨x, h1, h2⟩ := bindL_spec _ _ h r hr
        exact ih _ _ _ _ _ _ hs' h1 fun q hq => hK q (h2 q hq)
      · cases h
    · rename_i ha
      refine ⟨false, ha, ?_⟩
      rw [if_neg (by simp)]
      exact ih _ _ _ _ _ _ hx h hK
    · cases h
abbrev Outs := List (XE × Frm × XSt)
def loopL (step : Frm → XSt → Option Outs) : Nat → Frm → XSt → Option Outs
  | 0, _, _ => none
  | n + 1, fr, xs => match step fr xs with
    | some l => bindL (fun o => match o with
      | (.normal, f, x) => loopL step n f x
      | o => some [o]) l
    | none => none
def icL (rd : RD) (E : Nat → IV) (N lf : Nat) : IC → Frm → XSt → Option Outs
  | .skip, fr, xs => some [(.normal, fr, xs)]
  | .reg _ ops keep, fr, xs => match regL rd E ops xs.next fr ⟨xs.next + laysN ops, xs.t⟩ with
    | some rs => some (rs.map fun r => (.normal, r.1.keep keep, r.2))
    | none => none
  | .dreg _ ops B keep, fr, xs => match treeXX rd E B ops xs.next fr ⟨xs.next + ops.length, xs.t⟩ with
    | some (fr', xs') => some [(.normal, fr'.keep keep, xs')]
    | none => none
  | .oreg _ ops keep, fr, xs => match treeYX rd E xs.next ops [] fr ⟨xs.next + ops.length, xs.t⟩ with
    | some (fr', xs') => some [(.normal, fr'.keep keep, xs')]
    | none => none
  | .seq a b, fr, xs => match icL rd E N lf a fr xs with
    | some l => bindL (fun o => match o with
      | (.normal, f, x) => icL rd E N lf b f x
      | o => some [o]) l
    | none => none
  | .cond x a b, fr, xs => match x.ev E fr with
    | .bool true => icL rd E N lf a fr xs
    | .bool false => icL rd E N lf b fr xs
    | _ => none
  | .block i a, fr, xs => match icL rd E N lf a fr xs with
    | some l => some (l.map fun o => match o with
      | (.exit j, f, x) => bif Nat.beq j i then (.normal, f, x) else (.exit j, f, x)
      | o => o)
    | none => none
  | .loop a, fr, xs => loopL (icL rd E N lf a) lf fr xs
  | .exit i, fr, xs => some [(.exit i, fr, xs)]
  | .ret, fr, xs => some [(.ret, fr, xs)]
  | .rfunc _ _ _ _, _, _ => none
  | .scope _, _, _ => none
def outL (P : Program) (E : Nat → IV) (Λ : Lam) (outs : Outs) : Exit → Frm → Store → Prop := fun e f s => ∃ o ∈ outs, outQ P E Λ o e f s
theorem icL_sound (hrd : RDok P E rd) {lf : Nat} : ∀ (ic : IC) (Λ : Lam) (fr : Frm) (xs : XSt) (σ : Store) (n0 : Nat) (outs : Outs), XR P E Λ xs σ → icL rd E N lf ic fr xs = some outs → RI P E N n0 ic fr σ (outL P E Λ outs) := by
  intro ic
  induction ic with
  | skip => intro Λ fr xs σ n0 outs hx h; cases h; exact RI_wp ⟨_, List.mem_cons_self .., rfl, rfl, hx⟩
  | exit i => intro Λ fr xs σ n0 outs hx h; cases h; exact RI_wp ⟨_, List.mem_cons_self .., rfl, rfl, hx⟩
  | ret => intro Λ fr xs σ n0 outs hx h; cases h; exact RI_wp ⟨_, List.mem_cons_self .., rfl, rfl, hx⟩
  | reg i ops keep =>
    intro Λ fr xs σ n0 outs hx h
    simp only [icL] at h
    split at h
    · rename_i rs hr
      cases h
      refine RI_wp ?_
      have hx' : XR P E Λ ⟨xs.next + laysN ops, xs.t⟩ { σ with next := σ.next + laysN ops } := ⟨by show xs.next + laysN ops = σ.next + laysN ops; rw [hx.next], hx.obj⟩
      rw [hx.next] at hr hx'
      exact regL_sound hrd ops _ _ _ _ _ _ hx' hr fun r hr s hs => ⟨_, List.mem_map.2 ⟨r, hr, rfl⟩, rfl, rfl, hs⟩
    · cases h
  | dreg i ops B keep =>
    intro Λ fr xs σ n0 outs hx h
    simp only [icL] at h
    split at h
    · rename_i fr' xs' hr
      cases h
      refine RI_wp ?_
      have hx' : XR P E Λ ⟨xs.next + ops.length, xs.t⟩ { σ with next := σ.next + ops.length } := ⟨by show xs.next + ops.length = σ.next + ops.length; rw [hx.next], hx.obj⟩
      rw [hx.next] at hr hx'
      exact treeXX_sound hrd ops 0 _ _ _ _ _ hx' hr fun s hs => ⟨_, List.mem_cons_self .., rfl, rfl, hs⟩
    · cases h
  | oreg i ops keep =>
    intro Λ fr xs σ n0 outs hx h
    simp only [icL] at h
    split at h
    · rename_i fr' xs' hr
      cases h
      refine RI_wp ?_
      have hx' : XR P E Λ ⟨xs.next + ops.length, xs.t⟩ { σ with next := σ.next + ops.length } := ⟨by show xs.next + ops.length = σ.next + ops.length; rw [hx.next], hx.obj⟩
      rw [hx.next] at hr hx'
      exact treeYX_sound hrd ops [] _ _ _ _ _ hx' hr fun s hs => ⟨_, List.mem_cons_self .., rfl, rfl, hs⟩
    · cases h
  | seq a b iha ihb =>
    intro Λ fr xs σ n0 outs hx h
    simp only [icL] at h
    split at h
    · rename_i l ha
      refine RI_seq (RI_mono (iha Λ fr xs σ n0 _ hx ha) ?_)
      rintro e f s ⟨⟨oe, of, ox⟩, ho, h1, h2, h3⟩
      simp only at h1 h2 h3
      subst h1; subst h2
      obtain ⟨x, g1, g2⟩ := bindL_spec _ _ h _ ho
      cases oe with
      | normal => exact RI_mono (ihb Λ _ _ _ n0 _ h3 g1) fun e f s ⟨o, q1, q2⟩ => ⟨o, g2 o q1, q2⟩
      | exit i => cases g1; exact ⟨_, g2 _ (List.mem_cons_self ..), rfl, rfl, h3⟩
      | ret => cases g1; exact ⟨_, g2 _ (List.mem_cons_self ..), rfl, rfl, h3⟩
    · cases h
  | cond x a b iha ihb =>
    intro Λ fr xs σ n0 outs hx h
    simp only [icL] at h
    split at h
    · rename_i he; exact RI_cond he (iha Λ fr xs σ n0 outs hx h)
    · rename_i he; exact RI_cond he (ihb Λ fr xs σ n0 outs hx h)
    · cases h
  | block i a iha =>
    intro Λ fr xs σ n0 outs hx h
    simp only [icL] at h
    split at h
    · rename_i l ha
      cases h
      refine RI_block (RI_mono (iha Λ fr xs σ n0 _ hx ha) ?_)
      rintro e f s ⟨⟨oe, of, ox⟩, ho, h1, h2, h3⟩
      simp only at h1 h2 h3
      subst h1; subst h2
      cases oe with
      | normal => exact ⟨_, List.mem_map.2 ⟨_, ho, rfl⟩, rfl, rfl, h3⟩
      | ret => exact ⟨_, List.mem_map.2 ⟨_, ho, rfl⟩, rfl, rfl, h3⟩
      | exit j =>
        simp only [XE.ex, blockQ]
        by_cases hj : j = i
        · rw [if_pos hj]
          refine ⟨(.normal, f, ox), List.mem_map.2 ⟨_, ho, ?_⟩, rfl, rfl, h3⟩
          simp only [cond_beq, if_pos hj]
        · rw [if_neg hj]
          refine ⟨(.exit j, f, ox), List.mem_map.2 ⟨_, ho, ?_⟩, rfl, rfl, h3⟩
          simp only [cond_beq, if_neg hj]
    · cases h
  | loop a iha =>
    intro Λ fr xs σ n0 outs hx h
    refine RI_loopR (fun m f s => ∃ x1 l, XR P E Λ x1 s ∧ loopL (icL rd E N lf a) m f x1 = some l ∧ ∀ o ∈ l, o ∈ outs) lf ⟨xs, outs, hx, h, fun _ h => h⟩ ?_
    rintro m f s ⟨x1, l, hx1, hm, hl⟩
    cases m with
    | zero => cases hm
    | succ m =>
      simp only [loopL] at hm
      split at hm
      · rename_i l1 ha
        refine RI_mono (iha Λ f x1 s n0 _ hx1 ha) ?_
        rintro e f' s' ⟨⟨oe, of, ox⟩, ho, h1, h2, h3⟩
        simp only at h1 h2 h3
        subst h1; subst h2
        obtain ⟨x, g1, g2⟩ := bindL_spec _ _ hm _ ho
        cases oe with
        | normal => exact ⟨m, Nat.lt_succ_self _, ox, x, h3, g1, fun o ho => hl o (g2 o ho)⟩
        | exit i => cases g1; exact ⟨_, hl _ (g2 _ (List.mem_cons_self ..)), rfl, rfl, h3⟩
        | ret => cases g1; exact ⟨_, hl _ (g2 _ (List.mem_cons_self ..)), rfl, rfl, h3⟩
      · cases hm
  | rfunc g ps y a _ _ => intro Λ fr xs σ n0 outs hx h; cases h
  | scope a _ => intro Λ fr xs σ n0 outs hx h; cases h
def ansL (irs : List IR) (v : IV) : Outs → Bool
  | [] => true
  | (e, fr, s) :: os => (match e with
    | .exit _ => false
    | _ => match irL s.st fr irs with
      | some vs => match frzX s 1000 (resV vs) with
        | some u => ivEq2 1000 u v
        | none => false
      | none => false) && ansL irs v os
theorem ansL_spec {irs : List IR} {v : IV} : ∀ (outs : Outs), ansL irs v outs = true → ∀ o ∈ outs, (∀ i, o.1 ≠ .exit i) ∧ ∃ vs, irL o.2.2.st o.2.1 irs = some vs ∧ frzX o.2.2 1000 (resV vs) = some v := by
  intro outs
  induction outs with
  | nil => intro _ o ho; cases ho
  | cons a os ih =>
    intro h o ho
    obtain ⟨e, fr, s⟩ := a
    simp only [ansL, Bool.and_eq_true] at h
    rcases List.mem_cons.1 ho with rfl | ho
    · have h1 := h.1
      split at h1
      · cases h1
      · rename_i hne
        refine ⟨fun i => hne i, ?_⟩
        split at h1
        · rename_i vs hv
          split at h1
          · rename_i u hu
            exact ⟨vs, hv, by rw [hu, ivEq2_eq _ _ _ h1]⟩
          · cases h1
        · cases h1
    · exact ih h.2 o ho
def runL (rd : RD) (T : Tab) (E : Nat → IV) (lf k : Nat) (args : List IV) : Option IV :=
  match T.fn k with
  | some e => if args.length ≤ e.1 ∧ args.all (closedN 1000) = true then
      match icL rd E e.1 lf e.2.1 (argFr args 0) ⟨0, .e⟩ with
      | some ((.exit _, _, _) :: _) => none
      | some ((e1, fr, s) :: os) => match irL s.st fr e.2.2 with
        | some vs => match frzX s 1000 (resV vs) with
          | some v => if ansL e.2.2 v ((e1, fr, s) :: os) = true then some v else none
          | none => none
        | none => none
      | _ => none
    else none
  | none => none
theorem runL_sound {T : Tab} (hT : TabOK P E T) (hE : ∀ g, Bnd 0 (E g)) (hrd : RDok P E rd) {lf k : Nat} {args : List IV} {v : IV} (h : runL rd T E lf k args = some v) : okF P k = true ∧ PC P E k args v := by
  unfold runL at h
  split at h
  · rename_i e he
    obtain ⟨hok, pf, an, hf⟩ := hT.fn k e.1 e.2.1 e.2.2 he
    split at h
    · rename_i hc
      have fin : ∀ outs, icL rd E e.1 lf e.2.1 (argFr args 0) ⟨0, .e⟩ = some outs → ansL e.2.2 v outs = true → okF P k = true ∧ PC P E k args v := by
        intro outs ho ha
        refine ⟨hok, PC_empty hE (fun a h => closedN_bnd _ _ (List.all_eq_true.1 hc.2 a h)) (C_RI hf hc.1 (RI_mono (icL_sound hrd _ (fun _ _ _ => default) _ _ _ _ _ XR_empty ho) ?_))⟩
        rintro ex f s ⟨o, hm, h1, h2, h3⟩
        obtain ⟨g1, vs, g2, g3⟩ := ansL_spec _ ha o hm
        obtain ⟨oe, of, ox⟩ := o
        simp only at h1 h2 h3 g1 g2 g3
        subst h1; subst h2
        cases oe with
        | exit i => exact absurd rfl (g1 i)
        | normal => exact ⟨vs, irL_le _ _ h3.le g2, frzX_sound h3 _ _ _ g3⟩
        | ret => exact ⟨vs, irL_le _ _ h3.le g2, frzX_sound h3 _ _ _ g3⟩
      split at h
      · cases h
      · rename_i e1 fr s os _ ho
        split at h
        · rename_i vs hv
          split at h
          · rename_i u hu
            split at h
            · rename_i ha; cases h; exact fin _ ho ha
            · cases h
          · cases h
        · cases h
      · cases h
    · cases h
  · cases h
end Go.Id
