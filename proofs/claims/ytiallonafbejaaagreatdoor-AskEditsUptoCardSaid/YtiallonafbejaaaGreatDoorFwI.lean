/- Codes compiled,and what is asked of them,as one proposition. Conditions: none; over any program. -/
import Derived.Test.YtiallonafbejaaaGreatDoorFwNb
set_option linter.all false
namespace Go.Id
open Go
variable {P : Program} {w w' w'' : World} {ρ ρ' ρ'' : Rho} {E : Nat→IV} {σ σ' : Store} {N n n' : Nat} {fr : Frm} {a : Act} {pf : List Nat}
inductive IC where
 | skip
 | reg (id : Nat) (ops : List IOper) (keep : List Nat)
 | dreg (id : Nat) (ops : List IOper) (B : Bool) (keep : List Nat)
 | oreg (id : Nat) (ops : List YO) (keep : List Nat)
 | seq (a b : IC)
 | cond (x : IX) (a b : IC)
 | block (id : Nat) (a : IC)
 | loop (a : IC)
 | exit (id : Nat)
 | ret
 | rfunc (g : IX) (ps : List Nat) (asg a : IC)
 | scope (a : IC)
 deriving Inhabited
abbrev Ann:=List (Nat × List Nat)
abbrev nevC : IC:=.reg 0 [⟨none,none,.st .nev []⟩] []
def cmpC (P : Program) (pf : List Nat) (N : Nat) (an : Ann) : Code→Option IC
 | .skip => some .skip
 | .label _ => some .skip
 | .region id ops draw => match draw,cmpOps P pf N ops ops.toList with
  | false,some ios => some (.reg id ios ((an.lookup id).getD []))
  | true,some ios => if P.follows .mixedOrders=true∧drOK (ops.toList.map edgesOf) ios (hasApp ios)=true∧(pf.contains 2000000 && hasApp ios)=false then some (.dreg id ios (hasApp ios) ((an.lookup id).getD [])) else
   if P.follows .mixedOrders=true∧yOK (ops.toList.map edgesOf) ios (planY (ops.toList.map edgesOf) ios)=true then some (.oreg id (rowY ios (planY (ops.toList.map edgesOf) ios)) ((an.lookup id).getD [])) else some nevC
  | _,_ => some nevC
 | .seq a b => match cmpC P pf N an a,cmpC P pf N an b with
  | some x,some y => some (.seq x y)
  | _,_ => none
 | .cond c a b => match cmpX c,cmpC P pf N an a,cmpC P pf N an b with
  | some i,some x,some y => some (.cond i x y)
  | _,_,_ => some nevC
 | .block id a => (cmpC P pf N an a).map (.block id)
 | .loop a => (cmpC P pf N an a).map .loop
 | .exit id => some (.exit id)
 | .ret => some .ret
 | .rangeFunc g ps assign body => match cmpC P pf N an assign,cmpX g,cmpC P pf N an body with
  | some y,some i,some x => if ps.toList.all (fun p => decide (p < N)) then some (.rfunc i ps.toList y x) else some nevC
  | _,_,_ => some nevC
 | .scope a => (cmpC P pf N an a).map .scope
 | _ => some nevC
def RI (P : Program) (E : Nat→IV) (N n0 : Nat) (ic : IC) (fr : Frm) (σ : Store) (Q : Exit→Frm→Store→Prop) : Prop :=
 ∀ (pf : List Nat) (an : Ann) (c : Code),cmpC P pf N an c=some ic→R P E N n0 c fr σ Q
def wpI (P : Program) (E : Nat→IV) (N n0 : Nat) : IC→Frm→Store→(Exit→Frm→Store→Prop)→Prop
 | .skip,fr,σ,Q => Q .normal fr σ
 | .reg _ ops keep,fr,σ,Q => ropsR P E ops σ.next fr { σ with next:=σ.next+laysN ops } (fun fr' σ' => Q .normal (fr'.keep keep) σ')
 | .dreg _ ops B keep,fr,σ,Q => treeX P E B (numb σ.next 0 ops) fr { σ with next:=σ.next+ops.length } (fun fr' σ' => Q .normal (fr'.keep keep) σ')
 | .oreg _ ops keep,fr,σ,Q => treeY P E (idsY σ.next ops) [] fr { σ with next:=σ.next+ops.length } (fun fr' σ' => Q .normal (fr'.keep keep) σ')
 | .seq a b,fr,σ,Q => wpI P E N n0 a fr σ (fun e fr' σ' => match e with | .normal => wpI P E N n0 b fr' σ' Q | e => Q e fr' σ')
 | .cond x a b,fr,σ,Q => ∃ t,x.ev E fr=.bool t∧if t then wpI P E N n0 a fr σ Q else wpI P E N n0 b fr σ Q
 | .block id a,fr,σ,Q => wpI P E N n0 a fr σ (blockQ id Q)
 | .loop a,fr,σ,Q => RI P E N n0 (.loop a) fr σ Q
 | .exit id,fr,σ,Q => Q (.exit id) fr σ
 | .ret,fr,σ,Q => Q .ret fr σ
 | .rfunc g ps y a,fr,σ,Q => RI P E N n0 (.rfunc g ps y a) fr σ Q
 | .scope a,fr,σ,Q => wpI P E N n0 a fr σ (scopeQ Q)
theorem R_after {n0 : Nat} {c : Code} {ks : List Nat} {Q : Exit→Frm→Store→Prop} (h : R P E N n0 c fr σ (fun e fr' σ' => Q e (fr'.keep ks) σ')) : R P E N n0 c fr σ Q :=
 fun hn ro h0 ρ w a hs hf hd hr => wpIn_mono (h hn ro h0 ρ w a hs hf hd hr) fun _ _ _ ⟨fr',σ',ρ',hn',q,hs',hf',rest⟩ => ⟨fr'.keep ks,σ',ρ',hn',q,hs',hf'.keep ks,rest⟩
theorem nev_false {n0 : Nat} {Q : Exit→Frm→Store→Prop} (h : wpI P E N n0 nevC fr σ Q) : False:=by
 obtain ⟨act,ha,h⟩:=h
 cases ha
 obtain ⟨r,hr,_⟩:=h
 cases hr
theorem wpI_code {n0 : Nat} {an : Ann} : ∀ (c : Code) (ic : IC) (fr : Frm) (σ : Store) (Q : Exit→Frm→Store→Prop),cmpC P pf N an c=some ic→wpI P E N n0 ic fr σ Q→R P E N n0 c fr σ Q:=by
 intro c
 induction c with
 | skip => intro ic fr σ Q hc h; cases hc; exact R_skip h
 | label l => intro ic fr σ Q hc h; cases hc; exact R_label h
 | region id ops draw =>
  intro ic fr σ Q hc h
  simp only [cmpC] at hc
  split at hc
  ·rename_i ios hios
   cases hc
   exact R_after (R_region (Q:=fun e fr' σ' => Q e (fr'.keep _) σ') hios h)
  ·rename_i ios hios
   by_cases hok : P.follows .mixedOrders=true∧drOK (ops.toList.map edgesOf) ios (hasApp ios)=true∧(pf.contains 2000000 && hasApp ios)=false
   ·rw [if_pos hok] at hc
    cases hc
    exact R_dregion hok.1 hios hok.2.1 h
   ·rw [if_neg hok] at hc
    by_cases hoy : P.follows .mixedOrders=true∧yOK (ops.toList.map edgesOf) ios (planY (ops.toList.map edgesOf) ios)=true
    ·rw [if_pos hoy] at hc
     cases hc
     have hl : (rowY ios (planY (ops.toList.map edgesOf) ios)).length=(planY (ops.toList.map edgesOf) ios).length:=by simp [rowY]
     refine R_oregion (ks:=(an.lookup id).getD []) hoy.1 hios hoy.2 ?_
     rw [← hl]
     exact h
    ·rw [if_neg hoy] at hc; cases hc; exact (nev_false h).elim
  ·cases hc; exact (nev_false h).elim
 | seq a b iha ihb =>
  intro ic fr σ Q hc h
  simp only [cmpC] at hc
  split at hc
  ·rename_i x y hx hy
   cases hc
   refine R_seq ((iha _ fr σ _ hx h).mono ?_)
   intro e fr' σ' q
   cases e with
   | normal => exact ihb _ fr' σ' Q hy q
   | _ => exact q
  ·cases hc
 | cond c a b iha ihb =>
  intro ic fr σ Q hc h
  simp only [cmpC] at hc
  split at hc
  ·rename_i i x y hi hx hy
   cases hc
   obtain ⟨t,ht,h⟩:=h
   refine R_cond hi ht ?_
   cases t with
   | true => exact iha _ fr σ Q hx h
   | false => exact ihb _ fr σ Q hy h
  ·cases hc; exact (nev_false h).elim
 | block id a ih =>
  intro ic fr σ Q hc h
  obtain ⟨y,hy,he⟩:=map_some hc
  cases he
  exact R_block (ih _ fr σ _ hy h)
 | loop a ih =>
  intro ic fr σ Q hc h
  have hc':=hc
  obtain ⟨y,hy,he⟩:=map_some hc
  cases he
  exact h pf an _ hc'
 | scope a ih =>
  intro ic fr σ Q hc h
  obtain ⟨y,hy,he⟩:=map_some hc
  cases he
  exact R_scope (ih _ fr σ _ hy h)
 | exit id => intro ic fr σ Q hc h; cases hc; exact R_exit h
 | ret => intro ic fr σ Q hc h; cases hc; exact R_ret h
 | rangeFunc g ps assign body _ _ =>
  intro ic fr σ Q hc h
  have hc':=hc
  simp only [cmpC] at hc
  split at hc
  ·split at hc
   ·cases hc
    exact h pf an _ hc'
   ·cases hc; exact (nev_false h).elim
  ·cases hc; exact (nev_false h).elim
 | _ => intro ic fr σ Q hc h; cases hc; exact (nev_false h).elim
theorem wpI_sound {n0 : Nat} (ic : IC) (fr : Frm) (σ : Store) (Q : Exit→Frm→Store→Prop) (h : wpI P E N n0 ic fr σ Q) : RI P E N n0 ic fr σ Q :=
 fun pf an c hc => wpI_code (pf:=pf) (an:=an) c ic fr σ Q hc h
theorem RI_loop {n0 : Nat} {x : IC} {Q : Exit→Frm→Store→Prop} (I : Nat→Frm→Store→Prop) (m : Nat) (h : I m fr σ) (hI : ∀ m fr σ,I m fr σ→wpI P E N n0 x fr σ (loopQ I m Q)) : RI P E N n0 (.loop x) fr σ Q:=by
 intro pf an c hc
 cases c with
 | loop c =>
  obtain ⟨y,hy,he⟩:=map_some hc
  cases he
  exact R_loop I m h (fun m fr σ hi => wpI_sound _ _ _ _ (hI m fr σ hi) pf an _ hy)
 | region id ops draw =>
  exfalso
  simp only [cmpC] at hc
  split at hc
  ·cases hc
  ·split at hc <;> first | (cases hc; done) | (split at hc <;> cases hc)
  ·cases hc
 | seq a b => simp only [cmpC] at hc; split at hc <;> cases hc
 | cond c a b => simp only [cmpC] at hc; split at hc <;> cases hc
 | block id a => obtain ⟨_,_,h⟩:=map_some hc; cases h
 | scope a => obtain ⟨_,_,h⟩:=map_some hc; cases h
 | rangeFunc g ps assign body =>
  exfalso
  simp only [cmpC] at hc
  split at hc
  ·split at hc <;> cases hc
  ·cases hc
 | _ => cases hc
/-! ### Ranging over a function,compiled -/
inductive JX where
 | ret
 | exit (i : Nat)
 deriving Inhabited
def JX.code : JX→Code
 | .ret => .ret
 | .exit i => .exit i
def pendX (Q : Exit→Frm→Store→Prop) (fr : Frm) (σ : Store) : Option JX→Prop
 | none => Q .normal fr σ
 | some .ret => Q .ret fr σ
 | some (.exit i) => Q (.exit i) fr σ
def roundX (id : Nat) (L : LoopState→Option JX→IObj) (K : IV→Store→Prop) : Exit→Frm→Store→Prop
 | .normal,_,σ => σ.obj id=some (L .busy none)∧K (.bool true) (σ.put id (L .ready none))
 | .ret,_,σ => σ.obj id=some (L .busy none)∧K (.bool false) (σ.put id (L .done (some .ret)))
 | .exit i,_,σ => σ.obj id=some (L .busy none)∧K (.bool false) (σ.put id (L .done (some (.exit i))))
 | _,_,_ => False
theorem RI_rfunc {n0 : Nat} {g : IX} {ps : List Nat} {y x : IC} {Q : Exit→Frm→Store→Prop}
  (h : ∀ L : LoopState→Option JX→IObj,
   (∀ (σ' : Store) (args : List IV) (K : IV→Store→Prop),args.length=ps.length→σ'.obj σ.next=some (L .ready none) →
    RI P E N σ'.next y (bindP fr ps args) σ' (fun e f s => e=.normal∧s.obj σ.next=some (L .ready none)∧RI P E N σ'.next x f (s.put σ.next (L .busy none)) (roundX σ.next L K))→CYd P E σ.next args σ' K) →
   CVf P E (g.ev E fr) [.yield σ.next] ⟨σ.next+1,(σ.put σ.next (L .ready none)).obj⟩ fun _ σ2 =>
    σ.next≤σ2.next∧∃ st pend,st≠.busy∧σ2.obj σ.next=some (L st pend)∧pendX Q fr (σ2.kill σ.next) pend) :
  RI P E N n0 (.rfunc g ps y x) fr σ Q:=by
 intro pf an c hc
 cases c with
 | rangeFunc go psA assign body =>
  simp only [cmpC] at hc
  split at hc
  ·rename_i ya i yb hasg hi hy
   split at hc
   ·rename_i hall
    cases hc
    have hps : ∀ p∈psA.toList,p < N:=fun p hp => by simpa using List.all_eq_true.1 hall p hp
    have h':=h (fun s p => .loop N fr psA.toList.toArray assign body s (p.map JX.code)) (fun σ' args K hl ho hR => by
     refine CYd_of hps hl ho ((hR pf an assign hasg).mono fun e f s q => ⟨q.1,q.2.1,(q.2.2 pf an body hy).mono fun e f s q => ?_⟩)
     cases e with
     | normal => exact q
     | ret => exact q
     | exit i => exact q
     | _ => exact q.elim)
    exact R_rangeFunc (n0:=n0) (Q:=Q) (ps:=psA.toList) (asg:=assign) (body:=body) (E:=E) (fr:=fr) (σ:=σ) (N:=N) hi (h'.mono (by
     rintro v s ⟨hn,st,pend,hst,hob,hq⟩
     refine ⟨hn,st,pend.map JX.code,hst,hob,?_⟩
     cases pend with
     | none => exact hq
     | some j => cases j <;> exact hq))
   ·cases hc
  ·cases hc
 | region id ops draw =>
  exfalso
  simp only [cmpC] at hc
  split at hc
  ·cases hc
  ·split at hc <;> first | (cases hc; done) | (split at hc <;> cases hc)
  ·cases hc
 | seq a b => simp only [cmpC] at hc; split at hc <;> cases hc
 | cond c a b => simp only [cmpC] at hc; split at hc <;> cases hc
 | block id a => obtain ⟨_,_,h⟩:=map_some hc; cases h
 | scope a => obtain ⟨_,_,h⟩:=map_some hc; cases h
 | loop a => obtain ⟨_,_,h⟩:=map_some hc; cases h
 | _ => cases hc
theorem RI_mono {n0 : Nat} {x : IC} {Q Q' : Exit→Frm→Store→Prop} (h : RI P E N n0 x fr σ Q) (hq : ∀ e fr σ,Q e fr σ→Q' e fr σ) : RI P E N n0 x fr σ Q' :=
 fun pf an c hc => (h pf an c hc).mono hq
end Go.Id
/- A function compiled,whole: its code and its results. Conditions: none; over any program. -/
namespace Go.Id
open Go
variable {P : Program} {w w' w'' : World} {ρ ρ' ρ'' : Rho} {E : Nat→IV} {σ σ' : Store} {N n n' : Nat} {fr : Frm} {a : Act} {pf : List Nat}
inductive IR where
 | t (n : Nat)
 | cell (agg : Option Nat) (n : Nat)
 deriving Inhabited
def cmpR (P : Program) : ResultVar→Option IR
 | .tmp t => some (.t t)
 | .cell ad t => match loadK P t with
  | some agg => some (.cell agg ad)
  | none => none
def cmpRs (P : Program) : List ResultVar→Option (List IR)
 | [] => some []
 | r :: rs => match cmpR P r,cmpRs P rs with
  | some x,some xs => some (x :: xs)
  | _,_ => none
def irV (σ : Store) (fr : Frm) : IR→Option IV
 | .t n => some (fr.get n)
 | .cell agg n => loadI σ agg (fr.get n)
def irL (σ : Store) (fr : Frm) : List IR→Option (List IV)
 | [] => some []
 | r :: rs => match irV σ fr r,irL σ fr rs with
  | some v,some vs => some (v :: vs)
  | _,_ => none
theorem irL_eq : ∀ (rs : List ResultVar) (irs : List IR),cmpRs P rs=some irs→resL P σ fr rs=irL σ fr irs:=by
 intro rs
 induction rs with
 | nil => intro irs h; cases h; rfl
 | cons r rs ih =>
  intro irs h
  simp only [cmpRs] at h
  split at h
  ·rename_i x xs hx hxs
   cases h
   have h1 : resI P σ fr r=irV σ fr x:=by
    cases r with
    | tmp t => cases hx; rfl
    | cell ad t =>
     simp only [cmpR] at hx
     split at hx
     ·rename_i agg hagg
      cases hx
      simp [resI,irV,hagg]
     ·cases hx
   simp only [resL,irL,h1,ih _ hxs]
   cases irV σ fr x <;> cases irL σ fr xs <;> rfl
  ·cases h
def FnOK (P : Program) (f N : Nat) (pf : List Nat) (an : Ann) (ic : IC) (irs : List IR) : Prop :=
 ∃ fn,P.funcs[f]? = some fn∧fn.ntmps=N∧fn.body.bind (cmpC P pf N an)=some ic∧cmpRs P fn.results.toList=some irs
theorem fnOK_of {f : Nat} {fn : Func} {an : Ann} {ic : IC} {irs : List IR} (h : P.funcs[f]? = some fn) (hN : fn.ntmps=N) (hc : fn.body.bind (cmpC P pf N an)=some ic) (hr : cmpRs P fn.results.toList=some irs) : FnOK P f N pf an ic irs :=
 ⟨fn,h,hN,hc,hr⟩
def funI (irs : List IR) (Qc : IV→Store→Prop) : Exit→Frm→Store→Prop
 | .normal,fr,σ | .ret,fr,σ => ∃ vs,irL σ fr irs=some vs∧Qc (resV vs) σ
 | _,_,_ => False
theorem C_ok {f : Nat} {an : Ann} {ic : IC} {irs : List IR} {args : List IV} {Qc : IV→Store→Prop} (hf : FnOK P f N pf an ic irs) (hl : args.length≤N)
  (h : wpI P E N σ.next ic (argFr args 0) σ (funI irs Qc)) : C P E f args σ Qc:=by
 obtain ⟨fn,h1,h2,h3,h4⟩:=hf
 cases hb : fn.body with
 | none => rw [hb] at h3; cases h3
 | some c =>
  rw [hb] at h3
  refine C_fun h1 hb h2 hl ((wpI_sound ic _ _ _ h pf an c h3).mono ?_)
  intro e fr' σ' q
  cases e <;> first | (obtain ⟨vs,q1,q2⟩:=q; exact ⟨vs,by rw [irL_eq _ _ h4]; exact q1,q2⟩) | exact q
end Go.Id
/- Frames,by what is asked of them. Conditions: none; over any program. -/
namespace Go.Id
open Go
theorem Frm.get_nil (t : Nat) : Frm.get [] t=.undef:=by unfold Frm.get; simp
theorem Frm.get_cons (t s : Nat) (v : IV) (fr : Frm) : Frm.get ((t,v) :: fr) s=if s=t then v else Frm.get fr s:=Frm.get_set fr t s v
end Go.Id
/- The walk by tables: what functions give,as functions; the form that is rewritten. Conditions: none; over any program. -/
namespace Go.Id
open Go
universe u
variable {P : Program} {E : Nat→IV} {σ σ' : Store} {N n n0 : Nat} {fr : Frm} {a : Act} {pf : List Nat}
abbrev PT:=Nat→List IV→Option IV
abbrev CT:=Nat→List IV→Store→Option (IV→Store→Prop)
structure TOK (P : Program) (E : Nat→IV) (pt : PT) (ct : CT) : Prop where
 p : ∀ f args v,pt f args=some v→PC P E f args v
 c : ∀ f args σ Q,ct f args σ=some Q→okF P f=true∧C P E f args σ Q
def noP : PT:=fun _ _ => none
def noC : CT:=fun _ _ _ => none
theorem noT : TOK P E noP noC:=⟨(fun _ _ _ h => by cases h),(fun _ _ _ _ h => by cases h)⟩
theorem e_noP {f : Nat} {args : List IV} : noP f args=none:=by unfold noP; exact Eq.trans rfl rfl
theorem e_noC {f : Nat} {args : List IV} : noC f args σ=none:=by unfold noC; exact Eq.trans rfl rfl
def optK {α : Type} : Option α→(α→Prop)→Prop
 | some v,K => K v
 | none,_ => False
def boolK : IV→(Bool→Prop)→Prop
 | .bool b,K => K b
 | _,_ => False
def grdK (v : IV) (want : Bool) (A B : Prop) : Prop :=
 match actI v want with
 | some true => A
 | some false => B
 | none => False
theorem grdK_spec {v : IV} {want : Bool} {A B : Prop} (h : grdK v want A B) : ∃ act,actI v want=some act∧if act=true then A else B:=by
 unfold grdK at h
 split at h
 ·rename_i ha; exact ⟨true,ha,h⟩
 ·rename_i ha; exact ⟨false,ha,h⟩
 ·exact h.elim
theorem optK_spec {α : Type} {o : Option α} {K : α→Prop} (h : optK o K) : ∃ v,o=some v∧K v:=by
 cases o with
 | none => exact h.elim
 | some v => exact ⟨v,rfl,h⟩
theorem boolK_spec {o : IV} {K : Bool→Prop} (h : boolK o K) : ∃ b,o=.bool b∧K b:=by
 cases o <;> first | exact ⟨_,rfl,h⟩ | exact h.elim
def callT (P : Program) (E : Nat→IV) (o : Option (IV→Store→Prop)) (f : Nat) (args : List IV) (σ : Store) (K : IV→Store→Prop) : Prop :=
 match o with
 | some Q => ∀ v s,Q v s→σ.next≤s.next∧K v s
 | none => ∃ Q,(okF P f=true∧C P E f args σ Q)∧∀ v s,Q v s→σ.next≤s.next∧K v s
def callP (P : Program) (E : Nat→IV) (o : Option IV) (f : Nat) (args : List IV) (σ : Store) (K : IV→Store→Prop) : Prop :=
 match o with
 | some v => K v σ
 | none => ∃ v,PC P E f args v∧K v σ
def opT (pt : PT) (ct : CT) (P : Program) (E : Nat→IV) (op : IK) (id : Nat) (fr : Frm) (σ : Store) (K : IV→Store→Prop) : Prop :=
 match op with
 | .q q => optK (evq E fr σ q) fun v => K v σ
 | .alloc z => K (.ptr id 0) (σ.put id (.cells z))
 | .box x => (x.ev E fr).cs.all IV.leaf=true∧K (.ptr id 0) (σ.put id (.cells (x.ev E fr).cs))
 | .bsl esz n z parts => optK (fillI (rep z n) (parts.map fun p => (p.1,p.2.1,p.2.2.ev E fr))) fun out => K (.slice id 0 n esz) (σ.put id (.row out))
 | .store sz x y => optK (storeI σ sz (x.ev E fr) (y.ev E fr)) fun σ' => K .undef σ'
 | .srange x => match x.ev E fr with
  | .str s => K (.ptr id 0) (σ.put id (.siter s 0))
  | _ => False
 | .snext x => optK (snextI σ (x.ev E fr)) fun r => K r.1 r.2
 | .mkmap => K (.map id) (σ.put id (.map []))
 | .mupd tag x k v => optK (mapUpdI σ tag (x.ev E fr) (k.ev E fr) (v.ev E fr)) fun σ' => K .undef σ'
 | .app esz s x => optK (appI σ id esz (s.ev E fr) (x.ev E fr)) fun r => K r.1 r.2
 | .call f args => callT P E (ct f (args.map (·.ev E fr)) σ) f (args.map (·.ev E fr)) σ K
 | .pcall f args => callP P E (pt f (args.map (·.ev E fr))) f (args.map (·.ev E fr)) σ K
 | .callv x args => match x.ev E fr with
  | .func (.func f) first cap => callT P E (ct f (first ++ args.map (·.ev E fr) ++ cap) σ) f (first ++ args.map (·.ev E fr) ++ cap) σ K
  | .yield i => ∃ Q,CV P E (.yield i) (args.map (·.ev E fr)) σ Q∧∀ v σ',Q v σ'→σ.next≤σ'.next∧K v σ'
  | _ => False
 | .bslt esz n z parts => optK (fillI (rep z n) (parts.map fun p => (p.1,p.2.1,p.2.2.ev E fr))) fun out => K (.tslice (chunk esz n out)) σ
 | .boxt x => (x.ev E fr).cs.all IV.leaf=true∧K (.tptr (x.ev E fr).cs) σ
 | .mrange x => match x.ev E fr with
  | .tmap es => K (.ptr id 0) (σ.put id (.miter es none))
  | _ => False
 | .mnext x => optK (mnextI σ (x.ev E fr)) fun r => (r.2=[]→K (.tuple [.bool false]) σ) ∧
   ∀ j,j < r.2.length→K (.tuple [.bool true,(r.2.getD j (.undef,.undef)).1,(r.2.getD j (.undef,.undef)).2]) (σ.put r.1 (.miter (r.2.eraseIdx j) (some (r.2.getD j (.undef,.undef)))))
 | .ment x => optK (mentI σ (x.ev E fr)) fun v => K v σ
 | .mksl esz z x => optK (mkslI (x.ev E fr)) fun n => K (.slice id 0 n esz) (σ.put id (.row (rep z n)))
 | .clr esz z x => optK (clrI σ esz z (x.ev E fr)) fun σ' => σ'.next=σ.next∧K .undef σ'
 | .st k xs => optK (stI k id σ (xs.map (·.ev E fr))) fun r => K r.1 r.2
theorem callT_spec {pt : PT} {ct : CT} (hT : TOK P E pt ct) {f : Nat} {args : List IV} {K : IV→Store→Prop} (h : callT P E (ct f args σ) f args σ K) : ∃ Q,(okF P f=true∧C P E f args σ Q)∧∀ v s,Q v s→σ.next≤s.next∧K v s:=by
 cases ho : ct f args σ with
 | none => rw [ho] at h; exact h
 | some Q => rw [ho] at h; exact ⟨Q,hT.c _ _ _ Q ho,h⟩
theorem opT_sound {pt : PT} {ct : CT} (hT : TOK P E pt ct) {op : IK} {id : Nat} {K : IV→Store→Prop} (h : opT pt ct P E op id fr σ K) : opR P E op id fr σ K:=by
 cases op with
 | q q => exact optK_spec h
 | alloc z => exact h
 | box x => exact h
 | bsl e n z ps => exact optK_spec h
 | store e x y => exact optK_spec h
 | app e s x => exact optK_spec h
 | mkmap => exact h
 | srange x =>
  simp only [opT] at h
  split at h
  ·rename_i s he; exact ⟨s,he,h⟩
  ·exact h.elim
 | snext x => exact optK_spec h
 | mupd t x y z => exact optK_spec h
 | call f xs =>
  obtain ⟨Q,h1,h2⟩:=callT_spec hT h
  exact ⟨Q,h1.2,h2⟩
 | pcall f xs =>
  simp only [opT] at h
  cases ho : pt f (xs.map (·.ev E fr)) with
  | none => rw [ho] at h; exact h
  | some v => rw [ho] at h; exact ⟨v,hT.p _ _ _ ho,h⟩
 | callv x xs =>
  simp only [opT] at h
  split at h
  ·rename_i f first cap he
   obtain ⟨Q,h1,h2⟩:=callT_spec hT h
   refine ⟨Q,?_,h2⟩
   rw [he]
   exact h1
  ·rename_i i he
   rw [← he] at h
   exact h
  ·exact h.elim
 | bslt e n z ps => exact optK_spec h
 | boxt x => exact h
 | mrange x =>
  simp only [opT] at h
  split at h
  ·rename_i s he; exact ⟨s,he,h⟩
  ·exact h.elim
 | mnext x =>
  obtain ⟨⟨i,l⟩,h1,h2⟩:=optK_spec h
  exact ⟨i,l,h1,h2⟩
 | ment x => exact optK_spec h
 | mksl e z x => exact optK_spec h
 | clr e z x => exact optK_spec h
 | st k xs => exact optK_spec h
def ropsT (pt : PT) (ct : CT) (P : Program) (E : Nat→IV) : List IOper→Nat→Frm→Store→(Frm→Store→Prop)→Prop
 | [],_,fr,σ,K => K fr σ
 | o :: rest,id,fr,σ,K =>
  match o.guard with
  | none => opT pt ct P E o.op id fr σ fun v σ' => ropsT pt ct P E rest (if o.op.lays then id+1 else id) (fr.setd o.dst v) σ' K
  | some (s,want) => grdK (fr.get s) want (opT pt ct P E o.op id fr σ fun v σ' => ropsT pt ct P E rest (if o.op.lays then id+1 else id) (fr.setd o.dst v) σ' K)
    (ropsT pt ct P E rest (if o.op.lays then id+1 else id) (fr.setd o.dst skV) σ K)
theorem ropsT_sound {pt : PT} {ct : CT} (hT : TOK P E pt ct) : ∀ (ops : List IOper) (id : Nat) (fr : Frm) (σ : Store) (K : Frm→Store→Prop),ropsT pt ct P E ops id fr σ K→ropsR P E ops id fr σ K:=by
 intro ops
 induction ops with
 | nil => intro id fr σ K h; exact h
 | cons o os ih =>
  intro id fr σ K h
  obtain ⟨d,g,op⟩:=o
  cases g with
  | none =>
   simp only [ropsT,ropsR] at h ⊢
   exact ⟨true,rfl,opR_mono (fun v s k => ih _ _ _ _ k) (opT_sound hT h)⟩
  | some p =>
   obtain ⟨s,want⟩:=p
   simp only [ropsT,ropsR] at h ⊢
   obtain ⟨act,ha,h⟩:=grdK_spec h
   refine ⟨act,ha,?_⟩
   cases act with
   | true =>
    rw [if_pos rfl] at h ⊢
    exact opR_mono (fun v s k => ih _ _ _ _ k) (opT_sound hT h)
   | false =>
    rw [if_neg (by simp)] at h ⊢
    exact ih _ _ _ _ h
def boxT (E : Nat→IV) (fr : Frm) (σ : Store) : IK→Prop
 | .q (.load _ x) => match x.ev E fr with
  | .tptr _ => True
  | .ptr i _ => match σ.obj i with
   | some (.cells _) => True
   | _ => False
  | _ => False
 | _ => True
theorem boxT_sound {op : IK} (h : boxT E fr σ op) : boxOK E fr σ op:=by
 cases op with
 | q q =>
  cases q with
  | load ag x =>
   simp only [boxT,boxOK] at h ⊢
   cases he : x.ev E fr <;> rw [he] at h <;> simp only at h ⊢
   rename_i i off
   cases ho : σ.obj i with
   | none => rw [ho] at h; exact h.elim
   | some ob =>
    rw [ho] at h
    cases ob <;> first | exact ⟨_,rfl⟩ | exact h.elim
  | _ => trivial
 | _ => trivial
def treeT (pt : PT) (ct : CT) (P : Program) (E : Nat→IV) (B : Bool) : List IOper→Nat→Frm→Store→(Frm→Store→Prop)→Prop
 | [],_,fr,σ,K => K fr σ
 | o :: rest,id,fr,σ,K =>
  match o.guard with
  | none => (B=true→boxT E fr σ o.op)∧opT pt ct P E o.op id fr σ fun v σ' => treeT pt ct P E B rest (id+1) (fr.setd o.dst v) σ' K
  | some (s,want) => grdK (fr.get s) want ((B=true→boxT E fr σ o.op)∧opT pt ct P E o.op id fr σ fun v σ' => treeT pt ct P E B rest (id+1) (fr.setd o.dst v) σ' K)
    (treeT pt ct P E B rest (id+1) (fr.setd o.dst skV) σ K)
theorem treeT_sound {pt : PT} {ct : CT} (hT : TOK P E pt ct) {B : Bool} {base : Nat} : ∀ (ops : List IOper) (i : Nat) (fr : Frm) (σ : Store) (K : Frm→Store→Prop),treeT pt ct P E B ops (base+i) fr σ K→treeX P E B (numb base i ops) fr σ K:=by
 intro ops
 induction ops with
 | nil => intro i fr σ K h; exact h
 | cons o os ih =>
  intro i fr σ K h
  obtain ⟨d,g,op⟩:=o
  cases g with
  | none =>
   simp only [treeT] at h
   exact ⟨true,rfl,opR_mono (fun v s k => ih _ _ _ _ k) (opT_sound hT h.2),fun hb => boxT_sound (h.1 hb)⟩
  | some p =>
   obtain ⟨s,want⟩:=p
   simp only [treeT] at h
   obtain ⟨act,ha,h⟩:=grdK_spec h
   refine ⟨act,ha,?_⟩
   cases act with
   | true => exact ⟨opR_mono (fun v s k => ih _ _ _ _ k) (opT_sound hT h.2),fun hb => boxT_sound (h.1 hb)⟩
   | false => exact ih _ _ _ _ h
def wpT (pt : PT) (ct : CT) (P : Program) (E : Nat→IV) (N n0 : Nat) : IC→Frm→Store→(Exit→Frm→Store→Prop)→Prop
 | .skip,fr,σ,Q => Q .normal fr σ
 | .reg _ ops keep,fr,σ,Q => ropsT pt ct P E ops σ.next fr ⟨σ.next+laysN ops,σ.obj⟩ (fun fr' σ' => Q .normal (fr'.keep keep) σ')
 | .dreg _ ops B keep,fr,σ,Q => treeT pt ct P E B ops σ.next fr ⟨σ.next+ops.length,σ.obj⟩ (fun fr' σ' => Q .normal (fr'.keep keep) σ')
 | .oreg _ ops keep,fr,σ,Q => treeY P E (idsY σ.next ops) [] fr { σ with next:=σ.next+ops.length } (fun fr' σ' => Q .normal (fr'.keep keep) σ')
 | .seq a b,fr,σ,Q => wpT pt ct P E N n0 a fr σ (fun e fr' σ' => match e with | .normal => wpT pt ct P E N n0 b fr' σ' Q | e => Q e fr' σ')
 | .cond x a b,fr,σ,Q => boolK (x.ev E fr) fun t => if t=true then wpT pt ct P E N n0 a fr σ Q else wpT pt ct P E N n0 b fr σ Q
 | .block id a,fr,σ,Q => wpT pt ct P E N n0 a fr σ (blockQ id Q)
 | .loop a,fr,σ,Q => RI P E N n0 (.loop a) fr σ Q
 | .exit id,fr,σ,Q => Q (.exit id) fr σ
 | .ret,fr,σ,Q => Q .ret fr σ
 | .rfunc g ps y a,fr,σ,Q => RI P E N n0 (.rfunc g ps y a) fr σ Q
 | .scope a,fr,σ,Q => wpT pt ct P E N n0 a fr σ (scopeQ Q)
theorem wpI_mono : ∀ (ic : IC) (fr : Frm) (σ : Store) (Q Q' : Exit→Frm→Store→Prop),(∀ e f s,Q e f s→Q' e f s)→wpI P E N n0 ic fr σ Q→wpI P E N n0 ic fr σ Q':=by
 have hrops : ∀ (ops : List IOper) (id : Nat) (fr : Frm) (σ : Store) (K K' : Frm→Store→Prop),(∀ f s,K f s→K' f s)→ropsR P E ops id fr σ K→ropsR P E ops id fr σ K':=by
  intro ops
  induction ops with
  | nil => intro id fr σ K K' hk h; exact hk _ _ h
  | cons o os ih =>
   intro id fr σ K K' hk h
   simp only [ropsR] at h ⊢
   obtain ⟨act,ha,h⟩:=h
   refine ⟨act,ha,?_⟩
   cases act with
   | true =>
    rw [if_pos rfl] at h ⊢
    exact opR_mono (fun v s k => ih _ _ _ _ _ hk k) h
   | false =>
    rw [if_neg (by simp)] at h ⊢
    exact ih _ _ _ _ _ hk h
 have htree : ∀ (its : List Item) (B : Bool) (fr : Frm) (σ : Store) (K K' : Frm→Store→Prop),(∀ f s,K f s→K' f s)→treeX P E B its fr σ K→treeX P E B its fr σ K':=by
  intro its
  induction its with
  | nil => intro B fr σ K K' hk h; exact hk _ _ h
  | cons it its ih =>
   intro B fr σ K K' hk h
   obtain ⟨i,o,id⟩:=it
   obtain ⟨act,ha,hh⟩:=h
   refine ⟨act,ha,?_⟩
   cases act with
   | true => exact ⟨opR_mono (fun v s k => ih _ _ _ _ _ hk k) hh.1,hh.2⟩
   | false => exact ih _ _ _ _ _ hk hh
 intro ic
 induction ic with
 | skip => intro fr σ Q Q' hq h; exact hq _ _ _ h
 | reg id ops keep => intro fr σ Q Q' hq h; exact hrops _ _ _ _ _ _ (fun f s k => hq _ _ _ k) h
 | dreg id ops B keep => intro fr σ Q Q' hq h; exact htree _ _ _ _ _ _ (fun f s k => hq _ _ _ k) h
 | oreg id ops keep => intro fr σ Q Q' hq h; exact treeY_mono _ _ _ _ (fun f s k => hq _ _ _ k) h
 | seq x y ihx ihy =>
  intro fr σ Q Q' hq h
  refine ihx _ _ _ _ ?_ h
  intro e f s k
  cases e with
  | normal => exact ihy _ _ _ _ hq k
  | _ => exact hq _ _ _ k
 | cond x a b iha ihb =>
  intro fr σ Q Q' hq h
  obtain ⟨t,ht,h⟩:=h
  refine ⟨t,ht,?_⟩
  cases t with
  | true => exact iha _ _ _ _ hq h
  | false => exact ihb _ _ _ _ hq h
 | block id x ih =>
  intro fr σ Q Q' hq h
  refine ih _ _ _ _ ?_ h
  intro e f s k
  cases e with
  | exit i => simp only [blockQ] at k ⊢; split <;> rename_i hi <;> simp only [hi,if_true,if_false] at k <;> exact hq _ _ _ k
  | _ => exact hq _ _ _ k
 | scope x ih =>
  intro fr σ Q Q' hq h
  refine ih _ _ _ _ ?_ h
  intro e f s k
  cases e with
  | goto l => exact k
  | _ => exact hq _ _ _ k
 | loop x ih => intro fr σ Q Q' hq h; exact RI_mono h hq
 | exit id => intro fr σ Q Q' hq h; exact hq _ _ _ h
 | rfunc g ps y x ihy ih => intro fr σ Q Q' hq h; exact RI_mono h hq
 | ret => intro fr σ Q Q' hq h; exact hq _ _ _ h
theorem wpT_sound {pt : PT} {ct : CT} (hT : TOK P E pt ct) : ∀ (ic : IC) (fr : Frm) (σ : Store) (Q : Exit→Frm→Store→Prop),wpT pt ct P E N n0 ic fr σ Q→wpI P E N n0 ic fr σ Q:=by
 intro ic
 induction ic with
 | skip => intro fr σ Q h; exact h
 | reg id ops keep => intro fr σ Q h; exact ropsT_sound hT _ _ _ _ _ h
 | dreg id ops B keep => intro fr σ Q h; exact treeT_sound hT _ 0 _ _ _ h
 | oreg id ops keep => intro fr σ Q h; exact h
 | seq x y ihx ihy =>
  intro fr σ Q h
  have h1:=ihx _ _ _ (show wpT pt ct P E N n0 x fr σ _ from h)
  refine wpI_mono x fr σ _ (fun e fr' σ' => match e with | .normal => wpI P E N n0 y fr' σ' Q | e => Q e fr' σ') ?_ h1
  intro e f s k
  cases e with
  | normal => exact ihy _ _ _ k
  | _ => exact k
 | cond x a b iha ihb =>
  intro fr σ Q h
  obtain ⟨t,ht,h⟩:=boolK_spec h
  refine ⟨t,ht,?_⟩
  cases t with
  | true => exact iha _ _ _ h
  | false => exact ihb _ _ _ h
 | block id x ih => intro fr σ Q h; exact ih _ _ _ h
 | scope x ih => intro fr σ Q h; exact ih _ _ _ h
 | loop x ih => intro fr σ Q h; exact h
 | exit id => intro fr σ Q h; exact h
 | ret => intro fr σ Q h; exact h
 | rfunc g ps y x ihy ih => intro fr σ Q h; exact h
def funT (irs : List IR) (Qc : IV→Store→Prop) : Exit→Frm→Store→Prop
 | .normal,fr,σ | .ret,fr,σ => optK (irL σ fr irs) fun vs => Qc (resV vs) σ
 | _,_,_ => False
theorem funT_sound {irs : List IR} {Qc : IV→Store→Prop} {e : Exit} (h : funT irs Qc e fr σ) : funI irs Qc e fr σ:=by
 cases e <;> first | exact optK_spec h | exact h
theorem C_T {pt : PT} {ct : CT} (hT : TOK P E pt ct) {f : Nat} {an : Ann} {ic : IC} {irs : List IR} {args : List IV} {Qc : IV→Store→Prop} (hf : FnOK P f N pf an ic irs) (hl : args.length≤N)
  (h : wpT pt ct P E N σ.next ic (argFr args 0) σ (funT irs Qc)) : C P E f args σ Qc :=
 C_ok hf hl (wpI_mono _ _ _ _ _ (fun _ _ _ k => funT_sound k) (wpT_sound hT _ _ _ _ h))
theorem PC_T {pt : PT} {ct : CT} (hT : TOK P E pt ct) {f : Nat} {an : Ann} {ic : IC} {irs : List IR} {args : List IV} {v : IV} (hf : FnOK P f N pf an ic irs) (hl : args.length≤N)
  (h : ∀ σ,wpT pt ct P E N σ.next ic (argFr args 0) σ (funT irs fun v' σ' => v'=v∧σ'=σ)) : PC P E f args v :=
 fun σ => C_T hT hf hl (h σ)
theorem loop_T {pt : PT} {ct : CT} (hT : TOK P E pt ct) {x : IC} {Q : Exit→Frm→Store→Prop} (I : Nat→Frm→Store→Prop) (m : Nat) (h : I m fr σ) (hI : ∀ m fr σ,I m fr σ→wpT pt ct P E N n0 x fr σ (loopQ I m Q)) : RI P E N n0 (.loop x) fr σ Q :=
 RI_loop I m h fun m fr σ hi => wpT_sound hT _ _ _ _ (hI m fr σ hi)
theorem nr {α : Sort u} {a b : α} (h : a=b) : a=b:=h
/-! ### The rewriting: no continuation that is a 'fun' stands in a goal -/
def optV (o : Option IV) (σ : Store) (K : IV→Store→Prop) : Prop:=optK o fun v => K v σ
def optS (o : Option Store) (K : IV→Store→Prop) : Prop:=optK o fun s => K .undef s
def optR (o : Option (IV × Store)) (K : IV→Store→Prop) : Prop:=optK o fun r => K r.1 r.2
def oneQ (v : IV) (σ : Store) : IV→Store→Prop:=fun v' σ' => v'=v∧σ'=σ
def optO (o : Option (List IV)) (id n esz : Nat) (σ : Store) (K : IV→Store→Prop) : Prop:=optK o fun out => K (.slice id 0 n esz) (σ.put id (.row out))
def callvT (ct : CT) (P : Program) (E : Nat→IV) (x : IV) (args : List IV) (σ : Store) (K : IV→Store→Prop) : Prop:=match x with
 | .func (.func f) first cap => callT P E (ct f (first ++ args ++ cap) σ) f (first ++ args ++ cap) σ K
 | .yield i => ∃ Q,CV P E (.yield i) args σ Q∧∀ v σ',Q v σ'→σ.next≤σ'.next∧K v σ'
 | _ => False
def nextQ (pt : PT) (ct : CT) (P : Program) (E : Nat→IV) (rest : List IOper) (id : Nat) (d : Option Nat) (fr : Frm) (K : Frm→Store→Prop) : IV→Store→Prop:=fun v σ' => ropsT pt ct P E rest id (fr.setd d v) σ' K
def nextD (pt : PT) (ct : CT) (P : Program) (E : Nat→IV) (B : Bool) (rest : List IOper) (id : Nat) (d : Option Nat) (fr : Frm) (K : Frm→Store→Prop) : IV→Store→Prop:=fun v σ' => treeT pt ct P E B rest id (fr.setd d v) σ' K
def keepQ (ks : List Nat) (Q : Exit→Frm→Store→Prop) : Frm→Store→Prop:=fun fr σ => Q .normal (fr.keep ks) σ
def grdT (pt : PT) (ct : CT) (P : Program) (E : Nat→IV) (v : IV) (want : Bool) (op : IK) (id : Nat) (fr : Frm) (σ : Store) (K : IV→Store→Prop) : Prop:=grdK v want (opT pt ct P E op id fr σ K) (K skV σ)
def grdD (pt : PT) (ct : CT) (P : Program) (E : Nat→IV) (B : Bool) (v : IV) (want : Bool) (op : IK) (id : Nat) (fr : Frm) (σ : Store) (K : IV→Store→Prop) : Prop:=grdK v want ((B=true→boxT E fr σ op)∧opT pt ct P E op id fr σ K) (K skV σ)
def condT (pt : PT) (ct : CT) (P : Program) (E : Nat→IV) (N n0 : Nat) (v : IV) (a b : IC) (fr : Frm) (σ : Store) (Q : Exit→Frm→Store→Prop) : Prop:=boolK v fun t => if t=true then wpT pt ct P E N n0 a fr σ Q else wpT pt ct P E N n0 b fr σ Q
def seqQ (pt : PT) (ct : CT) (P : Program) (E : Nat→IV) (N n0 : Nat) (b : IC) (Q : Exit→Frm→Store→Prop) : Exit→Frm→Store→Prop:=fun e fr' σ' => match e with
 | .normal => wpT pt ct P E N n0 b fr' σ' Q
 | e => Q e fr' σ'
variable {pt : PT} {ct : CT} {id want : Nat} {K : IV→Store→Prop} {Kf : Frm→Store→Prop} {Q : Exit→Frm→Store→Prop} {v : IV} {c : Prop} [Decidable c]
theorem w_optK {α : Type} (v : α) (K : α→Prop) : optK (some v) K=K v:=nr rfl
theorem w_optV (v : IV) : optV (some v) σ K=K v σ:=nr rfl
theorem w_optVi (v : IV) : optV (if c then some v else none) σ K=(c∧K v σ):=by by_cases h : c <;> simp [h,optV,optK]
theorem w_optVi' (v : IV) : optV (if c then none else some v) σ K=(¬ c∧K v σ):=by by_cases h : c <;> simp [h,optV,optK]
theorem w_optS : optS (some σ) K=K .undef σ:=nr rfl
theorem w_optSi : optS (if c then some σ else none) K=(c∧K .undef σ):=by by_cases h : c <;> simp [h,optS,optK]
theorem w_optR (v : IV) : optR (some (v,σ)) K=K v σ:=nr rfl
theorem w_optRi (v : IV) : optR (if c then some (v,σ) else none) K=(c∧K v σ):=by by_cases h : c <;> simp [h,optR,optK]
theorem w_ct1 {f : Nat} {args : List IV} (v : IV) : callT P E (some (oneQ v σ')) f args σ K=(σ.next≤σ'.next∧K v σ'):=propext ⟨fun h => h v σ' ⟨rfl,rfl⟩,fun h v' s' ⟨e1,e2⟩ => by subst e1; subst e2; exact h⟩
theorem w_cp {f : Nat} {args : List IV} (v : IV) : callP P E (some v) f args σ K=K v σ:=nr rfl
theorem callP_of {f : Nat} {args : List IV} {v : IV} (h : PC P E f args v) (hk : K v σ) : callP P E none f args σ K:=⟨v,h,hk⟩
theorem callT_of {f : Nat} {args : List IV} {Qc : IV→Store→Prop} (ho : okF P f=true) (h : C P E f args σ Qc) (hk : ∀ v s,Qc v s→σ.next≤s.next∧K v s) : callT P E none f args σ K:=⟨Qc,⟨ho,h⟩,hk⟩
theorem w_optO {n esz : Nat} (out : List IV) : optO (some out) id n esz σ K=K (.slice id 0 n esz) (σ.put id (.row out)):=nr rfl
theorem w_callv (f : Nat) (first cap args : List IV) : callvT ct P E (.func (.func f) first cap) args σ K=callT P E (ct f (first ++ args ++ cap) σ) f (first ++ args ++ cap) σ K:=nr rfl
theorem w_next {rest : List IOper} {d : Nat} (v : IV) : nextQ pt ct P E rest id (some d) fr Kf v σ=ropsT pt ct P E rest id ((d,v) :: fr) σ Kf:=nr rfl
theorem w_next0 {rest : List IOper} (v : IV) : nextQ pt ct P E rest id none fr Kf v σ=ropsT pt ct P E rest id fr σ Kf:=nr rfl
theorem w_nextD {B : Bool} {rest : List IOper} {d : Nat} (v : IV) : nextD pt ct P E B rest id (some d) fr Kf v σ=treeT pt ct P E B rest id ((d,v) :: fr) σ Kf:=nr rfl
theorem w_nextD0 {B : Bool} {rest : List IOper} (v : IV) : nextD pt ct P E B rest id none fr Kf v σ=treeT pt ct P E B rest id fr σ Kf:=nr rfl
theorem w_keep {ks : List Nat} : keepQ ks Q fr σ=Q .normal (fr.keep ks) σ:=nr rfl
theorem w_q {q : IQ} : opT pt ct P E (.q q) id fr σ K=optV (evq E fr σ q) σ K:=nr rfl
theorem w_alloc {z : List IV} : opT pt ct P E (.alloc z) id fr σ K=K (.ptr id 0) (σ.put id (.cells z)):=nr rfl
theorem w_box {x : IX} : opT pt ct P E (.box x) id fr σ K=((x.ev E fr).cs.all IV.leaf=true∧K (.ptr id 0) (σ.put id (.cells (x.ev E fr).cs))):=nr rfl
theorem w_bsl {esz n : Nat} {z : List IV} {ps : List (Nat × Nat × IX)} : opT pt ct P E (.bsl esz n z ps) id fr σ K=optO (fillI (rep z n) (ps.map fun p => (p.1,p.2.1,p.2.2.ev E fr))) id n esz σ K:=nr rfl
theorem w_store {sz : Nat} {x y : IX} : opT pt ct P E (.store sz x y) id fr σ K=optS (storeI σ sz (x.ev E fr) (y.ev E fr)) K:=nr rfl
def strK (v : IV) (id : Nat) (σ : Store) (K : IV→Store→Prop) : Prop:=match v with
 | .str s => K (.ptr id 0) (σ.put id (.siter s 0))
 | _ => False
theorem w_strK {s : List UInt8} : strK (.str s) id σ K=K (.ptr id 0) (σ.put id (.siter s 0)):=nr rfl
theorem w_srange {x : IX} : opT pt ct P E (.srange x) id fr σ K=strK (x.ev E fr) id σ K:=nr rfl
theorem w_snext {x : IX} : opT pt ct P E (.snext x) id fr σ K=optR (snextI σ (x.ev E fr)) K:=nr rfl
theorem w_mkmap : opT pt ct P E .mkmap id fr σ K=K (.map id) (σ.put id (.map [])):=nr rfl
theorem w_mupd {tag : Nat} {x k y : IX} : opT pt ct P E (.mupd tag x k y) id fr σ K=optS (mapUpdI σ tag (x.ev E fr) (k.ev E fr) (y.ev E fr)) K:=nr rfl
theorem w_app {esz : Nat} {s x : IX} : opT pt ct P E (.app esz s x) id fr σ K=optR (appI σ id esz (s.ev E fr) (x.ev E fr)) K:=nr rfl
theorem w_call {f : Nat} {args : List IX} : opT pt ct P E (.call f args) id fr σ K=callT P E (ct f (args.map (·.ev E fr)) σ) f (args.map (·.ev E fr)) σ K:=nr rfl
theorem w_pcall {f : Nat} {args : List IX} : opT pt ct P E (.pcall f args) id fr σ K=callP P E (pt f (args.map (·.ev E fr))) f (args.map (·.ev E fr)) σ K:=nr rfl
theorem w_callvx {x : IX} {args : List IX} : opT pt ct P E (.callv x args) id fr σ K=callvT ct P E (x.ev E fr) (args.map (·.ev E fr)) σ K:=nr rfl
theorem w_nil : ropsT pt ct P E [] id fr σ Kf=Kf fr σ:=nr rfl
theorem w_cons {d : Option Nat} {op : IK} {rest : List IOper} : ropsT pt ct P E (⟨d,none,op⟩ :: rest) id fr σ Kf=opT pt ct P E op id fr σ (nextQ pt ct P E rest (if op.lays then id+1 else id) d fr Kf):=nr rfl
theorem w_grd {d : Option Nat} {op : IK} {rest : List IOper} {s : Nat} {want : Bool} : ropsT pt ct P E (⟨d,some (s,want),op⟩ :: rest) id fr σ Kf=grdT pt ct P E (fr.get s) want op id fr σ (nextQ pt ct P E rest (if op.lays then id+1 else id) d fr Kf):=nr rfl
theorem w_nilD {B : Bool} : treeT pt ct P E B [] id fr σ Kf=Kf fr σ:=nr rfl
theorem w_consF {d : Option Nat} {op : IK} {rest : List IOper} : treeT pt ct P E false (⟨d,none,op⟩ :: rest) id fr σ Kf=opT pt ct P E op id fr σ (nextD pt ct P E false rest (id+1) d fr Kf):=by
 have : treeT pt ct P E false (⟨d,none,op⟩ :: rest) id fr σ Kf=((false=true→boxT E fr σ op)∧opT pt ct P E op id fr σ (nextD pt ct P E false rest (id+1) d fr Kf)):=nr rfl
 rw [this]; simp
theorem w_consT {d : Option Nat} {op : IK} {rest : List IOper} : treeT pt ct P E true (⟨d,none,op⟩ :: rest) id fr σ Kf=(boxT E fr σ op∧opT pt ct P E op id fr σ (nextD pt ct P E true rest (id+1) d fr Kf)):=by
 have : treeT pt ct P E true (⟨d,none,op⟩ :: rest) id fr σ Kf=((true=true→boxT E fr σ op)∧opT pt ct P E op id fr σ (nextD pt ct P E true rest (id+1) d fr Kf)):=nr rfl
 rw [this]; simp
theorem w_grdD {B : Bool} {d : Option Nat} {op : IK} {rest : List IOper} {s : Nat} {want : Bool} : treeT pt ct P E B (⟨d,some (s,want),op⟩ :: rest) id fr σ Kf=grdD pt ct P E B (fr.get s) want op id fr σ (nextD pt ct P E B rest (id+1) d fr Kf):=nr rfl
theorem w_gtt {op : IK} : grdT pt ct P E (.bool true) true op id fr σ K=opT pt ct P E op id fr σ K:=nr rfl
theorem w_gff {op : IK} : grdT pt ct P E (.bool false) false op id fr σ K=opT pt ct P E op id fr σ K:=nr rfl
theorem w_gtf {op : IK} : grdT pt ct P E (.bool true) false op id fr σ K=K skV σ:=nr rfl
theorem w_gft {op : IK} : grdT pt ct P E (.bool false) true op id fr σ K=K skV σ:=nr rfl
theorem w_dtt {op : IK} : grdD pt ct P E false (.bool true) true op id fr σ K=opT pt ct P E op id fr σ K:=by simp [grdD,grdK,actI]
theorem w_dff {op : IK} : grdD pt ct P E false (.bool false) false op id fr σ K=opT pt ct P E op id fr σ K:=by simp [grdD,grdK,actI]
theorem w_dtf {B : Bool} {op : IK} : grdD pt ct P E B (.bool true) false op id fr σ K=K skV σ:=nr rfl
theorem w_dft {B : Bool} {op : IK} : grdD pt ct P E B (.bool false) true op id fr σ K=K skV σ:=nr rfl
theorem w_dtT {op : IK} : grdD pt ct P E true (.bool true) true op id fr σ K=(boxT E fr σ op∧opT pt ct P E op id fr σ K):=by simp [grdD,grdK,actI]
theorem w_dfT {op : IK} : grdD pt ct P E true (.bool false) false op id fr σ K=(boxT E fr σ op∧opT pt ct P E op id fr σ K):=by simp [grdD,grdK,actI]
theorem w_gs {op : IK} {want : Bool} : grdT pt ct P E skV want op id fr σ K=K skV σ:=nr rfl
theorem w_ds {B want : Bool} {op : IK} : grdD pt ct P E B skV want op id fr σ K=K skV σ:=nr rfl
theorem w_skip : wpT pt ct P E N n0 .skip fr σ Q=Q .normal fr σ:=nr rfl
theorem w_reg {i : Nat} {ops : List IOper} {ks : List Nat} : wpT pt ct P E N n0 (.reg i ops ks) fr σ Q=ropsT pt ct P E ops σ.next fr ⟨σ.next+laysN ops,σ.obj⟩ (keepQ ks Q):=nr rfl
theorem w_dreg {i : Nat} {ops : List IOper} {B : Bool} {ks : List Nat} : wpT pt ct P E N n0 (.dreg i ops B ks) fr σ Q=treeT pt ct P E B ops σ.next fr ⟨σ.next+ops.length,σ.obj⟩ (keepQ ks Q):=nr rfl
theorem w_seq {x y : IC} : wpT pt ct P E N n0 (.seq x y) fr σ Q=wpT pt ct P E N n0 x fr σ (seqQ pt ct P E N n0 y Q):=nr rfl
theorem w_cond {i : IX} {x y : IC} : wpT pt ct P E N n0 (.cond i x y) fr σ Q=condT pt ct P E N n0 (i.ev E fr) x y fr σ Q:=nr rfl
theorem w_block {i : Nat} {x : IC} : wpT pt ct P E N n0 (.block i x) fr σ Q=wpT pt ct P E N n0 x fr σ (blockQ i Q):=nr rfl
theorem w_loop {x : IC} : wpT pt ct P E N n0 (.loop x) fr σ Q=RI P E N n0 (.loop x) fr σ Q:=nr rfl
theorem w_rfunc {g : IX} {ps : List Nat} {x y : IC} : wpT pt ct P E N n0 (.rfunc g ps y x) fr σ Q=RI P E N n0 (.rfunc g ps y x) fr σ Q:=nr rfl
def mrangeK (v : IV) (id : Nat) (σ : Store) (K : IV→Store→Prop) : Prop:=match v with
 | .tmap es => K (.ptr id 0) (σ.put id (.miter es none))
 | _ => False
def mnextK (o : Option (Nat × List (IV × IV))) (σ : Store) (K : IV→Store→Prop) : Prop:=optK o fun r => (r.2=[]→K (.tuple [.bool false]) σ) ∧
   ∀ j,j < r.2.length→K (.tuple [.bool true,(r.2.getD j (.undef,.undef)).1,(r.2.getD j (.undef,.undef)).2]) (σ.put r.1 (.miter (r.2.eraseIdx j) (some (r.2.getD j (.undef,.undef)))))
theorem w_mrange {x : IX} : opT pt ct P E (.mrange x) id fr σ K=mrangeK (x.ev E fr) id σ K:=nr rfl
theorem w_mrangeK {es : List (IV × IV)} : mrangeK (.tmap es) id σ K=K (.ptr id 0) (σ.put id (.miter es none)):=nr rfl
theorem w_mnext {x : IX} : opT pt ct P E (.mnext x) id fr σ K=mnextK (mnextI σ (x.ev E fr)) σ K:=nr rfl
theorem w_mnextK {i : Nat} {l : List (IV × IV)} : mnextK (some (i,l)) σ K=((l=[]→K (.tuple [.bool false]) σ) ∧
   ∀ j,j < l.length→K (.tuple [.bool true,(l.getD j (.undef,.undef)).1,(l.getD j (.undef,.undef)).2]) (σ.put i (.miter (l.eraseIdx j) (some (l.getD j (.undef,.undef)))))):=nr rfl
theorem w_ment {x : IX} : opT pt ct P E (.ment x) id fr σ K=optV (mentI σ (x.ev E fr)) σ K:=nr rfl
theorem w_boxt {x : IX} : opT pt ct P E (.boxt x) id fr σ K=((x.ev E fr).cs.all IV.leaf=true∧K (.tptr (x.ev E fr).cs) σ):=nr rfl
def bsltK (o : Option (List IV)) (esz n : Nat) (σ : Store) (K : IV→Store→Prop) : Prop:=optK o fun out => K (.tslice (chunk esz n out)) σ
theorem w_bslt {esz n : Nat} {z : List IV} {ps : List (Nat × Nat × IX)} : opT pt ct P E (.bslt esz n z ps) id fr σ K=bsltK (fillI (rep z n) (ps.map fun p => (p.1,p.2.1,p.2.2.ev E fr))) esz n σ K:=nr rfl
theorem w_bsltK {esz n : Nat} {out : List IV} : bsltK (some out) esz n σ K=K (.tslice (chunk esz n out)) σ:=nr rfl
theorem w_exit {i : Nat} : wpT pt ct P E N n0 (.exit i) fr σ Q=Q (.exit i) fr σ:=nr rfl
theorem w_ret : wpT pt ct P E N n0 .ret fr σ Q=Q .ret fr σ:=nr rfl
theorem w_ct {x y : IC} : condT pt ct P E N n0 (.bool true) x y fr σ Q=wpT pt ct P E N n0 x fr σ Q:=nr rfl
theorem w_cf {x y : IC} : condT pt ct P E N n0 (.bool false) x y fr σ Q=wpT pt ct P E N n0 y fr σ Q:=nr rfl
theorem w_sqn {y : IC} : seqQ pt ct P E N n0 y Q .normal fr σ=wpT pt ct P E N n0 y fr σ Q:=nr rfl
theorem w_sqe {y : IC} {i : Nat} : seqQ pt ct P E N n0 y Q (.exit i) fr σ=Q (.exit i) fr σ:=nr rfl
theorem w_sqr {y : IC} : seqQ pt ct P E N n0 y Q .ret fr σ=Q .ret fr σ:=nr rfl
theorem w_bqn {i : Nat} : blockQ i Q .normal fr σ=Q .normal fr σ:=nr rfl
theorem w_bqr {i : Nat} : blockQ i Q .ret fr σ=Q .ret fr σ:=nr rfl
theorem w_bqe {i j : Nat} : blockQ i Q (.exit j) fr σ=if j=i then Q .normal fr σ else Q (.exit j) fr σ:=nr rfl
theorem w_lqn {I : Nat→Frm→Store→Prop} {m : Nat} : loopQ I m Q .normal fr σ=∃ m',m' < m∧I m' fr σ:=nr rfl
theorem w_lqe {I : Nat→Frm→Store→Prop} {m i : Nat} : loopQ I m Q (.exit i) fr σ=Q (.exit i) fr σ:=nr rfl
theorem w_lqr {I : Nat→Frm→Store→Prop} {m : Nat} : loopQ I m Q .ret fr σ=Q .ret fr σ:=nr rfl
theorem w_fun {irs : List IR} {Qc : IV→Store→Prop} : funT irs Qc .ret fr σ=optK (irL σ fr irs) fun vs => Qc (resV vs) σ:=nr rfl
theorem w_funn {irs : List IR} {Qc : IV→Store→Prop} : funT irs Qc .normal fr σ=optK (irL σ fr irs) fun vs => Qc (resV vs) σ:=nr rfl
end Go.Id
/- What the walk of a compiled code is rewritten by: the operations. Conditions: none; over any program. -/
namespace Go.Id
open Go
variable {P : Program} {E : Nat→IV} {σ σ' : Store} {fr : Frm} {x y z : IX} {k k' : IntKind} {a b : Int} {s t : List UInt8} {n m off esz len : Nat} {v u : IV}
theorem put_next {i : Nat} {o : IObj} : (σ.put i o).next=σ.next:=nr rfl
theorem put_obj {i j : Nat} {o : IObj} : (σ.put i o).obj j=if j=i then some o else σ.obj j:=nr rfl
theorem e_t : (IX.t n).ev E fr=fr.get n:=nr rfl
theorem e_c : (IX.c v).ev E fr=v:=nr rfl
theorem e_g : (IX.g n).ev E fr=E n:=nr rfl
theorem e_f : (IX.f n).ev E fr=.func (.func n) [] []:=nr rfl
theorem e_mov : evq E fr σ (.mov x)=some (x.ev E fr):=nr rfl
theorem e_pick : evq E fr σ (.pick x y z)=pickI (x.ev E fr) (y.ev E fr) (z.ev E fr):=nr rfl
theorem e_not : evq E fr σ (.not x)=notI (x.ev E fr):=nr rfl
theorem e_neg : evq E fr σ (.neg x)=negI (x.ev E fr):=nr rfl
theorem e_bin {op : BinOp} : evq E fr σ (.bin op x y)=binV op (x.ev E fr) (y.ev E fr):=nr rfl
theorem e_isnil {d : TypeDesc} {g : Bool} : evq E fr σ (.isnil d g x)=(nilI d (x.ev E fr)).map fun b => .bool (b ^^ g):=nr rfl
theorem e_eqs {tags : List Nat} {g h : Bool} : evq E fr σ (.eqs tags g h x y)=eqvI tags g h (x.ev E fr) (y.ev E fr):=nr rfl
theorem e_conv : evq E fr σ (.conv k x)=convI k (x.ev E fr):=nr rfl
theorem e_strId : evq E fr σ (.strId x)=strIdI (x.ev E fr):=nr rfl
theorem e_len : evq E fr σ (.len n x)=lenK n σ (x.ev E fr):=nr rfl
theorem e_faddr : evq E fr σ (.faddr off x)=moveI off (x.ev E fr):=nr rfl
theorem e_fld {ag : Option Nat} : evq E fr σ (.fld ag off x)=fldI ag off (x.ev E fr):=nr rfl
theorem e_iaddr : evq E fr σ (.iaddr esz x y)=iaddrI esz (x.ev E fr) (y.ev E fr):=nr rfl
theorem e_aaddr : evq E fr σ (.aaddr n esz x y)=aaddrI n esz (x.ev E fr) (y.ev E fr):=nr rfl
theorem e_idx {ag : Option Nat} : evq E fr σ (.idx ag n esz x y)=idxI ag n esz (x.ev E fr) (y.ev E fr):=nr rfl
theorem e_istr : evq E fr σ (.istr x y)=istrI (x.ev E fr) (y.ev E fr):=nr rfl
theorem e_slc {lo hi : Option IX} : evq E fr σ (.slc esz x lo hi)=slcI esz (lo.map (·.ev E fr)) (hi.map (·.ev E fr)) (x.ev E fr):=nr rfl
theorem e_sstr {lo hi : Option IX} : evq E fr σ (.sstr x lo hi)=sstrI (lo.map (·.ev E fr)) (hi.map (·.ev E fr)) (x.ev E fr):=nr rfl
theorem e_slz : evq E fr σ (.slz x)=slzI (x.ev E fr):=nr rfl
theorem e_ext : evq E fr σ (.ext n x)=extI n (x.ev E fr):=nr rfl
theorem e_mkf {fs cs : List IX} : evq E fr σ (.mkf n fs cs)=some (.func (.func n) (fs.map (·.ev E fr)) (cs.map (·.ev E fr))):=nr rfl
theorem e_bld {zs : List IV} {ps : List (Nat × Nat × IX)} : evq E fr σ (.bld zs ps)=(fillI zs (ps.map fun p => (p.1,p.2.1,p.2.2.ev E fr))).map .agg:=nr rfl
theorem e_load {ag : Option Nat} : evq E fr σ (.load ag x)=loadI σ ag (x.ev E fr):=nr rfl
theorem e_nchk : evq E fr σ (.nchk x)=nchkI (x.ev E fr):=nr rfl
theorem e_mm {mx : Bool} : evq E fr σ (.mm mx x y)=mmI mx (x.ev E fr) (y.ev E fr):=nr rfl
theorem e_max : mmI true (.int k a) (.int k' b)=some (.int k (if b > a then b else a)):=by simp [mmI]
theorem e_min : mmI false (.int k a) (.int k' b)=some (.int k (if b < a then b else a)):=by simp [mmI]
theorem e_lkp {zero : IV} {ok : Bool} : evq E fr σ (.lkp n zero ok x y)=lkpI σ n zero ok (x.ev E fr) (y.ev E fr):=nr rfl
theorem e_keep0 : Frm.keep fr []=[]:=nr rfl
theorem e_keep1 {ks : List Nat} : Frm.keep fr (n :: ks)=(n,fr.get n) :: Frm.keep fr ks:=nr rfl
theorem e_arg0 : argFr [] n=[]:=nr rfl
theorem e_arg1 {vs : List IV} : argFr (v :: vs) n=(n,v) :: argFr vs (n+1):=nr rfl
theorem e_lays0 : laysN []=0:=nr rfl
theorem e_lays1 {d : Option Nat} {g : Option (Nat × Bool)} {op : IK} {os : List IOper} : laysN (⟨d,g,op⟩ :: os)=(if op.lays=true then 1 else 0)+laysN os:=nr (laysN_cons _ _)
theorem e_lq {q : IQ} : (IK.q q).lays=false:=nr rfl
theorem e_lalloc {zs : List IV} : (IK.alloc zs).lays=true:=nr rfl
theorem e_lbox : (IK.box x).lays=true:=nr rfl
theorem e_lbsl {zs : List IV} {ps : List (Nat × Nat × IX)} : (IK.bsl esz n zs ps).lays=true:=nr rfl
theorem e_lapp : (IK.app esz x y).lays=true:=nr rfl
theorem e_lmkmap : IK.mkmap.lays=true:=nr rfl
theorem e_lmupd : (IK.mupd n x y z).lays=false:=nr rfl
theorem e_lsrange : (IK.srange x).lays=true:=nr rfl
theorem e_lsnext : (IK.snext x).lays=false:=nr rfl
theorem e_lmrange : (IK.mrange x).lays=true:=nr rfl
theorem e_lmksl {zs : List IV} : (IK.mksl esz zs x).lays=true:=nr rfl
theorem e_lclr {zs : List IV} : (IK.clr esz zs x).lays=false:=nr rfl
theorem e_lment : (IK.ment x).lays=false:=nr rfl
theorem e_lmnext : (IK.mnext x).lays=false:=nr rfl
theorem e_lboxt : (IK.boxt x).lays=false:=nr rfl
theorem e_lbslt {zs : List IV} {ps : List (Nat × Nat × IX)} : (IK.bslt esz n zs ps).lays=false:=nr rfl
theorem e_ibs : evq E fr σ (.ibs x y)=ibsI (x.ev E fr) (y.ev E fr):=nr rfl
theorem e_ibs1 : ibsI (.str s) (.int .u8 a)=if 0≤a∧a < 256 then some (.int .i64 (idxB a.toNat s 0)) else none:=nr rfl
theorem e_lstore : (IK.store n x y).lays=false:=nr rfl
theorem e_lcall {xs : List IX} : (IK.call n xs).lays=false:=nr rfl
theorem e_lpcall {xs : List IX} : (IK.pcall n xs).lays=false:=nr rfl
theorem e_lcallv {xs : List IX} : (IK.callv x xs).lays=false:=nr rfl
theorem e_map0 {α β : Type} {f : α→β} : List.map f []=[]:=nr rfl
theorem e_map1 {α β : Type} {f : α→β} {c : α} {cs : List α} : List.map f (c :: cs)=f c :: List.map f cs:=nr rfl
theorem e_om0 {α β : Type} {f : α→β} : Option.map f none=none:=nr rfl
theorem e_om1 {α β : Type} {f : α→β} {c : α} : Option.map f (some c)=some (f c):=nr rfl
theorem e_pickt : pickI (.bool true) v u=some v:=nr rfl
theorem e_pickf : pickI (.bool false) v u=some u:=nr rfl
theorem e_pick1 {c d : Bool} : pickI (.bool c) (.bool true) (.bool d)=some (.bool (c || d)):=by cases c <;> rfl
theorem e_pick2 {c d : Bool} : pickI (.bool c) (.bool d) (.bool false)=some (.bool (c && d)):=by cases c <;> rfl
theorem e_not1 {c : Bool} : notI (.bool c)=some (.bool !c):=nr rfl
theorem e_neg1 : negI (.int k a)=some (.int k (k.wrap (0 - a))):=nr rfl
theorem e_conv1 : convI k (.int k' a)=some (.int k (k.wrap a)):=nr rfl
theorem e_strId1 : strIdI (.str s)=some (.str s):=nr rfl
theorem e_add : binV .add (.int k a) (.int k b)=some (.int k (k.wrap (a+b))):=by simp [binV,binI]
theorem e_sub : binV .sub (.int k a) (.int k b)=some (.int k (k.wrap (a - b))):=by simp [binV,binI]
theorem e_mul : binV .mul (.int k a) (.int k b)=some (.int k (k.wrap (a * b))):=by simp [binV,binI]
theorem e_quo : binV .quo (.int k a) (.int k b)=if b=0 then none else some (.int k (k.wrap (a.tdiv b))):=by simp [binV,binI]
theorem e_rem : binV .rem (.int k a) (.int k b)=if b=0 then none else some (.int k (a.tmod b)):=by simp [binV,binI]
theorem e_eql : binV .eql (.int k a) (.int k b)=some (.bool (decide (a=b))):=by simp [binV,binI]
theorem e_neq : binV .neq (.int k a) (.int k b)=some (.bool (!decide (a=b))):=by simp [binV,binI]
theorem e_lss : binV .lss (.int k a) (.int k b)=some (.bool (decide (a < b))):=by simp [binV,binI]
theorem e_leq : binV .leq (.int k a) (.int k b)=some (.bool (decide (a≤b))):=by simp [binV,binI]
theorem e_gtr : binV .gtr (.int k a) (.int k b)=some (.bool (decide (b < a))):=by simp [binV,binI]
theorem e_geq : binV .geq (.int k a) (.int k b)=some (.bool (decide (b≤a))):=by simp [binV,binI]
theorem e_shl : binV .shl (.int k a) (.int k' b)=if 0≤b then some (.int k (k.wrap (a * 2 ^ (min b.toNat k.bits)))) else none:=by simp [binV]
theorem e_shr : binV .shr (.int k a) (.int k' b)=if 0≤b then some (.int k (a.fdiv (2 ^ (min b.toNat k.bits)))) else none:=by simp [binV]
theorem e_sadd : binV .add (.str s) (.str t)=if s.length+t.length < 2 ^ 62 then some (.str (s ++ t)) else none:=by simp [binV,binS]
theorem e_seql : binV .eql (.str s) (.str t)=some (.bool (decide (s=t))):=by simp [binV,binS]
theorem e_sneq : binV .neq (.str s) (.str t)=some (.bool (!decide (s=t))):=by simp [binV,binS]
theorem e_slss : binV .lss (.str s) (.str t)=some (.bool (Op.bytesLess s t)):=by simp [binV,binS]
theorem e_sleq : binV .leq (.str s) (.str t)=some (.bool (Op.bytesLess s t || decide (s=t))):=by simp [binV,binS]
theorem e_sgtr : binV .gtr (.str s) (.str t)=some (.bool (!(Op.bytesLess s t || decide (s=t)))):=by simp [binV,binS]
theorem e_sgeq : binV .geq (.str s) (.str t)=some (.bool (!Op.bytesLess s t)):=by simp [binV,binS]
theorem e_lent {es : List (List IV)} : lenK 0 σ (.tslice es)=some (.int .i64 es.length):=nr rfl
theorem e_lenn : lenK 0 σ .nilslice=some (.int .i64 0):=nr rfl
theorem e_lenz : lenK 0 σ .zslice=some (.int .i64 0):=nr rfl
theorem e_lene : lenK 0 σ .eslice=some (.int .i64 0):=nr rfl
theorem e_lens : lenK 0 σ (.slice n off len esz)=some (.int .i64 len):=nr rfl
theorem e_lenstr : lenK 1 σ (.str s)=some (.int .i64 s.length):=nr rfl
theorem e_nchkp : nchkI (.ptr n off)=some (.ptr n off):=nr rfl
theorem e_nchkt {cs : List IV} : nchkI (.tptr cs)=some (.tptr cs):=nr rfl
theorem e_nchkf {f : FuncId} {p q : List IV} : nchkI (.func (.func f) p q)=some (.func (.func f) p q):=nr rfl
theorem e_slzn : slzI .nilslice=some .nilslice:=nr rfl
theorem e_slzz : slzI .zslice=some .zslice:=nr rfl
theorem e_slze : slzI .eslice=some .zslice:=nr rfl
theorem e_slzt {es : List (List IV)} : slzI (.tslice es)=if es=[] then some (.tslice []) else some .zslice:=nr rfl
theorem e_slzs : slzI (.slice n off len esz)=some .zslice:=nr rfl
theorem e_ir0 : irL σ fr []=some []:=nr rfl
theorem e_irt : irL σ fr [.t n]=some [fr.get n]:=nr rfl
theorem e_irt2 : irL σ fr [.t n,.t m]=some [fr.get n,fr.get m]:=nr rfl
theorem e_irc {ag : Option Nat} : irL σ fr [.cell ag n]=(loadI σ ag (fr.get n)).map fun v => [v]:=by
 simp only [irL,irV]; cases loadI σ ag (fr.get n) <;> rfl
theorem e_resV1 : resV [v]=v:=nr rfl
theorem e_resV2 : resV [v,u]=.tuple [v,u]:=nr rfl
theorem e_resV0 : resV []=.tuple []:=nr rfl
/-! ### Memory -/
def loadO (ag : Option Nat) (off : Nat) : Option IObj→Option IV
 | some (.cells cs) | some (.row cs) => match ag with
  | none => (cs.drop off).head?
  | some n => if n≤(cs.drop off).length then some (.agg ((cs.drop off).take n)) else none
 | _ => none
theorem e_loadp {ag : Option Nat} : loadI σ ag (.ptr n off)=loadO ag off (σ.obj n):=by
 cases h : σ.obj n with
 | none => simp [loadI,cellsAt,loadO,h]
 | some o => cases o <;> cases ag <;> simp [loadI,cellsAt,loadO,h]
theorem e_loadt {cs : List IV} : loadI σ none (.tptr cs)=cs.head?:=nr rfl
theorem e_loadta {cs : List IV} : loadI σ (some n) (.tptr cs)=if n≤cs.length then some (.agg (cs.take n)) else none:=nr rfl
theorem e_lO1 {cs : List IV} : loadO none off (some (.cells cs))=(cs.drop off).head?:=nr rfl
theorem e_lO2 {cs : List IV} : loadO (some n) off (some (.cells cs))=if n≤(cs.drop off).length then some (.agg ((cs.drop off).take n)) else none:=nr rfl
theorem e_lO3 {cs : List IV} : loadO none off (some (.row cs))=(cs.drop off).head?:=nr rfl
theorem e_lO4 {cs : List IV} : loadO (some n) off (some (.row cs))=if n≤(cs.drop off).length then some (.agg ((cs.drop off).take n)) else none:=nr rfl
def storeO (σ : Store) (id off n : Nat) (vs : List IV) : Option IObj→Option Store
 | some (.cells cs) => if vs.length=n∧off+n≤cs.length∧vs.all IV.leaf=true then some (σ.put id (.cells (putL cs off vs))) else none
 | some (.row cs) => if vs.length=n∧off+n≤cs.length∧vs.all IV.leaf=true then some (σ.put id (.row (putL cs off vs))) else none
 | _ => none
theorem e_storep : storeI σ n (.ptr m off) v=storeO σ m off n v.cs (σ.obj m):=by
 cases h : σ.obj m with
 | none => simp [storeI,storeO,h]
 | some o => cases o <;> simp [storeI,storeO,h]
theorem e_sO1 {cs vs : List IV} : storeO σ m off n vs (some (.cells cs))=if vs.length=n∧off+n≤cs.length∧vs.all IV.leaf=true then some (σ.put m (.cells (putL cs off vs))) else none:=nr rfl
theorem e_sO2 {cs vs : List IV} : storeO σ m off n vs (some (.row cs))=if vs.length=n∧off+n≤cs.length∧vs.all IV.leaf=true then some (σ.put m (.row (putL cs off vs))) else none:=nr rfl
theorem e_iaddrt {es : List (List IV)} : iaddrI esz (.tslice es) (.int k a)=if 0≤a∧a < es.length∧(es.getD a.toNat []).length=esz then some (.tptr (es.getD a.toNat [])) else none:=nr rfl
theorem e_iaddrs : iaddrI esz (.slice n off len m) (.int k a)=if 0≤a∧a < len∧m=esz then some (.ptr n (off+a.toNat * esz)) else none:=nr rfl
theorem e_movet {cs : List IV} : moveI n (.tptr cs)=some (.tptr (cs.drop n)):=nr rfl
theorem e_movep : moveI n (.ptr m off)=some (.ptr m (off+n)):=nr rfl
theorem e_csagg {cs : List IV} : IV.cs (.agg cs)=cs:=nr rfl
theorem e_csint : IV.cs (.int k a)=[.int k a]:=nr rfl
theorem e_csbool {c : Bool} : IV.cs (.bool c)=[.bool c]:=nr rfl
theorem e_csstr : IV.cs (.str s)=[.str s]:=nr rfl
theorem e_csptr : IV.cs (.ptr n off)=[.ptr n off]:=nr rfl
theorem e_cstptr {cs : List IV} : IV.cs (.tptr cs)=[.tptr cs]:=nr rfl
theorem e_csslice : IV.cs (.slice n off len esz)=[.slice n off len esz]:=nr rfl
theorem e_cstslice {es : List (List IV)} : IV.cs (.tslice es)=[.tslice es]:=nr rfl
theorem e_csfunc {f : Fn} {p q : List IV} : IV.cs (.func f p q)=[.func f p q]:=nr rfl
theorem e_csmap : IV.cs (.map n)=[.map n]:=nr rfl
theorem e_cstmap {es : List (IV × IV)} : IV.cs (.tmap es)=[.tmap es]:=nr rfl
theorem e_csns : IV.cs .nilslice=[.nilslice]:=nr rfl
theorem e_cszs : IV.cs .zslice=[.zslice]:=nr rfl
theorem e_cses : IV.cs .eslice=[.eslice]:=nr rfl
theorem e_csnp : IV.cs .nilptr=[.nilptr]:=nr rfl
theorem e_lfint : IV.leaf (.int k a)=true:=nr rfl
theorem e_lfbool {c : Bool} : IV.leaf (.bool c)=true:=nr rfl
theorem e_lfstr : IV.leaf (.str s)=true:=nr rfl
theorem e_lfptr : IV.leaf (.ptr n off)=true:=nr rfl
theorem e_lftptr {cs : List IV} : IV.leaf (.tptr cs)=true:=nr rfl
theorem e_lfslice : IV.leaf (.slice n off len esz)=true:=nr rfl
theorem e_lftslice {es : List (List IV)} : IV.leaf (.tslice es)=true:=nr rfl
theorem e_lffunc {f : Fn} {p q : List IV} : IV.leaf (.func f p q)=true:=nr rfl
theorem e_lfmap : IV.leaf (.map n)=true:=nr rfl
theorem e_lftmap {es : List (IV × IV)} : IV.leaf (.tmap es)=true:=nr rfl
theorem e_lfns : IV.leaf .nilslice=true:=nr rfl
theorem e_lfzs : IV.leaf .zslice=true:=nr rfl
theorem e_lfes : IV.leaf .eslice=true:=nr rfl
theorem e_lfnp : IV.leaf .nilptr=true:=nr rfl
def snextO (σ : Store) (id : Nat) : Option IObj→Option (IV × Store)
 | some (.siter s pos) => if pos < s.length then some (.tuple [.bool true,.int .i64 pos,.int .i32 (Utf8.decode ⟨s.toArray⟩ pos).1],σ.put id (.siter s (pos+(Utf8.decode ⟨s.toArray⟩ pos).2))) else some (.tuple [.bool false],σ)
 | _ => none
theorem e_snext : snextI σ (.ptr n 0)=snextO σ n (σ.obj n):=by
 cases h : σ.obj n with
 | none => simp [snextI,snextO,h]
 | some o => cases o <;> simp [snextI,snextO,h]
theorem e_nO {pos : Nat} : snextO σ n (some (.siter s pos))=if pos < s.length then some (.tuple [.bool true,.int .i64 pos,.int .i32 (Utf8.decode ⟨s.toArray⟩ pos).1],σ.put n (.siter s (pos+(Utf8.decode ⟨s.toArray⟩ pos).2))) else some (.tuple [.bool false],σ):=nr rfl
theorem e_ext1 {cs : List IV} : extI n (.tuple cs)=cs[n]?:=by cases h : cs[n]? <;> simp [extI,h]
theorem e_eta : (Store.mk σ.next σ.obj)=σ:=nr rfl
theorem wrap64 {x : Int} (h1 : -9223372036854775808≤x) (h2 : x < 9223372036854775808) : IntKind.i64.wrap x=x:=by
 simp [IntKind.wrap,IntKind.bits,IntKind.signed]
 omega
end Go.Id
/- Memory that is done with becomes a tree: from the contract of a function that lays blocks to a pure one. Conditions: none; over any program. -/
namespace Go.Id
open Go
variable {P : Program} {w w' w'' : World} {ρ ρ' ρ'' : Rho} {E : Nat→IV} {σ σ' : Store} {N n n' : Nat}
abbrev Bnd (n : Nat) (v : IV) : Prop:=Nm (fun i => i < n) v
abbrev FrzN (σ : Store) (n : Nat) (v v' : IV) : Prop:=Frz σ (fun i => i < n) v v'
def Rho.cut (ρ : Rho) (n : Nat) : Rho:=⟨fun i => if i < n then ρ i else .no,ρ.X⟩
theorem cut_is (ρ : Rho) (n : Nat) : IsCut (fun i => i < n) ρ (ρ.cut n) :=
 ⟨fun i h => by show (if i < n then ρ i else RRef.no)=_; rw [if_pos h],fun i h => by show (if i < n then ρ i else RRef.no)=_; rw [if_neg h],fun _ h => .inl h⟩
theorem below_live (hf : ∀ i,n≤i→ρ i=.no) : ∀ i,ρ i≠.no→i < n:=fun i h => by
 rcases Nat.lt_or_ge i n with h' | h'
 ·exact h'
 ·exact absurd (hf i h') h
theorem C_frz {f : Nat} {args : List IV} {v : IV}
  (h : (∀ a∈args,Bnd σ.next a)→C P E f args σ fun v' σ' => (∀ i,i < σ.next→σ'.obj i=σ.obj i)∧σ.next≤σ'.next∧FrzN σ' σ.next v' v) : C P E f args σ (oneQ v σ):=by
 intro ρ w rargs hs ha
 have hlv:=below_live hs.fresh
 have hba : ∀ a∈args,Bnd σ.next a:=fun a hm => let ⟨i,hi,he⟩:=mem_getD (d:=.undef) hm; he ▸ (ha.2 i hi).nm hlv
 refine CallsIn.mono (h hba ρ w rargs hs ha) ?_
 rintro e w' ⟨v',r,ρ',σ',rfl,⟨hob,hle,hfrz⟩,hs',hv',hx⟩
 have hno : ∀ i,σ.next≤i→σ.obj i=none:=fun i hi => hs.noObj i (hs.fresh i hi)
 have hk:=cut_is ρ' σ.next
 refine ⟨v,r,ρ'.cut σ.next,σ,rfl,⟨rfl,rfl⟩,hs'.cutS hk hob (fun i hi => hno i (by omega)) (fun i o _ ho => hs.nmO hlv i o ho) (fun i hi => hk.off i (by omega)) (fun g => (hs.env g).nm hlv),hfrz.vr hk rfl hs' r hv',?_⟩
 exact ⟨hx.size,hx.keep,hx.shape,fun i B d hi => hx.img i B d (hk.at hi).2,fun i B d hi h => by rw [hk.on i hi]; exact hx.at_ i B d hi h,fun i hi h => by rw [hk.on i hi]; exact hx.dead i hi h,fun i hi h => by rw [hk.on i hi]; exact hx.no i hi h,hx.output,hx.os,hx.tape,hx.loops,hx.X⟩
theorem PC_C {f : Nat} {args : List IV} {v : IV} (h : PC P E f args v) : C P E f args σ (oneQ v σ):=h σ
theorem PC_frz {f : Nat} {args : List IV} {v : IV}
  (h : ∀ σ,(∀ a∈args,Bnd σ.next a)→C P E f args σ fun v' σ' => (∀ i,i < σ.next→σ'.obj i=σ.obj i)∧σ.next≤σ'.next∧FrzN σ' σ.next v' v) : PC P E f args v :=
 fun σ => C_frz (h σ)
theorem PC_TF {pt : PT} {ct : CT} {pf : List Nat} (hT : TOK P E pt ct) {f : Nat} {an : Ann} {ic : IC} {irs : List IR} {args : List IV} {v : IV} (hf : FnOK P f N pf an ic irs) (hl : args.length≤N)
  (h : ∀ σ,(∀ a∈args,Bnd σ.next a)→wpT pt ct P E N σ.next ic (argFr args 0) σ (funT irs fun v' σ' => (∀ i,i < σ.next→σ'.obj i=σ.obj i)∧σ.next≤σ'.next∧FrzN σ' σ.next v' v)) : PC P E f args v :=
 PC_frz fun σ hb => C_T hT hf hl (h σ hb)
/-! ### A pure function,on what is one's own -/
def IV.plain : IV→Bool
 | .bool _ | .int _ _ | .str _ => true
 | .tuple vs => vs.attach.all fun ⟨v,_⟩ => v.plain
 | .agg vs => vs.attach.all fun ⟨v,_⟩ => v.plain
 | _ => false
theorem plain_vr {v : IV} {r : Value} (h : v.plain=true) (hv : VR ρ w v r) : VR ρ' w' v r:=by
 induction hv with
 | bool b => exact .bool _
 | int k n => exact .int _ _
 | str s => exact .str _
 | agg cs rs hl hv ih =>
  refine .agg cs rs hl fun i hi => ih i hi ?_
  unfold IV.plain at h
  exact List.all_eq_true.1 h ⟨_,getD_mem .undef hi⟩ (List.mem_attach _ _)
 | tuple cs rs hl hv ih =>
  refine .tuple cs rs hl fun i hi => ih i hi ?_
  unfold IV.plain at h
  exact List.all_eq_true.1 h ⟨_,getD_mem .undef hi⟩ (List.mem_attach _ _)
 | _ => simp [IV.plain] at h
theorem exists_lock (S : Nat→Prop) (ρ : Rho) : ∃ ρ' : Rho,IsCut S ρ ρ'∧∀ b,ρ'.X b ↔ ρ.X b ∨ ∃ i d,¬ S i∧ρ i=.at b d:=by
 refine ⟨⟨fun i => if Classical.propDecidable (S i) |>.decide then ρ i else .no,fun b => ρ.X b ∨ ∃ i d,¬ S i∧ρ i=.at b d⟩,⟨fun i h => ?_,fun i h => ?_,fun b h => h⟩,fun b => Iff.rfl⟩
 ·show (if (Classical.propDecidable (S i)).decide=true then ρ i else RRef.no)=_
  rw [if_pos (by simpa using h)]
 ·show (if (Classical.propDecidable (S i)).decide=true then ρ i else RRef.no)=_
  rw [if_neg (by simpa using h)]
def Store.only (σ : Store) (S : Nat→Bool) : Store:=⟨σ.next,fun i => if S i then σ.obj i else none⟩
theorem PC_empty {f : Nat} {args : List IV} {v : IV} (hE : ∀ g,Bnd 0 (E g)) (ha : ∀ a∈args,Bnd 0 a) (h : C P E f args ⟨0,fun _ => none⟩ fun v' σ' => FrzN σ' 0 v' v) : PC P E f args v:=by
 intro σ ρ w rargs hs hr
 obtain ⟨ρ0,hk,hX⟩:=exists_lock (fun _ => False) ρ
 have hs0 : Sim E ρ0 w ⟨0,fun _ => none⟩:=hs.cutS hk (fun i h => h.elim) (fun _ _ => rfl) (fun i o h => h.elim) (fun i _ => hk.off i (fun h => h)) (fun g => (hE g).weak fun i h => absurd h (Nat.not_lt_zero _))
 have hr0 : CR ρ0 w args rargs:=⟨hr.1,fun i hi => (hr.2 i hi).cut hk ((ha _ (getD_mem _ hi)).weak fun i h => absurd h (Nat.not_lt_zero _))⟩
 refine CallsIn.mono (h ρ0 w rargs hs0 hr0) ?_
 rintro e w' ⟨v',r,ρ',σ',rfl,hfz,hs',hv',hx⟩
 have hno0 : ∀ i,ρ0 i=.no:=fun i => hk.off i (fun h => h)
 have hkeep : ∀ b,b < w.heap.size→w'.heap[b]? = w.heap[b]?:=fun b hb => hx.keep b ⟨hb,fun i d h => by rw [hno0 i] at h; cases h⟩
 have hlt : ∀ (b : Nat) (o : Obj),w.heap[b]? = some o→b < w.heap.size:=fun b o h => by
  rcases Nat.lt_or_ge b w.heap.size with h' | h'
  ·exact h'
  ·rw [Array.getElem?_eq_none h'] at h; cases h
 have hext : ∀ n,Ext n ρ w ρ w':=fun n =>
  ⟨hx.size,fun b hb => hkeep b hb.1,fun b rcs el fz h => ⟨rcs,by rw [hkeep b (hlt b _ h)]; exact h,rfl⟩,fun i B d h => .inl ⟨i,d,h⟩,fun i B d h => .inl h,fun i h => h,fun i _ h => h,hx.output,hx.os,hx.tape,fun l L h => ⟨L,by rw [hkeep l (hlt l _ h)]; exact h⟩,rfl⟩
 -- the tree lies on no block that is in use
 let ρ1 : Rho:=⟨fun _ => .no,ρ'.X⟩
 have hk1 : IsCut (fun i => i < 0) ρ' ρ1:=⟨fun i h => absurd h (Nat.not_lt_zero _),fun i _ => rfl,fun b h => .inl h⟩
 have hv1 : VR ρ1 w' v r:=hfz.vr hk1 rfl hs' r hv'
 have hv2 : VR ρ w' v r:=hv1.refs (fun i h => absurd rfl h) fun b hb => ⟨hb.1,fun i d hi => hb.3 (by
   show ρ'.X b
   rw [hx.X]
   exact (hX b).2 (.inr ⟨i,d,fun h => h,hi⟩)),fun hxb => hb.3 (by
   show ρ'.X b
   rw [hx.X]
   exact (hX b).2 (.inl hxb))⟩
 refine ⟨v,r,ρ,σ,rfl,⟨rfl,rfl⟩,⟨hs.inj,fun i B d h => Nat.lt_of_lt_of_le (hs.lt i B d h) hx.size,fun i B d h => ?_,hs.dead,hs.fresh,hs.noObj,fun g => (hs.env g).mono (hext 0),hs.nx,fun b h => Nat.lt_of_lt_of_le (hs.xlt b h) hx.size⟩,hv2,(hext σ.next).weak (Nat.le_refl _)⟩
 obtain ⟨o,h1,h2⟩:=hs.obj i B d h
 exact ⟨o,h1,h2.mono (hext 0) (hkeep B (hs.lt i B d h))⟩
def Store.kills (σ : Store) (S : Nat→Bool) : Store:=⟨σ.next,fun i => if S i then σ.obj i else none⟩
theorem exists_kill {S : Nat→Bool} (hs : Sim E ρ w σ) : ∃ ρd : Rho,Sim E ρd w (σ.kills S)∧(∀ n,Ext n ρ w ρd w)∧∀ v v' r,Frz σ (fun i => S i=true) v v'→VR ρ w v r→VR ρd w v' r:=by
 let ρc : Rho:=⟨fun i => if S i then ρ i else .no,ρ.X⟩
 let ρd : Rho:=⟨fun i => if S i then ρ i else match ρ i with | .no => .no | _ => .dead,ρ.X⟩
 have con : ∀ i,S i=true→ρc i=ρ i:=fun i h => by show (if S i=true then ρ i else .no)=_; rw [if_pos h]
 have coff : ∀ i,S i=false→ρc i=.no:=fun i h => by show (if S i=true then ρ i else .no)=_; rw [if_neg (by simp [h])]
 have don : ∀ i,S i=true→ρd i=ρ i:=fun i h => by show (if S i=true then ρ i else _)=_; rw [if_pos h]
 have doff : ∀ i,S i=false→ρd i=(match ρ i with | .no => .no | _ => .dead):=fun i h => by show (if S i=true then ρ i else _)=_; rw [if_neg (by simp [h])]
 have hdat : ∀ i B d,ρd i=.at B d→S i=true∧ρ i=.at B d:=fun i B d h => by
  cases hsi : S i with
  | true => rw [don i hsi] at h; exact ⟨rfl,h⟩
  | false => rw [doff i hsi] at h; cases hri : ρ i <;> rw [hri] at h <;> cases h
 have hk : IsCut (fun i => S i=true) ρ ρc:=⟨con,fun i h => coff i (by simpa using h),fun b h => .inl h⟩
 have hxd : ∀ n,Ext n ρ w ρd w:=fun n => ext_rho (fun i B d h => by
   cases hsi : S i with
   | true => rw [don i hsi]; exact .inl h
   | false => rw [doff i hsi,h]; exact .inr rfl) (fun i h => by
   cases hsi : S i with
   | true => rw [don i hsi]; exact h
   | false => rw [doff i hsi,h]) (fun i _ h => by
   cases hsi : S i with
   | true => rw [don i hsi]; exact h
   | false => rw [doff i hsi,h]) (fun i B d h => ⟨i,d,(hdat i B d h).2⟩) rfl
 have hxc : Ext 0 ρc w ρd w:=ext_rho (fun i B d h => by
   obtain ⟨h1,h2⟩:=hk.at h
   exact .inl (by rw [don i h1]; exact h2)) (fun i h => by
   cases hsi : S i with
   | true => rw [con i hsi] at h; rw [don i hsi]; exact h
   | false => rw [coff i hsi] at h; cases h) (fun i hi _ => absurd hi (Nat.not_lt_zero _)) (fun i B d h => ⟨i,d,by rw [con i (hdat i B d h).1]; exact (hdat i B d h).2⟩) rfl
 refine ⟨ρd,?_,hxd,fun v v' r hf hv => (hf.vr hk rfl hs r hv).mono hxc⟩
 refine ⟨fun i j B d d' hi hj => hs.inj i j B d d' (hdat _ _ _ hi).2 (hdat _ _ _ hj).2,fun i B d hi => hs.lt i B d (hdat _ _ _ hi).2,fun i B d hi => ?_,fun i hi => ?_,fun i hi => ?_,fun i hi => ?_,fun g => (hs.env g).mono (hxd 0),fun i B d hi => hs.nx i B d (hdat _ _ _ hi).2,hs.xlt⟩
 ·obtain ⟨h1,h2⟩:=hdat _ _ _ hi
  obtain ⟨o,g1,g2⟩:=hs.obj i B d h2
  exact ⟨o,by simp [Store.kills,h1,g1],g2.mono (hxd 0) rfl⟩
 ·cases hsi : S i with
  | true => rw [don i hsi] at hi; simp [Store.kills,hsi,hs.dead i hi]
  | false => simp [Store.kills,hsi]
 ·have hn : σ.next≤i:=hi
  have:=hs.fresh i hn
  cases hsi : S i with
  | true => rw [don i hsi]; exact this
  | false => rw [doff i hsi,this]
 ·cases hsi : S i with
  | true => rw [don i hsi] at hi; simp [Store.kills,hsi,hs.noObj i hi]
  | false => simp [Store.kills,hsi]
theorem C_kill {S : Nat→Bool} {f : Nat} {args args' : List IV} {Q : IV→Store→Prop} (hl : args'.length=args.length) (ha : ∀ i,i < args.length→Frz σ (fun i => S i=true) (args.getD i .undef) (args'.getD i .undef))
  (h : C P E f args' (σ.kills S) Q) : C P E f args σ Q:=by
 intro ρ w rargs hs hr
 obtain ⟨ρd,hs0,hxd,hvd⟩:=exists_kill (S:=S) hs
 have hr0 : CR ρd w args' rargs:=⟨by rw [hl]; exact hr.1,fun i hi => hvd _ _ _ (ha i (by omega)) (hr.2 i (by omega))⟩
 refine CallsIn.mono (h ρd w rargs hs0 hr0) ?_
 rintro e w' ⟨v,r,ρ',σ',rfl,hq,hs',hv',hx⟩
 exact ⟨v,r,ρ',σ',rfl,hq,hs',hv',((hxd σ.next).weak (Nat.le_refl _)).trans hx⟩
theorem C_still {f : Nat} {args args' : List IV} {v : IV} (hE : ∀ g,Bnd 0 (E g)) (hl : args'.length=args.length) (ha : ∀ i,i < args.length→FrzN σ 0 (args.getD i .undef) (args'.getD i .undef)) (hp : v.plain=true) (h : PC P E f args' v) : C P E f args σ (oneQ v σ):=by
 intro ρ w rargs hs hr
 have hk:=cut_is ρ 0
 have hs0 : Sim E (ρ.cut 0) w ⟨0,fun _ => none⟩:=hs.cutS hk (fun i h => absurd h (Nat.not_lt_zero _)) (fun _ _ => rfl) (fun i o h => absurd h (Nat.not_lt_zero _)) (fun i _ => hk.off i (Nat.not_lt_zero _)) hE
 have hr0 : CR (ρ.cut 0) w args' rargs:=⟨by rw [hl]; exact hr.1,fun i hi => (ha i (by omega)).vr hk rfl hs _ (hr.2 i (by omega))⟩
 refine CallsIn.mono (h ⟨0,fun _ => none⟩ (ρ.cut 0) w rargs hs0 hr0) ?_
 rintro e w' ⟨v',r,ρ',σ',rfl,⟨rfl,rfl⟩,hs',hv',hx⟩
 have hkeep : ∀ b,b < w.heap.size→w'.heap[b]? = w.heap[b]?:=fun b hb => hx.keep b ⟨hb,fun i d h => absurd (hk.at h).1 (Nat.not_lt_zero _)⟩
 have hlt : ∀ (b : Nat) (o : Obj),w.heap[b]? = some o→b < w.heap.size:=fun b o h => by
  rcases Nat.lt_or_ge b w.heap.size with h' | h'
  ·exact h'
  ·rw [Array.getElem?_eq_none h'] at h; cases h
 have hext : ∀ n,Ext n ρ w ρ w':=fun n =>
  ⟨hx.size,fun b hb => hkeep b hb.1,fun b rcs el fz h => ⟨rcs,by rw [hkeep b (hlt b _ h)]; exact h,rfl⟩,fun i B d h => .inl ⟨i,d,h⟩,fun i B d h => .inl h,fun i h => h,fun i _ h => h,hx.output,hx.os,hx.tape,fun l L h => ⟨L,by rw [hkeep l (hlt l _ h)]; exact h⟩,rfl⟩
 refine ⟨_,r,ρ,σ,rfl,⟨rfl,rfl⟩,⟨hs.inj,fun i B d h => Nat.lt_of_lt_of_le (hs.lt i B d h) hx.size,fun i B d h => ?_,hs.dead,hs.fresh,hs.noObj,fun g => (hs.env g).mono (hext 0),hs.nx,fun b h => Nat.lt_of_lt_of_le (hs.xlt b h) hx.size⟩,plain_vr hp hv',(hext σ.next).weak (Nat.le_refl _)⟩
 obtain ⟨o,h1,h2⟩:=hs.obj i B d h
 exact ⟨o,h1,h2.mono (hext 0) (hkeep B (hs.lt i B d h))⟩
end Go.Id
