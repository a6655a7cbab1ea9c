/- Contracts,codes,regions: the ideal semantics over the kit's calculus. Conditions: none; over any program. -/
import Derived.Test.YtiallonafbejaaaGreatDoorFwD
import Derived.RangeFuncRecord
import Derived.RangeFuncIn
import Derived.OrdersIn
set_option linter.all false
namespace Go.Id
open Go
structure ExtW (n : Nat) (ρ : Rho) (w : World) (ρ' : Rho) (w' : World) : Prop where
 size : w.heap.size≤w'.heap.size
 keep : ∀ b,UB ρ w b→w'.heap[b]? = w.heap[b]?
 shape : ∀ (b : Nat) (rcs : Array Value) (el : TypeId) (fz : Nat × Nat),w.heap[b]? = some (.cells rcs el fz)→∃ rcs' : Array Value,w'.heap[b]? = some (.cells rcs' el fz)∧rcs'.size=rcs.size
 img : ∀ i B d,ρ' i=.at B d→(∃ j d',ρ j=.at B d') ∨ w.heap.size≤B
 at_ : ∀ i B d,i < n→ρ i=.at B d→ρ' i=.at B d ∨ ρ' i=.dead
 dead : ∀ i,i < n→ρ i=.dead→ρ' i=.dead
 no : ∀ i,i < n→ρ i=.no→ρ' i=.no
 output : w'.output=w.output
 os : w'.os=w.os
 tape : w'.tape=w.tape
 loops : ∀ (l : Nat) (L : Loop),w.heap[l]? = some (Obj.loop L)→∃ L' : Loop,w'.heap[l]? = some (Obj.loop L')
 X : ρ'.X=ρ.X
variable {P : Program} {w w' w'' : World} {ρ ρ' ρ'' : Rho} {E : Nat→IV} {σ σ' : Store} {N n n' : Nat} {fr : Frm} {a : Act}
theorem Ext.weak (h : Ext n ρ w ρ' w') (hn : n'≤n) : ExtW n' ρ w ρ' w' :=
 ⟨h.size,h.keep,h.shape,h.img,fun i B d _ hi => h.at_ i B d hi,fun i _ hi => h.dead i hi,fun i hi h0 => h.no i (Nat.lt_of_lt_of_le hi hn) h0,h.output,h.os,h.tape,h.loops,h.X⟩
theorem ExtW.refl (n : Nat) (ρ : Rho) (w : World) : ExtW n ρ w ρ w:=(Ext.refl n ρ w).weak (Nat.le_refl _)
theorem ExtW.le (h : ExtW n ρ w ρ' w') (hn : n'≤n) : ExtW n' ρ w ρ' w' :=
 ⟨h.size,h.keep,h.shape,h.img,fun i B d hi => h.at_ i B d (Nat.lt_of_lt_of_le hi hn),fun i hi => h.dead i (Nat.lt_of_lt_of_le hi hn),fun i hi => h.no i (Nat.lt_of_lt_of_le hi hn),h.output,h.os,h.tape,h.loops,h.X⟩
theorem ExtW.ub (h : ExtW n ρ w ρ' w') {b : Nat} (hb : UB ρ w b) : UB ρ' w' b:=by
 refine ⟨Nat.lt_of_lt_of_le hb.1 h.size,fun i d hi => ?_⟩
 rcases h.img i b d hi with ⟨j,d',hj⟩ | hlt
 ·exact hb.2 j d' hj
 ·exact absurd hb.1 (Nat.not_lt.2 hlt)
theorem ExtW.trans (h : ExtW n ρ w ρ' w') (h' : ExtW n ρ' w' ρ'' w'') : ExtW n ρ w ρ'' w'' where
 size:=Nat.le_trans h.size h'.size
 keep:=fun b hb => by rw [h'.keep b (h.ub hb),h.keep b hb]
 shape:=fun b rcs el fz hb => by
  obtain ⟨r1,h1,s1⟩:=h.shape b rcs el fz hb
  obtain ⟨r2,h2,s2⟩:=h'.shape b r1 el fz h1
  exact ⟨r2,h2,by rw [s2,s1]⟩
 img:=fun i B d hi => by
  rcases h'.img i B d hi with ⟨j,d',hj⟩ | hlt
  ·exact h.img j B d' hj
  ·exact .inr (Nat.le_trans h.size hlt)
 at_:=fun i B d hn hi => by
  rcases h.at_ i B d hn hi with h1 | h1
  ·exact h'.at_ i B d hn h1
  ·exact .inr (h'.dead i hn h1)
 dead:=fun i hn hi => h'.dead i hn (h.dead i hn hi)
 no:=fun i hi h0 => h'.no i hi (h.no i hi h0)
 output:=by rw [h'.output,h.output]
 os:=by rw [h'.os,h.os]
 tape:=by rw [h'.tape,h.tape]
 loops:=fun l L hl => let ⟨L',h1⟩:=h.loops l L hl; h'.loops l L' h1
 X:=by rw [h'.X,h.X]
theorem ExtW.ext (h : ExtW n ρ w ρ' w') (hf : ∀ i,n≤i→ρ i=.no) : Ext n ρ w ρ' w' :=
 ⟨h.size,h.keep,h.shape,h.img,
  fun i B d hi => h.at_ i B d (Nat.lt_of_not_le fun hle => by rw [hf i hle] at hi; cases hi) hi,
  fun i hi => h.dead i (Nat.lt_of_not_le fun hle => by rw [hf i hle] at hi; cases hi) hi,
  h.no,h.output,h.os,h.tape,h.loops,h.X⟩
def fw (ro : Option Nat) : Fence:={ Fence.wide with round:=ro }
def RO (ro : Option Nat) (w : World) : Prop:=∀ l,ro=some l→∃ L : Loop,w.heap[l]? = some (.loop L)
inductive DF (h0 : Nat) (ρ : Rho) (w : World) : List Deferred→Prop
 | nil (hz : h0≤w.heap.size) : DF h0 ρ w []
 | cons (r : Nat) (ds : List Deferred) (hr : w.heap[r]? = some (.deferred (some []))) (hb : UB ρ w r) (hh : h0≤r) (hn : ∀ d∈ds,d.target=.collected r→False) (h : DF h0 ρ w ds) : DF h0 ρ w ({ target:=.collected r,args:=#[] } :: ds)
theorem DF.mono {h0 : Nat} {ds : List Deferred} (hx : ExtW n ρ w ρ' w') (h : DF h0 ρ w ds) : DF h0 ρ' w' ds:=by
 induction h with
 | nil hz => exact .nil (Nat.le_trans hz hx.size)
 | cons r ds hr hb hh hn _ ih => exact .cons r ds (by rw [hx.keep r hb]; exact hr) (hx.ub hb) hh hn ih
theorem DF.size {h0 : Nat} {ds : List Deferred} (h : DF h0 ρ w ds) : h0≤w.heap.size:=by
 induction h with
 | nil hz => exact hz
 | cons r ds _ _ _ _ _ ih => exact ih
theorem RO.mono {ro : Option Nat} (h : RO ro w) (hl : ExtW n ρ w ρ' w') : RO ro w':=fun l e => let ⟨L,h1⟩:=h l e; hl.loops l L h1
def C (P : Program) (E : Nat→IV) (f : FuncId) (args : List IV) (σ : Store) (Q : IV→Store→Prop) : Prop :=
 ∀ (ρ : Rho) (w : World) (rargs : Array Value),Sim E ρ w σ→CR ρ w args rargs→CallsIn Fence.wide 0 P f rargs w fun e w' =>
  ∃ v r ρ' σ',e=.returned r∧Q v σ'∧Sim E ρ' w' σ'∧VR ρ' w' v r∧ExtW σ.next ρ w ρ' w'
def R (P : Program) (E : Nat→IV) (N n0 : Nat) (c : Code) (fr : Frm) (σ : Store) (Q : Exit→Frm→Store→Prop) : Prop :=
 n0≤σ.next→∀ (ro : Option Nat) (h0 : Nat) (ρ : Rho) (w : World) (a : Act),Sim E ρ w σ→FR ρ w N fr a.tmps→DF h0 ρ w a.defers→RO ro w →
  c.wpIn (fw ro) 0 P (fun e a' w' => ∃ fr' σ' ρ',n0≤σ'.next∧Q e fr' σ'∧Sim E ρ' w' σ'∧FR ρ' w' N fr' a'.tmps∧DF h0 ρ' w' a'.defers∧RO ro w'∧ExtW n0 ρ w ρ' w') a w
theorem C.mono {f : FuncId} {args : List IV} {Q Q' : IV→Store→Prop} (h : C P E f args σ Q) (hq : ∀ v σ',Q v σ'→Q' v σ') : C P E f args σ Q' :=
 fun ρ w rargs hs hc => (h ρ w rargs hs hc).mono fun _ _ ⟨v,r,ρ',σ',he,q,rest⟩ => ⟨v,r,ρ',σ',he,hq v σ' q,rest⟩
theorem R.mono {n0 : Nat} {c : Code} {Q Q' : Exit→Frm→Store→Prop} (h : R P E N n0 c fr σ Q) (hq : ∀ e fr σ,Q e fr σ→Q' e fr σ) : R P E N n0 c fr σ Q' :=
 fun hn ro h0 ρ w a hs hf hd hr => wpIn_mono (h hn ro h0 ρ w a hs hf hd hr) fun _ _ _ ⟨fr',σ',ρ',hn',q,rest⟩ => ⟨fr',σ',ρ',hn',hq _ _ _ q,rest⟩
/-! ### Codes -/
def thenQ (P : Program) (E : Nat→IV) (N n0 : Nat) (y : Code) (Q : Exit→Frm→Store→Prop) : Exit→Frm→Store→Prop
 | .normal,fr,σ => R P E N n0 y fr σ Q
 | e,fr,σ => Q e fr σ
theorem R_seq {n0 : Nat} {x y : Code} {Q : Exit→Frm→Store→Prop} (h : R P E N n0 x fr σ (thenQ P E N n0 y Q)) : R P E N n0 (.seq x y) fr σ Q:=by
 intro hn ro h0 ρ w a hs hf hd hr
 refine wpIn_seq (wpIn_mono (h hn ro h0 ρ w a hs hf hd hr) ?_)
 rintro e a' w' ⟨fr',σ',ρ',hn',q,hs',hf',hd',hr',hx⟩
 cases e with
 | normal =>
  refine wpIn_mono (q hn' ro h0 ρ' w' a' hs' hf' hd' hr') ?_
  rintro e a'' w'' ⟨fr'',σ'',ρ'',hn'',q',hs'',hf'',hd'',hr'',hx'⟩
  exact ⟨fr'',σ'',ρ'',hn'',q',hs'',hf'',hd'',hr'',hx.trans hx'⟩
 | _ => exact ⟨fr',σ',ρ',hn',q,hs',hf',hd',hr',hx⟩
theorem R_skip {n0 : Nat} {Q : Exit→Frm→Store→Prop} (h : Q .normal fr σ) : R P E N n0 .skip fr σ Q :=
 fun hn _ _ ρ w _ hs hf hd hr => wpIn_skip ⟨fr,σ,ρ,hn,h,hs,hf,hd,hr,ExtW.refl _ _ _⟩
theorem R_label {n0 l : Nat} {Q : Exit→Frm→Store→Prop} (h : Q .normal fr σ) : R P E N n0 (.label l) fr σ Q :=
 fun hn _ _ ρ w _ hs hf hd hr => wpIn_label ⟨fr,σ,ρ,hn,h,hs,hf,hd,hr,ExtW.refl _ _ _⟩
theorem R_exit {n0 id : Nat} {Q : Exit→Frm→Store→Prop} (h : Q (.exit id) fr σ) : R P E N n0 (.exit id) fr σ Q :=
 fun hn _ _ ρ w _ hs hf hd hr => wpIn_exit ⟨fr,σ,ρ,hn,h,hs,hf,hd,hr,ExtW.refl _ _ _⟩
theorem R_ret {n0 : Nat} {Q : Exit→Frm→Store→Prop} (h : Q .ret fr σ) : R P E N n0 .ret fr σ Q :=
 fun hn _ _ ρ w _ hs hf hd hr => wpIn_ret ⟨fr,σ,ρ,hn,h,hs,hf,hd,hr,ExtW.refl _ _ _⟩
theorem R_cond {n0 : Nat} {c : Operand} {ic : IX} {x y : Code} {b : Bool} {Q : Exit→Frm→Store→Prop} (hc : cmpX c=some ic) (hb : ic.ev E fr=.bool b) (h : R P E N n0 (if b then x else y) fr σ Q) : R P E N n0 (.cond c x y) fr σ Q:=by
 intro hn ro h0 ρ w a hs hf hd hr
 have hv:=cmpX_sound (a:=a) hc hs hf
 rw [hb] at hv
 generalize hr' : a.eval c=r at hv
 cases hv
 exact wpIn_cond hr' (h hn ro h0 ρ w a hs hf hd hr)
def blockQ (id : Nat) (Q : Exit→Frm→Store→Prop) : Exit→Frm→Store→Prop
 | .exit id',fr,σ => if id'=id then Q .normal fr σ else Q (.exit id') fr σ
 | e,fr,σ => Q e fr σ
theorem R_block {n0 id : Nat} {c : Code} {Q : Exit→Frm→Store→Prop} (h : R P E N n0 c fr σ (blockQ id Q)) : R P E N n0 (.block id c) fr σ Q:=by
 intro hn ro h0 ρ w a hs hf hd hr
 refine wpIn_block (wpIn_mono (h hn ro h0 ρ w a hs hf hd hr) ?_)
 rintro e a' w' ⟨fr',σ',ρ',hn',q,rest⟩
 cases e with
 | exit id' =>
  simp only [Exit.inBlock]
  simp only [blockQ] at q
  split
  ·rename_i hid; rw [if_pos hid] at q; exact ⟨fr',σ',ρ',hn',q,rest⟩
  ·rename_i hid; rw [if_neg hid] at q; exact ⟨fr',σ',ρ',hn',q,rest⟩
 | _ => exact ⟨fr',σ',ρ',hn',q,rest⟩
def loopQ (I : Nat→Frm→Store→Prop) (m : Nat) (Q : Exit→Frm→Store→Prop) : Exit→Frm→Store→Prop
 | .normal,fr,σ => ∃ m',m' < m∧I m' fr σ
 | e,fr,σ => Q e fr σ
theorem R_loop {n0 : Nat} {c : Code} {Q : Exit→Frm→Store→Prop} (I : Nat→Frm→Store→Prop) (m : Nat) (h : I m fr σ) (hI : ∀ m fr σ,I m fr σ→R P E N n0 c fr σ (loopQ I m Q)) : R P E N n0 (.loop c) fr σ Q:=by
 intro hn ro h0 ρ w a hs hf hd hr
 have key : ∀ (k m : Nat),m < k→∀ (fr : Frm) (σ : Store) (ρ1 : Rho) (w1 : World) (a : Act),n0≤σ.next→I m fr σ→Sim E ρ1 w1 σ→FR ρ1 w1 N fr a.tmps→DF h0 ρ1 w1 a.defers→RO ro w1→ExtW n0 ρ w ρ1 w1 →
   Code.roundsIn (fw ro) 0 P c (fun e a' w' => ∃ fr' σ' ρ',n0≤σ'.next∧Q e fr' σ'∧Sim E ρ' w' σ'∧FR ρ' w' N fr' a'.tmps∧DF h0 ρ' w' a'.defers∧RO ro w'∧ExtW n0 ρ w ρ' w') k a w1:=by
  intro k
  induction k with
  | zero => intro m hm; omega
  | succ k ih =>
   intro m hm fr σ ρ1 w1 a hn1 hI0 hs1 hf1 hd1 hr1 hx1
   refine wpIn_mono (hI m fr σ hI0 hn1 ro h0 ρ1 w1 a hs1 hf1 hd1 hr1) ?_
   rintro e a' w' ⟨fr',σ',ρ',hn',q,hs',hf',hd',hr',hx⟩
   cases e with
   | normal =>
    obtain ⟨m',hm',hI'⟩:=q
    exact ih m' (by omega) fr' σ' ρ' w' a' hn' hI' hs' hf' hd' hr' (hx1.trans hx)
   | _ => exact ⟨fr',σ',ρ',hn',q,hs',hf',hd',hr',hx1.trans hx⟩
 exact wpIn_loop_rounds (m+1) (key (m+1) m (Nat.lt_succ_self m) fr σ ρ w a hn h hs hf hd hr (ExtW.refl _ _ _))
/-! ### A code that has labels,and no jump -/
theorem stepR_scope {P : Program} {b : Frame} {a : Act} {k : List Go.Item} {cs : List Frame} {w : World} {c : Code} : step P (lone (b.atR a (.code (.scope c) :: k)) cs w)=.next (lone (b.atR a (.code c :: .inScope c :: k)) cs w) :=
 step_lone_go (by simp [stepG,stepG.exec,Frame.atR])
theorem stepR_inScope {P : Program} {b : Frame} {a : Act} {k : List Go.Item} {cs : List Frame} {w : World} {c : Code} : step P (lone (b.atR a (.inScope c :: k)) cs w)=.next (lone (b.atR a k) cs w) :=
 step_lone_go (by simp [stepG,stepG.exec,Frame.atR])
def noGo (Q : Exit→Act→World→Prop) : Exit→Act→World→Prop
 | .goto _,_,_ => False
 | e,a,w => Q e a w
theorem wpIn_scope {F : Fence} {n : Nat} {Q : Exit→Act→World→Prop} {c : Code} (h : c.wpIn F n P (noGo Q) a w) : (Code.scope c).wpIn F n P Q a w:=by
 intro b k cs hro hb hr
 have h0 : (lone (b.atR a (.code (.scope c) :: k)) cs w).fenced P F:=fenced_calm hb hr rfl
 obtain ⟨e,a₁,w₁,hq,harr⟩:=h b (.inScope c :: k) cs hro hb hr
 cases e with
 | normal => exact ⟨.normal,a₁,w₁,hq,.head h0 stepR_scope (StepsIn.trans harr (.one (fenced_calm hb hr rfl) stepR_inScope))⟩
 | exit id =>
  have hx : exitTo id (.inScope c :: k)=exitTo id k:=by simp [exitTo]
  exact ⟨.exit id,a₁,w₁,hq,fun k' hk => .head h0 stepR_scope (harr.1 k' (by rw [hx]; exact hk)),
   fun hr' hk => let ⟨k₁,h1,h2⟩:=harr.2 hr' (by rw [hx]; exact hk); ⟨k₁,h1,.head h0 stepR_scope h2⟩⟩
 | goto l => exact hq.elim
 | ret => exact ⟨_,a₁,w₁,hq,.of_steps (.one h0 stepR_scope) harr⟩
 | panic ch => exact ⟨_,a₁,w₁,hq,.of_steps (.one h0 stepR_scope) harr⟩
 | outgrown => exact ⟨_,a₁,w₁,hq,.of_steps (.one h0 stepR_scope) harr⟩
def scopeQ (Q : Exit→Frm→Store→Prop) : Exit→Frm→Store→Prop
 | .goto _,_,_ => False
 | e,fr,σ => Q e fr σ
theorem R_scope {n0 : Nat} {c : Code} {Q : Exit→Frm→Store→Prop} (h : R P E N n0 c fr σ (scopeQ Q)) : R P E N n0 (.scope c) fr σ Q:=by
 intro hn ro h0 ρ w a hs hf hd hr
 refine wpIn_scope (wpIn_mono (h hn ro h0 ρ w a hs hf hd hr) ?_)
 rintro e a' w' ⟨fr',σ',ρ',hn',q,rest⟩
 cases e with
 | goto l => exact q.elim
 | _ => exact ⟨fr',σ',ρ',hn',q,rest⟩
end Go.Id
/- Regions: the operations compiled,their ideal semantics,and the proof for a region whose order is the text's. Conditions: none; over any program. -/
namespace Go.Id
open Go
inductive IK where
 | q (q : IQ)
 | alloc (z : List IV)
 | box (x : IX)
 | bsl (esz n : Nat) (z : List IV) (parts : List (Nat × Nat × IX))
 | store (sz : Nat) (x y : IX)
 | app (esz : Nat) (s x : IX)
 | mkmap
 | srange (x : IX)
 | snext (x : IX)
 | mupd (tag : Nat) (x k v : IX)
 | call (f : Nat) (args : List IX)
 | pcall (f : Nat) (args : List IX)
 | callv (x : IX) (args : List IX)
 | bslt (esz n : Nat) (z : List IV) (parts : List (Nat × Nat × IX))
 | boxt (x : IX)
 | mrange (x : IX)
 | mnext (x : IX)
 | ment (x : IX)
 | mksl (esz : Nat) (z : List IV) (x : IX)
 | clr (esz : Nat) (z : List IV) (x : IX)
 | st (k : SK) (xs : List IX)
 deriving Inhabited
structure IOper where
 dst : Option Nat
 guard : Option (Nat × Bool)
 op : IK
 deriving Inhabited
def IK.lays : IK→Bool
 | .alloc _ | .box _ | .bsl _ _ _ _ | .app _ _ _ | .mkmap | .srange _ | .mrange _ | .mksl _ _ _ | .st _ _ => true
 | _ => false
def okF (P : Program) (f : FuncId) : Bool := (P.funcs[f]?).any fun fn => fn.name != "runtime.NumGoroutine" && fn.body.isSome
def CYd (P : Program) (E : Nat→IV) (id : Nat) (args : List IV) (σ : Store) (Q : IV→Store→Prop) : Prop :=
 ∀ (ρ : Rho) (w : World) (rargs : Array Value) (B d : Nat),Sim E ρ w σ→CR ρ w args rargs→ρ id=.at B d →
  ∃ (fn : FuncId) (tmps : Array Value) (assign body : Code),(Instr.yield B rargs).run P w=.ok (.round B fn tmps assign body) w∧RoundIn Fence.wide 0 P B fn tmps assign body w fun e w' =>
   ∃ v r ρ' σ',e=.returned r∧Q v σ'∧Sim E ρ' w' σ'∧VR ρ' w' v r∧ExtW σ.next ρ w ρ' w'
def CV (P : Program) (E : Nat→IV) (fv : IV) (args : List IV) (σ : Store) (Q : IV→Store→Prop) : Prop :=
 match fv with
 | .func (.func f) first cap => okF P f=true∧C P E f (first ++ args ++ cap) σ Q
 | .yield id => (σ.obj id).isSome=true∧CYd P E id args σ Q
 | _ => False
def PC (P : Program) (E : Nat→IV) (f : FuncId) (args : List IV) (v : IV) : Prop :=
 ∀ σ,C P E f args σ fun v' σ' => v'=v∧σ'=σ
def opR (P : Program) (E : Nat→IV) (op : IK) (id : Nat) (fr : Frm) (σ : Store) (K : IV→Store→Prop) : Prop :=
 match op with
 | .q q => ∃ v,evq E fr σ q=some v∧K v σ
 | .alloc z => K (.ptr id 0) (σ.put id (.cells z))
 | .box x => (x.ev E fr).cs.all IV.leaf=true∧K (.ptr id 0) (σ.put id (.cells (x.ev E fr).cs))
 | .bsl esz n z parts => ∃ out,fillI (rep z n) (parts.map fun p => (p.1,p.2.1,p.2.2.ev E fr))=some out∧K (.slice id 0 n esz) (σ.put id (.row out))
 | .store sz x y => ∃ σ',storeI σ sz (x.ev E fr) (y.ev E fr)=some σ'∧K .undef σ'
 | .srange x => ∃ s,x.ev E fr=.str s∧K (.ptr id 0) (σ.put id (.siter s 0))
 | .snext x => ∃ r,snextI σ (x.ev E fr)=some r∧K r.1 r.2
 | .mkmap => K (.map id) (σ.put id (.map []))
 | .mupd tag x k v => ∃ σ',mapUpdI σ tag (x.ev E fr) (k.ev E fr) (v.ev E fr)=some σ'∧K .undef σ'
 | .app esz s x => ∃ r,appI σ id esz (s.ev E fr) (x.ev E fr)=some r∧K r.1 r.2
 | .call f args => ∃ Q,C P E f (args.map (·.ev E fr)) σ Q∧∀ v σ',Q v σ'→σ.next≤σ'.next∧K v σ'
 | .pcall f args => ∃ v,PC P E f (args.map (·.ev E fr)) v∧K v σ
 | .callv x args => ∃ Q,CV P E (x.ev E fr) (args.map (·.ev E fr)) σ Q∧∀ v σ',Q v σ'→σ.next≤σ'.next∧K v σ'
 | .bslt esz n z parts => ∃ out,fillI (rep z n) (parts.map fun p => (p.1,p.2.1,p.2.2.ev E fr))=some out∧K (.tslice (chunk esz n out)) σ
 | .boxt x => (x.ev E fr).cs.all IV.leaf=true∧K (.tptr (x.ev E fr).cs) σ
 | .mrange x => ∃ es,x.ev E fr=.tmap es∧K (.ptr id 0) (σ.put id (.miter es none))
 | .mnext x => ∃ i left,mnextI σ (x.ev E fr)=some (i,left)∧(left=[]→K (.tuple [.bool false]) σ) ∧
   ∀ j,j < left.length→K (.tuple [.bool true,(left.getD j (.undef,.undef)).1,(left.getD j (.undef,.undef)).2]) (σ.put i (.miter (left.eraseIdx j) (some (left.getD j (.undef,.undef)))))
 | .ment x => ∃ v,mentI σ (x.ev E fr)=some v∧K v σ
 | .mksl esz z x => ∃ n,mkslI (x.ev E fr)=some n∧K (.slice id 0 n esz) (σ.put id (.row (rep z n)))
 | .clr esz z x => ∃ σ',clrI σ esz z (x.ev E fr)=some σ'∧σ'.next=σ.next∧K .undef σ'
 | .st k xs => ∃ r,stI k id σ (xs.map (·.ev E fr))=some r∧K r.1 r.2
def Frm.setd (fr : Frm) (d : Option Nat) (v : IV) : Frm :=
 match d with
 | some t => fr.set t v
 | none => fr
abbrev skV : IV:=.tuple []
def actI (v : IV) (want : Bool) : Option Bool :=
 match v with
 | .bool b => some (decide (b=want))
 | .tuple [] => some false
 | _ => none
def actIs (o : IOper) (fr : Frm) : Option Bool :=
 match o.guard with
 | none => some true
 | some (s,want) => actI (fr.get s) want
def ropsR (P : Program) (E : Nat→IV) : List IOper→Nat→Frm→Store→(Frm→Store→Prop)→Prop
 | [],_,fr,σ,K => K fr σ
 | o :: rest,id,fr,σ,K => ∃ act,actIs o fr=some act ∧
  (if act=true then opR P E o.op id fr σ fun v σ' => ropsR P E rest (if o.op.lays then id+1 else id) (fr.setd o.dst v) σ' K
  else ropsR P E rest (if o.op.lays then id+1 else id) (fr.setd o.dst skV) σ K)
def laysN (ops : List IOper) : Nat:=(ops.filter fun o => o.op.lays).length
/-! ### Compiling -/
def loX : Option Operand→Option IX
 | none => some (.c (.int .i64 0))
 | some o => cmpX o
def cmpK0 (P : Program) (pf : List Nat) (fz : Bool) (op : Op) : Option IK :=
 match op with
 | .alloc t => (zeroT P t).map .alloc
 | .box _ x => (cmpX x).map (if fz=true then .boxt else .box)
 | .buildSlice t n parts => match P.underlying t with
  | some (.slice e) => match szT P e,zeroT P e with
   | some esz,some z => match cmpParts P (fun i => some (i * esz,esz)) parts.toList with
    | some ps => if 0 < esz∧z.length=esz∧n * esz≤2 ^ 24 then some (if fz=true then .bslt esz n z ps else .bsl esz n z ps) else none
    | none => none
   | _,_ => none
  | _ => none
 | .store t x y => match szT P t,cmpX x,cmpX y with
  | some sz,some a,some b => some (.store sz a b)
  | _,_,_ => none
 | .range t x => match P.underlying t with
  | some .string => (cmpX x).map .srange
  | some (.map _ _) => (cmpX x).map .mrange
  | _ => none
 | .next x true => (cmpX x).map .snext
 | .next x false => (cmpX x).map .mnext
 | .entry x => (cmpX x).map .ment
 | .makeMap _ none => some .mkmap
 | .mapUpdate t x k v => match P.underlying t with
  | some (.map kt _) => match keyT P kt,cmpX x,cmpX k,cmpX v with
   | some tag,some a,some b,some c => some (.mupd tag a b c)
   | _,_,_,_ => none
  | _ => none
 | .makeSlice t x y => match P.underlying t with
  | some (.slice e) => match P.info? e,zeroT P e,cmpX x with
   | some i,some z,some a => if z.length=i.size∧0 < i.size∧i.bytes≤4096∧sameOpd x y=true then some (match fz,a with
    | true,.c (.int .i64 m) => if 0≤m∧m≤2147483647 then .bslt i.size m.toNat z [] else .mksl i.size z a
    | _,_ => .mksl i.size z a) else none
   | _,_,_ => none
  | _ => none
 | .insert t x k v => match P.underlying t with
  | some (.map kt _) => match keyT P kt,cmpX x,cmpX k,cmpX v with
   | some tag,some a,some b,some c => some (.mupd tag a b c)
   | _,_,_,_ => none
  | _ => none
 | .call { callee:=.builtin .clear,args,argTypes } => match args.toList,argTypes.toList with
  | [x],[t] => match P.underlying t with
   | some (.slice e) => match szT P e,zeroT P e,cmpX x with
    | some sz,some z,some a => if z.length=sz∧0 < sz then some (.clr sz z a) else none
    | _,_,_ => none
   | _ => none
  | _,_ => none
 | .call { callee:=.builtin .append,args,argTypes } => match args.toList,argTypes.toList with
  | [s,x],[t,xt] => match P.underlying t,P.underlying xt with
   | some (.slice e),some (.slice _) => match P.info? e,zeroT P e,cmpX s,cmpX x with
    | some i,some z,some a,some b => if i.bytes≤4096∧z.length=i.size then some (if fz=true then .st (.apr i.size) [a,b] else .app i.size a b) else none
    | _,_,_,_ => none
   | _,_ => none
  | _,_ => none
 | .call { callee:=.value (.func f),args,argTypes:=_ } => match cmpXs args.toList with
  | some xs => if okF P f then (if pf.contains f then some (.pcall f xs) else some (.call f xs)) else (cmpQ P op).map .q
  | none => none
 | .call { callee:=.value (.tmp t),args,argTypes:=_ } => match cmpXs args.toList with
  | some xs => some (.callv (.t t) xs)
  | none => none
 | .call { callee:=.builtin .delete,args,argTypes } => match args.toList,argTypes[0]? with
  | [x,k],some t => match P.underlying t with
   | some (.map kt _) => match keyT P kt,cmpX x,cmpX k with
    | some tag,some a,some b => some (.st (.mdel tag) [a,b])
    | _,_,_ => none
   | _ => none
  | _,_ => none
 | .call { callee:=.builtin .copy,args,argTypes } => match args.toList,argTypes[0]? with
  | [x,y],some t => match P.underlying t with
   | some (.slice e) => match szT P e,cmpX x,cmpX y with
    | some n,some a,some b => some (.st (.cpy n) [a,b])
    | _,_,_ => none
   | _ => none
  | _,_ => none
 | .slice t x none (some (.const (.int _ 0))) (some (.const (.int _ 0))) => (cmpQ P op).map .q
 | .slice t x lo (some h) (some m) => match P.underlying t with
  | some (.slice e) => match szT P e,cmpX x,loX lo,cmpX h,cmpX m with
   | some n,some a,some l,some b,some c => some (if fz=false then .q (.clp n a l b c) else .st (.sl3 n fz) [a,l,b,c])
   | _,_,_,_,_ => none
  | _ => none
 | .slice t x none (some h) none => match fz,P.underlying t with
  | true,some (.slice e) => match szT P e,cmpX x,cmpX h with
   | some n,some a,some b => some (.st (.rlp n) [a,b])
   | _,_,_ => none
  | _,_ => (cmpQ P op).map .q
 | .load t x => match cmpQ P (.load t x) with
  | some (.load agg a) => some (.q (if fz=true then .ldt agg a else .load agg a))
  | _ => none
 | op => (cmpQ P op).map .q
def isDefer : Op→Bool
 | .defer _ => true
 | _ => false
def cmpK (P : Program) (pf : List Nat) (fz : Bool) (op : Op) : Option IK :=
 match cmpK0 P pf fz op with
 | some k => some k
 | none => if isDefer op then none else some (.st .nev [])
def dstOk (N : Nat) (d : Option Nat) : Bool :=
 match d with
 | some t => decide (t < N)
 | none => true
def cmpOper (P : Program) (pf : List Nat) (N : Nat) (ops : Array Oper) (o : Oper) : Option IOper :=
 match cmpK P pf (o.dst.any fun t => pf.contains (1000000+t)) o.op with
 | none => none
 | some k =>
  if dstOk N o.dst=true then
   match o.guard with
   | none => some ⟨o.dst,none,k⟩
   | some (j,want) => match (ops[j]?).bind (·.dst) with
    | some s => some ⟨o.dst,some (s,want),k⟩
    | none => none
  else none
def cmpOps (P : Program) (pf : List Nat) (N : Nat) (ops : Array Oper) : List Oper→Option (List IOper)
 | [] => some []
 | o :: os => match cmpOper P pf N ops o,cmpOps P pf N ops os with
  | some x,some xs => some (x :: xs)
  | _,_ => none
/-! ### The proof -/
variable {P : Program} {w w' w'' : World} {ρ ρ' ρ'' : Rho} {E : Nat→IV} {σ σ' : Store} {N n n' : Nat} {fr : Frm} {a : Act} {pf : List Nat}
theorem FR.setd (hf : FR ρ w N fr a.tmps) {d : Option Nat} (hd : dstOk N d=true) {v : IV} {r : Value} (hv : VR ρ w v r) : FR ρ w N (fr.setd d v) (a.put d r).tmps:=by
 cases d with
 | none => exact hf
 | some d => exact hf.set (by simpa [dstOk] using hd) hv
theorem cmpK0_defer {fz : Bool} {op : Op} {k : IK} (h : cmpK0 P pf fz op=some k) : (∀ c,op≠.defer c):=by
 intro c hc; subst hc; simp [cmpK0,cmpQ] at h
theorem sim_next {m : Nat} (hs : Sim E ρ w σ) (h : ∀ i,m≤i→ρ i=.no) : Sim E ρ w { σ with next:=m } :=
 ⟨hs.inj,hs.lt,hs.obj,hs.dead,h,hs.noObj,hs.env,hs.nx,hs.xlt⟩
theorem call_run {f : FuncId} {args : Array Value} (h : okF P f=true) : (callFunc f args).run P w=.ok (.enter f args) w:=by
 unfold okF at h
 cases hf : P.funcs[f]? with
 | none => rw [hf] at h; cases h
 | some fn =>
  rw [hf] at h
  simp at h
  have h2 : ¬ fn.body=none:=by intro hb; rw [hb] at h; simp at h
  simp [callFunc,hf,h.1,h2]
theorem Ext.le (h : Ext n ρ w ρ' w') (hn : n'≤n) : Ext n' ρ w ρ' w' :=
 ⟨h.size,h.keep,h.shape,h.img,h.at_,h.dead,fun i hi h0 => h.no i (Nat.lt_of_lt_of_le hi hn) h0,h.output,h.os,h.tape,h.loops,h.X⟩
theorem CR.map {xs : List Operand} {ys : List IX} (h : cmpXs xs=some ys) (hs : Sim E ρ w σ) (hf : FR ρ w N fr a.tmps) : CR ρ w (ys.map (·.ev E fr)) (xs.toArray.map a.eval):=by
 have:=cmpXs_sound (a:=a) h hs hf
 rwa [← List.map_toArray] at this
theorem CR.append {xs ys : List IV} {rx ry : Array Value} (h1 : CR ρ w xs rx) (h2 : CR ρ w ys ry) : CR ρ w (xs ++ ys) (rx ++ ry):=by
 refine ⟨by simp [h1.1,h2.1],fun i hi => ?_⟩
 simp only [List.length_append] at hi
 by_cases h : i < xs.length
 ·have e1 : (xs ++ ys).getD i .undef=xs.getD i .undef:=by simp [List.getD_eq_getElem?_getD,List.getElem?_append,h]
  have e2 : (rx ++ ry).getD i undef=rx.getD i undef:=by
   have : i < rx.size:=by rw [← h1.1]; exact h
   simp [Array.getD_eq_getD_getElem?,Array.getElem?_append,this]
  rw [e1,e2]; exact h1.2 i h
 ·have e1 : (xs ++ ys).getD i .undef=ys.getD (i - xs.length) .undef:=by simp [List.getD_eq_getElem?_getD,List.getElem?_append,h]
  have e2 : (rx ++ ry).getD i undef=ry.getD (i - xs.length) undef:=by
   have : ¬ i < rx.size:=by rw [← h1.1]; exact h
   simp [Array.getD_eq_getD_getElem?,Array.getElem?_append,this,h1.1]
  rw [e1,e2]; exact h2.2 _ (by omega)
theorem op_call {f : FuncId} {n0 : Nat} {K : IV→Store→Prop} {o : Oper} {next : Act→World→Prop} {Q : Exit→Act→World→Prop} {ro : Option Nat} {Qc : IV→Store→Prop} {args : List IV} {rargs : Array Value}
  (hd : ∀ c,o.op≠.defer c) (hrun : (execOp a.eval o).run P w=.ok (.enter f rargs) w) (hc : C P E f args σ Qc) (hK : ∀ v σ',Qc v σ'→σ.next≤σ'.next∧K v σ') (hs : Sim E ρ w σ) (ha : CR ρ w args rargs) (hn0 : n0≤σ.next)
  (hn : ∀ v σ' r ρ' w',σ.next≤σ'.next→K v σ'→Sim E ρ' w' σ'→VR ρ' w' v r→Ext n0 ρ w ρ' w'→(∀ i,i < σ.next→ρ i=.no→ρ' i=.no)→next (a.put o.dst r) w') : o.wpIn (fw ro) 0 P a w next Q:=by
 refine ⟨fun f _ => trivial,?_⟩
 rw [Oper.semAt_eq _ _ _ hd,hrun,Oper.uponIn_enter]
 refine ⟨(fun h => by cases h),?_⟩
 have hcall : CallsIn (fw ro) 0 P f rargs w fun e w' => ∃ v r ρ' σ',e=.returned r∧Qc v σ'∧Sim E ρ' w' σ'∧VR ρ' w' v r∧ExtW σ.next ρ w ρ' w':=hc ρ w rargs hs ha
 refine CallsIn.mono hcall ?_
 rintro e w'' ⟨v,r,ρ',σ',rfl,q,hs',hv',hx⟩
 obtain ⟨h1,h2⟩:=hK v σ' q
 exact hn v σ' r ρ' w'' h1 h2 hs' hv' ((hx.ext hs.fresh).le hn0) hx.no
theorem callv_run {o : Oper} {t : Tmp} {args : Array Operand} {argTypes : Array TypeId} {f : FuncId} {rf rc : Array Value} (ho : o.op=.call { callee:=.value (.tmp t),args,argTypes }) (hv : a.eval (.tmp t)=.func (.func f) rf rc) (hf : okF P f=true) :
  (execOp a.eval o).run P w=.ok (.enter f (rf ++ args.map a.eval ++ rc)) w:=by
 unfold execOp
 rw [ho]
 simp only [resolve,hv,Deferred.ofValue,Sem.run_bind,Sem.run_pure,Result.andThen_ok,invoke]
 exact call_run hf
theorem call_run' {o : Oper} {args : Array Operand} {argTypes : Array TypeId} {f : FuncId} (ho : o.op=.call { callee:=.value (.func f),args,argTypes }) (hf : okF P f=true) :
  (execOp a.eval o).run P w=.ok (.enter f (args.map a.eval)) w:=by
 unfold execOp
 rw [ho]
 simp only [resolve,Act.eval,Deferred.ofValue,Sem.run_bind,Sem.run_pure,Result.andThen_ok,invoke]
 rw [call_run hf]
 simp
theorem app_case {o : Oper} {s x : Operand} {is ix : IX} {t xt e xe : TypeId} {args : Array Operand} {argTypes : Array TypeId} {i : TypeInfo} {z : List IV} {id n0 : Nat} {v : IV} (ho : o.op=.call { callee:=.builtin .append,args,argTypes }) (ha : args.toList=[s,x]) (ht : argTypes.toList=[t,xt])
  (hu : P.underlying t=some (.slice e)) (hxu : P.underlying xt=some (.slice xe)) (hi : P.info? e=some i) (hz : zeroT P e=some z) (hs' : cmpX s=some is) (hx : cmpX x=some ix) (hb : i.bytes≤4096) (hzl : z.length=i.size)
  (h : appI σ id i.size (is.ev E fr) (ix.ev E fr)=some (v,σ')) (hs : Sim E ρ w σ) (hf : FR ρ w N fr a.tmps) (hno : ρ id=.no) (hlt : id < σ.next) (hn : n0≤id) :
  Acts P E id n0 ρ w a o.op v σ':=by
 obtain ⟨al⟩:=args
 obtain ⟨tl⟩:=argTypes
 simp only at ha ht
 subst ha; subst ht
 intro o' ho'
 have hzero : ∃ zr,i.zero=some zr∧zr.cells.size=i.size:=by
  unfold zeroT at hz
  rw [hi] at hz
  simp only at hz
  cases hzz : i.zero with
  | none => rw [hzz] at hz; cases hz
  | some zr =>
   rw [hzz] at hz
   have:=(cvs_sound (ρ:=ρ) (w:=w) hz).1
   exact ⟨zr,rfl,by rw [← this]; exact hzl⟩
 obtain ⟨zr,hzr,hzs⟩:=hzero
 obtain ⟨r,ρ',w',hrun,hsim,hvr,hx1,hnb⟩:=app_run (P:=P) (ty:=o'.type) hu ⟨_,hxu,fun k hk => by cases hk⟩ hi hzr rfl hzs hb h (cmpX_sound (a:=a) hs' hs hf) (cmpX_sound (a:=a) hx hs hf) hs hno hlt hn
 refine ⟨.value r,r,ρ',w',?_,.inl rfl,hsim,hvr,hx1,hnb⟩
 unfold execOp
 rw [ho',ho]
 simp [resolve,invoke,builtin,hrun]
theorem storeI_next {sz : Nat} {x y : IV} (h : storeI σ sz x y=some σ') : σ'.next=σ.next:=by
 unfold storeI at h
 split at h
 ·split at h
  ·split at h
   ·cases h; rfl
   ·cases h
  ·split at h
   ·cases h; rfl
   ·cases h
  ·cases h
 ·cases h
theorem mapUpdI_next {tag : Nat} {x k v : IV} (h : mapUpdI σ tag x k v=some σ') : σ'.next=σ.next:=by
 unfold mapUpdI at h
 split at h
 ·split at h
  ·obtain ⟨es',_,rfl⟩:=map_some h; rfl
  ·cases h
 ·cases h
theorem appI_next {id esz : Nat} {s x v : IV} (h : appI σ id esz s x=some (v,σ')) : σ'.next=σ.next:=by
 unfold appI at h
 split at h
 ·cases h
 ·split at h
  ·cases h
  ·split at h
   ·split at h
    ·cases h; rfl
    ·split at h
     ·cases h; rfl
     ·cases h
   ·split at h
    ·cases h; rfl
    ·split at h
     ·cases h; rfl
     ·cases h
   ·split at h
    ·cases h; rfl
    ·cases h
   ·split at h
    ·split at h
     ·cases h; rfl
     ·split at h
      ·cases h; rfl
      ·cases h
    ·cases h
   ·split at h
    ·split at h
     ·cases h; rfl
     ·split at h
      ·cases h; rfl
      ·cases h
    ·cases h
   ·cases h
theorem op_sound0 {k : IK} {id n0 : Nat} {K : IV→Store→Prop} {o : Oper} {next : Act→World→Prop} {Q : Exit→Act→World→Prop} {ro : Option Nat}
  {fz : Bool} (hk : cmpK0 P pf fz o.op=some k) (h : opR P E k id fr σ K) (hs : Sim E ρ w σ) (hf : FR ρ w N fr a.tmps) (hn0 : n0≤σ.next) (hid : k.lays=true→ρ id=.no∧id < σ.next∧n0≤id)
  (hn : ∀ v σ' r ρ' w',σ.next≤σ'.next→K v σ'→Sim E ρ' w' σ'→VR ρ' w' v r→Ext n0 ρ w ρ' w'→(∀ i,i < σ.next→(k.lays=true→i≠id)→ρ i=.no→ρ' i=.no)→next (a.put o.dst r) w') : o.wpIn (fw ro) 0 P a w next Q:=by
 have hdf:=cmpK0_defer hk
 have acts : ∀ {v : IV} {σ' : Store} {id' n' : Nat},σ'.next=σ.next→Acts P E id' n' ρ w a o.op v σ'→n0≤n'→(k.lays=true→id'=id)→(k.lays=false→σ.next≤id')→K v σ'→o.wpIn (fw ro) 0 P a w next Q:=by
  intro v σ' id' n' hnx hact hn1 hl1 hl2 hK
  obtain ⟨x,r,ρ',w',hrun,hx,hs',hv',he,hnb⟩:=hact o rfl
  have hno' : ∀ i,i < σ.next→(k.lays=true→i≠id)→ρ i=.no→ρ' i=.no:=by
   intro i hi hl h0
   refine hnb i (fun e => ?_) h0
   cases hk' : k.lays with
   | true => exact hl hk' (by rw [e,hl1 hk'])
   | false => have:=hl2 hk'; omega
  refine ⟨fun f _ => trivial,?_⟩
  rw [Oper.semAt_eq _ _ _ hdf,hrun]
  rcases hx with rfl | ⟨rfl,rfl⟩
  ·exact hn v σ' r ρ' w' (by omega) hK hs' hv' (he.le hn1) hno'
  ·exact hn v σ' undef ρ' w' (by omega) hK hs' hv' (he.le hn1) hno'
 have quiet : ∀ q,cmpQ P o.op=some q→k=.q q→o.wpIn (fw ro) 0 P a w next Q:=by
  intro q hq hkq
  subst hkq
  obtain ⟨v,hv,hK⟩:=h
  obtain ⟨r,hrun,hvr⟩:=q_sound hq hv hs hf o rfl
  refine ⟨fun f _ => trivial,?_⟩
  rw [Oper.semAt_eq _ _ _ hdf,hrun]
  exact hn v σ r ρ w (Nat.le_refl _) hK hs hvr (Ext.refl _ _ _) (fun i _ _ h0 => h0)
 unfold cmpK0 at hk
 split at hk
 ·rename_i t heq
  obtain ⟨z,hz,rfl⟩:=map_some hk
  obtain ⟨h1,h2,h3⟩:=hid rfl
  refine acts (id':=id) (n':=n0) (σ':=σ.put id (.cells z)) rfl ?_ (Nat.le_refl _) (fun _ => rfl) (fun h => by cases h) h
  rw [heq]
  exact alloc_case hz hs h1 h2 h3
 ·rename_i t x heq
  obtain ⟨y,hy,he⟩:=map_some hk
  cases fz with
  | true =>
   simp only [if_true] at he
   subst he
   refine acts (id':=σ.next) (n':=n0) (σ':=σ) rfl ?_ (Nat.le_refl _) (fun h => by cases h) (fun _ => Nat.le_refl _) h.2
   rw [heq]
   exact boxt_case hy h.1 hs hf hn0
  | false =>
   simp only [Bool.false_eq_true,if_false] at he
   subst he
   obtain ⟨h1,h2,h3⟩:=hid rfl
   refine acts (id':=id) (n':=n0) (σ':=σ.put id (.cells (y.ev E fr).cs)) rfl ?_ (Nat.le_refl _) (fun _ => rfl) (fun h => by cases h) h.2
   rw [heq]
   exact box_case hy h.1 hs hf h1 h2 h3
 ·rename_i t n parts heq
  split at hk
  ·rename_i e hu
   split at hk
   ·rename_i esz z hsz hz
    split at hk
    ·rename_i ps hp
     split at hk
     ·rename_i hc
      cases fz with
      | true =>
       simp only [if_true] at hk
       cases hk
       obtain ⟨out,ho1,ho2⟩:=h
       refine acts (id':=σ.next) (n':=n0) (σ':=σ) rfl ?_ (Nat.le_refl _) (fun h => by cases h) (fun _ => Nat.le_refl _) ho2
       rw [heq]
       exact bslt_case hu hsz hc.1 hz hc.2.1 hc.2.2 hp ho1 hs hf hn0
      | false =>
      simp only [Bool.false_eq_true,if_false] at hk
      cases hk
      obtain ⟨h1,h2,h3⟩:=hid rfl
      obtain ⟨out,ho1,ho2⟩:=h
      refine acts (id':=id) (n':=n0) (σ':=σ.put id (.row out)) rfl ?_ (Nat.le_refl _) (fun _ => rfl) (fun h => by cases h) ho2
      rw [heq]
      exact bsl_case hu hsz hc.1 hz hc.2.1 hc.2.2 hp ho1 hs hf h1 h2 h3
     ·cases hk
    ·cases hk
   ·cases hk
  ·cases hk
 ·rename_i t x y heq
  split at hk
  ·rename_i sz ia ib hsz hx hy
   cases hk
   obtain ⟨σ',ho1,ho2⟩:=h
   refine acts (id':=σ.next) (n':=n0) (σ':=σ') (storeI_next ho1) ?_ (Nat.le_refl _) (fun h => by cases h) (fun _ => Nat.le_refl _) ho2
   rw [heq]
   exact store_case hsz hx hy ho1 hs hf
  ·cases hk
 ·rename_i t x heq
  split at hk
  ·rename_i hu
   obtain ⟨y,hy,rfl⟩:=map_some hk
   obtain ⟨h1,h2,h3⟩:=hid rfl
   obtain ⟨s,hs1,hs2⟩:=h
   refine acts (id':=id) (n':=n0) (σ':=σ.put id (.siter s 0)) rfl ?_ (Nat.le_refl _) (fun _ => rfl) (fun h => by cases h) hs2
   rw [heq]
   exact srange_case hu hy hs1 hs hf h1 h2 h3
  ·rename_i kt et hu
   obtain ⟨y,hy,rfl⟩:=map_some hk
   obtain ⟨h1,h2,h3⟩:=hid rfl
   obtain ⟨es,hs1,hs2⟩:=h
   refine acts (id':=id) (n':=n0) (σ':=σ.put id (.miter es none)) rfl ?_ (Nat.le_refl _) (fun _ => rfl) (fun h => by cases h) hs2
   rw [heq]
   exact mrange_case hu hy hs1 hs hf h1 h2 h3
  ·cases hk
 ·rename_i x heq
  obtain ⟨y,hy,rfl⟩:=map_some hk
  obtain ⟨⟨v,σ'⟩,ho1,ho2⟩:=h
  refine acts (id':=σ.next) (n':=n0) (σ':=σ') (snextI_next ho1) ?_ (Nat.le_refl _) (fun h => by cases h) (fun _ => Nat.le_refl _) ho2
  rw [heq]
  exact snext_case hy ho1 hs hf
 ·rename_i x heq
  obtain ⟨y,hy,rfl⟩:=map_some hk
  obtain ⟨i,left,ho1,ho2,ho3⟩:=h
  rcases mnext_case (n:=n0) (id0:=σ.next) (a:=a) hy ho1 hs hf with ⟨he,hact⟩ | ⟨j,hj,hact⟩
  ·refine acts (id':=σ.next) (n':=n0) (σ':=σ) rfl ?_ (Nat.le_refl _) (fun h => by cases h) (fun _ => Nat.le_refl _) (ho2 he)
   rw [heq]; exact hact
  ·refine acts (id':=σ.next) (n':=n0) (σ':=σ.put i (.miter (left.eraseIdx j) (some (left.getD j (.undef,.undef))))) rfl ?_ (Nat.le_refl _) (fun h => by cases h) (fun _ => Nat.le_refl _) (ho3 j hj)
   rw [heq]; exact hact
 ·rename_i x heq
  obtain ⟨y,hy,rfl⟩:=map_some hk
  obtain ⟨v,ho1,ho2⟩:=h
  refine acts (id':=σ.next) (n':=n0) (σ':=σ) rfl ?_ (Nat.le_refl _) (fun h => by cases h) (fun _ => Nat.le_refl _) ho2
  rw [heq]
  exact ment_case hy ho1 hs hf
 ·rename_i t heq
  cases hk
  obtain ⟨h1,h2,h3⟩:=hid rfl
  refine acts (id':=id) (n':=n0) (σ':=σ.put id (.map [])) rfl ?_ (Nat.le_refl _) (fun _ => rfl) (fun h => by cases h) h
  rw [heq]
  exact mkmap_case hs h1 h2 h3
 ·rename_i t x k v heq
  split at hk
  ·rename_i kt et hu
   split at hk
   ·rename_i tag ia ib ic ht hx hk' hv
    cases hk
    obtain ⟨σ',ho1,ho2⟩:=h
    refine acts (id':=σ.next) (n':=n0) (σ':=σ') (mapUpdI_next ho1) ?_ (Nat.le_refl _) (fun h => by cases h) (fun _ => Nat.le_refl _) ho2
    rw [heq]
    exact mapUpd_case hu ht hx hk' hv ho1 hs hf
   ·cases hk
  ·cases hk
 ·rename_i t x y heq
  split at hk
  ·rename_i e hu
   split at hk
   ·rename_i i z ia hi hz hx
    split at hk
    ·rename_i hc
     have plain : k=.mksl i.size z ia→o.wpIn (fw ro) 0 P a w next Q:=by
      intro e
      subst e
      obtain ⟨h1,h2,h3⟩:=hid rfl
      obtain ⟨len,ho1,ho2⟩:=h
      refine acts (id':=id) (n':=n0) (σ':=σ.put id (.row (rep z len))) rfl ?_ (Nat.le_refl _) (fun _ => rfl) (fun h => by cases h) ho2
      rw [heq]
      exact mksl_case hu hi hz hc.1 hc.2.1 hc.2.2.1 hx hc.2.2.2 ho1 hs hf h1 h2 h3
     replace hk:=Option.some.inj hk
     split at hk
     ·rename_i m
      split at hk
      ·rename_i hm
       subst hk
       obtain ⟨out,ho1,ho2⟩:=h
       have he : out=rep z m.toNat:=by simp only [List.map_nil,fillI] at ho1; exact (Option.some.inj ho1).symm
       subst he
       refine acts (id':=σ.next) (n':=n0) (σ':=σ) rfl ?_ (Nat.le_refl _) (fun h => by cases h) (fun _ => Nat.le_refl _) ho2
       rw [heq]
       exact mkslt_case hu hi hz hc.1 hc.2.1 hc.2.2.1 hx hc.2.2.2 (by simp only [IX.ev,mkslI]; rw [if_pos (by omega)]) hs hf hn0
      ·exact plain hk.symm
     ·exact plain hk.symm
    ·cases hk
   ·cases hk
  ·cases hk
 ·rename_i t x k v heq
  split at hk
  ·rename_i kt et hu
   split at hk
   ·rename_i tag ia ib ic ht hx hk' hv
    cases hk
    obtain ⟨σ',ho1,ho2⟩:=h
    refine acts (id':=σ.next) (n':=n0) (σ':=σ') (mapUpdI_next ho1) ?_ (Nat.le_refl _) (fun h => by cases h) (fun _ => Nat.le_refl _) ho2
    rw [heq]
    exact insert_case (mapUpd_case hu ht hx hk' hv ho1 hs hf)
   ·cases hk
  ·cases hk
 ·rename_i args argTypes heq
  split at hk
  ·rename_i x t ha ht
   split at hk
   ·rename_i e hu
    split at hk
    ·rename_i sz z ia hsz hz hx
     split at hk
     ·rename_i hc
      cases hk
      obtain ⟨σ',ho1,ho3,ho2⟩:=h
      refine acts (id':=σ.next) (n':=n0) (σ':=σ') ho3 ?_ (Nat.le_refl _) (fun h => by cases h) (fun _ => Nat.le_refl _) ho2
      rw [heq]
      obtain ⟨al⟩:=args
      obtain ⟨tl⟩:=argTypes
      simp only at ha ht
      subst ha; subst ht
      exact clr_case hu hsz hz hc.1 hc.2 hx ho1 hs hf
     ·cases hk
    ·cases hk
   ·cases hk
  ·cases hk
 ·rename_i args argTypes heq
  split at hk
  ·rename_i s x t xt ha ht
   split at hk
   ·rename_i e xe hu hxu
    split at hk
    ·rename_i i z ia ib hi hz hsx hxx
     split at hk
     ·rename_i hc
      replace hk:=Option.some.inj hk
      by_cases hfz : fz=true
      ·rw [if_pos hfz] at hk
       subst hk
       obtain ⟨h1,h2,h3⟩:=hid rfl
       obtain ⟨⟨v,σ'⟩,ho1,ho2⟩:=h
       exact acts (id':=id) (n':=n0) (σ':=σ') (stI_next ho1) (apr_case heq ha ht hu hxu hi hsx hxx ho1 hs hf) (Nat.le_refl _) (fun _ => rfl) (fun h => by cases h) ho2
      rw [if_neg hfz] at hk
      subst hk
      obtain ⟨h1,h2,h3⟩:=hid rfl
      obtain ⟨⟨v,σ'⟩,ho1,ho2⟩:=h
      exact acts (id':=id) (n':=n0) (σ':=σ') (appI_next ho1) (app_case heq ha ht hu hxu hi hz hsx hxx hc.1 hc.2 ho1 hs hf h1 h2 h3) (Nat.le_refl _) (fun _ => rfl) (fun h => by cases h) ho2
     ·cases hk
    ·cases hk
   ·cases hk
  ·cases hk
 ·rename_i f args argTypes heq
  split at hk
  ·rename_i xs hxs
   split at hk
   ·rename_i hok
    split at hk
    ·cases hk
     obtain ⟨v,hpc,hK⟩:=h
     exact op_call hdf (call_run' heq hok) (hpc σ) (fun v' σ' ⟨h1,h2⟩ => by subst h1; subst h2; exact ⟨Nat.le_refl _,hK⟩) hs (CR.map hxs hs hf) hn0 (fun v σ' r ρ' w' h1 h2 h3 h4 h5 h6 => hn v σ' r ρ' w' h1 h2 h3 h4 h5 (fun i hi _ h0 => h6 i hi h0))
    cases hk
    obtain ⟨Qc,hc,hK⟩:=h
    exact op_call hdf (call_run' heq hok) hc hK hs (CR.map hxs hs hf) hn0 (fun v σ' r ρ' w' h1 h2 h3 h4 h5 h6 => hn v σ' r ρ' w' h1 h2 h3 h4 h5 (fun i hi _ h0 => h6 i hi h0))
   ·obtain ⟨q,hq,rfl⟩:=map_some hk
    exact quiet q hq rfl
  ·cases hk
 ·rename_i t args argTypes heq
  split at hk
  ·rename_i xs hxs
   cases hk
   obtain ⟨Qc,hc,hK⟩:=h
   have vt : VR ρ w (fr.get t) (a.eval (.tmp t)):=hf.get t
   have hca:=CR.map (a:=a) hxs hs hf
   simp only [IX.ev] at hc
   generalize hfv : fr.get t=fv at hc vt
   generalize hrv : a.eval (.tmp t)=rv at vt
   cases vt with
   | func fn first cap rf rc hy l1 l2 v1 v2 =>
    cases fn with
    | func f =>
     obtain ⟨hok,hc⟩:=hc
     have hrun:=callv_run (P:=P) (w:=w) heq hrv hok
     refine op_call hdf hrun hc hK hs ?_ hn0 (fun v σ' r ρ' w' h1 h2 h3 h4 h5 h6 => hn v σ' r ρ' w' h1 h2 h3 h4 h5 (fun i hi _ h0 => h6 i hi h0))
     exact ((CR.append ⟨l1,v1⟩ hca).append ⟨l2,v2⟩)
    | _ => exact hc.elim
   | yield id' B d hid' =>
    obtain ⟨fn,tmps,assign,body,hy,hr⟩:=hc.2 ρ w (args.map a.eval) B d hs hca hid'
    refine ⟨fun f _ => trivial,?_⟩
    have hrun : (execOp a.eval o).run P w=.ok (.round B fn tmps assign body) w:=by
     unfold execOp
     rw [heq]
     simp only [resolve,hrv,Deferred.ofValue,Sem.run_bind,Sem.run_pure,Result.andThen_ok,invoke]
     simpa using hy
    rw [Oper.semAt_eq _ _ _ hdf,hrun,Oper.uponIn_round]
    refine ⟨(fun h => by cases h),?_⟩
    refine RoundIn.mono (F:=fw ro) (n:=0) hr ?_
    rintro e w'' ⟨v,r,ρ',σ',rfl,q,hs',hv',hx⟩
    obtain ⟨h1,h2⟩:=hK v σ' q
    exact hn v σ' r ρ' w'' h1 h2 hs' hv' ((hx.ext hs.fresh).le hn0) (fun i hi _ h0 => hx.no i hi h0)
   | yieldD id' B hid' =>
    have:=hs.dead id' hid'
    have:=hc.1
    simp_all
   | _ => exact hc.elim
  ·cases hk
 ·rename_i args argTypes heq
  split at hk
  ·rename_i x k t ha ht
   split at hk
   ·rename_i kt et hu
    split at hk
    ·rename_i tag ia ib hkt hx hk'
     cases hk
     obtain ⟨h1,h2,h3⟩:=hid rfl
     obtain ⟨⟨v,σ'⟩,ho1,ho2⟩:=h
     refine acts (id':=id) (n':=n0) (σ':=σ') (stI_next ho1) ?_ (Nat.le_refl _) (fun _ => rfl) (fun h => by cases h) ho2
     rw [heq]
     obtain ⟨al⟩:=args
     simp only at ha
     subst ha
     exact mdel_case ht hu hkt hx hk' ho1 hs hf
    ·cases hk
   ·cases hk
  ·cases hk
 ·rename_i args argTypes heq
  split at hk
  ·rename_i x y t ha ht
   split at hk
   ·rename_i e hu
    split at hk
    ·rename_i n ia ib hsz hx hy
     cases hk
     obtain ⟨h1,h2,h3⟩:=hid rfl
     obtain ⟨⟨v,σ'⟩,ho1,ho2⟩:=h
     refine acts (id':=id) (n':=n0) (σ':=σ') (stI_next ho1) ?_ (Nat.le_refl _) (fun _ => rfl) (fun h => by cases h) ho2
     rw [heq]
     obtain ⟨al⟩:=args
     simp only at ha
     subst ha
     exact cpy_case ht hu hsz hx hy ho1 hs hf
    ·cases hk
   ·cases hk
  ·cases hk
 ·obtain ⟨q,hq,rfl⟩:=map_some hk
  exact quiet q hq rfl
 ·rename_i t x lo oh om _ heq
  split at hk
  ·rename_i e hu
   split at hk
   ·rename_i n ia il ib ic hsz hx hl hh hm
    replace hk:=Option.some.inj hk
    by_cases hcl : fz=false
    ·rw [if_pos hcl] at hk
     subst hk
     obtain ⟨v,hv',ho2⟩:=h
     refine acts (id':=σ.next) (n':=n0) (σ':=σ) rfl ?_ (Nat.le_refl _) (fun h => by cases h) (fun _ => Nat.le_refl _) ho2
     rw [heq]
     have hlo : (lo=none∧il=.c (.int .i64 0)) ∨ ∃ o,lo=some o∧cmpX o=some il:=by
      cases lo with
      | none => cases hl; exact .inl ⟨rfl,rfl⟩
      | some o => exact .inr ⟨o,rfl,hl⟩
     exact clp_case hu hsz hx hlo hh hm hv' hs hf
    rw [if_neg hcl] at hk
    subst hk
    obtain ⟨h1,h2,h3⟩:=hid rfl
    obtain ⟨⟨v,σ'⟩,ho1,ho2⟩:=h
    refine acts (id':=id) (n':=n0) (σ':=σ') (stI_next ho1) ?_ (Nat.le_refl _) (fun _ => rfl) (fun h => by cases h) ho2
    rw [heq]
    have hlo : (lo=none∧il=.c (.int .i64 0)) ∨ ∃ o,lo=some o∧cmpX o=some il:=by
     cases lo with
     | none => cases hl; exact .inl ⟨rfl,rfl⟩
     | some o => exact .inr ⟨o,rfl,hl⟩
    exact sl3_case hu hsz hx hlo hh hm ho1 hs hf h1 h2 h3
   ·cases hk
  ·cases hk
 ·rename_i t x oh heq
  split at hk
  ·rename_i e hu
   split at hk
   ·rename_i n ia ib hsz hx hh
    cases hk
    obtain ⟨h1,h2,h3⟩:=hid rfl
    obtain ⟨⟨v,σ'⟩,ho1,ho2⟩:=h
    obtain ⟨u,hu1,hu2⟩:=map_some ho1
    cases hu2
    refine acts (id':=id) (n':=n0) (σ':=σ) rfl ?_ (Nat.le_refl _) (fun _ => rfl) (fun h => by cases h) ho2
    rw [heq]
    exact rlp_case hu hsz hx hh hu1 hs hf
   ·cases hk
  ·obtain ⟨q,hq,rfl⟩:=map_some hk
   exact quiet q hq rfl
 ·rename_i t x heq
  split at hk
  ·rename_i agg ia hq
   cases hk
   obtain ⟨v,hv,hK⟩:=h
   have hv' : evq E fr σ (.load agg ia)=some v:=by
    cases fz with
    | true => exact ldt_load hv σ
    | false => exact hv
   obtain ⟨r,hrun,hvr⟩:=q_sound hq hv' hs hf o heq
   refine ⟨fun f _ => trivial,?_⟩
   rw [Oper.semAt_eq _ _ _ hdf,hrun]
   exact hn v σ r ρ w (Nat.le_refl _) hK hs hvr (Ext.refl _ _ _) (fun i _ _ h0 => h0)
  ·cases hk
 ·rename_i op heq _ _ _ _ _ _ _
  obtain ⟨q,hq,rfl⟩:=map_some hk
  exact quiet q hq rfl
theorem op_sound {k : IK} {id n0 : Nat} {K : IV→Store→Prop} {o : Oper} {next : Act→World→Prop} {Q : Exit→Act→World→Prop} {ro : Option Nat}
  {fz : Bool} (hk : cmpK P pf fz o.op=some k) (h : opR P E k id fr σ K) (hs : Sim E ρ w σ) (hf : FR ρ w N fr a.tmps) (hn0 : n0≤σ.next) (hid : k.lays=true→ρ id=.no∧id < σ.next∧n0≤id)
  (hn : ∀ v σ' r ρ' w',σ.next≤σ'.next→K v σ'→Sim E ρ' w' σ'→VR ρ' w' v r→Ext n0 ρ w ρ' w'→(∀ i,i < σ.next→(k.lays=true→i≠id)→ρ i=.no→ρ' i=.no)→next (a.put o.dst r) w') : o.wpIn (fw ro) 0 P a w next Q:=by
 unfold cmpK at hk
 split at hk
 ·rename_i k' hk'
  cases hk
  exact op_sound0 hk' h hs hf hn0 hid hn
 ·split at hk
  ·cases hk
  ·cases hk
   obtain ⟨r,hr,_⟩:=h
   cases hr
end Go.Id
/- Regions in the text's order. Conditions: none; over any program. -/
namespace Go.Id
open Go
variable {P : Program} {w w' w'' : World} {ρ ρ' ρ'' : Rho} {E : Nat→IV} {σ σ' : Store} {N n n' : Nat} {fr : Frm} {a : Act} {pf : List Nat}
theorem guard_wanted {ops : Array Oper} {o : Oper} {j s : Nat} {want b : Bool} (hg : o.guard=some (j,want)) (hs : (ops[j]?).bind (·.dst)=some s) (hf : FR ρ w N fr a.tmps) (hb : fr.get s=.bool b) :
  Region.wanted o (yielded ops a.tmps)=decide (b=want):=by
 have hv:=hf.get s
 rw [hb] at hv
 have ht : a.tmps[s]? = some (.bool b):=by
  generalize hr : a.tmps.getD s undef=r at hv
  cases hv
  rw [Array.getD_eq_getD_getElem?] at hr
  cases he : a.tmps[s]? with
  | none => rw [he] at hr; simp [undef] at hr
  | some v => rw [he] at hr; simp at hr; rw [hr]
 have hy : yielded ops a.tmps j=some b:=by
  unfold yielded
  rw [hs]
  simp [ht]
 unfold Region.wanted
 rw [hg]
 simp only [hy]
 cases b <;> cases want <;> rfl
theorem skV_vr {ρ : Rho} {w : World} : VR ρ w skV undef:=.tuple [] #[] rfl fun i hi => absurd hi (Nat.not_lt_zero _)
theorem guard_act {ops : Array Oper} {o : Oper} {j s : Nat} {want act : Bool} (hg : o.guard=some (j,want)) (hs : (ops[j]?).bind (·.dst)=some s) (hf : FR ρ w N fr a.tmps) (ha : actI (fr.get s) want=some act) :
  Region.wanted o (yielded ops a.tmps)=act:=by
 unfold actI at ha
 split at ha
 ·rename_i b hb
  cases ha
  exact guard_wanted hg hs hf hb
 ·rename_i hb
  cases ha
  have hv:=hf.get s
  rw [hb] at hv
  have hy : yielded ops a.tmps j=none:=by
   unfold yielded
   rw [hs]
   generalize hr : a.tmps.getD s undef=r at hv
   cases hv with
   | tuple _ rs hl _ =>
    rw [Array.getD_eq_getD_getElem?] at hr
    cases he : a.tmps[s]? with
    | none => simp [he]
    | some v => rw [he] at hr; simp at hr; simp [he,hr]
  unfold Region.wanted
  rw [hg]
  simp [hy]
 ·cases ha
theorem put_defers (a : Act) (d : Option Tmp) (v : Value) : (a.put d v).defers=a.defers:=by cases d <;> rfl
theorem laysN_cons (o : IOper) (os : List IOper) : laysN (o :: os)=(if o.op.lays then 1 else 0)+laysN os:=by
 unfold laysN
 rw [List.filter_cons]
 split <;> simp_all
 omega
theorem cmpOper_dst {ops : Array Oper} {o : Oper} {io : IOper} (h : cmpOper P pf N ops o=some io) : (∃ fz,cmpK P pf fz o.op=some io.op)∧io.dst=o.dst∧dstOk N o.dst=true ∧
  (o.guard=none∧io.guard=none ∨ ∃ j want s,o.guard=some (j,want)∧(ops[j]?).bind (·.dst)=some s∧io.guard=some (s,want)):=by
 unfold cmpOper at h
 cases hk : cmpK P pf (o.dst.any fun t => pf.contains (1000000+t)) o.op with
 | none => rw [hk] at h; cases h
 | some k =>
  rw [hk] at h
  simp only at h
  by_cases hd : dstOk N o.dst=true
  ·rw [if_pos hd] at h
   cases hg : o.guard with
   | none => rw [hg] at h; cases h; exact ⟨⟨_,hk⟩,rfl,hd,.inl ⟨rfl,rfl⟩⟩
   | some p =>
    obtain ⟨j,want⟩:=p
    rw [hg] at h
    simp only at h
    cases hs : (ops[j]?).bind (·.dst) with
    | none => rw [hs] at h; cases h
    | some s => rw [hs] at h; cases h; exact ⟨⟨_,hk⟩,rfl,hd,.inr ⟨j,want,s,rfl,hs,rfl⟩⟩
  ·rw [if_neg hd] at h; cases h
theorem ops_sound {ops : Array Oper} {n0 : Nat} {ro : Option Nat} {Qw : Exit→Act→World→Prop} {K : Frm→Store→Prop} {ρ0 : Rho} {w0 : World} {ds : List Deferred}
  (hfin : ∀ fr σ ρ w a,n0≤σ.next→K fr σ→Sim E ρ w σ→FR ρ w N fr a.tmps→a.defers=ds→ExtW n0 ρ0 w0 ρ w→Qw .normal a w) :
  ∀ (os : List Oper) (ios : List IOper) (i id : Nat) (fr : Frm) (σ : Store) (ρ : Rho) (w : World) (a : Act),ops.toList.drop i=os→cmpOps P pf N ops os=some ios→ropsR P E ios id fr σ K →
   Sim E ρ w σ→FR ρ w N fr a.tmps→a.defers=ds→ExtW n0 ρ0 w0 ρ w→n0≤id→(∀ k,id≤k→k < id+laysN ios→ρ k=.no)→id+laysN ios≤σ.next →
   wpOpsIn (fw ro) 0 P ops Qw (List.range' i os.length) a w:=by
 intro os
 induction os with
 | nil =>
  intro ios i id fr σ ρ w a _ hc h hs hf hd hx hn0 hres hle
  cases hc
  exact hfin fr σ ρ w a (by simp [laysN] at hle; omega) h hs hf hd hx
 | cons o os ih =>
  intro ios i id fr σ ρ w a hdrop hc h hs hf hd hx hn0 hres hle
  simp only [cmpOps] at hc
  split at hc
  ·rename_i io ios' hio hios
   cases hc
   obtain ⟨⟨fz,hk⟩,hdst,hdN,hg⟩:=cmpOper_dst hio
   have hi : ops[i]? = some o:=by
    have:=congrArg (fun l => l[0]?) hdrop
    simpa [List.getElem?_drop] using this
   have hdrop' : ops.toList.drop (i+1)=os:=by
    have:=congrArg (List.drop 1) hdrop
    simpa [List.drop_drop] using this
   simp only [List.length_cons,List.range'_succ]
   rw [wpOpsIn_cons]
   have run : opR P E io.op id fr σ (fun v σ' => ropsR P E ios' (if io.op.lays then id+1 else id) (fr.setd io.dst v) σ' K)→o.wpIn (fw ro) 0 P a w (wpOpsIn (fw ro) 0 P ops Qw (List.range' (i+1) os.length)) Qw:=by
    intro hop
    have hlN:=laysN_cons io ios'
    refine op_sound hk hop hs hf (by omega) (fun hl => ⟨hres id (Nat.le_refl _) (by rw [hlN,hl]; simp; omega),by rw [hlN,hl] at hle; simp at hle; omega,hn0⟩) ?_
    intro v σ' r ρ' w' hnx hK hs' hv' hx' hno
    refine ih ios' (i+1) _ _ σ' ρ' w' (a.put o.dst r) hdrop' hios hK hs' ?_ (by rw [put_defers]; exact hd) (hx.trans (hx'.weak (Nat.le_refl _))) (by split <;> omega) ?_ ?_
    ·rw [hdst]
     exact FR.setd (hf.mono hx') hdN hv'
    ·intro k hk1 hk2
     have hk3 : id≤k:=by split at hk1 <;> omega
     have hk4 : k < id+laysN (io :: ios'):=by
      rw [hlN]
      cases hl : io.op.lays <;> rw [hl] at hk2 <;> simp at hk2 ⊢ <;> omega
     exact hno k (by omega) (fun hl => by rw [hl] at hk1; simp at hk1; omega) (hres k hk3 hk4)
    ·rw [hlN] at hle; split <;> simp_all <;> omega
   unfold wpOpIn
   simp only [hi]
   simp only [ropsR] at h
   obtain ⟨act,hact,h⟩:=h
   have skip : ropsR P E ios' (if io.op.lays then id+1 else id) (fr.setd io.dst skV) σ K→(∀ f,o.about P w a.eval=some f→(fw ro).fn f)∧wpOpsIn (fw ro) 0 P ops Qw (List.range' (i+1) os.length) (a.put o.dst undef) w:=by
    intro h
    refine ⟨fun f _ => trivial,?_⟩
    have hlN:=laysN_cons io ios'
    refine ih ios' (i+1) _ _ σ ρ w (a.put o.dst undef) hdrop' hios h hs (by rw [hdst]; exact FR.setd hf hdN skV_vr) (by rw [put_defers]; exact hd) hx (by split <;> omega) ?_ ?_
    ·intro k hk1 hk2
     refine hres k (by split at hk1 <;> omega) ?_
     rw [hlN]
     cases hl : io.op.lays <;> rw [hl] at hk2 <;> simp at hk2 ⊢ <;> omega
    ·rw [hlN] at hle; split <;> simp_all <;> omega
   have hw : Region.wanted o (yielded ops a.tmps)=act:=by
    rcases hg with ⟨hg1,hg2⟩ | ⟨j,want,s,hg1,hgs,hg2⟩
    ·simp only [actIs,hg2,Option.some.injEq] at hact
     unfold Region.wanted; rw [hg1]; exact hact
    ·simp only [actIs,hg2] at hact
     exact guard_act hg1 hgs hf hact
   rw [hw]
   cases act with
   | true => exact run h
   | false => exact skip h
  ·cases hc
end Go.Id
/- A function's contract out of its body. Conditions: none; over any program. -/
namespace Go.Id
open Go
variable {P : Program} {w w' w'' : World} {ρ ρ' ρ'' : Rho} {E : Nat→IV} {σ σ' : Store} {N n n' : Nat} {fr : Frm} {a : Act} {pf : List Nat}
theorem R_region {n0 id : Nat} {ops : Array Oper} {ios : List IOper} {Q : Exit→Frm→Store→Prop} (hc : cmpOps P pf N ops ops.toList=some ios)
  (h : ropsR P E ios σ.next fr { σ with next:=σ.next+laysN ios } (fun fr' σ' => Q .normal fr' σ')) : R P E N n0 (.region id ops false) fr σ Q:=by
 intro hn ro h0 ρ w a hs hf hd hr
 refine wpIn_region ?_
 rw [List.range_eq_range']
 have e : ops.size=ops.toList.length:=by simp
 rw [e]
 refine ops_sound (n0:=n0) (ρ0:=ρ) (w0:=w) (ds:=a.defers) (K:=fun fr' σ' => Q .normal fr' σ') ?_ ops.toList ios 0 σ.next fr _ ρ w a rfl hc h
  (sim_next hs (fun i hi => hs.fresh i (by omega))) hf rfl (ExtW.refl _ _ _) hn (fun k hk _ => hs.fresh k hk) (Nat.le_refl _)
 intro fr' σ' ρ' w' a' hn' hK hs' hf' hd' hx
 exact ⟨fr',σ',ρ',hn',hK,hs',hf',by rw [hd']; exact hd.mono hx,hr.mono hx,hx⟩
/-! ### A block that holds no cells turns -/
theorem VR.turn {r : Nat} {v : IV} {x : Value} (hsz : w'.heap.size=w.heap.size) (hb : ∀ b,b≠r→w'.heap[b]? = w.heap[b]?) (hr : ∀ rcs el fz,w.heap[r]?≠some (Obj.cells rcs el fz)) (hmp : ∀ mes c,w.heap[r]?≠some (Obj.map mes c)) (h : VR ρ w v x) : VR ρ w' v x:=by
 have hcells : ∀ (b : Nat) (rcs : Array Value) (el : TypeId) (fz : Nat × Nat),w.heap[b]? = some (.cells rcs el fz)→w'.heap[b]? = some (.cells rcs el fz):=fun b rcs el fz hh => by
  have : b≠r:=fun e => by subst e; exact hr _ _ _ hh
  rw [hb b this]; exact hh
 have hfb : ∀ b,FB ρ w b→FB ρ w' b:=fun b hh => ⟨by rw [hsz]; exact hh.1,hh.2,hh.3⟩
 have hcell : ∀ (ad : Addr) (q : Value),w.cell? ad=some q→w'.cell? ad=some q:=fun ad q hh => by
  unfold World.cell? at hh ⊢
  split at hh
  ·rename_i c el fz hc
   rw [hcells _ _ _ _ hc]; exact hh
  ·cases hh
 induction h with
 | undef r => exact .undef r
 | bool b => exact .bool b
 | int k n => exact .int k n
 | str s => exact .str s
 | nilptr => exact .nilptr
 | ptr id off B d hi => exact .ptr id off B d hi
 | ptrD id off ad hi => exact .ptrD id off ad hi
 | tptr cs b o vs hf hc _ ih => exact .tptr cs b o vs (hfb _ hf) (fun j hj => hcell _ _ (hc j hj)) ih
 | nilslice => exact .nilslice
 | zslice a => exact .zslice a
 | eslice a c => exact .eslice a c
 | slice id off len esz B d cap rcs el fz hi hbk hs hle => exact .slice id off len esz B d cap rcs el fz hi (hcells _ _ _ _ hbk) hs hle
 | sliceZ id off esz B d a hi => exact .sliceZ id off esz B d a hi
 | sliceD id off len esz cap ad hi hle => exact .sliceD id off len esz cap ad hi hle
 | cslice id off len esz B d rcs el fz hi hbk hs => exact .cslice id off len esz B d rcs el fz hi (hcells _ _ _ _ hbk) hs
 | csliceD id off len esz ad hi => exact .csliceD id off len esz ad hi
 | rslice id off len room esz B d cap rcs el fz hi hbk hs hle hr => exact .rslice id off len room esz B d cap rcs el fz hi (hcells _ _ _ _ hbk) hs hle hr
 | rsliceD id off len room esz cap ad hi hle hr => exact .rsliceD id off len room esz cap ad hi hle hr
 | tslice es b o cap esz sp vs hf hs hc _ hle ih => exact .tslice es b o cap esz sp vs (fun hne => ⟨hfb _ (hf hne).1,(hf hne).2⟩) hs (fun i hi j hj => hcell _ _ (hc i hi j hj)) ih hle
 | tnil => exact .tnil
 | nilmap => exact .nilmap
 | map id B d hi => exact .map id B d hi
 | mapD id B hi => exact .mapD id B hi
 | tmap es es' b mes clock hp hd hf hh hl _ _ h4 h5 ihk ihv => exact .tmap es es' b mes clock hp hd (hfb _ hf) (by have : b≠r:=fun e => by { subst e; exact hmp _ _ hh }; rw [hb b this]; exact hh) hl ihk ihv h4 h5
 | func fn first cap rf rc hy h1 h2 _ _ ihf ihc => exact .func fn first cap rf rc hy h1 h2 ihf ihc
 | yield id B d hi => exact .yield id B d hi
 | yieldD id B hi => exact .yieldD id B hi
 | nilfunc => exact .nilfunc
 | iface t v r _ ih => exact .iface t v r ih
 | niliface => exact .niliface
 | agg cs rs h1 _ ih => exact .agg cs rs h1 ih
 | tuple cs rs h1 _ ih => exact .tuple cs rs h1 ih
theorem OR.turn {r B d : Nat} {o : IObj} (hsz : w'.heap.size=w.heap.size) (hb : ∀ b,b≠r→w'.heap[b]? = w.heap[b]?) (hr : ∀ rcs el fz,w.heap[r]?≠some (Obj.cells rcs el fz)) (hmp : ∀ mes c,w.heap[r]?≠some (Obj.map mes c)) (hB : B≠r) (h : OR ρ w B d o) : OR ρ w' B d o:=by
 have key : ∀ cs,CellsOR ρ w B d cs→CellsOR ρ w' B d cs:=fun cs ⟨rcs,el,h1,h2,h3⟩ => ⟨rcs,el,by rw [hb B hB]; exact h1,h2,fun i hi => (h3 i hi).turn hsz hb hr hmp⟩
 cases o with
 | cells cs => exact key cs h
 | row cs => exact key cs h
 | map es =>
  obtain ⟨mes,clock,h1,h0,h2,h3,h4,h5⟩:=h
  exact ⟨mes,clock,by rw [hb B hB]; exact h1,h0,h2,fun i hi => ⟨(h3 i hi).1.turn hsz hb hr hmp,(h3 i hi).2.turn hsz hb hr hmp⟩,h4,h5⟩
 | siter s pos => exact ⟨by rw [hb B hB]; exact h.1,h.2⟩
 | loop N tmps params assign body st pend =>
  obtain ⟨hd,l,h1,h2,h3,h4,h5,h6,h7,h8⟩:=h
  exact ⟨hd,l,by rw [hb B hB]; exact h1,h2,h3,h4,h5,h6,h7,fun t => (h8 t).turn hsz hb hr hmp⟩
 | miter left cur =>
  obtain ⟨hd,mb,last,seen,mes,clock,lft,h1,h2,h3,h4,h5,h6,h7,h8,hc,h9⟩:=h
  have hm : mb≠r:=fun e => by subst e; exact hmp _ _ h3
  exact ⟨hd,mb,last,seen,mes,clock,lft,by rw [hb B hB]; exact h1,⟨by rw [hsz]; exact h2.1,h2.2,h2.3⟩,by rw [hb mb hm]; exact h3,h4,h5,h6,h7,h8,fun c e => let ⟨i,g1,g2,g3,g4⟩:=hc c e; ⟨i,g1,g2,g3.turn hsz hb hr hmp,g4.turn hsz hb hr hmp⟩,fun i hi => ⟨(h9 i hi).1.turn hsz hb hr hmp,(h9 i hi).2.turn hsz hb hr hmp⟩⟩
theorem Sim.turn {r : Nat} (hsz : w'.heap.size=w.heap.size) (hb : ∀ b,b≠r→w'.heap[b]? = w.heap[b]?) (hr : ∀ rcs el fz,w.heap[r]?≠some (Obj.cells rcs el fz)) (hmp : ∀ mes c,w.heap[r]?≠some (Obj.map mes c)) (hfb : UB ρ w r) (hs : Sim E ρ w σ) : Sim E ρ w' σ :=
 ⟨hs.inj,fun i B d h => by rw [hsz]; exact hs.lt i B d h,fun i B d h => let ⟨o,h1,h2⟩:=hs.obj i B d h; ⟨o,h1,h2.turn hsz hb hr hmp (fun e => hfb.2 i d (by rw [← e]; exact h))⟩,hs.dead,hs.fresh,hs.noObj,fun g => (hs.env g).turn hsz hb hr hmp,hs.nx,fun b h => by rw [hsz]; exact hs.xlt b h⟩
/-! ### The results -/
def resI (P : Program) (σ : Store) (fr : Frm) : ResultVar→Option IV
 | .tmp t => some (fr.get t)
 | .cell ad t => match loadK P t with
  | some agg => loadI σ agg (fr.get ad)
  | none => none
def resL (P : Program) (σ : Store) (fr : Frm) : List ResultVar→Option (List IV)
 | [] => some []
 | r :: rs => match resI P σ fr r,resL P σ fr rs with
  | some v,some vs => some (v :: vs)
  | _,_ => none
def resV : List IV→IV
 | [v] => v
 | vs => .tuple vs
def resRun (tmps : Array Value) : ResultVar→Sem Value
 | .tmp t => pure (tmps.getD t undef)
 | .cell a t => do loadVar t (← asAddr (tmps.getD a undef))
theorem results_eq (fn : Func) (tmps : Array Value) : results fn tmps=(do let vs ← fn.results.mapM (resRun tmps); pure (if h : vs.size=1 then vs[0] else .tuple vs)):=by
 unfold results
 refine congrArg (fun m : Sem (Array Value) => m >>= fun vs => pure (if h : vs.size=1 then vs[0] else .tuple vs)) ?_
 refine congrArg (fun g => fn.results.mapM g) ?_
 funext x
 cases x <;> rfl
theorem resL_sound {tmps : Array Value} (hs : Sim E ρ w σ) (hf : FR ρ w N fr tmps) : ∀ (rs : List ResultVar) (vs : List IV),resL P σ fr rs=some vs →
  ∃ rvs : List Value,(rs.mapM (resRun tmps)).run P w=.ok rvs w∧CR ρ w vs rvs.toArray:=by
 intro rs
 induction rs with
 | nil => intro vs h; cases h; exact ⟨[],rfl,rfl,fun i hi => by simp at hi⟩
 | cons r rs ih =>
  intro vs h
  simp only [resL] at h
  split at h
  ·rename_i v vs' h1 h2
   cases h
   obtain ⟨rvs,hr,hc⟩:=ih vs' h2
   have one : ∃ x,(resRun tmps r).run P w=.ok x w∧VR ρ w v x:=by
    cases r with
    | tmp t => cases h1; exact ⟨_,rfl,hf.get t⟩
    | cell ad t =>
     simp only [resI] at h1
     split at h1
     ·rename_i agg hk
      have hv:=hf.get ad
      obtain ⟨x,hx,hvx⟩:=load_sound hs hk h1 hv
      have hp : ∃ ad',tmps.getD ad undef=.pointer (some ad'):=by
       unfold loadI at h1
       cases hc : cellsAt σ (fr.get ad) with
       | none => rw [hc] at h1; cases h1
       | some cs => obtain ⟨b,o,he,_⟩:=cellsAt_sound hs hv hc; exact ⟨_,he⟩
      obtain ⟨ad',he⟩:=hp
      rw [he] at hx
      refine ⟨x,?_,hvx⟩
      show (do loadVar t (← asAddr (tmps.getD ad undef)) : Sem Value).run P w=.ok x w
      rw [he]
      simpa [Instr.loadAt,Instr.sureAddr,asAddr] using hx
     ·cases h1
   obtain ⟨x,hx,hvx⟩:=one
   refine ⟨x :: rvs,?_,by have:=hc.1; simp at this ⊢; exact this,fun i hi => ?_⟩
   ·rw [List.mapM_cons]
    simp only [Sem.run_bind,hx,hr,Result.andThen_ok,Sem.run_pure]
   ·cases i with
    | zero => simpa using hvx
    | succ i => simpa [Array.getD_eq_getD_getElem?] using hc.2 i (by simpa using hi)
  ·cases h
theorem results_sound {fn : Func} {tmps : Array Value} {vs : List IV} (hs : Sim E ρ w σ) (hf : FR ρ w N fr tmps) (h : resL P σ fr fn.results.toList=some vs) :
  ∃ x,(results fn tmps).run P w=.ok x w∧VR ρ w (resV vs) x:=by
 obtain ⟨rvs,hr,hc⟩:=resL_sound (P:=P) hs hf fn.results.toList vs h
 have hm : (fn.results.mapM (resRun tmps)).run P w=.ok rvs.toArray w:=by
  obtain ⟨l,hl⟩ : ∃ l,fn.results=⟨l⟩:=⟨fn.results.toList,rfl⟩
  rw [hl] at hr ⊢
  rw [List.mapM_toArray,Sem.run_map,hr]
  rfl
 rw [results_eq]
 simp only [Sem.run_bind,hm,Result.andThen_ok]
 match vs,rvs,hc with
 | [],[],hc => exact ⟨_,rfl,.tuple _ _ hc.1 hc.2⟩
 | [v],[x],hc => exact ⟨x,rfl,by have:=hc.2 0 (by simp); simpa [resV] using this⟩
 | v :: v' :: vs,x :: x' :: rvs,hc => exact ⟨.tuple (x :: x' :: rvs).toArray,rfl,.tuple _ _ hc.1 hc.2⟩
 | [],x :: rvs,hc => exact absurd hc.1 (by simp)
 | [v],[],hc => exact absurd hc.1 (by simp)
 | v :: v' :: vs,[],hc => exact absurd hc.1 (by simp)
 | v :: v' :: vs,[x],hc => exact absurd hc.1 (by simp)
 | [v],x :: x' :: rvs,hc => exact absurd hc.1 (by simp)
/-! ### A function -/
def argFr : List IV→Nat→Frm
 | [],_ => []
 | v :: vs,i => (i,v) :: argFr vs (i+1)
theorem argFr_get (vs : List IV) : ∀ (i t : Nat),(argFr vs i).get t=if i≤t then vs.getD (t - i) .undef else .undef:=by
 induction vs with
 | nil => intro i t; simp [argFr,Frm.get]
 | cons v vs ih =>
  intro i t
  have : argFr (v :: vs) i=(argFr vs (i+1)).set i v:=rfl
  rw [this,Frm.get_set,ih]
  by_cases h : t=i
  ·subst h; simp
  ·rw [if_neg h]
   by_cases h1 : i≤t
   ·have h2 : i+1≤t:=by omega
    rw [if_pos h1,if_pos h2,show t - i=(t - (i+1))+1 from by omega]
    simp
   ·have h2 : ¬ (i+1≤t):=by omega
    rw [if_neg h1,if_neg h2]
theorem argFR {args : List IV} {rargs : Array Value} (hc : CR ρ w args rargs) (hl : args.length≤N) : FR ρ w N (argFr args 0) (rargs ++ Array.replicate (N - rargs.size) undef):=by
 refine ⟨by rw [hc.1] at hl; simp; omega,fun t => ?_⟩
 rw [argFr_get]
 simp only [Nat.zero_le,if_true,Nat.sub_zero]
 by_cases h : t < args.length
 ·have h' : t < rargs.size:=by rw [← hc.1]; exact h
  have:=hc.2 t h
  have e : (rargs ++ Array.replicate (N - rargs.size) undef).getD t undef=rargs.getD t undef:=by
   simp [Array.getD_eq_getD_getElem?,Array.getElem?_append,h']
  rw [e]; exact this
 ·have : args.getD t .undef=.undef:=by simp [List.getD_eq_getElem?_getD,List.getElem?_eq_none (Nat.le_of_not_lt h)]
  rw [this]; exact .undef _
theorem putObj_get (w : World) (r b : Nat) (o : Obj) (h : b≠r) : (w.putObj r o).heap[b]? = w.heap[b]?:=by
 have h' : ¬ r=b:=fun e => h e.symm
 show (w.heap.setIfInBounds r o)[b]? = _
 rw [Array.getElem?_setIfInBounds]
 simp [h']
theorem leaves_sound {F : Fence} {n0 h0 : Nat} {fn : Func} {tmps : Array Value} {Rw : Ending→World→Prop} {v : IV} {ρ0 : Rho} {w0 : World} {vs : List IV}
  (hfin : ∀ x w',Sim E ρ w' σ→VR ρ w' (resV vs) x→ExtW n0 ρ0 w0 ρ w'→Rw (.returned x) w') (hres : resL P σ fr fn.results.toList=some vs) (hh : w0.heap.size≤h0) :
  ∀ (ds : List Deferred) (w : World),Sim E ρ w σ→FR ρ w N fr tmps→DF h0 ρ w ds→ExtW n0 ρ0 w0 ρ w→LeavesInM F n P fn tmps Rw ds .returning w:=by
 intro ds
 induction ds with
 | nil =>
  intro w hs hf _ hx
  obtain ⟨x,hx',hv⟩:=results_sound (P:=P) hs hf hres
  exact ⟨x,hx',hfin x w hs hv hx⟩
 | cons d ds ih =>
  intro w hs hf hd hx
  cases hd with
  | cons r _ hr hb hh1 hn hd' =>
   have hsz : (w.putObj r (.deferred none)).heap.size=w.heap.size:=by show (w.heap.setIfInBounds r _).size=_; simp
   have hne : ∀ (rcs : Array Value) (el : TypeId) (fz : Nat × Nat),w.heap[r]?≠some (Obj.cells rcs el fz):=fun _ _ _ h => by rw [hr] at h; cases h
   have hnm : ∀ (mes : Array MapEntry) (c : Nat),w.heap[r]?≠some (Obj.map mes c):=fun _ _ h => by rw [hr] at h; cases h
   have hg : ∀ b,b≠r→(w.putObj r (.deferred none)).heap[b]? = w.heap[b]?:=fun b h => putObj_get w r b _ h
   refine ⟨(fun h => by cases h),.inl ⟨r,w.putObj r (.deferred none),rfl,run_takeDeferred hr,?_⟩⟩
   refine ih _ (hs.turn hsz hg hne hnm hb) ⟨hf.size,fun t => (hf.get t).turn hsz hg hne hnm⟩ ?_ ?_
   ·have : ∀ ds',DF h0 ρ w ds'→(∀ d∈ds',d.target=.collected r→False)→DF h0 ρ (w.putObj r (.deferred none)) ds':=by
     intro ds' hd
     induction hd with
     | nil hz => intro _; exact .nil (by rw [hsz]; exact hz)
     | cons r' ds'' hr' hb' hh' hn' _ ih' =>
      intro hno
      have hrr : r'≠r:=fun e => hno { target:=.collected r',args:=#[] } (by simp) (by rw [e])
      exact .cons r' ds'' (by rw [hg r' hrr]; exact hr') ⟨by rw [hsz]; exact hb'.1,hb'.2⟩ hh' hn' (ih' (fun d hd => hno d (by simp [hd])))
    exact this ds hd' hn
   ·refine ⟨by rw [hsz]; exact hx.size,fun b hb' => ?_,fun b rcs el fz hb' => ?_,hx.img,hx.at_,hx.dead,hx.no,hx.output,hx.os,hx.tape,fun l L hl => ?_,hx.X⟩
    ·rw [hg b (by have:=hb'.1; omega)]; exact hx.keep b hb'
    ·have hlt:=(Array.getElem?_eq_some_iff.1 hb').1
     rw [hg b (by omega)]; exact hx.shape b rcs el fz hb'
    ·have hlt:=(Array.getElem?_eq_some_iff.1 hl).1
     rw [hg l (by omega)]; exact hx.loops l L hl
def funQ (P : Program) (rs : List ResultVar) (Qc : IV→Store→Prop) : Exit→Frm→Store→Prop
 | .normal,fr,σ | .ret,fr,σ => ∃ vs,resL P σ fr rs=some vs∧Qc (resV vs) σ
 | _,_,_ => False
theorem C_fun {f : FuncId} {fn : Func} {c : Code} {args : List IV} {Qc : IV→Store→Prop} (hf : P.funcs[f]? = some fn) (hb : fn.body=some c) (hN : fn.ntmps=N) (hl : args.length≤N)
  (h : R P E N σ.next c (argFr args 0) σ (funQ P fn.results.toList Qc)) : C P E f args σ Qc:=by
 intro ρ w rargs hs hc
 refine callsIn_of_wp_marks hf hb trivial ?_
 have hfr:=argFR hc hl
 rw [← hN] at hfr
 refine wpIn_mono (h (Nat.le_refl _) none w.heap.size ρ w { tmps:=rargs ++ Array.replicate (fn.ntmps - rargs.size) undef,defers:=[] } hs (by rw [hN] at hfr ⊢; exact hfr) (.nil (Nat.le_refl _)) (fun l e => by cases e)) ?_
 rintro e a' w' ⟨fr',σ',ρ',hn',q,hs',hf',hd',_,hx⟩
 have fin : (∃ vs,resL P σ' fr' fn.results.toList=some vs∧Qc (resV vs) σ')→LeavesInM Fence.wide 0 P fn a'.tmps (fun e w' => ∃ v r ρ' σ',e=.returned r∧Qc v σ'∧Sim E ρ' w' σ'∧VR ρ' w' v r∧ExtW σ.next ρ w ρ' w') a'.defers .returning w':=by
  rintro ⟨vs,hr,hq⟩
  exact leaves_sound (v:=.undef) (n0:=σ.next) (ρ0:=ρ) (w0:=w) (h0:=w.heap.size) (fun x w'' hs'' hv'' hx'' => ⟨resV vs,x,ρ',σ',rfl,hq,hs'',hv'',hx''⟩) hr (Nat.le_refl _) a'.defers w' hs' hf' hd' hx
 cases e with
 | normal => exact fin q
 | ret => exact fin q
 | _ => exact q.elim
end Go.Id
/- Ranging over a function: the rule for the statement,and the contract of a round. Conditions: none; over any program. -/
namespace Go.Id
open Go
variable {P : Program} {w w' w'' : World} {ρ ρ' ρ'' : Rho} {E : Nat→IV} {σ σ' : Store} {N n n' : Nat} {fr : Frm} {a : Act}
theorem run_enterLoop_in {l₀ : Nat} {r₀ : Loop} (h : w.heap[l₀]? = some (.loop r₀)) (fn : FuncId) (tmps : Array Value) (ps : Array Tmp) (assign body : Code) :
  (Instr.enterLoop fn tmps ps assign body (some l₀)).run P w =
   .ok (w.heap.size,[]) (w.alloc (.loop { state:=.ready,pending:=none,fn,tmps,params:=ps,assign,body,defers:=r₀.defers })):=by
 unfold Instr.enterLoop
 simp only [Sem.run_bind,run_getLoop h,run_newObj_alloc,Result.andThen,Sem.run_pure]
theorem ext_beside (n : Nat) (o : Obj) : Ext n ρ w ρ (w.alloc o) where
 size:=by show w.heap.size≤(w.heap.push o).size; simp
 keep:=fun b hb => alloc_get w o b hb.1
 shape:=fun b rcs el fz hb => ⟨rcs,by rw [alloc_get w o b (Array.getElem?_eq_some_iff.1 hb).1]; exact hb,rfl⟩
 img:=fun i B d hi => .inl ⟨i,d,hi⟩
 at_:=fun _ _ _ h => .inl h
 dead:=fun _ h => h
 no:=fun _ _ h => h
 output:=rfl
 os:=rfl
 tape:=rfl
 loops:=fun l L hl => ⟨L,by rw [alloc_get w o l (Array.getElem?_eq_some_iff.1 hl).1]; exact hl⟩
 X:=rfl
theorem sim_beside (o : Obj) (hs : Sim E ρ w σ) : Sim E ρ (w.alloc o) σ :=
 ⟨hs.inj,fun i B d h => by have:=hs.lt i B d h; show B < (w.heap.push o).size; rw [Array.size_push]; omega,
  fun i B d h => let ⟨o',h1,h2⟩:=hs.obj i B d h; ⟨o',h1,h2.mono (ext_beside 0 o) (alloc_get w o B (hs.lt i B d h))⟩,hs.dead,hs.fresh,hs.noObj,fun g => (hs.env g).mono (ext_beside 0 o),hs.nx,fun b h => by have:=hs.xlt b h; show b < (w.heap.push o).size; rw [Array.size_push]; omega⟩
theorem ext_loop {n l d id : Nat} {L L' : Loop} (hid : ρ id=.at l d) (hb : w.heap[l]? = some (.loop L)) : Ext n ρ w ρ (w.putObj l (.loop L')) where
 size:=by rw [World.putObj_size]; exact Nat.le_refl _
 keep:=fun b hfb => World.putObj_heap_other (fun h => by subst h; exact hfb.2 id d hid)
 shape:=fun b rcs el fz hb' => by
  have h : b≠l:=fun h => by subst h; rw [hb] at hb'; cases hb'
  exact ⟨rcs,by rw [World.putObj_heap_other h]; exact hb',rfl⟩
 img:=fun i B d h => .inl ⟨i,d,h⟩
 at_:=fun _ _ _ h => .inl h
 dead:=fun _ h => h
 no:=fun _ _ h => h
 output:=rfl
 os:=rfl
 tape:=rfl
 loops:=fun k K hk => by
  by_cases h : k=l
  ·subst h; exact ⟨L',World.putObj_heap_same (Array.getElem?_eq_some_iff.1 hb).1⟩
  ·exact ⟨K,by rw [World.putObj_heap_other h]; exact hk⟩
 X:=rfl
theorem sim_loop {id l d : Nat} {L L' : Loop} {o : IObj} (hs : Sim E ρ w σ) (hid : ρ id=.at l d) (hb : w.heap[l]? = some (.loop L)) (ho : OR ρ (w.putObj l (.loop L')) l d o) : Sim E ρ (w.putObj l (.loop L')) (σ.put id o) where
 inj:=hs.inj
 lt:=fun i B' d' h => by rw [World.putObj_size]; exact hs.lt i B' d' h
 obj:=fun i B' d' hi => by
  simp only [Store.put]
  by_cases h : i=id
  ·subst h; rw [hid] at hi; cases hi; exact ⟨o,by simp,ho⟩
  ·obtain ⟨o',h1,h2⟩:=hs.obj i B' d' hi
   have hne : B'≠l:=fun e => h (hs.inj i id l d' d (by rw [hi,e]) hid)
   exact ⟨o',by simp [h,h1],h2.mono (ext_loop (n:=0) hid hb) (World.putObj_heap_other hne)⟩
 dead:=fun i hi => by
  have : i≠id:=fun e => by subst e; rw [hid] at hi; cases hi
  simp [Store.put,this,hs.dead i hi]
 fresh:=fun i hi => hs.fresh i hi
 noObj:=fun i hi => by
  have : i≠id:=fun e => by subst e; rw [hid] at hi; cases hi
  simp [Store.put,this,hs.noObj i hi]
 env:=fun g => (hs.env g).mono (ext_loop (n:=0) hid hb)
 nx:=hs.nx
 xlt:=fun b h => by rw [World.putObj_size]; exact hs.xlt b h
def bindP (fr : Frm) : List Nat→List IV→Frm
 | p :: ps,v :: vs => bindP (fr.set p v) ps vs
 | _,_ => fr
theorem bindP_FR : ∀ (ps : List Nat) (args : List IV) (rargs : List Value) (fr : Frm) (tmps : Array Value),(∀ p∈ps,p < N)→args.length=ps.length→rargs.length=ps.length →
  (∀ i,i < args.length→VR ρ w (args.getD i .undef) (rargs.getD i undef))→FR ρ w N fr tmps→FR ρ w N (bindP fr ps args) ((ps.zip rargs).foldl (fun tmps (t,a) => tmps.setIfInBounds t a) tmps):=by
 intro ps
 induction ps with
 | nil => intro args rargs fr tmps _ h1 h2 _ hf; exact hf
 | cons p ps ih =>
  intro args rargs fr tmps hp h1 h2 hv hf
  match args,rargs,h1,h2 with
  | v :: vs,r :: rs,h1,h2 =>
   refine ih vs rs _ _ (fun q hq => hp q (by simp [hq])) (by simpa using h1) (by simpa using h2) (fun i hi => ?_) (hf.set (hp p (by simp)) ?_)
   ·have:=hv (i+1) (by simpa using hi)
    simpa [List.getD_eq_getElem?_getD] using this
   ·have:=hv 0 (by simp)
    simpa [List.getD_eq_getElem?_getD] using this
theorem inRound_wide (l : Nat) : Fence.wide.inRound l=fw (some l):=rfl
def roundQ (id : Nat) (L : LoopState→Option Code→IObj) (K : IV→Store→Prop) : Exit→Frm→Store→Prop
 | .normal,_,σ => σ.obj id=some (L .busy none)∧K (.bool true) (σ.put id (L .ready none))
 | .ret,_,σ => σ.obj id=some (L .busy none)∧K (.bool false) (σ.put id (L .done (some .ret)))
 | .exit i,_,σ => σ.obj id=some (L .busy none)∧K (.bool false) (σ.put id (L .done (some (.exit i))))
 | _,_,_ => False
theorem CYd_of {id : Nat} {ps : List Nat} {asg body : Code} {args : List IV} {K : IV→Store→Prop} (hps : ∀ p∈ps,p < N) (hl : args.length=ps.length) (ho : σ.obj id=some (.loop N fr ps.toArray asg body .ready none))
  (h : R P E N σ.next asg (bindP fr ps args) σ fun e f s => e=.normal∧s.obj id=some (.loop N fr ps.toArray asg body .ready none) ∧
   R P E N σ.next body f (s.put id (.loop N fr ps.toArray asg body .busy none)) (roundQ id (fun s p => .loop N fr ps.toArray asg body s p) K)) : CYd P E id args σ K:=by
 intro ρ w rargs B d hs hc hid
 obtain ⟨o,h1,h2⟩:=hs.obj id B d hid
 rw [ho] at h1
 cases h1
 obtain ⟨hd,L,g1,g2,g3,g4,g5,g6,g7,g8⟩:=h2
 subst hd
 have hsz : rargs.size=L.params.size:=by rw [g2,← hc.1]; simpa using hl
 have hlt : id < σ.next:=by
  rcases Nat.lt_or_ge id σ.next with h | h
  ·exact h
  ·have:=hs.fresh id h; rw [hid] at this; cases this
 refine ⟨L.fn,_,L.assign,L.body,run_yield g1 hsz,roundIn_of_wpIn trivial ?_⟩
 rw [g3,g4,inRound_wide]
 have hfr : FR ρ w N (bindP fr ps args) (Array.foldl (fun tmps (x : Tmp × Value) => tmps.setIfInBounds x.1 x.2) L.tmps (L.params.zip rargs)):=by
  have:=bindP_FR (ρ:=ρ) (w:=w) ps args rargs.toList fr L.tmps hps hl (by rw [Array.length_toList,← hc.1]; exact hl) (fun i hi => by have:=hc.2 i hi; simpa [Array.getD_eq_getD_getElem?,List.getD_eq_getElem?_getD] using this) ⟨g7,g8⟩
  have e : (Array.foldl (fun tmps (x : Tmp × Value) => tmps.setIfInBounds x.1 x.2) L.tmps (L.params.zip rargs))=List.foldl (fun tmps (x : Tmp × Value) => tmps.setIfInBounds x.1 x.2) L.tmps (ps.zip rargs.toList):=by
   rw [← Array.foldl_toList,Array.toList_zip,g2]
  rw [e]; exact this
 refine wpIn_mono (h (Nat.le_refl _) (some B) w.heap.size ρ w { tmps:=Array.foldl (fun tmps (x : Tmp × Value) => tmps.setIfInBounds x.1 x.2) L.tmps (L.params.zip rargs),defers:=[] } hs hfr (.nil (Nat.le_refl _)) (fun l e => by cases e; exact ⟨_,g1⟩)) ?_
 rintro e a1 w1 ⟨f1,σ1,ρ1,hn1,⟨rfl,hob1,hbody⟩,hs1,hf1,hd1,hr1,hx1⟩
 have live : ∀ {ρ' : Rho} {w' : World} {σ' : Store} {st : LoopState} {pd : Option Code},ExtW σ.next ρ w ρ' w'→Sim E ρ' w' σ'→σ'.obj id=some (.loop N fr ps.toArray asg body st pd)→ρ' id=.at B 0:=fun hx hs' hob => by
  rcases hx.at_ id B 0 hlt hid with h | h
  ·exact h
  ·have:=hs'.dead id h; rw [hob] at this; cases this
 have hid1:=live hx1 hs1 hob1
 obtain ⟨o1,k1,k2⟩:=hs1.obj id B 0 hid1
 rw [hob1] at k1
 cases k1
 obtain ⟨hd0,L1,e1,e2,e3,e4,e5,e6,e7,e8⟩:=k2
 have hB1:=hs1.lt id B 0 hid1
 refine ⟨_,run_beginRound e1 e6,?_⟩
 have hx2 : ∀ m,Ext m ρ1 w1 ρ1 (w1.putObj B (.loop { L1 with state:=.busy })):=fun m => ext_loop hid1 e1
 have hs2 : Sim E ρ1 (w1.putObj B (.loop { L1 with state:=.busy })) (σ1.put id (.loop N fr ps.toArray asg body .busy none)) :=
  sim_loop hs1 hid1 e1 ⟨rfl,{ L1 with state:=.busy },World.putObj_heap_same hB1,e2,e3,e4,e5,rfl,e7,fun t => (e8 t).mono (hx2 0)⟩
 have hxw:=(hx2 σ.next).weak (Nat.le_refl σ.next)
 refine wpIn_mono (hbody hn1 (some B) w.heap.size ρ1 _ a1 hs2 (hf1.mono (hx2 0)) (hd1.mono hxw) (hr1.mono hxw)) ?_
 rintro e a' w' ⟨fr',σ',ρ',hn',q,hs',hf',hd',hr',hx⟩
 have fin : ∀ (jump : Option Code) (st : LoopState),st=(if jump.isNone then .ready else .done)→σ'.obj id=some (.loop N fr ps.toArray asg body .busy none)→K (.bool jump.isNone) (σ'.put id (.loop N fr ps.toArray asg body st jump)) →
   ∃ v w₂,(Instr.endRound B jump).run P w'=.ok v w₂∧∃ v' r ρ'' σ'',Ending.returned v=.returned r∧K v' σ''∧Sim E ρ'' w₂ σ''∧VR ρ'' w₂ v' r∧ExtW σ.next ρ w ρ'' w₂:=by
  intro jump st hst hob hK
  have hxT : ExtW σ.next ρ w ρ' w':=(hx1.trans hxw).trans hx
  have hid':=live hxT hs' hob
  obtain ⟨o',k1,k2⟩:=hs'.obj id B 0 hid'
  rw [hob] at k1
  cases k1
  obtain ⟨hd2,L',f1,f2,f3,f4,f5,f6,f7,f8⟩:=k2
  have hB':=hs'.lt id B 0 hid'
  have hx3 : ∀ m,Ext m ρ' w' ρ' (w'.putObj B (.loop { L' with state:=if jump.isNone then .ready else .done,pending:=jump })):=fun m => ext_loop hid' f1
  refine ⟨_,_,run_endRound jump f1,_,_,ρ',_,rfl,hK,sim_loop hs' hid' f1 ⟨rfl,_,World.putObj_heap_same hB',f2,f3,f4,rfl,hst.symm,f7,fun t => (f8 t).mono (hx3 0)⟩,.bool _,?_⟩
  exact hxT.trans ((hx3 σ.next).weak (Nat.le_refl _))
 cases e with
 | normal => exact fin none .ready rfl q.1 q.2
 | ret => exact fin (some .ret) .done rfl q.1 q.2
 | exit i => exact fin (some (.exit i)) .done rfl q.1 q.2
 | goto t => exact q.elim
 | panic c => exact q.elim
 | outgrown => exact q.elim
def pendQ (Q : Exit→Frm→Store→Prop) (fr : Frm) (σ : Store) : Option Code→Prop
 | none => Q .normal fr σ
 | some .ret => Q .ret fr σ
 | some (.exit i) => Q (.exit i) fr σ
 | _ => False
def CVf (P : Program) (E : Nat→IV) (fv : IV) (args : List IV) (σ : Store) (Q : IV→Store→Prop) : Prop :=
 match fv with
 | .func (.func f) first cap => okF P f=true∧C P E f (first ++ args ++ cap) σ Q
 | _ => False
theorem CVf.mono {fv : IV} {args : List IV} {Q Q' : IV→Store→Prop} (h : CVf P E fv args σ Q) (hq : ∀ v s,Q v s→Q' v s) : CVf P E fv args σ Q':=by
 unfold CVf at h ⊢
 split at h
 ·exact ⟨h.1,h.2.mono hq⟩
 ·exact h.elim
theorem R_rangeFunc {n0 : Nat} {g : Operand} {gx : IX} {ps : List Nat} {asg body : Code} {Q : Exit→Frm→Store→Prop} (hg : cmpX g=some gx)
  (h : CVf P E (gx.ev E fr) [.yield σ.next] ⟨σ.next+1,(σ.put σ.next (.loop N fr ps.toArray asg body .ready none)).obj⟩
   fun _ σ2 => σ.next≤σ2.next∧∃ st pend,st≠.busy∧σ2.obj σ.next=some (.loop N fr ps.toArray asg body st pend)∧pendQ Q fr (σ2.kill σ.next) pend) :
  R P E N n0 (.rangeFunc g ps.toArray asg body) fr σ Q:=by
 intro hn ro h0 ρ w a hs hf hd hr
 refine wpIn_rangeFunc fun fn hfn => ?_
 have hent : ∃ (mark : List Deferred) (wa : World) (df : Nat),(Instr.enterLoop fn a.tmps ps.toArray asg body ro).run P w=.ok (wa.heap.size,mark) (wa.alloc (.loop { state:=.ready,pending:=none,fn,tmps:=a.tmps,params:=ps.toArray,assign:=asg,body,defers:=df })) ∧
   Sim E ρ wa σ∧Ext n0 ρ w ρ wa∧DF h0 ρ wa (mark ++ a.defers)∧RO ro wa:=by
  cases ro with
  | none =>
   refine ⟨[{ target:=.collected w.heap.size,args:=#[] }],w.alloc (.deferred (some [])),w.heap.size,?_,sim_beside _ hs,ext_beside _ _,?_,fun l e => by cases e⟩
   ·have:=run_enterLoop_outer (P:=P) (w:=w) fn a.tmps ps.toArray asg body
    rw [this]
    simp
   ·have hd1:=hd.mono ((ext_beside (ρ:=ρ) (w:=w) n0 (.deferred (some []))).weak (Nat.le_refl _))
    refine .cons w.heap.size a.defers (World.alloc_heap_new _ _) ⟨by show w.heap.size < (w.heap.push _).size; simp,fun i d h => ?_⟩ hd.size (fun d hd' ht => ?_) hd1
    ·have:=hs.lt i _ d h; omega
    ·have : ∀ ds,DF h0 ρ w ds→∀ d∈ds,d.target=.collected w.heap.size→False:=by
      intro ds hds
      induction hds with
      | nil => intro d hd; cases hd
      | cons r ds hr hb _ _ _ ih =>
       intro d hd ht
       rcases List.mem_cons.1 hd with rfl | hd
       ·cases ht; exact absurd hb.1 (Nat.lt_irrefl _)
       ·exact ih d hd ht
     exact this _ hd d hd' ht
  | some l0 =>
   obtain ⟨L0,hL0⟩:=hr l0 rfl
   exact ⟨[],w,L0.defers,run_enterLoop_in hL0 fn a.tmps ps.toArray asg body,hs,Ext.refl _ _ _,hd,hr⟩
 obtain ⟨mark,wa,df,he,hsa,hxa,hda,hra⟩:=hent
 generalize hL : ({ state:=.ready,pending:=none,fn,tmps:=a.tmps,params:=ps.toArray,assign:=asg,body,defers:=df } : Loop)=L at he
 have hno : ρ σ.next=.no:=hsa.fresh _ (Nat.le_refl _)
 have hxn : ∀ m,m≤σ.next→Ext m ρ wa (ρ.put σ.next (.at wa.heap.size 0)) (wa.alloc (.loop L)):=fun m hm => ext_alloc hno hm
 have hs1 : Sim E (ρ.put σ.next (.at wa.heap.size 0)) (wa.alloc (.loop L)) ⟨σ.next+1,(σ.put σ.next (.loop N fr ps.toArray asg body .ready none)).obj⟩:=by
  have hs0 : Sim E ρ wa ⟨σ.next+1,σ.obj⟩:=⟨hsa.inj,hsa.lt,hsa.obj,hsa.dead,fun i hi => hsa.fresh i (Nat.le_of_succ_le hi),hsa.noObj,hsa.env,hsa.nx,hsa.xlt⟩
  refine sim_new hs0 hno (Nat.lt_succ_self _) ⟨rfl,L,World.alloc_heap_new _ _,?_⟩
  subst hL
  exact ⟨rfl,rfl,rfl,rfl,rfl,hf.size,fun t => ((hf.get t).mono hxa).mono (hxn 0 (Nat.zero_le _))⟩
 have hyv : VR (ρ.put σ.next (.at wa.heap.size 0)) (wa.alloc (.loop L)) (.yield σ.next) (.func (.yield wa.heap.size) #[] #[]):=.yield _ wa.heap.size 0 (by simp [Rho.put])
 have hx1 : Ext n0 ρ w (ρ.put σ.next (.at wa.heap.size 0)) (wa.alloc (.loop L)):=hxa.trans (hxn n0 hn) (Nat.le_refl _)
 have hgv:=(cmpX_sound (a:=a) hg hs hf).mono hx1
 generalize hfv : gx.ev E fr=fv at h hgv
 generalize hrv : a.eval g=rv at hgv
 cases hgv with
 | func fnv first cap rf rc hy l1 l2 v1 v2 =>
  cases fnv with
  | func f =>
   obtain ⟨hok,hc⟩:=h
   have hres : (resolve a.eval (rangeCall g wa.heap.size) 0).run P (wa.alloc (.loop L))=.ok { target:=.fn (.func f) rc,args:=rf ++ #[Value.func (.yield wa.heap.size) #[] #[]] } (wa.alloc (.loop L)):=by
    simp only [resolve,hrv,Deferred.ofValue,Sem.run_pure]
    simp [Act.eval]
   have hinv : (invoke (.fn (.func f) rc) (rf ++ #[Value.func (.yield wa.heap.size) #[] #[]])).run P (wa.alloc (.loop L))=.ok (.enter f (rf ++ #[Value.func (.yield wa.heap.size) #[] #[]] ++ rc)) (wa.alloc (.loop L)):=by
    simp only [invoke]
    exact call_run hok
   refine ⟨wa.heap.size,mark,_,_,_,f,_,_,he,hres,fun _ _ => trivial,hinv,(fun h => by cases h),?_⟩
   have hca : CR (ρ.put σ.next (.at wa.heap.size 0)) (wa.alloc (.loop L)) (first ++ [.yield σ.next] ++ cap) (rf ++ #[Value.func (.yield wa.heap.size) #[] #[]] ++ rc) :=
    (CR.append ⟨l1,v1⟩ ⟨rfl,fun i hi => by
     have : i=0:=by simpa using hi
     subst this; exact hyv⟩).append ⟨l2,v2⟩
   have hcall : CallsIn (fw ro) 0 P f (rf ++ #[Value.func (.yield wa.heap.size) #[] #[]] ++ rc) (wa.alloc (.loop L)) _:=hc _ _ _ hs1 hca
   refine CallsIn.mono (F:=fw ro) (n:=0) hcall ?_
   rintro e w3 ⟨v,r,ρ',σ2,rfl,⟨hnx,st,pend,hst,hob,hq⟩,hs',hv',hx⟩
   have hid' : ρ' σ.next=.at wa.heap.size 0:=by
    rcases hx.at_ σ.next wa.heap.size 0 (Nat.lt_succ_self _) (by simp [Rho.put]) with h | h
    ·exact h
    ·have:=hs'.dead _ h; rw [hob] at this; cases this
   obtain ⟨o',k1,k2⟩:=hs'.obj _ _ _ hid'
   rw [hob] at k1
   cases k1
   obtain ⟨hd2,L',f1,f2,f3,f4,f5,f6,f7,f8⟩:=k2
   have hbusy : L'.state≠.busy:=by rw [f6]; exact hst
   have hend:=run_endLoop (P:=P) f1 hbusy
   refine ⟨pend,_,(by rw [← f5]; exact hend),?_⟩
   have hxl : ∀ m,Ext m ρ' w3 ρ' (w3.putObj wa.heap.size (.loop { L' with state:=.exhausted })):=fun m => ext_loop hid' f1
   have hsl:=sim_loop (L':={ L' with state:=.exhausted }) (o:=.loop N fr ps.toArray asg body .exhausted pend) hs' hid' f1 ⟨rfl,_,World.putObj_heap_same (hs'.lt _ _ _ hid'),f2,f3,f4,f5,rfl,f7,fun t => (f8 t).mono (hxl 0)⟩
   have hsk:=sim_kill hsl hid'
   have hkk : ((σ2.put σ.next (.loop N fr ps.toArray asg body .exhausted pend)).kill σ.next)=σ2.kill σ.next:=by
    unfold Store.put Store.kill
    simp only
    congr 1
    funext i
    by_cases h : i=σ.next <;> simp [h]
   rw [hkk] at hsk
   have hxk : ∀ m,Ext m ρ' (w3.putObj wa.heap.size (.loop { L' with state:=.exhausted })) (ρ'.put σ.next .dead) (w3.putObj wa.heap.size (.loop { L' with state:=.exhausted })):=fun m => ext_kill hid'
   have hxE : ExtW n0 ρ w (ρ'.put σ.next .dead) (w3.putObj wa.heap.size (.loop { L' with state:=.exhausted })) :=
    ((hx1.weak (Nat.le_refl _)).trans (hx.le (Nat.le_trans hn (Nat.le_succ _)))).trans (((hxl n0).weak (Nat.le_refl _)).trans ((hxk n0).weak (Nat.le_refl _)))
   have hxF : Ext n0 (ρ.put σ.next (.at wa.heap.size 0)) (wa.alloc (.loop L)) ρ' w3:=(hx.ext hs1.fresh).le (Nat.le_trans hn (Nat.le_succ _))
   have hxA : Ext n0 ρ w (ρ'.put σ.next .dead) (w3.putObj wa.heap.size (.loop { L' with state:=.exhausted })):=(hx1.trans hxF (Nat.le_refl _)).trans ((hxl n0).trans (hxk n0) (Nat.le_refl _)) (Nat.le_refl _)
   have hxB : Ext n0 ρ wa (ρ'.put σ.next .dead) (w3.putObj wa.heap.size (.loop { L' with state:=.exhausted })):=((hxn n0 hn).trans hxF (Nat.le_refl _)).trans ((hxl n0).trans (hxk n0) (Nat.le_refl _)) (Nat.le_refl _)
   have hfE : FR (ρ'.put σ.next .dead) (w3.putObj wa.heap.size (.loop { L' with state:=.exhausted })) N fr a.tmps:=hf.mono hxA
   have hdE:=hda.mono (hxB.weak (Nat.le_refl _))
   have hrE:=hra.mono (hxB.weak (Nat.le_refl _))
   have hnE : n0≤(σ2.kill σ.next).next:=by show n0≤σ2.next; omega
   cases pend with
   | none => exact ⟨fr,_,_,hnE,hq,hsk,hfE,hdE,hrE,hxE⟩
   | some c =>
    cases c with
    | ret => exact wpIn_ret ⟨fr,_,_,hnE,hq,hsk,hfE,hdE,hrE,hxE⟩
    | exit i => exact wpIn_exit ⟨fr,_,_,hnE,hq,hsk,hfE,hdE,hrE,hxE⟩
    | _ => exact hq.elim
  | _ => exact h.elim
 | _ => exact h.elim
end Go.Id
/- Regions whose order is open: which operations may be taken ahead of which. Conditions: none; over any program. -/
namespace Go.Id
open Go
variable {P : Program} {w w' w'' : World} {ρ ρ' ρ'' : Rho} {E : Nat→IV} {σ σ' : Store} {N n n' : Nat} {fr : Frm} {a : Act} {pf : List Nat}
def IQ.kind : IQ→Nat
 | .load _ _ => 1
 | .len 0 _ => 0
 | .len 1 _ => 0
 | .len _ _ => 6
 | .lkp _ _ _ _ _ => 5
 | _ => 0
def SK.kind : SK→Nat
 | .nev => 0
 | _ => 6
def IK.kind : IK→Nat
 | .q u => u.kind
 | .alloc _ | .box _ | .bsl _ _ _ _ | .mksl _ _ _ => 2
 | .app _ _ _ => 3
 | .pcall _ _ | .bslt _ _ _ _ | .boxt _ => 0
 | .store _ _ _ => 4
 | .st k _ => k.kind
 | _ => 6
def IX.uses : IX→List Nat
 | .t n => [n]
 | _ => []
def IQ.ops : IQ→List IX
 | .mov x | .not x | .neg x | .isnil _ _ x | .conv _ x | .strId x | .len _ x | .faddr _ x | .fld _ _ x | .slz x | .ext _ x | .load _ x | .ldt _ x | .nchk x => [x]
 | .pick c a b => [c,a,b]
 | .bin _ x y | .eqs _ _ _ x y | .iaddr _ x y | .aaddr _ _ x y | .idx _ _ _ x y | .istr x y | .mm _ x y | .lkp _ _ _ x y | .ibs x y => [x,y]
 | .slc _ x lo hi | .sstr x lo hi => x :: (lo.toList ++ hi.toList)
 | .clp _ x lo hi mx => [x,lo,hi,mx]
 | .mkf _ f c => f ++ c
 | .bld _ ps => ps.map (·.2.2)
def IK.ops : IK→List IX
 | .q u => u.ops
 | .alloc _ => []
 | .box x => [x]
 | .bsl _ _ _ ps => ps.map (·.2.2)
 | .store _ x y => [x,y]
 | .app _ s x => [s,x]
 | .mkmap => []
 | .srange x | .snext x => [x]
 | .mupd _ x k v => [x,k,v]
 | .call _ xs | .pcall _ xs => xs
 | .callv x xs => x :: xs
 | .bslt _ _ _ ps => ps.map (·.2.2)
 | .boxt x | .mrange x | .mnext x | .ment x | .mksl _ _ x | .clr _ _ x => [x]
 | .st _ xs => xs
def IOper.uses (o : IOper) : List Nat:=(o.op.ops.flatMap IX.uses) ++ (match o.guard with | some (s,_) => [s] | none => [])
def FEq (fr fr' : Frm) : Prop:=∀ t,fr.get t=fr'.get t
theorem FEq.refl (fr : Frm) : FEq fr fr:=fun _ => rfl
theorem ev_eq {fr fr' : Frm} {x : IX} (h : ∀ t∈x.uses,fr.get t=fr'.get t) : x.ev E fr=x.ev E fr':=by
 cases x with
 | t n => exact h n (by simp [IX.uses])
 | _ => rfl
theorem map_ev_eq {fr fr' : Frm} {xs : List IX} (h : ∀ t∈xs.flatMap IX.uses,fr.get t=fr'.get t) : xs.map (·.ev E fr)=xs.map (·.ev E fr') :=
 List.map_congr_left fun x hx => ev_eq fun t ht => h t (List.mem_flatMap.2 ⟨x,hx,ht⟩)
theorem opt_ev_eq {fr fr' : Frm} {x : Option IX} (h : ∀ t∈x.toList.flatMap IX.uses,fr.get t=fr'.get t) : x.map (·.ev E fr)=x.map (·.ev E fr'):=by
 cases x with
 | none => rfl
 | some x => simp only [Option.map_some]; rw [ev_eq (fun t ht => h t (by simpa using ht))]
theorem parts_ev_eq {fr fr' : Frm} {ps : List (Nat × Nat × IX)} (h : ∀ t∈(ps.map (·.2.2)).flatMap IX.uses,fr.get t=fr'.get t) :
  (ps.map fun p => (p.1,p.2.1,p.2.2.ev E fr))=ps.map fun p => (p.1,p.2.1,p.2.2.ev E fr') :=
 List.map_congr_left fun p hp => by
  have : p.2.2.ev E fr=p.2.2.ev E fr':=ev_eq fun t ht => h t (List.mem_flatMap.2 ⟨p.2.2,List.mem_map.2 ⟨p,hp,rfl⟩,ht⟩)
  rw [this]
theorem evq_eq {fr fr' : Frm} {q : IQ} (h : ∀ t∈q.ops.flatMap IX.uses,fr.get t=fr'.get t) : evq E fr σ q=evq E fr' σ q:=by
 cases q with
 | mkf f fs cs =>
  simp only [IQ.ops,List.flatMap_append,List.mem_append] at h
  simp only [evq]
  rw [map_ev_eq (fun t ht => h t (.inl ht)),map_ev_eq (fun t ht => h t (.inr ht))]
 | bld z ps => simp only [evq]; rw [parts_ev_eq h]
 | slc e x lo hi =>
  simp only [IQ.ops,List.flatMap_cons,List.flatMap_append,List.mem_append] at h
  simp only [evq]
  rw [ev_eq (x:=x) (fun t ht => h t (.inl ht)),opt_ev_eq (x:=lo) (fun t ht => h t (.inr (.inl ht))),opt_ev_eq (x:=hi) (fun t ht => h t (.inr (.inr ht)))]
 | sstr x lo hi =>
  simp only [IQ.ops,List.flatMap_cons,List.flatMap_append,List.mem_append] at h
  simp only [evq]
  rw [ev_eq (x:=x) (fun t ht => h t (.inl ht)),opt_ev_eq (x:=lo) (fun t ht => h t (.inr (.inl ht))),opt_ev_eq (x:=hi) (fun t ht => h t (.inr (.inr ht)))]
 | clp e x lo hi mx =>
  simp only [evq]
  rw [ev_eq (x:=x) (fun t ht => h t (by simp [IQ.ops,ht])),ev_eq (x:=lo) (fun t ht => h t (by simp [IQ.ops,ht])),ev_eq (x:=hi) (fun t ht => h t (by simp [IQ.ops,ht])),ev_eq (x:=mx) (fun t ht => h t (by simp [IQ.ops,ht]))]
 | pick c x y =>
  simp only [evq]
  rw [ev_eq (x:=c) (fun t ht => h t (by simp [IQ.ops,ht])),ev_eq (x:=x) (fun t ht => h t (by simp [IQ.ops,ht])),ev_eq (x:=y) (fun t ht => h t (by simp [IQ.ops,ht]))]
 | bin op x y => simp only [evq]; rw [ev_eq (x:=x) (fun t ht => h t (by simp [IQ.ops,ht])),ev_eq (x:=y) (fun t ht => h t (by simp [IQ.ops,ht]))]
 | eqs a b c x y => simp only [evq]; rw [ev_eq (x:=x) (fun t ht => h t (by simp [IQ.ops,ht])),ev_eq (x:=y) (fun t ht => h t (by simp [IQ.ops,ht]))]
 | iaddr a x y => simp only [evq]; rw [ev_eq (x:=x) (fun t ht => h t (by simp [IQ.ops,ht])),ev_eq (x:=y) (fun t ht => h t (by simp [IQ.ops,ht]))]
 | aaddr a b x y => simp only [evq]; rw [ev_eq (x:=x) (fun t ht => h t (by simp [IQ.ops,ht])),ev_eq (x:=y) (fun t ht => h t (by simp [IQ.ops,ht]))]
 | idx a b c x y => simp only [evq]; rw [ev_eq (x:=x) (fun t ht => h t (by simp [IQ.ops,ht])),ev_eq (x:=y) (fun t ht => h t (by simp [IQ.ops,ht]))]
 | lkp a b c x y => simp only [evq]; rw [ev_eq (x:=x) (fun t ht => h t (by simp [IQ.ops,ht])),ev_eq (x:=y) (fun t ht => h t (by simp [IQ.ops,ht]))]
 | mm a x y => simp only [evq]; rw [ev_eq (x:=x) (fun t ht => h t (by simp [IQ.ops,ht])),ev_eq (x:=y) (fun t ht => h t (by simp [IQ.ops,ht]))]
 | ibs x y => simp only [evq]; rw [ev_eq (x:=x) (fun t ht => h t (by simp [IQ.ops,ht])),ev_eq (x:=y) (fun t ht => h t (by simp [IQ.ops,ht]))]
 | istr x y => simp only [evq]; rw [ev_eq (x:=x) (fun t ht => h t (by simp [IQ.ops,ht])),ev_eq (x:=y) (fun t ht => h t (by simp [IQ.ops,ht]))]
 | _ => simp only [evq]; rw [ev_eq (fun t ht => h t (by simp [IQ.ops,ht]))]
theorem evq_pure {q : IQ} (h : q.kind=0) : evq E fr σ q=evq E fr σ' q:=by
 cases q with
 | load a x => simp [IQ.kind] at h
 | lkp a b c x y => simp [IQ.kind] at h
 | len k x =>
  simp only [evq]
  match k,h with
  | 0,_ => unfold lenK; split <;> first | rfl | simp_all [lenI]
  | 1,_ => unfold lenK; split <;> first | rfl | simp_all [lenI]
  | k+2,h => simp [IQ.kind] at h
 | _ => rfl
def detR (P : Program) (E : Nat→IV) (op : IK) (id : Nat) (fr : Frm) (σ : Store) (v : IV) (σ' : Store) : Prop :=
 match op with
 | .q q => evq E fr σ q=some v∧σ'=σ
 | .alloc z => v=.ptr id 0∧σ'=σ.put id (.cells z)
 | .box x => (x.ev E fr).cs.all IV.leaf=true∧v=.ptr id 0∧σ'=σ.put id (.cells (x.ev E fr).cs)
 | .bsl esz n z parts => ∃ out,fillI (rep z n) (parts.map fun p => (p.1,p.2.1,p.2.2.ev E fr))=some out∧v=.slice id 0 n esz∧σ'=σ.put id (.row out)
 | .app esz s x => appI σ id esz (s.ev E fr) (x.ev E fr)=some (v,σ')
 | .store sz x y => storeI σ sz (x.ev E fr) (y.ev E fr)=some σ'∧v=.undef
 | .pcall f args => PC P E f (args.map (·.ev E fr)) v∧σ'=σ
 | .bslt esz n z parts => ∃ out,fillI (rep z n) (parts.map fun p => (p.1,p.2.1,p.2.2.ev E fr))=some out∧v=.tslice (chunk esz n out)∧σ'=σ
 | .boxt x => (x.ev E fr).cs.all IV.leaf=true∧v=.tptr (x.ev E fr).cs∧σ'=σ
 | .mksl esz z x => ∃ n,mkslI (x.ev E fr)=some n∧v=.slice id 0 n esz∧σ'=σ.put id (.row (rep z n))
 | _ => False
theorem opR_det {op : IK} {id : Nat} {K : IV→Store→Prop} (hk : op.kind≤5) : opR P E op id fr σ K ↔ ∃ v σ',detR P E op id fr σ v σ'∧K v σ':=by
 cases op with
 | q q => exact ⟨fun ⟨v,h,k⟩ => ⟨v,σ,⟨h,rfl⟩,k⟩,fun ⟨v,_,⟨h,e⟩,k⟩ => by subst e; exact ⟨v,h,k⟩⟩
 | alloc z => exact ⟨fun k => ⟨_,_,⟨rfl,rfl⟩,k⟩,fun ⟨_,_,⟨e1,e2⟩,k⟩ => by subst e1; subst e2; exact k⟩
 | box x => exact ⟨fun ⟨h,k⟩ => ⟨_,_,⟨h,rfl,rfl⟩,k⟩,fun ⟨_,_,⟨h,e1,e2⟩,k⟩ => by subst e1; subst e2; exact ⟨h,k⟩⟩
 | bsl e n z ps => exact ⟨fun ⟨out,h,k⟩ => ⟨_,_,⟨out,h,rfl,rfl⟩,k⟩,fun ⟨_,_,⟨out,h,e1,e2⟩,k⟩ => by subst e1; subst e2; exact ⟨out,h,k⟩⟩
 | app e s x => exact ⟨fun ⟨r,h,k⟩ => ⟨r.1,r.2,h,k⟩,fun ⟨v,σ',h,k⟩ => ⟨(v,σ'),h,k⟩⟩
 | store e x y => exact ⟨fun ⟨s,h,k⟩ => ⟨_,s,⟨h,rfl⟩,k⟩,fun ⟨v,s,⟨h,e⟩,k⟩ => by subst e; exact ⟨s,h,k⟩⟩
 | pcall f xs => exact ⟨fun ⟨v,h,k⟩ => ⟨v,σ,⟨h,rfl⟩,k⟩,fun ⟨v,_,⟨h,e⟩,k⟩ => by subst e; exact ⟨v,h,k⟩⟩
 | bslt e n z ps => exact ⟨fun ⟨out,h,k⟩ => ⟨_,_,⟨out,h,rfl,rfl⟩,k⟩,fun ⟨_,_,⟨out,h,e1,e2⟩,k⟩ => by subst e1; subst e2; exact ⟨out,h,k⟩⟩
 | mksl e z x => exact ⟨fun ⟨n,h,k⟩ => ⟨_,_,⟨n,h,rfl,rfl⟩,k⟩,fun ⟨_,_,⟨n,h,e1,e2⟩,k⟩ => by subst e1; subst e2; exact ⟨n,h,k⟩⟩
 | boxt x => exact ⟨fun ⟨h,k⟩ => ⟨_,_,⟨h,rfl,rfl⟩,k⟩,fun ⟨_,_,⟨h,e1,e2⟩,k⟩ => by subst e1; subst e2; exact ⟨h,k⟩⟩
 | st k xs => cases k with
  | nev => exact ⟨fun ⟨r,h,_⟩ => by (cases h),fun ⟨_,_,h,_⟩ => h.elim⟩
  | _ => exact absurd hk (by simp [IK.kind,SK.kind])
 | _ => exact absurd hk (by simp [IK.kind])
theorem detR_eq {op : IK} {id : Nat} {fr fr' : Frm} {v : IV} (h : ∀ t∈op.ops.flatMap IX.uses,fr.get t=fr'.get t) : detR P E op id fr σ v σ'→detR P E op id fr' σ v σ':=by
 cases op with
 | q q => simp only [detR]; rw [evq_eq h]; exact fun h => h
 | alloc z => exact fun h => h
 | box x => simp only [detR]; rw [ev_eq (x:=x) (fun t ht => h t (by simp [IK.ops,ht]))]; exact fun h => h
 | bsl e n z ps => simp only [detR]; rw [parts_ev_eq h]; exact fun h => h
 | app e s x => simp only [detR]; rw [ev_eq (x:=s) (fun t ht => h t (by simp [IK.ops,ht])),ev_eq (x:=x) (fun t ht => h t (by simp [IK.ops,ht]))]; exact fun h => h
 | store e x y => simp only [detR]; rw [ev_eq (x:=x) (fun t ht => h t (by simp [IK.ops,ht])),ev_eq (x:=y) (fun t ht => h t (by simp [IK.ops,ht]))]; exact fun h => h
 | pcall f xs => simp only [detR]; rw [map_ev_eq (xs:=xs) h]; exact fun h => h
 | bslt e n z ps => simp only [detR]; rw [parts_ev_eq h]; exact fun h => h
 | mksl e z x => simp only [detR]; rw [ev_eq (x:=x) (fun t ht => h t (by simp [IK.ops,ht]))]; exact fun h => h
 | boxt x => simp only [detR]; rw [ev_eq (x:=x) (fun t ht => h t (by simp [IK.ops,ht]))]; exact fun h => h
 | _ => exact fun h => h
/-! ### Blocks that the one lays and the other does not see -/
def noRef (id : Nat) : IV→Prop
 | .ptr i _ | .slice i _ _ _ | .map i | .cslice i _ _ _ | .rslice i _ _ _ _ => i≠id
 | _ => True
theorem noRef_of {id : Nat} {v : IV} {r : Value} (hv : VR ρ w v r) (h : ρ id=.no) : noRef id v:=by
 cases hv <;> simp only [noRef] <;> first | trivial | (intro e; subst e; simp_all)
theorem put_comm (i j : Nat) (x y : IObj) (h : i≠j) : (σ.put i x).put j y=(σ.put j y).put i x:=by
 unfold Store.put
 congr 1
 funext k
 simp only
 split
 ·rename_i h1
  split
  ·rename_i h2; exact absurd (h2.symm.trans h1) h
  ·rfl
 ·rfl
theorem put_obj_ne {id i : Nat} {o : IObj} (h : i≠id) : (σ.put id o).obj i=σ.obj i:=by simp [Store.put,h]
theorem lkp_put {tag id : Nat} {ob : IObj} {zero x k : IV} {ok : Bool} (h : noRef id x) : lkpI (σ.put id ob) tag zero ok x k=lkpI σ tag zero ok x k:=by
 have : mapAt (σ.put id ob) x=mapAt σ x:=by
  cases x <;> try rfl
  simp only [mapAt,put_obj_ne h]
 unfold lkpI
 rw [this]
theorem lkp_fresh {tag id : Nat} {zero x k v : IV} {ok : Bool} (hn : σ.obj id=none) (h : lkpI σ tag zero ok x k=some v) : noRef id x:=by
 cases x <;> simp only [noRef] <;> try trivial
 all_goals (intro e; subst e; simp [lkpI,mapAt,hn] at h)
theorem load_put {agg : Option Nat} {id : Nat} {ob : IObj} {ad : IV} (h : noRef id ad) : loadI (σ.put id ob) agg ad=loadI σ agg ad:=by
 have : cellsAt (σ.put id ob) ad=cellsAt σ ad:=by
  cases ad <;> simp only [cellsAt]
  rename_i i off
  rw [put_obj_ne h]
 unfold loadI
 rw [this]
theorem load_fresh {agg : Option Nat} {id : Nat} {ad v : IV} (hn : σ.obj id=none) (h : loadI σ agg ad=some v) : noRef id ad:=by
 cases ad with
 | ptr i off =>
  intro e
  subst e
  simp [loadI,cellsAt,hn] at h
 | slice i o l e => simp [loadI,cellsAt] at h
 | _ => trivial
theorem src_put {id2 esz : Nat} {ob : IObj} {x : IV} (hx : noRef id2 x) : srcI (σ.put id2 ob) esz x=srcI σ esz x:=by
 cases x <;> simp only [srcI]
 all_goals (rename_i i o l e; rw [put_obj_ne hx])
theorem kill_put {id2 did : Nat} {ob : IObj} (h : did≠id2) : (σ.put id2 ob).kill did=(σ.kill did).put id2 ob:=by
 unfold Store.put Store.kill
 congr 1
 funext k
 simp only
 split
 ·rename_i h1
  split
  ·rename_i h2; exact absurd (h1.symm.trans h2) h
  ·rfl
 ·rfl
theorem app_beside {id id2 esz : Nat} {ob : IObj} {s x : IV} (hs : noRef id2 s) (hx : noRef id2 x) (hne : id2≠id) :
  appI (σ.put id2 ob) id esz s x=(appI σ id esz s x).map fun r => (r.1,r.2.put id2 ob):=by
 unfold appI
 rw [src_put hx]
 cases srcI σ esz x with
 | none => rfl
 | some p =>
  obtain ⟨n,xs⟩:=p
  simp only
  split
  ·rfl
  ·cases s with
   | nilslice =>
    simp only
    split
    ·rfl
    ·split
     ·simp [put_comm id2 id _ _ hne]
     ·rfl
   | zslice =>
    simp only
    split
    ·rfl
    ·split
     ·simp [put_comm id2 id _ _ hne]
     ·rfl
   | tslice es => simp only; split <;> rfl
   | slice did off len e =>
    simp only
    have hd : did≠id2:=hs
    rw [put_obj_ne hd]
    cases σ.obj did with
    | none => rfl
    | some o =>
     cases o with
     | row cs =>
      simp only
      split
      ·rfl
      ·split
       ·simp [kill_put hd,put_comm id2 id _ _ hne]
       ·rfl
     | _ => rfl
   | cslice did off len e =>
    simp only
    have hd : did≠id2:=hs
    rw [put_obj_ne hd]
    cases σ.obj did with
    | none => rfl
    | some o =>
     cases o with
     | row cs =>
      simp only
      split
      ·rfl
      ·split
       ·simp [put_comm id2 id _ _ hne]
       ·rfl
     | _ => rfl
   | _ => rfl
theorem app_noRef {id id2 esz : Nat} {s x v : IV} (hn : σ.obj id2=none) (h : appI σ id esz s x=some (v,σ')) : noRef id2 s∧noRef id2 x:=by
 unfold appI at h
 split at h
 ·cases h
 ·rename_i n xs hsrc
  constructor
  ·split at h
   ·cases h
   ·split at h <;> first | trivial | skip
    ·rename_i did off len e
     intro e2
     subst e2
     rw [hn] at h
     simp at h
    ·rename_i did off len e
     intro e2
     subst e2
     rw [hn] at h
     simp at h
  ·cases x with
   | slice i o l e =>
    intro e2
    subst e2
    simp [srcI,hn] at hsrc
   | cslice i o l e =>
    intro e2
    subst e2
    simp [srcI,hn] at hsrc
   | ptr i o => simp [srcI] at hsrc
   | _ => trivial
theorem app_boxes {id esz : Nat} {s x v : IV} (hn : σ.obj id=none) (h : appI σ id esz s x=some (v,σ')) (i : Nat) (cs : List IV) : σ.obj i=some (.cells cs) ↔ σ'.obj i=some (.cells cs):=by
 have put : ∀ (σ : Store) (l : List IV),σ.obj id=none→(σ.obj i=some (.cells cs) ↔ (σ.put id (.row l)).obj i=some (.cells cs)):=by
  intro σ l hn
  by_cases hi : i=id
  ·subst hi; simp [Store.put,hn]
  ·rw [put_obj_ne hi]
 unfold appI at h
 split at h
 ·cases h
 ·split at h
  ·cases h
  ·split at h
   ·split at h
    ·cases h; exact Iff.rfl
    ·split at h
     ·cases h; exact put σ _ hn
     ·cases h
   ·split at h
    ·cases h; exact Iff.rfl
    ·split at h
     ·cases h; exact put σ _ hn
     ·cases h
   ·split at h
    ·cases h; exact Iff.rfl
    ·cases h
   ·rename_i did off len e
    split at h
    ·rename_i cs' hd
     split at h
     ·cases h; exact Iff.rfl
     ·split at h
      ·cases h
       have hk : (σ.kill did).obj id=none:=by simp [Store.kill,hn]
       refine Iff.trans ?_ (put (σ.kill did) _ hk)
       by_cases hi : i=did
       ·subst hi; simp [Store.kill,hd]
       ·simp [Store.kill,hi]
      ·cases h
    ·cases h
   ·rename_i did off len e
    split at h
    ·rename_i cs' hd
     split at h
     ·cases h; exact Iff.rfl
     ·split at h
      ·cases h; exact put σ _ hn
      ·cases h
    ·cases h
   ·cases h
end Go.Id
/- Regions whose order is open: the ideal order serves for every order. Conditions: none; over any program. -/
namespace Go.Id
open Go
variable {P : Program} {w w' w'' : World} {ρ ρ' ρ'' : Rho} {E : Nat→IV} {σ σ' : Store} {N n n' : Nat} {fr : Frm} {a : Act} {pf : List Nat}
def boxOK (E : Nat→IV) (fr : Frm) (σ : Store) : IK→Prop
 | .q (.load _ x) => match x.ev E fr with
  | .tptr _ => True
  | .ptr i _ => ∃ cs,σ.obj i=some (.cells cs)
  | _ => False
 | _ => True
def detA (P : Program) (E : Nat→IV) (B act : Bool) (op : IK) (id : Nat) (fr : Frm) (σ : Store) (v : IV) (σ' : Store) : Prop :=
 if act then detR P E op id fr σ v σ'∧(B=true→boxOK E fr σ op) else v=skV∧σ'=σ
def freeK0 (B : Bool) (i j : Nat) : Bool :=
 i == 0 && j≤5 || j == 0 && i≤5 || i == 1 && j == 1 || i == 1 && j == 2 || i == 2 && j == 2 || i == 3 && j == 2 || B && i == 1 && j == 3 || B && i == 3 && j == 1 || i == 2 && j == 1 || i == 2 && j == 3 || i == 1 && j == 5 || i == 5 && j == 1 || i == 5 && j == 5 || i == 5 && j == 2 || i == 2 && j == 5
def freeK (B : Bool) (i j : Nat) : Bool:=freeK0 B i j || i == 2 && j == 4 || i == 4 && j == 2
theorem kindQ_load {q : IQ} (h : q.kind=1) : ∃ ag x,q=.load ag x:=by
 cases q with
 | load ag x => exact ⟨ag,x,rfl⟩
 | len k x =>
  exfalso
  match k,h with
  | 0,h => simp [IQ.kind] at h
  | 1,h => simp [IQ.kind] at h
  | k+2,h => simp [IQ.kind] at h
 | _ => simp [IQ.kind] at h
theorem kind1 {op : IK} (h : op.kind=1) : ∃ ag x,op=.q (.load ag x):=by
 cases op with
 | q q => obtain ⟨ag,x,rfl⟩:=kindQ_load h; exact ⟨ag,x,rfl⟩
 | st k xs => cases k <;> simp [IK.kind,SK.kind] at h
 | _ => simp [IK.kind] at h
theorem kindQ_cases (q : IQ) : q.kind=0 ∨ q.kind=1 ∨ q.kind=5 ∨ q.kind=6:=by
 cases q with
 | load ag x => simp [IQ.kind]
 | len k x =>
  match k with
  | 0 => simp [IQ.kind]
  | 1 => simp [IQ.kind]
  | k+2 => simp [IQ.kind]
 | _ => simp [IQ.kind]
theorem kindR {op : IK} (h : op.kind=1 ∨ op.kind=5) : ∃ q,op=.q q:=by
 cases op with
 | q q => exact ⟨q,rfl⟩
 | st k xs => cases k <;> simp [IK.kind,SK.kind] at h
 | _ => simp [IK.kind] at h
theorem kind5 {op : IK} (h : op.kind=5) : ∃ t z ok x k,op=.q (.lkp t z ok x k):=by
 cases op with
 | q q =>
  cases q with
  | lkp t z ok x k => exact ⟨t,z,ok,x,k,rfl⟩
  | len k x =>
   exfalso
   match k,h with
   | 0,h => simp [IK.kind,IQ.kind] at h
   | 1,h => simp [IK.kind,IQ.kind] at h
   | k+2,h => simp [IK.kind,IQ.kind] at h
  | _ => simp [IK.kind,IQ.kind] at h
 | st k xs => cases k <;> simp [IK.kind,SK.kind] at h
 | _ => simp [IK.kind] at h
theorem kind3 {op : IK} (h : op.kind=3) : ∃ e s x,op=.app e s x:=by
 cases op with
 | q q => rcases kindQ_cases q with h' | h' | h' | h' <;> simp [IK.kind,h'] at h
 | app e s x => exact ⟨e,s,x,rfl⟩
 | st k xs => cases k <;> simp [IK.kind,SK.kind] at h
 | _ => simp [IK.kind] at h
theorem kind4 {op : IK} (h : op.kind=4) : ∃ e a y,op=.store e a y:=by
 cases op with
 | q q => rcases kindQ_cases q with h' | h' | h' | h' <;> simp [IK.kind,h'] at h
 | store e a y => exact ⟨e,a,y,rfl⟩
 | st k xs => cases k <;> simp [IK.kind,SK.kind] at h
 | _ => simp [IK.kind] at h
theorem store_put {id sz : Nat} {ob : IObj} {a v : IV} (h : noRef id a) : storeI (σ.put id ob) sz a v=(storeI σ sz a v).map (·.put id ob):=by
 cases a with
 | ptr i off =>
  have hi : i≠id:=h
  simp only [storeI,put_obj_ne hi]
  cases hc : σ.obj i with
  | none => rfl
  | some o =>
   cases o with
   | cells cs =>
    simp only
    split
    ·simp only [Option.map_some]; rw [put_comm id i _ _ (fun e => hi e.symm)]
    ·rfl
   | row cs =>
    simp only
    split
    ·simp only [Option.map_some]; rw [put_comm id i _ _ (fun e => hi e.symm)]
    ·rfl
   | _ => rfl
 | _ => rfl
theorem store_noRef {id sz : Nat} {a v : IV} (hn : σ.obj id=none) (h : storeI σ sz a v=some σ') : noRef id a:=by
 cases a with
 | ptr i off => intro e; subst e; simp [storeI,hn] at h
 | slice i o l e => simp [storeI] at h
 | map i => simp [storeI] at h
 | cslice i o l e => simp [storeI] at h
 | rslice i o l r e => simp [storeI] at h
 | _ => trivial
theorem det_pure {op : IK} {id : Nat} {v : IV} (hk : op.kind=0) (h : detR P E op id fr σ v σ') : σ'=σ∧∀ σ2,detR P E op id fr σ2 v σ2:=by
 cases op with
 | q q => exact ⟨h.2,fun σ2 => ⟨by rw [evq_pure (σ':=σ) hk]; exact h.1,rfl⟩⟩
 | pcall f xs => exact ⟨h.2,fun σ2 => ⟨h.1,rfl⟩⟩
 | bslt e n z ps => obtain ⟨out,h1,h2,h3⟩:=h; exact ⟨h3,fun _ => ⟨out,h1,h2,rfl⟩⟩
 | boxt x => obtain ⟨h1,h2,h3⟩:=h; exact ⟨h3,fun _ => ⟨h1,h2,rfl⟩⟩
 | st k xs => exact h.elim
 | _ => simp [IK.kind] at hk
theorem det_alloc {op : IK} {id : Nat} {v : IV} (hk : op.kind=2) (h : detR P E op id fr σ v σ') : ∃ ob,σ'=σ.put id ob∧∀ σ2,detR P E op id fr σ2 v (σ2.put id ob):=by
 cases op with
 | q q => rcases kindQ_cases q with h' | h' | h' | h' <;> simp [IK.kind,h'] at hk
 | alloc z => exact ⟨_,h.2,fun σ2 => ⟨h.1,rfl⟩⟩
 | box x => exact ⟨_,h.2.2,fun σ2 => ⟨h.1,h.2.1,rfl⟩⟩
 | bsl e n z ps => obtain ⟨out,h1,h2,h3⟩:=h; exact ⟨_,h3,fun σ2 => ⟨out,h1,h2,rfl⟩⟩
 | mksl e z x => obtain ⟨n,h1,h2,h3⟩:=h; exact ⟨_,h3,fun σ2 => ⟨n,h1,h2,rfl⟩⟩
 | st k xs => exact h.elim
 | _ => simp [IK.kind] at hk
theorem boxOK_eq {op : IK} {fr fr' : Frm} (h : ∀ t∈op.ops.flatMap IX.uses,fr.get t=fr'.get t) : boxOK E fr σ op→boxOK E fr' σ op:=by
 cases op with
 | q q =>
  cases q with
  | load ag x => simp only [boxOK]; rw [ev_eq (x:=x) (fun t ht => h t (by simp [IK.ops,IQ.ops,ht]))]; exact fun h => h
  | _ => exact fun h => h
 | _ => exact fun h => h
theorem boxOK_same {op : IK} {σ2 : Store} (h : ∀ i cs,σ.obj i=some (.cells cs)→∃ cs',σ2.obj i=some (.cells cs')) : boxOK E fr σ op→boxOK E fr σ2 op:=by
 cases op with
 | q q =>
  cases q with
  | load ag x =>
   simp only [boxOK]
   split
   ·exact fun h => h
   ·rintro ⟨cs,hc⟩; exact h _ cs hc
   ·exact fun h => h
  | _ => exact fun h => h
 | _ => exact fun h => h
theorem boxOK_kind {op : IK} {σ2 : Store} (hk : op.kind≠1) : boxOK E fr σ2 op:=by
 cases op with
 | q q =>
  cases q with
  | load ag x => exact absurd rfl hk
  | _ => trivial
 | _ => trivial
theorem det_swap {B : Bool} {p x : IK} {ip ix : Nat} {fr1 fr2 : Frm} {σ1 σ2 : Store} {vp vx : IV} (hp : detR P E p ip fr σ vp σ1) (hpb : B=true→boxOK E fr σ p) (hx : detR P E x ix fr1 σ1 vx σ2) (hxb : B=true→boxOK E fr1 σ1 x)
  (hfree : freeK B p.kind x.kind=true) (hfx : ∀ t∈x.ops.flatMap IX.uses,fr1.get t=fr.get t) (hfp : ∀ t∈p.ops.flatMap IX.uses,fr.get t=fr2.get t)
  (hne : ip≠ix) (hnp : σ.obj ip=none) (hnx : σ.obj ix=none) (hH : p.kind=2→∀ y∈x.ops,noRef ip (y.ev E fr)) :
  ∃ σ1',detR P E x ix fr σ vx σ1'∧(B=true→boxOK E fr σ x)∧detR P E p ip fr2 σ1' vp σ2∧(B=true→boxOK E fr2 σ1' p):=by
 have hx':=detR_eq hfx hx
 have hxb' : B=true→boxOK E fr σ1 x:=fun hb => boxOK_eq hfx (hxb hb)
 have hp' : ∀ {s s' v},detR P E p ip fr s v s'→detR P E p ip fr2 s v s':=fun h => detR_eq hfp h
 have hpb' : ∀ {s},boxOK E fr s p→boxOK E fr2 s p:=fun h => boxOK_eq hfp h
 by_cases kp0 : p.kind=0
 ·obtain ⟨rfl,hall⟩:=det_pure kp0 hp
  exact ⟨σ2,hx',hxb',hp' (hall σ2),fun _ => hpb' (boxOK_kind (by omega))⟩
 by_cases kx0 : x.kind=0
 ·obtain ⟨rfl,hall⟩:=det_pure kx0 hx'
  exact ⟨σ,hall σ,fun _ => boxOK_kind (by omega),hp' hp,fun hb => hpb' (hpb hb)⟩
 by_cases n1 : p.kind=2∧x.kind=4
 ·obtain ⟨k1,k2⟩:=n1
  obtain ⟨ob,rfl,hall⟩:=det_alloc k1 hp
  obtain ⟨e,a,y,rfl⟩:=kind4 k2
  have r1:=hH k1 a (by simp [IK.ops])
  simp only [detR] at hx'
  obtain ⟨hx1,rfl⟩:=hx'
  rw [store_put r1] at hx1
  obtain ⟨s,h1,rfl⟩:=map_some hx1
  exact ⟨s,⟨h1,rfl⟩,fun _ => trivial,hp' (hall s),fun _ => boxOK_kind (by omega)⟩
 by_cases n2 : p.kind=4∧x.kind=2
 ·obtain ⟨k1,k2⟩:=n2
  obtain ⟨e,a,y,rfl⟩:=kind4 k1
  obtain ⟨ob,rfl,hall⟩:=det_alloc k2 hx'
  obtain ⟨h1,rfl⟩:=hp
  refine ⟨σ.put ix ob,hall σ,fun _ => boxOK_kind (by omega),hp' ⟨?_,rfl⟩,fun _ => trivial⟩
  rw [store_put (store_noRef hnx h1),h1]
  rfl
 have hfree : freeK0 B p.kind x.kind=true:=by
  unfold freeK at hfree
  simp only [Bool.or_eq_true,Bool.and_eq_true,beq_iff_eq] at hfree
  rcases hfree with (h | h) | h
  ·exact h
  ·exact absurd h n1
  ·exact absurd h n2
 have hcases : (p.kind=1∧x.kind=1) ∨ (p.kind=1∧x.kind=2) ∨ (p.kind=2∧x.kind=2) ∨ (p.kind=3∧x.kind=2) ∨ (B=true∧p.kind=1∧x.kind=3) ∨ (B=true∧p.kind=3∧x.kind=1) ∨ (p.kind=2∧x.kind=1) ∨ (p.kind=2∧x.kind=3) ∨ ((p.kind=1 ∨ p.kind=5)∧(x.kind=1 ∨ x.kind=5)) ∨ (p.kind=5∧x.kind=2) ∨ (p.kind=2∧x.kind=5):=by
  unfold freeK0 at hfree
  simp only [Bool.or_eq_true,Bool.and_eq_true,beq_iff_eq,decide_eq_true_eq] at hfree
  rcases hfree with ((((((((((((((h | h) | h) | h) | h) | h) | h) | h) | h) | h) | h) | h) | h) | h) | h)
  ·exact absurd h.1 kp0
  ·exact absurd h.1 kx0
  ·exact .inl h
  ·exact .inr (.inl h)
  ·exact .inr (.inr (.inl h))
  ·exact .inr (.inr (.inr (.inl h)))
  ·exact .inr (.inr (.inr (.inr (.inl ⟨h.1.1,h.1.2,h.2⟩))))
  ·exact .inr (.inr (.inr (.inr (.inr (.inl ⟨h.1.1,h.1.2,h.2⟩)))))
  ·exact .inr (.inr (.inr (.inr (.inr (.inr (.inl h))))))
  ·exact .inr (.inr (.inr (.inr (.inr (.inr (.inr (.inl h)))))))
  ·exact .inr (.inr (.inr (.inr (.inr (.inr (.inr (.inr (.inl ⟨.inl h.1,.inr h.2⟩))))))))
  ·exact .inr (.inr (.inr (.inr (.inr (.inr (.inr (.inr (.inl ⟨.inr h.1,.inl h.2⟩))))))))
  ·exact .inr (.inr (.inr (.inr (.inr (.inr (.inr (.inr (.inl ⟨.inr h.1,.inr h.2⟩))))))))
  ·exact .inr (.inr (.inr (.inr (.inr (.inr (.inr (.inr (.inr (.inl h)))))))))
  ·exact .inr (.inr (.inr (.inr (.inr (.inr (.inr (.inr (.inr (.inr h)))))))))
 rcases hcases with ⟨k1,k2⟩ | ⟨k1,k2⟩ | ⟨k1,k2⟩ | ⟨k1,k2⟩ | ⟨hB,k1,k2⟩ | ⟨hB,k1,k2⟩ | ⟨k1,k2⟩ | ⟨k1,k2⟩ | ⟨k1,k2⟩ | ⟨k1,k2⟩ | ⟨k1,k2⟩
 ·obtain ⟨ag,y,rfl⟩:=kind1 k1
  obtain ⟨ag',y',rfl⟩:=kind1 k2
  obtain ⟨h1,rfl⟩:=hp
  obtain ⟨h2,rfl⟩:=hx'
  exact ⟨_,⟨h2,rfl⟩,hxb',hp' ⟨h1,rfl⟩,fun hb => hpb' (hpb hb)⟩
 ·obtain ⟨ag,y,rfl⟩:=kind1 k1
  obtain ⟨h1,rfl⟩:=hp
  obtain ⟨ob,rfl,hall⟩:=det_alloc k2 hx'
  refine ⟨σ1.put ix ob,hall σ1,fun _ => boxOK_kind (by omega),hp' ⟨?_,rfl⟩,fun hb => hpb' (boxOK_same (fun i cs hc => ⟨cs,by rw [put_obj_ne (fun e => by subst e; rw [hnx] at hc; cases hc)]; exact hc⟩) (hpb hb))⟩
  simp only [evq] at h1 ⊢
  rw [load_put (load_fresh hnx h1)]; exact h1
 ·obtain ⟨ob,rfl,hall⟩:=det_alloc k1 hp
  obtain ⟨ob',rfl,hall'⟩:=det_alloc k2 hx'
  refine ⟨σ.put ix ob',hall' σ,fun _ => boxOK_kind (by omega),?_,fun _ => boxOK_kind (by omega)⟩
  rw [put_comm ip ix _ _ hne]
  exact hp' (hall _)
 ·obtain ⟨e,s,y,rfl⟩:=kind3 k1
  obtain ⟨ob,rfl,hall⟩:=det_alloc k2 hx'
  refine ⟨σ.put ix ob,hall σ,fun _ => boxOK_kind (by omega),hp' ?_,fun _ => boxOK_kind (by omega)⟩
  obtain ⟨n1,n2⟩:=app_noRef (id2:=ix) hnx hp
  simp only [detR] at hp ⊢
  rw [app_beside n1 n2 (fun e => hne e.symm),hp]
  rfl
 ·obtain ⟨ag,y,rfl⟩:=kind1 k1
  obtain ⟨e,s,z,rfl⟩:=kind3 k2
  obtain ⟨h1,rfl⟩:=hp
  have hb:=hpb hB
  refine ⟨σ2,hx',fun _ => trivial,hp' ⟨?_,rfl⟩,fun _ => hpb' (boxOK_same (fun i cs hc => ⟨cs,(app_boxes hnx hx' i cs).1 hc⟩) hb)⟩
  simp only [evq] at h1 ⊢
  rw [← h1]
  simp only [boxOK] at hb
  split at hb
  ·rename_i he; rw [he]; rfl
  ·rename_i i off he
   obtain ⟨cs,hc⟩:=hb
   have hc':=(app_boxes hnx hx' i cs).1 hc
   rw [he]
   simp [loadI,cellsAt,hc,hc']
  ·exact hb.elim
 ·obtain ⟨e,s,z,rfl⟩:=kind3 k1
  obtain ⟨ag,y,rfl⟩:=kind1 k2
  obtain ⟨h2,rfl⟩:=hx'
  have hb:=hxb' hB
  refine ⟨σ,⟨?_,rfl⟩,fun _ => boxOK_same (fun i cs hc => ⟨cs,(app_boxes hnp hp i cs).2 hc⟩) hb,hp' hp,fun _ => trivial⟩
  simp only [evq] at h2 ⊢
  rw [← h2]
  simp only [boxOK] at hb
  split at hb
  ·rename_i he; rw [he]; rfl
  ·rename_i i off he
   obtain ⟨cs,hc⟩:=hb
   have hc':=(app_boxes hnp hp i cs).2 hc
   rw [he]
   simp [loadI,cellsAt,hc,hc']
  ·exact hb.elim
 ·obtain ⟨ob,rfl,hall⟩:=det_alloc k1 hp
  obtain ⟨ag,y,rfl⟩:=kind1 k2
  obtain ⟨h2,rfl⟩:=hx'
  have hr:=hH k1 y (by simp [IK.ops,IQ.ops])
  refine ⟨σ,⟨?_,rfl⟩,fun hb => ?_,hp' hp,fun _ => boxOK_kind (by omega)⟩
  ·simp only [evq] at h2 ⊢
   rw [load_put hr] at h2; exact h2
  ·have:=hxb' hb
   simp only [boxOK] at this ⊢
   split
   ·trivial
   ·rename_i i off he
    rw [he] at this hr
    obtain ⟨cs,hc⟩:=this
    exact ⟨cs,by rw [put_obj_ne hr] at hc; exact hc⟩
   ·rename_i h1 h2
    generalize y.ev E fr=q at *
    cases q <;> first | exact this | exact (h1 _ rfl).elim | exact (h2 _ _ rfl).elim
 ·obtain ⟨ob,rfl,hall⟩:=det_alloc k1 hp
  obtain ⟨e,s,z,rfl⟩:=kind3 k2
  have r1:=hH k1 s (by simp [IK.ops])
  have r2:=hH k1 z (by simp [IK.ops])
  simp only [detR] at hx'
  rw [app_beside r1 r2 hne] at hx'
  obtain ⟨⟨v',s'⟩,h1,h2⟩:=map_some hx'
  cases h2
  exact ⟨s',h1,fun _ => trivial,hp' (hall _),fun _ => boxOK_kind (by omega)⟩
 ·obtain ⟨q1,rfl⟩:=kindR k1
  obtain ⟨q2,rfl⟩:=kindR k2
  obtain ⟨h1,rfl⟩:=hp
  obtain ⟨h2,rfl⟩:=hx'
  exact ⟨_,⟨h2,rfl⟩,hxb',hp' ⟨h1,rfl⟩,fun hb => hpb' (hpb hb)⟩
 ·obtain ⟨t,z,ok,y,k,rfl⟩:=kind5 k1
  obtain ⟨h1,rfl⟩:=hp
  obtain ⟨ob,rfl,hall⟩:=det_alloc k2 hx'
  refine ⟨σ1.put ix ob,hall σ1,fun _ => boxOK_kind (by omega),hp' ⟨?_,rfl⟩,fun hb => trivial⟩
  simp only [evq] at h1 ⊢
  rw [lkp_put (lkp_fresh hnx h1)]; exact h1
 ·obtain ⟨ob,rfl,hall⟩:=det_alloc k1 hp
  obtain ⟨t,z,ok,y,k,rfl⟩:=kind5 k2
  obtain ⟨h2,rfl⟩:=hx'
  have hr:=hH k1 y (by simp [IK.ops,IQ.ops])
  refine ⟨σ,⟨?_,rfl⟩,fun hb => trivial,hp' hp,fun _ => boxOK_kind (by omega)⟩
  simp only [evq] at h2 ⊢
  rw [lkp_put hr] at h2; exact h2
end Go.Id
/- Regions whose order is open,whole. Conditions: none; over any program. -/
namespace Go.Id
open Go
variable {P : Program} {w w' w'' : World} {ρ ρ' ρ'' : Rho} {E : Nat→IV} {σ σ' : Store} {N n n' : Nat} {fr : Frm} {a : Act} {pf : List Nat}
abbrev Item:=Nat × IOper × Nat
def opXG (P : Program) (E : Nat→IV) (B : Bool) (o : IOper) (id : Nat) (fr : Frm) (σ : Store) (K : Frm→Store→Prop) : Prop :=
 ∃ act,actIs o fr=some act∧(if act then opR P E o.op id fr σ (fun v σ' => K (fr.setd o.dst v) σ')∧(B=true→boxOK E fr σ o.op) else K (fr.setd o.dst skV) σ)
def treeX (P : Program) (E : Nat→IV) (B : Bool) : List Item→Frm→Store→(Frm→Store→Prop)→Prop
 | [],fr,σ,K => K fr σ
 | (_,o,id) :: rest,fr,σ,K => opXG P E B o id fr σ fun fr' σ' => treeX P E B rest fr' σ' K
theorem setd_get (fr : Frm) (d : Option Nat) (v : IV) (t : Nat) : (fr.setd d v).get t=if d=some t then v else fr.get t:=by
 cases d with
 | none => simp [Frm.setd]
 | some d =>
  simp only [Frm.setd,Frm.get_set,Option.some.injEq]
  by_cases h : t=d
  ·subst h; simp
  ·have : ¬ d=t:=fun e => h e.symm
   simp [h,this]
theorem setd_feq {fr fr' : Frm} (h : FEq fr fr') (d : Option Nat) (v : IV) : FEq (fr.setd d v) (fr'.setd d v):=fun t => by rw [setd_get,setd_get,h t]
theorem opR_feq {op : IK} {id : Nat} {fr fr' : Frm} {K : IV→Store→Prop} (h : FEq fr fr') : opR P E op id fr σ K→opR P E op id fr' σ K:=by
 have hev : ∀ x : IX,x.ev E fr=x.ev E fr':=fun x => ev_eq fun t _ => h t
 have hmap : ∀ xs : List IX,xs.map (·.ev E fr)=xs.map (·.ev E fr'):=fun xs => map_ev_eq fun t _ => h t
 cases op with
 | q q => simp only [opR]; rw [evq_eq (fun t _ => h t)]; exact fun h => h
 | alloc z => exact fun h => h
 | box x => simp only [opR]; rw [hev x]; exact fun h => h
 | bsl e n z ps => simp only [opR]; rw [parts_ev_eq (fun t _ => h t)]; exact fun h => h
 | store e x y => simp only [opR]; rw [hev x,hev y]; exact fun h => h
 | app e x y => simp only [opR]; rw [hev x,hev y]; exact fun h => h
 | mkmap => exact fun h => h
 | srange x => simp only [opR]; rw [hev x]; exact fun h => h
 | snext x => simp only [opR]; rw [hev x]; exact fun h => h
 | mupd t x y z => simp only [opR]; rw [hev x,hev y,hev z]; exact fun h => h
 | call f xs => simp only [opR]; rw [hmap]; exact fun h => h
 | pcall f xs => simp only [opR]; rw [hmap]; exact fun h => h
 | callv x xs => simp only [opR]; rw [hmap,hev]; exact fun h => h
 | bslt e n z ps => simp only [opR]; rw [parts_ev_eq (fun t _ => h t)]; exact fun h => h
 | boxt x => simp only [opR]; rw [hev x]; exact fun h => h
 | mrange x => simp only [opR]; rw [hev x]; exact fun h => h
 | mnext x => simp only [opR]; rw [hev x]; exact fun h => h
 | ment x => simp only [opR]; rw [hev x]; exact fun h => h
 | mksl e z x => simp only [opR]; rw [hev x]; exact fun h => h
 | clr e z x => simp only [opR]; rw [hev x]; exact fun h => h
 | st k xs => simp only [opR]; rw [hmap]; exact fun h => h
theorem opR_mono {op : IK} {id : Nat} {K K' : IV→Store→Prop} (hK : ∀ v σ,K v σ→K' v σ) : opR P E op id fr σ K→opR P E op id fr σ K':=by
 cases op with
 | q q => exact fun ⟨v,h,k⟩ => ⟨v,h,hK _ _ k⟩
 | alloc z => exact fun k => hK _ _ k
 | box x => exact fun ⟨h,k⟩ => ⟨h,hK _ _ k⟩
 | bsl e n z ps => exact fun ⟨out,h,k⟩ => ⟨out,h,hK _ _ k⟩
 | store e x y => exact fun ⟨s,h,k⟩ => ⟨s,h,hK _ _ k⟩
 | app e x y => exact fun ⟨r,h,k⟩ => ⟨r,h,hK _ _ k⟩
 | mkmap => exact fun k => hK _ _ k
 | srange x => exact fun ⟨s,h,k⟩ => ⟨s,h,hK _ _ k⟩
 | snext x => exact fun ⟨s,h,k⟩ => ⟨s,h,hK _ _ k⟩
 | mupd t x y z => exact fun ⟨s,h,k⟩ => ⟨s,h,hK _ _ k⟩
 | call f xs => exact fun ⟨Q,h,k⟩ => ⟨Q,h,fun v s q => ⟨(k v s q).1,hK _ _ (k v s q).2⟩⟩
 | pcall f xs => exact fun ⟨v,h,k⟩ => ⟨v,h,hK _ _ k⟩
 | callv x xs => exact fun ⟨Q,h,k⟩ => ⟨Q,h,fun v s q => ⟨(k v s q).1,hK _ _ (k v s q).2⟩⟩
 | bslt e n z ps => exact fun ⟨out,h,k⟩ => ⟨out,h,hK _ _ k⟩
 | boxt x => exact fun ⟨h,k⟩ => ⟨h,hK _ _ k⟩
 | mrange x => exact fun ⟨s,h,k⟩ => ⟨s,h,hK _ _ k⟩
 | ment x => exact fun ⟨v,h,k⟩ => ⟨v,h,hK _ _ k⟩
 | mksl e z x => exact fun ⟨n,h,k⟩ => ⟨n,h,hK _ _ k⟩
 | clr e z x => exact fun ⟨s,h,hn,k⟩ => ⟨s,h,hn,hK _ _ k⟩
 | st e xs => exact fun ⟨r,h,k⟩ => ⟨r,h,hK _ _ k⟩
 | mnext x => exact fun ⟨i,l,h,k1,k2⟩ => ⟨i,l,h,fun e => hK _ _ (k1 e),fun j hj => hK _ _ (k2 j hj)⟩
theorem actIs_eq {o : IOper} {fr fr' : Frm} (h : ∀ t∈o.uses,fr.get t=fr'.get t) : actIs o fr=actIs o fr':=by
 unfold actIs
 cases hg : o.guard with
 | none => rfl
 | some p =>
  obtain ⟨s,want⟩:=p
  simp only
  rw [h s (by simp [IOper.uses,hg])]
theorem opXG_feq {B : Bool} {o : IOper} {id : Nat} {fr fr' : Frm} {K K' : Frm→Store→Prop} (h : FEq fr fr') (hK : ∀ f f' s,FEq f f'→K f s→K' f' s) : opXG P E B o id fr σ K→opXG P E B o id fr' σ K':=by
 rintro ⟨act,ha,hh⟩
 refine ⟨act,by rw [← actIs_eq (fun t _ => h t)]; exact ha,?_⟩
 cases act with
 | true =>
  obtain ⟨h1,h2⟩:=hh
  exact ⟨opR_mono (fun v s k => hK _ _ _ (setd_feq h _ _) k) (opR_feq h h1),fun hb => boxOK_eq (fun t _ => h t) (h2 hb)⟩
 | false => exact hK _ _ _ (setd_feq h _ _) hh
theorem treeX_feq {B : Bool} {K : Frm→Store→Prop} (hK : ∀ f f' s,FEq f f'→K f s→K f' s) : ∀ (its : List Item) (fr fr' : Frm) (σ : Store),FEq fr fr'→treeX P E B its fr σ K→treeX P E B its fr' σ K:=by
 intro its
 induction its with
 | nil => exact fun fr fr' σ h k => hK _ _ _ h k
 | cons it its ih =>
  obtain ⟨i,o,id⟩:=it
  exact fun fr fr' σ h k => opXG_feq h (fun f f' s hf kk => ih f f' s hf kk) k
def apartN (p x : IOper) : Prop :=
 (∀ d,x.dst=some d→d ∉ p.uses∧p.dst≠some d)∧(∀ d,p.dst=some d→d ∉ x.uses)
def freeP (B : Bool) (p x : IOper) : Prop:=freeK B p.op.kind x.op.kind=true∧apartN p x
theorem freeK_le {B : Bool} {i j : Nat} (h : freeK B i j=true) : i≤5∧j≤5:=by
 unfold freeK freeK0 at h
 simp only [Bool.or_eq_true,Bool.and_eq_true,beq_iff_eq,decide_eq_true_eq] at h
 omega
theorem det_fresh {op : IK} {id i : Nat} {v : IV} (hk : op.kind≤5) (hi : i≠id) (h : detR P E op id fr σ v σ') (hn : σ.obj i=none) : σ'.obj i=none:=by
 cases op with
 | q q => rw [h.2]; exact hn
 | alloc z => rw [h.2,put_obj_ne hi]; exact hn
 | box x => rw [h.2.2,put_obj_ne hi]; exact hn
 | bsl e n z ps => obtain ⟨out,_,_,h3⟩:=h; rw [h3,put_obj_ne hi]; exact hn
 | store e x y =>
  obtain ⟨h,_⟩:=h
  unfold storeI at h
  split at h
  ·rename_i j off hx
   split at h
   ·rename_i cs hc
    split at h
    ·cases h
     rw [put_obj_ne (fun e => by subst e; rw [hn] at hc; cases hc)]; exact hn
    ·cases h
   ·rename_i cs hc
    split at h
    ·cases h
     rw [put_obj_ne (fun e => by subst e; rw [hn] at hc; cases hc)]; exact hn
    ·cases h
   ·cases h
  ·cases h
 | pcall f xs => rw [h.2]; exact hn
 | app e s x =>
  simp only [detR] at h
  unfold appI at h
  split at h
  ·cases h
  ·split at h
   ·cases h
   ·split at h
    ·split at h
     ·cases h; exact hn
     ·split at h
      ·cases h; rw [put_obj_ne hi]; exact hn
      ·cases h
    ·split at h
     ·cases h; exact hn
     ·split at h
      ·cases h; rw [put_obj_ne hi]; exact hn
      ·cases h
    ·split at h
     ·cases h; exact hn
     ·cases h
    ·split at h
     ·split at h
      ·cases h; exact hn
      ·split at h
       ·cases h; rw [put_obj_ne hi]; simp only [Store.kill]; split <;> simp [hn]
       ·cases h
     ·cases h
    ·split at h
     ·split at h
      ·cases h; exact hn
      ·split at h
       ·cases h; rw [put_obj_ne hi]; exact hn
       ·cases h
     ·cases h
    ·cases h
 | bslt e n z ps => obtain ⟨_,_,_,rfl⟩:=h; exact hn
 | boxt x => obtain ⟨_,_,rfl⟩:=h; exact hn
 | mksl e z x => obtain ⟨_,_,_,rfl⟩:=h; rw [put_obj_ne hi]; exact hn
 | st k xs => exact h.elim
 | _ => exact absurd hk (by simp [IK.kind])
theorem uses_ops {o : IOper} {t : Nat} (h : t∈o.op.ops.flatMap IX.uses) : t∈o.uses:=by unfold IOper.uses; exact List.mem_append_left _ h
theorem pull {B : Bool} {K : Frm→Store→Prop} (hK : ∀ f f' s,FEq f f'→K f s→K f' s) {ix : Nat} {x : IOper} {kx : Nat} {post : List Item} :
  ∀ (pre : List Item) (fr : Frm) (σ : Store),(∀ p∈pre,freeP B p.2.1 x)→(∀ p∈pre,p.2.2≠kx∧σ.obj p.2.2=none)→(pre.map (·.2.2)).Nodup→(pre≠[]→σ.obj kx=none) →
   (∀ p∈pre,p.2.1.op.kind=2→∀ y∈x.op.ops,noRef p.2.2 (y.ev E fr)) →
   treeX P E B (pre ++ (ix,x,kx) :: post) fr σ K→opXG P E B x kx fr σ fun fr' σ' => treeX P E B (pre ++ post) fr' σ' K:=by
 intro pre
 induction pre with
 | nil => intro fr σ _ _ _ _ _ h; exact h
 | cons p pre ih =>
  intro fr σ hfree hids hnd hnx hH h
  obtain ⟨ip,p,kp⟩:=p
  obtain ⟨hk,hap⟩:=hfree _ (List.mem_cons_self ..)
  obtain ⟨hpx,hkp⟩:=hids _ (List.mem_cons_self ..)
  simp only at hk hap hpx hkp
  obtain ⟨kp3,kx3⟩:=freeK_le hk
  have hnx:=hnx (by simp)
  obtain ⟨ap,hact,hh⟩:=h
  -- what p gives
  have hp : ∃ vp σ1,detA P E B ap p.op kp fr σ vp σ1∧treeX P E B (pre ++ (ix,x,kx) :: post) (fr.setd p.dst vp) σ1 K:=by
   cases ap with
   | true =>
    obtain ⟨h1,h2⟩:=hh
    obtain ⟨vp,σ1,hd,k⟩:=(opR_det kp3).1 h1
    exact ⟨vp,σ1,⟨hd,h2⟩,k⟩
   | false => exact ⟨skV,σ,⟨rfl,rfl⟩,hh⟩
  obtain ⟨vp,σ1,hd,htree⟩:=hp
  have hfx : ∀ t∈x.uses,(fr.setd p.dst vp).get t=fr.get t:=fun t ht => by
   rw [setd_get,if_neg]; intro e; exact hap.2 t e ht
  have fresh1 : ∀ i,i≠kp→σ.obj i=none→σ1.obj i=none:=fun i hi h0 => by
   cases ap with
   | true => exact det_fresh kp3 hi hd.1 h0
   | false => obtain ⟨_,rfl⟩:=hd; exact h0
  have hnd':=List.nodup_cons.1 (show (kp :: pre.map (·.2.2)).Nodup from hnd)
  obtain ⟨ax,hactx,hhx⟩:=ih (fr.setd p.dst vp) σ1 (fun q hq => hfree q (List.mem_cons_of_mem _ hq))
   (fun q hq => ⟨(hids q (List.mem_cons_of_mem _ hq)).1,fresh1 _ (fun e => hnd'.1 (by rw [← e]; exact List.mem_map.2 ⟨q,hq,rfl⟩)) (hids q (List.mem_cons_of_mem _ hq)).2⟩)
   hnd'.2 (fun _ => fresh1 kx (fun e => hpx e.symm) hnx)
   (fun q hq hk2 y hy => by
    have : y.ev E (fr.setd p.dst vp)=y.ev E fr:=ev_eq fun t ht => hfx t (uses_ops (List.mem_flatMap.2 ⟨y,hy,ht⟩))
    rw [this]; exact hH q (List.mem_cons_of_mem _ hq) hk2 y hy) htree
  have hx : ∃ vx σ2,detA P E B ax x.op kx (fr.setd p.dst vp) σ1 vx σ2∧treeX P E B (pre ++ post) ((fr.setd p.dst vp).setd x.dst vx) σ2 K:=by
   cases ax with
   | true =>
    obtain ⟨h1,h2⟩:=hhx
    obtain ⟨vx,σ2,hd,k⟩:=(opR_det kx3).1 h1
    exact ⟨vx,σ2,⟨hd,h2⟩,k⟩
   | false => exact ⟨skV,σ1,⟨rfl,rfl⟩,hhx⟩
  obtain ⟨vx,σ2,hdx,htree2⟩:=hx
  have hactx' : actIs x fr=some ax:=by rw [← actIs_eq hfx]; exact hactx
  have hfp : ∀ t∈p.uses,fr.get t=(fr.setd x.dst vx).get t:=fun t ht => by
   rw [setd_get,if_neg]; intro e; exact (hap.1 t e).1 ht
  have hactp' : actIs p (fr.setd x.dst vx)=some ap:=by rw [← actIs_eq hfp]; exact hact
  have feq : FEq ((fr.setd p.dst vp).setd x.dst vx) ((fr.setd x.dst vx).setd p.dst vp):=fun t => by
   simp only [setd_get]
   by_cases h1 : x.dst=some t
   ·have h2 : p.dst≠some t:=(hap.1 t h1).2
    simp [h1,h2]
   ·simp [h1]
  have swap : ∃ σ1',detA P E B ax x.op kx fr σ vx σ1'∧detA P E B ap p.op kp (fr.setd x.dst vx) σ1' vp σ2:=by
   cases ap with
   | true =>
    cases ax with
    | true =>
     obtain ⟨σ1',s1,s2,s3,s4⟩:=det_swap hd.1 hd.2 hdx.1 hdx.2 hk (fun t ht => hfx t (uses_ops ht)) (fun t ht => hfp t (uses_ops ht)) hpx hkp hnx (hH _ (List.mem_cons_self ..))
     exact ⟨σ1',⟨s1,s2⟩,⟨s3,s4⟩⟩
    | false =>
     obtain ⟨rfl,rfl⟩:=hdx
     exact ⟨σ,⟨rfl,rfl⟩,detR_eq (fun t ht => hfp t (uses_ops ht)) hd.1,fun hb => boxOK_eq (fun t ht => hfp t (uses_ops ht)) (hd.2 hb)⟩
   | false =>
    obtain ⟨rfl,rfl⟩:=hd
    cases ax with
    | true => exact ⟨σ2,⟨detR_eq (fun t ht => hfx t (uses_ops ht)) hdx.1,fun hb => boxOK_eq (fun t ht => hfx t (uses_ops ht)) (hdx.2 hb)⟩,rfl,rfl⟩
    | false => obtain ⟨rfl,rfl⟩:=hdx; exact ⟨_,⟨rfl,rfl⟩,rfl,rfl⟩
  obtain ⟨σ1',d1,d2⟩:=swap
  have inner : opXG P E B p kp (fr.setd x.dst vx) σ1' fun fr' σ' => treeX P E B (pre ++ post) fr' σ' K:=by
   refine ⟨ap,hactp',?_⟩
   cases ap with
   | true => exact ⟨(opR_det kp3).2 ⟨vp,σ2,d2.1,treeX_feq hK _ _ _ _ feq htree2⟩,d2.2⟩
   | false => obtain ⟨rfl,rfl⟩:=d2; exact treeX_feq hK _ _ _ _ feq htree2
  refine ⟨ax,hactx',?_⟩
  cases ax with
  | true => exact ⟨(opR_det kx3).2 ⟨vx,σ1',d1.1,inner⟩,d1.2⟩
  | false => obtain ⟨rfl,rfl⟩:=d1; exact inner
end Go.Id
/- Regions whose order is open: the theorem. Conditions: none; over any program. -/
namespace Go.Id
open Go
variable {P : Program} {w w' w'' : World} {ρ ρ' ρ'' : Rho} {E : Nat→IV} {σ σ' : Store} {N n n' : Nat} {fr : Frm} {a : Act} {pf : List Nat}
def IX.quiet : IX→Bool
 | .c (.ptr _ _) => false
 | .c (.slice _ _ _ _) => false
 | .c (.map _) => false
 | .c (.cslice _ _ _ _) => false
 | .c (.rslice _ _ _ _ _) => false
 | _ => true
theorem IX.quiet_noRef {x : IX} {id : Nat} (hq : x.quiet=true) (hs : Sim E ρ w σ) (hf : FR ρ w N fr a.tmps) (h : ρ id=.no) : noRef id (x.ev E fr):=by
 cases x with
 | t n => exact noRef_of (hf.get n) h
 | c v => cases v <;> first | trivial | cases hq
 | g n => exact noRef_of (hs.env n) h
 | f n => trivial
structure Rem (P : Program) (pf : List Nat) (N : Nat) (ops : Array Oper) (B : Bool) (anc : Nat→Nat→Prop) (base : Nat) (rem : List Item) (listed : Array Bool) : Prop where
 size : listed.size=ops.size
 un : ∀ j,j < ops.size→(listed.getD j true=false ↔ ∃ it∈rem,it.1=j)
 its : ∀ it∈rem,∃ o,ops[it.1]? = some o∧cmpOper P pf N ops o=some it.2.1∧it.2.2=base+it.1∧∀ y∈it.2.1.op.ops,IX.quiet y=true
 pw : rem.Pairwise fun p x => (anc p.1 x.1 ∨ freeP B p.2.1 x.2.1)∧p.1≠x.1∧∀ o,ops[p.1]? = some o→∀ e∈o.after,Region.binds .any e=true→e.on≠x.1
 dc : ∀ j,listed.getD j false=true→∀ k,anc k j→listed.getD k false=true
theorem getD_lt {l : Array Bool} {j : Nat} (h : l.getD j true=false) : j < l.size:=by
 rcases Nat.lt_or_ge j l.size with h' | h'
 ·exact h'
 ·simp [Array.getElem?_eq_none h'] at h
theorem getD_ft {l : Array Bool} {j : Nat} (h : l.getD j false=true) : l.getD j true=true:=by
 rcases Nat.lt_or_ge j l.size with h' | h'
 ·simp [h'] at h ⊢; exact h
 ·simp [Array.getElem?_eq_none h'] at h
theorem any_sound {ops : Array Oper} {B : Bool} {anc : Nat→Nat→Prop} {n0 base : Nat} {ro : Option Nat} {Qw : Exit→Act→World→Prop} {K : Frm→Store→Prop} {ρ0 : Rho} {w0 : World} {ds : List Deferred}
  (hKf : ∀ f f' s,FEq f f'→K f s→K f' s)
  (hfin : ∀ fr σ ρ w a,n0≤σ.next→K fr σ→Sim E ρ w σ→FR ρ w N fr a.tmps→a.defers=ds→ExtW n0 ρ0 w0 ρ w→Qw .normal a w)
  (hed : ∀ j o,ops[j]? = some o→∀ e∈o.after,Region.binds .any e=true→e.on < ops.size∧e.on≠j)
  (hanc : ∀ k j,anc k j→∀ o,ops[j]? = some o→∃ e∈o.after,Region.binds .any e=true∧(e.on=k ∨ anc k e.on)) :
  ∀ (fuel : Nat) (rem : List Item) (listed : Array Bool) (fr : Frm) (σ : Store) (ρ : Rho) (w : World) (a : Act),rem.length=fuel→Rem P pf N ops B anc base rem listed→treeX P E B rem fr σ K →
   Sim E ρ w σ→FR ρ w N fr a.tmps→a.defers=ds→ExtW n0 ρ0 w0 ρ w→n0≤base→base+ops.size≤σ.next→(∀ it∈rem,ρ it.2.2=.no) →
   wpAnyIn (fw ro) 0 P .any ops Qw fuel listed a w:=by
 intro fuel
 induction fuel with
 | zero =>
  intro rem listed fr σ ρ w a hlen hr h hs hf hd hx hn0 hnx hno
  have : rem=[]:=List.length_eq_zero_iff.1 hlen
  subst this
  refine ⟨?_,hfin fr σ ρ w a (by omega) h hs hf hd hx⟩
  rw [List.eq_nil_iff_forall_not_mem]
  intro j hj
  obtain ⟨h0,_⟩:=mem_ready.1 hj
  obtain ⟨it,hit,_⟩:=(hr.un j (by rw [← hr.size]; exact getD_lt h0)).1 h0
  cases hit
 | succ fuel ih =>
  intro rem listed fr σ ρ w a hlen hr h hs hf hd hx hn0 hnx hno
  refine ⟨fun hemp => ?_,fun i hi => ?_⟩
  ·exfalso
   cases rem with
   | nil => cases hlen
   | cons it rem =>
    obtain ⟨o,ho,hc,hid,_⟩:=hr.its it (List.mem_cons_self ..)
    have hlt : it.1 < ops.size:=by
     rcases Nat.lt_or_ge it.1 ops.size with h' | h'
     ·exact h'
     ·simp [Array.getElem?_eq_none h'] at ho
    have : it.1∈Region.ready .any ops listed:=by
     refine mem_ready.2 ⟨(hr.un _ hlt).2 ⟨it,List.mem_cons_self ..,rfl⟩,o,ho,fun e he hb => ?_⟩
     obtain ⟨h1,h2⟩:=hed _ o ho e he hb
     have hj : e.on < listed.size:=by rw [hr.size]; exact h1
     by_cases hL : listed.getD e.on true=false
     ·obtain ⟨jt,hjt,hje⟩:=(hr.un _ h1).1 hL
      rcases List.mem_cons.1 hjt with rfl | hjt
      ·exact absurd hje.symm h2
      ·exact absurd hje.symm (((List.pairwise_cons.1 hr.pw).1 jt hjt).2.2 o ho e he hb)
     ·simp [hj] at hL ⊢; exact hL
    rw [hemp] at this
    cases this
  ·obtain ⟨h0,o,ho,hall⟩:=mem_ready.1 hi
   have hlt : i < ops.size:=by rw [← hr.size]; exact getD_lt h0
   obtain ⟨it,hit,hie⟩:=(hr.un i hlt).1 h0
   obtain ⟨pre,post,rfl⟩:=List.append_of_mem hit
   obtain ⟨ix,x,kx⟩:=it
   simp only at hie
   subst hie
   obtain ⟨o',ho',hc,hkx,hqx⟩:=hr.its _ hit
   simp only at ho' hc hkx hqx
   rw [ho] at ho'
   cases ho'
   obtain ⟨hpp,hxp,hcross⟩:=List.pairwise_append.1 hr.pw
   have hcx:=fun p hp => hcross p hp _ (List.mem_cons_self ..)
   have hnotL : ∀ p∈pre,listed.getD p.1 false≠true:=fun p hp hL => by
    obtain ⟨op,hop,_⟩:=hr.its p (List.mem_append_left _ hp)
    have hpl : p.1 < ops.size:=by
     rcases Nat.lt_or_ge p.1 ops.size with h' | h'
     ·exact h'
     ·simp [Array.getElem?_eq_none h'] at hop
    have:=(hr.un p.1 hpl).2 ⟨p,List.mem_append_left _ hp,rfl⟩
    rw [getD_ft hL] at this
    cases this
   have hfree : ∀ p∈pre,freeP B p.2.1 x:=fun p hp => by
    rcases (hcx p hp).1 with ha | hf
    ·exfalso
     obtain ⟨e,he,hb,heq⟩:=hanc _ _ ha o ho
     have hle:=hall e he hb
     rcases heq with heq | ha'
     ·exact hnotL p hp (by rw [← heq]; exact hle)
     ·exact hnotL p hp (hr.dc _ hle _ ha')
    ·exact hf
   have hidp : ∀ p∈pre,p.2.2=base+p.1:=fun p hp => by
    obtain ⟨_,_,_,h1,_⟩:=hr.its p (List.mem_append_left _ hp)
    exact h1
   have hpull:=pull (P:=P) (E:=E) (B:=B) (K:=K) hKf (ix:=ix) (x:=x) (kx:=kx) (post:=post) pre fr σ hfree
    (fun p hp => ⟨by rw [hidp p hp,hkx]; have:=(hcx p hp).2.1; omega,hs.noObj _ (hno p (List.mem_append_left _ hp))⟩)
    (by
     rw [List.nodup_iff_pairwise_ne,List.pairwise_map]
     refine (List.Pairwise.and_mem.1 hpp).imp ?_
     intro p q ⟨hp,hq,h1⟩
     rw [hidp p hp,hidp q hq]
     have:=h1.2.1
     omega)
    (fun _ => hs.noObj _ (hno _ hit))
    (fun p hp _ y hy => IX.quiet_noRef (hqx y hy) hs hf (hno p (List.mem_append_left _ hp))) h
   obtain ⟨⟨fz,hk⟩,hdst,hdN,hg⟩:=cmpOper_dst hc
   have hidx : kx < σ.next∧n0≤kx:=by rw [hkx]; omega
   have hmem : ∀ it∈pre ++ post,it∈pre ++ (ix,x,kx) :: post:=fun it h => by
    rcases List.mem_append.1 h with h | h
    ·exact List.mem_append_left _ h
    ·exact List.mem_append_right _ (List.mem_cons_of_mem _ h)
   have hne : ∀ it∈pre ++ post,it.1≠ix:=fun it h => by
    rcases List.mem_append.1 h with h | h
    ·exact (hcx it h).2.1
    ·exact fun e => ((List.pairwise_cons.1 hxp).1 it h).2.1 e.symm
   have hrem : Rem P pf N ops B anc base (pre ++ post) (listed.setIfInBounds ix true):=by
    refine ⟨by simp [hr.size],fun j hj => ?_,fun it hit => hr.its it (hmem it hit),?_,?_⟩
    ·by_cases hji : j=ix
     ·subst hji
      have : j < listed.size:=by rw [hr.size]; exact hj
      constructor
      ·intro h; simp [this] at h
      ·rintro ⟨it,h1,h2⟩; exact absurd h2 (hne it h1)
     ·rw [getD_set_ne true (Ne.symm hji),hr.un j hj]
      constructor
      ·rintro ⟨it,h1,h2⟩
       refine ⟨it,?_,h2⟩
       rcases List.mem_append.1 h1 with h1 | h1
       ·exact List.mem_append_left _ h1
       ·rcases List.mem_cons.1 h1 with rfl | h1
        ·exact absurd h2.symm hji
        ·exact List.mem_append_right _ h1
      ·rintro ⟨it,h1,h2⟩; exact ⟨it,hmem it h1,h2⟩
    ·exact hr.pw.sublist (List.Sublist.append (List.Sublist.refl _) (List.sublist_cons_self _ _))
    ·intro j hj k hk
     by_cases hji : j=ix
     ·subst hji
      obtain ⟨e,he,hb,heq⟩:=hanc _ _ hk o ho
      have hle:=hall e he hb
      rcases heq with rfl | ha'
      ·exact getD_set_true hle
      ·exact getD_set_true (hr.dc _ hle _ ha')
     ·rw [getD_set_ne false (Ne.symm hji)] at hj
      exact getD_set_true (hr.dc _ hj _ hk)
   have hlen' : (pre ++ post).length=fuel:=by simp at hlen ⊢; omega
   have hne2 : ∀ it∈pre ++ post,it.2.2≠kx:=fun it h => by
    obtain ⟨_,_,_,h1,_⟩:=hr.its it (hmem it h)
    rw [h1,hkx]
    have:=hne it h
    omega
   unfold wpOpIn
   simp only [ho]
   obtain ⟨act,hact,hh⟩:=hpull
   have run : opR P E x.op kx fr σ (fun v σ' => treeX P E B (pre ++ post) (fr.setd x.dst v) σ' K)→o.wpIn (fw ro) 0 P a w (wpAnyIn (fw ro) 0 P .any ops Qw fuel (listed.setIfInBounds ix true)) Qw:=by
    intro hop
    refine op_sound hk hop hs hf (by omega) (fun hl => ⟨hno _ hit,hidx.1,hidx.2⟩) ?_
    intro v σ' r ρ' w' hnx' hK hs' hv' hx' hno'
    refine ih (pre ++ post) _ _ σ' ρ' w' (a.put o.dst r) hlen' hrem hK hs' ?_ (by rw [put_defers]; exact hd) (hx.trans (hx'.weak (Nat.le_refl _))) hn0 (by omega) ?_
    ·rw [hdst]; exact FR.setd (hf.mono hx') hdN hv'
    ·intro jt hjt
     obtain ⟨jo,hjo,_,h1,_⟩:=hr.its jt (hmem jt hjt)
     have hjl : jt.1 < ops.size:=by
      rcases Nat.lt_or_ge jt.1 ops.size with h' | h'
      ·exact h'
      ·simp [Array.getElem?_eq_none h'] at hjo
     exact hno' _ (by rw [h1]; omega) (fun _ => hne2 jt hjt) (hno _ (hmem jt hjt))
   rcases hg with ⟨hg1,hg2⟩ | ⟨j,want,s,hg1,hgs,hg2⟩
   ·have hw : Region.wanted o (yielded ops a.tmps)=true:=by unfold Region.wanted; rw [hg1]
    rw [if_pos hw]
    simp only [actIs,hg2,Option.some.injEq] at hact
    subst hact
    exact run hh.1
   ·simp only [actIs,hg2] at hact
    have hw:=guard_act hg1 hgs hf hact
    rw [hw]
    cases act with
    | true => exact run hh.1
    | false =>
     refine ⟨fun f _ => trivial,?_⟩
     exact ih (pre ++ post) _ _ σ ρ w (a.put o.dst undef) hlen' hrem hh hs (by rw [hdst]; exact FR.setd hf hdN skV_vr) (by rw [put_defers]; exact hd) hx hn0 hnx (fun jt hjt => hno _ (hmem jt hjt))
end Go.Id
/- Regions whose order is open: the check,and the rule. Conditions: none; over any program. -/
namespace Go.Id
open Go
variable {P : Program} {w w' w'' : World} {ρ ρ' ρ'' : Rho} {E : Nat→IV} {σ σ' : Store} {N n n' : Nat} {fr : Frm} {a : Act} {pf : List Nat}
def numb (base : Nat) : Nat→List IOper→List Item
 | _,[] => []
 | i,o :: os => (i,o,base+i) :: numb base (i+1) os
def edgesOf (o : Oper) : List Nat:=(o.after.toList.filter (Region.binds .any)).map (·.on)
def orF (ms : List Nat) (es : List Nat) : Nat:=es.foldl (fun s e => s ||| (2 ^ e ||| ms.getD e 0)) 0
def masks (ess : List (List Nat)) : List Nat:=ess.foldl (fun acc es => acc ++ [orF acc es]) []
def apartB (p x : IOper) : Bool :=
 (match x.dst with | none => true | some d => !p.uses.contains d && p.dst != some d) && (match p.dst with | none => true | some d => !x.uses.contains d)
def pairs1 (B : Bool) (ms : List Nat) (i : Nat) (p : IOper) : Nat→List IOper→Bool
 | _,[] => true
 | j,x :: xs => ((ms.getD j 0).testBit i || (freeK B p.op.kind x.op.kind && apartB p x)) && pairs1 B ms i p (j+1) xs
def pairsOK (B : Bool) (ms : List Nat) : Nat→List IOper→Bool
 | _,[] => true
 | i,o :: os => pairs1 B ms i o (i+1) os && pairsOK B ms (i+1) os
def edOK : Nat→List (List Nat)→Bool
 | _,[] => true
 | j,es :: r => es.all (fun e => decide (e < j)) && edOK (j+1) r
def msOK (ms : List Nat) : Nat→List (List Nat)→Bool
 | _,[] => true
 | j,es :: r => ms.getD j 0 == orF ms es && msOK ms (j+1) r
def drOK (ess : List (List Nat)) (ios : List IOper) (B : Bool) : Bool :=
 let ms:=masks ess
 edOK 0 ess && msOK ms 0 ess && pairsOK B ms 0 ios && ios.all fun o => o.op.ops.all IX.quiet
def hasApp (ios : List IOper) : Bool:=ios.any fun o => o.op.kind == 3
theorem orF_bit {ms : List Nat} {k : Nat} : ∀ (es : List Nat) (s : Nat),(es.foldl (fun s e => s ||| (2 ^ e ||| ms.getD e 0)) s).testBit k=true→s.testBit k=true ∨ ∃ e∈es,e=k ∨ (ms.getD e 0).testBit k=true:=by
 intro es
 induction es with
 | nil => exact fun s h => .inl h
 | cons e es ih =>
  intro s h
  rcases ih _ h with h1 | ⟨e',he,h1⟩
  ·rw [Nat.testBit_or,Nat.testBit_or,Nat.testBit_two_pow] at h1
   simp only [Bool.or_eq_true,decide_eq_true_eq] at h1
   rcases h1 with h1 | h1 | h1
   ·exact .inl h1
   ·exact .inr ⟨e,List.mem_cons_self ..,.inl h1⟩
   ·exact .inr ⟨e,List.mem_cons_self ..,.inr h1⟩
  ·exact .inr ⟨e',List.mem_cons_of_mem _ he,h1⟩
theorem apartB_spec {p x : IOper} (h : apartB p x=true) : apartN p x:=by
 unfold apartB at h
 simp only [Bool.and_eq_true] at h
 obtain ⟨h1,h2⟩:=h
 refine ⟨fun d hd => ?_,fun d hd => ?_⟩
 ·rw [hd] at h1
  simpa using h1
 ·rw [hd] at h2
  simpa using h2
theorem numb_ge {base : Nat} : ∀ (ios : List IOper) (i : Nat),∀ it∈numb base i ios,i≤it.1:=by
 intro ios
 induction ios with
 | nil => intro i it h; cases h
 | cons o os ih =>
  intro i it h
  rcases List.mem_cons.1 h with rfl | h
  ·exact Nat.le_refl _
  ·have:=ih _ it h; omega
theorem numb_len {base : Nat} : ∀ (ios : List IOper) (i : Nat),(numb base i ios).length=ios.length:=by
 intro ios
 induction ios with
 | nil => intro i; rfl
 | cons o os ih => intro i; simp [numb,ih]
theorem numb_has {base : Nat} : ∀ (ios : List IOper) (i j : Nat),i≤j→j < i+ios.length→∃ it∈numb base i ios,it.1=j:=by
 intro ios
 induction ios with
 | nil => intro i j h1 h2; simp at h2; omega
 | cons o os ih =>
  intro i j h1 h2
  by_cases h : i=j
  ·exact ⟨_,List.mem_cons_self ..,h⟩
  ·obtain ⟨it,h3,h4⟩:=ih (i+1) j (by omega) (by simp at h2; omega)
   exact ⟨it,List.mem_cons_of_mem _ h3,h4⟩
theorem numb_id {base : Nat} : ∀ (ios : List IOper) (i : Nat),∀ it∈numb base i ios,it.2.2=base+it.1∧it.2.1∈ios:=by
 intro ios
 induction ios with
 | nil => intro i it h; cases h
 | cons o os ih =>
  intro i it h
  rcases List.mem_cons.1 h with rfl | h
  ·exact ⟨rfl,List.mem_cons_self ..⟩
  ·obtain ⟨h1,h2⟩:=ih _ it h
   exact ⟨h1,List.mem_cons_of_mem _ h2⟩
theorem numb_ops {base : Nat} {ops : Array Oper} : ∀ (os : List Oper) (ios : List IOper) (i : Nat),ops.toList.drop i=os→cmpOps P pf N ops os=some ios→∀ it∈numb base i ios,∃ o,ops[it.1]? = some o∧cmpOper P pf N ops o=some it.2.1:=by
 intro os
 induction os with
 | nil => intro ios i _ hc it hit; cases hc; cases hit
 | cons o os ih =>
  intro ios i hdrop hc it hit
  simp only [cmpOps] at hc
  split at hc
  ·rename_i io ios' hio hios
   cases hc
   have hi : ops[i]? = some o:=by
    have:=congrArg (fun l => l[0]?) hdrop
    simpa [List.getElem?_drop] using this
   have hdrop' : ops.toList.drop (i+1)=os:=by
    have:=congrArg (List.drop 1) hdrop
    simpa [List.drop_drop] using this
   rcases List.mem_cons.1 hit with rfl | hit
   ·exact ⟨o,hi,hio⟩
   ·exact ih ios' (i+1) hdrop' hios it hit
  ·cases hc
theorem cmpOps_len {ops : Array Oper} : ∀ (os : List Oper) (ios : List IOper),cmpOps P pf N ops os=some ios→ios.length=os.length:=by
 intro os
 induction os with
 | nil => intro ios h; cases h; rfl
 | cons o os ih =>
  intro ios h
  simp only [cmpOps] at h
  split at h
  ·rename_i io ios' hio hios
   cases h
   simp [ih _ hios]
  ·cases h
theorem pairs1_spec {B : Bool} {ms : List Nat} {i base : Nat} {p : IOper} : ∀ (xs : List IOper) (j : Nat),pairs1 B ms i p j xs=true→∀ it∈numb base j xs,(ms.getD it.1 0).testBit i=true ∨ freeP B p it.2.1:=by
 intro xs
 induction xs with
 | nil => intro j _ it h; cases h
 | cons x xs ih =>
  intro j h it hit
  simp only [pairs1,Bool.and_eq_true,Bool.or_eq_true] at h
  rcases List.mem_cons.1 hit with rfl | hit
  ·rcases h.1 with h1 | h1
   ·exact .inl h1
   ·exact .inr ⟨h1.1,apartB_spec h1.2⟩
  ·exact ih _ h.2 it hit
theorem pairs_spec {B : Bool} {ms : List Nat} {base : Nat} : ∀ (xs : List IOper) (i : Nat),pairsOK B ms i xs=true→(numb base i xs).Pairwise fun p x => ((ms.getD x.1 0).testBit p.1=true ∨ freeP B p.2.1 x.2.1)∧p.1 < x.1:=by
 intro xs
 induction xs with
 | nil => intro i _; exact .nil
 | cons x xs ih =>
  intro i h
  simp only [pairsOK,Bool.and_eq_true] at h
  refine List.pairwise_cons.2 ⟨fun it hit => ⟨pairs1_spec xs _ h.1 it hit,?_⟩,ih _ h.2⟩
  have:=numb_ge xs _ it hit
  simp only
  omega
theorem edOK_spec : ∀ (ess : List (List Nat)) (i : Nat),edOK i ess=true→∀ j es,ess[j]? = some es→∀ e∈es,e < i+j:=by
 intro ess
 induction ess with
 | nil => intro i _ j es h; simp at h
 | cons x ess ih =>
  intro i h j es hj e he
  simp only [edOK,Bool.and_eq_true,List.all_eq_true,decide_eq_true_eq] at h
  cases j with
  | zero => simp at hj; subst hj; exact h.1 e he
  | succ j => have:=ih (i+1) h.2 j es (by simpa using hj) e he; omega
theorem msOK_spec {ms : List Nat} : ∀ (ess : List (List Nat)) (i : Nat),msOK ms i ess=true→∀ j es,ess[j]? = some es→ms.getD (i+j) 0=orF ms es:=by
 intro ess
 induction ess with
 | nil => intro i _ j es h; simp at h
 | cons x ess ih =>
  intro i h j es hj
  simp only [msOK,Bool.and_eq_true,beq_iff_eq] at h
  cases j with
  | zero => simp at hj; subst hj; exact h.1
  | succ j =>
   have:=ih (i+1) h.2 j es (by simpa using hj)
   rw [← this]; congr 1; omega
theorem R_dregion {n0 id : Nat} {ops : Array Oper} {ios : List IOper} {B : Bool} {Q : Exit→Frm→Store→Prop} {ks : List Nat} (hm : P.follows .mixedOrders=true) (hc : cmpOps P pf N ops ops.toList=some ios)
  (hok : drOK (ops.toList.map edgesOf) ios B=true)
  (h : treeX P E B (numb σ.next 0 ios) fr { σ with next:=σ.next+ios.length } (fun fr' σ' => Q .normal (fr'.keep ks) σ')) : R P E N n0 (.region id ops true) fr σ Q:=by
 intro hn ro h0 ρ w a hs hf hd hr
 refine wpIn_region_any hm ?_
 have hlen : ios.length=ops.size:=by rw [cmpOps_len _ _ hc]; simp
 unfold drOK at hok
 simp only [Bool.and_eq_true,List.all_eq_true] at hok
 obtain ⟨⟨⟨hed,hms⟩,hpr⟩,hq⟩:=hok
 generalize masks (ops.toList.map edgesOf)=ms at hms hpr
 have hes : ∀ (j : Nat) (o : Oper),ops[j]? = some o→(ops.toList.map edgesOf)[j]? = some (edgesOf o):=fun j o ho => by simp [ho]
 have hme : ∀ (o : Oper) (k : Nat),k∈edgesOf o→∃ e∈o.after,Region.binds .any e=true∧e.on=k:=fun o k hk => by
  unfold edgesOf at hk
  obtain ⟨e,he,rfl⟩:=List.mem_map.1 hk
  obtain ⟨h1,h2⟩:=List.mem_filter.1 he
  exact ⟨e,by simpa using h1,h2,rfl⟩
 have hem : ∀ (o : Oper) (e : Edge),e∈o.after→Region.binds .any e=true→e.on∈edgesOf o:=fun o e he hb =>
  List.mem_map.2 ⟨e,List.mem_filter.2 ⟨by simpa using he,hb⟩,rfl⟩
 refine any_sound (E:=E) (pf:=pf) (N:=N) (B:=B) (anc:=fun k j => (ms.getD j 0).testBit k=true) (n0:=n0) (base:=σ.next) (ρ0:=ρ) (w0:=w) (ds:=a.defers) (K:=fun fr' σ' => Q .normal (fr'.keep ks) σ') ?_ ?_ ?_ ?_
  ops.size (numb σ.next 0 ios) _ fr { σ with next:=σ.next+ios.length } ρ w.drew a (by rw [numb_len,hlen]) ?_ h
  (sim_next (sim_drew hs) (fun i hi => hs.fresh i (by omega))) (hf.mono (ext_drew 0)) rfl ((ext_drew n0).weak (Nat.le_refl _)) hn (by rw [hlen]; exact Nat.le_refl _) ?_
 ·intro f f' s hff hK
  have : f'.keep ks=f.keep ks:=by
   unfold Frm.keep
   exact List.map_congr_left fun k _ => by rw [hff k]
  rw [this]; exact hK
 ·intro fr' σ' ρ' w' a' hn' hK hs' hf' hd' hx
  exact ⟨fr'.keep ks,σ',ρ',hn',hK,hs',hf'.keep ks,by rw [hd']; exact hd.mono hx,hr.mono hx,hx⟩
 ·intro j o ho e he hb
  have:=edOK_spec _ _ hed j _ (hes j o ho) _ (hem o e he hb)
  have hj : j < ops.size:=by
   rcases Nat.lt_or_ge j ops.size with h' | h'
   ·exact h'
   ·simp [Array.getElem?_eq_none h'] at ho
  omega
 ·intro k j hk o ho
  have:=msOK_spec _ _ hms j _ (hes j o ho)
  simp only [Nat.zero_add] at this
  rw [this] at hk
  rcases orF_bit _ _ hk with h1 | ⟨e,he,h1⟩
  ·simp at h1
  ·obtain ⟨ed,hed1,hb,heq⟩:=hme o e he
   exact ⟨ed,hed1,hb,by rw [heq]; exact h1⟩
 ·refine ⟨by simp,fun j hj => ?_,fun it hit => ?_,?_,?_⟩
  ·constructor
   ·intro _
    exact numb_has ios 0 j (Nat.zero_le _) (by omega)
   ·intro _; simp [hj]
  ·obtain ⟨o,h1,h2⟩:=numb_ops ops.toList ios 0 rfl hc it hit
   obtain ⟨h3,h4⟩:=numb_id ios 0 it hit
   exact ⟨o,h1,h2,h3,hq _ h4⟩
  ·refine (pairs_spec ios 0 hpr).imp ?_
   intro p x ⟨h1,h2⟩
   refine ⟨h1,by omega,fun o ho e he hb => ?_⟩
   have:=edOK_spec _ _ hed p.1 _ (hes p.1 o ho) _ (hem o e he hb)
   omega
  ·intro j hj
   exfalso
   by_cases hlt : j < ops.size
   ·simp [hlt] at hj
   ·simp [hlt] at hj
 ·intro it hit
  exact hs.fresh _ (by rw [(numb_id ios 0 it hit).1]; omega)
end Go.Id
