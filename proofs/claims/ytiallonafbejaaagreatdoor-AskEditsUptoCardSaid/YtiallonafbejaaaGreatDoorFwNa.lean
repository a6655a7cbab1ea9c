/- Open regions whose readers are taken ahead; what was read is read again behind what may write. Conditions: none; over any program. -/
import Derived.Test.YtiallonafbejaaaGreatDoorFwE
set_option linter.all false
namespace Go.Id
open Go
variable {P : Program} {w w' w'' : World} {ρ ρ' ρ'' : Rho} {E : Nat→IV} {σ σ' : Store} {N n n' : Nat} {fr : Frm} {a : Act} {pf : List Nat}
def IK.cls : IK→Nat
 | .q u => match u.kind with
  | 0 => 0
  | _ => 1
 | .pcall _ _ | .bslt _ _ _ _ | .boxt _ => 0
 | _ => 2
theorem cls0_kind {op : IK} (h : op.cls=0) : op.kind=0:=by
 cases op with
 | q u =>
  simp only [IK.cls] at h
  split at h
  ·rename_i hk; exact hk
  ·cases h
 | pcall f xs => rfl
 | bslt _ _ _ _ => rfl
 | boxt _ => rfl
 | _ => cases h
theorem cls_le {op : IK} (h : op.cls≤1) : (∃ q,op=.q q) ∨ op.cls=0:=by
 cases op with
 | q u => exact .inl ⟨u,rfl⟩
 | pcall f xs => exact .inr rfl
 | bslt _ _ _ _ => exact .inr rfl
 | boxt _ => exact .inr rfl
 | _ => simp [IK.cls] at h
theorem cls_det {op : IK} {id : Nat} {K : IV→Store→Prop} (h : op.cls≤1) : opR P E op id fr σ K ↔ ∃ v,detR P E op id fr σ v σ∧K v σ:=by
 cases op with
 | q q => exact ⟨fun ⟨v,h,k⟩ => ⟨v,⟨h,rfl⟩,k⟩,fun ⟨v,⟨h,_⟩,k⟩ => ⟨v,h,k⟩⟩
 | pcall f xs => exact ⟨fun ⟨v,h,k⟩ => ⟨v,⟨h,rfl⟩,k⟩,fun ⟨v,⟨h,_⟩,k⟩ => ⟨v,h,k⟩⟩
 | bslt e n z ps => exact ⟨fun ⟨out,h,k⟩ => ⟨_,⟨out,h,rfl,rfl⟩,k⟩,fun ⟨_,⟨out,h,e1,_⟩,k⟩ => by subst e1; exact ⟨out,h,k⟩⟩
 | boxt x => exact ⟨fun ⟨h,k⟩ => ⟨_,⟨h,rfl,rfl⟩,k⟩,fun ⟨_,⟨h,e1,_⟩,k⟩ => by subst e1; exact ⟨h,k⟩⟩
 | _ => simp [IK.cls] at h
theorem det_cls {op : IK} {id : Nat} {v : IV} (hk : op.cls≤1) (h : detR P E op id fr σ v σ') : σ'=σ:=by
 cases op with
 | q q => exact h.2
 | pcall f xs => exact h.2
 | bslt e n z ps => obtain ⟨_,_,_,h⟩:=h; exact h
 | boxt x => exact h.2.2
 | _ => simp [IK.cls] at hk
def shutQ (E : Nat→IV) (fr : Frm) : IQ→IQ
 | .load a x => .load a (.c (x.ev E fr))
 | .lkp t z ok x k => .lkp t z ok (.c (x.ev E fr)) (.c (k.ev E fr))
 | .len k x => .len k (.c (x.ev E fr))
 | q => q
theorem shutQ_ev {q : IQ} (f : Frm) (h : q.kind≠0) : evq E f σ (shutQ E fr q)=evq E fr σ q:=by
 cases q with
 | load a x => rfl
 | lkp t z ok x k => rfl
 | len k x => rfl
 | _ => exact absurd rfl h
theorem shutQ_eq {fr fr' : Frm} {q : IQ} (h : ∀ t∈q.ops.flatMap IX.uses,fr.get t=fr'.get t) : shutQ E fr q=shutQ E fr' q:=by
 cases q with
 | load a x => simp only [shutQ]; rw [ev_eq (x:=x) (fun t ht => h t (by simp [IQ.ops,ht]))]
 | lkp t z ok x k => simp only [shutQ]; rw [ev_eq (x:=x) (fun t ht => h t (by simp [IQ.ops,ht])),ev_eq (x:=k) (fun t ht => h t (by simp [IQ.ops,ht]))]
 | len k x => simp only [shutQ]; rw [ev_eq (x:=x) (fun t ht => h t (by simp [IQ.ops,ht]))]
 | _ => rfl
abbrev LE:=Nat × IQ × IV
def addL (E : Nat→IV) (fr : Frm) (i : Nat) (op : IK) (v : IV) (L : List LE) : List LE :=
 match op with
 | .q q => if q.kind=0 then L else (i,shutQ E fr q,v) :: L
 | _ => L
theorem addL_eq {fr fr' : Frm} {i : Nat} {op : IK} {v : IV} {L : List LE} (h : ∀ t∈op.ops.flatMap IX.uses,fr.get t=fr'.get t) : addL E fr i op v L=addL E fr' i op v L:=by
 cases op with
 | q q => simp only [addL]; rw [shutQ_eq (q:=q) (fun t ht => h t ht)]
 | _ => rfl
theorem addL_sup {i : Nat} {op : IK} {v : IV} {L : List LE} : ∀ e∈L,e∈addL E fr i op v L:=by
 intro e he
 unfold addL
 split
 ·split
  ·exact he
  ·exact List.mem_cons_of_mem _ he
 ·exact he
theorem addL_mono {i : Nat} {op : IK} {v : IV} {L L' : List LE} (h : ∀ e∈L',e∈L) : ∀ e∈addL E fr i op v L',e∈addL E fr i op v L:=by
 intro e he
 cases op with
 | q q =>
  simp only [addL] at he ⊢
  by_cases hk : q.kind=0
  ·rw [if_pos hk] at he ⊢; exact h e he
  ·rw [if_neg hk] at he ⊢
   rcases List.mem_cons.1 he with rfl | he
   ·exact List.mem_cons_self ..
   ·exact List.mem_cons_of_mem _ (h e he)
 | _ => exact h e he
theorem addL_cls2 {i : Nat} {op : IK} {v : IV} {L : List LE} (h : ¬ op.cls≤1) : addL E fr i op v L=L:=by
 cases op with
 | q q => exfalso; apply h; simp only [IK.cls]; split <;> omega
 | _ => rfl
theorem addL_mem {i j : Nat} {op op' : IK} {v v' : IV} {L : List LE} {fr' : Frm} (e : LE) : e∈addL E fr i op v (addL E fr' j op' v' L) ↔ e∈addL E fr' j op' v' (addL E fr i op v L):=by
 have key : ∀ (fr : Frm) (i : Nat) (op : IK) (v : IV),(∃ x : LE,∀ L,addL E fr i op v L=x :: L) ∨ ∀ L,addL E fr i op v L=L:=by
  intro fr i op v
  cases op with
  | q q =>
   by_cases hk : q.kind=0
   ·exact .inr fun L => by simp only [addL,hk,if_true]
   ·exact .inl ⟨(i,shutQ E fr q,v),fun L => by simp only [addL,hk,if_false]⟩
  | _ => exact .inr fun _ => rfl
 rcases key fr i op v with ⟨x,hx⟩ | hx <;> rcases key fr' j op' v' with ⟨y,hy⟩ | hy <;> simp only [hx,hy]
 simp only [List.mem_cons]
 constructor
 ·rintro (h | h | h)
  ·exact .inr (.inl h)
  ·exact .inl h
  ·exact .inr (.inr h)
 ·rintro (h | h | h)
  ·exact .inr (.inl h)
  ·exact .inl h
  ·exact .inr (.inr h)
def chkL (E : Nat→IV) (L : List LE) (m : Nat) (σ : Store) : Prop:=∀ e∈L,m.testBit e.1=true→evq E [] σ e.2.1=some e.2.2
theorem chkL_zero {L : List LE} : chkL E L 0 σ:=fun e _ h => by simp at h
theorem chkL_sub {L L' : List LE} {m : Nat} (h : ∀ e∈L',e∈L) (hc : chkL E L m σ) : chkL E L' m σ:=fun e he => hc e (h e he)
abbrev ItemY:=Nat × IOper × Nat × Nat
def opYG (P : Program) (E : Nat→IV) (o : IOper) (id m : Nat) (L : List LE) (fr : Frm) (σ : Store) (K : IV→Store→Prop) (Ks : Prop) : Prop :=
 (actIs o fr=some true∧opR P E o.op id fr σ (fun v σ' => chkL E L m σ'∧K v σ')) ∨ (actIs o fr=some false∧Ks)
def treeY (P : Program) (E : Nat→IV) : List ItemY→List LE→Frm→Store→(Frm→Store→Prop)→Prop
 | [],_,fr,σ,K => K fr σ
 | (i,o,id,m) :: rest,L,fr,σ,K => opYG P E o id m L fr σ (fun v σ' => treeY P E rest (addL E fr i o.op v L) (fr.setd o.dst v) σ' K) (treeY P E rest L (fr.setd o.dst skV) σ K)
theorem treeY_sub {K : Frm→Store→Prop} : ∀ (its : List ItemY) (L L' : List LE) (fr : Frm) (σ : Store),(∀ e∈L',e∈L)→treeY P E its L fr σ K→treeY P E its L' fr σ K:=by
 intro its
 induction its with
 | nil => exact fun _ _ _ _ _ h => h
 | cons it its ih =>
  obtain ⟨i,o,id,m⟩:=it
  rintro L L' fr σ hs (⟨ha,h⟩ | ⟨ha,h⟩)
  ·exact .inl ⟨ha,opR_mono (fun v s ⟨c,k⟩ => ⟨chkL_sub hs c,ih _ _ _ _ (addL_mono hs) k⟩) h⟩
  ·exact .inr ⟨ha,ih _ _ _ _ hs h⟩
theorem treeY_feq {K : Frm→Store→Prop} (hK : ∀ f f' s,FEq f f'→K f s→K f' s) : ∀ (its : List ItemY) (L : List LE) (fr fr' : Frm) (σ : Store),FEq fr fr'→treeY P E its L fr σ K→treeY P E its L fr' σ K:=by
 intro its
 induction its with
 | nil => exact fun _ fr fr' σ h k => hK _ _ _ h k
 | cons it its ih =>
  obtain ⟨i,o,id,m⟩:=it
  rintro L fr fr' σ hf (⟨ha,h⟩ | ⟨ha,h⟩)
  ·refine .inl ⟨by rw [← actIs_eq (fun t _ => hf t)]; exact ha,opR_mono (fun v s ⟨c,k⟩ => ⟨c,?_⟩) (opR_feq hf h)⟩
   show treeY P E its (addL E fr' i o.op v L) _ s K
   rw [← addL_eq (fr:=fr) (fun t _ => hf t)]; exact ih _ _ _ _ (setd_feq hf _ _) k
  ·exact .inr ⟨by rw [← actIs_eq (fun t _ => hf t)]; exact ha,ih _ _ _ _ (setd_feq hf _ _) h⟩
theorem treeY_mono {K K' : Frm→Store→Prop} : ∀ (its : List ItemY) (L : List LE) (fr : Frm) (σ : Store),(∀ f s,K f s→K' f s)→treeY P E its L fr σ K→treeY P E its L fr σ K':=by
 intro its
 induction its with
 | nil => exact fun _ _ _ hk h => hk _ _ h
 | cons it its ih =>
  obtain ⟨i,o,id,m⟩:=it
  rintro L fr σ hk (⟨ha,h⟩ | ⟨ha,h⟩)
  ·exact .inl ⟨ha,opR_mono (fun v s ⟨c,k⟩ => ⟨c,ih _ _ _ hk k⟩) h⟩
  ·exact .inr ⟨ha,ih _ _ _ hk h⟩
theorem opR_use {op : IK} {id : Nat} {fr fr' : Frm} {K : IV→Store→Prop} (h : ∀ t∈op.ops.flatMap IX.uses,fr.get t=fr'.get t) : opR P E op id fr σ K→opR P E op id fr' σ K:=by
 cases op with
 | q q => simp only [opR]; rw [evq_eq (fun t ht => h t ht)]; exact fun h => h
 | alloc z => exact fun h => h
 | box x => simp only [opR]; rw [ev_eq (x:=x) (fun t ht => h t (by simp [IK.ops,ht]))]; exact fun h => h
 | bsl e n z ps => simp only [opR]; rw [parts_ev_eq (fun t ht => h t ht)]; exact fun h => h
 | store e x y => simp only [opR]; rw [ev_eq (x:=x) (fun t ht => h t (by simp [IK.ops,ht])),ev_eq (x:=y) (fun t ht => h t (by simp [IK.ops,ht]))]; exact fun h => h
 | app e x y => simp only [opR]; rw [ev_eq (x:=x) (fun t ht => h t (by simp [IK.ops,ht])),ev_eq (x:=y) (fun t ht => h t (by simp [IK.ops,ht]))]; exact fun h => h
 | mkmap => exact fun h => h
 | srange x => simp only [opR]; rw [ev_eq (x:=x) (fun t ht => h t (by simp [IK.ops,ht]))]; exact fun h => h
 | snext x => simp only [opR]; rw [ev_eq (x:=x) (fun t ht => h t (by simp [IK.ops,ht]))]; exact fun h => h
 | mupd t x y z => simp only [opR]; rw [ev_eq (x:=x) (fun t ht => h t (by simp [IK.ops,ht])),ev_eq (x:=y) (fun t ht => h t (by simp [IK.ops,ht])),ev_eq (x:=z) (fun t ht => h t (by simp [IK.ops,ht]))]; exact fun h => h
 | call f xs => simp only [opR]; rw [map_ev_eq (xs:=xs) h]; exact fun h => h
 | pcall f xs => simp only [opR]; rw [map_ev_eq (xs:=xs) h]; exact fun h => h
 | callv x xs =>
  simp only [IK.ops,List.flatMap_cons,List.mem_append] at h
  simp only [opR]; rw [map_ev_eq (xs:=xs) (fun t ht => h t (.inr ht)),ev_eq (x:=x) (fun t ht => h t (.inl ht))]; exact fun h => h
 | bslt e n z ps => simp only [opR]; rw [parts_ev_eq (fun t ht => h t ht)]; exact fun h => h
 | boxt x => simp only [opR]; rw [ev_eq (x:=x) (fun t ht => h t (by simp [IK.ops,ht]))]; exact fun h => h
 | mrange x => simp only [opR]; rw [ev_eq (x:=x) (fun t ht => h t (by simp [IK.ops,ht]))]; exact fun h => h
 | mnext x => simp only [opR]; rw [ev_eq (x:=x) (fun t ht => h t (by simp [IK.ops,ht]))]; exact fun h => h
 | ment x => simp only [opR]; rw [ev_eq (x:=x) (fun t ht => h t (by simp [IK.ops,ht]))]; exact fun h => h
 | mksl e z x => simp only [opR]; rw [ev_eq (x:=x) (fun t ht => h t (by simp [IK.ops,ht]))]; exact fun h => h
 | clr e z x => simp only [opR]; rw [ev_eq (x:=x) (fun t ht => h t (by simp [IK.ops,ht]))]; exact fun h => h
 | st k xs => simp only [opR]; rw [map_ev_eq (xs:=xs) h]; exact fun h => h
def freeY (p x : ItemY) : Prop :=
 apartN p.2.1 x.2.1∧(p.2.1.op.cls≤1∧p.2.2.2=0∧(p.2.1.op.cls=0 ∨ x.2.1.op.cls≤1 ∨ x.2.2.2.testBit p.1=true ∨ freeK false p.2.1.op.kind x.2.1.op.kind=true) ∨
  ¬ p.2.1.op.cls≤1∧freeK false p.2.1.op.kind x.2.1.op.kind=true∧x.2.2.2=0∧(p.2.2.2=0 ∨ x.2.1.op.cls≤1∧p.2.2.2.testBit x.1=false))
theorem chkL_add {i m : Nat} {op : IK} {v : IV} {L : List LE} (h : chkL E L m σ) (hb : m.testBit i=false) : chkL E (addL E fr i op v L) m σ:=by
 intro e he hm
 unfold addL at he
 split at he
 ·split at he
  ·exact h e he hm
  ·rcases List.mem_cons.1 he with rfl | he
   ·simp only at hm; rw [hb] at hm; cases hm
   ·exact h e he hm
 ·exact h e he hm
theorem pullY {K : Frm→Store→Prop} (hK : ∀ f f' s,FEq f f'→K f s→K f' s) {ix : Nat} {x : IOper} {kx mx : Nat} {post : List ItemY} :
  ∀ (pre : List ItemY) (L : List LE) (fr : Frm) (σ : Store),(∀ p∈pre,freeY p (ix,x,kx,mx))→(∀ p∈pre,p.2.2.1≠kx∧σ.obj p.2.2.1=none)→(pre.map (·.2.2.1)).Nodup→(pre≠[]→σ.obj kx=none) →
   (∀ p∈pre,p.2.1.op.kind=2→∀ y∈x.op.ops,noRef p.2.2.1 (y.ev E fr)) →
   treeY P E (pre ++ (ix,x,kx,mx) :: post) L fr σ K →
   opYG P E x kx mx L fr σ (fun v σ' => treeY P E (pre ++ post) (addL E fr ix x.op v L) (fr.setd x.dst v) σ' K) (treeY P E (pre ++ post) L (fr.setd x.dst skV) σ K):=by
 intro pre
 induction pre with
 | nil => intro L fr σ _ _ _ _ _ h; exact h
 | cons p pre ih =>
  intro L fr σ hfree hids hnd hnx hH h
  obtain ⟨ip,p,kp,mp⟩:=p
  obtain ⟨hap,hfr⟩:=hfree _ (List.mem_cons_self ..)
  obtain ⟨hpx,hkp⟩:=hids _ (List.mem_cons_self ..)
  simp only at hap hfr hpx hkp
  have hnx0:=hnx (by simp)
  have hnd':=List.nodup_cons.1 (show (kp :: pre.map (·.2.2.1)).Nodup from hnd)
  have hfx : ∀ vp,∀ t∈x.uses,(fr.setd p.dst vp).get t=fr.get t:=fun vp t ht => by
   rw [setd_get,if_neg]; intro e; exact hap.2 t e ht
  have hfxo : ∀ vp,∀ t∈x.op.ops.flatMap IX.uses,(fr.setd p.dst vp).get t=fr.get t:=fun vp t ht => hfx vp t (uses_ops ht)
  have hfp : ∀ vx,∀ t∈p.uses,fr.get t=(fr.setd x.dst vx).get t:=fun vx t ht => by
   rw [setd_get,if_neg]; intro e; exact (hap.1 t e).1 ht
  have hfpo : ∀ vx,∀ t∈p.op.ops.flatMap IX.uses,fr.get t=(fr.setd x.dst vx).get t:=fun vx t ht => hfp vx t (uses_ops ht)
  have feq : ∀ vp vx,FEq ((fr.setd p.dst vp).setd x.dst vx) ((fr.setd x.dst vx).setd p.dst vp):=fun vp vx t => by
   simp only [setd_get]
   by_cases h1 : x.dst=some t
   ·have h2 : p.dst≠some t:=(hap.1 t h1).2
    simp [h1,h2]
   ·simp [h1]
  have hactx : ∀ vp ax,actIs x (fr.setd p.dst vp)=some ax→actIs x fr=some ax:=fun vp ax h => by rw [← actIs_eq (hfx vp)]; exact h
  have hactp : ∀ {ap : Bool},actIs p fr=some ap→∀ vx,actIs p (fr.setd x.dst vx)=some ap:=fun hact vx => by rw [← actIs_eq (hfp vx)]; exact hact
  -- the rest,at a store where the fresh ones are fresh
  have IH : ∀ (vp : IV) (L1 : List LE) (σ1 : Store),(∀ i,i≠kp→σ.obj i=none→σ1.obj i=none)→treeY P E (pre ++ (ix,x,kx,mx) :: post) L1 (fr.setd p.dst vp) σ1 K →
    opYG P E x kx mx L1 (fr.setd p.dst vp) σ1 (fun v σ' => treeY P E (pre ++ post) (addL E (fr.setd p.dst vp) ix x.op v L1) ((fr.setd p.dst vp).setd x.dst v) σ' K) (treeY P E (pre ++ post) L1 ((fr.setd p.dst vp).setd x.dst skV) σ1 K):=by
   intro vp L1 σ1 fresh1 ht
   exact ih L1 (fr.setd p.dst vp) σ1 (fun q hq => hfree q (List.mem_cons_of_mem _ hq))
    (fun q hq => ⟨(hids q (List.mem_cons_of_mem _ hq)).1,fresh1 _ (fun e => hnd'.1 (by rw [← e]; exact List.mem_map.2 ⟨q,hq,rfl⟩)) (hids q (List.mem_cons_of_mem _ hq)).2⟩)
    hnd'.2 (fun _ => fresh1 kx (fun e => hpx e.symm) hnx0)
    (fun q hq hk2 y hy => by
     have : y.ev E (fr.setd p.dst vp)=y.ev E fr:=ev_eq fun t ht => hfxo vp t (List.mem_flatMap.2 ⟨y,hy,ht⟩)
     rw [this]; exact hH q (List.mem_cons_of_mem _ hq) hk2 y hy) ht
  rcases h with ⟨hact,hh⟩ | ⟨hact,hh⟩
  ·rcases hfr with ⟨kp1,hmp,hc⟩ | ⟨kp2,hfk,hmx,hc⟩
   ·-- p reads at most
    subst hmp
    obtain ⟨vp,hd,_,htree⟩:=(cls_det kp1).1 hh
    have hde : ∀ {s : Store} vx,detR P E p.op kp fr s vp s→detR P E p.op kp (fr.setd x.dst vx) s vp s:=fun vx h => detR_eq (hfpo vx) h
    rcases IH vp _ σ (fun _ _ h => h) htree with ⟨h1,h2⟩ | ⟨h1,h2⟩
    ·have h3:=opR_use (hfxo vp) h2
     have h4 : opR P E x.op kx fr σ (fun v σ' => detR P E p.op kp fr σ' vp σ'∧chkL E L mx σ'∧treeY P E (pre ++ post) (addL E (fr.setd p.dst vp) ix x.op v (addL E fr ip p.op vp L)) ((fr.setd p.dst vp).setd x.dst v) σ' K):=by
      rcases hc with c0 | cx | cm | ck
      ·exact opR_mono (fun v s ⟨c,k⟩ => ⟨(det_pure (cls0_kind c0) hd).2 s,chkL_sub addL_sup c,k⟩) h3
      ·obtain ⟨vx,e1,c,k⟩:=(cls_det cx).1 h3
       exact (cls_det cx).2 ⟨vx,e1,hd,chkL_sub addL_sup c,k⟩
      ·rcases cls_le kp1 with ⟨q,hq⟩ | c0
       ·by_cases hk0 : q.kind=0
        ·have c0 : p.op.cls=0:=by rw [hq]; simp only [IK.cls,hk0]
         exact opR_mono (fun v s ⟨c,k⟩ => ⟨(det_pure (cls0_kind c0) hd).2 s,chkL_sub addL_sup c,k⟩) h3
        ·refine opR_mono (fun v s ⟨c,k⟩ => ⟨?_,chkL_sub addL_sup c,k⟩) h3
         rw [hq]
         refine ⟨?_,rfl⟩
         have hmem : (ip,shutQ E fr q,vp)∈addL E fr ip p.op vp L:=by
          rw [hq]
          simp only [addL,hk0,if_false]
          exact List.mem_cons_self ..
         have:=c _ hmem cm
         rw [shutQ_ev _ hk0] at this
         exact this
       ·exact opR_mono (fun v s ⟨c,k⟩ => ⟨(det_pure (cls0_kind c0) hd).2 s,chkL_sub addL_sup c,k⟩) h3
      ·obtain ⟨kp5,kx5⟩:=freeK_le ck
       obtain ⟨vx,σ2,e1,c,k⟩:=(opR_det kx5).1 h3
       have e1' : detR P E x.op kx (fr.setd p.dst vp) σ vx σ2:=detR_eq (fun t ht => (hfxo vp t ht).symm) e1
       obtain ⟨σ1',s1,_,s3,_⟩:=det_swap (B:=false) hd (fun h => by cases h) e1' (fun h => by cases h) ck (hfxo vp) (hfpo vx) hpx hkp hnx0 (hH _ (List.mem_cons_self ..))
       have hs : σ2=σ1':=det_cls kp1 s3
       subst hs
       exact (opR_det kx5).2 ⟨vx,σ2,s1,detR_eq (fun t ht => (hfpo vx t ht).symm) s3,chkL_sub addL_sup c,k⟩
     refine .inl ⟨hactx _ _ h1,opR_mono (fun v s ⟨hd',c,k⟩ => ⟨c,?_⟩) h4⟩
     refine .inl ⟨hactp hact v,(cls_det kp1).2 ⟨vp,hde v hd',chkL_zero,?_⟩⟩
     rw [addL_eq (fr':=fr) (hfxo vp)] at k
     have k2:=treeY_feq hK _ _ _ _ _ (feq vp v) k
     show treeY P E (pre ++ post) (addL E (fr.setd x.dst v) ip p.op vp (addL E fr ix x.op v L)) _ s K
     rw [← addL_eq (fr:=fr) (hfpo v)]
     exact treeY_sub _ _ _ _ _ (fun e he => (addL_mem e).1 he) k2
    ·refine .inr ⟨hactx _ _ h1,.inl ⟨hactp hact skV,(cls_det kp1).2 ⟨vp,hde skV hd,chkL_zero,?_⟩⟩⟩
     show treeY P E (pre ++ post) (addL E (fr.setd x.dst skV) ip p.op vp L) _ σ K
     rw [← addL_eq (fr:=fr) (hfpo skV)]
     exact treeY_feq hK _ _ _ _ _ (feq vp skV) h2
   ·-- p writes,or lays
    obtain ⟨kp5,kx5⟩:=freeK_le hfk
    obtain ⟨vp,σ1,hd,hchk,htree⟩:=(opR_det kp5).1 hh
    subst hmx
    rw [addL_cls2 kp2] at htree
    rcases IH vp _ σ1 (fun i hi h0 => det_fresh kp5 hi hd h0) htree with ⟨h1,h2⟩ | ⟨h1,h2⟩
    ·obtain ⟨vx,σ2,e1,_,k⟩:=(opR_det kx5).1 h2
     obtain ⟨σ1',s1,_,s3,_⟩:=det_swap (B:=false) hd (fun h => by cases h) e1 (fun h => by cases h) hfk (hfxo vp) (hfpo vx) hpx hkp hnx0 (hH _ (List.mem_cons_self ..))
     refine .inl ⟨hactx _ _ h1,(opR_det kx5).2 ⟨vx,σ1',s1,chkL_zero,.inl ⟨hactp hact vx,(opR_det kp5).2 ⟨vp,σ2,s3,?_,?_⟩⟩⟩⟩
     ·rcases hc with h0 | ⟨cx,hb⟩
      ·subst h0; exact chkL_zero
      ·have hs : σ2=σ1:=det_cls cx e1
       subst hs
       exact chkL_add hchk hb
     ·show treeY P E (pre ++ post) (addL E _ ip p.op vp (addL E fr ix x.op vx L)) _ σ2 K
      rw [addL_cls2 kp2]
      rw [addL_eq (fr':=fr) (hfxo vp)] at k
      exact treeY_feq hK _ _ _ _ _ (feq vp vx) k
    ·refine .inr ⟨hactx _ _ h1,.inl ⟨hactp hact skV,(opR_det kp5).2 ⟨vp,σ1,detR_eq (hfpo skV) hd,hchk,?_⟩⟩⟩
     show treeY P E (pre ++ post) (addL E _ ip p.op vp L) _ σ1 K
     rw [addL_cls2 kp2]
     exact treeY_feq hK _ _ _ _ _ (feq vp skV) h2
  ·rcases IH skV L σ (fun _ _ h => h) hh with ⟨h1,h2⟩ | ⟨h1,h2⟩
   ·refine .inl ⟨hactx _ _ h1,opR_mono (fun v s ⟨c,k⟩ => ⟨c,?_⟩) (opR_use (hfxo skV) h2)⟩
    refine .inr ⟨hactp hact v,?_⟩
    replace k : treeY P E (pre ++ post) (addL E (fr.setd p.dst skV) ix x.op v L) ((fr.setd p.dst skV).setd x.dst v) s K:=k
    rw [addL_eq (fr':=fr) (hfxo skV)] at k
    exact treeY_feq hK _ _ _ _ _ (feq skV v) k
   ·exact .inr ⟨hactx _ _ h1,.inr ⟨hactp hact skV,treeY_feq hK _ _ _ _ _ (feq skV skV) h2⟩⟩
end Go.Id
