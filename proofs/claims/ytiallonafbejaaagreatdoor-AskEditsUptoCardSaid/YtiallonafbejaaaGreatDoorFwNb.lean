/- Open regions whose readers are taken ahead: the check,and the rule. Conditions: none; over any program. -/
import Derived.Test.YtiallonafbejaaaGreatDoorFwNa
set_option linter.all false
namespace Go.Id
open Go
variable {P : Program} {w w' w'' : World} {ρ ρ' ρ'' : Rho} {E : Nat→IV} {σ σ' : Store} {N n n' : Nat} {fr : Frm} {a : Act} {pf : List Nat}
structure RemY (P : Program) (pf : List Nat) (N : Nat) (ops : Array Oper) (anc : Nat→Nat→Prop) (base : Nat) (rem : List ItemY) (listed : Array Bool) : Prop where
 size : listed.size=ops.size
 un : ∀ j,j < ops.size→(listed.getD j true=false ↔ ∃ it∈rem,it.1=j)
 its : ∀ it∈rem,∃ o,ops[it.1]? = some o∧cmpOper P pf N ops o=some it.2.1∧it.2.2.1=base+it.1∧∀ y∈it.2.1.op.ops,IX.quiet y=true
 pw : rem.Pairwise fun p x => (anc p.1 x.1 ∨ freeY p x)∧p.1≠x.1∧∀ o,ops[p.1]? = some o→∀ e∈o.after,Region.binds .any e=true→e.on≠x.1
 dc : ∀ j,listed.getD j false=true→∀ k,anc k j→listed.getD k false=true
theorem any_soundY {ops : Array Oper} {anc : Nat→Nat→Prop} {n0 base : Nat} {ro : Option Nat} {Qw : Exit→Act→World→Prop} {K : Frm→Store→Prop} {ρ0 : Rho} {w0 : World} {ds : List Deferred}
  (hKf : ∀ f f' s,FEq f f'→K f s→K f' s)
  (hfin : ∀ fr σ ρ w a,n0≤σ.next→K fr σ→Sim E ρ w σ→FR ρ w N fr a.tmps→a.defers=ds→ExtW n0 ρ0 w0 ρ w→Qw .normal a w)
  (hed : ∀ j o,ops[j]? = some o→∀ e∈o.after,Region.binds .any e=true→e.on < ops.size∧e.on≠j)
  (hanc : ∀ k j,anc k j→∀ o,ops[j]? = some o→∃ e∈o.after,Region.binds .any e=true∧(e.on=k ∨ anc k e.on)) :
  ∀ (fuel : Nat) (rem : List ItemY) (L : List LE) (listed : Array Bool) (fr : Frm) (σ : Store) (ρ : Rho) (w : World) (a : Act),rem.length=fuel→RemY P pf N ops anc base rem listed→treeY P E rem L fr σ K →
   Sim E ρ w σ→FR ρ w N fr a.tmps→a.defers=ds→ExtW n0 ρ0 w0 ρ w→n0≤base→base+ops.size≤σ.next→(∀ it∈rem,ρ it.2.2.1=.no) →
   wpAnyIn (fw ro) 0 P .any ops Qw fuel listed a w:=by
 intro fuel
 induction fuel with
 | zero =>
  intro rem L listed fr σ ρ w a hlen hr h hs hf hd hx hn0 hnx hno
  have : rem=[]:=List.length_eq_zero_iff.1 hlen
  subst this
  refine ⟨?_,hfin fr σ ρ w a (by omega) h hs hf hd hx⟩
  rw [List.eq_nil_iff_forall_not_mem]
  intro j hj
  obtain ⟨h0,_⟩:=mem_ready.1 hj
  obtain ⟨it,hit,_⟩:=(hr.un j (by rw [← hr.size]; exact getD_lt h0)).1 h0
  cases hit
 | succ fuel ih =>
  intro rem L listed fr σ ρ w a hlen hr h hs hf hd hx hn0 hnx hno
  refine ⟨fun hemp => ?_,fun i hi => ?_⟩
  ·exfalso
   cases rem with
   | nil => cases hlen
   | cons it rem =>
    obtain ⟨o,ho,hc,hid,_⟩:=hr.its it (List.mem_cons_self ..)
    have hlt : it.1 < ops.size:=by
     rcases Nat.lt_or_ge it.1 ops.size with h' | h'
     ·exact h'
     ·simp [Array.getElem?_eq_none h'] at ho
    have : it.1∈Region.ready .any ops listed:=by
     refine mem_ready.2 ⟨(hr.un _ hlt).2 ⟨it,List.mem_cons_self ..,rfl⟩,o,ho,fun e he hb => ?_⟩
     obtain ⟨h1,h2⟩:=hed _ o ho e he hb
     have hj : e.on < listed.size:=by rw [hr.size]; exact h1
     by_cases hL : listed.getD e.on true=false
     ·obtain ⟨jt,hjt,hje⟩:=(hr.un _ h1).1 hL
      rcases List.mem_cons.1 hjt with rfl | hjt
      ·exact absurd hje.symm h2
      ·exact absurd hje.symm (((List.pairwise_cons.1 hr.pw).1 jt hjt).2.2 o ho e he hb)
     ·simp [hj] at hL ⊢; exact hL
    rw [hemp] at this
    cases this
  ·obtain ⟨h0,o,ho,hall⟩:=mem_ready.1 hi
   have hlt : i < ops.size:=by rw [← hr.size]; exact getD_lt h0
   obtain ⟨it,hit,hie⟩:=(hr.un i hlt).1 h0
   obtain ⟨pre,post,rfl⟩:=List.append_of_mem hit
   obtain ⟨ix,x,kx,mx⟩:=it
   simp only at hie
   subst hie
   obtain ⟨o',ho',hc,hkx,hqx⟩:=hr.its _ hit
   simp only at ho' hc hkx hqx
   rw [ho] at ho'
   cases ho'
   obtain ⟨hpp,hxp,hcross⟩:=List.pairwise_append.1 hr.pw
   have hcx:=fun p hp => hcross p hp _ (List.mem_cons_self ..)
   have hnotL : ∀ p∈pre,listed.getD p.1 false≠true:=fun p hp hL => by
    obtain ⟨op,hop,_⟩:=hr.its p (List.mem_append_left _ hp)
    have hpl : p.1 < ops.size:=by
     rcases Nat.lt_or_ge p.1 ops.size with h' | h'
     ·exact h'
     ·simp [Array.getElem?_eq_none h'] at hop
    have:=(hr.un p.1 hpl).2 ⟨p,List.mem_append_left _ hp,rfl⟩
    rw [getD_ft hL] at this
    cases this
   have hfree : ∀ p∈pre,freeY p (ix,x,kx,mx):=fun p hp => by
    rcases (hcx p hp).1 with ha | hf
    ·exfalso
     obtain ⟨e,he,hb,heq⟩:=hanc _ _ ha o ho
     have hle:=hall e he hb
     rcases heq with heq | ha'
     ·exact hnotL p hp (by rw [← heq]; exact hle)
     ·exact hnotL p hp (hr.dc _ hle _ ha')
    ·exact hf
   have hidp : ∀ p∈pre,p.2.2.1=base+p.1:=fun p hp => by
    obtain ⟨_,_,_,h1,_⟩:=hr.its p (List.mem_append_left _ hp)
    exact h1
   have hpull:=pullY (P:=P) (E:=E) (K:=K) hKf (ix:=ix) (x:=x) (kx:=kx) (mx:=mx) (post:=post) pre L fr σ hfree
    (fun p hp => ⟨by rw [hidp p hp,hkx]; have:=(hcx p hp).2.1; omega,hs.noObj _ (hno p (List.mem_append_left _ hp))⟩)
    (by
     rw [List.nodup_iff_pairwise_ne,List.pairwise_map]
     refine (List.Pairwise.and_mem.1 hpp).imp ?_
     intro p q ⟨hp,hq,h1⟩
     rw [hidp p hp,hidp q hq]
     have:=h1.2.1
     omega)
    (fun _ => hs.noObj _ (hno _ hit))
    (fun p hp _ y hy => IX.quiet_noRef (hqx y hy) hs hf (hno p (List.mem_append_left _ hp))) h
   obtain ⟨⟨fz,hk⟩,hdst,hdN,hg⟩:=cmpOper_dst hc
   have hidx : kx < σ.next∧n0≤kx:=by rw [hkx]; omega
   have hmem : ∀ it∈pre ++ post,it∈pre ++ (ix,x,kx,mx) :: post:=fun it h => by
    rcases List.mem_append.1 h with h | h
    ·exact List.mem_append_left _ h
    ·exact List.mem_append_right _ (List.mem_cons_of_mem _ h)
   have hne : ∀ it∈pre ++ post,it.1≠ix:=fun it h => by
    rcases List.mem_append.1 h with h | h
    ·exact (hcx it h).2.1
    ·exact fun e => ((List.pairwise_cons.1 hxp).1 it h).2.1 e.symm
   have hrem : RemY P pf N ops anc base (pre ++ post) (listed.setIfInBounds ix true):=by
    refine ⟨by simp [hr.size],fun j hj => ?_,fun it hit => hr.its it (hmem it hit),?_,?_⟩
    ·by_cases hji : j=ix
     ·subst hji
      have : j < listed.size:=by rw [hr.size]; exact hj
      constructor
      ·intro h; simp [this] at h
      ·rintro ⟨it,h1,h2⟩; exact absurd h2 (hne it h1)
     ·rw [getD_set_ne true (Ne.symm hji),hr.un j hj]
      constructor
      ·rintro ⟨it,h1,h2⟩
       refine ⟨it,?_,h2⟩
       rcases List.mem_append.1 h1 with h1 | h1
       ·exact List.mem_append_left _ h1
       ·rcases List.mem_cons.1 h1 with rfl | h1
        ·exact absurd h2.symm hji
        ·exact List.mem_append_right _ h1
      ·rintro ⟨it,h1,h2⟩; exact ⟨it,hmem it h1,h2⟩
    ·exact hr.pw.sublist (List.Sublist.append (List.Sublist.refl _) (List.sublist_cons_self _ _))
    ·intro j hj k hk
     by_cases hji : j=ix
     ·subst hji
      obtain ⟨e,he,hb,heq⟩:=hanc _ _ hk o ho
      have hle:=hall e he hb
      rcases heq with rfl | ha'
      ·exact getD_set_true hle
      ·exact getD_set_true (hr.dc _ hle _ ha')
     ·rw [getD_set_ne false (Ne.symm hji)] at hj
      exact getD_set_true (hr.dc _ hj _ hk)
   have hlen' : (pre ++ post).length=fuel:=by simp at hlen ⊢; omega
   have hne2 : ∀ it∈pre ++ post,it.2.2.1≠kx:=fun it h => by
    obtain ⟨_,_,_,h1,_⟩:=hr.its it (hmem it h)
    rw [h1,hkx]
    have:=hne it h
    omega
   unfold wpOpIn
   simp only [ho]
   have run : opR P E x.op kx fr σ (fun v σ' => chkL E L mx σ'∧treeY P E (pre ++ post) (addL E fr ix x.op v L) (fr.setd x.dst v) σ' K)→o.wpIn (fw ro) 0 P a w (wpAnyIn (fw ro) 0 P .any ops Qw fuel (listed.setIfInBounds ix true)) Qw:=by
    intro hop
    refine op_sound hk hop hs hf (by omega) (fun hl => ⟨hno _ hit,hidx.1,hidx.2⟩) ?_
    intro v σ' r ρ' w' hnx' hK hs' hv' hx' hno'
    refine ih (pre ++ post) _ _ _ σ' ρ' w' (a.put o.dst r) hlen' hrem hK.2 hs' ?_ (by rw [put_defers]; exact hd) (hx.trans (hx'.weak (Nat.le_refl _))) hn0 (by omega) ?_
    ·rw [hdst]; exact FR.setd (hf.mono hx') hdN hv'
    ·intro jt hjt
     obtain ⟨jo,hjo,_,h1,_⟩:=hr.its jt (hmem jt hjt)
     have hjl : jt.1 < ops.size:=by
      rcases Nat.lt_or_ge jt.1 ops.size with h' | h'
      ·exact h'
      ·simp [Array.getElem?_eq_none h'] at hjo
     exact hno' _ (by rw [h1]; omega) (fun _ => hne2 jt hjt) (hno _ (hmem jt hjt))
   rcases hg with ⟨hg1,hg2⟩ | ⟨j,want,s,hg1,hgs,hg2⟩
   ·have hw : Region.wanted o (yielded ops a.tmps)=true:=by unfold Region.wanted; rw [hg1]
    rw [if_pos hw]
    rcases hpull with ⟨hact,hh⟩ | ⟨hact,hh⟩
    ·exact run hh
    ·simp [actIs,hg2] at hact
   ·rcases hpull with ⟨hact,hh⟩ | ⟨hact,hh⟩
    ·simp only [actIs,hg2] at hact
     have hw:=guard_act hg1 hgs hf hact
     rw [hw]
     exact run hh
    ·simp only [actIs,hg2] at hact
     have hw:=guard_act hg1 hgs hf hact
     rw [hw]
     refine ⟨fun f _ => trivial,?_⟩
     exact ih (pre ++ post) _ _ _ σ ρ w (a.put o.dst undef) hlen' hrem hh hs (by rw [hdst]; exact FR.setd hf hdN skV_vr) (by rw [put_defers]; exact hd) hx hn0 hnx (fun jt hjt => hno _ (hmem jt hjt))
/-! ### The row in which they are taken,and the check -/
abbrev YO:=Nat × IOper × Nat
def idsY (base : Nat) (l : List YO) : List ItemY:=l.map fun y => (y.1,y.2.1,base+y.1,y.2.2)
def freeYB (p x : YO) : Bool :=
 apartB p.2.1 x.2.1 && ((decide (p.2.1.op.cls≤1) && p.2.2 == 0 && (p.2.1.op.cls == 0 || decide (x.2.1.op.cls≤1) || x.2.2.testBit p.1 || freeK false p.2.1.op.kind x.2.1.op.kind)) ||
  (!decide (p.2.1.op.cls≤1) && freeK false p.2.1.op.kind x.2.1.op.kind && x.2.2 == 0 && (p.2.2 == 0 || decide (x.2.1.op.cls≤1) && !p.2.2.testBit x.1)))
theorem freeYB_spec {p x : YO} {a b : Nat} (h : freeYB p x=true) : freeY (p.1,p.2.1,a,p.2.2) (x.1,x.2.1,b,x.2.2):=by
 unfold freeYB at h
 simp only [Bool.and_eq_true,Bool.or_eq_true,decide_eq_true_eq,beq_iff_eq,Bool.not_eq_true',decide_eq_false_iff_not] at h
 refine ⟨apartB_spec h.1,?_⟩
 rcases h.2 with ⟨⟨h1,h2⟩,h3⟩ | ⟨⟨⟨h1,h2⟩,h3⟩,h4⟩
 ·refine .inl ⟨h1,h2,?_⟩
  rcases h3 with ((h3 | h3) | h3) | h3
  ·exact .inl h3
  ·exact .inr (.inl h3)
  ·exact .inr (.inr (.inl h3))
  ·exact .inr (.inr (.inr h3))
 ·exact .inr ⟨h1,h2,h3,h4⟩
def pairsY (ess : List (List Nat)) (ms : List Nat) : List YO→Bool
 | [] => true
 | p :: xs => xs.all (fun x => ((ms.getD x.1 0).testBit p.1 || freeYB p x) && p.1 != x.1 && !(ess.getD p.1 []).contains x.1) && pairsY ess ms xs
theorem pairsY_spec {ess : List (List Nat)} {ms : List Nat} {base : Nat} : ∀ l : List YO,pairsY ess ms l=true→(idsY base l).Pairwise fun p x => ((ms.getD x.1 0).testBit p.1=true ∨ freeY p x)∧p.1≠x.1∧x.1 ∉ ess.getD p.1 []:=by
 intro l
 induction l with
 | nil => intro _; exact .nil
 | cons p xs ih =>
  intro h
  simp only [pairsY,Bool.and_eq_true,List.all_eq_true] at h
  refine List.pairwise_cons.2 ⟨fun it hit => ?_,ih h.2⟩
  obtain ⟨x,hx,rfl⟩:=List.mem_map.1 hit
  obtain ⟨⟨h1,h2⟩,h3⟩:=h.1 x hx
  refine ⟨?_,by simpa using h2,by simpa using h3⟩
  rw [Bool.or_eq_true] at h1
  rcases h1 with h1 | h1
  ·exact .inl h1
  ·exact .inr (freeYB_spec h1)
def rowY (ios : List IOper) (l : List (Nat × Nat)) : List YO:=l.map fun q => (q.1,ios.getD q.1 default,q.2)
def yOK (ess : List (List Nat)) (ios : List IOper) (l : List (Nat × Nat)) : Bool :=
 let ms:=masks ess
 edOK 0 ess && msOK ms 0 ess && pairsY ess ms (rowY ios l) && (ios.all fun o => o.op.ops.all IX.quiet) &&
  l.all (fun q => decide (q.1 < ios.length)) && (List.range ios.length).all (fun j => l.any fun q => q.1 == j) && l.length == ios.length
theorem R_oregion {n0 id : Nat} {ops : Array Oper} {ios : List IOper} {l : List (Nat × Nat)} {Q : Exit→Frm→Store→Prop} {ks : List Nat} (hm : P.follows .mixedOrders=true) (hc : cmpOps P pf N ops ops.toList=some ios)
  (hok : yOK (ops.toList.map edgesOf) ios l=true)
  (h : treeY P E (idsY σ.next (rowY ios l)) [] fr { σ with next:=σ.next+l.length } (fun fr' σ' => Q .normal (fr'.keep ks) σ')) : R P E N n0 (.region id ops true) fr σ Q:=by
 intro hn ro h0 ρ w a hs hf hd hr
 refine wpIn_region_any hm ?_
 have hlen : ios.length=ops.size:=by rw [cmpOps_len _ _ hc]; simp
 unfold yOK at hok
 simp only [Bool.and_eq_true,List.all_eq_true,beq_iff_eq,decide_eq_true_eq] at hok
 obtain ⟨⟨⟨⟨⟨⟨hed,hms⟩,hpr⟩,hq⟩,hlt⟩,hall⟩,hll⟩:=hok
 generalize masks (ops.toList.map edgesOf)=ms at hms hpr
 have hes : ∀ (j : Nat) (o : Oper),ops[j]? = some o→(ops.toList.map edgesOf)[j]? = some (edgesOf o):=fun j o ho => by simp [ho]
 have hme : ∀ (o : Oper) (k : Nat),k∈edgesOf o→∃ e∈o.after,Region.binds .any e=true∧e.on=k:=fun o k hk => by
  unfold edgesOf at hk
  obtain ⟨e,he,rfl⟩:=List.mem_map.1 hk
  obtain ⟨h1,h2⟩:=List.mem_filter.1 he
  exact ⟨e,by simpa using h1,h2,rfl⟩
 have hem : ∀ (o : Oper) (e : Edge),e∈o.after→Region.binds .any e=true→e.on∈edgesOf o:=fun o e he hb =>
  List.mem_map.2 ⟨e,List.mem_filter.2 ⟨by simpa using he,hb⟩,rfl⟩
 have hmemI : ∀ it∈idsY σ.next (rowY ios l),∃ q∈l,it=(q.1,ios.getD q.1 default,σ.next+q.1,q.2):=fun it hit => by
  obtain ⟨y,hy,rfl⟩:=List.mem_map.1 hit
  obtain ⟨q,hq',rfl⟩:=List.mem_map.1 hy
  exact ⟨q,hq',rfl⟩
 refine any_soundY (E:=E) (pf:=pf) (N:=N) (anc:=fun k j => (ms.getD j 0).testBit k=true) (n0:=n0) (base:=σ.next) (ρ0:=ρ) (w0:=w) (ds:=a.defers) (K:=fun fr' σ' => Q .normal (fr'.keep ks) σ') ?_ ?_ ?_ ?_
  ops.size (idsY σ.next (rowY ios l)) [] _ fr { σ with next:=σ.next+l.length } ρ w.drew a (by simp [idsY,rowY,hll,hlen]) ?_ h
  (sim_next (sim_drew hs) (fun i hi => hs.fresh i (by omega))) (hf.mono (ext_drew 0)) rfl ((ext_drew n0).weak (Nat.le_refl _)) hn (by rw [hll,hlen]; exact Nat.le_refl _) ?_
 ·intro f f' s hff hK
  have : f'.keep ks=f.keep ks:=by
   unfold Frm.keep
   exact List.map_congr_left fun k _ => by rw [hff k]
  rw [this]; exact hK
 ·intro fr' σ' ρ' w' a' hn' hK hs' hf' hd' hx
  exact ⟨fr'.keep ks,σ',ρ',hn',hK,hs',hf'.keep ks,by rw [hd']; exact hd.mono hx,hr.mono hx,hx⟩
 ·intro j o ho e he hb
  have:=edOK_spec _ _ hed j _ (hes j o ho) _ (hem o e he hb)
  have hj : j < ops.size:=by
   rcases Nat.lt_or_ge j ops.size with h' | h'
   ·exact h'
   ·simp [Array.getElem?_eq_none h'] at ho
  omega
 ·intro k j hk o ho
  have:=msOK_spec _ _ hms j _ (hes j o ho)
  simp only [Nat.zero_add] at this
  rw [this] at hk
  rcases orF_bit _ _ hk with h1 | ⟨e,he,h1⟩
  ·simp at h1
  ·obtain ⟨ed,hed1,hb,heq⟩:=hme o e he
   exact ⟨ed,hed1,hb,by rw [heq]; exact h1⟩
 ·refine ⟨by simp,fun j hj => ?_,fun it hit => ?_,?_,?_⟩
  ·constructor
   ·intro _
    have:=hall j (by simp [List.mem_range,hlen,hj])
    obtain ⟨q,hq',he⟩:=List.any_eq_true.1 this
    have he : q.1=j:=by simpa using he
    exact ⟨(q.1,ios.getD q.1 default,σ.next+q.1,q.2),List.mem_map.2 ⟨_,List.mem_map.2 ⟨q,hq',rfl⟩,rfl⟩,he⟩
   ·intro _; simp [hj]
  ·obtain ⟨q,hq',rfl⟩:=hmemI it hit
   have hql:=hlt q hq'
   have hqs : q.1 < ops.size:=by omega
   obtain ⟨jt,hjt,hje⟩:=numb_has (base:=σ.next) ios 0 q.1 (Nat.zero_le _) (by omega)
   obtain ⟨o,h1,h2⟩:=numb_ops ops.toList ios 0 rfl hc jt hjt
   have hget : ios[q.1]? = some jt.2.1:=by
    have : ∀ (ios : List IOper) (i : Nat),∀ it∈numb σ.next i ios,ios[it.1 - i]? = some it.2.1:=by
     intro ios
     induction ios with
     | nil => intro i it h; cases h
     | cons o os ih =>
      intro i it h
      rcases List.mem_cons.1 h with rfl | h
      ·simp
      ·have h1:=numb_ge os _ it h
       have h2:=ih _ it h
       rw [show it.1 - i=(it.1 - (i+1))+1 from by omega]
       simpa using h2
    have:=this ios 0 jt hjt
    rw [hje] at this
    simpa using this
   have hd : ios.getD q.1 default=jt.2.1:=by simp [List.getD_eq_getElem?_getD,hget]
   rw [hje] at h1
   refine ⟨o,h1,by simp only [hd]; exact h2,rfl,?_⟩
   simp only [hd]
   exact hq _ (List.mem_of_getElem? hget)
  ·refine (pairsY_spec (base:=σ.next) _ hpr).imp ?_
   intro p x ⟨h1,h2,h3⟩
   refine ⟨h1,h2,fun o ho e he hb heq => h3 ?_⟩
   have : (ops.toList.map edgesOf).getD p.1 []=edgesOf o:=by rw [List.getD_eq_getElem?_getD,hes p.1 o ho]; rfl
   rw [this,← heq]
   exact hem o e he hb
  ·intro j hj
   exfalso
   by_cases hlt : j < ops.size
   ·simp [hlt] at hj
   ·simp [hlt] at hj
 ·intro it hit
  obtain ⟨q,hq',rfl⟩:=hmemI it hit
  exact hs.fresh _ (by show σ.next≤σ.next+q.1; omega)
def readyY (ess : List (List Nat)) (done : List Nat) (j : Nat) : Bool:=(ess.getD j []).all fun e => done.contains e
def pickY (ess : List (List Nat)) (ios : List IOper) (done : List Nat) : Option Nat :=
 match (List.range ios.length).find? (fun j => !done.contains j && readyY ess done j && decide ((ios.getD j default).op.cls≤1)) with
 | some j => some j
 | none => (List.range ios.length).find? fun j => !done.contains j && readyY ess done j
def orderY (ess : List (List Nat)) (ios : List IOper) : Nat→List Nat→List Nat
 | 0,done => done
 | n+1,done => match pickY ess ios done with
  | some j => orderY ess ios n (done ++ [j])
  | none => done
def maskY (ms : List Nat) (ios : List IOper) (j : Nat) : List Nat→Nat
 | [] => 0
 | p :: ps => if (ios.getD p default).op.cls=1 && !(ms.getD j 0).testBit p && !freeK false (ios.getD p default).op.kind (ios.getD j default).op.kind then 2 ^ p ||| maskY ms ios j ps else maskY ms ios j ps
def masksY (ms : List Nat) (ios : List IOper) : List Nat→List Nat→List (Nat × Nat)
 | _,[] => []
 | ahead,j :: js => (j,if (ios.getD j default).op.cls≤1 then 0 else maskY ms ios j ahead) :: masksY ms ios (j :: ahead) js
def planY (ess : List (List Nat)) (ios : List IOper) : List (Nat × Nat):=masksY (masks ess) ios [] (orderY ess ios ios.length [])
end Go.Id
