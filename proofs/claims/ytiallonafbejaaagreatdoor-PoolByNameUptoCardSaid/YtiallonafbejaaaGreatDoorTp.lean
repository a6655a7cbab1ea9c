/- What a listener doesn't know stays as it is while it is told; tellers that tell in any order; the keys of a map. Conditions: none; over any program. -/
import Derived.Test.YtiallonafbejaaaGreatDoorFwW
import Derived.Test.YtiallonafbejaaaGreatDoorFwZ
set_option linter.all false
namespace Go.Id
open Go
variable {P : Program} {E : Nat→IV} {σ σ' : Store} {N n0 : Nat} {fr : Frm}
theorem CYd_frame {S : Nat→Bool} {yid : Nat} {args : List IV} {Q : IV→Store→Prop} (hid : S yid=true) (hS : ∀ i,σ.next≤i→S i=true) (ha : ∀ a∈args,Nm (fun i => S i=true) a) (hob : ∀ i o,S i=true→σ.obj i=some o→NmO (fun i => S i=true) o) (hE : ∀ g,Bnd 0 (E g))
  (hQn : ∀ v σ',Q v σ'→σ.next≤σ'.next) (h : CYd P E yid args (σ.only S) Q) : CYd P E yid args σ fun v σ'' => ∃ σ',Q v σ'∧σ''=σ'.back σ S∧Nm (fun i => S i=true) v∧(∀ i o,S i=true→σ'.obj i=some o→NmO (fun i => S i=true) o)∧∀ i,S i=false→σ'.obj i=none:=by
 intro ρ w rargs B0 d0 hs hr hB
 obtain ⟨ρ0,hk,hX⟩:=exists_lock (fun i => S i=true) ρ
 have hlive : ∀ v : IV,Bnd 0 v→Nm (fun i => S i=true) v:=fun v hv => hv.weak fun i h => absurd h (Nat.not_lt_zero _)
 have hs0 : Sim E ρ0 w (σ.only S):=hs.cutS hk (fun i hi => by simp [Store.only,hi]) (fun i hi => by simp [Store.only,hi]) (fun i o hi ho => hob i o hi (by simpa [Store.only,hi] using ho))
  (fun i hi => by
   have hn : σ.next≤i:=hi
   rw [hk.on i (hS i hn)]; exact hs.fresh i hn) (fun g => hlive _ (hE g))
 have hr0 : CR ρ0 w args rargs:=⟨hr.1,fun i hi => (hr.2 i hi).cut hk (ha _ (getD_mem _ hi))⟩
 obtain ⟨fn,tmps,assign,body,h1,h2⟩:=h ρ0 w rargs B0 d0 hs0 hr0 (by rw [hk.on yid hid]; exact hB)
 refine ⟨fn,tmps,assign,body,h1,RoundIn.mono h2 ?_⟩
 rintro e w' ⟨v,r,ρ',σ',rfl,hq,hs',hv',hx⟩
 -- what is hidden stands for nothing,before and behind
 have hoff : ∀ i,S i=false→ρ' i=.no:=fun i hi => by
  have hlt : i < σ.next:=by
   rcases Nat.lt_or_ge i σ.next with h | h
   ·exact h
   ·rw [hS i h] at hi; cases hi
  exact hx.no i hlt (hk.off i (by simp [hi]))
 have hlv : ∀ i,ρ' i≠.no→S i=true:=fun i h => by
  cases hsi : S i with
  | true => rfl
  | false => exact absurd (hoff i hsi) h
 have hsame : ∀ i B d,S i=false→ρ i=.at B d→w'.heap[B]? = w.heap[B]?:=fun i B d hi hat => hx.keep B ⟨hs.lt i B d hat,fun j d' hj => by
  obtain ⟨h1,h2⟩:=hk.at hj
  have:=hs.inj j i B d' d h2 hat
  subst this
  rw [hi] at h1; cases h1⟩
 have hnew : ∀ i j B d d',S j=false→ρ' i=.at B d→ρ j=.at B d'→False:=fun i j B d d' hj h1 h2 => by
  rcases hx.img i B d h1 with ⟨k,d2,hk2⟩ | hge
  ·obtain ⟨g1,g2⟩:=hk.at hk2
   have:=hs.inj k j B d2 d' g2 h2
   subst this
   rw [hj] at g1; cases g1
  ·have:=hs.lt j B d' h2; omega
 let ρ2 : Rho:=⟨fun i => if S i then ρ' i else ρ i,ρ.X⟩
 have on : ∀ i,S i=true→ρ2 i=ρ' i:=fun i h => by show (if S i=true then ρ' i else ρ i)=_; rw [if_pos h]
 have off : ∀ i,S i=false→ρ2 i=ρ i:=fun i h => by show (if S i=true then ρ' i else ρ i)=_; rw [if_neg (by simp [h])]
 have hXx : ∀ b,ρ'.X b ↔ ρ.X b ∨ ∃ i d,¬ (S i=true)∧ρ i=.at b d:=fun b => by rw [hx.X]; exact hX b
 -- what is simulated behind the call is so with what was hidden
 have hcut : IsCut (fun i => S i=true) ρ2 ρ':=⟨fun i h => (on i h).symm,fun i h => hoff i (by simpa using h),fun b hb => by
  rcases (hXx b).1 hb with h | ⟨i,d,hi,hat⟩
  ·exact .inl h
  ·exact .inr ⟨i,d,hi,by rw [off i (by simpa using hi)]; exact hat⟩⟩
 have hfb : ∀ b,FB ρ' w' b→FB ρ2 w' b:=fun b hb => ⟨hb.1,fun i d hi => by
  cases hsi : S i with
  | true => rw [on i hsi] at hi; exact hb.2 i d hi
  | false => rw [off i hsi] at hi; exact hb.3 ((hXx b).2 (.inr ⟨i,d,by simp [hsi],hi⟩)),fun hxb => hb.3 ((hXx b).2 (.inl hxb))⟩
 have hrf : ∀ i,ρ' i≠.no→ρ2 i=ρ' i:=fun i h => on i (hlv i h)
 -- from before: what was hidden is as it was
 have hxO : Ext 0 ρ w ρ2 w':=by
  refine ⟨hx.size,fun b hb => hx.keep b ⟨hb.1,fun i d hi => hb.2 i d (hk.at hi).2⟩,hx.shape,fun i B d hi => ?_,fun i B d hi => ?_,fun i hi => ?_,fun i hi => absurd hi (Nat.not_lt_zero _),hx.output,hx.os,hx.tape,hx.loops,rfl⟩
  ·cases hsi : S i with
   | true =>
    rw [on i hsi] at hi
    rcases hx.img i B d hi with ⟨j,d',hj⟩ | h
    ·exact .inl ⟨j,d',(hk.at hj).2⟩
    ·exact .inr h
   | false => rw [off i hsi] at hi; exact .inl ⟨i,d,hi⟩
  ·cases hsi : S i with
   | true =>
    rw [on i hsi]
    have hlt : i < σ.next:=by
     rcases Nat.lt_or_ge i σ.next with h | h
     ·exact h
     ·rw [hs.fresh i h] at hi; cases hi
    exact hx.at_ i B d hlt (by rw [hk.on i hsi]; exact hi)
   | false => rw [off i hsi]; exact .inl hi
  ·cases hsi : S i with
   | true =>
    rw [on i hsi]
    have hlt : i < σ.next:=by
     rcases Nat.lt_or_ge i σ.next with h | h
     ·exact h
     ·rw [hs.fresh i h] at hi; cases hi
    exact hx.dead i hlt (by rw [hk.on i hsi]; exact hi)
   | false => rw [off i hsi]; exact hi
 have hsim : Sim E ρ2 w' (σ'.back σ S):=by
  refine ⟨fun i j B d d' hi hj => ?_,fun i B d hi => ?_,fun i B d hi => ?_,fun i hi => ?_,fun i hi => ?_,fun i hi => ?_,fun g => (hs'.env g).refs hrf hfb,fun i B d hi hxb => ?_,fun b hb => Nat.lt_of_lt_of_le (hs.xlt b hb) hx.size⟩
  ·cases hsi : S i with
   | true =>
    rw [on i hsi] at hi
    cases hsj : S j with
    | true => rw [on j hsj] at hj; exact hs'.inj i j B d d' hi hj
    | false => rw [off j hsj] at hj; exact (hnew i j B d d' hsj hi hj).elim
   | false =>
    rw [off i hsi] at hi
    cases hsj : S j with
    | true => rw [on j hsj] at hj; exact (hnew j i B d' d hsi hj hi).elim
    | false => rw [off j hsj] at hj; exact hs.inj i j B d d' hi hj
  ·cases hsi : S i with
   | true => rw [on i hsi] at hi; exact hs'.lt i B d hi
   | false => rw [off i hsi] at hi; exact Nat.lt_of_lt_of_le (hs.lt i B d hi) hx.size
  ·cases hsi : S i with
   | true =>
    rw [on i hsi] at hi
    obtain ⟨o,h1,h2⟩:=hs'.obj i B d hi
    exact ⟨o,by simp [Store.back,hsi,h1],h2.refs hrf hfb⟩
   | false =>
    rw [off i hsi] at hi
    obtain ⟨o,h1,h2⟩:=hs.obj i B d hi
    exact ⟨o,by simp [Store.back,hsi,h1],h2.mono hxO (hsame i B d hsi hi)⟩
  ·cases hsi : S i with
   | true => rw [on i hsi] at hi; simp [Store.back,hsi,hs'.dead i hi]
   | false => rw [off i hsi] at hi; simp [Store.back,hsi,hs.dead i hi]
  ·have hn : σ'.next≤i:=hi
   cases hsi : S i with
   | true => rw [on i hsi]; exact hs'.fresh i hn
   | false =>
    rw [off i hsi]
    cases hri : ρ i with
    | no => rfl
    | _ =>
     exfalso
     have hlt : i < σ.next:=by
      rcases Nat.lt_or_ge i σ.next with h | h
      ·exact h
      ·rw [hS i h] at hsi; cases hsi
     have:=hQn v σ' hq
     omega
  ·cases hsi : S i with
   | true => rw [on i hsi] at hi; simp [Store.back,hsi,hs'.noObj i hi]
   | false => rw [off i hsi] at hi; simp [Store.back,hsi,hs.noObj i hi]
  ·cases hsi : S i with
   | true => rw [on i hsi] at hi; exact hs'.nx i B d hi ((hXx B).2 (.inl hxb))
   | false => rw [off i hsi] at hi; exact hs.nx i B d hi hxb
 refine ⟨v,r,ρ2,_,rfl,⟨σ',hq,rfl,hv'.nm hlv,fun i o _ ho => hs'.nmO hlv i o ho,fun i hi => hs'.noObj i (hoff i hi)⟩,hsim,hv'.refs hrf hfb,⟨hxO.size,hxO.keep,hxO.shape,hxO.img,fun i B d _ hi => hxO.at_ i B d hi,fun i _ hi => hxO.dead i hi,fun i hlt hi => ?_,hxO.output,hxO.os,hxO.tape,hxO.loops,rfl⟩⟩
 cases hsi : S i with
 | true => rw [on i hsi]; exact hx.no i hlt (by rw [hk.on i hsi]; exact hi)
 | false => rw [off i hsi]; exact hi
theorem C_wf {f : Nat} {args : List IV} {Q : IV→Store→Prop} (h : (∀ i o,σ.obj i=some o→NmO (fun i => i < σ.next) o)→(∀ a∈args,Nm (fun i => i < σ.next) a)→C P E f args σ Q) : C P E f args σ Q:=by
 intro ρ w rargs hs hr
 have hlv : ∀ i,ρ i≠.no→i < σ.next:=fun i hi => by
  rcases Nat.lt_or_ge i σ.next with h | h
  ·exact h
  ·exact absurd (hs.fresh i h) hi
 refine h (fun i o ho => hs.nmO hlv i o ho) (fun a ha => ?_) ρ w rargs hs hr
 obtain ⟨i,hi,rfl⟩:=List.mem_iff_getElem.1 ha
 have:=(hr.2 i hi).nm hlv
 simpa [List.getD_eq_getElem?_getD,hi] using this
def TellerP (P : Program) (E : Nat→IV) (fv : IV) (evs : List (List IV)) (own : Store→Prop) : Prop :=
 ∀ (yid : Nat) (I : List (List IV)→Store→Prop) (S : Store→Prop) (σ : Store),(∀ r r' s,r.Perm r'→I r s→I r' s)→(∀ rest s,I rest s→own s)→Stab I→YStep P E yid I S→I evs σ→CVf P E fv [.yield yid] σ (toldQ σ.next I S)
theorem rfunc_TP {g : IX} {ps : List Nat} {y x : IC} {Q : Exit→Frm→Store→Prop} {evs : List (List IV)} {own : Store→Prop} (hT : TellerP P E (g.ev E fr) evs own)
  (J : List (List IV)→Store→Prop) (hperm : ∀ r r' s,r.Perm r'→J r s→J r' s) (hown : ∀ rest s,J rest s→own s) (hstab : Stab J) (hlen : ∀ a∈evs,a.length=ps.length)
  (hinit : ∀ o,J evs ⟨σ.next+1,(σ.put σ.next o).obj⟩)
  (hbody : ∀ (L : LoopState→Option JX→IObj) (pre : List (List IV)) (a : List IV) (rest : List (List IV)) (s : Store),evs.Perm (pre ++ a :: rest)→J (a :: rest) s→s.obj σ.next=some (L .ready none)→σ.next < s.next →
   wpT noP noC P E N s.next y (bindP fr ps a) s (asgQ P E N s.next σ.next L x (goQ σ.next s.next L J Q fr rest)))
  (hend : ∀ s o,J [] s→σ.next < s.next→s.obj σ.next=some o→Q .normal fr (s.kill σ.next)) :
  RI P E N n0 (.rfunc g ps y x) fr σ Q:=by
 refine RI_rfunc fun L hL => ?_
 let I : List (List IV)→Store→Prop:=fun rest s => (∃ pre,evs.Perm (pre ++ rest))∧s.obj σ.next=some (L .ready none)∧σ.next < s.next∧J rest s
 let S : Store→Prop:=fun s => ∃ st pend,st≠.busy∧s.obj σ.next=some (L st pend)∧pendX Q fr (s.kill σ.next) pend
 have hI : Stab I:=by
  rintro rest s s' ⟨hp,h1,h2,h3⟩ hn hs
  exact ⟨hp,by rw [hs _ h2]; exact h1,Nat.lt_of_lt_of_le h2 hn,hstab rest s s' h3 hn hs⟩
 have hst : YStep P E σ.next I S:=by
  rintro a rest s ⟨⟨pre,hp⟩,h1,h2,h3⟩
  refine ⟨by rw [h1]; rfl,?_⟩
  have hb:=hbody L pre a rest s hp h3 h1 h2
  refine hL s a _ (hlen a (hp.mem_iff.2 (by simp))) h1 ?_
  refine (wpI_sound y _ _ _ (wpI_mono y _ _ _ _ ?_ (wpT_sound noT y _ _ _ hb)))
  intro e f s1 q
  cases e with
  | normal =>
   refine ⟨rfl,q.1,?_⟩
   refine (wpI_sound x _ _ _ (wpI_mono x _ _ _ _ ?_ (wpT_sound noT x _ _ _ q.2)))
   have hK : ∀ v s2,goQ σ.next s.next L J Q fr rest v s2→s.next≤s2.next∧((v=.bool true∧I rest s2) ∨ (v=.bool false∧S s2)):=by
    rintro v s2 ⟨hn,h | h⟩
    ·exact ⟨hn,.inl ⟨h.1,⟨pre ++ [a],by simpa using hp⟩,h.2.1,Nat.lt_of_lt_of_le h2 hn,h.2.2⟩⟩
    ·exact ⟨hn,.inr ⟨h.1,h.2⟩⟩
   intro e f s2 q2
   cases e with
   | normal => exact ⟨q2.1,hK _ _ q2.2⟩
   | ret => exact ⟨q2.1,hK _ _ q2.2⟩
   | exit i => exact ⟨q2.1,hK _ _ q2.2⟩
   | _ => exact q2
  | _ => exact q.elim
 have h:=hT σ.next I S ⟨σ.next+1,(σ.put σ.next (L .ready none)).obj⟩ (fun r r' s hp h => ⟨h.1.imp fun pre hq => hq.trans (hp.append_left pre),h.2.1,h.2.2.1,hperm r r' s hp h.2.2.2⟩) (fun rest s h => hown rest s h.2.2.2) hI hst ⟨⟨[],List.Perm.refl _⟩,by simp only [put_obj,if_true],Nat.lt_succ_self _,hinit _⟩
 refine h.mono ?_
 rintro v s ⟨hn,h | h⟩
 ·exact ⟨Nat.le_of_lt hn,.ready,none,(fun h => by cases h),h.2.1,hend s _ h.2.2.2 h.2.2.1 h.2.1⟩
 ·exact ⟨Nat.le_of_lt hn,h⟩
end Go.Id
