/- Versions' parts,told. Conditions: sizes that fit. -/
import Derived.Test.YtiallonafbejaaaGreatDoorTUQB
import Derived.Test.YtiallonafbejaaaGreatDoorMv
import Derived.Test.YtiallonafbejaaaGreatDoorFwZ
import Derived.Test.YtiallonafbejaaaGreatDoorTUPE
import Derived.Test.YtiallonafbejaaaGreatDoorMm
import Derived.Test.YtiallonafbejaaaGreatDoorTUQA
set_option linter.all false
namespace Go.Id.Tryz
open Go Go.Id Go.Proofs Go.Id.Md
set_option maxRecDepth 100000
def evP (p : Part) : List IV:=[.agg (Part.cs p)]
theorem ver_tell (s : Str) (hs : s.length < 2 ^ 62) : Teller Tryz.prog EE (.func (.func 307) [] [.tptr [.str s]]) ((vparts s).map evP) (fun _ => True):=by
 intro yid I S σ hown hstab hy hi
 refine ⟨fok307.1,?_⟩
 refine C_f fok307 (Nat.le_of_ble_eq_true rfl) ?_
 simp only [ic307,go_sem]
 refine loop_up noT (fun j fr t => ∃ (at_ : Nat) (tl : Frm),fr=(0,.yield yid) :: (1,.tptr [.str s]) :: (3,.int .i64 at_) :: tl∧σ.next≤t.next∧j≤at_∧at_≤s.length∧I ((vparts (s.drop at_)).map evP) t) s.length ⟨0,[],rfl,Nat.le_refl _,Nat.le_refl _,Nat.zero_le _,hi⟩ ?_
 rintro j fr t hle ⟨a,tl,rfl,hn,hja,has,hI⟩
 by_cases hlt : a < s.length
 ·obtain ⟨b,hb,hget,hdr,_,htk⟩:=at_nth s a hlt
  have c1 : (a : Int) < s.length:=by omega
  have c2 : (0 : Int)≤a:=by omega
  have w1:=wrapS (i:=a) (by omega)
  have hk : (4 : Int)≤(vkind b : Int) ↔ ¬ vkind b < 4:=by omega
  simp only [go_sem,c1,e_istr1,c2,Int.toNat_natCast,hget,Option.map]
  refine callP_of (kind_pc b) ?_
  simp only [go_sem,w1]
  generalize hU : Store.put (Store.put _ t.next _) t.next _=U
  have hUn : U.next=t.next+1:=by rw [← hU]; rfl
  have hUb : U.obj t.next=some (.cells [.int .u8 (vkind b),.str []]):=by rw [← hU]; simp only [put_obj,if_true]
  have hUI : ∀ i,i < t.next→U.obj i=t.obj i:=fun i hi => by
   have e : ¬ i=t.next:=by omega
   rw [← hU]; simp only [put_obj,e,if_false]
  clear hU
  have hUe : (⟨t.next+1,U.obj⟩ : Store)=U:=by rw [← hUn]
  rw [hUe]
  have hdl : (s.drop (a+1)).length=s.length - (a+1):=List.length_drop
  have hrl:=run_le b (s.drop (a+1))
  generalize hR : (if vkind b < 4 then 0 else runL b (s.drop (a+1)))=R
  have hRl : a+1+R≤s.length:=by
   rw [← hR]; split <;> omega
  refine loop_up noT (fun m fr u => fr=[(0,.yield yid),(1,.tptr [.str s]),(3,.int .i64 ((a+1+m : Nat) : Int)),(4,.ptr t.next 0),(5,.int .i64 a)]∧t.next+1≤u.next∧u.obj t.next=some (.cells [.int .u8 (vkind b),.str []])∧∀ i,i < t.next→u.obj i=t.obj i) R ⟨rfl,by omega,hUb,hUI⟩ ?_
  clear hUe hUn hUb hUI
  rintro m fr u hmR ⟨rfl,hUn,hUb,hUI⟩
  have w2:=wrapS (i:=a+1+m) (by omega)
  have d2 : (0 : Int)≤((a+1+m : Nat) : Int):=by omega
  by_cases hm : m < R
  ·have h4 : ¬ vkind b < 4:=fun h => by rw [if_pos h] at hR; omega
   rw [if_neg h4] at hR
   obtain ⟨c,hc1,hc2⟩:=run_lt (b:=b) (l:=s.drop (a+1)) (m:=m) (by omega)
   have hc : s[a+1+m]? = some c:=by rw [← hc1,List.getElem?_drop]
   have k1 : (4 : Int)≤vkind b:=by omega
   have k2 : ((a+1+m : Nat) : Int) < s.length:=by omega
   have k3:=kind_pc c
   rw [hc2] at k3
   simp only [go_sem,hUb,k1,k2,e_istr1,d2,Int.toNat_natCast,hc,Option.map]
   refine callP_of k3 ?_
   simp only [go_sem,hUb,w2]
   exact ⟨hm,rfl,by omega,hUI⟩
  ·have hmR : m=R:=by omega
   subst hmR
   by_cases h4 : vkind b < 4
   ·have k1 : ¬ (4 : Int)≤vkind b:=by omega
    rw [if_pos h4] at hR
    subst hR
    have k5 : ¬ ((vkind b : Nat) : Int)=5:=by omega
    have hUI2 : I ((vparts (s.drop a)).map evP) ⟨u.next+18,u.obj⟩:=hstab _ _ _ hI (by show t.next≤u.next+18; omega) hUI
    rw [hdr] at hUI2
    by_cases h0 : vkind b=0
    ·have k0 : ((vkind b : Nat) : Int)=0:=by omega
     rw [vparts_0 h0] at hUI2
     have k6 : ¬ (0 : Int)=5:=by omega
     simp only [go_sem,hUb,k1,k5,k0,k6]
     exact ⟨by omega,a+1,_,rfl,by omega,by omega,by omega,hUI2⟩
    ·have k0 : ¬ ((vkind b : Nat) : Int)=0:=by omega
     rw [vparts_1 h0 h4,List.map_cons] at hUI2
     simp only [go_sem,hUb,k1,k5,k0]
     refine callY hy hUI2 (fun s1 n1 i1 => ?_) (fun s1 n1 h1 => ?_)
     ·have n1' : u.next+18≤s1.next:=n1
      simp only [go_sem]
      exact ⟨by omega,a+1,_,rfl,by omega,by omega,by omega,i1⟩
     ·have n1' : u.next+18≤s1.next:=n1
      simp only [go_sem]
      exact ⟨by omega,.inr h1⟩
   ·have k1 : (4 : Int)≤vkind b:=by omega
    rw [if_neg h4] at hR
    have key : ∀ s1 : Store,t.next≤s1.next→(∀ i,i < t.next→s1.obj i=t.obj i)→I (evP ⟨vkind b,if vkind b=5 then ((s.drop a).take (m+1)).dropWhile (· == 48) else (s.drop a).take (m+1)⟩ :: (vparts (s.drop (a+1+m))).map evP) s1:=fun s1 h1 h2 => by
     have:=hstab _ _ _ hI h1 h2
     rw [hdr,vparts_4 h4,List.map_cons,hR,← hdr,List.drop_drop] at this
     exact this
    have hss : sstrI (some (.int .i64 a)) (some (.int .i64 ((a+1+m : Nat) : Int))) (.str s)=some (.str ((s.drop a).take (m+1))):=by
     have e1 : (0 : Int)≤a:=by omega
     have e2 : a≤a+1+m∧a+1+m≤s.length:=by omega
     simp only [sstrI,bndI,natI,e1,d2,if_true,Int.toNat_natCast,e2,and_self]
     rw [List.drop_take]
     congr 3; omega
    have k0 : ¬ ((vkind b : Nat) : Int)=0:=by omega
    have ht:=trimL_pc ((s.drop a).take (m+1)) (by rw [List.length_take,List.length_drop]; omega)
    by_cases hend : a+1+m < s.length
    ·have k2 : ((a+1+m : Nat) : Int) < s.length:=by omega
     have hc : s[a+1+m]? = some s[a+1+m]:=List.getElem?_eq_getElem hend
     have hne : vkind s[a+1+m]≠vkind b:=run_eq (l:=s.drop (a+1)) (by rw [hR,List.getElem?_drop]; exact hc)
     have k7 : ¬ ((vkind s[a+1+m] : Nat) : Int)=vkind b:=by omega
     simp only [go_sem,hUb,k1,k2,e_istr1,d2,Int.toNat_natCast,hc,Option.map]
     refine callP_of (kind_pc _) ?_
     simp only [go_sem,hUb,k1,k7,hss]
     by_cases h5 : vkind b=5
     ·have k5 : ((vkind b : Nat) : Int)=5:=by omega
      have key5 : ∀ s1 : Store,t.next≤s1.next→(∀ i,i < t.next→s1.obj i=t.obj i)→I ([IV.agg [.int .u8 5,.str (((s.drop a).take (m+1)).dropWhile (· == 48))]] :: (vparts (s.drop (a+1+m))).map evP) s1:=fun s1 h1 h2 => by
       have:=key s1 h1 h2
       rw [if_pos h5] at this
       simp only [evP,Part.cs,k5] at this
       exact this
      have k6 : ¬ (5 : Int)=0:=by omega
      simp only [go_sem,hUb,k5]
      refine call_pc fok309 ht ?_
      simp only [go_sem,hUb,k5,k6]
      refine callY hy (key5 _ (by simp only [put_next]; omega) fun i hi => ?_) (fun s1 n1 i1 => ?_) (fun s1 n1 h1 => ?_)
      ·have : ¬ i=t.next:=by omega
       simp only [put_obj,this,if_false]; exact hUI i hi
      ·have n1' : u.next+18≤s1.next:=n1
       simp only [go_sem]
       exact ⟨by omega,a+1+m,_,rfl,by omega,by omega,by omega,i1⟩
      ·have n1' : u.next+18≤s1.next:=n1
       simp only [go_sem]
       exact ⟨by omega,.inr h1⟩
     ·have k5 : ¬ ((vkind b : Nat) : Int)=5:=by omega
      have key5 : ∀ s1 : Store,t.next≤s1.next→(∀ i,i < t.next→s1.obj i=t.obj i)→I ([IV.agg [.int .u8 (vkind b),.str ((s.drop a).take (m+1))]] :: (vparts (s.drop (a+1+m))).map evP) s1:=fun s1 h1 h2 => by
       have:=key s1 h1 h2
       rw [if_neg h5] at this
       exact this
      simp only [go_sem,hUb,k5,k0]
      refine callY hy (key5 _ (by simp only [put_next]; omega) fun i hi => ?_) (fun s1 n1 i1 => ?_) (fun s1 n1 h1 => ?_)
      ·have : ¬ i=t.next:=by omega
       simp only [put_obj,this,if_false]; exact hUI i hi
      ·have n1' : u.next+18≤s1.next:=n1
       simp only [go_sem]
       exact ⟨by omega,a+1+m,_,rfl,by omega,by omega,by omega,i1⟩
      ·have n1' : u.next+18≤s1.next:=n1
       simp only [go_sem]
       exact ⟨by omega,.inr h1⟩
    ·have k2 : ¬ ((a+1+m : Nat) : Int) < s.length:=by omega
     simp only [go_sem,hUb,k1,k2,hss]
     by_cases h5 : vkind b=5
     ·have k5 : ((vkind b : Nat) : Int)=5:=by omega
      have key5 : ∀ s1 : Store,t.next≤s1.next→(∀ i,i < t.next→s1.obj i=t.obj i)→I ([IV.agg [.int .u8 5,.str (((s.drop a).take (m+1)).dropWhile (· == 48))]] :: (vparts (s.drop (a+1+m))).map evP) s1:=fun s1 h1 h2 => by
       have:=key s1 h1 h2
       rw [if_pos h5] at this
       simp only [evP,Part.cs,k5] at this
       exact this
      have k6 : ¬ (5 : Int)=0:=by omega
      simp only [go_sem,hUb,k5]
      refine call_pc fok309 ht ?_
      simp only [go_sem,hUb,k5,k6]
      refine callY hy (key5 _ (by simp only [put_next]; omega) fun i hi => ?_) (fun s1 n1 i1 => ?_) (fun s1 n1 h1 => ?_)
      ·have : ¬ i=t.next:=by omega
       simp only [put_obj,this,if_false]; exact hUI i hi
      ·have n1' : u.next+18≤s1.next:=n1
       simp only [go_sem]
       exact ⟨by omega,a+1+m,_,rfl,by omega,by omega,by omega,i1⟩
      ·have n1' : u.next+18≤s1.next:=n1
       simp only [go_sem]
       exact ⟨by omega,.inr h1⟩
     ·have k5 : ¬ ((vkind b : Nat) : Int)=5:=by omega
      have key5 : ∀ s1 : Store,t.next≤s1.next→(∀ i,i < t.next→s1.obj i=t.obj i)→I ([IV.agg [.int .u8 (vkind b),.str ((s.drop a).take (m+1))]] :: (vparts (s.drop (a+1+m))).map evP) s1:=fun s1 h1 h2 => by
       have:=key s1 h1 h2
       rw [if_neg h5] at this
       exact this
      simp only [go_sem,hUb,k5,k0]
      refine callY hy (key5 _ (by simp only [put_next]; omega) fun i hi => ?_) (fun s1 n1 i1 => ?_) (fun s1 n1 h1 => ?_)
      ·have : ¬ i=t.next:=by omega
       simp only [put_obj,this,if_false]; exact hUI i hi
      ·have n1' : u.next+18≤s1.next:=n1
       simp only [go_sem]
       exact ⟨by omega,a+1+m,_,rfl,by omega,by omega,by omega,i1⟩
      ·have n1' : u.next+18≤s1.next:=n1
       simp only [go_sem]
       exact ⟨by omega,.inr h1⟩
 ·have ha : a=s.length:=by omega
  subst ha
  have c1 : ¬ (s.length : Int) < s.length:=by omega
  rw [List.drop_length] at hI
  simp only [go_sem,c1]
  exact ⟨hn,.inl hI⟩
end Go.Id.Tryz
/- Versions,EVRs,ranges compared; who provides what. Conditions: sizes that fit. -/
namespace Go.Id.Tryz
open Go Go.Id Go.Proofs Go.Id.Md
set_option maxRecDepth 100000
theorem verParts1_pc (s : Str) : PC Tryz.prog EE 281 [.str s] (.func (.func 307) [] [.tptr [.str s]]):=by
 refine PC_e hE fok281 (Nat.le_of_ble_eq_true rfl) (one_mem (.str _)) ?_
 simp only [ic281,go_sem]
 have h1 : ∀ c∈[IV.str s],Bnd 0 c:=one_mem (.str _)
 have h2 : ∀ c∈[IV.tptr [.str s]],Bnd 0 c:=one_mem (.tptr _ h1)
 exact .keep _ (.func _ _ _ (fun c hc => by cases hc) h2)
theorem part_all (l : List Part) : ∀ e∈l.map Part.cs,e.length=2∧e.all IV.leaf=true:=fun e he => by
 obtain ⟨x,_,rfl⟩:=List.mem_map.1 he; exact ⟨rfl,rfl⟩
theorem partsF_len : ∀ (n : Nat) (l : Str),l.length≤n→(partsF n l).length≤l.length:=by
 intro n
 induction n with
 | zero => intro l h; simp [partsF]
 | succ n ih =>
  intro l h
  cases l with
  | nil => simp [partsF]
  | cons b l =>
   simp only [List.length_cons] at h
   simp only [partsF]
   split
   ·exact Nat.le_trans (ih l (by omega)) (by simp)
   ·split
    ·simp only [List.length_cons]; have:=ih l (by omega); omega
    ·simp only [List.length_cons]
     have hd : ((b :: l).dropWhile fun c => vkind c == vkind b).length≤l.length:=by
      rw [List.dropWhile_cons,if_pos (by simp)]; exact drop_len l
     have:=ih _ (Nat.le_trans hd (by omega))
     omega
theorem vparts_len (s : Str) : (vparts s).length≤s.length:=partsF_len _ _ (Nat.le_refl _)
theorem verParts_c (s : Str) (hs : s.length < 2 ^ 30) (σ : Store) : C Tryz.prog EE 235 [.str s] σ fun v t => (∀ i,i < σ.next→t.obj i=σ.obj i)∧σ.next≤t.next∧Grow t v 2 ((vparts s).map Part.cs)∧∀ id n,v=.slice id 0 n 2→σ.next≤id:=by
 refine C_f fok235 (Nat.le_of_ble_eq_true rfl) ?_
 simp only [ic235,go_sem]
 refine call_pc fok281 (verParts1_pc s) ?_
 simp only [go_sem]
 have hvl:=vparts_len s
 refine rfunc_T (ver_tell s (by omega)) (fun rest t => ∃ n v,n≤(vparts s).length∧rest=((vparts s).drop n).map evP∧(∀ i,i < σ.next→t.obj i=σ.obj i)∧t.obj σ.next=some (.cells [v])∧σ.next < t.next∧Grow t v 2 (((vparts s).take n).map Part.cs)∧∀ id k,v=.slice id 0 k 2→σ.next+1 < id) (fun _ _ _ => trivial) ?_ ?_ ?_ ?_ ?_
 ·rintro rest t t' ⟨n,v,h0,h1,h2,h3,h4,h5,h6⟩ hn ho
  exact ⟨n,v,h0,h1,fun i hi => by rw [ho i (by omega)]; exact h2 i hi,by rw [ho _ h4]; exact h3,by omega,h5.mono hn fun id _ hid => ho id hid,h6⟩
 ·intro a ha
  obtain ⟨p,_,rfl⟩:=List.mem_map.1 ha
  rfl
 ·intro o
  have e0 : ¬ σ.next=σ.next+1:=by omega
  refine ⟨0,.nilslice,Nat.zero_le _,rfl,fun i hi => ?_,?_,by show σ.next < σ.next+1+1; omega,.inl ⟨rfl,by simp⟩,fun id k h => by cases h⟩
  ·have e1 : ¬ i=σ.next:=by omega
   have e2 : ¬ i=σ.next+1:=by omega
   simp only [put_obj,put_next,e1,e2,if_false]
  ·simp only [put_obj,put_next,e0,if_false,if_true]
 ·rintro L pre a rest t hev ⟨n,v,h0,h1,h2,h3,h4,h5,h6⟩ hL hlt
  have hn : n < (vparts s).length:=by
   rcases Nat.lt_or_ge n (vparts s).length with h | h
   ·exact h
   ·rw [List.drop_of_length_le h] at h1; cases h1
  rw [List.drop_eq_getElem_cons hn,List.map_cons] at h1
  obtain ⟨ha,hrest⟩:=List.cons.inj h1
  subst ha
  simp only [evP,Part.cs,put_next] at hL hlt ⊢
  have e1 : ¬ σ.next+1=t.next:=by omega
  have e2 : ¬ σ.next=t.next:=by omega
  have e3 : ¬ σ.next=σ.next+1:=by omega
  have e4 : ¬ t.next=σ.next+1:=by omega
  have e5 : ¬ t.next=σ.next:=by omega
  simp only [go_sem,hL,e1,e2,e3,e4,h3]
  generalize hU : (((Store.put ⟨t.next+1,t.obj⟩ t.next (IObj.cells [IV.int .u8 0,IV.str []])).put t.next (IObj.cells [IV.int .u8 ↑(vparts s)[n].kind,IV.str (vparts s)[n].s])).put (σ.next+1) (L .busy none))=U
  have hUo : ∀ i,i < t.next→i≠σ.next+1→U.obj i=t.obj i:=fun i hi hne => by
   have : ¬ i=t.next:=by omega
   rw [← hU]; simp only [put_obj,hne,this,if_false]
  have hUL : U.obj (σ.next+1)=some (L .busy none):=by rw [← hU]; simp only [put_obj,if_true]
  have hg : Grow ⟨t.next+1+1,U.obj⟩ v 2 (((vparts s).take n).map Part.cs):=by
   refine h5.mono (by show t.next≤t.next+1+1; omega) fun id hv hid => ?_
   have:=h6 _ _ hv
   exact hUo id hid (by omega)
  have hl0 : (((vparts s).take n).map Part.cs).length=n:=by rw [List.length_map,List.length_take]; omega
  have hap:=app_grow (nid:=t.next+1) (e:=[IV.int .u8 ↑(vparts s)[n].kind,IV.str (vparts s)[n].s]) hg (part_all _) ⟨rfl,rfl⟩ (by rw [hl0]; omega)
  have k1:=killv_obj hg σ.next (.cells [v]) (by show U.obj _=_; rw [hUo _ h4 e3]; exact h3) (fun _ h => by cases h)
  have k2 : (killv v ⟨t.next+1+1,U.obj⟩).obj (σ.next+1)=some (L .busy none):=by
   cases hv : v <;> try exact hUL
   rename_i id o n' e
   show (if σ.next+1=id then none else U.obj _)=_
   rcases h5 with ⟨h,_⟩ | ⟨id',h,_,_⟩
   ·rw [h] at hv; cases hv
   ·rw [hv] at h; cases h
    have:=h6 _ _ hv
    rw [if_neg (by omega)]; exact hUL
  have k3 : ∀ i,i < σ.next→(killv v ⟨t.next+1+1,U.obj⟩).obj i=σ.obj i:=fun i hi => by
   have e7 : U.obj i=σ.obj i:=by rw [hUo i (by omega) (by omega)]; exact h2 i hi
   cases hv : v <;> try exact e7
   rename_i id o n' e
   show (if i=id then none else U.obj _)=_
   rcases h5 with ⟨h,_⟩ | ⟨id',h,_,_⟩
   ·rw [h] at hv; cases hv
   ·rw [hv] at h; cases h
    have:=h6 _ _ hv
    rw [if_neg (by omega)]; exact e7
  have kn:=killv_next (σ:=⟨t.next+1+1,U.obj⟩) v
  rw [hl0] at hap
  have e6 : ¬ σ.next=t.next+1:=by omega
  have e7 : ¬ σ.next+1=t.next+1:=by omega
  have e8 : ¬ σ.next+1=σ.next:=by omega
  simp only [go_sem,hap,e6,k1,e7,e8,k2]
  refine goQ_t (by rw [put_next,put_next,put_next,kn]; show t.next≤t.next+1+1; omega) (by simp only [put_obj,if_true]) ?_
  refine ⟨n+1,.slice (t.next+1) 0 (n+1) 2,hn,hrest,fun i hi => ?_,?_,?_,?_,fun id k h => ?_⟩
  ·have g1 : ¬ i=σ.next+1:=by omega
   have g2 : ¬ i=σ.next:=by omega
   have g3 : ¬ i=t.next+1:=by omega
   simp only [put_obj,g1,g2,g3,if_false]; exact k3 i hi
  ·simp only [put_obj,e3,if_false,if_true]
  ·simp only [put_next,kn]; omega
  ·have htk : (vparts s).take (n+1)=(vparts s).take n ++ [(vparts s)[n]]:=by rw [List.take_succ_eq_append_getElem hn]
   rw [htk,List.map_append]
   refine .inr ⟨t.next+1,by simp; omega,?_,by simp only [put_next,kn]; omega⟩
   have g1 : ¬ t.next+1=σ.next+1:=by omega
   have g2 : ¬ t.next+1=σ.next:=by omega
   simp only [put_obj,g1,g2,if_false,if_true]; rfl
  ·cases h; omega
 ·rintro t o ⟨n,v,h0,h1,h2,h3,h4,h5,h6⟩ hlt ho
  have hn : n=(vparts s).length:=by
   rcases Nat.lt_or_ge n (vparts s).length with h | h
   ·rw [List.drop_eq_getElem_cons h] at h1; cases h1
   ·omega
  subst hn
  have e3 : ¬ σ.next=σ.next+1:=by omega
  simp only [put_next] at hlt ho ⊢
  simp only [go_sem,e3,h3]
  rw [List.take_length] at h5
  refine ⟨fun i hi => ?_,by omega,h5.mono (Nat.le_refl _) fun id hv hid => ?_,fun id k h => ?_⟩
  ·have g1 : ¬ i=σ.next+1:=by omega
   rw [if_neg g1]; exact h2 i hi
  ·have:=h6 _ _ hv
   have g1 : ¬ id=σ.next+1:=by omega
   show (if id=σ.next+1 then none else t.obj id)=_
   rw [if_neg g1]
  ·have:=h6 _ _ h; omega
theorem tw_len {p : UInt8→Bool} (l : Str) : (l.takeWhile p).length≤l.length:=(List.takeWhile_sublist _).length_le
theorem partsF_s : ∀ (n : Nat) (l : Str),l.length≤n→∀ p∈partsF n l,p.s.length≤l.length:=by
 intro n
 induction n with
 | zero => intro l h p hp; simp [partsF] at hp
 | succ n ih =>
  intro l h p hp
  cases l with
  | nil => simp [partsF] at hp
  | cons b l =>
   simp only [List.length_cons] at h
   simp only [partsF] at hp
   split at hp
   ·exact Nat.le_trans (ih l (by omega) p hp) (by simp)
   ·split at hp
    ·rcases List.mem_cons.1 hp with rfl | hp
     ·simp
     ·exact Nat.le_trans (ih l (by omega) p hp) (by simp)
    ·have hd : ((b :: l).dropWhile fun c => vkind c == vkind b).length≤l.length:=by
      rw [List.dropWhile_cons,if_pos (by simp)]; exact drop_len l
     rcases List.mem_cons.1 hp with rfl | hp
     ·simp only
      split
      ·exact Nat.le_trans (drop_len _) (tw_len _)
      ·exact tw_len _
     ·exact Nat.le_trans (ih _ (Nat.le_trans hd (by omega)) p hp) (Nat.le_trans hd (by simp))
theorem vparts_s (s : Str) : ∀ p∈vparts s,p.s.length≤s.length:=partsF_s _ _ (Nat.le_refl _)
def endP : Part:=⟨2,[]⟩
abbrev vL (s : Str) : List Part:=vparts s ++ [endP]
theorem vL_s (s : Str) : ∀ p∈vL s,p.s.length≤s.length:=fun p hp => by
 rcases List.mem_append.1 hp with h | h
 ·exact vparts_s s p h
 ·simp [endP] at h; subst h; exact Nat.zero_le _
theorem partsCmp_drop {xs ys : List Part} {i : Nat} (h1 : i < xs.length) (h2 : i < ys.length) : partsCmp (xs.drop i) (ys.drop i)=if partCmp xs[i] ys[i]≠0 then partCmp xs[i] ys[i] else partsCmp (xs.drop (i+1)) (ys.drop (i+1)):=by
 rw [List.drop_eq_getElem_cons h1,List.drop_eq_getElem_cons h2,partsCmp]
theorem partsCmp_end {xs ys : List Part} {i : Nat} (h : xs.length≤i ∨ ys.length≤i) : partsCmp (xs.drop i) (ys.drop i)=0:=by
 rcases h with h | h
 ·rw [List.drop_of_length_le h,partsCmp]; intros; contradiction
 ·rw [List.drop_of_length_le h]; cases xs.drop i <;> rw [partsCmp] <;> intros <;> contradiction
theorem getD_cs (l : List Part) (i : Nat) (h : i < l.length) : (l.map Part.cs).getD i []=Part.cs l[i]:=by simp [List.getD_eq_getElem?_getD,h]
theorem rowLoad {σ : Store} {id i : Nat} {l : List Part} (ho : σ.obj id=some (.row (l.map Part.cs).flatten)) (h : i < l.length) : loadO (some 2) (i * 2) (σ.obj id)=some (.agg (Part.cs l[i])):=by
 have hall : ∀ e∈l.map Part.cs,e.length=2:=fun e he => (part_all l e he).1
 have hlen:=flat_len hall
 rw [List.length_map] at hlen
 have hp:=flat_part hall i (by rw [List.length_map]; exact h)
 rw [ho]
 simp only [loadO]
 have h1 : i * 2+2≤l.length * 2:=by omega
 rw [if_pos (by rw [List.length_drop,hlen]; omega),hp,getD_cs l i h]
theorem verCompare_pc (a b : Str) (ha : a.length < 2 ^ 30) (hb : b.length < 2 ^ 30) : PC Tryz.prog EE 167 [.str a,.str b] (.int .i64 (verCmp a b)):=by
 refine PC_e hE fok167 (Nat.le_of_ble_eq_true rfl) (two_mem (.str _) (.str _)) ?_
 have la:=vparts_len a
 have lb:=vparts_len b
 simp only [ic167,go_sem]
 refine call_c fok235 (verParts_c a ha _) ?_
 rintro v1 s1 ⟨-,n1,g1,-⟩
 refine ⟨n1,?_⟩
 have n1 : 2≤s1.next:=n1
 have ap1:=app_grow (nid:=0) (e:=[IV.int .u8 2,IV.str []]) g1 (part_all _) ⟨rfl,rfl⟩ (by rw [List.length_map]; omega)
 simp only [go_sem,ap1]
 have hl1 : ∀ e∈(vL a).map Part.cs,e.length=2:=fun e he => (part_all _ e he).1
 have r1 : ((vparts a).map Part.cs ++ [[IV.int .u8 2,IV.str []]]).flatten=((vL a).map Part.cs).flatten:=by rw [List.map_append]; rfl
 have r2 : ((vparts b).map Part.cs ++ [[IV.int .u8 2,IV.str []]]).flatten=((vL b).map Part.cs).flatten:=by rw [List.map_append]; rfl
 rw [r1]
 refine call_c fok235 (verParts_c b hb _) ?_
 rintro v2 s2 ⟨o2,n2,g2,h2⟩
 refine ⟨n2,?_⟩
 have n2 : 2≤s2.next:=by rw [put_next,killv_next] at n2; omega
 have ap2:=app_grow (nid:=1) (e:=[IV.int .u8 2,IV.str []]) g2 (part_all _) ⟨rfl,rfl⟩ (by rw [List.length_map]; omega)
 have q0 : s2.obj 0=some (.row ((vL a).map Part.cs).flatten):=by
  rw [o2 0 (by rw [put_next,killv_next]; omega)]
  simp only [put_obj,if_true]
 have q1 : (killv v2 s2).obj 0=some (.row ((vL a).map Part.cs).flatten):=by
  rcases g2 with ⟨rfl,_⟩ | ⟨id,rfl,_,_⟩
  ·exact q0
  ·have:=h2 _ _ rfl
   rw [put_next,killv_next] at this
   show (if 0=id then none else s2.obj 0)=_
   rw [if_neg (by omega)]; exact q0
 rw [r2] at ap2
 simp only [go_sem,ap2]
 generalize hS : (killv v2 s2).put 1 (.row ((vL b).map Part.cs).flatten)=S
 have k0 : S.obj 0=some (.row ((vL a).map Part.cs).flatten):=by rw [← hS]; exact q1
 have k1 : S.obj 1=some (.row ((vL b).map Part.cs).flatten):=by rw [← hS]; simp only [put_obj,if_true]
 clear hS ap1 ap2
 have hmin : (if ((vparts b).length+1 : Nat) < (((vparts a).length+1 : Nat) : Int) then (((vparts b).length+1 : Nat) : Int) else (((vparts a).length+1 : Nat) : Int))=((min (vL a).length (vL b).length : Nat) : Int):=by
  simp only [List.length_append,List.length_cons,List.length_nil]
  split <;> omega
 rw [hmin]
 have hA : (vparts a).length+1=(vL a).length:=by simp
 have hB : (vparts b).length+1=(vL b).length:=by simp
 rw [hA,hB]
 have hNa : min (vL a).length (vL b).length≤(vL a).length:=Nat.min_le_left _ _
 have hNb : min (vL a).length (vL b).length≤(vL b).length:=Nat.min_le_right _ _
 have hN : (vL a).length≤min (vL a).length (vL b).length ∨ (vL b).length≤min (vL a).length (vL b).length:=by omega
 have hsm : min (vL a).length (vL b).length < 2 ^ 40:=by rw [← hA] at hNa; omega
 generalize min (vL a).length (vL b).length=N at *
 refine loop_up noT (fun i fr s => fr=[(5,.slice 0 0 (vL a).length 2),(6,.slice 1 0 (vL b).length 2),(23,.int .i64 N),(24,.int .i64 i)]∧s.obj=S.obj∧verCmp a b=partsCmp ((vL a).drop i) ((vL b).drop i)) N ⟨rfl,rfl,rfl⟩ ?_
 rintro i fr s hle ⟨rfl,hs,hI⟩
 by_cases hlt : i < N
 ·have c1 : (i : Int) < N:=by omega
  have c2 : (0 : Int)≤i:=by omega
  have ia : i < (vL a).length:=by omega
  have ib : i < (vL b).length:=by omega
  have c3 : (i : Int) < (vL a).length:=by omega
  have c4 : (i : Int) < (vL b).length:=by omega
  have w1:=wrapS (i:=i) (by omega)
  have l0:=rowLoad k0 ia
  have l1:=rowLoad k1 ib
  rw [partsCmp_drop ia ib] at hI
  have hp:=partCmp_pc (vL a)[i] (vL b)[i] (by have:=vL_s a _ (List.getElem_mem ia); omega) (by have:=vL_s b _ (List.getElem_mem ib); omega)
  generalize (vL a)[i]=x at *
  generalize (vL b)[i]=y at *
  simp only [go_sem,c1,c2,c3,c4,hs,l0,l1]
  refine call_pc fok236 hp ?_
  by_cases hz : partCmp x y=0
  ·simp only [go_sem,hz,w1]
   rw [hz,if_neg (by simp)] at hI
   exact ⟨hlt,hI⟩
  ·rw [if_pos hz] at hI
   simp only [go_sem,hz]
   rw [hI]; exact frz_int _ _
 ·have hi' : i=N:=by omega
  subst hi'
  have c1 : ¬ (i : Int) < i:=by omega
  rw [partsCmp_end hN] at hI
  simp only [go_sem,c1]
  rw [hI]; exact frz_int _ _
end Go.Id.Tryz
/- EVRs and ranges compared; who provides what. Conditions: sizes that fit. -/
namespace Go.Id.Tryz
open Go Go.Id Go.Proofs Go.Id.Md
set_option maxRecDepth 100000
theorem evrCl1_pc (a b : EVR) : PC Tryz.prog EE 165 [.tptr a.cs,.tptr b.cs] (.int .i64 (cmpI a.epoch b.epoch)):=by
 refine PC_f fok165 (Nat.le_of_ble_eq_true rfl) fun σ => ?_
 simp only [ic165,go_sem,EVR.cs]
 refine call_pc fok126 (cmpI_pc _ _) ?_
 simp only [go_sem,and_self]
theorem evrCl2_pc (a b : EVR) (h1 : a.ver.length < 2 ^ 30) (h2 : b.ver.length < 2 ^ 30) : PC Tryz.prog EE 166 [.tptr a.cs,.tptr b.cs] (.int .i64 (verCmp a.ver b.ver)):=by
 refine PC_f fok166 (Nat.le_of_ble_eq_true rfl) fun σ => ?_
 simp only [ic166,go_sem,EVR.cs]
 refine call_pc fok167 (verCompare_pc _ _ h1 h2) ?_
 simp only [go_sem,and_self]
theorem evrCl3_pc (a b : EVR) (h1 : a.rel.length < 2 ^ 30) (h2 : b.rel.length < 2 ^ 30) : PC Tryz.prog EE 168 [.tptr a.cs,.tptr b.cs] (.int .i64 (if a.rel=[] ∨ b.rel=[] then 0 else verCmp a.rel b.rel)):=by
 refine PC_f fok168 (Nat.le_of_ble_eq_true rfl) fun σ => ?_
 by_cases e1 : a.rel=[]
 ·simp only [ic168,go_sem,EVR.cs,e1,true_or,and_self]
 ·by_cases e2 : b.rel=[]
  ·simp only [ic168,go_sem,EVR.cs,e1,e2,or_true,and_self]
  ·simp only [ic168,go_sem,EVR.cs,e1,e2,or_self]
   refine call_pc fok167 (verCompare_pc _ _ h1 h2) ?_
   simp only [go_sem,and_self]
def fnC (f : Nat × List IV) : List IV:=[.func (.func f.1) [] f.2]
theorem evrFirst_pc (fs : List (Nat × List IV)) (vals : List Int) (hl : fs.length=vals.length) (hn : fs.length < 2 ^ 40) (hb : ∀ f∈fs,∀ c∈f.2,Bnd 0 c)
  (h : ∀ i (h1 : i < fs.length) (h2 : i < vals.length),okF Tryz.prog fs[i].1=true∧PC Tryz.prog EE fs[i].1 fs[i].2 (.int .i64 vals[i])) : PC Tryz.prog EE 164 [.tslice (fs.map fnC)] (.int .i64 (orM vals)):=by
 refine PC_e hE fok164 (Nat.le_of_ble_eq_true rfl) (one_mem (.tslice _ fun e he c hc => ?_)) ?_
 ·obtain ⟨f,hf,rfl⟩:=List.mem_map.1 he
  cases hc with
  | head => exact .func _ _ _ (fun c hc => by cases hc) (hb f hf)
  | tail _ h => cases h
 simp only [ic164,go_sem]
 refine loop_up noT (fun i fr s => fr=[(6,.tslice (fs.map fnC)),(7,.int .i64 fs.length),(8,.int .i64 i)]∧orM vals=orM (vals.drop i)) fs.length ⟨rfl,rfl⟩ ?_
 rintro i fr s hle ⟨rfl,hI⟩
 by_cases hlt : i < fs.length
 ·obtain ⟨f,hf,hget0,hdr,hget,htk⟩:=at_nth fs i hlt
  have hlt2 : i < vals.length:=by omega
  have c1 : (i : Int) < fs.length:=by omega
  have c2 : (0 : Int)≤i:=by omega
  have w1:=wrapS (i:=i) (by omega)
  obtain ⟨k1,k2⟩:=h i hlt hlt2
  have hfi : fs[i]=f:=by
   have:=List.getElem?_eq_getElem hlt; rw [this] at hget0; exact Option.some.inj hget0
  rw [hfi] at k1 k2
  rw [List.drop_eq_getElem_cons hlt2,orM] at hI
  generalize vals[i]=x at *
  simp only [go_sem,c1,c2,hget,fnC]
  refine call_ok k1 k2 ?_
  by_cases hx : x=0
  ·subst hx
   simp only [go_sem,w1]
   exact ⟨hlt,by simpa using hI⟩
  ·rw [if_neg hx] at hI
   simp only [go_sem,hx]
   rw [hI]; exact frz_int _ _
 ·have hi' : i=fs.length:=by omega
  subst hi'
  have c1 : ¬ (fs.length : Int) < fs.length:=by omega
  rw [hl,List.drop_length,orM] at hI
  simp only [go_sem,c1]
  rw [hI]; exact frz_int _ _
theorem bnd_evrT (a : EVR) : Bnd 0 (.tptr a.cs):=.tptr _ fun c hc => by
 simp only [EVR.cs,List.mem_cons,List.not_mem_nil,or_false] at hc
 rcases hc with rfl | rfl | rfl
 ·exact .int _ _
 ·exact .str _
 ·exact .str _
theorem bnd_evrA (a : EVR) : Bnd 0 (.agg a.cs):=.agg _ fun c hc => by
 simp only [EVR.cs,List.mem_cons,List.not_mem_nil,or_false] at hc
 rcases hc with rfl | rfl | rfl
 ·exact .int _ _
 ·exact .str _
 ·exact .str _
def EVR.small (e : EVR) : Prop:=e.ver.length < 2 ^ 30∧e.rel.length < 2 ^ 30
theorem evrCompare_pc (a b : EVR) (ha : EVR.small a) (hb : EVR.small b) : PC Tryz.prog EE 106 [.agg a.cs,.agg b.cs] (.int .i64 (evrCmp a b)):=by
 refine PC_e hE fok106 (Nat.le_of_ble_eq_true rfl) (two_mem (bnd_evrA a) (bnd_evrA b)) ?_
 have hv : evrCmp a b=orM [cmpI a.epoch b.epoch,verCmp a.ver b.ver,if a.rel=[] ∨ b.rel=[] then 0 else verCmp a.rel b.rel]:=by
  rw [orM3]; unfold evrCmp
  split
  ·rfl
  ·split
   ·rfl
   ·rfl
 have hf:=evrFirst_pc [(165,[.tptr a.cs,.tptr b.cs]),(166,[.tptr a.cs,.tptr b.cs]),(168,[.tptr a.cs,.tptr b.cs])] [cmpI a.epoch b.epoch,verCmp a.ver b.ver,if a.rel=[] ∨ b.rel=[] then 0 else verCmp a.rel b.rel] rfl (by simp)
  (fun f hf c hc => by
   simp only [List.mem_cons,List.not_mem_nil,or_false] at hf
   rcases hf with rfl | rfl | rfl <;> exact two_mem (bnd_evrT a) (bnd_evrT b) c hc)
  (fun i h1 h2 => by
   match i,h1 with
   | 0,_ => exact ⟨fok165.1,evrCl1_pc a b⟩
   | 1,_ => exact ⟨fok166.1,evrCl2_pc a b ha.1 hb.1⟩
   | 2,_ => exact ⟨fok168.1,evrCl3_pc a b ha.2 hb.2⟩
   | i+3,h => simp at h; omega)
 rw [← hv] at hf
 have ea : (IV.agg a.cs).cs.all IV.leaf=true:=rfl
 have eb : (IV.agg b.cs).cs.all IV.leaf=true:=rfl
 simp only [EVR.cs] at hf ⊢
 simp only [ic106,go_sem]
 refine call_pc fok164 hf ?_
 simp only [go_sem]
 exact frz_int _ _
end Go.Id.Tryz
