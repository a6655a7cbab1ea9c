/- Indexes asked: providers,those that are named. Conditions: sizes that fit. -/
import Derived.Test.YtiallonafbejaaaGreatDoorTUQF
import Derived.Test.YtiallonafbejaaaGreatDoorFwTe
set_option linter.all false
namespace Go.Id.Tryz
open Go Go.Id Go.Proofs Go.Id.Md
set_option maxRecDepth 100000
theorem lkp_nm (nm : Nms) (σ : Store) (k : Str) : ∃ v,lkpI σ 2 .nilslice false (.tmap (nmV nm)) (.str k)=some v∧(v=.tslice ((nmLook nm k).map Md.intC) ∨ v=.nilslice∧nmLook nm k=[]):=by
 have h : ∀ nm : Nms,∃ r,lookL 2 (.str k) (nmV nm)=some r∧((∃ v,r=some v∧v=.tslice ((nmLook nm k).map Md.intC)) ∨ r=none∧nmLook nm k=[]):=by
  intro nm
  induction nm with
  | nil => exact ⟨none,rfl,.inr ⟨rfl,rfl⟩⟩
  | cons t ts ih =>
   obtain ⟨r,h1,h2⟩:=ih
   simp only [nmV,List.map_cons,lookL,e_keq2,nmLook] at h1 ⊢
   by_cases e : k=t.1
   ·simp only [e,decide_true,if_true]
    exact ⟨_,rfl,.inl ⟨_,rfl,rfl⟩⟩
   ·simp only [e,decide_false,if_false]
    exact ⟨r,h1,h2⟩
 obtain ⟨r,h1,h2⟩:=h nm
 rcases h2 with ⟨v,rfl,rfl⟩ | ⟨rfl,h3⟩
 ·refine ⟨.tslice ((nmLook nm k).map Md.intC),?_,.inl rfl⟩
  simp only [lkpI,mapAt,h1]
  rfl
 ·refine ⟨.nilslice,?_,.inr ⟨rfl,h3⟩⟩
  simp only [lkpI,mapAt,h1]
  rfl
theorem numsOf_at {q : Package→Bool} {l : List Package} {n : Int} (h : n∈numsOf q l) : ∃ m : Nat,n=m∧m < l.length:=by
 obtain ⟨m,h1,h2,_⟩:=numsOf_mem.1 h
 exact ⟨m,h1,h2⟩
theorem getD_at (l : List Package) (m : Nat) (h : m < l.length) : l.getD m default=l[m]:=by simp [List.getD_eq_getElem?_getD,h]
theorem has_pc (l : List Int) (n : Int) (hl : l.length < 2 ^ 40) : PC Tryz.prog EE 27 [.tslice (l.map Md.intC),.int .i64 n] (.bool (decide (n∈l))):=by
 refine PC_f fok27 (Nat.le_of_ble_eq_true rfl) fun σ => ?_
 simp only [ic27,go_sem]
 refine loop_up noT (fun i fr t => t=σ∧fr=[(0,.tslice (l.map Md.intC)),(1,.int .i64 n),(5,.int .i64 i)]∧(decide (n∈l))=decide (n∈l.drop i)) l.length ⟨rfl,rfl,rfl⟩ ?_
 rintro i fr t hi ⟨rfl,rfl,hf⟩
 by_cases hlt : i < l.length
 ·obtain ⟨x,ha,_,hdr,hget,_⟩:=at_nth l i hlt
  have c1 : (i : Int) < l.length:=by omega
  have c2 : (0 : Int)≤i:=by omega
  have w1:=wrapS (i:=i) (by omega)
  by_cases e : x=n
  ·have hin : n∈l:=e ▸ ha
   simp only [go_sem,c1,c2,hget,Md.intC,e,hin,decide_true,and_self]
  ·have e' : ¬ n=x:=fun h => e h.symm
   rw [hdr] at hf
   simp only [List.mem_cons,e',false_or] at hf
   simp only [go_sem,c1,c2,hget,Md.intC,e,w1]
   exact ⟨hlt,hf⟩
 ·have hi' : i=l.length:=by omega
  subst hi'
  have c1 : ¬ (l.length : Int) < l.length:=by omega
  rw [List.drop_length] at hf
  simp only [List.not_mem_nil,decide_false] at hf
  simp only [go_sem,c1,hf,and_self]
end Go.Id.Tryz
