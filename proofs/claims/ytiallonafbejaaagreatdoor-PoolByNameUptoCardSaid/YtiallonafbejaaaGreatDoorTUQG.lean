/- Indexes asked: providers,those that are named. Conditions: sizes that fit. -/
import Derived.Test.YtiallonafbejaaaGreatDoorTUQF
import Derived.Test.YtiallonafbejaaaGreatDoorFwTe
set_option linter.all false
namespace Go.Id.Tryz
open Go Go.Id Go.Proofs Go.Id.Md
set_option maxRecDepth 100000
theorem lkp_nm (nm : Nms) (σ : Store) (k : Str) : ∃ v,lkpI σ 2 .nilslice false (.tmap (nmV nm)) (.str k)=some v∧(v=.tslice ((nmLook nm k).map Md.intC) ∨ v=.nilslice∧nmLook nm k=[]):=by
 have h : ∀ nm : Nms,∃ r,lookL 2 (.str k) (nmV nm)=some r∧((∃ v,r=some v∧v=.tslice ((nmLook nm k).map Md.intC)) ∨ r=none∧nmLook nm k=[]):=by
  intro nm
  induction nm with
  | nil => exact ⟨none,rfl,.inr ⟨rfl,rfl⟩⟩
  | cons t ts ih =>
   obtain ⟨r,h1,h2⟩:=ih
   simp only [nmV,List.map_cons,lookL,e_keq2,nmLook] at h1 ⊢
   by_cases e : k=t.1
   ·simp only [e,decide_true,if_true]
    exact ⟨_,rfl,.inl ⟨_,rfl,rfl⟩⟩
   ·simp only [e,decide_false,if_false]
    exact ⟨r,h1,h2⟩
 obtain ⟨r,h1,h2⟩:=h nm
 rcases h2 with ⟨v,rfl,rfl⟩ | ⟨rfl,h3⟩
 ·refine ⟨.tslice ((nmLook nm k).map Md.intC),?_,.inl rfl⟩
  simp only [lkpI,mapAt,h1]
  rfl
 ·refine ⟨.nilslice,?_,.inr ⟨rfl,h3⟩⟩
  simp only [lkpI,mapAt,h1]
  rfl
theorem getD_at (l : List Package) (m : Nat) (h : m < l.length) : l.getD m default=l[m]:=by simp [List.getD_eq_getElem?_getD,h]
end Go.Id.Tryz
