/- Versions' parts,in plain words. Conditions: none; no program in sight. -/
import Derived.Test.YtiallonafbejaaaGreatDoorMd
set_option linter.all false
namespace Go.Id.Md
open Go Go.Id
theorem drop_len {p : UInt8→Bool} (l : Str) : (l.dropWhile p).length≤l.length:=by
 induction l with
 | nil => exact Nat.le_refl _
 | cons a l ih =>
  rw [List.dropWhile_cons]
  split
  ·exact Nat.le_trans ih (Nat.le_succ _)
  ·exact Nat.le_refl _
theorem partsF_fuel : ∀ (n m : Nat) (l : Str),l.length≤n→l.length≤m→partsF n l=partsF m l:=by
 intro n
 induction n with
 | zero =>
  intro m l h1 _
  have : l=[]:=List.length_eq_zero_iff.1 (Nat.le_zero.1 h1)
  subst this
  cases m <;> rfl
 | succ n ih =>
  intro m l h1 h2
  cases l with
  | nil => cases m <;> rfl
  | cons b l =>
   cases m with
   | zero => simp at h2
   | succ m =>
    simp only [List.length_cons] at h1 h2
    have hd : vkind b=vkind b→((b :: l).dropWhile fun c => vkind c == vkind b).length≤l.length:=fun _ => by
     rw [List.dropWhile_cons,if_pos (by simp)]
     exact drop_len l
    have hd:=hd rfl
    simp only [partsF]
    rw [ih m l (by omega) (by omega),ih m _ (Nat.le_trans hd (by omega)) (Nat.le_trans hd (by omega))]
def runL (b : UInt8) (l : Str) : Nat:=(l.takeWhile fun c => vkind c == vkind b).length
theorem vparts_0 {b : UInt8} {l : Str} (h : vkind b=0) : vparts (b :: l)=vparts l:=by
 unfold vparts
 simp only [List.length_cons,partsF,h,if_true]
theorem vparts_1 {b : UInt8} {l : Str} (h : vkind b≠0) (h4 : vkind b < 4) : vparts (b :: l)=⟨vkind b,[]⟩ :: vparts l:=by
 unfold vparts
 simp only [List.length_cons,partsF,h,h4,if_true,if_false]
theorem take_run (p : UInt8→Bool) (l : Str) : l.takeWhile p=l.take (l.takeWhile p).length∧l.dropWhile p=l.drop (l.takeWhile p).length:=by
 induction l with
 | nil => exact ⟨rfl,rfl⟩
 | cons a l ih =>
  rw [List.takeWhile_cons,List.dropWhile_cons]
  cases h : p a with
  | true =>
   simp only [if_true,List.length_cons,List.take_succ_cons,List.drop_succ_cons]
   exact ⟨by rw [← ih.1],ih.2⟩
  | false => simp
theorem vparts_4 {b : UInt8} {l : Str} (h4 : ¬ vkind b < 4) : vparts (b :: l)=⟨vkind b,if vkind b=5 then ((b :: l).take (runL b l+1)).dropWhile (· == 48) else (b :: l).take (runL b l+1)⟩ :: vparts (l.drop (runL b l)):=by
 have h0 : vkind b≠0:=by omega
 unfold vparts
 simp only [List.length_cons,partsF,h0,h4,if_false]
 have e1 : (b :: l).takeWhile (fun c => vkind c == vkind b)=(b :: l).take (runL b l+1):=by
  rw [List.takeWhile_cons,if_pos (by simp),List.take_succ_cons,(take_run (fun c => vkind c == vkind b) l).1]
  unfold runL; rw [← (take_run (fun c => vkind c == vkind b) l).1]
 have e2 : (b :: l).dropWhile (fun c => vkind c == vkind b)=l.drop (runL b l):=by
  rw [List.dropWhile_cons,if_pos (by simp)]
  exact (take_run (fun c => vkind c == vkind b) l).2
 rw [e1,e2,partsF_fuel l.length (l.drop (runL b l)).length _ (by rw [List.length_drop]; omega) (Nat.le_refl _)]
theorem tw_lt {p : UInt8→Bool} : ∀ (l : Str) (m : Nat),m < (l.takeWhile p).length→∃ c,l[m]? = some c∧p c=true:=by
 intro l
 induction l with
 | nil => intro m h; simp at h
 | cons a l ih =>
  intro m h
  rw [List.takeWhile_cons] at h
  cases hp : p a with
  | false => rw [hp] at h; simp at h
  | true =>
   rw [hp] at h
   cases m with
   | zero => exact ⟨a,rfl,hp⟩
   | succ m => exact ih m (by simpa using h)
theorem tw_eq {p : UInt8→Bool} : ∀ (l : Str) (c : UInt8),l[(l.takeWhile p).length]? = some c→p c=false:=by
 intro l
 induction l with
 | nil => intro c h; simp at h
 | cons a l ih =>
  intro c h
  rw [List.takeWhile_cons] at h
  cases hp : p a with
  | false => rw [hp] at h; simp at h; rw [← h]; exact hp
  | true => rw [hp] at h; exact ih c (by simpa using h)
theorem run_lt {b : UInt8} {l : Str} {m : Nat} (h : m < runL b l) : ∃ c,l[m]? = some c∧vkind c=vkind b:=by
 obtain ⟨c,h1,h2⟩:=tw_lt l m h
 exact ⟨c,h1,by simpa using h2⟩
theorem run_eq {b : UInt8} {l : Str} {c : UInt8} (h : l[runL b l]? = some c) : vkind c≠vkind b:=by
 have:=tw_eq l c h
 simpa using this
theorem run_le (b : UInt8) (l : Str) : runL b l≤l.length:=(List.takeWhile_sublist _).length_le
end Go.Id.Md
