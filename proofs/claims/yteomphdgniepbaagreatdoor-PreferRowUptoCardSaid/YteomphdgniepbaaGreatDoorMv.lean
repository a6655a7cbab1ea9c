/- Versions' parts,in plain words. Conditions: none; no program in sight. -/
import Derived.Test.YteomphdgniepbaaGreatDoorMd
set_option linter.all false
namespace Go.Id.Md
open Go Go.Id
theorem cl2 {p:UInt8→Bool}(l:Str):(l.dropWhile p).length≤l.length:=by
 induction l with
 | nil=>exact Nat.le_refl _
 | cons a l ih=>
  rw[List.dropWhile_cons];split
  ·exact Nat.le_trans ih (Nat.le_succ _)
  ·exact Nat.le_refl _
theorem eb6:∀ (n m:Nat) (l:Str),l.length≤n→l.length≤m→aq8 n l=aq8 m l:=by
 intro n
 induction n with
 | zero=>
  intro m l h1 _;have:l=[]:=List.length_eq_zero_iff.1 (Nat.le_zero.1 h1);subst this
  cases m<;>rfl
 | succ n ih=>
  intro m l h1 h2
  cases l with
  | nil=>cases m<;>rfl
  | cons b l=>
   cases m with
   | zero=>simp at h2
   | succ m=>
    simp only[List.length_cons] at h1 h2
    have hd:ae4 b=ae4 b→((b::l).dropWhile fun c=>ae4 c==ae4 b).length≤l.length:=fun _=>by
     rw[List.dropWhile_cons,if_pos (by simp)];exact cl2 l
    have hd:=hd rfl;simp only[aq8];rw[ih m l (by omega) (by omega),ih m _ (Nat.le_trans hd (by omega)) (Nat.le_trans hd (by omega))]
def fp9 (b:UInt8)(l:Str):Nat:=(l.takeWhile fun c=>ae4 c==ae4 b).length
theorem gh6 {b:UInt8}{l:Str}(h:ae4 b=0):ae8 (b::l)=ae8 l:=by
 unfold ae8;simp only[List.length_cons,aq8,h,if_true]
theorem gh7 {b:UInt8}{l:Str}(h:ae4 b≠0)(h4:ae4 b<4):ae8 (b::l)=⟨ae4 b,[]⟩::ae8 l:=by
 unfold ae8;simp only[List.length_cons,aq8,h,h4,if_true,if_false]
theorem dh9 (p:UInt8→Bool)(l:Str):l.takeWhile p=l.take (l.takeWhile p).length∧l.dropWhile p=l.drop (l.takeWhile p).length:=by
 induction l with
 | nil=>exact ⟨rfl,rfl⟩
 | cons a l ih=>
  rw[List.takeWhile_cons,List.dropWhile_cons]
  cases h:p a with
  | true=>
   simp only[if_true,List.length_cons,List.take_succ_cons,List.drop_succ_cons]
   exact ⟨by rw[← ih.1],ih.2⟩
  | false=>simp
theorem gh8 {b:UInt8}{l:Str}(h4:¬ ae4 b<4):ae8 (b::l)=⟨ae4 b,if ae4 b=5 then ((b::l).take (fp9 b l+1)).dropWhile (· == 48) else (b::l).take (fp9 b l+1)⟩::ae8 (l.drop (fp9 b l)):=by
 have h0:ae4 b≠0:=by omega
 unfold ae8;simp only[List.length_cons,aq8,h0,h4,if_false]
 have e1:(b::l).takeWhile (fun c=>ae4 c==ae4 b)=(b::l).take (fp9 b l+1):=by
  rw[List.takeWhile_cons,if_pos (by simp),List.take_succ_cons,(dh9 (fun c=>ae4 c==ae4 b) l).1];unfold fp9; rw[← (dh9 (fun c=>ae4 c==ae4 b) l).1]
 have e2:(b::l).dropWhile (fun c=>ae4 c==ae4 b)=l.drop (fp9 b l):=by
  rw[List.dropWhile_cons,if_pos (by simp)];exact (dh9 (fun c=>ae4 c==ae4 b) l).2
 rw[e1,e2,eb6 l.length (l.drop (fp9 b l)).length _ (by rw[List.length_drop]; omega) (Nat.le_refl _)]
theorem is6 {p:UInt8→Bool}:∀ (l:Str) (m:Nat),m<(l.takeWhile p).length→∃ c,l[m]? = some c∧p c=true:=by
 intro l
 induction l with
 | nil=>intro m h; simp at h
 | cons a l ih=>
  intro m h;rw[List.takeWhile_cons] at h
  cases hp:p a with
  | false=>rw[hp] at h; simp at h
  | true=>
   rw[hp] at h
   cases m with
   | zero=>exact ⟨a,rfl,hp⟩
   | succ m=>exact ih m (by simpa using h)
theorem is7 {p:UInt8→Bool}:∀ (l:Str) (c:UInt8),l[(l.takeWhile p).length]? = some c→p c=false:=by
 intro l
 induction l with
 | nil=>intro c h; simp at h
 | cons a l ih=>
  intro c h;rw[List.takeWhile_cons] at h
  cases hp:p a with
  | false=>rw[hp] at h; simp at h; rw[← h]; exact hp
  | true=>rw[hp] at h; exact ih c (by simpa using h)
theorem ie5 {b:UInt8}{l:Str}{m:Nat}(h:m<fp9 b l):∃ c,l[m]? = some c∧ae4 c=ae4 b:=by
 obtain ⟨c,h1,h2⟩:=is6 l m h;exact ⟨c,h1,by simpa using h2⟩
theorem ie6 {b:UInt8}{l:Str}{c:UInt8}(h:l[fp9 b l]? = some c):ae4 c≠ae4 b:=by
 have:=is7 l c h
 simpa using this
theorem ie7 (b:UInt8)(l:Str):fp9 b l≤l.length:=(List.takeWhile_sublist _).length_le
end Go.Id.Md
