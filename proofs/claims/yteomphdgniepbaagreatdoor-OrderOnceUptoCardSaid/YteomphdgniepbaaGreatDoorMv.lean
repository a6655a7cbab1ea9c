/- All ways,as they are found: pass by pass. Conditions: none; no program in sight. -/
import Derived.Test.YteomphdgniepbaaGreatDoorMg
set_option linter.all false
namespace Go.Id.Md
open Go Go.Id
section
variable {R:Int→Int→Bool} {L:List Int} {g g0 g1:Int→Nat}
def bs2 (R:Int→Int→Bool)(n:Int)(l:List Int)(s:Nat):Nat:=l.foldl (fun s m=>if R n m then s ||| 2^m.toNat else s) s
def ap7 (R:Int→Int→Bool)(L:List Int)(n:Int):Nat:=bs2 R n L 0
theorem ev1 (n:Int)(l:List Int)(m:Int)(s:Nat):bs2 R n (l++[m]) s=if R n m then bs2 R n l s ||| 2^m.toNat else bs2 R n l s:=by
 unfold bs2; rw[List.foldl_append]; rfl
theorem cn3 (n:Int):∀ (l:List Int) (s k:Nat),(bs2 R n l s).testBit k=(s.testBit k||l.any fun m=>R n m&&decide (m.toNat=k)):=by
 intro l
 induction l with
 | nil=>intro s k; simp[bs2]
 | cons a l ih=>
  intro s k;have e:bs2 R n (a::l) s=bs2 R n l (if R n a then s ||| 2^a.toNat else s):=rfl;rw[e,ih,List.any_cons]
  cases hr:R n a with
  | true=>
   simp only[if_true,Nat.testBit_or,Nat.testBit_two_pow,Bool.true_and,Bool.or_assoc]
  | false=>simp
theorem go9 (hp:∀ n∈L,0≤n∧n<256):Reach R L (ap7 R L) where
 pos:=hp
 once:=fun n hn m hm h=>by
  unfold ap7;rw[cn3,Bool.or_eq_true];exact .inr (List.any_eq_true.2 ⟨m,hm,by rw[h]; simp⟩)
 way:=fun n hn k h=>by
  unfold ap7 at h;rw[cn3,Nat.zero_testBit,Bool.false_or,List.any_eq_true] at h;obtain ⟨m,hm,h⟩:=h;simp only[Bool.and_eq_true,decide_eq_true_eq] at h;have e:(k:Int)=m:=by have:=(hp m hm).1; omega
  rw[e];exact .once hn hm h.1
theorem fl7 (hp:∀ n∈L,0≤n∧n<256)(n:Int){m:Int}(hm:m∈L):(ap7 R L n).testBit m.toNat=R n m:=by
 unfold ap7;rw[cn3,Nat.zero_testBit,Bool.false_or,Bool.eq_iff_iff,List.any_eq_true];constructor
 ·rintro ⟨x,hx,h⟩;simp only[Bool.and_eq_true,decide_eq_true_eq] at h;have e:x=m:=by have:=(hp m hm).1; have:=(hp x hx).1; omega
  rw[← e]; exact h.1
 ·intro h; exact ⟨m,hm,by rw[h]; simp⟩
/-! ### Passes -/
def stepG (L:List Int)(g:Int→Nat)(n:Int):Int→Nat:=ce3 g n (al1 g L (g n))
def cn4 (L:List Int)(g:Int→Nat)(l:List Int):Int→Nat:=l.foldl (stepG L) g
def ev2 (L:List Int)(g:Int→Nat):Nat→Int→Nat
 | 0=>g
 | k+1=>cn4 L (ev2 L g k) L
def ch9 (R:Int→Int→Bool)(L:List Int):Int→Nat:=ev2 L (ap7 R L) (av3 L (ap7 R L) L+1)
theorem dp6 (g:Int→Nat)(n:Int):ce3 g n (g n)=g:=by
 funext x; unfold ce3; split
 ·rename_i h; rw[h]
 ·rfl
theorem da9 (g:Int→Nat)(l:List Int)(n:Int):cn4 L g (l++[n])=stepG L (cn4 L g l) n:=by
 unfold cn4; rw[List.foldl_append]; rfl
structure cf7 (R:Int→Int→Bool) (L:List Int) (g0 g:Int→Nat) (done:List Int) (again:Bool):Prop where
 is:g=cn4 L g0 done
 reach:Reach R L g
 no:again=false→g=g0∧∀ n∈done,al1 g0 L (g0 n)=g0 n
 yes:again=true→av3 L g L<av3 L g0 L
theorem cf7.init (h:Reach R L g0):cf7 R L g0 g0 [] false:=⟨rfl,h,fun _=>⟨rfl,fun _ h=>by cases h⟩,fun h=>by cases h⟩
theorem cf7.eq {done:List Int}{again:Bool}(h:cf7 R L g0 g done again){n:Int}(he:al1 g L (g n)=g n):cf7 R L g0 g (done++[n]) again where
 is:=by rw[da9,← h.is]; unfold stepG; rw[he,dp6]
 reach:=h.reach
 no:=fun ha=>by
  obtain ⟨h1,h2⟩:=h.no ha;refine ⟨h1,fun m hm=>?_⟩;rcases List.mem_append.1 hm with hm|hm
  ·exact h2 m hm
  ·rw[List.mem_singleton] at hm; subst hm; rw[h1] at he; exact he
 yes:=h.yes
theorem cf7.ne {done:List Int}{again:Bool}(h:cf7 R L g0 g done again)(hd:L.Nodup){n:Int}(hn:n∈L)(he:al1 g L (g n)≠g n):cf7 R L g0 (ce3 g n (al1 g L (g n))) (done++[n]) true where
 is:=by rw[da9,← h.is]; rfl
 reach:=h.reach.upd hn
 no:=fun ha=>by cases ha
 yes:=fun _=>by
  have h1:=dy4 (L:=L) (g:=g) (s:=al1 g L (g n)) hd hn;have h2:=gd9 h.reach hn he
  cases hb:again with
  | true=>have:=h.yes hb; omega
  | false=>have:=(h.no hb).1; rw[this] at h1 h2 ⊢; omega
theorem ge2 (h:Reach R L g0)(hd:L.Nodup):∀ k,k≤L.length→∃ again,cf7 R L g0 (cn4 L g0 (L.take k)) (L.take k) again:=by
 intro k
 induction k with
 | zero=>exact fun _=>⟨false,.init h⟩
 | succ k ih=>
  intro hl;obtain ⟨again,hp⟩:=ih (by omega);have ht:L.take (k+1)=L.take k++[L[k]]:=by rw[List.take_add_one,List.getElem?_eq_getElem (by omega)]; rfl
  rw[ht];by_cases he:al1 (cn4 L g0 (L.take k)) L (cn4 L g0 (L.take k) L[k])=cn4 L g0 (L.take k) L[k]
  ·have:=hp.eq he;rw[← this.is]; exact ⟨_,this⟩
  ·have:=hp.ne hd (List.getElem_mem (by omega)) he;rw[← this.is]; exact ⟨_,this⟩
structure ev3 (R:Int→Int→Bool) (L:List Int) (g1:Int→Nat) (i:Nat) (g:Int→Nat) (again:Bool):Prop where
 is:g=ev2 L g1 i
 reach:Reach R L g
 yes:again=true→av3 L g L+i≤av3 L g1 L
 no:again=false→∀ n∈L,al1 g L (g n)=g n
theorem ev3.init (h:Reach R L g1):ev3 R L g1 0 g1 true:=⟨rfl,h,fun _=>Nat.le_refl _,fun h=>by cases h⟩
theorem ev3.next {i:Nat}{g':Int→Nat}{again:Bool}(h:ev3 R L g1 i g true)(hp:cf7 R L g g' L again):ev3 R L g1 (i+1) g' again where
 is:=by rw[hp.is,h.is]; rfl
 reach:=hp.reach
 yes:=fun ha=>by have:=hp.yes ha; have:=h.yes rfl; omega
 no:=fun ha=>by obtain ⟨h1,h2⟩:=hp.no ha; rw[h1]; exact h2
theorem ev4 (h:∀ n∈L,al1 g L (g n)=g n):∀ l:List Int,(∀ x∈l,x∈L)→cn4 L g l=g:=by
 intro l
 induction l with
 | nil=>intro _; rfl
 | cons a l ih=>
  intro hl;have e:stepG L g a=g:=by unfold stepG; rw[h a (hl a (by simp)),dp6]
  show (l.foldl (stepG L) (stepG L g a))=g;rw[e]; exact ih fun x hx=>hl x (List.mem_cons_of_mem _ hx)
theorem ev3.stay {i:Nat}(h:ev3 R L g1 i g false):∀ k,i≤k→ev2 L g1 k=g:=by
 intro k hk
 induction k with
 | zero=>
  have:i=0:=by omega
  subst this; exact h.is.symm
 | succ k ih=>
  by_cases e:i=k+1
  ·subst e; exact h.is.symm
  ·show cn4 L (ev2 L g1 k) L=g;rw[ih (by omega)];exact ev4 (h.no rfl) L fun _ h=>h
theorem ev3.lim {i:Nat}(h:ev3 R L (ap7 R L) i g false)(hi:i≤av3 L (ap7 R L) L+1):g=ch9 R L:=(h.stay _ hi).symm
theorem ge3 (h:Reach R L g1)(hd:L.Nodup):∀ k,(∃ i,i≤k∧∃ g,ev3 R L g1 i g false)∨ev3 R L g1 k (ev2 L g1 k) true:=by
 intro k
 induction k with
 | zero=>exact .inr (.init h)
 | succ k ih=>
  rcases ih with ⟨i,hi,g,hg⟩|ho
  ·exact .inl ⟨i,by omega,g,hg⟩
  ·obtain ⟨again,hp⟩:=ge2 ho.reach hd L.length (Nat.le_refl _);rw[List.take_length] at hp;have:=ho.next hp
   cases again with
   | true=>exact .inr this
   | false=>exact .inl ⟨k+1,Nat.le_refl _,_,this⟩
theorem dg4 (hp:∀ n∈L,0≤n∧n<256)(hd:L.Nodup){n m:Int}(hn:n∈L)(hm:m∈L):(ch9 R L n).testBit m.toNat=dx7 R L n m:=by
 have h0:=go9 (R:=R) hp;rcases ge3 h0 hd (av3 L (ap7 R L) L+1) with ⟨i,hi,g,hg⟩|ho
 ·have e:=hg.lim hi;rw[← e];exact hg.reach.done (hg.no rfl) hn hm
 ·have:=ho.yes rfl;omega
/-! ### Entries -/
def as3 (g:Int→Nat)(l:List Int):List (IV×IV):=l.map fun n=>(.int .i64 n,.agg (ao5 (g n)))
theorem ev5 {g g':Int→Nat}{l:List Int}(h:∀ n∈l,g n=g' n):as3 g l=as3 g' l:=List.map_congr_left fun n hn=>by rw[h n hn]
theorem cc4 (a b:Int):ah9 1 (.int .i64 a) (.int .i64 b)=some (decide (a=b)):=by
 by_cases h:a=b<;>simp[ah9,ah1,h]
theorem bk9 (g:Int→Nat)(n:Int):∀ l:List Int,ar6 1 (.int .i64 n) (as3 g l)=some (if n∈l then some (.agg (ao5 (g n))) else none):=by
 intro l
 induction l with
 | nil=>rfl
 | cons a l ih=>
  show (match ah9 1 (.int .i64 n) (.int .i64 a) with|some true=>some (some (IV.agg (ao5 (g a))))|some false=>ar6 1 (.int .i64 n) (as3 g l)|none=>none)=_;rw[cc4];by_cases h:n=a
  ·subst h; simp
  ·simp[h,ih]
theorem gy2 (g:Int→Nat)(n:Int)(v:IV):∀ l:List Int,n ∉ l→cj9 1 (.int .i64 n) v (as3 g l)=some (as3 g l++[(.int .i64 n,v)]):=by
 intro l
 induction l with
 | nil=>intro _; rfl
 | cons a l ih=>
  intro h;rw[List.mem_cons,not_or] at h;have hk:=cc4 n a;rw[decide_eq_false h.1] at hk;show cj9 1 (.int .i64 n) v ((.int .i64 a,.agg (ao5 (g a)))::as3 g l)=_;simp only[cj9,hk,ih h.2];rfl
theorem gy3 (g:Int→Nat)(n:Int)(s:Nat):∀ l:List Int,l.Nodup→n∈l→cj9 1 (.int .i64 n) (.agg (ao5 s)) (as3 g l)=some (as3 (ce3 g n s) l):=by
 intro l
 induction l with
 | nil=>intro _ h; cases h
 | cons a l ih=>
  intro hd hn;rw[List.nodup_cons] at hd;show cj9 1 (.int .i64 n) (.agg (ao5 s)) ((.int .i64 a,.agg (ao5 (g a)))::as3 g l)=_;by_cases h:n=a
  ·subst h;have hk:=cc4 n n;rw[decide_eq_true rfl] at hk
   have e:as3 g l=as3 (ce3 g n s) l:=ev5 fun m hm=>by
    unfold ce3; rw[if_neg fun e=>hd.1 (by rw[← e]; exact hm)]
   have e2:ce3 g n s n=s:=by unfold ce3; rw[if_pos rfl]
   simp only[cj9,hk];rw[e];show _=some ((.int .i64 n,.agg (ao5 (ce3 g n s n)))::as3 (ce3 g n s) l);rw[e2]
  ·have hk:=cc4 n a;rw[decide_eq_false h] at hk;have e2:ce3 g n s a=g a:=by unfold ce3; rw[if_neg fun e=>h e.symm]
   simp only[cj9,hk,ih hd.2 ((List.mem_cons.1 hn).resolve_left h)];show some _=some ((.int .i64 a,.agg (ao5 (ce3 g n s a)))::as3 (ce3 g n s) l);rw[e2]
end
end Go.Id.Md
set_option linter.all false
namespace Go.Id.Md
open Go Go.Id
theorem ci1 {p:UInt8→Bool}(l:Str):(l.dropWhile p).length≤l.length:=by
 induction l with
 | nil=>exact Nat.le_refl _
 | cons a l ih=>
  rw[List.dropWhile_cons];split
  ·exact Nat.le_trans ih (Nat.le_succ _)
  ·exact Nat.le_refl _
theorem dy8:∀ (n m:Nat) (l:Str),l.length≤n→l.length≤m→ap8 n l=ap8 m l:=by
 intro n
 induction n with
 | zero=>
  intro m l h1 _;have:l=[]:=List.length_eq_zero_iff.1 (Nat.le_zero.1 h1);subst this
  cases m<;>rfl
 | succ n ih=>
  intro m l h1 h2
  cases l with
  | nil=>cases m<;>rfl
  | cons b l=>
   cases m with
   | zero=>simp at h2
   | succ m=>
    simp only[List.length_cons] at h1 h2
    have hd:ad8 b=ad8 b→((b::l).dropWhile fun c=>ad8 c==ad8 b).length≤l.length:=fun _=>by
     rw[List.dropWhile_cons,if_pos (by simp)];exact ci1 l
    have hd:=hd rfl;simp only[ap8];rw[ih m l (by omega) (by omega),ih m _ (Nat.le_trans hd (by omega)) (Nat.le_trans hd (by omega))]
def fm1 (b:UInt8)(l:Str):Nat:=(l.takeWhile fun c=>ad8 c==ad8 b).length
theorem ge7 {b:UInt8}{l:Str}(h:ad8 b=0):ae4 (b::l)=ae4 l:=by
 unfold ae4;simp only[List.length_cons,ap8,h,if_true]
theorem ge8 {b:UInt8}{l:Str}(h:ad8 b≠0)(h4:ad8 b<4):ae4 (b::l)=⟨ad8 b,[]⟩::ae4 l:=by
 unfold ae4;simp only[List.length_cons,ap8,h,h4,if_true,if_false]
theorem dg8 (p:UInt8→Bool)(l:Str):l.takeWhile p=l.take (l.takeWhile p).length∧l.dropWhile p=l.drop (l.takeWhile p).length:=by
 induction l with
 | nil=>exact ⟨rfl,rfl⟩
 | cons a l ih=>
  rw[List.takeWhile_cons,List.dropWhile_cons]
  cases h:p a with
  | true=>
   simp only[if_true,List.length_cons,List.take_succ_cons,List.drop_succ_cons]
   exact ⟨by rw[← ih.1],ih.2⟩
  | false=>simp
theorem ge9 {b:UInt8}{l:Str}(h4:¬ ad8 b<4):ae4 (b::l)=⟨ad8 b,if ad8 b=5 then ((b::l).take (fm1 b l+1)).dropWhile (· == 48) else (b::l).take (fm1 b l+1)⟩::ae4 (l.drop (fm1 b l)):=by
 have h0:ad8 b≠0:=by omega
 unfold ae4;simp only[List.length_cons,ap8,h0,h4,if_false]
 have e1:(b::l).takeWhile (fun c=>ad8 c==ad8 b)=(b::l).take (fm1 b l+1):=by
  rw[List.takeWhile_cons,if_pos (by simp),List.take_succ_cons,(dg8 (fun c=>ad8 c==ad8 b) l).1];unfold fm1; rw[← (dg8 (fun c=>ad8 c==ad8 b) l).1]
 have e2:(b::l).dropWhile (fun c=>ad8 c==ad8 b)=l.drop (fm1 b l):=by
  rw[List.dropWhile_cons,if_pos (by simp)];exact (dg8 (fun c=>ad8 c==ad8 b) l).2
 rw[e1,e2,dy8 l.length (l.drop (fm1 b l)).length _ (by rw[List.length_drop]; omega) (Nat.le_refl _)]
theorem in3 {p:UInt8→Bool}:∀ (l:Str) (m:Nat),m<(l.takeWhile p).length→∃ c,l[m]? = some c∧p c=true:=by
 intro l
 induction l with
 | nil=>intro m h; simp at h
 | cons a l ih=>
  intro m h;rw[List.takeWhile_cons] at h
  cases hp:p a with
  | false=>rw[hp] at h; simp at h
  | true=>
   rw[hp] at h
   cases m with
   | zero=>exact ⟨a,rfl,hp⟩
   | succ m=>exact ih m (by simpa using h)
theorem in4 {p:UInt8→Bool}:∀ (l:Str) (c:UInt8),l[(l.takeWhile p).length]? = some c→p c=false:=by
 intro l
 induction l with
 | nil=>intro c h; simp at h
 | cons a l ih=>
  intro c h;rw[List.takeWhile_cons] at h
  cases hp:p a with
  | false=>rw[hp] at h; simp at h; rw[← h]; exact hp
  | true=>rw[hp] at h; exact ih c (by simpa using h)
theorem hx8 {b:UInt8}{l:Str}{m:Nat}(h:m<fm1 b l):∃ c,l[m]? = some c∧ad8 c=ad8 b:=by
 obtain ⟨c,h1,h2⟩:=in3 l m h;exact ⟨c,h1,by simpa using h2⟩
theorem hx9 {b:UInt8}{l:Str}{c:UInt8}(h:l[fm1 b l]? = some c):ad8 c≠ad8 b:=by
 have:=in4 l c h
 simpa using this
theorem hy5 (b:UInt8)(l:Str):fm1 b l≤l.length:=(List.takeWhile_sublist _).length_le
end Go.Id.Md
