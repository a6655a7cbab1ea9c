/- Pools without their last package,or repository: in plain words. Conditions: none; no program in sight. -/
import Derived.Test.YtlnkchkhffkofaaGreatDoorMb
set_option linter.all false
namespace Go.Id.Md
open Go Go.Id
structure OkM (ab8:List ak8) (inst:List aa4):Prop where
 n:ab8.length≤16
 all:inst.length+ai5 ab8≤256
 inst:inst.all ah7=true
 ab8:∀ r∈ab8,0≤r.priority∧r.priority≤1024∧r.packages.all ah7=true
theorem dt5:∀ (rs:List ak8) (i:Nat) (st:List bb4×Nms),(∀ r∈rs,0≤r.priority∧r.priority≤1024∧r.packages.all ah7=true)→∃ out,ah4 i rs st=some out:=by
 intro rs
 induction rs with
 | nil=>intro i st _; exact ⟨st,rfl⟩
 | cons r rs ih=>
  intro i st h;obtain ⟨h1,h2,h3⟩:=h r List.mem_cons_self;simp only[ah4];rw[if_neg (by rw[h3]; simp; omega)];exact ih _ _ fun x hx=>h x (List.mem_cons_of_mem _ hx)
theorem OkM.new {ab8:List ak8}{inst:List aa4}(h:OkM ab8 inst):∃ p,cg5 ab8 inst=.inl p:=by
 obtain ⟨⟨rows,nm⟩,ho⟩:=dt5 ab8 0 (rowsOf inst (-1) 1025,ct4 [] 0 inst) h.ab8;unfold cg5;have:=h.n;have:=h.all;rw[if_neg (by omega),if_neg (by rw[h.inst]; simp),ho];exact ⟨_,rfl⟩
theorem fb4 (a b:List ak8):ai5 (a++b)=ai5 a+ai5 b:=by simp[ai5]
theorem OkM.last {a:List ak8}{l:ak8}{inst:List aa4}{ps:List aa4}(h:OkM (a++[l]) inst)(hp:∀ p∈ps,p∈l.packages)(hl:ps.length≤l.packages.length):OkM (a++[⟨l.priority,ps⟩]) inst where
 n:=by have:=h.n; rw[List.length_append] at this ⊢; exact this
 all:=by
  have:=h.all;rw[fb4] at this ⊢;have e:ai5 [l]=l.packages.length:=by simp[ai5]
  have e2:ai5 [⟨l.priority,ps⟩]=ps.length:=by simp[ai5]
  omega
 inst:=h.inst
 ab8:=fun r hr=>by
  rcases List.mem_append.1 hr with hr|hr
  ·exact h.ab8 r (List.mem_append_left _ hr)
  ·rw[List.mem_singleton] at hr;subst hr;obtain ⟨h1,h2,h3⟩:=h.ab8 l (by simp);exact ⟨h1,h2,List.all_eq_true.2 fun p hp'=>List.all_eq_true.1 h3 p (hp p hp')⟩
end Go.Id.Md
/- Pools whose packages were altered: in plain words. Conditions: none; no program in sight. -/
namespace Go.Id.Md
open Go Go.Id
def if3 (f:aa4→aa4)(l:List ak8):List ak8:=l.map fun r=>⟨r.priority,r.packages.map f⟩
theorem gk5 (f:aa4→aa4)(l:List ak8):(if3 f l).length=l.length:=by simp[if3]
theorem gk6 (f:aa4→aa4)(l:List ak8):ai5 (if3 f l)=ai5 l:=by
 unfold ai5 if3;rw[List.map_map];congr 1;exact List.map_congr_left fun r _=>List.length_map ..
theorem OkM.map {ab8:List ak8}{inst:List aa4}{f g:aa4→aa4}(h:OkM ab8 inst)(hf:∀ q,ah7 q=true→ah7 (f q)=true)(hg:∀ q,ah7 q=true→ah7 (g q)=true):OkM (if3 f ab8) (inst.map g) where
 n:=by rw[gk5]; exact h.n
 all:=by rw[gk6,List.length_map]; exact h.all
 inst:=List.all_eq_true.2 fun x hx=>by
  obtain ⟨y,hy,rfl⟩:=List.mem_map.1 hx;exact hg y (List.all_eq_true.1 h.inst y hy)
 ab8:=fun r hr=>by
  obtain ⟨y,hy,rfl⟩:=List.mem_map.1 hr;obtain ⟨h1,h2,h3⟩:=h.ab8 y hy;refine ⟨h1,h2,List.all_eq_true.2 fun x hx=>?_⟩;obtain ⟨z,hz,rfl⟩:=List.mem_map.1 hx;exact hf z (List.all_eq_true.1 h3 z hz)
/-! ### Vendors count for nothing -/
/-! ### Who is installed is better -/
end Go.Id.Md
set_option linter.all false
namespace Go.Id.Md
open Go Go.Id
section
variable {R:Int→Int→Bool} {L:List Int} {g g0 g1:Int→Nat}
def bt7 (R:Int→Int→Bool)(n:Int)(l:List Int)(s:Nat):Nat:=l.foldl (fun s m=>if R n m then s ||| 2^m.toNat else s) s
def aq4 (R:Int→Int→Bool)(L:List Int)(n:Int):Nat:=bt7 R n L 0
theorem ez2 (n:Int)(l:List Int)(m:Int)(s:Nat):bt7 R n (l++[m]) s=if R n m then bt7 R n l s ||| 2^m.toNat else bt7 R n l s:=by
 unfold bt7; rw[List.foldl_append]; rfl
theorem co9 (n:Int):∀ (l:List Int) (s k:Nat),(bt7 R n l s).testBit k=(s.testBit k||l.any fun m=>R n m&&decide (m.toNat=k)):=by
 intro l
 induction l with
 | nil=>intro s k; simp[bt7]
 | cons a l ih=>
  intro s k;have e:bt7 R n (a::l) s=bt7 R n l (if R n a then s ||| 2^a.toNat else s):=rfl;rw[e,ih,List.any_cons]
  cases hr:R n a with
  | true=>
   simp only[if_true,Nat.testBit_or,Nat.testBit_two_pow,Bool.true_and,Bool.or_assoc]
  | false=>simp
theorem gt6 (hp:∀ n∈L,0≤n∧n<256):Reach R L (aq4 R L) where
 pos:=hp
 once:=fun n hn m hm h=>by
  unfold aq4;rw[co9,Bool.or_eq_true];exact .inr (List.any_eq_true.2 ⟨m,hm,by rw[h]; simp⟩)
 way:=fun n hn k h=>by
  unfold aq4 at h;rw[co9,Nat.zero_testBit,Bool.false_or,List.any_eq_true] at h;obtain ⟨m,hm,h⟩:=h;simp only[Bool.and_eq_true,decide_eq_true_eq] at h;have e:(k:Int)=m:=by have:=(hp m hm).1; omega
  rw[e];exact .once hn hm h.1
theorem fp8 (hp:∀ n∈L,0≤n∧n<256)(n:Int){m:Int}(hm:m∈L):(aq4 R L n).testBit m.toNat=R n m:=by
 unfold aq4;rw[co9,Nat.zero_testBit,Bool.false_or,Bool.eq_iff_iff,List.any_eq_true];constructor
 ·rintro ⟨x,hx,h⟩;simp only[Bool.and_eq_true,decide_eq_true_eq] at h;have e:x=m:=by have:=(hp m hm).1; have:=(hp x hx).1; omega
  rw[← e]; exact h.1
 ·intro h; exact ⟨m,hm,by rw[h]; simp⟩
/-! ### Passes -/
def stepG (L:List Int)(g:Int→Nat)(n:Int):Int→Nat:=cg3 g n (al8 g L (g n))
def cp1 (L:List Int)(g:Int→Nat)(l:List Int):Int→Nat:=l.foldl (stepG L) g
def ez3 (L:List Int)(g:Int→Nat):Nat→Int→Nat
 | 0=>g
 | k+1=>cp1 L (ez3 L g k) L
def cj6 (R:Int→Int→Bool)(L:List Int):Int→Nat:=ez3 L (aq4 R L) (aw5 L (aq4 R L) L+1)
theorem ds5 (g:Int→Nat)(n:Int):cg3 g n (g n)=g:=by
 funext x; unfold cg3; split
 ·rename_i h; rw[h]
 ·rfl
theorem dc6 (g:Int→Nat)(l:List Int)(n:Int):cp1 L g (l++[n])=stepG L (cp1 L g l) n:=by
 unfold cp1; rw[List.foldl_append]; rfl
structure ch9 (R:Int→Int→Bool) (L:List Int) (g0 g:Int→Nat) (done:List Int) (again:Bool):Prop where
 is:g=cp1 L g0 done
 reach:Reach R L g
 no:again=false→g=g0∧∀ n∈done,al8 g0 L (g0 n)=g0 n
 yes:again=true→aw5 L g L<aw5 L g0 L
theorem ch9.init (h:Reach R L g0):ch9 R L g0 g0 [] false:=⟨rfl,h,fun _=>⟨rfl,fun _ h=>by cases h⟩,fun h=>by cases h⟩
theorem ch9.eq {done:List Int}{again:Bool}(h:ch9 R L g0 g done again){n:Int}(he:al8 g L (g n)=g n):ch9 R L g0 g (done++[n]) again where
 is:=by rw[dc6,← h.is]; unfold stepG; rw[he,ds5]
 reach:=h.reach
 no:=fun ha=>by
  obtain ⟨h1,h2⟩:=h.no ha;refine ⟨h1,fun m hm=>?_⟩;rcases List.mem_append.1 hm with hm|hm
  ·exact h2 m hm
  ·rw[List.mem_singleton] at hm; subst hm; rw[h1] at he; exact he
 yes:=h.yes
theorem ch9.ne {done:List Int}{again:Bool}(h:ch9 R L g0 g done again)(hd:L.Nodup){n:Int}(hn:n∈L)(he:al8 g L (g n)≠g n):ch9 R L g0 (cg3 g n (al8 g L (g n))) (done++[n]) true where
 is:=by rw[dc6,← h.is]; rfl
 reach:=h.reach.upd hn
 no:=fun ha=>by cases ha
 yes:=fun _=>by
  have h1:=eb3 (L:=L) (g:=g) (s:=al8 g L (g n)) hd hn;have h2:=gi7 h.reach hn he
  cases hb:again with
  | true=>have:=h.yes hb; omega
  | false=>have:=(h.no hb).1; rw[this] at h1 h2 ⊢; omega
theorem gi9 (h:Reach R L g0)(hd:L.Nodup):∀ k,k≤L.length→∃ again,ch9 R L g0 (cp1 L g0 (L.take k)) (L.take k) again:=by
 intro k
 induction k with
 | zero=>exact fun _=>⟨false,.init h⟩
 | succ k ih=>
  intro hl;obtain ⟨again,hp⟩:=ih (by omega);have ht:L.take (k+1)=L.take k++[L[k]]:=by rw[List.take_add_one,List.getElem?_eq_getElem (by omega)]; rfl
  rw[ht];by_cases he:al8 (cp1 L g0 (L.take k)) L (cp1 L g0 (L.take k) L[k])=cp1 L g0 (L.take k) L[k]
  ·have:=hp.eq he;rw[← this.is]; exact ⟨_,this⟩
  ·have:=hp.ne hd (List.getElem_mem (by omega)) he;rw[← this.is]; exact ⟨_,this⟩
structure ez4 (R:Int→Int→Bool) (L:List Int) (g1:Int→Nat) (i:Nat) (g:Int→Nat) (again:Bool):Prop where
 is:g=ez3 L g1 i
 reach:Reach R L g
 yes:again=true→aw5 L g L+i≤aw5 L g1 L
 no:again=false→∀ n∈L,al8 g L (g n)=g n
theorem ez4.init (h:Reach R L g1):ez4 R L g1 0 g1 true:=⟨rfl,h,fun _=>Nat.le_refl _,fun h=>by cases h⟩
theorem ez4.next {i:Nat}{g':Int→Nat}{again:Bool}(h:ez4 R L g1 i g true)(hp:ch9 R L g g' L again):ez4 R L g1 (i+1) g' again where
 is:=by rw[hp.is,h.is]; rfl
 reach:=hp.reach
 yes:=fun ha=>by have:=hp.yes ha; have:=h.yes rfl; omega
 no:=fun ha=>by obtain ⟨h1,h2⟩:=hp.no ha; rw[h1]; exact h2
theorem ez5 (h:∀ n∈L,al8 g L (g n)=g n):∀ l:List Int,(∀ x∈l,x∈L)→cp1 L g l=g:=by
 intro l
 induction l with
 | nil=>intro _; rfl
 | cons a l ih=>
  intro hl;have e:stepG L g a=g:=by unfold stepG; rw[h a (hl a (by simp)),ds5]
  show (l.foldl (stepG L) (stepG L g a))=g;rw[e]; exact ih fun x hx=>hl x (List.mem_cons_of_mem _ hx)
theorem ez4.stay {i:Nat}(h:ez4 R L g1 i g false):∀ k,i≤k→ez3 L g1 k=g:=by
 intro k hk
 induction k with
 | zero=>
  have:i=0:=by omega
  subst this; exact h.is.symm
 | succ k ih=>
  by_cases e:i=k+1
  ·subst e; exact h.is.symm
  ·show cp1 L (ez3 L g1 k) L=g;rw[ih (by omega)];exact ez5 (h.no rfl) L fun _ h=>h
theorem ez4.lim {i:Nat}(h:ez4 R L (aq4 R L) i g false)(hi:i≤aw5 L (aq4 R L) L+1):g=cj6 R L:=(h.stay _ hi).symm
theorem gj1 (h:Reach R L g1)(hd:L.Nodup):∀ k,(∃ i,i≤k∧∃ g,ez4 R L g1 i g false)∨ez4 R L g1 k (ez3 L g1 k) true:=by
 intro k
 induction k with
 | zero=>exact .inr (.init h)
 | succ k ih=>
  rcases ih with ⟨i,hi,g,hg⟩|ho
  ·exact .inl ⟨i,by omega,g,hg⟩
  ·obtain ⟨again,hp⟩:=gi9 ho.reach hd L.length (Nat.le_refl _);rw[List.take_length] at hp;have:=ho.next hp
   cases again with
   | true=>exact .inr this
   | false=>exact .inl ⟨k+1,Nat.le_refl _,_,this⟩
theorem di1 (hp:∀ n∈L,0≤n∧n<256)(hd:L.Nodup){n m:Int}(hn:n∈L)(hm:m∈L):(cj6 R L n).testBit m.toNat=eh5 R L n m:=by
 have h0:=gt6 (R:=R) hp;rcases gj1 h0 hd (aw5 L (aq4 R L) L+1) with ⟨i,hi,g,hg⟩|ho
 ·have e:=hg.lim hi;rw[← e];exact hg.reach.done (hg.no rfl) hn hm
 ·have:=ho.yes rfl;omega
/-! ### Entries -/
def at6 (g:Int→Nat)(l:List Int):List (IV×IV):=l.map fun n=>(.int .i64 n,.agg (ap5 (g n)))
theorem ez6 {g g':Int→Nat}{l:List Int}(h:∀ n∈l,g n=g' n):at6 g l=at6 g' l:=List.map_congr_left fun n hn=>by rw[h n hn]
theorem ce1 (a b:Int):ai7 1 (.int .i64 a) (.int .i64 b)=some (decide (a=b)):=by
 by_cases h:a=b<;>simp[ai7,ai2,h]
theorem bm2 (g:Int→Nat)(n:Int):∀ l:List Int,as5 1 (.int .i64 n) (at6 g l)=some (if n∈l then some (.agg (ap5 (g n))) else none):=by
 intro l
 induction l with
 | nil=>rfl
 | cons a l ih=>
  show (match ai7 1 (.int .i64 n) (.int .i64 a) with|some true=>some (some (IV.agg (ap5 (g a))))|some false=>as5 1 (.int .i64 n) (at6 g l)|none=>none)=_;rw[ce1];by_cases h:n=a
  ·subst h; simp
  ·simp[h,ih]
theorem hf6 (g:Int→Nat)(n:Int)(v:IV):∀ l:List Int,n ∉ l→cl7 1 (.int .i64 n) v (at6 g l)=some (at6 g l++[(.int .i64 n,v)]):=by
 intro l
 induction l with
 | nil=>intro _; rfl
 | cons a l ih=>
  intro h;rw[List.mem_cons,not_or] at h;have hk:=ce1 n a;rw[decide_eq_false h.1] at hk;show cl7 1 (.int .i64 n) v ((.int .i64 a,.agg (ap5 (g a)))::at6 g l)=_;simp only[cl7,hk,ih h.2];rfl
theorem hf7 (g:Int→Nat)(n:Int)(s:Nat):∀ l:List Int,l.Nodup→n∈l→cl7 1 (.int .i64 n) (.agg (ap5 s)) (at6 g l)=some (at6 (cg3 g n s) l):=by
 intro l
 induction l with
 | nil=>intro _ h; cases h
 | cons a l ih=>
  intro hd hn;rw[List.nodup_cons] at hd;show cl7 1 (.int .i64 n) (.agg (ap5 s)) ((.int .i64 a,.agg (ap5 (g a)))::at6 g l)=_;by_cases h:n=a
  ·subst h;have hk:=ce1 n n;rw[decide_eq_true rfl] at hk
   have e:at6 g l=at6 (cg3 g n s) l:=ez6 fun m hm=>by
    unfold cg3; rw[if_neg fun e=>hd.1 (by rw[← e]; exact hm)]
   have e2:cg3 g n s n=s:=by unfold cg3; rw[if_pos rfl]
   simp only[cl7,hk];rw[e];show _=some ((.int .i64 n,.agg (ap5 (cg3 g n s n)))::at6 (cg3 g n s) l);rw[e2]
  ·have hk:=ce1 n a;rw[decide_eq_false h] at hk;have e2:cg3 g n s a=g a:=by unfold cg3; rw[if_neg fun e=>h e.symm]
   simp only[cl7,hk,ih hd.2 ((List.mem_cons.1 hn).resolve_left h)];show some _=some ((.int .i64 a,.agg (ap5 (cg3 g n s a)))::at6 (cg3 g n s) l);rw[e2]
end
end Go.Id.Md
set_option linter.all false
namespace Go.Id.Md
open Go Go.Id
def ct3 (E:Nat→Nat→Bool):Nat→Nat→Nat→Bool
 | 0,i,k=>E i k
 | m+1,i,k=>ct3 E m i k||(ct3 E m i m&&ct3 E m m k)
inductive be8 (E:Nat→Nat→Bool) (n:Nat):Nat→Nat→Prop
 | once {i k:Nat}:i<n→k<n→E i k=true→be8 E n i k
 | step {i j k:Nat}:i<n→j<n→E i j=true→be8 E n j k→be8 E n i k
section
variable {E:Nat→Nat→Bool} {n:Nat}
theorem be8.lt {i k:Nat}(h:be8 E n i k):i<n∧k<n:=by
 induction h with
 | once h1 h2 _=>exact ⟨h1,h2⟩
 | step h1 _ _ _ ih=>exact ⟨h1,ih.2⟩
theorem be8.trans {i j k:Nat}(h:be8 E n i j)(h2:be8 E n j k):be8 E n i k:=by
 induction h with
 | once h1 h3 h4=>exact .step h1 h3 h4 h2
 | step h1 h3 h4 _ ih=>exact .step h1 h3 h4 (ih h2)
theorem di2 {m i k:Nat}:ct3 E (m+1) i k=true↔ct3 E m i k=true∨(ct3 E m i m=true∧ct3 E m m k=true):=by
 show (ct3 E m i k||(ct3 E m i m&&ct3 E m m k))=true↔_;rw[Bool.or_eq_true,Bool.and_eq_true]
theorem fp9:∀ (m i x k:Nat),x<m→ct3 E m i x=true→ct3 E m x k=true→ct3 E m i k=true:=by
 intro m
 induction m with
 | zero=>intro i x k h; exact absurd h (Nat.not_lt_zero _)
 | succ m ih=>
  intro i x k hx h1 h2;rw[di2] at h1 h2 ⊢;by_cases hm:x=m
  ·subst hm;have a:ct3 E x i x=true:=h1.elim id fun h=>h.1
   have b:ct3 E x x k=true:=h2.elim id fun h=>h.2
   exact .inr ⟨a,b⟩
  ·have hx:x<m:=by omega
   rcases h1 with h1|⟨h1,h3⟩
   ·rcases h2 with h2|⟨h2,h4⟩
    ·exact .inl (ih _ _ _ hx h1 h2)
    ·exact .inr ⟨ih _ _ _ hx h1 h2,h4⟩
   ·rcases h2 with h2|⟨h2,h4⟩
    ·exact .inr ⟨h1,ih _ _ _ hx h3 h2⟩
    ·exact .inr ⟨h1,h4⟩
theorem gj2 {m i k:Nat}:∀ (d:Nat),ct3 E m i k=true→ct3 E (m+d) i k=true:=by
 intro d
 induction d with
 | zero=>exact id
 | succ d ih=>exact fun h=>di2.2 (.inl (ih h))
theorem gj3 {i k:Nat}(h:be8 E n i k):ct3 E n i k=true:=by
 have h0:∀ {i k:Nat},E i k=true→ct3 E n i k=true:=fun h=>by
  have:=gj2 (E:=E) (m:=0) n h
  rwa [Nat.zero_add] at this
 induction h with
 | once _ _ h=>exact h0 h
 | step _ hj h _ ih=>exact fp9 _ _ _ _ hj (h0 h) ih
structure War (E:Nat→Nat→Bool) (n m i k:Nat) (G:Nat→Nat→Bool):Prop where
 lo:∀ a b,a<n→b<n→ct3 E m a b=true→G a b=true
 dn:∀ a b,a<n→b<n→(a<i∨a=i∧b<k)→ct3 E (m+1) a b=true→G a b=true
 hi:∀ a b,a<n→b<n→G a b=true→be8 E n a b
variable {G G':Nat→Nat→Bool} {m i k:Nat}
theorem War.start (h:∀ a b,a<n→b<n→G a b=E a b):War E n 0 0 0 G where
 lo:=fun a b ha hb hw=>by rw[h a b ha hb]; exact hw
 dn:=fun a b _ _ h=>by omega
 hi:=fun a b ha hb hg=>.once ha hb (by rw[← h a b ha hb]; exact hg)
theorem War.set (h:War E n m i k G)(hm:m<n)(hi:i<n)(hk:k<n)(h1:G' i k=(G i k||G i m&&G m k))(h2:∀ a b,a<n→b<n→¬ (a=i∧b=k)→G' a b=G a b):War E n m i (k+1) G' where
 lo:=fun a b ha hb hw=>by
  by_cases hc:a=i∧b=k
  ·obtain ⟨rfl,rfl⟩:=hc;rw[h1,h.lo _ _ ha hb hw]; rfl
  ·rw[h2 a b ha hb hc]; exact h.lo _ _ ha hb hw
 dn:=fun a b ha hb hab hw=>by
  by_cases hc:a=i∧b=k
  ·obtain ⟨rfl,rfl⟩:=hc;rw[h1,Bool.or_eq_true,Bool.and_eq_true];rcases di2.1 hw with h3|⟨h3,h4⟩
   ·exact .inl (h.lo _ _ ha hb h3)
   ·exact .inr ⟨h.lo _ _ ha hm h3,h.lo _ _ hm hb h4⟩
  ·rw[h2 a b ha hb hc];exact h.dn _ _ ha hb (by omega) hw
 hi:=fun a b ha hb hg=>by
  by_cases hc:a=i∧b=k
  ·obtain ⟨rfl,rfl⟩:=hc;rw[h1,Bool.or_eq_true,Bool.and_eq_true] at hg;rcases hg with h3|⟨h3,h4⟩
   ·exact h.hi _ _ ha hb h3
   ·exact (h.hi _ _ ha hm h3).trans (h.hi _ _ hm hb h4)
  ·rw[h2 a b ha hb hc] at hg; exact h.hi _ _ ha hb hg
theorem War.row (h:War E n m i n G):War E n m (i+1) 0 G where
 lo:=h.lo
 dn:=fun a b ha hb hab hw=>h.dn a b ha hb (by omega) hw
 hi:=h.hi
theorem War.next (h:War E n m n 0 G):War E n (m+1) 0 0 G where
 lo:=fun a b ha hb hw=>h.dn a b ha hb (.inl ha) hw
 dn:=fun a b _ _ h=>by omega
 hi:=h.hi
theorem War.done (h:War E n n 0 0 G){a b:Nat}(ha:a<n)(hb:b<n):G a b=true↔be8 E n a b:=⟨h.hi a b ha hb,fun hp=>h.lo a b ha hb (gj3 hp)⟩
end
/-! ### A row of steps -/
section
variable {R:Int→Int→Bool} {l:List Step}
def ao3 (R:Int→Int→Bool)(r:List Step)(i k:Nat):Bool:=decide (aj8 (r.getD i default).kind=aj8 (r.getD k default).kind)&&R (r.getD i default).p (r.getD k default).p
def cp3 (R:Int→Int→Bool)(r:List Step)(G:Nat→Nat→Bool)(i k:Nat):Bool :=
 if aj8 (r.getD i default).kind=2 then ao3 R r k i&&!G i k else ao3 R r i k&&!G k i
theorem gj4 {r:List Step}{L:List Int}{q:Int}(hL:∀ i,i<r.length→aj8 (r.getD i default).kind=q→(r.getD i default).p∈L){i k:Nat}(h:be8 (ao3 R r) r.length i k):aj8 (r.getD i default).kind=aj8 (r.getD k default).kind∧(aj8 (r.getD i default).kind=q→Way R L (r.getD i default).p (r.getD k default).p):=by
 induction h with
 | once h1 h2 h3=>
  unfold ao3 at h3;rw[Bool.and_eq_true,decide_eq_true_eq] at h3
  exact ⟨h3.1,fun hq=>.once (hL _ h1 hq) (hL _ h2 (by rw[← h3.1]; exact hq)) h3.2⟩
 | step h1 h2 h3 _ ih=>
  unfold ao3 at h3;rw[Bool.and_eq_true,decide_eq_true_eq] at h3;exact ⟨h3.1.trans ih.1,fun hq=>.step (hL _ h1 hq) (hL _ h2 (by rw[← h3.1]; exact hq)) h3.2 (ih.2 (by rw[← h3.1]; exact hq))⟩
theorem gj5 {r:List Step}{L:List Int}{q:Int}(hL:∀ x∈L,∃ i,i<r.length∧(r.getD i default).p=x)(hq:∀ i,i<r.length→(r.getD i default).p∈L→aj8 (r.getD i default).kind=q)(hd:∀ i k,i<r.length→k<r.length→(r.getD i default).p=(r.getD k default).p→i=k){x y:Int}(h:Way R L x y) :
  ∀ i k,i<r.length→k<r.length→(r.getD i default).p=x→(r.getD k default).p=y→be8 (ao3 R r) r.length i k:=by
 have he:∀ {i k:Nat},i<r.length→k<r.length→(r.getD i default).p∈L→(r.getD k default).p∈L→R (r.getD i default).p (r.getD k default).p=true→ao3 R r i k=true:=fun hi hk h1 h2 h3=>by
  unfold ao3;rw[h3,hq _ hi h1,hq _ hk h2]; simp
 induction h with
 | once h1 h2 h3=>
  intro i k hi hk ei ek;rw[← ei] at h1 h3;rw[← ek] at h2 h3
  exact .once hi hk (he hi hk h1 h2 h3)
 | step h1 h2 h3 _ ih=>
  intro i k hi hk ei ek;obtain ⟨j,hj,ej⟩:=hL _ h2;rw[← ei] at h1 h3;rw[← ej] at h2 h3;exact .step hi hj (he hi hj h1 h2 h3) (ih j k hj hk ej ek)
variable {G:Nat→Nat→Bool}
theorem bt8 (R:Int→Int→Bool)(l:List Step){i:Nat}(h:i<(ad8 R l).length):∃ h2:i<(cg2 R l).length,(ad8 R l).getD i default=⟨bn6 l (cg2 R l)[i],(cg2 R l)[i]⟩:=by
 have h2:i<(cg2 R l).length:=by unfold ad8 at h; rw[List.length_map] at h; exact h
 refine ⟨h2,?_⟩;rw[List.getD_eq_getElem?_getD,List.getElem?_eq_getElem h];show ((cg2 R l).map fun n=>(⟨bn6 l n,n⟩:Step))[i]'_=_;exact List.getElem_map ..
theorem eh8 (hd:eh7 l){q:Int}{n:Int}(hn:n∈cg2 R l):n∈ab4 l q↔aj8 (bn6 l n)=q:=by
 obtain ⟨s,hs,rfl⟩:=List.mem_map.1 (bg6.mem_iff.1 hn);rw[dh8 hd hs];constructor
 ·intro h; have:=(ea9 hd h).1; rwa [dh8 hd hs] at this
 ·intro h; exact bg5.2 ⟨s,hs,rfl,h⟩
theorem di3 (hd:eh7 l)(q:Int){i k:Nat}(hi:i<(ad8 R l).length)(hk:k<(ad8 R l).length)(hqi:aj8 ((ad8 R l).getD i default).kind=q) :
  be8 (ao3 R (ad8 R l)) (ad8 R l).length i k↔Way R (ab4 l q) ((ad8 R l).getD i default).p ((ad8 R l).getD k default).p:=by
 have hp:∀ i,i<(ad8 R l).length→∃ h2:i<(cg2 R l).length,(ad8 R l).getD i default=⟨bn6 l (cg2 R l)[i],(cg2 R l)[i]⟩:=fun i h=>bt8 R l h
 have hnd:(cg2 R l).Nodup:=(bg6 (R:=R) (l:=l)).nodup_iff.2 hd;have hlen:(ad8 R l).length=(cg2 R l).length:=by unfold ad8; rw[List.length_map]
 constructor
 ·intro h;refine (gj4 (q:=q) (L:=ab4 l q) (fun j hj e=>?_) h).2 hqi;obtain ⟨h2,e2⟩:=hp j hj;rw[e2] at e ⊢;exact (eh8 hd (List.getElem_mem h2)).2 e
 ·intro h;refine gj5 (q:=q) (L:=ab4 l q) (fun x hx=>?_) (fun j hj hm=>?_) (fun a b ha hb e=>?_) h i k hi hk rfl rfl
  ·obtain ⟨s,hs,rfl,_⟩:=bg5.1 hx;have:s.p∈cg2 R l:=bg6.mem_iff.2 (List.mem_map.2 ⟨s,hs,rfl⟩);obtain ⟨j,hj,e⟩:=List.mem_iff_getElem.1 this;obtain ⟨h2,e2⟩:=hp j (by omega);exact ⟨j,by omega,by rw[e2]; exact e⟩
  ·obtain ⟨h2,e2⟩:=hp j hj;rw[e2] at hm ⊢;exact (eh8 hd (List.getElem_mem h2)).1 hm
  ·obtain ⟨h2,e2⟩:=hp a ha;obtain ⟨h3,e3⟩:=hp b hb;rw[e2,e3] at e;exact (List.getElem_inj hnd).1 e
theorem ds6 (hd:eh7 l)(hG:∀ a b,a<(ad8 R l).length→b<(ad8 R l).length→(G a b=true↔be8 (ao3 R (ad8 R l)) (ad8 R l).length a b)){i k:Nat}(hik:i<k)(hk:k<(ad8 R l).length)(h1:aj8 ((ad8 R l).getD i default).kind≠1):cp3 R (ad8 R l) G i k=false:=by
 have hi:i<(ad8 R l).length:=by omega
 obtain ⟨i2,ei⟩:=bt8 R l hi;obtain ⟨k2,ek⟩:=bt8 R l hk;have hb:=List.pairwise_iff_getElem.1 (eb2 (R:=R) hd) i k i2 k2 hik;unfold cp3;split
 ·rename_i h2
  cases he:ao3 R (ad8 R l) k i with
  | false=>rfl
  | true=>
   unfold ao3 at he;rw[Bool.and_eq_true,decide_eq_true_eq] at he;have hw:=(di3 hd 2 hi hk h2);have hg:=(hG i k hi hk).trans hw;rw[ei,ek] at he hg;rw[ei] at h2;simp only at he hg h2;have:=hb.two (by unfold al7; exact he.1.symm) (by unfold al7; rw[he.1]; exact h2);unfold at7 at this;dsimp only at this;rw[he.2,bt1,Bool.true_and,Bool.not_eq_false',ar7] at this;rw[hg.2 this]; rfl
 ·rename_i h2
  cases he:ao3 R (ad8 R l) i k with
  | false=>rfl
  | true=>
   unfold ao3 at he;rw[Bool.and_eq_true,decide_eq_true_eq] at he
   have h0:aj8 ((ad8 R l).getD i default).kind=0:=by
    rcases bm1 ((ad8 R l).getD i default).kind with h|h|h
    ·exact h
    ·exact absurd h h1
    ·exact absurd h h2
   have hw:=(di3 hd 0 hk hi (by rw[← he.1]; exact h0));have hg:=(hG k i hk hi).trans hw;rw[ei,ek] at he hg;rw[ei] at h0;simp only at he hg h0;have:=hb.zero (by unfold al7; exact he.1) (by unfold al7; rw[← he.1]; exact h0);unfold at7 at this;rw[he.2,Bool.true_and,Bool.not_eq_false',ar7] at this;rw[hg.2 this]; rfl
theorem ds7 (hd:eh7 l)(hG:∀ a b,a<(ad8 R l).length→b<(ad8 R l).length→(G a b=true↔be8 (ao3 R (ad8 R l)) (ad8 R l).length a b)){j:Nat}(hj:j+1<(ad8 R l).length)(h1:aj8 ((ad8 R l).getD (j+1) default).kind≠1)(he:aj8 ((ad8 R l).getD j default).kind=aj8 ((ad8 R l).getD (j+1) default).kind)(hlt:((ad8 R l).getD (j+1) default).p<((ad8 R l).getD j default).p):cp3 R (ad8 R l) G (j+1) j=true:=by
 have hi:j<(ad8 R l).length:=by omega
 obtain ⟨i2,ei⟩:=bt8 R l hi;obtain ⟨k2,ek⟩:=bt8 R l hj;have hb:=eb1 (R:=R) hd j k2;have e1:(cg2 R l).getD j 0=(cg2 R l)[j]:=by simp[List.getD_eq_getElem?_getD,i2]
 have e2:(cg2 R l).getD (j+1) 0=(cg2 R l)[j+1]:=by simp[List.getD_eq_getElem?_getD,k2]
 rw[e1,e2] at hb;unfold cp3;split
 ·rename_i h2;have hg:=(hG (j+1) j hj hi).trans (di3 hd 2 hj hi h2);unfold ao3;rw[ei,ek] at he hlt hg ⊢;rw[ek] at h2;simp only at he hlt hg h2 ⊢;have:=hb.two (by unfold al7; exact he) (by unfold al7; exact h2) hlt;unfold at7 at this;dsimp only at this;rw[Bool.and_eq_true,bt1,Bool.not_eq_true'] at this;rw[decide_eq_true he,this.1]
  have hgf:G (j+1) j=false:=by
   cases hc:G (j+1) j with
   | false=>rfl
   | true=>have:=this.2; rw[ar7.2 (hg.1 hc)] at this; cases this
  rw[hgf]; rfl
 ·rename_i h2
  have h0:aj8 ((ad8 R l).getD (j+1) default).kind=0:=by
   rcases bm1 ((ad8 R l).getD (j+1) default).kind with h|h|h
   ·exact h
   ·exact absurd h h1
   ·exact absurd h h2
  have hg:=(hG j (j+1) hi hj).trans (di3 hd 0 hi hj (he.trans h0));unfold ao3;rw[ei,ek] at he hlt hg ⊢;rw[ek] at h0;simp only at he hlt hg h0 ⊢;have:=hb.zero (by unfold al7; exact he) (by unfold al7; exact h0) hlt;unfold at7 at this;rw[Bool.and_eq_true,Bool.not_eq_true'] at this;rw[decide_eq_true he.symm,this.1]
  have hgf:G j (j+1)=false:=by
   cases hc:G j (j+1) with
   | false=>rfl
   | true=>have:=this.2; rw[ar7.2 (hg.1 hc)] at this; cases this
  rw[hgf]; rfl
end
end Go.Id.Md
set_option linter.all false
namespace Go.Id.Md
open Go Go.Id
theorem cj7 {p:UInt8→Bool}(l:Str):(l.dropWhile p).length≤l.length:=by
 induction l with
 | nil=>exact Nat.le_refl _
 | cons a l ih=>
  rw[List.dropWhile_cons];split
  ·exact Nat.le_trans ih (Nat.le_succ _)
  ·exact Nat.le_refl _
theorem eb4:∀ (n m:Nat) (l:Str),l.length≤n→l.length≤m→aq5 n l=aq5 m l:=by
 intro n
 induction n with
 | zero=>
  intro m l h1 _;have:l=[]:=List.length_eq_zero_iff.1 (Nat.le_zero.1 h1);subst this
  cases m<;>rfl
 | succ n ih=>
  intro m l h1 h2
  cases l with
  | nil=>cases m<;>rfl
  | cons b l=>
   cases m with
   | zero=>simp at h2
   | succ m=>
    simp only[List.length_cons] at h1 h2
    have hd:ae1 b=ae1 b→((b::l).dropWhile fun c=>ae1 c==ae1 b).length≤l.length:=fun _=>by
     rw[List.dropWhile_cons,if_pos (by simp)];exact cj7 l
    have hd:=hd rfl;simp only[aq5];rw[ih m l (by omega) (by omega),ih m _ (Nat.le_trans hd (by omega)) (Nat.le_trans hd (by omega))]
def fq1 (b:UInt8)(l:Str):Nat:=(l.takeWhile fun c=>ae1 c==ae1 b).length
theorem gj6 {b:UInt8}{l:Str}(h:ae1 b=0):ae6 (b::l)=ae6 l:=by
 unfold ae6;simp only[List.length_cons,aq5,h,if_true]
theorem gj7 {b:UInt8}{l:Str}(h:ae1 b≠0)(h4:ae1 b<4):ae6 (b::l)=⟨ae1 b,[]⟩::ae6 l:=by
 unfold ae6;simp only[List.length_cons,aq5,h,h4,if_true,if_false]
theorem di4 (p:UInt8→Bool)(l:Str):l.takeWhile p=l.take (l.takeWhile p).length∧l.dropWhile p=l.drop (l.takeWhile p).length:=by
 induction l with
 | nil=>exact ⟨rfl,rfl⟩
 | cons a l ih=>
  rw[List.takeWhile_cons,List.dropWhile_cons]
  cases h:p a with
  | true=>
   simp only[if_true,List.length_cons,List.take_succ_cons,List.drop_succ_cons]
   exact ⟨by rw[← ih.1],ih.2⟩
  | false=>simp
theorem gj8 {b:UInt8}{l:Str}(h4:¬ ae1 b<4):ae6 (b::l)=⟨ae1 b,if ae1 b=5 then ((b::l).take (fq1 b l+1)).dropWhile (· == 48) else (b::l).take (fq1 b l+1)⟩::ae6 (l.drop (fq1 b l)):=by
 have h0:ae1 b≠0:=by omega
 unfold ae6;simp only[List.length_cons,aq5,h0,h4,if_false]
 have e1:(b::l).takeWhile (fun c=>ae1 c==ae1 b)=(b::l).take (fq1 b l+1):=by
  rw[List.takeWhile_cons,if_pos (by simp),List.take_succ_cons,(di4 (fun c=>ae1 c==ae1 b) l).1];unfold fq1; rw[← (di4 (fun c=>ae1 c==ae1 b) l).1]
 have e2:(b::l).dropWhile (fun c=>ae1 c==ae1 b)=l.drop (fq1 b l):=by
  rw[List.dropWhile_cons,if_pos (by simp)];exact (di4 (fun c=>ae1 c==ae1 b) l).2
 rw[e1,e2,eb4 l.length (l.drop (fq1 b l)).length _ (by rw[List.length_drop]; omega) (Nat.le_refl _)]
theorem is5 {p:UInt8→Bool}:∀ (l:Str) (m:Nat),m<(l.takeWhile p).length→∃ c,l[m]? = some c∧p c=true:=by
 intro l
 induction l with
 | nil=>intro m h; simp at h
 | cons a l ih=>
  intro m h;rw[List.takeWhile_cons] at h
  cases hp:p a with
  | false=>rw[hp] at h; simp at h
  | true=>
   rw[hp] at h
   cases m with
   | zero=>exact ⟨a,rfl,hp⟩
   | succ m=>exact ih m (by simpa using h)
theorem is6 {p:UInt8→Bool}:∀ (l:Str) (c:UInt8),l[(l.takeWhile p).length]? = some c→p c=false:=by
 intro l
 induction l with
 | nil=>intro c h; simp at h
 | cons a l ih=>
  intro c h;rw[List.takeWhile_cons] at h
  cases hp:p a with
  | false=>rw[hp] at h; simp at h; rw[← h]; exact hp
  | true=>rw[hp] at h; exact ih c (by simpa using h)
theorem ie5 {b:UInt8}{l:Str}{m:Nat}(h:m<fq1 b l):∃ c,l[m]? = some c∧ae1 c=ae1 b:=by
 obtain ⟨c,h1,h2⟩:=is5 l m h;exact ⟨c,h1,by simpa using h2⟩
theorem ie6 {b:UInt8}{l:Str}{c:UInt8}(h:l[fq1 b l]? = some c):ae1 c≠ae1 b:=by
 have:=is6 l c h
 simpa using this
theorem ie7 (b:UInt8)(l:Str):fq1 b l≤l.length:=(List.takeWhile_sublist _).length_le
end Go.Id.Md
