/- PoolByName. Conditions: sizes that fit. -/
import Derived.Test.YtiallonafbejaaaGreatDoorTURA
import Derived.Test.YtiallonafbejaaaGreatDoorTUPHb
import Derived.Test.YtiallonafbejaaaGreatDoorTUPG
set_option linter.all false
namespace Go.Id.Tryz
open Go Go.Id Go.Proofs Go.Shelf Go.Id.Md
set_option maxRecDepth 100000
def rowC (c : Nat→Int) (n : Nat) : List IV:=(List.range n).map fun j => .int .i64 (c j)
theorem rowC_len (c : Nat→Int) (n : Nat) : (rowC c n).length=n:=by simp [rowC]
theorem rowC_zero : ∀ n : Nat,rep [IV.int .i64 0] n=rowC (fun _ => 0) n:=by
 intro n
 induction n with
 | zero => rfl
 | succ n ih =>
  have h : ∀ m,rep [IV.int .i64 0] m=List.replicate m (.int .i64 0):=by
   intro m
   induction m with
   | zero => rfl
   | succ m ih => show [IV.int .i64 0] ++ rep _ m=_; rw [ih]; rfl
  rw [h]
  refine List.ext_getElem (by simp [rowC]) fun i h1 h2 => by simp [rowC]
theorem rowC_at (c : Nat→Int) {n j : Nat} (h : j < n) : ((rowC c n).drop j).head? = some (.int .i64 (c j)):=by
 simp [rowC,List.head?_drop,h]
theorem rowC_get (c : Nat→Int) {n i : Nat} (h : i < (rowC c n).length) : (rowC c n)[i]=.int .i64 (c i):=by simp [rowC]
theorem rowC_put (c : Nat→Int) {n j : Nat} (h : j < n) (x : Int) : putL (rowC c n) j [.int .i64 x]=rowC (fun i => if i=j then x else c i) n:=by
 refine List.ext_getElem (by rw [putL_length (by rw [rowC_len]; simp only [List.length_singleton]; omega),rowC_len,rowC_len]) fun i h1 h2 => ?_
 rw [rowC_get]
 rw [rowC_len] at h2
 unfold putL
 simp only [List.getElem_append,List.length_take,rowC_len,List.getElem_take,List.getElem_drop,List.length_append,List.length_singleton,rowC_get]
 by_cases e : i=j
 ·subst e
  have g1 : ¬ i < min i n:=by omega
  have g2 : i < min i n+1:=by omega
  simp only [g1,g2,dite_false,dite_true,if_true,List.getElem_singleton]
 ·by_cases e2 : i < j
  ·have g1 : i < min j n:=by omega
   have g2 : i < min j n+1:=by omega
   simp only [g1,g2,dite_true,e,if_false]
  ·have g1 : ¬ i < min j n:=by omega
   have g2 : ¬ i < min j n+1:=by omega
   have g3 : j+1+(i - (min j n+1))=i:=by omega
   simp only [g2,g3,dite_false,e,if_false]
theorem w_mksl {pt : PT} {ct : CT} {P : Program} {E : Nat→IV} {e id : Nat} {z : List IV} {x : IX} {fr : Frm} {σ : Store} {K : IV→Store→Prop} : opT pt ct P E (.mksl e z x) id fr σ K=optK (mkslI (x.ev E fr)) fun n => K (.slice id 0 n e) (σ.put id (.row (rep z n))):=rfl
theorem mksl_at {K : Nat→Prop} (n : Nat) (h : n≤2147483648) : optK (mkslI (.int .i64 (n : Int))) K=K n:=by
 have h1 : (0 : Int)≤n∧(n : Int)≤2147483648:=by omega
 show optK (if 0≤(n : Int)∧(n : Int)≤2147483648 then some ((n : Int).toNat) else none) K=K n
 rw [if_pos h1]; rfl
theorem poolByName_pc (repos : List Repo) (inst : List Package) (hI : InOK repos inst) : PC Tryz.prog EE 3 [reposV repos,pkgsV inst] (.bool true):=by
 refine PC_e hE fok3 (Nat.le_of_ble_eq_true rfl) (two_mem (bnd_repos repos) (bnd_pkgs inst)) ?_
 simp only [ic3,go_sem]
 refine call_pc fok13 (wide_pc repos inst (by have:=hI.r1; omega) (by have:=hI.i1; omega) hI.ro hI.po) ?_
 cases hw : wideM repos inst with
 | true =>
  simp only [go_sem]
  refine call_pc fok14 awake_pc ?_
  simp only [go_sem]
  exact frz_bool _
 | false =>
 simp only [go_sem]
 refine call_pc fok14 awake_pc ?_
 simp only [go_sem]
 refine call_pc fok15 (poolNew_pc repos inst hI.r1 hI.i1 hI.s1 hI.rf hI.pf) ?_
 cases hn : newM repos inst with
 | inr e =>
  rcases newM_inr hn with rfl | rfl
  ·simp only [go_sem,newV]
   exact frz_bool _
  ·simp only [go_sem,newV]
   exact frz_bool _
 | inl p =>
 have hf:=in_fit hI hn
 have hlen : (pkgsOf p).length≤256:=by simp only [pkgsOf,List.length_map]; exact newM_len hn
 have hrl : p.rows.length=(pkgsOf p).length:=by simp [pkgsOf]
 have hnm:=newM_nm hn
 have hcnt:=poolCount_pc p
 rw [hrl] at hcnt
 have hk : p.nm.length < 2 ^ 30:=by have h1:=hnm.len; have h2 : (p.rows.map (·.pkg)).length≤256:=hlen; omega
 simp only [go_sem,newV]
 refine call_pc fok16 (poolNames_pc p hk) ?_
 simp only [go_sem]
 have c1 : ¬ ((pkgsOf p).length : Int) < 0:=by omega
 have c2 : ¬ ((pkgsOf p).length : Int) > 1048576:=by omega
 have c3 : ¬ (1048576 : Int) < (pkgsOf p).length:=by omega
 refine call_pc fok17 hcnt ?_
 simp only [go_sem,c1]
 refine call_pc fok17 hcnt ?_
 simp only [go_sem,c2,c3]
 refine call_pc fok17 hcnt ?_
 simp only [go_sem]
 simp only [w_mksl,mksl_at _ (show (pkgsOf p).length≤2147483648 by omega),go_sem]
 rw [rowC_zero]
 have hnmL : (namesM p).length≤256:=by
  have h1:=(namesM_perm p).length_eq
  have h2:=hnm.len
  rw [List.length_map] at h1 h2
  omega
 have hlt0:=namesM_lt hnm.kn
 have hmem : ∀ k,k∈namesM p ↔ k∈p.nm.map (·.1):=fun k => (namesM_perm p).mem_iff
 have hrow : ∀ k∈namesM p,nmLook p.nm k≠[]:=fun k hk => hnm.ne k ((hmem k).1 hk)
 have hnd : (namesM p).Nodup:=(namesM_perm p).nodup_iff.2 hnm.kn
 have hlk : ∀ k,nmLook p.nm k=numsOf (fun q => decide (q.name=k)) (pkgsOf p):=hnm.look
 have hall : ∀ j (h : j < (pkgsOf p).length),(pkgsOf p)[j].name∈namesM p:=fun j h => by
  refine (hmem _).2 (nmLook_has _ _ ?_)
  rw [hlk]
  refine List.ne_nil_of_mem (a:=(j : Int)) (numsOf_mem.2 ⟨j,rfl,h,?_⟩)
  rw [getD_at _ j h]; simp
 have hpk : ∀ j (h : j < (pkgsOf p).length),PC Tryz.prog EE 19 [p.v,.int .i64 j] (.tuple [.agg (pkgsOf p)[j].cs,.int .i64 0]):=fun j h => by
  have hq : p.rows[j].pkg=(pkgsOf p)[j]:=by simp [pkgsOf]
  have h1:=poolPackage_pc p j (by omega) (by rw [hq]; exact (hf _ (List.getElem_mem h)).1)
  rw [hq] at h1; exact h1
 generalize hN : namesM p=names at *
 refine loop_up noT (fun i fr s => fr=[(5,p.v),(7,.tslice (names.map strC)),(8,.slice 0 0 (pkgsOf p).length 1),(9,.int .i64 (i : Int))]∧0 < s.next∧∃ c,s.obj 0=some (.row (rowC c (pkgsOf p).length))∧∀ j (h : j < (pkgsOf p).length),c j=if (pkgsOf p)[j].name∈names.take i then 1 else 0) names.length ?_ ?_
 ·refine ⟨rfl,?_,fun _ => 0,?_,fun j h => by simp⟩
  ·exact Nat.lt_succ_self _
  ·simp only [go_sem]
 rintro i fr s hi ⟨rfl,hnx,c,ho,hc⟩
 by_cases hlt : i < names.length
 ·obtain ⟨k,hkm,hki,hdr,hget,htk⟩:=at_nth names i hlt
  have f1 : (i : Int) < names.length:=by omega
  have f2 : (0 : Int)≤(i : Int):=by omega
  have w1:=wrapS (i:=i) (by omega)
  have hNm:=poolNamed_pc p k (hrow k hkm) (by rw [hlk]; have:=numsOf_len (fun q => decide (q.name=k)) (pkgsOf p); omega)
  have hne:=hrow k hkm
  rw [hlk] at hNm hne
  have hup:=numsOf_up (fun q : Package => decide (q.name=k)) (pkgsOf p)
  have hRm : ∀ x : Int,x∈numsOf (fun q => decide (q.name=k)) (pkgsOf p) ↔ ∃ (m : Nat) (h : m < (pkgsOf p).length),x=m∧(pkgsOf p)[m].name=k:=fun x => by
   rw [numsOf_mem]
   constructor
   ·rintro ⟨m,e,h,h2⟩
    rw [getD_at _ m h] at h2
    exact ⟨m,h,e,by simpa using h2⟩
   ·rintro ⟨m,h,e,h2⟩
    exact ⟨m,e,h,by rw [getD_at _ m h]; simpa using h2⟩
  have hRl:=numsOf_len (fun q => decide (q.name=k)) (pkgsOf p)
  generalize numsOf (fun q => decide (q.name=k)) (pkgsOf p)=R at *
  have hkn : k ∉ names.take i:=fun h => by
   obtain ⟨q,hq,e⟩:=List.mem_iff_getElem.1 h
   rw [List.length_take] at hq
   rw [List.getElem_take] at e
   have e2 : names[i]=k:=by rw [List.getElem?_eq_getElem hlt] at hki; exact Option.some.inj hki
   have:=(List.nodup_iff_pairwise_ne.1 hnd)
   exact List.pairwise_iff_getElem.1 this q i (by omega) hlt (by omega) (by rw [e,e2])
  have hR0 : ¬ (R.length : Int)=0:=by
   have:=List.length_pos_iff.2 hne
   omega
  by_cases hi0 : (0 : Int) < (i : Int)
  case' pos =>
   have f5 : IntKind.i64.wrap ((i : Int) - 1)=((i - 1 : Nat) : Int):=by rw [wrap64 (by omega) (by omega)]; omega
   have f6 : (0 : Int)≤((i - 1 : Nat) : Int):=by omega
   have f7 : ((i - 1 : Nat) : Int) < names.length:=by omega
   have g2 : (names.map strC).getD (i - 1) []=[.str (names[i - 1]'(by omega))]:=by simp [List.getD_eq_getElem?_getD,show i - 1 < names.length by omega,strC]
   have f8 : Op.bytesLess (names[i - 1]'(by omega)) k=true:=by
    have h1:=List.pairwise_iff_getElem.1 hlt0 (i - 1) i (by omega) hlt (by omega)
    have e2 : names[i]=k:=by rw [List.getElem?_eq_getElem hlt] at hki; exact Option.some.inj hki
    rw [e2] at h1; exact h1
   simp only [go_sem,f1,f2,hi0,f5,f6,f7,g2,hget,strC,f8,Bool.not_true]
  case' neg => simp only [go_sem,f1,f2,hi0,hget,strC]
  all_goals
   refine call_pc fok18 hNm ?_
   simp only [go_sem,hR0]
   refine loop_up noT (fun q fr s => fr=[(5,p.v),(7,.tslice (names.map strC)),(8,.slice 0 0 (pkgsOf p).length 1),(9,.int .i64 (i : Int)),(10,.tslice (R.map Md.intC)),(11,.int .i64 (q : Int))]∧0 < s.next∧∃ c,s.obj 0=some (.row (rowC c (pkgsOf p).length))∧∀ j (h : j < (pkgsOf p).length),c j=if (pkgsOf p)[j].name∈names.take i ∨ (j : Int)∈R.take q then 1 else 0) R.length ⟨rfl,by show 0 < s.next+_; omega,c,ho,fun j h => by rw [hc j h]; simp⟩ ?_
   rintro q fr t hq ⟨rfl,hnx2,d,ho2,hd⟩
   by_cases hlt2 : q < R.length
   ·obtain ⟨x,hx,hxq,hdr2,hget2,htk2⟩:=at_nth R q hlt2
    obtain ⟨m,hm,rfl,hmk⟩:=(hRm x).1 hx
    have hxe : R[q]=(m : Int):=by rw [List.getElem?_eq_getElem hlt2] at hxq; exact Option.some.inj hxq
    have e1 : (q : Int) < R.length:=by omega
    have e2 : (0 : Int)≤(q : Int):=by omega
    have e3 : ¬ (m : Int) < 0:=by omega
    have e4 : ¬ ((pkgsOf p).length : Int)≤(m : Int):=by omega
    have e5 : (m : Int) < ((pkgsOf p).length : Int):=by omega
    have e6 : (0 : Int)≤(m : Int):=by omega
    have w2:=wrapS (i:=q) (by omega)
    have n0 : ¬ (0=t.next):=by omega
    have hp:=hpk m hm
    have hnm0 : (pkgsOf p)[m].cs.head? = some (.str k):=by rw [← hmk]; rfl
    have hdm : d m=0:=by
     rw [hd m hm,hmk,if_neg]
     rintro (h | h)
     ·exact hkn h
     ·obtain ⟨u,hu,eu⟩:=List.mem_iff_getElem.1 h
      rw [List.length_take] at hu
      rw [List.getElem_take] at eu
      have:=List.pairwise_iff_getElem.1 hup u q (by omega) hlt2 (by omega)
      omega
    have r1:=rowC_at d hm
    have r2:=rowC_put d hm 1
    have r3 : m+1≤(rowC d (pkgsOf p).length).length:=by rw [rowC_len]; omega
    have w0 : IntKind.i64.wrap (0+1)=1:=by decide
    by_cases hq0 : (0 : Int) < (q : Int)
    case' pos =>
     have f5 : IntKind.i64.wrap ((q : Int) - 1)=((q - 1 : Nat) : Int):=by rw [wrap64 (by omega) (by omega)]; omega
     have f6 : (0 : Int)≤((q - 1 : Nat) : Int):=by omega
     have f7 : ((q - 1 : Nat) : Int) < R.length:=by omega
     have g2 : (R.map Md.intC).getD (q - 1) []=[.int .i64 (R[q - 1]'(by omega))]:=by simp [List.getD_eq_getElem?_getD,show q - 1 < R.length by omega,Md.intC]
     have f8 : ¬ (m : Int)≤R[q - 1]'(by omega):=by
      have h1:=List.pairwise_iff_getElem.1 hup (q - 1) q (by omega) hlt2 (by omega)
      omega
     simp only [go_sem,e1,e2,hget2,Md.intC]
     refine call_pc fok19 hp ?_
     simp only [go_sem,e1,e2,e3,e4,e5,e6,hget,hget2,Md.intC,strC,pkg_len,pkg_take,pkg_leaf,n0,ho2,f1,f2,hnm0,hq0,f5,f6,f7,g2,f8,Int.toNat_natCast,Nat.zero_add,Nat.mul_one,r1,hdm,w0,r2,r3,w2]
    case' neg =>
     simp only [go_sem,e1,e2,hget2,Md.intC]
     refine call_pc fok19 hp ?_
     simp only [go_sem,e1,e2,e3,e4,e5,e6,hget,hget2,Md.intC,strC,pkg_len,pkg_take,pkg_leaf,n0,ho2,f1,f2,hnm0,hq0,Int.toNat_natCast,Nat.zero_add,Nat.mul_one,r1,hdm,w0,r2,r3,w2]
    all_goals
     refine ⟨hlt2,by omega,fun i => if i=m then 1 else d i,rfl,fun j h => ?_⟩
     show (if j=m then (1 : Int) else d j)=_
     by_cases hjm : j=m
     ·subst hjm
      rw [if_pos rfl,if_pos]
      exact .inr (by rw [htk2]; exact List.mem_append_right _ (List.mem_singleton.2 rfl))
     ·rw [if_neg hjm,hd j h,htk2]
      congr 1
      rw [List.mem_append,List.mem_singleton]
      refine propext (or_congr Iff.rfl ⟨.inl,fun h => h.elim id fun e => ?_⟩)
      exact absurd (by omega) hjm
   ·have hq' : q=R.length:=by omega
    subst hq'
    have e1 : ¬ (R.length : Int) < R.length:=by omega
    simp only [go_sem,e1,w1]
    refine ⟨hlt,by omega,d,ho2,fun j h => ?_⟩
    rw [hd j h,htk,List.take_length]
    congr 1
    rw [List.mem_append,List.mem_singleton,hRm]
    refine propext (or_congr Iff.rfl ⟨?_,fun e => ⟨j,h,rfl,e⟩⟩)
    rintro ⟨u,hu,e,hk⟩
    have : u=j:=by omega
    subst this
    exact hk
 have hi' : i=names.length:=by omega
 subst hi'
 have f1 : ¬ (names.length : Int) < names.length:=by omega
 have hc1 : ∀ j (h : j < (pkgsOf p).length),c j=1:=fun j h => by rw [hc j h,List.take_length,if_pos (hall j h)]
 have hsr : ∀ r∈p.rows,Pkg.small r.pkg:=fun r hr => (hf _ (List.mem_map_of_mem (f:=fun x : PRow => x.pkg) hr)).2.1
 have hsm : ∀ x∈pkgsOf p,Pkg.small x:=fun x hx => (hf x hx).2.1
 have hQ : ∀ a : Bool,eqvI [0] false true (.bool a) (.bool a)=some (.bool false):=fun a => by cases a <;> rfl
 simp only [go_sem,f1]
 refine loop_up noT (fun n fr s => fr=[(5,p.v),(8,.slice 0 0 (pkgsOf p).length 1),(14,.int .i64 (n : Int))]∧0 < s.next∧s.obj 0=some (.row (rowC c (pkgsOf p).length))) (pkgsOf p).length ⟨rfl,hnx,ho⟩ ?_
 rintro n fr t hn1 ⟨rfl,hnx3,ho3⟩
 by_cases hlt : n < (pkgsOf p).length
 ·have d1 : (n : Int) < ((pkgsOf p).length : Int):=by omega
  have d2 : (0 : Int)≤(n : Int):=by omega
  have w1:=wrapS (i:=n) (by omega)
  have r1:=rowC_at c hlt
  rw [hc1 n hlt] at r1
  have hp:=hpk n hlt
  have n0 : ¬ (0=t.next):=by omega
  simp only [go_sem,d1,d2,ho3,Int.toNat_natCast,Nat.zero_add,Nat.mul_one,r1]
  refine call_pc fok19 hp ?_
  simp only [go_sem,pkg_len,pkg_take,pkg_leaf]
  refine loop_up noT (fun m fr s => fr=[(5,p.v),(8,.slice 0 0 (pkgsOf p).length 1),(14,.int .i64 (n : Int)),(15,.ptr t.next 0),(16,.int .i64 0),(17,.int .i64 (m : Int))]∧t.next < s.next∧s.obj 0=some (.row (rowC c (pkgsOf p).length))∧s.obj t.next=some (.cells (pkgsOf p)[n].cs)) (pkgsOf p).length ?_ ?_
  ·refine ⟨rfl,Nat.lt_succ_self _,?_,?_⟩
   ·simp only [put_obj,n0,if_false]; exact ho3
   ·simp only [put_obj,if_true]
  rintro m fr u hm1 ⟨rfl,hnx4,ho4,ho5⟩
  by_cases hlt4 : m < (pkgsOf p).length
  ·have d3 : (m : Int) < ((pkgsOf p).length : Int):=by omega
   have w2:=wrapS (i:=m) (by omega)
   have hp2:=hpk m hlt4
   have n1 : ¬ (0=u.next):=by omega
   have n2 : ¬ (t.next=u.next):=by omega
   have hO:=poolObsAll_pc p n m (by omega) (by omega) hsr
   have hP:=obsoletes_pc (pkgsOf p)[n] (pkgsOf p)[m] (hsm _ (List.getElem_mem hlt)) (hsm _ (List.getElem_mem hlt4))
   have q1 : p.rows[n].pkg=(pkgsOf p)[n]:=by simp [pkgsOf]
   have q2 : p.rows[m].pkg=(pkgsOf p)[m]:=by simp [pkgsOf]
   rw [q1,q2] at hO
   simp only [go_sem,d3]
   refine call_pc fok19 hp2 ?_
   simp only [go_sem,pkg_len,pkg_take,pkg_leaf,n1,n2,ho4,ho5]
   refine call_pc fok20 hO ?_
   by_cases e : n=m
   ·subst e
    simp only [go_sem,ne_eq,not_true_eq_false,Bool.false_and,hQ,w2,n1,n2]
    exact ⟨hlt4,by omega,ho4,ho5⟩
   ·have e' : ¬ (n : Int)=m:=by omega
    simp only [go_sem,e,e',ne_eq,not_false_eq_true,Bool.true_and,n1,n2,ho4,ho5,pkg_len,pkg_take,pkg_leaf]
    refine call_pc fok21 hP ?_
    simp only [go_sem,hQ,w2,n1,n2]
    exact ⟨hlt4,by omega,ho4,ho5⟩
  ·have hm' : m=(pkgsOf p).length:=by omega
   subst hm'
   have d3 : ¬ ((pkgsOf p).length : Int) < ((pkgsOf p).length : Int):=by omega
   simp only [go_sem,d3,w1]
   exact ⟨hlt,by omega,ho4⟩
 ·have hn' : n=(pkgsOf p).length:=by omega
  subst hn'
  have d1 : ¬ ((pkgsOf p).length : Int) < ((pkgsOf p).length : Int):=by omega
  simp only [go_sem,d1]
  exact frz_bool _
end Go.Id.Tryz
