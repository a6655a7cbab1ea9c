/- Indexes asked: who obsoletes whom. Conditions: sizes that fit. -/
import Derived.Test.YtiallonafbejaaaGreatDoorTUQH
import Derived.Test.YtiallonafbejaaaGreatDoorTUSI
import Derived.Test.YtiallonafbejaaaGreatDoorTUPZm
set_option linter.all false
namespace Go.Id.Tryz
open Go Go.Id Go.Proofs Go.Id.Md
set_option maxRecDepth 100000
theorem isOf_pc (x : Index) (n : Int) : PC Tryz.prog EE 81 [x.v,.int .i64 n] (.bool (decide (0≤n) && decide (n < x.all.length))):=by
 refine PC_e hE fok81 (Nat.le_of_ble_eq_true rfl) (two_mem (bnd_idx x) (.int _ _)) ?_
 have hx : x.v=.tptr [.tslice (x.all.map Package.cs),.tmap (nmV x.prov),.tmap (nmV x.names),.tmap (nmV x.over)]:=rfl
 have hnil : ∀ (d : TypeId) (cs : List IV) (c : IV),nilI (.pointer d) (.tptr (c :: cs))=some false:=fun _ _ _ => rfl
 rw [hx]
 have hlen : (x.all.map Package.cs).length=x.all.length:=List.length_map ..
 generalize x.all.map Package.cs=es at *
 generalize x.all.length=k at *
 by_cases h1 : 0≤n
 ·by_cases h2 : n < (k : Nat)
  ·have h2' : n < (es.length : Nat):=by omega
   simp only [ic81,go_sem,hnil,h1,h2,h2',hlen,Bool.and_self]
   exact frz_bool _
  ·have h2' : ¬ n < (es.length : Nat):=by omega
   simp only [ic81,go_sem,hnil,h1,h2,h2',hlen,Bool.and_false]
   exact frz_bool _
 ·simp only [ic81,go_sem,hnil,h1,Bool.false_and]
  exact frz_bool _
theorem obsClI_pc (l : List Package) (m n : Nat) (hm : m < l.length) (hn : n < l.length) (hs : ∀ p∈l,Pkg.small p) :
  PC Tryz.prog EE 86 [.agg l[m].cs,.int .i64 m,.tptr [.int .i64 n],.tptr [(idxM l).v]] (.bool (decide (m≠n) && obsoletes l[m] l[n])):=by
 refine PC_e hE fok86 (Nat.le_of_ble_eq_true rfl) (fun a ha => by
  simp only [List.mem_cons,List.not_mem_nil,or_false] at ha
  rcases ha with rfl | rfl | rfl | rfl
  ·exact bnd_pkgA _
  ·exact .int _ _
  ·exact .tptr _ (one_mem (.int _ _))
  ·exact .tptr _ (one_mem (bnd_idx _))) ?_
 have hx : (idxM l).v=.tptr [.tslice (l.map Package.cs),.tmap (nmV (idxM l).prov),.tmap (nmV (idxM l).names),.tmap (nmV (idxM l).over)]:=by
  show IV.tptr [.tslice ((idxM l).all.map Package.cs),_,_,_]=_
  rw [(idxM_is l).all]
 have ho:=obsoletes_pc l[m] l[n] (hs _ (List.getElem_mem hm)) (hs _ (List.getElem_mem hn))
 have hg : (l.map Package.cs).getD n []=l[n].cs:=by simp [List.getD_eq_getElem?_getD,hn]
 have hl : (l.map Package.cs).length=l.length:=List.length_map ..
 rw [hx]
 generalize l.map Package.cs=es at *
 by_cases e : m=n
 ·have e' : (m : Int)=n:=by omega
  simp only [ic86,go_sem,pkg_lenA,pkg_takeA,pkg_leafA,e',e,ne_eq,not_true_eq_false,decide_false,Bool.false_and]
  exact frz_bool _
 ·have e' : ¬ (m : Int)=n:=by omega
  have c1 : (0 : Int)≤n:=by omega
  have c2 : (n : Int) < es.length:=by omega
  simp only [ic86,go_sem,pkg_lenA,pkg_takeA,pkg_leafA,e',e,c1,c2,hg,ne_eq,not_false_eq_true,decide_true,Bool.true_and]
  refine call_pc fok21 ho ?_
  simp only [go_sem]
  exact frz_bool _
def obsoletersM (l : List Package) (n : Nat) : List Int:=(nmLook (idxM l).over (l.getD n default).name).filter fun k => decide (k.toNat≠n) && obsoletes (l.getD k.toNat default) (l.getD n default)
theorem obsoletersM_mem {l : List Package} {n : Nat} {k : Int} : k∈obsoletersM l n ↔ ∃ m : Nat,k=m∧m < l.length∧m≠n∧obsoletes (l.getD m default) (l.getD n default)=true:=by
 unfold obsoletersM
 rw [(idxM_is l).over,List.mem_filter]
 constructor
 ·rintro ⟨h1,h2⟩
  obtain ⟨m,rfl,h3,_⟩:=numsOf_mem.1 h1
  simp only [Int.toNat_natCast,Bool.and_eq_true,decide_eq_true_eq] at h2
  exact ⟨m,rfl,h3,h2.1,h2.2⟩
 ·rintro ⟨m,rfl,h1,h2,h3⟩
  refine ⟨numsOf_mem.2 ⟨m,rfl,h1,?_⟩,?_⟩
  ·obtain ⟨d,h4,h5⟩:=List.any_eq_true.1 h3
   refine decide_eq_true ⟨d,h4,?_⟩
   simp only [named,meets,Bool.and_eq_true,decide_eq_true_eq] at h5
   exact h5.1.symm
  ·simp only [Int.toNat_natCast,Bool.and_eq_true,decide_eq_true_eq]
   exact ⟨h2,h3⟩
theorem obsoletersM_len (l : List Package) (n : Nat) : (obsoletersM l n).length≤l.length:=by
 unfold obsoletersM
 rw [(idxM_is l).over]
 exact Nat.le_trans (List.length_filter_le _ _) (numsOf_len _ _)
end Go.Id.Tryz
/- What stands twice taken out of a row of one's own (slices.Compact of numbers). Conditions: the row is in order. -/
namespace Go.Id.Tryz
open Go Go.Id Go.Proofs Go.Id.Md
set_option maxRecDepth 100000
abbrev iv (n : Int) : IV:=.int .i64 n
theorem slc_lo {id n k : Nat} (h : k≤n) : slcI 1 (some (.int .i64 (k : Int))) none (.slice id 0 n 1)=some (.slice id k (n - k) 1):=by
 have e : (0 : Int)≤k:=by omega
 simp [slcI,bndI,natI,e,h]
theorem slc_hi {id n k : Nat} (h : k≤n) : slcI 1 none (some (.int .i64 (k : Int))) (.slice id 0 n 1)=some (.slice id 0 k 1):=by
 have e : (0 : Int)≤k:=by omega
 simp [slcI,bndI,natI,e,h]
theorem mem_take_new {zs : List Int} {p : Nat} (h : p+1 < zs.length) (x : Int) : x∈zs.take (p+1+1) ↔ x∈zs.take (p+1) ∨ x=zs[p+1]:=by
 rw [List.take_add_one (i:=p+1),List.getElem?_eq_getElem h,List.mem_append]
 simp [Option.toList]
theorem mem_take_dup {zs : List Int} {p : Nat} (h : p+1 < zs.length) (e : zs[p+1]=zs[p]) (x : Int) : x∈zs.take (p+1) ↔ x∈zs.take (p+1+1):=by
 rw [mem_take_new h]
 refine ⟨.inl,fun q => q.elim (fun q => q) fun q => ?_⟩
 rw [q,e]
 exact List.mem_iff_getElem.2 ⟨p,by rw [List.length_take]; omega,by rw [List.getElem_take]⟩
theorem putL_take {cs vs : List IV} {k : Nat} (h : k≤cs.length) : (putL cs k vs).take k=cs.take k:=by
 unfold putL
 rw [List.append_assoc,List.take_append_of_le_length (by rw [List.length_take]; omega),List.take_take,Nat.min_self]
theorem putL_take1 {cs : List IV} {v : IV} {k : Nat} (h : k≤cs.length) : (putL cs k [v]).take (k+1)=cs.take k ++ [v]:=by
 unfold putL
 have e : (cs.take k ++ [v]).length=k+1:=by rw [List.length_append,List.length_take,List.length_singleton]; omega
 rw [List.take_append_of_le_length (by omega),List.take_of_length_le (by omega)]
theorem putL_drop1 {cs : List IV} {v : IV} {k q : Nat} (h : k < q) (hk : k≤cs.length) : (putL cs k [v]).drop q=cs.drop q:=by
 unfold putL
 have e : (cs.take k ++ [v]).length=k+1:=by rw [List.length_append,List.length_take,List.length_singleton]; omega
 rw [List.drop_append,e,List.drop_of_length_le (by omega),List.nil_append,List.drop_drop,List.length_singleton]
 congr 1; omega
theorem w_clr {pt : PT} {ct : CT} {P : Program} {E : Nat→IV} {e id : Nat} {z : List IV} {x : IX} {fr : Frm} {σ : Store} {K : IV→Store→Prop} : opT pt ct P E (.clr e z x) id fr σ K=optK (clrI σ e z (x.ev E fr)) fun σ' => σ'.next=σ.next∧K .undef σ':=rfl
theorem clr_row {σ : Store} {id k n : Nat} {cs : List IV} (ho : σ.obj id=some (.row cs)) (h1 : k < n) (h2 : n≤cs.length) : clrI σ 1 [.int .i64 0] (.slice id k (n - k) 1)=some (σ.put id (.row (putL cs k (rep [.int .i64 0] (n - k))))):=by
 have e1 : ¬ n - k=0:=by omega
 have e2 : k+(n - k) * 1≤cs.length:=by omega
 unfold clrI
 simp only [e1,if_false,ho,e2,true_and]
 rfl
structure Cmp (σ : Store) (id : Nat) (zs : List Int) (v : IV) (s : Store) : Prop where
 out : ∃ (D : List Int) (cs : List IV),D.Pairwise (· < ·)∧(∀ x,x∈D ↔ x∈zs)∧v=.slice id 0 D.length 1∧s.obj id=some (.row cs)∧cs.take D.length=D.map iv∧D.length≤cs.length
 next : σ.next≤s.next
 other : ∀ i,i≠id→s.obj i=σ.obj i
theorem compact_c {σ : Store} {id : Nat} {zs : List Int} (hz : zs.length < 2 ^ 40) (ho : σ.obj id=some (.row (zs.map iv))) (hs : zs.Pairwise (·≤·)) :
  C Tryz.prog EE 85 [.slice id 0 zs.length 1] σ (Cmp σ id zs):=by
 refine C_f fok85 (Nat.le_of_ble_eq_true rfl) ?_
 by_cases h2 : (zs.length : Int) < 2
 ·simp only [ic85,go_sem,h2]
  refine ⟨⟨zs,zs.map iv,?_,fun _ => Iff.rfl,rfl,ho,by rw [List.take_of_length_le (by simp)],by simp⟩,Nat.le_refl _,fun _ _ => rfl⟩
  match zs,h2 with
  | [],_ => exact .nil
  | [a],_ => simp
  | a :: b :: l,h2 => simp only [List.length_cons] at h2; omega
 simp only [ic85,go_sem,h2]
 refine loop_up noT (fun i fr t => (t.obj=σ.obj∧σ.next≤t.next)∧fr=[(0,.slice id 0 zs.length 1),(3,.int .i64 ((i+1 : Nat) : Int))]∧i+1≤zs.length∧(zs.take (i+1)).Pairwise (· < ·)) zs.length ⟨⟨rfl,Nat.le_refl _⟩,rfl,by omega,?_⟩ ?_
 ·cases zs with
  | nil => exact .nil
  | cons a l => simp
 rintro i fr t hi ⟨⟨hob,hnx⟩,rfl,hle,hpw⟩
 have hot : t.obj id=some (.row (zs.map iv)):=by rw [hob]; exact ho
 have hh : ∀ (j : Nat) (h : j < zs.length),((zs.map iv).drop j).head? = some (.int .i64 zs[j]):=fun j h => by simp [List.head?_drop,h]
 have hml : (zs.map iv).length=zs.length:=List.length_map ..
 by_cases hlt : i+1 < zs.length
 ·have c1 : ((i+1 : Nat) : Int) < zs.length:=by omega
  have c2 : (0 : Int)≤((i+1 : Nat) : Int):=by omega
  have c3 : IntKind.i64.wrap (((i+1 : Nat) : Int) - 1)=(i : Int):=by rw [wrap64 (by omega) (by omega)]; omega
  have c4 : (0 : Int)≤(i : Int):=by omega
  have c5 : (i : Int) < zs.length:=by omega
  have w1:=wrapS (i:=i+1) (by omega)
  have g1:=hh (i+1) hlt
  have g2:=hh i (by omega)
  have hle2 : zs[i]≤zs[i+1]:=List.pairwise_iff_getElem.1 hs i (i+1) (by omega) hlt (by omega)
  by_cases e : zs[i+1]=zs[i]'(by omega)
  ·simp only [go_sem,c1,c2,c3,c4,c5,hot,g1,g2,e,Int.toNat_natCast,Nat.zero_add,Nat.mul_one,w1,slc_lo (show i+1≤zs.length by omega)]
   refine loop_up noT (fun j fr t => ∃ (k : Nat) (cs : List IV) (D : List Int),fr=[(0,.slice id 0 zs.length 1),(3,.int .i64 (k : Int)),(4,.slice id (i+1) (zs.length - (i+1)) 1),(5,.int .i64 ((j+1 : Nat) : Int))] ∧
    (σ.next≤t.next∧∀ q,q≠id→t.obj q=σ.obj q)∧t.obj id=some (.row cs)∧cs.length=zs.length∧k≤i+1+j∧i+1+j < zs.length∧D.length=k∧cs.take k=D.map iv∧D.Pairwise (· < ·)∧(∀ x,x∈D ↔ x∈zs.take (i+1+j+1)) ∧
    ∀ (q : Nat) (h : q < zs.length),k≤q→(cs.drop q).head? = some (.int .i64 zs[q])) (zs.length - (i+1)) ?_ ?_
   ·refine ⟨i+1,zs.map iv,zs.take (i+1),rfl,⟨by show σ.next≤t.next+10; omega,fun q _ => by rw [hob]⟩,hot,hml,by omega,by omega,by rw [List.length_take]; omega,by rw [List.map_take],hpw,fun x => ?_,fun q h _ => hh q h⟩
    exact mem_take_dup (p:=i) hlt e x
   rintro j fr u hj ⟨k,cs,D,rfl,⟨un,uo⟩,hoc,hcl,hk1,hk2,hDl,hDt,hDp,hDm,hcs⟩
   by_cases hl2 : j+1 < zs.length - (i+1)
   ·have d1 : ((j+1 : Nat) : Int) < (zs.length - (i+1) : Nat):=by omega
    have d2 : (0 : Int)≤((j+1 : Nat) : Int):=by omega
    have d3 : IntKind.i64.wrap (((j+1 : Nat) : Int) - 1)=(j : Int):=by rw [wrap64 (by omega) (by omega)]; omega
    have d4 : (0 : Int)≤(j : Int):=by omega
    have d5 : (j : Int) < (zs.length - (i+1) : Nat):=by omega
    have d6 : (0 : Int)≤(k : Int):=by omega
    have d7 : (k : Int) < zs.length:=by omega
    have d8 : k+1≤cs.length:=by omega
    have w2:=wrapS (i:=j+1) (by omega)
    have w3:=wrapS (i:=k) (by omega)
    have f1:=hcs (i+1+(j+1)) (by omega) (by omega)
    have f2:=hcs (i+1+j) (by omega) (by omega)
    by_cases e2 : zs[i+1+(j+1)]=zs[i+1+j]
    ·simp only [go_sem,d1,d2,d3,d4,d5,hoc,f1,f2,e2,Int.toNat_natCast,Nat.zero_add,Nat.mul_one,w2]
     exact ⟨by omega,k,cs,D,rfl,⟨by omega,uo⟩,rfl,hcl,by omega,by omega,hDl,hDt,hDp,fun x => (hDm x).trans (mem_take_dup (p:=i+1+j) (by omega) e2 x),hcs⟩
    ·simp only [go_sem,d1,d2,d3,d4,d5,d6,d7,d8,hoc,f1,f2,e2,Int.toNat_natCast,Nat.zero_add,Nat.mul_one,w2,w3]
     have hle3 : zs[i+1+j]≤zs[i+1+(j+1)]:=List.pairwise_iff_getElem.1 hs (i+1+j) (i+1+(j+1)) (by omega) (by omega) (by omega)
     have hn:=mem_take_new (zs:=zs) (p:=i+1+j) (by omega)
     have hlt3 : ∀ x∈D,x < zs[i+1+(j+1)]:=by
      intro x hx
      obtain ⟨q,hq,rfl⟩:=List.mem_iff_getElem.1 ((hDm x).1 hx)
      rw [List.length_take] at hq
      rw [List.getElem_take]
      by_cases hqe : q=i+1+j
      ·subst hqe; omega
      ·have:=List.pairwise_iff_getElem.1 hs q (i+1+j) (by omega) (by omega) (by omega)
       omega
     have hb1 : σ.next≤u.next+10:=by omega
     refine ⟨by omega,k+1,putL cs k [.int .i64 zs[i+1+(j+1)]],D ++ [zs[i+1+(j+1)]],rfl,⟨hb1,fun q hq => by rw [if_neg hq]; exact uo q hq⟩,rfl,?_,by omega,by omega,by rw [List.length_append,hDl]; rfl,?_,?_,fun x => ?_,fun q h hq => ?_⟩
     ·rw [putL_length (by rw [List.length_singleton]; omega)]; exact hcl
     ·rw [putL_take1 (by omega),hDt,List.map_append]; rfl
     ·exact List.pairwise_append.2 ⟨hDp,by simp,fun a ha b hb => by
       simp only [List.mem_cons,List.not_mem_nil,or_false] at hb
       subst hb; exact hlt3 a ha⟩
     ·rw [List.mem_append,hDm x]
      refine Iff.trans ?_ (hn x).symm
      simp only [List.mem_cons,List.not_mem_nil,or_false]
      exact Iff.rfl
     ·rw [putL_drop1 (by omega) (by omega)]
      exact hcs q h (by omega)
   ·have d1 : ¬ ((j+1 : Nat) : Int) < (zs.length - (i+1) : Nat):=by omega
    have hkn : k < zs.length:=by omega
    have hj' : i+1+j+1=zs.length:=by omega
    rw [hj',List.take_length] at hDm
    simp only [go_sem,d1,slc_lo (show k≤zs.length by omega),slc_hi (show k≤zs.length by omega),hoc,w_clr,clr_row hoc hkn (by omega)]
    have hrl : (rep [IV.int .i64 0] (zs.length - k)).length=zs.length - k:=by rw [rep_length]; simp
    refine ⟨⟨D,putL cs k (rep [IV.int .i64 0] (zs.length - k)),hDp,hDm,by rw [hDl],by simp only [put_obj,if_true],by rw [hDl,putL_take (by omega)]; exact hDt,?_⟩,un,fun q hq => ?_⟩
    ·rw [putL_length (by rw [hrl]; omega),hDl]; omega
    ·simp only [put_obj,if_neg hq]
     exact uo q hq
  ·simp only [go_sem,c1,c2,c3,c4,c5,hot,g1,g2,e,Int.toNat_natCast,Nat.zero_add,Nat.mul_one,w1]
   refine ⟨by omega,⟨hob,by show σ.next≤_; omega⟩,by omega,?_⟩
   rw [List.take_add_one,List.getElem?_eq_getElem hlt,List.pairwise_append]
   refine ⟨hpw,by simp,fun a ha b hb => ?_⟩
   simp only [Option.toList,List.mem_cons,List.not_mem_nil,or_false] at hb
   subst hb
   obtain ⟨j,hj,rfl⟩:=List.mem_iff_getElem.1 ha
   rw [List.length_take] at hj
   rw [List.getElem_take]
   have:=List.pairwise_iff_getElem.1 hs j i (by omega) (by omega)
   by_cases hji : j=i
   ·subst hji; omega
   ·have:=this (by omega); omega
 ·have hi' : i+1=zs.length:=by omega
  have c1 : ¬ ((i+1 : Nat) : Int) < zs.length:=by omega
  simp only [go_sem,c1]
  rw [hi',List.take_length] at hpw
  exact ⟨⟨zs,zs.map iv,hpw,fun _ => Iff.rfl,rfl,hot,by rw [List.take_of_length_le (by simp)],by simp⟩,hnx,fun j _ => by rw [hob]⟩
end Go.Id.Tryz
/- Whom a package obsoletes: rows gathered,sorted,what stands twice taken out. Conditions: sizes that fit. -/
namespace Go.Id.Tryz
open Go Go.Id Go.Proofs Go.Shelf Go.Id.Md
set_option maxRecDepth 100000
theorem up_unique : ∀ {a b : List Int},a.Pairwise (· < ·)→b.Pairwise (· < ·)→(∀ x,x∈a ↔ x∈b)→a=b:=by
 intro a
 induction a with
 | nil =>
  intro b _ _ h
  cases b with
  | nil => rfl
  | cons y b => exact absurd ((h y).2 (List.mem_cons_self ..)) (by simp)
 | cons x a ih =>
  intro b ha hb h
  cases b with
  | nil => exact absurd ((h x).1 (List.mem_cons_self ..)) (by simp)
  | cons y b =>
   obtain ⟨a1,a2⟩:=List.pairwise_cons.1 ha
   obtain ⟨b1,b2⟩:=List.pairwise_cons.1 hb
   have e : x=y:=by
    rcases List.mem_cons.1 ((h x).1 (List.mem_cons_self ..)) with e | e
    ·exact e
    ·have l1:=b1 x e
     rcases List.mem_cons.1 ((h y).2 (List.mem_cons_self ..)) with e2 | e2
     ·exact e2.symm
     ·have l2:=a1 y e2; omega
   subst e
   rw [ih a2 b2 fun z => ?_]
   constructor
   ·intro hz
    have l1:=a1 z hz
    rcases List.mem_cons.1 ((h z).1 (List.mem_cons_of_mem _ hz)) with e | e
    ·omega
    ·exact e
   ·intro hz
    have l1:=b1 z hz
    rcases List.mem_cons.1 ((h z).2 (List.mem_cons_of_mem _ hz)) with e | e
    ·omega
    ·exact e
end Go.Id.Tryz
/- Whom a package obsoletes: the function walked. Conditions: sizes that fit. -/
namespace Go.Id
open Go Go.Id
end Go.Id
namespace Go.Id.Tryz
open Go Go.Id Go.Proofs Go.Shelf Go.Id.Md
set_option maxRecDepth 100000
end Go.Id.Tryz
/- MatchTurned. Conditions: sizes that fit. -/
namespace Go.Id.Tryz
open Go Go.Id Go.Proofs Go.Id.Md
set_option maxRecDepth 100000
end Go.Id.Tryz
