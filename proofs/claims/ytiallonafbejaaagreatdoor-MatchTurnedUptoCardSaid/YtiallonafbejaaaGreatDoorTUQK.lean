/- Indexes asked: who obsoletes whom. Conditions: sizes that fit. -/
import Derived.Test.YtiallonafbejaaaGreatDoorTUQH
import Derived.Test.YtiallonafbejaaaGreatDoorTUSI
import Derived.Test.YtiallonafbejaaaGreatDoorTUPZm
set_option linter.all false
namespace Go.Id.Tryz
open Go Go.Id Go.Proofs Go.Id.Md
set_option maxRecDepth 100000
theorem isOf_pc (x : Index) (n : Int) : PC Tryz.prog EE 81 [x.v,.int .i64 n] (.bool (decide (0≤n) && decide (n < x.all.length))):=by
 refine PC_e hE fok81 (Nat.le_of_ble_eq_true rfl) (two_mem (bnd_idx x) (.int _ _)) ?_
 have hx : x.v=.tptr [.tslice (x.all.map Package.cs),.tmap (nmV x.prov),.tmap (nmV x.names),.tmap (nmV x.over)]:=rfl
 have hnil : ∀ (d : TypeId) (cs : List IV) (c : IV),nilI (.pointer d) (.tptr (c :: cs))=some false:=fun _ _ _ => rfl
 rw [hx]
 have hlen : (x.all.map Package.cs).length=x.all.length:=List.length_map ..
 generalize x.all.map Package.cs=es at *
 generalize x.all.length=k at *
 by_cases h1 : 0≤n
 ·by_cases h2 : n < (k : Nat)
  ·have h2' : n < (es.length : Nat):=by omega
   simp only [ic81,go_sem,hnil,h1,h2,h2',hlen,Bool.and_self]
   exact frz_bool _
  ·have h2' : ¬ n < (es.length : Nat):=by omega
   simp only [ic81,go_sem,hnil,h1,h2,h2',hlen,Bool.and_false]
   exact frz_bool _
 ·simp only [ic81,go_sem,hnil,h1,Bool.false_and]
  exact frz_bool _
theorem obsClI_pc (l : List Package) (m n : Nat) (hm : m < l.length) (hn : n < l.length) (hs : ∀ p∈l,Pkg.small p) :
  PC Tryz.prog EE 86 [.agg l[m].cs,.int .i64 m,.tptr [.int .i64 n],.tptr [(idxM l).v]] (.bool (decide (m≠n) && obsoletes l[m] l[n])):=by
 refine PC_e hE fok86 (Nat.le_of_ble_eq_true rfl) (fun a ha => by
  simp only [List.mem_cons,List.not_mem_nil,or_false] at ha
  rcases ha with rfl | rfl | rfl | rfl
  ·exact bnd_pkgA _
  ·exact .int _ _
  ·exact .tptr _ (one_mem (.int _ _))
  ·exact .tptr _ (one_mem (bnd_idx _))) ?_
 have hx : (idxM l).v=.tptr [.tslice (l.map Package.cs),.tmap (nmV (idxM l).prov),.tmap (nmV (idxM l).names),.tmap (nmV (idxM l).over)]:=by
  show IV.tptr [.tslice ((idxM l).all.map Package.cs),_,_,_]=_
  rw [(idxM_is l).all]
 have ho:=obsoletes_pc l[m] l[n] (hs _ (List.getElem_mem hm)) (hs _ (List.getElem_mem hn))
 have hg : (l.map Package.cs).getD n []=l[n].cs:=by simp [List.getD_eq_getElem?_getD,hn]
 have hl : (l.map Package.cs).length=l.length:=List.length_map ..
 rw [hx]
 generalize l.map Package.cs=es at *
 by_cases e : m=n
 ·have e' : (m : Int)=n:=by omega
  simp only [ic86,go_sem,pkg_lenA,pkg_takeA,pkg_leafA,e',e,ne_eq,not_true_eq_false,decide_false,Bool.false_and]
  exact frz_bool _
 ·have e' : ¬ (m : Int)=n:=by omega
  have c1 : (0 : Int)≤n:=by omega
  have c2 : (n : Int) < es.length:=by omega
  simp only [ic86,go_sem,pkg_lenA,pkg_takeA,pkg_leafA,e',e,c1,c2,hg,ne_eq,not_false_eq_true,decide_true,Bool.true_and]
  refine call_pc fok21 ho ?_
  simp only [go_sem]
  exact frz_bool _
def obsoletersM (l : List Package) (n : Nat) : List Int:=(nmLook (idxM l).over (l.getD n default).name).filter fun k => decide (k.toNat≠n) && obsoletes (l.getD k.toNat default) (l.getD n default)
theorem obsoletersM_mem {l : List Package} {n : Nat} {k : Int} : k∈obsoletersM l n ↔ ∃ m : Nat,k=m∧m < l.length∧m≠n∧obsoletes (l.getD m default) (l.getD n default)=true:=by
 unfold obsoletersM
 rw [(idxM_is l).over,List.mem_filter]
 constructor
 ·rintro ⟨h1,h2⟩
  obtain ⟨m,rfl,h3,_⟩:=numsOf_mem.1 h1
  simp only [Int.toNat_natCast,Bool.and_eq_true,decide_eq_true_eq] at h2
  exact ⟨m,rfl,h3,h2.1,h2.2⟩
 ·rintro ⟨m,rfl,h1,h2,h3⟩
  refine ⟨numsOf_mem.2 ⟨m,rfl,h1,?_⟩,?_⟩
  ·obtain ⟨d,h4,h5⟩:=List.any_eq_true.1 h3
   refine decide_eq_true ⟨d,h4,?_⟩
   simp only [named,meets,Bool.and_eq_true,decide_eq_true_eq] at h5
   exact h5.1.symm
  ·simp only [Int.toNat_natCast,Bool.and_eq_true,decide_eq_true_eq]
   exact ⟨h2,h3⟩
theorem obsoletersM_up (l : List Package) (n : Nat) : (obsoletersM l n).Pairwise (· < ·):=by
 unfold obsoletersM
 rw [(idxM_is l).over]
 exact List.Pairwise.filter _ (numsOf_up _ _)
theorem obsoletersM_len (l : List Package) (n : Nat) : (obsoletersM l n).length≤l.length:=by
 unfold obsoletersM
 rw [(idxM_is l).over]
 exact Nat.le_trans (List.length_filter_le _ _) (numsOf_len _ _)
theorem idxObsoleters_pc (l : List Package) (n : Nat) (hl : l.length < 2 ^ 20) (hn : n < l.length) (hs : ∀ p∈l,Pkg.small p) : PC Tryz.prog EE 26 [(idxM l).v,.int .i64 n] (.tslice ((obsoletersM l n).map Md.intC)):=by
 have hi:=idxM_is l
 have hb:=bnd_idx (idxM l)
 refine PC_e hE fok26 (Nat.le_of_ble_eq_true rfl) (two_mem hb (.int _ _)) ?_
 have hbc : ∀ c∈[IV.tptr [.int .i64 n],.tptr [(idxM l).v]],Bnd 0 c:=two_mem (.tptr _ (one_mem (.int _ _))) (.tptr _ (one_mem hb))
 have hlook:=hi.over (l.getD n default).name
 have hsift : ∀ v,(v=.tslice ((nmLook (idxM l).over (l.getD n default).name).map Md.intC) ∨ v=.nilslice∧nmLook (idxM l).over (l.getD n default).name=[])→PC Tryz.prog EE 82 [(idxM l).v,v,.func (.func 86) [] [.tptr [.int .i64 n],.tptr [(idxM l).v]]] (.tslice ((obsoletersM l n).map Md.intC)):=by
  intro v hv
  have h:=sift_pc (idxM l) (nmLook (idxM l).over (l.getD n default).name) (by rw [hlook]; have:=numsOf_len (fun p => decide (∃ d∈p.obsoletes,d.name=(l.getD n default).name)) l; omega) 86 [.tptr [.int .i64 n],.tptr [(idxM l).v]] (fun k => decide (k.toNat≠n) && obsoletes (l.getD k.toNat default) (l.getD n default)) hbc fok86.1 (fun k hk => by
   rw [hlook] at hk
   obtain ⟨m,rfl,hm⟩:=numsOf_at hk
   refine ⟨m,rfl,by rw [hi.all]; exact hm,?_⟩
   have e : (idxM l).all[m]'(by rw [hi.all]; exact hm)=l[m]:=by simp only [hi.all]
   rw [e,Int.toNat_natCast,getD_at l m hm,getD_at l n hn]
   exact obsClI_pc l m n hm hn hs)
  rcases hv with rfl | ⟨rfl,h0⟩
  ·exact h
  ·rw [h0] at h
   have hw : ∀ {v : IV} {σ : Store},Bnd 0 v→Frz σ (fun _ => true=true) v v:=fun h => .keep _ (h.weak fun _ _ => rfl)
   have h2 : PC Tryz.prog EE 82 [(idxM l).v,.nilslice,.func (.func 86) [] [.tptr [.int .i64 n],.tptr [(idxM l).v]]] (.tslice ((([] : List Int).filter fun k => decide (k.toNat≠n) && obsoletes (l.getD k.toNat default) (l.getD n default)).map Md.intC)):=by
    refine PC_weak (args':=[(idxM l).v,.tslice [],.func (.func 86) [] [.tptr [.int .i64 n],.tptr [(idxM l).v]]]) rfl (fun σ i hi => ?_) h
    match i,hi with
    | 0,_ => exact hw hb
    | 1,_ => exact .nils
    | 2,_ => exact hw (.func _ _ _ (fun c hc => by cases hc) hbc)
   have e : obsoletersM l n=([] : List Int).filter fun k => decide (k.toNat≠n) && obsoletes (l.getD k.toNat default) (l.getD n default):=by
    unfold obsoletersM; rw [h0]
   rw [e]; exact h2
 have hx : (idxM l).v=.tptr [.tslice (l.map Package.cs),.tmap (nmV (idxM l).prov),.tmap (nmV (idxM l).names),.tmap (nmV (idxM l).over)]:=by
  show IV.tptr [.tslice ((idxM l).all.map Package.cs),_,_,_]=_
  rw [hi.all]
 have his:=isOf_pc (idxM l) n
 have i1 : (decide ((0 : Int)≤(n : Int)) && decide ((n : Int) < (idxM l).all.length))=true:=by
  rw [hi.all]; simp only [Bool.and_eq_true,decide_eq_true_eq]; omega
 rw [i1] at his
 have hres:=bnd_ints (obsoletersM l n)
 have hk0 : ∀ σ : Store,∃ v,lkpI σ 2 .nilslice false (.tmap (nmV (idxM l).over)) (.str (l.getD n default).name)=some v∧PC Tryz.prog EE 82 [(idxM l).v,v,.func (.func 86) [] [.tptr [.int .i64 n],.tptr [(idxM l).v]]] (.tslice ((obsoletersM l n).map Md.intC)):=fun σ =>
  let ⟨v,h1,h2⟩:=lkp_nm (idxM l).over σ (l.getD n default).name
  ⟨v,h1,hsift v h2⟩
 have hg : (l.map Package.cs).getD n []=l[n].cs:=by simp [List.getD_eq_getElem?_getD,hn]
 have hle : (l.map Package.cs).length=l.length:=List.length_map ..
 have hnm : (l.getD n default).name=l[n].name:=by rw [getD_at l n hn]
 have p0 : l[n].cs.head? = some (.str l[n].name):=rfl
 clear hsift hlook i1
 rw [hnm] at hk0
 rw [hx] at hk0 his ⊢
 generalize obsoletersM l n=res at *
 generalize l.map Package.cs=a0 at *
 generalize l[n]=q at *
 have c1 : (0 : Int)≤n:=by omega
 have c2 : (n : Int) < a0.length:=by omega
 simp only [ic26,go_sem]
 refine call_pc fok81 his ?_
 obtain ⟨v,hk,hsv⟩:=hk0 ⟨17,emp.obj⟩
 simp only [go_sem,c1,c2,hg,p0,pkg_lenA,pkg_takeA,pkg_leafA,hk]
 refine call_pc fok82 hsv ?_
 simp only [go_sem]
 exact .keep _ hres
end Go.Id.Tryz
/- What stands twice taken out of a row of one's own (slices.Compact of numbers). Conditions: the row is in order. -/
namespace Go.Id.Tryz
open Go Go.Id Go.Proofs Go.Id.Md
set_option maxRecDepth 100000
abbrev iv (n : Int) : IV:=.int .i64 n
theorem slc_lo {id n k : Nat} (h : k≤n) : slcI 1 (some (.int .i64 (k : Int))) none (.slice id 0 n 1)=some (.slice id k (n - k) 1):=by
 have e : (0 : Int)≤k:=by omega
 simp [slcI,bndI,natI,e,h]
theorem slc_hi {id n k : Nat} (h : k≤n) : slcI 1 none (some (.int .i64 (k : Int))) (.slice id 0 n 1)=some (.slice id 0 k 1):=by
 have e : (0 : Int)≤k:=by omega
 simp [slcI,bndI,natI,e,h]
theorem mem_take_new {zs : List Int} {p : Nat} (h : p+1 < zs.length) (x : Int) : x∈zs.take (p+1+1) ↔ x∈zs.take (p+1) ∨ x=zs[p+1]:=by
 rw [List.take_add_one (i:=p+1),List.getElem?_eq_getElem h,List.mem_append]
 simp [Option.toList]
theorem mem_take_dup {zs : List Int} {p : Nat} (h : p+1 < zs.length) (e : zs[p+1]=zs[p]) (x : Int) : x∈zs.take (p+1) ↔ x∈zs.take (p+1+1):=by
 rw [mem_take_new h]
 refine ⟨.inl,fun q => q.elim (fun q => q) fun q => ?_⟩
 rw [q,e]
 exact List.mem_iff_getElem.2 ⟨p,by rw [List.length_take]; omega,by rw [List.getElem_take]⟩
theorem putL_take {cs vs : List IV} {k : Nat} (h : k≤cs.length) : (putL cs k vs).take k=cs.take k:=by
 unfold putL
 rw [List.append_assoc,List.take_append_of_le_length (by rw [List.length_take]; omega),List.take_take,Nat.min_self]
theorem putL_take1 {cs : List IV} {v : IV} {k : Nat} (h : k≤cs.length) : (putL cs k [v]).take (k+1)=cs.take k ++ [v]:=by
 unfold putL
 have e : (cs.take k ++ [v]).length=k+1:=by rw [List.length_append,List.length_take,List.length_singleton]; omega
 rw [List.take_append_of_le_length (by omega),List.take_of_length_le (by omega)]
theorem putL_drop1 {cs : List IV} {v : IV} {k q : Nat} (h : k < q) (hk : k≤cs.length) : (putL cs k [v]).drop q=cs.drop q:=by
 unfold putL
 have e : (cs.take k ++ [v]).length=k+1:=by rw [List.length_append,List.length_take,List.length_singleton]; omega
 rw [List.drop_append,e,List.drop_of_length_le (by omega),List.nil_append,List.drop_drop,List.length_singleton]
 congr 1; omega
theorem w_clr {pt : PT} {ct : CT} {P : Program} {E : Nat→IV} {e id : Nat} {z : List IV} {x : IX} {fr : Frm} {σ : Store} {K : IV→Store→Prop} : opT pt ct P E (.clr e z x) id fr σ K=optK (clrI σ e z (x.ev E fr)) fun σ' => σ'.next=σ.next∧K .undef σ':=rfl
theorem clr_row {σ : Store} {id k n : Nat} {cs : List IV} (ho : σ.obj id=some (.row cs)) (h1 : k < n) (h2 : n≤cs.length) : clrI σ 1 [.int .i64 0] (.slice id k (n - k) 1)=some (σ.put id (.row (putL cs k (rep [.int .i64 0] (n - k))))):=by
 have e1 : ¬ n - k=0:=by omega
 have e2 : k+(n - k) * 1≤cs.length:=by omega
 unfold clrI
 simp only [e1,if_false,ho,e2,true_and]
 rfl
structure Cmp (σ : Store) (id : Nat) (zs : List Int) (v : IV) (s : Store) : Prop where
 out : ∃ (D : List Int) (cs : List IV),D.Pairwise (· < ·)∧(∀ x,x∈D ↔ x∈zs)∧v=.slice id 0 D.length 1∧s.obj id=some (.row cs)∧cs.take D.length=D.map iv∧D.length≤cs.length
 next : σ.next≤s.next
 other : ∀ i,i≠id→s.obj i=σ.obj i
theorem compact_c {σ : Store} {id : Nat} {zs : List Int} (hz : zs.length < 2 ^ 40) (ho : σ.obj id=some (.row (zs.map iv))) (hs : zs.Pairwise (·≤·)) :
  C Tryz.prog EE 85 [.slice id 0 zs.length 1] σ (Cmp σ id zs):=by
 refine C_f fok85 (Nat.le_of_ble_eq_true rfl) ?_
 by_cases h2 : (zs.length : Int) < 2
 ·simp only [ic85,go_sem,h2]
  refine ⟨⟨zs,zs.map iv,?_,fun _ => Iff.rfl,rfl,ho,by rw [List.take_of_length_le (by simp)],by simp⟩,Nat.le_refl _,fun _ _ => rfl⟩
  match zs,h2 with
  | [],_ => exact .nil
  | [a],_ => simp
  | a :: b :: l,h2 => simp only [List.length_cons] at h2; omega
 simp only [ic85,go_sem,h2]
 refine loop_up noT (fun i fr t => (t.obj=σ.obj∧σ.next≤t.next)∧fr=[(0,.slice id 0 zs.length 1),(3,.int .i64 ((i+1 : Nat) : Int))]∧i+1≤zs.length∧(zs.take (i+1)).Pairwise (· < ·)) zs.length ⟨⟨rfl,Nat.le_refl _⟩,rfl,by omega,?_⟩ ?_
 ·cases zs with
  | nil => exact .nil
  | cons a l => simp
 rintro i fr t hi ⟨⟨hob,hnx⟩,rfl,hle,hpw⟩
 have hot : t.obj id=some (.row (zs.map iv)):=by rw [hob]; exact ho
 have hh : ∀ (j : Nat) (h : j < zs.length),((zs.map iv).drop j).head? = some (.int .i64 zs[j]):=fun j h => by simp [List.head?_drop,h]
 have hml : (zs.map iv).length=zs.length:=List.length_map ..
 by_cases hlt : i+1 < zs.length
 ·have c1 : ((i+1 : Nat) : Int) < zs.length:=by omega
  have c2 : (0 : Int)≤((i+1 : Nat) : Int):=by omega
  have c3 : IntKind.i64.wrap (((i+1 : Nat) : Int) - 1)=(i : Int):=by rw [wrap64 (by omega) (by omega)]; omega
  have c4 : (0 : Int)≤(i : Int):=by omega
  have c5 : (i : Int) < zs.length:=by omega
  have w1:=wrapS (i:=i+1) (by omega)
  have g1:=hh (i+1) hlt
  have g2:=hh i (by omega)
  have hle2 : zs[i]≤zs[i+1]:=List.pairwise_iff_getElem.1 hs i (i+1) (by omega) hlt (by omega)
  by_cases e : zs[i+1]=zs[i]'(by omega)
  ·simp only [go_sem,c1,c2,c3,c4,c5,hot,g1,g2,e,Int.toNat_natCast,Nat.zero_add,Nat.mul_one,w1,slc_lo (show i+1≤zs.length by omega)]
   refine loop_up noT (fun j fr t => ∃ (k : Nat) (cs : List IV) (D : List Int),fr=[(0,.slice id 0 zs.length 1),(3,.int .i64 (k : Int)),(4,.slice id (i+1) (zs.length - (i+1)) 1),(5,.int .i64 ((j+1 : Nat) : Int))] ∧
    (σ.next≤t.next∧∀ q,q≠id→t.obj q=σ.obj q)∧t.obj id=some (.row cs)∧cs.length=zs.length∧k≤i+1+j∧i+1+j < zs.length∧D.length=k∧cs.take k=D.map iv∧D.Pairwise (· < ·)∧(∀ x,x∈D ↔ x∈zs.take (i+1+j+1)) ∧
    ∀ (q : Nat) (h : q < zs.length),k≤q→(cs.drop q).head? = some (.int .i64 zs[q])) (zs.length - (i+1)) ?_ ?_
   ·refine ⟨i+1,zs.map iv,zs.take (i+1),rfl,⟨by show σ.next≤t.next+10; omega,fun q _ => by rw [hob]⟩,hot,hml,by omega,by omega,by rw [List.length_take]; omega,by rw [List.map_take],hpw,fun x => ?_,fun q h _ => hh q h⟩
    exact mem_take_dup (p:=i) hlt e x
   rintro j fr u hj ⟨k,cs,D,rfl,⟨un,uo⟩,hoc,hcl,hk1,hk2,hDl,hDt,hDp,hDm,hcs⟩
   by_cases hl2 : j+1 < zs.length - (i+1)
   ·have d1 : ((j+1 : Nat) : Int) < (zs.length - (i+1) : Nat):=by omega
    have d2 : (0 : Int)≤((j+1 : Nat) : Int):=by omega
    have d3 : IntKind.i64.wrap (((j+1 : Nat) : Int) - 1)=(j : Int):=by rw [wrap64 (by omega) (by omega)]; omega
    have d4 : (0 : Int)≤(j : Int):=by omega
    have d5 : (j : Int) < (zs.length - (i+1) : Nat):=by omega
    have d6 : (0 : Int)≤(k : Int):=by omega
    have d7 : (k : Int) < zs.length:=by omega
    have d8 : k+1≤cs.length:=by omega
    have w2:=wrapS (i:=j+1) (by omega)
    have w3:=wrapS (i:=k) (by omega)
    have f1:=hcs (i+1+(j+1)) (by omega) (by omega)
    have f2:=hcs (i+1+j) (by omega) (by omega)
    by_cases e2 : zs[i+1+(j+1)]=zs[i+1+j]
    ·simp only [go_sem,d1,d2,d3,d4,d5,hoc,f1,f2,e2,Int.toNat_natCast,Nat.zero_add,Nat.mul_one,w2]
     exact ⟨by omega,k,cs,D,rfl,⟨by omega,uo⟩,rfl,hcl,by omega,by omega,hDl,hDt,hDp,fun x => (hDm x).trans (mem_take_dup (p:=i+1+j) (by omega) e2 x),hcs⟩
    ·simp only [go_sem,d1,d2,d3,d4,d5,d6,d7,d8,hoc,f1,f2,e2,Int.toNat_natCast,Nat.zero_add,Nat.mul_one,w2,w3]
     have hle3 : zs[i+1+j]≤zs[i+1+(j+1)]:=List.pairwise_iff_getElem.1 hs (i+1+j) (i+1+(j+1)) (by omega) (by omega) (by omega)
     have hn:=mem_take_new (zs:=zs) (p:=i+1+j) (by omega)
     have hlt3 : ∀ x∈D,x < zs[i+1+(j+1)]:=by
      intro x hx
      obtain ⟨q,hq,rfl⟩:=List.mem_iff_getElem.1 ((hDm x).1 hx)
      rw [List.length_take] at hq
      rw [List.getElem_take]
      by_cases hqe : q=i+1+j
      ·subst hqe; omega
      ·have:=List.pairwise_iff_getElem.1 hs q (i+1+j) (by omega) (by omega) (by omega)
       omega
     have hb1 : σ.next≤u.next+10:=by omega
     refine ⟨by omega,k+1,putL cs k [.int .i64 zs[i+1+(j+1)]],D ++ [zs[i+1+(j+1)]],rfl,⟨hb1,fun q hq => by rw [if_neg hq]; exact uo q hq⟩,rfl,?_,by omega,by omega,by rw [List.length_append,hDl]; rfl,?_,?_,fun x => ?_,fun q h hq => ?_⟩
     ·rw [putL_length (by rw [List.length_singleton]; omega)]; exact hcl
     ·rw [putL_take1 (by omega),hDt,List.map_append]; rfl
     ·exact List.pairwise_append.2 ⟨hDp,by simp,fun a ha b hb => by
       simp only [List.mem_cons,List.not_mem_nil,or_false] at hb
       subst hb; exact hlt3 a ha⟩
     ·rw [List.mem_append,hDm x]
      refine Iff.trans ?_ (hn x).symm
      simp only [List.mem_cons,List.not_mem_nil,or_false]
      exact Iff.rfl
     ·rw [putL_drop1 (by omega) (by omega)]
      exact hcs q h (by omega)
   ·have d1 : ¬ ((j+1 : Nat) : Int) < (zs.length - (i+1) : Nat):=by omega
    have hkn : k < zs.length:=by omega
    have hj' : i+1+j+1=zs.length:=by omega
    rw [hj',List.take_length] at hDm
    simp only [go_sem,d1,slc_lo (show k≤zs.length by omega),slc_hi (show k≤zs.length by omega),hoc,w_clr,clr_row hoc hkn (by omega)]
    have hrl : (rep [IV.int .i64 0] (zs.length - k)).length=zs.length - k:=by rw [rep_length]; simp
    refine ⟨⟨D,putL cs k (rep [IV.int .i64 0] (zs.length - k)),hDp,hDm,by rw [hDl],by simp only [put_obj,if_true],by rw [hDl,putL_take (by omega)]; exact hDt,?_⟩,un,fun q hq => ?_⟩
    ·rw [putL_length (by rw [hrl]; omega),hDl]; omega
    ·simp only [put_obj,if_neg hq]
     exact uo q hq
  ·simp only [go_sem,c1,c2,c3,c4,c5,hot,g1,g2,e,Int.toNat_natCast,Nat.zero_add,Nat.mul_one,w1]
   refine ⟨by omega,⟨hob,by show σ.next≤_; omega⟩,by omega,?_⟩
   rw [List.take_add_one,List.getElem?_eq_getElem hlt,List.pairwise_append]
   refine ⟨hpw,by simp,fun a ha b hb => ?_⟩
   simp only [Option.toList,List.mem_cons,List.not_mem_nil,or_false] at hb
   subst hb
   obtain ⟨j,hj,rfl⟩:=List.mem_iff_getElem.1 ha
   rw [List.length_take] at hj
   rw [List.getElem_take]
   have:=List.pairwise_iff_getElem.1 hs j i (by omega) (by omega)
   by_cases hji : j=i
   ·subst hji; omega
   ·have:=this (by omega); omega
 ·have hi' : i+1=zs.length:=by omega
  have c1 : ¬ ((i+1 : Nat) : Int) < zs.length:=by omega
  simp only [go_sem,c1]
  rw [hi',List.take_length] at hpw
  exact ⟨⟨zs,zs.map iv,hpw,fun _ => Iff.rfl,rfl,hot,by rw [List.take_of_length_le (by simp)],by simp⟩,hnx,fun j _ => by rw [hob]⟩
end Go.Id.Tryz
/- Whom a package obsoletes: rows gathered,sorted,what stands twice taken out. Conditions: sizes that fit. -/
namespace Go.Id.Tryz
open Go Go.Id Go.Proofs Go.Shelf Go.Id.Md
set_option maxRecDepth 100000
theorem up_unique : ∀ {a b : List Int},a.Pairwise (· < ·)→b.Pairwise (· < ·)→(∀ x,x∈a ↔ x∈b)→a=b:=by
 intro a
 induction a with
 | nil =>
  intro b _ _ h
  cases b with
  | nil => rfl
  | cons y b => exact absurd ((h y).2 (List.mem_cons_self ..)) (by simp)
 | cons x a ih =>
  intro b ha hb h
  cases b with
  | nil => exact absurd ((h x).1 (List.mem_cons_self ..)) (by simp)
  | cons y b =>
   obtain ⟨a1,a2⟩:=List.pairwise_cons.1 ha
   obtain ⟨b1,b2⟩:=List.pairwise_cons.1 hb
   have e : x=y:=by
    rcases List.mem_cons.1 ((h x).1 (List.mem_cons_self ..)) with e | e
    ·exact e
    ·have l1:=b1 x e
     rcases List.mem_cons.1 ((h y).2 (List.mem_cons_self ..)) with e2 | e2
     ·exact e2.symm
     ·have l2:=a1 y e2; omega
   subst e
   rw [ih a2 b2 fun z => ?_]
   constructor
   ·intro hz
    have l1:=a1 z hz
    rcases List.mem_cons.1 ((h z).1 (List.mem_cons_of_mem _ hz)) with e | e
    ·omega
    ·exact e
   ·intro hz
    have l1:=b1 z hz
    rcases List.mem_cons.1 ((h z).2 (List.mem_cons_of_mem _ hz)) with e | e
    ·omega
    ·exact e
theorem C_sortNil {P : Program} {E : Nat→IV} {f : Nat} (hn : ∀ (p : Option Addr) (cap : Nat) (w : World),Calls P f #[.slice p 0 cap] w fun e w' => e=.returned (.tuple #[])∧w'=w) {σ : Store} : C P E f [.nilslice] σ fun v s => v=.tuple []∧s=σ:=by
 intro ρ w rargs hs hr
 obtain ⟨hr1,hr2⟩:=hr
 have hv0:=hr2 0 (by simp)
 obtain ⟨al⟩:=rargs
 match al,hr1,hv0 with
 | [r],_,hv0 =>
  have hv0 : VR ρ w .nilslice r:=hv0
  cases hv0
  refine callsIn_wide.2 ((hn _ _ w).mono ?_)
  rintro e w' ⟨rfl,rfl⟩
  exact ⟨.tuple [],_,ρ,σ,rfl,⟨rfl,rfl⟩,hs,.tuple [] #[] rfl (fun i hi => by simp at hi),ExtW.refl _ _ _⟩
theorem sortNil_c {σ : Store} : C Tryz.prog EE 84 [.nilslice] σ fun v s => v=.tuple []∧s=σ:=C_sortNil fun p cap w => Any.slices_Sort_int_none laysI p cap w
theorem compactNil_c {σ : Store} : C Tryz.prog EE 85 [.nilslice] σ fun v s => v=.nilslice∧s.obj=σ.obj∧σ.next≤s.next:=by
 refine C_f fok85 (Nat.le_of_ble_eq_true rfl) ?_
 simp only [ic85,go_sem]
 exact Nat.le_refl _
theorem obdCl_pc (l : List Package) (d : Dep) (m n : Nat) (hm : m < l.length) (hs : ∀ p∈l,Pkg.small p) (hd : Dep.small d) :
  PC Tryz.prog EE 83 [.agg l[m].cs,.int .i64 m,.tptr [.int .i64 n],.tptr d.cs] (.bool (decide (m≠n) && named l[m] d)):=by
 refine PC_e hE fok83 (Nat.le_of_ble_eq_true rfl) (fun a ha => by
  simp only [List.mem_cons,List.not_mem_nil,or_false] at ha
  rcases ha with rfl | rfl | rfl | rfl
  ·exact bnd_pkgA _
  ·exact .int _ _
  ·exact .tptr _ (one_mem (.int _ _))
  ·exact bnd_dep0 d) ?_
 have ho:=named_pc l[m] d (hs _ (List.getElem_mem hm)) hd
 by_cases e : m=n
 ·have e' : (m : Int)=n:=by omega
  simp only [ic83,go_sem,pkg_lenA,pkg_takeA,pkg_leafA,dep_len,dep_take,dep_leaf,e',e,ne_eq,not_true_eq_false,decide_false,Bool.false_and]
  exact frz_bool _
 ·have e' : ¬ (m : Int)=n:=by omega
  simp only [ic83,go_sem,pkg_lenA,pkg_takeA,pkg_leafA,dep_len,dep_take,dep_leaf,e',e,ne_eq,not_false_eq_true,decide_true,Bool.true_and]
  refine call_pc fok32 ho ?_
  simp only [go_sem]
  exact frz_bool _
def hitM (l : List Package) (n : Nat) (d : Dep) : List Int:=(nmLook (idxM l).names d.name).filter fun k => decide (k.toNat≠n) && named (l.getD k.toNat default) d
def hitsM (l : List Package) (n : Nat) (ds : List Dep) : List Int:=ds.flatMap (hitM l n)
def obsoletedM (l : List Package) (n : Nat) : List Int:=((List.range l.length).filter fun m => decide (m≠n) && obsoletes (l.getD n default) (l.getD m default)).map fun (m : Nat) => (m : Int)
theorem hitM_mem {l : List Package} {n : Nat} {d : Dep} {k : Int} : k∈hitM l n d ↔ ∃ m : Nat,k=m∧m < l.length∧m≠n∧named (l.getD m default) d=true:=by
 unfold hitM
 rw [(idxM_is l).names,List.mem_filter]
 constructor
 ·rintro ⟨h1,h2⟩
  obtain ⟨m,rfl,h3,_⟩:=numsOf_mem.1 h1
  simp only [Int.toNat_natCast,Bool.and_eq_true,decide_eq_true_eq] at h2
  exact ⟨m,rfl,h3,h2.1,h2.2⟩
 ·rintro ⟨m,rfl,h1,h2,h3⟩
  refine ⟨numsOf_mem.2 ⟨m,rfl,h1,?_⟩,?_⟩
  ·have h5:=h3
   simp only [named,meets,Bool.and_eq_true,decide_eq_true_eq] at h5
   exact decide_eq_true h5.1
  ·simp only [Int.toNat_natCast,Bool.and_eq_true,decide_eq_true_eq]
   exact ⟨h2,h3⟩
theorem hitM_len (l : List Package) (n : Nat) (d : Dep) : (hitM l n d).length≤l.length:=by
 unfold hitM
 rw [(idxM_is l).names]
 exact Nat.le_trans (List.length_filter_le _ _) (numsOf_len _ _)
theorem hitsM_len (l : List Package) (n : Nat) (ds : List Dep) : (hitsM l n ds).length≤ds.length * l.length:=by
 induction ds with
 | nil => simp [hitsM]
 | cons d ds ih =>
  have:=hitM_len l n d
  simp only [hitsM,List.flatMap_cons,List.length_append,List.length_cons,Nat.add_mul] at ih ⊢
  omega
theorem obsoletedM_mem {l : List Package} {n : Nat} {k : Int} : k∈obsoletedM l n ↔ ∃ m : Nat,k=m∧m < l.length∧m≠n∧obsoletes (l.getD n default) (l.getD m default)=true:=by
 unfold obsoletedM
 rw [List.mem_map]
 constructor
 ·rintro ⟨m,hm,rfl⟩
  obtain ⟨h1,h2⟩:=List.mem_filter.1 hm
  simp only [Bool.and_eq_true,decide_eq_true_eq] at h2
  exact ⟨m,rfl,List.mem_range.1 h1,h2.1,h2.2⟩
 ·rintro ⟨m,rfl,h1,h2,h3⟩
  refine ⟨m,List.mem_filter.2 ⟨List.mem_range.2 h1,?_⟩,rfl⟩
  simp only [Bool.and_eq_true,decide_eq_true_eq]
  exact ⟨h2,h3⟩
theorem obsoletedM_up (l : List Package) (n : Nat) : (obsoletedM l n).Pairwise (· < ·):=by
 unfold obsoletedM
 refine List.Pairwise.map (R:=fun (a b : Nat) => a < b) _ (fun a b h => by show (a : Int) < b; omega) ?_
 exact List.Pairwise.filter _ List.pairwise_lt_range
theorem obsoletedM_len (l : List Package) (n : Nat) : (obsoletedM l n).length≤l.length:=by
 unfold obsoletedM
 rw [List.length_map]
 exact Nat.le_trans (List.length_filter_le _ _) (by simp)
theorem hits_mem {l : List Package} {n : Nat} {x : Int} : x∈hitsM l n (l.getD n default).obsoletes ↔ x∈obsoletedM l n:=by
 rw [obsoletedM_mem,hitsM,List.mem_flatMap]
 constructor
 ·rintro ⟨d,hd,hx⟩
  obtain ⟨m,rfl,h1,h2,h3⟩:=hitM_mem.1 hx
  exact ⟨m,rfl,h1,h2,List.any_eq_true.2 ⟨d,hd,h3⟩⟩
 ·rintro ⟨m,rfl,h1,h2,h3⟩
  obtain ⟨d,hd,h4⟩:=List.any_eq_true.1 h3
  exact ⟨d,hd,hitM_mem.2 ⟨m,rfl,h1,h2,h4⟩⟩
end Go.Id.Tryz
/- Whom a package obsoletes: the function walked. Conditions: sizes that fit. -/
namespace Go.Id
open Go Go.Id
theorem loop_upR {P : Program} {E : Nat→IV} {N n0 : Nat} {fr : Frm} {σ : Store} {x : IC} {Q : Exit→Frm→Store→Prop} (I : Nat→Frm→Store→Prop) (n : Nat) (h : I 0 fr σ)
  (hI : ∀ i fr σ,i≤n→I i fr σ→RI P E N n0 x fr σ (upQ I i n Q)) : RI P E N n0 (.loop x) fr σ Q:=by
 refine RI_loopR (fun m fr σ => ∃ i,i≤n∧m=n - i∧I i fr σ) n ⟨0,Nat.zero_le _,rfl,h⟩ ?_
 rintro m fr σ ⟨i,hi,rfl,hi0⟩
 refine RI_mono (hI i fr σ hi hi0) ?_
 intro e f s q
 cases e with
 | normal => exact ⟨n - (i+1),by have:=q.1; omega,i+1,q.1,rfl,q.2⟩
 | _ => exact q
theorem app_ints {σ : Store} {v : IV} {nid : Nat} {zs xs : List Int} (hg : Grow σ v 1 (zs.map Md.intC)) (hn : zs.length+xs.length≤2147483648) :
  ∃ v' σ',appI σ nid 1 v (.tslice (xs.map Md.intC))=some (v',σ')∧σ'.next=σ.next∧∀ τ : Store,τ.obj=σ'.obj→nid < τ.next→σ.next≤τ.next→Grow τ v' 1 ((zs ++ xs).map Md.intC):=by
 have ha : ∀ l : List Int,∀ x∈l.map Md.intC,x.length=1∧x.all IV.leaf=true:=by
  intro l x hx
  obtain ⟨y,_,rfl⟩:=List.mem_map.1 hx
  exact ⟨rfl,rfl⟩
 have hsrc : srcI σ 1 (.tslice (xs.map Md.intC))=some (xs.length,(xs.map Md.intC).flatten):=by
  have h1 : (xs.map Md.intC).all (fun e => e.length == 1)=true:=List.all_eq_true.2 fun x hx => by rw [(ha xs x hx).1]; rfl
  simp only [srcI,h1,if_true,List.length_map]
 have hx1 : (xs.map Md.intC).flatten.all IV.leaf=true:=flat_leaf fun x hx => (ha xs x hx).2
 have hz1 : (zs.map Md.intC).flatten.all IV.leaf=true:=flat_leaf fun x hx => (ha zs x hx).2
 have hz2 : (zs.map Md.intC).flatten.length=zs.length:=by rw [flat_len fun x hx => (ha zs x hx).1,List.length_map]; omega
 have hx0 : ¬ ((xs.map Md.intC).flatten.all IV.leaf=false):=by rw [hx1]; decide
 unfold appI
 rw [hsrc]
 simp only [hx0,if_false]
 by_cases h0 : xs.length=0
 ·have hxs : xs=[]:=List.length_eq_zero_iff.1 h0
  subst hxs
  rw [List.append_nil]
  rcases hg with ⟨rfl,he⟩ | ⟨id,rfl,ho,hid⟩
  ·exact ⟨.nilslice,σ,rfl,rfl,fun τ _ _ _ => .inl ⟨rfl,he⟩⟩
  ·simp only [ho,List.length_nil,and_self,if_true]
   exact ⟨_,_,rfl,rfl,fun τ h1 _ h3 => .inr ⟨id,rfl,by rw [h1]; exact ho,by omega⟩⟩
 ·rcases hg with ⟨rfl,he⟩ | ⟨id,rfl,ho,hid⟩
  ·have hzs : zs=[]:=List.map_eq_nil_iff.1 he
   subst hzs
   have hle : xs.length≤2147483648:=by omega
   simp only [h0,if_false,hle,if_true]
   refine ⟨_,_,rfl,rfl,fun τ h1 h2 _ => .inr ⟨nid,by rw [List.nil_append,List.length_map],?_,h2⟩⟩
   rw [h1,put_obj,if_pos rfl]; rfl
  ·have h1 : 0+(zs.map Md.intC).length * 1=(zs.map Md.intC).flatten.length:=by rw [hz2,List.length_map]; omega
   have h2 : (zs.map Md.intC).length+xs.length≤2147483648:=by rw [List.length_map]; exact hn
   simp only [ho,h0,and_false,if_false,h1,h2,List.drop_zero,hz1,and_self,if_true]
   refine ⟨_,_,rfl,rfl,fun τ h3 h4 _ => .inr ⟨nid,by rw [List.map_append,List.length_append,List.length_map,List.length_map],?_,h4⟩⟩
   rw [h3,put_obj,if_pos rfl,List.map_append,List.flatten_append]
   try rfl
theorem b_mkf {E : Nat→IV} {fr : Frm} {σ : Store} {f : Nat} {a b : List IX} : boxT E fr σ (.q (.mkf f a b))=True:=rfl
end Go.Id
namespace Go.Id.Tryz
open Go Go.Id Go.Proofs Go.Shelf Go.Id.Md
set_option maxRecDepth 100000
theorem idxObsoleted_pc (l : List Package) (n : Nat) (hl : l.length≤1024) (hn : n < l.length) (hD : l[n].obsoletes.length≤1024) (hs : ∀ p∈l,Pkg.small p) :
  PC Tryz.prog EE 25 [(idxM l).v,.int .i64 n] (.tslice ((obsoletedM l n).map Md.intC)):=by
 have hi:=idxM_is l
 have hb:=bnd_idx (idxM l)
 have his:=isOf_pc (idxM l) n
 have i1 : (decide ((0 : Int)≤(n : Int)) && decide ((n : Int) < (idxM l).all.length))=true:=by
  rw [hi.all]; simp only [Bool.and_eq_true,decide_eq_true_eq]; omega
 rw [i1] at his
 refine PC_RI hE fok25 (Nat.le_of_ble_eq_true rfl) (two_mem hb (.int _ _)) ?_
 have hx : (idxM l).v=.tptr [.tslice (l.map Package.cs),.tmap (nmV (idxM l).prov),.tmap (nmV (idxM l).names),.tmap (nmV (idxM l).over)]:=by
  show IV.tptr [.tslice ((idxM l).all.map Package.cs),_,_,_]=_
  rw [hi.all]
 have hg : (l.map Package.cs).getD n []=l[n].cs:=by simp [List.getD_eq_getElem?_getD,hn]
 have hle : (l.map Package.cs).length=l.length:=List.length_map ..
 have p9 : (l[n].cs.drop 9).head? = some (deps l[n].obsoletes):=rfl
 have c1 : (0 : Int)≤n:=by omega
 have c2 : (n : Int) < (l.map Package.cs).length:=by omega
 simp only [ic25]
 refine RI_seqT (RI_wpT ?_)
 simp only [go_sem]
 refine RI_seqT (RI_wpT ?_)
 simp only [go_sem]
 refine call_pc fok81 his ?_
 simp only [go_sem]
 refine RI_seqT (RI_wpT ?_)
 simp only [go_sem]
 refine RI_seqT (RI_seqT (RI_wpT ?_))
 have hds : ∀ d∈l[n].obsoletes,Dep.small d:=(hs _ (List.getElem_mem hn)).2.2.1
 have hgn : l.getD n default=l[n]:=getD_at l n hn
 have hm : ∀ x,x∈hitsM l n l[n].obsoletes ↔ x∈obsoletedM l n:=fun x => by rw [← hgn]; exact hits_mem
 have hhl:=hitsM_len l n l[n].obsoletes
 have hdr0 : hitsM l n (l[n].obsoletes.take l[n].obsoletes.length)=hitsM l n l[n].obsoletes:=by rw [List.take_length]
 have hmul : l[n].obsoletes.length * l.length≤1024 * 1024:=Nat.mul_le_mul hD hl
 have hpl : (l[n].cs).length=15:=rfl
 rw [hx]
 simp only [go_sem,c1,c2,hg,p9,pkg_lenA,pkg_takeA,pkg_leafA]
 rw [← hx]
 clear hg p9
 generalize l[n].obsoletes=D at *
 refine ⟨by omega,?_⟩
 refine RI_block (loop_upR (fun i fr t => ∃ gv,fr=[(0,(idxM l).v),(3,.tptr [.int .i64 n]),(5,gv),(19,deps D),(20,.int .i64 D.length),(21,.int .i64 i)]∧Grow t gv 1 ((hitsM l n (D.take i)).map Md.intC)) D.length ?_ ?_)
 ·exact ⟨.nilslice,rfl,.inl ⟨rfl,rfl⟩⟩
 rintro i fr t hi' ⟨gv,rfl,hgr⟩
 by_cases hlt : i < D.length
 ·obtain ⟨d,hd,_,hdr,hget,htk⟩:=at_nth D i hlt
  have d1 : (i : Int) < D.length:=by omega
  have d2 : (0 : Int)≤i:=by omega
  have w1:=wrapS (i:=i) (by omega)
  refine RI_seqT (RI_wpT ?_)
  simp only [go_sem,d1]
  refine RI_seqT (RI_wpT ?_)
  simp only [go_sem]
  refine RI_seqT (RI_block (RI_seqT (RI_wpT ?_)))
  simp only [go_sem,d1,d2,hget,dep_len,dep_take,dep_leaf]
  have hbox : isCells (({ next:=t.next+1,obj:=t.obj } : Store).put t.next (IObj.cells [IV.str [],IV.int IntKind.u8 0,IV.int IntKind.i64 0,IV.str [],IV.str []]) |>.put t.next (IObj.cells d.cs)) t.next d.cs:=.inl (by simp only [put_obj,if_true])
  have hdc : ∀ j,j < d.cs.length→∀ (τ : Store) (S : Nat→Prop),Frz τ S (d.cs.getD (0+j) .undef) (d.cs.getD j .undef):=by
   intro j hj τ S
   rw [Nat.zero_add]
   have hj' : j=0 ∨ j=1 ∨ j=2 ∨ j=3 ∨ j=4:=by have : d.cs.length=5:=rfl; omega
   rcases hj' with rfl | rfl | rfl | rfl | rfl <;> first | exact .keep _ (.str _) | exact .keep _ (.int _ _)
  refine RI_frz (S:=fun i => decide (i≠t.next)) (fr':=[(0,(idxM l).v),(3,.tptr [.int .i64 n]),(5,gv),(7,.tptr d.cs),(19,deps D),(20,.int .i64 D.length),(21,.int .i64 i)]) (fun k => ?_) (RI_wpT ?_)
  ·by_cases hk : k=7
   ·subst hk
    exact .inr (.ptr t.next 0 d.cs d.cs (by simp) hbox (by omega) fun j hj => hdc j hj _ _)
   ·left
    have e : (k == 7)=false:=by simpa using hk
    simp only [Frm.get,List.lookup,e]
    try rfl
  generalize hu : Store.kills _ _=u
  have hun : u.next=t.next+1:=by rw [← hu]; rfl
  have hug : Grow u gv 1 ((hitsM l n (D.take i)).map Md.intC):=by
   refine hgr.mono (by omega) fun id _ hid => ?_
   have e : ¬ id=t.next:=by omega
   rw [← hu]
   simp only [kills_obj,put_obj,e,if_false,ne_eq,not_false_eq_true,decide_true,if_true]
  clear hu hbox hgr
  have p0 : d.cs.head? = some (.str d.name):=rfl
  rw [hx]
  have hdd:=hds d hd
  have hbc : ∀ c∈[IV.tptr [.int .i64 n],.tptr d.cs],Bnd 0 c:=two_mem (.tptr _ (one_mem (.int _ _))) (bnd_dep0 d)
  have hlook:=hi.names d.name
  have hsift : ∀ v,(v=.tslice ((nmLook (idxM l).names d.name).map Md.intC) ∨ v=.nilslice∧nmLook (idxM l).names d.name=[])→PC Tryz.prog EE 82 [(idxM l).v,v,.func (.func 83) [] [.tptr [.int .i64 n],.tptr d.cs]] (.tslice ((hitM l n d).map Md.intC)):=by
   intro v hv
   have h:=sift_pc (idxM l) (nmLook (idxM l).names d.name) (by rw [hlook]; have:=numsOf_len (fun p => decide (p.name=d.name)) l; omega) 83 [.tptr [.int .i64 n],.tptr d.cs] (fun k => decide (k.toNat≠n) && named (l.getD k.toNat default) d) hbc fok83.1 (fun k hk => by
    rw [hlook] at hk
    obtain ⟨m,rfl,hm⟩:=numsOf_at hk
    refine ⟨m,rfl,by rw [hi.all]; exact hm,?_⟩
    have e : (idxM l).all[m]'(by rw [hi.all]; exact hm)=l[m]:=by simp only [hi.all]
    rw [e,Int.toNat_natCast,getD_at l m hm]
    exact obdCl_pc l d m n hm hs hdd)
   rcases hv with rfl | ⟨rfl,h0⟩
   ·exact h
   ·rw [h0] at h
    have hw : ∀ {v : IV} {σ : Store},Bnd 0 v→Frz σ (fun _ => true=true) v v:=fun h => .keep _ (h.weak fun _ _ => rfl)
    have h2 : PC Tryz.prog EE 82 [(idxM l).v,.nilslice,.func (.func 83) [] [.tptr [.int .i64 n],.tptr d.cs]] (.tslice ((([] : List Int).filter fun k => decide (k.toNat≠n) && named (l.getD k.toNat default) d).map Md.intC)):=by
     refine PC_weak (args':=[(idxM l).v,.tslice [],.func (.func 83) [] [.tptr [.int .i64 n],.tptr d.cs]]) rfl (fun σ i hi => ?_) h
     match i,hi with
     | 0,_ => exact hw hb
     | 1,_ => exact .nils
     | 2,_ => exact hw (.func _ _ _ (fun c hc => by cases hc) hbc)
    have e : hitM l n d=([] : List Int).filter fun k => decide (k.toNat≠n) && named (l.getD k.toNat default) d:=by
     unfold hitM; rw [h0]
    rw [e]; exact h2
  obtain ⟨v,hk,hv⟩:=lkp_nm (idxM l).names ⟨u.next+13,u.obj⟩ d.name
  have hsv:=hsift v hv
  rw [hx] at hsv
  have hlen1:=hitsM_len l n (D.take i)
  have hlen2:=hitM_len l n d
  have hmul2 : (D.take i).length * l.length≤1024 * 1024:=Nat.mul_le_mul (by rw [List.length_take]; omega) hl
  clear hsift hv hlook
  simp only [go_sem,p0,dep_len,dep_take,dep_leaf,hk,b_mkf]
  refine callP_of hsv ?_
  obtain ⟨v',σ',ha,hn',hG⟩:=app_ints (σ:=⟨u.next+13,u.obj⟩) (v:=gv) (nid:=u.next+1+1+1+1+1+1+1+1+1+1+1) (zs:=hitsM l n (D.take i)) (xs:=hitM l n d) (hug.mono (by show u.next≤u.next+13; omega) fun _ _ _ => rfl) (by omega)
  have hn' : σ'.next=u.next+13:=hn'
  have hap : hitsM l n (D.take (i+1))=hitsM l n (D.take i) ++ hitM l n d:=by
   rw [htk]; unfold hitsM; rw [List.flatMap_append,List.flatMap_cons,List.flatMap_nil,List.append_nil]
  simp only [go_sem,b_mkf,ha]
  refine RI_wpT ?_
  simp only [go_sem,w1]
  refine ⟨hlt,v',rfl,?_⟩
  rw [hap]
  exact hG _ rfl (by show u.next+1+1+1+1+1+1+1+1+1+1+1 < _; omega) (by show u.next+13≤_; omega)
 ·have hid : i=D.length:=by omega
  subst hid
  have d1 : ¬ (D.length : Int) < D.length:=by omega
  refine RI_seqT (RI_wpT ?_)
  simp only [go_sem,d1]
  refine RI_seqT (RI_wpT ?_)
  simp only [go_sem]
  rw [hdr0] at hgr
  rcases hgr with ⟨rfl,he⟩ | ⟨id,rfl,ho,hidn⟩
  ·have hz : hitsM l n D=[]:=List.map_eq_nil_iff.1 he
   have hobs : obsoletedM l n=[]:=List.eq_nil_iff_forall_not_mem.2 fun x hxm => by
    have:=(hm x).2 hxm
    rw [hz] at this; cases this
   rw [hobs]
   refine RI_seqT (RI_wpT ?_)
   simp only [go_sem]
   refine call_c fok84 sortNil_c ?_
   rintro v s ⟨rfl,rfl⟩
   refine ⟨Nat.le_refl _,?_⟩
   simp only [go_sem]
   refine RI_wpT ?_
   simp only [go_sem]
   refine call_c fok85 compactNil_c ?_
   rintro v s ⟨rfl,_,hsn⟩
   refine ⟨hsn,?_⟩
   simp only [go_sem]
   exact .nils
  ·have hfl : ((hitsM l n D).map Md.intC).flatten=(hitsM l n D).map (IV.int .i64):=by
    generalize hitsM l n D=zs
    induction zs with
    | nil => rfl
    | cons z zs ih => simp only [List.map_cons,List.flatten_cons,ih]; rfl
   rw [hfl] at ho
   have hzl : (hitsM l n D).length < 2 ^ 40:=by omega
   have hsl : (srtI (hitsM l n D)).length=(hitsM l n D).length:=List.length_mergeSort _
   have hsp : (srtI (hitsM l n D)).Pairwise (·≤·):=by
    refine List.Pairwise.imp (fun h => of_decide_eq_true h) (List.pairwise_mergeSort (le:=fun x y : Int => decide (x≤y)) (fun a b c h1 h2 => ?_) (fun a b => ?_) _)
    ·exact decide_eq_true (Int.le_trans (of_decide_eq_true h1) (of_decide_eq_true h2))
    ·rcases Int.le_total a b with h | h
     ·simp [h]
     ·simp [h]
   have hsm : ∀ x,x∈srtI (hitsM l n D) ↔ x∈hitsM l n D:=fun x => List.mem_mergeSort
   refine RI_seqT (RI_wpT ?_)
   simp only [go_sem,List.length_map]
   refine call_c fok84 (sortInts_c (zs:=hitsM l n D) (by omega) ho) ?_
   rintro v s ⟨rfl,rfl⟩
   refine ⟨by show t.next≤_; exact Nat.le_refl _,?_⟩
   simp only [go_sem]
   refine RI_wpT ?_
   simp only [go_sem]
   have hc:=compact_c (σ:=t.put id (.row ((srtI (hitsM l n D)).map (IV.int .i64)))) (id:=id) (zs:=srtI (hitsM l n D)) (by omega) (by simp only [put_obj,if_true]) hsp
   rw [hsl] at hc
   refine call_c fok85 hc ?_
   rintro v s ⟨⟨D',cs,q1,q2,rfl,q4,q5,q6⟩,hsn,_⟩
   refine ⟨hsn,?_⟩
   have hD' : D'=obsoletedM l n:=up_unique q1 (obsoletedM_up l n) fun x => (q2 x).trans ((hsm x).trans (hm x))
   simp only [go_sem]
   rw [← hD']
   refine .slice id 0 D'.length 1 cs (D'.map Md.intC) (Nat.not_lt_zero _) (.inr q4) (by rw [List.length_map]) (by omega) (fun i hi => ?_) fun i hi j hj => ?_
   ·simp [List.getD_eq_getElem?_getD,hi,Md.intC]
   ·have hj0 : j=0:=by omega
    subst hj0
    have e1 : cs.getD (0+(i * 1+0)) .undef=.int .i64 D'[i]:=by
     have h1 : (cs.take D'.length)[i]? = (D'.map iv)[i]?:=by rw [q5]
     rw [List.getElem?_take,if_pos hi,List.getElem?_map,List.getElem?_eq_getElem hi] at h1
     simp only [Nat.zero_add,Nat.mul_one,Nat.add_zero,List.getD_eq_getElem?_getD,h1,Option.map_some,Option.getD_some]
    have e2 : ((D'.map Md.intC).getD i []).getD 0 .undef=.int .i64 D'[i]:=by
     simp [List.getD_eq_getElem?_getD,hi,Md.intC]
    rw [e1,e2]
    exact .keep _ (.int _ _)
end Go.Id.Tryz
/- MatchTurned. Conditions: sizes that fit. -/
namespace Go.Id.Tryz
open Go Go.Id Go.Proofs Go.Id.Md
set_option maxRecDepth 100000
theorem poolObsoletes_pc (p : Pool) (n m : Nat) (h : n < p.rows.length) (h' : m < p.rows.length) (hne : n≠m) (hs : ∀ r∈p.rows,Pkg.small r.pkg) : PC Tryz.prog EE 20 [p.v,.int .i64 n,.int .i64 m] (.bool (obsoletes p.rows[n].pkg p.rows[m].pkg)):=by
 refine PC_e hE fok20 (Nat.le_of_ble_eq_true rfl) (fun a ha => by
  simp only [List.mem_cons,List.not_mem_nil,or_false] at ha
  rcases ha with rfl | rfl | rfl
  ·exact bnd_pool p
  ·exact .int _ _
  ·exact .int _ _) ?_
 have c1 : (n : Int) < p.rows.length:=by omega
 have c2 : (0 : Int)≤n:=by omega
 have c3 : (m : Int) < p.rows.length:=by omega
 have c4 : (0 : Int)≤m:=by omega
 have c5 : ¬ (n : Int)=m:=by omega
 have hg : (p.rows.map PRow.cs).getD n []=p.rows[n].cs:=by simp [List.getD_eq_getElem?_getD,h]
 have hg' : (p.rows.map PRow.cs).getD m []=p.rows[m].cs:=by simp [List.getD_eq_getElem?_getD,h']
 have hnil : ∀ (d : TypeId) (cs : List IV) (c : IV),nilI (.pointer d) (.tptr (c :: cs))=some false:=fun _ _ _ => rfl
 have ho:=obsoletes_pc p.rows[n].pkg p.rows[m].pkg (hs _ (List.getElem_mem h)) (hs _ (List.getElem_mem h'))
 simp only [ic20,go_sem,Pool.v,hnil]
 refine call_pc fok73 (rowsIs_pc p.rows n) ?_
 simp only [go_sem,c1,c2,Bool.and_self]
 refine call_pc fok73 (rowsIs_pc p.rows m) ?_
 simp only [go_sem,c1,c2,c3,c4,c5,hg,hg',prow_len,prow_pkg,Bool.and_self]
 refine call_pc fok21 ho ?_
 simp only [go_sem]
 exact frz_bool _
theorem matchTurned_pc (repos : List Repo) (inst : List Package) (hI : InOK repos inst) : PC Tryz.prog EE 4 [reposV repos,pkgsV inst] (.bool true):=by
 refine PC_e hE fok4 (Nat.le_of_ble_eq_true rfl) (two_mem (bnd_repos repos) (bnd_pkgs inst)) ?_
 have hlarge:=large_pc repos inst (by have:=hI.r1; omega) (by have:=hI.i1; omega) hI.ro hI.po
 have hof:=of_pc repos inst hI
 simp only [ic4,go_sem]
 refine call_pc fok22 works_pc ?_
 simp only [go_sem]
 refine call_pc fok23 hlarge ?_
 cases hlg : decide (3000≤lgL repos (szL inst 3000 0)) with
 | true =>
  simp only [go_sem]
  refine call_pc fok22 works_pc ?_
  simp only [go_sem]
  exact frz_bool _
 | false =>
 simp only [go_sem]
 refine call_pc fok24 hof ?_
 unfold ofM
 cases hn : newM repos inst with
 | inr e =>
  simp only [go_sem]
  exact frz_bool _
 | inl p =>
 have hf:=in_fit hI hn
 have hlen : (pkgsOf p).length≤256:=by simp only [pkgsOf,List.length_map]; exact newM_len hn
 have hsm : ∀ x∈pkgsOf p,Pkg.small x:=fun x hx => (hf x hx).2.1
 have hsr : ∀ r∈p.rows,Pkg.small r.pkg:=fun r hr => hsm _ (List.mem_map_of_mem (f:=fun x : PRow => x.pkg) hr)
 have hrl : p.rows.length=(pkgsOf p).length:=by simp [pkgsOf]
 have hcnt:=poolCount_pc p
 rw [hrl] at hcnt
 have hO : ∀ n : Nat,n < (pkgsOf p).length→PC Tryz.prog EE 25 [(idxM (pkgsOf p)).v,.int .i64 n] (.tslice ((obsoletedM (pkgsOf p) n).map Md.intC)):=fun n h =>
  idxObsoleted_pc (pkgsOf p) n (by omega) h (by have:=(hf _ (List.getElem_mem h)).2.2.obs.1; omega) hsm
 have hB : ∀ n : Nat,n < (pkgsOf p).length→PC Tryz.prog EE 26 [(idxM (pkgsOf p)).v,.int .i64 n] (.tslice ((obsoletersM (pkgsOf p) n).map Md.intC)):=fun n h =>
  idxObsoleters_pc (pkgsOf p) n (by omega) h hsm
 have hP : ∀ n m : Nat,n < (pkgsOf p).length→m < (pkgsOf p).length→n≠m→PC Tryz.prog EE 20 [p.v,.int .i64 n,.int .i64 m] (.bool (obsoletes ((pkgsOf p).getD n default) ((pkgsOf p).getD m default))):=fun n m h1 h2 h3 => by
  have h:=poolObsoletes_pc p n m (by omega) (by omega) h3 hsr
  have e1 : p.rows[n].pkg=(pkgsOf p).getD n default:=by rw [getD_at _ n h1]; simp [pkgsOf]
  have e2 : p.rows[m].pkg=(pkgsOf p).getD m default:=by rw [getD_at _ m h2]; simp [pkgsOf]
  rw [e1,e2] at h; exact h
 have lO:=obsoletedM_len (pkgsOf p)
 have lB:=obsoletersM_len (pkgsOf p)
 simp only [go_sem]
 refine loop_up noT (fun n fr s => fr=[(5,(idxM (pkgsOf p)).v),(6,p.v),(8,.int .i64 (n : Int))]) (pkgsOf p).length rfl ?_
 rintro n fr s hle rfl
 by_cases hlt : n < (pkgsOf p).length
 ·have d1 : (n : Int) < (pkgsOf p).length:=by omega
  have w1:=wrapS (i:=n) (by omega)
  have hOn:=hO n hlt
  have hBn:=hB n hlt
  have nA : decide ((n : Int)∈obsoletedM (pkgsOf p) n)=false:=decide_eq_false fun h => by
   obtain ⟨m,e,_,h2,_⟩:=obsoletedM_mem.1 h; omega
  have nB : decide ((n : Int)∈obsoletersM (pkgsOf p) n)=false:=decide_eq_false fun h => by
   obtain ⟨m,e,_,h2,_⟩:=obsoletersM_mem.1 h; omega
  have kA:=has_pc (obsoletedM (pkgsOf p) n) n (by have:=lO n; omega)
  have kB:=has_pc (obsoletersM (pkgsOf p) n) n (by have:=lB n; omega)
  rw [nA] at kA
  rw [nB] at kB
  have upA:=obsoletedM_up (pkgsOf p) n
  have upB:=obsoletersM_up (pkgsOf p) n
  have mA : ∀ x∈obsoletedM (pkgsOf p) n,∃ m : Nat,x=m∧m < (pkgsOf p).length∧m≠n∧obsoletes ((pkgsOf p).getD n default) ((pkgsOf p).getD m default)=true:=fun x hx => obsoletedM_mem.1 hx
  have mB : ∀ x∈obsoletersM (pkgsOf p) n,∃ m : Nat,x=m∧m < (pkgsOf p).length∧m≠n∧obsoletes ((pkgsOf p).getD m default) ((pkgsOf p).getD n default)=true:=fun x hx => obsoletersM_mem.1 hx
  have lA1:=lO n
  have lB1:=lB n
  simp only [go_sem]
  refine callP_of hcnt ?_
  simp only [go_sem,d1]
  refine callP_of hOn ?_
  simp only [go_sem]
  refine callP_of hBn ?_
  simp only [go_sem]
  refine callP_of kA ?_
  simp only [go_sem]
  refine callP_of kB ?_
  simp only [go_sem]
  clear hOn hBn nA nB kA kB
  generalize obsoletedM (pkgsOf p) n=A at *
  generalize obsoletersM (pkgsOf p) n=B at *
  refine loop_up noT (fun i fr s => fr=[(5,(idxM (pkgsOf p)).v),(6,p.v),(8,.int .i64 (n : Int)),(9,.tslice (A.map Md.intC)),(10,.tslice (B.map Md.intC)),(11,.int .i64 (i : Int))]) A.length rfl ?_
  rintro i fr s hle2 rfl
  by_cases hlt2 : i < A.length
  ·have f1 : (i : Int) < A.length:=by omega
   have f2 : (0 : Int)≤(i : Int):=by omega
   have w2:=wrapS (i:=i) (by omega)
   obtain ⟨m,em,hm,hmn,hob⟩:=mA _ (List.getElem_mem hlt2)
   have g1 : (A.map Md.intC).getD i []=[.int .i64 (m : Int)]:=by simp [List.getD_eq_getElem?_getD,hlt2,Md.intC,em]
   have f3 : ¬ (m : Int) < 0:=by omega
   have f4 : ¬ (pkgsOf p).length≤(m : Int):=by omega
   have hBm:=hB m hm
   have hin : decide ((n : Int)∈obsoletersM (pkgsOf p) m)=true:=decide_eq_true (obsoletersM_mem.2 ⟨n,rfl,hlt,fun h => hmn h.symm,hob⟩)
   have kI:=has_pc (obsoletersM (pkgsOf p) m) n (by have:=lB m; omega)
   rw [hin] at kI
   have hPm:=hP n m hlt hm (fun h => hmn h.symm)
   rw [hob] at hPm
   clear hin
   generalize obsoletersM (pkgsOf p) m=X at *
   by_cases hi0 : (0 : Int) < (i : Int)
   ·have f5 : IntKind.i64.wrap ((i : Int) - 1)=((i - 1 : Nat) : Int):=by rw [wrap64 (by omega) (by omega)]; omega
    have f6 : (0 : Int)≤((i - 1 : Nat) : Int):=by omega
    have f7 : ((i - 1 : Nat) : Int) < A.length:=by omega
    have g2 : (A.map Md.intC).getD (i - 1) []=[.int .i64 (A[i - 1]'(by omega))]:=by simp [List.getD_eq_getElem?_getD,show i - 1 < A.length by omega,Md.intC]
    have f8 : ¬ (m : Int)≤A[i - 1]'(by omega):=by
     have:=List.pairwise_iff_getElem.1 upA (i - 1) i (by omega) hlt2 (by omega)
     omega
    simp only [go_sem,f1,f2,hi0,f5,f6,f7,g1,g2,f8,f3]
    refine callP_of hcnt ?_
    simp only [go_sem,f1,f2,f4,g1]
    refine callP_of hBm ?_
    simp only [go_sem]
    refine callP_of kI ?_
    simp only [go_sem,f1,f2,g1]
    refine callP_of hPm ?_
    simp only [go_sem,w2]
    exact hlt2
   ·simp only [go_sem,f1,f2,hi0,g1,f3]
    refine callP_of hcnt ?_
    simp only [go_sem,f1,f2,f4,g1]
    refine callP_of hBm ?_
    simp only [go_sem]
    refine callP_of kI ?_
    simp only [go_sem,f1,f2,g1]
    refine callP_of hPm ?_
    simp only [go_sem,w2]
    exact hlt2
  ·have hid : i=A.length:=by omega
   subst hid
   have f1 : ¬ (A.length : Int) < A.length:=by omega
   simp only [go_sem,f1]
   refine loop_up noT (fun i fr s => fr=[(5,(idxM (pkgsOf p)).v),(6,p.v),(8,.int .i64 (n : Int)),(10,.tslice (B.map Md.intC)),(12,.int .i64 (i : Int))]) B.length rfl ?_
   rintro i fr s hle3 rfl
   by_cases hlt3 : i < B.length
   ·have f1 : (i : Int) < B.length:=by omega
    have f2 : (0 : Int)≤(i : Int):=by omega
    have w2:=wrapS (i:=i) (by omega)
    obtain ⟨m,em,hm,hmn,hob⟩:=mB _ (List.getElem_mem hlt3)
    have g1 : (B.map Md.intC).getD i []=[.int .i64 (m : Int)]:=by simp [List.getD_eq_getElem?_getD,hlt3,Md.intC,em]
    have f3 : ¬ (m : Int) < 0:=by omega
    have f4 : ¬ (pkgsOf p).length≤(m : Int):=by omega
    have hOm:=hO m hm
    have hin : decide ((n : Int)∈obsoletedM (pkgsOf p) m)=true:=decide_eq_true (obsoletedM_mem.2 ⟨n,rfl,hlt,fun h => hmn h.symm,hob⟩)
    have kI:=has_pc (obsoletedM (pkgsOf p) m) n (by have:=lO m; omega)
    rw [hin] at kI
    clear hin
    generalize obsoletedM (pkgsOf p) m=X at *
    by_cases hi0 : (0 : Int) < (i : Int)
    ·have f5 : IntKind.i64.wrap ((i : Int) - 1)=((i - 1 : Nat) : Int):=by rw [wrap64 (by omega) (by omega)]; omega
     have f6 : (0 : Int)≤((i - 1 : Nat) : Int):=by omega
     have f7 : ((i - 1 : Nat) : Int) < B.length:=by omega
     have g2 : (B.map Md.intC).getD (i - 1) []=[.int .i64 (B[i - 1]'(by omega))]:=by simp [List.getD_eq_getElem?_getD,show i - 1 < B.length by omega,Md.intC]
     have f8 : ¬ (m : Int)≤B[i - 1]'(by omega):=by
      have:=List.pairwise_iff_getElem.1 upB (i - 1) i (by omega) hlt3 (by omega)
      omega
     simp only [go_sem,f1,f2,hi0,f5,f6,f7,g1,g2,f8,f3]
     refine callP_of hcnt ?_
     simp only [go_sem,f1,f2,f4,g1]
     refine callP_of hOm ?_
     simp only [go_sem]
     refine callP_of kI ?_
     simp only [go_sem,w2]
     exact hlt3
    ·simp only [go_sem,f1,f2,hi0,g1,f3]
     refine callP_of hcnt ?_
     simp only [go_sem,f1,f2,f4,g1]
     refine callP_of hOm ?_
     simp only [go_sem]
     refine callP_of kI ?_
     simp only [go_sem,w2]
     exact hlt3
   ·have hid : i=B.length:=by omega
    subst hid
    have f1 : ¬ (B.length : Int) < B.length:=by omega
    simp only [go_sem,f1,w1]
    exact hlt
 ·have hid : n=(pkgsOf p).length:=by omega
  subst hid
  have d1 : ¬ ((pkgsOf p).length : Int) < (pkgsOf p).length:=by omega
  simp only [go_sem]
  refine callP_of hcnt ?_
  simp only [go_sem,d1]
  exact frz_bool _
end Go.Id.Tryz
