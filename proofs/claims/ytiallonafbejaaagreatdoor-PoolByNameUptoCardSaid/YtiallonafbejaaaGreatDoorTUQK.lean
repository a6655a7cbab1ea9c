/- Indexes asked: who obsoletes whom. Conditions: sizes that fit. -/
import Derived.Test.YtiallonafbejaaaGreatDoorTUQH
import Derived.Test.YtiallonafbejaaaGreatDoorTUSI
import Derived.Test.YtiallonafbejaaaGreatDoorTUPZm
set_option linter.all false
namespace Go.Id.Tryz
open Go Go.Id Go.Proofs Go.Id.Md
set_option maxRecDepth 100000
end Go.Id.Tryz
/- What stands twice taken out of a row of one's own (slices.Compact of numbers). Conditions: the row is in order. -/
namespace Go.Id.Tryz
open Go Go.Id Go.Proofs Go.Id.Md
set_option maxRecDepth 100000
abbrev iv (n : Int) : IV:=.int .i64 n
structure Cmp (σ : Store) (id : Nat) (zs : List Int) (v : IV) (s : Store) : Prop where
 out : ∃ (D : List Int) (cs : List IV),D.Pairwise (· < ·)∧(∀ x,x∈D ↔ x∈zs)∧v=.slice id 0 D.length 1∧s.obj id=some (.row cs)∧cs.take D.length=D.map iv∧D.length≤cs.length
 next : σ.next≤s.next
 other : ∀ i,i≠id→s.obj i=σ.obj i
end Go.Id.Tryz
/- Whom a package obsoletes: rows gathered,sorted,what stands twice taken out. Conditions: sizes that fit. -/
namespace Go.Id.Tryz
open Go Go.Id Go.Proofs Go.Shelf Go.Id.Md
set_option maxRecDepth 100000
theorem C_sortNil {P : Program} {E : Nat→IV} {f : Nat} (hn : ∀ (p : Option Addr) (cap : Nat) (w : World),Calls P f #[.slice p 0 cap] w fun e w' => e=.returned (.tuple #[])∧w'=w) {σ : Store} : C P E f [.nilslice] σ fun v s => v=.tuple []∧s=σ:=by
 intro ρ w rargs hs hr
 obtain ⟨hr1,hr2⟩:=hr
 have hv0:=hr2 0 (by simp)
 obtain ⟨al⟩:=rargs
 match al,hr1,hv0 with
 | [r],_,hv0 =>
  have hv0 : VR ρ w .nilslice r:=hv0
  cases hv0
  refine callsIn_wide.2 ((hn _ _ w).mono ?_)
  rintro e w' ⟨rfl,rfl⟩
  exact ⟨.tuple [],_,ρ,σ,rfl,⟨rfl,rfl⟩,hs,.tuple [] #[] rfl (fun i hi => by simp at hi),ExtW.refl _ _ _⟩
end Go.Id.Tryz
/- Whom a package obsoletes: the function walked. Conditions: sizes that fit. -/
namespace Go.Id
open Go Go.Id
theorem loop_upR {P : Program} {E : Nat→IV} {N n0 : Nat} {fr : Frm} {σ : Store} {x : IC} {Q : Exit→Frm→Store→Prop} (I : Nat→Frm→Store→Prop) (n : Nat) (h : I 0 fr σ)
  (hI : ∀ i fr σ,i≤n→I i fr σ→RI P E N n0 x fr σ (upQ I i n Q)) : RI P E N n0 (.loop x) fr σ Q:=by
 refine RI_loopR (fun m fr σ => ∃ i,i≤n∧m=n - i∧I i fr σ) n ⟨0,Nat.zero_le _,rfl,h⟩ ?_
 rintro m fr σ ⟨i,hi,rfl,hi0⟩
 refine RI_mono (hI i fr σ hi hi0) ?_
 intro e f s q
 cases e with
 | normal => exact ⟨n - (i+1),by have:=q.1; omega,i+1,q.1,rfl,q.2⟩
 | _ => exact q
theorem app_ints {σ : Store} {v : IV} {nid : Nat} {zs xs : List Int} (hg : Grow σ v 1 (zs.map Md.intC)) (hn : zs.length+xs.length≤2147483648) :
  ∃ v' σ',appI σ nid 1 v (.tslice (xs.map Md.intC))=some (v',σ')∧σ'.next=σ.next∧∀ τ : Store,τ.obj=σ'.obj→nid < τ.next→σ.next≤τ.next→Grow τ v' 1 ((zs ++ xs).map Md.intC):=by
 have ha : ∀ l : List Int,∀ x∈l.map Md.intC,x.length=1∧x.all IV.leaf=true:=by
  intro l x hx
  obtain ⟨y,_,rfl⟩:=List.mem_map.1 hx
  exact ⟨rfl,rfl⟩
 have hsrc : srcI σ 1 (.tslice (xs.map Md.intC))=some (xs.length,(xs.map Md.intC).flatten):=by
  have h1 : (xs.map Md.intC).all (fun e => e.length == 1)=true:=List.all_eq_true.2 fun x hx => by rw [(ha xs x hx).1]; rfl
  simp only [srcI,h1,if_true,List.length_map]
 have hx1 : (xs.map Md.intC).flatten.all IV.leaf=true:=flat_leaf fun x hx => (ha xs x hx).2
 have hz1 : (zs.map Md.intC).flatten.all IV.leaf=true:=flat_leaf fun x hx => (ha zs x hx).2
 have hz2 : (zs.map Md.intC).flatten.length=zs.length:=by rw [flat_len fun x hx => (ha zs x hx).1,List.length_map]; omega
 have hx0 : ¬ ((xs.map Md.intC).flatten.all IV.leaf=false):=by rw [hx1]; decide
 unfold appI
 rw [hsrc]
 simp only [hx0,if_false]
 by_cases h0 : xs.length=0
 ·have hxs : xs=[]:=List.length_eq_zero_iff.1 h0
  subst hxs
  rw [List.append_nil]
  rcases hg with ⟨rfl,he⟩ | ⟨id,rfl,ho,hid⟩
  ·exact ⟨.nilslice,σ,rfl,rfl,fun τ _ _ _ => .inl ⟨rfl,he⟩⟩
  ·simp only [ho,List.length_nil,and_self,if_true]
   exact ⟨_,_,rfl,rfl,fun τ h1 _ h3 => .inr ⟨id,rfl,by rw [h1]; exact ho,by omega⟩⟩
 ·rcases hg with ⟨rfl,he⟩ | ⟨id,rfl,ho,hid⟩
  ·have hzs : zs=[]:=List.map_eq_nil_iff.1 he
   subst hzs
   have hle : xs.length≤2147483648:=by omega
   simp only [h0,if_false,hle,if_true]
   refine ⟨_,_,rfl,rfl,fun τ h1 h2 _ => .inr ⟨nid,by rw [List.nil_append,List.length_map],?_,h2⟩⟩
   rw [h1,put_obj,if_pos rfl]; rfl
  ·have h1 : 0+(zs.map Md.intC).length * 1=(zs.map Md.intC).flatten.length:=by rw [hz2,List.length_map]; omega
   have h2 : (zs.map Md.intC).length+xs.length≤2147483648:=by rw [List.length_map]; exact hn
   simp only [ho,h0,and_false,if_false,h1,h2,List.drop_zero,hz1,and_self,if_true]
   refine ⟨_,_,rfl,rfl,fun τ h3 h4 _ => .inr ⟨nid,by rw [List.map_append,List.length_append,List.length_map,List.length_map],?_,h4⟩⟩
   rw [h3,put_obj,if_pos rfl,List.map_append,List.flatten_append]
   try rfl
end Go.Id
namespace Go.Id.Tryz
open Go Go.Id Go.Proofs Go.Shelf Go.Id.Md
set_option maxRecDepth 100000
end Go.Id.Tryz
/- MatchTurned. Conditions: sizes that fit. -/
namespace Go.Id.Tryz
open Go Go.Id Go.Proofs Go.Id.Md
set_option maxRecDepth 100000
theorem poolObsoletes_pc (p : Pool) (n m : Nat) (h : n < p.rows.length) (h' : m < p.rows.length) (hne : n≠m) (hs : ∀ r∈p.rows,Pkg.small r.pkg) : PC Tryz.prog EE 20 [p.v,.int .i64 n,.int .i64 m] (.bool (obsoletes p.rows[n].pkg p.rows[m].pkg)):=by
 refine PC_e hE fok20 (Nat.le_of_ble_eq_true rfl) (fun a ha => by
  simp only [List.mem_cons,List.not_mem_nil,or_false] at ha
  rcases ha with rfl | rfl | rfl
  ·exact bnd_pool p
  ·exact .int _ _
  ·exact .int _ _) ?_
 have c1 : (n : Int) < p.rows.length:=by omega
 have c2 : (0 : Int)≤n:=by omega
 have c3 : (m : Int) < p.rows.length:=by omega
 have c4 : (0 : Int)≤m:=by omega
 have c5 : ¬ (n : Int)=m:=by omega
 have hg : (p.rows.map PRow.cs).getD n []=p.rows[n].cs:=by simp [List.getD_eq_getElem?_getD,h]
 have hg' : (p.rows.map PRow.cs).getD m []=p.rows[m].cs:=by simp [List.getD_eq_getElem?_getD,h']
 have hnil : ∀ (d : TypeId) (cs : List IV) (c : IV),nilI (.pointer d) (.tptr (c :: cs))=some false:=fun _ _ _ => rfl
 have ho:=obsoletes_pc p.rows[n].pkg p.rows[m].pkg (hs _ (List.getElem_mem h)) (hs _ (List.getElem_mem h'))
 simp only [ic20,go_sem,Pool.v,hnil]
 refine call_pc fok73 (rowsIs_pc p.rows n) ?_
 simp only [go_sem,c1,c2,Bool.and_self]
 refine call_pc fok73 (rowsIs_pc p.rows m) ?_
 simp only [go_sem,c1,c2,c3,c4,c5,hg,hg',prow_len,prow_pkg,Bool.and_self]
 refine call_pc fok21 ho ?_
 simp only [go_sem]
 exact frz_bool _
end Go.Id.Tryz
