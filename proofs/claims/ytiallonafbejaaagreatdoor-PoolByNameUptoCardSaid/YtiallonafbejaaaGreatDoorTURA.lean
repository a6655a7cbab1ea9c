/- The keys of a map,told in any order. Conditions: none. -/
import Derived.Test.YtiallonafbejaaaGreatDoorTUPA
import Derived.Test.YtiallonafbejaaaGreatDoorTUQK
import Derived.Test.YtiallonafbejaaaGreatDoorTp
import Derived.Test.YtiallonafbejaaaGreatDoorTUSS
import Derived.Test.YtiallonafbejaaaGreatDoorTUPG
import Derived.Test.YtiallonafbejaaaGreatDoorMq
set_option linter.all false
namespace Go.Id.Tryz
open Go Go.Id Go.Proofs Go.Id.Md
set_option maxRecDepth 100000
theorem nmo_weak {S S' : Nat→Prop} {o : IObj} (h : NmO S o) (hS : ∀ i,S i→S' i) : NmO S' o:=by
 cases o with
 | cells cs => exact fun c hc => (h c hc).weak hS
 | row cs => exact fun c hc => (h c hc).weak hS
 | map es => exact ⟨fun e he => (h.1 e he).weak hS,fun e he => (h.2 e he).weak hS⟩
 | siter s pos => trivial
 | loop N tmps params assign body st pend => exact fun t => (h t).weak hS
 | miter left cur => exact ⟨fun e he => (h.1 e he).weak hS,fun e he => (h.2.1 e he).weak hS,fun c hc => ⟨(h.2.2 c hc).1.weak hS,(h.2.2 c hc).2.weak hS⟩⟩
theorem keys_tell (es : List (IV × IV)) (hes : ∀ e∈es,Bnd 0 e.1) : TellerP Tryz.prog EE (.func (.func 138) [] [.tptr [.tmap es]]) (es.map fun e => [e.1]) (fun _ => True):=by
 intro yid I S σ hperm hown hstab hy hi
 refine ⟨fok138.1,C_wf fun hwf hwa => ?_⟩
 have hyid : yid < σ.next:=by
  have:=hwa (.yield yid) (List.mem_cons_self ..)
  cases this; assumption
 refine C_RIf fok138 (Nat.le_of_ble_eq_true rfl) ?_
 simp only [ic138]
 refine RI_seqT (RI_wpT ?_)
 simp only [go_sem]
 have hw0 : ∀ j o,j≠σ.next→((Store.put ⟨σ.next+1,σ.obj⟩ σ.next (IObj.miter es none)).obj j=some o)→NmO (fun i => decide (i≠σ.next)=true) o:=by
  intro j o hj ho
  simp only [put_obj,if_neg hj] at ho
  exact nmo_weak (hwf j o ho) fun i hlt => by simp; omega
 refine RI_block (loop_upR (fun i fr t => ∃ left c,left.length+i=es.length∧(∀ e∈left,e∈es)∧(fr=[(0,.yield yid),(5,.ptr σ.next 0)] ∨ fr=[(0,.yield yid),(5,.ptr σ.next 0),(13,.bool false)])∧t.obj σ.next=some (.miter left c)∧σ.next < t.next∧I (left.map fun e => [e.1]) (t.only fun i => decide (i≠σ.next)) ∧
  ∀ j o,j≠σ.next→t.obj j=some o→NmO (fun i => decide (i≠σ.next)=true) o) es.length ?_ ?_)
 ·refine ⟨es,none,rfl,fun _ h => h,.inl rfl,by simp only [put_obj,if_true],Nat.lt_succ_self _,?_,hw0⟩
  refine hstab _ σ _ hi (Nat.le_succ _) fun i hlt => ?_
  have e : i≠σ.next:=by omega
  simp [Store.only,e,put_obj]
 rintro i fr t hle ⟨left,c,hlen,hin,rfl | rfl,hob,hnx,hI,hnm⟩
 all_goals
  refine RI_seqT (RI_wpT ?_)
  simp only [go_sem,mn_at hob]
  refine ⟨fun hnil => ?_,fun j hj => ?_⟩
  ·subst hnil
   refine RI_seqT (RI_cond (b:=false) rfl ?_)
   refine RI_frz (S:=fun i => decide (i≠σ.next)) (fun _ => .inl rfl) (RI_wpT ?_)
   simp only [go_sem]
   exact ⟨by show σ.next≤t.next; omega,.inl hI⟩
  ·have hx : left.getD j (.undef,.undef)=left[j]:=by simp [List.getD_eq_getElem?_getD,hj]
   rw [hx]
   have hmem:=List.getElem_mem hj
   have hI2 : I ([left[j].1] :: (left.eraseIdx j).map fun e => [e.1]) (t.only fun i => decide (i≠σ.next)):=hperm _ _ _ ((perm_erase left j hj).map fun e => [e.1]) hI
   have hel : (left.eraseIdx j).length+(i+1)=es.length:=by rw [List.length_eraseIdx,if_pos hj]; omega
   have hein : ∀ e∈left.eraseIdx j,e∈es:=fun e he => hin e (List.mem_of_mem_eraseIdx he)
   have hbx : Bnd 0 left[j].1:=hes _ (hin _ hmem)
   generalize left[j]=x at *
   generalize left.eraseIdx j=l2 at *
   refine RI_seqT (RI_wpT ?_)
   simp only [go_sem]
   refine RI_block (RI_seqT (RI_wpT ?_))
   have hme : ∀ m,mentI ⟨m,(t.put σ.next (.miter l2 (some x))).obj⟩ (.ptr σ.next 0)=some (.tuple [x.1,x.2]):=fun m => me_at (s:=⟨m,(t.put σ.next (.miter l2 (some x))).obj⟩) (l:=l2) (by simp only [put_obj,if_true])
   simp only [go_sem,hme,me_at (s:=t.put σ.next (.miter l2 (some x))) (id:=σ.next) (l:=l2) (c:=x) (by simp only [put_obj,if_true])]
   refine RI_seqT (RI_wpT ?_)
   simp only [go_sem]
   have hyx : CV Tryz.prog EE (.yield yid) [x.1] (Store.only ⟨t.next,(t.put σ.next (.miter l2 (some x))).obj⟩ fun i => decide (i≠σ.next)) fun v s => t.next≤s.next∧((v=.bool true∧I (l2.map fun e => [e.1]) s) ∨ (v=.bool false∧S s)):=by
    refine hy [x.1] (l2.map fun e => [e.1]) (Store.only ⟨t.next,(t.put σ.next (.miter l2 (some x))).obj⟩ fun i => decide (i≠σ.next)) (hstab _ (t.only fun i => decide (i≠σ.next)) _ hI2 (Nat.le_refl _) fun k _ => ?_)
    show (if _ then (t.put σ.next _).obj k else none)=if _ then t.obj k else none
    by_cases hk : k=σ.next
    ·simp [hk]
    ·simp only [put_obj,if_neg hk]
   have hsome : ((t.put σ.next (.miter l2 (some x))).obj yid).isSome=true:=by
    have h:=hyx.1
    have e : yid≠σ.next:=by omega
    simpa [Store.only,e] using h
   have hfr:=CYd_frame (σ:=⟨t.next,(t.put σ.next (.miter l2 (some x))).obj⟩) (by simp; omega) (fun i hi => by
    have hi : t.next≤i:=hi
    simp; omega) (fun a ha => by
    simp only [List.mem_cons,List.not_mem_nil,or_false] at ha
    subst ha
    exact hbx.weak fun i h => absurd h (Nat.not_lt_zero _)) (fun k o hk ho => by
    have hk' : k≠σ.next:=by simpa using hk
    simp only [put_obj,if_neg hk'] at ho
    exact hnm k o hk' ho) hE (by rintro v s ⟨h,_⟩; exact h) hyx.2
   refine ⟨_,⟨hsome,hfr⟩,?_⟩
   rintro v s ⟨σ',⟨hn',hcase⟩,rfl,hnv,hob',hnone⟩
   have hn' : t.next≤σ'.next:=hn'
   refine ⟨hn',?_⟩
   have hback : ∀ u : Store,(⟨σ'.next,fun i => if decide (i≠σ.next)=true then (σ'.back u fun i => decide (i≠σ.next)).obj i else none⟩ : Store)=σ':=by
    intro u
    cases σ' with
    | mk nx ob =>
     congr 1
     funext k
     by_cases hk : k=σ.next
     ·have:=hnone k (by simp [hk])
      simp [hk] at this ⊢
      exact this.symm
     ·simp [Store.back,hk]
   rcases hcase with ⟨rfl,hI'⟩ | ⟨rfl,hS'⟩
   ·simp only [go_sem]
    refine RI_wpT ?_
    simp only [go_sem]
    refine ⟨by omega,l2,some x,hel,hein,.inr trivial,by simp [Store.back,put_obj],by show σ.next < σ'.next; omega,?_,fun k o hk ho => ?_⟩
    ·exact cast (congrArg (I _) (hback ⟨t.next,(t.put σ.next (.miter l2 (some x))).obj⟩).symm) hI'
    ·refine hob' k o (by simpa using hk) ?_
     simpa [Store.back,hk] using ho
   ·simp only [go_sem]
    refine RI_cond (b:=true) rfl ?_
    refine RI_frz (S:=fun i => decide (i≠σ.next)) (fun _ => .inl rfl) (RI_wpT ?_)
    simp only [go_sem]
    refine ⟨by show σ.next≤σ'.next; omega,.inr ?_⟩
    exact cast (congrArg S (hback ⟨t.next,(t.put σ.next (.miter l2 (some x))).obj⟩).symm) hS'
end Go.Id.Tryz
/- The names of a pool: keys collected,sorted. Conditions: sizes that fit. -/
namespace Go.Id.Tryz
open Go Go.Id Go.Proofs Go.Shelf Go.Id.Md
set_option maxRecDepth 100000
theorem str_all (l : List Str) : ∀ x∈l.map strC,x.length=1∧x.all IV.leaf=true:=by
 intro x hx
 obtain ⟨s,_,rfl⟩:=List.mem_map.1 hx
 exact ⟨rfl,rfl⟩
def evK (k : Str) : List IV:=[.str k]
def kEv : List IV→Str
 | [.str k] => k
 | _ => []
theorem perm_ev {rs : List Str} {r' : List (List IV)} (h : (rs.map evK).Perm r') : ∃ rs' : List Str,r'=rs'.map evK∧rs.Perm rs':=by
 have e1 : ∀ l : List Str,(l.map evK).map kEv=l:=fun l => by
  rw [List.map_map]; exact (List.map_congr_left fun _ _ => rfl).trans (List.map_id l)
 have e2 : r'=(r'.map kEv).map evK:=by
  have h2 : ∀ e∈r',evK (kEv e)=e:=fun e he => by
   obtain ⟨k,_,rfl⟩:=List.mem_map.1 (h.mem_iff.2 he)
   rfl
  rw [List.map_map]
  exact ((List.map_congr_left fun e he => h2 e he).trans (List.map_id r')).symm
 have h3:=h.map kEv
 rw [e1] at h3
 exact ⟨r'.map kEv,e2,h3⟩
theorem appSeq_c (ks : List Str) (fv : IV) (hT : TellerP Tryz.prog EE fv (ks.map evK) (fun _ => True)) (hn : ks.length < 2 ^ 30) (σ : Store) :
  C Tryz.prog EE 214 [.nilslice,fv] σ fun v t => ∃ zs : List Str,zs.Perm ks∧σ.next≤t.next∧Grow t v 1 (zs.map strC):=by
 refine C_f fok214 (Nat.le_of_ble_eq_true rfl) ?_
 simp only [ic214,go_sem]
 refine rfunc_TP hT (fun rest t => ∃ (zs rs : List Str) (v : IV),rest=rs.map evK∧(zs ++ rs).Perm ks∧t.obj σ.next=some (.cells [v])∧σ.next+1 < t.next∧Grow t v 1 (zs.map strC)∧∀ id k,v=.slice id 0 k 1→σ.next+1 < id) ?_ (fun _ _ _ => trivial) ?_ ?_ ?_ ?_ ?_
 ·rintro r r' s hp ⟨zs,rs,v,rfl,h2,h3⟩
  obtain ⟨rs',e,hp'⟩:=perm_ev hp
  exact ⟨zs,rs',v,e,(hp'.symm.append_left zs).trans h2,h3⟩
 ·rintro rest t t' ⟨zs,rs,v,h1,h2,h3,h4,h5,h6⟩ hn ho
  exact ⟨zs,rs,v,h1,h2,by rw [ho _ (by omega)]; exact h3,by omega,h5.mono hn fun id _ hid => ho id hid,h6⟩
 ·intro a ha
  obtain ⟨p,_,rfl⟩:=List.mem_map.1 ha
  rfl
 ·intro o
  have e0 : ¬ σ.next=σ.next+1:=by omega
  refine ⟨[],ks,.nilslice,rfl,List.Perm.refl _,?_,by show σ.next+1 < σ.next+1+1; omega,.inl ⟨rfl,rfl⟩,fun id k h => by cases h⟩
  simp only [put_obj,put_next,e0,if_false,if_true]
 ·rintro L pre a rest t hev ⟨zs,rs,v,h1,h2,h3,h4,h5,h6⟩ hL hlt
  cases rs with
  | nil => cases h1
  | cons k rs =>
  rw [List.map_cons] at h1
  obtain ⟨ha,hrest⟩:=List.cons.inj h1
  subst ha
  simp only [evK,put_next] at hL hlt ⊢
  have e1 : ¬ σ.next+1=t.next:=by omega
  have e2 : ¬ σ.next=t.next:=by omega
  have e3 : ¬ σ.next=σ.next+1:=by omega
  simp only [go_sem,hL,e1,e2,e3,h3]
  generalize hU : t.put (σ.next+1) (L .busy none)=U
  have hUo : ∀ i,i≠σ.next+1→U.obj i=t.obj i:=fun i hne => by
   rw [← hU]; simp only [put_obj,hne,if_false]
  have hUL : U.obj (σ.next+1)=some (L .busy none):=by rw [← hU]; simp only [put_obj,if_true]
  have hg : Grow ⟨t.next+1,U.obj⟩ v 1 (zs.map strC):=by
   refine h5.mono (by show t.next≤t.next+1; omega) fun id hv hid => ?_
   have:=h6 _ _ hv
   exact hUo id (by omega)
  have hzl : zs.length < 2 ^ 30:=by have:=h2.length_eq; rw [List.length_append] at this; omega
  have hap:=app_grow (nid:=t.next) (e:=[IV.str k]) hg (str_all _) ⟨rfl,rfl⟩ (by rw [List.length_map]; omega)
  have k1:=killv_obj hg σ.next (.cells [v]) (by show U.obj _=_; rw [hUo _ e3]; exact h3) (fun _ h => by cases h)
  have k2 : (killv v ⟨t.next+1,U.obj⟩).obj (σ.next+1)=some (L .busy none):=by
   cases hv : v <;> try exact hUL
   rename_i id o n' e
   show (if σ.next+1=id then none else U.obj _)=_
   rcases h5 with ⟨h,_⟩ | ⟨id',h,_,_⟩
   ·rw [h] at hv; cases hv
   ·rw [hv] at h; cases h
    have:=h6 _ _ hv
    rw [if_neg (by omega)]; exact hUL
  have kn:=killv_next (σ:=⟨t.next+1,U.obj⟩) v
  rw [List.length_map] at hap
  have e6 : ¬ σ.next=t.next:=by omega
  have e7 : ¬ σ.next+1=t.next:=by omega
  have e8 : ¬ σ.next+1=σ.next:=by omega
  simp only [go_sem,hap,e6,k1,e7,e8,k2]
  refine goQ_t (by rw [put_next,put_next,put_next,kn]; show t.next≤t.next+1; omega) (by simp only [put_obj,if_true]) ?_
  refine ⟨zs ++ [k],rs,.slice t.next 0 (zs.length+1) 1,hrest,by rw [List.append_assoc]; exact h2,?_,?_,?_,fun id k h => ?_⟩
  ·simp only [put_obj,e3,if_false,if_true]
  ·simp only [put_next,kn]; omega
  ·rw [List.map_append]
   refine .inr ⟨t.next,by simp,?_,by simp only [put_next,kn]; omega⟩
   have g1 : ¬ t.next=σ.next+1:=by omega
   have g2 : ¬ t.next=σ.next:=by omega
   simp only [put_obj,g1,g2,if_false,if_true]; rfl
  ·cases h; omega
 ·rintro t o ⟨zs,rs,v,h1,h2,h3,h4,h5,h6⟩ hlt ho
  cases rs with
  | cons k rs => cases h1
  | nil =>
  rw [List.append_nil] at h2
  have e3 : ¬ σ.next=σ.next+1:=by omega
  simp only [put_next] at hlt ho ⊢
  simp only [go_sem,e3,h3]
  refine ⟨zs,h2,by omega,h5.mono (Nat.le_refl _) fun id hv hid => ?_⟩
  have:=h6 _ _ hv
  have g1 : ¬ id=σ.next+1:=by omega
  show (if id=σ.next+1 then none else t.obj id)=_
  rw [if_neg g1]
theorem collect_c (ks : List Str) (fv : IV) (hT : TellerP Tryz.prog EE fv (ks.map evK) (fun _ => True)) (hn : ks.length < 2 ^ 30) (σ : Store) :
  C Tryz.prog EE 136 [fv] σ fun v t => ∃ zs : List Str,zs.Perm ks∧σ.next≤t.next∧Grow t v 1 (zs.map strC):=by
 refine C_f fok136 (Nat.le_of_ble_eq_true rfl) ?_
 simp only [ic136,go_sem]
 refine call_c fok214 (appSeq_c ks fv hT hn _) ?_
 rintro v t ⟨zs,h1,h2,h3⟩
 have h2 : σ.next≤t.next:=Nat.le_trans (by first | exact Nat.le_refl _ | exact Nat.le_succ _) h2
 refine ⟨by omega,?_⟩
 simp only [go_sem]
 exact ⟨zs,h1,h2,h3⟩
theorem sortNilS_c {σ : Store} : C Tryz.prog EE 137 [.nilslice] σ fun v s => v=.tuple []∧s=σ:=C_sortNil fun p cap w => Any.slices_Sort_string_none laysS p cap w
theorem flat_str (zs : List Str) : (zs.map strC).flatten=zs.map IV.str:=by
 induction zs with
 | nil => rfl
 | cons z zs ih => simp only [List.map_cons,List.flatten_cons,ih]; rfl
theorem sorted_c (ks : List Str) (fv : IV) (hT : TellerP Tryz.prog EE fv (ks.map evK) (fun _ => True)) (hn : ks.length < 2 ^ 30) (σ : Store) :
  C Tryz.prog EE 70 [fv] σ fun v t => ∃ zs : List Str,zs.Perm ks∧σ.next≤t.next∧Grow t v 1 ((srtS zs).map strC):=by
 refine C_f fok70 (Nat.le_of_ble_eq_true rfl) ?_
 simp only [ic70,go_sem]
 refine call_c fok136 (collect_c ks fv hT hn _) ?_
 rintro v t ⟨zs,h1,h2,h3⟩
 have h2 : σ.next≤t.next:=Nat.le_trans (by first | exact Nat.le_refl _ | exact Nat.le_succ _) h2
 refine ⟨by omega,?_⟩
 have hzl : zs.length < 2 ^ 30:=by have:=h1.length_eq; omega
 rcases h3 with ⟨rfl,he⟩ | ⟨id,rfl,ho,hid⟩
 ·have hz : zs=[]:=List.map_eq_nil_iff.1 he
  subst hz
  simp only [go_sem]
  refine call_c fok137 sortNilS_c ?_
  rintro v s ⟨rfl,rfl⟩
  refine ⟨Nat.le_refl _,?_⟩
  simp only [go_sem]
  exact ⟨[],h1,h2,.inl ⟨rfl,by unfold srtS; rw [List.mergeSort_nil]; rfl⟩⟩
 ·rw [flat_str] at ho
  simp only [go_sem,List.length_map]
  refine call_c fok137 (sortStrs_c (zs:=zs) (by omega) ho) ?_
  rintro v s ⟨rfl,rfl⟩
  refine ⟨Nat.le_refl _,?_⟩
  simp only [go_sem]
  have hsl : (srtS zs).length=zs.length:=List.length_mergeSort _
  exact ⟨zs,h1,h2,.inr ⟨id,by rw [List.length_map,hsl],by rw [flat_str]; simp only [put_obj,if_true],hid⟩⟩
end Go.Id.Tryz
/- The names of a pool,sorted. Conditions: sizes that fit. -/
namespace Go.Id.Tryz
open Go Go.Id Go.Proofs Go.Shelf Go.Id.Md
set_option maxRecDepth 100000
theorem sorted_unique {α : Type} {r : α→α→Prop} (anti : ∀ a b,r a b→r b a→a=b) : ∀ {l1 l2 : List α},l1.Perm l2→l1.Pairwise r→l2.Pairwise r→l1=l2:=by
 intro l1
 induction l1 with
 | nil => intro l2 h _ _; exact (List.nil_perm.1 h).symm
 | cons a l1 ih =>
  intro l2 h h1 h2
  cases l2 with
  | nil => exact absurd h.length_eq (by simp)
  | cons b l2 =>
   obtain ⟨a1,a2⟩:=List.pairwise_cons.1 h1
   obtain ⟨b1,b2⟩:=List.pairwise_cons.1 h2
   have e : a=b:=by
    rcases List.mem_cons.1 (h.mem_iff.1 (List.mem_cons_self ..)) with e | e
    ·exact e
    ·rcases List.mem_cons.1 (h.mem_iff.2 (List.mem_cons_self ..)) with e2 | e2
     ·exact e2.symm
     ·exact anti a b (a1 b e2) (b1 a e)
   subst e
   rw [ih h.cons_inv a2 b2]
theorem srtS_up (l : List Str) : (srtS l).Pairwise (·≤·):=by
 refine List.Pairwise.imp (fun h => of_decide_eq_true h) (List.pairwise_mergeSort (le:=fun x y : Str => decide (x≤y)) (fun a b c h1 h2 => ?_) (fun a b => ?_) _)
 ·exact decide_eq_true (List.le_trans (of_decide_eq_true h1) (of_decide_eq_true h2))
 ·rcases List.le_total a b with h | h
  ·simp [h]
  ·simp [h]
theorem srtS_perm {zs ks : List Str} (h : zs.Perm ks) : srtS zs=srtS ks :=
 sorted_unique (fun a b h1 h2 => List.le_antisymm h1 h2) (((List.mergeSort_perm _ _).trans h).trans (List.mergeSort_perm _ _).symm) (srtS_up zs) (srtS_up ks)
theorem keys_pc (es : List (IV × IV)) : PC Tryz.prog EE 71 [.tmap es] (.func (.func 138) [] [.tptr [.tmap es]]):=by
 refine PC_f fok71 (Nat.le_of_ble_eq_true rfl) fun σ => ?_
 simp only [ic71,go_sem]
def namesM (p : Pool) : List Str:=srtS (p.nm.map (·.1))
theorem poolNames_pc (p : Pool) (hn : p.nm.length < 2 ^ 30) : PC Tryz.prog EE 16 [p.v] (.tslice ((namesM p).map strC)):=by
 refine PC_e hE fok16 (Nat.le_of_ble_eq_true rfl) (one_mem (bnd_pool p)) ?_
 have hnil : ∀ (d : TypeId) (cs : List IV) (c : IV),nilI (.pointer d) (.tptr (c :: cs))=some false:=fun _ _ _ => rfl
 simp only [ic16,go_sem,Pool.v,hnil]
 refine call_pc fok71 (keys_pc _) ?_
 simp only [go_sem]
 have hev : (nmV p.nm).map (fun e => [e.1])=(p.nm.map (·.1)).map evK:=by simp only [nmV,List.map_map]; rfl
 have hT:=keys_tell (nmV p.nm) (fun e he => by
  obtain ⟨t,_,rfl⟩:=List.mem_map.1 he
  exact .str _)
 rw [hev] at hT
 refine call_c fok70 (sorted_c (p.nm.map (·.1)) _ hT (by rw [List.length_map]; exact hn) _) ?_
 rintro v t ⟨zs,h1,h2,h3⟩
 refine ⟨h2,?_⟩
 simp only [go_sem]
 rw [srtS_perm h1] at h3
 refine h3.frz (fun y hy => (str_all _ y hy).1) (fun _ _ => Nat.not_lt_zero _) fun e he c hc => ?_
 obtain ⟨k,_,rfl⟩:=List.mem_map.1 he
 cases hc with
 | head => exact .str _
 | tail _ h => cases h
end Go.Id.Tryz
/- The numbers of a name. Conditions: sizes that fit. -/
namespace Go.Id.Tryz
open Go Go.Id Go.Proofs Go.Shelf Go.Id.Md
set_option maxRecDepth 100000
theorem cloneInts_pc (zs : List Int) (hz : zs≠[]) (hl : zs.length < 2 ^ 30) : PC Tryz.prog EE 72 [.tslice (zs.map Md.intC)] (.tslice (zs.map Md.intC)):=by
 refine PC_e hE fok72 (Nat.le_of_ble_eq_true rfl) (one_mem (bnd_ints zs)) ?_
 have hnil : ∀ (d : TypeId),nilI (.slice d) (.tslice (zs.map Md.intC))=some false:=fun d => by
  cases zs with
  | nil => exact absurd rfl hz
  | cons z zs => rfl
 simp only [ic72,go_sem,hnil]
 have hg : Grow ((⟨2,emp.obj⟩ : Store).put 0 (IObj.row [])) (.slice 0 0 0 1) 1 (([] : List Int).map Md.intC):=.inr ⟨0,rfl,by simp only [put_obj,if_true]; rfl,by show 0 < 2; omega⟩
 obtain ⟨v',σ',ha,hn',hG⟩:=app_ints (nid:=1) (xs:=zs) hg (by simp only [List.length_nil]; omega)
 have hn2 : σ'.next=2:=hn'
 have hf:=hG σ' rfl (by omega) (Nat.le_of_eq hn'.symm)
 rw [List.nil_append] at hf
 simp only [go_sem,ha]
 refine hf.frz (fun y hy => (int_all _ y hy).1) (fun _ _ => Nat.not_lt_zero _) fun e he c hc => ?_
 obtain ⟨n,_,rfl⟩:=List.mem_map.1 he
 cases hc with
 | head => exact .int _ _
 | tail _ h => cases h
theorem nmLook_lkp (nm : Nms) (k : Str) (h : nmLook nm k≠[]) (σ : Store) : lkpI σ 2 .nilslice false (.tmap (nmV nm)) (.str k)=some (.tslice ((nmLook nm k).map Md.intC)):=by
 obtain ⟨v,h1,h2⟩:=lkp_nm nm σ k
 rcases h2 with rfl | ⟨_,h0⟩
 ·exact h1
 ·exact absurd h0 h
theorem poolNamed_pc (p : Pool) (k : Str) (h : nmLook p.nm k≠[]) (hl : (nmLook p.nm k).length < 2 ^ 30) : PC Tryz.prog EE 18 [p.v,.str k] (.tslice ((nmLook p.nm k).map Md.intC)):=by
 refine PC_e hE fok18 (Nat.le_of_ble_eq_true rfl) (two_mem (bnd_pool p) (.str _)) ?_
 have hnil : ∀ (d : TypeId) (cs : List IV) (c : IV),nilI (.pointer d) (.tptr (c :: cs))=some false:=fun _ _ _ => rfl
 have hk:=nmLook_lkp p.nm k h
 have hc:=cloneInts_pc (nmLook p.nm k) h hl
 have hb:=bnd_ints (nmLook p.nm k)
 generalize nmLook p.nm k=l at *
 simp only [ic18,go_sem,Pool.v,hnil,hk]
 refine call_pc fok72 hc ?_
 simp only [go_sem]
 exact .keep _ hb
end Go.Id.Tryz
/- Names that rise; who obsoletes whom in a pool,asked of any two. Conditions: sizes that fit. -/
namespace Go.Id.Tryz
open Go Go.Id Go.Proofs Go.Shelf Go.Id.Md Go.Sort
set_option maxRecDepth 100000
theorem namesM_perm (p : Pool) : (namesM p).Perm (p.nm.map (·.1)):=List.mergeSort_perm _ _
theorem namesM_lt {p : Pool} (h : KN p.nm) : (namesM p).Pairwise fun a b => Op.bytesLess a b=true:=by
 have h1 : (namesM p).Nodup:=(namesM_perm p).nodup_iff.2 h
 have h2 : (namesM p).Pairwise (·≤·):=srtS_up _
 refine (h1.and h2).imp fun {a b} q => ?_
 rw [bytesLess_eq]
 refine decide_eq_true ?_
 rcases Decidable.em (a < b) with h | h
 ·exact h
 ·exact absurd (List.le_antisymm q.2 (List.not_lt.1 h)) q.1
theorem poolObsAll_pc (p : Pool) (n m : Nat) (h : n < p.rows.length) (h' : m < p.rows.length) (hs : ∀ r∈p.rows,Pkg.small r.pkg) : PC Tryz.prog EE 20 [p.v,.int .i64 n,.int .i64 m] (.bool (decide (n≠m) && obsoletes p.rows[n].pkg p.rows[m].pkg)):=by
 by_cases hne : n=m
 ·subst hne
  refine PC_e hE fok20 (Nat.le_of_ble_eq_true rfl) (fun a ha => by
   simp only [List.mem_cons,List.not_mem_nil,or_false] at ha
   rcases ha with rfl | rfl | rfl
   ·exact bnd_pool p
   ·exact .int _ _
   ·exact .int _ _) ?_
  have c1 : (n : Int) < p.rows.length:=by omega
  have c2 : (0 : Int)≤n:=by omega
  have hnil : ∀ (d : TypeId) (cs : List IV) (c : IV),nilI (.pointer d) (.tptr (c :: cs))=some false:=fun _ _ _ => rfl
  simp only [ic20,go_sem,Pool.v,hnil]
  refine call_pc fok73 (rowsIs_pc p.rows n) ?_
  simp only [go_sem,c1,c2,Bool.and_self]
  refine call_pc fok73 (rowsIs_pc p.rows n) ?_
  simp only [go_sem,c1,c2,Bool.and_self,ne_eq,not_true_eq_false,Bool.false_and]
  exact frz_bool _
 ·have h3:=poolObsoletes_pc p n m h h' hne hs
  have e : decide (n≠m)=true:=decide_eq_true hne
  rw [e,Bool.true_and]
  exact h3
end Go.Id.Tryz
