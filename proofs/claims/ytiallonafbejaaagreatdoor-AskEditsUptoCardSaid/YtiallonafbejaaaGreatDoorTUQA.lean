/- Indexes: what is asked of them. Conditions: sizes that fit. -/
import Derived.Test.YtiallonafbejaaaGreatDoorTUPW
set_option linter.all false
namespace Go.Id.Tryz
open Go Go.Id Go.Proofs Go.Id.Md
theorem call_ok {f : Nat} {args : List IV} {v : IV} {σ : Store} {K : IV→Store→Prop} (hf : okF Tryz.prog f=true) (h : PC Tryz.prog EE f args v) (hk : K v σ) : callT Tryz.prog EE none f args σ K :=
 callT_of hf (PC_C h) fun _ _ ⟨h1,h2⟩ => by subst h1; subst h2; exact ⟨Nat.le_refl _,hk⟩
theorem bnd_idx (x : Index) : Bnd 0 x.v:=.tptr _ fun c hc => by
 simp only [List.mem_cons,List.not_mem_nil,or_false] at hc
 rcases hc with rfl | rfl | rfl | rfl
 ·exact bnd_pkgs _
 ·exact bnd_nmV _
 ·exact bnd_nmV _
 ·exact bnd_nmV _
theorem sift_pc (x : Index) (l : List Int) (hl : l.length < 2 ^ 30) (k : Nat) (cap : List IV) (w : Int→Bool) (hcap : ∀ c∈cap,Bnd 0 c) (hok : okF Tryz.prog k=true)
  (hW : ∀ n∈l,∃ m : Nat,n=m∧∃ h : m < x.all.length,PC Tryz.prog EE k (.agg x.all[m].cs :: .int .i64 n :: cap) (.bool (w n))) :
  PC Tryz.prog EE 82 [x.v,.tslice (l.map Md.intC),.func (.func k) [] cap] (.tslice ((l.filter w).map Md.intC)):=by
 have hx : x.v=.tptr [.tslice (x.all.map Package.cs),.tmap (nmV x.prov),.tmap (nmV x.names),.tmap (nmV x.over)]:=rfl
 have hbx:=bnd_idx x
 rw [hx] at hbx ⊢
 generalize IV.tmap (nmV x.prov)=v1 at *
 generalize IV.tmap (nmV x.names)=v2 at *
 generalize IV.tmap (nmV x.over)=v3 at *
 refine PC_e hE fok82 (Nat.le_of_ble_eq_true rfl) (fun a ha => ?_) ?_
 ·simp only [List.mem_cons,List.not_mem_nil,or_false] at ha
  rcases ha with rfl | rfl | rfl
  ·exact hbx
  ·exact bnd_ints _
  ·exact .func _ _ _ (fun c hc => by cases hc) hcap
 simp only [ic82,go_sem]
 refine loop_up noT (fun i fr s => ∃ gv,fr=[(0,.tptr [.tslice (x.all.map Package.cs),v1,v2,v3]),(2,.func (.func k) [] cap),(7,gv),(10,.tslice (l.map Md.intC)),(11,.int .i64 l.length),(12,.int .i64 i)]∧Grow s gv 1 (((l.take i).filter w).map Md.intC)) l.length ⟨.nilslice,rfl,.inl ⟨rfl,rfl⟩⟩ ?_
 rintro i fr s hle ⟨gv,rfl,hg⟩
 by_cases hlt : i < l.length
 ·obtain ⟨n,hn,_,hdr,hget,htk⟩:=at_nth l i hlt
  have c1 : (i : Int) < l.length:=by omega
  have c2 : (0 : Int)≤i:=by omega
  have w1:=wrapS (i:=i) (by omega)
  obtain ⟨m,rfl,hm,hpc⟩:=hW n hn
  have c3 : (m : Int) < x.all.length:=by omega
  have c4 : (0 : Int)≤m:=by omega
  have hgm : (x.all.map Package.cs).getD m []=x.all[m].cs:=by simp [List.getD_eq_getElem?_getD,hm]
  simp only [go_sem,c1,c2,c3,c4,hget,Md.intC,hgm,pkg_len,pkg_take,pkg_leaf,Int.toNat_natCast,List.length_map]
  refine call_ok hok hpc ?_
  cases hw : w (m : Int) with
  | false =>
   simp only [go_sem,w1]
   exact ⟨hlt,gv,rfl,by rw [htk,List.filter_append]; simpa [hw] using hg⟩
  | true =>
   have hg1 : Grow ⟨s.next+1,s.obj⟩ gv 1 (((l.take i).filter w).map Md.intC):=Grow.mono (σ:=s) hg (Nat.le_succ _) fun _ _ _ => rfl
   have hlen : ((l.take i).filter w).length≤i:=by
    refine Nat.le_trans (List.length_filter_le _ _) ?_
    rw [List.length_take]; omega
   have hap:=app_grow (nid:=s.next) (e:=[.int .i64 (m : Int)]) hg1 (int_all _) ⟨rfl,rfl⟩ (by rw [List.length_map]; omega)
   simp only [go_sem,hap,w1]
   refine ⟨hlt,_,rfl,?_⟩
   rw [htk,List.filter_append,List.map_append]
   have e : List.filter w [(m : Int)]=[(m : Int)]:=by simp [hw]
   rw [e]
   refine .inr ⟨s.next,by simp,?_,?_⟩
   ·show (if s.next=s.next then _ else _)=_
    rw [if_pos rfl]; rfl
   ·show s.next < (killv gv _).next
    rw [killv_next]; exact Nat.lt_succ_self _
 ·have hi' : i=l.length:=by omega
  subst hi'
  have c1 : ¬ (l.length : Int) < l.length:=by omega
  rw [List.take_length] at hg
  simp only [go_sem,c1]
  refine hg.frz (fun y hy => (int_all _ y hy).1) (fun _ _ => Nat.not_lt_zero _) fun e he c hc => ?_
  obtain ⟨n,_,rfl⟩:=List.mem_map.1 he
  cases hc with
  | head => exact .int _ _
  | tail _ h => cases h
end Go.Id.Tryz
