/- Architectures: scores,who follows whom. Conditions: none. -/
import Derived.Test.YtiallonafbejaaaGreatDoorTUPA
import Derived.Test.YtiallonafbejaaaGreatDoorMs
import Derived.Test.YtiallonafbejaaaGreatDoorFwWk
import Derived.Test.YtiallonafbejaaaGreatDoorTUQK
set_option linter.all false
namespace Go.Id.Tryz
open Go Go.Id Go.Proofs Go.Id.Md
set_option maxRecDepth 100000
theorem frz_b {S : Nat→Prop} {s : Store} {a b : Bool} (h : a=b) : Frz s S (.bool a) (.bool b):=h ▸ frz_bool a
theorem frz_i {S : Nat→Prop} {s : Store} {k : IntKind} {a b : Int} (h : a=b) : Frz s S (.int k a) (.int k b):=h ▸ .keep _ (.int _ _)
theorem machine_pc (a : Int) : PC Tryz.prog EE 154 [.int .u8 a] (.bool (machM a)):=by
 refine PC_e hE fok154 (Nat.le_of_ble_eq_true rfl) (mems1 (.int _ _)) ?_
 simp only [ic154,go_sem]
 first | refine call_pc fok169 (archIs_pc a) ?_ | refine callP_of (archIs_pc a) ?_
 unfold machM
 cases archOK a with
 | false => simp only [go_sem]; exact frz_b rfl
 | true =>
  by_cases h : a=1
  ·simp only [go_sem,h]; exact frz_b rfl
  ·simp only [go_sem,h]; exact frz_b (by simp [h])
theorem apart_pc (a b : Int) : PC Tryz.prog EE 111 [.int .u8 a,.int .u8 b] (.bool (apartM a b)):=by
 refine PC_e hE fok111 (Nat.le_of_ble_eq_true rfl) (mems2 (.int _ _) (.int _ _)) ?_
 have ha:=machine_pc a
 have hb:=machine_pc b
 simp only [ic111,go_sem]
 first | refine call_pc fok154 (ha) ?_ | refine callP_of (ha) ?_
 unfold apartM
 cases machM a with
 | false => simp only [go_sem]; exact frz_b rfl
 | true =>
  simp only [go_sem]
  first | refine call_pc fok154 (hb) ?_ | refine callP_of (hb) ?_
  cases machM b with
  | false => simp only [go_sem]; exact frz_b rfl
  | true =>
   by_cases h : a=b
   ·simp only [go_sem,h]; exact frz_b (by simp)
   ·simp only [go_sem,h]; exact frz_b (by simp [h])
theorem follows_pc (a b : Int) : PC Tryz.prog EE 107 [.int .u8 a,.int .u8 b] (.bool (followsM a b)):=by
 refine PC_e hE fok107 (Nat.le_of_ble_eq_true rfl) (mems2 (.int _ _) (.int _ _)) ?_
 have ha:=archIs_pc a
 have hb:=archIs_pc b
 have hc:=apart_pc a b
 simp only [ic107,go_sem]
 first | refine call_pc fok169 (ha) ?_ | refine callP_of (ha) ?_
 unfold followsM
 cases archOK a with
 | false => simp only [go_sem]; exact frz_b rfl
 | true =>
  simp only [go_sem]
  first | refine call_pc fok169 (hb) ?_ | refine callP_of (hb) ?_
  cases archOK b with
  | false => simp only [go_sem]; exact frz_b rfl
  | true =>
   simp only [go_sem]
   first | refine call_pc fok111 (hc) ?_ | refine callP_of (hc) ?_
   simp only [go_sem]
   exact frz_b (by simp)
end Go.Id.Tryz
/- Indexes asked: rows of one's own. Conditions: sizes that fit. -/
namespace Go.Id.Tryz
open Go Go.Id Go.Proofs Go.Id.Md
set_option maxRecDepth 100000
theorem C_weak {f : Nat} {args args' : List IV} {σ : Store} {Q : IV→Store→Prop} (hl : args'.length=args.length) (ha : ∀ i,i < args.length→Frz σ (fun _ => true=true) (args.getD i .undef) (args'.getD i .undef)) (h : C Tryz.prog EE f args' σ Q) : C Tryz.prog EE f args σ Q :=
 C_kill (S:=fun _ => true) hl ha h
theorem sift_c (x : Index) (l : List Int) (hl : l.length < 2 ^ 30) (k : Nat) (cap : List IV) (w : Int→Bool) (hok : okF Tryz.prog k=true)
  (hW : ∀ n∈l,∃ m : Nat,n=m∧∃ h : m < x.all.length,PC Tryz.prog EE k (.agg x.all[m].cs :: .int .i64 n :: cap) (.bool (w n))) (σ : Store) :
  C Tryz.prog EE 82 [x.v,.tslice (l.map Md.intC),.func (.func k) [] cap] σ (IOutX σ (l.filter w)):=by
 have hx : x.v=.tptr [.tslice (x.all.map Package.cs),.tmap (nmV x.prov),.tmap (nmV x.names),.tmap (nmV x.over)]:=rfl
 rw [hx]
 generalize IV.tmap (nmV x.prov)=v1 at *
 generalize IV.tmap (nmV x.names)=v2 at *
 generalize IV.tmap (nmV x.over)=v3 at *
 refine C_f fok82 (Nat.le_of_ble_eq_true rfl) ?_
 simp only [ic82,go_sem]
 refine loop_up noT (fun i fr s => ∃ gv,fr=[(0,.tptr [.tslice (x.all.map Package.cs),v1,v2,v3]),(2,.func (.func k) [] cap),(7,gv),(10,.tslice (l.map Md.intC)),(11,.int .i64 l.length),(12,.int .i64 i)]∧Kept σ s∧IRowX s σ.next gv ((l.take i).filter w)) l.length ⟨.nilslice,rfl,Kept.refl σ,.inl ⟨rfl,rfl⟩⟩ ?_
 rintro i fr s hle ⟨gv,rfl,hk,hg⟩
 by_cases hlt : i < l.length
 ·obtain ⟨n,hn,_,hdr,hget,htk⟩:=at_nth l i hlt
  have c1 : (i : Int) < l.length:=by omega
  have c2 : (0 : Int)≤i:=by omega
  have w1:=wrapS (i:=i) (by omega)
  obtain ⟨m,rfl,hm,hpc⟩:=hW n hn
  have c3 : (m : Int) < x.all.length:=by omega
  have c4 : (0 : Int)≤m:=by omega
  have hgm : (x.all.map Package.cs).getD m []=x.all[m].cs:=by simp [List.getD_eq_getElem?_getD,hm]
  simp only [go_sem,c1,c2,c3,c4,hget,Md.intC,hgm,pkg_len,pkg_take,pkg_leaf,Int.toNat_natCast,List.length_map]
  refine call_ok hok hpc ?_
  cases hw : w (m : Int) with
  | false =>
   simp only [go_sem,w1]
   have e : (l.take (i+1)).filter w=(l.take i).filter w:=by rw [htk,List.filter_append]; simp [hw]
   rw [e]
   exact ⟨hlt,gv,rfl,hk,hg⟩
  | true =>
   have hlen : ((l.take i).filter w).length≤i:=by
    refine Nat.le_trans (List.length_filter_le _ _) ?_
    rw [List.length_take]; omega
   have hap:=app_one (nid:=s.next) (hg.up 1) (m : Int) (by omega)
   have e : (l.take (i+1)).filter w=(l.take i).filter w ++ [(m : Int)]:=by rw [htk,List.filter_append]; simp [hw]
   simp only [go_sem,hap,w1,e]
   have hz:=app_kept hk hg (m : Int) (a:=1) (nid:=s.next) (Nat.le_refl _) (Nat.lt_succ_self _) rfl
   exact ⟨hlt,_,rfl,hz.1,hz.2⟩
 ·have hi' : i=l.length:=by omega
  subst hi'
  have c1 : ¬ (l.length : Int) < l.length:=by omega
  rw [List.take_length] at hg
  simp only [go_sem,c1]
  exact ⟨hk,hg⟩
end Go.Id.Tryz
/- Rows of numbers,jobs and edits: looked through,copied; numbers struck from a row of one's own. Conditions: sizes that fit. -/
namespace Go.Id.Tryz
open Go Go.Id Go.Proofs Go.Shelf Go.Id.Md
set_option maxRecDepth 100000
theorem job_len (d : Job) : d.cs.length=6:=rfl
theorem job_leaf (d : Job) : d.cs.all IV.leaf=true:=rfl
theorem job_take (d : Job) : d.cs.take 6=d.cs:=rfl
theorem edit_len (d : Edit) : d.cs.length=2:=rfl
theorem edit_leaf (d : Edit) : d.cs.all IV.leaf=true:=rfl
theorem edit_take (d : Edit) : d.cs.take 2=d.cs:=rfl
theorem bnd_job (d : Job) : ∀ c∈d.cs,Bnd 0 c:=mems6 (.int _ _) (.str _) (.int _ _) (.int _ _) (.str _) (.str _)
theorem bnd_edit (d : Edit) : ∀ c∈d.cs,Bnd 0 c:=mems2 (.int _ _) (.int _ _)
theorem bnd_jobs (l : List Job) : Bnd 0 (jobsV l):=.tslice _ fun e he c hc => by
 obtain ⟨d,_,rfl⟩:=List.mem_map.1 he; exact bnd_job d c hc
theorem bnd_edits (l : List Edit) : Bnd 0 (editsV l):=.tslice _ fun e he c hc => by
 obtain ⟨d,_,rfl⟩:=List.mem_map.1 he; exact bnd_edit d c hc
theorem bnd_jobA (d : Job) : Bnd 0 (.agg d.cs):=.agg _ (bnd_job d)
theorem bnd_editA (d : Edit) : Bnd 0 (.agg d.cs):=.agg _ (bnd_edit d)
theorem idxInt_pc (xs : List Int) (g : Nat) (first cap : List IV) (q : Int→Bool) (hn : xs.length < 2 ^ 62) (hok : okF Tryz.prog g=true)
  (hq : ∀ x∈xs,PC Tryz.prog EE g (first ++ [IV.int .i64 x] ++ cap) (.bool (q x))) : PC Tryz.prog EE 163 [.tslice (xs.map Md.intC),.func (.func g) first cap] (.int .i64 (findI q xs 0)):=by
 refine PC_f fok163 (Nat.le_of_ble_eq_true rfl) fun σ => ?_
 simp only [ic163,go_sem]
 refine loop_up noT (fun i fr s => s=σ∧fr=[(0,.tslice (xs.map Md.intC)),(1,.func (.func g) first cap),(7,.int .i64 xs.length),(8,.int .i64 i)]∧findI q xs 0=findI q (xs.drop i) i) xs.length ⟨rfl,rfl,rfl⟩ ?_
 rintro i fr s hi ⟨rfl,rfl,hf⟩
 by_cases hlt : i < xs.length
 ·obtain ⟨x,ha,_,hdr,hget,_⟩:=at_nth xs i hlt
  have c1 : (i : Int) < xs.length:=by omega
  have c2 : (0 : Int)≤i:=by omega
  have w1:=wrapS (i:=i) (by omega)
  rw [hdr] at hf
  simp only [go_sem,c1,c2,hget,Md.intC]
  refine callT_of hok (PC_C (hq x ha)) ?_
  rintro v s ⟨rfl,rfl⟩
  refine ⟨Nat.le_refl _,?_⟩
  cases hqe : q x with
  | true => simp only [go_sem,hf,findI,hqe,and_self]
  | false =>
   simp only [go_sem,w1]
   exact ⟨hlt,by rw [hf]; simp only [findI,hqe,Bool.false_eq_true,if_false,Int.natCast_add,Int.natCast_one]⟩
 ·have hi' : i=xs.length:=by omega
  subst hi'
  have c1 : ¬ (xs.length : Int) < xs.length:=by omega
  rw [List.drop_length] at hf
  simp only [go_sem,c1,hf,findI,and_self]
theorem idxJob_pc (xs : List Job) (g : Nat) (first cap : List IV) (q : Job→Bool) (hn : xs.length < 2 ^ 62) (hok : okF Tryz.prog g=true)
  (hq : ∀ x∈xs,PC Tryz.prog EE g (first ++ [IV.agg (Job.cs x)] ++ cap) (.bool (q x))) : PC Tryz.prog EE 229 [.tslice (xs.map Job.cs),.func (.func g) first cap] (.int .i64 (findI q xs 0)):=by
 refine PC_f fok229 (Nat.le_of_ble_eq_true rfl) fun σ => ?_
 simp only [ic229,go_sem]
 refine loop_up noT (fun i fr s => s=σ∧fr=[(0,.tslice (xs.map Job.cs)),(1,.func (.func g) first cap),(7,.int .i64 xs.length),(8,.int .i64 i)]∧findI q xs 0=findI q (xs.drop i) i) xs.length ⟨rfl,rfl,rfl⟩ ?_
 rintro i fr s hi ⟨rfl,rfl,hf⟩
 by_cases hlt : i < xs.length
 ·obtain ⟨x,ha,_,hdr,hget,_⟩:=at_nth xs i hlt
  have c1 : (i : Int) < xs.length:=by omega
  have c2 : (0 : Int)≤i:=by omega
  have w1:=wrapS (i:=i) (by omega)
  rw [hdr] at hf
  simp only [go_sem,c1,c2,hget,job_len,job_take,job_leaf]
  refine callT_of hok (PC_C (hq x ha)) ?_
  rintro v s ⟨rfl,rfl⟩
  refine ⟨Nat.le_refl _,?_⟩
  cases hqe : q x with
  | true => simp only [go_sem,hf,findI,hqe,and_self]
  | false =>
   simp only [go_sem,w1]
   exact ⟨hlt,by rw [hf]; simp only [findI,hqe,Bool.false_eq_true,if_false,Int.natCast_add,Int.natCast_one]⟩
 ·have hi' : i=xs.length:=by omega
  subst hi'
  have c1 : ¬ (xs.length : Int) < xs.length:=by omega
  rw [List.drop_length] at hf
  simp only [go_sem,c1,hf,findI,and_self]
theorem conJob_pc (xs : List Job) (g : Nat) (first cap : List IV) (q : Job→Bool) (hn : xs.length < 2 ^ 62) (hok : okF Tryz.prog g=true)
  (hq : ∀ x∈xs,PC Tryz.prog EE g (first ++ [IV.agg (Job.cs x)] ++ cap) (.bool (q x))) : PC Tryz.prog EE 155 [.tslice (xs.map Job.cs),.func (.func g) first cap] (.bool (xs.any q)):=by
 refine PC_f fok155 (Nat.le_of_ble_eq_true rfl) fun σ => ?_
 simp only [ic155,go_sem]
 first | refine call_pc fok229 (idxJob_pc xs g first cap q hn hok hq) ?_ | refine callP_of (idxJob_pc xs g first cap q hn hok hq) ?_
 simp only [go_sem,findI_any0,and_self]
theorem idxEdit_pc (xs : List Edit) (g : Nat) (first cap : List IV) (q : Edit→Bool) (hn : xs.length < 2 ^ 62) (hok : okF Tryz.prog g=true)
  (hq : ∀ x∈xs,PC Tryz.prog EE g (first ++ [IV.agg (Edit.cs x)] ++ cap) (.bool (q x))) : PC Tryz.prog EE 231 [.tslice (xs.map Edit.cs),.func (.func g) first cap] (.int .i64 (findI q xs 0)):=by
 refine PC_f fok231 (Nat.le_of_ble_eq_true rfl) fun σ => ?_
 simp only [ic231,go_sem]
 refine loop_up noT (fun i fr s => s=σ∧fr=[(0,.tslice (xs.map Edit.cs)),(1,.func (.func g) first cap),(7,.int .i64 xs.length),(8,.int .i64 i)]∧findI q xs 0=findI q (xs.drop i) i) xs.length ⟨rfl,rfl,rfl⟩ ?_
 rintro i fr s hi ⟨rfl,rfl,hf⟩
 by_cases hlt : i < xs.length
 ·obtain ⟨x,ha,_,hdr,hget,_⟩:=at_nth xs i hlt
  have c1 : (i : Int) < xs.length:=by omega
  have c2 : (0 : Int)≤i:=by omega
  have w1:=wrapS (i:=i) (by omega)
  rw [hdr] at hf
  simp only [go_sem,c1,c2,hget,edit_len,edit_take,edit_leaf]
  refine callT_of hok (PC_C (hq x ha)) ?_
  rintro v s ⟨rfl,rfl⟩
  refine ⟨Nat.le_refl _,?_⟩
  cases hqe : q x with
  | true => simp only [go_sem,hf,findI,hqe,and_self]
  | false =>
   simp only [go_sem,w1]
   exact ⟨hlt,by rw [hf]; simp only [findI,hqe,Bool.false_eq_true,if_false,Int.natCast_add,Int.natCast_one]⟩
 ·have hi' : i=xs.length:=by omega
  subst hi'
  have c1 : ¬ (xs.length : Int) < xs.length:=by omega
  rw [List.drop_length] at hf
  simp only [go_sem,c1,hf,findI,and_self]
theorem conEdit_pc (xs : List Edit) (g : Nat) (first cap : List IV) (q : Edit→Bool) (hn : xs.length < 2 ^ 62) (hok : okF Tryz.prog g=true)
  (hq : ∀ x∈xs,PC Tryz.prog EE g (first ++ [IV.agg (Edit.cs x)] ++ cap) (.bool (q x))) : PC Tryz.prog EE 158 [.tslice (xs.map Edit.cs),.func (.func g) first cap] (.bool (xs.any q)):=by
 refine PC_f fok158 (Nat.le_of_ble_eq_true rfl) fun σ => ?_
 simp only [ic158,go_sem]
 first | refine call_pc fok231 (idxEdit_pc xs g first cap q hn hok hq) ?_ | refine callP_of (idxEdit_pc xs g first cap q hn hok hq) ?_
 simp only [go_sem,findI_any0,and_self]
/-! ### A number,an edit,looked for -/
theorem any_mem {α : Type} [DecidableEq α] (xs : List α) (n : α) : xs.any (fun x => decide (n=x))=decide (n∈xs):=by
 rw [Bool.eq_iff_iff]; simp
theorem eqEdit (a b : Edit) : eqvI [1,1] true false (.agg a.cs) (.agg b.cs)=some (.bool (decide (a=b))):=by
 have e : decide (a=b)=(decide (a.kind=b.kind) && decide (a.n=b.n)):=by
  cases a; cases b; simp only [Edit.mk.injEq,Bool.decide_and]
 rw [e]
 unfold Edit.cs
 simp only [e_eqvA,e_aeq1,e_aeq0,go_sem,Option.map_some,andO,leafEq,Bool.xor_false,Bool.and_true]
theorem indexEdit_pc (xs : List Edit) (n : Edit) (hn : xs.length < 2 ^ 62) : PC Tryz.prog EE 234 [editsV xs,.agg n.cs] (.int .i64 (findI (fun x => decide (n=x)) xs 0)):=by
 refine PC_e hE fok234 (Nat.le_of_ble_eq_true rfl) (mems2 (bnd_edits xs) (bnd_editA n)) ?_
 simp only [ic234,go_sem,edit_leaf]
 refine loop_up noT (fun i fr s => fr=[(0,editsV xs),(3,.tptr n.cs),(7,.int .i64 xs.length),(8,.int .i64 i)]∧findI (fun x => decide (n=x)) xs 0=findI (fun x => decide (n=x)) (xs.drop i) i) xs.length ⟨rfl,rfl⟩ ?_
 rintro i fr s hi ⟨rfl,hf⟩
 by_cases hlt : i < xs.length
 ·obtain ⟨x,ha,_,hdr,hget,_⟩:=at_nth xs i hlt
  have c1 : (i : Int) < xs.length:=by omega
  have c2 : (0 : Int)≤i:=by omega
  have w1:=wrapS (i:=i) (by omega)
  rw [hdr] at hf
  by_cases e : n=x
  ·simp only [go_sem,c1,c2,hget,edit_len,edit_take,edit_leaf,eqEdit,e]
   subst e
   exact frz_i (by rw [hf]; simp [findI])
  ·simp only [go_sem,c1,c2,hget,edit_len,edit_take,edit_leaf,eqEdit,e,w1]
   exact ⟨hlt,by rw [hf]; simp only [findI,e,decide_false,Bool.false_eq_true,if_false,Int.natCast_add,Int.natCast_one]⟩
 ·have hi' : i=xs.length:=by omega
  subst hi'
  have c1 : ¬ (xs.length : Int) < xs.length:=by omega
  rw [List.drop_length] at hf
  simp only [go_sem,c1]
  exact frz_i (by rw [hf]; rfl)
theorem hasEdit_pc (xs : List Edit) (n : Edit) (hn : xs.length < 2 ^ 62) : PC Tryz.prog EE 162 [editsV xs,.agg n.cs] (.bool (decide (n∈xs))):=by
 refine PC_e hE fok162 (Nat.le_of_ble_eq_true rfl) (mems2 (bnd_edits xs) (bnd_editA n)) ?_
 have h:=indexEdit_pc xs n hn
 have e:=findI_any0 (fun x => decide (n=x)) xs
 rw [any_mem] at e
 simp only [ic162,go_sem,edit_len,edit_take,edit_leaf]
 first | refine call_pc fok234 (h) ?_ | refine callP_of (h) ?_
 simp only [go_sem,e]
 exact frz_b rfl
/-! ### Copies of jobs,of edits -/
theorem cloneJob_pc (xs : List Job) (hn : xs.length≤2147483648) : PC Tryz.prog EE 232 [.tslice (xs.map Job.cs)] (.tslice (xs.map Job.cs)):=by
 cases hx : xs with
 | nil =>
  rw [List.map_nil]
  refine PC_empty1 ?_ ?_
  ·refine PC_e hE fok232 (Nat.le_of_ble_eq_true rfl) (one_mem .nilslice) ?_
   simp only [ic232,go_sem,e_isnil]
   exact .nils
  ·refine PC_e hE fok232 (Nat.le_of_ble_eq_true rfl) (one_mem .eslice) ?_
   simp only [ic232,go_sem,e_isnil]
   rw [app_none (by simp only [put_obj,if_true]) rfl]
   simp only [go_sem]
   exact .slice0 _ _ _ (by simp only [put_obj,if_true]; exact fun h => (by cases h))
 | cons a as' =>
  have hne : xs.map Job.cs≠[]:=by rw [hx]; exact fun h => (by cases h)
  have hall : ∀ e∈xs.map Job.cs,e.length=6∧e.all IV.leaf=true:=fun e he => by
   obtain ⟨x,_,rfl⟩:=List.mem_map.1 he
   exact ⟨job_len x,job_leaf x⟩
  rw [← hx]
  refine PC_e hE fok232 (Nat.le_of_ble_eq_true rfl) (one_mem (bnd_jobs xs)) ?_
  have hnil : ∀ d,nilI (.slice d) (.tslice (xs.map Job.cs))=some false:=fun d => by rw [hx]; rfl
  simp only [ic232,go_sem,e_isnil,hnil]
  rw [app_all (by simp only [put_obj,if_true]) hne hall (by rw [List.length_map]; exact hn)]
  simp only [go_sem]
  refine Grow.frz (esz:=6) (es:=xs.map Job.cs) (.inr ⟨1,by rw [List.length_map],by simp only [put_obj,if_true],Nat.lt_succ_self _⟩) (fun x hx => (hall x hx).1) (fun _ _ => Nat.not_lt_zero _) (bnd_of_tslice (bnd_jobs xs))
theorem cloneEdit_pc (xs : List Edit) (hn : xs.length≤2147483648) : PC Tryz.prog EE 233 [.tslice (xs.map Edit.cs)] (.tslice (xs.map Edit.cs)):=by
 cases hx : xs with
 | nil =>
  rw [List.map_nil]
  refine PC_empty1 ?_ ?_
  ·refine PC_e hE fok233 (Nat.le_of_ble_eq_true rfl) (one_mem .nilslice) ?_
   simp only [ic233,go_sem,e_isnil]
   exact .nils
  ·refine PC_e hE fok233 (Nat.le_of_ble_eq_true rfl) (one_mem .eslice) ?_
   simp only [ic233,go_sem,e_isnil]
   rw [app_none (by simp only [put_obj,if_true]) rfl]
   simp only [go_sem]
   exact .slice0 _ _ _ (by simp only [put_obj,if_true]; exact fun h => (by cases h))
 | cons a as' =>
  have hne : xs.map Edit.cs≠[]:=by rw [hx]; exact fun h => (by cases h)
  have hall : ∀ e∈xs.map Edit.cs,e.length=2∧e.all IV.leaf=true:=fun e he => by
   obtain ⟨x,_,rfl⟩:=List.mem_map.1 he
   exact ⟨edit_len x,edit_leaf x⟩
  rw [← hx]
  refine PC_e hE fok233 (Nat.le_of_ble_eq_true rfl) (one_mem (bnd_edits xs)) ?_
  have hnil : ∀ d,nilI (.slice d) (.tslice (xs.map Edit.cs))=some false:=fun d => by rw [hx]; rfl
  simp only [ic233,go_sem,e_isnil,hnil]
  rw [app_all (by simp only [put_obj,if_true]) hne hall (by rw [List.length_map]; exact hn)]
  simp only [go_sem]
  refine Grow.frz (esz:=2) (es:=xs.map Edit.cs) (.inr ⟨1,by rw [List.length_map],by simp only [put_obj,if_true],Nat.lt_succ_self _⟩) (fun x hx => (hall x hx).1) (fun _ _ => Nat.not_lt_zero _) (bnd_of_tslice (bnd_edits xs))
end Go.Id.Tryz
/- What is asked for: each question of one or two numbers. Conditions: sizes that fit. -/
namespace Go.Id.Tryz
open Go Go.Id Go.Proofs Go.Shelf Go.Id.Md
set_option maxRecDepth 100000
structure AOK (a : AskM) : Prop where
 len : a.l.length≤256
 small : ∀ p∈a.l,Pkg.small p
 fit : ∀ p∈a.l,p.Fit
 tiny : ∀ p∈a.l,p.Tiny
 inst : a.p.inst≤a.l.length
 jobs : a.r.jobs.length≤64
 edits : a.r.edits.length≤128
 jdep : ∀ j∈a.r.jobs,Dep.small j.dep
 jkind : ∀ j∈a.r.jobs,1≤j.kind∧j.kind≤4
theorem bnd_ask (a : AskM) : Bnd 0 a.v:=.tptr _ fun c hc => by
 simp only [AskM.cs,List.mem_cons,List.not_mem_nil,or_false] at hc
 rcases hc with rfl | rfl | rfl | rfl | rfl | rfl | rfl | rfl
 ·exact bnd_pool _
 ·exact bnd_idx _
 ·exact .int _ _
 ·exact .bool _
 ·exact bnd_jobs _
 ·exact bnd_edits _
 ·exact .int _ _
 ·exact bnd_pkgs _
theorem e_nilp {d : TypeId} {c : IV} {cs : List IV} : nilI (.pointer d) (.tptr (c :: cs))=some false:=rfl
theorem askIs_pc (a : AskM) (n : Int) : PC Tryz.prog EE 109 [a.v,.int .i64 n] (.bool (a.is n)):=by
 refine PC_e hE fok109 (Nat.le_of_ble_eq_true rfl) (mems2 (bnd_ask a) (.int _ _)) ?_
 unfold AskM.is AskM.v AskM.cs
 have hl : (a.l.map Package.cs).length=a.l.length:=List.length_map ..
 generalize a.l.map Package.cs=es at *
 generalize a.l.length=k at *
 by_cases h1 : 0≤n
 ·by_cases h2 : n < (k : Nat)
  ·simp only [ic109,go_sem,e_nilp,h1,h2,hl]; exact frz_b rfl
  ·simp only [ic109,go_sem,e_nilp,h1,h2,hl]; exact frz_b rfl
 ·simp only [ic109,go_sem,e_nilp,h1]; exact frz_b rfl
theorem askJob_pc (a : AskM) (n : Int) : PC Tryz.prog EE 99 [a.v,.int .i64 n] (.bool (a.job n)):=by
 refine PC_e hE fok99 (Nat.le_of_ble_eq_true rfl) (mems2 (bnd_ask a) (.int _ _)) ?_
 unfold AskM.job AskM.v AskM.cs
 by_cases h1 : 0≤n
 ·by_cases h2 : n < (a.r.jobs.length : Nat)
  ·simp only [ic99,go_sem,e_nilp,h1,h2]; exact frz_b (by simp [h1, *])
  ·simp only [ic99,go_sem,e_nilp,h1,h2]; exact frz_b (by simp [h1, *])
 ·simp only [ic99,go_sem,e_nilp,h1]; exact frz_b rfl
theorem askInst_pc (a : AskM) (n : Int) : PC Tryz.prog EE 103 [a.v,.int .i64 n] (.bool (a.inst n)):=by
 refine PC_e hE fok103 (Nat.le_of_ble_eq_true rfl) (mems2 (bnd_ask a) (.int _ _)) ?_
 have h:=askIs_pc a n
 have hp:=poolInstalled_pc a.p
 unfold AskM.inst
 unfold AskM.v AskM.cs at *
 simp only [ic103,go_sem]
 first | refine call_pc fok109 (h) ?_ | refine callP_of (h) ?_
 cases a.is n with
 | false => simp only [go_sem]; exact frz_b rfl
 | true =>
  simp only [go_sem]
  first | refine call_pc fok66 (hp) ?_ | refine callP_of (hp) ?_
  simp only [go_sem]
  exact frz_b rfl
theorem askEdited_pc (a : AskM) (k n : Int) (hA : AOK a) : PC Tryz.prog EE 100 [a.v,.int .u8 k,.int .i64 n] (.bool (a.edited k n)):=by
 refine PC_e hE fok100 (Nat.le_of_ble_eq_true rfl) (mems3 (bnd_ask a) (.int _ _) (.int _ _)) ?_
 have h:=hasEdit_pc a.r.edits ⟨k,n⟩ (by have:=hA.edits; omega)
 unfold AskM.edited
 unfold AskM.v AskM.cs
 unfold Edit.cs at h
 simp only [ic100,go_sem]
 first | refine call_pc fok162 (h) ?_ | refine callP_of (h) ?_
 simp only [go_sem]
 exact frz_b rfl
theorem askDropped_pc (a : AskM) (n : Int) (hA : AOK a) : PC Tryz.prog EE 36 [a.v,.int .i64 n] (.bool (a.dropped n)):=by
 refine PC_e hE fok36 (Nat.le_of_ble_eq_true rfl) (mems2 (bnd_ask a) (.int _ _)) ?_
 have h:=askJob_pc a n
 have h2:=askEdited_pc a 1 n hA
 unfold AskM.dropped
 simp only [ic36,go_sem]
 first | refine call_pc fok99 (h) ?_ | refine callP_of (h) ?_
 cases a.job n with
 | false => simp only [go_sem]; exact frz_b rfl
 | true =>
  simp only [go_sem]
  first | refine call_pc fok100 (h2) ?_ | refine callP_of (h2) ?_
  simp only [go_sem]
  exact frz_b rfl
theorem at_pk (a : AskM) {n : Int} (h : a.is n=true) : 0≤n∧n < (a.l.map Package.cs).length∧(a.l.map Package.cs).getD n.toNat []=(a.pk n).cs∧a.pk n∈a.l:=by
 unfold AskM.is at h
 simp only [Bool.and_eq_true,decide_eq_true_eq] at h
 have c1 : n.toNat < a.l.length:=by omega
 refine ⟨h.1,by rw [List.length_map]; exact h.2,?_,?_⟩
 ·unfold AskM.pk
  rw [getD_at _ _ c1]
  simp [List.getD_eq_getElem?_getD,c1]
 ·unfold AskM.pk
  rw [getD_at _ _ c1]
  exact List.getElem_mem c1
theorem pkg_len1 (p : Package) : (p.cs.drop 1).length=14:=rfl
theorem askTwins_pc (a : AskM) (n m : Int) (hA : AOK a) : PC Tryz.prog EE 45 [a.v,.int .i64 n,.int .i64 m] (.bool (a.twins n m)):=by
 refine PC_e hE fok45 (Nat.le_of_ble_eq_true rfl) (mems3 (bnd_ask a) (.int _ _) (.int _ _)) ?_
 have hn:=askIs_pc a n
 have hm:=askIs_pc a m
 unfold AskM.twins
 cases i1 : a.is n with
 | false =>
  rw [i1] at hn
  unfold AskM.v AskM.cs at *
  simp only [ic45,go_sem]
  first | refine call_pc fok109 (hn) ?_ | refine callP_of (hn) ?_
  simp only [go_sem]; exact frz_b rfl
 | true =>
 cases i2 : a.is m with
 | false =>
  rw [i1] at hn
  rw [i2] at hm
  unfold AskM.v AskM.cs at *
  simp only [ic45,go_sem]
  first | refine call_pc fok109 (hn) ?_ | refine callP_of (hn) ?_
  simp only [go_sem]
  first | refine call_pc fok109 (hm) ?_ | refine callP_of (hm) ?_
  simp only [go_sem]; exact frz_b rfl
 | true =>
 obtain ⟨n1,n2,n3,n4⟩:=at_pk a i1
 obtain ⟨m1,m2,m3,m4⟩:=at_pk a i2
 rw [i1] at hn
 rw [i2] at hm
 have hap:=apart_pc (a.pk n).arch (a.pk m).arch
 have hev:=evrCompare_pc (a.pk n).evr (a.pk m).evr (hA.small _ n4).1 (hA.small _ m4).1
 unfold AskM.twinsP
 unfold AskM.v AskM.cs at *
 generalize a.pk n=p at *
 generalize a.pk m=q at *
 generalize a.l.map Package.cs=es at *
 by_cases e : n=m
 ·simp only [ic45,go_sem]
  first | refine call_pc fok109 (hn) ?_ | refine callP_of (hn) ?_
  simp only [go_sem]
  first | refine call_pc fok109 (hm) ?_ | refine callP_of (hm) ?_
  simp only [go_sem,e]; exact frz_b (by simp)
 have p0 : p.cs.head? = some (.str p.name):=rfl
 have q0 : q.cs.head? = some (.str q.name):=rfl
 have p4 : (p.cs.drop 4).head? = some (.int .u8 p.arch):=rfl
 have q4 : (q.cs.drop 4).head? = some (.int .u8 q.arch):=rfl
 have p1 : (p.cs.drop 1).take 3=p.evr.cs:=rfl
 have q1 : (q.cs.drop 1).take 3=q.evr.cs:=rfl
 simp only [ic45,go_sem]
 first | refine call_pc fok109 (hn) ?_ | refine callP_of (hn) ?_
 simp only [go_sem]
 first | refine call_pc fok109 (hm) ?_ | refine callP_of (hm) ?_
 simp only [go_sem,e,n1,n2,n3,m1,m2,m3,pkg_len,pkg_take,pkg_leaf,p0,q0]
 by_cases e2 : p.name=q.name
 ·simp only [go_sem,e2,p4,q4]
  first | refine call_pc fok111 (hap) ?_ | refine callP_of (hap) ?_
  cases apartM p.arch q.arch with
  | false => simp only [go_sem]; exact frz_b rfl
  | true =>
   simp only [go_sem,pkg_len,p1,q1,pkg_len1]
   first | refine call_pc fok106 (hev) ?_ | refine callP_of (hev) ?_
   simp only [go_sem]
   exact frz_b (by simp)
 ·simp only [go_sem,e2]
  exact frz_b (by simp)
theorem dep_job5 (j : Job) : (j.cs.drop 1).take 5=j.dep.cs:=rfl
theorem askNamed_pc (a : AskM) (k n : Int) (hA : AOK a) : PC Tryz.prog EE 104 [a.v,.int .u8 k,.int .i64 n] (.bool (a.namedBy k n)):=by
 refine PC_e hE fok104 (Nat.le_of_ble_eq_true rfl) (mems3 (bnd_ask a) (.int _ _) (.int _ _)) ?_
 have hD : ∀ i : Nat,i < a.r.jobs.length→PC Tryz.prog EE 36 [a.v,.int .i64 i] (.bool (a.dropped i)):=fun i _ => askDropped_pc a i hA
 have hN : ∀ (i : Nat) (h : i < a.r.jobs.length),PC Tryz.prog EE 29 [(idxM a.l).v,.agg (a.jb i).dep.cs] (.tslice ((namedM a.l (a.jb i).dep).map Md.intC)):=fun i h =>
  idxNamed_pc a.l (a.jb i).dep (by have:=hA.len; omega) hA.small (hA.jdep _ (by
   have e : a.jb i=a.r.jobs[i]:=by simp [AskM.jb,List.getD_eq_getElem?_getD,h]
   rw [e]; exact List.getElem_mem h))
 have hH : ∀ i : Nat,PC Tryz.prog EE 147 [.tslice ((namedM a.l (a.jb i).dep).map Md.intC),.int .i64 n] (.bool (decide (n∈namedM a.l (a.jb i).dep))):=fun i =>
  hasInt_pc _ n (by have h1:=numsOf_len (fun p => named p (a.jb i).dep) a.l; have:=hA.len; have : (namedM a.l (a.jb i).dep).length≤a.l.length:=h1; omega)
 have hg : ∀ i : Nat,i < a.r.jobs.length→(a.r.jobs.map Job.cs).getD i []=(a.jb i).cs:=fun i h => by simp [AskM.jb,List.getD_eq_getElem?_getD,h]
 have hlen:=hA.jobs
 unfold AskM.namedBy
 unfold AskM.v AskM.cs at *
 simp only [ic104,go_sem]
 generalize a.dropped=dr at *
 generalize a.jb=jb at *
 generalize namedM a.l=nm at *
 refine loop_up noT (fun i fr s => fr=[(0,.tptr [a.p.v,(idxM a.l).v,.int .u8 a.r.arch,.bool a.r.vendor,jobsV a.r.jobs,editsV a.r.edits,.int .i64 a.r.budget,.tslice (a.l.map Package.cs)]),(1,.int .u8 k),(2,.int .i64 n),(13,.tslice (a.r.jobs.map Job.cs)),(14,.int .i64 a.r.jobs.length),(15,.int .i64 (i : Int))]∧((List.range i).any fun i => decide ((jb i).kind=k) && !dr i && decide (n∈nm (jb i).dep))=false) a.r.jobs.length ⟨rfl,rfl⟩ ?_
 rintro i fr t hi ⟨rfl,hf⟩
 by_cases hlt : i < a.r.jobs.length
 ·have c1 : (i : Int) < a.r.jobs.length:=by omega
  have c2 : (0 : Int)≤i:=by omega
  have w1:=wrapS (i:=i) (by omega)
  have hgi:=hg i hlt
  have hDi:=hD i hlt
  have hNi:=hN i hlt
  have hHi:=hH i
  have hex : ∀ b,(decide ((jb i).kind=k) && !dr i && decide (n∈nm (jb i).dep))=b→(b=true→((List.range a.r.jobs.length).any fun i => decide ((jb i).kind=k) && !dr i && decide (n∈nm (jb i).dep))=true)∧(b=false→((List.range i ++ [i]).any fun i => decide ((jb i).kind=k) && !dr i && decide (n∈nm (jb i).dep))=false):=by
   intro b hb
   refine ⟨fun h => List.any_eq_true.2 ⟨i,List.mem_range.2 hlt,by rw [hb]; exact h⟩,fun h => ?_⟩
   rw [List.any_append,hf]
   simp only [List.any_cons,List.any_nil,Bool.or_false,Bool.false_or,hb,h]
  clear hD hN hH hg
  have j0 : (jb i).cs.head? = some (.int .u8 (jb i).kind):=rfl
  have j1:=dep_job5 (jb i)
  have j2 : ((jb i).cs.drop 1).length=5:=rfl
  generalize jb i=j at *
  simp only [go_sem,c1,c2,hgi,job_len,job_take,job_leaf,j0]
  by_cases e1 : j.kind=k
  ·simp only [go_sem,e1]
   first | refine call_pc fok36 (hDi) ?_ | refine callP_of (hDi) ?_
   cases e2 : dr (i : Int) with
   | true =>
    simp only [go_sem,w1]
    exact ⟨hlt,(hex _ rfl).2 (by simp [e2])⟩
   | false =>
    simp only [go_sem,j1,j2]
    first | refine call_pc fok29 (hNi) ?_ | refine callP_of (hNi) ?_
    simp only [go_sem]
    first | refine call_pc fok147 (hHi) ?_ | refine callP_of (hHi) ?_
    by_cases e3 : n∈nm j.dep
    ·simp only [go_sem,e3]
     exact frz_b ((hex _ rfl).1 (by simp [e1,e2,e3])).symm
    ·simp only [go_sem,e3,w1]
     exact ⟨hlt,(hex _ rfl).2 (by simp [e3])⟩
  ·simp only [go_sem,e1,w1]
   exact ⟨hlt,(hex _ rfl).2 (by simp [e1])⟩
 ·have hi' : i=a.r.jobs.length:=by omega
  subst hi'
  have c1 : ¬ (a.r.jobs.length : Int) < (a.r.jobs.length : Int):=by omega
  simp only [go_sem,c1]
  exact frz_b hf.symm
theorem askGoes_pc (a : AskM) (n : Int) (hA : AOK a) : PC Tryz.prog EE 41 [a.v,.int .i64 n] (.bool (a.goes n)):=by
 refine PC_e hE fok41 (Nat.le_of_ble_eq_true rfl) (mems2 (bnd_ask a) (.int _ _)) ?_
 have h:=askInst_pc a n
 have h2:=askNamed_pc a 2 n hA
 have h3:=askEdited_pc a 2 n hA
 unfold AskM.goes
 simp only [ic41,go_sem]
 first | refine call_pc fok103 (h) ?_ | refine callP_of (h) ?_
 cases a.inst n with
 | false => simp only [go_sem]; exact frz_b rfl
 | true =>
  simp only [go_sem]
  first | refine call_pc fok104 (h2) ?_ | refine callP_of (h2) ?_
  cases a.namedBy 2 n with
  | true => simp only [go_sem]; exact frz_b rfl
  | false =>
   simp only [go_sem]
   first | refine call_pc fok100 (h3) ?_ | refine callP_of (h3) ?_
   simp only [go_sem]
   exact frz_b rfl
end Go.Id.Tryz
/- Numbers struck from a row; who may follow; who obsoletes,as a row of one's own. Conditions: sizes that fit. -/
namespace Go.Id.Tryz
open Go Go.Id Go.Proofs Go.Shelf Go.Id.Md
set_option maxRecDepth 100000
theorem findI_shift {α : Type} (q : α→Bool) : ∀ (l : List α) (i : Int),findI q l i=-1∧(∀ x∈l,q x=false) ∨ ∃ k,∃ h : k < l.length,findI q l i=i+k∧q l[k]=true∧∀ x∈l.take k,q x=false:=by
 intro l
 induction l with
 | nil => intro i; exact .inl ⟨rfl,fun x h => by cases h⟩
 | cons a l ih =>
  intro i
  simp only [findI]
  cases hq : q a with
  | true => exact .inr ⟨0,by simp,by simp,by simpa using hq,fun x h => by cases h⟩
  | false =>
   simp only [Bool.false_eq_true,if_false]
   rcases ih (i+1) with ⟨h1,h2⟩ | ⟨k,h,h1,h2,h3⟩
   ·exact .inl ⟨h1,fun x hx => by
     rcases List.mem_cons.1 hx with rfl | hx
     ·exact hq
     ·exact h2 x hx⟩
   ·refine .inr ⟨k+1,by simp only [List.length_cons]; omega,by rw [h1]; omega,by simpa using h2,fun x hx => ?_⟩
    rw [List.take_succ_cons] at hx
    rcases List.mem_cons.1 hx with rfl | hx
    ·exact hq
    ·exact h3 x hx
theorem filter_none {q : Int→Bool} {l : List Int} (h : ∀ x∈l,q x=false) : (l.filter fun x => !q x)=l:=List.filter_eq_self.2 fun x hx => by rw [h x hx]; rfl
theorem row_frzN {σ : Store} {id : Nat} {cs : List IV} {zs : List Int} (ho : σ.obj id=some (.row cs)) (hct : cs.take zs.length=zs.map iv64) (hcl : zs.length≤cs.length) : FrzN σ 0 (.slice id 0 zs.length 1) (.tslice (zs.map Md.intC)):=by
 refine .slice id 0 zs.length 1 cs (zs.map Md.intC) (Nat.not_lt_zero _) (.inr ho) (by rw [List.length_map]) (by omega) (fun i hi => ?_) fun i hi j hj => ?_
 ·simp [List.getD_eq_getElem?_getD,hi,Md.intC]
 ·have hj0 : j=0:=by omega
  subst hj0
  have e2 : ((zs.map Md.intC).getD i []).getD 0 .undef=iv64 zs[i]:=by simp [List.getD_eq_getElem?_getD,hi,Md.intC]
  rw [e2,Nat.zero_add,Nat.mul_one,Nat.add_zero,row_get hct hi]
  exact .keep _ (.int _ _)
theorem delFunc_c {σ : Store} {id g : Nat} {cap cs0 : List IV} {zs : List Int} (q : Int→Bool) (hz : zs.length < 2 ^ 40) (ho : σ.obj id=some (.row cs0)) (hct : cs0.take zs.length=zs.map iv64) (hcl : zs.length≤cs0.length)
  (hok : okF Tryz.prog g=true) (hcap : ∀ c∈cap,Bnd 0 c) (hq : ∀ z∈zs,PC Tryz.prog EE g (.int .i64 z :: cap) (.bool (q z))) :
  C Tryz.prog EE 101 [.slice id 0 zs.length 1,.func (.func g) [] cap] σ (fun v s => σ.next≤s.next∧(∀ i,i≠id→s.obj i=σ.obj i) ∧
   ∃ cs,v=.slice id 0 (zs.filter fun x => !q x).length 1∧s.obj id=some (.row cs)∧cs.take (zs.filter fun x => !q x).length=(zs.filter fun x => !q x).map iv64∧(zs.filter fun x => !q x).length≤cs.length):=by
 refine C_f fok101 (Nat.le_of_ble_eq_true rfl) ?_
 simp only [ic101,go_sem]
 have hI:=C_still (σ:=σ) (args:=[.slice id 0 zs.length 1,.func (.func g) [] cap]) (args':=[.tslice (zs.map Md.intC),.func (.func g) [] cap]) hE rfl (fun i hi => by
  match i,hi with
  | 0,_ => exact row_frzN ho hct hcl
  | 1,_ => exact .keep _ (.func _ _ _ (fun c hc => by cases hc) hcap)) (by simp [IV.plain]) (idxInt_pc zs g [] cap q (by omega) hok hq)
 refine call_c fok163 hI ?_
 rintro v s ⟨rfl,rfl⟩
 refine ⟨Nat.le_refl _,?_⟩
 rcases findI_shift q zs 0 with ⟨h1,h2⟩ | ⟨i0,hi0,h1,h2,h3⟩
 ·simp only [go_sem,h1,filter_none h2]
  exact ⟨Nat.le_refl _,fun _ _ => trivial,cs0,ho,hct,hcl⟩
 have h1' : findI q zs 0=(i0 : Int):=by rw [h1]; omega
 have d1 : ¬ (i0 : Int)=-1:=by omega
 have w0:=wrapS (i:=i0) (by omega)
 simp only [go_sem,h1',d1,w0]
 refine loop_up noT (fun j fr t => ∃ (k : Nat) (cs : List IV),fr=[(0,.slice id 0 zs.length 1),(1,.func (.func g) [] cap),(5,.int .i64 (k : Int)),(6,.int .i64 ((i0+1+j : Nat) : Int))] ∧
  (s.next≤t.next∧∀ q,q≠id→t.obj q=s.obj q)∧t.obj id=some (.row cs)∧cs.length=cs0.length∧k≤i0+j∧i0+1+j≤zs.length∧k=((zs.take (i0+1+j)).filter fun x => !q x).length∧cs.take k=((zs.take (i0+1+j)).filter fun x => !q x).map iv64 ∧
  ∀ (x : Nat) (h : x < zs.length),i0+j < x→(cs.drop x).head? = some (.int .i64 zs[x])) (zs.length - (i0+1)) ?_ ?_
 ·have e : ((zs.take (i0+1)).filter fun x => !q x)=zs.take i0:=by
   rw [List.take_add_one,List.getElem?_eq_getElem hi0,List.filter_append,filter_none h3]
   simp [h2]
  refine ⟨i0,cs0,rfl,⟨Nat.le_refl _,fun _ _ => rfl⟩,ho,rfl,by omega,by omega,?_,?_,fun x h _ => ?_⟩
  ·rw [Nat.add_zero,e,List.length_take]; omega
  ·rw [Nat.add_zero,e,List.map_take,← hct,List.take_take]
   congr 1; omega
  ·have:=row_get hct h
   rw [List.head?_drop]
   rw [List.getD_eq_getElem?_getD,List.getElem?_eq_getElem (by omega)] at this
   rw [List.getElem?_eq_getElem (by omega)]
   exact congrArg some this
 rintro j fr t hj ⟨k,cs,rfl,⟨un,uo⟩,hoc,hcl2,hk1,hk2,hk3,hk4,hcs⟩
 by_cases hlt : j < zs.length - (i0+1)
 ·have e1 : ((i0+1+j : Nat) : Int) < zs.length:=by omega
  have e2 : (0 : Int)≤((i0+1+j : Nat) : Int):=by omega
  have hx : i0+1+j < zs.length:=by omega
  have g1:=hcs (i0+1+j) hx (by omega)
  have w1:=wrapS (i:=i0+1+j) (by omega)
  have w2:=wrapS (i:=k) (by omega)
  have hqz:=hq _ (List.getElem_mem hx)
  have e3 : (0 : Int)≤(k : Int):=by omega
  have e4 : (k : Int) < zs.length:=by omega
  have e5 : k+1≤cs.length:=by omega
  have htk : (zs.take (i0+1+j+1)).filter (fun x => !q x)=(zs.take (i0+1+j)).filter (fun x => !q x) ++ if q zs[i0+1+j] then [] else [zs[i0+1+j]]:=by
   rw [List.take_add_one,List.getElem?_eq_getElem hx,List.filter_append]
   congr 1
   simp only [Option.toList,List.filter_cons,List.filter_nil]
   cases q zs[i0+1+j] <;> rfl
  simp only [go_sem,e1,e2,hoc,g1,Int.toNat_natCast,Nat.zero_add,Nat.mul_one]
  refine callT_of hok (PC_C hqz) ?_
  rintro v u ⟨rfl,rfl⟩
  refine ⟨Nat.le_refl _,?_⟩
  cases hb : q zs[i0+1+j] with
  | true =>
   rw [hb,if_pos rfl,List.append_nil] at htk
   simp only [go_sem,w1]
   exact ⟨hlt,k,cs,rfl,⟨un,uo⟩,hoc,hcl2,by omega,by omega,by rw [show i0+1+(j+1)=i0+1+j+1 by omega,htk]; exact hk3,by rw [show i0+1+(j+1)=i0+1+j+1 by omega,htk]; exact hk4,fun x h hx => hcs x h (by omega)⟩
  | false =>
   rw [hb,if_neg (by simp)] at htk
   simp only [go_sem,w1,w2,e3,e4,e5,hoc,Int.toNat_natCast,Nat.zero_add,Nat.mul_one]
   refine ⟨hlt,k+1,putL cs k [.int .i64 zs[i0+1+j]],rfl,⟨un,fun q hq => ?_⟩,?_,?_,by omega,by omega,?_,?_,fun x h hx => ?_⟩
   ·simp only [if_neg hq]; exact uo q hq
   ·rfl
   ·rw [putL_length (by rw [List.length_singleton]; omega)]; exact hcl2
   ·rw [show i0+1+(j+1)=i0+1+j+1 by omega,htk,List.length_append,← hk3]; rfl
   ·rw [show i0+1+(j+1)=i0+1+j+1 by omega,htk,putL_take1 (by omega),hk4,List.map_append]; rfl
   ·rw [putL_drop1 (by omega) (by omega)]
    exact hcs x h (by omega)
 ·have hj' : i0+1+j=zs.length:=by omega
  have e1 : ¬ ((i0+1+j : Nat) : Int) < zs.length:=by omega
  rw [hj',List.take_length] at hk3 hk4
  have hkn : k < zs.length:=by omega
  simp only [go_sem,e1,slc_lo (show k≤zs.length by omega),slc_hi (show k≤zs.length by omega),hoc,w_clr,clr_row hoc hkn (by omega)]
  have hrl : (rep [IV.int .i64 0] (zs.length - k)).length=zs.length - k:=by rw [rep_length]; simp
  refine ⟨un,fun q hq => ?_,putL cs k (rep [IV.int .i64 0] (zs.length - k)),by rw [hk3],by simp only [put_obj,if_true],?_,?_⟩
  ·simp only [put_obj,if_neg hq]; exact uo q hq
  ·rw [← hk3,putL_take (by omega)]; exact hk4
  ·rw [putL_length (by rw [hrl]; omega),← hk3]; omega
theorem follows1_pc (a : AskM) (down other : Bool) (old q : Package) (h1 : Pkg.small old) (h2 : Pkg.small q) : PC Tryz.prog EE 105 [.agg q.cs,.tptr old.cs,.tptr [.bool down],.tptr [.bool other],.tptr [a.v]] (.bool (AskM.follP a.r.vendor down other old q)):=by
 refine PC_e hE fok105 (Nat.le_of_ble_eq_true rfl) (mems5 (bnd_pkgA _) (.tptr _ (bnd_pkg _)) (.tptr _ (mems1 (.bool _))) (.tptr _ (mems1 (.bool _))) (.tptr _ (mems1 (bnd_ask a)))) ?_
 have hf:=follows_pc q.arch old.arch
 have hev:=evrCompare_pc q.evr old.evr h2.1 h1.1
 have p0 : q.cs.head? = some (.str q.name):=rfl
 have q0 : old.cs.head? = some (.str old.name):=rfl
 have p4 : (q.cs.drop 4).head? = some (.int .u8 q.arch):=rfl
 have q4 : (old.cs.drop 4).head? = some (.int .u8 old.arch):=rfl
 have p5 : (q.cs.drop 5).head? = some (.str q.vendor):=rfl
 have q5 : (old.cs.drop 5).head? = some (.str old.vendor):=rfl
 have p1 : (q.cs.drop 1).take 3=q.evr.cs:=rfl
 have q1 : (old.cs.drop 1).take 3=old.evr.cs:=rfl
 unfold AskM.follP
 unfold AskM.v AskM.cs
 by_cases e1 : q.name=old.name
 case neg =>
  simp only [ic105,go_sem,pkg_len,pkg_take,pkg_leaf,p0,q0,e1]
  exact frz_b (by simp)
 simp only [ic105,go_sem,pkg_len,pkg_take,pkg_leaf,p0,q0,e1]
 cases down
 case' true => simp only [go_sem]
 case' false =>
  simp only [go_sem,pkg_len1,p1,q1]
  first | refine call_pc fok106 (hev) ?_ | refine callP_of (hev) ?_
  by_cases e2 : 0≤evrCmp q.evr old.evr
  case neg =>
   simp only [go_sem,e2]
   exact frz_b (by simp)
  simp only [go_sem,e2]
 all_goals
  cases other
  case' true => simp only [go_sem]
  case' false =>
   simp only [go_sem,p4,q4]
   first | refine call_pc fok107 (hf) ?_ | refine callP_of (hf) ?_
   cases followsM q.arch old.arch
   case false =>
    simp only [go_sem]
    exact frz_b (by simp)
   simp only [go_sem]
  all_goals
   cases a.r.vendor
   case true =>
    simp only [go_sem]
    exact frz_b (by simp)
   by_cases e3 : q.vendor=old.vendor
   ·simp only [go_sem,p5,q5,e3]
    exact frz_b (by simp)
   ·simp only [go_sem,p5,q5,e3]
    exact frz_b (by simp)
theorem idxObsoleters_c (l : List Package) (n : Nat) (hl : l.length < 2 ^ 20) (hn : n < l.length) (hs : ∀ p∈l,Pkg.small p) (σ : Store) : C Tryz.prog EE 26 [(idxM l).v,.int .i64 n] σ (IOutX σ (obsoletersM l n)):=by
 have hi:=idxM_is l
 have hlook:=hi.over (l.getD n default).name
 have hsift : ∀ (σ : Store) v,(v=.tslice ((nmLook (idxM l).over (l.getD n default).name).map Md.intC) ∨ v=.nilslice∧nmLook (idxM l).over (l.getD n default).name=[])→C Tryz.prog EE 82 [(idxM l).v,v,.func (.func 86) [] [.tptr [.int .i64 n],.tptr [(idxM l).v]]] σ (IOutX σ (obsoletersM l n)):=by
  intro σ v hv
  have h:=sift_c (idxM l) (nmLook (idxM l).over (l.getD n default).name) (by rw [hlook]; have:=numsOf_len (fun p => decide (∃ d∈p.obsoletes,d.name=(l.getD n default).name)) l; omega) 86 [.tptr [.int .i64 n],.tptr [(idxM l).v]] (fun k => decide (k.toNat≠n) && obsoletes (l.getD k.toNat default) (l.getD n default)) fok86.1 (fun k hk => by
   rw [hlook] at hk
   obtain ⟨m,rfl,hm⟩:=numsOf_at hk
   refine ⟨m,rfl,by rw [hi.all]; exact hm,?_⟩
   have e : (idxM l).all[m]'(by rw [hi.all]; exact hm)=l[m]:=by simp only [hi.all]
   rw [e,Int.toNat_natCast,getD_at l m hm,getD_at l n hn]
   exact obsClI_pc l m n hm hn hs) σ
  have e : obsoletersM l n=(nmLook (idxM l).over (l.getD n default).name).filter fun k => decide (k.toNat≠n) && obsoletes (l.getD k.toNat default) (l.getD n default):=rfl
  rw [← e] at h
  rcases hv with rfl | ⟨rfl,h0⟩
  ·exact h
  ·rw [h0] at h
   refine C_weak (args':=[(idxM l).v,.tslice [],.func (.func 86) [] [.tptr [.int .i64 n],.tptr [(idxM l).v]]]) rfl (fun i hi => ?_) h
   have hw : ∀ {v : IV} {σ : Store},Bnd 0 v→Frz σ (fun _ => true=true) v v:=fun h => .keep _ (h.weak fun _ _ => rfl)
   have hb:=bnd_idx (idxM l)
   match i,hi with
   | 0,_ => exact hw hb
   | 1,_ => exact .nils
   | 2,_ => exact hw (.func _ _ _ (fun c hc => by cases hc) (mems2 (.tptr _ (mems1 (.int _ _))) (.tptr _ (mems1 hb))))
 have hx : (idxM l).v=.tptr [.tslice (l.map Package.cs),.tmap (nmV (idxM l).prov),.tmap (nmV (idxM l).names),.tmap (nmV (idxM l).over)]:=by
  show IV.tptr [.tslice ((idxM l).all.map Package.cs),_,_,_]=_
  rw [hi.all]
 have his:=isOf_pc (idxM l) n
 have i1 : (decide ((0 : Int)≤(n : Int)) && decide ((n : Int) < (idxM l).all.length))=true:=by
  rw [hi.all]; simp only [Bool.and_eq_true,decide_eq_true_eq]; omega
 rw [i1] at his
 have hk0 : ∀ σ : Store,∃ v,lkpI σ 2 .nilslice false (.tmap (nmV (idxM l).over)) (.str (l.getD n default).name)=some v∧∀ τ,C Tryz.prog EE 82 [(idxM l).v,v,.func (.func 86) [] [.tptr [.int .i64 n],.tptr [(idxM l).v]]] τ (IOutX τ (obsoletersM l n)):=fun σ =>
  let ⟨v,h1,h2⟩:=lkp_nm (idxM l).over σ (l.getD n default).name
  ⟨v,h1,fun τ => hsift τ v h2⟩
 have hg : (l.map Package.cs).getD n []=l[n].cs:=by simp [List.getD_eq_getElem?_getD,hn]
 have hnm : (l.getD n default).name=l[n].name:=by rw [getD_at l n hn]
 have p0 : l[n].cs.head? = some (.str l[n].name):=rfl
 have hle : (l.map Package.cs).length=l.length:=List.length_map ..
 clear hsift hlook i1
 rw [hnm] at hk0
 rw [hx] at hk0 his ⊢
 generalize obsoletersM l n=res at *
 generalize l.map Package.cs=a0 at *
 generalize l[n]=q at *
 have c1 : (0 : Int)≤n:=by omega
 have c2 : (n : Int) < a0.length:=by omega
 refine C_f fok26 (Nat.le_of_ble_eq_true rfl) ?_
 simp only [ic26,go_sem]
 first | refine call_pc fok81 (his) ?_ | refine callP_of (his) ?_
 simp only [go_sem,c1,c2,hg,p0,pkg_lenA,pkg_takeA,pkg_leafA]
 obtain ⟨v,hk,hsv⟩:=hk0 ⟨σ.next+17,σ.obj⟩
 simp only [go_sem,hk]
 refine call_c fok82 (hsv _) ?_
 rintro v' s ⟨hkp,hr⟩
 refine ⟨hkp.next,?_⟩
 simp only [go_sem]
 exact ⟨hkp.low,hr.low (Nat.le_add_right _ _)⟩
end Go.Id.Tryz
/- Successors,newcomers,whom a job means. Conditions: sizes that fit. -/
namespace Go.Id.Tryz
open Go Go.Id Go.Proofs Go.Shelf Go.Id.Md
set_option maxRecDepth 100000
theorem ptr_frzN {σ : Store} {id : Nat} {cs : List IV} (ho : σ.obj id=some (.cells cs)) (hb : ∀ c∈cs,Bnd 0 c) : FrzN σ 0 (.ptr id 0) (.tptr cs):=by
 refine .ptr id 0 cs cs (Nat.not_lt_zero _) (.inl ho) (by omega) (fun j hj => ?_)
 rw [Nat.zero_add]
 exact .keep _ (hb _ (getD_mem _ hj))
theorem sortUp (zs : List Int) : (srtI zs).Pairwise (·≤·):=by
 refine List.Pairwise.imp (fun h => of_decide_eq_true h) (List.pairwise_mergeSort (le:=fun x y : Int => decide (x≤y)) (fun a b c h1 h2 => ?_) (fun a b => ?_) _)
 ·exact decide_eq_true (Int.le_trans (of_decide_eq_true h1) (of_decide_eq_true h2))
 ·rcases Int.le_total a b with h | h
  ·simp [h]
  ·simp [h]
theorem askSuccs_c (a : AskM) (i : Int) (hA : AOK a) (σ : Store) : C Tryz.prog EE 40 [a.v,.int .i64 i] σ (IOut σ (a.succs i)):=by
 have hin:=askInst_pc a i
 refine C_f fok40 (Nat.le_of_ble_eq_true rfl) ?_
 unfold AskM.succs
 cases hi : a.inst i with
 | false =>
  rw [hi] at hin
  unfold AskM.v AskM.cs at *
  simp only [ic40,go_sem]
  first | refine call_pc fok103 (hin) ?_ | refine callP_of (hin) ?_
  simp only [go_sem]
  exact ⟨Kept.refl σ,.inl ⟨rfl,rfl⟩⟩
 | true =>
 rw [hi] at hin
 have his : a.is i=true:=by unfold AskM.inst at hi; exact (Bool.and_eq_true _ _ ▸ hi).1
 obtain ⟨i1,i2,i3,i4⟩:=at_pk a his
 obtain ⟨m,rfl⟩ : ∃ m : Nat,i=m:=⟨i.toNat,by omega⟩
 have hml : m < a.l.length:=by rw [List.length_map] at i2; omega
 have e3:=askEdited_pc a 3 m hA
 have e4:=askEdited_pc a 4 m hA
 have n4:=askNamed_pc a 4 m hA
 have hob:=idxObsoleters_c a.l m (by have:=hA.len; omega) hml hA.small
 have hlen:=hA.len
 have hall : ∀ n (h : n < a.l.length),(a.l.map Package.cs).getD n []=(a.pk n).cs∧a.pk (n : Int)∈a.l:=fun n h => by
  have hn : a.is (n : Int)=true:=by rw [AskM.is_nat]; exact decide_eq_true h
  obtain ⟨_,_,h3,h4⟩:=at_pk a hn
  exact ⟨by simpa using h3,h4⟩
 have hfl : ∀ down other n (h : n < a.l.length),PC Tryz.prog EE 105 [.agg (a.pk n).cs,.tptr (a.pk m).cs,.tptr [.bool down],.tptr [.bool other],.tptr [a.v]] (.bool (AskM.follP a.r.vendor down other (a.pk m) (a.pk n))) :=
  fun down other n h => follows1_pc a down other _ _ (hA.small _ i4) (hA.small _ (hall n h).2)
 have hba:=bnd_ask a
 unfold AskM.foll
 unfold AskM.v AskM.cs at *
 generalize (idxM a.l).v=X at *
 generalize a.p.v=Pv at *
 have c0 : (0 : Int)≤m:=by omega
 have c2 : (m : Int) < a.l.length:=by omega
 have hgm:=(hall m hml).1
 generalize hdn : (a.edited 3 m || a.namedBy 4 m)=down
 generalize hot : a.edited 4 m=other at *
 simp only [ic40,go_sem]
 first | refine call_pc fok103 (hin) ?_ | refine callP_of (hin) ?_
 simp only [go_sem,c0,c2,hgm,pkg_len,pkg_take,pkg_leaf]
 cases h3 : a.edited 3 m
 case' true =>
  rw [h3] at hdn e3
  have hd : true=down:=by simpa using hdn
  first | refine call_pc fok100 (e3) ?_ | refine callP_of (e3) ?_
  simp only [go_sem]
 case' false =>
  rw [h3] at hdn e3
  have hd : a.namedBy 4 m=down:=by simpa using hdn
  first | refine call_pc fok100 (e3) ?_ | refine callP_of (e3) ?_
  simp only [go_sem]
  first | refine call_pc fok104 (n4) ?_ | refine callP_of (n4) ?_
  simp only [go_sem]
 all_goals
  first | refine call_pc fok100 (e4) ?_ | refine callP_of (e4) ?_
  simp only [go_sem]
  refine call_c fok26 (hob _) ?_
  rintro v s ⟨hk0,hr0⟩
  refine ⟨hk0.next,?_⟩
  simp only [go_sem]
  have g1 : ¬ σ.next=σ.next+1+1:=by omega
  have g2 : ¬ σ.next=σ.next+1:=by omega
  have g3 : ¬ σ.next+1=σ.next+1+1:=by omega
  have b5 : s.obj σ.next=some (.cells (a.pk m).cs):=(hk0.obj σ.next (by show σ.next < σ.next+_; omega)).trans (by simp only [put_obj,g1,g2,if_true,if_false])
  have b6 : s.obj (σ.next+1)=some (.cells [.bool down]):=(hk0.obj (σ.next+1) (by show σ.next+1 < σ.next+_; omega)).trans (by simp only [put_obj,g3,if_true,if_false,hd])
  have b7 : s.obj (σ.next+1+1)=some (.cells [.bool other]):=(hk0.obj (σ.next+1+1) (by show σ.next+1+1 < σ.next+_; omega)).trans (by simp only [put_obj,if_true])
  have blo : ∀ i,i < σ.next→s.obj i=σ.obj i:=fun i hi => (hk0.obj i (by show i < σ.next+_; omega)).trans (by
   have u1 : ¬ i=σ.next:=by omega
   have u2 : ¬ i=σ.next+1:=by omega
   have u3 : ¬ i=σ.next+1+1:=by omega
   simp only [put_obj,u1,u2,u3,if_false])
  have bnx : σ.next+1+1+1≤s.next:=Nat.le_trans (by show σ.next+1+1+1≤σ.next+_; omega) hk0.next
  have hr1 : IRowX s (σ.next+1+1+1) v (obsoletersM a.l m):=hr0.low (by show σ.next+1+1+1≤σ.next+_; omega)
  clear hk0 hr0 hob e3 e4 n4 hin
  generalize hq : (fun n : Nat => decide ((n : Int)=m) || AskM.follP a.r.vendor down other (a.pk m) (a.pk n))=qq
  have hqn : ∀ n,qq n=(decide ((n : Int)=m) || AskM.follP a.r.vendor down other (a.pk m) (a.pk n)):=fun n => by rw [← hq]
  have hobl:=obsoletersM_len a.l m
  have obm:=fun k => obsoletersM_mem (l:=a.l) (n:=m) (k:=k)
  generalize obsoletersM a.l m=ob at *
  refine loop_up noT (fun n fr t => ∃ gv,fr=[(1,.int .i64 (m : Int)),(8,.func (.func 105) [] [.ptr σ.next 0,.ptr (σ.next+1) 0,.ptr (σ.next+1+1) 0,.tptr [.tptr [Pv,X,.int .u8 a.r.arch,.bool a.r.vendor,jobsV a.r.jobs,editsV a.r.edits,.int .i64 a.r.budget,.tslice (a.l.map Package.cs)]]]),(9,gv),(44,.tslice (a.l.map Package.cs)),(45,.int .i64 a.l.length),(46,.int .i64 (n : Int))] ∧
   Kept ⟨σ.next+1+1+1,s.obj⟩ t∧IRowX t (σ.next+1+1+1) gv (ob ++ numsN qq n)) a.l.length ⟨v,rfl,⟨bnx,fun _ _ => rfl⟩,by rw [show numsN qq 0=[] from rfl,List.append_nil]; exact hr1⟩ ?_
  rintro n fr t hn ⟨gv,rfl,hk,hg⟩
  by_cases hlt : n < a.l.length
  ·have d1 : (n : Int) < a.l.length:=by omega
   have d2 : (0 : Int)≤n:=by omega
   have w1:=wrapS (i:=n) (by omega)
   have hgn:=(hall n hlt).1
   have hpn:=hfl down other n hlt
   have hsn:=numsN_snoc qq n
   have hln:=numsN_len qq n
   have hzl : (ob ++ numsN qq n).length < 2147483648:=by rw [List.length_append]; omega
   have n5 : ¬ σ.next=t.next:=by have:=hk.next; show ¬ _; intro e; have : σ.next+1+1+1≤t.next:=this; omega
   have n6 : ¬ σ.next+1=t.next:=by have:=hk.next; intro e; have : σ.next+1+1+1≤t.next:=this; omega
   have n7 : ¬ σ.next+1+1=t.next:=by have:=hk.next; intro e; have : σ.next+1+1+1≤t.next:=this; omega
   have t5:=(hk.obj σ.next (by show σ.next < σ.next+1+1+1; omega)).trans b5
   have t6:=(hk.obj (σ.next+1) (by show σ.next+1 < σ.next+1+1+1; omega)).trans b6
   have t7:=(hk.obj (σ.next+1+1) (by show σ.next+1+1 < σ.next+1+1+1; omega)).trans b7
   by_cases e : (n : Int)=m
   case' pos =>
    have hqt : qq n=true:=by rw [hqn,e]; simp
    have e' : n=m:=by omega
    subst e'
    simp only [go_sem,d1,d2,hgn,pkg_len,pkg_take,pkg_leaf,eq_self]
   case' neg =>
    simp only [go_sem,d1,d2,hgn,pkg_len,pkg_take,pkg_leaf,e]
    refine callT_of fok105.1 (C_still (args':=[.agg (a.pk n).cs,.tptr (a.pk m).cs,.tptr [.bool down],.tptr [.bool other],.tptr [.tptr [Pv,X,.int .u8 a.r.arch,.bool a.r.vendor,jobsV a.r.jobs,editsV a.r.edits,.int .i64 a.r.budget,.tslice (a.l.map Package.cs)]]]) hE rfl (fun i hi => by
     match i,hi with
     | 0,_ => exact .keep _ (bnd_pkgA _)
     | 1,_ => exact ptr_frzN (by simp only [put_obj,n5,if_false]; exact t5) (bnd_pkg _)
     | 2,_ => exact ptr_frzN (by simp only [put_obj,n6,if_false]; exact t6) (mems1 (.bool _))
     | 3,_ => exact ptr_frzN (by simp only [put_obj,n7,if_false]; exact t7) (mems1 (.bool _))
     | 4,_ => exact .keep _ (.tptr _ (mems1 hba))) (by simp [IV.plain]) hpn) ?_
    rintro v' u ⟨rfl,rfl⟩
    refine ⟨Nat.le_refl _,?_⟩
    cases hfb : AskM.follP a.r.vendor down other (a.pk m) (a.pk n)
    case' false =>
     have hqt : qq n=false:=by rw [hqn,hfb]; simp [e]
     rw [hqt] at hsn
     simp only [go_sem,w1]
     rw [if_neg (by simp),List.append_nil] at hsn
     exact ⟨hlt,gv,rfl,hk.trans (Kept.box t _ _),by rw [hsn]; exact hg.kept (Kept.box t _ _)⟩
    have hqt : qq n=true:=by rw [hqn,hfb]; simp
    simp only [go_sem]
   all_goals
    rw [hqt,if_pos rfl] at hsn
    rw [app_one (s:=⟨t.next+1+1,_⟩) (lo:=σ.next+1+1+1) (zs:=ob ++ numsN qq n) ((hg.kept (Kept.box t _ _)).up 1) (n : Int) hzl]
    simp only [go_sem,w1]
    have hz:=app_kept (hk.trans (Kept.box t (.cells [.str [],.int .i64 0,.str [],.str [],.int .u8 0,.str [],.nilslice,.nilslice,.nilslice,.nilslice,.nilslice,.nilslice,.nilslice,.nilslice,.nilslice]) (.cells (a.pk n).cs))) (hg.kept (Kept.box t _ _)) (n : Int) (a:=1) (nid:=t.next+1) (Nat.le_refl _) (Nat.lt_succ_self _) rfl
    rw [hsn,← List.append_assoc]
    exact ⟨hlt,_,rfl,hz.1,hz.2⟩
  ·have hn' : n=a.l.length:=by omega
   subst hn'
   have d1 : ¬ (a.l.length : Int) < (a.l.length : Int):=by omega
   simp only [go_sem,d1]
   have hln:=numsN_len qq a.l.length
   have hzl : (ob ++ numsN qq a.l.length).length < 2 ^ 20:=by rw [List.length_append]; omega
   have hmm : (m : Int)∈ob ++ numsN qq a.l.length:=List.mem_append_right _ (numsN_mem.2 ⟨m,rfl,hml,by rw [hqn]; simp⟩)
   have hfin : ∀ D : List Int,D.Pairwise (· < ·)→(∀ x,x∈D ↔ x∈ob ++ numsN qq a.l.length)→D=numsN (fun n => decide ((n : Int)=m) || AskM.follP a.r.vendor down other (a.pk m) (a.pk n) || (!decide ((n : Int)=m) && obsoletes (a.pk n) (a.pk m))) a.l.length:=fun D h1 h2 => up_unique h1 (numsN_up _ _) fun x => by
    rw [h2,List.mem_append,obm,numsN_mem,numsN_mem]
    constructor
    ·rintro (⟨u,rfl,h3,h4,h5⟩ | ⟨u,rfl,h3,h4⟩)
     ·refine ⟨u,rfl,h3,?_⟩
      have h6 : ¬ (u : Int)=m:=by omega
      simp only [AskM.pk,Int.toNat_natCast,h5,h6,decide_false,Bool.not_false,Bool.and_self,Bool.or_true]
     ·rw [hqn] at h4
      exact ⟨u,rfl,h3,by rw [h4,Bool.true_or]⟩
    ·rintro ⟨u,rfl,h3,h4⟩
     rw [Bool.or_eq_true] at h4
     rcases h4 with h4 | h4
     ·exact .inr ⟨u,rfl,h3,by rw [hqn]; exact h4⟩
     ·simp only [Bool.and_eq_true,Bool.not_eq_true',decide_eq_false_iff_not,AskM.pk,Int.toNat_natCast] at h4
      exact .inl ⟨u,rfl,h3,by omega,h4.2⟩
   generalize ob ++ numsN qq a.l.length=zs at *
   rcases hg with ⟨_,h0⟩ | ⟨id,hid1,hid2,rfl,ho⟩
   ·rw [h0] at hmm; cases hmm
   refine call_c fok84 (sortInts_c (zs:=zs) (by omega) ho) ?_
   rintro v s' ⟨rfl,rfl⟩
   refine ⟨by show t.next≤_; exact Nat.le_refl _,?_⟩
   simp only [go_sem]
   have hsl : (srtI zs).length=zs.length:=List.length_mergeSort _
   have hc:=compact_c (σ:=t.put id (.row ((srtI zs).map (IV.int .i64)))) (id:=id) (zs:=srtI zs) (by omega) (by simp only [put_obj,if_true]) (sortUp zs)
   rw [hsl] at hc
   refine call_c fok85 hc ?_
   rintro v s' ⟨⟨D,cs,q1,q2,rfl,q4,q5,q6⟩,hsn,hso⟩
   refine ⟨hsn,?_⟩
   have hD:=hfin D q1 fun x => (q2 x).trans List.mem_mergeSort
   simp only [go_sem]
   have hsn' : t.next≤s'.next:=hsn
   have hkn : σ.next+1+1+1≤t.next:=hk.next
   rw [← hD]
   refine ⟨⟨by omega,fun i hi => ?_⟩,.inr ⟨id,cs,by omega,by omega,rfl,q4,q5,q6⟩⟩
   have hne : i≠id:=by omega
   rw [hso i hne]
   show (if i=id then _ else t.obj i)=_
   rw [if_neg hne,hk.obj i (by show i < σ.next+1+1+1; omega)]
   exact blo i hi
theorem askSuccs_pc (a : AskM) (i : Int) (hA : AOK a) : PC Tryz.prog EE 40 [a.v,.int .i64 i] (.tslice ((a.succs i).map Md.intC)):=PC_out fun σ => askSuccs_c a i hA σ
end Go.Id.Tryz
/- Newcomers,whom a job means; what fulfils a job. Conditions: sizes that fit. -/
namespace Go.Id.Tryz
open Go Go.Id Go.Proofs Go.Shelf Go.Id.Md
set_option maxRecDepth 100000
theorem delNil_c {σ : Store} {g : Nat} {cap : List IV} (hok : okF Tryz.prog g=true) (hcap : ∀ c∈cap,Bnd 0 c) : C Tryz.prog EE 101 [.nilslice,.func (.func g) [] cap] σ (IOut σ []):=by
 refine C_f fok101 (Nat.le_of_ble_eq_true rfl) ?_
 simp only [ic101,go_sem]
 have hI : C Tryz.prog EE 163 [.nilslice,.func (.func g) [] cap] σ (oneQ (.int .i64 (-1)) σ):=by
  refine C_weak (args':=[.tslice (([] : List Int).map Md.intC),.func (.func g) [] cap]) rfl (fun i hi => ?_) (PC_C (idxInt_pc [] g [] cap (fun _ => true) (by simp) hok (fun z hz => by cases hz)))
  match i,hi with
  | 0,_ => exact .nils
  | 1,_ => exact .keep _ ((Nm.func _ _ _ (fun c hc => by cases hc) hcap : Bnd 0 (.func (.func g) [] cap)).weak fun _ _ => rfl)
 refine call_c fok163 hI ?_
 rintro v s ⟨rfl,rfl⟩
 refine ⟨Nat.le_refl _,?_⟩
 simp only [go_sem]
 exact ⟨Kept.refl _,.inl ⟨rfl,rfl⟩⟩
theorem del_c {σ : Store} {v : IV} {lo g : Nat} {cap : List IV} {zs : List Int} (q : Int→Bool) (hz : zs.length < 2 ^ 40) (hr : IRow σ lo v zs) (hok : okF Tryz.prog g=true) (hcap : ∀ c∈cap,Bnd 0 c) (hq : ∀ z∈zs,PC Tryz.prog EE g (.int .i64 z :: cap) (.bool (q z))) :
  C Tryz.prog EE 101 [v,.func (.func g) [] cap] σ (fun v s => (σ.next≤s.next∧∀ i,i < lo→i < σ.next→s.obj i=σ.obj i)∧IRow s (min lo σ.next) v (zs.filter fun x => !q x)):=by
 rcases hr with ⟨rfl,rfl⟩ | ⟨id,cs,h1,h2,rfl,h4,h5,h6⟩
 ·exact (delNil_c hok hcap).mono fun v s ⟨h1,h2⟩ => ⟨⟨h1.next,fun i _ hi => h1.obj i hi⟩,h2.low (Nat.min_le_right _ _)⟩
 ·refine (delFunc_c q hz h4 h5 h6 hok hcap hq).mono fun v s ⟨k1,k2,cs',k3,k4,k5,k6⟩ => ⟨⟨k1,fun i hi _ => k2 i (by omega)⟩,.inr ⟨id,cs',by omega,by omega,k3,k4,k5,k6⟩⟩
theorem meant1_pc (a : AskM) (n : Int) : PC Tryz.prog EE 102 [.int .i64 n,.tptr [a.v]] (.bool (!a.inst n)):=by
 refine PC_e hE fok102 (Nat.le_of_ble_eq_true rfl) (mems2 (.int _ _) (.tptr _ (mems1 (bnd_ask a)))) ?_
 have h1:=askInst_pc a n
 simp only [ic102,go_sem]
 first | refine call_pc fok103 (h1) ?_ | refine callP_of (h1) ?_
 simp only [go_sem]
 exact frz_b rfl
theorem idxNamed_c (l : List Package) (d : Dep) (hl : l.length < 2 ^ 20) (hs : ∀ p∈l,Pkg.small p) (hd : Dep.small d) (σ : Store) : C Tryz.prog EE 29 [(idxM l).v,.agg d.cs] σ (IOutX σ (namedM l d)):=by
 have hi:=idxM_is l
 have hlook:=hi.names d.name
 have hsift : ∀ (σ : Store) v,(v=.tslice ((nmLook (idxM l).names d.name).map Md.intC) ∨ v=.nilslice∧nmLook (idxM l).names d.name=[])→C Tryz.prog EE 82 [(idxM l).v,v,.func (.func 88) [] [.tptr d.cs]] σ (IOutX σ (namedM l d)):=by
  intro σ v hv
  have h:=sift_c (idxM l) (nmLook (idxM l).names d.name) (by rw [hlook]; have:=numsOf_len (fun p => decide (p.name=d.name)) l; omega) 88 [.tptr d.cs] (fun n => named (l.getD n.toNat default) d) fok88.1 (fun n hn => by
   rw [hlook] at hn
   obtain ⟨m,rfl,hm⟩:=numsOf_at hn
   refine ⟨m,rfl,by rw [hi.all]; exact hm,?_⟩
   have e : (idxM l).all[m]'(by rw [hi.all]; exact hm)=l[m]:=by simp only [hi.all]
   rw [e,Int.toNat_natCast,getD_at l m hm]
   exact namedClI_pc l[m] m d (hs _ (List.getElem_mem hm)) hd) σ
  rw [named_eq] at h
  rcases hv with rfl | ⟨rfl,h0⟩
  ·exact h
  ·rw [h0] at h
   refine C_weak (args':=[(idxM l).v,.tslice [],.func (.func 88) [] [.tptr d.cs]]) rfl (fun i hi => ?_) h
   have hw : ∀ {v : IV} {σ : Store},Bnd 0 v→Frz σ (fun _ => true=true) v v:=fun h => .keep _ (h.weak fun _ _ => rfl)
   match i,hi with
   | 0,_ => exact hw (bnd_idx (idxM l))
   | 1,_ => exact .nils
   | 2,_ => exact hw (.func _ _ _ (fun c hc => by cases hc) (one_mem (bnd_dep0 d)))
 have hx : (idxM l).v=.tptr [.tslice ((idxM l).all.map Package.cs),.tmap (nmV (idxM l).prov),.tmap (nmV (idxM l).names),.tmap (nmV (idxM l).over)]:=rfl
 have d0 : d.cs.head? = some (.str d.name):=rfl
 have hk0 : ∀ σ : Store,∃ v,lkpI σ 2 .nilslice false (.tmap (nmV (idxM l).names)) (.str d.name)=some v∧∀ τ,C Tryz.prog EE 82 [(idxM l).v,v,.func (.func 88) [] [.tptr d.cs]] τ (IOutX τ (namedM l d)):=fun σ =>
  let ⟨v,h1,h2⟩:=lkp_nm (idxM l).names σ d.name
  ⟨v,h1,fun τ => hsift τ v h2⟩
 clear hsift hlook
 rw [hx] at hk0 ⊢
 generalize (idxM l).all.map Package.cs=a0 at *
 refine C_f fok29 (Nat.le_of_ble_eq_true rfl) ?_
 simp only [ic29,go_sem,dep_len,dep_take,dep_leaf,d0]
 obtain ⟨v,hk,hsv⟩:=hk0 ⟨σ.next+11,σ.obj⟩
 simp only [go_sem,hk]
 refine call_c fok82 (hsv _) ?_
 rintro v' s ⟨hkp,hr⟩
 refine ⟨hkp.next,?_⟩
 simp only [go_sem]
 exact ⟨hkp.low,hr.low (Nat.le_add_right _ _)⟩
theorem at_jb (a : AskM) {n : Int} (h : a.job n=true) : 0≤n∧n < a.r.jobs.length∧(a.r.jobs.map Job.cs).getD n.toNat []=(a.jb n).cs∧a.jb n∈a.r.jobs:=by
 unfold AskM.job at h
 simp only [Bool.and_eq_true,decide_eq_true_eq] at h
 have c1 : n.toNat < a.r.jobs.length:=by omega
 have e : a.jb n=a.r.jobs[n.toNat]:=by simp [AskM.jb,List.getD_eq_getElem?_getD,c1]
 exact ⟨h.1,h.2,by rw [e]; simp [List.getD_eq_getElem?_getD,c1],by rw [e]; exact List.getElem_mem c1⟩
theorem askMeant_pc (a : AskM) (j : Int) (hA : AOK a) : PC Tryz.prog EE 38 [a.v,.int .i64 j] (.tslice ((a.meant j).map Md.intC)):=by
 refine PC_e hE fok38 (Nat.le_of_ble_eq_true rfl) (mems2 (bnd_ask a) (.int _ _)) ?_
 have h1:=askJob_pc a j
 have hba:=bnd_ask a
 have hcl:=meant1_pc a
 have hlen:=hA.len
 unfold AskM.meant
 cases hj : a.job j with
 | false =>
  rw [hj] at h1
  unfold AskM.v AskM.cs at *
  simp only [ic38,go_sem]
  first | refine call_pc fok99 (h1) ?_ | refine callP_of (h1) ?_
  simp only [go_sem]
  exact .nils
 | true =>
  rw [hj] at h1
  obtain ⟨j1,j2,j3,j4⟩:=at_jb a hj
  have hds:=hA.jdep _ j4
  have hP:=idxProviders_pc a.l (a.jb j).dep (by omega) hA.small hds
  have hN:=idxNamed_pc a.l (a.jb j).dep (by omega) hA.small hds
  have hNc:=idxNamed_c a.l (a.jb j).dep (by omega) hA.small hds
  have b1:=bnd_ints (providersM a.l (a.jb j).dep)
  have b2:=bnd_ints (namedM a.l (a.jb j).dep)
  have nl : (namedM a.l (a.jb j).dep).length≤a.l.length:=numsOf_len _ _
  have k0 : (a.jb j).cs.head? = some (.int .u8 (a.jb j).kind):=rfl
  have k1:=dep_job5 (a.jb j)
  have k2 : ((a.jb j).cs.drop 1).length=5:=rfl
  generalize a.jb j=x at *
  generalize namedM a.l x.dep=nm at *
  generalize providersM a.l x.dep=pv at *
  unfold AskM.v AskM.cs at *
  generalize (idxM a.l).v=X at *
  have c21 : ¬ (2 : Int)=1:=by decide
  by_cases e1 : x.kind=1
  ·rw [if_pos rfl,if_pos e1]
   simp only [ic38,go_sem]
   first | refine call_pc fok99 (h1) ?_ | refine callP_of (h1) ?_
   simp only [go_sem,j1,j2,j3,job_len,job_take,job_leaf,k0,k1,k2,e1]
   first | refine call_pc fok28 (hP) ?_ | refine callP_of (hP) ?_
   simp only [go_sem]
   exact .keep _ b1
  by_cases e2 : x.kind=2
  ·rw [if_pos rfl,if_neg e1,if_pos e2]
   simp only [ic38,go_sem]
   first | refine call_pc fok99 (h1) ?_ | refine callP_of (h1) ?_
   simp only [go_sem,j1,j2,j3,job_len,job_take,job_leaf,k0,k1,k2,e2,c21]
   first | refine call_pc fok29 (hN) ?_ | refine callP_of (hN) ?_
   simp only [go_sem,k0,e2]
   exact .keep _ b2
  ·rw [if_pos rfl,if_neg e1,if_neg e2]
   simp only [ic38,go_sem]
   first | refine call_pc fok99 (h1) ?_ | refine callP_of (h1) ?_
   simp only [go_sem,j1,j2,j3,job_len,job_take,job_leaf,k0,k1,k2,e1]
   refine call_c fok29 (hNc _) ?_
   rintro v s ⟨hk,hr⟩
   refine ⟨hk.next,?_⟩
   have o0 : s.obj 0=some (.cells x.cs):=(hk.obj 0 (Nat.succ_pos _)).trans (by simp only [put_obj,if_true])
   simp only [go_sem,o0,k0,e2]
   refine call_c fok101 (del_c (fun n => !a.inst n) (by omega) hr.w fok102.1 (mems1 (.tptr _ (mems1 hba))) fun z hz => hcl z) ?_
   rintro v s ⟨⟨h1,_⟩,hr⟩
   refine ⟨h1,?_⟩
   have ef : (nm.filter fun x => !(!a.inst x))=nm.filter fun n => a.inst n:=List.filter_congr fun x _ => Bool.not_not _
   rw [ef] at hr
   simp only [go_sem]
   exact hr.frz fun i _ => Nat.not_lt_zero i
theorem meant_len (a : AskM) (j : Int) : (a.meant j).length≤a.l.length:=by
 unfold AskM.meant
 split
 ·split
  ·exact numsOf_len _ _
  ·split
   ·exact numsOf_len _ _
   ·exact Nat.le_trans (List.length_filter_le _ _) (numsOf_len _ _)
 ·exact Nat.zero_le _
end Go.Id.Tryz
