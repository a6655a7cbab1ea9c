/- What is asked for,made. Conditions: sizes that fit. -/
import Derived.Test.YtiallonafbejaaaGreatDoorTUSB
import Derived.Test.YtiallonafbejaaaGreatDoorTUQH
set_option linter.all false
namespace Go.Id.Tryz
open Go Go.Id Go.Proofs Go.Shelf Go.Id.Md
set_option maxRecDepth 100000
structure ReqOK (r : Req) : Prop where
 jobs : r.jobs.length < 2 ^ 20
 edits : r.edits.length < 2 ^ 20
 jdep : ∀ j∈r.jobs,Dep.small j.dep∧j.dep.name.length < 2 ^ 30
theorem bnd_req (r : Req) : ∀ c∈r.cs,Bnd 0 c:=mems5 (.int _ _) (.bool _) (bnd_jobs _) (bnd_edits _) (.int _ _)
theorem req_len (r : Req) : r.cs.length=5:=rfl
theorem req_leaf (r : Req) : r.cs.all IV.leaf=true:=rfl
theorem req_take (r : Req) : r.cs.take 5=r.cs:=rfl
theorem jobMay_pc (j : Job) (h : Dep.small j.dep∧j.dep.name.length < 2 ^ 30) : PC Tryz.prog EE 156 [.agg j.cs] (.bool (!jobMay j)):=by
 refine PC_e hE fok156 (Nat.le_of_ble_eq_true rfl) (mems1 (bnd_jobA j)) ?_
 have hd:=depMay_pc j.dep (by omega) (by have:=h.1.2.2.1; omega) (by have:=h.1.2.2.2; omega)
 have k0 : j.cs.head? = some (.int .u8 j.kind):=rfl
 have k1:=dep_job5 j
 have k2 : (j.cs.drop 1).length=5:=rfl
 unfold jobMay
 by_cases e1 : j.kind < 1
 ·have e1' : ¬ 1≤j.kind:=by omega
  simp only [ic156,go_sem,job_leaf,k0,e1]
  exact frz_b (by simp [e1'])
 have e1' : 1≤j.kind:=by omega
 by_cases e2 : 4 < j.kind
 ·have e2' : ¬ j.kind≤4:=by omega
  simp only [ic156,go_sem,job_leaf,k0,e1,e2]
  exact frz_b (by simp [e2'])
 have e2' : j.kind≤4:=by omega
 simp only [ic156,go_sem,job_leaf,k0,k1,k2,e1,e2]
 first | refine call_pc fok157 (hd) ?_ | refine callP_of (hd) ?_
 simp only [go_sem]
 exact frz_b (by simp [e1',e2'])
theorem editMay_pc (e : Edit) (jobs inst : Int) : PC Tryz.prog EE 160 [.agg e.cs,.int .i64 jobs,.int .i64 inst] (.bool (editMay e jobs inst)):=by
 refine PC_e hE fok160 (Nat.le_of_ble_eq_true rfl) (mems3 (bnd_editA e) (.int _ _) (.int _ _)) ?_
 have k0 : e.cs.head? = some (.int .u8 e.kind):=rfl
 have k1 : (e.cs.drop 1).head? = some (.int .i64 e.n):=rfl
 unfold editMay
 by_cases d1 : e.kind=1
 case' pos =>
  have f1 : (1 : Int)≤1:=by decide
  have f2 : (1 : Int)≤4:=by decide
  rw [d1] at k0 ⊢
  simp only [ic160,go_sem,edit_leaf,k0,f1,f2,k1]
  generalize jobs=most
 case' neg =>
  rw [if_neg d1]
  by_cases d2 : 1≤e.kind
  case' neg =>
   simp only [ic160,go_sem,edit_leaf,k0,d1,d2]
   exact frz_b (by simp)
  by_cases d3 : e.kind≤4
  case' neg =>
   simp only [ic160,go_sem,edit_leaf,k0,d1,d2,d3]
   exact frz_b (by simp)
  simp only [ic160,go_sem,edit_leaf,k0,d1,d2,d3,k1]
  generalize inst=most
 all_goals
  by_cases d4 : 0≤e.n
  ·simp only [go_sem,d4,k1]
   exact frz_b (by simp)
  ·simp only [go_sem,d4]
   exact frz_b (by simp)
theorem new2_pc (e : Edit) (p : Pool) (r : Req) : PC Tryz.prog EE 159 [.agg e.cs,.tptr r.cs,.tptr [p.v]] (.bool (!editMay e r.jobs.length p.inst)):=by
 refine PC_e hE fok159 (Nat.le_of_ble_eq_true rfl) (mems3 (bnd_editA e) (.tptr _ (bnd_req r)) (.tptr _ (mems1 (bnd_pool p)))) ?_
 have h1:=poolInstalled_pc p
 have h2:=editMay_pc e r.jobs.length p.inst
 have k2 : (r.cs.drop 2).head? = some (jobsV r.jobs):=rfl
 simp only [ic159,go_sem,edit_leaf,edit_len,edit_take,k2]
 first | refine call_pc fok66 (h1) ?_ | refine callP_of (h1) ?_
 simp only [go_sem]
 first | refine call_pc fok160 (h2) ?_ | refine callP_of (h2) ?_
 simp only [go_sem]
 exact frz_b rfl
theorem own_pc (r : Req) (h1 : r.jobs.length≤2147483648) (h2 : r.edits.length≤2147483648) : PC Tryz.prog EE 161 [.agg r.cs] (.agg r.cs):=by
 refine PC_e hE fok161 (Nat.le_of_ble_eq_true rfl) (mems1 (.agg _ (bnd_req r))) ?_
 have c1:=cloneJob_pc r.jobs h1
 have c2:=cloneEdit_pc r.edits h2
 have hb:=bnd_req r
 unfold Req.cs at *
 simp only [ic161,go_sem]
 first | refine call_pc fok232 (c1) ?_ | refine callP_of (c1) ?_
 simp only [go_sem]
 first | refine call_pc fok233 (c2) ?_ | refine callP_of (c2) ?_
 simp only [go_sem]
 exact .keep _ (.agg _ hb)
theorem not_any {α : Type} (q : α→Bool) (l : List α) : (l.any fun x => !q x)=!l.all q:=by
 induction l with
 | nil => rfl
 | cons x l ih => simp only [List.any_cons,List.all_cons,ih,Bool.not_and]
theorem askNew_pc (p : Pool) (r : Req) (hR : ReqOK r) (hl : (pkgsOf p).length≤256) (hf : ∀ x∈pkgsOf p,x.Fit∧x.Tiny) : PC Tryz.prog EE 98 [p.v,.agg r.cs] (askV p r):=by
 refine PC_e hE fok98 (Nat.le_of_ble_eq_true rfl) (mems2 (bnd_pool p) (.agg _ (bnd_req r))) ?_
 have hm:=machine_pc r.arch
 have hJ:=conJob_pc r.jobs 156 [] [] (fun j => !jobMay j) (by have:=hR.jobs; omega) fok156.1 fun j hj => jobMay_pc j (hR.jdep j hj)
 have hEd:=conEdit_pc r.edits 159 [] [.tptr r.cs,.tptr [p.v]] (fun e => !editMay e r.jobs.length p.inst) (by have:=hR.edits; omega) fok159.1 fun e he => new2_pc e p r
 rw [not_any] at hJ hEd
 have hrl : p.rows.length=(pkgsOf p).length:=by simp [pkgsOf]
 have hM:=matchNew_pc p (fun x hx => (hf _ (List.mem_map_of_mem (f:=fun x : PRow => x.pkg) hx)).1) (by omega) (fun x hx => by
  have:=(hf _ (List.mem_map_of_mem (f:=fun x : PRow => x.pkg) hx)).2
  have a:=this.prov.1; have b:=this.obs.1; have c:=this.files; omega)
 have hM : PC Tryz.prog EE 80 [p.v] (.tuple [(idxM (pkgsOf p)).v,.int .i64 0]):=hM
 have hO:=own_pc r (by have:=hR.jobs; omega) (by have:=hR.edits; omega)
 have hC:=poolCount_pc p
 rw [hrl] at hC
 have hpk : ∀ j (h : j < (pkgsOf p).length),PC Tryz.prog EE 19 [p.v,.int .i64 j] (.tuple [.agg (pkgsOf p)[j].cs,.int .i64 0]):=fun j h => by
  have hq : p.rows[j].pkg=(pkgsOf p)[j]:=by simp [pkgsOf]
  have h1:=poolPackage_pc p j (by omega) (by rw [hq]; exact (hf _ (List.getElem_mem h)).1)
  rw [hq] at h1; exact h1
 have hbA:=bnd_ask ⟨p,r⟩
 have k0 : r.cs.head? = some (.int .u8 r.arch):=rfl
 have k2 : (r.cs.drop 2).head? = some (jobsV r.jobs):=rfl
 have k3 : (r.cs.drop 3).head? = some (editsV r.edits):=rfl
 have k4 : (r.cs.drop 4).head? = some (.int .i64 r.budget):=rfl
 obtain ⟨V,hV⟩ : ∃ V,askV p r=V:=⟨_,rfl⟩
 have herr : ∀ (s : Store) (e : Int),reqErr r p.inst=e→e≠0→FrzN s 0 (.tuple [.nilptr,.int .i64 e]) V:=fun s e h1 h2 => by
  rw [← hV]
  unfold askV
  rw [h1,if_neg h2]
  exact .keep _ (.tuple _ (mems2 .nilptr (.int _ _)))
 rw [hV]
 have vcs : p.v.cs=[p.v]:=rfl
 have vlf : p.v.leaf=true:=rfl
 have vnl : ∀ d : TypeId,nilI (.pointer d) p.v=some false:=fun _ => rfl
 by_cases c1 : machM r.arch=false
 ·simp only [ic98,go_sem,vcs,List.all_cons,vlf,List.all_nil,List.head?_cons,req_leaf,vnl,k0]
  first | refine call_pc fok154 (hm) ?_ | refine callP_of (hm) ?_
  simp only [go_sem,c1]
  exact herr _ 1 (by unfold reqErr; rw [if_pos (.inl c1)]) (by decide)
 have c1' : machM r.arch=true:=by simpa using c1
 by_cases c2 : r.budget < 0
 ·simp only [ic98,go_sem,vcs,List.all_cons,vlf,List.all_nil,List.head?_cons,req_leaf,vnl,k0]
  first | refine call_pc fok154 (hm) ?_ | refine callP_of (hm) ?_
  simp only [go_sem,c1',k4,c2]
  exact herr _ 1 (by unfold reqErr; rw [if_pos (.inr (.inl c2))]) (by decide)
 by_cases c3 : 1099511627776 < r.budget
 ·simp only [ic98,go_sem,vcs,List.all_cons,vlf,List.all_nil,List.head?_cons,req_leaf,vnl,k0]
  first | refine call_pc fok154 (hm) ?_ | refine callP_of (hm) ?_
  simp only [go_sem,c1',k4,c2,c3]
  exact herr _ 1 (by unfold reqErr; rw [if_pos (.inr (.inr c3))]) (by decide)
 have q1 : ¬ (machM r.arch=false ∨ r.budget < 0 ∨ 1099511627776 < r.budget):=fun h => h.elim c1 fun h => h.elim c2 c3
 by_cases c4 : 64 < r.jobs.length
 ·have c4' : (64 : Int) < r.jobs.length:=by omega
  simp only [ic98,go_sem,vcs,List.all_cons,vlf,List.all_nil,List.head?_cons,req_leaf,vnl,k0]
  first | refine call_pc fok154 (hm) ?_ | refine callP_of (hm) ?_
  simp only [go_sem,c1',k4,c2,c3,k2,c4']
  exact herr _ 40 (by unfold reqErr; rw [if_neg q1,if_pos (.inl c4)]) (by decide)
 have c4' : ¬ (64 : Int) < r.jobs.length:=by omega
 by_cases c5 : 64 < r.edits.length
 ·have c5' : (64 : Int) < r.edits.length:=by omega
  simp only [ic98,go_sem,vcs,List.all_cons,vlf,List.all_nil,List.head?_cons,req_leaf,vnl,k0]
  first | refine call_pc fok154 (hm) ?_ | refine callP_of (hm) ?_
  simp only [go_sem,c1',k4,c2,c3,k2,k3,c4',c5']
  exact herr _ 40 (by unfold reqErr; rw [if_neg q1,if_pos (.inr c5)]) (by decide)
 have c5' : ¬ (64 : Int) < r.edits.length:=by omega
 have q2 : ¬ (64 < r.jobs.length ∨ 64 < r.edits.length):=fun h => h.elim c4 c5
 by_cases c6 : r.jobs.all jobMay=false
 ·simp only [ic98,go_sem,vcs,List.all_cons,vlf,List.all_nil,List.head?_cons,req_leaf,vnl,k0]
  first | refine call_pc fok154 (hm) ?_ | refine callP_of (hm) ?_
  simp only [go_sem,c1',k4,c2,c3,k2,k3,c4',c5']
  first | refine call_pc fok155 (hJ) ?_ | refine callP_of (hJ) ?_
  simp only [go_sem,c6,Bool.not_false]
  exact herr _ 4 (by unfold reqErr; rw [if_neg q1,if_neg q2,if_pos c6]) (by decide)
 have c6' : r.jobs.all jobMay=true:=by simpa using c6
 simp only [ic98,go_sem,vcs,List.all_cons,vlf,List.all_nil,List.head?_cons,req_leaf,vnl,k0]
 first | refine call_pc fok154 (hm) ?_ | refine callP_of (hm) ?_
 simp only [go_sem,c1',k4,c2,c3,k2,k3,c4',c5']
 first | refine call_pc fok155 (hJ) ?_ | refine callP_of (hJ) ?_
 simp only [go_sem,c6',Bool.not_true,k3]
 first | refine call_pc fok158 (hEd) ?_ | refine callP_of (hEd) ?_
 by_cases c7 : (r.edits.all fun e => editMay e r.jobs.length p.inst)=false
 ·simp only [go_sem,c7,Bool.not_false]
  exact herr _ 5 (by unfold reqErr; rw [if_neg q1,if_neg q2,if_neg c6,if_pos c7]) (by decide)
 have c7' : (r.edits.all fun e => editMay e r.jobs.length p.inst)=true:=by simpa using c7
 have hV0 : V=.tuple [.tptr [p.v,(idxM (pkgsOf p)).v,.int .u8 r.arch,.bool r.vendor,jobsV r.jobs,editsV r.edits,.int .i64 r.budget,.tslice ((pkgsOf p).map Package.cs)],.int .i64 0]:=by
  rw [← hV]
  unfold askV
  rw [if_pos (by unfold reqErr; rw [if_neg q1,if_neg q2,if_neg c6,if_neg c7])]
  rfl
 have hbX:=bnd_idx (idxM (pkgsOf p))
 have hbP:=bnd_pool p
 rw [hV0]
 clear herr hV hV0 hJ hEd
 simp only [go_sem,c7',Bool.not_true]
 first | refine call_pc fok80 (hM) ?_ | refine callP_of (hM) ?_
 simp only [go_sem,req_len,req_take]
 first | refine call_pc fok161 (hO) ?_ | refine callP_of (hO) ?_
 have hrc : r.cs=[.int .u8 r.arch,.bool r.vendor,jobsV r.jobs,editsV r.edits,.int .i64 r.budget]:=rfl
 rw [hrc]
 have xlf : (idxM (pkgsOf p)).v.leaf=true:=rfl
 have xcs : (idxM (pkgsOf p)).v.cs=[(idxM (pkgsOf p)).v]:=rfl
 generalize (idxM (pkgsOf p)).v=X at *
 generalize hPv : p.v=Pv at *
 simp only [go_sem,vcs,vlf,xlf,xcs]
 first | refine call_pc fok17 (hC) ?_ | refine callP_of (hC) ?_
 simp only [go_sem]
 refine loop_up noT (fun n fr s => ∃ gv,fr=[(2,.tptr [Pv]),(8,.ptr 5 0),(65,.int .i64 (pkgsOf p).length),(66,.int .i64 (n : Int))]∧7≤s.next∧s.obj 5=some (.cells [Pv,X,.int .u8 r.arch,.bool r.vendor,jobsV r.jobs,editsV r.edits,.int .i64 r.budget,gv])∧Grow s gv 15 (((pkgsOf p).take n).map Package.cs)) (pkgsOf p).length ⟨.nilslice,rfl,Nat.le_refl _,by simp only [put_obj,if_true],.inl ⟨rfl,rfl⟩⟩ ?_
 rintro n fr s hn ⟨gv,rfl,hnx,ho,hg⟩
 by_cases hlt : n < (pkgsOf p).length
 ·have d1 : (n : Int) < ((pkgsOf p).length : Int):=by omega
  have w1:=wrapS (i:=n) (by omega)
  have hp:=hpk n hlt
  have n5 : ¬ 5=s.next:=by omega
  have htk : (pkgsOf p).take (n+1)=(pkgsOf p).take n ++ [(pkgsOf p)[n]]:=by
   rw [List.take_add_one,List.getElem?_eq_getElem hlt]; rfl
  have hgl : gv.leaf=true:=by rcases hg with ⟨rfl,_⟩ | ⟨id,rfl,_⟩ <;> rfl
  have hgc : gv.cs=[gv]:=by rcases hg with ⟨rfl,_⟩ | ⟨id,rfl,_⟩ <;> rfl
  simp only [go_sem,d1]
  first | refine call_pc fok19 (hp) ?_ | refine callP_of (hp) ?_
  simp only [go_sem,pkg_len,pkg_take,pkg_leaf,n5,ho,b_o,b_p,b_t]
  obtain ⟨s1,a1,a2,a3,a4⟩:=box_push (k:=11) (nid:=s.next+1+1+1+1+1+1+1+1) (e:=(pkgsOf p)[n].cs) (A:=.cells [.str [],.int .i64 0,.str [],.str [],.int .u8 0,.str [],.nilslice,.nilslice,.nilslice,.nilslice,.nilslice,.nilslice,.nilslice,.nilslice,.nilslice]) (B:=.cells (pkgsOf p)[n].cs) hg (pkg_all _) ⟨rfl,rfl⟩ (by rw [List.length_map,List.length_take]; omega) ho (by omega) (by omega)
  simp only [go_sem,a1,a3,b_o,b_p,b_t,w1]
  refine ⟨hlt,_,by rw [a2]; omega,rfl,?_⟩
  rw [htk,List.map_append]
  have a5:=a4 [Pv,X,.int .u8 r.arch,.bool r.vendor,jobsV r.jobs,editsV r.edits,.int .i64 r.budget,.slice (s.next+1+1+1+1+1+1+1+1) 0 (((pkgsOf p).take n).length+1) 15] s1.next (by rw [a2]; omega)
  rw [List.length_map] at a5
  exact a5
 ·have hn' : n=(pkgsOf p).length:=by omega
  subst hn'
  have d1 : ¬ ((pkgsOf p).length : Int) < ((pkgsOf p).length : Int):=by omega
  rw [List.take_length] at hg
  simp only [go_sem,d1]
  have hbe : ∀ e∈(pkgsOf p).map Package.cs,∀ c∈e,Bnd 0 c:=fun e he c hc => by
   obtain ⟨y,_,rfl⟩:=List.mem_map.1 he
   exact bnd_pkg y c hc
  refine .tuple2 (.cons (.ptr 5 0 _ _ (Nat.not_lt_zero _) (.inl ho) (Nat.le_refl _) (fun j hj => ?_)) (.cons (frz_i rfl) .nil))
  match j,hj with
  | 0,_ => exact .keep _ hbP
  | 1,_ => exact .keep _ hbX
  | 2,_ => exact .keep _ (.int _ _)
  | 3,_ => exact .keep _ (.bool _)
  | 4,_ => exact .keep _ (bnd_jobs _)
  | 5,_ => exact .keep _ (bnd_edits _)
  | 6,_ => exact .keep _ (.int _ _)
  | 7,_ => exact hg.frz (fun x hx => (pkg_all _ x hx).1) (fun _ _ => Nat.not_lt_zero _) hbe
end Go.Id.Tryz
/- The law's own: how much is handed in. Conditions: sizes that fit. -/
namespace Go.Id.Tryz
open Go Go.Id Go.Proofs Go.Id.Md
set_option maxRecDepth 100000
theorem ptL15_pc0 (l : List Rich) (n : Int) (hl : l.length < 2 ^ 62) (ih : ∀ r∈l,∀ m : Int,PC Tryz.prog EE 153 [riches r.args,.int .i64 m] (.int .i64 (ptR r m))) :
  PC Tryz.prog EE 153 [riches l,.int .i64 n] (.int .i64 (ptL l n 0)):=by
 refine PC_f fok153 (Nat.le_of_ble_eq_true rfl) fun σ => ?_
 simp only [ic153,go_sem]
 refine loop_up noT (fun i fr t => ∃ w : Int,t.obj=σ.obj∧t.next=σ.next∧fr=[(0,riches l),(1,.int .i64 n),(5,.int .i64 w),(6,.int .i64 i)]∧ptL l n 0=ptL (l.drop i) n w) l.length ⟨0,rfl,rfl,rfl,rfl⟩ ?_
 rintro i fr t hi ⟨w,ho,hn,rfl,hf⟩
 have ht : t=σ:=by cases t; cases σ; simp only at ho hn; rw [ho,hn]
 subst ht
 by_cases hlt : i < l.length
 ·obtain ⟨r,ha,_,hdr,hget,_⟩:=at_nth l i hlt
  have c1 : (i : Int) < l.length:=by omega
  have c2 : (0 : Int)≤i:=by omega
  have w1:=wrapS (i:=i) (by omega)
  rw [hdr,ptL] at hf
  by_cases hw : w < n
  ·rw [if_pos hw] at hf
   simp only [go_sem,c1,c2,hw,hget,cs_len,loadArgs]
   refine call_pc fok153 (ih r ha _) ?_
   simp only [go_sem,w1]
   exact ⟨hlt,_,rfl,hf⟩
  ·rw [if_neg hw] at hf
   simp only [go_sem,c1,hw]
   rw [hf]
 ·have hi' : i=l.length:=by omega
  subst hi'
  have c1 : ¬ (l.length : Int) < l.length:=by omega
  rw [List.drop_length,ptL] at hf
  simp only [go_sem,c1,hf,and_self]
theorem ptR15_pc (r : Rich) : r.ok→∀ m : Int,PC Tryz.prog EE 153 [riches r.args,.int .i64 m] (.int .i64 (ptR r m)):=by
 induction r using Rich.ind with
 | h k d xs ih =>
  intro ho m
  obtain ⟨_,_,_,h4,h5⟩:=Rich.ok_mk.1 ho
  rw [ptR_eq]
  exact ptL15_pc0 xs m h4 fun r hr m => ih r hr (h5 r hr) m
theorem ptL15_pc (l : List Rich) (hl : l.length < 2 ^ 62) (h : ∀ r∈l,r.ok) (n : Int) : PC Tryz.prog EE 153 [riches l,.int .i64 n] (.int .i64 (ptL l n 0)) :=
 ptL15_pc0 l n hl fun r hr m => ptR15_pc r (h r hr) m
theorem sizes15_pc (l : List Package) (n : Int) (hl : l.length < 2 ^ 62) (h : ∀ p∈l,p.Ok) : PC Tryz.prog EE 97 [pkgsV l,.int .i64 n] (.int .i64 (szL l n 0)):=by
 refine PC_e hE fok97 (Nat.le_of_ble_eq_true rfl) (two_mem (bnd_pkgs l) (.int _ _)) ?_
 simp only [ic97,go_sem]
 refine loop_up noT (fun i fr t => ∃ w : Int,fr=[(0,pkgsV l),(1,.int .i64 n),(5,.int .i64 w),(6,.int .i64 i)]∧szL l n 0=szL (l.drop i) n w) l.length ⟨0,rfl,rfl⟩ ?_
 rintro i fr t hi ⟨w,rfl,hf⟩
 by_cases hlt : i < l.length
 ·obtain ⟨p,ha,_,hdr,hget,_⟩:=at_nth l i hlt
  have c1 : (i : Int) < l.length:=by omega
  have c2 : (0 : Int)≤i:=by omega
  have w1:=wrapS (i:=i) (by omega)
  rw [hdr,szL] at hf
  by_cases hw : w < n
  ·rw [if_pos hw] at hf
   have f6 : (p.cs.drop 6).head? = some (deps p.provides):=rfl
   have f7 : (p.cs.drop 7).head? = some (riches p.requires):=rfl
   have f8 : (p.cs.drop 8).head? = some (riches p.conflicts):=rfl
   have f9 : (p.cs.drop 9).head? = some (deps p.obsoletes):=rfl
   have f10 : (p.cs.drop 10).head? = some (riches p.recommends):=rfl
   have f11 : (p.cs.drop 11).head? = some (riches p.supplements):=rfl
   have f12 : (p.cs.drop 12).head? = some (riches p.suggests):=rfl
   have f13 : (p.cs.drop 13).head? = some (riches p.enhances):=rfl
   have f14 : (p.cs.drop 14).head? = some (strs p.files):=rfl
   simp only [go_sem,c1,c2,hw,hget,pkg_lenA,pkg_takeA,pkg_leafA,f6,f7,f8,f9,f10,f11,f12,f13,f14,e_lO1]
   have hL : ∀ (k : Nat) (hk : k < (lists6 p).length),((lists6 p).map lR).getD k []=[riches (lists6 p)[k]]:=fun k hk => by simp [List.getD_eq_getElem?_getD,hk,lR]
   have hok:=lists6_ok (h p ha)
   have hlen : (lists6 p).length=6:=rfl
   unfold szP wr at hf
   generalize hw0 : IntKind.i64.wrap (IntKind.i64.wrap (IntKind.i64.wrap (IntKind.i64.wrap (w+1)+p.provides.length)+p.obsoletes.length)+p.files.length)=w0 at *
   have hl6 : IV.tslice [[riches p.requires],[riches p.conflicts],[riches p.recommends],[riches p.supplements],[riches p.suggests],[riches p.enhances]]=.tslice ((lists6 p).map lR):=rfl
   rw [hl6]
   have hf' : szL l n 0=szL (l.drop (i+1)) n (szLs (lists6 p) n w0):=hf
   clear hf hdr hget f6 f7 f8 f9 f10 f11 f12 f13 f14 hl6
   refine loop_up noT (fun k fr u => ∃ v : Int,fr=[(0,pkgsV l),(1,.int .i64 n),(5,.int .i64 v),(6,.int .i64 i),(51,.tslice ((lists6 p).map lR)),(52,.int .i64 6),(53,.int .i64 k)]∧szLs (lists6 p) n w0=szLs ((lists6 p).drop k) n v) 6 ⟨w0,rfl,rfl⟩ ?_
   rintro k fr u hk ⟨v,rfl,hs⟩
   by_cases hlt2 : k < 6
   ·have d1 : (k : Int) < 6:=by omega
    have d2 : (0 : Int)≤k:=by omega
    have d3 : (k : Int) < (lists6 p).length:=by omega
    have w2:=wrapS (i:=k) (by omega)
    have hk2 : k < (lists6 p).length:=by omega
    have hgk:=hL k hk2
    obtain ⟨o1,o2⟩:=hok _ (List.getElem_mem hk2)
    rw [List.drop_eq_getElem_cons hk2,szLs] at hs
    generalize (lists6 p)[k]=x at *
    simp only [go_sem,d1,d2,d3,hgk]
    refine call_pc fok153 (ptL15_pc x o1 o2 n) ?_
    simp only [go_sem,w2]
    exact ⟨hlt2,_,rfl,hs⟩
   ·have hk' : k=6:=by omega
    subst hk'
    have d1 : ¬ ((6 : Nat) : Int) < 6:=by omega
    rw [List.drop_of_length_le (by omega),szLs] at hs
    rw [hs] at hf'
    simp only [go_sem,d1,w1]
    exact ⟨hlt,_,rfl,hf'⟩
  ·rw [if_neg hw] at hf
   simp only [go_sem,c1,hw]
   rw [hf]
   exact frz_int _ _
 ·have hi' : i=l.length:=by omega
  subst hi'
  have c1 : ¬ (l.length : Int) < l.length:=by omega
  rw [List.drop_length,szL] at hf
  simp only [go_sem,c1]
  rw [hf]
  exact frz_int _ _
end Go.Id.Tryz
/- The law's own: what is asked for over a pool; what is too large; rows compared. Conditions: sizes that fit. -/
namespace Go.Id.Tryz
open Go Go.Id Go.Proofs Go.Shelf Go.Id.Md
set_option maxRecDepth 100000
theorem numbers13_pc (xs ys : List Int) (h1 : xs.length < 2 ^ 62) (h2 : ys.length < 2 ^ 62) : PC Tryz.prog EE 37 [.tslice (xs.map Md.intC),.tslice (ys.map Md.intC)] (.bool (decide (xs=ys))):=by
 refine PC_e hE fok37 (Nat.le_of_ble_eq_true rfl) (two_mem (bnd_ints xs) (bnd_ints ys)) ?_
 by_cases hl : xs.length=ys.length
 case neg =>
  have hl' : ¬ (xs.length : Int)=ys.length:=by omega
  have : decide (xs=ys)=false:=decide_eq_false fun e => hl (by rw [e])
  simp only [ic37,go_sem,hl',this]
  exact frz_bool _
 have hl' : (xs.length : Int)=ys.length:=by omega
 have hl2 : decide ((xs.length : Int)=ys.length)=true:=decide_eq_true hl'
 simp only [ic37,go_sem,hl2]
 refine loop_up noT (fun i fr s => fr=[(0,.tslice (xs.map Md.intC)),(1,.tslice (ys.map Md.intC)),(5,.int .i64 i)]∧xs.take i=ys.take i) xs.length ⟨rfl,rfl⟩ ?_
 rintro i fr s hi ⟨rfl,hf⟩
 by_cases hlt : i < xs.length
 ·obtain ⟨x,hx,hxi,hdr,hget,htk⟩:=at_nth xs i hlt
  obtain ⟨y,hy,hyi,hdr2,hget2,htk2⟩:=at_nth ys i (by omega)
  have c1 : (i : Int) < xs.length:=by omega
  have c3 : (i : Int) < ys.length:=by omega
  have c2 : (0 : Int)≤i:=by omega
  have w1:=wrapS (i:=i) (by omega)
  simp only [go_sem,c1,c2,c3,hget,hget2,Md.intC,w1]
  by_cases hxy : x=y
  ·have hd : decide (x=y)=true:=decide_eq_true hxy
   simp only [go_sem,hd,w1]
   refine ⟨hlt,?_⟩
   rw [htk,htk2,hf,hxy]
  ·have hd : decide (x=y)=false:=decide_eq_false hxy
   have hne : decide (xs=ys)=false:=decide_eq_false fun e => hxy (by rw [e] at hxi; rw [hxi] at hyi; cases hyi; rfl)
   simp only [go_sem,hd,hne]
   exact frz_bool _
 ·have hi' : i=xs.length:=by omega
  subst hi'
  have c1 : ¬ (xs.length : Int) < xs.length:=by omega
  rw [List.take_length,hl,List.take_length] at hf
  have : decide (xs=ys)=true:=decide_eq_true hf
  simp only [go_sem,c1,this]
  exact frz_bool _
theorem has15_pc (l : List Int) (n : Int) (hl : l.length < 2 ^ 40) : PC Tryz.prog EE 43 [.tslice (l.map Md.intC),.int .i64 n] (.bool (decide (n∈l))):=by
 refine PC_f fok43 (Nat.le_of_ble_eq_true rfl) fun σ => ?_
 simp only [ic43,go_sem]
 refine loop_up noT (fun i fr t => t=σ∧fr=[(0,.tslice (l.map Md.intC)),(1,.int .i64 n),(5,.int .i64 i)]∧(decide (n∈l))=decide (n∈l.drop i)) l.length ⟨rfl,rfl,rfl⟩ ?_
 rintro i fr t hi ⟨rfl,rfl,hf⟩
 by_cases hlt : i < l.length
 ·obtain ⟨x,ha,_,hdr,hget,_⟩:=at_nth l i hlt
  have c1 : (i : Int) < l.length:=by omega
  have c2 : (0 : Int)≤i:=by omega
  have w1:=wrapS (i:=i) (by omega)
  by_cases e : x=n
  ·have hin : n∈l:=e ▸ ha
   simp only [go_sem,c1,c2,hget,Md.intC,e,hin,decide_true,and_self]
  ·have e' : ¬ n=x:=fun h => e h.symm
   rw [hdr] at hf
   simp only [List.mem_cons,e',false_or] at hf
   simp only [go_sem,c1,c2,hget,Md.intC,e,w1]
   exact ⟨hlt,hf⟩
 ·have hi' : i=l.length:=by omega
  subst hi'
  have c1 : ¬ (l.length : Int) < l.length:=by omega
  rw [List.drop_length] at hf
  simp only [List.not_mem_nil,decide_false] at hf
  simp only [go_sem,c1,hf,and_self]
theorem within15_pc (l m : List Int) (hl : l.length < 2 ^ 40) (hm : m.length < 2 ^ 40) (h1 : ∀ x∈l,x∈m) (h2 : l.Pairwise (· < ·)) : PC Tryz.prog EE 39 [.tslice (l.map Md.intC),.tslice (m.map Md.intC)] (.bool true):=by
 refine PC_e hE fok39 (Nat.le_of_ble_eq_true rfl) (mems2 (bnd_ints _) (bnd_ints _)) ?_
 simp only [ic39,go_sem]
 refine loop_up noT (fun i fr s => fr=[(0,.tslice (l.map Md.intC)),(1,.tslice (m.map Md.intC)),(5,.int .i64 (i : Int))]) l.length rfl ?_
 rintro i fr s hi rfl
 by_cases hlt : i < l.length
 ·obtain ⟨x,hx,hxi,hdr,hget,htk⟩:=at_nth l i hlt
  have hxe : l[i]=x:=by rw [List.getElem?_eq_getElem hlt] at hxi; exact Option.some.inj hxi
  have c1 : (i : Int) < l.length:=by omega
  have c2 : (0 : Int)≤i:=by omega
  have w1:=wrapS (i:=i) (by omega)
  have hH:=has15_pc m x hm
  rw [decide_eq_true (h1 x hx)] at hH
  simp only [go_sem,c1,c2,hget,Md.intC]
  first | refine call_pc fok43 (hH) ?_ | refine callP_of (hH) ?_
  by_cases hi0 : (0 : Int) < (i : Int)
  ·have f5 : IntKind.i64.wrap ((i : Int) - 1)=((i - 1 : Nat) : Int):=by rw [wrap64 (by omega) (by omega)]; omega
   have f6 : (0 : Int)≤((i - 1 : Nat) : Int):=by omega
   have f7 : ((i - 1 : Nat) : Int) < l.length:=by omega
   have g2 : (l.map Md.intC).getD (i - 1) []=[.int .i64 (l[i - 1]'(by omega))]:=by simp [List.getD_eq_getElem?_getD,show i - 1 < l.length by omega,Md.intC]
   have f8 : ¬ x≤l[i - 1]'(by omega):=by
    have:=List.pairwise_iff_getElem.1 h2 (i - 1) i (by omega) hlt (by omega)
    omega
   simp only [go_sem,c1,c2,hget,Md.intC,hi0,f5,f6,f7,g2,f8,w1]
   exact hlt
  ·simp only [go_sem,hi0,w1]
   exact hlt
 ·have hi' : i=l.length:=by omega
  subst hi'
  have c1 : ¬ (l.length : Int) < l.length:=by omega
  simp only [go_sem,c1]
  exact frz_bool _
def lgN (m : Int) : List Repo→Int→Int
 | [],w => w
 | r :: rs,w => if w < m then lgN m rs (wr (wr (w+1)+szL r.packages m 0)) else w
theorem large15_pc (repos : List Repo) (inst : List Package) (r : Req) (h1 : repos.length < 2 ^ 62) (h2 : inst.length < 2 ^ 62) (hr : ∀ r∈repos,Repo.Ok r) (hi : ∀ p∈inst,p.Ok) :
  PC Tryz.prog EE 34 [reposV repos,pkgsV inst,.agg r.cs] (.bool (decide (2000≤lgN 2000 repos (szL inst 2000 0)) || decide (100 < r.jobs.length) || decide (100 < r.edits.length))):=by
 refine PC_e hE fok34 (Nat.le_of_ble_eq_true rfl) (mems3 (bnd_repos repos) (bnd_pkgs inst) (.agg _ (bnd_req r))) ?_
 have k2 : (r.cs.drop 2).head? = some (jobsV r.jobs):=rfl
 have k3 : (r.cs.drop 3).head? = some (editsV r.edits):=rfl
 simp only [ic34,go_sem,req_leaf]
 first | refine call_pc fok97 (sizes15_pc inst 2000 h2 hi) ?_ | refine callP_of (sizes15_pc inst 2000 h2 hi) ?_
 simp only [go_sem]
 refine loop_up noT (fun i fr t => ∃ w : Int,fr=[(0,reposV repos),(5,.tptr r.cs),(7,.int .i64 w),(8,.int .i64 i)]∧lgN 2000 repos (szL inst 2000 0)=lgN 2000 (repos.drop i) w) repos.length ⟨_,rfl,rfl⟩ ?_
 rintro i fr t hle ⟨w,rfl,hf⟩
 by_cases hlt : i < repos.length∧w < 2000
 ·obtain ⟨hlt,hw⟩:=hlt
  obtain ⟨x,ha,_,hdr,hget,_⟩:=at_nth repos i hlt
  have c1 : (i : Int) < repos.length:=by omega
  have c2 : (0 : Int)≤i:=by omega
  have w1:=wrapS (i:=i) (by omega)
  rw [hdr,lgN,if_pos hw] at hf
  have f1 : (x.cs.drop 1).head? = some (pkgsV x.packages):=rfl
  simp only [go_sem,c1,c2,hw,hget,repo_len,f1]
  first | refine call_pc fok97 (sizes15_pc x.packages 2000 (hr x ha).1 (hr x ha).2) ?_ | refine callP_of (sizes15_pc x.packages 2000 (hr x ha).1 (hr x ha).2) ?_
  simp only [go_sem,w1]
  exact ⟨hlt,_,rfl,hf⟩
 have hw2 : lgN 2000 (repos.drop i) w=w:=by
  by_cases hl2 : i < repos.length
  ·obtain ⟨x,ha,_,hdr,hget,_⟩:=at_nth repos i hl2
   rw [hdr,lgN,if_neg (fun h => hlt ⟨hl2,h⟩)]
  ·rw [List.drop_of_length_le (by omega)]; rfl
 rw [hw2] at hf
 rw [hf]
 by_cases hl2 : i < repos.length
 case' pos =>
  have c1 : (i : Int) < repos.length:=by omega
  have hw : ¬ w < 2000:=fun h => hlt ⟨hl2,h⟩
  have hw' : 2000≤w:=by omega
  simp only [go_sem,c1,hw,hw']
  exact frz_b (by simp)
 have c1 : ¬ (i : Int) < repos.length:=by omega
 by_cases hw : 2000≤w
 ·simp only [go_sem,c1,hw]
  exact frz_b (by simp)
 by_cases hj : 100 < r.jobs.length
 ·have hj' : (100 : Int) < r.jobs.length:=by omega
  simp only [go_sem,c1,hw,k2,hj']
  exact frz_b (by simp [hj])
 have hj' : ¬ (100 : Int) < r.jobs.length:=by omega
 by_cases he : 100 < r.edits.length
 ·have he' : (100 : Int) < r.edits.length:=by omega
  simp only [go_sem,c1,hw,k2,k3,hj',he']
  exact frz_b (by simp [he])
 ·have he' : ¬ (100 : Int) < r.edits.length:=by omega
  simp only [go_sem,c1,hw,k2,k3,hj',he']
  exact frz_b (by simp [he,hj])
theorem aok {repos : List Repo} {inst : List Package} {p : Pool} {r : Req} (hI : InOK repos inst) (hn : newM repos inst=.inl p) (hR : ReqOK r) (he : reqErr r p.inst=0) : AOK ⟨p,r⟩:=by
 have hf:=in_fit hI hn
 have hlen : (pkgsOf p).length≤256:=by simp only [pkgsOf,List.length_map]; exact newM_len hn
 unfold reqErr at he
 split at he
 ·cases he
 split at he
 ·cases he
 rename_i hb
 split at he
 ·cases he
 rename_i hj
 refine ⟨hlen,fun x hx => (hf x hx).2.1,fun x hx => (hf x hx).1,fun x hx => (hf x hx).2.2,?_,?_,?_,fun j hj => (hR.jdep j hj).1,fun j hjm => ?_⟩
 ·have h1:=newM_pkgs hn
  have h2 : p.inst=inst.length:=by
   unfold newM at hn
   split at hn
   ·cases hn
   split at hn
   ·cases hn
   split at hn
   ·cases hn; rfl
   ·cases hn
  show p.inst≤((pkgsOf p).length : Nat)
  rw [h2,h1,List.length_append]; omega
 ·show r.jobs.length≤64; omega
 ·show r.edits.length≤128; omega
 ·have h1 : r.jobs.all jobMay=true:=by simpa using hj
  have h2:=List.all_eq_true.1 h1 j hjm
  unfold jobMay at h2
  simp only [Bool.and_eq_true,decide_eq_true_eq] at h2
  exact ⟨h2.1.1,h2.1.2⟩
theorem newM_inst {repos : List Repo} {inst : List Package} {p : Pool} (hn : newM repos inst=.inl p) : p.inst=inst.length:=by
 unfold newM at hn
 split at hn
 ·cases hn
 split at hn
 ·cases hn
 split at hn
 ·cases hn; rfl
 ·cases hn
def of15M (repos : List Repo) (inst : List Package) (r : Req) : IV:=match newM repos inst with
 | .inl p => if reqErr r p.inst=0 then .tuple [(AskM.mk p r).v,p.v,.bool true] else .tuple [.nilptr,p.v,.bool false]
 | .inr _ => .tuple [.nilptr,.nilptr,.bool false]
theorem of15_pc (repos : List Repo) (inst : List Package) (r : Req) (hI : InOK repos inst) (hR : ReqOK r) : PC Tryz.prog EE 35 [reposV repos,pkgsV inst,.agg r.cs] (of15M repos inst r):=by
 refine PC_e hE fok35 (Nat.le_of_ble_eq_true rfl) (mems3 (bnd_repos repos) (bnd_pkgs inst) (.agg _ (bnd_req r))) ?_
 have hp:=poolNew_pc repos inst hI.r1 hI.i1 hI.s1 hI.rf hI.pf
 unfold of15M
 cases hn : newM repos inst with
 | inr e =>
  rw [hn] at hp
  have he : ¬ e=0:=by rcases newM_inr hn with rfl | rfl <;> decide
  simp only [newV] at hp
  simp only [ic35,go_sem,req_leaf]
  first | refine call_pc fok15 (hp) ?_ | refine callP_of (hp) ?_
  simp only [go_sem,he]
  exact .keep _ (.tuple _ (mems3 .nilptr .nilptr (.bool _)))
 | inl p =>
  rw [hn] at hp
  have hf:=in_fit hI hn
  have hlen : (pkgsOf p).length≤256:=by simp only [pkgsOf,List.length_map]; exact newM_len hn
  have ha:=askNew_pc p r hR hlen fun x hx => ⟨(hf x hx).1,(hf x hx).2.2⟩
  have hb:=bnd_ask ⟨p,r⟩
  have hnl : ∀ d : TypeId,nilI (.pointer d) (AskM.mk p r).v=some false:=fun _ => rfl
  simp only [newV] at hp
  unfold askV at ha
  simp only [ic35,go_sem,req_leaf]
  first | refine call_pc fok15 (hp) ?_ | refine callP_of (hp) ?_
  by_cases he : reqErr r p.inst=0
  ·rw [if_pos he] at ha
   simp only [go_sem,he,req_len,req_take]
   first | refine call_pc fok98 (ha) ?_ | refine callP_of (ha) ?_
   simp only [go_sem,hnl]
   exact .keep _ (.tuple _ (mems3 hb (bnd_pool p) (.bool _)))
  ·rw [if_neg he] at ha
   simp only [go_sem,req_len,req_take]
   first | refine call_pc fok98 (ha) ?_ | refine callP_of (ha) ?_
   simp only [go_sem,he]
   exact .keep _ (.tuple _ (mems3 .nilptr (bnd_pool p) (.bool _)))
end Go.Id.Tryz
/- The examples of what is asked for,walked. Conditions: none. -/
namespace Go.Id.Tryz
open Go Go.Id Go.Proofs Go.Shelf Go.Id.Md
set_option maxRecDepth 100000
def bareP (name ver : Str) : Package:={ name:=name,evr:=⟨0,ver,[49]⟩,arch:=2,vendor:=[],provides:=[],requires:=[],conflicts:=[],obsoletes:=[],recommends:=[],supplements:=[],suggests:=[],enhances:=[],files:=[] }
theorem k_str {s : Store} (x : Str) : FrzN s 0 (.str x) (.str x):=.keep _ (.str _)
theorem k_int {s : Store} (k : IntKind) (n : Int) : FrzN s 0 (.int k n) (.int k n):=.keep _ (.int _ _)
theorem bare15_pc (name ver : Str) : PC Tryz.prog EE 93 [.str name,.str ver] (.agg (bareP name ver).cs):=by
 refine PC_e hE fok93 (Nat.le_of_ble_eq_true rfl) (mems2 (.str _) (.str _)) ?_
 simp only [ic93,go_sem]
 exact .agg2 (.cons (k_str _) (.cons (k_int _ _) (.cons (k_str _) (.cons (k_str _) (.cons (k_int _ _) (.cons (k_str _) (.cons .nils (.cons .nils (.cons .nils (.cons .nils (.cons .nils (.cons .nils (.cons .nils (.cons .nils (.cons .nils .nil)))))))))))))))
def bOver : Package:={ bareP [98] [49] with obsoletes:=[⟨[97],0,⟨0,[],[]⟩⟩] }
def threeM : List Repo:=[⟨0,[bareP [97] [49],bareP [97] [51],bOver]⟩]
theorem three15_pc : PC Tryz.prog EE 94 [] (reposV threeM):=by
 refine PC_e hE fok94 (Nat.le_of_ble_eq_true rfl) (fun a h => by cases h) ?_
 have hb:=bare15_pc [98] [49]
 have h1:=bare15_pc [97] [49]
 have h3:=bare15_pc [97] [51]
 have hcs : (bareP [98] [49]).cs=[.str [98],.int .i64 0,.str [49],.str [49],.int .u8 2,.str [],.tslice [],.tslice [],.tslice [],.tslice [],.tslice [],.tslice [],.tslice [],.tslice [],.tslice []]:=rfl
 simp only [ic94,go_sem]
 first | refine call_pc fok93 (hb) ?_ | refine callP_of (hb) ?_
 simp only [go_sem,pkg_len,pkg_take,pkg_leaf,hcs]
 first | refine call_pc fok93 (h1) ?_ | refine callP_of (h1) ?_
 simp only [go_sem,pkg_len,pkg_take,pkg_leaf]
 first | refine call_pc fok93 (h3) ?_ | refine callP_of (h3) ?_
 have hc1 : (bareP [97] [49]).cs=[.str [97],.int .i64 0,.str [49],.str [49],.int .u8 2,.str [],.tslice [],.tslice [],.tslice [],.tslice [],.tslice [],.tslice [],.tslice [],.tslice [],.tslice []]:=rfl
 have hc3 : (bareP [97] [51]).cs=[.str [97],.int .i64 0,.str [51],.str [49],.int .u8 2,.str [],.tslice [],.tslice [],.tslice [],.tslice [],.tslice [],.tslice [],.tslice [],.tslice [],.tslice []]:=rfl
 simp only [go_sem,pkg_len,pkg_take,pkg_leaf,hc1,hc3]
 exact .keep _ (bnd_repos threeM)
theorem req15_pc (jobs : List Job) (edits : List Edit) : PC Tryz.prog EE 95 [jobsV jobs,editsV edits] (.agg (Req.mk 2 false jobs edits 0).cs):=by
 refine PC_e hE fok95 (Nat.le_of_ble_eq_true rfl) (mems2 (bnd_jobs _) (bnd_edits _)) ?_
 simp only [ic95,go_sem]
 exact .keep _ (.agg _ (bnd_req (Req.mk 2 false jobs edits 0)))
theorem are15_pc (a b : List Int) (h1 : a.length < 2 ^ 62) (h2 : b.length < 2 ^ 62) : PC Tryz.prog EE 96 [.tslice (a.map Md.intC),.tslice (b.map Md.intC)] (.bool (decide (a=b))):=by
 refine PC_e hE fok96 (Nat.le_of_ble_eq_true rfl) (mems2 (bnd_ints _) (bnd_ints _)) ?_
 have h:=numbers13_pc a b h1 h2
 simp only [ic96,go_sem]
 first | refine call_pc fok37 (h) ?_ | refine callP_of (h) ?_
 simp only [go_sem]
 exact frz_b rfl
def poolOf (repos : List Repo) (inst : List Package) : Pool:=match newM repos inst with
 | .inl p => p
 | .inr _ => ⟨[],0,[]⟩
def in15 : List Package:=[bareP [97] [50]]
def i686P : Package:={ bareP [97] [49] with arch:=3 }
def rep15 : List Repo:=[⟨0,[bareP [97] [49],i686P,bareP [97] [50]]⟩]
def r15 : Req:=⟨2,false,[],[],0⟩
def r15d : Req:=⟨2,false,[],[⟨3,0⟩],0⟩
theorem new15a : newM threeM in15=.inl (poolOf threeM in15):=by kernel_rfl
theorem new15b : newM rep15 []=.inl (poolOf rep15 []):=by kernel_rfl
theorem err15a : reqErr r15 (poolOf threeM in15).inst=0:=by kernel_rfl
theorem err15d : reqErr r15d (poolOf threeM in15).inst=0:=by kernel_rfl
theorem err15b : reqErr r15 (poolOf rep15 []).inst=0:=by kernel_rfl
theorem succ15a : (AskM.mk (poolOf threeM in15) r15).succs 0=[0,2,3]:=by kernel_rfl
theorem succ15d : (AskM.mk (poolOf threeM in15) r15d).succs 0=[0,1,2,3]:=by kernel_rfl
theorem twin01 : (AskM.mk (poolOf rep15 []) r15).twins 0 1=false:=by kernel_rfl
theorem twin02 : (AskM.mk (poolOf rep15 []) r15).twins 0 2=true:=by kernel_rfl
theorem twin12 : (AskM.mk (poolOf rep15 []) r15).twins 1 2=true:=by kernel_rfl
def plainD (d : Dep) : Bool:=decide (d.name.length < 100) && decide (d.evr.ver.length < 100) && decide (d.evr.rel.length < 100)
def plainB (p : Package) : Bool:=decide (p.name.length < 100) && decide (p.vendor.length < 100) && decide (p.evr.ver.length < 100) && decide (p.evr.rel.length < 100) && decide (p.provides.length < 100) && p.provides.all plainD && decide (p.obsoletes.length < 100) && p.obsoletes.all plainD &&
 decide (p.files.length < 100) && p.files.all (fun s => decide (s.length < 100)) && p.rows.all fun x => x.2.isEmpty
theorem plain_ok {p : Package} (h : plainB p=true) : p.Fit∧p.Ok:=by
 unfold plainB at h
 simp only [Bool.and_eq_true,decide_eq_true_eq,List.all_eq_true] at h
 obtain ⟨⟨⟨⟨⟨⟨⟨⟨⟨⟨h1,h2⟩,h3⟩,h4⟩,h5⟩,h6⟩,h7⟩,h8⟩,h9⟩,h10⟩,h11⟩:=h
 have hd : ∀ d : Dep,plainD d=true→d.fit:=fun d hd => by
  unfold plainD at hd
  simp only [Bool.and_eq_true,decide_eq_true_eq] at hd
  exact ⟨by omega,by omega,by omega⟩
 have hr : ∀ x∈p.rows,x.2=[]:=fun x hx => List.isEmpty_iff.1 (h11 x hx)
 exact ⟨⟨by omega,⟨by omega,by omega⟩,⟨by omega,fun d hx => hd d (h6 d hx)⟩,⟨by omega,fun d hx => hd d (h8 d hx)⟩,⟨by omega,fun x hx => by have:=h10 x hx; omega⟩,fun x hx => by rw [hr x hx]; exact ⟨by simp,fun r h => by cases h⟩⟩,
  ⟨by omega,by omega,⟨by omega,by omega⟩,⟨by omega,fun d hx => hd d (h6 d hx)⟩,⟨by omega,fun d hx => hd d (h8 d hx)⟩,⟨by omega,fun x hx => by have:=h10 x hx; omega⟩,fun x hx => by rw [hr x hx]; exact ⟨by simp,fun r h => by cases h⟩⟩⟩
def plainIn (repos : List Repo) (inst : List Package) : Bool:=decide (repos.length < 100) && decide (inst.length < 1000) && inst.all plainB && repos.all (fun r => decide (r.packages.length < 1000) && r.packages.all plainB) && decide (sumLen repos < 100000)
theorem plain_in {repos : List Repo} {inst : List Package} (h : plainIn repos inst=true) : InOK repos inst:=by
 unfold plainIn at h
 simp only [Bool.and_eq_true,decide_eq_true_eq,List.all_eq_true] at h
 obtain ⟨⟨⟨⟨h1,h2⟩,h3⟩,h4⟩,h5⟩:=h
 exact ⟨by omega,by omega,by omega,fun r hr => ⟨by have:=(h4 r hr).1; omega,fun p hp => (plain_ok ((h4 r hr).2 p hp)).1⟩,fun p hp => (plain_ok (h3 p hp)).1,fun r hr => ⟨by have:=(h4 r hr).1; omega,fun p hp => (plain_ok ((h4 r hr).2 p hp)).2⟩,fun p hp => (plain_ok (h3 p hp)).2⟩
theorem inok15a : InOK threeM in15:=plain_in (by kernel_rfl)
theorem inok15b : InOK rep15 []:=plain_in (by kernel_rfl)
theorem rok15 : ReqOK r15:=⟨by decide,by decide,fun j h => by cases h⟩
theorem rok15d : ReqOK r15d:=⟨by decide,by decide,fun j h => by cases h⟩
theorem of15a : PC Tryz.prog EE 35 [reposV threeM,pkgsV in15,.agg r15.cs] (.tuple [(AskM.mk (poolOf threeM in15) r15).v,(poolOf threeM in15).v,.bool true]):=by
 have h:=of15_pc threeM in15 r15 inok15a rok15
 unfold of15M at h
 rw [new15a] at h
 simp only [err15a,if_true] at h
 exact h
theorem of15d : PC Tryz.prog EE 35 [reposV threeM,pkgsV in15,.agg r15d.cs] (.tuple [(AskM.mk (poolOf threeM in15) r15d).v,(poolOf threeM in15).v,.bool true]):=by
 have h:=of15_pc threeM in15 r15d inok15a rok15d
 unfold of15M at h
 rw [new15a] at h
 simp only [err15d,if_true] at h
 exact h
theorem of15b : PC Tryz.prog EE 35 [reposV rep15,pkgsV [],.agg r15.cs] (.tuple [(AskM.mk (poolOf rep15 []) r15).v,(poolOf rep15 []).v,.bool true]):=by
 have h:=of15_pc rep15 [] r15 inok15b rok15
 unfold of15M at h
 rw [new15b] at h
 simp only [err15b,if_true] at h
 exact h
theorem works15_pc : PC Tryz.prog EE 33 [] (.bool true):=by
 refine PC_e hE fok33 (Nat.le_of_ble_eq_true rfl) (fun a h => by cases h) ?_
 have hA:=aok inok15a new15a rok15 err15a
 have hAd:=aok inok15a new15a rok15d err15d
 have hB:=aok inok15b new15b rok15 err15b
 have b2:=bare15_pc [97] [50]
 have b1:=bare15_pc [97] [49]
 have hth:=three15_pc
 have hw : ∀ {v : IV} {σ : Store},Bnd 0 v→Frz σ (fun _ => true=true) v v:=fun h => .keep _ (h.weak fun _ _ => rfl)
 have hq : PC Tryz.prog EE 95 [.nilslice,.nilslice] (.agg r15.cs):=PC_weak (args':=[jobsV [],editsV []]) rfl (fun σ i hi => by
  match i,hi with
  | 0,_ => exact .nils
  | 1,_ => exact .nils) (req15_pc [] [])
 have hqd : PC Tryz.prog EE 95 [.nilslice,editsV [⟨3,0⟩]] (.agg r15d.cs):=PC_weak (args':=[jobsV [],editsV [⟨3,0⟩]]) rfl (fun σ i hi => by
  match i,hi with
  | 0,_ => exact .nils
  | 1,_ => exact hw (bnd_edits _)) (req15_pc [] [⟨3,0⟩])
 have hob : PC Tryz.prog EE 35 [reposV rep15,.nilslice,.agg r15.cs] (.tuple [(AskM.mk (poolOf rep15 []) r15).v,(poolOf rep15 []).v,.bool true]):=PC_weak (args':=[reposV rep15,pkgsV [],.agg r15.cs]) rfl (fun σ i hi => by
  match i,hi with
  | 0,_ => exact hw (bnd_repos _)
  | 1,_ => exact .nils
  | 2,_ => exact hw (.agg _ (bnd_req _))) of15b
 have hs:=askSuccs_pc _ 0 hA
 have hsd:=askSuccs_pc _ 0 hAd
 have t01:=askTwins_pc _ 0 1 hB
 have t02:=askTwins_pc _ 0 2 hB
 have t12:=askTwins_pc _ 1 2 hB
 rw [succ15a] at hs
 rw [succ15d] at hsd
 rw [twin01] at t01
 rw [twin02] at t02
 rw [twin12] at t12
 have a3 : PC Tryz.prog EE 96 [.tslice [Md.intC 0,Md.intC 2,Md.intC 3],.tslice [[.int .i64 0],[.int .i64 2],[.int .i64 3]]] (.bool true):=by
  have h:=are15_pc [0,2,3] [0,2,3] (by decide) (by decide)
  rw [decide_eq_true rfl] at h
  exact h
 have a4 : PC Tryz.prog EE 96 [.tslice [Md.intC 0,Md.intC 1,Md.intC 2,Md.intC 3],.tslice [[.int .i64 0],[.int .i64 1],[.int .i64 2],[.int .i64 3]]] (.bool true):=by
  have h:=are15_pc [0,1,2,3] [0,1,2,3] (by decide) (by decide)
  rw [decide_eq_true rfl] at h
  exact h
 have ho:=of15a
 have hod:=of15d
 have hi : pkgsV in15=.tslice [(bareP [97] [50]).cs]:=rfl
 have hed : editsV [⟨3,0⟩]=.tslice [[.int .u8 3,.int .i64 0]]:=rfl
 have hcs1 : (bareP [97] [49]).cs=[.str [97],.int .i64 0,.str [49],.str [49],.int .u8 2,.str [],.tslice [],.tslice [],.tslice [],.tslice [],.tslice [],.tslice [],.tslice [],.tslice [],.tslice []]:=rfl
 have hcs2 : (bareP [97] [50]).cs=[.str [97],.int .i64 0,.str [50],.str [49],.int .u8 2,.str [],.tslice [],.tslice [],.tslice [],.tslice [],.tslice [],.tslice [],.tslice [],.tslice [],.tslice []]:=rfl
 have hrep : reposV rep15=.tslice [[.int .i64 0,.tslice [(bareP [97] [49]).cs,i686P.cs,(bareP [97] [50]).cs]]]:=rfl
 have hcs3 : i686P.cs=[.str [97],.int .i64 0,.str [49],.str [49],.int .u8 3,.str [],.tslice [],.tslice [],.tslice [],.tslice [],.tslice [],.tslice [],.tslice [],.tslice [],.tslice []]:=rfl
 rw [hrep,hcs1,hcs2,hcs3] at hob
 rw [hi,hcs2] at ho hod
 rw [hed] at hqd
 generalize reposV threeM=TH at *
 generalize (AskM.mk (poolOf threeM in15) r15).v=A1 at *
 generalize (AskM.mk (poolOf threeM in15) r15d).v=A2 at *
 generalize (AskM.mk (poolOf rep15 []) r15).v=A3 at *
 generalize (poolOf threeM in15).v=P1 at *
 generalize (poolOf rep15 []).v=P2 at *
 have el0 : r15.cs.length=5:=rfl
 have el1 : r15d.cs.length=5:=rfl
 rw [hcs2] at b2
 rw [hcs1] at b1
 simp only [ic33,go_sem]
 first | refine call_pc fok93 (b2) ?_ | refine callP_of (b2) ?_
 simp only [go_sem]
 first | refine call_pc fok94 (hth) ?_ | refine callP_of (hth) ?_
 simp only [go_sem]
 first | refine call_pc fok95 (hq) ?_ | refine callP_of (hq) ?_
 simp only [go_sem]
 first | refine call_pc fok35 (ho) ?_ | refine callP_of (ho) ?_
 simp only [go_sem]
 first | refine call_pc fok94 (hth) ?_ | refine callP_of (hth) ?_
 simp only [go_sem]
 first | refine call_pc fok95 (hqd) ?_ | refine callP_of (hqd) ?_
 simp only [go_sem]
 first | refine call_pc fok35 (hod) ?_ | refine callP_of (hod) ?_
 simp only [go_sem]
 first | refine call_pc fok93 (b1) ?_ | refine callP_of (b1) ?_
 simp only [go_sem]
 first | refine call_pc fok93 (b1) ?_ | refine callP_of (b1) ?_
 simp only [go_sem]
 first | refine call_pc fok93 (b2) ?_ | refine callP_of (b2) ?_
 simp only [go_sem]
 first | refine call_pc fok95 (hq) ?_ | refine callP_of (hq) ?_
 simp only [go_sem]
 first | refine call_pc fok35 (hob) ?_ | refine callP_of (hob) ?_
 simp only [go_sem]
 first | refine call_pc fok40 (hs) ?_ | refine callP_of (hs) ?_
 simp only [go_sem]
 first | refine call_pc fok96 (a3) ?_ | refine callP_of (a3) ?_
 simp only [go_sem]
 first | refine call_pc fok40 (hsd) ?_ | refine callP_of (hsd) ?_
 simp only [go_sem]
 first | refine call_pc fok96 (a4) ?_ | refine callP_of (a4) ?_
 simp only [go_sem]
 first | refine call_pc fok45 (t01) ?_ | refine callP_of (t01) ?_
 simp only [go_sem]
 first | refine call_pc fok45 (t02) ?_ | refine callP_of (t02) ?_
 simp only [go_sem]
 first | refine call_pc fok45 (t12) ?_ | refine callP_of (t12) ?_
 simp only [go_sem]
 exact frz_b rfl
end Go.Id.Tryz
