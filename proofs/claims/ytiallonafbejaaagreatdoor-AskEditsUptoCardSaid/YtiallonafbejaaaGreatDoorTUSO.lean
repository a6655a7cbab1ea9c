/- AskEdits. Conditions: sizes that fit. -/
import Derived.Test.YtiallonafbejaaaGreatDoorTUSM
set_option linter.all false
namespace Go.Id.Tryz
open Go Go.Id Go.Proofs Go.Shelf Go.Id.Md
set_option maxRecDepth 100000
theorem edit_all : ∀ (l : List Edit),∀ x∈l.map Edit.cs,x.length=2∧x.all IV.leaf=true:=fun l x hx => by
 obtain ⟨y,_,rfl⟩:=List.mem_map.1 hx; exact ⟨rfl,rfl⟩
theorem app_edits {σ : Store} {did nid : Nat} (es : List Edit) (ho : σ.obj did=some (.row [])) (hd : did < σ.next) (hn : nid < σ.next) (hl : es.length≤2147483648) :
  ∃ v' σ',appI σ nid 2 (.slice did 0 0 2) (editsV es)=some (v',σ')∧σ'.next=σ.next∧Grow σ' v' 2 (es.map Edit.cs)∧∀ i,i≠did→i≠nid→σ'.obj i=σ.obj i:=by
 by_cases h : es=[]
 ·subst h
  exact ⟨_,_,app_none ho rfl,rfl,.inr ⟨did,rfl,ho,hd⟩,fun _ _ _ => rfl⟩
 ·refine ⟨_,_,app_all ho (fun e => h (List.map_eq_nil_iff.1 e)) (edit_all es) (by rw [List.length_map]; exact hl),rfl,.inr ⟨nid,rfl,by rw [put_obj,if_pos rfl],hn⟩,fun i h1 h2 => ?_⟩
  rw [put_obj,if_neg h2]
  show (if i=did then none else σ.obj i)=_
  rw [if_neg h1]
theorem of15_cases (repos : List Repo) (inst : List Package) (r : Req) : ∃ A B c,of15M repos inst r=.tuple [A,B,.bool c]∧Bnd 0 A∧Bnd 0 B∧((c=false∧A=.nilptr) ∨ (c=true∧∃ p,newM repos inst=.inl p∧reqErr r p.inst=0∧A=(AskM.mk p r).v∧B=p.v)):=by
 unfold of15M
 cases hn : newM repos inst with
 | inr e => exact ⟨_,_,_,rfl,.nilptr,.nilptr,.inl ⟨rfl,rfl⟩⟩
 | inl p =>
  by_cases he : reqErr r p.inst=0
  ·simp only [he,if_true]
   exact ⟨_,_,_,rfl,bnd_ask _,bnd_pool p,.inr ⟨rfl,p,rfl,he,rfl,rfl⟩⟩
  ·simp only [he,if_false]
   exact ⟨_,_,_,rfl,.nilptr,bnd_pool p,.inl ⟨rfl,rfl⟩⟩
theorem askEdits_pc (repos : List Repo) (inst : List Package) (r : Req) (x : Edit) (hI : InOK repos inst) (hR : ReqOK r) : PC Tryz.prog EE 6 [reposV repos,pkgsV inst,.agg r.cs,.agg x.cs] (.bool true):=by
 refine PC_e hE fok6 (Nat.le_of_ble_eq_true rfl) (mems4 (bnd_repos repos) (bnd_pkgs inst) (.agg _ (bnd_req r)) (bnd_editA x)) ?_
 have hlarge:=large15_pc repos inst r (by have:=hI.r1; omega) (by have:=hI.i1; omega) hI.ro hI.po
 have hof:=of15_pc repos inst r hI hR
 have i1:=hI.i1
 have vnl : ∀ (p : Pool) (r : Req) (d : TypeId),nilI (.pointer d) (AskM.mk p r).v=some false:=fun _ _ _ => rfl
 have nnl : ∀ (d : TypeId),nilI (.pointer d) .nilptr=some true:=fun _ => rfl
 cases hlg : (decide (2000≤lgN 2000 repos (szL inst 2000 0)) || decide (100 < r.jobs.length) || decide (100 < r.edits.length)) with
 | true =>
  rw [hlg] at hlarge
  simp only [ic6,go_sem,req_leaf,edit_leaf]
  first | refine call_pc fok33 (works15_pc) ?_ | refine callP_of (works15_pc) ?_
  simp only [go_sem,req_len,req_take]
  first | refine call_pc fok34 (hlarge) ?_ | refine callP_of (hlarge) ?_
  simp only [go_sem]
  first | refine call_pc fok33 (works15_pc) ?_ | refine callP_of (works15_pc) ?_
  simp only [go_sem]
  exact frz_bool _
 | false =>
 rw [hlg] at hlarge
 have hel : r.edits.length≤100:=by
  simp only [Bool.or_eq_false_iff,decide_eq_false_iff_not] at hlg
  omega
 have hRs : ReqOK { r with edits:=r.edits ++ [x] }:=⟨hR.jobs,by show (r.edits ++ [x]).length < _; rw [List.length_append,List.length_singleton]; omega,hR.jdep⟩
 have hof2:=of15_pc repos inst { r with edits:=r.edits ++ [x] } hI hRs
 have hrc : r.cs=[.int .u8 r.arch,.bool r.vendor,jobsV r.jobs,editsV r.edits,.int .i64 r.budget]:=rfl
 have k3 : (r.cs.drop 3).head? = some (editsV r.edits):=rfl
 have hbr:=bnd_repos repos
 have hbi:=bnd_pkgs inst
 obtain ⟨A,B,c,hM,hbA,hbB,hcs⟩:=of15_cases repos inst r
 obtain ⟨A2,B2,c2,hM2,hbA2,hbB2,hcs2⟩:=of15_cases repos inst { r with edits:=r.edits ++ [x] }
 rw [hM] at hof
 rw [hM2] at hof2
 simp only [ic6,go_sem,req_leaf,edit_leaf]
 first | refine call_pc fok33 (works15_pc) ?_ | refine callP_of (works15_pc) ?_
 simp only [go_sem,req_len,req_take]
 first | refine call_pc fok34 (hlarge) ?_ | refine callP_of (hlarge) ?_
 simp only [go_sem,req_len,req_take]
 first | refine call_pc fok35 (hof) ?_ | refine callP_of (hof) ?_
 simp only [go_sem,req_len,req_take,req_leaf,edit_len,edit_take,edit_leaf,k3]
 obtain ⟨v1,σ1,a1,n1,g1,o1⟩:=app_edits (σ:=(⟨10,(((⟨1,emp.obj⟩ : Store).put 0 (.cells [.int .u8 0,.bool false,.nilslice,.nilslice,.int .i64 0])).put 0 (.cells r.cs)).obj⟩ : Store).put 1 (.row [])) (did:=1) (nid:=4) r.edits (by simp only [put_obj,if_true]) (by show 1 < 10; omega) (by show 4 < 10; omega) (by omega)
 have n1' : σ1.next=10:=n1
 have o10 : σ1.obj 0=some (.cells r.cs):=(o1 0 (by decide) (by decide)).trans (by simp only [put_obj,reduceCtorEq,Int.reduceLT,Int.reduceLE,Int.reduceToNat,Int.reduceAdd,Nat.reduceEqDiff,Nat.reduceAdd,Nat.reduceMul,Nat.reduceLT,Nat.reduceLeDiff,decide_true,decide_false,↓reduceIte,if_true,if_false])
 have a2:=app_grow (nid:=7) (e:=x.cs) g1 (edit_all _) ⟨rfl,rfl⟩ (by rw [List.length_map]; omega)
 have k2:=killv_obj g1 0 _ o10 (fun _ e => by cases e)
 rw [List.length_map] at a2
 rw [hrc] at k2
 simp only [go_sem,a1,a2,edit_len,edit_take,edit_leaf,k2]
 have hsc : ({ r with edits:=r.edits ++ [x] } : Req).cs=[.int .u8 r.arch,.bool r.vendor,jobsV r.jobs,editsV (r.edits ++ [x]),.int .i64 r.budget]:=rfl
 rw [hsc] at hof2
 have hkl : ∀ (S : Nat→Bool) (σ : Store) (o : IV→Store→Prop),(Frz σ (fun i => S i=true) (.slice 7 0 (r.edits.length+1) 2) (editsV (r.edits ++ [x])))→C Tryz.prog EE 35 [reposV repos,pkgsV inst,.agg [.int .u8 r.arch,.bool r.vendor,jobsV r.jobs,.slice 7 0 (r.edits.length+1) 2,.int .i64 r.budget]] σ (oneQ (.tuple [A2,B2,.bool c2]) (σ.kills S)):=fun S σ _ hfz => by
  have hw : ∀ {v : IV},Bnd 0 v→Frz σ (fun i => S i=true) v v:=fun h => .keep _ (h.weak fun i hi => absurd hi (Nat.not_lt_zero i))
  refine C_kill (S:=S) (args':=[reposV repos,pkgsV inst,.agg [.int .u8 r.arch,.bool r.vendor,jobsV r.jobs,editsV (r.edits ++ [x]),.int .i64 r.budget]]) rfl (fun i hi => ?_) (PC_C hof2)
  match i,hi with
  | 0,_ => exact hw hbr
  | 1,_ => exact hw hbi
  | 2,_ => exact .agg2 (.cons (hw (.int _ _)) (.cons (hw (.bool _)) (.cons (hw (bnd_jobs _)) (.cons hfz (.cons (hw (.int _ _)) .nil)))))
 refine call_c fok35 (hkl (fun _ => false) _ (fun _ _ => True) ?_) ?_
 ·have he : ((r.edits.map Edit.cs ++ [x.cs]).flatten).length=(r.edits.length+1) * 2:=by
   rw [flat_len (esz:=2) (fun e he => by
    rcases List.mem_append.1 he with h | h
    ·exact (edit_all _ e h).1
    ·rw [List.mem_singleton.1 h]; rfl)]
   simp
  have e2 : (r.edits ++ [x]).map Edit.cs=r.edits.map Edit.cs ++ [x.cs]:=by simp
  have hg : Grow ⟨(killv v1 σ1).next,(((killv v1 σ1).put 7 (.row (r.edits.map Edit.cs ++ [x.cs]).flatten)).put 0 (.cells [.int .u8 r.arch,.bool r.vendor,jobsV r.jobs,.slice 7 0 (r.edits.length+1) 2,.int .i64 r.budget])).obj⟩ (.slice 7 0 (r.edits.length+1) 2) 2 ((r.edits ++ [x]).map Edit.cs):=.inr ⟨7,by simp,by
   rw [e2]; rfl,by show 7 < (killv v1 σ1).next; rw [killv_next,n1']; omega⟩
  refine hg.frz (fun e he => (edit_all _ e he).1) (fun _ _ => Bool.false_ne_true) fun e he c hc => ?_
  obtain ⟨y,_,rfl⟩:=List.mem_map.1 he
  exact (bnd_edit y c hc).weak fun i hi => absurd hi (Nat.not_lt_zero i)
 rintro v s ⟨rfl,rfl⟩
 refine ⟨Nat.le_refl _,?_⟩
 rcases hcs with ⟨rfl,rfl⟩ | ⟨rfl,p,hn,he,rfl,rfl⟩
 ·simp only [go_sem,nnl]
  exact frz_bool _
 rcases hcs2 with ⟨rfl,rfl⟩ | ⟨rfl,p2,hn2,he2,rfl,rfl⟩
 ·simp only [go_sem,nnl,vnl]
  exact frz_bool _
 have hpp : p2=p:=by rw [hn] at hn2; exact (Sum.inl.inj hn2).symm
 subst hpp
 have hA:=aok hI hn hR he
 have hB:=aok hI hn hRs he2
 have hmo : AskM.mk p2 { r with edits:=r.edits ++ [x] }=(AskM.mk p2 r).more x:=rfl
 rw [hmo] at hB ⊢
 have hpi:=newM_inst hn
 have hal : (AskM.mk p2 r).l=pkgsOf p2:=rfl
 have hlen : (pkgsOf p2).length≤256:=hA.len
 have hrl : p2.rows.length=(pkgsOf p2).length:=by simp [pkgsOf]
 have hcnt:=poolCount_pc p2
 rw [hrl] at hcnt
 have hk2 : (r.cs.drop 2).head? = some (jobsV r.jobs):=rfl
 have hjj : ∀ j : Nat,j < r.jobs.length→(AskM.mk p2 r).job (j : Int)=true:=fun j hj => by
  unfold AskM.job
  have h1 : (0 : Int)≤j:=by omega
  have h2 : (j : Int) < r.jobs.length:=by omega
  simp only [h1,h2,decide_true,Bool.and_self]
 have hxm : editMay x r.jobs.length p2.inst=true:=by
  unfold reqErr at he2
  split at he2
  ·cases he2
  split at he2
  ·cases he2
  split at he2
  ·cases he2
  split at he2
  ·cases he2
  rename_i hh
  have h1 : (r.edits ++ [x]).all (fun e => editMay e r.jobs.length p2.inst)=true:=by simpa using hh
  exact List.all_eq_true.1 h1 x (List.mem_append_right _ (List.mem_singleton.2 rfl))
 have hrj:=hA.jobs
 generalize ha : AskM.mk p2 r=a at *
 simp only [go_sem]
 refine loop_up noT (fun j fr t => fr=[(6,.tptr r.cs),(7,.tptr x.cs),(9,a.v),(10,p2.v),(13,(a.more x).v),(16,.int .i64 (j : Int))]) r.jobs.length rfl ?_
 rintro j fr t hj rfl
 by_cases hlt : j < r.jobs.length
 ·have f4 : (j : Int) < r.jobs.length:=by omega
  have f5 : (0 : Int)≤j:=by omega
  have w4:=wrapS (i:=j) (by have:=hR.jobs; omega)
  have d1:=askDropped_pc (a.more x) j hB
  have d2:=askDropped_pc a j hA
  have m1:=askMeant_pc a j hA
  have m2:=askMeant_pc (a.more x) j hB
  rw [a.more_dropped x,hjj j hlt,Bool.true_and] at d1
  rw [a.more_meant x] at m2
  have hml:=meant_len a j
  rw [hal] at hml
  have hnum:=numbers13_pc (a.meant j) (a.meant j) (by omega) (by omega)
  rw [decide_eq_true rfl] at hnum
  have heq:=eqEdit x ⟨1,j⟩
  have hec : (⟨1,(j : Int)⟩ : Edit).cs=[.int .u8 1,.int .i64 j]:=rfl
  rw [hec] at heq
  simp only [go_sem,hk2,f4]
  first | refine call_pc fok36 (d1) ?_ | refine callP_of (d1) ?_
  simp only [go_sem]
  first | refine call_pc fok36 (d2) ?_ | refine callP_of (d2) ?_
  generalize a.meant j=M at *
  cases a.dropped j
  all_goals
   simp only [go_sem,edit_len,edit_take,edit_leaf,heq,eqb_self]
   first | refine call_pc fok38 (m1) ?_ | refine callP_of (m1) ?_
   simp only [go_sem]
   first | refine call_pc fok38 (m2) ?_ | refine callP_of (m2) ?_
   simp only [go_sem]
   first | refine call_pc fok37 (hnum) ?_ | refine callP_of (hnum) ?_
   simp only [go_sem,w4]
   exact hlt
 have hj' : j=r.jobs.length:=by omega
 subst hj'
 have f4 : ¬ (r.jobs.length : Int) < r.jobs.length:=by omega
 have x0 : x.cs.head? = some (.int .u8 x.kind):=rfl
 have x1 : (x.cs.drop 1).head? = some (.int .i64 x.n):=rfl
 simp only [go_sem,hk2,f4,x0]
 by_cases e1 : x.kind=1
 ·simp only [go_sem,e1]
  exact frz_bool _
 simp only [go_sem,e1]
 refine loop_up noT (fun i fr t => fr=[(7,.tptr x.cs),(9,a.v),(10,p2.v),(13,(a.more x).v),(17,.int .i64 (i : Int))]) (pkgsOf p2).length rfl ?_
 rintro i fr t hi rfl
 by_cases hlt : i < (pkgsOf p2).length
 ·have f4 : (i : Int) < ((pkgsOf p2).length : Int):=by omega
  have w4:=wrapS (i:=i) (by omega)
  have s1:=askSuccs_pc a i hA
  have s2:=askSuccs_pc (a.more x) i hB
  have g1:=askGoes_pc a i hA
  have g2:=askGoes_pc (a.more x) i hB
  have l1:=a.succs_len i
  have l2:=(a.more x).succs_len i
  rw [hal] at l1
  have hml : (a.more x).l=pkgsOf p2:=by rw [a.more_l x,hal]
  rw [hml] at l2
  have hw:=within15_pc (a.succs i) ((a.more x).succs i) (by omega) (by omega) (fun y hy => a.more_succs_mono e1 hy) (a.succs_up i)
  have hmo:=fun h => a.more_goes_mono e1 (i:=(i : Int)) h
  have hof1:=fun h => a.more_goes_off e1 (i:=(i : Int)) h
  have hof2:=fun h => a.more_succs_off e1 (i:=(i : Int)) h
  generalize (a.more x).v=V2 at *
  generalize (a.more x).goes i=G2 at *
  generalize a.goes i=G1 at *
  generalize (a.more x).succs i=S2 at *
  generalize a.succs i=S1 at *
  simp only [go_sem]
  first | refine call_pc fok17 (hcnt) ?_ | refine callP_of (hcnt) ?_
  simp only [go_sem,f4]
  first | refine call_pc fok40 (s1) ?_ | refine callP_of (s1) ?_
  simp only [go_sem]
  first | refine call_pc fok40 (s2) ?_ | refine callP_of (s2) ?_
  simp only [go_sem]
  first | refine call_pc fok39 (hw) ?_ | refine callP_of (hw) ?_
  simp only [go_sem]
  first | refine call_pc fok41 (g1) ?_ | refine callP_of (g1) ?_
  by_cases en : (i : Int)=x.n
  ·have w5 : IntKind.i64.wrap (x.n+1)=((i+1 : Nat) : Int):=by rw [← en]; exact w4
   cases G1 with
   | true =>
    have e2:=hmo rfl
    subst e2
    simp only [go_sem]
    first | refine call_pc fok41 (g2) ?_ | refine callP_of (g2) ?_
    simp only [go_sem,x1,en,eq_self,w5]
    exact hlt
   | false =>
    simp only [go_sem,x1,en,eq_self,w5]
    exact hlt
  ·have e2:=hof1 en
   have e3:=hof2 en
   subst e2
   subst e3
   cases G2 with
   | true =>
    simp only [go_sem]
    first | refine call_pc fok41 (g2) ?_ | refine callP_of (g2) ?_
    simp only [go_sem,x1,en]
    first | refine call_pc fok41 (g2) ?_ | refine callP_of (g2) ?_
    simp only [go_sem]
    first | refine call_pc fok41 (g1) ?_ | refine callP_of (g1) ?_
    simp only [go_sem,eqb_self]
    first | refine call_pc fok40 (s2) ?_ | refine callP_of (s2) ?_
    simp only [go_sem]
    first | refine call_pc fok40 (s1) ?_ | refine callP_of (s1) ?_
    simp only [go_sem,eq_self,w4]
    exact hlt
   | false =>
    simp only [go_sem,x1,en]
    first | refine call_pc fok41 (g2) ?_ | refine callP_of (g2) ?_
    simp only [go_sem]
    first | refine call_pc fok41 (g1) ?_ | refine callP_of (g1) ?_
    simp only [go_sem,eqb_self]
    first | refine call_pc fok40 (s2) ?_ | refine callP_of (s2) ?_
    simp only [go_sem]
    first | refine call_pc fok40 (s1) ?_ | refine callP_of (s1) ?_
    simp only [go_sem,eq_self,w4]
    exact hlt
 have hi' : i=(pkgsOf p2).length:=by omega
 subst hi'
 have f4 : ¬ ((pkgsOf p2).length : Int) < ((pkgsOf p2).length : Int):=by omega
 simp only [go_sem]
 first | refine call_pc fok17 (hcnt) ?_ | refine callP_of (hcnt) ?_
 by_cases e2 : x.kind=2
 ·have hin : a.inst x.n=true:=by
   have h1:=hxm
   unfold editMay at h1
   rw [if_neg e1] at h1
   simp only [Bool.and_eq_true,decide_eq_true_eq] at h1
   have h3:=hA.inst
   have h5 : a.p.inst=p2.inst:=by rw [← ha]
   have h4 : x.n < a.l.length:=by omega
   unfold AskM.inst AskM.is
   simp only [Bool.and_eq_true,decide_eq_true_eq]
   exact ⟨⟨h1.1.2,h4⟩,by rw [h5]; exact h1.2⟩
  have g:=askGoes_pc (a.more x) x.n hB
  rw [a.more_goes_new e1 e2 hin] at g
  simp only [go_sem,f4,x0,x1,e2]
  first | refine call_pc fok41 (g) ?_ | refine callP_of (g) ?_
  simp only [go_sem]
  exact frz_bool _
 ·simp only [go_sem,f4,x0,e2]
  exact frz_bool _
end Go.Id.Tryz
