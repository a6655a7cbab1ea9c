/- AskItself. Conditions: sizes that fit. -/
import Derived.Test.YtiallonafbejaaaGreatDoorTUSJ
set_option linter.all false
namespace Go.Id.Tryz
open Go Go.Id Go.Proofs Go.Shelf Go.Id.Md
set_option maxRecDepth 100000
theorem eqb_self (b : Bool) : eqvI [0] false true (.bool b) (.bool b)=some (.bool false):=by cases b <;> rfl
theorem fulfilsOwn_c (a : AskM) (j : Int) {zs : List Int} {σ : Store} {v : IV} {lo : Nat} (hA : AOK a) (hz : zs.length < 2 ^ 40) (hg : IRow σ lo v zs) : C Tryz.prog EE 46 [a.v,.int .i64 j,v] σ (oneQ (.bool (a.fulfils j zs)) σ) :=
 C_still (args':=[a.v,.int .i64 j,.tslice (zs.map Md.intC)]) hE rfl (fun i hi => by
  match i,hi with
  | 0,_ => exact .keep _ (bnd_ask a)
  | 1,_ => exact .keep _ (.int _ _)
  | 2,_ => exact hg.frz fun i _ => Nat.not_lt_zero i) (by simp [IV.plain]) (askFulfils_pc a j zs hA hz)
theorem askItself_pc (repos : List Repo) (inst : List Package) (r : Req) (hI : InOK repos inst) (hR : ReqOK r) : PC Tryz.prog EE 7 [reposV repos,pkgsV inst,.agg r.cs] (.bool true):=by
 refine PC_e hE fok7 (Nat.le_of_ble_eq_true rfl) (mems3 (bnd_repos repos) (bnd_pkgs inst) (.agg _ (bnd_req r))) ?_
 have hlarge:=large15_pc repos inst r (by have:=hI.r1; omega) (by have:=hI.i1; omega) hI.ro hI.po
 have hof:=of15_pc repos inst r hI hR
 have i1:=hI.i1
 generalize (decide (2000≤lgN 2000 repos (szL inst 2000 0)) || decide (100 < r.jobs.length) || decide (100 < r.edits.length))=lg at *
 simp only [ic7,go_sem,req_leaf]
 first | refine call_pc fok33 (works15_pc) ?_ | refine callP_of (works15_pc) ?_
 simp only [go_sem,req_len,req_take]
 first | refine call_pc fok34 (hlarge) ?_ | refine callP_of (hlarge) ?_
 cases lg with
 | true =>
  simp only [go_sem]
  first | refine call_pc fok33 (works15_pc) ?_ | refine callP_of (works15_pc) ?_
  simp only [go_sem]
  exact frz_bool _
 | false =>
 simp only [go_sem,req_len,req_take]
 first | refine call_pc fok35 (hof) ?_ | refine callP_of (hof) ?_
 unfold of15M
 cases hn : newM repos inst with
 | inr e =>
  simp only [go_sem]
  exact frz_bool _
 | inl p =>
 by_cases he : reqErr r p.inst=0
 case neg =>
  simp only [go_sem,he]
  exact frz_bool _
 have hA:=aok hI hn hR he
 have hpi:=newM_inst hn
 have hrl : p.rows.length=(pkgsOf p).length:=by simp [pkgsOf]
 have hcnt:=poolCount_pc p
 rw [hrl] at hcnt
 have hal : (AskM.mk p r).l=pkgsOf p:=rfl
 have hlen : (pkgsOf p).length≤256:=hA.len
 have hrj : (AskM.mk p r).r.jobs=r.jobs:=rfl
 have hinst : ∀ n : Nat,n < (pkgsOf p).length→(AskM.mk p r).inst n=decide ((n : Int) < inst.length):=fun n h => by
  rw [AskM.inst_nat _ h]
  show decide ((n : Int) < p.inst)=_
  rw [hpi]
 have hil : (inst.length : Int)≤(pkgsOf p).length:=by have:=hA.inst; rw [← hpi]; exact this
 have hk2 : (r.cs.drop 2).head? = some (jobsV r.jobs):=rfl
 have hjob : ∀ n : Nat,n < r.jobs.length→(r.jobs.map Job.cs).getD n []=((AskM.mk p r).jb n).cs:=fun n h => by simp [AskM.jb,List.getD_eq_getElem?_getD,h]
 simp only [go_sem,he]
 generalize ha : AskM.mk p r=a at *
 refine loop_up noT (fun i fr s => ∃ gv,fr=[(1,pkgsV inst),(5,.tptr r.cs),(7,a.v),(8,p.v),(10,gv),(11,.int .i64 (i : Int))]∧IRowX s 0 gv (numsN (fun n => decide ((n : Int) < inst.length)) i)) (pkgsOf p).length ⟨.nilslice,rfl,.inl ⟨rfl,rfl⟩⟩ ?_
 rintro i fr s hi ⟨gv,rfl,hg⟩
 have hzl:=numsN_len (fun n => decide ((n : Int) < inst.length)) i
 by_cases hlt : i < (pkgsOf p).length
 ·have d1 : (i : Int) < ((pkgsOf p).length : Int):=by omega
  have w1:=wrapS (i:=i) (by omega)
  have hS:=askSuccs_pc a i hA
  have hN:=askNewc_pc a i hA
  have sl:=a.succs_len i
  have nl:=a.newc_len i
  rw [hal] at sl nl
  have hin:=has15_pc (a.succs i) i (by omega)
  have hii : decide ((i : Int)∈a.succs i)=decide ((i : Int) < inst.length):=by
   rw [← hinst i hlt]
   exact Bool.eq_iff_iff.2 ((decide_eq_true_iff).trans (a.succs_self i))
  rw [hii] at hin
  have hw1:=within15_pc (a.newc i) (a.succs i) (by omega) (by omega) (fun x hx => (a.newc_sub hx).1) (a.newc_up i)
  have hw2:=within15_pc (a.succs i) (a.succs i) (by omega) (by omega) (fun x hx => hx) (a.succs_up i)
  have hse : ¬ (i : Int) < inst.length→a.succs i=[]:=fun h => by
   unfold AskM.succs
   rw [hinst i hlt,decide_eq_false h]; rfl
  have hsnoc:=numsN_snoc (fun n => decide ((n : Int) < inst.length)) i
  have hnm : ∀ n∈a.newc i,∃ m : Nat,n=m∧m < (pkgsOf p).length∧¬ (m : Int) < inst.length∧a.fits m=true:=fun n hn => by
   obtain ⟨h1,h2,h3⟩:=a.newc_sub hn
   obtain ⟨_,m,rfl,hm⟩:=a.succs_at h1
   rw [hal] at hm
   rw [hinst m hm] at h2
   exact ⟨m,rfl,hm,of_decide_eq_false h2,h3⟩
  simp only [go_sem]
  first | refine call_pc fok17 (hcnt) ?_ | refine callP_of (hcnt) ?_
  simp only [go_sem,d1]
  first | refine call_pc fok40 (hS) ?_ | refine callP_of (hS) ?_
  simp only [go_sem]
  first | refine call_pc fok42 (hN) ?_ | refine callP_of (hN) ?_
  simp only [go_sem]
  first | refine call_pc fok43 (hin) ?_ | refine callP_of (hin) ?_
  simp only [go_sem,eqb_self]
  first | refine call_pc fok39 (hw1) ?_ | refine callP_of (hw1) ?_
  simp only [go_sem]
  first | refine call_pc fok39 (hw2) ?_ | refine callP_of (hw2) ?_
  by_cases e1 : (i : Int) < inst.length
  case' pos =>
   have e1' : ¬ (inst.length : Int)≤i:=by omega
   simp only [go_sem,e1']
  case' neg =>
   have e1' : (inst.length : Int)≤i:=by omega
   have e2:=hse e1
   rw [e2]
   simp only [go_sem,e1']
  all_goals
   generalize a.newc i=M at *
   generalize a.succs i=Su at *
   refine loop_up noT (fun k fr t => fr=[(1,pkgsV inst),(5,.tptr r.cs),(7,a.v),(8,p.v),(10,gv),(11,.int .i64 (i : Int)),(13,.tslice (M.map Md.intC)),(14,.int .i64 (k : Int))]∧IRowX t 0 gv (numsN (fun n => decide ((n : Int) < inst.length)) i)) M.length ⟨rfl,hg⟩ ?_
   rintro k fr t hk ⟨rfl,hg2⟩
   by_cases hlt2 : k < M.length
   ·obtain ⟨x,hx,hxk,hdr2,hget2,htk2⟩:=at_nth M k hlt2
    obtain ⟨m,rfl,hm,hmi,hmf⟩:=hnm x hx
    have f1 : (k : Int) < M.length:=by omega
    have f2 : (0 : Int)≤(k : Int):=by omega
    have w2:=wrapS (i:=k) (by omega)
    have hF:=askFits_pc a m
    rw [hmf] at hF
    simp only [go_sem,f1,f2,hget2,Md.intC,hmi]
    first | refine call_pc fok44 (hF) ?_ | refine callP_of (hF) ?_
    simp only [go_sem,w2]
    exact ⟨hlt2,hg2⟩
   have hk' : k=M.length:=by omega
   subst hk'
   have f1 : ¬ (M.length : Int) < M.length:=by omega
   simp only [go_sem,f1]
   refine loop_up noT (fun k fr u => fr=[(1,pkgsV inst),(5,.tptr r.cs),(7,a.v),(8,p.v),(10,gv),(11,.int .i64 (i : Int)),(15,.int .i64 (k : Int))]∧IRowX u 0 gv (numsN (fun n => decide ((n : Int) < inst.length)) i)) (pkgsOf p).length ⟨rfl,hg2⟩ ?_
   rintro k fr u hk2 ⟨rfl,hg3⟩
   by_cases hlt3 : k < (pkgsOf p).length
   ·have f3 : (k : Int) < ((pkgsOf p).length : Int):=by omega
    have w3:=wrapS (i:=k) (by omega)
    have t1:=askTwins_pc a i k hA
    have t2:=askTwins_pc a k i hA
    rw [a.twins_comm k i] at t2
    simp only [go_sem]
    first | refine call_pc fok17 (hcnt) ?_ | refine callP_of (hcnt) ?_
    simp only [go_sem,f3]
    first | refine call_pc fok45 (t1) ?_ | refine callP_of (t1) ?_
    simp only [go_sem]
    first | refine call_pc fok45 (t2) ?_ | refine callP_of (t2) ?_
    by_cases e5 : (i : Int)=k
    ·rw [← e5,a.twins_self] at t1
     rw [← e5,a.twins_self]
     have e6 : i=k:=by omega
     subst e6
     simp only [go_sem,eqb_self,eq_self]
     first | refine call_pc fok45 (t1) ?_ | refine callP_of (t1) ?_
     simp only [go_sem,w3]
     exact ⟨hlt3,hg3⟩
    ·simp only [go_sem,eqb_self,e5,w3]
     exact ⟨hlt3,hg3⟩
   have hk3 : k=(pkgsOf p).length:=by omega
   subst hk3
   have f3 : ¬ ((pkgsOf p).length : Int) < ((pkgsOf p).length : Int):=by omega
   simp only [go_sem]
   first | refine call_pc fok17 (hcnt) ?_ | refine callP_of (hcnt) ?_
   simp only [go_sem,f3,e1,w1]
  ·rw [decide_eq_false e1,if_neg (by simp),List.append_nil] at hsnoc
   exact ⟨hlt,gv,rfl,by rw [hsnoc]; exact hg3⟩
  ·rw [decide_eq_true e1,if_pos rfl] at hsnoc
   rw [app_one (s:=⟨u.next+1,_⟩) (lo:=0) (zs:=numsN (fun n => decide ((n : Int) < inst.length)) i) (hg3.up 1) (i : Int) (by omega)]
   simp only [go_sem,w1]
   have hz:=app_kept (σ:=⟨0,fun _ => none⟩) (zs:=numsN (fun n => decide ((n : Int) < inst.length)) i) (v:=gv) (s:=u) ⟨Nat.zero_le _,fun i hi => absurd hi (Nat.not_lt_zero _)⟩ hg3 (i : Int) (a:=1) (nid:=u.next) (Nat.le_refl _) (Nat.lt_succ_self _) rfl
   rw [hsnoc]
   exact ⟨hlt,_,rfl,hz.2⟩
 have hi' : i=(pkgsOf p).length:=by omega
 subst hi'
 have d1 : ¬ ((pkgsOf p).length : Int) < ((pkgsOf p).length : Int):=by omega
 simp only [go_sem]
 first | refine call_pc fok17 (hcnt) ?_ | refine callP_of (hcnt) ?_
 simp only [go_sem,d1]
 have hnow : ∀ n,a.inst n=true→n∈numsN (fun n => decide ((n : Int) < inst.length)) (pkgsOf p).length:=fun n hn => by
  obtain ⟨h1,h2⟩:=a.inst_nonneg hn
  rw [hal] at h2
  have e : ((n.toNat : Nat) : Int)=n:=by omega
  have h3:=hinst n.toNat (by omega)
  rw [e,hn] at h3
  exact numsN_mem.2 ⟨n.toNat,e.symm,by omega,by rw [e]; exact h3.symm⟩
 have hz2 : (numsN (fun n => decide ((n : Int) < inst.length)) (pkgsOf p).length).length < 2 ^ 40:=by omega
 generalize numsN (fun n => decide ((n : Int) < inst.length)) (pkgsOf p).length=zs at *
 refine loop_up noT (fun j fr t => fr=[(5,.tptr r.cs),(7,a.v),(10,gv),(16,.int .i64 (j : Int))]∧IRowX t 0 gv zs) r.jobs.length ⟨rfl,hg⟩ ?_
 rintro j fr t hj ⟨rfl,hg4⟩
 by_cases hlt4 : j < r.jobs.length
 ·have f4 : (j : Int) < r.jobs.length:=by omega
  have f5 : (0 : Int)≤j:=by omega
  have w4:=wrapS (i:=j) (by have:=hR.jobs; omega)
  have hgj:=hjob j hlt4
  have k0 : (a.jb j).cs.head? = some (.int .u8 (a.jb j).kind):=rfl
  by_cases e3 : (a.jb j).kind=3
  ·have hF : C Tryz.prog EE 46 [a.v,.int .i64 j,gv] t (oneQ (.bool (a.fulfils j zs)) t):=fulfilsOwn_c a j hA hz2 hg4.w
   rw [a.fulfils_now hnow e3] at hF
   simp only [go_sem,hk2,f4,f5,hgj,job_len,k0,e3]
   refine call_c fok46 hF ?_
   rintro v s ⟨rfl,rfl⟩
   refine ⟨Nat.le_refl _,?_⟩
   simp only [go_sem,w4]
   exact ⟨hlt4,hg4⟩
  ·by_cases e2 : (a.jb j).kind=2
   ·have hF:=askFulfils_pc a j [] hA (by decide)
    rw [a.fulfils_none e2] at hF
    have hF2 : PC Tryz.prog EE 46 [a.v,.int .i64 j,.nilslice] (.bool true):=PC_weak (args':=[a.v,.int .i64 j,.tslice []]) rfl (fun σ i hi => by
     have hw : ∀ {v : IV} {σ : Store},Bnd 0 v→Frz σ (fun _ => true=true) v v:=fun h => .keep _ (h.weak fun _ _ => rfl)
     match i,hi with
     | 0,_ => exact hw (bnd_ask a)
     | 1,_ => exact hw (.int _ _)
     | 2,_ => exact .nils) hF
    have q23 : ¬ (2 : Int)=3:=by decide
    simp only [go_sem,hk2,f4,f5,hgj,job_len,k0,e2,q23]
    first | refine call_pc fok46 (hF2) ?_ | refine callP_of (hF2) ?_
    simp only [go_sem,w4]
    exact ⟨hlt4,hg4⟩
   ·simp only [go_sem,hk2,f4,f5,hgj,job_len,k0,e2,e3,w4]
    exact ⟨hlt4,hg4⟩
 ·have hj' : j=r.jobs.length:=by omega
  subst hj'
  have f4 : ¬ (r.jobs.length : Int) < r.jobs.length:=by omega
  simp only [go_sem,hk2,f4]
  exact frz_bool _
end Go.Id.Tryz
