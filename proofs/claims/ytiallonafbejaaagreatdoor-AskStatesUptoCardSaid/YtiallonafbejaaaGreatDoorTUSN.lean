/- AskStates. Conditions: sizes that fit. -/
import Derived.Test.YtiallonafbejaaaGreatDoorTUSM
set_option linter.all false
namespace Go.Id.Tryz
open Go Go.Id Go.Proofs Go.Shelf Go.Id.Md
set_option maxRecDepth 100000
def turnL (l : List Int) : List Int:=l.flatMap fun x => [x,x,-3]
theorem turnL_mem {l : List Int} {n : Int} (h : 0≤n) : n∈turnL l.reverse ↔ n∈l:=by
 unfold turnL
 rw [List.mem_flatMap]
 constructor
 ·rintro ⟨x,hx,hn⟩
  simp only [List.mem_cons,List.not_mem_nil,or_false] at hn
  have e : n=x:=by omega
  rw [e]; exact List.mem_reverse.1 hx
 ·intro h1
  exact ⟨n,List.mem_reverse.2 h1,by simp⟩
theorem turnL_len (l : List Int) : (turnL l).length=3 * l.length:=by
 unfold turnL
 induction l with
 | nil => rfl
 | cons x l ih => simp only [List.flatMap_cons,List.length_append,ih,List.length_cons,List.length_nil]; omega
theorem askStates_pc (repos : List Repo) (inst : List Package) (r : Req) (state more : List Int) (hI : InOK repos inst) (hR : ReqOK r) (hs : state.length < 2 ^ 30) (hm : more.length < 2 ^ 30) :
  PC Tryz.prog EE 8 [reposV repos,pkgsV inst,.agg r.cs,.tslice (state.map Md.intC),.tslice (more.map Md.intC)] (.bool true):=by
 refine PC_e hE fok8 (Nat.le_of_ble_eq_true rfl) (mems5 (bnd_repos repos) (bnd_pkgs inst) (.agg _ (bnd_req r)) (bnd_ints _) (bnd_ints _)) ?_
 have hlarge:=large15_pc repos inst r (by have:=hI.r1; omega) (by have:=hI.i1; omega) hI.ro hI.po
 have hof:=of15_pc repos inst r hI hR
 generalize (decide (2000≤lgN 2000 repos (szL inst 2000 0)) || decide (100 < r.jobs.length) || decide (100 < r.edits.length))=lg at *
 simp only [ic8,go_sem,req_leaf]
 first | refine call_pc fok33 (works15_pc) ?_ | refine callP_of (works15_pc) ?_
 simp only [go_sem,req_len,req_take]
 first | refine call_pc fok34 (hlarge) ?_ | refine callP_of (hlarge) ?_
 cases lg with
 | true =>
  simp only [go_sem]
  first | refine call_pc fok33 (works15_pc) ?_ | refine callP_of (works15_pc) ?_
  simp only [go_sem]
  exact frz_bool _
 | false =>
 by_cases b1 : 50 < state.length
 ·have b1' : (50 : Int) < state.length:=by omega
  simp only [go_sem,b1']
  first | refine call_pc fok33 (works15_pc) ?_ | refine callP_of (works15_pc) ?_
  simp only [go_sem]
  exact frz_bool _
 have b1' : ¬ (50 : Int) < state.length:=by omega
 by_cases b2 : 50 < more.length
 ·have b2' : (50 : Int) < more.length:=by omega
  simp only [go_sem,b1',b2']
  first | refine call_pc fok33 (works15_pc) ?_ | refine callP_of (works15_pc) ?_
  simp only [go_sem]
  exact frz_bool _
 have b2' : ¬ (50 : Int) < more.length:=by omega
 simp only [go_sem,b1',b2',req_len,req_take]
 first | refine call_pc fok35 (hof) ?_ | refine callP_of (hof) ?_
 unfold of15M
 cases hn : newM repos inst with
 | inr e =>
  simp only [go_sem]
  exact frz_bool _
 | inl p =>
 by_cases he : reqErr r p.inst=0
 case neg =>
  simp only [go_sem,he]
  exact frz_bool _
 have hA:=aok hI hn hR he
 have hk2 : (r.cs.drop 2).head? = some (jobsV r.jobs):=rfl
 have hjob : ∀ n : Nat,n < r.jobs.length→(r.jobs.map Job.cs).getD n []=((AskM.mk p r).jb n).cs:=fun n h => by simp [AskM.jb,List.getD_eq_getElem?_getD,h]
 have wl:=wrap64 (x:=(state.length : Int) - 1) (by omega) (by omega)
 simp only [go_sem,he]
 generalize ha : AskM.mk p r=a at *
 obtain ⟨v1,σ1,a1,n1,_,g1⟩:=app_many (s:=(⟨3,emp.obj⟩ : Store).put 0 (.row [])) (lo:=0) (v:=.slice 0 0 0 1) (zs:=[]) (nid:=1) (xs:=state) (.inr ⟨0,Nat.le_refl _,by show 0 < 3; omega,rfl,by simp only [put_obj,if_true]; rfl⟩) (by rw [List.length_nil]; omega)
 have n1' : σ1.next=3:=n1
 have hg1:=g1 σ1 rfl (by rw [n1']; omega) (by rw [n1']; exact Nat.le_refl _) (Nat.zero_le _)
 rw [List.nil_append] at hg1
 obtain ⟨v2,σ2,a2,n2,_,g2⟩:=app_many (nid:=2) (xs:=more) hg1 (by omega)
 have hg2:=g2 σ2 rfl (by rw [n2,n1']; omega) (by rw [n2]; exact Nat.le_refl _) (Nat.zero_le _)
 simp only [go_sem,a1,a2,wl]
 refine loop_up noT (fun k fr t => ∃ gv,fr=[(3,.tslice (state.map Md.intC)),(7,.tptr r.cs),(11,a.v),(14,v2),(15,gv),(16,.int .i64 ((state.length : Int) - 1 - k))]∧Kept σ2 t∧IRowX t σ2.next gv (turnL (state.reverse.take k))) state.length ⟨.nilslice,?_,Kept.refl _,.inl ⟨rfl,rfl⟩⟩ ?_
 ·simp
 rintro k fr t hk ⟨gv,rfl,hkp,hg⟩
 have htl : (turnL (state.reverse.take k)).length≤3 * state.length:=by rw [turnL_len,List.length_take]; simp only [List.length_reverse]; omega
 by_cases hlt : k < state.length
 ·have c1 : (0 : Int)≤(state.length : Int) - 1 - k:=by omega
  have c2 : (state.length : Int) - 1 - k < state.length:=by omega
  have c3 : ((state.length : Int) - 1 - k).toNat=state.length - 1 - k:=by omega
  have hx : (state.map Md.intC).getD (state.length - 1 - k) []=[.int .i64 (state[state.length - 1 - k]'(by omega))]:=by simp [List.getD_eq_getElem?_getD,show state.length - 1 - k < state.length by omega,Md.intC]
  have w1 : IntKind.i64.wrap ((state.length : Int) - 1 - k - 1)=(state.length : Int) - 1 - ((k+1 : Nat) : Int):=by rw [wrap64 (by omega) (by omega)]; omega
  have hrv : turnL (state.reverse.take (k+1))=turnL (state.reverse.take k) ++ [state[state.length - 1 - k]'(by omega),state[state.length - 1 - k]'(by omega),-3]:=by
   have h1 : k < state.reverse.length:=by rw [List.length_reverse]; exact hlt
   unfold turnL
   rw [List.take_add_one,List.getElem?_eq_getElem h1,List.flatMap_append,List.getElem_reverse]
   rfl
  generalize state[state.length - 1 - k]'(by omega)=x at *
  obtain ⟨v3,σ3,a3,n3,o3,g3⟩:=app_many (nid:=t.next+1+1+1+1+1+1+1+1+1+1) (xs:=[x,x,-3]) (hg.up 12) (by simp only [List.length_cons,List.length_nil]; omega)
  have a3' : appI ⟨t.next+12,t.obj⟩ (t.next+1+1+1+1+1+1+1+1+1+1) 1 gv (.tslice [[.int .i64 x],[.int .i64 x],[.int .i64 (-3)]])=some (v3,σ3):=a3
  have n3' : σ3.next=t.next+12:=n3
  have hkn:=hkp.next
  simp only [go_sem,c1,c2,c3,hx,a3',w1]
  refine ⟨hlt,v3,rfl,⟨by omega,fun i hi => ?_⟩,?_⟩
  ·rw [o3 i hi (by omega)]; exact hkp.obj i hi
  ·rw [hrv]; exact g3 σ3 rfl (by omega) (by show t.next+12≤_; omega) (by omega)
 have hk' : k=state.length:=by omega
 subst hk'
 have c1 : ¬ (0 : Int)≤(state.length : Int) - 1 - (state.length : Int):=by omega
 rw [List.take_of_length_le (by rw [List.length_reverse]; exact Nat.le_refl _)] at hg htl
 simp only [go_sem,c1]
 have hzT : (turnL state.reverse).length < 2 ^ 40:=by omega
 have hzB : (state ++ more).length < 2 ^ 40:=by rw [List.length_append]; omega
 have hrj : r.jobs.length≤64:=by have:=hA.jobs; rw [← ha] at this; exact this
 have hB:=hg2.kept hkp
 refine loop_up noT (fun j fr u => fr=[(3,.tslice (state.map Md.intC)),(7,.tptr r.cs),(11,a.v),(14,v2),(15,gv),(17,.int .i64 (j : Int))]∧IRowX u 0 v2 (state ++ more)∧IRowX u 0 gv (turnL state.reverse)) r.jobs.length ⟨rfl,hB,hg.low (Nat.zero_le _)⟩ ?_
 rintro j fr u hj ⟨rfl,hB2,hT2⟩
 by_cases hlt4 : j < r.jobs.length
 ·have f4 : (j : Int) < r.jobs.length:=by omega
  have f5 : (0 : Int)≤j:=by omega
  have w4:=wrapS (i:=j) (by omega)
  have hgj:=hjob j hlt4
  have k0 : (a.jb j).cs.head? = some (.int .u8 (a.jb j).kind):=rfl
  have hF1:=askFulfils_pc a j state hA (by omega)
  have hF2 : ∀ s,IRowX s 0 v2 (state ++ more)→C Tryz.prog EE 46 [a.v,.int .i64 j,v2] s (oneQ (.bool (a.fulfils j (state ++ more))) s):=fun s h => fulfilsOwn_c a j hA hzB h.w
  have hF3 : ∀ s,IRowX s 0 gv (turnL state.reverse)→C Tryz.prog EE 46 [a.v,.int .i64 j,gv] s (oneQ (.bool (a.fulfils j state)) s):=fun s h => by
   have h1:=fulfilsOwn_c a j hA hzT h.w
   rw [a.fulfils_same (s:=turnL state.reverse) (t:=state) fun n hn => turnL_mem hn] at h1
   exact h1
  simp only [go_sem,hk2,f4]
  first | refine call_pc fok46 (hF1) ?_ | refine callP_of (hF1) ?_
  simp only [go_sem]
  refine call_c fok46 (hF2 u hB2) ?_
  rintro v s ⟨rfl,rfl⟩
  refine ⟨Nat.le_refl _,?_⟩
  have hsub : ∀ n∈state,n∈state ++ more:=fun n hn => List.mem_append_left _ hn
  by_cases e2 : (a.jb j).kind=2
  case' pos => have himp : a.fulfils j (state ++ more)=true→a.fulfils j state=true:=a.fulfils_anti hsub e2
  case' neg => have himp : a.fulfils j state=true→a.fulfils j (state ++ more)=true:=a.fulfils_mono hsub e2
  all_goals
   generalize a.fulfils j (state ++ more)=B2 at *
   generalize a.fulfils j state=B1 at *
   simp only [go_sem,hk2,f4,f5,hgj,job_len,k0,e2]
   cases B1 <;> cases B2
  all_goals first | (exact absurd (himp rfl) (by decide)) | skip
  all_goals
   simp only [go_sem]
   refine call_c fok46 (hF3 s hT2) ?_
   rintro v s ⟨rfl,rfl⟩
   refine ⟨Nat.le_refl _,?_⟩
   simp only [go_sem]
   first | refine call_pc fok46 (hF1) ?_ | refine callP_of (hF1) ?_
   simp only [go_sem,eqb_self,w4]
   exact ⟨hlt4,hB2,hT2⟩
 ·have hj' : j=r.jobs.length:=by omega
  subst hj'
  have f4 : ¬ (r.jobs.length : Int) < r.jobs.length:=by omega
  simp only [go_sem,hk2,f4]
  exact frz_bool _
end Go.Id.Tryz
