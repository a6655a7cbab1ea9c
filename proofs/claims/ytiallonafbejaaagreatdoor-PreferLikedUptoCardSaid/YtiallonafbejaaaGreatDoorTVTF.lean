/- Numbers struck from a row; who may follow; who obsoletes,as a row of one's own. Conditions: sizes that fit. -/
import Derived.Test.YtiallonafbejaaaGreatDoorTVTE
set_option linter.all false
namespace Go.Id.Tryz
open Go Go.Id Go.Proofs Go.Shelf Go.Id.Md
set_option maxRecDepth 100000
theorem dv8 {α:Type}(q:α→Bool):∀ (l:List α) (i:Int),af2 q l i=-1∧(∀ x∈l,q x=false)∨∃ k,∃ h:k<l.length,af2 q l i=i+k∧q l[k]=true∧∀ x∈l.take k,q x=false:=by
 intro l
 induction l with
 | nil=>intro i; exact .inl ⟨rfl,fun x h=>by cases h⟩
 | cons a l ih=>
  intro i
  simp only[af2]
  cases hq:q a with
  | true=>exact .inr ⟨0,by simp,by simp,by simpa using hq,fun x h=>by cases h⟩
  | false=>
   simp only[Bool.false_eq_true,if_false]
   rcases ih (i+1) with ⟨h1,h2⟩|⟨k,h,h1,h2,h3⟩
   ·exact .inl ⟨h1,fun x hx=>by
     rcases List.mem_cons.1 hx with rfl|hx
     ·exact hq
     ·exact h2 x hx⟩
   ·refine .inr ⟨k+1,by simp only[List.length_cons]; omega,by rw[h1]; omega,by simpa using h2,fun x hx=>?_⟩
    rw[List.take_succ_cons] at hx
    rcases List.mem_cons.1 hx with rfl|hx
    ·exact hq
    ·exact h3 x hx
theorem ck3 {q:Int→Bool}{l:List Int}(h:∀ x∈l,q x=false):(l.filter fun x=>!q x)=l:=List.filter_eq_self.2 fun x hx=>by rw[h x hx]; rfl
theorem ee3 {σ:Store}{id:Nat}{cs:List IV}{zs:List Int}(ho:σ.obj id=some (.row cs))(hct:cs.take zs.length=zs.map ck6)(hcl:zs.length≤cs.length):ch1 σ 0 (.slice id 0 zs.length 1) (.tslice (zs.map Md.intC)):=by
 refine .slice id 0 zs.length 1 cs (zs.map Md.intC) (Nat.not_lt_zero _) (.inr ho) (by rw[List.length_map]) (by omega) (fun i hi=>?_) fun i hi j hj=>?_
 ·simp[List.getD_eq_getElem?_getD,hi,Md.intC]
 ·have hj0:j=0:=by omega
  subst hj0
  have e2:((zs.map Md.intC).getD i []).getD 0 .undef=ck6 zs[i]:=by simp[List.getD_eq_getElem?_getD,hi,Md.intC]
  rw[e2,Nat.zero_add,Nat.mul_one,Nat.add_zero,dr2 hct hi]
  exact .keep _ (.int _ _)
theorem fo1 {σ:Store}{id g:Nat}{cap cs0:List IV}{zs:List Int}(q:Int→Bool)(hz:zs.length<2^40)(ho:σ.obj id=some (.row cs0))(hct:cs0.take zs.length=zs.map ck6)(hcl:zs.length≤cs0.length)
  (hok:okF Tryz.prog g=true) (hcap:∀ c∈cap,Bnd 0 c) (hq:∀ z∈zs,PC Tryz.prog EE g (.int .i64 z::cap) (.bool (q z))) :
  C Tryz.prog EE 101 [.slice id 0 zs.length 1,.func (.func g) [] cap] σ (fun v s=>σ.next≤s.next∧(∀ i,i≠id→s.obj i=σ.obj i) ∧
   ∃ cs,v=.slice id 0 (zs.filter fun x=>!q x).length 1∧s.obj id=some (.row cs)∧cs.take (zs.filter fun x=>!q x).length=(zs.filter fun x=>!q x).map ck6∧(zs.filter fun x=>!q x).length≤cs.length):=by
 refine C_f fok101 (Nat.le_of_ble_eq_true rfl) ?_
 simp only[ic101,go_sem]
 have hI:=by3 (σ:=σ) (args:=[.slice id 0 zs.length 1,.func (.func g) [] cap]) (args':=[.tslice (zs.map Md.intC),.func (.func g) [] cap]) hE rfl (fun i hi=>by
  match i,hi with
  | 0,_=>exact ee3 ho hct hcl
  | 1,_=>exact .keep _ (.func _ _ _ (fun c hc=>by cases hc) hcap)) (by simp[IV.plain]) (cj9 zs g [] cap q (by omega) hok hq)
 refine af8 fok163 hI ?_
 rintro v s ⟨rfl,rfl⟩
 refine ⟨Nat.le_refl _,?_⟩
 rcases dv8 q zs 0 with ⟨h1,h2⟩|⟨i0,hi0,h1,h2,h3⟩
 ·simp only[go_sem,h1,ck3 h2]
  exact ⟨Nat.le_refl _,fun _ _=>trivial,cs0,ho,hct,hcl⟩
 have h1':af2 q zs 0=(i0:Int):=by rw[h1]; omega
 have d1:¬ (i0:Int)=-1:=by omega
 have w0:=ad5 (i:=i0) (by omega)
 simp only[go_sem,h1',d1,w0]
 refine aa9 noT (fun j fr t=>∃ (k:Nat) (cs:List IV),fr=[(0,.slice id 0 zs.length 1),(1,.func (.func g) [] cap),(5,.int .i64 (k:Int)),(6,.int .i64 ((i0+1+j:Nat):Int))] ∧
  (s.next≤t.next∧∀ q,q≠id→t.obj q=s.obj q)∧t.obj id=some (.row cs)∧cs.length=cs0.length∧k≤i0+j∧i0+1+j≤zs.length∧k=((zs.take (i0+1+j)).filter fun x=>!q x).length∧cs.take k=((zs.take (i0+1+j)).filter fun x=>!q x).map ck6 ∧
  ∀ (x:Nat) (h:x<zs.length),i0+j<x→(cs.drop x).head? = some (.int .i64 zs[x])) (zs.length-(i0+1)) ?_ ?_
 ·have e:((zs.take (i0+1)).filter fun x=>!q x)=zs.take i0:=by
   rw[List.take_add_one,List.getElem?_eq_getElem hi0,List.filter_append,ck3 h3]
   simp[h2]
  refine ⟨i0,cs0,rfl,⟨Nat.le_refl _,fun _ _=>rfl⟩,ho,rfl,by omega,by omega,?_,?_,fun x h _=>?_⟩
  ·rw[Nat.add_zero,e,List.length_take]; omega
  ·rw[Nat.add_zero,e,List.map_take,← hct,List.take_take]
   congr 1; omega
  ·have:=dr2 hct h
   rw[List.head?_drop]
   rw[List.getD_eq_getElem?_getD,List.getElem?_eq_getElem (by omega)] at this
   rw[List.getElem?_eq_getElem (by omega)]
   exact congrArg some this
 rintro j fr t hj ⟨k,cs,rfl,⟨un,uo⟩,hoc,hcl2,hk1,hk2,hk3,hk4,hcs⟩
 by_cases hlt:j<zs.length-(i0+1)
 ·have e1:((i0+1+j:Nat):Int)<zs.length:=by omega
  have e2:(0:Int)≤((i0+1+j:Nat):Int):=by omega
  have hx:i0+1+j<zs.length:=by omega
  have g1:=hcs (i0+1+j) hx (by omega)
  have w1:=ad5 (i:=i0+1+j) (by omega)
  have w2:=ad5 (i:=k) (by omega)
  have hqz:=hq _ (List.getElem_mem hx)
  have e3:(0:Int)≤(k:Int):=by omega
  have e4:(k:Int)<zs.length:=by omega
  have e5:k+1≤cs.length:=by omega
  have htk:(zs.take (i0+1+j+1)).filter (fun x=>!q x)=(zs.take (i0+1+j)).filter (fun x=>!q x)++if q zs[i0+1+j] then [] else [zs[i0+1+j]]:=by
   rw[List.take_add_one,List.getElem?_eq_getElem hx,List.filter_append]
   congr 1
   simp only[Option.toList,List.filter_cons,List.filter_nil]
   cases q zs[i0+1+j]<;>rfl
  simp only[go_sem,e1,e2,hoc,g1,Int.toNat_natCast,Nat.zero_add,Nat.mul_one]
  refine aj2 hok (er3 hqz) ?_
  rintro v u ⟨rfl,rfl⟩
  refine ⟨Nat.le_refl _,?_⟩
  cases hb:q zs[i0+1+j] with
  | true=>
   rw[hb,if_pos rfl,List.append_nil] at htk
   simp only[go_sem,w1]
   exact ⟨hlt,k,cs,rfl,⟨un,uo⟩,hoc,hcl2,by omega,by omega,by rw[show i0+1+(j+1)=i0+1+j+1 by omega,htk]; exact hk3,by rw[show i0+1+(j+1)=i0+1+j+1 by omega,htk]; exact hk4,fun x h hx=>hcs x h (by omega)⟩
  | false=>
   rw[hb,if_neg (by simp)] at htk
   simp only[go_sem,w1,w2,e3,e4,e5,hoc,Int.toNat_natCast,Nat.zero_add,Nat.mul_one]
   refine ⟨hlt,k+1,ag9 cs k [.int .i64 zs[i0+1+j]],rfl,⟨un,fun q hq=>?_⟩,?_,?_,by omega,by omega,?_,?_,fun x h hx=>?_⟩
   ·simp only[if_neg hq]; exact uo q hq
   ·rfl
   ·rw[ac1 (by rw[List.length_singleton]; omega)]; exact hcl2
   ·rw[show i0+1+(j+1)=i0+1+j+1 by omega,htk,List.length_append,← hk3]; rfl
   ·rw[show i0+1+(j+1)=i0+1+j+1 by omega,htk,cw6 (by omega),hk4,List.map_append]; rfl
   ·rw[cw7 (by omega) (by omega)]
    exact hcs x h (by omega)
 ·have hj':i0+1+j=zs.length:=by omega
  have e1:¬ ((i0+1+j:Nat):Int)<zs.length:=by omega
  rw[hj',List.take_length] at hk3 hk4
  have hkn:k<zs.length:=by omega
  simp only[go_sem,e1,fm5 (show k≤zs.length by omega),gj4 (show k≤zs.length by omega),hoc,ho6,fm6 hoc hkn (by omega)]
  have hrl:(rep [IV.int .i64 0] (zs.length-k)).length=zs.length-k:=by rw[am1]; simp
  refine ⟨un,fun q hq=>?_,ag9 cs k (rep [IV.int .i64 0] (zs.length-k)),by rw[hk3],by simp only[aa2,if_true],?_,?_⟩
  ·simp only[aa2,if_neg hq]; exact uo q hq
  ·rw[← hk3,dl7 (by omega)]; exact hk4
  ·rw[ac1 (by rw[hrl]; omega),← hk3]; omega
end Go.Id.Tryz
/- Successors,newcomers,whom a job means. Conditions: sizes that fit. -/
namespace Go.Id.Tryz
open Go Go.Id Go.Proofs Go.Shelf Go.Id.Md
set_option maxRecDepth 100000
end Go.Id.Tryz
/- Newcomers,whom a job means; what fulfils a job. Conditions: sizes that fit. -/
namespace Go.Id.Tryz
open Go Go.Id Go.Proofs Go.Shelf Go.Id.Md
set_option maxRecDepth 100000
end Go.Id.Tryz
/- What is asked for,made. Conditions: sizes that fit. -/
namespace Go.Id.Tryz
open Go Go.Id Go.Proofs Go.Shelf Go.Id.Md
set_option maxRecDepth 100000
structure ReqOK (r:Req):Prop where
 jobs:r.jobs.length<2^20
 edits:r.edits.length<2^20
 jdep:∀ j∈r.jobs,Dep.small j.dep∧j.dep.name.length<2^30
theorem bc9 (r:Req):∀ c∈r.cs,Bnd 0 c:=hh6 (.int _ _) (.bool _) (bq5 _) (bc7 _) (.int _ _)
theorem as6 (r:Req):r.cs.length=5:=rfl
theorem al1 (r:Req):r.cs.all IV.leaf=true:=rfl
theorem ar3 (r:Req):r.cs.take 5=r.cs:=rfl
theorem fo2 (j:Job)(h:Dep.small j.dep∧j.dep.name.length<2^30):PC Tryz.prog EE 156 [.agg j.cs] (.bool (!ca7 j)):=by
 refine ae9 hE fok156 (Nat.le_of_ble_eq_true rfl) (bb8 (gc9 j)) ?_
 have hd:=bc2 j.dep (by omega) (by have:=h.1.2.2.1; omega) (by have:=h.1.2.2.2; omega)
 have k0:j.cs.head? = some (.int .u8 j.kind):=rfl
 have k1:=gd2 j
 have k2:(j.cs.drop 1).length=5:=rfl
 unfold ca7
 by_cases e1:j.kind<1
 ·have e1':¬ 1≤j.kind:=by omega
  simp only[ic156,go_sem,bq4,k0,e1]
  exact ac8 (by simp[e1'])
 have e1':1≤j.kind:=by omega
 by_cases e2:4<j.kind
 ·have e2':¬ j.kind≤4:=by omega
  simp only[ic156,go_sem,bq4,k0,e1,e2]
  exact ac8 (by simp[e2'])
 have e2':j.kind≤4:=by omega
 simp only[ic156,go_sem,bq4,k0,k1,k2,e1,e2]
 first|refine aa1 fok157 (hd) ?_|refine aa3 (hd) ?_
 simp only[go_sem]
 exact ac8 (by simp[e1',e2'])
theorem ev3 (e:Edit)(jobs inst:Int):PC Tryz.prog EE 160 [.agg e.cs,.int .i64 jobs,.int .i64 inst] (.bool (bk6 e jobs inst)):=by
 refine ae9 hE fok160 (Nat.le_of_ble_eq_true rfl) (aw3 (dl9 e) (.int _ _) (.int _ _)) ?_
 have k0:e.cs.head? = some (.int .u8 e.kind):=rfl
 have k1:(e.cs.drop 1).head? = some (.int .i64 e.n):=rfl
 unfold bk6
 by_cases d1:e.kind=1
 case' pos=>
  have f1:(1:Int)≤1:=by decide
  have f2:(1:Int)≤4:=by decide
  rw[d1] at k0 ⊢
  simp only[ic160,go_sem,as5,k0,f1,f2,k1]
  generalize jobs=most
 case' neg=>
  rw[if_neg d1]
  by_cases d2:1≤e.kind
  case' neg=>
   simp only[ic160,go_sem,as5,k0,d1,d2]
   exact ac8 (by simp)
  by_cases d3:e.kind≤4
  case' neg=>
   simp only[ic160,go_sem,as5,k0,d1,d2,d3]
   exact ac8 (by simp)
  simp only[ic160,go_sem,as5,k0,d1,d2,d3,k1]
  generalize inst=most
 all_goals
  by_cases d4:0≤e.n
  ·simp only[go_sem,d4,k1]
   exact ac8 (by simp)
  ·simp only[go_sem,d4]
   exact ac8 (by simp)
theorem gt8 (e:Edit)(p:Pool)(r:Req):PC Tryz.prog EE 159 [.agg e.cs,.tptr r.cs,.tptr [p.v]] (.bool (!bk6 e r.jobs.length p.inst)):=by
 refine ae9 hE fok159 (Nat.le_of_ble_eq_true rfl) (aw3 (dl9 e) (.tptr _ (bc9 r)) (.tptr _ (bb8 (ak9 p)))) ?_
 have h1:=az3 p
 have h2:=ev3 e r.jobs.length p.inst
 have k2:(r.cs.drop 2).head? = some (cc2 r.jobs):=rfl
 simp only[ic159,go_sem,as5,dc7,dl8,k2]
 first|refine aa1 fok66 (h1) ?_|refine aa3 (h1) ?_
 simp only[go_sem]
 first|refine aa1 fok160 (h2) ?_|refine aa3 (h2) ?_
 simp only[go_sem]
 exact ac8 rfl
theorem gj8 (r:Req)(h1:r.jobs.length≤2147483648)(h2:r.edits.length≤2147483648):PC Tryz.prog EE 161 [.agg r.cs] (.agg r.cs):=by
 refine ae9 hE fok161 (Nat.le_of_ble_eq_true rfl) (bb8 (.agg _ (bc9 r))) ?_
 have c1:=dv6 r.jobs h1
 have c2:=dm2 r.edits h2
 have hb:=bc9 r
 unfold Req.cs at *
 simp only[ic161,go_sem]
 first|refine aa1 fok232 (c1) ?_|refine aa3 (c1) ?_
 simp only[go_sem]
 first|refine aa1 fok233 (c2) ?_|refine aa3 (c2) ?_
 simp only[go_sem]
 exact .keep _ (.agg _ hb)
theorem gt9 {α:Type}(q:α→Bool)(l:List α):(l.any fun x=>!q x)=!l.all q:=by
 induction l with
 | nil=>rfl
 | cons x l ih=>simp only[List.any_cons,List.all_cons,ih,Bool.not_and]
theorem fo3 (p:Pool)(r:Req)(hR:ReqOK r)(hl:(ab2 p).length≤256)(hf:∀ x∈ab2 p,x.Fit∧x.Tiny):PC Tryz.prog EE 98 [p.v,.agg r.cs] (hj8 p r):=by
 refine ae9 hE fok98 (Nat.le_of_ble_eq_true rfl) (ai3 (ak9 p) (.agg _ (bc9 r))) ?_
 have hm:=eu2 r.arch
 have hJ:=fn1 r.jobs 156 [] [] (fun j=>!ca7 j) (by have:=hR.jobs; omega) fok156.1 fun j hj=>fo2 j (hR.jdep j hj)
 have hEd:=ev1 r.edits 159 [] [.tptr r.cs,.tptr [p.v]] (fun e=>!bk6 e r.jobs.length p.inst) (by have:=hR.edits; omega) fok159.1 fun e he=>gt8 e p r
 rw[gt9] at hJ hEd
 have hrl:p.rows.length=(ab2 p).length:=by simp[ab2]
 have hM:=ay5 p (fun x hx=>(hf _ (List.mem_map_of_mem (f:=fun x:PRow=>x.pkg) hx)).1) (by omega) (fun x hx=>by
  have:=(hf _ (List.mem_map_of_mem (f:=fun x:PRow=>x.pkg) hx)).2
  have a:=this.prov.1; have b:=this.obs.1; have c:=this.files; omega)
 have hM:PC Tryz.prog EE 80 [p.v] (.tuple [(ap9 (ab2 p)).v,.int .i64 0]):=hM
 have hO:=gj8 r (by have:=hR.jobs; omega) (by have:=hR.edits; omega)
 have hC:=au4 p
 rw[hrl] at hC
 have hpk:∀ j (h:j<(ab2 p).length),PC Tryz.prog EE 19 [p.v,.int .i64 j] (.tuple [.agg (ab2 p)[j].cs,.int .i64 0]):=fun j h=>by
  have hq:p.rows[j].pkg=(ab2 p)[j]:=by simp[ab2]
  have h1:=ap3 p j (by omega) (by rw[hq]; exact (hf _ (List.getElem_mem h)).1)
  rw[hq] at h1; exact h1
 have hbA:=ay6 ⟨p,r⟩
 have k0:r.cs.head? = some (.int .u8 r.arch):=rfl
 have k2:(r.cs.drop 2).head? = some (cc2 r.jobs):=rfl
 have k3:(r.cs.drop 3).head? = some (bc1 r.edits):=rfl
 have k4:(r.cs.drop 4).head? = some (.int .i64 r.budget):=rfl
 obtain ⟨V,hV⟩:∃ V,hj8 p r=V:=⟨_,rfl⟩
 have herr:∀ (s:Store) (e:Int),aj6 r p.inst=e→e≠0→ch1 s 0 (.tuple [.nilptr,.int .i64 e]) V:=fun s e h1 h2=>by
  rw[← hV]
  unfold hj8
  rw[h1,if_neg h2]
  exact .keep _ (.tuple _ (ai3 .nilptr (.int _ _)))
 rw[hV]
 have vcs:p.v.cs=[p.v]:=rfl
 have vlf:p.v.leaf=true:=rfl
 have vnl:∀ d:TypeId,cc5 (.pointer d) p.v=some false:=fun _=>rfl
 by_cases c1:dt1 r.arch=false
 ·simp only[ic98,go_sem,vcs,List.all_cons,vlf,List.all_nil,List.head?_cons,al1,vnl,k0]
  first|refine aa1 fok154 (hm) ?_|refine aa3 (hm) ?_
  simp only[go_sem,c1]
  exact herr _ 1 (by unfold aj6; rw[if_pos (.inl c1)]) (by decide)
 have c1':dt1 r.arch=true:=by simpa using c1
 by_cases c2:r.budget<0
 ·simp only[ic98,go_sem,vcs,List.all_cons,vlf,List.all_nil,List.head?_cons,al1,vnl,k0]
  first|refine aa1 fok154 (hm) ?_|refine aa3 (hm) ?_
  simp only[go_sem,c1',k4,c2]
  exact herr _ 1 (by unfold aj6; rw[if_pos (.inr (.inl c2))]) (by decide)
 by_cases c3:1099511627776<r.budget
 ·simp only[ic98,go_sem,vcs,List.all_cons,vlf,List.all_nil,List.head?_cons,al1,vnl,k0]
  first|refine aa1 fok154 (hm) ?_|refine aa3 (hm) ?_
  simp only[go_sem,c1',k4,c2,c3]
  exact herr _ 1 (by unfold aj6; rw[if_pos (.inr (.inr c3))]) (by decide)
 have q1:¬ (dt1 r.arch=false∨r.budget<0∨1099511627776<r.budget):=fun h=>h.elim c1 fun h=>h.elim c2 c3
 by_cases c4:64<r.jobs.length
 ·have c4':(64:Int)<r.jobs.length:=by omega
  simp only[ic98,go_sem,vcs,List.all_cons,vlf,List.all_nil,List.head?_cons,al1,vnl,k0]
  first|refine aa1 fok154 (hm) ?_|refine aa3 (hm) ?_
  simp only[go_sem,c1',k4,c2,c3,k2,c4']
  exact herr _ 40 (by unfold aj6; rw[if_neg q1,if_pos (.inl c4)]) (by decide)
 have c4':¬ (64:Int)<r.jobs.length:=by omega
 by_cases c5:64<r.edits.length
 ·have c5':(64:Int)<r.edits.length:=by omega
  simp only[ic98,go_sem,vcs,List.all_cons,vlf,List.all_nil,List.head?_cons,al1,vnl,k0]
  first|refine aa1 fok154 (hm) ?_|refine aa3 (hm) ?_
  simp only[go_sem,c1',k4,c2,c3,k2,k3,c4',c5']
  exact herr _ 40 (by unfold aj6; rw[if_neg q1,if_pos (.inr c5)]) (by decide)
 have c5':¬ (64:Int)<r.edits.length:=by omega
 have q2:¬ (64<r.jobs.length∨64<r.edits.length):=fun h=>h.elim c4 c5
 by_cases c6:r.jobs.all ca7=false
 ·simp only[ic98,go_sem,vcs,List.all_cons,vlf,List.all_nil,List.head?_cons,al1,vnl,k0]
  first|refine aa1 fok154 (hm) ?_|refine aa3 (hm) ?_
  simp only[go_sem,c1',k4,c2,c3,k2,k3,c4',c5']
  first|refine aa1 fok155 (hJ) ?_|refine aa3 (hJ) ?_
  simp only[go_sem,c6,Bool.not_false]
  exact herr _ 4 (by unfold aj6; rw[if_neg q1,if_neg q2,if_pos c6]) (by decide)
 have c6':r.jobs.all ca7=true:=by simpa using c6
 simp only[ic98,go_sem,vcs,List.all_cons,vlf,List.all_nil,List.head?_cons,al1,vnl,k0]
 first|refine aa1 fok154 (hm) ?_|refine aa3 (hm) ?_
 simp only[go_sem,c1',k4,c2,c3,k2,k3,c4',c5']
 first|refine aa1 fok155 (hJ) ?_|refine aa3 (hJ) ?_
 simp only[go_sem,c6',Bool.not_true,k3]
 first|refine aa1 fok158 (hEd) ?_|refine aa3 (hEd) ?_
 by_cases c7:(r.edits.all fun e=>bk6 e r.jobs.length p.inst)=false
 ·simp only[go_sem,c7,Bool.not_false]
  exact herr _ 5 (by unfold aj6; rw[if_neg q1,if_neg q2,if_neg c6,if_pos c7]) (by decide)
 have c7':(r.edits.all fun e=>bk6 e r.jobs.length p.inst)=true:=by simpa using c7
 have hV0:V=.tuple [.tptr [p.v,(ap9 (ab2 p)).v,.int .u8 r.arch,.bool r.vendor,cc2 r.jobs,bc1 r.edits,.int .i64 r.budget,.tslice ((ab2 p).map Package.cs)],.int .i64 0]:=by
  rw[← hV]
  unfold hj8
  rw[if_pos (by unfold aj6; rw[if_neg q1,if_neg q2,if_neg c6,if_neg c7])]
  rfl
 have hbX:=cj3 (ap9 (ab2 p))
 have hbP:=ak9 p
 rw[hV0]
 clear herr hV hV0 hJ hEd
 simp only[go_sem,c7',Bool.not_true]
 first|refine aa1 fok80 (hM) ?_|refine aa3 (hM) ?_
 simp only[go_sem,as6,ar3]
 first|refine aa1 fok161 (hO) ?_|refine aa3 (hO) ?_
 have hrc:r.cs=[.int .u8 r.arch,.bool r.vendor,cc2 r.jobs,bc1 r.edits,.int .i64 r.budget]:=rfl
 rw[hrc]
 have xlf:(ap9 (ab2 p)).v.leaf=true:=rfl
 have xcs:(ap9 (ab2 p)).v.cs=[(ap9 (ab2 p)).v]:=rfl
 generalize (ap9 (ab2 p)).v=X at *
 generalize hPv:p.v=Pv at *
 simp only[go_sem,vcs,vlf,xlf,xcs]
 first|refine aa1 fok17 (hC) ?_|refine aa3 (hC) ?_
 simp only[go_sem]
 refine aa9 noT (fun n fr s=>∃ gv,fr=[(2,.tptr [Pv]),(8,.ptr 5 0),(65,.int .i64 (ab2 p).length),(66,.int .i64 (n:Int))]∧7≤s.next∧s.obj 5=some (.cells [Pv,X,.int .u8 r.arch,.bool r.vendor,cc2 r.jobs,bc1 r.edits,.int .i64 r.budget,gv])∧Grow s gv 15 (((ab2 p).take n).map Package.cs)) (ab2 p).length ⟨.nilslice,rfl,Nat.le_refl _,by simp only[aa2,if_true],.inl ⟨rfl,rfl⟩⟩ ?_
 rintro n fr s hn ⟨gv,rfl,hnx,ho,hg⟩
 by_cases hlt:n<(ab2 p).length
 ·have d1:(n:Int)<((ab2 p).length:Int):=by omega
  have w1:=ad5 (i:=n) (by omega)
  have hp:=hpk n hlt
  have n5:¬ 5=s.next:=by omega
  have htk:(ab2 p).take (n+1)=(ab2 p).take n++[(ab2 p)[n]]:=by
   rw[List.take_add_one,List.getElem?_eq_getElem hlt]; rfl
  have hgl:gv.leaf=true:=by rcases hg with ⟨rfl,_⟩|⟨id,rfl,_⟩<;>rfl
  have hgc:gv.cs=[gv]:=by rcases hg with ⟨rfl,_⟩|⟨id,rfl,_⟩<;>rfl
  simp only[go_sem,d1]
  first|refine aa1 fok19 (hp) ?_|refine aa3 (hp) ?_
  simp only[go_sem,ag2,ah6,ae6,n5,ho,b_o,b_p,b_t]
  obtain ⟨s1,a1,a2,a3,a4⟩:=dz4 (k:=11) (nid:=s.next+1+1+1+1+1+1+1+1) (e:=(ab2 p)[n].cs) (A:=.cells [.str [],.int .i64 0,.str [],.str [],.int .u8 0,.str [],.nilslice,.nilslice,.nilslice,.nilslice,.nilslice,.nilslice,.nilslice,.nilslice,.nilslice]) (B:=.cells (ab2 p)[n].cs) hg (bk8 _) ⟨rfl,rfl⟩ (by rw[List.length_map,List.length_take]; omega) ho (by omega) (by omega)
  simp only[go_sem,a1,a3,b_o,b_p,b_t,w1]
  refine ⟨hlt,_,by rw[a2]; omega,rfl,?_⟩
  rw[htk,List.map_append]
  have a5:=a4 [Pv,X,.int .u8 r.arch,.bool r.vendor,cc2 r.jobs,bc1 r.edits,.int .i64 r.budget,.slice (s.next+1+1+1+1+1+1+1+1) 0 (((ab2 p).take n).length+1) 15] s1.next (by rw[a2]; omega)
  rw[List.length_map] at a5
  exact a5
 ·have hn':n=(ab2 p).length:=by omega
  subst hn'
  have d1:¬ ((ab2 p).length:Int)<((ab2 p).length:Int):=by omega
  rw[List.take_length] at hg
  simp only[go_sem,d1]
  have hbe:∀ e∈(ab2 p).map Package.cs,∀ c∈e,Bnd 0 c:=fun e he c hc=>by
   obtain ⟨y,_,rfl⟩:=List.mem_map.1 he
   exact ah9 y c hc
  refine .tuple2 (.cons (.ptr 5 0 _ _ (Nat.not_lt_zero _) (.inl ho) (Nat.le_refl _) (fun j hj=>?_)) (.cons (bp5 rfl) .nil))
  match j,hj with
  | 0,_=>exact .keep _ hbP
  | 1,_=>exact .keep _ hbX
  | 2,_=>exact .keep _ (.int _ _)
  | 3,_=>exact .keep _ (.bool _)
  | 4,_=>exact .keep _ (bq5 _)
  | 5,_=>exact .keep _ (bc7 _)
  | 6,_=>exact .keep _ (.int _ _)
  | 7,_=>exact hg.frz (fun x hx=>(bk8 _ x hx).1) (fun _ _=>Nat.not_lt_zero _) hbe
end Go.Id.Tryz
/- Truth of a pool; the Atoms of a rich dependency. Conditions: sizes that fit. -/
namespace Go.Id.Tryz
open Go Go.Id Go.Proofs Go.Shelf Go.Id.Md
set_option maxRecDepth 100000
theorem bq8 (l:List Dep):∀ x∈l.map Dep.cs,x.length=5∧x.all IV.leaf=true:=fun x hx=>by
 obtain ⟨d,_,rfl⟩:=List.mem_map.1 hx; exact ⟨rfl,rfl⟩
theorem ee4 (d:Dep):∀ c∈d.cs,Bnd 0 c:=fun c hc=>by
 simp only[Dep.cs,List.mem_cons,List.not_mem_nil,or_false] at hc
 rcases hc with rfl|rfl|rfl|rfl|rfl
 ·exact .str _
 ·exact .int _ _
 ·exact .int _ _
 ·exact .str _
 ·exact .str _
def cc3 (p:Rich×Bool):Option Dep:=if p.1.kind=1 then some p.1.dep else none
theorem gd8 (r:Rich)(hf:r.fit)(hc:r.count<2^30):PC Tryz.prog EE 179 [.agg r.cs] (.tslice (r.atoms.map Dep.cs)):=by
 refine ae9 hE fok179 (Nat.le_of_ble_eq_true rfl) (ad3 (ae4 _)) ?_
 simp only[ic179,go_sem,aa6,ab4,aa8]
 refine af8 fok239 (du2 r _) ?_
 rintro v s1 ⟨rfl,hb,hn,hs⟩
 refine ⟨hn,?_⟩
 simp only[go_sem] at hn hs hb ⊢
 have h0:s1.obj 0=some (.cells [.nilslice]):=by rw[hs 0 (by omega)]; rfl
 have hb1:=hb.1
 refine cg7 (bz5 r hf 1) (fun rest t=>boxed 1 t∧∃ (ps rs:List (Rich×Bool)) (v:IV),rest=rs.map row∧ps++rs=r.parts false∧t.obj 0=some (.cells [v])∧s1.next<t.next∧Grow t v 5 ((ps.filterMap cc3).map Dep.cs)∧∀ id k,v=.slice id 0 k 5→s1.next<id) (fun _ _ h=>h.1) ?_ db4 ?_ ?_ ?_
 ·rintro rest t t' ⟨⟨q1,q2⟩,ps,rs,v,h1,h2,h3,h4,h5,h6⟩ hn' hs'
  exact ⟨⟨by omega,by rw[hs' 1 q1]; exact q2⟩,ps,rs,v,h1,h2,by rw[hs' 0 (by omega)]; exact h3,by omega,h5.mono hn' fun id _ hid=>hs' id hid,h6⟩
 ·intro o
  have e0:¬ 0=s1.next:=by omega
  have e1:¬ 1=s1.next:=by omega
  refine ⟨⟨by show 1<s1.next+1; omega,by simp only[aa2,e1,if_false]; exact hb.2⟩,[],r.parts false,.nilslice,rfl,rfl,by simp only[aa2,e0,if_false]; exact h0,Nat.lt_succ_self _,.inl ⟨rfl,rfl⟩,fun id k h=>by cases h⟩
 ·rintro L pre a rest t hev ⟨⟨q1,q2⟩,ps,rs,v,h1,h2,h3,h4,h5,h6⟩ hL hlt
  cases rs with
  | nil=>cases h1
  | cons p rs=>
  rw[List.map_cons] at h1
  obtain ⟨ha,hrest⟩:=List.cons.inj h1
  subst ha
  obtain ⟨⟨k,d,xs⟩,al⟩:=p
  simp only[row,aa5] at hL hlt ⊢
  have e1:¬ s1.next=t.next:=by omega
  have e2:¬ 0=t.next:=by omega
  have e3:¬ s1.next=0:=by omega
  have e4:¬ 0=s1.next:=by omega
  have e5:¬ 1=t.next:=by omega
  have e6:¬ 1=s1.next:=by omega
  have e7:¬ t.next=s1.next:=by omega
  have e8:¬ t.next=0:=by omega
  have e9:¬ 0=1:=by omega
  simp only[go_sem,hL,e1,e2,e3,e4,e5,e6,e7,e8,aa8,ab4,aa6,bq7,gt2,fn6,h3]
  generalize hU:Store.mk (t.next+1) _=U
  have un:U.next=t.next+1:=by rw[← hU]
  have uL:U.obj s1.next=some (L .busy none):=by rw[← hU]; simp only[aa2,if_true]
  have uo:∀ i,i<t.next→i≠s1.next→U.obj i=t.obj i:=fun i hi hne=>by
   have:¬ i=t.next:=by omega
   rw[← hU]; simp only[aa2,hne,this,if_false]
  have u0:=uo 0 (by omega) e4
  rw[h3] at u0
  have ub:U.obj t.next=some (.cells (Rich.mk k d xs).cs):=by rw[← hU]; simp only[aa2,e7,if_false,if_true]
  have hg:Grow U v 5 ((ps.filterMap cc3).map Dep.cs):=h5.mono (by omega) fun id hv hid=>uo id hid (by have:=h6 _ _ hv; omega)
  have hcnt:ps.length+(rs.length+1)=r.count:=by
   have:=congrArg List.length h2
   rw[List.length_append,List.length_cons,Rich.parts_len] at this
   exact this
  have hpl:(ps.filterMap cc3).length<2^30:=by
   have:=List.length_filterMap_le cc3 ps
   omega
  have hbx:1<U.next∧U.obj 1=some (.cells [.func (.func 285) [] [.ptr 1 0]]):=⟨by omega,by rw[uo 1 q1 e6]; exact q2⟩
  by_cases hk:k=1
  ·have hat:cc3 (Rich.mk k d xs,al)=some d:=by unfold cc3; rw[if_pos]; rfl; exact hk
   have hap:=ai2 (nid:=U.next) (e:=d.cs) (σ:=⟨U.next+1,U.obj⟩) (hg.mono (Nat.le_succ _) fun _ _ _=>rfl) (bq8 _) ⟨rfl,rfl⟩ (by rw[List.length_map]; omega)
   have k0:=ae7 hg 0 (.cells [v]) u0 (fun _ h=>by cases h)
   have kL:(ah4 v ⟨U.next+1,U.obj⟩).obj s1.next=some (L .busy none):=by
    cases hv:v<;>try exact uL
    rename_i id o n' e
    show (if s1.next=id then none else U.obj _)=_
    rcases hg with ⟨h,_⟩|⟨id',h,_,_⟩
    ·rw[h] at hv; cases hv
    ·rw[hv] at h; cases h
     have:=h6 _ _ hv
     rw[if_neg (by omega)]; exact uL
   have k0':=ae7 (hg.mono (Nat.le_succ _) fun _ _ _=>rfl:Grow ⟨U.next+1,U.obj⟩ v 5 _) 0 (.cells [v]) u0 (fun _ h=>by cases h)
   have k1:=ae7 (hg.mono (Nat.le_succ _) fun _ _ _=>rfl:Grow ⟨U.next+1,U.obj⟩ v 5 _) 1 _ hbx.2 (fun _ h=>by cases h)
   have kn:=ad7 (σ:=⟨U.next+1,U.obj⟩) v
   have x1:¬ 0=U.next:=by omega
   have x2:¬ s1.next=U.next:=by omega
   have x3:¬ 1=U.next:=by omega
   have x4:¬ U.next=s1.next:=by omega
   have x5:¬ U.next=0:=by omega
   have x6:¬ 1=0:=by omega
   rw[List.length_map] at hap
   simp only[go_sem,hk,u0,ub,bq7,gt2,fn6,aq4,an2,ak8,hap,k0',kL,x1,x2,e3,e4]
   refine cz7 (by simp only[aa5,kn]; omega) (by simp only[aa2,if_true]) ⟨⟨?_,?_⟩,ps++[(Rich.mk k d xs,al)],rs,.slice U.next 0 ((ps.filterMap cc3).length+1) 5,hrest,by rw[List.append_assoc]; exact h2,?_,?_,?_,fun id k h=>?_⟩
   ·simp only[aa5,kn]; omega
   ·simp only[aa2,x3,x6,e6,if_false]; exact k1
   ·simp only[aa2,e4,if_false,if_true]
   ·simp only[aa5,kn]; omega
   ·rw[List.filterMap_append]
    simp only[List.filterMap_cons,hat,List.filterMap_nil]
    rw[List.map_append]
    refine .inr ⟨U.next,by simp,?_,by simp only[aa5,kn]; omega⟩
    simp only[aa2,x4,x5,if_false,if_true]; rfl
   ·cases h; omega
  ·have hat:cc3 (Rich.mk k d xs,al)=none:=by unfold cc3; rw[if_neg]; exact hk
   simp only[go_sem,hk,uL]
   refine cz7 (by rw[aa5,un]; omega) (by simp only[aa2,if_true]) ⟨⟨by rw[aa5]; exact hbx.1,by rw[aa2,if_neg e6]; exact hbx.2⟩,ps++[(Rich.mk k d xs,al)],rs,v,hrest,by rw[List.append_assoc]; exact h2,by rw[aa2,if_neg e4]; exact u0,by rw[aa5,un]; omega,?_,h6⟩
   rw[List.filterMap_append]
   simp only[List.filterMap_cons,hat,List.filterMap_nil,List.append_nil]
   exact hg.mono (Nat.le_refl _) fun id hv _=>by rw[aa2,if_neg (by have:=h6 _ _ hv; omega)]
 ·rintro t o ⟨⟨q1,q2⟩,ps,rs,v,h1,h2,h3,h4,h5,h6⟩ hlt ho
  cases rs with
  | cons k rs=>cases h1
  | nil=>
  have e0:¬ 0=s1.next:=by omega
  rw[List.append_nil] at h2
  have hat:r.atoms=ps.filterMap cc3:=by unfold Rich.atoms; rw[← h2]; rfl
  simp only[go_sem,e0,h3]
  rw[hat]
  have hg:Grow { next:=t.next,obj:=(t.kill s1.next).obj } v 5 ((ps.filterMap cc3).map Dep.cs):=h5.mono (Nat.le_refl _) fun id hv hid=>by
   have:=h6 _ _ hv
   show (if id=s1.next then none else t.obj id)=_
   rw[if_neg (by omega)]
  exact hg.frz (fun e he=>(bq8 _ e he).1) (fun _ _=>Nat.not_lt_zero _) fun e he c hc=>by
   obtain ⟨x,_,rfl⟩:=List.mem_map.1 he
   exact ee4 x c hc
end Go.Id.Tryz
