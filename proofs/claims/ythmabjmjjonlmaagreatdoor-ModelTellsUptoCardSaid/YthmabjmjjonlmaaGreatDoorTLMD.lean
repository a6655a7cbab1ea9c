/- Newcomers,whom a job means; what aw7 a job. Conditions: sizes that fit. -/
import Derived.Test.YthmabjmjjonlmaaGreatDoorTLSG
import Derived.Test.YthmabjmjjonlmaaGreatDoorTLNC
import Derived.Test.YthmabjmjjonlmaaGreatDoorMv
open List renaming getD_eq_getElem?_getD→za,getElem_mem→zc,all_cons→zd,head?_cons→ze,drop_length→zf,take_of_length_le→zg,all_nil→zh,length_filter_le→zi,length_map→zj,getElem?_eq_getElem→zm,length_take→zt,append_nil→zw,take_add_one→zy,mem_append→zz,map_append→z0,length_append→z2,filter_append→z3,take_length→z4,any_cons→z7,mem_map→z8,mem_map_of_mem→qa,mem_singleton→qb,filter_congr→qc
open Int renaming reduceEq→zb,toNat_natCast→zl
open Nat renaming le_refl→zk,le_trans→zp,not_lt_zero→zx,le_add_right→z5,zero_le→z9
open Bool renaming false_and→zn,false_eq_true→zo,false_or→zq,and_eq_true→zu,true_and→zv,and_eq_false_iff→z1,and_false→z6
open Option renaming some→zr
set_option linter.all false
set_option maxRecDepth 100000
set_option maxHeartbeats 1000000
private theorem om{P:Prop}(h:P:=by omega):P:=h
namespace Go.Id.Tryz
open Go Go.Id Go.Proofs Go.Shelf Go.Id.Md
theorem ia8 {σ:Store}{g:Nat}{cap:List IV}(hok:okF Tryz.prog g=true)(hcap:∀ c∈cap,Bnd 0 c):C Tryz.prog EE 131 [.aa1,.func (.func g) [] cap] σ (jq6 σ []):=by
 refine C_f fok131 (nZ rfl) ?_;simp only[ic131,go_sem]
 have hI:C Tryz.prog EE 134 [.aa1,.func (.func g) [] cap] σ (jc1 (.int .i64 (-1)) σ):=by
  refine gy6 (args':=[.aa4 (([]:List Int).map Md.ae1),.func (.func g) [] cap]) rfl (fun i hi=>?_) (es8 (df3 [] g [] cap (fun _=>true) (by simp) hok (fun z hz=>by cases hz)))
  match i,hi with
  | 0,_=>exact .by5
  | 1,_=>exact .keep _ ((Nm.func _ _ _ (fun c hc=>by cases hc) hcap:Bnd 0 (.func (.func g) [] cap)).weak fun _ _=>rfl)
 refine ag1 fok134 hI ?_;rintro v s ⟨rfl,rfl⟩;refine ⟨zk _,?_⟩;simp only[go_sem];exact ⟨Kept.refl _,.inl ⟨rfl,rfl⟩⟩
theorem ix2 {σ:Store}{v:IV}{lo g:Nat}{cap:List IV}{zs:List Int}(q:Int->Bool)(hz:zs.length<2^40)(hr:er6 σ lo v zs)(hok:okF Tryz.prog g=true)(hcap:∀ c∈cap,Bnd 0 c)(hq:∀ z∈zs,PC Tryz.prog EE g (.int .i64 z::cap) (.bool (q z))) :
  C Tryz.prog EE 131 [v,.func (.func g) [] cap] σ (fun v s=>(σ.next<=s.next/\∀ i,i<lo->i<σ.next->s.obj i=σ.obj i)/\er6 s (min lo σ.next) v (zs.filter fun x=>!q x)):=by
 rcases hr with ⟨rfl,rfl⟩|⟨id,cs,h1,h2,rfl,h4,h5,h6⟩
 ·exact (ia8 hok hcap).mono fun v s ⟨h1,h2⟩=>⟨⟨h1.next,fun i _ hi=>h1.obj i hi⟩,h2.low (Nat.min_le_right _ _)⟩
 ·refine (gz8 q hz h4 h5 h6 hok hcap hq).mono fun v s ⟨k1,k2,cs',k3,k4,k5,k6⟩=>⟨⟨k1,fun i hi _=>k2 i om⟩,.inr ⟨id,cs',om,om,k3,k4,k5,k6⟩⟩
theorem ia9 (a:ab4)(n:Int):PC Tryz.prog EE 261 [.int .i64 n,.ab8 [a.v]] (.bool (a.inst n || !a.fits n)):=by
 refine ad9 hE fok261 (nZ rfl) (ag4 (.int _ _) (.ab8 _ (ah9 (ai6 a)))) ?_;have h1:=bm3 a n;have h2:=dt9 a n;simp only[ic261,go_sem];refine aa2 fok138 (h1) ?_
 cases a.inst n with
 | true=>simp only[go_sem]; exact aa9 rfl
 | false=>
  simp only[go_sem];refine aa2 fok120 (h2) ?_;simp only[go_sem];exact aa9 rfl
theorem gs7 (a:ab4)(n:Int):PC Tryz.prog EE 260 [.int .i64 n,.ab8 [a.v]] (.bool (!a.inst n)):=by
 refine ad9 hE fok260 (nZ rfl) (ag4 (.int _ _) (.ab8 _ (ah9 (ai6 a)))) ?_;have h1:=bm3 a n;simp only[ic260,go_sem];refine aa2 fok138 (h1) ?_;simp only[go_sem];exact aa9 rfl
theorem fz3 (a:ab4)(i:Int)(hA:AOK a):PC Tryz.prog EE 215 [a.v,.int .i64 i] (.aa4 ((a.ch4 i).map Md.ae1)):=by
 refine ad9 hE fok215 (nZ rfl) (ag4 (ai6 a) (.int _ _)) ?_;have h1:=bm3 a i;have h2:=du2 a i hA;have hba:=ai6 a;have hcl:=ia9 a;have hsl:=a.ce6 i;have hA1:=hA.len;have vcs:a.v.cs=[a.v]:=rfl;have vlf:a.v.leaf=true:=rfl;unfold ab4.ch4
 cases hi:a.inst i with
 | false=>
  rw[hi] at h1;have e:a.au9 i=[]:=by unfold ab4.au9; rw[hi]; rfl
  rw[e];generalize a.v=V at *;simp only[ic215,go_sem,vcs,zd,vlf,zh,ze];refine aa2 fok138 (h1) ?_;simp only[go_sem]
  exact .by5
 | true=>
  rw[hi] at h1;generalize a.v=V at *;generalize a.au9 i=zs at *;simp only[ic215,go_sem,vcs,zd,vlf,zh,ze];refine aa2 fok138 (h1) ?_;simp only[go_sem];refine ag1 fok88 (h2 _) ?_;rintro v s ⟨hk,hr⟩;refine ⟨hk.next,?_⟩;simp only[go_sem];refine ag1 fok131 (ix2 (fun n=>a.inst n || !a.fits n) om hr fok261.1 (ah9 (.ab8 _ (ah9 hba))) fun z hz=>hcl z) ?_;rintro v s ⟨⟨h1,_⟩,hr⟩;refine ⟨h1,?_⟩;simp only[go_sem];exact hr.frz fun i _=>zx i
theorem fz4 (l:List aa3)(d:Dep)(hl:l.length<2^20)(hs:∀ p∈l,Pkg.small p)(hd:Dep.small d)(σ:Store):C Tryz.prog EE 86 [(aj2 l).v,.agg d.cs] σ (dh3 σ (am3 l d)):=by
 have hi:=bn5 l;have hlook:=hi.names d.name
 have hsift:∀ (σ:Store) v,(v=.aa4 ((ae8 (aj2 l).names d.name).map Md.ae1)\/v=.aa1/\ae8 (aj2 l).names d.name=[])->C Tryz.prog EE 135 [(aj2 l).v,v,.func (.func 136) [] [.ab8 d.cs]] σ (dh3 σ (am3 l d)):=by
  intro σ v hv
  have h:=in4 (aj2 l) (ae8 (aj2 l).names d.name) (by rw[hlook]; have:=aj3 (fun p=>decide (p.name=d.name)) l; omega) 136 [.ab8 d.cs] (fun n=>named (l.getD n.toNat default) d) fok136.1 (fun n hn=>by
   rw[hlook] at hn;obtain ⟨m,rfl,hm⟩:=numsOf_at hn;refine ⟨m,rfl,by rw[hi.all]; exact hm,?_⟩;have e:(aj2 l).all[m]'(by rw[hi.all]; exact hm)=l[m]:=by simp only[hi.all]
   rw[e,zl,getD_at l m hm];exact de7 l[m] m d (hs _ (zc hm)) hd) σ
  rw[fd8] at h;rcases hv with rfl|⟨rfl,h0⟩
  ·exact h
  ·rw[h0] at h;refine gy6 (args':=[(aj2 l).v,.aa4 [],.func (.func 136) [] [.ab8 d.cs]]) rfl (fun i hi=>?_) h;have hw:∀ {v:IV} {σ:Store},Bnd 0 v->Frz σ (fun _=>true=true) v v:=fun h=>.keep _ (h.weak fun _ _=>rfl)
   match i,hi with
   | 0,_=>exact hw (bg2 (aj2 l))
   | 1,_=>exact .by5
   | 2,_=>exact hw (.func _ _ _ (fun c hc=>by cases hc) (af1 (bi4 d)))
 have hx:(aj2 l).v=.ab8 [.aa4 ((aj2 l).all.map aa3.cs),.an9 (nmV (aj2 l).ax9),.an9 (nmV (aj2 l).names),.an9 (nmV (aj2 l).over)]:=rfl;have d0:d.cs.head? = zr (.str d.name):=rfl
 have hk0:∀ σ:Store,∃ v,cz6 σ 2 .aa1 false (.an9 (nmV (aj2 l).names)) (.str d.name)=zr v/\∀ τ,C Tryz.prog EE 135 [(aj2 l).v,v,.func (.func 136) [] [.ab8 d.cs]] τ (dh3 τ (am3 l d)):=fun σ=>
  let ⟨v,h1,h2⟩:=fi8 (aj2 l).names σ d.name
  ⟨v,h1,fun τ=>hsift τ v h2⟩
 clear hsift hlook;rw[hx] at hk0 ⊢;generalize (aj2 l).all.map aa3.cs=a0 at *;refine C_f fok86 (nZ rfl) ?_;simp only[ic86,go_sem,ak2,ah7,ag7,d0];obtain ⟨v,hk,hsv⟩:=hk0 ⟨σ.next+11,σ.obj⟩;simp only[go_sem,hk];refine ag1 fok135 (hsv _) ?_;rintro v' s ⟨hkp,hr⟩;refine ⟨hkp.next,?_⟩;simp only[go_sem];exact ⟨hkp.low,hr.low (z5 _ _)⟩
theorem jn1 (a:ab4){n:Int}(h:a.job n=true):0<=n/\n<a.r.ag6.length/\(a.r.ag6.map Job.cs).getD n.toNat []=(a.jb n).cs/\a.jb n∈a.r.ag6:=by
 unfold ab4.job at h;simp only[zu,decide_eq_true_eq] at h;have c1:n.toNat<a.r.ag6.length:=om
 have e:a.jb n=a.r.ag6[n.toNat]:=by simp[ab4.jb,za,c1]
 exact ⟨h.1,h.2,by rw[e]; simp[za,c1],by rw[e]; exact zc c1⟩
theorem bn8 (a:ab4)(j:Int)(hA:AOK a):PC Tryz.prog EE 212 [a.v,.int .i64 j] (.aa4 ((a.meant j).map Md.ae1)):=by
 refine ad9 hE fok212 (nZ rfl) (ag4 (ai6 a) (.int _ _)) ?_;have h1:=df4 a j;have hba:=ai6 a;have hcl:=gs7 a;have hlen:=hA.len;unfold ab4.meant
 cases hj:a.job j with
 | false=>
  rw[hj] at h1;unfold ab4.v ab4.cs at *;simp only[ic212,go_sem];refine aa2 fok147 (h1) ?_;simp only[go_sem]
  exact .by5
 | true=>
  rw[hj] at h1;obtain ⟨j1,j2,j3,j4⟩:=jn1 a hj;have hds:=hA.im2 _ j4;have hP:=bs7 a.l (a.jb j).dep om hA.small hds;have hN:=cb1 a.l (a.jb j).dep om hA.small hds;have hNc:=fz4 a.l (a.jb j).dep om hA.small hds;have b1:=ad3 (aj7 a.l (a.jb j).dep);have b2:=ad3 (am3 a.l (a.jb j).dep);have nl:(am3 a.l (a.jb j).dep).length<=a.l.length:=aj3 _ _;have k0:(a.jb j).cs.head? = zr (.int .u8 (a.jb j).kind):=rfl;have k1:=cz2 (a.jb j);have k2:((a.jb j).cs.drop 1).length=5:=rfl;generalize a.jb j=x at *;generalize am3 a.l x.dep=nm at *;generalize aj7 a.l x.dep=pv at *;unfold ab4.v ab4.cs at *;generalize (aj2 a.l).v=X at *;have c21:¬ (2:Int)=1:=by decide
  by_cases e1:x.kind=1
  ·rw[if_pos rfl,if_pos e1];simp only[ic212,go_sem];refine aa2 fok147 (h1) ?_;simp only[go_sem,j1,j2,j3,ba3,bd7,au4,k0,k1,k2,e1]
   first|refine aa2 fok235 (hP) ?_|refine aa8 (hP) ?_
   simp only[go_sem];exact .keep _ b1
  by_cases e2:x.kind=2
  ·rw[if_pos rfl,if_neg e1,if_pos e2];simp only[ic212,go_sem];refine aa2 fok147 (h1) ?_;simp only[go_sem,j1,j2,j3,ba3,bd7,au4,k0,k1,k2,e2,c21]
   first|refine aa2 fok86 (hN) ?_|refine aa8 (hN) ?_
   simp only[go_sem,k0,e2];exact .keep _ b2
  ·rw[if_pos rfl,if_neg e1,if_neg e2];simp only[ic212,go_sem];refine aa2 fok147 (h1) ?_;simp only[go_sem,j1,j2,j3,ba3,bd7,au4,k0,k1,k2,e1];refine ag1 fok86 (hNc _) ?_;rintro v s ⟨hk,hr⟩;refine ⟨hk.next,?_⟩;have o0:s.obj 0=zr (.cells x.cs):=(hk.obj 0 (Nat.succ_pos _)).trans (by simp only[aa5,if_true]);simp only[go_sem,o0,k0,e2];refine ag1 fok131 (ix2 (fun n=>!a.inst n) om hr.w fok260.1 (ah9 (.ab8 _ (ah9 hba))) fun z hz=>hcl z) ?_;rintro v s ⟨⟨h1,_⟩,hr⟩;refine ⟨h1,?_⟩;have ef:(nm.filter fun x=>!(!a.inst x))=nm.filter fun n=>a.inst n:=qc fun x _=>Bool.not_not _
   rw[ef] at hr;simp only[go_sem];exact hr.frz fun i _=>zx i
theorem ib5 (state:List Int)(n:Int)(hs:state.length<2^40):PC Tryz.prog EE 259 [.int .i64 n,.ab8 [.aa4 (state.map Md.ae1)]] (.bool (decide (n∈state))):=by
 refine ad9 hE fok259 (nZ rfl) (ag4 (.int _ _) (.ab8 _ (ah9 (ad3 state)))) ?_;have h:=cg1 state n hs;simp only[ic259,go_sem]
 first|refine aa2 fok115 (h) ?_|refine aa8 (h) ?_
 simp only[go_sem];exact aa9 rfl
theorem eb1 (state l:List Int)(hs:state.length<2^40)(hl:l.length<2^40):PC Tryz.prog EE 211 [.aa4 (state.map Md.ae1),.aa4 (l.map Md.ae1)] (.bool (ab4.some state l)):=by
 refine ad9 hE fok211 (nZ rfl) (ag4 (ad3 _) (ad3 _)) ?_;have h:=bm2 l 259 [] [.ab8 [.aa4 (state.map Md.ae1)]] (fun n=>decide (n∈state)) om fok259.1 fun x hx=>ib5 state x hs
 simp only[ic211,go_sem]
 first|refine aa2 fok84 (h) ?_|refine aa8 (h) ?_
 simp only[go_sem];exact aa9 rfl
theorem cf4 (a:ab4)(j:Int):(a.meant j).length<=a.l.length:=by
 unfold ab4.meant;split
 ·split
  ·exact aj3 _ _
  ·split
   ·exact aj3 _ _
   ·exact zp (zi _ _) (aj3 _ _)
 ·exact z9 _
theorem eb2 (a:ab4)(j:Int)(state:List Int)(hA:AOK a)(hs:state.length<2^40):PC Tryz.prog EE 148 [a.v,.int .i64 j,.aa4 (state.map Md.ae1)] (.bool (ab4.some state (a.meant j))):=by
 refine ad9 hE fok148 (nZ rfl) (as5 (ai6 a) (.int _ _) (ad3 _)) ?_;have h1:=bn8 a j hA;have h2:=eb1 state (a.meant j) hs (by have:=cf4 a j; have:=hA.len; omega);simp only[ic148,go_sem];refine aa2 fok212 (h1) ?_;simp only[go_sem]
 first|refine aa2 fok211 (h2) ?_|refine aa8 (h2) ?_
 simp only[go_sem];exact aa9 rfl
theorem ew5 (a:ab4)(j:Int)(state:List Int)(hA:AOK a)(hs:state.length<2^40):PC Tryz.prog EE 149 [a.v,.int .i64 j,.aa4 (state.map Md.ae1)] (.bool (!ab4.some state (a.meant j))):=by
 refine ad9 hE fok149 (nZ rfl) (as5 (ai6 a) (.int _ _) (ad3 _)) ?_;have h1:=bn8 a j hA;have h2:=eb1 state (a.meant j) hs (by have:=cf4 a j; have:=hA.len; omega);simp only[ic149,go_sem];refine aa2 fok212 (h1) ?_;simp only[go_sem]
 first|refine aa2 fok211 (h2) ?_|refine aa8 (h2) ?_
 simp only[go_sem];exact aa9 rfl
theorem ew6 (a:ab4)(i:Int)(state:List Int)(hA:AOK a)(hs:state.length<2^40):PC Tryz.prog EE 213 [.int .i64 i,.ab8 [.aa4 (state.map Md.ae1)],.ab8 [a.v]] (.bool (!ab4.some state (a.au9 i))):=by
 refine ad9 hE fok213 (nZ rfl) (as5 (.int _ _) (.ab8 _ (ah9 (ad3 _))) (.ab8 _ (ah9 (ai6 a)))) ?_;have h1:=dg1 a i hA;have h2:=eb1 state (a.au9 i) hs (by have:=a.ce6 i; have:=hA.len; omega);simp only[ic213,go_sem]
 first|refine aa2 fok88 (h1) ?_|refine aa8 (h1) ?_
 simp only[go_sem]
 first|refine aa2 fok211 (h2) ?_|refine aa8 (h2) ?_
 simp only[go_sem];exact aa9 rfl
theorem ib6 (a:ab4)(i:Int)(state:List Int)(hA:AOK a)(hs:state.length<2^40):PC Tryz.prog EE 214 [.int .i64 i,.ab8 [a.v],.ab8 [.aa4 (state.map Md.ae1)]] (.bool (decide (0<(a.ch4 i).length)&&!ab4.some state (a.ch4 i))):=by
 refine ad9 hE fok214 (nZ rfl) (as5 (.int _ _) (.ab8 _ (ah9 (ai6 a))) (.ab8 _ (ah9 (ad3 _)))) ?_;have h1:=fz3 a i hA;have h2:=eb1 state (a.ch4 i) hs (by have:=a.hu8 i; have:=hA.len; omega);simp only[ic214,go_sem];refine aa2 fok215 (h1) ?_;by_cases e:0<(a.ch4 i).length
 ·have e':(0:Int)<(a.ch4 i).length:=om
  simp only[go_sem,e']
  first|refine aa2 fok211 (h2) ?_|refine aa8 (h2) ?_
  simp only[go_sem];exact aa9 (by simp[e])
 ·have e':¬ (0:Int)<(a.ch4 i).length:=om
  simp only[go_sem,e'];exact aa9 (by simp[e])
theorem eb3 (a:ab4)(j:Int)(state:List Int)(hA:AOK a)(hs:state.length<2^40):PC Tryz.prog EE 150 [a.v,.int .i64 j,.aa4 (state.map Md.ae1)] (.bool (!(a.meant j).any fun i=>!ab4.some state (a.au9 i))):=by
 refine ad9 hE fok150 (nZ rfl) (as5 (ai6 a) (.int _ _) (ad3 _)) ?_;have h1:=bn8 a j hA;have h2:=bm2 (a.meant j) 213 [] [.ab8 [.aa4 (state.map Md.ae1)],.ab8 [a.v]] (fun i=>!ab4.some state (a.au9 i)) (by have:=cf4 a j; have:=hA.len; omega) fok213.1 fun x hx=>ew6 a x state hA hs
 have vcs:a.v.cs=[a.v]:=rfl;have vlf:a.v.leaf=true:=rfl;simp only[ic150,go_sem,vcs,zd,vlf,zh,ze];refine aa2 fok212 (h1) ?_;simp only[go_sem]
 first|refine aa2 fok84 (h2) ?_|refine aa8 (h2) ?_
 simp only[go_sem];exact aa9 rfl
theorem fz5 (a:ab4)(j:Int)(state:List Int)(hA:AOK a)(hs:state.length<2^40):PC Tryz.prog EE 151 [a.v,.int .i64 j,.aa4 (state.map Md.ae1)] (.bool (!(a.meant j).any fun i=>decide (0<(a.ch4 i).length)&&!ab4.some state (a.ch4 i))):=by
 refine ad9 hE fok151 (nZ rfl) (as5 (ai6 a) (.int _ _) (ad3 _)) ?_;have h1:=bn8 a j hA;have h2:=bm2 (a.meant j) 214 [] [.ab8 [a.v],.ab8 [.aa4 (state.map Md.ae1)]] (fun i=>decide (0<(a.ch4 i).length)&&!ab4.some state (a.ch4 i)) (by have:=cf4 a j; have:=hA.len; omega) fok214.1 fun x hx=>ib6 a x state hA hs
 have vcs:a.v.cs=[a.v]:=rfl;have vlf:a.v.leaf=true:=rfl;simp only[ic151,go_sem,vcs,zd,vlf,zh,ze];refine aa2 fok212 (h1) ?_;simp only[go_sem]
 first|refine aa2 fok84 (h2) ?_|refine aa8 (h2) ?_
 simp only[go_sem];exact aa9 rfl
theorem eb4 (a:ab4)(j:Int)(state:List Int)(hA:AOK a)(hs:state.length<2^40):PC Tryz.prog EE 89 [a.v,.int .i64 j,.aa4 (state.map Md.ae1)] (.bool (a.aw7 j state)):=by
 refine ad9 hE fok89 (nZ rfl) (as5 (ai6 a) (.int _ _) (ad3 _)) ?_;have h1:=df4 a j;have c1:=eb2 a j state hA hs;have c2:=ew5 a j state hA hs;have c3:=eb3 a j state hA hs;have c4:=fz5 a j state hA hs;unfold ab4.aw7
 cases hj:a.job j with
 | false=>
  rw[hj] at h1;simp only[ic89,go_sem];refine aa2 fok147 (h1) ?_;simp only[go_sem]
  exact aa9 rfl
 | true=>
  rw[hj] at h1;obtain ⟨j1,j2,j3,j4⟩:=jn1 a hj;have hk:=hA.jo5 _ j4;have k0:(a.jb j).cs.head? = zr (.int .u8 (a.jb j).kind):=rfl;generalize ab4.some state (a.meant j)=B1 at *;generalize ((a.meant j).any fun i=>!ab4.some state (a.au9 i))=B3 at *;generalize ((a.meant j).any fun i=>decide (0<(a.ch4 i).length)&&!ab4.some state (a.ch4 i))=B4 at *;generalize a.jb j=x at *;unfold ab4.v ab4.cs at *;have hk4:x.kind=1\/x.kind=2\/x.kind=3\/x.kind=4:=om
  simp only[ic89,go_sem];refine aa2 fok147 (h1) ?_;have nfl:IV.ac5.leaf=true:=rfl;have q1:¬ (2:Int)=1:=by decide
  have q2:¬ (3:Int)=1:=by decide
  have q3:¬ (3:Int)=2:=by decide
  have q4:¬ (4:Int)=1:=by decide
  have q5:¬ (4:Int)=2:=by decide
  have q6:¬ (4:Int)=3:=by decide
  rcases hk4 with e|e|e|e
  ·simp only[go_sem,j1,j2,j3,ba3,bd7,au4,k0,e,nfl]
   first|refine aa2 fok148 (c1) ?_|refine aa8 (c1) ?_
   simp only[go_sem];exact aa9 rfl
  ·simp only[go_sem,j1,j2,j3,ba3,bd7,au4,k0,e,nfl,q1]
   first|refine aa2 fok149 (c2) ?_|refine aa8 (c2) ?_
   simp only[go_sem];exact aa9 rfl
  ·simp only[go_sem,j1,j2,j3,ba3,bd7,au4,k0,e,nfl,q2,q3]
   first|refine aa2 fok150 (c3) ?_|refine aa8 (c3) ?_
   simp only[go_sem];exact aa9 rfl
  ·simp only[go_sem,j1,j2,j3,ba3,bd7,au4,k0,e,nfl,q4,q5,q6]
   first|refine aa2 fok151 (c4) ?_|refine aa8 (c4) ?_
   simp only[go_sem];exact aa9 rfl
end Go.Id.Tryz
namespace Go.Id.Tryz
open Go Go.Id Go.Proofs Go.Shelf Go.Id.Md
structure eb5 (r:Req):Prop where
 ag6:r.ag6.length<2^20
 ah6:r.ah6.length<2^20
 im2:∀ j∈r.ag6,Dep.small j.dep/\j.dep.name.length<2^30
theorem bc2 (r:Req):∀ c∈r.cs,Bnd 0 c:=is8 (.int _ _) (.bool _) (cg6 _) (bg5 _) (.int _ _)
theorem ix3 (r:Req):r.cs.length=5:=rfl
theorem ai3 (r:Req):r.cs.all IV.leaf=true:=rfl
theorem bn9 (r:Req):r.cs.take 5=r.cs:=rfl
theorem gs8 (j:Job)(h:Dep.small j.dep/\j.dep.name.length<2^30):PC Tryz.prog EE 60 [.agg j.cs] (.bool (!bb6 j)):=by
 refine ad9 hE fok60 (nZ rfl) (ah9 (if6 j)) ?_;have hd:=bs5 j.dep om (by have:=h.1.2.2.1; omega) (by have:=h.1.2.2.2; omega);have k0:j.cs.head? = zr (.int .u8 j.kind):=rfl;have k1:=cz2 j;have k2:(j.cs.drop 1).length=5:=rfl;unfold bb6;by_cases e1:j.kind<1
 ·have e1':¬ 1<=j.kind:=om
  simp only[ic60,go_sem,au4,k0,e1];exact aa9 (by simp[e1'])
 have e1':1<=j.kind:=om
 by_cases e2:4<j.kind
 ·have e2':¬ j.kind<=4:=om
  simp only[ic60,go_sem,au4,k0,e1,e2];exact aa9 (by simp[e2'])
 have e2':j.kind<=4:=om
 simp only[ic60,go_sem,au4,k0,k1,k2,e1,e2];refine aa2 fok61 (hd) ?_;simp only[go_sem];exact aa9 (by simp[e1',e2'])
theorem fz6 (e:bb4)(ag6 inst:Int):PC Tryz.prog EE 64 [.agg e.cs,.int .i64 ag6,.int .i64 inst] (.bool (aw8 e ag6 inst)):=by
 refine ad9 hE fok64 (nZ rfl) (as5 (cg7 e) (.int _ _) (.int _ _)) ?_;have k0:e.cs.head? = zr (.int .u8 e.kind):=rfl;have k1:(e.cs.drop 1).head? = zr (.int .i64 e.n):=rfl;unfold aw8;by_cases d1:e.kind=1
 case' pos=>
  have f1:(1:Int)<=1:=by decide
  have f2:(1:Int)<=4:=by decide
  rw[d1] at k0 ⊢;simp only[ic64,go_sem,ak7,k0,f1,f2,k1];generalize ag6=most
 case' neg=>
  rw[if_neg d1];by_cases d2:1<=e.kind
  case' neg=>
   simp only[ic64,go_sem,ak7,k0,d1,d2];exact aa9 (by simp)
  by_cases d3:e.kind<=4
  case' neg=>
   simp only[ic64,go_sem,ak7,k0,d1,d2,d3];exact aa9 (by simp)
  simp only[ic64,go_sem,ak7,k0,d1,d2,d3,k1];generalize inst=most
 all_goals
  by_cases d4:0<=e.n
  ·simp only[go_sem,d4,k1];exact aa9 (by simp)
  ·simp only[go_sem,d4];exact aa9 (by simp)
theorem ix4 (e:bb4)(p:Pool)(r:Req):PC Tryz.prog EE 63 [.agg e.cs,.ab8 r.cs,.ab8 [p.v]] (.bool (!aw8 e r.ag6.length p.inst)):=by
 refine ad9 hE fok63 (nZ rfl) (as5 (cg7 e) (.ab8 _ (bc2 r)) (.ab8 _ (ah9 (bi1 p)))) ?_;have h1:=bc4 p;have h2:=fz6 e r.ag6.length p.inst;have k2:(r.cs.drop 2).head? = zr (az8 r.ag6):=rfl;simp only[ic63,go_sem,ak7,ap3,aq8,k2]
 first|refine aa2 fok65 (h1) ?_|refine aa8 (h1) ?_
 simp only[go_sem];refine aa8 (h2) ?_;simp only[go_sem];exact aa9 rfl
theorem il8 (r:Req)(h1:r.ag6.length<=2147483648)(h2:r.ah6.length<=2147483648):PC Tryz.prog EE 67 [.agg r.cs] (.agg r.cs):=by
 refine ad9 hE fok67 (nZ rfl) (ah9 (.agg _ (bc2 r))) ?_;have c1:=ey8 r.ag6 h1;have c2:=en3 r.ah6 h2;have hb:=bc2 r;unfold Req.cs at *;simp only[ic67,go_sem];refine aa8 (c1) ?_;simp only[go_sem];refine aa8 (c2) ?_;simp only[go_sem];exact .keep _ (.agg _ hb)
theorem ix5 {α:Type}(q:α->Bool)(l:List α):(l.any fun x=>!q x)=!l.all q:=by
 induction l with
 | nil=>rfl
 | cons x l ih=>simp only[z7,zd,ih,Bool.not_and]
theorem gs9 (p:Pool)(r:Req)(hR:eb5 r)(hl:(af6 p).length<=256)(hf:∀ x∈af6 p,x.Fit/\x.Tiny):PC Tryz.prog EE 27 [p.v,.agg r.cs] (jc9 p r):=by
 refine ad9 hE fok27 (nZ rfl) (ag4 (bi1 p) (.agg _ (bc2 r))) ?_;have hm:=cr9 r.ap9;have hJ:=gy9 r.ag6 60 [] [] (fun j=>!bb6 j) (by have:=hR.ag6; omega) fok60.1 fun j hj=>gs8 j (hR.im2 j hj)
 have hEd:=gb7 r.ah6 63 [] [.ab8 r.cs,.ab8 [p.v]] (fun e=>!aw8 e r.ag6.length p.inst) (by have:=hR.ah6; omega) fok63.1 fun e he=>ix4 e p r
 rw[ix5] at hJ hEd;have hrl:p.rows.length=(af6 p).length:=by simp[af6]
 have hM:=bo3 p (fun x hx=>(hf _ (qa (f:=fun x:bh7=>x.pkg) hx)).1) om (fun x hx=>by
  have:=(hf _ (qa (f:=fun x:bh7=>x.pkg) hx)).2;have a:=this.ax9.1; have b:=this.obs.1; have c:=this.files; omega)
 have hM:PC Tryz.prog EE 66 [p.v] (.tuple [(aj2 (af6 p)).v,.int .i64 0]):=hM;have hO:=il8 r (by have:=hR.ag6; omega) (by have:=hR.ah6; omega);have hC:=bi2 p;rw[hrl] at hC
 have hpk:∀ j (h:j<(af6 p).length),PC Tryz.prog EE 69 [p.v,.int .i64 j] (.tuple [.agg (af6 p)[j].cs,.int .i64 0]):=fun j h=>by
  have hq:p.rows[j].pkg=(af6 p)[j]:=by simp[af6]
  have h1:=bj2 p j om (by rw[hq]; exact (hf _ (zc h)).1);rw[hq] at h1; exact h1
 have hbA:=ai6 ⟨p,r⟩;have k0:r.cs.head? = zr (.int .u8 r.ap9):=rfl;have k2:(r.cs.drop 2).head? = zr (az8 r.ag6):=rfl;have k3:(r.cs.drop 3).head? = zr (aq1 r.ah6):=rfl;have k4:(r.cs.drop 4).head? = zr (.int .i64 r.budget):=rfl;obtain ⟨V,hV⟩:∃ V,jc9 p r=V:=⟨_,rfl⟩
 have herr:∀ (s:Store) (e:Int),am5 r p.inst=e->e≠0->bw7 s 0 (.tuple [.af3,.int .i64 e]) V:=fun s e h1 h2=>by
  rw[<- hV];unfold jc9;rw[h1,if_neg h2];exact .keep _ (.tuple _ (ag4 .af3 (.int _ _)))
 rw[hV];have vcs:p.v.cs=[p.v]:=rfl;have vlf:p.v.leaf=true:=rfl;have vnl:∀ d:TypeId,by9 (.pointer d) p.v=zr false:=fun _=>rfl
 by_cases c1:bi9 r.ap9=false
 ·simp only[ic27,go_sem,vcs,zd,vlf,zh,ze,ai3,vnl,k0];refine aa2 fok58 (hm) ?_;simp only[go_sem,c1];exact herr _ 1 (by unfold am5; rw[if_pos (.inl c1)]) (by decide)
 have c1':bi9 r.ap9=true:=by simpa using c1
 by_cases c2:r.budget<0
 ·simp only[ic27,go_sem,vcs,zd,vlf,zh,ze,ai3,vnl,k0];refine aa2 fok58 (hm) ?_;simp only[go_sem,c1',k4,c2];exact herr _ 1 (by unfold am5; rw[if_pos (.inr (.inl c2))]) (by decide)
 by_cases c3:1099511627776<r.budget
 ·simp only[ic27,go_sem,vcs,zd,vlf,zh,ze,ai3,vnl,k0];refine aa2 fok58 (hm) ?_;simp only[go_sem,c1',k4,c2,c3];exact herr _ 1 (by unfold am5; rw[if_pos (.inr (.inr c3))]) (by decide)
 have q1:¬ (bi9 r.ap9=false\/r.budget<0\/1099511627776<r.budget):=fun h=>h.elim c1 fun h=>h.elim c2 c3
 by_cases c4:64<r.ag6.length
 ·have c4':(64:Int)<r.ag6.length:=om
  simp only[ic27,go_sem,vcs,zd,vlf,zh,ze,ai3,vnl,k0];refine aa2 fok58 (hm) ?_;simp only[go_sem,c1',k4,c2,c3,k2,c4'];exact herr _ 40 (by unfold am5; rw[if_neg q1,if_pos (.inl c4)]) (by decide)
 have c4':¬ (64:Int)<r.ag6.length:=om
 by_cases c5:64<r.ah6.length
 ·have c5':(64:Int)<r.ah6.length:=om
  simp only[ic27,go_sem,vcs,zd,vlf,zh,ze,ai3,vnl,k0];refine aa2 fok58 (hm) ?_;simp only[go_sem,c1',k4,c2,c3,k2,k3,c4',c5'];exact herr _ 40 (by unfold am5; rw[if_neg q1,if_pos (.inr c5)]) (by decide)
 have c5':¬ (64:Int)<r.ah6.length:=om
 have q2:¬ (64<r.ag6.length\/64<r.ah6.length):=fun h=>h.elim c4 c5
 by_cases c6:r.ag6.all bb6=false
 ·simp only[ic27,go_sem,vcs,zd,vlf,zh,ze,ai3,vnl,k0];refine aa2 fok58 (hm) ?_;simp only[go_sem,c1',k4,c2,c3,k2,k3,c4',c5'];refine aa2 fok59 (hJ) ?_;simp only[go_sem,c6,Bool.not_false];exact herr _ 4 (by unfold am5; rw[if_neg q1,if_neg q2,if_pos c6]) (by decide)
 have c6':r.ag6.all bb6=true:=by simpa using c6
 simp only[ic27,go_sem,vcs,zd,vlf,zh,ze,ai3,vnl,k0];refine aa2 fok58 (hm) ?_;simp only[go_sem,c1',k4,c2,c3,k2,k3,c4',c5'];refine aa2 fok59 (hJ) ?_;simp only[go_sem,c6',Bool.not_true,k3];refine aa2 fok62 (hEd) ?_;by_cases c7:(r.ah6.all fun e=>aw8 e r.ag6.length p.inst)=false
 ·simp only[go_sem,c7,Bool.not_false];exact herr _ 5 (by unfold am5; rw[if_neg q1,if_neg q2,if_neg c6,if_pos c7]) (by decide)
 have c7':(r.ah6.all fun e=>aw8 e r.ag6.length p.inst)=true:=by simpa using c7
 have hV0:V=.tuple [.ab8 [p.v,(aj2 (af6 p)).v,.int .u8 r.ap9,.bool r.vendor,az8 r.ag6,aq1 r.ah6,.int .i64 r.budget,.aa4 ((af6 p).map aa3.cs)],.int .i64 0]:=by
  rw[<- hV];unfold jc9;rw[if_pos (by unfold am5; rw[if_neg q1,if_neg q2,if_neg c6,if_neg c7])];rfl
 have hbX:=bg2 (aj2 (af6 p));have hbP:=bi1 p;rw[hV0];clear herr hV hV0 hJ hEd;simp only[go_sem,c7',Bool.not_true];refine aa2 fok66 (hM) ?_;simp only[go_sem,ix3,bn9]
 first|refine aa2 fok67 (hO) ?_|refine aa8 (hO) ?_
 have hrc:r.cs=[.int .u8 r.ap9,.bool r.vendor,az8 r.ag6,aq1 r.ah6,.int .i64 r.budget]:=rfl;rw[hrc];have xlf:(aj2 (af6 p)).v.leaf=true:=rfl;have xcs:(aj2 (af6 p)).v.cs=[(aj2 (af6 p)).v]:=rfl;generalize (aj2 (af6 p)).v=X at *;generalize hPv:p.v=Pv at *;simp only[go_sem,vcs,vlf,xlf,xcs];refine aa2 fok68 (hC) ?_;simp only[go_sem];refine ab2 noT (fun n fr s=>∃ gv,fr=[(2,.ab8 [Pv]),(8,.ptr 5 0),(65,.int .i64 (af6 p).length),(66,.int .i64 (n:Int))]/\7<=s.next/\s.obj 5=zr (.cells [Pv,X,.int .u8 r.ap9,.bool r.vendor,az8 r.ag6,aq1 r.ah6,.int .i64 r.budget,gv])/\Grow s gv 15 (((af6 p).take n).map aa3.cs)) (af6 p).length ⟨.aa1,rfl,zk _,by simp only[aa5,if_true],.inl ⟨rfl,rfl⟩⟩ ?_;rintro n fr s hn ⟨gv,rfl,hnx,ho,hg⟩;by_cases hlt:n<(af6 p).length
 ·have d1:(n:Int)<((af6 p).length:Int):=om
  have w1:=ac2 (i:=n) om;have hp:=hpk n hlt;have n5:¬ 5=s.next:=om
  have htk:(af6 p).take (n+1)=(af6 p).take n++[(af6 p)[n]]:=by
   rw[zy,zm hlt]; rfl
  have hgl:gv.leaf=true:=by rcases hg with ⟨rfl,_⟩|⟨id,rfl,_⟩<;>rfl
  have hgc:gv.cs=[gv]:=by rcases hg with ⟨rfl,_⟩|⟨id,rfl,_⟩<;>rfl
  simp only[go_sem,d1];refine aa2 fok69 (hp) ?_;simp only[go_sem,ag5,ag9,ad6,n5,ho,b_o,b_p,b_t];obtain ⟨s1,a1,a2,a3,a4⟩:=ho5 (k:=11) (nid:=s.next+1+1+1+1+1+1+1+1) (e:=(af6 p)[n].cs) (A:=.cells [.str [],.int .i64 0,.str [],.str [],.int .u8 0,.str [],.aa1,.aa1,.aa1,.aa1,.aa1,.aa1,.aa1,.aa1,.aa1]) (B:=.cells (af6 p)[n].cs) hg (bg1 _) ⟨rfl,rfl⟩ (by rw[zj,zt]; omega) ho om om;simp only[go_sem,a1,a3,b_o,b_p,b_t,w1];refine ⟨hlt,_,by rw[a2]; omega,rfl,?_⟩;rw[htk,z0];have a5:=a4 [Pv,X,.int .u8 r.ap9,.bool r.vendor,az8 r.ag6,aq1 r.ah6,.int .i64 r.budget,.slice (s.next+1+1+1+1+1+1+1+1) 0 (((af6 p).take n).length+1) 15] s1.next (by rw[a2]; omega);rw[zj] at a5;exact a5
 ·have hn':n=(af6 p).length:=om
  subst hn';have d1:¬ ((af6 p).length:Int)<((af6 p).length:Int):=om
  rw[z4] at hg;simp only[go_sem,d1]
  have hbe:∀ e∈(af6 p).map aa3.cs,∀ c∈e,Bnd 0 c:=fun e he c hc=>by
   obtain ⟨y,_,rfl⟩:=z8.1 he;exact bc3 y c hc
  refine .cs8 (.cons (.ptr 5 0 _ _ (zx _) (.inl ho) (zk _) (fun j hj=>?_)) (.cons (bg4 rfl) .nil))
  match j,hj with
  | 0,_=>exact .keep _ hbP
  | 1,_=>exact .keep _ hbX
  | 2,_=>exact .keep _ (.int _ _)
  | 3,_=>exact .keep _ (.bool _)
  | 4,_=>exact .keep _ (cg6 _)
  | 5,_=>exact .keep _ (bg5 _)
  | 6,_=>exact .keep _ (.int _ _)
  | 7,_=>exact hg.frz (fun x hx=>(bg1 _ x hx).1) (fun _ _=>zx _) hbe
end Go.Id.Tryz
namespace Go.Id.Tryz
open Go Go.Id Go.Proofs Go.Id.Md
end Go.Id.Tryz
namespace Go.Id.Tryz
open Go Go.Id Go.Proofs Go.Shelf Go.Id.Md
theorem aok {repos:List ao2}{inst:List aa3}{p:Pool}{r:Req}(hI:if4 repos inst)(hn:by3 repos inst=.inl p)(hR:eb5 r)(he:am5 r p.inst=0):AOK ⟨p,r⟩:=by
 have hf:=in1 hI hn;have hlen:(af6 p).length<=256:=by simp only[af6,zj]; exact fe1 hn
 unfold am5 at he;split at he
 ·cases he
 split at he
 ·cases he
 rename_i hb;split at he
 ·cases he
 rename_i hj;refine ⟨hlen,fun x hx=>(hf x hx).2.1,fun x hx=>(hf x hx).1,fun x hx=>(hf x hx).2.2,?_,?_,?_,fun j hj=>(hR.im2 j hj).1,fun j hjm=>?_⟩
 ·have h1:=ce3 hn
  have h2:p.inst=inst.length:=by
   unfold by3 at hn;split at hn
   ·cases hn
   split at hn
   ·cases hn
   split at hn
   ·cases hn; rfl
   ·cases hn
  show p.inst<=((af6 p).length:Nat);rw[h2,h1,z2]; omega
 ·show r.ag6.length<=64; omega
 ·show r.ah6.length<=128; omega
 ·have h1:r.ag6.all bb6=true:=by simpa using hj
  have h2:=List.all_eq_true.1 h1 j hjm;unfold bb6 at h2;simp only[zu,decide_eq_true_eq] at h2;exact ⟨h2.1.1,h2.1.2⟩
end Go.Id.Tryz
namespace Go.Id.Md
open Go Go.Id
def ab4.dcs (a:ab4):List IV:=.aa4 (a.l.map aa3.cs)::.int .i64 a.p.inst::a.r.cs
def ab4.dv (a:ab4):IV:=.ab8 a.dcs
end Go.Id.Md
namespace Go.Id.Tryz
open Go Go.Id Go.Proofs Go.Id.Md
theorem ar4 (a:ab4):Bnd 0 a.dv:=.ab8 _ fun c hc=>by
 rcases List.mem_cons.1 hc with rfl|hc
 ·exact aq4 _
 ·rcases List.mem_cons.1 hc with rfl|hc
  ·exact .int _ _
  ·exact bc2 a.r c hc
theorem as8 (a:ab4):a.dcs.head? = zr (.aa4 (a.l.map aa3.cs)):=rfl
theorem cw6 (a:ab4):(a.dcs.drop 1).head? = zr (.int .i64 a.p.inst):=rfl
theorem jy2 (a:ab4):(a.dcs.drop 2).head? = zr (.int .u8 a.r.ap9):=rfl
theorem jy3 (a:ab4):((a.dcs.drop 2).drop 1).head? = zr (.bool a.r.vendor):=rfl
theorem cf5 (a:ab4):((a.dcs.drop 2).drop 2).head? = zr (az8 a.r.ag6):=rfl
theorem ib7 (a:ab4):((a.dcs.drop 2).drop 3).head? = zr (aq1 a.r.ah6):=rfl
theorem ay6 (a:ab4):a.dv.cs=[a.dv]:=rfl
theorem an5 (a:ab4):a.dv.leaf=true:=rfl
theorem ae3 (a:ab4):a.dv=.ab8 a.dcs:=rfl
theorem cf6 (l:List bb4)(σ:Store):ch9 0 σ (aq1 l)=zr (.int .i64 l.length):=by unfold aq1; simp only[go_sem]
theorem al8 (l:List Job)(σ:Store):ch9 0 σ (az8 l)=zr (.int .i64 l.length):=by unfold az8; simp only[go_sem]
theorem gt1 (e:bb4):e.cs.head? = zr (.int .u8 e.kind):=rfl
theorem gt2 (e:bb4):(e.cs.drop 1).head? = zr (.int .i64 e.n):=rfl
theorem bo1 (a:ab4)(hA:AOK a)(k n:Int):PC Tryz.prog EE 80 [a.dv,.int .u8 k,.int .i64 n] (.bool (a.bc7 k n)):=by
 refine ad9 hE fok80 (nZ rfl) (as5 (ar4 a) (.int _ _) (.int _ _)) ?_;have hl:=hA.ah6;simp only[ic80,go_sem];refine ab2 noT (fun i fr s=>fr=[(0,a.dv),(1,.int .u8 k),(2,.int .i64 n),(7,.int .i64 (i:Int))]/\(⟨k,n⟩:bb4) ∉ a.r.ah6.take i) a.r.ah6.length ⟨rfl,by simp⟩ ?_;rintro i fr s hi ⟨rfl,hn⟩;by_cases hlt:i<a.r.ah6.length
 ·obtain ⟨x,hx,hxi,hdr,hget,htk⟩:=ac7 a.r.ah6 i hlt;have d1:(i:Int)<a.r.ah6.length:=om
  have d2:(0:Int)<=(i:Int):=om
  have w1:=ac2 (i:=i) om;have hg:=hget bb4.cs;by_cases e1:x.kind=k
  ·by_cases e2:x.n=n
   ·have hin:(⟨k,n⟩:bb4)∈a.r.ah6:=by
     have:x=⟨k,n⟩:=by cases x; simp only at e1 e2; subst e1; subst e2; rfl
     rw[<- this]; exact hx
    simp only[go_sem,ae3,ib7,cf6,aq1,d1,d2,hg,gt1,gt2,ap3,e1,e2,ac4];exact aa9 (decide_eq_true hin).symm
   ·simp only[go_sem,ae3,ib7,cf6,aq1,d1,d2,hg,gt1,gt2,ap3,e1,e2,w1,ac4];refine ⟨hlt,?_⟩;rw[htk,zz,not_or];exact ⟨hn,fun h=>e2 (by rw[<- qb.1 h])⟩
  ·simp only[go_sem,ae3,ib7,cf6,aq1,d1,d2,hg,gt1,gt2,ap3,e1,w1,ac4];refine ⟨hlt,?_⟩;rw[htk,zz,not_or];exact ⟨hn,fun h=>e1 (by rw[<- qb.1 h])⟩
 ·have d1:¬ (i:Int)<a.r.ah6.length:=om
  rw[zg om] at hn;simp only[go_sem,ae3,ib7,cf6,d1,ac4];exact aa9 (decide_eq_false hn).symm
theorem ct7 (a:ab4)(hA:AOK a)(n:Int):PC Tryz.prog EE 37 [a.dv,.int .i64 n] (.bool (a.dropped n)):=by
 refine ad9 hE fok37 (nZ rfl) (ag4 (ar4 a) (.int _ _)) ?_;have he:=bo1 a hA 1 n;by_cases h0:0<=n
 ·by_cases h1:n<a.r.ag6.length
  ·simp only[ic37,go_sem,ae3,cf5,al8,h0,h1,ac4];rw[<- ae3];refine aa2 fok80 (he) ?_;simp only[go_sem];exact aa9 (by unfold ab4.dropped ab4.job; simp[h0,h1])
  ·simp only[ic37,go_sem,ae3,cf5,al8,h0,h1,ac4];exact aa9 (by unfold ab4.dropped ab4.job; simp[h1])
 ·simp only[ic37,go_sem,ae3,cf5,al8,h0,ac4];exact aa9 (by unfold ab4.dropped ab4.job; simp[h0])
theorem el5 (a:ab4)(n:Int):PC Tryz.prog EE 34 [a.dv,.int .i64 n] (.bool (a.fits n)):=by
 refine ad9 hE fok34 (nZ rfl) (ag4 (ar4 a) (.int _ _)) ?_;have p4:∀ p:aa3,(p.cs.drop 4).head? = zr (.int .u8 p.ap9):=fun _=>rfl
 by_cases h0:0<=n
 ·by_cases h1:n<a.l.length
  ·obtain ⟨m,rfl⟩:∃ m:Nat,n=m:=⟨n.toNat,om⟩;have hm:m<a.l.length:=om
   have hg:(a.l.map aa3.cs).getD m []=(a.pk m).cs:=by simp[ab4.pk,za,hm]
   have hf:=ia6 a.r.ap9 (a.pk m).ap9;simp only[ic34,go_sem,ae3,as8,jy2,h0,h1,hg,p4,ai8,ac4];refine aa2 fok76 (hf) ?_;simp only[go_sem];exact aa9 (by unfold ab4.fits ab4.is; simp[h0,h1])
  ·simp only[ic34,go_sem,ae3,as8,h0,h1,ac4];exact aa9 (by unfold ab4.fits ab4.is; simp[h1])
 ·simp only[ic34,go_sem,ae3,as8,h0,ac4];exact aa9 (by unfold ab4.fits ab4.is; simp[h0])
theorem ba7 (a:ab4){m:Nat}(h:m<a.l.length):(a.l.map aa3.cs).getD m []=(a.pk m).cs:=by simp[ab4.pk,za,h]
theorem gt3 (a:ab4){p:Nat}(h:p<a.l.length):a.pk p∈a.l:=by
 have:a.pk p=a.l[p]:=by simp[ab4.pk,za,h]
 rw[this]; exact zc h
theorem fz7 (a:ab4)(hA:AOK a)(n m:Int):PC Tryz.prog EE 35 [a.dv,.int .i64 n,.int .i64 m] (.bool (a.twins n m)):=by
 refine ad9 hE fok35 (nZ rfl) (as5 (ar4 a) (.int _ _) (.int _ _)) ?_;by_cases h0:n<0
 ·simp only[ic35,go_sem,ae3,as8,h0,ac4];exact aa9 (by unfold ab4.twins ab4.is; simp[show ¬ 0<=n by omega])
 by_cases h1:m<0
 ·simp only[ic35,go_sem,ae3,as8,h0,h1,ac4];exact aa9 (by unfold ab4.twins ab4.is; simp[show ¬ 0<=m by omega])
 by_cases h2:(a.l.length:Int)<=n
 ·simp only[ic35,go_sem,ae3,as8,h0,h1,h2,ac4];exact aa9 (by unfold ab4.twins ab4.is; simp[show ¬ n<a.l.length by omega])
 by_cases h3:(a.l.length:Int)<=m
 ·simp only[ic35,go_sem,ae3,as8,h0,h1,h2,h3,ac4];exact aa9 (by unfold ab4.twins ab4.is; simp[show ¬ m<a.l.length by omega])
 by_cases h4:n=m
 ·simp only[ic35,go_sem,ae3,as8,h0,h1,h2,h3,h4,ac4];exact aa9 (by unfold ab4.twins; simp[h4])
 obtain ⟨x,rfl⟩:∃ x:Nat,n=x:=⟨n.toNat,om⟩;obtain ⟨y,rfl⟩:∃ y:Nat,m=y:=⟨m.toNat,om⟩;have c1:x<a.l.length:=om
 have c2:y<a.l.length:=om
 have d1:(0:Int)<=(x:Int):=om
 have d2:(0:Int)<=(y:Int):=om
 have d3:(x:Int)<a.l.length:=om
 have d4:(y:Int)<a.l.length:=om
 have gx:=ba7 a c1;have gy:=ba7 a c2;have sx:=hA.small _ (gt3 a c1);have sy:=hA.small _ (gt3 a c2);have ht:a.twins x y=ab4.fe6 (a.pk x) (a.pk y):=by unfold ab4.twins ab4.is; simp[h4,d1,d2,c1,c2]
 rw[ht];generalize a.pk x=p at *;generalize a.pk y=q at *;have ha:=gs6 p.ap9 q.ap9;have hc:=ca6 p.evr q.evr sx.1 sy.1;have p1:∀ p:aa3,(p.cs.drop 1).take 3=p.evr.cs:=fun _=>rfl
 have p4:∀ p:aa3,(p.cs.drop 4).head? = zr (.int .u8 p.ap9):=fun _=>rfl
 have l1:∀ p:aa3,3<=(p.cs.drop 1).length:=fun p=>by show 3<=14; decide
 unfold ab4.fe6;by_cases hnm:p.name=q.name
 ·simp only[ic35,go_sem,ae3,as8,h0,h1,h2,h3,h4,ac4,d1,d2,d3,d4,gx,gy,ai8,ai1,ah1,fz2,hnm,p4];refine aa2 fok77 (ha) ?_
  cases hap:ce5 p.ap9 q.ap9 with
  | false=>
   simp only[go_sem]
   exact aa9 (by simp)
  | true=>
   simp only[go_sem,p1,l1,cz1];refine aa2 fok78 (hc) ?_;simp only[go_sem];exact aa9 (by simp)
 ·simp only[ic35,go_sem,ae3,as8,h0,h1,h2,h3,h4,ac4,d1,d2,d3,d4,gx,gy,ai8,ai1,ah1,fz2,hnm];exact aa9 (by simp[hnm])
theorem eb6 (a:ab4){m:Nat}(h:m<a.r.ag6.length):(a.r.ag6.map Job.cs).getD m []=(a.jb m).cs:=by simp[ab4.jb,za,h]
theorem ix6 (a:ab4){p:Nat}(h:p<a.r.ag6.length):a.jb p∈a.r.ag6:=by
 have:a.jb p=a.r.ag6[p]:=by simp[ab4.jb,za,h]
 rw[this]; exact zc h
theorem il9 (j:Job):j.cs.head? = zr (.int .u8 j.kind):=rfl
theorem jr1 (j:Job):(j.cs.drop 1).take 5=j.dep.cs:=rfl
theorem im1 (j:Job):j.cs.length=6:=rfl
theorem ib8 (j:Job):(j.cs.drop 1).length=5:=rfl
theorem ib9 (a:ab4){n:Nat}(h:n<a.l.length)(d:Dep):decide ((n:Int)∈am3 a.l d)=named (a.pk n) d:=by
 have hp:a.l.getD n default=a.pk n:=rfl
 cases hb:named (a.pk n) d with
 | true=>exact decide_eq_true (ao3.2 ⟨n,rfl,h,by rw[hp]; exact hb⟩)
 | false=>
  refine decide_eq_false fun hm=>?_
  obtain ⟨m,h1,_,h3⟩:=ao3.1 hm;have:m=n:=om
  subst this;rw[hp,hb] at h3; cases h3
theorem ds7 (a:ab4)(hA:AOK a)(k:Int)(n:Nat)(hn:n<a.l.length):PC Tryz.prog EE 79 [a.dv,.int .u8 k,.int .i64 n] (.bool (a.az9 k n)):=by
 refine ad9 hE fok79 (nZ rfl) (as5 (ar4 a) (.int _ _) (.int _ _)) ?_;have hl:=hA.ag6;obtain ⟨f,hf⟩:∃ f:Nat->Bool,f=fun i:Nat=>decide ((a.jb i).kind=k)&&!a.dropped i&&decide ((n:Int)∈am3 a.l (a.jb i).dep):=⟨_,rfl⟩
 obtain ⟨g,hg⟩:∃ g:Nat->Bool,g=fun i=>(List.range i).any f:=⟨_,rfl⟩
 have hB:a.az9 k n=g a.r.ag6.length:=by rw[hg,hf]; rfl
 have hsn:∀ i,g (i+1)=(g i||f i):=fun i=>by rw[hg]; simp only[List.range_succ,List.any_append]; simp
 have hlast:∀ i,i<a.r.ag6.length->f i=true->g a.r.ag6.length=true:=fun i hi h=>by rw[hg]; exact List.any_eq_true.2 ⟨i,List.mem_range.2 hi,h⟩
 have hg0:g 0=false:=by rw[hg]; rfl
 clear hg;rw[hB];have e1:(0:Int)<=(n:Int):=om
 have e2:(n:Int)<a.l.length:=om
 have gn:=ba7 a hn;simp only[ic79,go_sem];refine ab2 noT (fun i fr s=>fr=[(0,a.dv),(1,.int .u8 k),(2,.int .i64 n),(7,.int .i64 (i:Int))]/\g i=false) a.r.ag6.length ⟨rfl,hg0⟩ ?_;rintro i fr s hi ⟨rfl,hno⟩;by_cases hlt:i<a.r.ag6.length
 ·have d1:(i:Int)<a.r.ag6.length:=om
  have d2:(0:Int)<=(i:Int):=om
  have w1:=ac2 (i:=i) om;have gj:=eb6 a hlt;have hD:=ct7 a hA i;have hN:=bl7 (a.pk n) (a.jb i).dep (hA.small _ (gt3 a hn)) (hA.im2 _ (ix6 a hlt));have hfi:f i=(decide ((a.jb i).kind=k)&&!a.dropped i&&named (a.pk n) (a.jb i).dep):=by rw[hf,<- ib9 a hn]
  have hst:=hsn i;rw[hno,zq] at hst;have hla:=hlast i hlt;rw[hfi] at hst hla;generalize a.jb i=jv at *;by_cases k1:jv.kind=k
  ·simp only[go_sem,ae3,cf5,al8,az8,d1,d2,gj,il9,im1,k1,ac4];rw[<- ae3];refine aa2 fok37 (hD) ?_
   cases hd:a.dropped i with
   | true=>
    rw[hd] at hst;simp only[go_sem,w1]
    exact ⟨hlt,by rw[hst]; simp⟩
   | false=>
    rw[hd] at hst hla;simp only[go_sem,ae3,as8,cf5,al8,az8,d1,d2,gj,gn,e1,e2,il9,jr1,im1,ib8,k1,ac4,ai8,ai1,ah1,ak2,ah7,ag7];refine aa2 fok50 (hN) ?_
    cases hb:named (a.pk n) jv.dep with
    | true=>
     simp only[go_sem]
     exact aa9 (hla (by rw[hb]; simp[k1])).symm
    | false=>
     rw[hb] at hst;simp only[go_sem,w1];exact ⟨hlt,by rw[hst]; simp⟩
  ·simp only[go_sem,ae3,cf5,al8,az8,d1,d2,gj,il9,im1,k1,w1,ac4];exact ⟨hlt,by rw[hst]; simp[k1]⟩
 ·have hi':i=a.r.ag6.length:=om
  subst hi';have d1:¬ (a.r.ag6.length:Int)<a.r.ag6.length:=om
  simp only[go_sem,ae3,cf5,al8,d1,ac4];exact aa9 hno.symm
theorem gt4 (a:ab4)(hA:AOK a)(n:Int):PC Tryz.prog EE 36 [a.dv,.int .i64 n] (.bool (a.goes n)):=by
 refine ad9 hE fok36 (nZ rfl) (ag4 (ar4 a) (.int _ _)) ?_;have he:=bo1 a hA 2 n;have hI:=hA.inst;by_cases h0:0<=n
 ·by_cases h1:n<a.p.inst
  ·obtain ⟨m,rfl⟩:∃ m:Nat,n=m:=⟨n.toNat,om⟩;have hN:=ds7 a hA 2 m om;have hin:a.inst m=true:=by unfold ab4.inst ab4.is; simp[h1]; omega
   have hg:a.goes m=(a.az9 2 m||a.bc7 2 m):=by unfold ab4.goes; rw[hin]; rfl
   rw[hg];simp only[ic36,go_sem,ae3,cw6,h0,h1,ac4];rw[<- ae3];refine aa2 fok79 (hN) ?_
   cases a.az9 2 m with
   | true=>simp only[go_sem]; exact aa9 (by simp)
   | false=>
    simp only[go_sem];refine aa2 fok80 (he) ?_;simp only[go_sem];exact aa9 (by simp)
  ·simp only[ic36,go_sem,ae3,cw6,h0,h1,ac4];exact aa9 (by unfold ab4.goes ab4.inst; simp[h1])
 ·simp only[ic36,go_sem,ae3,cw6,h0,ac4];exact aa9 (by unfold ab4.goes ab4.inst ab4.is; simp[h0])
end Go.Id.Tryz
namespace Go.Id.Tryz
open Go Go.Id Go.Proofs Go.Id.Md
theorem bd6 (st l:List Int)(h1:st.length<2^62)(h2:l.length<2^62):PC Tryz.prog EE 51 [.aa4 (st.map Md.ae1),.aa4 (l.map Md.ae1)] (.bool (ab4.some st l)):=by
 refine ad9 hE fok51 (nZ rfl) (ag4 (ad3 st) (ad3 l)) ?_;have hyes:∀ x,x∈st->x∈l->ab4.some st l=true:=fun x h1 h2=>List.any_eq_true.2 ⟨x,h2,decide_eq_true h1⟩
 simp only[ic51,go_sem];refine ab2 noT (fun i fr s=>fr=[(0,.aa4 (st.map Md.ae1)),(1,.aa4 (l.map Md.ae1)),(5,.int .i64 (i:Int))]/\∀ x∈st.take i,x ∉ l) st.length ⟨rfl,fun x h=>by simp at h⟩ ?_;rintro i fr s hi ⟨rfl,hno⟩;by_cases hlt:i<st.length
 ·have d1:(i:Int)<st.length:=om
  have d2:(0:Int)<=(i:Int):=om
  have w1:=ac2 (i:=i) om;have g1:(st.map Md.ae1).getD i []=[.int .i64 st[i]]:=by simp[za,hlt,Md.ae1]
  simp only[go_sem,d1];refine ab2 noT (fun j fr s=>fr=[(0,.aa4 (st.map Md.ae1)),(1,.aa4 (l.map Md.ae1)),(5,.int .i64 (i:Int)),(6,.int .i64 (j:Int))]/\st[i] ∉ l.take j) l.length ⟨rfl,by simp⟩ ?_;rintro j fr s hj ⟨rfl,hnj⟩;by_cases hlj:j<l.length
  ·have d3:(j:Int)<l.length:=om
   have d4:(0:Int)<=(j:Int):=om
   have w2:=ac2 (i:=j) om;have g2:(l.map Md.ae1).getD j []=[.int .i64 l[j]]:=by simp[za,hlj,Md.ae1]
   by_cases he:st[i]=l[j]
   ·simp only[go_sem,d1,d2,d3,d4,g1,g2,he];exact aa9 (hyes _ (zc hlt) (by rw[he]; exact zc hlj)).symm
   ·simp only[go_sem,d1,d2,d3,d4,g1,g2,he,w2];refine ⟨hlj,?_⟩;rw[zy,zm hlj,zz,not_or];exact ⟨hnj,fun h=>he (by simpa using h)⟩
  ·have d3:¬ (j:Int)<l.length:=om
   rw[zg om] at hnj;simp only[go_sem,d3,w1];refine ⟨hlt,fun x hx=>?_⟩;rw[zy,zm hlt,zz] at hx;rcases hx with hx|hx
   ·exact hno x hx
   ·have:x=st[i]:=by simpa using hx
    rw[this]; exact hnj
 ·have d1:¬ (i:Int)<st.length:=om
  rw[zg om] at hno;simp only[go_sem,d1];refine aa9 ?_
  symm
  unfold ab4.some;rw[List.any_eq_false];intro x hx h;exact hno x (of_decide_eq_true h) hx
end Go.Id.Tryz
namespace Go.Id.Md
open Go Go.Id
def ab4.im3 (a:ab4)(i n:Nat):Bool:=decide ((n:Int)=i)||a.jq8 i (a.pk n)||(!decide ((n:Int)=i)&&aa7 (a.pk n) (a.pk i))
end Go.Id.Md
namespace Go.Id.Tryz
open Go Go.Id Go.Proofs Go.Id.Md
theorem dh8 (a:ab4)(hA:AOK a)(i n:Nat)(hi:i<a.l.length)(hn:n<a.l.length):PC Tryz.prog EE 95 [a.dv,.int .i64 i,.int .i64 n] (.bool (a.im3 i n)):=by
 refine ad9 hE fok95 (nZ rfl) (as5 (ar4 a) (.int _ _) (.int _ _)) ?_;have d1:(0:Int)<=(i:Int):=om
 have d2:(0:Int)<=(n:Int):=om
 have d3:(i:Int)<a.l.length:=om
 have d4:(n:Int)<a.l.length:=om
 have gi:=ba7 a hi;have gn:=ba7 a hn;have si:=hA.small _ (gt3 a hi);have sn:=hA.small _ (gt3 a hn);have he3:=bo1 a hA 3 i;have he4:=bo1 a hA 4 i;have hn4:=ds7 a hA 4 i hi;generalize hR:a.im3 i n=R;unfold ab4.im3 ab4.jq8 ab4.dy5 at hR;generalize a.pk i=p at *;generalize a.pk n=q at *;have hO:=dh7 q p sn si;have hC:=ca6 q.evr p.evr sn.1 si.1;have hF:=ew3 q.ap9 p.ap9;have p1:∀ p:aa3,(p.cs.drop 1).take 3=p.evr.cs:=fun _=>rfl
 have p4:∀ p:aa3,(p.cs.drop 4).head? = zr (.int .u8 p.ap9):=fun _=>rfl
 have p5:∀ p:aa3,(p.cs.drop 5).head? = zr (.str p.vendor):=fun _=>rfl
 by_cases hni:(n:Int)=i
 ·simp only[ic95,go_sem,ae3,as8,ac4,d1,d2,d3,d4,gi,gn,ai8,ai1,ah1,hni];exact aa9 (by rw[<- hR]; simp[hni])
 simp only[ic95,go_sem,ae3,as8,ac4,d1,d2,d3,d4,gi,gn,ai8,ai1,ah1,hni];refine aa2 fok159 (hO) ?_
 cases hob:aa7 q p with
 | true=>
  simp only[go_sem]
  exact aa9 (by rw[<- hR]; simp[hni,hob])
 | false=>
 by_cases hnm:q.name=p.name
 case neg=>
  simp only[go_sem,fz2,hnm];exact aa9 (by rw[<- hR]; simp[hni,hnm,hob])
 simp only[go_sem,fz2,hnm,<- ae3];refine aa2 fok80 (he3) ?_;have hres:R=((a.bc7 3 i||a.az9 4 i||decide (0<=ar5 q.evr p.evr))&&(a.bc7 4 i||ay2 q.ap9 p.ap9)&&(a.r.vendor||decide (q.vendor=p.vendor))):=by rw[<- hR]; simp[hni,hnm,hob]
 clear hR;cases h3:a.bc7 3 i
 case' true=>simp only[go_sem]
 case' false=>
  simp only[go_sem];refine aa2 fok79 (hn4) ?_;cases h4:a.az9 4 i<;>simp only[go_sem]
 all_goals
  simp only[go_sem,p1,cz1];refine aa2 fok78 (hC) ?_;generalize ar5 q.evr p.evr=c at *;by_cases hc0:c<0
  case' pos=>
   have hc1:¬ 0<=c:=om
   simp only[go_sem,hc0,p4]
  case' neg=>
   have hc1:0<=c:=om
   simp only[go_sem,hc0,p4]
 all_goals try (exact aa9 (by rw[hres]; simp[*]))
 all_goals
  refine aa2 fok160 (hF) ?_;cases hfo:ay2 q.ap9 p.ap9
  case' true=>simp only[go_sem,p5]
  case' false=>
   simp only[go_sem,<- ae3];refine aa2 fok80 (he4) ?_;cases h5:a.bc7 4 i<;>simp only[go_sem,p5]
 all_goals try (exact aa9 (by rw[hres]; simp[*]))
 all_goals
  by_cases hv:q.vendor=p.vendor
  ·simp only[go_sem,hv];exact aa9 (by rw[hres]; simp[*])
  ·simp only[go_sem,hv,ae3,jy3,ac4];exact aa9 (by rw[hres]; simp[*])
theorem eb7 (a:ab4)(i:Int):a.au9 i=bd4 (fun n=>a.inst i&&a.im3 i.toNat n) a.l.length:=by
 unfold ab4.au9
 cases h:a.inst i with
 | true=>
  have h0:0<=i:=by
   unfold ab4.inst ab4.is at h;simp only[zu,decide_eq_true_eq] at h;exact h.1.1
  obtain ⟨m,rfl⟩:∃ m:Nat,i=m:=⟨i.toNat,om⟩;simp only[if_true,zv,zl]
  rfl
 | false=>
  have:bd4 (fun n=>false&&a.im3 i.toNat n) a.l.length=[]:=by
   unfold bd4;simp
  rw[this]; simp
theorem eb8 {t:Store}{gv:IV}{l:List Int}(hg:Grow t gv 1 (l.map Md.ae1)):bw7 t 0 gv (.aa4 (l.map Md.ae1)):=
 hg.frz (fun x hx=>(bs4 _ x hx).1) (fun _ _=>zx _) fun e he c hc=>by
  obtain ⟨n,_,rfl⟩:=z8.1 he;exact ah9 (.int _ _) c hc
theorem bf9 (a:ab4)(hA:AOK a)(i:Int):PC Tryz.prog EE 52 [a.dv,.int .i64 i] (.aa4 ((a.au9 i).map Md.ae1)):=by
 refine ad9 hE fok52 (nZ rfl) (ag4 (ar4 a) (.int _ _)) ?_;have hl:=hA.len;have hI:=hA.inst;rw[eb7];obtain ⟨f,hf⟩:∃ f:Nat->Bool,f=fun n=>a.inst i&&a.im3 i.toNat n:=⟨_,rfl⟩
 rw[<- hf];simp only[ic52,go_sem];refine ab2 noT (fun n fr t=>∃ gv,fr=[(0,a.dv),(1,.int .i64 i),(5,gv),(6,.int .i64 (n:Int))]/\Grow t gv 1 ((bd4 f n).map Md.ae1)) a.l.length ⟨.aa1,rfl,.inl ⟨rfl,rfl⟩⟩ ?_;rintro n fr t hn ⟨gv,rfl,hg⟩;by_cases hlt:n<a.l.length
 ·have d1:(n:Int)<a.l.length:=om
  have w1:=ac2 (i:=n) om;have hsn:=dr5 f n;have hnl:=br5 f n
  have hno:f n=false->∀ u:Store,u.obj=t.obj->t.next<=u.next->Grow u gv 1 ((bd4 f (n+1)).map Md.ae1):=fun h u h1 h2=>by
   rw[hsn,h];simp only[zo,if_false,zw];exact hg.mono h2 fun _ _ _=>by rw[h1]
  by_cases h0:0<=i
  ·by_cases h1:i<a.p.inst
   ·obtain ⟨m,rfl⟩:∃ m:Nat,i=m:=⟨i.toNat,om⟩;have hin:a.inst m=true:=by unfold ab4.inst ab4.is; simp[h1]; omega
    have hfn:f n=a.im3 m n:=by rw[hf,hin]; rfl
    have hS:=dh8 a hA m n om hlt;simp only[go_sem,ae3,as8,cw6,d1,h0,h1,ac4];rw[<- ae3];refine aa2 fok95 (hS) ?_
    cases hb:a.im3 m n with
    | true=>
     rw[hfn,hb,if_pos rfl] at hsn;obtain ⟨v',σ',h1,h2,h3⟩:=bg3 (n:=1) (nid:=t.next) (e:=[.int .i64 (n:Int)]) hg (bs4 _) ⟨rfl,rfl⟩ (by rw[zj]; omega) (zk _) om;simp only[go_sem,h1,w1];refine ⟨hlt,v',rfl,?_⟩;rw[hsn,z0]
     exact h3
    | false=>
     simp only[go_sem,w1];exact ⟨hlt,gv,rfl,hno (by rw[hfn,hb]) _ rfl (zk _)⟩
   ·have hfn:f n=false:=by rw[hf]; simp[ab4.inst,h1]
    simp only[go_sem,ae3,as8,cw6,d1,h0,h1,ac4,w1];exact ⟨hlt,gv,rfl,hno hfn _ rfl (zk _)⟩
  ·have hfn:f n=false:=by rw[hf]; simp[ab4.inst,ab4.is,h0]
   simp only[go_sem,ae3,as8,cw6,d1,h0,ac4,w1];exact ⟨hlt,gv,rfl,hno hfn _ rfl (zk _)⟩
 ·have hn':n=a.l.length:=om
  subst hn';have d1:¬ (a.l.length:Int)<a.l.length:=om
  simp only[go_sem,ae3,as8,d1,ac4];exact eb8 hg
theorem bx6 (a:ab4)(hA:AOK a)(i:Int):(a.au9 i).length<=256:=by
 rw[eb7];exact zp (br5 _ _) hA.len
theorem dh9 (a:ab4)(hA:AOK a)(i:Int):PC Tryz.prog EE 97 [a.dv,.int .i64 i] (.aa4 ((a.ch4 i).map Md.ae1)):=by
 refine ad9 hE fok97 (nZ rfl) (ag4 (ar4 a) (.int _ _)) ?_;have hS:=bf9 a hA i;have hsl:=bx6 a hA i
 have hsz:∀ n∈a.au9 i,0<=n/\n<a.l.length:=fun n hn=>by
  rw[eb7] at hn;obtain ⟨m,rfl,h1,_⟩:=ce4.1 hn;omega
 have hnw:a.ch4 i=(a.au9 i).filter fun n=>!(a.inst n || !a.fits n):=rfl
 rw[hnw];generalize a.au9 i=L at *;obtain ⟨q,hq⟩:∃ q:Int->Bool,q=fun n=>!(a.inst n || !a.fits n):=⟨_,rfl⟩
 rw[<- hq];simp only[ic97,go_sem];refine aa2 fok52 (hS) ?_;simp only[go_sem];refine ab2 noT (fun n fr t=>∃ gv,fr=[(0,a.dv),(5,gv),(6,.aa4 (L.map Md.ae1)),(7,.int .i64 (n:Int))]/\Grow t gv 1 (((L.take n).filter q).map Md.ae1)) L.length ⟨.aa1,rfl,.inl ⟨rfl,rfl⟩⟩ ?_;rintro n fr t hn ⟨gv,rfl,hg⟩;by_cases hlt:n<L.length
 ·have d1:(n:Int)<L.length:=om
  have d2:(0:Int)<=(n:Int):=om
  have w1:=ac2 (i:=n) om;have g:=(show (L.map Md.ae1).getD n []=[.int .i64 L[n]] by simp[za,hlt,Md.ae1]);have hz:=hsz _ (zc hlt)
  have htk:(L.take (n+1)).filter q=(L.take n).filter q++if q L[n] then [L[n]] else []:=by
   rw[zy,zm hlt,z3];congr 1;simp only[Option.toList,List.filter_cons,List.filter_nil]
  have hfl:((L.take n).filter q).length<=n:=by
   refine zp (zi _ _) ?_;rw[zt]; omega
  have hF:=el5 a L[n];generalize L[n]=z at *
  have hno:q z=false->∀ u:Store,u.obj=t.obj->t.next<=u.next->Grow u gv 1 (((L.take (n+1)).filter q).map Md.ae1):=fun h u h1 h2=>by
   rw[htk,h];simp only[zo,if_false,zw];exact hg.mono h2 fun _ _ _=>by rw[h1]
  have hiz:a.is z=true:=by unfold ab4.is; simp[hz.1,hz.2]
  by_cases h1:a.p.inst<=z
  ·have hin:a.inst z=false:=by unfold ab4.inst; simp[show ¬ z<a.p.inst by omega]
   have hqz:q z=a.fits z:=by rw[hq]; simp[hin]
   simp only[go_sem,ae3,cw6,d1,d2,g,h1,ac4];rw[<- ae3];refine aa2 fok34 (hF) ?_
   cases hb:a.fits z with
   | true=>
    rw[hqz,hb,if_pos rfl] at htk;obtain ⟨v',σ',h1,h2,h3⟩:=bg3 (n:=18) (nid:=t.next+17) (e:=[.int .i64 z]) hg (bs4 _) ⟨rfl,rfl⟩ (by rw[zj]; omega) om om;have h1':ba5 ({ next:=t.next+17+1,obj:=t.obj }:Store) (t.next+17) 1 gv (.aa4 [[.int .i64 z]])=zr (v',σ'):=h1;simp only[go_sem,d1,d2,g,h1',w1];refine ⟨hlt,v',rfl,?_⟩;rw[htk,z0]
    exact h3
   | false=>
    simp only[go_sem,w1];exact ⟨hlt,gv,rfl,hno (by rw[hqz,hb]) _ rfl (z5 _ _)⟩
  ·have hin:a.inst z=true:=by unfold ab4.inst; rw[hiz]; simp; omega
   have hqz:q z=false:=by rw[hq]; simp[hin]
   simp only[go_sem,ae3,cw6,d1,d2,g,h1,ac4,w1];exact ⟨hlt,gv,rfl,hno hqz _ rfl (z5 _ _)⟩
 ·have hn':n=L.length:=om
  subst hn';have d1:¬ (L.length:Int)<L.length:=om
  rw[z4] at hg;simp only[go_sem,d1];exact eb8 hg
theorem fz8 (q:aa3->Bool)(l:List aa3):∀ m:List aa3,(numsOf q (l++m)).filter (fun n:Int=>decide (n<(l.length:Int)))=numsOf q l:=by
 have hall:∀ l:List aa3,(numsOf q l).filter (fun n:Int=>decide (n<(l.length:Int)))=numsOf q l:=fun l=>List.filter_eq_self.2 fun n hn=>by
  obtain ⟨m,rfl,h,_⟩:=ao3.1 hn;exact decide_eq_true om
 have key:∀ k:Nat,∀ m:List aa3,m.length=k->(numsOf q (l++m)).filter (fun n:Int=>decide (n<(l.length:Int)))=numsOf q l:=by
  intro k
  induction k with
  | zero=>
   intro m hm;have:m=[]:=List.length_eq_zero_iff.1 hm;subst this
   rw[zw]; exact hall l
  | succ k ih=>
   intro m hm;have hne:m≠[]:=fun e=>by rw[e] at hm; cases hm
   obtain ⟨m',p,hmp⟩:=(List.eq_nil_or_concat m).resolve_left hne;rw[List.concat_eq_append] at hmp;subst hmp;rw[<- List.append_assoc,az7,z3,ih m' (by rw[z2,List.length_singleton] at hm; omega)]
   have:((if q p=true then [((l++m').length:Int)] else []):List Int).filter (fun n:Int=>decide (n<(l.length:Int)))=[]:=by
    split
    ·rw[z2];simp;omega
    ·rfl
   rw[this,zw]
 exact fun m=>key m.length m rfl
theorem ew7 (a:ab4)(hA:AOK a)(hp:0<=a.p.inst)(d:Dep):(am3 a.l d).filter (fun n=>a.inst n)=am3 (a.l.take a.p.inst.toNat) d:=by
 have hI:=hA.inst;have h:=fz8 (fun p=>named p d) (a.l.take a.p.inst.toNat) (a.l.drop a.p.inst.toNat);rw[List.take_append_drop,zt,Nat.min_eq_left om] at h;show (numsOf (fun p=>named p d) a.l).filter (fun n=>a.inst n)=numsOf (fun p=>named p d) (a.l.take a.p.inst.toNat);rw[<- h];refine qc fun n hn=>?_
 obtain ⟨m,rfl,h1,_⟩:=ao3.1 hn;unfold ab4.inst ab4.is;rw[Bool.eq_iff_iff];simp only[zu,decide_eq_true_eq];omega
theorem fz9 (a:ab4)(hA:AOK a)(hp:0<=a.p.inst)(j:Int):PC Tryz.prog EE 96 [a.dv,.int .i64 j] (.aa4 ((a.meant j).map Md.ae1)):=by
 refine ad9 hE fok96 (nZ rfl) (ag4 (ar4 a) (.int _ _)) ?_;have hl:=hA.len;have hI:=hA.inst;by_cases h0:j<0
 ·have:a.meant j=[]:=by unfold ab4.meant ab4.job; simp[show ¬ 0<=j by omega]
  rw[this];simp only[ic96,go_sem,ae3,h0,ac4];exact .by5
 by_cases h1:(a.r.ag6.length:Int)<=j
 ·have:a.meant j=[]:=by unfold ab4.meant ab4.job; simp[show ¬ j<a.r.ag6.length by omega]
  rw[this];simp only[ic96,go_sem,ae3,cf5,al8,h0,h1,ac4];exact .by5
 obtain ⟨m,rfl⟩:∃ m:Nat,j=m:=⟨j.toNat,om⟩;have hm:m<a.r.ag6.length:=om
 have d1:(0:Int)<=(m:Int):=om
 have d2:(m:Int)<a.r.ag6.length:=om
 have gj:=eb6 a hm;have hd:=hA.im2 _ (ix6 a hm)
 have hme:a.meant m=if (a.jb m).kind=1 then aj7 a.l (a.jb m).dep else if (a.jb m).kind=2 then am3 a.l (a.jb m).dep else am3 (a.l.take a.p.inst.toNat) (a.jb m).dep:=by
  have hj:a.job m=true:=by unfold ab4.job; simp[hm]
  unfold ab4.meant;rw[hj,if_pos rfl,ew7 a hA hp]
 rw[hme];generalize a.jb m=jv at *;have hP:=ea9 a.l jv.dep om hA.small hd;have hN:=ds6 a.l jv.dep om hA.small hd;have hT:=ds6 (a.l.take a.p.inst.toNat) jv.dep (by rw[zt]; omega) (fun p hp=>hA.small p (List.mem_of_mem_take hp)) hd;have jlf:jv.cs.all IV.leaf=true:=rfl;have jtk:jv.cs.take 6=jv.cs:=rfl;simp only[ic96,go_sem,ae3,cf5,al8,az8,h0,h1,d1,d2,gj,il9,im1,jlf,jtk,ac4];by_cases k1:jv.kind=1
 ·rw[if_pos k1];simp only[go_sem,k1,as8,il9,jr1,im1,ib8,ac4];refine aa2 fok161 (hP) ?_;simp only[go_sem];exact .keep _ (ad3 _)
 rw[if_neg k1];by_cases k2:jv.kind=2
 ·rw[if_pos k2];simp only[go_sem,zb,k2,as8,il9,jr1,im1,ib8,ac4];refine aa2 fok162 (hN) ?_;simp only[go_sem];exact .keep _ (ad3 _)
 rw[if_neg k2];obtain ⟨h,hh⟩:∃ h:Nat,a.p.inst=h:=⟨a.p.inst.toNat,om⟩;have hle:h<=a.l.length:=om
 have hsl:cw7 15 none (zr (.int .i64 a.p.inst)) (.aa4 (a.l.map aa3.cs))=zr (au3 (a.l.take a.p.inst.toNat)):=by
  rw[hh,zl];have e:(0:Int)<=h:=om
  have e3:(a.l.map aa3.cs).all (fun e=>e.length==15)=true:=by
   rw[List.all_eq_true];intro e he;obtain ⟨p,_,rfl⟩:=z8.1 he;rfl
  have e4:(0:Nat)<=h/\h<=(a.l.map aa3.cs).length/\(a.l.map aa3.cs).all (fun e=>e.length==15)=true:=⟨z9 _,by rw[zj]; exact hle,e3⟩;simp only[cw7,cs3,eo1,e,if_true,zl];rw[if_pos e4,List.drop_zero,<- List.map_take]
 simp only[go_sem,k1,k2,as8,cw6,il9,jr1,im1,ib8,ac4,hsl];refine aa2 fok162 (hT) ?_;simp only[go_sem];exact .keep _ (ad3 _)
end Go.Id.Tryz
namespace Go.Id.Tryz
open Go Go.Id Go.Proofs Go.Id.Md
theorem ew8 (a:ab4)(hA:AOK a)(j:Int):(a.meant j).length<=256:=by
 have hl:=hA.len;unfold ab4.meant;split
 ·split
  ·exact zp (aj3 _ _) hl
  ·split
   ·exact zp (aj3 _ _) hl
   ·exact zp (zi _ _) (zp (aj3 _ _) hl)
 ·exact z9 _
theorem el6 (a:ab4)(hA:AOK a)(hp:0<=a.p.inst)(j:Int)(st:List Int)(hs:st.length<2^40):PC Tryz.prog EE 53 [a.dv,.int .i64 j,.aa4 (st.map Md.ae1)] (.bool (a.aw7 j st)):=by
 refine ad9 hE fok53 (nZ rfl) (as5 (ar4 a) (.int _ _) (ad3 st)) ?_;by_cases h0:j<0
 ·have:a.aw7 j st=true:=by unfold ab4.aw7 ab4.job; simp[show ¬ 0<=j by omega]
  rw[this];simp only[ic53,go_sem,ae3,h0,ac4];exact aa9 rfl
 by_cases h1:(a.r.ag6.length:Int)<=j
 ·have:a.aw7 j st=true:=by unfold ab4.aw7 ab4.job; simp[show ¬ j<a.r.ag6.length by omega]
  rw[this];simp only[ic53,go_sem,ae3,cf5,al8,h0,h1,ac4];exact aa9 rfl
 obtain ⟨m,rfl⟩:∃ m:Nat,j=m:=⟨j.toNat,om⟩;have hm:m<a.r.ag6.length:=om
 have d1:(0:Int)<=(m:Int):=om
 have d2:(m:Int)<a.r.ag6.length:=om
 have gj:=eb6 a hm;have hkd:=hA.jo5 _ (ix6 a hm);have hj:a.job m=true:=by unfold ab4.job; simp[hm]
 have hMe:=fz9 a hA hp m;have hml:=ew8 a hA m
 have hfu:a.aw7 m st=if (a.jb m).kind=1 then ab4.some st (a.meant m) else if (a.jb m).kind=2 then !ab4.some st (a.meant m) else if (a.jb m).kind=3 then !(a.meant m).any (fun i=>!ab4.some st (a.au9 i)) else !(a.meant m).any fun i=>decide (0<(a.ch4 i).length)&&!ab4.some st (a.ch4 i):=by
  unfold ab4.aw7;rw[hj]; rfl
 rw[hfu];generalize a.meant m=L at *;generalize a.jb m=jv at *;have hH:=bd6 st L om om;simp only[ic53,go_sem,ae3,cf5,al8,h0,h1,ac4];rw[<- ae3];refine aa2 fok96 (hMe) ?_;simp only[go_sem,ae3,cf5,al8,az8,d1,d2,gj,il9,im1,ac4];rw[<- ae3];by_cases k1:jv.kind=1
 ·rw[if_pos k1];simp only[go_sem,zb,k1];refine aa2 fok51 (hH) ?_;simp only[go_sem];exact aa9 rfl
 rw[if_neg k1];by_cases k2:jv.kind=2
 ·rw[if_pos k2];simp only[go_sem,zb,k2];refine aa2 fok51 (hH) ?_;simp only[go_sem];exact aa9 rfl
 rw[if_neg k2];by_cases k3:jv.kind=3
 ·rw[if_pos k3];simp only[go_sem,zb,k3];refine ab2 noT (fun i fr s=>fr=[(0,a.dv),(2,.aa4 (st.map Md.ae1)),(7,.aa4 (L.map Md.ae1)),(8,.int .i64 (i:Int))]/\L.any (fun i=>!ab4.some st (a.au9 i))=(L.drop i).any fun i=>!ab4.some st (a.au9 i)) L.length ⟨rfl,rfl⟩ ?_;rintro i fr s hi ⟨rfl,ha⟩;by_cases hlt:i<L.length
  ·obtain ⟨z,hz,hzi,hdr,hget,htk⟩:=ac7 L i hlt;have e1:(i:Int)<L.length:=om
   have e2:(0:Int)<=(i:Int):=om
   have w1:=ac2 (i:=i) om;have g:=hget Md.ae1;have hS:=bf9 a hA z;have hsl:=bx6 a hA z;have hH2:=bd6 st (a.au9 z) om om;rw[cf2 hdr] at ha;simp only[go_sem,e1,e2,g,Md.ae1];refine aa2 fok52 (hS) ?_;simp only[go_sem];refine aa2 fok51 (hH2) ?_
   cases hb:ab4.some st (a.au9 z) with
   | true=>
    rw[hb] at ha;simp only[go_sem,w1]
    exact ⟨hlt,by rw[ha]; rfl⟩
   | false=>
    rw[hb] at ha;simp only[go_sem];exact aa9 (by rw[ha]; rfl)
  ·have hi':i=L.length:=om
   subst hi';have e1:¬ (L.length:Int)<L.length:=om
   rw[zf,List.any_nil] at ha;rw[ha];simp only[go_sem,e1];exact aa9 rfl
 ·rw [if_neg k3];simp only[go_sem,k1,k2,k3];refine ab2 noT (fun i fr s=>(∃ tl:Frm,fr=(0,a.dv)::(2,.aa4 (st.map Md.ae1))::(7,.aa4 (L.map Md.ae1))::(9,.int .i64 (i:Int))::tl)/\L.any (fun i=>decide (0<(a.ch4 i).length)&&!ab4.some st (a.ch4 i))=(L.drop i).any fun i=>decide (0<(a.ch4 i).length)&&!ab4.some st (a.ch4 i)) L.length ⟨⟨_,rfl⟩,rfl⟩ ?_;rintro i fr s hi ⟨⟨tl,rfl⟩,ha⟩;by_cases hlt:i<L.length
  ·obtain ⟨z,hz,hzi,hdr,hget,htk⟩:=ac7 L i hlt;have e1:(i:Int)<L.length:=om
   have e2:(0:Int)<=(i:Int):=om
   have w1:=ac2 (i:=i) om;have g:=hget Md.ae1;have hS:=dh9 a hA z;have hsl:=bx6 a hA z;have hnl:(a.ch4 z).length<=256:=zp (zi _ _) hsl;have hH2:=bd6 st (a.ch4 z) om om;rw[cf2 hdr] at ha;simp only[go_sem,e1,e2,g,Md.ae1];refine aa2 fok97 (hS) ?_;generalize a.ch4 z=N at *;by_cases hpos:0<N.length
   ·have e3:(0:Int)<N.length:=om
    simp only[go_sem,e3];refine aa2 fok51 (hH2) ?_
    cases hb:ab4.some st N with
    | true=>
     rw[hb] at ha;simp only[go_sem,w1]
     exact ⟨hlt,⟨_,rfl⟩,by rw[ha]; simp⟩
    | false=>
     rw[hb,decide_eq_true hpos] at ha;simp only[go_sem];exact aa9 (by rw[ha]; rfl)
   ·have e3:¬ (0:Int)<N.length:=om
    rw[decide_eq_false hpos] at ha;simp only[go_sem,e3,w1];exact ⟨hlt,⟨_,rfl⟩,by rw[ha]; simp⟩
  ·have hi':i=L.length:=om
   subst hi';have e1:¬ (L.length:Int)<L.length:=om
   rw[zf,List.any_nil] at ha;rw[ha];simp only[go_sem,e1];exact aa9 rfl
end Go.Id.Tryz
namespace Go.Id.Tryz
open Go Go.Id Go.Proofs Go.Shelf Go.Id.Md
def dr7 (l:List aa3)(n:Int):IV:=.ab8 [au3 l,.int .i64 n,.aa1,.aa1]
theorem ek4 (l:List aa3)(n:Int):Bnd 0 (dr7 l n):=.ab8 _ (hq9 (aq4 l) (.int _ _) .aa1 .aa1)
theorem bf5 (l:List aa3)(n:Int):(dr7 l n).cs=[dr7 l n]:=rfl
theorem an2 (l:List aa3)(n:Int):(dr7 l n).leaf=true:=rfl
theorem eu4 (l:List aa3)(inst n:Int):PC Tryz.prog EE 155 [dr7 l inst,.int .i64 n] (.bool (decide (0<=n)&&decide (n<l.length))):=by
 refine ad9 hE fok155 (nZ rfl) (ag4 (ek4 l inst) (.int _ _)) ?_;unfold dr7;by_cases h:0<=n
 ·simp only[ic155,go_sem,h,ac4]; exact aa9 (by simp)
 ·simp only[ic155,go_sem,h,ac4]; exact aa9 (by simp)
theorem bx5 (xs:List aa6){i:Nat}(h:i<xs.length):(xs.map aa6.cs).getD i []=xs[i].cs:=by simp[za,h]
def jx7 (l:List aa3)(inst:Int)(r:aa6):Prop:=∀ st:List Int,st.length<2^40->PC Tryz.prog EE 91 [dr7 l inst,.aa4 (st.map Md.ae1),.agg r.cs] (.bool (r.tr l (stB l.length st)))
theorem ff5 (l:List aa3)(inst:Int)(k:Int)(d:Dep)(xs:List aa6)(hk:k=6\/k=7/\xs.length=2)(hl:xs.length<2^40)(hA:∀ x∈xs,jx7 l inst x)(n:Int) :
  PC Tryz.prog EE 157 [dr7 l inst,.int .i64 n,.agg (aa6.mk k d xs).cs] (.bool (if k=7 then (aa6.trs l xs).getD 0 ff (stB l.length [n])&&!(aa6.trs l xs).getD 1 ff (stB l.length [n]) else (aa6.trs l xs).all fun f=>f (stB l.length [n]))):=by
 refine ad9 hE fok157 (nZ rfl) (as5 (ek4 l inst) (.int _ _) (ae9 _)) ?_;have hs:IV.aa4 [[.int .i64 n]]=.aa4 ([n].map Md.ae1):=rfl;have tg:∀ i (h:i<xs.length),(aa6.trs l xs).getD i ff=fun st=>xs[i].tr l st:=fun i h=>by rw[aa6.bj1]; simp[za,h]
 have hf:∀ x:aa6,x.cs.all IV.leaf=true:=fun x=>by rw[aa6.ak5]; rfl
 have ht:∀ x:aa6,x.cs.take 7=x.cs:=fun x=>zg (by rw[ab5]; exact zk _)
 rw[aa6.ak5];rcases hk with rfl|⟨rfl,h2⟩
 ·rw[if_neg (by decide),aa6.bj1,List.all_map];simp only[ic157,go_sem,zb,aa6.kind,aa6.args,aa6.dep,bf5,an2];refine ab2 noT (fun i fr t=>fr=[(0,dr7 l inst),(5,.ab8 [.int .u8 6,.str d.name,.int .u8 d.op,.int .i64 d.evr.ai5,.str d.evr.ver,.str d.evr.rel,.aa4 (xs.map aa6.cs)]),(7,.aa4 [[.int .i64 n]]),(8,.int .i64 (i:Int))]/\(xs.drop i).all (fun x=>x.tr l (stB l.length [n]))=xs.all fun x=>x.tr l (stB l.length [n])) xs.length ⟨rfl,rfl⟩ ?_;rintro i fr t hi ⟨rfl,ha⟩;by_cases hlt:i<xs.length
  ·obtain ⟨x,hx,_,hdr,hget,_⟩:=ac7 xs i hlt;have d1:(i:Int)<xs.length:=om
   have d2:(0:Int)<=i:=om
   have w1:=ac2 (i:=i) om;have hAx:=hA x hx [n] (by show 1<2^40; decide);rw[hdr,zd] at ha;simp only[go_sem,d1,d2,hget,ab5,ht,hf,bf5,an2,hs];refine aa2 fok91 (hAx) ?_
   cases hb:x.tr l (stB l.length [n]) with
   | true=>
    rw[hb,zv] at ha;simp only[go_sem,w1]
    exact ⟨hlt,ha⟩
   | false=>
    rw[hb,zn] at ha;simp only[go_sem];exact aa9 ha
  ·have d1:¬ (i:Int)<xs.length:=om
   have e:i=xs.length:=om
   subst e;rw[zf] at ha;simp only[go_sem,d1];exact aa9 ha
 ·have c0:(0:Int)<xs.length:=om
  have c1:(1:Int)<xs.length:=om
  have g0:=bx5 xs (i:=0) om;have g1:=bx5 xs (i:=1) om;have hA0:=hA xs[0] (zc om) [n] (by show 1<2^40; decide);have hA1:=hA xs[1] (zc om) [n] (by show 1<2^40; decide);rw[if_pos rfl,tg 0 om,tg 1 om];simp only[ic157,go_sem,zb,aa6.kind,aa6.args,aa6.dep,bf5,an2,c0,c1,g0,g1,ab5,ht,hf,hs];refine aa2 fok91 (hA0) ?_
  cases xs[0].tr l (stB l.length [n]) with
  | false=>simp only[go_sem]; exact aa9 rfl
  | true=>
   simp only[go_sem,c0,c1,g0,g1,ab5,ht,hf,bf5,an2,hs];refine aa2 fok91 (hA1) ?_;simp only[go_sem];exact aa9 (by simp)
theorem cy2 {α:Type}{q:α->Bool}{xs:List α}{i:Nat}{x:α}(h:xs.drop i=x::xs.drop (i+1)):(xs.drop i).any q=(q x||(xs.drop (i+1)).any q):=by rw[h,z7]
theorem iu8 (l:List aa3)(inst:Int)(hl:l.length<2^40)(hs:∀ p∈l,Pkg.small p)(r:aa6):r.Good->r.fit->jx7 l inst r:=by
 induction r using aa6.ind with
 | h k d xs ih=>
  intro hg hfit st hst;obtain ⟨f1,f2,f3,f4,f5⟩:=aa6.bc6.1 hfit;have hf:∀ x:aa6,x.cs.all IV.leaf=true:=fun x=>by rw[aa6.ak5]; rfl
  have ht:∀ x:aa6,x.cs.take 7=x.cs:=fun x=>zg (by rw[ab5]; exact zk _)
  have hbA:=ae9 (.mk k d xs);refine ad9 hE fok91 (nZ rfl) (as5 (ek4 l inst) (ad3 st) hbA) ?_;rw[aa6.ak5];simp only[aa6.kind,aa6.args,aa6.dep];have pd:dr7 l inst=.ab8 [au3 l,.int .i64 inst,.aa1,.aa1]:=rfl
  cases hg with
  | atom _ hd=>
   have htr:aa6.tr l (.mk 1 d []) (stB l.length st)=st.any fun z=>decide (0<=z)&&decide (z<l.length)&&provides (l.getD z.toNat default) d:=by
    rw[<- iu1]; rfl
   rw[htr];have hds:Dep.small d:=en4 hd;simp only[ic91,go_sem,zb];refine ab2 noT (fun i fr t=>fr=[(0,dr7 l inst),(1,.aa4 (st.map Md.ae1)),(5,.ab8 [.int .u8 1,.str d.name,.int .u8 d.op,.int .i64 d.evr.ai5,.str d.evr.ver,.str d.evr.rel,.aa4 (([]:List aa6).map aa6.cs)]),(7,.int .i64 (i:Int))]/\((st.drop i).any fun z=>decide (0<=z)&&decide (z<l.length)&&provides (l.getD z.toNat default) d)=st.any fun z=>decide (0<=z)&&decide (z<l.length)&&provides (l.getD z.toNat default) d) st.length ⟨rfl,rfl⟩ ?_;rintro i fr t hi ⟨rfl,ha⟩;by_cases hlt:i<st.length
   ·obtain ⟨z,hz,_,hdr,hget,_⟩:=ac7 st i hlt;have d1:(i:Int)<st.length:=om
    have d2:(0:Int)<=i:=om
    have w1:=ac2 (i:=i) om;have g:=hget Md.ae1;have hI:=eu4 l inst z;rw[cy2 hdr] at ha;simp only[go_sem,d1,d2,g,Md.ae1,bf5,an2];refine aa2 fok155 (hI) ?_;by_cases hz:0<=z/\z<l.length
    ·obtain ⟨m,rfl⟩:∃ m:Nat,z=m:=⟨z.toNat,om⟩;have hm:m<l.length:=om
     have c1:(0:Int)<=(m:Int):=om
     have c2:(m:Int)<l.length:=om
     have gp:(l.map aa3.cs).getD m []=(l.getD m default).cs:=by simp[za,hm]
     have hmem:l.getD m default∈l:=by
      rw[za,zm hm]; exact zc hm
     have hP:=cf3 (l.getD m default) d (hs _ hmem) hds;rw[zl] at ha;have dcs:[IV.str d.name,.int .u8 d.op,.int .i64 d.evr.ai5,.str d.evr.ver,.str d.evr.rel]=d.cs:=rfl;simp only[go_sem,c1,c2,d1,d2,g,gp,pd,Md.ae1,ag5,ag9,ad6,ac4,dcs,ak2,ah7,ag7];refine aa2 fok156 (hP) ?_
     cases hb:provides (l.getD m default) d with
     | true=>
      rw[hb] at ha;simp only[go_sem]
      exact aa9 (by rw[<- ha]; simp[c1,c2])
     | false=>
      rw[hb,z6,zq] at ha;simp only[go_sem,w1];exact ⟨hlt,ha⟩
    ·have hz':(decide (0<=z)&&decide (z<l.length))=false:=by
      rw[z1,decide_eq_false_iff_not,decide_eq_false_iff_not]; omega
     rw[hz',zn,zq] at ha;simp only[go_sem,hz',w1];exact ⟨hlt,ha⟩
   ·have d1:¬ (i:Int)<st.length:=om
    have e:i=st.length:=om
    subst e;rw[zf] at ha;simp only[go_sem,d1]
    exact aa9 ha
  | node _ _ _ h1 h2 h3 h4 h5=>
   have hA:∀ x∈xs,jx7 l inst x:=fun x hx=>ih x hx (h5 x hx) (f5 x hx)
   have hlx:xs.length<=24:=by unfold cv9 at h4; split at h4<;>(try split at h4)<;>(try split at h4)<;>omega
   have tg:∀ i (h:i<xs.length),(aa6.trs l xs).getD i ff=fun st=>xs[i].tr l st:=fun i h=>by rw[aa6.bj1]; simp[za,h]
   have tl:(aa6.trs l xs).length=xs.length:=by rw[aa6.bj1,zj]
   have c0:(0:Int)<xs.length:=om
   have c1:(1:Int)<xs.length:=om
   have g0:=bx5 xs (i:=0) om;have g1:=bx5 xs (i:=1) om;have hA0:=hA xs[0] (zc om) st hst;have hA1:=hA xs[1] (zc om) st hst;have hk:k=2\/k=3\/k=4\/k=5\/k=6\/k=7:=om
   rcases hk with rfl|rfl|rfl|rfl|rfl|rfl
   ·-- 2
    rw[show aa6.tr l (.mk 2 d xs) (stB l.length st)=trK l 2 d (aa6.trs l xs) (stB l.length st) from rfl];simp only[trK,zb,if_true,if_false,aa6.bj1,List.all_map];simp only[ic91,go_sem,zb];refine ab2 noT (fun i fr t=>fr=[(0,dr7 l inst),(1,.aa4 (st.map Md.ae1)),(5,.ab8 [.int .u8 2,.str d.name,.int .u8 d.op,.int .i64 d.evr.ai5,.str d.evr.ver,.str d.evr.rel,.aa4 (xs.map aa6.cs)]),(8,.int .i64 (i:Int))]/\((xs.drop i).all fun x=>x.tr l (stB l.length st))=xs.all fun x=>x.tr l (stB l.length st)) xs.length ⟨rfl,rfl⟩ ?_;rintro i fr t hi ⟨rfl,ha⟩;by_cases hlt:i<xs.length
    ·obtain ⟨x,hx,_,hdr,hget,_⟩:=ac7 xs i hlt;have d1:(i:Int)<xs.length:=om
     have d2:(0:Int)<=i:=om
     have w1:=ac2 (i:=i) om;have hAx:=hA x hx st hst;rw[hdr,zd] at ha;simp only[go_sem,d1,d2,hget,ab5,ht,hf,bf5,an2];refine aa2 fok91 (hAx) ?_
     cases hb:x.tr l (stB l.length st) with
     | true=>
      rw[hb,zv] at ha;simp only[go_sem,w1]
      exact ⟨hlt,ha⟩
     | false=>
      rw[hb,zn] at ha;simp only[go_sem];exact aa9 ha
    ·have d1:¬ (i:Int)<xs.length:=om
     have e:i=xs.length:=om
     subst e;rw[zf] at ha;simp only[go_sem,d1];exact aa9 ha
   ·-- 3
    rw[show aa6.tr l (.mk 3 d xs) (stB l.length st)=trK l 3 d (aa6.trs l xs) (stB l.length st) from rfl];simp only[trK,zb,if_true,if_false,aa6.bj1,List.any_map];simp only[ic91,go_sem,zb];refine ab2 noT (fun i fr t=>fr=[(0,dr7 l inst),(1,.aa4 (st.map Md.ae1)),(5,.ab8 [.int .u8 3,.str d.name,.int .u8 d.op,.int .i64 d.evr.ai5,.str d.evr.ver,.str d.evr.rel,.aa4 (xs.map aa6.cs)]),(9,.int .i64 (i:Int))]/\((xs.drop i).any fun x=>x.tr l (stB l.length st))=xs.any fun x=>x.tr l (stB l.length st)) xs.length ⟨rfl,rfl⟩ ?_;rintro i fr t hi ⟨rfl,ha⟩;by_cases hlt:i<xs.length
    ·obtain ⟨x,hx,_,hdr,hget,_⟩:=ac7 xs i hlt;have d1:(i:Int)<xs.length:=om
     have d2:(0:Int)<=i:=om
     have w1:=ac2 (i:=i) om;have hAx:=hA x hx st hst;rw[hdr,z7] at ha;simp only[go_sem,d1,d2,hget,ab5,ht,hf,bf5,an2];refine aa2 fok91 (hAx) ?_
     cases hb:x.tr l (stB l.length st) with
     | false=>
      rw[hb,zq] at ha;simp only[go_sem,w1]
      exact ⟨hlt,ha⟩
     | true=>
      rw[hb,Bool.true_or] at ha;simp only[go_sem];exact aa9 ha
    ·have d1:¬ (i:Int)<xs.length:=om
     have e:i=xs.length:=om
     subst e;rw[zf] at ha;simp only[go_sem,d1];exact aa9 ha
   ·-- 4
    rw[show aa6.tr l (.mk 4 d xs) (stB l.length st)=trK l 4 d (aa6.trs l xs) (stB l.length st) from rfl];simp only[trK,zb,if_true,if_false,tl];rw[tg 0 om,tg 1 om];simp only[ic91,go_sem,zb,c1,g1,ab5,ht,hf,bf5,an2];refine aa2 fok91 (hA1) ?_
    cases xs[1].tr l (stB l.length st) with
    | true=>
     simp only[if_true,if_false,zo];simp only[go_sem,c0,c1,g0,g1,ab5,ht,hf,bf5,an2];refine aa2 fok91 (hA0) ?_;simp only[go_sem]
     exact aa9 (by simp)
    | false=>
     simp only[if_true,if_false,zo];by_cases h3:xs.length=2
     ·have e2:(xs.length:Int)=2:=om
      have e3:¬ (xs.length:Int)=3:=om
      simp only[go_sem,zb,e2,e3];exact aa9 (by simp[h3])
     ·have h33:xs.length=3:=by simp only[cv9,zb,if_true,if_false] at h4; omega
      have e2:¬ (xs.length:Int)=2:=om
      have e3:(xs.length:Int)=3:=om
      have c2:(2:Int)<xs.length:=om
      have g2:=bx5 xs (i:=2) om;have hA2:=hA xs[2] (zc om) st hst;rw[tg 2 om];simp only[go_sem,zb,Int.reduceLT,e2,e3,c2,g2,ab5,ht,hf,bf5,an2];refine aa2 fok91 (hA2) ?_;simp only[go_sem];exact aa9 (by simp[h33])
   ·-- 5
    rw[show aa6.tr l (.mk 5 d xs) (stB l.length st)=trK l 5 d (aa6.trs l xs) (stB l.length st) from rfl];simp only[trK,zb,if_true,if_false,tl];rw[tg 0 om,tg 1 om];simp only[ic91,go_sem,zb,c1,g1,ab5,ht,hf,bf5,an2];refine aa2 fok91 (hA1) ?_
    cases xs[1].tr l (stB l.length st) with
    | false=>
     simp only[if_true,if_false,zo];simp only[go_sem,c0,c1,g0,g1,ab5,ht,hf,bf5,an2];refine aa2 fok91 (hA0) ?_;simp only[go_sem]
     exact aa9 (by simp)
    | true=>
     simp only[if_true,if_false,zo];by_cases h3:xs.length=2
     ·have e2:(xs.length:Int)=2:=om
      have e3:¬ (xs.length:Int)=3:=om
      simp only[go_sem,zb,e2,e3];exact aa9 (by simp[h3])
     ·have h33:xs.length=3:=by simp only[cv9,zb,if_true,if_false] at h4; omega
      have e2:¬ (xs.length:Int)=2:=om
      have e3:(xs.length:Int)=3:=om
      have c2:(2:Int)<xs.length:=om
      have g2:=bx5 xs (i:=2) om;have hA2:=hA xs[2] (zc om) st hst;rw[tg 2 om];simp only[go_sem,zb,Int.reduceLT,e2,e3,c2,g2,ab5,ht,hf,bf5,an2];refine aa2 fok91 (hA2) ?_;simp only[go_sem];exact aa9 (by simp[h33])
   ·-- 6
    rw[show aa6.tr l (.mk 6 d xs) (stB l.length st)=trK l 6 d (aa6.trs l xs) (stB l.length st) from rfl];simp only[trK,zb,if_true,if_false,dd3,go7];rw[go8];obtain ⟨F,hF⟩:∃ F:Nat->Bool,F=fun n:Nat=>((aa6.trs l xs).all fun f=>f (stB l.length [(n:Int)])):=⟨_,rfl⟩
    have hone:∀ n:Nat,PC Tryz.prog EE 157 [dr7 l inst,.int .i64 n,.agg (aa6.mk 6 d xs).cs] (.bool (F n)):=fun n=>by
     rw[hF];have:=ff5 l inst 6 d xs (.inl rfl) om hA n
     simpa only[zb,if_true,if_false] using this
    have hF2:∀ n:Nat,((aa6.trs l xs).all fun f=>f (stB l.length [(n:Int)]))=F n:=fun n=>by rw[hF]
    simp only[hF2];have rcs:[IV.int .u8 6,.str d.name,.int .u8 d.op,.int .i64 d.evr.ai5,.str d.evr.ver,.str d.evr.rel,.aa4 (xs.map aa6.cs)]=(aa6.mk 6 d xs).cs:=(aa6.ak5 (.mk 6 d xs)).symm;simp only[ic91,go_sem,zb];rw[rcs];refine ab2 noT (fun i fr t=>fr=[(0,dr7 l inst),(1,.aa4 (st.map Md.ae1)),(5,.ab8 (aa6.mk 6 d xs).cs),(10,.int .i64 (i:Int))]/\((st.drop i).any fun z=>decide (0<=z)&&decide (z<l.length)&&F z.toNat)=st.any fun z=>decide (0<=z)&&decide (z<l.length)&&F z.toNat) st.length ⟨rfl,rfl⟩ ?_;rintro i fr t hi ⟨rfl,ha⟩;by_cases hlt:i<st.length
    ·obtain ⟨z,hz,_,hdr,hget,_⟩:=ac7 st i hlt;have d1:(i:Int)<st.length:=om
     have d2:(0:Int)<=i:=om
     have w1:=ac2 (i:=i) om;have g:=hget Md.ae1;have hI:=eu4 l inst z;rw[cy2 hdr] at ha;simp only[go_sem,d1,d2,g,Md.ae1,bf5,an2];refine aa2 fok155 (hI) ?_;by_cases hz:0<=z/\z<l.length
     ·obtain ⟨m,rfl⟩:∃ m:Nat,z=m:=⟨z.toNat,om⟩;have c1:(0:Int)<=(m:Int):=om
      have c2:(m:Int)<l.length:=om
      have hO:=hone m;rw[zl] at ha;simp only[go_sem,c1,c2,d1,d2,g,Md.ae1,ab5,ht,hf,bf5,an2];refine aa2 fok157 (hO) ?_
      cases hb:F m with
      | true=>
       rw[hb] at ha;simp only[go_sem]
       exact aa9 (by rw[<- ha]; simp[c1,c2])
      | false=>
       rw[hb,z6,zq] at ha;simp only[go_sem,w1];exact ⟨hlt,ha⟩
     ·have hz':(decide (0<=z)&&decide (z<l.length))=false:=by
       rw[z1,decide_eq_false_iff_not,decide_eq_false_iff_not]; omega
      rw[hz',zn,zq] at ha;simp only[go_sem,hz',w1];exact ⟨hlt,ha⟩
    ·have d1:¬ (i:Int)<st.length:=om
     have e:i=st.length:=om
     subst e;rw[zf] at ha;simp only[go_sem,d1];exact aa9 ha
   ·-- 7
    rw[show aa6.tr l (.mk 7 d xs) (stB l.length st)=trK l 7 d (aa6.trs l xs) (stB l.length st) from rfl];simp only[trK,zb,if_true,if_false,dd3,go7];rw[go8];obtain ⟨F,hF⟩:∃ F:Nat->Bool,F=fun n:Nat=>((aa6.trs l xs).getD 0 ff (stB l.length [(n:Int)])&&!(aa6.trs l xs).getD 1 ff (stB l.length [(n:Int)])):=⟨_,rfl⟩
    have hone:∀ n:Nat,PC Tryz.prog EE 157 [dr7 l inst,.int .i64 n,.agg (aa6.mk 7 d xs).cs] (.bool (F n)):=fun n=>by
     rw[hF];have:=ff5 l inst 7 d xs (.inr ⟨rfl,by simp only[cv9,zb,if_true,if_false] at h4; omega⟩) om hA n
     simpa only[zb,if_true,if_false] using this
    have hF2:∀ n:Nat,((aa6.trs l xs).getD 0 ff (stB l.length [(n:Int)])&&!(aa6.trs l xs).getD 1 ff (stB l.length [(n:Int)]))=F n:=fun n=>by rw[hF]
    simp only[hF2];have rcs:[IV.int .u8 7,.str d.name,.int .u8 d.op,.int .i64 d.evr.ai5,.str d.evr.ver,.str d.evr.rel,.aa4 (xs.map aa6.cs)]=(aa6.mk 7 d xs).cs:=(aa6.ak5 (.mk 7 d xs)).symm;simp only[ic91,go_sem,zb];rw[rcs];refine ab2 noT (fun i fr t=>fr=[(0,dr7 l inst),(1,.aa4 (st.map Md.ae1)),(5,.ab8 (aa6.mk 7 d xs).cs),(10,.int .i64 (i:Int))]/\((st.drop i).any fun z=>decide (0<=z)&&decide (z<l.length)&&F z.toNat)=st.any fun z=>decide (0<=z)&&decide (z<l.length)&&F z.toNat) st.length ⟨rfl,rfl⟩ ?_;rintro i fr t hi ⟨rfl,ha⟩;by_cases hlt:i<st.length
    ·obtain ⟨z,hz,_,hdr,hget,_⟩:=ac7 st i hlt;have d1:(i:Int)<st.length:=om
     have d2:(0:Int)<=i:=om
     have w1:=ac2 (i:=i) om;have g:=hget Md.ae1;have hI:=eu4 l inst z;rw[cy2 hdr] at ha;simp only[go_sem,d1,d2,g,Md.ae1,bf5,an2];refine aa2 fok155 (hI) ?_;by_cases hz:0<=z/\z<l.length
     ·obtain ⟨m,rfl⟩:∃ m:Nat,z=m:=⟨z.toNat,om⟩;have c1:(0:Int)<=(m:Int):=om
      have c2:(m:Int)<l.length:=om
      have hO:=hone m;rw[zl] at ha;simp only[go_sem,c1,c2,d1,d2,g,Md.ae1,ab5,ht,hf,bf5,an2];refine aa2 fok157 (hO) ?_
      cases hb:F m with
      | true=>
       rw[hb] at ha;simp only[go_sem]
       exact aa9 (by rw[<- ha]; simp[c1,c2])
      | false=>
       rw[hb,z6,zq] at ha;simp only[go_sem,w1];exact ⟨hlt,ha⟩
     ·have hz':(decide (0<=z)&&decide (z<l.length))=false:=by
       rw[z1,decide_eq_false_iff_not,decide_eq_false_iff_not]; omega
      rw[hz',zn,zq] at ha;simp only[go_sem,hz',w1];exact ⟨hlt,ha⟩
    ·have d1:¬ (i:Int)<st.length:=om
     have e:i=st.length:=om
     subst e;rw[zf] at ha;simp only[go_sem,d1];exact aa9 ha
theorem by8 (l:List aa3)(inst:Int)(hl:l.length<2^40)(hs:∀ p∈l,Pkg.small p)(st:List Int)(hst:st.length<2^40)(r:aa6)(h1:r.fit)(h2:r.count<2^31)(h3:r.depth<2^62) :
  PC Tryz.prog EE 48 [dr7 l inst,.aa4 (st.map Md.ae1),.agg r.cs] (.bool (gc9 l st r)):=by
 refine ad9 hE fok48 (nZ rfl) (as5 (ek4 l inst) (ad3 st) (ae9 _)) ?_;have hW:=gz2 r h1 om h3;have hf:r.cs.all IV.leaf=true:=by rw[aa6.ak5]; rfl
 have ht:r.cs.take 7=r.cs:=zg (by rw[ab5]; exact zk _);unfold gc9;simp only[ic48,go_sem,hf,ht,ab5,bf5,an2];refine aa2 fok90 (hW) ?_
 cases hw:by7 r with
 | false=>simp only[go_sem]; exact aa9 rfl
 | true=>
  have hg:=aa6.gp2 r (by unfold by7 at hw; simp only[zu] at hw; exact hw.1.1);have hI:=iu8 l inst hl hs r hg h1 st hst;simp only[go_sem,hf,ht,ab5,bf5,an2];refine aa2 fok91 (hI) ?_;simp only[go_sem];exact aa9 (by simp)
theorem gp6 (st:List Int)(n:Int)(hs:st.length<2^30):PC Tryz.prog EE 92 [.aa4 (st.map Md.ae1),.int .i64 n] (.aa4 ((ab4.less st n).map Md.ae1)):=by
 refine ad9 hE fok92 (nZ rfl) (ag4 (ad3 st) (.int _ _)) ?_;simp only[ic92,go_sem];refine ab2 noT (fun i fr t=>∃ gv,fr=[(0,.aa4 (st.map Md.ae1)),(1,.int .i64 n),(5,gv),(6,.int .i64 (i:Int))]/\Grow t gv 1 ((ab4.less (st.take i) n).map Md.ae1)) st.length ⟨.aa1,rfl,.inl ⟨rfl,rfl⟩⟩ ?_;rintro i fr t hi ⟨gv,rfl,hg⟩;by_cases hlt:i<st.length
 ·obtain ⟨z,hz,_,hdr,hget,htk⟩:=ac7 st i hlt;have d1:(i:Int)<st.length:=om
  have d2:(0:Int)<=i:=om
  have w1:=ac2 (i:=i) om;have g:=hget Md.ae1
  have hsn:ab4.less (st.take (i+1)) n=ab4.less (st.take i) n++if z=n then [] else [z]:=by
   unfold ab4.less;rw[htk,z3];congr 1;by_cases e:z=n<;>simp[e]
  have hfl:(ab4.less (st.take i) n).length<=i:=by
   refine zp (zi _ _) ?_;rw[zt]; omega
  by_cases e:z=n
  ·rw[if_pos e,zw] at hsn;simp only[go_sem,d1,d2,g,Md.ae1,e,w1];exact ⟨hlt,gv,rfl,by rw[hsn]; exact hg⟩
  ·rw[if_neg e] at hsn;obtain ⟨v',σ',h1,h2,h3⟩:=bg3 (n:=1) (nid:=t.next) (e:=[.int .i64 z]) hg (bs4 _) ⟨rfl,rfl⟩ (by rw[zj]; omega) om om;have h1':ba5 ({ next:=t.next+1,obj:=t.obj }:Store) t.next 1 gv (.aa4 [[.int .i64 z]])=zr (v',σ'):=h1;simp only[go_sem,d1,d2,g,Md.ae1,e,h1',w1];refine ⟨hlt,v',rfl,?_⟩;rw[hsn,z0];exact h3
 ·have hn':i=st.length:=om
  subst hn';have d1:¬ (st.length:Int)<st.length:=om
  rw[z4] at hg;simp only[go_sem,d1];exact eb8 hg
theorem ek5 (l:List aa3)(inst:Int)(hl:l.length<2^40)(hs:∀ p∈l,Pkg.small p)(st:List Int)(hst:st.length<2^30)(n:Int)(r:aa6)(h1:r.fit)(h2:r.count<2^31)(h3:r.depth<2^62) :
  PC Tryz.prog EE 49 [dr7 l inst,.aa4 (st.map Md.ae1),.int .i64 n,.agg r.cs] (.bool (gc9 l (ab4.less st n) r)):=by
 refine ad9 hE fok49 (nZ rfl) (hq9 (ek4 l inst) (ad3 st) (.int _ _) (ae9 _)) ?_;have hL:=gp6 st n hst;have hS:=by8 l inst hl hs (ab4.less st n) (Nat.lt_of_le_of_lt (zi _ _) om) r h1 h2 h3
 have hf:r.cs.all IV.leaf=true:=by rw[aa6.ak5]; rfl
 have ht:r.cs.take 7=r.cs:=zg (by rw[ab5]; exact zk _);simp only[ic49,go_sem,hf,ht,ab5,bf5,an2];refine aa8 (hL) ?_;simp only[go_sem,hf,ht,ab5,bf5,an2]
 first|refine aa2 fok48 (hS) ?_|refine aa8 (hS) ?_
 simp only[go_sem];exact aa9 rfl
end Go.Id.Tryz
namespace Go.Id.Tryz
open Go Go.Id Go.Proofs Go.Shelf Go.Id.Md
theorem iu9 (r:aa6)(wh:Int)(hf:r.fit)(hc:r.count<2^31):PC Tryz.prog EE 176 [.agg r.cs,.int .u8 wh] (.int .i64 (au8 r wh)):=by
 refine ad9 hE fok176 (nZ rfl) (ag4 (ae9 _) (.int _ _)) ?_;have h1:=gs2 r hf om;have hd:r.depth<2^62:=by have:=cy7 r; omega
 have h2:=gs3 r hf hd;have h3:=ia4 wh r hf false;rw[et5];by_cases w1:wh<1
 ·rw[if_pos (.inl w1)];simp only[ic176,go_sem,ab6,w1];exact ad5 _ _
 by_cases w2:3<wh
 ·rw[if_pos (.inr w2)];simp only[ic176,go_sem,ab6,w1,w2];exact ad5 _ _
 rw[if_neg om];simp only[ic176,go_sem,ab6,w1,w2,ab5,ac8];refine aa2 fok228 (h1) ?_;by_cases c1:24<r.count
 ·have d1:(24:Int)<r.count:=om
  rw[if_pos c1];simp only[go_sem,d1];exact ad5 _ _
 have d1:¬ (24:Int)<r.count:=om
 rw[if_neg c1];simp only[go_sem,d1,ab5,ac8,ab6];refine aa2 fok229 (h2) ?_;by_cases c2:8<r.depth
 ·have d2:(8:Int)<r.depth:=om
  rw[if_pos c2];simp only[go_sem,d2];exact ad5 _ _
 have d2:¬ (8:Int)<r.depth:=om
 rw[if_neg c2];simp only[go_sem,d2,ab5,ac8,ab6];refine aa2 fok230 (h3) ?_
 cases r.cv6 wh false with
 | true=>simp only[go_sem]; exact bg4 (by simp)
 | false=>simp only[go_sem]; exact bg4 (by simp)
theorem eu5 (l:List aa6)(wh:Int)(hl:l.length<2^31)(hf:∀ r∈l,r.fit/\r.count<2^31):PC Tryz.prog EE 105 [ai9 l,.int .u8 wh] (.bool (ae6 l wh)):=by
 refine ad9 hE fok105 (nZ rfl) (ag4 (ak8 l) (.int _ _)) ?_;unfold ae6;by_cases h1:l.length<=32
 case neg=>
  have c1:(32:Int)<l.length:=om
  simp only[ic105,go_sem,c1];exact aa9 (by simp[h1])
 have c1:¬ (32:Int)<l.length:=om
 simp only[ic105,go_sem,c1];refine ab2 noT (fun i fr t=>fr=[(0,ai9 l),(1,.int .u8 wh),(5,.int .i64 (i:Int))]/\((l.drop i).all fun r=>decide (au8 r wh=0))=l.all fun r=>decide (au8 r wh=0)) l.length ⟨rfl,rfl⟩ ?_;rintro i fr t hi ⟨rfl,ha⟩;by_cases hlt:i<l.length
 ·obtain ⟨x,hx,_,hdr,hget,_⟩:=ac7 l i hlt;have d1:(i:Int)<l.length:=om
  have d2:(0:Int)<=i:=om
  have w1:=ac2 (i:=i) om;have hm:=iu9 x wh (hf x hx).1 (hf x hx).2;rw[hdr,zd] at ha;simp only[go_sem,d1,d2,hget,ab5,ac8,ab6];refine aa2 fok176 (hm) ?_;by_cases hb:au8 x wh=0
  ·rw[decide_eq_true hb,zv] at ha;simp only[go_sem,hb,w1];exact ⟨hlt,ha⟩
  ·rw[decide_eq_false hb,zn] at ha;simp only[go_sem,hb];exact aa9 (by rw[<- ha]; simp)
 ·have d1:¬ (i:Int)<l.length:=om
  have e:i=l.length:=om
  subst e;rw[zf] at ha;simp only[go_sem,d1];exact aa9 (by rw[<- ha]; simp[h1])
theorem ff6 (p:aa3)(hf:p.Fit):PC Tryz.prog EE 56 [.agg p.cs] (.bool (ah4 p)):=by
 refine ad9 hE fok56 (nZ rfl) (af1 (al2 _)) ?_;have g1:=ea5 p.name hf.name;have g2:=ea6 p.name hf.name;have g3:=gr9 p.evr false hf.evr.1 hf.evr.2;have g4:=ea8 p.ap9;have g4':=bo2 p.ap9;unfold EVR.cs at g3;simp only[ic56,go_sem,ad6,aa3.cs];refine aa2 fok100 (g1) ?_
 cases h1:au6 p.name with
 | false=>simp only[go_sem]; exact aa9 (by simp[ah4,h1])
 | true=>
 simp only[go_sem];refine aa2 fok101 (g2) ?_
 cases h2:ay5 p.name with
 | true=>simp only[go_sem]; exact aa9 (by simp[ah4,h2])
 | false=>
 simp only[go_sem];refine aa2 fok102 (g3) ?_
 cases h3:bh6 p.evr false with
 | false=>simp only[go_sem]; exact aa9 (by simp[ah4,h3])
 | true=>
 simp only[go_sem];refine aa2 fok103 (g4) ?_
 cases h4:al7 p.ap9 with
 | false=>
  rw[h4] at g4'
  simp only[go_sem,g4']; exact aa9 (by simp[ah4,h4])
 | true=>
 rw[h4] at g4';simp only[go_sem,g4'];by_cases h5:p.vendor.length<=64
 case neg=>
  have h5':(64:Int)<p.vendor.length:=om
  simp only[go_sem,h5']; exact aa9 (by simp[ah4,h5])
 have h5':¬ (64:Int)<p.vendor.length:=om
 simp only[go_sem,h5'];by_cases h6:p.files.length<=32
 case neg=>
  have h6':(32:Int)<p.files.length:=om
  simp only[go_sem,h6']; exact aa9 (by simp[ah4,h6])
 have h6':¬ (32:Int)<p.files.length:=om
 simp only[go_sem,h6'];have g6:=el4 p.provides hf.ax9.1 hf.ax9.2;have g9:=el4 p.aa7 hf.obs.1 hf.obs.2;have gr:=fun (l:List aa6) (wh:Int) (h:(wh,l)∈p.rows)=>eu5 l wh (hf.rich _ h).1 fun r hr=>(hf.rich _ h).2 r hr
 have r1:=gr p.requires 1 (by simp[aa3.rows]);have r2:=gr p.conflicts 2 (by simp[aa3.rows]);have r3:=gr p.ac6 1 (by simp[aa3.rows]);have r4:=gr p.ac1 3 (by simp[aa3.rows]);have r5:=gr p.suggests 1 (by simp[aa3.rows]);have r6:=gr p.af4 3 (by simp[aa3.rows]);clear gr;refine ab2 noT (fun i fr s=>fr=[(1,.ab8 p.cs),(3,.int .i64 (i:Int))]/\rising p.files=rising (p.files.drop (i-1))/\(p.files.drop i).all ay5=p.files.all ay5) p.files.length ⟨rfl,rfl,rfl⟩ ?_;rintro i fr s hi ⟨rfl,hr,ha⟩;by_cases hlt:i<p.files.length
 ·obtain ⟨f,hfm,hfi,hdr,hget,_⟩:=ac7 p.files i hlt;have c1:(i:Int)<p.files.length:=om
  have c2:(0:Int)<=i:=om
  have w1:=ac2 (i:=i) om;have gf:=ea6 f (hf.files.2 f hfm);have hget':(p.files.map bh4).getD i []=bh4 f:=hget bh4;rw[hdr,zd] at ha;simp only[go_sem,c1,c2,hget',bh4,aa3.cs];refine aa2 fok101 (gf) ?_
  cases hb:ay5 f with
  | false=>
   rw[hb,zn] at ha;simp only[go_sem]
   exact aa9 (by simp[ah4,<- ha])
  | true=>
   rw[hb,zv] at ha;by_cases h0:0<i
   ·have c0:(0:Int)<i:=om
    obtain ⟨a,ha1,ha2⟩:=de4 h0 hdr;have hget2:(p.files.map bh4).getD (i-1) []=bh4 a:=by simp[za,ha1]
    have w0:IntKind.i64.wrap ((i:Int)-1)=((i-1:Nat):Int):=by
     rw[wrap64 om om]; omega
    have c3:(0:Int)<=((i-1:Nat):Int):=om
    have c4:((i-1:Nat):Int)<p.files.length:=om
    rw[ha2] at hr;simp only[go_sem,c0,c1,c2,c3,c4,w0,hget',hget2,bh4,aa3.cs]
    cases hb2:Op.bytesLess a f with
    | true=>
     rw[hb2,zv] at hr;simp only[go_sem,w1]
     exact ⟨hlt,hr,ha⟩
    | false=>
     rw[hb2,zn] at hr;simp only[go_sem];exact aa9 (by simp[ah4,hr])
   ·have c0:¬ (0:Int)<i:=om
    have e0:i=0:=om
    simp only[go_sem,c0,w1];refine ⟨hlt,?_,ha⟩;subst e0; exact hr
 ·have d1:¬ (i:Int)<p.files.length:=om
  have e:i=p.files.length:=om
  rw[e,zf] at ha
  have hris:rising p.files=true:=by
   rw[hr,e]
   cases hz:p.files with
   | nil=>rfl
   | cons a l=>
    have:(a::l).drop ((a::l).length-1)=[(a::l)[(a::l).length-1]]:=by
     rw[List.drop_eq_getElem_cons (by simp)];simp
    rw[this]; rfl
  have hall:p.files.all ay5=true:=ha.symm
  have hm:ah4 p=((decide (p.provides.length<=32)&&p.provides.all ai4)&&(decide (p.aa7.length<=32)&&p.aa7.all ai4)&&ae6 p.requires 1&&ae6 p.ac6 1&&ae6 p.suggests 1&&ae6 p.conflicts 2&&ae6 p.ac1 3&&ae6 p.af4 3):=by
   unfold ah4;rw[h1,h2,h3,h4,hris,hall,decide_eq_true h5,decide_eq_true h6];generalize (decide (p.provides.length<=32)&&p.provides.all ai4)=A;generalize (decide (p.aa7.length<=32)&&p.aa7.all ai4)=B;generalize ae6 p.requires 1=C;generalize ae6 p.conflicts 2=D;generalize ae6 p.ac6 1=E;generalize ae6 p.ac1 3=F;generalize ae6 p.suggests 1=G;generalize ae6 p.af4 3=H
   revert A B C D E F G H
   decide
  rw[hm];generalize (decide (p.provides.length<=32)&&p.provides.all ai4)=A at *;generalize (decide (p.aa7.length<=32)&&p.aa7.all ai4)=B at *;generalize ae6 p.requires 1=C at *;generalize ae6 p.conflicts 2=D at *;generalize ae6 p.ac6 1=E at *;generalize ae6 p.ac1 3=F at *;generalize ae6 p.suggests 1=G at *;generalize ae6 p.af4 3=H at *;simp only[go_sem,d1,aa3.cs];refine aa2 fok104 (g6) ?_
  cases A with
  | false=>simp only[go_sem]; exact aa9 (by simp)
  | true=>
  simp only[go_sem];refine aa2 fok104 (g9) ?_
  cases B with
  | false=>simp only[go_sem]; exact aa9 (by simp)
  | true=>
  simp only[go_sem];refine aa2 fok105 (r1) ?_
  cases C with
  | false=>simp only[go_sem]; exact aa9 (by simp)
  | true=>
  simp only[go_sem];refine aa2 fok105 (r3) ?_
  cases E with
  | false=>simp only[go_sem]; exact aa9 (by simp)
  | true=>
  simp only[go_sem];refine aa2 fok105 (r5) ?_
  cases G with
  | false=>simp only[go_sem]; exact aa9 (by simp)
  | true=>
  simp only[go_sem];refine aa2 fok105 (r2) ?_
  cases D with
  | false=>simp only[go_sem]; exact aa9 (by simp)
  | true=>
  simp only[go_sem];refine aa2 fok105 (r4) ?_
  cases F with
  | false=>simp only[go_sem]; exact aa9 (by simp)
  | true=>
  simp only[go_sem];refine aa2 fok105 (r6) ?_;simp only[go_sem];exact aa9 (by simp)
end Go.Id.Tryz
