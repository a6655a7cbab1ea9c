/- What is asked for,made. Conditions: sizes that fit. -/
import Derived.Test.YtcdakaadeghccaaGreatDoorTSSH
import Derived.Test.YtcdakaadeghccaaGreatDoorTSNC
import Derived.Test.YtcdakaadeghccaaGreatDoorMv
import Derived.Test.YtcdakaadeghccaaGreatDoorGSR
open List renaming getD_eq_getElem?_getD→za,length_map→zb,getElem_mem→zd,length_append→ze,map_append→zh,flatMap_append→zi,getElem?_eq_getElem→zj,mem_map→zk,take_length→zl,replicate→zn,length_take→zo,take_of_length_le→zp,head?_cons→zq,all_cons→zr,append_assoc→zt,any_eq_true→zu,append_nil→zv,take_add_one→zw,all_nil→zx,length_replicate→zy,mem_cons→z1,mem_of_mem_take→z2,any_append→z4,mem_map_of_mem→z5,flatMap_cons→z6,not_mem_nil→z8,mem_flatMap→z9,all_eq_true→qa,range→qd,mem_singleton→qe,flatMap_nil→qg,drop_length→qh,mem_range→qi,drop_eq_getElem_cons→qj,length_filterMap_le→qk,take_append_drop→qn,length_singleton→qo,filterMap_append→qp,replicate_succ'→qq,mem_iff_getElem→qr,map_eq_nil_iff→qt,filterMap_cons→qu,filterMap_nil→qv
open Nat renaming not_lt_zero→zc,le_refl→zf,lt_succ_self→zz,le_succ→z3,le_add_right→qb,mul_le_mul→qc,le_trans→qf,zero_add→qm
open Option renaming some→zg,none→qs
open Bool renaming and_eq_true→zm,true_and→ql,false_ne_true→qw
open Int renaming toNat_natCast→z7
set_option linter.all false
set_option maxRecDepth 100000
set_option maxHeartbeats 1000000
private theorem om{P:Prop}(h:P:=by omega):P:=h
namespace Go.Id.Tryz
open Go Go.Id Go.Proofs Go.Shelf Go.Id.Md
structure fv2 (r:Req):Prop where
 ai4:r.ai4.length<2^20
 ag5:r.ag5.length<2^20
 iv9:∀ j∈r.ai4,Dep.small j.dep/\j.dep.name.length<2^30
theorem be5 (r:Req):∀ c∈r.cs,Bnd 0 c:=il5 (.int _ _) (.bool _) (cc5 _) (bb5 _) (.int _ _)
theorem gq5 (r:Req):r.cs.length=5:=rfl
theorem ak6 (r:Req):r.cs.all IV.leaf=true:=rfl
theorem bt7 (r:Req):r.cs.take 5=r.cs:=rfl
theorem gq6 (j:Job)(h:Dep.small j.dep/\j.dep.name.length<2^30):PC Tryz.prog EE 28 [.agg j.cs] (.bool (!ay6 j)):=by
 refine ae5 hE fok28 (nZ rfl) (ao4 (hp9 j)) ?_;have hd:=bn9 j.dep om (by have:=h.1.2.2.1; omega) (by have:=h.1.2.2.2; omega);have k0:j.cs.head? = zg (.int .u8 j.kind):=rfl;have k1:=dv4 j;have k2:(j.cs.drop 1).length=5:=rfl;unfold ay6;by_cases e1:j.kind<1
 ·have e1':¬ 1<=j.kind:=om
  simp only[ic28,go_sem,bt6,k0,e1];exact ab4 (by simp[e1'])
 have e1':1<=j.kind:=om
 by_cases e2:4<j.kind
 ·have e2':¬ j.kind<=4:=om
  simp only[ic28,go_sem,bt6,k0,e1,e2];exact ab4 (by simp[e2'])
 have e2':j.kind<=4:=om
 simp only[ic28,go_sem,bt6,k0,k1,k2,e1,e2];refine aa3 fok29 (hd) ?_;simp only[go_sem];exact ab4 (by simp[e1',e2'])
theorem fv3 (e:az1)(ai4 inst:Int):PC Tryz.prog EE 32 [.agg e.cs,.int .i64 ai4,.int .i64 inst] (.bool (at6 e ai4 inst)):=by
 refine ae5 hE fok32 (nZ rfl) (at1 (cc6 e) (.int _ _) (.int _ _)) ?_;have k0:e.cs.head? = zg (.int .u8 e.kind):=rfl;have k1:(e.cs.drop 1).head? = zg (.int .i64 e.n):=rfl;unfold at6;by_cases d1:e.kind=1
 case' pos=>
  have f1:(1:Int)<=1:=by decide
  have f2:(1:Int)<=4:=by decide
  rw[d1] at k0 ⊢;simp only[ic32,go_sem,aj2,k0,f1,f2,k1];generalize ai4=most
 case' neg=>
  rw[if_neg d1];by_cases d2:1<=e.kind
  case' neg=>
   simp only[ic32,go_sem,aj2,k0,d1,d2];exact ab4 (by simp)
  by_cases d3:e.kind<=4
  case' neg=>
   simp only[ic32,go_sem,aj2,k0,d1,d2,d3];exact ab4 (by simp)
  simp only[ic32,go_sem,aj2,k0,d1,d2,d3,k1];generalize inst=most
 all_goals
  by_cases d4:0<=e.n
  ·simp only[go_sem,d4,k1];exact ab4 (by simp)
  ·simp only[go_sem,d4];exact ab4 (by simp)
theorem ir6 (e:az1)(p:Pool)(r:Req):PC Tryz.prog EE 31 [.agg e.cs,.ab5 r.cs,.ab5 [p.v]] (.bool (!at6 e r.ai4.length p.inst)):=by
 refine ae5 hE fok31 (nZ rfl) (at1 (cc6 e) (.ab5 _ (be5 r)) (.ab5 _ (ao4 (ay1 p)))) ?_;have h1:=az2 p;have h2:=fv3 e r.ai4.length p.inst;have k2:(r.cs.drop 2).head? = zg (bc3 r.ai4):=rfl;simp only[ic31,go_sem,aj2,an6,ap3,k2]
 first|refine aa3 fok33 (h1) ?_|refine aa8 (h1) ?_
 simp only[go_sem];refine aa8 (h2) ?_;simp only[go_sem];exact ab4 rfl
theorem if5 (r:Req)(h1:r.ai4.length<=2147483648)(h2:r.ag5.length<=2147483648):PC Tryz.prog EE 35 [.agg r.cs] (.agg r.cs):=by
 refine ae5 hE fok35 (nZ rfl) (ao4 (.agg _ (be5 r))) ?_;have c1:=er7 r.ai4 h1;have c2:=eg6 r.ag5 h2;have hb:=be5 r;unfold Req.cs at *;simp only[ic35,go_sem];refine aa8 (c1) ?_;simp only[go_sem];refine aa8 (c2) ?_;simp only[go_sem];exact .keep _ (.agg _ hb)
theorem ir7 {α:Type}(q:α->Bool)(l:List α):(l.any fun x=>!q x)=!l.all q:=by
 induction l with
 | nil=>rfl
 | cons x l ih=>simp only[List.any_cons,zr,ih,Bool.not_and]
theorem gq7 (p:Pool)(r:Req)(hR:fv2 r)(hl:(ad4 p).length<=256)(hf:∀ x∈ad4 p,x.Fit/\x.Tiny):PC Tryz.prog EE 6 [p.v,.agg r.cs] (iv8 p r):=by
 refine ae5 hE fok6 (nZ rfl) (ae9 (ay1 p) (.agg _ (be5 r))) ?_;have hm:=co6 r.aj1;have hJ:=gp5 r.ai4 28 [] [] (fun j=>!ay6 j) (by have:=hR.ai4; omega) fok28.1 fun j hj=>gq6 j (hR.iv9 j hj)
 have hEd:=fu6 r.ag5 31 [] [.ab5 r.cs,.ab5 [p.v]] (fun e=>!at6 e r.ai4.length p.inst) (by have:=hR.ag5; omega) fok31.1 fun e he=>ir6 e p r
 rw[ir7] at hJ hEd;have hrl:p.rows.length=(ad4 p).length:=by simp[ad4]
 have hM:=bj5 p (fun x hx=>(hf _ (z5 (f:=fun x:az3=>x.pkg) hx)).1) om (fun x hx=>by
  have:=(hf _ (z5 (f:=fun x:az3=>x.pkg) hx)).2;have a:=this.ax2.1; have b:=this.obs.1; have c:=this.files; omega)
 have hM:PC Tryz.prog EE 34 [p.v] (.tuple [(ak3 (ad4 p)).v,.int .i64 0]):=hM;have hO:=if5 r (by have:=hR.ai4; omega) (by have:=hR.ag5; omega);have hC:=bd4 p;rw[hrl] at hC
 have hpk:∀ j (h:j<(ad4 p).length),PC Tryz.prog EE 37 [p.v,.int .i64 j] (.tuple [.agg (ad4 p)[j].cs,.int .i64 0]):=fun j h=>by
  have hq:p.rows[j].pkg=(ad4 p)[j]:=by simp[ad4]
  have h1:=be4 p j om (by rw[hq]; exact (hf _ (zd h)).1);rw[hq] at h1; exact h1
 have hbA:=au2 ⟨p,r⟩;have k0:r.cs.head? = zg (.int .u8 r.aj1):=rfl;have k2:(r.cs.drop 2).head? = zg (bc3 r.ai4):=rfl;have k3:(r.cs.drop 3).head? = zg (aq2 r.ag5):=rfl;have k4:(r.cs.drop 4).head? = zg (.int .i64 r.budget):=rfl;obtain ⟨V,hV⟩:∃ V,iv8 p r=V:=⟨_,rfl⟩
 have herr:∀ (s:Store) (e:Int),am7 r p.inst=e->e≠0->cs9 s 0 (.tuple [.ae7,.int .i64 e]) V:=fun s e h1 h2=>by
  rw[<- hV];unfold iv8;rw[h1,if_neg h2];exact .keep _ (.tuple _ (ae9 .ae7 (.int _ _)))
 rw[hV];have vcs:p.v.cs=[p.v]:=rfl;have vlf:p.v.leaf=true:=rfl;have vnl:∀ d:TypeId,ct5 (.pointer d) p.v=zg false:=fun _=>rfl
 by_cases c1:bg8 r.aj1=false
 ·simp only[ic6,go_sem,vcs,zr,vlf,zx,zq,ak6,vnl,k0];refine aa3 fok26 (hm) ?_;simp only[go_sem,c1];exact herr _ 1 (by unfold am7; rw[if_pos (.inl c1)]) (by decide)
 have c1':bg8 r.aj1=true:=by simpa using c1
 by_cases c2:r.budget<0
 ·simp only[ic6,go_sem,vcs,zr,vlf,zx,zq,ak6,vnl,k0];refine aa3 fok26 (hm) ?_;simp only[go_sem,c1',k4,c2];exact herr _ 1 (by unfold am7; rw[if_pos (.inr (.inl c2))]) (by decide)
 by_cases c3:1099511627776<r.budget
 ·simp only[ic6,go_sem,vcs,zr,vlf,zx,zq,ak6,vnl,k0];refine aa3 fok26 (hm) ?_;simp only[go_sem,c1',k4,c2,c3];exact herr _ 1 (by unfold am7; rw[if_pos (.inr (.inr c3))]) (by decide)
 have q1:¬ (bg8 r.aj1=false\/r.budget<0\/1099511627776<r.budget):=fun h=>h.elim c1 fun h=>h.elim c2 c3
 by_cases c4:64<r.ai4.length
 ·have c4':(64:Int)<r.ai4.length:=om
  simp only[ic6,go_sem,vcs,zr,vlf,zx,zq,ak6,vnl,k0];refine aa3 fok26 (hm) ?_;simp only[go_sem,c1',k4,c2,c3,k2,c4'];exact herr _ 40 (by unfold am7; rw[if_neg q1,if_pos (.inl c4)]) (by decide)
 have c4':¬ (64:Int)<r.ai4.length:=om
 by_cases c5:64<r.ag5.length
 ·have c5':(64:Int)<r.ag5.length:=om
  simp only[ic6,go_sem,vcs,zr,vlf,zx,zq,ak6,vnl,k0];refine aa3 fok26 (hm) ?_;simp only[go_sem,c1',k4,c2,c3,k2,k3,c4',c5'];exact herr _ 40 (by unfold am7; rw[if_neg q1,if_pos (.inr c5)]) (by decide)
 have c5':¬ (64:Int)<r.ag5.length:=om
 have q2:¬ (64<r.ai4.length\/64<r.ag5.length):=fun h=>h.elim c4 c5
 by_cases c6:r.ai4.all ay6=false
 ·simp only[ic6,go_sem,vcs,zr,vlf,zx,zq,ak6,vnl,k0];refine aa3 fok26 (hm) ?_;simp only[go_sem,c1',k4,c2,c3,k2,k3,c4',c5'];refine aa3 fok27 (hJ) ?_;simp only[go_sem,c6,Bool.not_false];exact herr _ 4 (by unfold am7; rw[if_neg q1,if_neg q2,if_pos c6]) (by decide)
 have c6':r.ai4.all ay6=true:=by simpa using c6
 simp only[ic6,go_sem,vcs,zr,vlf,zx,zq,ak6,vnl,k0];refine aa3 fok26 (hm) ?_;simp only[go_sem,c1',k4,c2,c3,k2,k3,c4',c5'];refine aa3 fok27 (hJ) ?_;simp only[go_sem,c6',Bool.not_true,k3];refine aa3 fok30 (hEd) ?_;by_cases c7:(r.ag5.all fun e=>at6 e r.ai4.length p.inst)=false
 ·simp only[go_sem,c7,Bool.not_false];exact herr _ 5 (by unfold am7; rw[if_neg q1,if_neg q2,if_neg c6,if_pos c7]) (by decide)
 have c7':(r.ag5.all fun e=>at6 e r.ai4.length p.inst)=true:=by simpa using c7
 have hV0:V=.tuple [.ab5 [p.v,(ak3 (ad4 p)).v,.int .u8 r.aj1,.bool r.vendor,bc3 r.ai4,aq2 r.ag5,.int .i64 r.budget,.aa4 ((ad4 p).map aa2.cs)],.int .i64 0]:=by
  rw[<- hV];unfold iv8;rw[if_pos (by unfold am7; rw[if_neg q1,if_neg q2,if_neg c6,if_neg c7])];rfl
 have hbX:=bj6 (ak3 (ad4 p));have hbP:=ay1 p;rw[hV0];clear herr hV hV0 hJ hEd;simp only[go_sem,c7',Bool.not_true];refine aa3 fok34 (hM) ?_;simp only[go_sem,gq5,bt7]
 first|refine aa3 fok35 (hO) ?_|refine aa8 (hO) ?_
 have hrc:r.cs=[.int .u8 r.aj1,.bool r.vendor,bc3 r.ai4,aq2 r.ag5,.int .i64 r.budget]:=rfl;rw[hrc];have xlf:(ak3 (ad4 p)).v.leaf=true:=rfl;have xcs:(ak3 (ad4 p)).v.cs=[(ak3 (ad4 p)).v]:=rfl;generalize (ak3 (ad4 p)).v=X at *;generalize hPv:p.v=Pv at *;simp only[go_sem,vcs,vlf,xlf,xcs];refine aa3 fok36 (hC) ?_;simp only[go_sem];refine ab1 noT (fun n fr s=>∃ gv,fr=[(2,.ab5 [Pv]),(8,.ptr 5 0),(65,.int .i64 (ad4 p).length),(66,.int .i64 (n:Int))]/\7<=s.next/\s.obj 5=zg (.cells [Pv,X,.int .u8 r.aj1,.bool r.vendor,bc3 r.ai4,aq2 r.ag5,.int .i64 r.budget,gv])/\Grow s gv 15 (((ad4 p).take n).map aa2.cs)) (ad4 p).length ⟨.aa1,rfl,zf _,by simp only[aa5,if_true],.inl ⟨rfl,rfl⟩⟩ ?_;rintro n fr s hn ⟨gv,rfl,hnx,ho,hg⟩;by_cases hlt:n<(ad4 p).length
 ·have d1:(n:Int)<((ad4 p).length:Int):=om
  have w1:=ac4 (i:=n) om;have hp:=hpk n hlt;have n5:¬ 5=s.next:=om
  have htk:(ad4 p).take (n+1)=(ad4 p).take n++[(ad4 p)[n]]:=by
   rw[zw,zj hlt]; rfl
  have hgl:gv.leaf=true:=by rcases hg with ⟨rfl,_⟩|⟨id,rfl,_⟩<;>rfl
  have hgc:gv.cs=[gv]:=by rcases hg with ⟨rfl,_⟩|⟨id,rfl,_⟩<;>rfl
  simp only[go_sem,d1];refine aa3 fok37 (hp) ?_;simp only[go_sem,af8,ah2,af4,n5,ho,b_o,b_p,b_t];obtain ⟨s1,a1,a2,a3,a4⟩:=ew5 (k:=11) (nid:=s.next+1+1+1+1+1+1+1+1) (e:=(ad4 p)[n].cs) (A:=.cells [.str [],.int .i64 0,.str [],.str [],.int .u8 0,.str [],.aa1,.aa1,.aa1,.aa1,.aa1,.aa1,.aa1,.aa1,.aa1]) (B:=.cells (ad4 p)[n].cs) hg (bb4 _) ⟨rfl,rfl⟩ (by rw[zb,zo]; omega) ho om om;simp only[go_sem,a1,a3,b_o,b_p,b_t,w1];refine ⟨hlt,_,by rw[a2]; omega,rfl,?_⟩;rw[htk,zh];have a5:=a4 [Pv,X,.int .u8 r.aj1,.bool r.vendor,bc3 r.ai4,aq2 r.ag5,.int .i64 r.budget,.slice (s.next+1+1+1+1+1+1+1+1) 0 (((ad4 p).take n).length+1) 15] s1.next (by rw[a2]; omega);rw[zb] at a5;exact a5
 ·have hn':n=(ad4 p).length:=om
  subst hn';have d1:¬ ((ad4 p).length:Int)<((ad4 p).length:Int):=om
  rw[zl] at hg;simp only[go_sem,d1]
  have hbe:∀ e∈(ad4 p).map aa2.cs,∀ c∈e,Bnd 0 c:=fun e he c hc=>by
   obtain ⟨y,_,rfl⟩:=zk.1 he;exact ah7 y c hc
  refine .cp9 (.cons (.ptr 5 0 _ _ (zc _) (.inl ho) (zf _) (fun j hj=>?_)) (.cons (ax5 rfl) .nil))
  match j,hj with
  | 0,_=>exact .keep _ hbP
  | 1,_=>exact .keep _ hbX
  | 2,_=>exact .keep _ (.int _ _)
  | 3,_=>exact .keep _ (.bool _)
  | 4,_=>exact .keep _ (cc5 _)
  | 5,_=>exact .keep _ (bb5 _)
  | 6,_=>exact .keep _ (.int _ _)
  | 7,_=>exact hg.frz (fun x hx=>(bb4 _ x hx).1) (fun _ _=>zc _) hbe
end Go.Id.Tryz
namespace Go.Id.Tryz
open Go Go.Id Go.Proofs Go.Id.Md
theorem eh4 (l:List aa6)(n:Int)(hl:l.length<2^62)(ih:∀ r∈l,∀ m:Int,PC Tryz.prog EE 73 [af1 r.args,.int .i64 m] (.int .i64 (ptR r m))) :
  PC Tryz.prog EE 73 [af1 l,.int .i64 n] (.int .i64 (ptL l n 0)):=by
 refine av9 fok73 (nZ rfl) fun σ=>?_
 simp only[ic73,go_sem];refine ab1 noT (fun i fr t=>∃ w:Int,t.obj=σ.obj/\t.next=σ.next/\fr=[(0,af1 l),(1,.int .i64 n),(5,.int .i64 w),(6,.int .i64 i)]/\ptL l n 0=ptL (l.drop i) n w) l.length ⟨0,rfl,rfl,rfl,rfl⟩ ?_;rintro i fr t hi ⟨w,ho,hn,rfl,hf⟩;have ht:t=σ:=by cases t; cases σ; simp only at ho hn; rw[ho,hn]
 subst ht;by_cases hlt:i<l.length
 ·obtain ⟨r,ha,_,hdr,hget,_⟩:=ad6 l i hlt;have c1:(i:Int)<l.length:=om
  have c2:(0:Int)<=i:=om
  have w1:=ac4 (i:=i) om;rw[hdr,ptL] at hf;by_cases hw:w<n
  ·rw[if_pos hw] at hf;simp only[go_sem,c1,c2,hw,hget,ab9,hp4];refine aa3 fok73 (ih r ha _) ?_;simp only[go_sem,w1];exact ⟨hlt,_,rfl,hf⟩
  ·rw[if_neg hw] at hf;simp only[go_sem,c1,hw];rw[hf]
 ·have hi':i=l.length:=om
  subst hi';have c1:¬ (l.length:Int)<l.length:=om
  rw[qh,ptL] at hf;simp only[go_sem,c1,hf,and_self]
theorem hr9 (r:aa6):r.ok->∀ m:Int,PC Tryz.prog EE 73 [af1 r.args,.int .i64 m] (.int .i64 (ptR r m)):=by
 induction r using aa6.ind with
 | h k d xs ih=>
  intro ho m;obtain ⟨_,_,_,h4,h5⟩:=aa6.in3.1 ho;rw[jh1];exact eh4 xs m h4 fun r hr m=>ih r hr (h5 r hr) m
theorem hs8 (l:List aa6)(hl:l.length<2^62)(h:∀ r∈l,r.ok)(n:Int):PC Tryz.prog EE 73 [af1 l,.int .i64 n] (.int .i64 (ptL l n 0)):=
 eh4 l n hl fun r hr m=>hr9 r (h r hr) m
theorem do1 (l:List aa2)(n:Int)(hl:l.length<2^62)(h:∀ p∈l,p.Ok):PC Tryz.prog EE 24 [au1 l,.int .i64 n] (.int .i64 (szL l n 0)):=by
 refine ae5 hE fok24 (nZ rfl) (al3 (aq4 l) (.int _ _)) ?_;simp only[ic24,go_sem];refine ab1 noT (fun i fr t=>∃ w:Int,fr=[(0,au1 l),(1,.int .i64 n),(5,.int .i64 w),(6,.int .i64 i)]/\szL l n 0=szL (l.drop i) n w) l.length ⟨0,rfl,rfl⟩ ?_;rintro i fr t hi ⟨w,rfl,hf⟩;by_cases hlt:i<l.length
 ·obtain ⟨p,ha,_,hdr,hget,_⟩:=ad6 l i hlt;have c1:(i:Int)<l.length:=om
  have c2:(0:Int)<=i:=om
  have w1:=ac4 (i:=i) om;rw[hdr,szL] at hf;by_cases hw:w<n
  ·rw[if_pos hw] at hf;have f6:(p.cs.drop 6).head? = zg (deps p.provides):=rfl;have f7:(p.cs.drop 7).head? = zg (af1 p.requires):=rfl;have f8:(p.cs.drop 8).head? = zg (af1 p.conflicts):=rfl;have f9:(p.cs.drop 9).head? = zg (deps p.ab2):=rfl;have f10:(p.cs.drop 10).head? = zg (af1 p.ac6):=rfl;have f11:(p.cs.drop 11).head? = zg (af1 p.ac2):=rfl;have f12:(p.cs.drop 12).head? = zg (af1 p.suggests):=rfl;have f13:(p.cs.drop 13).head? = zg (af1 p.ac1):=rfl;have f14:(p.cs.drop 14).head? = zg (strs p.files):=rfl;simp only[go_sem,c1,c2,hw,hget,ag8,ai2,ah4,f6,f7,f8,f9,f10,f11,f12,f13,f14,bi7];have hL:∀ (k:Nat) (hk:k<(bb2 p).length),((bb2 p).map lR).getD k []=[af1 (bb2 p)[k]]:=fun k hk=>by simp[za,hk,lR]
   have hok:=go4 (h p ha);have hlen:(bb2 p).length=6:=rfl;unfold szP wr at hf;generalize hw0:IntKind.i64.wrap (IntKind.i64.wrap (IntKind.i64.wrap (IntKind.i64.wrap (w+1)+p.provides.length)+p.ab2.length)+p.files.length)=w0 at *;have hl6:IV.aa4 [[af1 p.requires],[af1 p.conflicts],[af1 p.ac6],[af1 p.ac2],[af1 p.suggests],[af1 p.ac1]]=.aa4 ((bb2 p).map lR):=rfl;rw[hl6];have hf':szL l n 0=szL (l.drop (i+1)) n (iq5 (bb2 p) n w0):=hf;clear hf hdr hget f6 f7 f8 f9 f10 f11 f12 f13 f14 hl6;refine ab1 noT (fun k fr u=>∃ v:Int,fr=[(0,au1 l),(1,.int .i64 n),(5,.int .i64 v),(6,.int .i64 i),(51,.aa4 ((bb2 p).map lR)),(52,.int .i64 6),(53,.int .i64 k)]/\iq5 (bb2 p) n w0=iq5 ((bb2 p).drop k) n v) 6 ⟨w0,rfl,rfl⟩ ?_;rintro k fr u hk ⟨v,rfl,hs⟩;by_cases hlt2:k<6
   ·have d1:(k:Int)<6:=om
    have d2:(0:Int)<=k:=om
    have d3:(k:Int)<(bb2 p).length:=om
    have w2:=ac4 (i:=k) om;have hk2:k<(bb2 p).length:=om
    have hgk:=hL k hk2;obtain ⟨o1,o2⟩:=hok _ (zd hk2);rw[qj hk2,iq5] at hs;generalize (bb2 p)[k]=x at *;simp only[go_sem,d1,d2,d3,hgk];refine aa3 fok73 (hs8 x o1 o2 n) ?_;simp only[go_sem,w2];exact ⟨hlt2,_,rfl,hs⟩
   ·have hk':k=6:=om
    subst hk';have d1:¬ ((6:Nat):Int)<6:=om
    rw[List.drop_of_length_le om,iq5] at hs;rw[hs] at hf';simp only[go_sem,d1,w1];exact ⟨hlt,_,rfl,hf'⟩
  ·rw[if_neg hw] at hf;simp only[go_sem,c1,hw];rw[hf];exact ad1 _ _
 ·have hi':i=l.length:=om
  subst hi';have c1:¬ (l.length:Int)<l.length:=om
  rw[qh,szL] at hf;simp only[go_sem,c1];rw[hf];exact ad1 _ _
end Go.Id.Tryz
namespace Go.Id.Tryz
open Go Go.Id Go.Proofs Go.Shelf Go.Id.Md
theorem eh5 (xs ys:List Int)(h1:xs.length<2^62)(h2:ys.length<2^62):PC Tryz.prog EE 11 [.aa4 (xs.map Md.ae4),.aa4 (ys.map Md.ae4)] (.bool (decide (xs=ys))):=by
 refine ae5 hE fok11 (nZ rfl) (al3 (ai1 xs) (ai1 ys)) ?_;by_cases hl:xs.length=ys.length
 case neg=>
  have hl':¬ (xs.length:Int)=ys.length:=om
  have:decide (xs=ys)=false:=decide_eq_false fun e=>hl (by rw[e])
  simp only[ic11,go_sem,hl',this];exact ab8 _
 have hl':(xs.length:Int)=ys.length:=om
 have hl2:decide ((xs.length:Int)=ys.length)=true:=decide_eq_true hl';simp only[ic11,go_sem,hl2];refine ab1 noT (fun i fr s=>fr=[(0,.aa4 (xs.map Md.ae4)),(1,.aa4 (ys.map Md.ae4)),(5,.int .i64 i)]/\xs.take i=ys.take i) xs.length ⟨rfl,rfl⟩ ?_;rintro i fr s hi ⟨rfl,hf⟩;by_cases hlt:i<xs.length
 ·obtain ⟨x,hx,hxi,hdr,hget,htk⟩:=ad6 xs i hlt;obtain ⟨y,hy,hyi,hdr2,hget2,htk2⟩:=ad6 ys i om;have c1:(i:Int)<xs.length:=om
  have c3:(i:Int)<ys.length:=om
  have c2:(0:Int)<=i:=om
  have w1:=ac4 (i:=i) om;simp only[go_sem,c1,c2,c3,hget,hget2,Md.ae4,w1];by_cases hxy:x=y
  ·have hd:decide (x=y)=true:=decide_eq_true hxy;simp only[go_sem,hd,w1];refine ⟨hlt,?_⟩;rw[htk,htk2,hf,hxy]
  ·have hd:decide (x=y)=false:=decide_eq_false hxy;have hne:decide (xs=ys)=false:=decide_eq_false fun e=>hxy (by rw[e] at hxi; rw[hxi] at hyi; cases hyi; rfl)
   simp only[go_sem,hd,hne];exact ab8 _
 ·have hi':i=xs.length:=om
  subst hi';have c1:¬ (xs.length:Int)<xs.length:=om
  rw[zl,hl,zl] at hf;have:decide (xs=ys)=true:=decide_eq_true hf;simp only[go_sem,c1,this];exact ab8 _
theorem aok {ab3:List am5}{inst:List aa2}{p:Pool}{r:Req}(hI:jh2 ab3 inst)(hn:ce2 ab3 inst=.inl p)(hR:fv2 r)(he:am7 r p.inst=0):AOK ⟨p,r⟩:=by
 have hf:=ie8 hI hn;have hlen:(ad4 p).length<=256:=by simp only[ad4,zb]; exact ex6 hn
 unfold am7 at he;split at he
 ·cases he
 split at he
 ·cases he
 rename_i hb;split at he
 ·cases he
 rename_i hj;refine ⟨hlen,fun x hx=>(hf x hx).2.1,fun x hx=>(hf x hx).1,fun x hx=>(hf x hx).2.2,?_,?_,?_,fun j hj=>(hR.iv9 j hj).1,fun j hjm=>?_⟩
 ·have h1:=bn4 hn
  have h2:p.inst=inst.length:=by
   unfold ce2 at hn;split at hn
   ·cases hn
   split at hn
   ·cases hn
   split at hn
   ·cases hn; rfl
   ·cases hn
  show p.inst<=((ad4 p).length:Nat);rw[h2,h1,ze]; omega
 ·show r.ai4.length<=64; omega
 ·show r.ag5.length<=128; omega
 ·have h1:r.ai4.all ay6=true:=by simpa using hj
  have h2:=qa.1 h1 j hjm;unfold ay6 at h2;simp only[zm,decide_eq_true_eq] at h2;exact ⟨h2.1.1,h2.1.2⟩
end Go.Id.Tryz
namespace Go.Id.Md
open Go Go.Id
def ad9.dcs (a:ad9):List IV:=.aa4 (a.l.map aa2.cs)::.int .i64 a.p.inst::a.r.cs
def ad9.dv (a:ad9):IV:=.ab5 a.dcs
end Go.Id.Md
namespace Go.Id.Tryz
open Go Go.Id Go.Proofs Go.Id.Md
theorem bj9 (a:ad9):Bnd 0 a.dv:=.ab5 _ fun c hc=>by
 rcases z1.1 hc with rfl|hc
 ·exact aq4 _
 ·rcases z1.1 hc with rfl|hc
  ·exact .int _ _
  ·exact be5 a.r c hc
theorem be6 (a:ad9):a.dcs.head? = zg (.aa4 (a.l.map aa2.cs)):=rfl
theorem dv7 (a:ad9):(a.dcs.drop 1).head? = zg (.int .i64 a.p.inst):=rfl
theorem ir8 (a:ad9):(a.dcs.drop 2).head? = zg (.int .u8 a.r.aj1):=rfl
theorem jr5 (a:ad9):((a.dcs.drop 2).drop 1).head? = zg (.bool a.r.vendor):=rfl
theorem es4 (a:ad9):((a.dcs.drop 2).drop 2).head? = zg (bc3 a.r.ai4):=rfl
theorem hs9 (a:ad9):((a.dcs.drop 2).drop 3).head? = zg (aq2 a.r.ag5):=rfl
theorem cr4 (a:ad9):a.dv.cs=[a.dv]:=rfl
theorem bd6 (a:ad9):a.dv.leaf=true:=rfl
theorem ah5 (a:ad9):a.dv=.ab5 a.dcs:=rfl
theorem cd2 (l:List az1)(σ:Store):db4 0 σ (aq2 l)=zg (.int .i64 l.length):=by unfold aq2; simp only[go_sem]
theorem ax6 (l:List Job)(σ:Store):db4 0 σ (bc3 l)=zg (.int .i64 l.length):=by unfold bc3; simp only[go_sem]
theorem gq8 (e:az1):e.cs.head? = zg (.int .u8 e.kind):=rfl
theorem gq9 (e:az1):(e.cs.drop 1).head? = zg (.int .i64 e.n):=rfl
theorem bx6 (a:ad9)(hA:AOK a)(k n:Int):PC Tryz.prog EE 192 [a.dv,.int .u8 k,.int .i64 n] (.bool (a.bd1 k n)):=by
 refine ae5 hE fok192 (nZ rfl) (at1 (bj9 a) (.int _ _) (.int _ _)) ?_;have hl:=hA.ag5;simp only[ic192,go_sem];refine ab1 noT (fun i fr s=>fr=[(0,a.dv),(1,.int .u8 k),(2,.int .i64 n),(7,.int .i64 (i:Int))]/\(⟨k,n⟩:az1) ∉ a.r.ag5.take i) a.r.ag5.length ⟨rfl,by simp⟩ ?_;rintro i fr s hi ⟨rfl,hn⟩;by_cases hlt:i<a.r.ag5.length
 ·obtain ⟨x,hx,hxi,hdr,hget,htk⟩:=ad6 a.r.ag5 i hlt;have d1:(i:Int)<a.r.ag5.length:=om
  have d2:(0:Int)<=(i:Int):=om
  have w1:=ac4 (i:=i) om;have hg:=hget az1.cs;by_cases e1:x.kind=k
  ·by_cases e2:x.n=n
   ·have hin:(⟨k,n⟩:az1)∈a.r.ag5:=by
     have:x=⟨k,n⟩:=by cases x; simp only at e1 e2; subst e1; subst e2; rfl
     rw[<- this]; exact hx
    simp only[go_sem,ah5,hs9,cd2,aq2,d1,d2,hg,gq8,gq9,an6,e1,e2,ac5];exact ab4 (decide_eq_true hin).symm
   ·simp only[go_sem,ah5,hs9,cd2,aq2,d1,d2,hg,gq8,gq9,an6,e1,e2,w1,ac5];refine ⟨hlt,?_⟩;rw[htk,List.mem_append,not_or];exact ⟨hn,fun h=>e2 (by rw[<- qe.1 h])⟩
  ·simp only[go_sem,ah5,hs9,cd2,aq2,d1,d2,hg,gq8,gq9,an6,e1,w1,ac5];refine ⟨hlt,?_⟩;rw[htk,List.mem_append,not_or];exact ⟨hn,fun h=>e1 (by rw[<- qe.1 h])⟩
 ·have d1:¬ (i:Int)<a.r.ag5.length:=om
  rw[zp om] at hn;simp only[go_sem,ah5,hs9,cd2,d1,ac5];exact ab4 (decide_eq_false hn).symm
theorem eh6 (a:ad9)(hA:AOK a)(n:Int):PC Tryz.prog EE 233 [a.dv,.int .i64 n] (.bool (a.dropped n)):=by
 refine ae5 hE fok233 (nZ rfl) (ae9 (bj9 a) (.int _ _)) ?_;have he:=bx6 a hA 1 n;by_cases h0:0<=n
 ·by_cases h1:n<a.r.ai4.length
  ·simp only[ic233,go_sem,ah5,es4,ax6,h0,h1,ac5];rw[<- ah5];refine aa3 fok192 (he) ?_;simp only[go_sem];exact ab4 (by unfold ad9.dropped ad9.job; simp[h0,h1])
  ·simp only[ic233,go_sem,ah5,es4,ax6,h0,h1,ac5];exact ab4 (by unfold ad9.dropped ad9.job; simp[h1])
 ·simp only[ic233,go_sem,ah5,es4,ax6,h0,ac5];exact ab4 (by unfold ad9.dropped ad9.job; simp[h0])
theorem eh7 (a:ad9)(n:Int):PC Tryz.prog EE 56 [a.dv,.int .i64 n] (.bool (a.fits n)):=by
 refine ae5 hE fok56 (nZ rfl) (ae9 (bj9 a) (.int _ _)) ?_;have p4:∀ p:aa2,(p.cs.drop 4).head? = zg (.int .u8 p.aj1):=fun _=>rfl
 by_cases h0:0<=n
 ·by_cases h1:n<a.l.length
  ·obtain ⟨m,rfl⟩:∃ m:Nat,n=m:=⟨n.toNat,om⟩;have hm:m<a.l.length:=om
   have hg:(a.l.map aa2.cs).getD m []=(a.pk m).cs:=by simp[ad9.pk,za,hm]
   have hf:=hj4 a.r.aj1 (a.pk m).aj1;simp only[ic56,go_sem,ah5,be6,ir8,h0,h1,hg,p4,ag8,ac5];refine aa3 fok117 (hf) ?_;simp only[go_sem];exact ab4 (by unfold ad9.fits ad9.is; simp[h0,h1])
  ·simp only[ic56,go_sem,ah5,be6,h0,h1,ac5];exact ab4 (by unfold ad9.fits ad9.is; simp[h1])
 ·simp only[ic56,go_sem,ah5,be6,h0,ac5];exact ab4 (by unfold ad9.fits ad9.is; simp[h0])
theorem bd7 (a:ad9){m:Nat}(h:m<a.l.length):(a.l.map aa2.cs).getD m []=(a.pk m).cs:=by simp[ad9.pk,za,h]
theorem es5 (a:ad9){p:Nat}(h:p<a.l.length):a.pk p∈a.l:=by
 have:a.pk p=a.l[p]:=by simp[ad9.pk,za,h]
 rw[this]; exact zd h
theorem ht4 (a:ad9){m:Nat}(h:m<a.r.ai4.length):(a.r.ai4.map Job.cs).getD m []=(a.jb m).cs:=by simp[ad9.jb,za,h]
theorem jr6 (a:ad9){p:Nat}(h:p<a.r.ai4.length):a.jb p∈a.r.ai4:=by
 have:a.jb p=a.r.ai4[p]:=by simp[ad9.jb,za,h]
 rw[this]; exact zd h
theorem jr7 (j:Job):j.cs.head? = zg (.int .u8 j.kind):=rfl
theorem kf8 (j:Job):(j.cs.drop 1).take 5=j.dep.cs:=rfl
theorem jr8 (j:Job):j.cs.length=6:=rfl
theorem jr9 (j:Job):(j.cs.drop 1).length=5:=rfl
theorem ht5 (a:ad9){n:Nat}(h:n<a.l.length)(d:Dep):decide ((n:Int)∈bg6 a.l d)=named (a.pk n) d:=by
 have hp:a.l.getD n default=a.pk n:=rfl
 cases hb:named (a.pk n) d with
 | true=>exact decide_eq_true (au6.2 ⟨n,rfl,h,by rw[hp]; exact hb⟩)
 | false=>
  refine decide_eq_false fun hm=>?_
  obtain ⟨m,h1,_,h3⟩:=au6.1 hm;have:m=n:=om
  subst this;rw[hp,hb] at h3; cases h3
theorem fv4 (a:ad9)(hA:AOK a)(k:Int)(n:Nat)(hn:n<a.l.length):PC Tryz.prog EE 193 [a.dv,.int .u8 k,.int .i64 n] (.bool (a.bi9 k n)):=by
 refine ae5 hE fok193 (nZ rfl) (at1 (bj9 a) (.int _ _) (.int _ _)) ?_;have hl:=hA.ai4;obtain ⟨f,hf⟩:∃ f:Nat->Bool,f=fun i:Nat=>decide ((a.jb i).kind=k)&&!a.dropped i&&decide ((n:Int)∈bg6 a.l (a.jb i).dep):=⟨_,rfl⟩
 obtain ⟨g,hg⟩:∃ g:Nat->Bool,g=fun i=>(qd i).any f:=⟨_,rfl⟩
 have hB:a.bi9 k n=g a.r.ai4.length:=by rw[hg,hf]; rfl
 have hsn:∀ i,g (i+1)=(g i||f i):=fun i=>by rw[hg]; simp only[List.range_succ,z4]; simp
 have hlast:∀ i,i<a.r.ai4.length->f i=true->g a.r.ai4.length=true:=fun i hi h=>by rw[hg]; exact zu.2 ⟨i,qi.2 hi,h⟩
 have hg0:g 0=false:=by rw[hg]; rfl
 clear hg;rw[hB];have e1:(0:Int)<=(n:Int):=om
 have e2:(n:Int)<a.l.length:=om
 have gn:=bd7 a hn;simp only[ic193,go_sem];refine ab1 noT (fun i fr s=>fr=[(0,a.dv),(1,.int .u8 k),(2,.int .i64 n),(7,.int .i64 (i:Int))]/\g i=false) a.r.ai4.length ⟨rfl,hg0⟩ ?_;rintro i fr s hi ⟨rfl,hno⟩;by_cases hlt:i<a.r.ai4.length
 ·have d1:(i:Int)<a.r.ai4.length:=om
  have d2:(0:Int)<=(i:Int):=om
  have w1:=ac4 (i:=i) om;have gj:=ht4 a hlt;have hD:=eh6 a hA i;have hN:=cn8 (a.pk n) (a.jb i).dep (hA.small _ (es5 a hn)) (hA.iv9 _ (jr6 a hlt));have hfi:f i=(decide ((a.jb i).kind=k)&&!a.dropped i&&named (a.pk n) (a.jb i).dep):=by rw[hf,<- ht5 a hn]
  have hst:=hsn i;rw[hno,Bool.false_or] at hst;have hla:=hlast i hlt;rw[hfi] at hst hla;generalize a.jb i=jv at *;by_cases k1:jv.kind=k
  ·simp only[go_sem,ah5,es4,ax6,bc3,d1,d2,gj,jr7,jr8,k1,ac5];rw[<- ah5];refine aa3 fok233 (hD) ?_
   cases hd:a.dropped i with
   | true=>
    rw[hd] at hst;simp only[go_sem,w1]
    exact ⟨hlt,by rw[hst]; simp⟩
   | false=>
    rw[hd] at hst hla;simp only[go_sem,ah5,be6,es4,ax6,bc3,d1,d2,gj,gn,e1,e2,jr7,kf8,jr8,jr9,k1,ac5,ag8,ai2,ah4,aj5,ah1,ag7];refine aa3 fok102 (hN) ?_
    cases hb:named (a.pk n) jv.dep with
    | true=>
     simp only[go_sem]
     exact ab4 (hla (by rw[hb]; simp[k1])).symm
    | false=>
     rw[hb] at hst;simp only[go_sem,w1];exact ⟨hlt,by rw[hst]; simp⟩
  ·simp only[go_sem,ah5,es4,ax6,bc3,d1,d2,gj,jr7,jr8,k1,w1,ac5];exact ⟨hlt,by rw[hst]; simp[k1]⟩
 ·have hi':i=a.r.ai4.length:=om
  subst hi';have d1:¬ (a.r.ai4.length:Int)<a.r.ai4.length:=om
  simp only[go_sem,ah5,es4,ax6,d1,ac5];exact ab4 hno.symm
end Go.Id.Tryz
namespace Go.Id.Tryz
open Go Go.Id Go.Proofs Go.Shelf Go.Id.Md
theorem ir9 (c n:Nat):stB c [(n:Int)]=dm6 c n:=by
 unfold stB dm6;refine List.map_congr_left fun m _=>decide_eq_decide.2 ?_
 rw[qe]; omega
theorem ht6 (c n:Nat):(dm6 c n).length=c:=by simp[dm6]
theorem if6 (l:List aa2)(hl:l.length<=256)(st:List Bool)(hst:st.length=l.length)(g:Nat)(cap:List IV)(q:List Bool->Bool)(hok:okF Tryz.prog g=true)(hcap:∀ c∈cap,Bnd 0 c)
  (hq:∀ s2:List Bool,s2.length=l.length->PC Tryz.prog EE g (.agg (an5 l s2)::cap) (.bool (q s2))):PC Tryz.prog EE 212 [.agg (an5 l st),.func (.func g) [] cap] (.bool (gi2 st fun n=>q (dm6 st.length n))):=by
 have hbf:Bnd 0 (.func (.func g) [] cap):=.func _ _ _ (fun c hc=>by cases hc) hcap;refine ae5 hE fok212 (nZ rfl) (ae9 (ao3 l st) hbf) ?_;simp only[ic212,go_sem,ae6,ad8,gp8];refine ab1 noT (fun i fr t=>fr=[(1,.func (.func g) [] cap),(2,.ab5 (an5 l st)),(8,eg8 st),(9,.int .i64 st.length),(10,.int .i64 (i:Int))]/\∀ j,j<i->(st.getD j false&&q (dm6 st.length j))=false) st.length ⟨rfl,fun j hj=>absurd hj (zc _)⟩ ?_;rintro i fr t hle ⟨rfl,hI⟩;by_cases hlt:i<st.length
 ·have c1:(i:Int)<st.length:=om
  have c2:(0:Int)<=i:=om
  have w1:=ac4 (i:=i) om;have g1:=bo5 hlt
  cases hb:st.getD i false with
  | false=>
   rw[hb] at g1;simp only[go_sem,c1,c2,g1,w1];refine ⟨hlt,fun j hj=>?_⟩;by_cases e:j=i
   ·subst e; rw[hb]; rfl
   ·exact hI j om
  | true=>
   rw[hb] at g1;have hS:=fd5 l [(i:Int)] hl (by show 1<_; decide);rw[ir9] at hS;have hQ:=hq (dm6 l.length i) (ht6 _ _);simp only[go_sem,c1,c2,g1,ae6,gp9]
   have hfz:Frz (({ next:=t.next+1,obj:=t.obj }:Store).put t.next (.row [.int .i64 i])) (fun _=>false=true) (.slice t.next 0 1 1) (.aa4 ([(i:Int)].map Md.ae4)):=
    .slice t.next 0 1 1 [.int .i64 i] _ qw (.inr (by rw[aa5,if_pos rfl])) rfl (zf 1) (fun k hk=>by
     have:k=0:=om
     subst this; rfl) fun k hk j hj=>by
     have:k=0:=om
     have:j=0:=om
     subst this; subst k;exact .keep _ (.int _ _)
   refine ad3 fok100 (ew8 (S:=fun _=>false) (args':=[ar6 l,.aa4 ([(i:Int)].map Md.ae4)]) rfl (fun k hk=>by
    match k,hk with
    | 0,_=>exact .keep _ ((ay9 l).weak fun _ h=>absurd h (zc _))
    | 1,_=>exact hfz) (en1 hS)) ?_
   rintro v s ⟨rfl,rfl⟩;refine ⟨zf _,?_⟩;simp only[go_sem];refine am8 hok hQ ?_
   cases hv:q (dm6 l.length i) with
   | true=>
    have e:gi2 st (fun n=>q (dm6 st.length n))=true:=by
     unfold gi2;exact zu.2 ⟨i,qi.2 hlt,by rw[hb,hst]; show (true&&q (dm6 l.length i))=true; rw[hv]; rfl⟩
    simp only[go_sem,e]
    exact ab8 _
   | false=>
    simp only[go_sem,w1];refine ⟨hlt,fun j hj=>?_⟩;by_cases e:j=i
    ·subst e; rw[hst,hv,Bool.and_false]
    ·exact hI j om
 ·have hi':i=st.length:=om
  subst hi';have c1:¬ (st.length:Int)<st.length:=om
  have e:gi2 st (fun n=>q (dm6 st.length n))=false:=by
   unfold gi2;refine List.any_eq_false.2 fun n hn=>?_
   rw[hI n (qi.1 hn)];exact qw
  simp only[go_sem,c1,e];exact ab8 _
theorem ht7 (l:List aa2)(k:Int)(d:Dep)(xs:List aa6)(hn:xs.length<2^62)(hx:∀ x∈xs,gq1 l x)(st:List Bool)(hst:st.length=l.length) :
  PC Tryz.prog EE 213 [.agg (an5 l st),.ab5 (aa6.mk k d xs).cs] (.bool ((aa6.trs l xs).all fun f=>f st)):=by
 refine ae5 hE fok213 (nZ rfl) (ae9 (ao3 l st) (cc9 _)) ?_;have h:=if4 l st hst k d xs hn hx;simp only[ic213,go_sem,ae6,ad8,af2,ab9,ac3,ab6];refine aa3 fok155 (h) ?_;simp only[go_sem];exact ab4 rfl
theorem es6 (l:List aa2)(k:Int)(d:Dep)(xs:List aa6)(hn:2<=xs.length)(hx:∀ x∈xs,gq1 l x)(st:List Bool)(hst:st.length=l.length) :
  PC Tryz.prog EE 214 [.agg (an5 l st),.ab5 (aa6.mk k d xs).cs] (.bool (((aa6.trs l xs).getD 0 ff) st&&!((aa6.trs l xs).getD 1 ff) st)):=by
 refine ae5 hE fok214 (nZ rfl) (ae9 (ao3 l st) (cc9 _)) ?_;have n0:0<xs.length:=om
 have n1:1<xs.length:=om
 have h0:=hx _ (zd n0) st hst;have h1:=hx _ (zd n1) st hst;have g0:=eh2 n0;have g1:=eh2 n1;have c0:(0:Int)<xs.length:=om
 have c1:(1:Int)<xs.length:=om
 rw[eh3 n1,eh3 n0];simp only[ic214,go_sem,ae6,ad8,af2,ab9,bk4,c0,c1,g0,g1,ac3,ab6]
 first|refine aa3 fok101 (h0) ?_|refine aa8 (h0) ?_
 cases xs[0].tr l st with
 | false=>simp only[go_sem]; exact ab4 rfl
 | true=>
  simp only[go_sem,ae6,ad8,af2,ab9,bk4,c0,c1,g0,g1,ac3,ab6]
  first|refine aa3 fok101 (h1) ?_|refine aa8 (h1) ?_
  simp only[go_sem];exact ab4 rfl
theorem is1 (l:List aa2)(hl:l.length<=256)(st:List Bool)(hst:st.length=l.length)(k:Int)(d:Dep)(xs:List aa6)(hn:xs.length<2^62)(hx:∀ x∈xs,gq1 l x) :
  PC Tryz.prog EE 159 [.agg (an5 l st),.agg (aa6.mk k d xs).cs] (.bool (gi2 st fun n=>(aa6.trs l xs).all fun f=>f (dm6 st.length n))):=by
 refine ae5 hE fok159 (nZ rfl) (ae9 (ao3 l st) (ag3 _)) ?_;have h:=if6 l hl st hst 213 [.ab5 (aa6.mk k d xs).cs] (fun s2=>(aa6.trs l xs).all fun f=>f s2) fok213.1 (ao4 (cc9 _)) fun s2 h2=>ht7 l k d xs hn hx s2 h2
 have h7:=ab6 (.mk k d xs);simp only[ic159,go_sem,ae6,ad8,af2,ab9,h7];refine aa3 fok212 (h) ?_;simp only[go_sem];exact ab4 rfl
theorem fv5 (l:List aa2)(hl:l.length<=256)(st:List Bool)(hst:st.length=l.length)(k:Int)(d:Dep)(xs:List aa6)(hn:2<=xs.length)(hx:∀ x∈xs,gq1 l x) :
  PC Tryz.prog EE 160 [.agg (an5 l st),.agg (aa6.mk k d xs).cs] (.bool (gi2 st fun n=>((aa6.trs l xs).getD 0 ff) (dm6 st.length n)&&!((aa6.trs l xs).getD 1 ff) (dm6 st.length n))):=by
 refine ae5 hE fok160 (nZ rfl) (ae9 (ao3 l st) (ag3 _)) ?_;have h:=if6 l hl st hst 214 [.ab5 (aa6.mk k d xs).cs] (fun s2=>((aa6.trs l xs).getD 0 ff) s2&&!((aa6.trs l xs).getD 1 ff) s2) fok214.1 (ao4 (cc9 _)) fun s2 h2=>es6 l k d xs hn hx s2 h2
 have h7:=ab6 (.mk k d xs);simp only[ic160,go_sem,ae6,ad8,af2,ab9,h7];refine aa3 fok212 (h) ?_;simp only[go_sem];exact ab4 rfl
theorem js1 (l:List aa2)(hl:l.length<=256)(hs:∀ p∈l,Pkg.small p)(r:aa6):r.Good->gq1 l r:=by
 induction r using aa6.ind with
 | h k d xs ih=>
  intro hg st hst;refine ae5 hE fok101 (nZ rfl) (ae9 (ao3 l st) (ag3 _)) ?_;have h7:=ab6 (.mk k d xs);have h8:=ac3 (.mk k d xs);have nfl:IV.ad5.leaf=true:=rfl;have e:(aa6.mk k d xs).tr l st=trK l k d (aa6.trs l xs) st:=by rw[aa6.tr]
  rw[e]
  cases hg with
  | atom _ hd=>
   have h:=ir4 l hl hs st hst d hd;unfold trK;simp only[ic101,go_sem,ae6,ad8,af2,ab9,h7,h8,cd1,nfl]
   first|refine aa3 fok154 (h) ?_|refine aa8 (h) ?_
   simp only[go_sem]
   exact ab4 rfl
  | node _ _ _ h1 h2 h3 h4 h5=>
   have hx:∀ x∈xs,gq1 l x:=fun x hx=>ih x hx (h5 x hx)
   have hn:xs.length<=24:=by
    unfold ct1 at h4;split at h4
    ·omega
    split at h4
    ·omega
    split at h4<;>omega
   have c2:=if4 l st hst k d xs om hx;have c3:=ji1 l st hst k d xs om hx;have c4:=ji2 l st hst k d xs om hx;have c5:=gq4 l st hst k d xs om om hx;have c6:=is1 l hl st hst k d xs om hx;have c7:=fv5 l hl st hst k d xs om hx;unfold trK;have hk:k=2\/k=3\/k=4\/k=5\/k=6\/k=7:=om
   rcases hk with rfl|rfl|rfl|rfl|rfl|rfl
   ·simp only[ic101,go_sem,ae6,ad8,af2,ab9,h7,h8,cd1,nfl];refine aa3 fok155 (c2) ?_;simp only[go_sem];exact ab4 rfl
   ·simp only[ic101,go_sem,ae6,ad8,af2,ab9,h7,h8,cd1,nfl]
    first|refine aa3 fok156 (c3) ?_|refine aa8 (c3) ?_
    simp only[go_sem];exact ab4 rfl
   ·simp only[ic101,go_sem,ae6,ad8,af2,ab9,h7,h8,cd1,nfl]
    first|refine aa3 fok157 (c4) ?_|refine aa8 (c4) ?_
    simp only[go_sem];exact ab4 rfl
   ·simp only[ic101,go_sem,ae6,ad8,af2,ab9,h7,h8,cd1,nfl]
    first|refine aa3 fok158 (c5) ?_|refine aa8 (c5) ?_
    simp only[go_sem];exact ab4 rfl
   ·simp only[ic101,go_sem,ae6,ad8,af2,ab9,h7,h8,cd1,nfl]
    first|refine aa3 fok159 (c6) ?_|refine aa8 (c6) ?_
    simp only[go_sem];exact ab4 rfl
   ·simp only[ic101,go_sem,ae6,ad8,af2,ab9,h7,h8,cd1,nfl]
    first|refine aa3 fok160 (c7) ?_|refine aa8 (c7) ?_
    simp only[go_sem];exact ab4 rfl
theorem bn2 (c:Nat)(zs:List Int):(stB c zs).length=c:=by simp[stB]
theorem eh8 (l:List aa2)(hl:l.length<=256)(hs:∀ p∈l,Pkg.small p)(zs:List Int)(hz:zs.length<2^40)(r:aa6)(h1:r.fit)(h2:r.count<2^31) :
  PC Tryz.prog EE 49 [ar6 l,.aa4 (zs.map Md.ae4),.agg r.cs] (.bool (hf6 l zs r)):=by
 refine ae5 hE fok49 (nZ rfl) (at1 (ay9 l) (ai1 zs) (ag3 _)) ?_;have hw:=hr5 r h1 h2;have hS:=fd5 l zs hl hz;have hnl:∀ d:TypeId,ct5 (.pointer d) (ar6 l)=zg false:=fun _=>rfl
 unfold hf6;simp only[ic49,go_sem,hnl,ab9,ac3,ab6];refine aa8 (hw) ?_
 cases hq:bv5 r with
 | false=>simp only[go_sem]; exact ab4 rfl
 | true=>
  have hg:r.ms.2.2=true:=by
   unfold bv5 at hq;simp only[zm] at hq;exact hq.1.1
  have hi:=js1 l hl hs r (aa6.gi1 r hg) (stB l.length zs) (bn2 _ _);simp only[go_sem]
  first|refine aa3 fok100 (hS) ?_|refine aa8 (hS) ?_
  simp only[go_sem,ab9,ac3,ab6]
  first|refine aa3 fok101 (hi) ?_|refine aa8 (hi) ?_
  simp only[go_sem];exact ab4 rfl
end Go.Id.Tryz
namespace Go.Id.Tryz
open Go Go.Id Go.Proofs Go.Shelf Go.Id.Md
theorem av6 (l:List Dep):∀ x∈l.map Dep.cs,x.length=5/\x.all IV.leaf=true:=fun x hx=>by
 obtain ⟨d,_,rfl⟩:=zk.1 hx; exact ⟨rfl,rfl⟩
theorem cv5 (d:Dep):∀ c∈d.cs,Bnd 0 c:=fun c hc=>by
 simp only[Dep.cs,z1,z8,or_false] at hc;rcases hc with rfl|rfl|rfl|rfl|rfl
 ·exact .str _
 ·exact .int _ _
 ·exact .int _ _
 ·exact .str _
 ·exact .str _
def ct3 (p:aa6×Bool):Option Dep:=if p.1.kind=1 then zg p.1.dep else qs
theorem ht8 (r:aa6)(hf:r.fit)(hc:r.count<2^30):PC Tryz.prog EE 43 [.agg r.cs] (.aa4 (r.atoms.map Dep.cs)):=by
 refine ae5 hE fok43 (nZ rfl) (af3 (ag3 _)) ?_;simp only[ic43,go_sem,ab6,ac3,ab9];refine ad3 fok92 (eq1 r _) ?_;rintro v s1 ⟨rfl,hb,hn,hs⟩;refine ⟨hn,?_⟩;simp only[go_sem] at hn hs hb ⊢;have h0:s1.obj 0=zg (.cells [.aa1]):=by rw[hs 0 om]; rfl
 have hb1:=hb.1;refine cw8 (co2 r hf 1) (fun rest t=>boxed 1 t/\∃ (ps rs:List (aa6×Bool)) (v:IV),rest=rs.map row/\ps++rs=r.parts false/\t.obj 0=zg (.cells [v])/\s1.next<t.next/\Grow t v 5 ((ps.filterMap ct3).map Dep.cs)/\∀ id k,v=.slice id 0 k 5->s1.next<id) (fun _ _ h=>h.1) ?_ dt9 ?_ ?_ ?_
 ·rintro rest t t' ⟨⟨q1,q2⟩,ps,rs,v,h1,h2,h3,h4,h5,h6⟩ hn' hs';exact ⟨⟨om,by rw[hs' 1 q1]; exact q2⟩,ps,rs,v,h1,h2,by rw[hs' 0 om]; exact h3,om,h5.mono hn' fun id _ hid=>hs' id hid,h6⟩
 ·intro o;have e0:¬ 0=s1.next:=om
  have e1:¬ 1=s1.next:=om
  refine ⟨⟨by show 1<s1.next+1; omega,by simp only[aa5,e1,if_false]; exact hb.2⟩,[],r.parts false,.aa1,rfl,rfl,by simp only[aa5,e0,if_false]; exact h0,zz _,.inl ⟨rfl,rfl⟩,fun id k h=>by cases h⟩
 ·rintro L pre a rest t hev ⟨⟨q1,q2⟩,ps,rs,v,h1,h2,h3,h4,h5,h6⟩ hL hlt
  cases rs with
  | nil=>cases h1
  | cons p rs=>
  rw[List.map_cons] at h1;obtain ⟨ha,hrest⟩:=List.cons.inj h1;subst ha;obtain ⟨⟨k,d,xs⟩,al⟩:=p;simp only[row,aa7] at hL hlt ⊢;have e1:¬ s1.next=t.next:=om
  have e2:¬ 0=t.next:=om
  have e3:¬ s1.next=0:=om
  have e4:¬ 0=s1.next:=om
  have e5:¬ 1=t.next:=om
  have e6:¬ 1=s1.next:=om
  have e7:¬ t.next=s1.next:=om
  have e8:¬ t.next=0:=om
  have e9:¬ 0=1:=om
  simp only[go_sem,hL,e1,e2,e3,e4,e5,e6,e7,e8,ab9,ac3,ab6,cd1,ir3,gq2,h3];generalize hU:Store.mk (t.next+1) _=U;have un:U.next=t.next+1:=by rw[<- hU]
  have uL:U.obj s1.next=zg (L .busy qs):=by rw[<- hU]; simp only[aa5,if_true]
  have uo:∀ i,i<t.next->i≠s1.next->U.obj i=t.obj i:=fun i hi hne=>by
   have:¬ i=t.next:=om
   rw[<- hU]; simp only[aa5,hne,this,if_false]
  have u0:=uo 0 om e4;rw[h3] at u0;have ub:U.obj t.next=zg (.cells (aa6.mk k d xs).cs):=by rw[<- hU]; simp only[aa5,e7,if_false,if_true]
  have hg:Grow U v 5 ((ps.filterMap ct3).map Dep.cs):=h5.mono om fun id hv hid=>uo id hid (by have:=h6 _ _ hv; omega)
  have hcnt:ps.length+(rs.length+1)=r.count:=by
   have:=congrArg List.length h2;rw[ze,List.length_cons,aa6.cz8] at this;exact this
  have hpl:(ps.filterMap ct3).length<2^30:=by
   have:=qk ct3 ps;omega
  have hbx:1<U.next/\U.obj 1=zg (.cells [.func (.func 148) [] [.ptr 1 0]]):=⟨om,by rw[uo 1 q1 e6]; exact q2⟩;by_cases hk:k=1
  ·have hat:ct3 (aa6.mk k d xs,al)=zg d:=by unfold ct3; rw[if_pos]; rfl; exact hk
   have hap:=am4 (nid:=U.next) (e:=d.cs) (σ:=⟨U.next+1,U.obj⟩) (hg.mono (z3 _) fun _ _ _=>rfl) (av6 _) ⟨rfl,rfl⟩ (by rw[zb]; omega);have k0:=ah3 hg 0 (.cells [v]) u0 (fun _ h=>by cases h)
   have kL:(ag2 v ⟨U.next+1,U.obj⟩).obj s1.next=zg (L .busy qs):=by
    cases hv:v<;>try exact uL
    rename_i id o n' e;show (if s1.next=id then qs else U.obj _)=_;rcases hg with ⟨h,_⟩|⟨id',h,_,_⟩
    ·rw[h] at hv; cases hv
    ·rw[hv] at h; cases h;have:=h6 _ _ hv;rw[if_neg om]; exact uL
   have k0':=ah3 (hg.mono (z3 _) fun _ _ _=>rfl:Grow ⟨U.next+1,U.obj⟩ v 5 _) 0 (.cells [v]) u0 (fun _ h=>by cases h);have k1:=ah3 (hg.mono (z3 _) fun _ _ _=>rfl:Grow ⟨U.next+1,U.obj⟩ v 5 _) 1 _ hbx.2 (fun _ h=>by cases h);have kn:=ac9 (σ:=⟨U.next+1,U.obj⟩) v;have x1:¬ 0=U.next:=om
   have x2:¬ s1.next=U.next:=om
   have x3:¬ 1=U.next:=om
   have x4:¬ U.next=s1.next:=om
   have x5:¬ U.next=0:=om
   have x6:¬ 1=0:=om
   rw[zb] at hap;simp only[go_sem,hk,u0,ub,cd1,ir3,gq2,aj5,ah1,ag7,hap,k0',kL,x1,x2,e3,e4];refine dq7 (by simp only[aa7,kn]; omega) (by simp only[aa5,if_true]) ⟨⟨?_,?_⟩,ps++[(aa6.mk k d xs,al)],rs,.slice U.next 0 ((ps.filterMap ct3).length+1) 5,hrest,by rw[zt]; exact h2,?_,?_,?_,fun id k h=>?_⟩
   ·simp only[aa7,kn]; omega
   ·simp only[aa5,x3,x6,e6,if_false]; exact k1
   ·simp only[aa5,e4,if_false,if_true]
   ·simp only[aa7,kn]; omega
   ·rw[qp];simp only[qu,hat,qv];rw[zh];refine .inr ⟨U.next,by simp,?_,by simp only[aa7,kn]; omega⟩;simp only[aa5,x4,x5,if_false,if_true]; rfl
   ·cases h; omega
  ·have hat:ct3 (aa6.mk k d xs,al)=qs:=by unfold ct3; rw[if_neg]; exact hk
   simp only[go_sem,hk,uL];refine dq7 (by rw[aa7,un]; omega) (by simp only[aa5,if_true]) ⟨⟨by rw[aa7]; exact hbx.1,by rw[aa5,if_neg e6]; exact hbx.2⟩,ps++[(aa6.mk k d xs,al)],rs,v,hrest,by rw[zt]; exact h2,by rw[aa5,if_neg e4]; exact u0,by rw[aa7,un]; omega,?_,h6⟩;rw[qp];simp only[qu,hat,qv,zv];exact hg.mono (zf _) fun id hv _=>by rw[aa5,if_neg (by have:=h6 _ _ hv; omega)]
 ·rintro t o ⟨⟨q1,q2⟩,ps,rs,v,h1,h2,h3,h4,h5,h6⟩ hlt ho
  cases rs with
  | cons k rs=>cases h1
  | nil=>
  have e0:¬ 0=s1.next:=om
  rw[zv] at h2;have hat:r.atoms=ps.filterMap ct3:=by unfold aa6.atoms; rw[<- h2]; rfl
  simp only[go_sem,e0,h3];rw[hat]
  have hg:Grow { next:=t.next,obj:=(t.kill s1.next).obj } v 5 ((ps.filterMap ct3).map Dep.cs):=h5.mono (zf _) fun id hv hid=>by
   have:=h6 _ _ hv;show (if id=s1.next then qs else t.obj id)=_;rw[if_neg om]
  exact hg.frz (fun e he=>(av6 _ e he).1) (fun _ _=>zc _) fun e he c hc=>by
   obtain ⟨x,_,rfl⟩:=zk.1 he;exact cv5 x c hc
end Go.Id.Tryz
namespace Go.Id.Tryz
open Go Go.Id Go.Proofs Go.Shelf Go.Id.Md
theorem es7 (p:Pool)(hl:(ad4 p).length<=256)(hf:∀ x∈ad4 p,x.Fit/\x.Tiny):PC Tryz.prog EE 42 [p.v] (.tuple [ar6 (ad4 p),.int .i64 0]):=by
 refine ae5 hE fok42 (nZ rfl) (ao4 (ay1 p)) ?_;have hrl:p.rows.length=(ad4 p).length:=by simp[ad4]
 have hM:=bj5 p (fun x hx=>(hf _ (z5 (f:=fun x:az3=>x.pkg) hx)).1) om (fun x hx=>by
  have:=(hf _ (z5 (f:=fun x:az3=>x.pkg) hx)).2;have a:=this.ax2.1; have b:=this.obs.1; have c:=this.files; omega)
 have hM:PC Tryz.prog EE 34 [p.v] (.tuple [(ak3 (ad4 p)).v,.int .i64 0]):=hM;have hC:=bd4 p;rw[hrl] at hC;have hb:=ay9 (ad4 p);unfold ar6 at *;have xlf:(ak3 (ad4 p)).v.leaf=true:=rfl;have xcs:(ak3 (ad4 p)).v.cs=[(ak3 (ad4 p)).v]:=rfl;generalize (ak3 (ad4 p)).v=X at *;simp only[ic42,go_sem];refine aa3 fok34 (hM) ?_;simp only[go_sem];refine aa3 fok36 (hC) ?_;simp only[go_sem,xlf,xcs];exact .keep _ (.tuple _ (ae9 hb (.int _ _)))
theorem fv6 (a:ad9):PC Tryz.prog EE 40 [a.v] a.p.v:=by
 refine ae5 hE fok40 (nZ rfl) (ao4 (au2 a)) ?_;have hb:=ay1 a.p;unfold ad9.v ad9.cs;simp only[ic40,go_sem,ac5];exact .keep _ hb
theorem dv8 (a:ad9)(hA:AOK a):PC Tryz.prog EE 41 [a.v] (.agg a.r.cs):=by
 refine ae5 hE fok41 (nZ rfl) (ao4 (au2 a)) ?_;have hO:=if5 a.r (by have:=hA.ai4; omega) (by have:=hA.ag5; omega);have hb:=be5 a.r;unfold ad9.v ad9.cs;unfold Req.cs at *;simp only[ic41,go_sem,ac5]
 first|refine aa3 fok35 (hO) ?_|refine aa8 (hO) ?_
 simp only[go_sem];exact .keep _ (.agg _ hb)
theorem co9 {r:aa6}{wh:Int}(h:ar2 r wh=0):r.count<=24/\∀ d∈r.atoms,ak5 d=true:=by
 unfold ar2 at h;split at h
 ·cases h
 split at h
 ·cases h
 split at h
 ·cases h
 split at h
 case isFalse=>cases h
 rename_i hc _ hp;refine ⟨om,fun d hd=>?_⟩;unfold aa6.atoms at hd;obtain ⟨p,hp1,hp2⟩:=List.mem_filterMap.1 hd;have:=qa.1 hp p hp1;split at hp2
 ·rename_i hk;cases hp2;unfold ai6 at this;simp only[zm] at this;have h3:=this.2;rw[if_pos hk] at h3;exact h3
 ·cases hp2
theorem bt8 {p:aa2}(h:ah8 p=true):(p.suggests.length<=32/\∀ r∈p.suggests,ar2 r 1=0)/\p.ac1.length<=32/\∀ r∈p.ac1,ar2 r 3=0:=by
 unfold ah8 ao7 at h;simp only[zm,decide_eq_true_eq,qa] at h;exact ⟨h.1.2,h.2⟩
def an4 (L:List aa2):List Dep:=L.flatMap fun q=>q.suggests.flatMap aa6.atoms
def db2 (l:List aa2)(n:Nat)(q:aa2):Bool:=((an4 (l.take n)).any fun d=>provides q d)||q.ac1.any fun r=>hf6 l (ak9 (fun _=>true) n) r
def as4 (l:List aa2)(n:Nat):List Bool:=l.map (db2 l n)
theorem bo6 (r:aa6):r.atoms.length<=r.count:=by
 have:=qk ct3 (r.parts false);rw[aa6.cz8] at this;exact this
theorem es8 {α β:Type}(f:α->List β)(m:Nat):∀ (l:List α),(∀ x∈l,(f x).length<=m)->(l.flatMap f).length<=l.length*m:=by
 intro l
 induction l with
 | nil=>intro _; simp
 | cons x l ih=>
  intro h;rw[z6,ze,List.length_cons,Nat.add_mul];have:=h x List.mem_cons_self;have:=ih fun y hy=>h y (List.mem_cons_of_mem _ hy)
  omega
theorem es9 (q:aa2)(d:Dep)(hq:Pkg.small q)(hd:Dep.small d):PC Tryz.prog EE 45 [.agg d.cs,.ab5 q.cs] (.bool (provides q d)):=by
 refine ae5 hE fok45 (nZ rfl) (ae9 (an3 d) (.ab5 _ (ah7 q))) ?_;have h:=da3 q d hq hd;simp only[ic45,go_sem,aj5,ah1,ag7,af8,ah2,af4];refine aa3 fok46 (h) ?_;simp only[go_sem];exact ab4 rfl
theorem et1 (l:List aa2)(hl:l.length<=256)(hs:∀ p∈l,Pkg.small p)(zs:List Int)(hz:zs.length<2^40)(r:aa6)(h1:r.fit)(h2:r.count<2^31) :
  PC Tryz.prog EE 48 [.agg r.cs,.ab5 [ar6 l],.ab5 [.aa4 (zs.map Md.ae4)]] (.bool (hf6 l zs r)):=by
 refine ae5 hE fok48 (nZ rfl) (at1 (ag3 _) (.ab5 _ (ao4 (ay9 l))) (.ab5 _ (ao4 (ai1 zs)))) ?_;have h:=eh8 l hl hs zs hz r h1 h2;simp only[ic48,go_sem,ab9,ac3,ab6];refine aa3 fok49 (h) ?_;simp only[go_sem];exact ab4 rfl
end Go.Id.Tryz
namespace Go.Id.Tryz
open Go Go.Id Go.Proofs Go.Shelf Go.Id.Md
structure PF (u:Store) (m ga:Nat) (F C0:List IV) (Tv iv av:IV) (zs:List Int) (D:List Dep):Prop where
 nx:m+1<u.next
 gm:0<ga/\ga<m
 o0:u.obj 0=zg (.cells C0)
 oF:u.obj ga=zg (.row F)
 o8:u.obj m=zg (.cells [Tv])
 o10:u.obj (m+1)=zg (.cells [iv])
 hi:aj3 u (m+2) iv zs
 ha:Grow u av 5 (D.map Dep.cs)
 la:∀ id k,av=.slice id 0 k 5->m+1<id
 ne:∀ i j k k',iv=.slice i 0 k 1->av=.slice j 0 k' 5->i≠j
variable {u u':Store} {m ga:Nat} {F C0:List IV} {Tv iv av:IV} {zs:List Int} {D:List Dep}
theorem ji3 {s:Store}{lo:Nat}{v:IV}{zs:List Int}(h:aj3 s lo v zs):∀ i k,v=.slice i 0 k 1->lo<=i/\i<s.next:=fun i k hv=>by
 rcases h with ⟨rfl,_⟩|⟨id,h1,h2,rfl,_⟩
 ·cases hv
 ·cases hv; exact ⟨h1,h2⟩
theorem is2 {s:Store}{v:IV}{e:Nat}{es:List (List IV)}(h:Grow s v e es):∀ i k,v=.slice i 0 k e->i<s.next:=fun i k hv=>by
 rcases h with ⟨rfl,_⟩|⟨id,rfl,_,h2⟩
 ·cases hv
 ·cases hv; exact h2
theorem PF.mono (h:PF u m ga F C0 Tv iv av zs D)(hn:u.next<=u'.next)(ho:∀ i,i<u.next->u'.obj i=u.obj i):PF u' m ga F C0 Tv iv av zs D where
 nx:=Nat.lt_of_lt_of_le h.nx hn
 gm:=h.gm
 o0:=by rw[ho _ (by have:=h.nx; omega)]; exact h.o0
 oF:=by rw[ho _ (by have:=h.nx; have:=h.gm; omega)]; exact h.oF
 o8:=by rw[ho _ (by have:=h.nx; omega)]; exact h.o8
 o10:=by rw[ho _ h.nx]; exact h.o10
 hi:=h.hi.kept ⟨hn,ho⟩
 ha:=h.ha.mono hn fun id _ hid=>ho id hid
 la:=h.la
 ne:=h.ne
theorem PF.inp (h:PF u m ga F C0 Tv iv av zs D)(n:Int){k nid:Nat}(h1:u.next<=nid)(h2:nid<u.next+k) :
  PF ((ag2 iv ⟨u.next+k,u.obj⟩).put nid (.row ((zs++[n]).map bk6)) |>.put (m+1) (.cells [.slice nid 0 (zs.length+1) 1])) m ga F C0 Tv (.slice nid 0 (zs.length+1) 1) av (zs++[n]) D:=by
 have hx:=h.nx;have hg:=h.gm;have hkn:(ag2 iv ⟨u.next+k,u.obj⟩).next=u.next+k:=ac9 iv;have hlow:∀ i,i<m+2->(ag2 iv ⟨u.next+k,u.obj⟩).obj i=u.obj i:=fun i hi=>cx4 (h.hi.up k) hi
 have ho:∀ i,i<m+2->i≠m+1->((ag2 iv ⟨u.next+k,u.obj⟩).put nid (.row ((zs++[n]).map bk6)) |>.put (m+1) (.cells [.slice nid 0 (zs.length+1) 1])).obj i=u.obj i:=fun i hi hne=>by
  rw[aa5,if_neg hne,aa5,if_neg om,hlow i hi]
 refine ⟨?_,hg,?_,?_,?_,?_,?_,?_,h.la,?_⟩
 ·rw[aa7,aa7,hkn]; omega
 ·rw[ho 0 om om]; exact h.o0
 ·rw[ho ga om om]; exact h.oF
 ·rw[ho m om om]; exact h.o8
 ·rw[aa5,if_pos rfl]
 ·refine .inr ⟨nid,om,by rw[aa7,aa7,hkn]; exact h2,by rw[ze,qo],?_⟩;rw[aa5,if_neg om,aa5,if_pos rfl]
 ·refine (h.ha).mono (σ:=u) (by rw[aa7,aa7,hkn]; omega) fun id hv hid=>?_
  have h3:=h.la _ _ hv;rw[aa5,if_neg om,aa5,if_neg om];rcases h.hi with ⟨hiv,_⟩|⟨iid,_,_,hiv,_⟩
  ·rw[hiv]; rfl
  ·have:=h.ne _ _ _ _ hiv hv;rw[hiv];show (if id=iid then qs else u.obj id)=u.obj id;rw[if_neg fun e=>this e.symm]
 ·intro i j k1 k2 hi hj e;cases hi;subst e;have:=is2 h.ha _ _ hj;omega
theorem gr1 {s:Store}{v:IV}{esz nid:Nat}{es xs:List (List IV)}(hg:Grow s v esz es)(h:∀ x∈es,x.length=esz/\x.all IV.leaf=true)(hx:∀ x∈xs,x.length=esz/\x.all IV.leaf=true)(hn:es.length+xs.length<=2147483648) :
  (xs=[]/\as5 s nid esz v (.aa4 xs)=zg (v,s))\/as5 s nid esz v (.aa4 xs)=zg (.slice nid 0 (es.length+xs.length) esz,(ag2 v s).put nid (.row (es++xs).flatten)):=by
 have hsrc:bl8 s esz (.aa4 xs)=zg (xs.length,xs.flatten):=by
  have h1:xs.all (fun e=>e.length==esz)=true:=qa.2 fun x hm=>by rw[(hx x hm).1]; simp
  simp only[bl8,h1,if_true]
 have hl:xs.flatten.all IV.leaf=true:=ba8 fun x hm=>(hx x hm).2
 have hl2:es.flatten.all IV.leaf=true:=ba8 fun x hm=>(h x hm).2
 have hfl:es.flatten.length=es.length*esz:=as6 fun x hm=>(h x hm).1
 have hn2:xs.length<=2147483648:=om
 by_cases h0:xs.length=0
 ·have hxe:xs=[]:=List.length_eq_zero_iff.1 h0;subst hxe;refine .inl ⟨rfl,?_⟩;unfold as5;rw[hsrc];rcases hg with ⟨rfl,rfl⟩|⟨id,rfl,ho,hid⟩
  ·simp
  ·simp[ho]
 ·refine .inr ?_;unfold as5;rw[hsrc];rcases hg with ⟨rfl,rfl⟩|⟨id,rfl,ho,hid⟩
  ·simp[hl,h0,hn2,ag2]
  ·simp[hl,ho,h0,hfl,hl2,hn,ag2]
theorem PF.atoms (h:PF u m ga F C0 Tv iv av zs D)(E:List Dep){k nid:Nat}(h1:u.next<=nid)(h2:nid<u.next+k) :
  PF ((ag2 av ⟨u.next+k,u.obj⟩).put nid (.row (D.map Dep.cs++E.map Dep.cs).flatten)) m ga F C0 Tv iv (.slice nid 0 ((D.map Dep.cs).length+(E.map Dep.cs).length) 5) zs (D++E):=by
 have hx:=h.nx;have hg:=h.gm;have hkn:(ag2 av ⟨u.next+k,u.obj⟩).next=u.next+k:=ac9 av
 have hk:∀ i,(∀ k',av≠.slice i 0 k' 5)->(ag2 av ⟨u.next+k,u.obj⟩).obj i=u.obj i:=fun i hi=>by
  rcases h.ha with ⟨hv,_⟩|⟨id,hv,_,_⟩
  ·rw[hv]; rfl
  ·rw[hv];show (if i=id then qs else u.obj i)=u.obj i;rw[if_neg fun e=>hi _ (by rw[e]; exact hv)]
 have hlow:∀ i,i<m+2->((ag2 av ⟨u.next+k,u.obj⟩).put nid (.row (D.map Dep.cs++E.map Dep.cs).flatten)).obj i=u.obj i:=fun i hi=>by
  rw[aa5,if_neg om,hk i fun k' hv=>by have:=h.la _ _ hv; omega]
 refine ⟨by rw[aa7,hkn]; omega,hg,?_,?_,?_,?_,?_,?_,fun id k' hv=>by cases hv; omega,fun i j k1 k2 hi hj e=>?_⟩
 ·rw[hlow 0 om]; exact h.o0
 ·rw[hlow ga om]; exact h.oF
 ·rw[hlow m om]; exact h.o8
 ·rw[hlow (m+1) om]; exact h.o10
 ·rcases h.hi with ⟨hv,hz⟩|⟨id,i1,i2,hv,ho⟩
  ·exact .inl ⟨hv,hz⟩
  ·refine .inr ⟨id,i1,by rw[aa7,hkn]; omega,hv,?_⟩;rw[aa5,if_neg om,hk id fun k' hv2=>h.ne _ _ _ _ hv hv2 rfl];exact ho
 ·refine .inr ⟨nid,by rw[zh,ze],by rw[aa5,if_pos rfl,zh],by rw[aa7,hkn]; exact h2⟩
 ·cases hj;subst e;have:=(ji3 h.hi _ _ hi).2;omega
theorem do2 {s:Store}{S:Nat->Prop}{fn:Fn}{cap cap':List IV}(h:gt3 s S cap cap'):Frz s S (.func fn [] cap) (.func fn [] cap'):=.func fn [] [] cap cap' rfl h.at.1 (fun i h=>absurd h (zc _)) h.at.2
theorem bt9 {s:Store}{id:Nat}{cs:List IV}(ho:s.obj id=zg (.cells cs))(hb:∀ c∈cs,Bnd 0 c):cs9 s 0 (.ptr id 0) (.ab5 cs):=.ptr id 0 cs cs (zc _) (.inl ho) om fun j hj=>by
 rw[qm,za,zj hj];exact .keep _ (hb _ (zd hj))
theorem fd6 (l:List Bool):∀ x∈l.map bu9,x.length=1/\x.all IV.leaf=true:=fun x hx=>by
 obtain ⟨b,_,rfl⟩:=zk.1 hx; exact ⟨rfl,rfl⟩
theorem fv7 (a:ad9)(ni:Nat)(hA:AOK a)(hm:∀ q∈a.l,ah8 q=true)(hni:a.p.inst=ni):PC Tryz.prog EE 9 [a.v] (.tuple [(ag6.mk a (as4 a.l ni)).v,.int .i64 0]):=by
 refine ae5 hE fok9 (nZ rfl) (ao4 (au2 a)) ?_;have hlen:=hA.len;have hle:ni<=a.l.length:=by have:=hA.inst; omega
 have hP:=fv6 a;have hR:=dv8 a hA;have hT:=es7 a.p hlen fun x hx=>⟨hA.fit x hx,hA.tiny x hx⟩
 have hT:PC Tryz.prog EE 42 [a.p.v] (.tuple [ar6 a.l,.int .i64 0]):=hT;have hrl:a.p.rows.length=a.l.length:=by simp[ad9.l,ad4]
 have hC:=bd4 a.p;rw[hrl] at hC;have hI:=az2 a.p;rw[hni] at hI
 have hpk:∀ j (h:j<a.l.length),PC Tryz.prog EE 37 [a.p.v,.int .i64 j] (.tuple [.agg a.l[j].cs,.int .i64 0]):=fun j h=>by
  have hq:a.p.rows[j].pkg=a.l[j]:=by simp[ad9.l,ad4]
  have h1:=be4 a.p j om (by rw[hq]; exact hA.fit _ (zd h));rw[hq] at h1; exact h1
 have hbA:=au2 a;have hbP:=ay1 a.p;have hbT:=ay9 a.l;have k0:a.r.cs[0]? = zg (.int .u8 a.r.aj1):=rfl;have vnl:∀ d:TypeId,ct5 (.pointer d) a.v=zg false:=fun _=>rfl
 have alf:a.v.leaf=true:=rfl;have acs:a.v.cs=[a.v]:=rfl;have plf:a.p.v.leaf=true:=rfl;have pcs:a.p.v.cs=[a.p.v]:=rfl;have tlf:(ar6 a.l).leaf=true:=rfl;have tcs:(ar6 a.l).cs=[ar6 a.l]:=rfl;have hS:=fun zs hz r h1 h2=>et1 a.l hlen hA.small zs hz r h1 h2
 have hV:(ag6.mk a (as4 a.l ni)).v=.ab5 [a.v,a.p.v,.int .u8 a.r.aj1,.aa4 (a.l.map aa2.cs),.aa4 ((as4 a.l ni).map bu9)]:=rfl;rw[hV];generalize hav:a.v=Av at *;generalize hpv:a.p.v=Pv at *;generalize htv:ar6 a.l=Tv at *;simp only[ic9,go_sem,vnl];refine aa3 fok40 (hP) ?_;simp only[go_sem];refine aa3 fok41 (hR) ?_;simp only[go_sem,gq5,ak6,k0,alf,acs,plf,pcs];refine aa3 fok36 (hC) ?_;simp only[go_sem];refine ab1 noT (fun n fr s=>∃ gv,fr=[(4,.ptr 0 0),(34,.int .i64 a.l.length),(35,.int .i64 (n:Int))]/\1<=s.next/\s.obj 0=zg (.cells [Av,Pv,.int .u8 a.r.aj1,gv,.aa1])/\Grow s gv 15 ((a.l.take n).map aa2.cs)) a.l.length ⟨.aa1,rfl,zf 1,by simp only[aa5,if_true],.inl ⟨rfl,rfl⟩⟩ ?_;rintro n fr s hn ⟨gv,rfl,hnx,ho,hg⟩;by_cases hlt:n<a.l.length
 ·have d1:(n:Int)<(a.l.length:Int):=om
  have w1:=ac4 (i:=n) om;have hp:=hpk n hlt;have n5:¬ 0=s.next:=om
  have htk:a.l.take (n+1)=a.l.take n++[a.l[n]]:=by
   rw[zw,zj hlt]; rfl
  have hgl:gv.leaf=true:=by rcases hg with ⟨rfl,_⟩|⟨id,rfl,_⟩<;>rfl
  have hgc:gv.cs=[gv]:=by rcases hg with ⟨rfl,_⟩|⟨id,rfl,_⟩<;>rfl
  simp only[go_sem,d1,ho];refine aa3 fok37 (hp) ?_;simp only[go_sem,af8,ah2,af4,n5,ho,b_o,b_p,b_t];obtain ⟨s1,a1,a2,a3,a4⟩:=ew5 (k:=11) (nid:=s.next+1+1+1+1+1+1+1+1) (e:=a.l[n].cs) (A:=.cells [.str [],.int .i64 0,.str [],.str [],.int .u8 0,.str [],.aa1,.aa1,.aa1,.aa1,.aa1,.aa1,.aa1,.aa1,.aa1]) (B:=.cells a.l[n].cs) hg (bb4 _) ⟨rfl,rfl⟩ (by rw[zb,zo]; omega) ho om om;simp only[go_sem,a1,a3,b_o,b_p,b_t,w1];refine ⟨hlt,_,by rw[a2]; omega,rfl,?_⟩;rw[htk,zh];have a5:=a4 [Av,Pv,.int .u8 a.r.aj1,.slice (s.next+1+1+1+1+1+1+1+1) 0 ((a.l.take n).length+1) 15,.aa1] s1.next (by rw[a2]; omega);rw[zb] at a5;exact a5
 have hn':n=a.l.length:=om
 subst hn';have d1:¬ (a.l.length:Int)<(a.l.length:Int):=om
 rw[zl] at hg;have n5:¬ 0=s.next:=om
 have n6:¬ 0=s.next+1:=om
 simp only[go_sem,d1,ho];refine aa3 fok42 (hT) ?_;simp only[go_sem,tlf,tcs,n5,n6,ho];rcases hg with ⟨rfl,h0⟩|⟨ga,rfl,hga,hgl⟩
 ·-- nobody
  have hl0:a.l=[]:=qt.1 h0;have hn0:ni=0:=by rw[hl0] at hle; simpa using hle
  subst hn0
  first|refine aa3 fok33 (hI) ?_|refine aa8 (hI) ?_
  have hs0:bv7 15 qs (zg (.int .i64 0)) .aa1=zg .aa1:=rfl;have hl1:a.l.length=0:=by rw[hl0]; rfl
  simp only[go_sem,hs0];refine ab1 noT (fun i fr t=>fr=[(4,.ptr 0 0),(8,.ptr s.next 0),(10,.ptr (s.next+1) 0),(11,.aa1),(81,.aa1),(82,.int .i64 0),(83,.int .i64 (i:Int))]/\t.obj 0=zg (.cells [Av,Pv,.int .u8 a.r.aj1,.aa1,.aa1])) 0 ⟨rfl,by simp only[aa5,n5,n6,if_false]; exact ho⟩ ?_;rintro i fr t hi0 ⟨rfl,ht0⟩;have hi1:i=0:=om
  subst hi1;have z0:¬ ((0:Nat):Int)<0:=by decide
  simp only[go_sem,z0,ht0];refine ab1 noT (fun i fr t=>fr=[(4,.ptr 0 0),(8,.ptr s.next 0),(10,.ptr (s.next+1) 0),(11,.aa1),(108,.aa1),(109,.int .i64 0),(110,.int .i64 (i:Int))]/\t.obj 0=zg (.cells [Av,Pv,.int .u8 a.r.aj1,.aa1,.aa1])) 0 ⟨rfl,ht0⟩ ?_;rintro i fr u hi0 ⟨rfl,hu0⟩;have hi1:i=0:=om
  subst hi1;simp only[go_sem,z0];rw[show as4 a.l 0=[] by rw[hl0]; rfl,hl0];refine .cp9 (.cons (.ptr 0 0 _ _ (zc _) (.inl hu0) (zf _) (fun j hj=>?_)) (.cons (ax5 rfl) .nil))
  match j,hj with
  | 0,_=>exact .keep _ hbA
  | 1,_=>exact .keep _ hbP
  | 2,_=>exact .keep _ (.int _ _)
  | 3,_=>exact .dc1
  | 4,_=>exact .dc1
 first|refine aa3 fok33 (hI) ?_|refine aa8 (hI) ?_
 rw[zb] at *
 have hs0:bv7 15 qs (zg (.int .i64 (ni:Int))) (.slice ga 0 a.l.length 15)=zg (.slice ga 0 ni 15):=by
  have h1:(0:Int)<=ni:=om
  simp[bv7,cd8,ej1,h1,hle]
 simp only[go_sem,hs0];obtain ⟨m,hm0⟩:∃ m,s.next=m:=⟨_,rfl⟩
 have hgz:0<ga:=by
  rcases Nat.eq_zero_or_pos ga with h|h
  ·rw[h,ho] at hga; cases hga
  ·exact h
 have hrow:∀ i (h:i<a.l.length),((a.l.map aa2.cs).flatten.drop (i*15)).take 15=a.l[i].cs/\15<=((a.l.map aa2.cs).flatten.drop (i*15)).length:=fun i h=>by
  have hl:∀ e∈a.l.map aa2.cs,e.length=15:=fun e he=>(bb4 _ e he).1
  have h1:=ay5 hl i (by rw[zb]; exact h);have h2:=as6 hl;refine ⟨by rw[h1]; simp[za,h],?_⟩;rw[List.length_drop,h2,zb]; omega
 rw[hm0] at n5 n6 hnx hgl ⊢;generalize hF:(a.l.map aa2.cs).flatten=F at *;generalize hC0:[Av,Pv,IV.int .u8 a.r.aj1,IV.slice ga 0 a.l.length 15,IV.aa1]=C0 at *
 have hmay:∀ i (h:i<a.l.length),(a.l[i].suggests.length<=32/\∀ r∈a.l[i].suggests,r.fit/\r.count<=24/\∀ d∈r.atoms,ak5 d=true)/\a.l[i].ac1.length<=32/\∀ r∈a.l[i].ac1,r.fit/\r.count<=24:=fun i h=>by
  obtain ⟨⟨h1,h2⟩,h3,h4⟩:=bt8 (hm _ (zd h));have hr:=(hA.fit _ (zd h)).rich;simp only[aa2.rows,z1,z8,or_false,forall_eq_or_imp,forall_eq] at hr;exact ⟨⟨h1,fun r hr'=>⟨(hr.2.2.2.2.1.2 r hr').1,co9 (h2 r hr')⟩⟩,h3,fun r hr'=>⟨(hr.2.2.2.2.2.2 r hr').1,(co9 (h4 r hr')).1⟩⟩
 have hatl:∀ L:List aa2,(∀ q∈L,q∈a.l)->(an4 L).length<=L.length*(32*24):=fun L hL=>by
  refine es8 _ _ L fun q hq=>?_
  obtain ⟨i,hi,rfl⟩:=qr.1 (hL q hq);obtain ⟨⟨h1,h2⟩,_⟩:=hmay i hi;refine qf (es8 _ 24 _ fun r hr=>qf (bo6 r) (h2 r hr).2.1) (qc h1 (zf 24))
 refine ab1 noT (fun i fr u=>∃ iv av,fr=[(4,.ptr 0 0),(8,.ptr m 0),(10,.ptr (m+1) 0),(11,av),(81,.slice ga 0 ni 15),(82,.int .i64 ni),(83,.int .i64 (i:Int))]/\PF u m ga F C0 Tv iv av (ak9 (fun _=>true) i) (an4 (a.l.take i))) ni ⟨.aa1,.aa1,rfl,?_⟩ ?_
 ·refine ⟨by show m+1<m+2+_; omega,⟨hgz,hgl⟩,?_,?_,?_,?_,.inl ⟨rfl,rfl⟩,.inl ⟨rfl,rfl⟩,fun id k h=>(by cases h),fun i j k k' h=>(by cases h)⟩
  ·simp only[aa5,n5,n6,if_false]; exact ho
  ·have e1:¬ ga=m:=om
   have e2:¬ ga=m+1:=om
   simp only[aa5,e1,e2,if_false]; exact hga
  ·have e1:¬ m=m+1:=om
   simp only[aa5,e1,if_false,if_true]
  ·simp only[aa5,if_true]
 rintro i fr u hi ⟨iv,av,rfl,hpf⟩;by_cases hlt:i<ni
 ·have d2:(i:Int)<ni:=om
  have d3:(0:Int)<=i:=om
  have w1:=ac4 (i:=i) om;have hil:i<a.l.length:=om
  obtain ⟨r1,r2⟩:=hrow i hil;obtain ⟨⟨s1,s2⟩,_⟩:=hmay i hil;have hat:=hatl (a.l.take i) fun q hq=>z2 hq
  have htk:a.l.take (i+1)=a.l.take i++[a.l[i]]:=by
   rw[zw,zj hil]; rfl
  have hsg:(a.l[i].cs.drop 12).head? = zg (af1 a.l[i].suggests):=rfl;have hgu:¬ ga=u.next:=by have:=hpf.nx; omega
  have h1u:¬ m+1=u.next:=by have:=hpf.nx; omega
  generalize a.l[i]=q at *;simp only[go_sem,d2,d3,hpf.oF,r1,r2,qm,z7,af8,ah2,af4,h1u,hpf.o10,hsg];generalize hX:Store.put _ u.next (al8.cells q.cs)=X;have hXn:X.next=u.next+1:=by rw[<- hX]; rfl
  have hXo:∀ i,i<u.next->X.obj i=u.obj i:=fun i hi=>by
   have:¬ i=u.next:=om
   rw[<- hX]; simp only[aa5,this,if_false]
  have hXb:X.obj u.next=zg (.cells q.cs):=by rw[<- hX]; simp only[aa5,if_true]
  have hpX:PF X m ga F C0 Tv iv av (ak9 (fun _=>true) i) (an4 (a.l.take i)):=hpf.mono om hXo;have hzl:=av4 (fun _=>true) i;have hns:ak9 (fun _=>true) (i+1)=ak9 (fun _=>true) i++[(i:Int)]:=by rw[cm8]; rfl
  have hap:=cx3 (s:=⟨X.next+1,X.obj⟩) (nid:=X.next) (hpX.hi.up 1) (i:Int) om;have hpW:=hpX.inp (i:Int) (k:=1) (nid:=X.next) (zf _) (zz _)
  have hcl:∀ j cs,X.obj j=zg (.cells cs)->(ag2 iv ⟨X.next+1,X.obj⟩).obj j=zg (.cells cs):=fun j cs h=>by
   rcases hpX.hi with ⟨hv,_⟩|⟨id,_,_,hv,ho⟩
   ·rw[hv]; exact h
   ·rw[hv];show (if j=id then qs else X.obj j)=_;rw[if_neg fun e=>by rw[e,ho] at h; cases h]; exact h
  have k1:=hcl _ _ hpX.o10;have k2:=hcl _ _ hXb;have e1:¬ m+1=X.next:=by have:=hpX.nx; omega
  have e2:¬ u.next=X.next:=om
  have e3:¬ u.next=m+1:=by have:=hpf.nx; omega
  rw[<- hXn,hap];rw[<- hns] at hpW;simp only[go_sem,e1,e2,e3,k1,k2,hsg];generalize hY:Store.put _ (m+1) (al8.cells [IV.slice X.next 0 ((ak9 (fun _=>true) i).length+1) 1])=Y at *;generalize IV.slice X.next 0 ((ak9 (fun _=>true) i).length+1) 1=iv' at *;have hzl2:=av4 (fun _=>true) (i+1)
  refine ab1 noT (fun j fr t=>∃ av',fr=[(4,.ptr 0 0),(8,.ptr m 0),(10,.ptr (m+1) 0),(11,av'),(81,.slice ga 0 ni 15),(82,.int .i64 ni),(83,.int .i64 (i:Int)),(93,af1 q.suggests),(94,.int .i64 q.suggests.length),(95,.int .i64 (j:Int))] /\
   PF t m ga F C0 Tv iv' av' (ak9 (fun _=>true) (i+1)) (an4 (a.l.take i)++(q.suggests.take j).flatMap aa6.atoms)) q.suggests.length ⟨av,rfl,?_⟩ ?_
  ·rw[List.take_zero,qg,zv];refine hpW.mono (Nat.le_of_eq ?_) fun z hz=>?_
   ·rw[<- hY,hns]; try rfl
   ·rw[<- hY,hns]; try rfl
  rintro j fr t hj ⟨av',rfl,hpt⟩;by_cases hjl:j<q.suggests.length
  ·obtain ⟨r,hr,hrj,hdr,hget,htkj⟩:=ad6 q.suggests j hjl;have f1:(j:Int)<q.suggests.length:=om
   have f2:(0:Int)<=j:=om
   have w2:=ac4 (i:=j) om;obtain ⟨g1,g2,g3⟩:=s2 r hr;have hAt:=ht8 r g1 om;simp only[go_sem,f1,f2,hget,ab9,ac3,ab6];refine aa3 fok43 (hAt) ?_;simp only[go_sem];generalize hX2:Store.put _ t.next (al8.cells r.cs)=X2;have hX2n:X2.next=t.next+1:=by rw[<- hX2]; rfl
   have hpX2:PF X2 m ga F C0 Tv iv' av' (ak9 (fun _=>true) (i+1)) (an4 (a.l.take i)++(q.suggests.take j).flatMap aa6.atoms):=hpt.mono om fun z hz=>by
    have:¬ z=t.next:=om
    rw[<- hX2]; simp only[aa5,this,if_false]
   have hfj:((q.suggests.take j).flatMap aa6.atoms).length<=32*24:=qf (es8 _ 24 _ fun x hx=>qf (bo6 x) (s2 x (z2 hx)).2.1) (qc (by rw[zo]; omega) (zf 24));have hra:=bo6 r;have hti:(a.l.take i).length<=256:=by rw[zo]; omega
   have hmul:(a.l.take i).length*(32*24)<=256*(32*24):=qc hti (zf _);have hap2:=gr1 (s:=⟨X2.next+1,X2.obj⟩) (nid:=X2.next) (xs:=r.atoms.map Dep.cs) (hpX2.ha.mono (z3 _) fun _ _ _=>rfl) (av6 _) (av6 _) (by rw[zb,zb,ze]; omega);have htkj':(q.suggests.take (j+1)).flatMap aa6.atoms=(q.suggests.take j).flatMap aa6.atoms++r.atoms:=by rw[htkj,zi,z6,qg,zv]
   rw[<- hX2n];rcases hap2 with ⟨hz,hap2⟩|hap2
   ·have hz':r.atoms=[]:=qt.1 hz;rw[hap2];simp only[go_sem,w2];refine ⟨hjl,av',rfl,?_⟩;rw[htkj',hz',zv];exact hpX2.mono (z3 _) fun _ _=>rfl
   ·have hpA:=hpX2.atoms r.atoms (k:=1) (nid:=X2.next) (zf _) (zz _);rw[hap2];simp only[go_sem,w2];refine ⟨hjl,_,rfl,?_⟩;rw[htkj',<- zt];rw[zb,zb] at hpA;exact hpA
  have hj':j=q.suggests.length:=om
  subst hj';have f1:¬ (q.suggests.length:Int)<q.suggests.length:=om
  simp only[go_sem,f1,w1];refine ⟨hlt,iv',av',rfl,?_⟩;rw[zl] at hpt;rw[htk];unfold an4 at *;rw[zi,z6,qg,zv];exact hpt
 have hi':i=ni:=om
 subst hi';have d2:¬ (i:Int)<(i:Int):=om
 have hc3:(C0.drop 3).head? = zg (.slice ga 0 a.l.length 15):=by rw[<- hC0]; rfl
 simp only[go_sem,d2,hpf.o0,hc3];obtain ⟨M,hM0⟩:∃ M,u.next=M:=⟨_,rfl⟩;have hmM:m+1<M:=by rw[<- hM0]; exact hpf.nx
 have hlm:(as4 a.l i).length=a.l.length:=zb ..
 refine ab1 noT (fun n fr t=>∃ lv,fr=[(4,.ptr 0 0),(8,.ptr m 0),(10,.ptr (m+1) 0),(11,av),(108,.slice ga 0 a.l.length 15),(109,.int .i64 a.l.length),(110,.int .i64 (n:Int))]/\M<=t.next/\(∀ z,0<z->z<M->t.obj z=u.obj z) /\
  t.obj 0=zg (.cells [Av,Pv,.int .u8 a.r.aj1,.slice ga 0 a.l.length 15,lv])/\Grow t lv 1 (((as4 a.l i).take n).map bu9)/\∀ id k,lv=.slice id 0 k 1->M<=id) a.l.length ⟨.aa1,rfl,om,fun _ _ _=>rfl,by rw[hC0]; exact hpf.o0,.inl ⟨rfl,rfl⟩,fun id k h=>by cases h⟩ ?_
 rintro n fr t hn ⟨lv,rfl,hMt,hk,ho0,hlv,hll⟩;have hgaM:ga<M:=by have:=hpf.gm; omega
 have tF:t.obj ga=zg (.row F):=by rw[hk ga hgz hgaM]; exact hpf.oF
 by_cases hlt2:n<a.l.length
 ·have d3:(n:Int)<a.l.length:=om
  have d4:(0:Int)<=n:=om
  have w1:=ac4 (i:=n) om;obtain ⟨r1,r2⟩:=hrow n hlt2;obtain ⟨_,s1,s2⟩:=hmay n hlt2;have hsq:=hA.small _ (zd hlt2);have hti:(a.l.take i).length<=256:=by rw[zo]; omega
  have hmul:(a.l.take i).length*(32*24)<=256*(32*24):=qc hti (zf _);have hat:=hatl (a.l.take i) fun q hq=>z2 hq
  have hzl:=av4 (fun _=>true) i
  have htk:((as4 a.l i).take (n+1))=(as4 a.l i).take n++[db2 a.l i a.l[n]]:=by
   rw[zw];simp[as4,hlt2]
  have hen:(a.l[n].cs.drop 13).head? = zg (af1 a.l[n].ac1):=rfl
  have hD:∀ d∈an4 (a.l.take i),Dep.small d:=fun d hd=>by
   obtain ⟨q,hq,hd2⟩:=z9.1 hd;obtain ⟨r,hr,hd3⟩:=z9.1 hd2;obtain ⟨j,hj,hqj⟩:=qr.1 (z2 hq);rw[<- hqj] at hr;exact cc8 (((hmay j hj).1.2 r hr).2.2 d hd3)
  have hcD:=cc1 (an4 (a.l.take i)) 45 [] [.ab5 a.l[n].cs] (fun d=>provides a.l[n] d) om fok45.1 fun d hd=>es9 a.l[n] d hsq (hD d hd)
  have hcR:=bt4 a.l[n].ac1 48 [] [.ab5 [Tv],.ab5 [.aa4 ((ak9 (fun _=>true) i).map Md.ae4)]] (fun r=>hf6 a.l (ak9 (fun _=>true) i) r) om fok48.1 fun r hr=>hS _ om r (s2 r hr).1 (by have:=(s2 r hr).2; omega)
  have hlp:db2 a.l i a.l[n]=((an4 (a.l.take i)).any (fun d=>provides a.l[n] d)||a.l[n].ac1.any fun r=>hf6 a.l (ak9 (fun _=>true) i) r):=rfl;rw[hlp] at htk;generalize (an4 (a.l.take i)).any (fun d=>provides a.l[n] d)=B1 at *;generalize (a.l[n].ac1.any fun r=>hf6 a.l (ak9 (fun _=>true) i) r)=B2 at *;generalize a.l[n]=q at *;simp only[go_sem,d3,d4,tF,r1,r2,qm,z7,af8,ah2,af4];generalize hX:Store.put _ t.next (al8.cells q.cs)=X;have hXn:X.next=t.next+1:=by rw[<- hX]; rfl
  have hXo:∀ i,i<t.next->X.obj i=t.obj i:=fun i hi=>by
   have:¬ i=t.next:=om
   rw[<- hX]; simp only[aa5,this,if_false]
  have hXb:X.obj t.next=zg (.cells q.cs):=by rw[<- hX]; simp only[aa5,if_true]
  have hmt:¬ m=t.next:=om
  have hm1t:¬ m+1=t.next:=om
  have hXu:∀ z,0<z->z<M->X.obj z=u.obj z:=fun z h1 h2=>by rw[hXo z om,hk z h1 h2]
  have hav2:∀ τ:Store,τ.obj=X.obj->M<=τ.next->cs9 τ 0 av (.aa4 ((an4 (a.l.take i)).map Dep.cs)):=fun τ h1 h2=>by
   refine (hpf.ha.mono (σ:=u) om fun id hv hid=>?_:Grow τ av 5 ((an4 (a.l.take i)).map Dep.cs)).frz (fun e he=>(av6 _ e he).1) (fun _ _=>zc _) fun e he c hc=>by
    obtain ⟨x,_,rfl⟩:=zk.1 he;exact cv5 x c hc
   rw[h1];exact hXu id (by have:=hpf.la _ _ hv; omega) om
  refine ad3 fok44 (be3 (args':=[.aa4 ((an4 (a.l.take i)).map Dep.cs),.func (.func 45) [] [.ab5 q.cs]]) hE rfl (fun z hz=>by
   match z,hz with
   | 0,_=>exact hav2 _ rfl (by show M<=t.next+1; omega)
   | 1,_=>exact do2 (.cons (bt9 hXb (ah7 q)) .nil)) (by simp[IV.plain]) hcD) ?_
  rintro v w ⟨rfl,rfl⟩;refine ⟨zf _,?_⟩
  have hiv2:cs9 (⟨t.next+1,X.obj⟩:Store) 0 (.ptr (m+1) 0) (.ab5 [.aa4 ((ak9 (fun _=>true) i).map Md.ae4)]):=by
   refine .ptr (m+1) 0 [iv] _ (zc _) (.inl (by show X.obj (m+1)=_; rw[hXu _ om om]; exact hpf.o10)) (zf _) fun j hj=>?_
   have hj0:j=0:=by simp only[qo] at hj; omega
   subst hj0
   have hir:aj3 (⟨t.next+1,X.obj⟩:Store) (m+2) iv (ak9 (fun _=>true) i):=by
    rcases hpf.hi with h|⟨id,i1,i2,i3,i4⟩
    ·exact .inl h
    ·exact .inr ⟨id,i1,by show id<t.next+1; omega,i3,by show X.obj id=_; rw[hXu id om om]; exact i4⟩
   exact hir.w.frz fun _ _=>zc _
  simp only[go_sem,hXb,hen]
  refine ad3 fok47 (be3 (args':=[af1 q.ac1,.func (.func 48) [] [.ab5 [Tv],.ab5 [.aa4 ((ak9 (fun _=>true) i).map Md.ae4)]]]) hE rfl (fun z hz=>by
   match z,hz with
   | 0,_=>exact .keep _ (bh5 _)
   | 1,_=>exact do2 (.cons (bt9 (by show X.obj m=_; rw[hXu _ om om]; exact hpf.o8) (ao4 hbT)) (.cons hiv2 .nil))) (by simp[IV.plain]) hcR) ?_
  rintro v w ⟨rfl,rfl⟩;refine ⟨zf _,?_⟩;have hx0:X.obj 0=zg (.cells [Av,Pv,.int .u8 a.r.aj1,.slice ga 0 a.l.length 15,lv]):=by rw[hXo 0 om]; exact ho0
  simp only[go_sem,hx0];have hlx:Grow (⟨t.next+1+1,X.obj⟩:Store) lv 1 (((as4 a.l i).take n).map bu9):=hlv.mono (by show t.next<=t.next+1+1; omega) fun id _ hid=>hXo id hid
  have hap:=fun b:Bool=>am4 (nid:=t.next+1) (e:=[IV.bool b]) hlx (fd6 _) ⟨rfl,rfl⟩ (by rw[zb,zo]; omega)
  have kn:(ag2 lv (⟨t.next+1+1,X.obj⟩:Store)).next=t.next+1+1:=ac9 lv;have k0:=ah3 hlx 0 _ hx0 (fun _ h=>by cases h)
  have kz:∀ z,0<z->z<M->(ag2 lv (⟨t.next+1+1,X.obj⟩:Store)).obj z=u.obj z:=fun z h1 h2=>by
   rcases hlx with ⟨hv,_⟩|⟨id,hv,_,_⟩
   ·rw[hv]; exact hXu z h1 h2
   ·have:=hll _ _ hv;rw[hv];show (if z=id then qs else X.obj z)=_;rw[if_neg om]; exact hXu z h1 h2
  have e0:¬ 0=t.next+1:=om
  have e1:¬ t.next+1=0:=om
  have hlen2:((as4 a.l i).take n).length=n:=by rw[zo,hlm]; omega
  have hfin:∀ b:Bool,b=(B1||B2)->∀ cs,cs=(((as4 a.l i).take n).map bu9++[[IV.bool b]]).flatten->n<a.l.length/\∃ lv',[(4,IV.ptr 0 0),(8,.ptr m 0),(10,.ptr (m+1) 0),(11,av),(108,.slice ga 0 a.l.length 15),(109,.int .i64 a.l.length),(110,.int .i64 ((n+1:Nat):Int))]=[(4,IV.ptr 0 0),(8,.ptr m 0),(10,.ptr (m+1) 0),(11,av),(108,.slice ga 0 a.l.length 15),(109,.int .i64 a.l.length),(110,.int .i64 ((n+1:Nat):Int))]/\lv'=.slice (t.next+1) 0 ((((as4 a.l i).take n).map bu9).length+1) 1 /\
    (((ag2 lv (⟨t.next+1+1,X.obj⟩:Store)).put (t.next+1) (.row cs)).put 0 (.cells [Av,Pv,.int .u8 a.r.aj1,.slice ga 0 a.l.length 15,lv'])).next=t.next+1+1/\(∀ z,0<z->z<M->(((ag2 lv (⟨t.next+1+1,X.obj⟩:Store)).put (t.next+1) (.row cs)).put 0 (.cells [Av,Pv,.int .u8 a.r.aj1,.slice ga 0 a.l.length 15,lv'])).obj z=u.obj z) /\
    Grow (((ag2 lv (⟨t.next+1+1,X.obj⟩:Store)).put (t.next+1) (.row cs)).put 0 (.cells [Av,Pv,.int .u8 a.r.aj1,.slice ga 0 a.l.length 15,lv'])) lv' 1 (((as4 a.l i).take (n+1)).map bu9):=fun b hb cs hcs=>by
   refine ⟨hlt2,_,rfl,rfl,by rw[aa7,aa7,kn],fun z h1 h2=>?_,?_⟩
   ·rw[aa5,if_neg om,aa5,if_neg om]; exact kz z h1 h2
   ·refine .inr ⟨t.next+1,?_,?_,by rw[aa7,aa7,kn]; omega⟩
    ·rw[htk]; simp
    ·rw[aa5,if_neg e1,aa5,if_pos rfl,htk,hcs,hb,zh]; rfl
  cases B1 with
  | true=>
   simp only[go_sem,hap,e0,k0,w1];obtain ⟨_,lv',_,h2,h3,h4,h5⟩:=hfin true rfl _ rfl;rw[h2,zb] at h3 h4 h5;refine ⟨hlt2,_,by rw[kn]; omega,fun z h1 h2=>?_,rfl,h5,fun id k h=>by cases h; omega⟩;have:=h4 z h1 h2
   simpa only[aa5] using this
   -- fun id k h=>by cases h; omega⟩
  | false=>
   simp only[go_sem,hap,e0,k0,w1];obtain ⟨_,lv',_,h2,h3,h4,h5⟩:=hfin B2 rfl _ rfl;rw[h2,zb] at h3 h4 h5;refine ⟨hlt2,_,by rw[kn]; omega,fun z h1 h2=>?_,rfl,h5,fun id k h=>by cases h; omega⟩;have:=h4 z h1 h2
   simpa only[aa5] using this
   -- fun id k h=>by cases h; omega⟩
 have hn':n=a.l.length:=om
 subst hn';have d3:¬ (a.l.length:Int)<(a.l.length:Int):=om
 simp only[go_sem,d3];rw[zp (by rw[hlm]; exact zf _)] at hlv;refine .cp9 (.cons (.ptr 0 0 _ _ (zc _) (.inl ho0) (zf _) (fun j hj=>?_)) (.cons (ax5 rfl) .nil))
 match j,hj with
 | 0,_=>exact .keep _ hbA
 | 1,_=>exact .keep _ hbP
 | 2,_=>exact .keep _ (.int _ _)
 | 3,_=>
  have hgr:Grow t (.slice ga 0 a.l.length 15) 15 (a.l.map aa2.cs):=.inr ⟨ga,by rw[zb],by rw[tF,hF],om⟩
  exact hgr.frz (fun x hx=>(bb4 _ x hx).1) (fun _ _=>zc _) fun e he c hc=>by
   obtain ⟨y,_,rfl⟩:=zk.1 he
   exact ah7 y c hc
 | 4,_=>
  exact hlv.frz (fun x hx=>(fd6 _ x hx).1) (fun _ _=>zc _) fun e he c hc=>by
   obtain ⟨y,_,rfl⟩:=zk.1 he
   cases hc with
   | head=>exact .bool _
   | tail _ h=>cases h
end Go.Id.Tryz
namespace Go.Id.Tryz
open Go Go.Id Go.Proofs Go.Shelf Go.Id.Md
theorem ah6 (o:ag6):Bnd 0 o.v:=.ab5 _ fun c hc=>by
 simp only[ag6.cs,z1,z8,or_false] at hc;rcases hc with rfl|rfl|rfl|rfl|rfl
 ·exact au2 _
 ·exact ay1 _
 ·exact .int _ _
 ·exact aq4 _
 ·exact eg9 _
theorem dd4 (o:ag6):o.v=.ab5 [o.a.v,o.a.p.v,.int .u8 o.a.r.aj1,.aa4 (o.a.l.map aa2.cs),eg8 o.ct2]:=rfl
structure OOK (o:ag6):Prop where
 a:AOK o.a
 lk:o.ct2.length=o.a.l.length
theorem bu1 (o:ag6)(n:Int):PC Tryz.prog EE 50 [o.v,.int .i64 n] (.bool (o.a.is n)):=by
 refine ae5 hE fok50 (nZ rfl) (ae9 (ah6 o) (.int _ _)) ?_;unfold ad9.is;rw[dd4];have hl:(o.a.l.map aa2.cs).length=o.a.l.length:=zb ..;generalize o.a.l.map aa2.cs=es at *;generalize o.a.l.length=k at *;by_cases h1:0<=n
 ·by_cases h2:n<(k:Nat)
  ·simp only[ic50,go_sem,ac5,h1,h2,hl]; exact ab4 rfl
  ·simp only[ic50,go_sem,ac5,h1,h2,hl]; exact ab4 rfl
 ·simp only[ic50,go_sem,ac5,h1]; exact ab4 rfl
theorem dv9 {a:ad9}{n:Int}(h:a.is n=true):∃ k:Nat,n=k/\k<a.l.length:=by
 unfold ad9.is at h;simp only[zm,decide_eq_true_eq] at h;exact ⟨n.toNat,om,om⟩
theorem fv8 (a:ad9){k:Nat}(h:k<a.l.length):a.pk k=a.l[k]:=by simp[ad9.pk,za,h]
theorem ht9 (o:ag6)(hO:OOK o)(n:Int):PC Tryz.prog EE 12 [o.v,.int .i64 n] (.bool (o.likes n)):=by
 refine ae5 hE fok12 (nZ rfl) (ae9 (ah6 o) (.int _ _)) ?_;have h:=bu1 o n;unfold ag6.likes ag6.lk
 cases hi:o.a.is n with
 | false=>
  rw[hi] at h;simp only[ic12,go_sem];refine aa3 fok50 (h) ?_
  simp only[go_sem]; exact ab4 rfl
 | true=>
  rw[hi] at h;obtain ⟨k,rfl,hk⟩:=dv9 hi;have hk2:k<o.ct2.length:=by rw[hO.lk]; exact hk
  have c1:(k:Int)<o.ct2.length:=om
  have c2:(0:Int)<=k:=om
  have g:=bo5 hk2;rw[dd4] at h ⊢;simp only[ic12,go_sem];refine aa3 fok50 (h) ?_;simp only[go_sem,ac5,c1,c2,g]; exact ab4 rfl
theorem bv6 (b:Bool):PC Tryz.prog EE 68 [.bool b] (.int .i64 (ag6.bb9 b)):=by
 refine ae5 hE fok68 (nZ rfl) (ao4 (.bool _)) ?_
 cases b with
 | false=>simp only[ic68,go_sem]; exact ax5 rfl
 | true=>simp only[ic68,go_sem]; exact ax5 rfl
theorem ai3 {v:IV}(h:Bnd 0 v):Bnd 0 (.ab5 [v]):=.ab5 _ (ao4 h)
theorem is3 (o:ag6)(n m:Int):PC Tryz.prog EE 107 [.ab5 [o.v],.ab5 [.int .i64 n],.ab5 [.int .i64 m]] (.int .i64 (al7 (ag6.bb9 (o.a.fits n)) (ag6.bb9 (o.a.fits m)))):=by
 refine ae5 hE fok107 (nZ rfl) (at1 (ai3 (ah6 o)) (ai3 (.int _ _)) (ai3 (.int _ _))) ?_;have h1:=dn8 o.a n;have h2:=dn8 o.a m;have y1:=bv6 (o.a.fits n);have y2:=bv6 (o.a.fits m);have hc:=bb3 (ag6.bb9 (o.a.fits n)) (ag6.bb9 (o.a.fits m));rw[dd4];simp only[ic107,go_sem,ac5];refine aa8 (h1) ?_;simp only[go_sem];refine aa8 (y1) ?_;simp only[go_sem,ac5];refine aa8 (h2) ?_;simp only[go_sem];refine aa8 (y2) ?_;simp only[go_sem]
 first|refine aa3 fok67 (hc) ?_|refine aa8 (hc) ?_
 simp only[go_sem];exact ax5 rfl
theorem is4 (o:ag6)(p q:aa2):PC Tryz.prog EE 109 [.ab5 [o.v],.ab5 p.cs,.ab5 q.cs] (.int .i64 (al7 (al1 o.a.r.aj1 p.aj1) (al1 o.a.r.aj1 q.aj1))):=by
 refine ae5 hE fok109 (nZ rfl) (at1 (ai3 (ah6 o)) (.ab5 _ (ah7 p)) (.ab5 _ (ah7 q))) ?_;have h1:=dv2 o.a.r.aj1 p.aj1;have h2:=dv2 o.a.r.aj1 q.aj1;have hc:=bb3 (al1 o.a.r.aj1 p.aj1) (al1 o.a.r.aj1 q.aj1);have p4:(p.cs.drop 4).head? = zg (.int .u8 p.aj1):=rfl;have q4:(q.cs.drop 4).head? = zg (.int .u8 q.aj1):=rfl;rw[dd4];simp only[ic109,go_sem,ac5,af8,p4]
 first|refine aa3 fok110 (h1) ?_|refine aa8 (h1) ?_
 simp only[go_sem,ac5,af8,q4]
 first|refine aa3 fok110 (h2) ?_|refine aa8 (h2) ?_
 simp only[go_sem]
 first|refine aa3 fok67 (hc) ?_|refine aa8 (hc) ?_
 simp only[go_sem];exact ax5 rfl
theorem gr2 (r:az3):(r.cs.drop 16).head? = zg (.int .i64 r.prio):=rfl
theorem bo7 (p:Pool)(n:Nat)(h:n<p.rows.length):PC Tryz.prog EE 112 [p.v,.int .i64 n] (.int .i64 p.rows[n].prio):=by
 refine av9 fok112 (nZ rfl) fun σ=>?_
 have c1:(n:Int)<p.rows.length:=om
 have c2:(0:Int)<=n:=om
 have hg:(p.rows.map az3.cs).getD n []=p.rows[n].cs:=by simp[za,h]
 simp only[ic112,go_sem,Pool.v];refine aa3 fok87 (da2 p.rows n) ?_;simp only[go_sem,c1,c2,hg,bd3,gr2,and_self]
theorem gr3 (o:ag6){k:Nat}(h:k<o.a.l.length):∃ h2:k<o.a.p.rows.length,o.prio k=o.a.p.rows[k].prio:=by
 have hrl:o.a.p.rows.length=o.a.l.length:=by simp[ad9.l,ad4]
 exact ⟨om,by simp[ag6.prio,za,show k<o.a.p.rows.length by omega]⟩
theorem is5 (o:ag6){n m:Nat}(hn:n<o.a.l.length)(hm:m<o.a.l.length):PC Tryz.prog EE 111 [.ab5 [o.v],.ab5 [.int .i64 m],.ab5 [.int .i64 n]] (.int .i64 (al7 (o.prio m) (o.prio n))):=by
 refine ae5 hE fok111 (nZ rfl) (at1 (ai3 (ah6 o)) (ai3 (.int _ _)) (ai3 (.int _ _))) ?_;obtain ⟨h1,e1⟩:=gr3 o hn;obtain ⟨h2,e2⟩:=gr3 o hm;have p1:=bo7 o.a.p n h1;have p2:=bo7 o.a.p m h2;rw[<- e1] at p1;rw[<- e2] at p2;have hc:=bb3 (o.prio m) (o.prio n);rw[dd4];simp only[ic111,go_sem,ac5];refine aa8 (p2) ?_;simp only[go_sem,ac5];refine aa8 (p1) ?_;simp only[go_sem]
 first|refine aa3 fok67 (hc) ?_|refine aa8 (hc) ?_
 simp only[go_sem];exact ax5 rfl
theorem is6 (o:ag6)(hO:OOK o){n m:Nat}(hn:n<o.a.l.length)(hm:m<o.a.l.length):PC Tryz.prog EE 113 [.ab5 [o.v],.ab5 [.int .i64 n],.ab5 [.int .i64 m]] (.int .i64 (al7 (ag6.bb9 (o.lk n)) (ag6.bb9 (o.lk m)))):=by
 refine ae5 hE fok113 (nZ rfl) (at1 (ai3 (ah6 o)) (ai3 (.int _ _)) (ai3 (.int _ _))) ?_;have g1:=bo5 (st:=o.ct2) (n:=n) (by rw[hO.lk]; exact hn);have g2:=bo5 (st:=o.ct2) (n:=m) (by rw[hO.lk]; exact hm);have c1:(n:Int)<o.ct2.length:=by rw[hO.lk]; omega
 have c2:(0:Int)<=n:=om
 have c3:(m:Int)<o.ct2.length:=by rw[hO.lk]; omega
 have c4:(0:Int)<=m:=om
 have y1:=bv6 (o.lk n);have y2:=bv6 (o.lk m);have hc:=bb3 (ag6.bb9 (o.lk n)) (ag6.bb9 (o.lk m));unfold ag6.lk at *;rw[z7] at *;rw[dd4];simp only[ic113,go_sem,ac5,c1,c2,g1];refine aa8 (y1) ?_;simp only[go_sem,ac5,c3,c4,g2];refine aa8 (y2) ?_;simp only[go_sem]
 first|refine aa3 fok67 (hc) ?_|refine aa8 (hc) ?_
 simp only[go_sem];exact ax5 rfl
theorem is7 (p q:aa2)(hp:EVR.small p.evr)(hq:EVR.small q.evr):PC Tryz.prog EE 114 [.ab5 q.cs,.ab5 p.cs] (.int .i64 (ai5 q.evr p.evr)):=by
 refine ae5 hE fok114 (nZ rfl) (ae9 (.ab5 _ (ah7 q)) (.ab5 _ (ah7 p))) ?_;have h:=az7 q.evr p.evr hq hp;have p1:(p.cs.drop 1).take 3=p.evr.cs:=rfl;have q1:(q.cs.drop 1).take 3=q.evr.cs:=rfl;have p2:(p.cs.drop 1).length=14:=rfl;have q2:(q.cs.drop 1).length=14:=rfl;simp only[ic114,go_sem,af8,p1,q1,p2,q2];refine aa3 fok115 (h) ?_;simp only[go_sem];exact ax5 rfl
theorem is8 (n m:Int):PC Tryz.prog EE 116 [.ab5 [.int .i64 n],.ab5 [.int .i64 m]] (.int .i64 (al7 n m)):=by
 refine ae5 hE fok116 (nZ rfl) (ae9 (ai3 (.int _ _)) (ai3 (.int _ _))) ?_;have hc:=bb3 n m;simp only[ic116,go_sem]
 first|refine aa3 fok67 (hc) ?_|refine aa8 (hc) ?_
 simp only[go_sem];exact ax5 rfl
theorem cr5 (fs:List (Nat×List IV))(vals:List Int)(hl:fs.length=vals.length)(hn:fs.length<2^40)(hb:∀ f∈fs,∀ c∈f.2,Bnd 0 c)
  (h:∀ i (h1:i<fs.length) (h2:i<vals.length),okF Tryz.prog fs[i].1=true/\PC Tryz.prog EE fs[i].1 fs[i].2 (.int .i64 vals[i])):PC Tryz.prog EE 106 [.aa4 (fs.map fnC)] (.int .i64 (orM vals)):=by
 refine ae5 hE fok106 (nZ rfl) (af3 (.aa4 _ fun e he c hc=>?_)) ?_
 ·obtain ⟨f,hf,rfl⟩:=zk.1 he
  cases hc with
  | head=>exact .func _ _ _ (fun c hc=>by cases hc) (hb f hf)
  | tail _ h=>cases h
 simp only[ic106,go_sem];refine ab1 noT (fun i fr s=>fr=[(6,.aa4 (fs.map fnC)),(7,.int .i64 fs.length),(8,.int .i64 i)]/\orM vals=orM (vals.drop i)) fs.length ⟨rfl,rfl⟩ ?_;rintro i fr s hle ⟨rfl,hI⟩;by_cases hlt:i<fs.length
 ·obtain ⟨f,hf,hget0,hdr,hget,htk⟩:=ad6 fs i hlt;have hlt2:i<vals.length:=om
  have c1:(i:Int)<fs.length:=om
  have c2:(0:Int)<=i:=om
  have w1:=ac4 (i:=i) om;obtain ⟨k1,k2⟩:=h i hlt hlt2
  have hfi:fs[i]=f:=by
   have:=zj hlt; rw[this] at hget0; exact zg.inj hget0
  rw[hfi] at k1 k2;rw[qj hlt2,orM] at hI;generalize vals[i]=x at *;simp only[go_sem,c1,c2,hget,fnC];refine am8 k1 k2 ?_;by_cases hx:x=0
  ·subst hx;simp only[go_sem,w1];exact ⟨hlt,by simpa using hI⟩
  ·rw[if_neg hx] at hI;simp only[go_sem,hx];rw[hI]; exact ad1 _ _
 ·have hi':i=fs.length:=om
  subst hi';have c1:¬ (fs.length:Int)<fs.length:=om
  rw[hl,qh,orM] at hI;simp only[go_sem,c1];rw[hI]; exact ad1 _ _
theorem cp1 (o:ag6)(hO:OOK o){n m:Nat}(hn:n<o.a.l.length)(hm:m<o.a.l.length):PC Tryz.prog EE 55 [o.v,.int .i64 n,.int .i64 m] (.int .i64 (o.cmp n m)):=by
 refine ae5 hE fok55 (nZ rfl) (at1 (ah6 o) (.int _ _) (.int _ _)) ?_;have hlen:=hO.a.len;have hpn:=fv8 o.a hn;have hpm:=fv8 o.a hm;have en:=(hO.a.small _ (zd hn)).1;have em:=(hO.a.small _ (zd hm)).1
 have hv:o.cmp n m=orM [al7 (ag6.bb9 (o.a.fits n)) (ag6.bb9 (o.a.fits m)),al7 (al1 o.a.r.aj1 o.a.l[n].aj1) (al1 o.a.r.aj1 o.a.l[m].aj1),al7 (o.prio m) (o.prio n),al7 (ag6.bb9 (o.lk n)) (ag6.bb9 (o.lk m)),ai5 o.a.l[m].evr o.a.l[n].evr,al7 n m]:=by
  unfold ag6.cmp Md.lex;rw[hpn,hpm];simp only[orM]
  repeat (first|rfl|split)
  all_goals simp_all
 have c1:=is3 o n m;have c2:=is4 o o.a.l[n] o.a.l[m];have c3:=is5 o hn hm;have c4:=is6 o hO hn hm;have c5:=is7 o.a.l[n] o.a.l[m] en em;have c6:=is8 n m;have b1:=ai3 (ah6 o);have b2:=ai3 (v:=.int .i64 n) (.int _ _);have b3:=ai3 (v:=.int .i64 m) (.int _ _);have b4:Bnd 0 (.ab5 o.a.l[n].cs):=.ab5 _ (ah7 _);have b5:Bnd 0 (.ab5 o.a.l[m].cs):=.ab5 _ (ah7 _)
 have hf:=cr5 [(107,[.ab5 [o.v],.ab5 [.int .i64 n],.ab5 [.int .i64 m]]),(109,[.ab5 [o.v],.ab5 o.a.l[n].cs,.ab5 o.a.l[m].cs]),(111,[.ab5 [o.v],.ab5 [.int .i64 m],.ab5 [.int .i64 n]]),(113,[.ab5 [o.v],.ab5 [.int .i64 n],.ab5 [.int .i64 m]]),(114,[.ab5 o.a.l[m].cs,.ab5 o.a.l[n].cs]),(116,[.ab5 [.int .i64 n],.ab5 [.int .i64 m]])]
  [al7 (ag6.bb9 (o.a.fits n)) (ag6.bb9 (o.a.fits m)),al7 (al1 o.a.r.aj1 o.a.l[n].aj1) (al1 o.a.r.aj1 o.a.l[m].aj1),al7 (o.prio m) (o.prio n),al7 (ag6.bb9 (o.lk n)) (ag6.bb9 (o.lk m)),ai5 o.a.l[m].evr o.a.l[n].evr,al7 n m] rfl (by simp)
  (fun f hf c hc=>by
   simp only[z1,z8,or_false] at hf;rcases hf with rfl|rfl|rfl|rfl|rfl|rfl
   ·exact at1 b1 b2 b3 c hc
   ·exact at1 b1 b4 b5 c hc
   ·exact at1 b1 b3 b2 c hc
   ·exact at1 b1 b2 b3 c hc
   ·exact ae9 b5 b4 c hc
   ·exact ae9 b2 b3 c hc)
  (fun i h1 h2=>by
   match i,h1 with
   | 0,_=>exact ⟨fok107.1,c1⟩
   | 1,_=>exact ⟨fok109.1,c2⟩
   | 2,_=>exact ⟨fok111.1,c3⟩
   | 3,_=>exact ⟨fok113.1,c4⟩
   | 4,_=>exact ⟨fok114.1,c5⟩
   | 5,_=>exact ⟨fok116.1,c6⟩
   | i+6,h=>simp at h; omega)
 rw[<- hv] at hf;have bo:=ah6 o;have hov:=dd4 o;have d1:(n:Int)<o.a.l.length:=om
 have d2:(0:Int)<=n:=om
 have d3:(m:Int)<o.a.l.length:=om
 have d4:(0:Int)<=m:=om
 have g1:(o.a.l.map aa2.cs).getD n []=o.a.l[n].cs:=by simp[za,hn]
 have g2:(o.a.l.map aa2.cs).getD m []=o.a.l[m].cs:=by simp[za,hm]
 have olf:o.v.leaf=true:=rfl;have ocs:o.v.cs=[o.v]:=rfl;have onc:∀ (P:Prop),P->P:=fun _ h=>h
 simp only[ic55,go_sem,olf,ocs,hov,d1,d2,d3,d4,g1,g2,af8,ah2,af4];rw[<- hov];generalize hS:Store.mk 18 _=S;have s14:S.obj 14=zg (.cells o.a.l[n].cs):=by rw[<- hS]; simp only[aa5]; rfl
 have s15:S.obj 15=zg (.cells o.a.l[m].cs):=by rw[<- hS]; simp only[aa5,if_true]
 have f14:=bt9 s14 (ah7 _);have f15:=bt9 s15 (ah7 _);have kf:∀ (g:Nat) (cs:List IV),(∀ c∈cs,Bnd 0 c)->cs9 S 0 (.func (.func g) [] cs) (.func (.func g) [] cs):=fun g cs h=>.keep _ (.func _ _ _ (fun c hc=>by cases hc) h)
 have hl1:∀ (x y:IV),[x].length=[y].length:=fun _ _=>rfl
 refine ad3 fok106 (be3 hE (hl1 _ _) (fun i hi=>?_) (by simp[IV.plain]) hf) ?_
 ·match i,hi with
  | 0,_=>
   refine .aa4 _ _ rfl (fun i hi=>?_) fun i hi j hj=>?_
   ·match i,hi with
    | 0,_=>rfl
    | 1,_=>rfl
    | 2,_=>rfl
    | 3,_=>rfl
    | 4,_=>rfl
    | 5,_=>rfl
   ·match i,hi,j,hj with
    | 0,_,0,_=>exact kf _ _ (at1 b1 b2 b3)
    | 1,_,0,_=>exact do2 (.cons (.keep _ b1) (.cons f14 (.cons f15 .nil)))
    | 2,_,0,_=>exact kf _ _ (at1 b1 b3 b2)
    | 3,_,0,_=>exact kf _ _ (at1 b1 b2 b3)
    | 4,_,0,_=>exact do2 (.cons f15 (.cons f14 .nil))
    | 5,_,0,_=>exact kf _ _ (ae9 b2 b3)
 rintro v w ⟨rfl,rfl⟩;refine ⟨zf _,?_⟩;simp only[go_sem];exact ax5 rfl
theorem gr4 (o:ag6)(hO:OOK o)(n m:Int):PC Tryz.prog EE 14 [o.v,.int .i64 n,.int .i64 m] (.bool (o.better n m)):=by
 refine ae5 hE fok14 (nZ rfl) (at1 (ah6 o) (.int _ _) (.int _ _)) ?_;have h1:=bu1 o n;have h2:=bu1 o m;unfold ag6.better;simp only[ic14,go_sem];refine aa3 fok50 (h1) ?_
 cases e1:o.a.is n with
 | false=>simp only[go_sem]; exact ab4 rfl
 | true=>
  simp only[go_sem];refine aa3 fok50 (h2) ?_
  cases e2:o.a.is m with
  | false=>simp only[go_sem]; exact ab4 rfl
  | true=>
   obtain ⟨k,rfl,hk⟩:=dv9 e1;obtain ⟨j,rfl,hj⟩:=dv9 e2;have hc:=cp1 o hO hk hj;simp only[go_sem];refine aa3 fok55 (hc) ?_;simp only[go_sem];exact ab4 rfl
end Go.Id.Tryz
namespace Go.Id.Tryz
open Go Go.Id Go.Proofs Go.Shelf Go.Id.Md
theorem gs4 {σ:Store}{nid:Nat}{d:Dep}:as5 σ nid 5 .aa1 (.aa4 [[.str d.name,.int .u8 d.op,.int .i64 d.evr.ak4,.str d.evr.ver,.str d.evr.rel]])=zg (.slice nid 0 1 5,σ.put nid (.row d.cs)):=rfl
theorem gs5 (r:aa6):r.fit->r.count<2^30->PC Tryz.prog EE 52 [.agg r.cs] (.aa4 (r.atoms.map Dep.cs)):=by
 induction r using aa6.ind with
 | h k d xs ih=>
  intro hf hc;obtain ⟨f1,f2,f3,f4,f5⟩:=aa6.ca5.1 hf;have hal:=bo6 (aa6.mk k d xs);have hat:=hd9 k d xs;refine ae5 hE fok52 (nZ rfl) (af3 (ag3 _)) ?_;rw[hat] at hal ⊢;rw[aa6.aq6]
  have hpre:∀ i,i<=xs.length->((if k=1 then [d] else [])++(xs.take i).flatMap aa6.atoms).length<2^30:=fun i hi=>by
   have e:xs.flatMap aa6.atoms=(xs.take i).flatMap aa6.atoms++(xs.drop i).flatMap aa6.atoms:=by rw[<- zi,qn]
   rw[e] at hal;simp only[ze] at hal ⊢;omega
  by_cases hk:k=1
  ·rw[if_pos hk] at hpre ⊢;obtain ⟨es,hes⟩:∃ es:List Dep,es=[d]:=⟨_,rfl⟩;rw[<- hes] at hpre ⊢;simp only[ic52,go_sem,aa6.kind,aa6.dep,aa6.args,hk,gs4,ag7,aj5,ah1];refine ab1 noT (fun i fr t=>∃ gv,fr=[(1,.ab5 [.int .u8 1,.str d.name,.int .u8 d.op,.int .i64 d.evr.ak4,.str d.evr.ver,.str d.evr.rel,af1 xs]),(3,gv),(4,.int .i64 (i:Int))]/\Grow t gv 5 ((es++(xs.take i).flatMap aa6.atoms).map Dep.cs)) xs.length ?_ ?_
   ·first
     | exact ⟨.aa1,rfl,by rw[hes]; exact .inl ⟨rfl,rfl⟩⟩
     | exact ⟨_,rfl,by rw[hes]; exact .inr ⟨0,rfl,by simp only[aa5,if_true]; rfl,by show 0<1; omega⟩⟩
     | done
   rintro i fr t hi ⟨gv,rfl,hg⟩;by_cases hlt:i<xs.length
   ·obtain ⟨a,ha,_,hdr,hget,htk⟩:=ad6 xs i hlt;have c1:(i:Int)<xs.length:=om
    have c2:(0:Int)<=i:=om
    have w1:=ac4 (i:=i) om
    have hia:=ih a ha (f5 a ha) (by
     have:=aa6.ed5 (k:=k) (d:=d) ha;omega)
    have hfl:(xs.take (i+1)).flatMap aa6.atoms=(xs.take i).flatMap aa6.atoms++a.atoms:=by
     rw[htk,zi]; simp
    have hp1:=hpre (i+1) om;rw[hfl] at hp1;obtain ⟨v2,t2,a2,n2,q2,_,_⟩:=by6 (nid:=t.next) (xs:=a.atoms.map Dep.cs) (hg.mono (σ':=⟨t.next+1,t.obj⟩) (z3 _) fun _ _ _=>rfl) (av6 _) (av6 _) (by rw[zb,zb]; simp only[ze] at hp1 ⊢; omega) (zz _)
    simp only[go_sem,c1,c2,hget,ab9,ac3,ab6];refine aa3 fok52 (hia) ?_;simp only[go_sem,a2,w1];refine ⟨hlt,v2,rfl,?_⟩;rw[hfl,<- zt,zh]; exact q2
   ·have hi':i=xs.length:=om
    subst hi';have c1:¬ (xs.length:Int)<xs.length:=om
    rw[zl] at hg;simp only[go_sem,c1];refine hg.frz (fun x hx=>(av6 _ x hx).1) (fun _ _=>zc _) fun e he c hc=>?_
    obtain ⟨y,_,rfl⟩:=zk.1 he;exact cv5 y c hc
  ·rw[if_neg hk] at hpre ⊢;obtain ⟨es,hes⟩:∃ es:List Dep,es=[]:=⟨_,rfl⟩;rw[<- hes] at hpre ⊢;simp only[ic52,go_sem,aa6.kind,aa6.dep,aa6.args,hk,gs4,ag7,aj5,ah1];refine ab1 noT (fun i fr t=>∃ gv,fr=[(1,.ab5 [.int .u8 k,.str d.name,.int .u8 d.op,.int .i64 d.evr.ak4,.str d.evr.ver,.str d.evr.rel,af1 xs]),(3,gv),(4,.int .i64 (i:Int))]/\Grow t gv 5 ((es++(xs.take i).flatMap aa6.atoms).map Dep.cs)) xs.length ?_ ?_
   ·first
     | exact ⟨.aa1,rfl,by rw[hes]; exact .inl ⟨rfl,rfl⟩⟩
     | exact ⟨_,rfl,by rw[hes]; exact .inr ⟨0,rfl,by simp only[aa5,if_true]; rfl,by show 0<1; omega⟩⟩
     | done
   rintro i fr t hi ⟨gv,rfl,hg⟩;by_cases hlt:i<xs.length
   ·obtain ⟨a,ha,_,hdr,hget,htk⟩:=ad6 xs i hlt;have c1:(i:Int)<xs.length:=om
    have c2:(0:Int)<=i:=om
    have w1:=ac4 (i:=i) om
    have hia:=ih a ha (f5 a ha) (by
     have:=aa6.ed5 (k:=k) (d:=d) ha;omega)
    have hfl:(xs.take (i+1)).flatMap aa6.atoms=(xs.take i).flatMap aa6.atoms++a.atoms:=by
     rw[htk,zi]; simp
    have hp1:=hpre (i+1) om;rw[hfl] at hp1;obtain ⟨v2,t2,a2,n2,q2,_,_⟩:=by6 (nid:=t.next) (xs:=a.atoms.map Dep.cs) (hg.mono (σ':=⟨t.next+1,t.obj⟩) (z3 _) fun _ _ _=>rfl) (av6 _) (av6 _) (by rw[zb,zb]; simp only[ze] at hp1 ⊢; omega) (zz _)
    simp only[go_sem,c1,c2,hget,ab9,ac3,ab6];refine aa3 fok52 (hia) ?_;simp only[go_sem,a2,w1];refine ⟨hlt,v2,rfl,?_⟩;rw[hfl,<- zt,zh]; exact q2
   ·have hi':i=xs.length:=om
    subst hi';have c1:¬ (xs.length:Int)<xs.length:=om
    rw[zl] at hg;simp only[go_sem,c1];refine hg.frz (fun x hx=>(av6 _ x hx).1) (fun _ _=>zc _) fun e he c hc=>?_
    obtain ⟨y,_,rfl⟩:=zk.1 he;exact cv5 y c hc
def ycs (a:ad9)(P:List Int):List IV:=[a.dv,.aa4 (P.map Md.ae4)]
def yv (a:ad9)(P:List Int):IV:=.ab5 (ycs a P)
theorem bu6 (a:ad9)(P:List Int):yv a P=.ab5 (ycs a P):=rfl
theorem y_0 (a:ad9)(P:List Int):(ycs a P).head? = zg a.dv:=rfl
theorem y_1 (a:ad9)(P:List Int):((ycs a P).drop 1).head? = zg (.aa4 (P.map Md.ae4)):=rfl
theorem ct4 (a:ad9)(P:List Int):(yv a P).cs=[yv a P]:=rfl
theorem ap4 (a:ad9)(P:List Int):(yv a P).leaf=true:=rfl
theorem db3 (a:ad9)(P:List Int):Bnd 0 (yv a P):=.ab5 _ (ae9 (bj9 a) (ai1 P))
theorem cd7 (a:ad9)(P:List Int)(n:Int):PC Tryz.prog EE 51 [yv a P,.int .i64 n] (.bool (a.is n)):=by
 refine ae5 hE fok51 (nZ rfl) (ae9 (db3 a P) (.int _ _)) ?_;unfold ad9.is;by_cases h:0<=n
 ·simp only[ic51,go_sem,bu6,y_0,ah5,be6,h,ac5]; exact ab4 (by simp)
 ·simp only[ic51,go_sem,h]; exact ab4 (by simp)
theorem do5 {t:Store}{gv:IV}{l:List Int}(hg:Grow t gv 1 (l.map Md.ae4)):cs9 t 0 gv (.aa4 (l.map Md.ae4)):=
 hg.frz (fun x hx=>(cz7 _ x hx).1) (fun _ _=>zc _) fun e he c hc=>by
  obtain ⟨n,_,rfl⟩:=zk.1 he;exact ao4 (.int _ _) c hc
structure YM (s:Store) (B:Nat) (dv v:IV) (P:List Int):Prop where
 cell:s.obj B=zg (.cells [dv,v])
 lt:B<s.next
 row:Grow s v 1 (P.map Md.ae4)
theorem YM.push {t:Store}{B:Nat}{dv v:IV}{P:List Int}(h:YM t B dv v P)(hl:P.length<2^30)(x:Int)(k m:Nat)(hk:k<m) :
  ∃ v' S,as5 ⟨t.next+m,t.obj⟩ (t.next+k) 1 v (.aa4 [[.int .i64 x]])=zg (v',S)/\S.obj B=zg (.cells [dv,v])/\S.next=t.next+m/\v'.leaf=true/\v'.cs=[v']/\∀ τ:Store,τ.next=S.next->τ.obj B=zg (.cells [dv,v'])->(∀ i,i≠B->τ.obj i=S.obj i)->YM τ B dv v' (P++[x]):=by
 have hB:=h.lt;have hg2:Grow ⟨t.next+m,t.obj⟩ v 1 (P.map Md.ae4):=h.row.mono (qb _ _) fun _ _ _=>rfl
 have hap:=am4 (nid:=t.next+k) (e:=[.int .i64 x]) hg2 (cz7 P) ⟨rfl,rfl⟩ (by rw[zb]; omega);have kn:(ag2 v (⟨t.next+m,t.obj⟩:Store)).next=t.next+m:=ac9 v;refine ⟨_,_,hap,?_,by rw[aa7,kn],rfl,rfl,fun τ hn hc ho=>⟨hc,by rw[hn,aa7,kn]; omega,?_⟩⟩
 ·rw[aa5,if_neg om];exact ah3 hg2 B _ h.cell fun _ e=>by cases e
 ·rw[zh];refine .inr ⟨t.next+k,by rw[ze]; rfl,?_,by rw[hn,aa7,kn]; show t.next+k<t.next+m; omega⟩;rw[ho _ om];simp only[aa5,if_true]; rfl
theorem hy7 (a:ad9)(hA:AOK a)(ab3:List am5)(ni:Nat)(hni:a.p.inst=ni)(h1:ab3.length<2^20)(h2:ni+af5 ab3<=256) :
  PC Tryz.prog EE 10 [a.dv,az4 ab3] (yv a (cy8 ab3 ni)):=by
 refine ae5 hE fok10 (nZ rfl) (ae9 (bj9 a) (bo1 ab3)) ?_;have hinst:=hA.inst;have hlen:=hA.len;simp only[ic10,go_sem,cr4,bd6];refine ab1 noT (fun i fr t=>∃ v,fr=[(0,a.dv),(1,az4 ab3),(5,.ptr 0 0),(6,.int .i64 (i:Int))]/\YM t 0 a.dv v (zn i 1025)) ni ⟨.aa1,rfl,⟨rfl,by show 0<1; decide,.inl ⟨rfl,rfl⟩⟩⟩ ?_;have p1025:∀ k:Nat,zn (k+1) (1025:Int)=zn k 1025++[1025]:=fun k=>by rw[qq]
 rintro i fr t hi ⟨v,rfl,hY⟩;have hc:=hY.cell;by_cases hlt:i<ni
 ·have d1:(i:Int)<a.p.inst:=om
  have w1:=ac4 (i:=i) om;obtain ⟨v',S,q1,q2,q3,q4,q5,fin⟩:=hY.push (by rw[zy]; omega) 1025 0 1 om;have q1':as5 ({ next:=t.next+1,obj:=t.obj }:Store) t.next 1 v (.aa4 [[.int .i64 1025]])=zg (v',S):=q1;simp only[go_sem,ah5,dv7,d1,ac5,hc,q1',q2,q4,q5,w1];exact ⟨hlt,v',by rw[p1025]; exact fin _ rfl (by simp only[aa5,if_true]<;>rfl) fun i hi=>by simp only[aa5,hi,if_false]⟩
 have hi':i=ni:=om
 subst hi';have d1:¬ (i:Int)<a.p.inst:=om
 simp only[go_sem,ah5,dv7,d1,ac5];obtain ⟨Q,hQ⟩:∃ Q:Nat->List Int,Q=fun j=>zn i 1025++(ab3.take j).flatMap fun r=>zn r.packages.length r.priority:=⟨_,rfl⟩
 have hQ0:Q 0=zn i 1025:=by rw[hQ]; simp
 have hQe:Q ab3.length=cy8 ab3 i:=by rw[hQ]; show _++(ab3.take ab3.length).flatMap _=_; rw[zl]; rfl
 have hQs:∀ j r,ab3.take (j+1)=ab3.take j++[r]->Q (j+1)=Q j++zn r.packages.length r.priority:=fun j r h=>by
  rw[hQ]; show _++(ab3.take (j+1)).flatMap _=_; rw[h,zi]; simp
 have hQl:∀ j,j<=ab3.length->(Q j).length+af5 (ab3.drop j)=i+af5 ab3:=fun j hj=>by
  rw[hQ];show (_++(ab3.take j).flatMap _).length+_=_;rw[ze,zy];have e:ab3=ab3.take j++ab3.drop j:=(qn j ab3).symm
  have h1:∀ l:List am5,(l.flatMap fun r=>zn r.packages.length r.priority).length=af5 l:=fun l=>by
   induction l with
   | nil=>rfl
   | cons r l ih=>rw[z6,ze,zy,ih]; simp[af5]
  have h2:∀ l m:List am5,af5 (l++m)=af5 l+af5 m:=fun l m=>by unfold af5; simp
  rw[h1]
  conv=>rhs; rw[e,h2]
  omega
 clear hQ;refine ab1 noT (fun j fr t=>∃ v,fr=[(1,az4 ab3),(5,.ptr 0 0),(7,.int .i64 (j:Int))]/\YM t 0 a.dv v (Q j)) ab3.length ⟨v,rfl,by rw[hQ0]; exact hY⟩ ?_;clear hY hc;rintro j fr t hj ⟨v,rfl,hY⟩;by_cases hlt:j<ab3.length
 ·obtain ⟨x,hx,_,hdr,hget,htk⟩:=ad6 ab3 j hlt;have c1:(j:Int)<ab3.length:=om
  have c2:(0:Int)<=j:=om
  have w1:=ac4 (i:=j) om;have hl:=hQl j om;rw[cv2 ab3 j x hdr] at hl;have hs:=hQs j x htk;simp only[go_sem,c1];refine ab1 noT (fun k fr t=>∃ v,fr=[(1,az4 ab3),(5,.ptr 0 0),(7,.int .i64 (j:Int)),(8,.int .i64 (k:Int))]/\YM t 0 a.dv v (Q j++zn k x.priority)) x.packages.length ⟨v,rfl,by simpa using hY⟩ ?_;clear hY;rintro k fr t hk ⟨v,rfl,hY⟩;have hc:=hY.cell;by_cases hlk:k<x.packages.length
  ·have d2:(k:Int)<x.packages.length:=om
   have w2:=ac4 (i:=k) om;obtain ⟨v',S,q1,q2,q3,q4,q5,fin⟩:=hY.push (by rw[ze,zy]; omega) x.priority 11 15 om;have q1':as5 ({ next:=t.next+15,obj:=t.obj }:Store) (t.next+1+1+1+1+1+1+1+1+1+1+1) 1 v (.aa4 [[.int .i64 x.priority]])=zg (v',S):=q1;simp only[go_sem,c1,c2,d2,hget,bj4,bo3,bo2,am5.cs,ac5,hc,q1',q2,q4,q5,w2];exact ⟨hlk,v',by rw[qq,<- zt]; exact fin _ rfl (by simp only[aa5,if_true]<;>rfl) fun i hi=>by simp only[aa5,hi,if_false]⟩
  have hk':k=x.packages.length:=om
  subst hk';have d2:¬ (x.packages.length:Int)<x.packages.length:=om
  simp only[go_sem,c1,c2,d2,hget,bj4,bo3,bo2,am5.cs,ac5,hc,w1];exact ⟨hlt,v,by rw[hs]; exact hY⟩
 have hj':j=ab3.length:=om
 subst hj';have c1:¬ (ab3.length:Int)<ab3.length:=om
 simp only[go_sem,c1];rw[hQe] at hY;refine .ptr 0 0 [a.dv,v] (ycs a (cy8 ab3 i)) (zc _) (.inl hY.cell) (by show 0+2<=2; decide) fun m hm=>?_
 match m,hm with
 | 0,_=>exact .keep _ (bj9 a)
 | 1,_=>exact do5 hY.row
theorem gs6 (n:Nat):ak9 (fun _=>true) n=(qd n).map fun (i:Nat)=>(i:Int):=by
 unfold ak9;rw[List.filter_eq_self.2 fun _ _=>rfl]
theorem fw6 (a:ad9)(P:List Int)(ni:Nat)(hA:AOK a)(hm:∀ q∈a.l,ah8 q=true)(hni:a.p.inst=ni)(n:Int):PC Tryz.prog EE 13 [yv a P,.int .i64 n] (.bool ((ag6.mk a (as4 a.l ni)).likes n)):=by
 refine ae5 hE fok13 (nZ rfl) (ae9 (db3 a P) (.int _ _)) ?_;have hi:=cd7 a P n;have hlen:=hA.len;have hinst:=hA.inst;by_cases h0:a.is n=true
 case neg=>
  have hz:a.is n=false:=by simpa using h0
  rw[hz] at hi;have:(ag6.mk a (as4 a.l ni)).likes n=false:=by unfold ag6.likes; rw[hz]; rfl
  rw[this];simp only[ic13,go_sem,ct4,ap4];refine aa3 fok51 (hi) ?_;simp only[go_sem];exact ab4 rfl
 obtain ⟨m,rfl⟩:∃ m:Nat,n=m:=⟨n.toNat,by unfold ad9.is at h0; simp only[zm,decide_eq_true_eq] at h0; omega⟩;have hml:m<a.l.length:=by rw[ad9.bn5] at h0; exact of_decide_eq_true h0
 rw[h0] at hi;obtain ⟨q,hq⟩:∃ q,q=a.l[m]:=⟨_,rfl⟩;have hqm:q∈a.l:=by rw[hq]; exact zd hml
 have hv:(ag6.mk a (as4 a.l ni)).likes m=(((an4 (a.l.take ni)).any fun d=>provides q d)||q.ac1.any fun r=>r.tr a.l (stB a.l.length (ak9 (fun _=>true) ni))):=by
  unfold ag6.likes ag6.lk as4;rw[show (ag6.mk a (a.l.map (db2 a.l ni))).a.is (m:Int)=true from h0,ql,z7];rw[show (a.l.map (db2 a.l ni)).getD m false=db2 a.l ni q by simp[za,hml,hq]];unfold db2;congr 1;rw[Bool.eq_iff_iff,zu,zu];have hw:∀ r∈q.ac1,bv5 r=true:=fun r hr=>ed3 ((bt8 (hm q hqm)).2.2 r hr)
  exact ⟨fun ⟨r,h1,h2⟩=>⟨r,h1,by unfold hf6 at h2; rw[hw r h1] at h2; exact h2⟩,fun ⟨r,h1,h2⟩=>⟨r,h1,by unfold hf6; rw[hw r h1]; exact h2⟩⟩
 rw[hv];have gq:(a.l.map aa2.cs).getD m []=q.cs:=by simp[za,hml,hq]
 have m1:(0:Int)<=(m:Int):=om
 have m2:(m:Int)<a.l.length:=om
 have hsm:=hA.small;clear hv hi;have hi:=cd7 a P m;rw[h0] at hi;obtain ⟨B1,hB1⟩:∃ B1,B1=(an4 (a.l.take ni)).any fun d=>provides q d:=⟨_,rfl⟩
 obtain ⟨B2,hB2⟩:∃ B2,B2=q.ac1.any fun r=>r.tr a.l (stB a.l.length (ak9 (fun _=>true) ni)):=⟨_,rfl⟩
 rw[<- hB1,<- hB2];have p12:∀ p:aa2,(p.cs.drop 12).head? = zg (af1 p.suggests):=fun _=>rfl
 have p13:∀ p:aa2,(p.cs.drop 13).head? = zg (af1 p.ac1):=fun _=>rfl
 simp only[ic13,go_sem,ct4,ap4];refine aa3 fok51 (hi) ?_;simp only[go_sem];have hnow:∀ i:Nat,((qd (i+1)).map fun (i:Nat)=>(i:Int))=((qd i).map fun (i:Nat)=>(i:Int))++[(i:Int)]:=fun i=>by rw[List.range_succ,zh]; rfl
 obtain ⟨R,hR⟩:∃ R:Nat->List Int,R=fun i=>(qd i).map fun (i:Nat)=>(i:Int):=⟨_,rfl⟩
 have hR0:R 0=[]:=by rw[hR]; rfl
 have hRs:∀ i,R (i+1)=R i++[(i:Int)]:=fun i=>by rw[hR]; exact hnow i
 have hRl:∀ i,(R i).length=i:=fun i=>by rw[hR]; show (List.map _ _).length=i; rw[zb,List.length_range]
 have hRe:R ni=ak9 (fun _=>true) ni:=by rw[hR,gs6]
 clear hR hnow
 have hat:∀ i (h:i<a.l.length),an4 (a.l.take (i+1))=an4 (a.l.take i)++(a.l[i]).suggests.flatMap aa6.atoms:=fun i h=>by
  unfold an4;rw[zw,zj h,zi];simp
 have hfitS:∀ x∈a.l,∀ r∈x.suggests,r.fit/\r.count<2^30/\∀ d∈r.atoms,Dep.small d:=fun x hx r hr=>by
  have h1:=(bt8 (hm x hx)).1.2 r hr;have h2:=co9 h1;have h3:=((hA.fit _ hx).rich (1,x.suggests) (by simp[aa2.rows])).2 r hr;exact ⟨h3.1,om,fun d hd=>cc8 (h2.2 d hd)⟩
 have hfitE:∀ r∈q.ac1,r.fit/\r.Good:=fun r hr=>by
  have h1:=(bt8 (hm q hqm)).2.2 r hr;have h3:=((hA.fit _ hqm).rich (3,q.ac1) (by simp[aa2.rows])).2 r hr;have h4:=ed3 h1;exact ⟨h3.1,aa6.gi1 r (by unfold bv5 at h4; simp only[zm] at h4; exact h4.1.1)⟩
 have hlenS:∀ x∈a.l,x.suggests.length<=32:=fun x hx=>(bt8 (hm x hx)).1.1
 have hlenE:q.ac1.length<=32:=(bt8 (hm q hqm)).2.1;have hini:ni<=a.l.length:=om
 have hyes:∀ i (h:i<ni) (r:aa6) (d:Dep),r∈(a.l[i]'om).suggests->d∈r.atoms->provides q d=true->B1=true:=fun i h r d h1 h2 h3=>by
  rw[hB1,zu];refine ⟨d,?_,h3⟩;unfold an4;rw[z9];exact ⟨a.l[i]'om,List.mem_take_iff_getElem.2 ⟨i,om,rfl⟩,z9.2 ⟨r,h1,h2⟩⟩
 refine ab1 noT (fun i fr t=>∃ gv,fr=[(0,yv a P),(1,.int .i64 (m:Int)),(5,gv),(6,.int .i64 (i:Int))]/\Grow t gv 1 ((R i).map Md.ae4)/\((an4 (a.l.take i)).any fun d=>provides q d)=false) ni ⟨.aa1,rfl,.inl ⟨rfl,by rw[hR0]; rfl⟩,rfl⟩ ?_;rintro i fr t hin ⟨gv,rfl,hg,hno⟩;by_cases hlt:i<ni
 ·have d1:(i:Int)<a.p.inst:=om
  have hil:i<a.l.length:=om
  have d2:(0:Int)<=(i:Int):=om
  have d3:(i:Int)<a.l.length:=om
  have w1:=ac4 (i:=i) om;obtain ⟨x,hx⟩:∃ x,x=a.l[i]:=⟨_,rfl⟩;have hxm:x∈a.l:=by rw[hx]; exact zd hil
  have gx:(a.l.map aa2.cs).getD i []=x.cs:=by simp[za,hil,hx]
  have hai:=hat i hil;rw[<- hx] at hai;have hye:=hyes i hlt;rw[<- hx] at hye;have hls:=hlenS x hxm;obtain ⟨v',S,h1,h2,h3⟩:=cc4 (n:=1) (nid:=t.next) (e:=[.int .i64 (i:Int)]) hg (cz7 _) ⟨rfl,rfl⟩ (by rw[zb,hRl]; omega) om om;have h1':as5 ({ next:=t.next+1,obj:=t.obj }:Store) t.next 1 gv (.aa4 [[.int .i64 (i:Int)]])=zg (v',S):=h1;have hg2:Grow S v' 1 ((R (i+1)).map Md.ae4):=by rw[hRs,zh]; exact h3
  simp only[go_sem,bu6,y_0,ah5,dv7,d1,ac5,h1'];clear h1 h1' h2 h3 hg;rw[<- bu6];refine ab1 noT (fun k fr t=>fr=[(0,yv a P),(1,.int .i64 (m:Int)),(5,v'),(6,.int .i64 (i:Int)),(7,.int .i64 (k:Int))]/\Grow t v' 1 ((R (i+1)).map Md.ae4)/\(((x.suggests.take k).flatMap aa6.atoms).any fun d=>provides q d)=false) x.suggests.length ⟨rfl,hg2,rfl⟩ ?_;clear hg2 S;rintro k fr u hk ⟨rfl,hg,hno2⟩;by_cases hlk:k<x.suggests.length
  ·obtain ⟨r,hr,_,_,hget,htk⟩:=ad6 x.suggests k hlk;have e1:(k:Int)<x.suggests.length:=om
   have e2:(0:Int)<=(k:Int):=om
   have w2:=ac4 (i:=k) om;have gr:=hget aa6.cs;obtain ⟨f1,f2,f3⟩:=hfitS x hxm r hr;have hA9:=gs5 r f1 f2;have hal:=bo6 r;have hty:=fun d=>hye r d hr
   simp only[go_sem,bu6,y_0,ah5,be6,d2,d3,gx,p12,e1,e2,gr,ag8,ab9,ac3,ab6,ac5];refine aa3 fok52 (hA9) ?_;simp only[go_sem];rw[<- bu6];refine ab1 noT (fun j fr t=>fr=[(0,yv a P),(1,.int .i64 (m:Int)),(5,v'),(6,.int .i64 (i:Int)),(7,.int .i64 (k:Int)),(8,.aa4 (r.atoms.map Dep.cs)),(9,.int .i64 (j:Int))]/\Grow t v' 1 ((R (i+1)).map Md.ae4)/\((r.atoms.take j).any fun d=>provides q d)=false) r.atoms.length ⟨rfl,hg,rfl⟩ ?_;clear hg;rintro j fr u hj ⟨rfl,hg,hno3⟩;by_cases hlj:j<r.atoms.length
   ·obtain ⟨d,hd,_,_,hgd,htj⟩:=ad6 r.atoms j hlj;have g1:(j:Int)<r.atoms.length:=om
    have g2:(0:Int)<=(j:Int):=om
    have w3:=ac4 (i:=j) om;have gd:=hgd Dep.cs;have hP:=cb6 q d (hsm q hqm) (f3 d hd);simp only[go_sem,bu6,y_0,ah5,be6,m1,m2,gq,g1,g2,gd,ag8,ai2,ah4,aj5,ah1,ag7,ac5];refine aa3 fok53 (hP) ?_
    cases hb:provides q d with
    | true=>
     simp only[go_sem]
     exact ab4 (by rw[hty d hd hb]; rfl)
    | false=>
     simp only[go_sem,w3];refine ⟨hlj,hg.mono (qb _ _) fun _ _ _=>rfl,?_⟩;rw[htj,z4,hno3];simp[hb]
   ·have g1:¬ (j:Int)<r.atoms.length:=om
    rw[zp om] at hno3;simp only[go_sem,g1,w2];refine ⟨hlk,hg,?_⟩;rw[htk,zi,z4,hno2]
    simpa using hno3
  ·have e1:¬ (k:Int)<x.suggests.length:=om
   rw[zp om] at hno2;simp only[go_sem,bu6,y_0,ah5,be6,d2,d3,gx,p12,e1,ag8,ac5,w1];exact ⟨hlt,v',rfl,hg,by rw[hai,z4,hno,hno2]; rfl⟩
 have hi':i=ni:=om
 subst hi';have d1:¬ (i:Int)<a.p.inst:=om
 have hB1f:B1=false:=by rw[hB1]; exact hno
 rw[hB1f,Bool.false_or];rw[hRe] at hg;obtain ⟨Z,hZ⟩:∃ Z,Z=ak9 (fun _=>true) i:=⟨_,rfl⟩;have hZl:Z.length<2^40:=by rw[hZ,<- hRe,hRl]; omega
 rw[<- hZ] at hg hB2;simp only[go_sem,bu6,y_0,ah5,dv7,d1,ac5];rw[<- bu6];refine ab1 noT (fun k fr t=>fr=[(0,yv a P),(1,.int .i64 (m:Int)),(5,gv),(10,.int .i64 (k:Int))]/\Grow t gv 1 (Z.map Md.ae4)/\((q.ac1.take k).any fun r=>r.tr a.l (stB a.l.length Z))=false) q.ac1.length ⟨rfl,hg,rfl⟩ ?_;clear hg hno;rintro k fr u hk ⟨rfl,hg,hno⟩;by_cases hlk:k<q.ac1.length
 ·obtain ⟨r,hr,_,_,hget,htk⟩:=ad6 q.ac1 k hlk;have e1:(k:Int)<q.ac1.length:=om
  have e2:(0:Int)<=(k:Int):=om
  have w2:=ac4 (i:=k) om;have gr:=hget aa6.cs;obtain ⟨f1,f2⟩:=hfitE r hr;have hS:=hq7 r f2 f1 a.l Z om hsm hZl;have gl:=ef3 hg;have gc:=gl9 hg;simp only[go_sem,bu6,y_0,ah5,be6,m1,m2,gq,p13,e1,e2,gr,ag8,ab9,ac3,ab6,ac5,gl,gc]
  refine ad3 fok54 (be3 (args':=[au1 a.l,.aa4 (Z.map Md.ae4),.agg r.cs,.int .i64 (-1)]) hE rfl (fun i hi=>by
   match i,hi with
   | 0,_=>exact .keep _ (aq4 _)
   | 1,_=>exact do5 (hg.mono (σ':=⟨u.next+23,u.obj⟩) (qb _ _) fun _ _ _=>rfl)
   | 2,_=>exact .keep _ (ag3 _)
   | 3,_=>exact .keep _ (.int _ _)) (by simp[IV.plain]) hS) ?_
  rintro v s ⟨rfl,rfl⟩;refine ⟨zf _,?_⟩
  cases hb:r.tr a.l (stB a.l.length Z) with
  | true=>
   simp only[go_sem]
   exact ab4 (by rw[hB2]; exact (zu.2 ⟨r,hr,hb⟩).symm)
  | false=>
   simp only[go_sem,w2];refine ⟨hlk,hg.mono (qb _ _) fun _ _ _=>rfl,?_⟩;rw[htk,z4,hno];simp[hb]
 ·have e1:¬ (k:Int)<q.ac1.length:=om
  rw[zp om,<- hB2] at hno;simp only[go_sem,bu6,y_0,ah5,be6,m1,m2,gq,p13,e1,ag8,ac5];exact ab4 hno.symm
end Go.Id.Tryz
namespace Go.Id.Tryz
open Go Go.Id Go.Proofs Go.Shelf Go.Id.Md
theorem ei4 (a b:Bool):gt2 [0] false true (.bool a) (.bool b)=zg (.bool (!decide (a=b))):=by cases a<;>cases b<;>rfl
structure Y25 (o:ag6) (P:List Int):Prop where
 ok:OOK o
 may:∀ q∈o.a.l,ah8 q=true
 ni:∃ ni:Nat,o.a.p.inst=ni/\o.ct2=as4 o.a.l ni
 pr:P=o.a.p.rows.map (·.prio)
 len:o.a.p.rows.length=o.a.l.length
theorem Y25.lkd {o:ag6}{P:List Int}(h:Y25 o P)(n:Int):PC Tryz.prog EE 13 [yv o.a P,.int .i64 n] (.bool (o.likes n)):=by
 obtain ⟨ni,h1,h2⟩:=h.ni;have:=fw6 o.a P ni h.ok.a h.may h1 n;rw[<- h2] at this;exact this
theorem Y25.get {o:ag6}{P:List Int}(h:Y25 o P){n:Nat}(hn:n<o.a.l.length):n<P.length/\(P.map Md.ae4).getD n []=[.int .i64 (o.prio n)]:=by
 have hr:n<o.a.p.rows.length:=by rw[h.len]; exact hn
 refine ⟨by rw[h.pr,zb]; exact hr,?_⟩;rw[h.pr];unfold ag6.prio;simp[za,hr,Md.ae4]
theorem bx7 (o:ag6)(P:List Int)(hY:Y25 o P)(n m:Int):PC Tryz.prog EE 15 [yv o.a P,.int .i64 n,.int .i64 m] (.bool (o.better n m)):=by
 refine ae5 hE fok15 (nZ rfl) (at1 (db3 o.a P) (.int _ _) (.int _ _)) ?_;have i1:=cd7 o.a P n;have i2:=cd7 o.a P m;have hlen:=hY.ok.a.len;unfold ag6.better;rw[o.gh1]
 cases h1:o.a.is n with
 | false=>
  rw[h1] at i1;simp only[ic15,go_sem,ct4,ap4];refine aa3 fok51 (i1) ?_;simp only[go_sem]
  exact ab4 rfl
 | true=>
 rw[h1] at i1
 cases h2:o.a.is m with
 | false=>
  rw[h2] at i2;simp only[ic15,go_sem,ct4,ap4];refine aa3 fok51 (i1) ?_;simp only[go_sem,ct4,ap4];refine aa3 fok51 (i2) ?_;simp only[go_sem]
  exact ab4 rfl
 | true=>
 rw[h2] at i2;rw[ql,ql];by_cases hnm:n=m
 ·have:o.ds6 n m=false:=by
   subst hnm;rw[<- o.gh1,o.cu7]; rfl
  rw[this];have hnm':(n=m)=True:=eq_true hnm;simp only[ic15,go_sem,ct4,ap4];refine aa3 fok51 (i1) ?_;simp only[go_sem,ct4,ap4];refine aa3 fok51 (i2) ?_;simp only[go_sem,hnm'];exact ab4 rfl
 have hi:∀ k:Int,o.a.is k=true->∃ j:Nat,k=j/\j<o.a.l.length:=fun k hk=>by
  unfold ad9.is at hk;simp only[zm,decide_eq_true_eq] at hk;exact ⟨k.toNat,om,om⟩
 obtain ⟨x,rfl,hx⟩:=hi n h1;obtain ⟨y,rfl,hy⟩:=hi m h2;have x1:(0:Int)<=(x:Int):=om
 have x2:(x:Int)<o.a.l.length:=om
 have y1:(0:Int)<=(y:Int):=om
 have y2:(y:Int)<o.a.l.length:=om
 have gx:=bd7 o.a hx;have gy:=bd7 o.a hy;have sx:=hY.ok.a.small _ (es5 o.a hx);have sy:=hY.ok.a.small _ (es5 o.a hy);obtain ⟨px,qx⟩:=hY.get hx;obtain ⟨py,qy⟩:=hY.get hy;have px2:(x:Int)<P.length:=om
 have py2:(y:Int)<P.length:=om
 have f1:=eh7 o.a x;have f2:=eh7 o.a y;have s1:=cz6 o.a.r.aj1 (o.a.pk x).aj1;have s2:=cz6 o.a.r.aj1 (o.a.pk y).aj1;have k1:=bj3 (o.a.pk x).evr (o.a.pk y).evr sx.1 sy.1;have l1:=hY.lkd x;have l2:=hY.lkd y;rw[show o.likes x=o.lk x by unfold ag6.likes; rw[h1]; rfl] at l1;rw[show o.likes y=o.lk y by unfold ag6.likes; rw[h2]; rfl] at l2;have p4:∀ p:aa2,(p.cs.drop 4).head? = zg (.int .u8 p.aj1):=fun _=>rfl
 have p1:∀ p:aa2,(p.cs.drop 1).take 3=p.evr.cs:=fun _=>rfl
 have pl1:∀ p:aa2,3<=(p.cs.drop 1).length:=fun p=>by show 3<=14; decide
 unfold ag6.ds6;simp only[ic15,go_sem,ct4,ap4];refine aa3 fok51 (i1) ?_;simp only[go_sem,ct4,ap4];refine aa3 fok51 (i2) ?_;simp only[go_sem,hnm,bu6,y_0,ac5,cr4,bd6];refine aa8 f1 ?_;simp only[go_sem,bu6,y_0,ac5,cr4,bd6];refine aa8 f2 ?_;simp only[go_sem,ei4];by_cases e1:o.a.fits x=o.a.fits y
 case neg=>
  rw[if_neg e1];simp only[go_sem,e1,bu6,y_0,ac5,cr4,bd6];refine aa8 f1 ?_;simp only[go_sem];exact ab4 rfl
 rw[if_pos e1];simp only[go_sem,e1,bu6,y_0,ah5,be6,ir8,ac5,x1,x2,y1,y2,gx,gy,af8,ag8,ai2,ah4,p4];refine aa8 s1 ?_;simp only[go_sem,bu6,y_0,ah5,be6,ir8,ac5,p4];refine aa8 s2 ?_;by_cases e2:al1 o.a.r.aj1 (o.a.pk x).aj1=al1 o.a.r.aj1 (o.a.pk y).aj1
 case neg=>
  rw[if_neg e2];simp only[go_sem,e2];exact ab4 rfl
 rw[if_pos e2];by_cases e3:o.prio x=o.prio y
 case neg=>
  rw[if_neg e3];simp only[go_sem,e2,e3,bu6,y_1,ac5,x1,y1,px2,py2,qx,qy];exact ab4 rfl
 rw[if_pos e3];by_cases e4:o.lk x=o.lk y
 case neg=>
  rw[if_neg e4];simp only[go_sem,e2,e3,bu6,y_1,ac5,x1,y1,px2,py2,qx,qy];rw[<- bu6];refine aa3 fok13 (l1) ?_;simp only[go_sem,ct4,ap4];refine aa3 fok13 (l2) ?_;simp only[go_sem,ei4,e4,ct4,ap4];refine aa3 fok13 (l1) ?_;simp only[go_sem];exact ab4 rfl
 rw[if_pos e4];simp only[go_sem,e2,e3,bu6,y_1,ac5,x1,y1,px2,py2,qx,qy];rw[<- bu6];refine aa3 fok13 (l1) ?_;simp only[go_sem,ct4,ap4];refine aa3 fok13 (l2) ?_;simp only[go_sem,ei4,e4,p1,pl1,cc7];refine aa3 fok58 (k1) ?_;by_cases e5:ai5 (o.a.pk x).evr (o.a.pk y).evr=0
 ·rw[if_pos e5];simp only[go_sem,e5];exact ab4 rfl
 ·rw[if_neg e5];simp only[go_sem,e5];exact ab4 rfl
theorem it7 (o:ag6)(P:List Int)(hY:Y25 o P){i n m:Nat}(hi:i<o.a.l.length)(hn:n<o.a.l.length)(hm:m<o.a.l.length):PC Tryz.prog EE 183 [yv o.a P,.int .i64 i,.int .i64 n,.int .i64 m] (.bool (o.upD i n m)):=by
 refine ae5 hE fok183 (nZ rfl) (en4 (db3 o.a P) (.int _ _) (.int _ _) (.int _ _)) ?_;have hlen:=hY.ok.a.len;have i1:(0:Int)<=(i:Int):=om
 have i2:(i:Int)<o.a.l.length:=om
 have x1:(0:Int)<=(n:Int):=om
 have x2:(n:Int)<o.a.l.length:=om
 have y1:(0:Int)<=(m:Int):=om
 have y2:(m:Int)<o.a.l.length:=om
 have gi:=bd7 o.a hi;have gx:=bd7 o.a hn;have gy:=bd7 o.a hm;have sx:=hY.ok.a.small _ (es5 o.a hn);have sy:=hY.ok.a.small _ (es5 o.a hm);have k1:=bj3 (o.a.pk n).evr (o.a.pk m).evr sx.1 sy.1;have b1:=bx7 o P hY n m
 have hbt:o.better n m=decide (o.cmp n m<0):=by
  unfold ag6.better;rw[ad9.bn5,ad9.bn5,decide_eq_true hn,decide_eq_true hm]; rfl
 rw[hbt] at b1;have p0:∀ p:aa2,p.cs.head? = zg (.str p.name):=fun _=>rfl
 have p1:∀ p:aa2,(p.cs.drop 1).take 3=p.evr.cs:=fun _=>rfl
 have pl1:∀ p:aa2,3<=(p.cs.drop 1).length:=fun p=>by show 3<=14; decide
 unfold ag6.upD;by_cases e1:decide ((o.a.pk n).name=(o.a.pk i).name)=decide ((o.a.pk m).name=(o.a.pk i).name)
 case neg=>
  rw[if_neg e1];simp only[ic183,go_sem,bu6,y_0,ah5,be6,ac5,i1,i2,x1,x2,y1,y2,gi,gx,gy,ag8,p0,ei4,e1];exact ab4 rfl
 rw[if_pos e1];by_cases e5:ai5 (o.a.pk n).evr (o.a.pk m).evr=0
 ·rw[if_pos e5];simp only[ic183,go_sem,bu6,y_0,ah5,be6,ac5,i1,i2,x1,x2,y1,y2,gi,gx,gy,ag8,p0,p1,pl1,cc7,ei4,e1];refine aa3 fok58 (k1) ?_;simp only[go_sem,e5];rw[<- bu6];refine aa3 fok15 (b1) ?_;simp only[go_sem];exact ab4 rfl
 ·rw[if_neg e5];simp only[ic183,go_sem,bu6,y_0,ah5,be6,ac5,i1,i2,x1,x2,y1,y2,gi,gx,gy,ag8,p0,p1,pl1,cc7,ei4,e1];refine aa3 fok58 (k1) ?_;simp only[go_sem,e5];exact ab4 rfl
end Go.Id.Tryz
