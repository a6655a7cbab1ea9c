/- What a state must hold to: the model made,walked. Conditions: sizes that fit. -/
import Derived.Test.YthmabjmjjonlmaaGreatDoorTLMH
import Derived.Test.YthmabjmjjonlmaaGreatDoorTLMD
import Derived.Test.YthmabjmjjonlmaaGreatDoorMv
import Derived.Test.YthmabjmjjonlmaaGreatDoorTLSG
import Derived.Test.YthmabjmjjonlmaaGreatDoorTLNC
import Derived.Test.YthmabjmjjonlmaaGreatDoorTLPE
import Derived.Test.YthmabjmjjonlmaaGreatDoorGLR
open List renaming length_map→za,getD_eq_getElem?_getD→zb,take_of_length_le→zd,append_nil→ze,append_assoc→zh,getElem?_eq_getElem→zi,mem_singleton→zj,mem_cons→zk,take_add_one→zl,length_cons→zm,length_append→zn,nil_append→zo,length_nil→zp,map_cons→zt,not_mem_nil→zu,drop_length→zv,mem_map→zw,cons_append→zz,take_length→z2,length_take→z5,map_nil→z6,map_append→z7,filter_append→z9,flatten_cons→qa,getElem_mem→qb,any_eq_true→qc,mem_range→qd,all_cons→qe,length_singleton→qi,length_filter_le→qj,mem_cons_of_mem→qk,range→ql,mem_cons_self→qm
open Nat renaming le_refl→zc,not_lt_zero→zf,zero_add→zx,le_add_right→z3,reduceAdd→z4,le_trans→qf,le_of_lt→qg,add_zero→qh
open Option renaming some→zg
open Int renaming toNat_natCast→zq,reduceEq→zr
open Bool renaming false_or→zy,and_eq_true→z0,true_and→z1,false_and→z8
set_option linter.all false
set_option maxRecDepth 100000
set_option maxHeartbeats 1000000
private theorem om{P:Prop}(h:P:=by omega):P:=h
namespace Go.Id.Tryz
open Go Go.Id Go.Proofs Go.Shelf Go.Id.Md
theorem MO.frz {s:Store}{pp mid:Nat}{a:ab4}{allv itv:IV}(h:MO s pp mid a.v (an8 a.l) allv itv a.l a.items):bw7 s 0 (.ptr pp 0) a.mv:=by
 refine .ptr pp 0 _ _ (zf _) (.inl h.cell) (zc _) fun j hj=>?_
 match j,hj with
 | 0,_=>exact .keep _ (ai6 a)
 | 1,_=>exact .keep _ (aw1 _)
 | 2,_=>
  exact h.all.frz (fun x hx=>(bg1 _ x hx).1) (fun _ _=>zf _) fun e he c hc=>by
   obtain ⟨y,_,rfl⟩:=zw.1 he
   exact bc3 y c hc
 | 3,_=>
  exact h.grow.frz (fun x hx=>(ff8 _ x hx).1) (fun _ _=>zf _) fun e he c hc=>by
   obtain ⟨y,_,rfl⟩:=zw.1 he
   exact cy3 y c hc
 | 4,_=>
  refine .map mid (bd2 a.items) (bd2 a.items) (bd2 a.items) (zf _) h.map rfl (List.Perm.refl _) (gn3 a.nodup) (fun i hi=>?_) fun i hi=>?_
  ·have:(bd2 a.items).getD i (.undef,.undef)∈bd2 a.items:=ae5 _ hi;obtain ⟨x,_,hx⟩:=zw.1 this;rw[<- hx]; exact .keep _ (av6 x)
  ·have:(bd2 a.items).getD i (.undef,.undef)∈bd2 a.items:=ae5 _ hi;obtain ⟨x,_,hx⟩:=zw.1 this;rw[<- hx]; exact .keep _ (.agg _ fun c hc=>by cases hc)
theorem ev4 (a:ab4)(hA:AOK a)(hI:0<=a.p.inst)(hIt:a.items.length<2^30):PC Tryz.prog EE 30 [a.v] (.tuple [a.mv,.int .i64 0]):=by
 refine gl8 hE fok30 (nZ rfl) (ah9 (ai6 a)) ?_;have hP:=du3 a;have hT:=ez3 a.p hA.len fun x hx=>⟨hA.fit x hx,hA.tiny x hx⟩
 have hC:=bi2 a.p;have hrl:a.p.rows.length=a.l.length:=by show _=(af6 a.p).length; simp[af6]
 rw[hrl] at hC;have hlen:=hA.len
 have hpk:∀ j (h:j<a.l.length),PC Tryz.prog EE 69 [a.p.v,.int .i64 j] (.tuple [.agg (a.pk j).cs,.int .i64 0]):=fun j h=>by
  have hj:j<a.p.rows.length:=om
  have hq:a.p.rows[j].pkg=a.pk j:=by
   have:a.pk j=a.l[j]:=by simp[ab4.pk,zb,h]
   rw[this]; simp[ab4.l,af6]
  have h1:=bj2 a.p j hj (by rw[hq]; exact hA.fit _ (ct4 a h));rw[hq] at h1; exact h1
 have vcs:a.v.cs=[a.v]:=rfl;have vlf:a.v.leaf=true:=rfl;have pvl:a.p.v.leaf=true:=rfl;have pvc:a.p.v.cs=[a.p.v]:=rfl;have tvl:(an8 a.l).leaf=true:=rfl;have tvc:(an8 a.l).cs=[an8 a.l]:=rfl;have hnl:∀ d:TypeId,by9 (.pointer d) a.v=zg false:=fun _=>rfl
 have hT:PC Tryz.prog EE 72 [a.p.v] (.tuple [an8 a.l,.int .i64 0]):=hT;simp only[ic30];refine ac3 (ae2 ?_);simp only[go_sem];refine ac3 (ae2 ?_);simp only[go_sem,hnl];refine ac3 (ae2 ?_);simp only[go_sem,vcs,vlf];refine aa2 fok73 (hP) ?_;simp only[go_sem,pvl,pvc];refine aa2 fok72 (hT) ?_;simp only[go_sem];refine ac3 (ae2 ?_);simp only[go_sem];refine ac3 (ae2 ?_);simp only[go_sem,vcs,vlf,tvl,tvc];refine ac3 (ac3 (ae2 ?_));simp only[go_sem,vcs,vlf];refine aa2 fok73 (hP) ?_;simp only[go_sem,pvl,pvc];refine aa2 fok68 (hC) ?_;simp only[go_sem]
 refine al1 (ao1 (Q:=fun e f s=>e=.exit 0/\(∃ allv,MO s 1 0 a.v (an8 a.l) allv .aa1 a.l [])/\∃ rst:Frm,f=(0,a.v)::(6,.ptr 1 0)::rst)
  (ab2 noT (fun n fr s=>∃ gv,fr=[(0,a.v),(6,.ptr 1 0),(28,.int .i64 a.l.length),(29,.int .i64 (n:Int))]/\2<=s.next/\s.obj 0=zg (.map [])/\s.obj 1=zg (.cells [a.v,an8 a.l,gv,.aa1,.map 0])/\Grow s gv 15 ((a.l.take n).map aa3.cs)) a.l.length
   ⟨.aa1,rfl,zc _,rfl,rfl,.inl ⟨rfl,rfl⟩⟩ ?_) ?_)
 ·rintro n fr s hn ⟨gv,rfl,hnx,hm,ho,hg⟩;by_cases hlt:n<a.l.length
  ·have d1:(n:Int)<a.l.length:=om
   have w1:=ac2 (i:=n) om;have hp:=hpk n hlt;have n1:¬ 1=s.next:=om
   have n0:¬ 0=s.next:=om
   have htk:a.l.take (n+1)=a.l.take n++[a.pk n]:=by
    have:a.pk n=a.l[n]:=by simp[ab4.pk,zb,hlt]
    rw[this,zl,zi hlt]; rfl
   have hgl:gv.leaf=true:=by rcases hg with ⟨rfl,_⟩|⟨id,rfl,_⟩<;>rfl
   have hgc:gv.cs=[gv]:=by rcases hg with ⟨rfl,_⟩|⟨id,rfl,_⟩<;>rfl
   obtain ⟨S,hS⟩:∃ S:Store,S=(({ next:=s.next+1,obj:=s.obj }:Store).put s.next (al9.cells [.str [],.int .i64 0,.str [],.str [],.int .u8 0,.str [],.aa1,.aa1,.aa1,.aa1,.aa1,.aa1,.aa1,.aa1,.aa1])).put s.next (al9.cells (a.pk n).cs):=⟨_,rfl⟩;have So:∀ i,¬ i=s.next->S.obj i=s.obj i:=fun i hi=>by rw[hS]; simp only[aa5,hi,if_false]
   have hg1:Grow (⟨s.next+1+11,S.obj⟩:Store) gv 15 ((a.l.take n).map aa3.cs):=hg.mono (by show s.next<=s.next+1+11; omega) fun id _ hid=>So id om
   have hap:=al6 (nid:=s.next+1+7) (e:=(a.pk n).cs) hg1 (bg1 _) ⟨rfl,rfl⟩ (by rw[za,z5]; omega);rw[za] at hap;have k1:=ag3 hg1 1 _ (by rw[<- ho]; exact So 1 n1) (fun _ e=>by cases e);have k0:=ag3 hg1 0 _ (by rw[<- hm]; exact So 0 n0) (fun _ e=>by cases e);have kn:(aj5 gv (⟨s.next+1+11,S.obj⟩:Store)).next=s.next+1+11:=ae7 gv;have m1:¬ 1=s.next+1+7:=om
   have m0:¬ 0=s.next+1+7:=om
   have hcl:∀ i cs,¬ i=s.next->s.obj i=zg (.cells cs)->S.obj i=zg (.cells cs):=fun i cs h1 h2=>by rw[So i h1]; exact h2
   simp only[go_sem,d1,vcs,vlf];refine aa2 fok73 (hP) ?_;simp only[go_sem,pvl,pvc];refine aa2 fok69 (hp) ?_;simp only[go_sem,ag5,ag9,ad6,n1,n0,ho,b_o,b_p,b_t];rw[<- hS];generalize aj5 gv (⟨s.next+1+11,S.obj⟩:Store)=K at *;simp only[show s.next+1+1+1+1+1+1+1+1=s.next+1+7 from rfl,hap,go_sem,m1,m0,k1,k0,w1];refine ⟨hlt,_,by rw[kn]; omega,rfl,?_⟩;rw[htk,z7];refine .inr ⟨s.next+1+7,by rw[zn,za]; rfl,?_,by rw[kn]; omega⟩;simp only[aa5];rw[if_neg (fun e=>m1 e.symm),if_pos trivial]; rfl
  ·have d1:¬ (n:Int)<a.l.length:=om
   rw[zd om] at hg;simp only[go_sem,d1];exact ⟨⟨gv,{ cell:=ho,grow:=.inl ⟨rfl,rfl⟩,map:=hm,all:=hg,ne:=fun _ _ _ _ h=>(by cases h),lt:=⟨om,om⟩ }⟩,_,rfl⟩
 rintro e f t ⟨rfl,⟨allv,hM⟩,rst,rfl⟩;simp only[go_sem];refine ac3 (ae2 ?_);simp only[go_sem];refine ag1 fok74 (jm2 a hA hI t 1 0 _ _ _ hM hIt) ?_;rintro v s ⟨s1,itv,hM2⟩;refine ⟨s1,?_⟩;simp only[go_sem];refine ae2 ?_;simp only[go_sem];exact .cs8 (.cons hM2.frz (.cons (bg4 rfl) .nil))
end Go.Id.Tryz
namespace Go.Id.Tryz
open Go Go.Id Go.Proofs Go.Shelf Go.Id.Md
def ev5 (repos:List ao2)(inst:List aa3):List aa3:=inst++repos.flatMap fun r=>r.packages
theorem hy7 (repos:List ao2)(inst:List aa3)(hN:inst.length+am4 repos<=256)(hr:repos.length<=16):PC Tryz.prog EE 29 [av8 repos,au3 inst] (au3 (ev5 repos inst)):=by
 refine ad9 hE fok29 (nZ rfl) (ag4 (bs6 repos) (aq4 inst)) ?_;have g0:Grow (({ next:=2,obj:=emp.obj }:Store).put 0 (al9.row [])) (.slice 0 0 0 15) 15 []:=.inr ⟨0,rfl,by rw[aa5,if_pos rfl]; rfl,by show 0<2; omega⟩;obtain ⟨v1,t1,a1,n1,q1,_,_⟩:=bq1 (nid:=1) (xs:=inst.map aa3.cs) g0 (fun x h=>by cases h) (bg1 _) (by rw[za,zp]; omega) (by show 1<2; omega);rw[zo] at q1;simp only[ic29,go_sem,a1];refine ab2 noT (fun i fr t=>∃ gv,fr=[(0,av8 repos),(5,gv),(6,.int .i64 (i:Int))]/\Grow t gv 15 ((ev5 (repos.take i) inst).map aa3.cs)/\(ev5 (repos.take i) inst).length+am4 (repos.drop i)=inst.length+am4 repos) repos.length ⟨v1,rfl,by simpa [ev5] using q1,by simp[ev5]⟩ ?_;rintro i fr t hle ⟨gv,rfl,hg,hsum⟩;by_cases hlt:i<repos.length
 ·obtain ⟨a,ha,_,hdr,hget,htk⟩:=ac7 repos i hlt;have c1:(i:Int)<repos.length:=om
  have c2:(0:Int)<=i:=om
  have w1:=ac2 (i:=i) om;rw[cf9 repos i a hdr] at hsum
  have hap:ev5 (repos.take (i+1)) inst=ev5 (repos.take i) inst++a.packages:=by
   unfold ev5
   have:repos.take (i+1)=repos.take i++[a]:=by
    rw[zl];have:=congrArg List.head? hdr;rw[List.head?_drop] at this;rw[this]; rfl
   rw[this,List.flatMap_append]; simp
  obtain ⟨v2,t2,a2,n2,q2,_,_⟩:=bq1 (nid:=t.next) (xs:=a.packages.map aa3.cs) (hg.mono (σ':=⟨t.next+1,t.obj⟩) (Nat.le_succ _) fun _ _ _=>rfl) (bg1 _) (bg1 _) (by rw[za,za]; omega) (Nat.lt_succ_self _);simp only[go_sem,c1,c2,hget,aq5,at1,as9,ao2.cs,a2,w1];refine ⟨hlt,v2,rfl,?_,?_⟩
  ·rw[hap,z7]; exact q2
  ·rw[hap,zn]; omega
 ·have hi':i=repos.length:=om
  subst hi';have c1:¬ (repos.length:Int)<repos.length:=om
  rw[z2] at hg;simp only[go_sem,c1];refine hg.frz (fun x hx=>(bg1 _ x hx).1) (fun _ _=>zf _) fun e he c hc=>?_
  obtain ⟨y,_,rfl⟩:=zw.1 he;exact bc3 y c hc
def dr9 (all:List aa3)(inst:Int)(r:Req):IV:=if am5 r inst=0 then .tuple [.ab8 (au3 all::.int .i64 inst::r.cs),.int .i64 0] else .tuple [.af3,.int .i64 (am5 r inst)]
theorem hy8 (all:List aa3)(inst:Int)(r:Req)(hR:eb5 r):PC Tryz.prog EE 28 [au3 all,.int .i64 inst,.agg r.cs] (dr9 all inst r):=by
 refine ad9 hE fok28 (nZ rfl) (as5 (aq4 all) (.int _ _) (.agg _ (bc2 r))) ?_;have hm:=cy5 r.ap9;have k0:r.cs.head? = zg (.int .u8 r.ap9):=rfl;have k2:(r.cs.drop 2).head? = zg (az8 r.ag6):=rfl;have k3:(r.cs.drop 3).head? = zg (aq1 r.ah6):=rfl;have k4:(r.cs.drop 4).head? = zg (.int .i64 r.budget):=rfl;obtain ⟨V,hV⟩:∃ V,dr9 all inst r=V:=⟨_,rfl⟩
 have herr:∀ (s:Store) (e:Int),am5 r inst=e->e≠0->bw7 s 0 (.tuple [.af3,.int .i64 e]) V:=fun s e h1 h2=>by
  rw[<- hV];unfold dr9;rw[h1,if_neg h2];exact .keep _ (.tuple _ (ag4 .af3 (.int _ _)))
 rw[hV];by_cases c1:bi9 r.ap9=false
 ·rw[c1] at hm;simp only[ic28,go_sem,ai3,k0];refine aa2 fok70 (hm) ?_;simp only[go_sem];exact herr _ 1 (by unfold am5; rw[if_pos (.inl c1)]) (by decide)
 have c1':bi9 r.ap9=true:=by simpa using c1
 rw[c1'] at hm;by_cases c2:r.budget<0
 ·simp only[ic28,go_sem,ai3,k0];refine aa2 fok70 (hm) ?_;simp only[go_sem,k4,c2];exact herr _ 1 (by unfold am5; rw[if_pos (.inr (.inl c2))]) (by decide)
 by_cases c3:1099511627776<r.budget
 ·simp only[ic28,go_sem,ai3,k0];refine aa2 fok70 (hm) ?_;simp only[go_sem,k4,c2,c3];exact herr _ 1 (by unfold am5; rw[if_pos (.inr (.inr c3))]) (by decide)
 have q1:¬ (bi9 r.ap9=false\/r.budget<0\/1099511627776<r.budget):=fun h=>h.elim c1 fun h=>h.elim c2 c3
 by_cases c4:64<r.ag6.length
 ·have c4':(64:Int)<r.ag6.length:=om
  simp only[ic28,go_sem,ai3,k0];refine aa2 fok70 (hm) ?_;simp only[go_sem,k4,c2,c3,k2,c4'];exact herr _ 40 (by unfold am5; rw[if_neg q1,if_pos (.inl c4)]) (by decide)
 have c4':¬ (64:Int)<r.ag6.length:=om
 by_cases c5:64<r.ah6.length
 ·have c5':(64:Int)<r.ah6.length:=om
  simp only[ic28,go_sem,ai3,k0];refine aa2 fok70 (hm) ?_;simp only[go_sem,k4,c2,c3,k2,k3,c4',c5'];exact herr _ 40 (by unfold am5; rw[if_neg q1,if_pos (.inr c5)]) (by decide)
 have c5':¬ (64:Int)<r.ah6.length:=om
 have q2:¬ (64<r.ag6.length\/64<r.ah6.length):=fun h=>h.elim c4 c5
 simp only[ic28,go_sem,ai3,k0];refine aa2 fok70 (hm) ?_;simp only[go_sem,k4,c2,c3,k2,k3,c4',c5'];refine ab2 noT (fun i fr t=>fr=[(0,au3 all),(1,.int .i64 inst),(5,.ab8 r.cs),(8,.int .i64 (i:Int))]/\(r.ag6.drop i).all bb6=r.ag6.all bb6) r.ag6.length ⟨rfl,rfl⟩ ?_;rintro i fr t hi ⟨rfl,ha⟩;by_cases hlt:i<r.ag6.length
 ·obtain ⟨x,hx,_,hdr,hget,_⟩:=ac7 r.ag6 i hlt;have d1:(i:Int)<r.ag6.length:=om
  have d2:(0:Int)<=i:=om
  have w1:=ac2 (i:=i) om;obtain ⟨hs1,hs2⟩:=hR.im2 x hx;have hmay:=ea7 x.dep om (by have:=hs1.2.2.1; omega) (by have:=hs1.2.2.2; omega);have x0:x.cs.head? = zg (.int .u8 x.kind):=rfl;have x1:=cz2 x;have x2:(x.cs.drop 1).length=5:=rfl;rw[hdr,qe] at ha
  have hbad:bb6 x=false->am5 r inst=4:=fun h=>by
   rw[h,z8] at ha;unfold am5; rw[if_neg q1,if_neg q2,if_pos ha.symm]
  by_cases e1:x.kind<1
  ·have e1':¬ 1<=x.kind:=om
   simp only[go_sem,d1,d2,k2,hget,ba3,x0,e1];exact herr _ 4 (hbad (by unfold bb6; simp[e1'])) (by decide)
  by_cases e2:4<x.kind
  ·have e2':¬ x.kind<=4:=om
   simp only[go_sem,d1,d2,k2,hget,ba3,x0,e1,e2];exact herr _ 4 (hbad (by unfold bb6; simp[e2'])) (by decide)
  have e1':1<=x.kind:=om
  have e2':x.kind<=4:=om
  simp only[go_sem,d1,d2,k2,hget,ba3,x0,x1,x2,e1,e2];refine aa2 fok71 (hmay) ?_
  cases hb:ai4 x.dep with
  | false=>
   simp only[go_sem]
   exact herr _ 4 (hbad (by unfold bb6; simp[hb])) (by decide)
  | true=>
   have:bb6 x=true:=by unfold bb6; simp[e1',e2',hb]
   rw[this,z1] at ha;simp only[go_sem,w1];exact ⟨hlt,ha⟩
 have hi':i=r.ag6.length:=om
 subst hi';rw[zv] at ha;have hjm:¬ r.ag6.all bb6=false:=by rw[<- ha]; simp
 have d1:¬ (r.ag6.length:Int)<r.ag6.length:=om
 simp only[go_sem,d1,k2];refine ab2 noT (fun i fr t=>fr=[(0,au3 all),(1,.int .i64 inst),(5,.ab8 r.cs),(9,.int .i64 (i:Int))]/\((r.ah6.drop i).all fun e=>aw8 e r.ag6.length inst)=r.ah6.all fun e=>aw8 e r.ag6.length inst) r.ah6.length ⟨rfl,rfl⟩ ?_;clear ha;rintro i fr t hi ⟨rfl,ha⟩;by_cases hlt:i<r.ah6.length
 ·obtain ⟨x,hx,_,hdr,hget,_⟩:=ac7 r.ah6 i hlt;have d1:(i:Int)<r.ah6.length:=om
  have d2:(0:Int)<=i:=om
  have w1:=ac2 (i:=i) om;have x0:x.cs.head? = zg (.int .u8 x.kind):=rfl;have x1:(x.cs.drop 1).head? = zg (.int .i64 x.n):=rfl;rw[hdr,qe] at ha
  have hbad:aw8 x r.ag6.length inst=false->am5 r inst=5:=fun h=>by
   rw[h,z8] at ha;unfold am5; rw[if_neg q1,if_neg q2,if_neg hjm,if_pos ha.symm]
  have hgood:aw8 x r.ag6.length inst=true->((r.ah6.drop (i+1)).all fun e=>aw8 e r.ag6.length inst)=r.ah6.all fun e=>aw8 e r.ag6.length inst:=fun h=>by
   rw[h,z1] at ha; exact ha
  unfold aw8 at hbad hgood;by_cases e1:0<=x.n
  case neg=>
   simp only[go_sem,d1,d2,k2,k3,hget,ap3,aq8,ak7,x0,x1,e1];exact herr _ 5 (hbad (by simp[e1])) (by decide)
  by_cases e2:x.kind=1
  ·by_cases e3:x.n<r.ag6.length
   ·simp only[go_sem,d1,d2,k2,k3,hget,ap3,aq8,ak7,x0,x1,e1,e2,e3,w1];exact ⟨hlt,hgood (by simp[e1,e2,e3])⟩
   ·simp only[go_sem,d1,d2,k2,k3,hget,ap3,aq8,ak7,x0,x1,e1,e2,e3];exact herr _ 5 (hbad (by simp[e2,e3])) (by decide)
  ·by_cases e4:1<x.kind
   ·by_cases e5:x.kind<=4
    ·have e6:1<=x.kind:=om
     by_cases e3:x.n<inst
     ·simp only[go_sem,d1,d2,k2,k3,hget,ap3,aq8,ak7,x0,x1,e1,e2,e3,e4,e5,w1];exact ⟨hlt,hgood (by simp[e1,e2,e3,e5,e6])⟩
     ·simp only[go_sem,d1,d2,k2,k3,hget,ap3,aq8,ak7,x0,x1,e1,e2,e3,e4,e5];exact herr _ 5 (hbad (by simp[e2,e3])) (by decide)
    ·simp only[go_sem,d1,d2,k2,k3,hget,ap3,aq8,ak7,x0,x1,e1,e2,e4,e5];exact herr _ 5 (hbad (by simp[e5])) (by decide)
   ·have e6:¬ 1<=x.kind:=om
    simp only[go_sem,d1,d2,k2,k3,hget,ap3,aq8,ak7,x0,x1,e1,e2,e4];exact herr _ 5 (hbad (by simp[e6])) (by decide)
 have hi':i=r.ah6.length:=om
 subst hi';rw[zv] at ha;have hem:¬ (r.ah6.all fun e=>aw8 e r.ag6.length inst)=false:=by rw[<- ha]; simp
 have d2:¬ (r.ah6.length:Int)<r.ah6.length:=om
 have hz:am5 r inst=0:=by unfold am5; rw[if_neg q1,if_neg q2,if_neg hjm,if_neg hem]
 have hrc:r.cs=[.int .u8 r.ap9,.bool r.vendor,az8 r.ag6,aq1 r.ah6,.int .i64 r.budget]:=rfl;rw[<- hV];unfold dr9;rw[if_pos hz];have rl:r.cs.length=5:=rfl;simp only[go_sem,d2,k3,rl,bn9,ai3];refine .keep _ (.tuple _ (ag4 (.ab8 _ fun c hc=>?_) (.int _ _)));rcases zk.1 hc with rfl|hc
 ·exact aq4 all
 ·rcases zk.1 hc with rfl|hc
  ·exact .int _ _
  ·exact bc2 r c hc
end Go.Id.Tryz
namespace Go.Id.Tryz
open Go Go.Id Go.Proofs Go.Shelf Go.Id.Md
def fy6:IV:=.tuple [.af3,.af3,.af3,.bool false,.bool false]
def ev6 (repos:List ao2)(inst:List aa3)(r:Req):IV:=match by3 repos inst with
 | .inr _=>fy6
 | .inl p=>if am5 r p.inst=0 then .tuple [(ab4.mk p r).mv,(ab4.mk p r).v,.ab8 (au3 (ev5 repos inst)::.int .i64 p.inst::r.cs),.bool true,.bool false] else fy6
theorem ff9 {repos:List ao2}{inst:List aa3}{p:Pool}{r:Req}(hI:if4 repos inst)(hn:by3 repos inst=.inl p)(hR:eb5 r)(he:am5 r p.inst=0):(ab4.mk p r).items.length<2^30/\0<=p.inst:=by
 have hA:=aok hI hn hR he;have hp:p.inst=inst.length:=(cx5 hn).2;refine ⟨ab4.gn9 _ (fun x hx=>?_) hA.len hA.inst hA.ag6,by rw[hp]; omega⟩;have hm:ah4 x=true:=(fe2 hn x hx).1;unfold ah4 ae6 at hm;simp only[z0,decide_eq_true_eq] at hm;obtain ⟨⟨⟨⟨⟨⟨⟨⟨_,ho⟩,_⟩,_⟩,hrq⟩,hcf⟩,_⟩,_⟩,_⟩:=hm.1;exact ⟨om,om,om⟩
theorem ek9 (repos:List ao2)(inst:List aa3)(r:Req)(hI:if4 repos inst)(hR:eb5 r):PC Tryz.prog EE 6 [av8 repos,au3 inst,.agg r.cs] (ev6 repos inst r):=by
 refine ad9 hE fok6 (nZ rfl) (as5 (bs6 repos) (aq4 inst) (.agg _ (bc2 r))) ?_;have hp:=cr7 repos inst hI.r1 hI.i1 hI.s1 hI.rf hI.pf;have h12:=fun σ=>iz8 repos inst hI σ
 have nilb:∀ s:Store,bw7 s 0 fy6 fy6:=fun s=>.keep _ (.tuple _ fun c hc=>by
  simp only[zk,zu,or_false] at hc;rcases hc with rfl|rfl|rfl|rfl|rfl
  ·exact .af3
  ·exact .af3
  ·exact .af3
  ·exact .bool _
  ·exact .bool _)
 unfold ev6
 cases hn:by3 repos inst with
 | inr e=>
  have he:¬ e=0:=by rcases hu5 hn with rfl|rfl<;>decide
  rw[hn] at hp;simp only[ic6,go_sem,ai3];refine aa2 fok25 (hp) ?_;simp only[jj6,go_sem];refine ag1 fok26 (h12 _) ?_;rintro v s ⟨s1,s2⟩;rw[hn] at s2;simp only at s2;subst s2;refine ⟨s1,?_⟩;simp only[go_sem,he]
  exact nilb _
 | inl p=>
  obtain ⟨g1,g2,_,_⟩:=cq3 hn;have hin:p.inst=inst.length:=(cx5 hn).2;rw[hn] at hp;have hf:=in1 hI hn;have hlen:(af6 p).length<=256:=by simp only[af6,za]; exact fe1 hn
  have hAN:=gs9 p r hR hlen fun x hx=>⟨(hf x hx).1,(hf x hx).2.2⟩
  have hAll:=hy7 repos inst g2 g1;have h15:=hy8 (ev5 repos inst) p.inst r hR;have vcs:p.v.cs=[p.v]:=rfl;have vlf:p.v.leaf=true:=rfl;simp only[ic6,go_sem,ai3];refine aa2 fok25 (hp) ?_;simp only[jj6,go_sem,vcs,vlf];refine ag1 fok26 (h12 _) ?_;rintro v s ⟨s1,s2⟩;rw[hn] at s2;simp only at s2;obtain ⟨id,X,Y,Z,rfl,hob⟩:=s2;refine ⟨s1,?_⟩;have rl:r.cs.length=5:=rfl;simp only[go_sem,rl,bn9,ai3];refine aa2 fok27 (hAN) ?_;by_cases he:am5 r p.inst=0
  ·have hA:=aok hI hn hR he;obtain ⟨hIt,hI0⟩:=ff9 hI hn hR he;have hM:=ev4 ⟨p,r⟩ hA hI0 hIt;have hav:(ab4.mk p r).v.leaf=true:=rfl;have hac:(ab4.mk p r).v.cs=[(ab4.mk p r).v]:=rfl;have hmv:(ab4.mk p r).mv.leaf=true:=rfl;have hmc:(ab4.mk p r).mv.cs=[(ab4.mk p r).mv]:=rfl;have hbm:=as7 ⟨p,r⟩;have hba:=ai6 ⟨p,r⟩;unfold jc9;unfold dr9 at h15;rw[if_pos he] at h15 ⊢;rw[if_pos he];generalize (ab4.mk p r).v=AV at *;generalize (ab4.mk p r).mv=MV at *;simp only[go_sem,hav,hac,hob];refine aa8 hAll ?_;simp only[go_sem,hob,rl,bn9,ai3];refine aa8 h15 ?_;simp only[go_sem,hav,hac];refine aa2 fok30 (hM) ?_;simp only[go_sem];refine .keep _ (.tuple _ fun c hc=>?_);simp only[zk,zu,or_false] at hc;rcases hc with rfl|rfl|rfl|rfl|rfl
   ·exact hbm
   ·exact hba
   ·refine .ab8 _ fun c hc=>?_
    rcases zk.1 hc with rfl|hc
    ·exact aq4 _
    ·rcases zk.1 hc with rfl|hc
     ·exact .int _ _
     ·exact bc2 r c hc
   ·exact .bool _
   ·exact .bool _
  ·unfold jc9;unfold dr9 at h15;rw[if_neg he] at h15 ⊢;rw[if_neg he];simp only[go_sem,hob];refine aa8 hAll ?_;simp only[go_sem,hob,rl,bn9,ai3];refine aa8 h15 ?_;simp only[go_sem,he];exact nilb _
end Go.Id.Tryz
namespace Go.Id.Tryz
open Go Go.Id Go.Proofs Go.Id.Md
def ea2 (x:Nat×Bool):IV:=.tuple [.int .i64 x.1,.bool x.2]
theorem bn7 {s:Store}(n:Nat)(b:Bool):bw7 s 0 (.tuple [.int .i64 n,.bool b]) (ea2 (n,b)):=.cs8 (.cons (ad5 _ _) (.cons (ab3 _) .nil))
theorem fy7 (r:aa6)(rs:List aa6)(deep n:Nat):cv7 (r::rs) deep n=if big r.dep=true then (0,true) else
  if (ce1 r (deep+1)).2=true\/2000<n+1+(ce1 r (deep+1)).1 then (0,true) else cv7 rs deep (n+1+(ce1 r (deep+1)).1):=by
 simp only[cv7]
theorem gq3 (r:aa6):∀ deep:Nat,deep<=21->r.ok->PC Tryz.prog EE 54 [ai9 r.args,.int .i64 deep] (ea2 (ce1 r deep)):=by
 induction r using aa6.ind with
 | h k d xs ih=>
  intro deep hdeep hok;obtain ⟨o1,o2,o3,o4,o5⟩:=aa6.fy2.1 hok;refine ad9 hE fok54 (nZ rfl) (al4 (ak8 _) (.int _ _)) ?_;by_cases b1:20<deep
  ·have c1:(20:Int)<deep:=om
   simp only[ic54,go_sem,aa6.args,ce1,c1,b1,true_or];exact bn7 0 true
  have c1:¬ (20:Int)<deep:=om
  by_cases b2:100<xs.length
  ·have c2:(100:Int)<xs.length:=om
   simp only[ic54,go_sem,aa6.args,ce1,c1,c2,b1,b2,or_true];exact bn7 0 true
  have c2:¬ (100:Int)<xs.length:=om
  simp only[ic54,go_sem,aa6.args,ce1,c1,c2,b1,b2,or_self];refine ab2 noT (fun i fr s=>∃ n:Nat,fr=[(0,ai9 xs),(1,.int .i64 deep),(6,.int .i64 n),(7,.int .i64 i)]/\n<=2000/\cv7 xs deep 0=cv7 (xs.drop i) deep n) xs.length ⟨0,rfl,om,rfl⟩ ?_;rintro i fr s hi ⟨n,rfl,hn,hm⟩;by_cases hlt:i<xs.length
  ·obtain ⟨x,hx,hxi,hdr,hget,htk⟩:=ac7 xs i hlt;have c3:(i:Int)<xs.length:=om
   have c4:(0:Int)<=i:=om
   have w1:=ac2 (i:=i) om;have w2:=ac2 (i:=deep) om;have w3:=ac2 (i:=n) om;rw[hdr,fy7] at hm;obtain ⟨k',d',ys⟩:=x;rw[show (aa6.mk k' d' ys).dep=d' from rfl] at hm;obtain ⟨x1,x2,x3,x4,x5⟩:=aa6.fy2.1 (o5 _ hx);have hA:=ih _ hx (deep+1) om (o5 _ hx)
   have hsz:IntKind.i64.wrap ((d'.name.length:Int)+d'.evr.ver.length)=((d'.name.length+d'.evr.ver.length:Nat):Int):=by
    have:=x3.1; have:=x3.2.1;rw[wrap64 om om]; omega
   simp only[go_sem,c3,c4,hget,aa6.ak5,aa6.kind,aa6.dep,aa6.args,hsz,bn3] at hA ⊢;have hbig:big d'=(decide (500<d'.name.length+d'.evr.ver.length)||decide (500<d'.evr.rel.length)):=rfl;by_cases q1:500<d'.name.length+d'.evr.ver.length
   ·have e1:(500:Int)<((d'.name.length+d'.evr.ver.length:Nat):Int):=om
    have hb:big d'=true:=by rw[hbig]; simp[q1]
    rw[if_pos hb] at hm;simp only[go_sem,e1,hm];exact bn7 0 true
   have e1:¬ (500:Int)<((d'.name.length+d'.evr.ver.length:Nat):Int):=om
   by_cases q2:500<d'.evr.rel.length
   ·have e2:(500:Int)<d'.evr.rel.length:=om
    have hb:big d'=true:=by rw[hbig]; simp[q2]
    rw[if_pos hb] at hm;simp only[go_sem,c3,c4,hget,aa6.ak5,aa6.kind,aa6.dep,aa6.args,e1,e2,hm];exact bn7 0 true
   have e2:¬ (500:Int)<d'.evr.rel.length:=om
   have hb:¬ big d'=true:=by rw[hbig]; simp[q1,q2]
   rw[if_neg hb] at hm;simp only[go_sem,c3,c4,hget,aa6.ak5,aa6.kind,aa6.dep,aa6.args,e1,e2,w2];refine aa2 fok54 hA ?_;have hkl:(ce1 (.mk k' d' ys) (deep+1)).1<=2000:=by rw[dr3]; exact fd9 _ _
   generalize ce1 (.mk k' d' ys) (deep+1)=ka at *
   have w4:IntKind.i64.wrap (((n+1:Nat):Int)+ka.1)=((n+1+ka.1:Nat):Int):=by
    rw[wrap64 om om]; omega
   cases hk2:ka.2 with
   | true=>
    rw[if_pos (.inl hk2)] at hm;simp only[go_sem,ea2,hk2,w3,w4,hm]
    exact bn7 0 true
   | false=>
    by_cases q3:2000<n+1+ka.1
    ·have e3:(2000:Int)<((n+1+ka.1:Nat):Int):=om
     rw[if_pos (.inr q3)] at hm;simp only[go_sem,ea2,hk2,w3,w4,e3,hm];exact bn7 0 true
    ·have e3:¬ (2000:Int)<((n+1+ka.1:Nat):Int):=om
     rw[if_neg (by rw[hk2]; simp; omega)] at hm;simp only[go_sem,ea2,hk2,w1,w3,w4,e3];exact ⟨hlt,n+1+ka.1,rfl,om,hm⟩
  ·have hi':i=xs.length:=om
   subst hi';have c3:¬ (xs.length:Int)<xs.length:=om
   rw[zv] at hm;simp only[go_sem,c3,hm,cv7];exact bn7 n false
theorem fy8 (l:List aa6)(h1:l.length<2^62)(h2:∀ r∈l,r.ok):PC Tryz.prog EE 54 [ai9 l,.int .i64 0] (ea2 (cv8 l 0)):=by
 have h:=gq3 (.mk 1 by2 l) 0 om (aa6.fy2.2 ⟨om,om,⟨by decide,by decide,by decide⟩,h1,h2⟩);rw[dr3] at h;exact h
def lC (l:List aa6):List IV:=[ai9 l]
theorem ev7 {p:aa3}{l:List aa6}(h:l∈br4 p):∃ x∈p.rows,x.2=l:=by
 simp only[br4,zk,zu,or_false] at h;rcases h with rfl|rfl|rfl|rfl|rfl|rfl<;>simp[aa3.rows]
theorem ev8 (l:List aa6)(ls:List (List aa6))(n:Nat):ce2 (l::ls) n=if (cv8 l 0).2=true\/2000<n+(cv8 l 0).1 then true else ce2 ls (n+(cv8 l 0).1):=by simp only[ce2]
theorem ds2 (p:aa3)(ho:p.Ok):PC Tryz.prog EE 22 [.agg p.cs] (.bool (ax4 p)):=by
 refine ad9 hE fok22 (nZ rfl) (af1 (al2 p)) ?_;by_cases b1:100<p.provides.length
 ·have c1:(100:Int)<p.provides.length:=om
  simp only[ic22,go_sem,ad6,aa3.cs,c1,ax4,b1];exact ab3 _
 have c1:¬ (100:Int)<p.provides.length:=om
 by_cases b2:100<p.aa7.length
 ·have c2:(100:Int)<p.aa7.length:=om
  simp only[ic22,go_sem,ad6,aa3.cs,c1,c2,ax4,b1,b2];exact ab3 _
 have c2:¬ (100:Int)<p.aa7.length:=om
 by_cases b3:100<p.files.length
 ·have c3:(100:Int)<p.files.length:=om
  simp only[ic22,go_sem,ad6,aa3.cs,c1,c2,c3,ax4,b1,b2,b3];exact ab3 _
 have c3:¬ (100:Int)<p.files.length:=om
 by_cases b4:1000<p.name.length
 ·have c4:(1000:Int)<p.name.length:=om
  simp only[ic22,go_sem,ad6,aa3.cs,c1,c2,c3,c4,ax4,b1,b2,b3,b4];exact ab3 _
 have c4:¬ (1000:Int)<p.name.length:=om
 by_cases b5:1000<p.vendor.length
 ·have c5:(1000:Int)<p.vendor.length:=om
  simp only[ic22,go_sem,ad6,aa3.cs,c1,c2,c3,c4,c5,ax4,b1,b2,b3,b4,b5];exact ab3 _
 have c5:¬ (1000:Int)<p.vendor.length:=om
 by_cases b6:1000<p.evr.ver.length
 ·have c6:(1000:Int)<p.evr.ver.length:=om
  simp only[ic22,go_sem,ad6,aa3.cs,c1,c2,c3,c4,c5,c6,ax4,b1,b2,b3,b4,b5,b6];exact ab3 _
 have c6:¬ (1000:Int)<p.evr.ver.length:=om
 by_cases b7:1000<p.evr.rel.length
 ·have c7:(1000:Int)<p.evr.rel.length:=om
  simp only[ic22,go_sem,ad6,aa3.cs,c1,c2,c3,c4,c5,c6,c7,ax4,b1,b2,b3,b4,b5,b6,b7];exact ab3 _
 have c7:¬ (1000:Int)<p.evr.rel.length:=om
 have hM:ax4 p=ce2 (br4 p) 0:=by simp only[ax4,b1,b2,b3,b4,b5,b6,b7,decide_false,zy]
 rw[hM];simp only[ic22,go_sem,ad6,aa3.cs,c1,c2,c3,c4,c5,c6,c7];refine ab2 noT (fun i fr s=>∃ n:Nat,fr=[(3,.int .i64 n),(62,.aa4 ((br4 p).map lC)),(63,.int .i64 6),(64,.int .i64 i)]/\n<=2000/\ce2 (br4 p) 0=ce2 ((br4 p).drop i) n) 6 ⟨0,rfl,om,rfl⟩ ?_;rintro i fr s hi ⟨n,rfl,hn,hm⟩;by_cases hlt:i<6
 ·obtain ⟨l,hl,hli,hdr,hget,htk⟩:=ac7 (br4 p) i hlt;have d1:(i:Int)<6:=om
  have d2:(0:Int)<=i:=om
  have d3:(i:Int)<((br4 p).length:Nat):=by simp only[br4,zm,zp]; omega
  have w1:=ac2 (i:=i) om;rw[hdr,ev8] at hm;obtain ⟨x,hx,rfl⟩:=ev7 hl;have hok:=ho.rich x hx;simp only[go_sem,d1,d2,d3,hget,lC];refine aa2 fok54 (fy8 x.2 hok.1 hok.2) ?_;have hle:=fd9 x.2 0;generalize cv8 x.2 0=ka at *
  have w4:IntKind.i64.wrap ((n:Int)+ka.1)=((n+ka.1:Nat):Int):=by
   rw[wrap64 om om]; omega
  cases hk2:ka.2 with
  | true=>
   rw[if_pos (.inl hk2)] at hm;simp only[go_sem,ea2,hk2,w4,hm]
   exact ab3 _
  | false=>
   by_cases q3:2000<n+ka.1
   ·have e3:(2000:Int)<((n+ka.1:Nat):Int):=om
    rw[if_pos (.inr q3)] at hm;simp only[go_sem,ea2,hk2,w4,e3,hm];exact ab3 _
   ·have e3:¬ (2000:Int)<((n+ka.1:Nat):Int):=om
    rw[if_neg (by rw[hk2]; simp; omega)] at hm;simp only[go_sem,ea2,hk2,w1,w4,e3];exact ⟨hlt,n+ka.1,rfl,om,hm⟩
 ·have hi':i=6:=om
  subst hi';have e6:(br4 p).drop 6=[]:=rfl;rw[e6] at hm;simp only[go_sem,hm,ce2];exact ab3 _
theorem fg1 {α:Type}{q:α->Bool}{l:List α}{i:Nat}{a:α}(h:l.drop i=a::l.drop (i+1)):(l.drop i).any q=(q a||(l.drop (i+1)).any q):=by rw[h]; simp
end Go.Id.Tryz
namespace Go.Id.Tryz
open Go Go.Id Go.Proofs Go.Shelf Go.Id.Md
def ce8 (most:Nat):List ao2->Nat->Bool
 | [],_=>false
 | r::rs,n=>if most<n+r.packages.length then true else if r.packages.any ax4=true then true else ce8 most rs (n+r.packages.length)
def br9 (repos:List ao2)(inst:List aa3)(r:Req)(most:Nat):Bool :=
 decide (30<repos.length)||(decide (most<inst.length)||(decide (20<r.ag6.length)||(decide (20<r.ah6.length)||(inst.any ax4||ce8 most repos inst.length))))
theorem ev9 (most:Nat)(r:ao2)(rs:List ao2)(n:Nat):ce8 most (r::rs) n=if most<n+r.packages.length then true else if r.packages.any ax4=true then true else ce8 most rs (n+r.packages.length):=by simp only[ce8]
theorem iv3 (r:Req):(r.cs.drop 2).head? = zg (az8 r.ag6):=rfl
theorem jm3 (r:Req):(r.cs.drop 3).head? = zg (aq1 r.ah6):=rfl
theorem gq4 (repos:List ao2)(inst:List aa3)(r:Req)(most:Nat)(h1:repos.length<2^62)(h2:inst.length<2^62)(hmo:most<2^31)(hr:∀ r∈repos,ao2.Ok r)(hi:∀ p∈inst,p.Ok) :
  PC Tryz.prog EE 4 [av8 repos,au3 inst,.agg r.cs,.int .i64 most] (.bool (br9 repos inst r most)):=by
 refine ad9 hE fok4 (nZ rfl) (hq9 (bs6 _) (aq4 _) (.agg _ (bc2 r)) (.int _ _)) ?_;have rl:r.cs.length=5:=rfl;have jl:∀ l:List Job,∀ σ:Store,ch9 0 σ (az8 l)=zg (.int .i64 l.length):=fun l σ=>by unfold az8; simp only[go_sem]
 have el:∀ l:List bb4,∀ σ:Store,ch9 0 σ (aq1 l)=zg (.int .i64 l.length):=fun l σ=>by unfold aq1; simp only[go_sem]
 by_cases b1:30<repos.length
 ·have c1:(30:Int)<repos.length:=om
  simp only[ic4,go_sem,ai3,c1,br9,b1];exact ab3 _
 have c1:¬ (30:Int)<repos.length:=om
 by_cases b2:most<inst.length
 ·have c2:(most:Int)<inst.length:=om
  simp only[ic4,go_sem,ai3,c1,c2,br9,b1,b2];exact ab3 _
 have c2:¬ (most:Int)<inst.length:=om
 by_cases b3:20<r.ag6.length
 ·have c3:(20:Int)<r.ag6.length:=om
  simp only[ic4,go_sem,ai3,c1,c2,iv3,jl,c3,br9,b1,b2,b3];exact ab3 _
 have c3:¬ (20:Int)<r.ag6.length:=om
 by_cases b4:20<r.ah6.length
 ·have c4:(20:Int)<r.ah6.length:=om
  simp only[ic4,go_sem,ai3,c1,c2,iv3,jm3,jl,el,c3,c4,br9,b1,b2,b3,b4];exact ab3 _
 have c4:¬ (20:Int)<r.ah6.length:=om
 have hM:br9 repos inst r most=(inst.any ax4||ce8 most repos inst.length):=by simp only[br9,b1,b2,b3,b4,decide_false,zy]
 rw[hM];simp only[ic4,go_sem,ai3,c1,c2,iv3,jm3,jl,el,c3,c4];refine ab2 noT (fun i fr s=>fr=[(0,av8 repos),(1,au3 inst),(3,.int .i64 most),(9,.int .i64 inst.length),(10,.int .i64 i)]/\inst.any ax4=(inst.drop i).any ax4) inst.length ⟨rfl,rfl⟩ ?_;rintro i fr s hle ⟨rfl,hm⟩;by_cases hlt:i<inst.length
 ·obtain ⟨x,hx,hxi,hdr,hget,htk⟩:=ac7 inst i hlt;have d1:(i:Int)<inst.length:=om
  have d2:(0:Int)<=i:=om
  have w1:=ac2 (i:=i) om;rw[fg1 hdr] at hm;simp only[go_sem,d1,d2,hget,ag5,ag9,w1];refine aa2 fok22 (ds2 x (hi x hx)) ?_
  cases hb:ax4 x with
  | true=>
   rw[hb,Bool.true_or] at hm;simp only[go_sem,hm]
   exact ab3 _
  | false=>
   rw[hb,zy] at hm;simp only[go_sem,w1];exact ⟨hlt,hm⟩
 have hi':i=inst.length:=om
 subst hi';have d1:¬ (inst.length:Int)<inst.length:=om
 rw[zv,List.any_nil] at hm;rw[hm,zy];simp only[go_sem,d1];refine ab2 noT (fun i fr t=>∃ n:Nat,fr=[(0,av8 repos),(3,.int .i64 most),(9,.int .i64 n),(11,.int .i64 i)]/\n<=most/\ce8 most repos inst.length=ce8 most (repos.drop i) n) repos.length ⟨inst.length,rfl,om,rfl⟩ ?_;rintro i fr t hle2 ⟨n,rfl,hn,hm2⟩;by_cases hlt:i<repos.length
 ·obtain ⟨x,hx,hxi,hdr,hget,htk⟩:=ac7 repos i hlt;have d3:(i:Int)<repos.length:=om
  have d4:(0:Int)<=i:=om
  have w1:=ac2 (i:=i) om;have hxo:=hr x hx
  have w2:IntKind.i64.wrap ((n:Int)+x.packages.length)=((n+x.packages.length:Nat):Int):=by
   have:=hxo.1;rw[wrap64 om om]; omega
  rw[hdr,ev9] at hm2;by_cases q1:most<n+x.packages.length
  ·have e1:(most:Int)<((n+x.packages.length:Nat):Int):=om
   rw[if_pos q1] at hm2;simp only[go_sem,d3,d4,hget,aq5,ao2.cs,w2,e1,hm2];exact ab3 _
  have e1:¬ (most:Int)<((n+x.packages.length:Nat):Int):=om
  rw[if_neg q1] at hm2;simp only[go_sem,d3,d4,hget,aq5,ao2.cs,w2,e1];refine ab2 noT (fun j fr t=>fr=[(0,av8 repos),(3,.int .i64 most),(9,.int .i64 (n+x.packages.length:Nat)),(11,.int .i64 i),(12,.int .i64 j)]/\x.packages.any ax4=(x.packages.drop j).any ax4) x.packages.length ⟨rfl,rfl⟩ ?_;rintro j fr t hlej ⟨rfl,hj⟩;by_cases hjl:j<x.packages.length
  ·obtain ⟨y,hy,hyi,hdr3,hget3,htk3⟩:=ac7 x.packages j hjl;have d5:(j:Int)<x.packages.length:=om
   have d6:(0:Int)<=j:=om
   have w3:=ac2 (i:=j) (by have:=hxo.1; omega);rw[fg1 hdr3] at hj;simp only[go_sem,d3,d4,d5,d6,hget,hget3,aq5,ao2.cs,ag5,ag9,w3];refine aa2 fok22 (ds2 y (hxo.2 y hy)) ?_
   cases hb:ax4 y with
   | true=>
    rw[hb,Bool.true_or] at hj;rw[if_pos hj] at hm2;simp only[go_sem,hm2]
    exact ab3 _
   | false=>
    rw[hb,zy] at hj;simp only[go_sem,w3];exact ⟨hjl,hj⟩
  ·have hj':j=x.packages.length:=om
   subst hj';have d5:¬ (x.packages.length:Int)<x.packages.length:=om
   rw[zv,List.any_nil] at hj;rw[if_neg (by rw[hj]; exact Bool.false_ne_true)] at hm2;simp only[go_sem,d3,d4,d5,hget,aq5,ao2.cs,w1];exact ⟨hlt,n+x.packages.length,rfl,om,hm2⟩
 ·have hi':i=repos.length:=om
  subst hi';have d3:¬ (repos.length:Int)<repos.length:=om
  rw[zv] at hm2;simp only[go_sem,d3,hm2,ce8];exact ab3 _
end Go.Id.Tryz
namespace Go.Id.Tryz
open Go Go.Id Go.Proofs Go.Shelf Go.Id.Md
open Go.Id.Md.ab4 (inS less)
theorem ew1 {s:Store}(x:Str):bw7 s 0 (.str x) (.str x):=.keep _ (.str _)
theorem gq5 {s:Store}(k:IntKind)(n:Int):bw7 s 0 (.int k n) (.int k n):=.keep _ (.int _ _)
def jd1 (name ver:Str):aa3:={ name:=name,evr:=⟨0,ver,[49]⟩,ap9:=1,vendor:=[],provides:=[],requires:=[],conflicts:=[],aa7:=[],ac6:=[],ac1:=[],suggests:=[],af4:=[],files:=[] }
theorem ds4 (name ver:Str):PC Tryz.prog EE 23 [.str name,.str ver] (.agg (jd1 name ver).cs):=by
 refine ad9 hE fok23 (nZ rfl) (ag4 (.str _) (.str _)) ?_;simp only[ic23,go_sem];exact .jb8 (.cons (ew1 _) (.cons (gq5 _ _) (.cons (ew1 _) (.cons (ew1 _) (.cons (gq5 _ _) (.cons (ew1 _) (.cons .by5 (.cons .by5 (.cons .by5 (.cons .by5 (.cons .by5 (.cons .by5 (.cons .by5 (.cons .by5 (.cons .by5 .nil)))))))))))))))
def at16 (s:Str):aa6:=.mk 1 ⟨s,0,⟨0,[],[]⟩⟩ []
theorem gq6 (s:Str):PC Tryz.prog EE 24 [.str s] (.agg (at16 s).cs):=by
 refine ad9 hE fok24 (nZ rfl) (ah9 (.str _)) ?_;simp only[ic24,go_sem];exact .jb8 (.cons (gq5 _ _) (.cons (ew1 _) (.cons (gq5 _ _) (.cons (gq5 _ _) (.cons (ew1 _) (.cons (ew1 _) (.cons .by5 .nil)))))))
def jm4 (repos:List ao2)(inst:List aa3):Pool:=match by3 repos inst with
 | .inl p=>p
 | .inr _=>⟨[],0,[]⟩
def fg2 (d:Dep):Bool:=decide (d.name.length<100)&&decide (d.evr.ver.length<100)&&decide (d.evr.rel.length<100)
def il2 (p:aa3):Bool:=decide (p.name.length<100)&&decide (p.vendor.length<100)&&decide (p.evr.ver.length<100)&&decide (p.evr.rel.length<100)&&decide (p.provides.length<100)&&p.provides.all fg2&&decide (p.aa7.length<100)&&p.aa7.all fg2 &&
 decide (p.files.length<100)&&p.files.all (fun s=>decide (s.length<100))&&p.rows.all fun x=>x.2.isEmpty
theorem hy9 {p:aa3}(h:il2 p=true):p.Fit/\p.Ok:=by
 unfold il2 at h;simp only[z0,decide_eq_true_eq,List.all_eq_true] at h;obtain ⟨⟨⟨⟨⟨⟨⟨⟨⟨⟨h1,h2⟩,h3⟩,h4⟩,h5⟩,h6⟩,h7⟩,h8⟩,h9⟩,h10⟩,h11⟩:=h
 have hd:∀ d:Dep,fg2 d=true->d.fit:=fun d hd=>by
  unfold fg2 at hd;simp only[z0,decide_eq_true_eq] at hd;exact ⟨om,om,om⟩
 have hr:∀ x∈p.rows,x.2=[]:=fun x hx=>List.isEmpty_iff.1 (h11 x hx)
 exact ⟨⟨om,⟨om,om⟩,⟨om,fun d hx=>hd d (h6 d hx)⟩,⟨om,fun d hx=>hd d (h8 d hx)⟩,⟨om,fun x hx=>by have:=h10 x hx; omega⟩,fun x hx=>by rw[hr x hx]; exact ⟨by simp,fun r h=>by cases h⟩⟩,
  ⟨om,om,⟨om,om⟩,⟨om,fun d hx=>hd d (h6 d hx)⟩,⟨om,fun d hx=>hd d (h8 d hx)⟩,⟨om,fun x hx=>by have:=h10 x hx; omega⟩,fun x hx=>by rw[hr x hx]; exact ⟨by simp,fun r h=>by cases h⟩⟩⟩
theorem cy4 (l:List Itm){i:Nat}(h:i<l.length):(l.map Itm.cs).getD i []=l[i].cs:=by
 simp[zb,h]
theorem dd9 (l m:List Itm)(hl:l.length<2^62)(hm:m.length<2^62):PC Tryz.prog EE 9 [aj8 l,aj8 m] (.bool (decide (l=m))):=by
 refine ad9 hE fok9 (nZ rfl) (ag4 (as6 l) (as6 m)) ?_;have il:∀ l:List Itm,∀ σ:Store,ch9 0 σ (aj8 l)=zg (.int .i64 l.length):=fun l σ=>by unfold aj8; simp only[go_sem]
 by_cases hn:l.length=m.length
 case neg=>
  have e:¬ (l.length:Int)=m.length:=om
  have e2:decide (l=m)=false:=by
   rw[decide_eq_false_iff_not]; intro h; exact hn (by rw[h])
  rw[e2];simp only[ic9,go_sem,il,e];exact aa9 rfl
 have e:(l.length:Int)=m.length:=om
 simp only[ic9,go_sem,il,e];refine ab2 noT (fun i fr s=>fr=[(0,aj8 l),(1,aj8 m),(5,.int .i64 (i:Int))]/\l.take i=m.take i) l.length ⟨rfl,rfl⟩ ?_;rintro i fr s hi ⟨rfl,ht⟩;by_cases hlt:i<l.length
 ·have c1:(i:Int)<l.length:=om
  have c2:(0:Int)<=(i:Int):=om
  have c3:(i:Int)<m.length:=om
  have w1:=ac2 (i:=i) om;have g1:=cy4 l hlt;have g2:=cy4 m (i:=i) om;simp only[go_sem,aj8,c1,c2,c3,g1,g2,ae4,ad2,fd4];by_cases hq:l[i]=m[i]'om
  ·simp only[hq,go_sem,w1];refine ⟨hlt,?_⟩;rw[zl,zl,ht,zi hlt,zi om,hq]
  ·have e2:decide (l=m)=false:=by
    rw[decide_eq_false_iff_not]; intro h; subst h; exact hq rfl
   rw[e2];simp only[hq,go_sem];exact aa9 rfl
 ·have c1:¬ (i:Int)<l.length:=om
  rw[zd om,zd om] at ht;subst ht;simp only[go_sem,il,c1];exact aa9 (by simp)
end Go.Id.Tryz
namespace Go.Id.Tryz
open Go Go.Id Go.Proofs Go.Shelf Go.Id.Md
open Go.Id.Md.ab4 (inS less)
def wkA:aa3:={ jd1 [97] [49] with requires:=[at16 [120]] }
def wkB:aa3:={ jd1 [98] [49] with provides:=[⟨[120],0,⟨0,[],[]⟩⟩] }
def wkR:List ao2:=[⟨0,[wkB]⟩]
def wkI:List aa3:=[wkA]
def wkQ:Req:=⟨2,false,[],[],0⟩
def wkP:Pool:=jm4 wkR wkI
def wkM:ab4:=⟨wkP,wkQ⟩
theorem il3:by3 wkR wkI=.inl wkP:=by kernel_rfl
theorem il4:am5 wkQ wkP.inst=0:=by kernel_rfl
theorem jm5:(at16 [120]).fit:=aa6.bc6.2 ⟨by decide,by decide,⟨by show 1<2^62; decide,by show 0<2^62; decide,by show 0<2^62; decide⟩,by show 0<_; decide,fun r h=>(by cases h)⟩
theorem jx8:(at16 [120]).ok:=aa6.fy2.2 ⟨by decide,by decide,⟨by show 1<2^62; decide,by show 0<2^62; decide,by show 0<2^62; decide⟩,by show 0<_; decide,fun r h=>(by cases h)⟩
theorem jm6:wkA.Fit/\wkA.Ok:=by
 have hr:∀ x∈wkA.rows,x.2.length<100/\∀ r∈x.2,r=at16 [120]:=fun x hx2=>by
  simp only[aa3.rows,wkA,jd1,zk,zu,or_false] at hx2;rcases hx2 with rfl|rfl|rfl|rfl|rfl|rfl
  ·refine ⟨by decide,fun r hr=>zj.1 hr⟩
  all_goals exact ⟨by decide,fun r h=>by cases h⟩
 have n0:∀ {α:Type} {q:α->Prop},∀ d∈([]:List α),q d:=fun d h=>by cases h
 refine ⟨⟨by show 1<_; decide,⟨by show 1<2^62; decide,by show 1<2^62; decide⟩,⟨by show 0<_; decide,n0⟩,⟨by show 0<_; decide,n0⟩,⟨by show 0<_; decide,n0⟩,fun x hx2=>⟨by have:=(hr x hx2).1; omega,fun r h=>?_⟩⟩,⟨by show 1<_; decide,by show 0<2^62; decide,⟨by show 1<2^62; decide,by show 1<2^62; decide⟩,⟨by show 0<_; decide,n0⟩,⟨by show 0<_; decide,n0⟩,⟨by show 0<_; decide,n0⟩,fun x hx2=>⟨by have:=(hr x hx2).1; omega,fun r h=>?_⟩⟩⟩
 ·rw[(hr x hx2).2 r h];exact ⟨jm5,by show 1<2^31; decide⟩
 ·rw[(hr x hx2).2 r h];exact jx8
theorem jm7:if4 wkR wkI:=by
 have hB:wkB.Fit/\wkB.Ok:=hy9 (by kernel_rfl);have hA:=jm6
 exact ⟨by decide,by decide,by decide,fun r hr=>by
   rw[zj.1 hr];exact ⟨by decide,fun p hp=>by rw[zj.1 hp]; exact hB.1⟩,fun p hp=>by rw[zj.1 hp]; exact hA.1,fun r hr=>by
   rw[zj.1 hr];exact ⟨by decide,fun p hp=>by rw[zj.1 hp]; exact hB.2⟩,fun p hp=>by rw[zj.1 hp]; exact hA.2⟩
theorem il5:eb5 wkQ:=⟨by decide,by decide,fun j h=>by cases h⟩
theorem ce9:wkM.items=[⟨2,0,0⟩,⟨6,0,0⟩]:=by kernel_rfl
theorem iv4:wkM.holds [0] ⟨2,0,0⟩=false:=by kernel_rfl
theorem iv5:wkM.holds [0] ⟨6,0,0⟩=true:=by kernel_rfl
theorem iv6:wkM.good [0,1]=true:=by kernel_rfl
theorem iv7:wkM.good []=false:=by kernel_rfl
theorem iv8:ev6 wkR wkI wkQ=.tuple [wkM.mv,wkM.v,.ab8 (au3 (ev5 wkR wkI)::.int .i64 wkP.inst::wkQ.cs),.bool true,.bool false]:=by
 unfold ev6;rw[il3];simp only[il4,if_true];rfl
theorem bl6:PC Tryz.prog EE 5 [] (.bool true):=by
 have nA:=ds4 [97] [49];have nB:=ds4 [98] [49];have aT:=gq6 [120];have hm:=ek9 wkR wkI wkQ jm7 il5;rw[iv8] at hm;have hA:=aok jm7 il3 il5 il4;have hI:=gq1 wkM (by rw[ce9]; decide);have hS:=dd9 wkM.items [⟨2,0,0⟩,⟨6,0,0⟩] (by rw[ce9]; decide) (by decide);rw[decide_eq_true ce9] at hS;have h1:=bl5 wkM hA [0] (by decide) ⟨2,0,0⟩;have h2:=bl5 wkM hA [0] (by decide) ⟨6,0,0⟩;have g1:=ea1 wkM hA [0,1] (by decide) (by rw[ce9]; decide);have g2:=ea1 wkM hA [] (by decide) (by rw[ce9]; decide);rw[iv4] at h1;rw[iv5] at h2;rw[iv6] at g1;rw[iv7] at g2
 have g3:PC Tryz.prog EE 12 [wkM.mv,.aa1] (.bool false):=dx1 (args':=[wkM.mv,.aa4 (([]:List Int).map Md.ae1)]) rfl (fun σ i hi=>by
  match i,hi with
  | 0,_=>exact .keep _ ((as7 wkM).weak fun _ _=>rfl)
  | 1,_=>exact .by5) g2
 have cA:(jd1 [97] [49]).cs=[.str [97],.int .i64 0,.str [49],.str [49],.int .u8 1,.str [],.aa4 [],.aa4 [],.aa4 [],.aa4 [],.aa4 [],.aa4 [],.aa4 [],.aa4 [],.aa4 []]:=rfl;have cB:(jd1 [98] [49]).cs=[.str [98],.int .i64 0,.str [49],.str [49],.int .u8 1,.str [],.aa4 [],.aa4 [],.aa4 [],.aa4 [],.aa4 [],.aa4 [],.aa4 [],.aa4 [],.aa4 []]:=rfl;have cT:(at16 [120]).cs=[.int .u8 1,.str [120],.int .u8 0,.int .i64 0,.str [],.str [],.aa4 []]:=rfl;rw[cA] at nA;rw[cB] at nB;rw[cT] at aT
 have hm2:PC Tryz.prog EE 6 [.aa4 [[.int .i64 0,.aa4 [[.str [98],.int .i64 0,.str [49],.str [49],.int .u8 1,.str [],.aa4 [[.str [120],.int .u8 0,.int .i64 0,.str [],.str []]],.aa4 [],.aa4 [],.aa4 [],.aa4 [],.aa4 [],.aa4 [],.aa4 [],.aa4 []]]]],
   .aa4 [[.str [97],.int .i64 0,.str [49],.str [49],.int .u8 1,.str [],.aa4 [],.aa4 [[.int .u8 1,.str [120],.int .u8 0,.int .i64 0,.str [],.str [],.aa4 []]],.aa4 [],.aa4 [],.aa4 [],.aa4 [],.aa4 [],.aa4 [],.aa4 []]],
   .agg [.int .u8 2,.bool false,.aa1,.aa1,.int .i64 0]] (.tuple [wkM.mv,wkM.v,.ab8 (au3 (ev5 wkR wkI)::.int .i64 wkP.inst::wkQ.cs),.bool true,.bool false]):=is3 (args':=[av8 wkR,au3 wkI,.agg wkQ.cs]) (by kernel_rfl) hm
 generalize wkM.mv=MV at *;generalize wkM.v=AV at *;generalize hTV:(IV.ab8 (au3 (ev5 wkR wkI)::.int .i64 wkP.inst::wkQ.cs))=TV at *;refine ad9 hE fok5 (nZ rfl) (fun a h=>by cases h) ?_;simp only[ic5,go_sem];refine aa2 fok23 (nA) ?_;simp only[go_sem];refine aa2 fok23 (nB) ?_;simp only[go_sem];refine aa2 fok24 (aT) ?_;simp only[go_sem];refine aa2 fok6 (hm2) ?_;simp only[go_sem]
 first|refine aa2 fok7 (hI) ?_|refine aa8 (hI) ?_
 simp only[go_sem]
 first|refine aa2 fok9 (hS) ?_|refine aa8 (hS) ?_
 simp only[go_sem]
 first|refine aa2 fok17 (h1) ?_|refine aa8 (h1) ?_
 simp only[go_sem]
 first|refine aa2 fok17 (h2) ?_|refine aa8 (h2) ?_
 simp only[go_sem]
 first|refine aa2 fok12 (g1) ?_|refine aa8 (g1) ?_
 simp only[go_sem]
 first|refine aa2 fok12 (g3) ?_|refine aa8 (g3) ?_
 simp only[go_sem];exact aa9 rfl
end Go.Id.Tryz
namespace Go.Id.Tryz
open Go Go.Id Go.Proofs Go.Shelf Go.Id.Md
abbrev GI (s:Store)(v:IV)(xs:List Itm):Prop:=Grow s v 3 (xs.map Itm.cs)
theorem gq7 (xs:List Itm):∀ e∈xs.map Itm.cs,e.length=3/\e.all IV.leaf=true:=fun e he=>by
 obtain ⟨x,_,rfl⟩:=zw.1 he; exact ⟨rfl,rfl⟩
theorem il6 {t:Store}{gv:IV}{l:List Itm}(hg:GI t gv l):bw7 t 0 gv (aj8 l):=
 hg.frz (fun x hx=>(gq7 _ x hx).1) (fun _ _=>zf _) fun e he c hc=>by
  obtain ⟨n,_,rfl⟩:=zw.1 he;exact cy3 n c hc
theorem bs1 {t:Store}{gv:IV}(xs:List Itm)(x:Itm)(k m:Nat)(hg:GI t gv xs)(hl:xs.length<2^30)(hk:k<m) :
  ∃ v' σ',ba5 ⟨t.next+m,t.obj⟩ (t.next+k) 3 gv (.aa4 [x.cs])=zg (v',σ')/\σ'.next=t.next+m/\GI σ' v' (xs++[x])/\v'.leaf=true/\v'.cs=[v']/\∀ i cs,i<t.next->t.obj i=zg (.cells cs)->σ'.obj i=zg (.cells cs):=by
 have hg2:Grow ⟨t.next+m,t.obj⟩ gv 3 (xs.map Itm.cs):=hg.mono (z3 _ _) fun _ _ _=>rfl
 have hap:=al6 (nid:=t.next+k) (e:=x.cs) hg2 (gq7 xs) ⟨rfl,rfl⟩ (by rw[za]; omega);have kn:(aj5 gv (⟨t.next+m,t.obj⟩:Store)).next=t.next+m:=ae7 gv;refine ⟨_,_,hap,by rw[ab7,kn],?_,rfl,rfl,fun i cs hi ho=>?_⟩
 ·show Grow _ _ 3 ((xs++[x]).map Itm.cs);rw[z7];exact .inr ⟨t.next+k,by rw[zn]; rfl,by simp only[aa5,if_true]; rfl,by rw[ab7,kn]; show t.next+k<t.next+m; omega⟩
 ·rw[aa5,if_neg om];exact ag3 hg2 i _ ho fun _ e=>by cases e
theorem cr1 (a:ab4)(hA:AOK a)(hI:0<=a.p.inst)(hIt:a.items.length<2^30):PC Tryz.prog EE 10 [a.dv] (aj8 a.items):=by
 refine gl8 hE fok10 (nZ rfl) (ah9 (ar4 a)) ?_;have hlen:=hA.len;have hjl:=hA.ag6;have hil:=hA.inst;simp only[ic10,go_sem];refine ac3 (ae2 ?_);simp only[go_sem];refine ac3 (ae2 ?_);simp only[go_sem];have x1:∀ (p k:Int) (q:Int),(⟨k,p,q⟩:Itm).cs=[.int .u8 k,.int .i64 p,.int .i64 q]:=fun _ _ _=>rfl
 -- what each package has of its own
 refine ac3 (ac3 (ae2 ?_));simp only[go_sem]
 refine al1 (ao1 (Q:=fun e f s=>e=.exit 0/\∃ gv rst,f=(0,a.dv)::(3,gv)::rst/\GI s gv (a.owns a.l.length))
  (ax7 (fun p fr s=>∃ gv,fr=[(0,a.dv),(3,gv),(4,.int .i64 (p:Int))]/\GI s gv (a.owns p)) a.l.length ⟨.aa1,rfl,.inl ⟨rfl,rfl⟩⟩ ?_) ?_)
 ·rintro p fr t hp ⟨gv,rfl,hg⟩;refine ac3 (ae2 ?_);by_cases hpl:p<a.l.length
  case neg=>
   have hp':p=a.l.length:=om
   subst hp';have c1:¬ (a.l.length:Int)<a.l.length:=om
   simp only[go_sem,ae3,as8,c1,ac4];exact ⟨gv,_,rfl,hg⟩
  have c1:(p:Int)<a.l.length:=om
  have c2:(0:Int)<=(p:Int):=om
  have w1:=ac2 (i:=p) om;have gp:=ba7 a hpl;simp only[go_sem,ae3,as8,c1,ac4];refine ac3 (al1 (ac3 (ae2 ?_)));simp only[go_sem,as8,c1,c2,gp,ac4,ag5,ag9,ad6,ai8,ai1,ah1];generalize hT:Store.put _ t.next (al9.cells (a.pk p).cs)=T;have Tn:T.next=t.next+1:=by rw[<- hT]; rfl
  have To:∀ i,i<t.next->T.obj i=t.obj i:=fun i hi=>by
   have:¬ i=t.next:=om
   rw[<- hT]; simp only[aa5,this,if_false]
  have Tb:T.obj t.next=zg (.cells (a.pk p).cs):=by rw[<- hT]; simp only[aa5,if_true]
  have hgT:GI T gv (a.owns p):=hg.mono om fun i _ hi=>To i hi
  have hfit:=el5 a p;rw[<- ae3];refine ac3 (ao1 (Q:=fun e f s=>e=.normal/\∃ gv rst,f=(0,a.dv)::(3,gv)::(4,.int .i64 (p:Int))::(5,.ptr t.next 0)::rst/\t.next<s.next/\s.obj t.next=zg (.cells (a.pk p).cs)/\GI s gv (a.owns p++a.ay3 p)) (ae2 ?_) ?_)
  ·simp only[go_sem];refine aa2 fok34 (hfit) ?_
   cases hf:a.fits p with
   | true=>
    have e:a.ay3 p=[]:=by unfold ab4.ay3; rw[hf]; rfl
    simp only[go_sem]
    exact ⟨gv,_,rfl,om,Tb,by rw[e,ze]; exact hgT⟩
   | false=>
    have e:a.ay3 p=[⟨1,p,0⟩]:=by unfold ab4.ay3; rw[hf]; rfl
    obtain ⟨v',σ',h1,h2,h3,h4,h5,h6⟩:=bs1 (a.owns p) ⟨1,p,0⟩ 0 1 hgT (by have:=a.fd6 hpl; omega) om;have h1':ba5 ({ next:=T.next+1,obj:=T.obj }:Store) T.next 3 gv (.aa4 [[.int .u8 1,.int .i64 (p:Int),.int .i64 0]])=zg (v',σ'):=h1;simp only[go_sem,h1',h4,h5];exact ⟨v',_,rfl,om,h6 _ _ om Tb,by rw[e]; exact h3⟩
  clear hgT hT Tn To Tb T hg;rintro e f T ⟨rfl,gv,rst,rfl,Tn,Tb,hg⟩;simp only[go_sem];have g7:((a.pk p).cs.drop 7).head? = zg (ai9 (a.pk p).requires):=rfl;have g8:((a.pk p).cs.drop 8).head? = zg (ai9 (a.pk p).conflicts):=rfl;have g9:((a.pk p).cs.drop 9).head? = zg (deps (a.pk p).aa7):=rfl;refine ac3 (ac3 (ae2 ?_));simp only[go_sem]
  refine al1 (ao1 (Q:=fun e f s=>e=.exit 2/\∃ gv rst,f=(0,a.dv)::(3,gv)::(4,.int .i64 (p:Int))::(5,.ptr t.next 0)::rst/\t.next<s.next/\s.obj t.next=zg (.cells (a.pk p).cs)/\GI s gv (a.owns p++a.ay3 p++a.ch3 p 1))
   (ax7 (fun q fr s=>∃ gv,fr=[(0,a.dv),(3,gv),(4,.int .i64 (p:Int)),(5,.ptr t.next 0),(6,.int .i64 (q:Int))]/\t.next<s.next/\s.obj t.next=zg (.cells (a.pk p).cs)/\GI s gv (a.owns p++a.ay3 p++a.ch3 p 0++bd3 ((2+0:Nat):Int) p q)) (a.nsI p 0) ⟨gv,rfl,Tn,Tb,by simpa [bd3,ab4.ch3] using hg⟩ ?_) ?_)
  ·clear hg Tb Tn;rintro q fr u hq ⟨gv,rfl,un,ub,hg⟩;refine ae2 ?_;have hns:a.nsI p 0=(a.pk p).requires.length:=rfl;by_cases hlt:q<a.nsI p 0
   ·have d1:(q:Int)<(a.pk p).requires.length:=om
    have hb:=a.br3 hpl (j:=0) om (qg hlt);have w2:=ac2 (i:=q) (by have:=a.br3 hpl (j:=0) om (zc (a.nsI p 0)); rw[zn,ab4.bh8] at this; omega);obtain ⟨v',σ',h1,h2,h3,h4,h5,h6⟩:=bs1 _ ⟨2,p,q⟩ 0 1 hg om om;have h1':ba5 ({ next:=u.next+1,obj:=u.obj }:Store) u.next 3 gv (.aa4 [[.int .u8 2,.int .i64 (p:Int),.int .i64 (q:Int)]])=zg (v',σ'):=h1;simp only[go_sem,ub,g7,d1,h1',h4,h5,w2];exact ⟨hlt,v',rfl,om,h6 _ _ un ub,by rw[bw9,<- zh]; exact h3⟩
   ·have hq':q=a.nsI p 0:=om
    subst hq';have d1:¬ (((a.pk p).requires.length:Nat):Int)<(a.pk p).requires.length:=om
    simp only[go_sem,ub,g7,hns,d1];refine ⟨gv,_,rfl,un,?_⟩;rw[a.ap6,<- zh];exact hg
  clear hg Tb Tn rst gv T;rintro e f T ⟨rfl,gv,rst,rfl,Tn,Tb,hg⟩;simp only[go_sem];refine ac3 (ac3 (ae2 ?_));simp only[go_sem]
  refine al1 (ao1 (Q:=fun e f s=>e=.exit 4/\∃ gv rst,f=(0,a.dv)::(3,gv)::(4,.int .i64 (p:Int))::(5,.ptr t.next 0)::rst/\t.next<s.next/\s.obj t.next=zg (.cells (a.pk p).cs)/\GI s gv (a.owns p++a.ay3 p++a.ch3 p 2))
   (ax7 (fun q fr s=>∃ gv,fr=[(0,a.dv),(3,gv),(4,.int .i64 (p:Int)),(5,.ptr t.next 0),(7,.int .i64 (q:Int))]/\t.next<s.next/\s.obj t.next=zg (.cells (a.pk p).cs)/\GI s gv (a.owns p++a.ay3 p++a.ch3 p 1++bd3 ((2+1:Nat):Int) p q)) (a.nsI p 1) ⟨gv,rfl,Tn,Tb,by simpa [bd3,ab4.ch3] using hg⟩ ?_) ?_)
  ·clear hg Tb Tn;rintro q fr u hq ⟨gv,rfl,un,ub,hg⟩;refine ae2 ?_;have hns:a.nsI p 1=(a.pk p).conflicts.length:=rfl;by_cases hlt:q<a.nsI p 1
   ·have d1:(q:Int)<(a.pk p).conflicts.length:=om
    have hb:=a.br3 hpl (j:=1) om (qg hlt);have w2:=ac2 (i:=q) (by have:=a.br3 hpl (j:=1) om (zc (a.nsI p 1)); rw[zn,ab4.bh8] at this; omega);obtain ⟨v',σ',h1,h2,h3,h4,h5,h6⟩:=bs1 _ ⟨3,p,q⟩ 0 1 hg om om;have h1':ba5 ({ next:=u.next+1,obj:=u.obj }:Store) u.next 3 gv (.aa4 [[.int .u8 3,.int .i64 (p:Int),.int .i64 (q:Int)]])=zg (v',σ'):=h1;simp only[go_sem,ub,g8,d1,h1',h4,h5,w2];exact ⟨hlt,v',rfl,om,h6 _ _ un ub,by rw[bw9,<- zh]; exact h3⟩
   ·have hq':q=a.nsI p 1:=om
    subst hq';have d1:¬ (((a.pk p).conflicts.length:Nat):Int)<(a.pk p).conflicts.length:=om
    simp only[go_sem,ub,g8,hns,d1];refine ⟨gv,_,rfl,un,?_⟩;rw[a.ap6,<- zh];exact hg
  clear hg Tb Tn rst gv T;rintro e f T ⟨rfl,gv,rst,rfl,Tn,Tb,hg⟩;simp only[go_sem];refine ac3 (ae2 ?_);simp only[go_sem]
  refine al1 (ao1 (Q:=fun e f s=>e=.exit 6/\∃ gv rst,f=(0,a.dv)::(3,gv)::(4,.int .i64 (p:Int))::(5,.ptr t.next 0)::rst/\t.next<s.next/\s.obj t.next=zg (.cells (a.pk p).cs)/\GI s gv (a.owns p++a.ay3 p++a.ch3 p 3))
   (ax7 (fun q fr s=>∃ gv,fr=[(0,a.dv),(3,gv),(4,.int .i64 (p:Int)),(5,.ptr t.next 0),(8,.int .i64 (q:Int))]/\t.next<s.next/\s.obj t.next=zg (.cells (a.pk p).cs)/\GI s gv (a.owns p++a.ay3 p++a.ch3 p 2++bd3 ((2+2:Nat):Int) p q)) (a.nsI p 2) ⟨gv,rfl,Tn,Tb,by simpa [bd3,ab4.ch3] using hg⟩ ?_) ?_)
  ·clear hg Tb Tn;rintro q fr u hq ⟨gv,rfl,un,ub,hg⟩;refine ae2 ?_;have hns:a.nsI p 2=(a.pk p).aa7.length:=rfl;by_cases hlt:q<a.nsI p 2
   ·have d1:(q:Int)<(a.pk p).aa7.length:=om
    have hb:=a.br3 hpl (j:=2) om (qg hlt);have w2:=ac2 (i:=q) (by have:=a.br3 hpl (j:=2) om (zc (a.nsI p 2)); rw[zn,ab4.bh8] at this; omega);obtain ⟨v',σ',h1,h2,h3,h4,h5,h6⟩:=bs1 _ ⟨4,p,q⟩ 0 1 hg om om;have h1':ba5 ({ next:=u.next+1,obj:=u.obj }:Store) u.next 3 gv (.aa4 [[.int .u8 4,.int .i64 (p:Int),.int .i64 (q:Int)]])=zg (v',σ'):=h1;simp only[go_sem,ub,g9,d1,h1',h4,h5,w2];exact ⟨hlt,v',rfl,om,h6 _ _ un ub,by rw[bw9,<- zh]; exact h3⟩
   ·have hq':q=a.nsI p 2:=om
    subst hq';have d1:¬ (((a.pk p).aa7.length:Nat):Int)<(a.pk p).aa7.length:=om
    simp only[go_sem,ub,g9,hns,d1];refine ⟨gv,_,rfl,un,?_⟩;rw[a.ap6,<- zh];exact hg
  clear hg Tb Tn rst gv T;rintro e f T ⟨rfl,gv,rst,rfl,Tn,Tb,hg⟩;simp only[go_sem];refine ae2 ?_;simp only[go_sem,w1];refine ⟨om,gv,rfl,?_⟩;rw[a.cd7,a.gn7,<- zh];exact hg
 rintro e f T ⟨rfl,gv,rst,rfl,hg⟩;simp only[go_sem]
 -- twins
 refine ac3 (ac3 (ae2 ?_));simp only[go_sem]
 refine al1 (ao1 (Q:=fun e f s=>e=.exit 8/\∃ gv rst,f=(0,a.dv)::(3,gv)::rst/\GI s gv (a.owns a.l.length++a.an7 a.l.length))
  (ax7 (fun p fr s=>∃ gv,fr=[(0,a.dv),(3,gv),(9,.int .i64 (p:Int))]/\GI s gv (a.owns a.l.length++a.an7 p)) a.l.length ⟨gv,rfl,by simpa [ab4.an7] using hg⟩ ?_) ?_)
 ·clear hg gv T;rintro p fr t hp ⟨gv,rfl,hg⟩;refine ac3 (ae2 ?_);by_cases hpl:p<a.l.length
  case neg=>
   have hp':p=a.l.length:=om
   subst hp';have c1:¬ (a.l.length:Int)<a.l.length:=om
   simp only[go_sem,ae3,as8,c1,ac4];exact ⟨gv,_,rfl,hg⟩
  have c1:(p:Int)<a.l.length:=om
  have w1:=ac2 (i:=p) om;simp only[go_sem,ae3,as8,c1,ac4];rw[<- ae3];refine ac3 (al1 (ac3 (ae2 ?_)));simp only[go_sem,w1]
  refine al1 (ao1 (Q:=fun e f s=>e=.exit 10/\∃ gv rst,f=(0,a.dv)::(3,gv)::(9,.int .i64 (p:Int))::rst/\GI s gv (a.owns a.l.length++a.an7 (p+1)))
   (ax7 (fun i fr s=>∃ gv,fr=[(0,a.dv),(3,gv),(9,.int .i64 (p:Int)),(10,.int .i64 ((p+1+i:Nat):Int))]/\GI s gv (a.owns a.l.length++a.an7 p++a.ca3 p (p+1+i))) (a.l.length-(p+1)) ⟨gv,rfl,by rw[qh,a.dc5,ze]; exact hg⟩ ?_) ?_)
  ·clear hg gv t;rintro i fr u hi ⟨gv,rfl,hg⟩;refine ae2 ?_;by_cases hlt:i<a.l.length-(p+1)
   ·have d1:((p+1+i:Nat):Int)<a.l.length:=om
    have w2:=ac2 (i:=p+1+i) om;have hb:=a.dx9 hpl (k:=p+1+i) om;have ht:=fz7 a hA p ((p+1+i:Nat):Int)
    have hsn:a.ca3 p (p+1+i+1)=a.ca3 p (p+1+i)++if a.twins p ((p+1+i:Nat):Int)=true then [⟨5,p,((p+1+i:Nat):Int)⟩] else []:=by
     unfold ab4.ca3;rw[az6];simp only[show p<p+1+i by omega,decide_true,z1]
    simp only[go_sem,ae3,as8,d1,ac4];rw[<- ae3];refine aa2 fok35 (ht) ?_
    cases hb2:a.twins p ((p+1+i:Nat):Int) with
    | false=>
     rw[hb2,if_neg (by decide),ze] at hsn;simp only[go_sem,w2]
     exact ⟨hlt,gv,rfl,by rw[show p+1+(i+1)=p+1+i+1 from rfl,hsn]; exact hg⟩
    | true=>
     rw[hb2,if_pos rfl] at hsn;have hlast:=a.dx9 hpl (k:=p+1+i+1) om;obtain ⟨v',σ',h1,h2,h3,h4,h5,h6⟩:=bs1 _ ⟨5,p,((p+1+i:Nat):Int)⟩ 0 1 hg om om;have h1':ba5 ({ next:=u.next+1,obj:=u.obj }:Store) u.next 3 gv (.aa4 [[.int .u8 5,.int .i64 (p:Int),.int .i64 ((p+1+i:Nat):Int)]])=zg (v',σ'):=h1;simp only[go_sem,h1',h4,h5,w2];exact ⟨hlt,v',rfl,by rw[show p+1+(i+1)=p+1+i+1 from rfl,hsn,<- zh]; exact h3⟩
   ·have hi':p+1+i=a.l.length:=om
    have d1:¬ ((p+1+i:Nat):Int)<a.l.length:=om
    simp only[go_sem,ae3,as8,d1,ac4];rw[<- ae3];refine ⟨gv,_,rfl,?_⟩;rw[a.bn4,<- zh];rw[hi'] at hg;exact hg
  clear hg gv t;rintro e f t ⟨rfl,gv,rst,rfl,hg⟩;simp only[go_sem];refine ae2 ?_;simp only[go_sem,w1];exact ⟨om,gv,rfl,hg⟩
 clear hg gv T;rintro e f T ⟨rfl,gv,rst,rfl,hg⟩;simp only[go_sem];refine ac3 (ac3 (ae2 ?_));simp only[go_sem]
 refine al1 (ao1 (Q:=fun e f s=>e=.exit 12/\∃ gv rst,f=(0,a.dv)::(3,gv)::rst/\GI s gv (a.owns a.l.length++a.an7 a.l.length++a.be9 a.p.inst.toNat))
  (ax7 (fun p fr s=>∃ gv,fr=[(0,a.dv),(3,gv),(11,.int .i64 (p:Int))]/\GI s gv (a.owns a.l.length++a.an7 a.l.length++a.be9 p)) a.p.inst.toNat ⟨gv,rfl,by rw[show a.be9 0=[] from rfl,ze]; exact hg⟩ ?_) ?_)
 ·clear hg gv T;rintro p fr u hp ⟨gv,rfl,hg⟩;refine ae2 ?_;by_cases hlt:p<a.p.inst.toNat
  ·have d1:(p:Int)<a.p.inst:=om
   have w2:=ac2 (i:=p) om;have hb:=a.fd7 (k:=p) om;have ht:=gt4 a hA p
   have hsn:a.be9 (p+1)=a.be9 p++if (!a.goes p)=true then [⟨6,p,0⟩] else []:=by
    unfold ab4.be9;rw[az6]
   simp only[go_sem,ae3,cw6,d1,ac4];rw[<- ae3];refine aa2 fok36 (ht) ?_
   cases hb2:a.goes p with
   | true=>
    rw[hb2,if_neg (by decide),ze] at hsn;simp only[go_sem,w2]
    exact ⟨hlt,gv,rfl,by rw[hsn]; exact hg⟩
   | false=>
    rw[hb2,if_pos (by decide)] at hsn;obtain ⟨v',σ',h1,h2,h3,h4,h5,h6⟩:=bs1 _ ⟨6,p,0⟩ 0 1 hg om om;have h1':ba5 ({ next:=u.next+1,obj:=u.obj }:Store) u.next 3 gv (.aa4 [[.int .u8 6,.int .i64 (p:Int),.int .i64 0]])=zg (v',σ'):=h1;simp only[go_sem,h1',h4,h5,w2];exact ⟨hlt,v',rfl,by rw[hsn,<- zh]; exact h3⟩
  ·have hp':p=a.p.inst.toNat:=om
   have d1:¬ (p:Int)<a.p.inst:=om
   simp only[go_sem,ae3,cw6,d1,ac4];rw[<- ae3];subst hp';exact ⟨gv,_,rfl,hg⟩
 clear hg gv T;rintro e f T ⟨rfl,gv,rst,rfl,hg⟩;simp only[go_sem];refine ac3 (ac3 (ae2 ?_));simp only[go_sem]
 refine al1 (ao1 (Q:=fun e f s=>e=.exit 14/\∃ gv rst,f=(0,a.dv)::(3,gv)::rst/\GI s gv (a.owns a.l.length++a.an7 a.l.length++a.be9 a.p.inst.toNat++a.ee4 a.r.ag6.length))
  (ax7 (fun p fr s=>∃ gv,fr=[(0,a.dv),(3,gv),(12,.int .i64 (p:Int))]/\GI s gv (a.owns a.l.length++a.an7 a.l.length++a.be9 a.p.inst.toNat++a.ee4 p)) a.r.ag6.length ⟨gv,rfl,by rw[show a.ee4 0=[] from rfl,ze]; exact hg⟩ ?_) ?_)
 ·clear hg gv T;rintro p fr u hp ⟨gv,rfl,hg⟩;refine ae2 ?_;by_cases hlt:p<a.r.ag6.length
  ·have d1:(p:Int)<a.r.ag6.length:=om
   have w2:=ac2 (i:=p) om;have hb:=a.gn8 (k:=p) om;have ht:=ct7 a hA p
   have hsn:a.ee4 (p+1)=a.ee4 p++if (!a.dropped p)=true then [⟨7,p,0⟩] else []:=by
    unfold ab4.ee4;rw[az6]
   simp only[go_sem,ae3,cf5,al8,d1,ac4];rw[<- ae3];refine aa2 fok37 (ht) ?_
   cases hb2:a.dropped p with
   | true=>
    rw[hb2,if_neg (by decide),ze] at hsn;simp only[go_sem,w2]
    exact ⟨hlt,gv,rfl,by rw[hsn]; exact hg⟩
   | false=>
    rw[hb2,if_pos (by decide)] at hsn;obtain ⟨v',σ',h1,h2,h3,h4,h5,h6⟩:=bs1 _ ⟨7,p,0⟩ 0 1 hg om om;have h1':ba5 ({ next:=u.next+1,obj:=u.obj }:Store) u.next 3 gv (.aa4 [[.int .u8 7,.int .i64 (p:Int),.int .i64 0]])=zg (v',σ'):=h1;simp only[go_sem,h1',h4,h5,w2];exact ⟨hlt,v',rfl,by rw[hsn,<- zh]; exact h3⟩
  ·have hp':p=a.r.ag6.length:=om
   have d1:¬ (p:Int)<a.r.ag6.length:=om
   simp only[go_sem,ae3,cf5,al8,d1,ac4];rw[<- ae3];subst hp';exact ⟨gv,_,rfl,hg⟩
 clear hg gv T;rintro e f T ⟨rfl,gv,rst,rfl,hg⟩;simp only[go_sem];refine ae2 ?_;simp only[go_sem];exact il6 (l:=a.items) hg
end Go.Id.Tryz
namespace Go.Id.Tryz
open Go Go.Id Go.Proofs Go.Shelf Go.Id.Md
open Go.Id.Md.ab4 (inS less)
theorem ea3 (l:List Int)(n:Int)(hl:l.length<2^62):PC Tryz.prog EE 47 [.aa4 (l.map Md.ae1),.int .i64 n] (.bool (decide (n∈l))):=by
 refine ad9 hE fok47 (nZ rfl) (ag4 (ad3 l) (.int _ _)) ?_;simp only[ic47,go_sem];refine ab2 noT (fun i fr s=>fr=[(0,.aa4 (l.map Md.ae1)),(1,.int .i64 n),(5,.int .i64 (i:Int))]/\n ∉ l.take i) l.length ⟨rfl,by simp⟩ ?_;rintro i fr s hi ⟨rfl,hn⟩;by_cases hlt:i<l.length
 ·have d1:(i:Int)<l.length:=om
  have d2:(0:Int)<=(i:Int):=om
  have w1:=ac2 (i:=i) om;have g:(l.map Md.ae1).getD i []=[.int .i64 l[i]]:=by simp[zb,hlt,Md.ae1]
  by_cases he:l[i]=n
  ·have hin:n∈l:=he▸qb hlt;simp only[go_sem,d1,d2,g,he];exact aa9 (decide_eq_true hin).symm
  ·simp only[go_sem,d1,d2,g,he,w1];refine ⟨hlt,?_⟩;rw[zl,zi hlt];simp only[Option.toList_some,List.mem_append,zj];rintro (h|h)
   ·exact hn h
   ·exact he h.symm
 ·have d1:¬ (i:Int)<l.length:=om
  rw[zd om] at hn;simp only[go_sem,d1];exact aa9 (decide_eq_false hn).symm
theorem bf6 (x:Itm):x.cs.head? = zg (.int .u8 x.kind):=rfl
theorem bf7 (x:Itm):(x.cs.drop 1).head? = zg (.int .i64 x.p):=rfl
theorem bf8 (x:Itm):(x.cs.drop 2).head? = zg (.int .i64 x.q):=rfl
theorem gq8 (a:ab4)(hA:AOK a)(hI:0<=a.p.inst)(hIt:a.items.length<2^30)(x:Itm):PC Tryz.prog EE 19 [a.dv,.agg x.cs] (.bool (a.isI x)):=by
 refine ad9 hE fok19 (nZ rfl) (ag4 (ar4 a) (av6 x)) ?_;have hL:=cr1 a hA hI hIt;unfold ab4.isI;generalize a.items=l at *;simp only[ic19,go_sem,ay6,an5,ae4,ad2,ad1];refine aa2 fok10 (hL) ?_;simp only[go_sem];refine ab2 noT (fun i fr s=>fr=[(3,.ab8 x.cs),(5,aj8 l),(6,.int .i64 (i:Int))]/\x ∉ l.take i) l.length ⟨rfl,by simp⟩ ?_;rintro i fr s hi ⟨rfl,hn⟩;by_cases hlt:i<l.length
 ·obtain ⟨z,hz,_,hdr,hget,htk⟩:=ac7 l i hlt;have d1:(i:Int)<l.length:=om
  have d2:(0:Int)<=(i:Int):=om
  have w1:=ac2 (i:=i) om;have g:=hget Itm.cs;by_cases he:z=x
  ·subst he;simp only[go_sem,d1,d2,g,ae4,ad2,ad1,fd4];exact aa9 (decide_eq_true hz).symm
  ·simp only[go_sem,d1,d2,g,ae4,ad2,ad1,fd4,he,w1];refine ⟨hlt,?_⟩;rw[htk,List.mem_append,not_or];exact ⟨hn,fun h=>he (zj.1 h).symm⟩
 ·have d1:¬ (i:Int)<l.length:=om
  rw[zd om] at hn;simp only[go_sem,d1];exact aa9 (decide_eq_false hn).symm
theorem cr2 (a:ab4)(hA:AOK a)(hI:0<=a.p.inst)(st:List Int)(hs:st.length<2^30)(x:Itm)(hx:a.Has x):PC Tryz.prog EE 18 [a.dv,.aa4 (st.map Md.ae1),.agg x.cs] (.bool (a.keeps st x)):=by
 refine ad9 hE fok18 (nZ rfl) (as5 (ar4 a) (ad3 st) (av6 x)) ?_;have hlen:=hA.len;have hin:=ea3 st x.p om;have hdi:decide (x.p∈st)=inS st x.p:=rfl;rw[hdi] at hin;have hpl:IV.ab8 [au3 a.l,.int .i64 a.p.inst,.aa1,.aa1]=dr7 a.l a.p.inst:=rfl;have dl:(.ab8 a.dcs:IV)=a.dv:=rfl;simp only[ic18,go_sem,ae3,as8,cw6,ac4,ae4,ad2,ad1,bf6,bf7,bf8];refine aa2 fok47 (hin) ?_
 cases hx with
 | ap9 p hp h=>
  have hk:a.keeps st ⟨1,p,0⟩=!inS st p:=by unfold ab4.keeps; simp
  rw[hk];simp only[go_sem,zr,bf6,bf7,bf8]
  exact aa9 rfl
 | need p q hp hq=>
  have hf:=(hA.fit _ (ct4 a hp)).rich (1,(a.pk p).requires) (by simp[aa3.rows]);obtain ⟨f1,f2⟩:((a.pk p).requires.getD q default).fit/\((a.pk p).requires.getD q default).count<2^31:=hf.2 _ (getD_in _ hq);have hsat:=by8 a.l a.p.inst om hA.small st om _ f1 f2 (by have:=cy7 ((a.pk p).requires.getD q default); omega)
  have e1:=ba7 a hp;have e2:=dy9 (a.pk p).requires hq;have e3:((a.pk p).cs.drop 7).head? = zg (ai9 (a.pk p).requires):=rfl
  have hk:a.keeps st ⟨2,p,q⟩=(!inS st p||gc9 a.l st ((a.pk p).requires.getD q default)):=by
   unfold ab4.keeps ab4.it7;simp
  rw[hk];have d1:(0:Int)<=(p:Int):=om
  have d2:(p:Int)<a.l.length:=om
  have d3:(0:Int)<=(q:Int):=om
  have d4:(q:Int)<(a.pk p).requires.length:=om
  generalize (a.pk p).requires.getD q default=r at *
  cases inS st p with
  | false=>simp only[go_sem,zr,bf6,bf7,bf8]; exact aa9 rfl
  | true=>
   simp only[go_sem,zr,bf6,bf7,bf8,as8,d1,d2,d3,d4,e1,e2,e3,ag5,ai8,ab5,ac8,ab6,ac4,hpl,bf5,an2]
   first|refine aa2 fok48 (hsat) ?_|refine aa8 (hsat) ?_
   simp only[go_sem]
   exact aa9 rfl
 | clash p q hp hq=>
  have hf:=(hA.fit _ (ct4 a hp)).rich (2,(a.pk p).conflicts) (by simp[aa3.rows]);obtain ⟨f1,f2⟩:((a.pk p).conflicts.getD q default).fit/\((a.pk p).conflicts.getD q default).count<2^31:=hf.2 _ (getD_in _ hq);have hsat:=ek5 a.l a.p.inst om hA.small st hs p _ f1 f2 (by have:=cy7 ((a.pk p).conflicts.getD q default); omega);have e1:=ba7 a hp;have e2:=dy9 (a.pk p).conflicts hq;have e3:((a.pk p).cs.drop 8).head? = zg (ai9 (a.pk p).conflicts):=rfl
  have hk:a.keeps st ⟨3,p,q⟩=(!inS st p || !gc9 a.l (less st p) ((a.pk p).conflicts.getD q default)):=by
   unfold ab4.keeps ab4.go2;simp
  rw[hk];have d1:(0:Int)<=(p:Int):=om
  have d2:(p:Int)<a.l.length:=om
  have d3:(0:Int)<=(q:Int):=om
  have d4:(q:Int)<(a.pk p).conflicts.length:=om
  generalize (a.pk p).conflicts.getD q default=r at *
  cases inS st p with
  | false=>simp only[go_sem,zr,bf6,bf7,bf8]; exact aa9 rfl
  | true=>
   simp only[go_sem,zr,bf6,bf7,bf8,as8,d1,d2,d3,d4,e1,e2,e3,ag5,ai8,ab5,ac8,ab6,ac4,hpl,bf5,an2];refine aa2 fok49 (hsat) ?_;simp only[go_sem]
   exact aa9 (by simp)
 | over p q hp hq=>
  have hsm:=hA.small _ (ct4 a hp);have hds:Dep.small ((a.pk p).aa7.getD q default):=hsm.2.2.1 _ (getD_in _ hq);have e1:=ba7 a hp;have e2:=il1 (a.pk p).aa7 hq;have e3:((a.pk p).cs.drop 9).head? = zg (deps (a.pk p).aa7):=rfl;have d1:(0:Int)<=(p:Int):=om
  have d2:(p:Int)<a.l.length:=om
  have d3:(0:Int)<=(q:Int):=om
  have d4:(q:Int)<(a.pk p).aa7.length:=om
  have hk:a.keeps st ⟨4,p,q⟩=!(ql a.l.length).any fun n:Nat=>inS st p&&(!decide ((n:Int)=p)&&(inS st n&&named (a.pk n) ((a.pk p).aa7.getD q default))):=by
   have e:a.keeps st ⟨4,p,q⟩=(!inS st p || !((am3 a.l ((a.pk p).aa7.getD q default)).any fun n=>!decide (n=(p:Int))&&inS st n)):=by
    unfold ab4.keeps ab4.it8;simp
   rw[e]
   cases inS st p with
   | false=>simp
   | true=>
    rw[Bool.not_true,zy];congr 1;rw[Bool.eq_iff_iff,qc,qc];constructor
    ·rintro ⟨n,hn,h⟩;obtain ⟨m,rfl,h1,h2⟩:=ao3.1 hn;rw[z0] at h;exact ⟨m,qd.2 h1,by rw[h.1,h.2,show named (a.pk m) ((a.pk p).aa7.getD q default)=true from h2]; rfl⟩
    ·rintro ⟨m,hm,h⟩;simp only[z1,z0] at h;exact ⟨m,ao3.2 ⟨m,rfl,qd.1 hm,h.2.2⟩,by rw[h.1,h.2.1]; rfl⟩
  rw[hk];generalize (a.pk p).aa7.getD q default=d at *;simp only[go_sem,zr,bf6,bf7,bf8];obtain ⟨f,hf⟩:∃ f:Nat->Bool,f=fun n:Nat=>inS st p&&(!decide ((n:Int)=p)&&(inS st n&&named (a.pk n) d)):=⟨_,rfl⟩
  rw[<- hf];obtain ⟨G,hG⟩:∃ G:Nat->Bool,G=fun n=>(ql n).any f:=⟨_,rfl⟩
  have hsn:∀ n,G (n+1)=(G n||f n):=fun n=>by rw[hG]; simp only[List.range_succ,List.any_append]; simp
  have hyes:∀ n,n<a.l.length->f n=true->G a.l.length=true:=fun n hn h=>by rw[hG]; exact qc.2 ⟨n,qd.2 hn,h⟩
  have hB:(ql a.l.length).any f=G a.l.length:=by rw[hG]
  have hG0:G 0=false:=by rw[hG]; rfl
  rw[hB];clear hB hG hk;refine ab2 noT (fun n fr s=>fr=[(0,.ab8 a.dcs),(1,.aa4 (st.map Md.ae1)),(5,.ab8 [.int .u8 4,.int .i64 (p:Int),.int .i64 (q:Int)]),(8,.bool (inS st p)),(9,.int .i64 (n:Int))]/\G n=false) a.l.length ⟨rfl,hG0⟩ ?_;rintro n fr s hn ⟨rfl,ha⟩;by_cases hlt:n<a.l.length
  ·have c1:(n:Int)<a.l.length:=om
   have c2:(0:Int)<=(n:Int):=om
   have w1:=ac2 (i:=n) om;have gn:=ba7 a hlt;have hN:=bl7 (a.pk n) d (hA.small _ (ct4 a hlt)) hds;have hH:=ea3 st n om;have hdn:decide ((n:Int)∈st)=inS st n:=rfl;rw[hdn] at hH;have hst:G (n+1)=f n:=by rw[hsn,ha,zy]
   have hfn:f n=(inS st p&&(!decide ((n:Int)=p)&&(inS st n&&named (a.pk n) d))):=by rw[hf]
   cases hb:inS st p with
   | false=>
    rw[hb,z8] at hfn;simp only[go_sem,as8,c1,ac4,w1]
    exact ⟨hlt,by rw[hst,hfn]⟩
   | true=>
    rw[hb,z1] at hfn;by_cases hne:(n:Int)=p
    ·rw[decide_eq_true hne] at hfn;have hne':((n:Int)=p)=True:=eq_true hne;simp only[go_sem,as8,c1,ac4,hne',w1];exact ⟨hlt,by rw[hst,hfn]; rfl⟩
    ·rw[decide_eq_false hne,Bool.not_false,z1] at hfn;simp only[go_sem,as8,c1,ac4,hne];refine aa2 fok47 (hH) ?_
     cases hb2:inS st n with
     | false=>
      rw[hb2,z8] at hfn;simp only[go_sem,w1]
      exact ⟨hlt,by rw[hst,hfn]⟩
     | true=>
      rw[hb2,z1] at hfn;simp only[go_sem,as8,c1,c2,d1,d2,d3,d4,gn,e1,e2,e3,ac4,ag5,ag9,ad6,ai8,ai1,ah1,ak2,ah7,ag7];refine aa2 fok50 (hN) ?_
      cases hb3:named (a.pk n) d with
      | true=>
       rw[hb3] at hfn;simp only[go_sem]
       exact aa9 (by rw[hyes n hlt hfn]; rfl)
      | false=>
       rw[hb3] at hfn;simp only[go_sem,w1];exact ⟨hlt,by rw[hst,hfn]⟩
  ·have hn':n=a.l.length:=om
   subst hn';have c1:¬ (a.l.length:Int)<a.l.length:=om
   simp only[go_sem,as8,c1,ac4]
   exact aa9 (by rw[ha]; rfl)
 | twin p q h1 h2 h3=>
  have hq:=ea3 st q om;have hdq:decide ((q:Int)∈st)=inS st q:=rfl;rw[hdq] at hq;have hk:a.keeps st ⟨5,p,q⟩=(!inS st p || !inS st q):=by unfold ab4.keeps; simp
  rw[hk]
  cases inS st p with
  | false=>simp only[go_sem,zr,bf6,bf7,bf8]; exact aa9 rfl
  | true=>
   simp only[go_sem,zr,bf6,bf7,bf8];refine aa2 fok47 (hq) ?_;simp only[go_sem]
   exact aa9 rfl
 | keep i hi h=>
  have hk:a.keeps st ⟨6,i,0⟩=ab4.some st (a.au9 i):=by unfold ab4.keeps; simp
  rw[hk];have hS:=bf9 a hA i;have hsl:=bx6 a hA i;have hH:=bd6 st (a.au9 i) om om;simp only[go_sem,zr,bf6,bf7,bf8,dl,ay6,an5];refine aa2 fok52 (hS) ?_;simp only[go_sem];refine aa2 fok51 (hH) ?_;simp only[go_sem]
  exact aa9 rfl
 | job j hj h=>
  have hk:a.keeps st ⟨7,j,0⟩=a.aw7 j st:=by unfold ab4.keeps; simp
  rw[hk];have hF:=el6 a hA hI j st om;simp only[go_sem,zr,bf6,bf7,bf8,dl,ay6,an5];refine aa2 fok53 (hF) ?_;simp only[go_sem];exact aa9 rfl
theorem ds5 (a:ab4)(hA:AOK a)(hI:0<=a.p.inst)(hIt:a.items.length<2^30)(st:List Int)(hs:st.length<2^30)(x:Itm):PC Tryz.prog EE 20 [a.dv,.aa4 (st.map Md.ae1),.agg x.cs] (.bool (a.holds st x)):=by
 refine ad9 hE fok20 (nZ rfl) (as5 (ar4 a) (ad3 st) (av6 x)) ?_;have h1:=gq8 a hA hI hIt x;unfold ab4.holds;simp only[ic20,go_sem,ay6,an5,ae4,ad2,ad1]
 first|refine aa2 fok19 (h1) ?_|refine aa8 (h1) ?_
 cases hb:a.isI x with
 | false=>simp only[go_sem]; exact aa9 rfl
 | true=>
  have h2:=cr2 a hA hI st hs x (a.dx7.1 (of_decide_eq_true hb));simp only[go_sem,ay6,an5,ae4,ad2,ad1]
  first|refine aa2 fok18 (h2) ?_|refine aa8 (h2) ?_
  simp only[go_sem];exact aa9 rfl
theorem gq9 (a:ab4)(hA:AOK a)(hI:0<=a.p.inst)(hIt:a.items.length<2^30)(st:List Int)(hs:st.length<2^30)(l:List Itm)(hl:l.length<2^40):PC Tryz.prog EE 15 [a.dv,.aa4 (st.map Md.ae1),aj8 l] (.bool (a.kept st l)):=by
 refine ad9 hE fok15 (nZ rfl) (as5 (ar4 a) (ad3 st) (as6 l)) ?_;unfold ab4.kept;simp only[ic15,go_sem];refine ab2 noT (fun i fr s=>fr=[(0,a.dv),(1,.aa4 (st.map Md.ae1)),(2,aj8 l),(7,.int .i64 (i:Int))]/\((l.drop i).any fun x=>!a.holds st x)=l.any fun x=>!a.holds st x) l.length ⟨rfl,rfl⟩ ?_;rintro i fr s hi ⟨rfl,ha⟩;by_cases hlt:i<l.length
 ·obtain ⟨z,hz,_,hdr,hget,htk⟩:=ac7 l i hlt;have d1:(i:Int)<l.length:=om
  have d2:(0:Int)<=(i:Int):=om
  have w1:=ac2 (i:=i) om;have g:=hget Itm.cs;have hH:=ds5 a hA hI hIt st hs z;rw[cy2 hdr] at ha;simp only[go_sem,d1,d2,g,ay6,an5,ae4,ad2,ad1]
  first|refine aa2 fok20 (hH) ?_|refine aa8 (hH) ?_
  cases hb:a.holds st z with
  | true=>
   rw[hb,Bool.not_true,zy] at ha;simp only[go_sem,w1]
   exact ⟨hlt,ha⟩
  | false=>
   rw[hb] at ha;simp only[go_sem];exact aa9 (by rw[<- ha]; rfl)
 ·have d1:¬ (i:Int)<l.length:=om
  have e:i=l.length:=om
  subst e;rw[zv] at ha;simp only[go_sem,d1];exact aa9 (by rw[<- ha]; rfl)
theorem de1 (a:ab4)(hA:AOK a)(hI:0<=a.p.inst)(hIt:a.items.length<2^30)(st:List Int)(hs:st.length<2^30):PC Tryz.prog EE 11 [a.dv,.aa4 (st.map Md.ae1)] (aj8 (a.broken st)):=by
 refine ad9 hE fok11 (nZ rfl) (ag4 (ar4 a) (ad3 st)) ?_;have hL:=cr1 a hA hI hIt;have hbr:a.broken st=a.items.filter fun x=>!a.keeps st x:=List.filter_congr fun x hx=>by rw[a.holds_of hx]
 rw[hbr];have hK:∀ x∈a.items,PC Tryz.prog EE 18 [a.dv,.aa4 (st.map Md.ae1),.agg x.cs] (.bool (a.keeps st x)):=fun x hx=>cr2 a hA hI st hs x (a.dx7.1 hx)
 generalize a.items=l at *;simp only[ic11,go_sem,ay6,an5];refine aa2 fok10 (hL) ?_;simp only[go_sem];refine ab2 noT (fun i fr s=>∃ gv,fr=[(0,a.dv),(1,.aa4 (st.map Md.ae1)),(5,gv),(6,aj8 l),(7,.int .i64 (i:Int))]/\GI s gv ((l.take i).filter fun x=>!a.keeps st x)) l.length ⟨.aa1,rfl,.inl ⟨rfl,rfl⟩⟩ ?_;rintro i fr u hi ⟨gv,rfl,hg⟩;by_cases hlt:i<l.length
 ·obtain ⟨z,hz,_,hdr,hget,htk⟩:=ac7 l i hlt;have d1:(i:Int)<l.length:=om
  have d2:(0:Int)<=(i:Int):=om
  have w1:=ac2 (i:=i) om;have g:=hget Itm.cs;have hKz:=hK z hz
  have hsn:((l.take (i+1)).filter fun x=>!a.keeps st x)=((l.take i).filter fun x=>!a.keeps st x)++if (!a.keeps st z)=true then [z] else []:=by
   rw[htk,z9];congr 1;simp only[List.filter_cons,List.filter_nil]
  have hfl:((l.take i).filter fun x=>!a.keeps st x).length<=i:=by
   refine qf (qj _ _) ?_;rw[z5]; omega
  simp only[go_sem,d1,d2,g,ay6,an5,ae4,ad2,ad1]
  first|refine aa2 fok18 (hKz) ?_|refine aa8 (hKz) ?_
  cases hb:a.keeps st z with
  | true=>
   rw[hb,if_neg (by decide),ze] at hsn;simp only[go_sem,w1]
   exact ⟨hlt,gv,rfl,by rw[hsn]; exact hg⟩
  | false=>
   rw[hb,if_pos (by decide)] at hsn;obtain ⟨v',σ',h1,h2,h3,h4,h5,h6⟩:=bs1 _ z 0 1 hg om om;have h1':ba5 ({ next:=u.next+1,obj:=u.obj }:Store) u.next 3 gv (.aa4 [z.cs])=zg (v',σ'):=h1;simp only[go_sem,d1,d2,g,ae4,ad2,ad1,h1',h4,h5,w1];exact ⟨hlt,v',rfl,by rw[hsn]; exact h3⟩
 ·have e:i=l.length:=om
  subst e;have d1:¬ (l.length:Int)<l.length:=om
  rw[z2] at hg;simp only[go_sem,d1];exact il6 hg
theorem gr1 (a:ab4)(hA:AOK a)(hI:0<=a.p.inst)(hIt:a.items.length<2^30)(st:List Int)(hs:st.length<2^30):PC Tryz.prog EE 13 [a.dv,.aa4 (st.map Md.ae1)] (.bool (a.good st)):=by
 refine ad9 hE fok13 (nZ rfl) (ag4 (ar4 a) (ad3 st)) ?_;have hB:=de1 a hA hI hIt st hs
 have e:decide (((a.broken st).length:Int)=0)=a.good st:=by
  rw[a.et4]; exact decide_eq_decide.2 om
 simp only[ic13,go_sem,ay6,an5];refine aa2 fok11 (hB) ?_;simp only[go_sem,e];exact aa9 rfl
end Go.Id.Tryz
namespace Go.Id.Tryz
open Go Go.Id Go.Proofs Go.Shelf Go.Id.Md
open Go.Id.Md.ab4 (inS less)
theorem fg3 (r:Req):r.cs.length=5:=rfl
theorem au1 (a:ab4):a.mv.cs=[a.mv]:=rfl
theorem am7 (a:ab4):a.mv.leaf=true:=rfl
theorem hz4 {repos:List ao2}{inst:List aa3}{r:Req}(hI:if4 repos inst)(hR:eb5 r):ev6 repos inst r=fy6\/∃ p:Pool,by3 repos inst=.inl p/\AOK ⟨p,r⟩/\(ab4.mk p r).items.length<2^30/\p.inst=inst.length /\
  ev6 repos inst r=.tuple [(ab4.mk p r).mv,(ab4.mk p r).v,.ab8 (au3 (ev5 repos inst)::.int .i64 p.inst::r.cs),.bool true,.bool false]:=by
 unfold ev6
 cases hn:by3 repos inst with
 | inr e=>exact .inl rfl
 | inl p=>
  by_cases he:am5 r p.inst=0
  ·exact .inr ⟨p,rfl,aok hI hn hR he,(ff9 hI hn hR he).1,(cx5 hn).2,by simp only[he,if_true]⟩
  ·exact .inl (by simp only[he,if_false])
end Go.Id.Tryz
namespace Go.Id.Tryz
open Go Go.Id Go.Proofs Go.Shelf Go.Id.Md
open Go.Id.Md.ab4 (inS less)
def ee5 (s:Store)(lo:Nat)(v:IV)(xs:List Itm):Prop :=
 (v=.aa1/\xs=[])\/∃ id cs,lo<=id/\id<s.next/\v=.slice id 0 xs.length 3/\s.obj id=zg (.row cs)/\cs.take (xs.length*3)=(xs.map Itm.cs).flatten/\xs.length*3<=cs.length
theorem bs2 (xs:List Itm):∀ e∈xs.map Itm.cs,e.length=3:=fun e he=>by
 obtain ⟨x,_,rfl⟩:=zw.1 he; rfl
theorem hz5 (xs:List Itm):∀ e∈xs.map Itm.cs,e.length=3/\e.all IV.leaf=true:=fun e he=>by
 obtain ⟨x,_,rfl⟩:=zw.1 he; exact ⟨rfl,rfl⟩
theorem ee5.frz {s:Store}{lo:Nat}{v:IV}{xs:List Itm}{S:Nat->Prop}(h:ee5 s lo v xs)(hS:∀ i,lo<=i->¬ S i):Frz s S v (aj8 xs):=by
 rcases h with ⟨rfl,rfl⟩|⟨id,cs,h1,h2,rfl,h4,h5,h6⟩
 ·exact .by5
 ·refine .slice id 0 xs.length 3 cs (xs.map Itm.cs) (hS id h1) (.inr h4) (by rw[za]) om (fun i hi=>bs2 xs _ (ae5 _ (by rw[za]; exact hi))) fun i hi j hj=>?_
  have e:cs.getD (0+(i*3+j)) .undef=((xs.map Itm.cs).getD i []).getD j .undef:=by
   rw[<- eh5 (bs2 xs) i j (by rw[za]; exact hi) hj,<- h5,zx,zb,zb,List.getElem?_take,if_pos om]
  rw[e,cy4 xs hi];have hj':j=0\/j=1\/j=2:=om
  rcases hj' with rfl|rfl|rfl<;>exact .keep _ (.int _ _)
theorem fy9 (xs:List Itm)(hn:xs.length<=2147483648)(σ:Store):C Tryz.prog EE 31 [aj8 xs] σ (fun v s=>Kept σ s/\((v=.aa1/\xs=[])\/∃ id,σ.next<=id/\id<s.next/\v=.slice id 0 xs.length 3/\s.obj id=zg (.row (xs.map Itm.cs).flatten))):=by
 cases hx:xs with
 | nil=>
  refine dw3 ?_ ?_
  ·refine C_f fok31 (nZ rfl) ?_;simp only[ic31,go_sem,aj6];exact ⟨Kept.refl σ,by first|exact .inl ⟨rfl,rfl⟩|exact .inl trivial⟩
  ·refine C_f fok31 (nZ rfl) ?_;simp only[ic31,go_sem,aj6];rw[bg8 (by simp only[aa5,if_true]) rfl];simp only[go_sem];refine ⟨⟨by show σ.next<=σ.next+2; omega,fun i hi=>?_⟩,.inr ⟨σ.next,zc _,by show σ.next<σ.next+2; omega,rfl,by simp only[aa5,if_true]; rfl⟩⟩;have:¬ i=σ.next:=om
   simp only[aa5,this,if_false]
 | cons a as'=>
  have hne:xs.map Itm.cs≠[]:=by rw[hx]; exact fun h=>(by cases h)
  rw[<- hx];refine C_f fok31 (nZ rfl) ?_;have hnil:∀ d,by9 (.slice d) (aj8 xs)=zg false:=fun d=>by rw[hx]; rfl
  simp only[ic31,go_sem,aj6,hnil];unfold aj8;rw[bz8 (by simp only[aa5,if_true]) hne (hz5 xs) (by rw[za]; exact hn)];simp only[go_sem];refine ⟨⟨by show σ.next<=σ.next+_; omega,fun i hi=>?_⟩,.inr ⟨σ.next+1,om,by show σ.next+1<σ.next+_; omega,by first|rfl|rw[za],by simp only[aa5,if_true]⟩⟩;have h1:¬ i=σ.next:=om
  have h2:¬ i=σ.next+1:=om
  simp only[aa5,Store.kill,h1,h2,if_false]
theorem fg5 (a:ab4)(hl:a.items.length<=2147483648)(σ:Store):C Tryz.prog EE 7 [a.mv] σ (fun v s=>Kept σ s/\((v=.aa1/\a.items=[])\/∃ id,σ.next<=id/\id<s.next/\v=.slice id 0 a.items.length 3/\s.obj id=zg (.row (a.items.map Itm.cs).flatten))):=by
 refine C_f fok7 (nZ rfl) ?_;have h:=fy9 a.items hl;have hnl:∀ d:TypeId,by9 (.pointer d) (.ab8 a.mcs)=zg false:=fun _=>rfl
 unfold ab4.mv at *;simp only[ic7,go_sem,hnl,iv1,ac4];refine ag1 fok31 (h _) ?_;rintro v s ⟨k,hv⟩;refine ⟨k.next,?_⟩;simp only[go_sem];exact ⟨⟨k.next,k.obj⟩,hv⟩
theorem iv9 {id n k:Nat}(h:k<=n):cw7 3 (zg (.int .i64 (k:Int))) none (.slice id 0 n 3)=zg (.slice id (k*3) (n-k) 3):=by
 have e:(0:Int)<=k:=om
 simp[cw7,cs3,eo1,e,h]
theorem iw1 {id n k:Nat}(h:k<=n):cw7 3 none (zg (.int .i64 (k:Int))) (.slice id 0 n 3)=zg (.slice id 0 k 3):=by
 have e:(0:Int)<=k:=om
 simp[cw7,cs3,eo1,e,h]
theorem hz6 {σ:Store}{id k n:Nat}{cs z:List IV}(ho:σ.obj id=zg (.row cs))(hz:z.all IV.leaf=true)(h1:k<n)(h2:n*3<=cs.length):fm8 σ 3 z (.slice id (k*3) (n-k) 3)=zg (σ.put id (.row (ay4 cs (k*3) (rep z (n-k))))):=by
 have e1:¬ n-k=0:=om
 have e2:k*3+(n-k)*3<=cs.length:=om
 unfold fm8;simp only[e1,if_false,ho,e2,true_and,hz];rfl
theorem iw2 {n:Nat}{v:List IV}(hv:v.length=n):∀ {L:List (List IV)} {i:Nat},(∀ e∈L,e.length=n)->i<L.length->ay4 L.flatten (i*n) v=(L.set i v).flatten:=by
 intro L
 induction L with
 | nil=>intro i _ hi; exact absurd hi (zf _)
 | cons e es ih=>
  intro i hl hi;have he:=hl e (qm ..)
  cases i with
  | zero=>
   have:e++es.flatten=(e::es).flatten:=rfl;simp only[List.set_cons_zero,qa,Nat.zero_mul];unfold ay4
   rw[List.take_zero,zo,zx,hv,List.drop_append_of_le_length om,List.drop_of_length_le om,zo]
  | succ i=>
   rw[List.set_cons_succ,qa,qa];have e2:(i+1)*n=e.length+i*n:=by rw[he,Nat.add_mul]; omega
   rw[e2,fn8,ih (fun x hx=>hl x (qk _ hx)) (by simpa using hi)]
theorem gr2 {L:List (List IV)}(h:∀ e∈L,e.length=3){i:Nat}(hi:i<L.length){v:List IV}(hv:L.getD i []=v):(L.flatten.drop (i*3)).take 3=v/\3<=(L.flatten.drop (i*3)).length:=by
 have h2:=an4 h;refine ⟨by rw[ax8 h i hi,hv],?_⟩;rw[List.length_drop,h2]; omega
theorem ct5 {q:Itm->Bool}{l:List Itm}(h:∀ x∈l,q x=false):(l.filter fun x=>!q x)=l:=List.filter_eq_self.2 fun x hx=>by rw[h x hx]; rfl
theorem gr3 {σ:Store}{id:Nat}{xs:List Itm}(ho:σ.obj id=zg (.row (xs.map Itm.cs).flatten))(hid:id<σ.next):bw7 σ 0 (.slice id 0 xs.length 3) (aj8 xs):=
 ee5.frz (lo:=0) (.inr ⟨id,_,Nat.zero_le _,hid,rfl,ho,by rw[zd]; rw[an4 (bs2 xs),za]; exact zc _,by rw[an4 (bs2 xs),za]; exact zc _⟩) fun i _=>zf _
theorem hz7 {σ:Store}{id g:Nat}{cap cap':List IV}{xs:List Itm}(q:Itm->Bool)(hz:xs.length<2^40)(ho:σ.obj id=zg (.row (xs.map Itm.cs).flatten))(hid:id<σ.next)
  (hok:okF Tryz.prog g=true) (hcl:cap'.length=cap.length) (hcap:∀ τ:Store,(∀ i,i<σ.next->i≠id->τ.obj i=σ.obj i)->∀ j,j<cap.length->bw7 τ 0 (cap.getD j .undef) (cap'.getD j .undef)) (hq:∀ z∈xs,PC Tryz.prog EE g (.agg z.cs::cap') (.bool (q z))) :
  C Tryz.prog EE 32 [.slice id 0 xs.length 3,.func (.func g) [] cap] σ (fun v s=>σ.next<=s.next/\(∀ i,i<σ.next->i≠id->s.obj i=σ.obj i) /\
   ∃ cs,v=.slice id 0 (xs.filter fun x=>!q x).length 3/\s.obj id=zg (.row cs)/\cs.take ((xs.filter fun x=>!q x).length*3)=((xs.filter fun x=>!q x).map Itm.cs).flatten/\(xs.filter fun x=>!q x).length*3<=cs.length):=by
 refine C_f fok32 (nZ rfl) ?_;simp only[ic32,go_sem]
 have hI:=be6 (σ:=σ) (args:=[.slice id 0 xs.length 3,.func (.func g) [] cap]) (args':=[aj8 xs,.func (.func g) [] cap']) hE rfl (fun i hi=>by
  match i,hi with
  | 0,_=>exact gr3 ho hid
  | 1,_=>exact .func _ _ _ _ _ rfl hcl (fun j hj=>absurd hj (zf _)) (hcap σ fun _ _ _=>rfl)) (by simp[IV.plain]) (dd8 xs g [] cap' q om hok hq)
 refine ag1 fok75 hI ?_;rintro v s ⟨rfl,rfl⟩;refine ⟨zc _,?_⟩;have fl:=an4 (bs2 xs);rw[za] at fl;have fshift:ai7 q xs 0=-1/\(∀ x∈xs,q x=false)\/∃ k,∃ h:k<xs.length,ai7 q xs 0=0+k/\q xs[k]=true/\∀ x∈xs.take k,q x=false:=df7 q xs 0;rcases fshift with ⟨h1,h2⟩|⟨i0,hi0,h1,h2,h3⟩
 ·simp only[go_sem,h1,ct5 h2];exact ⟨zc _,fun _ _ _=>trivial,_,ho,by rw[zd om],om⟩
 have h1':ai7 q xs 0=(i0:Int):=by rw[h1]; omega
 have d1:¬ (i0:Int)=-1:=om
 have w0:=ac2 (i:=i0) om;simp only[go_sem,h1',d1,w0]
 refine ab2 noT (fun j fr t=>∃ (k:Nat) (L:List (List IV)),fr=[(0,.slice id 0 xs.length 3),(1,.func (.func g) [] cap),(5,.int .i64 (k:Int)),(6,.int .i64 ((i0+1+j:Nat):Int))] /\
  (s.next<=t.next/\∀ q,q<s.next->q≠id->t.obj q=s.obj q)/\t.obj id=zg (.row L.flatten)/\(∀ e∈L,e.length=3)/\L.length=xs.length/\k<=i0+j/\i0+1+j<=xs.length/\L.take k=((xs.take (i0+1+j)).filter fun x=>!q x).map Itm.cs/\k=((xs.take (i0+1+j)).filter fun x=>!q x).length /\
  ∀ (x:Nat) (h:x<xs.length),i0+j<x->L.getD x []=xs[x].cs) (xs.length-(i0+1)) ?_ ?_
 ·have e:((xs.take (i0+1)).filter fun x=>!q x)=xs.take i0:=by
   rw[zl,zi hi0,z9,ct5 h3];simp[h2]
  refine ⟨i0,xs.map Itm.cs,rfl,⟨zc _,fun _ _ _=>rfl⟩,ho,bs2 xs,za ..,om,om,?_,?_,fun x h _=>cy4 xs h⟩
  ·rw[qh,e,List.map_take]
  ·rw[qh,e,z5]; omega
 rintro j fr t hj ⟨k,L,rfl,⟨un,uo⟩,hoc,hL,hLl,hk1,hk2,hk4,hk3,hcs⟩;have hLf:=an4 hL;by_cases hlt:j<xs.length-(i0+1)
 ·have e1:((i0+1+j:Nat):Int)<xs.length:=om
  have e2:(0:Int)<=((i0+1+j:Nat):Int):=om
  have hx:i0+1+j<xs.length:=om
  obtain ⟨g1,g2⟩:=gr2 hL (by rw[hLl]; exact hx) (hcs (i0+1+j) hx om);have w1:=ac2 (i:=i0+1+j) om;have w2:=ac2 (i:=k) om;have hqz:=hq _ (qb hx);have e3:(0:Int)<=(k:Int):=om
  have e4:(k:Int)<xs.length:=om
  have e5:k*3+3<=L.flatten.length:=by rw[hLf,hLl]; omega
  have htk:(xs.take (i0+1+j+1)).filter (fun x=>!q x)=(xs.take (i0+1+j)).filter (fun x=>!q x)++if q xs[i0+1+j] then [] else [xs[i0+1+j]]:=by
   rw[zl,zi hx,z9];congr 1;simp only[Option.toList,List.filter_cons,List.filter_nil];cases q xs[i0+1+j]<;>rfl
  simp only[go_sem,e1,e2,hoc,g1,g2,zq,zx,ae4,ad2,ad1];have hidt:¬ id=t.next:=om
  generalize hT:Store.mk (t.next+1) _=T;have Tn:T.next=t.next+1:=by rw[<- hT]
  have Ti:T.obj id=zg (.row L.flatten):=by rw[<- hT]; simp only[aa5,hidt,if_false]; exact hoc
  have Tc:T.obj t.next=zg (.cells xs[i0+1+j].cs):=by rw[<- hT]; simp only[aa5,if_true]
  have To:∀ i,i<s.next->i≠id->T.obj i=s.obj i:=fun i h1 h2=>by
   have:¬ i=t.next:=om
   rw[<- hT]; simp only[aa5,this,if_false]; exact uo i h1 h2
  refine ao9 hok (be6 (args':=.agg xs[i0+1+j].cs::cap') hE (by simp only[zm,hcl]) (fun m hm=>?_) (by simp[IV.plain]) hqz) ?_
  ·cases m with
   | zero=>exact .keep _ (av6 _)
   | succ m=>exact hcap T To m (by simpa using hm)
  rintro v u ⟨rfl,rfl⟩;refine ⟨zc _,?_⟩
  cases hb:q xs[i0+1+j] with
  | true=>
   rw[hb,if_pos rfl,ze] at htk;simp only[go_sem,w1]
   exact ⟨hlt,k,L,rfl,⟨om,To⟩,Ti,hL,hLl,om,om,by rw[show i0+1+(j+1)=i0+1+j+1 by omega,htk]; exact hk4,by rw[show i0+1+(j+1)=i0+1+j+1 by omega,htk]; exact hk3,fun x h hx=>hcs x h om⟩
  | false=>
   rw[hb,if_neg (by simp)] at htk;have hpt:=iw2 (v:=xs[i0+1+j].cs) (ae4 _) hL (i:=k) om;simp only[go_sem,w1,w2,e3,e4,e5,Ti,Tc,hpt,zq,zx,ae4,ad2,ad1];have e6:i0+1+(j+1)=i0+1+j+1:=om
   refine ⟨hlt,k+1,L.set k xs[i0+1+j].cs,rfl,⟨om,fun q h1 h2=>by rw[if_neg h2]; exact To q h1 h2⟩,rfl,fun e he=>?_,by rw[List.length_set]; exact hLl,om,om,?_,?_,fun x h hx2=>?_⟩
   ·rcases List.mem_or_eq_of_mem_set he with he|rfl
    ·exact hL e he
    ·rfl
   ·rw[e6,htk,z7,<- hk4,zl,List.getElem?_set_self om,List.take_set_of_le (zc _)];rfl
   ·rw[e6,htk,zn,<- hk3]; rfl
   ·have hne:¬ k=x:=om
    rw[zb,List.getElem?_set,if_neg hne,<- zb];exact hcs x h om
 ·have hj':i0+1+j=xs.length:=om
  have e1:¬ ((i0+1+j:Nat):Int)<xs.length:=om
  rw[hj',z2] at hk3 hk4;have hkn:k<xs.length:=om
  have hzz:[IV.int .u8 0,.int .i64 0,.int .i64 0].all IV.leaf=true:=rfl;simp only[go_sem,e1,iv9 (show k<=xs.length by omega),iw1 (show k<=xs.length by omega),hoc,iy9,hz6 hoc hzz hkn (by rw[hLf,hLl]; exact zc _)];have hrl:(rep [IV.int .u8 0,.int .i64 0,.int .i64 0] (xs.length-k)).length=(xs.length-k)*3:=by rw[ar1]; rfl
  refine ⟨un,fun q h1 hq=>?_,ay4 L.flatten (k*3) (rep [IV.int .u8 0,.int .i64 0,.int .i64 0] (xs.length-k)),by rw[hk3],by simp only[aa5,if_true],?_,?_⟩
  ·simp only[aa5,if_neg hq]; exact uo q h1 hq
  ·rw[<- hk3,df1 om,<- hk4];have:=an4 (es:=L.take k) (fun e he=>hL e (List.mem_of_mem_take he));rw[z5,Nat.min_eq_left om] at this;have hsp:L.flatten=(L.take k).flatten++(L.drop k).flatten:=by rw[<- List.flatten_append,List.take_append_drop]
   rw[hsp,List.take_append_of_le_length om,zd om]
  ·rw[ai2 (by rw[hrl]; omega),<- hk3]; omega
theorem gr4 {σ:Store}{g:Nat}{cap cap':List IV}(q:Itm->Bool)(hok:okF Tryz.prog g=true)(hcl:cap'.length=cap.length)(hcap:∀ j,j<cap.length->bw7 σ 0 (cap.getD j .undef) (cap'.getD j .undef)) :
  C Tryz.prog EE 32 [.aa1,.func (.func g) [] cap] σ (jc1 .aa1 σ):=by
 refine C_f fok32 (nZ rfl) ?_;simp only[ic32,go_sem]
 have hI:=be6 (σ:=σ) (args:=[.aa1,.func (.func g) [] cap]) (args':=[aj8 [],.func (.func g) [] cap']) hE rfl (fun i hi=>by
  match i,hi with
  | 0,_=>exact .by5
  | 1,_=>exact .func _ _ _ _ _ rfl hcl (fun j hj=>absurd hj (zf _)) hcap) (by simp[IV.plain]) (dd8 [] g [] cap' q (by decide) hok fun x hx=>by cases hx)
 refine ag1 fok75 hI ?_;rintro v s ⟨rfl,rfl⟩;refine ⟨zc _,?_⟩;simp only[ai7,go_sem,Int.reduceNeg];exact ⟨rfl,rfl⟩
theorem fz1 (a:ab4)(hA:AOK a)(st:List Int)(hs:st.length<2^30)(x:Itm):PC Tryz.prog EE 33 [.agg x.cs,.ab8 [a.mv],.ab8 [.aa4 (st.map Md.ae1)]] (.bool (a.holds st x)):=by
 refine ad9 hE fok33 (nZ rfl) (as5 (av6 x) (.ab8 _ (ah9 (as7 a))) (.ab8 _ (ah9 (ad3 st)))) ?_;have h:=bl5 a hA st hs x;simp only[ic33,go_sem,ad1,ae4,ad2,au1,am7]
 first|refine aa2 fok17 (h) ?_|refine aa8 (h) ?_
 simp only[go_sem];exact aa9 rfl
theorem gr5 (a:ab4)(hA:AOK a)(st:List Int)(hs:st.length<2^30)(hl:a.items.length<2^30)(σ:Store)(sv:IV)(hsl:sv.leaf=true)(hsc:sv.cs=[sv])(hfr:∀ τ:Store,(∀ i,i<σ.next->τ.obj i=σ.obj i)->bw7 τ 0 sv (.aa4 (st.map Md.ae1))) :
  C Tryz.prog EE 8 [a.mv,sv] σ (fun v s=>Kept σ s/\ee5 s σ.next v (a.broken st)):=by
 refine C_f fok8 (nZ rfl) ?_;simp only[ic8,go_sem,au1,am7,hsl,hsc,qe,List.all_nil,Bool.and_self,List.head?_cons];refine ag1 fok7 (fg5 a om _) ?_;rintro v s ⟨k,hv⟩;refine ⟨k.next,?_⟩;simp only[go_sem];have hb:a.broken st=a.items.filter fun x=>!a.holds st x:=rfl
 have hcF:∀ τ:Store,(∀ i,i<σ.next->τ.obj i=σ.obj i)->∀ j,j<2->bw7 τ 0 ([IV.ab8 [a.mv],.ab8 [sv]].getD j .undef) ([IV.ab8 [a.mv],.ab8 [.aa4 (st.map Md.ae1)]].getD j .undef):=fun τ hτ j hj=>by
  match j,hj with
  | 0,_=>exact .keep _ (.ab8 _ (ah9 (as7 a)))
  | 1,_=>
   refine .ab8 _ _ rfl fun i hi=>?_
   have:i=0:=by simp only[qi] at hi; omega
   subst this;exact hfr τ hτ
 rcases hv with ⟨rfl,h0⟩|⟨id,h1,h2,rfl,h4⟩
 ·refine ag1 fok32 (gr4 (cap':=[.ab8 [a.mv],.ab8 [.aa4 (st.map Md.ae1)]]) (a.holds st) fok33.1 rfl (hcF s k.obj)) ?_;rintro v u ⟨rfl,rfl⟩;refine ⟨zc _,?_⟩;simp only[go_sem];exact ⟨k,.inl ⟨rfl,by rw[hb,h0]; rfl⟩⟩
 ·refine ag1 fok32 (hz7 (cap':=[.ab8 [a.mv],.ab8 [.aa4 (st.map Md.ae1)]]) (a.holds st) om h4 h2 fok33.1 rfl (fun τ hτ=>hcF τ fun i hi=>by rw[hτ i (by have:=k.next; omega) om,k.obj i hi]) fun z _=>fz1 a hA st hs z) ?_;rintro v u ⟨un,uo,cs,rfl,ho,ht,hle⟩;refine ⟨un,?_⟩;simp only[go_sem];refine ⟨⟨qf k.next un,fun i hi=>by rw[uo i (by have:=k.next; omega) om,k.obj i hi]⟩,.inr ⟨id,cs,h1,om,by rw[hb],ho,by rw[hb]; exact ht,by rw[hb]; exact hle⟩⟩
end Go.Id.Tryz
namespace Go.Id.Tryz
open Go Go.Id Go.Proofs Go.Shelf Go.Id.Md
open Go.Id.Md.ab4 (inS less)
theorem cg5 (b:Bool):hf5 [0] false true (.bool b) (.bool b)=zg (.bool false):=by cases b<;>rfl
def WR (s:Store)(lo:Nat)(v:IV)(n:Nat):Prop:=(v=.aa1/\n=0)\/∃ id cs,lo<=id/\id<s.next/\v=.slice id 0 n 3/\s.obj id=zg (.row cs)/\n*3<=cs.length
theorem ee5.wr {s:Store}{lo:Nat}{v:IV}{xs:List Itm}(h:ee5 s lo v xs):WR s lo v xs.length:=by
 rcases h with ⟨h1,h2⟩|⟨id,cs,h1,h2,h3,h4,h5,h6⟩
 ·exact .inl ⟨h1,by rw[h2]; rfl⟩
 ·exact .inr ⟨id,cs,h1,h2,h3,h4,h6⟩
theorem WR.len {s s':Store}{lo n:Nat}{v:IV}(h:WR s lo v n):ch9 0 s' v=zg (.int .i64 n):=by
 rcases h with ⟨h1,h2⟩|⟨id,cs,h1,h2,h3,h4,h5⟩
 ·subst h1; subst h2; rfl
 ·subst h3; rfl
theorem WR.lf {s:Store}{lo n:Nat}{v:IV}(h:WR s lo v n):v.leaf=true/\v.cs=[v]:=by
 rcases h with ⟨h1,_⟩|⟨id,cs,_,_,h3,_⟩
 ·rw[h1]; exact ⟨rfl,rfl⟩
 ·rw[h3]; exact ⟨rfl,rfl⟩
theorem WR.mono {s s':Store}{lo n:Nat}{v:IV}(h:WR s lo v n)(hn:s.next<=s'.next)(ho:∀ i,i<s.next->s'.obj i=s.obj i):WR s' lo v n:=by
 rcases h with h|⟨id,cs,h1,h2,h3,h4,h5⟩
 ·exact .inl h
 ·exact .inr ⟨id,cs,h1,om,h3,by rw[ho id h2]; exact h4,h5⟩
theorem WR.put {s:Store}{lo n w k:Nat}{v:IV}{cs:List IV}(h:WR s lo v n)(ho:s.obj w=zg (.row cs))(x:IV)(hk:k<cs.length)(hw:w<s.next):WR (s.put w (.row (ay4 cs k [x]))) lo v n:=by
 rcases h with h|⟨id,cs',h1,h2,h3,h4,h5⟩
 ·exact .inl h
 ·by_cases e:id=w
  ·subst e;rw[ho] at h4; cases h4;exact .inr ⟨id,ay4 cs k [x],h1,h2,h3,by simp only[aa5,if_true],by rw[ai2 (by simp only[qi]; omega)]; exact h5⟩
  ·exact .inr ⟨id,cs',h1,h2,h3,by rw[aa5,if_neg e]; exact h4,h5⟩
theorem ee5.mono {s s':Store}{lo:Nat}{v:IV}{xs:List Itm}(h:ee5 s lo v xs)(hn:s.next<=s'.next)(ho:∀ i,i<s.next->s'.obj i=s.obj i):ee5 s' lo v xs:=by
 rcases h with h|⟨id,cs,h1,h2,h3,h4,h5,h6⟩
 ·exact .inl h
 ·exact .inr ⟨id,cs,h1,om,h3,by rw[ho id h2]; exact h4,h5,h6⟩
theorem ee5.low {s:Store}{lo lo':Nat}{v:IV}{xs:List Itm}(h:ee5 s lo v xs)(hl:lo'<=lo):ee5 s lo' v xs:=by
 rcases h with h|⟨id,cs,h1,h2,h3,h4,h5,h6⟩
 ·exact .inl h
 ·exact .inr ⟨id,cs,om,h2,h3,h4,h5,h6⟩
theorem ee5.at {s:Store}{lo:Nat}{v:IV}{xs:List Itm}(h:ee5 s lo v xs){i:Nat}(hi:i<xs.length):∃ id cs,v=.slice id 0 xs.length 3/\s.obj id=zg (.row cs)/\(cs.drop (i*3)).take 3=(xs.getD i default).cs/\3<=(cs.drop (i*3)).length:=by
 rcases h with ⟨_,h⟩|⟨id,cs,h1,h2,h3,h4,h5,h6⟩
 ·rw[h] at hi; exact absurd hi (zf _)
 ·refine ⟨id,cs,h3,h4,?_,by rw[List.length_drop]; omega⟩;have hp:=(gr2 (bs2 xs) (i:=i) (by rw[za]; exact hi) (v:=(xs.getD i default).cs) (by simp[zb,hi])).1;rw[<- hp,<- h5,List.drop_take,List.take_take];congr 1;omega
theorem fi7 {t s:Store}(h:Kept t s){w:Nat}(hw:t.next<=w)(r:al9):Kept t (s.put w r):=⟨h.next,fun i hi=>by rw[aa5,if_neg om]; exact h.obj i hi⟩
theorem if3 {τ:Store}{v:IV}{zs:List Int}(h:au7 τ 0 v zs):bw7 τ 0 v (.aa4 (zs.map Md.ae1)):=by
 rcases h with ⟨rfl,rfl⟩|⟨id,h1,h2,rfl,h4⟩
 ·exact .by5
 ·exact fj5 (cs:=zs.map dh2) h4 (by rw[zd (by simp)]) (by simp)
theorem dt6 {t s:Store}{v:IV}{zs:List Int}(h:au7 t 0 v zs)(hk:Kept t s):au7 s 0 v zs:=by
 rcases h with h|⟨id,h1,h2,h3,h4⟩
 ·exact .inl h
 ·exact .inr ⟨id,h1,Nat.lt_of_lt_of_le h2 hk.next,h3,by rw[hk.obj id h2]; exact h4⟩
theorem en1 (xs ys:List Int)(h1:xs.length<2^62)(h2:ys.length<2^62):PC Tryz.prog EE 21 [.aa4 (xs.map Md.ae1),.aa4 (ys.map Md.ae1)] (.bool (decide (xs=ys))):=by
 refine ad9 hE fok21 (nZ rfl) (al4 (ad3 xs) (ad3 ys)) ?_;by_cases hl:xs.length=ys.length
 case neg=>
  have hl':¬ (xs.length:Int)=ys.length:=om
  have:decide (xs=ys)=false:=decide_eq_false fun e=>hl (by rw[e])
  simp only[ic21,go_sem,hl',this];exact ab3 _
 have hl':(xs.length:Int)=ys.length:=om
 have hl2:decide ((xs.length:Int)=ys.length)=true:=decide_eq_true hl';simp only[ic21,go_sem,hl2];refine ab2 noT (fun i fr s=>fr=[(0,.aa4 (xs.map Md.ae1)),(1,.aa4 (ys.map Md.ae1)),(5,.int .i64 i)]/\xs.take i=ys.take i) xs.length ⟨rfl,rfl⟩ ?_;rintro i fr s hi ⟨rfl,hf⟩;by_cases hlt:i<xs.length
 ·obtain ⟨x,hx,hxi,hdr,hget,htk⟩:=ac7 xs i hlt;obtain ⟨y,hy,hyi,hdr2,hget2,htk2⟩:=ac7 ys i om;have c1:(i:Int)<xs.length:=om
  have c3:(i:Int)<ys.length:=om
  have c2:(0:Int)<=i:=om
  have w1:=ac2 (i:=i) om;simp only[go_sem,c1,c2,c3,hget,hget2,Md.ae1,w1];by_cases hxy:x=y
  ·have hd:decide (x=y)=true:=decide_eq_true hxy;simp only[go_sem,hd,w1];refine ⟨hlt,?_⟩;rw[htk,htk2,hf,hxy]
  ·have hd:decide (x=y)=false:=decide_eq_false hxy;have hne:decide (xs=ys)=false:=decide_eq_false fun e=>hxy (by rw[e] at hxi; rw[hxi] at hyi; cases hyi; rfl)
   simp only[go_sem,hd,hne];exact ab3 _
 ·have hi':i=xs.length:=om
  subst hi';have c1:¬ (xs.length:Int)<xs.length:=om
  rw[z2,hl,z2] at hf;have:decide (xs=ys)=true:=decide_eq_true hf;simp only[go_sem,c1,this];exact ab3 _
theorem ed8 (repos:List ao2)(inst:List aa3)(r:Req)(st:List Int)(l:List Itm)(hI:if4 repos inst)(hR:eb5 r)(hs:st.length<2^30)(hl:l.length<2^30) :
  PC Tryz.prog EE 3 [av8 repos,au3 inst,.agg r.cs,.aa4 (st.map Md.ae1),aj8 l] (.bool true):=by
 refine ad9 hE fok3 (nZ rfl) (fun a ha=>by
  simp only[zk,zu,or_false] at ha;rcases ha with rfl|rfl|rfl|rfl|rfl
  ·exact bs6 repos
  ·exact aq4 inst
  ·exact .agg _ (bc2 r)
  ·exact ad3 st
  ·exact as6 l) ?_
 have hW:=gq4 repos inst r 30 (by have:=hI.r1; omega) (by have:=hI.i1; omega) (by decide) hI.ro hI.po;have hM:=ek9 repos inst r hI hR;have hi1:=hI.i1;have hN:=en1 st st om om;rw[decide_eq_true (rfl:st=st)] at hN;simp only[ic3,go_sem,ai3,fg3,bn9];refine aa2 fok4 (hW) ?_
 cases hwd:br9 repos inst r 30 with
 | true=>
  simp only[go_sem];refine aa2 fok5 (bl6) ?_;simp only[go_sem]
  exact aa9 rfl
 | false=>
 by_cases hbig:100<st.length
 ·have c1:(100:Int)<st.length:=om
  simp only[go_sem,c1];refine aa2 fok5 (bl6) ?_;simp only[go_sem];exact aa9 rfl
 have c1:¬ (100:Int)<st.length:=om
 by_cases hbig2:50<l.length
 ·have c2:(50:Int)<l.length:=om
  simp only[go_sem,c1,c2];refine aa2 fok5 (bl6) ?_;simp only[go_sem];exact aa9 rfl
 have c2:¬ (50:Int)<l.length:=om
 simp only[go_sem,c1,c2,fg3,bn9,ai3];refine aa2 fok6 (hM) ?_;rcases hz4 hI hR with h0|⟨p,hn,hA,hIt,hin,h0⟩
 ·rw[h0];simp only[fy6,go_sem];refine aa2 fok5 (bl6) ?_;simp only[go_sem];exact aa9 rfl
 have hal:ev5 repos inst=af6 p:=(ce3 hn).symm;rw[h0,hal];have hI0:0<=p.inst:=by rw[hin]; omega
 obtain ⟨a,ha⟩:∃ a,a=ab4.mk p r:=⟨_,rfl⟩;have hdv:IV.ab8 (au3 (af6 p)::.int .i64 p.inst::r.cs)=a.dv:=by rw[ha]; rfl
 rw[hdv];have hai:0<=a.p.inst:=by rw[ha]; exact hI0
 rw[<- ha] at hA hIt ⊢;clear hM h0 hdv hwd hW hn hal;simp only[go_sem,au1,am7];obtain ⟨S0,hS0⟩:∃ S0:Store,S0=Store.put { next:=2,obj:=emp.obj } 0 (al9.row []):=⟨_,rfl⟩;rw[<- hS0];have hX0:au7 S0 0 (.slice 0 0 0 1) []:=.inr ⟨0,zc _,by rw[hS0]; show 0<2; omega,rfl,by rw[hS0]; simp only[aa5,if_true]; rfl⟩;have hS0n:S0.next=2:=by rw[hS0]; rfl
 obtain ⟨kv,S,h1,h2,h3,h4⟩:=fc6 (nid:=1) (xs:=st) hX0 (by simp only[zp]; omega)
 have hk0:au7 S 0 kv st:=by
  have:=h4 S rfl (by rw[h2,hS0n]; omega) (by rw[h2]; exact zc _) om
  simpa using this
 clear h2 h3 h4 hX0 hS0n;simp only[go_sem,h1];clear h1 hS0 S0;have hItm:=cr1 a hA hai hIt;have hBrk:=de1 a hA hai hIt st hs;have hGd1:=ea1 a hA st hs om;have hGd2:=gr1 a hA hai hIt st hs;have hKp1:=ff7 a hA st hs l om;have hKp2:=gq9 a hA hai hIt st hs l om;have hbl:(a.broken st).length<=a.items.length:=qj _ _;refine ab2 noT (fun n fr s=>fr=[(3,.aa4 (st.map Md.ae1)),(4,aj8 l),(11,a.mv),(13,a.dv),(16,kv),(17,.int .i64 (n:Int))]/\au7 s 0 kv st) 2 ⟨rfl,hk0⟩ ?_;clear hk0 S;rintro n fr t hn ⟨rfl,hk⟩;by_cases hn2:n<2
 ·have d0:(n:Int)<2:=om
  have w0:=ac2 (i:=n) om;simp only[go_sem,d0,au1,am7];refine ag1 fok7 (fg5 a om _) ?_;rintro iv s1 ⟨k1,hiv⟩;refine ⟨k1.next,?_⟩
  have hR1:ee5 s1 t.next iv a.items:=by
   rcases hiv with h|⟨id,q1,q2,q3,q4⟩
   ·exact .inl h
   ·have hfl:(a.items.map Itm.cs).flatten.length=a.items.length*3:=by rw[an4 (bs2 a.items),za]
    exact .inr ⟨id,_,q1,q2,q3,q4,zd (by rw[hfl]; exact zc _),by rw[hfl]; exact zc _⟩
  simp only[go_sem,au1,am7];refine ag1 fok8 (gr5 a hA st hs hIt s1 (.aa4 (st.map Md.ae1)) rfl rfl fun τ _=>.keep _ (ad3 st)) ?_;rintro bv s2 ⟨k2,hB⟩;refine ⟨k2.next,?_⟩;have K2:Kept t s2:=k1.trans k2;have hR2:ee5 s2 t.next iv a.items:=hR1.mono k2.next k2.obj;have hB2:ee5 s2 t.next bv (a.broken st):=hB.low k1.next;have il:=hR2.wr.lf;have bl:=hB2.wr.lf;clear hR1 hiv hB k1 k2;simp only[go_sem,ay6,an5,il.1,il.2];refine aa2 fok10 (hItm) ?_;simp only[go_sem,il.1,il.2]
  refine ag1 fok9 (be6 (args':=[aj8 a.items,aj8 a.items]) hE rfl (fun i hi=>by
   match i,hi with
   | 0,_=>exact hR2.frz fun _ _=>zf _
   | 1,_=>exact .keep _ (as6 _)) (by simp[IV.plain]) (dd9 a.items a.items om om)) ?_
  rintro v2 u2 ⟨rfl,rfl⟩;refine ⟨zc _,?_⟩;simp only[go_sem,ay6,an5,il.1,il.2,bl.1,bl.2];refine aa2 fok11 (hBrk) ?_;simp only[go_sem,bl.1,bl.2]
  refine ag1 fok9 (be6 (args':=[aj8 (a.broken st),aj8 (a.broken st)]) hE rfl (fun i hi=>by
   match i,hi with
   | 0,_=>exact hB2.frz fun _ _=>zf _
   | 1,_=>exact .keep _ (as6 _)) (by simp[IV.plain]) (dd9 (a.broken st) (a.broken st) om om)) ?_
  rintro v2 u2 ⟨rfl,rfl⟩;refine ⟨zc _,?_⟩;simp only[go_sem,au1,am7,ay6,an5]
  first|refine aa2 fok12 (hGd1) ?_|refine aa8 (hGd1) ?_
  simp only[go_sem,au1,am7,ay6,an5];refine aa2 fok13 (hGd2) ?_;simp only[go_sem,cg5,au1,am7,ay6,an5];refine aa2 fok14 (hKp1) ?_;simp only[go_sem,au1,am7,ay6,an5];refine aa2 fok15 (hKp2) ?_;simp only[go_sem,cg5];refine ab2 noT (fun i fr s=>fr=[(3,.aa4 (st.map Md.ae1)),(4,aj8 l),(11,a.mv),(13,a.dv),(16,kv),(17,.int .i64 (n:Int)),(18,iv),(19,bv),(20,.int .i64 (i:Int))]/\Kept t s/\ee5 s t.next iv a.items/\WR s t.next bv (a.broken st).length) a.items.length ⟨rfl,K2,hR2,hB2.wr⟩ ?_;clear K2 hR2 hB2;rintro i fr s hi ⟨rfl,hK,hR,hW⟩;by_cases hlt:i<a.items.length
  ·obtain ⟨id,cs,rfl,ho,r1,r2⟩:=hR.at hlt;have d1:(i:Int)<a.items.length:=om
   have d2:(0:Int)<=(i:Int):=om
   have w1:=ac2 (i:=i) om
   have hx:a.items.getD i default∈a.items:=by
    rw[zb,zi hlt]; exact qb hlt
   generalize a.items.getD i default=x at *;have hIs:=gp8 a x;rw[show a.isI x=true from decide_eq_true hx] at hIs;have hH:=bl5 a hA st hs x;have hKz:=cr2 a hA hai st hs x (a.dx7.1 hx);rw[<- a.holds_of hx] at hKz;simp only[go_sem,d1,d2,ho,r1,r2,zx,zq,ae4,ad2,ad1,au1,am7];refine aa8 hIs ?_;simp only[go_sem,d1,d2,ho,r1,r2,zx,zq,ae4,ad2,ad1,au1,am7];refine aa8 hH ?_;simp only[go_sem,d1,d2,ho,r1,r2,zx,zq,ae4,ad2,ad1,ay6,an5];refine aa8 hKz ?_;simp only[go_sem,cg5,w1];refine ⟨hlt,⟨?_,fun i hi=>hK.obj i hi⟩,hR.mono ?_ fun _ _=>rfl,hW.mono ?_ fun _ _=>rfl⟩
   ·exact qf hK.next (z3 _ _)
   ·exact z3 _ _
   ·exact z3 _ _
  have hi':i=a.items.length:=om
  subst hi';have d1:¬ (a.items.length:Int)<a.items.length:=om
  have hV:=hR.wr;clear hR;simp only[go_sem,hV.len,d1]
  have hFi:∀ {s:Store},WR s t.next iv a.items.length->∀ i,i<a.items.length->∃ id cs,iv=.slice id 0 a.items.length 3/\t.next<=id/\id<s.next/\s.obj id=zg (.row cs)/\i*3<cs.length:=fun h i hi=>by
   rcases h with ⟨_,h⟩|⟨id,cs,h1,h2,h3,h4,h5⟩
   ·omega
   ·exact ⟨id,cs,h3,h1,h2,h4,om⟩
  have hFb:∀ {s:Store},WR s t.next bv (a.broken st).length->∀ i,i<(a.broken st).length->∃ id cs,bv=.slice id 0 (a.broken st).length 3/\t.next<=id/\id<s.next/\s.obj id=zg (.row cs)/\i*3<cs.length:=fun h i hi=>by
   rcases h with ⟨_,h⟩|⟨id,cs,h1,h2,h3,h4,h5⟩
   ·omega
   ·exact ⟨id,cs,h3,h1,h2,h4,om⟩
  refine ab2 noT (fun i fr s=>fr=[(3,.aa4 (st.map Md.ae1)),(4,aj8 l),(11,a.mv),(13,a.dv),(16,kv),(17,.int .i64 (n:Int)),(18,iv),(19,bv),(21,.int .i64 (i:Int))]/\Kept t s/\WR s t.next iv a.items.length/\WR s t.next bv (a.broken st).length) a.items.length ⟨rfl,hK,hV,hW⟩ ?_;clear hK hV hW d1 s;rintro i fr s hi ⟨rfl,hK,hV,hW⟩;by_cases hlt:i<a.items.length
  ·obtain ⟨id,cs,hv,q1,q2,ho,hc⟩:=hFi hV i hlt;have d1:(i:Int)<a.items.length:=om
   have d2:(0:Int)<=(i:Int):=om
   have w1:=ac2 (i:=i) om;subst hv;simp only[go_sem,d1,d2,ho,hc,w1,zx,zq];exact ⟨om,hlt,fi7 hK q1 _,hV.put ho _ hc q2,hW.put ho _ hc q2⟩
  have hi':i=a.items.length:=om
  subst hi';have d1:¬ (a.items.length:Int)<a.items.length:=om
  simp only[go_sem,hV.len,hW.len,d1];refine ab2 noT (fun i fr s=>fr=[(3,.aa4 (st.map Md.ae1)),(4,aj8 l),(11,a.mv),(13,a.dv),(16,kv),(17,.int .i64 (n:Int)),(19,bv),(22,.int .i64 (i:Int))]/\Kept t s/\WR s t.next bv (a.broken st).length) (a.broken st).length ⟨rfl,hK,hW⟩ ?_;clear hK hV hW d1 s;rintro i fr s hi ⟨rfl,hK,hW⟩;by_cases hlt:i<(a.broken st).length
  ·obtain ⟨id,cs,hv,q1,q2,ho,hc⟩:=hFb hW i hlt;have d1:(i:Int)<(a.broken st).length:=om
   have d2:(0:Int)<=(i:Int):=om
   have w1:=ac2 (i:=i) om;subst hv;simp only[go_sem,d1,d2,ho,hc,w1,zx,zq];exact ⟨om,hlt,fi7 hK q1 _,hW.put ho _ hc q2⟩
  have hi':i=(a.broken st).length:=om
  subst hi';have d1:¬ ((a.broken st).length:Int)<(a.broken st).length:=om
  simp only[go_sem,hW.len,d1,w0];exact ⟨hn2,dt6 hk hK⟩
 have hn':n=2:=om
 subst hn';simp only[go_sem,Int.cast_ofNat_Int];refine ab2 noT (fun i fr s=>fr=[(3,.aa4 (st.map Md.ae1)),(4,aj8 l),(11,a.mv),(13,a.dv),(16,kv),(23,.int .i64 (i:Int))]/\au7 s 0 kv st) l.length ⟨rfl,hk⟩ ?_;clear hk t;rintro i fr t hi ⟨rfl,hk⟩;by_cases hlt:i<l.length
 ·obtain ⟨x,hx,_,hdr,hget,htk⟩:=ac7 l i hlt;have d1:(i:Int)<l.length:=om
  have d2:(0:Int)<=(i:Int):=om
  have w1:=ac2 (i:=i) om;have g:=hget Itm.cs;have p1:=gp8 a x;have p2:=gq8 a hA hai hIt x;have p3:=bl5 a hA st hs x;have p4:=ds5 a hA hai hIt st hs x;simp only[go_sem,d1,d2,g,ae4,ad2,ad1,au1,am7];refine aa8 p1 ?_;simp only[go_sem,d1,d2,g,ae4,ad2,ad1,ay6,an5];refine aa8 p2 ?_;simp only[go_sem,cg5,d1,d2,g,ae4,ad2,ad1,au1,am7];refine aa8 p3 ?_;simp only[go_sem,d1,d2,g,ae4,ad2,ad1,ay6,an5];refine aa8 p4 ?_;simp only[go_sem,cg5,w1];exact ⟨hlt,dt6 hk ⟨z3 _ _,fun _ _=>rfl⟩⟩
 have hi':i=l.length:=om
 subst hi';have d1:¬ (l.length:Int)<l.length:=om
 simp only[go_sem,d1]
 refine ag1 fok21 (be6 (args':=[.aa4 (st.map Md.ae1),.aa4 (st.map Md.ae1)]) hE rfl (fun i hi=>by
  match i,hi with
  | 0,_=>exact .keep _ (ad3 st)
  | 1,_=>exact if3 hk) (by simp[IV.plain]) hN) ?_
 rintro v u ⟨rfl,rfl⟩;refine ⟨zc _,?_⟩;simp only[go_sem];refine aa2 fok5 (bl6) ?_;simp only[go_sem];exact aa9 rfl
end Go.Id.Tryz
namespace Go.Id.Tryz
open Go Go.Id Go.Proofs Go.Id.Md
end Go.Id.Tryz
namespace Go.Id.Tryz
open Go Go.Id Go.Proofs Go.Id.Md
variable {H:Type} {enc:TypeId×Value->H} {w:World} {base:Nat} {sp:Nat->Bool} {held:Bool}
abbrev Rd (enc:TypeId×Value->H)(w:World)(base:Nat)(sp:Nat->Bool)(held:Bool):=Rdg enc Tryz.prog w base sp held
theorem gu9 {n:Nat}{d:DataW H}(h:Rd enc w base sp held n 56 d)(hw:WT Tryz.prog 56 d):∃ e:EVR,e.fit/\∀ m,n<=m->dv Tryz.prog m 56 d=zg e.cs:=by
 obtain ⟨n',ds,rfl,rfl,hl,hf⟩:=av4 Tryz.underlying56 h hw
 match ds,hl with
 | [d0,d1,d2],_=>
  obtain ⟨r0,w0⟩:=hf 0 _ d0 rfl rfl;obtain ⟨r1,w1⟩:=hf 1 _ d1 rfl rfl;obtain ⟨r2,w2⟩:=hf 2 _ d2 rfl rfl;obtain ⟨z,_,_,e0⟩:=be7 Tryz.underlying3 r0;obtain ⟨s1,l1,e1⟩:=dc1 Tryz.underlying9 r1 w1;obtain ⟨s2,l2,e2⟩:=dc1 Tryz.underlying9 r2 w2;refine ⟨⟨z,s1,s2⟩,⟨l1,l2⟩,fun m hm=>?_⟩
  cases m with
  | zero=>omega
  | succ m=>
   have c3:Tryz.prog.cellsOf 3=1:=by kernel_rfl
   have c9:Tryz.prog.cellsOf 9=1:=by kernel_rfl
   have ct:Tryz.prog.cellsOf 56=3:=by kernel_rfl
   simp only[dv,Tryz.underlying56,zt,z6,dvF,e0 m om,e1 m om,e2 m om,zm,zp,c3,c9,ct,zz,zo,ze,z4,↓reduceIte];rfl
theorem jn4 {z:Int}(h:(Lit.int .u8 z).wf=true):0<=z/\z<256:=by
 simp only[Lit.wf,z0,decide_eq_true_eq] at h;have e1:IntKind.u8.min=0:=rfl;have e2:IntKind.u8.max=255:=rfl;omega
theorem gv1:Tryz.prog.cellsOf 3=1:=by kernel_rfl
theorem im5:Tryz.prog.cellsOf 5=1:=by kernel_rfl
theorem id6:Tryz.prog.cellsOf 9=1:=by kernel_rfl
theorem iy2:Tryz.prog.cellsOf 56=3:=by kernel_rfl
theorem gv2:Tryz.prog.cellsOf 66=5:=by kernel_rfl
theorem gv3:Tryz.prog.cellsOf 68=7:=by kernel_rfl
theorem jn5:Tryz.prog.cellsOf 61=15:=by kernel_rfl
theorem im6:Tryz.prog.cellsOf 63=2:=by kernel_rfl
theorem jn6:Tryz.prog.cellsOf 57=1:=by kernel_rfl
theorem fh6:Tryz.prog.cellsOf 58=1:=by kernel_rfl
theorem jn7:Tryz.prog.cellsOf 59=1:=by kernel_rfl
theorem jn8:Tryz.prog.cellsOf 23=1:=by kernel_rfl
theorem im7 {n:Nat}{d:DataW H}(h:Rd enc w base sp held n 66 d)(hw:WT Tryz.prog 66 d):∃ e:Dep,e.fit/\∀ m,n<=m->dv Tryz.prog m 66 d=zg e.cs:=by
 obtain ⟨n',ds,rfl,rfl,hl,hf⟩:=av4 Tryz.underlying66 h hw
 match ds,hl with
 | [d0,d1,d2],_=>
  obtain ⟨r0,w0⟩:=hf 0 _ d0 rfl rfl;obtain ⟨r1,w1⟩:=hf 1 _ d1 rfl rfl;obtain ⟨r2,w2⟩:=hf 2 _ d2 rfl rfl;obtain ⟨s0,l0,e0⟩:=dc1 Tryz.underlying9 r0 w0;obtain ⟨z,_,_,e1⟩:=be7 Tryz.underlying5 r1;obtain ⟨e,l2,e2⟩:=gu9 r2 w2;refine ⟨⟨s0,z,e⟩,⟨l0,l2⟩,fun m hm=>?_⟩
  cases m with
  | zero=>omega
  | succ m=>
   simp only[dv,Tryz.underlying66,zt,z6,dvF,e0 m om,e1 m om,e2 m om,EVR.cs,zm,zp,id6,im5,iy2,gv2,zz,zo,ze,z4,↓reduceIte];rfl
theorem iy3:∀ (n:Nat) (d:DataW H),Rd enc w base sp held n 68 d->WT Tryz.prog 68 d->∃ r:aa6,r.ok/\∀ m,n<=m->dv Tryz.prog m 68 d=zg r.cs:=by
 intro n
 induction n using Nat.strongRecOn with
 | ind n ih=>
  intro d h hw;obtain ⟨n',ds,rfl,rfl,hl,hf⟩:=av4 Tryz.underlying68 h hw
  match ds,hl with
  | [d0,d1,d2],_=>
   obtain ⟨r0,w0⟩:=hf 0 _ d0 rfl rfl;obtain ⟨r1,w1⟩:=hf 1 _ d1 rfl rfl;obtain ⟨r2,w2⟩:=hf 2 _ d2 rfl rfl;obtain ⟨z,_,hz,e0⟩:=be7 Tryz.underlying5 r0;obtain ⟨e,l1,e1⟩:=im7 r1 w1;obtain ⟨l,k1,k2,e2⟩:=ba6 aa6.cs aa6.ok Tryz.underlying58 gv3 (by decide) (by decide +kernel) (fun r=>by rw[aa6.ak5]; rfl) (fun m d' hm hr hw'=>ih m om d' hr hw') r2 w2;have hz':=jn4 hz;refine ⟨.mk z e l,aa6.fy2.2 ⟨hz'.1,hz'.2,l1,k1,k2⟩,fun m hm=>?_⟩
   cases m with
   | zero=>omega
   | succ m=>
    simp only[dv,Tryz.underlying68,zt,z6,dvF,e0 m om,e1 m om,e2 m om,Dep.cs,zm,zp,fh6,im5,gv2,gv3,zz,zo,ze,z4,↓reduceIte];rw[aa6.ak5];rfl
theorem gv4 {n:Nat}{d:DataW H}(h:Rd enc w base sp held n 57 d)(hw:WT Tryz.prog 57 d):∃ l:List Dep,l.length<2^62/\(∀ a∈l,a.fit)/\∀ m,n<=m->dv Tryz.prog m 57 d=zg [deps l]:=
 ba6 Dep.cs Dep.fit Tryz.underlying57 gv2 (by decide) (by decide +kernel) (fun _=>rfl) (fun _ _ _ hr hw'=>im7 hr hw') h hw
theorem bl9 {n:Nat}{d:DataW H}(h:Rd enc w base sp held n 58 d)(hw:WT Tryz.prog 58 d):∃ l:List aa6,l.length<2^62/\(∀ a∈l,a.ok)/\∀ m,n<=m->dv Tryz.prog m 58 d=zg [ai9 l]:=
 ba6 aa6.cs aa6.ok Tryz.underlying58 gv3 (by decide) (by decide +kernel) (fun r=>by rw[aa6.ak5]; rfl) (fun m d' _ hr hw'=>iy3 m d' hr hw') h hw
theorem iy4 {n:Nat}{d:DataW H}(h:Rd enc w base sp held n 59 d)(hw:WT Tryz.prog 59 d):∃ l:List Str,l.length<2^62/\(∀ a∈l,a.length<2^62)/\∀ m,n<=m->dv Tryz.prog m 59 d=zg [strs l]:=
 ba6 bh4 (fun s:Str=>s.length<2^62) Tryz.underlying59 id6 (by decide) (by decide +kernel) (fun _=>rfl) (fun _ _ _ hr hw'=>dc1 Tryz.underlying9 hr hw') h hw
theorem jn9 {n:Nat}{d:DataW H}(h:Rd enc w base sp held n 61 d)(hw:WT Tryz.prog 61 d):∃ p:aa3,p.Ok/\∀ m,n<=m->dv Tryz.prog m 61 d=zg p.cs:=by
 obtain ⟨n',ds,rfl,rfl,hl,hf⟩:=av4 Tryz.underlying61 h hw
 match ds,hl with
 | [d0,d1,d2,d3,d4,d5,d6,d7,d8,d9,d10,d11,d12],_=>
  obtain ⟨r0,w0⟩:=hf 0 _ d0 rfl rfl;obtain ⟨r1,w1⟩:=hf 1 _ d1 rfl rfl;obtain ⟨r2,w2⟩:=hf 2 _ d2 rfl rfl;obtain ⟨r3,w3⟩:=hf 3 _ d3 rfl rfl;obtain ⟨r4,w4⟩:=hf 4 _ d4 rfl rfl;obtain ⟨r5,w5⟩:=hf 5 _ d5 rfl rfl;obtain ⟨r6,w6⟩:=hf 6 _ d6 rfl rfl;obtain ⟨r7,w7⟩:=hf 7 _ d7 rfl rfl;obtain ⟨r8,w8⟩:=hf 8 _ d8 rfl rfl;obtain ⟨r9,w9⟩:=hf 9 _ d9 rfl rfl;obtain ⟨r10,w10⟩:=hf 10 _ d10 rfl rfl;obtain ⟨r11,w11⟩:=hf 11 _ d11 rfl rfl;obtain ⟨r12,w12⟩:=hf 12 _ d12 rfl rfl;obtain ⟨x0,l0,e0⟩:=dc1 Tryz.underlying9 r0 w0;obtain ⟨x1,l1,e1⟩:=gu9 r1 w1;obtain ⟨x2,_,_,e2⟩:=be7 Tryz.underlying5 r2;obtain ⟨x3,l3,e3⟩:=dc1 Tryz.underlying9 r3 w3;obtain ⟨x4,l4,k4,e4⟩:=gv4 r4 w4;obtain ⟨x5,l5,k5,e5⟩:=bl9 r5 w5;obtain ⟨x6,l6,k6,e6⟩:=bl9 r6 w6;obtain ⟨x7,l7,k7,e7⟩:=gv4 r7 w7;obtain ⟨x8,l8,k8,e8⟩:=bl9 r8 w8;obtain ⟨x9,l9,k9,e9⟩:=bl9 r9 w9;obtain ⟨x10,l10,k10,e10⟩:=bl9 r10 w10;obtain ⟨x11,l11,k11,e11⟩:=bl9 r11 w11;obtain ⟨x12,l12,k12,e12⟩:=iy4 r12 w12;refine ⟨⟨x0,x1,x2,x3,x4,x5,x6,x7,x8,x9,x10,x11,x12⟩,⟨l0,l3,l1,⟨l4,k4⟩,⟨l7,k7⟩,⟨l12,k12⟩,?_⟩,fun m hm=>?_⟩
  ·intro x hx;simp only[aa3.rows,zk,zu,or_false] at hx;rcases hx with rfl|rfl|rfl|rfl|rfl|rfl
   ·exact ⟨l5,k5⟩
   ·exact ⟨l6,k6⟩
   ·exact ⟨l8,k8⟩
   ·exact ⟨l9,k9⟩
   ·exact ⟨l10,k10⟩
   ·exact ⟨l11,k11⟩
  cases m with
  | zero=>omega
  | succ m=>
   simp only[dv,Tryz.underlying61,zt,z6,dvF,e0 m om,e1 m om,e2 m om,e3 m om,e4 m om,e5 m om,e6 m om,e7 m om,e8 m om,e9 m om,e10 m om,e11 m om,e12 m om,EVR.cs,zm,zp,id6,im5,iy2,jn6,fh6,jn7,jn5,zz,zo,ze,z4,↓reduceIte];rfl
theorem gv5 {n:Nat}{d:DataW H}(h:Rd enc w base sp held n 23 d)(hw:WT Tryz.prog 23 d):∃ l:List aa3,l.length<2^62/\(∀ a∈l,a.Ok)/\∀ m,n<=m->dv Tryz.prog m 23 d=zg [.aa4 (l.map aa3.cs)]:=
 ba6 aa3.cs aa3.Ok Tryz.underlying23 jn5 (by decide) (by decide +kernel) (fun _=>rfl) (fun _ _ _ hr hw'=>jn9 hr hw') h hw
theorem iy5 {n:Nat}{d:DataW H}(h:Rd enc w base sp held n 63 d)(hw:WT Tryz.prog 63 d):∃ r:ao2,ao2.Ok r/\∀ m,n<=m->dv Tryz.prog m 63 d=zg r.cs:=by
 obtain ⟨n',ds,rfl,rfl,hl,hf⟩:=av4 Tryz.underlying63 h hw
 match ds,hl with
 | [d0,d1],_=>
  obtain ⟨r0,w0⟩:=hf 0 _ d0 rfl rfl;obtain ⟨r1,w1⟩:=hf 1 _ d1 rfl rfl;obtain ⟨z,_,_,e0⟩:=be7 Tryz.underlying3 r0;obtain ⟨l,k1,k2,e1⟩:=gv5 r1 w1;refine ⟨⟨z,l⟩,⟨k1,k2⟩,fun m hm=>?_⟩
  cases m with
  | zero=>omega
  | succ m=>
   simp only[dv,Tryz.underlying63,zt,z6,dvF,e0 m om,e1 m om,zm,zp,gv1,jn8,im6,zz,zo,ze,z4,↓reduceIte];rfl
theorem id7 {n:Nat}{d:DataW H}(h:Rd enc w base sp held n 22 d)(hw:WT Tryz.prog 22 d):∃ l:List ao2,l.length<2^62/\(∀ a∈l,ao2.Ok a)/\∀ m,n<=m->dv Tryz.prog m 22 d=zg [.aa4 (l.map ao2.cs)]:=
 ba6 ao2.cs ao2.Ok Tryz.underlying22 im6 (by decide) (by decide +kernel) (fun _=>rfl) (fun _ _ _ hr hw'=>iy5 hr hw') h hw
end Go.Id.Tryz
namespace Go.Id
open Go Go.Id
mutual
def isz:IV->Nat
 | .str s=>s.length+1
 | .aa4 es=>cu4 es+1
 | _=>1
def bd8:List IV->Nat
 | []=>0
 | c::cs=>isz c+bd8 cs
def cu4:List (List IV)->Nat
 | []=>0
 | e::es=>bd8 e+cu4 es
end
theorem ez4 (a b:List IV):bd8 (a++b)=bd8 a+bd8 b:=by
 induction a with
 | nil=>simp[bd8]
 | cons x a ih=>simp only[zz,bd8,ih]; omega
theorem bx9 {α:Type}(f:α->List IV):∀ (l:List α),∀ a∈l,bd8 (f a)<=cu4 (l.map f):=by
 intro l
 induction l with
 | nil=>intro a h; cases h
 | cons x l ih=>
  intro a h;simp only[zt,cu4];rcases zk.1 h with rfl|h
  ·omega
  ·have:=ih a h; omega
theorem au5 {α:Type}(f:α->List IV)(hf:∀ a,1<=bd8 (f a)):∀ (l:List α),l.length<=cu4 (l.map f):=by
 intro l
 induction l with
 | nil=>simp
 | cons x l ih=>
  simp only[zt,cu4,zm];have:=hf x;omega
namespace Md
theorem Dep.szs (d:Dep):bd8 d.cs=d.name.length+d.evr.ver.length+d.evr.rel.length+5:=by
 simp only[Dep.cs,bd8,isz]; omega
theorem aa6.szs (r:aa6):bd8 r.cs=r.dep.name.length+r.dep.evr.ver.length+r.dep.evr.rel.length+cu4 (r.args.map aa6.cs)+7:=by
 rw[aa6.ak5]; simp only[bd8,isz]; omega
theorem aa3.szs (p:aa3):bd8 p.cs=p.name.length+p.evr.ver.length+p.evr.rel.length+p.vendor.length+cu4 (p.provides.map Dep.cs)+cu4 (p.requires.map aa6.cs)+cu4 (p.conflicts.map aa6.cs)+cu4 (p.aa7.map Dep.cs)+cu4 (p.ac6.map aa6.cs)+cu4 (p.ac1.map aa6.cs)+cu4 (p.suggests.map aa6.cs)+cu4 (p.af4.map aa6.cs)+cu4 (p.files.map bh4)+15:=by
 simp only[aa3.cs,bd8,isz]; omega
theorem ao2.szs (r:ao2):bd8 r.cs=cu4 (r.packages.map aa3.cs)+2:=by
 simp only[ao2.cs,bd8,isz]; omega
theorem gc4 (r:aa6):r.count<=bd8 r.cs:=by
 induction r using aa6.ind with
 | h k d xs ih=>
  rw[aa6.szs]
  have:∀ ys:List aa6,(∀ y∈ys,y∈xs)->aa6.counts ys<=cu4 (ys.map aa6.cs):=by
   intro ys
   induction ys with
   | nil=>intro _; simp[aa6.counts]
   | cons y ys ih2=>
    intro h;have h1:=ih y (h y (qm ..));have h2:=ih2 fun z hz=>h z (qk _ hz)
    simp only[aa6.counts,zt,cu4];omega
  have:=this xs fun y h=>h
  simp only[aa6.count,aa6.args];omega
theorem ih6 (r:aa6):r.ok->bd8 r.cs<2^31->r.fit:=by
 induction r using aa6.ind with
 | h k d xs ih=>
  intro ho hs;obtain ⟨a,b,c,e,f⟩:=aa6.fy2.1 ho;rw[aa6.szs] at hs;simp only[aa6.args] at hs;have hl:=au5 aa6.cs (fun r=>by rw[aa6.szs]; omega) xs;refine aa6.bc6.2 ⟨a,b,c,om,fun r hr=>ih r hr (f r hr) ?_⟩;have:=bx9 aa6.cs xs r hr;omega
theorem ha9 {p:aa3}(h:p.Ok)(hs:bd8 p.cs<2^31):p.Fit:=by
 rw[aa3.szs] at hs;have l1:=au5 Dep.cs (fun r=>by rw[Dep.szs]; omega) p.provides;have l2:=au5 Dep.cs (fun r=>by rw[Dep.szs]; omega) p.aa7;have l3:=au5 bh4 (fun r=>by simp only[bh4,bd8,isz]; omega) p.files
 have hr:∀ x∈p.rows,cu4 (x.2.map aa6.cs)<2^31:=by
  intro x hx;simp only[aa3.rows,zk,zu,or_false] at hx;rcases hx with rfl|rfl|rfl|rfl|rfl|rfl<;>simp only[]<;>omega
 exact {
  name:=h.name
  evr:=h.evr
  ax9:=⟨om,h.ax9.2⟩
  obs:=⟨om,h.obs.2⟩
  files:=⟨om,h.files.2⟩
  rich:=fun x hx=>by
   have h1:=hr x hx;have h2:=au5 aa6.cs (fun r=>by rw[aa6.szs]; omega) x.2;refine ⟨om,fun r hr'=>?_⟩;have h3:=bx9 aa6.cs x.2 r hr';have h4:=gc4 r;exact ⟨ih6 r ((h.rich x hx).2 r hr') om,om⟩ }
theorem hb7 (repos:List ao2):am4 repos<=cu4 (repos.map ao2.cs):=by
 induction repos with
 | nil=>simp[am4]
 | cons r rs ih=>
  have h2:=au5 aa3.cs (fun r=>by rw[aa3.szs]; omega) r.packages;have h3:=ao2.szs r;simp only[am4,zt,List.sum_cons,cu4] at ih ⊢;omega
end Md
end Go.Id
