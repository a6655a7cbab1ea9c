/- What a state must hold to: the model made,walked. Conditions: sizes that fit. -/
import Derived.Test.YtebfbbjghhagbaaGreatDoorTMMH
import Derived.Test.YtebfbbjghhagbaaGreatDoorTMMK
import Derived.Test.YtebfbbjghhagbaaGreatDoorTMSD
import Derived.Test.YtebfbbjghhagbaaGreatDoorTMSJ
import Derived.Test.YtebfbbjghhagbaaGreatDoorMw
import Derived.Test.YtebfbbjghhagbaaGreatDoorTMPD
import Derived.Test.YtebfbbjghhagbaaGreatDoorFwZb
set_option linter.all false
namespace Go.Id.Tryz
open Go Go.Id Go.Proofs Go.Shelf Go.Id.Md
set_option maxRecDepth 100000
set_option maxHeartbeats 1000000
theorem MO.frz {s:Store}{pp mid:Nat}{a:ac4}{allv itv:IV}(h:MO s pp mid a.v (al5 a.l) allv itv a.l a.items):cm1 s 0 (.ptr pp 0) a.mv:=by
 refine .ptr pp 0 _ _ (Nat.not_lt_zero _) (.inl h.cell) (Nat.le_refl _) fun j hj=>?_
 match j,hj with
 | 0,_=>exact .keep _ (ag8 a)
 | 1,_=>exact .keep _ (as7 _)
 | 2,_=>
  exact h.all.frz (fun x hx=>(bc1 _ x hx).1) (fun _ _=>Nat.not_lt_zero _) fun e he c hc=>by
   obtain ⟨y,_,rfl⟩:=List.mem_map.1 he
   exact az2 y c hc
 | 3,_=>
  exact h.grow.frz (fun x hx=>(et2 _ x hx).1) (fun _ _=>Nat.not_lt_zero _) fun e he c hc=>by
   obtain ⟨y,_,rfl⟩:=List.mem_map.1 he
   exact dq9 y c hc
 | 4,_=>
  refine .map mid (ba1 a.items) (ba1 a.items) (ba1 a.items) (Nat.not_lt_zero _) h.map rfl (List.Perm.refl _) (ga4 a.nodup) (fun i hi=>?_) fun i hi=>?_
  ·have:(ba1 a.items).getD i (.undef,.undef)∈ba1 a.items:=ad2 _ hi;obtain ⟨x,_,hx⟩:=List.mem_map.1 this;rw[<- hx]; exact .keep _ (bn8 x)
  ·have:(ba1 a.items).getD i (.undef,.undef)∈ba1 a.items:=ad2 _ hi;obtain ⟨x,_,hx⟩:=List.mem_map.1 this;rw[<- hx]; exact .keep _ (.agg _ fun c hc=>by cases hc)
theorem ek7 (a:ac4)(hA:AOK a)(hI:0<=a.p.inst)(hIt:a.items.length<2^30):PC Tryz.prog EE 42 [a.v] (.tuple [a.mv,.int .i64 0]):=by
 refine hx8 hE fok42 (nZ rfl) (aj1 (ag8 a)) ?_;have hP:=cl4 a;have hT:=en9 a.p hA.len fun x hx=>⟨hA.fit x hx,hA.tiny x hx⟩
 have hC:=ay8 a.p;have hrl:a.p.rows.length=a.l.length:=by show _=(ad4 a.p).length; simp[ad4]
 rw[hrl] at hC;have hlen:=hA.len
 have hpk:∀ j (h:j<a.l.length),PC Tryz.prog EE 91 [a.p.v,.int .i64 j] (.tuple [.agg (a.pk j).cs,.int .i64 0]):=fun j h=>by
  have hj:j<a.p.rows.length:=by omega
  have hq:a.p.rows[j].pkg=a.pk j:=by
   have:a.pk j=a.l[j]:=by simp[ac4.pk,List.getD_eq_getElem?_getD,h]
   rw[this]; simp[ac4.l,ad4]
  have h1:=be5 a.p j hj (by rw[hq]; exact hA.fit _ (et1 a h));rw[hq] at h1; exact h1
 have vcs:a.v.cs=[a.v]:=rfl;have vlf:a.v.leaf=true:=rfl;have pvl:a.p.v.leaf=true:=rfl;have pvc:a.p.v.cs=[a.p.v]:=rfl;have tvl:(al5 a.l).leaf=true:=rfl;have tvc:(al5 a.l).cs=[al5 a.l]:=rfl;have hnl:∀ d:TypeId,bv7 (.pointer d) a.v=some false:=fun _=>rfl
 have hT:PC Tryz.prog EE 94 [a.p.v] (.tuple [al5 a.l,.int .i64 0]):=hT;simp only[ic42];refine ae5 (ah7 ?_);simp only[go_sem];refine ae5 (ah7 ?_);simp only[go_sem,hnl];refine ae5 (ah7 ?_);simp only[go_sem,vcs,vlf]
 first|refine aa4 fok26 (hP) ?_|refine aa2 (hP) ?_
 simp only[go_sem,pvl,pvc]
 first|refine aa4 fok94 (hT) ?_|refine aa2 (hT) ?_
 simp only[go_sem];refine ae5 (ah7 ?_);simp only[go_sem];refine ae5 (ah7 ?_);simp only[go_sem,vcs,vlf,tvl,tvc];refine ae5 (ae5 (ah7 ?_));simp only[go_sem,vcs,vlf]
 first|refine aa4 fok26 (hP) ?_|refine aa2 (hP) ?_
 simp only[go_sem,pvl,pvc]
 first|refine aa4 fok27 (hC) ?_|refine aa2 (hC) ?_
 simp only[go_sem]
 refine av3 (az1 (Q:=fun e f s=>e=.exit 0/\(∃ allv,MO s 1 0 a.v (al5 a.l) allv .aa1 a.l [])/\∃ rst:Frm,f=(0,a.v)::(6,.ptr 1 0)::rst)
  (ab7 noT (fun n fr s=>∃ gv,fr=[(0,a.v),(6,.ptr 1 0),(28,.int .i64 a.l.length),(29,.int .i64 (n:Int))]/\2<=s.next/\s.obj 0=some (.map [])/\s.obj 1=some (.cells [a.v,al5 a.l,gv,.aa1,.map 0])/\Grow s gv 15 ((a.l.take n).map aa3.cs)) a.l.length
   ⟨.aa1,rfl,Nat.le_refl _,rfl,rfl,.inl ⟨rfl,rfl⟩⟩ ?_) ?_)
 ·rintro n fr s hn ⟨gv,rfl,hnx,hm,ho,hg⟩;by_cases hlt:n<a.l.length
  ·have d1:(n:Int)<a.l.length:=by omega
   have w1:=ad6 (i:=n) (by omega);have hp:=hpk n hlt;have n1:¬ 1=s.next:=by omega
   have n0:¬ 0=s.next:=by omega
   have htk:a.l.take (n+1)=a.l.take n++[a.pk n]:=by
    have:a.pk n=a.l[n]:=by simp[ac4.pk,List.getD_eq_getElem?_getD,hlt]
    rw[this,List.take_add_one,List.getElem?_eq_getElem hlt]; rfl
   have hgl:gv.leaf=true:=by rcases hg with ⟨rfl,_⟩|⟨id,rfl,_⟩<;>rfl
   have hgc:gv.cs=[gv]:=by rcases hg with ⟨rfl,_⟩|⟨id,rfl,_⟩<;>rfl
   obtain ⟨S,hS⟩:∃ S:Store,S=(({ next:=s.next+1,obj:=s.obj }:Store).put s.next (ak5.cells [.str [],.int .i64 0,.str [],.str [],.int .u8 0,.str [],.aa1,.aa1,.aa1,.aa1,.aa1,.aa1,.aa1,.aa1,.aa1])).put s.next (ak5.cells (a.pk n).cs):=⟨_,rfl⟩;have So:∀ i,¬ i=s.next->S.obj i=s.obj i:=fun i hi=>by rw[hS]; simp only[aa7,hi,if_false]
   have hg1:Grow (⟨s.next+1+11,S.obj⟩:Store) gv 15 ((a.l.take n).map aa3.cs):=hg.mono (by show s.next<=s.next+1+11; omega) fun id _ hid=>So id (by omega)
   have hap:=al4 (nid:=s.next+1+7) (e:=(a.pk n).cs) hg1 (bc1 _) ⟨rfl,rfl⟩ (by rw[List.length_map,List.length_take]; omega);rw[List.length_map] at hap;have k1:=af4 hg1 1 _ (by rw[<- ho]; exact So 1 n1) (fun _ e=>by cases e);have k0:=af4 hg1 0 _ (by rw[<- hm]; exact So 0 n0) (fun _ e=>by cases e);have kn:(ai2 gv (⟨s.next+1+11,S.obj⟩:Store)).next=s.next+1+11:=ad9 gv;have m1:¬ 1=s.next+1+7:=by omega
   have m0:¬ 0=s.next+1+7:=by omega
   have hcl:∀ i cs,¬ i=s.next->s.obj i=some (.cells cs)->S.obj i=some (.cells cs):=fun i cs h1 h2=>by rw[So i h1]; exact h2
   simp only[go_sem,d1,vcs,vlf]
   first|refine aa4 fok26 (hP) ?_|refine aa2 (hP) ?_
   simp only[go_sem,pvl,pvc]
   first|refine aa4 fok91 (hp) ?_|refine aa2 (hp) ?_
   simp only[go_sem,ag4,ag6,ac9,n1,n0,ho,b_o,b_p,b_t];rw[<- hS];generalize ai2 gv (⟨s.next+1+11,S.obj⟩:Store)=K at *;simp only[show s.next+1+1+1+1+1+1+1+1=s.next+1+7 from rfl,hap,go_sem,m1,m0,k1,k0,w1];refine ⟨hlt,_,by rw[kn]; omega,rfl,?_⟩;rw[htk,List.map_append];refine .inr ⟨s.next+1+7,by rw[List.length_append,List.length_map]; rfl,?_,by rw[kn]; omega⟩;simp only[aa7];rw[if_neg (fun e=>m1 e.symm),if_pos trivial]; rfl
  ·have d1:¬ (n:Int)<a.l.length:=by omega
   rw[List.take_of_length_le (by omega)] at hg;simp only[go_sem,d1];exact ⟨⟨gv,{ cell:=ho,grow:=.inl ⟨rfl,rfl⟩,map:=hm,all:=hg,ne:=fun _ _ _ _ h=>(by cases h),lt:=⟨by omega,by omega⟩ }⟩,_,rfl⟩
 rintro e f t ⟨rfl,⟨allv,hM⟩,rst,rfl⟩;simp only[go_sem];refine ae5 (ah7 ?_);simp only[go_sem];refine ah1 fok95 (it3 a hA hI t 1 0 _ _ _ hM hIt) ?_;rintro v s ⟨s1,itv,hM2⟩;refine ⟨s1,?_⟩;simp only[go_sem];refine ah7 ?_;simp only[go_sem];exact .cl8 (.cons hM2.frz (.cons (bv6 rfl) .nil))
set_option maxHeartbeats 1000000
def et5 (repos:List al7)(inst:List aa3):List aa3:=inst++repos.flatMap fun r=>r.packages
theorem gw8 (repos:List al7)(inst:List aa3)(hN:inst.length+ak7 repos<=256)(hr:repos.length<=16):PC Tryz.prog EE 41 [as5 repos,az3 inst] (az3 (et5 repos inst)):=by
 refine ae8 hE fok41 (nZ rfl) (aj6 (bo3 repos) (av8 inst)) ?_;have g0:Grow (({ next:=2,obj:=emp.obj }:Store).put 0 (ak5.row [])) (.slice 0 0 0 15) 15 []:=.inr ⟨0,rfl,by rw[aa7,if_pos rfl]; rfl,by show 0<2; omega⟩;obtain ⟨v1,t1,a1,n1,q1,_,_⟩:=bm1 (nid:=1) (xs:=inst.map aa3.cs) g0 (fun x h=>by cases h) (bc1 _) (by rw[List.length_map,List.length_nil]; omega) (by show 1<2; omega);rw[List.nil_append] at q1;simp only[ic41,go_sem,a1];refine ab7 noT (fun i fr t=>∃ gv,fr=[(0,as5 repos),(5,gv),(6,.int .i64 (i:Int))]/\Grow t gv 15 ((et5 (repos.take i) inst).map aa3.cs)/\(et5 (repos.take i) inst).length+ak7 (repos.drop i)=inst.length+ak7 repos) repos.length ⟨v1,rfl,by simpa [et5] using q1,by simp[et5]⟩ ?_;rintro i fr t hle ⟨gv,rfl,hg,hsum⟩;by_cases hlt:i<repos.length
 ·obtain ⟨a,ha,_,hdr,hget,htk⟩:=ae3 repos i hlt;have c1:(i:Int)<repos.length:=by omega
  have c2:(0:Int)<=i:=by omega
  have w1:=ad6 (i:=i) (by omega);rw[bz6 repos i a hdr] at hsum
  have hap:et5 (repos.take (i+1)) inst=et5 (repos.take i) inst++a.packages:=by
   unfold et5
   have:repos.take (i+1)=repos.take i++[a]:=by
    rw[List.take_add_one];have:=congrArg List.head? hdr;rw[List.head?_drop] at this;rw[this]; rfl
   rw[this,List.flatMap_append]; simp
  obtain ⟨v2,t2,a2,n2,q2,_,_⟩:=bm1 (nid:=t.next) (xs:=a.packages.map aa3.cs) (hg.mono (σ':=⟨t.next+1,t.obj⟩) (Nat.le_succ _) fun _ _ _=>rfl) (bc1 _) (bc1 _) (by rw[List.length_map,List.length_map]; omega) (Nat.lt_succ_self _);simp only[go_sem,c1,c2,hget,ao4,aq3,aq2,al7.cs,a2,w1];refine ⟨hlt,v2,rfl,?_,?_⟩
  ·rw[hap,List.map_append]; exact q2
  ·rw[hap,List.length_append]; omega
 ·have hi':i=repos.length:=by omega
  subst hi';have c1:¬ (repos.length:Int)<repos.length:=by omega
  rw[List.take_length] at hg;simp only[go_sem,c1];refine hg.frz (fun x hx=>(bc1 _ x hx).1) (fun _ _=>Nat.not_lt_zero _) fun e he c hc=>?_
  obtain ⟨y,_,rfl⟩:=List.mem_map.1 he;exact az2 y c hc
def dk6 (all:List aa3)(inst:Int)(r:Req):IV:=if ak8 r inst=0 then .tuple [.ac1 (az3 all::.int .i64 inst::r.cs),.int .i64 0] else .tuple [.ab6,.int .i64 (ak8 r inst)]
theorem gw9 (all:List aa3)(inst:Int)(r:Req)(hR:du1 r):PC Tryz.prog EE 40 [az3 all,.int .i64 inst,.agg r.cs] (dk6 all inst r):=by
 refine ae8 hE fok40 (nZ rfl) (az8 (av8 all) (.int _ _) (.agg _ (bc4 r))) ?_;have hm:=gv5 r.aq4;have k0:r.cs.head? = some (.int .u8 r.aq4):=rfl;have k2:(r.cs.drop 2).head? = some (be4 r.ah4):=rfl;have k3:(r.cs.drop 3).head? = some (au7 r.ah9):=rfl;have k4:(r.cs.drop 4).head? = some (.int .i64 r.budget):=rfl;obtain ⟨V,hV⟩:∃ V,dk6 all inst r=V:=⟨_,rfl⟩
 have herr:∀ (s:Store) (e:Int),ak8 r inst=e->e≠0->cm1 s 0 (.tuple [.ab6,.int .i64 e]) V:=fun s e h1 h2=>by
  rw[<- hV];unfold dk6;rw[h1,if_neg h2];exact .keep _ (.tuple _ (aj6 .ab6 (.int _ _)))
 rw[hV];by_cases c1:bt1 r.aq4=false
 ·rw[c1] at hm;simp only[ic40,go_sem,ag7,k0]
  first|refine aa4 fok92 (hm) ?_|refine aa2 (hm) ?_
  simp only[go_sem];exact herr _ 1 (by unfold ak8; rw[if_pos (.inl c1)]) (by decide)
 have c1':bt1 r.aq4=true:=by simpa using c1
 rw[c1'] at hm;by_cases c2:r.budget<0
 ·simp only[ic40,go_sem,ag7,k0]
  first|refine aa4 fok92 (hm) ?_|refine aa2 (hm) ?_
  simp only[go_sem,k4,c2];exact herr _ 1 (by unfold ak8; rw[if_pos (.inr (.inl c2))]) (by decide)
 by_cases c3:1099511627776<r.budget
 ·simp only[ic40,go_sem,ag7,k0]
  first|refine aa4 fok92 (hm) ?_|refine aa2 (hm) ?_
  simp only[go_sem,k4,c2,c3];exact herr _ 1 (by unfold ak8; rw[if_pos (.inr (.inr c3))]) (by decide)
 have q1:¬ (bt1 r.aq4=false\/r.budget<0\/1099511627776<r.budget):=fun h=>h.elim c1 fun h=>h.elim c2 c3
 by_cases c4:64<r.ah4.length
 ·have c4':(64:Int)<r.ah4.length:=by omega
  simp only[ic40,go_sem,ag7,k0]
  first|refine aa4 fok92 (hm) ?_|refine aa2 (hm) ?_
  simp only[go_sem,k4,c2,c3,k2,c4'];exact herr _ 40 (by unfold ak8; rw[if_neg q1,if_pos (.inl c4)]) (by decide)
 have c4':¬ (64:Int)<r.ah4.length:=by omega
 by_cases c5:64<r.ah9.length
 ·have c5':(64:Int)<r.ah9.length:=by omega
  simp only[ic40,go_sem,ag7,k0]
  first|refine aa4 fok92 (hm) ?_|refine aa2 (hm) ?_
  simp only[go_sem,k4,c2,c3,k2,k3,c4',c5'];exact herr _ 40 (by unfold ak8; rw[if_neg q1,if_pos (.inr c5)]) (by decide)
 have c5':¬ (64:Int)<r.ah9.length:=by omega
 have q2:¬ (64<r.ah4.length\/64<r.ah9.length):=fun h=>h.elim c4 c5
 simp only[ic40,go_sem,ag7,k0]
 first|refine aa4 fok92 (hm) ?_|refine aa2 (hm) ?_
 simp only[go_sem,k4,c2,c3,k2,k3,c4',c5'];refine ab7 noT (fun i fr t=>fr=[(0,az3 all),(1,.int .i64 inst),(5,.ac1 r.cs),(8,.int .i64 (i:Int))]/\(r.ah4.drop i).all ay5=r.ah4.all ay5) r.ah4.length ⟨rfl,rfl⟩ ?_;rintro i fr t hi ⟨rfl,ha⟩;by_cases hlt:i<r.ah4.length
 ·obtain ⟨x,hx,_,hdr,hget,_⟩:=ae3 r.ah4 i hlt;have d1:(i:Int)<r.ah4.length:=by omega
  have d2:(0:Int)<=i:=by omega
  have w1:=ad6 (i:=i) (by omega);obtain ⟨hs1,hs2⟩:=hR.ij5 x hx;have hmay:=ej7 x.dep (by omega) (by have:=hs1.2.2.1; omega) (by have:=hs1.2.2.2; omega);have x0:x.cs.head? = some (.int .u8 x.kind):=rfl;have x1:=cq8 x;have x2:(x.cs.drop 1).length=5:=rfl;rw[hdr,List.all_cons] at ha
  have hbad:ay5 x=false->ak8 r inst=4:=fun h=>by
   rw[h,Bool.false_and] at ha;unfold ak8; rw[if_neg q1,if_neg q2,if_pos ha.symm]
  by_cases e1:x.kind<1
  ·have e1':¬ 1<=x.kind:=by omega
   simp only[go_sem,d1,d2,k2,hget,ax4,x0,e1];exact herr _ 4 (hbad (by unfold ay5; simp[e1'])) (by decide)
  by_cases e2:4<x.kind
  ·have e2':¬ x.kind<=4:=by omega
   simp only[go_sem,d1,d2,k2,hget,ax4,x0,e1,e2];exact herr _ 4 (hbad (by unfold ay5; simp[e2'])) (by decide)
  have e1':1<=x.kind:=by omega
  have e2':x.kind<=4:=by omega
  simp only[go_sem,d1,d2,k2,hget,ax4,x0,x1,x2,e1,e2]
  first|refine aa4 fok93 (hmay) ?_|refine aa2 (hmay) ?_
  cases hb:ah5 x.dep with
  | false=>
   simp only[go_sem]
   exact herr _ 4 (hbad (by unfold ay5; simp[hb])) (by decide)
  | true=>
   have:ay5 x=true:=by unfold ay5; simp[e1',e2',hb]
   rw[this,Bool.true_and] at ha;simp only[go_sem,w1];exact ⟨hlt,ha⟩
 have hi':i=r.ah4.length:=by omega
 subst hi';rw[List.drop_length] at ha;have hjm:¬ r.ah4.all ay5=false:=by rw[<- ha]; simp
 have d1:¬ (r.ah4.length:Int)<r.ah4.length:=by omega
 simp only[go_sem,d1,k2];refine ab7 noT (fun i fr t=>fr=[(0,az3 all),(1,.int .i64 inst),(5,.ac1 r.cs),(9,.int .i64 (i:Int))]/\((r.ah9.drop i).all fun e=>au1 e r.ah4.length inst)=r.ah9.all fun e=>au1 e r.ah4.length inst) r.ah9.length ⟨rfl,rfl⟩ ?_;clear ha;rintro i fr t hi ⟨rfl,ha⟩;by_cases hlt:i<r.ah9.length
 ·obtain ⟨x,hx,_,hdr,hget,_⟩:=ae3 r.ah9 i hlt;have d1:(i:Int)<r.ah9.length:=by omega
  have d2:(0:Int)<=i:=by omega
  have w1:=ad6 (i:=i) (by omega);have x0:x.cs.head? = some (.int .u8 x.kind):=rfl;have x1:(x.cs.drop 1).head? = some (.int .i64 x.n):=rfl;rw[hdr,List.all_cons] at ha
  have hbad:au1 x r.ah4.length inst=false->ak8 r inst=5:=fun h=>by
   rw[h,Bool.false_and] at ha;unfold ak8; rw[if_neg q1,if_neg q2,if_neg hjm,if_pos ha.symm]
  have hgood:au1 x r.ah4.length inst=true->((r.ah9.drop (i+1)).all fun e=>au1 e r.ah4.length inst)=r.ah9.all fun e=>au1 e r.ah4.length inst:=fun h=>by
   rw[h,Bool.true_and] at ha; exact ha
  unfold au1 at hbad hgood;by_cases e1:0<=x.n
  case neg=>
   simp only[go_sem,d1,d2,k2,k3,hget,aq9,ao6,aj3,x0,x1,e1];exact herr _ 5 (hbad (by simp[e1])) (by decide)
  by_cases e2:x.kind=1
  ·by_cases e3:x.n<r.ah4.length
   ·simp only[go_sem,d1,d2,k2,k3,hget,aq9,ao6,aj3,x0,x1,e1,e2,e3,w1];exact ⟨hlt,hgood (by simp[e1,e2,e3])⟩
   ·simp only[go_sem,d1,d2,k2,k3,hget,aq9,ao6,aj3,x0,x1,e1,e2,e3];exact herr _ 5 (hbad (by simp[e2,e3])) (by decide)
  ·by_cases e4:1<x.kind
   ·by_cases e5:x.kind<=4
    ·have e6:1<=x.kind:=by omega
     by_cases e3:x.n<inst
     ·simp only[go_sem,d1,d2,k2,k3,hget,aq9,ao6,aj3,x0,x1,e1,e2,e3,e4,e5,w1];exact ⟨hlt,hgood (by simp[e1,e2,e3,e5,e6])⟩
     ·simp only[go_sem,d1,d2,k2,k3,hget,aq9,ao6,aj3,x0,x1,e1,e2,e3,e4,e5];exact herr _ 5 (hbad (by simp[e2,e3])) (by decide)
    ·simp only[go_sem,d1,d2,k2,k3,hget,aq9,ao6,aj3,x0,x1,e1,e2,e4,e5];exact herr _ 5 (hbad (by simp[e5])) (by decide)
   ·have e6:¬ 1<=x.kind:=by omega
    simp only[go_sem,d1,d2,k2,k3,hget,aq9,ao6,aj3,x0,x1,e1,e2,e4];exact herr _ 5 (hbad (by simp[e6])) (by decide)
 have hi':i=r.ah9.length:=by omega
 subst hi';rw[List.drop_length] at ha;have hem:¬ (r.ah9.all fun e=>au1 e r.ah4.length inst)=false:=by rw[<- ha]; simp
 have d2:¬ (r.ah9.length:Int)<r.ah9.length:=by omega
 have hz:ak8 r inst=0:=by unfold ak8; rw[if_neg q1,if_neg q2,if_neg hjm,if_neg hem]
 have hrc:r.cs=[.int .u8 r.aq4,.bool r.vendor,be4 r.ah4,au7 r.ah9,.int .i64 r.budget]:=rfl;rw[<- hV];unfold dk6;rw[if_pos hz];have rl:r.cs.length=5:=rfl;simp only[go_sem,d2,k3,rl,bj5,ag7];refine .keep _ (.tuple _ (aj6 (.ac1 _ fun c hc=>?_) (.int _ _)));rcases List.mem_cons.1 hc with rfl|hc
 ·exact av8 all
 ·rcases List.mem_cons.1 hc with rfl|hc
  ·exact .int _ _
  ·exact bc4 r c hc
open Go Go.Id Go.Proofs Go.Id.Md
theorem aok {repos:List al7}{inst:List aa3}{p:Pool}{r:Req}(hI:gz7 repos inst)(hn:bs9 repos inst=.inl p)(hR:du1 r)(he:ak8 r p.inst=0):AOK ⟨p,r⟩:=by
 have hf:=hm6 hI hn;have hlen:(ad4 p).length<=256:=by simp only[ad4,List.length_map]; exact er7 hn
 unfold ak8 at he;split at he
 ·cases he
 split at he
 ·cases he
 rename_i hb;split at he
 ·cases he
 rename_i hj;refine ⟨hlen,fun x hx=>(hf x hx).2.1,fun x hx=>(hf x hx).1,fun x hx=>(hf x hx).2.2,?_,?_,?_,fun j hj=>(hR.ij5 j hj).1,fun j hjm=>?_⟩
 ·have h1:=cv8 hn
  have h2:p.inst=inst.length:=by
   unfold bs9 at hn;split at hn
   ·cases hn
   split at hn
   ·cases hn
   split at hn
   ·cases hn; rfl
   ·cases hn
  show p.inst<=((ad4 p).length:Nat);rw[h2,h1,List.length_append]; omega
 ·show r.ah4.length<=64; omega
 ·show r.ah9.length<=128; omega
 ·have h1:r.ah4.all ay5=true:=by simpa using hj
  have h2:=List.all_eq_true.1 h1 j hjm;unfold ay5 at h2;simp only[Bool.and_eq_true,decide_eq_true_eq] at h2;exact ⟨h2.1.1,h2.1.2⟩
set_option maxHeartbeats 1000000
def fm5:IV:=.tuple [.ab6,.ab6,.ab6,.bool false,.bool false]
def ek8 (repos:List al7)(inst:List aa3)(r:Req):IV:=match bs9 repos inst with
 | .inr _=>fm5
 | .inl p=>if ak8 r p.inst=0 then .tuple [(ac4.mk p r).mv,(ac4.mk p r).v,.ac1 (az3 (et5 repos inst)::.int .i64 p.inst::r.cs),.bool true,.bool false] else fm5
theorem et6 {repos:List al7}{inst:List aa3}{p:Pool}{r:Req}(hI:gz7 repos inst)(hn:bs9 repos inst=.inl p)(hR:du1 r)(he:ak8 r p.inst=0):(ac4.mk p r).items.length<2^30/\0<=p.inst:=by
 have hA:=aok hI hn hR he;have hp:p.inst=inst.length:=(cp8 hn).2;refine ⟨ac4.ga9 _ (fun x hx=>?_) hA.len hA.inst hA.ah4,by rw[hp]; omega⟩;have hm:af8 x=true:=(er8 hn x hx).1;unfold af8 ad1 at hm;simp only[Bool.and_eq_true,decide_eq_true_eq] at hm;obtain ⟨⟨⟨⟨⟨⟨⟨⟨_,ho⟩,_⟩,_⟩,hrq⟩,hcf⟩,_⟩,_⟩,_⟩:=hm.1;exact ⟨by omega,by omega,by omega⟩
theorem eb4 (repos:List al7)(inst:List aa3)(r:Req)(hI:gz7 repos inst)(hR:du1 r):PC Tryz.prog EE 10 [as5 repos,az3 inst,.agg r.cs] (ek8 repos inst r):=by
 refine ae8 hE fok10 (nZ rfl) (az8 (bo3 repos) (av8 inst) (.agg _ (bc4 r))) ?_;have hp:=ck8 repos inst hI.r1 hI.i1 hI.s1 hI.rf hI.pf;have h12:=fun σ=>ic5 repos inst hI σ
 have nilb:∀ s:Store,cm1 s 0 fm5 fm5:=fun s=>.keep _ (.tuple _ fun c hc=>by
  simp only[List.mem_cons,List.not_mem_nil,or_false] at hc;rcases hc with rfl|rfl|rfl|rfl|rfl
  ·exact .ab6
  ·exact .ab6
  ·exact .ab6
  ·exact .bool _
  ·exact .bool _)
 unfold ek8
 cases hn:bs9 repos inst with
 | inr e=>
  have he:¬ e=0:=by rcases gu1 hn with rfl|rfl<;>decide
  rw[hn] at hp;simp only[ic10,go_sem,ag7]
  first|refine aa4 fok37 (hp) ?_|refine aa2 (hp) ?_
  simp only[iq2,go_sem];refine ah1 fok38 (h12 _) ?_;rintro v s ⟨s1,s2⟩;rw[hn] at s2;simp only at s2;subst s2;refine ⟨s1,?_⟩;simp only[go_sem,he]
  exact nilb _
 | inl p=>
  obtain ⟨g1,g2,_,_⟩:=cj4 hn;have hin:p.inst=inst.length:=(cp8 hn).2;rw[hn] at hp;have hf:=hm6 hI hn;have hlen:(ad4 p).length<=256:=by simp only[ad4,List.length_map]; exact er7 hn
  have hAN:=gj6 p r hR hlen fun x hx=>⟨(hf x hx).1,(hf x hx).2.2⟩
  have hAll:=gw8 repos inst g2 g1;have h15:=gw9 (et5 repos inst) p.inst r hR;have vcs:p.v.cs=[p.v]:=rfl;have vlf:p.v.leaf=true:=rfl;simp only[ic10,go_sem,ag7]
  first|refine aa4 fok37 (hp) ?_|refine aa2 (hp) ?_
  simp only[iq2,go_sem,vcs,vlf];refine ah1 fok38 (h12 _) ?_;rintro v s ⟨s1,s2⟩;rw[hn] at s2;simp only at s2;obtain ⟨id,X,Y,Z,rfl,hob⟩:=s2;refine ⟨s1,?_⟩;have rl:r.cs.length=5:=rfl;simp only[go_sem,rl,bj5,ag7]
  first|refine aa4 fok39 (hAN) ?_|refine aa2 (hAN) ?_
  by_cases he:ak8 r p.inst=0
  ·have hA:=aok hI hn hR he;obtain ⟨hIt,hI0⟩:=et6 hI hn hR he;have hM:=ek7 ⟨p,r⟩ hA hI0 hIt;have hav:(ac4.mk p r).v.leaf=true:=rfl;have hac:(ac4.mk p r).v.cs=[(ac4.mk p r).v]:=rfl;have hmv:(ac4.mk p r).mv.leaf=true:=rfl;have hmc:(ac4.mk p r).mv.cs=[(ac4.mk p r).mv]:=rfl;have hbm:=av7 ⟨p,r⟩;have hba:=ag8 ⟨p,r⟩;unfold ij3;unfold dk6 at h15;rw[if_pos he] at h15 ⊢;rw[if_pos he];generalize (ac4.mk p r).v=AV at *;generalize (ac4.mk p r).mv=MV at *;simp only[go_sem,hav,hac,hob];refine aa2 hAll ?_;simp only[go_sem,hob,rl,bj5,ag7];refine aa2 h15 ?_;simp only[go_sem,hav,hac]
   first|refine aa4 fok42 (hM) ?_|refine aa2 (hM) ?_
   simp only[go_sem];refine .keep _ (.tuple _ fun c hc=>?_);simp only[List.mem_cons,List.not_mem_nil,or_false] at hc;rcases hc with rfl|rfl|rfl|rfl|rfl
   ·exact hbm
   ·exact hba
   ·refine .ac1 _ fun c hc=>?_
    rcases List.mem_cons.1 hc with rfl|hc
    ·exact av8 _
    ·rcases List.mem_cons.1 hc with rfl|hc
     ·exact .int _ _
     ·exact bc4 r c hc
   ·exact .bool _
   ·exact .bool _
  ·unfold ij3;unfold dk6 at h15;rw[if_neg he] at h15 ⊢;rw[if_neg he];simp only[go_sem,hob];refine aa2 hAll ?_;simp only[go_sem,hob,rl,bj5,ag7];refine aa2 h15 ?_;simp only[go_sem,he];exact nilb _
def dr3 (x:Nat×Bool):IV:=.tuple [.int .i64 x.1,.bool x.2]
theorem bi7 {s:Store}(n:Nat)(b:Bool):cm1 s 0 (.tuple [.int .i64 n,.bool b]) (dr3 (n,b)):=.cl8 (.cons (ae1 _ _) (.cons (ab3 _) .nil))
theorem fm6 (r:aa8)(rs:List aa8)(deep n:Nat):co2 (r::rs) deep n=if big r.dep=true then (0,true) else
  if (by7 r (deep+1)).2=true\/2000<n+1+(by7 r (deep+1)).1 then (0,true) else co2 rs deep (n+1+(by7 r (deep+1)).1):=by
 simp only[co2]
theorem gd1 (r:aa8):∀ deep:Nat,deep<=21->r.ok->PC Tryz.prog EE 77 [ai5 r.args,.int .i64 deep] (dr3 (by7 r deep)):=by
 induction r using aa8.ind with
 | h k d xs ih=>
  intro deep hdeep hok;obtain ⟨o1,o2,o3,o4,o5⟩:=aa8.fl8.1 hok;refine ae8 hE fok77 (nZ rfl) (ao3 (aj7 _) (.int _ _)) ?_;by_cases b1:20<deep
  ·have c1:(20:Int)<deep:=by omega
   simp only[ic77,go_sem,aa8.args,by7,c1,b1,true_or];exact bi7 0 true
  have c1:¬ (20:Int)<deep:=by omega
  by_cases b2:100<xs.length
  ·have c2:(100:Int)<xs.length:=by omega
   simp only[ic77,go_sem,aa8.args,by7,c1,c2,b1,b2,or_true];exact bi7 0 true
  have c2:¬ (100:Int)<xs.length:=by omega
  simp only[ic77,go_sem,aa8.args,by7,c1,c2,b1,b2,or_self];refine ab7 noT (fun i fr s=>∃ n:Nat,fr=[(0,ai5 xs),(1,.int .i64 deep),(6,.int .i64 n),(7,.int .i64 i)]/\n<=2000/\co2 xs deep 0=co2 (xs.drop i) deep n) xs.length ⟨0,rfl,by omega,rfl⟩ ?_;rintro i fr s hi ⟨n,rfl,hn,hm⟩;by_cases hlt:i<xs.length
  ·obtain ⟨x,hx,hxi,hdr,hget,htk⟩:=ae3 xs i hlt;have c3:(i:Int)<xs.length:=by omega
   have c4:(0:Int)<=i:=by omega
   have w1:=ad6 (i:=i) (by omega);have w2:=ad6 (i:=deep) (by omega);have w3:=ad6 (i:=n) (by omega);rw[hdr,fm6] at hm;obtain ⟨k',d',ys⟩:=x;rw[show (aa8.mk k' d' ys).dep=d' from rfl] at hm;obtain ⟨x1,x2,x3,x4,x5⟩:=aa8.fl8.1 (o5 _ hx);have hA:=ih _ hx (deep+1) (by omega) (o5 _ hx)
   have hsz:IntKind.i64.wrap ((d'.name.length:Int)+d'.evr.ver.length)=((d'.name.length+d'.evr.ver.length:Nat):Int):=by
    have:=x3.1; have:=x3.2.1;rw[wrap64 (by omega) (by omega)]; omega
   simp only[go_sem,c3,c4,hget,aa8.an4,aa8.kind,aa8.dep,aa8.args,hsz,bi2] at hA ⊢;have hbig:big d'=(decide (500<d'.name.length+d'.evr.ver.length)||decide (500<d'.evr.rel.length)):=rfl;by_cases q1:500<d'.name.length+d'.evr.ver.length
   ·have e1:(500:Int)<((d'.name.length+d'.evr.ver.length:Nat):Int):=by omega
    have hb:big d'=true:=by rw[hbig]; simp[q1]
    rw[if_pos hb] at hm;simp only[go_sem,e1,hm];exact bi7 0 true
   have e1:¬ (500:Int)<((d'.name.length+d'.evr.ver.length:Nat):Int):=by omega
   by_cases q2:500<d'.evr.rel.length
   ·have e2:(500:Int)<d'.evr.rel.length:=by omega
    have hb:big d'=true:=by rw[hbig]; simp[q2]
    rw[if_pos hb] at hm;simp only[go_sem,c3,c4,hget,aa8.an4,aa8.kind,aa8.dep,aa8.args,e1,e2,hm];exact bi7 0 true
   have e2:¬ (500:Int)<d'.evr.rel.length:=by omega
   have hb:¬ big d'=true:=by rw[hbig]; simp[q1,q2]
   rw[if_neg hb] at hm;simp only[go_sem,c3,c4,hget,aa8.an4,aa8.kind,aa8.dep,aa8.args,e1,e2,w2];refine aa4 fok77 hA ?_;have hkl:(by7 (.mk k' d' ys) (deep+1)).1<=2000:=by rw[dj6]; exact er6 _ _
   generalize by7 (.mk k' d' ys) (deep+1)=ka at *
   have w4:IntKind.i64.wrap (((n+1:Nat):Int)+ka.1)=((n+1+ka.1:Nat):Int):=by
    rw[wrap64 (by omega) (by omega)]; omega
   cases hk2:ka.2 with
   | true=>
    rw[if_pos (.inl hk2)] at hm;simp only[go_sem,dr3,hk2,w3,w4,hm]
    exact bi7 0 true
   | false=>
    by_cases q3:2000<n+1+ka.1
    ·have e3:(2000:Int)<((n+1+ka.1:Nat):Int):=by omega
     rw[if_pos (.inr q3)] at hm;simp only[go_sem,dr3,hk2,w3,w4,e3,hm];exact bi7 0 true
    ·have e3:¬ (2000:Int)<((n+1+ka.1:Nat):Int):=by omega
     rw[if_neg (by rw[hk2]; simp; omega)] at hm;simp only[go_sem,dr3,hk2,w1,w3,w4,e3];exact ⟨hlt,n+1+ka.1,rfl,by omega,hm⟩
  ·have hi':i=xs.length:=by omega
   subst hi';have c3:¬ (xs.length:Int)<xs.length:=by omega
   rw[List.drop_length] at hm;simp only[go_sem,c3,hm,co2];exact bi7 n false
theorem fm7 (l:List aa8)(h1:l.length<2^62)(h2:∀ r∈l,r.ok):PC Tryz.prog EE 77 [ai5 l,.int .i64 0] (dr3 (co3 l 0)):=by
 have h:=gd1 (.mk 1 by2 l) 0 (by omega) (aa8.fl8.2 ⟨by omega,by omega,⟨by decide,by decide,by decide⟩,h1,h2⟩);rw[dj6] at h;exact h
def lC (l:List aa8):List IV:=[ai5 l]
theorem ek9 {p:aa3}{l:List aa8}(h:l∈bn5 p):∃ x∈p.rows,x.2=l:=by
 simp only[bn5,List.mem_cons,List.not_mem_nil,or_false] at h;rcases h with rfl|rfl|rfl|rfl|rfl|rfl<;>simp[aa3.rows]
theorem el1 (l:List aa8)(ls:List (List aa8))(n:Nat):by8 (l::ls) n=if (co3 l 0).2=true\/2000<n+(co3 l 0).1 then true else by8 ls (n+(co3 l 0).1):=by simp only[by8]
theorem dk7 (p:aa3)(ho:p.Ok):PC Tryz.prog EE 34 [.agg p.cs] (.bool (au6 p)):=by
 refine ae8 hE fok34 (nZ rfl) (ae2 (am9 p)) ?_;by_cases b1:100<p.provides.length
 ·have c1:(100:Int)<p.provides.length:=by omega
  simp only[ic34,go_sem,ac9,aa3.cs,c1,au6,b1];exact ab3 _
 have c1:¬ (100:Int)<p.provides.length:=by omega
 by_cases b2:100<p.aa9.length
 ·have c2:(100:Int)<p.aa9.length:=by omega
  simp only[ic34,go_sem,ac9,aa3.cs,c1,c2,au6,b1,b2];exact ab3 _
 have c2:¬ (100:Int)<p.aa9.length:=by omega
 by_cases b3:100<p.files.length
 ·have c3:(100:Int)<p.files.length:=by omega
  simp only[ic34,go_sem,ac9,aa3.cs,c1,c2,c3,au6,b1,b2,b3];exact ab3 _
 have c3:¬ (100:Int)<p.files.length:=by omega
 by_cases b4:1000<p.name.length
 ·have c4:(1000:Int)<p.name.length:=by omega
  simp only[ic34,go_sem,ac9,aa3.cs,c1,c2,c3,c4,au6,b1,b2,b3,b4];exact ab3 _
 have c4:¬ (1000:Int)<p.name.length:=by omega
 by_cases b5:1000<p.vendor.length
 ·have c5:(1000:Int)<p.vendor.length:=by omega
  simp only[ic34,go_sem,ac9,aa3.cs,c1,c2,c3,c4,c5,au6,b1,b2,b3,b4,b5];exact ab3 _
 have c5:¬ (1000:Int)<p.vendor.length:=by omega
 by_cases b6:1000<p.evr.ver.length
 ·have c6:(1000:Int)<p.evr.ver.length:=by omega
  simp only[ic34,go_sem,ac9,aa3.cs,c1,c2,c3,c4,c5,c6,au6,b1,b2,b3,b4,b5,b6];exact ab3 _
 have c6:¬ (1000:Int)<p.evr.ver.length:=by omega
 by_cases b7:1000<p.evr.rel.length
 ·have c7:(1000:Int)<p.evr.rel.length:=by omega
  simp only[ic34,go_sem,ac9,aa3.cs,c1,c2,c3,c4,c5,c6,c7,au6,b1,b2,b3,b4,b5,b6,b7];exact ab3 _
 have c7:¬ (1000:Int)<p.evr.rel.length:=by omega
 have hM:au6 p=by8 (bn5 p) 0:=by simp only[au6,b1,b2,b3,b4,b5,b6,b7,decide_false,Bool.false_or]
 rw[hM];simp only[ic34,go_sem,ac9,aa3.cs,c1,c2,c3,c4,c5,c6,c7];refine ab7 noT (fun i fr s=>∃ n:Nat,fr=[(3,.int .i64 n),(62,.aa5 ((bn5 p).map lC)),(63,.int .i64 6),(64,.int .i64 i)]/\n<=2000/\by8 (bn5 p) 0=by8 ((bn5 p).drop i) n) 6 ⟨0,rfl,by omega,rfl⟩ ?_;rintro i fr s hi ⟨n,rfl,hn,hm⟩;by_cases hlt:i<6
 ·obtain ⟨l,hl,hli,hdr,hget,htk⟩:=ae3 (bn5 p) i hlt;have d1:(i:Int)<6:=by omega
  have d2:(0:Int)<=i:=by omega
  have d3:(i:Int)<((bn5 p).length:Nat):=by simp only[bn5,List.length_cons,List.length_nil]; omega
  have w1:=ad6 (i:=i) (by omega);rw[hdr,el1] at hm;obtain ⟨x,hx,rfl⟩:=ek9 hl;have hok:=ho.rich x hx;simp only[go_sem,d1,d2,d3,hget,lC];refine aa4 fok77 (fm7 x.2 hok.1 hok.2) ?_;have hle:=er6 x.2 0;generalize co3 x.2 0=ka at *
  have w4:IntKind.i64.wrap ((n:Int)+ka.1)=((n+ka.1:Nat):Int):=by
   rw[wrap64 (by omega) (by omega)]; omega
  cases hk2:ka.2 with
  | true=>
   rw[if_pos (.inl hk2)] at hm;simp only[go_sem,dr3,hk2,w4,hm]
   exact ab3 _
  | false=>
   by_cases q3:2000<n+ka.1
   ·have e3:(2000:Int)<((n+ka.1:Nat):Int):=by omega
    rw[if_pos (.inr q3)] at hm;simp only[go_sem,dr3,hk2,w4,e3,hm];exact ab3 _
   ·have e3:¬ (2000:Int)<((n+ka.1:Nat):Int):=by omega
    rw[if_neg (by rw[hk2]; simp; omega)] at hm;simp only[go_sem,dr3,hk2,w1,w4,e3];exact ⟨hlt,n+ka.1,rfl,by omega,hm⟩
 ·have hi':i=6:=by omega
  subst hi';have e6:(bn5 p).drop 6=[]:=rfl;rw[e6] at hm;simp only[go_sem,hm,by8];exact ab3 _
theorem et7 {α:Type}{q:α->Bool}{l:List α}{i:Nat}{a:α}(h:l.drop i=a::l.drop (i+1)):(l.drop i).any q=(q a||(l.drop (i+1)).any q):=by rw[h]; simp
set_option maxHeartbeats 1000000
def bz2 (most:Nat):List al7->Nat->Bool
 | [],_=>false
 | r::rs,n=>if most<n+r.packages.length then true else if r.packages.any au6=true then true else bz2 most rs (n+r.packages.length)
def bn9 (repos:List al7)(inst:List aa3)(r:Req)(most:Nat):Bool :=
 decide (30<repos.length)||(decide (most<inst.length)||(decide (20<r.ah4.length)||(decide (20<r.ah9.length)||(inst.any au6||bz2 most repos inst.length))))
theorem el3 (most:Nat)(r:al7)(rs:List al7)(n:Nat):bz2 most (r::rs) n=if most<n+r.packages.length then true else if r.packages.any au6=true then true else bz2 most rs (n+r.packages.length):=by simp only[bz2]
theorem gd2 (r:Req):(r.cs.drop 2).head? = some (be4 r.ah4):=rfl
theorem it5 (r:Req):(r.cs.drop 3).head? = some (au7 r.ah9):=rfl
theorem gd3 (repos:List al7)(inst:List aa3)(r:Req)(most:Nat)(h1:repos.length<2^62)(h2:inst.length<2^62)(hmo:most<2^31)(hr:∀ r∈repos,al7.Ok r)(hi:∀ p∈inst,p.Ok) :
  PC Tryz.prog EE 8 [as5 repos,az3 inst,.agg r.cs,.int .i64 most] (.bool (bn9 repos inst r most)):=by
 refine ae8 hE fok8 (nZ rfl) (hz4 (bo3 _) (av8 _) (.agg _ (bc4 r)) (.int _ _)) ?_;have rl:r.cs.length=5:=rfl;have jl:∀ l:List Job,∀ σ:Store,cn3 0 σ (be4 l)=some (.int .i64 l.length):=fun l σ=>by unfold be4; simp only[go_sem]
 have el:∀ l:List bb8,∀ σ:Store,cn3 0 σ (au7 l)=some (.int .i64 l.length):=fun l σ=>by unfold au7; simp only[go_sem]
 by_cases b1:30<repos.length
 ·have c1:(30:Int)<repos.length:=by omega
  simp only[ic8,go_sem,ag7,c1,bn9,b1];exact ab3 _
 have c1:¬ (30:Int)<repos.length:=by omega
 by_cases b2:most<inst.length
 ·have c2:(most:Int)<inst.length:=by omega
  simp only[ic8,go_sem,ag7,c1,c2,bn9,b1,b2];exact ab3 _
 have c2:¬ (most:Int)<inst.length:=by omega
 by_cases b3:20<r.ah4.length
 ·have c3:(20:Int)<r.ah4.length:=by omega
  simp only[ic8,go_sem,ag7,c1,c2,gd2,jl,c3,bn9,b1,b2,b3];exact ab3 _
 have c3:¬ (20:Int)<r.ah4.length:=by omega
 by_cases b4:20<r.ah9.length
 ·have c4:(20:Int)<r.ah9.length:=by omega
  simp only[ic8,go_sem,ag7,c1,c2,gd2,it5,jl,el,c3,c4,bn9,b1,b2,b3,b4];exact ab3 _
 have c4:¬ (20:Int)<r.ah9.length:=by omega
 have hM:bn9 repos inst r most=(inst.any au6||bz2 most repos inst.length):=by simp only[bn9,b1,b2,b3,b4,decide_false,Bool.false_or]
 rw[hM];simp only[ic8,go_sem,ag7,c1,c2,gd2,it5,jl,el,c3,c4];refine ab7 noT (fun i fr s=>fr=[(0,as5 repos),(1,az3 inst),(3,.int .i64 most),(9,.int .i64 inst.length),(10,.int .i64 i)]/\inst.any au6=(inst.drop i).any au6) inst.length ⟨rfl,rfl⟩ ?_;rintro i fr s hle ⟨rfl,hm⟩;by_cases hlt:i<inst.length
 ·obtain ⟨x,hx,hxi,hdr,hget,htk⟩:=ae3 inst i hlt;have d1:(i:Int)<inst.length:=by omega
  have d2:(0:Int)<=i:=by omega
  have w1:=ad6 (i:=i) (by omega);rw[et7 hdr] at hm;simp only[go_sem,d1,d2,hget,ag4,ag6,w1];refine aa4 fok34 (dk7 x (hi x hx)) ?_
  cases hb:au6 x with
  | true=>
   rw[hb,Bool.true_or] at hm;simp only[go_sem,hm]
   exact ab3 _
  | false=>
   rw[hb,Bool.false_or] at hm;simp only[go_sem,w1];exact ⟨hlt,hm⟩
 have hi':i=inst.length:=by omega
 subst hi';have d1:¬ (inst.length:Int)<inst.length:=by omega
 rw[List.drop_length,List.any_nil] at hm;rw[hm,Bool.false_or];simp only[go_sem,d1];refine ab7 noT (fun i fr t=>∃ n:Nat,fr=[(0,as5 repos),(3,.int .i64 most),(9,.int .i64 n),(11,.int .i64 i)]/\n<=most/\bz2 most repos inst.length=bz2 most (repos.drop i) n) repos.length ⟨inst.length,rfl,by omega,rfl⟩ ?_;rintro i fr t hle2 ⟨n,rfl,hn,hm2⟩;by_cases hlt:i<repos.length
 ·obtain ⟨x,hx,hxi,hdr,hget,htk⟩:=ae3 repos i hlt;have d3:(i:Int)<repos.length:=by omega
  have d4:(0:Int)<=i:=by omega
  have w1:=ad6 (i:=i) (by omega);have hxo:=hr x hx
  have w2:IntKind.i64.wrap ((n:Int)+x.packages.length)=((n+x.packages.length:Nat):Int):=by
   have:=hxo.1;rw[wrap64 (by omega) (by omega)]; omega
  rw[hdr,el3] at hm2;by_cases q1:most<n+x.packages.length
  ·have e1:(most:Int)<((n+x.packages.length:Nat):Int):=by omega
   rw[if_pos q1] at hm2;simp only[go_sem,d3,d4,hget,ao4,al7.cs,w2,e1,hm2];exact ab3 _
  have e1:¬ (most:Int)<((n+x.packages.length:Nat):Int):=by omega
  rw[if_neg q1] at hm2;simp only[go_sem,d3,d4,hget,ao4,al7.cs,w2,e1];refine ab7 noT (fun j fr t=>fr=[(0,as5 repos),(3,.int .i64 most),(9,.int .i64 (n+x.packages.length:Nat)),(11,.int .i64 i),(12,.int .i64 j)]/\x.packages.any au6=(x.packages.drop j).any au6) x.packages.length ⟨rfl,rfl⟩ ?_;rintro j fr t hlej ⟨rfl,hj⟩;by_cases hjl:j<x.packages.length
  ·obtain ⟨y,hy,hyi,hdr3,hget3,htk3⟩:=ae3 x.packages j hjl;have d5:(j:Int)<x.packages.length:=by omega
   have d6:(0:Int)<=j:=by omega
   have w3:=ad6 (i:=j) (by have:=hxo.1; omega);rw[et7 hdr3] at hj;simp only[go_sem,d3,d4,d5,d6,hget,hget3,ao4,al7.cs,ag4,ag6,w3];refine aa4 fok34 (dk7 y (hxo.2 y hy)) ?_
   cases hb:au6 y with
   | true=>
    rw[hb,Bool.true_or] at hj;rw[if_pos hj] at hm2;simp only[go_sem,hm2]
    exact ab3 _
   | false=>
    rw[hb,Bool.false_or] at hj;simp only[go_sem,w3];exact ⟨hjl,hj⟩
  ·have hj':j=x.packages.length:=by omega
   subst hj';have d5:¬ (x.packages.length:Int)<x.packages.length:=by omega
   rw[List.drop_length,List.any_nil] at hj;rw[if_neg (by rw[hj]; exact Bool.false_ne_true)] at hm2;simp only[go_sem,d3,d4,d5,hget,ao4,al7.cs,w1];exact ⟨hlt,n+x.packages.length,rfl,by omega,hm2⟩
 ·have hi':i=repos.length:=by omega
  subst hi';have d3:¬ (repos.length:Int)<repos.length:=by omega
  rw[List.drop_length] at hm2;simp only[go_sem,d3,hm2,bz2];exact ab3 _
open Go.Id.Md.ac4 (inS less)
set_option maxHeartbeats 1000000
theorem el4 {s:Store}(x:Str):cm1 s 0 (.str x) (.str x):=.keep _ (.str _)
theorem gd4 {s:Store}(k:IntKind)(n:Int):cm1 s 0 (.int k n) (.int k n):=.keep _ (.int _ _)
def ij4 (name ver:Str):aa3:={ name:=name,evr:=⟨0,ver,[49]⟩,aq4:=1,vendor:=[],provides:=[],requires:=[],conflicts:=[],aa9:=[],ac3:=[],ac2:=[],suggests:=[],ad7:=[],files:=[] }
theorem dk8 (name ver:Str):PC Tryz.prog EE 35 [.str name,.str ver] (.agg (ij4 name ver).cs):=by
 refine ae8 hE fok35 (nZ rfl) (aj6 (.str _) (.str _)) ?_;simp only[ic35,go_sem];exact .ii3 (.cons (el4 _) (.cons (gd4 _ _) (.cons (el4 _) (.cons (el4 _) (.cons (gd4 _ _) (.cons (el4 _) (.cons .cb8 (.cons .cb8 (.cons .cb8 (.cons .cb8 (.cons .cb8 (.cons .cb8 (.cons .cb8 (.cons .cb8 (.cons .cb8 .nil)))))))))))))))
def at16 (s:Str):aa8:=.mk 1 ⟨s,0,⟨0,[],[]⟩⟩ []
theorem gd5 (s:Str):PC Tryz.prog EE 36 [.str s] (.agg (at16 s).cs):=by
 refine ae8 hE fok36 (nZ rfl) (aj1 (.str _)) ?_;simp only[ic36,go_sem];exact .ii3 (.cons (gd4 _ _) (.cons (el4 _) (.cons (gd4 _ _) (.cons (gd4 _ _) (.cons (el4 _) (.cons (el4 _) (.cons .cb8 .nil)))))))
def it6 (repos:List al7)(inst:List aa3):Pool:=match bs9 repos inst with
 | .inl p=>p
 | .inr _=>⟨[],0,[]⟩
def et8 (d:Dep):Bool:=decide (d.name.length<100)&&decide (d.evr.ver.length<100)&&decide (d.evr.rel.length<100)
def hk9 (p:aa3):Bool:=decide (p.name.length<100)&&decide (p.vendor.length<100)&&decide (p.evr.ver.length<100)&&decide (p.evr.rel.length<100)&&decide (p.provides.length<100)&&p.provides.all et8&&decide (p.aa9.length<100)&&p.aa9.all et8 &&
 decide (p.files.length<100)&&p.files.all (fun s=>decide (s.length<100))&&p.rows.all fun x=>x.2.isEmpty
theorem gx1 {p:aa3}(h:hk9 p=true):p.Fit/\p.Ok:=by
 unfold hk9 at h;simp only[Bool.and_eq_true,decide_eq_true_eq,List.all_eq_true] at h;obtain ⟨⟨⟨⟨⟨⟨⟨⟨⟨⟨h1,h2⟩,h3⟩,h4⟩,h5⟩,h6⟩,h7⟩,h8⟩,h9⟩,h10⟩,h11⟩:=h
 have hd:∀ d:Dep,et8 d=true->d.fit:=fun d hd=>by
  unfold et8 at hd;simp only[Bool.and_eq_true,decide_eq_true_eq] at hd;exact ⟨by omega,by omega,by omega⟩
 have hr:∀ x∈p.rows,x.2=[]:=fun x hx=>List.isEmpty_iff.1 (h11 x hx)
 exact ⟨⟨by omega,⟨by omega,by omega⟩,⟨by omega,fun d hx=>hd d (h6 d hx)⟩,⟨by omega,fun d hx=>hd d (h8 d hx)⟩,⟨by omega,fun x hx=>by have:=h10 x hx; omega⟩,fun x hx=>by rw[hr x hx]; exact ⟨by simp,fun r h=>by cases h⟩⟩,
  ⟨by omega,by omega,⟨by omega,by omega⟩,⟨by omega,fun d hx=>hd d (h6 d hx)⟩,⟨by omega,fun d hx=>hd d (h8 d hx)⟩,⟨by omega,fun x hx=>by have:=h10 x hx; omega⟩,fun x hx=>by rw[hr x hx]; exact ⟨by simp,fun r h=>by cases h⟩⟩⟩
theorem et9 (l:List Itm){i:Nat}(h:i<l.length):(l.map Itm.cs).getD i []=l[i].cs:=by
 simp[List.getD_eq_getElem?_getD,h]
theorem gd6 (l m:List Itm)(hl:l.length<2^62)(hm:m.length<2^62):PC Tryz.prog EE 14 [bk2 l,bk2 m] (.bool (decide (l=m))):=by
 refine ae8 hE fok14 (nZ rfl) (aj6 (bb9 l) (bb9 m)) ?_;have il:∀ l:List Itm,∀ σ:Store,cn3 0 σ (bk2 l)=some (.int .i64 l.length):=fun l σ=>by unfold bk2; simp only[go_sem]
 by_cases hn:l.length=m.length
 case neg=>
  have e:¬ (l.length:Int)=m.length:=by omega
  have e2:decide (l=m)=false:=by
   rw[decide_eq_false_iff_not]; intro h; exact hn (by rw[h])
  rw[e2];simp only[ic14,go_sem,il,e];exact ab2 rfl
 have e:(l.length:Int)=m.length:=by omega
 simp only[ic14,go_sem,il,e];refine ab7 noT (fun i fr s=>fr=[(0,bk2 l),(1,bk2 m),(5,.int .i64 (i:Int))]/\l.take i=m.take i) l.length ⟨rfl,rfl⟩ ?_;rintro i fr s hi ⟨rfl,ht⟩;by_cases hlt:i<l.length
 ·have c1:(i:Int)<l.length:=by omega
  have c2:(0:Int)<=(i:Int):=by omega
  have c3:(i:Int)<m.length:=by omega
  have w1:=ad6 (i:=i) (by omega);have g1:=et9 l hlt;have g2:=et9 m (i:=i) (by omega);simp only[go_sem,bk2,c1,c2,c3,g1,g2,ak1,ai4,hj8];by_cases hq:l[i]=m[i]'(by omega)
  ·simp only[hq,go_sem,w1];refine ⟨hlt,?_⟩;rw[List.take_add_one,List.take_add_one,ht,List.getElem?_eq_getElem hlt,List.getElem?_eq_getElem (by omega),hq]
  ·have e2:decide (l=m)=false:=by
    rw[decide_eq_false_iff_not]; intro h; subst h; exact hq rfl
   rw[e2];simp only[hq,go_sem];exact ab2 rfl
 ·have c1:¬ (i:Int)<l.length:=by omega
  rw[List.take_of_length_le (by omega),List.take_of_length_le (by omega)] at ht;subst ht;simp only[go_sem,il,c1];exact ab2 (by simp)
set_option maxHeartbeats 1000000
def wkA:aa3:={ ij4 [97] [49] with requires:=[at16 [120]] }
def wkB:aa3:={ ij4 [98] [49] with provides:=[⟨[120],0,⟨0,[],[]⟩⟩] }
def wkR:List al7:=[⟨0,[wkB]⟩]
def wkI:List aa3:=[wkA]
def wkQ:Req:=⟨2,false,[],[],0⟩
def wkP:Pool:=it6 wkR wkI
def wkM:ac4:=⟨wkP,wkQ⟩
theorem hl6:bs9 wkR wkI=.inl wkP:=by kernel_rfl
theorem hl7:ak8 wkQ wkP.inst=0:=by kernel_rfl
theorem it7:(at16 [120]).fit:=aa8.bk1.2 ⟨by decide,by decide,⟨by show 1<2^62; decide,by show 0<2^62; decide,by show 0<2^62; decide⟩,by show 0<_; decide,fun r h=>(by cases h)⟩
theorem jf2:(at16 [120]).ok:=aa8.fl8.2 ⟨by decide,by decide,⟨by show 1<2^62; decide,by show 0<2^62; decide,by show 0<2^62; decide⟩,by show 0<_; decide,fun r h=>(by cases h)⟩
theorem it8:wkA.Fit/\wkA.Ok:=by
 have hr:∀ x∈wkA.rows,x.2.length<100/\∀ r∈x.2,r=at16 [120]:=fun x hx2=>by
  simp only[aa3.rows,wkA,ij4,List.mem_cons,List.not_mem_nil,or_false] at hx2;rcases hx2 with rfl|rfl|rfl|rfl|rfl|rfl
  ·refine ⟨by decide,fun r hr=>List.mem_singleton.1 hr⟩
  all_goals exact ⟨by decide,fun r h=>by cases h⟩
 have n0:∀ {α:Type} {q:α->Prop},∀ d∈([]:List α),q d:=fun d h=>by cases h
 refine ⟨⟨by show 1<_; decide,⟨by show 1<2^62; decide,by show 1<2^62; decide⟩,⟨by show 0<_; decide,n0⟩,⟨by show 0<_; decide,n0⟩,⟨by show 0<_; decide,n0⟩,fun x hx2=>⟨by have:=(hr x hx2).1; omega,fun r h=>?_⟩⟩,⟨by show 1<_; decide,by show 0<2^62; decide,⟨by show 1<2^62; decide,by show 1<2^62; decide⟩,⟨by show 0<_; decide,n0⟩,⟨by show 0<_; decide,n0⟩,⟨by show 0<_; decide,n0⟩,fun x hx2=>⟨by have:=(hr x hx2).1; omega,fun r h=>?_⟩⟩⟩
 ·rw[(hr x hx2).2 r h];exact ⟨it7,by show 1<2^31; decide⟩
 ·rw[(hr x hx2).2 r h];exact jf2
theorem it9:gz7 wkR wkI:=by
 have hB:wkB.Fit/\wkB.Ok:=gx1 (by kernel_rfl);have hA:=it8
 exact ⟨by decide,by decide,by decide,fun r hr=>by
   rw[List.mem_singleton.1 hr];exact ⟨by decide,fun p hp=>by rw[List.mem_singleton.1 hp]; exact hB.1⟩,fun p hp=>by rw[List.mem_singleton.1 hp]; exact hA.1,fun r hr=>by
   rw[List.mem_singleton.1 hr];exact ⟨by decide,fun p hp=>by rw[List.mem_singleton.1 hp]; exact hB.2⟩,fun p hp=>by rw[List.mem_singleton.1 hp]; exact hA.2⟩
theorem hl8:du1 wkQ:=⟨by decide,by decide,fun j h=>by cases h⟩
theorem bz3:wkM.items=[⟨2,0,0⟩,⟨6,0,0⟩]:=by kernel_rfl
theorem ic6:wkM.holds [0] ⟨2,0,0⟩=false:=by kernel_rfl
theorem id3:wkM.holds [0] ⟨6,0,0⟩=true:=by kernel_rfl
theorem id4:wkM.good [0,1]=true:=by kernel_rfl
theorem id5:wkM.good []=false:=by kernel_rfl
theorem id6:ek8 wkR wkI wkQ=.tuple [wkM.mv,wkM.v,.ac1 (az3 (et5 wkR wkI)::.int .i64 wkP.inst::wkQ.cs),.bool true,.bool false]:=by
 unfold ek8;rw[hl6];simp only[hl7,if_true];rfl
theorem ba7:PC Tryz.prog EE 9 [] (.bool true):=by
 have nA:=dk8 [97] [49];have nB:=dk8 [98] [49];have aT:=gd5 [120];have hm:=eb4 wkR wkI wkQ it9 hl8;rw[id6] at hm;have hA:=aok it9 hl6 hl8 hl7;have hI:=gc6 wkM (by rw[bz3]; decide);have hS:=gd6 wkM.items [⟨2,0,0⟩,⟨6,0,0⟩] (by rw[bz3]; decide) (by decide);rw[decide_eq_true bz3] at hS;have h1:=cw8 wkM hA [0] (by decide) ⟨2,0,0⟩;have h2:=cw8 wkM hA [0] (by decide) ⟨6,0,0⟩;have g1:=dr1 wkM hA [0,1] (by decide) (by rw[bz3]; decide);have g2:=dr1 wkM hA [] (by decide) (by rw[bz3]; decide);rw[ic6] at h1;rw[id3] at h2;rw[id4] at g1;rw[id5] at g2
 have g3:PC Tryz.prog EE 17 [wkM.mv,.aa1] (.bool false):=dp1 (args':=[wkM.mv,.aa5 (([]:List Int).map Md.ah8)]) rfl (fun σ i hi=>by
  match i,hi with
  | 0,_=>exact .keep _ ((av7 wkM).weak fun _ _=>rfl)
  | 1,_=>exact .cb8) g2
 have cA:(ij4 [97] [49]).cs=[.str [97],.int .i64 0,.str [49],.str [49],.int .u8 1,.str [],.aa5 [],.aa5 [],.aa5 [],.aa5 [],.aa5 [],.aa5 [],.aa5 [],.aa5 [],.aa5 []]:=rfl;have cB:(ij4 [98] [49]).cs=[.str [98],.int .i64 0,.str [49],.str [49],.int .u8 1,.str [],.aa5 [],.aa5 [],.aa5 [],.aa5 [],.aa5 [],.aa5 [],.aa5 [],.aa5 [],.aa5 []]:=rfl;have cT:(at16 [120]).cs=[.int .u8 1,.str [120],.int .u8 0,.int .i64 0,.str [],.str [],.aa5 []]:=rfl;rw[cA] at nA;rw[cB] at nB;rw[cT] at aT
 have hm2:PC Tryz.prog EE 10 [.aa5 [[.int .i64 0,.aa5 [[.str [98],.int .i64 0,.str [49],.str [49],.int .u8 1,.str [],.aa5 [[.str [120],.int .u8 0,.int .i64 0,.str [],.str []]],.aa5 [],.aa5 [],.aa5 [],.aa5 [],.aa5 [],.aa5 [],.aa5 [],.aa5 []]]]],
   .aa5 [[.str [97],.int .i64 0,.str [49],.str [49],.int .u8 1,.str [],.aa5 [],.aa5 [[.int .u8 1,.str [120],.int .u8 0,.int .i64 0,.str [],.str [],.aa5 []]],.aa5 [],.aa5 [],.aa5 [],.aa5 [],.aa5 [],.aa5 [],.aa5 []]],
   .agg [.int .u8 2,.bool false,.aa1,.aa1,.int .i64 0]] (.tuple [wkM.mv,wkM.v,.ac1 (az3 (et5 wkR wkI)::.int .i64 wkP.inst::wkQ.cs),.bool true,.bool false]):=hy5 (args':=[as5 wkR,az3 wkI,.agg wkQ.cs]) (by kernel_rfl) hm
 generalize wkM.mv=MV at *;generalize wkM.v=AV at *;generalize hTV:(IV.ac1 (az3 (et5 wkR wkI)::.int .i64 wkP.inst::wkQ.cs))=TV at *;refine ae8 hE fok9 (nZ rfl) (fun a h=>by cases h) ?_;simp only[ic9,go_sem]
 first|refine aa4 fok35 (nA) ?_|refine aa2 (nA) ?_
 simp only[go_sem]
 first|refine aa4 fok35 (nB) ?_|refine aa2 (nB) ?_
 simp only[go_sem]
 first|refine aa4 fok36 (aT) ?_|refine aa2 (aT) ?_
 simp only[go_sem]
 first|refine aa4 fok10 (hm2) ?_|refine aa2 (hm2) ?_
 simp only[go_sem]
 first|refine aa4 fok11 (hI) ?_|refine aa2 (hI) ?_
 simp only[go_sem]
 first|refine aa4 fok14 (hS) ?_|refine aa2 (hS) ?_
 simp only[go_sem]
 first|refine aa4 fok12 (h1) ?_|refine aa2 (h1) ?_
 simp only[go_sem]
 first|refine aa4 fok12 (h2) ?_|refine aa2 (h2) ?_
 simp only[go_sem]
 first|refine aa4 fok17 (g1) ?_|refine aa2 (g1) ?_
 simp only[go_sem]
 first|refine aa4 fok17 (g3) ?_|refine aa2 (g3) ?_
 simp only[go_sem];exact ab2 rfl
end Go.Id.Tryz
set_option linter.all false
namespace Go.Id.Tryz
open Go Go.Id Go.Proofs Go.Shelf Go.Id.Md
open Go.Id.Md.ac4 (inS less)
set_option maxRecDepth 100000
set_option maxHeartbeats 1000000
theorem ev7 (r:Req):r.cs.length=5:=rfl
theorem ev8 (l:List Job)(σ:Store):cn3 0 σ (be4 l)=some (.int .i64 l.length):=by unfold be4; simp only[go_sem]
theorem gz5 (a:ac4):a.mv.cs=[a.mv]:=rfl
theorem fo1 (a:ac4):a.mv.leaf=true:=rfl
theorem gz6 {repos:List al7}{inst:List aa3}{r:Req}(hI:gz7 repos inst)(hR:du1 r):ek8 repos inst r=fm5\/∃ p:Pool,bs9 repos inst=.inl p/\AOK ⟨p,r⟩/\(ac4.mk p r).items.length<2^30/\p.inst=inst.length /\
  ek8 repos inst r=.tuple [(ac4.mk p r).mv,(ac4.mk p r).v,.ac1 (az3 (et5 repos inst)::.int .i64 p.inst::r.cs),.bool true,.bool false]:=by
 unfold ek8
 cases hn:bs9 repos inst with
 | inr e=>exact .inl rfl
 | inl p=>
  by_cases he:ak8 r p.inst=0
  ·exact .inr ⟨p,rfl,aok hI hn hR he,(et6 hI hn hR he).1,(cp8 hn).2,by simp only[he,if_true]⟩
  ·exact .inl (by simp only[he,if_false])
set_option maxHeartbeats 1000000
theorem gi3 (p:Pool)(n:Nat)(h:n<p.rows.length):PC Tryz.prog EE 31 [p.v,.int .i64 n,.int .i64 n] (.bool false):=by
 refine ae8 hE fok31 (nZ rfl) (az8 (ax6 p) (.int _ _) (.int _ _)) ?_;have c1:(n:Int)<p.rows.length:=by omega
 have c2:(0:Int)<=n:=by omega
 have hr:=bz8 p.rows n;simp only[ic31,go_sem,Pool.v,ar9]
 first|refine aa4 fok69 (hr) ?_|refine aa2 (hr) ?_
 simp only[go_sem,c1,c2,Bool.and_self]
 first|refine aa4 fok69 (hr) ?_|refine aa2 (hr) ?_
 simp only[go_sem,c1,c2,Bool.and_self];exact ab2 rfl
theorem iv2 (a:ac4)(hA:AOK a)(n m:Nat)(h:n<a.l.length)(h':m<a.l.length):PC Tryz.prog EE 31 [a.p.v,.int .i64 n,.int .i64 m] (.bool (!decide ((n:Int)=m)&&aa9 (a.pk n) (a.pk m))):=by
 have hl:a.l.length=a.p.rows.length:=by show (ad4 a.p).length=_; simp[ad4]
 by_cases e:n=m
 ·subst e;have:(!decide ((n:Int)=n)&&aa9 (a.pk n) (a.pk n))=false:=by simp
  rw[this];exact gi3 a.p n (by omega)
 ·have e1:decide ((n:Int)=m)=false:=decide_eq_false (by omega);have hs:∀ r∈a.p.rows,Pkg.small r.pkg:=fun r hr=>hA.small _ (List.mem_map_of_mem (f:=fun x:bb3=>x.pkg) hr)
  have ho:=co9 a.p n m (by omega) (by omega) e hs
  have g:∀ k:Nat,(hk:k<a.p.rows.length)->a.pk k=a.p.rows[k].pkg:=fun k hk=>by
   show (ad4 a.p).getD k default=_;simp[ad4,List.getD_eq_getElem?_getD,hk]
  rw[e1,g n (by omega),g m (by omega)];exact ho
theorem ev9 (l:List Int)(n:Int)(hl:l.length<2^62):PC Tryz.prog EE 28 [.aa5 (l.map Md.ah8),.int .i64 n] (.bool (decide (n∈l))):=by
 refine ae8 hE fok28 (nZ rfl) (aj6 (ag9 l) (.int _ _)) ?_;simp only[ic28,go_sem];refine ab7 noT (fun i fr s=>fr=[(0,.aa5 (l.map Md.ah8)),(1,.int .i64 n),(5,.int .i64 (i:Int))]/\n ∉ l.take i) l.length ⟨rfl,by simp⟩ ?_;rintro i fr s hi ⟨rfl,hn⟩;by_cases hlt:i<l.length
 ·have d1:(i:Int)<l.length:=by omega
  have d2:(0:Int)<=(i:Int):=by omega
  have w1:=ad6 (i:=i) (by omega);have g:(l.map Md.ah8).getD i []=[.int .i64 l[i]]:=by simp[List.getD_eq_getElem?_getD,hlt,Md.ah8]
  by_cases he:l[i]=n
  ·have hin:n∈l:=he▸List.getElem_mem hlt;simp only[go_sem,d1,d2,g,he];exact ab2 (decide_eq_true hin).symm
  ·simp only[go_sem,d1,d2,g,he,w1];refine ⟨hlt,?_⟩;rw[List.take_add_one,List.getElem?_eq_getElem hlt];simp only[Option.toList_some,List.mem_append,List.mem_singleton];rintro (h|h)
   ·exact hn h
   ·exact he h.symm
 ·have d1:¬ (i:Int)<l.length:=by omega
  rw[List.take_of_length_le (by omega)] at hn;simp only[go_sem,d1];exact ab2 (decide_eq_false hn).symm
theorem dt5 (repos:List al7)(inst:List aa3)(r:Req)(st:List Int)(hI:gz7 repos inst)(hR:du1 r)(hs:st.length<2^30) :
  PC Tryz.prog EE 7 [as5 repos,az3 inst,.agg r.cs,.aa5 (st.map Md.ah8)] (.bool true):=by
 refine ae8 hE fok7 (nZ rfl) (hz4 (bo3 repos) (av8 inst) (.agg _ (bc4 r)) (ag9 st)) ?_;have hW:=gd3 repos inst r 40 (by have:=hI.r1; omega) (by have:=hI.i1; omega) (by decide) hI.ro hI.po;have hM:=eb4 repos inst r hI hR;have hi1:=hI.i1;simp only[ic7,go_sem,ag7,ev7,bj5]
 first|refine aa4 fok8 (hW) ?_|refine aa2 (hW) ?_
 cases hwd:bn9 repos inst r 40 with
 | true=>
  simp only[go_sem]
  first|refine aa4 fok9 (ba7) ?_|refine aa2 (ba7) ?_
  simp only[go_sem]
  exact ab2 rfl
 | false=>
 by_cases hbig:100<st.length
 ·have c1:(100:Int)<st.length:=by omega
  simp only[go_sem,c1]
  first|refine aa4 fok9 (ba7) ?_|refine aa2 (ba7) ?_
  simp only[go_sem];exact ab2 rfl
 have c1:¬ (100:Int)<st.length:=by omega
 simp only[go_sem,c1]
 first|refine aa4 fok9 (ba7) ?_|refine aa2 (ba7) ?_
 simp only[go_sem,ev7,bj5,ag7]
 first|refine aa4 fok10 (hM) ?_|refine aa2 (hM) ?_
 rcases gz6 hI hR with h0|⟨p,hn,hA,hIt,hin,h0⟩
 ·rw[h0];simp only[fm5,go_sem];exact ab2 rfl
 rw[h0];obtain ⟨a,ha⟩:∃ a,a=ac4.mk p r:=⟨_,rfl⟩;rw[<- ha] at hA hIt ⊢;have hG:=dr1 a hA st hs (by omega);simp only[go_sem,gz5,fo1]
 first|refine aa4 fok17 (hG) ?_|refine aa2 (hG) ?_
 cases hgd:a.good st with
 | false=>
  simp only[go_sem]
  exact ab2 rfl
 | true=>
 have vcs:a.v.cs=[a.v]:=rfl;have vlf:a.v.leaf=true:=rfl;have pcs:a.p.v.cs=[a.p.v]:=rfl;have plf:a.p.v.leaf=true:=rfl;have hP:=cl4 a;have hl:a.l.length=a.p.rows.length:=by show (ad4 a.p).length=_; simp[ad4]
 have hC:=ay8 a.p;rw[<- hl] at hC;have hjr:a.r=r:=by rw[ha]
 simp only[go_sem,vcs,vlf]
 first|refine aa4 fok26 (hP) ?_|refine aa2 (hP) ?_
 simp only[go_sem,vcs,vlf,pcs,plf];have hlen:=hA.len;refine ab7 noT (fun n fr s=>fr=[(3,.aa5 (st.map Md.ah8)),(6,.ac1 r.cs),(10,a.v),(14,a.p.v),(15,.int .i64 (n:Int))]) a.l.length rfl ?_;rintro n fr s hi rfl;by_cases hlt:n<a.l.length
 ·have d1:(n:Int)<a.l.length:=by omega
  have w1:=ad6 (i:=n) (by omega);have hH:=ev9 st n (by omega);simp only[go_sem,vcs,vlf,pcs,plf]
  first|refine aa4 fok27 (hC) ?_|refine aa2 (hC) ?_
  simp only[go_sem,d1]
  first|refine aa4 fok28 (hH) ?_|refine aa2 (hH) ?_
  by_cases hin2:(n:Int)∈st
  ·rw[decide_eq_true hin2];obtain ⟨hfit,hk⟩:=a.fk6 hgd hlt hin2;have hF:=cl3 a n;rw[hfit] at hF;simp only[go_sem,vcs,vlf]
   first|refine aa4 fok29 (hF) ?_|refine aa2 (hF) ?_
   simp only[go_sem];refine ab7 noT (fun k fr s=>fr=[(3,.aa5 (st.map Md.ah8)),(6,.ac1 r.cs),(10,a.v),(14,a.p.v),(15,.int .i64 (n:Int)),(16,.int .i64 (k:Int))]) a.l.length rfl ?_;rintro k fr s hi2 rfl;by_cases hlk:k<a.l.length
   ·have d3:(k:Int)<a.l.length:=by omega
    have w2:=ad6 (i:=k) (by omega);have hH2:=ev9 st k (by omega);simp only[go_sem,vcs,vlf,pcs,plf]
    first|refine aa4 fok27 (hC) ?_|refine aa2 (hC) ?_
    simp only[go_sem,d3]
    first|refine aa4 fok28 (hH2) ?_|refine aa2 (hH2) ?_
    by_cases hin3:(k:Int)∈st
    ·rw[decide_eq_true hin3];obtain ⟨k1,k2⟩:=hk k hlk hin3;have hT:=cy2 a n k hA;have hO:=iv2 a hA n k hlt hlk;rw[k1] at hT;rw[k2] at hO;simp only[go_sem,vcs,vlf,pcs,plf]
     first|refine aa4 fok30 (hT) ?_|refine aa2 (hT) ?_
     simp only[go_sem,vcs,vlf,pcs,plf]
     first|refine aa4 fok31 (hO) ?_|refine aa2 (hO) ?_
     simp only[go_sem,w2];exact hlk
    ·rw[decide_eq_false hin3];simp only[go_sem,w2];exact hlk
   ·have d3:¬ (k:Int)<a.l.length:=by omega
    simp only[go_sem,vcs,vlf,pcs,plf]
    first|refine aa4 fok27 (hC) ?_|refine aa2 (hC) ?_
    simp only[go_sem,d3,w1];exact hlt
  ·rw[decide_eq_false hin2];simp only[go_sem,w1];exact hlt
 ·have d1:¬ (n:Int)<a.l.length:=by omega
  simp only[go_sem,vcs,vlf,pcs,plf]
  first|refine aa4 fok27 (hC) ?_|refine aa2 (hC) ?_
  simp only[go_sem,d1];have hjl:=hA.ah4;rw[hjr] at hjl;refine ab7 noT (fun j fr s=>fr=[(3,.aa5 (st.map Md.ah8)),(6,.ac1 r.cs),(10,a.v),(17,.int .i64 (j:Int))]) r.ah4.length rfl ?_;rintro j fr s hi2 rfl;by_cases hlj:j<r.ah4.length
  ·have d2:(j:Int)<r.ah4.length:=by omega
   have w2:=ad6 (i:=j) (by omega);have hD:=bj3 a j hA;have hF:=ca6 a j st hA (by omega);simp only[go_sem,gd2,ev8,d2,vcs,vlf]
   first|refine aa4 fok32 (hD) ?_|refine aa2 (hD) ?_
   cases hd:a.dropped j with
   | true=>
    simp only[go_sem,w2]
    exact hlj
   | false=>
    rw[a.gt5 hgd (by rw[hjr]; exact hlj) hd] at hF;simp only[go_sem,vcs,vlf]
    first|refine aa4 fok33 (hF) ?_|refine aa2 (hF) ?_
    simp only[go_sem,w2];exact hlj
  ·have d2:¬ (j:Int)<r.ah4.length:=by omega
   simp only[go_sem,gd2,ev8,d2];exact ab2 rfl
open Go Go.Id Go.Proofs Go.Id.Md
end Go.Id.Tryz
set_option linter.all false
namespace Go.Id.Tryz
open Go Go.Id Go.Proofs Go.Id.Md
set_option maxRecDepth 100000
variable {H:Type} {enc:TypeId×Value->H} {w:World} {base:Nat} {sp:Nat->Bool} {held:Bool}
abbrev Rd (enc:TypeId×Value->H)(w:World)(base:Nat)(sp:Nat->Bool)(held:Bool):=Rdg enc Tryz.prog w base sp held
theorem gf2 {n:Nat}{d:DataW H}(h:Rd enc w base sp held n 41 d)(hw:WT Tryz.prog 41 d):∃ e:EVR,e.fit/\∀ m,n<=m->dv Tryz.prog m 41 d=some e.cs:=by
 obtain ⟨n',ds,rfl,rfl,hl,hf⟩:=av4 Tryz.underlying41 h hw
 match ds,hl with
 | [d0,d1,d2],_=>
  obtain ⟨r0,w0⟩:=hf 0 _ d0 rfl rfl;obtain ⟨r1,w1⟩:=hf 1 _ d1 rfl rfl;obtain ⟨r2,w2⟩:=hf 2 _ d2 rfl rfl;obtain ⟨z,_,_,e0⟩:=bj9 Tryz.underlying3 r0;obtain ⟨s1,l1,e1⟩:=cu3 Tryz.underlying9 r1 w1;obtain ⟨s2,l2,e2⟩:=cu3 Tryz.underlying9 r2 w2;refine ⟨⟨z,s1,s2⟩,⟨l1,l2⟩,fun m hm=>?_⟩
  cases m with
  | zero=>omega
  | succ m=>
   have c3:Tryz.prog.cellsOf 3=1:=by kernel_rfl
   have c9:Tryz.prog.cellsOf 9=1:=by kernel_rfl
   have ct:Tryz.prog.cellsOf 41=3:=by kernel_rfl
   simp only[dv,Tryz.underlying41,List.map_cons,List.map_nil,dvF,e0 m (by omega),e1 m (by omega),e2 m (by omega),List.length_cons,List.length_nil,c3,c9,ct,List.cons_append,List.nil_append,List.append_nil,Nat.reduceAdd,↓reduceIte];rfl
theorem iu3 {z:Int}(h:(Lit.int .u8 z).wf=true):0<=z/\z<256:=by
 simp only[Lit.wf,Bool.and_eq_true,decide_eq_true_eq] at h;have e1:IntKind.u8.min=0:=rfl;have e2:IntKind.u8.max=255:=rfl;omega
theorem gx7:Tryz.prog.cellsOf 3=1:=by kernel_rfl
theorem ie2:Tryz.prog.cellsOf 5=1:=by kernel_rfl
theorem gx8:Tryz.prog.cellsOf 9=1:=by kernel_rfl
theorem ie3:Tryz.prog.cellsOf 41=3:=by kernel_rfl
theorem gf3:Tryz.prog.cellsOf 43=5:=by kernel_rfl
theorem gf4:Tryz.prog.cellsOf 80=7:=by kernel_rfl
theorem iu4:Tryz.prog.cellsOf 75=15:=by kernel_rfl
theorem hm3:Tryz.prog.cellsOf 77=2:=by kernel_rfl
theorem iu5:Tryz.prog.cellsOf 71=1:=by kernel_rfl
theorem eu7:Tryz.prog.cellsOf 72=1:=by kernel_rfl
theorem iu6:Tryz.prog.cellsOf 73=1:=by kernel_rfl
theorem iu7:Tryz.prog.cellsOf 23=1:=by kernel_rfl
theorem hm4 {n:Nat}{d:DataW H}(h:Rd enc w base sp held n 43 d)(hw:WT Tryz.prog 43 d):∃ e:Dep,e.fit/\∀ m,n<=m->dv Tryz.prog m 43 d=some e.cs:=by
 obtain ⟨n',ds,rfl,rfl,hl,hf⟩:=av4 Tryz.underlying43 h hw
 match ds,hl with
 | [d0,d1,d2],_=>
  obtain ⟨r0,w0⟩:=hf 0 _ d0 rfl rfl;obtain ⟨r1,w1⟩:=hf 1 _ d1 rfl rfl;obtain ⟨r2,w2⟩:=hf 2 _ d2 rfl rfl;obtain ⟨s0,l0,e0⟩:=cu3 Tryz.underlying9 r0 w0;obtain ⟨z,_,_,e1⟩:=bj9 Tryz.underlying5 r1;obtain ⟨e,l2,e2⟩:=gf2 r2 w2;refine ⟨⟨s0,z,e⟩,⟨l0,l2⟩,fun m hm=>?_⟩
  cases m with
  | zero=>omega
  | succ m=>
   simp only[dv,Tryz.underlying43,List.map_cons,List.map_nil,dvF,e0 m (by omega),e1 m (by omega),e2 m (by omega),EVR.cs,List.length_cons,List.length_nil,gx8,ie2,ie3,gf3,List.cons_append,List.nil_append,List.append_nil,Nat.reduceAdd,↓reduceIte];rfl
theorem ie4:∀ (n:Nat) (d:DataW H),Rd enc w base sp held n 80 d->WT Tryz.prog 80 d->∃ r:aa8,r.ok/\∀ m,n<=m->dv Tryz.prog m 80 d=some r.cs:=by
 intro n
 induction n using Nat.strongRecOn with
 | ind n ih=>
  intro d h hw;obtain ⟨n',ds,rfl,rfl,hl,hf⟩:=av4 Tryz.underlying80 h hw
  match ds,hl with
  | [d0,d1,d2],_=>
   obtain ⟨r0,w0⟩:=hf 0 _ d0 rfl rfl;obtain ⟨r1,w1⟩:=hf 1 _ d1 rfl rfl;obtain ⟨r2,w2⟩:=hf 2 _ d2 rfl rfl;obtain ⟨z,_,hz,e0⟩:=bj9 Tryz.underlying5 r0;obtain ⟨e,l1,e1⟩:=hm4 r1 w1;obtain ⟨l,k1,k2,e2⟩:=az9 aa8.cs aa8.ok Tryz.underlying72 gf4 (by decide) (by decide +kernel) (fun r=>by rw[aa8.an4]; rfl) (fun m d' hm hr hw'=>ih m (by omega) d' hr hw') r2 w2;have hz':=iu3 hz;refine ⟨.mk z e l,aa8.fl8.2 ⟨hz'.1,hz'.2,l1,k1,k2⟩,fun m hm=>?_⟩
   cases m with
   | zero=>omega
   | succ m=>
    simp only[dv,Tryz.underlying80,List.map_cons,List.map_nil,dvF,e0 m (by omega),e1 m (by omega),e2 m (by omega),Dep.cs,List.length_cons,List.length_nil,eu7,ie2,gf3,gf4,List.cons_append,List.nil_append,List.append_nil,Nat.reduceAdd,↓reduceIte];rw[aa8.an4];rfl
theorem gf5 {n:Nat}{d:DataW H}(h:Rd enc w base sp held n 71 d)(hw:WT Tryz.prog 71 d):∃ l:List Dep,l.length<2^62/\(∀ a∈l,a.fit)/\∀ m,n<=m->dv Tryz.prog m 71 d=some [deps l]:=
 az9 Dep.cs Dep.fit Tryz.underlying71 gf3 (by decide) (by decide +kernel) (fun _=>rfl) (fun _ _ _ hr hw'=>hm4 hr hw') h hw
theorem bg8 {n:Nat}{d:DataW H}(h:Rd enc w base sp held n 72 d)(hw:WT Tryz.prog 72 d):∃ l:List aa8,l.length<2^62/\(∀ a∈l,a.ok)/\∀ m,n<=m->dv Tryz.prog m 72 d=some [ai5 l]:=
 az9 aa8.cs aa8.ok Tryz.underlying72 gf4 (by decide) (by decide +kernel) (fun r=>by rw[aa8.an4]; rfl) (fun m d' _ hr hw'=>ie4 m d' hr hw') h hw
theorem ie5 {n:Nat}{d:DataW H}(h:Rd enc w base sp held n 73 d)(hw:WT Tryz.prog 73 d):∃ l:List Str,l.length<2^62/\(∀ a∈l,a.length<2^62)/\∀ m,n<=m->dv Tryz.prog m 73 d=some [strs l]:=
 az9 bh4 (fun s:Str=>s.length<2^62) Tryz.underlying73 gx8 (by decide) (by decide +kernel) (fun _=>rfl) (fun _ _ _ hr hw'=>cu3 Tryz.underlying9 hr hw') h hw
theorem iu8 {n:Nat}{d:DataW H}(h:Rd enc w base sp held n 75 d)(hw:WT Tryz.prog 75 d):∃ p:aa3,p.Ok/\∀ m,n<=m->dv Tryz.prog m 75 d=some p.cs:=by
 obtain ⟨n',ds,rfl,rfl,hl,hf⟩:=av4 Tryz.underlying75 h hw
 match ds,hl with
 | [d0,d1,d2,d3,d4,d5,d6,d7,d8,d9,d10,d11,d12],_=>
  obtain ⟨r0,w0⟩:=hf 0 _ d0 rfl rfl;obtain ⟨r1,w1⟩:=hf 1 _ d1 rfl rfl;obtain ⟨r2,w2⟩:=hf 2 _ d2 rfl rfl;obtain ⟨r3,w3⟩:=hf 3 _ d3 rfl rfl;obtain ⟨r4,w4⟩:=hf 4 _ d4 rfl rfl;obtain ⟨r5,w5⟩:=hf 5 _ d5 rfl rfl;obtain ⟨r6,w6⟩:=hf 6 _ d6 rfl rfl;obtain ⟨r7,w7⟩:=hf 7 _ d7 rfl rfl;obtain ⟨r8,w8⟩:=hf 8 _ d8 rfl rfl;obtain ⟨r9,w9⟩:=hf 9 _ d9 rfl rfl;obtain ⟨r10,w10⟩:=hf 10 _ d10 rfl rfl;obtain ⟨r11,w11⟩:=hf 11 _ d11 rfl rfl;obtain ⟨r12,w12⟩:=hf 12 _ d12 rfl rfl;obtain ⟨x0,l0,e0⟩:=cu3 Tryz.underlying9 r0 w0;obtain ⟨x1,l1,e1⟩:=gf2 r1 w1;obtain ⟨x2,_,_,e2⟩:=bj9 Tryz.underlying5 r2;obtain ⟨x3,l3,e3⟩:=cu3 Tryz.underlying9 r3 w3;obtain ⟨x4,l4,k4,e4⟩:=gf5 r4 w4;obtain ⟨x5,l5,k5,e5⟩:=bg8 r5 w5;obtain ⟨x6,l6,k6,e6⟩:=bg8 r6 w6;obtain ⟨x7,l7,k7,e7⟩:=gf5 r7 w7;obtain ⟨x8,l8,k8,e8⟩:=bg8 r8 w8;obtain ⟨x9,l9,k9,e9⟩:=bg8 r9 w9;obtain ⟨x10,l10,k10,e10⟩:=bg8 r10 w10;obtain ⟨x11,l11,k11,e11⟩:=bg8 r11 w11;obtain ⟨x12,l12,k12,e12⟩:=ie5 r12 w12;refine ⟨⟨x0,x1,x2,x3,x4,x5,x6,x7,x8,x9,x10,x11,x12⟩,⟨l0,l3,l1,⟨l4,k4⟩,⟨l7,k7⟩,⟨l12,k12⟩,?_⟩,fun m hm=>?_⟩
  ·intro x hx;simp only[aa3.rows,List.mem_cons,List.not_mem_nil,or_false] at hx;rcases hx with rfl|rfl|rfl|rfl|rfl|rfl
   ·exact ⟨l5,k5⟩
   ·exact ⟨l6,k6⟩
   ·exact ⟨l8,k8⟩
   ·exact ⟨l9,k9⟩
   ·exact ⟨l10,k10⟩
   ·exact ⟨l11,k11⟩
  cases m with
  | zero=>omega
  | succ m=>
   simp only[dv,Tryz.underlying75,List.map_cons,List.map_nil,dvF,e0 m (by omega),e1 m (by omega),e2 m (by omega),e3 m (by omega),e4 m (by omega),e5 m (by omega),e6 m (by omega),e7 m (by omega),e8 m (by omega),e9 m (by omega),e10 m (by omega),e11 m (by omega),e12 m (by omega),EVR.cs,List.length_cons,List.length_nil,gx8,ie2,ie3,iu5,eu7,iu6,iu4,List.cons_append,List.nil_append,List.append_nil,Nat.reduceAdd,↓reduceIte];rfl
theorem gf6 {n:Nat}{d:DataW H}(h:Rd enc w base sp held n 23 d)(hw:WT Tryz.prog 23 d):∃ l:List aa3,l.length<2^62/\(∀ a∈l,a.Ok)/\∀ m,n<=m->dv Tryz.prog m 23 d=some [.aa5 (l.map aa3.cs)]:=
 az9 aa3.cs aa3.Ok Tryz.underlying23 iu4 (by decide) (by decide +kernel) (fun _=>rfl) (fun _ _ _ hr hw'=>iu8 hr hw') h hw
theorem ie6 {n:Nat}{d:DataW H}(h:Rd enc w base sp held n 77 d)(hw:WT Tryz.prog 77 d):∃ r:al7,al7.Ok r/\∀ m,n<=m->dv Tryz.prog m 77 d=some r.cs:=by
 obtain ⟨n',ds,rfl,rfl,hl,hf⟩:=av4 Tryz.underlying77 h hw
 match ds,hl with
 | [d0,d1],_=>
  obtain ⟨r0,w0⟩:=hf 0 _ d0 rfl rfl;obtain ⟨r1,w1⟩:=hf 1 _ d1 rfl rfl;obtain ⟨z,_,_,e0⟩:=bj9 Tryz.underlying3 r0;obtain ⟨l,k1,k2,e1⟩:=gf6 r1 w1;refine ⟨⟨z,l⟩,⟨k1,k2⟩,fun m hm=>?_⟩
  cases m with
  | zero=>omega
  | succ m=>
   simp only[dv,Tryz.underlying77,List.map_cons,List.map_nil,dvF,e0 m (by omega),e1 m (by omega),List.length_cons,List.length_nil,gx7,iu7,hm3,List.cons_append,List.nil_append,List.append_nil,Nat.reduceAdd,↓reduceIte];rfl
theorem gx9 {n:Nat}{d:DataW H}(h:Rd enc w base sp held n 22 d)(hw:WT Tryz.prog 22 d):∃ l:List al7,l.length<2^62/\(∀ a∈l,al7.Ok a)/\∀ m,n<=m->dv Tryz.prog m 22 d=some [.aa5 (l.map al7.cs)]:=
 az9 al7.cs al7.Ok Tryz.underlying22 hm3 (by decide) (by decide +kernel) (fun _=>rfl) (fun _ _ _ hr hw'=>ie6 hr hw') h hw
end Go.Id.Tryz
set_option linter.all false
namespace Go.Id
open Go Go.Id
mutual
def isz:IV->Nat
 | .str s=>s.length+1
 | .aa5 es=>cn1 es+1
 | _=>1
def bc6:List IV->Nat
 | []=>0
 | c::cs=>isz c+bc6 cs
def cn1:List (List IV)->Nat
 | []=>0
 | e::es=>bc6 e+cn1 es
end
theorem eo1 (a b:List IV):bc6 (a++b)=bc6 a+bc6 b:=by
 induction a with
 | nil=>simp[bc6]
 | cons x a ih=>simp only[List.cons_append,bc6,ih]; omega
theorem bs7 {α:Type}(f:α->List IV):∀ (l:List α),∀ a∈l,bc6 (f a)<=cn1 (l.map f):=by
 intro l
 induction l with
 | nil=>intro a h; cases h
 | cons x l ih=>
  intro a h;simp only[List.map_cons,cn1];rcases List.mem_cons.1 h with rfl|h
  ·omega
  ·have:=ih a h; omega
theorem as8 {α:Type}(f:α->List IV)(hf:∀ a,1<=bc6 (f a)):∀ (l:List α),l.length<=cn1 (l.map f):=by
 intro l
 induction l with
 | nil=>simp
 | cons x l ih=>
  simp only[List.map_cons,cn1,List.length_cons];have:=hf x;omega
namespace Md
theorem Dep.szs (d:Dep):bc6 d.cs=d.name.length+d.evr.ver.length+d.evr.rel.length+5:=by
 simp only[Dep.cs,bc6,isz]; omega
theorem aa8.szs (r:aa8):bc6 r.cs=r.dep.name.length+r.dep.evr.ver.length+r.dep.evr.rel.length+cn1 (r.args.map aa8.cs)+7:=by
 rw[aa8.an4]; simp only[bc6,isz]; omega
theorem aa3.szs (p:aa3):bc6 p.cs=p.name.length+p.evr.ver.length+p.evr.rel.length+p.vendor.length+cn1 (p.provides.map Dep.cs)+cn1 (p.requires.map aa8.cs)+cn1 (p.conflicts.map aa8.cs)+cn1 (p.aa9.map Dep.cs)+cn1 (p.ac3.map aa8.cs)+cn1 (p.ac2.map aa8.cs)+cn1 (p.suggests.map aa8.cs)+cn1 (p.ad7.map aa8.cs)+cn1 (p.files.map bh4)+15:=by
 simp only[aa3.cs,bc6,isz]; omega
theorem al7.szs (r:al7):bc6 r.cs=cn1 (r.packages.map aa3.cs)+2:=by
 simp only[al7.cs,bc6,isz]; omega
theorem fp7 (r:aa8):r.count<=bc6 r.cs:=by
 induction r using aa8.ind with
 | h k d xs ih=>
  rw[aa8.szs]
  have:∀ ys:List aa8,(∀ y∈ys,y∈xs)->aa8.counts ys<=cn1 (ys.map aa8.cs):=by
   intro ys
   induction ys with
   | nil=>intro _; simp[aa8.counts]
   | cons y ys ih2=>
    intro h;have h1:=ih y (h y (List.mem_cons_self ..));have h2:=ih2 fun z hz=>h z (List.mem_cons_of_mem _ hz)
    simp only[aa8.counts,List.map_cons,cn1];omega
  have:=this xs fun y h=>h
  simp only[aa8.count,aa8.args];omega
theorem he5 (r:aa8):r.ok->bc6 r.cs<2^31->r.fit:=by
 induction r using aa8.ind with
 | h k d xs ih=>
  intro ho hs;obtain ⟨a,b,c,e,f⟩:=aa8.fl8.1 ho;rw[aa8.szs] at hs;simp only[aa8.args] at hs;have hl:=as8 aa8.cs (fun r=>by rw[aa8.szs]; omega) xs;refine aa8.bk1.2 ⟨a,b,c,by omega,fun r hr=>ih r hr (f r hr) ?_⟩;have:=bs7 aa8.cs xs r hr;omega
theorem gk6 {p:aa3}(h:p.Ok)(hs:bc6 p.cs<2^31):p.Fit:=by
 rw[aa3.szs] at hs;have l1:=as8 Dep.cs (fun r=>by rw[Dep.szs]; omega) p.provides;have l2:=as8 Dep.cs (fun r=>by rw[Dep.szs]; omega) p.aa9;have l3:=as8 bh4 (fun r=>by simp only[bh4,bc6,isz]; omega) p.files
 have hr:∀ x∈p.rows,cn1 (x.2.map aa8.cs)<2^31:=by
  intro x hx;simp only[aa3.rows,List.mem_cons,List.not_mem_nil,or_false] at hx;rcases hx with rfl|rfl|rfl|rfl|rfl|rfl<;>simp only[]<;>omega
 exact {
  name:=h.name
  evr:=h.evr
  av5:=⟨by omega,h.av5.2⟩
  obs:=⟨by omega,h.obs.2⟩
  files:=⟨by omega,h.files.2⟩
  rich:=fun x hx=>by
   have h1:=hr x hx;have h2:=as8 aa8.cs (fun r=>by rw[aa8.szs]; omega) x.2;refine ⟨by omega,fun r hr'=>?_⟩;have h3:=bs7 aa8.cs x.2 r hr';have h4:=fp7 r;exact ⟨he5 r ((h.rich x hx).2 r hr') (by omega),by omega⟩ }
theorem gk7 (repos:List al7):ak7 repos<=cn1 (repos.map al7.cs):=by
 induction repos with
 | nil=>simp[ak7]
 | cons r rs ih=>
  have h2:=as8 aa3.cs (fun r=>by rw[aa3.szs]; omega) r.packages;have h3:=al7.szs r;simp only[ak7,List.map_cons,List.sum_cons,cn1] at ih ⊢;omega
end Md
end Go.Id
