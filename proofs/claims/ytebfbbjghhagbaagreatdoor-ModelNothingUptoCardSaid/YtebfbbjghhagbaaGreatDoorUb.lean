/- What a state must hold to: the model made,walked. Conditions: sizes that fit. -/
import Derived.Test.YtebfbbjghhagbaaGreatDoorTMMH
import Derived.Test.YtebfbbjghhagbaaGreatDoorTMMK
import Derived.Test.YtebfbbjghhagbaaGreatDoorTMSD
import Derived.Test.YtebfbbjghhagbaaGreatDoorTMSJ
import Derived.Test.YtebfbbjghhagbaaGreatDoorMw
import Derived.Test.YtebfbbjghhagbaaGreatDoorTMPD
import Derived.Test.YtebfbbjghhagbaaGreatDoorFwZb
set_option linter.all false
namespace Go.Id.Tryz
open Go Go.Id Go.Proofs Go.Shelf Go.Id.Md
set_option maxRecDepth 100000
set_option maxHeartbeats 1000000
theorem MO.frz {s:Store}{pp mid:Nat}{a:ac5}{allv itv:IV}(h:MO s pp mid a.v (al5 a.l) allv itv a.l a.items):ck7 s 0 (.ptr pp 0) a.mv:=by
 refine .ptr pp 0 _ _ (Nat.not_lt_zero _) (.inl h.cell) (Nat.le_refl _) fun j hj=>?_
 match j,hj with
 | 0,_=>exact .keep _ (ah3 a)
 | 1,_=>exact .keep _ (as7 _)
 | 2,_=>
  exact h.all.frz (fun x hx=>(bc2 _ x hx).1) (fun _ _=>Nat.not_lt_zero _) fun e he c hc=>by
   obtain ⟨y,_,rfl⟩:=List.mem_map.1 he
   exact az4 y c hc
 | 3,_=>
  exact h.grow.frz (fun x hx=>(et5 _ x hx).1) (fun _ _=>Nat.not_lt_zero _) fun e he c hc=>by
   obtain ⟨y,_,rfl⟩:=List.mem_map.1 he
   exact dq7 y c hc
 | 4,_=>
  refine .map mid (ba1 a.items) (ba1 a.items) (ba1 a.items) (Nat.not_lt_zero _) h.map rfl (List.Perm.refl _) (ga6 a.nodup) (fun i hi=>?_) fun i hi=>?_
  ·have:(ba1 a.items).getD i (.undef,.undef)∈ba1 a.items:=ad2 _ hi;obtain ⟨x,_,hx⟩:=List.mem_map.1 this;rw[<- hx]; exact .keep _ (bb9 x)
  ·have:(ba1 a.items).getD i (.undef,.undef)∈ba1 a.items:=ad2 _ hi;obtain ⟨x,_,hx⟩:=List.mem_map.1 this;rw[<- hx]; exact .keep _ (.agg _ fun c hc=>by cases hc)
theorem ek7 (a:ac5)(hA:AOK a)(hI:0<=a.p.inst)(hIt:a.items.length<2^30):PC Tryz.prog EE 42 [a.v] (.tuple [a.mv,.int .i64 0]):=by
 refine hz5 hE fok42 (nZ rfl) (ai8 (ah3 a)) ?_;have hP:=dl8 a;have hT:=eo3 a.p hA.len fun x hx=>⟨hA.fit x hx,hA.tiny x hx⟩
 have hC:=be3 a.p;have hrl:a.p.rows.length=a.l.length:=by show _=(ae3 a.p).length; simp[ae3]
 rw[hrl] at hC;have hlen:=hA.len
 have hpk:∀ j (h:j<a.l.length),PC Tryz.prog EE 91 [a.p.v,.int .i64 j] (.tuple [.agg (a.pk j).cs,.int .i64 0]):=fun j h=>by
  have hj:j<a.p.rows.length:=by omega
  have hq:a.p.rows[j].pkg=a.pk j:=by
   have:a.pk j=a.l[j]:=by simp[ac5.pk,List.getD_eq_getElem?_getD,h]
   rw[this]; simp[ac5.l,ae3]
  have h1:=bf2 a.p j hj (by rw[hq]; exact hA.fit _ (et3 a h));rw[hq] at h1; exact h1
 have vcs:a.v.cs=[a.v]:=rfl;have vlf:a.v.leaf=true:=rfl;have pvl:a.p.v.leaf=true:=rfl;have pvc:a.p.v.cs=[a.p.v]:=rfl;have tvl:(al5 a.l).leaf=true:=rfl;have tvc:(al5 a.l).cs=[al5 a.l]:=rfl;have hnl:∀ d:TypeId,bx3 (.pointer d) a.v=some false:=fun _=>rfl
 have hT:PC Tryz.prog EE 94 [a.p.v] (.tuple [al5 a.l,.int .i64 0]):=hT;simp only[ic42];refine ae5 (ah9 ?_);simp only[go_sem];refine ae5 (ah9 ?_);simp only[go_sem,hnl];refine ae5 (ah9 ?_);simp only[go_sem,vcs,vlf]
 first|refine aa4 fok26 (hP) ?_|refine aa2 (hP) ?_
 simp only[go_sem,pvl,pvc]
 first|refine aa4 fok94 (hT) ?_|refine aa2 (hT) ?_
 simp only[go_sem];refine ae5 (ah9 ?_);simp only[go_sem];refine ae5 (ah9 ?_);simp only[go_sem,vcs,vlf,tvl,tvc];refine ae5 (ae5 (ah9 ?_));simp only[go_sem,vcs,vlf]
 first|refine aa4 fok26 (hP) ?_|refine aa2 (hP) ?_
 simp only[go_sem,pvl,pvc]
 first|refine aa4 fok27 (hC) ?_|refine aa2 (hC) ?_
 simp only[go_sem]
 refine av4 (az3 (Q:=fun e f s=>e=.exit 0/\(∃ allv,MO s 1 0 a.v (al5 a.l) allv .aa1 a.l [])/\∃ rst:Frm,f=(0,a.v)::(6,.ptr 1 0)::rst)
  (ab7 noT (fun n fr s=>∃ gv,fr=[(0,a.v),(6,.ptr 1 0),(28,.int .i64 a.l.length),(29,.int .i64 (n:Int))]/\2<=s.next/\s.obj 0=some (.map [])/\s.obj 1=some (.cells [a.v,al5 a.l,gv,.aa1,.map 0])/\Grow s gv 15 ((a.l.take n).map aa3.cs)) a.l.length
   ⟨.aa1,rfl,Nat.le_refl _,rfl,rfl,.inl ⟨rfl,rfl⟩⟩ ?_) ?_)
 ·rintro n fr s hn ⟨gv,rfl,hnx,hm,ho,hg⟩;by_cases hlt:n<a.l.length
  ·have d1:(n:Int)<a.l.length:=by omega
   have w1:=ad7 (i:=n) (by omega);have hp:=hpk n hlt;have n1:¬ 1=s.next:=by omega
   have n0:¬ 0=s.next:=by omega
   have htk:a.l.take (n+1)=a.l.take n++[a.pk n]:=by
    have:a.pk n=a.l[n]:=by simp[ac5.pk,List.getD_eq_getElem?_getD,hlt]
    rw[this,List.take_add_one,List.getElem?_eq_getElem hlt]; rfl
   have hgl:gv.leaf=true:=by rcases hg with ⟨rfl,_⟩|⟨id,rfl,_⟩<;>rfl
   have hgc:gv.cs=[gv]:=by rcases hg with ⟨rfl,_⟩|⟨id,rfl,_⟩<;>rfl
   obtain ⟨S,hS⟩:∃ S:Store,S=(({ next:=s.next+1,obj:=s.obj }:Store).put s.next (ak4.cells [.str [],.int .i64 0,.str [],.str [],.int .u8 0,.str [],.aa1,.aa1,.aa1,.aa1,.aa1,.aa1,.aa1,.aa1,.aa1])).put s.next (ak4.cells (a.pk n).cs):=⟨_,rfl⟩;have So:∀ i,¬ i=s.next->S.obj i=s.obj i:=fun i hi=>by rw[hS]; simp only[aa7,hi,if_false]
   have hg1:Grow (⟨s.next+1+11,S.obj⟩:Store) gv 15 ((a.l.take n).map aa3.cs):=hg.mono (by show s.next<=s.next+1+11; omega) fun id _ hid=>So id (by omega)
   have hap:=ak5 (nid:=s.next+1+7) (e:=(a.pk n).cs) hg1 (bc2 _) ⟨rfl,rfl⟩ (by rw[List.length_map,List.length_take]; omega);rw[List.length_map] at hap;have k1:=af6 hg1 1 _ (by rw[<- ho]; exact So 1 n1) (fun _ e=>by cases e);have k0:=af6 hg1 0 _ (by rw[<- hm]; exact So 0 n0) (fun _ e=>by cases e);have kn:(ai1 gv (⟨s.next+1+11,S.obj⟩:Store)).next=s.next+1+11:=ad4 gv;have m1:¬ 1=s.next+1+7:=by omega
   have m0:¬ 0=s.next+1+7:=by omega
   have hcl:∀ i cs,¬ i=s.next->s.obj i=some (.cells cs)->S.obj i=some (.cells cs):=fun i cs h1 h2=>by rw[So i h1]; exact h2
   simp only[go_sem,d1,vcs,vlf]
   first|refine aa4 fok26 (hP) ?_|refine aa2 (hP) ?_
   simp only[go_sem,pvl,pvc]
   first|refine aa4 fok91 (hp) ?_|refine aa2 (hp) ?_
   simp only[go_sem,ag7,ag9,ac9,n1,n0,ho,b_o,b_p,b_t];rw[<- hS];generalize ai1 gv (⟨s.next+1+11,S.obj⟩:Store)=K at *;simp only[show s.next+1+1+1+1+1+1+1+1=s.next+1+7 from rfl,hap,go_sem,m1,m0,k1,k0,w1];refine ⟨hlt,_,by rw[kn]; omega,rfl,?_⟩;rw[htk,List.map_append];refine .inr ⟨s.next+1+7,by rw[List.length_append,List.length_map]; rfl,?_,by rw[kn]; omega⟩;simp only[aa7];rw[if_neg (fun e=>m1 e.symm),if_pos trivial]; rfl
  ·have d1:¬ (n:Int)<a.l.length:=by omega
   rw[List.take_of_length_le (by omega)] at hg;simp only[go_sem,d1];exact ⟨⟨gv,{ cell:=ho,grow:=.inl ⟨rfl,rfl⟩,map:=hm,all:=hg,ne:=fun _ _ _ _ h=>(by cases h),lt:=⟨by omega,by omega⟩ }⟩,_,rfl⟩
 rintro e f t ⟨rfl,⟨allv,hM⟩,rst,rfl⟩;simp only[go_sem];refine ae5 (ah9 ?_);simp only[go_sem];refine ah2 fok95 (iu2 a hA hI t 1 0 _ _ _ hM hIt) ?_;rintro v s ⟨s1,itv,hM2⟩;refine ⟨s1,?_⟩;simp only[go_sem];refine ah9 ?_;simp only[go_sem];exact .cm8 (.cons hM2.frz (.cons (bw6 rfl) .nil))
set_option maxHeartbeats 1000000
def et8 (repos:List al7)(inst:List aa3):List aa3:=inst++repos.flatMap fun r=>r.packages
theorem gx4 (repos:List al7)(inst:List aa3)(hN:inst.length+ak8 repos<=256)(hr:repos.length<=16):PC Tryz.prog EE 41 [as5 repos,az1 inst] (az1 (et8 repos inst)):=by
 refine af2 hE fok41 (nZ rfl) (aj9 (bo7 repos) (av9 inst)) ?_;have g0:Grow (({ next:=2,obj:=emp.obj }:Store).put 0 (ak4.row [])) (.slice 0 0 0 15) 15 []:=.inr ⟨0,rfl,by rw[aa7,if_pos rfl]; rfl,by show 0<2; omega⟩;obtain ⟨v1,t1,a1,n1,q1,_,_⟩:=bm3 (nid:=1) (xs:=inst.map aa3.cs) g0 (fun x h=>by cases h) (bc2 _) (by rw[List.length_map,List.length_nil]; omega) (by show 1<2; omega);rw[List.nil_append] at q1;simp only[ic41,go_sem,a1];refine ab7 noT (fun i fr t=>∃ gv,fr=[(0,as5 repos),(5,gv),(6,.int .i64 (i:Int))]/\Grow t gv 15 ((et8 (repos.take i) inst).map aa3.cs)/\(et8 (repos.take i) inst).length+ak8 (repos.drop i)=inst.length+ak8 repos) repos.length ⟨v1,rfl,by simpa [et8] using q1,by simp[et8]⟩ ?_;rintro i fr t hle ⟨gv,rfl,hg,hsum⟩;by_cases hlt:i<repos.length
 ·obtain ⟨a,ha,_,hdr,hget,htk⟩:=ae2 repos i hlt;have c1:(i:Int)<repos.length:=by omega
  have c2:(0:Int)<=i:=by omega
  have w1:=ad7 (i:=i) (by omega);rw[cb2 repos i a hdr] at hsum
  have hap:et8 (repos.take (i+1)) inst=et8 (repos.take i) inst++a.packages:=by
   unfold et8
   have:repos.take (i+1)=repos.take i++[a]:=by
    rw[List.take_add_one];have:=congrArg List.head? hdr;rw[List.head?_drop] at this;rw[this]; rfl
   rw[this,List.flatMap_append]; simp
  obtain ⟨v2,t2,a2,n2,q2,_,_⟩:=bm3 (nid:=t.next) (xs:=a.packages.map aa3.cs) (hg.mono (σ':=⟨t.next+1,t.obj⟩) (Nat.le_succ _) fun _ _ _=>rfl) (bc2 _) (bc2 _) (by rw[List.length_map,List.length_map]; omega) (Nat.lt_succ_self _);simp only[go_sem,c1,c2,hget,ao4,aq3,aq2,al7.cs,a2,w1];refine ⟨hlt,v2,rfl,?_,?_⟩
  ·rw[hap,List.map_append]; exact q2
  ·rw[hap,List.length_append]; omega
 ·have hi':i=repos.length:=by omega
  subst hi';have c1:¬ (repos.length:Int)<repos.length:=by omega
  rw[List.take_length] at hg;simp only[go_sem,c1];refine hg.frz (fun x hx=>(bc2 _ x hx).1) (fun _ _=>Nat.not_lt_zero _) fun e he c hc=>?_
  obtain ⟨y,_,rfl⟩:=List.mem_map.1 he;exact az4 y c hc
def dj7 (all:List aa3)(inst:Int)(r:Req):IV:=if ak9 r inst=0 then .tuple [.ac2 (az1 all::.int .i64 inst::r.cs),.int .i64 0] else .tuple [.ab6,.int .i64 (ak9 r inst)]
theorem gx5 (all:List aa3)(inst:Int)(r:Req)(hR:dt8 r):PC Tryz.prog EE 40 [az1 all,.int .i64 inst,.agg r.cs] (dj7 all inst r):=by
 refine af2 hE fok40 (nZ rfl) (az9 (av9 all) (.int _ _) (.agg _ (bc5 r))) ?_;have hm:=gw1 r.ar9;have k0:r.cs.head? = some (.int .u8 r.ar9):=rfl;have k2:(r.cs.drop 2).head? = some (bb7 r.ah6):=rfl;have k3:(r.cs.drop 3).head? = some (au7 r.ai2):=rfl;have k4:(r.cs.drop 4).head? = some (.int .i64 r.budget):=rfl;obtain ⟨V,hV⟩:∃ V,dj7 all inst r=V:=⟨_,rfl⟩
 have herr:∀ (s:Store) (e:Int),ak9 r inst=e->e≠0->ck7 s 0 (.tuple [.ab6,.int .i64 e]) V:=fun s e h1 h2=>by
  rw[<- hV];unfold dj7;rw[h1,if_neg h2];exact .keep _ (.tuple _ (aj9 .ab6 (.int _ _)))
 rw[hV];by_cases c1:bv6 r.ar9=false
 ·rw[c1] at hm;simp only[ic40,go_sem,ah1,k0]
  first|refine aa4 fok92 (hm) ?_|refine aa2 (hm) ?_
  simp only[go_sem];exact herr _ 1 (by unfold ak9; rw[if_pos (.inl c1)]) (by decide)
 have c1':bv6 r.ar9=true:=by simpa using c1
 rw[c1'] at hm;by_cases c2:r.budget<0
 ·simp only[ic40,go_sem,ah1,k0]
  first|refine aa4 fok92 (hm) ?_|refine aa2 (hm) ?_
  simp only[go_sem,k4,c2];exact herr _ 1 (by unfold ak9; rw[if_pos (.inr (.inl c2))]) (by decide)
 by_cases c3:1099511627776<r.budget
 ·simp only[ic40,go_sem,ah1,k0]
  first|refine aa4 fok92 (hm) ?_|refine aa2 (hm) ?_
  simp only[go_sem,k4,c2,c3];exact herr _ 1 (by unfold ak9; rw[if_pos (.inr (.inr c3))]) (by decide)
 have q1:¬ (bv6 r.ar9=false\/r.budget<0\/1099511627776<r.budget):=fun h=>h.elim c1 fun h=>h.elim c2 c3
 by_cases c4:64<r.ah6.length
 ·have c4':(64:Int)<r.ah6.length:=by omega
  simp only[ic40,go_sem,ah1,k0]
  first|refine aa4 fok92 (hm) ?_|refine aa2 (hm) ?_
  simp only[go_sem,k4,c2,c3,k2,c4'];exact herr _ 40 (by unfold ak9; rw[if_neg q1,if_pos (.inl c4)]) (by decide)
 have c4':¬ (64:Int)<r.ah6.length:=by omega
 by_cases c5:64<r.ai2.length
 ·have c5':(64:Int)<r.ai2.length:=by omega
  simp only[ic40,go_sem,ah1,k0]
  first|refine aa4 fok92 (hm) ?_|refine aa2 (hm) ?_
  simp only[go_sem,k4,c2,c3,k2,k3,c4',c5'];exact herr _ 40 (by unfold ak9; rw[if_neg q1,if_pos (.inr c5)]) (by decide)
 have c5':¬ (64:Int)<r.ai2.length:=by omega
 have q2:¬ (64<r.ah6.length\/64<r.ai2.length):=fun h=>h.elim c4 c5
 simp only[ic40,go_sem,ah1,k0]
 first|refine aa4 fok92 (hm) ?_|refine aa2 (hm) ?_
 simp only[go_sem,k4,c2,c3,k2,k3,c4',c5'];refine ab7 noT (fun i fr t=>fr=[(0,az1 all),(1,.int .i64 inst),(5,.ac2 r.cs),(8,.int .i64 (i:Int))]/\(r.ah6.drop i).all ay7=r.ah6.all ay7) r.ah6.length ⟨rfl,rfl⟩ ?_;rintro i fr t hi ⟨rfl,ha⟩;by_cases hlt:i<r.ah6.length
 ·obtain ⟨x,hx,_,hdr,hget,_⟩:=ae2 r.ah6 i hlt;have d1:(i:Int)<r.ah6.length:=by omega
  have d2:(0:Int)<=i:=by omega
  have w1:=ad7 (i:=i) (by omega);obtain ⟨hs1,hs2⟩:=hR.ik4 x hx;have hmay:=ej7 x.dep (by omega) (by have:=hs1.2.2.1; omega) (by have:=hs1.2.2.2; omega);have x0:x.cs.head? = some (.int .u8 x.kind):=rfl;have x1:=cq8 x;have x2:(x.cs.drop 1).length=5:=rfl;rw[hdr,List.all_cons] at ha
  have hbad:ay7 x=false->ak9 r inst=4:=fun h=>by
   rw[h,Bool.false_and] at ha;unfold ak9; rw[if_neg q1,if_neg q2,if_pos ha.symm]
  by_cases e1:x.kind<1
  ·have e1':¬ 1<=x.kind:=by omega
   simp only[go_sem,d1,d2,k2,hget,ax7,x0,e1];exact herr _ 4 (hbad (by unfold ay7; simp[e1'])) (by decide)
  by_cases e2:4<x.kind
  ·have e2':¬ x.kind<=4:=by omega
   simp only[go_sem,d1,d2,k2,hget,ax7,x0,e1,e2];exact herr _ 4 (hbad (by unfold ay7; simp[e2'])) (by decide)
  have e1':1<=x.kind:=by omega
  have e2':x.kind<=4:=by omega
  simp only[go_sem,d1,d2,k2,hget,ax7,x0,x1,x2,e1,e2]
  first|refine aa4 fok93 (hmay) ?_|refine aa2 (hmay) ?_
  cases hb:ah7 x.dep with
  | false=>
   simp only[go_sem]
   exact herr _ 4 (hbad (by unfold ay7; simp[hb])) (by decide)
  | true=>
   have:ay7 x=true:=by unfold ay7; simp[e1',e2',hb]
   rw[this,Bool.true_and] at ha;simp only[go_sem,w1];exact ⟨hlt,ha⟩
 have hi':i=r.ah6.length:=by omega
 subst hi';rw[List.drop_length] at ha;have hjm:¬ r.ah6.all ay7=false:=by rw[<- ha]; simp
 have d1:¬ (r.ah6.length:Int)<r.ah6.length:=by omega
 simp only[go_sem,d1,k2];refine ab7 noT (fun i fr t=>fr=[(0,az1 all),(1,.int .i64 inst),(5,.ac2 r.cs),(9,.int .i64 (i:Int))]/\((r.ai2.drop i).all fun e=>at7 e r.ah6.length inst)=r.ai2.all fun e=>at7 e r.ah6.length inst) r.ai2.length ⟨rfl,rfl⟩ ?_;clear ha;rintro i fr t hi ⟨rfl,ha⟩;by_cases hlt:i<r.ai2.length
 ·obtain ⟨x,hx,_,hdr,hget,_⟩:=ae2 r.ai2 i hlt;have d1:(i:Int)<r.ai2.length:=by omega
  have d2:(0:Int)<=i:=by omega
  have w1:=ad7 (i:=i) (by omega);have x0:x.cs.head? = some (.int .u8 x.kind):=rfl;have x1:(x.cs.drop 1).head? = some (.int .i64 x.n):=rfl;rw[hdr,List.all_cons] at ha
  have hbad:at7 x r.ah6.length inst=false->ak9 r inst=5:=fun h=>by
   rw[h,Bool.false_and] at ha;unfold ak9; rw[if_neg q1,if_neg q2,if_neg hjm,if_pos ha.symm]
  have hgood:at7 x r.ah6.length inst=true->((r.ai2.drop (i+1)).all fun e=>at7 e r.ah6.length inst)=r.ai2.all fun e=>at7 e r.ah6.length inst:=fun h=>by
   rw[h,Bool.true_and] at ha; exact ha
  unfold at7 at hbad hgood;by_cases e1:0<=x.n
  case neg=>
   simp only[go_sem,d1,d2,k2,k3,hget,aq8,ao6,aj4,x0,x1,e1];exact herr _ 5 (hbad (by simp[e1])) (by decide)
  by_cases e2:x.kind=1
  ·by_cases e3:x.n<r.ah6.length
   ·simp only[go_sem,d1,d2,k2,k3,hget,aq8,ao6,aj4,x0,x1,e1,e2,e3,w1];exact ⟨hlt,hgood (by simp[e1,e2,e3])⟩
   ·simp only[go_sem,d1,d2,k2,k3,hget,aq8,ao6,aj4,x0,x1,e1,e2,e3];exact herr _ 5 (hbad (by simp[e2,e3])) (by decide)
  ·by_cases e4:1<x.kind
   ·by_cases e5:x.kind<=4
    ·have e6:1<=x.kind:=by omega
     by_cases e3:x.n<inst
     ·simp only[go_sem,d1,d2,k2,k3,hget,aq8,ao6,aj4,x0,x1,e1,e2,e3,e4,e5,w1];exact ⟨hlt,hgood (by simp[e1,e2,e3,e5,e6])⟩
     ·simp only[go_sem,d1,d2,k2,k3,hget,aq8,ao6,aj4,x0,x1,e1,e2,e3,e4,e5];exact herr _ 5 (hbad (by simp[e2,e3])) (by decide)
    ·simp only[go_sem,d1,d2,k2,k3,hget,aq8,ao6,aj4,x0,x1,e1,e2,e4,e5];exact herr _ 5 (hbad (by simp[e5])) (by decide)
   ·have e6:¬ 1<=x.kind:=by omega
    simp only[go_sem,d1,d2,k2,k3,hget,aq8,ao6,aj4,x0,x1,e1,e2,e4];exact herr _ 5 (hbad (by simp[e6])) (by decide)
 have hi':i=r.ai2.length:=by omega
 subst hi';rw[List.drop_length] at ha;have hem:¬ (r.ai2.all fun e=>at7 e r.ah6.length inst)=false:=by rw[<- ha]; simp
 have d2:¬ (r.ai2.length:Int)<r.ai2.length:=by omega
 have hz:ak9 r inst=0:=by unfold ak9; rw[if_neg q1,if_neg q2,if_neg hjm,if_neg hem]
 have hrc:r.cs=[.int .u8 r.ar9,.bool r.vendor,bb7 r.ah6,au7 r.ai2,.int .i64 r.budget]:=rfl;rw[<- hV];unfold dj7;rw[if_pos hz];have rl:r.cs.length=5:=rfl;simp only[go_sem,d2,k3,rl,bk1,ah1];refine .keep _ (.tuple _ (aj9 (.ac2 _ fun c hc=>?_) (.int _ _)));rcases List.mem_cons.1 hc with rfl|hc
 ·exact av9 all
 ·rcases List.mem_cons.1 hc with rfl|hc
  ·exact .int _ _
  ·exact bc5 r c hc
open Go Go.Id Go.Proofs Go.Id.Md
theorem aok {repos:List al7}{inst:List aa3}{p:Pool}{r:Req}(hI:ha7 repos inst)(hn:bt7 repos inst=.inl p)(hR:dt8 r)(he:ak9 r p.inst=0):AOK ⟨p,r⟩:=by
 have hf:=ho4 hI hn;have hlen:(ae3 p).length<=256:=by simp only[ae3,List.length_map]; exact er9 hn
 unfold ak9 at he;split at he
 ·cases he
 split at he
 ·cases he
 rename_i hb;split at he
 ·cases he
 rename_i hj;refine ⟨hlen,fun x hx=>(hf x hx).2.1,fun x hx=>(hf x hx).1,fun x hx=>(hf x hx).2.2,?_,?_,?_,fun j hj=>(hR.ik4 j hj).1,fun j hjm=>?_⟩
 ·have h1:=cv7 hn
  have h2:p.inst=inst.length:=by
   unfold bt7 at hn;split at hn
   ·cases hn
   split at hn
   ·cases hn
   split at hn
   ·cases hn; rfl
   ·cases hn
  show p.inst<=((ae3 p).length:Nat);rw[h2,h1,List.length_append]; omega
 ·show r.ah6.length<=64; omega
 ·show r.ai2.length<=128; omega
 ·have h1:r.ah6.all ay7=true:=by simpa using hj
  have h2:=List.all_eq_true.1 h1 j hjm;unfold ay7 at h2;simp only[Bool.and_eq_true,decide_eq_true_eq] at h2;exact ⟨h2.1.1,h2.1.2⟩
set_option maxHeartbeats 1000000
def fm6:IV:=.tuple [.ab6,.ab6,.ab6,.bool false,.bool false]
def ek8 (repos:List al7)(inst:List aa3)(r:Req):IV:=match bt7 repos inst with
 | .inr _=>fm6
 | .inl p=>if ak9 r p.inst=0 then .tuple [(ac5.mk p r).mv,(ac5.mk p r).v,.ac2 (az1 (et8 repos inst)::.int .i64 p.inst::r.cs),.bool true,.bool false] else fm6
theorem et9 {repos:List al7}{inst:List aa3}{p:Pool}{r:Req}(hI:ha7 repos inst)(hn:bt7 repos inst=.inl p)(hR:dt8 r)(he:ak9 r p.inst=0):(ac5.mk p r).items.length<2^30/\0<=p.inst:=by
 have hA:=aok hI hn hR he;have hp:p.inst=inst.length:=(cp8 hn).2;refine ⟨ac5.gb2 _ (fun x hx=>?_) hA.len hA.inst hA.ah6,by rw[hp]; omega⟩;have hm:ag1 x=true:=(es3 hn x hx).1;unfold ag1 ad1 at hm;simp only[Bool.and_eq_true,decide_eq_true_eq] at hm;obtain ⟨⟨⟨⟨⟨⟨⟨⟨_,ho⟩,_⟩,_⟩,hrq⟩,hcf⟩,_⟩,_⟩,_⟩:=hm.1;exact ⟨by omega,by omega,by omega⟩
theorem eb4 (repos:List al7)(inst:List aa3)(r:Req)(hI:ha7 repos inst)(hR:dt8 r):PC Tryz.prog EE 10 [as5 repos,az1 inst,.agg r.cs] (ek8 repos inst r):=by
 refine af2 hE fok10 (nZ rfl) (az9 (bo7 repos) (av9 inst) (.agg _ (bc5 r))) ?_;have hp:=cl9 repos inst hI.r1 hI.i1 hI.s1 hI.rf hI.pf;have h12:=fun σ=>id8 repos inst hI σ
 have nilb:∀ s:Store,ck7 s 0 fm6 fm6:=fun s=>.keep _ (.tuple _ fun c hc=>by
  simp only[List.mem_cons,List.not_mem_nil,or_false] at hc;rcases hc with rfl|rfl|rfl|rfl|rfl
  ·exact .ab6
  ·exact .ab6
  ·exact .ab6
  ·exact .bool _
  ·exact .bool _)
 unfold ek8
 cases hn:bt7 repos inst with
 | inr e=>
  have he:¬ e=0:=by rcases gu4 hn with rfl|rfl<;>decide
  rw[hn] at hp;simp only[ic10,go_sem,ah1]
  first|refine aa4 fok37 (hp) ?_|refine aa2 (hp) ?_
  simp only[ir1,go_sem];refine ah2 fok38 (h12 _) ?_;rintro v s ⟨s1,s2⟩;rw[hn] at s2;simp only at s2;subst s2;refine ⟨s1,?_⟩;simp only[go_sem,he]
  exact nilb _
 | inl p=>
  obtain ⟨g1,g2,_,_⟩:=cl2 hn;have hin:p.inst=inst.length:=(cp8 hn).2;rw[hn] at hp;have hf:=ho4 hI hn;have hlen:(ae3 p).length<=256:=by simp only[ae3,List.length_map]; exact er9 hn
  have hAN:=gk2 p r hR hlen fun x hx=>⟨(hf x hx).1,(hf x hx).2.2⟩
  have hAll:=gx4 repos inst g2 g1;have h15:=gx5 (et8 repos inst) p.inst r hR;have vcs:p.v.cs=[p.v]:=rfl;have vlf:p.v.leaf=true:=rfl;simp only[ic10,go_sem,ah1]
  first|refine aa4 fok37 (hp) ?_|refine aa2 (hp) ?_
  simp only[ir1,go_sem,vcs,vlf];refine ah2 fok38 (h12 _) ?_;rintro v s ⟨s1,s2⟩;rw[hn] at s2;simp only at s2;obtain ⟨id,X,Y,Z,rfl,hob⟩:=s2;refine ⟨s1,?_⟩;have rl:r.cs.length=5:=rfl;simp only[go_sem,rl,bk1,ah1]
  first|refine aa4 fok39 (hAN) ?_|refine aa2 (hAN) ?_
  by_cases he:ak9 r p.inst=0
  ·have hA:=aok hI hn hR he;obtain ⟨hIt,hI0⟩:=et9 hI hn hR he;have hM:=ek7 ⟨p,r⟩ hA hI0 hIt;have hav:(ac5.mk p r).v.leaf=true:=rfl;have hac:(ac5.mk p r).v.cs=[(ac5.mk p r).v]:=rfl;have hmv:(ac5.mk p r).mv.leaf=true:=rfl;have hmc:(ac5.mk p r).mv.cs=[(ac5.mk p r).mv]:=rfl;have hbm:=ap9 ⟨p,r⟩;have hba:=ah3 ⟨p,r⟩;unfold ik2;unfold dj7 at h15;rw[if_pos he] at h15 ⊢;rw[if_pos he];generalize (ac5.mk p r).v=AV at *;generalize (ac5.mk p r).mv=MV at *;simp only[go_sem,hav,hac,hob];refine aa2 hAll ?_;simp only[go_sem,hob,rl,bk1,ah1];refine aa2 h15 ?_;simp only[go_sem,hav,hac]
   first|refine aa4 fok42 (hM) ?_|refine aa2 (hM) ?_
   simp only[go_sem];refine .keep _ (.tuple _ fun c hc=>?_);simp only[List.mem_cons,List.not_mem_nil,or_false] at hc;rcases hc with rfl|rfl|rfl|rfl|rfl
   ·exact hbm
   ·exact hba
   ·refine .ac2 _ fun c hc=>?_
    rcases List.mem_cons.1 hc with rfl|hc
    ·exact av9 _
    ·rcases List.mem_cons.1 hc with rfl|hc
     ·exact .int _ _
     ·exact bc5 r c hc
   ·exact .bool _
   ·exact .bool _
  ·unfold ik2;unfold dj7 at h15;rw[if_neg he] at h15 ⊢;rw[if_neg he];simp only[go_sem,hob];refine aa2 hAll ?_;simp only[go_sem,hob,rl,bk1,ah1];refine aa2 h15 ?_;simp only[go_sem,he];exact nilb _
def dq9 (x:Nat×Bool):IV:=.tuple [.int .i64 x.1,.bool x.2]
theorem bj4 {s:Store}(n:Nat)(b:Bool):ck7 s 0 (.tuple [.int .i64 n,.bool b]) (dq9 (n,b)):=.cm8 (.cons (ad9 _ _) (.cons (ab3 _) .nil))
theorem fm7 (r:aa8)(rs:List aa8)(deep n:Nat):co8 (r::rs) deep n=if big r.dep=true then (0,true) else
  if (bz7 r (deep+1)).2=true\/2000<n+1+(bz7 r (deep+1)).1 then (0,true) else co8 rs deep (n+1+(bz7 r (deep+1)).1):=by
 simp only[co8]
theorem gd3 (r:aa8):∀ deep:Nat,deep<=21->r.ok->PC Tryz.prog EE 77 [ai6 r.args,.int .i64 deep] (dq9 (bz7 r deep)):=by
 induction r using aa8.ind with
 | h k d xs ih=>
  intro deep hdeep hok;obtain ⟨o1,o2,o3,o4,o5⟩:=aa8.fl9.1 hok;refine af2 hE fok77 (nZ rfl) (ao3 (aj7 _) (.int _ _)) ?_;by_cases b1:20<deep
  ·have c1:(20:Int)<deep:=by omega
   simp only[ic77,go_sem,aa8.args,bz7,c1,b1,true_or];exact bj4 0 true
  have c1:¬ (20:Int)<deep:=by omega
  by_cases b2:100<xs.length
  ·have c2:(100:Int)<xs.length:=by omega
   simp only[ic77,go_sem,aa8.args,bz7,c1,c2,b1,b2,or_true];exact bj4 0 true
  have c2:¬ (100:Int)<xs.length:=by omega
  simp only[ic77,go_sem,aa8.args,bz7,c1,c2,b1,b2,or_self];refine ab7 noT (fun i fr s=>∃ n:Nat,fr=[(0,ai6 xs),(1,.int .i64 deep),(6,.int .i64 n),(7,.int .i64 i)]/\n<=2000/\co8 xs deep 0=co8 (xs.drop i) deep n) xs.length ⟨0,rfl,by omega,rfl⟩ ?_;rintro i fr s hi ⟨n,rfl,hn,hm⟩;by_cases hlt:i<xs.length
  ·obtain ⟨x,hx,hxi,hdr,hget,htk⟩:=ae2 xs i hlt;have c3:(i:Int)<xs.length:=by omega
   have c4:(0:Int)<=i:=by omega
   have w1:=ad7 (i:=i) (by omega);have w2:=ad7 (i:=deep) (by omega);have w3:=ad7 (i:=n) (by omega);rw[hdr,fm7] at hm;obtain ⟨k',d',ys⟩:=x;rw[show (aa8.mk k' d' ys).dep=d' from rfl] at hm;obtain ⟨x1,x2,x3,x4,x5⟩:=aa8.fl9.1 (o5 _ hx);have hA:=ih _ hx (deep+1) (by omega) (o5 _ hx)
   have hsz:IntKind.i64.wrap ((d'.name.length:Int)+d'.evr.ver.length)=((d'.name.length+d'.evr.ver.length:Nat):Int):=by
    have:=x3.1; have:=x3.2.1;rw[wrap64 (by omega) (by omega)]; omega
   simp only[go_sem,c3,c4,hget,aa8.an4,aa8.kind,aa8.dep,aa8.args,hsz,bi8] at hA ⊢;have hbig:big d'=(decide (500<d'.name.length+d'.evr.ver.length)||decide (500<d'.evr.rel.length)):=rfl;by_cases q1:500<d'.name.length+d'.evr.ver.length
   ·have e1:(500:Int)<((d'.name.length+d'.evr.ver.length:Nat):Int):=by omega
    have hb:big d'=true:=by rw[hbig]; simp[q1]
    rw[if_pos hb] at hm;simp only[go_sem,e1,hm];exact bj4 0 true
   have e1:¬ (500:Int)<((d'.name.length+d'.evr.ver.length:Nat):Int):=by omega
   by_cases q2:500<d'.evr.rel.length
   ·have e2:(500:Int)<d'.evr.rel.length:=by omega
    have hb:big d'=true:=by rw[hbig]; simp[q2]
    rw[if_pos hb] at hm;simp only[go_sem,c3,c4,hget,aa8.an4,aa8.kind,aa8.dep,aa8.args,e1,e2,hm];exact bj4 0 true
   have e2:¬ (500:Int)<d'.evr.rel.length:=by omega
   have hb:¬ big d'=true:=by rw[hbig]; simp[q1,q2]
   rw[if_neg hb] at hm;simp only[go_sem,c3,c4,hget,aa8.an4,aa8.kind,aa8.dep,aa8.args,e1,e2,w2];refine aa4 fok77 hA ?_;have hkl:(bz7 (.mk k' d' ys) (deep+1)).1<=2000:=by rw[dj3]; exact er8 _ _
   generalize bz7 (.mk k' d' ys) (deep+1)=ka at *
   have w4:IntKind.i64.wrap (((n+1:Nat):Int)+ka.1)=((n+1+ka.1:Nat):Int):=by
    rw[wrap64 (by omega) (by omega)]; omega
   cases hk2:ka.2 with
   | true=>
    rw[if_pos (.inl hk2)] at hm;simp only[go_sem,dq9,hk2,w3,w4,hm]
    exact bj4 0 true
   | false=>
    by_cases q3:2000<n+1+ka.1
    ·have e3:(2000:Int)<((n+1+ka.1:Nat):Int):=by omega
     rw[if_pos (.inr q3)] at hm;simp only[go_sem,dq9,hk2,w3,w4,e3,hm];exact bj4 0 true
    ·have e3:¬ (2000:Int)<((n+1+ka.1:Nat):Int):=by omega
     rw[if_neg (by rw[hk2]; simp; omega)] at hm;simp only[go_sem,dq9,hk2,w1,w3,w4,e3];exact ⟨hlt,n+1+ka.1,rfl,by omega,hm⟩
  ·have hi':i=xs.length:=by omega
   subst hi';have c3:¬ (xs.length:Int)<xs.length:=by omega
   rw[List.drop_length] at hm;simp only[go_sem,c3,hm,co8];exact bj4 n false
theorem fm8 (l:List aa8)(h1:l.length<2^62)(h2:∀ r∈l,r.ok):PC Tryz.prog EE 77 [ai6 l,.int .i64 0] (dq9 (co9 l 0)):=by
 have h:=gd3 (.mk 1 bz2 l) 0 (by omega) (aa8.fl9.2 ⟨by omega,by omega,⟨by decide,by decide,by decide⟩,h1,h2⟩);rw[dj3] at h;exact h
def lC (l:List aa8):List IV:=[ai6 l]
theorem ek9 {p:aa3}{l:List aa8}(h:l∈bn8 p):∃ x∈p.rows,x.2=l:=by
 simp only[bn8,List.mem_cons,List.not_mem_nil,or_false] at h;rcases h with rfl|rfl|rfl|rfl|rfl|rfl<;>simp[aa3.rows]
theorem el1 (l:List aa8)(ls:List (List aa8))(n:Nat):bz8 (l::ls) n=if (co9 l 0).2=true\/2000<n+(co9 l 0).1 then true else bz8 ls (n+(co9 l 0).1):=by simp only[bz8]
theorem dj8 (p:aa3)(ho:p.Ok):PC Tryz.prog EE 34 [.agg p.cs] (.bool (au6 p)):=by
 refine af2 hE fok34 (nZ rfl) (ae1 (am9 p)) ?_;by_cases b1:100<p.provides.length
 ·have c1:(100:Int)<p.provides.length:=by omega
  simp only[ic34,go_sem,ac9,aa3.cs,c1,au6,b1];exact ab3 _
 have c1:¬ (100:Int)<p.provides.length:=by omega
 by_cases b2:100<p.aa9.length
 ·have c2:(100:Int)<p.aa9.length:=by omega
  simp only[ic34,go_sem,ac9,aa3.cs,c1,c2,au6,b1,b2];exact ab3 _
 have c2:¬ (100:Int)<p.aa9.length:=by omega
 by_cases b3:100<p.files.length
 ·have c3:(100:Int)<p.files.length:=by omega
  simp only[ic34,go_sem,ac9,aa3.cs,c1,c2,c3,au6,b1,b2,b3];exact ab3 _
 have c3:¬ (100:Int)<p.files.length:=by omega
 by_cases b4:1000<p.name.length
 ·have c4:(1000:Int)<p.name.length:=by omega
  simp only[ic34,go_sem,ac9,aa3.cs,c1,c2,c3,c4,au6,b1,b2,b3,b4];exact ab3 _
 have c4:¬ (1000:Int)<p.name.length:=by omega
 by_cases b5:1000<p.vendor.length
 ·have c5:(1000:Int)<p.vendor.length:=by omega
  simp only[ic34,go_sem,ac9,aa3.cs,c1,c2,c3,c4,c5,au6,b1,b2,b3,b4,b5];exact ab3 _
 have c5:¬ (1000:Int)<p.vendor.length:=by omega
 by_cases b6:1000<p.evr.ver.length
 ·have c6:(1000:Int)<p.evr.ver.length:=by omega
  simp only[ic34,go_sem,ac9,aa3.cs,c1,c2,c3,c4,c5,c6,au6,b1,b2,b3,b4,b5,b6];exact ab3 _
 have c6:¬ (1000:Int)<p.evr.ver.length:=by omega
 by_cases b7:1000<p.evr.rel.length
 ·have c7:(1000:Int)<p.evr.rel.length:=by omega
  simp only[ic34,go_sem,ac9,aa3.cs,c1,c2,c3,c4,c5,c6,c7,au6,b1,b2,b3,b4,b5,b6,b7];exact ab3 _
 have c7:¬ (1000:Int)<p.evr.rel.length:=by omega
 have hM:au6 p=bz8 (bn8 p) 0:=by simp only[au6,b1,b2,b3,b4,b5,b6,b7,decide_false,Bool.false_or]
 rw[hM];simp only[ic34,go_sem,ac9,aa3.cs,c1,c2,c3,c4,c5,c6,c7];refine ab7 noT (fun i fr s=>∃ n:Nat,fr=[(3,.int .i64 n),(62,.aa5 ((bn8 p).map lC)),(63,.int .i64 6),(64,.int .i64 i)]/\n<=2000/\bz8 (bn8 p) 0=bz8 ((bn8 p).drop i) n) 6 ⟨0,rfl,by omega,rfl⟩ ?_;rintro i fr s hi ⟨n,rfl,hn,hm⟩;by_cases hlt:i<6
 ·obtain ⟨l,hl,hli,hdr,hget,htk⟩:=ae2 (bn8 p) i hlt;have d1:(i:Int)<6:=by omega
  have d2:(0:Int)<=i:=by omega
  have d3:(i:Int)<((bn8 p).length:Nat):=by simp only[bn8,List.length_cons,List.length_nil]; omega
  have w1:=ad7 (i:=i) (by omega);rw[hdr,el1] at hm;obtain ⟨x,hx,rfl⟩:=ek9 hl;have hok:=ho.rich x hx;simp only[go_sem,d1,d2,d3,hget,lC];refine aa4 fok77 (fm8 x.2 hok.1 hok.2) ?_;have hle:=er8 x.2 0;generalize co9 x.2 0=ka at *
  have w4:IntKind.i64.wrap ((n:Int)+ka.1)=((n+ka.1:Nat):Int):=by
   rw[wrap64 (by omega) (by omega)]; omega
  cases hk2:ka.2 with
  | true=>
   rw[if_pos (.inl hk2)] at hm;simp only[go_sem,dq9,hk2,w4,hm]
   exact ab3 _
  | false=>
   by_cases q3:2000<n+ka.1
   ·have e3:(2000:Int)<((n+ka.1:Nat):Int):=by omega
    rw[if_pos (.inr q3)] at hm;simp only[go_sem,dq9,hk2,w4,e3,hm];exact ab3 _
   ·have e3:¬ (2000:Int)<((n+ka.1:Nat):Int):=by omega
    rw[if_neg (by rw[hk2]; simp; omega)] at hm;simp only[go_sem,dq9,hk2,w1,w4,e3];exact ⟨hlt,n+ka.1,rfl,by omega,hm⟩
 ·have hi':i=6:=by omega
  subst hi';have e6:(bn8 p).drop 6=[]:=rfl;rw[e6] at hm;simp only[go_sem,hm,bz8];exact ab3 _
theorem eu1 {α:Type}{q:α->Bool}{l:List α}{i:Nat}{a:α}(h:l.drop i=a::l.drop (i+1)):(l.drop i).any q=(q a||(l.drop (i+1)).any q):=by rw[h]; simp
set_option maxHeartbeats 1000000
def ca7 (most:Nat):List al7->Nat->Bool
 | [],_=>false
 | r::rs,n=>if most<n+r.packages.length then true else if r.packages.any au6=true then true else ca7 most rs (n+r.packages.length)
def bo4 (repos:List al7)(inst:List aa3)(r:Req)(most:Nat):Bool :=
 decide (30<repos.length)||(decide (most<inst.length)||(decide (20<r.ah6.length)||(decide (20<r.ai2.length)||(inst.any au6||ca7 most repos inst.length))))
theorem el3 (most:Nat)(r:al7)(rs:List al7)(n:Nat):ca7 most (r::rs) n=if most<n+r.packages.length then true else if r.packages.any au6=true then true else ca7 most rs (n+r.packages.length):=by simp only[ca7]
theorem gd4 (r:Req):(r.cs.drop 2).head? = some (bb7 r.ah6):=rfl
theorem iu4 (r:Req):(r.cs.drop 3).head? = some (au7 r.ai2):=rfl
theorem gd5 (repos:List al7)(inst:List aa3)(r:Req)(most:Nat)(h1:repos.length<2^62)(h2:inst.length<2^62)(hmo:most<2^31)(hr:∀ r∈repos,al7.Ok r)(hi:∀ p∈inst,p.Ok) :
  PC Tryz.prog EE 8 [as5 repos,az1 inst,.agg r.cs,.int .i64 most] (.bool (bo4 repos inst r most)):=by
 refine af2 hE fok8 (nZ rfl) (iq5 (bo7 _) (av9 _) (.agg _ (bc5 r)) (.int _ _)) ?_;have rl:r.cs.length=5:=rfl;have jl:∀ l:List Job,∀ σ:Store,cm5 0 σ (bb7 l)=some (.int .i64 l.length):=fun l σ=>by unfold bb7; simp only[go_sem]
 have el:∀ l:List bb6,∀ σ:Store,cm5 0 σ (au7 l)=some (.int .i64 l.length):=fun l σ=>by unfold au7; simp only[go_sem]
 by_cases b1:30<repos.length
 ·have c1:(30:Int)<repos.length:=by omega
  simp only[ic8,go_sem,ah1,c1,bo4,b1];exact ab3 _
 have c1:¬ (30:Int)<repos.length:=by omega
 by_cases b2:most<inst.length
 ·have c2:(most:Int)<inst.length:=by omega
  simp only[ic8,go_sem,ah1,c1,c2,bo4,b1,b2];exact ab3 _
 have c2:¬ (most:Int)<inst.length:=by omega
 by_cases b3:20<r.ah6.length
 ·have c3:(20:Int)<r.ah6.length:=by omega
  simp only[ic8,go_sem,ah1,c1,c2,gd4,jl,c3,bo4,b1,b2,b3];exact ab3 _
 have c3:¬ (20:Int)<r.ah6.length:=by omega
 by_cases b4:20<r.ai2.length
 ·have c4:(20:Int)<r.ai2.length:=by omega
  simp only[ic8,go_sem,ah1,c1,c2,gd4,iu4,jl,el,c3,c4,bo4,b1,b2,b3,b4];exact ab3 _
 have c4:¬ (20:Int)<r.ai2.length:=by omega
 have hM:bo4 repos inst r most=(inst.any au6||ca7 most repos inst.length):=by simp only[bo4,b1,b2,b3,b4,decide_false,Bool.false_or]
 rw[hM];simp only[ic8,go_sem,ah1,c1,c2,gd4,iu4,jl,el,c3,c4];refine ab7 noT (fun i fr s=>fr=[(0,as5 repos),(1,az1 inst),(3,.int .i64 most),(9,.int .i64 inst.length),(10,.int .i64 i)]/\inst.any au6=(inst.drop i).any au6) inst.length ⟨rfl,rfl⟩ ?_;rintro i fr s hle ⟨rfl,hm⟩;by_cases hlt:i<inst.length
 ·obtain ⟨x,hx,hxi,hdr,hget,htk⟩:=ae2 inst i hlt;have d1:(i:Int)<inst.length:=by omega
  have d2:(0:Int)<=i:=by omega
  have w1:=ad7 (i:=i) (by omega);rw[eu1 hdr] at hm;simp only[go_sem,d1,d2,hget,ag7,ag9,w1];refine aa4 fok34 (dj8 x (hi x hx)) ?_
  cases hb:au6 x with
  | true=>
   rw[hb,Bool.true_or] at hm;simp only[go_sem,hm]
   exact ab3 _
  | false=>
   rw[hb,Bool.false_or] at hm;simp only[go_sem,w1];exact ⟨hlt,hm⟩
 have hi':i=inst.length:=by omega
 subst hi';have d1:¬ (inst.length:Int)<inst.length:=by omega
 rw[List.drop_length,List.any_nil] at hm;rw[hm,Bool.false_or];simp only[go_sem,d1];refine ab7 noT (fun i fr t=>∃ n:Nat,fr=[(0,as5 repos),(3,.int .i64 most),(9,.int .i64 n),(11,.int .i64 i)]/\n<=most/\ca7 most repos inst.length=ca7 most (repos.drop i) n) repos.length ⟨inst.length,rfl,by omega,rfl⟩ ?_;rintro i fr t hle2 ⟨n,rfl,hn,hm2⟩;by_cases hlt:i<repos.length
 ·obtain ⟨x,hx,hxi,hdr,hget,htk⟩:=ae2 repos i hlt;have d3:(i:Int)<repos.length:=by omega
  have d4:(0:Int)<=i:=by omega
  have w1:=ad7 (i:=i) (by omega);have hxo:=hr x hx
  have w2:IntKind.i64.wrap ((n:Int)+x.packages.length)=((n+x.packages.length:Nat):Int):=by
   have:=hxo.1;rw[wrap64 (by omega) (by omega)]; omega
  rw[hdr,el3] at hm2;by_cases q1:most<n+x.packages.length
  ·have e1:(most:Int)<((n+x.packages.length:Nat):Int):=by omega
   rw[if_pos q1] at hm2;simp only[go_sem,d3,d4,hget,ao4,al7.cs,w2,e1,hm2];exact ab3 _
  have e1:¬ (most:Int)<((n+x.packages.length:Nat):Int):=by omega
  rw[if_neg q1] at hm2;simp only[go_sem,d3,d4,hget,ao4,al7.cs,w2,e1];refine ab7 noT (fun j fr t=>fr=[(0,as5 repos),(3,.int .i64 most),(9,.int .i64 (n+x.packages.length:Nat)),(11,.int .i64 i),(12,.int .i64 j)]/\x.packages.any au6=(x.packages.drop j).any au6) x.packages.length ⟨rfl,rfl⟩ ?_;rintro j fr t hlej ⟨rfl,hj⟩;by_cases hjl:j<x.packages.length
  ·obtain ⟨y,hy,hyi,hdr3,hget3,htk3⟩:=ae2 x.packages j hjl;have d5:(j:Int)<x.packages.length:=by omega
   have d6:(0:Int)<=j:=by omega
   have w3:=ad7 (i:=j) (by have:=hxo.1; omega);rw[eu1 hdr3] at hj;simp only[go_sem,d3,d4,d5,d6,hget,hget3,ao4,al7.cs,ag7,ag9,w3];refine aa4 fok34 (dj8 y (hxo.2 y hy)) ?_
   cases hb:au6 y with
   | true=>
    rw[hb,Bool.true_or] at hj;rw[if_pos hj] at hm2;simp only[go_sem,hm2]
    exact ab3 _
   | false=>
    rw[hb,Bool.false_or] at hj;simp only[go_sem,w3];exact ⟨hjl,hj⟩
  ·have hj':j=x.packages.length:=by omega
   subst hj';have d5:¬ (x.packages.length:Int)<x.packages.length:=by omega
   rw[List.drop_length,List.any_nil] at hj;rw[if_neg (by rw[hj]; exact Bool.false_ne_true)] at hm2;simp only[go_sem,d3,d4,d5,hget,ao4,al7.cs,w1];exact ⟨hlt,n+x.packages.length,rfl,by omega,hm2⟩
 ·have hi':i=repos.length:=by omega
  subst hi';have d3:¬ (repos.length:Int)<repos.length:=by omega
  rw[List.drop_length] at hm2;simp only[go_sem,d3,hm2,ca7];exact ab3 _
open Go.Id.Md.ac5 (inS less)
set_option maxHeartbeats 1000000
theorem el4 {s:Store}(x:Str):ck7 s 0 (.str x) (.str x):=.keep _ (.str _)
theorem gd6 {s:Store}(k:IntKind)(n:Int):ck7 s 0 (.int k n) (.int k n):=.keep _ (.int _ _)
def ik3 (name ver:Str):aa3:={ name:=name,evr:=⟨0,ver,[49]⟩,ar9:=1,vendor:=[],provides:=[],requires:=[],conflicts:=[],aa9:=[],ac3:=[],ac1:=[],suggests:=[],ad6:=[],files:=[] }
theorem dj9 (name ver:Str):PC Tryz.prog EE 35 [.str name,.str ver] (.agg (ik3 name ver).cs):=by
 refine af2 hE fok35 (nZ rfl) (aj9 (.str _) (.str _)) ?_;simp only[ic35,go_sem];exact .ij1 (.cons (el4 _) (.cons (gd6 _ _) (.cons (el4 _) (.cons (el4 _) (.cons (gd6 _ _) (.cons (el4 _) (.cons .cc4 (.cons .cc4 (.cons .cc4 (.cons .cc4 (.cons .cc4 (.cons .cc4 (.cons .cc4 (.cons .cc4 (.cons .cc4 .nil)))))))))))))))
def at16 (s:Str):aa8:=.mk 1 ⟨s,0,⟨0,[],[]⟩⟩ []
theorem gd7 (s:Str):PC Tryz.prog EE 36 [.str s] (.agg (at16 s).cs):=by
 refine af2 hE fok36 (nZ rfl) (ai8 (.str _)) ?_;simp only[ic36,go_sem];exact .ij1 (.cons (gd6 _ _) (.cons (el4 _) (.cons (gd6 _ _) (.cons (gd6 _ _) (.cons (el4 _) (.cons (el4 _) (.cons .cc4 .nil)))))))
def iu5 (repos:List al7)(inst:List aa3):Pool:=match bt7 repos inst with
 | .inl p=>p
 | .inr _=>⟨[],0,[]⟩
def eu2 (d:Dep):Bool:=decide (d.name.length<100)&&decide (d.evr.ver.length<100)&&decide (d.evr.rel.length<100)
def hm5 (p:aa3):Bool:=decide (p.name.length<100)&&decide (p.vendor.length<100)&&decide (p.evr.ver.length<100)&&decide (p.evr.rel.length<100)&&decide (p.provides.length<100)&&p.provides.all eu2&&decide (p.aa9.length<100)&&p.aa9.all eu2 &&
 decide (p.files.length<100)&&p.files.all (fun s=>decide (s.length<100))&&p.rows.all fun x=>x.2.isEmpty
theorem gx6 {p:aa3}(h:hm5 p=true):p.Fit/\p.Ok:=by
 unfold hm5 at h;simp only[Bool.and_eq_true,decide_eq_true_eq,List.all_eq_true] at h;obtain ⟨⟨⟨⟨⟨⟨⟨⟨⟨⟨h1,h2⟩,h3⟩,h4⟩,h5⟩,h6⟩,h7⟩,h8⟩,h9⟩,h10⟩,h11⟩:=h
 have hd:∀ d:Dep,eu2 d=true->d.fit:=fun d hd=>by
  unfold eu2 at hd;simp only[Bool.and_eq_true,decide_eq_true_eq] at hd;exact ⟨by omega,by omega,by omega⟩
 have hr:∀ x∈p.rows,x.2=[]:=fun x hx=>List.isEmpty_iff.1 (h11 x hx)
 exact ⟨⟨by omega,⟨by omega,by omega⟩,⟨by omega,fun d hx=>hd d (h6 d hx)⟩,⟨by omega,fun d hx=>hd d (h8 d hx)⟩,⟨by omega,fun x hx=>by have:=h10 x hx; omega⟩,fun x hx=>by rw[hr x hx]; exact ⟨by simp,fun r h=>by cases h⟩⟩,
  ⟨by omega,by omega,⟨by omega,by omega⟩,⟨by omega,fun d hx=>hd d (h6 d hx)⟩,⟨by omega,fun d hx=>hd d (h8 d hx)⟩,⟨by omega,fun x hx=>by have:=h10 x hx; omega⟩,fun x hx=>by rw[hr x hx]; exact ⟨by simp,fun r h=>by cases h⟩⟩⟩
theorem dr1 (l:List Itm){i:Nat}(h:i<l.length):(l.map Itm.cs).getD i []=l[i].cs:=by
 simp[List.getD_eq_getElem?_getD,h]
theorem gd8 (l m:List Itm)(hl:l.length<2^62)(hm:m.length<2^62):PC Tryz.prog EE 14 [ar2 l,ar2 m] (.bool (decide (l=m))):=by
 refine af2 hE fok14 (nZ rfl) (aj9 (bc1 l) (bc1 m)) ?_;have il:∀ l:List Itm,∀ σ:Store,cm5 0 σ (ar2 l)=some (.int .i64 l.length):=fun l σ=>by unfold ar2; simp only[go_sem]
 by_cases hn:l.length=m.length
 case neg=>
  have e:¬ (l.length:Int)=m.length:=by omega
  have e2:decide (l=m)=false:=by
   rw[decide_eq_false_iff_not]; intro h; exact hn (by rw[h])
  rw[e2];simp only[ic14,go_sem,il,e];exact ab2 rfl
 have e:(l.length:Int)=m.length:=by omega
 simp only[ic14,go_sem,il,e];refine ab7 noT (fun i fr s=>fr=[(0,ar2 l),(1,ar2 m),(5,.int .i64 (i:Int))]/\l.take i=m.take i) l.length ⟨rfl,rfl⟩ ?_;rintro i fr s hi ⟨rfl,ht⟩;by_cases hlt:i<l.length
 ·have c1:(i:Int)<l.length:=by omega
  have c2:(0:Int)<=(i:Int):=by omega
  have c3:(i:Int)<m.length:=by omega
  have w1:=ad7 (i:=i) (by omega);have g1:=dr1 l hlt;have g2:=dr1 m (i:=i) (by omega);simp only[go_sem,ar2,c1,c2,c3,g1,g2,ag3,ae8,hk9];by_cases hq:l[i]=m[i]'(by omega)
  ·simp only[hq,go_sem,w1];refine ⟨hlt,?_⟩;rw[List.take_add_one,List.take_add_one,ht,List.getElem?_eq_getElem hlt,List.getElem?_eq_getElem (by omega),hq]
  ·have e2:decide (l=m)=false:=by
    rw[decide_eq_false_iff_not]; intro h; subst h; exact hq rfl
   rw[e2];simp only[hq,go_sem];exact ab2 rfl
 ·have c1:¬ (i:Int)<l.length:=by omega
  rw[List.take_of_length_le (by omega),List.take_of_length_le (by omega)] at ht;subst ht;simp only[go_sem,il,c1];exact ab2 (by simp)
set_option maxHeartbeats 1000000
def wkA:aa3:={ ik3 [97] [49] with requires:=[at16 [120]] }
def wkB:aa3:={ ik3 [98] [49] with provides:=[⟨[120],0,⟨0,[],[]⟩⟩] }
def wkR:List al7:=[⟨0,[wkB]⟩]
def wkI:List aa3:=[wkA]
def wkQ:Req:=⟨2,false,[],[],0⟩
def wkP:Pool:=iu5 wkR wkI
def wkM:ac5:=⟨wkP,wkQ⟩
theorem hm6:bt7 wkR wkI=.inl wkP:=by kernel_rfl
theorem hm7:ak9 wkQ wkP.inst=0:=by kernel_rfl
theorem iu6:(at16 [120]).fit:=aa8.bk5.2 ⟨by decide,by decide,⟨by show 1<2^62; decide,by show 0<2^62; decide,by show 0<2^62; decide⟩,by show 0<_; decide,fun r h=>(by cases h)⟩
theorem jf9:(at16 [120]).ok:=aa8.fl9.2 ⟨by decide,by decide,⟨by show 1<2^62; decide,by show 0<2^62; decide,by show 0<2^62; decide⟩,by show 0<_; decide,fun r h=>(by cases h)⟩
theorem iu7:wkA.Fit/\wkA.Ok:=by
 have hr:∀ x∈wkA.rows,x.2.length<100/\∀ r∈x.2,r=at16 [120]:=fun x hx2=>by
  simp only[aa3.rows,wkA,ik3,List.mem_cons,List.not_mem_nil,or_false] at hx2;rcases hx2 with rfl|rfl|rfl|rfl|rfl|rfl
  ·refine ⟨by decide,fun r hr=>List.mem_singleton.1 hr⟩
  all_goals exact ⟨by decide,fun r h=>by cases h⟩
 have n0:∀ {α:Type} {q:α->Prop},∀ d∈([]:List α),q d:=fun d h=>by cases h
 refine ⟨⟨by show 1<_; decide,⟨by show 1<2^62; decide,by show 1<2^62; decide⟩,⟨by show 0<_; decide,n0⟩,⟨by show 0<_; decide,n0⟩,⟨by show 0<_; decide,n0⟩,fun x hx2=>⟨by have:=(hr x hx2).1; omega,fun r h=>?_⟩⟩,⟨by show 1<_; decide,by show 0<2^62; decide,⟨by show 1<2^62; decide,by show 1<2^62; decide⟩,⟨by show 0<_; decide,n0⟩,⟨by show 0<_; decide,n0⟩,⟨by show 0<_; decide,n0⟩,fun x hx2=>⟨by have:=(hr x hx2).1; omega,fun r h=>?_⟩⟩⟩
 ·rw[(hr x hx2).2 r h];exact ⟨iu6,by show 1<2^31; decide⟩
 ·rw[(hr x hx2).2 r h];exact jf9
theorem iu8:ha7 wkR wkI:=by
 have hB:wkB.Fit/\wkB.Ok:=gx6 (by kernel_rfl);have hA:=iu7
 exact ⟨by decide,by decide,by decide,fun r hr=>by
   rw[List.mem_singleton.1 hr];exact ⟨by decide,fun p hp=>by rw[List.mem_singleton.1 hp]; exact hB.1⟩,fun p hp=>by rw[List.mem_singleton.1 hp]; exact hA.1,fun r hr=>by
   rw[List.mem_singleton.1 hr];exact ⟨by decide,fun p hp=>by rw[List.mem_singleton.1 hp]; exact hB.2⟩,fun p hp=>by rw[List.mem_singleton.1 hp]; exact hA.2⟩
theorem hm8:dt8 wkQ:=⟨by decide,by decide,fun j h=>by cases h⟩
theorem ca8:wkM.items=[⟨2,0,0⟩,⟨6,0,0⟩]:=by kernel_rfl
theorem id9:wkM.holds [0] ⟨2,0,0⟩=false:=by kernel_rfl
theorem ie1:wkM.holds [0] ⟨6,0,0⟩=true:=by kernel_rfl
theorem ie2:wkM.good [0,1]=true:=by kernel_rfl
theorem ie3:wkM.good []=false:=by kernel_rfl
theorem ie4:ek8 wkR wkI wkQ=.tuple [wkM.mv,wkM.v,.ac2 (az1 (et8 wkR wkI)::.int .i64 wkP.inst::wkQ.cs),.bool true,.bool false]:=by
 unfold ek8;rw[hm6];simp only[hm7,if_true];rfl
theorem bt3:PC Tryz.prog EE 9 [] (.bool true):=by
 have nA:=dj9 [97] [49];have nB:=dj9 [98] [49];have aT:=gd7 [120];have hm:=eb4 wkR wkI wkQ iu8 hm8;rw[ie4] at hm;have hA:=aok iu8 hm6 hm8 hm7;have hI:=eb1 wkM (by rw[ca8]; decide);have hS:=gd8 wkM.items [⟨2,0,0⟩,⟨6,0,0⟩] (by rw[ca8]; decide) (by decide);rw[decide_eq_true ca8] at hS;have h1:=bo3 wkM hA [0] (by decide) ⟨2,0,0⟩;have h2:=bo3 wkM hA [0] (by decide) ⟨6,0,0⟩;have g1:=et4 wkM hA [0,1] (by decide) (by rw[ca8]; decide);have g2:=et4 wkM hA [] (by decide) (by rw[ca8]; decide);rw[id9] at h1;rw[ie1] at h2;rw[ie2] at g1;rw[ie3] at g2
 have g3:PC Tryz.prog EE 17 [wkM.mv,.aa1] (.bool false):=ct6 (args':=[wkM.mv,.aa5 (([]:List Int).map Md.ai5)]) rfl (fun σ i hi=>by
  match i,hi with
  | 0,_=>exact .keep _ ((ap9 wkM).weak fun _ _=>rfl)
  | 1,_=>exact .cc4) g2
 have cA:(ik3 [97] [49]).cs=[.str [97],.int .i64 0,.str [49],.str [49],.int .u8 1,.str [],.aa5 [],.aa5 [],.aa5 [],.aa5 [],.aa5 [],.aa5 [],.aa5 [],.aa5 [],.aa5 []]:=rfl;have cB:(ik3 [98] [49]).cs=[.str [98],.int .i64 0,.str [49],.str [49],.int .u8 1,.str [],.aa5 [],.aa5 [],.aa5 [],.aa5 [],.aa5 [],.aa5 [],.aa5 [],.aa5 [],.aa5 []]:=rfl;have cT:(at16 [120]).cs=[.int .u8 1,.str [120],.int .u8 0,.int .i64 0,.str [],.str [],.aa5 []]:=rfl;rw[cA] at nA;rw[cB] at nB;rw[cT] at aT
 have hm2:PC Tryz.prog EE 10 [.aa5 [[.int .i64 0,.aa5 [[.str [98],.int .i64 0,.str [49],.str [49],.int .u8 1,.str [],.aa5 [[.str [120],.int .u8 0,.int .i64 0,.str [],.str []]],.aa5 [],.aa5 [],.aa5 [],.aa5 [],.aa5 [],.aa5 [],.aa5 [],.aa5 []]]]],
   .aa5 [[.str [97],.int .i64 0,.str [49],.str [49],.int .u8 1,.str [],.aa5 [],.aa5 [[.int .u8 1,.str [120],.int .u8 0,.int .i64 0,.str [],.str [],.aa5 []]],.aa5 [],.aa5 [],.aa5 [],.aa5 [],.aa5 [],.aa5 [],.aa5 []]],
   .agg [.int .u8 2,.bool false,.aa1,.aa1,.int .i64 0]] (.tuple [wkM.mv,wkM.v,.ac2 (az1 (et8 wkR wkI)::.int .i64 wkP.inst::wkQ.cs),.bool true,.bool false]):=hz7 (args':=[as5 wkR,az1 wkI,.agg wkQ.cs]) (by kernel_rfl) hm
 generalize wkM.mv=MV at *;generalize wkM.v=AV at *;generalize hTV:(IV.ac2 (az1 (et8 wkR wkI)::.int .i64 wkP.inst::wkQ.cs))=TV at *;refine af2 hE fok9 (nZ rfl) (fun a h=>by cases h) ?_;simp only[ic9,go_sem]
 first|refine aa4 fok35 (nA) ?_|refine aa2 (nA) ?_
 simp only[go_sem]
 first|refine aa4 fok35 (nB) ?_|refine aa2 (nB) ?_
 simp only[go_sem]
 first|refine aa4 fok36 (aT) ?_|refine aa2 (aT) ?_
 simp only[go_sem]
 first|refine aa4 fok10 (hm2) ?_|refine aa2 (hm2) ?_
 simp only[go_sem]
 first|refine aa4 fok11 (hI) ?_|refine aa2 (hI) ?_
 simp only[go_sem]
 first|refine aa4 fok14 (hS) ?_|refine aa2 (hS) ?_
 simp only[go_sem]
 first|refine aa4 fok12 (h1) ?_|refine aa2 (h1) ?_
 simp only[go_sem]
 first|refine aa4 fok12 (h2) ?_|refine aa2 (h2) ?_
 simp only[go_sem]
 first|refine aa4 fok17 (g1) ?_|refine aa2 (g1) ?_
 simp only[go_sem]
 first|refine aa4 fok17 (g3) ?_|refine aa2 (g3) ?_
 simp only[go_sem];exact ab2 rfl
end Go.Id.Tryz
set_option linter.all false
namespace Go.Id.Tryz
open Go Go.Id Go.Proofs Go.Shelf Go.Id.Md
open Go.Id.Md.ac5 (inS less)
set_option maxRecDepth 100000
set_option maxHeartbeats 1000000
theorem ev8 (r:Req):r.cs.length=5:=rfl
theorem gi5 (l:List Itm){i:Nat}(h:i<l.length):(l.map Itm.cs).getD i []=l[i].cs:=dr1 l h
theorem ig1 (l:List Job){i:Nat}(h:i<l.length):(l.map Job.cs).getD i []=(l.getD i default).cs:=by
 simp[List.getD_eq_getElem?_getD,h]
theorem hn9 (j:Job):j.cs.length=6:=rfl
theorem ev9 (j:Job):j.cs.head? = some (.int .u8 j.kind):=rfl
theorem ew1 (l:List Job)(σ:Store):cm5 0 σ (bb7 l)=some (.int .i64 l.length):=by unfold bb7; simp only[go_sem]
theorem au9 (l:List Itm)(σ:Store):cm5 0 σ (ar2 l)=some (.int .i64 l.length):=by unfold ar2; simp only[go_sem]
theorem bj8 (a:ac5):a.mv.cs=[a.mv]:=rfl
theorem ax6 (a:ac5):a.mv.leaf=true:=rfl
theorem ha5 {repos:List al7}{inst:List aa3}{r:Req}(hI:ha7 repos inst)(hR:dt8 r):ek8 repos inst r=fm6\/∃ p:Pool,bt7 repos inst=.inl p/\AOK ⟨p,r⟩/\(ac5.mk p r).items.length<2^30/\p.inst=inst.length /\
  ek8 repos inst r=.tuple [(ac5.mk p r).mv,(ac5.mk p r).v,.ac2 (az1 (et8 repos inst)::.int .i64 p.inst::r.cs),.bool true,.bool false]:=by
 unfold ek8
 cases hn:bt7 repos inst with
 | inr e=>exact .inl rfl
 | inl p=>
  by_cases he:ak9 r p.inst=0
  ·exact .inr ⟨p,rfl,aok hI hn hR he,(et9 hI hn hR he).1,(cp8 hn).2,by simp only[he,if_true]⟩
  ·exact .inl (by simp only[he,if_false])
def fo2 (n:Nat):List Int:=(List.range n).map fun (i:Nat)=>(i:Int)
theorem gi6 (n:Nat):fo2 (n+1)=fo2 n++[(n:Int)]:=by unfold fo2; rw[List.range_succ,List.map_append]; rfl
theorem ew2 (n:Nat):(fo2 n).length=n:=by unfold fo2; rw[List.length_map,List.length_range]
theorem ha6 {n:Nat}{i:Int}:i∈fo2 n↔0<=i/\i<n:=by
 unfold fo2;simp only[List.mem_map,List.mem_range];constructor
 ·rintro ⟨k,hk,rfl⟩; omega
 ·intro h; exact ⟨i.toNat,by omega,by omega⟩
theorem gi7 (l:List Int):∀ x∈l.map Md.ai5,x.length=1/\x.all IV.leaf=true:=fun x hx=>by
 obtain ⟨n,_,rfl⟩:=List.mem_map.1 hx; exact ⟨rfl,rfl⟩
theorem gi8 {σ:Store}{v:IV}{l:List Int}(h:Grow σ v 1 (l.map Md.ai5)):ck7 σ 0 v (.aa5 (l.map Md.ai5)):=
 h.frz (fun x hx=>(gi7 l x hx).1) (fun _ _=>Nat.not_lt_zero _) fun e he c hc=>by
  obtain ⟨n,_,rfl⟩:=List.mem_map.1 he;exact ai8 (.int _ _) c hc
theorem fo3 (a:ac5)(hA:AOK a){σ:Store}{gv:IV}{st:List Int}(hg:Grow σ gv 1 (st.map Md.ai5))(hs:st.length<2^30)(x:Itm) :
  C Tryz.prog EE 12 [a.mv,gv,.agg x.cs] σ (ij3 (.bool (a.holds st x)) σ):=
 ck8 (args':=[a.mv,.aa5 (st.map Md.ai5),.agg x.cs]) hE rfl (fun i hi=>by
  match i,hi with
  | 0,_=>exact .keep _ (ap9 a)
  | 1,_=>exact gi8 hg
  | 2,_=>exact .keep _ (bb9 x)) (by simp[IV.plain]) (bo3 a hA st hs x)
theorem en3 (a:ac5)(hA:AOK a)(x:Itm):PC Tryz.prog EE 12 [a.mv,.aa1,.agg x.cs] (.bool (a.holds [] x)):=ct6 (args':=[a.mv,.aa5 (([]:List Int).map Md.ai5),.agg x.cs]) rfl (fun σ i hi=>by
  match i,hi with
  | 0,_=>exact .keep _ ((ap9 a).weak fun _ _=>rfl)
  | 1,_=>exact .cc4
  | 2,_=>exact .keep _ ((bb9 x).weak fun _ _=>rfl)) (bo3 a hA [] (by decide) x)
theorem cx4 (repos:List al7)(inst:List aa3)(r:Req)(hI:ha7 repos inst)(hR:dt8 r) :
  PC Tryz.prog EE 3 [as5 repos,az1 inst,.agg r.cs] (.bool true):=by
 refine af2 hE fok3 (nZ rfl) (az9 (bo7 repos) (av9 inst) (.agg _ (bc5 r))) ?_;have hW:=gd5 repos inst r 40 (by have:=hI.r1; omega) (by have:=hI.i1; omega) (by decide) hI.ro hI.po;have hM:=eb4 repos inst r hI hR;have hi1:=hI.i1;simp only[ic3,go_sem,ah1,ev8,bk1]
 first|refine aa4 fok8 (hW) ?_|refine aa2 (hW) ?_
 cases hwd:bo4 repos inst r 40 with
 | true=>
  simp only[go_sem]
  first|refine aa4 fok9 (bt3) ?_|refine aa2 (bt3) ?_
  simp only[go_sem]
  exact ab2 rfl
 | false=>
 simp only[go_sem]
 first|refine aa4 fok9 (bt3) ?_|refine aa2 (bt3) ?_
 simp only[go_sem,ev8,bk1,ah1]
 first|refine aa4 fok10 (hM) ?_|refine aa2 (hM) ?_
 rcases ha5 hI hR with h0|⟨p,hn,hA,hIt,hin,h0⟩
 ·rw[h0];simp only[fm6,go_sem];exact ab2 rfl
 ·rw [h0];obtain ⟨a,ha⟩:∃ a,a=ac5.mk p r:=⟨_,rfl⟩;rw[<- ha] at hA hIt ⊢;simp only[go_sem];refine ab7 noT (fun i fr t=>∃ gv,fr=[(1,az1 inst),(5,.ac2 r.cs),(7,a.mv),(12,gv),(13,.int .i64 (i:Int))]/\Grow t gv 1 ((fo2 i).map Md.ai5)) inst.length ⟨.aa1,rfl,.inl ⟨rfl,rfl⟩⟩ ?_;rintro i fr t hi ⟨gv,rfl,hg⟩;by_cases hlt:i<inst.length
  ·have d1:(i:Int)<inst.length:=by omega
   have w1:=ad7 (i:=i) (by omega);have hg2:Grow ⟨t.next+1,t.obj⟩ gv 1 ((fo2 i).map Md.ai5):=hg.mono (Nat.le_succ _) fun _ _ _=>rfl
   have hap:=ak5 (nid:=t.next) (e:=[.int .i64 (i:Int)]) hg2 (gi7 _) ⟨rfl,rfl⟩ (by rw[List.length_map,ew2]; omega);have kn:(ai1 gv (⟨t.next+1,t.obj⟩:Store)).next=t.next+1:=ad4 gv;simp only[go_sem,d1,hap,w1];refine ⟨hlt,_,rfl,?_⟩;rw[gi6];refine .inr ⟨t.next,by first|rfl|simp,?_,Nat.lt_of_lt_of_le (Nat.lt_succ_self _) (Nat.le_of_eq kn.symm)⟩;simp only[aa7,if_true];rw[List.map_append];rfl
  have hi':i=inst.length:=by omega
  subst hi';have d1:¬ (inst.length:Int)<inst.length:=by omega
  have hItm:=eb1 a (by omega);simp only[go_sem,d1]
  first|refine aa4 fok11 (hItm) ?_|refine aa2 (hItm) ?_
  simp only[go_sem]
  have hnow:∀ n,a.inst n=true->n∈fo2 inst.length:=fun n hn=>by
   have:0<=n/\n<a.p.inst:=by
    unfold ac5.inst ac5.is at hn;simp only[Bool.and_eq_true,decide_eq_true_eq] at hn;exact ⟨hn.1.1,hn.2⟩
   have hp:a.p.inst=inst.length:=by rw[ha]; exact hin
   exact ha6.2 ⟨this.1,by omega⟩
  have hjr:a.r=r:=by rw[ha]
  have hnl:(fo2 inst.length).length<2^30:=by rw[ew2]; omega
  refine ab7 noT (fun i fr s=>fr=[(5,.ac2 r.cs),(7,a.mv),(12,gv),(14,ar2 a.items),(15,.int .i64 (i:Int))]/\Grow s gv 1 ((fo2 inst.length).map Md.ai5)) a.items.length ⟨rfl,hg.mono (by first|exact Nat.le_refl _|(show t.next<=_; omega)) fun _ _ _=>rfl⟩ ?_;rintro i fr s hi ⟨rfl,hg⟩;by_cases hlt:i<a.items.length
  ·have d1:(i:Int)<a.items.length:=by omega
   have d2:(0:Int)<=(i:Int):=by omega
   have w1:=ad7 (i:=i) (by omega);obtain ⟨x,hx,hget⟩:∃ x,x∈a.items/\(a.items.map Itm.cs).getD i []=x.cs:=⟨a.items[i],List.getElem_mem hlt,gi5 _ hlt⟩;have hN:=en3 a hA x;rw[a.holds_of hx] at hN;by_cases k6:x.kind=6
   ·obtain ⟨hk1,hk2⟩:=a.gb4 hnow hA.inst hx k6;rw[<- a.holds_of hx] at hk1;rw[hk2] at hN;have e67:¬ (6:Int)=7:=by decide
    simp only[go_sem,au9,ar2,d1,d2,hget,ag3,bd9,cw3,ae8,ae7,k6,e67,bj8,ax6];refine ah2 fok12 (fo3 (st:=fo2 inst.length) a hA ?g1 hnl x) ?_
    case g1=>exact Grow.mono (σ':=⟨s.next+38,s.obj⟩) hg (by show s.next<=s.next+38; omega) fun _ _ _=>rfl
    rintro v u ⟨rfl,rfl⟩;refine ⟨Nat.le_refl _,?_⟩;simp only[hk1,go_sem,au9,ar2,d1,d2,hget,ag3,bd9,cw3,ae8,ae7,k6,e67,bj8,ax6]
    first|refine aa4 fok12 (hN) ?_|refine aa2 (hN) ?_
    simp only[go_sem,w1];exact ⟨hlt,Grow.mono (σ':=⟨s.next+38,s.obj⟩) hg (by show s.next<=s.next+38; omega) fun _ _ _=>rfl⟩
   by_cases k7:x.kind=7
   ·obtain ⟨j,hj,hxp⟩:∃ j:Nat,j<a.r.ah6.length/\x.p=j:=by
     cases a.dp4.1 hx with
     | job j hj h=>exact ⟨j,hj,rfl⟩
     | _=>cases k7
    have e76:¬ (7:Int)=6:=by decide
    rw[hjr] at hj;have f1:¬ (j:Int)<0:=by omega
    have f2:¬ (r.ah6.length:Int)<=j:=by omega
    have f3:(j:Int)<r.ah6.length:=by omega
    have f4:(0:Int)<=(j:Int):=by omega
    have hjg:=ig1 r.ah6 hj;have hjb:a.jb x.p=r.ah6.getD j default:=by unfold ac5.jb; rw[hjr,hxp]; rfl
    generalize hjv:r.ah6.getD j default=jv at *;by_cases k2:jv.kind=2
    ·have hk:=a.dy5 hx k6 fun _=>by rw[hjb]; exact k2
     rw[hk] at hN;simp only[go_sem,au9,ar2,d1,d2,hget,ag3,bd9,cw3,ae8,ae7,bj8,ax6,k7,e76,hxp,f1,f2,f3,f4,gd4,ew1,bb7,hjg,hn9,ev9,k2]
     first|refine aa4 fok12 (hN) ?_|refine aa2 (hN) ?_
     simp only[go_sem,k7,e76,w1,au9,ar2,d1,d2,hget,ag3,bd9,cw3,ae8,ae7,bj8,ax6];exact ⟨hlt,Grow.mono hg (by show s.next<=s.next+_; omega) fun _ _ _=>rfl⟩
    ·simp only[go_sem,au9,ar2,d1,d2,hget,ag3,bd9,cw3,ae8,ae7,bj8,ax6,k7,e76,hxp,f1,f2,f3,f4,gd4,ew1,bb7,hjg,hn9,ev9,k2,w1];exact ⟨hlt,Grow.mono hg (by show s.next<=s.next+_; omega) fun _ _ _=>rfl⟩
   ·have hk:=a.dy5 hx k6 fun h=>absurd h k7
    rw[hk] at hN;simp only[go_sem,au9,ar2,d1,d2,hget,ag3,bd9,cw3,ae8,ae7,bj8,ax6,k6,k7]
    first|refine aa4 fok12 (hN) ?_|refine aa2 (hN) ?_
    simp only[go_sem,au9,ar2,d1,d2,hget,ag3,bd9,cw3,ae8,ae7,bj8,ax6,k6,k7,w1];exact ⟨hlt,Grow.mono hg (by show s.next<=s.next+_; omega) fun _ _ _=>rfl⟩
  ·have d1:¬ (i:Int)<a.items.length:=by omega
   simp only[go_sem,au9,d1];exact ab2 rfl
open Go Go.Id Go.Proofs Go.Id.Md
end Go.Id.Tryz
set_option linter.all false
namespace Go.Id.Tryz
open Go Go.Id Go.Proofs Go.Id.Md
set_option maxRecDepth 100000
variable {H:Type} {enc:TypeId×Value->H} {w:World} {base:Nat} {sp:Nat->Bool} {held:Bool}
abbrev Rd (enc:TypeId×Value->H)(w:World)(base:Nat)(sp:Nat->Bool)(held:Bool):=Rdg enc Tryz.prog w base sp held
theorem gf4 {n:Nat}{d:DataW H}(h:Rd enc w base sp held n 41 d)(hw:WT Tryz.prog 41 d):∃ e:EVR,e.fit/\∀ m,n<=m->dv Tryz.prog m 41 d=some e.cs:=by
 obtain ⟨n',ds,rfl,rfl,hl,hf⟩:=av5 Tryz.underlying41 h hw
 match ds,hl with
 | [d0,d1,d2],_=>
  obtain ⟨r0,w0⟩:=hf 0 _ d0 rfl rfl;obtain ⟨r1,w1⟩:=hf 1 _ d1 rfl rfl;obtain ⟨r2,w2⟩:=hf 2 _ d2 rfl rfl;obtain ⟨z,_,_,e0⟩:=bn5 Tryz.underlying3 r0;obtain ⟨s1,l1,e1⟩:=cu3 Tryz.underlying9 r1 w1;obtain ⟨s2,l2,e2⟩:=cu3 Tryz.underlying9 r2 w2;refine ⟨⟨z,s1,s2⟩,⟨l1,l2⟩,fun m hm=>?_⟩
  cases m with
  | zero=>omega
  | succ m=>
   have c3:Tryz.prog.cellsOf 3=1:=by kernel_rfl
   have c9:Tryz.prog.cellsOf 9=1:=by kernel_rfl
   have ct:Tryz.prog.cellsOf 41=3:=by kernel_rfl
   simp only[dv,Tryz.underlying41,List.map_cons,List.map_nil,dvF,e0 m (by omega),e1 m (by omega),e2 m (by omega),List.length_cons,List.length_nil,c3,c9,ct,List.cons_append,List.nil_append,List.append_nil,Nat.reduceAdd,↓reduceIte];rfl
theorem iv2 {z:Int}(h:(Lit.int .u8 z).wf=true):0<=z/\z<256:=by
 simp only[Lit.wf,Bool.and_eq_true,decide_eq_true_eq] at h;have e1:IntKind.u8.min=0:=rfl;have e2:IntKind.u8.max=255:=rfl;omega
theorem ie9:Tryz.prog.cellsOf 3=1:=by kernel_rfl
theorem if1:Tryz.prog.cellsOf 5=1:=by kernel_rfl
theorem gy3:Tryz.prog.cellsOf 9=1:=by kernel_rfl
theorem if2:Tryz.prog.cellsOf 41=3:=by kernel_rfl
theorem gf5:Tryz.prog.cellsOf 43=5:=by kernel_rfl
theorem gf6:Tryz.prog.cellsOf 80=7:=by kernel_rfl
theorem iv3:Tryz.prog.cellsOf 75=15:=by kernel_rfl
theorem hn6:Tryz.prog.cellsOf 77=2:=by kernel_rfl
theorem iv4:Tryz.prog.cellsOf 71=1:=by kernel_rfl
theorem eu9:Tryz.prog.cellsOf 72=1:=by kernel_rfl
theorem iv5:Tryz.prog.cellsOf 73=1:=by kernel_rfl
theorem iv6:Tryz.prog.cellsOf 23=1:=by kernel_rfl
theorem hn7 {n:Nat}{d:DataW H}(h:Rd enc w base sp held n 43 d)(hw:WT Tryz.prog 43 d):∃ e:Dep,e.fit/\∀ m,n<=m->dv Tryz.prog m 43 d=some e.cs:=by
 obtain ⟨n',ds,rfl,rfl,hl,hf⟩:=av5 Tryz.underlying43 h hw
 match ds,hl with
 | [d0,d1,d2],_=>
  obtain ⟨r0,w0⟩:=hf 0 _ d0 rfl rfl;obtain ⟨r1,w1⟩:=hf 1 _ d1 rfl rfl;obtain ⟨r2,w2⟩:=hf 2 _ d2 rfl rfl;obtain ⟨s0,l0,e0⟩:=cu3 Tryz.underlying9 r0 w0;obtain ⟨z,_,_,e1⟩:=bn5 Tryz.underlying5 r1;obtain ⟨e,l2,e2⟩:=gf4 r2 w2;refine ⟨⟨s0,z,e⟩,⟨l0,l2⟩,fun m hm=>?_⟩
  cases m with
  | zero=>omega
  | succ m=>
   simp only[dv,Tryz.underlying43,List.map_cons,List.map_nil,dvF,e0 m (by omega),e1 m (by omega),e2 m (by omega),EVR.cs,List.length_cons,List.length_nil,gy3,if1,if2,gf5,List.cons_append,List.nil_append,List.append_nil,Nat.reduceAdd,↓reduceIte];rfl
theorem if3:∀ (n:Nat) (d:DataW H),Rd enc w base sp held n 80 d->WT Tryz.prog 80 d->∃ r:aa8,r.ok/\∀ m,n<=m->dv Tryz.prog m 80 d=some r.cs:=by
 intro n
 induction n using Nat.strongRecOn with
 | ind n ih=>
  intro d h hw;obtain ⟨n',ds,rfl,rfl,hl,hf⟩:=av5 Tryz.underlying80 h hw
  match ds,hl with
  | [d0,d1,d2],_=>
   obtain ⟨r0,w0⟩:=hf 0 _ d0 rfl rfl;obtain ⟨r1,w1⟩:=hf 1 _ d1 rfl rfl;obtain ⟨r2,w2⟩:=hf 2 _ d2 rfl rfl;obtain ⟨z,_,hz,e0⟩:=bn5 Tryz.underlying5 r0;obtain ⟨e,l1,e1⟩:=hn7 r1 w1;obtain ⟨l,k1,k2,e2⟩:=bd3 aa8.cs aa8.ok Tryz.underlying72 gf6 (by decide) (by decide +kernel) (fun r=>by rw[aa8.an4]; rfl) (fun m d' hm hr hw'=>ih m (by omega) d' hr hw') r2 w2;have hz':=iv2 hz;refine ⟨.mk z e l,aa8.fl9.2 ⟨hz'.1,hz'.2,l1,k1,k2⟩,fun m hm=>?_⟩
   cases m with
   | zero=>omega
   | succ m=>
    simp only[dv,Tryz.underlying80,List.map_cons,List.map_nil,dvF,e0 m (by omega),e1 m (by omega),e2 m (by omega),Dep.cs,List.length_cons,List.length_nil,eu9,if1,gf5,gf6,List.cons_append,List.nil_append,List.append_nil,Nat.reduceAdd,↓reduceIte];rw[aa8.an4];rfl
theorem gf7 {n:Nat}{d:DataW H}(h:Rd enc w base sp held n 71 d)(hw:WT Tryz.prog 71 d):∃ l:List Dep,l.length<2^62/\(∀ a∈l,a.fit)/\∀ m,n<=m->dv Tryz.prog m 71 d=some [deps l]:=
 bd3 Dep.cs Dep.fit Tryz.underlying71 gf5 (by decide) (by decide +kernel) (fun _=>rfl) (fun _ _ _ hr hw'=>hn7 hr hw') h hw
theorem bh6 {n:Nat}{d:DataW H}(h:Rd enc w base sp held n 72 d)(hw:WT Tryz.prog 72 d):∃ l:List aa8,l.length<2^62/\(∀ a∈l,a.ok)/\∀ m,n<=m->dv Tryz.prog m 72 d=some [ai6 l]:=
 bd3 aa8.cs aa8.ok Tryz.underlying72 gf6 (by decide) (by decide +kernel) (fun r=>by rw[aa8.an4]; rfl) (fun m d' _ hr hw'=>if3 m d' hr hw') h hw
theorem if4 {n:Nat}{d:DataW H}(h:Rd enc w base sp held n 73 d)(hw:WT Tryz.prog 73 d):∃ l:List Str,l.length<2^62/\(∀ a∈l,a.length<2^62)/\∀ m,n<=m->dv Tryz.prog m 73 d=some [strs l]:=
 bd3 bi1 (fun s:Str=>s.length<2^62) Tryz.underlying73 gy3 (by decide) (by decide +kernel) (fun _=>rfl) (fun _ _ _ hr hw'=>cu3 Tryz.underlying9 hr hw') h hw
theorem iv7 {n:Nat}{d:DataW H}(h:Rd enc w base sp held n 75 d)(hw:WT Tryz.prog 75 d):∃ p:aa3,p.Ok/\∀ m,n<=m->dv Tryz.prog m 75 d=some p.cs:=by
 obtain ⟨n',ds,rfl,rfl,hl,hf⟩:=av5 Tryz.underlying75 h hw
 match ds,hl with
 | [d0,d1,d2,d3,d4,d5,d6,d7,d8,d9,d10,d11,d12],_=>
  obtain ⟨r0,w0⟩:=hf 0 _ d0 rfl rfl;obtain ⟨r1,w1⟩:=hf 1 _ d1 rfl rfl;obtain ⟨r2,w2⟩:=hf 2 _ d2 rfl rfl;obtain ⟨r3,w3⟩:=hf 3 _ d3 rfl rfl;obtain ⟨r4,w4⟩:=hf 4 _ d4 rfl rfl;obtain ⟨r5,w5⟩:=hf 5 _ d5 rfl rfl;obtain ⟨r6,w6⟩:=hf 6 _ d6 rfl rfl;obtain ⟨r7,w7⟩:=hf 7 _ d7 rfl rfl;obtain ⟨r8,w8⟩:=hf 8 _ d8 rfl rfl;obtain ⟨r9,w9⟩:=hf 9 _ d9 rfl rfl;obtain ⟨r10,w10⟩:=hf 10 _ d10 rfl rfl;obtain ⟨r11,w11⟩:=hf 11 _ d11 rfl rfl;obtain ⟨r12,w12⟩:=hf 12 _ d12 rfl rfl;obtain ⟨x0,l0,e0⟩:=cu3 Tryz.underlying9 r0 w0;obtain ⟨x1,l1,e1⟩:=gf4 r1 w1;obtain ⟨x2,_,_,e2⟩:=bn5 Tryz.underlying5 r2;obtain ⟨x3,l3,e3⟩:=cu3 Tryz.underlying9 r3 w3;obtain ⟨x4,l4,k4,e4⟩:=gf7 r4 w4;obtain ⟨x5,l5,k5,e5⟩:=bh6 r5 w5;obtain ⟨x6,l6,k6,e6⟩:=bh6 r6 w6;obtain ⟨x7,l7,k7,e7⟩:=gf7 r7 w7;obtain ⟨x8,l8,k8,e8⟩:=bh6 r8 w8;obtain ⟨x9,l9,k9,e9⟩:=bh6 r9 w9;obtain ⟨x10,l10,k10,e10⟩:=bh6 r10 w10;obtain ⟨x11,l11,k11,e11⟩:=bh6 r11 w11;obtain ⟨x12,l12,k12,e12⟩:=if4 r12 w12;refine ⟨⟨x0,x1,x2,x3,x4,x5,x6,x7,x8,x9,x10,x11,x12⟩,⟨l0,l3,l1,⟨l4,k4⟩,⟨l7,k7⟩,⟨l12,k12⟩,?_⟩,fun m hm=>?_⟩
  ·intro x hx;simp only[aa3.rows,List.mem_cons,List.not_mem_nil,or_false] at hx;rcases hx with rfl|rfl|rfl|rfl|rfl|rfl
   ·exact ⟨l5,k5⟩
   ·exact ⟨l6,k6⟩
   ·exact ⟨l8,k8⟩
   ·exact ⟨l9,k9⟩
   ·exact ⟨l10,k10⟩
   ·exact ⟨l11,k11⟩
  cases m with
  | zero=>omega
  | succ m=>
   simp only[dv,Tryz.underlying75,List.map_cons,List.map_nil,dvF,e0 m (by omega),e1 m (by omega),e2 m (by omega),e3 m (by omega),e4 m (by omega),e5 m (by omega),e6 m (by omega),e7 m (by omega),e8 m (by omega),e9 m (by omega),e10 m (by omega),e11 m (by omega),e12 m (by omega),EVR.cs,List.length_cons,List.length_nil,gy3,if1,if2,iv4,eu9,iv5,iv3,List.cons_append,List.nil_append,List.append_nil,Nat.reduceAdd,↓reduceIte];rfl
theorem gf8 {n:Nat}{d:DataW H}(h:Rd enc w base sp held n 23 d)(hw:WT Tryz.prog 23 d):∃ l:List aa3,l.length<2^62/\(∀ a∈l,a.Ok)/\∀ m,n<=m->dv Tryz.prog m 23 d=some [.aa5 (l.map aa3.cs)]:=
 bd3 aa3.cs aa3.Ok Tryz.underlying23 iv3 (by decide) (by decide +kernel) (fun _=>rfl) (fun _ _ _ hr hw'=>iv7 hr hw') h hw
theorem if5 {n:Nat}{d:DataW H}(h:Rd enc w base sp held n 77 d)(hw:WT Tryz.prog 77 d):∃ r:al7,al7.Ok r/\∀ m,n<=m->dv Tryz.prog m 77 d=some r.cs:=by
 obtain ⟨n',ds,rfl,rfl,hl,hf⟩:=av5 Tryz.underlying77 h hw
 match ds,hl with
 | [d0,d1],_=>
  obtain ⟨r0,w0⟩:=hf 0 _ d0 rfl rfl;obtain ⟨r1,w1⟩:=hf 1 _ d1 rfl rfl;obtain ⟨z,_,_,e0⟩:=bn5 Tryz.underlying3 r0;obtain ⟨l,k1,k2,e1⟩:=gf8 r1 w1;refine ⟨⟨z,l⟩,⟨k1,k2⟩,fun m hm=>?_⟩
  cases m with
  | zero=>omega
  | succ m=>
   simp only[dv,Tryz.underlying77,List.map_cons,List.map_nil,dvF,e0 m (by omega),e1 m (by omega),List.length_cons,List.length_nil,ie9,iv6,hn6,List.cons_append,List.nil_append,List.append_nil,Nat.reduceAdd,↓reduceIte];rfl
theorem gy4 {n:Nat}{d:DataW H}(h:Rd enc w base sp held n 22 d)(hw:WT Tryz.prog 22 d):∃ l:List al7,l.length<2^62/\(∀ a∈l,al7.Ok a)/\∀ m,n<=m->dv Tryz.prog m 22 d=some [.aa5 (l.map al7.cs)]:=
 bd3 al7.cs al7.Ok Tryz.underlying22 hn6 (by decide) (by decide +kernel) (fun _=>rfl) (fun _ _ _ hr hw'=>if5 hr hw') h hw
end Go.Id.Tryz
set_option linter.all false
namespace Go.Id
open Go Go.Id
mutual
def isz:IV->Nat
 | .str s=>s.length+1
 | .aa5 es=>cn8 es+1
 | _=>1
def bf3:List IV->Nat
 | []=>0
 | c::cs=>isz c+bf3 cs
def cn8:List (List IV)->Nat
 | []=>0
 | e::es=>bf3 e+cn8 es
end
theorem eo4 (a b:List IV):bf3 (a++b)=bf3 a+bf3 b:=by
 induction a with
 | nil=>simp[bf3]
 | cons x a ih=>simp only[List.cons_append,bf3,ih]; omega
theorem bt5 {α:Type}(f:α->List IV):∀ (l:List α),∀ a∈l,bf3 (f a)<=cn8 (l.map f):=by
 intro l
 induction l with
 | nil=>intro a h; cases h
 | cons x l ih=>
  intro a h;simp only[List.map_cons,cn8];rcases List.mem_cons.1 h with rfl|h
  ·omega
  ·have:=ih a h; omega
theorem aw3 {α:Type}(f:α->List IV)(hf:∀ a,1<=bf3 (f a)):∀ (l:List α),l.length<=cn8 (l.map f):=by
 intro l
 induction l with
 | nil=>simp
 | cons x l ih=>
  simp only[List.map_cons,cn8,List.length_cons];have:=hf x;omega
namespace Md
theorem Dep.szs (d:Dep):bf3 d.cs=d.name.length+d.evr.ver.length+d.evr.rel.length+5:=by
 simp only[Dep.cs,bf3,isz]; omega
theorem aa8.szs (r:aa8):bf3 r.cs=r.dep.name.length+r.dep.evr.ver.length+r.dep.evr.rel.length+cn8 (r.args.map aa8.cs)+7:=by
 rw[aa8.an4]; simp only[bf3,isz]; omega
theorem aa3.szs (p:aa3):bf3 p.cs=p.name.length+p.evr.ver.length+p.evr.rel.length+p.vendor.length+cn8 (p.provides.map Dep.cs)+cn8 (p.requires.map aa8.cs)+cn8 (p.conflicts.map aa8.cs)+cn8 (p.aa9.map Dep.cs)+cn8 (p.ac3.map aa8.cs)+cn8 (p.ac1.map aa8.cs)+cn8 (p.suggests.map aa8.cs)+cn8 (p.ad6.map aa8.cs)+cn8 (p.files.map bi1)+15:=by
 simp only[aa3.cs,bf3,isz]; omega
theorem al7.szs (r:al7):bf3 r.cs=cn8 (r.packages.map aa3.cs)+2:=by
 simp only[al7.cs,bf3,isz]; omega
theorem fp9 (r:aa8):r.count<=bf3 r.cs:=by
 induction r using aa8.ind with
 | h k d xs ih=>
  rw[aa8.szs]
  have:∀ ys:List aa8,(∀ y∈ys,y∈xs)->aa8.counts ys<=cn8 (ys.map aa8.cs):=by
   intro ys
   induction ys with
   | nil=>intro _; simp[aa8.counts]
   | cons y ys ih2=>
    intro h;have h1:=ih y (h y (List.mem_cons_self ..));have h2:=ih2 fun z hz=>h z (List.mem_cons_of_mem _ hz)
    simp only[aa8.counts,List.map_cons,cn8];omega
  have:=this xs fun y h=>h
  simp only[aa8.count,aa8.args];omega
theorem hf4 (r:aa8):r.ok->bf3 r.cs<2^31->r.fit:=by
 induction r using aa8.ind with
 | h k d xs ih=>
  intro ho hs;obtain ⟨a,b,c,e,f⟩:=aa8.fl9.1 ho;rw[aa8.szs] at hs;simp only[aa8.args] at hs;have hl:=aw3 aa8.cs (fun r=>by rw[aa8.szs]; omega) xs;refine aa8.bk5.2 ⟨a,b,c,by omega,fun r hr=>ih r hr (f r hr) ?_⟩;have:=bt5 aa8.cs xs r hr;omega
theorem gl2 {p:aa3}(h:p.Ok)(hs:bf3 p.cs<2^31):p.Fit:=by
 rw[aa3.szs] at hs;have l1:=aw3 Dep.cs (fun r=>by rw[Dep.szs]; omega) p.provides;have l2:=aw3 Dep.cs (fun r=>by rw[Dep.szs]; omega) p.aa9;have l3:=aw3 bi1 (fun r=>by simp only[bi1,bf3,isz]; omega) p.files
 have hr:∀ x∈p.rows,cn8 (x.2.map aa8.cs)<2^31:=by
  intro x hx;simp only[aa3.rows,List.mem_cons,List.not_mem_nil,or_false] at hx;rcases hx with rfl|rfl|rfl|rfl|rfl|rfl<;>simp only[]<;>omega
 exact {
  name:=h.name
  evr:=h.evr
  av7:=⟨by omega,h.av7.2⟩
  obs:=⟨by omega,h.obs.2⟩
  files:=⟨by omega,h.files.2⟩
  rich:=fun x hx=>by
   have h1:=hr x hx;have h2:=aw3 aa8.cs (fun r=>by rw[aa8.szs]; omega) x.2;refine ⟨by omega,fun r hr'=>?_⟩;have h3:=bt5 aa8.cs x.2 r hr';have h4:=fp9 r;exact ⟨hf4 r ((h.rich x hx).2 r hr') (by omega),by omega⟩ }
theorem gl3 (repos:List al7):ak8 repos<=cn8 (repos.map al7.cs):=by
 induction repos with
 | nil=>simp[ak8]
 | cons r rs ih=>
  have h2:=aw3 aa3.cs (fun r=>by rw[aa3.szs]; omega) r.packages;have h3:=al7.szs r;simp only[ak8,List.map_cons,List.sum_cons,cn8] at ih ⊢;omega
end Md
end Go.Id
