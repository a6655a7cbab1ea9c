/- What a state must hold to: the model made,walked. Conditions: sizes that fit. -/
import Derived.Test.YtebfbbjghhagbaaGreatDoorTMMH
import Derived.Test.YtebfbbjghhagbaaGreatDoorTMMK
import Derived.Test.YtebfbbjghhagbaaGreatDoorTMSD
import Derived.Test.YtebfbbjghhagbaaGreatDoorTMSJ
import Derived.Test.YtebfbbjghhagbaaGreatDoorMw
import Derived.Test.YtebfbbjghhagbaaGreatDoorTMPD
import Derived.Test.YtebfbbjghhagbaaGreatDoorFwZb
set_option linter.all false
namespace Go.Id.Tryz
open Go Go.Id Go.Proofs Go.Shelf Go.Id.Md
set_option maxRecDepth 100000
set_option maxHeartbeats 1000000
theorem MO.frz {s:Store}{pp mid:Nat}{a:ac5}{allv itv:IV}(h:MO s pp mid a.v (al8 a.l) allv itv a.l a.items):cb5 s 0 (.ptr pp 0) a.mv:=by
 refine .ptr pp 0 _ _ (Nat.not_lt_zero _) (.inl h.cell) (Nat.le_refl _) fun j hj=>?_
 match j,hj with
 | 0,_=>exact .keep _ (ah4 a)
 | 1,_=>exact .keep _ (at1 _)
 | 2,_=>
  exact h.all.frz (fun x hx=>(bc4 _ x hx).1) (fun _ _=>Nat.not_lt_zero _) fun e he c hc=>by
   obtain ⟨y,_,rfl⟩:=List.mem_map.1 he
   exact az6 y c hc
 | 3,_=>
  exact h.grow.frz (fun x hx=>(et5 _ x hx).1) (fun _ _=>Nat.not_lt_zero _) fun e he c hc=>by
   obtain ⟨y,_,rfl⟩:=List.mem_map.1 he
   exact dq9 y c hc
 | 4,_=>
  refine .map mid (ba4 a.items) (ba4 a.items) (ba4 a.items) (Nat.not_lt_zero _) h.map rfl (List.Perm.refl _) (ga1 a.nodup) (fun i hi=>?_) fun i hi=>?_
  ·have:(ba4 a.items).getD i (.undef,.undef)∈ba4 a.items:=ad4 _ hi;obtain ⟨x,_,hx⟩:=List.mem_map.1 this;rw[<- hx]; exact .keep _ (bh2 x)
  ·have:(ba4 a.items).getD i (.undef,.undef)∈ba4 a.items:=ad4 _ hi;obtain ⟨x,_,hx⟩:=List.mem_map.1 this;rw[<- hx]; exact .keep _ (.agg _ fun c hc=>by cases hc)
theorem ek7 (a:ac5)(hA:AOK a)(hI:0<=a.p.inst)(hIt:a.items.length<2^30):PC Tryz.prog EE 42 [a.v] (.tuple [a.mv,.int .i64 0]):=by
 refine hx8 hE fok42 (nZ rfl) (aj1 (ah4 a)) ?_;have hP:=dm1 a;have hT:=eo1 a.p hA.len fun x hx=>⟨hA.fit x hx,hA.tiny x hx⟩
 have hC:=be3 a.p;have hrl:a.p.rows.length=a.l.length:=by show _=(ae6 a.p).length; simp[ae6]
 rw[hrl] at hC;have hlen:=hA.len
 have hpk:∀ j (h:j<a.l.length),PC Tryz.prog EE 91 [a.p.v,.int .i64 j] (.tuple [.agg (a.pk j).cs,.int .i64 0]):=fun j h=>by
  have hj:j<a.p.rows.length:=by omega
  have hq:a.p.rows[j].pkg=a.pk j:=by
   have:a.pk j=a.l[j]:=by simp[ac5.pk,List.getD_eq_getElem?_getD,h]
   rw[this]; simp[ac5.l,ae6]
  have h1:=bf1 a.p j hj (by rw[hq]; exact hA.fit _ (et3 a h));rw[hq] at h1; exact h1
 have vcs:a.v.cs=[a.v]:=rfl;have vlf:a.v.leaf=true:=rfl;have pvl:a.p.v.leaf=true:=rfl;have pvc:a.p.v.cs=[a.p.v]:=rfl;have tvl:(al8 a.l).leaf=true:=rfl;have tvc:(al8 a.l).cs=[al8 a.l]:=rfl;have hnl:∀ d:TypeId,bw8 (.pointer d) a.v=some false:=fun _=>rfl
 have hT:PC Tryz.prog EE 94 [a.p.v] (.tuple [al8 a.l,.int .i64 0]):=hT;simp only[ic42];refine ae8 (ai3 ?_);simp only[go_sem];refine ae8 (ai3 ?_);simp only[go_sem,hnl];refine ae8 (ai3 ?_);simp only[go_sem,vcs,vlf]
 first|refine aa4 fok26 (hP) ?_|refine aa2 (hP) ?_
 simp only[go_sem,pvl,pvc]
 first|refine aa4 fok94 (hT) ?_|refine aa2 (hT) ?_
 simp only[go_sem];refine ae8 (ai3 ?_);simp only[go_sem];refine ae8 (ai3 ?_);simp only[go_sem,vcs,vlf,tvl,tvc];refine ae8 (ae8 (ai3 ?_));simp only[go_sem,vcs,vlf]
 first|refine aa4 fok26 (hP) ?_|refine aa2 (hP) ?_
 simp only[go_sem,pvl,pvc]
 first|refine aa4 fok27 (hC) ?_|refine aa2 (hC) ?_
 simp only[go_sem]
 refine av8 (az5 (Q:=fun e f s=>e=.exit 0/\(∃ allv,MO s 1 0 a.v (al8 a.l) allv .aa1 a.l [])/\∃ rst:Frm,f=(0,a.v)::(6,.ptr 1 0)::rst)
  (ab7 noT (fun n fr s=>∃ gv,fr=[(0,a.v),(6,.ptr 1 0),(28,.int .i64 a.l.length),(29,.int .i64 (n:Int))]/\2<=s.next/\s.obj 0=some (.map [])/\s.obj 1=some (.cells [a.v,al8 a.l,gv,.aa1,.map 0])/\Grow s gv 15 ((a.l.take n).map aa3.cs)) a.l.length
   ⟨.aa1,rfl,Nat.le_refl _,rfl,rfl,.inl ⟨rfl,rfl⟩⟩ ?_) ?_)
 ·rintro n fr s hn ⟨gv,rfl,hnx,hm,ho,hg⟩;by_cases hlt:n<a.l.length
  ·have d1:(n:Int)<a.l.length:=by omega
   have w1:=ae1 (i:=n) (by omega);have hp:=hpk n hlt;have n1:¬ 1=s.next:=by omega
   have n0:¬ 0=s.next:=by omega
   have htk:a.l.take (n+1)=a.l.take n++[a.pk n]:=by
    have:a.pk n=a.l[n]:=by simp[ac5.pk,List.getD_eq_getElem?_getD,hlt]
    rw[this,List.take_add_one,List.getElem?_eq_getElem hlt]; rfl
   have hgl:gv.leaf=true:=by rcases hg with ⟨rfl,_⟩|⟨id,rfl,_⟩<;>rfl
   have hgc:gv.cs=[gv]:=by rcases hg with ⟨rfl,_⟩|⟨id,rfl,_⟩<;>rfl
   obtain ⟨S,hS⟩:∃ S:Store,S=(({ next:=s.next+1,obj:=s.obj }:Store).put s.next (ak5.cells [.str [],.int .i64 0,.str [],.str [],.int .u8 0,.str [],.aa1,.aa1,.aa1,.aa1,.aa1,.aa1,.aa1,.aa1,.aa1])).put s.next (ak5.cells (a.pk n).cs):=⟨_,rfl⟩;have So:∀ i,¬ i=s.next->S.obj i=s.obj i:=fun i hi=>by rw[hS]; simp only[aa7,hi,if_false]
   have hg1:Grow (⟨s.next+1+11,S.obj⟩:Store) gv 15 ((a.l.take n).map aa3.cs):=hg.mono (by show s.next<=s.next+1+11; omega) fun id _ hid=>So id (by omega)
   have hap:=al7 (nid:=s.next+1+7) (e:=(a.pk n).cs) hg1 (bc4 _) ⟨rfl,rfl⟩ (by rw[List.length_map,List.length_take]; omega);rw[List.length_map] at hap;have k1:=af7 hg1 1 _ (by rw[<- ho]; exact So 1 n1) (fun _ e=>by cases e);have k0:=af7 hg1 0 _ (by rw[<- hm]; exact So 0 n0) (fun _ e=>by cases e);have kn:(ai7 gv (⟨s.next+1+11,S.obj⟩:Store)).next=s.next+1+11:=ae2 gv;have m1:¬ 1=s.next+1+7:=by omega
   have m0:¬ 0=s.next+1+7:=by omega
   have hcl:∀ i cs,¬ i=s.next->s.obj i=some (.cells cs)->S.obj i=some (.cells cs):=fun i cs h1 h2=>by rw[So i h1]; exact h2
   simp only[go_sem,d1,vcs,vlf]
   first|refine aa4 fok26 (hP) ?_|refine aa2 (hP) ?_
   simp only[go_sem,pvl,pvc]
   first|refine aa4 fok91 (hp) ?_|refine aa2 (hp) ?_
   simp only[go_sem,ag8,ah1,ad2,n1,n0,ho,b_o,b_p,b_t];rw[<- hS];generalize ai7 gv (⟨s.next+1+11,S.obj⟩:Store)=K at *;simp only[show s.next+1+1+1+1+1+1+1+1=s.next+1+7 from rfl,hap,go_sem,m1,m0,k1,k0,w1];refine ⟨hlt,_,by rw[kn]; omega,rfl,?_⟩;rw[htk,List.map_append];refine .inr ⟨s.next+1+7,by rw[List.length_append,List.length_map]; rfl,?_,by rw[kn]; omega⟩;simp only[aa7];rw[if_neg (fun e=>m1 e.symm),if_pos trivial]; rfl
  ·have d1:¬ (n:Int)<a.l.length:=by omega
   rw[List.take_of_length_le (by omega)] at hg;simp only[go_sem,d1];exact ⟨⟨gv,{ cell:=ho,grow:=.inl ⟨rfl,rfl⟩,map:=hm,all:=hg,ne:=fun _ _ _ _ h=>(by cases h),lt:=⟨by omega,by omega⟩ }⟩,_,rfl⟩
 rintro e f t ⟨rfl,⟨allv,hM⟩,rst,rfl⟩;simp only[go_sem];refine ae8 (ai3 ?_);simp only[go_sem];refine ag2 fok95 (it4 a hA hI t 1 0 _ _ _ hM hIt) ?_;rintro v s ⟨s1,itv,hM2⟩;refine ⟨s1,?_⟩;simp only[go_sem];refine ai3 ?_;simp only[go_sem];exact .cm6 (.cons hM2.frz (.cons (bw3 rfl) .nil))
set_option maxHeartbeats 1000000
def et8 (repos:List am1)(inst:List aa3):List aa3:=inst++repos.flatMap fun r=>r.packages
theorem gw5 (repos:List am1)(inst:List aa3)(hN:inst.length+ak9 repos<=256)(hr:repos.length<=16):PC Tryz.prog EE 41 [as8 repos,az7 inst] (az7 (et8 repos inst)):=by
 refine af3 hE fok41 (nZ rfl) (ak2 (bo6 repos) (aw4 inst)) ?_;have g0:Grow (({ next:=2,obj:=emp.obj }:Store).put 0 (ak5.row [])) (.slice 0 0 0 15) 15 []:=.inr ⟨0,rfl,by rw[aa7,if_pos rfl]; rfl,by show 0<2; omega⟩;obtain ⟨v1,t1,a1,n1,q1,_,_⟩:=bm4 (nid:=1) (xs:=inst.map aa3.cs) g0 (fun x h=>by cases h) (bc4 _) (by rw[List.length_map,List.length_nil]; omega) (by show 1<2; omega);rw[List.nil_append] at q1;simp only[ic41,go_sem,a1];refine ab7 noT (fun i fr t=>∃ gv,fr=[(0,as8 repos),(5,gv),(6,.int .i64 (i:Int))]/\Grow t gv 15 ((et8 (repos.take i) inst).map aa3.cs)/\(et8 (repos.take i) inst).length+ak9 (repos.drop i)=inst.length+ak9 repos) repos.length ⟨v1,rfl,by simpa [et8] using q1,by simp[et8]⟩ ?_;rintro i fr t hle ⟨gv,rfl,hg,hsum⟩;by_cases hlt:i<repos.length
 ·obtain ⟨a,ha,_,hdr,hget,htk⟩:=ae5 repos i hlt;have c1:(i:Int)<repos.length:=by omega
  have c2:(0:Int)<=i:=by omega
  have w1:=ae1 (i:=i) (by omega);rw[ca3 repos i a hdr] at hsum
  have hap:et8 (repos.take (i+1)) inst=et8 (repos.take i) inst++a.packages:=by
   unfold et8
   have:repos.take (i+1)=repos.take i++[a]:=by
    rw[List.take_add_one];have:=congrArg List.head? hdr;rw[List.head?_drop] at this;rw[this]; rfl
   rw[this,List.flatMap_append]; simp
  obtain ⟨v2,t2,a2,n2,q2,_,_⟩:=bm4 (nid:=t.next) (xs:=a.packages.map aa3.cs) (hg.mono (σ':=⟨t.next+1,t.obj⟩) (Nat.le_succ _) fun _ _ _=>rfl) (bc4 _) (bc4 _) (by rw[List.length_map,List.length_map]; omega) (Nat.lt_succ_self _);simp only[go_sem,c1,c2,hget,ao8,aq6,aq5,am1.cs,a2,w1];refine ⟨hlt,v2,rfl,?_,?_⟩
  ·rw[hap,List.map_append]; exact q2
  ·rw[hap,List.length_append]; omega
 ·have hi':i=repos.length:=by omega
  subst hi';have c1:¬ (repos.length:Int)<repos.length:=by omega
  rw[List.take_length] at hg;simp only[go_sem,c1];refine hg.frz (fun x hx=>(bc4 _ x hx).1) (fun _ _=>Nat.not_lt_zero _) fun e he c hc=>?_
  obtain ⟨y,_,rfl⟩:=List.mem_map.1 he;exact az6 y c hc
def dj9 (all:List aa3)(inst:Int)(r:Req):IV:=if al2 r inst=0 then .tuple [.ac2 (az7 all::.int .i64 inst::r.cs),.int .i64 0] else .tuple [.ab6,.int .i64 (al2 r inst)]
theorem gw6 (all:List aa3)(inst:Int)(r:Req)(hR:du2 r):PC Tryz.prog EE 40 [az7 all,.int .i64 inst,.agg r.cs] (dj9 all inst r):=by
 refine af3 hE fok40 (nZ rfl) (bb6 (aw4 all) (.int _ _) (.agg _ (bc7 r))) ?_;have hm:=gv2 r.au3;have k0:r.cs.head? = some (.int .u8 r.au3):=rfl;have k2:(r.cs.drop 2).head? = some (bi9 r.ai4):=rfl;have k3:(r.cs.drop 3).head? = some (av3 r.ai5):=rfl;have k4:(r.cs.drop 4).head? = some (.int .i64 r.budget):=rfl;obtain ⟨V,hV⟩:∃ V,dj9 all inst r=V:=⟨_,rfl⟩
 have herr:∀ (s:Store) (e:Int),al2 r inst=e->e≠0->cb5 s 0 (.tuple [.ab6,.int .i64 e]) V:=fun s e h1 h2=>by
  rw[<- hV];unfold dj9;rw[h1,if_neg h2];exact .keep _ (.tuple _ (ak2 .ab6 (.int _ _)))
 rw[hV];by_cases c1:bv6 r.au3=false
 ·rw[c1] at hm;simp only[ic40,go_sem,ah2,k0]
  first|refine aa4 fok92 (hm) ?_|refine aa2 (hm) ?_
  simp only[go_sem];exact herr _ 1 (by unfold al2; rw[if_pos (.inl c1)]) (by decide)
 have c1':bv6 r.au3=true:=by simpa using c1
 rw[c1'] at hm;by_cases c2:r.budget<0
 ·simp only[ic40,go_sem,ah2,k0]
  first|refine aa4 fok92 (hm) ?_|refine aa2 (hm) ?_
  simp only[go_sem,k4,c2];exact herr _ 1 (by unfold al2; rw[if_pos (.inr (.inl c2))]) (by decide)
 by_cases c3:1099511627776<r.budget
 ·simp only[ic40,go_sem,ah2,k0]
  first|refine aa4 fok92 (hm) ?_|refine aa2 (hm) ?_
  simp only[go_sem,k4,c2,c3];exact herr _ 1 (by unfold al2; rw[if_pos (.inr (.inr c3))]) (by decide)
 have q1:¬ (bv6 r.au3=false\/r.budget<0\/1099511627776<r.budget):=fun h=>h.elim c1 fun h=>h.elim c2 c3
 by_cases c4:64<r.ai4.length
 ·have c4':(64:Int)<r.ai4.length:=by omega
  simp only[ic40,go_sem,ah2,k0]
  first|refine aa4 fok92 (hm) ?_|refine aa2 (hm) ?_
  simp only[go_sem,k4,c2,c3,k2,c4'];exact herr _ 40 (by unfold al2; rw[if_neg q1,if_pos (.inl c4)]) (by decide)
 have c4':¬ (64:Int)<r.ai4.length:=by omega
 by_cases c5:64<r.ai5.length
 ·have c5':(64:Int)<r.ai5.length:=by omega
  simp only[ic40,go_sem,ah2,k0]
  first|refine aa4 fok92 (hm) ?_|refine aa2 (hm) ?_
  simp only[go_sem,k4,c2,c3,k2,k3,c4',c5'];exact herr _ 40 (by unfold al2; rw[if_neg q1,if_pos (.inr c5)]) (by decide)
 have c5':¬ (64:Int)<r.ai5.length:=by omega
 have q2:¬ (64<r.ai4.length\/64<r.ai5.length):=fun h=>h.elim c4 c5
 simp only[ic40,go_sem,ah2,k0]
 first|refine aa4 fok92 (hm) ?_|refine aa2 (hm) ?_
 simp only[go_sem,k4,c2,c3,k2,k3,c4',c5'];refine ab7 noT (fun i fr t=>fr=[(0,az7 all),(1,.int .i64 inst),(5,.ac2 r.cs),(8,.int .i64 (i:Int))]/\(r.ai4.drop i).all ay9=r.ai4.all ay9) r.ai4.length ⟨rfl,rfl⟩ ?_;rintro i fr t hi ⟨rfl,ha⟩;by_cases hlt:i<r.ai4.length
 ·obtain ⟨x,hx,_,hdr,hget,_⟩:=ae5 r.ai4 i hlt;have d1:(i:Int)<r.ai4.length:=by omega
  have d2:(0:Int)<=i:=by omega
  have w1:=ae1 (i:=i) (by omega);obtain ⟨hs1,hs2⟩:=hR.ij7 x hx;have hmay:=ej7 x.dep (by omega) (by have:=hs1.2.2.1; omega) (by have:=hs1.2.2.2; omega);have x0:x.cs.head? = some (.int .u8 x.kind):=rfl;have x1:=cr3 x;have x2:(x.cs.drop 1).length=5:=rfl;rw[hdr,List.all_cons] at ha
  have hbad:ay9 x=false->al2 r inst=4:=fun h=>by
   rw[h,Bool.false_and] at ha;unfold al2; rw[if_neg q1,if_neg q2,if_pos ha.symm]
  by_cases e1:x.kind<1
  ·have e1':¬ 1<=x.kind:=by omega
   simp only[go_sem,d1,d2,k2,hget,ay1,x0,e1];exact herr _ 4 (hbad (by unfold ay9; simp[e1'])) (by decide)
  by_cases e2:4<x.kind
  ·have e2':¬ x.kind<=4:=by omega
   simp only[go_sem,d1,d2,k2,hget,ay1,x0,e1,e2];exact herr _ 4 (hbad (by unfold ay9; simp[e2'])) (by decide)
  have e1':1<=x.kind:=by omega
  have e2':x.kind<=4:=by omega
  simp only[go_sem,d1,d2,k2,hget,ay1,x0,x1,x2,e1,e2]
  first|refine aa4 fok93 (hmay) ?_|refine aa2 (hmay) ?_
  cases hb:ah8 x.dep with
  | false=>
   simp only[go_sem]
   exact herr _ 4 (hbad (by unfold ay9; simp[hb])) (by decide)
  | true=>
   have:ay9 x=true:=by unfold ay9; simp[e1',e2',hb]
   rw[this,Bool.true_and] at ha;simp only[go_sem,w1];exact ⟨hlt,ha⟩
 have hi':i=r.ai4.length:=by omega
 subst hi';rw[List.drop_length] at ha;have hjm:¬ r.ai4.all ay9=false:=by rw[<- ha]; simp
 have d1:¬ (r.ai4.length:Int)<r.ai4.length:=by omega
 simp only[go_sem,d1,k2];refine ab7 noT (fun i fr t=>fr=[(0,az7 all),(1,.int .i64 inst),(5,.ac2 r.cs),(9,.int .i64 (i:Int))]/\((r.ai5.drop i).all fun e=>au5 e r.ai4.length inst)=r.ai5.all fun e=>au5 e r.ai4.length inst) r.ai5.length ⟨rfl,rfl⟩ ?_;clear ha;rintro i fr t hi ⟨rfl,ha⟩;by_cases hlt:i<r.ai5.length
 ·obtain ⟨x,hx,_,hdr,hget,_⟩:=ae5 r.ai5 i hlt;have d1:(i:Int)<r.ai5.length:=by omega
  have d2:(0:Int)<=i:=by omega
  have w1:=ae1 (i:=i) (by omega);have x0:x.cs.head? = some (.int .u8 x.kind):=rfl;have x1:(x.cs.drop 1).head? = some (.int .i64 x.n):=rfl;rw[hdr,List.all_cons] at ha
  have hbad:au5 x r.ai4.length inst=false->al2 r inst=5:=fun h=>by
   rw[h,Bool.false_and] at ha;unfold al2; rw[if_neg q1,if_neg q2,if_neg hjm,if_pos ha.symm]
  have hgood:au5 x r.ai4.length inst=true->((r.ai5.drop (i+1)).all fun e=>au5 e r.ai4.length inst)=r.ai5.all fun e=>au5 e r.ai4.length inst:=fun h=>by
   rw[h,Bool.true_and] at ha; exact ha
  unfold au5 at hbad hgood;by_cases e1:0<=x.n
  case neg=>
   simp only[go_sem,d1,d2,k2,k3,hget,ar3,ap3,aj6,x0,x1,e1];exact herr _ 5 (hbad (by simp[e1])) (by decide)
  by_cases e2:x.kind=1
  ·by_cases e3:x.n<r.ai4.length
   ·simp only[go_sem,d1,d2,k2,k3,hget,ar3,ap3,aj6,x0,x1,e1,e2,e3,w1];exact ⟨hlt,hgood (by simp[e1,e2,e3])⟩
   ·simp only[go_sem,d1,d2,k2,k3,hget,ar3,ap3,aj6,x0,x1,e1,e2,e3];exact herr _ 5 (hbad (by simp[e2,e3])) (by decide)
  ·by_cases e4:1<x.kind
   ·by_cases e5:x.kind<=4
    ·have e6:1<=x.kind:=by omega
     by_cases e3:x.n<inst
     ·simp only[go_sem,d1,d2,k2,k3,hget,ar3,ap3,aj6,x0,x1,e1,e2,e3,e4,e5,w1];exact ⟨hlt,hgood (by simp[e1,e2,e3,e5,e6])⟩
     ·simp only[go_sem,d1,d2,k2,k3,hget,ar3,ap3,aj6,x0,x1,e1,e2,e3,e4,e5];exact herr _ 5 (hbad (by simp[e2,e3])) (by decide)
    ·simp only[go_sem,d1,d2,k2,k3,hget,ar3,ap3,aj6,x0,x1,e1,e2,e4,e5];exact herr _ 5 (hbad (by simp[e5])) (by decide)
   ·have e6:¬ 1<=x.kind:=by omega
    simp only[go_sem,d1,d2,k2,k3,hget,ar3,ap3,aj6,x0,x1,e1,e2,e4];exact herr _ 5 (hbad (by simp[e6])) (by decide)
 have hi':i=r.ai5.length:=by omega
 subst hi';rw[List.drop_length] at ha;have hem:¬ (r.ai5.all fun e=>au5 e r.ai4.length inst)=false:=by rw[<- ha]; simp
 have d2:¬ (r.ai5.length:Int)<r.ai5.length:=by omega
 have hz:al2 r inst=0:=by unfold al2; rw[if_neg q1,if_neg q2,if_neg hjm,if_neg hem]
 have hrc:r.cs=[.int .u8 r.au3,.bool r.vendor,bi9 r.ai4,av3 r.ai5,.int .i64 r.budget]:=rfl;rw[<- hV];unfold dj9;rw[if_pos hz];have rl:r.cs.length=5:=rfl;simp only[go_sem,d2,k3,rl,bj9,ah2];refine .keep _ (.tuple _ (ak2 (.ac2 _ fun c hc=>?_) (.int _ _)));rcases List.mem_cons.1 hc with rfl|hc
 ·exact aw4 all
 ·rcases List.mem_cons.1 hc with rfl|hc
  ·exact .int _ _
  ·exact bc7 r c hc
open Go Go.Id Go.Proofs Go.Id.Md
theorem aok {repos:List am1}{inst:List aa3}{p:Pool}{r:Req}(hI:gz4 repos inst)(hn:bt6 repos inst=.inl p)(hR:du2 r)(he:al2 r p.inst=0):AOK ⟨p,r⟩:=by
 have hf:=hm6 hI hn;have hlen:(ae6 p).length<=256:=by simp only[ae6,List.length_map]; exact er7 hn
 unfold al2 at he;split at he
 ·cases he
 split at he
 ·cases he
 rename_i hb;split at he
 ·cases he
 rename_i hj;refine ⟨hlen,fun x hx=>(hf x hx).2.1,fun x hx=>(hf x hx).1,fun x hx=>(hf x hx).2.2,?_,?_,?_,fun j hj=>(hR.ij7 j hj).1,fun j hjm=>?_⟩
 ·have h1:=cv9 hn
  have h2:p.inst=inst.length:=by
   unfold bt6 at hn;split at hn
   ·cases hn
   split at hn
   ·cases hn
   split at hn
   ·cases hn; rfl
   ·cases hn
  show p.inst<=((ae6 p).length:Nat);rw[h2,h1,List.length_append]; omega
 ·show r.ai4.length<=64; omega
 ·show r.ai5.length<=128; omega
 ·have h1:r.ai4.all ay9=true:=by simpa using hj
  have h2:=List.all_eq_true.1 h1 j hjm;unfold ay9 at h2;simp only[Bool.and_eq_true,decide_eq_true_eq] at h2;exact ⟨h2.1.1,h2.1.2⟩
set_option maxHeartbeats 1000000
def fm3:IV:=.tuple [.ab6,.ab6,.ab6,.bool false,.bool false]
def ek8 (repos:List am1)(inst:List aa3)(r:Req):IV:=match bt6 repos inst with
 | .inr _=>fm3
 | .inl p=>if al2 r p.inst=0 then .tuple [(ac5.mk p r).mv,(ac5.mk p r).v,.ac2 (az7 (et8 repos inst)::.int .i64 p.inst::r.cs),.bool true,.bool false] else fm3
theorem et9 {repos:List am1}{inst:List aa3}{p:Pool}{r:Req}(hI:gz4 repos inst)(hn:bt6 repos inst=.inl p)(hR:du2 r)(he:al2 r p.inst=0):(ac5.mk p r).items.length<2^30/\0<=p.inst:=by
 have hA:=aok hI hn hR he;have hp:p.inst=inst.length:=(cq3 hn).2;refine ⟨ac5.ga6 _ (fun x hx=>?_) hA.len hA.inst hA.ai4,by rw[hp]; omega⟩;have hm:ag3 x=true:=(er8 hn x hx).1;unfold ag3 ad3 at hm;simp only[Bool.and_eq_true,decide_eq_true_eq] at hm;obtain ⟨⟨⟨⟨⟨⟨⟨⟨_,ho⟩,_⟩,_⟩,hrq⟩,hcf⟩,_⟩,_⟩,_⟩:=hm.1;exact ⟨by omega,by omega,by omega⟩
theorem eb5 (repos:List am1)(inst:List aa3)(r:Req)(hI:gz4 repos inst)(hR:du2 r):PC Tryz.prog EE 10 [as8 repos,az7 inst,.agg r.cs] (ek8 repos inst r):=by
 refine af3 hE fok10 (nZ rfl) (bb6 (bo6 repos) (aw4 inst) (.agg _ (bc7 r))) ?_;have hp:=cl8 repos inst hI.r1 hI.i1 hI.s1 hI.rf hI.pf;have h12:=fun σ=>ic7 repos inst hI σ
 have nilb:∀ s:Store,cb5 s 0 fm3 fm3:=fun s=>.keep _ (.tuple _ fun c hc=>by
  simp only[List.mem_cons,List.not_mem_nil,or_false] at hc;rcases hc with rfl|rfl|rfl|rfl|rfl
  ·exact .ab6
  ·exact .ab6
  ·exact .ab6
  ·exact .bool _
  ·exact .bool _)
 unfold ek8
 cases hn:bt6 repos inst with
 | inr e=>
  have he:¬ e=0:=by rcases gt7 hn with rfl|rfl<;>decide
  rw[hn] at hp;simp only[ic10,go_sem,ah2]
  first|refine aa4 fok37 (hp) ?_|refine aa2 (hp) ?_
  simp only[iq3,go_sem];refine ag2 fok38 (h12 _) ?_;rintro v s ⟨s1,s2⟩;rw[hn] at s2;simp only at s2;subst s2;refine ⟨s1,?_⟩;simp only[go_sem,he]
  exact nilb _
 | inl p=>
  obtain ⟨g1,g2,_,_⟩:=ck5 hn;have hin:p.inst=inst.length:=(cq3 hn).2;rw[hn] at hp;have hf:=hm6 hI hn;have hlen:(ae6 p).length<=256:=by simp only[ae6,List.length_map]; exact er7 hn
  have hAN:=gj4 p r hR hlen fun x hx=>⟨(hf x hx).1,(hf x hx).2.2⟩
  have hAll:=gw5 repos inst g2 g1;have h15:=gw6 (et8 repos inst) p.inst r hR;have vcs:p.v.cs=[p.v]:=rfl;have vlf:p.v.leaf=true:=rfl;simp only[ic10,go_sem,ah2]
  first|refine aa4 fok37 (hp) ?_|refine aa2 (hp) ?_
  simp only[iq3,go_sem,vcs,vlf];refine ag2 fok38 (h12 _) ?_;rintro v s ⟨s1,s2⟩;rw[hn] at s2;simp only at s2;obtain ⟨id,X,Y,Z,rfl,hob⟩:=s2;refine ⟨s1,?_⟩;have rl:r.cs.length=5:=rfl;simp only[go_sem,rl,bj9,ah2]
  first|refine aa4 fok39 (hAN) ?_|refine aa2 (hAN) ?_
  by_cases he:al2 r p.inst=0
  ·have hA:=aok hI hn hR he;obtain ⟨hIt,hI0⟩:=et9 hI hn hR he;have hM:=ek7 ⟨p,r⟩ hA hI0 hIt;have hav:(ac5.mk p r).v.leaf=true:=rfl;have hac:(ac5.mk p r).v.cs=[(ac5.mk p r).v]:=rfl;have hmv:(ac5.mk p r).mv.leaf=true:=rfl;have hmc:(ac5.mk p r).mv.cs=[(ac5.mk p r).mv]:=rfl;have hbm:=as7 ⟨p,r⟩;have hba:=ah4 ⟨p,r⟩;unfold ij5;unfold dj9 at h15;rw[if_pos he] at h15 ⊢;rw[if_pos he];generalize (ac5.mk p r).v=AV at *;generalize (ac5.mk p r).mv=MV at *;simp only[go_sem,hav,hac,hob];refine aa2 hAll ?_;simp only[go_sem,hob,rl,bj9,ah2];refine aa2 h15 ?_;simp only[go_sem,hav,hac]
   first|refine aa4 fok42 (hM) ?_|refine aa2 (hM) ?_
   simp only[go_sem];refine .keep _ (.tuple _ fun c hc=>?_);simp only[List.mem_cons,List.not_mem_nil,or_false] at hc;rcases hc with rfl|rfl|rfl|rfl|rfl
   ·exact hbm
   ·exact hba
   ·refine .ac2 _ fun c hc=>?_
    rcases List.mem_cons.1 hc with rfl|hc
    ·exact aw4 _
    ·rcases List.mem_cons.1 hc with rfl|hc
     ·exact .int _ _
     ·exact bc7 r c hc
   ·exact .bool _
   ·exact .bool _
  ·unfold ij5;unfold dj9 at h15;rw[if_neg he] at h15 ⊢;rw[if_neg he];simp only[go_sem,hob];refine aa2 hAll ?_;simp only[go_sem,hob,rl,bj9,ah2];refine aa2 h15 ?_;simp only[go_sem,he];exact nilb _
def dr2 (x:Nat×Bool):IV:=.tuple [.int .i64 x.1,.bool x.2]
theorem bj4 {s:Store}(n:Nat)(b:Bool):cb5 s 0 (.tuple [.int .i64 n,.bool b]) (dr2 (n,b)):=.cm6 (.cons (ae3 _ _) (.cons (ab3 _) .nil))
theorem fm4 (r:aa8)(rs:List aa8)(deep n:Nat):co7 (r::rs) deep n=if big r.dep=true then (0,true) else
  if (bz4 r (deep+1)).2=true\/2000<n+1+(bz4 r (deep+1)).1 then (0,true) else co7 rs deep (n+1+(bz4 r (deep+1)).1):=by
 simp only[co7]
theorem gc6 (r:aa8):∀ deep:Nat,deep<=21->r.ok->PC Tryz.prog EE 77 [ai8 r.args,.int .i64 deep] (dr2 (bz4 r deep)):=by
 induction r using aa8.ind with
 | h k d xs ih=>
  intro deep hdeep hok;obtain ⟨o1,o2,o3,o4,o5⟩:=aa8.fl7.1 hok;refine af3 hE fok77 (nZ rfl) (ao7 (aj9 _) (.int _ _)) ?_;by_cases b1:20<deep
  ·have c1:(20:Int)<deep:=by omega
   simp only[ic77,go_sem,aa8.args,bz4,c1,b1,true_or];exact bj4 0 true
  have c1:¬ (20:Int)<deep:=by omega
  by_cases b2:100<xs.length
  ·have c2:(100:Int)<xs.length:=by omega
   simp only[ic77,go_sem,aa8.args,bz4,c1,c2,b1,b2,or_true];exact bj4 0 true
  have c2:¬ (100:Int)<xs.length:=by omega
  simp only[ic77,go_sem,aa8.args,bz4,c1,c2,b1,b2,or_self];refine ab7 noT (fun i fr s=>∃ n:Nat,fr=[(0,ai8 xs),(1,.int .i64 deep),(6,.int .i64 n),(7,.int .i64 i)]/\n<=2000/\co7 xs deep 0=co7 (xs.drop i) deep n) xs.length ⟨0,rfl,by omega,rfl⟩ ?_;rintro i fr s hi ⟨n,rfl,hn,hm⟩;by_cases hlt:i<xs.length
  ·obtain ⟨x,hx,hxi,hdr,hget,htk⟩:=ae5 xs i hlt;have c3:(i:Int)<xs.length:=by omega
   have c4:(0:Int)<=i:=by omega
   have w1:=ae1 (i:=i) (by omega);have w2:=ae1 (i:=deep) (by omega);have w3:=ae1 (i:=n) (by omega);rw[hdr,fm4] at hm;obtain ⟨k',d',ys⟩:=x;rw[show (aa8.mk k' d' ys).dep=d' from rfl] at hm;obtain ⟨x1,x2,x3,x4,x5⟩:=aa8.fl7.1 (o5 _ hx);have hA:=ih _ hx (deep+1) (by omega) (o5 _ hx)
   have hsz:IntKind.i64.wrap ((d'.name.length:Int)+d'.evr.ver.length)=((d'.name.length+d'.evr.ver.length:Nat):Int):=by
    have:=x3.1; have:=x3.2.1;rw[wrap64 (by omega) (by omega)]; omega
   simp only[go_sem,c3,c4,hget,aa8.an8,aa8.kind,aa8.dep,aa8.args,hsz,bi7] at hA ⊢;have hbig:big d'=(decide (500<d'.name.length+d'.evr.ver.length)||decide (500<d'.evr.rel.length)):=rfl;by_cases q1:500<d'.name.length+d'.evr.ver.length
   ·have e1:(500:Int)<((d'.name.length+d'.evr.ver.length:Nat):Int):=by omega
    have hb:big d'=true:=by rw[hbig]; simp[q1]
    rw[if_pos hb] at hm;simp only[go_sem,e1,hm];exact bj4 0 true
   have e1:¬ (500:Int)<((d'.name.length+d'.evr.ver.length:Nat):Int):=by omega
   by_cases q2:500<d'.evr.rel.length
   ·have e2:(500:Int)<d'.evr.rel.length:=by omega
    have hb:big d'=true:=by rw[hbig]; simp[q2]
    rw[if_pos hb] at hm;simp only[go_sem,c3,c4,hget,aa8.an8,aa8.kind,aa8.dep,aa8.args,e1,e2,hm];exact bj4 0 true
   have e2:¬ (500:Int)<d'.evr.rel.length:=by omega
   have hb:¬ big d'=true:=by rw[hbig]; simp[q1,q2]
   rw[if_neg hb] at hm;simp only[go_sem,c3,c4,hget,aa8.an8,aa8.kind,aa8.dep,aa8.args,e1,e2,w2];refine aa4 fok77 hA ?_;have hkl:(bz4 (.mk k' d' ys) (deep+1)).1<=2000:=by rw[dj5]; exact er6 _ _
   generalize bz4 (.mk k' d' ys) (deep+1)=ka at *
   have w4:IntKind.i64.wrap (((n+1:Nat):Int)+ka.1)=((n+1+ka.1:Nat):Int):=by
    rw[wrap64 (by omega) (by omega)]; omega
   cases hk2:ka.2 with
   | true=>
    rw[if_pos (.inl hk2)] at hm;simp only[go_sem,dr2,hk2,w3,w4,hm]
    exact bj4 0 true
   | false=>
    by_cases q3:2000<n+1+ka.1
    ·have e3:(2000:Int)<((n+1+ka.1:Nat):Int):=by omega
     rw[if_pos (.inr q3)] at hm;simp only[go_sem,dr2,hk2,w3,w4,e3,hm];exact bj4 0 true
    ·have e3:¬ (2000:Int)<((n+1+ka.1:Nat):Int):=by omega
     rw[if_neg (by rw[hk2]; simp; omega)] at hm;simp only[go_sem,dr2,hk2,w1,w3,w4,e3];exact ⟨hlt,n+1+ka.1,rfl,by omega,hm⟩
  ·have hi':i=xs.length:=by omega
   subst hi';have c3:¬ (xs.length:Int)<xs.length:=by omega
   rw[List.drop_length] at hm;simp only[go_sem,c3,hm,co7];exact bj4 n false
theorem fm5 (l:List aa8)(h1:l.length<2^62)(h2:∀ r∈l,r.ok):PC Tryz.prog EE 77 [ai8 l,.int .i64 0] (dr2 (co8 l 0)):=by
 have h:=gc6 (.mk 1 by8 l) 0 (by omega) (aa8.fl7.2 ⟨by omega,by omega,⟨by decide,by decide,by decide⟩,h1,h2⟩);rw[dj5] at h;exact h
def lC (l:List aa8):List IV:=[ai8 l]
theorem ek9 {p:aa3}{l:List aa8}(h:l∈bn8 p):∃ x∈p.rows,x.2=l:=by
 simp only[bn8,List.mem_cons,List.not_mem_nil,or_false] at h;rcases h with rfl|rfl|rfl|rfl|rfl|rfl<;>simp[aa3.rows]
theorem el1 (l:List aa8)(ls:List (List aa8))(n:Nat):bz5 (l::ls) n=if (co8 l 0).2=true\/2000<n+(co8 l 0).1 then true else bz5 ls (n+(co8 l 0).1):=by simp only[bz5]
theorem dk4 (p:aa3)(ho:p.Ok):PC Tryz.prog EE 34 [.agg p.cs] (.bool (av2 p)):=by
 refine af3 hE fok34 (nZ rfl) (ae4 (an4 p)) ?_;by_cases b1:100<p.provides.length
 ·have c1:(100:Int)<p.provides.length:=by omega
  simp only[ic34,go_sem,ad2,aa3.cs,c1,av2,b1];exact ab3 _
 have c1:¬ (100:Int)<p.provides.length:=by omega
 by_cases b2:100<p.aa9.length
 ·have c2:(100:Int)<p.aa9.length:=by omega
  simp only[ic34,go_sem,ad2,aa3.cs,c1,c2,av2,b1,b2];exact ab3 _
 have c2:¬ (100:Int)<p.aa9.length:=by omega
 by_cases b3:100<p.files.length
 ·have c3:(100:Int)<p.files.length:=by omega
  simp only[ic34,go_sem,ad2,aa3.cs,c1,c2,c3,av2,b1,b2,b3];exact ab3 _
 have c3:¬ (100:Int)<p.files.length:=by omega
 by_cases b4:1000<p.name.length
 ·have c4:(1000:Int)<p.name.length:=by omega
  simp only[ic34,go_sem,ad2,aa3.cs,c1,c2,c3,c4,av2,b1,b2,b3,b4];exact ab3 _
 have c4:¬ (1000:Int)<p.name.length:=by omega
 by_cases b5:1000<p.vendor.length
 ·have c5:(1000:Int)<p.vendor.length:=by omega
  simp only[ic34,go_sem,ad2,aa3.cs,c1,c2,c3,c4,c5,av2,b1,b2,b3,b4,b5];exact ab3 _
 have c5:¬ (1000:Int)<p.vendor.length:=by omega
 by_cases b6:1000<p.evr.ver.length
 ·have c6:(1000:Int)<p.evr.ver.length:=by omega
  simp only[ic34,go_sem,ad2,aa3.cs,c1,c2,c3,c4,c5,c6,av2,b1,b2,b3,b4,b5,b6];exact ab3 _
 have c6:¬ (1000:Int)<p.evr.ver.length:=by omega
 by_cases b7:1000<p.evr.rel.length
 ·have c7:(1000:Int)<p.evr.rel.length:=by omega
  simp only[ic34,go_sem,ad2,aa3.cs,c1,c2,c3,c4,c5,c6,c7,av2,b1,b2,b3,b4,b5,b6,b7];exact ab3 _
 have c7:¬ (1000:Int)<p.evr.rel.length:=by omega
 have hM:av2 p=bz5 (bn8 p) 0:=by simp only[av2,b1,b2,b3,b4,b5,b6,b7,decide_false,Bool.false_or]
 rw[hM];simp only[ic34,go_sem,ad2,aa3.cs,c1,c2,c3,c4,c5,c6,c7];refine ab7 noT (fun i fr s=>∃ n:Nat,fr=[(3,.int .i64 n),(62,.aa5 ((bn8 p).map lC)),(63,.int .i64 6),(64,.int .i64 i)]/\n<=2000/\bz5 (bn8 p) 0=bz5 ((bn8 p).drop i) n) 6 ⟨0,rfl,by omega,rfl⟩ ?_;rintro i fr s hi ⟨n,rfl,hn,hm⟩;by_cases hlt:i<6
 ·obtain ⟨l,hl,hli,hdr,hget,htk⟩:=ae5 (bn8 p) i hlt;have d1:(i:Int)<6:=by omega
  have d2:(0:Int)<=i:=by omega
  have d3:(i:Int)<((bn8 p).length:Nat):=by simp only[bn8,List.length_cons,List.length_nil]; omega
  have w1:=ae1 (i:=i) (by omega);rw[hdr,el1] at hm;obtain ⟨x,hx,rfl⟩:=ek9 hl;have hok:=ho.rich x hx;simp only[go_sem,d1,d2,d3,hget,lC];refine aa4 fok77 (fm5 x.2 hok.1 hok.2) ?_;have hle:=er6 x.2 0;generalize co8 x.2 0=ka at *
  have w4:IntKind.i64.wrap ((n:Int)+ka.1)=((n+ka.1:Nat):Int):=by
   rw[wrap64 (by omega) (by omega)]; omega
  cases hk2:ka.2 with
  | true=>
   rw[if_pos (.inl hk2)] at hm;simp only[go_sem,dr2,hk2,w4,hm]
   exact ab3 _
  | false=>
   by_cases q3:2000<n+ka.1
   ·have e3:(2000:Int)<((n+ka.1:Nat):Int):=by omega
    rw[if_pos (.inr q3)] at hm;simp only[go_sem,dr2,hk2,w4,e3,hm];exact ab3 _
   ·have e3:¬ (2000:Int)<((n+ka.1:Nat):Int):=by omega
    rw[if_neg (by rw[hk2]; simp; omega)] at hm;simp only[go_sem,dr2,hk2,w1,w4,e3];exact ⟨hlt,n+ka.1,rfl,by omega,hm⟩
 ·have hi':i=6:=by omega
  subst hi';have e6:(bn8 p).drop 6=[]:=rfl;rw[e6] at hm;simp only[go_sem,hm,bz5];exact ab3 _
theorem eu1 {α:Type}{q:α->Bool}{l:List α}{i:Nat}{a:α}(h:l.drop i=a::l.drop (i+1)):(l.drop i).any q=(q a||(l.drop (i+1)).any q):=by rw[h]; simp
set_option maxHeartbeats 1000000
def bz8 (most:Nat):List am1->Nat->Bool
 | [],_=>false
 | r::rs,n=>if most<n+r.packages.length then true else if r.packages.any av2=true then true else bz8 most rs (n+r.packages.length)
def bo3 (repos:List am1)(inst:List aa3)(r:Req)(most:Nat):Bool :=
 decide (30<repos.length)||(decide (most<inst.length)||(decide (20<r.ai4.length)||(decide (20<r.ai5.length)||(inst.any av2||bz8 most repos inst.length))))
theorem el3 (most:Nat)(r:am1)(rs:List am1)(n:Nat):bz8 most (r::rs) n=if most<n+r.packages.length then true else if r.packages.any av2=true then true else bz8 most rs (n+r.packages.length):=by simp only[bz8]
theorem id3 (r:Req):(r.cs.drop 2).head? = some (bi9 r.ai4):=rfl
theorem it6 (r:Req):(r.cs.drop 3).head? = some (av3 r.ai5):=rfl
theorem gc7 (repos:List am1)(inst:List aa3)(r:Req)(most:Nat)(h1:repos.length<2^62)(h2:inst.length<2^62)(hmo:most<2^31)(hr:∀ r∈repos,am1.Ok r)(hi:∀ p∈inst,p.Ok) :
  PC Tryz.prog EE 8 [as8 repos,az7 inst,.agg r.cs,.int .i64 most] (.bool (bo3 repos inst r most)):=by
 refine af3 hE fok8 (nZ rfl) (ip8 (bo6 _) (aw4 _) (.agg _ (bc7 r)) (.int _ _)) ?_;have rl:r.cs.length=5:=rfl;have jl:∀ l:List Job,∀ σ:Store,cn8 0 σ (bi9 l)=some (.int .i64 l.length):=fun l σ=>by unfold bi9; simp only[go_sem]
 have el:∀ l:List bc2,∀ σ:Store,cn8 0 σ (av3 l)=some (.int .i64 l.length):=fun l σ=>by unfold av3; simp only[go_sem]
 by_cases b1:30<repos.length
 ·have c1:(30:Int)<repos.length:=by omega
  simp only[ic8,go_sem,ah2,c1,bo3,b1];exact ab3 _
 have c1:¬ (30:Int)<repos.length:=by omega
 by_cases b2:most<inst.length
 ·have c2:(most:Int)<inst.length:=by omega
  simp only[ic8,go_sem,ah2,c1,c2,bo3,b1,b2];exact ab3 _
 have c2:¬ (most:Int)<inst.length:=by omega
 by_cases b3:20<r.ai4.length
 ·have c3:(20:Int)<r.ai4.length:=by omega
  simp only[ic8,go_sem,ah2,c1,c2,id3,jl,c3,bo3,b1,b2,b3];exact ab3 _
 have c3:¬ (20:Int)<r.ai4.length:=by omega
 by_cases b4:20<r.ai5.length
 ·have c4:(20:Int)<r.ai5.length:=by omega
  simp only[ic8,go_sem,ah2,c1,c2,id3,it6,jl,el,c3,c4,bo3,b1,b2,b3,b4];exact ab3 _
 have c4:¬ (20:Int)<r.ai5.length:=by omega
 have hM:bo3 repos inst r most=(inst.any av2||bz8 most repos inst.length):=by simp only[bo3,b1,b2,b3,b4,decide_false,Bool.false_or]
 rw[hM];simp only[ic8,go_sem,ah2,c1,c2,id3,it6,jl,el,c3,c4];refine ab7 noT (fun i fr s=>fr=[(0,as8 repos),(1,az7 inst),(3,.int .i64 most),(9,.int .i64 inst.length),(10,.int .i64 i)]/\inst.any av2=(inst.drop i).any av2) inst.length ⟨rfl,rfl⟩ ?_;rintro i fr s hle ⟨rfl,hm⟩;by_cases hlt:i<inst.length
 ·obtain ⟨x,hx,hxi,hdr,hget,htk⟩:=ae5 inst i hlt;have d1:(i:Int)<inst.length:=by omega
  have d2:(0:Int)<=i:=by omega
  have w1:=ae1 (i:=i) (by omega);rw[eu1 hdr] at hm;simp only[go_sem,d1,d2,hget,ag8,ah1,w1];refine aa4 fok34 (dk4 x (hi x hx)) ?_
  cases hb:av2 x with
  | true=>
   rw[hb,Bool.true_or] at hm;simp only[go_sem,hm]
   exact ab3 _
  | false=>
   rw[hb,Bool.false_or] at hm;simp only[go_sem,w1];exact ⟨hlt,hm⟩
 have hi':i=inst.length:=by omega
 subst hi';have d1:¬ (inst.length:Int)<inst.length:=by omega
 rw[List.drop_length,List.any_nil] at hm;rw[hm,Bool.false_or];simp only[go_sem,d1];refine ab7 noT (fun i fr t=>∃ n:Nat,fr=[(0,as8 repos),(3,.int .i64 most),(9,.int .i64 n),(11,.int .i64 i)]/\n<=most/\bz8 most repos inst.length=bz8 most (repos.drop i) n) repos.length ⟨inst.length,rfl,by omega,rfl⟩ ?_;rintro i fr t hle2 ⟨n,rfl,hn,hm2⟩;by_cases hlt:i<repos.length
 ·obtain ⟨x,hx,hxi,hdr,hget,htk⟩:=ae5 repos i hlt;have d3:(i:Int)<repos.length:=by omega
  have d4:(0:Int)<=i:=by omega
  have w1:=ae1 (i:=i) (by omega);have hxo:=hr x hx
  have w2:IntKind.i64.wrap ((n:Int)+x.packages.length)=((n+x.packages.length:Nat):Int):=by
   have:=hxo.1;rw[wrap64 (by omega) (by omega)]; omega
  rw[hdr,el3] at hm2;by_cases q1:most<n+x.packages.length
  ·have e1:(most:Int)<((n+x.packages.length:Nat):Int):=by omega
   rw[if_pos q1] at hm2;simp only[go_sem,d3,d4,hget,ao8,am1.cs,w2,e1,hm2];exact ab3 _
  have e1:¬ (most:Int)<((n+x.packages.length:Nat):Int):=by omega
  rw[if_neg q1] at hm2;simp only[go_sem,d3,d4,hget,ao8,am1.cs,w2,e1];refine ab7 noT (fun j fr t=>fr=[(0,as8 repos),(3,.int .i64 most),(9,.int .i64 (n+x.packages.length:Nat)),(11,.int .i64 i),(12,.int .i64 j)]/\x.packages.any av2=(x.packages.drop j).any av2) x.packages.length ⟨rfl,rfl⟩ ?_;rintro j fr t hlej ⟨rfl,hj⟩;by_cases hjl:j<x.packages.length
  ·obtain ⟨y,hy,hyi,hdr3,hget3,htk3⟩:=ae5 x.packages j hjl;have d5:(j:Int)<x.packages.length:=by omega
   have d6:(0:Int)<=j:=by omega
   have w3:=ae1 (i:=j) (by have:=hxo.1; omega);rw[eu1 hdr3] at hj;simp only[go_sem,d3,d4,d5,d6,hget,hget3,ao8,am1.cs,ag8,ah1,w3];refine aa4 fok34 (dk4 y (hxo.2 y hy)) ?_
   cases hb:av2 y with
   | true=>
    rw[hb,Bool.true_or] at hj;rw[if_pos hj] at hm2;simp only[go_sem,hm2]
    exact ab3 _
   | false=>
    rw[hb,Bool.false_or] at hj;simp only[go_sem,w3];exact ⟨hjl,hj⟩
  ·have hj':j=x.packages.length:=by omega
   subst hj';have d5:¬ (x.packages.length:Int)<x.packages.length:=by omega
   rw[List.drop_length,List.any_nil] at hj;rw[if_neg (by rw[hj]; exact Bool.false_ne_true)] at hm2;simp only[go_sem,d3,d4,d5,hget,ao8,am1.cs,w1];exact ⟨hlt,n+x.packages.length,rfl,by omega,hm2⟩
 ·have hi':i=repos.length:=by omega
  subst hi';have d3:¬ (repos.length:Int)<repos.length:=by omega
  rw[List.drop_length] at hm2;simp only[go_sem,d3,hm2,bz8];exact ab3 _
open Go.Id.Md.ac5 (inS less)
set_option maxHeartbeats 1000000
theorem el4 {s:Store}(x:Str):cb5 s 0 (.str x) (.str x):=.keep _ (.str _)
theorem gc8 {s:Store}(k:IntKind)(n:Int):cb5 s 0 (.int k n) (.int k n):=.keep _ (.int _ _)
def ij6 (name ver:Str):aa3:={ name:=name,evr:=⟨0,ver,[49]⟩,au3:=1,vendor:=[],provides:=[],requires:=[],conflicts:=[],aa9:=[],ac3:=[],ac1:=[],suggests:=[],ad8:=[],files:=[] }
theorem dk5 (name ver:Str):PC Tryz.prog EE 35 [.str name,.str ver] (.agg (ij6 name ver).cs):=by
 refine af3 hE fok35 (nZ rfl) (ak2 (.str _) (.str _)) ?_;simp only[ic35,go_sem];exact .ii4 (.cons (el4 _) (.cons (gc8 _ _) (.cons (el4 _) (.cons (el4 _) (.cons (gc8 _ _) (.cons (el4 _) (.cons .cc5 (.cons .cc5 (.cons .cc5 (.cons .cc5 (.cons .cc5 (.cons .cc5 (.cons .cc5 (.cons .cc5 (.cons .cc5 .nil)))))))))))))))
def at16 (s:Str):aa8:=.mk 1 ⟨s,0,⟨0,[],[]⟩⟩ []
theorem gc9 (s:Str):PC Tryz.prog EE 36 [.str s] (.agg (at16 s).cs):=by
 refine af3 hE fok36 (nZ rfl) (aj1 (.str _)) ?_;simp only[ic36,go_sem];exact .ii4 (.cons (gc8 _ _) (.cons (el4 _) (.cons (gc8 _ _) (.cons (gc8 _ _) (.cons (el4 _) (.cons (el4 _) (.cons .cc5 .nil)))))))
def it7 (repos:List am1)(inst:List aa3):Pool:=match bt6 repos inst with
 | .inl p=>p
 | .inr _=>⟨[],0,[]⟩
def eu2 (d:Dep):Bool:=decide (d.name.length<100)&&decide (d.evr.ver.length<100)&&decide (d.evr.rel.length<100)
def hk9 (p:aa3):Bool:=decide (p.name.length<100)&&decide (p.vendor.length<100)&&decide (p.evr.ver.length<100)&&decide (p.evr.rel.length<100)&&decide (p.provides.length<100)&&p.provides.all eu2&&decide (p.aa9.length<100)&&p.aa9.all eu2 &&
 decide (p.files.length<100)&&p.files.all (fun s=>decide (s.length<100))&&p.rows.all fun x=>x.2.isEmpty
theorem gw7 {p:aa3}(h:hk9 p=true):p.Fit/\p.Ok:=by
 unfold hk9 at h;simp only[Bool.and_eq_true,decide_eq_true_eq,List.all_eq_true] at h;obtain ⟨⟨⟨⟨⟨⟨⟨⟨⟨⟨h1,h2⟩,h3⟩,h4⟩,h5⟩,h6⟩,h7⟩,h8⟩,h9⟩,h10⟩,h11⟩:=h
 have hd:∀ d:Dep,eu2 d=true->d.fit:=fun d hd=>by
  unfold eu2 at hd;simp only[Bool.and_eq_true,decide_eq_true_eq] at hd;exact ⟨by omega,by omega,by omega⟩
 have hr:∀ x∈p.rows,x.2=[]:=fun x hx=>List.isEmpty_iff.1 (h11 x hx)
 exact ⟨⟨by omega,⟨by omega,by omega⟩,⟨by omega,fun d hx=>hd d (h6 d hx)⟩,⟨by omega,fun d hx=>hd d (h8 d hx)⟩,⟨by omega,fun x hx=>by have:=h10 x hx; omega⟩,fun x hx=>by rw[hr x hx]; exact ⟨by simp,fun r h=>by cases h⟩⟩,
  ⟨by omega,by omega,⟨by omega,by omega⟩,⟨by omega,fun d hx=>hd d (h6 d hx)⟩,⟨by omega,fun d hx=>hd d (h8 d hx)⟩,⟨by omega,fun x hx=>by have:=h10 x hx; omega⟩,fun x hx=>by rw[hr x hx]; exact ⟨by simp,fun r h=>by cases h⟩⟩⟩
theorem dr3 (l:List Itm){i:Nat}(h:i<l.length):(l.map Itm.cs).getD i []=l[i].cs:=by
 simp[List.getD_eq_getElem?_getD,h]
theorem gd1 (l m:List Itm)(hl:l.length<2^62)(hm:m.length<2^62):PC Tryz.prog EE 14 [al1 l,al1 m] (.bool (decide (l=m))):=by
 refine af3 hE fok14 (nZ rfl) (ak2 (bc3 l) (bc3 m)) ?_;have il:∀ l:List Itm,∀ σ:Store,cn8 0 σ (al1 l)=some (.int .i64 l.length):=fun l σ=>by unfold al1; simp only[go_sem]
 by_cases hn:l.length=m.length
 case neg=>
  have e:¬ (l.length:Int)=m.length:=by omega
  have e2:decide (l=m)=false:=by
   rw[decide_eq_false_iff_not]; intro h; exact hn (by rw[h])
  rw[e2];simp only[ic14,go_sem,il,e];exact ab2 rfl
 have e:(l.length:Int)=m.length:=by omega
 simp only[ic14,go_sem,il,e];refine ab7 noT (fun i fr s=>fr=[(0,al1 l),(1,al1 m),(5,.int .i64 (i:Int))]/\l.take i=m.take i) l.length ⟨rfl,rfl⟩ ?_;rintro i fr s hi ⟨rfl,ht⟩;by_cases hlt:i<l.length
 ·have c1:(i:Int)<l.length:=by omega
  have c2:(0:Int)<=(i:Int):=by omega
  have c3:(i:Int)<m.length:=by omega
  have w1:=ae1 (i:=i) (by omega);have g1:=dr3 l hlt;have g2:=dr3 m (i:=i) (by omega);simp only[go_sem,al1,c1,c2,c3,g1,g2,ad6,ac9,hj6];by_cases hq:l[i]=m[i]'(by omega)
  ·simp only[hq,go_sem,w1];refine ⟨hlt,?_⟩;rw[List.take_add_one,List.take_add_one,ht,List.getElem?_eq_getElem hlt,List.getElem?_eq_getElem (by omega),hq]
  ·have e2:decide (l=m)=false:=by
    rw[decide_eq_false_iff_not]; intro h; subst h; exact hq rfl
   rw[e2];simp only[hq,go_sem];exact ab2 rfl
 ·have c1:¬ (i:Int)<l.length:=by omega
  rw[List.take_of_length_le (by omega),List.take_of_length_le (by omega)] at ht;subst ht;simp only[go_sem,il,c1];exact ab2 (by simp)
set_option maxHeartbeats 1000000
def wkA:aa3:={ ij6 [97] [49] with requires:=[at16 [120]] }
def wkB:aa3:={ ij6 [98] [49] with provides:=[⟨[120],0,⟨0,[],[]⟩⟩] }
def wkR:List am1:=[⟨0,[wkB]⟩]
def wkI:List aa3:=[wkA]
def wkQ:Req:=⟨2,false,[],[],0⟩
def wkP:Pool:=it7 wkR wkI
def wkM:ac5:=⟨wkP,wkQ⟩
theorem hl6:bt6 wkR wkI=.inl wkP:=by kernel_rfl
theorem hl7:al2 wkQ wkP.inst=0:=by kernel_rfl
theorem it8:(at16 [120]).fit:=aa8.bk5.2 ⟨by decide,by decide,⟨by show 1<2^62; decide,by show 0<2^62; decide,by show 0<2^62; decide⟩,by show 0<_; decide,fun r h=>(by cases h)⟩
theorem jf2:(at16 [120]).ok:=aa8.fl7.2 ⟨by decide,by decide,⟨by show 1<2^62; decide,by show 0<2^62; decide,by show 0<2^62; decide⟩,by show 0<_; decide,fun r h=>(by cases h)⟩
theorem it9:wkA.Fit/\wkA.Ok:=by
 have hr:∀ x∈wkA.rows,x.2.length<100/\∀ r∈x.2,r=at16 [120]:=fun x hx2=>by
  simp only[aa3.rows,wkA,ij6,List.mem_cons,List.not_mem_nil,or_false] at hx2;rcases hx2 with rfl|rfl|rfl|rfl|rfl|rfl
  ·refine ⟨by decide,fun r hr=>List.mem_singleton.1 hr⟩
  all_goals exact ⟨by decide,fun r h=>by cases h⟩
 have n0:∀ {α:Type} {q:α->Prop},∀ d∈([]:List α),q d:=fun d h=>by cases h
 refine ⟨⟨by show 1<_; decide,⟨by show 1<2^62; decide,by show 1<2^62; decide⟩,⟨by show 0<_; decide,n0⟩,⟨by show 0<_; decide,n0⟩,⟨by show 0<_; decide,n0⟩,fun x hx2=>⟨by have:=(hr x hx2).1; omega,fun r h=>?_⟩⟩,⟨by show 1<_; decide,by show 0<2^62; decide,⟨by show 1<2^62; decide,by show 1<2^62; decide⟩,⟨by show 0<_; decide,n0⟩,⟨by show 0<_; decide,n0⟩,⟨by show 0<_; decide,n0⟩,fun x hx2=>⟨by have:=(hr x hx2).1; omega,fun r h=>?_⟩⟩⟩
 ·rw[(hr x hx2).2 r h];exact ⟨it8,by show 1<2^31; decide⟩
 ·rw[(hr x hx2).2 r h];exact jf2
theorem iu1:gz4 wkR wkI:=by
 have hB:wkB.Fit/\wkB.Ok:=gw7 (by kernel_rfl);have hA:=it9
 exact ⟨by decide,by decide,by decide,fun r hr=>by
   rw[List.mem_singleton.1 hr];exact ⟨by decide,fun p hp=>by rw[List.mem_singleton.1 hp]; exact hB.1⟩,fun p hp=>by rw[List.mem_singleton.1 hp]; exact hA.1,fun r hr=>by
   rw[List.mem_singleton.1 hr];exact ⟨by decide,fun p hp=>by rw[List.mem_singleton.1 hp]; exact hB.2⟩,fun p hp=>by rw[List.mem_singleton.1 hp]; exact hA.2⟩
theorem hl8:du2 wkQ:=⟨by decide,by decide,fun j h=>by cases h⟩
theorem bz9:wkM.items=[⟨2,0,0⟩,⟨6,0,0⟩]:=by kernel_rfl
theorem id4:wkM.holds [0] ⟨2,0,0⟩=false:=by kernel_rfl
theorem id5:wkM.holds [0] ⟨6,0,0⟩=true:=by kernel_rfl
theorem id6:wkM.good [0,1]=true:=by kernel_rfl
theorem id7:wkM.good []=false:=by kernel_rfl
theorem id8:ek8 wkR wkI wkQ=.tuple [wkM.mv,wkM.v,.ac2 (az7 (et8 wkR wkI)::.int .i64 wkP.inst::wkQ.cs),.bool true,.bool false]:=by
 unfold ek8;rw[hl6];simp only[hl7,if_true];rfl
theorem bb1:PC Tryz.prog EE 9 [] (.bool true):=by
 have nA:=dk5 [97] [49];have nB:=dk5 [98] [49];have aT:=gc9 [120];have hm:=eb5 wkR wkI wkQ iu1 hl8;rw[id8] at hm;have hA:=aok iu1 hl6 hl8 hl7;have hI:=eb2 wkM (by rw[bz9]; decide);have hS:=gd1 wkM.items [⟨2,0,0⟩,⟨6,0,0⟩] (by rw[bz9]; decide) (by decide);rw[decide_eq_true bz9] at hS;have h1:=bo2 wkM hA [0] (by decide) ⟨2,0,0⟩;have h2:=bo2 wkM hA [0] (by decide) ⟨6,0,0⟩;have g1:=et4 wkM hA [0,1] (by decide) (by rw[bz9]; decide);have g2:=et4 wkM hA [] (by decide) (by rw[bz9]; decide);rw[id4] at h1;rw[id5] at h2;rw[id6] at g1;rw[id7] at g2
 have g3:PC Tryz.prog EE 17 [wkM.mv,.aa1] (.bool false):=dp1 (args':=[wkM.mv,.aa5 (([]:List Int).map Md.ai2)]) rfl (fun σ i hi=>by
  match i,hi with
  | 0,_=>exact .keep _ ((as7 wkM).weak fun _ _=>rfl)
  | 1,_=>exact .cc5) g2
 have cA:(ij6 [97] [49]).cs=[.str [97],.int .i64 0,.str [49],.str [49],.int .u8 1,.str [],.aa5 [],.aa5 [],.aa5 [],.aa5 [],.aa5 [],.aa5 [],.aa5 [],.aa5 [],.aa5 []]:=rfl;have cB:(ij6 [98] [49]).cs=[.str [98],.int .i64 0,.str [49],.str [49],.int .u8 1,.str [],.aa5 [],.aa5 [],.aa5 [],.aa5 [],.aa5 [],.aa5 [],.aa5 [],.aa5 [],.aa5 []]:=rfl;have cT:(at16 [120]).cs=[.int .u8 1,.str [120],.int .u8 0,.int .i64 0,.str [],.str [],.aa5 []]:=rfl;rw[cA] at nA;rw[cB] at nB;rw[cT] at aT
 have hm2:PC Tryz.prog EE 10 [.aa5 [[.int .i64 0,.aa5 [[.str [98],.int .i64 0,.str [49],.str [49],.int .u8 1,.str [],.aa5 [[.str [120],.int .u8 0,.int .i64 0,.str [],.str []]],.aa5 [],.aa5 [],.aa5 [],.aa5 [],.aa5 [],.aa5 [],.aa5 [],.aa5 []]]]],
   .aa5 [[.str [97],.int .i64 0,.str [49],.str [49],.int .u8 1,.str [],.aa5 [],.aa5 [[.int .u8 1,.str [120],.int .u8 0,.int .i64 0,.str [],.str [],.aa5 []]],.aa5 [],.aa5 [],.aa5 [],.aa5 [],.aa5 [],.aa5 [],.aa5 []]],
   .agg [.int .u8 2,.bool false,.aa1,.aa1,.int .i64 0]] (.tuple [wkM.mv,wkM.v,.ac2 (az7 (et8 wkR wkI)::.int .i64 wkP.inst::wkQ.cs),.bool true,.bool false]):=hy5 (args':=[as8 wkR,az7 wkI,.agg wkQ.cs]) (by kernel_rfl) hm
 generalize wkM.mv=MV at *;generalize wkM.v=AV at *;generalize hTV:(IV.ac2 (az7 (et8 wkR wkI)::.int .i64 wkP.inst::wkQ.cs))=TV at *;refine af3 hE fok9 (nZ rfl) (fun a h=>by cases h) ?_;simp only[ic9,go_sem]
 first|refine aa4 fok35 (nA) ?_|refine aa2 (nA) ?_
 simp only[go_sem]
 first|refine aa4 fok35 (nB) ?_|refine aa2 (nB) ?_
 simp only[go_sem]
 first|refine aa4 fok36 (aT) ?_|refine aa2 (aT) ?_
 simp only[go_sem]
 first|refine aa4 fok10 (hm2) ?_|refine aa2 (hm2) ?_
 simp only[go_sem]
 first|refine aa4 fok11 (hI) ?_|refine aa2 (hI) ?_
 simp only[go_sem]
 first|refine aa4 fok14 (hS) ?_|refine aa2 (hS) ?_
 simp only[go_sem]
 first|refine aa4 fok12 (h1) ?_|refine aa2 (h1) ?_
 simp only[go_sem]
 first|refine aa4 fok12 (h2) ?_|refine aa2 (h2) ?_
 simp only[go_sem]
 first|refine aa4 fok17 (g1) ?_|refine aa2 (g1) ?_
 simp only[go_sem]
 first|refine aa4 fok17 (g3) ?_|refine aa2 (g3) ?_
 simp only[go_sem];exact ab2 rfl
end Go.Id.Tryz
set_option linter.all false
namespace Go.Id.Tryz
open Go Go.Id Go.Proofs Go.Shelf Go.Id.Md
open Go.Id.Md.ac5 (inS less)
set_option maxRecDepth 100000
set_option maxHeartbeats 1000000
theorem ev8 (r:Req):r.cs.length=5:=rfl
theorem gh9 (l:List Itm){i:Nat}(h:i<l.length):(l.map Itm.cs).getD i []=l[i].cs:=dr3 l h
theorem ah3 (l:List Itm)(σ:Store):cn8 0 σ (al1 l)=some (.int .i64 l.length):=by unfold al1; simp only[go_sem]
theorem am9 (a:ac5):a.mv.cs=[a.mv]:=rfl
theorem ah9 (a:ac5):a.mv.leaf=true:=rfl
theorem gz3 {repos:List am1}{inst:List aa3}{r:Req}(hI:gz4 repos inst)(hR:du2 r):ek8 repos inst r=fm3\/∃ p:Pool,bt6 repos inst=.inl p/\AOK ⟨p,r⟩/\(ac5.mk p r).items.length<2^30/\p.inst=inst.length /\
  ek8 repos inst r=.tuple [(ac5.mk p r).mv,(ac5.mk p r).v,.ac2 (az7 (et8 repos inst)::.int .i64 p.inst::r.cs),.bool true,.bool false]:=by
 unfold ek8
 cases hn:bt6 repos inst with
 | inr e=>exact .inl rfl
 | inl p=>
  by_cases he:al2 r p.inst=0
  ·exact .inr ⟨p,rfl,aok hI hn hR he,(et9 hI hn hR he).1,(cq3 hn).2,by simp only[he,if_true]⟩
  ·exact .inl (by simp only[he,if_false])
theorem if4 (l:List Int):∀ x∈l.map Md.ai2,x.length=1/\x.all IV.leaf=true:=fun x hx=>by
 obtain ⟨n,_,rfl⟩:=List.mem_map.1 hx; exact ⟨rfl,rfl⟩
theorem gi1 {σ:Store}{v:IV}{l:List Int}(h:Grow σ v 1 (l.map Md.ai2)):cb5 σ 0 v (.aa5 (l.map Md.ai2)):=
 h.frz (fun x hx=>(if4 l x hx).1) (fun _ _=>Nat.not_lt_zero _) fun e he c hc=>by
  obtain ⟨n,_,rfl⟩:=List.mem_map.1 he;exact aj1 (.int _ _) c hc
theorem bt3 (a:ac5)(hA:AOK a){σ:Store}{gv:IV}{st:List Int}(hg:Grow σ gv 1 (st.map Md.ai2))(hs:st.length<2^30)(x:Itm) :
  C Tryz.prog EE 12 [a.mv,gv,.agg x.cs] σ (ii6 (.bool (a.holds st x)) σ):=
 cj7 (args':=[a.mv,.aa5 (st.map Md.ai2),.agg x.cs]) hE rfl (fun i hi=>by
  match i,hi with
  | 0,_=>exact .keep _ (as7 a)
  | 1,_=>exact gi1 hg
  | 2,_=>exact .keep _ (bh2 x)) (by simp[IV.plain]) (bo2 a hA st hs x)
set_option maxHeartbeats 1000000
theorem dt5 (repos:List am1)(inst:List aa3)(r:Req)(st mo:List Int)(hI:gz4 repos inst)(hR:du2 r)(hs:st.length<2^30)(hm:mo.length<2^30) :
  PC Tryz.prog EE 4 [as8 repos,az7 inst,.agg r.cs,.aa5 (st.map Md.ai2),.aa5 (mo.map Md.ai2)] (.bool true):=by
 refine af3 hE fok4 (nZ rfl) (hz4 (bo6 repos) (aw4 inst) (.agg _ (bc7 r)) (ah5 st) (ah5 mo)) ?_;have hW:=gc7 repos inst r 40 (by have:=hI.r1; omega) (by have:=hI.i1; omega) (by decide) hI.ro hI.po;have hM:=eb5 repos inst r hI hR;have hi1:=hI.i1;have wsum:IntKind.i64.wrap ((st.length:Int)+mo.length)=((st.length+mo.length:Nat):Int):=by rw[wrap64 (by omega) (by omega)]; omega
 have hawake:∀ {b:Bool},b=true->cb5 (⟨0,emp.obj⟩:Store) 0 (.bool b) (.bool true):=fun h=>ab2 h
 simp only[ic4,go_sem,ah2,ev8,bj9]
 first|refine aa4 fok8 (hW) ?_|refine aa2 (hW) ?_
 cases hwd:bo3 repos inst r 40 with
 | true=>
  simp only[go_sem]
  first|refine aa4 fok9 (bb1) ?_|refine aa2 (bb1) ?_
  simp only[go_sem]
  exact ab2 rfl
 | false=>
 by_cases hbig:200<st.length+mo.length
 ·have c1:(200:Int)<((st.length+mo.length:Nat):Int):=by omega
  simp only[go_sem,wsum,c1]
  first|refine aa4 fok9 (bb1) ?_|refine aa2 (bb1) ?_
  simp only[go_sem];exact ab2 rfl
 have c1:¬ (200:Int)<((st.length+mo.length:Nat):Int):=by omega
 simp only[go_sem,wsum,c1]
 first|refine aa4 fok9 (bb1) ?_|refine aa2 (bb1) ?_
 simp only[go_sem,ev8,bj9,ah2]
 first|refine aa4 fok10 (hM) ?_|refine aa2 (hM) ?_
 rcases gz3 hI hR with h0|⟨p,hn,hA,hIt,hin,h0⟩
 ·rw[h0];simp only[fm3,go_sem];exact ab2 rfl
 ·rw [h0];obtain ⟨a,ha⟩:∃ a,a=ac5.mk p r:=⟨_,rfl⟩;rw[<- ha] at hA hIt ⊢;simp only[go_sem];have hg0:ax6 (({ next:=3,obj:=emp.obj }:Store).put 0 (ak5.row [])) 0 (.slice 0 0 0 1) []:=.inr ⟨0,Nat.le_refl _,by show 0<3; decide,rfl,by simp only[aa7,if_true]; rfl⟩;obtain ⟨v1,σ1,h1,h2,h3,h4⟩:=do8 (nid:=1) (xs:=mo) hg0 (by simp only[List.length_nil]; omega);simp only[go_sem,h1];have hg1:=h4 σ1 rfl (by rw[h2]; show 1<3; decide) (by omega) (by omega);rw[List.nil_append] at hg1;obtain ⟨v2,σ2,k1,k2,k3,k4⟩:=do8 (nid:=2) (xs:=st) hg1 (by omega);simp only[go_sem,k1];have hg2:=(k4 σ2 rfl (by rw[k2,h2]; show 2<3; decide) (by omega) (by omega)).gr;have hItm:=eb2 a (by omega)
  first|refine aa4 fok11 (hItm) ?_|refine aa2 (hItm) ?_
  simp only[go_sem];have hal:(mo++st).length<2^30:=by rw[List.length_append]; omega
  have hsub:∀ n∈st,n∈mo++st:=fun n h=>List.mem_append_right _ h
  have hSt:=fun x=>bo2 a hA st hs x
  refine ab7 noT (fun i fr s=>fr=[(3,.aa5 (st.map Md.ai2)),(11,a.mv),(16,v2),(17,al1 a.items),(18,.int .i64 (i:Int))]/\Grow s v2 1 ((mo++st).map Md.ai2)) a.items.length ⟨rfl,hg2.mono (by first|exact Nat.le_refl _|(show σ2.next<=_; omega)) fun _ _ _=>rfl⟩ ?_;rintro i fr s hi ⟨rfl,hg⟩;by_cases hlt:i<a.items.length
  ·have d1:(i:Int)<a.items.length:=by omega
   have d2:(0:Int)<=(i:Int):=by omega
   have w1:=ae1 (i:=i) (by omega);obtain ⟨x,hx,hget⟩:∃ x,x∈a.items/\(a.items.map Itm.cs).getD i []=x.cs:=⟨a.items[i],List.getElem_mem hlt,gh9 _ hlt⟩;have hSx:=hSt x;have hgu:∀ n,Grow (⟨s.next+n,s.obj⟩:Store) v2 1 ((mo++st).map Md.ai2):=fun n=>Grow.mono hg (by show s.next<=s.next+n; omega) fun _ _ _=>rfl
   by_cases k1:x.kind=1
   ·simp only[go_sem,ah3,al1,d1,d2,hget,ad6,ap7,az1,ac9,ac8,am9,ah9,Int.reduceEq,k1];refine ag2 fok12 (bt3 (st:=mo++st) a hA hg hal x) ?_;rintro v u ⟨rfl,rfl⟩;refine ⟨Nat.le_refl _,?_⟩
    cases hh:a.holds (mo++st) x with
    | false=>
     simp only[hh,go_sem,ah3,al1,d1,d2,hget,ad6,ap7,az1,ac9,ac8,am9,ah9,Int.reduceEq,k1,w1]
     exact ⟨hlt,hg⟩
    | true=>
     rw[a.holds_of hx] at hh hSx;rw[a.ck4 hsub (by omega) hh] at hSx;rw[<- a.holds_of hx] at hh;simp only[hh,go_sem,ah3,al1,d1,d2,hget,ad6,ap7,az1,ac9,ac8,am9,ah9,Int.reduceEq,k1]
     first|refine aa4 fok12 (hSx) ?_|refine aa2 (hSx) ?_
     simp only[go_sem,ah3,al1,d1,d2,hget,ad6,ap7,az1,ac9,ac8,am9,ah9,Int.reduceEq,k1,w1];exact ⟨hlt,hg⟩
   by_cases k4:x.kind=4
   ·simp only[go_sem,ah3,al1,d1,d2,hget,ad6,ap7,az1,ac9,ac8,am9,ah9,Int.reduceEq,k4];refine ag2 fok12 (bt3 (st:=mo++st) a hA hg hal x) ?_;rintro v u ⟨rfl,rfl⟩;refine ⟨Nat.le_refl _,?_⟩
    cases hh:a.holds (mo++st) x with
    | false=>
     simp only[hh,go_sem,ah3,al1,d1,d2,hget,ad6,ap7,az1,ac9,ac8,am9,ah9,Int.reduceEq,k4,w1]
     exact ⟨hlt,hg⟩
    | true=>
     rw[a.holds_of hx] at hh hSx;rw[a.ck4 hsub (by omega) hh] at hSx;rw[<- a.holds_of hx] at hh;simp only[hh,go_sem,ah3,al1,d1,d2,hget,ad6,ap7,az1,ac9,ac8,am9,ah9,Int.reduceEq,k4]
     first|refine aa4 fok12 (hSx) ?_|refine aa2 (hSx) ?_
     simp only[go_sem,ah3,al1,d1,d2,hget,ad6,ap7,az1,ac9,ac8,am9,ah9,Int.reduceEq,k4,w1];exact ⟨hlt,hg⟩
   by_cases k5:x.kind=5
   ·simp only[go_sem,ah3,al1,d1,d2,hget,ad6,ap7,az1,ac9,ac8,am9,ah9,Int.reduceEq,k5];refine ag2 fok12 (bt3 (st:=mo++st) a hA hg hal x) ?_;rintro v u ⟨rfl,rfl⟩;refine ⟨Nat.le_refl _,?_⟩
    cases hh:a.holds (mo++st) x with
    | false=>
     simp only[hh,go_sem,ah3,al1,d1,d2,hget,ad6,ap7,az1,ac9,ac8,am9,ah9,Int.reduceEq,k5,w1]
     exact ⟨hlt,hg⟩
    | true=>
     rw[a.holds_of hx] at hh hSx;rw[a.ck4 hsub (by omega) hh] at hSx;rw[<- a.holds_of hx] at hh;simp only[hh,go_sem,ah3,al1,d1,d2,hget,ad6,ap7,az1,ac9,ac8,am9,ah9,Int.reduceEq,k5]
     first|refine aa4 fok12 (hSx) ?_|refine aa2 (hSx) ?_
     simp only[go_sem,ah3,al1,d1,d2,hget,ad6,ap7,az1,ac9,ac8,am9,ah9,Int.reduceEq,k5,w1];exact ⟨hlt,hg⟩
   by_cases k6:x.kind=6
   ·simp only[go_sem,ah3,al1,d1,d2,hget,ad6,ap7,az1,ac9,ac8,am9,ah9,Int.reduceEq,k6]
    cases hh:a.holds st x with
    | false=>
     rw[hh] at hSx
     first|refine aa4 fok12 (hSx) ?_|refine aa2 (hSx) ?_
     simp only[go_sem,ah3,al1,d1,d2,hget,ad6,ap7,az1,ac9,ac8,am9,ah9,Int.reduceEq,k6,w1]
     exact ⟨hlt,hg⟩
    | true=>
     rw[hh] at hSx;rw[a.holds_of hx] at hh;have hh2:=a.fk5 hsub k6 hh;rw[<- a.holds_of hx] at hh2
     first|refine aa4 fok12 (hSx) ?_|refine aa2 (hSx) ?_
     simp only[go_sem,ah3,al1,d1,d2,hget,ad6,ap7,az1,ac9,ac8,am9,ah9,Int.reduceEq,k6];refine ag2 fok12 (bt3 (st:=mo++st) a hA hg hal x) ?_;rintro v u ⟨rfl,rfl⟩;refine ⟨Nat.le_refl _,?_⟩;simp only[hh2,go_sem,ah3,al1,d1,d2,hget,ad6,ap7,az1,ac9,ac8,am9,ah9,Int.reduceEq,k6,w1];exact ⟨hlt,hg⟩
   ·simp only[go_sem,ah3,al1,d1,d2,hget,ad6,ap7,az1,ac9,ac8,am9,ah9,Int.reduceEq,k1,k4,k5,k6,w1];exact ⟨hlt,hg⟩
  ·have d1:¬ (i:Int)<a.items.length:=by omega
   simp only[go_sem,ah3,d1];exact ab2 rfl
open Go Go.Id Go.Proofs Go.Id.Md
end Go.Id.Tryz
set_option linter.all false
namespace Go.Id.Tryz
open Go Go.Id Go.Proofs Go.Id.Md
set_option maxRecDepth 100000
variable {H:Type} {enc:TypeId×Value->H} {w:World} {base:Nat} {sp:Nat->Bool} {held:Bool}
abbrev Rd (enc:TypeId×Value->H)(w:World)(base:Nat)(sp:Nat->Bool)(held:Bool):=Rdg enc Tryz.prog w base sp held
theorem ge6 {n:Nat}{d:DataW H}(h:Rd enc w base sp held n 41 d)(hw:WT Tryz.prog 41 d):∃ e:EVR,e.fit/\∀ m,n<=m->dv Tryz.prog m 41 d=some e.cs:=by
 obtain ⟨n',ds,rfl,rfl,hl,hf⟩:=av9 Tryz.underlying41 h hw
 match ds,hl with
 | [d0,d1,d2],_=>
  obtain ⟨r0,w0⟩:=hf 0 _ d0 rfl rfl;obtain ⟨r1,w1⟩:=hf 1 _ d1 rfl rfl;obtain ⟨r2,w2⟩:=hf 2 _ d2 rfl rfl;obtain ⟨z,_,_,e0⟩:=bk4 Tryz.underlying3 r0;obtain ⟨s1,l1,e1⟩:=cu5 Tryz.underlying9 r1 w1;obtain ⟨s2,l2,e2⟩:=cu5 Tryz.underlying9 r2 w2;refine ⟨⟨z,s1,s2⟩,⟨l1,l2⟩,fun m hm=>?_⟩
  cases m with
  | zero=>omega
  | succ m=>
   have c3:Tryz.prog.cellsOf 3=1:=by kernel_rfl
   have c9:Tryz.prog.cellsOf 9=1:=by kernel_rfl
   have ct:Tryz.prog.cellsOf 41=3:=by kernel_rfl
   simp only[dv,Tryz.underlying41,List.map_cons,List.map_nil,dvF,e0 m (by omega),e1 m (by omega),e2 m (by omega),List.length_cons,List.length_nil,c3,c9,ct,List.cons_append,List.nil_append,List.append_nil,Nat.reduceAdd,↓reduceIte];rfl
theorem iu4 {z:Int}(h:(Lit.int .u8 z).wf=true):0<=z/\z<256:=by
 simp only[Lit.wf,Bool.and_eq_true,decide_eq_true_eq] at h;have e1:IntKind.u8.min=0:=rfl;have e2:IntKind.u8.max=255:=rfl;omega
theorem gx4:Tryz.prog.cellsOf 3=1:=by kernel_rfl
theorem ie4:Tryz.prog.cellsOf 5=1:=by kernel_rfl
theorem gx5:Tryz.prog.cellsOf 9=1:=by kernel_rfl
theorem ie5:Tryz.prog.cellsOf 41=3:=by kernel_rfl
theorem ge7:Tryz.prog.cellsOf 43=5:=by kernel_rfl
theorem ge8:Tryz.prog.cellsOf 80=7:=by kernel_rfl
theorem iu5:Tryz.prog.cellsOf 75=15:=by kernel_rfl
theorem hm3:Tryz.prog.cellsOf 77=2:=by kernel_rfl
theorem iu6:Tryz.prog.cellsOf 71=1:=by kernel_rfl
theorem eu9:Tryz.prog.cellsOf 72=1:=by kernel_rfl
theorem iu7:Tryz.prog.cellsOf 73=1:=by kernel_rfl
theorem iu8:Tryz.prog.cellsOf 23=1:=by kernel_rfl
theorem hm4 {n:Nat}{d:DataW H}(h:Rd enc w base sp held n 43 d)(hw:WT Tryz.prog 43 d):∃ e:Dep,e.fit/\∀ m,n<=m->dv Tryz.prog m 43 d=some e.cs:=by
 obtain ⟨n',ds,rfl,rfl,hl,hf⟩:=av9 Tryz.underlying43 h hw
 match ds,hl with
 | [d0,d1,d2],_=>
  obtain ⟨r0,w0⟩:=hf 0 _ d0 rfl rfl;obtain ⟨r1,w1⟩:=hf 1 _ d1 rfl rfl;obtain ⟨r2,w2⟩:=hf 2 _ d2 rfl rfl;obtain ⟨s0,l0,e0⟩:=cu5 Tryz.underlying9 r0 w0;obtain ⟨z,_,_,e1⟩:=bk4 Tryz.underlying5 r1;obtain ⟨e,l2,e2⟩:=ge6 r2 w2;refine ⟨⟨s0,z,e⟩,⟨l0,l2⟩,fun m hm=>?_⟩
  cases m with
  | zero=>omega
  | succ m=>
   simp only[dv,Tryz.underlying43,List.map_cons,List.map_nil,dvF,e0 m (by omega),e1 m (by omega),e2 m (by omega),EVR.cs,List.length_cons,List.length_nil,gx5,ie4,ie5,ge7,List.cons_append,List.nil_append,List.append_nil,Nat.reduceAdd,↓reduceIte];rfl
theorem ie6:∀ (n:Nat) (d:DataW H),Rd enc w base sp held n 80 d->WT Tryz.prog 80 d->∃ r:aa8,r.ok/\∀ m,n<=m->dv Tryz.prog m 80 d=some r.cs:=by
 intro n
 induction n using Nat.strongRecOn with
 | ind n ih=>
  intro d h hw;obtain ⟨n',ds,rfl,rfl,hl,hf⟩:=av9 Tryz.underlying80 h hw
  match ds,hl with
  | [d0,d1,d2],_=>
   obtain ⟨r0,w0⟩:=hf 0 _ d0 rfl rfl;obtain ⟨r1,w1⟩:=hf 1 _ d1 rfl rfl;obtain ⟨r2,w2⟩:=hf 2 _ d2 rfl rfl;obtain ⟨z,_,hz,e0⟩:=bk4 Tryz.underlying5 r0;obtain ⟨e,l1,e1⟩:=hm4 r1 w1;obtain ⟨l,k1,k2,e2⟩:=ba3 aa8.cs aa8.ok Tryz.underlying72 ge8 (by decide) (by decide +kernel) (fun r=>by rw[aa8.an8]; rfl) (fun m d' hm hr hw'=>ih m (by omega) d' hr hw') r2 w2;have hz':=iu4 hz;refine ⟨.mk z e l,aa8.fl7.2 ⟨hz'.1,hz'.2,l1,k1,k2⟩,fun m hm=>?_⟩
   cases m with
   | zero=>omega
   | succ m=>
    simp only[dv,Tryz.underlying80,List.map_cons,List.map_nil,dvF,e0 m (by omega),e1 m (by omega),e2 m (by omega),Dep.cs,List.length_cons,List.length_nil,eu9,ie4,ge7,ge8,List.cons_append,List.nil_append,List.append_nil,Nat.reduceAdd,↓reduceIte];rw[aa8.an8];rfl
theorem ge9 {n:Nat}{d:DataW H}(h:Rd enc w base sp held n 71 d)(hw:WT Tryz.prog 71 d):∃ l:List Dep,l.length<2^62/\(∀ a∈l,a.fit)/\∀ m,n<=m->dv Tryz.prog m 71 d=some [deps l]:=
 ba3 Dep.cs Dep.fit Tryz.underlying71 ge7 (by decide) (by decide +kernel) (fun _=>rfl) (fun _ _ _ hr hw'=>hm4 hr hw') h hw
theorem bh5 {n:Nat}{d:DataW H}(h:Rd enc w base sp held n 72 d)(hw:WT Tryz.prog 72 d):∃ l:List aa8,l.length<2^62/\(∀ a∈l,a.ok)/\∀ m,n<=m->dv Tryz.prog m 72 d=some [ai8 l]:=
 ba3 aa8.cs aa8.ok Tryz.underlying72 ge8 (by decide) (by decide +kernel) (fun r=>by rw[aa8.an8]; rfl) (fun m d' _ hr hw'=>ie6 m d' hr hw') h hw
theorem ie7 {n:Nat}{d:DataW H}(h:Rd enc w base sp held n 73 d)(hw:WT Tryz.prog 73 d):∃ l:List Str,l.length<2^62/\(∀ a∈l,a.length<2^62)/\∀ m,n<=m->dv Tryz.prog m 73 d=some [strs l]:=
 ba3 bh9 (fun s:Str=>s.length<2^62) Tryz.underlying73 gx5 (by decide) (by decide +kernel) (fun _=>rfl) (fun _ _ _ hr hw'=>cu5 Tryz.underlying9 hr hw') h hw
theorem iu9 {n:Nat}{d:DataW H}(h:Rd enc w base sp held n 75 d)(hw:WT Tryz.prog 75 d):∃ p:aa3,p.Ok/\∀ m,n<=m->dv Tryz.prog m 75 d=some p.cs:=by
 obtain ⟨n',ds,rfl,rfl,hl,hf⟩:=av9 Tryz.underlying75 h hw
 match ds,hl with
 | [d0,d1,d2,d3,d4,d5,d6,d7,d8,d9,d10,d11,d12],_=>
  obtain ⟨r0,w0⟩:=hf 0 _ d0 rfl rfl;obtain ⟨r1,w1⟩:=hf 1 _ d1 rfl rfl;obtain ⟨r2,w2⟩:=hf 2 _ d2 rfl rfl;obtain ⟨r3,w3⟩:=hf 3 _ d3 rfl rfl;obtain ⟨r4,w4⟩:=hf 4 _ d4 rfl rfl;obtain ⟨r5,w5⟩:=hf 5 _ d5 rfl rfl;obtain ⟨r6,w6⟩:=hf 6 _ d6 rfl rfl;obtain ⟨r7,w7⟩:=hf 7 _ d7 rfl rfl;obtain ⟨r8,w8⟩:=hf 8 _ d8 rfl rfl;obtain ⟨r9,w9⟩:=hf 9 _ d9 rfl rfl;obtain ⟨r10,w10⟩:=hf 10 _ d10 rfl rfl;obtain ⟨r11,w11⟩:=hf 11 _ d11 rfl rfl;obtain ⟨r12,w12⟩:=hf 12 _ d12 rfl rfl;obtain ⟨x0,l0,e0⟩:=cu5 Tryz.underlying9 r0 w0;obtain ⟨x1,l1,e1⟩:=ge6 r1 w1;obtain ⟨x2,_,_,e2⟩:=bk4 Tryz.underlying5 r2;obtain ⟨x3,l3,e3⟩:=cu5 Tryz.underlying9 r3 w3;obtain ⟨x4,l4,k4,e4⟩:=ge9 r4 w4;obtain ⟨x5,l5,k5,e5⟩:=bh5 r5 w5;obtain ⟨x6,l6,k6,e6⟩:=bh5 r6 w6;obtain ⟨x7,l7,k7,e7⟩:=ge9 r7 w7;obtain ⟨x8,l8,k8,e8⟩:=bh5 r8 w8;obtain ⟨x9,l9,k9,e9⟩:=bh5 r9 w9;obtain ⟨x10,l10,k10,e10⟩:=bh5 r10 w10;obtain ⟨x11,l11,k11,e11⟩:=bh5 r11 w11;obtain ⟨x12,l12,k12,e12⟩:=ie7 r12 w12;refine ⟨⟨x0,x1,x2,x3,x4,x5,x6,x7,x8,x9,x10,x11,x12⟩,⟨l0,l3,l1,⟨l4,k4⟩,⟨l7,k7⟩,⟨l12,k12⟩,?_⟩,fun m hm=>?_⟩
  ·intro x hx;simp only[aa3.rows,List.mem_cons,List.not_mem_nil,or_false] at hx;rcases hx with rfl|rfl|rfl|rfl|rfl|rfl
   ·exact ⟨l5,k5⟩
   ·exact ⟨l6,k6⟩
   ·exact ⟨l8,k8⟩
   ·exact ⟨l9,k9⟩
   ·exact ⟨l10,k10⟩
   ·exact ⟨l11,k11⟩
  cases m with
  | zero=>omega
  | succ m=>
   simp only[dv,Tryz.underlying75,List.map_cons,List.map_nil,dvF,e0 m (by omega),e1 m (by omega),e2 m (by omega),e3 m (by omega),e4 m (by omega),e5 m (by omega),e6 m (by omega),e7 m (by omega),e8 m (by omega),e9 m (by omega),e10 m (by omega),e11 m (by omega),e12 m (by omega),EVR.cs,List.length_cons,List.length_nil,gx5,ie4,ie5,iu6,eu9,iu7,iu5,List.cons_append,List.nil_append,List.append_nil,Nat.reduceAdd,↓reduceIte];rfl
theorem gf1 {n:Nat}{d:DataW H}(h:Rd enc w base sp held n 23 d)(hw:WT Tryz.prog 23 d):∃ l:List aa3,l.length<2^62/\(∀ a∈l,a.Ok)/\∀ m,n<=m->dv Tryz.prog m 23 d=some [.aa5 (l.map aa3.cs)]:=
 ba3 aa3.cs aa3.Ok Tryz.underlying23 iu5 (by decide) (by decide +kernel) (fun _=>rfl) (fun _ _ _ hr hw'=>iu9 hr hw') h hw
theorem ie8 {n:Nat}{d:DataW H}(h:Rd enc w base sp held n 77 d)(hw:WT Tryz.prog 77 d):∃ r:am1,am1.Ok r/\∀ m,n<=m->dv Tryz.prog m 77 d=some r.cs:=by
 obtain ⟨n',ds,rfl,rfl,hl,hf⟩:=av9 Tryz.underlying77 h hw
 match ds,hl with
 | [d0,d1],_=>
  obtain ⟨r0,w0⟩:=hf 0 _ d0 rfl rfl;obtain ⟨r1,w1⟩:=hf 1 _ d1 rfl rfl;obtain ⟨z,_,_,e0⟩:=bk4 Tryz.underlying3 r0;obtain ⟨l,k1,k2,e1⟩:=gf1 r1 w1;refine ⟨⟨z,l⟩,⟨k1,k2⟩,fun m hm=>?_⟩
  cases m with
  | zero=>omega
  | succ m=>
   simp only[dv,Tryz.underlying77,List.map_cons,List.map_nil,dvF,e0 m (by omega),e1 m (by omega),List.length_cons,List.length_nil,gx4,iu8,hm3,List.cons_append,List.nil_append,List.append_nil,Nat.reduceAdd,↓reduceIte];rfl
theorem gx6 {n:Nat}{d:DataW H}(h:Rd enc w base sp held n 22 d)(hw:WT Tryz.prog 22 d):∃ l:List am1,l.length<2^62/\(∀ a∈l,am1.Ok a)/\∀ m,n<=m->dv Tryz.prog m 22 d=some [.aa5 (l.map am1.cs)]:=
 ba3 am1.cs am1.Ok Tryz.underlying22 hm3 (by decide) (by decide +kernel) (fun _=>rfl) (fun _ _ _ hr hw'=>ie8 hr hw') h hw
end Go.Id.Tryz
set_option linter.all false
namespace Go.Id
open Go Go.Id
mutual
def isz:IV->Nat
 | .str s=>s.length+1
 | .aa5 es=>cn6 es+1
 | _=>1
def bc9:List IV->Nat
 | []=>0
 | c::cs=>isz c+bc9 cs
def cn6:List (List IV)->Nat
 | []=>0
 | e::es=>bc9 e+cn6 es
end
theorem eo2 (a b:List IV):bc9 (a++b)=bc9 a+bc9 b:=by
 induction a with
 | nil=>simp[bc9]
 | cons x a ih=>simp only[List.cons_append,bc9,ih]; omega
theorem bt4 {α:Type}(f:α->List IV):∀ (l:List α),∀ a∈l,bc9 (f a)<=cn6 (l.map f):=by
 intro l
 induction l with
 | nil=>intro a h; cases h
 | cons x l ih=>
  intro a h;simp only[List.map_cons,cn6];rcases List.mem_cons.1 h with rfl|h
  ·omega
  ·have:=ih a h; omega
theorem at5 {α:Type}(f:α->List IV)(hf:∀ a,1<=bc9 (f a)):∀ (l:List α),l.length<=cn6 (l.map f):=by
 intro l
 induction l with
 | nil=>simp
 | cons x l ih=>
  simp only[List.map_cons,cn6,List.length_cons];have:=hf x;omega
namespace Md
theorem Dep.szs (d:Dep):bc9 d.cs=d.name.length+d.evr.ver.length+d.evr.rel.length+5:=by
 simp only[Dep.cs,bc9,isz]; omega
theorem aa8.szs (r:aa8):bc9 r.cs=r.dep.name.length+r.dep.evr.ver.length+r.dep.evr.rel.length+cn6 (r.args.map aa8.cs)+7:=by
 rw[aa8.an8]; simp only[bc9,isz]; omega
theorem aa3.szs (p:aa3):bc9 p.cs=p.name.length+p.evr.ver.length+p.evr.rel.length+p.vendor.length+cn6 (p.provides.map Dep.cs)+cn6 (p.requires.map aa8.cs)+cn6 (p.conflicts.map aa8.cs)+cn6 (p.aa9.map Dep.cs)+cn6 (p.ac3.map aa8.cs)+cn6 (p.ac1.map aa8.cs)+cn6 (p.suggests.map aa8.cs)+cn6 (p.ad8.map aa8.cs)+cn6 (p.files.map bh9)+15:=by
 simp only[aa3.cs,bc9,isz]; omega
theorem am1.szs (r:am1):bc9 r.cs=cn6 (r.packages.map aa3.cs)+2:=by
 simp only[am1.cs,bc9,isz]; omega
theorem fp4 (r:aa8):r.count<=bc9 r.cs:=by
 induction r using aa8.ind with
 | h k d xs ih=>
  rw[aa8.szs]
  have:∀ ys:List aa8,(∀ y∈ys,y∈xs)->aa8.counts ys<=cn6 (ys.map aa8.cs):=by
   intro ys
   induction ys with
   | nil=>intro _; simp[aa8.counts]
   | cons y ys ih2=>
    intro h;have h1:=ih y (h y (List.mem_cons_self ..));have h2:=ih2 fun z hz=>h z (List.mem_cons_of_mem _ hz)
    simp only[aa8.counts,List.map_cons,cn6];omega
  have:=this xs fun y h=>h
  simp only[aa8.count,aa8.args];omega
theorem hd9 (r:aa8):r.ok->bc9 r.cs<2^31->r.fit:=by
 induction r using aa8.ind with
 | h k d xs ih=>
  intro ho hs;obtain ⟨a,b,c,e,f⟩:=aa8.fl7.1 ho;rw[aa8.szs] at hs;simp only[aa8.args] at hs;have hl:=at5 aa8.cs (fun r=>by rw[aa8.szs]; omega) xs;refine aa8.bk5.2 ⟨a,b,c,by omega,fun r hr=>ih r hr (f r hr) ?_⟩;have:=bt4 aa8.cs xs r hr;omega
theorem gk6 {p:aa3}(h:p.Ok)(hs:bc9 p.cs<2^31):p.Fit:=by
 rw[aa3.szs] at hs;have l1:=at5 Dep.cs (fun r=>by rw[Dep.szs]; omega) p.provides;have l2:=at5 Dep.cs (fun r=>by rw[Dep.szs]; omega) p.aa9;have l3:=at5 bh9 (fun r=>by simp only[bh9,bc9,isz]; omega) p.files
 have hr:∀ x∈p.rows,cn6 (x.2.map aa8.cs)<2^31:=by
  intro x hx;simp only[aa3.rows,List.mem_cons,List.not_mem_nil,or_false] at hx;rcases hx with rfl|rfl|rfl|rfl|rfl|rfl<;>simp only[]<;>omega
 exact {
  name:=h.name
  evr:=h.evr
  aw2:=⟨by omega,h.aw2.2⟩
  obs:=⟨by omega,h.obs.2⟩
  files:=⟨by omega,h.files.2⟩
  rich:=fun x hx=>by
   have h1:=hr x hx;have h2:=at5 aa8.cs (fun r=>by rw[aa8.szs]; omega) x.2;refine ⟨by omega,fun r hr'=>?_⟩;have h3:=bt4 aa8.cs x.2 r hr';have h4:=fp4 r;exact ⟨hd9 r ((h.rich x hx).2 r hr') (by omega),by omega⟩ }
theorem gk7 (repos:List am1):ak9 repos<=cn6 (repos.map am1.cs):=by
 induction repos with
 | nil=>simp[ak9]
 | cons r rs ih=>
  have h2:=at5 aa3.cs (fun r=>by rw[aa3.szs]; omega) r.packages;have h3:=am1.szs r;simp only[ak9,List.map_cons,List.sum_cons,cn6] at ih ⊢;omega
end Md
end Go.Id
