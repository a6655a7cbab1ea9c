/- What a state must hold to: all of it,listed,walked. Conditions: sizes that fit. -/
import Derived.Test.YtiplpeflonpcmaaGreatDoorTZMG
import Derived.Test.YtiplpeflonpcmaaGreatDoorGZR
import Derived.Test.YtiplpeflonpcmaaGreatDoorMv
import Derived.Test.YtiplpeflonpcmaaGreatDoorTZYE
import Derived.Test.YtiplpeflonpcmaaGreatDoorTZPE
import Derived.Test.YtiplpeflonpcmaaGreatDoorMsb
open List renaming length_map→za,length_append→zd,getD_eq_getElem?_getD→ze,mem_append→zf,take_length→zh,append_assoc→zi,mem_cons→zj,map_append→zl,mem_map→zm,length_take→zn,mem_singleton→zp,append_nil→zq,not_mem_nil→zt,getElem?_eq_getElem→zu,drop_length→zw,length_singleton→zx,flatMap_cons→zy,length_cons→z0,length_nil→z1,mem_of_mem_take→z5,flatMap_append→z6,take_add_one→z9
open Nat renaming le_refl→zb,lt_succ_self→zk,le_add_right→zo,not_lt_zero→zr,le_trans→zz,lt_of_lt_of_le→z8
open Int renaming toNat_natCast→zc,eq_ofNat_of_zero_le→z4,cast_ofNat_Int→qa
open Option renaming some→zg
open Bool renaming true_and→zv,false_and→z2,or_false→z3
open UInt8 renaming ofNat_toNat→z7
set_option linter.all false
set_option maxRecDepth 100000
set_option maxHeartbeats 1000000
private theorem om{P:Prop}(h:P:=by omega):P:=h
namespace Go.Id.Tryz
open Go Go.Id Go.Proofs Go.Shelf Go.Id.Md
theorem jc8.refl (pp:Nat)(σ:Store):jc8 pp σ σ:=⟨zb _,fun _ _ _ _ h=>h⟩
theorem jc8.trans {pp:Nat}{a b c:Store}(h1:jc8 pp a b)(h2:jc8 pp b c):jc8 pp a c:=⟨zz h1.1 h2.1,fun i cs hi hp ho=>h2.2 i cs (z8 hi h1.1) hp (h1.2 i cs hi hp ho)⟩
theorem jt4 (a:ab7){i:Nat}(h:i<a.l.length):((a.l.map aa2.cs).flatten.drop (i*15)).take 15=(a.pk i).cs/\15<=((a.l.map aa2.cs).flatten.drop (i*15)).length:=by
 have hl:∀ e∈a.l.map aa2.cs,e.length=15:=fun e he=>(ax2 _ e he).1
 have h1:=aw3 hl i (by rw[za]; exact h);have h2:=at6 hl;refine ⟨by rw[h1]; exact ig1 a h,?_⟩;rw[List.length_drop,h2,za]; omega
theorem jt5 (a:ab7) (hA:AOK a) (hI:0<=a.p.inst) (σ:Store) (pp mid:Nat) (tv allv itv:IV) (h:MO σ pp mid a.v tv allv itv a.l []) (hIt:a.items.length<2^30) :
  C Tryz.prog EE 82 [.ptr pp 0] σ (fun v s=>σ.next<=s.next/\∃ itv',MO s pp mid a.v tv allv itv' a.l a.items):=by
 refine hy8 fok82 (nZ rfl) ?_;have hlen:=hA.len;have vcs:a.v.cs=[a.v]:=rfl;have vlf:a.v.leaf=true:=rfl;simp only[ic82,go_sem]
 have hlen0:cc5 0 σ allv=zg (.int .i64 a.l.length):=by
  have:=bx8 (s':=σ) h.all;rw[za] at this; exact this
 have hc:=h.cell;refine ae1 (ae1 (ag9 ?_));simp only[go_sem,hc,hlen0];have x1:∀ (p k:Int) (q:Int),(⟨k,p,q⟩:Itm).cs=[.int .u8 k,.int .i64 p,.int .i64 q]:=fun _ _ _=>rfl
 refine at7 (ba6 (Q:=fun e f s=>e=.exit 0/\σ.next<=s.next/\(∃ itv,MO s pp mid a.v tv allv itv a.l (a.owns a.l.length))/\∃ rst:Frm,f=(0,.ptr pp 0)::rst)
  (dy9 (fun p fr s=>fr=[(0,.ptr pp 0),(14,allv),(15,.int .i64 a.l.length),(16,.int .i64 (p:Int))]/\σ.next<=s.next/\∃ itv,MO s pp mid a.v tv allv itv a.l (a.owns p)) a.l.length ⟨rfl,zb _,itv,h⟩ ?_) ?_)
 ·clear h hc hlen0 itv;rintro p fr t hp ⟨rfl,hn,itv,hM⟩;refine ae1 (ag9 ?_);by_cases hpl:p<a.l.length
  ·have c1:(p:Int)<a.l.length:=om
   have c2:(0:Int)<=(p:Int):=om
   have w1:=ad1 (i:=p) om;obtain ⟨r1,r2⟩:=jt4 a hpl
   obtain ⟨ga,hga,hgo,hgl⟩:∃ ga,allv=.slice ga 0 a.l.length 15/\t.obj ga=zg (.row (a.l.map aa2.cs).flatten)/\ga<t.next:=by
    rcases hM.all with ⟨_,h1⟩|⟨ga,h1,h2,h3⟩
    ·have:=congrArg List.length h1; rw[za,z1] at this; omega
    ·exact ⟨ga,by rw[h1,za],h2,h3⟩
   subst hga;simp only[go_sem,c1];refine ae1 (ag9 ?_);simp only[go_sem];refine ae1 (at7 (ae1 (ag9 ?_)));simp only[go_sem,c1,c2,hgo,r1,r2,Nat.zero_add,zc,af6,af4,ac9];generalize hT:Store.put _ t.next (aj5.cells (a.pk p).cs)=T;have Tn:T.next=t.next+1:=by rw[<- hT]; rfl
   have To:∀ i,i<t.next->T.obj i=t.obj i:=fun i hi=>by
    have:¬ i=t.next:=om
    rw[<- hT]; simp only[aa5,this,if_false]
   have Tb:T.obj t.next=zg (.cells (a.pk p).cs):=by rw[<- hT]; simp only[aa5,if_true]
   have hMT:=hM.mono (s':=T) om To;have hpt:=hM.lt.1;have hfit:=dw8 a p;have hcT:=hMT.cell
   refine ae1 (ba6 (Q:=fun e f s=>e=.normal/\(∃ rst:Frm,f=(0,.ptr pp 0)::(2,.int .i64 (p:Int))::(3,.ptr t.next 0)::(14,.slice ga 0 a.l.length 15)::(15,.int .i64 a.l.length)::(16,.int .i64 (p:Int))::rst)/\t.next+1<=s.next/\s.obj t.next=zg (.cells (a.pk p).cs) /\
    ∃ itv,MO s pp mid a.v tv (.slice ga 0 a.l.length 15) itv a.l (a.owns p++a.br3 p)) (ag9 ?_) ?_)
   ·simp only[go_sem,hcT,vcs,vlf];refine aa3 fok119 (hfit) ?_
    cases hf:a.fits p with
    | true=>
     have e:a.br3 p=[]:=by unfold ab7.br3; rw[hf]; rfl
     simp only[go_sem]
     exact ⟨⟨_,rfl⟩,om,Tb,itv,by rw[e,zq]; exact hMT⟩
    | false=>
     have e:a.br3 p=[⟨1,p,0⟩]:=by unfold ab7.br3; rw[hf]; rfl
     simp only[go_sem];refine ac5 fok120 (ep6 T pp mid a.v tv _ itv a.l (a.owns p) ⟨1,p,0⟩ hMT (fun hm=>by obtain ⟨_,_,p',hp',e'⟩:=a.df4 hm; simp only at e'; omega) (by have:=a.ic2 hpl; omega)) ?_;rintro v s ⟨⟨s1,s2⟩,itv2,hM2⟩;refine ⟨s1,?_⟩;simp only[go_sem];exact ⟨⟨_,rfl⟩,om,s2 t.next _ om om Tb,itv2,by rw[e]; exact hM2⟩
   clear hMT hcT hT Tn To Tb T hM;rintro e f T ⟨rfl,⟨rst,rfl⟩,Tn,Tb,itv,hM⟩;simp only[go_sem];obtain ⟨K,hK⟩:∃ K,K=[IV.int .u8 2,.int .i64 ((a.pk p).requires.length:Nat),.int .u8 3,.int .i64 ((a.pk p).conflicts.length:Nat),.int .u8 4,.int .i64 ((a.pk p).aa8.length:Nat)]:=⟨_,rfl⟩;have g7:((a.pk p).cs.drop 7).head? = zg (aj6 (a.pk p).requires):=rfl;have g8:((a.pk p).cs.drop 8).head? = zg (aj6 (a.pk p).conflicts):=rfl;have g9:((a.pk p).cs.drop 9).head? = zg (deps (a.pk p).aa8):=rfl;refine ae1 (ag9 ?_);simp only[go_sem,Tb,g7,g8,g9];rw[<- hK]
   have hKj:∀ j,j<3->(K.drop (j*2)).take 2=[.int .u8 ((2+j:Nat):Int),.int .i64 (a.nsI p j)]/\2<=(K.drop (j*2)).length:=fun j hj=>by
    have:j=0\/j=1\/j=2:=om
    rcases this with rfl|rfl|rfl<;>(rw[hK]; exact ⟨rfl,by simp⟩)
   have hKl:K.length=6:=by rw[hK]; rfl
   refine at7 (ba6 (Q:=fun e f s=>e=.exit 2/\σ.next<=s.next/\(∃ itv,MO s pp mid a.v tv (.slice ga 0 a.l.length 15) itv a.l (a.owns p++a.br3 p++a.ed2 p 3))/\∃ rst:Frm,f=(0,.ptr pp 0)::(2,.int .i64 (p:Int))::(14,.slice ga 0 a.l.length 15)::(15,.int .i64 a.l.length)::(16,.int .i64 (p:Int))::rst)
    (dy9 (fun j fr s=>fr=[(0,.ptr pp 0),(2,.int .i64 (p:Int)),(14,.slice ga 0 a.l.length 15),(15,.int .i64 a.l.length),(16,.int .i64 (p:Int)),(43,.agg K),(44,.int .i64 (j:Int))]/\σ.next<=s.next/\∃ itv,MO s pp mid a.v tv (.slice ga 0 a.l.length 15) itv a.l (a.owns p++a.br3 p++a.ed2 p j)) 3 ⟨rfl,om,itv,by simpa [ab7.ed2] using hM⟩ ?_) ?_)
   ·clear hM Tb Tn itv g7 g8 g9 hK;rintro j fr u hj ⟨rfl,un,itv,hM⟩;refine ae1 (ag9 ?_);by_cases hj3:j<3
    ·have d1:(j:Int)<3:=om
     have d2:(0:Int)<=(j:Int):=om
     have w2:=ad1 (i:=j) om;obtain ⟨k1,k2⟩:=hKj j hj3;simp only[go_sem,d1];refine ae1 (ag9 ?_);simp only[go_sem];refine ae1 (at7 (ae1 (ag9 ?_)));simp only[go_sem,d1,d2,k1,k2,hKl];refine ⟨om,?_⟩;generalize hU:Store.put _ u.next (aj5.cells [IV.int .u8 ((2+j:Nat):Int),IV.int .i64 (a.nsI p j)])=U;have Un:U.next=u.next+1:=by rw[<- hU]; rfl
     have Uo:∀ i,i<u.next->U.obj i=u.obj i:=fun i hi=>by
      have:¬ i=u.next:=om
      rw[<- hU]; simp only[aa5,this,if_false]
     have Ub:U.obj u.next=zg (.cells [IV.int .u8 ((2+j:Nat):Int),IV.int .i64 (a.nsI p j)]):=by rw[<- hU]; simp only[aa5,if_true]
     have hMU:=hM.mono (s':=U) om Uo;have hpu:=hM.lt.1
     have hnn:a.nsI p j<2^30:=by
      have:=a.gs6 hpl hj3 (zb (a.nsI p j));rw[zd,ab7.bf9] at this; omega
     refine ae1 (ag9 ?_);simp only[go_sem,Ub]
     refine at7 (ba6 (Q:=fun e f s=>e=.exit 4/\σ.next<=s.next/\(∃ itv,MO s pp mid a.v tv (.slice ga 0 a.l.length 15) itv a.l (a.owns p++a.br3 p++a.ed2 p (j+1)))/\∃ rst:Frm,f=(0,.ptr pp 0)::(2,.int .i64 (p:Int))::(5,.ptr u.next 0)::(14,.slice ga 0 a.l.length 15)::(15,.int .i64 a.l.length)::(16,.int .i64 (p:Int))::(43,.agg K)::(44,.int .i64 (j:Int))::rst)
      (ab3 noT (fun q fr s=>fr=[(0,.ptr pp 0),(2,.int .i64 (p:Int)),(5,.ptr u.next 0),(14,.slice ga 0 a.l.length 15),(15,.int .i64 a.l.length),(16,.int .i64 (p:Int)),(43,.agg K),(44,.int .i64 (j:Int)),(48,.int .i64 (a.nsI p j)),(49,.int .i64 (q:Int))]/\u.next+1<=s.next/\s.obj u.next=zg (.cells [IV.int .u8 ((2+j:Nat):Int),IV.int .i64 (a.nsI p j)]) /\
       ∃ itv,MO s pp mid a.v tv (.slice ga 0 a.l.length 15) itv a.l (a.owns p++a.br3 p++a.ed2 p j++br2 ((2+j:Nat):Int) p q)) (a.nsI p j) ⟨rfl,om,Ub,itv,by simpa [br2] using hMU⟩ ?_) ?_)
     ·clear hM hMU Un Uo Ub hU U itv;rintro q fr U hq ⟨rfl,Un,Ub,itv,hM⟩;by_cases hql:q<a.nsI p j
      ·have e1:(q:Int)<(a.nsI p j:Nat):=om
       have w3:=ad1 (i:=q) om;simp only[go_sem,e1,Ub];refine ac5 fok120 (ep6 U pp mid a.v tv _ itv a.l _ ⟨((2+j:Nat):Int),p,q⟩ hM (fun hm=>?_) ?_) ?_
       ·rcases zf.1 hm with hm|hm
        ·rcases zf.1 hm with hm|hm
         ·rcases zf.1 hm with hm|hm
          ·obtain ⟨_,_,p',hp',e'⟩:=a.df4 hm; simp only at e'; omega
          ·have:=a.ja9 hm; simp only at this; omega
         ·have:=a.jr5 hm; simp only at this; omega
        ·obtain ⟨q',hq',e'⟩:=aw8.1 hm;have:=congrArg Itm.q e';simp only at this; omega
       ·have:=a.gs6 hpl hj3 hq; omega
       rintro v s ⟨⟨s1,s2⟩,itv2,hM2⟩;refine ⟨s1,?_⟩;simp only[go_sem,w3];refine ⟨hql,om,s2 u.next _ om om Ub,itv2,?_⟩;rw[gb3,<- zi]; exact hM2
      ·have e1:¬ (q:Int)<(a.nsI p j:Nat):=om
       have e:q=a.nsI p j:=om
       simp only[go_sem,e1];refine ⟨om,⟨itv,?_⟩,_,rfl⟩;rw[a.as8,<- zi,<- e]; exact hM
     ·rintro e f U ⟨rfl,Un,⟨itv,hM⟩,rst,rfl⟩;simp only[go_sem];refine ag9 ?_;simp only[go_sem,w2];exact ⟨hj3,Un,itv,hM⟩
    ·have d1:¬ (j:Int)<3:=om
     have e:j=3:=om
     subst e;simp only[go_sem,d1];refine ae1 (ag9 ?_);simp only[go_sem];exact ⟨un,⟨itv,hM⟩,_,rfl⟩
   ·rintro e f u ⟨rfl,un,⟨itv,hM⟩,rst,rfl⟩;simp only[go_sem];refine ag9 ?_;simp only[go_sem,w1];refine ⟨hpl,un,itv,?_⟩;rw[a.cf3,a.ir4,<- zi];exact hM
  ·have c1:¬ (p:Int)<a.l.length:=om
   have e:p=a.l.length:=om
   simp only[go_sem,c1];refine ae1 (ag9 ?_);simp only[go_sem];exact ⟨hn,⟨itv,by rw[<- e]; exact hM⟩,_,rfl⟩
 rintro e f t ⟨rfl,hn,⟨itv2,hM⟩,rst,rfl⟩;simp only[go_sem];clear h hc hlen0;have hc:=hM.cell
 have hlen0:∀ s:Store,cc5 0 s allv=zg (.int .i64 a.l.length):=fun s=>by
  have:=bx8 (s':=s) hM.all;rw[za] at this; exact this
 refine ae1 (ae1 (ag9 ?_));simp only[go_sem,hc,hlen0]
 refine at7 (ba6 (Q:=fun e f s=>e=.exit 6/\σ.next<=s.next/\(∃ itv,MO s pp mid a.v tv allv itv a.l (a.owns a.l.length++a.as7 a.l.length))/\∃ rst:Frm,f=(0,.ptr pp 0)::rst)
  (dy9 (fun p fr s=>fr=[(0,.ptr pp 0),(65,.int .i64 a.l.length),(66,.int .i64 (p:Int))]/\σ.next<=s.next/\∃ itv,MO s pp mid a.v tv allv itv a.l (a.owns a.l.length++a.as7 p)) a.l.length ⟨rfl,hn,itv2,by simpa [ab7.as7] using hM⟩ ?_) ?_)
 ·clear hM hc itv2;rintro p fr t hp ⟨rfl,hn,itv,hM⟩;refine ae1 (ag9 ?_);by_cases hpl:p<a.l.length
  ·have c1:(p:Int)<a.l.length:=om
   have w1:=ad1 (i:=p) om;simp only[go_sem,c1];refine ae1 (ag9 ?_);simp only[go_sem];refine ae1 (at7 (ae1 (ag9 ?_)));simp only[go_sem];refine ae1 (ag9 ?_);simp only[go_sem,w1]
   refine at7 (ba6 (Q:=fun e f s=>e=.exit 8/\σ.next<=s.next/\(∃ itv,MO s pp mid a.v tv allv itv a.l (a.owns a.l.length++a.as7 (p+1)))/\∃ rst:Frm,f=(0,.ptr pp 0)::(7,.int .i64 (p:Int))::(8,.int .i64 (a.l.length:Nat))::(65,.int .i64 a.l.length)::(66,.int .i64 (p:Int))::rst)
    (ab3 noT (fun d fr s=>fr=[(0,.ptr pp 0),(7,.int .i64 (p:Int)),(8,.int .i64 ((p+1+d:Nat):Int)),(65,.int .i64 a.l.length),(66,.int .i64 (p:Int))]/\σ.next<=s.next/\∃ itv,MO s pp mid a.v tv allv itv a.l (a.owns a.l.length++a.as7 p++a.cx2 p (p+1+d))) (a.l.length-(p+1)) ⟨rfl,hn,itv,by rw[Nat.add_zero,a.ex6,zq]; exact hM⟩ ?_) ?_)
   ·clear hM itv hn;rintro d fr u hd ⟨rfl,hn,itv,hM⟩;have hcu:=hM.cell;by_cases hdl:p+1+d<a.l.length
    ·have d1:((p+1+d:Nat):Int)<a.l.length:=om
     have w2:=ad1 (i:=p+1+d) om;have hdl2:d<a.l.length-(p+1):=om
     have htw:=fc3 a p ((p+1+d:Nat):Int) hA
     have hsn:a.cx2 p (p+1+(d+1))=a.cx2 p (p+1+d)++if a.twins p ((p+1+d:Nat):Int) then [⟨5,p,((p+1+d:Nat):Int)⟩] else []:=by
      have e:p+1+(d+1)=p+1+d+1:=om
      have l1:p<p+1+d:=om
      rw[e];unfold ab7.cx2;rw[bw8];simp[l1]
     simp only[go_sem,hcu,hlen0,d1,vcs,vlf];refine aa3 fok121 (htw) ?_
     cases ht:a.twins p ((p+1+d:Nat):Int) with
     | false=>
      rw[ht] at hsn;simp only[go_sem,w2];refine ⟨hdl2,by rw[show p+1+(d+1)=p+1+d+1 by omega],hn,itv,?_⟩
      rw[hsn]; simpa using hM
     | true=>
      rw[ht] at hsn;simp only[go_sem];refine ac5 fok120 (ep6 u pp mid a.v tv _ itv a.l _ ⟨5,p,((p+1+d:Nat):Int)⟩ hM (fun hm=>?_) ?_) ?_
      ·rcases zf.1 hm with hm|hm
       ·rcases zf.1 hm with hm|hm
        ·obtain ⟨_,h4,_⟩:=a.df4 hm; simp only at h4; omega
        ·obtain ⟨_,p',hp',e'⟩:=a.ed1 hm; simp only at e'; omega
       ·obtain ⟨_,_,q',hq',e'⟩:=a.ic1 hm; simp only at e'; omega
      ·have:=a.id3 hpl (show p+1+d<=a.l.length by omega); omega
      rintro v s ⟨⟨s1,s2⟩,itv2,hM2⟩;refine ⟨s1,?_⟩;simp only[go_sem,w2];refine ⟨hdl2,by rw[show p+1+(d+1)=p+1+d+1 by omega],om,itv2,?_⟩;rw[hsn,if_pos rfl,<- zi]; exact hM2
    ·have d1:¬ ((p+1+d:Nat):Int)<a.l.length:=om
     have e:p+1+d=a.l.length:=om
     simp only[go_sem,hcu,hlen0,d1];refine ⟨hn,⟨itv,?_⟩,_,by rw[e]⟩;rw[a.bm5,<- zi];unfold ab7.gs2;rw[e] at hM; exact hM
   ·rintro e f u ⟨rfl,un,⟨itv,hM⟩,rst,rfl⟩;simp only[go_sem];refine ag9 ?_;simp only[go_sem,w1];exact ⟨hpl,un,itv,hM⟩
  ·have c1:¬ (p:Int)<a.l.length:=om
   have e:p=a.l.length:=om
   simp only[go_sem,c1];refine ae1 (ag9 ?_);simp only[go_sem];exact ⟨hn,⟨itv,by rw[e] at hM; exact hM⟩,_,rfl⟩
 clear hM hc itv2 hn;rintro e f t ⟨rfl,hn,⟨itv2,hM⟩,rst,rfl⟩;simp only[go_sem];have hP:=ay6 a;have hIn:=ba8 a.p;have pvl:a.p.v.leaf=true:=rfl;have pvc:a.p.v.cs=[a.p.v]:=rfl;have hin:(a.p.inst:Int)=((a.p.inst.toNat:Nat):Int):=om
 have hin2:a.p.inst.toNat<=a.l.length:=by have:=hA.inst; omega
 rw[hin] at hIn;have hc:=hM.cell;refine ae1 (ae1 (ag9 ?_));simp only[go_sem,hc,vcs,vlf]
 first|refine aa3 fok30 (hP) ?_|refine aa7 (hP) ?_
 simp only[go_sem,pvl,pvc]
 first|refine aa3 fok42 (hIn) ?_|refine aa7 (hIn) ?_
 simp only[go_sem]
 refine at7 (ba6 (Q:=fun e f s=>e=.exit 10/\σ.next<=s.next/\(∃ itv,MO s pp mid a.v tv allv itv a.l (a.owns a.l.length++a.as7 a.l.length++a.ca6 a.p.inst.toNat))/\∃ rst:Frm,f=(0,.ptr pp 0)::rst)
  (ab3 noT (fun i fr s=>fr=[(0,.ptr pp 0),(97,.int .i64 ((a.p.inst.toNat:Nat):Int)),(98,.int .i64 (i:Int))]/\σ.next<=s.next/\∃ itv,MO s pp mid a.v tv allv itv a.l (a.owns a.l.length++a.as7 a.l.length++a.ca6 i)) a.p.inst.toNat ⟨rfl,hn,itv2,by rw[show a.ca6 0=[] from rfl,zq]; exact hM⟩ ?_) ?_)
 ·clear hM hc itv2 hn;rintro i fr u hi ⟨rfl,hn,itv,hM⟩;have hcu:=hM.cell;by_cases hil:i<a.p.inst.toNat
  ·have d1:(i:Int)<((a.p.inst.toNat:Nat):Int):=om
   have w1:=ad1 (i:=i) om;have hg:=ge4 a i hA;have hsn:a.ca6 (i+1)=a.ca6 i++if !a.goes i then [⟨6,i,0⟩] else []:=bw8 _ _ _
   simp only[go_sem,hcu,d1,vcs,vlf];refine aa3 fok122 (hg) ?_
   cases hgo:a.goes i with
   | true=>
    rw[hgo] at hsn;simp only[go_sem,w1];refine ⟨hil,hn,itv,?_⟩
    rw[hsn]; simpa using hM
   | false=>
    rw[hgo] at hsn;simp only[go_sem];refine ac5 fok120 (ep6 u pp mid a.v tv _ itv a.l _ ⟨6,i,0⟩ hM (fun hm=>?_) ?_) ?_
    ·rcases zf.1 hm with hm|hm
     ·rcases zf.1 hm with hm|hm
      ·obtain ⟨_,h4,_⟩:=a.df4 hm; simp only at h4; omega
      ·obtain ⟨h4,_⟩:=a.ed1 hm; simp only at h4; omega
     ·obtain ⟨_,q',hq',e'⟩:=a.gs5 hm; simp only at e'; omega
    ·have:=a.id4 hi; omega
    rintro v s ⟨⟨s1,s2⟩,itv2,hM2⟩;refine ⟨s1,?_⟩;simp only[go_sem,w1];refine ⟨hil,om,itv2,?_⟩;rw[hsn,<- zi]; exact hM2
  ·have d1:¬ (i:Int)<((a.p.inst.toNat:Nat):Int):=om
   have e:i=a.p.inst.toNat:=om
   simp only[go_sem,d1];exact ⟨hn,⟨itv,by rw[<- e]; exact hM⟩,_,rfl⟩
 clear hM hc itv2 hn;rintro e f t ⟨rfl,hn,⟨itv2,hM⟩,rst,rfl⟩;simp only[go_sem];have hR:=bn5 a hA;have hc:=hM.cell;have r2:a.r.cs[2]? = zg (be1 a.r.ag6):=rfl;refine ae1 (ag9 ?_);simp only[go_sem,hc,vcs,vlf]
 first|refine aa3 fok89 (hR) ?_|refine aa7 (hR) ?_
 simp only[go_sem,r2];refine at7 ?_;refine ab3 noT (fun j fr s=>fr=[(0,.ptr pp 0),(118,.int .i64 a.r.ag6.length),(119,.int .i64 (j:Int))]/\σ.next<=s.next/\∃ itv,MO s pp mid a.v tv allv itv a.l (a.owns a.l.length++a.as7 a.l.length++a.ca6 a.p.inst.toNat++a.gg6 j)) a.r.ag6.length ⟨rfl,hn,itv2,by rw[show a.gg6 0=[] from rfl,zq]; exact hM⟩ ?_;clear hM hc itv2 hn;rintro j fr u hj ⟨rfl,hn,itv,hM⟩;have hcu:=hM.cell;have hjb:=hA.ag6;by_cases hjl:j<a.r.ag6.length
 ·have d1:(j:Int)<a.r.ag6.length:=om
  have w1:=ad1 (i:=j) om;have hg:=cg8 a j hA;have hsn:a.gg6 (j+1)=a.gg6 j++if !a.dropped j then [⟨7,j,0⟩] else []:=bw8 _ _ _
  simp only[go_sem,hcu,d1,vcs,vlf]
  first|refine aa3 fok123 (hg) ?_|refine aa7 (hg) ?_
  cases hgo:a.dropped j with
  | true=>
   rw[hgo] at hsn;simp only[go_sem,w1];refine ⟨hjl,hn,itv,?_⟩
   rw[hsn]; simpa using hM
  | false=>
   rw[hgo] at hsn;simp only[go_sem];refine ac5 fok120 (ep6 u pp mid a.v tv _ itv a.l _ ⟨7,j,0⟩ hM (fun hm=>?_) ?_) ?_
   ·rcases zf.1 hm with hm|hm
    ·rcases zf.1 hm with hm|hm
     ·rcases zf.1 hm with hm|hm
      ·obtain ⟨_,h4,_⟩:=a.df4 hm; simp only at h4; omega
      ·obtain ⟨h4,_⟩:=a.ed1 hm; simp only at h4; omega
     ·obtain ⟨h4,_⟩:=a.gs5 hm; simp only at h4; omega
    ·obtain ⟨_,q',hq',e'⟩:=a.jr4 hm; simp only at e'; omega
   ·have:=a.jb5 hj; omega
   rintro v s ⟨⟨s1,s2⟩,itv2,hM2⟩;refine ⟨s1,?_⟩;simp only[go_sem,w1];refine ⟨hjl,om,itv2,?_⟩;rw[hsn,<- zi]; exact hM2
 ·have d1:¬ (j:Int)<a.r.ag6.length:=om
  have e:j=a.r.ag6.length:=om
  simp only[go_sem,d1];exact ⟨hn,itv,by unfold ab7.items; rw[<- e]; exact hM⟩
end Go.Id.Tryz
namespace Go.Id.Tryz
open Go Go.Id Go.Proofs Go.Shelf Go.Id.Md
theorem MO.frz {s:Store}{pp mid:Nat}{a:ab7}{allv itv:IV}(h:MO s pp mid a.v (am2 a.l) allv itv a.l a.items):cu4 s 0 (.ptr pp 0) a.mv:=by
 refine .ptr pp 0 _ _ (zr _) (.inl h.cell) (zb _) fun j hj=>?_
 match j,hj with
 | 0,_=>exact .keep _ (ag1 a)
 | 1,_=>exact .keep _ (at5 _)
 | 2,_=>
  exact h.all.frz (fun x hx=>(ax2 _ x hx).1) (fun _ _=>zr _) fun e he c hc=>by
   obtain ⟨y,_,rfl⟩:=zm.1 he
   exact av1 y c hc
 | 3,_=>
  exact h.grow.frz (fun x hx=>(fj6 _ x hx).1) (fun _ _=>zr _) fun e he c hc=>by
   obtain ⟨y,_,rfl⟩:=zm.1 he
   exact ee3 y c hc
 | 4,_=>
  refine .map mid (bb8 a.items) (bb8 a.items) (bb8 a.items) (zr _) h.map rfl (List.Perm.refl _) (gr9 a.nodup) (fun i hi=>?_) fun i hi=>?_
  ·have:(bb8 a.items).getD i (.undef,.undef)∈bb8 a.items:=ad2 _ hi;obtain ⟨x,_,hx⟩:=zm.1 this;rw[<- hx]; exact .keep _ (br9 x)
  ·have:(bb8 a.items).getD i (.undef,.undef)∈bb8 a.items:=ad2 _ hi;obtain ⟨x,_,hx⟩:=zm.1 this;rw[<- hx]; exact .keep _ (.agg _ fun c hc=>by cases hc)
theorem ez6 (a:ab7)(hA:AOK a)(hI:0<=a.p.inst)(hIt:a.items.length<2^30):PC Tryz.prog EE 48 [a.v] (.tuple [a.mv,.int .i64 0]):=by
 refine jo6 hE fok48 (nZ rfl) (ah3 (ag1 a)) ?_;have hP:=ay6 a;have hT:=fc7 a.p hA.len fun x hx=>⟨hA.fit x hx,hA.tiny x hx⟩
 have hC:=av9 a.p;have hrl:a.p.rows.length=a.l.length:=by show _=(ac3 a.p).length; simp[ac3]
 rw[hrl] at hC;have hlen:=hA.len
 have hpk:∀ j (h:j<a.l.length),PC Tryz.prog EE 45 [a.p.v,.int .i64 j] (.tuple [.agg (a.pk j).cs,.int .i64 0]):=fun j h=>by
  have hj:j<a.p.rows.length:=om
  have hq:a.p.rows[j].pkg=a.pk j:=by
   have:a.pk j=a.l[j]:=by simp[ab7.pk,ze,h]
   rw[this]; simp[ab7.l,ac3]
  have h1:=as9 a.p j hj (by rw[hq]; exact hA.fit _ (by8 a h));rw[hq] at h1; exact h1
 have vcs:a.v.cs=[a.v]:=rfl;have vlf:a.v.leaf=true:=rfl;have pvl:a.p.v.leaf=true:=rfl;have pvc:a.p.v.cs=[a.p.v]:=rfl;have tvl:(am2 a.l).leaf=true:=rfl;have tvc:(am2 a.l).cs=[am2 a.l]:=rfl;have hnl:∀ d:TypeId,cb6 (.pointer d) a.v=zg false:=fun _=>rfl
 have hT:PC Tryz.prog EE 81 [a.p.v] (.tuple [am2 a.l,.int .i64 0]):=hT;simp only[ic48,go_sem];refine ae1 (ag9 ?_);simp only[go_sem];refine ae1 (ag9 ?_);simp only[go_sem,hnl];refine ae1 (ag9 ?_);simp only[go_sem,vcs,vlf]
 first|refine aa3 fok30 (hP) ?_|refine aa7 (hP) ?_
 simp only[go_sem,pvl,pvc];refine aa3 fok81 (hT) ?_;simp only[go_sem];refine ae1 (ag9 ?_);simp only[go_sem];refine ae1 (ag9 ?_);simp only[go_sem,vcs,vlf,tvl,tvc];refine ae1 (ae1 (ag9 ?_));simp only[go_sem,vcs,vlf]
 first|refine aa3 fok30 (hP) ?_|refine aa7 (hP) ?_
 simp only[go_sem,pvl,pvc];refine aa3 fok31 (hC) ?_;simp only[go_sem]
 refine at7 (ba6 (Q:=fun e f s=>e=.exit 0/\(∃ allv,MO s 1 0 a.v (am2 a.l) allv .aa1 a.l [])/\∃ rst:Frm,f=(0,a.v)::(6,.ptr 1 0)::rst)
  (ab3 noT (fun n fr s=>∃ gv,fr=[(0,a.v),(6,.ptr 1 0),(28,.int .i64 a.l.length),(29,.int .i64 (n:Int))]/\2<=s.next/\s.obj 0=zg (.map [])/\s.obj 1=zg (.cells [a.v,am2 a.l,gv,.aa1,.map 0])/\Grow s gv 15 ((a.l.take n).map aa2.cs)) a.l.length
   ⟨.aa1,rfl,zb _,rfl,rfl,.inl ⟨rfl,rfl⟩⟩ ?_) ?_)
 ·rintro n fr s hn ⟨gv,rfl,hnx,hm,ho,hg⟩;by_cases hlt:n<a.l.length
  ·have d1:(n:Int)<a.l.length:=om
   have w1:=ad1 (i:=n) om;have hp:=hpk n hlt;have n1:¬ 1=s.next:=om
   have n0:¬ 0=s.next:=om
   have htk:a.l.take (n+1)=a.l.take n++[a.pk n]:=by
    have:a.pk n=a.l[n]:=by simp[ab7.pk,ze,hlt]
    rw[this,z9,zu hlt]; rfl
   have hgl:gv.leaf=true:=by rcases hg with ⟨rfl,_⟩|⟨id,rfl,_⟩<;>rfl
   have hgc:gv.cs=[gv]:=by rcases hg with ⟨rfl,_⟩|⟨id,rfl,_⟩<;>rfl
   obtain ⟨S,hS⟩:∃ S:Store,S=(({ next:=s.next+1,obj:=s.obj }:Store).put s.next (aj5.cells [.str [],.int .i64 0,.str [],.str [],.int .u8 0,.str [],.aa1,.aa1,.aa1,.aa1,.aa1,.aa1,.aa1,.aa1,.aa1])).put s.next (aj5.cells (a.pk n).cs):=⟨_,rfl⟩;have So:∀ i,¬ i=s.next->S.obj i=s.obj i:=fun i hi=>by rw[hS]; simp only[aa5,hi,if_false]
   have hg1:Grow (⟨s.next+1+11,S.obj⟩:Store) gv 15 ((a.l.take n).map aa2.cs):=hg.mono (by show s.next<=s.next+1+11; omega) fun id _ hid=>So id om
   have hap:=aj8 (nid:=s.next+1+7) (e:=(a.pk n).cs) hg1 (ax2 _) ⟨rfl,rfl⟩ (by rw[za,zn]; omega);rw[za] at hap;have k1:=af8 hg1 1 _ (by rw[<- ho]; exact So 1 n1) (fun _ e=>by cases e);have k0:=af8 hg1 0 _ (by rw[<- hm]; exact So 0 n0) (fun _ e=>by cases e);have kn:(ae7 gv (⟨s.next+1+11,S.obj⟩:Store)).next=s.next+1+11:=ac2 gv;have m1:¬ 1=s.next+1+7:=om
   have m0:¬ 0=s.next+1+7:=om
   have hcl:∀ i cs,¬ i=s.next->s.obj i=zg (.cells cs)->S.obj i=zg (.cells cs):=fun i cs h1 h2=>by rw[So i h1]; exact h2
   simp only[go_sem,d1,vcs,vlf]
   first|refine aa3 fok30 (hP) ?_|refine aa7 (hP) ?_
   simp only[go_sem,pvl,pvc]
   first|refine aa3 fok45 (hp) ?_|refine aa7 (hp) ?_
   simp only[go_sem,af6,af4,ac9,n1,n0,ho,b_o,b_p,b_t];rw[<- hS];generalize ae7 gv (⟨s.next+1+11,S.obj⟩:Store)=K at *;simp only[show s.next+1+1+1+1+1+1+1+1=s.next+1+7 from rfl,hap,go_sem,m1,m0,k1,k0,w1];refine ⟨hlt,_,by rw[kn]; omega,rfl,?_⟩;rw[htk,zl];refine .inr ⟨s.next+1+7,by rw[zd,za]; rfl,?_,by rw[kn]; omega⟩;simp only[aa5];rw[if_neg (fun e=>m1 e.symm),if_pos trivial]; rfl
  ·have d1:¬ (n:Int)<a.l.length:=om
   rw[List.take_of_length_le om] at hg;simp only[go_sem,d1];exact ⟨⟨gv,{ cell:=ho,grow:=.inl ⟨rfl,rfl⟩,map:=hm,all:=hg,ne:=fun _ _ _ _ h=>(by cases h),lt:=⟨om,om⟩ }⟩,_,rfl⟩
 rintro e f t ⟨rfl,⟨allv,hM⟩,rst,rfl⟩;simp only[go_sem];refine ae1 (ag9 ?_);simp only[go_sem];refine ac5 fok82 (jt5 a hA hI t 1 0 _ _ _ hM hIt) ?_;rintro v s ⟨s1,itv,hM2⟩;refine ⟨s1,?_⟩;simp only[go_sem];refine ag9 ?_;simp only[go_sem];exact .by5 (.cons hM2.frz (.cons (cs8 rfl) .nil))
end Go.Id.Tryz
namespace Go.Id.Tryz
open Go Go.Id Go.Proofs Go.Shelf Go.Id.Md
theorem fm9 (l:List Int)(hl:l.length<2^30)(hr:∀ x∈l,-(2^40)<=x/\x<=2^40):PC Tryz.prog EE 83 [.aa4 (l.map Md.ad9)] (.aa4 ((noL l).map Md.ad9)):=dd3 fun σ=>jg2 l hl hr σ
theorem eh1 (l:List Int)(hl:l.length<2^30)(hr:∀ x∈l,-(2^40)<=x/\x<=2^40):PC Tryz.prog EE 87 [.aa4 (l.map Md.ad9)] (.aa4 ((upL l).map Md.ad9)):=dd3 fun σ=>kh4 l hl hr σ
theorem hh8 (x:Itm):x.cs=[.int .u8 x.kind,.int .i64 x.p,.int .i64 x.q]:=rfl
theorem jw6 (rp:Nat)(σ:Store)(x:Itm)(hp:0<=x.p/\x.p<1000):C Tryz.prog EE 51 [.ptr rp 0,.agg x.cs] σ (fun v s=>v=.tuple [bx5 [noL [x.p]],.int .i64 0]/\Kept σ s):=by
 refine C_f fok51 (nZ rfl) ?_;have hN:=fm9 [x.p] (by simp) (fun y hy=>by rw[zp] at hy; omega);rw[hh8];simp only[ic51,go_sem];refine aa3 fok83 (hN) ?_;simp only[go_sem];exact ⟨rfl,Kept.refl σ⟩
theorem jw7 (rp:Nat)(σ:Store)(x:Itm)(hp:0<=x.p/\x.p<1000)(hq:0<=x.q/\x.q<1000):C Tryz.prog EE 55 [.ptr rp 0,.agg x.cs] σ (fun v s=>v=.tuple [bx5 [noL [x.p,x.q]],.int .i64 0]/\Kept σ s):=by
 refine C_f fok55 (nZ rfl) ?_
 have hN:=fm9 [x.p,x.q] (by simp) (fun y hy=>by
  simp only[zj,zt,or_false] at hy;rcases hy with rfl|rfl<;>omega)
 rw[hh8];simp only[ic55,go_sem];refine aa3 fok83 (hN) ?_;simp only[go_sem];exact ⟨rfl,Kept.refl σ⟩
theorem ch3 {a:ab7}(hA:AOK a){l:List Int}(h:∀ n∈l,a.is n=true):∀ x∈l,-(2^40)<=x/\x<=2^40:=fun x hx=>by
 have:=h x hx;unfold ab7.is at this;simp only[Bool.and_eq_true,decide_eq_true_eq] at this;have:=hA.len;omega
theorem az9 (a:ab7)(i:Int):(a.ao9 i).length<=a.l.length:=by
 unfold ab7.ao9;split
 ·exact aw6 _ _
 ·exact Nat.zero_le _
theorem jw8 (a:ab7)(hA:AOK a)(rp:Nat)(c1 c2 c3 c4:IV)(σ:Store)(x:Itm)(ho:σ.obj rp=zg (.cells [a.v,c1,c2,c3,c4])):C Tryz.prog EE 56 [.ptr rp 0,.agg x.cs] σ (fun v s=>v=.tuple [bx5 [upL (a.ao9 x.p)],.int .i64 0]/\Kept σ s):=by
 refine C_f fok56 (nZ rfl) ?_;have hS:=bn4 a x.p hA;have hO:=eh1 (a.ao9 x.p) (by have:=az9 a x.p; have:=hA.len; omega) (ch3 hA ab7.aw9);have vcs:a.v.cs=[a.v]:=rfl;have vlf:a.v.leaf=true:=rfl;rw[hh8];generalize a.v=AV at *;generalize hss:a.ao9 x.p=ss at *;simp only[ic56,go_sem,ho,vcs,vlf]
 first|refine aa3 fok88 (hS) ?_|refine aa7 (hS) ?_
 simp only[go_sem];refine aa3 fok87 (hO) ?_;simp only[go_sem];exact ⟨rfl,zo _ _,fun _ _=>rfl⟩
end Go.Id.Tryz
namespace Go.Id.Tryz
open Go Go.Id Go.Proofs Go.Shelf Go.Id.Md
theorem im3 (l:List Int)(n b:Int):cu9 (l++[n]) b=cu9 l b++if n=b then [] else [n]:=by
 unfold cu9;rw[List.filter_append];congr 1;by_cases h:n=b<;>simp[h]
theorem eh2 (a:ab7)(hA:AOK a):∀ j (h:j<a.l.length),PC Tryz.prog EE 45 [a.p.v,.int .i64 j] (.tuple [.agg (a.pk j).cs,.int .i64 0]):=fun j h=>by
 have hrl:a.p.rows.length=a.l.length:=by show _=(ac3 a.p).length; simp[ac3]
 have hj:j<a.p.rows.length:=om
 have hq:a.p.rows[j].pkg=a.pk j:=by
  have:a.pk j=a.l[j]:=by simp[ab7.pk,ze,h]
  rw[this]; simp[ab7.l,ac3]
 have h1:=as9 a.p j hj (by rw[hq]; exact hA.fit _ (by8 a h));rw[hq] at h1; exact h1
theorem jw9 (a:ab7)(hA:AOK a)(rp:Nat)(c1 c2 c3 c4:IV)(σ:Store)(p q:Nat)(hp:p<a.l.length)(hq:q<(a.pk p).aa8.length)(ho:σ.obj rp=zg (.cells [a.v,c1,c2,c3,c4]))(hrp:rp<σ.next) :
  C Tryz.prog EE 54 [.ptr rp 0,.agg (⟨4,p,q⟩:Itm).cs] σ (fun v s=>∃ gv,v=.tuple [gv,.int .i64 0]/\Kept σ s/\Grow s gv 1 (((cu9 (am1 a.l (a.cx3 ⟨4,p,q⟩)) p).map fun n=>noL [(p:Int),n]).map clE)/\∀ i k,gv=.slice i 0 k 1->σ.next<=i):=by
 refine C_f fok54 (nZ rfl) ?_;have hP:=ay6 a;have hK:=eh2 a hA p hp;have hI:=dg7 a;have hsm:=hA.small _ (by8 a hp);have hdm:a.cx3 ⟨4,p,q⟩∈(a.pk p).aa8:=getD_in _ hq;have hds:Dep.small (a.cx3 ⟨4,p,q⟩):=hsm.2.2.1 _ hdm;have hlen:=hA.len;have hN:=bn3 a.l (a.cx3 ⟨4,p,q⟩) om hA.small hds;have g9:((a.pk p).cs.drop 9).head? = zg (deps (a.pk p).aa8):=rfl;have hda:=is2 (a.pk p).aa8 hq;have hde:(a.pk p).aa8.getD q default=a.cx3 ⟨4,p,q⟩:=rfl;rw[hde] at hda;have hnl:(am1 a.l (a.cx3 ⟨4,p,q⟩)).length<=a.l.length:=ae8 _ _
 have hns:∀ n∈am1 a.l (a.cx3 ⟨4,p,q⟩),0<=n/\n<a.l.length:=fun n hn=>by
  obtain ⟨m,rfl,h,_⟩:=al3.1 hn;omega
 have vcs:a.v.cs=[a.v]:=rfl;have vlf:a.v.leaf=true:=rfl;have pvl:a.p.v.leaf=true:=rfl;have pvc:a.p.v.cs=[a.p.v]:=rfl;have xlf:(ad7 a.l).v.leaf=true:=rfl;have xcs:(ad7 a.l).v.cs=[(ad7 a.l).v]:=rfl;have hxc:(⟨4,p,q⟩:Itm).cs=[.int .u8 4,.int .i64 p,.int .i64 q]:=rfl;have e1:(0:Int)<=(q:Int):=om
 have e2:(q:Int)<(a.pk p).aa8.length:=om
 have nrp:∀ k,¬ rp=σ.next+k:=fun k=>by omega
 rw[hxc];generalize a.v=AV at *;generalize a.p.v=PV at *;generalize (ad7 a.l).v=XV at *;generalize a.cx3 ⟨4,p,q⟩=D at *;generalize am1 a.l D=nm at *;simp only[ic54,go_sem,ho,vcs,vlf,pvl,pvc]
 first|refine aa3 fok30 (hP) ?_|refine aa7 (hP) ?_
 simp only[go_sem,pvl,pvc]
 first|refine aa3 fok45 (hK) ?_|refine aa7 (hK) ?_
 simp only[go_sem,af6,af4,ac9];have n11:∀ i,i<σ.next->¬ i=σ.next+1+1+1+1+1+1+1+1+1+1+1:=fun i hi=>by omega
 simp only[n11 rp hrp,if_false,ho,go_sem,vcs,vlf];refine aa7 (hI) ?_;simp only[go_sem,g9,hda,e1,e2,zc,ap8,am9,al9,xlf,xcs]
 first|refine aa3 fok86 (hN) ?_|refine aa7 (hN) ?_
 simp only[go_sem]
 refine ab3 noT (fun i fr s=>∃ gv,fr=[(3,.ab9 [.int .u8 4,.int .i64 p,.int .i64 q]),(8,gv),(36,.aa4 (nm.map Md.ad9)),(37,.int .i64 nm.length),(38,.int .i64 (i:Int))]/\Kept σ s/\Grow s gv 1 (((cu9 (nm.take i) p).map fun n=>noL [(p:Int),n]).map clE)/\∀ i k,gv=.slice i 0 k 1->σ.next<=i) nm.length
  ⟨.aa1,rfl,⟨by show σ.next<=σ.next+_+_; omega,fun i hi=>?_⟩,.inl ⟨rfl,rfl⟩,fun _ _ e=>by cases e⟩ ?_
 ·simp only[aa5,n11 i hi,if_false]
 rintro i fr s hle ⟨gv,rfl,hk,hg,hgi⟩;by_cases hlt:i<nm.length
 ·obtain ⟨n,hn,_,hdr,hget,htk⟩:=ad6 nm i hlt;have d1:(i:Int)<nm.length:=om
  have d2:(0:Int)<=i:=om
  have w1:=ad1 (i:=i) om;have hn2:=hns n hn;have hb:=im3 (nm.take i) n p;rw[<- htk] at hb;have hbl:=dg3 (nm.take i) p;rw[zn] at hbl;by_cases e:n=p
  ·rw[if_pos e,zq] at hb;simp only[go_sem,d1,d2,hget,Md.ad9,e,w1];exact ⟨hlt,gv,rfl,hk,by rw[hb]; exact hg,hgi⟩
  ·rw[if_neg e] at hb
   have hNo:=fm9 [(p:Int),n] (by simp) (fun y hy=>by
    simp only[zj,zt,or_false] at hy;rcases hy with rfl|rfl<;>omega)
   obtain ⟨g1,g2,g3,g4⟩:=fi9 (nid:=s.next) (k:=1) (e:=clE (noL [(p:Int),n])) hk hg hgi (br6 _) ⟨rfl,rfl⟩ (by rw[za,za]; omega) (zb _) (zk _);have hcl:clE (noL [(p:Int),n])=[.aa4 ((noL [(p:Int),n]).map Md.ad9)]:=rfl;have hbe:((cu9 (nm.take (i+1)) p).map fun n=>noL [(p:Int),n]).map clE=((cu9 (nm.take i) p).map fun n=>noL [(p:Int),n]).map clE++[clE (noL [(p:Int),n])]:=by rw[hb,zl,zl]; rfl
   generalize ((cu9 (nm.take i) p).map fun n=>noL [(p:Int),n]).map clE=es at *;rw[hcl] at g1 g2 g3 hbe;generalize (noL [(p:Int),n]).map Md.ad9=nv at *;simp only[go_sem,d1,d2,hget,Md.ad9,e];refine aa3 fok83 (hNo) ?_;simp only[go_sem,g1,w1];exact ⟨hlt,_,rfl,g2,by rw[hbe]; exact g3,g4⟩
 ·have hi':i=nm.length:=om
  subst hi';have d1:¬ (nm.length:Int)<nm.length:=om
  rw[zh] at hg;simp only[go_sem,d1];exact ⟨gv,rfl,hk,hg,hgi⟩
end Go.Id.Tryz
namespace Go.Id.Md.ab7
open Go Go.Id Go.Id.Md
def im4 (a:ab7)(k:Int)(n:Int):List (List Int):=if k=3 then [upL (a.ao9 n)] else if k=4 then (if 0<(a.by7 n).length then [upL (a.by7 n)] else []) else [noL [n]]
theorem gf5 (a:ab7)(j:Int)(h:(a.jb j).kind≠1):a.dg2 j=(a.meant j).flatMap (a.im4 (a.jb j).kind):=by
 have sing:∀ (f:Int->List Int) (l:List Int),l.flatMap (fun n=>[f n])=l.map f:=fun f l=>by
  induction l with
  | nil=>rfl
  | cons n l ih=>rw[zy,ih]; rfl
 have filt:∀ (q:Int->Bool) (f:Int->List Int) (l:List Int),l.flatMap (fun n=>if q n=true then [f n] else [])=(l.filter q).map f:=fun q f l=>by
  induction l with
  | nil=>rfl
  | cons n l ih=>
   rw[zy,ih,List.filter_cons];cases q n<;>rfl
 unfold dg2;rw[if_neg h];by_cases k3:(a.jb j).kind=3
 ·rw[if_pos k3,<- sing];congr 1; funext n; unfold im4; rw[if_pos k3]
 rw[if_neg k3];by_cases k4:(a.jb j).kind=4
 ·rw[if_pos k4,<- filt];congr 1; funext n; unfold im4; rw[if_neg k3,if_pos k4]; simp only[decide_eq_true_eq]
 ·rw[if_neg k4,<- sing];congr 1; funext n; unfold im4; rw[if_neg k3,if_neg k4]
theorem im5 (a:ab7)(k:Int)(l:List Int):(l.flatMap (a.im4 k)).length<=l.length:=by
 induction l with
 | nil=>exact zb _
 | cons n l ih=>
  rw[zy,zd,z0]
  have:(a.im4 k n).length<=1:=by
   unfold im4;split
   ·exact zb _
   ·split
    ·split<;>simp
    ·exact zb _
  omega
end Go.Id.Md.ab7
namespace Go.Id.Tryz
open Go Go.Id Go.Proofs Go.Shelf Go.Id.Md
theorem ec6 (a:ab7)(j:Int):(a.by7 j).length<=a.l.length:=zz (List.length_filter_le _ _) (az9 a j)
theorem jx1 (a:ab7)(hA:AOK a)(rp:Nat)(c1 c2 c3 c4:IV)(σ:Store)(j:Nat)(hj:j<a.r.ag6.length)(hk1:(a.jb j).kind=1)(ho:σ.obj rp=zg (.cells [a.v,c1,c2,c3,c4])) :
  C Tryz.prog EE 57 [.ptr rp 0,.agg (⟨7,j,0⟩:Itm).cs] σ (fun v s=>v=.tuple [bx5 [upL (a.meant j)],.int .i64 0]/\Kept σ s):=by
 refine C_f fok57 (nZ rfl) ?_;have hR:=bn5 a hA;have hM:=ay7 a j hA;have hlen:=hA.len;have hml:=bk7 a j;have hO:=eh1 (a.meant j) om (ch3 hA ab7.bj8);have r2:a.r.cs[2]? = zg (be1 a.r.ag6):=rfl;have hjb:(a.r.ag6.map Job.cs).getD j []=(a.jb j).cs:=by simp[ab7.jb,ze,hj]
 have k0:(a.jb j).cs.head? = zg (.int .u8 (a.jb j).kind):=rfl;have vcs:a.v.cs=[a.v]:=rfl;have vlf:a.v.leaf=true:=rfl;have hxc:(⟨7,j,0⟩:Itm).cs=[.int .u8 7,.int .i64 j,.int .i64 0]:=rfl;have e1:(0:Int)<=(j:Int):=om
 have e2:(j:Int)<a.r.ag6.length:=om
 rw[hxc];generalize a.v=AV at *;generalize a.meant j=mt at *;generalize a.jb j=J at *;generalize a.r=R at *;simp only[ic57,go_sem,ho,vcs,vlf]
 first|refine aa3 fok89 (hR) ?_|refine aa7 (hR) ?_
 simp only[go_sem,r2,be1,e1,e2,zc,hjb,av2,k0,hk1,ho,vcs,vlf]
 first|refine aa3 fok90 (hM) ?_|refine aa7 (hM) ?_
 simp only[go_sem,hk1];refine aa3 fok87 (hO) ?_;simp only[go_sem];exact ⟨rfl,zo _ _,fun _ _=>rfl⟩
theorem kh5 (a:ab7)(hA:AOK a)(rp:Nat)(c1 c2 c3 c4:IV)(σ:Store)(j:Nat)(hj:j<a.r.ag6.length)(hk1:(a.jb j).kind≠1)(ho:σ.obj rp=zg (.cells [a.v,c1,c2,c3,c4]))(hrp:rp<σ.next) :
  C Tryz.prog EE 57 [.ptr rp 0,.agg (⟨7,j,0⟩:Itm).cs] σ (fun v s=>∃ gv,v=.tuple [gv,.int .i64 0]/\Kept σ s/\Grow s gv 1 ((a.dg2 j).map clE)/\∀ i k,gv=.slice i 0 k 1->σ.next<=i):=by
 refine C_f fok57 (nZ rfl) ?_;have hR:=bn5 a hA;have hM:=ay7 a j hA;have hlen:=hA.len;have hml:=bk7 a j;have hS:=fun n=>bn4 a n hA
 have hOS:=fun n=>eh1 (a.ao9 n) (by have:=az9 a n; omega) (ch3 hA ab7.aw9)
 have hN:=fun n=>dx2 a n hA
 have hON:=fun n=>eh1 (a.by7 n) (by have:=ec6 a n; omega) (ch3 hA fun m hm=>ab7.aw9 m (a.ec5 hm).1)
 have hma:∀ n∈a.meant j,-(2^40)<=n/\n<=2^40:=ch3 hA ab7.bj8;have r2:a.r.cs[2]? = zg (be1 a.r.ag6):=rfl;have hjb:(a.r.ag6.map Job.cs).getD j []=(a.jb j).cs:=by simp[ab7.jb,ze,hj]
 have k0:(a.jb j).cs.head? = zg (.int .u8 (a.jb j).kind):=rfl;have vcs:a.v.cs=[a.v]:=rfl;have vlf:a.v.leaf=true:=rfl;have hxc:(⟨7,j,0⟩:Itm).cs=[.int .u8 7,.int .i64 j,.int .i64 0]:=rfl;have e1:(0:Int)<=(j:Int):=om
 have e2:(j:Int)<a.r.ag6.length:=om
 rw[a.gf5 j hk1,hxc];have hJl:=a.im5 (a.jb j).kind;have hF:∀ n,a.im4 (a.jb j).kind n=if (a.jb j).kind=3 then [upL (a.ao9 n)] else if (a.jb j).kind=4 then (if 0<(a.by7 n).length then [upL (a.by7 n)] else []) else [noL [n]]:=fun n=>rfl
 generalize a.im4 (a.jb j).kind=F at *;generalize a.v=AV at *;generalize a.meant j=mt at *;generalize a.jb j=J at *;generalize hRq:a.r=R at *;simp only[ic57,go_sem,ho,vcs,vlf]
 first|refine aa3 fok89 (hR) ?_|refine aa7 (hR) ?_
 simp only[go_sem,r2,be1,e1,e2,zc,hjb,av2,k0,hk1,ho,vcs,vlf]
 first|refine aa3 fok90 (hM) ?_|refine aa7 (hM) ?_
 simp only[go_sem,hk1]
 refine ab3 noT (fun i fr s=>∃ gv,fr=[(0,.ptr rp 0),(6,.int .u8 J.kind),(8,gv),(35,.aa4 (mt.map Md.ad9)),(36,.int .i64 mt.length),(37,.int .i64 (i:Int))]/\Kept σ s/\Grow s gv 1 (((mt.take i).flatMap F).map clE)/\∀ i k,gv=.slice i 0 k 1->σ.next<=i) mt.length
  ⟨.aa1,rfl,⟨zo _ _,fun _ _=>rfl⟩,.inl ⟨rfl,rfl⟩,fun _ _ e=>by cases e⟩ ?_
 rintro i fr s hle ⟨gv,rfl,hk,hg,hgi⟩;by_cases hlt:i<mt.length
 ·obtain ⟨n,hn,_,hdr,hget,htk⟩:=ad6 mt i hlt;have d1:(i:Int)<mt.length:=om
  have d2:(0:Int)<=i:=om
  have w1:=ad1 (i:=i) om;have hn2:=hma n hn;have hos:s.obj rp=zg (.cells [AV,c1,c2,c3,c4]):=(hk.obj rp hrp).trans ho;have hfl:(mt.take (i+1)).flatMap F=(mt.take i).flatMap F++F n:=by rw[htk,z6]; simp
  have hbl:((mt.take i).flatMap F).length<=i:=zz (hJl _) (by rw[zn]; omega);have hNo:=fm9 [n] (by simp) (fun y hy=>by rw[zp] at hy; omega);rw[hF] at hfl;have hcl:∀ q,clE q=[.aa4 (q.map Md.ad9)]:=fun _=>rfl
  have push:=fun q:List Int=>fi9 (nid:=s.next) (k:=1) (e:=clE q) hk hg hgi (br6 _) ⟨rfl,rfl⟩ (by rw[za]; omega) (zb _) (zk _)
  have hbe:∀ q,(mt.take (i+1)).flatMap F=(mt.take i).flatMap F++[q]->((mt.take (i+1)).flatMap F).map clE=((mt.take i).flatMap F).map clE++[clE q]:=fun q e=>by rw[e,zl]; rfl
  by_cases k3:J.kind=3
  ·rw[if_pos k3] at hfl;obtain ⟨g1,g2,g3,g4⟩:=push (upL (a.ao9 n));have hbe:=hbe _ hfl;have hS:=hS n;have hOS:=hOS n;rw[hcl] at g1 g2 g3 hbe;generalize ((mt.take i).flatMap F).map clE=es at *;generalize a.ao9 n=ss at *;generalize (upL ss).map Md.ad9=nv at *;simp only[go_sem,d1,d2,hget,Md.ad9];refine aa3 fok83 (hNo) ?_;simp only[go_sem,k3,hos,vcs,vlf]
   first|refine aa3 fok88 (hS) ?_|refine aa7 (hS) ?_
   simp only[go_sem];refine aa3 fok87 (hOS) ?_;simp only[go_sem,g1,w1];exact ⟨hlt,_,rfl,g2,by rw[hbe]; exact g3,g4⟩
  rw[if_neg k3] at hfl;by_cases k4:J.kind=4
  ·rw[if_pos k4] at hfl;have n43:¬ (4:Int)=3:=by decide
   have hN:=hN n;have hON:=hON n;by_cases hz:0<(a.by7 n).length
   ·rw[if_pos hz] at hfl;obtain ⟨g1,g2,g3,g4⟩:=push (upL (a.by7 n));have hbe:=hbe _ hfl;rw[hcl] at g1 g2 g3 hbe;have hul:¬ (((upL (a.by7 n)).length:Nat):Int)=0:=by unfold upL; rw[za]; omega
    generalize ((mt.take i).flatMap F).map clE=es at *;generalize a.by7 n=ss at *;simp only[go_sem,d1,d2,hget,Md.ad9];refine aa3 fok83 (hNo) ?_;simp only[go_sem,k3,k4,n43,hos,vcs,vlf];refine aa3 fok91 (hN) ?_;simp only[go_sem];refine aa3 fok87 (hON) ?_;simp only[go_sem,hul,g1,w1];exact ⟨hlt,_,rfl,g2,by rw[hbe]; exact g3,g4⟩
   ·rw[if_neg hz,zq] at hfl;have hul:(((upL (a.by7 n)).length:Nat):Int)=0:=by unfold upL; rw[za]; omega
    generalize a.by7 n=ss at *;simp only[go_sem,d1,d2,hget,Md.ad9];refine aa3 fok83 (hNo) ?_;simp only[go_sem,k3,k4,n43,hos,vcs,vlf];refine aa3 fok91 (hN) ?_;simp only[go_sem];refine aa3 fok87 (hON) ?_;simp only[go_sem,hul,w1];exact ⟨hlt,gv,rfl,hk,by rw[hfl]; exact hg,hgi⟩
  ·rw[if_neg k4] at hfl;obtain ⟨g1,g2,g3,g4⟩:=push (noL [n]);have hbe:=hbe _ hfl;rw[hcl] at g1 g2 g3 hbe;generalize ((mt.take i).flatMap F).map clE=es at *;generalize (noL [n]).map Md.ad9=nv at *;simp only[go_sem,d1,d2,hget,Md.ad9];refine aa3 fok83 (hNo) ?_;simp only[go_sem,k3,k4,g1,w1];exact ⟨hlt,_,rfl,g2,by rw[hbe]; exact g3,g4⟩
 ·have hi':i=mt.length:=om
  subst hi';have d1:¬ (mt.length:Int)<mt.length:=om
  rw[zh] at hg;simp only[go_sem,d1];exact ⟨gv,rfl,hk,hg,hgi⟩
end Go.Id.Tryz
namespace Go.Id.Tryz
open Go Go.Id Go.Proofs Go.Shelf Go.Id.Md
theorem iu2 {σ u s:Store}{tp mid:Nat}{xv allv clv clv' gv:IV}{P:List aa2}{t:ah6}{zs:List Int}(hT:be2 σ u tp mid clv clv')(hM:aq8 u tp mid xv allv clv' P t)(hk:Kept ⟨u.next+1,u.obj⟩ s)(hg:al2 s (u.next+1) gv zs)(hz:zs.length<1000)(n:Int) :
  be9 s u.next 1 gv (.aa4 [[.int .i64 n]])=zg (.slice u.next 0 (zs.length+1) 1,(ae7 gv s).put u.next (.row ((zs++[n]).map bo7)))/\be2 σ ((ae7 gv s).put u.next (.row ((zs++[n]).map bo7))) tp mid clv clv'/\aq8 ((ae7 gv s).put u.next (.row ((zs++[n]).map bo7))) tp mid xv allv clv' P t /\
   al2 ((ae7 gv s).put u.next (.row ((zs++[n]).map bo7))) σ.next (.slice u.next 0 (zs.length+1) 1) (zs++[n])/\(∀ i k l,clv'=.slice i 0 k 1->IV.slice u.next 0 (zs.length+1) 1≠.slice i 0 l 1)/\(∀ i k l,allv=.slice i 0 k 15->IV.slice u.next 0 (zs.length+1) 1≠.slice i 0 l 1):=by
 have hkl:=hk.low;have hn:u.next+1<=s.next:=hk.next;have hM2:=hM.mono hkl.next hkl.obj;have hl:=tab_late (hM.up 1) (hg.w:ch8 s (⟨u.next+1,u.obj⟩:Store).next gv zs);have hf:=hM.free (i:=u.next) (zb _);obtain ⟨q1,q2,q3,q4,q5⟩:=tab_row2 (nid:=u.next) hM2 (hg.low (Nat.le_succ _)) hl.1 hl.2 n (zb _) om hf rfl;exact ⟨bd5 hg n om,q2 σ clv (hT.trans (ar7 hkl _ _ _)) hT.next,q1,q3.low hT.next,q4,q5⟩
theorem jx2 (a:ab7)(hA:AOK a)(hO:a.bo2)(rp:Nat)(c1 c3 c4:IV)(σ:Store)(p q:Nat)(hp:p<a.l.length)(hq:q<(a.pk p).requires.length)(hmay:an8 (a.by2 ⟨2,p,q⟩) 1=0)(tp mid:Nat)(allv clv:IV)(t:ah6)
  (ho:σ.obj rp=zg (.cells [a.v,c1,.ptr tp 0,c3,c4])) (hrp:rp<σ.next) (hM:aq8 σ tp mid (ad7 a.l).v allv clv a.l t) (hok:t.OK a.l.length) (hfw:t.few) (hh:t.h+24<=2^20) :
  C Tryz.prog EE 52 [.ptr rp 0,.agg (⟨2,p,q⟩:Itm).cs] σ (jj4 σ tp mid (ad7 a.l).v allv clv a.l (a.ai3 ⟨2,p,q⟩ t)):=by
 have hit:a.ai3 ⟨2,p,q⟩ t=([noL [(p:Int)]++[((a.by2 ⟨2,p,q⟩).bp2 a.l (-1) t).1]],((a.by2 ⟨2,p,q⟩).bp2 a.l (-1) t).2):=rfl;rw[hit];refine ir8 (C_f fok52 (nZ rfl) ?_);have hf:=(hA.fit _ (by8 a hp)).rich (1,(a.pk p).requires) (by simp[aa2.rows]);obtain ⟨f1,f2⟩:=hf.2 _ (getD_in _ hq);have e2:=ee5 (a.pk p).requires hq;have hde:(a.pk p).requires.getD q default=a.by2 ⟨2,p,q⟩:=rfl;rw[hde] at e2 f1 f2;obtain ⟨m1,_,m3⟩:=bx2 hmay (.inl rfl);have hrg:=(bm7 a.l hO.len (-1) (a.by2 ⟨2,p,q⟩) (.inl m1) t hok);have hL:=fun σ' h=>it4 a.l hO.len hA.small (-1) (a.by2 ⟨2,p,q⟩) hmay f1 σ' tp mid allv clv t h hok hfw om
 have hP:=ay6 a;have hK:=eh2 a hA p hp;have e3:((a.pk p).cs.drop 7).head? = zg (aj6 (a.pk p).requires):=rfl;have hlen:=hO.len;have hNo:=fun σ=>jg2 [(p:Int)] (by simp) (fun y hy=>by rw[zp] at hy; omega) σ
 have vcs:a.v.cs=[a.v]:=rfl;have vlf:a.v.leaf=true:=rfl;have pvl:a.p.v.leaf=true:=rfl;have pvc:a.p.v.cs=[a.p.v]:=rfl;have hxc:(⟨2,p,q⟩:Itm).cs=[.int .u8 2,.int .i64 p,.int .i64 q]:=rfl;have d3:(0:Int)<=(q:Int):=om
 have d4:(q:Int)<(a.pk p).requires.length:=om
 have n11:∀ i,i<σ.next->¬ i=σ.next+1+1+1+1+1+1+1+1+1+1+1:=fun i hi=>by omega
 rw[hxc];generalize a.v=AV at *;generalize a.p.v=PV at *;generalize hRd:a.by2 ⟨2,p,q⟩=R at *;generalize hw:R.bp2 a.l (-1) t=w at *;have hwr:=hrg.ok.2;have hwl:=hrg.le.2;simp only[ic52,go_sem,ho,vcs,vlf,pvl,pvc]
 first|refine aa3 fok30 (hP) ?_|refine aa7 (hP) ?_
 simp only[go_sem,pvl,pvc]
 first|refine aa3 fok45 (hK) ?_|refine aa7 (hK) ?_
 simp only[go_sem,af6,af4,ac9];simp only[n11 rp hrp,if_false,ho,go_sem,e2,e3,d3,d4,zc,ab8,ab6,ab1];have hKt:∀ (m m2:Nat) (A B:aj5),Kept σ ⟨σ.next+m+m2,(((⟨σ.next+m,σ.obj⟩:Store).put (σ.next+1+1+1+1+1+1+1+1+1+1+1) A).put (σ.next+1+1+1+1+1+1+1+1+1+1+1) B).obj⟩:=fun m m2 A B=>⟨by show σ.next<=σ.next+m+m2; omega,fun i hi=>by simp only[aa5,n11 i hi,if_false]⟩
 refine ac5 fok84 (hL _ (hM.mono (hKt _ _ _ _).next (hKt _ _ _ _).obj)) ?_;rintro v u ⟨w',rfl,hO2⟩;have hO3:=hO2.from (ar7 (hKt _ _ _ _) tp mid clv);refine ⟨by obtain ⟨_,_,g,_⟩:=hO2; exact g.next,?_⟩;obtain ⟨rfl,clv',hT,hM2⟩:=hO3;simp only[go_sem];refine ac5 fok83 (hNo _) ?_;rintro gv s ⟨hk,hg⟩;refine ⟨hk.next,?_⟩;obtain ⟨g1,g2,g3,g4,g5,g6⟩:=iu2 hT hM2 hk hg (by simp[noL]) w.1;simp only[go_sem,g1];exact ⟨_,clv',rfl,g2,g3,g4,g5,g6⟩
theorem jg7 (a:ab7)(hA:AOK a)(hO:a.bo2)(rp:Nat)(c1 c3 c4:IV)(σ:Store)(p q:Nat)(hp:p<a.l.length)(hq:q<(a.pk p).conflicts.length)(hmay:an8 (a.bb1 ⟨3,p,q⟩) 1=0)(tp mid:Nat)(allv clv:IV)(t:ah6)
  (ho:σ.obj rp=zg (.cells [a.v,c1,.ptr tp 0,c3,c4])) (hrp:rp<σ.next) (hM:aq8 σ tp mid (ad7 a.l).v allv clv a.l t) (hok:t.OK a.l.length) (hfw:t.few) (hh:t.h+24<=2^20) :
  C Tryz.prog EE 53 [.ptr rp 0,.agg (⟨3,p,q⟩:Itm).cs] σ (jj4 σ tp mid (ad7 a.l).v allv clv a.l (a.ai3 ⟨3,p,q⟩ t)):=by
 have hit:a.ai3 ⟨3,p,q⟩ t=([noL [(p:Int)]++[-((a.bb1 ⟨3,p,q⟩).bp2 a.l p t).1]],((a.bb1 ⟨3,p,q⟩).bp2 a.l p t).2):=rfl;rw[hit];refine ir8 (C_f fok53 (nZ rfl) ?_);have hf:=(hA.fit _ (by8 a hp)).rich (2,(a.pk p).conflicts) (by simp[aa2.rows]);obtain ⟨f1,f2⟩:=hf.2 _ (getD_in _ hq);have e2:=ee5 (a.pk p).conflicts hq;have hde:(a.pk p).conflicts.getD q default=a.bb1 ⟨3,p,q⟩:=rfl;rw[hde] at e2 f1 f2;obtain ⟨m1,_,m3⟩:=bx2 hmay (.inl rfl);have hrg:=(bm7 a.l hO.len p (a.bb1 ⟨3,p,q⟩) (.inl m1) t hok);have hL:=fun σ' h=>it4 a.l hO.len hA.small p (a.bb1 ⟨3,p,q⟩) hmay f1 σ' tp mid allv clv t h hok hfw om
 have hP:=ay6 a;have hK:=eh2 a hA p hp;have e3:((a.pk p).cs.drop 8).head? = zg (aj6 (a.pk p).conflicts):=rfl;have hlen:=hO.len;have hNo:=fun σ=>jg2 [(p:Int)] (by simp) (fun y hy=>by rw[zp] at hy; omega) σ
 have vcs:a.v.cs=[a.v]:=rfl;have vlf:a.v.leaf=true:=rfl;have pvl:a.p.v.leaf=true:=rfl;have pvc:a.p.v.cs=[a.p.v]:=rfl;have hxc:(⟨3,p,q⟩:Itm).cs=[.int .u8 3,.int .i64 p,.int .i64 q]:=rfl;have d3:(0:Int)<=(q:Int):=om
 have d4:(q:Int)<(a.pk p).conflicts.length:=om
 have n11:∀ i,i<σ.next->¬ i=σ.next+1+1+1+1+1+1+1+1+1+1+1:=fun i hi=>by omega
 rw[hxc];generalize a.v=AV at *;generalize a.p.v=PV at *;generalize hRd:a.bb1 ⟨3,p,q⟩=R at *;generalize hw:R.bp2 a.l p t=w at *;have hwr:=hrg.ok.2;have hwl:=hrg.le.2;simp only[ic53,go_sem,ho,vcs,vlf,pvl,pvc]
 first|refine aa3 fok30 (hP) ?_|refine aa7 (hP) ?_
 simp only[go_sem,pvl,pvc]
 first|refine aa3 fok45 (hK) ?_|refine aa7 (hK) ?_
 simp only[go_sem,af6,af4,ac9];simp only[n11 rp hrp,if_false,ho,go_sem,e2,e3,d3,d4,zc,ab8,ab6,ab1];have hKt:∀ (m m2:Nat) (A B:aj5),Kept σ ⟨σ.next+m+m2,(((⟨σ.next+m,σ.obj⟩:Store).put (σ.next+1+1+1+1+1+1+1+1+1+1+1) A).put (σ.next+1+1+1+1+1+1+1+1+1+1+1) B).obj⟩:=fun m m2 A B=>⟨by show σ.next<=σ.next+m+m2; omega,fun i hi=>by simp only[aa5,n11 i hi,if_false]⟩
 refine ac5 fok84 (hL _ (hM.mono (hKt _ _ _ _).next (hKt _ _ _ _).obj)) ?_;rintro v u ⟨w',rfl,hO2⟩;have hO3:=hO2.from (ar7 (hKt _ _ _ _) tp mid clv);refine ⟨by obtain ⟨_,_,g,_⟩:=hO2; exact g.next,?_⟩;obtain ⟨rfl,clv',hT,hM2⟩:=hO3;simp only[go_sem];refine ac5 fok83 (hNo _) ?_;rintro gv s ⟨hk,hg⟩;refine ⟨hk.next,?_⟩;have wn:IntKind.wrap .i64 (0-w.1)=-w.1:=by have:=hwr.2.1; have:=hwr.2.2; rw[wrap64 om om]; omega
 obtain ⟨g1,g2,g3,g4,g5,g6⟩:=iu2 hT hM2 hk hg (by simp[noL]) (-w.1);simp only[go_sem,wn,g1];exact ⟨_,clv',rfl,g2,g3,g4,g5,g6⟩
end Go.Id.Tryz
namespace Go.Id.Tryz
open Go Go.Id Go.Proofs Go.Shelf Go.Id.Md
def ct7 (k:Int):Nat:=if k=1 then 51 else if k=2 then 52 else if k=3 then 53 else if k=4 then 54 else if k=5 then 55 else if k=6 then 56 else 57
def eh3 (rp:Nat):List (IV×IV):=[(.int .u8 1,.func (.func (ct7 1)) [.ptr rp 0] []),(.int .u8 2,.func (.func (ct7 2)) [.ptr rp 0] []),(.int .u8 3,.func (.func (ct7 3)) [.ptr rp 0] []),(.int .u8 4,.func (.func (ct7 4)) [.ptr rp 0] []),(.int .u8 5,.func (.func (ct7 5)) [.ptr rp 0] []),(.int .u8 6,.func (.func (ct7 6)) [.ptr rp 0] []),(.int .u8 7,.func (.func (ct7 7)) [.ptr rp 0] [])]
theorem jg8 (k:Int):okF Tryz.prog (ct7 k)=true:=by
 unfold ct7;split; · exact fok51.1
 split; · exact fok52.1
 split; · exact fok53.1
 split; · exact fok54.1
 split; · exact fok55.1
 split; · exact fok56.1
 exact fok57.1
theorem hh9 {s:Store}{dm rp:Nat}(h:s.obj dm=zg (.map (eh3 rp))){a:ab7}{x:Itm}(hx:a.Has x):cc3 s 1 .ac1 false (.map dm) (.int .u8 x.kind)=zg (.func (.func (ct7 x.kind)) [.ptr rp 0] []):=by
 simp only[cc3,bz3,h];cases hx<;>rfl
theorem cb4 {P:Program}{E:Nat->IV}{o:Option Store}{S:Store}{K:IV->Store->Prop}(h:o=zg S)(hk:K .undef S):ji4 o K:=by rw[h]; exact hk
theorem bn8 (B:Store)(dm rp n:Nat)(h:n<7):ao4 (B.put dm (.map ((eh3 rp).take n))) 1 (.map dm) (.int .u8 ((n+1:Nat):Int)) (.func (.func (ct7 ((n+1:Nat):Int))) [.ptr rp 0] [])=zg (B.put dm (.map ((eh3 rp).take (n+1)))):=by
 have e1:∀ L,(B.put dm (.map L)).obj dm=zg (.map L):=fun L=>if_pos rfl
 have e2:∀ x y:aj5,(B.put dm x).put dm y=B.put dm y:=fun x y=>by
  unfold Store.put;congr 1;funext i;by_cases hi:i=dm<;>simp[hi]
 simp only[ao4,e1];have:n=0\/n=1\/n=2\/n=3\/n=4\/n=5\/n=6:=om
 rcases this with rfl|rfl|rfl|rfl|rfl|rfl|rfl<;>exact congrArg zg (e2 _ _)
theorem jx3 (a:ab7)(hA:AOK a)(hO:a.bo2)(hmay:∀ p∈a.l,ak1 p=true){x:Itm}(hx:a.Has x)(rp:Nat)(c1 c3 c4:IV)(σ:Store)(tp mid:Nat)(allv clv:IV)(t:ah6)
  (ho:σ.obj rp=zg (.cells [a.v,c1,.ptr tp 0,c3,c4])) (hrp:rp<σ.next) (hM:aq8 σ tp mid (ad7 a.l).v allv clv a.l t) (hok:t.OK a.l.length) (hfw:t.few) (hh:t.h+24<=2^20) :
  C Tryz.prog EE (ct7 x.kind) [.ptr rp 0,.agg x.cs] σ (jj4 σ tp mid (ad7 a.l).v allv clv a.l (a.ai3 x t)):=by
 have hlen:=hO.len
 cases hx with
 | au7 p hp _=>exact fj1 hM (jw6 rp σ ⟨1,p,0⟩ (by simp only; omega))
 | need p q hp hq=>exact jx2 a hA hO rp c1 c3 c4 σ p q hp hq (fi7 (bx3 (bj9 (hmay _ (by8 a hp))).1 _ (getD_in _ hq)) (.inl rfl)) tp mid allv clv t ho hrp hM hok hfw hh
 | clash p q hp hq=>exact jg7 a hA hO rp c1 c3 c4 σ p q hp hq (fi7 (bx3 (bj9 (hmay _ (by8 a hp))).2 _ (getD_in _ hq)) (.inr rfl)) tp mid allv clv t ho hrp hM hok hfw hh
 | over p q hp hq=>exact ir7 hM (jw9 a hA rp _ _ _ _ σ p q hp hq ho hrp)
 | twin p q h1 h4 _=>exact fj1 hM (jw7 rp σ ⟨5,p,q⟩ (by simp only; omega) (by simp only; omega))
 | keep i hi _=>exact fj1 hM (jw8 a hA rp _ _ _ _ σ ⟨6,i,0⟩ ho)
 | job j hj _=>
  by_cases hk:(a.jb j).kind=1
  ·have e:a.ai3 ⟨7,j,0⟩ t=([upL (a.meant j)],t):=by
    show (a.dg2 j,t)=_;unfold ab7.dg2;rw[if_pos hk]
   rw[e];exact fj1 hM (jx1 a hA rp _ _ _ _ σ j hj hk ho)
  ·exact ir7 hM (kh5 a hA rp _ _ _ _ σ j hj hk ho hrp)
def ab7.rN (a:ab7):List (List (List Int))×ah6:=a.ai5 a.items ⟨0,[],[]⟩
def ab7.rV (a:ab7):IV:=bb9 a.v a.mv (ar9 a.items) (ad7 a.l).v a.l (ab7.rN a).2 (ab7.rN a).1
theorem fd5 (a:ab7)(hA:AOK a)(hO:a.bo2)(hI:0<=a.p.inst)(hmay:∀ p∈a.l,ak1 p=true)(hit:a.items.length<=20000):PC Tryz.prog EE 24 [a.v] (.tuple [ab7.rV a,.int .i64 0]):=by
 refine ae6 hE fok24 (nZ rfl) (ah3 (ag1 a)) ?_;have hMod:=ez6 a hA hI om;have hP:=ay6 a;have hItm:=gv5 a om;have hNew:=fun σ=>gu9 a.p hA.len (fun x hx=>⟨hA.fit x hx,hA.tiny x hx⟩) σ
 have vcs:a.v.cs=[a.v]:=rfl;have vlf:a.v.leaf=true:=rfl;have mcs':a.mv.cs=[a.mv]:=rfl;have mlf:a.mv.leaf=true:=rfl;have pvl:a.p.v.leaf=true:=rfl;have pvc:a.p.v.cs=[a.p.v]:=rfl;simp only[ic24,go_sem,vcs,vlf];refine aa3 fok48 (hMod) ?_;simp only[go_sem,vcs,vlf]
 first|refine aa3 fok30 (hP) ?_|refine aa7 (hP) ?_
 simp only[go_sem,pvl,pvc];refine ac5 fok49 (hNew _) ?_;rintro v s ⟨tp,mid,allv,rfl,hk0,htp,hM0⟩;refine ⟨hk0.next,?_⟩;simp only[go_sem,vcs,vlf,mcs',mlf];refine aa3 fok50 (hItm) ?_;have ivl:(ar9 a.items).leaf=true:=rfl;have ivc:(ar9 a.items).cs=[ar9 a.items]:=rfl;simp only[go_sem,vcs,vlf,mcs',mlf,ivl,ivc];refine cb4 (P:=Tryz.prog) (E:=EE) (bn8 _ (s.next+1) s.next 0 (by decide)) ?_;simp only[go_sem];refine cb4 (P:=Tryz.prog) (E:=EE) (bn8 _ (s.next+1) s.next 1 (by decide)) ?_;simp only[go_sem];refine cb4 (P:=Tryz.prog) (E:=EE) (bn8 _ (s.next+1) s.next 2 (by decide)) ?_;simp only[go_sem];refine cb4 (P:=Tryz.prog) (E:=EE) (bn8 _ (s.next+1) s.next 3 (by decide)) ?_;simp only[go_sem];refine cb4 (P:=Tryz.prog) (E:=EE) (bn8 _ (s.next+1) s.next 4 (by decide)) ?_;simp only[go_sem];refine cb4 (P:=Tryz.prog) (E:=EE) (bn8 _ (s.next+1) s.next 5 (by decide)) ?_;simp only[go_sem];refine cb4 (P:=Tryz.prog) (E:=EE) (bn8 _ (s.next+1) s.next 6 (by decide)) ?_;have nsd:¬ s.next=s.next+1:=om
 have ill:∀ σ:Store,cc5 0 σ (ar9 a.items)=zg (.int .i64 a.items.length):=fun σ=>by unfold ar9; simp only[go_sem]
 have ht7:(eh3 s.next).take 7=eh3 s.next:=rfl
 have hB0:cx4 ((({ next:=s.next+1+1,obj:=({ next:=s.next+1,obj:=s.obj }:Store).put s.next (aj5.cells [a.v,a.mv,IV.ptr tp 0,ar9 a.items,IV.aa1]) |>.obj }:Store).put (s.next+1) (aj5.map (eh3 s.next)))) a.v a.mv (ar9 a.items) s.next (s.next+1) tp mid (eh3 s.next) (ad7 a.l).v allv .aa1 .aa1 a.l ⟨0,[],[]⟩ []:=by
  have l1:=hM0.lt.1;have l2:=hM0.lt.2
  exact {
   cell:=by simp only[aa5,nsd,if_true,if_false]
   map:=by simp only[aa5,if_true]
   tab:=hM0.mono (by show s.next<=s.next+1+1; omega) fun i hi=>by
    have h1:¬ i=s.next:=om
    have h2:¬ i=s.next+1:=om
    simp only[aa5,h1,h2,if_false]
   grow:=.inl ⟨rfl,rfl⟩
   ne:=fun _ _ _ e=>by cases e
   na:=fun _ _ _ _ e=>by cases e
   lt:=⟨by show s.next<s.next+1+1; omega,by show s.next+1<s.next+1+1; omega⟩
   dt:=⟨om,om,om,om⟩ }
 simp only[ht7,go_sem,nsd,ill];generalize hrp:s.next=rp at *;clear hk0 hM0 hMod hNew ht7 hrp;refine ab3 noT (fun i fr u=>∃ clv cv,fr=[(7,.ptr rp 0),(8,.map (rp+1)),(56,ar9 a.items),(57,.int .i64 a.items.length),(58,.int .i64 (i:Int))]/\cx4 u a.v a.mv (ar9 a.items) rp (rp+1) tp mid (eh3 rp) (ad7 a.l).v allv clv cv a.l (a.ai5 (a.items.take i) ⟨0,[],[]⟩).2 (a.ai5 (a.items.take i) ⟨0,[],[]⟩).1) a.items.length ⟨.aa1,.aa1,rfl,hB0⟩ ?_;clear hB0;rintro i fr u hle ⟨clv,cv,rfl,hB⟩;have h00:(⟨0,[],[]⟩:ah6).OK a.l.length:=⟨fun _ h=>(by cases h),fun _ h=>(by cases h),.nil⟩;have h0f:(⟨0,[],[]⟩:ah6).few:=zb _;have hin:∀ x∈a.items.take i,a.Has x:=fun x hx=>a.df3.1 (z5 hx)
 obtain ⟨⟨_,t2⟩,_,t3,_⟩:=ab7.bw9 hO (a.items.take i) hin _ h00;have tf:=ab7.eo8 hO (a.items.take i) hin _ h0f;have tl:=a.eo7 (a.items.take i) ⟨0,[],[]⟩;have hsn:=fun x=>a.gc2 x (a.items.take i) ⟨0,[],[]⟩
 rw[zn] at t2 tl;by_cases hlt:i<a.items.length
 ·obtain ⟨x,hx,hxi,hdr,hget,htk⟩:=ad6 a.items i hlt;have c1:(i:Int)<a.items.length:=om
  have c2:(0:Int)<=(i:Int):=om
  have w1:=ad1 (i:=i) om;have hH:=a.df3.1 hx;have hsn:=hsn x;rw[<- htk] at hsn;generalize a.ai5 (a.items.take i) ⟨0,[],[]⟩=w at *;have k0:x.cs.head? = zg (.int .u8 x.kind):=rfl;have hd:=hB.map;have l2:=hB.lt.2;have n1:¬ rp+1=u.next:=om
  have hlk:∀ T:Store,T.obj (rp+1)=zg (.map (eh3 rp))->cc3 T 1 .ac1 false (.map (rp+1)) (.int .u8 x.kind)=zg (.func (.func (ct7 x.kind)) [.ptr rp 0] []):=fun T h=>hh9 h hH
  have iv:ar9 a.items=.aa4 (a.items.map Itm.cs):=rfl;have hBK:=fun A B=>hB.mono (Kept.box u A B)
  simp only[go_sem,iv,c1,c2,hget,aj4,ah7,ah1,k0];rw[hlk _ (by simp only[aa5,n1,if_false]; exact hd)];simp only[go_sem,aj4,ah7,ah1];refine an2 (jg8 _) (jx3 a hA hO hmay hH rp _ _ _ _ tp mid allv clv w.2 (hBK _ _).cell (hBK _ _).lt.1 (hBK _ _).tab t3 tf (by show w.2.h+24<=_; have:(⟨0,[],[]⟩:ah6).h=0:=rfl; omega)) ?_;rintro v u2 ⟨rfl,clv',hT,hM2⟩;refine ⟨hT.next,?_⟩;have hB2:=(hBK _ _).eff hT hM2;obtain ⟨s1,e1,e2,e3,hB3⟩:=gt9 (nid:=u2.next) (k:=1) hB2 (a.ai3 x w.2).1 om (zb _) (zk _);have hc2:=hB2.cell;have qlf:(bx5 (a.ai3 x w.2).1).leaf=true:=rfl;have qcs:(bx5 (a.ai3 x w.2).1).cs=[bx5 (a.ai3 x w.2).1]:=rfl;rw[iv] at hc2 e3;generalize bx5 (a.ai3 x w.2).1=qv at *;simp only[go_sem,hc2,qlf,qcs,e1,e3,w1];refine ⟨hlt,clv',?_⟩;rw[hsn];exact ⟨_,hB3⟩
 ·have hi':i=a.items.length:=om
  subst hi';have c1:¬ (a.items.length:Int)<a.items.length:=om
  rw[zh] at hB t3;simp only[go_sem,c1];refine ey4 (hB.frz (ag1 a) (aq7 a) (ax1 _) (as2 _) av1 (fun e he=>(ax2 _ e he).1) t3.kn)
end Go.Id.Tryz
namespace Go.Id.Md
open Go Go.Id
theorem jx4 {σ s:Store}{gv:IV}{esz nid k:Nat}{es xs:List (List IV)}(hk:Kept σ s)(hg:Grow s gv esz es)(hi:∀ i k,gv=.slice i 0 k esz->σ.next<=i)(h:∀ x∈es,x.length=esz/\x.all IV.leaf=true)(hx:∀ x∈xs,x.length=esz/\x.all IV.leaf=true)(hn:es.length+xs.length<=2147483648)
  (h1:s.next<=nid) (h2:nid<s.next+k):∃ v' s',be9 ⟨s.next+k,s.obj⟩ nid esz gv (.aa4 xs)=zg (v',s')/\Kept σ s'/\Grow s' v' esz (es++xs)/\∀ i m,v'=.slice i 0 m esz->σ.next<=i:=by
 have hg1:Grow (⟨s.next+k,s.obj⟩:Store) gv esz es:=hg.mono (zo _ _) fun _ _ _=>rfl
 have hkn:=hk.next;obtain ⟨v',s',e1,e2,e3,e4,e5⟩:=db8 (nid:=nid) hg1 h hx hn h2;refine ⟨v',s',e1,⟨by rw[e2]; exact zz hkn (zo _ _),fun i hl=>?_⟩,e3,fun i m e=>?_⟩
 ·rw[e4 i om fun k e=>by have:=hi i k e; omega];exact hk.obj i hl
 ·rcases e5 with e5|e5
  ·exact hi i m (by rw[<- e5]; exact e)
  ·rw[e5] at e; cases e; omega
end Go.Id.Md
namespace Go.Id.Tryz
open Go Go.Id Go.Proofs Go.Shelf Go.Id.Md
theorem eh4 (xv:IV)(P:List aa2)(t:ah6)(hl:t.cl.length<2^30)(hq:∀ q∈t.cl,q.length<2^30)(σ:Store):C Tryz.prog EE 58 [tabV xv P t] σ (fun v s=>Kept σ s/\Grow s v 1 (t.cl.map clE)/\∀ i k,v=.slice i 0 k 1->σ.next<=i):=by
 refine C_f fok58 (nZ rfl) ?_;unfold tabV bx5;generalize t.cl=L at *;simp only[ic58,go_sem,am5]
 refine ab3 noT (fun i fr s=>∃ gv,fr=[(3,gv),(11,.aa4 (L.map clE)),(12,.int .i64 L.length),(13,.int .i64 (i:Int))]/\Kept σ s/\Grow s gv 1 ((L.take i).map clE)/\∀ i k,gv=.slice i 0 k 1->σ.next<=i) L.length
  ⟨.aa1,rfl,Kept.refl σ,.inl ⟨rfl,rfl⟩,fun _ _ e=>by cases e⟩ ?_
 rintro i fr s hle ⟨gv,rfl,hk,hg,hgi⟩;by_cases hlt:i<L.length
 ·obtain ⟨q,hqm,_,hdr,hget,htk⟩:=ad6 L i hlt;have d1:(i:Int)<L.length:=om
  have d2:(0:Int)<=i:=om
  have w1:=ad1 (i:=i) om;have hc:=dd3 (P:=Tryz.prog) (E:=EE) fun σ=>ee4 q (hq q hqm) σ
  obtain ⟨g1,g2,g3,g4⟩:=fi9 (nid:=s.next) (k:=1) (e:=clE q) hk hg hgi (br6 _) ⟨rfl,rfl⟩ (by rw[za,zn]; omega) (zb _) (zk _);have hcl:clE q=[.aa4 (q.map Md.ad9)]:=rfl;have hbe:(L.take (i+1)).map clE=(L.take i).map clE++[clE q]:=by rw[htk,zl]; rfl
  rw[hcl] at g1 g2 g3 hbe;rw[za] at g1 g3 g4;generalize q.map Md.ad9=nv at *;simp only[go_sem,d1,d2,hget,hcl];refine aa3 fok59 (hc) ?_;simp only[go_sem,g1,w1];exact ⟨hlt,_,rfl,g2,by rw[hbe]; exact g3,g4⟩
 ·have hi':i=L.length:=om
  subst hi';have d1:¬ (L.length:Int)<L.length:=om
  rw[zh] at hg;simp only[go_sem,d1];exact ⟨hk,hg,hgi⟩
theorem dj3 (L:List (List Int))(hl:L.length<2^30)(hq:∀ q∈L,q.length<2^30):PC Tryz.prog EE 28 [bx5 L] (bx5 L):=by
 refine ae6 hE fok28 (nZ rfl) (ah3 (bm8 L)) ?_;unfold bx5;simp only[ic28,go_sem]
 refine ab3 noT (fun i fr s=>∃ gv,fr=[(3,gv),(6,.aa4 (L.map clE)),(7,.int .i64 L.length),(8,.int .i64 (i:Int))]/\Kept ⟨0,fun _=>none⟩ s/\Grow s gv 1 ((L.take i).map clE)/\∀ i k,gv=.slice i 0 k 1->0<=i) L.length
  ⟨.aa1,rfl,Kept.refl _,.inl ⟨rfl,rfl⟩,fun _ _ e=>by cases e⟩ ?_
 rintro i fr s hle ⟨gv,rfl,hk,hg,hgi⟩;by_cases hlt:i<L.length
 ·obtain ⟨q,hqm,_,hdr,hget,htk⟩:=ad6 L i hlt;have d1:(i:Int)<L.length:=om
  have d2:(0:Int)<=i:=om
  have w1:=ad1 (i:=i) om;have hc:=dd3 (P:=Tryz.prog) (E:=EE) fun σ=>ee4 q (hq q hqm) σ
  obtain ⟨g1,g2,g3,g4⟩:=fi9 (nid:=s.next) (k:=1) (e:=clE q) hk hg hgi (br6 _) ⟨rfl,rfl⟩ (by rw[za,zn]; omega) (zb _) (zk _);have hcl:clE q=[.aa4 (q.map Md.ad9)]:=rfl;have hbe:(L.take (i+1)).map clE=(L.take i).map clE++[clE q]:=by rw[htk,zl]; rfl
  rw[hcl] at g1 g2 g3 hbe;rw[za] at g1 g3 g4;generalize q.map Md.ad9=nv at *;simp only[go_sem,d1,d2,hget,hcl];refine aa3 fok59 (hc) ?_;simp only[go_sem,g1,w1];exact ⟨hlt,_,rfl,g2,by rw[hbe]; exact g3,g4⟩
 ·have hi':i=L.length:=om
  subst hi';have d1:¬ (L.length:Int)<L.length:=om
  rw[zh] at hg;simp only[go_sem,d1]
  exact hg.frz (fun x hx=>(br6 _ x hx).1) (fun _ _=>zr _) fun e he c hc=>by
   obtain ⟨y,_,rfl⟩:=zm.1 he;exact eo6 y c hc
end Go.Id.Tryz
namespace Go.Id.Tryz
open Go Go.Id Go.Proofs Go.Shelf Go.Id.Md
theorem hi6 {xv:IV}(hx:Bnd 0 xv)(P:List aa2)(t:ah6):Bnd 0 (tabV xv P t):=.ab9 _ fun c hc=>by
 simp only[zj,zt,or_false] at hc;rcases hc with rfl|rfl|rfl|rfl|rfl
 ·exact hx
 ·exact au2 P
 ·exact .int _ _
 ·exact bm8 _
 ·exact .ak9 _ (fun e he=>by obtain ⟨x,_,rfl⟩:=zm.1 he; exact .str _) fun e he=>by obtain ⟨x,_,rfl⟩:=zm.1 he; exact .int _ _
theorem bc7 {av c1 c3 xv:IV}(ha:Bnd 0 av)(h1:Bnd 0 c1)(h3:Bnd 0 c3)(hx:Bnd 0 xv)(P:List aa2)(t:ah6)(cs:List (List (List Int))):Bnd 0 (bb9 av c1 c3 xv P t cs):=.ab9 _ fun c hc=>by
 simp only[zj,zt,or_false] at hc;rcases hc with rfl|rfl|rfl|rfl|rfl
 ·exact ha
 ·exact h1
 ·exact hi6 hx P t
 ·exact h3
 ·exact .aa4 _ fun e he c hc=>by
   obtain ⟨x,_,rfl⟩:=zm.1 he;rw[bkE,zp] at hc;subst hc;exact bm8 x
variable {av c1 c3 xv:IV} (ha:Bnd 0 av) (h1:Bnd 0 c1) (h3:Bnd 0 c3) (hx:Bnd 0 xv) (P:List aa2) (t:ah6) (cs:List (List (List Int)))
theorem iu3 (hl:t.cl.length<2^30)(hq:∀ q∈t.cl,q.length<2^30)(σ:Store):C Tryz.prog EE 27 [bb9 av c1 c3 xv P t cs] σ (fun v s=>Kept σ s/\Grow s v 1 (t.cl.map clE)/\∀ i k,v=.slice i 0 k 1->σ.next<=i):=by
 refine C_f fok27 (nZ rfl) ?_;have hC:=fun σ=>eh4 xv P t hl hq σ
 have tcs:(tabV xv P t).cs=[tabV xv P t]:=rfl;have tlf:(tabV xv P t).leaf=true:=rfl;unfold bb9;generalize tabV xv P t=T at *;simp only[ic27,go_sem,am5,tcs,tlf];refine ac5 fok58 (hC _) ?_;rintro v s ⟨hk,hg⟩;refine ⟨hk.next,?_⟩;simp only[go_sem];exact ⟨hk,hg⟩
theorem ch4 {cs:List (List (List Int))}{m:Nat}(h:∀ q∈cs,q.length<=m):cs.flatten.length<=m*cs.length:=by
 induction cs with
 | nil=>exact zb _
 | cons q cs ih=>
  have h1:=h q List.mem_cons_self;have h2:=ih fun x hx=>h x (List.mem_cons_of_mem _ hx)
  rw[List.flatten_cons,zd,z0,Nat.mul_add]; omega
include ha h1 h3 hx
theorem jx5 (hl:t.cl.length<2^30)(hq:∀ q∈t.cl,q.length<2^30)(hc:cs.length<=20000)(hcq:∀ q∈cs,q.length<=1000/\∀ y∈q,y.length<2^30):PC Tryz.prog EE 9 [bb9 av c1 c3 xv P t cs] (bx5 (t.cl++cs.flatten)):=by
 refine ae6 hE fok9 (nZ rfl) (ah3 (bc7 ha h1 h3 hx P t cs)) ?_;have hB:=fun σ=>iu3 (av:=av) (c1:=c1) (c3:=c3) (xv:=xv) P t cs hl hq σ
 unfold bb9 at *;generalize tabV xv P t=T at *;simp only[ic9,go_sem,am5];refine ac5 fok27 (hB _) ?_;rintro v s ⟨hk,hg,hgi⟩;refine ⟨hk.next,?_⟩;simp only[go_sem]
 refine ab3 noT (fun i fr s=>∃ gv,fr=[(3,gv),(13,.aa4 (cs.map bkE)),(14,.int .i64 cs.length),(15,.int .i64 (i:Int))]/\Kept ⟨0,emp.obj⟩ s/\Grow s gv 1 ((t.cl++(cs.take i).flatten).map clE)/\∀ i k,gv=.slice i 0 k 1->0<=i) cs.length
  ⟨v,rfl,hk,by simpa using hg,hgi⟩ ?_
 clear hg hgi hk;rintro i fr s hle ⟨gv,rfl,hk,hg,hgi⟩;by_cases hlt:i<cs.length
 ·obtain ⟨q,hqm,_,hdr,hget,htk⟩:=ad6 cs i hlt;have d1:(i:Int)<cs.length:=om
  have d2:(0:Int)<=i:=om
  have w1:=ad1 (i:=i) om;have hcp:=dj3 q (by have:=(hcq q hqm).1; omega) (hcq q hqm).2;have hfl:=ch4 (cs:=cs.take i) (m:=1000) fun x hx=>(hcq x (z5 hx)).1
  rw[zn] at hfl;obtain ⟨v',s',g1,g2,g3,g4⟩:=jx4 (σ:=⟨0,emp.obj⟩) (nid:=s.next) (k:=1) (xs:=q.map clE) hk hg hgi (br6 _) (br6 _) (by rw[za,za,zd]; have:=(hcq q hqm).1; omega) (zb _) (zk _);have hbe:(t.cl++(cs.take (i+1)).flatten).map clE=(t.cl++(cs.take i).flatten).map clE++q.map clE:=by rw[htk,List.flatten_append,<- zi,zl]; simp
  have hcv:bx5 q=.aa4 (q.map clE):=rfl;rw[hcv] at hcp;simp only[go_sem,d1,d2,hget,bkE,hcv];refine aa3 fok28 (hcp) ?_;simp only[go_sem,g1,w1];exact ⟨hlt,v',rfl,g2,by rw[hbe]; exact g3,g4⟩
 ·have hi':i=cs.length:=om
  subst hi';have d1:¬ (cs.length:Int)<cs.length:=om
  rw[zh] at hg;simp only[go_sem,d1]
  exact hg.frz (fun x hx=>(br6 _ x hx).1) (fun _ _=>zr _) fun e he c hc=>by
   obtain ⟨y,_,rfl⟩:=zm.1 he;exact eo6 y c hc
theorem fd6 (hP:P.length<2^30)(ht:t.h<2^30):PC Tryz.prog EE 25 [tabV xv P t] (.int .i64 ((P.length+t.h:Nat):Int)):=by
 refine ae6 hE fok25 (nZ rfl) (ah3 (hi6 hx P t)) ?_;have w1:IntKind.wrap .i64 ((P.length:Int)+(t.h:Int))=((P.length+t.h:Nat):Int):=by rw[wrap64 om om]; omega
 unfold tabV;simp only[ic25,go_sem,am5,w1];exact cs8 rfl
theorem hi8 (hP:P.length<2^30)(ht:t.h<2^30):PC Tryz.prog EE 7 [bb9 av c1 c3 xv P t cs] (.int .i64 ((P.length+t.h:Nat):Int)):=by
 refine ae6 hE fok7 (nZ rfl) (ah3 (bc7 ha h1 h3 hx P t cs)) ?_;have hV:=fd6 ha h1 h3 hx P t hP ht;have tcs:(tabV xv P t).cs=[tabV xv P t]:=rfl;have tlf:(tabV xv P t).leaf=true:=rfl;unfold bb9;generalize tabV xv P t=T at *;simp only[ic7,go_sem,am5,tcs,tlf];refine aa3 fok25 (hV) ?_;simp only[go_sem];exact cs8 rfl
theorem gf6:PC Tryz.prog EE 10 [bb9 av c1 c3 xv P t cs] c1:=by
 refine ae6 hE fok10 (nZ rfl) (ah3 (bc7 ha h1 h3 hx P t cs)) ?_;unfold bb9;simp only[ic10,go_sem,am5];exact .keep _ h1
end Go.Id.Tryz
namespace Go.Id.Tryz
open Go Go.Id Go.Proofs Go.Shelf Go.Id.Md
theorem iu4 {v:List Int}{i:Nat}(h:i<v.length):(v.map Md.ad9).getD i []=[.int .i64 (v.getD i 0)]:=by simp[ze,h,Md.ad9]
theorem jg9 (v:List Int)(hl:v.length<2^40)(hv:∀ y∈v,-(2^40)<=y/\y<=2^40)(x:Int)(hx:-(2^40)<=x/\x<=2^40):PC Tryz.prog EE 26 [.aa4 (v.map Md.ad9),.int .i64 x] (.int .i64 (isV v x)):=by
 refine ae6 hE fok26 (nZ rfl) (ah9 (ag8 v) (.int _ _)) ?_;have w1:IntKind.wrap .i64 (0-(v.length:Int))=-(v.length:Int):=by rw[wrap64 om om]; omega
 have w2:IntKind.wrap .i64 (0-x)=-x:=by rw[wrap64 om om]; omega
 unfold isV;by_cases e1:x=0
 ·subst e1;simp only[ic26,go_sem];exact cs8 rfl
 by_cases e2:(v.length:Int)<x
 ·rw[if_pos (.inr (.inl e2))];simp only[ic26,go_sem,e1,e2];exact cs8 rfl
 by_cases e3:x < -(v.length:Int)
 ·rw[if_pos (.inr (.inr e3))];simp only[ic26,go_sem,e1,e2,e3,w1];exact cs8 rfl
 rw[if_neg (by simp only[not_or]; exact ⟨e1,e2,e3⟩)];by_cases e4:0<x
 ·obtain ⟨m,hm⟩:=z4 (show 0<=x-1 by omega);have hml:m<v.length:=om
  have g:=iu4 hml;have d1:(0:Int)<=(m:Int):=om
  have d2:(m:Int)<v.length:=om
  have w6:IntKind.i64.wrap (m:Int)=(m:Int):=wrap64 om om;rw[if_pos e4,hm,zc];simp only[ic26,go_sem,e1,e2,e3,e4,w1,hm,w6,d1,d2,zc,g];exact cs8 rfl
 ·obtain ⟨m,hm⟩:=z4 (show 0<=-x-1 by omega);have hml:m<v.length:=om
  have g:=iu4 hml;have d1:(0:Int)<=(m:Int):=om
  have d2:(m:Int)<v.length:=om
  have w6:IntKind.i64.wrap (m:Int)=(m:Int):=wrap64 om om;have hy:v.getD m 0∈v:=by rw[ze,zu hml]; exact List.getElem_mem hml
  have hy:=hv _ hy;have w5:IntKind.wrap .i64 (0-v.getD m 0)=-(v.getD m 0):=by rw[wrap64 om om]; omega
  rw[if_neg e4,hm,zc];simp only[ic26,go_sem,e1,e2,e3,e4,w1,w2,hm,w6,d1,d2,zc,g,w5];exact cs8 rfl
theorem dj4 (v:List Int)(hl:v.length<2^40)(hv:∀ y∈v,-(2^40)<=y/\y<=2^40)(L:List (List Int))(hL:L.length<2^40)(hq:∀ q∈L,q.length<2^40/\∀ x∈q,-(2^40)<=x/\x<=2^40):PC Tryz.prog EE 8 [.aa4 (v.map Md.ad9),bx5 L] (.bool (dk9 v L)):=by
 refine ae6 hE fok8 (nZ rfl) (ah9 (ag8 v) (bm8 L)) ?_;have hI:=fun x hx=>jg9 v hl hv x hx
 have vcs:(IV.aa4 (v.map Md.ad9)).cs=[.aa4 (v.map Md.ad9)]:=rfl;unfold bx5;simp only[ic8,go_sem];generalize v.map Md.ad9=V at *;refine ab3 noT (fun i fr s=>fr=[(0,.aa4 V),(1,.aa4 (L.map clE)),(5,.int .i64 (i:Int))]/\dk9 v L=dk9 v (L.drop i)) L.length ⟨rfl,rfl⟩ ?_;rintro i fr s hle ⟨rfl,hh⟩;by_cases hlt:i<L.length
 ·obtain ⟨q,hqm,_,hdr,hget,htk⟩:=ad6 L i hlt;have d1:(i:Int)<L.length:=om
  have d2:(0:Int)<=i:=om
  have w1:=ad1 (i:=i) om;obtain ⟨hql,hqx⟩:=hq q hqm;have hcl:clE q=[.aa4 (q.map Md.ad9)]:=rfl;have hh:dk9 v L=((q.any fun x=>decide (isV v x=1))&&dk9 v (L.drop (i+1))):=by rw[hh,hdr]; rfl
  simp only[go_sem,d1];refine ab3 noT (fun k fr s=>∃ b:Bool,fr=[(0,.aa4 V),(1,.aa4 (L.map clE)),(5,.int .i64 (i:Int)),(6,.bool b),(7,.int .i64 (k:Int))]/\(q.any fun x=>decide (isV v x=1))=(b||(q.drop k).any fun x=>decide (isV v x=1))) q.length ⟨false,rfl,rfl⟩ ?_;rintro k fr t hk ⟨b,rfl,hb⟩;by_cases hkl:k<q.length
  ·obtain ⟨x,hxm,_,hdr2,hget2,htk2⟩:=ad6 q k hkl;have d3:(k:Int)<q.length:=om
   have d4:(0:Int)<=k:=om
   have w2:=ad1 (i:=k) om;have hIx:=hI x (hqx x hxm);rw[hdr2,List.any_cons,<- Bool.or_assoc] at hb
   cases b with
   | true=>
    simp only[go_sem,d1,d2,d3,d4,hget,hcl,hget2,w2]
    exact ⟨hkl,true,rfl,by simpa using hb⟩
   | false=>
    simp only[go_sem,d1,d2,d3,d4,hget,hcl,hget2,Md.ad9];refine aa3 fok26 (hIx) ?_;simp only[go_sem,w2];exact ⟨hkl,_,rfl,by rw[Bool.false_or] at hb; exact hb⟩
  ·have hk':k=q.length:=om
   subst hk';have d3:¬ (q.length:Int)<q.length:=om
   rw[zw,List.any_nil,z3] at hb
   cases b with
   | true=>
    rw[hb,zv] at hh;simp only[go_sem,d1,d2,d3,hget,hcl,w1]
    exact ⟨hlt,hh⟩
   | false=>
    rw[hb,z2] at hh;simp only[go_sem,d1,d2,d3,hget,hcl,hh];exact ab5 rfl
 ·have hi':i=L.length:=om
  subst hi';have d1:¬ (L.length:Int)<L.length:=om
  rw[zw] at hh;simp only[go_sem,d1,hh];exact ab5 rfl
end Go.Id.Tryz
namespace Go.Id.Tryz
open Go Go.Id Go.Proofs Go.Shelf Go.Id.Md
theorem gf7 (a:ab7)(hA:AOK a){c1 c3 xv:IV}(h1:Bnd 0 c1)(h3:Bnd 0 c3)(hx:Bnd 0 xv)(P:List aa2)(t:ah6)(cs:List (List (List Int)))(st:List Bool)(hs:st.length<2^40) :
  PC Tryz.prog EE 12 [bb9 a.v c1 c3 xv P t cs,bk8 st] (.aa4 ((df8 st a.l.length).map Md.ad9)):=by
 refine dd3 fun σ=>?_
 refine C_f fok12 (nZ rfl) ?_;have hP:=ay6 a;have hC:=av9 a.p;have hrl:a.p.rows.length=a.l.length:=by show _=(ac3 a.p).length; simp[ac3]
 rw[hrl] at hC;have vcs:a.v.cs=[a.v]:=rfl;have vlf:a.v.leaf=true:=rfl;have pvl:a.p.v.leaf=true:=rfl;have pvc:a.p.v.cs=[a.p.v]:=rfl;obtain ⟨m,hm⟩:∃ m,m=min st.length a.l.length:=⟨_,rfl⟩
 have hmm:(if (a.l.length:Int)<st.length then (a.l.length:Int) else st.length)=(m:Int):=by
  by_cases h:(a.l.length:Int)<st.length
  ·rw[if_pos h]; omega
  ·rw[if_neg h]; omega
 unfold df8 bb9 bk8;rw[<- hm];generalize a.v=AV at *;generalize a.p.v=PV at *;simp only[ic12,go_sem,am5,vcs,vlf]
 first|refine aa3 fok30 (hP) ?_|refine aa7 (hP) ?_
 simp only[go_sem,pvl,pvc];refine aa3 fok31 (hC) ?_;simp only[go_sem,hmm];refine ab3 noT (fun i fr s=>∃ gv,fr=[(1,.aa4 (st.map ca5)),(5,gv),(17,.int .i64 m),(18,.int .i64 (i:Int))]/\Kept σ s/\al2 s σ.next gv (ba7 (fun n=>st.getD n false) i)) m ⟨.aa1,rfl,Kept.refl σ,.inl ⟨rfl,rfl⟩⟩ ?_;rintro i fr s hle ⟨gv,rfl,hk,hg⟩;by_cases hlt:i<m
 ·have d1:(i:Int)<m:=om
  have d2:(0:Int)<=i:=om
  have d3:(i:Int)<st.length:=om
  have w1:=ad1 (i:=i) om;have g1:=ch1 (st:=st) (n:=i) om;have hsn:=cr2 (fun n=>st.getD n false) i;have hln:=aw6 (fun n=>st.getD n false) i;have hlA:=hA.len
  cases hb:st.getD i false with
  | false=>
   rw[hb] at g1;rw[hb,if_neg (by simp),zq] at hsn;simp only[go_sem,d1,d2,d3,g1,w1]
   exact ⟨hlt,gv,rfl,hk,by rw[hsn]; exact hg⟩
  | true=>
   rw[hb] at g1;rw[hb,if_pos rfl] at hsn;have hap:=bd5 (nid:=s.next) (hg.up 1) (i:Int) om;have hz:=bf4 hk hg (i:Int) (a:=1) (nid:=s.next) (zb _) (zk _) rfl;simp only[go_sem,d1,d2,d3,g1,hap,w1];exact ⟨hlt,_,rfl,hz.1,by rw[hsn]; exact hz.2⟩
 ·have hi':i=m:=om
  subst hi';have d1:¬ (i:Int)<i:=om
  simp only[go_sem,d1];exact ⟨hk,hg⟩
end Go.Id.Tryz
namespace Go.Id.Tryz
open Go Go.Id Go.Proofs Go.Shelf Go.Id.Md
def alN (n:Nat):Bool:=decide (97<=n)&&decide (n<=122)||decide (65<=n)&&decide (n<=90)||decide (48<=n)&&decide (n<=57)
def im6 (n:Nat):Bool:=alN n || [46,95,43,45,47,58,64,126,94].contains n
def kh6 (n:Nat):Bool:=alN n || [46,95,43,126,94].contains n
theorem hj4 (b:UInt8):bf7 b=im6 b.toNat:=by
 have h:∀ n,n<256->bf7 (UInt8.ofNat n)=im6 n:=by decide +kernel
 have:=h b.toNat b.toNat_lt
 rwa [z7] at this
theorem im7 (b:UInt8):bp1 b=kh6 b.toNat:=by
 have h:∀ n,n<256->bp1 (UInt8.ofNat n)=kh6 n:=by decide +kernel
 have:=h b.toNat b.toNat_lt
 rwa [z7] at this
theorem im8 (a:Int):PC Tryz.prog EE 46 [.int .u8 a] (.bool (ca3 a)):=by
 refine ae6 hE fok46 (nZ rfl) (ah3 (.int _ _)) ?_;unfold ca3 ao2;by_cases h1:(2:Int)<=a
 ·have e1:(1:Int)<=a:=om
  have e2:¬ a=1:=om
  simp only[ic46,go_sem,h1];exact ab5 (by simp[e1,e2])
 ·simp only[ic46,go_sem,h1];refine ab5 ?_;by_cases e:a=1
  ·simp[e]
  ·have:¬ (1:Int)<=a:=om
   simp[this]
theorem im9 (n:Nat):PC Tryz.prog EE 117 [.int .u8 n] (.bool (im6 n)):=by
 refine ae6 hE fok117 (nZ rfl) (ah3 (.int _ _)) ?_;by_cases g:n=46\/n=95\/n=43\/n=45\/n=47\/n=58\/n=64\/n=126\/n=94
 ·rcases g with rfl|rfl|rfl|rfl|rfl|rfl|rfl|rfl|rfl
  all_goals
   simp only[ic117,go_sem,Int.reduceNeg,qa];exact ab5 (by decide)
 ·simp only[not_or] at g;obtain ⟨g1,g2,g3,g4,g5,g6,g7,g8,g9⟩:=g;have hc:[46,95,43,45,47,58,64,126,94].contains n=false:=by simp[g1,g2,g3,g4,g5,g6,g7,g8,g9]
  have f1:¬ (n:Int)=46:=om
  have f2:¬ (n:Int)=95:=om
  have f3:¬ (n:Int)=43:=om
  have f4:¬ (n:Int)=45:=om
  have f5:¬ (n:Int)=47:=om
  have f6:¬ (n:Int)=58:=om
  have f7:¬ (n:Int)=64:=om
  have f8:¬ (n:Int)=126:=om
  have f9:¬ (n:Int)=94:=om
  unfold im6 alN;rw[hc,z3];by_cases k1:(97:Int)<=n
  ·by_cases k2:(n:Int)<=122
   ·simp only[ic117,go_sem,k1,k2];have a1:97<=n:=om
    have a2:n<=122:=om
    exact ab5 (by simp[a1,a2])
   ·have k3:(65:Int)<=n:=om
    have k4:¬ (n:Int)<=90:=om
    have k5:(48:Int)<=n:=om
    have k6:¬ (n:Int)<=57:=om
    simp only[ic117,go_sem,k1,k2,k3,k4,k5,k6,f1,f2,f3,f4,f5,f6,f7,f8,f9];have a2:¬ n<=122:=om
    have a4:¬ n<=90:=om
    have a6:¬ n<=57:=om
    exact ab5 (by simp[a2,a4,a6])
  ·have a1:¬ 97<=n:=om
   by_cases k3:(65:Int)<=n
   ·by_cases k4:(n:Int)<=90
    ·simp only[ic117,go_sem,k1,k3,k4];have a3:65<=n:=om
     have a4:n<=90:=om
     exact ab5 (by simp[a3,a4])
    ·have k5:(48:Int)<=n:=om
     have k6:¬ (n:Int)<=57:=om
     simp only[ic117,go_sem,k1,k3,k4,k5,k6,f1,f2,f3,f4,f5,f6,f7,f8,f9];have a4:¬ n<=90:=om
     have a6:¬ n<=57:=om
     exact ab5 (by simp[a1,a4,a6])
   ·have a3:¬ 65<=n:=om
    by_cases k5:(48:Int)<=n
    ·by_cases k6:(n:Int)<=57
     ·simp only[ic117,go_sem,k1,k3,k5,k6];have a5:48<=n:=om
      have a6:n<=57:=om
      exact ab5 (by simp[a5,a6])
     ·simp only[ic117,go_sem,k1,k3,k5,k6,f1,f2,f3,f4,f5,f6,f7,f8,f9];have a6:¬ n<=57:=om
      exact ab5 (by simp[a1,a3,a6])
    ·simp only[ic117,go_sem,k1,k3,k5,f1,f2,f3,f4,f5,f6,f7,f8,f9];have a5:¬ 48<=n:=om
     exact ab5 (by simp[a1,a3,a5])
theorem fn1 (s:Str)(hs:s.length<2^62):PC Tryz.prog EE 77 [.str s] (.bool (as5 s)):=by
 refine ae6 hE fok77 (nZ rfl) (ah3 (.str _)) ?_;unfold as5;by_cases h1:1<=s.length
 case neg=>
  have c1:(s.length:Int)<1:=om
  simp only[ic77,go_sem,c1];exact ab5 (by simp[h1])
 by_cases h2:s.length<=64
 case neg=>
  have c1:¬ (s.length:Int)<1:=om
  have c2:(64:Int)<s.length:=om
  simp only[ic77,go_sem,c1,c2];exact ab5 (by simp[h2])
 have c1:¬ (s.length:Int)<1:=om
 have c2:¬ (64:Int)<s.length:=om
 by_cases hw:s∈words
 ·have hc:words.contains s=true:=by simpa using hw
  have e:s=[97,110,100]\/s=[111,114]\/s=[105,102]\/s=[101,108,115,101]\/s=[117,110,108,101,115,115]\/s=[119,105,116,104]\/s=[119,105,116,104,111,117,116]:=by simpa [words] using hw
  rw[hc];rcases e with rfl|rfl|rfl|rfl|rfl|rfl|rfl
  all_goals
   simp only[ic77,go_sem,c1,c2,z0,z1];exact ab5 (by decide)
 have hc:words.contains s=false:=by simpa using hw
 have hn:¬ s=[97,110,100]/\¬ s=[111,114]/\¬ s=[105,102]/\¬ s=[101,108,115,101]/\¬ s=[117,110,108,101,115,115]/\¬ s=[119,105,116,104]/\¬ s=[119,105,116,104,111,117,116]:=by simpa [words,not_or] using hw
 obtain ⟨n1,n2,n3,n4,n5,n6,n7⟩:=hn;rw[hc,decide_eq_true h1,decide_eq_true h2,zv,zv,Bool.not_false,Bool.and_true];simp only[ic77,go_sem,c1,c2,n1,n2,n3,n4,n5,n6,n7];refine ab3 noT (fun i fr t=>fr=[(0,.str s),(3,.int .i64 (i:Int))]/\(s.take i).all bf7=true) s.length ⟨rfl,rfl⟩ ?_;rintro i fr t hi ⟨rfl,ha⟩;by_cases hlt:i<s.length
 ·have d1:(i:Int)<s.length:=om
  have d2:(0:Int)<=i:=om
  have w1:=ad1 (i:=i) om;have hsg:=im9 s[i].toNat;rw[<- hj4] at hsg;simp only[go_sem,d1,d2,zu hlt,zc];refine aa3 fok117 (hsg) ?_
  cases hb:bf7 s[i] with
  | true=>
   simp only[go_sem,w1]
   exact ⟨hlt,by rw[cz8 hlt,ha,hb]; rfl⟩
  | false=>
   simp only[go_sem];exact ab5 (by rw[bk1 hlt hb])
 ·have d1:¬ (i:Int)<s.length:=om
  have e:i=s.length:=om
  subst e;rw[zh] at ha;simp only[go_sem,d1];exact ab5 (by rw[ha])
theorem in1 (s:Str)(hs:s.length<2^62):PC Tryz.prog EE 79 [.str s] (.bool (bj1 s)):=by
 refine ae6 hE fok79 (nZ rfl) (ah3 (.str _)) ?_;have h:=fn1 s hs;unfold bj1;simp only[ic79,go_sem];refine aa3 fok77 (h) ?_
 cases hn:as5 s with
 | false=>simp only[go_sem]; exact ab5 rfl
 | true=>
  cases s with
  | nil=>simp[as5] at hn
  | cons b l=>
   simp only[go_sem,List.head?_cons];refine ab5 ?_
   have:(b.toNat:Int)=47↔b=47:=by
    constructor
    ·intro h; exact UInt8.toNat_inj.1 (by show b.toNat=47; omega)
    ·rintro rfl; rfl
   by_cases e:b=47
   ·subst e; rfl
   ·have e2:¬ (b.toNat:Int)=47:=fun h=>e (this.1 h)
    simp[e,e2]
end Go.Id.Tryz
namespace Go.Id.Tryz
open Go Go.Id Go.Proofs Go.Shelf Go.Id.Md
theorem fn2 (s:Str)(hs:s.length<2^62):PC Tryz.prog EE 118 [.str s] (.bool (az8 s)):=by
 refine ae6 hE fok118 (nZ rfl) (ah3 (.str _)) ?_;simp only[ic118,go_sem];refine ab3 noT (fun i fr t=>fr=[(0,.str s),(3,.int .i64 (i:Int))]/\(s.take i).all bp1=true) s.length ⟨rfl,rfl⟩ ?_;rintro i fr t hi ⟨rfl,ha⟩;by_cases hlt:i<s.length
 ·have d1:(i:Int)<s.length:=om
  have d2:(0:Int)<=i:=om
  have w1:=ad1 (i:=i) om;have hv:=im7 s[i];have step:bp1 s[i]=true->(s.take (i+1)).all bp1=true:=fun h=>by rw[cz8 hlt,ha,h]; rfl
  have fin:bp1 s[i]=false->az8 s=false:=fun h=>by simp only[az8,bk1 hlt h,Bool.and_false]
  simp only[go_sem,d1,d2,zu hlt,zc];generalize s[i].toNat=n at *;by_cases g:n=46\/n=95\/n=43\/n=126\/n=94
  ·rcases g with rfl|rfl|rfl|rfl|rfl
   all_goals
    simp only[go_sem,qa,Int.reduceEq,w1];exact ⟨hlt,step (hv.trans (by decide))⟩
  ·simp only[not_or] at g;obtain ⟨g1,g2,g3,g4,g5⟩:=g;have hc:[46,95,43,126,94].contains n=false:=by simp[g1,g2,g3,g4,g5]
   have f1:¬ (n:Int)=46:=om
   have f2:¬ (n:Int)=95:=om
   have f3:¬ (n:Int)=43:=om
   have f4:¬ (n:Int)=126:=om
   have f5:¬ (n:Int)=94:=om
   unfold kh6 alN at hv;rw[hc,z3] at hv;by_cases k1:(97:Int)<=n
   ·have a5:(48:Int)<=n:=om
    have a6:¬ (n:Int)<=57:=om
    by_cases k2:(n:Int)<=122
    ·have a1:97<=n:=om
     have a2:n<=122:=om
     simp only[go_sem,k1,k2,a5,a6,w1];exact ⟨hlt,step (hv.trans (by simp[a1,a2]))⟩
    ·have k3:(65:Int)<=n:=om
     have k4:¬ (n:Int)<=90:=om
     simp only[go_sem,k1,k2,k3,k4,a5,a6,f1,f2,f3,f4,f5];have b2:¬ n<=122:=om
     have b4:¬ n<=90:=om
     have b6:¬ n<=57:=om
     exact ab5 (fin (hv.trans (by simp[b2,b4,b6]))).symm
   ·have b1:¬ 97<=n:=om
    by_cases k3:(65:Int)<=n
    ·have a5:(48:Int)<=n:=om
     have a6:¬ (n:Int)<=57:=om
     by_cases k4:(n:Int)<=90
     ·simp only[go_sem,k1,k3,k4,a5,a6,w1];have a3:65<=n:=om
      have a4:n<=90:=om
      exact ⟨hlt,step (hv.trans (by simp[a3,a4]))⟩
     ·simp only[go_sem,k1,k3,k4,a5,a6,f1,f2,f3,f4,f5];have b4:¬ n<=90:=om
      have b6:¬ n<=57:=om
      exact ab5 (fin (hv.trans (by simp[b1,b4,b6]))).symm
    ·have b3:¬ 65<=n:=om
     by_cases k5:(48:Int)<=n
     ·by_cases k6:(n:Int)<=57
      ·simp only[go_sem,k1,k3,k5,k6,w1];have a5:48<=n:=om
       have a6:n<=57:=om
       exact ⟨hlt,step (hv.trans (by simp[a5,a6]))⟩
      ·simp only[go_sem,k1,k3,k5,k6,f1,f2,f3,f4,f5];have b6:¬ n<=57:=om
       exact ab5 (fin (hv.trans (by simp[b1,b3,b6]))).symm
     ·simp only[go_sem,k1,k3,k5,f1,f2,f3,f4,f5];have b5:¬ 48<=n:=om
      exact ab5 (fin (hv.trans (by simp[b1,b3,b5]))).symm
 ·have d1:¬ (i:Int)<s.length:=om
  have e:i=s.length:=om
  subst e;rw[zh] at ha;unfold az8;rw[ha,Bool.and_true];by_cases h1:1<=s.length
  ·have c1:(1:Int)<=s.length:=om
   simp only[go_sem,d1,c1];refine ab5 ?_;have:decide ((s.length:Int)<=64)=decide (s.length<=64):=decide_eq_decide.2 om;simp[h1,this]
  ·have c1:¬ (1:Int)<=s.length:=om
   simp only[go_sem,d1,c1];exact ab5 (by simp[h1])
theorem jh1 (e:EVR)(dep:Bool)(h1:e.ver.length<2^62)(h2:e.rel.length<2^62):PC Tryz.prog EE 80 [.agg e.cs,.bool dep] (.bool (bj2 e dep)):=by
 obtain ⟨ep,ver,rel⟩:=e;refine ae6 hE fok80 (nZ rfl) (ah9 (.agg _ (bf1 (.int _ _) (.str _) (.str _))) (.bool _)) ?_;have hw:=fn2 ver h1;have hw':=fn2 rel h2;unfold bj2;by_cases a1:ep<0
 ·have b1:¬ (0:Int)<=ep:=om
  simp only[ic80,go_sem,EVR.cs,a1];exact ab5 (by simp[b1])
 have b1:(0:Int)<=ep:=om
 by_cases a2:2147483647<ep
 ·have b2:¬ ep<=2147483647:=om
  simp only[ic80,go_sem,EVR.cs,a1,a2];exact ab5 (by simp[b2])
 have b2:ep<=2147483647:=om
 simp only[b1,b2,decide_true,zv];simp only[ic80,go_sem,EVR.cs,a1,a2];refine aa3 fok118 (hw) ?_
 cases hv:az8 ver with
 | false=>simp only[go_sem]; exact ab5 (by simp)
 | true=>
  by_cases hr:rel=[]
  ·subst hr;simp only[go_sem];refine ab5 ?_;have:az8 []=false:=by decide
   rw[this]; simp
  ·have he:rel.isEmpty=false:=by simpa using hr
   simp only[go_sem,hr];refine aa3 fok118 (hw') ?_;simp only[go_sem];exact ab5 (by rw[he]; simp)
theorem jh2 (n:Int):PC Tryz.prog EE 78 [.int .u8 n] (.bool (eb7 n)):=by
 refine ae6 hE fok78 (nZ rfl) (ah3 (.int _ _)) ?_;unfold eb7;by_cases g:n=0\/n=1\/n=2\/n=3\/n=4\/n=6
 ·rcases g with rfl|rfl|rfl|rfl|rfl|rfl
  all_goals
   simp only[ic78,go_sem];exact ab5 (by decide)
 ·simp only[not_or] at g;obtain ⟨g1,g2,g3,g4,g5,g6⟩:=g;simp only[ic78,go_sem,g1,g2,g3,g4,g5,g6];exact ab5 (by simp[g1,g2,g3,g4,g5,g6])
theorem jh3 (e:EVR):allEq [1,2,2] e.cs gq2.cs=zg (decide (e=gq2)):=by
 obtain ⟨ep,ver,rel⟩:=e;simp[EVR.cs,gq2,allEq,ak4]
theorem jh4 (d:Dep)(h1:d.name.length<2^62)(h2:d.evr.ver.length<2^62)(h3:d.evr.rel.length<2^62):PC Tryz.prog EE 47 [.agg d.cs] (.bool (aj9 d)):=by
 refine ae6 hE fok47 (nZ rfl) (ah3 (.agg _ (gv8 d))) ?_;have hn:=fn1 d.name h1;have hf:=in1 d.name h1;have ho:=jh2 d.op;have hm:=jh1 d.evr true h2 h3;have he:=jh3 d.evr;unfold aj9;obtain ⟨name,op,⟨ep,ver,rel⟩⟩:=d;unfold EVR.cs gq2 at he;simp only at *;simp only[ic47,go_sem,Dep.cs];refine aa3 fok77 (hn) ?_
 cases as5 name with
 | false=>simp only[go_sem]; exact ab5 (by simp)
 | true=>
  simp only[go_sem];refine aa3 fok78 (ho) ?_
  cases eb7 op with
  | false=>simp only[go_sem]; exact ab5 (by simp)
  | true=>
   by_cases h0:op=0
   ·simp only[go_sem,h0,he,Option.map_some];exact ab5 (by simp[gq2])
   ·simp only[go_sem,h0];refine aa3 fok79 (hf) ?_
    cases bj1 name with
    | true=>simp only[go_sem]; exact ab5 (by simp[h0])
    | false=>
     simp only[go_sem];refine aa3 fok80 (hm) ?_;simp only[go_sem];exact ab5 (by simp[h0])
end Go.Id.Tryz
namespace Go.Id.Tryz
open Go Go.Id Go.Proofs Go.Shelf Go.Id.Md
end Go.Id.Tryz
namespace Go.Id.Tryz
open Go Go.Id Go.Proofs Go.Shelf Go.Id.Md
end Go.Id.Tryz
namespace Go.Id.Tryz
open Go Go.Id Go.Proofs Go.Shelf Go.Id.Md
end Go.Id.Tryz
namespace Go.Id.Tryz
open Go Go.Id Go.Proofs Go.Shelf Go.Id.Md
def jx6 (e:Nat)(es:List (List IV)):Prop:=∀ x∈es,x.length=e/\x.all IV.leaf=true
def Far (v w:IV):Prop:=∀ i k e j l f,v=.slice i 0 k e->w=.slice j 0 l f->i≠j
structure Q12 (s:Store) (id:Nat) (n:Int) (k:Nat) (Lv Rv Pv:IV) (eL eR eP:List (List IV)):Prop where
 cell:s.obj id=zg (.cells [Lv,.int .i64 n,Rv,Pv])
 lt:id<s.next
 gL:Grow s Lv 15 eL
 gR:Grow s Rv 1 eR
 gP:Grow s Pv 1 eP
 aL:jx6 15 eL
 aR:jx6 1 eR
 aP:jx6 1 eP
 kL:eL.length<=k
 kR:eR.length<=k
 kP:eP.length<=k
 lr:Far Lv Rv
 lp:Far Lv Pv
 rp:Far Rv Pv
theorem Q12.mono {s s':Store}{id:Nat}{n:Int}{k:Nat}{Lv Rv Pv:IV}{eL eR eP:List (List IV)}(h:Q12 s id n k Lv Rv Pv eL eR eP)(hn:s.next<=s'.next)(ho:∀ i,i<s.next->s'.obj i=s.obj i):Q12 s' id n k Lv Rv Pv eL eR eP :=
 {h with
  cell:=by rw[ho _ h.lt]; exact h.cell
  lt:=z8 h.lt hn
  gL:=h.gL.mono hn fun i _ hi=>ho i hi
  gR:=h.gR.mono hn fun i _ hi=>ho i hi
  gP:=h.gP.mono hn fun i _ hi=>ho i hi }
theorem fn3 {s:Store}{v:IV}{e:Nat}{es:List (List IV)}(h:Grow s v e es){i k f:Nat}(hv:v=.slice i 0 k f):i<s.next/\∃ cs,s.obj i=zg (.row cs):=by
 rcases h with ⟨h0,_⟩|⟨j,hj,ho,hl⟩
 ·rw[h0] at hv; cases hv
 ·rw[hj] at hv; cases hv; exact ⟨hl,_,ho⟩
theorem hj5 {s:Store}{v:IV}{i:Nat}(h:∀ k e,v≠.slice i 0 k e){e:Nat}{es:List (List IV)}(hg:Grow s v e es):(ae7 v s).obj i=s.obj i:=by
 rcases hg with ⟨h0,_⟩|⟨j,hj,_,_⟩
 ·rw[h0]; rfl
 ·rw[hj];show (if i=j then none else s.obj i)=_;rw[if_neg fun e=>h _ _ (by rw[hj,e])]
theorem gf8 {s:Store}{v w:IV}{e f m nid:Nat}{es fs:List (List IV)}(hm:s.next<=m)(hg:Grow s v e es)(hw:Grow s w f fs)(hf:Far v w)(hn:∀ i k g,w=.slice i 0 k g->i≠nid)(r:aj5) :
  Grow ((ae7 v (⟨m,s.obj⟩:Store)).put nid r) w f fs:=by
 have hg':Grow (⟨m,s.obj⟩:Store) v e es:=hg.mono hm fun _ _ _=>rfl
 refine hw.mono (by rw[ab2,ac2]; exact hm) fun i hv _=>?_
 rw[aa5,if_neg (hn _ _ _ hv),hj5 (fun k g hk=>hf _ _ _ _ _ _ hk hv rfl) hg']
theorem Q12.push {t:Store}{id:Nat}{n:Int}{k:Nat}{Lv Rv Pv:IV}{eL eR eP:List (List IV)}(h:Q12 t id n k Lv Rv Pv eL eR eP)(hk:k<2^20){c:List IV}(hc:c.length=15/\c.all IV.leaf=true)(a b:Int){d1 d2 d3 d4:Nat}(h12:d1<d2)(h23:d2<d3)(h34:d3<d4) :
  ∃ L' R' P' S1 S2 S3,be9 ⟨t.next+d4,t.obj⟩ (t.next+d1) 15 Lv (.aa4 [c])=zg (L',S1)/\S1.obj id=zg (.cells [Lv,.int .i64 n,Rv,Pv])/\be9 S1 (t.next+d2) 1 Rv (.aa4 [[.int .i64 a]])=zg (R',S2)/\S2.obj id=zg (.cells [Lv,.int .i64 n,Rv,Pv]) /\
   be9 S2 (t.next+d3) 1 Pv (.aa4 [[.int .i64 b]])=zg (P',S3)/\S3.obj id=zg (.cells [Lv,.int .i64 n,Rv,Pv])/\(L'.leaf=true/\L'.cs=[L']/\R'.leaf=true/\R'.cs=[R']/\P'.leaf=true/\P'.cs=[P'])/\S3.next=t.next+d4 /\
   ∀ τ:Store,t.next+d4<=τ.next->τ.obj id=zg (.cells [L',.int .i64 n,R',P'])->(∀ i,i≠id->τ.obj i=S3.obj i)->Q12 τ id n (k+1) L' R' P' (eL++[c]) (eR++[[.int .i64 a]]) (eP++[[.int .i64 b]]):=by
 have hcell:=h.cell;have nid1:¬ id=t.next+d1:=by have:=h.lt; omega
 have nid2:¬ id=t.next+d2:=by have:=h.lt; omega
 have nid3:¬ id=t.next+d3:=by have:=h.lt; omega
 have notrow:∀ {s:Store} {v:IV} {e:Nat} {es:List (List IV)},Grow s v e es->s.obj id=zg (.cells [Lv,.int .i64 n,Rv,Pv])->∀ kk ee,v≠.slice id 0 kk ee:=fun hg ho kk ee hv=>by
  obtain ⟨_,cs,hr⟩:=fn3 hg hv;rw[ho] at hr; cases hr
 have old:∀ {s:Store} {v:IV} {e:Nat} {es:List (List IV)},Grow s v e es->s.next=t.next->∀ d i kk g,v=.slice i 0 kk g->i≠t.next+d:=fun hg hs d i kk g hv=>by
  have:=(fn3 hg hv).1; omega
 -- the first row
 have G0:Grow (⟨t.next+d4,t.obj⟩:Store) Lv 15 eL:=h.gL.mono (by show t.next<=t.next+d4; omega) fun _ _ _=>rfl
 have A1:=aj8 (nid:=t.next+d1) (e:=c) G0 h.aL hc (by have:=h.kL; omega)
 have c1:((ae7 Lv (⟨t.next+d4,t.obj⟩:Store)).put (t.next+d1) (.row (eL++[c]).flatten)).obj id=zg (.cells [Lv,.int .i64 n,Rv,Pv]):=by
  rw[aa5,if_neg nid1]; exact af8 G0 id _ hcell (fun _ e=>by cases e)
 have R1:=gf8 (m:=t.next+d4) (nid:=t.next+d1) (zo _ _) h.gL h.gR h.lr (old h.gR rfl d1) (.row (eL++[c]).flatten);have P1:=gf8 (m:=t.next+d4) (nid:=t.next+d1) (zo _ _) h.gL h.gP h.lp (old h.gP rfl d1) (.row (eL++[c]).flatten);have L1:Grow ((ae7 Lv (⟨t.next+d4,t.obj⟩:Store)).put (t.next+d1) (.row (eL++[c]).flatten)) (.slice (t.next+d1) 0 (eL.length+1) 15) 15 (eL++[c]):=Grow.new (v:=.aa1) (by rw[ab2,ac2]; show _<t.next+d4; omega) (by rw[aa5,if_pos rfl]);have N1:((ae7 Lv (⟨t.next+d4,t.obj⟩:Store)).put (t.next+d1) (.row (eL++[c]).flatten)).next=t.next+d4:=by rw[ab2,ac2]
 generalize (ae7 Lv (⟨t.next+d4,t.obj⟩:Store)).put (t.next+d1) (.row (eL++[c]).flatten)=S1 at *
 -- the second
 have A2:=aj8 (nid:=t.next+d2) (e:=[IV.int .i64 a]) R1 h.aR ⟨rfl,rfl⟩ (by have:=h.kR; omega);have e1:(⟨S1.next,S1.obj⟩:Store)=S1:=rfl
 have c2:((ae7 Rv S1).put (t.next+d2) (.row (eR++[[IV.int .i64 a]]).flatten)).obj id=zg (.cells [Lv,.int .i64 n,Rv,Pv]):=by
  rw[aa5,if_neg nid2]; exact af8 R1 id _ c1 (fun _ e=>by cases e)
 have P2:Grow ((ae7 Rv S1).put (t.next+d2) (.row (eR++[[IV.int .i64 a]]).flatten)) Pv 1 eP:=gf8 (s:=S1) (m:=S1.next) (nid:=t.next+d2) (zb _) R1 P1 h.rp (fun i kk g hv=>old h.gP rfl d2 i kk g hv) _;have L2:Grow ((ae7 Rv S1).put (t.next+d2) (.row (eR++[[IV.int .i64 a]]).flatten)) (.slice (t.next+d1) 0 (eL.length+1) 15) 15 (eL++[c]):=gf8 (s:=S1) (m:=S1.next) (nid:=t.next+d2) (zb _) R1 L1 (fun i kk g j l f hv hw=>by cases hw; exact old h.gR rfl d1 _ _ _ hv) (fun i kk g hv=>by cases hv; omega) _;have R2:Grow ((ae7 Rv S1).put (t.next+d2) (.row (eR++[[IV.int .i64 a]]).flatten)) (.slice (t.next+d2) 0 (eR.length+1) 1) 1 (eR++[[IV.int .i64 a]]):=Grow.new (v:=.aa1) (by rw[ab2,ac2,N1]; omega) (by rw[aa5,if_pos rfl]);have N2:((ae7 Rv S1).put (t.next+d2) (.row (eR++[[IV.int .i64 a]]).flatten)).next=t.next+d4:=by rw[ab2,ac2,N1]
 generalize (ae7 Rv S1).put (t.next+d2) (.row (eR++[[IV.int .i64 a]]).flatten)=S2 at *
 -- the third
 have A3:=aj8 (nid:=t.next+d3) (e:=[IV.int .i64 b]) P2 h.aP ⟨rfl,rfl⟩ (by have:=h.kP; omega)
 have c3:((ae7 Pv S2).put (t.next+d3) (.row (eP++[[IV.int .i64 b]]).flatten)).obj id=zg (.cells [Lv,.int .i64 n,Rv,Pv]):=by
  rw[aa5,if_neg nid3]; exact af8 P2 id _ c2 (fun _ e=>by cases e)
 have L3:Grow ((ae7 Pv S2).put (t.next+d3) (.row (eP++[[IV.int .i64 b]]).flatten)) (.slice (t.next+d1) 0 (eL.length+1) 15) 15 (eL++[c]):=gf8 (s:=S2) (m:=S2.next) (nid:=t.next+d3) (zb _) P2 L2 (fun i kk g j l f hv hw=>by cases hw; exact old h.gP rfl d1 _ _ _ hv) (fun i kk g hv=>by cases hv; omega) _;have R3:Grow ((ae7 Pv S2).put (t.next+d3) (.row (eP++[[IV.int .i64 b]]).flatten)) (.slice (t.next+d2) 0 (eR.length+1) 1) 1 (eR++[[IV.int .i64 a]]):=gf8 (s:=S2) (m:=S2.next) (nid:=t.next+d3) (zb _) P2 R2 (fun i kk g j l f hv hw=>by cases hw; exact old h.gP rfl d2 _ _ _ hv) (fun i kk g hv=>by cases hv; omega) _;have P3:Grow ((ae7 Pv S2).put (t.next+d3) (.row (eP++[[IV.int .i64 b]]).flatten)) (.slice (t.next+d3) 0 (eP.length+1) 1) 1 (eP++[[IV.int .i64 b]]):=Grow.new (v:=.aa1) (by rw[ab2,ac2,N2]; omega) (by rw[aa5,if_pos rfl]);have N3:((ae7 Pv S2).put (t.next+d3) (.row (eP++[[IV.int .i64 b]]).flatten)).next=t.next+d4:=by rw[ab2,ac2,N2]
 generalize (ae7 Pv S2).put (t.next+d3) (.row (eP++[[IV.int .i64 b]]).flatten)=S3 at *;refine ⟨_,_,_,S1,S2,S3,A1,c1,A2,c2,A3,c3,⟨rfl,rfl,rfl,rfl,rfl,rfl⟩,N3,fun τ hτ hcτ hoτ=>?_⟩;have keep:∀ {v:IV} {e:Nat} {es:List (List IV)},Grow S3 v e es->Grow τ v e es:=fun hg=>hg.mono om fun i hv _=>hoτ i fun e=>notrow hg c3 _ _ (by rw[<- e]; exact hv)
 have snocE:∀ {e:Nat} {es:List (List IV)} {x:List IV},jx6 e es->(x.length=e/\x.all IV.leaf=true)->jx6 e (es++[x]):=fun h1 h2 y hy=>by
  rcases zf.1 hy with hy|hy
  ·exact h1 y hy
  ·rw[zp] at hy; rw[hy]; exact h2
 exact {
  cell:=hcτ
  lt:=by have:=h.lt; omega
  gL:=keep L3
  gR:=keep R3
  gP:=keep P3
  aL:=snocE h.aL hc
  aR:=snocE h.aR ⟨rfl,rfl⟩
  aP:=snocE h.aP ⟨rfl,rfl⟩
  kL:=by rw[zd]; have:=h.kL; simp only[zx]; omega
  kR:=by rw[zd]; have:=h.kR; simp only[zx]; omega
  kP:=by rw[zd]; have:=h.kP; simp only[zx]; omega
  lr:=fun i k e j l f h1 h2=>by cases h1; cases h2; omega
  lp:=fun i k e j l f h1 h2=>by cases h1; cases h2; omega
  rp:=fun i k e j l f h1 h2=>by cases h1; cases h2; omega }
end Go.Id.Tryz
namespace Go.Id.Tryz
open Go Go.Id Go.Proofs Go.Id.Md
end Go.Id.Tryz
namespace Go.Id.Tryz
open Go Go.Id Go.Proofs Go.Shelf Go.Id.Md
theorem aok {repos:List an7}{inst:List aa2}{p:Pool}{r:Req}(hI:je9 repos inst)(hn:ce4 repos inst=.inl p)(hR:er2 r)(he:aj7 r p.inst=0):AOK ⟨p,r⟩:=by
 have hf:=it1 hI hn;have hlen:(ac3 p).length<=256:=by simp only[ac3,za]; exact fh1 hn
 unfold aj7 at he;split at he
 ·cases he
 split at he
 ·cases he
 rename_i hb;split at he
 ·cases he
 rename_i hj;refine ⟨hlen,fun x hx=>(hf x hx).2.1,fun x hx=>(hf x hx).1,fun x hx=>(hf x hx).2.2,?_,?_,?_,fun j hj=>(hR.jj5 j hj).1,fun j hjm=>?_⟩
 ·have h1:=ce9 hn
  have h2:p.inst=inst.length:=by
   unfold ce4 at hn;split at hn
   ·cases hn
   split at hn
   ·cases hn
   split at hn
   ·cases hn; rfl
   ·cases hn
  show p.inst<=((ac3 p).length:Nat);rw[h2,h1,zd]; omega
 ·show r.ag6.length<=64; omega
 ·show r.ai1.length<=128; omega
 ·have h1:r.ag6.all aw7=true:=by simpa using hj
  have h2:=List.all_eq_true.1 h1 j hjm;unfold aw7 at h2;simp only[Bool.and_eq_true,decide_eq_true_eq] at h2;exact ⟨h2.1.1,h2.1.2⟩
end Go.Id.Tryz
namespace Go.Id.Tryz
open Go Go.Id Go.Proofs Go.Shelf Go.Id.Md
def fd7 (repos:List an7)(inst:List aa2):List aa2:=inst++repos.flatMap fun r=>r.packages
theorem in2 (repos:List an7)(inst:List aa2)(hN:inst.length+am6 repos<=256)(hr:repos.length<=16):PC Tryz.prog EE 23 [bb2 repos,bc2 inst] (bc2 (fd7 repos inst)):=by
 refine ae6 hE fok23 (nZ rfl) (ah9 (bs2 repos) (au2 inst)) ?_;have g0:Grow (({ next:=2,obj:=emp.obj }:Store).put 0 (aj5.row [])) (.slice 0 0 0 15) 15 []:=.inr ⟨0,rfl,by rw[aa5,if_pos rfl]; rfl,by show 0<2; omega⟩;obtain ⟨v1,t1,a1,n1,q1,_,_⟩:=db8 (nid:=1) (xs:=inst.map aa2.cs) g0 (fun x h=>by cases h) (ax2 _) (by rw[za,z1]; omega) (by show 1<2; omega);rw[List.nil_append] at q1;simp only[ic23,go_sem,a1];refine ab3 noT (fun i fr t=>∃ gv,fr=[(0,bb2 repos),(5,gv),(6,.int .i64 (i:Int))]/\Grow t gv 15 ((fd7 (repos.take i) inst).map aa2.cs)/\(fd7 (repos.take i) inst).length+am6 (repos.drop i)=inst.length+am6 repos) repos.length ⟨v1,rfl,by simpa [fd7] using q1,by simp[fd7]⟩ ?_;rintro i fr t hle ⟨gv,rfl,hg,hsum⟩;by_cases hlt:i<repos.length
 ·obtain ⟨a,ha,_,hdr,hget,htk⟩:=ad6 repos i hlt;have c1:(i:Int)<repos.length:=om
  have c2:(0:Int)<=i:=om
  have w1:=ad1 (i:=i) om;rw[ef5 repos i a hdr] at hsum
  have hap:fd7 (repos.take (i+1)) inst=fd7 (repos.take i) inst++a.packages:=by
   unfold fd7
   have:repos.take (i+1)=repos.take i++[a]:=by
    rw[z9];have:=congrArg List.head? hdr;rw[List.head?_drop] at this;rw[this]; rfl
   rw[this,z6]; simp
  obtain ⟨v2,t2,a2,n2,q2,_,_⟩:=db8 (nid:=t.next) (xs:=a.packages.map aa2.cs) (hg.mono (σ':=⟨t.next+1,t.obj⟩) (Nat.le_succ _) fun _ _ _=>rfl) (ax2 _) (ax2 _) (by rw[za,za]; omega) (zk _);simp only[go_sem,c1,c2,hget,bn1,dh5,dh4,an7.cs,a2,w1];refine ⟨hlt,v2,rfl,?_,?_⟩
  ·rw[hap,zl]; exact q2
  ·rw[hap,zd]; omega
 ·have hi':i=repos.length:=om
  subst hi';have c1:¬ (repos.length:Int)<repos.length:=om
  rw[zh] at hg;simp only[go_sem,c1];refine hg.frz (fun x hx=>(ax2 _ x hx).1) (fun _ _=>zr _) fun e he c hc=>?_
  obtain ⟨y,_,rfl⟩:=zm.1 he;exact av1 y c hc
def dx6 (all:List aa2)(inst:Int)(r:Req):IV:=if aj7 r inst=0 then .tuple [.ab9 (bc2 all::.int .i64 inst::r.cs),.int .i64 0] else .tuple [.ad5,.int .i64 (aj7 r inst)]
theorem in3 (all:List aa2)(inst:Int)(r:Req)(hR:er2 r):PC Tryz.prog EE 22 [bc2 all,.int .i64 inst,.agg r.cs] (dx6 all inst r):=by
 refine ae6 hE fok22 (nZ rfl) (bf1 (au2 all) (.int _ _) (.agg _ (be5 r))) ?_;have hm:=im8 r.au7;have k0:r.cs.head? = zg (.int .u8 r.au7):=rfl;have k2:(r.cs.drop 2).head? = zg (be1 r.ag6):=rfl;have k3:(r.cs.drop 3).head? = zg (av7 r.ai1):=rfl;have k4:(r.cs.drop 4).head? = zg (.int .i64 r.budget):=rfl;obtain ⟨V,hV⟩:∃ V,dx6 all inst r=V:=⟨_,rfl⟩
 have herr:∀ (s:Store) (e:Int),aj7 r inst=e->e≠0->cu4 s 0 (.tuple [.ad5,.int .i64 e]) V:=fun s e h1 h2=>by
  rw[<- hV];unfold dx6;rw[h1,if_neg h2];exact .keep _ (.tuple _ (ah9 .ad5 (.int _ _)))
 rw[hV];by_cases c1:ca3 r.au7=false
 ·rw[c1] at hm;simp only[ic22,go_sem,ag2,k0];refine aa3 fok46 (hm) ?_;simp only[go_sem];exact herr _ 1 (by unfold aj7; rw[if_pos (.inl c1)]) (by decide)
 have c1':ca3 r.au7=true:=by simpa using c1
 rw[c1'] at hm;by_cases c2:r.budget<0
 ·simp only[ic22,go_sem,ag2,k0];refine aa3 fok46 (hm) ?_;simp only[go_sem,k4,c2];exact herr _ 1 (by unfold aj7; rw[if_pos (.inr (.inl c2))]) (by decide)
 by_cases c3:1099511627776<r.budget
 ·simp only[ic22,go_sem,ag2,k0];refine aa3 fok46 (hm) ?_;simp only[go_sem,k4,c2,c3];exact herr _ 1 (by unfold aj7; rw[if_pos (.inr (.inr c3))]) (by decide)
 have q1:¬ (ca3 r.au7=false\/r.budget<0\/1099511627776<r.budget):=fun h=>h.elim c1 fun h=>h.elim c2 c3
 by_cases c4:64<r.ag6.length
 ·have c4':(64:Int)<r.ag6.length:=om
  simp only[ic22,go_sem,ag2,k0];refine aa3 fok46 (hm) ?_;simp only[go_sem,k4,c2,c3,k2,c4'];exact herr _ 40 (by unfold aj7; rw[if_neg q1,if_pos (.inl c4)]) (by decide)
 have c4':¬ (64:Int)<r.ag6.length:=om
 by_cases c5:64<r.ai1.length
 ·have c5':(64:Int)<r.ai1.length:=om
  simp only[ic22,go_sem,ag2,k0];refine aa3 fok46 (hm) ?_;simp only[go_sem,k4,c2,c3,k2,k3,c4',c5'];exact herr _ 40 (by unfold aj7; rw[if_neg q1,if_pos (.inr c5)]) (by decide)
 have c5':¬ (64:Int)<r.ai1.length:=om
 have q2:¬ (64<r.ag6.length\/64<r.ai1.length):=fun h=>h.elim c4 c5
 simp only[ic22,go_sem,ag2,k0];refine aa3 fok46 (hm) ?_;simp only[go_sem,k4,c2,c3,k2,k3,c4',c5'];refine ab3 noT (fun i fr t=>fr=[(0,bc2 all),(1,.int .i64 inst),(5,.ab9 r.cs),(8,.int .i64 (i:Int))]/\(r.ag6.drop i).all aw7=r.ag6.all aw7) r.ag6.length ⟨rfl,rfl⟩ ?_;rintro i fr t hi ⟨rfl,ha⟩;by_cases hlt:i<r.ag6.length
 ·obtain ⟨x,hx,_,hdr,hget,_⟩:=ad6 r.ag6 i hlt;have d1:(i:Int)<r.ag6.length:=om
  have d2:(0:Int)<=i:=om
  have w1:=ad1 (i:=i) om;obtain ⟨hs1,hs2⟩:=hR.jj5 x hx;have hmay:=jh4 x.dep om (by have:=hs1.2.2.1; omega) (by have:=hs1.2.2.2; omega);have x0:x.cs.head? = zg (.int .u8 x.kind):=rfl;have x1:=da2 x;have x2:(x.cs.drop 1).length=5:=rfl;rw[hdr,List.all_cons] at ha
  have hbad:aw7 x=false->aj7 r inst=4:=fun h=>by
   rw[h,z2] at ha;unfold aj7; rw[if_neg q1,if_neg q2,if_pos ha.symm]
  by_cases e1:x.kind<1
  ·have e1':¬ 1<=x.kind:=om
   simp only[go_sem,d1,d2,k2,hget,av2,x0,e1];exact herr _ 4 (hbad (by unfold aw7; simp[e1'])) (by decide)
  by_cases e2:4<x.kind
  ·have e2':¬ x.kind<=4:=om
   simp only[go_sem,d1,d2,k2,hget,av2,x0,e1,e2];exact herr _ 4 (hbad (by unfold aw7; simp[e2'])) (by decide)
  have e1':1<=x.kind:=om
  have e2':x.kind<=4:=om
  simp only[go_sem,d1,d2,k2,hget,av2,x0,x1,x2,e1,e2];refine aa3 fok47 (hmay) ?_
  cases hb:aj9 x.dep with
  | false=>
   simp only[go_sem]
   exact herr _ 4 (hbad (by unfold aw7; simp[hb])) (by decide)
  | true=>
   have:aw7 x=true:=by unfold aw7; simp[e1',e2',hb]
   rw[this,zv] at ha;simp only[go_sem,w1];exact ⟨hlt,ha⟩
 have hi':i=r.ag6.length:=om
 subst hi';rw[zw] at ha;have hjm:¬ r.ag6.all aw7=false:=by rw[<- ha]; simp
 have d1:¬ (r.ag6.length:Int)<r.ag6.length:=om
 simp only[go_sem,d1,k2];refine ab3 noT (fun i fr t=>fr=[(0,bc2 all),(1,.int .i64 inst),(5,.ab9 r.cs),(9,.int .i64 (i:Int))]/\((r.ai1.drop i).all fun e=>au9 e r.ag6.length inst)=r.ai1.all fun e=>au9 e r.ag6.length inst) r.ai1.length ⟨rfl,rfl⟩ ?_;clear ha;rintro i fr t hi ⟨rfl,ha⟩;by_cases hlt:i<r.ai1.length
 ·obtain ⟨x,hx,_,hdr,hget,_⟩:=ad6 r.ai1 i hlt;have d1:(i:Int)<r.ai1.length:=om
  have d2:(0:Int)<=i:=om
  have w1:=ad1 (i:=i) om;have x0:x.cs.head? = zg (.int .u8 x.kind):=rfl;have x1:(x.cs.drop 1).head? = zg (.int .i64 x.n):=rfl;rw[hdr,List.all_cons] at ha
  have hbad:au9 x r.ag6.length inst=false->aj7 r inst=5:=fun h=>by
   rw[h,z2] at ha;unfold aj7; rw[if_neg q1,if_neg q2,if_neg hjm,if_pos ha.symm]
  have hgood:au9 x r.ag6.length inst=true->((r.ai1.drop (i+1)).all fun e=>au9 e r.ag6.length inst)=r.ai1.all fun e=>au9 e r.ag6.length inst:=fun h=>by
   rw[h,zv] at ha; exact ha
  unfold au9 at hbad hgood;by_cases e1:0<=x.n
  case neg=>
   simp only[go_sem,d1,d2,k2,k3,hget,ar6,ap4,aj1,x0,x1,e1];exact herr _ 5 (hbad (by simp[e1])) (by decide)
  by_cases e2:x.kind=1
  ·by_cases e3:x.n<r.ag6.length
   ·simp only[go_sem,d1,d2,k2,k3,hget,ar6,ap4,aj1,x0,x1,e1,e2,e3,w1];exact ⟨hlt,hgood (by simp[e1,e2,e3])⟩
   ·simp only[go_sem,d1,d2,k2,k3,hget,ar6,ap4,aj1,x0,x1,e1,e2,e3];exact herr _ 5 (hbad (by simp[e2,e3])) (by decide)
  ·by_cases e4:1<x.kind
   ·by_cases e5:x.kind<=4
    ·have e6:1<=x.kind:=om
     by_cases e3:x.n<inst
     ·simp only[go_sem,d1,d2,k2,k3,hget,ar6,ap4,aj1,x0,x1,e1,e2,e3,e4,e5,w1];exact ⟨hlt,hgood (by simp[e1,e2,e3,e5,e6])⟩
     ·simp only[go_sem,d1,d2,k2,k3,hget,ar6,ap4,aj1,x0,x1,e1,e2,e3,e4,e5];exact herr _ 5 (hbad (by simp[e2,e3])) (by decide)
    ·simp only[go_sem,d1,d2,k2,k3,hget,ar6,ap4,aj1,x0,x1,e1,e2,e4,e5];exact herr _ 5 (hbad (by simp[e5])) (by decide)
   ·have e6:¬ 1<=x.kind:=om
    simp only[go_sem,d1,d2,k2,k3,hget,ar6,ap4,aj1,x0,x1,e1,e2,e4];exact herr _ 5 (hbad (by simp[e6])) (by decide)
 have hi':i=r.ai1.length:=om
 subst hi';rw[zw] at ha;have hem:¬ (r.ai1.all fun e=>au9 e r.ag6.length inst)=false:=by rw[<- ha]; simp
 have d2:¬ (r.ai1.length:Int)<r.ai1.length:=om
 have hz:aj7 r inst=0:=by unfold aj7; rw[if_neg q1,if_neg q2,if_neg hjm,if_neg hem]
 have hrc:r.cs=[.int .u8 r.au7,.bool r.vendor,be1 r.ag6,av7 r.ai1,.int .i64 r.budget]:=rfl;rw[<- hV];unfold dx6;rw[if_pos hz];have rl:r.cs.length=5:=rfl;simp only[go_sem,d2,k3,rl,bc6,ag2];refine .keep _ (.tuple _ (ah9 (.ab9 _ fun c hc=>?_) (.int _ _)));rcases zj.1 hc with rfl|hc
 ·exact au2 all
 ·rcases zj.1 hc with rfl|hc
  ·exact .int _ _
  ·exact be5 r c hc
end Go.Id.Tryz
namespace Go.Id.Tryz
open Go Go.Id Go.Proofs Go.Shelf Go.Id.Md
def dx7:IV:=.tuple [.ad5,.ad5,.ad5,.bool false]
def cb5 (repos:List an7)(inst:List aa2)(r:Req):IV:=match ce4 repos inst with
 | .inr _=>dx7
 | .inl p=>if aj7 r p.inst=0 then .tuple [ab7.rV ⟨p,r⟩,(ab7.mk p r).v,.ab9 (bc2 (fd7 repos inst)::.int .i64 p.inst::r.cs),.bool true] else dx7
theorem fn4 {repos:List an7}{inst:List aa2}{p:Pool}{r:Req}(hI:je9 repos inst)(hn:ce4 repos inst=.inl p)(hR:er2 r)(he:aj7 r p.inst=0)(hl:(ac3 p).length<=100) :
  (ab7.mk p r).bo2/\0<=(ab7.mk p r).p.inst/\(∀ q∈(ab7.mk p r).l,ak1 q=true)/\(ab7.mk p r).items.length<=20000:=by
 have hA:=aok hI hn hR he;have hp:p.inst=inst.length:=(ec1 hn).2;have hm:∀ q∈(ab7.mk p r).l,ak1 q=true:=fun q hq=>(fh2 hn q hq).1
 exact ⟨js1 hm hl he,by show 0<=p.inst; rw[hp]; omega,hm,gt5 hm hl hA.inst hA.ag6⟩
theorem er9 (repos:List an7)(inst:List aa2)(r:Req)(hI:je9 repos inst)(hR:er2 r)(hl:∀ p,ce4 repos inst=.inl p->(ac3 p).length<=100):PC Tryz.prog EE 6 [bb2 repos,bc2 inst,.agg r.cs] (cb5 repos inst r):=by
 refine ae6 hE fok6 (nZ rfl) (bf1 (bs2 repos) (au2 inst) (.agg _ (be5 r))) ?_;have hp:=ct4 repos inst hI.r1 hI.i1 hI.s1 hI.rf hI.pf
 have nilb:∀ s:Store,cu4 s 0 dx7 dx7:=fun s=>.keep _ (.tuple _ fun c hc=>by
  simp only[zj,zt,or_false] at hc;rcases hc with rfl|rfl|rfl|rfl
  ·exact .ad5
  ·exact .ad5
  ·exact .ad5
  ·exact .bool _)
 unfold cb5
 cases hn:ce4 repos inst with
 | inr e=>
  have he:¬ e=0:=by rcases ia7 hn with rfl|rfl<;>decide
  rw[hn] at hp;simp only[ic6,go_sem,ag2];refine aa3 fok20 (hp) ?_;simp only[jq2,go_sem,he]
  exact nilb _
 | inl p=>
  obtain ⟨g1,g2,_,_⟩:=cr1 hn;have hin:p.inst=inst.length:=(ec1 hn).2;rw[hn] at hp;have hf:=it1 hI hn;have hlen:(ac3 p).length<=256:=by simp only[ac3,za]; exact fh1 hn
  have hAN:=he7 p r hR hlen fun x hx=>⟨(hf x hx).1,(hf x hx).2.2⟩
  have hAll:=in2 repos inst g2 g1;have h15:=in3 (fd7 repos inst) p.inst r hR;have hbP:=au2 (fd7 repos inst);rw[hin] at h15;have vcs:p.v.cs=[p.v]:=rfl;have vlf:p.v.leaf=true:=rfl;have rl:r.cs.length=5:=rfl;have ill:∀ σ:Store,cc5 0 σ (bc2 inst)=zg (.int .i64 inst.length):=fun σ=>by unfold bc2; simp only[go_sem]
  simp only[ic6,go_sem,ag2];refine aa3 fok20 (hp) ?_;simp only[jq2,go_sem,vcs,vlf,rl,bc6,ag2];refine aa3 fok21 (hAN) ?_;by_cases he:aj7 r p.inst=0
  ·have hA:=aok hI hn hR he;obtain ⟨o1,o2,o3,o4⟩:=fn4 hI hn hR he (hl p hn);have hM:=fd5 ⟨p,r⟩ hA o1 o2 o3 o4;have hav:(ab7.mk p r).v.leaf=true:=rfl;have hac:(ab7.mk p r).v.cs=[(ab7.mk p r).v]:=rfl;have hmv:(ab7.rV ⟨p,r⟩).leaf=true:=rfl;have hmc:(ab7.rV ⟨p,r⟩).cs=[ab7.rV ⟨p,r⟩]:=rfl;have hba:=ag1 ⟨p,r⟩;have hbm:Bnd 0 (ab7.rV ⟨p,r⟩):=bc7 hba (aq7 _) (ax1 _) (as2 _) _ _ _;have he2:=he;rw[hin] at he2;unfold jj3;unfold dx6 at h15;rw[if_pos he2] at h15;rw[if_pos he];rw[if_pos he];rw[hin];generalize (ab7.mk p r).v=AV at *;generalize ab7.rV ⟨p,r⟩=MV at *;simp only[go_sem,hav,hac,ill,rl,bc6,ag2];refine aa7 (hAll) ?_;simp only[go_sem,ill,rl,bc6,ag2];refine aa7 (h15) ?_;simp only[go_sem,hav,hac];refine aa3 fok24 (hM) ?_;simp only[go_sem];refine .keep _ (.tuple _ fun c hc=>?_);simp only[zj,zt,or_false] at hc;rcases hc with rfl|rfl|rfl|rfl
   ·exact hbm
   ·exact hba
   ·refine .ab9 _ fun c hc=>?_
    rcases zj.1 hc with rfl|hc
    ·exact hbP
    ·rcases zj.1 hc with rfl|hc
     ·exact .int _ _
     ·exact be5 r c hc
   ·exact .bool _
  ·have he2:=he;rw[hin] at he2;unfold jj3;unfold dx6 at h15;rw[if_neg he2] at h15;rw[if_neg he];rw[if_neg he];simp only[go_sem,ill,rl,bc6,ag2];refine aa7 (hAll) ?_;simp only[go_sem,ill,rl,bc6,ag2];refine aa7 (h15) ?_;simp only[go_sem,he];exact nilb _
end Go.Id.Tryz
