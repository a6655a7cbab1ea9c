/- The document's row of steps: walked. Conditions: sizes that fit. -/
import Derived.Test.YtihiokikiejcpaaGreatDoorTRLD
import Derived.Test.YtihiokikiejcpaaGreatDoorTRTS
import Derived.Test.YtihiokikiejcpaaGreatDoorFwZb
import Derived.Test.YtihiokikiejcpaaGreatDoorTRQL
import Derived.Test.YtihiokikiejcpaaGreatDoorTRPB
import Derived.Test.YtihiokikiejcpaaGreatDoorMb
import Derived.Test.YtihiokikiejcpaaGreatDoorRows
import Derived.Test.YtihiokikiejcpaaGreatDoorMv
set_option linter.all false
namespace Go.Id.Tryz
open Go Go.Id Go.Proofs Go.Shelf Go.Id.Md
set_option maxRecDepth 100000
set_option maxHeartbeats 1000000
theorem gu7 (s:Step):s.cs.head? = some (.int .u8 s.kind):=rfl
theorem dt7 (s:Step):(s.cs.drop 1).head? = some (.int .i64 s.p):=rfl
theorem au6 (st:List Step)(k:Int):(ab7 st k).length<=st.length:=by
 unfold ab7; rw[List.length_map]; exact List.length_filter_le _ _
theorem ec2 (l:List aa4) (hl:l.length<=256) (hg:∀ p∈l,be1 p) (st:List Step) (hs:st.length<200) :
  PC Tryz.prog EE 8 [ao3 l,aj1 st] (if okS l.length st then .tuple [aj1 (be4 (bc2 l) st),.int .i64 0] else .tuple [.aa1,.int .i64 4]):=by
 refine ao4 hE fok8 (nZ rfl) (au8 (as7 l) (au4 st)) ?_
 have bad:∀ {i:Nat} (hi:i<st.length) (s:Store),(okS l.length (st.take i)&&(!decide (st[i].p∈(st.take i).map (·.p))&&ao2 l.length st[i]))=false->dk5 s 0 (.tuple [.aa1,.int .i64 4]) (if okS l.length st then .tuple [aj1 (be4 (bc2 l) st),.int .i64 0] else .tuple [.aa1,.int .i64 4]):=fun hi s h=>by
  rw[fs2 hi (by rw[dh6]; exact h),if_neg (by decide)];exact .keep _ (.tuple _ (au8 .aa1 (.int _ _)))
 have hrow:=fun (L:List Int) (hL:L.length<2^20) (g:Bool) (σ:Store) (v:IV) (hv:ad1 σ 0 v L)=>hh8 l hl hg L hL g hv
 simp only[ic8,go_sem];refine ab3 noT (fun i fr t=>∃ cv pv gv,fr=[(0,ao3 l),(1,aj1 st),(6,cv),(7,pv),(8,gv),(9,.int .i64 (i:Int))]/\P3 t cv pv gv (ab7 (st.take i) 0) (aq6 (ab7 (st.take i) 1)) (ab7 (st.take i) 2)/\okS l.length (st.take i)=true) st.length ?_ ?_
 ·refine ⟨.aa1,.aa1,.aa1,rfl,⟨.inl ⟨rfl,rfl⟩,.inl ⟨rfl,(ak1 []).eq_nil⟩,.inl ⟨rfl,rfl⟩,fun _ _ _ h=>(by cases h),fun _ _ _ h=>(by cases h),fun _ _ _ h=>(by cases h)⟩,rfl⟩
 rintro i fr t hi ⟨cv,pv,gv,rfl,hP,hok⟩;have pl:=fun k=>au6 (st.take i) k
 have tl:(st.take i).length<=200:=by rw[List.length_take]; omega
 by_cases hlt:i<st.length
 ·obtain ⟨s,hsm,hsi,hdr,hget,htk⟩:=ae8 st i hlt;have es:st[i]=s:=by rw[List.getElem?_eq_getElem hlt] at hsi; exact Option.some.inj hsi
  have bad':=@bad i hlt;rw[es,hok,Bool.true_and] at bad';have d1:(i:Int)<st.length:=by omega
  have d2:(0:Int)<=(i:Int):=by omega
  have w1:=ad2 (i:=i) (by omega);by_cases k1:s.kind<1
  ·simp only[go_sem,d1,d2,hget,ap4,al2,al1,gu7,dt7,k1];exact bad' _ (by unfold ao2; rw[decide_eq_false (show ¬ 1<=s.kind by omega)]; simp)
  by_cases k2:8<s.kind
  ·simp only[go_sem,d1,d2,hget,ap4,al2,al1,gu7,dt7,k1,k2];exact bad' _ (by unfold ao2; rw[decide_eq_false (show ¬ s.kind<=8 by omega)]; simp)
  by_cases k3:s.p<0
  ·simp only[go_sem,d1,d2,hget,ap4,al2,al1,gu7,dt7,k1,k2,k3];exact bad' _ (by unfold ao2; rw[decide_eq_false (show ¬ 0<=s.p by omega)]; simp)
  by_cases k4:(l.length:Int)<=s.p
  ·simp only[go_sem,d1,d2,hget,ap4,al2,al1,gu7,dt7,k1,k2,k3,k4];exact bad' _ (by unfold ao2; rw[decide_eq_false (show ¬ s.p<(l.length:Int) by omega)]; simp)
  have hmay:ao2 l.length s=true:=by unfold ao2; simp only[Bool.and_eq_true,decide_eq_true_eq]; omega
  rw[hmay,Bool.and_true] at bad';simp only[go_sem,d1,d2,hget,ap4,al2,al1,gu7,dt7,k1,k2,k3,k4];generalize hU:Store.mk (t.next+1) _=U;have un:U.next=t.next+1:=by rw[<- hU]
  have ub:U.obj t.next=some (.cells s.cs):=by rw[<- hU]; simp only[aa2,if_true]
  have kU:Kept t U:=⟨by omega,fun j hj=>by
   have:¬ j=t.next:=by omega
   rw[<- hU]; simp only[aa2,this,if_false]⟩
  have hPU:=hP.keep kU;clear hU;refine ab3 noT (fun k fr u=>fr=[(0,ao3 l),(1,aj1 st),(6,cv),(7,pv),(8,gv),(9,.int .i64 (i:Int)),(10,.ptr t.next 0),(11,.int .i64 (k:Int))]/\Kept U u/\∀ j (h:j<st.length),j<k->st[j].p≠s.p) i ⟨rfl,Kept.refl U,fun j _ h=>absurd h (Nat.not_lt_zero _)⟩ ?_;rintro k fr u hk ⟨rfl,hku,hdis⟩;have ubu:u.obj t.next=some (.cells s.cs):=by rw[hku.obj _ (by omega)]; exact ub
  by_cases hki:k<i
  ·obtain ⟨s2,hs2m,hs2i,hdr2,hget2,_⟩:=ae8 st k (by omega);have es2:st[k]=s2:=by rw[List.getElem?_eq_getElem (by omega)] at hs2i; exact Option.some.inj hs2i
   have x1:(k:Int)<i:=by omega
   have x2:(0:Int)<=(k:Int):=by omega
   have x3:(k:Int)<st.length:=by omega
   have w2:=ad2 (i:=k) (by omega);by_cases he:s2.p=s.p
   ·simp only[go_sem,x1,x2,x3,hget2,ap4,al2,al1,dt7,ubu,he];refine bad' _ ?_;rw[decide_eq_true]
    ·rfl
    ·refine List.mem_map.2 ⟨s2,?_,he⟩;rw[<- es2];exact List.mem_take_iff_getElem.2 ⟨k,by omega,rfl⟩
   ·simp only[go_sem,x1,x2,x3,hget2,ap4,al2,al1,dt7,ubu,he,w2];refine ⟨hki,hku.trans (Kept.up (Kept.refl u) _),fun j hj hjk=>?_⟩;rcases Nat.lt_or_ge j k with h|h
    ·exact hdis j hj h
    ·have:j=k:=by omega
     subst this; rw[es2]; exact he
  ·have hk':k=i:=by omega
   subst hk';have x1:¬ (k:Int)<k:=by omega
   have hPu:=hPU.keep hku;have hun:t.next<u.next:=by have:=hku.next; omega
   have hnin:s.p ∉ (st.take k).map (·.p):=fun h=>by
    obtain ⟨y,hy,e⟩:=List.mem_map.1 h;obtain ⟨j,hj,rfl⟩:=List.mem_iff_getElem.1 hy;rw[List.length_take] at hj;rw[List.getElem_take] at e;exact hdis j (by omega) (by omega) e
   have hok':okS l.length (st.take (k+1))=true:=by
    rw[htk,dh6,hok,hmay,decide_eq_false hnin]; rfl
   have ps:=fun q=>db8 (st.take k) s q
   rw[<- htk] at ps;by_cases t6:s.kind=6
   ·have pm:bf1 s.kind=2:=by rw[t6]; rfl
    have p0:=ps 0; have p1:=ps 1; have p2:=ps 2;rw[pm] at p0 p1 p2;simp only[show ¬ ((2:Int)=0) from by decide,show ¬ ((2:Int)=1) from by decide,if_false,if_true,List.append_nil] at p0 p1 p2;obtain ⟨v',T,q1,q2,q3,q4⟩:=eh2 (k:=0) hPu.r3 s.p (by have:=pl 2; omega);have hP':=hPu.ja7 (by omega) q3 q4;have q1':an5 ({ next:=u.next+1,obj:=u.obj }:Store) u.next 1 gv (.aa3 [[.int .i64 s.p]])=some (v',T):=q1;simp only[go_sem,x1,ubu,gu7,dt7,t6,q1',w1];refine ⟨hlt,cv,pv,v',rfl,?_,hok'⟩;rw[p0,p1,p2];exact hP'
   by_cases t78:s.kind=7\/s.kind=8
   ·have pm:bf1 s.kind=1:=by unfold bf1; rw[if_pos t78]
    have p0:=ps 0; have p1:=ps 1; have p2:=ps 2;rw[pm] at p0 p1 p2;simp only[show ¬ ((1:Int)=0) from by decide,show ¬ ((1:Int)=2) from by decide,if_false,if_true,List.append_nil] at p0 p1 p2;have hBl:(aq6 (ab7 (st.take k) 1)).length<=200:=by rw[ck4]; have:=pl 1; omega
    have hinsM:=fun n h1 h2=>gh5 (l:=ab7 (st.take k) 1) (x:=s.p) (n:=n) h1 h2
    have hPB:∃ B,B=aq6 (ab7 (st.take k) 1):=⟨_,rfl⟩;obtain ⟨B,hB⟩:=hPB;rw[<- hB] at hPu hBl hinsM;rcases t78 with t7|t7<;>simp only[go_sem,x1,ubu,gu7,dt7,t7]
    all_goals
     refine ab3 noT (fun m fr x=>fr=[(0,ao3 l),(1,aj1 st),(6,cv),(7,pv),(8,gv),(9,.int .i64 (k:Int)),(10,.ptr t.next 0),(12,.int .i64 (m:Int))]/\Kept u x/\∀ j (h:j<B.length),j<m->B[j]<s.p) B.length ⟨rfl,Kept.refl u,fun j _ h=>absurd h (Nat.not_lt_zero _)⟩ ?_;rintro m fr x hm ⟨rfl,hkx,hx2⟩;have hPx:=hPu.keep hkx;have ubx:x.obj t.next=some (.cells s.cs):=by rw[hkx.obj _ (by omega)]; exact ubu
     have hxn:t.next<x.next:=by have:=hkx.next; omega
     have hpl:=bm9 hPx.r2;have hS0:ad1 ((⟨x.next+27,x.obj⟩:Store).put (x.next+13) (ak4.row [])) 0 pv B:=hPx.r2.kept ⟨by show x.next<=x.next+27; omega,fun j hj=>by rw[aa2,if_neg (by omega)]⟩;by_cases hml:m<B.length
     ·obtain ⟨id,hid,ho,hh⟩:=ce9 hPx.r2 hml;have e1:(m:Int)<B.length:=by omega
      have e2:(0:Int)<=(m:Int):=by omega
      have w3:=ad2 (i:=m) (by omega);by_cases hc:B[m]<s.p
      ·subst hid;simp only[go_sem,e1,e2,ho,hh,ubx,dt7,hc,w3];refine ⟨hml,hkx.trans (Kept.up (Kept.refl x) _),fun j hj hjm=>?_⟩;rcases Nat.lt_or_ge j m with h|h
       ·exact hx2 j hj h
       ·have:j=m:=by omega
        subst this; exact hc
      ·subst hid;obtain ⟨y1,v1,S1,v2,S2,y2,v3,S3,q1,q2,q3,q4,q5,q6,q7,q8,q9,q10⟩:=eg9 (S0:=(⟨x.next+27,x.obj⟩:Store).put (x.next+13) (ak4.row [])) (lo:=0) (a:=x.next+13) (b:=x.next+17) (c:=x.next+21) (d:=x.next+25) (n:=m) (k:=s.p) hS0 (fun id n h=>by have:=(ar8 hPx.r2 h).2; omega) (by omega) (by omega) (by omega) (by omega) (by omega) (by show x.next+25<x.next+27; omega) (by rw[aa2,if_pos rfl]);have bS1:S1.obj t.next=some (.cells s.cs):=by rw[q10 _ (by omega),aa2,if_neg (by omega)]; exact ubx
       have hP':=hPx.set2 (u:=S3) (by rw[q6]; show x.next<=x.next+27; omega) (q7.low (by omega)) (fun j hj _=>by rw[q8 j (by omega),aa2,if_neg (by omega)]);rw[hinsM m hx2 (fun _=>hc)] at hP';simp only[go_sem,cg9,true_and,e1,e2,ho,hh,ubx,dt7,hc,show x.next+13+14=x.next+27 from rfl,q1];simp only[show x.next+13+1+1+1+1=x.next+17 from rfl,show x.next+13+14=x.next+27 from rfl,q2,go_sem,cg9,true_and,b_o,b_p,b_t,bS1,dt7];simp only[show x.next+17+1+1+1+1=x.next+21 from rfl,q3,go_sem,cg9,true_and,q4];simp only[show x.next+21+1+1+1+1=x.next+25 from rfl,q5,go_sem,w1];refine ⟨hlt,cv,v3,gv,rfl,?_,hok'⟩;rw[p0,p1,p2];exact hP'
     ·have hm':m=B.length:=by omega
      subst hm';have e1:¬ (B.length:Int)<B.length:=by omega
      obtain ⟨y1,v1,S1,v2,S2,y2,v3,S3,q1,q2,q3,q4,q5,q6,q7,q8,q9,q10⟩:=eg9 (S0:=(⟨x.next+27,x.obj⟩:Store).put (x.next+13) (ak4.row [])) (lo:=0) (a:=x.next+13) (b:=x.next+17) (c:=x.next+21) (d:=x.next+25) (n:=B.length) (k:=s.p) hS0 (fun id n h=>by have:=(ar8 hPx.r2 h).2; omega) (by omega) (by omega) (by omega) (by omega) (by omega) (by show x.next+25<x.next+27; omega) (by rw[aa2,if_pos rfl]);have bS1:S1.obj t.next=some (.cells s.cs):=by rw[q10 _ (by omega),aa2,if_neg (by omega)]; exact ubx
      have hP':=hPx.set2 (u:=S3) (by rw[q6]; show x.next<=x.next+27; omega) (q7.low (by omega)) (fun j hj _=>by rw[q8 j (by omega),aa2,if_neg (by omega)]);rw[hinsM B.length hx2 (fun h=>absurd h (Nat.lt_irrefl _))] at hP';simp only[go_sem,cg9,true_and,hpl,e1,show x.next+13+14=x.next+27 from rfl,q1];simp only[show x.next+13+1+1+1+1=x.next+17 from rfl,show x.next+13+14=x.next+27 from rfl,q2,go_sem,cg9,true_and,b_o,b_p,b_t,bS1,dt7];simp only[show x.next+17+1+1+1+1=x.next+21 from rfl,q3,go_sem,cg9,true_and,q4];simp only[show x.next+21+1+1+1+1=x.next+25 from rfl,q5,go_sem,w1];refine ⟨hlt,cv,v3,gv,rfl,?_,hok'⟩;rw[p0,p1,p2];exact hP'
   ·have pm:bf1 s.kind=0:=by unfold bf1; rw[if_neg t78,if_neg t6]
    have p0:=ps 0; have p1:=ps 1; have p2:=ps 2;rw[pm] at p0 p1 p2;simp only[show ¬ ((0:Int)=1) from by decide,show ¬ ((0:Int)=2) from by decide,if_false,if_true,List.append_nil] at p0 p1 p2;obtain ⟨v',T,q1,q2,q3,q4⟩:=eh2 (k:=0) hPu.r1 s.p (by have:=pl 0; omega);have hP':=hPu.set1 (by omega) q3 q4;have q1':an5 ({ next:=u.next+1,obj:=u.obj }:Store) u.next 1 cv (.aa3 [[.int .i64 s.p]])=some (v',T):=q1;have t7:¬ s.kind=7:=fun h=>t78 (.inl h)
    have t8:¬ s.kind=8:=fun h=>t78 (.inr h)
    simp only[go_sem,x1,ubu,gu7,dt7,t6,t7,t8,q1',w1];refine ⟨hlt,v',pv,gv,rfl,?_,hok'⟩;rw[p0,p1,p2];exact hP'
 ·have hi':i=st.length:=by omega
  subst hi';have d1:¬ (st.length:Int)<st.length:=by omega
  rw[List.take_length] at hP hok;rw[hok,if_pos rfl]
  have hd:hb9 st:=by
   unfold okS at hok; rw[Bool.and_eq_true] at hok;show (st.map (·.p)).Nodup;exact of_decide_eq_true hok.1
  have l0:=au6 st 0;have l1:=au6 st 1;have l2:=au6 st 2;have lb:(aq6 (ab7 st 1)).length<=200:=by rw[ck4]; omega
  have la:∀ R:Int->Int->Bool,(dy7 R (ab7 st 0)).length<=200:=fun R=>by rw[(bb8 R (ab7 st 0)).length_eq]; omega
  have lc:∀ R:Int->Int->Bool,(dy7 R (ab7 st 2)).length<=200:=fun R=>by rw[(bb8 R (ab7 st 2)).length_eq]; omega
  obtain ⟨R,hR⟩:∃ R,R=bc2 l:=⟨_,rfl⟩;have hLL:fd4 R st=dy7 (ez5 false R) (ab7 st 0)++aq6 (ab7 st 1)++dy7 (ez5 true R) (ab7 st 2):=by unfold fd4; rw[List.append_assoc]; rfl
  have hperm:=dp3 (R:=R) (l:=st);have hgoal:aj1 (be4 R st)=.aa3 ((fd4 R st).map (stepOf st)):=by unfold be4 aj1; rw[List.map_map]; rfl
  rw[<- hR] at hrow ⊢;rw[hgoal];simp only[go_sem,d1];refine ad3 fok23 (hrow _ (by omega) false _ cv (hP.r1.up 2)) ?_;rintro w1 s1 ⟨k1,r1⟩;refine ⟨k1.next,?_⟩;have n1:t.next+2<=s1.next:=k1.next;have hpv1:ad1 s1 0 pv (aq6 (ab7 st 1)):=(hP.r2.up 2).kept k1;have hgv1:ad1 s1 0 gv (ab7 st 2):=(hP.r3.up 2).kept k1;have r1l:∀ i n,w1=.slice i 0 n 1->t.next+2<=i/\i<s1.next:=fun i n h=>ar8 r1 h
  obtain ⟨v2,T2,a2,n2,r2,o2,e2⟩:=dh3 (nid:=t.next) (r1.low (Nat.zero_le _)) hpv1 (by have:=la (ez5 false R); omega) (Nat.zero_le _) (by omega) (fun i k m h1 h2=>by have:=(r1l i k h1).1; have:=(ar8 hP.r2 h2).2; omega)
  have hgv2:ad1 T2 0 gv (ab7 st 2):=by
   rcases hgv1 with h|⟨id,h1,h2,h3,h4⟩
   ·exact .inl h
   ·have:=(ar8 hP.r3 h3).2;exact .inr ⟨id,h1,by omega,h3,by rw[o2 id (by omega) fun k e=>by have:=(r1l id k e).1; omega]; exact h4⟩
  simp only[go_sem,a2];refine ad3 fok23 (hrow _ (by omega) true _ gv hgv2) ?_;rintro w2 s2 ⟨k2,r3⟩;refine ⟨k2.next,?_⟩;have hk2:=k2.next;have r2':=r2.kept k2;obtain ⟨v3,T3,a3,n3,r4,_,e3⟩:=dh3 (nid:=t.next+1) r2' (r3.low (Nat.zero_le _)) (by rw[List.length_append]; have:=la (ez5 false R); have:=lc (ez5 true R); omega) (Nat.zero_le _) (by omega) (fun i k m h1 h2=>by have:=(ar8 r2 h1).2; have:=(ar8 r3 h2).1; omega);rw[<- hLL] at r4;simp only[go_sem,a3];clear r3 r2' r2 hgv2 hgv1 hpv1 r1 hP;have hmemL:∀ n∈fd4 R st,n∈st.map (·.p):=fun n hn=>hperm.mem_iff.1 hn
  have hlenL:(fd4 R st).length=st.length:=by rw[hperm.length_eq,List.length_map]
  generalize fd4 R st=LL at *;refine ab3 noT (fun i fr x=>∃ ov,fr=[(1,aj1 st),(13,v3),(14,ov),(15,.int .i64 (i:Int))]/\ad1 x 0 v3 LL/\Grow x ov 2 ((LL.take i).map (stepOf st))/\∀ a n m,v3=.slice a 0 n 1->ov≠.slice a 0 m 2) LL.length ⟨.aa1,rfl,r4,.inl ⟨rfl,rfl⟩,fun _ _ _ _ h=>by cases h⟩ ?_;rintro i fr x hi2 ⟨ov,rfl,hv3,hg2,hne⟩;have hvl:=bm9 hv3;by_cases hil:i<LL.length
  ·have e1:(i:Int)<LL.length:=by omega
   have e2:(0:Int)<=(i:Int):=by omega
   have w1:=ad2 (i:=i) (by omega);simp only[go_sem,hvl,e1];refine ab3 noT (fun k fr x=>∃ ov,fr=[(1,aj1 st),(13,v3),(14,ov),(15,.int .i64 (i:Int)),(16,.int .i64 (k:Int))]/\ad1 x 0 v3 LL/\Grow x ov 2 ((LL.take i).map (stepOf st)++((st.take k).filter fun s=>decide (s.p=LL[i])).map Step.cs)/\∀ a n m,v3=.slice a 0 n 1->ov≠.slice a 0 m 2) st.length ⟨ov,rfl,hv3,by simpa using hg2,hne⟩ ?_;clear hv3 hg2 hne ov x;rintro k fr x hk3 ⟨ov,rfl,hv3,hg2,hne⟩;by_cases hkl:k<st.length
   ·obtain ⟨s,hsm,hsi,hdr,hget,htk⟩:=ae8 st k hkl;obtain ⟨id,rfl,ho,hh⟩:=ce9 hv3 hil;have x1:(k:Int)<st.length:=by omega
    have x2:(0:Int)<=(k:Int):=by omega
    have w2:=ad2 (i:=k) (by omega);by_cases hp:s.p=LL[i]
    ·have hfil:(st.take (k+1)).filter (fun s=>decide (s.p=LL[i]))=(st.take k).filter (fun s=>decide (s.p=LL[i]))++[s]:=by rw[htk,List.filter_append,List.filter_cons,if_pos (decide_eq_true hp)]; rfl
     have hall:∀ e∈(LL.take i).map (stepOf st)++((st.take k).filter fun s=>decide (s.p=LL[i])).map Step.cs,e.length=2/\e.all IV.leaf=true:=fun e he=>by
      rcases List.mem_append.1 he with he|he
      ·exact bm6 st _ e he
      ·obtain ⟨y,_,rfl⟩:=List.mem_map.1 he; exact ⟨rfl,rfl⟩
     have hle:((LL.take i).map (stepOf st)++((st.take k).filter fun s=>decide (s.p=LL[i])).map Step.cs).length<2147483648:=by
      have:=List.length_filter_le (fun s=>decide (s.p=LL[i])) (st.take k);rw[List.length_append,List.length_map,List.length_map,List.length_take];rw[List.length_take] at this;omega
     have hg3:Grow (⟨x.next+10+1,x.obj⟩:Store) ov 2 _:=hg2.mono (by show x.next<=x.next+10+1; omega) fun _ _ _=>rfl
     have hap:=aj6 (nid:=x.next+10) (e:=s.cs) hg3 hall ⟨rfl,rfl⟩ hle;simp only[go_sem,x1,x2,hget,ap4,al2,al1,dt7,e1,e2,ho,hh,hp,hap,w2];refine ⟨hkl,_,rfl,?_,?_,fun a n m h h2=>?_⟩
     ·have hidx:=(ar8 hv3 rfl).2;refine .inr ⟨id,Nat.zero_le _,?_,rfl,?_⟩
      ·show id<(ad7 ov _).next;rw[ac1]; show id<x.next+10+1; omega
      ·rw[aa2,if_neg (by omega)];rcases hg2 with ⟨rfl,_⟩|⟨id2,h1,_,_⟩
       ·exact ho
       ·rw[h1];show (if id=id2 then none else x.obj id)=_;rw[if_neg fun e=>hne _ _ _ rfl (by rw[h1,e])]; exact ho
     ·rw[hfil,List.map_append,List.map_cons,List.map_nil,<- List.append_assoc];refine .inr ⟨x.next+10,by simp only[List.length_append,List.length_singleton],by rw[aa2,if_pos rfl],?_⟩;show x.next+10<(ad7 ov _).next;rw[ac1]; show x.next+10<x.next+10+1; omega
     ·have hidx:=(ar8 hv3 rfl).2;cases h; cases h2; omega
    ·have hfil:(st.take (k+1)).filter (fun s=>decide (s.p=LL[i]))=(st.take k).filter (fun s=>decide (s.p=LL[i])):=by rw[htk,List.filter_append,List.filter_cons,if_neg (by simpa using hp)]; simp
     simp only[go_sem,x1,x2,hget,ap4,al2,al1,dt7,e1,e2,ho,hh,hp,w2];refine ⟨hkl,ov,rfl,hv3.up _,?_,hne⟩;rw[hfil];exact hg2.mono (Nat.le_add_right _ _) fun _ _ _=>rfl
   ·have hk':k=st.length:=by omega
    subst hk';have x1:¬ (st.length:Int)<st.length:=by omega
    rw[List.take_length,gh6 hd (hmemL _ (List.getElem_mem hil))] at hg2;simp only[go_sem,x1,w1];refine ⟨hil,ov,rfl,hv3,?_,hne⟩;have:LL.take (i+1)=LL.take i++[LL[i]]:=List.take_succ_eq_append_getElem hil;rw[this,List.map_append];exact hg2
  ·have hi':i=LL.length:=by omega
   subst hi';have e1:¬ (LL.length:Int)<LL.length:=by omega
   rw[List.take_length] at hg2;simp only[go_sem,hvl,e1];refine .cn2 (.cons (hg2.frz (fun x hx=>(bm6 st LL x hx).1) (fun _ _=>Nat.not_lt_zero _) fun e he c hc=>?_) (.cons (ac8 _ _) .nil));obtain ⟨n,_,rfl⟩:=List.mem_map.1 he;exact bt8 _ c hc
set_option maxHeartbeats 1000000
set_option maxHeartbeats 1000000
def ih8 (e:Nat)(es:List (List IV)):Prop:=∀ x∈es,x.length=e/\x.all IV.leaf=true
def Far (v w:IV):Prop:=∀ i k e j l f,v=.slice i 0 k e->w=.slice j 0 l f->i≠j
structure Q12 (s:Store) (id:Nat) (n:Int) (k:Nat) (Lv Rv Pv:IV) (eL eR eP:List (List IV)):Prop where
 cell:s.obj id=some (.cells [Lv,.int .i64 n,Rv,Pv])
 lt:id<s.next
 gL:Grow s Lv 15 eL
 gR:Grow s Rv 1 eR
 gP:Grow s Pv 1 eP
 aL:ih8 15 eL
 aR:ih8 1 eR
 aP:ih8 1 eP
 kL:eL.length<=k
 kR:eR.length<=k
 kP:eP.length<=k
 lr:Far Lv Rv
 lp:Far Lv Pv
 rp:Far Rv Pv
theorem Q12.mono {s s':Store}{id:Nat}{n:Int}{k:Nat}{Lv Rv Pv:IV}{eL eR eP:List (List IV)}(h:Q12 s id n k Lv Rv Pv eL eR eP)(hn:s.next<=s'.next)(ho:∀ i,i<s.next->s'.obj i=s.obj i):Q12 s' id n k Lv Rv Pv eL eR eP :=
 {h with
  cell:=by rw[ho _ h.lt]; exact h.cell
  lt:=Nat.lt_of_lt_of_le h.lt hn
  gL:=h.gL.mono hn fun i _ hi=>ho i hi
  gR:=h.gR.mono hn fun i _ hi=>ho i hi
  gP:=h.gP.mono hn fun i _ hi=>ho i hi }
theorem ej8 {s:Store}{v:IV}{e:Nat}{es:List (List IV)}(h:Grow s v e es){i k f:Nat}(hv:v=.slice i 0 k f):i<s.next/\∃ cs,s.obj i=some (.row cs):=by
 rcases h with ⟨h0,_⟩|⟨j,hj,ho,hl⟩
 ·rw[h0] at hv; cases hv
 ·rw[hj] at hv; cases hv; exact ⟨hl,_,ho⟩
theorem fv8 {s:Store}{v:IV}{i:Nat}(h:∀ k e,v≠.slice i 0 k e){e:Nat}{es:List (List IV)}(hg:Grow s v e es):(ad7 v s).obj i=s.obj i:=by
 rcases hg with ⟨h0,_⟩|⟨j,hj,_,_⟩
 ·rw[h0]; rfl
 ·rw[hj];show (if i=j then none else s.obj i)=_;rw[if_neg fun e=>h _ _ (by rw[hj,e])]
theorem fb7 {s:Store}{v w:IV}{e f m nid:Nat}{es fs:List (List IV)}(hm:s.next<=m)(hg:Grow s v e es)(hw:Grow s w f fs)(hf:Far v w)(hn:∀ i k g,w=.slice i 0 k g->i≠nid)(r:ak4) :
  Grow ((ad7 v (⟨m,s.obj⟩:Store)).put nid r) w f fs:=by
 have hg':Grow (⟨m,s.obj⟩:Store) v e es:=hg.mono hm fun _ _ _=>rfl
 refine hw.mono (by rw[aa6,ac1]; exact hm) fun i hv _=>?_
 rw[aa2,if_neg (hn _ _ _ hv),fv8 (fun k g hk=>hf _ _ _ _ _ _ hk hv rfl) hg']
theorem Q12.push {t:Store}{id:Nat}{n:Int}{k:Nat}{Lv Rv Pv:IV}{eL eR eP:List (List IV)}(h:Q12 t id n k Lv Rv Pv eL eR eP)(hk:k<2^20){c:List IV}(hc:c.length=15/\c.all IV.leaf=true)(a b:Int){d1 d2 d3 d4:Nat}(h12:d1<d2)(h23:d2<d3)(h34:d3<d4) :
  ∃ L' R' P' S1 S2 S3,an5 ⟨t.next+d4,t.obj⟩ (t.next+d1) 15 Lv (.aa3 [c])=some (L',S1)/\S1.obj id=some (.cells [Lv,.int .i64 n,Rv,Pv])/\an5 S1 (t.next+d2) 1 Rv (.aa3 [[.int .i64 a]])=some (R',S2)/\S2.obj id=some (.cells [Lv,.int .i64 n,Rv,Pv]) /\
   an5 S2 (t.next+d3) 1 Pv (.aa3 [[.int .i64 b]])=some (P',S3)/\S3.obj id=some (.cells [Lv,.int .i64 n,Rv,Pv])/\(L'.leaf=true/\L'.cs=[L']/\R'.leaf=true/\R'.cs=[R']/\P'.leaf=true/\P'.cs=[P'])/\S3.next=t.next+d4 /\
   ∀ τ:Store,t.next+d4<=τ.next->τ.obj id=some (.cells [L',.int .i64 n,R',P'])->(∀ i,i≠id->τ.obj i=S3.obj i)->Q12 τ id n (k+1) L' R' P' (eL++[c]) (eR++[[.int .i64 a]]) (eP++[[.int .i64 b]]):=by
 have hcell:=h.cell;have nid1:¬ id=t.next+d1:=by have:=h.lt; omega
 have nid2:¬ id=t.next+d2:=by have:=h.lt; omega
 have nid3:¬ id=t.next+d3:=by have:=h.lt; omega
 have notrow:∀ {s:Store} {v:IV} {e:Nat} {es:List (List IV)},Grow s v e es->s.obj id=some (.cells [Lv,.int .i64 n,Rv,Pv])->∀ kk ee,v≠.slice id 0 kk ee:=fun hg ho kk ee hv=>by
  obtain ⟨_,cs,hr⟩:=ej8 hg hv;rw[ho] at hr; cases hr
 have old:∀ {s:Store} {v:IV} {e:Nat} {es:List (List IV)},Grow s v e es->s.next=t.next->∀ d i kk g,v=.slice i 0 kk g->i≠t.next+d:=fun hg hs d i kk g hv=>by
  have:=(ej8 hg hv).1; omega
 -- the first row
 have G0:Grow (⟨t.next+d4,t.obj⟩:Store) Lv 15 eL:=h.gL.mono (by show t.next<=t.next+d4; omega) fun _ _ _=>rfl
 have A1:=aj6 (nid:=t.next+d1) (e:=c) G0 h.aL hc (by have:=h.kL; omega)
 have c1:((ad7 Lv (⟨t.next+d4,t.obj⟩:Store)).put (t.next+d1) (.row (eL++[c]).flatten)).obj id=some (.cells [Lv,.int .i64 n,Rv,Pv]):=by
  rw[aa2,if_neg nid1]; exact af7 G0 id _ hcell (fun _ e=>by cases e)
 have R1:=fb7 (m:=t.next+d4) (nid:=t.next+d1) (Nat.le_add_right _ _) h.gL h.gR h.lr (old h.gR rfl d1) (.row (eL++[c]).flatten);have P1:=fb7 (m:=t.next+d4) (nid:=t.next+d1) (Nat.le_add_right _ _) h.gL h.gP h.lp (old h.gP rfl d1) (.row (eL++[c]).flatten);have L1:Grow ((ad7 Lv (⟨t.next+d4,t.obj⟩:Store)).put (t.next+d1) (.row (eL++[c]).flatten)) (.slice (t.next+d1) 0 (eL.length+1) 15) 15 (eL++[c]):=Grow.new (v:=.aa1) (by rw[aa6,ac1]; show _<t.next+d4; omega) (by rw[aa2,if_pos rfl]);have N1:((ad7 Lv (⟨t.next+d4,t.obj⟩:Store)).put (t.next+d1) (.row (eL++[c]).flatten)).next=t.next+d4:=by rw[aa6,ac1]
 generalize (ad7 Lv (⟨t.next+d4,t.obj⟩:Store)).put (t.next+d1) (.row (eL++[c]).flatten)=S1 at *
 -- the second
 have A2:=aj6 (nid:=t.next+d2) (e:=[IV.int .i64 a]) R1 h.aR ⟨rfl,rfl⟩ (by have:=h.kR; omega);have e1:(⟨S1.next,S1.obj⟩:Store)=S1:=rfl
 have c2:((ad7 Rv S1).put (t.next+d2) (.row (eR++[[IV.int .i64 a]]).flatten)).obj id=some (.cells [Lv,.int .i64 n,Rv,Pv]):=by
  rw[aa2,if_neg nid2]; exact af7 R1 id _ c1 (fun _ e=>by cases e)
 have P2:Grow ((ad7 Rv S1).put (t.next+d2) (.row (eR++[[IV.int .i64 a]]).flatten)) Pv 1 eP:=fb7 (s:=S1) (m:=S1.next) (nid:=t.next+d2) (Nat.le_refl _) R1 P1 h.rp (fun i kk g hv=>old h.gP rfl d2 i kk g hv) _;have L2:Grow ((ad7 Rv S1).put (t.next+d2) (.row (eR++[[IV.int .i64 a]]).flatten)) (.slice (t.next+d1) 0 (eL.length+1) 15) 15 (eL++[c]):=fb7 (s:=S1) (m:=S1.next) (nid:=t.next+d2) (Nat.le_refl _) R1 L1 (fun i kk g j l f hv hw=>by cases hw; exact old h.gR rfl d1 _ _ _ hv) (fun i kk g hv=>by cases hv; omega) _;have R2:Grow ((ad7 Rv S1).put (t.next+d2) (.row (eR++[[IV.int .i64 a]]).flatten)) (.slice (t.next+d2) 0 (eR.length+1) 1) 1 (eR++[[IV.int .i64 a]]):=Grow.new (v:=.aa1) (by rw[aa6,ac1,N1]; omega) (by rw[aa2,if_pos rfl]);have N2:((ad7 Rv S1).put (t.next+d2) (.row (eR++[[IV.int .i64 a]]).flatten)).next=t.next+d4:=by rw[aa6,ac1,N1]
 generalize (ad7 Rv S1).put (t.next+d2) (.row (eR++[[IV.int .i64 a]]).flatten)=S2 at *
 -- the third
 have A3:=aj6 (nid:=t.next+d3) (e:=[IV.int .i64 b]) P2 h.aP ⟨rfl,rfl⟩ (by have:=h.kP; omega)
 have c3:((ad7 Pv S2).put (t.next+d3) (.row (eP++[[IV.int .i64 b]]).flatten)).obj id=some (.cells [Lv,.int .i64 n,Rv,Pv]):=by
  rw[aa2,if_neg nid3]; exact af7 P2 id _ c2 (fun _ e=>by cases e)
 have L3:Grow ((ad7 Pv S2).put (t.next+d3) (.row (eP++[[IV.int .i64 b]]).flatten)) (.slice (t.next+d1) 0 (eL.length+1) 15) 15 (eL++[c]):=fb7 (s:=S2) (m:=S2.next) (nid:=t.next+d3) (Nat.le_refl _) P2 L2 (fun i kk g j l f hv hw=>by cases hw; exact old h.gP rfl d1 _ _ _ hv) (fun i kk g hv=>by cases hv; omega) _;have R3:Grow ((ad7 Pv S2).put (t.next+d3) (.row (eP++[[IV.int .i64 b]]).flatten)) (.slice (t.next+d2) 0 (eR.length+1) 1) 1 (eR++[[IV.int .i64 a]]):=fb7 (s:=S2) (m:=S2.next) (nid:=t.next+d3) (Nat.le_refl _) P2 R2 (fun i kk g j l f hv hw=>by cases hw; exact old h.gP rfl d2 _ _ _ hv) (fun i kk g hv=>by cases hv; omega) _;have P3:Grow ((ad7 Pv S2).put (t.next+d3) (.row (eP++[[IV.int .i64 b]]).flatten)) (.slice (t.next+d3) 0 (eP.length+1) 1) 1 (eP++[[IV.int .i64 b]]):=Grow.new (v:=.aa1) (by rw[aa6,ac1,N2]; omega) (by rw[aa2,if_pos rfl]);have N3:((ad7 Pv S2).put (t.next+d3) (.row (eP++[[IV.int .i64 b]]).flatten)).next=t.next+d4:=by rw[aa6,ac1,N2]
 generalize (ad7 Pv S2).put (t.next+d3) (.row (eP++[[IV.int .i64 b]]).flatten)=S3 at *;refine ⟨_,_,_,S1,S2,S3,A1,c1,A2,c2,A3,c3,⟨rfl,rfl,rfl,rfl,rfl,rfl⟩,N3,fun τ hτ hcτ hoτ=>?_⟩;have keep:∀ {v:IV} {e:Nat} {es:List (List IV)},Grow S3 v e es->Grow τ v e es:=fun hg=>hg.mono (by omega) fun i hv _=>hoτ i fun e=>notrow hg c3 _ _ (by rw[<- e]; exact hv)
 have snocE:∀ {e:Nat} {es:List (List IV)} {x:List IV},ih8 e es->(x.length=e/\x.all IV.leaf=true)->ih8 e (es++[x]):=fun h1 h2 y hy=>by
  rcases List.mem_append.1 hy with hy|hy
  ·exact h1 y hy
  ·rw[List.mem_singleton] at hy; rw[hy]; exact h2
 exact {
  cell:=hcτ
  lt:=by have:=h.lt; omega
  gL:=keep L3
  gR:=keep R3
  gP:=keep P3
  aL:=snocE h.aL hc
  aR:=snocE h.aR ⟨rfl,rfl⟩
  aP:=snocE h.aP ⟨rfl,rfl⟩
  kL:=by rw[List.length_append]; have:=h.kL; simp only[List.length_singleton]; omega
  kR:=by rw[List.length_append]; have:=h.kR; simp only[List.length_singleton]; omega
  kP:=by rw[List.length_append]; have:=h.kP; simp only[List.length_singleton]; omega
  lr:=fun i k e j l f h1 h2=>by cases h1; cases h2; omega
  lp:=fun i k e j l f h1 h2=>by cases h1; cases h2; omega
  rp:=fun i k e j l f h1 h2=>by cases h1; cases h2; omega }
set_option maxHeartbeats 1000000
def gn4 (ab5:List ak2)(inst:List aa4):List aa4:=inst++ab5.flatMap fun r=>r.packages
theorem gn5 (ab5:List ak2)(inst:List aa4)(hN:inst.length+ag6 ab5<=256)(hr:ab5.length<=16):PC Tryz.prog EE 6 [be7 ab5,ao3 inst] (ao3 (gn4 ab5 inst)):=by
 refine ao4 hE fok6 (nZ rfl) (au8 (bv2 ab5) (as7 inst)) ?_;have g0:Grow (({ next:=2,obj:=emp.obj }:Store).put 0 (ak4.row [])) (.slice 0 0 0 15) 15 []:=.inr ⟨0,rfl,by rw[aa2,if_pos rfl]; rfl,by show 0<2; omega⟩;obtain ⟨v1,t1,a1,n1,q1,_,_⟩:=bf7 (nid:=1) (xs:=inst.map aa4.cs) g0 (fun x h=>by cases h) (cf7 _) (by rw[List.length_map,List.length_nil]; omega) (by show 1<2; omega);rw[List.nil_append] at q1;simp only[ic6,go_sem,a1];refine ab3 noT (fun i fr t=>∃ gv,fr=[(0,be7 ab5),(5,gv),(6,.int .i64 (i:Int))]/\Grow t gv 15 ((gn4 (ab5.take i) inst).map aa4.cs)/\(gn4 (ab5.take i) inst).length+ag6 (ab5.drop i)=inst.length+ag6 ab5) ab5.length ⟨v1,rfl,by simpa [gn4] using q1,by simp[gn4]⟩ ?_;rintro i fr t hle ⟨gv,rfl,hg,hsum⟩;by_cases hlt:i<ab5.length
 ·obtain ⟨a,ha,_,hdr,hget,htk⟩:=ae8 ab5 i hlt;have c1:(i:Int)<ab5.length:=by omega
  have c2:(0:Int)<=i:=by omega
  have w1:=ad2 (i:=i) (by omega);rw[di5 ab5 i a hdr] at hsum
  have hap:gn4 (ab5.take (i+1)) inst=gn4 (ab5.take i) inst++a.packages:=by
   unfold gn4
   have:ab5.take (i+1)=ab5.take i++[a]:=by
    rw[List.take_add_one];have:=congrArg List.head? hdr;rw[List.head?_drop] at this;rw[this]; rfl
   rw[this,List.flatMap_append]; simp
  obtain ⟨v2,t2,a2,n2,q2,_,_⟩:=bf7 (nid:=t.next) (xs:=a.packages.map aa4.cs) (hg.mono (σ':=⟨t.next+1,t.obj⟩) (Nat.le_succ _) fun _ _ _=>rfl) (cf7 _) (cf7 _) (by rw[List.length_map,List.length_map]; omega) (Nat.lt_succ_self _);simp only[go_sem,c1,c2,hget,bv3,cp9,cp8,ak2.cs,a2,w1];refine ⟨hlt,v2,rfl,?_,?_⟩
  ·rw[hap,List.map_append]; exact q2
  ·rw[hap,List.length_append]; omega
 ·have hi':i=ab5.length:=by omega
  subst hi';have c1:¬ (ab5.length:Int)<ab5.length:=by omega
  rw[List.take_length] at hg;simp only[go_sem,c1];refine hg.frz (fun x hx=>(cf7 _ x hx).1) (fun _ _=>Nat.not_lt_zero _) fun e he c hc=>?_
  obtain ⟨y,_,rfl⟩:=List.mem_map.1 he;exact az8 y c hc
set_option maxHeartbeats 1000000
theorem gn6 {ab5:List ak2}{inst:List aa4}{p:Pool}(hI:ik7 ab5 inst)(hn:co5 ab5 inst=.inl p):bm8 p where
 len:=ef6 hn
 good:=fun q hq=>by
  have hf:=ii1 hI hn q hq;have hm:=hm6 hn q hq;refine ⟨hf.1,hf.2.1,?_⟩;have hr:=hf.1.db2 (1,q.requires) (by simp[aa4.rows])
  have hreq:q.requires.length<=32/\∀ r∈q.requires,ar7 r 1=0:=by
   unfold ah1 ak8 at hm;simp only[Bool.and_eq_true,decide_eq_true_eq,List.all_eq_true] at hm;exact hm.1.1.1.1.1.2
  refine ⟨by have:=hreq.1; omega,fun r hr2=>?_⟩;have h1:=fc1 (hreq.2 r hr2);have h2:=dt2 r;exact ⟨(hr.2 r hr2).1,by have:=h1.1; omega,by have:=h1.1; omega,fun d hd=>fw4 (h1.2 d hd)⟩
def aR (s:Str):aa9:=.mk 1 ⟨s,0,hp4⟩ []
set_option maxHeartbeats 1000000
theorem iv1 (b:Bool):gp4 [0] false false (.bool b) (.bool b)=some (.bool true):=by cases b<;>rfl
theorem dj2 (l:List Step):∀ x∈l.map Step.cs,x.length=2/\x.all IV.leaf=true:=fun x hx=>by
 obtain ⟨y,_,rfl⟩:=List.mem_map.1 hx; exact ⟨rfl,rfl⟩
theorem dj3 (ab5:List ak2)(inst:List aa4)(l:List Step)(n m:Int)(hI:ik7 ab5 inst)(hl:l.length<2^30) :
  PC Tryz.prog EE 3 [be7 ab5,ao3 inst,aj1 l,.int .i64 n,.int .i64 m] (.bool true):=by
 refine ao4 hE fok3 (nZ rfl) (ha9 (bv2 ab5) (as7 inst) (au4 l) (.int _ _) (.int _ _)) ?_;have hL:=ez2 ab5 inst l (by have:=hI.r1; omega) (by have:=hI.i1; omega) hI.ro hI.po;have hp:=cf5 ab5 inst hI.r1 hI.i1 hI.s1 hI.rf hI.pf;simp only[ic3,go_sem]
 cases hlg:bu1 ab5 inst l with
 | true=>
  rw[hlg] at hL
  first|refine aa5 fok4 (hL) ?_|refine aa8 (hL) ?_
  simp only[go_sem]
  exact ah8 rfl
 | false=>
 rw[hlg] at hL
 first|refine aa5 fok4 (hL) ?_|refine aa8 (hL) ?_
 have hl60:=dz7 hlg;simp only[go_sem]
 first|refine aa5 fok5 (hp) ?_|refine aa8 (hp) ?_
 cases hn:co5 ab5 inst with
 | inr e=>
  have he:¬ e=0:=by rcases gi5 hn with rfl|rfl<;>decide
  simp only[id7,go_sem,he]
  exact ah8 rfl
 | inl p=>
 obtain ⟨g1,g2,_,_⟩:=ce3 hn;have hG:=gn6 hI hn;have hAll:=gn5 ab5 inst g2 g1;have hal:gn4 ab5 inst=an9 p:=(co8 hn).symm;rw[hal] at hAll;have hlen:(an9 p).length<=256:=by simp only[an9,List.length_map]; exact ef6 hn
 have hA:=dz6 p hG l (by omega);have hB:=ec2 (an9 p) hlen hG.good l (by omega);have hrl:(an9 p).length=p.rows.length:=by simp[an9]
 rw[dr3,hrl] at hB;have hN:=dr2 p hG n m;have hN2:=ce8 (an9 p) hlen hG.good n m;rw[dr3] at hN2;have hss:=co9 l l (by omega) (by omega);rw[decide_eq_true (rfl:l=l)] at hss;have vcs:p.v.cs=[p.v]:=rfl;have vlf:p.v.leaf=true:=rfl;have hg0:Grow ((⟨2,emp.obj⟩:Store).put 0 (ak4.row [])) (.slice 0 0 0 2) 2 []:=.inr ⟨0,rfl,by rw[aa2,if_pos rfl]; rfl,by show 0<2; omega⟩;obtain ⟨v1,T,a1,n1,q1,_,_⟩:=bf7 (nid:=1) (xs:=l.map Step.cs) hg0 (fun x h=>by cases h) (dj2 l) (by rw[List.length_map,List.length_nil]; omega) (by show 1<2; omega);rw[List.nil_append] at q1;simp only[id7,go_sem,vcs,vlf]
 first|refine aa5 fok6 (hAll) ?_|refine aa8 (hAll) ?_
 simp only[go_sem,a1,vcs,vlf]
 cases hok:okS p.rows.length l with
 | false=>
  rw[hok,if_neg (by decide)] at hA hB
  have hsm:PC Tryz.prog EE 9 [.aa1,.aa1] (.bool true):=by
   have h:=co9 [] [] (by decide) (by decide);rw[decide_eq_true (rfl:([]:List Step)=[])] at h;exact gz9 (args':=[aj1 [],aj1 []]) (by kernel_rfl) h
  first|refine aa5 fok7 (hA) ?_|refine aa8 (hA) ?_
  simp only[go_sem]
  first|refine aa5 fok8 (hB) ?_|refine aa8 (hB) ?_
  simp only[go_sem]
  first|refine aa5 fok9 (hsm) ?_|refine aa8 (hsm) ?_
  simp only[go_sem];refine ad3 fok9 (cn7 (args':=[aj1 l,aj1 l]) hE rfl (fun i hi=>?_) (by simp[IV.plain]) hss) ?_
  ·have:i=0\/i=1:=by simp only[List.length_cons,List.length_nil] at hi; omega
   rcases this with rfl|rfl
   ·exact q1.frz (fun x hx=>(dj2 l x hx).1) (fun _ _=>Nat.not_lt_zero _) fun e he c hc=>by
     obtain ⟨y,_,rfl⟩:=List.mem_map.1 he;exact bt8 y c hc
   ·exact .keep _ (au4 l)
  rintro r s ⟨rfl,rfl⟩;refine ⟨Nat.le_refl _,?_⟩;simp only[go_sem,vcs,vlf]
  first|refine aa5 fok10 (hN) ?_|refine aa8 (hN) ?_
  simp only[go_sem]
  first|refine aa5 fok11 (hN2) ?_|refine aa8 (hN2) ?_
  simp only[go_sem,iv1]
  exact ah8 rfl
 | true=>
  rw[hok,if_pos rfl] at hA hB;have hsm:=co9 (be4 (ai1 p) l) (be4 (ai1 p) l) (by rw[bu2]; omega) (by rw[bu2]; omega);rw[decide_eq_true (rfl:be4 (ai1 p) l=_)] at hsm
  first|refine aa5 fok7 (hA) ?_|refine aa8 (hA) ?_
  simp only[go_sem]
  first|refine aa5 fok8 (hB) ?_|refine aa8 (hB) ?_
  simp only[go_sem]
  first|refine aa5 fok9 (hsm) ?_|refine aa8 (hsm) ?_
  simp only[go_sem];refine ad3 fok9 (cn7 (args':=[aj1 l,aj1 l]) hE rfl (fun i hi=>?_) (by simp[IV.plain]) hss) ?_
  ·have:i=0\/i=1:=by simp only[List.length_cons,List.length_nil] at hi; omega
   rcases this with rfl|rfl
   ·exact q1.frz (fun x hx=>(dj2 l x hx).1) (fun _ _=>Nat.not_lt_zero _) fun e he c hc=>by
     obtain ⟨y,_,rfl⟩:=List.mem_map.1 he;exact bt8 y c hc
   ·exact .keep _ (au4 l)
  rintro r s ⟨rfl,rfl⟩;refine ⟨Nat.le_refl _,?_⟩;simp only[go_sem,vcs,vlf]
  first|refine aa5 fok10 (hN) ?_|refine aa8 (hN) ?_
  simp only[go_sem]
  first|refine aa5 fok11 (hN2) ?_|refine aa8 (hN2) ?_
  simp only[go_sem,iv1];exact ah8 rfl
open Go Go.Id Go.Proofs Go.Id.Md
end Go.Id.Tryz
set_option linter.all false
namespace Go.Id.Tryz
open Go Go.Id Go.Proofs Go.Id.Md
set_option maxRecDepth 100000
variable {H:Type} {enc:TypeId×Value->H} {w:World} {base:Nat} {sp:Nat->Bool} {held:Bool}
abbrev Rd (enc:TypeId×Value->H)(w:World)(base:Nat)(sp:Nat->Bool)(held:Bool):=Rdg enc Tryz.prog w base sp held
theorem gu2 {n:Nat}{d:DataW H}(h:Rd enc w base sp held n 70 d)(hw:WT Tryz.prog 70 d):∃ e:EVR,e.fit/\∀ m,n<=m->dv Tryz.prog m 70 d=some e.cs:=by
 obtain ⟨n',ds,rfl,rfl,hl,hf⟩:=bb7 Tryz.underlying70 h hw
 match ds,hl with
 | [d0,d1,d2],_=>
  obtain ⟨r0,w0⟩:=hf 0 _ d0 rfl rfl;obtain ⟨r1,w1⟩:=hf 1 _ d1 rfl rfl;obtain ⟨r2,w2⟩:=hf 2 _ d2 rfl rfl;obtain ⟨z,_,_,e0⟩:=cg6 Tryz.underlying3 r0;obtain ⟨s1,l1,e1⟩:=da7 Tryz.underlying9 r1 w1;obtain ⟨s2,l2,e2⟩:=da7 Tryz.underlying9 r2 w2;refine ⟨⟨z,s1,s2⟩,⟨l1,l2⟩,fun m hm=>?_⟩
  cases m with
  | zero=>omega
  | succ m=>
   have c3:Tryz.prog.cellsOf 3=1:=by kernel_rfl
   have c9:Tryz.prog.cellsOf 9=1:=by kernel_rfl
   have ct:Tryz.prog.cellsOf 70=3:=by kernel_rfl
   simp only[dv,Tryz.underlying70,List.map_cons,List.map_nil,dvF,e0 m (by omega),e1 m (by omega),e2 m (by omega),List.length_cons,List.length_nil,c3,c9,ct,List.cons_append,List.nil_append,List.append_nil,Nat.reduceAdd,↓reduceIte];rfl
theorem is6 {z:Int}(h:(Lit.int .u8 z).wf=true):0<=z/\z<256:=by
 simp only[Lit.wf,Bool.and_eq_true,decide_eq_true_eq] at h;have e1:IntKind.u8.min=0:=rfl;have e2:IntKind.u8.max=255:=rfl;omega
theorem ig3:Tryz.prog.cellsOf 3=1:=by kernel_rfl
theorem ik4:Tryz.prog.cellsOf 5=1:=by kernel_rfl
theorem hk6:Tryz.prog.cellsOf 9=1:=by kernel_rfl
theorem ig4:Tryz.prog.cellsOf 70=3:=by kernel_rfl
theorem hk7:Tryz.prog.cellsOf 81=5:=by kernel_rfl
theorem ft6:Tryz.prog.cellsOf 83=7:=by kernel_rfl
theorem ig5:Tryz.prog.cellsOf 75=15:=by kernel_rfl
theorem gu3:Tryz.prog.cellsOf 40=2:=by kernel_rfl
theorem ig6:Tryz.prog.cellsOf 71=1:=by kernel_rfl
theorem ei9:Tryz.prog.cellsOf 72=1:=by kernel_rfl
theorem ig7:Tryz.prog.cellsOf 73=1:=by kernel_rfl
theorem ig8:Tryz.prog.cellsOf 23=1:=by kernel_rfl
theorem gu4 {n:Nat}{d:DataW H}(h:Rd enc w base sp held n 81 d)(hw:WT Tryz.prog 81 d):∃ e:Dep,e.fit/\∀ m,n<=m->dv Tryz.prog m 81 d=some e.cs:=by
 obtain ⟨n',ds,rfl,rfl,hl,hf⟩:=bb7 Tryz.underlying81 h hw
 match ds,hl with
 | [d0,d1,d2],_=>
  obtain ⟨r0,w0⟩:=hf 0 _ d0 rfl rfl;obtain ⟨r1,w1⟩:=hf 1 _ d1 rfl rfl;obtain ⟨r2,w2⟩:=hf 2 _ d2 rfl rfl;obtain ⟨s0,l0,e0⟩:=da7 Tryz.underlying9 r0 w0;obtain ⟨z,_,_,e1⟩:=cg6 Tryz.underlying5 r1;obtain ⟨e,l2,e2⟩:=gu2 r2 w2;refine ⟨⟨s0,z,e⟩,⟨l0,l2⟩,fun m hm=>?_⟩
  cases m with
  | zero=>omega
  | succ m=>
   simp only[dv,Tryz.underlying81,List.map_cons,List.map_nil,dvF,e0 m (by omega),e1 m (by omega),e2 m (by omega),EVR.cs,List.length_cons,List.length_nil,hk6,ik4,ig4,hk7,List.cons_append,List.nil_append,List.append_nil,Nat.reduceAdd,↓reduceIte];rfl
theorem hk8:∀ (n:Nat) (d:DataW H),Rd enc w base sp held n 83 d->WT Tryz.prog 83 d->∃ r:aa9,r.ok/\∀ m,n<=m->dv Tryz.prog m 83 d=some r.cs:=by
 intro n
 induction n using Nat.strongRecOn with
 | ind n ih=>
  intro d h hw;obtain ⟨n',ds,rfl,rfl,hl,hf⟩:=bb7 Tryz.underlying83 h hw
  match ds,hl with
  | [d0,d1,d2],_=>
   obtain ⟨r0,w0⟩:=hf 0 _ d0 rfl rfl;obtain ⟨r1,w1⟩:=hf 1 _ d1 rfl rfl;obtain ⟨r2,w2⟩:=hf 2 _ d2 rfl rfl;obtain ⟨z,_,hz,e0⟩:=cg6 Tryz.underlying5 r0;obtain ⟨e,l1,e1⟩:=gu4 r1 w1;obtain ⟨l,k1,k2,e2⟩:=bd7 aa9.cs aa9.ok Tryz.underlying72 ft6 (by decide) (by decide +kernel) (fun r=>by rw[aa9.au9]; rfl) (fun m d' hm hr hw'=>ih m (by omega) d' hr hw') r2 w2;have hz':=is6 hz;refine ⟨.mk z e l,aa9.hf4.2 ⟨hz'.1,hz'.2,l1,k1,k2⟩,fun m hm=>?_⟩
   cases m with
   | zero=>omega
   | succ m=>
    simp only[dv,Tryz.underlying83,List.map_cons,List.map_nil,dvF,e0 m (by omega),e1 m (by omega),e2 m (by omega),Dep.cs,List.length_cons,List.length_nil,ei9,ik4,hk7,ft6,List.cons_append,List.nil_append,List.append_nil,Nat.reduceAdd,↓reduceIte];rw[aa9.au9];rfl
theorem ft7 {n:Nat}{d:DataW H}(h:Rd enc w base sp held n 71 d)(hw:WT Tryz.prog 71 d):∃ l:List Dep,l.length<2^62/\(∀ a∈l,a.fit)/\∀ m,n<=m->dv Tryz.prog m 71 d=some [deps l]:=
 bd7 Dep.cs Dep.fit Tryz.underlying71 hk7 (by decide) (by decide +kernel) (fun _=>rfl) (fun _ _ _ hr hw'=>gu4 hr hw') h hw
theorem bc4 {n:Nat}{d:DataW H}(h:Rd enc w base sp held n 72 d)(hw:WT Tryz.prog 72 d):∃ l:List aa9,l.length<2^62/\(∀ a∈l,a.ok)/\∀ m,n<=m->dv Tryz.prog m 72 d=some [ae6 l]:=
 bd7 aa9.cs aa9.ok Tryz.underlying72 ft6 (by decide) (by decide +kernel) (fun r=>by rw[aa9.au9]; rfl) (fun m d' _ hr hw'=>hk8 m d' hr hw') h hw
theorem hk9 {n:Nat}{d:DataW H}(h:Rd enc w base sp held n 73 d)(hw:WT Tryz.prog 73 d):∃ l:List Str,l.length<2^62/\(∀ a∈l,a.length<2^62)/\∀ m,n<=m->dv Tryz.prog m 73 d=some [strs l]:=
 bd7 bn7 (fun s:Str=>s.length<2^62) Tryz.underlying73 hk6 (by decide) (by decide +kernel) (fun _=>rfl) (fun _ _ _ hr hw'=>da7 Tryz.underlying9 hr hw') h hw
theorem ig9 {n:Nat}{d:DataW H}(h:Rd enc w base sp held n 75 d)(hw:WT Tryz.prog 75 d):∃ p:aa4,p.Ok/\∀ m,n<=m->dv Tryz.prog m 75 d=some p.cs:=by
 obtain ⟨n',ds,rfl,rfl,hl,hf⟩:=bb7 Tryz.underlying75 h hw
 match ds,hl with
 | [d0,d1,d2,d3,d4,d5,d6,d7,d8,d9,d10,d11,d12],_=>
  obtain ⟨r0,w0⟩:=hf 0 _ d0 rfl rfl;obtain ⟨r1,w1⟩:=hf 1 _ d1 rfl rfl;obtain ⟨r2,w2⟩:=hf 2 _ d2 rfl rfl;obtain ⟨r3,w3⟩:=hf 3 _ d3 rfl rfl;obtain ⟨r4,w4⟩:=hf 4 _ d4 rfl rfl;obtain ⟨r5,w5⟩:=hf 5 _ d5 rfl rfl;obtain ⟨r6,w6⟩:=hf 6 _ d6 rfl rfl;obtain ⟨r7,w7⟩:=hf 7 _ d7 rfl rfl;obtain ⟨r8,w8⟩:=hf 8 _ d8 rfl rfl;obtain ⟨r9,w9⟩:=hf 9 _ d9 rfl rfl;obtain ⟨r10,w10⟩:=hf 10 _ d10 rfl rfl;obtain ⟨r11,w11⟩:=hf 11 _ d11 rfl rfl;obtain ⟨r12,w12⟩:=hf 12 _ d12 rfl rfl;obtain ⟨x0,l0,e0⟩:=da7 Tryz.underlying9 r0 w0;obtain ⟨x1,l1,e1⟩:=gu2 r1 w1;obtain ⟨x2,_,_,e2⟩:=cg6 Tryz.underlying5 r2;obtain ⟨x3,l3,e3⟩:=da7 Tryz.underlying9 r3 w3;obtain ⟨x4,l4,k4,e4⟩:=ft7 r4 w4;obtain ⟨x5,l5,k5,e5⟩:=bc4 r5 w5;obtain ⟨x6,l6,k6,e6⟩:=bc4 r6 w6;obtain ⟨x7,l7,k7,e7⟩:=ft7 r7 w7;obtain ⟨x8,l8,k8,e8⟩:=bc4 r8 w8;obtain ⟨x9,l9,k9,e9⟩:=bc4 r9 w9;obtain ⟨x10,l10,k10,e10⟩:=bc4 r10 w10;obtain ⟨x11,l11,k11,e11⟩:=bc4 r11 w11;obtain ⟨x12,l12,k12,e12⟩:=hk9 r12 w12;refine ⟨⟨x0,x1,x2,x3,x4,x5,x6,x7,x8,x9,x10,x11,x12⟩,⟨l0,l3,l1,⟨l4,k4⟩,⟨l7,k7⟩,⟨l12,k12⟩,?_⟩,fun m hm=>?_⟩
  ·intro x hx;simp only[aa4.rows,List.mem_cons,List.not_mem_nil,or_false] at hx;rcases hx with rfl|rfl|rfl|rfl|rfl|rfl
   ·exact ⟨l5,k5⟩
   ·exact ⟨l6,k6⟩
   ·exact ⟨l8,k8⟩
   ·exact ⟨l9,k9⟩
   ·exact ⟨l10,k10⟩
   ·exact ⟨l11,k11⟩
  cases m with
  | zero=>omega
  | succ m=>
   simp only[dv,Tryz.underlying75,List.map_cons,List.map_nil,dvF,e0 m (by omega),e1 m (by omega),e2 m (by omega),e3 m (by omega),e4 m (by omega),e5 m (by omega),e6 m (by omega),e7 m (by omega),e8 m (by omega),e9 m (by omega),e10 m (by omega),e11 m (by omega),e12 m (by omega),EVR.cs,List.length_cons,List.length_nil,hk6,ik4,ig4,ig6,ei9,ig7,ig5,List.cons_append,List.nil_append,List.append_nil,Nat.reduceAdd,↓reduceIte];rfl
theorem ft8 {n:Nat}{d:DataW H}(h:Rd enc w base sp held n 23 d)(hw:WT Tryz.prog 23 d):∃ l:List aa4,l.length<2^62/\(∀ a∈l,a.Ok)/\∀ m,n<=m->dv Tryz.prog m 23 d=some [.aa3 (l.map aa4.cs)]:=
 bd7 aa4.cs aa4.Ok Tryz.underlying23 ig5 (by decide) (by decide +kernel) (fun _=>rfl) (fun _ _ _ hr hw'=>ig9 hr hw') h hw
theorem hl7 {n:Nat}{d:DataW H}(h:Rd enc w base sp held n 40 d)(hw:WT Tryz.prog 40 d):∃ r:ak2,ak2.Ok r/\∀ m,n<=m->dv Tryz.prog m 40 d=some r.cs:=by
 obtain ⟨n',ds,rfl,rfl,hl,hf⟩:=bb7 Tryz.underlying40 h hw
 match ds,hl with
 | [d0,d1],_=>
  obtain ⟨r0,w0⟩:=hf 0 _ d0 rfl rfl;obtain ⟨r1,w1⟩:=hf 1 _ d1 rfl rfl;obtain ⟨z,_,_,e0⟩:=cg6 Tryz.underlying3 r0;obtain ⟨l,k1,k2,e1⟩:=ft8 r1 w1;refine ⟨⟨z,l⟩,⟨k1,k2⟩,fun m hm=>?_⟩
  cases m with
  | zero=>omega
  | succ m=>
   simp only[dv,Tryz.underlying40,List.map_cons,List.map_nil,dvF,e0 m (by omega),e1 m (by omega),List.length_cons,List.length_nil,ig3,ig8,gu3,List.cons_append,List.nil_append,List.append_nil,Nat.reduceAdd,↓reduceIte];rfl
theorem gl9 {n:Nat}{d:DataW H}(h:Rd enc w base sp held n 22 d)(hw:WT Tryz.prog 22 d):∃ l:List ak2,l.length<2^62/\(∀ a∈l,ak2.Ok a)/\∀ m,n<=m->dv Tryz.prog m 22 d=some [.aa3 (l.map ak2.cs)]:=
 bd7 ak2.cs ak2.Ok Tryz.underlying22 gu3 (by decide) (by decide +kernel) (fun _=>rfl) (fun _ _ _ hr hw'=>hl7 hr hw') h hw
end Go.Id.Tryz
set_option linter.all false
namespace Go.Id
open Go Go.Id
mutual
def isz:IV->Nat
 | .str s=>s.length+1
 | .aa3 es=>ch3 es+1
 | _=>1
def bc6:List IV->Nat
 | []=>0
 | c::cs=>isz c+bc6 cs
def ch3:List (List IV)->Nat
 | []=>0
 | e::es=>bc6 e+ch3 es
end
theorem ec4 (a b:List IV):bc6 (a++b)=bc6 a+bc6 b:=by
 induction a with
 | nil=>simp[bc6]
 | cons x a ih=>simp only[List.cons_append,bc6,ih]; omega
theorem bv9 {α:Type}(f:α->List IV):∀ (l:List α),∀ a∈l,bc6 (f a)<=ch3 (l.map f):=by
 intro l
 induction l with
 | nil=>intro a h; cases h
 | cons x l ih=>
  intro a h;simp only[List.map_cons,ch3];rcases List.mem_cons.1 h with rfl|h
  ·omega
  ·have:=ih a h; omega
theorem at1 {α:Type}(f:α->List IV)(hf:∀ a,1<=bc6 (f a)):∀ (l:List α),l.length<=ch3 (l.map f):=by
 intro l
 induction l with
 | nil=>simp
 | cons x l ih=>
  simp only[List.map_cons,ch3,List.length_cons];have:=hf x;omega
namespace Md
theorem Dep.szs (d:Dep):bc6 d.cs=d.name.length+d.evr.ver.length+d.evr.rel.length+5:=by
 simp only[Dep.cs,bc6,isz]; omega
theorem aa9.szs (r:aa9):bc6 r.cs=r.dep.name.length+r.dep.evr.ver.length+r.dep.evr.rel.length+ch3 (r.args.map aa9.cs)+7:=by
 rw[aa9.au9]; simp only[bc6,isz]; omega
theorem aa4.szs (p:aa4):bc6 p.cs=p.name.length+p.evr.ver.length+p.evr.rel.length+p.vendor.length+ch3 (p.provides.map Dep.cs)+ch3 (p.requires.map aa9.cs)+ch3 (p.conflicts.map aa9.cs)+ch3 (p.ac6.map Dep.cs)+ch3 (p.ac3.map aa9.cs)+ch3 (p.ab9.map aa9.cs)+ch3 (p.suggests.map aa9.cs)+ch3 (p.ad8.map aa9.cs)+ch3 (p.files.map bn7)+15:=by
 simp only[aa4.cs,bc6,isz]; omega
theorem ak2.szs (r:ak2):bc6 r.cs=ch3 (r.packages.map aa4.cs)+2:=by
 simp only[ak2.cs,bc6,isz]; omega
theorem fc8 (r:aa9):r.count<=bc6 r.cs:=by
 induction r using aa9.ind with
 | h k d xs ih=>
  rw[aa9.szs]
  have:∀ ys:List aa9,(∀ y∈ys,y∈xs)->aa9.counts ys<=ch3 (ys.map aa9.cs):=by
   intro ys
   induction ys with
   | nil=>intro _; simp[aa9.counts]
   | cons y ys ih2=>
    intro h;have h1:=ih y (h y (List.mem_cons_self ..));have h2:=ih2 fun z hz=>h z (List.mem_cons_of_mem _ hz)
    simp only[aa9.counts,List.map_cons,ch3];omega
  have:=this xs fun y h=>h
  simp only[aa9.count,aa9.args];omega
theorem gp1 (r:aa9):r.ok->bc6 r.cs<2^31->r.fit:=by
 induction r using aa9.ind with
 | h k d xs ih=>
  intro ho hs;obtain ⟨a,b,c,e,f⟩:=aa9.hf4.1 ho;rw[aa9.szs] at hs;simp only[aa9.args] at hs;have hl:=at1 aa9.cs (fun r=>by rw[aa9.szs]; omega) xs;refine aa9.co4.2 ⟨a,b,c,by omega,fun r hr=>ih r hr (f r hr) ?_⟩;have:=bv9 aa9.cs xs r hr;omega
theorem fx2 {p:aa4}(h:p.Ok)(hs:bc6 p.cs<2^31):p.Fit:=by
 rw[aa4.szs] at hs;have l1:=at1 Dep.cs (fun r=>by rw[Dep.szs]; omega) p.provides;have l2:=at1 Dep.cs (fun r=>by rw[Dep.szs]; omega) p.ac6;have l3:=at1 bn7 (fun r=>by simp only[bn7,bc6,isz]; omega) p.files
 have hr:∀ x∈p.rows,ch3 (x.2.map aa9.cs)<2^31:=by
  intro x hx;simp only[aa4.rows,List.mem_cons,List.not_mem_nil,or_false] at hx;rcases hx with rfl|rfl|rfl|rfl|rfl|rfl<;>simp only[]<;>omega
 exact {
  name:=h.name
  evr:=h.evr
  bp7:=⟨by omega,h.bp7.2⟩
  obs:=⟨by omega,h.obs.2⟩
  files:=⟨by omega,h.files.2⟩
  db2:=fun x hx=>by
   have h1:=hr x hx;have h2:=at1 aa9.cs (fun r=>by rw[aa9.szs]; omega) x.2;refine ⟨by omega,fun r hr'=>?_⟩;have h3:=bv9 aa9.cs x.2 r hr';have h4:=fc8 r;exact ⟨gp1 r ((h.db2 x hx).2 r hr') (by omega),by omega⟩ }
theorem fx3 (ab5:List ak2):ag6 ab5<=ch3 (ab5.map ak2.cs):=by
 induction ab5 with
 | nil=>simp[ag6]
 | cons r rs ih=>
  have h2:=at1 aa4.cs (fun r=>by rw[aa4.szs]; omega) r.packages;have h3:=ak2.szs r;simp only[ag6,List.map_cons,List.sum_cons,ch3] at ih ⊢;omega
end Md
end Go.Id
set_option linter.all false
namespace Go.Id.Tryz
open Go Go.Id Go.Proofs Go.Id.Md
open Go.Proofs.YtihiokikiejcpaaGreatDoor
set_option maxRecDepth 100000
variable {H:Type} {enc:TypeId×Value->H} {w:World} {base:Nat} {sp:Nat->Bool} {held:Bool}
theorem gk8 (d:DataW H):1<=Rows.uptoBulk d:=by
 cases d with
 | lit l=>cases l<;>simp[Rows.uptoBulk]
 | _=>simp[Rows.uptoBulk]
theorem gk9 {r:DataW H->Option (List IV)}{c:Nat}(hr:∀ d cs,r d=some cs->bc6 cs<=Rows.uptoBulk d):∀ (ds:List (DataW H)) es,dvS r c ds=some es->ch3 es<=Rows.uptoBulkAll ds:=by
 intro ds
 induction ds with
 | nil=>intro es h; cases h; simp[ch3]
 | cons d ds ih=>
  intro es h;simp only[dvS] at h;split at h
  ·rename_i a ha;split at h
   ·split at h
    ·rename_i b hb;cases h;have h1:=hr d a ha;have h2:=ih b hb;simp only[ch3,Rows.uptoBulkAll];omega
    ·cases h
   ·cases h
  ·cases h
theorem ei2 {r:TypeId->DataW H->Option (List IV)}{P:Program}(hr:∀ t d cs,r t d=some cs->bc6 cs<=Rows.uptoBulk d):∀ (fs:List (TypeId×Nat)) (ds:List (DataW H)) (off:Nat) es,dvF r P fs ds off=some es->bc6 es<=Rows.uptoBulkAll ds:=by
 intro fs
 induction fs with
 | nil=>
  intro ds off es h
  cases ds with
  | nil=>cases h; simp[bc6]
  | cons d ds=>simp[dvF] at h
 | cons f fs ih=>
  intro ds off es h
  cases ds with
  | nil=>simp[dvF] at h
  | cons d ds=>
   simp only[dvF] at h;split at h
   ·split at h
    ·rename_i a ha;split at h
     ·split at h
      ·rename_i b hb;cases h;have h1:=hr _ d a ha;have h2:=ih ds _ b hb;simp only[ec4,Rows.uptoBulkAll];omega
      ·cases h
     ·cases h
    ·cases h
   ·cases h
theorem cp3 {P:Program}:∀ (m:Nat) (t:TypeId) (d:DataW H) cs,dv P m t d=some cs->bc6 cs<=Rows.uptoBulk d:=by
 intro m
 induction m with
 | zero=>intro t d cs h; simp[dv] at h
 | succ m ih=>
  intro t d cs h;have h1:=gk8 d;simp only[dv] at h;split at h
  ·cases h; simpa [bc6,isz] using h1
  ·cases h; simpa [bc6,isz] using h1
  ·cases h; simp[bc6,isz,Rows.uptoBulk]
  ·cases h; simpa [bc6,isz] using h1
  ·split at h
   ·cases h; simpa [bc6,isz] using h1
   ·cases h
  ·cases h; simpa [bc6,isz,ch3] using h1
  ·split at h
   ·cases h
   ·split at h
    ·rename_i es he;cases h;have:=gk9 (ih _) _ _ he;simp only[bc6,isz,Rows.uptoBulk];omega
    ·cases h
  ·split at h
   ·rename_i ivs he;split at h
    ·cases h;have:=ei2 (fun t d cs=>ih t d cs) _ _ _ _ he;simp only[Rows.uptoBulk];omega
    ·cases h
   ·cases h
  ·split at h
   ·rename_i ivs he;split at h
    ·cases h;have:=ei2 (fun t d cs=>ih t d cs) _ _ _ _ he;simp only[Rows.uptoBulk];omega
    ·cases h
   ·cases h
  ·split at h
   ·split at h
    ·cases h; simpa [bc6,isz] using h1
    ·cases h
   ·cases h
  ·cases h
theorem is5 {ab5:List ak2}{inst:List aa4}(h1:∀ r∈ab5,ak2.Ok r)(h2:∀ p∈inst,p.Ok)(b1:bc6 [IV.aa3 (ab5.map ak2.cs)]<=1048576)(b2:bc6 [IV.aa3 (inst.map aa4.cs)]<=1048576):ik7 ab5 inst:=by
 simp only[bc6,isz] at b1 b2;have l1:=at1 ak2.cs (fun r=>by rw[ak2.szs]; omega) ab5;have l2:=at1 aa4.cs (fun r=>by rw[aa4.szs]; omega) inst;have l3:=fx3 ab5;refine ⟨by omega,by omega,by omega,fun r hr=>?_,fun p hp=>?_,h1,h2⟩
 ·have m1:=bv9 ak2.cs ab5 r hr;rw[ak2.szs] at m1;have l4:=at1 aa4.cs (fun r=>by rw[aa4.szs]; omega) r.packages;refine ⟨by omega,fun p hp=>fx2 ((h1 r hr).2 p hp) ?_⟩;have:=bv9 aa4.cs r.packages p hp;omega
 ·have:=bv9 aa4.cs inst p hp;exact fx2 (h2 p hp) (by omega)
variable {H:Type} {enc:TypeId×Value->H} {w:World} {base:Nat} {sp:Nat->Bool} {held:Bool}
theorem gt8 {n:Nat}{d:DataW H}(h:Rd enc w base sp held n 3 d)(hw:WT Tryz.prog 3 d):∃ z:Int,∀ m,n<=m->dv Tryz.prog m 3 d=some [.int .i64 z]:=by
 obtain ⟨z,_,_,e⟩:=cg6 Tryz.underlying3 h;exact ⟨z,e⟩
open Go Go.Id Go.Proofs Go.Shelf Go.Id.Md
set_option maxHeartbeats 1000000
def st (k:Int)(l:List Int):List Step:=l.map fun n=>⟨k,n⟩
end Go.Id.Tryz
set_option linter.all false
namespace Go.Id.Tryz
open Go Go.Id Go.Proofs Go.Shelf Go.Id.Md
set_option maxRecDepth 100000
set_option maxHeartbeats 1000000
open Go Go.Id Go.Proofs Go.Id.Md
variable {H:Type} {enc:TypeId×Value->H} {w:World} {base:Nat} {sp:Nat->Bool} {held:Bool}
theorem gt9:Tryz.prog.cellsOf 51=2:=by kernel_rfl
theorem hj4 {n:Nat}{d:DataW H}(h:Rd enc w base sp held n 51 d)(hw:WT Tryz.prog 51 d):∃ e:Step,True/\∀ m,n<=m->dv Tryz.prog m 51 d=some e.cs:=by
 obtain ⟨n',ds,rfl,rfl,hl,hf⟩:=bb7 Tryz.underlying51 h hw
 match ds,hl with
 | [d0,d1],_=>
  obtain ⟨r0,w0⟩:=hf 0 _ d0 rfl rfl;obtain ⟨r1,w1⟩:=hf 1 _ d1 rfl rfl;obtain ⟨z,_,hz,e0⟩:=cg6 Tryz.underlying5 r0;obtain ⟨y,_,hy,e1⟩:=cg6 Tryz.underlying3 r1;refine ⟨⟨z,y⟩,trivial,fun m hm=>?_⟩
  cases m with
  | zero=>omega
  | succ m=>
   simp only[dv,Tryz.underlying51,List.map_cons,List.map_nil,dvF,e0 m (by omega),e1 m (by omega),List.length_cons,List.length_nil,ik4,ig3,gt9,List.cons_append,List.nil_append,List.append_nil,Nat.reduceAdd,↓reduceIte];rfl
theorem gl1 {n:Nat}{d:DataW H}(h:Rd enc w base sp held n 24 d)(hw:WT Tryz.prog 24 d):∃ l:List Step,l.length<2^62/\(∀ j∈l,True)/\∀ m,n<=m->dv Tryz.prog m 24 d=some [aj1 l]:=
 bd7 Step.cs (fun _=>True) Tryz.underlying24 gt9 (by decide) (by decide +kernel) (fun _=>rfl) (fun _ _ _ hr hw'=>hj4 hr hw') h hw
theorem gl2 {l:List Step}(b:bc6 [aj1 l]<=1048576):l.length<2^30:=by
 simp only[bc6,isz] at b;have:=at1 Step.cs (fun z=>by simp only[Step.cs,bc6,isz]; omega) l;omega
end Go.Id.Tryz
