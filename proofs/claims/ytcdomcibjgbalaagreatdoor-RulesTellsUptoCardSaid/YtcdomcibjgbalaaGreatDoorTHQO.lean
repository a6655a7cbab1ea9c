/- Versions' parts,told. Conditions: sizes that fit. -/
import Derived.Test.YtcdomcibjgbalaaGreatDoorTHQB
import Derived.Test.YtcdomcibjgbalaaGreatDoorMv
import Derived.Test.YtcdomcibjgbalaaGreatDoorFwQ
import Derived.Test.YtcdomcibjgbalaaGreatDoorMsb
import Derived.Test.YtcdomcibjgbalaaGreatDoorGHR
open List renaming mem_cons→za,not_mem_nil→zb,length_map→zc,getElem_mem→zf,getD_eq_getElem?_getD→zh,mem_map→zi,length_take→zj,map_append→zk,length_append→zl,length_cons→zm,take_append_of_le_length→zo,take_length→zp,drop_eq_getElem_cons→zq,getElem?_eq_getElem→zr,pairwise_iff_getElem→zv,map_cons→zw,drop_of_length_le→zy,length_singleton→zz,mem_cons_self→z1,drop_length→z2,take_of_length_le→z7,map_map→z8,mem_iff_getElem→qc,mem_singleton→qd,take_add_one→qe,getElem_take→qf,length_drop→qg,mem_append→qk,length_nil→ql,length_filter_le→qn,pairwise_append→qo,mem_cons_of_mem→qp,dropWhile_cons→qq,pairwise_cons→qr,getElem?_drop→qs,filter_append→qt,foldl_append→qv,append_assoc→qw
open Int renaming toNat_natCast→zd
open Option renaming some→ze,map→qh,none→qm
open Nat renaming le_refl→zg,le_trans→zn,add_assoc→zt,not_lt_zero→zu,le_succ→zx,zero_add→qa,testBit_and→qb,zero_le→qi,mul_one→qj,lt_of_le_of_lt→qu
open Bool renaming and_eq_true→z6
set_option linter.all false
set_option maxRecDepth 100000
set_option maxHeartbeats 1000000
private theorem om{P:Prop}(h:P:=by omega):P:=h
namespace Go.Id.Tryz
open Go Go.Id Go.Proofs Go.Id.Md
def evP (p:Part):List IV:=[.agg (Part.cs p)]
theorem il2 (s:Str)(hs:s.length<2^62):fg1 Tryz.prog EE (.func (.func 254) [] [.ab8 [.str s]]) ((ab5 s).map evP) (λ_=>True):=by
 intro yid I S σ hown hstab hy hi;refine ⟨fok254.1,?_⟩;refine C_f fok254 (nZ rfl) ?_;simp only[ic254,go_sem];refine ab1 noT (λj fr t=>∃(at_:Nat) (tl:Frm),fr=(0,.yield yid)::(1,.ab8 [.str s])::(3,.int .i64 at_)::tl/\σ.next<=t.next/\j<=at_/\at_<=s.length/\I ((ab5 (s.drop at_)).map evP) t) s.length ⟨0,[],rfl,zg _,zg _,qi _,hi⟩ ?_;rintro j fr t hle ⟨a,tl,rfl,hn,hja,has,hI⟩;by_cases hlt:a<s.length
 ·obtain ⟨b,hb,hget,hdr,_,htk⟩:=ad2 s a hlt;have c1:(a:Int)<s.length:=om;have c2:(0:Int)<=a:=om;have w1:=ac3 (i:=a) om;have hk:(4:Int)<=(ad1 b:Int)↔¬ad1 b<4:=om;simp only[go_sem,c1,bc7,c2,zd,hget,qh];refine ab2 (fc6 b) ?_;simp only[go_sem,w1];generalize hU:Store.put (Store.put _ t.next _) t.next _=U;have hUn:U.next=t.next+1:=by rw[<- hU];rfl
  have hUb:U.obj t.next=ze (.cells [.int .u8 (ad1 b),.str []]):=by rw[<- hU];simp only[aa5,if_true]
  have hUI:∀i,i<t.next->U.obj i=t.obj i:=λi hi=>by
   have e:¬i=t.next:=om;rw[<- hU];simp only[aa5,e,if_false]
  clear hU;have hUe:(⟨t.next+1,U.obj⟩:Store)=U:=by rw[<- hUn]
  rw[hUe];have hdl:(s.drop (a+1)).length=s.length-(a+1):=qg;have hrl:=it4 b (s.drop (a+1));generalize hR:(if ad1 b<4 then 0 else gi4 b (s.drop (a+1)))=R
  have hRl:a+1+R<=s.length:=by
   rw[<- hR];split<;>omega
  refine ab1 noT (λm fr u=>fr=[(0,.yield yid),(1,.ab8 [.str s]),(3,.int .i64 ((a+1+m:Nat):Int)),(4,.ptr t.next 0),(5,.int .i64 a)]/\t.next+1<=u.next/\u.obj t.next=ze (.cells [.int .u8 (ad1 b),.str []])/\∀i,i<t.next->u.obj i=t.obj i) R ⟨rfl,om,hUb,hUI⟩ ?_;clear hUe hUn hUb hUI;rintro m fr u hmR ⟨rfl,hUn,hUb,hUI⟩;have w2:=ac3 (i:=a+1+m) om;have d2:(0:Int)<=((a+1+m:Nat):Int):=om;by_cases hm:m<R
  ·have h4:¬ad1 b<4:=λh=>by rw[if_pos h] at hR;omega
   rw[if_neg h4] at hR;obtain ⟨c,hc1,hc2⟩:=it2 (b:=b) (l:=s.drop (a+1)) (m:=m) om;have hc:s[a+1+m]? = ze c:=by rw[<- hc1,qs]
   have k1:(4:Int)<=ad1 b:=om;have k2:((a+1+m:Nat):Int)<s.length:=om;have k3:=fc6 c;rw[hc2] at k3;simp only[go_sem,hUb,k1,k2,bc7,d2,zd,hc,qh];refine ab2 k3 ?_;simp only[go_sem,hUb,w2];exact ⟨hm,rfl,om,hUI⟩
  ·have hmR:m=R:=om;subst hmR;by_cases h4:ad1 b<4
   ·have k1:¬(4:Int)<=ad1 b:=om;rw[if_pos h4] at hR;subst hR;have k5:¬((ad1 b:Nat):Int)=5:=om;have hUI2:I ((ab5 (s.drop a)).map evP) ⟨u.next+18,u.obj⟩:=hstab _ _ _ hI (by show t.next<=u.next+18;omega) hUI;rw[hdr] at hUI2;by_cases h0:ad1 b=0
    ·have k0:((ad1 b:Nat):Int)=0:=om;rw[fk3 h0] at hUI2;have k6:¬(0:Int)=5:=om;simp only[go_sem,hUb,k1,k5,k0,k6];exact ⟨om,a+1,_,rfl,om,om,om,hUI2⟩
    ·have k0:¬((ad1 b:Nat):Int)=0:=om;rw[fk4 h0 h4,zw] at hUI2;simp only[go_sem,hUb,k1,k5,k0];refine cw5 hy hUI2 (λs1 n1 i1=>?_) (λs1 n1 h1=>?_)
     ·have n1':u.next+18<=s1.next:=n1;simp only[go_sem];exact ⟨om,a+1,_,rfl,om,om,om,i1⟩
     ·have n1':u.next+18<=s1.next:=n1;simp only[go_sem];exact ⟨om,.inr h1⟩
   ·have k1:(4:Int)<=ad1 b:=om;rw[if_neg h4] at hR
    have key:∀s1:Store,t.next<=s1.next->(∀i,i<t.next->s1.obj i=t.obj i)->I (evP ⟨ad1 b,if ad1 b=5 then ((s.drop a).take (m+1)).dropWhile (· == 48) else (s.drop a).take (m+1)⟩::(ab5 (s.drop (a+1+m))).map evP) s1:=λs1 h1 h2=>by
     have:=hstab _ _ _ hI h1 h2;rw[hdr,fk5 h4,zw,hR,<- hdr,List.drop_drop] at this;exact this
    have hss:cb8 (ze (.int .i64 a)) (ze (.int .i64 ((a+1+m:Nat):Int))) (.str s)=ze (.str ((s.drop a).take (m+1))):=by
     have e1:(0:Int)<=a:=om;have e2:a<=a+1+m/\a+1+m<=s.length:=om;simp only[cb8,cw3,es7,e1,d2,if_true,zd,e2,and_self];rw[List.drop_take];congr 3;omega
    have k0:¬((ad1 b:Nat):Int)=0:=om;have ht:=im2 ((s.drop a).take (m+1)) (by rw[zj,qg];omega);by_cases hend:a+1+m<s.length
    ·have k2:((a+1+m:Nat):Int)<s.length:=om;have hc:s[a+1+m]? = ze s[a+1+m]:=zr hend;have hne:ad1 s[a+1+m]≠ad1 b:=it3 (l:=s.drop (a+1)) (by rw[hR,qs];exact hc);have k7:¬((ad1 s[a+1+m]:Nat):Int)=ad1 b:=om;simp only[go_sem,hUb,k1,k2,bc7,d2,zd,hc,qh];refine ab2 (fc6 _) ?_;simp only[go_sem,hUb,k1,k7,hss];by_cases h5:ad1 b=5
     ·have k5:((ad1 b:Nat):Int)=5:=om
      have key5:∀s1:Store,t.next<=s1.next->(∀i,i<t.next->s1.obj i=t.obj i)->I ([IV.agg [.int .u8 5,.str (((s.drop a).take (m+1)).dropWhile (· == 48))]]::(ab5 (s.drop (a+1+m))).map evP) s1:=λs1 h1 h2=>by
       have:=key s1 h1 h2;rw[if_pos h5] at this;simp only[evP,Part.cs,k5] at this;exact this
      have k6:¬(5:Int)=0:=om;simp only[go_sem,hUb,k5];refine aa4 fok256 ht ?_;simp only[go_sem,hUb,k5,k6];refine cw5 hy (key5 _ (by simp only[aa8];omega) λi hi=>?_) (λs1 n1 i1=>?_) (λs1 n1 h1=>?_)
      ·have:¬i=t.next:=om;simp only[aa5,this,if_false];exact hUI i hi
      ·have n1':u.next+18<=s1.next:=n1;simp only[go_sem];exact ⟨om,a+1+m,_,rfl,om,om,om,i1⟩
      ·have n1':u.next+18<=s1.next:=n1;simp only[go_sem];exact ⟨om,.inr h1⟩
     ·have k5:¬((ad1 b:Nat):Int)=5:=om
      have key5:∀s1:Store,t.next<=s1.next->(∀i,i<t.next->s1.obj i=t.obj i)->I ([IV.agg [.int .u8 (ad1 b),.str ((s.drop a).take (m+1))]]::(ab5 (s.drop (a+1+m))).map evP) s1:=λs1 h1 h2=>by
       have:=key s1 h1 h2;rw[if_neg h5] at this;exact this
      simp only[go_sem,hUb,k5,k0];refine cw5 hy (key5 _ (by simp only[aa8];omega) λi hi=>?_) (λs1 n1 i1=>?_) (λs1 n1 h1=>?_)
      ·have:¬i=t.next:=om;simp only[aa5,this,if_false];exact hUI i hi
      ·have n1':u.next+18<=s1.next:=n1;simp only[go_sem];exact ⟨om,a+1+m,_,rfl,om,om,om,i1⟩
      ·have n1':u.next+18<=s1.next:=n1;simp only[go_sem];exact ⟨om,.inr h1⟩
    ·have k2:¬((a+1+m:Nat):Int)<s.length:=om;simp only[go_sem,hUb,k1,k2,hss];by_cases h5:ad1 b=5
     ·have k5:((ad1 b:Nat):Int)=5:=om
      have key5:∀s1:Store,t.next<=s1.next->(∀i,i<t.next->s1.obj i=t.obj i)->I ([IV.agg [.int .u8 5,.str (((s.drop a).take (m+1)).dropWhile (· == 48))]]::(ab5 (s.drop (a+1+m))).map evP) s1:=λs1 h1 h2=>by
       have:=key s1 h1 h2;rw[if_pos h5] at this;simp only[evP,Part.cs,k5] at this;exact this
      have k6:¬(5:Int)=0:=om;simp only[go_sem,hUb,k5];refine aa4 fok256 ht ?_;simp only[go_sem,hUb,k5,k6];refine cw5 hy (key5 _ (by simp only[aa8];omega) λi hi=>?_) (λs1 n1 i1=>?_) (λs1 n1 h1=>?_)
      ·have:¬i=t.next:=om;simp only[aa5,this,if_false];exact hUI i hi
      ·have n1':u.next+18<=s1.next:=n1;simp only[go_sem];exact ⟨om,a+1+m,_,rfl,om,om,om,i1⟩
      ·have n1':u.next+18<=s1.next:=n1;simp only[go_sem];exact ⟨om,.inr h1⟩
     ·have k5:¬((ad1 b:Nat):Int)=5:=om
      have key5:∀s1:Store,t.next<=s1.next->(∀i,i<t.next->s1.obj i=t.obj i)->I ([IV.agg [.int .u8 (ad1 b),.str ((s.drop a).take (m+1))]]::(ab5 (s.drop (a+1+m))).map evP) s1:=λs1 h1 h2=>by
       have:=key s1 h1 h2;rw[if_neg h5] at this;exact this
      simp only[go_sem,hUb,k5,k0];refine cw5 hy (key5 _ (by simp only[aa8];omega) λi hi=>?_) (λs1 n1 i1=>?_) (λs1 n1 h1=>?_)
      ·have:¬i=t.next:=om;simp only[aa5,this,if_false];exact hUI i hi
      ·have n1':u.next+18<=s1.next:=n1;simp only[go_sem];exact ⟨om,a+1+m,_,rfl,om,om,om,i1⟩
      ·have n1':u.next+18<=s1.next:=n1;simp only[go_sem];exact ⟨om,.inr h1⟩
 ·have ha:a=s.length:=om;subst ha;have c1:¬(s.length:Int)<s.length:=om;rw[z2] at hI;simp only[go_sem,c1];exact ⟨hn,.inl hI⟩
def idxOf (n:Int):List Int->Nat->Int
 | [],_=>-1
 | a::l,i=>if n=a then Int.ofNat i else idxOf n l (i+1)
theorem dv8 (n:Int):∀(l:List Int) (i:Nat),(0<=idxOf n l i↔n∈l):=by
 intro l
 induction l with
 | nil=>intro i;simp[idxOf]
 | cons a l ih=>
  intro i;simp only[idxOf];split
  ·rename_i e;subst e;simp
  ·rename_i e;rw[ih];simp[e]
theorem fc2 (l:List Int)(n:Int)(hl:l.length<2^40):Pq 130 [.aa3 (l.map Md.ae1),.int .i64 n] (.int .i64 (idxOf n l 0)):=by
 refine ba9 fok130 (nZ rfl) λσ=>?_
 simp only[ic130,go_sem];refine ab1 noT (λi fr s=>fr=[(0,.aa3 (l.map Md.ae1)),(1,.int .i64 n),(7,.int .i64 l.length),(8,.int .i64 i)]/\s=σ/\idxOf n l 0=idxOf n (l.drop i) i) l.length ⟨rfl,rfl,rfl⟩ ?_;rintro i fr s hle ⟨rfl,rfl,hI⟩;by_cases hlt:i<l.length
 ·obtain ⟨x,hx,_,hdr,hget,htk⟩:=ad2 l i hlt;have c1:(i:Int)<l.length:=om;have c2:(0:Int)<=i:=om;have w1:=ac3 (i:=i) om;rw[hdr,idxOf] at hI;by_cases e:n=x
  ·rw[if_pos e] at hI;subst e;have hI:idxOf n l 0=(i:Int):=hI;simp only[go_sem,c1,c2,hget,Md.ae1,hI,and_self]
  ·rw[if_neg e] at hI;simp only[go_sem,c1,c2,hget,Md.ae1,e,w1];exact ⟨hlt,hI⟩
 ·have hi':i=l.length:=om;subst hi';have c1:¬(l.length:Int)<l.length:=om;rw[z2,idxOf] at hI;simp only[go_sem,c1,hI,and_self]
theorem ep3 (l:List Int)(n:Int)(hl:l.length<2^40):Pq 90 [.aa3 (l.map Md.ae1),.int .i64 n] (.bool (decide (n∈l))):=by
 refine ba9 fok90 (nZ rfl) λσ=>?_
 simp only[ic90,go_sem];refine aa4 fok130 (fc2 l n hl) ?_
 have e:decide (0<=idxOf n l 0)=decide (n∈l):=by
  by_cases h:n∈l
  ·simp[h,(dv8 n l 0).2 h]
  ·rw[decide_eq_false h,decide_eq_false (λx=>h ((dv8 n l 0).1 x))]
 simp only[go_sem,e,and_self]
def sE (k:Str):IV×IV:=(.str k,.agg [])
theorem il3 (l:List Str)(k:Str):eg6 2 (.str k) (.agg []) (l.map sE)=ze ((av1 l k).map sE):=by
 have go:∀l:List Str,eg6 2 (.str k) (.agg []) (l.map sE)=ze ((if k∈l then l else l++[k]).map sE):=by
  intro l
  induction l with
  | nil=>rfl
  | cons a l ih=>
   simp only[zw,sE,eg6,dl8] at ih ⊢;by_cases h:k=a
   ·subst h;simp[sE]
   ·simp only[h,decide_false,za,false_or] at ih ⊢;rw[ih];split<;>simp[sE]
 exact go l
theorem ee6 {σ:Store}{mid:Nat}{l:List Str}(h:σ.obj mid=ze (.map (l.map sE)))(k:Str):ao9 σ 2 (.map mid) (.str k) (.agg [])=ze (σ.put mid (.map ((av1 l k).map sE))):=by
 simp only[ao9,h,il3,qh]
theorem he5 {l:List Str}(h:l.Nodup)(k:Str):(av1 l k).Nodup:=by
 unfold av1;split
 ·exact h
 ·rename_i hk;refine List.nodup_append.2 ⟨h,by simp,λa ha b hb e=>?_⟩;cases qd.1 hb;exact hk (e▸ha)
theorem ct6:∀(ks:List Str) {l:List Str},l.Nodup->(ks.foldl av1 l).Nodup
 | [],_,h=>h
 | k::ks,_,h=>ct6 ks (he5 h k)
theorem jh1 (p:aa2):(cy5 p).Nodup:=ct6 _ (ct6 _ (by simp))
theorem gf7 (p:aa2)(hp:p.Fit):Pq 89 [.agg p.cs] (.al4 ((cy5 p).map sE)):=by
 have f1:=hp.at5.1;have f2:=hp.files.1;refine af4 hE fok89 (nZ rfl) (λa ha=>by cases qd.1 ha;exact .agg _ (au6 p)) ?_;simp only[ic89,go_sem,ac7,aa2.cs,bx6];rw[ee6 (l:=[]) (by simp only[aa5,if_true];rfl)];simp only[go_sem];refine ab1 noT (λi fr s=>fr=[(1,.ab8 p.cs),(3,.map 0),(14,deps p.provides),(15,.int .i64 p.provides.length),(16,.int .i64 i)]/\1<=s.next/\s.obj 0=ze (.map ((((p.provides.take i).map (·.name)).foldl av1 [p.name]).map sE))) p.provides.length ⟨rfl,by simp,by simp only[aa5,if_true];rfl⟩ ?_;rintro i fr s hle ⟨rfl,hn,ho⟩;by_cases hlt:i<p.provides.length
 ·obtain ⟨x,hx,_,hdr,hget,htk⟩:=ad2 p.provides i hlt;have c1:(i:Int)<p.provides.length:=om;have c2:(0:Int)<=i:=om;have c3:¬0=s.next:=om;have w1:=ac3 (i:=i) om;simp only[go_sem,c1,c2,hget,Dep.cs];rw[ee6 (l:=((p.provides.take i).map (·.name)).foldl av1 [p.name]) (by simp only[aa5,c3,if_false];exact ho)];simp only[go_sem,w1];refine ⟨hlt,?_⟩;rw[htk,zk,qv]
  first|rfl|(simp only[aa5,if_true];rfl)
 have hi':i=p.provides.length:=om;subst hi';have c1:¬(p.provides.length:Int)<p.provides.length:=om;rw[zp] at ho;simp only[go_sem,c1,aa2.cs];refine ab1 noT (λi fr s=>fr=[(3,.map 0),(26,strs p.files),(27,.int .i64 p.files.length),(28,.int .i64 i)]/\s.obj 0=ze (.map (((p.files.take i).foldl av1 ((p.provides.map (·.name)).foldl av1 [p.name])).map sE))) p.files.length ⟨rfl,ho⟩ ?_;rintro i fr s hle ⟨rfl,ho⟩;by_cases hlt:i<p.files.length
 ·obtain ⟨x,hx,_,hdr,hget,htk⟩:=ad2 p.files i hlt;have c1:(i:Int)<p.files.length:=om;have c2:(0:Int)<=i:=om;have w1:=ac3 (i:=i) om;simp only[go_sem,c1,c2,hget,bv8];rw[ee6 ho];simp only[go_sem,w1];refine ⟨hlt,?_⟩;rw[htk,qv]
  first|rfl|(simp only[aa5,if_true];rfl)
 have hi':i=p.files.length:=om;subst hi';have c1:¬(p.files.length:Int)<p.files.length:=om;rw[zp] at ho;simp only[go_sem,c1];refine .map 0 _ _ _ (zu _) ho rfl (List.Perm.refl _) ⟨?_,.str,λe he=>?_⟩ (λi hi=>?_) (λi hi=>?_)
 ·have:((cy5 p).map sE).map (·.1)=(cy5 p).map IV.str:=by simp[sE]
  rw[this];exact List.Pairwise.map _ (λa b hab e=>hab (by cases e;rfl)) (jh1 p)
 ·obtain ⟨k,_,rfl⟩:=zi.1 he;trivial
 ·exact .keep _ (by
   obtain ⟨k,_,e⟩:=zi.1 (ad3 (.undef,.undef) hi);rw[<- e];exact .str _)
 ·exact .keep _ (by
   obtain ⟨k,_,e⟩:=zi.1 (ad3 (.undef,.undef) hi);rw[<- e];exact .agg _ λc hc=>by cases hc)
theorem ee7 (nm:Nms):Bnd 0 (.al4 (nmV nm)):=by
 refine .al4 _ (λe he=>?_) (λe he=>?_)<;>(simp only[nmV,zi] at he;obtain ⟨t,_,rfl⟩:=he)
 ·exact .str _
 ·refine .aa3 _ λx hx c hc=>?_
  obtain ⟨n,_,rfl⟩:=zi.1 hx
  cases hc with
  | head=>exact .int _ _
  | tail _ h=>cases h
theorem il4 (l:List be5):Bnd 0 (.aa3 (l.map be5.cs)):=.aa3 _ λe he c hc=>by
 obtain ⟨r,_,rfl⟩:=zi.1 he;exact fn2 r c hc
theorem bf8 (p:Pool):Bnd 0 p.v:=.ab8 _ λc hc=>by
 simp only[za,zb,or_false] at hc;rcases hc with rfl|rfl|rfl
 ·exact il4 _
 ·exact .int _ _
 ·exact ee7 _
theorem he6 (l:List be5)(n:Int):Pq 93 [.aa3 (l.map be5.cs),.int .i64 n] (.bool (decide (0<=n)&&decide (n<l.length))):=by
 refine ba9 fok93 (nZ rfl) λσ=>?_
 by_cases h:0<=n
 ·simp only[ic93,go_sem,h,and_self]
 ·simp only[ic93,go_sem,h,and_self]
theorem av2 (p:Pool):Pq 43 [p.v] (.int .i64 p.rows.length):=by
 refine ba9 fok43 (nZ rfl) λσ=>?_
 simp only[ic43,go_sem,Pool.v,and_self]
theorem ba2 (p:Pool):Pq 54 [p.v] (.int .i64 p.inst):=by
 refine ba9 fok54 (nZ rfl) λσ=>?_
 simp only[ic54,go_sem,Pool.v,and_self]
theorem il5 (r:be5):r.cs.take 15=r.pkg.cs:=rfl
theorem as9 (p:Pool)(n:Nat)(h:n<p.rows.length)(hf:p.rows[n].pkg.Fit):Pq 57 [p.v,.int .i64 n] (.tuple [.agg p.rows[n].pkg.cs,.int .i64 0]):=by
 refine af4 hE fok57 (nZ rfl) (ak3 (bf8 p) (.int _ _)) ?_;have c1:(n:Int)<p.rows.length:=om;have c2:(0:Int)<=n:=om;have hg:(p.rows.map be5.cs).getD n []=p.rows[n].cs:=by simp[zh,h]
 have h15:∀r:be5,(15<=r.cs.length)=True:=λr=>by rw[bw9];simp
 simp only[ic57,go_sem,Pool.v];refine aa4 fok93 (he6 p.rows n) ?_;simp only[go_sem,c1,c2,hg,bw9,il5];refine aa4 fok81 (dv7 _ hf) ?_;simp only[go_sem,af7,ae8,ac7];exact .keep _ (.tuple _ (ak3 (aj8 _) (.int _ _)))
structure MS (s:Store) (tag:Nat->Nat) (c mid:Nat) (L:NmL) (B:Nat):Prop where
 map:s.obj mid=ze (.map (mEs L))
 row:∀t∈L,s.obj t.2.2=ze (.row (t.2.1.map Md.ae1).flatten)/\t.2.2<s.next/\t.2.1.length<=B
 cv7:∀t∈L,tag t.2.2=c
 ids:(L.map (·.2.2)).Nodup
 keys:(L.map (·.1)).Nodup
 lt:mid<s.next
 il7:tag mid=c
theorem MS.keep {s s':Store}{tag tag':Nat->Nat}{c mid:Nat}{L:NmL}{B B':Nat}(h:MS s tag c mid L B)(hB:B<=B')(hn:s.next<=s'.next)(ho:∀i,i<s.next->tag i=c->s'.obj i=s.obj i)(ht:∀i,i<s.next->tag' i=tag i):MS s' tag' c mid L B' where
 map:=by rw[ho _ h.lt h.il7];exact h.map
 row:=λt m=>⟨by rw[ho _ (h.row t m).2.1 (h.cv7 t m)];exact (h.row t m).1,by have:=(h.row t m).2.1;omega,by have:=(h.row t m).2.2;omega⟩
 cv7:=λt m=>by rw[ht _ (h.row t m).2.1];exact h.cv7 t m
 ids:=h.ids
 keys:=h.keys
 lt:=by have:=h.lt;omega
 il7:=by rw[ht _ h.lt];exact h.il7
def fc3 (tag:Nat->Nat)(c nid:Nat):Nat->Nat:=λi=>if i=nid then c else tag i
theorem ar8 {tag:Nat->Nat}{c nid n:Nat}(h:n<=nid):∀i,i<n->fc3 tag c nid i=tag i:=λi hi=>by
 unfold fc3;rw[if_neg om]
theorem MS.cur {s:Store}{tag:Nat->Nat}{c mid:Nat}{L:NmL}{B:Nat}(h:MS s tag c mid L B)(k:Str)(m:Nat)(hm:s.next<=m):Grow ⟨m,s.obj⟩ (dd6 L k) 1 ((ci6 L k).map Md.ae1)/\(ci6 L k).length<=B:=by
 rcases ce5 L k with ⟨h1,h2⟩|⟨t,ht,_,h1,h2⟩
 ·rw[h1,h2];exact ⟨.inl ⟨rfl,rfl⟩,qi _⟩
 ·rw[h1,h2];exact ⟨.inr ⟨t.2.2,by rw[zc],(h.row t ht).1,by have:=(h.row t ht).2.1;show t.2.2<m;omega⟩,(h.row t ht).2.2⟩
theorem MS.upd {s:Store}{tag:Nat->Nat}{c mid:Nat}{L:NmL}{B:Nat}(h:MS s tag c mid L B)(k:Str)(n:Int)(m nid:Nat)(hm:s.next<=m)(hnew:s.next<=nid)(hb:B<2^30) :
  ∃s1,as2 ⟨m,s.obj⟩ nid 1 (dd6 L k) (.aa3 [[.int .i64 n]])=ze (.slice nid 0 ((ci6 L k).length+1) 1,s1)/\s1.next=m/\s1.obj mid=ze (.map (mEs L))/\(∀i o,i<s.next->s.obj i=ze o->(∀cs,o≠.row cs)->s1.obj i=ze o) /\
   ∀nx,nid<nx->MS ⟨nx,(s1.put mid (.map (mEs (be6 L k n nid)))).obj⟩ (fc3 tag c nid) c mid (be6 L k n nid) (B+1)/\∀i,i<s.next->tag i≠c->(s1.put mid (.map (mEs (be6 L k n nid)))).obj i=s.obj i:=by
 obtain ⟨hg,hlen⟩:=h.cur k m hm;have hap:=ai2 (nid:=nid) (e:=[.int .i64 n]) hg (ca6 _) ⟨rfl,rfl⟩ (by rw[zc];omega);rw[zc] at hap;have hlt:=h.lt;have hmid:¬mid=nid:=om
 have kother:∀i,(∀t∈L,t.1=k->t.2.2≠i)->(ae9 (dd6 L k) ⟨m,s.obj⟩).obj i=s.obj i:=by
  intro i hne;rcases ce5 L k with ⟨h1,_⟩|⟨t,ht,hk,h1,_⟩
  ·rw[h1];rfl
  ·rw[h1];show (if i=t.2.2 then qm else s.obj i)=_;rw[if_neg (λe=>hne t ht hk e.symm)]
 have hrow_ne_mid:∀i cs,s.obj i=ze (.row cs)->¬i=mid:=λi cs hi e=>by subst e;rw[h.map] at hi;cases hi
 refine ⟨_,hap,by rw[aa8,ab7],?_,?_,λnx hnx=>⟨?_,?_⟩⟩
 ·rw[aa5,if_neg hmid];exact af5 hg mid _ h.map (λ_ e=>by cases e)
 ·intro i o hi ho hr;rw[aa5,if_neg om];exact af5 hg i _ ho hr
 ·exact {
   map:=by
    show (if mid=mid then _ else _)=_;rw[if_pos rfl]
   row:=by
    intro t ht;rcases eb3 h.keys t ht with ⟨h1,h2⟩|rfl
    ·obtain ⟨r1,r2,r3⟩:=h.row t h1;refine ⟨?_,by show t.2.2<nx;omega,om⟩;show (if t.2.2=mid then _ else if t.2.2=nid then _ else (ae9 (dd6 L k) ⟨m,s.obj⟩).obj t.2.2)=_;rw[if_neg (hrow_ne_mid _ _ r1),if_neg om,kother _ λu hu hk e=>h2 (by rw[<- gs5 h.keys h.ids u hu t h1 e];exact hk)];exact r1
    ·refine ⟨?_,hnx,?_⟩
     ·show (if nid=mid then _ else if nid=nid then _ else _)=_;rw[if_neg (λe=>hmid e.symm),if_pos rfl,zk];rfl
     ·show (ci6 L k++[n]).length<=B+1;rw[zl];simp;exact hlen
   cv7:=by
    intro t ht;rcases eb3 h.keys t ht with ⟨h1,h2⟩|rfl
    ·rw[ar8 hnew _ (h.row t h1).2.1];exact h.cv7 t h1
    ·unfold fc3;rw[if_pos rfl]
   ids:=(gs4 L h.ids (λhm=>by
    obtain ⟨t,ht,e⟩:=zi.1 hm;have:=(h.row t ht).2.1;have e':t.2.2=nid:=e;omega)).1
   keys:=(fg7 L h.keys).1
   lt:=by show mid<nx;omega
   il7:=by rw[ar8 hnew _ h.lt];exact h.il7 }
 ·intro i hi hc;show (if i=mid then _ else if i=nid then _ else (ae9 (dd6 L k) ⟨m,s.obj⟩).obj i)=_;rw[if_neg (λe=>hc (by rw[e];exact h.il7)),if_neg om,kother _ λt ht _ e=>hc (by rw[<- e];exact h.cv7 t ht)]
theorem MS.frz {s:Store}{tag:Nat->Nat}{c mid:Nat}{L:NmL}{B:Nat}(h:MS s tag c mid L B){nm:Nms}(hp:(bc8 L).Perm nm):cb5 s 0 (.map mid) (.al4 (nmV nm)):=by
 have hat:∀i,i<(mEs L).length->∃t∈L,(mEs L).getD i (.undef,.undef)=(.str t.1,.slice t.2.2 0 t.2.1.length 1)/\(nmV (bc8 L)).getD i (.undef,.undef)=(.str t.1,.aa3 (t.2.1.map Md.ae1)):=by
  intro i hi;have hi':i<L.length:=by simpa [mEs] using hi
  exact ⟨L[i],zf hi',by simp[mEs,zh,hi'],by simp[nmV,bc8,zh,hi']⟩
 have hkn:KN nm:=KN.perm (nm:=bc8 L) (by show ((bc8 L).map (·.1)).Nodup;unfold bc8;rw[z8];exact h.keys) hp;refine .map mid (mEs L) (nmV (bc8 L)) (nmV nm) (zu _) h.map (by simp[nmV,bc8,mEs]) (hp.map _) ⟨?_,.str,λe he=>?_⟩ (λi hi=>?_) (λi hi=>?_)
 ·have:(nmV nm).map (·.1)=(nm.map (·.1)).map IV.str:=by simp[nmV]
  rw[this];exact List.Pairwise.map _ (λa b hab e=>hab (by cases e;rfl)) hkn
 ·simp only[nmV,zi] at he;obtain ⟨t,_,rfl⟩:=he;trivial
 ·obtain ⟨t,ht,e1,e2⟩:=hat i hi;rw[e1,e2];exact bl5 _
 ·obtain ⟨t,ht,e1,e2⟩:=hat i hi;rw[e1,e2];obtain ⟨r1,r2,_⟩:=h.row t ht;have hg:Grow s (.slice t.2.2 0 t.2.1.length 1) 1 (t.2.1.map Md.ae1):=.inr ⟨t.2.2,by rw[zc],r1,r2⟩;refine hg.frz (λx hx=>(ca6 _ x hx).1) (λ_ _=>zu _) λe he c hc=>?_
  obtain ⟨n,_,rfl⟩:=zi.1 he
  cases hc with
  | head=>exact .int _ _
  | tail _ h=>cases h
structure IS (s:Store) (pp m1 m2 m3:Nat) (all:List aa2) (rv:IV) (L1 L2 L3:NmL) (tag:Nat->Nat) (B:Nat):Prop where
 cell:s.obj pp=ze (.cells [rv,.map m1,.map m2,.map m3])
 ltp:pp<s.next
 grow:Grow s rv 15 (all.map aa2.cs)
 cv7:∀id n,rv=.slice id 0 n 15->tag id=0
 m1:MS s tag 1 m1 L1 B
 m2:MS s tag 2 m2 L2 B
 m3:MS s tag 3 m3 L3 B
 ep5:tag pp=4
theorem IS.mono {s s':Store}{pp m1 m2 m3:Nat}{all:List aa2}{rv:IV}{L1 L2 L3:NmL}{tag:Nat->Nat}{B B':Nat}(h:IS s pp m1 m2 m3 all rv L1 L2 L3 tag B)(hB:B<=B')(hn:s.next<=s'.next)(ho:∀i,i<s.next->s'.obj i=s.obj i):IS s' pp m1 m2 m3 all rv L1 L2 L3 tag B' where
 cell:=by rw[ho _ h.ltp];exact h.cell
 ltp:=by have:=h.ltp;omega
 grow:=h.grow.mono hn λid _ hid=>ho id hid
 cv7:=h.cv7
 m1:=h.m1.keep hB hn (λi hi _=>ho i hi) λ_ _=>rfl
 m2:=h.m2.keep hB hn (λi hi _=>ho i hi) λ_ _=>rfl
 m3:=h.m3.keep hB hn (λi hi _=>ho i hi) λ_ _=>rfl
 ep5:=h.ep5
theorem ay6 {s s':Store}{rv:IV}{es:List (List IV)}{tag:Nat->Nat}(h:Grow s rv 15 es)(ht:∀id n,rv=.slice id 0 n 15->tag id=0)(hn:s.next<=s'.next)(ho:∀i,i<s.next->tag i=0->s'.obj i=s.obj i):Grow s' rv 15 es :=
 h.mono hn λid hv hid=>ho id hid (ht id _ hv)
theorem ee8 {s:Store}{rv:IV}{es:List (List IV)}{tag:Nat->Nat}{c nid:Nat}(h:Grow s rv 15 es)(ht:∀id n,rv=.slice id 0 n 15->tag id=0)(hn:s.next<=nid):∀id n,rv=.slice id 0 n 15->fc3 tag c nid id=0:=λid n hv=>by
 rcases h with ⟨h1,_⟩|⟨id',h1,_,hlt⟩
 ·rw[h1] at hv;cases hv
 ·have e:id'=id:=by rw[h1] at hv;cases hv;rfl
  subst e;rw[ar8 hn _ hlt];exact ht _ _ hv
theorem IS.of1 {s s':Store}{pp m1 m2 m3 nid:Nat}{all:List aa2}{rv:IV}{L1 L2 L3 L':NmL}{tag:Nat->Nat}{B:Nat}(h:IS s pp m1 m2 m3 all rv L1 L2 L3 tag B)(hn:s.next<=s'.next)(hnid:s.next<=nid)(hm:MS s' (fc3 tag 1 nid) 1 m1 L' (B+1))(ho:∀i,i<s.next->tag i≠1->s'.obj i=s.obj i):IS s' pp m1 m2 m3 all rv L' L2 L3 (fc3 tag 1 nid) (B+1) where
 cell:=by rw[ho _ h.ltp (by rw[h.ep5];decide)];exact h.cell
 ltp:=by have:=h.ltp;omega
 grow:=ay6 h.grow h.cv7 hn λi hi e=>ho i hi (by rw[e];decide)
 cv7:=ee8 h.grow h.cv7 hnid
 m1:=hm
 m2:=h.m2.keep (zx _) hn (λi hi e=>ho i hi (by rw[e];decide)) (ar8 hnid)
 m3:=h.m3.keep (zx _) hn (λi hi e=>ho i hi (by rw[e];decide)) (ar8 hnid)
 ep5:=by rw[ar8 hnid _ h.ltp];exact h.ep5
theorem IS.of2 {s s':Store}{pp m1 m2 m3 nid:Nat}{all:List aa2}{rv:IV}{L1 L2 L3 L':NmL}{tag:Nat->Nat}{B:Nat}(h:IS s pp m1 m2 m3 all rv L1 L2 L3 tag B)(hn:s.next<=s'.next)(hnid:s.next<=nid)(hm:MS s' (fc3 tag 2 nid) 2 m2 L' (B+1))(ho:∀i,i<s.next->tag i≠2->s'.obj i=s.obj i):IS s' pp m1 m2 m3 all rv L1 L' L3 (fc3 tag 2 nid) (B+1) where
 cell:=by rw[ho _ h.ltp (by rw[h.ep5];decide)];exact h.cell
 ltp:=by have:=h.ltp;omega
 grow:=ay6 h.grow h.cv7 hn λi hi e=>ho i hi (by rw[e];decide)
 cv7:=ee8 h.grow h.cv7 hnid
 m1:=h.m1.keep (zx _) hn (λi hi e=>ho i hi (by rw[e];decide)) (ar8 hnid)
 m2:=hm
 m3:=h.m3.keep (zx _) hn (λi hi e=>ho i hi (by rw[e];decide)) (ar8 hnid)
 ep5:=by rw[ar8 hnid _ h.ltp];exact h.ep5
theorem IS.of3 {s s':Store}{pp m1 m2 m3 nid:Nat}{all:List aa2}{rv:IV}{L1 L2 L3 L':NmL}{tag:Nat->Nat}{B:Nat}(h:IS s pp m1 m2 m3 all rv L1 L2 L3 tag B)(hn:s.next<=s'.next)(hnid:s.next<=nid)(hm:MS s' (fc3 tag 3 nid) 3 m3 L' (B+1))(ho:∀i,i<s.next->tag i≠3->s'.obj i=s.obj i):IS s' pp m1 m2 m3 all rv L1 L2 L' (fc3 tag 3 nid) (B+1) where
 cell:=by rw[ho _ h.ltp (by rw[h.ep5];decide)];exact h.cell
 ltp:=by have:=h.ltp;omega
 grow:=ay6 h.grow h.cv7 hn λi hi e=>ho i hi (by rw[e];decide)
 cv7:=ee8 h.grow h.cv7 hnid
 m1:=h.m1.keep (zx _) hn (λi hi e=>ho i hi (by rw[e];decide)) (ar8 hnid)
 m2:=h.m2.keep (zx _) hn (λi hi e=>ho i hi (by rw[e];decide)) (ar8 hnid)
 m3:=hm
 ep5:=by rw[ar8 hnid _ h.ltp];exact h.ep5
theorem aw6 (l:List aa2):∀e∈l.map aa2.cs,e.length=15/\e.all IV.leaf=true:=λe he=>by
 obtain ⟨x,_,rfl⟩:=zi.1 he;exact ⟨af7 x,ac7 x⟩
theorem IS.push {s:Store}{pp m1 m2 m3:Nat}{all:List aa2}{rv:IV}{L1 L2 L3:NmL}{tag:Nat->Nat}{B:Nat}(h:IS s pp m1 m2 m3 all rv L1 L2 L3 tag B)(x:aa2)(m nid:Nat)(hm:s.next<=m)(hnew:s.next<=nid)(hb:all.length<2^30) :
  ∃s1,as2 ⟨m,s.obj⟩ nid 15 rv (.aa3 [x.cs])=ze (.slice nid 0 (all.length+1) 15,s1)/\s1.next=m/\s1.obj pp=s.obj pp/\(∀i o,i<s.next->s.obj i=ze o->(∀cs,o≠.row cs)->s1.obj i=ze o) /\
   ∀nx,nid<nx->IS ⟨nx,(s1.put pp (.cells [.slice nid 0 (all.length+1) 15,.map m1,.map m2,.map m3])).obj⟩ pp m1 m2 m3 (all++[x]) (.slice nid 0 (all.length+1) 15) L1 L2 L3 (fc3 tag 0 nid) B:=by
 have hg:Grow ⟨m,s.obj⟩ rv 15 (all.map aa2.cs):=Grow.mono (σ:=s) h.grow hm λ_ _ _=>rfl
 have hap:=ai2 (nid:=nid) (e:=x.cs) hg (aw6 all) ⟨af7 x,ac7 x⟩ (by rw[zc];omega);rw[zc] at hap;have hlt:=h.ltp;have hpp:¬pp=nid:=om;have kp:=af5 hg pp _ h.cell (λ_ e=>by cases e)
 have kk:∀i,i<s.next->tag i≠0->tag i≠4->((ae9 rv ⟨m,s.obj⟩).put nid (.row (all.map aa2.cs++[x.cs]).flatten) |>.put pp (.cells [.slice nid 0 (all.length+1) 15,.map m1,.map m2,.map m3])).obj i=s.obj i:=by
  intro i hi h0 h4;show (if i=pp then _ else if i=nid then _ else (ae9 rv ⟨m,s.obj⟩).obj i)=_;rw[if_neg (λe=>h4 (by rw[e];exact h.ep5)),if_neg om];rcases h.grow with ⟨hv,_⟩|⟨id,hv,ho,hl⟩
  ·rw[hv];rfl
  ·have ht:=h.cv7 id _ hv;rw[hv];show (if i=id then qm else s.obj i)=_;rw[if_neg (λe=>h0 (by rw[e];exact ht))]
 refine ⟨_,hap,by rw[aa8,ab7],by rw[aa5,if_neg hpp,kp,h.cell],?_,λnx hnx=>?_⟩
 ·intro i o hi ho hr;rw[aa5,if_neg om];exact af5 hg i _ ho hr
 ·exact {
   cell:=by
    show (if pp=pp then _ else _)=_;rw[if_pos rfl]
   ltp:=by show pp<nx;omega
   grow:=by
    refine .inr ⟨nid,by rw[zk,zl,zc];rfl,?_,hnx⟩;show (if nid=pp then _ else if nid=nid then _ else _)=_;rw[if_neg (λe=>hpp e.symm),if_pos rfl,zk];rfl
   cv7:=λid n hv=>by cases hv;unfold fc3;rw[if_pos rfl]
   m1:=h.m1.keep (zg _) (by show s.next<=nx;omega) (λi hi e=>kk i hi (by rw[e];decide) (by rw[e];decide)) (ar8 hnew)
   m2:=h.m2.keep (zg _) (by show s.next<=nx;omega) (λi hi e=>kk i hi (by rw[e];decide) (by rw[e];decide)) (ar8 hnew)
   m3:=h.m3.keep (zg _) (by show s.next<=nx;omega) (λi hi e=>kk i hi (by rw[e];decide) (by rw[e];decide)) (ar8 hnew)
   ep5:=by rw[ar8 hnew _ h.ltp];exact h.ep5 }
theorem IS.frz {s:Store}{pp m1 m2 m3:Nat}{all:List aa2}{rv:IV}{L1 L2 L3:NmL}{tag:Nat->Nat}{B:Nat}(h:IS s pp m1 m2 m3 all rv L1 L2 L3 tag B){x:Index}(h0:x.all=all)(h1:(bc8 L1).Perm x.at5)(h2:(bc8 L2).Perm x.names)(h3:(bc8 L3).Perm x.over):cb5 s 0 (.ptr pp 0) x.v:=by
 subst h0;refine .ptr pp 0 _ _ (zu _) (.inl h.cell) (zg _) λj hj=>?_
 have hj3:j=0\/j=1\/j=2\/j=3:=by simp only[zm,ql] at hj;omega
 rcases hj3 with rfl|rfl|rfl|rfl
 ·refine h.grow.frz (λx hx=>(aw6 _ x hx).1) (λ_ _=>zu _) λe he c hc=>?_
  obtain ⟨r,_,rfl⟩:=zi.1 he;exact au6 r c hc
 ·exact h.m1.frz h1
 ·exact h.m2.frz h2
 ·exact h.m3.frz h3
theorem MS.he7 {s s':Store}{tag:Nat->Nat}{c mid:Nat}{L:NmL}{B B':Nat}(h:MS s tag c mid L B)(hB:B<=B')(hn:s.next<=s'.next)(ho:∀i o,i<s.next->s.obj i=ze o->(∀l c,o≠.as1 l c)->s'.obj i=ze o):MS s' tag c mid L B' where
 map:=ho _ _ h.lt h.map (λ_ _ e=>by cases e)
 row:=λt m=>⟨ho _ _ (h.row t m).2.1 (h.row t m).1 (λ_ _ e=>by cases e),by have:=(h.row t m).2.1;omega,by have:=(h.row t m).2.2;omega⟩
 cv7:=h.cv7
 ids:=h.ids
 keys:=h.keys
 lt:=by have:=h.lt;omega
 il7:=h.il7
theorem IS.he7 {s s':Store}{pp m1 m2 m3:Nat}{all:List aa2}{rv:IV}{L1 L2 L3:NmL}{tag:Nat->Nat}{B B':Nat}(h:IS s pp m1 m2 m3 all rv L1 L2 L3 tag B)(hB:B<=B')(hn:s.next<=s'.next)(ho:∀i o,i<s.next->s.obj i=ze o->(∀l c,o≠.as1 l c)->s'.obj i=ze o):IS s' pp m1 m2 m3 all rv L1 L2 L3 tag B' where
 cell:=ho _ _ h.ltp h.cell (λ_ _ e=>by cases e)
 ltp:=by have:=h.ltp;omega
 grow:=by
  rcases h.grow with h0|⟨id,hv,hr,hid⟩
  ·exact .inl h0
  ·exact .inr ⟨id,hv,ho _ _ hid hr (λ_ _ e=>by cases e),om⟩
 cv7:=h.cv7
 m1:=h.m1.he7 hB hn ho
 m2:=h.m2.he7 hB hn ho
 m3:=h.m3.he7 hB hn ho
 ep5:=h.ep5
theorem ep4 {α β:Type}(f:α->β):∀(l:List α) (k:Nat),(l.map f).eraseIdx k=(l.eraseIdx k).map f
 | [],_=>rfl
 | _::_,0=>rfl
 | a::l,k+1=>by simp[ep4 f l k]
theorem dv9 {α:Type}:∀(l:List α) (k:Nat) (h:k<l.length),l.Perm (l[k]::l.eraseIdx k)
 | [],k,h=>by simp at h
 | a::l,0,_=>.refl _
 | a::l,k+1,h=>((dv9 l k (by simpa using h)).cons a).trans (.swap _ _ _)
theorem ki7 {s:Store}{id:Nat}{l:List (IV×IV)}{c:Option (IV×IV)}(h:s.obj id=ze (.as1 l c)):bo6 s (.ptr id 0)=ze (id,l):=by simp only[bo6,h]
theorem ki8 {s:Store}{id:Nat}{l:List (IV×IV)}{c:IV×IV}(h:s.obj id=ze (.as1 l (ze c))):cw4 s (.ptr id 0)=ze (.tuple [c.1,c.2]):=by simp only[cw4,h]
theorem ca5:∀(ks l:List Str),(ks.foldl av1 l).length<=l.length+ks.length
 | [],l=>zg _
 | k::ks,l=>by
  refine zn (ca5 ks _) ?_
  have:(av1 l k).length<=l.length+1:=by
   unfold av1;split
   ·omega
   ·simp
  simp only[zm];omega
theorem il6 (p:aa2):(cy5 p).length<=p.provides.length+p.files.length+1:=by
 refine zn (ca5 _ _) ?_;have:=ca5 (p.provides.map (·.name)) [p.name];simp only[zc,zm,ql] at this;omega
theorem bd9 (p:Pool)(hf:∀r∈p.rows,r.pkg.Fit)(hlen:p.rows.length<=2^14)(hs:∀r∈p.rows,r.pkg.provides.length+r.pkg.files.length+r.pkg.aa7.length+3<=2^15) :
  Pq 55 [p.v] (.tuple [(ad8 (p.rows.map (·.pkg))).v,.int .i64 0]):=by
 obtain ⟨pk,hpk0⟩:∃pk,p.rows.map (·.pkg)=pk:=⟨_,rfl⟩;have hpl:pk.length=p.rows.length:=by rw[<- hpk0,zc]
 rw[hpk0];obtain ⟨W,hW⟩:∃W:Nat,W=2^15:=⟨_,rfl⟩;have hC:=av2 p;have hP:=λ(n:Nat) (h:n<p.rows.length)=>as9 p n h (hf _ (zf h))
 have hb:=bf8 p;obtain ⟨cs,hcs⟩:∃cs,p.v=.ab8 cs:=⟨_,rfl⟩;rw[hcs] at hC hP hb ⊢;refine af4 hE fok55 (nZ rfl) (λa ha=>by cases qd.1 ha;exact hb) ?_;simp only[ic55,go_sem];refine aa4 fok43 hC ?_;simp only[go_sem]
 refine ab1 noT (λi fr s=>fr=[(0,.ab8 cs),(4,.ptr 3 0),(19,.int .i64 p.rows.length),(20,.int .i64 i)]/\∃rv L1 L2 L3 tag,IS s 3 0 1 2 (pk.take i) rv L1 L2 L3 tag (i*W) /\
  (bc8 L1).Perm (ad8 (pk.take i)).at5/\(bc8 L2).Perm (ad8 (pk.take i)).names/\(bc8 L3).Perm (ad8 (pk.take i)).over) p.rows.length ⟨rfl,.aa1,[],[],[],(λi=>if i=0 then 1 else if i=1 then 2 else if i=2 then 3 else 4),?_,.refl _,.refl _,.refl _⟩ ?_
 ·have e0:∀(c mid:Nat) (L:NmL) (st:Store) (tag:Nat->Nat),L=[]->st.obj mid=ze (.map [])->mid<st.next->tag mid=c->MS st tag c mid L (0*W):=λc mid L st tag h1 h2 h3 h4=>by
   subst h1;exact { map:=h2,row:=λt ht=>(by cases ht),cv7:=λt ht=>(by cases ht),ids:=List.nodup_nil,keys:=List.nodup_nil,lt:=h3,il7:=h4 }
  refine { cell:=rfl,ltp:=Nat.lt_succ_self 3,grow:=.inl ⟨rfl,rfl⟩,cv7:=λid n h=>(by cases h),m1:=e0 1 0 [] _ _ rfl rfl ?_ rfl,m2:=e0 2 1 [] _ _ rfl rfl ?_ rfl,m3:=e0 3 2 [] _ _ rfl rfl ?_ rfl,ep5:=rfl }
  ·show 0<4;decide
  ·show 1<4;decide
  ·show 2<4;decide
 rintro i fr s hle ⟨rfl,rv,L1,L2,L3,tag,hI,p1,p2,p3⟩;by_cases hlt:i<p.rows.length
 ·have c1:(i:Int)<p.rows.length:=om;have c2:(0:Int)<=i:=om;have w1:=ac3 (i:=i) om;have hQ:=hP i hlt;have hx:p.rows[i]∈p.rows:=zf hlt;have hfx:=hf _ hx;have hsx:=hs _ hx
  have htk:pk.take (i+1)=pk.take i++[p.rows[i].pkg]:=by
   rw[<- hpk0,qe,List.getElem?_map,zr hlt];rfl
  generalize hpk:p.rows[i].pkg=x at *;simp only[go_sem,c1,c2];refine aa4 fok57 hQ ?_;have e3:¬3=s.next:=by have:=hI.ltp;omega
  have hiW:i*W+W<=2^29:=by
   have h1:i*W+W=(i+1)*W:=(Nat.succ_mul i W).symm;rw[h1,hW];omega
  have hWx:x.provides.length+x.files.length+x.aa7.length+3<=W:=by rw[hW];exact hsx
  have e3':¬s.next=3:=λe=>e3 e.symm
  simp only[go_sem,af7,ae8,ac7,e3,hI.cell,zt];generalize hS:Store.put (Store.put _ s.next _) s.next (aj2.cells x.cs)=S1;have hS1:S1.next=s.next+1:=by rw[<- hS];rfl
  have hbx:S1.obj s.next=ze (.cells x.cs):=by rw[<- hS];simp only[aa5,if_true]
  have h1:IS S1 3 0 1 2 (pk.take i) rv L1 L2 L3 tag (i*W):=hI.mono (zg _) om λj hj=>by
   have e:¬j=s.next:=om;rw[<- hS];simp only[aa5,e,if_false]
  clear hS;have hal:(pk.take i).length=i:=by rw[zj];omega
  obtain ⟨t1,ha1,ha2,ha3,ha4,hps⟩:=h1.push x (s.next+12) (s.next+8) om om (by rw[hal];omega);rw[hal] at ha1 hps;rw[ha1];have hc1:t1.obj 3=ze (.cells [rv,.map 0,.map 1,.map 2]):=by rw[ha3];exact h1.cell
  have hb1:t1.obj s.next=ze (.cells x.cs):=ha4 _ _ om hbx (λ_ e=>by cases e);have h2:=hps t1.next om;generalize hX:(aj2.cells [.slice (s.next+8) 0 (i+1) 15,.map 0,.map 1,.map 2])=X at hps h2;have hlk2:∀m,cj1 ⟨m,(t1.put 3 X).obj⟩ 2 .aa1 false (.map 1) (.str x.name)=ze (dd6 L2 x.name):=λm=>il8 (σ:=⟨m,(t1.put 3 X).obj⟩) h2.m2.map x.name
  obtain ⟨t2,ib1,ib2,ib3,ib4,hpt⟩:=h2.m2.upd x.name (i:Int) (t1.next+17) (t1.next+15) (by show t1.next<=_;omega) (by show t1.next<=_;omega) om;simp only at ib1 ib3;subst hX;simp only[go_sem,e3',hc1,hb1,fn5,hlk2,ib1,zt];rw[fn4 ib3 x.name (i:Int) (t1.next+15)];have g3:3<s.next:=hI.ltp
  have hb2:(t2.put 1 (aj2.map (mEs (be6 L2 x.name (i:Int) (t1.next+15))))).obj s.next=ze (.cells x.cs):=by
   have e:¬s.next=1:=om;simp only[aa5,e,if_false];refine ib4 _ _ (by show s.next<t1.next;omega) ?_ (λ_ e=>by cases e);simp only[aa5,e3',if_false];exact hb1
  have hn2:(t2.put 1 (aj2.map (mEs (be6 L2 x.name (i:Int) (t1.next+15))))).next=t1.next+17:=ib2;have hpt':=hpt (t2.put 1 (aj2.map (mEs (be6 L2 x.name (i:Int) (t1.next+15))))).next (by rw[hn2];omega);have h3:=h2.of2 (s':=t2.put 1 (aj2.map (mEs (be6 L2 x.name (i:Int) (t1.next+15))))) (nid:=t1.next+15) (by rw[hn2];show t1.next<=_;omega) (by show t1.next<=_;omega) hpt'.1 hpt'.2;clear hpt'
  have q2:(bc8 (be6 L2 x.name (i:Int) (t1.next+15))).Perm (ar5 (ad8 (pk.take i)).names x.name i):=by
   rw[cy4];exact bw1 (by show ((bc8 L2).map (·.1)).Nodup;unfold bc8;rw[z8];exact hI.m2.keys) p2
  generalize be6 L2 x.name (i:Int) (t1.next+15)=L2' at *;generalize t2.put 1 (aj2.map (mEs L2'))=S2 at *;generalize fc3 (fc3 tag 0 (s.next+8)) 2 (t1.next+15)=tag2 at *;clear hpt hps ib1 ib2 ib3 ib4 hlk2;simp only[go_sem,hb2,af7,ae8,ac7];refine aa4 fok89 (gf7 x hfx) ?_;simp only[go_sem,zt];clear h1 h2 ha4 ha3 hc1 hb1 ha1 p2;have hkn1:KN (ad8 (pk.take i)).at5:=KN.perm (nm:=bc8 L1) (by show ((bc8 L1).map (·.1)).Nodup;unfold bc8;rw[z8];exact hI.m1.keys) p1;have hol:(cy5 x).length<=x.provides.length+x.files.length+1:=il6 x
  have hidx:ad8 (pk.take (i+1))=el7 (ad8 (pk.take i)) i x:=by
   rw[htk];unfold ad8;rw[el8,hal,qa]
  generalize pk.take i++[x]=allI at *;generalize IV.slice (s.next+8) 0 (i+1) 15=rv2 at *;have hsm:¬s.next=S2.next:=om
  refine ab1 noT (λj fr t=>fr=[(0,.ab8 cs),(4,.ptr 3 0),(5,.int .i64 i),(6,.ptr s.next 0),(19,.int .i64 p.rows.length),(20,.int .i64 i),(60,.ptr S2.next 0)]/\S2.next+1<=t.next/\t.obj s.next=ze (.cells x.cs) /\
   ∃done left cur L tg,(done++left).Perm (cy5 x)/\done.length=j/\t.obj S2.next=ze (.as1 (left.map sE) cur)/\IS t 3 0 1 2 allI rv2 L L2' L3 tg (i*W+1+j)/\(bc8 L).Perm (bd1 (ad8 (pk.take i)).at5 done i)) (cy5 x).length
   ⟨rfl,zg _,?_,[],cy5 x,qm,L1,tag2,.refl _,rfl,?_,?_,p1⟩ ?_
  ·simp only[aa5,hsm,if_false];exact hb2
  ·simp only[aa5,if_true]
  ·refine h3.mono (zg _) (by show S2.next<=S2.next+1;omega) λj hj=>?_
   have e:¬j=S2.next:=om;simp only[aa5,e,if_false]
  rintro j fr t hjle ⟨rfl,hnt,hbt,done,left,cur,L,tg,hpm,hdl,hmi,hIt,hpL⟩;have hll:done.length+left.length=(cy5 x).length:=by rw[<- hpm.length_eq,zl]
  simp only[go_sem,ki7 hmi];refine ⟨λhnil=>?_,λk hk=>?_⟩
  ·have hl0:left=[]:=by simpa using hnil
   subst hl0;rw[List.append_nil] at hpm;have q1:=hpL.trans (el6 hpm hkn1);simp only[go_sem,hbt,aa2.cs,bx6];have hjl:j=(cy5 x).length:=by rw[<- hdl];simpa using hll
   subst hjl;clear hmi hbt hpL hpm hll hdl
   refine ab1 noT (λj fr u=>fr=[(0,.ab8 cs),(4,.ptr 3 0),(5,.int .i64 i),(19,.int .i64 p.rows.length),(20,.int .i64 i),(80,deps x.aa7),(81,.int .i64 x.aa7.length),(82,.int .i64 j)] /\
    ∃L3' tg',IS u 3 0 1 2 allI rv2 L L2' L3' tg' (i*W+1+(cy5 x).length+j)/\(bc8 L3').Perm (au4 (ad8 (pk.take i)).over ((x.aa7.take j).map (·.name)) i)) x.aa7.length ⟨rfl,L3,tg,hIt,p3⟩ ?_
   rintro j fr u hjo ⟨rfl,L3',tg',hIu,r3⟩;have hkn3:KN (bc8 L3'):=by show ((bc8 L3').map (·.1)).Nodup;unfold bc8;rw[z8];exact hIu.m3.keys
   by_cases hjlt:j<x.aa7.length
   ·obtain ⟨d,hd,_,hdr,hget,htk2⟩:=ad2 x.aa7 j hjlt;have d1:(j:Int)<x.aa7.length:=om;have d2:(0:Int)<=j:=om;have w2:=ac3 (i:=j) om;have g3u:=hIu.ltp;have f3:¬3=u.next:=om;simp only[go_sem,d1,d2,hget,Dep.cs,f3,hIu.cell,zt];generalize hU:Store.put (Store.put _ u.next _) u.next _=U;have hUn:U.next=u.next+1:=by rw[<- hU];rfl
    have hUd:U.obj u.next=ze (.cells [.str d.name,.int .u8 d.op,.int .i64 d.evr.am4,.str d.evr.ver,.str d.evr.rel]):=by rw[<- hU];simp only[aa5,if_true]
    have hIU:IS U 3 0 1 2 allI rv2 L L2' L3' tg' (i*W+1+(cy5 x).length+j):=hIu.mono (zg _) om λa ha=>by
     have e:¬a=u.next:=om;rw[<- hU];simp only[aa5,e,if_false]
    clear hU;have hlk:∀m,cj1 ⟨m,U.obj⟩ 2 .aa1 false (.map 2) (.str d.name)=ze (dd6 L3' d.name):=λm=>il8 (σ:=⟨m,U.obj⟩) hIU.m3.map d.name
    simp only[go_sem,hlk];obtain ⟨hcg,hcl⟩:=hIU.m3.cur d.name (u.next+11) om
    have hfz:cb5 (⟨u.next+11,U.obj⟩:Store) 0 (dd6 L3' d.name) (.aa3 ((ci6 L3' d.name).map Md.ae1)):=hcg.frz (λy hy=>(ca6 _ y hy).1) (λ_ _=>zu _) λe he c hc=>by
     obtain ⟨n,_,rfl⟩:=zi.1 he
     cases hc with
     | head=>exact .int _ _
     | tail _ h=>cases h
    have hat:=(ia4.cons hfz (ia4.cons (ad5 .i64 (i:Int)) .nil)).at;refine ac4 fok90 (cr1 hE hat.1 hat.2 (by simp[IV.plain]) (ep3 (ci6 L3' d.name) i om)) ?_;rintro v' s' ⟨rfl,rfl⟩;refine ⟨zg _,?_⟩
    have hin:(i:Int)∈ad4 (au4 (ad8 (pk.take i)).over ((x.aa7.take j).map (·.name)) i) d.name↔(i:Int)∈ci6 L3' d.name:=by
     rw[<- dd8 hkn3 r3,gc5]
    cases hc:decide ((i:Int)∈ci6 L3' d.name) with
    | true=>
     have hc':(i:Int)∈ci6 L3' d.name:=of_decide_eq_true hc;simp only[go_sem,w2];refine ⟨hjlt,L3',tg',?_,?_⟩
     ·have:=hIU.mono (s':=⟨u.next+11,U.obj⟩) (zx _) (by show U.next<=u.next+11;omega) λ_ _=>rfl
      simpa only[zt,Nat.succ_eq_add_one] using this
     ·rw[htk2,zk,zw,List.map_nil,cu8,if_pos (hin.2 hc')];exact r3
    | false=>
     have hc':¬(i:Int)∈ci6 L3' d.name:=of_decide_eq_false hc;obtain ⟨t5,jb1,jb2,jb3,jb4,jpt⟩:=hIU.m3.upd d.name (i:Int) (u.next+28) (u.next+26) om om om;simp only[go_sem,hIU.cell,hUd,hlk,jb1,zt];rw[fn4 jb3 d.name (i:Int) (u.next+26)];have hn5:(t5.put 2 (aj2.map (mEs (be6 L3' d.name (i:Int) (u.next+26))))).next=u.next+28:=jb2;have jpt':=jpt (t5.put 2 (aj2.map (mEs (be6 L3' d.name (i:Int) (u.next+26))))).next (by rw[hn5];omega);have hI5:=hIU.of3 (s':=t5.put 2 (aj2.map (mEs (be6 L3' d.name (i:Int) (u.next+26))))) (nid:=u.next+26) (by rw[hn5];omega) om jpt'.1 jpt'.2
     have hq:(bc8 (be6 L3' d.name (i:Int) (u.next+26))).Perm (ar5 (au4 (ad8 (pk.take i)).over ((x.aa7.take j).map (·.name)) i) d.name i):=by
      rw[cy4];exact bw1 hkn3 r3
     clear jpt jpt' jb1 jb3 jb4;generalize t5.put 2 (aj2.map (mEs (be6 L3' d.name (i:Int) (u.next+26))))=T5 at *;simp only[go_sem,w2];refine ⟨hjlt,be6 L3' d.name (i:Int) (u.next+26),_,by simpa only[zt] using hI5,?_⟩;rw[htk2,zk,zw,List.map_nil,cu8,if_neg (λe=>hc' (hin.1 e))];exact hq
   ·have hj':j=x.aa7.length:=om;subst hj';have d1:¬(x.aa7.length:Int)<x.aa7.length:=om;rw[zp] at r3;simp only[go_sem,d1,w1];refine ⟨hlt,rv2,L,L2',L3',tg',?_,?_,?_,?_⟩
    ·rw[htk];have hle2:i*W+1+(cy5 x).length+x.aa7.length<=(i+1)*W:=by rw[Nat.succ_mul];omega
     exact hIu.mono hle2 (zg _) λ_ _=>rfl
    ·rw[hidx];exact q1
    ·rw[hidx];exact q2
    ·rw[hidx];exact r3
  ·have hge:(left.map sE).getD k (.undef,.undef)=sE left[k]:=by simp[zh,hk]
   rw[hge,ep4];generalize hT:Store.put t S2.next (aj2.as1 ((left.eraseIdx k).map sE) (ze (sE left[k])))=T;have hTn:T.next=t.next:=by rw[<- hT];rfl
   have hTm:T.obj S2.next=ze (.as1 ((left.eraseIdx k).map sE) (ze (sE left[k]))):=by rw[<- hT];simp only[aa5,if_true]
   have hTb:T.obj s.next=ze (.cells x.cs):=by rw[<- hT];simp only[aa5,hsm,if_false];exact hbt
   have hIT:IS T 3 0 1 2 allI rv2 L L2' L3 tg (i*W+1+j):=hIt.he7 (zg _) om λa o ha hao hne=>by
    rw[<- hT];have e:¬a=S2.next:=λe=>by subst e;rw[hmi] at hao;cases hao;exact hne _ _ rfl
    simp only[aa5,e,if_false];exact hao
   clear hT;generalize hkey:left[k]=key at *;obtain ⟨t3,ib1,ib2,ib3,ib4,hpt⟩:=hIT.m1.upd key (i:Int) (t.next+15) (t.next+13) om om om;have hlk:∀m,cj1 ⟨m,T.obj⟩ 2 .aa1 false (.map 0) (.str key)=ze (dd6 L key):=λm=>il8 (σ:=⟨m,T.obj⟩) hIT.m1.map key
   have hme:∀m,cw4 ⟨m,T.obj⟩ (.ptr S2.next 0)=ze (.tuple [.str key,.agg []]):=λm=>ki8 (s:=⟨m,T.obj⟩) hTm
   simp only[go_sem,hme,hIT.cell,hlk,ib1,zt];rw[fn4 ib3 key (i:Int) (t.next+13)];have hn4:(t3.put 0 (aj2.map (mEs (be6 L key (i:Int) (t.next+13))))).next=t.next+15:=ib2;have hpt':=hpt (t3.put 0 (aj2.map (mEs (be6 L key (i:Int) (t.next+13))))).next (by rw[hn4];omega);have hI4:=hIT.of1 (s':=t3.put 0 (aj2.map (mEs (be6 L key (i:Int) (t.next+13))))) (nid:=t.next+13) (by rw[hn4];omega) om hpt'.1 hpt'.2
   have hmi4:(t3.put 0 (aj2.map (mEs (be6 L key (i:Int) (t.next+13))))).obj S2.next=ze (.as1 ((left.eraseIdx k).map sE) (ze (sE key))):=by
    have e:¬S2.next=0:=om;simp only[aa5,e,if_false];exact ib4 _ _ om hTm (λ_ e=>by cases e)
   have hb4:(t3.put 0 (aj2.map (mEs (be6 L key (i:Int) (t.next+13))))).obj s.next=ze (.cells x.cs):=by
    have e:¬s.next=0:=om;simp only[aa5,e,if_false];exact ib4 _ _ om hTb (λ_ e=>by cases e)
   have hq:(bc8 (be6 L key (i:Int) (t.next+13))).Perm (bd1 (ad8 (pk.take i)).at5 (done++[key]) i):=by
    rw[cy4,ex2];exact bw1 (by show ((bc8 L).map (·.1)).Nodup;unfold bc8;rw[z8];exact hIT.m1.keys) hpL
   clear hpt hpt' ib1 ib3 ib4;generalize t3.put 0 (aj2.map (mEs (be6 L key (i:Int) (t.next+13))))=T4 at *;simp only[go_sem];refine ⟨om,om,hb4,done++[key],left.eraseIdx k,ze (sE key),be6 L key (i:Int) (t.next+13),_,?_,by rw[zl,hdl];rfl,hmi4,by simpa only[zt] using hI4,hq⟩;rw[qw];refine List.Perm.trans (List.Perm.append_left done ?_) hpm;rw[<- hkey];exact (dv9 left k hk).symm
 ·have hi':i=p.rows.length:=om;subst hi';have c1:¬(p.rows.length:Int)<p.rows.length:=om;rw[<- hpl,zp] at hI p1 p2 p3;simp only[go_sem,c1];refine .by4 (.cons ?_ (.cons (ad5 _ _) .nil))
  have hall:∀(l:List aa2) (y:Index) (n:Nat),(idxFrom y n l).all=y.all++l:=by
   intro l
   induction l with
   | nil=>intro y n;simp[idxFrom]
   | cons a l ih=>intro y n;simp only[idxFrom,ih,el7];simp
  exact hI.frz (by unfold ad8;rw[hall];rfl) p1 p2 p3
theorem dg3 {f:Nat}{args:List IV}{v:IV}{σ:Store}{K:IV->Store->Prop}(hf:okF Tryz.prog f=true)(h:Pq f args v)(hk:K v σ):dc7 Tryz.prog EE qm f args σ K :=
 ap4 hf (ew6 h) λ_ _ ⟨h1,h2⟩=>by subst h1;subst h2;exact ⟨zg _,hk⟩
theorem ar9 (x:Index):Bnd 0 x.v:=.ab8 _ λc hc=>by
 simp only[za,zb,or_false] at hc;rcases hc with rfl|rfl|rfl|rfl
 ·exact ap6 _
 ·exact ee7 _
 ·exact ee7 _
 ·exact ee7 _
theorem he8 (x:Index)(l:List Int)(hl:l.length<2^30)(k:Nat)(cap:List IV)(w:Int->Bool)(hcap:∀c∈cap,Bnd 0 c)(hok:okF Tryz.prog k=true)
  (hW:∀n∈l,∃m:Nat,n=m/\∃h:m<x.all.length,Pq k (.agg x.all[m].cs::.int .i64 n::cap) (.bool (w n))) :
  Pq 140 [x.v,.aa3 (l.map Md.ae1),.func (.func k) [] cap] (.aa3 ((l.filter w).map Md.ae1)):=by
 have hx:x.v=.ab8 [.aa3 (x.all.map aa2.cs),.al4 (nmV x.at5),.al4 (nmV x.names),.al4 (nmV x.over)]:=rfl;have hbx:=ar9 x;rw[hx] at hbx ⊢;generalize IV.al4 (nmV x.at5)=v1 at *;generalize IV.al4 (nmV x.names)=v2 at *;generalize IV.al4 (nmV x.over)=v3 at *;refine af4 hE fok140 (nZ rfl) (λa ha=>?_) ?_
 ·simp only[za,zb,or_false] at ha;rcases ha with rfl|rfl|rfl
  ·exact hbx
  ·exact aw5 _
  ·exact .func _ _ _ (λc hc=>by cases hc) hcap
 simp only[ic140,go_sem];refine ab1 noT (λi fr s=>∃gv,fr=[(0,.ab8 [.aa3 (x.all.map aa2.cs),v1,v2,v3]),(2,.func (.func k) [] cap),(7,gv),(10,.aa3 (l.map Md.ae1)),(11,.int .i64 l.length),(12,.int .i64 i)]/\Grow s gv 1 (((l.take i).filter w).map Md.ae1)) l.length ⟨.aa1,rfl,.inl ⟨rfl,rfl⟩⟩ ?_;rintro i fr s hle ⟨gv,rfl,hg⟩;by_cases hlt:i<l.length
 ·obtain ⟨n,hn,_,hdr,hget,htk⟩:=ad2 l i hlt;have c1:(i:Int)<l.length:=om;have c2:(0:Int)<=i:=om;have w1:=ac3 (i:=i) om;obtain ⟨m,rfl,hm,hpc⟩:=hW n hn;have c3:(m:Int)<x.all.length:=om;have c4:(0:Int)<=m:=om;have hgm:(x.all.map aa2.cs).getD m []=x.all[m].cs:=by simp[zh,hm]
  simp only[go_sem,c1,c2,c3,c4,hget,Md.ae1,hgm,af7,ae8,ac7,zd,zc];refine dg3 hok hpc ?_
  cases hw:w (m:Int) with
  | false=>
   simp only[go_sem,w1]
   exact ⟨hlt,gv,rfl,by rw[htk,qt];simpa [hw] using hg⟩
  | true=>
   have hg1:Grow ⟨s.next+1,s.obj⟩ gv 1 (((l.take i).filter w).map Md.ae1):=Grow.mono (σ:=s) hg (zx _) λ_ _ _=>rfl
   have hlen:((l.take i).filter w).length<=i:=by
    refine zn (qn _ _) ?_;rw[zj];omega
   have hap:=ai2 (nid:=s.next) (e:=[.int .i64 (m:Int)]) hg1 (ca6 _) ⟨rfl,rfl⟩ (by rw[zc];omega);simp only[go_sem,hap,w1];refine ⟨hlt,_,rfl,?_⟩;rw[htk,qt,zk];have e:List.filter w [(m:Int)]=[(m:Int)]:=by simp[hw]
   rw[e];refine .inr ⟨s.next,by simp,?_,?_⟩
   ·show (if s.next=s.next then _ else _)=_;rw[if_pos rfl];rfl
   ·show s.next<(ae9 gv _).next;rw[ab7];exact Nat.lt_succ_self _
 ·have hi':i=l.length:=om;subst hi';have c1:¬(l.length:Int)<l.length:=om;rw[zp] at hg;simp only[go_sem,c1];refine hg.frz (λy hy=>(ca6 _ y hy).1) (λ_ _=>zu _) λe he c hc=>?_
  obtain ⟨n,_,rfl⟩:=zi.1 he
  cases hc with
  | head=>exact .int _ _
  | tail _ h=>cases h
theorem ep6 (s:Str):Pq 243 [.str s] (.func (.func 254) [] [.ab8 [.str s]]):=by
 refine af4 hE fok243 (nZ rfl) (af3 (.str _)) ?_;simp only[ic243,go_sem];have h1:∀c∈[IV.str s],Bnd 0 c:=af3 (.str _);have h2:∀c∈[IV.ab8 [.str s]],Bnd 0 c:=af3 (.ab8 _ h1);exact .keep _ (.func _ _ _ (λc hc=>by cases hc) h2)
theorem bf9 (l:List Part):∀e∈l.map Part.cs,e.length=2/\e.all IV.leaf=true:=λe he=>by
 obtain ⟨x,_,rfl⟩:=zi.1 he;exact ⟨rfl,rfl⟩
theorem gf9:∀(n:Nat) (l:Str),l.length<=n->(au8 n l).length<=l.length:=by
 intro n
 induction n with
 | zero=>intro l h;simp[au8]
 | succ n ih=>
  intro l h
  cases l with
  | nil=>simp[au8]
  | cons b l=>
   simp only[zm] at h;simp only[au8];split
   ·exact zn (ih l om) (by simp)
   ·split
    ·simp only[zm];have:=ih l om;omega
    ·simp only[zm]
     have hd:((b::l).dropWhile λc=>ad1 c==ad1 b).length<=l.length:=by
      rw[qq,if_pos (by simp)];exact cy9 l
     have:=ih _ (zn hd om);omega
theorem bk5 (s:Str):(ab5 s).length<=s.length:=gf9 _ _ (zg _)
theorem dw1 (s:Str)(hs:s.length<2^30)(σ:Store):Cq 219 [.str s] σ λv t=>(∀i,i<σ.next->t.obj i=σ.obj i)/\σ.next<=t.next/\Grow t v 2 ((ab5 s).map Part.cs)/\∀id n,v=.slice id 0 n 2->σ.next<=id:=by
 refine C_f fok219 (nZ rfl) ?_;simp only[ic219,go_sem];refine aa4 fok243 (ep6 s) ?_;simp only[go_sem];have hvl:=bk5 s;refine dy8 (il2 s om) (λrest t=>∃n v,n<=(ab5 s).length/\rest=((ab5 s).drop n).map evP/\(∀i,i<σ.next->t.obj i=σ.obj i)/\t.obj σ.next=ze (.cells [v])/\σ.next<t.next/\Grow t v 2 (((ab5 s).take n).map Part.cs)/\∀id k,v=.slice id 0 k 2->σ.next+1<id) (λ_ _ _=>trivial) ?_ ?_ ?_ ?_ ?_
 ·rintro rest t t' ⟨n,v,h0,h1,h2,h3,h4,h5,h6⟩ hn ho;exact ⟨n,v,h0,h1,λi hi=>by rw[ho i om];exact h2 i hi,by rw[ho _ h4];exact h3,om,h5.mono hn λid _ hid=>ho id hid,h6⟩
 ·intro a ha;obtain ⟨p,_,rfl⟩:=zi.1 ha;rfl
 ·intro o;have e0:¬σ.next=σ.next+1:=om;refine ⟨0,.aa1,qi _,rfl,λi hi=>?_,?_,by show σ.next<σ.next+1+1;omega,.inl ⟨rfl,by simp⟩,λid k h=>by cases h⟩
  ·have e1:¬i=σ.next:=om;have e2:¬i=σ.next+1:=om;simp only[aa5,aa8,e1,e2,if_false]
  ·simp only[aa5,aa8,e0,if_false,if_true]
 ·rintro L pre a rest t hev ⟨n,v,h0,h1,h2,h3,h4,h5,h6⟩ hL hlt
  have hn:n<(ab5 s).length:=by
   rcases Nat.lt_or_ge n (ab5 s).length with h|h
   ·exact h
   ·rw[zy h] at h1;cases h1
  rw[zq hn,zw] at h1;obtain ⟨ha,hrest⟩:=List.cons.inj h1;subst ha;simp only[evP,Part.cs,aa8] at hL hlt ⊢;have e1:¬σ.next+1=t.next:=om;have e2:¬σ.next=t.next:=om;have e3:¬σ.next=σ.next+1:=om;have e4:¬t.next=σ.next+1:=om;have e5:¬t.next=σ.next:=om;simp only[go_sem,hL,e1,e2,e3,e4,h3];generalize hU:(((Store.put ⟨t.next+1,t.obj⟩ t.next (aj2.cells [IV.int .u8 0,IV.str []])).put t.next (aj2.cells [IV.int .u8 ↑(ab5 s)[n].kind,IV.str (ab5 s)[n].s])).put (σ.next+1) (L .busy qm))=U
  have hUo:∀i,i<t.next->i≠σ.next+1->U.obj i=t.obj i:=λi hi hne=>by
   have:¬i=t.next:=om;rw[<- hU];simp only[aa5,hne,this,if_false]
  have hUL:U.obj (σ.next+1)=ze (L .busy qm):=by rw[<- hU];simp only[aa5,if_true]
  have hg:Grow ⟨t.next+1+1,U.obj⟩ v 2 (((ab5 s).take n).map Part.cs):=by
   refine h5.mono (by show t.next<=t.next+1+1;omega) λid hv hid=>?_
   have:=h6 _ _ hv;exact hUo id hid om
  have hl0:(((ab5 s).take n).map Part.cs).length=n:=by rw[zc,zj];omega
  have hap:=ai2 (nid:=t.next+1) (e:=[IV.int .u8 ↑(ab5 s)[n].kind,IV.str (ab5 s)[n].s]) hg (bf9 _) ⟨rfl,rfl⟩ (by rw[hl0];omega);have k1:=af5 hg σ.next (.cells [v]) (by show U.obj _=_;rw[hUo _ h4 e3];exact h3) (λ_ h=>by cases h)
  have k2:(ae9 v ⟨t.next+1+1,U.obj⟩).obj (σ.next+1)=ze (L .busy qm):=by
   cases hv:v<;>try exact hUL
   rename_i id o n' e;show (if σ.next+1=id then qm else U.obj _)=_;rcases h5 with ⟨h,_⟩|⟨id',h,_,_⟩
   ·rw[h] at hv;cases hv
   ·rw[hv] at h;cases h;have:=h6 _ _ hv;rw[if_neg om];exact hUL
  have k3:∀i,i<σ.next->(ae9 v ⟨t.next+1+1,U.obj⟩).obj i=σ.obj i:=λi hi=>by
   have e7:U.obj i=σ.obj i:=by rw[hUo i om om];exact h2 i hi
   cases hv:v<;>try exact e7
   rename_i id o n' e;show (if i=id then qm else U.obj _)=_;rcases h5 with ⟨h,_⟩|⟨id',h,_,_⟩
   ·rw[h] at hv;cases hv
   ·rw[hv] at h;cases h;have:=h6 _ _ hv;rw[if_neg om];exact e7
  have kn:=ab7 (σ:=⟨t.next+1+1,U.obj⟩) v;rw[hl0] at hap;have e6:¬σ.next=t.next+1:=om;have e7:¬σ.next+1=t.next+1:=om;have e8:¬σ.next+1=σ.next:=om;simp only[go_sem,hap,e6,k1,e7,e8,k2];refine eu9 (by rw[aa8,aa8,aa8,kn];show t.next<=t.next+1+1;omega) (by simp only[aa5,if_true]) ?_;refine ⟨n+1,.slice (t.next+1) 0 (n+1) 2,hn,hrest,λi hi=>?_,?_,?_,?_,λid k h=>?_⟩
  ·have g1:¬i=σ.next+1:=om;have g2:¬i=σ.next:=om;have g3:¬i=t.next+1:=om;simp only[aa5,g1,g2,g3,if_false];exact k3 i hi
  ·simp only[aa5,e3,if_false,if_true]
  ·simp only[aa8,kn];omega
  ·have htk:(ab5 s).take (n+1)=(ab5 s).take n++[(ab5 s)[n]]:=by rw[List.take_succ_eq_append_getElem hn]
   rw[htk,zk];refine .inr ⟨t.next+1,by simp;omega,?_,by simp only[aa8,kn];omega⟩;have g1:¬t.next+1=σ.next+1:=om;have g2:¬t.next+1=σ.next:=om;simp only[aa5,g1,g2,if_false,if_true];rfl
  ·cases h;omega
 ·rintro t o ⟨n,v,h0,h1,h2,h3,h4,h5,h6⟩ hlt ho
  have hn:n=(ab5 s).length:=by
   rcases Nat.lt_or_ge n (ab5 s).length with h|h
   ·rw[zq h] at h1;cases h1
   ·omega
  subst hn;have e3:¬σ.next=σ.next+1:=om;simp only[aa8] at hlt ho ⊢;simp only[go_sem,e3,h3];rw[zp] at h5;refine ⟨λi hi=>?_,om,h5.mono (zg _) λid hv hid=>?_,λid k h=>?_⟩
  ·have g1:¬i=σ.next+1:=om;rw[if_neg g1];exact h2 i hi
  ·have:=h6 _ _ hv;have g1:¬id=σ.next+1:=om;show (if id=σ.next+1 then qm else t.obj id)=_;rw[if_neg g1]
  ·have:=h6 _ _ h;omega
theorem iv1 {p:UInt8->Bool}(l:Str):(l.takeWhile p).length<=l.length:=(List.takeWhile_sublist _).length_le
theorem im3:∀(n:Nat) (l:Str),l.length<=n->∀p∈au8 n l,p.s.length<=l.length:=by
 intro n
 induction n with
 | zero=>intro l h p hp;simp[au8] at hp
 | succ n ih=>
  intro l h p hp
  cases l with
  | nil=>simp[au8] at hp
  | cons b l=>
   simp only[zm] at h;simp only[au8] at hp;split at hp
   ·exact zn (ih l om p hp) (by simp)
   ·split at hp
    ·rcases za.1 hp with rfl|hp
     ·simp
     ·exact zn (ih l om p hp) (by simp)
    ·have hd:((b::l).dropWhile λc=>ad1 c==ad1 b).length<=l.length:=by
      rw[qq,if_pos (by simp)];exact cy9 l
     rcases za.1 hp with rfl|hp
     ·simp only;split
      ·exact zn (cy9 _) (iv1 _)
      ·exact iv1 _
     ·exact zn (ih _ (zn hd om) p hp) (zn hd (by simp))
theorem im4 (s:Str):∀p∈ab5 s,p.s.length<=s.length:=im3 _ _ (zg _)
def di3:Part:=⟨2,[]⟩
abbrev vL (s:Str):List Part:=ab5 s++[di3]
theorem ka8 (s:Str):∀p∈vL s,p.s.length<=s.length:=λp hp=>by
 rcases qk.1 hp with h|h
 ·exact im4 s p h
 ·simp[di3] at h;subst h;exact qi _
theorem ch5 {xs ys:List Part}{i:Nat}(h1:i<xs.length)(h2:i<ys.length):ag2 (xs.drop i) (ys.drop i)=if af1 xs[i] ys[i]≠0 then af1 xs[i] ys[i] else ag2 (xs.drop (i+1)) (ys.drop (i+1)):=by
 rw[zq h1,zq h2,ag2]
theorem cv8 {xs ys:List Part}{i:Nat}(h:xs.length<=i\/ys.length<=i):ag2 (xs.drop i) (ys.drop i)=0:=by
 rcases h with h|h
 ·rw[zy h,ag2];intros;contradiction
 ·rw[zy h];cases xs.drop i<;>rw[ag2]<;>intros<;>contradiction
theorem hg6 (l:List Part)(i:Nat)(h:i<l.length):(l.map Part.cs).getD i []=Part.cs l[i]:=by simp[zh,h]
theorem hg7 {σ:Store}{id i:Nat}{l:List Part}(ho:σ.obj id=ze (.row (l.map Part.cs).flatten))(h:i<l.length):ea8 (ze 2) (i*2) (σ.obj id)=ze (.agg (Part.cs l[i])):=by
 have hall:∀e∈l.map Part.cs,e.length=2:=λe he=>(bf9 l e he).1
 have hlen:=bl6 hall;rw[zc] at hlen;have hp:=cd2 hall i (by rw[zc];exact h);rw[ho];simp only[ea8];have h1:i*2+2<=l.length*2:=om;rw[if_pos (by rw[qg,hlen];omega),hp,hg6 l i h]
theorem ch6 (a b:Str)(ha:a.length<2^30)(hb:b.length<2^30):Pq 190 [.str a,.str b] (.int .i64 (ap9 a b)):=by
 refine af4 hE fok190 (nZ rfl) (ak3 (.str _) (.str _)) ?_;have la:=bk5 a;have lb:=bk5 b;simp only[ic190,go_sem];refine ac4 fok219 (dw1 a ha _) ?_;rintro v1 s1 ⟨-,n1,g1,-⟩;refine ⟨n1,?_⟩;have n1:2<=s1.next:=n1;have ap1:=ai2 (nid:=0) (e:=[IV.int .u8 2,IV.str []]) g1 (bf9 _) ⟨rfl,rfl⟩ (by rw[zc];omega);simp only[go_sem,ap1];have hl1:∀e∈(vL a).map Part.cs,e.length=2:=λe he=>(bf9 _ e he).1
 have r1:((ab5 a).map Part.cs++[[IV.int .u8 2,IV.str []]]).flatten=((vL a).map Part.cs).flatten:=by rw[zk];rfl
 have r2:((ab5 b).map Part.cs++[[IV.int .u8 2,IV.str []]]).flatten=((vL b).map Part.cs).flatten:=by rw[zk];rfl
 rw[r1];refine ac4 fok219 (dw1 b hb _) ?_;rintro v2 s2 ⟨o2,n2,g2,h2⟩;refine ⟨n2,?_⟩;have n2:2<=s2.next:=by rw[aa8,ab7] at n2;omega
 have ap2:=ai2 (nid:=1) (e:=[IV.int .u8 2,IV.str []]) g2 (bf9 _) ⟨rfl,rfl⟩ (by rw[zc];omega)
 have q0:s2.obj 0=ze (.row ((vL a).map Part.cs).flatten):=by
  rw[o2 0 (by rw[aa8,ab7];omega)];simp only[aa5,if_true]
 have q1:(ae9 v2 s2).obj 0=ze (.row ((vL a).map Part.cs).flatten):=by
  rcases g2 with ⟨rfl,_⟩|⟨id,rfl,_,_⟩
  ·exact q0
  ·have:=h2 _ _ rfl;rw[aa8,ab7] at this;show (if 0=id then qm else s2.obj 0)=_;rw[if_neg om];exact q0
 rw[r2] at ap2;simp only[go_sem,ap2];generalize hS:(ae9 v2 s2).put 1 (.row ((vL b).map Part.cs).flatten)=S;have k0:S.obj 0=ze (.row ((vL a).map Part.cs).flatten):=by rw[<- hS];exact q1
 have k1:S.obj 1=ze (.row ((vL b).map Part.cs).flatten):=by rw[<- hS];simp only[aa5,if_true]
 clear hS ap1 ap2
 have hmin:(if ((ab5 b).length+1:Nat)<(((ab5 a).length+1:Nat):Int) then (((ab5 b).length+1:Nat):Int) else (((ab5 a).length+1:Nat):Int))=((min (vL a).length (vL b).length:Nat):Int):=by
  simp only[zl,zm,ql];split<;>omega
 rw[hmin];have hA:(ab5 a).length+1=(vL a).length:=by simp
 have hB:(ab5 b).length+1=(vL b).length:=by simp
 rw[hA,hB];have hNa:min (vL a).length (vL b).length<=(vL a).length:=Nat.min_le_left _ _;have hNb:min (vL a).length (vL b).length<=(vL b).length:=Nat.min_le_right _ _;have hN:(vL a).length<=min (vL a).length (vL b).length\/(vL b).length<=min (vL a).length (vL b).length:=om;have hsm:min (vL a).length (vL b).length<2^40:=by rw[<- hA] at hNa;omega
 generalize min (vL a).length (vL b).length=N at *;refine ab1 noT (λi fr s=>fr=[(5,.slice 0 0 (vL a).length 2),(6,.slice 1 0 (vL b).length 2),(23,.int .i64 N),(24,.int .i64 i)]/\s.obj=S.obj/\ap9 a b=ag2 ((vL a).drop i) ((vL b).drop i)) N ⟨rfl,rfl,rfl⟩ ?_;rintro i fr s hle ⟨rfl,hs,hI⟩;by_cases hlt:i<N
 ·have c1:(i:Int)<N:=om;have c2:(0:Int)<=i:=om;have ia:i<(vL a).length:=om;have ib:i<(vL b).length:=om;have c3:(i:Int)<(vL a).length:=om;have c4:(i:Int)<(vL b).length:=om;have w1:=ac3 (i:=i) om;have l0:=hg7 k0 ia;have l1:=hg7 k1 ib;rw[ch5 ia ib] at hI;have hp:=gf8 (vL a)[i] (vL b)[i] (by have:=ka8 a _ (zf ia);omega) (by have:=ka8 b _ (zf ib);omega);generalize (vL a)[i]=x at *;generalize (vL b)[i]=y at *;simp only[go_sem,c1,c2,c3,c4,hs,l0,l1];refine aa4 fok220 hp ?_;by_cases hz:af1 x y=0
  ·simp only[go_sem,hz,w1];rw[hz,if_neg (by simp)] at hI;exact ⟨hlt,hI⟩
  ·rw[if_pos hz] at hI;simp only[go_sem,hz];rw[hI];exact ad5 _ _
 ·have hi':i=N:=om;subst hi';have c1:¬(i:Int)<i:=om;rw[cv8 hN] at hI;simp only[go_sem,c1];rw[hI];exact ad5 _ _
theorem hg8 (a b:EVR):Pq 187 [.ab8 a.cs,.ab8 b.cs] (.int .i64 (ar1 a.am4 b.am4)):=by
 refine ba9 fok187 (nZ rfl) λσ=>?_
 simp only[ic187,go_sem,EVR.cs];refine aa4 fok188 (hf7 _ _) ?_;simp only[go_sem,and_self]
theorem hg9 (a b:EVR)(h1:a.ver.length<2^30)(h2:b.ver.length<2^30):Pq 189 [.ab8 a.cs,.ab8 b.cs] (.int .i64 (ap9 a.ver b.ver)):=by
 refine ba9 fok189 (nZ rfl) λσ=>?_
 simp only[ic189,go_sem,EVR.cs];refine aa4 fok190 (ch6 _ _ h1 h2) ?_;simp only[go_sem,and_self]
theorem hh4 (a b:EVR)(h1:a.rel.length<2^30)(h2:b.rel.length<2^30):Pq 191 [.ab8 a.cs,.ab8 b.cs] (.int .i64 (if a.rel=[]\/b.rel=[] then 0 else ap9 a.rel b.rel)):=by
 refine ba9 fok191 (nZ rfl) λσ=>?_
 by_cases e1:a.rel=[]
 ·simp only[ic191,go_sem,EVR.cs,e1,true_or,and_self]
 ·by_cases e2:b.rel=[]
  ·simp only[ic191,go_sem,EVR.cs,e1,e2,or_true,and_self]
  ·simp only[ic191,go_sem,EVR.cs,e1,e2,or_self];refine aa4 fok190 (ch6 _ _ h1 h2) ?_;simp only[go_sem,and_self]
def fnC (f:Nat×List IV):List IV:=[.func (.func f.1) [] f.2]
theorem fc7 (fs:List (Nat×List IV))(vals:List Int)(hl:fs.length=vals.length)(hn:fs.length<2^40)(hb:∀f∈fs,∀c∈f.2,Bnd 0 c)
  (h:∀i (h1:i<fs.length) (h2:i<vals.length),okF Tryz.prog fs[i].1=true/\Pq fs[i].1 fs[i].2 (.int .i64 vals[i])):Pq 186 [.aa3 (fs.map fnC)] (.int .i64 (orM vals)):=by
 refine af4 hE fok186 (nZ rfl) (af3 (.aa3 _ λe he c hc=>?_)) ?_
 ·obtain ⟨f,hf,rfl⟩:=zi.1 he
  cases hc with
  | head=>exact .func _ _ _ (λc hc=>by cases hc) (hb f hf)
  | tail _ h=>cases h
 simp only[ic186,go_sem];refine ab1 noT (λi fr s=>fr=[(6,.aa3 (fs.map fnC)),(7,.int .i64 fs.length),(8,.int .i64 i)]/\orM vals=orM (vals.drop i)) fs.length ⟨rfl,rfl⟩ ?_;rintro i fr s hle ⟨rfl,hI⟩;by_cases hlt:i<fs.length
 ·obtain ⟨f,hf,hget0,hdr,hget,htk⟩:=ad2 fs i hlt;have hlt2:i<vals.length:=om;have c1:(i:Int)<fs.length:=om;have c2:(0:Int)<=i:=om;have w1:=ac3 (i:=i) om;obtain ⟨k1,k2⟩:=h i hlt hlt2
  have hfi:fs[i]=f:=by
   have:=zr hlt;rw[this] at hget0;exact ze.inj hget0
  rw[hfi] at k1 k2;rw[zq hlt2,orM] at hI;generalize vals[i]=x at *;simp only[go_sem,c1,c2,hget,fnC];refine dg3 k1 k2 ?_;by_cases hx:x=0
  ·subst hx;simp only[go_sem,w1];exact ⟨hlt,by simpa using hI⟩
  ·rw[if_neg hx] at hI;simp only[go_sem,hx];rw[hI];exact ad5 _ _
 ·have hi':i=fs.length:=om;subst hi';have c1:¬(fs.length:Int)<fs.length:=om;rw[hl,z2,orM] at hI;simp only[go_sem,c1];rw[hI];exact ad5 _ _
theorem fn6 (a:EVR):Bnd 0 (.ab8 a.cs):=.ab8 _ λc hc=>by
 simp only[EVR.cs,za,zb,or_false] at hc;rcases hc with rfl|rfl|rfl
 ·exact .int _ _
 ·exact .str _
 ·exact .str _
theorem bx2 (a:EVR):Bnd 0 (.agg a.cs):=.agg _ λc hc=>by
 simp only[EVR.cs,za,zb,or_false] at hc;rcases hc with rfl|rfl|rfl
 ·exact .int _ _
 ·exact .str _
 ·exact .str _
def EVR.small (e:EVR):Prop:=e.ver.length<2^30/\e.rel.length<2^30
theorem bn4 (a b:EVR)(ha:EVR.small a)(hb:EVR.small b):Pq 147 [.agg a.cs,.agg b.cs] (.int .i64 (aq4 a b)):=by
 refine af4 hE fok147 (nZ rfl) (ak3 (bx2 a) (bx2 b)) ?_
 have hv:aq4 a b=orM [ar1 a.am4 b.am4,ap9 a.ver b.ver,if a.rel=[]\/b.rel=[] then 0 else ap9 a.rel b.rel]:=by
  rw[ka7];unfold aq4;split
  ·rfl
  ·split
   ·rfl
   ·rfl
 have hf:=fc7 [(187,[.ab8 a.cs,.ab8 b.cs]),(189,[.ab8 a.cs,.ab8 b.cs]),(191,[.ab8 a.cs,.ab8 b.cs])] [ar1 a.am4 b.am4,ap9 a.ver b.ver,if a.rel=[]\/b.rel=[] then 0 else ap9 a.rel b.rel] rfl (by simp)
  (λf hf c hc=>by
   simp only[za,zb,or_false] at hf;rcases hf with rfl|rfl|rfl<;>exact ak3 (fn6 a) (fn6 b) c hc)
  (λi h1 h2=>by
   match i,h1 with
   | 0,_=>exact ⟨fok187.1,hg8 a b⟩
   | 1,_=>exact ⟨fok189.1,hg9 a b ha.1 hb.1⟩
   | 2,_=>exact ⟨fok191.1,hh4 a b ha.2 hb.2⟩
   | i+3,h=>simp at h;omega)
 rw[<- hv] at hf;have ea:(IV.agg a.cs).cs.all IV.leaf=true:=rfl;have eb:(IV.agg b.cs).cs.all IV.leaf=true:=rfl;simp only[EVR.cs] at hf ⊢;simp only[ic147,go_sem];refine aa4 fok186 hf ?_;simp only[go_sem];exact ad5 _ _
def bo3 (a b:Int):Int:=IntKind.u8.wrap ((BitVec.ofInt 8 a &&& BitVec.ofInt 8 b).toNat:Int)
theorem at1 (a b:Int):ba3 .and (.int .u8 a) (.int .u8 b)=ze (.int .u8 (bo3 a b)):=rfl
theorem ki9 {n:Nat}(h:n<256):IntKind.u8.wrap (n:Int)=n:=by
 simp[IntKind.wrap,IntKind.bits,IntKind.signed];omega
theorem aq5 (a b:Nat)(ha:a<256)(hb:b<256):bo3 a b=((a &&& b:Nat):Int):=by
 unfold bo3;rw[BitVec.toNat_and]
 have e:∀n:Nat,n<256->(BitVec.ofInt 8 (n:Int)).toNat=n:=λn hn=>by
  rw[BitVec.toNat_ofInt];omega
 rw[e a ha,e b hb];exact ki9 (qu Nat.and_le_left ha)
theorem and7:∀a,a<256->((a &&& 7=0)↔a%8=0):=by decide +kernel
theorem ef2:∀x,x<256->((x &&& 7=0)↔(x.testBit 0=false/\x.testBit 1=false/\x.testBit 2=false)):=by decide +kernel
theorem and1:∀a,a<256->((a &&& 1=0)↔a.testBit 0=false):=by decide +kernel
theorem iv2:∀a,a<256->((a &&& 4=0)↔a.testBit 2=false):=by decide +kernel
theorem hh5 (a b:Int):ar1 a b=-1\/ar1 a b=0\/ar1 a b=1:=by
 unfold ar1;split
 ·exact .inl rfl
 ·split
  ·exact .inr (.inl rfl)
  ·exact .inr (.inr rfl)
theorem jw4 (a b:Str):cr3 a b=-1\/cr3 a b=0\/cr3 a b=1:=by
 unfold cr3;split
 ·exact .inl rfl
 ·split
  ·exact .inr (.inl rfl)
  ·exact .inr (.inr rfl)
theorem ep7 (a b:Part):af1 a b=-1\/af1 a b=0\/af1 a b=1:=by
 have h:∀k n s:Int,(k=-1\/k=0\/k=1)->(n=-1\/n=0\/n=1)->(s=-1\/s=0\/s=1)->((if k≠0 then k else if n≠0 then n else s)=-1\/(if k≠0 then k else if n≠0 then n else s)=0\/(if k≠0 then k else if n≠0 then n else s)=1):=by
  intro k n s h1 h2 h3;rcases h1 with rfl|rfl|rfl<;>rcases h2 with rfl|rfl|rfl<;>simp<;>exact h3
 refine h (ar1 a.kind b.kind) (if a.kind=5/\b.kind=5 then ar1 a.s.length b.s.length else 0) (cr3 a.s b.s) (hh5 _ _) ?_ (jw4 _ _);split
 ·exact hh5 _ _
 ·exact .inr (.inl rfl)
theorem gg4:∀(l m:List Part),ag2 l m=-1\/ag2 l m=0\/ag2 l m=1:=by
 intro l
 induction l with
 | nil=>intro m;exact .inr (.inl (by rw[ag2];intros;contradiction))
 | cons a l ih=>
  intro m
  cases m with
  | nil=>exact .inr (.inl (by rw[ag2];intros;contradiction))
  | cons b m=>
   rw[ag2];split
   ·exact ep7 a b
   ·exact ih m
theorem fn8 (a b:Str):ap9 a b=-1\/ap9 a b=0\/ap9 a b=1:=gg4 _ _
theorem fn9 (a b:EVR):aq4 a b=-1\/aq4 a b=0\/aq4 a b=1:=by
 unfold aq4;split
 ·exact hh5 _ _
 ·split
  ·exact fn8 _ _
  ·split
   ·exact .inr (.inl rfl)
   ·exact fn8 _ _
def Dep.small (d:Dep):Prop:=0<=d.op/\d.op<256/\EVR.small d.evr
theorem am1 (d:Dep):Bnd 0 (.agg d.cs):=.agg _ λc hc=>by
 simp only[Dep.cs,za,zb,or_false] at hc;rcases hc with rfl|rfl|rfl|rfl|rfl
 ·exact .str _
 ·exact .int _ _
 ·exact .int _ _
 ·exact .str _
 ·exact .str _
theorem fc8 (a b:Dep)(ha:Dep.small a)(hb:Dep.small b):Pq 215 [.agg a.cs,.agg b.cs] (.bool (meet a b)):=by
 refine af4 hE fok215 (nZ rfl) (ak3 (am1 a) (am1 b)) ?_;obtain ⟨a1,a2,a3⟩:=ha;obtain ⟨b1,b2,b3⟩:=hb;have hc:=bn4 a.evr b.evr a3 b3;have h3:=fn9 a.evr b.evr;unfold meet;generalize aq4 a.evr b.evr=n at hc h3;simp only[EVR.cs] at hc;obtain ⟨x,hx⟩:∃x:Nat,a.op=x:=⟨a.op.toNat,om⟩;obtain ⟨y,hy⟩:∃y:Nat,b.op=y:=⟨b.op.toNat,om⟩;have hx2:x<256:=om;have hy2:y<256:=om;have ex7:bo3 x 7=((x &&& 7:Nat):Int):=aq5 x 7 hx2 om;have ey7:bo3 y 7=((y &&& 7:Nat):Int):=aq5 y 7 hy2 om;rw[hx,hy,zd,zd];by_cases hx0:x%8=0
 ·have q:=(and7 x hx2).2 hx0;rw[q] at ex7;have q':bo3 x 7=0:=ex7;simp only[ic215,go_sem,Dep.cs,hx,hy,at1,q',hx0,true_or];exact ab4 _
 ·have q:¬(x &&& 7=0):=λe=>hx0 ((and7 x hx2).1 e)
  have q':¬bo3 x 7=0:=by rw[ex7];omega
  by_cases hy0:y%8=0
  ·have r:=(and7 y hy2).2 hy0;rw[r] at ey7;have r':bo3 y 7=0:=ey7;simp only[ic215,go_sem,Dep.cs,hx,hy,at1,q',r',hy0,or_true];exact ab4 _
  ·have r:¬(y &&& 7=0):=λe=>hy0 ((and7 y hy2).1 e)
   have r':¬bo3 y 7=0:=by rw[ey7];omega
   simp only[ic215,go_sem,Dep.cs,hx,hy,at1,q',r',hx0,hy0,or_self];refine aa4 fok147 hc ?_;have exy:bo3 x y=((x &&& y:Nat):Int):=aq5 x y hx2 hy2;have hxy:x &&& y<256:=qu Nat.and_le_left hx2;have exy7:bo3 ((x &&& y:Nat):Int) 7=((x &&& y &&& 7:Nat):Int):=aq5 _ 7 hxy om;have s1:=hf8 1 (.inr (.inr rfl));have s2:=hf8 (-1) (.inl rfl);have n1:¬((1:Int)<0):=by decide
   have n2:¬((1:Int)=0):=by decide
   have n3:((-1:Int)<0):=by decide
   rw[if_neg n1,if_neg n2] at s1;rw[if_pos n3] at s2;have x1:bo3 x 1=((x &&& 1:Nat):Int):=aq5 x 1 hx2 om;have x4:bo3 x 4=((x &&& 4:Nat):Int):=aq5 x 4 hx2 om;have y1:bo3 y 1=((y &&& 1:Nat):Int):=aq5 y 1 hy2 om;have y4:bo3 y 4=((y &&& 4:Nat):Int):=aq5 y 4 hy2 om;have w1:IntKind.i64.wrap (0 - -1)=1:=by decide
   have w2:IntKind.i64.wrap (0-1)=-1:=by decide
   have bt:∀(k i:Nat),bit (k:Int) i=k.testBit i:=λk i=>by unfold bit;rw[zd]
   have z0:∀k:Nat,((k:Int)=0)↔k=0:=λk=>by omega
   rcases h3 with rfl|rfl|rfl
   ·have g1:side (- -1)=2:=by decide
    have g2:side (-1)=0:=by decide
    have m0:¬((-1:Int)=0):=by decide
    simp only[go_sem,m0,w1,g1,g2,bt];refine ab2 s1 ?_
    cases hb:x.testBit 2 with
    | true=>
     have e:¬bo3 x 4=0:=by rw[x4,z0,iv2 x hx2,hb];simp
     simp only[go_sem,at1,e]
     exact ab4 _
    | false=>
     have e:bo3 x 4=0:=by rw[x4,z0,iv2 x hx2,hb]
     simp only[go_sem,at1,e];refine ab2 s2 ?_
     cases hc:y.testBit 0 with
     | true=>
      have e2:¬bo3 y 1=0:=by rw[y1,z0,and1 y hy2,hc];simp
      simp only[go_sem,at1,e2]
      exact ab4 _
     | false=>
      have e2:bo3 y 1=0:=by rw[y1,z0,and1 y hy2,hc]
      simp only[go_sem,at1,e2];exact ab4 _
   ·simp only[go_sem,at1,exy,exy7,bt]
    have e:(!decide (((x &&& y &&& 7:Nat):Int)=0))=(x.testBit 0&&y.testBit 0||x.testBit 1&&y.testBit 1||x.testBit 2&&y.testBit 2):=by
     by_cases hz:x &&& y &&& 7=0
     ·obtain ⟨t0,t1,t2⟩:=(ef2 _ hxy).1 hz;rw[qb] at t0 t1 t2;rw[hz,t0,t1,t2];rfl
     ·have hz':¬((x &&& y &&& 7:Nat):Int)=0:=λh=>hz om
      have ht:¬((x &&& y).testBit 0=false/\(x &&& y).testBit 1=false/\(x &&& y).testBit 2=false):=λh=>hz ((ef2 _ hxy).2 h)
      rw[qb,qb,qb] at ht;rw[decide_eq_false hz']
      revert ht
      generalize (x.testBit 0&&y.testBit 0)=b0;generalize (x.testBit 1&&y.testBit 1)=b1;generalize (x.testBit 2&&y.testBit 2)=b2;cases b0<;>cases b1<;>cases b2<;>simp
    rw[e];exact ab4 _
   ·have g1:side (-1)=0:=by decide
    have g2:side 1=2:=by decide
    simp only[go_sem,n2,w2,g1,g2,bt];refine ab2 s2 ?_
    cases hb:x.testBit 0 with
    | true=>
     have e:¬bo3 x 1=0:=by rw[x1,z0,and1 x hx2,hb];simp
     simp only[go_sem,at1,e]
     exact ab4 _
    | false=>
     have e:bo3 x 1=0:=by rw[x1,z0,and1 x hx2,hb]
     simp only[go_sem,at1,e];refine ab2 s1 ?_
     cases hc:y.testBit 2 with
     | true=>
      have e2:¬bo3 y 4=0:=by rw[y4,z0,iv2 y hy2,hc];simp
      simp only[go_sem,at1,e2]
      exact ab4 _
     | false=>
      have e2:bo3 y 4=0:=by rw[y4,z0,iv2 y hy2,hc]
      simp only[go_sem,at1,e2];exact ab4 _
theorem bb6 (d:Dep):Bnd 0 (.ab8 d.cs):=.ab8 _ λc hc=>by
 simp only[Dep.cs,za,zb,or_false] at hc;rcases hc with rfl|rfl|rfl|rfl|rfl
 ·exact .str _
 ·exact .int _ _
 ·exact .int _ _
 ·exact .str _
 ·exact .str _
theorem fo1 (a d:Dep)(ha:Dep.small a)(hd:Dep.small d):Pq 183 [.agg a.cs,.agg d.cs] (.bool (meets a d)):=by
 refine af4 hE fok183 (nZ rfl) (ak3 (am1 a) (am1 d)) ?_;have hm:=fc8 a d ha hd;unfold meets;simp only[Dep.cs] at hm;by_cases h:a.name=d.name
 ·simp only[ic183,go_sem,Dep.cs,h] at hm ⊢;refine aa4 fok215 hm ?_;simp only[go_sem];exact ab4 _
 ·simp only[ic183,go_sem,Dep.cs,h];exact ab4 _
theorem hh6 (n:Str)(e:EVR):Pq 216 [.str n,.agg e.cs] (.agg (Dep.cs ⟨n,2,e⟩)):=by
 refine af4 hE fok216 (nZ rfl) (ak3 (.str _) (bx2 e)) ?_;simp only[ic216,go_sem,EVR.cs,Dep.cs]
 exact .keep _ (.agg _ λc hc=>by
  simp only[za,zb,or_false] at hc;rcases hc with rfl|rfl|rfl|rfl|rfl
  ·exact .str _
  ·exact .int _ _
  ·exact .int _ _
  ·exact .str _
  ·exact .str _)
theorem hh7 (p:aa2):Pq 184 [.agg p.cs] (.agg (own p).cs):=by
 refine af4 hE fok184 (nZ rfl) (af3 (aj8 p)) ?_;have ho:=hh6 p.name p.evr;simp only[EVR.cs,Dep.cs] at ho;simp only[ic184,go_sem,aa2.cs,own,Dep.cs];refine aa4 fok216 ho ?_;simp only[go_sem];exact .keep _ (am1 (own p))
def Pkg.small (p:aa2):Prop:=EVR.small p.evr/\(∀d∈p.provides,Dep.small d)/\(∀d∈p.aa7,Dep.small d)/\p.provides.length<2^40/\p.aa7.length<2^40/\p.files.length<2^40
theorem ep8 {p:aa2}(h:Pkg.small p):Dep.small (own p):=⟨by show (0:Int)<=2;decide,by show (2:Int)<256;decide,h.1⟩
theorem ah4 (p:aa2):p.cs.length=15:=rfl
theorem ag7 (p:aa2):p.cs.take 15=p.cs:=rfl
theorem af9 (p:aa2):p.cs.all IV.leaf=true:=rfl
theorem ef3 (p:aa2)(d:Dep)(hp:Pkg.small p)(hd:Dep.small d):Pq 142 [.agg p.cs,.agg d.cs] (.bool (named p d)):=by
 refine af4 hE fok142 (nZ rfl) (ak3 (aj8 p) (am1 d)) ?_;have ho:=hh7 p;have hm:=fo1 (own p) d (ep8 hp) hd;generalize hx:Dep.cs (own p)=x at ho hm;simp only[ic142,go_sem,ah4,ag7,af9,ai8,ag8,af8];refine ab2 ho ?_;simp only[go_sem,ai8,ag8,af8];refine ab2 hm ?_;simp only[go_sem];exact ab4 _
theorem im5 (q:aa2)(d:Dep)(hq:Pkg.small q)(hd:Dep.small d):Pq 221 ([]++[.agg d.cs]++[.ab8 q.cs]) (.bool (named q d)):=by
 refine af4 hE fok221 (nZ rfl) (ak3 (am1 d) (.ab8 _ (au6 q))) ?_;simp only[ic221,go_sem,ah4,ag7,af9,ai8,ag8,af8];refine aa4 fok142 (ef3 q d hq hd) ?_;simp only[go_sem];exact ab4 _
theorem ep9 (p q:aa2)(hp:Pkg.small p)(hq:Pkg.small q):Pq 194 [.agg p.cs,.agg q.cs] (.bool (aa7 p q)):=by
 refine af4 hE fok194 (nZ rfl) (ak3 (aj8 p) (aj8 q)) ?_;have hc:=df9 p.aa7 221 [] [.ab8 q.cs] (λd=>named q d) (by have:=hp.2.2.2.2.1;omega) fok221.1 λd hd=>im5 q d hq (hp.2.2.1 d hd)
 have hf:(p.cs.drop 9).head? = ze (deps p.aa7):=rfl;simp only[ic194,go_sem,af9,hf];refine aa4 fok162 hc ?_;simp only[go_sem];exact ab4 _
theorem hh8 (a d:Dep)(ha:Dep.small a)(hd:Dep.small d):Pq 233 ([]++[.agg a.cs]++[.ab8 d.cs]) (.bool (meets a d)):=by
 refine af4 hE fok233 (nZ rfl) (ak3 (am1 a) (bb6 d)) ?_;simp only[ic233,go_sem,ai8,ag8,af8];refine aa4 fok183 (fo1 a d ha hd) ?_;simp only[go_sem];exact ab4 _
theorem fc9 (l:List Str)(s:Str)(hl:l.length<2^40):Pq 252 [.aa3 (l.map bv8),.str s] (.int .i64 (aj1 (λx=>decide (s=x)) l 0)):=by
 refine ba9 fok252 (nZ rfl) λσ=>?_
 simp only[ic252,go_sem];refine ab1 noT (λi fr t=>t=σ/\fr=[(0,.aa3 (l.map bv8)),(1,.str s),(7,.int .i64 l.length),(8,.int .i64 i)]/\aj1 (λx=>decide (s=x)) l 0=aj1 (λx=>decide (s=x)) (l.drop i) i) l.length ⟨rfl,rfl,rfl⟩ ?_;rintro i fr t hi ⟨rfl,rfl,hf⟩;by_cases hlt:i<l.length
 ·obtain ⟨x,ha,_,hdr,hget,_⟩:=ad2 l i hlt;have c1:(i:Int)<l.length:=om;have c2:(0:Int)<=i:=om;have w1:=ac3 (i:=i) om;rw[hdr,aj1] at hf;by_cases e:s=x
  ·rw[if_pos (by simpa using e)] at hf;subst e;simp only[go_sem,c1,c2,hget,ee5,bv8,hf,and_self]
  ·rw[if_neg (by simpa using e)] at hf;simp only[go_sem,c1,c2,hget,ee5,bv8,e,w1];exact ⟨hlt,by rw[hf];simp only[Int.natCast_add,Int.natCast_one]⟩
 ·have hi':i=l.length:=om;subst hi';have c1:¬(l.length:Int)<l.length:=om;rw[z2] at hf;simp only[go_sem,c1,hf,aj1,and_self]
theorem hh9 (l:List Str)(s:Str)(hl:l.length<2^40):Pq 234 [.aa3 (l.map bv8),.str s] (.bool (l.contains s)):=by
 refine ba9 fok234 (nZ rfl) λσ=>?_
 simp only[ic234,go_sem];refine aa4 fok252 (fc9 l s hl) ?_
 have e:l.any (λx=>decide (s=x))=l.contains s:=by
  induction l with
  | nil=>rfl
  | cons a l ih=>rw[List.any_cons,List.contains_cons,ih (by simp at hl;omega)];congr 1;by_cases h:s=a<;>simp[h]
 simp only[go_sem,ay4,e,and_self]
theorem dg7 (p:aa2)(d:Dep)(hp:Pkg.small p)(hd:Dep.small d):Pq 198 [.agg p.cs,.agg d.cs] (.bool (provides p d)):=by
 refine af4 hE fok198 (nZ rfl) (ak3 (aj8 p) (am1 d)) ?_;have hn:=ef3 p d hp hd;have hc:=df9 p.provides 233 [] [.ab8 d.cs] (λa=>meets a d) (by have:=hp.2.2.2.1;omega) fok233.1 λa ha=>hh8 a d (hp.2.1 a ha) hd
 have hs:=hh9 p.files d.name hp.2.2.2.2.2;have hf:(p.cs.drop 6).head? = ze (deps p.provides):=rfl;have hg:(p.cs.drop 14).head? = ze (strs p.files):=rfl;have d0:d.cs.head? = ze (.str d.name):=rfl;have d1:(d.cs.drop 1).head? = ze (.int .u8 d.op):=rfl;unfold provides
 cases hb:named p d with
 | true=>
  rw[hb] at hn;simp only[ic198,go_sem,ah4,ag7,af9,ai8,ag8,af8];refine aa4 fok142 hn ?_;simp only[go_sem]
  exact ab4 _
 | false=>
  rw[hb] at hn;simp only[ic198,go_sem,ah4,ag7,af9,ai8,ag8,af8];refine aa4 fok142 hn ?_;simp only[go_sem,hf];refine aa4 fok162 hc ?_
  cases ha:p.provides.any (λa=>meets a d) with
  | true=>
   simp only[go_sem]
   exact ab4 _
  | false=>
   by_cases h0:d.op=0
   ·simp only[go_sem,d0,d1,h0,hg];refine aa4 fok234 hs ?_;simp only[go_sem];exact ab4 _
   ·simp only[go_sem,d0,d1,h0];exact ab4 _
theorem dw2 (p:aa2)(n:Int)(d:Dep)(hp:Pkg.small p)(hd:Dep.small d):Pq 197 [.agg p.cs,.int .i64 n,.ab8 d.cs] (.bool (provides p d)):=by
 refine af4 hE fok197 (nZ rfl) (λa ha=>by
  simp only[za,zb,or_false] at ha;rcases ha with rfl|rfl|rfl
  ·exact aj8 p
  ·exact .int _ _
  ·exact bb6 d) ?_
 simp only[ic197,go_sem,ah4,ag7,af9,ai8,ag8,af8];refine aa4 fok198 (dg7 p d hp hd) ?_;simp only[go_sem];exact ab4 _
theorem dg8 (p:aa2)(n:Int)(d:Dep)(hp:Pkg.small p)(hd:Dep.small d):Pq 141 [.agg p.cs,.int .i64 n,.ab8 d.cs] (.bool (named p d)):=by
 refine af4 hE fok141 (nZ rfl) (λa ha=>by
  simp only[za,zb,or_false] at ha;rcases ha with rfl|rfl|rfl
  ·exact aj8 p
  ·exact .int _ _
  ·exact bb6 d) ?_
 simp only[ic141,go_sem,ah4,ag7,af9,ai8,ag8,af8];refine aa4 fok142 (ef3 p d hp hd) ?_;simp only[go_sem];exact ab4 _
theorem eq1 (nm:Nms)(σ:Store)(k:Str):∃v,cj1 σ 2 .aa1 false (.al4 (nmV nm)) (.str k)=ze v/\(v=.aa3 ((ad4 nm k).map Md.ae1)\/v=.aa1/\ad4 nm k=[]):=by
 have h:∀nm:Nms,∃r,ay9 2 (.str k) (nmV nm)=ze r/\((∃v,r=ze v/\v=.aa3 ((ad4 nm k).map Md.ae1))\/r=qm/\ad4 nm k=[]):=by
  intro nm
  induction nm with
  | nil=>exact ⟨qm,rfl,.inr ⟨rfl,rfl⟩⟩
  | cons t ts ih=>
   obtain ⟨r,h1,h2⟩:=ih;simp only[nmV,zw,ay9,dl8,ad4] at h1 ⊢;by_cases e:k=t.1
   ·simp only[e,decide_true,if_true];exact ⟨_,rfl,.inl ⟨_,rfl,rfl⟩⟩
   ·simp only[e,decide_false,if_false];exact ⟨r,h1,h2⟩
 obtain ⟨r,h1,h2⟩:=h nm;rcases h2 with ⟨v,rfl,rfl⟩|⟨rfl,h3⟩
 ·refine ⟨.aa3 ((ad4 nm k).map Md.ae1),?_,.inl rfl⟩;simp only[cj1,cb9,h1];rfl
 ·refine ⟨.aa1,?_,.inr ⟨rfl,h3⟩⟩;simp only[cj1,cb9,h1];rfl
theorem numsOf_at {q:aa2->Bool}{l:List aa2}{n:Int}(h:n∈numsOf q l):∃m:Nat,n=m/\m<l.length:=by
 obtain ⟨m,h1,h2,_⟩:=am5.1 h;exact ⟨m,h1,h2⟩
theorem getD_at (l:List aa2)(m:Nat)(h:m<l.length):l.getD m default=l[m]:=by simp[zh,h]
theorem dg9 (l:List aa2)(d:Dep)(hl:l.length<2^20)(hs:∀p∈l,Pkg.small p)(hd:Dep.small d):Pq 153 [(ad8 l).v,.agg d.cs] (.aa3 ((ag1 l d).map Md.ae1)):=by
 have hi:=bg7 l;have hb:=ar9 (ad8 l);refine af4 hE fok153 (nZ rfl) (ak3 hb (am1 d)) ?_;have hlook:=hi.at5 d.name
 have hsift:∀v,(v=.aa3 ((ad4 (ad8 l).at5 d.name).map Md.ae1)\/v=.aa1/\ad4 (ad8 l).at5 d.name=[])->Pq 140 [(ad8 l).v,v,.func (.func 197) [] [.ab8 d.cs]] (.aa3 ((ag1 l d).map Md.ae1)):=by
  intro v hv
  have h:=he8 (ad8 l) (ad4 (ad8 l).at5 d.name) (by rw[hlook];have:=ae5 (λp=>decide (d.name∈cy5 p)) l;omega) 197 [.ab8 d.cs] (λn=>provides (l.getD n.toNat default) d) (af3 (bb6 d)) fok197.1 (λn hn=>by
   rw[hlook] at hn;obtain ⟨m,rfl,hm⟩:=numsOf_at hn;refine ⟨m,rfl,by rw[hi.all];exact hm,?_⟩;have e:(ad8 l).all[m]'(by rw[hi.all];exact hm)=l[m]:=by simp only[hi.all]
   rw[e,zd,getD_at l m hm];exact dw2 l[m] m d (hs _ (zf hm)) hd)
  rw[cv2] at h;rcases hv with rfl|⟨rfl,h0⟩
  ·exact h
  ·rw[h0] at h;have hw:∀ {v:IV} {σ:Store},Bnd 0 v->Frz σ (λ_=>true=true) v v:=λh=>.keep _ (h.weak λ_ _=>rfl)
   refine ev5 (args':=[(ad8 l).v,.aa3 [],.func (.func 197) [] [.ab8 d.cs]]) rfl (λσ i hi=>?_) h
   match i,hi with
   | 0,_=>exact hw hb
   | 1,_=>exact .bz3
   | 2,_=>exact hw (.func _ _ _ (λc hc=>by cases hc) (af3 (bb6 d)))
 have hx:(ad8 l).v=.ab8 [.aa3 ((ad8 l).all.map aa2.cs),.al4 (nmV (ad8 l).at5),.al4 (nmV (ad8 l).names),.al4 (nmV (ad8 l).over)]:=rfl;have d0:d.cs.head? = ze (.str d.name):=rfl;have hres:=aw5 (ag1 l d)
 have hk0:∀σ:Store,∃v,cj1 σ 2 .aa1 false (.al4 (nmV (ad8 l).at5)) (.str d.name)=ze v/\Pq 140 [(ad8 l).v,v,.func (.func 197) [] [.ab8 d.cs]] (.aa3 ((ag1 l d).map Md.ae1)):=λσ=>
  let ⟨v,h1,h2⟩:=eq1 (ad8 l).at5 σ d.name
  ⟨v,h1,hsift v h2⟩
 clear hsift hlook;rw[hx] at hk0 ⊢;generalize (ad8 l).all.map aa2.cs=a0 at *;simp only[ic153,go_sem,ai8,ag8,af8,d0];obtain ⟨v,hk,hsv⟩:=hk0 ⟨11,emp.obj⟩;simp only[go_sem,hk];refine aa4 fok140 hsv ?_;simp only[go_sem];exact .keep _ hres
theorem ca7 (l:List aa2)(d:Dep)(hl:l.length<2^20)(hs:∀p∈l,Pkg.small p)(hd:Dep.small d):Pq 103 [(ad8 l).v,.agg d.cs] (.aa3 ((ak8 l d).map Md.ae1)):=by
 have hi:=bg7 l;have hb:=ar9 (ad8 l);refine af4 hE fok103 (nZ rfl) (ak3 hb (am1 d)) ?_;have hlook:=hi.names d.name
 have hsift:∀v,(v=.aa3 ((ad4 (ad8 l).names d.name).map Md.ae1)\/v=.aa1/\ad4 (ad8 l).names d.name=[])->Pq 140 [(ad8 l).v,v,.func (.func 141) [] [.ab8 d.cs]] (.aa3 ((ak8 l d).map Md.ae1)):=by
  intro v hv
  have h:=he8 (ad8 l) (ad4 (ad8 l).names d.name) (by rw[hlook];have:=ae5 (λp=>decide (p.name=d.name)) l;omega) 141 [.ab8 d.cs] (λn=>named (l.getD n.toNat default) d) (af3 (bb6 d)) fok141.1 (λn hn=>by
   rw[hlook] at hn;obtain ⟨m,rfl,hm⟩:=numsOf_at hn;refine ⟨m,rfl,by rw[hi.all];exact hm,?_⟩;have e:(ad8 l).all[m]'(by rw[hi.all];exact hm)=l[m]:=by simp only[hi.all]
   rw[e,zd,getD_at l m hm];exact dg8 l[m] m d (hs _ (zf hm)) hd)
  rw[fg9] at h;rcases hv with rfl|⟨rfl,h0⟩
  ·exact h
  ·rw[h0] at h;have hw:∀ {v:IV} {σ:Store},Bnd 0 v->Frz σ (λ_=>true=true) v v:=λh=>.keep _ (h.weak λ_ _=>rfl)
   refine ev5 (args':=[(ad8 l).v,.aa3 [],.func (.func 141) [] [.ab8 d.cs]]) rfl (λσ i hi=>?_) h
   match i,hi with
   | 0,_=>exact hw hb
   | 1,_=>exact .bz3
   | 2,_=>exact hw (.func _ _ _ (λc hc=>by cases hc) (af3 (bb6 d)))
 have hx:(ad8 l).v=.ab8 [.aa3 ((ad8 l).all.map aa2.cs),.al4 (nmV (ad8 l).at5),.al4 (nmV (ad8 l).names),.al4 (nmV (ad8 l).over)]:=rfl;have d0:d.cs.head? = ze (.str d.name):=rfl;have hres:=aw5 (ak8 l d)
 have hk0:∀σ:Store,∃v,cj1 σ 2 .aa1 false (.al4 (nmV (ad8 l).names)) (.str d.name)=ze v/\Pq 140 [(ad8 l).v,v,.func (.func 141) [] [.ab8 d.cs]] (.aa3 ((ak8 l d).map Md.ae1)):=λσ=>
  let ⟨v,h1,h2⟩:=eq1 (ad8 l).names σ d.name
  ⟨v,h1,hsift v h2⟩
 clear hsift hlook;rw[hx] at hk0 ⊢;generalize (ad8 l).all.map aa2.cs=a0 at *;simp only[ic103,go_sem,ai8,ag8,af8,d0];obtain ⟨v,hk,hsv⟩:=hk0 ⟨11,emp.obj⟩;simp only[go_sem,hk];refine aa4 fok140 hsv ?_;simp only[go_sem];exact .keep _ hres
structure jh3 (repos:List ao2) (inst:List aa2):Prop where
 r1:repos.length<2^20
 i1:inst.length<2^20
 s1:am8 repos<2^40
 rf:∀r∈repos,ao2.Fit r
 pf:∀p∈inst,p.Fit
 ro:∀r∈repos,ao2.Ok r
 po:∀p∈inst,p.Ok
theorem gg5 {p:aa2}(h:p.Tiny):Pkg.small p:=by
 have e:∀v:EVR,v.tiny->EVR.small v:=λv hv=>⟨by have:=hv.1;omega,by have:=hv.2;omega⟩
 refine ⟨e _ h.evr,λd hd=>?_,λd hd=>?_,?_,?_,?_⟩
 ·obtain ⟨a,b,c,_⟩:=h.at5.2 d hd;exact ⟨a,b,e _ c⟩
 ·obtain ⟨a,b,c,_⟩:=h.obs.2 d hd;exact ⟨a,b,e _ c⟩
 ·have:=h.at5.1;omega
 ·have:=h.obs.1;omega
 ·have:=h.files;omega
theorem iv3 {repos:List ao2}{inst:List aa2}{p:Pool}(hI:jh3 repos inst)(h:ce4 repos inst=.inl p):∀x∈ac1 p,x.Fit/\Pkg.small x/\x.Tiny:=by
 intro x hx;obtain ⟨h1,h2⟩:=fh2 h x hx;refine ⟨?_,gg5 (fh5 h1),fh5 h1⟩;rcases h2 with h2|⟨r,hr,h2⟩
 ·exact hI.pf x h2
 ·exact (hI.rf r hr).2 x h2
theorem jh4 (x:Index)(n:Int):Pq 192 [x.v,.int .i64 n] (.bool (decide (0<=n)&&decide (n<x.all.length))):=by
 refine af4 hE fok192 (nZ rfl) (ak3 (ar9 x) (.int _ _)) ?_;have hx:x.v=.ab8 [.aa3 (x.all.map aa2.cs),.al4 (nmV x.at5),.al4 (nmV x.names),.al4 (nmV x.over)]:=rfl;have hnil:∀(d:TypeId) (cs:List IV) (c:IV),ct9 (.pointer d) (.ab8 (c::cs))=ze false:=λ_ _ _=>rfl
 rw[hx];have hlen:(x.all.map aa2.cs).length=x.all.length:=zc ..;generalize x.all.map aa2.cs=es at *;generalize x.all.length=k at *;by_cases h1:0<=n
 ·by_cases h2:n<(k:Nat)
  ·have h2':n<(es.length:Nat):=om;simp only[ic192,go_sem,hnil,h1,h2,h2',hlen,Bool.and_self];exact ab4 _
  ·have h2':¬n<(es.length:Nat):=om;simp only[ic192,go_sem,hnil,h1,h2,h2',hlen,Bool.and_false];exact ab4 _
 ·simp only[ic192,go_sem,hnil,h1,Bool.false_and];exact ab4 _
theorem hi6 (l:List aa2)(m n:Nat)(hm:m<l.length)(hn:n<l.length)(hs:∀p∈l,Pkg.small p) :
  Pq 193 [.agg l[m].cs,.int .i64 m,.ab8 [.int .i64 n],.ab8 [(ad8 l).v]] (.bool (decide (m≠n)&&aa7 l[m] l[n])):=by
 refine af4 hE fok193 (nZ rfl) (λa ha=>by
  simp only[za,zb,or_false] at ha;rcases ha with rfl|rfl|rfl|rfl
  ·exact aj8 _
  ·exact .int _ _
  ·exact .ab8 _ (af3 (.int _ _))
  ·exact .ab8 _ (af3 (ar9 _))) ?_
 have hx:(ad8 l).v=.ab8 [.aa3 (l.map aa2.cs),.al4 (nmV (ad8 l).at5),.al4 (nmV (ad8 l).names),.al4 (nmV (ad8 l).over)]:=by
  show IV.ab8 [.aa3 ((ad8 l).all.map aa2.cs),_,_,_]=_;rw[(bg7 l).all]
 have ho:=ep9 l[m] l[n] (hs _ (zf hm)) (hs _ (zf hn));have hg:(l.map aa2.cs).getD n []=l[n].cs:=by simp[zh,hn]
 have hl:(l.map aa2.cs).length=l.length:=zc ..;rw[hx];generalize l.map aa2.cs=es at *;by_cases e:m=n
 ·have e':(m:Int)=n:=om;simp only[ic193,go_sem,ah4,ag7,af9,e',e,ne_eq,not_true_eq_false,decide_false,Bool.false_and];exact ab4 _
 ·have e':¬(m:Int)=n:=om;have c1:(0:Int)<=n:=om;have c2:(n:Int)<es.length:=om;simp only[ic193,go_sem,ah4,ag7,af9,e',e,c1,c2,hg,ne_eq,not_false_eq_true,decide_true,Bool.true_and];refine aa4 fok194 ho ?_;simp only[go_sem];exact ab4 _
def al9 (l:List aa2)(n:Nat):List Int:=(ad4 (ad8 l).over (l.getD n default).name).filter λk=>decide (k.toNat≠n)&&aa7 (l.getD k.toNat default) (l.getD n default)
theorem dh1 {l:List aa2}{n:Nat}{k:Int}:k∈al9 l n↔∃m:Nat,k=m/\m<l.length/\m≠n/\aa7 (l.getD m default) (l.getD n default)=true:=by
 unfold al9;rw[(bg7 l).over,List.mem_filter];constructor
 ·rintro ⟨h1,h2⟩;obtain ⟨m,rfl,h3,_⟩:=am5.1 h1;simp only[zd,z6,decide_eq_true_eq] at h2;exact ⟨m,rfl,h3,h2.1,h2.2⟩
 ·rintro ⟨m,rfl,h1,h2,h3⟩;refine ⟨am5.2 ⟨m,rfl,h1,?_⟩,?_⟩
  ·obtain ⟨d,h4,h5⟩:=List.any_eq_true.1 h3;refine decide_eq_true ⟨d,h4,?_⟩;simp only[named,meets,z6,decide_eq_true_eq] at h5;exact h5.1.symm
  ·simp only[zd,z6,decide_eq_true_eq];exact ⟨h2,h3⟩
theorem dh2 (l:List aa2)(n:Nat):(al9 l n).length<=l.length:=by
 unfold al9;rw[(bg7 l).over];exact zn (qn _ _) (ae5 _ _)
abbrev iv (n:Int):IV:=.int .i64 n
theorem hi8 {id n k:Nat}(h:k<=n):dk9 1 (ze (.int .i64 (k:Int))) qm (.slice id 0 n 1)=ze (.slice id k (n-k) 1):=by
 have e:(0:Int)<=k:=om;simp[dk9,cw3,es7,e,h]
theorem iv4 {id n k:Nat}(h:k<=n):dk9 1 qm (ze (.int .i64 (k:Int))) (.slice id 0 n 1)=ze (.slice id 0 k 1):=by
 have e:(0:Int)<=k:=om;simp[dk9,cw3,es7,e,h]
theorem cv9 {zs:List Int}{p:Nat}(h:p+1<zs.length)(x:Int):x∈zs.take (p+1+1)↔x∈zs.take (p+1)\/x=zs[p+1]:=by
 rw[qe (i:=p+1),zr h,qk];simp[Option.toList]
theorem cw1 {zs:List Int}{p:Nat}(h:p+1<zs.length)(e:zs[p+1]=zs[p])(x:Int):x∈zs.take (p+1)↔x∈zs.take (p+1+1):=by
 rw[cv9 h];refine ⟨.inl,λq=>q.elim (λq=>q) λq=>?_⟩;rw[q,e];exact qc.2 ⟨p,by rw[zj];omega,by rw[qf]⟩
theorem eq2 {cs vs:List IV}{k:Nat}(h:k<=cs.length):(be4 cs k vs).take k=cs.take k:=by
 unfold be4;rw[qw,zo (by rw[zj];omega),List.take_take,Nat.min_self]
theorem dw3 {cs:List IV}{v:IV}{k:Nat}(h:k<=cs.length):(be4 cs k [v]).take (k+1)=cs.take k++[v]:=by
 unfold be4;have e:(cs.take k++[v]).length=k+1:=by rw[zl,zj,zz];omega
 rw[zo om,z7 om]
theorem dw4 {cs:List IV}{v:IV}{k q:Nat}(h:k<q)(hk:k<=cs.length):(be4 cs k [v]).drop q=cs.drop q:=by
 unfold be4;have e:(cs.take k++[v]).length=k+1:=by rw[zl,zj,zz];omega
 rw[List.drop_append,e,zy om,List.nil_append,List.drop_drop,zz];congr 1;omega
theorem jw5 {pt:PT}{ct:CT}{P:Program}{E:Nat->IV}{e id:Nat}{z:List IV}{x:IX}{fr:Frm}{σ:Store}{K:IV->Store->Prop}:opT pt ct P E (.clr e z x) id fr σ K=bs8 (gm4 σ e z (x.ev E fr)) λσ'=>σ'.next=σ.next/\K .undef σ':=rfl
theorem hj4 {σ:Store}{id k n:Nat}{cs:List IV}(ho:σ.obj id=ze (.row cs))(h1:k<n)(h2:n<=cs.length):gm4 σ 1 [.int .i64 0] (.slice id k (n-k) 1)=ze (σ.put id (.row (be4 cs k (rep [.int .i64 0] (n-k))))):=by
 have e1:¬n-k=0:=om;have e2:k+(n-k)*1<=cs.length:=om;unfold gm4;simp only[e1,if_false,ho,e2,true_and];rfl
structure kl8 (R:Int->Int->Prop) (σ:Store) (id:Nat) (zs:List Int) (v:IV) (s:Store):Prop where
 out:∃(D:List Int) (cs:List IV),D.Pairwise R/\(∀x,x∈D↔x∈zs)/\v=.slice id 0 D.length 1/\s.obj id=ze (.row cs)/\cs.take D.length=D.map iv/\D.length<=cs.length
 next:σ.next<=s.next
 other:∀i,i≠id->s.obj i=σ.obj i
theorem gg6 {R:Int->Int->Prop}{σ:Store}{id:Nat}{zs:List Int}{tl:List IV}(hT:∀a∈zs,∀b∈zs,∀c∈zs,R a b->R b c->R a c)(hz:zs.length<2^40)(ho:σ.obj id=ze (.row (zs.map iv++tl)))(hs:zs.Pairwise λa b=>a=b\/R a b) :
  Cq 151 [.slice id 0 zs.length 1] σ (kl8 R σ id zs):=by
 refine C_f fok151 (nZ rfl) ?_;by_cases h2:(zs.length:Int)<2
 ·simp only[ic151,go_sem,h2];refine ⟨⟨zs,zs.map iv++tl,?_,λ_=>Iff.rfl,rfl,ho,by rw[zo (by simp),z7 (by simp)],by simp⟩,zg _,λ_ _=>rfl⟩
  match zs,h2 with
  | [],_=>exact .nil
  | [a],_=>simp
  | a::b::l,h2=>simp only[zm] at h2;omega
 simp only[ic151,go_sem,h2];refine ab1 noT (λi fr t=>(t.obj=σ.obj/\σ.next<=t.next)/\fr=[(0,.slice id 0 zs.length 1),(3,.int .i64 ((i+1:Nat):Int))]/\i+1<=zs.length/\(zs.take (i+1)).Pairwise R) zs.length ⟨⟨rfl,zg _⟩,rfl,om,?_⟩ ?_
 ·cases zs with
  | nil=>exact .nil
  | cons a l=>simp
 rintro i fr t hi ⟨⟨hob,hnx⟩,rfl,hle,hpw⟩;have hot:t.obj id=ze (.row (zs.map iv++tl)):=by rw[hob];exact ho
 have hh:∀(j:Nat) (h:j<zs.length),((zs.map iv++tl).drop j).head? = ze (.int .i64 zs[j]):=λj h=>by simp[List.head?_drop,List.getElem?_append_left,h]
 have hml:zs.length<=(zs.map iv++tl).length:=by rw[zl,zc];omega
 by_cases hlt:i+1<zs.length
 ·have c1:((i+1:Nat):Int)<zs.length:=om;have c2:(0:Int)<=((i+1:Nat):Int):=om;have c3:IntKind.i64.wrap (((i+1:Nat):Int)-1)=(i:Int):=by rw[wrap64 om om];omega
  have c4:(0:Int)<=(i:Int):=om;have c5:(i:Int)<zs.length:=om;have w1:=ac3 (i:=i+1) om;have g1:=hh (i+1) hlt;have g2:=hh i om;have hle2:zs[i]=zs[i+1]\/R zs[i] zs[i+1]:=zv.1 hs i (i+1) om hlt om;by_cases e:zs[i+1]=zs[i]'om
  ·simp only[go_sem,c1,c2,c3,c4,c5,hot,g1,g2,e,zd,qa,qj,w1,hi8 (show i+1<=zs.length by omega)]
   refine ab1 noT (λj fr t=>∃(k:Nat) (cs:List IV) (D:List Int),fr=[(0,.slice id 0 zs.length 1),(3,.int .i64 (k:Int)),(4,.slice id (i+1) (zs.length-(i+1)) 1),(5,.int .i64 ((j+1:Nat):Int))] /\
    (σ.next<=t.next/\∀q,q≠id->t.obj q=σ.obj q)/\t.obj id=ze (.row cs)/\zs.length<=cs.length/\k<=i+1+j/\i+1+j<zs.length/\D.length=k/\cs.take k=D.map iv/\D.Pairwise R/\(∀x,x∈D↔x∈zs.take (i+1+j+1)) /\
    ∀(q:Nat) (h:q<zs.length),k<=q->(cs.drop q).head? = ze (.int .i64 zs[q])) (zs.length-(i+1)) ?_ ?_
   ·refine ⟨i+1,zs.map iv++tl,zs.take (i+1),rfl,⟨by show σ.next<=t.next+10;omega,λq _=>by rw[hob]⟩,hot,hml,om,om,by rw[zj];omega,by rw[zo (by rw[zc];omega),List.map_take],hpw,λx=>?_,λq h _=>hh q h⟩;exact cw1 (p:=i) hlt e x
   rintro j fr u hj ⟨k,cs,D,rfl,⟨un,uo⟩,hoc,hcl,hk1,hk2,hDl,hDt,hDp,hDm,hcs⟩;by_cases hl2:j+1<zs.length-(i+1)
   ·have d1:((j+1:Nat):Int)<(zs.length-(i+1):Nat):=om;have d2:(0:Int)<=((j+1:Nat):Int):=om;have d3:IntKind.i64.wrap (((j+1:Nat):Int)-1)=(j:Int):=by rw[wrap64 om om];omega
    have d4:(0:Int)<=(j:Int):=om;have d5:(j:Int)<(zs.length-(i+1):Nat):=om;have d6:(0:Int)<=(k:Int):=om;have d7:(k:Int)<zs.length:=om;have d8:k+1<=cs.length:=om;have w2:=ac3 (i:=j+1) om;have w3:=ac3 (i:=k) om;have f1:=hcs (i+1+(j+1)) om om;have f2:=hcs (i+1+j) om om;by_cases e2:zs[i+1+(j+1)]=zs[i+1+j]
    ·simp only[go_sem,d1,d2,d3,d4,d5,hoc,f1,f2,e2,zd,qa,qj,w2];exact ⟨om,k,cs,D,rfl,⟨om,uo⟩,rfl,hcl,om,om,hDl,hDt,hDp,λx=>(hDm x).trans (cw1 (p:=i+1+j) om e2 x),hcs⟩
    ·simp only[go_sem,d1,d2,d3,d4,d5,d6,d7,d8,hoc,f1,f2,e2,zd,qa,qj,w2,w3];have hle3:zs[i+1+j]=zs[i+1+(j+1)]\/R zs[i+1+j] zs[i+1+(j+1)]:=zv.1 hs (i+1+j) (i+1+(j+1)) om om om;have hn:=cv9 (zs:=zs) (p:=i+1+j) om;have hR3:R zs[i+1+j] zs[i+1+(j+1)]:=hle3.elim (λq=>absurd q.symm e2) λq=>q
     have hlt3:∀x∈D,R x zs[i+1+(j+1)]:=by
      intro x hx;obtain ⟨q,hq,rfl⟩:=qc.1 ((hDm x).1 hx);rw[zj] at hq;rw[qf];by_cases hqe:q=i+1+j
      ·subst hqe;exact hR3
      ·rcases zv.1 hs q (i+1+j) om om om with h|h
       ·rw[h];exact hR3
       ·exact hT _ (zf _) _ (zf _) _ (zf _) h hR3
     have hb1:σ.next<=u.next+10:=om;refine ⟨om,k+1,be4 cs k [.int .i64 zs[i+1+(j+1)]],D++[zs[i+1+(j+1)]],rfl,⟨hb1,λq hq=>by rw[if_neg hq];exact uo q hq⟩,rfl,?_,om,om,by rw[zl,hDl];rfl,?_,?_,λx=>?_,λq h hq=>?_⟩
     ·rw[ah3 (by rw[zz];omega)];exact hcl
     ·rw[dw3 om,hDt,zk];rfl
     ·exact qo.2 ⟨hDp,by simp,λa ha b hb=>by
       simp only[za,zb,or_false] at hb;subst hb;exact hlt3 a ha⟩
     ·rw[qk,hDm x];refine Iff.trans ?_ (hn x).symm;simp only[za,zb,or_false];exact Iff.rfl
     ·rw[dw4 om om];exact hcs q h om
   ·have d1:¬((j+1:Nat):Int)<(zs.length-(i+1):Nat):=om;have hkn:k<zs.length:=om;have hj':i+1+j+1=zs.length:=om;rw[hj',zp] at hDm;simp only[go_sem,d1,hi8 (show k<=zs.length by omega),iv4 (show k<=zs.length by omega),hoc,jw5,hj4 hoc hkn om];have hrl:(rep [IV.int .i64 0] (zs.length-k)).length=zs.length-k:=by rw[ar3];simp
    refine ⟨⟨D,be4 cs k (rep [IV.int .i64 0] (zs.length-k)),hDp,hDm,by rw[hDl],by simp only[aa5,if_true],by rw[hDl,eq2 om];exact hDt,?_⟩,un,λq hq=>?_⟩
    ·rw[ah3 (by rw[hrl];omega),hDl];omega
    ·simp only[aa5,if_neg hq];exact uo q hq
  ·simp only[go_sem,c1,c2,c3,c4,c5,hot,g1,g2,e,zd,qa,qj,w1];refine ⟨om,⟨hob,by show σ.next<=_;omega⟩,om,?_⟩;rw[qe,zr hlt,qo];refine ⟨hpw,by simp,λa ha b hb=>?_⟩;simp only[Option.toList,za,zb,or_false] at hb;subst hb;obtain ⟨j,hj,rfl⟩:=qc.1 ha;rw[zj] at hj;rw[qf];have hR2:R zs[i] zs[i+1]:=hle2.elim (λq=>absurd q.symm e) λq=>q
   by_cases hji:j=i
   ·subst hji;exact hR2
   ·rcases zv.1 hs j i om om om with h|h
    ·rw[h];exact hR2
    ·exact hT _ (zf _) _ (zf _) _ (zf _) h hR2
 ·have hi':i+1=zs.length:=om;have c1:¬((i+1:Nat):Int)<zs.length:=om;simp only[go_sem,c1];rw[hi',zp] at hpw;exact ⟨⟨zs,zs.map iv++tl,hpw,λ_=>Iff.rfl,rfl,hot,by rw[zo (by simp),z7 (by simp)],by simp⟩,hnx,λj _=>by rw[hob]⟩
abbrev Cmp:=kl8 (· < ·)
theorem hj5 {σ:Store}{id:Nat}{zs:List Int}(hz:zs.length<2^40)(ho:σ.obj id=ze (.row (zs.map iv)))(hs:zs.Pairwise (·<=·)) :
  Cq 151 [.slice id 0 zs.length 1] σ (Cmp σ id zs):=
 gg6 (tl:=[]) (λ_ _ _ _ _ _ h h2=>Int.lt_trans h h2) hz (by rw[List.append_nil];exact ho) (hs.imp λh=>om)
open Go Go.Id Go.Proofs Go.Shelf
def kx4:Go.Shelf.Ren where
 f:=λn=>(List.lookup n [(0,0),(1,1),(2,2),(99,128),(107,90),(108,130),(109,252),(110,234),(119,280),(122,188),(125,196),(128,231),(129,232),(137,126),(151,271),(152,277),(161,256),(171,236),(189,150),(197,270),(206,173),(215,218),(216,228),(217,172),(224,281),(225,282),(227,262),(228,269),(231,261),(233,263),(235,264),(243,253),(246,260),(257,195),(260,276),(266,206),(283,265),(284,266),(285,267),(286,268),(294,222),(295,223),(296,224),(297,225),(298,226),(299,227),(300,229),(301,230),(317,272),(318,273),(319,274),(320,275),(328,247),(329,248),(330,249),(331,250),(332,251),(336,258),(337,278),(338,279),(343,259),(347,283),(348,284),(349,285),(350,286),(351,287),(352,288),(353,289),(354,290),(355,291),(356,292),(357,293),(358,294),(359,295),(360,296),(361,297),(366,300),(367,310)]).getD 0
 t:=λn=>(List.lookup n [(0,0),(1,1),(2,2),(3,3),(4,4),(5,5),(7,7),(8,8),(9,9),(10,10),(11,11),(12,12),(13,13),(14,14),(15,15),(16,16),(17,17),(18,18),(20,20),(21,21),(22,189),(23,278),(27,169),(28,50),(29,157),(30,106),(31,60),(32,275),(33,259),(35,200),(36,237),(37,292),(40,307),(41,113),(43,225),(46,228),(47,227),(51,256),(52,255),(53,258),(54,257),(55,187),(63,297),(64,302),(80,310),(81,42),(83,263),(84,282),(102,182),(104,150),(105,295),(106,296),(111,90),(112,91),(114,298),(115,284),(116,285),(117,286),(118,287),(119,303),(122,283),(123,288),(124,289),(127,319),(131,104),(134,226),(137,304),(139,306),(164,325),(171,290),(172,291),(173,293),(174,294),(181,248),(182,249),(183,250),(184,251),(185,252),(186,253),(187,254),(211,299),(212,300),(213,301),(214,230),(218,269),(219,270),(220,271),(221,272),(222,273),(223,274),(228,279),(229,280),(230,281),(232,308),(233,309),(238,311),(239,312),(240,313),(241,314),(242,315),(245,318),(248,322)]).getD 0
 g:=λn=>n
theorem jw6:Lays.n189 Tryz.prog kx4 where
 mixed:=by kernel_rfl
 f125:=Tryz.func196.trans (congrArg ze (by kernel_rfl))
 f128:=Tryz.func231.trans (congrArg ze (by kernel_rfl))
 f129:=Tryz.func232.trans (congrArg ze (by kernel_rfl))
 f189:=Tryz.func150.trans (congrArg ze (by kernel_rfl))
 f215:=Tryz.func218.trans (congrArg ze (by kernel_rfl))
 f216:=Tryz.func228.trans (congrArg ze (by kernel_rfl))
 f257:=Tryz.func195.trans (congrArg ze (by kernel_rfl))
 f294:=Tryz.func222.trans (congrArg ze (by kernel_rfl))
 f295:=Tryz.func223.trans (congrArg ze (by kernel_rfl))
 f296:=Tryz.func224.trans (congrArg ze (by kernel_rfl))
 f297:=Tryz.func225.trans (congrArg ze (by kernel_rfl))
 f298:=Tryz.func226.trans (congrArg ze (by kernel_rfl))
 f299:=Tryz.func227.trans (congrArg ze (by kernel_rfl))
 f300:=Tryz.func229.trans (congrArg ze (by kernel_rfl))
 f301:=Tryz.func230.trans (congrArg ze (by kernel_rfl))
 f328:=Tryz.func247.trans (congrArg ze (by kernel_rfl))
 f329:=Tryz.func248.trans (congrArg ze (by kernel_rfl))
 f330:=Tryz.func249.trans (congrArg ze (by kernel_rfl))
 f331:=Tryz.func250.trans (congrArg ze (by kernel_rfl))
 f332:=Tryz.func251.trans (congrArg ze (by kernel_rfl))
 f343:=Tryz.func259.trans (congrArg ze (by kernel_rfl))
 t0:=by kernel_rfl
 a0:=Tryz.isAgg0
 z0:=λ_=>by kernel_rfl
 v0:=λ_=>by kernel_rfl
 t3:=by kernel_rfl
 a3:=Tryz.isAgg3
 z3:=λ_=>by kernel_rfl
 v3:=λ_=>by kernel_rfl
 t4:=by kernel_rfl
 a4:=Tryz.isAgg4
 z4:=λ_=>by kernel_rfl
 v4:=λ_=>by kernel_rfl
 t5:=by kernel_rfl
 a5:=Tryz.isAgg5
 z5:=λ_=>by kernel_rfl
 v5:=λ_=>by kernel_rfl
 t9:=by kernel_rfl
 a9:=Tryz.isAgg9
 z9:=λ_=>by kernel_rfl
 v9:=λ_=>by kernel_rfl
 t28:=by kernel_rfl
 a28:=Tryz.isAgg50
 z28:=λ_=>by kernel_rfl
 v28:=λ_=>by kernel_rfl
 t46:=by kernel_rfl
 a46:=Tryz.isAgg228
 z46:=λ_=>by kernel_rfl
 v46:=λ_=>by kernel_rfl
 t51:=by kernel_rfl
 a51:=Tryz.isAgg256
 z51:=λ_=>by kernel_rfl
 v51:=λ_=>by kernel_rfl
 t53:=by kernel_rfl
 a53:=Tryz.isAgg258
 z53:=λ_=>by kernel_rfl
 v53:=λ_=>by kernel_rfl
 t131:=by kernel_rfl
 a131:=Tryz.isAgg104
 z131:=λ_=>by kernel_rfl
 v131:=λ_=>by kernel_rfl
 t182:=by kernel_rfl
 a182:=Tryz.isAgg249
 z182:=λ_=>by kernel_rfl
 v182:=λ_=>by kernel_rfl
 t183:=by kernel_rfl
 a183:=Tryz.isAgg250
 z183:=λ_=>by kernel_rfl
 v183:=λ_=>by kernel_rfl
 t218:=by kernel_rfl
 a218:=Tryz.isAgg269
 z218:=λ_=>by kernel_rfl
 v218:=λ_=>by kernel_rfl
 t222:=by kernel_rfl
 a222:=Tryz.isAgg273
 z222:=λ_=>by kernel_rfl
 v222:=λ_=>by kernel_rfl
 t228:=by kernel_rfl
 a228:=Tryz.isAgg279
 z228:=λ_=>by kernel_rfl
 v228:=λ_=>by kernel_rfl
 t229:=by kernel_rfl
 a229:=Tryz.isAgg280
 z229:=λ_=>by kernel_rfl
 v229:=λ_=>by kernel_rfl
def jh5 (l:List Int):List Int:=l.mergeSort λx y=>decide (x<=y)
theorem gg7 {σ:Store}{id:Nat}{zs:List Int}(hz:zs.length<4611686018427387904)(ho:σ.obj id=ze (.row (zs.map (IV.int .i64)))) :
  Cq 150 [.slice id 0 zs.length 1] σ λv s=>v=.tuple []/\s=σ.put id (.row ((jh5 zs).map (IV.int .i64))):=
 ja5 (enc:=Value.int .i64) (en:=IV.int .i64) (srt:=jh5) (λ_ _ x=>.int _ _) (λ_ _ x r h=>by cases h;rfl) (λl=>List.length_mergeSort l) (by unfold jh5;rw[List.mergeSort_nil])
  (λblk off cap zs w h1 h2 h3=>Any.slices_Sort_int jw6 blk off cap zs w h1 h2 h3) (λp cap w=>Any.slices_Sort_int_none jw6 p cap w) hz ho
open Go Go.Id Go.Proofs Go.Shelf Go.Id.Md
theorem hj6:∀ {a b:List Int},a.Pairwise (· < ·)->b.Pairwise (· < ·)->(∀x,x∈a↔x∈b)->a=b:=by
 intro a
 induction a with
 | nil=>
  intro b _ _ h
  cases b with
  | nil=>rfl
  | cons y b=>exact absurd ((h y).2 (z1 ..)) (by simp)
 | cons x a ih=>
  intro b ha hb h
  cases b with
  | nil=>exact absurd ((h x).1 (z1 ..)) (by simp)
  | cons y b=>
   obtain ⟨a1,a2⟩:=qr.1 ha;obtain ⟨b1,b2⟩:=qr.1 hb
   have e:x=y:=by
    rcases za.1 ((h x).1 (z1 ..)) with e|e
    ·exact e
    ·have l1:=b1 x e;rcases za.1 ((h y).2 (z1 ..)) with e2|e2
     ·exact e2.symm
     ·have l2:=a1 y e2;omega
   subst e;rw[ih a2 b2 λz=>?_];constructor
   ·intro hz;have l1:=a1 z hz;rcases za.1 ((h z).1 (qp _ hz)) with e|e
    ·omega
    ·exact e
   ·intro hz;have l1:=b1 z hz;rcases za.1 ((h z).2 (qp _ hz)) with e|e
    ·omega
    ·exact e
end Go.Id.Tryz
namespace Go.Id
open Go Go.Id
end Go.Id
namespace Go.Id.Tryz
open Go Go.Id Go.Proofs Go.Shelf Go.Id.Md
open Go Go.Id Go.Proofs Go.Id.Md
def mP (name:Str)(at5 obs:List Dep)(files:List Str):aa2:={ name:=name,evr:=⟨0,[49],[49]⟩,ap7:=1,vendor:=[],provides:=at5,requires:=[],conflicts:=[],aa7:=obs,ar4:=[],ap5:=[],suggests:=[],bb4:=[],files:=files }
def dP (name:Str)(op:Int)(ver:Str):Dep:=⟨name,op,⟨0,ver,[]⟩⟩
def cP (name:Str)(at5 obs files:IV):List IV:=[.str name,.int .i64 0,.str [49],.str [49],.int .u8 1,.str [],at5,.aa1,.aa1,obs,.aa1,.aa1,.aa1,.aa1,files]
def mA:aa2:=mP [97] [] [] []
def mB:aa2:=mP [98] [dP [97] 2 [50]] [dP [97] 1 [50]] []
def mC:aa2:=mP [99] [] [] [[47,102]]
def mT:aa2:=mP [97] [dP [97] 2 [51],dP [97] 2 [52],dP [97] 0 []] [dP [97] 0 [],dP [98] 0 [],dP [98] 1 [57]] []
def mD:aa2:=mP [98] [] [] []
def cA:List IV:=cP [97] .aa1 .aa1 .aa1
def cB:List IV:=cP [98] (deps [dP [97] 2 [50]]) (deps [dP [97] 1 [50]]) .aa1
def cC:List IV:=cP [99] .aa1 .aa1 (strs [[47,102]])
def cT:List IV:=cP [97] (deps [dP [97] 2 [51],dP [97] 2 [52],dP [97] 0 []]) (deps [dP [97] 0 [],dP [98] 0 [],dP [98] 1 [57]]) .aa1
def cD:List IV:=cP [98] .aa1 .aa1 .aa1
theorem jw7 {name:Str}{at5 obs:List Dep}{files:List Str}(h1:name.length<100)(h2:at5.length<100)(h3:obs.length<100)(h4:files.length<100)(h5:(at5++obs).all (λd=>decide (d.name.length<100)&&decide (d.evr.ver.length<100)&&decide (d.evr.rel.length<100))=true)(h6:files.all (λs=>decide (s.length<100))=true):(mP name at5 obs files).Fit:=by
 have hd:∀d∈at5++obs,d.fit:=λd hd=>by
  have:=List.all_eq_true.1 h5 d hd;simp only[z6,decide_eq_true_eq] at this;exact ⟨om,by show d.evr.ver.length<_;omega,by show d.evr.rel.length<_;omega⟩
 refine ⟨by show name.length<_;omega,⟨by show ([49]:Str).length<2^62;decide,by show ([49]:Str).length<2^62;decide⟩,⟨by show at5.length<_;omega,λd h=>hd d (List.mem_append_left _ h)⟩,⟨by show obs.length<_;omega,λd h=>hd d (List.mem_append_right _ h)⟩,⟨by show files.length<_;omega,λs h=>by have:=List.all_eq_true.1 h6 s h;simp only[decide_eq_true_eq] at this;omega⟩,λx hx=>?_⟩;simp only[aa2.rows,mP,za,zb,or_false] at hx;rcases hx with rfl|rfl|rfl|rfl|rfl|rfl<;>exact ⟨by decide,λr h=>by cases h⟩
theorem dh3:∀p∈[mA,mB,mC,mT,mD],p.Fit:=by
 intro p hp;simp only[za,zb,or_false] at hp;rcases hp with rfl|rfl|rfl|rfl|rfl<;>exact jw7 (by decide) (by decide) (by decide) (by decide) (by decide) (by decide)
def p1M:Pool:=⟨rowsOf [mA,mB,mC] (-1) 1025,3,[([97],[0]),([98],[1]),([99],[2])]⟩
def p2M:Pool:=⟨rowsOf [mB,mC] (-1) 1025++rowsOf [mA] 0 0++rowsOf [mT,mD] 1 0,2,[([98],[0,4]),([99],[1]),([97],[2,3])]⟩
theorem kx6:jr5 (ce4 [] [mA,mB,mC])=.tuple [p1M.v,.int .i64 0]:=by kernel_rfl
theorem kx7:jr5 (ce4 [⟨0,[mA]⟩,⟨0,[mT,mD]⟩] [mB,mC])=.tuple [p2M.v,.int .i64 0]:=by kernel_rfl
def a1:List IV:=[.aa1,.aa3 [cA,cB,cC]]
def a2:List IV:=[.aa3 [[.int .i64 0,.aa3 [cA]],[.int .i64 0,.aa3 [cT,cD]]],.aa3 [cB,cC]]
theorem e1:Pq 24 a1 (.tuple [p1M.v,.int .i64 0]):=by
 rw[<- kx6];refine ja7 (args':=[ba6 [],av4 [mA,mB,mC]]) (by kernel_rfl) (ct7 [] [mA,mB,mC] (by decide) (by decide) (by decide) (λr h=>by cases h) λp hp=>dh3 p ?_);simp only[za,zb,or_false] at hp ⊢;rcases hp with h|h|h<;>simp[h]
theorem e2:Pq 24 a2 (.tuple [p2M.v,.int .i64 0]):=by
 rw[<- kx7];refine ja7 (args':=[ba6 [⟨0,[mA]⟩,⟨0,[mT,mD]⟩],av4 [mB,mC]]) (by kernel_rfl) (ct7 _ _ (by decide) (by decide) (by decide) (λr hr=>?_) λp hp=>dh3 p ?_)
 ·simp only[za,zb,or_false] at hr;rcases hr with rfl|rfl
  ·exact ⟨by decide,λp hp=>dh3 p (by simp only[za,zb,or_false] at hp ⊢;simp[hp])⟩
  ·exact ⟨by decide,λp hp=>dh3 p (by simp only[za,zb,or_false] at hp ⊢;rcases hp with h|h<;>simp[h])⟩
 ·simp only[za,zb,or_false] at hp ⊢;rcases hp with h|h<;>simp[h]
theorem fo2 {p:Pool}{l:List aa2}(h:p.rows.map (·.pkg)=l)(hl:∀x∈l,x∈[mA,mB,mC,mT,mD]):(∀r∈p.rows,r.pkg.Fit)/\∀r∈p.rows,r.pkg.provides.length+r.pkg.files.length+r.pkg.aa7.length+3<=2^15:=by
 have hm:∀r∈p.rows,r.pkg∈[mA,mB,mC,mT,mD]:=λr hr=>hl _ (by rw[<- h];exact List.mem_map_of_mem hr)
 refine ⟨λr hr=>dh3 _ (hm r hr),λr hr=>?_⟩;have:=hm r hr;generalize r.pkg=x at this;simp only[za,zb,or_false] at this;rcases this with rfl|rfl|rfl|rfl|rfl<;>decide
theorem e3:Pq 55 [p1M.v] (.tuple [(ad8 [mA,mB,mC]).v,.int .i64 0]):=by
 obtain ⟨h1,h2⟩:=fo2 (p:=p1M) (l:=[mA,mB,mC]) rfl (λx hx=>by simp only[za,zb,or_false] at hx ⊢;rcases hx with h|h|h<;>simp[h]);exact bd9 p1M h1 (by decide) h2
theorem e4:Pq 55 [p2M.v] (.tuple [(ad8 [mB,mC,mA,mT,mD]).v,.int .i64 0]):=by
 obtain ⟨h1,h2⟩:=fo2 (p:=p2M) (l:=[mB,mC,mA,mT,mD]) rfl (λx hx=>by simp only[za,zb,or_false] at hx ⊢;rcases hx with h|h|h|h|h<;>simp[h]);exact bd9 p2M h1 (by decide) h2
end Go.Id.Tryz
