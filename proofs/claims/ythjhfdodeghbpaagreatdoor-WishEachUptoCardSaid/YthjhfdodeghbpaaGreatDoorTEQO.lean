/- Versions' parts,told. Conditions: sizes that fit. -/
import Derived.Test.YthjhfdodeghbpaaGreatDoorTEQB
import Derived.Test.YthjhfdodeghbpaaGreatDoorMwa
import Derived.Test.YthjhfdodeghbpaaGreatDoorFwQ
import Derived.Test.YthjhfdodeghbpaaGreatDoorMg
import Derived.Test.YthjhfdodeghbpaaGreatDoorFwZb
open List renaming mem_cons→za,not_mem_nil→zb,length_map→zc,getElem_mem→zf,getD_eq_getElem?_getD→zh,mem_map→zi,length_take→zj,map_append→zk,length_append→zl,length_cons→zm,take_append_of_le_length→zo,take_length→zp,drop_eq_getElem_cons→zq,getElem?_eq_getElem→zr,pairwise_iff_getElem→zv,map_cons→zw,drop_of_length_le→zy,length_singleton→zz,mem_cons_self→z1,drop_length→z2,take_of_length_le→z7,map_map→z8,mem_iff_getElem→qc,mem_singleton→qe,take_add_one→qf,getElem_take→qg,length_drop→qh,mem_append→qk,length_nil→ql,length_filter_le→qn,pairwise_append→qo,mem_cons_of_mem→qp,dropWhile_cons→qq,pairwise_cons→qr,getElem?_drop→qs,filter_append→qt,foldl_append→qv,append_assoc→qw
open Int renaming toNat_natCast→zd
open Option renaming some→ze,map→qi,none→qm
open Nat renaming le_refl→zg,le_trans→zn,add_assoc→zt,not_lt_zero→zu,le_succ→zx,zero_add→qa,testBit_and→qb,zero_le→qd,mul_one→qj,lt_of_le_of_lt→qu
open Bool renaming and_eq_true→z6
set_option linter.all false
set_option maxRecDepth 100000
set_option maxHeartbeats 1000000
private theorem om{P:Prop}(h:P:=by omega):P:=h
private theorem sm{P:Prop}(h:P:=by simp):P:=h
namespace Go.Id.Tryz
open Go Go.Id Go.Proofs Go.Id.Md
def evP (p:Part):List IV:=[.agg (Part.cs p)]
def iq2 (s:Str)(hs:s.length<2^62):fi4 Tryz.prog EE (.func (.func 281) [] [.ab5 [.str s]]) ((af9 s).map evP) (λ_=>True):=by
 intro yid I S σ hown hstab hy hi;refine ⟨fok281.1,?_⟩;refine C_f fok281 (nZ rfl) ?_;simp only[ic281,go_sem];refine aa9 noT (λj fr t=>∃(at_:Nat) (tl:Frm),fr=(0,.yield yid)::(1,.ab5 [.str s])::(3,.int .i64 at_)::tl/\σ.next<=t.next/\j<=at_/\at_<=s.length/\I ((af9 (s.drop at_)).map evP) t) s.length ⟨0,[],rfl,zg _,zg _,qd _,hi⟩ ?_;rintro j fr t hle ⟨a,tl,rfl,hn,hja,has,hI⟩;by_cases hlt:a<s.length
 .have⟨b,hb,hget,hdr,_,htk⟩:=ad3 s a hlt;have c1:(a:Int)<s.length:=om;have c2:(0:Int)<=a:=om;have w1:=ac6 (i:=a) om;have hk:(4:Int)<=(af6 b:Int)↔¬af6 b<4:=om;simp only[go_sem,c1,ck3,c2,zd,hget,qi];refine aa8 (fe2 b) ?_;simp only[go_sem,w1];generalize hU:Store.put (Store.put _ t.next _) t.next _=U;have hUn:U.next=t.next+1:=by rw[<- hU];rfl
  have hUb:U.obj t.next=ze (.cells [.int .u8 (af6 b),.str []]):=by rw[<- hU];simp only[aa3,if_true]
  have hUI:∀i,i<t.next->U.obj i=t.obj i:=λi hi=>by
   have e:¬i=t.next:=om;rw[<- hU];simp only[aa3,e,if_false]
  clear hU;have hUe:(⟨t.next+1,U.obj⟩:Store)=U:=by rw[<- hUn]
  rw[hUe];have hdl:(s.drop (a+1)).length=s.length-(a+1):=qh;have hrl:=kd7 b (s.drop (a+1));generalize hR:(if af6 b<4 then 0 else hc9 b (s.drop (a+1)))=R
  have hRl:a+1+R<=s.length:=by
   rw[<- hR];split<;>omega
  refine aa9 noT (λm fr u=>fr=[(0,.yield yid),(1,.ab5 [.str s]),(3,.int .i64 ((a+1+m:Nat):Int)),(4,.ptr t.next 0),(5,.int .i64 a)]/\t.next+1<=u.next/\u.obj t.next=ze (.cells [.int .u8 (af6 b),.str []])/\∀i,i<t.next->u.obj i=t.obj i) R ⟨rfl,om,hUb,hUI⟩ ?_;clear hUe hUn hUb hUI;rintro m fr u hmR ⟨rfl,hUn,hUb,hUI⟩;have w2:=ac6 (i:=a+1+m) om;have d2:(0:Int)<=((a+1+m:Nat):Int):=om;by_cases hm:m<R
  .have h4:¬af6 b<4:=λh=>by rw[if_pos h] at hR;omega
   rw[if_neg h4] at hR;have⟨c,hc1,hc2⟩:=kd5 (b:=b) (l:=s.drop (a+1)) (m:=m) om;have hc:s[a+1+m]? = ze c:=by rw[<- hc1,qs]
   have k1:(4:Int)<=af6 b:=om;have k2:((a+1+m:Nat):Int)<s.length:=om;have k3:=fe2 c;rw[hc2] at k3;simp only[go_sem,hUb,k1,k2,ck3,d2,zd,hc,qi];refine aa8 k3 ?_;simp only[go_sem,hUb,w2];exact ⟨hm,rfl,om,hUI⟩
  .have hmR:m=R:=om;subst hmR;by_cases h4:af6 b<4
   .have k1:¬(4:Int)<=af6 b:=om;rw[if_pos h4] at hR;subst hR;have k5:¬((af6 b:Nat):Int)=5:=om;have hUI2:I ((af9 (s.drop a)).map evP) ⟨u.next+18,u.obj⟩:=hstab _ _ _ hI (by show t.next<=u.next+18;omega) hUI;rw[hdr] at hUI2;by_cases h0:af6 b=0
    .have k0:((af6 b:Nat):Int)=0:=om;rw[in4 h0] at hUI2;have k6:¬(0:Int)=5:=om;simp only[go_sem,hUb,k1,k5,k0,k6];exact ⟨om,a+1,_,rfl,om,om,om,hUI2⟩
    .have k0:¬((af6 b:Nat):Int)=0:=om;rw[in5 h0 h4,zw] at hUI2;simp only[go_sem,hUb,k1,k5,k0];refine cw5 hy hUI2 (λs1 n1 i1=>?_) (λs1 n1 h1=>?_)
     .have n1':u.next+18<=s1.next:=n1;simp only[go_sem];exact ⟨om,a+1,_,rfl,om,om,om,i1⟩
     .have n1':u.next+18<=s1.next:=n1;simp only[go_sem];exact ⟨om,.inr h1⟩
   .have k1:(4:Int)<=af6 b:=om;rw[if_neg h4] at hR
    have key:∀s1:Store,t.next<=s1.next->(∀i,i<t.next->s1.obj i=t.obj i)->I (evP ⟨af6 b,if af6 b=5 then ((s.drop a).take (m+1)).dropWhile (· == 48) else (s.drop a).take (m+1)⟩::(af9 (s.drop (a+1+m))).map evP) s1:=λs1 h1 h2=>by
     have:=hstab _ _ _ hI h1 h2;rw[hdr,in6 h4,zw,hR,<- hdr,List.drop_drop] at this;exact this
    have hss:cw2 (ze (.int .i64 a)) (ze (.int .i64 ((a+1+m:Nat):Int))) (.str s)=ze (.str ((s.drop a).take (m+1))):=by
     have e1:(0:Int)<=a:=om;have e2:a<=a+1+m/\a+1+m<=s.length:=om;simp only[cw2,cx3,fg8,e1,d2,if_true,zd,e2,and_self];rw[List.drop_take];congr 3;omega
    have k0:¬((af6 b:Nat):Int)=0:=om;have ht:=ir2 ((s.drop a).take (m+1)) (by rw[zj,qh];omega);by_cases hend:a+1+m<s.length
    .have k2:((a+1+m:Nat):Int)<s.length:=om;have hc:s[a+1+m]? = ze s[a+1+m]:=zr hend;have hne:af6 s[a+1+m]≠af6 b:=kd6 (l:=s.drop (a+1)) (by rw[hR,qs];exact hc);have k7:¬((af6 s[a+1+m]:Nat):Int)=af6 b:=om;simp only[go_sem,hUb,k1,k2,ck3,d2,zd,hc,qi];refine aa8 (fe2 _) ?_;simp only[go_sem,hUb,k1,k7,hss];by_cases h5:af6 b=5
     .have k5:((af6 b:Nat):Int)=5:=om
      have key5:∀s1:Store,t.next<=s1.next->(∀i,i<t.next->s1.obj i=t.obj i)->I ([IV.agg [.int .u8 5,.str (((s.drop a).take (m+1)).dropWhile (· == 48))]]::(af9 (s.drop (a+1+m))).map evP) s1:=λs1 h1 h2=>by
       have:=key s1 h1 h2;rw[if_pos h5] at this;simp only[evP,Part.cs,k5] at this;exact this
      have k6:¬(5:Int)=0:=om;simp only[go_sem,hUb,k5];refine aa4 fok283 ht ?_;simp only[go_sem,hUb,k5,k6];refine cw5 hy (key5 _ (by simp only[aa7];omega) λi hi=>?_) (λs1 n1 i1=>?_) (λs1 n1 h1=>?_)
      .have:¬i=t.next:=om;simp only[aa3,this,if_false];exact hUI i hi
      .have n1':u.next+18<=s1.next:=n1;simp only[go_sem];exact ⟨om,a+1+m,_,rfl,om,om,om,i1⟩
      .have n1':u.next+18<=s1.next:=n1;simp only[go_sem];exact ⟨om,.inr h1⟩
     .have k5:¬((af6 b:Nat):Int)=5:=om
      have key5:∀s1:Store,t.next<=s1.next->(∀i,i<t.next->s1.obj i=t.obj i)->I ([IV.agg [.int .u8 (af6 b),.str ((s.drop a).take (m+1))]]::(af9 (s.drop (a+1+m))).map evP) s1:=λs1 h1 h2=>by
       have:=key s1 h1 h2;rw[if_neg h5] at this;exact this
      simp only[go_sem,hUb,k5,k0];refine cw5 hy (key5 _ (by simp only[aa7];omega) λi hi=>?_) (λs1 n1 i1=>?_) (λs1 n1 h1=>?_)
      .have:¬i=t.next:=om;simp only[aa3,this,if_false];exact hUI i hi
      .have n1':u.next+18<=s1.next:=n1;simp only[go_sem];exact ⟨om,a+1+m,_,rfl,om,om,om,i1⟩
      .have n1':u.next+18<=s1.next:=n1;simp only[go_sem];exact ⟨om,.inr h1⟩
    .have k2:¬((a+1+m:Nat):Int)<s.length:=om;simp only[go_sem,hUb,k1,k2,hss];by_cases h5:af6 b=5
     .have k5:((af6 b:Nat):Int)=5:=om
      have key5:∀s1:Store,t.next<=s1.next->(∀i,i<t.next->s1.obj i=t.obj i)->I ([IV.agg [.int .u8 5,.str (((s.drop a).take (m+1)).dropWhile (· == 48))]]::(af9 (s.drop (a+1+m))).map evP) s1:=λs1 h1 h2=>by
       have:=key s1 h1 h2;rw[if_pos h5] at this;simp only[evP,Part.cs,k5] at this;exact this
      have k6:¬(5:Int)=0:=om;simp only[go_sem,hUb,k5];refine aa4 fok283 ht ?_;simp only[go_sem,hUb,k5,k6];refine cw5 hy (key5 _ (by simp only[aa7];omega) λi hi=>?_) (λs1 n1 i1=>?_) (λs1 n1 h1=>?_)
      .have:¬i=t.next:=om;simp only[aa3,this,if_false];exact hUI i hi
      .have n1':u.next+18<=s1.next:=n1;simp only[go_sem];exact ⟨om,a+1+m,_,rfl,om,om,om,i1⟩
      .have n1':u.next+18<=s1.next:=n1;simp only[go_sem];exact ⟨om,.inr h1⟩
     .have k5:¬((af6 b:Nat):Int)=5:=om
      have key5:∀s1:Store,t.next<=s1.next->(∀i,i<t.next->s1.obj i=t.obj i)->I ([IV.agg [.int .u8 (af6 b),.str ((s.drop a).take (m+1))]]::(af9 (s.drop (a+1+m))).map evP) s1:=λs1 h1 h2=>by
       have:=key s1 h1 h2;rw[if_neg h5] at this;exact this
      simp only[go_sem,hUb,k5,k0];refine cw5 hy (key5 _ (by simp only[aa7];omega) λi hi=>?_) (λs1 n1 i1=>?_) (λs1 n1 h1=>?_)
      .have:¬i=t.next:=om;simp only[aa3,this,if_false];exact hUI i hi
      .have n1':u.next+18<=s1.next:=n1;simp only[go_sem];exact ⟨om,a+1+m,_,rfl,om,om,om,i1⟩
      .have n1':u.next+18<=s1.next:=n1;simp only[go_sem];exact ⟨om,.inr h1⟩
 .have ha:a=s.length:=om;subst ha;have c1:¬(s.length:Int)<s.length:=om;rw[z2] at hI;simp only[go_sem,c1];exact ⟨hn,.inl hI⟩
def idxOf (n:Int):List Int->Nat->Int
 | [],_=>-1
 | a::l,i=>if n=a then Int.ofNat i else idxOf n l (i+1)
def bw8 (n:Int):∀(l:List Int) (i:Nat),(0<=idxOf n l i↔n∈l):=by
 intro l
 induction l with
 | nil=>intro i;simp[idxOf]
 | cons a l ih=>
  intro i;simp only[idxOf];split
  .rename_i e;subst e;simp
  .rename_i e;rw[ih];simp[e]
def fd7 (l:List Int)(n:Int)(p:l.length<2^40):Pq 110 [.aa2 (l.map Md.ad1),.int .i64 n] (.int .i64 (idxOf n l 0)):=by
 refine aw8 fok110 (nZ rfl) λσ=>?_
 simp only[ic110,go_sem];refine aa9 noT (λi fr s=>fr=[(0,.aa2 (l.map Md.ad1)),(1,.int .i64 n),(7,.int .i64 l.length),(8,.int .i64 i)]/\s=σ/\idxOf n l 0=idxOf n (l.drop i) i) l.length ⟨rfl,rfl,rfl⟩ ?_;rintro i fr s m ⟨rfl,rfl,a⟩;by_cases c:i<l.length
 .have⟨x,o,_,g,b,k⟩:=ad3 l i c;have d:(i:Int)<l.length:=om;have h:(0:Int)<=i:=om;have j:=ac6 (i:=i) om;rw[g,idxOf] at a;by_cases e:n=x
  .rw[if_pos e] at a;subst e;have a:idxOf n l 0=(i:Int):=a;simp only[go_sem,d,h,b,Md.ad1,a,and_self]
  .rw[if_neg e] at a;simp only[go_sem,d,h,b,Md.ad1,e,j];exact ⟨c,a⟩
 .have f:i=l.length:=om;subst f;have d:¬(l.length:Int)<l.length:=om;rw[z2,idxOf] at a;simp only[go_sem,d,a,and_self]
def eq1 (l:List Int)(n:Int)(a:l.length<2^40):Pq 59 [.aa2 (l.map Md.ad1),.int .i64 n] (.bool (decide (n∈l))):=by
 refine aw8 fok59 (nZ rfl) λσ=>?_
 simp only[ic59,go_sem];refine aa4 fok110 (fd7 l n a) ?_
 have e:decide (0<=idxOf n l 0)=decide (n∈l):=by
  by_cases h:n∈l
  .simp[h,(bw8 n l 0).2 h]
  .rw[decide_eq_false h,decide_eq_false (λx=>h ((bw8 n l 0).1 x))]
 simp only[go_sem,e,and_self]
def sE (k:Str):IV×IV:=(.str k,.agg [])
def iq3 (l:List Str)(k:Str):eh5 2 (.str k) (.agg []) (l.map sE)=ze ((av8 l k).map sE):=by
 have b:∀l:List Str,eh5 2 (.str k) (.agg []) (l.map sE)=ze ((if k∈l then l else l++[k]).map sE):=by
  intro l
  induction l with
  | nil=>rfl
  | cons a l ih=>
   simp only[zw,sE,eh5,dn1] at ih ⊢;by_cases h:k=a
   .subst h;simp[sE]
   .simp only[h,decide_false,za,false_or] at ih ⊢;rw[ih];split<;>simp[sE]
 exact b l
def ef1 {σ:Store}{mid:Nat}{l:List Str}(h:σ.obj mid=ze (.map (l.map sE)))(k:Str):ap3 σ 2 (.map mid) (.str k) (.agg [])=ze (σ.put mid (.map ((av8 l k).map sE))):=by
 simp only[ap3,h,iq3,qi]
def hj8 {l:List Str}(h:l.Nodup)(k:Str):(av8 l k).Nodup:=by
 unfold av8;split
 .exact h
 .rename_i hk;refine List.nodup_append.2 ⟨h,by simp,λa ha b hb e=>?_⟩;cases qe.1 hb;exact hk (e▸ha)
def cs9:∀(ks:List Str) {l:List Str},l.Nodup->(ks.foldl av8 l).Nodup
 | [],_,h=>h
 | k::ks,_,h=>cs9 ks (hj8 h k)
def jn7 (p:aa1):(cy3 p).Nodup:=cs9 _ (cs9 _ sm)
def gi4 (p:aa1)(hp:p.Fit):Pq 58 [.agg p.cs] (.am2 ((cy3 p).map sE)):=by
 have B:=hp.au4.1;have A:=hp.files.1;refine af5 hE fok58 (nZ rfl) (λa u=>by cases qe.1 u;exact .agg _ (ag4 p)) ?_;simp only[ic58,go_sem,ac9,aa1.cs,bx5];rw[ef1 (l:=[]) (by simp only[aa3,if_true];rfl)];simp only[go_sem];refine aa9 noT (λi fr s=>fr=[(1,.ab5 p.cs),(3,.map 0),(14,deps p.provides),(15,.int .i64 p.provides.length),(16,.int .i64 i)]/\1<=s.next/\s.obj 0=ze (.map ((((p.provides.take i).map (·.name)).foldl av8 [p.name]).map sE))) p.provides.length ⟨rfl,by simp,by simp only[aa3,if_true];rfl⟩ ?_;rintro i fr s m ⟨rfl,z,f⟩;by_cases a:i<p.provides.length
 .have⟨x,r,_,n,c,d⟩:=ad3 p.provides i a;have h:(i:Int)<p.provides.length:=om;have q:(0:Int)<=i:=om;have y:¬0=s.next:=om;have j:=ac6 (i:=i) om;simp only[go_sem,h,q,c,Dep.cs];rw[ef1 (l:=((p.provides.take i).map (·.name)).foldl av8 [p.name]) (by simp only[aa3,y,if_false];exact f)];simp only[go_sem,j];refine ⟨a,?_⟩;rw[d,zk,qv]
  first|rfl|(simp only[aa3,if_true];rfl)
 have g:i=p.provides.length:=om;subst g;have h:¬(p.provides.length:Int)<p.provides.length:=om;rw[zp] at f;simp only[go_sem,h,aa1.cs];refine aa9 noT (λi fr s=>fr=[(3,.map 0),(26,strs p.files),(27,.int .i64 p.files.length),(28,.int .i64 i)]/\s.obj 0=ze (.map (((p.files.take i).foldl av8 ((p.provides.map (·.name)).foldl av8 [p.name])).map sE))) p.files.length ⟨rfl,f⟩ ?_;rintro i fr s m ⟨rfl,f⟩;by_cases a:i<p.files.length
 .have⟨x,r,_,n,c,d⟩:=ad3 p.files i a;have h:(i:Int)<p.files.length:=om;have q:(0:Int)<=i:=om;have j:=ac6 (i:=i) om;simp only[go_sem,h,q,c,cc4];rw[ef1 f];simp only[go_sem,j];refine ⟨a,?_⟩;rw[d,qv]
  first|rfl|(simp only[aa3,if_true];rfl)
 have g:i=p.files.length:=om;subst g;have h:¬(p.files.length:Int)<p.files.length:=om;rw[zp] at f;simp only[go_sem,h];refine .map 0 _ _ _ (zu _) f rfl (List.Perm.refl _) ⟨?_,.str,λe t=>?_⟩ (λi hi=>?_) (λi hi=>?_)
 .have:((cy3 p).map sE).map (·.1)=(cy3 p).map IV.str:=by simp[sE]
  rw[this];exact List.Pairwise.map _ (λa b o e=>o (by cases e;rfl)) (jn7 p)
 .obtain ⟨k,_,rfl⟩:=zi.1 t;trivial
 .exact .keep _ (by
   have⟨k,_,e⟩:=zi.1 (ad5 (.undef,.undef) hi);rw[<- e];exact .str _)
 .exact .keep _ (by
   have⟨k,_,e⟩:=zi.1 (ad5 (.undef,.undef) hi);rw[<- e];exact .agg _ λc hc=>by cases hc)
def ef2 (nm:Nms):Bnd 0 (.am2 (nmV nm)):=by
 refine .am2 _ (λe a=>?_) (λe a=>?_)<;>(simp only[nmV,zi] at a;obtain ⟨t,_,rfl⟩:=a)
 .exact .str _
 .refine .aa2 _ λx b c hc=>?_
  obtain ⟨n,_,rfl⟩:=zi.1 b
  cases hc with
  | head=>exact .int _ _
  | tail _ h=>cases h
def iq4 (l:List bb5):Bnd 0 (.aa2 (l.map bb5.cs)):=.aa2 _ λe a c hc=>by
 obtain ⟨r,_,rfl⟩:=zi.1 a;exact fo3 r c hc
def ba4 (p:Pool):Bnd 0 p.v:=.ab5 _ λc hc=>by
 simp only[za,zb,or_false] at hc;rcases hc with rfl|rfl|rfl
 .exact iq4 _
 .exact .int _ _
 .exact ef2 _
def dg8 (l:List bb5)(n:Int):Pq 62 [.aa2 (l.map bb5.cs),.int .i64 n] (.bool (decide (0<=n)&&decide (n<l.length))):=by
 refine aw8 fok62 (nZ rfl) λσ=>?_
 by_cases h:0<=n
 .simp only[ic62,go_sem,h,and_self]
 .simp only[ic62,go_sem,h,and_self]
def ao8 (p:Pool):Pq 28 [p.v] (.int .i64 p.rows.length):=by
 refine aw8 fok28 (nZ rfl) λσ=>?_
 simp only[ic28,go_sem,Pool.v,and_self]
def aq1 (p:Pool):Pq 25 [p.v] (.int .i64 p.inst):=by
 refine aw8 fok25 (nZ rfl) λσ=>?_
 simp only[ic25,go_sem,Pool.v,and_self]
def iq5 (r:bb5):r.cs.take 15=r.pkg.cs:=rfl
def aq3 (p:Pool)(n:Nat)(h:n<p.rows.length)(hf:p.rows[n].pkg.Fit):Pq 29 [p.v,.int .i64 n] (.tuple [.agg p.rows[n].pkg.cs,.int .i64 0]):=by
 refine af5 hE fok29 (nZ rfl) (ap7 (ba4 p) (.int _ _)) ?_;have d:(n:Int)<p.rows.length:=om;have c:(0:Int)<=n:=om;have a:(p.rows.map bb5.cs).getD n []=p.rows[n].cs:=by simp[zh,h]
 have b:∀r:bb5,(15<=r.cs.length)=True:=λr=>by rw[bh3];simp
 simp only[ic29,go_sem,Pool.v];refine aa4 fok62 (dg8 p.rows n) ?_;simp only[go_sem,d,c,a,bh3,iq5];refine aa4 fok50 (dw5 _ hf) ?_;simp only[go_sem,ad8,ad9,ac9];exact .keep _ (.tuple _ (ap7 (ap5 _) (.int _ _)))
structure MS (s:Store) (tag:Nat->Nat) (c mid:Nat) (L:NmL) (B:Nat):Prop where
 map:s.obj mid=ze (.map (mEs L))
 row:∀t∈L,s.obj t.2.2=ze (.row (t.2.1.map Md.ad1).flatten)/\t.2.2<s.next/\t.2.1.length<=B
 cv3:∀t∈L,tag t.2.2=c
 ids:(L.map (·.2.2)).Nodup
 keys:(L.map (·.1)).Nodup
 lt:mid<s.next
 iq7:tag mid=c
def MS.keep {s s':Store}{b a:Nat->Nat}{c mid:Nat}{L:NmL}{B f:Nat}(h:MS s b c mid L B)(j:B<=f)(g:s.next<=s'.next)(e:∀i,i<s.next->b i=c->s'.obj i=s.obj i)(d:∀i,i<s.next->a i=b i):MS s' a c mid L f where
 map:=by rw[e _ h.lt h.iq7];exact h.map
 row:=λt m=>⟨by rw[e _ (h.row t m).2.1 (h.cv3 t m)];exact (h.row t m).1,by have:=(h.row t m).2.1;omega,by have:=(h.row t m).2.2;omega⟩
 cv3:=λt m=>by rw[d _ (h.row t m).2.1];exact h.cv3 t m
 ids:=h.ids
 keys:=h.keys
 lt:=by have:=h.lt;omega
 iq7:=by rw[d _ h.lt];exact h.iq7
def fd8 (tag:Nat->Nat)(c nid:Nat):Nat->Nat:=λi=>if i=nid then c else tag i
def as8 {a:Nat->Nat}{c nid n:Nat}(h:n<=nid):∀i,i<n->fd8 a c nid i=a i:=λi hi=>by
 unfold fd8;rw[if_neg om]
def MS.cur {s:Store}{a:Nat->Nat}{c mid:Nat}{L:NmL}{B:Nat}(h:MS s a c mid L B)(k:Str)(m:Nat)(f:s.next<=m):Grow ⟨m,s.obj⟩ (dd7 L k) 1 ((ci7 L k).map Md.ad1)/\(ci7 L k).length<=B:=by
 rcases ce6 L k with ⟨e,d⟩|⟨t,b,_,e,d⟩
 .rw[e,d];exact ⟨.inl ⟨rfl,rfl⟩,qd _⟩
 .rw[e,d];exact ⟨.inr ⟨t.2.2,by rw[zc],(h.row t b).1,by have:=(h.row t b).2.1;show t.2.2<m;omega⟩,(h.row t b).2.2⟩
def MS.upd {s:Store}{tag:Nat->Nat}{c mid:Nat}{L:NmL}{B:Nat}(h:MS s tag c mid L B)(k:Str)(n:Int)(m nid:Nat)(hm:s.next<=m)(hnew:s.next<=nid)(hb:B<2^30) :
  ∃s1,bb4 ⟨m,s.obj⟩ nid 1 (dd7 L k) (.aa2 [[.int .i64 n]])=ze (.slice nid 0 ((ci7 L k).length+1) 1,s1)/\s1.next=m/\s1.obj mid=ze (.map (mEs L))/\(∀i o,i<s.next->s.obj i=ze o->(∀cs,o≠.row cs)->s1.obj i=ze o) /\
   ∀nx,nid<nx->MS ⟨nx,(s1.put mid (.map (mEs (bf7 L k n nid)))).obj⟩ (fd8 tag c nid) c mid (bf7 L k n nid) (B+1)/\∀i,i<s.next->tag i≠c->(s1.put mid (.map (mEs (bf7 L k n nid)))).obj i=s.obj i:=by
 have⟨hg,hlen⟩:=h.cur k m hm;have hap:=ai1 (nid:=nid) (e:=[.int .i64 n]) hg (cb2 _) ⟨rfl,rfl⟩ (by rw[zc];omega);rw[zc] at hap;have hlt:=h.lt;have hmid:¬mid=nid:=om
 have kother:∀i,(∀t∈L,t.1=k->t.2.2≠i)->(ad4 (dd7 L k) ⟨m,s.obj⟩).obj i=s.obj i:=by
  intro i hne;rcases ce6 L k with ⟨h1,_⟩|⟨t,ht,hk,h1,_⟩
  .rw[h1];rfl
  .rw[h1];show (if i=t.2.2 then qm else s.obj i)=_;rw[if_neg (λe=>hne t ht hk e.symm)]
 have hrow_ne_mid:∀i cs,s.obj i=ze (.row cs)->¬i=mid:=λi cs hi e=>by subst e;rw[h.map] at hi;cases hi
 refine ⟨_,hap,by rw[aa7,ac1],?_,?_,λnx hnx=>⟨?_,?_⟩⟩
 .rw[aa3,if_neg hmid];exact ae4 hg mid _ h.map (λ_ e=>by cases e)
 .intro i o hi ho hr;rw[aa3,if_neg om];exact ae4 hg i _ ho hr
 .exact {
   map:=by
    show (if mid=mid then _ else _)=_;rw[if_pos rfl]
   row:=by
    intro t ht;rcases ec2 h.keys t ht with ⟨h1,h2⟩|rfl
    .have⟨r1,r2,r3⟩:=h.row t h1;refine ⟨?_,by show t.2.2<nx;omega,om⟩;show (if t.2.2=mid then _ else if t.2.2=nid then _ else (ad4 (dd7 L k) ⟨m,s.obj⟩).obj t.2.2)=_;rw[if_neg (hrow_ne_mid _ _ r1),if_neg om,kother _ λu hu hk e=>h2 (by rw[<- gw7 h.keys h.ids u hu t h1 e];exact hk)];exact r1
    .refine ⟨?_,hnx,?_⟩
     .show (if nid=mid then _ else if nid=nid then _ else _)=_;rw[if_neg (λe=>hmid e.symm),if_pos rfl,zk];rfl
     .show (ci7 L k++[n]).length<=B+1;rw[zl];simp;exact hlen
   cv3:=by
    intro t ht;rcases ec2 h.keys t ht with ⟨h1,h2⟩|rfl
    .rw[as8 hnew _ (h.row t h1).2.1];exact h.cv3 t h1
    .unfold fd8;rw[if_pos rfl]
   ids:=(gw6 L h.ids (λhm=>by
    have⟨t,ht,e⟩:=zi.1 hm;have:=(h.row t ht).2.1;have e':t.2.2=nid:=e;omega)).1
   keys:=(fj7 L h.keys).1
   lt:=by show mid<nx;omega
   iq7:=by rw[as8 hnew _ h.lt];exact h.iq7 }
 .intro i hi hc;show (if i=mid then _ else if i=nid then _ else (ad4 (dd7 L k) ⟨m,s.obj⟩).obj i)=_;rw[if_neg (λe=>hc (by rw[e];exact h.iq7)),if_neg om,kother _ λt ht _ e=>hc (by rw[<- e];exact h.cv3 t ht)]
def MS.frz {s:Store}{g:Nat->Nat}{c mid:Nat}{L:NmL}{B:Nat}(h:MS s g c mid L B){nm:Nms}(hp:(be5 L).Perm nm):cc3 s 0 (.map mid) (.am2 (nmV nm)):=by
 have d:∀i,i<(mEs L).length->∃t∈L,(mEs L).getD i (.undef,.undef)=(.str t.1,.slice t.2.2 0 t.2.1.length 1)/\(nmV (be5 L)).getD i (.undef,.undef)=(.str t.1,.aa2 (t.2.1.map Md.ad1)):=by
  intro i hi;have a:i<L.length:=by simpa [mEs] using hi
  exact ⟨L[i],zf a,by simp[mEs,zh,a],by simp[nmV,be5,zh,a]⟩
 have j:KN nm:=KN.perm (nm:=be5 L) (by show ((be5 L).map (·.1)).Nodup;unfold be5;rw[z8];exact h.keys) hp;refine .map mid (mEs L) (nmV (be5 L)) (nmV nm) (zu _) h.map (by simp[nmV,be5,mEs]) (hp.map _) ⟨?_,.str,λe f=>?_⟩ (λi hi=>?_) (λi hi=>?_)
 .have:(nmV nm).map (·.1)=(nm.map (·.1)).map IV.str:=by simp[nmV]
  rw[this];exact List.Pairwise.map _ (λa b k e=>k (by cases e;rfl)) j
 .simp only[nmV,zi] at f;obtain ⟨t,_,rfl⟩:=f;trivial
 .have⟨t,m,e1,e2⟩:=d i hi;rw[e1,e2];exact bm4 _
 .have⟨t,m,e1,e2⟩:=d i hi;rw[e1,e2];have⟨p,o,_⟩:=h.row t m;have r:Grow s (.slice t.2.2 0 t.2.1.length 1) 1 (t.2.1.map Md.ad1):=.inr ⟨t.2.2,by rw[zc],p,o⟩;refine r.frz (λx q=>(cb2 _ x q).1) (λ_ _=>zu _) λe f c hc=>?_
  obtain ⟨n,_,rfl⟩:=zi.1 f
  cases hc with
  | head=>exact .int _ _
  | tail _ h=>cases h
structure IS (s:Store) (pp m1 m2 m3:Nat) (all:List aa1) (rv:IV) (L1 L2 L3:NmL) (tag:Nat->Nat) (B:Nat):Prop where
 cell:s.obj pp=ze (.cells [rv,.map m1,.map m2,.map m3])
 ltp:pp<s.next
 grow:Grow s rv 15 (all.map aa1.cs)
 cv3:∀id n,rv=.slice id 0 n 15->tag id=0
 m1:MS s tag 1 m1 L1 B
 m2:MS s tag 2 m2 L2 B
 m3:MS s tag 3 m3 L3 B
 eq3:tag pp=4
def IS.mono {s s':Store}{j m1 m2 m3:Nat}{c:List aa1}{g:IV}{n m k:NmL}{a:Nat->Nat}{B o:Nat}(h:IS s j m1 m2 m3 c g n m k a B)(f:B<=o)(d:s.next<=s'.next)(b:∀i,i<s.next->s'.obj i=s.obj i):IS s' j m1 m2 m3 c g n m k a o where
 cell:=by rw[b _ h.ltp];exact h.cell
 ltp:=by have:=h.ltp;omega
 grow:=h.grow.mono d λid _ e=>b id e
 cv3:=h.cv3
 m1:=h.m1.keep f d (λi hi _=>b i hi) λ_ _=>rfl
 m2:=h.m2.keep f d (λi hi _=>b i hi) λ_ _=>rfl
 m3:=h.m3.keep f d (λi hi _=>b i hi) λ_ _=>rfl
 eq3:=h.eq3
def am7 {s s':Store}{b:IV}{es:List (List IV)}{a:Nat->Nat}(h:Grow s b 15 es)(e:∀id n,b=.slice id 0 n 15->a id=0)(g:s.next<=s'.next)(f:∀i,i<s.next->a i=0->s'.obj i=s.obj i):Grow s' b 15 es :=
 h.mono g λid d c=>f id c (e id _ d)
def ef3 {s:Store}{d:IV}{es:List (List IV)}{a:Nat->Nat}{c nid:Nat}(h:Grow s d 15 es)(i:∀id n,d=.slice id 0 n 15->a id=0)(j:s.next<=nid):∀id n,d=.slice id 0 n 15->fd8 a c nid id=0:=λid n b=>by
 rcases h with ⟨g,_⟩|⟨id',g,_,f⟩
 .rw[g] at b;cases b
 .have e:id'=id:=by rw[g] at b;cases b;rfl
  subst e;rw[as8 j _ f];exact i _ _ b
def IS.of1 {s s':Store}{j m1 m2 m3 nid:Nat}{c:List aa1}{g:IV}{o m k L':NmL}{b:Nat->Nat}{B:Nat}(h:IS s j m1 m2 m3 c g o m k b B)(f:s.next<=s'.next)(a:s.next<=nid)(n:MS s' (fd8 b 1 nid) 1 m1 L' (B+1))(d:∀i,i<s.next->b i≠1->s'.obj i=s.obj i):IS s' j m1 m2 m3 c g L' m k (fd8 b 1 nid) (B+1) where
 cell:=by rw[d _ h.ltp (by rw[h.eq3];decide)];exact h.cell
 ltp:=by have:=h.ltp;omega
 grow:=am7 h.grow h.cv3 f λi hi e=>d i hi (by rw[e];decide)
 cv3:=ef3 h.grow h.cv3 a
 m1:=n
 m2:=h.m2.keep (zx _) f (λi hi e=>d i hi (by rw[e];decide)) (as8 a)
 m3:=h.m3.keep (zx _) f (λi hi e=>d i hi (by rw[e];decide)) (as8 a)
 eq3:=by rw[as8 a _ h.ltp];exact h.eq3
def IS.of2 {s s':Store}{j m1 m2 m3 nid:Nat}{c:List aa1}{g:IV}{m o k L':NmL}{b:Nat->Nat}{B:Nat}(h:IS s j m1 m2 m3 c g m o k b B)(f:s.next<=s'.next)(a:s.next<=nid)(n:MS s' (fd8 b 2 nid) 2 m2 L' (B+1))(d:∀i,i<s.next->b i≠2->s'.obj i=s.obj i):IS s' j m1 m2 m3 c g m L' k (fd8 b 2 nid) (B+1) where
 cell:=by rw[d _ h.ltp (by rw[h.eq3];decide)];exact h.cell
 ltp:=by have:=h.ltp;omega
 grow:=am7 h.grow h.cv3 f λi hi e=>d i hi (by rw[e];decide)
 cv3:=ef3 h.grow h.cv3 a
 m1:=h.m1.keep (zx _) f (λi hi e=>d i hi (by rw[e];decide)) (as8 a)
 m2:=n
 m3:=h.m3.keep (zx _) f (λi hi e=>d i hi (by rw[e];decide)) (as8 a)
 eq3:=by rw[as8 a _ h.ltp];exact h.eq3
def IS.of3 {s s':Store}{j m1 m2 m3 nid:Nat}{c:List aa1}{g:IV}{m k o L':NmL}{b:Nat->Nat}{B:Nat}(h:IS s j m1 m2 m3 c g m k o b B)(f:s.next<=s'.next)(a:s.next<=nid)(n:MS s' (fd8 b 3 nid) 3 m3 L' (B+1))(d:∀i,i<s.next->b i≠3->s'.obj i=s.obj i):IS s' j m1 m2 m3 c g m k L' (fd8 b 3 nid) (B+1) where
 cell:=by rw[d _ h.ltp (by rw[h.eq3];decide)];exact h.cell
 ltp:=by have:=h.ltp;omega
 grow:=am7 h.grow h.cv3 f λi hi e=>d i hi (by rw[e];decide)
 cv3:=ef3 h.grow h.cv3 a
 m1:=h.m1.keep (zx _) f (λi hi e=>d i hi (by rw[e];decide)) (as8 a)
 m2:=h.m2.keep (zx _) f (λi hi e=>d i hi (by rw[e];decide)) (as8 a)
 m3:=n
 eq3:=by rw[as8 a _ h.ltp];exact h.eq3
def ar7 (l:List aa1):∀e∈l.map aa1.cs,e.length=15/\e.all IV.leaf=true:=λe a=>by
 obtain ⟨x,_,rfl⟩:=zi.1 a;exact ⟨ad8 x,ac9 x⟩
def IS.push {s:Store}{pp m1 m2 m3:Nat}{all:List aa1}{rv:IV}{L1 L2 L3:NmL}{tag:Nat->Nat}{B:Nat}(h:IS s pp m1 m2 m3 all rv L1 L2 L3 tag B)(x:aa1)(m nid:Nat)(hm:s.next<=m)(hnew:s.next<=nid)(hb:all.length<2^30) :
  ∃s1,bb4 ⟨m,s.obj⟩ nid 15 rv (.aa2 [x.cs])=ze (.slice nid 0 (all.length+1) 15,s1)/\s1.next=m/\s1.obj pp=s.obj pp/\(∀i o,i<s.next->s.obj i=ze o->(∀cs,o≠.row cs)->s1.obj i=ze o) /\
   ∀nx,nid<nx->IS ⟨nx,(s1.put pp (.cells [.slice nid 0 (all.length+1) 15,.map m1,.map m2,.map m3])).obj⟩ pp m1 m2 m3 (all++[x]) (.slice nid 0 (all.length+1) 15) L1 L2 L3 (fd8 tag 0 nid) B:=by
 have hg:Grow ⟨m,s.obj⟩ rv 15 (all.map aa1.cs):=Grow.mono (σ:=s) h.grow hm λ_ _ _=>rfl
 have hap:=ai1 (nid:=nid) (e:=x.cs) hg (ar7 all) ⟨ad8 x,ac9 x⟩ (by rw[zc];omega);rw[zc] at hap;have hlt:=h.ltp;have hpp:¬pp=nid:=om;have kp:=ae4 hg pp _ h.cell (λ_ e=>by cases e)
 have kk:∀i,i<s.next->tag i≠0->tag i≠4->((ad4 rv ⟨m,s.obj⟩).put nid (.row (all.map aa1.cs++[x.cs]).flatten) |>.put pp (.cells [.slice nid 0 (all.length+1) 15,.map m1,.map m2,.map m3])).obj i=s.obj i:=by
  intro i hi h0 h4;show (if i=pp then _ else if i=nid then _ else (ad4 rv ⟨m,s.obj⟩).obj i)=_;rw[if_neg (λe=>h4 (by rw[e];exact h.eq3)),if_neg om];rcases h.grow with ⟨hv,_⟩|⟨id,hv,ho,hl⟩
  .rw[hv];rfl
  .have ht:=h.cv3 id _ hv;rw[hv];show (if i=id then qm else s.obj i)=_;rw[if_neg (λe=>h0 (by rw[e];exact ht))]
 refine ⟨_,hap,by rw[aa7,ac1],by rw[aa3,if_neg hpp,kp,h.cell],?_,λnx hnx=>?_⟩
 .intro i o hi ho hr;rw[aa3,if_neg om];exact ae4 hg i _ ho hr
 .exact {
   cell:=by
    show (if pp=pp then _ else _)=_;rw[if_pos rfl]
   ltp:=by show pp<nx;omega
   grow:=by
    refine .inr ⟨nid,by rw[zk,zl,zc];rfl,?_,hnx⟩;show (if nid=pp then _ else if nid=nid then _ else _)=_;rw[if_neg (λe=>hpp e.symm),if_pos rfl,zk];rfl
   cv3:=λid n hv=>by cases hv;unfold fd8;rw[if_pos rfl]
   m1:=h.m1.keep (zg _) (by show s.next<=nx;omega) (λi hi e=>kk i hi (by rw[e];decide) (by rw[e];decide)) (as8 hnew)
   m2:=h.m2.keep (zg _) (by show s.next<=nx;omega) (λi hi e=>kk i hi (by rw[e];decide) (by rw[e];decide)) (as8 hnew)
   m3:=h.m3.keep (zg _) (by show s.next<=nx;omega) (λi hi e=>kk i hi (by rw[e];decide) (by rw[e];decide)) (as8 hnew)
   eq3:=by rw[as8 hnew _ h.ltp];exact h.eq3 }
def IS.frz {s:Store}{d o n m:Nat}{a:List aa1}{k:IV}{i g f:NmL}{b:Nat->Nat}{B:Nat}(h:IS s d o n m a k i g f b B){x:Index}(h0:x.all=a)(z:(be5 i).Perm x.au4)(y:(be5 g).Perm x.names)(u:(be5 f).Perm x.over):cc3 s 0 (.ptr d 0) x.v:=by
 subst h0;refine .ptr d 0 _ _ (zu _) (.inl h.cell) (zg _) λj q=>?_
 have e:j=0\/j=1\/j=2\/j=3:=by simp only[zm,ql] at q;omega
 rcases e with rfl|rfl|rfl|rfl
 .refine h.grow.frz (λx p=>(ar7 _ x p).1) (λ_ _=>zu _) λe t c hc=>?_
  obtain ⟨r,_,rfl⟩:=zi.1 t;exact ag4 r c hc
 .exact h.m1.frz z
 .exact h.m2.frz y
 .exact h.m3.frz u
def MS.hj9 {s s':Store}{a:Nat->Nat}{c mid:Nat}{L:NmL}{B d:Nat}(h:MS s a c mid L B)(g:B<=d)(f:s.next<=s'.next)(b:∀i o,i<s.next->s.obj i=ze o->(∀l c,o≠.as9 l c)->s'.obj i=ze o):MS s' a c mid L d where
 map:=b _ _ h.lt h.map (λ_ _ e=>by cases e)
 row:=λt m=>⟨b _ _ (h.row t m).2.1 (h.row t m).1 (λ_ _ e=>by cases e),by have:=(h.row t m).2.1;omega,by have:=(h.row t m).2.2;omega⟩
 cv3:=h.cv3
 ids:=h.ids
 keys:=h.keys
 lt:=by have:=h.lt;omega
 iq7:=h.iq7
def IS.hj9 {s s':Store}{m m1 m2 m3:Nat}{d:List aa1}{k:IV}{q p n:NmL}{a:Nat->Nat}{B r:Nat}(h:IS s m m1 m2 m3 d k q p n a B)(j:B<=r)(f:s.next<=s'.next)(b:∀i o,i<s.next->s.obj i=ze o->(∀l c,o≠.as9 l c)->s'.obj i=ze o):IS s' m m1 m2 m3 d k q p n a r where
 cell:=b _ _ h.ltp h.cell (λ_ _ e=>by cases e)
 ltp:=by have:=h.ltp;omega
 grow:=by
  rcases h.grow with h0|⟨id,t,hr,g⟩
  .exact .inl h0
  .exact .inr ⟨id,t,b _ _ g hr (λ_ _ e=>by cases e),om⟩
 cv3:=h.cv3
 m1:=h.m1.hj9 j f b
 m2:=h.m2.hj9 j f b
 m3:=h.m3.hj9 j f b
 eq3:=h.eq3
def eq2 {b c:Type}(f:b->c):∀(l:List b) (k:Nat),(l.map f).eraseIdx k=(l.eraseIdx k).map f
 | [],_=>rfl
 | _::_,0=>rfl
 | a::l,k+1=>by simp[eq2 f l k]
def dw6 {b:Type}:∀(l:List b) (k:Nat) (h:k<l.length),l.Perm (l[k]::l.eraseIdx k)
 | [],k,h=>by simp at h
 | a::l,0,_=>.refl _
 | a::l,k+1,h=>((dw6 l k (by simpa using h)).cons a).trans (.swap _ _ _)
def kt7 {s:Store}{id:Nat}{l:List (IV×IV)}{c:Option (IV×IV)}(h:s.obj id=ze (.as9 l c)):bp6 s (.ptr id 0)=ze (id,l):=by simp only[bp6,h]
def kt8 {s:Store}{id:Nat}{l:List (IV×IV)}{c:IV×IV}(h:s.obj id=ze (.as9 l (ze c))):cw4 s (.ptr id 0)=ze (.tuple [c.1,c.2]):=by simp only[cw4,h]
def cb1:∀(ks l:List Str),(ks.foldl av8 l).length<=l.length+ks.length
 | [],l=>zg _
 | k::ks,l=>by
  refine zn (cb1 ks _) ?_
  have:(av8 l k).length<=l.length+1:=by
   unfold av8;split
   .omega
   .simp
  simp only[zm];omega
def iq6 (p:aa1):(cy3 p).length<=p.provides.length+p.files.length+1:=by
 refine zn (cb1 _ _) ?_;have:=cb1 (p.provides.map (·.name)) [p.name];simp only[zc,zm,ql] at this;omega
def bf2 (p:Pool)(hf:∀r∈p.rows,r.pkg.Fit)(hlen:p.rows.length<=2^14)(hs:∀r∈p.rows,r.pkg.provides.length+r.pkg.files.length+r.pkg.ab2.length+3<=2^15) :
  Pq 26 [p.v] (.tuple [(ad7 (p.rows.map (·.pkg))).v,.int .i64 0]):=by
 obtain ⟨pk,hpk0⟩:∃pk,p.rows.map (·.pkg)=pk:=⟨_,rfl⟩;have hpl:pk.length=p.rows.length:=by rw[<- hpk0,zc]
 rw[hpk0];obtain ⟨W,hW⟩:∃W:Nat,W=2^15:=⟨_,rfl⟩;have hC:=ao8 p;have hP:=λ(n:Nat) (h:n<p.rows.length)=>aq3 p n h (hf _ (zf h))
 have hb:=ba4 p;obtain ⟨cs,hcs⟩:∃cs,p.v=.ab5 cs:=⟨_,rfl⟩;rw[hcs] at hC hP hb ⊢;refine af5 hE fok26 (nZ rfl) (λa ha=>by cases qe.1 ha;exact hb) ?_;simp only[ic26,go_sem];refine aa4 fok28 hC ?_;simp only[go_sem]
 refine aa9 noT (λi fr s=>fr=[(0,.ab5 cs),(4,.ptr 3 0),(19,.int .i64 p.rows.length),(20,.int .i64 i)]/\∃rv L1 L2 L3 tag,IS s 3 0 1 2 (pk.take i) rv L1 L2 L3 tag (i*W) /\
  (be5 L1).Perm (ad7 (pk.take i)).au4/\(be5 L2).Perm (ad7 (pk.take i)).names/\(be5 L3).Perm (ad7 (pk.take i)).over) p.rows.length ⟨rfl,.aa5,[],[],[],(λi=>if i=0 then 1 else if i=1 then 2 else if i=2 then 3 else 4),?_,.refl _,.refl _,.refl _⟩ ?_
 .have e0:∀(c mid:Nat) (L:NmL) (st:Store) (tag:Nat->Nat),L=[]->st.obj mid=ze (.map [])->mid<st.next->tag mid=c->MS st tag c mid L (0*W):=λc mid L st tag h1 h2 h3 h4=>by
   subst h1;exact { map:=h2,row:=λt ht=>(by cases ht),cv3:=λt ht=>(by cases ht),ids:=List.nodup_nil,keys:=List.nodup_nil,lt:=h3,iq7:=h4 }
  refine { cell:=rfl,ltp:=Nat.lt_succ_self 3,grow:=.inl ⟨rfl,rfl⟩,cv3:=λid n h=>(by cases h),m1:=e0 1 0 [] _ _ rfl rfl ?_ rfl,m2:=e0 2 1 [] _ _ rfl rfl ?_ rfl,m3:=e0 3 2 [] _ _ rfl rfl ?_ rfl,eq3:=rfl }
  .show 0<4;decide
  .show 1<4;decide
  .show 2<4;decide
 rintro i fr s hle ⟨rfl,rv,L1,L2,L3,tag,hI,p1,p2,p3⟩;by_cases hlt:i<p.rows.length
 .have c1:(i:Int)<p.rows.length:=om;have c2:(0:Int)<=i:=om;have w1:=ac6 (i:=i) om;have hQ:=hP i hlt;have hx:p.rows[i]∈p.rows:=zf hlt;have hfx:=hf _ hx;have hsx:=hs _ hx
  have htk:pk.take (i+1)=pk.take i++[p.rows[i].pkg]:=by
   rw[<- hpk0,qf,List.getElem?_map,zr hlt];rfl
  generalize hpk:p.rows[i].pkg=x at *;simp only[go_sem,c1,c2];refine aa4 fok29 hQ ?_;have e3:¬3=s.next:=by have:=hI.ltp;omega
  have hiW:i*W+W<=2^29:=by
   have h1:i*W+W=(i+1)*W:=(Nat.succ_mul i W).symm;rw[h1,hW];omega
  have hWx:x.provides.length+x.files.length+x.ab2.length+3<=W:=by rw[hW];exact hsx
  have e3':¬s.next=3:=λe=>e3 e.symm
  simp only[go_sem,ad8,ad9,ac9,e3,hI.cell,zt];generalize hS:Store.put (Store.put _ s.next _) s.next (aj8.cells x.cs)=S1;have hS1:S1.next=s.next+1:=by rw[<- hS];rfl
  have hbx:S1.obj s.next=ze (.cells x.cs):=by rw[<- hS];simp only[aa3,if_true]
  have h1:IS S1 3 0 1 2 (pk.take i) rv L1 L2 L3 tag (i*W):=hI.mono (zg _) om λj hj=>by
   have e:¬j=s.next:=om;rw[<- hS];simp only[aa3,e,if_false]
  clear hS;have hal:(pk.take i).length=i:=by rw[zj];omega
  have⟨t1,ha1,ha2,ha3,ha4,hps⟩:=h1.push x (s.next+12) (s.next+8) om om (by rw[hal];omega);rw[hal] at ha1 hps;rw[ha1];have hc1:t1.obj 3=ze (.cells [rv,.map 0,.map 1,.map 2]):=by rw[ha3];exact h1.cell
  have hb1:t1.obj s.next=ze (.cells x.cs):=ha4 _ _ om hbx (λ_ e=>by cases e);have h2:=hps t1.next om;generalize hX:(aj8.cells [.slice (s.next+8) 0 (i+1) 15,.map 0,.map 1,.map 2])=X at hps h2;have hlk2:∀m,cj3 ⟨m,(t1.put 3 X).obj⟩ 2 .aa5 false (.map 1) (.str x.name)=ze (dd7 L2 x.name):=λm=>iq8 (σ:=⟨m,(t1.put 3 X).obj⟩) h2.m2.map x.name
  have⟨t2,ib1,ib2,ib3,ib4,hpt⟩:=h2.m2.upd x.name (i:Int) (t1.next+17) (t1.next+15) (by show t1.next<=_;omega) (by show t1.next<=_;omega) om;simp only at ib1 ib3;subst hX;simp only[go_sem,e3',hc1,hb1,fo6,hlk2,ib1,zt];rw[fo5 ib3 x.name (i:Int) (t1.next+15)];have g3:3<s.next:=hI.ltp
  have hb2:(t2.put 1 (aj8.map (mEs (bf7 L2 x.name (i:Int) (t1.next+15))))).obj s.next=ze (.cells x.cs):=by
   have e:¬s.next=1:=om;simp only[aa3,e,if_false];refine ib4 _ _ (by show s.next<t1.next;omega) ?_ (λ_ e=>by cases e);simp only[aa3,e3',if_false];exact hb1
  have hn2:(t2.put 1 (aj8.map (mEs (bf7 L2 x.name (i:Int) (t1.next+15))))).next=t1.next+17:=ib2;have hpt':=hpt (t2.put 1 (aj8.map (mEs (bf7 L2 x.name (i:Int) (t1.next+15))))).next (by rw[hn2];omega);have h3:=h2.of2 (s':=t2.put 1 (aj8.map (mEs (bf7 L2 x.name (i:Int) (t1.next+15))))) (nid:=t1.next+15) (by rw[hn2];show t1.next<=_;omega) (by show t1.next<=_;omega) hpt'.1 hpt'.2;clear hpt'
  have q2:(be5 (bf7 L2 x.name (i:Int) (t1.next+15))).Perm (as2 (ad7 (pk.take i)).names x.name i):=by
   rw[cy1];exact bw4 (by show ((be5 L2).map (·.1)).Nodup;unfold be5;rw[z8];exact hI.m2.keys) p2
  generalize bf7 L2 x.name (i:Int) (t1.next+15)=L2' at *;generalize t2.put 1 (aj8.map (mEs L2'))=S2 at *;generalize fd8 (fd8 tag 0 (s.next+8)) 2 (t1.next+15)=tag2 at *;clear hpt hps ib1 ib2 ib3 ib4 hlk2;simp only[go_sem,hb2,ad8,ad9,ac9];refine aa4 fok58 (gi4 x hfx) ?_;simp only[go_sem,zt];clear h1 h2 ha4 ha3 hc1 hb1 ha1 p2;have hkn1:KN (ad7 (pk.take i)).au4:=KN.perm (nm:=be5 L1) (by show ((be5 L1).map (·.1)).Nodup;unfold be5;rw[z8];exact hI.m1.keys) p1;have hol:(cy3 x).length<=x.provides.length+x.files.length+1:=iq6 x
  have hidx:ad7 (pk.take (i+1))=em6 (ad7 (pk.take i)) i x:=by
   rw[htk];unfold ad7;rw[em7,hal,qa]
  generalize pk.take i++[x]=allI at *;generalize IV.slice (s.next+8) 0 (i+1) 15=rv2 at *;have hsm:¬s.next=S2.next:=om
  refine aa9 noT (λj fr t=>fr=[(0,.ab5 cs),(4,.ptr 3 0),(5,.int .i64 i),(6,.ptr s.next 0),(19,.int .i64 p.rows.length),(20,.int .i64 i),(60,.ptr S2.next 0)]/\S2.next+1<=t.next/\t.obj s.next=ze (.cells x.cs) /\
   ∃done left cur L tg,(done++left).Perm (cy3 x)/\done.length=j/\t.obj S2.next=ze (.as9 (left.map sE) cur)/\IS t 3 0 1 2 allI rv2 L L2' L3 tg (i*W+1+j)/\(be5 L).Perm (be7 (ad7 (pk.take i)).au4 done i)) (cy3 x).length
   ⟨rfl,zg _,?_,[],cy3 x,qm,L1,tag2,.refl _,rfl,?_,?_,p1⟩ ?_
  .simp only[aa3,hsm,if_false];exact hb2
  .simp only[aa3,if_true]
  .refine h3.mono (zg _) (by show S2.next<=S2.next+1;omega) λj hj=>?_
   have e:¬j=S2.next:=om;simp only[aa3,e,if_false]
  rintro j fr t hjle ⟨rfl,hnt,hbt,done,left,cur,L,tg,hpm,hdl,hmi,hIt,hpL⟩;have hll:done.length+left.length=(cy3 x).length:=by rw[<- hpm.length_eq,zl]
  simp only[go_sem,kt7 hmi];refine ⟨λhnil=>?_,λk hk=>?_⟩
  .have hl0:left=[]:=by simpa using hnil
   subst hl0;rw[List.append_nil] at hpm;have q1:=hpL.trans (em5 hpm hkn1);simp only[go_sem,hbt,aa1.cs,bx5];have hjl:j=(cy3 x).length:=by rw[<- hdl];simpa using hll
   subst hjl;clear hmi hbt hpL hpm hll hdl
   refine aa9 noT (λj fr u=>fr=[(0,.ab5 cs),(4,.ptr 3 0),(5,.int .i64 i),(19,.int .i64 p.rows.length),(20,.int .i64 i),(80,deps x.ab2),(81,.int .i64 x.ab2.length),(82,.int .i64 j)] /\
    ∃L3' tg',IS u 3 0 1 2 allI rv2 L L2' L3' tg' (i*W+1+(cy3 x).length+j)/\(be5 L3').Perm (av1 (ad7 (pk.take i)).over ((x.ab2.take j).map (·.name)) i)) x.ab2.length ⟨rfl,L3,tg,hIt,p3⟩ ?_
   rintro j fr u hjo ⟨rfl,L3',tg',hIu,r3⟩;have hkn3:KN (be5 L3'):=by show ((be5 L3').map (·.1)).Nodup;unfold be5;rw[z8];exact hIu.m3.keys
   by_cases hjlt:j<x.ab2.length
   .have⟨d,hd,_,hdr,hget,htk2⟩:=ad3 x.ab2 j hjlt;have d1:(j:Int)<x.ab2.length:=om;have d2:(0:Int)<=j:=om;have w2:=ac6 (i:=j) om;have g3u:=hIu.ltp;have f3:¬3=u.next:=om;simp only[go_sem,d1,d2,hget,Dep.cs,f3,hIu.cell,zt];generalize hU:Store.put (Store.put _ u.next _) u.next _=U;have hUn:U.next=u.next+1:=by rw[<- hU];rfl
    have hUd:U.obj u.next=ze (.cells [.str d.name,.int .u8 d.op,.int .i64 d.evr.ar6,.str d.evr.ver,.str d.evr.rel]):=by rw[<- hU];simp only[aa3,if_true]
    have hIU:IS U 3 0 1 2 allI rv2 L L2' L3' tg' (i*W+1+(cy3 x).length+j):=hIu.mono (zg _) om λa ha=>by
     have e:¬a=u.next:=om;rw[<- hU];simp only[aa3,e,if_false]
    clear hU;have hlk:∀m,cj3 ⟨m,U.obj⟩ 2 .aa5 false (.map 2) (.str d.name)=ze (dd7 L3' d.name):=λm=>iq8 (σ:=⟨m,U.obj⟩) hIU.m3.map d.name
    simp only[go_sem,hlk];have⟨hcg,hcl⟩:=hIU.m3.cur d.name (u.next+11) om
    have hfz:cc3 (⟨u.next+11,U.obj⟩:Store) 0 (dd7 L3' d.name) (.aa2 ((ci7 L3' d.name).map Md.ad1)):=hcg.frz (λy hy=>(cb2 _ y hy).1) (λ_ _=>zu _) λe he c hc=>by
     obtain ⟨n,_,rfl⟩:=zi.1 he
     cases hc with
     | head=>exact .int _ _
     | tail _ h=>cases h
    have hat:=(ic2.cons hfz (ic2.cons (ae5 .i64 (i:Int)) .nil)).at;refine ab8 fok59 (bq4 hE hat.1 hat.2 (by simp[IV.plain]) (eq1 (ci7 L3' d.name) i om)) ?_;rintro v' s' ⟨rfl,rfl⟩;refine ⟨zg _,?_⟩
    have hin:(i:Int)∈ad6 (av1 (ad7 (pk.take i)).over ((x.ab2.take j).map (·.name)) i) d.name↔(i:Int)∈ci7 L3' d.name:=by
     rw[<- dd9 hkn3 r3,gf4]
    cases hc:decide ((i:Int)∈ci7 L3' d.name) with
    | true=>
     have hc':(i:Int)∈ci7 L3' d.name:=of_decide_eq_true hc;simp only[go_sem,w2];refine ⟨hjlt,L3',tg',?_,?_⟩
     .have:=hIU.mono (s':=⟨u.next+11,U.obj⟩) (zx _) (by show U.next<=u.next+11;omega) λ_ _=>rfl
      simpa only[zt,Nat.succ_eq_add_one] using this
     .rw[htk2,zk,zw,List.map_nil,cu6,if_pos (hin.2 hc')];exact r3
    | false=>
     have hc':¬(i:Int)∈ci7 L3' d.name:=of_decide_eq_false hc;have⟨t5,jb1,jb2,jb3,jb4,jpt⟩:=hIU.m3.upd d.name (i:Int) (u.next+28) (u.next+26) om om om;simp only[go_sem,hIU.cell,hUd,hlk,jb1,zt];rw[fo5 jb3 d.name (i:Int) (u.next+26)];have hn5:(t5.put 2 (aj8.map (mEs (bf7 L3' d.name (i:Int) (u.next+26))))).next=u.next+28:=jb2;have jpt':=jpt (t5.put 2 (aj8.map (mEs (bf7 L3' d.name (i:Int) (u.next+26))))).next (by rw[hn5];omega);have hI5:=hIU.of3 (s':=t5.put 2 (aj8.map (mEs (bf7 L3' d.name (i:Int) (u.next+26))))) (nid:=u.next+26) (by rw[hn5];omega) om jpt'.1 jpt'.2
     have hq:(be5 (bf7 L3' d.name (i:Int) (u.next+26))).Perm (as2 (av1 (ad7 (pk.take i)).over ((x.ab2.take j).map (·.name)) i) d.name i):=by
      rw[cy1];exact bw4 hkn3 r3
     clear jpt jpt' jb1 jb3 jb4;generalize t5.put 2 (aj8.map (mEs (bf7 L3' d.name (i:Int) (u.next+26))))=T5 at *;simp only[go_sem,w2];refine ⟨hjlt,bf7 L3' d.name (i:Int) (u.next+26),_,by simpa only[zt] using hI5,?_⟩;rw[htk2,zk,zw,List.map_nil,cu6,if_neg (λe=>hc' (hin.1 e))];exact hq
   .have hj':j=x.ab2.length:=om;subst hj';have d1:¬(x.ab2.length:Int)<x.ab2.length:=om;rw[zp] at r3;simp only[go_sem,d1,w1];refine ⟨hlt,rv2,L,L2',L3',tg',?_,?_,?_,?_⟩
    .rw[htk];have hle2:i*W+1+(cy3 x).length+x.ab2.length<=(i+1)*W:=by rw[Nat.succ_mul];omega
     exact hIu.mono hle2 (zg _) λ_ _=>rfl
    .rw[hidx];exact q1
    .rw[hidx];exact q2
    .rw[hidx];exact r3
  .have hge:(left.map sE).getD k (.undef,.undef)=sE left[k]:=by simp[zh,hk]
   rw[hge,eq2];generalize hT:Store.put t S2.next (aj8.as9 ((left.eraseIdx k).map sE) (ze (sE left[k])))=T;have hTn:T.next=t.next:=by rw[<- hT];rfl
   have hTm:T.obj S2.next=ze (.as9 ((left.eraseIdx k).map sE) (ze (sE left[k]))):=by rw[<- hT];simp only[aa3,if_true]
   have hTb:T.obj s.next=ze (.cells x.cs):=by rw[<- hT];simp only[aa3,hsm,if_false];exact hbt
   have hIT:IS T 3 0 1 2 allI rv2 L L2' L3 tg (i*W+1+j):=hIt.hj9 (zg _) om λa o ha hao hne=>by
    rw[<- hT];have e:¬a=S2.next:=λe=>by subst e;rw[hmi] at hao;cases hao;exact hne _ _ rfl
    simp only[aa3,e,if_false];exact hao
   clear hT;generalize hkey:left[k]=key at *;have⟨t3,ib1,ib2,ib3,ib4,hpt⟩:=hIT.m1.upd key (i:Int) (t.next+15) (t.next+13) om om om;have hlk:∀m,cj3 ⟨m,T.obj⟩ 2 .aa5 false (.map 0) (.str key)=ze (dd7 L key):=λm=>iq8 (σ:=⟨m,T.obj⟩) hIT.m1.map key
   have hme:∀m,cw4 ⟨m,T.obj⟩ (.ptr S2.next 0)=ze (.tuple [.str key,.agg []]):=λm=>kt8 (s:=⟨m,T.obj⟩) hTm
   simp only[go_sem,hme,hIT.cell,hlk,ib1,zt];rw[fo5 ib3 key (i:Int) (t.next+13)];have hn4:(t3.put 0 (aj8.map (mEs (bf7 L key (i:Int) (t.next+13))))).next=t.next+15:=ib2;have hpt':=hpt (t3.put 0 (aj8.map (mEs (bf7 L key (i:Int) (t.next+13))))).next (by rw[hn4];omega);have hI4:=hIT.of1 (s':=t3.put 0 (aj8.map (mEs (bf7 L key (i:Int) (t.next+13))))) (nid:=t.next+13) (by rw[hn4];omega) om hpt'.1 hpt'.2
   have hmi4:(t3.put 0 (aj8.map (mEs (bf7 L key (i:Int) (t.next+13))))).obj S2.next=ze (.as9 ((left.eraseIdx k).map sE) (ze (sE key))):=by
    have e:¬S2.next=0:=om;simp only[aa3,e,if_false];exact ib4 _ _ om hTm (λ_ e=>by cases e)
   have hb4:(t3.put 0 (aj8.map (mEs (bf7 L key (i:Int) (t.next+13))))).obj s.next=ze (.cells x.cs):=by
    have e:¬s.next=0:=om;simp only[aa3,e,if_false];exact ib4 _ _ om hTb (λ_ e=>by cases e)
   have hq:(be5 (bf7 L key (i:Int) (t.next+13))).Perm (be7 (ad7 (pk.take i)).au4 (done++[key]) i):=by
    rw[cy1,ez6];exact bw4 (by show ((be5 L).map (·.1)).Nodup;unfold be5;rw[z8];exact hIT.m1.keys) hpL
   clear hpt hpt' ib1 ib3 ib4;generalize t3.put 0 (aj8.map (mEs (bf7 L key (i:Int) (t.next+13))))=T4 at *;simp only[go_sem];refine ⟨om,om,hb4,done++[key],left.eraseIdx k,ze (sE key),bf7 L key (i:Int) (t.next+13),_,?_,by rw[zl,hdl];rfl,hmi4,by simpa only[zt] using hI4,hq⟩;rw[qw];refine List.Perm.trans (List.Perm.append_left done ?_) hpm;rw[<- hkey];exact (dw6 left k hk).symm
 .have hi':i=p.rows.length:=om;subst hi';have c1:¬(p.rows.length:Int)<p.rows.length:=om;rw[<- hpl,zp] at hI p1 p2 p3;simp only[go_sem,c1];refine .bo4 (.cons ?_ (.cons (ae5 _ _) .nil))
  have hall:∀(l:List aa1) (y:Index) (n:Nat),(idxFrom y n l).all=y.all++l:=by
   intro l
   induction l with
   | nil=>intro y n;simp[idxFrom]
   | cons a l ih=>intro y n;simp only[idxFrom,ih,em6];simp
  exact hI.frz (by unfold ad7;rw[hall];rfl) p1 p2 p3
def al7 {f:Nat}{args:List IV}{v:IV}{σ:Store}{K:IV->Store->Prop}(hf:okF Tryz.prog f=true)(h:Pq f args v)(a:K v σ):dc7 Tryz.prog EE qm f args σ K :=
 ak7 hf (ey8 h) λ_ _ ⟨c,b⟩=>by subst c;subst b;exact ⟨zg _,a⟩
def az9 (x:Index):Bnd 0 x.v:=.ab5 _ λc hc=>by
 simp only[za,zb,or_false] at hc;rcases hc with rfl|rfl|rfl|rfl
 .exact au5 _
 .exact ef2 _
 .exact ef2 _
 .exact ef2 _
def hk6 (x:Index)(l:List Int)(U:l.length<2^30)(k:Nat)(cap:List IV)(w:Int->Bool)(g:∀c∈cap,Bnd 0 c)(q:okF Tryz.prog k=true)
  (P:∀n∈l,∃m:Nat,n=m/\∃h:m<x.all.length,Pq k (.agg x.all[m].cs::.int .i64 n::cap) (.bool (w n))) :
  Pq 120 [x.v,.aa2 (l.map Md.ad1),.func (.func k) [] cap] (.aa2 ((l.filter w).map Md.ad1)):=by
 have I:x.v=.ab5 [.aa2 (x.all.map aa1.cs),.am2 (nmV x.au4),.am2 (nmV x.names),.am2 (nmV x.over)]:=rfl;have j:=az9 x;rw[I] at j ⊢;generalize IV.am2 (nmV x.au4)=v1 at *;generalize IV.am2 (nmV x.names)=v2 at *;generalize IV.am2 (nmV x.over)=v3 at *;refine af5 hE fok120 (nZ rfl) (λa F=>?_) ?_
 .simp only[za,zb,or_false] at F;rcases F with rfl|rfl|rfl
  .exact j
  .exact ax6 _
  .exact .func _ _ _ (λc hc=>by cases hc) g
 simp only[ic120,go_sem];refine aa9 noT (λi fr s=>∃b,fr=[(0,.ab5 [.aa2 (x.all.map aa1.cs),v1,v2,v3]),(2,.func (.func k) [] cap),(7,b),(10,.aa2 (l.map Md.ad1)),(11,.int .i64 l.length),(12,.int .i64 i)]/\Grow s b 1 (((l.take i).filter w).map Md.ad1)) l.length ⟨.aa5,rfl,.inl ⟨rfl,rfl⟩⟩ ?_;rintro i fr s L ⟨b,rfl,o⟩;by_cases a:i<l.length
 .have⟨n,J,_,N,f,d⟩:=ad3 l i a;have A:(i:Int)<l.length:=om;have T:(0:Int)<=i:=om;have B:=ac6 (i:=i) om;obtain ⟨m,rfl,K,p⟩:=P n J;have S:(m:Int)<x.all.length:=om;have Q:(0:Int)<=m:=om;have t:(x.all.map aa1.cs).getD m []=x.all[m].cs:=by simp[zh,K]
  simp only[go_sem,A,T,S,Q,f,Md.ad1,t,ad8,ad9,ac9,zd,zc];refine al7 q p ?_
  cases D:w (m:Int) with
  | false=>
   simp only[go_sem,B]
   exact ⟨a,b,rfl,by rw[d,qt];simpa [D] using o⟩
  | true=>
   have u:Grow ⟨s.next+1,s.obj⟩ b 1 (((l.take i).filter w).map Md.ad1):=Grow.mono (σ:=s) o (zx _) λ_ _ _=>rfl
   have E:((l.take i).filter w).length<=i:=by
    refine zn (qn _ _) ?_;rw[zj];omega
   have z:=ai1 (nid:=s.next) (e:=[.int .i64 (m:Int)]) u (cb2 _) ⟨rfl,rfl⟩ (by rw[zc];omega);simp only[go_sem,z,B];refine ⟨a,_,rfl,?_⟩;rw[d,qt,zk];have e:List.filter w [(m:Int)]=[(m:Int)]:=by simp[D]
   rw[e];refine .inr ⟨s.next,by simp,?_,?_⟩
   .show (if s.next=s.next then _ else _)=_;rw[if_pos rfl];rfl
   .show s.next<(ad4 b _).next;rw[ac1];exact Nat.lt_succ_self _
 .have r:i=l.length:=om;subst r;have A:¬(l.length:Int)<l.length:=om;rw[zp] at o;simp only[go_sem,A];refine o.frz (λy H=>(cb2 _ y H).1) (λ_ _=>zu _) λe M c hc=>?_
  obtain ⟨n,_,rfl⟩:=zi.1 M
  cases hc with
  | head=>exact .int _ _
  | tail _ h=>cases h
def eq4 (s:Str):Pq 268 [.str s] (.func (.func 281) [] [.ab5 [.str s]]):=by
 refine af5 hE fok268 (nZ rfl) (ae6 (.str _)) ?_;simp only[ic268,go_sem];have b:∀c∈[IV.str s],Bnd 0 c:=ae6 (.str _);have a:∀c∈[IV.ab5 [.str s]],Bnd 0 c:=ae6 (.ab5 _ b);exact .keep _ (.func _ _ _ (λc hc=>by cases hc) a)
def ch1 (l:List Part):∀e∈l.map Part.cs,e.length=2/\e.all IV.leaf=true:=λe a=>by
 obtain ⟨x,_,rfl⟩:=zi.1 a;exact ⟨rfl,rfl⟩
def gi6:∀(n:Nat) (l:Str),l.length<=n->(av6 n l).length<=l.length:=by
 intro n
 induction n with
 | zero=>intro l h;simp[av6]
 | succ n ih=>
  intro l h
  cases l with
  | nil=>simp[av6]
  | cons b l=>
   simp only[zm] at h;simp only[av6];split
   .exact zn (ih l om) sm
   .split
    .simp only[zm];have:=ih l om;omega
    .simp only[zm]
     have a:((b::l).dropWhile λc=>af6 c==af6 b).length<=l.length:=by
      rw[qq,if_pos sm];exact cz3 l
     have:=ih _ (zn a om);omega
def ct2 (s:Str):(af9 s).length<=s.length:=gi6 _ _ (zg _)
def dw7 (s:Str)(hs:s.length<2^30)(σ:Store):Cq 232 [.str s] σ λv t=>(∀i,i<σ.next->t.obj i=σ.obj i)/\σ.next<=t.next/\Grow t v 2 ((af9 s).map Part.cs)/\∀id n,v=.slice id 0 n 2->σ.next<=id:=by
 refine C_f fok232 (nZ rfl) ?_;simp only[ic232,go_sem];refine aa4 fok268 (eq4 s) ?_;simp only[go_sem];have hvl:=ct2 s;refine dc1 (iq2 s om) (λrest t=>∃n v,n<=(af9 s).length/\rest=((af9 s).drop n).map evP/\(∀i,i<σ.next->t.obj i=σ.obj i)/\t.obj σ.next=ze (.cells [v])/\σ.next<t.next/\Grow t v 2 (((af9 s).take n).map Part.cs)/\∀id k,v=.slice id 0 k 2->σ.next+1<id) (λ_ _ _=>trivial) ?_ ?_ ?_ ?_ ?_
 .rintro rest t t' ⟨n,v,h0,h1,h2,h3,h4,h5,h6⟩ hn ho;exact ⟨n,v,h0,h1,λi hi=>by rw[ho i om];exact h2 i hi,by rw[ho _ h4];exact h3,om,h5.mono hn λid _ hid=>ho id hid,h6⟩
 .intro a ha;obtain ⟨p,_,rfl⟩:=zi.1 ha;rfl
 .intro o;have e0:¬σ.next=σ.next+1:=om;refine ⟨0,.aa5,qd _,rfl,λi hi=>?_,?_,by show σ.next<σ.next+1+1;omega,.inl ⟨rfl,by simp⟩,λid k h=>by cases h⟩
  .have e1:¬i=σ.next:=om;have e2:¬i=σ.next+1:=om;simp only[aa3,aa7,e1,e2,if_false]
  .simp only[aa3,aa7,e0,if_false,if_true]
 .rintro L pre a rest t hev ⟨n,v,h0,h1,h2,h3,h4,h5,h6⟩ hL hlt
  have hn:n<(af9 s).length:=by
   rcases Nat.lt_or_ge n (af9 s).length with h|h
   .exact h
   .rw[zy h] at h1;cases h1
  rw[zq hn,zw] at h1;have⟨ha,hrest⟩:=List.cons.inj h1;subst ha;simp only[evP,Part.cs,aa7] at hL hlt ⊢;have e1:¬σ.next+1=t.next:=om;have e2:¬σ.next=t.next:=om;have e3:¬σ.next=σ.next+1:=om;have e4:¬t.next=σ.next+1:=om;have e5:¬t.next=σ.next:=om;simp only[go_sem,hL,e1,e2,e3,e4,h3];generalize hU:(((Store.put ⟨t.next+1,t.obj⟩ t.next (aj8.cells [IV.int .u8 0,IV.str []])).put t.next (aj8.cells [IV.int .u8 ↑(af9 s)[n].kind,IV.str (af9 s)[n].s])).put (σ.next+1) (L .busy qm))=U
  have hUo:∀i,i<t.next->i≠σ.next+1->U.obj i=t.obj i:=λi hi hne=>by
   have:¬i=t.next:=om;rw[<- hU];simp only[aa3,hne,this,if_false]
  have hUL:U.obj (σ.next+1)=ze (L .busy qm):=by rw[<- hU];simp only[aa3,if_true]
  have hg:Grow ⟨t.next+1+1,U.obj⟩ v 2 (((af9 s).take n).map Part.cs):=by
   refine h5.mono (by show t.next<=t.next+1+1;omega) λid hv hid=>?_
   have:=h6 _ _ hv;exact hUo id hid om
  have hl0:(((af9 s).take n).map Part.cs).length=n:=by rw[zc,zj];omega
  have hap:=ai1 (nid:=t.next+1) (e:=[IV.int .u8 ↑(af9 s)[n].kind,IV.str (af9 s)[n].s]) hg (ch1 _) ⟨rfl,rfl⟩ (by rw[hl0];omega);have k1:=ae4 hg σ.next (.cells [v]) (by show U.obj _=_;rw[hUo _ h4 e3];exact h3) (λ_ h=>by cases h)
  have k2:(ad4 v ⟨t.next+1+1,U.obj⟩).obj (σ.next+1)=ze (L .busy qm):=by
   cases hv:v<;>try exact hUL
   rename_i id o n' e;show (if σ.next+1=id then qm else U.obj _)=_;rcases h5 with ⟨h,_⟩|⟨id',h,_,_⟩
   .rw[h] at hv;cases hv
   .rw[hv] at h;cases h;have:=h6 _ _ hv;rw[if_neg om];exact hUL
  have k3:∀i,i<σ.next->(ad4 v ⟨t.next+1+1,U.obj⟩).obj i=σ.obj i:=λi hi=>by
   have e7:U.obj i=σ.obj i:=by rw[hUo i om om];exact h2 i hi
   cases hv:v<;>try exact e7
   rename_i id o n' e;show (if i=id then qm else U.obj _)=_;rcases h5 with ⟨h,_⟩|⟨id',h,_,_⟩
   .rw[h] at hv;cases hv
   .rw[hv] at h;cases h;have:=h6 _ _ hv;rw[if_neg om];exact e7
  have kn:=ac1 (σ:=⟨t.next+1+1,U.obj⟩) v;rw[hl0] at hap;have e6:¬σ.next=t.next+1:=om;have e7:¬σ.next+1=t.next+1:=om;have e8:¬σ.next+1=σ.next:=om;simp only[go_sem,hap,e6,k1,e7,e8,k2];refine ea6 (by rw[aa7,aa7,aa7,kn];show t.next<=t.next+1+1;omega) (by simp only[aa3,if_true]) ?_;refine ⟨n+1,.slice (t.next+1) 0 (n+1) 2,hn,hrest,λi hi=>?_,?_,?_,?_,λid k h=>?_⟩
  .have g1:¬i=σ.next+1:=om;have g2:¬i=σ.next:=om;have g3:¬i=t.next+1:=om;simp only[aa3,g1,g2,g3,if_false];exact k3 i hi
  .simp only[aa3,e3,if_false,if_true]
  .simp only[aa7,kn];omega
  .have htk:(af9 s).take (n+1)=(af9 s).take n++[(af9 s)[n]]:=by rw[List.take_succ_eq_append_getElem hn]
   rw[htk,zk];refine .inr ⟨t.next+1,by simp;omega,?_,by simp only[aa7,kn];omega⟩;have g1:¬t.next+1=σ.next+1:=om;have g2:¬t.next+1=σ.next:=om;simp only[aa3,g1,g2,if_false,if_true];rfl
  .cases h;omega
 .rintro t o ⟨n,v,h0,h1,h2,h3,h4,h5,h6⟩ hlt ho
  have hn:n=(af9 s).length:=by
   rcases Nat.lt_or_ge n (af9 s).length with h|h
   .rw[zq h] at h1;cases h1
   .omega
  subst hn;have e3:¬σ.next=σ.next+1:=om;simp only[aa7] at hlt ho ⊢;simp only[go_sem,e3,h3];rw[zp] at h5;refine ⟨λi hi=>?_,om,h5.mono (zg _) λid hv hid=>?_,λid k h=>?_⟩
  .have g1:¬i=σ.next+1:=om;rw[if_neg g1];exact h2 i hi
  .have:=h6 _ _ hv;have g1:¬id=σ.next+1:=om;show (if id=σ.next+1 then qm else t.obj id)=_;rw[if_neg g1]
  .have:=h6 _ _ h;omega
def jc4 {p:UInt8->Bool}(l:Str):(l.takeWhile p).length<=l.length:=(List.takeWhile_sublist _).length_le
def ir3:∀(n:Nat) (l:Str),l.length<=n->∀p∈av6 n l,p.s.length<=l.length:=by
 intro n
 induction n with
 | zero=>intro l h p hp;simp[av6] at hp
 | succ n ih=>
  intro l h p hp
  cases l with
  | nil=>simp[av6] at hp
  | cons b l=>
   simp only[zm] at h;simp only[av6] at hp;split at hp
   .exact zn (ih l om p hp) sm
   .split at hp
    .rcases za.1 hp with rfl|hp
     .simp
     .exact zn (ih l om p hp) sm
    .have a:((b::l).dropWhile λc=>af6 c==af6 b).length<=l.length:=by
      rw[qq,if_pos sm];exact cz3 l
     rcases za.1 hp with rfl|hp
     .simp only;split
      .exact zn (cz3 _) (jc4 _)
      .exact jc4 _
     .exact zn (ih _ (zn a om) p hp) (zn a sm)
def ir4 (s:Str):∀p∈af9 s,p.s.length<=s.length:=ir3 _ _ (zg _)
def gx1:Part:=⟨2,[]⟩
abbrev vL (s:Str):List Part:=af9 s++[gx1]
def kx9 (s:Str):∀p∈vL s,p.s.length<=s.length:=λp hp=>by
 rcases qk.1 hp with h|h
 .exact ir4 s p h
 .simp[gx1] at h;subst h;exact qd _
def ef6 {xs a:List Part}{i:Nat}(c:i<xs.length)(b:i<a.length):ah1 (xs.drop i) (a.drop i)=if ag8 xs[i] a[i]≠0 then ag8 xs[i] a[i] else ah1 (xs.drop (i+1)) (a.drop (i+1)):=by
 rw[zq c,zq b,ah1]
def eq5 {xs a:List Part}{i:Nat}(h:xs.length<=i\/a.length<=i):ah1 (xs.drop i) (a.drop i)=0:=by
 rcases h with h|h
 .rw[zy h,ah1];intros;contradiction
 .rw[zy h];cases xs.drop i<;>rw[ah1]<;>intros<;>contradiction
def jo1 (l:List Part)(i:Nat)(h:i<l.length):(l.map Part.cs).getD i []=Part.cs l[i]:=by simp[zh,h]
def hl8 {σ:Store}{id i:Nat}{l:List Part}(c:σ.obj id=ze (.row (l.map Part.cs).flatten))(h:i<l.length):eb5 (ze 2) (i*2) (σ.obj id)=ze (.agg (Part.cs l[i])):=by
 have b:∀e∈l.map Part.cs,e.length=2:=λe d=>(ch1 l e d).1
 have a:=bc1 b;rw[zc] at a;have hp:=bp9 b i (by rw[zc];exact h);rw[c];simp only[eb5];have f:i*2+2<=l.length*2:=om;rw[if_pos (by rw[qh,a];omega),hp,jo1 l i h]
def ch2 (a b:Str)(Y:a.length<2^30)(X:b.length<2^30):Pq 184 [.str a,.str b] (.int .i64 (as6 a b)):=by
 refine af5 hE fok184 (nZ rfl) (ap7 (.str _) (.str _)) ?_;have la:=ct2 a;have lb:=ct2 b;simp only[ic184,go_sem];refine ab8 fok232 (dw7 a Y _) ?_;rintro v1 F ⟨-,m,g1,-⟩;refine ⟨m,?_⟩;have m:2<=F.next:=m;have h:=ai1 (nid:=0) (e:=[IV.int .u8 2,IV.str []]) g1 (ch1 _) ⟨rfl,rfl⟩ (by rw[zc];omega);simp only[go_sem,h];have V:∀e∈(vL a).map Part.cs,e.length=2:=λe W=>(ch1 _ e W).1
 have I:((af9 a).map Part.cs++[[IV.int .u8 2,IV.str []]]).flatten=((vL a).map Part.cs).flatten:=by rw[zk];rfl
 have H:((af9 b).map Part.cs++[[IV.int .u8 2,IV.str []]]).flatten=((vL b).map Part.cs).flatten:=by rw[zk];rfl
 rw[I];refine ab8 fok232 (dw7 b X _) ?_;rintro z f ⟨K,k,D,h2⟩;refine ⟨k,?_⟩;have k:2<=f.next:=by rw[aa7,ac1] at k;omega
 have d:=ai1 (nid:=1) (e:=[IV.int .u8 2,IV.str []]) D (ch1 _) ⟨rfl,rfl⟩ (by rw[zc];omega)
 have A:f.obj 0=ze (.row ((vL a).map Part.cs).flatten):=by
  rw[K 0 (by rw[aa7,ac1];omega)];simp only[aa3,if_true]
 have J:(ad4 z f).obj 0=ze (.row ((vL a).map Part.cs).flatten):=by
  rcases D with ⟨rfl,_⟩|⟨id,rfl,_,_⟩
  .exact A
  .have:=h2 _ _ rfl;rw[aa7,ac1] at this;show (if 0=id then qm else f.obj 0)=_;rw[if_neg om];exact A
 rw[H] at d;simp only[go_sem,d];generalize r:(ad4 z f).put 1 (.row ((vL b).map Part.cs).flatten)=S;have Q:S.obj 0=ze (.row ((vL a).map Part.cs).flatten):=by rw[<- r];exact J
 have P:S.obj 1=ze (.row ((vL b).map Part.cs).flatten):=by rw[<- r];simp only[aa3,if_true]
 clear r h d
 have g:(if ((af9 b).length+1:Nat)<(((af9 a).length+1:Nat):Int) then (((af9 b).length+1:Nat):Int) else (((af9 a).length+1:Nat):Int))=((min (vL a).length (vL b).length:Nat):Int):=by
  simp only[zl,zm,ql];split<;>omega
 rw[g];have B:(af9 a).length+1=(vL a).length:=sm
 have hB:(af9 b).length+1=(vL b).length:=sm
 rw[B,hB];have t:min (vL a).length (vL b).length<=(vL a).length:=Nat.min_le_left _ _;have aa:min (vL a).length (vL b).length<=(vL b).length:=Nat.min_le_right _ _;have hN:(vL a).length<=min (vL a).length (vL b).length\/(vL b).length<=min (vL a).length (vL b).length:=om;have T:min (vL a).length (vL b).length<2^40:=by rw[<- B] at t;omega
 generalize min (vL a).length (vL b).length=N at *;refine aa9 noT (λi fr s=>fr=[(5,.slice 0 0 (vL a).length 2),(6,.slice 1 0 (vL b).length 2),(23,.int .i64 N),(24,.int .i64 i)]/\s.obj=S.obj/\as6 a b=ah1 ((vL a).drop i) ((vL b).drop i)) N ⟨rfl,rfl,rfl⟩ ?_;rintro i fr s U ⟨rfl,hs,c⟩;by_cases p:i<N
 .have u:(i:Int)<N:=om;have c2:(0:Int)<=i:=om;have o:i<(vL a).length:=om;have n:i<(vL b).length:=om;have c3:(i:Int)<(vL a).length:=om;have c4:(i:Int)<(vL b).length:=om;have E:=ac6 (i:=i) om;have M:=hl8 Q o;have L:=hl8 P n;rw[ef6 o n] at c;have hp:=gi5 (vL a)[i] (vL b)[i] (by have:=kx9 a _ (zf o);omega) (by have:=kx9 b _ (zf n);omega);generalize (vL a)[i]=x at *;generalize (vL b)[i]=y at *;simp only[go_sem,u,c2,c3,c4,hs,M,L];refine aa4 fok233 hp ?_;by_cases j:ag8 x y=0
  .simp only[go_sem,j,E];rw[j,if_neg sm] at c;exact ⟨p,c⟩
  .rw[if_pos j] at c;simp only[go_sem,j];rw[c];exact ae5 _ _
 .have q:i=N:=om;subst q;have u:¬(i:Int)<i:=om;rw[eq5 hN] at c;simp only[go_sem,u];rw[c];exact ae5 _ _
def hl9 (a b:EVR):Pq 182 [.ab5 a.cs,.ab5 b.cs] (.int .i64 (aq7 a.ar6 b.ar6)):=by
 refine aw8 fok182 (nZ rfl) λσ=>?_
 simp only[ic182,go_sem,EVR.cs];refine aa4 fok155 (bf3 _ _) ?_;simp only[go_sem,and_self]
def hm3 (a b:EVR)(d:a.ver.length<2^30)(c:b.ver.length<2^30):Pq 183 [.ab5 a.cs,.ab5 b.cs] (.int .i64 (as6 a.ver b.ver)):=by
 refine aw8 fok183 (nZ rfl) λσ=>?_
 simp only[ic183,go_sem,EVR.cs];refine aa4 fok184 (ch2 _ _ d c) ?_;simp only[go_sem,and_self]
def hm4 (a b:EVR)(d:a.rel.length<2^30)(c:b.rel.length<2^30):Pq 185 [.ab5 a.cs,.ab5 b.cs] (.int .i64 (if a.rel=[]\/b.rel=[] then 0 else as6 a.rel b.rel)):=by
 refine aw8 fok185 (nZ rfl) λσ=>?_
 by_cases e1:a.rel=[]
 .simp only[ic185,go_sem,EVR.cs,e1,true_or,and_self]
 .by_cases e2:b.rel=[]
  .simp only[ic185,go_sem,EVR.cs,e1,e2,or_true,and_self]
  .simp only[ic185,go_sem,EVR.cs,e1,e2,or_self];refine aa4 fok184 (ch2 _ _ d c) ?_;simp only[go_sem,and_self]
def fnC (f:Nat×List IV):List IV:=[.func (.func f.1) [] f.2]
def fe3 (b:List (Nat×List IV))(a:List Int)(z:b.length=a.length)(F:b.length<2^40)(D:∀f∈b,∀c∈f.2,Bnd 0 c)
  (h:∀i (h1:i<b.length) (h2:i<a.length),okF Tryz.prog b[i].1=true/\Pq b[i].1 b[i].2 (.int .i64 a[i])):Pq 181 [.aa2 (b.map fnC)] (.int .i64 (orM a)):=by
 refine af5 hE fok181 (nZ rfl) (ae6 (.aa2 _ λe A c hc=>?_)) ?_
 .obtain ⟨f,hf,rfl⟩:=zi.1 A
  cases hc with
  | head=>exact .func _ _ _ (λc hc=>by cases hc) (D f hf)
  | tail _ h=>cases h
 simp only[ic181,go_sem];refine aa9 noT (λi fr s=>fr=[(6,.aa2 (b.map fnC)),(7,.int .i64 b.length),(8,.int .i64 i)]/\orM a=orM (a.drop i)) b.length ⟨rfl,rfl⟩ ?_;rintro i fr s y ⟨rfl,j⟩;by_cases e:i<b.length
 .have⟨f,hf,d,B,k,u⟩:=ad3 b i e;have g:i<a.length:=om;have p:(i:Int)<b.length:=om;have E:(0:Int)<=i:=om;have t:=ac6 (i:=i) om;have⟨r,q⟩:=h i e g
  have o:b[i]=f:=by
   have:=zr e;rw[this] at d;exact ze.inj d
  rw[o] at r q;rw[zq g,orM] at j;generalize a[i]=x at *;simp only[go_sem,p,E,k,fnC];refine al7 r q ?_;by_cases m:x=0
  .subst m;simp only[go_sem,t];exact ⟨e,by simpa using j⟩
  .rw[if_neg m] at j;simp only[go_sem,m];rw[j];exact ae5 _ _
 .have n:i=b.length:=om;subst n;have p:¬(b.length:Int)<b.length:=om;rw[z,z2,orM] at j;simp only[go_sem,p];rw[j];exact ae5 _ _
def fo7 (a:EVR):Bnd 0 (.ab5 a.cs):=.ab5 _ λc hc=>by
 simp only[EVR.cs,za,zb,or_false] at hc;rcases hc with rfl|rfl|rfl
 .exact .int _ _
 .exact .str _
 .exact .str _
def ef7 (a:EVR):Bnd 0 (.agg a.cs):=.agg _ λc hc=>by
 simp only[EVR.cs,za,zb,or_false] at hc;rcases hc with rfl|rfl|rfl
 .exact .int _ _
 .exact .str _
 .exact .str _
def EVR.small (e:EVR):Prop:=e.ver.length<2^30/\e.rel.length<2^30
def ax7 (a b:EVR)(e:EVR.small a)(d:EVR.small b):Pq 127 [.agg a.cs,.agg b.cs] (.int .i64 (ao6 a b)):=by
 refine af5 hE fok127 (nZ rfl) (ap7 (ef7 a) (ef7 b)) ?_
 have f:ao6 a b=orM [aq7 a.ar6 b.ar6,as6 a.ver b.ver,if a.rel=[]\/b.rel=[] then 0 else as6 a.rel b.rel]:=by
  rw[km2];unfold ao6;split
  .rfl
  .split
   .rfl
   .rfl
 have hf:=fe3 [(182,[.ab5 a.cs,.ab5 b.cs]),(183,[.ab5 a.cs,.ab5 b.cs]),(185,[.ab5 a.cs,.ab5 b.cs])] [aq7 a.ar6 b.ar6,as6 a.ver b.ver,if a.rel=[]\/b.rel=[] then 0 else as6 a.rel b.rel] rfl sm
  (λf hf c hc=>by
   simp only[za,zb,or_false] at hf;rcases hf with rfl|rfl|rfl<;>exact ap7 (fo7 a) (fo7 b) c hc)
  (λi g j=>by
   match i,g with
   | 0,_=>exact ⟨fok182.1,hl9 a b⟩
   | 1,_=>exact ⟨fok183.1,hm3 a b e.1 d.1⟩
   | 2,_=>exact ⟨fok185.1,hm4 a b e.2 d.2⟩
   | i+3,h=>simp at h;omega)
 rw[<- f] at hf;have m:(IV.agg a.cs).cs.all IV.leaf=true:=rfl;have k:(IV.agg b.cs).cs.all IV.leaf=true:=rfl;simp only[EVR.cs] at hf ⊢;simp only[ic127,go_sem];refine aa4 fok181 hf ?_;simp only[go_sem];exact ae5 _ _
def dh3 (a b:Int):Int:=IntKind.u8.wrap ((BitVec.ofInt 8 a &&& BitVec.ofInt 8 b).toNat:Int)
def bo7 (a b:Int):aw5 .and (.int .u8 a) (.int .u8 b)=ze (.int .u8 (dh3 a b)):=rfl
def kt9 {n:Nat}(h:n<256):IntKind.u8.wrap (n:Int)=n:=by
 simp[IntKind.wrap,IntKind.bits,IntKind.signed];omega
def bh4 (a b:Nat)(c:a<256)(d:b<256):dh3 a b=((a &&& b:Nat):Int):=by
 unfold dh3;rw[BitVec.toNat_and]
 have e:∀n:Nat,n<256->(BitVec.ofInt 8 (n:Int)).toNat=n:=λn f=>by
  rw[BitVec.toNat_ofInt];omega
 rw[e a c,e b d];exact kt9 (qu Nat.and_le_left c)
def and7:∀a,a<256->((a &&& 7=0)↔a%8=0):=by decide +kernel
def hm5:∀x,x<256->((x &&& 7=0)↔(x.testBit 0=false/\x.testBit 1=false/\x.testBit 2=false)):=by decide +kernel
def and1:∀a,a<256->((a &&& 1=0)↔a.testBit 0=false):=by decide +kernel
def km3:∀a,a<256->((a &&& 4=0)↔a.testBit 2=false):=by decide +kernel
def hm6 (a b:Int):aq7 a b=-1\/aq7 a b=0\/aq7 a b=1:=by
 unfold aq7;split
 .exact .inl rfl
 .split
  .exact .inr (.inl rfl)
  .exact .inr (.inr rfl)
def kg1 (a b:Str):dd6 a b=-1\/dd6 a b=0\/dd6 a b=1:=by
 unfold dd6;split
 .exact .inl rfl
 .split
  .exact .inr (.inl rfl)
  .exact .inr (.inr rfl)
def hm7 (a b:Part):ag8 a b=-1\/ag8 a b=0\/ag8 a b=1:=by
 have h:∀k n s:Int,(k=-1\/k=0\/k=1)->(n=-1\/n=0\/n=1)->(s=-1\/s=0\/s=1)->((if k≠0 then k else if n≠0 then n else s)=-1\/(if k≠0 then k else if n≠0 then n else s)=0\/(if k≠0 then k else if n≠0 then n else s)=1):=by
  intro k n s e d c;rcases e with rfl|rfl|rfl<;>rcases d with rfl|rfl|rfl<;>simp<;>exact c
 refine h (aq7 a.kind b.kind) (if a.kind=5/\b.kind=5 then aq7 a.s.length b.s.length else 0) (dd6 a.s b.s) (hm6 _ _) ?_ (kg1 _ _);split
 .exact hm6 _ _
 .exact .inr (.inl rfl)
def gi7:∀(l m:List Part),ah1 l m=-1\/ah1 l m=0\/ah1 l m=1:=by
 intro l
 induction l with
 | nil=>intro m;exact .inr (.inl (by rw[ah1];intros;contradiction))
 | cons a l ih=>
  intro m
  cases m with
  | nil=>exact .inr (.inl (by rw[ah1];intros;contradiction))
  | cons b m=>
   rw[ah1];split
   .exact hm7 a b
   .exact ih m
def fo8 (a b:Str):as6 a b=-1\/as6 a b=0\/as6 a b=1:=gi7 _ _
def ir5 (a b:EVR):ao6 a b=-1\/ao6 a b=0\/ao6 a b=1:=by
 unfold ao6;split
 .exact hm6 _ _
 .split
  .exact fo8 _ _
  .split
   .exact .inr (.inl rfl)
   .exact fo8 _ _
def Dep.small (d:Dep):Prop:=0<=d.op/\d.op<256/\EVR.small d.evr
def au6 (d:Dep):Bnd 0 (.agg d.cs):=.agg _ λc hc=>by
 simp only[Dep.cs,za,zb,or_false] at hc;rcases hc with rfl|rfl|rfl|rfl|rfl
 .exact .str _
 .exact .int _ _
 .exact .int _ _
 .exact .str _
 .exact .str _
def fe4 (a b:Dep)(ha:Dep.small a)(m:Dep.small b):Pq 195 [.agg a.cs,.agg b.cs] (.bool (meet a b)):=by
 refine af5 hE fok195 (nZ rfl) (ap7 (au6 a) (au6 b)) ?_;have⟨a1,a2,a3⟩:=ha;have⟨Y,X,b3⟩:=m;have hc:=ax7 a.evr b.evr a3 b3;have W:=ir5 a.evr b.evr;unfold meet;generalize ao6 a.evr b.evr=n at hc W;simp only[EVR.cs] at hc;obtain ⟨x,A⟩:∃x:Nat,a.op=x:=⟨a.op.toNat,om⟩;obtain ⟨y,z⟩:∃y:Nat,b.op=y:=⟨b.op.toNat,om⟩;have c:x<256:=om;have d:y<256:=om;have p:dh3 x 7=((x &&& 7:Nat):Int):=bh4 x 7 c om;have o:dh3 y 7=((y &&& 7:Nat):Int):=bh4 y 7 d om;rw[A,z,zd,zd];by_cases g:x%8=0
 .have q:=(and7 x c).2 g;rw[q] at p;have t:dh3 x 7=0:=p;simp only[ic195,go_sem,Dep.cs,A,z,bo7,t,g,true_or];exact ab6 _
 .have q:¬(x &&& 7=0):=λe=>g ((and7 x c).1 e)
  have t:¬dh3 x 7=0:=by rw[p];omega
  by_cases f:y%8=0
  .have r:=(and7 y d).2 f;rw[r] at o;have E:dh3 y 7=0:=o;simp only[ic195,go_sem,Dep.cs,A,z,bo7,t,E,f,or_true];exact ab6 _
  .have r:¬(y &&& 7=0):=λe=>f ((and7 y d).1 e)
   have E:¬dh3 y 7=0:=by rw[o];omega
   simp only[ic195,go_sem,Dep.cs,A,z,bo7,t,E,g,f,or_self];refine aa4 fok127 hc ?_;have J:dh3 x y=((x &&& y:Nat):Int):=bh4 x y c d;have j:x &&& y<256:=qu Nat.and_le_left c;have s:dh3 ((x &&& y:Nat):Int) 7=((x &&& y &&& 7:Nat):Int):=bh4 _ 7 j om;have D:=hl7 1 (.inr (.inr rfl));have B:=hl7 (-1) (.inl rfl);have n1:¬((1:Int)<0):=by decide
   have U:¬((1:Int)=0):=by decide
   have n3:((-1:Int)<0):=by decide
   rw[if_neg n1,if_neg U] at D;rw[if_pos n3] at B;have P:dh3 x 1=((x &&& 1:Nat):Int):=bh4 x 1 c om;have N:dh3 x 4=((x &&& 4:Nat):Int):=bh4 x 4 c om;have M:dh3 y 1=((y &&& 1:Nat):Int):=bh4 y 1 d om;have L:dh3 y 4=((y &&& 4:Nat):Int):=bh4 y 4 d om;have w1:IntKind.i64.wrap (0 - -1)=1:=by decide
   have w2:IntKind.i64.wrap (0-1)=-1:=by decide
   have K:∀(k i:Nat),bit (k:Int) i=k.testBit i:=λk i=>by unfold bit;rw[zd]
   have z0:∀k:Nat,((k:Int)=0)↔k=0:=λk=>by omega
   rcases W with rfl|rfl|rfl
   .have I:side (- -1)=2:=by decide
    have H:side (-1)=0:=by decide
    have m0:¬((-1:Int)=0):=by decide
    simp only[go_sem,m0,w1,I,H,K];refine aa8 D ?_
    cases m:x.testBit 2 with
    | true=>
     have e:¬dh3 x 4=0:=by rw[N,z0,km3 x c,m];simp
     simp only[go_sem,bo7,e]
     exact ab6 _
    | false=>
     have e:dh3 x 4=0:=by rw[N,z0,km3 x c,m]
     simp only[go_sem,bo7,e];refine aa8 B ?_
     cases hc:y.testBit 0 with
     | true=>
      have e2:¬dh3 y 1=0:=by rw[M,z0,and1 y d,hc];simp
      simp only[go_sem,bo7,e2]
      exact ab6 _
     | false=>
      have e2:dh3 y 1=0:=by rw[M,z0,and1 y d,hc]
      simp only[go_sem,bo7,e2];exact ab6 _
   .simp only[go_sem,bo7,J,s,K]
    have e:(!decide (((x &&& y &&& 7:Nat):Int)=0))=(x.testBit 0&&y.testBit 0||x.testBit 1&&y.testBit 1||x.testBit 2&&y.testBit 2):=by
     by_cases u:x &&& y &&& 7=0
     .have⟨T,S,Q⟩:=(hm5 _ j).1 u;rw[qb] at T S Q;rw[u,T,S,Q];rfl
     .have F:¬((x &&& y &&& 7:Nat):Int)=0:=λh=>u om
      have V:¬((x &&& y).testBit 0=false/\(x &&& y).testBit 1=false/\(x &&& y).testBit 2=false):=λh=>u ((hm5 _ j).2 h)
      rw[qb,qb,qb] at V;rw[decide_eq_false F]
      revert V
      generalize (x.testBit 0&&y.testBit 0)=b0;generalize (x.testBit 1&&y.testBit 1)=Y;generalize (x.testBit 2&&y.testBit 2)=X;cases b0<;>cases Y<;>cases X<;>simp
    rw[e];exact ab6 _
   .have I:side (-1)=0:=by decide
    have H:side 1=2:=by decide
    simp only[go_sem,U,w2,I,H,K];refine aa8 B ?_
    cases m:x.testBit 0 with
    | true=>
     have e:¬dh3 x 1=0:=by rw[P,z0,and1 x c,m];simp
     simp only[go_sem,bo7,e]
     exact ab6 _
    | false=>
     have e:dh3 x 1=0:=by rw[P,z0,and1 x c,m]
     simp only[go_sem,bo7,e];refine aa8 D ?_
     cases hc:y.testBit 2 with
     | true=>
      have e2:¬dh3 y 4=0:=by rw[L,z0,km3 y d,hc];simp
      simp only[go_sem,bo7,e2]
      exact ab6 _
     | false=>
      have e2:dh3 y 4=0:=by rw[L,z0,km3 y d,hc]
      simp only[go_sem,bo7,e2];exact ab6 _
def bc5 (d:Dep):Bnd 0 (.ab5 d.cs):=.ab5 _ λc hc=>by
 simp only[Dep.cs,za,zb,or_false] at hc;rcases hc with rfl|rfl|rfl|rfl|rfl
 .exact .str _
 .exact .int _ _
 .exact .int _ _
 .exact .str _
 .exact .str _
def fo9 (a d:Dep)(e:Dep.small a)(c:Dep.small d):Pq 140 [.agg a.cs,.agg d.cs] (.bool (meets a d)):=by
 refine af5 hE fok140 (nZ rfl) (ap7 (au6 a) (au6 d)) ?_;have b:=fe4 a d e c;unfold meets;simp only[Dep.cs] at b;by_cases h:a.name=d.name
 .simp only[ic140,go_sem,Dep.cs,h] at b ⊢;refine aa4 fok195 b ?_;simp only[go_sem];exact ab6 _
 .simp only[ic140,go_sem,Dep.cs,h];exact ab6 _
def hm8 (n:Str)(e:EVR):Pq 230 [.str n,.agg e.cs] (.agg (Dep.cs ⟨n,2,e⟩)):=by
 refine af5 hE fok230 (nZ rfl) (ap7 (.str _) (ef7 e)) ?_;simp only[ic230,go_sem,EVR.cs,Dep.cs]
 exact .keep _ (.agg _ λc hc=>by
  simp only[za,zb,or_false] at hc;rcases hc with rfl|rfl|rfl|rfl|rfl
  .exact .str _
  .exact .int _ _
  .exact .int _ _
  .exact .str _
  .exact .str _)
def hm9 (p:aa1):Pq 179 [.agg p.cs] (.agg (own p).cs):=by
 refine af5 hE fok179 (nZ rfl) (ae6 (ap5 p)) ?_;have a:=hm8 p.name p.evr;simp only[EVR.cs,Dep.cs] at a;simp only[ic179,go_sem,aa1.cs,own,Dep.cs];refine aa4 fok230 a ?_;simp only[go_sem];exact .keep _ (au6 (own p))
def Pkg.small (p:aa1):Prop:=EVR.small p.evr/\(∀d∈p.provides,Dep.small d)/\(∀d∈p.ab2,Dep.small d)/\p.provides.length<2^40/\p.ab2.length<2^40/\p.files.length<2^40
def hn6 {p:aa1}(h:Pkg.small p):Dep.small (own p):=⟨by show (0:Int)<=2;decide,by show (2:Int)<256;decide,h.1⟩
def bc6 (p:aa1):p.cs.length=15:=rfl
def ax8 (p:aa1):p.cs.take 15=p.cs:=rfl
def au2 (p:aa1):p.cs.all IV.leaf=true:=rfl
def ef8 (p:aa1)(d:Dep)(hp:Pkg.small p)(c:Dep.small d):Pq 122 [.agg p.cs,.agg d.cs] (.bool (named p d)):=by
 refine af5 hE fok122 (nZ rfl) (ap7 (ap5 p) (au6 d)) ?_;have a:=hm9 p;have b:=fo9 (own p) d (hn6 hp) c;generalize e:Dep.cs (own p)=x at a b;simp only[ic122,go_sem,bc6,ax8,au2,aq8,an2,am8];refine aa8 a ?_;simp only[go_sem,aq8,an2,am8];refine aa8 b ?_;simp only[go_sem];exact ab6 _
def ir6 (q:aa1)(d:Dep)(a:Pkg.small q)(b:Dep.small d):Pq 234 ([]++[.agg d.cs]++[.ab5 q.cs]) (.bool (named q d)):=by
 refine af5 hE fok234 (nZ rfl) (ap7 (au6 d) (.ab5 _ (ag4 q))) ?_;simp only[ic234,go_sem,bc6,ax8,au2,aq8,an2,am8];refine aa4 fok122 (ef8 q d a b) ?_;simp only[go_sem];exact ab6 _
def eq6 (p q:aa1)(hp:Pkg.small p)(a:Pkg.small q):Pq 188 [.agg p.cs,.agg q.cs] (.bool (ab2 p q)):=by
 refine af5 hE fok188 (nZ rfl) (ap7 (ap5 p) (ap5 q)) ?_;have hc:=cg7 p.ab2 234 [] [.ab5 q.cs] (λd=>named q d) (by have:=hp.2.2.2.2.1;omega) fok234.1 λd b=>ir6 q d a (hp.2.2.1 d b)
 have hf:(p.cs.drop 9).head? = ze (deps p.ab2):=rfl;simp only[ic188,go_sem,au2,hf];refine aa4 fok79 hc ?_;simp only[go_sem];exact ab6 _
def hn7 (a d:Dep)(c:Dep.small a)(b:Dep.small d):Pq 139 ([]++[.agg a.cs]++[.ab5 d.cs]) (.bool (meets a d)):=by
 refine af5 hE fok139 (nZ rfl) (ap7 (au6 a) (bc5 d)) ?_;simp only[ic139,go_sem,aq8,an2,am8];refine aa4 fok140 (fo9 a d c b) ?_;simp only[go_sem];exact ab6 _
def fe5 (l:List Str)(s:Str)(j:l.length<2^40):Pq 196 [.aa2 (l.map cc4),.str s] (.int .i64 (ak4 (λx=>decide (s=x)) l 0)):=by
 refine aw8 fok196 (nZ rfl) λσ=>?_
 simp only[ic196,go_sem];refine aa9 noT (λi fr t=>t=σ/\fr=[(0,.aa2 (l.map cc4)),(1,.str s),(7,.int .i64 l.length),(8,.int .i64 i)]/\ak4 (λx=>decide (s=x)) l 0=ak4 (λx=>decide (s=x)) (l.drop i) i) l.length ⟨rfl,rfl,rfl⟩ ?_;rintro i fr t hi ⟨rfl,rfl,hf⟩;by_cases b:i<l.length
 .have⟨x,k,_,f,a,_⟩:=ad3 l i b;have c:(i:Int)<l.length:=om;have g:(0:Int)<=i:=om;have h:=ac6 (i:=i) om;rw[f,ak4] at hf;by_cases e:s=x
  .rw[if_pos (by simpa using e)] at hf;subst e;simp only[go_sem,c,g,a,ee9,cc4,hf,and_self]
  .rw[if_neg (by simpa using e)] at hf;simp only[go_sem,c,g,a,ee9,cc4,e,h];exact ⟨b,by rw[hf];simp only[Int.natCast_add,Int.natCast_one]⟩
 .have d:i=l.length:=om;subst d;have c:¬(l.length:Int)<l.length:=om;rw[z2] at hf;simp only[go_sem,c,hf,ak4,and_self]
def hn8 (l:List Str)(s:Str)(b:l.length<2^40):Pq 141 [.aa2 (l.map cc4),.str s] (.bool (l.contains s)):=by
 refine aw8 fok141 (nZ rfl) λσ=>?_
 simp only[ic141,go_sem];refine aa4 fok196 (fe5 l s b) ?_
 have e:l.any (λx=>decide (s=x))=l.contains s:=by
  induction l with
  | nil=>rfl
  | cons a l ih=>rw[List.any_cons,List.contains_cons,ih (by simp at b;omega)];congr 1;by_cases h:s=a<;>simp[h]
 simp only[go_sem,aw2,e,and_self]
def cb3 (p:aa1)(d:Dep)(hp:Pkg.small p)(c:Dep.small d):Pq 81 [.agg p.cs,.agg d.cs] (.bool (provides p d)):=by
 refine af5 hE fok81 (nZ rfl) (ap7 (ap5 p) (au6 d)) ?_;have b:=ef8 p d hp c;have hc:=cg7 p.provides 139 [] [.ab5 d.cs] (λa=>meets a d) (by have:=hp.2.2.2.1;omega) fok139.1 λa f=>hn7 a d (hp.2.1 a f) c
 have hs:=hn8 p.files d.name hp.2.2.2.2.2;have hf:(p.cs.drop 6).head? = ze (deps p.provides):=rfl;have i:(p.cs.drop 14).head? = ze (strs p.files):=rfl;have h:d.cs.head? = ze (.str d.name):=rfl;have g:(d.cs.drop 1).head? = ze (.int .u8 d.op):=rfl;unfold provides
 cases e:named p d with
 | true=>
  rw[e] at b;simp only[ic81,go_sem,bc6,ax8,au2,aq8,an2,am8];refine aa4 fok122 b ?_;simp only[go_sem]
  exact ab6 _
 | false=>
  rw[e] at b;simp only[ic81,go_sem,bc6,ax8,au2,aq8,an2,am8];refine aa4 fok122 b ?_;simp only[go_sem,hf];refine aa4 fok79 hc ?_
  cases f:p.provides.any (λa=>meets a d) with
  | true=>
   simp only[go_sem]
   exact ab6 _
  | false=>
   by_cases h0:d.op=0
   .simp only[go_sem,h,g,h0,i];refine aa4 fok141 hs ?_;simp only[go_sem];exact ab6 _
   .simp only[go_sem,h,g,h0];exact ab6 _
def dw8 (p:aa1)(n:Int)(d:Dep)(hp:Pkg.small p)(b:Dep.small d):Pq 191 [.agg p.cs,.int .i64 n,.ab5 d.cs] (.bool (provides p d)):=by
 refine af5 hE fok191 (nZ rfl) (λa a=>by
  simp only[za,zb,or_false] at a;rcases a with rfl|rfl|rfl
  .exact ap5 p
  .exact .int _ _
  .exact bc5 d) ?_
 simp only[ic191,go_sem,bc6,ax8,au2,aq8,an2,am8];refine aa4 fok81 (cb3 p d hp b) ?_;simp only[go_sem];exact ab6 _
def dh4 (p:aa1)(n:Int)(d:Dep)(hp:Pkg.small p)(b:Dep.small d):Pq 121 [.agg p.cs,.int .i64 n,.ab5 d.cs] (.bool (named p d)):=by
 refine af5 hE fok121 (nZ rfl) (λa a=>by
  simp only[za,zb,or_false] at a;rcases a with rfl|rfl|rfl
  .exact ap5 p
  .exact .int _ _
  .exact bc5 d) ?_
 simp only[ic121,go_sem,bc6,ax8,au2,aq8,an2,am8];refine aa4 fok122 (ef8 p d hp b) ?_;simp only[go_sem];exact ab6 _
def eq7 (nm:Nms)(σ:Store)(k:Str):∃v,cj3 σ 2 .aa5 false (.am2 (nmV nm)) (.str k)=ze v/\(v=.aa2 ((ad6 nm k).map Md.ad1)\/v=.aa5/\ad6 nm k=[]):=by
 have h:∀nm:Nms,∃r,ba7 2 (.str k) (nmV nm)=ze r/\((∃v,r=ze v/\v=.aa2 ((ad6 nm k).map Md.ad1))\/r=qm/\ad6 nm k=[]):=by
  intro nm
  induction nm with
  | nil=>exact ⟨qm,rfl,.inr ⟨rfl,rfl⟩⟩
  | cons t ts ih=>
   have⟨r,a,b⟩:=ih;simp only[nmV,zw,ba7,dn1,ad6] at a ⊢;by_cases e:k=t.1
   .simp only[e,decide_true,if_true];exact ⟨_,rfl,.inl ⟨_,rfl,rfl⟩⟩
   .simp only[e,decide_false,if_false];exact ⟨r,a,b⟩
 have⟨r,a,b⟩:=h nm;rcases b with ⟨v,rfl,rfl⟩|⟨rfl,c⟩
 .refine ⟨.aa2 ((ad6 nm k).map Md.ad1),?_,.inl rfl⟩;simp only[cj3,cc7,a];rfl
 .refine ⟨.aa5,?_,.inr ⟨rfl,c⟩⟩;simp only[cj3,cc7,a];rfl
def numsOf_at {q:aa1->Bool}{l:List aa1}{n:Int}(h:n∈numsOf q l):∃m:Nat,n=m/\m<l.length:=by
 have⟨m,b,a,_⟩:=av9.1 h;exact ⟨m,b,a⟩
def getD_at (l:List aa1)(m:Nat)(h:m<l.length):l.getD m default=l[m]:=by simp[zh,h]
def br8 (l:List aa1)(d:Dep)(y:l.length<2^20)(hs:∀p∈l,Pkg.small p)(u:Dep.small d):Pq 133 [(ad7 l).v,.agg d.cs] (.aa2 ((ag3 l d).map Md.ad1)):=by
 have hi:=bi4 l;have q:=az9 (ad7 l);refine af5 hE fok133 (nZ rfl) (ap7 q (au6 d)) ?_;have a:=hi.au4 d.name
 have b:∀v,(v=.aa2 ((ad6 (ad7 l).au4 d.name).map Md.ad1)\/v=.aa5/\ad6 (ad7 l).au4 d.name=[])->Pq 120 [(ad7 l).v,v,.func (.func 191) [] [.ab5 d.cs]] (.aa2 ((ag3 l d).map Md.ad1)):=by
  intro v s
  have h:=hk6 (ad7 l) (ad6 (ad7 l).au4 d.name) (by rw[a];have:=ai6 (λp=>decide (d.name∈cy3 p)) l;omega) 191 [.ab5 d.cs] (λn=>provides (l.getD n.toNat default) d) (ae6 (bc5 d)) fok191.1 (λn o=>by
   rw[a] at o;obtain ⟨m,rfl,g⟩:=numsOf_at o;refine ⟨m,rfl,by rw[hi.all];exact g,?_⟩;have e:(ad7 l).all[m]'(by rw[hi.all];exact g)=l[m]:=by simp only[hi.all]
   rw[e,zd,getD_at l m g];exact dw8 l[m] m d (hs _ (zf g)) u)
  rw[cu8] at h;rcases s with rfl|⟨rfl,h0⟩
  .exact h
  .rw[h0] at h;have k:∀ {v:IV} {σ:Store},Bnd 0 v->Frz σ (λ_=>true=true) v v:=λh=>.keep _ (h.weak λ_ _=>rfl)
   refine ex3 (args':=[(ad7 l).v,.aa2 [],.func (.func 191) [] [.ab5 d.cs]]) rfl (λσ i hi=>?_) h
   match i,hi with
   | 0,_=>exact k q
   | 1,_=>exact .by1
   | 2,_=>exact k (.func _ _ _ (λc hc=>by cases hc) (ae6 (bc5 d)))
 have r:(ad7 l).v=.ab5 [.aa2 ((ad7 l).all.map aa1.cs),.am2 (nmV (ad7 l).au4),.am2 (nmV (ad7 l).names),.am2 (nmV (ad7 l).over)]:=rfl;have x:d.cs.head? = ze (.str d.name):=rfl;have c:=ax6 (ag3 l d)
 have f:∀σ:Store,∃v,cj3 σ 2 .aa5 false (.am2 (nmV (ad7 l).au4)) (.str d.name)=ze v/\Pq 120 [(ad7 l).v,v,.func (.func 191) [] [.ab5 d.cs]] (.aa2 ((ag3 l d).map Md.ad1)):=λσ=>
  let ⟨v,h1,h2⟩:=eq7 (ad7 l).au4 σ d.name
  ⟨v,h1,b v h2⟩
 clear b a;rw[r] at f ⊢;generalize (ad7 l).all.map aa1.cs=a0 at *;simp only[ic133,go_sem,aq8,an2,am8,x];have⟨v,t,j⟩:=f ⟨11,emp.obj⟩;simp only[go_sem,t];refine aa4 fok120 j ?_;simp only[go_sem];exact .keep _ c
def cb4 (l:List aa1)(d:Dep)(y:l.length<2^20)(hs:∀p∈l,Pkg.small p)(u:Dep.small d):Pq 72 [(ad7 l).v,.agg d.cs] (.aa2 ((ap8 l d).map Md.ad1)):=by
 have hi:=bi4 l;have q:=az9 (ad7 l);refine af5 hE fok72 (nZ rfl) (ap7 q (au6 d)) ?_;have a:=hi.names d.name
 have b:∀v,(v=.aa2 ((ad6 (ad7 l).names d.name).map Md.ad1)\/v=.aa5/\ad6 (ad7 l).names d.name=[])->Pq 120 [(ad7 l).v,v,.func (.func 121) [] [.ab5 d.cs]] (.aa2 ((ap8 l d).map Md.ad1)):=by
  intro v s
  have h:=hk6 (ad7 l) (ad6 (ad7 l).names d.name) (by rw[a];have:=ai6 (λp=>decide (p.name=d.name)) l;omega) 121 [.ab5 d.cs] (λn=>named (l.getD n.toNat default) d) (ae6 (bc5 d)) fok121.1 (λn o=>by
   rw[a] at o;obtain ⟨m,rfl,g⟩:=numsOf_at o;refine ⟨m,rfl,by rw[hi.all];exact g,?_⟩;have e:(ad7 l).all[m]'(by rw[hi.all];exact g)=l[m]:=by simp only[hi.all]
   rw[e,zd,getD_at l m g];exact dh4 l[m] m d (hs _ (zf g)) u)
  rw[fj9] at h;rcases s with rfl|⟨rfl,h0⟩
  .exact h
  .rw[h0] at h;have k:∀ {v:IV} {σ:Store},Bnd 0 v->Frz σ (λ_=>true=true) v v:=λh=>.keep _ (h.weak λ_ _=>rfl)
   refine ex3 (args':=[(ad7 l).v,.aa2 [],.func (.func 121) [] [.ab5 d.cs]]) rfl (λσ i hi=>?_) h
   match i,hi with
   | 0,_=>exact k q
   | 1,_=>exact .by1
   | 2,_=>exact k (.func _ _ _ (λc hc=>by cases hc) (ae6 (bc5 d)))
 have r:(ad7 l).v=.ab5 [.aa2 ((ad7 l).all.map aa1.cs),.am2 (nmV (ad7 l).au4),.am2 (nmV (ad7 l).names),.am2 (nmV (ad7 l).over)]:=rfl;have x:d.cs.head? = ze (.str d.name):=rfl;have c:=ax6 (ap8 l d)
 have f:∀σ:Store,∃v,cj3 σ 2 .aa5 false (.am2 (nmV (ad7 l).names)) (.str d.name)=ze v/\Pq 120 [(ad7 l).v,v,.func (.func 121) [] [.ab5 d.cs]] (.aa2 ((ap8 l d).map Md.ad1)):=λσ=>
  let ⟨v,h1,h2⟩:=eq7 (ad7 l).names σ d.name
  ⟨v,h1,b v h2⟩
 clear b a;rw[r] at f ⊢;generalize (ad7 l).all.map aa1.cs=a0 at *;simp only[ic72,go_sem,aq8,an2,am8,x];have⟨v,t,j⟩:=f ⟨11,emp.obj⟩;simp only[go_sem,t];refine aa4 fok120 j ?_;simp only[go_sem];exact .keep _ c
structure ir9 (ab4:List al5) (inst:List aa1):Prop where
 r1:ab4.length<2^20
 i1:inst.length<2^20
 s1:ah3 ab4<2^40
 rf:∀r∈ab4,al5.Fit r
 pf:∀p∈inst,p.Fit
 ro:∀r∈ab4,al5.Ok r
 po:∀p∈inst,p.Ok
def gi9 {p:aa1}(h:p.Tiny):Pkg.small p:=by
 have e:∀v:EVR,v.tiny->EVR.small v:=λv g=>⟨by have:=g.1;omega,by have:=g.2;omega⟩
 refine ⟨e _ h.evr,λd f=>?_,λd f=>?_,?_,?_,?_⟩
 .have⟨a,b,c,_⟩:=h.au4.2 d f;exact ⟨a,b,e _ c⟩
 .have⟨a,b,c,_⟩:=h.obs.2 d f;exact ⟨a,b,e _ c⟩
 .have:=h.au4.1;omega
 .have:=h.obs.1;omega
 .have:=h.files;omega
def jc5 {b:List al5}{inst:List aa1}{p:Pool}(c:ir9 b inst)(h:by5 b inst=.inl p):∀x∈ac3 p,x.Fit/\Pkg.small x/\x.Tiny:=by
 intro x e;have⟨d,a⟩:=ec5 h x e;refine ⟨?_,gi9 (fk4 d),fk4 d⟩;rcases a with a|⟨r,hr,a⟩
 .exact c.pf x a
 .exact (c.rf r hr).2 x a
def jo2 (x:Index)(n:Int):Pq 186 [x.v,.int .i64 n] (.bool (decide (0<=n)&&decide (n<x.all.length))):=by
 refine af5 hE fok186 (nZ rfl) (ap7 (az9 x) (.int _ _)) ?_;have h:x.v=.ab5 [.aa2 (x.all.map aa1.cs),.am2 (nmV x.au4),.am2 (nmV x.names),.am2 (nmV x.over)]:=rfl;have a:∀(d:TypeId) (cs:List IV) (c:IV),ci5 (.pointer d) (.ab5 (c::cs))=ze false:=λ_ _ _=>rfl
 rw[h];have b:(x.all.map aa1.cs).length=x.all.length:=zc ..;generalize x.all.map aa1.cs=es at *;generalize x.all.length=k at *;by_cases f:0<=n
 .by_cases g:n<(k:Nat)
  .have e:n<(es.length:Nat):=om;simp only[ic186,go_sem,a,f,g,e,b,Bool.and_self];exact ab6 _
  .have e:¬n<(es.length:Nat):=om;simp only[ic186,go_sem,a,f,g,e,b,Bool.and_false];exact ab6 _
 .simp only[ic186,go_sem,a,f,Bool.false_and];exact ab6 _
def hn9 (l:List aa1)(m n:Nat)(g:m<l.length)(b:n<l.length)(hs:∀p∈l,Pkg.small p) :
  Pq 187 [.agg l[m].cs,.int .i64 m,.ab5 [.int .i64 n],.ab5 [(ad7 l).v]] (.bool (decide (m≠n)&&ab2 l[m] l[n])):=by
 refine af5 hE fok187 (nZ rfl) (λa c=>by
  simp only[za,zb,or_false] at c;rcases c with rfl|rfl|rfl|rfl
  .exact ap5 _
  .exact .int _ _
  .exact .ab5 _ (ae6 (.int _ _))
  .exact .ab5 _ (ae6 (az9 _))) ?_
 have d:(ad7 l).v=.ab5 [.aa2 (l.map aa1.cs),.am2 (nmV (ad7 l).au4),.am2 (nmV (ad7 l).names),.am2 (nmV (ad7 l).over)]:=by
  show IV.ab5 [.aa2 ((ad7 l).all.map aa1.cs),_,_,_]=_;rw[(bi4 l).all]
 have f:=eq6 l[m] l[n] (hs _ (zf g)) (hs _ (zf b));have h:(l.map aa1.cs).getD n []=l[n].cs:=by simp[zh,b]
 have k:(l.map aa1.cs).length=l.length:=zc ..;rw[d];generalize l.map aa1.cs=es at *;by_cases e:m=n
 .have a:(m:Int)=n:=om;simp only[ic187,go_sem,bc6,ax8,au2,a,e,ne_eq,not_true_eq_false,decide_false,Bool.false_and];exact ab6 _
 .have a:¬(m:Int)=n:=om;have j:(0:Int)<=n:=om;have i:(n:Int)<es.length:=om;simp only[ic187,go_sem,bc6,ax8,au2,a,e,j,i,h,ne_eq,not_false_eq_true,decide_true,Bool.true_and];refine aa4 fok188 f ?_;simp only[go_sem];exact ab6 _
def am6 (l:List aa1)(n:Nat):List Int:=(ad6 (ad7 l).over (l.getD n default).name).filter λk=>decide (k.toNat≠n)&&ab2 (l.getD k.toNat default) (l.getD n default)
def dh5 {l:List aa1}{n:Nat}{k:Int}:k∈am6 l n↔∃m:Nat,k=m/\m<l.length/\m≠n/\ab2 (l.getD m default) (l.getD n default)=true:=by
 unfold am6;rw[(bi4 l).over,List.mem_filter];constructor
 .rintro ⟨c,a⟩;obtain ⟨m,rfl,b,_⟩:=av9.1 c;simp only[zd,z6,decide_eq_true_eq] at a;exact ⟨m,rfl,b,a.1,a.2⟩
 .rintro ⟨m,rfl,c,a,b⟩;refine ⟨av9.2 ⟨m,rfl,c,?_⟩,?_⟩
  .have⟨d,f,e⟩:=List.any_eq_true.1 b;refine decide_eq_true ⟨d,f,?_⟩;simp only[named,meets,z6,decide_eq_true_eq] at e;exact e.1.symm
  .simp only[zd,z6,decide_eq_true_eq];exact ⟨a,b⟩
def dh6 (l:List aa1)(n:Nat):(am6 l n).length<=l.length:=by
 unfold am6;rw[(bi4 l).over];exact zn (qn _ _) (ai6 _ _)
abbrev iv (n:Int):IV:=.int .i64 n
def ho5 {id n k:Nat}(h:k<=n):dj2 1 (ze (.int .i64 (k:Int))) qm (.slice id 0 n 1)=ze (.slice id k (n-k) 1):=by
 have e:(0:Int)<=k:=om;simp[dj2,cx3,fg8,e,h]
def jc6 {id n k:Nat}(h:k<=n):dj2 1 qm (ze (.int .i64 (k:Int))) (.slice id 0 n 1)=ze (.slice id 0 k 1):=by
 have e:(0:Int)<=k:=om;simp[dj2,cx3,fg8,e,h]
def cv4 {zs:List Int}{p:Nat}(h:p+1<zs.length)(x:Int):x∈zs.take (p+1+1)↔x∈zs.take (p+1)\/x=zs[p+1]:=by
 rw[qf (i:=p+1),zr h,qk];simp[Option.toList]
def cv5 {zs:List Int}{p:Nat}(h:p+1<zs.length)(e:zs[p+1]=zs[p])(x:Int):x∈zs.take (p+1)↔x∈zs.take (p+1+1):=by
 rw[cv4 h];refine ⟨.inl,λq=>q.elim (λq=>q) λq=>?_⟩;rw[q,e];exact qc.2 ⟨p,by rw[zj];omega,by rw[qg]⟩
def eq8 {cs vs:List IV}{k:Nat}(h:k<=cs.length):(ay4 cs k vs).take k=cs.take k:=by
 unfold ay4;rw[qw,zo (by rw[zj];omega),List.take_take,Nat.min_self]
def dw9 {cs:List IV}{v:IV}{k:Nat}(h:k<=cs.length):(ay4 cs k [v]).take (k+1)=cs.take k++[v]:=by
 unfold ay4;have e:(cs.take k++[v]).length=k+1:=by rw[zl,zj,zz];omega
 rw[zo om,z7 om]
def dx1 {cs:List IV}{v:IV}{k q:Nat}(h:k<q)(a:k<=cs.length):(ay4 cs k [v]).drop q=cs.drop q:=by
 unfold ay4;have e:(cs.take k++[v]).length=k+1:=by rw[zl,zj,zz];omega
 rw[List.drop_append,e,zy om,List.nil_append,List.drop_drop,zz];congr 1;omega
def kg2 {a:PT}{b:CT}{P:Program}{E:Nat->IV}{e id:Nat}{z:List IV}{x:IX}{fr:Frm}{σ:Store}{K:IV->Store->Prop}:opT a b P E (.clr e z x) id fr σ K=bt3 (gq9 σ e z (x.ev E fr)) λσ'=>σ'.next=σ.next/\K .undef σ':=rfl
def ho6 {σ:Store}{id k n:Nat}{cs:List IV}(a:σ.obj id=ze (.row cs))(c:k<n)(b:n<=cs.length):gq9 σ 1 [.int .i64 0] (.slice id k (n-k) 1)=ze (σ.put id (.row (ay4 cs k (rep [.int .i64 0] (n-k))))):=by
 have e1:¬n-k=0:=om;have e2:k+(n-k)*1<=cs.length:=om;unfold gq9;simp only[e1,if_false,a,e2,true_and];rfl
structure ky1 (R:Int->Int->Prop) (σ:Store) (id:Nat) (zs:List Int) (v:IV) (s:Store):Prop where
 out:∃(D:List Int) (cs:List IV),D.Pairwise R/\(∀x,x∈D↔x∈zs)/\v=.slice id 0 D.length 1/\s.obj id=ze (.row cs)/\cs.take D.length=D.map iv/\D.length<=cs.length
 next:σ.next<=s.next
 other:∀i,i≠id->s.obj i=σ.obj i
def dx2 {R:Int->Int->Prop}{σ:Store}{id:Nat}{zs:List Int}{tl:List IV}(hT:∀a∈zs,∀b∈zs,∀c∈zs,R a b->R b c->R a c)(hz:zs.length<2^40)(ho:σ.obj id=ze (.row (zs.map iv++tl)))(hs:zs.Pairwise λa b=>a=b\/R a b) :
  Cq 131 [.slice id 0 zs.length 1] σ (ky1 R σ id zs):=by
 refine C_f fok131 (nZ rfl) ?_;by_cases L:(zs.length:Int)<2
 .simp only[ic131,go_sem,L];refine ⟨⟨zs,zs.map iv++tl,?_,λ_=>Iff.rfl,rfl,ho,by rw[zo sm,z7 sm],by simp⟩,zg _,λ_ _=>rfl⟩
  match zs,L with
  | [],_=>exact .nil
  | [a],_=>simp
  | a::b::l,L=>simp only[zm] at L;omega
 simp only[ic131,go_sem,L];refine aa9 noT (λi fr t=>(t.obj=σ.obj/\σ.next<=t.next)/\fr=[(0,.slice id 0 zs.length 1),(3,.int .i64 ((i+1:Nat):Int))]/\i+1<=zs.length/\(zs.take (i+1)).Pairwise R) zs.length ⟨⟨rfl,zg _⟩,rfl,om,?_⟩ ?_
 .cases zs with
  | nil=>exact .nil
  | cons a l=>simp
 rintro i fr t hi ⟨⟨o,T⟩,rfl,ab,g⟩;have m:t.obj id=ze (.row (zs.map iv++tl)):=by rw[o];exact ho
 have hh:∀(j:Nat) (h:j<zs.length),((zs.map iv++tl).drop j).head? = ze (.int .i64 zs[j]):=λj h=>by simp[List.head?_drop,List.getElem?_append_left,h]
 have U:zs.length<=(zs.map iv++tl).length:=by rw[zl,zc];omega
 by_cases r:i+1<zs.length
 .have N:((i+1:Nat):Int)<zs.length:=om;have c2:(0:Int)<=((i+1:Nat):Int):=om;have c3:IntKind.i64.wrap (((i+1:Nat):Int)-1)=(i:Int):=by rw[wrap64 om om];omega
  have c4:(0:Int)<=(i:Int):=om;have c5:(i:Int)<zs.length:=om;have w1:=ac6 (i:=i+1) om;have g1:=hh (i+1) r;have g2:=hh i om;have I:zs[i]=zs[i+1]\/R zs[i] zs[i+1]:=zv.1 hs i (i+1) om r om;by_cases e:zs[i+1]=zs[i]'om
  .simp only[go_sem,N,c2,c3,c4,c5,m,g1,g2,e,zd,qa,qj,w1,ho5 (show i+1<=zs.length by omega)]
   refine aa9 noT (λj fr t=>∃(k:Nat) (cs:List IV) (D:List Int),fr=[(0,.slice id 0 zs.length 1),(3,.int .i64 (k:Int)),(4,.slice id (i+1) (zs.length-(i+1)) 1),(5,.int .i64 ((j+1:Nat):Int))] /\
    (σ.next<=t.next/\∀q,q≠id->t.obj q=σ.obj q)/\t.obj id=ze (.row cs)/\zs.length<=cs.length/\k<=i+1+j/\i+1+j<zs.length/\D.length=k/\cs.take k=D.map iv/\D.Pairwise R/\(∀x,x∈D↔x∈zs.take (i+1+j+1)) /\
    ∀(q:Nat) (h:q<zs.length),k<=q->(cs.drop q).head? = ze (.int .i64 zs[q])) (zs.length-(i+1)) ?_ ?_
   .refine ⟨i+1,zs.map iv++tl,zs.take (i+1),rfl,⟨by show σ.next<=t.next+10;omega,λq _=>by rw[o]⟩,m,U,om,om,by rw[zj];omega,by rw[zo (by rw[zc];omega),List.map_take],g,λx=>?_,λq h _=>hh q h⟩;exact cv5 (p:=i) r e x
   rintro j fr u hj ⟨k,cs,D,rfl,⟨un,P⟩,n,J,ae,ad,f,B,E,d,s⟩;by_cases ac:j+1<zs.length-(i+1)
   .have M:((j+1:Nat):Int)<(zs.length-(i+1):Nat):=om;have d2:(0:Int)<=((j+1:Nat):Int):=om;have d3:IntKind.i64.wrap (((j+1:Nat):Int)-1)=(j:Int):=by rw[wrap64 om om];omega
    have d4:(0:Int)<=(j:Int):=om;have d5:(j:Int)<(zs.length-(i+1):Nat):=om;have d6:(0:Int)<=(k:Int):=om;have d7:(k:Int)<zs.length:=om;have d8:k+1<=cs.length:=om;have w2:=ac6 (i:=j+1) om;have w3:=ac6 (i:=k) om;have f1:=s (i+1+(j+1)) om om;have f2:=s (i+1+j) om om;by_cases e2:zs[i+1+(j+1)]=zs[i+1+j]
    .simp only[go_sem,M,d2,d3,d4,d5,n,f1,f2,e2,zd,qa,qj,w2];exact ⟨om,k,cs,D,rfl,⟨om,P⟩,rfl,J,om,om,f,B,E,λx=>(d x).trans (cv5 (p:=i+1+j) om e2 x),s⟩
    .simp only[go_sem,M,d2,d3,d4,d5,d6,d7,d8,n,f1,f2,e2,zd,qa,qj,w2,w3];have H:zs[i+1+j]=zs[i+1+(j+1)]\/R zs[i+1+j] zs[i+1+(j+1)]:=zv.1 hs (i+1+j) (i+1+(j+1)) om om om;have hn:=cv4 (zs:=zs) (p:=i+1+j) om;have z:R zs[i+1+j] zs[i+1+(j+1)]:=H.elim (λq=>absurd q.symm e2) λq=>q
     have F:∀x∈D,R x zs[i+1+(j+1)]:=by
      intro x hx;obtain ⟨q,y,rfl⟩:=qc.1 ((d x).1 hx);rw[zj] at y;rw[qg];by_cases S:q=i+1+j
      .subst S;exact z
      .rcases zv.1 hs q (i+1+j) om om om with h|h
       .rw[h];exact z
       .exact hT _ (zf _) _ (zf _) _ (zf _) h z
     have aa:σ.next<=u.next+10:=om;refine ⟨om,k+1,ay4 cs k [.int .i64 zs[i+1+(j+1)]],D++[zs[i+1+(j+1)]],rfl,⟨aa,λq y=>by rw[if_neg y];exact P q y⟩,rfl,?_,om,om,by rw[zl,f];rfl,?_,?_,λx=>?_,λq h y=>?_⟩
     .rw[af8 (by rw[zz];omega)];exact J
     .rw[dw9 om,B,zk];rfl
     .exact qo.2 ⟨E,by simp,λa ha b K=>by
       simp only[za,zb,or_false] at K;subst K;exact F a ha⟩
     .rw[qk,d x];refine Iff.trans ?_ (hn x).symm;simp only[za,zb,or_false];exact Iff.rfl
     .rw[dx1 om om];exact s q h om
   .have M:¬((j+1:Nat):Int)<(zs.length-(i+1):Nat):=om;have V:k<zs.length:=om;have X:i+1+j+1=zs.length:=om;rw[X,zp] at d;simp only[go_sem,M,ho5 (show k<=zs.length by omega),jc6 (show k<=zs.length by omega),n,kg2,ho6 n V om];have Q:(rep [IV.int .i64 0] (zs.length-k)).length=zs.length-k:=by rw[ar9];simp
    refine ⟨⟨D,ay4 cs k (rep [IV.int .i64 0] (zs.length-k)),E,d,by rw[f],by simp only[aa3,if_true],by rw[f,eq8 om];exact B,?_⟩,un,λq y=>?_⟩
    .rw[af8 (by rw[Q];omega),f];omega
    .simp only[aa3,if_neg y];exact P q y
  .simp only[go_sem,N,c2,c3,c4,c5,m,g1,g2,e,zd,qa,qj,w1];refine ⟨om,⟨o,by show σ.next<=_;omega⟩,om,?_⟩;rw[qf,zr r,qo];refine ⟨g,by simp,λa ha b K=>?_⟩;simp only[Option.toList,za,zb,or_false] at K;subst K;obtain ⟨j,hj,rfl⟩:=qc.1 ha;rw[zj] at hj;rw[qg];have A:R zs[i] zs[i+1]:=I.elim (λq=>absurd q.symm e) λq=>q
   by_cases W:j=i
   .subst W;exact A
   .rcases zv.1 hs j i om om om with h|h
    .rw[h];exact A
    .exact hT _ (zf _) _ (zf _) _ (zf _) h A
 .have Y:i+1=zs.length:=om;have N:¬((i+1:Nat):Int)<zs.length:=om;simp only[go_sem,N];rw[Y,zp] at g;exact ⟨⟨zs,zs.map iv++tl,g,λ_=>Iff.rfl,rfl,m,by rw[zo sm,z7 sm],by simp⟩,T,λj _=>by rw[o]⟩
abbrev Cmp:=ky1 (· < ·)
def ho7 {σ:Store}{id:Nat}{zs:List Int}(a:zs.length<2^40)(b:σ.obj id=ze (.row (zs.map iv)))(hs:zs.Pairwise (·<=·)) :
  Cq 131 [.slice id 0 zs.length 1] σ (Cmp σ id zs):=
 dx2 (tl:=[]) (λ_ _ _ _ _ _ h c=>Int.lt_trans h c) a (by rw[List.append_nil];exact b) (hs.imp λh=>om)
open Go Go.Id Go.Proofs Go.Shelf
def ld5:Go.Shelf.Ren where
 f:=λn=>(List.lookup n [(0,0),(1,1),(2,2),(99,108),(107,59),(108,110),(109,196),(110,141),(112,94),(119,308),(122,155),(125,190),(128,244),(129,245),(137,106),(151,299),(152,305),(161,283),(171,262),(189,130),(197,298),(206,169),(215,220),(216,241),(217,168),(224,309),(225,310),(227,290),(228,297),(231,289),(233,291),(235,292),(243,280),(246,288),(257,189),(260,304),(266,222),(283,293),(284,294),(285,295),(286,296),(294,235),(295,236),(296,237),(297,238),(298,239),(299,240),(300,242),(301,243),(317,300),(318,301),(319,302),(320,303),(328,272),(329,273),(330,274),(331,275),(332,276),(336,285),(337,306),(338,307),(343,286),(347,311),(348,312),(349,313),(350,314),(351,315),(352,316),(353,317),(354,318),(355,319),(356,320),(357,321),(358,322),(359,323),(360,324),(361,325),(366,332),(367,343)]).getD 0
 t:=λn=>(List.lookup n [(0,0),(1,1),(2,2),(3,3),(4,4),(5,5),(7,7),(8,8),(9,9),(10,10),(11,11),(12,12),(13,13),(14,14),(15,15),(16,16),(17,17),(18,18),(20,20),(21,21),(22,190),(23,310),(27,237),(28,35),(29,140),(30,192),(31,53),(32,245),(33,210),(35,173),(36,256),(37,215),(40,337),(41,82),(43,218),(46,241),(47,240),(51,277),(52,276),(53,279),(54,278),(55,188),(63,329),(64,332),(80,340),(81,90),(83,294),(84,315),(98,250),(102,183),(104,133),(105,327),(106,328),(111,143),(112,196),(114,222),(115,317),(116,318),(117,319),(118,320),(119,333),(122,316),(123,321),(124,322),(127,349),(131,74),(134,239),(137,334),(139,336),(164,355),(171,323),(172,324),(173,325),(174,326),(181,269),(182,270),(183,271),(184,272),(185,273),(186,274),(187,275),(211,221),(212,330),(213,331),(214,309),(218,299),(219,300),(220,301),(221,302),(222,303),(223,304),(228,311),(229,312),(230,313),(232,338),(233,339),(238,341),(239,342),(240,343),(241,344),(242,345),(245,348),(248,352)]).getD 0
 g:=λn=>n
def kg3:Lays.n189 Tryz.prog ld5 where
 mixed:=by kernel_rfl
 f125:=Tryz.func190.trans (congrArg ze (by kernel_rfl))
 f128:=Tryz.func244.trans (congrArg ze (by kernel_rfl))
 f129:=Tryz.func245.trans (congrArg ze (by kernel_rfl))
 f189:=Tryz.func130.trans (congrArg ze (by kernel_rfl))
 f215:=Tryz.func220.trans (congrArg ze (by kernel_rfl))
 f216:=Tryz.func241.trans (congrArg ze (by kernel_rfl))
 f257:=Tryz.func189.trans (congrArg ze (by kernel_rfl))
 f294:=Tryz.func235.trans (congrArg ze (by kernel_rfl))
 f295:=Tryz.func236.trans (congrArg ze (by kernel_rfl))
 f296:=Tryz.func237.trans (congrArg ze (by kernel_rfl))
 f297:=Tryz.func238.trans (congrArg ze (by kernel_rfl))
 f298:=Tryz.func239.trans (congrArg ze (by kernel_rfl))
 f299:=Tryz.func240.trans (congrArg ze (by kernel_rfl))
 f300:=Tryz.func242.trans (congrArg ze (by kernel_rfl))
 f301:=Tryz.func243.trans (congrArg ze (by kernel_rfl))
 f328:=Tryz.func272.trans (congrArg ze (by kernel_rfl))
 f329:=Tryz.func273.trans (congrArg ze (by kernel_rfl))
 f330:=Tryz.func274.trans (congrArg ze (by kernel_rfl))
 f331:=Tryz.func275.trans (congrArg ze (by kernel_rfl))
 f332:=Tryz.func276.trans (congrArg ze (by kernel_rfl))
 f343:=Tryz.func286.trans (congrArg ze (by kernel_rfl))
 t0:=by kernel_rfl
 a0:=Tryz.isAgg0
 z0:=λ_=>by kernel_rfl
 v0:=λ_=>by kernel_rfl
 t3:=by kernel_rfl
 a3:=Tryz.isAgg3
 z3:=λ_=>by kernel_rfl
 v3:=λ_=>by kernel_rfl
 t4:=by kernel_rfl
 a4:=Tryz.isAgg4
 z4:=λ_=>by kernel_rfl
 v4:=λ_=>by kernel_rfl
 t5:=by kernel_rfl
 a5:=Tryz.isAgg5
 z5:=λ_=>by kernel_rfl
 v5:=λ_=>by kernel_rfl
 t9:=by kernel_rfl
 a9:=Tryz.isAgg9
 z9:=λ_=>by kernel_rfl
 v9:=λ_=>by kernel_rfl
 t28:=by kernel_rfl
 a28:=Tryz.isAgg35
 z28:=λ_=>by kernel_rfl
 v28:=λ_=>by kernel_rfl
 t46:=by kernel_rfl
 a46:=Tryz.isAgg241
 z46:=λ_=>by kernel_rfl
 v46:=λ_=>by kernel_rfl
 t51:=by kernel_rfl
 a51:=Tryz.isAgg277
 z51:=λ_=>by kernel_rfl
 v51:=λ_=>by kernel_rfl
 t53:=by kernel_rfl
 a53:=Tryz.isAgg279
 z53:=λ_=>by kernel_rfl
 v53:=λ_=>by kernel_rfl
 t131:=by kernel_rfl
 a131:=Tryz.isAgg74
 z131:=λ_=>by kernel_rfl
 v131:=λ_=>by kernel_rfl
 t182:=by kernel_rfl
 a182:=Tryz.isAgg270
 z182:=λ_=>by kernel_rfl
 v182:=λ_=>by kernel_rfl
 t183:=by kernel_rfl
 a183:=Tryz.isAgg271
 z183:=λ_=>by kernel_rfl
 v183:=λ_=>by kernel_rfl
 t218:=by kernel_rfl
 a218:=Tryz.isAgg299
 z218:=λ_=>by kernel_rfl
 v218:=λ_=>by kernel_rfl
 t222:=by kernel_rfl
 a222:=Tryz.isAgg303
 z222:=λ_=>by kernel_rfl
 v222:=λ_=>by kernel_rfl
 t228:=by kernel_rfl
 a228:=Tryz.isAgg311
 z228:=λ_=>by kernel_rfl
 v228:=λ_=>by kernel_rfl
 t229:=by kernel_rfl
 a229:=Tryz.isAgg312
 z229:=λ_=>by kernel_rfl
 v229:=λ_=>by kernel_rfl
def jo3 (l:List Int):List Int:=l.mergeSort λx y=>decide (x<=y)
def gj1 {σ:Store}{id:Nat}{zs:List Int}(hz:zs.length<4611686018427387904)(ho:σ.obj id=ze (.row (zs.map (IV.int .i64)))) :
  Cq 130 [.slice id 0 zs.length 1] σ λv s=>v=.tuple []/\s=σ.put id (.row ((jo3 zs).map (IV.int .i64))):=
 ji5 (enc:=Value.int .i64) (en:=IV.int .i64) (srt:=jo3) (λ_ _ x=>.int _ _) (λ_ _ x r h=>by cases h;rfl) (λl=>List.length_mergeSort l) (by unfold jo3;rw[List.mergeSort_nil])
  (λblk off cap zs w h1 h2 h3=>Any.slices_Sort_int kg3 blk off cap zs w h1 h2 h3) (λp cap w=>Any.slices_Sort_int_none kg3 p cap w) hz ho
open Go Go.Id Go.Proofs Go.Shelf Go.Id.Md
def ho8:∀ {a b:List Int},a.Pairwise (· < ·)->b.Pairwise (· < ·)->(∀x,x∈a↔x∈b)->a=b:=by
 intro a
 induction a with
 | nil=>
  intro b _ _ h
  cases b with
  | nil=>rfl
  | cons y b=>exact absurd ((h y).2 (z1 ..)) sm
 | cons x a ih=>
  intro b i g h
  cases b with
  | nil=>exact absurd ((h x).1 (z1 ..)) sm
  | cons y b=>
   have⟨a1,a2⟩:=qr.1 i;have⟨f,j⟩:=qr.1 g
   have e:x=y:=by
    rcases za.1 ((h x).1 (z1 ..)) with e|e
    .exact e
    .have d:=f x e;rcases za.1 ((h y).2 (z1 ..)) with e2|e2
     .exact e2.symm
     .have k:=a1 y e2;omega
   subst e;rw[ih a2 j λz=>?_];constructor
   .intro c;have d:=a1 z c;rcases za.1 ((h z).1 (qp _ c)) with e|e
    .omega
    .exact e
   .intro c;have d:=f z c;rcases za.1 ((h z).2 (qp _ c)) with e|e
    .omega
    .exact e
end Go.Id.Tryz
namespace Go.Id
open Go Go.Id
def is1 {P:Program}{E:Nat->IV}{N n0:Nat}{fr:Frm}{σ:Store}{x:IC}{Q:Exit->Frm->Store->Prop}(I:Nat->Frm->Store->Prop)(n:Nat)(h:I 0 fr σ)
  (b:∀i fr σ,i<=n->I i fr σ->RI P E N n0 x fr σ (upQ I i n Q)):RI P E N n0 (.loop x) fr σ Q:=by
 refine cx9 (λm fr σ=>∃i,i<=n/\m=n-i/\I i fr σ) n ⟨0,qd _,rfl,h⟩ ?_;rintro m fr σ ⟨i,hi,rfl,a⟩;refine ak9 (b i fr σ hi a) ?_;intro e f s q
 cases e with
 | normal=>exact ⟨n-(i+1),by have:=q.1;omega,i+1,q.1,rfl,q.2⟩
 | _=>exact q
end Go.Id
namespace Go.Id.Tryz
open Go Go.Id Go.Proofs Go.Shelf Go.Id.Md
open Go Go.Id Go.Proofs Go.Id.Md
def mP (name:Str)(au4 obs:List Dep)(files:List Str):aa1:={ name:=name,evr:=⟨0,[49],[49]⟩,al9:=1,vendor:=[],provides:=au4,requires:=[],conflicts:=[],ab2:=obs,ae1:=[],ac7:=[],suggests:=[],ak8:=[],files:=files }
def dP (name:Str)(op:Int)(ver:Str):Dep:=⟨name,op,⟨0,ver,[]⟩⟩
def cP (name:Str)(au4 obs files:IV):List IV:=[.str name,.int .i64 0,.str [49],.str [49],.int .u8 1,.str [],au4,.aa5,.aa5,obs,.aa5,.aa5,.aa5,.aa5,files]
def mA:aa1:=mP [97] [] [] []
def mB:aa1:=mP [98] [dP [97] 2 [50]] [dP [97] 1 [50]] []
def mC:aa1:=mP [99] [] [] [[47,102]]
def mT:aa1:=mP [97] [dP [97] 2 [51],dP [97] 2 [52],dP [97] 0 []] [dP [97] 0 [],dP [98] 0 [],dP [98] 1 [57]] []
def mD:aa1:=mP [98] [] [] []
def cA:List IV:=cP [97] .aa5 .aa5 .aa5
def cB:List IV:=cP [98] (deps [dP [97] 2 [50]]) (deps [dP [97] 1 [50]]) .aa5
def cC:List IV:=cP [99] .aa5 .aa5 (strs [[47,102]])
def cT:List IV:=cP [97] (deps [dP [97] 2 [51],dP [97] 2 [52],dP [97] 0 []]) (deps [dP [97] 0 [],dP [98] 0 [],dP [98] 1 [57]]) .aa5
def cD:List IV:=cP [98] .aa5 .aa5 .aa5
def kg4 {name:Str}{c b:List Dep}{a:List Str}(n:name.length<100)(m:c.length<100)(k:b.length<100)(j:a.length<100)(i:(c++b).all (λd=>decide (d.name.length<100)&&decide (d.evr.ver.length<100)&&decide (d.evr.rel.length<100))=true)(g:a.all (λs=>decide (s.length<100))=true):(mP name c b a).Fit:=by
 have e:∀d∈c++b,d.fit:=λd e=>by
  have:=List.all_eq_true.1 i d e;simp only[z6,decide_eq_true_eq] at this;exact ⟨om,by show d.evr.ver.length<_;omega,by show d.evr.rel.length<_;omega⟩
 refine ⟨by show name.length<_;omega,⟨by show ([49]:Str).length<2^62;decide,by show ([49]:Str).length<2^62;decide⟩,⟨by show c.length<_;omega,λd h=>e d (List.mem_append_left _ h)⟩,⟨by show b.length<_;omega,λd h=>e d (List.mem_append_right _ h)⟩,⟨by show a.length<_;omega,λs h=>by have:=List.all_eq_true.1 g s h;simp only[decide_eq_true_eq] at this;omega⟩,λx f=>?_⟩;simp only[aa1.rows,mP,za,zb,or_false] at f;rcases f with rfl|rfl|rfl|rfl|rfl|rfl<;>exact ⟨by decide,λr h=>by cases h⟩
def dh7:∀p∈[mA,mB,mC,mT,mD],p.Fit:=by
 intro p hp;simp only[za,zb,or_false] at hp;rcases hp with rfl|rfl|rfl|rfl|rfl<;>exact kg4 (by decide) (by decide) (by decide) (by decide) (by decide) (by decide)
def p1M:Pool:=⟨rowsOf [mA,mB,mC] (-1) 1025,3,[([97],[0]),([98],[1]),([99],[2])]⟩
def p2M:Pool:=⟨rowsOf [mB,mC] (-1) 1025++rowsOf [mA] 0 0++rowsOf [mT,mD] 1 0,2,[([98],[0,4]),([99],[1]),([97],[2,3])]⟩
def ld6:kb6 (by5 [] [mA,mB,mC])=.tuple [p1M.v,.int .i64 0]:=by kernel_rfl
def ld7:kb6 (by5 [⟨0,[mA]⟩,⟨0,[mT,mD]⟩] [mB,mC])=.tuple [p2M.v,.int .i64 0]:=by kernel_rfl
def a1:List IV:=[.aa5,.aa2 [cA,cB,cC]]
def a2:List IV:=[.aa2 [[.int .i64 0,.aa2 [cA]],[.int .i64 0,.aa2 [cT,cD]]],.aa2 [cB,cC]]
def e1:Pq 10 a1 (.tuple [p1M.v,.int .i64 0]):=by
 rw[<- ld6];refine ji7 (args':=[bb8 [],ay5 [mA,mB,mC]]) (by kernel_rfl) (ct1 [] [mA,mB,mC] (by decide) (by decide) (by decide) (λr h=>by cases h) λp hp=>dh7 p ?_);simp only[za,zb,or_false] at hp ⊢;rcases hp with h|h|h<;>simp[h]
def e2:Pq 10 a2 (.tuple [p2M.v,.int .i64 0]):=by
 rw[<- ld7];refine ji7 (args':=[bb8 [⟨0,[mA]⟩,⟨0,[mT,mD]⟩],ay5 [mB,mC]]) (by kernel_rfl) (ct1 _ _ (by decide) (by decide) (by decide) (λr hr=>?_) λp hp=>dh7 p ?_)
 .simp only[za,zb,or_false] at hr;rcases hr with rfl|rfl
  .exact ⟨by decide,λp hp=>dh7 p (by simp only[za,zb,or_false] at hp ⊢;simp[hp])⟩
  .exact ⟨by decide,λp hp=>dh7 p (by simp only[za,zb,or_false] at hp ⊢;rcases hp with h|h<;>simp[h])⟩
 .simp only[za,zb,or_false] at hp ⊢;rcases hp with h|h<;>simp[h]
def fp1 {p:Pool}{l:List aa1}(h:p.rows.map (·.pkg)=l)(b:∀x∈l,x∈[mA,mB,mC,mT,mD]):(∀r∈p.rows,r.pkg.Fit)/\∀r∈p.rows,r.pkg.provides.length+r.pkg.files.length+r.pkg.ab2.length+3<=2^15:=by
 have a:∀r∈p.rows,r.pkg∈[mA,mB,mC,mT,mD]:=λr hr=>b _ (by rw[<- h];exact List.mem_map_of_mem hr)
 refine ⟨λr hr=>dh7 _ (a r hr),λr hr=>?_⟩;have:=a r hr;generalize r.pkg=x at this;simp only[za,zb,or_false] at this;rcases this with rfl|rfl|rfl|rfl|rfl<;>decide
def e3:Pq 26 [p1M.v] (.tuple [(ad7 [mA,mB,mC]).v,.int .i64 0]):=by
 have⟨c,b⟩:=fp1 (p:=p1M) (l:=[mA,mB,mC]) rfl (λx a=>by simp only[za,zb,or_false] at a ⊢;rcases a with h|h|h<;>simp[h]);exact bf2 p1M c (by decide) b
def e4:Pq 26 [p2M.v] (.tuple [(ad7 [mB,mC,mA,mT,mD]).v,.int .i64 0]):=by
 have⟨c,b⟩:=fp1 (p:=p2M) (l:=[mB,mC,mA,mT,mD]) rfl (λx a=>by simp only[za,zb,or_false] at a ⊢;rcases a with h|h|h|h|h<;>simp[h]);exact bf2 p2M c (by decide) b
end Go.Id.Tryz
