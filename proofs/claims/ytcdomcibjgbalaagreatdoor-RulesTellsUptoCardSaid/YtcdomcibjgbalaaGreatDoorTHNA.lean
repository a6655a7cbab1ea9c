/- The statement's own: a literal's value,clauses held,states of values. Conditions: sizes that fit. -/
import Derived.Test.YtcdomcibjgbalaaGreatDoorTHYY
import Derived.Test.YtcdomcibjgbalaaGreatDoorMv
import Derived.Test.YtcdomcibjgbalaaGreatDoorTHYJ
import Derived.Test.YtcdomcibjgbalaaGreatDoorTHQB
import Derived.Test.YtcdomcibjgbalaaGreatDoorMsb
import Derived.Test.YtcdomcibjgbalaaGreatDoorGHR
import Derived.Test.YtcdomcibjgbalaaGreatDoorTHQO
import Derived.Test.YtcdomcibjgbalaaGreatDoorFwRo
open Int renaming toNat_natCast→za,eq_ofNat_of_zero_le→zp,cast_ofNat_Int→z9
open Nat renaming le_refl→zb,lt_succ_self→zk,not_lt_zero→zq,le_add_right→zw,zero_add→z5,zero_le→z6,mul_one→z7
open List renaming mem_singleton→zc,length_append→zd,drop_length→ze,length_singleton→zf,length_map→zg,getElem?_eq_getElem→zh,mem_cons→zj,take_length→zn,not_mem_nil→zo,getElem?_drop→zt,map_append→zx,length_nil→zy,getD_eq_getElem?_getD→zz,any_nil→z4
open Option renaming some→zi,map→zr
open Bool renaming true_and→zl,false_or→zm,false_ne_true→zu,and_eq_true→zv,false_and→z0,or_false→z1
open UInt8 renaming ofNat_toNat→z8
set_option linter.all false
set_option maxRecDepth 100000
set_option maxHeartbeats 1000000
private theorem om{P:Prop}(h:P:=by omega):P:=h
namespace Go.Id.Tryz
open Go Go.Id Go.Proofs Go.Shelf Go.Id.Md
theorem iw2 {v:List Int}{i:Nat}(h:i<v.length):(v.map Md.ae1).getD i []=[.int .i64 (v.getD i 0)]:=by simp[zz,h,Md.ae1]
theorem ji5 (v:List Int)(hl:v.length<2^40)(hv:∀y∈v,-(2^40)<=y/\y<=2^40)(x:Int)(hx:-(2^40)<=x/\x<=2^40):Pq 45 [.aa3 (v.map Md.ae1),.int .i64 x] (.int .i64 (isV v x)):=by
 refine af4 hE fok45 (nZ rfl) (ah6 (aw5 v) (.int _ _)) ?_;have w1:IntKind.wrap .i64 (0-(v.length:Int))=-(v.length:Int):=by rw[wrap64 om om];omega
 have w2:IntKind.wrap .i64 (0-x)=-x:=by rw[wrap64 om om];omega
 unfold isV;by_cases e1:x=0
 ·subst e1;simp only[ic45,go_sem];exact bn2 rfl
 by_cases e2:(v.length:Int)<x
 ·rw[if_pos (.inr (.inl e2))];simp only[ic45,go_sem,e1,e2];exact bn2 rfl
 by_cases e3:x < -(v.length:Int)
 ·rw[if_pos (.inr (.inr e3))];simp only[ic45,go_sem,e1,e2,e3,w1];exact bn2 rfl
 rw[if_neg (by simp only[not_or];exact ⟨e1,e2,e3⟩)];by_cases e4:0<x
 ·obtain ⟨m,hm⟩:=zp (show 0<=x-1 by omega);have hml:m<v.length:=om;have g:=iw2 hml;have d1:(0:Int)<=(m:Int):=om;have d2:(m:Int)<v.length:=om;have w6:IntKind.i64.wrap (m:Int)=(m:Int):=wrap64 om om;rw[if_pos e4,hm,za];simp only[ic45,go_sem,e1,e2,e3,e4,w1,hm,w6,d1,d2,za,g];exact bn2 rfl
 ·obtain ⟨m,hm⟩:=zp (show 0<=-x-1 by omega);have hml:m<v.length:=om;have g:=iw2 hml;have d1:(0:Int)<=(m:Int):=om;have d2:(m:Int)<v.length:=om;have w6:IntKind.i64.wrap (m:Int)=(m:Int):=wrap64 om om;have hy:v.getD m 0∈v:=by rw[zz,zh hml];exact List.getElem_mem hml
  have hy:=hv _ hy;have w5:IntKind.wrap .i64 (0-v.getD m 0)=-(v.getD m 0):=by rw[wrap64 om om];omega
  rw[if_neg e4,hm,za];simp only[ic45,go_sem,e1,e2,e3,e4,w1,w2,hm,w6,d1,d2,za,g,w5];exact bn2 rfl
theorem er6 (v:List Int)(hl:v.length<2^40)(hv:∀y∈v,-(2^40)<=y/\y<=2^40)(L:List (List Int))(hL:L.length<2^40)(hq:∀q∈L,q.length<2^40/\∀x∈q,-(2^40)<=x/\x<=2^40):Pq 23 [.aa3 (v.map Md.ae1),ba5 L] (.bool (ex9 v L)):=by
 refine af4 hE fok23 (nZ rfl) (ah6 (aw5 v) (bg9 L)) ?_;have hI:=λx hx=>ji5 v hl hv x hx
 have vcs:(IV.aa3 (v.map Md.ae1)).cs=[.aa3 (v.map Md.ae1)]:=rfl;unfold ba5;simp only[ic23,go_sem];generalize v.map Md.ae1=V at *;refine ab1 noT (λi fr s=>fr=[(0,.aa3 V),(1,.aa3 (L.map clE)),(5,.int .i64 (i:Int))]/\ex9 v L=ex9 v (L.drop i)) L.length ⟨rfl,rfl⟩ ?_;rintro i fr s hle ⟨rfl,hh⟩;by_cases hlt:i<L.length
 ·obtain ⟨q,hqm,_,hdr,hget,htk⟩:=ad2 L i hlt;have d1:(i:Int)<L.length:=om;have d2:(0:Int)<=i:=om;have w1:=ac3 (i:=i) om;obtain ⟨hql,hqx⟩:=hq q hqm;have hcl:clE q=[.aa3 (q.map Md.ae1)]:=rfl;have hh:ex9 v L=((q.any λx=>decide (isV v x=1))&&ex9 v (L.drop (i+1))):=by rw[hh,hdr];rfl
  simp only[go_sem,d1];refine ab1 noT (λk fr s=>∃b:Bool,fr=[(0,.aa3 V),(1,.aa3 (L.map clE)),(5,.int .i64 (i:Int)),(6,.bool b),(7,.int .i64 (k:Int))]/\(q.any λx=>decide (isV v x=1))=(b||(q.drop k).any λx=>decide (isV v x=1))) q.length ⟨false,rfl,rfl⟩ ?_;rintro k fr t hk ⟨b,rfl,hb⟩;by_cases hkl:k<q.length
  ·obtain ⟨x,hxm,_,hdr2,hget2,htk2⟩:=ad2 q k hkl;have d3:(k:Int)<q.length:=om;have d4:(0:Int)<=k:=om;have w2:=ac3 (i:=k) om;have hIx:=hI x (hqx x hxm);rw[hdr2,List.any_cons,<- Bool.or_assoc] at hb
   cases b with
   | true=>
    simp only[go_sem,d1,d2,d3,d4,hget,hcl,hget2,w2]
    exact ⟨hkl,true,rfl,by simpa using hb⟩
   | false=>
    simp only[go_sem,d1,d2,d3,d4,hget,hcl,hget2,Md.ae1];refine aa4 fok45 (hIx) ?_;simp only[go_sem,w2];exact ⟨hkl,_,rfl,by rw[zm] at hb;exact hb⟩
  ·have hk':k=q.length:=om;subst hk';have d3:¬(q.length:Int)<q.length:=om;rw[ze,z4,z1] at hb
   cases b with
   | true=>
    rw[hb,zl] at hh;simp only[go_sem,d1,d2,d3,hget,hcl,w1]
    exact ⟨hlt,hh⟩
   | false=>
    rw[hb,z0] at hh;simp only[go_sem,d1,d2,d3,hget,hcl,hh];exact ab6 rfl
 ·have hi':i=L.length:=om;subst hi';have d1:¬(L.length:Int)<L.length:=om;rw[ze] at hh;simp only[go_sem,d1,hh];exact ab6 rfl
theorem gh8 (a:ab3)(hA:AOK a){c1 c3 xv:IV}(h1:Bnd 0 c1)(h3:Bnd 0 c3)(hx:Bnd 0 xv)(P:List aa2)(t:ag9)(cs:List (List (List Int)))(st:List Bool)(hs:st.length<2^40) :
  Pq 18 [aw3 a.v c1 c3 xv P t cs,be3 st] (.aa3 ((cv3 st a.l.length).map Md.ae1)):=by
 refine ea6 λσ=>?_
 refine C_f fok18 (nZ rfl) ?_;have hP:=ay3 a;have hC:=av2 a.p;have hrl:a.p.rows.length=a.l.length:=by show _=(ac1 a.p).length;simp[ac1]
 rw[hrl] at hC;have vcs:a.v.cs=[a.v]:=rfl;have vlf:a.v.leaf=true:=rfl;have pvl:a.p.v.leaf=true:=rfl;have pvc:a.p.v.cs=[a.p.v]:=rfl;obtain ⟨m,hm⟩:∃m,m=min st.length a.l.length:=⟨_,rfl⟩
 have hmm:(if (a.l.length:Int)<st.length then (a.l.length:Int) else st.length)=(m:Int):=by
  by_cases h:(a.l.length:Int)<st.length
  ·rw[if_pos h];omega
  ·rw[if_neg h];omega
 unfold cv3 aw3 be3;rw[<- hm];generalize a.v=AV at *;generalize a.p.v=PV at *;simp only[ic18,go_sem,ac2,vcs,vlf]
 first|refine aa4 fok42 (hP) ?_|refine ab2 (hP) ?_
 simp only[go_sem,pvl,pvc];refine aa4 fok43 (hC) ?_;simp only[go_sem,hmm];refine ab1 noT (λi fr s=>∃gv,fr=[(1,.aa3 (st.map ec3)),(5,gv),(17,.int .i64 m),(18,.int .i64 (i:Int))]/\Kept σ s/\ai4 s σ.next gv (ak9 (λn=>st.getD n false) i)) m ⟨.aa1,rfl,Kept.refl σ,.inl ⟨rfl,rfl⟩⟩ ?_;rintro i fr s hle ⟨gv,rfl,hk,hg⟩;by_cases hlt:i<m
 ·have d1:(i:Int)<m:=om;have d2:(0:Int)<=i:=om;have d3:(i:Int)<st.length:=om;have w1:=ac3 (i:=i) om;have g1:=er1 (st:=st) (n:=i) om;have hsn:=ax7 (λn=>st.getD n false) i;have hln:=ao4 (λn=>st.getD n false) i;have hlA:=hA.len
  cases hb:st.getD i false with
  | false=>
   rw[hb] at g1;rw[hb,if_neg (by simp),List.append_nil] at hsn;simp only[go_sem,d1,d2,d3,g1,w1]
   exact ⟨hlt,gv,rfl,hk,by rw[hsn];exact hg⟩
  | true=>
   rw[hb] at g1;rw[hb,if_pos rfl] at hsn;have hap:=az9 (nid:=s.next) (hg.up 1) (i:Int) om;have hz:=bb2 hk hg (i:Int) (a:=1) (nid:=s.next) (zb _) (zk _) rfl;simp only[go_sem,d1,d2,d3,g1,hap,w1];exact ⟨hlt,_,rfl,hz.1,by rw[hsn];exact hz.2⟩
 ·have hi':i=m:=om;subst hi';have d1:¬(i:Int)<i:=om;simp only[go_sem,d1];exact ⟨hk,hg⟩
def alN (n:Nat):Bool:=decide (97<=n)&&decide (n<=122)||decide (65<=n)&&decide (n<=90)||decide (48<=n)&&decide (n<=57)
def in8 (n:Nat):Bool:=alN n || [46,95,43,45,47,58,64,126,94].contains n
def kj5 (n:Nat):Bool:=alN n || [46,95,43,126,94].contains n
theorem hn7 (b:UInt8):bf3 b=in8 b.toNat:=by
 have h:∀n,n<256->bf3 (UInt8.ofNat n)=in8 n:=by decide +kernel
 have:=h b.toNat b.toNat_lt
 rwa [z8] at this
theorem in9 (b:UInt8):bo2 b=kj5 b.toNat:=by
 have h:∀n,n<256->bo2 (UInt8.ofNat n)=kj5 n:=by decide +kernel
 have:=h b.toNat b.toNat_lt
 rwa [z8] at this
theorem da1 (a:Int):Pq 58 [.int .u8 a] (.bool (bg8 a)):=by
 refine af4 hE fok58 (nZ rfl) (ak1 (.int _ _)) ?_;unfold bg8 ak6;by_cases h1:(2:Int)<=a
 ·have e1:(1:Int)<=a:=om;have e2:¬a=1:=om;simp only[ic58,go_sem,h1];exact ab6 (by simp[e1,e2])
 ·simp only[ic58,go_sem,h1];refine ab6 ?_;by_cases e:a=1
  ·simp[e]
  ·have:¬(1:Int)<=a:=om;simp[this]
theorem io1 (n:Nat):Pq 131 [.int .u8 n] (.bool (in8 n)):=by
 refine af4 hE fok131 (nZ rfl) (ak1 (.int _ _)) ?_;by_cases g:n=46\/n=95\/n=43\/n=45\/n=47\/n=58\/n=64\/n=126\/n=94
 ·rcases g with rfl|rfl|rfl|rfl|rfl|rfl|rfl|rfl|rfl
  all_goals
   simp only[ic131,go_sem,Int.reduceNeg,z9];exact ab6 (by decide)
 ·simp only[not_or] at g;obtain ⟨g1,g2,g3,g4,g5,g6,g7,g8,g9⟩:=g;have hc:[46,95,43,45,47,58,64,126,94].contains n=false:=by simp[g1,g2,g3,g4,g5,g6,g7,g8,g9]
  have f1:¬(n:Int)=46:=om;have f2:¬(n:Int)=95:=om;have f3:¬(n:Int)=43:=om;have f4:¬(n:Int)=45:=om;have f5:¬(n:Int)=47:=om;have f6:¬(n:Int)=58:=om;have f7:¬(n:Int)=64:=om;have f8:¬(n:Int)=126:=om;have f9:¬(n:Int)=94:=om;unfold in8 alN;rw[hc,z1];by_cases k1:(97:Int)<=n
  ·by_cases k2:(n:Int)<=122
   ·simp only[ic131,go_sem,k1,k2];have a1:97<=n:=om;have a2:n<=122:=om;exact ab6 (by simp[a1,a2])
   ·have k3:(65:Int)<=n:=om;have k4:¬(n:Int)<=90:=om;have k5:(48:Int)<=n:=om;have k6:¬(n:Int)<=57:=om;simp only[ic131,go_sem,k1,k2,k3,k4,k5,k6,f1,f2,f3,f4,f5,f6,f7,f8,f9];have a2:¬n<=122:=om;have a4:¬n<=90:=om;have a6:¬n<=57:=om;exact ab6 (by simp[a2,a4,a6])
  ·have a1:¬97<=n:=om;by_cases k3:(65:Int)<=n
   ·by_cases k4:(n:Int)<=90
    ·simp only[ic131,go_sem,k1,k3,k4];have a3:65<=n:=om;have a4:n<=90:=om;exact ab6 (by simp[a3,a4])
    ·have k5:(48:Int)<=n:=om;have k6:¬(n:Int)<=57:=om;simp only[ic131,go_sem,k1,k3,k4,k5,k6,f1,f2,f3,f4,f5,f6,f7,f8,f9];have a4:¬n<=90:=om;have a6:¬n<=57:=om;exact ab6 (by simp[a1,a4,a6])
   ·have a3:¬65<=n:=om;by_cases k5:(48:Int)<=n
    ·by_cases k6:(n:Int)<=57
     ·simp only[ic131,go_sem,k1,k3,k5,k6];have a5:48<=n:=om;have a6:n<=57:=om;exact ab6 (by simp[a5,a6])
     ·simp only[ic131,go_sem,k1,k3,k5,k6,f1,f2,f3,f4,f5,f6,f7,f8,f9];have a6:¬n<=57:=om;exact ab6 (by simp[a1,a3,a6])
    ·simp only[ic131,go_sem,k1,k3,k5,f1,f2,f3,f4,f5,f6,f7,f8,f9];have a5:¬48<=n:=om;exact ab6 (by simp[a1,a3,a5])
theorem fp4 (s:Str)(hs:s.length<2^62):Pq 94 [.str s] (.bool (as4 s)):=by
 refine af4 hE fok94 (nZ rfl) (ak1 (.str _)) ?_;unfold as4;by_cases h1:1<=s.length
 case neg=>
  have c1:(s.length:Int)<1:=om;simp only[ic94,go_sem,c1];exact ab6 (by simp[h1])
 by_cases h2:s.length<=64
 case neg=>
  have c1:¬(s.length:Int)<1:=om;have c2:(64:Int)<s.length:=om;simp only[ic94,go_sem,c1,c2];exact ab6 (by simp[h2])
 have c1:¬(s.length:Int)<1:=om;have c2:¬(64:Int)<s.length:=om;by_cases hw:s∈words
 ·have hc:words.contains s=true:=by simpa using hw
  have e:s=[97,110,100]\/s=[111,114]\/s=[105,102]\/s=[101,108,115,101]\/s=[117,110,108,101,115,115]\/s=[119,105,116,104]\/s=[119,105,116,104,111,117,116]:=by simpa [words] using hw
  rw[hc];rcases e with rfl|rfl|rfl|rfl|rfl|rfl|rfl
  all_goals
   simp only[ic94,go_sem,c1,c2,List.length_cons,zy];exact ab6 (by decide)
 have hc:words.contains s=false:=by simpa using hw
 have hn:¬s=[97,110,100]/\¬s=[111,114]/\¬s=[105,102]/\¬s=[101,108,115,101]/\¬s=[117,110,108,101,115,115]/\¬s=[119,105,116,104]/\¬s=[119,105,116,104,111,117,116]:=by simpa [words,not_or] using hw
 obtain ⟨n1,n2,n3,n4,n5,n6,n7⟩:=hn;rw[hc,decide_eq_true h1,decide_eq_true h2,zl,zl,Bool.not_false,Bool.and_true];simp only[ic94,go_sem,c1,c2,n1,n2,n3,n4,n5,n6,n7];refine ab1 noT (λi fr t=>fr=[(0,.str s),(3,.int .i64 (i:Int))]/\(s.take i).all bf3=true) s.length ⟨rfl,rfl⟩ ?_;rintro i fr t hi ⟨rfl,ha⟩;by_cases hlt:i<s.length
 ·have d1:(i:Int)<s.length:=om;have d2:(0:Int)<=i:=om;have w1:=ac3 (i:=i) om;have hsg:=io1 s[i].toNat;rw[<- hn7] at hsg;simp only[go_sem,d1,d2,zh hlt,za];refine aa4 fok131 (hsg) ?_
  cases hb:bf3 s[i] with
  | true=>
   simp only[go_sem,w1]
   exact ⟨hlt,by rw[cz2 hlt,ha,hb];rfl⟩
  | false=>
   simp only[go_sem];exact ab6 (by rw[bk2 hlt hb])
 ·have d1:¬(i:Int)<s.length:=om;have e:i=s.length:=om;subst e;rw[zn] at ha;simp only[go_sem,d1];exact ab6 (by rw[ha])
theorem io2 (s:Str)(hs:s.length<2^62):Pq 96 [.str s] (.bool (bi7 s)):=by
 refine af4 hE fok96 (nZ rfl) (ak1 (.str _)) ?_;have h:=fp4 s hs;unfold bi7;simp only[ic96,go_sem];refine aa4 fok94 (h) ?_
 cases hn:as4 s with
 | false=>simp only[go_sem];exact ab6 rfl
 | true=>
  cases s with
  | nil=>simp[as4] at hn
  | cons b l=>
   simp only[go_sem,List.head?_cons];refine ab6 ?_
   have:(b.toNat:Int)=47↔b=47:=by
    constructor
    ·intro h;exact UInt8.toNat_inj.1 (by show b.toNat=47;omega)
    ·rintro rfl;rfl
   by_cases e:b=47
   ·subst e;rfl
   ·have e2:¬(b.toNat:Int)=47:=λh=>e (this.1 h)
    simp[e,e2]
theorem fp5 (s:Str)(hs:s.length<2^62):Pq 132 [.str s] (.bool (az3 s)):=by
 refine af4 hE fok132 (nZ rfl) (ak1 (.str _)) ?_;simp only[ic132,go_sem];refine ab1 noT (λi fr t=>fr=[(0,.str s),(3,.int .i64 (i:Int))]/\(s.take i).all bo2=true) s.length ⟨rfl,rfl⟩ ?_;rintro i fr t hi ⟨rfl,ha⟩;by_cases hlt:i<s.length
 ·have d1:(i:Int)<s.length:=om;have d2:(0:Int)<=i:=om;have w1:=ac3 (i:=i) om;have hv:=in9 s[i];have step:bo2 s[i]=true->(s.take (i+1)).all bo2=true:=λh=>by rw[cz2 hlt,ha,h];rfl
  have fin:bo2 s[i]=false->az3 s=false:=λh=>by simp only[az3,bk2 hlt h,Bool.and_false]
  simp only[go_sem,d1,d2,zh hlt,za];generalize s[i].toNat=n at *;by_cases g:n=46\/n=95\/n=43\/n=126\/n=94
  ·rcases g with rfl|rfl|rfl|rfl|rfl
   all_goals
    simp only[go_sem,z9,Int.reduceEq,w1];exact ⟨hlt,step (hv.trans (by decide))⟩
  ·simp only[not_or] at g;obtain ⟨g1,g2,g3,g4,g5⟩:=g;have hc:[46,95,43,126,94].contains n=false:=by simp[g1,g2,g3,g4,g5]
   have f1:¬(n:Int)=46:=om;have f2:¬(n:Int)=95:=om;have f3:¬(n:Int)=43:=om;have f4:¬(n:Int)=126:=om;have f5:¬(n:Int)=94:=om;unfold kj5 alN at hv;rw[hc,z1] at hv;by_cases k1:(97:Int)<=n
   ·have a5:(48:Int)<=n:=om;have a6:¬(n:Int)<=57:=om;by_cases k2:(n:Int)<=122
    ·have a1:97<=n:=om;have a2:n<=122:=om;simp only[go_sem,k1,k2,a5,a6,w1];exact ⟨hlt,step (hv.trans (by simp[a1,a2]))⟩
    ·have k3:(65:Int)<=n:=om;have k4:¬(n:Int)<=90:=om;simp only[go_sem,k1,k2,k3,k4,a5,a6,f1,f2,f3,f4,f5];have b2:¬n<=122:=om;have b4:¬n<=90:=om;have b6:¬n<=57:=om;exact ab6 (fin (hv.trans (by simp[b2,b4,b6]))).symm
   ·have b1:¬97<=n:=om;by_cases k3:(65:Int)<=n
    ·have a5:(48:Int)<=n:=om;have a6:¬(n:Int)<=57:=om;by_cases k4:(n:Int)<=90
     ·simp only[go_sem,k1,k3,k4,a5,a6,w1];have a3:65<=n:=om;have a4:n<=90:=om;exact ⟨hlt,step (hv.trans (by simp[a3,a4]))⟩
     ·simp only[go_sem,k1,k3,k4,a5,a6,f1,f2,f3,f4,f5];have b4:¬n<=90:=om;have b6:¬n<=57:=om;exact ab6 (fin (hv.trans (by simp[b1,b4,b6]))).symm
    ·have b3:¬65<=n:=om;by_cases k5:(48:Int)<=n
     ·by_cases k6:(n:Int)<=57
      ·simp only[go_sem,k1,k3,k5,k6,w1];have a5:48<=n:=om;have a6:n<=57:=om;exact ⟨hlt,step (hv.trans (by simp[a5,a6]))⟩
      ·simp only[go_sem,k1,k3,k5,k6,f1,f2,f3,f4,f5];have b6:¬n<=57:=om;exact ab6 (fin (hv.trans (by simp[b1,b3,b6]))).symm
     ·simp only[go_sem,k1,k3,k5,f1,f2,f3,f4,f5];have b5:¬48<=n:=om;exact ab6 (fin (hv.trans (by simp[b1,b3,b5]))).symm
 ·have d1:¬(i:Int)<s.length:=om;have e:i=s.length:=om;subst e;rw[zn] at ha;unfold az3;rw[ha,Bool.and_true];by_cases h1:1<=s.length
  ·have c1:(1:Int)<=s.length:=om;simp only[go_sem,d1,c1];refine ab6 ?_;have:decide ((s.length:Int)<=64)=decide (s.length<=64):=decide_eq_decide.2 om;simp[h1,this]
  ·have c1:¬(1:Int)<=s.length:=om;simp only[go_sem,d1,c1];exact ab6 (by simp[h1])
theorem ji6 (e:EVR)(dep:Bool)(h1:e.ver.length<2^62)(h2:e.rel.length<2^62):Pq 97 [.agg e.cs,.bool dep] (.bool (bi8 e dep)):=by
 obtain ⟨ep,ver,rel⟩:=e;refine af4 hE fok97 (nZ rfl) (ah6 (.agg _ (ce2 (.int _ _) (.str _) (.str _))) (.bool _)) ?_;have hw:=fp5 ver h1;have hw':=fp5 rel h2;unfold bi8;by_cases a1:ep<0
 ·have b1:¬(0:Int)<=ep:=om;simp only[ic97,go_sem,EVR.cs,a1];exact ab6 (by simp[b1])
 have b1:(0:Int)<=ep:=om;by_cases a2:2147483647<ep
 ·have b2:¬ep<=2147483647:=om;simp only[ic97,go_sem,EVR.cs,a1,a2];exact ab6 (by simp[b2])
 have b2:ep<=2147483647:=om;simp only[b1,b2,decide_true,zl];simp only[ic97,go_sem,EVR.cs,a1,a2];refine aa4 fok132 (hw) ?_
 cases hv:az3 ver with
 | false=>simp only[go_sem];exact ab6 (by simp)
 | true=>
  by_cases hr:rel=[]
  ·subst hr;simp only[go_sem];refine ab6 ?_;have:az3 []=false:=by decide
   rw[this];simp
  ·have he:rel.isEmpty=false:=by simpa using hr
   simp only[go_sem,hr];refine aa4 fok132 (hw') ?_;simp only[go_sem];exact ab6 (by rw[he];simp)
theorem ji7 (n:Int):Pq 95 [.int .u8 n] (.bool (eb1 n)):=by
 refine af4 hE fok95 (nZ rfl) (ak1 (.int _ _)) ?_;unfold eb1;by_cases g:n=0\/n=1\/n=2\/n=3\/n=4\/n=6
 ·rcases g with rfl|rfl|rfl|rfl|rfl|rfl
  all_goals
   simp only[ic95,go_sem];exact ab6 (by decide)
 ·simp only[not_or] at g;obtain ⟨g1,g2,g3,g4,g5,g6⟩:=g;simp only[ic95,go_sem,g1,g2,g3,g4,g5,g6];exact ab6 (by simp[g1,g2,g3,g4,g5,g6])
theorem ji8 (e:EVR):allEq [1,2,2] e.cs hp5.cs=zi (decide (e=hp5)):=by
 obtain ⟨ep,ver,rel⟩:=e;simp[EVR.cs,hp5,allEq,ak4]
theorem ji9 (d:Dep)(h1:d.name.length<2^62)(h2:d.evr.ver.length<2^62)(h3:d.evr.rel.length<2^62):Pq 59 [.agg d.cs] (.bool (am2 d)):=by
 refine af4 hE fok59 (nZ rfl) (ak1 (.agg _ (gz3 d))) ?_;have hn:=fp4 d.name h1;have hf:=io2 d.name h1;have ho:=ji7 d.op;have hm:=ji6 d.evr true h2 h3;have he:=ji8 d.evr;unfold am2;obtain ⟨name,op,⟨ep,ver,rel⟩⟩:=d;unfold EVR.cs hp5 at he;simp only at *;simp only[ic59,go_sem,Dep.cs];refine aa4 fok94 (hn) ?_
 cases as4 name with
 | false=>simp only[go_sem];exact ab6 (by simp)
 | true=>
  simp only[go_sem];refine aa4 fok95 (ho) ?_
  cases eb1 op with
  | false=>simp only[go_sem];exact ab6 (by simp)
  | true=>
   by_cases h0:op=0
   ·simp only[go_sem,h0,he,Option.map_some];exact ab6 (by simp[hp5])
   ·simp only[go_sem,h0];refine aa4 fok96 (hf) ?_
    cases bi7 name with
    | true=>simp only[go_sem];exact ab6 (by simp[h0])
    | false=>
     simp only[go_sem];refine aa4 fok97 (hm) ?_;simp only[go_sem];exact ab6 (by simp[h0])
theorem fp6 (a:Int):Pq 160 [.int .u8 a] (.str (as8 a)):=by
 refine af4 hE fok160 (nZ rfl) (ak1 (.int _ _)) ?_;unfold as8;by_cases g:a=1\/a=2\/a=3\/a=4
 ·rcases g with rfl|rfl|rfl|rfl
  all_goals
   simp only[ic160,go_sem];exact .keep _ (.str _)
 ·simp only[not_or] at g;obtain ⟨g1,g2,g3,g4⟩:=g;simp only[ic160,go_sem,g1,g2,g3,g4];exact .keep _ (.str _)
def jy7 (e:Nat)(es:List (List IV)):Prop:=∀x∈es,x.length=e/\x.all IV.leaf=true
def Far (v w:IV):Prop:=∀i k e j l f,v=.slice i 0 k e->w=.slice j 0 l f->i≠j
structure Q12 (s:Store) (id:Nat) (n:Int) (k:Nat) (Lv Rv Pv:IV) (eL eR eP:List (List IV)):Prop where
 cell:s.obj id=zi (.cells [Lv,.int .i64 n,Rv,Pv])
 lt:id<s.next
 gL:Grow s Lv 15 eL
 gR:Grow s Rv 1 eR
 gP:Grow s Pv 1 eP
 aL:jy7 15 eL
 aR:jy7 1 eR
 aP:jy7 1 eP
 kL:eL.length<=k
 kR:eR.length<=k
 kP:eP.length<=k
 lr:Far Lv Rv
 lp:Far Lv Pv
 rp:Far Rv Pv
theorem Q12.mono {s s':Store}{id:Nat}{n:Int}{k:Nat}{Lv Rv Pv:IV}{eL eR eP:List (List IV)}(h:Q12 s id n k Lv Rv Pv eL eR eP)(hn:s.next<=s'.next)(ho:∀i,i<s.next->s'.obj i=s.obj i):Q12 s' id n k Lv Rv Pv eL eR eP :=
 {h with
  cell:=by rw[ho _ h.lt];exact h.cell
  lt:=Nat.lt_of_lt_of_le h.lt hn
  gL:=h.gL.mono hn λi _ hi=>ho i hi
  gR:=h.gR.mono hn λi _ hi=>ho i hi
  gP:=h.gP.mono hn λi _ hi=>ho i hi }
theorem fp7 {s:Store}{v:IV}{e:Nat}{es:List (List IV)}(h:Grow s v e es){i k f:Nat}(hv:v=.slice i 0 k f):i<s.next/\∃cs,s.obj i=zi (.row cs):=by
 rcases h with ⟨h0,_⟩|⟨j,hj,ho,hl⟩
 ·rw[h0] at hv;cases hv
 ·rw[hj] at hv;cases hv;exact ⟨hl,_,ho⟩
theorem hn8 {s:Store}{v:IV}{i:Nat}(h:∀k e,v≠.slice i 0 k e){e:Nat}{es:List (List IV)}(hg:Grow s v e es):(ae9 v s).obj i=s.obj i:=by
 rcases hg with ⟨h0,_⟩|⟨j,hj,_,_⟩
 ·rw[h0];rfl
 ·rw[hj];show (if i=j then none else s.obj i)=_;rw[if_neg λe=>h _ _ (by rw[hj,e])]
theorem gh9 {s:Store}{v w:IV}{e f m nid:Nat}{es fs:List (List IV)}(hm:s.next<=m)(hg:Grow s v e es)(hw:Grow s w f fs)(hf:Far v w)(hn:∀i k g,w=.slice i 0 k g->i≠nid)(r:aj2) :
  Grow ((ae9 v (⟨m,s.obj⟩:Store)).put nid r) w f fs:=by
 have hg':Grow (⟨m,s.obj⟩:Store) v e es:=hg.mono hm λ_ _ _=>rfl
 refine hw.mono (by rw[aa8,ab7];exact hm) λi hv _=>?_
 rw[aa5,if_neg (hn _ _ _ hv),hn8 (λk g hk=>hf _ _ _ _ _ _ hk hv rfl) hg']
theorem Q12.push {t:Store}{id:Nat}{n:Int}{k:Nat}{Lv Rv Pv:IV}{eL eR eP:List (List IV)}(h:Q12 t id n k Lv Rv Pv eL eR eP)(hk:k<2^20){c:List IV}(hc:c.length=15/\c.all IV.leaf=true)(a b:Int){d1 d2 d3 d4:Nat}(h12:d1<d2)(h23:d2<d3)(h34:d3<d4) :
  ∃L' R' P' S1 S2 S3,as2 ⟨t.next+d4,t.obj⟩ (t.next+d1) 15 Lv (.aa3 [c])=zi (L',S1)/\S1.obj id=zi (.cells [Lv,.int .i64 n,Rv,Pv])/\as2 S1 (t.next+d2) 1 Rv (.aa3 [[.int .i64 a]])=zi (R',S2)/\S2.obj id=zi (.cells [Lv,.int .i64 n,Rv,Pv]) /\
   as2 S2 (t.next+d3) 1 Pv (.aa3 [[.int .i64 b]])=zi (P',S3)/\S3.obj id=zi (.cells [Lv,.int .i64 n,Rv,Pv])/\(L'.leaf=true/\L'.cs=[L']/\R'.leaf=true/\R'.cs=[R']/\P'.leaf=true/\P'.cs=[P'])/\S3.next=t.next+d4 /\
   ∀τ:Store,t.next+d4<=τ.next->τ.obj id=zi (.cells [L',.int .i64 n,R',P'])->(∀i,i≠id->τ.obj i=S3.obj i)->Q12 τ id n (k+1) L' R' P' (eL++[c]) (eR++[[.int .i64 a]]) (eP++[[.int .i64 b]]):=by
 have hcell:=h.cell;have nid1:¬id=t.next+d1:=by have:=h.lt;omega
 have nid2:¬id=t.next+d2:=by have:=h.lt;omega
 have nid3:¬id=t.next+d3:=by have:=h.lt;omega
 have notrow:∀ {s:Store} {v:IV} {e:Nat} {es:List (List IV)},Grow s v e es->s.obj id=zi (.cells [Lv,.int .i64 n,Rv,Pv])->∀kk ee,v≠.slice id 0 kk ee:=λhg ho kk ee hv=>by
  obtain ⟨_,cs,hr⟩:=fp7 hg hv;rw[ho] at hr;cases hr
 have old:∀ {s:Store} {v:IV} {e:Nat} {es:List (List IV)},Grow s v e es->s.next=t.next->∀d i kk g,v=.slice i 0 kk g->i≠t.next+d:=λhg hs d i kk g hv=>by
  have:=(fp7 hg hv).1;omega
 -- the first row
 have G0:Grow (⟨t.next+d4,t.obj⟩:Store) Lv 15 eL:=h.gL.mono (by show t.next<=t.next+d4;omega) λ_ _ _=>rfl
 have A1:=ai2 (nid:=t.next+d1) (e:=c) G0 h.aL hc (by have:=h.kL;omega)
 have c1:((ae9 Lv (⟨t.next+d4,t.obj⟩:Store)).put (t.next+d1) (.row (eL++[c]).flatten)).obj id=zi (.cells [Lv,.int .i64 n,Rv,Pv]):=by
  rw[aa5,if_neg nid1];exact af5 G0 id _ hcell (λ_ e=>by cases e)
 have R1:=gh9 (m:=t.next+d4) (nid:=t.next+d1) (zw _ _) h.gL h.gR h.lr (old h.gR rfl d1) (.row (eL++[c]).flatten);have P1:=gh9 (m:=t.next+d4) (nid:=t.next+d1) (zw _ _) h.gL h.gP h.lp (old h.gP rfl d1) (.row (eL++[c]).flatten);have L1:Grow ((ae9 Lv (⟨t.next+d4,t.obj⟩:Store)).put (t.next+d1) (.row (eL++[c]).flatten)) (.slice (t.next+d1) 0 (eL.length+1) 15) 15 (eL++[c]):=Grow.new (v:=.aa1) (by rw[aa8,ab7];show _<t.next+d4;omega) (by rw[aa5,if_pos rfl]);have N1:((ae9 Lv (⟨t.next+d4,t.obj⟩:Store)).put (t.next+d1) (.row (eL++[c]).flatten)).next=t.next+d4:=by rw[aa8,ab7]
 generalize (ae9 Lv (⟨t.next+d4,t.obj⟩:Store)).put (t.next+d1) (.row (eL++[c]).flatten)=S1 at *
 -- the second
 have A2:=ai2 (nid:=t.next+d2) (e:=[IV.int .i64 a]) R1 h.aR ⟨rfl,rfl⟩ (by have:=h.kR;omega);have e1:(⟨S1.next,S1.obj⟩:Store)=S1:=rfl
 have c2:((ae9 Rv S1).put (t.next+d2) (.row (eR++[[IV.int .i64 a]]).flatten)).obj id=zi (.cells [Lv,.int .i64 n,Rv,Pv]):=by
  rw[aa5,if_neg nid2];exact af5 R1 id _ c1 (λ_ e=>by cases e)
 have P2:Grow ((ae9 Rv S1).put (t.next+d2) (.row (eR++[[IV.int .i64 a]]).flatten)) Pv 1 eP:=gh9 (s:=S1) (m:=S1.next) (nid:=t.next+d2) (zb _) R1 P1 h.rp (λi kk g hv=>old h.gP rfl d2 i kk g hv) _;have L2:Grow ((ae9 Rv S1).put (t.next+d2) (.row (eR++[[IV.int .i64 a]]).flatten)) (.slice (t.next+d1) 0 (eL.length+1) 15) 15 (eL++[c]):=gh9 (s:=S1) (m:=S1.next) (nid:=t.next+d2) (zb _) R1 L1 (λi kk g j l f hv hw=>by cases hw;exact old h.gR rfl d1 _ _ _ hv) (λi kk g hv=>by cases hv;omega) _;have R2:Grow ((ae9 Rv S1).put (t.next+d2) (.row (eR++[[IV.int .i64 a]]).flatten)) (.slice (t.next+d2) 0 (eR.length+1) 1) 1 (eR++[[IV.int .i64 a]]):=Grow.new (v:=.aa1) (by rw[aa8,ab7,N1];omega) (by rw[aa5,if_pos rfl]);have N2:((ae9 Rv S1).put (t.next+d2) (.row (eR++[[IV.int .i64 a]]).flatten)).next=t.next+d4:=by rw[aa8,ab7,N1]
 generalize (ae9 Rv S1).put (t.next+d2) (.row (eR++[[IV.int .i64 a]]).flatten)=S2 at *
 -- the third
 have A3:=ai2 (nid:=t.next+d3) (e:=[IV.int .i64 b]) P2 h.aP ⟨rfl,rfl⟩ (by have:=h.kP;omega)
 have c3:((ae9 Pv S2).put (t.next+d3) (.row (eP++[[IV.int .i64 b]]).flatten)).obj id=zi (.cells [Lv,.int .i64 n,Rv,Pv]):=by
  rw[aa5,if_neg nid3];exact af5 P2 id _ c2 (λ_ e=>by cases e)
 have L3:Grow ((ae9 Pv S2).put (t.next+d3) (.row (eP++[[IV.int .i64 b]]).flatten)) (.slice (t.next+d1) 0 (eL.length+1) 15) 15 (eL++[c]):=gh9 (s:=S2) (m:=S2.next) (nid:=t.next+d3) (zb _) P2 L2 (λi kk g j l f hv hw=>by cases hw;exact old h.gP rfl d1 _ _ _ hv) (λi kk g hv=>by cases hv;omega) _;have R3:Grow ((ae9 Pv S2).put (t.next+d3) (.row (eP++[[IV.int .i64 b]]).flatten)) (.slice (t.next+d2) 0 (eR.length+1) 1) 1 (eR++[[IV.int .i64 a]]):=gh9 (s:=S2) (m:=S2.next) (nid:=t.next+d3) (zb _) P2 R2 (λi kk g j l f hv hw=>by cases hw;exact old h.gP rfl d2 _ _ _ hv) (λi kk g hv=>by cases hv;omega) _;have P3:Grow ((ae9 Pv S2).put (t.next+d3) (.row (eP++[[IV.int .i64 b]]).flatten)) (.slice (t.next+d3) 0 (eP.length+1) 1) 1 (eP++[[IV.int .i64 b]]):=Grow.new (v:=.aa1) (by rw[aa8,ab7,N2];omega) (by rw[aa5,if_pos rfl]);have N3:((ae9 Pv S2).put (t.next+d3) (.row (eP++[[IV.int .i64 b]]).flatten)).next=t.next+d4:=by rw[aa8,ab7,N2]
 generalize (ae9 Pv S2).put (t.next+d3) (.row (eP++[[IV.int .i64 b]]).flatten)=S3 at *;refine ⟨_,_,_,S1,S2,S3,A1,c1,A2,c2,A3,c3,⟨rfl,rfl,rfl,rfl,rfl,rfl⟩,N3,λτ hτ hcτ hoτ=>?_⟩;have keep:∀ {v:IV} {e:Nat} {es:List (List IV)},Grow S3 v e es->Grow τ v e es:=λhg=>hg.mono om λi hv _=>hoτ i λe=>notrow hg c3 _ _ (by rw[<- e];exact hv)
 have snocE:∀ {e:Nat} {es:List (List IV)} {x:List IV},jy7 e es->(x.length=e/\x.all IV.leaf=true)->jy7 e (es++[x]):=λh1 h2 y hy=>by
  rcases List.mem_append.1 hy with hy|hy
  ·exact h1 y hy
  ·rw[zc] at hy;rw[hy];exact h2
 exact {
  cell:=hcτ
  lt:=by have:=h.lt;omega
  gL:=keep L3
  gR:=keep R3
  gP:=keep P3
  aL:=snocE h.aL hc
  aR:=snocE h.aR ⟨rfl,rfl⟩
  aP:=snocE h.aP ⟨rfl,rfl⟩
  kL:=by rw[zd];have:=h.kL;simp only[zf];omega
  kR:=by rw[zd];have:=h.kR;simp only[zf];omega
  kP:=by rw[zd];have:=h.kP;simp only[zf];omega
  lr:=λi k e j l f h1 h2=>by cases h1;cases h2;omega
  lp:=λi k e j l f h1 h2=>by cases h1;cases h2;omega
  rp:=λi k e j l f h1 h2=>by cases h1;cases h2;omega }
open Go Go.Id Go.Proofs Go.Id.Md
theorem aok {repos:List ao2}{inst:List aa2}{p:Pool}{r:Req}(hI:jh3 repos inst)(hn:ce4 repos inst=.inl p)(hR:en6 r)(he:aj4 r p.inst=0):AOK ⟨p,r⟩:=by
 have hf:=iv3 hI hn;have hlen:(ac1 p).length<=256:=by simp only[ac1,zg];exact fh1 hn
 unfold aj4 at he;split at he
 ·cases he
 split at he
 ·cases he
 rename_i hb;split at he
 ·cases he
 rename_i hj;refine ⟨hlen,λx hx=>(hf x hx).2.1,λx hx=>(hf x hx).1,λx hx=>(hf x hx).2.2,?_,?_,?_,λj hj=>(hR.it9 j hj).1,λj hjm=>?_⟩
 ·have h1:=bq1 hn
  have h2:p.inst=inst.length:=by
   unfold ce4 at hn;split at hn
   ·cases hn
   split at hn
   ·cases hn
   split at hn
   ·cases hn;rfl
   ·cases hn
  show p.inst<=((ac1 p).length:Nat);rw[h2,h1,zd];omega
 ·show r.af2.length<=64;omega
 ·show r.ag5.length<=128;omega
 ·have h1:r.af2.all av8=true:=by simpa using hj
  have h2:=List.all_eq_true.1 h1 j hjm;unfold av8 at h2;simp only[zv,decide_eq_true_eq] at h2;exact ⟨h2.1.1,h2.1.2⟩
def er9 (repos:List ao2)(inst:List aa2):List aa2:=inst++repos.flatMap λr=>r.packages
theorem io3 (repos:List ao2)(inst:List aa2)(hN:inst.length+am8 repos<=256)(hr:repos.length<=16):Pq 27 [ba6 repos,av4 inst] (av4 (er9 repos inst)):=by
 refine af4 hE fok27 (nZ rfl) (ah6 (br5 repos) (ap6 inst)) ?_;have g0:Grow (({ next:=2,obj:=emp.obj }:Store).put 0 (aj2.row [])) (.slice 0 0 0 15) 15 []:=.inr ⟨0,rfl,by rw[aa5,if_pos rfl];rfl,by show 0<2;omega⟩;obtain ⟨v1,t1,a1,n1,q1,_,_⟩:=ej3 (nid:=1) (xs:=inst.map aa2.cs) g0 (λx h=>by cases h) (aw6 _) (by rw[zg,zy];omega) (by show 1<2;omega);rw[List.nil_append] at q1;simp only[ic27,go_sem,a1];refine ab1 noT (λi fr t=>∃gv,fr=[(0,ba6 repos),(5,gv),(6,.int .i64 (i:Int))]/\Grow t gv 15 ((er9 (repos.take i) inst).map aa2.cs)/\(er9 (repos.take i) inst).length+am8 (repos.drop i)=inst.length+am8 repos) repos.length ⟨v1,rfl,by simpa [er9] using q1,by simp[er9]⟩ ?_;rintro i fr t hle ⟨gv,rfl,hg,hsum⟩;by_cases hlt:i<repos.length
 ·obtain ⟨a,ha,_,hdr,hget,htk⟩:=ad2 repos i hlt;have c1:(i:Int)<repos.length:=om;have c2:(0:Int)<=i:=om;have w1:=ac3 (i:=i) om;rw[ee9 repos i a hdr] at hsum
  have hap:er9 (repos.take (i+1)) inst=er9 (repos.take i) inst++a.packages:=by
   unfold er9
   have:repos.take (i+1)=repos.take i++[a]:=by
    rw[List.take_add_one];have:=congrArg List.head? hdr;rw[List.head?_drop] at this;rw[this];rfl
   rw[this,List.flatMap_append];simp
  obtain ⟨v2,t2,a2,n2,q2,_,_⟩:=ej3 (nid:=t.next) (xs:=a.packages.map aa2.cs) (hg.mono (σ':=⟨t.next+1,t.obj⟩) (Nat.le_succ _) λ_ _ _=>rfl) (aw6 _) (aw6 _) (by rw[zg,zg];omega) (zk _);simp only[go_sem,c1,c2,hget,bn3,dg6,dg5,ao2.cs,a2,w1];refine ⟨hlt,v2,rfl,?_,?_⟩
  ·rw[hap,zx];exact q2
  ·rw[hap,zd];omega
 ·have hi':i=repos.length:=om;subst hi';have c1:¬(repos.length:Int)<repos.length:=om;rw[zn] at hg;simp only[go_sem,c1];refine hg.frz (λx hx=>(aw6 _ x hx).1) (λ_ _=>zq _) λe he c hc=>?_
  obtain ⟨y,_,rfl⟩:=List.mem_map.1 he;exact au6 y c hc
def dw9 (all:List aa2)(inst:Int)(r:Req):IV:=if aj4 r inst=0 then .tuple [.ab8 (av4 all::.int .i64 inst::r.cs),.int .i64 0] else .tuple [.ae3,.int .i64 (aj4 r inst)]
theorem io4 (all:List aa2)(inst:Int)(r:Req)(hR:en6 r):Pq 26 [av4 all,.int .i64 inst,.agg r.cs] (dw9 all inst r):=by
 refine af4 hE fok26 (nZ rfl) (ce2 (ap6 all) (.int _ _) (.agg _ (ba1 r))) ?_;have hm:=da1 r.ap7;have k0:r.cs.head? = zi (.int .u8 r.ap7):=rfl;have k2:(r.cs.drop 2).head? = zi (as5 r.af2):=rfl;have k3:(r.cs.drop 3).head? = zi (ao7 r.ag5):=rfl;have k4:(r.cs.drop 4).head? = zi (.int .i64 r.budget):=rfl;obtain ⟨V,hV⟩:∃V,dw9 all inst r=V:=⟨_,rfl⟩
 have herr:∀(s:Store) (e:Int),aj4 r inst=e->e≠0->cb5 s 0 (.tuple [.ae3,.int .i64 e]) V:=λs e h1 h2=>by
  rw[<- hV];unfold dw9;rw[h1,if_neg h2];exact .keep _ (.tuple _ (ah6 .ae3 (.int _ _)))
 rw[hV];by_cases c1:bg8 r.ap7=false
 ·rw[c1] at hm;simp only[ic26,go_sem,ag3,k0];refine aa4 fok58 (hm) ?_;simp only[go_sem];exact herr _ 1 (by unfold aj4;rw[if_pos (.inl c1)]) (by decide)
 have c1':bg8 r.ap7=true:=by simpa using c1
 rw[c1'] at hm;by_cases c2:r.budget<0
 ·simp only[ic26,go_sem,ag3,k0];refine aa4 fok58 (hm) ?_;simp only[go_sem,k4,c2];exact herr _ 1 (by unfold aj4;rw[if_pos (.inr (.inl c2))]) (by decide)
 by_cases c3:1099511627776<r.budget
 ·simp only[ic26,go_sem,ag3,k0];refine aa4 fok58 (hm) ?_;simp only[go_sem,k4,c2,c3];exact herr _ 1 (by unfold aj4;rw[if_pos (.inr (.inr c3))]) (by decide)
 have q1:¬(bg8 r.ap7=false\/r.budget<0\/1099511627776<r.budget):=λh=>h.elim c1 λh=>h.elim c2 c3
 by_cases c4:64<r.af2.length
 ·have c4':(64:Int)<r.af2.length:=om;simp only[ic26,go_sem,ag3,k0];refine aa4 fok58 (hm) ?_;simp only[go_sem,k4,c2,c3,k2,c4'];exact herr _ 40 (by unfold aj4;rw[if_neg q1,if_pos (.inl c4)]) (by decide)
 have c4':¬(64:Int)<r.af2.length:=om;by_cases c5:64<r.ag5.length
 ·have c5':(64:Int)<r.ag5.length:=om;simp only[ic26,go_sem,ag3,k0];refine aa4 fok58 (hm) ?_;simp only[go_sem,k4,c2,c3,k2,k3,c4',c5'];exact herr _ 40 (by unfold aj4;rw[if_neg q1,if_pos (.inr c5)]) (by decide)
 have c5':¬(64:Int)<r.ag5.length:=om;have q2:¬(64<r.af2.length\/64<r.ag5.length):=λh=>h.elim c4 c5
 simp only[ic26,go_sem,ag3,k0];refine aa4 fok58 (hm) ?_;simp only[go_sem,k4,c2,c3,k2,k3,c4',c5'];refine ab1 noT (λi fr t=>fr=[(0,av4 all),(1,.int .i64 inst),(5,.ab8 r.cs),(8,.int .i64 (i:Int))]/\(r.af2.drop i).all av8=r.af2.all av8) r.af2.length ⟨rfl,rfl⟩ ?_;rintro i fr t hi ⟨rfl,ha⟩;by_cases hlt:i<r.af2.length
 ·obtain ⟨x,hx,_,hdr,hget,_⟩:=ad2 r.af2 i hlt;have d1:(i:Int)<r.af2.length:=om;have d2:(0:Int)<=i:=om;have w1:=ac3 (i:=i) om;obtain ⟨hs1,hs2⟩:=hR.it9 x hx;have hmay:=ji9 x.dep om (by have:=hs1.2.2.1;omega) (by have:=hs1.2.2.2;omega);have x0:x.cs.head? = zi (.int .u8 x.kind):=rfl;have x1:=cz7 x;have x2:(x.cs.drop 1).length=5:=rfl;rw[hdr,List.all_cons] at ha
  have hbad:av8 x=false->aj4 r inst=4:=λh=>by
   rw[h,z0] at ha;unfold aj4;rw[if_neg q1,if_neg q2,if_pos ha.symm]
  by_cases e1:x.kind<1
  ·have e1':¬1<=x.kind:=om;simp only[go_sem,d1,d2,k2,hget,be1,x0,e1];exact herr _ 4 (hbad (by unfold av8;simp[e1'])) (by decide)
  by_cases e2:4<x.kind
  ·have e2':¬x.kind<=4:=om;simp only[go_sem,d1,d2,k2,hget,be1,x0,e1,e2];exact herr _ 4 (hbad (by unfold av8;simp[e2'])) (by decide)
  have e1':1<=x.kind:=om;have e2':x.kind<=4:=om;simp only[go_sem,d1,d2,k2,hget,be1,x0,x1,x2,e1,e2];refine aa4 fok59 (hmay) ?_
  cases hb:am2 x.dep with
  | false=>
   simp only[go_sem]
   exact herr _ 4 (hbad (by unfold av8;simp[hb])) (by decide)
  | true=>
   have:av8 x=true:=by unfold av8;simp[e1',e2',hb]
   rw[this,zl] at ha;simp only[go_sem,w1];exact ⟨hlt,ha⟩
 have hi':i=r.af2.length:=om;subst hi';rw[ze] at ha;have hjm:¬r.af2.all av8=false:=by rw[<- ha];simp
 have d1:¬(r.af2.length:Int)<r.af2.length:=om;simp only[go_sem,d1,k2];refine ab1 noT (λi fr t=>fr=[(0,av4 all),(1,.int .i64 inst),(5,.ab8 r.cs),(9,.int .i64 (i:Int))]/\((r.ag5.drop i).all λe=>au5 e r.af2.length inst)=r.ag5.all λe=>au5 e r.af2.length inst) r.ag5.length ⟨rfl,rfl⟩ ?_;clear ha;rintro i fr t hi ⟨rfl,ha⟩;by_cases hlt:i<r.ag5.length
 ·obtain ⟨x,hx,_,hdr,hget,_⟩:=ad2 r.ag5 i hlt;have d1:(i:Int)<r.ag5.length:=om;have d2:(0:Int)<=i:=om;have w1:=ac3 (i:=i) om;have x0:x.cs.head? = zi (.int .u8 x.kind):=rfl;have x1:(x.cs.drop 1).head? = zi (.int .i64 x.n):=rfl;rw[hdr,List.all_cons] at ha
  have hbad:au5 x r.af2.length inst=false->aj4 r inst=5:=λh=>by
   rw[h,z0] at ha;unfold aj4;rw[if_neg q1,if_neg q2,if_neg hjm,if_pos ha.symm]
  have hgood:au5 x r.af2.length inst=true->((r.ag5.drop (i+1)).all λe=>au5 e r.af2.length inst)=r.ag5.all λe=>au5 e r.af2.length inst:=λh=>by
   rw[h,zl] at ha;exact ha
  unfold au5 at hbad hgood;by_cases e1:0<=x.n
  case neg=>
   simp only[go_sem,d1,d2,k2,k3,hget,an7,aq1,ai6,x0,x1,e1];exact herr _ 5 (hbad (by simp[e1])) (by decide)
  by_cases e2:x.kind=1
  ·by_cases e3:x.n<r.af2.length
   ·simp only[go_sem,d1,d2,k2,k3,hget,an7,aq1,ai6,x0,x1,e1,e2,e3,w1];exact ⟨hlt,hgood (by simp[e1,e2,e3])⟩
   ·simp only[go_sem,d1,d2,k2,k3,hget,an7,aq1,ai6,x0,x1,e1,e2,e3];exact herr _ 5 (hbad (by simp[e2,e3])) (by decide)
  ·by_cases e4:1<x.kind
   ·by_cases e5:x.kind<=4
    ·have e6:1<=x.kind:=om;by_cases e3:x.n<inst
     ·simp only[go_sem,d1,d2,k2,k3,hget,an7,aq1,ai6,x0,x1,e1,e2,e3,e4,e5,w1];exact ⟨hlt,hgood (by simp[e1,e2,e3,e5,e6])⟩
     ·simp only[go_sem,d1,d2,k2,k3,hget,an7,aq1,ai6,x0,x1,e1,e2,e3,e4,e5];exact herr _ 5 (hbad (by simp[e2,e3])) (by decide)
    ·simp only[go_sem,d1,d2,k2,k3,hget,an7,aq1,ai6,x0,x1,e1,e2,e4,e5];exact herr _ 5 (hbad (by simp[e5])) (by decide)
   ·have e6:¬1<=x.kind:=om;simp only[go_sem,d1,d2,k2,k3,hget,an7,aq1,ai6,x0,x1,e1,e2,e4];exact herr _ 5 (hbad (by simp[e6])) (by decide)
 have hi':i=r.ag5.length:=om;subst hi';rw[ze] at ha;have hem:¬(r.ag5.all λe=>au5 e r.af2.length inst)=false:=by rw[<- ha];simp
 have d2:¬(r.ag5.length:Int)<r.ag5.length:=om;have hz:aj4 r inst=0:=by unfold aj4;rw[if_neg q1,if_neg q2,if_neg hjm,if_neg hem]
 have hrc:r.cs=[.int .u8 r.ap7,.bool r.vendor,as5 r.af2,ao7 r.ag5,.int .i64 r.budget]:=rfl;rw[<- hV];unfold dw9;rw[if_pos hz];have rl:r.cs.length=5:=rfl;simp only[go_sem,d2,k3,rl,bb5,ag3];refine .keep _ (.tuple _ (ah6 (.ab8 _ λc hc=>?_) (.int _ _)));rcases zj.1 hc with rfl|hc
 ·exact ap6 all
 ·rcases zj.1 hc with rfl|hc
  ·exact .int _ _
  ·exact ba1 r c hc
def dx1:IV:=.tuple [.ae3,.ae3,.ae3,.bool false]
def cb2 (repos:List ao2)(inst:List aa2)(r:Req):IV:=match ce4 repos inst with
 | .inr _=>dx1
 | .inl p=>if aj4 r p.inst=0 then .tuple [ab3.rV ⟨p,r⟩,(ab3.mk p r).v,.ab8 (av4 (er9 repos inst)::.int .i64 p.inst::r.cs),.bool true] else dx1
theorem fp8 {repos:List ao2}{inst:List aa2}{p:Pool}{r:Req}(hI:jh3 repos inst)(hn:ce4 repos inst=.inl p)(hR:en6 r)(he:aj4 r p.inst=0)(hl:(ac1 p).length<=100) :
  (ab3.mk p r).bn7/\0<=(ab3.mk p r).p.inst/\(∀q∈(ab3.mk p r).l,aj7 q=true)/\(ab3.mk p r).items.length<=20000:=by
 have hA:=aok hI hn hR he;have hp:p.inst=inst.length:=(eb4 hn).2;have hm:∀q∈(ab3.mk p r).l,aj7 q=true:=λq hq=>(fh2 hn q hq).1
 exact ⟨js9 hm hl he,by show 0<=p.inst;rw[hp];omega,hm,gu6 hm hl hA.inst hA.af2⟩
theorem er7 (repos:List ao2)(inst:List aa2)(r:Req)(hI:jh3 repos inst)(hR:en6 r)(hl:∀p,ce4 repos inst=.inl p->(ac1 p).length<=100):Pq 6 [ba6 repos,av4 inst,.agg r.cs] (cb2 repos inst r):=by
 refine af4 hE fok6 (nZ rfl) (ce2 (br5 repos) (ap6 inst) (.agg _ (ba1 r))) ?_;have hp:=ct7 repos inst hI.r1 hI.i1 hI.s1 hI.rf hI.pf
 have nilb:∀s:Store,cb5 s 0 dx1 dx1:=λs=>.keep _ (.tuple _ λc hc=>by
  simp only[zj,zo,or_false] at hc;rcases hc with rfl|rfl|rfl|rfl
  ·exact .ae3
  ·exact .ae3
  ·exact .ae3
  ·exact .bool _)
 unfold cb2
 cases hn:ce4 repos inst with
 | inr e=>
  have he:¬e=0:=by rcases ie8 hn with rfl|rfl<;>decide
  rw[hn] at hp;simp only[ic6,go_sem,ag3];refine aa4 fok24 (hp) ?_;simp only[jr5,go_sem,he]
  exact nilb _
 | inl p=>
  obtain ⟨g1,g2,_,_⟩:=cr4 hn;have hin:p.inst=inst.length:=(eb4 hn).2;rw[hn] at hp;have hf:=iv3 hI hn;have hlen:(ac1 p).length<=256:=by simp only[ac1,zg];exact fh1 hn
  have hAN:=gw8 p r hR hlen λx hx=>⟨(hf x hx).1,(hf x hx).2.2⟩
  have hAll:=io3 repos inst g2 g1;have h15:=io4 (er9 repos inst) p.inst r hR;have hbP:=ap6 (er9 repos inst);rw[hin] at h15;have vcs:p.v.cs=[p.v]:=rfl;have vlf:p.v.leaf=true:=rfl;have rl:r.cs.length=5:=rfl;have ill:∀σ:Store,cc2 0 σ (av4 inst)=zi (.int .i64 inst.length):=λσ=>by unfold av4;simp only[go_sem]
  simp only[ic6,go_sem,ag3];refine aa4 fok24 (hp) ?_;simp only[jr5,go_sem,vcs,vlf,rl,bb5,ag3];refine aa4 fok25 (hAN) ?_;by_cases he:aj4 r p.inst=0
  ·have hA:=aok hI hn hR he;obtain ⟨o1,o2,o3,o4⟩:=fp8 hI hn hR he (hl p hn);have hM:=fd7 ⟨p,r⟩ hA o1 o2 o3 o4;have hav:(ab3.mk p r).v.leaf=true:=rfl;have hac:(ab3.mk p r).v.cs=[(ab3.mk p r).v]:=rfl;have hmv:(ab3.rV ⟨p,r⟩).leaf=true:=rfl;have hmc:(ab3.rV ⟨p,r⟩).cs=[ab3.rV ⟨p,r⟩]:=rfl;have hba:=ah5 ⟨p,r⟩;have hbm:Bnd 0 (ab3.rV ⟨p,r⟩):=bg2 hba (br3 _) (as7 _) (ar9 _) _ _ _;have he2:=he;rw[hin] at he2;unfold jk8;unfold dw9 at h15;rw[if_pos he2] at h15;rw[if_pos he];rw[if_pos he];rw[hin];generalize (ab3.mk p r).v=AV at *;generalize ab3.rV ⟨p,r⟩=MV at *;simp only[go_sem,hav,hac,ill,rl,bb5,ag3];refine ab2 (hAll) ?_;simp only[go_sem,ill,rl,bb5,ag3];refine ab2 (h15) ?_;simp only[go_sem,hav,hac];refine aa4 fok28 (hM) ?_;simp only[go_sem];refine .keep _ (.tuple _ λc hc=>?_);simp only[zj,zo,or_false] at hc;rcases hc with rfl|rfl|rfl|rfl
   ·exact hbm
   ·exact hba
   ·refine .ab8 _ λc hc=>?_
    rcases zj.1 hc with rfl|hc
    ·exact hbP
    ·rcases zj.1 hc with rfl|hc
     ·exact .int _ _
     ·exact ba1 r c hc
   ·exact .bool _
  ·have he2:=he;rw[hin] at he2;unfold jk8;unfold dw9 at h15;rw[if_neg he2] at h15;rw[if_neg he];rw[if_neg he];simp only[go_sem,ill,rl,bb5,ag3];refine ab2 (hAll) ?_;simp only[go_sem,ill,rl,bb5,ag3];refine ab2 (h15) ?_;simp only[go_sem,he];exact nilb _
def ed3 (x:Nat×Bool):IV:=.tuple [.int .i64 x.1,.bool x.2]
theorem bm9 {s:Store}(n:Nat)(b:Bool):cb5 s 0 (.tuple [.int .i64 n,.bool b]) (ed3 (n,b)):=.by4 (.cons (ad5 _ _) (.cons (ab4 _) .nil))
theorem ge1 (r:aa6)(rs:List aa6)(deep n:Nat):cw9 (r::rs) deep n=if big r.dep=true then (0,true) else
  if (ce6 r (deep+1)).2=true\/2000<n+1+(ce6 r (deep+1)).1 then (0,true) else cw9 rs deep (n+1+(ce6 r (deep+1)).1):=by
 simp only[cw9]
theorem gx6 (r:aa6):∀deep:Nat,deep<=21->r.ok->Pq 44 [ap8 r.args,.int .i64 deep] (ed3 (ce6 r deep)):=by
 induction r using aa6.ind with
 | h k d xs ih=>
  intro deep hdeep hok;obtain ⟨o1,o2,o3,o4,o5⟩:=aa6.gc2.1 hok;refine af4 hE fok44 (nZ rfl) (ak3 (bk3 _) (.int _ _)) ?_;by_cases b1:20<deep
  ·have c1:(20:Int)<deep:=om;simp only[ic44,go_sem,aa6.args,ce6,c1,b1,true_or];exact bm9 0 true
  have c1:¬(20:Int)<deep:=om;by_cases b2:100<xs.length
  ·have c2:(100:Int)<xs.length:=om;simp only[ic44,go_sem,aa6.args,ce6,c1,c2,b1,b2,or_true];exact bm9 0 true
  have c2:¬(100:Int)<xs.length:=om;simp only[ic44,go_sem,aa6.args,ce6,c1,c2,b1,b2,or_self];refine ab1 noT (λi fr s=>∃n:Nat,fr=[(0,ap8 xs),(1,.int .i64 deep),(6,.int .i64 n),(7,.int .i64 i)]/\n<=2000/\cw9 xs deep 0=cw9 (xs.drop i) deep n) xs.length ⟨0,rfl,om,rfl⟩ ?_;rintro i fr s hi ⟨n,rfl,hn,hm⟩;by_cases hlt:i<xs.length
  ·obtain ⟨x,hx,hxi,hdr,hget,htk⟩:=ad2 xs i hlt;have c3:(i:Int)<xs.length:=om;have c4:(0:Int)<=i:=om;have w1:=ac3 (i:=i) om;have w2:=ac3 (i:=deep) om;have w3:=ac3 (i:=n) om;rw[hdr,ge1] at hm;obtain ⟨k',d',ys⟩:=x;rw[show (aa6.mk k' d' ys).dep=d' from rfl] at hm;obtain ⟨x1,x2,x3,x4,x5⟩:=aa6.gc2.1 (o5 _ hx);have hA:=ih _ hx (deep+1) om (o5 _ hx)
   have hsz:IntKind.i64.wrap ((d'.name.length:Int)+d'.evr.ver.length)=((d'.name.length+d'.evr.ver.length:Nat):Int):=by
    have:=x3.1;have:=x3.2.1;rw[wrap64 om om];omega
   simp only[go_sem,c3,c4,hget,aa6.ax5,aa6.kind,aa6.dep,aa6.args,hsz,bm1] at hA ⊢;have hbig:big d'=(decide (500<d'.name.length+d'.evr.ver.length)||decide (500<d'.evr.rel.length)):=rfl;by_cases q1:500<d'.name.length+d'.evr.ver.length
   ·have e1:(500:Int)<((d'.name.length+d'.evr.ver.length:Nat):Int):=om;have hb:big d'=true:=by rw[hbig];simp[q1]
    rw[if_pos hb] at hm;simp only[go_sem,e1,hm];exact bm9 0 true
   have e1:¬(500:Int)<((d'.name.length+d'.evr.ver.length:Nat):Int):=om;by_cases q2:500<d'.evr.rel.length
   ·have e2:(500:Int)<d'.evr.rel.length:=om;have hb:big d'=true:=by rw[hbig];simp[q2]
    rw[if_pos hb] at hm;simp only[go_sem,c3,c4,hget,aa6.ax5,aa6.kind,aa6.dep,aa6.args,e1,e2,hm];exact bm9 0 true
   have e2:¬(500:Int)<d'.evr.rel.length:=om;have hb:¬big d'=true:=by rw[hbig];simp[q1,q2]
   rw[if_neg hb] at hm;simp only[go_sem,c3,c4,hget,aa6.ax5,aa6.kind,aa6.dep,aa6.args,e1,e2,w2];refine aa4 fok44 hA ?_;have hkl:(ce6 (.mk k' d' ys) (deep+1)).1<=2000:=by rw[dt2];exact fg8 _ _
   generalize ce6 (.mk k' d' ys) (deep+1)=ka at *
   have w4:IntKind.i64.wrap (((n+1:Nat):Int)+ka.1)=((n+1+ka.1:Nat):Int):=by
    rw[wrap64 om om];omega
   cases hk2:ka.2 with
   | true=>
    rw[if_pos (.inl hk2)] at hm;simp only[go_sem,ed3,hk2,w3,w4,hm]
    exact bm9 0 true
   | false=>
    by_cases q3:2000<n+1+ka.1
    ·have e3:(2000:Int)<((n+1+ka.1:Nat):Int):=om;rw[if_pos (.inr q3)] at hm;simp only[go_sem,ed3,hk2,w3,w4,e3,hm];exact bm9 0 true
    ·have e3:¬(2000:Int)<((n+1+ka.1:Nat):Int):=om;rw[if_neg (by rw[hk2];simp;omega)] at hm;simp only[go_sem,ed3,hk2,w1,w3,w4,e3];exact ⟨hlt,n+1+ka.1,rfl,om,hm⟩
  ·have hi':i=xs.length:=om;subst hi';have c3:¬(xs.length:Int)<xs.length:=om;rw[ze] at hm;simp only[go_sem,c3,hm,cw9];exact bm9 n false
theorem ge2 (l:List aa6)(h1:l.length<2^62)(h2:∀r∈l,r.ok):Pq 44 [ap8 l,.int .i64 0] (ed3 (cx1 l 0)):=by
 have h:=gx6 (.mk 1 di2 l) 0 om (aa6.gc2.2 ⟨om,om,⟨by decide,by decide,by decide⟩,h1,h2⟩);rw[dt2] at h;exact h
def lC (l:List aa6):List IV:=[ap8 l]
theorem ez6 {p:aa2}{l:List aa6}(h:l∈bp9 p):∃x∈p.rows,x.2=l:=by
 simp only[bp9,zj,zo,or_false] at h;rcases h with rfl|rfl|rfl|rfl|rfl|rfl<;>simp[aa2.rows]
theorem ez7 (l:List aa6)(ls:List (List aa6))(n:Nat):ce7 (l::ls) n=if (cx1 l 0).2=true\/2000<n+(cx1 l 0).1 then true else ce7 ls (n+(cx1 l 0).1):=by simp only[ce7]
theorem du7 (p:aa2)(ho:p.Ok):Pq 19 [.agg p.cs] (.bool (au9 p)):=by
 refine af4 hE fok19 (nZ rfl) (af3 (aj8 p)) ?_;by_cases b1:100<p.provides.length
 ·have c1:(100:Int)<p.provides.length:=om;simp only[ic19,go_sem,ac7,aa2.cs,c1,au9,b1];exact ab4 _
 have c1:¬(100:Int)<p.provides.length:=om;by_cases b2:100<p.aa7.length
 ·have c2:(100:Int)<p.aa7.length:=om;simp only[ic19,go_sem,ac7,aa2.cs,c1,c2,au9,b1,b2];exact ab4 _
 have c2:¬(100:Int)<p.aa7.length:=om;by_cases b3:100<p.files.length
 ·have c3:(100:Int)<p.files.length:=om;simp only[ic19,go_sem,ac7,aa2.cs,c1,c2,c3,au9,b1,b2,b3];exact ab4 _
 have c3:¬(100:Int)<p.files.length:=om;by_cases b4:1000<p.name.length
 ·have c4:(1000:Int)<p.name.length:=om;simp only[ic19,go_sem,ac7,aa2.cs,c1,c2,c3,c4,au9,b1,b2,b3,b4];exact ab4 _
 have c4:¬(1000:Int)<p.name.length:=om;by_cases b5:1000<p.vendor.length
 ·have c5:(1000:Int)<p.vendor.length:=om;simp only[ic19,go_sem,ac7,aa2.cs,c1,c2,c3,c4,c5,au9,b1,b2,b3,b4,b5];exact ab4 _
 have c5:¬(1000:Int)<p.vendor.length:=om;by_cases b6:1000<p.evr.ver.length
 ·have c6:(1000:Int)<p.evr.ver.length:=om;simp only[ic19,go_sem,ac7,aa2.cs,c1,c2,c3,c4,c5,c6,au9,b1,b2,b3,b4,b5,b6];exact ab4 _
 have c6:¬(1000:Int)<p.evr.ver.length:=om;by_cases b7:1000<p.evr.rel.length
 ·have c7:(1000:Int)<p.evr.rel.length:=om;simp only[ic19,go_sem,ac7,aa2.cs,c1,c2,c3,c4,c5,c6,c7,au9,b1,b2,b3,b4,b5,b6,b7];exact ab4 _
 have c7:¬(1000:Int)<p.evr.rel.length:=om;have hM:au9 p=ce7 (bp9 p) 0:=by simp only[au9,b1,b2,b3,b4,b5,b6,b7,decide_false,zm]
 rw[hM];simp only[ic19,go_sem,ac7,aa2.cs,c1,c2,c3,c4,c5,c6,c7];refine ab1 noT (λi fr s=>∃n:Nat,fr=[(3,.int .i64 n),(62,.aa3 ((bp9 p).map lC)),(63,.int .i64 6),(64,.int .i64 i)]/\n<=2000/\ce7 (bp9 p) 0=ce7 ((bp9 p).drop i) n) 6 ⟨0,rfl,om,rfl⟩ ?_;rintro i fr s hi ⟨n,rfl,hn,hm⟩;by_cases hlt:i<6
 ·obtain ⟨l,hl,hli,hdr,hget,htk⟩:=ad2 (bp9 p) i hlt;have d1:(i:Int)<6:=om;have d2:(0:Int)<=i:=om;have d3:(i:Int)<((bp9 p).length:Nat):=by simp only[bp9,List.length_cons,zy];omega
  have w1:=ac3 (i:=i) om;rw[hdr,ez7] at hm;obtain ⟨x,hx,rfl⟩:=ez6 hl;have hok:=ho.cw8 x hx;simp only[go_sem,d1,d2,d3,hget,lC];refine aa4 fok44 (ge2 x.2 hok.1 hok.2) ?_;have hle:=fg8 x.2 0;generalize cx1 x.2 0=ka at *
  have w4:IntKind.i64.wrap ((n:Int)+ka.1)=((n+ka.1:Nat):Int):=by
   rw[wrap64 om om];omega
  cases hk2:ka.2 with
  | true=>
   rw[if_pos (.inl hk2)] at hm;simp only[go_sem,ed3,hk2,w4,hm]
   exact ab4 _
  | false=>
   by_cases q3:2000<n+ka.1
   ·have e3:(2000:Int)<((n+ka.1:Nat):Int):=om;rw[if_pos (.inr q3)] at hm;simp only[go_sem,ed3,hk2,w4,e3,hm];exact ab4 _
   ·have e3:¬(2000:Int)<((n+ka.1:Nat):Int):=om;rw[if_neg (by rw[hk2];simp;omega)] at hm;simp only[go_sem,ed3,hk2,w1,w4,e3];exact ⟨hlt,n+ka.1,rfl,om,hm⟩
 ·have hi':i=6:=om;subst hi';have e6:(bp9 p).drop 6=[]:=rfl;rw[e6] at hm;simp only[go_sem,hm,ce7];exact ab4 _
theorem fl2 {α:Type}{q:α->Bool}{l:List α}{i:Nat}{a:α}(h:l.drop i=a::l.drop (i+1)):(l.drop i).any q=(q a||(l.drop (i+1)).any q):=by rw[h];simp
def by6 (most:Nat):List ao2->Nat->Bool
 | [],_=>false
 | r::rs,n=>if most<n+r.packages.length then true else if r.packages.any au9=true then true else by6 most rs (n+r.packages.length)
def bh2 (repos:List ao2)(inst:List aa2)(r:Req)(most:Nat):Bool :=
 decide (30<repos.length)||(decide (most<inst.length)||(decide (20<r.af2.length)||(decide (20<r.ag5.length)||(inst.any au9||by6 most repos inst.length))))
theorem df3 (most:Nat)(r:ao2)(rs:List ao2)(n:Nat):by6 most (r::rs) n=if most<n+r.packages.length then true else if r.packages.any au9=true then true else by6 most rs (n+r.packages.length):=by simp only[by6]
theorem je6 (r:Req):(r.cs.drop 2).head? = zi (as5 r.af2):=rfl
theorem ju3 (r:Req):(r.cs.drop 3).head? = zi (ao7 r.ag5):=rfl
theorem gx7 (repos:List ao2)(inst:List aa2)(r:Req)(most:Nat)(h1:repos.length<2^62)(h2:inst.length<2^62)(hmo:most<2^31)(hr:∀r∈repos,ao2.Ok r)(hi:∀p∈inst,p.Ok) :
  Pq 4 [ba6 repos,av4 inst,.agg r.cs,.int .i64 most] (.bool (bh2 repos inst r most)):=by
 refine af4 hE fok4 (nZ rfl) (jr2 (br5 _) (ap6 _) (.agg _ (ba1 r)) (.int _ _)) ?_;have rl:r.cs.length=5:=rfl;have jl:∀l:List Job,∀σ:Store,cc2 0 σ (as5 l)=zi (.int .i64 l.length):=λl σ=>by unfold as5;simp only[go_sem]
 have el:∀l:List az4,∀σ:Store,cc2 0 σ (ao7 l)=zi (.int .i64 l.length):=λl σ=>by unfold ao7;simp only[go_sem]
 by_cases b1:30<repos.length
 ·have c1:(30:Int)<repos.length:=om;simp only[ic4,go_sem,ag3,c1,bh2,b1];exact ab4 _
 have c1:¬(30:Int)<repos.length:=om;by_cases b2:most<inst.length
 ·have c2:(most:Int)<inst.length:=om;simp only[ic4,go_sem,ag3,c1,c2,bh2,b1,b2];exact ab4 _
 have c2:¬(most:Int)<inst.length:=om;by_cases b3:20<r.af2.length
 ·have c3:(20:Int)<r.af2.length:=om;simp only[ic4,go_sem,ag3,c1,c2,je6,jl,c3,bh2,b1,b2,b3];exact ab4 _
 have c3:¬(20:Int)<r.af2.length:=om;by_cases b4:20<r.ag5.length
 ·have c4:(20:Int)<r.ag5.length:=om;simp only[ic4,go_sem,ag3,c1,c2,je6,ju3,jl,el,c3,c4,bh2,b1,b2,b3,b4];exact ab4 _
 have c4:¬(20:Int)<r.ag5.length:=om;have hM:bh2 repos inst r most=(inst.any au9||by6 most repos inst.length):=by simp only[bh2,b1,b2,b3,b4,decide_false,zm]
 rw[hM];simp only[ic4,go_sem,ag3,c1,c2,je6,ju3,jl,el,c3,c4];refine ab1 noT (λi fr s=>fr=[(0,ba6 repos),(1,av4 inst),(3,.int .i64 most),(9,.int .i64 inst.length),(10,.int .i64 i)]/\inst.any au9=(inst.drop i).any au9) inst.length ⟨rfl,rfl⟩ ?_;rintro i fr s hle ⟨rfl,hm⟩;by_cases hlt:i<inst.length
 ·obtain ⟨x,hx,hxi,hdr,hget,htk⟩:=ad2 inst i hlt;have d1:(i:Int)<inst.length:=om;have d2:(0:Int)<=i:=om;have w1:=ac3 (i:=i) om;rw[fl2 hdr] at hm;simp only[go_sem,d1,d2,hget,af7,ae8,w1];refine aa4 fok19 (du7 x (hi x hx)) ?_
  cases hb:au9 x with
  | true=>
   rw[hb,Bool.true_or] at hm;simp only[go_sem,hm]
   exact ab4 _
  | false=>
   rw[hb,zm] at hm;simp only[go_sem,w1];exact ⟨hlt,hm⟩
 have hi':i=inst.length:=om;subst hi';have d1:¬(inst.length:Int)<inst.length:=om;rw[ze,z4] at hm;rw[hm,zm];simp only[go_sem,d1];refine ab1 noT (λi fr t=>∃n:Nat,fr=[(0,ba6 repos),(3,.int .i64 most),(9,.int .i64 n),(11,.int .i64 i)]/\n<=most/\by6 most repos inst.length=by6 most (repos.drop i) n) repos.length ⟨inst.length,rfl,om,rfl⟩ ?_;rintro i fr t hle2 ⟨n,rfl,hn,hm2⟩;by_cases hlt:i<repos.length
 ·obtain ⟨x,hx,hxi,hdr,hget,htk⟩:=ad2 repos i hlt;have d3:(i:Int)<repos.length:=om;have d4:(0:Int)<=i:=om;have w1:=ac3 (i:=i) om;have hxo:=hr x hx
  have w2:IntKind.i64.wrap ((n:Int)+x.packages.length)=((n+x.packages.length:Nat):Int):=by
   have:=hxo.1;rw[wrap64 om om];omega
  rw[hdr,df3] at hm2;by_cases q1:most<n+x.packages.length
  ·have e1:(most:Int)<((n+x.packages.length:Nat):Int):=om;rw[if_pos q1] at hm2;simp only[go_sem,d3,d4,hget,bn3,ao2.cs,w2,e1,hm2];exact ab4 _
  have e1:¬(most:Int)<((n+x.packages.length:Nat):Int):=om;rw[if_neg q1] at hm2;simp only[go_sem,d3,d4,hget,bn3,ao2.cs,w2,e1];refine ab1 noT (λj fr t=>fr=[(0,ba6 repos),(3,.int .i64 most),(9,.int .i64 (n+x.packages.length:Nat)),(11,.int .i64 i),(12,.int .i64 j)]/\x.packages.any au9=(x.packages.drop j).any au9) x.packages.length ⟨rfl,rfl⟩ ?_;rintro j fr t hlej ⟨rfl,hj⟩;by_cases hjl:j<x.packages.length
  ·obtain ⟨y,hy,hyi,hdr3,hget3,htk3⟩:=ad2 x.packages j hjl;have d5:(j:Int)<x.packages.length:=om;have d6:(0:Int)<=j:=om;have w3:=ac3 (i:=j) (by have:=hxo.1;omega);rw[fl2 hdr3] at hj;simp only[go_sem,d3,d4,d5,d6,hget,hget3,bn3,ao2.cs,af7,ae8,w3];refine aa4 fok19 (du7 y (hxo.2 y hy)) ?_
   cases hb:au9 y with
   | true=>
    rw[hb,Bool.true_or] at hj;rw[if_pos hj] at hm2;simp only[go_sem,hm2]
    exact ab4 _
   | false=>
    rw[hb,zm] at hj;simp only[go_sem,w3];exact ⟨hjl,hj⟩
  ·have hj':j=x.packages.length:=om;subst hj';have d5:¬(x.packages.length:Int)<x.packages.length:=om;rw[ze,z4] at hj;rw[if_neg (by rw[hj];exact zu)] at hm2;simp only[go_sem,d3,d4,d5,hget,bn3,ao2.cs,w1];exact ⟨hlt,n+x.packages.length,rfl,om,hm2⟩
 ·have hi':i=repos.length:=om;subst hi';have d3:¬(repos.length:Int)<repos.length:=om;rw[ze] at hm2;simp only[go_sem,d3,hm2,by6];exact ab4 _
open Go.Id.Md.ab3 (inS less)
theorem ez8 {s:Store}(x:Str):cb5 s 0 (.str x) (.str x):=.keep _ (.str _)
theorem gx8 {s:Store}(k:IntKind)(n:Int):cb5 s 0 (.int k n) (.int k n):=.keep _ (.int _ _)
def jl1 (name ver:Str):aa2:={ name:=name,evr:=⟨0,ver,[49]⟩,ap7:=1,vendor:=[],provides:=[],requires:=[],conflicts:=[],aa7:=[],ar4:=[],ap5:=[],suggests:=[],bb4:=[],files:=[] }
theorem du8 (name ver:Str):Pq 20 [.str name,.str ver] (.agg (jl1 name ver).cs):=by
 refine af4 hE fok20 (nZ rfl) (ah6 (.str _) (.str _)) ?_;simp only[ic20,go_sem];exact .ke1 (.cons (ez8 _) (.cons (gx8 _ _) (.cons (ez8 _) (.cons (ez8 _) (.cons (gx8 _ _) (.cons (ez8 _) (.cons .bz3 (.cons .bz3 (.cons .bz3 (.cons .bz3 (.cons .bz3 (.cons .bz3 (.cons .bz3 (.cons .bz3 (.cons .bz3 .nil)))))))))))))))
def at16 (s:Str):aa6:=.mk 1 ⟨s,0,⟨0,[],[]⟩⟩ []
theorem gx9 (s:Str):Pq 21 [.str s] (.agg (at16 s).cs):=by
 refine af4 hE fok21 (nZ rfl) (ak1 (.str _)) ?_;simp only[ic21,go_sem];exact .ke1 (.cons (gx8 _ _) (.cons (ez8 _) (.cons (gx8 _ _) (.cons (gx8 _ _) (.cons (ez8 _) (.cons (ez8 _) (.cons .bz3 .nil)))))))
def ju4 (repos:List ao2)(inst:List aa2):Pool:=match ce4 repos inst with
 | .inl p=>p
 | .inr _=>⟨[],0,[]⟩
def fl3 (d:Dep):Bool:=decide (d.name.length<100)&&decide (d.evr.ver.length<100)&&decide (d.evr.rel.length<100)
def iu1 (p:aa2):Bool:=decide (p.name.length<100)&&decide (p.vendor.length<100)&&decide (p.evr.ver.length<100)&&decide (p.evr.rel.length<100)&&decide (p.provides.length<100)&&p.provides.all fl3&&decide (p.aa7.length<100)&&p.aa7.all fl3 &&
 decide (p.files.length<100)&&p.files.all (λs=>decide (s.length<100))&&p.rows.all λx=>x.2.isEmpty
theorem ii4 {p:aa2}(h:iu1 p=true):p.Fit/\p.Ok:=by
 unfold iu1 at h;simp only[zv,decide_eq_true_eq,List.all_eq_true] at h;obtain ⟨⟨⟨⟨⟨⟨⟨⟨⟨⟨h1,h2⟩,h3⟩,h4⟩,h5⟩,h6⟩,h7⟩,h8⟩,h9⟩,h10⟩,h11⟩:=h
 have hd:∀d:Dep,fl3 d=true->d.fit:=λd hd=>by
  unfold fl3 at hd;simp only[zv,decide_eq_true_eq] at hd;exact ⟨om,om,om⟩
 have hr:∀x∈p.rows,x.2=[]:=λx hx=>List.isEmpty_iff.1 (h11 x hx)
 exact ⟨⟨om,⟨om,om⟩,⟨om,λd hx=>hd d (h6 d hx)⟩,⟨om,λd hx=>hd d (h8 d hx)⟩,⟨om,λx hx=>by have:=h10 x hx;omega⟩,λx hx=>by rw[hr x hx];exact ⟨by simp,λr h=>by cases h⟩⟩,
  ⟨om,om,⟨om,om⟩,⟨om,λd hx=>hd d (h6 d hx)⟩,⟨om,λd hx=>hd d (h8 d hx)⟩,⟨om,λx hx=>by have:=h10 x hx;omega⟩,λx hx=>by rw[hr x hx];exact ⟨by simp,λr h=>by cases h⟩⟩⟩
variable {av c1 c3 xv:IV} (ha:Bnd 0 av) (h1:Bnd 0 c1) (h3:Bnd 0 c3) (hx:Bnd 0 xv) (P:List aa2) (t:ag9) (cs:List (List (List Int)))
include ha h1 h3 hx
theorem du9 (l:List Itm)(hl:l.length<=2147483648)(hc3:c3=aj5 l):Pq 7 [aw3 av c1 c3 xv P t cs] c3:=by
 refine af4 hE fok7 (nZ rfl) (ak1 (bg2 ha h1 h3 hx P t cs)) ?_;have h:=df2 l hl;have h:Pq 29 [aj5 l] (aj5 l):=h;rw[<- hc3] at h;have ivl:c3.leaf=true:=by rw[hc3];rfl
 have ivc:c3.cs=[c3]:=by rw[hc3];rfl
 unfold aw3;simp only[ic7,go_sem,ac2,ivl,ivc];refine aa4 fok29 (h) ?_;simp only[go_sem];exact .keep _ h3
end Go.Id.Tryz
namespace Go.Id.Tryz
open Go Go.Id Go.Proofs Go.Shelf Go.Id.Md
theorem df4 (L:List (List Int))(hL:L.length<2^40)(hq:∀q∈L,q.length<2^40):Pq 15 [ba5 L,ba5 L] (.bool true):=by
 refine af4 hE fok15 (nZ rfl) (ah6 (bg9 L) (bg9 L)) ?_;unfold ba5;simp only[ic15,go_sem];refine ab1 noT (λi fr s=>fr=[(0,.aa3 (L.map clE)),(1,.aa3 (L.map clE)),(5,.int .i64 (i:Int))]) L.length rfl ?_;rintro i fr s hle rfl;by_cases hlt:i<L.length
 ·obtain ⟨q,hqm,_,hdr,hget,htk⟩:=ad2 L i hlt;have d1:(i:Int)<L.length:=om;have d2:(0:Int)<=i:=om;have w1:=ac3 (i:=i) om;have hql:=hq q hqm;have hcl:clE q=[.aa3 (q.map Md.ae1)]:=rfl;simp only[go_sem,d1,d2,hget,hcl];refine ab1 noT (λk fr s=>fr=[(0,.aa3 (L.map clE)),(1,.aa3 (L.map clE)),(5,.int .i64 (i:Int)),(6,.int .i64 (k:Int))]) q.length rfl ?_;rintro k fr t hk rfl;by_cases hkl:k<q.length
  ·obtain ⟨x,hxm,_,hdr2,hget2,htk2⟩:=ad2 q k hkl;have d3:(k:Int)<q.length:=om;have d4:(0:Int)<=k:=om;have w2:=ac3 (i:=k) om;simp only[go_sem,d1,d2,d3,d4,hget,hcl,hget2,Md.ae1,w2];exact hkl
  ·have hk':k=q.length:=om;subst hk';have d3:¬(q.length:Int)<q.length:=om;simp only[go_sem,d1,d2,d3,hget,hcl,w1];exact hlt
 ·have hi':i=L.length:=om;subst hi';have d1:¬(L.length:Int)<L.length:=om;simp only[go_sem,d1];exact ab6 rfl
def hq6 (st:List Int)(n:Nat):List Int:=(List.range n).map λ(j:Nat)=>if (j:Int)∈st then 1 else -1
theorem df5 {av c1 c3 xv:IV}(ha:Bnd 0 av)(h1:Bnd 0 c1)(h3:Bnd 0 c3)(hx:Bnd 0 xv)(P:List aa2)(t:ag9)(hP:P.length<=100)(ht:t.h=0)(hcl:t.cl=[])(cs:List (List (List Int)))(st:List Int)(hs:st.length<1000)(hst:∀x∈st,0<=x/\x<P.length) :
  Pq 22 [aw3 av c1 c3 xv P t cs,.int .i64 (P.length:Int),.aa3 (st.map Md.ae1)] (.tuple [.aa3 ((hq6 st P.length).map Md.ae1),.bool true]):=by
 refine af4 hE fok22 (nZ rfl) (ce2 (bg2 ha h1 h3 hx P t cs) (.int _ _) (aw5 st)) ?_;have hV:=hn6 ha h1 h3 hx P t cs om om;have hB:=λσ=>hm9 (av:=av) (c1:=c1) (c3:=c3) (xv:=xv) P t cs (by rw[hcl];decide) (by rw[hcl];exact λq hq=>by cases hq) σ
 rw[ht,Nat.add_zero] at hV;rw[hcl] at hB;have blf:(aw3 av c1 c3 xv P t cs).leaf=true:=rfl;have bcs:(aw3 av c1 c3 xv P t cs).cs=[aw3 av c1 c3 xv P t cs]:=rfl;generalize aw3 av c1 c3 xv P t cs=X at *;generalize P.length=n at *;have e0:¬(n:Int)<n:=om;have e1:¬(2097152:Int)<n:=om;simp only[ic22,go_sem,blf,bcs]
 first|refine aa4 fok12 (hV) ?_|refine ab2 (hV) ?_
 simp only[go_sem,blf,bcs,e0]
 first|refine aa4 fok12 (hV) ?_|refine ab2 (hV) ?_
 simp only[go_sem,blf,bcs,e1]
 first|refine aa4 fok12 (hV) ?_|refine ab2 (hV) ?_
 simp only[is9,gv6 _ (show n<=2147483648 by omega),go_sem];rw[gv5]
 refine ab1 noT (λi fr s=>fr=[(0,X),(1,.int .i64 (n:Int)),(2,.aa3 (st.map Md.ae1)),(8,.slice 0 0 n 1),(9,.int .i64 (i:Int))]/\0<s.next/\∃c,s.obj 0=zi (.row (de9 c n))/\∀j,j<n->c j=if j<i then -1 else 0) n
  ⟨rfl,zk _,λ_=>0,by simp only[go_sem],λj _=>rfl⟩ ?_
 rintro i fr s hle ⟨rfl,hnx,c,ho,hc⟩;by_cases hlt:i<n
 ·have d1:(i:Int)<n:=om;have d2:(0:Int)<=i:=om;have w1:=ac3 (i:=i) om;have hpl:i+1<=(de9 c n).length:=by rw[bf6];omega
  have hput:=fk1 c hlt (-1);simp only[go_sem,d1,d2,ho,za,z5,z7,hpl,hput,w1];refine ⟨hlt,hnx,_,rfl,λj hj=>?_⟩;by_cases e:j=i
  ·rw[if_pos e,if_pos om]
  ·rw[if_neg e,hc j hj];by_cases e2:j<i
   ·rw[if_pos e2,if_pos om]
   ·rw[if_neg e2,if_neg om]
 have hi':i=n:=om;subst hi';simp only[go_sem,e0]
 refine ab1 noT (λk fr s=>fr=[(0,X),(1,.int .i64 (i:Int)),(2,.aa3 (st.map Md.ae1)),(8,.slice 0 0 i 1),(10,.int .i64 (k:Int))]/\0<s.next/\∃c,s.obj 0=zi (.row (de9 c i))/\∀j,j<i->c j=if (j:Int)∈st.take k then 1 else -1) st.length
  ⟨rfl,hnx,c,ho,λj hj=>by rw[hc j hj,if_pos hj];simp⟩ ?_
 clear hc ho hnx;clear c s;rintro k fr s hk ⟨rfl,hnx,c,ho,hc⟩;by_cases hkl:k<st.length
 ·obtain ⟨x,hxm,_,hdr,hget,htk⟩:=ad2 st k hkl;obtain ⟨x1,x2⟩:=hst x hxm;obtain ⟨m,rfl⟩:=zp x1;have hm:m<i:=om;have d1:(k:Int)<st.length:=om;have d2:(0:Int)<=k:=om;have d3:(0:Int)<=(m:Int):=om;have d4:(m:Int)<i:=om;have w1:=ac3 (i:=k) om;have hpl:m+1<=(de9 c i).length:=by rw[bf6];omega
  have hput:=fk1 c hm 1;simp only[go_sem,d1,d2,d3,d4,hget,Md.ae1,ho,za,z5,z7,hpl,hput,w1];refine ⟨hkl,hnx,_,rfl,λj hj=>?_⟩;rw[htk];by_cases e:j=m
  ·rw[if_pos e,if_pos (by rw[e];simp)]
  ·rw[if_neg e,hc j hj];congr 1;rw[List.mem_append,zc];exact propext ⟨.inl,λh=>h.elim id λh=>absurd om e⟩
 have hk':k=st.length:=om;subst hk';have d1:¬(st.length:Int)<st.length:=om;rw[zn] at hc;simp only[go_sem,d1,blf,bcs];refine ac4 fok13 (hB _) ?_;rintro gv u ⟨hkp,hg⟩;refine ⟨hkp.next,?_⟩;have ho2:u.obj 0=zi (.row (de9 c i)):=by rw[hkp.obj 0 hnx];exact ho
 have hgl:∀σ:Store,cc2 0 σ gv=zi (.int .i64 0):=λσ=>by
  rw[hg.len];rfl
 simp only[go_sem];refine ab1 noT (λq fr s=>(∃rst:Frm,fr=(8,.slice 0 0 i 1)::(11,gv)::(12,.bool (decide (q=0)))::rst)/\s.obj 0=zi (.row (de9 c i))) 1 ⟨⟨_,rfl⟩,ho2⟩ ?_;rintro q fr w hq ⟨⟨rst,rfl⟩,ho3⟩;by_cases hq0:q=0
 ·subst hq0;simp only[go_sem];refine ab1 noT (λz fr s=>fr=[(8,.slice 0 0 i 1),(11,gv),(12,.bool false),(13,.int .i64 0)]/\s.obj 0=zi (.row (de9 c i))) 0 ⟨rfl,ho3⟩ ?_;rintro z fr w2 hz ⟨rfl,ho4⟩;simp only[go_sem,hgl];exact ⟨⟨_,rfl⟩,ho4⟩
 ·have hq1:decide (q=0)=false:=decide_eq_false hq0;simp only[hq1,go_sem];refine ab1 noT (λm fr s=>fr=[(8,.slice 0 0 i 1),(19,.int .i64 (m:Int))]/\s.obj 0=zi (.row (de9 c i))) i ⟨rfl,ho3⟩ ?_;rintro m fr w2 hm ⟨rfl,ho4⟩;by_cases hml:m<i
  ·have e1:(m:Int)<i:=om;have e2:(0:Int)<=m:=om;have w1:=ac3 (i:=m) om;have hat:=jd3 c hml;have hcm:¬c m=0:=by rw[hc m hml];split<;>decide
   simp only[go_sem,e1,e2,ho4,za,z5,z7,hat,hcm,w1];exact hml
  ·have e1:¬(m:Int)<i:=om;simp only[go_sem,e1];refine .by4 (.cons ?_ (.cons (ab4 _) .nil))
   have hzs:de9 c i=(hq6 st i).map bh4:=by
    rw[ig5];unfold hq6;congr 1;exact List.map_congr_left λj hj=>hc j (List.mem_range.1 hj)
   have hln:(hq6 st i).length=i:=by unfold hq6;simp
   have:=fo6 (zs:=hq6 st i) ho4 (by rw[hzs,hln,List.take_of_length_le (by rw[zg,hln];exact zb _)]) (by rw[hln,bf6];exact zb _);rw[hln] at this;exact this
def wkA:aa2:={ jl1 [97] [49] with requires:=[at16 [120]] }
def wkB:aa2:={ jl1 [98] [49] with provides:=[⟨[120],0,⟨0,[],[]⟩⟩] }
def wkR:List ao2:=[⟨0,[wkB]⟩]
def wkI:List aa2:=[wkA]
def wkQ:Req:=⟨2,false,[],[],0⟩
def wkP:Pool:=ju4 wkR wkI
def wkM:ab3:=⟨wkP,wkQ⟩
theorem gy1:ce4 wkR wkI=.inl wkP:=by kernel_rfl
theorem iu2:aj4 wkQ wkP.inst=0:=by kernel_rfl
theorem ju5:(at16 [120]).fit:=aa6.ce3.2 ⟨by decide,by decide,⟨by show 1<2^62;decide,by show 0<2^62;decide,by show 0<2^62;decide⟩,by show 0<_;decide,λr h=>(by cases h)⟩
theorem ki3:(at16 [120]).ok:=aa6.gc2.2 ⟨by decide,by decide,⟨by show 1<2^62;decide,by show 0<2^62;decide,by show 0<2^62;decide⟩,by show 0<_;decide,λr h=>(by cases h)⟩
theorem ju6:wkA.Fit/\wkA.Ok:=by
 have hr:∀x∈wkA.rows,x.2.length<100/\∀r∈x.2,r=at16 [120]:=λx hx2=>by
  simp only[aa2.rows,wkA,jl1,zj,zo,or_false] at hx2;rcases hx2 with rfl|rfl|rfl|rfl|rfl|rfl
  ·refine ⟨by decide,λr hr=>zc.1 hr⟩
  all_goals exact ⟨by decide,λr h=>by cases h⟩
 have n0:∀ {α:Type} {q:α->Prop},∀d∈([]:List α),q d:=λd h=>by cases h
 refine ⟨⟨by show 1<_;decide,⟨by show 1<2^62;decide,by show 1<2^62;decide⟩,⟨by show 0<_;decide,n0⟩,⟨by show 0<_;decide,n0⟩,⟨by show 0<_;decide,n0⟩,λx hx2=>⟨by have:=(hr x hx2).1;omega,λr h=>?_⟩⟩,⟨by show 1<_;decide,by show 0<2^62;decide,⟨by show 1<2^62;decide,by show 1<2^62;decide⟩,⟨by show 0<_;decide,n0⟩,⟨by show 0<_;decide,n0⟩,⟨by show 0<_;decide,n0⟩,λx hx2=>⟨by have:=(hr x hx2).1;omega,λr h=>?_⟩⟩⟩
 ·rw[(hr x hx2).2 r h];exact ⟨ju5,by show 1<2^31;decide⟩
 ·rw[(hr x hx2).2 r h];exact ki3
theorem ju7:jh3 wkR wkI:=by
 have hB:wkB.Fit/\wkB.Ok:=ii4 (by kernel_rfl);have hA:=ju6
 exact ⟨by decide,by decide,by decide,λr hr=>by
   rw[zc.1 hr];exact ⟨by decide,λp hp=>by rw[zc.1 hp];exact hB.1⟩,λp hp=>by rw[zc.1 hp];exact hA.1,λr hr=>by
   rw[zc.1 hr];exact ⟨by decide,λp hp=>by rw[zc.1 hp];exact hB.2⟩,λp hp=>by rw[zc.1 hp];exact hA.2⟩
theorem iu3:en6 wkQ:=⟨by decide,by decide,λj h=>by cases h⟩
theorem fl4:wkM.items=[⟨2,0,0⟩,⟨6,0,0⟩]:=by kernel_rfl
theorem ii5:ab3.rN wkM=([[[-1,2]],[[1]]],⟨0,[],[]⟩):=by kernel_rfl
theorem dv1:wkM.l.length=2:=by kernel_rfl
theorem je7:cb2 wkR wkI wkQ=.tuple [ab3.rV wkM,wkM.v,.ab8 (av4 (er9 wkR wkI)::.int .i64 wkP.inst::wkQ.cs),.bool true]:=by
 unfold cb2;rw[gy1];simp only[iu2,if_true];rfl
theorem je8:ex9 (hq6 [0,1] 2) [[-1,2]]=true:=by kernel_rfl
theorem ju8:ex9 (hq6 [0] 2) [[-1,2]]=false:=by kernel_rfl
theorem bj8:Pq 5 [] (.bool true):=by
 have nA:=du8 [97] [49];have nB:=du8 [98] [49];have aT:=gx9 [120]
 have hm:=er7 wkR wkI wkQ ju7 iu3 (λp hp=>by
  rw[gy1] at hp;cases hp;have:=dv1;show wkM.l.length<=100;omega)
 rw[je7] at hm;have hA:=aok ju7 gy1 iu3 iu2;have hb1:=ah5 wkM;have hb2:=br3 wkM;have hb3:=as7 wkM.items;have hb4:=ar9 (ad8 wkM.l)
 have hRV:ab3.rV wkM=aw3 wkM.v wkM.mv (aj5 wkM.items) (ad8 wkM.l).v wkM.l ⟨0,[],[]⟩ [[[-1,2]],[[1]]]:=by
  unfold ab3.rV;rw[ii5]
 have hC0:Pq 14 [aw3 wkM.v wkM.mv (aj5 wkM.items) (ad8 wkM.l).v wkM.l ⟨0,[],[]⟩ [[[-1,2]],[[1]]],.int .i64 ((0:Nat):Int)] (ba5 [[-1,2]]):=gv1 λσ=>cb1 wkM.l ⟨0,[],[]⟩ [[[-1,2]],[[1]]] 0 (by decide) (by decide) (by decide) (by decide) σ
 have hC1:Pq 14 [aw3 wkM.v wkM.mv (aj5 wkM.items) (ad8 wkM.l).v wkM.l ⟨0,[],[]⟩ [[[-1,2]],[[1]]],.int .i64 ((1:Nat):Int)] (ba5 [[1]]):=gv1 λσ=>cb1 wkM.l ⟨0,[],[]⟩ [[[-1,2]],[[1]]] 1 (by decide) (by decide) (by decide) (by decide) σ
 have hIt:=du9 hb1 hb2 hb3 hb4 wkM.l ⟨0,[],[]⟩ [[[-1,2]],[[1]]] wkM.items (by rw[fl4];decide) rfl;have hV1:=df5 hb1 hb2 hb3 hb4 wkM.l ⟨0,[],[]⟩ (by rw[dv1];decide) rfl rfl [[[-1,2]],[[1]]] [0,1] (by decide) (by rw[dv1];decide);have hV2:=df5 hb1 hb2 hb3 hb4 wkM.l ⟨0,[],[]⟩ (by rw[dv1];decide) rfl rfl [[[-1,2]],[[1]]] [0] (by decide) (by rw[dv1];decide);have hbR:=bg2 hb1 hb2 hb3 hb4 wkM.l ⟨0,[],[]⟩ [[[-1,2]],[[1]]];rw[<- hRV] at hC0 hC1 hIt hV1 hV2 hbR;rw[dv1] at hV1 hV2;rw[fl4] at hIt;have hS:=df4 [[1]] (by decide) (by decide);have hH1:=er6 (hq6 [0,1] 2) (by decide) (by decide) [[-1,2]] (by decide) (by decide);have hH2:=er6 (hq6 [0] 2) (by decide) (by decide) [[-1,2]] (by decide) (by decide);rw[je8] at hH1;rw[ju8] at hH2;have cA:(jl1 [97] [49]).cs=[.str [97],.int .i64 0,.str [49],.str [49],.int .u8 1,.str [],.aa3 [],.aa3 [],.aa3 [],.aa3 [],.aa3 [],.aa3 [],.aa3 [],.aa3 [],.aa3 []]:=rfl;have cB:(jl1 [98] [49]).cs=[.str [98],.int .i64 0,.str [49],.str [49],.int .u8 1,.str [],.aa3 [],.aa3 [],.aa3 [],.aa3 [],.aa3 [],.aa3 [],.aa3 [],.aa3 [],.aa3 []]:=rfl;have cT:(at16 [120]).cs=[.int .u8 1,.str [120],.int .u8 0,.int .i64 0,.str [],.str [],.aa3 []]:=rfl;rw[cA] at nA;rw[cB] at nB;rw[cT] at aT
 have hm2:Pq 6 [.aa3 [[.int .i64 0,.aa3 [[.str [98],.int .i64 0,.str [49],.str [49],.int .u8 1,.str [],.aa3 [[.str [120],.int .u8 0,.int .i64 0,.str [],.str []]],.aa3 [],.aa3 [],.aa3 [],.aa3 [],.aa3 [],.aa3 [],.aa3 [],.aa3 []]]]],
   .aa3 [[.str [97],.int .i64 0,.str [49],.str [49],.int .u8 1,.str [],.aa3 [],.aa3 [[.int .u8 1,.str [120],.int .u8 0,.int .i64 0,.str [],.str [],.aa3 []]],.aa3 [],.aa3 [],.aa3 [],.aa3 [],.aa3 [],.aa3 [],.aa3 []]],
   .agg [.int .u8 2,.bool false,.aa1,.aa1,.int .i64 0]] (.tuple [ab3.rV wkM,wkM.v,.ab8 (av4 (er9 wkR wkI)::.int .i64 wkP.inst::wkQ.cs),.bool true]):=ja7 (args':=[ba6 wkR,av4 wkI,.agg wkQ.cs]) (by kernel_rfl) hm
 have hnl:∀d:TypeId,ct9 (.pointer d) (ab3.rV wkM)=zi false:=λ_=>rfl
 generalize wkM.v=AV at *;generalize ab3.rV wkM=RV at *;generalize hTV:(IV.ab8 (av4 (er9 wkR wkI)::.int .i64 wkP.inst::wkQ.cs))=TV at *;refine af4 hE fok5 (nZ rfl) (λa h=>by cases h) ?_;simp only[ic5,go_sem];refine aa4 fok20 (nA) ?_;simp only[go_sem];refine aa4 fok20 (nB) ?_;simp only[go_sem];refine aa4 fok21 (aT) ?_;simp only[go_sem];refine aa4 fok6 (hm2) ?_;simp only[go_sem,hnl];refine aa4 fok14 (hC0) ?_;simp only[go_sem];refine aa4 fok7 (hIt) ?_;simp only[go_sem,aj5,ba5,clE,List.map_cons,List.map_nil,List.getElem_cons_zero,Md.ae1];refine aa4 fok14 (hC1) ?_;simp only[go_sem];refine aa4 fok15 (hS) ?_;simp only[go_sem]
 refine ac4 fok22 (el3 (S:=λ_=>false) (args':=[RV,.int .i64 2,.aa3 (([0,1]:List Int).map Md.ae1)]) rfl (λk hk=>by
  match k,hk with
  | 0,_=>exact .keep _ (hbR.weak λ_ h=>absurd h (zq _))
  | 1,_=>exact .keep _ (.int _ _)
  | 2,_=>exact ci5.frz (lo:=0) (zs:=[0,1]) (.inr ⟨_,[.int .i64 0,.int .i64 1],z6 _,zk _,rfl,by simp only[aa5,if_true],rfl,zb _⟩) (λ_ _=>zu)) (ew6 hV1)) ?_
 rintro v s ⟨rfl,rfl⟩;refine ⟨zb _,?_⟩;simp only[go_sem]
 refine ac4 fok22 (el3 (S:=λ_=>false) (args':=[RV,.int .i64 2,.aa3 (([0]:List Int).map Md.ae1)]) rfl (λk hk=>by
  match k,hk with
  | 0,_=>exact .keep _ (hbR.weak λ_ h=>absurd h (zq _))
  | 1,_=>exact .keep _ (.int _ _)
  | 2,_=>exact ci5.frz (lo:=0) (zs:=[0]) (.inr ⟨_,[.int .i64 0],z6 _,zk _,rfl,by simp only[aa5,if_true],rfl,zb _⟩) (λ_ _=>zu)) (ew6 hV2)) ?_
 rintro v s ⟨rfl,rfl⟩;refine ⟨zb _,?_⟩;simp only[go_sem];refine aa4 fok23 (hH1) ?_;simp only[go_sem];refine aa4 fok23 (hH2) ?_;simp only[go_sem];exact ab6 rfl
theorem ii6 {most:Nat}:∀ {rs:List ao2} {n:Nat},n<=most->by6 most rs n=false->n+am8 rs<=most:=by
 intro rs
 induction rs with
 | nil=>intro n h _;simpa [am8] using h
 | cons r rs ih=>
  intro n h hw;rw[df3] at hw;split at hw
  ·cases hw
  ·split at hw
   ·cases hw
   ·have:=ih (n:=n+r.packages.length) om hw;have e:am8 (r::rs)=r.packages.length+am8 rs:=by simp[am8]
    rw[e];omega
theorem ii7 {repos:List ao2}{inst:List aa2}{r:Req}{most:Nat}(h:bh2 repos inst r most=false){p:Pool}(hn:ce4 repos inst=.inl p):(ac1 p).length<=most:=by
 unfold bh2 at h;simp only[Bool.or_eq_false_iff,decide_eq_false_iff_not] at h;have:=ii6 om h.2.2.2.2.2;rw[bq1 hn,zd,List.length_flatMap];unfold am8 at this;exact this
theorem ge3 (repos:List ao2)(inst:List aa2)(r:Req):cb2 repos inst r=dx1\/∃p,ce4 repos inst=.inl p/\aj4 r p.inst=0/\cb2 repos inst r=.tuple [ab3.rV ⟨p,r⟩,(ab3.mk p r).v,.ab8 (av4 (er9 repos inst)::.int .i64 p.inst::r.cs),.bool true]:=by
 unfold cb2
 cases hn:ce4 repos inst with
 | inr e=>exact .inl rfl
 | inl p=>
  by_cases he:aj4 r p.inst=0
  ·exact .inr ⟨p,rfl,he,if_pos he⟩
  ·exact .inl (if_neg he)
open Go Go.Id Go.Proofs Go.Id.Md
theorem ed4 (b:UInt8):Pq 200 [.int .u8 b.toNat] (.int .u8 (ad1 b)):=by
 rw[hf9];have hb:=b.toNat_lt;generalize b.toNat=n at *;unfold vkN;refine af4 hE fok200 (nZ rfl) (af3 (.int _ _)) ?_;by_cases e1:n=126
 ·have e1':(n:Int)=126:=om;rw[if_pos e1];simp only[ic200,go_sem,e1'];exact .keep _ (.int _ _)
 have e1':¬(n:Int)=126:=om;rw[if_neg e1];by_cases e2:n=94
 ·have e2':(n:Int)=94:=om;have q:¬(94:Int)=126:=by decide
  rw[if_pos e2];simp only[ic200,go_sem,e2',q];exact .keep _ (.int _ _)
 have e2':¬(n:Int)=94:=om;rw[if_neg e2];by_cases e3:97<=n/\n<=122
 ·have f1:(97:Int)<=n:=om;have f2:(n:Int)<=122:=om;rw[if_pos (.inl e3)];simp only[ic200,go_sem,e1',e2',f1,f2];exact .keep _ (.int _ _)
 by_cases e4:65<=n/\n<=90
 ·have f1:¬(97:Int)<=n:=om;have f3:(65:Int)<=n:=om;have f4:(n:Int)<=90:=om;rw[if_pos (.inr e4)];simp only[ic200,go_sem,e1',e2',f1,f3,f4];exact .keep _ (.int _ _)
 rw[if_neg (λh=>h.elim e3 e4)];by_cases e5:48<=n/\n<=57
 ·have f1:¬(97:Int)<=n:=om;have f3:¬(65:Int)<=n:=om;have f5:(48:Int)<=n:=om;have f6:(n:Int)<=57:=om;rw[if_pos e5];simp only[ic200,go_sem,e1',e2',f1,f3,f5,f6];exact .keep _ (.int _ _)
 rw[if_neg e5];by_cases f1:(97:Int)<=n
 ·have f2:¬(n:Int)<=122:=om;have f3:(65:Int)<=n:=om;have f4:¬(n:Int)<=90:=om;have f5:(48:Int)<=n:=om;have f6:¬(n:Int)<=57:=om;simp only[ic200,go_sem,e1',e2',f1,f2,f3,f4,f5,f6];exact .keep _ (.int _ _)
 by_cases f3:(65:Int)<=n
 ·have f4:¬(n:Int)<=90:=om;have f5:(48:Int)<=n:=om;have f6:¬(n:Int)<=57:=om;simp only[ic200,go_sem,e1',e2',f1,f3,f4,f5,f6];exact .keep _ (.int _ _)
 by_cases f5:(48:Int)<=n
 ·have f6:¬(n:Int)<=57:=om;simp only[ic200,go_sem,e1',e2',f1,f3,f5,f6];exact .keep _ (.int _ _)
 ·simp only[ic200,go_sem,e1',e2',f1,f3,f5];exact .keep _ (.int _ _)
theorem fl5 (p:Part):∀c∈Part.cs p,Bnd 0 c:=ah6 (.int _ _) (.str _)
theorem eo1 (l:List Part):Bnd 0 (.aa3 (l.map Part.cs)):=.aa3 _ λe he c hc=>by
 obtain ⟨d,_,rfl⟩:=List.mem_map.1 he;exact fl5 d c hc
theorem bj9 {t:Store}{gv:IV}{esz n nid:Nat}{es:List (List IV)}{e:List IV}(hg:Grow t gv esz es)(hall:∀x∈es,x.length=esz/\x.all IV.leaf=true)(he:e.length=esz/\e.all IV.leaf=true)(hl:es.length<2147483648)(h1:t.next<=nid)(h2:nid<t.next+n) :
  ∃v' σ',as2 ⟨t.next+n,t.obj⟩ nid esz gv (.aa3 [e])=zi (v',σ')/\σ'.next=t.next+n/\Grow σ' v' esz (es++[e]):=by
 have hg2:Grow ⟨t.next+n,t.obj⟩ gv esz es:=hg.mono (zw _ _) λ_ _ _=>rfl
 have hap:=ai2 (nid:=nid) (e:=e) hg2 hall he hl;have kn:(ae9 gv (⟨t.next+n,t.obj⟩:Store)).next=t.next+n:=ab7 gv;refine ⟨_,_,hap,by rw[aa8,kn],.inr ⟨nid,by rw[zd,zf],by simp only[aa5,if_true],by rw[aa8,kn];exact h2⟩⟩
theorem eo2 (s:Str)(hs:s.length<2^30):Pq 157 [.str s] (.aa3 ((ab5 s).map Part.cs)):=by
 refine af4 hE fok157 (nZ rfl) (ak1 (.str _)) ?_;simp only[ic157,go_sem];refine ab1 noT (λj fr t=>∃(a:Nat) (gv:IV) (pre:List Part),fr=[(0,.str s),(3,gv),(4,.int .i64 (a:Int))]/\j<=a/\a<=s.length/\pre.length<=a/\ab5 s=pre++ab5 (s.drop a)/\Grow t gv 2 (pre.map Part.cs)) s.length ⟨0,.aa1,[],rfl,zb _,z6 _,zb _,rfl,.inl ⟨rfl,rfl⟩⟩ ?_;rintro j fr t hj ⟨a,gv,pre,rfl,hja,has,hpl,hv,hg⟩;by_cases hlt:a<s.length
 ·obtain ⟨b,hb,hget,hdr,_,htk⟩:=ad2 s a hlt;have c1:(a:Int)<s.length:=om;have c2:(0:Int)<=a:=om;have w1:=ac3 (i:=a) om;have hk:=ed4 b;rw[hdr] at hv;simp only[go_sem,c1,bc7,c2,za,hget,zr];refine aa4 fok200 (hk) ?_;by_cases h0:ad1 b=0
  ·have k0:((ad1 b:Nat):Int)=0:=om;rw[fk3 h0] at hv;simp only[go_sem,k0,w1];exact ⟨om,a+1,gv,pre,rfl,om,om,om,hv,hg⟩
  have k0:¬((ad1 b:Nat):Int)=0:=om;by_cases h4:ad1 b<4
  ·have k4:((ad1 b:Nat):Int)<4:=om;rw[fk4 h0 h4] at hv;obtain ⟨v',σ',h1,h2,h3⟩:=bj9 (n:=1) (nid:=t.next) (e:=[.int .u8 (ad1 b:Nat),.str []]) hg (bf9 _) ⟨rfl,rfl⟩ (by rw[zg];omega) (zb _) om;simp only[go_sem,k0,k4,h1,w1];refine ⟨om,a+1,v',pre++[⟨ad1 b,[]⟩],rfl,om,om,by rw[zd];simp only[zf];omega,by rw[hv];simp,?_⟩;rw[zx];exact h3
  have k4:¬((ad1 b:Nat):Int)<4:=om;simp only[go_sem,k0,k4];obtain ⟨R,hR⟩:∃R,R=gi4 b (s.drop (a+1)):=⟨_,rfl⟩;have hrl:=it4 b (s.drop (a+1));rw[<- hR,List.length_drop] at hrl
  have hrun:∀m,m<R+1->∃c,s[a+m]? = zi c/\ad1 c=ad1 b:=λm hm=>by
   cases m with
   | zero=>exact ⟨b,hget,rfl⟩
   | succ m=>
    obtain ⟨c,h1,h2⟩:=it2 (b:=b) (l:=s.drop (a+1)) (m:=m) om;rw[zt] at h1;exact ⟨c,by rw[<- h1];congr 1;omega,h2⟩
  have hend:∀c,s[a+(R+1)]? = zi c->ad1 c≠ad1 b:=λc h=>it3 (l:=s.drop (a+1)) (by rw[<- hR,zt,<- h];congr 1;omega)
  refine ab1 noT (λm fr u=>fr=[(0,.str s),(3,gv),(4,.int .i64 (a:Int)),(5,.int .u8 (ad1 b:Nat)),(6,.int .i64 ((a+m:Nat):Int))]/\u.obj=t.obj/\t.next<=u.next) (R+1) ⟨rfl,rfl,zb _⟩ ?_;rintro m fr u hmR ⟨rfl,uo,un⟩;have d2:(0:Int)<=((a+m:Nat):Int):=om;have w2:=ac3 (i:=a+m) om;by_cases hm:m<R+1
  ·obtain ⟨c,hc1,hc2⟩:=hrun m hm;have k2:((a+m:Nat):Int)<s.length:=om;have k3:=ed4 c;rw[hc2] at k3;simp only[go_sem,k2,bc7,d2,za,hc1,zr];refine aa4 fok200 (k3) ?_;simp only[go_sem,w2];exact ⟨hm,rfl,uo,un⟩
  have hm':m=R+1:=om;subst hm';have hw:((b::s.drop (a+1)).take (R+1))=(s.drop a).take (R+1):=by rw[hdr]
  have hv4:=hv;rw[fk5 h4,<- hR,hw,List.drop_drop] at hv4;have hdd:a+1+R=a+(R+1):=om;rw[hdd] at hv4;obtain ⟨w,hwd⟩:∃w,w=(s.drop a).take (R+1):=⟨_,rfl⟩;rw[<- hwd] at hv4;have hwl:w.length=R+1:=by rw[hwd,List.length_take,List.length_drop];omega
  have hwg:∀z,z<R+1->w[z]? = s[a+z]?:=λz hz=>by rw[hwd,List.getElem?_take,if_pos hz,zt]
  by_cases hen:a+(R+1)<s.length
  case' pos=>
   have k2:((a+(R+1):Nat):Int)<s.length:=om;have hc:s[a+(R+1)]? = zi s[a+(R+1)]:=zh hen;have hne:=hend _ hc;have k7:¬((ad1 s[a+(R+1)]:Nat):Int)=ad1 b:=om;have k3:=ed4 s[a+(R+1)];simp only[go_sem,k2,bc7,d2,za,hc,zr];refine aa4 fok200 (k3) ?_;simp only[go_sem,k7]
  case' neg=>
   have k2:¬((a+(R+1):Nat):Int)<s.length:=om;simp only[go_sem,k2]
  all_goals
   obtain ⟨Z,hZ⟩:∃Z,Z=if ad1 b=5 then (w.takeWhile (· == 48)).length else 0:=⟨_,rfl⟩
   have hZl:Z<=R+1:=by
    rw[hZ];split
    ·rw[<- hwl];exact (List.takeWhile_sublist _).length_le
    ·omega
   have hdw:(if ad1 b=5 then w.dropWhile (· == 48) else w)=w.drop Z:=by
    rw[hZ];split
    ·exact (cz1 _ w).2
    ·rfl
   rw[hdw] at hv4;refine ab1 noT (λz fr v=>(∃tl:Frm,fr=(0,.str s)::(3,gv)::(4,.int .i64 ((a+z:Nat):Int))::(5,.int .u8 (ad1 b:Nat))::(6,.int .i64 ((a+(R+1):Nat):Int))::tl)/\v.obj=t.obj/\t.next<=v.next) Z ⟨⟨_,rfl⟩,uo,by first|exact un|(show t.next<=_;omega)⟩ ?_;rintro z fr v hz ⟨⟨tl,rfl⟩,vo,vn⟩;have z2:(0:Int)<=((a+z:Nat):Int):=om;have z3:=ac3 (i:=a+z) om;by_cases hzz:z<Z
   ·have h5:ad1 b=5:=by
     by_cases h:ad1 b=5
     ·exact h
     ·rw[if_neg h] at hZ;omega
    have k5:((ad1 b:Nat):Int)=5:=om;rw[if_pos h5] at hZ;obtain ⟨c,hc1,hc2⟩:=jt3 (p:=λc=>c==48) w z om;have hc0:c=48:=by simpa using hc2
    rw[hwg z om,hc0] at hc1;have e1:((a+z:Nat):Int)<((a+(R+1):Nat):Int):=om;have e2:((a+z:Nat):Int)<s.length:=om;have e3:((48:UInt8).toNat:Int)=48:=rfl;simp only[go_sem,k5,e1,e2,bc7,z2,za,hc1,zr,e3,z3];exact ⟨hzz,⟨_,rfl⟩,vo,vn⟩
   ·have hz':z=Z:=om;subst hz'
    have hss:cb8 (zi (.int .i64 ((a+z:Nat):Int))) (zi (.int .i64 ((a+(R+1):Nat):Int))) (.str s)=zi (.str (w.drop z)):=by
     have e1:(0:Int)<=((a+(R+1):Nat):Int):=om;have e2:a+z<=a+(R+1)/\a+(R+1)<=s.length:=om;simp only[cb8,cw3,es7,z2,e1,if_true,za,e2,and_self];rw[hwd,List.drop_take,List.drop_take,List.drop_drop];congr 3;omega
    have hvg:Grow v gv 2 (pre.map Part.cs):=hg.mono vn λ_ _ _=>by rw[vo]
    obtain ⟨v',σ',h1,h2,h3⟩:=bj9 (n:=1) (nid:=v.next) (e:=[.int .u8 (ad1 b:Nat),.str (w.drop z)]) hvg (bf9 _) ⟨rfl,rfl⟩ (by rw[zg];omega) (zb _) om
    have fin:ab5 s=(pre++[(⟨ad1 b,w.drop z⟩:Part)])++ab5 (s.drop (a+(R+1)))/\Grow σ' v' 2 ((pre++[(⟨ad1 b,w.drop z⟩:Part)]).map Part.cs)/\(pre++[(⟨ad1 b,w.drop z⟩:Part)]).length<=a+(R+1):=by
     refine ⟨by rw[hv4];simp,by rw[zx];exact h3,by rw[zd,zf];omega⟩
    by_cases h5:ad1 b=5
    ·have k5:((ad1 b:Nat):Int)=5:=om;rw[if_pos h5] at hZ;by_cases hzR:z<R+1
     ·have e1:((a+z:Nat):Int)<((a+(R+1):Nat):Int):=om;have e2:((a+z:Nat):Int)<s.length:=om;have hc:s[a+z]? = zi s[a+z]:=zh om
      have hne:¬s[a+z]=48:=by
       have:=jt4 (p:=λc=>c==48) w s[a+z] (by rw[<- hZ,hwg z hzR];exact hc)
       simpa using this
      have hne2:¬(s[a+z].toNat:Int)=48:=λh=>hne (UInt8.toNat_inj.1 (by show _=48;omega))
      simp only[k5] at h1;simp only[go_sem,k5,e1,e2,bc7,z2,za,hc,zr,hne2,hss,h1];exact ⟨om,a+(R+1),v',_,rfl,om,om,fin.2.2,fin.1,fin.2.1⟩
     ·have e1:¬((a+z:Nat):Int)<((a+(R+1):Nat):Int):=om;simp only[k5] at h1;simp only[go_sem,k5,e1,hss,h1];exact ⟨om,a+(R+1),v',_,rfl,om,om,fin.2.2,fin.1,fin.2.1⟩
    ·have k5:¬((ad1 b:Nat):Int)=5:=om;simp only[go_sem,k5,hss,h1];exact ⟨om,a+(R+1),v',_,rfl,om,om,fin.2.2,fin.1,fin.2.1⟩
 ·have ha:a=s.length:=om;subst ha;have c1:¬(s.length:Int)<s.length:=om;rw[ze,gd7,List.append_nil] at hv;rw[hv];simp only[go_sem,c1];exact hg.frz (λx hx=>(bf9 _ x hx).1) (λ_ _=>zq _) (an2 (eo1 pre))
end Go.Id.Tryz
