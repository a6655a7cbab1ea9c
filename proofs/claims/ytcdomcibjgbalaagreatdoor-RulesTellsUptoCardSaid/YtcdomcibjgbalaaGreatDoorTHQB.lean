/- Names,versions,architectures,operators: what the program tells of them. Conditions: none. -/
import Derived.Test.YtcdomcibjgbalaaGreatDoorGHT
import Derived.Test.YtcdomcibjgbalaaGreatDoorT6
import Derived.Test.YtcdomcibjgbalaaGreatDoorFwQ
import Derived.Test.YtcdomcibjgbalaaGreatDoorMsb
import Derived.Test.YtcdomcibjgbalaaGreatDoorFwRo
open Nat renaming le_refl→za,not_lt_zero→zf,reduceLeDiff→zs,reduceEqDiff→zt,add_assoc→zu,le_succ→zy,reduceMul→z1,reduceAdd→z2,lt_succ_self→z6,reduceLT→z7,zero_le→qp,lt_of_lt_of_le→qs
open List renaming length_map→zb,take_of_length_le→zc,mem_map→zd,drop_length→ze,length_append→zg,mem_cons_of_mem→zk,mem_cons_self→zl,map_nil→zm,not_mem_nil→zn,length_cons→zo,mem_cons→zp,append_assoc→zq,length_drop→zr,map_append→zv,getD_eq_getElem?_getD→zx,map_cons→zz,getElem?_eq_getElem→z0,take_length→z4,not_any_eq_all_not→z5,nil_append→z8,length_nil→z9,all_cons→qf,all_nil→qh,length_take→qi,mem_append→qk,all_append→ql,drop_zero→qn,dropWhile_cons→qq,dropWhile_nil→qr,all_eq_false→qt
open Option renaming some→zh,map→qj
open Bool renaming true_and→zi,false_eq_true→zj,false_and→qe,not_true→qg,decide_and→qm,false_or→qo
open Int renaming reduceToNat→zw,reduceAdd→z3,reduceLT→qa,reduceLE→qb,natCast_one→qc,natCast_add→qd
set_option linter.all false
set_option maxRecDepth 100000
set_option maxHeartbeats 1000000
private theorem om{P:Prop}(h:P:=by omega):P:=h
namespace Go.Id.Tryz
open Go Go.Id Go.Proofs Go.Id.Md
def ka6:List (Nat×List IV):=[(0,words.map .str),(1,[.al4 opsL])]
abbrev EE:Nat->IV:=gc1 ka6
abbrev Pq:=PC Tryz.prog EE
abbrev Cq:=C Tryz.prog EE
theorem hE:∀g,Bnd 0 (EE g):=ja3 (by kernel_rfl)
theorem E0:EE 0=.ab8 [.str [97,110,100],.str [111,114],.str [105,102],.str [101,108,115,101],.str [117,110,108,101,115,115],.str [119,105,116,104],.str [119,105,116,104,111,117,116]]:=rfl
theorem E1:EE 1=.ab8 [.al4 opsL]:=rfl
theorem ee2 (s:Str)(b:UInt8):Pq 172 [.str s,.int .u8 b.toNat] (.int .i64 (er8 b.toNat s 0)):=by
 refine ba9 fok172 (nZ rfl) λσ=>?_
 have h1:(0:Int)<=b.toNat:=om;have h2:(b.toNat:Int)<256:=by have:=b.toNat_lt;omega
 simp only[ic172,go_sem,h1,h2,Int.toNat_natCast,and_self]
theorem az7 (s:Str)(b:UInt8):Pq 126 [.str s,.int .u8 b.toNat] (.int .i64 (er8 b.toNat s 0)):=by
 refine ba9 fok126 (nZ rfl) λσ=>?_
 simp only[ic126,go_sem];refine aa4 fok172 (ee2 s b) ?_;simp only[go_sem,and_self]
theorem ee3 (s t:Str):Pq 173 [.str s,.str t] (.bool (decide (t.length<=s.length)&&decide (s.take t.length=t))):=by
 refine ba9 fok173 (nZ rfl) λσ=>?_
 by_cases h:t.length<=s.length
 ·have h1:(t.length:Int)<=s.length:=om;have h2:(0:Int)<=t.length:=om;simp only[ic173,go_sem,h,h1,cb8,cw3,es7,h2,Int.toNat_natCast,qp,and_self,qn,zi,ew2,ew3,qj]
 ·have h1:¬(t.length:Int)<=s.length:=om;simp only[ic173,go_sem,h,h1,qe,and_self]
theorem eo7 (s t:Str):Pq 128 [.str s,.str t] (.bool (decide (t.length<=s.length)&&decide (s.take t.length=t))):=by
 refine ba9 fok128 (nZ rfl) λσ=>?_
 simp only[ic128,go_sem];refine aa4 fok173 (ee3 s t) ?_;simp only[go_sem,and_self]
theorem az8 (a:Int):Pq 82 [.int .u8 a] (.bool (ak6 a)):=by
 refine ba9 fok82 (nZ rfl) λσ=>?_
 by_cases h:1<=a
 ·simp only[ic82,go_sem,ak6,h,zi,and_self]
 ·simp only[ic82,go_sem,ak6,h,qe,and_self]
def dv4:List IV:=[.str [],.str [110,111,97,114,99,104],.str [120,56,54,95,54,52],.str [105,54,56,54],.str [97,97,114,99,104,54,52]]
theorem eo8:Pq 161 [] (.agg dv4):=by
 refine af4 hE fok161 (nZ rfl) (λa h=>by cases h) ?_;simp only[ic161,go_sem];exact .keep _ (ax4 10 _ (by kernel_rfl))
def as8 (a:Int):Str:=if a=1 then [110,111,97,114,99,104] else if a=2 then [120,56,54,95,54,52] else if a=3 then [105,54,56,54] else if a=4 then [97,97,114,99,104,54,52] else []
theorem cg7 (a:Int):decide (as8 a=[])=!ak6 a:=by
 unfold as8 ak6
 repeat' split
 all_goals first|(subst_vars;rfl)|skip
 have:¬(1<=a/\a<=4):=om;have h:(decide (1<=a)&&decide (a<=4))=false:=by simpa using this
 rw[h];rfl
theorem fb3 (a:Int):Pq 115 [.int .u8 a] (.str (as8 a)):=by
 refine ba9 fok115 (nZ rfl) λσ=>?_
 simp only[ic115,go_sem];refine aa4 fok82 (az8 a) ?_;simp only[go_sem]
 cases h:ak6 a with
 | false=>
  have h1:=cg7 a;rw[h] at h1;have h2:as8 a=[]:=by simpa using h1
  simp only[go_sem,h2,and_self]
 | true=>
  have h1:1<=a/\a<=4:=by simpa [ak6] using h
  simp only[go_sem];refine aa4 fok161 eo8 ?_;have h2:a=1\/a=2\/a=3\/a=4:=om;rcases h2 with rfl|rfl|rfl|rfl<;>(simp only[go_sem,dv4];first|rfl|exact ⟨rfl,rfl⟩)
theorem fm2 (c:UInt8):∀(l:Str) (i:Nat),decide (0<=er8 c.toNat l i)=l.contains c:=by
 intro l
 induction l with
 | nil=>intro i;rfl
 | cons b l ih=>
  intro i;simp only[er8,List.contains_cons];split
  ·rename_i h;have:c=b:=(UInt8.toNat_inj.1 h).symm;subst this;simp
  ·rename_i h;have:(c==b)=false:=by simp only[beq_eq_false_iff_ne,ne_eq];intro e;subst e;exact h rfl
   rw[this,qo];exact ih (i+1)
theorem cz2 {p:UInt8->Bool}{s:Str}{i:Nat}(h:i<s.length):(s.take (i+1)).all p=((s.take i).all p&&p s[i]):=by
 rw[List.take_add_one,z0 h];simp only[Option.toList,ql,qf,qh,Bool.and_true]
theorem bk2 {p:UInt8->Bool}{s:Str}{i:Nat}(h:i<s.length)(hp:p s[i]=false):s.all p=false:=by
 rw[qt];exact ⟨s[i],List.getElem_mem h,by simp[hp]⟩
theorem dv5 (s:Str)(hs:s.length<2^62):Pq 129 [.str s] (.bool (az3 s)):=by
 refine ba9 fok129 (nZ rfl) λσ=>?_
 by_cases h0:s=[]
 ·subst h0;simp only[ic129,go_sem];rfl
 have hl:1<=s.length:=by cases s with|nil=>exact absurd rfl h0|cons _ _=>simp
 by_cases h1:s.length<=64
 ·have h1':¬(64:Int)<s.length:=om;simp only[ic129,go_sem,h0,h1'];refine ab1 noT (λi fr s'=>s'=σ/\fr=[(0,.str s),(13,.int .i64 s.length),(14,.int .i64 i)]/\(s.take i).all bo2=true) s.length ⟨rfl,rfl,rfl⟩ ?_;rintro i fr s' hi ⟨rfl,rfl,ha⟩;by_cases hlt:i<s.length
  ·have c1:(i:Int)<s.length:=om;have c2:(0:Int)<=i:=om;simp only[go_sem,c1,c2,z0 hlt];have fin:bo2 s[i]=false->az3 s=false:=λh=>by simp only[az3,bk2 hlt h,Bool.and_false]
   have step:bo2 s[i]=true->(s.take (i+1)).all bo2=true:=λh=>by rw[cz2 hlt,ha,h];rfl
   have w1:=ac3 (i:=i) om
   have hv:bo2 s[i]=(decide ((97:Int)<=s[i].toNat)&&decide ((s[i].toNat:Int)<=122)||decide ((65:Int)<=s[i].toNat)&&decide ((s[i].toNat:Int)<=90)||decide ((48:Int)<=s[i].toNat)&&decide ((s[i].toNat:Int)<=57) || [46,95,43,126,94].contains s[i]):=by
    simp only[bo2,gs3];congr 1;congr 1
    ·congr 1<;>congr 1<;>(apply decide_eq_decide.2;omega)
    ·congr 1<;>(apply decide_eq_decide.2;omega)
   generalize s[i]=b at *
   have last:∀(k1:¬((97:Int)<=b.toNat/\(b.toNat:Int)<=122)) (k2:¬((65:Int)<=b.toNat/\(b.toNat:Int)<=90)) (k3:¬((48:Int)<=b.toNat/\(b.toNat:Int)<=57)),bo2 b=decide (0<=er8 b.toNat [46,95,43,126,94] 0):=λk1 k2 k3=>by
    rw[fm2,hv];simp only[<- qm,decide_eq_false k1,decide_eq_false k2,decide_eq_false k3,qo]
   by_cases k1:(97:Int)<=b.toNat
   ·by_cases k2:(b.toNat:Int)<=122
    ·simp only[go_sem,k1,k2,w1];exact ⟨hlt,step (by rw[hv];simp only[k1,k2,go_sem])⟩
    ·have k3:(65:Int)<=b.toNat:=om;have k4:¬(b.toNat:Int)<=90:=om;have k5:(48:Int)<=b.toNat:=om;have k6:¬(b.toNat:Int)<=57:=om;simp only[go_sem,k1,k2,k3,k4,k5,k6];refine aa4 fok126 (az7 _ b) ?_;have hl:=last om om om;simp only[go_sem,ge_iff_le,<- hl]
     cases hb:bo2 b with
     | true=>simp only[go_sem,w1];exact ⟨hlt,step hb⟩
     | false=>simp only[go_sem,fin hb,and_self]
   ·by_cases k3:(65:Int)<=b.toNat
    ·by_cases k4:(b.toNat:Int)<=90
     ·simp only[go_sem,k1,k3,k4,w1];exact ⟨hlt,step (by rw[hv];simp only[k1,k3,k4,go_sem])⟩
     ·have k5:(48:Int)<=b.toNat:=om;have k6:¬(b.toNat:Int)<=57:=om;simp only[go_sem,k1,k3,k4,k5,k6];refine aa4 fok126 (az7 _ b) ?_;have hl:=last om om om;simp only[go_sem,ge_iff_le,<- hl]
      cases hb:bo2 b with
      | true=>simp only[go_sem,w1];exact ⟨hlt,step hb⟩
      | false=>simp only[go_sem,fin hb,and_self]
    ·by_cases k5:(48:Int)<=b.toNat
     ·by_cases k6:(b.toNat:Int)<=57
      ·simp only[go_sem,k1,k3,k5,k6,w1];exact ⟨hlt,step (by rw[hv];simp only[k1,k3,k5,k6,go_sem])⟩
      ·simp only[go_sem,k1,k3,k5,k6];refine aa4 fok126 (az7 _ b) ?_;have hl:=last om om om;simp only[go_sem,ge_iff_le,<- hl]
       cases hb:bo2 b with
       | true=>simp only[go_sem,w1];exact ⟨hlt,step hb⟩
       | false=>simp only[go_sem,fin hb,and_self]
     ·simp only[go_sem,k1,k3,k5];refine aa4 fok126 (az7 _ b) ?_;have hl:=last om om om;simp only[go_sem,ge_iff_le,<- hl]
      cases hb:bo2 b with
      | true=>simp only[go_sem,w1];exact ⟨hlt,step hb⟩
      | false=>simp only[go_sem,fin hb,and_self]
  ·have hi':i=s.length:=om;have c1:¬(i:Int)<s.length:=om;simp only[go_sem,c1];subst hi';rw[z4] at ha;simp only[az3,ha,go_sem,hl,h1,and_self]
 ·have h1':(64:Int)<s.length:=om;simp only[ic129,go_sem,h0,h1',az3,h1,Bool.and_false,qe,and_self]
theorem eo9 (e:EVR)(dep:Bool)(h1:e.ver.length<2^62)(h2:e.rel.length<2^62):Pq 87 [.agg e.cs,.bool dep] (.bool (bi8 e dep)):=by
 obtain ⟨ep,ver,rel⟩:=e;refine ba9 fok87 (nZ rfl) λσ=>?_
 have hw:=dv5 ver h1;have hw':=dv5 rel h2;by_cases a1:(0:Int)<=ep
 ·by_cases a2:ep<=2147483647
  ·simp only[ic87,go_sem,EVR.cs,bi8,a1,a2];refine aa4 fok129 hw ?_;simp only[go_sem]
   cases hv:az3 ver with
   | false=>simp only[go_sem,and_self]
   | true=>
    simp only[go_sem];refine aa4 fok129 hw' ?_;simp only[go_sem]
    cases hr:az3 rel with
    | true=>simp only[go_sem,and_self]
    | false=>
     cases dep with
     | true=>
      simp only[go_sem]
      cases rel<;>first|rfl|exact ⟨rfl,rfl⟩
     | false=>simp only[go_sem,and_self]
  ·simp only[ic87,go_sem,EVR.cs,bi8,a1,a2,and_self]
 ·simp only[ic87,go_sem,EVR.cs,bi8,a1,and_self]
theorem fb4 (n:Int):Pq 127 [.int .u8 n] (.str (ez3 n)):=by
 obtain ⟨_,pf,an,h⟩:=fok127;exact jd7 (g:=1) h E1
theorem ij9 (n:Int):eb1 n=(decide (n=0) || !decide (ez3 n=[])):=by
 unfold eb1 ez3;by_cases h0:n=0
 ·subst h0;rfl
 by_cases h1:n=1
 ·subst h1;rfl
 by_cases h2:n=2
 ·subst h2;rfl
 by_cases h3:n=3
 ·subst h3;rfl
 by_cases h4:n=4
 ·subst h4;rfl
 by_cases h6:n=6
 ·subst h6;rfl
 simp[h0,h1,h2,h3,h4,h6]
theorem ge9 (n:Int):Pq 85 [.int .u8 n] (.bool (eb1 n)):=by
 refine ba9 fok85 (nZ rfl) λσ=>?_
 rw[ij9];by_cases h:n=0
 ·simp only[ic85,go_sem,h,and_self]
 ·simp only[ic85,go_sem,h];refine aa4 fok127 (fb4 n) ?_;simp only[go_sem,and_self]
theorem jf7 (c:UInt8)(l:Str)(i:Nat):decide (er8 c.toNat l i<0)=!l.contains c:=by
 rw[<- fm2 c l i,<- decide_not];exact decide_eq_decide.2 om
def iu6:List IV:=[.str [97,110,100],.str [111,114],.str [105,102],.str [101,108,115,101],.str [117,110,108,101,115,115],.str [119,105,116,104],.str [119,105,116,104,111,117,116]]
theorem fm3 {b:UInt8}(h:bf3 b=true):b.toNat<=126:=by
 have:b∈signs:=by simpa [bf3,List.contains_iff_mem] using h
 revert this
 have:∀b∈signs,b.toNat<=126:=by decide +kernel
 exact this b
theorem ct2 (s:Str)(hs:s.length<2^62):Pq 84 [.str s] (.bool (as4 s)):=by
 refine af4 hE fok84 (nZ rfl) (λa h=>by cases h with|head=>exact .str _|tail _ h=>cases h) ?_;by_cases h1:1<=s.length
 ·by_cases h2:s.length<=64
  ·have c1:¬(s.length:Int)<1:=om;have c2:¬(64:Int)<s.length:=om;simp only[ic84,go_sem,c1,c2];refine ir5 noT (λm fr σ=>(fr.get 0=.str s/\fr.get 16=.ptr 0 0)/\∃pos,σ.obj 0=zh (.bg3 s pos)/\pos<=s.length/\m=s.length-pos/\(s.take pos).all bf3=true) s.length ⟨⟨rfl,rfl⟩,0,rfl,qp _,rfl,rfl⟩ ?_;rintro m fr σ ⟨⟨f0,f16⟩,pos,ho,hp,rfl,ha⟩;by_cases hlt:pos<s.length
   ·simp only[go_sem,f0,f16,ho,hlt,bp6,ir8];by_cases hb:s[pos].toNat<128
    ·rw[ft5 s pos hlt hb];by_cases hb2:s[pos].toNat<=126
     ·have d1:¬(126:Int)<s[pos].toNat:=om
      have d2:IntKind.u8.wrap (s[pos].toNat:Int)=s[pos].toNat:=by
       have:=s[pos].toNat_lt;simp[IntKind.wrap,IntKind.bits,IntKind.signed];omega
      simp only[go_sem,d1,d2];refine aa4 (v:=.int .i64 (er8 s[pos].toNat signs 0)) fok126 (az7 signs s[pos]) ?_;have hi:decide (er8 s[pos].toNat signs 0<0)=!bf3 s[pos]:=jf7 s[pos] signs 0;simp only[go_sem,hi]
      cases hg:bf3 s[pos] with
      | true=>
       simp only[go_sem]
       exact ⟨s.length-(pos+1),om,pos+1,rfl,hlt,rfl,by rw[cz2 hlt,ha,hg];rfl⟩
      | false=>
       simp only[go_sem,as4,bk2 hlt hg];exact ab4 _
     ·have d1:(126:Int)<s[pos].toNat:=om
      have hg:bf3 s[pos]=false:=by
       cases h:bf3 s[pos] with
       | false=>rfl
       | true=>exact absurd (fm3 h) hb2
      simp only[go_sem,d1,as4,bk2 hlt hg];exact ab4 _
    ·have h3:=decode_high s pos hlt hb;generalize Utf8.decode ⟨s.toArray⟩ pos=dd at h3 ⊢;have d1:(126:Int)<dd.1:=om
     have hg:bf3 s[pos]=false:=by
      cases h:bf3 s[pos] with
      | false=>rfl
      | true=>have:=fm3 h;omega
     simp only[go_sem,d1,as4,bk2 hlt hg];exact ab4 _
   ·have hpe:pos=s.length:=om;subst hpe;rw[z4] at ha;simp only[go_sem,f0,f16,ho,bp6,ir8,Nat.lt_irrefl,E0];refine ab1 noT (λi fr σ=>fr=[(0,.str s),(28,.agg iu6),(29,.int .i64 i)]/\∀w∈words.take i,s≠w) 7 ⟨rfl,λw h=>by simp at h⟩ ?_;rintro i fr σ hi ⟨rfl,hw⟩;by_cases hlt:i<7
    ·have e1:(i:Int)<7:=om;have e2:(0:Int)<=i:=om;have w1:=ac3 (i:=i) om
     obtain ⟨w,h3,h4,h5⟩:∃w,iu6[i]? = zh (.str w)/\words.take (i+1)=words.take i++[w]/\w∈words:=by
      have:i=0\/i=1\/i=2\/i=3\/i=4\/i=5\/i=6:=om;rcases this with rfl|rfl|rfl|rfl|rfl|rfl|rfl<;>exact ⟨_,rfl,rfl,by decide⟩
     simp only[go_sem,e1,e2,Nat.mul_one,h3];by_cases hsw:s=w
     ·subst hsw;have:words.contains s=true:=by simpa using h5
      simp only[go_sem,as4,this];exact ab4 _
     ·simp only[go_sem,hsw,w1];refine ⟨hlt,?_⟩;rw[h4];intro x hx;rcases qk.1 hx with h|h
      ·exact hw x h
      ·have:x=w:=by simpa using h
       rw[this];exact hsw
    ·have hi7:i=7:=om;subst hi7
     have:words.contains s=false:=by
      cases h:words.contains s with
      | false=>rfl
      | true=>exact absurd rfl (hw s (by rw[show words.take 7=words from rfl];simpa using h))
     have e7:¬((7:Nat):Int)<7:=om;simp only[go_sem,e7,as4,this,h1,h2,ha,Int.lt_irrefl];exact ab4 _
  ·have c1:¬(s.length:Int)<1:=om;have c2:(64:Int)<s.length:=om;simp only[ic84,go_sem,c1,c2,as4,h1,h2];exact ab4 _
 ·have c1:(s.length:Int)<1:=om;simp only[ic84,go_sem,c1,as4,h1];exact ab4 _
theorem ct3 (s:Str)(hs:s.length<2^62):Pq 86 [.str s] (.bool (bi7 s)):=by
 refine ba9 fok86 (nZ rfl) λσ=>?_
 simp only[ic86,go_sem];refine aa4 fok84 (ct2 s hs) ?_;simp only[go_sem]
 cases h:as4 s with
 | false=>simp only[go_sem,bi7,h,and_self]
 | true=>
  simp only[go_sem];refine aa4 fok128 (eo7 s [47]) ?_
  have:(decide ([47].length<=s.length)&&decide (s.take [47].length=[47]))=(s.head? == zh 47):=by
   cases s with
   | nil=>rfl
   | cons b l=>simp[eq_comm];by_cases hb:b=47<;>simp[hb]
  simp only[zo,z9] at this;simp only[go_sem,bi7,h,this,and_self]
theorem cg8 (d:Dep)(h1:d.name.length<2^62)(h2:d.evr.ver.length<2^62)(h3:d.evr.rel.length<2^62):Pq 50 [.agg d.cs] (.bool (am2 d)):=by
 obtain ⟨name,op,ep,ver,rel⟩:=d;refine ba9 fok50 (nZ rfl) λσ=>?_
 simp only[ic50,go_sem,Dep.cs];refine aa4 fok84 (ct2 name h1) ?_;simp only[go_sem]
 cases hn:as4 name with
 | false=>simp only[go_sem,am2,hn,and_self]
 | true=>
  simp only[go_sem];refine aa4 fok85 (ge9 op) ?_;simp only[go_sem]
  cases ho:eb1 op with
  | false=>simp only[go_sem,am2,hn,ho,and_self]
  | true=>
   by_cases h0:op=0
   ·subst h0
    have hd:am2 ⟨name,0,ep,ver,rel⟩=(decide (ep=0)&&(decide (ver=[])&&decide (rel=[]))):=by
     simp only[am2,hn,ho,go_sem,hp5,EVR.mk.injEq,qm]
    simp only[go_sem,hd,and_self]
   ·simp only[go_sem,h0];refine aa4 fok86 (ct3 name h1) ?_;simp only[go_sem]
    cases hf:bi7 name with
    | true=>simp only[go_sem,am2,hn,ho,h0,hf,and_self]
    | false=>
     simp only[go_sem];refine aa4 (v:=.bool (bi8 ⟨ep,ver,rel⟩ true)) fok87 (eo9 ⟨ep,ver,rel⟩ true h2 h3) ?_;simp only[go_sem,am2,hn,ho,h0,hf,and_self]
theorem ab6 {S:Nat->Prop}{s:Store}{a b:Bool}(h:a=b):Frz s S (.bool a) (.bool b):=h▸ab4 a
theorem bn2 {S:Nat->Prop}{s:Store}{k:IntKind}{a b:Int}(h:a=b):Frz s S (.int k a) (.int k b):=h▸.keep _ (.int _ _)
theorem ct4 (a:Int):Pq 47 [.int .u8 a] (.bool (bg8 a)):=by
 refine af4 hE fok47 (nZ rfl) (ak1 (.int _ _)) ?_;simp only[ic47,go_sem];refine aa4 fok82 (az8 a) ?_;unfold bg8
 cases ak6 a with
 | false=>simp only[go_sem];exact ab6 rfl
 | true=>
  by_cases h:a=1
  ·simp only[go_sem,h];exact ab6 rfl
  ·simp only[go_sem,h];exact ab6 (by simp[h])
theorem fm4 (a b:Int):Pq 176 [.int .u8 a,.int .u8 b] (.bool (ce9 a b)):=by
 refine af4 hE fok176 (nZ rfl) (ah6 (.int _ _) (.int _ _)) ?_;have ha:=ct4 a;have hb:=ct4 b;simp only[ic176,go_sem];refine aa4 fok47 (ha) ?_;unfold ce9
 cases bg8 a with
 | false=>simp only[go_sem];exact ab6 rfl
 | true=>
  simp only[go_sem];refine aa4 fok47 (hb) ?_
  cases bg8 b with
  | false=>simp only[go_sem];exact ab6 rfl
  | true=>
   by_cases h:a=b
   ·simp only[go_sem,h];exact ab6 (by simp)
   ·simp only[go_sem,h];exact ab6 (by simp[h])
theorem gf1 (a b:Int):Pq 148 [.int .u8 a,.int .u8 b] (.bool (av7 a b)):=by
 refine af4 hE fok148 (nZ rfl) (ah6 (.int _ _) (.int _ _)) ?_;have ha:=az8 a;have hb:=az8 b;have hc:=fm4 a b;simp only[ic148,go_sem];refine aa4 fok82 (ha) ?_;unfold av7
 cases ak6 a with
 | false=>simp only[go_sem];exact ab6 rfl
 | true=>
  simp only[go_sem];refine aa4 fok82 (hb) ?_
  cases ak6 b with
  | false=>simp only[go_sem];exact ab6 rfl
  | true=>
   simp only[go_sem];refine aa4 fok176 (hc) ?_;simp only[go_sem];exact ab6 (by simp)
def iu7:List IV:=[.int .i64 0,.int .i64 0,.int .i64 0,.int .i64 0,.int .i64 0,.int .i64 0,.int .i64 0,.int .i64 0,.int .i64 0,.int .i64 0,.int .i64 0,.int .i64 2,.int .i64 1,.int .i64 3,.int .i64 0,.int .i64 0,.int .i64 2,.int .i64 0,.int .i64 1,.int .i64 0,.int .i64 0,.int .i64 2,.int .i64 0,.int .i64 0,.int .i64 1]
theorem gz2:Pq 235 [] (.agg iu7):=by
 refine af4 hE fok235 (nZ rfl) (λa h=>by cases h) ?_;simp only[ic235,go_sem];exact .keep _ (ax4 10 _ (by kernel_rfl))
theorem jf8 (m a:Int)(h1:ak6 m=true)(h2:ak6 a=true):Pq 207 [.int .u8 m,.int .u8 a] (.int .i64 (az5 m a)):=by
 unfold ak6 at h1 h2;simp only[Bool.and_eq_true,decide_eq_true_eq] at h1 h2;have hm:m=1\/m=2\/m=3\/m=4:=om;have ha:a=1\/a=2\/a=3\/a=4:=om;rcases hm with rfl|rfl|rfl|rfl<;>rcases ha with rfl|rfl|rfl|rfl
 all_goals
  refine af4 hE fok207 (nZ rfl) (ah6 (.int _ _) (.int _ _)) ?_;simp only[ic207,go_sem];refine aa4 fok82 (az8 _) ?_;simp only[go_sem,ak6];refine aa4 fok82 (az8 _) ?_;simp only[go_sem,ak6];refine aa4 fok235 (gz2) ?_;simp only[go_sem,iu7,List.drop_succ_cons,qn,List.getElem?_cons_succ,List.getElem?_cons_zero];exact .keep _ (.int _ _)
theorem fm5 (m a:Int)(h:ak6 m=false\/ak6 a=false):az5 m a=0:=by
 unfold ak6 at h;simp only[Bool.and_eq_false_iff,decide_eq_false_iff_not] at h;unfold az5
 repeat' split
 all_goals first|rfl|omega
theorem ik1 (m a:Int):Pq 207 [.int .u8 m,.int .u8 a] (.int .i64 (az5 m a)):=by
 have hm:=az8 m;have ha:=az8 a
 cases h1:ak6 m with
 | false=>
  rw[fm5 m a (.inl h1)];refine af4 hE fok207 (nZ rfl) (ah6 (.int _ _) (.int _ _)) ?_;rw[h1] at hm;simp only[ic207,go_sem];refine aa4 fok82 (hm) ?_;simp only[go_sem]
  exact bn2 rfl
 | true=>
  cases h2:ak6 a with
  | false=>
   rw[fm5 m a (.inr h2)];refine af4 hE fok207 (nZ rfl) (ah6 (.int _ _) (.int _ _)) ?_;rw[h1] at hm;rw[h2] at ha;simp only[ic207,go_sem];refine aa4 fok82 (hm) ?_;simp only[go_sem];refine aa4 fok82 (ha) ?_;simp only[go_sem]
   exact bn2 rfl
  | true=>exact jf8 m a h1 h2
theorem jf9 (m a:Int):Pq 175 [.int .u8 m,.int .u8 a] (.bool (if3 m a)):=by
 refine af4 hE fok175 (nZ rfl) (ah6 (.int _ _) (.int _ _)) ?_;have h:=ik1 m a;simp only[ic175,go_sem];refine aa4 fok207 (h) ?_;simp only[go_sem];exact ab6 rfl
def ik2 (k:Int):List IV:=[.int .i64 (asks k).1,.int .i64 (asks k).2.1,.bool (asks k).2.2.1,.int .u8 (asks k).2.2.2]
theorem gf2 (k:Int)(h1:0<=k)(h2:k<256):Pq 171 [.int .u8 k] (.agg (ik2 k)):=by
 have w:=wrap64 (x:=k) om om;by_cases h8:8<=k
 ·refine af4 hE fok171 (nZ rfl) (λa h=>by cases h with|head=>exact .int _ _|tail _ h=>cases h) ?_;simp only[ic171,go_sem,w,h8]
  have:ik2 k=[.int .i64 0,.int .i64 0,.bool false,.int .u8 0]:=by
   unfold ik2 asks;rw[if_neg om,if_neg om,if_neg om,if_neg om,if_neg om,if_neg om,if_neg om];rfl
  rw[this];exact .keep _ (ax4 10 _ (by kernel_rfl))
 ·have:k=0\/k=1\/k=2\/k=3\/k=4\/k=5\/k=6\/k=7:=om;rcases this with rfl|rfl|rfl|rfl|rfl|rfl|rfl|rfl
  all_goals
   refine af4 hE fok171 (nZ rfl) (λa h=>by cases h with|head=>exact .int _ _|tail _ h=>cases h) ?_;simp only[ic171,go_sem,w];exact .keep _ (ax4 10 _ (by kernel_rfl))
theorem gz3 (d:Dep):∀c∈d.cs,Bnd 0 c:=by
 intro c hc;simp only[Dep.cs,zp,zn,or_false] at hc;rcases hc with rfl|rfl|rfl|rfl|rfl<;>first|exact .str _|exact .int _ _
theorem fm6 (r:aa6):∀c∈r.cs,Bnd 0 c:=by
 induction r using aa6.ind with
 | h k d xs ih=>
  intro c hc;rw[aa6.ax5] at hc;simp only[zp,zn,or_false] at hc;rcases hc with rfl|rfl|rfl|rfl|rfl|rfl|rfl<;>first|exact .str _|exact .int _ _|skip
  refine .aa3 _ λe he c hc=>?_
  obtain ⟨a,ha,rfl⟩:=zd.1 he;exact ih a ha c hc
theorem bd8 (r:aa6):Bnd 0 (.agg r.cs):=.agg _ (fm6 r)
theorem ae6 (r:aa6):r.cs.length=7:=by rw[aa6.ax5];rfl
theorem af3 {P:IV->Prop}{v:IV}(h:P v):∀a∈[v],P a:=λa ha=>by
 cases ha with
 | head=>exact h
 | tail _ h=>cases h
theorem fb5 (a:aa6)(xs:List aa6):aa6.bf4 (a::xs)=max a.depth (aa6.bf4 xs):=by simp only[aa6.bf4]
theorem jg1 (n m:Nat):(if (m:Int)>(n:Int) then (m:Int) else n)=((max n m:Nat):Int):=by
 split<;>omega
theorem ee4 (r:aa6):r.fit->r.depth<2^62->Pq 169 [.agg r.cs] (.int .i64 r.depth):=by
 induction r using aa6.ind with
 | h k d xs ih=>
  intro hf hd;obtain ⟨f1,f2,f3,f4,f5⟩:=aa6.ce3.1 hf;refine af4 hE fok169 (nZ rfl) (af3 (bd8 _)) ?_;rw[aa6.ax5];by_cases hk:k=1
  ·simp only[ic169,go_sem,aa6.kind,aa6.depth,hk];exact ad5 _ _
  ·simp only[aa6.depth,hk,if_false] at hd;simp only[ic169,go_sem,aa6.kind,aa6.depth,hk];refine ab1 noT (λi fr σ=>∃n:Nat,fr=[(3,.int .i64 n),(10,.aa3 (xs.map aa6.cs)),(11,.int .i64 xs.length),(12,.int .i64 i)]/\max n (aa6.bf4 (xs.drop i))=aa6.bf4 xs) xs.length ⟨0,rfl,by simp⟩ ?_;rintro i fr σ hi ⟨n,rfl,hn⟩;by_cases hlt:i<xs.length
   ·obtain ⟨a,ha,_,hdr,hget,_⟩:=ad2 xs i hlt;have c1:(i:Int)<xs.length:=om;have c2:(0:Int)<=i:=om;have w1:=ac3 (i:=i) om;rw[hdr,fb5] at hn;have hl:a.cs.all IV.leaf=true:=by rw[aa6.ax5];rfl
    have ht:a.cs.take 7=a.cs:=zc (by rw[ae6];exact za _);simp only[go_sem,c1,c2,hget,ae6,ht,hl,aa6.args,qn];refine aa4 fok169 (ih a ha (f5 a ha) om) ?_;simp only[go_sem,ir7,ek9,jg1,w1];exact ⟨hlt,max n a.depth,rfl,by rw[<- hn];omega⟩
   ·have hi':i=xs.length:=om;subst hi';have c1:¬(xs.length:Int)<xs.length:=om;simp only[ze,aa6.bf4,Nat.max_zero] at hn;subst hn;have w1:=ac3 (i:=aa6.bf4 xs) om;simp only[go_sem,c1,w1];exact ad5 _ _
def row (p:aa6×Bool):List IV:=[.agg p.1.cs,.bool p.2]
def evs (r:aa6)(al:Bool):List (List IV):=(r.parts al).map row
def ep1 (xs:List aa6)(al:Bool):List (List IV):=(aa6.bi9 xs al).map row
theorem jv2 (k:Int)(d:Dep)(xs:List aa6)(al:Bool):evs (.mk k d xs) al=[.agg (aa6.mk k d xs).cs,.bool al]::ep1 xs (al||decide (k=6)||decide (k=7)):=by
 simp only[evs,ep1,aa6.parts,zz,row]
theorem cg9 (a:aa6)(xs:List aa6)(al:Bool):ep1 (a::xs) al=evs a al++ep1 xs al:=by
 simp only[evs,ep1,aa6.bi9,zv]
def boxed (b:Nat)(s:Store):Prop:=b<s.next/\s.obj b=zh (.cells [.func (.func 204) [] [.ptr b 0]])
theorem jv3 (r:aa6):r.fit->∀(al:Bool) (rest:List (List IV)) (b yid:Nat) (I:List (List IV)->Store->Prop) (S:Store->Prop) (σ:Store),(∀rest s,I rest s->boxed b s)->jz8 I->hz7 Tryz.prog EE yid I S ->
  I (evs r al++rest) σ->Cq 204 [.agg r.cs,.bool al,.yield yid,.ptr b 0] σ λv s=>σ.next<=s.next/\((v=.bool true/\I rest s)\/(v=.bool false/\S s)):=by
 induction r using aa6.ind with
 | h k d xs ih=>
  intro hf al rest b yid I S σ hown hstab hy hi;obtain ⟨f1,f2,f3,f4,f5⟩:=aa6.ce3.1 hf;refine C_f fok204 (nZ rfl) ?_;rw[jv2,List.cons_append,aa6.ax5] at hi;rw[aa6.ax5];simp only[ic204,go_sem,aa6.kind,aa6.dep,aa6.args] at hi ⊢;refine cw5 hy hi (λs hn hi=>?_) (λs hn hs=>?_)
  ·have H:(al=true)\/(al=false/\k=6)\/(al=false/\¬k=6/\k=7)\/(al=false/\¬k=6/\¬k=7):=by
    cases al<;>by_cases h6:k=6<;>by_cases h7:k=7<;>simp[h6,h7]
   rcases H with h1|⟨h1,h2⟩|⟨h1,h2,h3⟩|⟨h1,h2,h3⟩
   ·have hA:(al||decide (k=6)||decide (k=7))=true:=by simp[h1]
    rw[hA] at hi;simp only[go_sem,h1];refine ab1 noT (λi fr t=>fr=[(1,.bool true),(2,.yield yid),(3,.ptr b 0),(27,.aa3 (xs.map aa6.cs)),(28,.int .i64 xs.length),(29,.int .i64 i)]/\I (ep1 (xs.drop i) true++rest) t/\σ.next<=t.next) xs.length ⟨rfl,hi,hn⟩ ?_;rintro i fr t hle ⟨rfl,hi,hn⟩;by_cases hlt:i<xs.length
    ·obtain ⟨a,ha,_,hdr,hget,_⟩:=ad2 xs i hlt;have c1:(i:Int)<xs.length:=om;have c2:(0:Int)<=i:=om;have w1:=ac3 (i:=i) om;have hl:a.cs.all IV.leaf=true:=by rw[aa6.ax5];rfl
     have ht:a.cs.take 7=a.cs:=zc (by rw[ae6];exact za _);obtain ⟨hb1,hb2⟩:=hown _ _ hi;have hb3:¬b=t.next:=om;simp only[go_sem,c1,c2,hget,ae6,ht,hl,hb2,hb3];rw[hdr,cg9,zq] at hi;refine ac4 fok204 (ih a ha (f5 a ha) true (ep1 (xs.drop (i+1)) true++rest) b yid I S _ hown hstab hy (hstab _ _ _ hi (zy _) (λj hj=>?_))) ?_
     ·have:¬j=t.next:=om;simp only[aa5,this,if_false]
     ·rintro v s2 ⟨hn2,⟨rfl,hi2⟩|⟨rfl,hs2⟩⟩
      ·refine ⟨hn2,?_⟩;have hn3:t.next+1<=s2.next:=hn2;simp only[go_sem,w1];exact ⟨hlt,hi2,om⟩
      ·refine ⟨hn2,?_⟩;have hn3:t.next+1<=s2.next:=hn2;simp only[go_sem];exact ⟨om,.inr hs2⟩
    ·have hi':i=xs.length:=om;subst hi';have c1:¬(xs.length:Int)<xs.length:=om;simp only[ze,ep1,aa6.bi9,zm,z8] at hi;simp only[go_sem,c1];exact ⟨hn,.inl hi⟩
   ·have hA:(al||decide (k=6)||decide (k=7))=true:=by simp[h1,h2]
    rw[hA] at hi;simp only[go_sem,h1,h2];refine ab1 noT (λi fr t=>fr=[(1,.bool true),(2,.yield yid),(3,.ptr b 0),(27,.aa3 (xs.map aa6.cs)),(28,.int .i64 xs.length),(29,.int .i64 i)]/\I (ep1 (xs.drop i) true++rest) t/\σ.next<=t.next) xs.length ⟨rfl,hi,hn⟩ ?_;rintro i fr t hle ⟨rfl,hi,hn⟩;by_cases hlt:i<xs.length
    ·obtain ⟨a,ha,_,hdr,hget,_⟩:=ad2 xs i hlt;have c1:(i:Int)<xs.length:=om;have c2:(0:Int)<=i:=om;have w1:=ac3 (i:=i) om;have hl:a.cs.all IV.leaf=true:=by rw[aa6.ax5];rfl
     have ht:a.cs.take 7=a.cs:=zc (by rw[ae6];exact za _);obtain ⟨hb1,hb2⟩:=hown _ _ hi;have hb3:¬b=t.next:=om;simp only[go_sem,c1,c2,hget,ae6,ht,hl,hb2,hb3];rw[hdr,cg9,zq] at hi;refine ac4 fok204 (ih a ha (f5 a ha) true (ep1 (xs.drop (i+1)) true++rest) b yid I S _ hown hstab hy (hstab _ _ _ hi (zy _) (λj hj=>?_))) ?_
     ·have:¬j=t.next:=om;simp only[aa5,this,if_false]
     ·rintro v s2 ⟨hn2,⟨rfl,hi2⟩|⟨rfl,hs2⟩⟩
      ·refine ⟨hn2,?_⟩;have hn3:t.next+1<=s2.next:=hn2;simp only[go_sem,w1];exact ⟨hlt,hi2,om⟩
      ·refine ⟨hn2,?_⟩;have hn3:t.next+1<=s2.next:=hn2;simp only[go_sem];exact ⟨om,.inr hs2⟩
    ·have hi':i=xs.length:=om;subst hi';have c1:¬(xs.length:Int)<xs.length:=om;simp only[ze,ep1,aa6.bi9,zm,z8] at hi;simp only[go_sem,c1];exact ⟨hn,.inl hi⟩
   ·have hA:(al||decide (k=6)||decide (k=7))=true:=by simp[h1,h2,h3,show ¬((7:Int)=6) from by omega]
    rw[hA] at hi;simp only[go_sem,h1,h2,h3,show ¬((7:Int)=6) from by omega];refine ab1 noT (λi fr t=>fr=[(1,.bool true),(2,.yield yid),(3,.ptr b 0),(27,.aa3 (xs.map aa6.cs)),(28,.int .i64 xs.length),(29,.int .i64 i)]/\I (ep1 (xs.drop i) true++rest) t/\σ.next<=t.next) xs.length ⟨rfl,hi,hn⟩ ?_;rintro i fr t hle ⟨rfl,hi,hn⟩;by_cases hlt:i<xs.length
    ·obtain ⟨a,ha,_,hdr,hget,_⟩:=ad2 xs i hlt;have c1:(i:Int)<xs.length:=om;have c2:(0:Int)<=i:=om;have w1:=ac3 (i:=i) om;have hl:a.cs.all IV.leaf=true:=by rw[aa6.ax5];rfl
     have ht:a.cs.take 7=a.cs:=zc (by rw[ae6];exact za _);obtain ⟨hb1,hb2⟩:=hown _ _ hi;have hb3:¬b=t.next:=om;simp only[go_sem,c1,c2,hget,ae6,ht,hl,hb2,hb3];rw[hdr,cg9,zq] at hi;refine ac4 fok204 (ih a ha (f5 a ha) true (ep1 (xs.drop (i+1)) true++rest) b yid I S _ hown hstab hy (hstab _ _ _ hi (zy _) (λj hj=>?_))) ?_
     ·have:¬j=t.next:=om;simp only[aa5,this,if_false]
     ·rintro v s2 ⟨hn2,⟨rfl,hi2⟩|⟨rfl,hs2⟩⟩
      ·refine ⟨hn2,?_⟩;have hn3:t.next+1<=s2.next:=hn2;simp only[go_sem,w1];exact ⟨hlt,hi2,om⟩
      ·refine ⟨hn2,?_⟩;have hn3:t.next+1<=s2.next:=hn2;simp only[go_sem];exact ⟨om,.inr hs2⟩
    ·have hi':i=xs.length:=om;subst hi';have c1:¬(xs.length:Int)<xs.length:=om;simp only[ze,ep1,aa6.bi9,zm,z8] at hi;simp only[go_sem,c1];exact ⟨hn,.inl hi⟩
   ·have hA:(al||decide (k=6)||decide (k=7))=false:=by simp[h1,h2,h3]
    rw[hA] at hi;simp only[go_sem,h1,h2,h3];refine ab1 noT (λi fr t=>fr=[(1,.bool false),(2,.yield yid),(3,.ptr b 0),(27,.aa3 (xs.map aa6.cs)),(28,.int .i64 xs.length),(29,.int .i64 i)]/\I (ep1 (xs.drop i) false++rest) t/\σ.next<=t.next) xs.length ⟨rfl,hi,hn⟩ ?_;rintro i fr t hle ⟨rfl,hi,hn⟩;by_cases hlt:i<xs.length
    ·obtain ⟨a,ha,_,hdr,hget,_⟩:=ad2 xs i hlt;have c1:(i:Int)<xs.length:=om;have c2:(0:Int)<=i:=om;have w1:=ac3 (i:=i) om;have hl:a.cs.all IV.leaf=true:=by rw[aa6.ax5];rfl
     have ht:a.cs.take 7=a.cs:=zc (by rw[ae6];exact za _);obtain ⟨hb1,hb2⟩:=hown _ _ hi;have hb3:¬b=t.next:=om;simp only[go_sem,c1,c2,hget,ae6,ht,hl,hb2,hb3];rw[hdr,cg9,zq] at hi;refine ac4 fok204 (ih a ha (f5 a ha) false (ep1 (xs.drop (i+1)) false++rest) b yid I S _ hown hstab hy (hstab _ _ _ hi (zy _) (λj hj=>?_))) ?_
     ·have:¬j=t.next:=om;simp only[aa5,this,if_false]
     ·rintro v s2 ⟨hn2,⟨rfl,hi2⟩|⟨rfl,hs2⟩⟩
      ·refine ⟨hn2,?_⟩;have hn3:t.next+1<=s2.next:=hn2;simp only[go_sem,w1];exact ⟨hlt,hi2,om⟩
      ·refine ⟨hn2,?_⟩;have hn3:t.next+1<=s2.next:=hn2;simp only[go_sem];exact ⟨om,.inr hs2⟩
    ·have hi':i=xs.length:=om;subst hi';have c1:¬(xs.length:Int)<xs.length:=om;simp only[ze,ep1,aa6.bi9,zm,z8] at hi;simp only[go_sem,c1];exact ⟨hn,.inl hi⟩
  ·simp only[go_sem];exact ⟨hn,.inr hs⟩
theorem dv6 (r:aa6)(hf:r.fit)(b:Nat):fg1 Tryz.prog EE (.func (.func 205) [] [.ptr b 0,.ab8 r.cs]) (evs r false) (boxed b):=by
 intro yid I S σ hown hstab hy hi;refine ⟨fok205.1,?_⟩;refine C_f fok205 (nZ rfl) ?_;obtain ⟨hb1,hb2⟩:=hown _ _ hi;have ht:r.cs.take 7=r.cs:=zc (by rw[ae6];exact za _);simp only[ic205,go_sem,hb2,ht,ae6];refine ac4 fok204 (jv3 r hf false [] b yid I S σ hown hstab hy (by rw[List.append_nil];exact hi)) ?_;rintro v s ⟨hn,h⟩;refine ⟨hn,?_⟩;simp only[go_sem];refine ⟨hn,?_⟩;rcases h with ⟨_,h⟩|⟨_,h⟩
 ·exact .inl h
 ·exact .inr h
theorem gz4 (r:aa6)(σ:Store):Cq 170 [.agg r.cs] σ λv s=>v=.func (.func 205) [] [.ptr σ.next 0,.ab8 r.cs]/\boxed σ.next s/\σ.next<=s.next/\∀i,i<σ.next->s.obj i=σ.obj i:=by
 refine C_f fok170 (nZ rfl) ?_;have hl:r.cs.all IV.leaf=true:=by rw[aa6.ax5];rfl
 simp only[ic170,go_sem,hl];refine ⟨⟨z6 _,?_⟩,zy _,λi hi=>?_⟩
 ·simp only[aa5,if_true]
 ·have:¬i=σ.next:=om;simp only[aa5,this,if_false]
theorem aa6.gz5 (r:aa6):∀al,(r.parts al).length=r.count:=by
 induction r using aa6.ind with
 | h k d xs ih=>
  intro al;simp only[aa6.parts,aa6.count,zo];congr 1;generalize (al||decide (k=6)||decide (k=7))=al';clear al
  induction xs with
  | nil=>rfl
  | cons a xs ih'=>
   simp only[aa6.bi9,aa6.counts,zg];rw[ih a (zl ..),ih' (λb hb=>ih b (zk _ hb))]
theorem fb6 {r:aa6}{al:Bool}:∀a∈evs r al,a.length=2:=λa ha=>by
 obtain ⟨p,_,rfl⟩:=zd.1 ha;rfl
theorem jg2 (r:aa6)(al:Bool):(evs r al).length=r.count:=by rw[evs,zb,aa6.gz5]
theorem ch1 (r:aa6)(hf:r.fit)(hc:r.count<2^62):Pq 138 [.agg r.cs] (.int .i64 r.count):=by
 refine af4 hE fok138 (nZ rfl) (af3 (bd8 _)) ?_;have hl:r.cs.all IV.leaf=true:=by rw[aa6.ax5];rfl
 have ht:r.cs.take 7=r.cs:=zc (by rw[ae6];exact za _);simp only[ic138,go_sem,hl,ht,ae6];refine ac4 fok170 (gz4 r _) ?_;rintro v s1 ⟨rfl,hb,hn,hs⟩;refine ⟨hn,?_⟩;simp only[go_sem] at hn hs hb ⊢;have h0:s1.obj 0=zh (.cells [.int .i64 0]):=by rw[hs 0 om];rfl
 have hb2:=hb.1;refine dy8 (dv6 r hf 1) (λrest s=>boxed 1 s/\∃n:Nat,s.obj 0=zh (.cells [.int .i64 n])/\n+rest.length=r.count) (λ_ _ h=>h.1) ?_ fb6 ?_ ?_ ?_
 ·rintro rest s s' ⟨⟨q1,q2⟩,n,q3,q4⟩ hn' hs';exact ⟨⟨om,by rw[hs' 1 q1];exact q2⟩,n,by rw[hs' 0 om];exact q3,q4⟩
 ·intro o;have e0:¬0=s1.next:=om;have e1:¬1=s1.next:=om;exact ⟨⟨by show 1<s1.next+1;omega,by simp only[aa5,e1,if_false];exact hb.2⟩,0,by simp only[aa5,e0,if_false];exact h0,by rw[jg2];omega⟩
 ·rintro L pre a rest s hev ⟨⟨q1,q2⟩,n,q3,q4⟩ hL hlt;have ha:=fb6 (r:=r) (al:=false) a (by rw[hev];simp)
  match a,ha with
  | [x,y],_=>
   have e0:¬0=s1.next:=om;have e1:¬s1.next=0:=om;have e2:¬1=s1.next:=om;simp only[zo] at q4;have w1:=ac3 (i:=n) om;have e3:¬s1.next=1:=om;simp only[go_sem,hL,e0,q3,e1,w1];refine eu9 (za _) ?_ ⟨⟨q1,?_⟩,n+1,?_,om⟩
   ·simp only[aa5,if_true]
   ·have:¬1=0:=om;simp only[aa5,e2,this,if_false];exact q2
   ·simp only[aa5,e0,if_false,if_true]
 ·rintro s o ⟨⟨q1,q2⟩,n,q3,q4⟩ hlt ho;have e0:¬0=s1.next:=om;have:n=r.count:=by simpa using q4
  subst this;simp only[go_sem,e0,q3];exact ad5 _ _
theorem gz6 (r:aa6):r.fit->∀al,∀p∈r.parts al,p.1.fit:=by
 induction r using aa6.ind with
 | h k d xs ih=>
  intro hf al p hp;simp only[aa6.parts,zp] at hp;rcases hp with rfl|hp
  ·exact hf
  ·have hx:=(aa6.ce3.1 hf).2.2.2.2;clear hf;generalize (al||decide (k=6)||decide (k=7))=al' at hp
   induction xs with
   | nil=>simp[aa6.bi9] at hp
   | cons a xs ih'=>
    simp only[aa6.bi9,qk] at hp;rcases hp with hp|hp
    ·exact ih a (zl ..) (hx a (zl ..)) _ p hp
    ·exact ih' (λb hb=>ih b (zk _ hb)) (λb hb=>hx b (zk _ hb)) hp
theorem ik3 (r:aa6):r.depth<=r.count:=by
 induction r using aa6.ind with
 | h k d xs ih=>
  simp only[aa6.depth,aa6.count];split
  ·omega
  ·apply Nat.succ_le_succ
   induction xs with
   | nil=>simp[aa6.bf4]
   | cons a xs ih'=>
    simp only[aa6.bf4,aa6.counts];have h1:=ih a (zl ..);have h2:=ih' (λb hb=>ih b (zk _ hb));omega
theorem df8 (r:aa6)(wh:Int)(hf:r.fit)(hc:r.count<2^62):Pq 121 [.agg r.cs,.int .u8 wh] (.int .i64 (ao3 r wh)):=by
 refine af4 hE fok121 (nZ rfl) (λa ha=>by
  cases ha with
  | head=>exact bd8 _
  | tail _ ha=>cases ha with
   | head=>exact .int _ _
   | tail _ ha=>cases ha) ?_
 have hl:r.cs.all IV.leaf=true:=by rw[aa6.ax5];rfl
 have ht:r.cs.take 7=r.cs:=zc (by rw[ae6];exact za _);have hdl:=ik3 r;by_cases a1:wh<1
 ·simp only[ic121,go_sem,hl,a1,ao3];exact ad5 _ _
 by_cases a2:3<wh
 ·simp only[ic121,go_sem,hl,a1,a2,ao3];exact ad5 _ _
 simp only[ic121,go_sem,hl,a1,a2,ht,ae6];refine aa4 fok138 (ch1 r hf hc) ?_;by_cases a3:24<r.count
 ·have c3:(24:Int)<r.count:=om;simp only[go_sem,c3,ao3,a1,a2,a3,or_self];exact ad5 _ _
 have c3:¬(24:Int)<r.count:=om;simp only[go_sem,c3,ht,ae6];refine aa4 fok169 (ee4 r hf om) ?_;by_cases a4:8<r.depth
 ·have c4:(8:Int)<r.depth:=om;simp only[go_sem,c4,ao3,a1,a2,a3,a4,or_self];exact ad5 _ _
 have c4:¬(8:Int)<r.depth:=om;simp only[go_sem,c4,ht,ae6]
 have hres:ao3 r wh=if (r.parts false).all (λp=>ai5 wh p.1 p.2)=true then 0 else 4:=by
  simp only[ao3,a1,a2,a3,a4,or_self,if_false]
 rw[hres];generalize hS:(Store.mk _ _)=s0;refine ac4 fok170 (gz4 r _) ?_;rintro v s1 ⟨rfl,hb,hn,hs⟩;have g0:s0.next=1:=by subst hS;simp only
 have g1:s0.obj 0=zh (.cells [.int .i64 0]):=by subst hS;simp only[aa5,if_true]
 refine ⟨hn,?_⟩;rw[g0] at hb hn hs;have hb2:=hb.1;have h0:s1.obj 0=zh (.cells [.int .i64 0]):=by rw[hs 0 om,g1]
 have e0:¬0=s1.next:=om;have e1:¬s1.next=0:=om;have e2:¬1=s1.next:=om;simp only[go_sem,g0];refine dy8 (dv6 r hf 1) (λrest s=>(boxed 1 s/\s.obj 0=zh (.cells [.int .i64 0]))/\∃ps:List (aa6×Bool),rest=ps.map row/\(∀p∈ps,p.1.fit)/\(r.parts false).all (λp:aa6×Bool=>ai5 wh p.1 p.2)=ps.all (λp:aa6×Bool=>ai5 wh p.1 p.2)) (λ_ _ h=>h.1.1) ?_ fb6 ?_ ?_ ?_
 ·rintro rest s s' ⟨⟨⟨q1,q2⟩,q3⟩,q4⟩ hn' hs';exact ⟨⟨⟨om,by rw[hs' 1 q1];exact q2⟩,by rw[hs' 0 om];exact q3⟩,q4⟩
 ·intro o;exact ⟨⟨⟨by show 1<s1.next+1;omega,by simp only[aa5,e2,if_false];exact hb.2⟩,by simp only[aa5,e0,if_false];exact h0⟩,_,rfl,gz6 r hf false,rfl⟩
 ·rintro L pre a rest s hev ⟨⟨⟨q1,q2⟩,q3⟩,ps,hps,hfp,hall⟩ hL hlt
  cases ps with
  | nil=>cases hps
  | cons p ps=>
   obtain ⟨⟨k,d,xs⟩,al⟩:=p;simp only[zz,List.cons.injEq] at hps;obtain ⟨rfl,rfl⟩:=hps;obtain ⟨f1,f2,f3,f4,f5⟩:=aa6.ce3.1 (hfp _ (zl ..));have hfp':∀p∈ps,p.1.fit:=λp hp=>hfp p (zk _ hp)
   simp only[qf] at hall;have u0:¬0=s.next:=om;have u1:¬s1.next=s.next:=om;have u2:¬s.next=s1.next:=om;have u3:¬0=s.next+1:=om;have u4:¬s1.next=s.next+1:=om;have u5:¬s.next=s.next+1:=om;simp only[row,aa6.ax5,aa6.kind,aa6.dep,aa6.args,go_sem,hL,q3,e0,e1,u0,u1,u2,u3,u4,u5];have u6:¬s.next+1=s1.next:=om;have u7:¬s.next+1=s.next:=om;have u8:¬s.next+1=0:=om;have u9:¬s.next=0:=om;have u10:¬1=s.next:=om;have u11:¬1=s.next+1:=om;refine aa4 fok171 (gf2 k f1 f2) ?_;simp only[go_sem,ik2,q3,e0,e1,u0,u3,e2,u1,u2,u4,u5,u6,u7,u8,u9,u10,u11];have hstop:∀ok:Bool,ai5 wh (.mk k d xs) al=ok->ai5 wh (.mk k d xs) al=ok:=λ_ h=>h
   by_cases b1:((asks k).2.2.2:Int)<wh
   ·have hok:ai5 wh (.mk k d xs) al=false:=by simp[ai5,aa6.kind,b1]
    simp only[go_sem,b1,q3,e0,e1,u0,u3,e2,u1,u2,u4,u5,u6,u7,u8,u9,u10,u11]
    (refine dc3 (by simp only[aa8];omega) (by simp only[aa5,if_true]) ?_;simp only[go_sem,e2,u1,u2,u4,u5,u6,u7,u8,u9,u10,u11,e0,u0,u3];rw[hall,hok];exact ad5 _ _)
   by_cases b2:(al=true/\(asks k).2.2.1=false)
   ·have hok:ai5 wh (.mk k d xs) al=false:=by simp[ai5,aa6.kind,b2.1,b2.2]
    simp only[go_sem,b1,b2.1,b2.2,q3,e0,e1,u0,u3,e2,u1,u2,u4,u5,u6,u7,u8,u9,u10,u11]
    (refine dc3 (by simp only[aa8];omega) (by simp only[aa5,if_true]) ?_;simp only[go_sem,e2,u1,u2,u4,u5,u6,u7,u8,u9,u10,u11,e0,u0,u3];rw[hall,hok];exact ad5 _ _)
   have hb2:(al&&!(asks k).2.2.1)=false:=by
    cases al<;>cases hx:(asks k).2.2.1<;>simp_all
   have hal:(al=false)\/(al=true/\(asks k).2.2.1=true):=by
    cases al<;>cases hx:(asks k).2.2.1<;>simp_all
   have hdd:decide (d=di2)=(decide (d.name=[])&&(decide (d.op=0)&&(decide (d.evr.am4=0)&&(decide (d.evr.ver=[])&&decide (d.evr.rel=[]))))):=by
    obtain ⟨n,o,e,v,r⟩:=d;simp only[di2,hp5,Dep.mk.injEq,EVR.mk.injEq,qm]
   have hpart:ai5 wh (.mk k d xs) al=(!(decide (((asks k).2.2.2:Int)<wh)||al&&!(asks k).2.2.1||decide (xs.length<(asks k).1)||decide ((asks k).2.1<xs.length))&&(if k=1 then am2 d else decide (d=di2))):=rfl;have hdc:=cg8 d f3.1 f3.2.1 f3.2.2;rcases hal with h1|⟨h1,h2⟩
   ·by_cases b3:xs.length<(asks k).1
    ·have c3:(xs.length:Int)<(asks k).1:=om;have hok:ai5 wh (.mk k d xs) al=false:=by simp[ai5,aa6.kind,aa6.args,b3]
     simp only[go_sem,b1,h1,c3,q3,e0,e1,u0,u3,e2,u1,u2,u4,u5,u6,u7,u8,u9,u10,u11]
     (refine dc3 (by simp only[aa8];omega) (by simp only[aa5,if_true]) ?_;simp only[go_sem,e2,u1,u2,u4,u5,u6,u7,u8,u9,u10,u11,e0,u0,u3];rw[hall,hok];exact ad5 _ _)
    have c3:¬(xs.length:Int)<(asks k).1:=om;by_cases b4:(asks k).2.1<xs.length
    ·have c4:((asks k).2.1:Int)<xs.length:=om;have hok:ai5 wh (.mk k d xs) al=false:=by simp[ai5,aa6.kind,aa6.args,b4]
     simp only[go_sem,b1,h1,c3,c4,q3,e0,e1,u0,u3,e2,u1,u2,u4,u5,u6,u7,u8,u9,u10,u11]
     (refine dc3 (by simp only[aa8];omega) (by simp only[aa5,if_true]) ?_;simp only[go_sem,e2,u1,u2,u4,u5,u6,u7,u8,u9,u10,u11,e0,u0,u3];rw[hall,hok];exact ad5 _ _)
    have c4:¬((asks k).2.1:Int)<xs.length:=om;by_cases hk:k=1
    ·have hkd:decide (k=1)=true:=decide_eq_true hk;simp only[go_sem,b1,h1,c3,c4,hkd,q3,e0,e1,u0,u3,e2,u1,u2,u4,u5,u6,u7,u8,u9,u10,u11,ce1];refine aa4 fok50 hdc ?_
     cases hd:am2 d with
     | false=>
      have hok:ai5 wh (.mk k d xs) al=false:=by simp[ai5,aa6.kind,aa6.args,aa6.dep,hk,hd]
      simp only[go_sem,q3,e0,e1,u0,u3,e2,u1,u2,u4,u5,u6,u7,u8,u9,u10,u11]
      (refine dc3 (by simp only[aa8];omega) (by simp only[aa5,if_true]) ?_;simp only[go_sem,e2,u1,u2,u4,u5,u6,u7,u8,u9,u10,u11,e0,u0,u3];rw[hall,hok];exact ad5 _ _)
     | true=>
      have hok:ai5 wh (.mk k d xs) al=true:=by
       rw[hpart,decide_eq_false b1,hb2,decide_eq_false b3,decide_eq_false b4,if_pos hk,hd];rfl
      simp only[go_sem,hkd,q3,e0,e1,u0,u3,e2,u1,u2,u4,u5,u6,u7,u8,u9,u10,u11]
      (refine eu9 (by simp only[aa8];omega) (by simp only[aa5,if_true]) ⟨⟨⟨by simp only[aa8];omega,by simp only[aa5,e2,u1,u2,u4,u5,u6,u7,u8,u9,u10,u11,if_false];exact q2⟩,by simp only[aa5,e0,u0,u3,if_false];exact q3⟩,ps,rfl,hfp',by rw[hall,hok,zi]⟩)
    ·simp only[go_sem,b1,h1,c3,c4,hk,q3,e0,e1,u0,u3,e2,u1,u2,u4,u5,u6,u7,u8,u9,u10,u11,ce1];rw[<- hdd];by_cases hd:d=di2
     ·have hok:ai5 wh (.mk k d xs) al=true:=by
       rw[hpart,decide_eq_false b1,hb2,decide_eq_false b3,decide_eq_false b4,if_neg hk,decide_eq_true hd];rfl
      have hd1:decide (d=di2)=true:=decide_eq_true hd;simp only[go_sem,hd1,q3,e0,e1,u0,u3,e2,u1,u2,u4,u5,u6,u7,u8,u9,u10,u11]
      (refine eu9 (by simp only[aa8];omega) (by simp only[aa5,if_true]) ⟨⟨⟨by simp only[aa8];omega,by simp only[aa5,e2,u1,u2,u4,u5,u6,u7,u8,u9,u10,u11,if_false];exact q2⟩,by simp only[aa5,e0,u0,u3,if_false];exact q3⟩,ps,rfl,hfp',by rw[hall,hok,zi]⟩)
     ·have hok:ai5 wh (.mk k d xs) al=false:=by simp[ai5,aa6.kind,aa6.args,aa6.dep,hk,hd]
      have hd1:decide (d=di2)=false:=decide_eq_false hd;simp only[go_sem,hd1,q3,e0,e1,u0,u3,e2,u1,u2,u4,u5,u6,u7,u8,u9,u10,u11]
      (refine dc3 (by simp only[aa8];omega) (by simp only[aa5,if_true]) ?_;simp only[go_sem,e2,u1,u2,u4,u5,u6,u7,u8,u9,u10,u11,e0,u0,u3];rw[hall,hok];exact ad5 _ _)
   ·by_cases b3:xs.length<(asks k).1
    ·have c3:(xs.length:Int)<(asks k).1:=om;have hok:ai5 wh (.mk k d xs) al=false:=by simp[ai5,aa6.kind,aa6.args,b3]
     simp only[go_sem,b1,h1,h2,c3,q3,e0,e1,u0,u3,e2,u1,u2,u4,u5,u6,u7,u8,u9,u10,u11]
     (refine dc3 (by simp only[aa8];omega) (by simp only[aa5,if_true]) ?_;simp only[go_sem,e2,u1,u2,u4,u5,u6,u7,u8,u9,u10,u11,e0,u0,u3];rw[hall,hok];exact ad5 _ _)
    have c3:¬(xs.length:Int)<(asks k).1:=om;by_cases b4:(asks k).2.1<xs.length
    ·have c4:((asks k).2.1:Int)<xs.length:=om;have hok:ai5 wh (.mk k d xs) al=false:=by simp[ai5,aa6.kind,aa6.args,b4]
     simp only[go_sem,b1,h1,h2,c3,c4,q3,e0,e1,u0,u3,e2,u1,u2,u4,u5,u6,u7,u8,u9,u10,u11]
     (refine dc3 (by simp only[aa8];omega) (by simp only[aa5,if_true]) ?_;simp only[go_sem,e2,u1,u2,u4,u5,u6,u7,u8,u9,u10,u11,e0,u0,u3];rw[hall,hok];exact ad5 _ _)
    have c4:¬((asks k).2.1:Int)<xs.length:=om;by_cases hk:k=1
    ·have hkd:decide (k=1)=true:=decide_eq_true hk;simp only[go_sem,b1,h1,h2,c3,c4,hkd,q3,e0,e1,u0,u3,e2,u1,u2,u4,u5,u6,u7,u8,u9,u10,u11,ce1];refine aa4 fok50 hdc ?_
     cases hd:am2 d with
     | false=>
      have hok:ai5 wh (.mk k d xs) al=false:=by simp[ai5,aa6.kind,aa6.args,aa6.dep,hk,hd]
      simp only[go_sem,q3,e0,e1,u0,u3,e2,u1,u2,u4,u5,u6,u7,u8,u9,u10,u11]
      (refine dc3 (by simp only[aa8];omega) (by simp only[aa5,if_true]) ?_;simp only[go_sem,e2,u1,u2,u4,u5,u6,u7,u8,u9,u10,u11,e0,u0,u3];rw[hall,hok];exact ad5 _ _)
     | true=>
      have hok:ai5 wh (.mk k d xs) al=true:=by
       rw[hpart,decide_eq_false b1,hb2,decide_eq_false b3,decide_eq_false b4,if_pos hk,hd];rfl
      simp only[go_sem,hkd,q3,e0,e1,u0,u3,e2,u1,u2,u4,u5,u6,u7,u8,u9,u10,u11]
      (refine eu9 (by simp only[aa8];omega) (by simp only[aa5,if_true]) ⟨⟨⟨by simp only[aa8];omega,by simp only[aa5,e2,u1,u2,u4,u5,u6,u7,u8,u9,u10,u11,if_false];exact q2⟩,by simp only[aa5,e0,u0,u3,if_false];exact q3⟩,ps,rfl,hfp',by rw[hall,hok,zi]⟩)
    ·simp only[go_sem,b1,h1,h2,c3,c4,hk,q3,e0,e1,u0,u3,e2,u1,u2,u4,u5,u6,u7,u8,u9,u10,u11,ce1];rw[<- hdd];by_cases hd:d=di2
     ·have hok:ai5 wh (.mk k d xs) al=true:=by
       rw[hpart,decide_eq_false b1,hb2,decide_eq_false b3,decide_eq_false b4,if_neg hk,decide_eq_true hd];rfl
      have hd1:decide (d=di2)=true:=decide_eq_true hd;simp only[go_sem,hd1,q3,e0,e1,u0,u3,e2,u1,u2,u4,u5,u6,u7,u8,u9,u10,u11]
      (refine eu9 (by simp only[aa8];omega) (by simp only[aa5,if_true]) ⟨⟨⟨by simp only[aa8];omega,by simp only[aa5,e2,u1,u2,u4,u5,u6,u7,u8,u9,u10,u11,if_false];exact q2⟩,by simp only[aa5,e0,u0,u3,if_false];exact q3⟩,ps,rfl,hfp',by rw[hall,hok,zi]⟩)
     ·have hok:ai5 wh (.mk k d xs) al=false:=by simp[ai5,aa6.kind,aa6.args,aa6.dep,hk,hd]
      have hd1:decide (d=di2)=false:=decide_eq_false hd;simp only[go_sem,hd1,q3,e0,e1,u0,u3,e2,u1,u2,u4,u5,u6,u7,u8,u9,u10,u11]
      (refine dc3 (by simp only[aa8];omega) (by simp only[aa5,if_true]) ?_;simp only[go_sem,e2,u1,u2,u4,u5,u6,u7,u8,u9,u10,u11,e0,u0,u3];rw[hall,hok];exact ad5 _ _)
 ·rintro s o ⟨⟨⟨q1,q2⟩,q3⟩,ps,hps,_,hall⟩ hlt ho;have:ps=[]:=by cases ps with|nil=>rfl|cons _ _=>cases hps
  subst this;rw[hall];simp only[go_sem,e0,q3,qh];exact ad5 _ _
def aj1 {α:Type}(q:α->Bool):List α->Int->Int
 | [],_=>-1
 | e::es,i=>if q e then i else aj1 q es (i+1)
theorem gz7 {α:Type}(q:α->Bool):∀(l:List α) (i:Nat),decide (0<=aj1 q l i)=l.any q:=by
 intro l
 induction l with
 | nil=>intro i;rfl
 | cons x l ih=>
  intro i;simp only[aj1,List.any_cons];by_cases h:q x=true
  ·simp only[h,if_true,Bool.true_or];exact decide_eq_true om
  ·have h':q x=false:=by simpa using h
   have e:=ih (i+1);rw[qd,qc] at e;simp only[h',zj,if_false,qo];exact e
theorem ay4 {α:Type}(q:α->Bool)(l:List α):decide (0<=aj1 q l 0)=l.any q:=gz7 q l 0
theorem ai8 (d:Dep):d.cs.length=5:=rfl
theorem af8 (d:Dep):d.cs.all IV.leaf=true:=rfl
theorem ag8 (d:Dep):d.cs.take 5=d.cs:=rfl
theorem ac5 (r:aa6):r.cs.all IV.leaf=true:=by rw[aa6.ax5];rfl
theorem ad9 (r:aa6):r.cs.take 7=r.cs:=zc (by rw[ae6];exact za _)
theorem ee5 (s:Str):(bv8 s).length=1:=rfl
theorem ch2 (l:List Dep):Bnd 0 (.aa3 (l.map Dep.cs)):=.aa3 _ λe he c hc=>by
 obtain ⟨d,_,rfl⟩:=zd.1 he;exact gz3 d c hc
theorem cz3 (l:List Str):Bnd 0 (.aa3 (l.map bv8)):=.aa3 _ λe he c hc=>by
 obtain ⟨d,_,rfl⟩:=zd.1 he;cases hc with|head=>exact .str _|tail _ h=>cases h
theorem bk3 (l:List aa6):Bnd 0 (.aa3 (l.map aa6.cs)):=.aa3 _ λe he c hc=>by
 obtain ⟨d,_,rfl⟩:=zd.1 he;exact fm6 d c hc
theorem gz8 (xs:List Dep)(g:Nat)(first cap:List IV)(q:Dep->Bool)(hn:xs.length<2^62)(hok:okF Tryz.prog g=true)
  (hq:∀x∈xs,Pq g (first++[IV.agg (Dep.cs x)]++cap) (.bool (q x))):Pq 201 [.aa3 (xs.map Dep.cs),.func (.func g) first cap] (.int .i64 (aj1 q xs 0)):=by
 refine ba9 fok201 (nZ rfl) λσ=>?_
 simp only[ic201,go_sem];refine ab1 noT (λi fr s=>s=σ/\fr=[(0,.aa3 (xs.map Dep.cs)),(1,.func (.func g) first cap),(7,.int .i64 xs.length),(8,.int .i64 i)]/\aj1 q xs 0=aj1 q (xs.drop i) i) xs.length ⟨rfl,rfl,rfl⟩ ?_;rintro i fr s hi ⟨rfl,rfl,hf⟩;by_cases hlt:i<xs.length
 ·obtain ⟨x,ha,_,hdr,hget,_⟩:=ad2 xs i hlt;have c1:(i:Int)<xs.length:=om;have c2:(0:Int)<=i:=om;have w1:=ac3 (i:=i) om;rw[hdr] at hf;simp only[go_sem,c1,c2,hget,ai8,ag8,af8];refine ap4 hok (ew6 (hq x ha)) ?_;rintro v s ⟨rfl,rfl⟩;refine ⟨za _,?_⟩
  cases hqe:q x with
  | true=>simp only[go_sem,hf,aj1,hqe,and_self]
  | false=>
   simp only[go_sem,w1];exact ⟨hlt,by rw[hf];simp only[aj1,hqe,zj,if_false,qd,qc]⟩
 ·have hi':i=xs.length:=om;subst hi';have c1:¬(xs.length:Int)<xs.length:=om;rw[ze] at hf;simp only[go_sem,c1,hf,aj1,and_self]
theorem df9 (xs:List Dep)(g:Nat)(first cap:List IV)(q:Dep->Bool)(hn:xs.length<2^62)(hok:okF Tryz.prog g=true)
  (hq:∀x∈xs,Pq g (first++[IV.agg (Dep.cs x)]++cap) (.bool (q x))):Pq 162 [.aa3 (xs.map Dep.cs),.func (.func g) first cap] (.bool (xs.any q)):=by
 refine ba9 fok162 (nZ rfl) λσ=>?_
 simp only[ic162,go_sem];refine aa4 fok201 (gz8 xs g first cap q hn hok hq) ?_;simp only[go_sem,ay4,and_self]
theorem gz9 (x:Dep)(g:Nat)(first cap:List IV)(b:Bool)(hb:∀c∈first,Bnd 0 c)(hb2:∀c∈cap,Bnd 0 c)(hok:okF Tryz.prog g=true)(hq:Pq g (first++[IV.agg (Dep.cs x)]++cap) (.bool b)) :
  Pq 163 [IV.agg (Dep.cs x),.ab8 [.func (.func g) first cap]] (.bool !b):=by
 refine ba9 fok163 (nZ rfl) λσ=>?_
 simp only[ic163,go_sem,ai8,ag8,af8];refine ap4 hok (ew6 hq) ?_;rintro v s ⟨rfl,rfl⟩;refine ⟨za _,?_⟩;simp only[go_sem,and_self]
theorem fm7 (xs:List Dep)(n:Int)(g:Nat)(first cap:List IV)(p:Dep->Bool)(hn:xs.length<2^62)(hb:∀c∈first,Bnd 0 c)(hb2:∀c∈cap,Bnd 0 c)(hok:okF Tryz.prog g=true)
  (hq:∀x∈xs,Pq g (first++[IV.agg (Dep.cs x)]++cap) (.bool (p x))):Pq 116 [.aa3 (xs.map Dep.cs),.int .i64 n,.func (.func g) first cap] (.bool (decide ((xs.length:Int)<=n)&&xs.all p)):=by
 refine ba9 fok116 (nZ rfl) λσ=>?_
 by_cases hle:(xs.length:Int)<=n
 ·simp only[ic116,go_sem,hle];refine aa4 fok162 (df9 xs 163 [] [.ab8 [.func (.func g) first cap]] (λx=>!p x) hn fok163.1 λx hx=>gz9 x g first cap (p x) hb hb2 hok (hq x hx)) ?_;have:(!xs.any λx=>!p x)=xs.all p:=by rw[z5];simp
  simp only[go_sem,hle,this,and_self]
 ·simp only[ic116,go_sem,hle,and_self]
theorem ha5 (xs:List Str)(g:Nat)(first cap:List IV)(q:Str->Bool)(hn:xs.length<2^62)(hok:okF Tryz.prog g=true)
  (hq:∀x∈xs,Pq g (first++[IV.str x]++cap) (.bool (q x))):Pq 202 [.aa3 (xs.map bv8),.func (.func g) first cap] (.int .i64 (aj1 q xs 0)):=by
 refine ba9 fok202 (nZ rfl) λσ=>?_
 simp only[ic202,go_sem];refine ab1 noT (λi fr s=>s=σ/\fr=[(0,.aa3 (xs.map bv8)),(1,.func (.func g) first cap),(7,.int .i64 xs.length),(8,.int .i64 i)]/\aj1 q xs 0=aj1 q (xs.drop i) i) xs.length ⟨rfl,rfl,rfl⟩ ?_;rintro i fr s hi ⟨rfl,rfl,hf⟩;by_cases hlt:i<xs.length
 ·obtain ⟨x,ha,_,hdr,hget,_⟩:=ad2 xs i hlt;have c1:(i:Int)<xs.length:=om;have c2:(0:Int)<=i:=om;have w1:=ac3 (i:=i) om;rw[hdr] at hf;simp only[go_sem,c1,c2,hget,ee5,bv8];refine ap4 hok (ew6 (hq x ha)) ?_;rintro v s ⟨rfl,rfl⟩;refine ⟨za _,?_⟩
  cases hqe:q x with
  | true=>simp only[go_sem,hf,aj1,hqe,and_self]
  | false=>
   simp only[go_sem,w1];exact ⟨hlt,by rw[hf];simp only[aj1,hqe,zj,if_false,qd,qc]⟩
 ·have hi':i=xs.length:=om;subst hi';have c1:¬(xs.length:Int)<xs.length:=om;rw[ze] at hf;simp only[go_sem,c1,hf,aj1,and_self]
theorem ha6 (xs:List Str)(g:Nat)(first cap:List IV)(q:Str->Bool)(hn:xs.length<2^62)(hok:okF Tryz.prog g=true)
  (hq:∀x∈xs,Pq g (first++[IV.str x]++cap) (.bool (q x))):Pq 164 [.aa3 (xs.map bv8),.func (.func g) first cap] (.bool (xs.any q)):=by
 refine ba9 fok164 (nZ rfl) λσ=>?_
 simp only[ic164,go_sem];refine aa4 fok202 (ha5 xs g first cap q hn hok hq) ?_;simp only[go_sem,ay4,and_self]
theorem ha7 (x:Str)(g:Nat)(first cap:List IV)(b:Bool)(hb:∀c∈first,Bnd 0 c)(hb2:∀c∈cap,Bnd 0 c)(hok:okF Tryz.prog g=true)(hq:Pq g (first++[IV.str x]++cap) (.bool b)) :
  Pq 165 [IV.str x,.ab8 [.func (.func g) first cap]] (.bool !b):=by
 refine ba9 fok165 (nZ rfl) λσ=>?_
 simp only[ic165,go_sem,ee5,bv8];refine ap4 hok (ew6 hq) ?_;rintro v s ⟨rfl,rfl⟩;refine ⟨za _,?_⟩;simp only[go_sem,and_self]
theorem ik4 (xs:List Str)(n:Int)(g:Nat)(first cap:List IV)(p:Str->Bool)(hn:xs.length<2^62)(hb:∀c∈first,Bnd 0 c)(hb2:∀c∈cap,Bnd 0 c)(hok:okF Tryz.prog g=true)
  (hq:∀x∈xs,Pq g (first++[IV.str x]++cap) (.bool (p x))):Pq 117 [.aa3 (xs.map bv8),.int .i64 n,.func (.func g) first cap] (.bool (decide ((xs.length:Int)<=n)&&xs.all p)):=by
 refine ba9 fok117 (nZ rfl) λσ=>?_
 by_cases hle:(xs.length:Int)<=n
 ·simp only[ic117,go_sem,hle];refine aa4 fok164 (ha6 xs 165 [] [.ab8 [.func (.func g) first cap]] (λx=>!p x) hn fok165.1 λx hx=>ha7 x g first cap (p x) hb hb2 hok (hq x hx)) ?_;have:(!xs.any λx=>!p x)=xs.all p:=by rw[z5];simp
  simp only[go_sem,hle,this,and_self]
 ·simp only[ic117,go_sem,hle,and_self]
theorem gf3 (xs:List aa6)(g:Nat)(first cap:List IV)(q:aa6->Bool)(hn:xs.length<2^62)(hok:okF Tryz.prog g=true)
  (hq:∀x∈xs,Pq g (first++[IV.agg (aa6.cs x)]++cap) (.bool (q x))):Pq 203 [.aa3 (xs.map aa6.cs),.func (.func g) first cap] (.int .i64 (aj1 q xs 0)):=by
 refine ba9 fok203 (nZ rfl) λσ=>?_
 simp only[ic203,go_sem];refine ab1 noT (λi fr s=>s=σ/\fr=[(0,.aa3 (xs.map aa6.cs)),(1,.func (.func g) first cap),(7,.int .i64 xs.length),(8,.int .i64 i)]/\aj1 q xs 0=aj1 q (xs.drop i) i) xs.length ⟨rfl,rfl,rfl⟩ ?_;rintro i fr s hi ⟨rfl,rfl,hf⟩;by_cases hlt:i<xs.length
 ·obtain ⟨x,ha,_,hdr,hget,_⟩:=ad2 xs i hlt;have c1:(i:Int)<xs.length:=om;have c2:(0:Int)<=i:=om;have w1:=ac3 (i:=i) om;rw[hdr] at hf;simp only[go_sem,c1,c2,hget,ae6,ad9,ac5];refine ap4 hok (ew6 (hq x ha)) ?_;rintro v s ⟨rfl,rfl⟩;refine ⟨za _,?_⟩
  cases hqe:q x with
  | true=>simp only[go_sem,hf,aj1,hqe,and_self]
  | false=>
   simp only[go_sem,w1];exact ⟨hlt,by rw[hf];simp only[aj1,hqe,zj,if_false,qd,qc]⟩
 ·have hi':i=xs.length:=om;subst hi';have c1:¬(xs.length:Int)<xs.length:=om;rw[ze] at hf;simp only[go_sem,c1,hf,aj1,and_self]
theorem ct5 (xs:List aa6)(g:Nat)(first cap:List IV)(q:aa6->Bool)(hn:xs.length<2^62)(hok:okF Tryz.prog g=true)
  (hq:∀x∈xs,Pq g (first++[IV.agg (aa6.cs x)]++cap) (.bool (q x))):Pq 167 [.aa3 (xs.map aa6.cs),.func (.func g) first cap] (.bool (xs.any q)):=by
 refine ba9 fok167 (nZ rfl) λσ=>?_
 simp only[ic167,go_sem];refine aa4 fok203 (gf3 xs g first cap q hn hok hq) ?_;simp only[go_sem,ay4,and_self]
theorem gf4 (x:aa6)(g:Nat)(first cap:List IV)(b:Bool)(hb:∀c∈first,Bnd 0 c)(hb2:∀c∈cap,Bnd 0 c)(hok:okF Tryz.prog g=true)(hq:Pq g (first++[IV.agg (aa6.cs x)]++cap) (.bool b)) :
  Pq 168 [IV.agg (aa6.cs x),.ab8 [.func (.func g) first cap]] (.bool !b):=by
 refine ba9 fok168 (nZ rfl) λσ=>?_
 simp only[ic168,go_sem,ae6,ad9,ac5];refine ap4 hok (ew6 hq) ?_;rintro v s ⟨rfl,rfl⟩;refine ⟨za _,?_⟩;simp only[go_sem,and_self]
theorem ha8 (xs:List aa6)(n:Int)(g:Nat)(first cap:List IV)(p:aa6->Bool)(hn:xs.length<2^62)(hb:∀c∈first,Bnd 0 c)(hb2:∀c∈cap,Bnd 0 c)(hok:okF Tryz.prog g=true)
  (hq:∀x∈xs,Pq g (first++[IV.agg (aa6.cs x)]++cap) (.bool (p x))):Pq 119 [.aa3 (xs.map aa6.cs),.int .i64 n,.func (.func g) first cap] (.bool (decide ((xs.length:Int)<=n)&&xs.all p)):=by
 refine ba9 fok119 (nZ rfl) λσ=>?_
 by_cases hle:(xs.length:Int)<=n
 ·simp only[ic119,go_sem,hle];refine aa4 fok167 (ct5 xs 168 [] [.ab8 [.func (.func g) first cap]] (λx=>!p x) hn fok168.1 λx hx=>gf4 x g first cap (p x) hb hb2 hok (hq x hx)) ?_;have:(!xs.any λx=>!p x)=xs.all p:=by rw[z5];simp
  simp only[go_sem,hle,this,and_self]
 ·simp only[ic119,go_sem,hle,and_self]
def fm8 (x:Int×List aa6):List IV:=[.int .u8 x.1,ap8 x.2]
def ha9 (p:aa2):List (List IV):=p.rows.map fm8
theorem au6 (p:aa2):∀c∈p.cs,Bnd 0 c:=by
 intro c hc;simp only[aa2.cs,zp,zn,or_false] at hc;rcases hc with rfl|rfl|rfl|rfl|rfl|rfl|rfl|rfl|rfl|rfl|rfl|rfl|rfl|rfl|rfl<;>first|exact .str _|exact .int _ _|exact ch2 _|exact bk3 _|exact cz3 _
theorem aj8 (p:aa2):Bnd 0 (.agg p.cs):=.agg _ (au6 p)
theorem af7 (p:aa2):p.cs.length=15:=rfl
theorem ae8 (p:aa2):p.cs.take 15=p.cs:=rfl
theorem ac7 (p:aa2):p.cs.all IV.leaf=true:=rfl
theorem ik5 (p:aa2):Pq 118 [.agg p.cs] (.func (.func 166) [] [.ab8 p.cs]):=by
 refine ba9 fok118 (nZ rfl) λσ=>?_
 simp only[ic118,go_sem,ac7,and_self]
theorem gf5 (p:aa2):fg1 Tryz.prog EE (.func (.func 166) [] [.ab8 p.cs]) (ha9 p) (λ_=>True):=by
 intro yid I S σ hown hstab hy hi;refine ⟨fok166.1,?_⟩;refine C_f fok166 (nZ rfl) ?_;simp only[ic166,go_sem,aa2.cs];simp only[ha9,aa2.rows,zz,zm,fm8] at hi;have stop:∀s,σ.next<=s.next->S s->jo7 σ.next I S (.tuple []) s:=λs hn hs=>⟨hn,.inr hs⟩
 refine cw5 hy hi (λs1 n1 i1=>?_) (λs1 n1 h1=>by simp only[go_sem];exact stop _ n1 h1);simp only[go_sem];refine cw5 hy i1 (λs2 n2 i2=>?_) (λs2 n2 h2=>by simp only[go_sem];exact stop _ om h2);simp only[go_sem];refine cw5 hy i2 (λs3 n3 i3=>?_) (λs3 n3 h3=>by simp only[go_sem];exact stop _ om h3);simp only[go_sem];refine cw5 hy i3 (λs4 n4 i4=>?_) (λs4 n4 h4=>by simp only[go_sem];exact stop _ om h4);simp only[go_sem];refine cw5 hy i4 (λs5 n5 i5=>?_) (λs5 n5 h5=>by simp only[go_sem];exact stop _ om h5);simp only[go_sem];refine cw5 hy i5 (λs6 n6 i6=>?_) (λs6 n6 h6=>by simp only[go_sem];exact stop _ om h6);simp only[go_sem];exact ⟨om,.inl i6⟩
theorem jg3 (r:aa6)(wh:Int)(hf:r.fit)(hc:r.count<2^62):Pq 120 [.agg r.cs,.ab8 [.int .u8 wh]] (.bool (decide (ao3 r wh=0))):=by
 refine ba9 fok120 (nZ rfl) λσ=>?_
 simp only[ic120,go_sem,ae6,ad9,ac5];refine aa4 fok121 (df8 r wh hf hc) ?_;simp only[go_sem,and_self]
theorem ik6 (l:List aa6)(wh:Int)(hn:l.length<2^62)(hf:∀r∈l,r.fit/\r.count<2^31):Pq 119 [ap8 l,.int .i64 32,.func (.func 120) [] [.ab8 [.int .u8 wh]]] (.bool (ak7 l wh)):=by
 have h:=ha8 l 32 120 [] [.ab8 [.int .u8 wh]] (λr=>decide (ao3 r wh=0)) hn (λc hc=>by cases hc) (af3 (.ab8 _ (af3 (.int _ _)))) fok120.1 λx hx=>jg3 x wh (hf x hx).1 (by have:=(hf x hx).2;omega)
 have e:decide ((l.length:Int)<=32)=decide (l.length<=32):=decide_eq_decide.2 om;rw[e] at h;exact h
theorem hb7 {σ:Store}{f id:Nat}{cs:List IV}(ho:σ.obj id=zh (.cells cs))(hb:∀c∈cs,Bnd 0 c):cb5 σ 0 (.func (.func f) [] [.ptr id 0]) (.func (.func f) [] [.ab8 cs]):=by
 refine .func _ [] [] _ _ rfl rfl (λi hi=>absurd hi (zf _)) (λi hi=>?_)
 match i,hi with
 | 0,_=>
  refine .ptr id 0 cs cs (zf _) (.inl ho) om (λj hj=>?_);rw[Nat.zero_add];exact .keep _ (hb _ (ad3 _ hj))
theorem fb7 {l:List Str}{i:Nat}{f:Str}(h0:0<i)(h:l.drop i=f::l.drop (i+1)):∃a,l[i-1]? = zh a/\rising (l.drop (i-1))=(Op.bytesLess a f&&rising (l.drop i)):=by
 have hlt:i<l.length:=by
  rcases Nat.lt_or_ge i l.length with h1|h1
  ·exact h1
  ·rw[List.drop_of_length_le h1] at h;cases h
 have h2:i-1<l.length:=om;refine ⟨l[i-1],z0 h2,?_⟩;rw[List.drop_eq_getElem_cons h2,show i-1+1=i from by omega,h];rfl
theorem hb8 (p:aa2)(hf:p.Fit):Pq 80 [.agg p.cs] (.bool (aj7 p)):=by
 refine af4 hE fok80 (nZ rfl) (af3 (aj8 _)) ?_;simp only[ic80,go_sem,ac7,aa2.cs];refine aa4 fok84 (ct2 p.name hf.name) ?_
 cases h1:as4 p.name with
 | false=>simp only[go_sem,aj7,h1];exact ab4 _
 | true=>
 simp only[go_sem];refine aa4 fok86 (ct3 p.name hf.name) ?_
 cases h2:bi7 p.name with
 | true=>simp only[go_sem,aj7,h1,h2];exact ab4 _
 | false=>
 simp only[go_sem];refine aa4 (v:=.bool (bi8 p.evr false)) fok87 (eo9 p.evr false hf.evr.1 hf.evr.2) ?_
 cases h3:bi8 p.evr false with
 | false=>simp only[go_sem,aj7,h1,h2,h3];exact ab4 _
 | true=>
 simp only[go_sem];refine aa4 fok115 (fb3 p.ap7) ?_;have h4':=cg7 p.ap7
 cases h4:ak6 p.ap7 with
 | false=>
  rw[h4] at h4'
  simp only[go_sem,h4',aj7,h1,h2,h3,h4];exact ab4 _
 | true=>
 rw[h4] at h4';simp only[go_sem,h4'];by_cases h5:p.vendor.length<=64
 case neg=>
  have h5':(64:Int)<p.vendor.length:=om;simp only[go_sem,h5',aj7,h1,h2,h3,h4,h5];exact ab4 _
 have h5':¬(64:Int)<p.vendor.length:=om;simp only[go_sem,h5'];have e32:∀n:Nat,decide ((n:Int)<=32)=decide (n<=32):=λn=>decide_eq_decide.2 om
 have hp6:=fm7 p.provides 32 50 [] [] am2 (by have:=hf.at5.1;omega) (λc hc=>by cases hc) (λc hc=>by cases hc) fok50.1 λx hx=>cg8 x (hf.at5.2 x hx).1 (hf.at5.2 x hx).2.1 (hf.at5.2 x hx).2.2
 have hp7:=fm7 p.aa7 32 50 [] [] am2 (by have:=hf.obs.1;omega) (λc hc=>by cases hc) (λc hc=>by cases hc) fok50.1 λx hx=>cg8 x (hf.obs.2 x hx).1 (hf.obs.2 x hx).2.1 (hf.obs.2 x hx).2.2
 have hp8:=ik4 p.files 32 86 [] [] bi7 (by have:=hf.files.1;omega) (λc hc=>by cases hc) (λc hc=>by cases hc) fok86.1 λx hx=>ct3 x (hf.files.2 x hx)
 rw[e32] at hp6 hp7 hp8;refine aa4 fok116 hp6 ?_
 cases h6:(decide (p.provides.length<=32)&&p.provides.all am2) with
 | false=>simp only[go_sem,aj7,h1,h2,h3,h4,h5,h6];exact ab4 _
 | true=>
 simp only[go_sem];refine aa4 fok116 hp7 ?_
 cases h7:(decide (p.aa7.length<=32)&&p.aa7.all am2) with
 | false=>simp only[go_sem,aj7,h1,h2,h3,h4,h5,h6,h7];exact ab4 _
 | true=>
 simp only[go_sem];refine aa4 fok117 hp8 ?_
 cases h8:(decide (p.files.length<=32)&&p.files.all bi7) with
 | false=>simp only[go_sem,aj7,h1,h2,h3,h4,h5,h6,h7,h8];exact ab4 _
 | true=>
 have hmay:aj7 p=(rising p.files&&p.rows.all λx=>ak7 x.2 x.1):=by
  simp only[aj7,h1,h2,h3,h4,h5,h6,h7,h8,aa2.rows,qf,qh,decide_true,Bool.not_false,Bool.and_true,zi,Bool.and_assoc]
 simp only[go_sem];rw[hmay];refine ab1 noT (λi fr s=>fr=[(1,.ab8 p.cs),(2,.ptr 0 0),(52,strs p.files),(53,.int .i64 p.files.length),(54,.int .i64 i)]/\(s.obj 0=zh (.cells [.bool false])/\0<s.next)/\rising p.files=rising (p.files.drop (i-1))) p.files.length ⟨rfl,⟨?_,?_⟩,rfl⟩ ?_
 ·simp only[aa5,if_true]
 ·exact Nat.zero_lt_one
 rintro i fr s hi ⟨rfl,⟨q1,q2⟩,hr⟩;by_cases hlt:i<p.files.length
 ·obtain ⟨f,ha,hfi,hdr,hget,_⟩:=ad2 p.files i hlt;have c1:(i:Int)<p.files.length:=om;have c2:(0:Int)<=i:=om;have w1:=ac3 (i:=i) (by have:=hf.files.1;omega);by_cases h0:0<i
  ·have c0:(0:Int)<i:=om;obtain ⟨a,ha1,ha2⟩:=fb7 h0 hdr;have hget':(p.files.map bv8).getD (i-1) []=bv8 a:=by simp[zx,ha1]
   have w0:IntKind.i64.wrap ((i:Int)-1)=((i-1:Nat):Int):=by
    have:=hf.files.1;rw[wrap64 om om];omega
   have c3:(0:Int)<=((i-1:Nat):Int):=om;have c4:((i-1:Nat):Int)<p.files.length:=om;rw[ha2] at hr;simp only[go_sem,c0,c1,c2,c3,c4,w0,w1,hget,hget',bv8,aa2.cs]
   cases hb:Op.bytesLess a f with
   | true=>
    rw[hb,zi] at hr;simp only[go_sem,w1]
    exact ⟨hlt,⟨q1,q2⟩,hr⟩
   | false=>
    rw[hb,qe] at hr;simp only[go_sem,q1,hr];exact ab4 _
  ·have c0:¬(0:Int)<i:=om;simp only[go_sem,c0,c1,c2,w1,hget,bv8];refine ⟨hlt,⟨q1,q2⟩,?_⟩;have:i=0:=om;subst this;exact hr
 ·have hi':i=p.files.length:=om;subst hi';have c1:¬(p.files.length:Int)<p.files.length:=om
  have hrt:rising p.files=true:=by
   rw[hr]
   cases hl:p.files.drop (p.files.length-1) with
   | nil=>rfl
   | cons x l=>
    have h1:=congrArg List.length hl;rw[zr,zo] at h1;have h2:l=[]:=List.length_eq_zero_iff.1 om;rw[h2];rfl
  rw[hrt,zi];simp only[go_sem,c1,af7,ae8];refine aa4 fok118 (ik5 p) ?_;simp only[go_sem];have e0:¬0=s.next:=om;have e1:¬s.next=0:=om;refine dy8 (gf5 p) (λrest s=>(0<s.next/\s.obj 0=zh (.cells [.bool false]))/\∃ts:List (Int×List aa6),rest=ts.map fm8/\(∀x∈ts,x∈p.rows)/\(p.rows.all λx:Int×List aa6=>ak7 x.2 x.1)=ts.all λx:Int×List aa6=>ak7 x.2 x.1) (λ_ _ h=>trivial) ?_ ?_ ?_ ?_ ?_
  ·rintro rest s s' ⟨⟨q1,q2⟩,q4⟩ hn' hs';exact ⟨⟨om,by rw[hs' 0 q1];exact q2⟩,q4⟩
  ·intro a ha;obtain ⟨x,_,rfl⟩:=zd.1 ha;rfl
  ·intro o;exact ⟨⟨by show 0<s.next+1;omega,by simp only[aa5,e0,if_false];exact q1⟩,_,rfl,λx hx=>hx,rfl⟩
  ·rintro L pre a rest t hev ⟨⟨q3,q4⟩,ts,hts,hin,hall⟩ hL hlt
   cases ts with
   | nil=>cases hts
   | cons x ts=>
    simp only[zz,List.cons.injEq] at hts;obtain ⟨rfl,rfl⟩:=hts;obtain ⟨wh,l⟩:=x;simp only[qf] at hall;have hfx:=hf.cw8 _ (hin _ (zl ..));have hin':∀y∈ts,y∈p.rows:=λy hy=>hin y (zk _ hy)
    have u0:¬0=t.next:=om;have u1:¬s.next=t.next:=om;have u2:¬t.next=s.next:=om;have u3:¬t.next=0:=om;simp only[fm8,go_sem,hL,q4,e0,e1,u0,u1,u2,u3];refine ac4 fok119 (cr1 (args':=[ap8 l,.int .i64 32,.func (.func 120) [] [.ab8 [.int .u8 wh]]]) hE rfl ?_ (by unfold IV.plain;rfl) (ik6 l wh (qs hfx.1 (by decide)) hfx.2)) ?_
    ·intro i hi
     match i,hi with
     | 0,_=>exact .keep _ (bk3 l)
     | 1,_=>exact .keep _ (.int _ _)
     | 2,_=>exact hb7 (by simp only[aa5,u2,if_false,if_true]) (af3 (.int _ _))
    ·rintro v s2 ⟨rfl,rfl⟩;refine ⟨za _,?_⟩
     cases hok:ak7 l wh with
     | true=>
      simp only[go_sem]
      refine eu9 (by simp only[aa8];omega) (by simp only[aa5,if_true]) ⟨⟨by simp only[aa8];omega,by simp only[aa5,e0,u0,if_false];exact q4⟩,ts,rfl,hin',by rw[hall,hok,zi]⟩
     | false=>
      simp only[go_sem,q4,e0,e1,u0,u1,u2,u3];refine dc3 (by simp only[aa8];omega) (by simp only[aa5,if_true]) ?_;simp only[go_sem,e0,u0];rw[hall,hok];exact ab4 _
  ·rintro t o ⟨⟨q3,q4⟩,ts,hts,_,hall⟩ hlt ho;have:ts=[]:=by cases ts with|nil=>rfl|cons _ _=>cases hts
   subst this;rw[hall];simp only[go_sem,e0,q4,qh];exact ab4 _
def ae1 (n:Int):List IV:=[.int .i64 n]
theorem aw5 (l:List Int):Bnd 0 (.aa3 (l.map ae1)):=.aa3 _ λe he c hc=>by
 obtain ⟨d,_,rfl⟩:=zd.1 he;cases hc with|head=>exact .int _ _|tail _ h=>cases h
theorem an2 {es:List (List IV)}(h:Bnd 0 (.aa3 es)):∀e∈es,∀c∈e,Bnd 0 c:=by
 cases h with|aa3 _ h=>exact h
theorem dg1 (xs:List Dep)(hn:xs.length<=2147483648):Pq 122 [.aa3 (xs.map Dep.cs)] (.aa3 (xs.map Dep.cs)):=by
 cases hx:xs with
 | nil=>
  rw[zm];refine bp2 ?_ ?_
  ·refine af4 hE fok122 (nZ rfl) (af3 .aa1) ?_;simp only[ic122,go_sem,ai7];exact .bz3
  ·refine af4 hE fok122 (nZ rfl) (af3 .af6) ?_;simp only[ic122,go_sem,ai7];rw[bl7 (by simp only[aa5,if_true]) rfl];simp only[go_sem]
   exact .dl5 _ _ _ (by simp only[aa5,if_true];exact λh=>(by cases h))
 | cons a as'=>
  have hne:xs.map Dep.cs≠[]:=by rw[hx];exact λh=>(by cases h)
  have hall:∀e∈xs.map Dep.cs,e.length=5/\e.all IV.leaf=true:=λe he=>by
   obtain ⟨x,_,rfl⟩:=zd.1 he;exact ⟨ai8 x,af8 x⟩
  have hnil:ct9 (.slice 0) (.aa3 (xs.map Dep.cs))=zh false:=by rw[hx];rfl
  rw[<- hx];refine af4 hE fok122 (nZ rfl) (af3 (ch2 xs)) ?_;have hnil:∀d,ct9 (.slice d) (.aa3 (xs.map Dep.cs))=zh false:=λd=>by rw[hx];rfl
  simp only[ic122,go_sem,ai7,hnil];rw[ck3 (by simp only[aa5,if_true]) hne hall (by rw[zb];exact hn)];simp only[go_sem];refine Grow.frz (esz:=5) (es:=xs.map Dep.cs) (.inr ⟨1,by rw[zb],by simp only[aa5,if_true],z6 _⟩) (λx hx=>(hall x hx).1) (λ_ _=>zf _) (an2 (ch2 xs))
theorem fb8 (xs:List Str)(hn:xs.length<=2147483648):Pq 123 [.aa3 (xs.map bv8)] (.aa3 (xs.map bv8)):=by
 cases hx:xs with
 | nil=>
  rw[zm];refine bp2 ?_ ?_
  ·refine af4 hE fok123 (nZ rfl) (af3 .aa1) ?_;simp only[ic123,go_sem,ai7];exact .bz3
  ·refine af4 hE fok123 (nZ rfl) (af3 .af6) ?_;simp only[ic123,go_sem,ai7];rw[bl7 (by simp only[aa5,if_true]) rfl];simp only[go_sem]
   exact .dl5 _ _ _ (by simp only[aa5,if_true];exact λh=>(by cases h))
 | cons a as'=>
  have hne:xs.map bv8≠[]:=by rw[hx];exact λh=>(by cases h)
  have hall:∀e∈xs.map bv8,e.length=1/\e.all IV.leaf=true:=λe he=>by
   obtain ⟨x,_,rfl⟩:=zd.1 he;exact ⟨rfl,rfl⟩
  have hnil:ct9 (.slice 0) (.aa3 (xs.map bv8))=zh false:=by rw[hx];rfl
  rw[<- hx];refine af4 hE fok123 (nZ rfl) (af3 (cz3 xs)) ?_;have hnil:∀d,ct9 (.slice d) (.aa3 (xs.map bv8))=zh false:=λd=>by rw[hx];rfl
  simp only[ic123,go_sem,ai7,hnil];rw[ck3 (by simp only[aa5,if_true]) hne hall (by rw[zb];exact hn)];simp only[go_sem];refine Grow.frz (esz:=1) (es:=xs.map bv8) (.inr ⟨1,by rw[zb],by simp only[aa5,if_true],z6 _⟩) (λx hx=>(hall x hx).1) (λ_ _=>zf _) (an2 (cz3 xs))
theorem ch3 (xs:List aa6):∀e∈xs.map aa6.cs,e.length=7/\e.all IV.leaf=true:=λe he=>by
 obtain ⟨x,_,rfl⟩:=zd.1 he;exact ⟨ae6 x,ac5 x⟩
def fb9:List IV:=[.int .u8 0,.str [],.int .u8 0,.int .i64 0,.str [],.str [],.aa1]
theorem ep2 (r:aa6):r.fit->Pq 125 [.agg r.cs] (.agg r.cs):=by
 induction r using aa6.ind with
 | h k d xs ih=>
  intro hf;obtain ⟨f1,f2,f3,f4,f5⟩:=aa6.ce3.1 hf;refine af4 hE fok125 (nZ rfl) (af3 (bd8 _)) ?_;rw[aa6.ax5];simp only[ic125,go_sem,aa6.kind,aa6.dep,aa6.args,ce1];refine ab1 noT (λi fr s=>fr=[(2,.ptr 0 0),(3,.ptr 1 0),(12,.aa3 (xs.map aa6.cs)),(13,.int .i64 xs.length),(14,.int .i64 i)]/\∃v,s.obj 0=zh (.cells fb9)/\s.obj 1=zh (.cells [.int .u8 k,.str d.name,.int .u8 d.op,.int .i64 d.evr.am4,.str d.evr.ver,.str d.evr.rel,v])/\Grow s v 7 ((xs.take i).map aa6.cs)/\1<s.next) xs.length ⟨rfl,.aa1,?_,?_,.inl ⟨rfl,rfl⟩,?_⟩ ?_
  ·simp only[aa5,reduceCtorEq,qa,qb,zw,z3,zt,z2,z1,z7,zs,decide_true,decide_false,↓reduceIte,if_true,if_false];rfl
  ·simp only[aa5,reduceCtorEq,qa,qb,zw,z3,zt,z2,z1,z7,zs,decide_true,decide_false,↓reduceIte,if_true,if_false]
  ·show 1<2;omega
  rintro i fr s hle ⟨rfl,v,q0,q1,hg,hn⟩;by_cases hlt:i<xs.length
  ·obtain ⟨a,ha,_,hdr,hget,htk⟩:=ad2 xs i hlt;have c1:(i:Int)<xs.length:=om;have c2:(0:Int)<=i:=om;have w1:=ac3 (i:=i) om;have u0:¬1=s.next:=om;have u1:¬0=s.next:=om;simp only[go_sem,c1,c2,hget,ae6,ad9,ac5,q1,u0,ce1];refine ab2 (ih a ha (f5 a ha)) ?_;simp only[go_sem,ae6,ad9,ac5]
   have hg1:Grow ⟨s.next+1+8,((Store.put ⟨s.next+1,s.obj⟩ s.next (aj2.cells fb9)).put s.next (aj2.cells a.cs)).obj⟩ v 7 ((xs.take i).map aa6.cs):=hg.mono (by show s.next<=s.next+1+8;omega) λid _ hid=>by
    have:¬id=s.next:=om;simp only[aa5,this,if_false]
   have hl0:((xs.take i).map aa6.cs).length=i:=by rw[zb,qi];omega
   have ha2:=ai2 (nid:=s.next+1+1+1+1+1+1) (e:=a.cs) hg1 (ch3 _) ⟨ae6 a,ac5 a⟩ (by rw[hl0];omega);have k1:=af5 hg1 1 (.cells [.int .u8 k,.str d.name,.int .u8 d.op,.int .i64 d.evr.am4,.str d.evr.ver,.str d.evr.rel,v]) (by simp only[aa5,u0,if_false];exact q1) (λ_ h=>by cases h);have k0:=af5 hg1 0 (.cells fb9) (by simp only[aa5,u1,if_false];exact q0) (λ_ h=>by cases h);have kn:=ab7 (σ:=⟨s.next+1+8,((Store.put ⟨s.next+1,s.obj⟩ s.next (aj2.cells fb9)).put s.next (aj2.cells a.cs)).obj⟩) v;simp only[fb9] at ha2 k1 k0 kn;rw[ha2,hl0];have u2:¬1=s.next+1+1+1+1+1+1:=om;have u3:¬0=s.next+1+1+1+1+1+1:=om;have u4:¬s.next+1+1+1+1+1+1=1:=om;simp only[go_sem,u2,k1,w1];refine ⟨hlt,_,?_,rfl,?_,?_⟩
   ·simp only[u3,if_false,fb9];exact k0
   ·rw[htk,zv,zz,zm];refine .inr ⟨_,by rw[zg,hl0];rfl,?_,?_⟩
    ·simp only[aa5,u4,if_false,if_true]
    ·simp only[aa8,kn];omega
   ·rw[kn];show 1<s.next+1+8;omega
  ·have hi':i=xs.length:=om;subst hi';have c1:¬(xs.length:Int)<xs.length:=om;rw[z4] at hg
   have hvl:v.leaf=true:=by
    rcases hg with ⟨rfl,_⟩|⟨id,rfl,_⟩<;>rfl
   simp only[go_sem,c1,q0,q1,ce1,fb9,hvl];refine .agg _ _ rfl λj hj=>?_
   have:j=0\/j=1\/j=2\/j=3\/j=4\/j=5\/j=6:=by
    simp only[zo,z9] at hj;omega
   rcases this with rfl|rfl|rfl|rfl|rfl|rfl|rfl
   ·exact ad5 _ _
   ·exact bl5 _
   ·exact ad5 _ _
   ·exact ad5 _ _
   ·exact bl5 _
   ·exact bl5 _
   ·have hne:∀id,v=.slice id 0 (xs.map aa6.cs).length 7->id≠0:=λid hv=>hg.ne hv q0 (λ_ h=>by cases h)
    refine Grow.frz (hg.mono (za _) λid hv _=>?_) (λx hx=>(ch3 xs x hx).1) (λ_ _=>zf _) (an2 (bk3 xs));have:¬id=0:=hne id hv;simp only[aa5,this,if_false]
theorem fc1 (xs:List aa6)(σ:Store)(hn:xs.length<=2147483648):Cq 124 [.aa3 (xs.map aa6.cs)] σ λv s=>(∀i,i<σ.next->s.obj i=σ.obj i)/\σ.next<=s.next/\Grow s v 7 (xs.map aa6.cs)/\∀id,v=.slice id 0 xs.length 7->σ.next<=id:=by
 cases hx:xs with
 | nil=>
  rw[zm];refine fg2 ?_ ?_
  ·refine C_f fok124 (nZ rfl) ?_;simp only[ic124,go_sem,ai7];exact ⟨λ_ _=>trivial,za _,.inl ⟨rfl,rfl⟩,λid h=>by cases h⟩
  ·refine C_f fok124 (nZ rfl) ?_;simp only[ic124,go_sem,ai7];rw[bl7 (by simp only[aa5,if_true]) rfl];simp only[go_sem];refine ⟨λi hi=>?_,om,.inr ⟨σ.next,rfl,by simp only[aa5,if_true];rfl,by show σ.next<σ.next+2;omega⟩,λid h=>by cases h;exact za _⟩;have:¬i=σ.next:=om
   simp only[this,if_false]
 | cons a as'=>
  have hne:xs.map aa6.cs≠[]:=by rw[hx];exact λh=>(by cases h)
  rw[<- hx];refine C_f fok124 (nZ rfl) ?_;have hnil:∀d,ct9 (.slice d) (.aa3 (xs.map aa6.cs))=zh false:=λd=>by rw[hx];rfl
  simp only[ic124,go_sem,ai7,hnil];rw[ck3 (by simp only[aa5,if_true]) hne (ch3 xs) (by rw[zb];exact hn)];simp only[go_sem];refine ⟨λi hi=>?_,om,.inr ⟨σ.next+1,by rw[zb],by simp only[aa5,if_true],by show σ.next+1<σ.next+2;omega⟩,λid h=>by cases h;omega⟩;have h1:¬i=σ.next:=om;have h2:¬i=σ.next+1:=om;simp only[h1,h2,if_false]
def dg2 (s:Store)(done:Prop)(v:IV)(l:List aa6):Prop:=(done/\Grow s v 7 (l.map aa6.cs))\/(¬done/\v=ap8 l)
theorem dg2.mono {s s':Store}{done done':Prop}{v:IV}{l:List aa6}(h:dg2 s done v l)(hd:done↔done')(hn:s.next<=s'.next)(ho:∀id cs,id<s.next->s.obj id=zh (.row cs)->s'.obj id=zh (.row cs)):dg2 s' done' v l:=by
 rcases h with ⟨h1,h2⟩|⟨h1,h2⟩
 ·refine .inl ⟨hd.1 h1,?_⟩;rcases h2 with h2|⟨id,hv,hr,hlt⟩
  ·exact .inl h2
  ·exact .inr ⟨id,hv,ho _ _ hlt hr,qs hlt hn⟩
 ·exact .inr ⟨λh=>h1 (hd.2 h),h2⟩
theorem dg2.leaf {s:Store}{done:Prop}{v:IV}{l:List aa6}(h:dg2 s done v l):v.leaf=true:=by
 rcases h with ⟨_,⟨rfl,_⟩|⟨id,rfl,_⟩⟩|⟨_,rfl⟩<;>rfl
def pcs (p:aa2)(v7 v8 v10 v11 v12 v13:IV):List IV :=
 [.str p.name,.int .i64 p.evr.am4,.str p.evr.ver,.str p.evr.rel,.int .u8 p.ap7,.str p.vendor,deps p.provides,v7,v8,deps p.aa7,v10,v11,v12,v13,strs p.files]
def fm9:List IV:=[.str [],.int .i64 0,.str [],.str [],.int .u8 0,.str [],.aa1,.aa1,.aa1,.aa1,.aa1,.aa1,.aa1,.aa1,.aa1]
def hb9:List (List IV):=[[.ptr 0 7],[.ptr 0 8],[.ptr 0 10],[.ptr 0 11],[.ptr 0 12],[.ptr 0 13]]
def ik7:Nat->Nat
 | 0=>7|1=>8|2=>10|3=>11|4=>12|_=>13
def ik8 (p:aa2):Nat->List aa6
 | 0=>p.requires|1=>p.conflicts|2=>p.ar4|3=>p.ap5|4=>p.suggests|_=>p.bb4
def gf6 (p:aa2)(v:Nat->IV):List IV:=pcs p (v 0) (v 1) (v 2) (v 3) (v 4) (v 5)
def up6 (v:Nat->IV)(i:Nat)(x:IV)(k:Nat):IV:=if k=i then x else v k
theorem six {q:Nat->Prop}(h0:q 0)(h1:q 1)(h2:q 2)(h3:q 3)(h4:q 4)(h5:q 5){i:Nat}(h:i<6):q i :=
 match i,h with
 | 0,_=>h0|1,_=>h1|2,_=>h2|3,_=>h3|4,_=>h4|5,_=>h5
theorem jv4 (p:aa2)(v:Nat->IV)(x:IV){i:Nat}(h:i<6):be4 (gf6 p v) (ik7 i) [x]=gf6 p (up6 v i x):=six (q:=λi=>be4 (gf6 p v) (ik7 i) [x]=gf6 p (up6 v i x)) rfl rfl rfl rfl rfl rfl h
theorem jv5 (p:aa2)(v:Nat->IV){i:Nat}(h:i<6):((gf6 p v).drop (ik7 i)).head? = zh (v i):=six (q:=λi=>((gf6 p v).drop (ik7 i)).head? = zh (v i)) rfl rfl rfl rfl rfl rfl h
theorem dv7 (p:aa2)(hf:p.Fit):Pq 81 [.agg p.cs] (.agg p.cs):=by
 refine af4 hE fok81 (nZ rfl) (af3 (aj8 _)) ?_;simp only[ic81,go_sem,ac7,aa2.cs,bx6];refine ab2 (dg1 p.provides (by have:=hf.at5.1;omega)) ?_;simp only[go_sem,bx6];refine ab2 (dg1 p.aa7 (by have:=hf.obs.1;omega)) ?_;simp only[go_sem,bx6];refine ab2 (fb8 p.files (by have:=hf.files.1;omega)) ?_;simp only[go_sem,bx6];refine ab1 noT (λi fr s=>fr=[(1,.ptr 0 0),(2,.ptr 1 0),(25,.aa3 hb9),(26,.int .i64 6),(27,.int .i64 (i:Int))]/\(s.obj 1=zh (.cells fm9)/\1<s.next)/\∃v,s.obj 0=zh (.cells (gf6 p v))/\∀k,k<6->dg2 s (k<i) (v k) (ik8 p k)) 6 ?_ ?_
 ·refine ⟨rfl,⟨?_,?_⟩,λk=>ap8 (ik8 p k),?_,λk _=>.inr ⟨zf _,rfl⟩⟩
  ·simp only[aa5,reduceCtorEq,qa,qb,zw,z3,zt,z2,z1,z7,zs,decide_true,decide_false,↓reduceIte,if_true,if_false];rfl
  ·simp only[aa8];omega
  ·simp only[aa5,reduceCtorEq,qa,qb,zw,z3,zt,z2,z1,z7,zs,decide_true,decide_false,↓reduceIte,if_true,if_false];rfl
 rintro i fr s hle ⟨rfl,⟨q1,hn⟩,v,q0,o⟩;by_cases hlt:i<6
 ·have hv:v i=ap8 (ik8 p i):=(o i hlt).elim (λh=>absurd h.1 (Nat.lt_irrefl _)) λh=>h.2
  have hfl:(ik8 p i).length<2^31/\∀r∈ik8 p i,r.fit/\r.count<2^31:=six (q:=λi=>(ik8 p i).length<2^31/\∀r∈ik8 p i,r.fit/\r.count<2^31) (hf.cw8 (1,p.requires) (by simp[aa2.rows])) (hf.cw8 (2,p.conflicts) (by simp[aa2.rows])) (hf.cw8 (1,p.ar4) (by simp[aa2.rows])) (hf.cw8 (3,p.ap5) (by simp[aa2.rows])) (hf.cw8 (1,p.suggests) (by simp[aa2.rows])) (hf.cw8 (3,p.bb4) (by simp[aa2.rows])) hlt;have g1:=jv5 p v hlt;have g2:hb9.getD i []=[.ptr 0 (ik7 i)]:=six (q:=λi=>hb9.getD i []=[.ptr 0 (ik7 i)]) rfl rfl rfl rfl rfl rfl hlt;have g3:ik7 i+1<=15:=six (q:=λi=>ik7 i+1<=15) (by decide) (by decide) (by decide) (by decide) (by decide) (by decide) hlt;have g4:∀v,(gf6 p v).length=15:=λ_=>rfl
  have g5:hb9.length=6:=rfl;have c1:(i:Int)<6:=om;have c2:(0:Int)<=i:=om;have wi:=ac3 (i:=i) om;rw[hv] at g1;simp only[go_sem,c1,c2,g2,g5,q0,bx6,g1];refine ac4 fok124 (fc1 (ik8 p i) _ (by have:=hfl.1;omega)) ?_;rintro w s2 ⟨hs2,hn2,hg,hid⟩;refine ⟨hn2,?_⟩;have q02:s2.obj 0=zh (.cells (gf6 p v)):=by rw[hs2 0 om];exact q0
  have q12:s2.obj 1=zh (.cells fm9):=by rw[hs2 1 om];exact q1
  have hvl:w.leaf=true:=by rcases hg with ⟨rfl,_⟩|⟨id,rfl,_⟩<;>rfl
  have hvc:w.cs=[w]:=by rcases hg with ⟨rfl,_⟩|⟨id,rfl,_⟩<;>rfl
  have g6:=jv4 p v w hlt;have g7:=jv5 p (up6 v i w) hlt;rw[show up6 v i w i=w from if_pos rfl] at g7;have hvo:∀k,k≠i->up6 v i w k=v k:=λk hk=>if_neg hk
  have hvi:up6 v i w i=w:=if_pos rfl;clear g1;generalize up6 v i w=u at *;obtain ⟨L,hLd⟩:∃L,L=ik8 p i:=⟨_,rfl⟩;rw[<- hLd] at hv hfl hg ⊢;generalize ik7 i=off at *
  have hlen:∀s,cc2 0 s w=zh (.int .i64 (L.length:Nat)):=λs=>by
   rcases hg with ⟨rfl,he⟩|⟨id,rfl,_⟩
   ·have:L=[]:=by simpa using he
    rw[this];rfl
   ·rw[dc9,zb]
  simp only[go_sem,q02,hvl,hvc,hlen,bx6,g3,g4,g6,g7]
  refine ab1 noT (λj fr t=>fr=[(1,.ptr 0 0),(2,.ptr 1 0),(4,.ptr 0 off),(25,.aa3 hb9),(26,.int .i64 6),(27,.int .i64 (i:Int)),(39,w),(40,.int .i64 L.length),(41,.int .i64 j)] /\
   s2.next<=t.next/\t.obj 0=zh (.cells (gf6 p u))/\t.obj 1=zh (.cells fm9)/\∀id cs,id<s2.next->s2.obj id=zh (.row cs)->t.obj id=zh (.row cs)) L.length ⟨rfl,za _,?_,?_,?_⟩ ?_
  ·simp only[aa5,if_true]
  ·simp only[aa5,reduceCtorEq,qa,qb,zw,z3,zt,z2,z1,z7,zs,decide_true,decide_false,↓reduceIte,if_false];exact q12
  ·intro id cs hlt' h;have:¬id=0:=λe=>by subst e;rw[q02] at h;cases h
   simp only[aa5,this,if_false];exact h
  rintro j fr t hle' ⟨rfl,t0,t1,t2,t3⟩;by_cases hjl:j<L.length
  ·obtain ⟨a,ha,_,hdr,hget,_⟩:=ad2 L j hjl;rcases hg with ⟨_,he⟩|⟨id,rfl,ho,hil⟩
   ·have:L=[]:=by simpa using he
    rw[this] at hjl;cases hjl
   have hrow:=t3 _ _ hil ho;have d1:(j:Int)<L.length:=om;have d2:(0:Int)<=j:=om;have w1:=ac3 (i:=j) (by have:=hfl.1;omega);have hid0:¬id=0:=λe=>by subst e;rw[t1] at hrow;cases hrow
   have hid1:¬id=1:=λe=>by subst e;rw[t2] at hrow;cases hrow
   have u0:¬0=t.next:=om;have u1:¬1=t.next:=om;have u2:¬id=t.next:=om;have u3:¬t.next=id:=om;have u4:¬0=id:=om;have u5:¬1=id:=om;have hall:=λx hx=>(ch3 L x hx).1
   have hfl2:=bl6 hall;have hpart:=cd2 hall j (by rw[zb];exact hjl);rw[hget] at hpart;rw[zb] at hfl2;have hin:7<=((L.map aa6.cs).flatten.drop (j*7)).length:=by rw[zr,hfl2];omega
   have hin2:j*7+7<=(L.map aa6.cs).flatten.length:=by rw[hfl2];omega
   have hsame:be4 (L.map aa6.cs).flatten (j*7) a.cs=(L.map aa6.cs).flatten:=gp8 (by rw[ae6];exact hpart) (by rw[ae6];exact hin2);simp only[go_sem,d1,d2,hrow,hin,hpart,bx6,ew4,ae6,ac5,ad9,t1,g7,u0,u2,u3,hid0];refine ab2 (ep2 a (hfl.2 a ha).1) ?_;simp only[go_sem,d1,d2,hrow,hin2,bx6,ew5,ae6,ac5,hsame,t1,g7,u0,u2,w1];refine ⟨hjl,om,?_,?_,?_⟩
   ·simp only[u4,if_false]
   ·simp only[u5,u1,if_false];exact t2
   ·intro id' cs hlt' h;have h':=t3 id' cs hlt' h;have u6:¬id'=t.next:=om;by_cases e:id'=id
    ·subst e;rw[hrow] at h';simp only[if_true];exact h'
    ·simp only[e,u6,if_false];exact h'
  ·have hj':j=L.length:=om;subst hj';have d1:¬(L.length:Int)<L.length:=om
   have hgt:Grow t w 7 (L.map aa6.cs):=by
    rcases hg with h|⟨id,rfl,ho,hil⟩
    ·exact .inl h
    ·exact .inr ⟨id,rfl,t3 _ _ hil ho,om⟩
   have hrows:∀id cs,id<s.next->s.obj id=zh (.row cs)->t.obj id=zh (.row cs):=λid cs hlt' h=>t3 id cs om (by rw[hs2 id hlt'];exact h)
   simp only[go_sem,d1,wi];refine ⟨hlt,⟨t2,om⟩,u,t1,λk hk=>?_⟩;by_cases e:k=i
   ·subst e;rw[hvi,<- hLd];exact .inl ⟨z6 _,hgt⟩
   ·rw[hvo k e];exact (o k hk).mono om om hrows
 ·have hi':i=6:=om;subst hi';have c1:¬((6:Nat):Int)<6:=om;have lf:=λk (hk:k<6)=>(o k hk).leaf
  simp only[go_sem,c1,q0,q1,gf6,pcs,fm9,ce1,lf 0 (by decide),lf 1 (by decide),lf 2 (by decide),lf 3 (by decide),lf 4 (by decide),lf 5 (by decide)]
  have fz:∀(v:IV) (l:List aa6) (k:Nat) (s':Store),k<6->dg2 s (k<6) v l->(∀id cs,s.obj id=zh (.row cs)->s'.obj id=zh (.row cs))->s.next<=s'.next->cb5 s' 0 v (ap8 l):=by
   intro v l k s' hk ho h1 h2;rcases ho.mono Iff.rfl h2 (λid cs _ h=>h1 id cs h) with ⟨_,h⟩|⟨h,_⟩
   ·exact h.frz (λx hx=>(ch3 l x hx).1) (λ_ _=>zf _) (an2 (bk3 l))
   ·exact absurd hk h
  have hr:∀id cs,s.obj id=zh (.row cs)->(s.put 1 (aj2.cells (gf6 p v))).obj id=zh (.row cs):=λid cs h=>by
   have:¬id=1:=λe=>by subst e;rw[q1] at h;cases h
   simp only[aa5,this,if_false];exact h
  have b1:=λy hy=>Frz.keep (σ:=s.put 1 (aj2.cells (gf6 p v))) (S:=λi=>i<0) y hy
  exact .ke1 (.cons (bl5 _) (.cons (ad5 _ _) (.cons (bl5 _) (.cons (bl5 _) (.cons (ad5 _ _) (.cons (bl5 _) (.cons (b1 _ (ch2 _))
   (.cons (fz (v 0) _ 0 _ (by decide) (o 0 (by decide)) hr (za _)) (.cons (fz (v 1) _ 1 _ (by decide) (o 1 (by decide)) hr (za _)) (.cons (b1 _ (ch2 _)) (.cons (fz (v 2) _ 2 _ (by decide) (o 2 (by decide)) hr (za _)) (.cons (fz (v 3) _ 3 _ (by decide) (o 3 (by decide)) hr (za _))
   (.cons (fz (v 4) _ 4 _ (by decide) (o 4 (by decide)) hr (za _)) (.cons (fz (v 5) _ 5 _ (by decide) (o 5 (by decide)) hr (za _)) (.cons (b1 _ (cz3 _)) .nil)))))))))))))))
theorem bw9 (r:be5):r.cs.length=17:=by unfold be5.cs;rw[zg];rfl
theorem dg4 (r:be5):r.cs.all IV.leaf=true:=by unfold be5.cs;rw[ql];rfl
theorem fn2 (r:be5):∀c∈r.cs,Bnd 0 c:=by
 intro c hc;unfold be5.cs at hc;rcases qk.1 hc with h|h
 ·exact au6 _ c h
 ·simp only[zp,zn,or_false] at h;rcases h with rfl|rfl<;>exact .int _ _
theorem ch4 {s s':Store}{v:IV}{esz:Nat}{es:List (List IV)}(h:Grow s v esz es):cc2 0 s' v=zh (.int .i64 es.length):=by
 rcases h with ⟨rfl,rfl⟩|⟨id,rfl,_⟩<;>rfl
structure PS (s:Store) (pp mid:Nat) (rows:List be5) (inst:Int) (L:NmL) (rv:IV) (B:Nat):Prop where
 cell:s.obj pp=zh (.cells [rv,.int .i64 inst,.map mid])
 grow:Grow s rv 17 (rows.map be5.cs)
 map:s.obj mid=zh (.map (mEs L))
 row:∀t∈L,s.obj t.2.2=zh (.row (t.2.1.map ae1).flatten)/\t.2.2<s.next/\t.2.1.length<=B
 ids:(L.map (·.2.2)).Nodup
 keys:(L.map (·.1)).Nodup
 ne:∀id n,rv=.slice id 0 n 17->∀t∈L,t.2.2≠id
 lt:pp<s.next/\mid<s.next
theorem PS.mono {s s':Store}{pp mid:Nat}{rows:List be5}{inst:Int}{L:NmL}{rv:IV}{B:Nat}(h:PS s pp mid rows inst L rv B)(hn:s.next<=s'.next)(ho:∀i,i<s.next->s'.obj i=s.obj i):PS s' pp mid rows inst L rv B where
 cell:=by rw[ho _ h.lt.1];exact h.cell
 grow:=h.grow.mono hn λid _ hid=>ho id hid
 map:=by rw[ho _ h.lt.2];exact h.map
 row:=λt ht=>⟨by rw[ho _ (h.row t ht).2.1];exact (h.row t ht).1,by have:=(h.row t ht).2.1;omega,(h.row t ht).2.2⟩
 ids:=h.ids
 keys:=h.keys
 ne:=h.ne
 lt:=⟨by have:=h.lt.1;omega,by have:=h.lt.2;omega⟩
theorem ca6 (l:List Int):∀e∈l.map Md.ae1,e.length=1/\e.all IV.leaf=true:=λe he=>by
 obtain ⟨x,_,rfl⟩:=zd.1 he;exact ⟨rfl,rfl⟩
theorem fn3 (l:List be5):∀e∈l.map be5.cs,e.length=17/\e.all IV.leaf=true:=λe he=>by
 obtain ⟨x,_,rfl⟩:=zd.1 he;exact ⟨bw9 x,dg4 x⟩
theorem PS.name {s:Store}{pp mid:Nat}{rows:List be5}{inst:Int}{L:NmL}{rv:IV}{B:Nat}(h:PS s pp mid rows inst L rv B)(k:Str)(n:Int)(m nid:Nat)(hm:s.next<=m)(hnew:s.next<=nid)(hb:B<2^30) :
  ∃s1,as2 ⟨m,s.obj⟩ nid 1 (dd6 L k) (.aa3 [[.int .i64 n]])=zh (.slice nid 0 ((ci6 L k).length+1) 1,s1)/\s1.next=m/\s1.obj mid=zh (.map (mEs L))/\(∀i cs,i<s.next->s.obj i=zh (.cells cs)->s1.obj i=zh (.cells cs)) /\
   ∀nx,nid<nx->PS ⟨nx,(s1.put mid (.map (mEs (be6 L k n nid)))).obj⟩ pp mid rows inst (be6 L k n nid) rv (B+1):=by
 have hg0:Grow s (dd6 L k) 1 ((ci6 L k).map Md.ae1):=by
  rcases ce5 L k with ⟨h1,h2⟩|⟨t,ht,_,h1,h2⟩
  ·rw[h1,h2];exact .inl ⟨rfl,rfl⟩
  ·rw[h1,h2];exact .inr ⟨t.2.2,by rw[zb],(h.row t ht).1,(h.row t ht).2.1⟩
 have hg:Grow ⟨m,s.obj⟩ (dd6 L k) 1 ((ci6 L k).map Md.ae1):=Grow.mono (σ:=s) hg0 hm λ_ _ _=>rfl
 have hlen:(ci6 L k).length<=B:=by
  rcases ce5 L k with ⟨h1,h2⟩|⟨t,ht,_,h1,h2⟩
  ·rw[h2];exact qp _
  ·rw[h2];exact (h.row t ht).2.2
 have hap:=ai2 (nid:=nid) (e:=[.int .i64 n]) hg (ca6 _) ⟨rfl,rfl⟩ (by rw[zb];omega);rw[zb] at hap;have hmid:¬mid=nid:=by have:=h.lt.2;omega
 have hpp:¬pp=nid:=by have:=h.lt.1;omega
 have hpm:¬pp=mid:=λe=>by have h1:=h.cell;have h2:=h.map;rw[e,h2] at h1;cases h1
 have km:=af5 hg mid _ h.map (λ_ e=>by cases e);have kp:=af5 hg pp _ h.cell (λ_ e=>by cases e)
 have kother:∀i cs,s.obj i=zh (.row cs)->(∀t∈L,t.1=k->t.2.2≠i)->(ae9 (dd6 L k) ⟨m,s.obj⟩).obj i=zh (.row cs):=by
  intro i cs hi hne;rcases ce5 L k with ⟨h1,_⟩|⟨t,ht,hk,h1,_⟩
  ·rw[h1];exact hi
  ·rw[h1];show (if i=t.2.2 then none else s.obj i)=_;rw[if_neg (λe=>hne t ht hk e.symm)];exact hi
 refine ⟨_,hap,by rw[aa8,ab7],by rw[aa5,if_neg hmid];exact km,λi cs hi h=>by rw[aa5,if_neg om];exact af5 hg i _ h (λ_ e=>by cases e),λnx hnx=>?_⟩;have hrow_ne_mid:∀i cs,s.obj i=zh (.row cs)->¬i=mid:=λi cs hi e=>by subst e;rw[h.map] at hi;cases hi
 exact {
  cell:=by
   show (if pp=mid then _ else if pp=nid then _ else (ae9 (dd6 L k) ⟨m,s.obj⟩).obj pp)=_;rw[if_neg hpm,if_neg hpp];exact kp
  grow:=by
   rcases h.grow with h1|⟨id,hv,ho,hlt⟩
   ·exact .inl h1
   ·refine .inr ⟨id,hv,?_,by show id<nx;omega⟩;show (if id=mid then _ else if id=nid then _ else (ae9 (dd6 L k) ⟨m,s.obj⟩).obj id)=_;rw[if_neg (hrow_ne_mid _ _ ho),if_neg om];exact kother id _ ho λt ht _=>h.ne id _ hv t ht
  map:=by
   show (if mid=mid then _ else _)=_;rw[if_pos rfl]
  row:=by
   intro t ht;rcases eb3 h.keys t ht with ⟨h1,h2⟩|rfl
   ·obtain ⟨r1,r2,r3⟩:=h.row t h1;refine ⟨?_,by show t.2.2<nx;omega,om⟩;show (if t.2.2=mid then _ else if t.2.2=nid then _ else (ae9 (dd6 L k) ⟨m,s.obj⟩).obj t.2.2)=_;rw[if_neg (hrow_ne_mid _ _ r1),if_neg om];exact kother _ _ r1 λu hu hk e=>h2 (by rw[<- gs5 h.keys h.ids u hu t h1 e];exact hk)
   ·refine ⟨?_,hnx,?_⟩
    ·show (if nid=mid then _ else if nid=nid then _ else _)=_;rw[if_neg (λe=>hmid e.symm),if_pos rfl,zv];rfl
    ·show (ci6 L k++[n]).length<=B+1;rw[zg];simp;exact hlen
  ids:=(gs4 L h.ids (λhm=>by
   obtain ⟨t,ht,e⟩:=zd.1 hm;have:=(h.row t ht).2.1;have e':t.2.2=nid:=e;omega)).1
  keys:=(fg7 L h.keys).1
  ne:=by
   intro id m hv t ht;rcases eb3 h.keys t ht with ⟨h1,h2⟩|rfl
   ·exact h.ne id m hv t h1
   ·rcases h.grow with ⟨h1,_⟩|⟨id',hv',ho,hlt⟩
    ·rw[h1] at hv;cases hv
    ·rw[hv'] at hv;cases hv;show nid≠id;omega
  lt:=⟨by have:=h.lt.1;show pp<nx;omega,by have:=h.lt.2;show mid<nx;omega⟩ }
theorem il8 {σ:Store}{mid:Nat}{L:NmL}(h:σ.obj mid=zh (.map (mEs L)))(k:Str):cj1 σ 2 .aa1 false (.map mid) (.str k)=zh (dd6 L k):=by
 obtain ⟨r,h1,h2⟩:=jc4 L k;simp only[cj1,cb9,h,h1,h2,zj,if_false]
theorem fn4 {σ:Store}{mid:Nat}{L:NmL}(h:σ.obj mid=zh (.map (mEs L)))(k:Str)(n:Int)(nid:Nat):ao9 σ 2 (.map mid) (.str k) (.slice nid 0 ((ci6 L k).length+1) 1)=zh (σ.put mid (.map (mEs (be6 L k n nid)))):=by
 simp only[ao9,h,kh2 L k n nid,qj]
theorem fn5 (x:aa2):x.cs.head? = zh (.str x.name):=rfl
theorem bl1 (x:aa2):(x.cs++[IV.int .i64 0,IV.int .i64 0]).length=17:=rfl
theorem bl2 (x:aa2)(a:Int):(be4 (x.cs++[IV.int .i64 0,IV.int .i64 0]) 15 [IV.int .i64 a]).length=17:=rfl
theorem bl3 (x:aa2)(a b:Int):be4 (be4 (x.cs++[IV.int .i64 0,IV.int .i64 0]) 15 [IV.int .i64 a]) 16 [IV.int .i64 b]=(be5.mk x a b).cs:=rfl
theorem he9 (r:be5):r.cs.take 17=r.cs:=zc (by rw[bw9];exact za _)
theorem PS.push {s:Store}{pp mid:Nat}{rows:List be5}{inst:Int}{L:NmL}{rv:IV}{B:Nat}(h:PS s pp mid rows inst L rv B)(r:be5)(m nid:Nat)(hm:s.next<=m)(hnew:s.next<=nid)(hb:rows.length<2^30) :
  ∃s1,as2 ⟨m,s.obj⟩ nid 17 rv (.aa3 [r.cs])=zh (.slice nid 0 (rows.length+1) 17,s1)/\s1.next=m/\s1.obj pp=s.obj pp /\
   ∀nx,nid<nx->PS ⟨nx,(s1.put pp (.cells [.slice nid 0 (rows.length+1) 17,.int .i64 inst,.map mid])).obj⟩ pp mid (rows++[r]) inst L (.slice nid 0 (rows.length+1) 17) B:=by
 have hg:Grow ⟨m,s.obj⟩ rv 17 (rows.map be5.cs):=Grow.mono (σ:=s) h.grow hm λ_ _ _=>rfl
 have hap:=ai2 (nid:=nid) (e:=r.cs) hg (fn3 rows) ⟨bw9 r,dg4 r⟩ (by rw[zb];omega);rw[zb] at hap;have hmid:¬mid=nid:=by have:=h.lt.2;omega
 have hpp:¬pp=nid:=by have:=h.lt.1;omega
 have hmp:¬mid=pp:=λe=>by have h1:=h.cell;have h2:=h.map;rw[<- e,h2] at h1;cases h1
 have km:=af5 hg mid _ h.map (λ_ e=>by cases e);have kp:=af5 hg pp _ h.cell (λ_ e=>by cases e);refine ⟨_,hap,by rw[aa8,ab7],by rw[aa5,if_neg hpp,kp,h.cell],λnx hnx=>?_⟩
 exact {
  cell:=by
   show (if pp=pp then _ else _)=_;rw[if_pos rfl]
  grow:=by
   refine .inr ⟨nid,by rw[zv,zg,zb];rfl,?_,hnx⟩;show (if nid=pp then _ else if nid=nid then _ else _)=_;rw[if_neg (λe=>hpp e.symm),if_pos rfl,zv];rfl
  map:=by
   show (if mid=pp then _ else if mid=nid then _ else (ae9 rv ⟨m,s.obj⟩).obj mid)=_;rw[if_neg hmp,if_neg hmid];exact km
  row:=by
   intro t ht;obtain ⟨r1,r2,r3⟩:=h.row t ht;refine ⟨?_,by show t.2.2<nx;omega,r3⟩;have e1:¬t.2.2=pp:=λe=>by rw[e,h.cell] at r1;cases r1
   show (if t.2.2=pp then _ else if t.2.2=nid then _ else (ae9 rv ⟨m,s.obj⟩).obj t.2.2)=_;rw[if_neg e1,if_neg om];rcases h.grow with ⟨hv,_⟩|⟨id,hv,ho,hlt⟩
   ·rw[hv];exact r1
   ·rw[hv];show (if t.2.2=id then none else s.obj t.2.2)=_;rw[if_neg (h.ne id _ hv t ht)];exact r1
  ids:=h.ids
  keys:=h.keys
  ne:=by
   intro id m hv t ht;cases hv;have:=(h.row t ht).2.1;omega
  lt:=⟨by have:=h.lt.1;show pp<nx;omega,by have:=h.lt.2;show mid<nx;omega⟩ }
def kx2 (n pp mid:Nat)(rows:List be5)(inst:Int)(nm:Nms)(l:List aa2)(fh8 prio:Int):IV->Store->Prop:=λv s=>
 n<=s.next/\((l.all aj7=true/\v=.int .i64 0/\∃L rv,bc8 L=eb2 nm rows.length l/\PS s pp mid (rows++rowsOf l fh8 prio) inst L rv (rows.length+l.length))\/(l.all aj7=false/\v=.int .i64 4))
theorem jw3 (l:List aa2)(hl:l.length<2^20)(hf:∀p∈l,p.Fit)(fh8 prio:Int)(σ:Store)(pp mid:Nat)(rows:List be5)(hr:rows.length<2^20)(inst:Int)(L:NmL)(rv:IV)(hp:PS σ pp mid rows inst L rv rows.length) :
  Cq 46 [.ptr pp 0,.aa3 (l.map aa2.cs),.int .i64 fh8,.int .i64 prio] σ (kx2 σ.next pp mid rows inst (bc8 L) l fh8 prio):=by
 refine C_f fok46 (nZ rfl) ?_;simp only[ic46,go_sem]
 refine ab1 noT (λi fr s=>fr=[(0,.ptr pp 0),(2,.int .i64 fh8),(3,.int .i64 prio),(11,.aa3 (l.map aa2.cs)),(12,.int .i64 l.length),(13,.int .i64 i)]/\σ.next<=s.next/\(l.take i).all aj7=true /\
  ∃L' rv',eb2 (bc8 L') (rows.length+i) (l.drop i)=eb2 (bc8 L) rows.length l/\PS s pp mid (rows++rowsOf (l.take i) fh8 prio) inst L' rv' (rows.length+i)) l.length ⟨rfl,za _,rfl,L,rv,rfl,by simpa [rowsOf] using hp⟩ ?_
 rintro i fr s hle ⟨rfl,hn,hall,L',rv',hnm,h⟩;by_cases hlt:i<l.length
 ·obtain ⟨x,hx,_,hdr,hget,htk⟩:=ad2 l i hlt;have c1:(i:Int)<l.length:=om;have c2:(0:Int)<=i:=om;have w1:=ac3 (i:=i) om;simp only[go_sem,c1,c2,hget,af7,ae8,ac7];refine ab2 (hb8 x (hf x hx)) ?_
  cases hm:aj7 x with
  | false=>
   have:l.all aj7=false:=by rw[qt];exact ⟨x,hx,by simp[hm]⟩
   simp only[go_sem]
   exact ⟨by simp only[aa8];omega,.inr ⟨this,rfl⟩⟩
  | true=>
   generalize hS:Store.mk (s.next+1) _=S1;have hS1:S1.next=s.next+1:=by rw[<- hS]
   have hbx:S1.obj s.next=zh (.cells x.cs):=by
    rw[<- hS];simp only[aa5,if_true]
   have h1:PS S1 pp mid (rows++rowsOf (l.take i) fh8 prio) inst L' rv' (rows.length+i):=h.mono om λj hj=>by
    have e:¬j=s.next:=om;rw[<- hS];simp only[aa5,e,if_false]
   have hlen:=ch4 (s':=⟨S1.next+21,S1.obj⟩) h1.grow
   have hrl:((rows++rowsOf (l.take i) fh8 prio).map be5.cs).length=rows.length+i:=by
    rw[zb,zg,rowsOf,zb,qi];omega
   rw[hrl] at hlen;obtain ⟨s2,ha1,ha2,ha3,ha4,hps⟩:=h1.name x.name ((rows.length+i:Nat):Int) (S1.next+21) (S1.next+19) om om om;have hlk:=il8 (σ:=⟨S1.next+21,S1.obj⟩) h1.map x.name;simp only[go_sem,zu,h1.cell,hbx,hlen,fn5,hlk];rw[ha1];simp only[go_sem,zu];rw[fn4 ha3 x.name ((rows.length+i:Nat):Int)];have h2:=hps (S1.next+21) om;have hmb:¬s.next=mid:=by have:=h.lt.2;omega
   have hb2:(s2.put mid (aj2.map (mEs (be6 L' x.name ((rows.length+i:Nat):Int) (S1.next+19))))).obj s.next=zh (.cells x.cs):=by
    simp only[aa5,hmb,if_false];exact ha4 _ _ om hbx
   have hn3:(s2.put mid (aj2.map (mEs (be6 L' x.name ((rows.length+i:Nat):Int) (S1.next+19))))).next=S1.next+21:=ha2;generalize s2.put mid (aj2.map (mEs (be6 L' x.name ((rows.length+i:Nat):Int) (S1.next+19))))=S3 at *;obtain ⟨s4,hb3,hb4,hb5,hps2⟩:=h2.push ⟨x,fh8,prio⟩ (S3.next+15) (S3.next+11) (by show S1.next+21<=_;omega) (by show S1.next+21<=_;omega) (by rw[zg,rowsOf,zb,qi];omega);have hc3:=h2.cell;simp only at hc3 hb3;simp only[go_sem,zu,hc3,hb2,af7,ae8,ac7];refine ab2 (dv7 x (hf x hx)) ?_;simp only[go_sem,zu,af7,ae8,ac7,bl1,bl2,bl3,bw9,dg4,he9,List.append_nil,List.drop_nil];rw[hb3];have hc4:s4.obj pp=zh (.cells [rv',.int .i64 inst,.map mid]):=by rw[hb5];exact hc3
   simp only[go_sem,zu,hc4,w1];have h5:=hps2 s4.next (by rw[hb4];omega);refine ⟨hlt,om,?_,be6 L' x.name ((rows.length+i:Nat):Int) (S1.next+19),.slice (S3.next+11) 0 ((rows++rowsOf (l.take i) fh8 prio).length+1) 17,?_,?_⟩
   ·rw[htk,ql,hall];simp[hm]
   rotate_left
   ·rw[htk,ex1,<- zq];exact h5
   ·rw[<- hnm,hdr,eb2,cy4,<- zu]
 ·have hi':i=l.length:=om;subst hi';have c1:¬(l.length:Int)<l.length:=om;simp only[go_sem,c1];rw[z4] at hall h;rw[ze] at hnm;exact ⟨hn,.inl ⟨hall,rfl,L',rv',hnm,h⟩⟩
def ao2.Fit (r:ao2):Prop:=r.packages.length<2^20/\∀p∈r.packages,p.Fit
theorem il9 (r:ao2):∀c∈r.cs,Bnd 0 c:=by
 intro c hc;simp only[ao2.cs,zp,zn,or_false] at hc;rcases hc with rfl|rfl
 ·exact .int _ _
 ·exact .aa3 _ λe he c hc=>by
   obtain ⟨p,_,rfl⟩:=zd.1 he;exact au6 p c hc
abbrev av4 (l:List aa2):IV:=.aa3 (l.map aa2.cs)
abbrev ba6 (l:List ao2):IV:=.aa3 (l.map ao2.cs)
theorem ap6 (l:List aa2):Bnd 0 (av4 l):=.aa3 _ λe he c hc=>by
 obtain ⟨p,_,rfl⟩:=zd.1 he;exact au6 p c hc
theorem br5 (l:List ao2):Bnd 0 (ba6 l):=.aa3 _ λe he c hc=>by
 obtain ⟨p,_,rfl⟩:=zd.1 he;exact il9 p c hc
theorem ak3 {P:IV->Prop}{u v:IV}(hu:P u)(hv:P v):∀a∈[u,v],P a:=λa ha=>by
 cases ha with
 | head=>exact hu
 | tail _ h=>cases h with
  | head=>exact hv
  | tail _ h=>cases h
theorem bn3 (r:ao2):r.cs.length=2:=rfl
theorem dg5 (r:ao2):r.cs.all IV.leaf=true:=rfl
theorem dg6 (r:ao2):r.cs.take 2=r.cs:=rfl
theorem ee9 (l:List ao2)(i:Nat)(a:ao2)(h:l.drop i=a::l.drop (i+1)):am8 (l.drop i)=a.packages.length+am8 (l.drop (i+1)):=by
 rw[h];simp[am8]
theorem PS.frz {s:Store}{pp mid:Nat}{rows:List be5}{inst:Int}{L:NmL}{rv:IV}{B:Nat}(h:PS s pp mid rows inst L rv B):cb5 s 0 (.ptr pp 0) (Pool.v ⟨rows,inst,bc8 L⟩):=by
 refine .ptr pp 0 _ _ (zf _) (.inl h.cell) (za _) λj hj=>?_
 have hj3:j=0\/j=1\/j=2:=by simp only[zo,z9] at hj;omega
 rcases hj3 with rfl|rfl|rfl
 ·refine h.grow.frz (λx hx=>(fn3 rows x hx).1) (λ_ _=>zf _) λe he c hc=>?_
  obtain ⟨r,_,rfl⟩:=zd.1 he;exact fn2 r c hc
 ·exact ad5 _ _
 ·have hat:∀i,i<(mEs L).length->∃t∈L,(mEs L).getD i (.undef,.undef)=(.str t.1,.slice t.2.2 0 t.2.1.length 1)/\(nmV (bc8 L)).getD i (.undef,.undef)=(.str t.1,.aa3 (t.2.1.map Md.ae1)):=by
   intro i hi;have hi':i<L.length:=by simpa [mEs] using hi
   exact ⟨L[i],List.getElem_mem hi',by simp[mEs,zx,hi'],by simp[nmV,bc8,zx,hi']⟩
  refine .map mid (mEs L) (nmV (bc8 L)) (nmV (bc8 L)) (zf _) h.map (by simp[nmV,bc8,mEs]) (List.Perm.refl _) ⟨?_,.str,λe he=>?_⟩ (λi hi=>?_) (λi hi=>?_)
  ·have:(nmV (bc8 L)).map (·.1)=(L.map (·.1)).map IV.str:=by simp[nmV,bc8]
   rw[this];exact List.Pairwise.map _ (λa b hab e=>hab (by cases e;rfl)) h.keys
  ·simp only[nmV,zd] at he;obtain ⟨t,_,rfl⟩:=he;trivial
  ·obtain ⟨t,ht,e1,e2⟩:=hat i hi;rw[e1,e2];exact bl5 _
  ·obtain ⟨t,ht,e1,e2⟩:=hat i hi;rw[e1,e2];obtain ⟨r1,r2,_⟩:=h.row t ht;have hg:Grow s (.slice t.2.2 0 t.2.1.length 1) 1 (t.2.1.map Md.ae1):=.inr ⟨t.2.2,by rw[zb],r1,r2⟩;refine hg.frz (λx hx=>(ca6 _ x hx).1) (λ_ _=>zf _) λe he c hc=>?_
   obtain ⟨n,_,rfl⟩:=zd.1 he
   cases hc with
   | head=>exact .int _ _
   | tail _ h=>cases h
theorem ef1 {s:Store}(n:Int):cb5 s 0 (.tuple [.ae3,.int .i64 n]) (.tuple [.ae3,.int .i64 n]):=.by4 (.cons (.keep _ .ae3) (.cons (ad5 _ _) .nil))
theorem ct7 (repos:List ao2)(inst:List aa2)(h1:repos.length<2^20)(h2:inst.length<2^20)(h3:am8 repos<2^40)(hr:∀r∈repos,ao2.Fit r)(hi:∀p∈inst,p.Fit) :
  Pq 24 [ba6 repos,av4 inst] (jr5 (ce4 repos inst)):=by
 refine af4 hE fok24 (nZ rfl) (ak3 (br5 _) (ap6 _)) ?_;simp only[ic24,go_sem];refine ab1 noT (λi fr s=>∃n:Nat,fr=[(0,ba6 repos),(1,av4 inst),(6,.int .i64 n),(16,ba6 repos),(17,.int .i64 repos.length),(18,.int .i64 i)]/\n+am8 (repos.drop i)=inst.length+am8 repos) repos.length ⟨inst.length,rfl,rfl⟩ ?_;rintro i fr s hle ⟨n,rfl,hn⟩;by_cases hlt:i<repos.length
 ·obtain ⟨a,ha,_,hdr,hget,htk⟩:=ad2 repos i hlt;have c1:(i:Int)<repos.length:=om;have c2:(0:Int)<=i:=om;have w1:=ac3 (i:=i) om;rw[ee9 repos i a hdr] at hn
  have w2:IntKind.i64.wrap ((n:Int)+a.packages.length)=((n+a.packages.length:Nat):Int):=by
   rw[wrap64 om om];omega
  simp only[go_sem,c1,c2,hget,bn3,dg6,dg5];simp only[go_sem,ao2.cs,w1,w2];exact ⟨hlt,n+a.packages.length,rfl,om⟩
 have hi':i=repos.length:=om;subst hi';have c1:¬(repos.length:Int)<repos.length:=om;have hn0:n=inst.length+am8 repos:=by rw[ze] at hn;simpa [am8] using hn
 subst hn0;by_cases b1:16<repos.length
 ·have b1':(16:Int)<repos.length:=om;simp only[go_sem,c1,b1',ce4,b1,true_or];exact .by4 (.cons (.keep _ .ae3) (.cons (ad5 _ _) .nil))
 have b1':¬(16:Int)<repos.length:=om;by_cases b2:256<inst.length+am8 repos
 ·have b2':(256:Int)<((inst.length+am8 repos:Nat):Int):=om;simp only[go_sem,c1,b1',b2',ce4,b1,b2,or_true];exact .by4 (.cons (.keep _ .ae3) (.cons (ad5 _ _) .nil))
 have b2':¬(256:Int)<((inst.length+am8 repos:Nat):Int):=om;simp only[go_sem,c1,b1',b2']
 have hp0:PS ⟨s.next+2,((Store.put ⟨s.next+2,s.obj⟩ s.next (aj2.map [])).put (s.next+1) (aj2.cells [.aa1,.int .i64 inst.length,.map s.next])).obj⟩ (s.next+1) s.next [] inst.length [] .aa1 0 :=
  {cell:=by simp only[aa5,if_true]
   grow:=.inl ⟨rfl,rfl⟩
   map:=by
    have e:¬s.next=s.next+1:=om;simp only[aa5,e,if_false,if_true];rfl
   row:=λt ht=>by cases ht
   ids:=List.nodup_nil
   keys:=List.nodup_nil
   ne:=λ_ _ h=>by cases h
   lt:=⟨by show s.next+1<s.next+2;omega,by show s.next<s.next+2;omega⟩ }
 refine ac4 fok46 (jw3 inst h2 hi (-1) 1025 _ (s.next+1) s.next [] (by decide) inst.length [] .aa1 hp0) ?_;rintro v s2 ⟨n2,⟨g1,rfl,L1,rv1,g2,g3⟩|⟨g1,rfl⟩⟩
 case inr=>
  refine ⟨n2,?_⟩;simp only[go_sem,ce4,b1,b2,or_self,g1];exact ef1 _
 refine ⟨n2,?_⟩
 have hres:ce4 repos inst=match al8 0 repos (rowsOf inst (-1) 1025,eb2 [] 0 inst) with
  | some (rows,nm)=>.inl ⟨rows,inst.length,nm⟩
  | none=>.inr 4:=by
  simp only[ce4,b1,b2,or_self,if_false,g1,Bool.true_eq_false];rfl
 rw[hres];simp only[go_sem]
 refine ab1 noT (λi fr t=>fr=[(9,.ptr (s.next+1) 0),(46,ba6 repos),(47,.int .i64 repos.length),(48,.int .i64 i)]/\∃rows L rv,PS t (s.next+1) s.next rows inst.length L rv rows.length /\
  al8 0 repos (rowsOf inst (-1) 1025,eb2 [] 0 inst)=al8 i (repos.drop i) (rows,bc8 L)/\rows.length+am8 (repos.drop i)=inst.length+am8 repos) repos.length ⟨rfl,rowsOf inst (-1) 1025,L1,rv1,?_,?_,?_⟩ ?_
 ·have e:(rowsOf inst (-1) 1025).length=0+inst.length:=by rw[bv9];omega
  rw[e];exact g3
 ·rw[g2];rfl
 ·rw[bv9];rfl
 rintro i fr t hle ⟨rfl,rows,L,rv,hp,hrf,hsum⟩;by_cases hlt:i<repos.length
 ·obtain ⟨a,ha,_,hdr,hget,htk⟩:=ad2 repos i hlt;have c1:(i:Int)<repos.length:=om;have c2:(0:Int)<=i:=om;have w1:=ac3 (i:=i) om;rw[ee9 repos i a hdr] at hsum;rw[hdr] at hrf;simp only[go_sem,c1,c2,hget,bn3,dg6,dg5];by_cases p1:a.priority<0
  ·simp only[go_sem,ao2.cs,p1];rw[hrf,al8,if_pos (.inl p1)];exact ef1 _
  by_cases p2:1024<a.priority
  ·simp only[go_sem,ao2.cs,p1,p2];rw[hrf,al8,if_pos (.inr (.inl p2))];exact ef1 _
  simp only[go_sem,ao2.cs,p1,p2]
  have hp1:PS ⟨t.next+1,((Store.put ⟨t.next+1,t.obj⟩ t.next (aj2.cells [.int .i64 0,.aa1])).put t.next (aj2.cells [.int .i64 a.priority,av4 a.packages])).obj⟩ (s.next+1) s.next rows inst.length L rv rows.length:=hp.mono (zy _) λj hj=>by
   have e:¬j=t.next:=om;simp only[aa5,e,if_false]
  refine ac4 fok46 (jw3 a.packages (hr a ha).1 (hr a ha).2 i a.priority _ (s.next+1) s.next rows om inst.length L rv hp1) ?_;rintro v s3 ⟨n3,⟨k1,rfl,L2,rv2,k2,k3⟩|⟨k1,rfl⟩⟩
  ·refine ⟨n3,?_⟩;simp only[go_sem,w1];refine ⟨hlt,rows++rowsOf a.packages i a.priority,L2,rv2,?_,?_,?_⟩
   ·rw[zg,bv9];exact k3
   ·rw[hrf,al8,if_neg (by simp[p1,p2,k1]),k2]
   ·rw[zg,bv9];omega
  ·refine ⟨n3,?_⟩;simp only[go_sem];rw[hrf,al8,if_pos (.inr (.inr k1))];exact ef1 _
 have hi':i=repos.length:=om;subst hi';have c1:¬(repos.length:Int)<repos.length:=om;rw[ze] at hrf;simp only[go_sem,c1];rw[hrf,al8];exact .by4 (.cons hp.frz (.cons (ad5 _ _) .nil))
theorem hf4 (s:Str):Pq 258 [.str s] (.bool false):=by
 refine ba9 fok258 (nZ rfl) λσ=>?_
 simp only[ic258,go_sem,and_self,bne_self_eq_false,decide_true,qg]
theorem hf5 (n:Int):Pq 257 [.int .u8 n] (.bool false):=by
 refine ba9 fok257 (nZ rfl) λσ=>?_
 simp only[ic257,go_sem,and_self,bne_self_eq_false,decide_true,qg]
theorem hf6 (n:Int):Pq 218 [.int .i64 n] (.bool false):=by
 refine ba9 fok218 (nZ rfl) λσ=>?_
 simp only[ic218,go_sem,and_self,bne_self_eq_false,decide_true,qg]
theorem hf7 (a b:Int):Pq 188 [.int .i64 a,.int .i64 b] (.int .i64 (ar1 a b)):=by
 refine ba9 fok188 (nZ rfl) λσ=>?_
 simp only[ic188,go_sem];refine aa4 fok218 (hf6 a) ?_;simp only[go_sem];refine aa4 fok218 (hf6 b) ?_;simp only[go_sem];by_cases h1:a<b
 ·simp only[go_sem,h1,ar1,and_self]
 ·by_cases h2:b<a
  ·have h3:¬a=b:=om;simp only[go_sem,h1,h2,h3,ar1,and_self]
  ·have h3:a=b:=om;subst h3;simp only[go_sem,h1,ar1,and_self,if_false,if_true]
theorem fc4 (a b:Int):Pq 245 [.int .u8 a,.int .u8 b] (.int .i64 (ar1 a b)):=by
 refine ba9 fok245 (nZ rfl) λσ=>?_
 simp only[ic245,go_sem];refine aa4 fok257 (hf5 a) ?_;simp only[go_sem];refine aa4 fok257 (hf5 b) ?_;simp only[go_sem];by_cases h1:a<b
 ·simp only[go_sem,h1,ar1,and_self]
 ·by_cases h2:b<a
  ·have h3:¬a=b:=om;simp only[go_sem,h1,h2,h3,ar1,and_self]
  ·have h3:a=b:=om;subst h3;simp only[go_sem,h1,ar1,and_self,if_false,if_true]
theorem fc5 (a b:Str):Pq 246 [.str a,.str b] (.int .i64 (cr3 a b)):=by
 refine ba9 fok246 (nZ rfl) λσ=>?_
 simp only[ic246,go_sem];refine aa4 fok258 (hf4 a) ?_;simp only[go_sem];refine aa4 fok258 (hf4 b) ?_;simp only[go_sem]
 cases h1:Op.bytesLess a b with
 | true=>simp only[go_sem,h1,cr3,and_self]
 | false=>
  by_cases h3:a=b
  ·subst h3;simp only[go_sem,h1,cr3,and_self,zj,if_false,if_true,decide_true,Bool.or_true,qg]
  ·simp only[go_sem,h1,h3,cr3,and_self,zj,if_false,decide_false,Bool.or_false,Bool.not_false]
def orM:List Int->Int
 | []=>0
 | a::l=>if a=0 then orM l else a
theorem jh2 (l:List Int)(hl:l.length<2^40):Pq 244 [.aa3 (l.map Md.ae1)] (.int .i64 (orM l)):=by
 refine ba9 fok244 (nZ rfl) λσ=>?_
 simp only[ic244,go_sem];refine ab1 noT (λi fr s=>fr=[(3,.int .i64 0),(6,.aa3 (l.map Md.ae1)),(7,.int .i64 l.length),(8,.int .i64 i)]/\s=σ/\orM l=orM (l.drop i)) l.length ⟨rfl,rfl,rfl⟩ ?_;rintro i fr s hle ⟨rfl,rfl,hI⟩;by_cases hlt:i<l.length
 ·obtain ⟨x,hx,_,hdr,hget,htk⟩:=ad2 l i hlt;have c1:(i:Int)<l.length:=om;have c2:(0:Int)<=i:=om;have w1:=ac3 (i:=i) om;rw[hdr,orM] at hI;by_cases e:x=0
  ·rw[if_pos e] at hI;subst e;simp only[go_sem,c1,c2,hget,Md.ae1,w1];exact ⟨hlt,hI⟩
  ·rw[if_neg e] at hI;simp only[go_sem,c1,c2,hget,Md.ae1,e,hI,and_self]
 ·have hi':i=l.length:=om;subst hi';have c1:¬(l.length:Int)<l.length:=om;rw[ze,orM] at hI;simp only[go_sem,c1,hI,and_self]
theorem hf8 (n:Int)(h:n=-1\/n=0\/n=1):Pq 242 [.int .i64 n] (.int .u8 (if n<0 then 1 else if n=0 then 2 else 4)):=by
 rcases h with rfl|rfl|rfl
 all_goals
  refine af4 hE fok242 (nZ rfl) (af3 (.int _ _)) ?_;simp only[ic242,go_sem];exact .keep _ (.int _ _)
def vkN (n:Nat):Nat:=if n=126 then 1 else if n=94 then 3 else if 97<=n/\n<=122\/65<=n/\n<=90 then 4 else if 48<=n/\n<=57 then 5 else 0
theorem hf9 (b:UInt8):ad1 b=vkN b.toNat:=by
 have h:∀n,n<256->ad1 (UInt8.ofNat n)=vkN n:=by decide +kernel
 have:=h b.toNat b.toNat_lt
 rwa [UInt8.ofNat_toNat] at this
theorem fc6 (b:UInt8):Pq 255 [.int .u8 b.toNat] (.int .u8 (ad1 b)):=by
 rw[hf9];have hb:=b.toNat_lt;generalize b.toNat=n at *;unfold vkN;refine af4 hE fok255 (nZ rfl) (af3 (.int _ _)) ?_;by_cases e1:n=126
 ·have e1':(n:Int)=126:=om;rw[if_pos e1];simp only[ic255,go_sem,e1'];exact .keep _ (.int _ _)
 have e1':¬(n:Int)=126:=om;rw[if_neg e1];by_cases e2:n=94
 ·have e2':(n:Int)=94:=om;have q:¬(94:Int)=126:=by decide
  rw[if_pos e2];simp only[ic255,go_sem,e2',q];exact .keep _ (.int _ _)
 have e2':¬(n:Int)=94:=om;rw[if_neg e2];by_cases e3:97<=n/\n<=122
 ·have f1:(97:Int)<=n:=om;have f2:(n:Int)<=122:=om;rw[if_pos (.inl e3)];simp only[ic255,go_sem,e1',e2',f1,f2];exact .keep _ (.int _ _)
 by_cases e4:65<=n/\n<=90
 ·have f1:¬(97:Int)<=n:=om;have f3:(65:Int)<=n:=om;have f4:(n:Int)<=90:=om;rw[if_pos (.inr e4)];simp only[ic255,go_sem,e1',e2',f1,f3,f4];exact .keep _ (.int _ _)
 rw[if_neg (λh=>h.elim e3 e4)];by_cases e5:48<=n/\n<=57
 ·have f1:¬(97:Int)<=n:=om;have f3:¬(65:Int)<=n:=om;have f5:(48:Int)<=n:=om;have f6:(n:Int)<=57:=om;rw[if_pos e5];simp only[ic255,go_sem,e1',e2',f1,f3,f5,f6];exact .keep _ (.int _ _)
 rw[if_neg e5];by_cases f1:(97:Int)<=n
 ·have f2:¬(n:Int)<=122:=om;have f3:(65:Int)<=n:=om;have f4:¬(n:Int)<=90:=om;have f5:(48:Int)<=n:=om;have f6:¬(n:Int)<=57:=om;simp only[ic255,go_sem,e1',e2',f1,f2,f3,f4,f5,f6];exact .keep _ (.int _ _)
 by_cases f3:(65:Int)<=n
 ·have f4:¬(n:Int)<=90:=om;have f5:(48:Int)<=n:=om;have f6:¬(n:Int)<=57:=om;simp only[ic255,go_sem,e1',e2',f1,f3,f4,f5,f6];exact .keep _ (.int _ _)
 by_cases f5:(48:Int)<=n
 ·have f6:¬(n:Int)<=57:=om;simp only[ic255,go_sem,e1',e2',f1,f3,f5,f6];exact .keep _ (.int _ _)
 ·simp only[ic255,go_sem,e1',e2',f1,f3,f5];exact .keep _ (.int _ _)
theorem im1 (s:Str)(hs:s.length<2^62)(c:UInt8):Pq 261 [.str s,.int .u8 c.toNat] (.str (s.dropWhile (· == c))):=by
 refine ba9 fok261 (nZ rfl) λσ=>?_
 simp only[ic261,go_sem];refine ab1 noT (λi fr t=>fr=[(0,.str (s.drop i)),(1,.int .u8 c.toNat)]/\t=σ/\s.dropWhile (· == c)=(s.drop i).dropWhile (· == c)) s.length ⟨rfl,rfl,rfl⟩ ?_;rintro i fr t hle ⟨rfl,rfl,hI⟩;by_cases hlt:i<s.length
 ·obtain ⟨x,hx,hget,hdr,_,htk⟩:=ad2 s i hlt;have c1:(0:Int)<(s.length-i:Nat):=om;have h0:(s.drop i)[0]? = zh x:=by rw[hdr];rfl
  by_cases e:x=c
  ·subst e;simp only[go_sem,zr,c1,bc7,Int.le_refl,Int.toNat_zero,h0,qj]
   have hsub:cb8 (zh (.int .i64 1)) none (.str (s.drop i))=zh (.str (s.drop (i+1))):=by
    rw[hdr];simp[cb8,cw3,es7];exact zc (by rw[zr];omega)
   simp only[go_sem,hsub];refine ⟨hlt,?_⟩;rw[hI,hdr,qq,if_pos (by simp)]
  ·have e':¬(x.toNat:Int)=c.toNat:=λh=>e (UInt8.toNat_inj.1 om)
   simp only[go_sem,zr,c1,bc7,Int.le_refl,Int.toNat_zero,h0,qj,e'];rw[hI,hdr,qq,if_neg (by simpa using e)]
 ·have hi':i=s.length:=om;subst hi';rw[ze] at hI ⊢;simp only[go_sem,z9,hI,and_self,qr]
theorem im2 (s:Str)(hs:s.length<2^62):Pq 256 [.str s,.str [48]] (.str (s.dropWhile (· == 48))):=by
 refine ba9 fok256 (nZ rfl) λσ=>?_
 simp only[ic256,go_sem];have ht:=im1 s hs 48;by_cases h0:s=[]
 ·subst h0;simp only[go_sem,qr,and_self]
 ·have e1:eg8 (.str [48]) (.int .i64 0)=zh (.int .u8 (48:UInt8).toNat):=rfl;have e2:((48:UInt8).toNat:Int)<128:=by decide
  simp only[go_sem,h0,e1,e2];refine aa4 fok261 ht ?_;simp only[go_sem,and_self]
def Part.cs (p:Part):List IV:=[.int .u8 p.kind,.str p.s]
theorem ka7 (a b c:Int):orM [a,b,c]=if a≠0 then a else if b≠0 then b else c:=by
 simp only[orM];by_cases h1:a=0<;>by_cases h2:b=0<;>by_cases h3:c=0<;>simp[h1,h2,h3]
theorem gf8 (a b:Part)(ha:a.s.length<2^62)(hb:b.s.length<2^62):Pq 220 [.agg (Part.cs a),.agg (Part.cs b)] (.int .i64 (af1 a b)):=by
 have bp:∀p:Part,Bnd 0 (.agg (Part.cs p)):=λp=>.agg _ λc hc=>by
  simp only[Part.cs,zp,zn,or_false] at hc;rcases hc with rfl|rfl
  ·exact .int _ _
  ·exact .str _
 refine af4 hE fok220 (nZ rfl) (ak3 (bp a) (bp b)) ?_;by_cases h1:a.kind=5
 ·have g1:((a.kind:Nat):Int)=5:=om;by_cases h2:b.kind=5
  ·have g2:((b.kind:Nat):Int)=5:=om;simp only[ic220,go_sem,Part.cs,g1,g2];refine aa4 fok188 (hf7 _ _) ?_;simp only[go_sem];refine ab2 (fc4 _ _) ?_;simp only[go_sem];refine ab2 (fc5 _ _) ?_;simp only[go_sem];refine ab2 (jh2 [ar1 5 5,ar1 a.s.length b.s.length,cr3 a.s b.s] (by simp)) ?_;simp only[go_sem];have e:orM [ar1 5 5,ar1 a.s.length b.s.length,cr3 a.s b.s]=af1 a b:=by rw[ka7];simp only[af1,h1,h2,and_self,if_true];rfl
   rw[e];exact ad5 _ _
  ·have g2:¬((b.kind:Nat):Int)=5:=om;simp only[ic220,go_sem,Part.cs,g1,g2];refine ab2 (fc4 _ _) ?_;simp only[go_sem];refine ab2 (fc5 _ _) ?_;simp only[go_sem];refine ab2 (jh2 [ar1 5 b.kind,0,cr3 a.s b.s] (by simp)) ?_;simp only[go_sem];have e:orM [ar1 5 b.kind,0,cr3 a.s b.s]=af1 a b:=by rw[ka7];simp only[af1,h1,h2,and_false,if_false];rfl
   rw[e];exact ad5 _ _
 ·have g1:¬((a.kind:Nat):Int)=5:=om;simp only[ic220,go_sem,Part.cs,g1];refine ab2 (fc4 _ _) ?_;simp only[go_sem];refine ab2 (fc5 _ _) ?_;simp only[go_sem];refine ab2 (jh2 [ar1 a.kind b.kind,0,cr3 a.s b.s] (by simp)) ?_;simp only[go_sem];have e:orM [ar1 a.kind b.kind,0,cr3 a.s b.s]=af1 a b:=by rw[ka7];simp only[af1,h1,false_and,if_false]
  rw[e];exact ad5 _ _
end Go.Id.Tryz
