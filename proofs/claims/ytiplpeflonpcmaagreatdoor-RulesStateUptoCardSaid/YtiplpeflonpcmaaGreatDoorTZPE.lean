/- Names,versions,architectures,operators: what the program tells of them. Conditions: none. -/
import Derived.Test.YtiplpeflonpcmaaGreatDoorGZT
import Derived.Test.YtiplpeflonpcmaaGreatDoorT6
import Derived.Test.YtiplpeflonpcmaaGreatDoorFwQ
import Derived.Test.YtiplpeflonpcmaaGreatDoorMsb
import Derived.Test.YtiplpeflonpcmaaGreatDoorFwRo
open List renaming length_map→za,take_of_length_le→zc,drop_length→zk,mem_map→zm,mem_cons_of_mem→zn,length_drop→zr,mem_cons_self→zs,map_nil→zt,length_cons→zv,append_assoc→zx,map_cons→zy,getElem?_eq_getElem→zz,not_any_eq_all_not→z0,nil_append→z1,mem_cons→z6,all_cons→z7,all_nil→z8,take_length→z9,not_mem_nil→qa,drop_zero→qd,length_append→qf
open Nat renaming le_refl→zb,reduceLeDiff→ze,reduceEqDiff→zf,reduceMul→zi,reduceAdd→zj,reduceLT→zo,not_lt_zero→zu,le_succ→z5,lt_succ_self→qb,lt_of_lt_of_le→qg
open Option renaming some→zd
open Int renaming reduceToNat→zg,reduceAdd→zl,reduceLT→zp,reduceLE→zq,natCast_one→z2,natCast_add→z3
open Bool renaming true_and→zh,false_eq_true→zw,false_and→z4,decide_and→qc,false_or→qe
set_option linter.all false
set_option maxRecDepth 100000
set_option maxHeartbeats 1000000
private theorem om{P:Prop}(h:P:=by omega):P:=h
namespace Go.Id.Tryz
open Go Go.Id Go.Proofs Go.Id.Md
def jz4:List (Nat×List IV):=[(0,words.map .str),(1,[.ak9 opsL]),(3,[.str [],.int .i64 0,.str [],.int .i64 0,.str [97,110,100],.int .i64 24,.str [111,114],.int .i64 24,.str [105,102],.int .i64 3,.str [117,110,108,101,115,115],.int .i64 3,.str [119,105,116,104],.int .i64 24,.str [119,105,116,104,111,117,116],.int .i64 2])]
abbrev EE:Nat->IV:=fz9 jz4
theorem hE:∀ g,Bnd 0 (EE g):=iy5 (by kernel_rfl)
theorem E0:EE 0=.ab9 [.str [97,110,100],.str [111,114],.str [105,102],.str [101,108,115,101],.str [117,110,108,101,115,115],.str [119,105,116,104],.str [119,105,116,104,111,117,116]]:=rfl
theorem E1:EE 1=.ab9 [.ak9 opsL]:=rfl
theorem ee6 (s:Str)(b:UInt8):PC Tryz.prog EE 160 [.str s,.int .u8 b.toNat] (.int .i64 (es3 b.toNat s 0)):=by
 refine ba5 fok160 (nZ rfl) fun σ=>?_
 have h1:(0:Int)<=b.toNat:=om
 have h2:(b.toNat:Int)<256:=by have:=b.toNat_lt; omega
 simp only[ic160,go_sem,h1,h2,Int.toNat_natCast,and_self]
theorem ba2 (s:Str)(b:UInt8):PC Tryz.prog EE 112 [.str s,.int .u8 b.toNat] (.int .i64 (es3 b.toNat s 0)):=by
 refine ba5 fok112 (nZ rfl) fun σ=>?_
 simp only[ic112,go_sem];refine aa3 fok160 (ee6 s b) ?_;simp only[go_sem,and_self]
theorem ee7 (s t:Str):PC Tryz.prog EE 161 [.str s,.str t] (.bool (decide (t.length<=s.length)&&decide (s.take t.length=t))):=by
 refine ba5 fok161 (nZ rfl) fun σ=>?_
 by_cases h:t.length<=s.length
 ·have h1:(t.length:Int)<=s.length:=om
  have h2:(0:Int)<=t.length:=om
  simp only[ic161,go_sem,h,h1,cw1,da7,fn9,h2,Int.toNat_natCast,Nat.zero_le,and_self,qd,zh,ew3,ew4,Option.map]
 ·have h1:¬ (t.length:Int)<=s.length:=om
  simp only[ic161,go_sem,h,h1,z4,and_self]
theorem ep7 (s t:Str):PC Tryz.prog EE 114 [.str s,.str t] (.bool (decide (t.length<=s.length)&&decide (s.take t.length=t))):=by
 refine ba5 fok114 (nZ rfl) fun σ=>?_
 simp only[ic114,go_sem];refine aa3 fok161 (ee7 s t) ?_;simp only[go_sem,and_self]
theorem ba3 (a:Int):PC Tryz.prog EE 65 [.int .u8 a] (.bool (ao2 a)):=by
 refine ba5 fok65 (nZ rfl) fun σ=>?_
 by_cases h:1<=a
 ·simp only[ic65,go_sem,ao2,h,zh,and_self]
 ·simp only[ic65,go_sem,ao2,h,z4,and_self]
def dv6:List IV:=[.str [],.str [110,111,97,114,99,104],.str [120,56,54,95,54,52],.str [105,54,56,54],.str [97,97,114,99,104,54,52]]
theorem ep8:PC Tryz.prog EE 149 [] (.agg dv6):=by
 refine ae6 hE fok149 (nZ rfl) (fun a h=>by cases h) ?_;simp only[ic149,go_sem];exact .keep _ (ay2 10 _ (by kernel_rfl))
def cf6 (a:Int):Str:=if a=1 then [110,111,97,114,99,104] else if a=2 then [120,56,54,95,54,52] else if a=3 then [105,54,56,54] else if a=4 then [97,97,114,99,104,54,52] else []
theorem cf7 (a:Int):decide (cf6 a=[])=!ao2 a:=by
 unfold cf6 ao2
 repeat' split
 all_goals first|(subst_vars; rfl)|skip
 have:¬ (1<=a/\a<=4):=om
 have h:(decide (1<=a)&&decide (a<=4))=false:=by simpa using this
 rw[h]; rfl
theorem ez7 (a:Int):PC Tryz.prog EE 101 [.int .u8 a] (.str (cf6 a)):=by
 refine ba5 fok101 (nZ rfl) fun σ=>?_
 simp only[ic101,go_sem];refine aa3 fok65 (ba3 a) ?_;simp only[go_sem]
 cases h:ao2 a with
 | false=>
  have h1:=cf7 a;rw[h] at h1;have h2:cf6 a=[]:=by simpa using h1
  simp only[go_sem,h2,and_self]
 | true=>
  have h1:1<=a/\a<=4:=by simpa [ao2] using h
  simp only[go_sem];refine aa3 fok149 ep8 ?_;have h2:a=1\/a=2\/a=3\/a=4:=om
  rcases h2 with rfl|rfl|rfl|rfl<;>(simp only[go_sem,dv6]; first|rfl|exact ⟨rfl,rfl⟩)
theorem fj7 (c:UInt8):∀ (l:Str) (i:Nat),decide (0<=es3 c.toNat l i)=l.contains c:=by
 intro l
 induction l with
 | nil=>intro i; rfl
 | cons b l ih=>
  intro i;simp only[es3,List.contains_cons];split
  ·rename_i h;have:c=b:=(UInt8.toNat_inj.1 h).symm;subst this;simp
  ·rename_i h;have:(c==b)=false:=by simp only[beq_eq_false_iff_ne,ne_eq]; intro e; subst e; exact h rfl
   rw[this,qe];exact ih (i+1)
theorem cz8 {p:UInt8->Bool}{s:Str}{i:Nat}(h:i<s.length):(s.take (i+1)).all p=((s.take i).all p&&p s[i]):=by
 rw[List.take_add_one,zz h];simp only[Option.toList,List.all_append,z7,z8,Bool.and_true]
theorem bk1 {p:UInt8->Bool}{s:Str}{i:Nat}(h:i<s.length)(hp:p s[i]=false):s.all p=false:=by
 rw[List.all_eq_false];exact ⟨s[i],List.getElem_mem h,by simp[hp]⟩
theorem dv7 (s:Str)(hs:s.length<2^62):PC Tryz.prog EE 115 [.str s] (.bool (az8 s)):=by
 refine ba5 fok115 (nZ rfl) fun σ=>?_
 by_cases h0:s=[]
 ·subst h0;simp only[ic115,go_sem];rfl
 have hl:1<=s.length:=by cases s with|nil=>exact absurd rfl h0|cons _ _=>simp
 by_cases h1:s.length<=64
 ·have h1':¬ (64:Int)<s.length:=om
  simp only[ic115,go_sem,h0,h1'];refine ab3 noT (fun i fr s'=>s'=σ/\fr=[(0,.str s),(13,.int .i64 s.length),(14,.int .i64 i)]/\(s.take i).all bp1=true) s.length ⟨rfl,rfl,rfl⟩ ?_;rintro i fr s' hi ⟨rfl,rfl,ha⟩;by_cases hlt:i<s.length
  ·have c1:(i:Int)<s.length:=om
   have c2:(0:Int)<=i:=om
   simp only[go_sem,c1,c2,zz hlt];have fin:bp1 s[i]=false->az8 s=false:=fun h=>by simp only[az8,bk1 hlt h,Bool.and_false]
   have step:bp1 s[i]=true->(s.take (i+1)).all bp1=true:=fun h=>by rw[cz8 hlt,ha,h]; rfl
   have w1:=ad1 (i:=i) om
   have hv:bp1 s[i]=(decide ((97:Int)<=s[i].toNat)&&decide ((s[i].toNat:Int)<=122)||decide ((65:Int)<=s[i].toNat)&&decide ((s[i].toNat:Int)<=90)||decide ((48:Int)<=s[i].toNat)&&decide ((s[i].toNat:Int)<=57) || [46,95,43,126,94].contains s[i]):=by
    simp only[bp1,gq1];congr 1;congr 1
    ·congr 1<;>congr 1<;>(apply decide_eq_decide.2; omega)
    ·congr 1<;>(apply decide_eq_decide.2; omega)
   generalize s[i]=b at *
   have last:∀ (k1:¬ ((97:Int)<=b.toNat/\(b.toNat:Int)<=122)) (k2:¬ ((65:Int)<=b.toNat/\(b.toNat:Int)<=90)) (k3:¬ ((48:Int)<=b.toNat/\(b.toNat:Int)<=57)),bp1 b=decide (0<=es3 b.toNat [46,95,43,126,94] 0):=fun k1 k2 k3=>by
    rw[fj7,hv];simp only[<- qc,decide_eq_false k1,decide_eq_false k2,decide_eq_false k3,qe]
   by_cases k1:(97:Int)<=b.toNat
   ·by_cases k2:(b.toNat:Int)<=122
    ·simp only[go_sem,k1,k2,w1];exact ⟨hlt,step (by rw[hv]; simp only[k1,k2,go_sem])⟩
    ·have k3:(65:Int)<=b.toNat:=om
     have k4:¬ (b.toNat:Int)<=90:=om
     have k5:(48:Int)<=b.toNat:=om
     have k6:¬ (b.toNat:Int)<=57:=om
     simp only[go_sem,k1,k2,k3,k4,k5,k6];refine aa3 fok112 (ba2 _ b) ?_;have hl:=last om om om;simp only[go_sem,ge_iff_le,<- hl]
     cases hb:bp1 b with
     | true=>simp only[go_sem,w1]; exact ⟨hlt,step hb⟩
     | false=>simp only[go_sem,fin hb,and_self]
   ·by_cases k3:(65:Int)<=b.toNat
    ·by_cases k4:(b.toNat:Int)<=90
     ·simp only[go_sem,k1,k3,k4,w1];exact ⟨hlt,step (by rw[hv]; simp only[k1,k3,k4,go_sem])⟩
     ·have k5:(48:Int)<=b.toNat:=om
      have k6:¬ (b.toNat:Int)<=57:=om
      simp only[go_sem,k1,k3,k4,k5,k6];refine aa3 fok112 (ba2 _ b) ?_;have hl:=last om om om;simp only[go_sem,ge_iff_le,<- hl]
      cases hb:bp1 b with
      | true=>simp only[go_sem,w1]; exact ⟨hlt,step hb⟩
      | false=>simp only[go_sem,fin hb,and_self]
    ·by_cases k5:(48:Int)<=b.toNat
     ·by_cases k6:(b.toNat:Int)<=57
      ·simp only[go_sem,k1,k3,k5,k6,w1];exact ⟨hlt,step (by rw[hv]; simp only[k1,k3,k5,k6,go_sem])⟩
      ·simp only[go_sem,k1,k3,k5,k6];refine aa3 fok112 (ba2 _ b) ?_;have hl:=last om om om;simp only[go_sem,ge_iff_le,<- hl]
       cases hb:bp1 b with
       | true=>simp only[go_sem,w1]; exact ⟨hlt,step hb⟩
       | false=>simp only[go_sem,fin hb,and_self]
     ·simp only[go_sem,k1,k3,k5];refine aa3 fok112 (ba2 _ b) ?_;have hl:=last om om om;simp only[go_sem,ge_iff_le,<- hl]
      cases hb:bp1 b with
      | true=>simp only[go_sem,w1]; exact ⟨hlt,step hb⟩
      | false=>simp only[go_sem,fin hb,and_self]
  ·have hi':i=s.length:=om
   have c1:¬ (i:Int)<s.length:=om
   simp only[go_sem,c1];subst hi';rw[z9] at ha;simp only[az8,ha,go_sem,hl,h1,and_self]
 ·have h1':(64:Int)<s.length:=om
  simp only[ic115,go_sem,h0,h1',az8,h1,Bool.and_false,z4,and_self]
theorem ep9 (e:EVR)(dep:Bool)(h1:e.ver.length<2^62)(h2:e.rel.length<2^62):PC Tryz.prog EE 70 [.agg e.cs,.bool dep] (.bool (bj2 e dep)):=by
 obtain ⟨ep,ver,rel⟩:=e;refine ba5 fok70 (nZ rfl) fun σ=>?_
 have hw:=dv7 ver h1;have hw':=dv7 rel h2;by_cases a1:(0:Int)<=ep
 ·by_cases a2:ep<=2147483647
  ·simp only[ic70,go_sem,EVR.cs,bj2,a1,a2];refine aa3 fok115 hw ?_;simp only[go_sem]
   cases hv:az8 ver with
   | false=>simp only[go_sem,and_self]
   | true=>
    simp only[go_sem];refine aa3 fok115 hw' ?_;simp only[go_sem]
    cases hr:az8 rel with
    | true=>simp only[go_sem,and_self]
    | false=>
     cases dep with
     | true=>
      simp only[go_sem]
      cases rel<;>first|rfl|exact ⟨rfl,rfl⟩
     | false=>simp only[go_sem,and_self]
  ·simp only[ic70,go_sem,EVR.cs,bj2,a1,a2,and_self]
 ·simp only[ic70,go_sem,EVR.cs,bj2,a1,and_self]
theorem ez8 (n:Int):PC Tryz.prog EE 113 [.int .u8 n] (.str (ey9 n)):=by
 obtain ⟨_,pf,an,h⟩:=fok113;exact jc4 (g:=1) h E1
theorem ig8 (n:Int):eb7 n=(decide (n=0) || !decide (ey9 n=[])):=by
 unfold eb7 ey9;by_cases h0:n=0
 ·subst h0; rfl
 by_cases h1:n=1
 ·subst h1; rfl
 by_cases h2:n=2
 ·subst h2; rfl
 by_cases h3:n=3
 ·subst h3; rfl
 by_cases h4:n=4
 ·subst h4; rfl
 by_cases h6:n=6
 ·subst h6; rfl
 simp[h0,h1,h2,h3,h4,h6]
theorem gc4 (n:Int):PC Tryz.prog EE 68 [.int .u8 n] (.bool (eb7 n)):=by
 refine ba5 fok68 (nZ rfl) fun σ=>?_
 rw[ig8];by_cases h:n=0
 ·simp only[ic68,go_sem,h,and_self]
 ·simp only[ic68,go_sem,h];refine aa3 fok113 (ez8 n) ?_;simp only[go_sem,and_self]
theorem jc9 (c:UInt8)(l:Str)(i:Nat):decide (es3 c.toNat l i<0)=!l.contains c:=by
 rw[<- fj7 c l i,<- decide_not];exact decide_eq_decide.2 om
def is3:List IV:=[.str [97,110,100],.str [111,114],.str [105,102],.str [101,108,115,101],.str [117,110,108,101,115,115],.str [119,105,116,104],.str [119,105,116,104,111,117,116]]
theorem fj8 {b:UInt8}(h:bf7 b=true):b.toNat<=126:=by
 have:b∈signs:=by simpa [bf7,List.contains_iff_mem] using h
 revert this
 have:∀ b∈signs,b.toNat<=126:=by decide +kernel
 exact this b
theorem cs6 (s:Str)(hs:s.length<2^62):PC Tryz.prog EE 67 [.str s] (.bool (as5 s)):=by
 refine ae6 hE fok67 (nZ rfl) (fun a h=>by cases h with|head=>exact .str _|tail _ h=>cases h) ?_;by_cases h1:1<=s.length
 ·by_cases h2:s.length<=64
  ·have c1:¬ (s.length:Int)<1:=om
   have c2:¬ (64:Int)<s.length:=om
   simp only[ic67,go_sem,c1,c2];refine iq4 noT (fun m fr σ=>(fr.get 0=.str s/\fr.get 16=.ptr 0 0)/\∃ pos,σ.obj 0=zd (.bg5 s pos)/\pos<=s.length/\m=s.length-pos/\(s.take pos).all bf7=true) s.length ⟨⟨rfl,rfl⟩,0,rfl,Nat.zero_le _,rfl,rfl⟩ ?_;rintro m fr σ ⟨⟨f0,f16⟩,pos,ho,hp,rfl,ha⟩;by_cases hlt:pos<s.length
   ·simp only[go_sem,f0,f16,ho,hlt,bq5,iq7];by_cases hb:s[pos].toNat<128
    ·rw[fr4 s pos hlt hb];by_cases hb2:s[pos].toNat<=126
     ·have d1:¬ (126:Int)<s[pos].toNat:=om
      have d2:IntKind.u8.wrap (s[pos].toNat:Int)=s[pos].toNat:=by
       have:=s[pos].toNat_lt;simp[IntKind.wrap,IntKind.bits,IntKind.signed];omega
      simp only[go_sem,d1,d2];refine aa3 (v:=.int .i64 (es3 s[pos].toNat signs 0)) fok112 (ba2 signs s[pos]) ?_;have hi:decide (es3 s[pos].toNat signs 0<0)=!bf7 s[pos]:=jc9 s[pos] signs 0;simp only[go_sem,hi]
      cases hg:bf7 s[pos] with
      | true=>
       simp only[go_sem]
       exact ⟨s.length-(pos+1),om,pos+1,rfl,hlt,rfl,by rw[cz8 hlt,ha,hg]; rfl⟩
      | false=>
       simp only[go_sem,as5,bk1 hlt hg];exact ab4 _
     ·have d1:(126:Int)<s[pos].toNat:=om
      have hg:bf7 s[pos]=false:=by
       cases h:bf7 s[pos] with
       | false=>rfl
       | true=>exact absurd (fj8 h) hb2
      simp only[go_sem,d1,as5,bk1 hlt hg];exact ab4 _
    ·have h3:=decode_high s pos hlt hb;generalize Utf8.decode ⟨s.toArray⟩ pos=dd at h3 ⊢;have d1:(126:Int)<dd.1:=om
     have hg:bf7 s[pos]=false:=by
      cases h:bf7 s[pos] with
      | false=>rfl
      | true=>have:=fj8 h; omega
     simp only[go_sem,d1,as5,bk1 hlt hg];exact ab4 _
   ·have hpe:pos=s.length:=om
    subst hpe;rw[z9] at ha;simp only[go_sem,f0,f16,ho,bq5,iq7,Nat.lt_irrefl,E0];refine ab3 noT (fun i fr σ=>fr=[(0,.str s),(28,.agg is3),(29,.int .i64 i)]/\∀ w∈words.take i,s≠w) 7 ⟨rfl,fun w h=>by simp at h⟩ ?_;rintro i fr σ hi ⟨rfl,hw⟩;by_cases hlt:i<7
    ·have e1:(i:Int)<7:=om
     have e2:(0:Int)<=i:=om
     have w1:=ad1 (i:=i) om
     obtain ⟨w,h3,h4,h5⟩:∃ w,is3[i]? = zd (.str w)/\words.take (i+1)=words.take i++[w]/\w∈words:=by
      have:i=0\/i=1\/i=2\/i=3\/i=4\/i=5\/i=6:=om
      rcases this with rfl|rfl|rfl|rfl|rfl|rfl|rfl<;>exact ⟨_,rfl,rfl,by decide⟩
     simp only[go_sem,e1,e2,Nat.mul_one,h3];by_cases hsw:s=w
     ·subst hsw;have:words.contains s=true:=by simpa using h5
      simp only[go_sem,as5,this];exact ab4 _
     ·simp only[go_sem,hsw,w1];refine ⟨hlt,?_⟩;rw[h4];intro x hx;rcases List.mem_append.1 hx with h|h
      ·exact hw x h
      ·have:x=w:=by simpa using h
       rw[this]; exact hsw
    ·have hi7:i=7:=om
     subst hi7
     have:words.contains s=false:=by
      cases h:words.contains s with
      | false=>rfl
      | true=>exact absurd rfl (hw s (by rw[show words.take 7=words from rfl]; simpa using h))
     have e7:¬ ((7:Nat):Int)<7:=om
     simp only[go_sem,e7,as5,this,h1,h2,ha,Int.lt_irrefl];exact ab4 _
  ·have c1:¬ (s.length:Int)<1:=om
   have c2:(64:Int)<s.length:=om
   simp only[ic67,go_sem,c1,c2,as5,h1,h2];exact ab4 _
 ·have c1:(s.length:Int)<1:=om
  simp only[ic67,go_sem,c1,as5,h1];exact ab4 _
theorem cs7 (s:Str)(hs:s.length<2^62):PC Tryz.prog EE 69 [.str s] (.bool (bj1 s)):=by
 refine ba5 fok69 (nZ rfl) fun σ=>?_
 simp only[ic69,go_sem];refine aa3 fok67 (cs6 s hs) ?_;simp only[go_sem]
 cases h:as5 s with
 | false=>simp only[go_sem,bj1,h,and_self]
 | true=>
  simp only[go_sem];refine aa3 fok114 (ep7 s [47]) ?_
  have:(decide ([47].length<=s.length)&&decide (s.take [47].length=[47]))=(s.head? == zd 47):=by
   cases s with
   | nil=>rfl
   | cons b l=>simp[eq_comm]; by_cases hb:b=47<;>simp[hb]
  simp only[zv,List.length_nil] at this;simp only[go_sem,bj1,h,this,and_self]
theorem bs1 (d:Dep)(h1:d.name.length<2^62)(h2:d.evr.ver.length<2^62)(h3:d.evr.rel.length<2^62):PC Tryz.prog EE 38 [.agg d.cs] (.bool (aj9 d)):=by
 obtain ⟨name,op,ep,ver,rel⟩:=d;refine ba5 fok38 (nZ rfl) fun σ=>?_
 simp only[ic38,go_sem,Dep.cs];refine aa3 fok67 (cs6 name h1) ?_;simp only[go_sem]
 cases hn:as5 name with
 | false=>simp only[go_sem,aj9,hn,and_self]
 | true=>
  simp only[go_sem];refine aa3 fok68 (gc4 op) ?_;simp only[go_sem]
  cases ho:eb7 op with
  | false=>simp only[go_sem,aj9,hn,ho,and_self]
  | true=>
   by_cases h0:op=0
   ·subst h0
    have hd:aj9 ⟨name,0,ep,ver,rel⟩=(decide (ep=0)&&(decide (ver=[])&&decide (rel=[]))):=by
     simp only[aj9,hn,ho,go_sem,gq2,EVR.mk.injEq,qc]
    simp only[go_sem,hd,and_self]
   ·simp only[go_sem,h0];refine aa3 fok69 (cs7 name h1) ?_;simp only[go_sem]
    cases hf:bj1 name with
    | true=>simp only[go_sem,aj9,hn,ho,h0,hf,and_self]
    | false=>
     simp only[go_sem];refine aa3 (v:=.bool (bj2 ⟨ep,ver,rel⟩ true)) fok70 (ep9 ⟨ep,ver,rel⟩ true h2 h3) ?_;simp only[go_sem,aj9,hn,ho,h0,hf,and_self]
end Go.Id.Tryz
namespace Go.Id.Tryz
open Go Go.Id Go.Proofs Go.Id.Md
theorem ab5 {S:Nat->Prop}{s:Store}{a b:Bool}(h:a=b):Frz s S (.bool a) (.bool b):=h▸ab4 a
theorem cs8 {S:Nat->Prop}{s:Store}{k:IntKind}{a b:Int}(h:a=b):Frz s S (.int k a) (.int k b):=h▸.keep _ (.int _ _)
theorem cs9 (a:Int):PC Tryz.prog EE 35 [.int .u8 a] (.bool (ca3 a)):=by
 refine ae6 hE fok35 (nZ rfl) (ah3 (.int _ _)) ?_;simp only[ic35,go_sem];refine aa3 fok65 (ba3 a) ?_;unfold ca3
 cases ao2 a with
 | false=>simp only[go_sem]; exact ab5 rfl
 | true=>
  by_cases h:a=1
  ·simp only[go_sem,h]; exact ab5 rfl
  ·simp only[go_sem,h]; exact ab5 (by simp[h])
theorem fj9 (a b:Int):PC Tryz.prog EE 164 [.int .u8 a,.int .u8 b] (.bool (en3 a b)):=by
 refine ae6 hE fok164 (nZ rfl) (ah9 (.int _ _) (.int _ _)) ?_;have ha:=cs9 a;have hb:=cs9 b;simp only[ic164,go_sem];refine aa3 fok35 (ha) ?_;unfold en3
 cases ca3 a with
 | false=>simp only[go_sem]; exact ab5 rfl
 | true=>
  simp only[go_sem];refine aa3 fok35 (hb) ?_
  cases ca3 b with
  | false=>simp only[go_sem]; exact ab5 rfl
  | true=>
   by_cases h:a=b
   ·simp only[go_sem,h]; exact ab5 (by simp)
   ·simp only[go_sem,h]; exact ab5 (by simp[h])
theorem gc5 (a b:Int):PC Tryz.prog EE 134 [.int .u8 a,.int .u8 b] (.bool (cy8 a b)):=by
 refine ae6 hE fok134 (nZ rfl) (ah9 (.int _ _) (.int _ _)) ?_;have ha:=ba3 a;have hb:=ba3 b;have hc:=fj9 a b;simp only[ic134,go_sem];refine aa3 fok65 (ha) ?_;unfold cy8
 cases ao2 a with
 | false=>simp only[go_sem]; exact ab5 rfl
 | true=>
  simp only[go_sem];refine aa3 fok65 (hb) ?_
  cases ao2 b with
  | false=>simp only[go_sem]; exact ab5 rfl
  | true=>
   simp only[go_sem];refine aa3 fok164 (hc) ?_;simp only[go_sem];exact ab5 (by simp)
def is4:List IV:=[.int .i64 0,.int .i64 0,.int .i64 0,.int .i64 0,.int .i64 0,.int .i64 0,.int .i64 0,.int .i64 0,.int .i64 0,.int .i64 0,.int .i64 0,.int .i64 2,.int .i64 1,.int .i64 3,.int .i64 0,.int .i64 0,.int .i64 2,.int .i64 0,.int .i64 1,.int .i64 0,.int .i64 0,.int .i64 2,.int .i64 0,.int .i64 0,.int .i64 1]
theorem gv7:PC Tryz.prog EE 241 [] (.agg is4):=by
 refine ae6 hE fok241 (nZ rfl) (fun a h=>by cases h) ?_;simp only[ic241,go_sem];exact .keep _ (ay2 10 _ (by kernel_rfl))
theorem jd1 (m a:Int)(h1:ao2 m=true)(h2:ao2 a=true):PC Tryz.prog EE 202 [.int .u8 m,.int .u8 a] (.int .i64 (de8 m a)):=by
 unfold ao2 at h1 h2;simp only[Bool.and_eq_true,decide_eq_true_eq] at h1 h2;have hm:m=1\/m=2\/m=3\/m=4:=om
 have ha:a=1\/a=2\/a=3\/a=4:=om
 rcases hm with rfl|rfl|rfl|rfl<;>rcases ha with rfl|rfl|rfl|rfl
 all_goals
  refine ae6 hE fok202 (nZ rfl) (ah9 (.int _ _) (.int _ _)) ?_;simp only[ic202,go_sem];refine aa3 fok65 (ba3 _) ?_;simp only[go_sem,ao2];refine aa3 fok65 (ba3 _) ?_;simp only[go_sem,ao2];refine aa3 fok241 (gv7) ?_;simp only[go_sem,is4,List.drop_succ_cons,qd,List.getElem?_cons_succ,List.getElem?_cons_zero];exact .keep _ (.int _ _)
theorem fk1 (m a:Int)(h:ao2 m=false\/ao2 a=false):de8 m a=0:=by
 unfold ao2 at h;simp only[Bool.and_eq_false_iff,decide_eq_false_iff_not] at h;unfold de8
 repeat' split
 all_goals first|rfl|omega
theorem ig9 (m a:Int):PC Tryz.prog EE 202 [.int .u8 m,.int .u8 a] (.int .i64 (de8 m a)):=by
 have hm:=ba3 m;have ha:=ba3 a
 cases h1:ao2 m with
 | false=>
  rw[fk1 m a (.inl h1)];refine ae6 hE fok202 (nZ rfl) (ah9 (.int _ _) (.int _ _)) ?_;rw[h1] at hm;simp only[ic202,go_sem];refine aa3 fok65 (hm) ?_;simp only[go_sem]
  exact cs8 rfl
 | true=>
  cases h2:ao2 a with
  | false=>
   rw[fk1 m a (.inr h2)];refine ae6 hE fok202 (nZ rfl) (ah9 (.int _ _) (.int _ _)) ?_;rw[h1] at hm;rw[h2] at ha;simp only[ic202,go_sem];refine aa3 fok65 (hm) ?_;simp only[go_sem];refine aa3 fok65 (ha) ?_;simp only[go_sem]
   exact cs8 rfl
  | true=>exact jd1 m a h1 h2
theorem jd2 (m a:Int):PC Tryz.prog EE 163 [.int .u8 m,.int .u8 a] (.bool (jq4 m a)):=by
 refine ae6 hE fok163 (nZ rfl) (ah9 (.int _ _) (.int _ _)) ?_;have h:=ig9 m a;simp only[ic163,go_sem];refine aa3 fok202 (h) ?_;simp only[go_sem];exact ab5 rfl
end Go.Id.Tryz
namespace Go.Id.Tryz
open Go Go.Id Go.Proofs Go.Id.Md
def ih4 (k:Int):List IV:=[.int .i64 (asks k).1,.int .i64 (asks k).2.1,.bool (asks k).2.2.1,.int .u8 (asks k).2.2.2]
theorem gc6 (k:Int)(h1:0<=k)(h2:k<256):PC Tryz.prog EE 159 [.int .u8 k] (.agg (ih4 k)):=by
 have w:=wrap64 (x:=k) om om;by_cases h8:8<=k
 ·refine ae6 hE fok159 (nZ rfl) (fun a h=>by cases h with|head=>exact .int _ _|tail _ h=>cases h) ?_;simp only[ic159,go_sem,w,h8]
  have:ih4 k=[.int .i64 0,.int .i64 0,.bool false,.int .u8 0]:=by
   unfold ih4 asks;rw[if_neg om,if_neg om,if_neg om,if_neg om,if_neg om,if_neg om,if_neg om];rfl
  rw[this];exact .keep _ (ay2 10 _ (by kernel_rfl))
 ·have:k=0\/k=1\/k=2\/k=3\/k=4\/k=5\/k=6\/k=7:=om
  rcases this with rfl|rfl|rfl|rfl|rfl|rfl|rfl|rfl
  all_goals
   refine ae6 hE fok159 (nZ rfl) (fun a h=>by cases h with|head=>exact .int _ _|tail _ h=>cases h) ?_;simp only[ic159,go_sem,w];exact .keep _ (ay2 10 _ (by kernel_rfl))
theorem gv8 (d:Dep):∀ c∈d.cs,Bnd 0 c:=by
 intro c hc;simp only[Dep.cs,z6,qa,or_false] at hc;rcases hc with rfl|rfl|rfl|rfl|rfl<;>first|exact .str _|exact .int _ _
theorem ee8 (r:aa6):∀ c∈r.cs,Bnd 0 c:=by
 induction r using aa6.ind with
 | h k d xs ih=>
  intro c hc;rw[aa6.ar1] at hc;simp only[z6,qa,or_false] at hc;rcases hc with rfl|rfl|rfl|rfl|rfl|rfl|rfl<;>first|exact .str _|exact .int _ _|skip
  refine .aa4 _ fun e he c hc=>?_
  obtain ⟨a,ha,rfl⟩:=zm.1 he;exact ih a ha c hc
theorem ah2 (r:aa6):Bnd 0 (.agg r.cs):=.agg _ (ee8 r)
theorem ab8 (r:aa6):r.cs.length=7:=by rw[aa6.ar1]; rfl
theorem ae5 {P:IV->Prop}{v:IV}(h:P v):∀ a∈[v],P a:=fun a ha=>by
 cases ha with
 | head=>exact h
 | tail _ h=>cases h
theorem ez9 (a:aa6)(xs:List aa6):aa6.bf8 (a::xs)=max a.depth (aa6.bf8 xs):=by simp only[aa6.bf8]
theorem jd3 (n m:Nat):(if (m:Int)>(n:Int) then (m:Int) else n)=((max n m:Nat):Int):=by
 split<;>omega
theorem ee9 (r:aa6):r.fit->r.depth<2^62->PC Tryz.prog EE 157 [.agg r.cs] (.int .i64 r.depth):=by
 induction r using aa6.ind with
 | h k d xs ih=>
  intro hf hd;obtain ⟨f1,f2,f3,f4,f5⟩:=aa6.by6.1 hf;refine ae6 hE fok157 (nZ rfl) (ae5 (ah2 _)) ?_;rw[aa6.ar1];by_cases hk:k=1
  ·simp only[ic157,go_sem,aa6.kind,aa6.depth,hk];exact af2 _ _
  ·simp only[aa6.depth,hk,if_false] at hd;simp only[ic157,go_sem,aa6.kind,aa6.depth,hk];refine ab3 noT (fun i fr σ=>∃ n:Nat,fr=[(3,.int .i64 n),(10,.aa4 (xs.map aa6.cs)),(11,.int .i64 xs.length),(12,.int .i64 i)]/\max n (aa6.bf8 (xs.drop i))=aa6.bf8 xs) xs.length ⟨0,rfl,by simp⟩ ?_;rintro i fr σ hi ⟨n,rfl,hn⟩;by_cases hlt:i<xs.length
   ·obtain ⟨a,ha,_,hdr,hget,_⟩:=ad6 xs i hlt;have c1:(i:Int)<xs.length:=om
    have c2:(0:Int)<=i:=om
    have w1:=ad1 (i:=i) om;rw[hdr,ez9] at hn;have hl:a.cs.all IV.leaf=true:=by rw[aa6.ar1]; rfl
    have ht:a.cs.take 7=a.cs:=zc (by rw[ab8]; exact zb _);simp only[go_sem,c1,c2,hget,ab8,ht,hl,aa6.args,qd];refine aa3 fok157 (ih a ha (f5 a ha) om) ?_;simp only[go_sem,iq6,em1,jd3,w1];exact ⟨hlt,max n a.depth,rfl,by rw[<- hn]; omega⟩
   ·have hi':i=xs.length:=om
    subst hi';have c1:¬ (xs.length:Int)<xs.length:=om
    simp only[zk,aa6.bf8,Nat.max_zero] at hn;subst hn;have w1:=ad1 (i:=aa6.bf8 xs) om;simp only[go_sem,c1,w1];exact af2 _ _
def row (p:aa6×Bool):List IV:=[.agg p.1.cs,.bool p.2]
def evs (r:aa6)(al:Bool):List (List IV):=(r.parts al).map row
def eq1 (xs:List aa6)(al:Bool):List (List IV):=(aa6.bj3 xs al).map row
theorem jt6 (k:Int)(d:Dep)(xs:List aa6)(al:Bool):evs (.mk k d xs) al=[.agg (aa6.mk k d xs).cs,.bool al]::eq1 xs (al||decide (k=6)||decide (k=7)):=by
 simp only[evs,eq1,aa6.parts,zy,row]
theorem cf8 (a:aa6)(xs:List aa6)(al:Bool):eq1 (a::xs) al=evs a al++eq1 xs al:=by
 simp only[evs,eq1,aa6.bj3,List.map_append]
def boxed (b:Nat)(s:Store):Prop:=b<s.next/\s.obj b=zd (.cells [.func (.func 199) [] [.ptr b 0]])
theorem jt7 (r:aa6):r.fit->∀ (al:Bool) (rest:List (List IV)) (b yid:Nat) (I:List (List IV)->Store->Prop) (S:Store->Prop) (σ:Store),(∀ rest s,I rest s->boxed b s)->jy6 I->ht6 Tryz.prog EE yid I S ->
  I (evs r al++rest) σ->C Tryz.prog EE 199 [.agg r.cs,.bool al,.yield yid,.ptr b 0] σ fun v s=>σ.next<=s.next/\((v=.bool true/\I rest s)\/(v=.bool false/\S s)):=by
 induction r using aa6.ind with
 | h k d xs ih=>
  intro hf al rest b yid I S σ hown hstab hy hi;obtain ⟨f1,f2,f3,f4,f5⟩:=aa6.by6.1 hf;refine C_f fok199 (nZ rfl) ?_;rw[jt6,List.cons_append,aa6.ar1] at hi;rw[aa6.ar1];simp only[ic199,go_sem,aa6.kind,aa6.dep,aa6.args] at hi ⊢;refine cw4 hy hi (fun s hn hi=>?_) (fun s hn hs=>?_)
  ·have H:(al=true)\/(al=false/\k=6)\/(al=false/\¬ k=6/\k=7)\/(al=false/\¬ k=6/\¬ k=7):=by
    cases al<;>by_cases h6:k=6<;>by_cases h7:k=7<;>simp[h6,h7]
   rcases H with h1|⟨h1,h2⟩|⟨h1,h2,h3⟩|⟨h1,h2,h3⟩
   ·have hA:(al||decide (k=6)||decide (k=7))=true:=by simp[h1]
    rw[hA] at hi;simp only[go_sem,h1];refine ab3 noT (fun i fr t=>fr=[(1,.bool true),(2,.yield yid),(3,.ptr b 0),(27,.aa4 (xs.map aa6.cs)),(28,.int .i64 xs.length),(29,.int .i64 i)]/\I (eq1 (xs.drop i) true++rest) t/\σ.next<=t.next) xs.length ⟨rfl,hi,hn⟩ ?_;rintro i fr t hle ⟨rfl,hi,hn⟩;by_cases hlt:i<xs.length
    ·obtain ⟨a,ha,_,hdr,hget,_⟩:=ad6 xs i hlt;have c1:(i:Int)<xs.length:=om
     have c2:(0:Int)<=i:=om
     have w1:=ad1 (i:=i) om;have hl:a.cs.all IV.leaf=true:=by rw[aa6.ar1]; rfl
     have ht:a.cs.take 7=a.cs:=zc (by rw[ab8]; exact zb _);obtain ⟨hb1,hb2⟩:=hown _ _ hi;have hb3:¬ b=t.next:=om
     simp only[go_sem,c1,c2,hget,ab8,ht,hl,hb2,hb3];rw[hdr,cf8,zx] at hi;refine ac5 fok199 (ih a ha (f5 a ha) true (eq1 (xs.drop (i+1)) true++rest) b yid I S _ hown hstab hy (hstab _ _ _ hi (z5 _) (fun j hj=>?_))) ?_
     ·have:¬ j=t.next:=om
      simp only[aa5,this,if_false]
     ·rintro v s2 ⟨hn2,⟨rfl,hi2⟩|⟨rfl,hs2⟩⟩
      ·refine ⟨hn2,?_⟩;have hn3:t.next+1<=s2.next:=hn2;simp only[go_sem,w1];exact ⟨hlt,hi2,om⟩
      ·refine ⟨hn2,?_⟩;have hn3:t.next+1<=s2.next:=hn2;simp only[go_sem];exact ⟨om,.inr hs2⟩
    ·have hi':i=xs.length:=om
     subst hi';have c1:¬ (xs.length:Int)<xs.length:=om
     simp only[zk,eq1,aa6.bj3,zt,z1] at hi;simp only[go_sem,c1];exact ⟨hn,.inl hi⟩
   ·have hA:(al||decide (k=6)||decide (k=7))=true:=by simp[h1,h2]
    rw[hA] at hi;simp only[go_sem,h1,h2];refine ab3 noT (fun i fr t=>fr=[(1,.bool true),(2,.yield yid),(3,.ptr b 0),(27,.aa4 (xs.map aa6.cs)),(28,.int .i64 xs.length),(29,.int .i64 i)]/\I (eq1 (xs.drop i) true++rest) t/\σ.next<=t.next) xs.length ⟨rfl,hi,hn⟩ ?_;rintro i fr t hle ⟨rfl,hi,hn⟩;by_cases hlt:i<xs.length
    ·obtain ⟨a,ha,_,hdr,hget,_⟩:=ad6 xs i hlt;have c1:(i:Int)<xs.length:=om
     have c2:(0:Int)<=i:=om
     have w1:=ad1 (i:=i) om;have hl:a.cs.all IV.leaf=true:=by rw[aa6.ar1]; rfl
     have ht:a.cs.take 7=a.cs:=zc (by rw[ab8]; exact zb _);obtain ⟨hb1,hb2⟩:=hown _ _ hi;have hb3:¬ b=t.next:=om
     simp only[go_sem,c1,c2,hget,ab8,ht,hl,hb2,hb3];rw[hdr,cf8,zx] at hi;refine ac5 fok199 (ih a ha (f5 a ha) true (eq1 (xs.drop (i+1)) true++rest) b yid I S _ hown hstab hy (hstab _ _ _ hi (z5 _) (fun j hj=>?_))) ?_
     ·have:¬ j=t.next:=om
      simp only[aa5,this,if_false]
     ·rintro v s2 ⟨hn2,⟨rfl,hi2⟩|⟨rfl,hs2⟩⟩
      ·refine ⟨hn2,?_⟩;have hn3:t.next+1<=s2.next:=hn2;simp only[go_sem,w1];exact ⟨hlt,hi2,om⟩
      ·refine ⟨hn2,?_⟩;have hn3:t.next+1<=s2.next:=hn2;simp only[go_sem];exact ⟨om,.inr hs2⟩
    ·have hi':i=xs.length:=om
     subst hi';have c1:¬ (xs.length:Int)<xs.length:=om
     simp only[zk,eq1,aa6.bj3,zt,z1] at hi;simp only[go_sem,c1];exact ⟨hn,.inl hi⟩
   ·have hA:(al||decide (k=6)||decide (k=7))=true:=by simp[h1,h2,h3,show ¬ ((7:Int)=6) from by omega]
    rw[hA] at hi;simp only[go_sem,h1,h2,h3,show ¬ ((7:Int)=6) from by omega];refine ab3 noT (fun i fr t=>fr=[(1,.bool true),(2,.yield yid),(3,.ptr b 0),(27,.aa4 (xs.map aa6.cs)),(28,.int .i64 xs.length),(29,.int .i64 i)]/\I (eq1 (xs.drop i) true++rest) t/\σ.next<=t.next) xs.length ⟨rfl,hi,hn⟩ ?_;rintro i fr t hle ⟨rfl,hi,hn⟩;by_cases hlt:i<xs.length
    ·obtain ⟨a,ha,_,hdr,hget,_⟩:=ad6 xs i hlt;have c1:(i:Int)<xs.length:=om
     have c2:(0:Int)<=i:=om
     have w1:=ad1 (i:=i) om;have hl:a.cs.all IV.leaf=true:=by rw[aa6.ar1]; rfl
     have ht:a.cs.take 7=a.cs:=zc (by rw[ab8]; exact zb _);obtain ⟨hb1,hb2⟩:=hown _ _ hi;have hb3:¬ b=t.next:=om
     simp only[go_sem,c1,c2,hget,ab8,ht,hl,hb2,hb3];rw[hdr,cf8,zx] at hi;refine ac5 fok199 (ih a ha (f5 a ha) true (eq1 (xs.drop (i+1)) true++rest) b yid I S _ hown hstab hy (hstab _ _ _ hi (z5 _) (fun j hj=>?_))) ?_
     ·have:¬ j=t.next:=om
      simp only[aa5,this,if_false]
     ·rintro v s2 ⟨hn2,⟨rfl,hi2⟩|⟨rfl,hs2⟩⟩
      ·refine ⟨hn2,?_⟩;have hn3:t.next+1<=s2.next:=hn2;simp only[go_sem,w1];exact ⟨hlt,hi2,om⟩
      ·refine ⟨hn2,?_⟩;have hn3:t.next+1<=s2.next:=hn2;simp only[go_sem];exact ⟨om,.inr hs2⟩
    ·have hi':i=xs.length:=om
     subst hi';have c1:¬ (xs.length:Int)<xs.length:=om
     simp only[zk,eq1,aa6.bj3,zt,z1] at hi;simp only[go_sem,c1];exact ⟨hn,.inl hi⟩
   ·have hA:(al||decide (k=6)||decide (k=7))=false:=by simp[h1,h2,h3]
    rw[hA] at hi;simp only[go_sem,h1,h2,h3];refine ab3 noT (fun i fr t=>fr=[(1,.bool false),(2,.yield yid),(3,.ptr b 0),(27,.aa4 (xs.map aa6.cs)),(28,.int .i64 xs.length),(29,.int .i64 i)]/\I (eq1 (xs.drop i) false++rest) t/\σ.next<=t.next) xs.length ⟨rfl,hi,hn⟩ ?_;rintro i fr t hle ⟨rfl,hi,hn⟩;by_cases hlt:i<xs.length
    ·obtain ⟨a,ha,_,hdr,hget,_⟩:=ad6 xs i hlt;have c1:(i:Int)<xs.length:=om
     have c2:(0:Int)<=i:=om
     have w1:=ad1 (i:=i) om;have hl:a.cs.all IV.leaf=true:=by rw[aa6.ar1]; rfl
     have ht:a.cs.take 7=a.cs:=zc (by rw[ab8]; exact zb _);obtain ⟨hb1,hb2⟩:=hown _ _ hi;have hb3:¬ b=t.next:=om
     simp only[go_sem,c1,c2,hget,ab8,ht,hl,hb2,hb3];rw[hdr,cf8,zx] at hi;refine ac5 fok199 (ih a ha (f5 a ha) false (eq1 (xs.drop (i+1)) false++rest) b yid I S _ hown hstab hy (hstab _ _ _ hi (z5 _) (fun j hj=>?_))) ?_
     ·have:¬ j=t.next:=om
      simp only[aa5,this,if_false]
     ·rintro v s2 ⟨hn2,⟨rfl,hi2⟩|⟨rfl,hs2⟩⟩
      ·refine ⟨hn2,?_⟩;have hn3:t.next+1<=s2.next:=hn2;simp only[go_sem,w1];exact ⟨hlt,hi2,om⟩
      ·refine ⟨hn2,?_⟩;have hn3:t.next+1<=s2.next:=hn2;simp only[go_sem];exact ⟨om,.inr hs2⟩
    ·have hi':i=xs.length:=om
     subst hi';have c1:¬ (xs.length:Int)<xs.length:=om
     simp only[zk,eq1,aa6.bj3,zt,z1] at hi;simp only[go_sem,c1];exact ⟨hn,.inl hi⟩
  ·simp only[go_sem];exact ⟨hn,.inr hs⟩
theorem dv8 (r:aa6)(hf:r.fit)(b:Nat):fg1 Tryz.prog EE (.func (.func 200) [] [.ptr b 0,.ab9 r.cs]) (evs r false) (boxed b):=by
 intro yid I S σ hown hstab hy hi;refine ⟨fok200.1,?_⟩;refine C_f fok200 (nZ rfl) ?_;obtain ⟨hb1,hb2⟩:=hown _ _ hi;have ht:r.cs.take 7=r.cs:=zc (by rw[ab8]; exact zb _);simp only[ic200,go_sem,hb2,ht,ab8];refine ac5 fok199 (jt7 r hf false [] b yid I S σ hown hstab hy (by rw[List.append_nil]; exact hi)) ?_;rintro v s ⟨hn,h⟩;refine ⟨hn,?_⟩;simp only[go_sem];refine ⟨hn,?_⟩;rcases h with ⟨_,h⟩|⟨_,h⟩
 ·exact .inl h
 ·exact .inr h
theorem gv9 (r:aa6)(σ:Store):C Tryz.prog EE 158 [.agg r.cs] σ fun v s=>v=.func (.func 200) [] [.ptr σ.next 0,.ab9 r.cs]/\boxed σ.next s/\σ.next<=s.next/\∀ i,i<σ.next->s.obj i=σ.obj i:=by
 refine C_f fok158 (nZ rfl) ?_;have hl:r.cs.all IV.leaf=true:=by rw[aa6.ar1]; rfl
 simp only[ic158,go_sem,hl];refine ⟨⟨qb _,?_⟩,z5 _,fun i hi=>?_⟩
 ·simp only[aa5,if_true]
 ·have:¬ i=σ.next:=om
  simp only[aa5,this,if_false]
theorem aa6.gw1 (r:aa6):∀ al,(r.parts al).length=r.count:=by
 induction r using aa6.ind with
 | h k d xs ih=>
  intro al;simp only[aa6.parts,aa6.count,zv];congr 1;generalize (al||decide (k=6)||decide (k=7))=al';clear al
  induction xs with
  | nil=>rfl
  | cons a xs ih'=>
   simp only[aa6.bj3,aa6.counts,qf];rw[ih a (zs ..),ih' (fun b hb=>ih b (zn _ hb))]
theorem fa8 {r:aa6}{al:Bool}:∀ a∈evs r al,a.length=2:=fun a ha=>by
 obtain ⟨p,_,rfl⟩:=zm.1 ha; rfl
theorem jd4 (r:aa6)(al:Bool):(evs r al).length=r.count:=by rw[evs,za,aa6.gw1]
theorem cf9 (r:aa6)(hf:r.fit)(hc:r.count<2^62):PC Tryz.prog EE 124 [.agg r.cs] (.int .i64 r.count):=by
 refine ae6 hE fok124 (nZ rfl) (ae5 (ah2 _)) ?_;have hl:r.cs.all IV.leaf=true:=by rw[aa6.ar1]; rfl
 have ht:r.cs.take 7=r.cs:=zc (by rw[ab8]; exact zb _);simp only[ic124,go_sem,hl,ht,ab8];refine ac5 fok158 (gv9 r _) ?_;rintro v s1 ⟨rfl,hb,hn,hs⟩;refine ⟨hn,?_⟩;simp only[go_sem] at hn hs hb ⊢;have h0:s1.obj 0=zd (.cells [.int .i64 0]):=by rw[hs 0 om]; rfl
 have hb2:=hb.1;refine ea6 (dv8 r hf 1) (fun rest s=>boxed 1 s/\∃ n:Nat,s.obj 0=zd (.cells [.int .i64 n])/\n+rest.length=r.count) (fun _ _ h=>h.1) ?_ fa8 ?_ ?_ ?_
 ·rintro rest s s' ⟨⟨q1,q2⟩,n,q3,q4⟩ hn' hs';exact ⟨⟨om,by rw[hs' 1 q1]; exact q2⟩,n,by rw[hs' 0 om]; exact q3,q4⟩
 ·intro o;have e0:¬ 0=s1.next:=om
  have e1:¬ 1=s1.next:=om
  exact ⟨⟨by show 1<s1.next+1; omega,by simp only[aa5,e1,if_false]; exact hb.2⟩,0,by simp only[aa5,e0,if_false]; exact h0,by rw[jd4]; omega⟩
 ·rintro L pre a rest s hev ⟨⟨q1,q2⟩,n,q3,q4⟩ hL hlt;have ha:=fa8 (r:=r) (al:=false) a (by rw[hev]; simp)
  match a,ha with
  | [x,y],_=>
   have e0:¬ 0=s1.next:=om
   have e1:¬ s1.next=0:=om
   have e2:¬ 1=s1.next:=om
   simp only[zv] at q4;have w1:=ad1 (i:=n) om;have e3:¬ s1.next=1:=om
   simp only[go_sem,hL,e0,q3,e1,w1];refine ev1 (zb _) ?_ ⟨⟨q1,?_⟩,n+1,?_,om⟩
   ·simp only[aa5,if_true]
   ·have:¬ 1=0:=om
    simp only[aa5,e2,this,if_false]; exact q2
   ·simp only[aa5,e0,if_false,if_true]
 ·rintro s o ⟨⟨q1,q2⟩,n,q3,q4⟩ hlt ho;have e0:¬ 0=s1.next:=om
  have:n=r.count:=by simpa using q4
  subst this;simp only[go_sem,e0,q3];exact af2 _ _
theorem gw2 (r:aa6):r.fit->∀ al,∀ p∈r.parts al,p.1.fit:=by
 induction r using aa6.ind with
 | h k d xs ih=>
  intro hf al p hp;simp only[aa6.parts,z6] at hp;rcases hp with rfl|hp
  ·exact hf
  ·have hx:=(aa6.by6.1 hf).2.2.2.2;clear hf;generalize (al||decide (k=6)||decide (k=7))=al' at hp
   induction xs with
   | nil=>simp[aa6.bj3] at hp
   | cons a xs ih'=>
    simp only[aa6.bj3,List.mem_append] at hp;rcases hp with hp|hp
    ·exact ih a (zs ..) (hx a (zs ..)) _ p hp
    ·exact ih' (fun b hb=>ih b (zn _ hb)) (fun b hb=>hx b (zn _ hb)) hp
theorem ih5 (r:aa6):r.depth<=r.count:=by
 induction r using aa6.ind with
 | h k d xs ih=>
  simp only[aa6.depth,aa6.count];split
  ·omega
  ·apply Nat.succ_le_succ
   induction xs with
   | nil=>simp[aa6.bf8]
   | cons a xs ih'=>
    simp only[aa6.bf8,aa6.counts];have h1:=ih a (zs ..);have h2:=ih' (fun b hb=>ih b (zn _ hb));omega
theorem dg9 (r:aa6)(wh:Int)(hf:r.fit)(hc:r.count<2^62):PC Tryz.prog EE 107 [.agg r.cs,.int .u8 wh] (.int .i64 (an8 r wh)):=by
 refine ae6 hE fok107 (nZ rfl) (fun a ha=>by
  cases ha with
  | head=>exact ah2 _
  | tail _ ha=>cases ha with
   | head=>exact .int _ _
   | tail _ ha=>cases ha) ?_
 have hl:r.cs.all IV.leaf=true:=by rw[aa6.ar1]; rfl
 have ht:r.cs.take 7=r.cs:=zc (by rw[ab8]; exact zb _);have hdl:=ih5 r;by_cases a1:wh<1
 ·simp only[ic107,go_sem,hl,a1,an8];exact af2 _ _
 by_cases a2:3<wh
 ·simp only[ic107,go_sem,hl,a1,a2,an8];exact af2 _ _
 simp only[ic107,go_sem,hl,a1,a2,ht,ab8];refine aa3 fok124 (cf9 r hf hc) ?_;by_cases a3:24<r.count
 ·have c3:(24:Int)<r.count:=om
  simp only[go_sem,c3,an8,a1,a2,a3,or_self];exact af2 _ _
 have c3:¬ (24:Int)<r.count:=om
 simp only[go_sem,c3,ht,ab8];refine aa3 fok157 (ee9 r hf om) ?_;by_cases a4:8<r.depth
 ·have c4:(8:Int)<r.depth:=om
  simp only[go_sem,c4,an8,a1,a2,a3,a4,or_self];exact af2 _ _
 have c4:¬ (8:Int)<r.depth:=om
 simp only[go_sem,c4,ht,ab8]
 have hres:an8 r wh=if (r.parts false).all (fun p=>ai9 wh p.1 p.2)=true then 0 else 4:=by
  simp only[an8,a1,a2,a3,a4,or_self,if_false]
 rw[hres];generalize hS:(Store.mk _ _)=s0;refine ac5 fok158 (gv9 r _) ?_;rintro v s1 ⟨rfl,hb,hn,hs⟩;have g0:s0.next=1:=by subst hS; simp only
 have g1:s0.obj 0=zd (.cells [.int .i64 0]):=by subst hS; simp only[aa5,if_true]
 refine ⟨hn,?_⟩;rw[g0] at hb hn hs;have hb2:=hb.1;have h0:s1.obj 0=zd (.cells [.int .i64 0]):=by rw[hs 0 om,g1]
 have e0:¬ 0=s1.next:=om
 have e1:¬ s1.next=0:=om
 have e2:¬ 1=s1.next:=om
 simp only[go_sem,g0];refine ea6 (dv8 r hf 1) (fun rest s=>(boxed 1 s/\s.obj 0=zd (.cells [.int .i64 0]))/\∃ ps:List (aa6×Bool),rest=ps.map row/\(∀ p∈ps,p.1.fit)/\(r.parts false).all (fun p:aa6×Bool=>ai9 wh p.1 p.2)=ps.all (fun p:aa6×Bool=>ai9 wh p.1 p.2)) (fun _ _ h=>h.1.1) ?_ fa8 ?_ ?_ ?_
 ·rintro rest s s' ⟨⟨⟨q1,q2⟩,q3⟩,q4⟩ hn' hs';exact ⟨⟨⟨om,by rw[hs' 1 q1]; exact q2⟩,by rw[hs' 0 om]; exact q3⟩,q4⟩
 ·intro o;exact ⟨⟨⟨by show 1<s1.next+1; omega,by simp only[aa5,e2,if_false]; exact hb.2⟩,by simp only[aa5,e0,if_false]; exact h0⟩,_,rfl,gw2 r hf false,rfl⟩
 ·rintro L pre a rest s hev ⟨⟨⟨q1,q2⟩,q3⟩,ps,hps,hfp,hall⟩ hL hlt
  cases ps with
  | nil=>cases hps
  | cons p ps=>
   obtain ⟨⟨k,d,xs⟩,al⟩:=p;simp only[zy,List.cons.injEq] at hps;obtain ⟨rfl,rfl⟩:=hps;obtain ⟨f1,f2,f3,f4,f5⟩:=aa6.by6.1 (hfp _ (zs ..));have hfp':∀ p∈ps,p.1.fit:=fun p hp=>hfp p (zn _ hp)
   simp only[z7] at hall;have u0:¬ 0=s.next:=om
   have u1:¬ s1.next=s.next:=om
   have u2:¬ s.next=s1.next:=om
   have u3:¬ 0=s.next+1:=om
   have u4:¬ s1.next=s.next+1:=om
   have u5:¬ s.next=s.next+1:=om
   simp only[row,aa6.ar1,aa6.kind,aa6.dep,aa6.args,go_sem,hL,q3,e0,e1,u0,u1,u2,u3,u4,u5];have u6:¬ s.next+1=s1.next:=om
   have u7:¬ s.next+1=s.next:=om
   have u8:¬ s.next+1=0:=om
   have u9:¬ s.next=0:=om
   have u10:¬ 1=s.next:=om
   have u11:¬ 1=s.next+1:=om
   refine aa3 fok159 (gc6 k f1 f2) ?_;simp only[go_sem,ih4,q3,e0,e1,u0,u3,e2,u1,u2,u4,u5,u6,u7,u8,u9,u10,u11];have hstop:∀ ok:Bool,ai9 wh (.mk k d xs) al=ok->ai9 wh (.mk k d xs) al=ok:=fun _ h=>h
   by_cases b1:((asks k).2.2.2:Int)<wh
   ·have hok:ai9 wh (.mk k d xs) al=false:=by simp[ai9,aa6.kind,b1]
    simp only[go_sem,b1,q3,e0,e1,u0,u3,e2,u1,u2,u4,u5,u6,u7,u8,u9,u10,u11]
    (refine dc7 (by simp only[ab2]; omega) (by simp only[aa5,if_true]) ?_; simp only[go_sem,e2,u1,u2,u4,u5,u6,u7,u8,u9,u10,u11,e0,u0,u3]; rw[hall,hok]; exact af2 _ _)
   by_cases b2:(al=true/\(asks k).2.2.1=false)
   ·have hok:ai9 wh (.mk k d xs) al=false:=by simp[ai9,aa6.kind,b2.1,b2.2]
    simp only[go_sem,b1,b2.1,b2.2,q3,e0,e1,u0,u3,e2,u1,u2,u4,u5,u6,u7,u8,u9,u10,u11]
    (refine dc7 (by simp only[ab2]; omega) (by simp only[aa5,if_true]) ?_; simp only[go_sem,e2,u1,u2,u4,u5,u6,u7,u8,u9,u10,u11,e0,u0,u3]; rw[hall,hok]; exact af2 _ _)
   have hb2:(al&&!(asks k).2.2.1)=false:=by
    cases al<;>cases hx:(asks k).2.2.1<;>simp_all
   have hal:(al=false)\/(al=true/\(asks k).2.2.1=true):=by
    cases al<;>cases hx:(asks k).2.2.1<;>simp_all
   have hdd:decide (d=cq9)=(decide (d.name=[])&&(decide (d.op=0)&&(decide (d.evr.aq6=0)&&(decide (d.evr.ver=[])&&decide (d.evr.rel=[]))))):=by
    obtain ⟨n,o,e,v,r⟩:=d;simp only[cq9,gq2,Dep.mk.injEq,EVR.mk.injEq,qc]
   have hpart:ai9 wh (.mk k d xs) al=(!(decide (((asks k).2.2.2:Int)<wh)||al&&!(asks k).2.2.1||decide (xs.length<(asks k).1)||decide ((asks k).2.1<xs.length))&&(if k=1 then aj9 d else decide (d=cq9))):=rfl;have hdc:=bs1 d f3.1 f3.2.1 f3.2.2;rcases hal with h1|⟨h1,h2⟩
   ·by_cases b3:xs.length<(asks k).1
    ·have c3:(xs.length:Int)<(asks k).1:=om
     have hok:ai9 wh (.mk k d xs) al=false:=by simp[ai9,aa6.kind,aa6.args,b3]
     simp only[go_sem,b1,h1,c3,q3,e0,e1,u0,u3,e2,u1,u2,u4,u5,u6,u7,u8,u9,u10,u11]
     (refine dc7 (by simp only[ab2]; omega) (by simp only[aa5,if_true]) ?_; simp only[go_sem,e2,u1,u2,u4,u5,u6,u7,u8,u9,u10,u11,e0,u0,u3]; rw[hall,hok]; exact af2 _ _)
    have c3:¬ (xs.length:Int)<(asks k).1:=om
    by_cases b4:(asks k).2.1<xs.length
    ·have c4:((asks k).2.1:Int)<xs.length:=om
     have hok:ai9 wh (.mk k d xs) al=false:=by simp[ai9,aa6.kind,aa6.args,b4]
     simp only[go_sem,b1,h1,c3,c4,q3,e0,e1,u0,u3,e2,u1,u2,u4,u5,u6,u7,u8,u9,u10,u11]
     (refine dc7 (by simp only[ab2]; omega) (by simp only[aa5,if_true]) ?_; simp only[go_sem,e2,u1,u2,u4,u5,u6,u7,u8,u9,u10,u11,e0,u0,u3]; rw[hall,hok]; exact af2 _ _)
    have c4:¬ ((asks k).2.1:Int)<xs.length:=om
    by_cases hk:k=1
    ·have hkd:decide (k=1)=true:=decide_eq_true hk;simp only[go_sem,b1,h1,c3,c4,hkd,q3,e0,e1,u0,u3,e2,u1,u2,u4,u5,u6,u7,u8,u9,u10,u11,ce3];refine aa3 fok38 hdc ?_
     cases hd:aj9 d with
     | false=>
      have hok:ai9 wh (.mk k d xs) al=false:=by simp[ai9,aa6.kind,aa6.args,aa6.dep,hk,hd]
      simp only[go_sem,q3,e0,e1,u0,u3,e2,u1,u2,u4,u5,u6,u7,u8,u9,u10,u11]
      (refine dc7 (by simp only[ab2]; omega) (by simp only[aa5,if_true]) ?_; simp only[go_sem,e2,u1,u2,u4,u5,u6,u7,u8,u9,u10,u11,e0,u0,u3]; rw[hall,hok]; exact af2 _ _)
     | true=>
      have hok:ai9 wh (.mk k d xs) al=true:=by
       rw[hpart,decide_eq_false b1,hb2,decide_eq_false b3,decide_eq_false b4,if_pos hk,hd]; rfl
      simp only[go_sem,hkd,q3,e0,e1,u0,u3,e2,u1,u2,u4,u5,u6,u7,u8,u9,u10,u11]
      (refine ev1 (by simp only[ab2]; omega) (by simp only[aa5,if_true]) ⟨⟨⟨by simp only[ab2]; omega,by simp only[aa5,e2,u1,u2,u4,u5,u6,u7,u8,u9,u10,u11,if_false]; exact q2⟩,by simp only[aa5,e0,u0,u3,if_false]; exact q3⟩,ps,rfl,hfp',by rw[hall,hok,zh]⟩)
    ·simp only[go_sem,b1,h1,c3,c4,hk,q3,e0,e1,u0,u3,e2,u1,u2,u4,u5,u6,u7,u8,u9,u10,u11,ce3];rw[<- hdd];by_cases hd:d=cq9
     ·have hok:ai9 wh (.mk k d xs) al=true:=by
       rw[hpart,decide_eq_false b1,hb2,decide_eq_false b3,decide_eq_false b4,if_neg hk,decide_eq_true hd]; rfl
      have hd1:decide (d=cq9)=true:=decide_eq_true hd;simp only[go_sem,hd1,q3,e0,e1,u0,u3,e2,u1,u2,u4,u5,u6,u7,u8,u9,u10,u11]
      (refine ev1 (by simp only[ab2]; omega) (by simp only[aa5,if_true]) ⟨⟨⟨by simp only[ab2]; omega,by simp only[aa5,e2,u1,u2,u4,u5,u6,u7,u8,u9,u10,u11,if_false]; exact q2⟩,by simp only[aa5,e0,u0,u3,if_false]; exact q3⟩,ps,rfl,hfp',by rw[hall,hok,zh]⟩)
     ·have hok:ai9 wh (.mk k d xs) al=false:=by simp[ai9,aa6.kind,aa6.args,aa6.dep,hk,hd]
      have hd1:decide (d=cq9)=false:=decide_eq_false hd;simp only[go_sem,hd1,q3,e0,e1,u0,u3,e2,u1,u2,u4,u5,u6,u7,u8,u9,u10,u11]
      (refine dc7 (by simp only[ab2]; omega) (by simp only[aa5,if_true]) ?_; simp only[go_sem,e2,u1,u2,u4,u5,u6,u7,u8,u9,u10,u11,e0,u0,u3]; rw[hall,hok]; exact af2 _ _)
   ·by_cases b3:xs.length<(asks k).1
    ·have c3:(xs.length:Int)<(asks k).1:=om
     have hok:ai9 wh (.mk k d xs) al=false:=by simp[ai9,aa6.kind,aa6.args,b3]
     simp only[go_sem,b1,h1,h2,c3,q3,e0,e1,u0,u3,e2,u1,u2,u4,u5,u6,u7,u8,u9,u10,u11]
     (refine dc7 (by simp only[ab2]; omega) (by simp only[aa5,if_true]) ?_; simp only[go_sem,e2,u1,u2,u4,u5,u6,u7,u8,u9,u10,u11,e0,u0,u3]; rw[hall,hok]; exact af2 _ _)
    have c3:¬ (xs.length:Int)<(asks k).1:=om
    by_cases b4:(asks k).2.1<xs.length
    ·have c4:((asks k).2.1:Int)<xs.length:=om
     have hok:ai9 wh (.mk k d xs) al=false:=by simp[ai9,aa6.kind,aa6.args,b4]
     simp only[go_sem,b1,h1,h2,c3,c4,q3,e0,e1,u0,u3,e2,u1,u2,u4,u5,u6,u7,u8,u9,u10,u11]
     (refine dc7 (by simp only[ab2]; omega) (by simp only[aa5,if_true]) ?_; simp only[go_sem,e2,u1,u2,u4,u5,u6,u7,u8,u9,u10,u11,e0,u0,u3]; rw[hall,hok]; exact af2 _ _)
    have c4:¬ ((asks k).2.1:Int)<xs.length:=om
    by_cases hk:k=1
    ·have hkd:decide (k=1)=true:=decide_eq_true hk;simp only[go_sem,b1,h1,h2,c3,c4,hkd,q3,e0,e1,u0,u3,e2,u1,u2,u4,u5,u6,u7,u8,u9,u10,u11,ce3];refine aa3 fok38 hdc ?_
     cases hd:aj9 d with
     | false=>
      have hok:ai9 wh (.mk k d xs) al=false:=by simp[ai9,aa6.kind,aa6.args,aa6.dep,hk,hd]
      simp only[go_sem,q3,e0,e1,u0,u3,e2,u1,u2,u4,u5,u6,u7,u8,u9,u10,u11]
      (refine dc7 (by simp only[ab2]; omega) (by simp only[aa5,if_true]) ?_; simp only[go_sem,e2,u1,u2,u4,u5,u6,u7,u8,u9,u10,u11,e0,u0,u3]; rw[hall,hok]; exact af2 _ _)
     | true=>
      have hok:ai9 wh (.mk k d xs) al=true:=by
       rw[hpart,decide_eq_false b1,hb2,decide_eq_false b3,decide_eq_false b4,if_pos hk,hd]; rfl
      simp only[go_sem,hkd,q3,e0,e1,u0,u3,e2,u1,u2,u4,u5,u6,u7,u8,u9,u10,u11]
      (refine ev1 (by simp only[ab2]; omega) (by simp only[aa5,if_true]) ⟨⟨⟨by simp only[ab2]; omega,by simp only[aa5,e2,u1,u2,u4,u5,u6,u7,u8,u9,u10,u11,if_false]; exact q2⟩,by simp only[aa5,e0,u0,u3,if_false]; exact q3⟩,ps,rfl,hfp',by rw[hall,hok,zh]⟩)
    ·simp only[go_sem,b1,h1,h2,c3,c4,hk,q3,e0,e1,u0,u3,e2,u1,u2,u4,u5,u6,u7,u8,u9,u10,u11,ce3];rw[<- hdd];by_cases hd:d=cq9
     ·have hok:ai9 wh (.mk k d xs) al=true:=by
       rw[hpart,decide_eq_false b1,hb2,decide_eq_false b3,decide_eq_false b4,if_neg hk,decide_eq_true hd]; rfl
      have hd1:decide (d=cq9)=true:=decide_eq_true hd;simp only[go_sem,hd1,q3,e0,e1,u0,u3,e2,u1,u2,u4,u5,u6,u7,u8,u9,u10,u11]
      (refine ev1 (by simp only[ab2]; omega) (by simp only[aa5,if_true]) ⟨⟨⟨by simp only[ab2]; omega,by simp only[aa5,e2,u1,u2,u4,u5,u6,u7,u8,u9,u10,u11,if_false]; exact q2⟩,by simp only[aa5,e0,u0,u3,if_false]; exact q3⟩,ps,rfl,hfp',by rw[hall,hok,zh]⟩)
     ·have hok:ai9 wh (.mk k d xs) al=false:=by simp[ai9,aa6.kind,aa6.args,aa6.dep,hk,hd]
      have hd1:decide (d=cq9)=false:=decide_eq_false hd;simp only[go_sem,hd1,q3,e0,e1,u0,u3,e2,u1,u2,u4,u5,u6,u7,u8,u9,u10,u11]
      (refine dc7 (by simp only[ab2]; omega) (by simp only[aa5,if_true]) ?_; simp only[go_sem,e2,u1,u2,u4,u5,u6,u7,u8,u9,u10,u11,e0,u0,u3]; rw[hall,hok]; exact af2 _ _)
 ·rintro s o ⟨⟨⟨q1,q2⟩,q3⟩,ps,hps,_,hall⟩ hlt ho;have:ps=[]:=by cases ps with|nil=>rfl|cons _ _=>cases hps
  subst this;rw[hall];simp only[go_sem,e0,q3,z8];exact af2 _ _
end Go.Id.Tryz
namespace Go.Id.Tryz
open Go Go.Id Go.Proofs Go.Id.Md
def ai2 {α:Type}(q:α->Bool):List α->Int->Int
 | [],_=>-1
 | e::es,i=>if q e then i else ai2 q es (i+1)
theorem gw3 {α:Type}(q:α->Bool):∀ (l:List α) (i:Nat),decide (0<=ai2 q l i)=l.any q:=by
 intro l
 induction l with
 | nil=>intro i; rfl
 | cons x l ih=>
  intro i;simp only[ai2,List.any_cons];by_cases h:q x=true
  ·simp only[h,if_true,Bool.true_or]; exact decide_eq_true om
  ·have h':q x=false:=by simpa using h
   have e:=ih (i+1);rw[z3,z2] at e;simp only[h',zw,if_false,qe];exact e
theorem ar4 {α:Type}(q:α->Bool)(l:List α):decide (0<=ai2 q l 0)=l.any q:=gw3 q l 0
theorem ap8 (d:Dep):d.cs.length=5:=rfl
theorem al9 (d:Dep):d.cs.all IV.leaf=true:=rfl
theorem am9 (d:Dep):d.cs.take 5=d.cs:=rfl
theorem ab1 (r:aa6):r.cs.all IV.leaf=true:=by rw[aa6.ar1]; rfl
theorem ab6 (r:aa6):r.cs.take 7=r.cs:=zc (by rw[ab8]; exact zb _)
theorem ef1 (s:Str):(cb9 s).length=1:=rfl
theorem cg1 (l:List Dep):Bnd 0 (.aa4 (l.map Dep.cs)):=.aa4 _ fun e he c hc=>by
 obtain ⟨d,_,rfl⟩:=zm.1 he; exact gv8 d c hc
theorem cz9 (l:List Str):Bnd 0 (.aa4 (l.map cb9)):=.aa4 _ fun e he c hc=>by
 obtain ⟨d,_,rfl⟩:=zm.1 he; cases hc with|head=>exact .str _|tail _ h=>cases h
theorem bk2 (l:List aa6):Bnd 0 (.aa4 (l.map aa6.cs)):=.aa4 _ fun e he c hc=>by
 obtain ⟨d,_,rfl⟩:=zm.1 he; exact ee8 d c hc
theorem gw4 (xs:List Dep)(g:Nat)(first cap:List IV)(q:Dep->Bool)(hn:xs.length<2^62)(hok:okF Tryz.prog g=true)
  (hq:∀ x∈xs,PC Tryz.prog EE g (first++[IV.agg (Dep.cs x)]++cap) (.bool (q x))):PC Tryz.prog EE 196 [.aa4 (xs.map Dep.cs),.func (.func g) first cap] (.int .i64 (ai2 q xs 0)):=by
 refine ba5 fok196 (nZ rfl) fun σ=>?_
 simp only[ic196,go_sem];refine ab3 noT (fun i fr s=>s=σ/\fr=[(0,.aa4 (xs.map Dep.cs)),(1,.func (.func g) first cap),(7,.int .i64 xs.length),(8,.int .i64 i)]/\ai2 q xs 0=ai2 q (xs.drop i) i) xs.length ⟨rfl,rfl,rfl⟩ ?_;rintro i fr s hi ⟨rfl,rfl,hf⟩;by_cases hlt:i<xs.length
 ·obtain ⟨x,ha,_,hdr,hget,_⟩:=ad6 xs i hlt;have c1:(i:Int)<xs.length:=om
  have c2:(0:Int)<=i:=om
  have w1:=ad1 (i:=i) om;rw[hdr] at hf;simp only[go_sem,c1,c2,hget,ap8,am9,al9];refine an2 hok (em3 (hq x ha)) ?_;rintro v s ⟨rfl,rfl⟩;refine ⟨zb _,?_⟩
  cases hqe:q x with
  | true=>simp only[go_sem,hf,ai2,hqe,and_self]
  | false=>
   simp only[go_sem,w1];exact ⟨hlt,by rw[hf]; simp only[ai2,hqe,zw,if_false,z3,z2]⟩
 ·have hi':i=xs.length:=om
  subst hi';have c1:¬ (xs.length:Int)<xs.length:=om
  rw[zk] at hf;simp only[go_sem,c1,hf,ai2,and_self]
theorem dh1 (xs:List Dep)(g:Nat)(first cap:List IV)(q:Dep->Bool)(hn:xs.length<2^62)(hok:okF Tryz.prog g=true)
  (hq:∀ x∈xs,PC Tryz.prog EE g (first++[IV.agg (Dep.cs x)]++cap) (.bool (q x))):PC Tryz.prog EE 150 [.aa4 (xs.map Dep.cs),.func (.func g) first cap] (.bool (xs.any q)):=by
 refine ba5 fok150 (nZ rfl) fun σ=>?_
 simp only[ic150,go_sem];refine aa3 fok196 (gw4 xs g first cap q hn hok hq) ?_;simp only[go_sem,ar4,and_self]
theorem gw5 (x:Dep)(g:Nat)(first cap:List IV)(b:Bool)(hb:∀ c∈first,Bnd 0 c)(hb2:∀ c∈cap,Bnd 0 c)(hok:okF Tryz.prog g=true)(hq:PC Tryz.prog EE g (first++[IV.agg (Dep.cs x)]++cap) (.bool b)) :
  PC Tryz.prog EE 151 [IV.agg (Dep.cs x),.ab9 [.func (.func g) first cap]] (.bool !b):=by
 refine ba5 fok151 (nZ rfl) fun σ=>?_
 simp only[ic151,go_sem,ap8,am9,al9];refine an2 hok (em3 hq) ?_;rintro v s ⟨rfl,rfl⟩;refine ⟨zb _,?_⟩;simp only[go_sem,and_self]
theorem fk2 (xs:List Dep)(n:Int)(g:Nat)(first cap:List IV)(p:Dep->Bool)(hn:xs.length<2^62)(hb:∀ c∈first,Bnd 0 c)(hb2:∀ c∈cap,Bnd 0 c)(hok:okF Tryz.prog g=true)
  (hq:∀ x∈xs,PC Tryz.prog EE g (first++[IV.agg (Dep.cs x)]++cap) (.bool (p x))):PC Tryz.prog EE 102 [.aa4 (xs.map Dep.cs),.int .i64 n,.func (.func g) first cap] (.bool (decide ((xs.length:Int)<=n)&&xs.all p)):=by
 refine ba5 fok102 (nZ rfl) fun σ=>?_
 by_cases hle:(xs.length:Int)<=n
 ·simp only[ic102,go_sem,hle];refine aa3 fok150 (dh1 xs 151 [] [.ab9 [.func (.func g) first cap]] (fun x=>!p x) hn fok151.1 fun x hx=>gw5 x g first cap (p x) hb hb2 hok (hq x hx)) ?_;have:(!xs.any fun x=>!p x)=xs.all p:=by rw[z0]; simp
  simp only[go_sem,hle,this,and_self]
 ·simp only[ic102,go_sem,hle,and_self]
theorem gw6 (xs:List Str)(g:Nat)(first cap:List IV)(q:Str->Bool)(hn:xs.length<2^62)(hok:okF Tryz.prog g=true)
  (hq:∀ x∈xs,PC Tryz.prog EE g (first++[IV.str x]++cap) (.bool (q x))):PC Tryz.prog EE 197 [.aa4 (xs.map cb9),.func (.func g) first cap] (.int .i64 (ai2 q xs 0)):=by
 refine ba5 fok197 (nZ rfl) fun σ=>?_
 simp only[ic197,go_sem];refine ab3 noT (fun i fr s=>s=σ/\fr=[(0,.aa4 (xs.map cb9)),(1,.func (.func g) first cap),(7,.int .i64 xs.length),(8,.int .i64 i)]/\ai2 q xs 0=ai2 q (xs.drop i) i) xs.length ⟨rfl,rfl,rfl⟩ ?_;rintro i fr s hi ⟨rfl,rfl,hf⟩;by_cases hlt:i<xs.length
 ·obtain ⟨x,ha,_,hdr,hget,_⟩:=ad6 xs i hlt;have c1:(i:Int)<xs.length:=om
  have c2:(0:Int)<=i:=om
  have w1:=ad1 (i:=i) om;rw[hdr] at hf;simp only[go_sem,c1,c2,hget,ef1,cb9];refine an2 hok (em3 (hq x ha)) ?_;rintro v s ⟨rfl,rfl⟩;refine ⟨zb _,?_⟩
  cases hqe:q x with
  | true=>simp only[go_sem,hf,ai2,hqe,and_self]
  | false=>
   simp only[go_sem,w1];exact ⟨hlt,by rw[hf]; simp only[ai2,hqe,zw,if_false,z3,z2]⟩
 ·have hi':i=xs.length:=om
  subst hi';have c1:¬ (xs.length:Int)<xs.length:=om
  rw[zk] at hf;simp only[go_sem,c1,hf,ai2,and_self]
theorem gw7 (xs:List Str)(g:Nat)(first cap:List IV)(q:Str->Bool)(hn:xs.length<2^62)(hok:okF Tryz.prog g=true)
  (hq:∀ x∈xs,PC Tryz.prog EE g (first++[IV.str x]++cap) (.bool (q x))):PC Tryz.prog EE 152 [.aa4 (xs.map cb9),.func (.func g) first cap] (.bool (xs.any q)):=by
 refine ba5 fok152 (nZ rfl) fun σ=>?_
 simp only[ic152,go_sem];refine aa3 fok197 (gw6 xs g first cap q hn hok hq) ?_;simp only[go_sem,ar4,and_self]
theorem gw8 (x:Str)(g:Nat)(first cap:List IV)(b:Bool)(hb:∀ c∈first,Bnd 0 c)(hb2:∀ c∈cap,Bnd 0 c)(hok:okF Tryz.prog g=true)(hq:PC Tryz.prog EE g (first++[IV.str x]++cap) (.bool b)) :
  PC Tryz.prog EE 153 [IV.str x,.ab9 [.func (.func g) first cap]] (.bool !b):=by
 refine ba5 fok153 (nZ rfl) fun σ=>?_
 simp only[ic153,go_sem,ef1,cb9];refine an2 hok (em3 hq) ?_;rintro v s ⟨rfl,rfl⟩;refine ⟨zb _,?_⟩;simp only[go_sem,and_self]
theorem ih6 (xs:List Str)(n:Int)(g:Nat)(first cap:List IV)(p:Str->Bool)(hn:xs.length<2^62)(hb:∀ c∈first,Bnd 0 c)(hb2:∀ c∈cap,Bnd 0 c)(hok:okF Tryz.prog g=true)
  (hq:∀ x∈xs,PC Tryz.prog EE g (first++[IV.str x]++cap) (.bool (p x))):PC Tryz.prog EE 103 [.aa4 (xs.map cb9),.int .i64 n,.func (.func g) first cap] (.bool (decide ((xs.length:Int)<=n)&&xs.all p)):=by
 refine ba5 fok103 (nZ rfl) fun σ=>?_
 by_cases hle:(xs.length:Int)<=n
 ·simp only[ic103,go_sem,hle];refine aa3 fok152 (gw7 xs 153 [] [.ab9 [.func (.func g) first cap]] (fun x=>!p x) hn fok153.1 fun x hx=>gw8 x g first cap (p x) hb hb2 hok (hq x hx)) ?_;have:(!xs.any fun x=>!p x)=xs.all p:=by rw[z0]; simp
  simp only[go_sem,hle,this,and_self]
 ·simp only[ic103,go_sem,hle,and_self]
theorem gc7 (xs:List aa6)(g:Nat)(first cap:List IV)(q:aa6->Bool)(hn:xs.length<2^62)(hok:okF Tryz.prog g=true)
  (hq:∀ x∈xs,PC Tryz.prog EE g (first++[IV.agg (aa6.cs x)]++cap) (.bool (q x))):PC Tryz.prog EE 198 [.aa4 (xs.map aa6.cs),.func (.func g) first cap] (.int .i64 (ai2 q xs 0)):=by
 refine ba5 fok198 (nZ rfl) fun σ=>?_
 simp only[ic198,go_sem];refine ab3 noT (fun i fr s=>s=σ/\fr=[(0,.aa4 (xs.map aa6.cs)),(1,.func (.func g) first cap),(7,.int .i64 xs.length),(8,.int .i64 i)]/\ai2 q xs 0=ai2 q (xs.drop i) i) xs.length ⟨rfl,rfl,rfl⟩ ?_;rintro i fr s hi ⟨rfl,rfl,hf⟩;by_cases hlt:i<xs.length
 ·obtain ⟨x,ha,_,hdr,hget,_⟩:=ad6 xs i hlt;have c1:(i:Int)<xs.length:=om
  have c2:(0:Int)<=i:=om
  have w1:=ad1 (i:=i) om;rw[hdr] at hf;simp only[go_sem,c1,c2,hget,ab8,ab6,ab1];refine an2 hok (em3 (hq x ha)) ?_;rintro v s ⟨rfl,rfl⟩;refine ⟨zb _,?_⟩
  cases hqe:q x with
  | true=>simp only[go_sem,hf,ai2,hqe,and_self]
  | false=>
   simp only[go_sem,w1];exact ⟨hlt,by rw[hf]; simp only[ai2,hqe,zw,if_false,z3,z2]⟩
 ·have hi':i=xs.length:=om
  subst hi';have c1:¬ (xs.length:Int)<xs.length:=om
  rw[zk] at hf;simp only[go_sem,c1,hf,ai2,and_self]
theorem bk3 (xs:List aa6)(g:Nat)(first cap:List IV)(q:aa6->Bool)(hn:xs.length<2^62)(hok:okF Tryz.prog g=true)
  (hq:∀ x∈xs,PC Tryz.prog EE g (first++[IV.agg (aa6.cs x)]++cap) (.bool (q x))):PC Tryz.prog EE 155 [.aa4 (xs.map aa6.cs),.func (.func g) first cap] (.bool (xs.any q)):=by
 refine ba5 fok155 (nZ rfl) fun σ=>?_
 simp only[ic155,go_sem];refine aa3 fok198 (gc7 xs g first cap q hn hok hq) ?_;simp only[go_sem,ar4,and_self]
theorem gc8 (x:aa6)(g:Nat)(first cap:List IV)(b:Bool)(hb:∀ c∈first,Bnd 0 c)(hb2:∀ c∈cap,Bnd 0 c)(hok:okF Tryz.prog g=true)(hq:PC Tryz.prog EE g (first++[IV.agg (aa6.cs x)]++cap) (.bool b)) :
  PC Tryz.prog EE 156 [IV.agg (aa6.cs x),.ab9 [.func (.func g) first cap]] (.bool !b):=by
 refine ba5 fok156 (nZ rfl) fun σ=>?_
 simp only[ic156,go_sem,ab8,ab6,ab1];refine an2 hok (em3 hq) ?_;rintro v s ⟨rfl,rfl⟩;refine ⟨zb _,?_⟩;simp only[go_sem,and_self]
theorem gw9 (xs:List aa6)(n:Int)(g:Nat)(first cap:List IV)(p:aa6->Bool)(hn:xs.length<2^62)(hb:∀ c∈first,Bnd 0 c)(hb2:∀ c∈cap,Bnd 0 c)(hok:okF Tryz.prog g=true)
  (hq:∀ x∈xs,PC Tryz.prog EE g (first++[IV.agg (aa6.cs x)]++cap) (.bool (p x))):PC Tryz.prog EE 105 [.aa4 (xs.map aa6.cs),.int .i64 n,.func (.func g) first cap] (.bool (decide ((xs.length:Int)<=n)&&xs.all p)):=by
 refine ba5 fok105 (nZ rfl) fun σ=>?_
 by_cases hle:(xs.length:Int)<=n
 ·simp only[ic105,go_sem,hle];refine aa3 fok155 (bk3 xs 156 [] [.ab9 [.func (.func g) first cap]] (fun x=>!p x) hn fok156.1 fun x hx=>gc8 x g first cap (p x) hb hb2 hok (hq x hx)) ?_;have:(!xs.any fun x=>!p x)=xs.all p:=by rw[z0]; simp
  simp only[go_sem,hle,this,and_self]
 ·simp only[ic105,go_sem,hle,and_self]
def fk3 (x:Int×List aa6):List IV:=[.int .u8 x.1,aj6 x.2]
def gx1 (p:aa2):List (List IV):=p.rows.map fk3
theorem av1 (p:aa2):∀ c∈p.cs,Bnd 0 c:=by
 intro c hc;simp only[aa2.cs,z6,qa,or_false] at hc;rcases hc with rfl|rfl|rfl|rfl|rfl|rfl|rfl|rfl|rfl|rfl|rfl|rfl|rfl|rfl|rfl<;>first|exact .str _|exact .int _ _|exact cg1 _|exact bk2 _|exact cz9 _
theorem ao6 (p:aa2):Bnd 0 (.agg p.cs):=.agg _ (av1 p)
theorem af6 (p:aa2):p.cs.length=15:=rfl
theorem af4 (p:aa2):p.cs.take 15=p.cs:=rfl
theorem ac9 (p:aa2):p.cs.all IV.leaf=true:=rfl
theorem ih7 (p:aa2):PC Tryz.prog EE 104 [.agg p.cs] (.func (.func 154) [] [.ab9 p.cs]):=by
 refine ba5 fok104 (nZ rfl) fun σ=>?_
 simp only[ic104,go_sem,ac9,and_self]
theorem gc9 (p:aa2):fg1 Tryz.prog EE (.func (.func 154) [] [.ab9 p.cs]) (gx1 p) (fun _=>True):=by
 intro yid I S σ hown hstab hy hi;refine ⟨fok154.1,?_⟩;refine C_f fok154 (nZ rfl) ?_;simp only[ic154,go_sem,aa2.cs];simp only[gx1,aa2.rows,zy,zt,fk3] at hi;have stop:∀ s,σ.next<=s.next->S s->jn3 σ.next I S (.tuple []) s:=fun s hn hs=>⟨hn,.inr hs⟩
 refine cw4 hy hi (fun s1 n1 i1=>?_) (fun s1 n1 h1=>by simp only[go_sem]; exact stop _ n1 h1);simp only[go_sem];refine cw4 hy i1 (fun s2 n2 i2=>?_) (fun s2 n2 h2=>by simp only[go_sem]; exact stop _ om h2);simp only[go_sem];refine cw4 hy i2 (fun s3 n3 i3=>?_) (fun s3 n3 h3=>by simp only[go_sem]; exact stop _ om h3);simp only[go_sem];refine cw4 hy i3 (fun s4 n4 i4=>?_) (fun s4 n4 h4=>by simp only[go_sem]; exact stop _ om h4);simp only[go_sem];refine cw4 hy i4 (fun s5 n5 i5=>?_) (fun s5 n5 h5=>by simp only[go_sem]; exact stop _ om h5);simp only[go_sem];refine cw4 hy i5 (fun s6 n6 i6=>?_) (fun s6 n6 h6=>by simp only[go_sem]; exact stop _ om h6);simp only[go_sem];exact ⟨om,.inl i6⟩
theorem jd5 (r:aa6)(wh:Int)(hf:r.fit)(hc:r.count<2^62):PC Tryz.prog EE 106 [.agg r.cs,.ab9 [.int .u8 wh]] (.bool (decide (an8 r wh=0))):=by
 refine ba5 fok106 (nZ rfl) fun σ=>?_
 simp only[ic106,go_sem,ab8,ab6,ab1];refine aa3 fok107 (dg9 r wh hf hc) ?_;simp only[go_sem,and_self]
theorem ih8 (l:List aa6)(wh:Int)(hn:l.length<2^62)(hf:∀ r∈l,r.fit/\r.count<2^31):PC Tryz.prog EE 105 [aj6 l,.int .i64 32,.func (.func 106) [] [.ab9 [.int .u8 wh]]] (.bool (ak6 l wh)):=by
 have h:=gw9 l 32 106 [] [.ab9 [.int .u8 wh]] (fun r=>decide (an8 r wh=0)) hn (fun c hc=>by cases hc) (ae5 (.ab9 _ (ae5 (.int _ _)))) fok106.1 fun x hx=>jd5 x wh (hf x hx).1 (by have:=(hf x hx).2; omega)
 have e:decide ((l.length:Int)<=32)=decide (l.length<=32):=decide_eq_decide.2 om;rw[e] at h;exact h
theorem gx2 {σ:Store}{f id:Nat}{cs:List IV}(ho:σ.obj id=zd (.cells cs))(hb:∀ c∈cs,Bnd 0 c):cu4 σ 0 (.func (.func f) [] [.ptr id 0]) (.func (.func f) [] [.ab9 cs]):=by
 refine .func _ [] [] _ _ rfl rfl (fun i hi=>absurd hi (zu _)) (fun i hi=>?_)
 match i,hi with
 | 0,_=>
  refine .ptr id 0 cs cs (zu _) (.inl ho) om (fun j hj=>?_);rw[Nat.zero_add];exact .keep _ (hb _ (ad2 _ hj))
theorem fa9 {l:List Str}{i:Nat}{f:Str}(h0:0<i)(h:l.drop i=f::l.drop (i+1)):∃ a,l[i-1]? = zd a/\rising (l.drop (i-1))=(Op.bytesLess a f&&rising (l.drop i)):=by
 have hlt:i<l.length:=by
  rcases Nat.lt_or_ge i l.length with h1|h1
  ·exact h1
  ·rw[List.drop_of_length_le h1] at h; cases h
 have h2:i-1<l.length:=om
 refine ⟨l[i-1],zz h2,?_⟩;rw[List.drop_eq_getElem_cons h2,show i-1+1=i from by omega,h];rfl
theorem gx3 (p:aa2)(hf:p.Fit):PC Tryz.prog EE 63 [.agg p.cs] (.bool (ak1 p)):=by
 refine ae6 hE fok63 (nZ rfl) (ae5 (ao6 _)) ?_;simp only[ic63,go_sem,ac9,aa2.cs];refine aa3 fok67 (cs6 p.name hf.name) ?_
 cases h1:as5 p.name with
 | false=>simp only[go_sem,ak1,h1]; exact ab4 _
 | true=>
 simp only[go_sem];refine aa3 fok69 (cs7 p.name hf.name) ?_
 cases h2:bj1 p.name with
 | true=>simp only[go_sem,ak1,h1,h2]; exact ab4 _
 | false=>
 simp only[go_sem];refine aa3 (v:=.bool (bj2 p.evr false)) fok70 (ep9 p.evr false hf.evr.1 hf.evr.2) ?_
 cases h3:bj2 p.evr false with
 | false=>simp only[go_sem,ak1,h1,h2,h3]; exact ab4 _
 | true=>
 simp only[go_sem];refine aa3 fok101 (ez7 p.au7) ?_;have h4':=cf7 p.au7
 cases h4:ao2 p.au7 with
 | false=>
  rw[h4] at h4'
  simp only[go_sem,h4',ak1,h1,h2,h3,h4]; exact ab4 _
 | true=>
 rw[h4] at h4';simp only[go_sem,h4'];by_cases h5:p.vendor.length<=64
 case neg=>
  have h5':(64:Int)<p.vendor.length:=om
  simp only[go_sem,h5',ak1,h1,h2,h3,h4,h5]; exact ab4 _
 have h5':¬ (64:Int)<p.vendor.length:=om
 simp only[go_sem,h5'];have e32:∀ n:Nat,decide ((n:Int)<=32)=decide (n<=32):=fun n=>decide_eq_decide.2 om
 have hp6:=fk2 p.provides 32 38 [] [] aj9 (by have:=hf.au1.1; omega) (fun c hc=>by cases hc) (fun c hc=>by cases hc) fok38.1 fun x hx=>bs1 x (hf.au1.2 x hx).1 (hf.au1.2 x hx).2.1 (hf.au1.2 x hx).2.2
 have hp7:=fk2 p.aa8 32 38 [] [] aj9 (by have:=hf.obs.1; omega) (fun c hc=>by cases hc) (fun c hc=>by cases hc) fok38.1 fun x hx=>bs1 x (hf.obs.2 x hx).1 (hf.obs.2 x hx).2.1 (hf.obs.2 x hx).2.2
 have hp8:=ih6 p.files 32 69 [] [] bj1 (by have:=hf.files.1; omega) (fun c hc=>by cases hc) (fun c hc=>by cases hc) fok69.1 fun x hx=>cs7 x (hf.files.2 x hx)
 rw[e32] at hp6 hp7 hp8;refine aa3 fok102 hp6 ?_
 cases h6:(decide (p.provides.length<=32)&&p.provides.all aj9) with
 | false=>simp only[go_sem,ak1,h1,h2,h3,h4,h5,h6]; exact ab4 _
 | true=>
 simp only[go_sem];refine aa3 fok102 hp7 ?_
 cases h7:(decide (p.aa8.length<=32)&&p.aa8.all aj9) with
 | false=>simp only[go_sem,ak1,h1,h2,h3,h4,h5,h6,h7]; exact ab4 _
 | true=>
 simp only[go_sem];refine aa3 fok103 hp8 ?_
 cases h8:(decide (p.files.length<=32)&&p.files.all bj1) with
 | false=>simp only[go_sem,ak1,h1,h2,h3,h4,h5,h6,h7,h8]; exact ab4 _
 | true=>
 have hmay:ak1 p=(rising p.files&&p.rows.all fun x=>ak6 x.2 x.1):=by
  simp only[ak1,h1,h2,h3,h4,h5,h6,h7,h8,aa2.rows,z7,z8,decide_true,Bool.not_false,Bool.and_true,zh,Bool.and_assoc]
 simp only[go_sem];rw[hmay];refine ab3 noT (fun i fr s=>fr=[(1,.ab9 p.cs),(2,.ptr 0 0),(52,strs p.files),(53,.int .i64 p.files.length),(54,.int .i64 i)]/\(s.obj 0=zd (.cells [.bool false])/\0<s.next)/\rising p.files=rising (p.files.drop (i-1))) p.files.length ⟨rfl,⟨?_,?_⟩,rfl⟩ ?_
 ·simp only[aa5,if_true]
 ·exact Nat.zero_lt_one
 rintro i fr s hi ⟨rfl,⟨q1,q2⟩,hr⟩;by_cases hlt:i<p.files.length
 ·obtain ⟨f,ha,hfi,hdr,hget,_⟩:=ad6 p.files i hlt;have c1:(i:Int)<p.files.length:=om
  have c2:(0:Int)<=i:=om
  have w1:=ad1 (i:=i) (by have:=hf.files.1; omega);by_cases h0:0<i
  ·have c0:(0:Int)<i:=om
   obtain ⟨a,ha1,ha2⟩:=fa9 h0 hdr;have hget':(p.files.map cb9).getD (i-1) []=cb9 a:=by simp[List.getD_eq_getElem?_getD,ha1]
   have w0:IntKind.i64.wrap ((i:Int)-1)=((i-1:Nat):Int):=by
    have:=hf.files.1;rw[wrap64 om om]; omega
   have c3:(0:Int)<=((i-1:Nat):Int):=om
   have c4:((i-1:Nat):Int)<p.files.length:=om
   rw[ha2] at hr;simp only[go_sem,c0,c1,c2,c3,c4,w0,w1,hget,hget',cb9,aa2.cs]
   cases hb:Op.bytesLess a f with
   | true=>
    rw[hb,zh] at hr;simp only[go_sem,w1]
    exact ⟨hlt,⟨q1,q2⟩,hr⟩
   | false=>
    rw[hb,z4] at hr;simp only[go_sem,q1,hr];exact ab4 _
  ·have c0:¬ (0:Int)<i:=om
   simp only[go_sem,c0,c1,c2,w1,hget,cb9];refine ⟨hlt,⟨q1,q2⟩,?_⟩;have:i=0:=om
   subst this; exact hr
 ·have hi':i=p.files.length:=om
  subst hi';have c1:¬ (p.files.length:Int)<p.files.length:=om
  have hrt:rising p.files=true:=by
   rw[hr]
   cases hl:p.files.drop (p.files.length-1) with
   | nil=>rfl
   | cons x l=>
    have h1:=congrArg List.length hl;rw[zr,zv] at h1;have h2:l=[]:=List.length_eq_zero_iff.1 om;rw[h2]; rfl
  rw[hrt,zh];simp only[go_sem,c1,af6,af4];refine aa3 fok104 (ih7 p) ?_;simp only[go_sem];have e0:¬ 0=s.next:=om
  have e1:¬ s.next=0:=om
  refine ea6 (gc9 p) (fun rest s=>(0<s.next/\s.obj 0=zd (.cells [.bool false]))/\∃ ts:List (Int×List aa6),rest=ts.map fk3/\(∀ x∈ts,x∈p.rows)/\(p.rows.all fun x:Int×List aa6=>ak6 x.2 x.1)=ts.all fun x:Int×List aa6=>ak6 x.2 x.1) (fun _ _ h=>trivial) ?_ ?_ ?_ ?_ ?_
  ·rintro rest s s' ⟨⟨q1,q2⟩,q4⟩ hn' hs';exact ⟨⟨om,by rw[hs' 0 q1]; exact q2⟩,q4⟩
  ·intro a ha;obtain ⟨x,_,rfl⟩:=zm.1 ha;rfl
  ·intro o;exact ⟨⟨by show 0<s.next+1; omega,by simp only[aa5,e0,if_false]; exact q1⟩,_,rfl,fun x hx=>hx,rfl⟩
  ·rintro L pre a rest t hev ⟨⟨q3,q4⟩,ts,hts,hin,hall⟩ hL hlt
   cases ts with
   | nil=>cases hts
   | cons x ts=>
    simp only[zy,List.cons.injEq] at hts;obtain ⟨rfl,rfl⟩:=hts;obtain ⟨wh,l⟩:=x;simp only[z7] at hall;have hfx:=hf.rich _ (hin _ (zs ..));have hin':∀ y∈ts,y∈p.rows:=fun y hy=>hin y (zn _ hy)
    have u0:¬ 0=t.next:=om
    have u1:¬ s.next=t.next:=om
    have u2:¬ t.next=s.next:=om
    have u3:¬ t.next=0:=om
    simp only[fk3,go_sem,hL,q4,e0,e1,u0,u1,u2,u3];refine ac5 fok105 (cq7 (args':=[aj6 l,.int .i64 32,.func (.func 106) [] [.ab9 [.int .u8 wh]]]) hE rfl ?_ (by unfold IV.plain; rfl) (ih8 l wh (qg hfx.1 (by decide)) hfx.2)) ?_
    ·intro i hi
     match i,hi with
     | 0,_=>exact .keep _ (bk2 l)
     | 1,_=>exact .keep _ (.int _ _)
     | 2,_=>exact gx2 (by simp only[aa5,u2,if_false,if_true]) (ae5 (.int _ _))
    ·rintro v s2 ⟨rfl,rfl⟩;refine ⟨zb _,?_⟩
     cases hok:ak6 l wh with
     | true=>
      simp only[go_sem]
      refine ev1 (by simp only[ab2]; omega) (by simp only[aa5,if_true]) ⟨⟨by simp only[ab2]; omega,by simp only[aa5,e0,u0,if_false]; exact q4⟩,ts,rfl,hin',by rw[hall,hok,zh]⟩
     | false=>
      simp only[go_sem,q4,e0,e1,u0,u1,u2,u3];refine dc7 (by simp only[ab2]; omega) (by simp only[aa5,if_true]) ?_;simp only[go_sem,e0,u0];rw[hall,hok]; exact ab4 _
  ·rintro t o ⟨⟨q3,q4⟩,ts,hts,_,hall⟩ hlt ho;have:ts=[]:=by cases ts with|nil=>rfl|cons _ _=>cases hts
   subst this;rw[hall];simp only[go_sem,e0,q4,z8];exact ab4 _
end Go.Id.Tryz
namespace Go.Id.Tryz
open Go Go.Id Go.Proofs Go.Id.Md
def ad9 (n:Int):List IV:=[.int .i64 n]
theorem ag8 (l:List Int):Bnd 0 (.aa4 (l.map ad9)):=.aa4 _ fun e he c hc=>by
 obtain ⟨d,_,rfl⟩:=zm.1 he; cases hc with|head=>exact .int _ _|tail _ h=>cases h
theorem ao7 {es:List (List IV)}(h:Bnd 0 (.aa4 es)):∀ e∈es,∀ c∈e,Bnd 0 c:=by
 cases h with|aa4 _ h=>exact h
theorem dh2 (xs:List Dep)(hn:xs.length<=2147483648):PC Tryz.prog EE 108 [.aa4 (xs.map Dep.cs)] (.aa4 (xs.map Dep.cs)):=by
 cases hx:xs with
 | nil=>
  rw[zt];refine bq1 ?_ ?_
  ·refine ae6 hE fok108 (nZ rfl) (ae5 .aa1) ?_;simp only[ic108,go_sem,aj2];exact .ch6
  ·refine ae6 hE fok108 (nZ rfl) (ae5 .af7) ?_;simp only[ic108,go_sem,aj2];rw[bl8 (by simp only[aa5,if_true]) rfl];simp only[go_sem]
   exact .dm3 _ _ _ (by simp only[aa5,if_true]; exact fun h=>(by cases h))
 | cons a as'=>
  have hne:xs.map Dep.cs≠[]:=by rw[hx]; exact fun h=>(by cases h)
  have hall:∀ e∈xs.map Dep.cs,e.length=5/\e.all IV.leaf=true:=fun e he=>by
   obtain ⟨x,_,rfl⟩:=zm.1 he;exact ⟨ap8 x,al9 x⟩
  have hnil:cb6 (.slice 0) (.aa4 (xs.map Dep.cs))=zd false:=by rw[hx]; rfl
  rw[<- hx];refine ae6 hE fok108 (nZ rfl) (ae5 (cg1 xs)) ?_;have hnil:∀ d,cb6 (.slice d) (.aa4 (xs.map Dep.cs))=zd false:=fun d=>by rw[hx]; rfl
  simp only[ic108,go_sem,aj2,hnil];rw[cj6 (by simp only[aa5,if_true]) hne hall (by rw[za]; exact hn)];simp only[go_sem];refine Grow.frz (esz:=5) (es:=xs.map Dep.cs) (.inr ⟨1,by rw[za],by simp only[aa5,if_true],qb _⟩) (fun x hx=>(hall x hx).1) (fun _ _=>zu _) (ao7 (cg1 xs))
theorem fb1 (xs:List Str)(hn:xs.length<=2147483648):PC Tryz.prog EE 109 [.aa4 (xs.map cb9)] (.aa4 (xs.map cb9)):=by
 cases hx:xs with
 | nil=>
  rw[zt];refine bq1 ?_ ?_
  ·refine ae6 hE fok109 (nZ rfl) (ae5 .aa1) ?_;simp only[ic109,go_sem,aj2];exact .ch6
  ·refine ae6 hE fok109 (nZ rfl) (ae5 .af7) ?_;simp only[ic109,go_sem,aj2];rw[bl8 (by simp only[aa5,if_true]) rfl];simp only[go_sem]
   exact .dm3 _ _ _ (by simp only[aa5,if_true]; exact fun h=>(by cases h))
 | cons a as'=>
  have hne:xs.map cb9≠[]:=by rw[hx]; exact fun h=>(by cases h)
  have hall:∀ e∈xs.map cb9,e.length=1/\e.all IV.leaf=true:=fun e he=>by
   obtain ⟨x,_,rfl⟩:=zm.1 he;exact ⟨rfl,rfl⟩
  have hnil:cb6 (.slice 0) (.aa4 (xs.map cb9))=zd false:=by rw[hx]; rfl
  rw[<- hx];refine ae6 hE fok109 (nZ rfl) (ae5 (cz9 xs)) ?_;have hnil:∀ d,cb6 (.slice d) (.aa4 (xs.map cb9))=zd false:=fun d=>by rw[hx]; rfl
  simp only[ic109,go_sem,aj2,hnil];rw[cj6 (by simp only[aa5,if_true]) hne hall (by rw[za]; exact hn)];simp only[go_sem];refine Grow.frz (esz:=1) (es:=xs.map cb9) (.inr ⟨1,by rw[za],by simp only[aa5,if_true],qb _⟩) (fun x hx=>(hall x hx).1) (fun _ _=>zu _) (ao7 (cz9 xs))
theorem az3 (xs:List aa6):∀ e∈xs.map aa6.cs,e.length=7/\e.all IV.leaf=true:=fun e he=>by
 obtain ⟨x,_,rfl⟩:=zm.1 he;exact ⟨ab8 x,ab1 x⟩
def fb2:List IV:=[.int .u8 0,.str [],.int .u8 0,.int .i64 0,.str [],.str [],.aa1]
theorem av8 (r:aa6):r.fit->PC Tryz.prog EE 111 [.agg r.cs] (.agg r.cs):=by
 induction r using aa6.ind with
 | h k d xs ih=>
  intro hf;obtain ⟨f1,f2,f3,f4,f5⟩:=aa6.by6.1 hf;refine ae6 hE fok111 (nZ rfl) (ae5 (ah2 _)) ?_;rw[aa6.ar1];simp only[ic111,go_sem,aa6.kind,aa6.dep,aa6.args,ce3];refine ab3 noT (fun i fr s=>fr=[(2,.ptr 0 0),(3,.ptr 1 0),(12,.aa4 (xs.map aa6.cs)),(13,.int .i64 xs.length),(14,.int .i64 i)]/\∃ v,s.obj 0=zd (.cells fb2)/\s.obj 1=zd (.cells [.int .u8 k,.str d.name,.int .u8 d.op,.int .i64 d.evr.aq6,.str d.evr.ver,.str d.evr.rel,v])/\Grow s v 7 ((xs.take i).map aa6.cs)/\1<s.next) xs.length ⟨rfl,.aa1,?_,?_,.inl ⟨rfl,rfl⟩,?_⟩ ?_
  ·simp only[aa5,reduceCtorEq,zp,zq,zg,zl,zf,zj,zi,zo,ze,decide_true,decide_false,↓reduceIte,if_true,if_false]; rfl
  ·simp only[aa5,reduceCtorEq,zp,zq,zg,zl,zf,zj,zi,zo,ze,decide_true,decide_false,↓reduceIte,if_true,if_false]
  ·show 1<2; omega
  rintro i fr s hle ⟨rfl,v,q0,q1,hg,hn⟩;by_cases hlt:i<xs.length
  ·obtain ⟨a,ha,_,hdr,hget,htk⟩:=ad6 xs i hlt;have c1:(i:Int)<xs.length:=om
   have c2:(0:Int)<=i:=om
   have w1:=ad1 (i:=i) om;have u0:¬ 1=s.next:=om
   have u1:¬ 0=s.next:=om
   simp only[go_sem,c1,c2,hget,ab8,ab6,ab1,q1,u0,ce3];refine aa7 (ih a ha (f5 a ha)) ?_;simp only[go_sem,ab8,ab6,ab1]
   have hg1:Grow ⟨s.next+1+8,((Store.put ⟨s.next+1,s.obj⟩ s.next (aj5.cells fb2)).put s.next (aj5.cells a.cs)).obj⟩ v 7 ((xs.take i).map aa6.cs):=hg.mono (by show s.next<=s.next+1+8; omega) fun id _ hid=>by
    have:¬ id=s.next:=om
    simp only[aa5,this,if_false]
   have hl0:((xs.take i).map aa6.cs).length=i:=by rw[za,List.length_take]; omega
   have ha2:=aj8 (nid:=s.next+1+1+1+1+1+1) (e:=a.cs) hg1 (az3 _) ⟨ab8 a,ab1 a⟩ (by rw[hl0]; omega);have k1:=af8 hg1 1 (.cells [.int .u8 k,.str d.name,.int .u8 d.op,.int .i64 d.evr.aq6,.str d.evr.ver,.str d.evr.rel,v]) (by simp only[aa5,u0,if_false]; exact q1) (fun _ h=>by cases h);have k0:=af8 hg1 0 (.cells fb2) (by simp only[aa5,u1,if_false]; exact q0) (fun _ h=>by cases h);have kn:=ac2 (σ:=⟨s.next+1+8,((Store.put ⟨s.next+1,s.obj⟩ s.next (aj5.cells fb2)).put s.next (aj5.cells a.cs)).obj⟩) v;simp only[fb2] at ha2 k1 k0 kn;rw[ha2,hl0];have u2:¬ 1=s.next+1+1+1+1+1+1:=om
   have u3:¬ 0=s.next+1+1+1+1+1+1:=om
   have u4:¬ s.next+1+1+1+1+1+1=1:=om
   simp only[go_sem,u2,k1,w1];refine ⟨hlt,_,?_,rfl,?_,?_⟩
   ·simp only[u3,if_false,fb2]; exact k0
   ·rw[htk,List.map_append,zy,zt];refine .inr ⟨_,by rw[qf,hl0]; rfl,?_,?_⟩
    ·simp only[aa5,u4,if_false,if_true]
    ·simp only[ab2,kn]; omega
   ·rw[kn]; show 1<s.next+1+8; omega
  ·have hi':i=xs.length:=om
   subst hi';have c1:¬ (xs.length:Int)<xs.length:=om
   rw[z9] at hg
   have hvl:v.leaf=true:=by
    rcases hg with ⟨rfl,_⟩|⟨id,rfl,_⟩<;>rfl
   simp only[go_sem,c1,q0,q1,ce3,fb2,hvl];refine .agg _ _ rfl fun j hj=>?_
   have:j=0\/j=1\/j=2\/j=3\/j=4\/j=5\/j=6:=by
    simp only[zv,List.length_nil] at hj; omega
   rcases this with rfl|rfl|rfl|rfl|rfl|rfl|rfl
   ·exact af2 _ _
   ·exact bl7 _
   ·exact af2 _ _
   ·exact af2 _ _
   ·exact bl7 _
   ·exact bl7 _
   ·have hne:∀ id,v=.slice id 0 (xs.map aa6.cs).length 7->id≠0:=fun id hv=>hg.ne hv q0 (fun _ h=>by cases h)
    refine Grow.frz (hg.mono (zb _) fun id hv _=>?_) (fun x hx=>(az3 xs x hx).1) (fun _ _=>zu _) (ao7 (bk2 xs));have:¬ id=0:=hne id hv;simp only[aa5,this,if_false]
theorem ay5 (xs:List aa6)(σ:Store)(hn:xs.length<=2147483648):C Tryz.prog EE 110 [.aa4 (xs.map aa6.cs)] σ fun v s=>(∀ i,i<σ.next->s.obj i=σ.obj i)/\σ.next<=s.next/\Grow s v 7 (xs.map aa6.cs)/\∀ id,v=.slice id 0 xs.length 7->σ.next<=id:=by
 cases hx:xs with
 | nil=>
  rw[zt];refine fg2 ?_ ?_
  ·refine C_f fok110 (nZ rfl) ?_;simp only[ic110,go_sem,aj2];exact ⟨fun _ _=>trivial,zb _,.inl ⟨rfl,rfl⟩,fun id h=>by cases h⟩
  ·refine C_f fok110 (nZ rfl) ?_;simp only[ic110,go_sem,aj2];rw[bl8 (by simp only[aa5,if_true]) rfl];simp only[go_sem];refine ⟨fun i hi=>?_,om,.inr ⟨σ.next,rfl,by simp only[aa5,if_true]; rfl,by show σ.next<σ.next+2; omega⟩,fun id h=>by cases h; exact zb _⟩;have:¬ i=σ.next:=om
   simp only[this,if_false]
 | cons a as'=>
  have hne:xs.map aa6.cs≠[]:=by rw[hx]; exact fun h=>(by cases h)
  rw[<- hx];refine C_f fok110 (nZ rfl) ?_;have hnil:∀ d,cb6 (.slice d) (.aa4 (xs.map aa6.cs))=zd false:=fun d=>by rw[hx]; rfl
  simp only[ic110,go_sem,aj2,hnil];rw[cj6 (by simp only[aa5,if_true]) hne (az3 xs) (by rw[za]; exact hn)];simp only[go_sem];refine ⟨fun i hi=>?_,om,.inr ⟨σ.next+1,by rw[za],by simp only[aa5,if_true],by show σ.next+1<σ.next+2; omega⟩,fun id h=>by cases h; omega⟩;have h1:¬ i=σ.next:=om
  have h2:¬ i=σ.next+1:=om
  simp only[h1,h2,if_false]
def ap9 (s:Store)(done:Prop)(v:IV)(l:List aa6):Prop:=(done/\Grow s v 7 (l.map aa6.cs))\/(¬ done/\v=aj6 l)
theorem ap9.mono {s s':Store}{done done':Prop}{v:IV}{l:List aa6}(h:ap9 s done v l)(hd:done↔done')(hn:s.next<=s'.next)(ho:∀ id cs,id<s.next->s.obj id=zd (.row cs)->s'.obj id=zd (.row cs)):ap9 s' done' v l:=by
 rcases h with ⟨h1,h2⟩|⟨h1,h2⟩
 ·refine .inl ⟨hd.1 h1,?_⟩;rcases h2 with h2|⟨id,hv,hr,hlt⟩
  ·exact .inl h2
  ·exact .inr ⟨id,hv,ho _ _ hlt hr,qg hlt hn⟩
 ·exact .inr ⟨fun h=>h1 (hd.2 h),h2⟩
theorem ap9.leaf {s:Store}{done:Prop}{v:IV}{l:List aa6}(h:ap9 s done v l):v.leaf=true:=by
 rcases h with ⟨_,⟨rfl,_⟩|⟨id,rfl,_⟩⟩|⟨_,rfl⟩<;>rfl
def pcs (p:aa2)(v7 v8 v10 v11 v12 v13:IV):List IV :=
 [.str p.name,.int .i64 p.evr.aq6,.str p.evr.ver,.str p.evr.rel,.int .u8 p.au7,.str p.vendor,deps p.provides,v7,v8,deps p.aa8,v10,v11,v12,v13,strs p.files]
def bg1:List IV:=[.str [],.int .i64 0,.str [],.str [],.int .u8 0,.str [],.aa1,.aa1,.aa1,.aa1,.aa1,.aa1,.aa1,.aa1,.aa1]
def ct1:List (List IV):=[[.ptr 0 7],[.ptr 0 8],[.ptr 0 10],[.ptr 0 11],[.ptr 0 12],[.ptr 0 13]]
theorem dv9 (p:aa2)(hf:p.Fit):PC Tryz.prog EE 64 [.agg p.cs] (.agg p.cs):=by
 refine ae6 hE fok64 (nZ rfl) (ae5 (ao6 _)) ?_;simp only[ic64,go_sem,ac9,aa2.cs,bo9];refine aa7 (dh2 p.provides (by have:=hf.au1.1; omega)) ?_;simp only[go_sem,bo9];refine aa7 (dh2 p.aa8 (by have:=hf.obs.1; omega)) ?_;simp only[go_sem,bo9];refine aa7 (fb1 p.files (by have:=hf.files.1; omega)) ?_;simp only[go_sem,bo9]
 refine ab3 noT (fun i fr s=>fr=[(1,.ptr 0 0),(2,.ptr 1 0),(25,.aa4 ct1),(26,.int .i64 6),(27,.int .i64 i)]/\(s.obj 1=zd (.cells bg1)/\1<s.next)/\∃ v7 v8 v10 v11 v12 v13,s.obj 0=zd (.cells (pcs p v7 v8 v10 v11 v12 v13)) /\
  ap9 s (0<i) v7 p.requires/\ap9 s (1<i) v8 p.conflicts/\ap9 s (2<i) v10 p.ac7/\ap9 s (3<i) v11 p.ac4/\ap9 s (4<i) v12 p.suggests/\ap9 s (5<i) v13 p.af3) 6 ?_ ?_
 ·refine ⟨rfl,⟨?_,?_⟩,_,_,_,_,_,_,?_,.inr ⟨om,rfl⟩,.inr ⟨om,rfl⟩,.inr ⟨om,rfl⟩,.inr ⟨om,rfl⟩,.inr ⟨om,rfl⟩,.inr ⟨om,rfl⟩⟩
  ·simp only[aa5,reduceCtorEq,zp,zq,zg,zl,zf,zj,zi,zo,ze,decide_true,decide_false,↓reduceIte,if_true,if_false]; rfl
  ·simp only[ab2]; omega
  ·simp only[aa5,reduceCtorEq,zp,zq,zg,zl,zf,zj,zi,zo,ze,decide_true,decide_false,↓reduceIte,if_true,if_false]; rfl
 rintro i fr s hle ⟨rfl,⟨q1,hn⟩,v7,v8,v10,v11,v12,v13,q0,o7,o8,o10,o11,o12,o13⟩;by_cases hlt:i<6
 ·have hcase:i=0\/i=1\/i=2\/i=3\/i=4\/i=5:=om
  rcases hcase with rfl|rfl|rfl|rfl|rfl|rfl
  ·have hv:v7=aj6 p.requires:=by
    rcases o7 with ⟨h,_⟩|⟨_,h⟩
    ·exact absurd h om
    ·exact h
   subst hv;have hfl:p.requires.length<2^31/\∀ r∈p.requires,r.fit/\r.count<2^31:=hf.rich (1,p.requires) (by simp[aa2.rows]);simp only[go_sem,ct1,q0,pcs,bo9];refine ac5 fok110 (ay5 p.requires _ (by have:=hfl.1; omega)) ?_;rintro v s2 ⟨hs2,hn2,hg,hid⟩;refine ⟨hn2,?_⟩;have q02:s2.obj 0=zd (.cells (pcs p (aj6 p.requires) v8 v10 v11 v12 v13)):=by rw[hs2 0 om]; exact q0
   have q12:s2.obj 1=zd (.cells bg1):=by rw[hs2 1 om]; exact q1
   have hvl:v.leaf=true:=by rcases hg with ⟨rfl,_⟩|⟨id,rfl,_⟩<;>rfl
   have hvc:v.cs=[v]:=by rcases hg with ⟨rfl,_⟩|⟨id,rfl,_⟩<;>rfl
   have hlen:∀ s,cc5 0 s v=zd (.int .i64 (p.requires.length:Nat)):=fun s=>by
    rcases hg with ⟨rfl,he⟩|⟨id,rfl,_⟩
    ·have:p.requires=[]:=by simpa using he
     rw[this]; rfl
    ·rw[bo1,za]
   simp only[go_sem,q02,pcs,hvl,hvc,hlen]
   refine ab3 noT (fun j fr t=>fr=[(1,.ptr 0 0),(2,.ptr 1 0),(4,.ptr 0 7),(25,.aa4 ct1),(26,.int .i64 6),(27,.int .i64 0),(39,v),(40,.int .i64 p.requires.length),(41,.int .i64 j)] /\
    s2.next<=t.next/\t.obj 0=zd (.cells (pcs p v v8 v10 v11 v12 v13))/\t.obj 1=zd (.cells bg1)/\∀ id cs,id<s2.next->s2.obj id=zd (.row cs)->t.obj id=zd (.row cs)) p.requires.length ⟨rfl,zb _,?_,?_,?_⟩ ?_
   ·simp only[aa5,if_true]; rfl
   ·simp only[aa5,reduceCtorEq,zp,zq,zg,zl,zf,zj,zi,zo,ze,decide_true,decide_false,↓reduceIte,if_false]; exact q12
   ·intro id cs hlt' h;have:¬ id=0:=fun e=>by subst e; rw[q02] at h; cases h
    simp only[aa5,this,if_false]; exact h
   rintro j fr t hle' ⟨rfl,t0,t1,t2,t3⟩;by_cases hjl:j<p.requires.length
   ·obtain ⟨a,ha,_,hdr,hget,_⟩:=ad6 p.requires j hjl;rcases hg with ⟨_,he⟩|⟨id,rfl,ho,hil⟩
    ·have:p.requires=[]:=by simpa using he
     rw[this] at hjl; cases hjl
    have hrow:=t3 _ _ hil ho;have c1:(j:Int)<p.requires.length:=om
    have c2:(0:Int)<=j:=om
    have w1:=ad1 (i:=j) (by have:=hfl.1; omega);have hid0:¬ id=0:=fun e=>by subst e; rw[t1] at hrow; cases hrow
    have hid1:¬ id=1:=fun e=>by subst e; rw[t2] at hrow; cases hrow
    have u0:¬ 0=t.next:=om
    have u1:¬ 1=t.next:=om
    have u2:¬ id=t.next:=om
    have u3:¬ t.next=id:=om
    have u4:¬ 0=id:=om
    have u5:¬ 1=id:=om
    have hall:=fun x hx=>(az3 p.requires x hx).1
    have hfl2:=at6 hall;have hpart:=aw3 hall j (by rw[za]; exact hjl);rw[hget] at hpart;rw[za] at hfl2;have hin:7<=((p.requires.map aa6.cs).flatten.drop (j*7)).length:=by rw[zr,hfl2]; omega
    have hin2:j*7+7<=(p.requires.map aa6.cs).flatten.length:=by rw[hfl2]; omega
    have hsame:bb3 (p.requires.map aa6.cs).flatten (j*7) a.cs=(p.requires.map aa6.cs).flatten:=bi2 (by rw[ab8]; exact hpart) (by rw[ab8]; exact hin2);simp only[go_sem,c1,c2,hrow,hin,hpart,cw7,ab8,ab1,ab6,t1,pcs,u0,u2,u3,hid0];refine aa7 (av8 a (hfl.2 a ha).1) ?_;simp only[go_sem,c1,c2,hrow,hin2,cw8,ab8,ab1,hsame,t1,pcs,u0,u2,w1];refine ⟨hjl,om,?_,?_,?_⟩
    ·simp only[u4,if_false]
    ·simp only[u5,u1,if_false]; exact t2
    ·intro id' cs hlt' h;have h':=t3 id' cs hlt' h;have u6:¬ id'=t.next:=om
     by_cases e:id'=id
     ·subst e;rw[hrow] at h';simp only[if_true]; exact h'
     ·simp only[e,u6,if_false]; exact h'
   ·have hj':j=p.requires.length:=om
    subst hj';have c1:¬ (p.requires.length:Int)<p.requires.length:=om
    have hgt:Grow t v 7 (p.requires.map aa6.cs):=by
     rcases hg with h|⟨id,rfl,ho,hil⟩
     ·exact .inl h
     ·exact .inr ⟨id,rfl,t3 _ _ hil ho,om⟩
    have hrows:∀ id cs,id<s.next->s.obj id=zd (.row cs)->t.obj id=zd (.row cs):=fun id cs hlt' h=>t3 id cs om (by rw[hs2 id hlt']; exact h)
    have mm:∀ {d d':Prop} (u:IV) (l:List aa6),ap9 s d u l->(d↔d')->ap9 t d' u l:=fun u l h hd=>h.mono hd om hrows
    simp only[go_sem,c1];exact ⟨rfl,⟨t2,om⟩,v,v8,v10,v11,v12,v13,t1,.inl ⟨by simp,hgt⟩,mm _ _ o8 (by simp),mm _ _ o10 (by simp),mm _ _ o11 (by simp),mm _ _ o12 (by simp),mm _ _ o13 (by simp)⟩
  ·have hv:v8=aj6 p.conflicts:=by
    rcases o8 with ⟨h,_⟩|⟨_,h⟩
    ·exact absurd h om
    ·exact h
   subst hv;have hfl:p.conflicts.length<2^31/\∀ r∈p.conflicts,r.fit/\r.count<2^31:=hf.rich (2,p.conflicts) (by simp[aa2.rows]);simp only[go_sem,ct1,q0,pcs,bo9];refine ac5 fok110 (ay5 p.conflicts _ (by have:=hfl.1; omega)) ?_;rintro v s2 ⟨hs2,hn2,hg,hid⟩;refine ⟨hn2,?_⟩;have q02:s2.obj 0=zd (.cells (pcs p v7 (aj6 p.conflicts) v10 v11 v12 v13)):=by rw[hs2 0 om]; exact q0
   have q12:s2.obj 1=zd (.cells bg1):=by rw[hs2 1 om]; exact q1
   have hvl:v.leaf=true:=by rcases hg with ⟨rfl,_⟩|⟨id,rfl,_⟩<;>rfl
   have hvc:v.cs=[v]:=by rcases hg with ⟨rfl,_⟩|⟨id,rfl,_⟩<;>rfl
   have hlen:∀ s,cc5 0 s v=zd (.int .i64 (p.conflicts.length:Nat)):=fun s=>by
    rcases hg with ⟨rfl,he⟩|⟨id,rfl,_⟩
    ·have:p.conflicts=[]:=by simpa using he
     rw[this]; rfl
    ·rw[bo1,za]
   simp only[go_sem,q02,pcs,hvl,hvc,hlen]
   refine ab3 noT (fun j fr t=>fr=[(1,.ptr 0 0),(2,.ptr 1 0),(4,.ptr 0 8),(25,.aa4 ct1),(26,.int .i64 6),(27,.int .i64 1),(39,v),(40,.int .i64 p.conflicts.length),(41,.int .i64 j)] /\
    s2.next<=t.next/\t.obj 0=zd (.cells (pcs p v7 v v10 v11 v12 v13))/\t.obj 1=zd (.cells bg1)/\∀ id cs,id<s2.next->s2.obj id=zd (.row cs)->t.obj id=zd (.row cs)) p.conflicts.length ⟨rfl,zb _,?_,?_,?_⟩ ?_
   ·simp only[aa5,if_true]; rfl
   ·simp only[aa5,reduceCtorEq,zp,zq,zg,zl,zf,zj,zi,zo,ze,decide_true,decide_false,↓reduceIte,if_false]; exact q12
   ·intro id cs hlt' h;have:¬ id=0:=fun e=>by subst e; rw[q02] at h; cases h
    simp only[aa5,this,if_false]; exact h
   rintro j fr t hle' ⟨rfl,t0,t1,t2,t3⟩;by_cases hjl:j<p.conflicts.length
   ·obtain ⟨a,ha,_,hdr,hget,_⟩:=ad6 p.conflicts j hjl;rcases hg with ⟨_,he⟩|⟨id,rfl,ho,hil⟩
    ·have:p.conflicts=[]:=by simpa using he
     rw[this] at hjl; cases hjl
    have hrow:=t3 _ _ hil ho;have c1:(j:Int)<p.conflicts.length:=om
    have c2:(0:Int)<=j:=om
    have w1:=ad1 (i:=j) (by have:=hfl.1; omega);have hid0:¬ id=0:=fun e=>by subst e; rw[t1] at hrow; cases hrow
    have hid1:¬ id=1:=fun e=>by subst e; rw[t2] at hrow; cases hrow
    have u0:¬ 0=t.next:=om
    have u1:¬ 1=t.next:=om
    have u2:¬ id=t.next:=om
    have u3:¬ t.next=id:=om
    have u4:¬ 0=id:=om
    have u5:¬ 1=id:=om
    have hall:=fun x hx=>(az3 p.conflicts x hx).1
    have hfl2:=at6 hall;have hpart:=aw3 hall j (by rw[za]; exact hjl);rw[hget] at hpart;rw[za] at hfl2;have hin:7<=((p.conflicts.map aa6.cs).flatten.drop (j*7)).length:=by rw[zr,hfl2]; omega
    have hin2:j*7+7<=(p.conflicts.map aa6.cs).flatten.length:=by rw[hfl2]; omega
    have hsame:bb3 (p.conflicts.map aa6.cs).flatten (j*7) a.cs=(p.conflicts.map aa6.cs).flatten:=bi2 (by rw[ab8]; exact hpart) (by rw[ab8]; exact hin2);simp only[go_sem,c1,c2,hrow,hin,hpart,cw7,ab8,ab1,ab6,t1,pcs,u0,u2,u3,hid0];refine aa7 (av8 a (hfl.2 a ha).1) ?_;simp only[go_sem,c1,c2,hrow,hin2,cw8,ab8,ab1,hsame,t1,pcs,u0,u2,w1];refine ⟨hjl,om,?_,?_,?_⟩
    ·simp only[u4,if_false]
    ·simp only[u5,u1,if_false]; exact t2
    ·intro id' cs hlt' h;have h':=t3 id' cs hlt' h;have u6:¬ id'=t.next:=om
     by_cases e:id'=id
     ·subst e;rw[hrow] at h';simp only[if_true]; exact h'
     ·simp only[e,u6,if_false]; exact h'
   ·have hj':j=p.conflicts.length:=om
    subst hj';have c1:¬ (p.conflicts.length:Int)<p.conflicts.length:=om
    have hgt:Grow t v 7 (p.conflicts.map aa6.cs):=by
     rcases hg with h|⟨id,rfl,ho,hil⟩
     ·exact .inl h
     ·exact .inr ⟨id,rfl,t3 _ _ hil ho,om⟩
    have hrows:∀ id cs,id<s.next->s.obj id=zd (.row cs)->t.obj id=zd (.row cs):=fun id cs hlt' h=>t3 id cs om (by rw[hs2 id hlt']; exact h)
    have mm:∀ {d d':Prop} (u:IV) (l:List aa6),ap9 s d u l->(d↔d')->ap9 t d' u l:=fun u l h hd=>h.mono hd om hrows
    simp only[go_sem,c1];exact ⟨rfl,⟨t2,om⟩,v7,v,v10,v11,v12,v13,t1,mm _ _ o7 (by simp),.inl ⟨by simp,hgt⟩,mm _ _ o10 (by simp),mm _ _ o11 (by simp),mm _ _ o12 (by simp),mm _ _ o13 (by simp)⟩
  ·have hv:v10=aj6 p.ac7:=by
    rcases o10 with ⟨h,_⟩|⟨_,h⟩
    ·exact absurd h om
    ·exact h
   subst hv;have hfl:p.ac7.length<2^31/\∀ r∈p.ac7,r.fit/\r.count<2^31:=hf.rich (1,p.ac7) (by simp[aa2.rows]);simp only[go_sem,ct1,q0,pcs,bo9];refine ac5 fok110 (ay5 p.ac7 _ (by have:=hfl.1; omega)) ?_;rintro v s2 ⟨hs2,hn2,hg,hid⟩;refine ⟨hn2,?_⟩;have q02:s2.obj 0=zd (.cells (pcs p v7 v8 (aj6 p.ac7) v11 v12 v13)):=by rw[hs2 0 om]; exact q0
   have q12:s2.obj 1=zd (.cells bg1):=by rw[hs2 1 om]; exact q1
   have hvl:v.leaf=true:=by rcases hg with ⟨rfl,_⟩|⟨id,rfl,_⟩<;>rfl
   have hvc:v.cs=[v]:=by rcases hg with ⟨rfl,_⟩|⟨id,rfl,_⟩<;>rfl
   have hlen:∀ s,cc5 0 s v=zd (.int .i64 (p.ac7.length:Nat)):=fun s=>by
    rcases hg with ⟨rfl,he⟩|⟨id,rfl,_⟩
    ·have:p.ac7=[]:=by simpa using he
     rw[this]; rfl
    ·rw[bo1,za]
   simp only[go_sem,q02,pcs,hvl,hvc,hlen]
   refine ab3 noT (fun j fr t=>fr=[(1,.ptr 0 0),(2,.ptr 1 0),(4,.ptr 0 10),(25,.aa4 ct1),(26,.int .i64 6),(27,.int .i64 2),(39,v),(40,.int .i64 p.ac7.length),(41,.int .i64 j)] /\
    s2.next<=t.next/\t.obj 0=zd (.cells (pcs p v7 v8 v v11 v12 v13))/\t.obj 1=zd (.cells bg1)/\∀ id cs,id<s2.next->s2.obj id=zd (.row cs)->t.obj id=zd (.row cs)) p.ac7.length ⟨rfl,zb _,?_,?_,?_⟩ ?_
   ·simp only[aa5,if_true]; rfl
   ·simp only[aa5,reduceCtorEq,zp,zq,zg,zl,zf,zj,zi,zo,ze,decide_true,decide_false,↓reduceIte,if_false]; exact q12
   ·intro id cs hlt' h;have:¬ id=0:=fun e=>by subst e; rw[q02] at h; cases h
    simp only[aa5,this,if_false]; exact h
   rintro j fr t hle' ⟨rfl,t0,t1,t2,t3⟩;by_cases hjl:j<p.ac7.length
   ·obtain ⟨a,ha,_,hdr,hget,_⟩:=ad6 p.ac7 j hjl;rcases hg with ⟨_,he⟩|⟨id,rfl,ho,hil⟩
    ·have:p.ac7=[]:=by simpa using he
     rw[this] at hjl; cases hjl
    have hrow:=t3 _ _ hil ho;have c1:(j:Int)<p.ac7.length:=om
    have c2:(0:Int)<=j:=om
    have w1:=ad1 (i:=j) (by have:=hfl.1; omega);have hid0:¬ id=0:=fun e=>by subst e; rw[t1] at hrow; cases hrow
    have hid1:¬ id=1:=fun e=>by subst e; rw[t2] at hrow; cases hrow
    have u0:¬ 0=t.next:=om
    have u1:¬ 1=t.next:=om
    have u2:¬ id=t.next:=om
    have u3:¬ t.next=id:=om
    have u4:¬ 0=id:=om
    have u5:¬ 1=id:=om
    have hall:=fun x hx=>(az3 p.ac7 x hx).1
    have hfl2:=at6 hall;have hpart:=aw3 hall j (by rw[za]; exact hjl);rw[hget] at hpart;rw[za] at hfl2;have hin:7<=((p.ac7.map aa6.cs).flatten.drop (j*7)).length:=by rw[zr,hfl2]; omega
    have hin2:j*7+7<=(p.ac7.map aa6.cs).flatten.length:=by rw[hfl2]; omega
    have hsame:bb3 (p.ac7.map aa6.cs).flatten (j*7) a.cs=(p.ac7.map aa6.cs).flatten:=bi2 (by rw[ab8]; exact hpart) (by rw[ab8]; exact hin2);simp only[go_sem,c1,c2,hrow,hin,hpart,cw7,ab8,ab1,ab6,t1,pcs,u0,u2,u3,hid0];refine aa7 (av8 a (hfl.2 a ha).1) ?_;simp only[go_sem,c1,c2,hrow,hin2,cw8,ab8,ab1,hsame,t1,pcs,u0,u2,w1];refine ⟨hjl,om,?_,?_,?_⟩
    ·simp only[u4,if_false]
    ·simp only[u5,u1,if_false]; exact t2
    ·intro id' cs hlt' h;have h':=t3 id' cs hlt' h;have u6:¬ id'=t.next:=om
     by_cases e:id'=id
     ·subst e;rw[hrow] at h';simp only[if_true]; exact h'
     ·simp only[e,u6,if_false]; exact h'
   ·have hj':j=p.ac7.length:=om
    subst hj';have c1:¬ (p.ac7.length:Int)<p.ac7.length:=om
    have hgt:Grow t v 7 (p.ac7.map aa6.cs):=by
     rcases hg with h|⟨id,rfl,ho,hil⟩
     ·exact .inl h
     ·exact .inr ⟨id,rfl,t3 _ _ hil ho,om⟩
    have hrows:∀ id cs,id<s.next->s.obj id=zd (.row cs)->t.obj id=zd (.row cs):=fun id cs hlt' h=>t3 id cs om (by rw[hs2 id hlt']; exact h)
    have mm:∀ {d d':Prop} (u:IV) (l:List aa6),ap9 s d u l->(d↔d')->ap9 t d' u l:=fun u l h hd=>h.mono hd om hrows
    simp only[go_sem,c1];exact ⟨rfl,⟨t2,om⟩,v7,v8,v,v11,v12,v13,t1,mm _ _ o7 (by simp),mm _ _ o8 (by simp),.inl ⟨by simp,hgt⟩,mm _ _ o11 (by simp),mm _ _ o12 (by simp),mm _ _ o13 (by simp)⟩
  ·have hv:v11=aj6 p.ac4:=by
    rcases o11 with ⟨h,_⟩|⟨_,h⟩
    ·exact absurd h om
    ·exact h
   subst hv;have hfl:p.ac4.length<2^31/\∀ r∈p.ac4,r.fit/\r.count<2^31:=hf.rich (3,p.ac4) (by simp[aa2.rows]);simp only[go_sem,ct1,q0,pcs,bo9];refine ac5 fok110 (ay5 p.ac4 _ (by have:=hfl.1; omega)) ?_;rintro v s2 ⟨hs2,hn2,hg,hid⟩;refine ⟨hn2,?_⟩;have q02:s2.obj 0=zd (.cells (pcs p v7 v8 v10 (aj6 p.ac4) v12 v13)):=by rw[hs2 0 om]; exact q0
   have q12:s2.obj 1=zd (.cells bg1):=by rw[hs2 1 om]; exact q1
   have hvl:v.leaf=true:=by rcases hg with ⟨rfl,_⟩|⟨id,rfl,_⟩<;>rfl
   have hvc:v.cs=[v]:=by rcases hg with ⟨rfl,_⟩|⟨id,rfl,_⟩<;>rfl
   have hlen:∀ s,cc5 0 s v=zd (.int .i64 (p.ac4.length:Nat)):=fun s=>by
    rcases hg with ⟨rfl,he⟩|⟨id,rfl,_⟩
    ·have:p.ac4=[]:=by simpa using he
     rw[this]; rfl
    ·rw[bo1,za]
   simp only[go_sem,q02,pcs,hvl,hvc,hlen]
   refine ab3 noT (fun j fr t=>fr=[(1,.ptr 0 0),(2,.ptr 1 0),(4,.ptr 0 11),(25,.aa4 ct1),(26,.int .i64 6),(27,.int .i64 3),(39,v),(40,.int .i64 p.ac4.length),(41,.int .i64 j)] /\
    s2.next<=t.next/\t.obj 0=zd (.cells (pcs p v7 v8 v10 v v12 v13))/\t.obj 1=zd (.cells bg1)/\∀ id cs,id<s2.next->s2.obj id=zd (.row cs)->t.obj id=zd (.row cs)) p.ac4.length ⟨rfl,zb _,?_,?_,?_⟩ ?_
   ·simp only[aa5,if_true]; rfl
   ·simp only[aa5,reduceCtorEq,zp,zq,zg,zl,zf,zj,zi,zo,ze,decide_true,decide_false,↓reduceIte,if_false]; exact q12
   ·intro id cs hlt' h;have:¬ id=0:=fun e=>by subst e; rw[q02] at h; cases h
    simp only[aa5,this,if_false]; exact h
   rintro j fr t hle' ⟨rfl,t0,t1,t2,t3⟩;by_cases hjl:j<p.ac4.length
   ·obtain ⟨a,ha,_,hdr,hget,_⟩:=ad6 p.ac4 j hjl;rcases hg with ⟨_,he⟩|⟨id,rfl,ho,hil⟩
    ·have:p.ac4=[]:=by simpa using he
     rw[this] at hjl; cases hjl
    have hrow:=t3 _ _ hil ho;have c1:(j:Int)<p.ac4.length:=om
    have c2:(0:Int)<=j:=om
    have w1:=ad1 (i:=j) (by have:=hfl.1; omega);have hid0:¬ id=0:=fun e=>by subst e; rw[t1] at hrow; cases hrow
    have hid1:¬ id=1:=fun e=>by subst e; rw[t2] at hrow; cases hrow
    have u0:¬ 0=t.next:=om
    have u1:¬ 1=t.next:=om
    have u2:¬ id=t.next:=om
    have u3:¬ t.next=id:=om
    have u4:¬ 0=id:=om
    have u5:¬ 1=id:=om
    have hall:=fun x hx=>(az3 p.ac4 x hx).1
    have hfl2:=at6 hall;have hpart:=aw3 hall j (by rw[za]; exact hjl);rw[hget] at hpart;rw[za] at hfl2;have hin:7<=((p.ac4.map aa6.cs).flatten.drop (j*7)).length:=by rw[zr,hfl2]; omega
    have hin2:j*7+7<=(p.ac4.map aa6.cs).flatten.length:=by rw[hfl2]; omega
    have hsame:bb3 (p.ac4.map aa6.cs).flatten (j*7) a.cs=(p.ac4.map aa6.cs).flatten:=bi2 (by rw[ab8]; exact hpart) (by rw[ab8]; exact hin2);simp only[go_sem,c1,c2,hrow,hin,hpart,cw7,ab8,ab1,ab6,t1,pcs,u0,u2,u3,hid0];refine aa7 (av8 a (hfl.2 a ha).1) ?_;simp only[go_sem,c1,c2,hrow,hin2,cw8,ab8,ab1,hsame,t1,pcs,u0,u2,w1];refine ⟨hjl,om,?_,?_,?_⟩
    ·simp only[u4,if_false]
    ·simp only[u5,u1,if_false]; exact t2
    ·intro id' cs hlt' h;have h':=t3 id' cs hlt' h;have u6:¬ id'=t.next:=om
     by_cases e:id'=id
     ·subst e;rw[hrow] at h';simp only[if_true]; exact h'
     ·simp only[e,u6,if_false]; exact h'
   ·have hj':j=p.ac4.length:=om
    subst hj';have c1:¬ (p.ac4.length:Int)<p.ac4.length:=om
    have hgt:Grow t v 7 (p.ac4.map aa6.cs):=by
     rcases hg with h|⟨id,rfl,ho,hil⟩
     ·exact .inl h
     ·exact .inr ⟨id,rfl,t3 _ _ hil ho,om⟩
    have hrows:∀ id cs,id<s.next->s.obj id=zd (.row cs)->t.obj id=zd (.row cs):=fun id cs hlt' h=>t3 id cs om (by rw[hs2 id hlt']; exact h)
    have mm:∀ {d d':Prop} (u:IV) (l:List aa6),ap9 s d u l->(d↔d')->ap9 t d' u l:=fun u l h hd=>h.mono hd om hrows
    simp only[go_sem,c1];exact ⟨rfl,⟨t2,om⟩,v7,v8,v10,v,v12,v13,t1,mm _ _ o7 (by simp),mm _ _ o8 (by simp),mm _ _ o10 (by simp),.inl ⟨by simp,hgt⟩,mm _ _ o12 (by simp),mm _ _ o13 (by simp)⟩
  ·have hv:v12=aj6 p.suggests:=by
    rcases o12 with ⟨h,_⟩|⟨_,h⟩
    ·exact absurd h om
    ·exact h
   subst hv;have hfl:p.suggests.length<2^31/\∀ r∈p.suggests,r.fit/\r.count<2^31:=hf.rich (1,p.suggests) (by simp[aa2.rows]);simp only[go_sem,ct1,q0,pcs,bo9];refine ac5 fok110 (ay5 p.suggests _ (by have:=hfl.1; omega)) ?_;rintro v s2 ⟨hs2,hn2,hg,hid⟩;refine ⟨hn2,?_⟩;have q02:s2.obj 0=zd (.cells (pcs p v7 v8 v10 v11 (aj6 p.suggests) v13)):=by rw[hs2 0 om]; exact q0
   have q12:s2.obj 1=zd (.cells bg1):=by rw[hs2 1 om]; exact q1
   have hvl:v.leaf=true:=by rcases hg with ⟨rfl,_⟩|⟨id,rfl,_⟩<;>rfl
   have hvc:v.cs=[v]:=by rcases hg with ⟨rfl,_⟩|⟨id,rfl,_⟩<;>rfl
   have hlen:∀ s,cc5 0 s v=zd (.int .i64 (p.suggests.length:Nat)):=fun s=>by
    rcases hg with ⟨rfl,he⟩|⟨id,rfl,_⟩
    ·have:p.suggests=[]:=by simpa using he
     rw[this]; rfl
    ·rw[bo1,za]
   simp only[go_sem,q02,pcs,hvl,hvc,hlen]
   refine ab3 noT (fun j fr t=>fr=[(1,.ptr 0 0),(2,.ptr 1 0),(4,.ptr 0 12),(25,.aa4 ct1),(26,.int .i64 6),(27,.int .i64 4),(39,v),(40,.int .i64 p.suggests.length),(41,.int .i64 j)] /\
    s2.next<=t.next/\t.obj 0=zd (.cells (pcs p v7 v8 v10 v11 v v13))/\t.obj 1=zd (.cells bg1)/\∀ id cs,id<s2.next->s2.obj id=zd (.row cs)->t.obj id=zd (.row cs)) p.suggests.length ⟨rfl,zb _,?_,?_,?_⟩ ?_
   ·simp only[aa5,if_true]; rfl
   ·simp only[aa5,reduceCtorEq,zp,zq,zg,zl,zf,zj,zi,zo,ze,decide_true,decide_false,↓reduceIte,if_false]; exact q12
   ·intro id cs hlt' h;have:¬ id=0:=fun e=>by subst e; rw[q02] at h; cases h
    simp only[aa5,this,if_false]; exact h
   rintro j fr t hle' ⟨rfl,t0,t1,t2,t3⟩;by_cases hjl:j<p.suggests.length
   ·obtain ⟨a,ha,_,hdr,hget,_⟩:=ad6 p.suggests j hjl;rcases hg with ⟨_,he⟩|⟨id,rfl,ho,hil⟩
    ·have:p.suggests=[]:=by simpa using he
     rw[this] at hjl; cases hjl
    have hrow:=t3 _ _ hil ho;have c1:(j:Int)<p.suggests.length:=om
    have c2:(0:Int)<=j:=om
    have w1:=ad1 (i:=j) (by have:=hfl.1; omega);have hid0:¬ id=0:=fun e=>by subst e; rw[t1] at hrow; cases hrow
    have hid1:¬ id=1:=fun e=>by subst e; rw[t2] at hrow; cases hrow
    have u0:¬ 0=t.next:=om
    have u1:¬ 1=t.next:=om
    have u2:¬ id=t.next:=om
    have u3:¬ t.next=id:=om
    have u4:¬ 0=id:=om
    have u5:¬ 1=id:=om
    have hall:=fun x hx=>(az3 p.suggests x hx).1
    have hfl2:=at6 hall;have hpart:=aw3 hall j (by rw[za]; exact hjl);rw[hget] at hpart;rw[za] at hfl2;have hin:7<=((p.suggests.map aa6.cs).flatten.drop (j*7)).length:=by rw[zr,hfl2]; omega
    have hin2:j*7+7<=(p.suggests.map aa6.cs).flatten.length:=by rw[hfl2]; omega
    have hsame:bb3 (p.suggests.map aa6.cs).flatten (j*7) a.cs=(p.suggests.map aa6.cs).flatten:=bi2 (by rw[ab8]; exact hpart) (by rw[ab8]; exact hin2);simp only[go_sem,c1,c2,hrow,hin,hpart,cw7,ab8,ab1,ab6,t1,pcs,u0,u2,u3,hid0];refine aa7 (av8 a (hfl.2 a ha).1) ?_;simp only[go_sem,c1,c2,hrow,hin2,cw8,ab8,ab1,hsame,t1,pcs,u0,u2,w1];refine ⟨hjl,om,?_,?_,?_⟩
    ·simp only[u4,if_false]
    ·simp only[u5,u1,if_false]; exact t2
    ·intro id' cs hlt' h;have h':=t3 id' cs hlt' h;have u6:¬ id'=t.next:=om
     by_cases e:id'=id
     ·subst e;rw[hrow] at h';simp only[if_true]; exact h'
     ·simp only[e,u6,if_false]; exact h'
   ·have hj':j=p.suggests.length:=om
    subst hj';have c1:¬ (p.suggests.length:Int)<p.suggests.length:=om
    have hgt:Grow t v 7 (p.suggests.map aa6.cs):=by
     rcases hg with h|⟨id,rfl,ho,hil⟩
     ·exact .inl h
     ·exact .inr ⟨id,rfl,t3 _ _ hil ho,om⟩
    have hrows:∀ id cs,id<s.next->s.obj id=zd (.row cs)->t.obj id=zd (.row cs):=fun id cs hlt' h=>t3 id cs om (by rw[hs2 id hlt']; exact h)
    have mm:∀ {d d':Prop} (u:IV) (l:List aa6),ap9 s d u l->(d↔d')->ap9 t d' u l:=fun u l h hd=>h.mono hd om hrows
    simp only[go_sem,c1];exact ⟨rfl,⟨t2,om⟩,v7,v8,v10,v11,v,v13,t1,mm _ _ o7 (by simp),mm _ _ o8 (by simp),mm _ _ o10 (by simp),mm _ _ o11 (by simp),.inl ⟨by simp,hgt⟩,mm _ _ o13 (by simp)⟩
  ·have hv:v13=aj6 p.af3:=by
    rcases o13 with ⟨h,_⟩|⟨_,h⟩
    ·exact absurd h om
    ·exact h
   subst hv;have hfl:p.af3.length<2^31/\∀ r∈p.af3,r.fit/\r.count<2^31:=hf.rich (3,p.af3) (by simp[aa2.rows]);simp only[go_sem,ct1,q0,pcs,bo9];refine ac5 fok110 (ay5 p.af3 _ (by have:=hfl.1; omega)) ?_;rintro v s2 ⟨hs2,hn2,hg,hid⟩;refine ⟨hn2,?_⟩;have q02:s2.obj 0=zd (.cells (pcs p v7 v8 v10 v11 v12 (aj6 p.af3))):=by rw[hs2 0 om]; exact q0
   have q12:s2.obj 1=zd (.cells bg1):=by rw[hs2 1 om]; exact q1
   have hvl:v.leaf=true:=by rcases hg with ⟨rfl,_⟩|⟨id,rfl,_⟩<;>rfl
   have hvc:v.cs=[v]:=by rcases hg with ⟨rfl,_⟩|⟨id,rfl,_⟩<;>rfl
   have hlen:∀ s,cc5 0 s v=zd (.int .i64 (p.af3.length:Nat)):=fun s=>by
    rcases hg with ⟨rfl,he⟩|⟨id,rfl,_⟩
    ·have:p.af3=[]:=by simpa using he
     rw[this]; rfl
    ·rw[bo1,za]
   simp only[go_sem,q02,pcs,hvl,hvc,hlen]
   refine ab3 noT (fun j fr t=>fr=[(1,.ptr 0 0),(2,.ptr 1 0),(4,.ptr 0 13),(25,.aa4 ct1),(26,.int .i64 6),(27,.int .i64 5),(39,v),(40,.int .i64 p.af3.length),(41,.int .i64 j)] /\
    s2.next<=t.next/\t.obj 0=zd (.cells (pcs p v7 v8 v10 v11 v12 v))/\t.obj 1=zd (.cells bg1)/\∀ id cs,id<s2.next->s2.obj id=zd (.row cs)->t.obj id=zd (.row cs)) p.af3.length ⟨rfl,zb _,?_,?_,?_⟩ ?_
   ·simp only[aa5,if_true]; rfl
   ·simp only[aa5,reduceCtorEq,zp,zq,zg,zl,zf,zj,zi,zo,ze,decide_true,decide_false,↓reduceIte,if_false]; exact q12
   ·intro id cs hlt' h;have:¬ id=0:=fun e=>by subst e; rw[q02] at h; cases h
    simp only[aa5,this,if_false]; exact h
   rintro j fr t hle' ⟨rfl,t0,t1,t2,t3⟩;by_cases hjl:j<p.af3.length
   ·obtain ⟨a,ha,_,hdr,hget,_⟩:=ad6 p.af3 j hjl;rcases hg with ⟨_,he⟩|⟨id,rfl,ho,hil⟩
    ·have:p.af3=[]:=by simpa using he
     rw[this] at hjl; cases hjl
    have hrow:=t3 _ _ hil ho;have c1:(j:Int)<p.af3.length:=om
    have c2:(0:Int)<=j:=om
    have w1:=ad1 (i:=j) (by have:=hfl.1; omega);have hid0:¬ id=0:=fun e=>by subst e; rw[t1] at hrow; cases hrow
    have hid1:¬ id=1:=fun e=>by subst e; rw[t2] at hrow; cases hrow
    have u0:¬ 0=t.next:=om
    have u1:¬ 1=t.next:=om
    have u2:¬ id=t.next:=om
    have u3:¬ t.next=id:=om
    have u4:¬ 0=id:=om
    have u5:¬ 1=id:=om
    have hall:=fun x hx=>(az3 p.af3 x hx).1
    have hfl2:=at6 hall;have hpart:=aw3 hall j (by rw[za]; exact hjl);rw[hget] at hpart;rw[za] at hfl2;have hin:7<=((p.af3.map aa6.cs).flatten.drop (j*7)).length:=by rw[zr,hfl2]; omega
    have hin2:j*7+7<=(p.af3.map aa6.cs).flatten.length:=by rw[hfl2]; omega
    have hsame:bb3 (p.af3.map aa6.cs).flatten (j*7) a.cs=(p.af3.map aa6.cs).flatten:=bi2 (by rw[ab8]; exact hpart) (by rw[ab8]; exact hin2);simp only[go_sem,c1,c2,hrow,hin,hpart,cw7,ab8,ab1,ab6,t1,pcs,u0,u2,u3,hid0];refine aa7 (av8 a (hfl.2 a ha).1) ?_;simp only[go_sem,c1,c2,hrow,hin2,cw8,ab8,ab1,hsame,t1,pcs,u0,u2,w1];refine ⟨hjl,om,?_,?_,?_⟩
    ·simp only[u4,if_false]
    ·simp only[u5,u1,if_false]; exact t2
    ·intro id' cs hlt' h;have h':=t3 id' cs hlt' h;have u6:¬ id'=t.next:=om
     by_cases e:id'=id
     ·subst e;rw[hrow] at h';simp only[if_true]; exact h'
     ·simp only[e,u6,if_false]; exact h'
   ·have hj':j=p.af3.length:=om
    subst hj';have c1:¬ (p.af3.length:Int)<p.af3.length:=om
    have hgt:Grow t v 7 (p.af3.map aa6.cs):=by
     rcases hg with h|⟨id,rfl,ho,hil⟩
     ·exact .inl h
     ·exact .inr ⟨id,rfl,t3 _ _ hil ho,om⟩
    have hrows:∀ id cs,id<s.next->s.obj id=zd (.row cs)->t.obj id=zd (.row cs):=fun id cs hlt' h=>t3 id cs om (by rw[hs2 id hlt']; exact h)
    have mm:∀ {d d':Prop} (u:IV) (l:List aa6),ap9 s d u l->(d↔d')->ap9 t d' u l:=fun u l h hd=>h.mono hd om hrows
    simp only[go_sem,c1];exact ⟨rfl,⟨t2,om⟩,v7,v8,v10,v11,v12,v,t1,mm _ _ o7 (by simp),mm _ _ o8 (by simp),mm _ _ o10 (by simp),mm _ _ o11 (by simp),mm _ _ o12 (by simp),.inl ⟨by simp,hgt⟩⟩
 ·have hi':i=6:=om
  subst hi';have c1:¬ ((6:Nat):Int)<6:=om
  simp only[go_sem,c1,q0,q1,pcs,bg1,ce3,o7.leaf,o8.leaf,o10.leaf,o11.leaf,o12.leaf,o13.leaf]
  have fz:∀ (v:IV) (l:List aa6) (k:Nat) (s':Store),k<6->ap9 s (k<6) v l->(∀ id cs,s.obj id=zd (.row cs)->s'.obj id=zd (.row cs))->s.next<=s'.next->cu4 s' 0 v (aj6 l):=by
   intro v l k s' hk ho h1 h2;rcases ho.mono Iff.rfl h2 (fun id cs _ h=>h1 id cs h) with ⟨_,h⟩|⟨h,_⟩
   ·exact h.frz (fun x hx=>(az3 l x hx).1) (fun _ _=>zu _) (ao7 (bk2 l))
   ·exact absurd hk h
  have hr:∀ id cs,s.obj id=zd (.row cs)->(s.put 1 (aj5.cells (pcs p v7 v8 v10 v11 v12 v13))).obj id=zd (.row cs):=fun id cs h=>by
   have:¬ id=1:=fun e=>by subst e; rw[q1] at h; cases h
   simp only[aa5,this,if_false]; exact h
  have b1:=fun v hv=>Frz.keep (σ:=s.put 1 (aj5.cells (pcs p v7 v8 v10 v11 v12 v13))) (S:=fun i=>i<0) v hv
  exact .jy7 (.cons (bl7 _) (.cons (af2 _ _) (.cons (bl7 _) (.cons (bl7 _) (.cons (af2 _ _) (.cons (bl7 _) (.cons (b1 _ (cg1 _))
   (.cons (fz v7 _ 0 _ om o7 hr (zb _)) (.cons (fz v8 _ 1 _ om o8 hr (zb _)) (.cons (b1 _ (cg1 _)) (.cons (fz v10 _ 2 _ om o10 hr (zb _)) (.cons (fz v11 _ 3 _ om o11 hr (zb _))
   (.cons (fz v12 _ 4 _ om o12 hr (zb _)) (.cons (fz v13 _ 5 _ om o13 hr (zb _)) (.cons (b1 _ (cz9 _)) .nil)))))))))))))))
end Go.Id.Tryz
