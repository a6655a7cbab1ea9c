/- Names,versions,architectures,operators: what the program tells of them. Conditions: none. -/
import Derived.Test.YthmabjmjjonlmaaGreatDoorGLT
import Derived.Test.YthmabjmjjonlmaaGreatDoorT6
import Derived.Test.YthmabjmjjonlmaaGreatDoorFwQ
import Derived.Test.YthmabjmjjonlmaaGreatDoorMv
open List renaming length_map→za,take_of_length_le→zc,drop_length→zk,mem_map→zm,mem_cons_of_mem→zn,length_drop→zr,mem_cons_self→zs,map_nil→zt,length_cons→zv,append_assoc→zx,map_cons→zy,getElem?_eq_getElem→zz,not_any_eq_all_not→z0,nil_append→z1,mem_cons→z6,all_cons→z7,all_nil→z8,take_length→z9,not_mem_nil→qa,length_append→qe
open Nat renaming le_refl→zb,reduceLeDiff→ze,reduceEqDiff→zf,reduceMul→zi,reduceAdd→zj,reduceLT→zo,not_lt_zero→zu,le_succ→z5,lt_succ_self→qb,lt_of_lt_of_le→qf
open Option renaming some→zd
open Int renaming reduceToNat→zg,reduceAdd→zl,reduceLT→zp,reduceLE→zq,natCast_one→z2,natCast_add→z3
open Bool renaming true_and→zh,false_eq_true→zw,false_and→z4,decide_and→qc,false_or→qd
set_option linter.all false
set_option maxRecDepth 100000
set_option maxHeartbeats 1000000
private theorem om{P:Prop}(h:P:=by omega):P:=h
namespace Go.Id.Tryz
open Go Go.Id Go.Proofs Go.Id.Md
def jr2:List (Nat×List IV):=[(0,words.map .str),(1,[.an9 opsL]),(2,[.str [],.int .i64 0,.str [],.int .i64 0,.str [97,110,100],.int .i64 24,.str [111,114],.int .i64 24,.str [105,102],.int .i64 3,.str [117,110,108,101,115,115],.int .i64 3,.str [119,105,116,104],.int .i64 24,.str [119,105,116,104,111,117,116],.int .i64 2])]
abbrev EE:Nat->IV:=fw8 jr2
theorem hE:∀ g,Bnd 0 (EE g):=ir8 (by kernel_rfl)
theorem E0:EE 0=.ab8 [.str [97,110,100],.str [111,114],.str [105,102],.str [101,108,115,101],.str [117,110,108,101,115,115],.str [119,105,116,104],.str [119,105,116,104,111,117,116]]:=rfl
theorem E1:EE 1=.ab8 [.an9 opsL]:=rfl
theorem eb9 (s:Str)(b:UInt8):PC Tryz.prog EE 231 [.str s,.int .u8 b.toNat] (.int .i64 (eo2 b.toNat s 0)):=by
 refine bc1 fok231 (nZ rfl) fun σ=>?_
 have h1:(0:Int)<=b.toNat:=om
 have h2:(b.toNat:Int)<256:=by have:=b.toNat_lt; omega
 simp only[ic231,go_sem,h1,h2,Int.toNat_natCast,and_self]
theorem bb8 (s:Str)(b:UInt8):PC Tryz.prog EE 178 [.str s,.int .u8 b.toNat] (.int .i64 (eo2 b.toNat s 0)):=by
 refine bc1 fok178 (nZ rfl) fun σ=>?_
 simp only[ic178,go_sem];refine aa2 fok231 (eb9 s b) ?_;simp only[go_sem,and_self]
theorem ec1 (s t:Str):PC Tryz.prog EE 232 [.str s,.str t] (.bool (decide (t.length<=s.length)&&decide (s.take t.length=t))):=by
 refine bc1 fok232 (nZ rfl) fun σ=>?_
 by_cases h:t.length<=s.length
 ·have h1:(t.length:Int)<=s.length:=om
  have h2:(0:Int)<=t.length:=om
  simp only[ic232,go_sem,h,h1,cu6,cs3,eo1,h2,Int.toNat_natCast,Nat.zero_le,and_self,List.drop_zero,zh,es6,es7,Option.map]
 ·have h1:¬ (t.length:Int)<=s.length:=om
  simp only[ic232,go_sem,h,h1,z4,and_self]
theorem el7 (s t:Str):PC Tryz.prog EE 180 [.str s,.str t] (.bool (decide (t.length<=s.length)&&decide (s.take t.length=t))):=by
 refine bc1 fok180 (nZ rfl) fun σ=>?_
 simp only[ic180,go_sem];refine aa2 fok232 (ec1 s t) ?_;simp only[go_sem,and_self]
theorem bb9 (a:Int):PC Tryz.prog EE 107 [.int .u8 a] (.bool (al7 a)):=by
 refine bc1 fok107 (nZ rfl) fun σ=>?_
 by_cases h:1<=a
 ·simp only[ic107,go_sem,al7,h,zh,and_self]
 ·simp only[ic107,go_sem,al7,h,z4,and_self]
def ds8:List IV:=[.str [],.str [110,111,97,114,99,104],.str [120,56,54,95,54,52],.str [105,54,56,54],.str [97,97,114,99,104,54,52]]
theorem el8:PC Tryz.prog EE 216 [] (.agg ds8):=by
 refine ad9 hE fok216 (nZ rfl) (fun a h=>by cases h) ?_;simp only[ic216,go_sem];exact .keep _ (az5 10 _ (by kernel_rfl))
def av7 (a:Int):Str:=if a=1 then [110,111,97,114,99,104] else if a=2 then [120,56,54,95,54,52] else if a=3 then [105,54,56,54] else if a=4 then [97,97,114,99,104,54,52] else []
theorem bo2 (a:Int):decide (av7 a=[])=!al7 a:=by
 unfold av7 al7
 repeat' split
 all_goals first|(subst_vars; rfl)|skip
 have:¬ (1<=a/\a<=4):=om
 have h:(decide (1<=a)&&decide (a<=4))=false:=by simpa using this
 rw[h]; rfl
theorem ew9 (a:Int):PC Tryz.prog EE 163 [.int .u8 a] (.str (av7 a)):=by
 refine bc1 fok163 (nZ rfl) fun σ=>?_
 simp only[ic163,go_sem];refine aa2 fok107 (bb9 a) ?_;simp only[go_sem]
 cases h:al7 a with
 | false=>
  have h1:=bo2 a;rw[h] at h1;have h2:av7 a=[]:=by simpa using h1
  simp only[go_sem,h2,and_self]
 | true=>
  have h1:1<=a/\a<=4:=by simpa [al7] using h
  simp only[go_sem];refine aa2 fok216 el8 ?_;have h2:a=1\/a=2\/a=3\/a=4:=om
  rcases h2 with rfl|rfl|rfl|rfl<;>(simp only[go_sem,ds8]; first|rfl|exact ⟨rfl,rfl⟩)
theorem fh2 (c:UInt8):∀ (l:Str) (i:Nat),decide (0<=eo2 c.toNat l i)=l.contains c:=by
 intro l
 induction l with
 | nil=>intro i; rfl
 | cons b l ih=>
  intro i;simp only[eo2,List.contains_cons];split
  ·rename_i h;have:c=b:=(UInt8.toNat_inj.1 h).symm;subst this;simp
  ·rename_i h;have:(c==b)=false:=by simp only[beq_eq_false_iff_ne,ne_eq]; intro e; subst e; exact h rfl
   rw[this,qd];exact ih (i+1)
theorem cy6 {p:UInt8->Bool}{s:Str}{i:Nat}(h:i<s.length):(s.take (i+1)).all p=((s.take i).all p&&p s[i]):=by
 rw[List.take_add_one,zz h];simp only[Option.toList,List.all_append,z7,z8,Bool.and_true]
theorem bl8 {p:UInt8->Bool}{s:Str}{i:Nat}(h:i<s.length)(hp:p s[i]=false):s.all p=false:=by
 rw[List.all_eq_false];exact ⟨s[i],List.getElem_mem h,by simp[hp]⟩
theorem ds9 (s:Str)(hs:s.length<2^62):PC Tryz.prog EE 181 [.str s] (.bool (bb3 s)):=by
 refine bc1 fok181 (nZ rfl) fun σ=>?_
 by_cases h0:s=[]
 ·subst h0;simp only[ic181,go_sem];rfl
 have hl:1<=s.length:=by cases s with|nil=>exact absurd rfl h0|cons _ _=>simp
 by_cases h1:s.length<=64
 ·have h1':¬ (64:Int)<s.length:=om
  simp only[ic181,go_sem,h0,h1'];refine ab2 noT (fun i fr s'=>s'=σ/\fr=[(0,.str s),(13,.int .i64 s.length),(14,.int .i64 i)]/\(s.take i).all bp4=true) s.length ⟨rfl,rfl,rfl⟩ ?_;rintro i fr s' hi ⟨rfl,rfl,ha⟩;by_cases hlt:i<s.length
  ·have c1:(i:Int)<s.length:=om
   have c2:(0:Int)<=i:=om
   simp only[go_sem,c1,c2,zz hlt];have fin:bp4 s[i]=false->bb3 s=false:=fun h=>by simp only[bb3,bl8 hlt h,Bool.and_false]
   have step:bp4 s[i]=true->(s.take (i+1)).all bp4=true:=fun h=>by rw[cy6 hlt,ha,h]; rfl
   have w1:=ac2 (i:=i) om
   have hv:bp4 s[i]=(decide ((97:Int)<=s[i].toNat)&&decide ((s[i].toNat:Int)<=122)||decide ((65:Int)<=s[i].toNat)&&decide ((s[i].toNat:Int)<=90)||decide ((48:Int)<=s[i].toNat)&&decide ((s[i].toNat:Int)<=57) || [46,95,43,126,94].contains s[i]):=by
    simp only[bp4,gm8];congr 1;congr 1
    ·congr 1<;>congr 1<;>(apply decide_eq_decide.2; omega)
    ·congr 1<;>(apply decide_eq_decide.2; omega)
   generalize s[i]=b at *
   have last:∀ (k1:¬ ((97:Int)<=b.toNat/\(b.toNat:Int)<=122)) (k2:¬ ((65:Int)<=b.toNat/\(b.toNat:Int)<=90)) (k3:¬ ((48:Int)<=b.toNat/\(b.toNat:Int)<=57)),bp4 b=decide (0<=eo2 b.toNat [46,95,43,126,94] 0):=fun k1 k2 k3=>by
    rw[fh2,hv];simp only[<- qc,decide_eq_false k1,decide_eq_false k2,decide_eq_false k3,qd]
   by_cases k1:(97:Int)<=b.toNat
   ·by_cases k2:(b.toNat:Int)<=122
    ·simp only[go_sem,k1,k2,w1];exact ⟨hlt,step (by rw[hv]; simp only[k1,k2,go_sem])⟩
    ·have k3:(65:Int)<=b.toNat:=om
     have k4:¬ (b.toNat:Int)<=90:=om
     have k5:(48:Int)<=b.toNat:=om
     have k6:¬ (b.toNat:Int)<=57:=om
     simp only[go_sem,k1,k2,k3,k4,k5,k6];refine aa2 fok178 (bb8 _ b) ?_;have hl:=last om om om;simp only[go_sem,ge_iff_le,<- hl]
     cases hb:bp4 b with
     | true=>simp only[go_sem,w1]; exact ⟨hlt,step hb⟩
     | false=>simp only[go_sem,fin hb,and_self]
   ·by_cases k3:(65:Int)<=b.toNat
    ·by_cases k4:(b.toNat:Int)<=90
     ·simp only[go_sem,k1,k3,k4,w1];exact ⟨hlt,step (by rw[hv]; simp only[k1,k3,k4,go_sem])⟩
     ·have k5:(48:Int)<=b.toNat:=om
      have k6:¬ (b.toNat:Int)<=57:=om
      simp only[go_sem,k1,k3,k4,k5,k6];refine aa2 fok178 (bb8 _ b) ?_;have hl:=last om om om;simp only[go_sem,ge_iff_le,<- hl]
      cases hb:bp4 b with
      | true=>simp only[go_sem,w1]; exact ⟨hlt,step hb⟩
      | false=>simp only[go_sem,fin hb,and_self]
    ·by_cases k5:(48:Int)<=b.toNat
     ·by_cases k6:(b.toNat:Int)<=57
      ·simp only[go_sem,k1,k3,k5,k6,w1];exact ⟨hlt,step (by rw[hv]; simp only[k1,k3,k5,k6,go_sem])⟩
      ·simp only[go_sem,k1,k3,k5,k6];refine aa2 fok178 (bb8 _ b) ?_;have hl:=last om om om;simp only[go_sem,ge_iff_le,<- hl]
       cases hb:bp4 b with
       | true=>simp only[go_sem,w1]; exact ⟨hlt,step hb⟩
       | false=>simp only[go_sem,fin hb,and_self]
     ·simp only[go_sem,k1,k3,k5];refine aa2 fok178 (bb8 _ b) ?_;have hl:=last om om om;simp only[go_sem,ge_iff_le,<- hl]
      cases hb:bp4 b with
      | true=>simp only[go_sem,w1]; exact ⟨hlt,step hb⟩
      | false=>simp only[go_sem,fin hb,and_self]
  ·have hi':i=s.length:=om
   have c1:¬ (i:Int)<s.length:=om
   simp only[go_sem,c1];subst hi';rw[z9] at ha;simp only[bb3,ha,go_sem,hl,h1,and_self]
 ·have h1':(64:Int)<s.length:=om
  simp only[ic181,go_sem,h0,h1',bb3,h1,Bool.and_false,z4,and_self]
theorem el9 (e:EVR)(dep:Bool)(h1:e.ver.length<2^62)(h2:e.rel.length<2^62):PC Tryz.prog EE 112 [.agg e.cs,.bool dep] (.bool (bh6 e dep)):=by
 obtain ⟨ep,ver,rel⟩:=e;refine bc1 fok112 (nZ rfl) fun σ=>?_
 have hw:=ds9 ver h1;have hw':=ds9 rel h2;by_cases a1:(0:Int)<=ep
 ·by_cases a2:ep<=2147483647
  ·simp only[ic112,go_sem,EVR.cs,bh6,a1,a2];refine aa2 fok181 hw ?_;simp only[go_sem]
   cases hv:bb3 ver with
   | false=>simp only[go_sem,and_self]
   | true=>
    simp only[go_sem];refine aa2 fok181 hw' ?_;simp only[go_sem]
    cases hr:bb3 rel with
    | true=>simp only[go_sem,and_self]
    | false=>
     cases dep with
     | true=>
      simp only[go_sem]
      cases rel<;>first|rfl|exact ⟨rfl,rfl⟩
     | false=>simp only[go_sem,and_self]
  ·simp only[ic112,go_sem,EVR.cs,bh6,a1,a2,and_self]
 ·simp only[ic112,go_sem,EVR.cs,bh6,a1,and_self]
theorem ex1 (n:Int):PC Tryz.prog EE 179 [.int .u8 n] (.str (eu3 n)):=by
 obtain ⟨_,pf,an,h⟩:=fok179;exact iu4 (g:=1) h E1
theorem ic1 (n:Int):dx4 n=(decide (n=0) || !decide (eu3 n=[])):=by
 unfold dx4 eu3;by_cases h0:n=0
 ·subst h0; rfl
 by_cases h1:n=1
 ·subst h1; rfl
 by_cases h2:n=2
 ·subst h2; rfl
 by_cases h3:n=3
 ·subst h3; rfl
 by_cases h4:n=4
 ·subst h4; rfl
 by_cases h6:n=6
 ·subst h6; rfl
 simp[h0,h1,h2,h3,h4,h6]
theorem ga1 (n:Int):PC Tryz.prog EE 110 [.int .u8 n] (.bool (dx4 n)):=by
 refine bc1 fok110 (nZ rfl) fun σ=>?_
 rw[ic1];by_cases h:n=0
 ·simp only[ic110,go_sem,h,and_self]
 ·simp only[ic110,go_sem,h];refine aa2 fok179 (ex1 n) ?_;simp only[go_sem,and_self]
theorem ix7 (c:UInt8)(l:Str)(i:Nat):decide (eo2 c.toNat l i<0)=!l.contains c:=by
 rw[<- fh2 c l i,<- decide_not];exact decide_eq_decide.2 om
def im4:List IV:=[.str [97,110,100],.str [111,114],.str [105,102],.str [101,108,115,101],.str [117,110,108,101,115,115],.str [119,105,116,104],.str [119,105,116,104,111,117,116]]
theorem fh3 {b:UInt8}(h:bh5 b=true):b.toNat<=126:=by
 have:b∈signs:=by simpa [bh5,List.contains_iff_mem] using h
 revert this
 have:∀ b∈signs,b.toNat<=126:=by decide +kernel
 exact this b
theorem cr3 (s:Str)(hs:s.length<2^62):PC Tryz.prog EE 109 [.str s] (.bool (au6 s)):=by
 refine ad9 hE fok109 (nZ rfl) (fun a h=>by cases h with|head=>exact .str _|tail _ h=>cases h) ?_;by_cases h1:1<=s.length
 ·by_cases h2:s.length<=64
  ·have c1:¬ (s.length:Int)<1:=om
   have c2:¬ (64:Int)<s.length:=om
   simp only[ic109,go_sem,c1,c2];refine ij7 noT (fun m fr σ=>(fr.get 0=.str s/\fr.get 16=.ptr 0 0)/\∃ pos,σ.obj 0=zd (.bi6 s pos)/\pos<=s.length/\m=s.length-pos/\(s.take pos).all bh5=true) s.length ⟨⟨rfl,rfl⟩,0,rfl,Nat.zero_le _,rfl,rfl⟩ ?_;rintro m fr σ ⟨⟨f0,f16⟩,pos,ho,hp,rfl,ha⟩;by_cases hlt:pos<s.length
   ·simp only[go_sem,f0,f16,ho,hlt,bq9,ik1];by_cases hb:s[pos].toNat<128
    ·rw[fn9 s pos hlt hb];by_cases hb2:s[pos].toNat<=126
     ·have d1:¬ (126:Int)<s[pos].toNat:=om
      have d2:IntKind.u8.wrap (s[pos].toNat:Int)=s[pos].toNat:=by
       have:=s[pos].toNat_lt;simp[IntKind.wrap,IntKind.bits,IntKind.signed];omega
      simp only[go_sem,d1,d2];refine aa2 (v:=.int .i64 (eo2 s[pos].toNat signs 0)) fok178 (bb8 signs s[pos]) ?_;have hi:decide (eo2 s[pos].toNat signs 0<0)=!bh5 s[pos]:=ix7 s[pos] signs 0;simp only[go_sem,hi]
      cases hg:bh5 s[pos] with
      | true=>
       simp only[go_sem]
       exact ⟨s.length-(pos+1),om,pos+1,rfl,hlt,rfl,by rw[cy6 hlt,ha,hg]; rfl⟩
      | false=>
       simp only[go_sem,au6,bl8 hlt hg];exact ab3 _
     ·have d1:(126:Int)<s[pos].toNat:=om
      have hg:bh5 s[pos]=false:=by
       cases h:bh5 s[pos] with
       | false=>rfl
       | true=>exact absurd (fh3 h) hb2
      simp only[go_sem,d1,au6,bl8 hlt hg];exact ab3 _
    ·have h3:=decode_high s pos hlt hb;generalize Utf8.decode ⟨s.toArray⟩ pos=dd at h3 ⊢;have d1:(126:Int)<dd.1:=om
     have hg:bh5 s[pos]=false:=by
      cases h:bh5 s[pos] with
      | false=>rfl
      | true=>have:=fh3 h; omega
     simp only[go_sem,d1,au6,bl8 hlt hg];exact ab3 _
   ·have hpe:pos=s.length:=om
    subst hpe;rw[z9] at ha;simp only[go_sem,f0,f16,ho,bq9,ik1,Nat.lt_irrefl,E0];refine ab2 noT (fun i fr σ=>fr=[(0,.str s),(28,.agg im4),(29,.int .i64 i)]/\∀ w∈words.take i,s≠w) 7 ⟨rfl,fun w h=>by simp at h⟩ ?_;rintro i fr σ hi ⟨rfl,hw⟩;by_cases hlt:i<7
    ·have e1:(i:Int)<7:=om
     have e2:(0:Int)<=i:=om
     have w1:=ac2 (i:=i) om
     obtain ⟨w,h3,h4,h5⟩:∃ w,im4[i]? = zd (.str w)/\words.take (i+1)=words.take i++[w]/\w∈words:=by
      have:i=0\/i=1\/i=2\/i=3\/i=4\/i=5\/i=6:=om
      rcases this with rfl|rfl|rfl|rfl|rfl|rfl|rfl<;>exact ⟨_,rfl,rfl,by decide⟩
     simp only[go_sem,e1,e2,Nat.mul_one,h3];by_cases hsw:s=w
     ·subst hsw;have:words.contains s=true:=by simpa using h5
      simp only[go_sem,au6,this];exact ab3 _
     ·simp only[go_sem,hsw,w1];refine ⟨hlt,?_⟩;rw[h4];intro x hx;rcases List.mem_append.1 hx with h|h
      ·exact hw x h
      ·have:x=w:=by simpa using h
       rw[this]; exact hsw
    ·have hi7:i=7:=om
     subst hi7
     have:words.contains s=false:=by
      cases h:words.contains s with
      | false=>rfl
      | true=>exact absurd rfl (hw s (by rw[show words.take 7=words from rfl]; simpa using h))
     have e7:¬ ((7:Nat):Int)<7:=om
     simp only[go_sem,e7,au6,this,h1,h2,ha,Int.lt_irrefl];exact ab3 _
  ·have c1:¬ (s.length:Int)<1:=om
   have c2:(64:Int)<s.length:=om
   simp only[ic109,go_sem,c1,c2,au6,h1,h2];exact ab3 _
 ·have c1:(s.length:Int)<1:=om
  simp only[ic109,go_sem,c1,au6,h1];exact ab3 _
theorem cr4 (s:Str)(hs:s.length<2^62):PC Tryz.prog EE 111 [.str s] (.bool (ay5 s)):=by
 refine bc1 fok111 (nZ rfl) fun σ=>?_
 simp only[ic111,go_sem];refine aa2 fok109 (cr3 s hs) ?_;simp only[go_sem]
 cases h:au6 s with
 | false=>simp only[go_sem,ay5,h,and_self]
 | true=>
  simp only[go_sem];refine aa2 fok180 (el7 s [47]) ?_
  have:(decide ([47].length<=s.length)&&decide (s.take [47].length=[47]))=(s.head? == zd 47):=by
   cases s with
   | nil=>rfl
   | cons b l=>simp[eq_comm]; by_cases hb:b=47<;>simp[hb]
  simp only[zv,List.length_nil] at this;simp only[go_sem,ay5,h,this,and_self]
theorem bs5 (d:Dep)(h1:d.name.length<2^62)(h2:d.evr.ver.length<2^62)(h3:d.evr.rel.length<2^62):PC Tryz.prog EE 61 [.agg d.cs] (.bool (ai4 d)):=by
 obtain ⟨name,op,ep,ver,rel⟩:=d;refine bc1 fok61 (nZ rfl) fun σ=>?_
 simp only[ic61,go_sem,Dep.cs];refine aa2 fok109 (cr3 name h1) ?_;simp only[go_sem]
 cases hn:au6 name with
 | false=>simp only[go_sem,ai4,hn,and_self]
 | true=>
  simp only[go_sem];refine aa2 fok110 (ga1 op) ?_;simp only[go_sem]
  cases ho:dx4 op with
  | false=>simp only[go_sem,ai4,hn,ho,and_self]
  | true=>
   by_cases h0:op=0
   ·subst h0
    have hd:ai4 ⟨name,0,ep,ver,rel⟩=(decide (ep=0)&&(decide (ver=[])&&decide (rel=[]))):=by
     simp only[ai4,hn,ho,go_sem,gc7,EVR.mk.injEq,qc]
    simp only[go_sem,hd,and_self]
   ·simp only[go_sem,h0];refine aa2 fok111 (cr4 name h1) ?_;simp only[go_sem]
    cases hf:ay5 name with
    | true=>simp only[go_sem,ai4,hn,ho,h0,hf,and_self]
    | false=>
     simp only[go_sem];refine aa2 (v:=.bool (bh6 ⟨ep,ver,rel⟩ true)) fok112 (el9 ⟨ep,ver,rel⟩ true h2 h3) ?_;simp only[go_sem,ai4,hn,ho,h0,hf,and_self]
end Go.Id.Tryz
namespace Go.Id.Tryz
open Go Go.Id Go.Proofs Go.Id.Md
def ic2 (k:Int):List IV:=[.int .i64 (asks k).1,.int .i64 (asks k).2.1,.bool (asks k).2.2.1,.int .u8 (asks k).2.2.2]
theorem ga2 (k:Int)(h1:0<=k)(h2:k<256):PC Tryz.prog EE 227 [.int .u8 k] (.agg (ic2 k)):=by
 have w:=wrap64 (x:=k) om om;by_cases h8:8<=k
 ·refine ad9 hE fok227 (nZ rfl) (fun a h=>by cases h with|head=>exact .int _ _|tail _ h=>cases h) ?_;simp only[ic227,go_sem,w,h8]
  have:ic2 k=[.int .i64 0,.int .i64 0,.bool false,.int .u8 0]:=by
   unfold ic2 asks;rw[if_neg om,if_neg om,if_neg om,if_neg om,if_neg om,if_neg om,if_neg om];rfl
  rw[this];exact .keep _ (az5 10 _ (by kernel_rfl))
 ·have:k=0\/k=1\/k=2\/k=3\/k=4\/k=5\/k=6\/k=7:=om
  rcases this with rfl|rfl|rfl|rfl|rfl|rfl|rfl|rfl
  all_goals
   refine ad9 hE fok227 (nZ rfl) (fun a h=>by cases h with|head=>exact .int _ _|tail _ h=>cases h) ?_;simp only[ic227,go_sem,w];exact .keep _ (az5 10 _ (by kernel_rfl))
theorem ec2 (d:Dep):∀ c∈d.cs,Bnd 0 c:=by
 intro c hc;simp only[Dep.cs,z6,qa,or_false] at hc;rcases hc with rfl|rfl|rfl|rfl|rfl<;>first|exact .str _|exact .int _ _
theorem ec3 (r:aa6):∀ c∈r.cs,Bnd 0 c:=by
 induction r using aa6.ind with
 | h k d xs ih=>
  intro c hc;rw[aa6.ak5] at hc;simp only[z6,qa,or_false] at hc;rcases hc with rfl|rfl|rfl|rfl|rfl|rfl|rfl<;>first|exact .str _|exact .int _ _|skip
  refine .aa4 _ fun e he c hc=>?_
  obtain ⟨a,ha,rfl⟩:=zm.1 he;exact ih a ha c hc
theorem ae9 (r:aa6):Bnd 0 (.agg r.cs):=.agg _ (ec3 r)
theorem ab5 (r:aa6):r.cs.length=7:=by rw[aa6.ak5]; rfl
theorem af1 {P:IV->Prop}{v:IV}(h:P v):∀ a∈[v],P a:=fun a ha=>by
 cases ha with
 | head=>exact h
 | tail _ h=>cases h
theorem ca7 (a:aa6)(xs:List aa6):aa6.ax2 (a::xs)=max a.depth (aa6.ax2 xs):=by simp only[aa6.ax2]
theorem ix8 (n m:Nat):(if (m:Int)>(n:Int) then (m:Int) else n)=((max n m:Nat):Int):=by
 split<;>omega
theorem ec4 (r:aa6):r.fit->r.depth<2^62->PC Tryz.prog EE 225 [.agg r.cs] (.int .i64 r.depth):=by
 induction r using aa6.ind with
 | h k d xs ih=>
  intro hf hd;obtain ⟨f1,f2,f3,f4,f5⟩:=aa6.bc6.1 hf;refine ad9 hE fok225 (nZ rfl) (af1 (ae9 _)) ?_;rw[aa6.ak5];by_cases hk:k=1
  ·simp only[ic225,go_sem,aa6.kind,aa6.depth,hk];exact ad5 _ _
  ·simp only[aa6.depth,hk,if_false] at hd;simp only[ic225,go_sem,aa6.kind,aa6.depth,hk];refine ab2 noT (fun i fr σ=>∃ n:Nat,fr=[(3,.int .i64 n),(10,.aa4 (xs.map aa6.cs)),(11,.int .i64 xs.length),(12,.int .i64 i)]/\max n (aa6.ax2 (xs.drop i))=aa6.ax2 xs) xs.length ⟨0,rfl,by simp⟩ ?_;rintro i fr σ hi ⟨n,rfl,hn⟩;by_cases hlt:i<xs.length
   ·obtain ⟨a,ha,_,hdr,hget,_⟩:=ac7 xs i hlt;have c1:(i:Int)<xs.length:=om
    have c2:(0:Int)<=i:=om
    have w1:=ac2 (i:=i) om;rw[hdr,ca7] at hn;have hl:a.cs.all IV.leaf=true:=by rw[aa6.ak5]; rfl
    have ht:a.cs.take 7=a.cs:=zc (by rw[ab5]; exact zb _);simp only[go_sem,c1,c2,hget,ab5,ht,hl,aa6.args,List.drop_zero];refine aa2 fok225 (ih a ha (f5 a ha) om) ?_;simp only[go_sem,ij9,ei6,ix8,w1];exact ⟨hlt,max n a.depth,rfl,by rw[<- hn]; omega⟩
   ·have hi':i=xs.length:=om
    subst hi';have c1:¬ (xs.length:Int)<xs.length:=om
    simp only[zk,aa6.ax2,Nat.max_zero] at hn;subst hn;have w1:=ac2 (i:=aa6.ax2 xs) om;simp only[go_sem,c1,w1];exact ad5 _ _
def row (p:aa6×Bool):List IV:=[.agg p.1.cs,.bool p.2]
def evs (r:aa6)(al:Bool):List (List IV):=(r.parts al).map row
def em1 (xs:List aa6)(al:Bool):List (List IV):=(aa6.bk7 xs al).map row
theorem jn2 (k:Int)(d:Dep)(xs:List aa6)(al:Bool):evs (.mk k d xs) al=[.agg (aa6.mk k d xs).cs,.bool al]::em1 xs (al||decide (k=6)||decide (k=7)):=by
 simp only[evs,em1,aa6.parts,zy,row]
theorem cf7 (a:aa6)(xs:List aa6)(al:Bool):em1 (a::xs) al=evs a al++em1 xs al:=by
 simp only[evs,em1,aa6.bk7,List.map_append]
def boxed (b:Nat)(s:Store):Prop:=b<s.next/\s.obj b=zd (.cells [.func (.func 265) [] [.ptr b 0]])
theorem jn3 (r:aa6):r.fit->∀ (al:Bool) (rest:List (List IV)) (b yid:Nat) (I:List (List IV)->Store->Prop) (S:Store->Prop) (σ:Store),(∀ rest s,I rest s->boxed b s)->jq4 I->hl7 Tryz.prog EE yid I S ->
  I (evs r al++rest) σ->C Tryz.prog EE 265 [.agg r.cs,.bool al,.yield yid,.ptr b 0] σ fun v s=>σ.next<=s.next/\((v=.bool true/\I rest s)\/(v=.bool false/\S s)):=by
 induction r using aa6.ind with
 | h k d xs ih=>
  intro hf al rest b yid I S σ hown hstab hy hi;obtain ⟨f1,f2,f3,f4,f5⟩:=aa6.bc6.1 hf;refine C_f fok265 (nZ rfl) ?_;rw[jn2,List.cons_append,aa6.ak5] at hi;rw[aa6.ak5];simp only[ic265,go_sem,aa6.kind,aa6.dep,aa6.args] at hi ⊢;refine cu8 hy hi (fun s hn hi=>?_) (fun s hn hs=>?_)
  ·have H:(al=true)\/(al=false/\k=6)\/(al=false/\¬ k=6/\k=7)\/(al=false/\¬ k=6/\¬ k=7):=by
    cases al<;>by_cases h6:k=6<;>by_cases h7:k=7<;>simp[h6,h7]
   rcases H with h1|⟨h1,h2⟩|⟨h1,h2,h3⟩|⟨h1,h2,h3⟩
   ·have hA:(al||decide (k=6)||decide (k=7))=true:=by simp[h1]
    rw[hA] at hi;simp only[go_sem,h1];refine ab2 noT (fun i fr t=>fr=[(1,.bool true),(2,.yield yid),(3,.ptr b 0),(27,.aa4 (xs.map aa6.cs)),(28,.int .i64 xs.length),(29,.int .i64 i)]/\I (em1 (xs.drop i) true++rest) t/\σ.next<=t.next) xs.length ⟨rfl,hi,hn⟩ ?_;rintro i fr t hle ⟨rfl,hi,hn⟩;by_cases hlt:i<xs.length
    ·obtain ⟨a,ha,_,hdr,hget,_⟩:=ac7 xs i hlt;have c1:(i:Int)<xs.length:=om
     have c2:(0:Int)<=i:=om
     have w1:=ac2 (i:=i) om;have hl:a.cs.all IV.leaf=true:=by rw[aa6.ak5]; rfl
     have ht:a.cs.take 7=a.cs:=zc (by rw[ab5]; exact zb _);obtain ⟨hb1,hb2⟩:=hown _ _ hi;have hb3:¬ b=t.next:=om
     simp only[go_sem,c1,c2,hget,ab5,ht,hl,hb2,hb3];rw[hdr,cf7,zx] at hi;refine ag1 fok265 (ih a ha (f5 a ha) true (em1 (xs.drop (i+1)) true++rest) b yid I S _ hown hstab hy (hstab _ _ _ hi (z5 _) (fun j hj=>?_))) ?_
     ·have:¬ j=t.next:=om
      simp only[aa5,this,if_false]
     ·rintro v s2 ⟨hn2,⟨rfl,hi2⟩|⟨rfl,hs2⟩⟩
      ·refine ⟨hn2,?_⟩;have hn3:t.next+1<=s2.next:=hn2;simp only[go_sem,w1];exact ⟨hlt,hi2,om⟩
      ·refine ⟨hn2,?_⟩;have hn3:t.next+1<=s2.next:=hn2;simp only[go_sem];exact ⟨om,.inr hs2⟩
    ·have hi':i=xs.length:=om
     subst hi';have c1:¬ (xs.length:Int)<xs.length:=om
     simp only[zk,em1,aa6.bk7,zt,z1] at hi;simp only[go_sem,c1];exact ⟨hn,.inl hi⟩
   ·have hA:(al||decide (k=6)||decide (k=7))=true:=by simp[h1,h2]
    rw[hA] at hi;simp only[go_sem,h1,h2];refine ab2 noT (fun i fr t=>fr=[(1,.bool true),(2,.yield yid),(3,.ptr b 0),(27,.aa4 (xs.map aa6.cs)),(28,.int .i64 xs.length),(29,.int .i64 i)]/\I (em1 (xs.drop i) true++rest) t/\σ.next<=t.next) xs.length ⟨rfl,hi,hn⟩ ?_;rintro i fr t hle ⟨rfl,hi,hn⟩;by_cases hlt:i<xs.length
    ·obtain ⟨a,ha,_,hdr,hget,_⟩:=ac7 xs i hlt;have c1:(i:Int)<xs.length:=om
     have c2:(0:Int)<=i:=om
     have w1:=ac2 (i:=i) om;have hl:a.cs.all IV.leaf=true:=by rw[aa6.ak5]; rfl
     have ht:a.cs.take 7=a.cs:=zc (by rw[ab5]; exact zb _);obtain ⟨hb1,hb2⟩:=hown _ _ hi;have hb3:¬ b=t.next:=om
     simp only[go_sem,c1,c2,hget,ab5,ht,hl,hb2,hb3];rw[hdr,cf7,zx] at hi;refine ag1 fok265 (ih a ha (f5 a ha) true (em1 (xs.drop (i+1)) true++rest) b yid I S _ hown hstab hy (hstab _ _ _ hi (z5 _) (fun j hj=>?_))) ?_
     ·have:¬ j=t.next:=om
      simp only[aa5,this,if_false]
     ·rintro v s2 ⟨hn2,⟨rfl,hi2⟩|⟨rfl,hs2⟩⟩
      ·refine ⟨hn2,?_⟩;have hn3:t.next+1<=s2.next:=hn2;simp only[go_sem,w1];exact ⟨hlt,hi2,om⟩
      ·refine ⟨hn2,?_⟩;have hn3:t.next+1<=s2.next:=hn2;simp only[go_sem];exact ⟨om,.inr hs2⟩
    ·have hi':i=xs.length:=om
     subst hi';have c1:¬ (xs.length:Int)<xs.length:=om
     simp only[zk,em1,aa6.bk7,zt,z1] at hi;simp only[go_sem,c1];exact ⟨hn,.inl hi⟩
   ·have hA:(al||decide (k=6)||decide (k=7))=true:=by simp[h1,h2,h3,show ¬ ((7:Int)=6) from by omega]
    rw[hA] at hi;simp only[go_sem,h1,h2,h3,show ¬ ((7:Int)=6) from by omega];refine ab2 noT (fun i fr t=>fr=[(1,.bool true),(2,.yield yid),(3,.ptr b 0),(27,.aa4 (xs.map aa6.cs)),(28,.int .i64 xs.length),(29,.int .i64 i)]/\I (em1 (xs.drop i) true++rest) t/\σ.next<=t.next) xs.length ⟨rfl,hi,hn⟩ ?_;rintro i fr t hle ⟨rfl,hi,hn⟩;by_cases hlt:i<xs.length
    ·obtain ⟨a,ha,_,hdr,hget,_⟩:=ac7 xs i hlt;have c1:(i:Int)<xs.length:=om
     have c2:(0:Int)<=i:=om
     have w1:=ac2 (i:=i) om;have hl:a.cs.all IV.leaf=true:=by rw[aa6.ak5]; rfl
     have ht:a.cs.take 7=a.cs:=zc (by rw[ab5]; exact zb _);obtain ⟨hb1,hb2⟩:=hown _ _ hi;have hb3:¬ b=t.next:=om
     simp only[go_sem,c1,c2,hget,ab5,ht,hl,hb2,hb3];rw[hdr,cf7,zx] at hi;refine ag1 fok265 (ih a ha (f5 a ha) true (em1 (xs.drop (i+1)) true++rest) b yid I S _ hown hstab hy (hstab _ _ _ hi (z5 _) (fun j hj=>?_))) ?_
     ·have:¬ j=t.next:=om
      simp only[aa5,this,if_false]
     ·rintro v s2 ⟨hn2,⟨rfl,hi2⟩|⟨rfl,hs2⟩⟩
      ·refine ⟨hn2,?_⟩;have hn3:t.next+1<=s2.next:=hn2;simp only[go_sem,w1];exact ⟨hlt,hi2,om⟩
      ·refine ⟨hn2,?_⟩;have hn3:t.next+1<=s2.next:=hn2;simp only[go_sem];exact ⟨om,.inr hs2⟩
    ·have hi':i=xs.length:=om
     subst hi';have c1:¬ (xs.length:Int)<xs.length:=om
     simp only[zk,em1,aa6.bk7,zt,z1] at hi;simp only[go_sem,c1];exact ⟨hn,.inl hi⟩
   ·have hA:(al||decide (k=6)||decide (k=7))=false:=by simp[h1,h2,h3]
    rw[hA] at hi;simp only[go_sem,h1,h2,h3];refine ab2 noT (fun i fr t=>fr=[(1,.bool false),(2,.yield yid),(3,.ptr b 0),(27,.aa4 (xs.map aa6.cs)),(28,.int .i64 xs.length),(29,.int .i64 i)]/\I (em1 (xs.drop i) false++rest) t/\σ.next<=t.next) xs.length ⟨rfl,hi,hn⟩ ?_;rintro i fr t hle ⟨rfl,hi,hn⟩;by_cases hlt:i<xs.length
    ·obtain ⟨a,ha,_,hdr,hget,_⟩:=ac7 xs i hlt;have c1:(i:Int)<xs.length:=om
     have c2:(0:Int)<=i:=om
     have w1:=ac2 (i:=i) om;have hl:a.cs.all IV.leaf=true:=by rw[aa6.ak5]; rfl
     have ht:a.cs.take 7=a.cs:=zc (by rw[ab5]; exact zb _);obtain ⟨hb1,hb2⟩:=hown _ _ hi;have hb3:¬ b=t.next:=om
     simp only[go_sem,c1,c2,hget,ab5,ht,hl,hb2,hb3];rw[hdr,cf7,zx] at hi;refine ag1 fok265 (ih a ha (f5 a ha) false (em1 (xs.drop (i+1)) false++rest) b yid I S _ hown hstab hy (hstab _ _ _ hi (z5 _) (fun j hj=>?_))) ?_
     ·have:¬ j=t.next:=om
      simp only[aa5,this,if_false]
     ·rintro v s2 ⟨hn2,⟨rfl,hi2⟩|⟨rfl,hs2⟩⟩
      ·refine ⟨hn2,?_⟩;have hn3:t.next+1<=s2.next:=hn2;simp only[go_sem,w1];exact ⟨hlt,hi2,om⟩
      ·refine ⟨hn2,?_⟩;have hn3:t.next+1<=s2.next:=hn2;simp only[go_sem];exact ⟨om,.inr hs2⟩
    ·have hi':i=xs.length:=om
     subst hi';have c1:¬ (xs.length:Int)<xs.length:=om
     simp only[zk,em1,aa6.bk7,zt,z1] at hi;simp only[go_sem,c1];exact ⟨hn,.inl hi⟩
  ·simp only[go_sem];exact ⟨hn,.inr hs⟩
theorem dt1 (r:aa6)(hf:r.fit)(b:Nat):fc4 Tryz.prog EE (.func (.func 266) [] [.ptr b 0,.ab8 r.cs]) (evs r false) (boxed b):=by
 intro yid I S σ hown hstab hy hi;refine ⟨fok266.1,?_⟩;refine C_f fok266 (nZ rfl) ?_;obtain ⟨hb1,hb2⟩:=hown _ _ hi;have ht:r.cs.take 7=r.cs:=zc (by rw[ab5]; exact zb _);simp only[ic266,go_sem,hb2,ht,ab5];refine ag1 fok265 (jn3 r hf false [] b yid I S σ hown hstab hy (by rw[List.append_nil]; exact hi)) ?_;rintro v s ⟨hn,h⟩;refine ⟨hn,?_⟩;simp only[go_sem];refine ⟨hn,?_⟩;rcases h with ⟨_,h⟩|⟨_,h⟩
 ·exact .inl h
 ·exact .inr h
theorem gt5 (r:aa6)(σ:Store):C Tryz.prog EE 226 [.agg r.cs] σ fun v s=>v=.func (.func 266) [] [.ptr σ.next 0,.ab8 r.cs]/\boxed σ.next s/\σ.next<=s.next/\∀ i,i<σ.next->s.obj i=σ.obj i:=by
 refine C_f fok226 (nZ rfl) ?_;have hl:r.cs.all IV.leaf=true:=by rw[aa6.ak5]; rfl
 simp only[ic226,go_sem,hl];refine ⟨⟨qb _,?_⟩,z5 _,fun i hi=>?_⟩
 ·simp only[aa5,if_true]
 ·have:¬ i=σ.next:=om
  simp only[aa5,this,if_false]
theorem aa6.gt6 (r:aa6):∀ al,(r.parts al).length=r.count:=by
 induction r using aa6.ind with
 | h k d xs ih=>
  intro al;simp only[aa6.parts,aa6.count,zv];congr 1;generalize (al||decide (k=6)||decide (k=7))=al';clear al
  induction xs with
  | nil=>rfl
  | cons a xs ih'=>
   simp only[aa6.bk7,aa6.counts,qe];rw[ih a (zs ..),ih' (fun b hb=>ih b (zn _ hb))]
theorem ex2 {r:aa6}{al:Bool}:∀ a∈evs r al,a.length=2:=fun a ha=>by
 obtain ⟨p,_,rfl⟩:=zm.1 ha; rfl
theorem ix9 (r:aa6)(al:Bool):(evs r al).length=r.count:=by rw[evs,za,aa6.gt6]
theorem ec5 (r:aa6)(hf:r.fit)(hc:r.count<2^62):PC Tryz.prog EE 224 [.agg r.cs] (.int .i64 r.count):=by
 refine ad9 hE fok224 (nZ rfl) (af1 (ae9 _)) ?_;have hl:r.cs.all IV.leaf=true:=by rw[aa6.ak5]; rfl
 have ht:r.cs.take 7=r.cs:=zc (by rw[ab5]; exact zb _);simp only[ic224,go_sem,hl,ht,ab5];refine ag1 fok226 (gt5 r _) ?_;rintro v s1 ⟨rfl,hb,hn,hs⟩;refine ⟨hn,?_⟩;simp only[go_sem] at hn hs hb ⊢;have h0:s1.obj 0=zd (.cells [.int .i64 0]):=by rw[hs 0 om]; rfl
 have hb2:=hb.1;refine dw2 (dt1 r hf 1) (fun rest s=>boxed 1 s/\∃ n:Nat,s.obj 0=zd (.cells [.int .i64 n])/\n+rest.length=r.count) (fun _ _ h=>h.1) ?_ ex2 ?_ ?_ ?_
 ·rintro rest s s' ⟨⟨q1,q2⟩,n,q3,q4⟩ hn' hs';exact ⟨⟨om,by rw[hs' 1 q1]; exact q2⟩,n,by rw[hs' 0 om]; exact q3,q4⟩
 ·intro o;have e0:¬ 0=s1.next:=om
  have e1:¬ 1=s1.next:=om
  exact ⟨⟨by show 1<s1.next+1; omega,by simp only[aa5,e1,if_false]; exact hb.2⟩,0,by simp only[aa5,e0,if_false]; exact h0,by rw[ix9]; omega⟩
 ·rintro L pre a rest s hev ⟨⟨q1,q2⟩,n,q3,q4⟩ hL hlt;have ha:=ex2 (r:=r) (al:=false) a (by rw[hev]; simp)
  match a,ha with
  | [x,y],_=>
   have e0:¬ 0=s1.next:=om
   have e1:¬ s1.next=0:=om
   have e2:¬ 1=s1.next:=om
   simp only[zv] at q4;have w1:=ac2 (i:=n) om;have e3:¬ s1.next=1:=om
   simp only[go_sem,hL,e0,q3,e1,w1];refine er1 (zb _) ?_ ⟨⟨q1,?_⟩,n+1,?_,om⟩
   ·simp only[aa5,if_true]
   ·have:¬ 1=0:=om
    simp only[aa5,e2,this,if_false]; exact q2
   ·simp only[aa5,e0,if_false,if_true]
 ·rintro s o ⟨⟨q1,q2⟩,n,q3,q4⟩ hlt ho;have e0:¬ 0=s1.next:=om
  have:n=r.count:=by simpa using q4
  subst this;simp only[go_sem,e0,q3];exact ad5 _ _
theorem gt7 (r:aa6):r.fit->∀ al,∀ p∈r.parts al,p.1.fit:=by
 induction r using aa6.ind with
 | h k d xs ih=>
  intro hf al p hp;simp only[aa6.parts,z6] at hp;rcases hp with rfl|hp
  ·exact hf
  ·have hx:=(aa6.bc6.1 hf).2.2.2.2;clear hf;generalize (al||decide (k=6)||decide (k=7))=al' at hp
   induction xs with
   | nil=>simp[aa6.bk7] at hp
   | cons a xs ih'=>
    simp only[aa6.bk7,List.mem_append] at hp;rcases hp with hp|hp
    ·exact ih a (zs ..) (hx a (zs ..)) _ p hp
    ·exact ih' (fun b hb=>ih b (zn _ hb)) (fun b hb=>hx b (zn _ hb)) hp
theorem cy7 (r:aa6):r.depth<=r.count:=by
 induction r using aa6.ind with
 | h k d xs ih=>
  simp only[aa6.depth,aa6.count];split
  ·omega
  ·apply Nat.succ_le_succ
   induction xs with
   | nil=>simp[aa6.ax2]
   | cons a xs ih'=>
    simp only[aa6.ax2,aa6.counts];have h1:=ih a (zs ..);have h2:=ih' (fun b hb=>ih b (zn _ hb));omega
theorem ex3 (r:aa6)(wh:Int)(hf:r.fit)(hc:r.count<2^62):PC Tryz.prog EE 169 [.agg r.cs,.int .u8 wh] (.int .i64 (au8 r wh)):=by
 refine ad9 hE fok169 (nZ rfl) (fun a ha=>by
  cases ha with
  | head=>exact ae9 _
  | tail _ ha=>cases ha with
   | head=>exact .int _ _
   | tail _ ha=>cases ha) ?_
 have hl:r.cs.all IV.leaf=true:=by rw[aa6.ak5]; rfl
 have ht:r.cs.take 7=r.cs:=zc (by rw[ab5]; exact zb _);have hdl:=cy7 r;by_cases a1:wh<1
 ·simp only[ic169,go_sem,hl,a1,au8];exact ad5 _ _
 by_cases a2:3<wh
 ·simp only[ic169,go_sem,hl,a1,a2,au8];exact ad5 _ _
 simp only[ic169,go_sem,hl,a1,a2,ht,ab5];refine aa2 fok224 (ec5 r hf hc) ?_;by_cases a3:24<r.count
 ·have c3:(24:Int)<r.count:=om
  simp only[go_sem,c3,au8,a1,a2,a3,or_self];exact ad5 _ _
 have c3:¬ (24:Int)<r.count:=om
 simp only[go_sem,c3,ht,ab5];refine aa2 fok225 (ec4 r hf om) ?_;by_cases a4:8<r.depth
 ·have c4:(8:Int)<r.depth:=om
  simp only[go_sem,c4,au8,a1,a2,a3,a4,or_self];exact ad5 _ _
 have c4:¬ (8:Int)<r.depth:=om
 simp only[go_sem,c4,ht,ab5]
 have hres:au8 r wh=if (r.parts false).all (fun p=>ak6 wh p.1 p.2)=true then 0 else 4:=by
  simp only[au8,a1,a2,a3,a4,or_self,if_false]
 rw[hres];generalize hS:(Store.mk _ _)=s0;refine ag1 fok226 (gt5 r _) ?_;rintro v s1 ⟨rfl,hb,hn,hs⟩;have g0:s0.next=1:=by subst hS; simp only
 have g1:s0.obj 0=zd (.cells [.int .i64 0]):=by subst hS; simp only[aa5,if_true]
 refine ⟨hn,?_⟩;rw[g0] at hb hn hs;have hb2:=hb.1;have h0:s1.obj 0=zd (.cells [.int .i64 0]):=by rw[hs 0 om,g1]
 have e0:¬ 0=s1.next:=om
 have e1:¬ s1.next=0:=om
 have e2:¬ 1=s1.next:=om
 simp only[go_sem,g0];refine dw2 (dt1 r hf 1) (fun rest s=>(boxed 1 s/\s.obj 0=zd (.cells [.int .i64 0]))/\∃ ps:List (aa6×Bool),rest=ps.map row/\(∀ p∈ps,p.1.fit)/\(r.parts false).all (fun p:aa6×Bool=>ak6 wh p.1 p.2)=ps.all (fun p:aa6×Bool=>ak6 wh p.1 p.2)) (fun _ _ h=>h.1.1) ?_ ex2 ?_ ?_ ?_
 ·rintro rest s s' ⟨⟨⟨q1,q2⟩,q3⟩,q4⟩ hn' hs';exact ⟨⟨⟨om,by rw[hs' 1 q1]; exact q2⟩,by rw[hs' 0 om]; exact q3⟩,q4⟩
 ·intro o;exact ⟨⟨⟨by show 1<s1.next+1; omega,by simp only[aa5,e2,if_false]; exact hb.2⟩,by simp only[aa5,e0,if_false]; exact h0⟩,_,rfl,gt7 r hf false,rfl⟩
 ·rintro L pre a rest s hev ⟨⟨⟨q1,q2⟩,q3⟩,ps,hps,hfp,hall⟩ hL hlt
  cases ps with
  | nil=>cases hps
  | cons p ps=>
   obtain ⟨⟨k,d,xs⟩,al⟩:=p;simp only[zy,List.cons.injEq] at hps;obtain ⟨rfl,rfl⟩:=hps;obtain ⟨f1,f2,f3,f4,f5⟩:=aa6.bc6.1 (hfp _ (zs ..));have hfp':∀ p∈ps,p.1.fit:=fun p hp=>hfp p (zn _ hp)
   simp only[z7] at hall;have u0:¬ 0=s.next:=om
   have u1:¬ s1.next=s.next:=om
   have u2:¬ s.next=s1.next:=om
   have u3:¬ 0=s.next+1:=om
   have u4:¬ s1.next=s.next+1:=om
   have u5:¬ s.next=s.next+1:=om
   simp only[row,aa6.ak5,aa6.kind,aa6.dep,aa6.args,go_sem,hL,q3,e0,e1,u0,u1,u2,u3,u4,u5];have u6:¬ s.next+1=s1.next:=om
   have u7:¬ s.next+1=s.next:=om
   have u8:¬ s.next+1=0:=om
   have u9:¬ s.next=0:=om
   have u10:¬ 1=s.next:=om
   have u11:¬ 1=s.next+1:=om
   refine aa2 fok227 (ga2 k f1 f2) ?_;simp only[go_sem,ic2,q3,e0,e1,u0,u3,e2,u1,u2,u4,u5,u6,u7,u8,u9,u10,u11];have hstop:∀ ok:Bool,ak6 wh (.mk k d xs) al=ok->ak6 wh (.mk k d xs) al=ok:=fun _ h=>h
   by_cases b1:((asks k).2.2.2:Int)<wh
   ·have hok:ak6 wh (.mk k d xs) al=false:=by simp[ak6,aa6.kind,b1]
    simp only[go_sem,b1,q3,e0,e1,u0,u3,e2,u1,u2,u4,u5,u6,u7,u8,u9,u10,u11]
    (refine db2 (by simp only[ab7]; omega) (by simp only[aa5,if_true]) ?_; simp only[go_sem,e2,u1,u2,u4,u5,u6,u7,u8,u9,u10,u11,e0,u0,u3]; rw[hall,hok]; exact ad5 _ _)
   by_cases b2:(al=true/\(asks k).2.2.1=false)
   ·have hok:ak6 wh (.mk k d xs) al=false:=by simp[ak6,aa6.kind,b2.1,b2.2]
    simp only[go_sem,b1,b2.1,b2.2,q3,e0,e1,u0,u3,e2,u1,u2,u4,u5,u6,u7,u8,u9,u10,u11]
    (refine db2 (by simp only[ab7]; omega) (by simp only[aa5,if_true]) ?_; simp only[go_sem,e2,u1,u2,u4,u5,u6,u7,u8,u9,u10,u11,e0,u0,u3]; rw[hall,hok]; exact ad5 _ _)
   have hb2:(al&&!(asks k).2.2.1)=false:=by
    cases al<;>cases hx:(asks k).2.2.1<;>simp_all
   have hal:(al=false)\/(al=true/\(asks k).2.2.1=true):=by
    cases al<;>cases hx:(asks k).2.2.1<;>simp_all
   have hdd:decide (d=by2)=(decide (d.name=[])&&(decide (d.op=0)&&(decide (d.evr.ai5=0)&&(decide (d.evr.ver=[])&&decide (d.evr.rel=[]))))):=by
    obtain ⟨n,o,e,v,r⟩:=d;simp only[by2,gc7,Dep.mk.injEq,EVR.mk.injEq,qc]
   have hpart:ak6 wh (.mk k d xs) al=(!(decide (((asks k).2.2.2:Int)<wh)||al&&!(asks k).2.2.1||decide (xs.length<(asks k).1)||decide ((asks k).2.1<xs.length))&&(if k=1 then ai4 d else decide (d=by2))):=rfl;have hdc:=bs5 d f3.1 f3.2.1 f3.2.2;rcases hal with h1|⟨h1,h2⟩
   ·by_cases b3:xs.length<(asks k).1
    ·have c3:(xs.length:Int)<(asks k).1:=om
     have hok:ak6 wh (.mk k d xs) al=false:=by simp[ak6,aa6.kind,aa6.args,b3]
     simp only[go_sem,b1,h1,c3,q3,e0,e1,u0,u3,e2,u1,u2,u4,u5,u6,u7,u8,u9,u10,u11]
     (refine db2 (by simp only[ab7]; omega) (by simp only[aa5,if_true]) ?_; simp only[go_sem,e2,u1,u2,u4,u5,u6,u7,u8,u9,u10,u11,e0,u0,u3]; rw[hall,hok]; exact ad5 _ _)
    have c3:¬ (xs.length:Int)<(asks k).1:=om
    by_cases b4:(asks k).2.1<xs.length
    ·have c4:((asks k).2.1:Int)<xs.length:=om
     have hok:ak6 wh (.mk k d xs) al=false:=by simp[ak6,aa6.kind,aa6.args,b4]
     simp only[go_sem,b1,h1,c3,c4,q3,e0,e1,u0,u3,e2,u1,u2,u4,u5,u6,u7,u8,u9,u10,u11]
     (refine db2 (by simp only[ab7]; omega) (by simp only[aa5,if_true]) ?_; simp only[go_sem,e2,u1,u2,u4,u5,u6,u7,u8,u9,u10,u11,e0,u0,u3]; rw[hall,hok]; exact ad5 _ _)
    have c4:¬ ((asks k).2.1:Int)<xs.length:=om
    by_cases hk:k=1
    ·have hkd:decide (k=1)=true:=decide_eq_true hk;simp only[go_sem,b1,h1,c3,c4,hkd,q3,e0,e1,u0,u3,e2,u1,u2,u4,u5,u6,u7,u8,u9,u10,u11,cd5];refine aa2 fok61 hdc ?_
     cases hd:ai4 d with
     | false=>
      have hok:ak6 wh (.mk k d xs) al=false:=by simp[ak6,aa6.kind,aa6.args,aa6.dep,hk,hd]
      simp only[go_sem,q3,e0,e1,u0,u3,e2,u1,u2,u4,u5,u6,u7,u8,u9,u10,u11]
      (refine db2 (by simp only[ab7]; omega) (by simp only[aa5,if_true]) ?_; simp only[go_sem,e2,u1,u2,u4,u5,u6,u7,u8,u9,u10,u11,e0,u0,u3]; rw[hall,hok]; exact ad5 _ _)
     | true=>
      have hok:ak6 wh (.mk k d xs) al=true:=by
       rw[hpart,decide_eq_false b1,hb2,decide_eq_false b3,decide_eq_false b4,if_pos hk,hd]; rfl
      simp only[go_sem,hkd,q3,e0,e1,u0,u3,e2,u1,u2,u4,u5,u6,u7,u8,u9,u10,u11]
      (refine er1 (by simp only[ab7]; omega) (by simp only[aa5,if_true]) ⟨⟨⟨by simp only[ab7]; omega,by simp only[aa5,e2,u1,u2,u4,u5,u6,u7,u8,u9,u10,u11,if_false]; exact q2⟩,by simp only[aa5,e0,u0,u3,if_false]; exact q3⟩,ps,rfl,hfp',by rw[hall,hok,zh]⟩)
    ·simp only[go_sem,b1,h1,c3,c4,hk,q3,e0,e1,u0,u3,e2,u1,u2,u4,u5,u6,u7,u8,u9,u10,u11,cd5];rw[<- hdd];by_cases hd:d=by2
     ·have hok:ak6 wh (.mk k d xs) al=true:=by
       rw[hpart,decide_eq_false b1,hb2,decide_eq_false b3,decide_eq_false b4,if_neg hk,decide_eq_true hd]; rfl
      have hd1:decide (d=by2)=true:=decide_eq_true hd;simp only[go_sem,hd1,q3,e0,e1,u0,u3,e2,u1,u2,u4,u5,u6,u7,u8,u9,u10,u11]
      (refine er1 (by simp only[ab7]; omega) (by simp only[aa5,if_true]) ⟨⟨⟨by simp only[ab7]; omega,by simp only[aa5,e2,u1,u2,u4,u5,u6,u7,u8,u9,u10,u11,if_false]; exact q2⟩,by simp only[aa5,e0,u0,u3,if_false]; exact q3⟩,ps,rfl,hfp',by rw[hall,hok,zh]⟩)
     ·have hok:ak6 wh (.mk k d xs) al=false:=by simp[ak6,aa6.kind,aa6.args,aa6.dep,hk,hd]
      have hd1:decide (d=by2)=false:=decide_eq_false hd;simp only[go_sem,hd1,q3,e0,e1,u0,u3,e2,u1,u2,u4,u5,u6,u7,u8,u9,u10,u11]
      (refine db2 (by simp only[ab7]; omega) (by simp only[aa5,if_true]) ?_; simp only[go_sem,e2,u1,u2,u4,u5,u6,u7,u8,u9,u10,u11,e0,u0,u3]; rw[hall,hok]; exact ad5 _ _)
   ·by_cases b3:xs.length<(asks k).1
    ·have c3:(xs.length:Int)<(asks k).1:=om
     have hok:ak6 wh (.mk k d xs) al=false:=by simp[ak6,aa6.kind,aa6.args,b3]
     simp only[go_sem,b1,h1,h2,c3,q3,e0,e1,u0,u3,e2,u1,u2,u4,u5,u6,u7,u8,u9,u10,u11]
     (refine db2 (by simp only[ab7]; omega) (by simp only[aa5,if_true]) ?_; simp only[go_sem,e2,u1,u2,u4,u5,u6,u7,u8,u9,u10,u11,e0,u0,u3]; rw[hall,hok]; exact ad5 _ _)
    have c3:¬ (xs.length:Int)<(asks k).1:=om
    by_cases b4:(asks k).2.1<xs.length
    ·have c4:((asks k).2.1:Int)<xs.length:=om
     have hok:ak6 wh (.mk k d xs) al=false:=by simp[ak6,aa6.kind,aa6.args,b4]
     simp only[go_sem,b1,h1,h2,c3,c4,q3,e0,e1,u0,u3,e2,u1,u2,u4,u5,u6,u7,u8,u9,u10,u11]
     (refine db2 (by simp only[ab7]; omega) (by simp only[aa5,if_true]) ?_; simp only[go_sem,e2,u1,u2,u4,u5,u6,u7,u8,u9,u10,u11,e0,u0,u3]; rw[hall,hok]; exact ad5 _ _)
    have c4:¬ ((asks k).2.1:Int)<xs.length:=om
    by_cases hk:k=1
    ·have hkd:decide (k=1)=true:=decide_eq_true hk;simp only[go_sem,b1,h1,h2,c3,c4,hkd,q3,e0,e1,u0,u3,e2,u1,u2,u4,u5,u6,u7,u8,u9,u10,u11,cd5];refine aa2 fok61 hdc ?_
     cases hd:ai4 d with
     | false=>
      have hok:ak6 wh (.mk k d xs) al=false:=by simp[ak6,aa6.kind,aa6.args,aa6.dep,hk,hd]
      simp only[go_sem,q3,e0,e1,u0,u3,e2,u1,u2,u4,u5,u6,u7,u8,u9,u10,u11]
      (refine db2 (by simp only[ab7]; omega) (by simp only[aa5,if_true]) ?_; simp only[go_sem,e2,u1,u2,u4,u5,u6,u7,u8,u9,u10,u11,e0,u0,u3]; rw[hall,hok]; exact ad5 _ _)
     | true=>
      have hok:ak6 wh (.mk k d xs) al=true:=by
       rw[hpart,decide_eq_false b1,hb2,decide_eq_false b3,decide_eq_false b4,if_pos hk,hd]; rfl
      simp only[go_sem,hkd,q3,e0,e1,u0,u3,e2,u1,u2,u4,u5,u6,u7,u8,u9,u10,u11]
      (refine er1 (by simp only[ab7]; omega) (by simp only[aa5,if_true]) ⟨⟨⟨by simp only[ab7]; omega,by simp only[aa5,e2,u1,u2,u4,u5,u6,u7,u8,u9,u10,u11,if_false]; exact q2⟩,by simp only[aa5,e0,u0,u3,if_false]; exact q3⟩,ps,rfl,hfp',by rw[hall,hok,zh]⟩)
    ·simp only[go_sem,b1,h1,h2,c3,c4,hk,q3,e0,e1,u0,u3,e2,u1,u2,u4,u5,u6,u7,u8,u9,u10,u11,cd5];rw[<- hdd];by_cases hd:d=by2
     ·have hok:ak6 wh (.mk k d xs) al=true:=by
       rw[hpart,decide_eq_false b1,hb2,decide_eq_false b3,decide_eq_false b4,if_neg hk,decide_eq_true hd]; rfl
      have hd1:decide (d=by2)=true:=decide_eq_true hd;simp only[go_sem,hd1,q3,e0,e1,u0,u3,e2,u1,u2,u4,u5,u6,u7,u8,u9,u10,u11]
      (refine er1 (by simp only[ab7]; omega) (by simp only[aa5,if_true]) ⟨⟨⟨by simp only[ab7]; omega,by simp only[aa5,e2,u1,u2,u4,u5,u6,u7,u8,u9,u10,u11,if_false]; exact q2⟩,by simp only[aa5,e0,u0,u3,if_false]; exact q3⟩,ps,rfl,hfp',by rw[hall,hok,zh]⟩)
     ·have hok:ak6 wh (.mk k d xs) al=false:=by simp[ak6,aa6.kind,aa6.args,aa6.dep,hk,hd]
      have hd1:decide (d=by2)=false:=decide_eq_false hd;simp only[go_sem,hd1,q3,e0,e1,u0,u3,e2,u1,u2,u4,u5,u6,u7,u8,u9,u10,u11]
      (refine db2 (by simp only[ab7]; omega) (by simp only[aa5,if_true]) ?_; simp only[go_sem,e2,u1,u2,u4,u5,u6,u7,u8,u9,u10,u11,e0,u0,u3]; rw[hall,hok]; exact ad5 _ _)
 ·rintro s o ⟨⟨⟨q1,q2⟩,q3⟩,ps,hps,_,hall⟩ hlt ho;have:ps=[]:=by cases ps with|nil=>rfl|cons _ _=>cases hps
  subst this;rw[hall];simp only[go_sem,e0,q3,z8];exact ad5 _ _
end Go.Id.Tryz
namespace Go.Id.Tryz
open Go Go.Id Go.Proofs Go.Id.Md
def ai7 {α:Type}(q:α->Bool):List α->Int->Int
 | [],_=>-1
 | e::es,i=>if q e then i else ai7 q es (i+1)
theorem gt8 {α:Type}(q:α->Bool):∀ (l:List α) (i:Nat),decide (0<=ai7 q l i)=l.any q:=by
 intro l
 induction l with
 | nil=>intro i; rfl
 | cons x l ih=>
  intro i;simp only[ai7,List.any_cons];by_cases h:q x=true
  ·simp only[h,if_true,Bool.true_or]; exact decide_eq_true om
  ·have h':q x=false:=by simpa using h
   have e:=ih (i+1);rw[z3,z2] at e;simp only[h',zw,if_false,qd];exact e
theorem au2 {α:Type}(q:α->Bool)(l:List α):decide (0<=ai7 q l 0)=l.any q:=gt8 q l 0
theorem ak2 (d:Dep):d.cs.length=5:=rfl
theorem ag7 (d:Dep):d.cs.all IV.leaf=true:=rfl
theorem ah7 (d:Dep):d.cs.take 5=d.cs:=rfl
theorem ab6 (r:aa6):r.cs.all IV.leaf=true:=by rw[aa6.ak5]; rfl
theorem ac8 (r:aa6):r.cs.take 7=r.cs:=zc (by rw[ab5]; exact zb _)
theorem ec6 (s:Str):(bh4 s).length=1:=rfl
theorem cf8 (l:List Dep):Bnd 0 (.aa4 (l.map Dep.cs)):=.aa4 _ fun e he c hc=>by
 obtain ⟨d,_,rfl⟩:=zm.1 he; exact ec2 d c hc
theorem cy8 (l:List Str):Bnd 0 (.aa4 (l.map bh4)):=.aa4 _ fun e he c hc=>by
 obtain ⟨d,_,rfl⟩:=zm.1 he; cases hc with|head=>exact .str _|tail _ h=>cases h
theorem ak8 (l:List aa6):Bnd 0 (.aa4 (l.map aa6.cs)):=.aa4 _ fun e he c hc=>by
 obtain ⟨d,_,rfl⟩:=zm.1 he; exact ec3 d c hc
theorem gt9 (xs:List Dep)(g:Nat)(first cap:List IV)(q:Dep->Bool)(hn:xs.length<2^62)(hok:okF Tryz.prog g=true)
  (hq:∀ x∈xs,PC Tryz.prog EE g (first++[IV.agg (Dep.cs x)]++cap) (.bool (q x))):PC Tryz.prog EE 262 [.aa4 (xs.map Dep.cs),.func (.func g) first cap] (.int .i64 (ai7 q xs 0)):=by
 refine bc1 fok262 (nZ rfl) fun σ=>?_
 simp only[ic262,go_sem];refine ab2 noT (fun i fr s=>s=σ/\fr=[(0,.aa4 (xs.map Dep.cs)),(1,.func (.func g) first cap),(7,.int .i64 xs.length),(8,.int .i64 i)]/\ai7 q xs 0=ai7 q (xs.drop i) i) xs.length ⟨rfl,rfl,rfl⟩ ?_;rintro i fr s hi ⟨rfl,rfl,hf⟩;by_cases hlt:i<xs.length
 ·obtain ⟨x,ha,_,hdr,hget,_⟩:=ac7 xs i hlt;have c1:(i:Int)<xs.length:=om
  have c2:(0:Int)<=i:=om
  have w1:=ac2 (i:=i) om;rw[hdr] at hf;simp only[go_sem,c1,c2,hget,ak2,ah7,ag7];refine ao9 hok (es8 (hq x ha)) ?_;rintro v s ⟨rfl,rfl⟩;refine ⟨zb _,?_⟩
  cases hqe:q x with
  | true=>simp only[go_sem,hf,ai7,hqe,and_self]
  | false=>
   simp only[go_sem,w1];exact ⟨hlt,by rw[hf]; simp only[ai7,hqe,zw,if_false,z3,z2]⟩
 ·have hi':i=xs.length:=om
  subst hi';have c1:¬ (xs.length:Int)<xs.length:=om
  rw[zk] at hf;simp only[go_sem,c1,hf,ai7,and_self]
theorem de3 (xs:List Dep)(g:Nat)(first cap:List IV)(q:Dep->Bool)(hn:xs.length<2^62)(hok:okF Tryz.prog g=true)
  (hq:∀ x∈xs,PC Tryz.prog EE g (first++[IV.agg (Dep.cs x)]++cap) (.bool (q x))):PC Tryz.prog EE 217 [.aa4 (xs.map Dep.cs),.func (.func g) first cap] (.bool (xs.any q)):=by
 refine bc1 fok217 (nZ rfl) fun σ=>?_
 simp only[ic217,go_sem];refine aa2 fok262 (gt9 xs g first cap q hn hok hq) ?_;simp only[go_sem,au2,and_self]
theorem gu1 (x:Dep)(g:Nat)(first cap:List IV)(b:Bool)(hb:∀ c∈first,Bnd 0 c)(hb2:∀ c∈cap,Bnd 0 c)(hok:okF Tryz.prog g=true)(hq:PC Tryz.prog EE g (first++[IV.agg (Dep.cs x)]++cap) (.bool b)) :
  PC Tryz.prog EE 218 [IV.agg (Dep.cs x),.ab8 [.func (.func g) first cap]] (.bool !b):=by
 refine bc1 fok218 (nZ rfl) fun σ=>?_
 simp only[ic218,go_sem,ak2,ah7,ag7];refine ao9 hok (es8 hq) ?_;rintro v s ⟨rfl,rfl⟩;refine ⟨zb _,?_⟩;simp only[go_sem,and_self]
theorem fh4 (xs:List Dep)(n:Int)(g:Nat)(first cap:List IV)(p:Dep->Bool)(hn:xs.length<2^62)(hb:∀ c∈first,Bnd 0 c)(hb2:∀ c∈cap,Bnd 0 c)(hok:okF Tryz.prog g=true)
  (hq:∀ x∈xs,PC Tryz.prog EE g (first++[IV.agg (Dep.cs x)]++cap) (.bool (p x))):PC Tryz.prog EE 164 [.aa4 (xs.map Dep.cs),.int .i64 n,.func (.func g) first cap] (.bool (decide ((xs.length:Int)<=n)&&xs.all p)):=by
 refine bc1 fok164 (nZ rfl) fun σ=>?_
 by_cases hle:(xs.length:Int)<=n
 ·simp only[ic164,go_sem,hle];refine aa2 fok217 (de3 xs 218 [] [.ab8 [.func (.func g) first cap]] (fun x=>!p x) hn fok218.1 fun x hx=>gu1 x g first cap (p x) hb hb2 hok (hq x hx)) ?_;have:(!xs.any fun x=>!p x)=xs.all p:=by rw[z0]; simp
  simp only[go_sem,hle,this,and_self]
 ·simp only[ic164,go_sem,hle,and_self]
theorem gu2 (xs:List Str)(g:Nat)(first cap:List IV)(q:Str->Bool)(hn:xs.length<2^62)(hok:okF Tryz.prog g=true)
  (hq:∀ x∈xs,PC Tryz.prog EE g (first++[IV.str x]++cap) (.bool (q x))):PC Tryz.prog EE 263 [.aa4 (xs.map bh4),.func (.func g) first cap] (.int .i64 (ai7 q xs 0)):=by
 refine bc1 fok263 (nZ rfl) fun σ=>?_
 simp only[ic263,go_sem];refine ab2 noT (fun i fr s=>s=σ/\fr=[(0,.aa4 (xs.map bh4)),(1,.func (.func g) first cap),(7,.int .i64 xs.length),(8,.int .i64 i)]/\ai7 q xs 0=ai7 q (xs.drop i) i) xs.length ⟨rfl,rfl,rfl⟩ ?_;rintro i fr s hi ⟨rfl,rfl,hf⟩;by_cases hlt:i<xs.length
 ·obtain ⟨x,ha,_,hdr,hget,_⟩:=ac7 xs i hlt;have c1:(i:Int)<xs.length:=om
  have c2:(0:Int)<=i:=om
  have w1:=ac2 (i:=i) om;rw[hdr] at hf;simp only[go_sem,c1,c2,hget,ec6,bh4];refine ao9 hok (es8 (hq x ha)) ?_;rintro v s ⟨rfl,rfl⟩;refine ⟨zb _,?_⟩
  cases hqe:q x with
  | true=>simp only[go_sem,hf,ai7,hqe,and_self]
  | false=>
   simp only[go_sem,w1];exact ⟨hlt,by rw[hf]; simp only[ai7,hqe,zw,if_false,z3,z2]⟩
 ·have hi':i=xs.length:=om
  subst hi';have c1:¬ (xs.length:Int)<xs.length:=om
  rw[zk] at hf;simp only[go_sem,c1,hf,ai7,and_self]
theorem gu3 (xs:List Str)(g:Nat)(first cap:List IV)(q:Str->Bool)(hn:xs.length<2^62)(hok:okF Tryz.prog g=true)
  (hq:∀ x∈xs,PC Tryz.prog EE g (first++[IV.str x]++cap) (.bool (q x))):PC Tryz.prog EE 219 [.aa4 (xs.map bh4),.func (.func g) first cap] (.bool (xs.any q)):=by
 refine bc1 fok219 (nZ rfl) fun σ=>?_
 simp only[ic219,go_sem];refine aa2 fok263 (gu2 xs g first cap q hn hok hq) ?_;simp only[go_sem,au2,and_self]
theorem gu4 (x:Str)(g:Nat)(first cap:List IV)(b:Bool)(hb:∀ c∈first,Bnd 0 c)(hb2:∀ c∈cap,Bnd 0 c)(hok:okF Tryz.prog g=true)(hq:PC Tryz.prog EE g (first++[IV.str x]++cap) (.bool b)) :
  PC Tryz.prog EE 220 [IV.str x,.ab8 [.func (.func g) first cap]] (.bool !b):=by
 refine bc1 fok220 (nZ rfl) fun σ=>?_
 simp only[ic220,go_sem,ec6,bh4];refine ao9 hok (es8 hq) ?_;rintro v s ⟨rfl,rfl⟩;refine ⟨zb _,?_⟩;simp only[go_sem,and_self]
theorem id3 (xs:List Str)(n:Int)(g:Nat)(first cap:List IV)(p:Str->Bool)(hn:xs.length<2^62)(hb:∀ c∈first,Bnd 0 c)(hb2:∀ c∈cap,Bnd 0 c)(hok:okF Tryz.prog g=true)
  (hq:∀ x∈xs,PC Tryz.prog EE g (first++[IV.str x]++cap) (.bool (p x))):PC Tryz.prog EE 165 [.aa4 (xs.map bh4),.int .i64 n,.func (.func g) first cap] (.bool (decide ((xs.length:Int)<=n)&&xs.all p)):=by
 refine bc1 fok165 (nZ rfl) fun σ=>?_
 by_cases hle:(xs.length:Int)<=n
 ·simp only[ic165,go_sem,hle];refine aa2 fok219 (gu3 xs 220 [] [.ab8 [.func (.func g) first cap]] (fun x=>!p x) hn fok220.1 fun x hx=>gu4 x g first cap (p x) hb hb2 hok (hq x hx)) ?_;have:(!xs.any fun x=>!p x)=xs.all p:=by rw[z0]; simp
  simp only[go_sem,hle,this,and_self]
 ·simp only[ic165,go_sem,hle,and_self]
theorem ga3 (xs:List aa6)(g:Nat)(first cap:List IV)(q:aa6->Bool)(hn:xs.length<2^62)(hok:okF Tryz.prog g=true)
  (hq:∀ x∈xs,PC Tryz.prog EE g (first++[IV.agg (aa6.cs x)]++cap) (.bool (q x))):PC Tryz.prog EE 264 [.aa4 (xs.map aa6.cs),.func (.func g) first cap] (.int .i64 (ai7 q xs 0)):=by
 refine bc1 fok264 (nZ rfl) fun σ=>?_
 simp only[ic264,go_sem];refine ab2 noT (fun i fr s=>s=σ/\fr=[(0,.aa4 (xs.map aa6.cs)),(1,.func (.func g) first cap),(7,.int .i64 xs.length),(8,.int .i64 i)]/\ai7 q xs 0=ai7 q (xs.drop i) i) xs.length ⟨rfl,rfl,rfl⟩ ?_;rintro i fr s hi ⟨rfl,rfl,hf⟩;by_cases hlt:i<xs.length
 ·obtain ⟨x,ha,_,hdr,hget,_⟩:=ac7 xs i hlt;have c1:(i:Int)<xs.length:=om
  have c2:(0:Int)<=i:=om
  have w1:=ac2 (i:=i) om;rw[hdr] at hf;simp only[go_sem,c1,c2,hget,ab5,ac8,ab6];refine ao9 hok (es8 (hq x ha)) ?_;rintro v s ⟨rfl,rfl⟩;refine ⟨zb _,?_⟩
  cases hqe:q x with
  | true=>simp only[go_sem,hf,ai7,hqe,and_self]
  | false=>
   simp only[go_sem,w1];exact ⟨hlt,by rw[hf]; simp only[ai7,hqe,zw,if_false,z3,z2]⟩
 ·have hi':i=xs.length:=om
  subst hi';have c1:¬ (xs.length:Int)<xs.length:=om
  rw[zk] at hf;simp only[go_sem,c1,hf,ai7,and_self]
theorem cr5 (xs:List aa6)(g:Nat)(first cap:List IV)(q:aa6->Bool)(hn:xs.length<2^62)(hok:okF Tryz.prog g=true)
  (hq:∀ x∈xs,PC Tryz.prog EE g (first++[IV.agg (aa6.cs x)]++cap) (.bool (q x))):PC Tryz.prog EE 222 [.aa4 (xs.map aa6.cs),.func (.func g) first cap] (.bool (xs.any q)):=by
 refine bc1 fok222 (nZ rfl) fun σ=>?_
 simp only[ic222,go_sem];refine aa2 fok264 (ga3 xs g first cap q hn hok hq) ?_;simp only[go_sem,au2,and_self]
theorem ga4 (x:aa6)(g:Nat)(first cap:List IV)(b:Bool)(hb:∀ c∈first,Bnd 0 c)(hb2:∀ c∈cap,Bnd 0 c)(hok:okF Tryz.prog g=true)(hq:PC Tryz.prog EE g (first++[IV.agg (aa6.cs x)]++cap) (.bool b)) :
  PC Tryz.prog EE 223 [IV.agg (aa6.cs x),.ab8 [.func (.func g) first cap]] (.bool !b):=by
 refine bc1 fok223 (nZ rfl) fun σ=>?_
 simp only[ic223,go_sem,ab5,ac8,ab6];refine ao9 hok (es8 hq) ?_;rintro v s ⟨rfl,rfl⟩;refine ⟨zb _,?_⟩;simp only[go_sem,and_self]
theorem gu5 (xs:List aa6)(n:Int)(g:Nat)(first cap:List IV)(p:aa6->Bool)(hn:xs.length<2^62)(hb:∀ c∈first,Bnd 0 c)(hb2:∀ c∈cap,Bnd 0 c)(hok:okF Tryz.prog g=true)
  (hq:∀ x∈xs,PC Tryz.prog EE g (first++[IV.agg (aa6.cs x)]++cap) (.bool (p x))):PC Tryz.prog EE 167 [.aa4 (xs.map aa6.cs),.int .i64 n,.func (.func g) first cap] (.bool (decide ((xs.length:Int)<=n)&&xs.all p)):=by
 refine bc1 fok167 (nZ rfl) fun σ=>?_
 by_cases hle:(xs.length:Int)<=n
 ·simp only[ic167,go_sem,hle];refine aa2 fok222 (cr5 xs 223 [] [.ab8 [.func (.func g) first cap]] (fun x=>!p x) hn fok223.1 fun x hx=>ga4 x g first cap (p x) hb hb2 hok (hq x hx)) ?_;have:(!xs.any fun x=>!p x)=xs.all p:=by rw[z0]; simp
  simp only[go_sem,hle,this,and_self]
 ·simp only[ic167,go_sem,hle,and_self]
def fh5 (x:Int×List aa6):List IV:=[.int .u8 x.1,ai9 x.2]
def gu6 (p:aa3):List (List IV):=p.rows.map fh5
theorem bc3 (p:aa3):∀ c∈p.cs,Bnd 0 c:=by
 intro c hc;simp only[aa3.cs,z6,qa,or_false] at hc;rcases hc with rfl|rfl|rfl|rfl|rfl|rfl|rfl|rfl|rfl|rfl|rfl|rfl|rfl|rfl|rfl<;>first|exact .str _|exact .int _ _|exact cf8 _|exact ak8 _|exact cy8 _
theorem al2 (p:aa3):Bnd 0 (.agg p.cs):=.agg _ (bc3 p)
theorem ag5 (p:aa3):p.cs.length=15:=rfl
theorem ag9 (p:aa3):p.cs.take 15=p.cs:=rfl
theorem ad6 (p:aa3):p.cs.all IV.leaf=true:=rfl
theorem id4 (p:aa3):PC Tryz.prog EE 166 [.agg p.cs] (.func (.func 221) [] [.ab8 p.cs]):=by
 refine bc1 fok166 (nZ rfl) fun σ=>?_
 simp only[ic166,go_sem,ad6,and_self]
theorem ga5 (p:aa3):fc4 Tryz.prog EE (.func (.func 221) [] [.ab8 p.cs]) (gu6 p) (fun _=>True):=by
 intro yid I S σ hown hstab hy hi;refine ⟨fok221.1,?_⟩;refine C_f fok221 (nZ rfl) ?_;simp only[ic221,go_sem,aa3.cs];simp only[gu6,aa3.rows,zy,zt,fh5] at hi;have stop:∀ s,σ.next<=s.next->S s->jg7 σ.next I S (.tuple []) s:=fun s hn hs=>⟨hn,.inr hs⟩
 refine cu8 hy hi (fun s1 n1 i1=>?_) (fun s1 n1 h1=>by simp only[go_sem]; exact stop _ n1 h1);simp only[go_sem];refine cu8 hy i1 (fun s2 n2 i2=>?_) (fun s2 n2 h2=>by simp only[go_sem]; exact stop _ om h2);simp only[go_sem];refine cu8 hy i2 (fun s3 n3 i3=>?_) (fun s3 n3 h3=>by simp only[go_sem]; exact stop _ om h3);simp only[go_sem];refine cu8 hy i3 (fun s4 n4 i4=>?_) (fun s4 n4 h4=>by simp only[go_sem]; exact stop _ om h4);simp only[go_sem];refine cu8 hy i4 (fun s5 n5 i5=>?_) (fun s5 n5 h5=>by simp only[go_sem]; exact stop _ om h5);simp only[go_sem];refine cu8 hy i5 (fun s6 n6 i6=>?_) (fun s6 n6 h6=>by simp only[go_sem]; exact stop _ om h6);simp only[go_sem];exact ⟨om,.inl i6⟩
theorem iy1 (r:aa6)(wh:Int)(hf:r.fit)(hc:r.count<2^62):PC Tryz.prog EE 168 [.agg r.cs,.ab8 [.int .u8 wh]] (.bool (decide (au8 r wh=0))):=by
 refine bc1 fok168 (nZ rfl) fun σ=>?_
 simp only[ic168,go_sem,ab5,ac8,ab6];refine aa2 fok169 (ex3 r wh hf hc) ?_;simp only[go_sem,and_self]
theorem id5 (l:List aa6)(wh:Int)(hn:l.length<2^62)(hf:∀ r∈l,r.fit/\r.count<2^31):PC Tryz.prog EE 167 [ai9 l,.int .i64 32,.func (.func 168) [] [.ab8 [.int .u8 wh]]] (.bool (ae6 l wh)):=by
 have h:=gu5 l 32 168 [] [.ab8 [.int .u8 wh]] (fun r=>decide (au8 r wh=0)) hn (fun c hc=>by cases hc) (af1 (.ab8 _ (af1 (.int _ _)))) fok168.1 fun x hx=>iy1 x wh (hf x hx).1 (by have:=(hf x hx).2; omega)
 have e:decide ((l.length:Int)<=32)=decide (l.length<=32):=decide_eq_decide.2 om;rw[e] at h;exact h
theorem gu7 {σ:Store}{f id:Nat}{cs:List IV}(ho:σ.obj id=zd (.cells cs))(hb:∀ c∈cs,Bnd 0 c):bw7 σ 0 (.func (.func f) [] [.ptr id 0]) (.func (.func f) [] [.ab8 cs]):=by
 refine .func _ [] [] _ _ rfl rfl (fun i hi=>absurd hi (zu _)) (fun i hi=>?_)
 match i,hi with
 | 0,_=>
  refine .ptr id 0 cs cs (zu _) (.inl ho) om (fun j hj=>?_);rw[Nat.zero_add];exact .keep _ (hb _ (ae5 _ hj))
theorem de4 {l:List Str}{i:Nat}{f:Str}(h0:0<i)(h:l.drop i=f::l.drop (i+1)):∃ a,l[i-1]? = zd a/\rising (l.drop (i-1))=(Op.bytesLess a f&&rising (l.drop i)):=by
 have hlt:i<l.length:=by
  rcases Nat.lt_or_ge i l.length with h1|h1
  ·exact h1
  ·rw[List.drop_of_length_le h1] at h; cases h
 have h2:i-1<l.length:=om
 refine ⟨l[i-1],zz h2,?_⟩;rw[List.drop_eq_getElem_cons h2,show i-1+1=i from by omega,h];rfl
theorem gu8 (p:aa3)(hf:p.Fit):PC Tryz.prog EE 98 [.agg p.cs] (.bool (ah4 p)):=by
 refine ad9 hE fok98 (nZ rfl) (af1 (al2 _)) ?_;simp only[ic98,go_sem,ad6,aa3.cs];refine aa2 fok109 (cr3 p.name hf.name) ?_
 cases h1:au6 p.name with
 | false=>simp only[go_sem,ah4,h1]; exact ab3 _
 | true=>
 simp only[go_sem];refine aa2 fok111 (cr4 p.name hf.name) ?_
 cases h2:ay5 p.name with
 | true=>simp only[go_sem,ah4,h1,h2]; exact ab3 _
 | false=>
 simp only[go_sem];refine aa2 (v:=.bool (bh6 p.evr false)) fok112 (el9 p.evr false hf.evr.1 hf.evr.2) ?_
 cases h3:bh6 p.evr false with
 | false=>simp only[go_sem,ah4,h1,h2,h3]; exact ab3 _
 | true=>
 simp only[go_sem];refine aa2 fok163 (ew9 p.ap9) ?_;have h4':=bo2 p.ap9
 cases h4:al7 p.ap9 with
 | false=>
  rw[h4] at h4'
  simp only[go_sem,h4',ah4,h1,h2,h3,h4]; exact ab3 _
 | true=>
 rw[h4] at h4';simp only[go_sem,h4'];by_cases h5:p.vendor.length<=64
 case neg=>
  have h5':(64:Int)<p.vendor.length:=om
  simp only[go_sem,h5',ah4,h1,h2,h3,h4,h5]; exact ab3 _
 have h5':¬ (64:Int)<p.vendor.length:=om
 simp only[go_sem,h5'];have e32:∀ n:Nat,decide ((n:Int)<=32)=decide (n<=32):=fun n=>decide_eq_decide.2 om
 have hp6:=fh4 p.provides 32 61 [] [] ai4 (by have:=hf.ax9.1; omega) (fun c hc=>by cases hc) (fun c hc=>by cases hc) fok61.1 fun x hx=>bs5 x (hf.ax9.2 x hx).1 (hf.ax9.2 x hx).2.1 (hf.ax9.2 x hx).2.2
 have hp7:=fh4 p.aa7 32 61 [] [] ai4 (by have:=hf.obs.1; omega) (fun c hc=>by cases hc) (fun c hc=>by cases hc) fok61.1 fun x hx=>bs5 x (hf.obs.2 x hx).1 (hf.obs.2 x hx).2.1 (hf.obs.2 x hx).2.2
 have hp8:=id3 p.files 32 111 [] [] ay5 (by have:=hf.files.1; omega) (fun c hc=>by cases hc) (fun c hc=>by cases hc) fok111.1 fun x hx=>cr4 x (hf.files.2 x hx)
 rw[e32] at hp6 hp7 hp8;refine aa2 fok164 hp6 ?_
 cases h6:(decide (p.provides.length<=32)&&p.provides.all ai4) with
 | false=>simp only[go_sem,ah4,h1,h2,h3,h4,h5,h6]; exact ab3 _
 | true=>
 simp only[go_sem];refine aa2 fok164 hp7 ?_
 cases h7:(decide (p.aa7.length<=32)&&p.aa7.all ai4) with
 | false=>simp only[go_sem,ah4,h1,h2,h3,h4,h5,h6,h7]; exact ab3 _
 | true=>
 simp only[go_sem];refine aa2 fok165 hp8 ?_
 cases h8:(decide (p.files.length<=32)&&p.files.all ay5) with
 | false=>simp only[go_sem,ah4,h1,h2,h3,h4,h5,h6,h7,h8]; exact ab3 _
 | true=>
 have hmay:ah4 p=(rising p.files&&p.rows.all fun x=>ae6 x.2 x.1):=by
  simp only[ah4,h1,h2,h3,h4,h5,h6,h7,h8,aa3.rows,z7,z8,decide_true,Bool.not_false,Bool.and_true,zh,Bool.and_assoc]
 simp only[go_sem];rw[hmay];refine ab2 noT (fun i fr s=>fr=[(1,.ab8 p.cs),(2,.ptr 0 0),(52,strs p.files),(53,.int .i64 p.files.length),(54,.int .i64 i)]/\(s.obj 0=zd (.cells [.bool false])/\0<s.next)/\rising p.files=rising (p.files.drop (i-1))) p.files.length ⟨rfl,⟨?_,?_⟩,rfl⟩ ?_
 ·simp only[aa5,if_true]
 ·exact Nat.zero_lt_one
 rintro i fr s hi ⟨rfl,⟨q1,q2⟩,hr⟩;by_cases hlt:i<p.files.length
 ·obtain ⟨f,ha,hfi,hdr,hget,_⟩:=ac7 p.files i hlt;have c1:(i:Int)<p.files.length:=om
  have c2:(0:Int)<=i:=om
  have w1:=ac2 (i:=i) (by have:=hf.files.1; omega);by_cases h0:0<i
  ·have c0:(0:Int)<i:=om
   obtain ⟨a,ha1,ha2⟩:=de4 h0 hdr;have hget':(p.files.map bh4).getD (i-1) []=bh4 a:=by simp[List.getD_eq_getElem?_getD,ha1]
   have w0:IntKind.i64.wrap ((i:Int)-1)=((i-1:Nat):Int):=by
    have:=hf.files.1;rw[wrap64 om om]; omega
   have c3:(0:Int)<=((i-1:Nat):Int):=om
   have c4:((i-1:Nat):Int)<p.files.length:=om
   rw[ha2] at hr;simp only[go_sem,c0,c1,c2,c3,c4,w0,w1,hget,hget',bh4,aa3.cs]
   cases hb:Op.bytesLess a f with
   | true=>
    rw[hb,zh] at hr;simp only[go_sem,w1]
    exact ⟨hlt,⟨q1,q2⟩,hr⟩
   | false=>
    rw[hb,z4] at hr;simp only[go_sem,q1,hr];exact ab3 _
  ·have c0:¬ (0:Int)<i:=om
   simp only[go_sem,c0,c1,c2,w1,hget,bh4];refine ⟨hlt,⟨q1,q2⟩,?_⟩;have:i=0:=om
   subst this; exact hr
 ·have hi':i=p.files.length:=om
  subst hi';have c1:¬ (p.files.length:Int)<p.files.length:=om
  have hrt:rising p.files=true:=by
   rw[hr]
   cases hl:p.files.drop (p.files.length-1) with
   | nil=>rfl
   | cons x l=>
    have h1:=congrArg List.length hl;rw[zr,zv] at h1;have h2:l=[]:=List.length_eq_zero_iff.1 om;rw[h2]; rfl
  rw[hrt,zh];simp only[go_sem,c1,ag5,ag9];refine aa2 fok166 (id4 p) ?_;simp only[go_sem];have e0:¬ 0=s.next:=om
  have e1:¬ s.next=0:=om
  refine dw2 (ga5 p) (fun rest s=>(0<s.next/\s.obj 0=zd (.cells [.bool false]))/\∃ ts:List (Int×List aa6),rest=ts.map fh5/\(∀ x∈ts,x∈p.rows)/\(p.rows.all fun x:Int×List aa6=>ae6 x.2 x.1)=ts.all fun x:Int×List aa6=>ae6 x.2 x.1) (fun _ _ h=>trivial) ?_ ?_ ?_ ?_ ?_
  ·rintro rest s s' ⟨⟨q1,q2⟩,q4⟩ hn' hs';exact ⟨⟨om,by rw[hs' 0 q1]; exact q2⟩,q4⟩
  ·intro a ha;obtain ⟨x,_,rfl⟩:=zm.1 ha;rfl
  ·intro o;exact ⟨⟨by show 0<s.next+1; omega,by simp only[aa5,e0,if_false]; exact q1⟩,_,rfl,fun x hx=>hx,rfl⟩
  ·rintro L pre a rest t hev ⟨⟨q3,q4⟩,ts,hts,hin,hall⟩ hL hlt
   cases ts with
   | nil=>cases hts
   | cons x ts=>
    simp only[zy,List.cons.injEq] at hts;obtain ⟨rfl,rfl⟩:=hts;obtain ⟨wh,l⟩:=x;simp only[z7] at hall;have hfx:=hf.rich _ (hin _ (zs ..));have hin':∀ y∈ts,y∈p.rows:=fun y hy=>hin y (zn _ hy)
    have u0:¬ 0=t.next:=om
    have u1:¬ s.next=t.next:=om
    have u2:¬ t.next=s.next:=om
    have u3:¬ t.next=0:=om
    simp only[fh5,go_sem,hL,q4,e0,e1,u0,u1,u2,u3];refine ag1 fok167 (be6 (args':=[ai9 l,.int .i64 32,.func (.func 168) [] [.ab8 [.int .u8 wh]]]) hE rfl ?_ (by unfold IV.plain; rfl) (id5 l wh (qf hfx.1 (by decide)) hfx.2)) ?_
    ·intro i hi
     match i,hi with
     | 0,_=>exact .keep _ (ak8 l)
     | 1,_=>exact .keep _ (.int _ _)
     | 2,_=>exact gu7 (by simp only[aa5,u2,if_false,if_true]) (af1 (.int _ _))
    ·rintro v s2 ⟨rfl,rfl⟩;refine ⟨zb _,?_⟩
     cases hok:ae6 l wh with
     | true=>
      simp only[go_sem]
      refine er1 (by simp only[ab7]; omega) (by simp only[aa5,if_true]) ⟨⟨by simp only[ab7]; omega,by simp only[aa5,e0,u0,if_false]; exact q4⟩,ts,rfl,hin',by rw[hall,hok,zh]⟩
     | false=>
      simp only[go_sem,q4,e0,e1,u0,u1,u2,u3];refine db2 (by simp only[ab7]; omega) (by simp only[aa5,if_true]) ?_;simp only[go_sem,e0,u0];rw[hall,hok]; exact ab3 _
  ·rintro t o ⟨⟨q3,q4⟩,ts,hts,_,hall⟩ hlt ho;have:ts=[]:=by cases ts with|nil=>rfl|cons _ _=>cases hts
   subst this;rw[hall];simp only[go_sem,e0,q4,z8];exact ab3 _
end Go.Id.Tryz
namespace Go.Id.Tryz
open Go Go.Id Go.Proofs Go.Id.Md
def ae1 (n:Int):List IV:=[.int .i64 n]
theorem ad3 (l:List Int):Bnd 0 (.aa4 (l.map ae1)):=.aa4 _ fun e he c hc=>by
 obtain ⟨d,_,rfl⟩:=zm.1 he; cases hc with|head=>exact .int _ _|tail _ h=>cases h
theorem al3 {es:List (List IV)}(h:Bnd 0 (.aa4 es)):∀ e∈es,∀ c∈e,Bnd 0 c:=by
 cases h with|aa4 _ h=>exact h
theorem de5 (xs:List Dep)(hn:xs.length<=2147483648):PC Tryz.prog EE 170 [.aa4 (xs.map Dep.cs)] (.aa4 (xs.map Dep.cs)):=by
 cases hx:xs with
 | nil=>
  rw[zt];refine bq5 ?_ ?_
  ·refine ad9 hE fok170 (nZ rfl) (af1 .aa1) ?_;simp only[ic170,go_sem,aj6];exact .by5
  ·refine ad9 hE fok170 (nZ rfl) (af1 .ag8) ?_;simp only[ic170,go_sem,aj6];rw[bg8 (by simp only[aa5,if_true]) rfl];simp only[go_sem]
   exact .di9 _ _ _ (by simp only[aa5,if_true]; exact fun h=>(by cases h))
 | cons a as'=>
  have hne:xs.map Dep.cs≠[]:=by rw[hx]; exact fun h=>(by cases h)
  have hall:∀ e∈xs.map Dep.cs,e.length=5/\e.all IV.leaf=true:=fun e he=>by
   obtain ⟨x,_,rfl⟩:=zm.1 he;exact ⟨ak2 x,ag7 x⟩
  have hnil:by9 (.slice 0) (.aa4 (xs.map Dep.cs))=zd false:=by rw[hx]; rfl
  rw[<- hx];refine ad9 hE fok170 (nZ rfl) (af1 (cf8 xs)) ?_;have hnil:∀ d,by9 (.slice d) (.aa4 (xs.map Dep.cs))=zd false:=fun d=>by rw[hx]; rfl
  simp only[ic170,go_sem,aj6,hnil];rw[bz8 (by simp only[aa5,if_true]) hne hall (by rw[za]; exact hn)];simp only[go_sem];refine Grow.frz (esz:=5) (es:=xs.map Dep.cs) (.inr ⟨1,by rw[za],by simp only[aa5,if_true],qb _⟩) (fun x hx=>(hall x hx).1) (fun _ _=>zu _) (al3 (cf8 xs))
theorem ex4 (xs:List Str)(hn:xs.length<=2147483648):PC Tryz.prog EE 171 [.aa4 (xs.map bh4)] (.aa4 (xs.map bh4)):=by
 cases hx:xs with
 | nil=>
  rw[zt];refine bq5 ?_ ?_
  ·refine ad9 hE fok171 (nZ rfl) (af1 .aa1) ?_;simp only[ic171,go_sem,aj6];exact .by5
  ·refine ad9 hE fok171 (nZ rfl) (af1 .ag8) ?_;simp only[ic171,go_sem,aj6];rw[bg8 (by simp only[aa5,if_true]) rfl];simp only[go_sem]
   exact .di9 _ _ _ (by simp only[aa5,if_true]; exact fun h=>(by cases h))
 | cons a as'=>
  have hne:xs.map bh4≠[]:=by rw[hx]; exact fun h=>(by cases h)
  have hall:∀ e∈xs.map bh4,e.length=1/\e.all IV.leaf=true:=fun e he=>by
   obtain ⟨x,_,rfl⟩:=zm.1 he;exact ⟨rfl,rfl⟩
  have hnil:by9 (.slice 0) (.aa4 (xs.map bh4))=zd false:=by rw[hx]; rfl
  rw[<- hx];refine ad9 hE fok171 (nZ rfl) (af1 (cy8 xs)) ?_;have hnil:∀ d,by9 (.slice d) (.aa4 (xs.map bh4))=zd false:=fun d=>by rw[hx]; rfl
  simp only[ic171,go_sem,aj6,hnil];rw[bz8 (by simp only[aa5,if_true]) hne hall (by rw[za]; exact hn)];simp only[go_sem];refine Grow.frz (esz:=1) (es:=xs.map bh4) (.inr ⟨1,by rw[za],by simp only[aa5,if_true],qb _⟩) (fun x hx=>(hall x hx).1) (fun _ _=>zu _) (al3 (cy8 xs))
theorem ar6 (xs:List aa6):∀ e∈xs.map aa6.cs,e.length=7/\e.all IV.leaf=true:=fun e he=>by
 obtain ⟨x,_,rfl⟩:=zm.1 he;exact ⟨ab5 x,ab6 x⟩
def ex5:List IV:=[.int .u8 0,.str [],.int .u8 0,.int .i64 0,.str [],.str [],.aa1]
theorem ax5 (r:aa6):r.fit->PC Tryz.prog EE 173 [.agg r.cs] (.agg r.cs):=by
 induction r using aa6.ind with
 | h k d xs ih=>
  intro hf;obtain ⟨f1,f2,f3,f4,f5⟩:=aa6.bc6.1 hf;refine ad9 hE fok173 (nZ rfl) (af1 (ae9 _)) ?_;rw[aa6.ak5];simp only[ic173,go_sem,aa6.kind,aa6.dep,aa6.args,cd5];refine ab2 noT (fun i fr s=>fr=[(2,.ptr 0 0),(3,.ptr 1 0),(12,.aa4 (xs.map aa6.cs)),(13,.int .i64 xs.length),(14,.int .i64 i)]/\∃ v,s.obj 0=zd (.cells ex5)/\s.obj 1=zd (.cells [.int .u8 k,.str d.name,.int .u8 d.op,.int .i64 d.evr.ai5,.str d.evr.ver,.str d.evr.rel,v])/\Grow s v 7 ((xs.take i).map aa6.cs)/\1<s.next) xs.length ⟨rfl,.aa1,?_,?_,.inl ⟨rfl,rfl⟩,?_⟩ ?_
  ·simp only[aa5,reduceCtorEq,zp,zq,zg,zl,zf,zj,zi,zo,ze,decide_true,decide_false,↓reduceIte,if_true,if_false]; rfl
  ·simp only[aa5,reduceCtorEq,zp,zq,zg,zl,zf,zj,zi,zo,ze,decide_true,decide_false,↓reduceIte,if_true,if_false]
  ·show 1<2; omega
  rintro i fr s hle ⟨rfl,v,q0,q1,hg,hn⟩;by_cases hlt:i<xs.length
  ·obtain ⟨a,ha,_,hdr,hget,htk⟩:=ac7 xs i hlt;have c1:(i:Int)<xs.length:=om
   have c2:(0:Int)<=i:=om
   have w1:=ac2 (i:=i) om;have u0:¬ 1=s.next:=om
   have u1:¬ 0=s.next:=om
   simp only[go_sem,c1,c2,hget,ab5,ac8,ab6,q1,u0,cd5];refine aa8 (ih a ha (f5 a ha)) ?_;simp only[go_sem,ab5,ac8,ab6]
   have hg1:Grow ⟨s.next+1+8,((Store.put ⟨s.next+1,s.obj⟩ s.next (al9.cells ex5)).put s.next (al9.cells a.cs)).obj⟩ v 7 ((xs.take i).map aa6.cs):=hg.mono (by show s.next<=s.next+1+8; omega) fun id _ hid=>by
    have:¬ id=s.next:=om
    simp only[aa5,this,if_false]
   have hl0:((xs.take i).map aa6.cs).length=i:=by rw[za,List.length_take]; omega
   have ha2:=al6 (nid:=s.next+1+1+1+1+1+1) (e:=a.cs) hg1 (ar6 _) ⟨ab5 a,ab6 a⟩ (by rw[hl0]; omega);have k1:=ag3 hg1 1 (.cells [.int .u8 k,.str d.name,.int .u8 d.op,.int .i64 d.evr.ai5,.str d.evr.ver,.str d.evr.rel,v]) (by simp only[aa5,u0,if_false]; exact q1) (fun _ h=>by cases h);have k0:=ag3 hg1 0 (.cells ex5) (by simp only[aa5,u1,if_false]; exact q0) (fun _ h=>by cases h);have kn:=ae7 (σ:=⟨s.next+1+8,((Store.put ⟨s.next+1,s.obj⟩ s.next (al9.cells ex5)).put s.next (al9.cells a.cs)).obj⟩) v;simp only[ex5] at ha2 k1 k0 kn;rw[ha2,hl0];have u2:¬ 1=s.next+1+1+1+1+1+1:=om
   have u3:¬ 0=s.next+1+1+1+1+1+1:=om
   have u4:¬ s.next+1+1+1+1+1+1=1:=om
   simp only[go_sem,u2,k1,w1];refine ⟨hlt,_,?_,rfl,?_,?_⟩
   ·simp only[u3,if_false,ex5]; exact k0
   ·rw[htk,List.map_append,zy,zt];refine .inr ⟨_,by rw[qe,hl0]; rfl,?_,?_⟩
    ·simp only[aa5,u4,if_false,if_true]
    ·simp only[ab7,kn]; omega
   ·rw[kn]; show 1<s.next+1+8; omega
  ·have hi':i=xs.length:=om
   subst hi';have c1:¬ (xs.length:Int)<xs.length:=om
   rw[z9] at hg
   have hvl:v.leaf=true:=by
    rcases hg with ⟨rfl,_⟩|⟨id,rfl,_⟩<;>rfl
   simp only[go_sem,c1,q0,q1,cd5,ex5,hvl];refine .agg _ _ rfl fun j hj=>?_
   have:j=0\/j=1\/j=2\/j=3\/j=4\/j=5\/j=6:=by
    simp only[zv,List.length_nil] at hj; omega
   rcases this with rfl|rfl|rfl|rfl|rfl|rfl|rfl
   ·exact ad5 _ _
   ·exact bm9 _
   ·exact ad5 _ _
   ·exact ad5 _ _
   ·exact bm9 _
   ·exact bm9 _
   ·have hne:∀ id,v=.slice id 0 (xs.map aa6.cs).length 7->id≠0:=fun id hv=>hg.ne hv q0 (fun _ h=>by cases h)
    refine Grow.frz (hg.mono (zb _) fun id hv _=>?_) (fun x hx=>(ar6 xs x hx).1) (fun _ _=>zu _) (al3 (ak8 xs));have:¬ id=0:=hne id hv;simp only[aa5,this,if_false]
theorem ba2 (xs:List aa6)(σ:Store)(hn:xs.length<=2147483648):C Tryz.prog EE 172 [.aa4 (xs.map aa6.cs)] σ fun v s=>(∀ i,i<σ.next->s.obj i=σ.obj i)/\σ.next<=s.next/\Grow s v 7 (xs.map aa6.cs)/\∀ id,v=.slice id 0 xs.length 7->σ.next<=id:=by
 cases hx:xs with
 | nil=>
  rw[zt];refine dw3 ?_ ?_
  ·refine C_f fok172 (nZ rfl) ?_;simp only[ic172,go_sem,aj6];exact ⟨fun _ _=>trivial,zb _,.inl ⟨rfl,rfl⟩,fun id h=>by cases h⟩
  ·refine C_f fok172 (nZ rfl) ?_;simp only[ic172,go_sem,aj6];rw[bg8 (by simp only[aa5,if_true]) rfl];simp only[go_sem];refine ⟨fun i hi=>?_,om,.inr ⟨σ.next,rfl,by simp only[aa5,if_true]; rfl,by show σ.next<σ.next+2; omega⟩,fun id h=>by cases h; exact zb _⟩;have:¬ i=σ.next:=om
   simp only[this,if_false]
 | cons a as'=>
  have hne:xs.map aa6.cs≠[]:=by rw[hx]; exact fun h=>(by cases h)
  rw[<- hx];refine C_f fok172 (nZ rfl) ?_;have hnil:∀ d,by9 (.slice d) (.aa4 (xs.map aa6.cs))=zd false:=fun d=>by rw[hx]; rfl
  simp only[ic172,go_sem,aj6,hnil];rw[bz8 (by simp only[aa5,if_true]) hne (ar6 xs) (by rw[za]; exact hn)];simp only[go_sem];refine ⟨fun i hi=>?_,om,.inr ⟨σ.next+1,by rw[za],by simp only[aa5,if_true],by show σ.next+1<σ.next+2; omega⟩,fun id h=>by cases h; omega⟩;have h1:¬ i=σ.next:=om
  have h2:¬ i=σ.next+1:=om
  simp only[h1,h2,if_false]
def ar7 (s:Store)(done:Prop)(v:IV)(l:List aa6):Prop:=(done/\Grow s v 7 (l.map aa6.cs))\/(¬ done/\v=ai9 l)
theorem ar7.mono {s s':Store}{done done':Prop}{v:IV}{l:List aa6}(h:ar7 s done v l)(hd:done↔done')(hn:s.next<=s'.next)(ho:∀ id cs,id<s.next->s.obj id=zd (.row cs)->s'.obj id=zd (.row cs)):ar7 s' done' v l:=by
 rcases h with ⟨h1,h2⟩|⟨h1,h2⟩
 ·refine .inl ⟨hd.1 h1,?_⟩;rcases h2 with h2|⟨id,hv,hr,hlt⟩
  ·exact .inl h2
  ·exact .inr ⟨id,hv,ho _ _ hlt hr,qf hlt hn⟩
 ·exact .inr ⟨fun h=>h1 (hd.2 h),h2⟩
theorem ar7.leaf {s:Store}{done:Prop}{v:IV}{l:List aa6}(h:ar7 s done v l):v.leaf=true:=by
 rcases h with ⟨_,⟨rfl,_⟩|⟨id,rfl,_⟩⟩|⟨_,rfl⟩<;>rfl
def pcs (p:aa3)(v7 v8 v10 v11 v12 v13:IV):List IV :=
 [.str p.name,.int .i64 p.evr.ai5,.str p.evr.ver,.str p.evr.rel,.int .u8 p.ap9,.str p.vendor,deps p.provides,v7,v8,deps p.aa7,v10,v11,v12,v13,strs p.files]
def bh9:List IV:=[.str [],.int .i64 0,.str [],.str [],.int .u8 0,.str [],.aa1,.aa1,.aa1,.aa1,.aa1,.aa1,.aa1,.aa1,.aa1]
def cr6:List (List IV):=[[.ptr 0 7],[.ptr 0 8],[.ptr 0 10],[.ptr 0 11],[.ptr 0 12],[.ptr 0 13]]
theorem dt2 (p:aa3)(hf:p.Fit):PC Tryz.prog EE 99 [.agg p.cs] (.agg p.cs):=by
 refine ad9 hE fok99 (nZ rfl) (af1 (al2 _)) ?_;simp only[ic99,go_sem,ad6,aa3.cs,bp3];refine aa8 (de5 p.provides (by have:=hf.ax9.1; omega)) ?_;simp only[go_sem,bp3];refine aa8 (de5 p.aa7 (by have:=hf.obs.1; omega)) ?_;simp only[go_sem,bp3];refine aa8 (ex4 p.files (by have:=hf.files.1; omega)) ?_;simp only[go_sem,bp3]
 refine ab2 noT (fun i fr s=>fr=[(1,.ptr 0 0),(2,.ptr 1 0),(25,.aa4 cr6),(26,.int .i64 6),(27,.int .i64 i)]/\(s.obj 1=zd (.cells bh9)/\1<s.next)/\∃ v7 v8 v10 v11 v12 v13,s.obj 0=zd (.cells (pcs p v7 v8 v10 v11 v12 v13)) /\
  ar7 s (0<i) v7 p.requires/\ar7 s (1<i) v8 p.conflicts/\ar7 s (2<i) v10 p.ac6/\ar7 s (3<i) v11 p.ac1/\ar7 s (4<i) v12 p.suggests/\ar7 s (5<i) v13 p.af4) 6 ?_ ?_
 ·refine ⟨rfl,⟨?_,?_⟩,_,_,_,_,_,_,?_,.inr ⟨om,rfl⟩,.inr ⟨om,rfl⟩,.inr ⟨om,rfl⟩,.inr ⟨om,rfl⟩,.inr ⟨om,rfl⟩,.inr ⟨om,rfl⟩⟩
  ·simp only[aa5,reduceCtorEq,zp,zq,zg,zl,zf,zj,zi,zo,ze,decide_true,decide_false,↓reduceIte,if_true,if_false]; rfl
  ·simp only[ab7]; omega
  ·simp only[aa5,reduceCtorEq,zp,zq,zg,zl,zf,zj,zi,zo,ze,decide_true,decide_false,↓reduceIte,if_true,if_false]; rfl
 rintro i fr s hle ⟨rfl,⟨q1,hn⟩,v7,v8,v10,v11,v12,v13,q0,o7,o8,o10,o11,o12,o13⟩;by_cases hlt:i<6
 ·have hcase:i=0\/i=1\/i=2\/i=3\/i=4\/i=5:=om
  rcases hcase with rfl|rfl|rfl|rfl|rfl|rfl
  ·have hv:v7=ai9 p.requires:=by
    rcases o7 with ⟨h,_⟩|⟨_,h⟩
    ·exact absurd h om
    ·exact h
   subst hv;have hfl:p.requires.length<2^31/\∀ r∈p.requires,r.fit/\r.count<2^31:=hf.rich (1,p.requires) (by simp[aa3.rows]);simp only[go_sem,cr6,q0,pcs,bp3];refine ag1 fok172 (ba2 p.requires _ (by have:=hfl.1; omega)) ?_;rintro v s2 ⟨hs2,hn2,hg,hid⟩;refine ⟨hn2,?_⟩;have q02:s2.obj 0=zd (.cells (pcs p (ai9 p.requires) v8 v10 v11 v12 v13)):=by rw[hs2 0 om]; exact q0
   have q12:s2.obj 1=zd (.cells bh9):=by rw[hs2 1 om]; exact q1
   have hvl:v.leaf=true:=by rcases hg with ⟨rfl,_⟩|⟨id,rfl,_⟩<;>rfl
   have hvc:v.cs=[v]:=by rcases hg with ⟨rfl,_⟩|⟨id,rfl,_⟩<;>rfl
   have hlen:∀ s,ch9 0 s v=zd (.int .i64 (p.requires.length:Nat)):=fun s=>by
    rcases hg with ⟨rfl,he⟩|⟨id,rfl,_⟩
    ·have:p.requires=[]:=by simpa using he
     rw[this]; rfl
    ·rw[bo7,za]
   simp only[go_sem,q02,pcs,hvl,hvc,hlen]
   refine ab2 noT (fun j fr t=>fr=[(1,.ptr 0 0),(2,.ptr 1 0),(4,.ptr 0 7),(25,.aa4 cr6),(26,.int .i64 6),(27,.int .i64 0),(39,v),(40,.int .i64 p.requires.length),(41,.int .i64 j)] /\
    s2.next<=t.next/\t.obj 0=zd (.cells (pcs p v v8 v10 v11 v12 v13))/\t.obj 1=zd (.cells bh9)/\∀ id cs,id<s2.next->s2.obj id=zd (.row cs)->t.obj id=zd (.row cs)) p.requires.length ⟨rfl,zb _,?_,?_,?_⟩ ?_
   ·simp only[aa5,if_true]; rfl
   ·simp only[aa5,reduceCtorEq,zp,zq,zg,zl,zf,zj,zi,zo,ze,decide_true,decide_false,↓reduceIte,if_false]; exact q12
   ·intro id cs hlt' h;have:¬ id=0:=fun e=>by subst e; rw[q02] at h; cases h
    simp only[aa5,this,if_false]; exact h
   rintro j fr t hle' ⟨rfl,t0,t1,t2,t3⟩;by_cases hjl:j<p.requires.length
   ·obtain ⟨a,ha,_,hdr,hget,_⟩:=ac7 p.requires j hjl;rcases hg with ⟨_,he⟩|⟨id,rfl,ho,hil⟩
    ·have:p.requires=[]:=by simpa using he
     rw[this] at hjl; cases hjl
    have hrow:=t3 _ _ hil ho;have c1:(j:Int)<p.requires.length:=om
    have c2:(0:Int)<=j:=om
    have w1:=ac2 (i:=j) (by have:=hfl.1; omega);have hid0:¬ id=0:=fun e=>by subst e; rw[t1] at hrow; cases hrow
    have hid1:¬ id=1:=fun e=>by subst e; rw[t2] at hrow; cases hrow
    have u0:¬ 0=t.next:=om
    have u1:¬ 1=t.next:=om
    have u2:¬ id=t.next:=om
    have u3:¬ t.next=id:=om
    have u4:¬ 0=id:=om
    have u5:¬ 1=id:=om
    have hall:=fun x hx=>(ar6 p.requires x hx).1
    have hfl2:=an4 hall;have hpart:=ax8 hall j (by rw[za]; exact hjl);rw[hget] at hpart;rw[za] at hfl2;have hin:7<=((p.requires.map aa6.cs).flatten.drop (j*7)).length:=by rw[zr,hfl2]; omega
    have hin2:j*7+7<=(p.requires.map aa6.cs).flatten.length:=by rw[hfl2]; omega
    have hsame:ay4 (p.requires.map aa6.cs).flatten (j*7) a.cs=(p.requires.map aa6.cs).flatten:=bj8 (by rw[ab5]; exact hpart) (by rw[ab5]; exact hin2);simp only[go_sem,c1,c2,hrow,hin,hpart,cv3,ab5,ab6,ac8,t1,pcs,u0,u2,u3,hid0];refine aa8 (ax5 a (hfl.2 a ha).1) ?_;simp only[go_sem,c1,c2,hrow,hin2,cv4,ab5,ab6,hsame,t1,pcs,u0,u2,w1];refine ⟨hjl,om,?_,?_,?_⟩
    ·simp only[u4,if_false]
    ·simp only[u5,u1,if_false]; exact t2
    ·intro id' cs hlt' h;have h':=t3 id' cs hlt' h;have u6:¬ id'=t.next:=om
     by_cases e:id'=id
     ·subst e;rw[hrow] at h';simp only[if_true]; exact h'
     ·simp only[e,u6,if_false]; exact h'
   ·have hj':j=p.requires.length:=om
    subst hj';have c1:¬ (p.requires.length:Int)<p.requires.length:=om
    have hgt:Grow t v 7 (p.requires.map aa6.cs):=by
     rcases hg with h|⟨id,rfl,ho,hil⟩
     ·exact .inl h
     ·exact .inr ⟨id,rfl,t3 _ _ hil ho,om⟩
    have hrows:∀ id cs,id<s.next->s.obj id=zd (.row cs)->t.obj id=zd (.row cs):=fun id cs hlt' h=>t3 id cs om (by rw[hs2 id hlt']; exact h)
    have mm:∀ {d d':Prop} (u:IV) (l:List aa6),ar7 s d u l->(d↔d')->ar7 t d' u l:=fun u l h hd=>h.mono hd om hrows
    simp only[go_sem,c1];exact ⟨rfl,⟨t2,om⟩,v,v8,v10,v11,v12,v13,t1,.inl ⟨by simp,hgt⟩,mm _ _ o8 (by simp),mm _ _ o10 (by simp),mm _ _ o11 (by simp),mm _ _ o12 (by simp),mm _ _ o13 (by simp)⟩
  ·have hv:v8=ai9 p.conflicts:=by
    rcases o8 with ⟨h,_⟩|⟨_,h⟩
    ·exact absurd h om
    ·exact h
   subst hv;have hfl:p.conflicts.length<2^31/\∀ r∈p.conflicts,r.fit/\r.count<2^31:=hf.rich (2,p.conflicts) (by simp[aa3.rows]);simp only[go_sem,cr6,q0,pcs,bp3];refine ag1 fok172 (ba2 p.conflicts _ (by have:=hfl.1; omega)) ?_;rintro v s2 ⟨hs2,hn2,hg,hid⟩;refine ⟨hn2,?_⟩;have q02:s2.obj 0=zd (.cells (pcs p v7 (ai9 p.conflicts) v10 v11 v12 v13)):=by rw[hs2 0 om]; exact q0
   have q12:s2.obj 1=zd (.cells bh9):=by rw[hs2 1 om]; exact q1
   have hvl:v.leaf=true:=by rcases hg with ⟨rfl,_⟩|⟨id,rfl,_⟩<;>rfl
   have hvc:v.cs=[v]:=by rcases hg with ⟨rfl,_⟩|⟨id,rfl,_⟩<;>rfl
   have hlen:∀ s,ch9 0 s v=zd (.int .i64 (p.conflicts.length:Nat)):=fun s=>by
    rcases hg with ⟨rfl,he⟩|⟨id,rfl,_⟩
    ·have:p.conflicts=[]:=by simpa using he
     rw[this]; rfl
    ·rw[bo7,za]
   simp only[go_sem,q02,pcs,hvl,hvc,hlen]
   refine ab2 noT (fun j fr t=>fr=[(1,.ptr 0 0),(2,.ptr 1 0),(4,.ptr 0 8),(25,.aa4 cr6),(26,.int .i64 6),(27,.int .i64 1),(39,v),(40,.int .i64 p.conflicts.length),(41,.int .i64 j)] /\
    s2.next<=t.next/\t.obj 0=zd (.cells (pcs p v7 v v10 v11 v12 v13))/\t.obj 1=zd (.cells bh9)/\∀ id cs,id<s2.next->s2.obj id=zd (.row cs)->t.obj id=zd (.row cs)) p.conflicts.length ⟨rfl,zb _,?_,?_,?_⟩ ?_
   ·simp only[aa5,if_true]; rfl
   ·simp only[aa5,reduceCtorEq,zp,zq,zg,zl,zf,zj,zi,zo,ze,decide_true,decide_false,↓reduceIte,if_false]; exact q12
   ·intro id cs hlt' h;have:¬ id=0:=fun e=>by subst e; rw[q02] at h; cases h
    simp only[aa5,this,if_false]; exact h
   rintro j fr t hle' ⟨rfl,t0,t1,t2,t3⟩;by_cases hjl:j<p.conflicts.length
   ·obtain ⟨a,ha,_,hdr,hget,_⟩:=ac7 p.conflicts j hjl;rcases hg with ⟨_,he⟩|⟨id,rfl,ho,hil⟩
    ·have:p.conflicts=[]:=by simpa using he
     rw[this] at hjl; cases hjl
    have hrow:=t3 _ _ hil ho;have c1:(j:Int)<p.conflicts.length:=om
    have c2:(0:Int)<=j:=om
    have w1:=ac2 (i:=j) (by have:=hfl.1; omega);have hid0:¬ id=0:=fun e=>by subst e; rw[t1] at hrow; cases hrow
    have hid1:¬ id=1:=fun e=>by subst e; rw[t2] at hrow; cases hrow
    have u0:¬ 0=t.next:=om
    have u1:¬ 1=t.next:=om
    have u2:¬ id=t.next:=om
    have u3:¬ t.next=id:=om
    have u4:¬ 0=id:=om
    have u5:¬ 1=id:=om
    have hall:=fun x hx=>(ar6 p.conflicts x hx).1
    have hfl2:=an4 hall;have hpart:=ax8 hall j (by rw[za]; exact hjl);rw[hget] at hpart;rw[za] at hfl2;have hin:7<=((p.conflicts.map aa6.cs).flatten.drop (j*7)).length:=by rw[zr,hfl2]; omega
    have hin2:j*7+7<=(p.conflicts.map aa6.cs).flatten.length:=by rw[hfl2]; omega
    have hsame:ay4 (p.conflicts.map aa6.cs).flatten (j*7) a.cs=(p.conflicts.map aa6.cs).flatten:=bj8 (by rw[ab5]; exact hpart) (by rw[ab5]; exact hin2);simp only[go_sem,c1,c2,hrow,hin,hpart,cv3,ab5,ab6,ac8,t1,pcs,u0,u2,u3,hid0];refine aa8 (ax5 a (hfl.2 a ha).1) ?_;simp only[go_sem,c1,c2,hrow,hin2,cv4,ab5,ab6,hsame,t1,pcs,u0,u2,w1];refine ⟨hjl,om,?_,?_,?_⟩
    ·simp only[u4,if_false]
    ·simp only[u5,u1,if_false]; exact t2
    ·intro id' cs hlt' h;have h':=t3 id' cs hlt' h;have u6:¬ id'=t.next:=om
     by_cases e:id'=id
     ·subst e;rw[hrow] at h';simp only[if_true]; exact h'
     ·simp only[e,u6,if_false]; exact h'
   ·have hj':j=p.conflicts.length:=om
    subst hj';have c1:¬ (p.conflicts.length:Int)<p.conflicts.length:=om
    have hgt:Grow t v 7 (p.conflicts.map aa6.cs):=by
     rcases hg with h|⟨id,rfl,ho,hil⟩
     ·exact .inl h
     ·exact .inr ⟨id,rfl,t3 _ _ hil ho,om⟩
    have hrows:∀ id cs,id<s.next->s.obj id=zd (.row cs)->t.obj id=zd (.row cs):=fun id cs hlt' h=>t3 id cs om (by rw[hs2 id hlt']; exact h)
    have mm:∀ {d d':Prop} (u:IV) (l:List aa6),ar7 s d u l->(d↔d')->ar7 t d' u l:=fun u l h hd=>h.mono hd om hrows
    simp only[go_sem,c1];exact ⟨rfl,⟨t2,om⟩,v7,v,v10,v11,v12,v13,t1,mm _ _ o7 (by simp),.inl ⟨by simp,hgt⟩,mm _ _ o10 (by simp),mm _ _ o11 (by simp),mm _ _ o12 (by simp),mm _ _ o13 (by simp)⟩
  ·have hv:v10=ai9 p.ac6:=by
    rcases o10 with ⟨h,_⟩|⟨_,h⟩
    ·exact absurd h om
    ·exact h
   subst hv;have hfl:p.ac6.length<2^31/\∀ r∈p.ac6,r.fit/\r.count<2^31:=hf.rich (1,p.ac6) (by simp[aa3.rows]);simp only[go_sem,cr6,q0,pcs,bp3];refine ag1 fok172 (ba2 p.ac6 _ (by have:=hfl.1; omega)) ?_;rintro v s2 ⟨hs2,hn2,hg,hid⟩;refine ⟨hn2,?_⟩;have q02:s2.obj 0=zd (.cells (pcs p v7 v8 (ai9 p.ac6) v11 v12 v13)):=by rw[hs2 0 om]; exact q0
   have q12:s2.obj 1=zd (.cells bh9):=by rw[hs2 1 om]; exact q1
   have hvl:v.leaf=true:=by rcases hg with ⟨rfl,_⟩|⟨id,rfl,_⟩<;>rfl
   have hvc:v.cs=[v]:=by rcases hg with ⟨rfl,_⟩|⟨id,rfl,_⟩<;>rfl
   have hlen:∀ s,ch9 0 s v=zd (.int .i64 (p.ac6.length:Nat)):=fun s=>by
    rcases hg with ⟨rfl,he⟩|⟨id,rfl,_⟩
    ·have:p.ac6=[]:=by simpa using he
     rw[this]; rfl
    ·rw[bo7,za]
   simp only[go_sem,q02,pcs,hvl,hvc,hlen]
   refine ab2 noT (fun j fr t=>fr=[(1,.ptr 0 0),(2,.ptr 1 0),(4,.ptr 0 10),(25,.aa4 cr6),(26,.int .i64 6),(27,.int .i64 2),(39,v),(40,.int .i64 p.ac6.length),(41,.int .i64 j)] /\
    s2.next<=t.next/\t.obj 0=zd (.cells (pcs p v7 v8 v v11 v12 v13))/\t.obj 1=zd (.cells bh9)/\∀ id cs,id<s2.next->s2.obj id=zd (.row cs)->t.obj id=zd (.row cs)) p.ac6.length ⟨rfl,zb _,?_,?_,?_⟩ ?_
   ·simp only[aa5,if_true]; rfl
   ·simp only[aa5,reduceCtorEq,zp,zq,zg,zl,zf,zj,zi,zo,ze,decide_true,decide_false,↓reduceIte,if_false]; exact q12
   ·intro id cs hlt' h;have:¬ id=0:=fun e=>by subst e; rw[q02] at h; cases h
    simp only[aa5,this,if_false]; exact h
   rintro j fr t hle' ⟨rfl,t0,t1,t2,t3⟩;by_cases hjl:j<p.ac6.length
   ·obtain ⟨a,ha,_,hdr,hget,_⟩:=ac7 p.ac6 j hjl;rcases hg with ⟨_,he⟩|⟨id,rfl,ho,hil⟩
    ·have:p.ac6=[]:=by simpa using he
     rw[this] at hjl; cases hjl
    have hrow:=t3 _ _ hil ho;have c1:(j:Int)<p.ac6.length:=om
    have c2:(0:Int)<=j:=om
    have w1:=ac2 (i:=j) (by have:=hfl.1; omega);have hid0:¬ id=0:=fun e=>by subst e; rw[t1] at hrow; cases hrow
    have hid1:¬ id=1:=fun e=>by subst e; rw[t2] at hrow; cases hrow
    have u0:¬ 0=t.next:=om
    have u1:¬ 1=t.next:=om
    have u2:¬ id=t.next:=om
    have u3:¬ t.next=id:=om
    have u4:¬ 0=id:=om
    have u5:¬ 1=id:=om
    have hall:=fun x hx=>(ar6 p.ac6 x hx).1
    have hfl2:=an4 hall;have hpart:=ax8 hall j (by rw[za]; exact hjl);rw[hget] at hpart;rw[za] at hfl2;have hin:7<=((p.ac6.map aa6.cs).flatten.drop (j*7)).length:=by rw[zr,hfl2]; omega
    have hin2:j*7+7<=(p.ac6.map aa6.cs).flatten.length:=by rw[hfl2]; omega
    have hsame:ay4 (p.ac6.map aa6.cs).flatten (j*7) a.cs=(p.ac6.map aa6.cs).flatten:=bj8 (by rw[ab5]; exact hpart) (by rw[ab5]; exact hin2);simp only[go_sem,c1,c2,hrow,hin,hpart,cv3,ab5,ab6,ac8,t1,pcs,u0,u2,u3,hid0];refine aa8 (ax5 a (hfl.2 a ha).1) ?_;simp only[go_sem,c1,c2,hrow,hin2,cv4,ab5,ab6,hsame,t1,pcs,u0,u2,w1];refine ⟨hjl,om,?_,?_,?_⟩
    ·simp only[u4,if_false]
    ·simp only[u5,u1,if_false]; exact t2
    ·intro id' cs hlt' h;have h':=t3 id' cs hlt' h;have u6:¬ id'=t.next:=om
     by_cases e:id'=id
     ·subst e;rw[hrow] at h';simp only[if_true]; exact h'
     ·simp only[e,u6,if_false]; exact h'
   ·have hj':j=p.ac6.length:=om
    subst hj';have c1:¬ (p.ac6.length:Int)<p.ac6.length:=om
    have hgt:Grow t v 7 (p.ac6.map aa6.cs):=by
     rcases hg with h|⟨id,rfl,ho,hil⟩
     ·exact .inl h
     ·exact .inr ⟨id,rfl,t3 _ _ hil ho,om⟩
    have hrows:∀ id cs,id<s.next->s.obj id=zd (.row cs)->t.obj id=zd (.row cs):=fun id cs hlt' h=>t3 id cs om (by rw[hs2 id hlt']; exact h)
    have mm:∀ {d d':Prop} (u:IV) (l:List aa6),ar7 s d u l->(d↔d')->ar7 t d' u l:=fun u l h hd=>h.mono hd om hrows
    simp only[go_sem,c1];exact ⟨rfl,⟨t2,om⟩,v7,v8,v,v11,v12,v13,t1,mm _ _ o7 (by simp),mm _ _ o8 (by simp),.inl ⟨by simp,hgt⟩,mm _ _ o11 (by simp),mm _ _ o12 (by simp),mm _ _ o13 (by simp)⟩
  ·have hv:v11=ai9 p.ac1:=by
    rcases o11 with ⟨h,_⟩|⟨_,h⟩
    ·exact absurd h om
    ·exact h
   subst hv;have hfl:p.ac1.length<2^31/\∀ r∈p.ac1,r.fit/\r.count<2^31:=hf.rich (3,p.ac1) (by simp[aa3.rows]);simp only[go_sem,cr6,q0,pcs,bp3];refine ag1 fok172 (ba2 p.ac1 _ (by have:=hfl.1; omega)) ?_;rintro v s2 ⟨hs2,hn2,hg,hid⟩;refine ⟨hn2,?_⟩;have q02:s2.obj 0=zd (.cells (pcs p v7 v8 v10 (ai9 p.ac1) v12 v13)):=by rw[hs2 0 om]; exact q0
   have q12:s2.obj 1=zd (.cells bh9):=by rw[hs2 1 om]; exact q1
   have hvl:v.leaf=true:=by rcases hg with ⟨rfl,_⟩|⟨id,rfl,_⟩<;>rfl
   have hvc:v.cs=[v]:=by rcases hg with ⟨rfl,_⟩|⟨id,rfl,_⟩<;>rfl
   have hlen:∀ s,ch9 0 s v=zd (.int .i64 (p.ac1.length:Nat)):=fun s=>by
    rcases hg with ⟨rfl,he⟩|⟨id,rfl,_⟩
    ·have:p.ac1=[]:=by simpa using he
     rw[this]; rfl
    ·rw[bo7,za]
   simp only[go_sem,q02,pcs,hvl,hvc,hlen]
   refine ab2 noT (fun j fr t=>fr=[(1,.ptr 0 0),(2,.ptr 1 0),(4,.ptr 0 11),(25,.aa4 cr6),(26,.int .i64 6),(27,.int .i64 3),(39,v),(40,.int .i64 p.ac1.length),(41,.int .i64 j)] /\
    s2.next<=t.next/\t.obj 0=zd (.cells (pcs p v7 v8 v10 v v12 v13))/\t.obj 1=zd (.cells bh9)/\∀ id cs,id<s2.next->s2.obj id=zd (.row cs)->t.obj id=zd (.row cs)) p.ac1.length ⟨rfl,zb _,?_,?_,?_⟩ ?_
   ·simp only[aa5,if_true]; rfl
   ·simp only[aa5,reduceCtorEq,zp,zq,zg,zl,zf,zj,zi,zo,ze,decide_true,decide_false,↓reduceIte,if_false]; exact q12
   ·intro id cs hlt' h;have:¬ id=0:=fun e=>by subst e; rw[q02] at h; cases h
    simp only[aa5,this,if_false]; exact h
   rintro j fr t hle' ⟨rfl,t0,t1,t2,t3⟩;by_cases hjl:j<p.ac1.length
   ·obtain ⟨a,ha,_,hdr,hget,_⟩:=ac7 p.ac1 j hjl;rcases hg with ⟨_,he⟩|⟨id,rfl,ho,hil⟩
    ·have:p.ac1=[]:=by simpa using he
     rw[this] at hjl; cases hjl
    have hrow:=t3 _ _ hil ho;have c1:(j:Int)<p.ac1.length:=om
    have c2:(0:Int)<=j:=om
    have w1:=ac2 (i:=j) (by have:=hfl.1; omega);have hid0:¬ id=0:=fun e=>by subst e; rw[t1] at hrow; cases hrow
    have hid1:¬ id=1:=fun e=>by subst e; rw[t2] at hrow; cases hrow
    have u0:¬ 0=t.next:=om
    have u1:¬ 1=t.next:=om
    have u2:¬ id=t.next:=om
    have u3:¬ t.next=id:=om
    have u4:¬ 0=id:=om
    have u5:¬ 1=id:=om
    have hall:=fun x hx=>(ar6 p.ac1 x hx).1
    have hfl2:=an4 hall;have hpart:=ax8 hall j (by rw[za]; exact hjl);rw[hget] at hpart;rw[za] at hfl2;have hin:7<=((p.ac1.map aa6.cs).flatten.drop (j*7)).length:=by rw[zr,hfl2]; omega
    have hin2:j*7+7<=(p.ac1.map aa6.cs).flatten.length:=by rw[hfl2]; omega
    have hsame:ay4 (p.ac1.map aa6.cs).flatten (j*7) a.cs=(p.ac1.map aa6.cs).flatten:=bj8 (by rw[ab5]; exact hpart) (by rw[ab5]; exact hin2);simp only[go_sem,c1,c2,hrow,hin,hpart,cv3,ab5,ab6,ac8,t1,pcs,u0,u2,u3,hid0];refine aa8 (ax5 a (hfl.2 a ha).1) ?_;simp only[go_sem,c1,c2,hrow,hin2,cv4,ab5,ab6,hsame,t1,pcs,u0,u2,w1];refine ⟨hjl,om,?_,?_,?_⟩
    ·simp only[u4,if_false]
    ·simp only[u5,u1,if_false]; exact t2
    ·intro id' cs hlt' h;have h':=t3 id' cs hlt' h;have u6:¬ id'=t.next:=om
     by_cases e:id'=id
     ·subst e;rw[hrow] at h';simp only[if_true]; exact h'
     ·simp only[e,u6,if_false]; exact h'
   ·have hj':j=p.ac1.length:=om
    subst hj';have c1:¬ (p.ac1.length:Int)<p.ac1.length:=om
    have hgt:Grow t v 7 (p.ac1.map aa6.cs):=by
     rcases hg with h|⟨id,rfl,ho,hil⟩
     ·exact .inl h
     ·exact .inr ⟨id,rfl,t3 _ _ hil ho,om⟩
    have hrows:∀ id cs,id<s.next->s.obj id=zd (.row cs)->t.obj id=zd (.row cs):=fun id cs hlt' h=>t3 id cs om (by rw[hs2 id hlt']; exact h)
    have mm:∀ {d d':Prop} (u:IV) (l:List aa6),ar7 s d u l->(d↔d')->ar7 t d' u l:=fun u l h hd=>h.mono hd om hrows
    simp only[go_sem,c1];exact ⟨rfl,⟨t2,om⟩,v7,v8,v10,v,v12,v13,t1,mm _ _ o7 (by simp),mm _ _ o8 (by simp),mm _ _ o10 (by simp),.inl ⟨by simp,hgt⟩,mm _ _ o12 (by simp),mm _ _ o13 (by simp)⟩
  ·have hv:v12=ai9 p.suggests:=by
    rcases o12 with ⟨h,_⟩|⟨_,h⟩
    ·exact absurd h om
    ·exact h
   subst hv;have hfl:p.suggests.length<2^31/\∀ r∈p.suggests,r.fit/\r.count<2^31:=hf.rich (1,p.suggests) (by simp[aa3.rows]);simp only[go_sem,cr6,q0,pcs,bp3];refine ag1 fok172 (ba2 p.suggests _ (by have:=hfl.1; omega)) ?_;rintro v s2 ⟨hs2,hn2,hg,hid⟩;refine ⟨hn2,?_⟩;have q02:s2.obj 0=zd (.cells (pcs p v7 v8 v10 v11 (ai9 p.suggests) v13)):=by rw[hs2 0 om]; exact q0
   have q12:s2.obj 1=zd (.cells bh9):=by rw[hs2 1 om]; exact q1
   have hvl:v.leaf=true:=by rcases hg with ⟨rfl,_⟩|⟨id,rfl,_⟩<;>rfl
   have hvc:v.cs=[v]:=by rcases hg with ⟨rfl,_⟩|⟨id,rfl,_⟩<;>rfl
   have hlen:∀ s,ch9 0 s v=zd (.int .i64 (p.suggests.length:Nat)):=fun s=>by
    rcases hg with ⟨rfl,he⟩|⟨id,rfl,_⟩
    ·have:p.suggests=[]:=by simpa using he
     rw[this]; rfl
    ·rw[bo7,za]
   simp only[go_sem,q02,pcs,hvl,hvc,hlen]
   refine ab2 noT (fun j fr t=>fr=[(1,.ptr 0 0),(2,.ptr 1 0),(4,.ptr 0 12),(25,.aa4 cr6),(26,.int .i64 6),(27,.int .i64 4),(39,v),(40,.int .i64 p.suggests.length),(41,.int .i64 j)] /\
    s2.next<=t.next/\t.obj 0=zd (.cells (pcs p v7 v8 v10 v11 v v13))/\t.obj 1=zd (.cells bh9)/\∀ id cs,id<s2.next->s2.obj id=zd (.row cs)->t.obj id=zd (.row cs)) p.suggests.length ⟨rfl,zb _,?_,?_,?_⟩ ?_
   ·simp only[aa5,if_true]; rfl
   ·simp only[aa5,reduceCtorEq,zp,zq,zg,zl,zf,zj,zi,zo,ze,decide_true,decide_false,↓reduceIte,if_false]; exact q12
   ·intro id cs hlt' h;have:¬ id=0:=fun e=>by subst e; rw[q02] at h; cases h
    simp only[aa5,this,if_false]; exact h
   rintro j fr t hle' ⟨rfl,t0,t1,t2,t3⟩;by_cases hjl:j<p.suggests.length
   ·obtain ⟨a,ha,_,hdr,hget,_⟩:=ac7 p.suggests j hjl;rcases hg with ⟨_,he⟩|⟨id,rfl,ho,hil⟩
    ·have:p.suggests=[]:=by simpa using he
     rw[this] at hjl; cases hjl
    have hrow:=t3 _ _ hil ho;have c1:(j:Int)<p.suggests.length:=om
    have c2:(0:Int)<=j:=om
    have w1:=ac2 (i:=j) (by have:=hfl.1; omega);have hid0:¬ id=0:=fun e=>by subst e; rw[t1] at hrow; cases hrow
    have hid1:¬ id=1:=fun e=>by subst e; rw[t2] at hrow; cases hrow
    have u0:¬ 0=t.next:=om
    have u1:¬ 1=t.next:=om
    have u2:¬ id=t.next:=om
    have u3:¬ t.next=id:=om
    have u4:¬ 0=id:=om
    have u5:¬ 1=id:=om
    have hall:=fun x hx=>(ar6 p.suggests x hx).1
    have hfl2:=an4 hall;have hpart:=ax8 hall j (by rw[za]; exact hjl);rw[hget] at hpart;rw[za] at hfl2;have hin:7<=((p.suggests.map aa6.cs).flatten.drop (j*7)).length:=by rw[zr,hfl2]; omega
    have hin2:j*7+7<=(p.suggests.map aa6.cs).flatten.length:=by rw[hfl2]; omega
    have hsame:ay4 (p.suggests.map aa6.cs).flatten (j*7) a.cs=(p.suggests.map aa6.cs).flatten:=bj8 (by rw[ab5]; exact hpart) (by rw[ab5]; exact hin2);simp only[go_sem,c1,c2,hrow,hin,hpart,cv3,ab5,ab6,ac8,t1,pcs,u0,u2,u3,hid0];refine aa8 (ax5 a (hfl.2 a ha).1) ?_;simp only[go_sem,c1,c2,hrow,hin2,cv4,ab5,ab6,hsame,t1,pcs,u0,u2,w1];refine ⟨hjl,om,?_,?_,?_⟩
    ·simp only[u4,if_false]
    ·simp only[u5,u1,if_false]; exact t2
    ·intro id' cs hlt' h;have h':=t3 id' cs hlt' h;have u6:¬ id'=t.next:=om
     by_cases e:id'=id
     ·subst e;rw[hrow] at h';simp only[if_true]; exact h'
     ·simp only[e,u6,if_false]; exact h'
   ·have hj':j=p.suggests.length:=om
    subst hj';have c1:¬ (p.suggests.length:Int)<p.suggests.length:=om
    have hgt:Grow t v 7 (p.suggests.map aa6.cs):=by
     rcases hg with h|⟨id,rfl,ho,hil⟩
     ·exact .inl h
     ·exact .inr ⟨id,rfl,t3 _ _ hil ho,om⟩
    have hrows:∀ id cs,id<s.next->s.obj id=zd (.row cs)->t.obj id=zd (.row cs):=fun id cs hlt' h=>t3 id cs om (by rw[hs2 id hlt']; exact h)
    have mm:∀ {d d':Prop} (u:IV) (l:List aa6),ar7 s d u l->(d↔d')->ar7 t d' u l:=fun u l h hd=>h.mono hd om hrows
    simp only[go_sem,c1];exact ⟨rfl,⟨t2,om⟩,v7,v8,v10,v11,v,v13,t1,mm _ _ o7 (by simp),mm _ _ o8 (by simp),mm _ _ o10 (by simp),mm _ _ o11 (by simp),.inl ⟨by simp,hgt⟩,mm _ _ o13 (by simp)⟩
  ·have hv:v13=ai9 p.af4:=by
    rcases o13 with ⟨h,_⟩|⟨_,h⟩
    ·exact absurd h om
    ·exact h
   subst hv;have hfl:p.af4.length<2^31/\∀ r∈p.af4,r.fit/\r.count<2^31:=hf.rich (3,p.af4) (by simp[aa3.rows]);simp only[go_sem,cr6,q0,pcs,bp3];refine ag1 fok172 (ba2 p.af4 _ (by have:=hfl.1; omega)) ?_;rintro v s2 ⟨hs2,hn2,hg,hid⟩;refine ⟨hn2,?_⟩;have q02:s2.obj 0=zd (.cells (pcs p v7 v8 v10 v11 v12 (ai9 p.af4))):=by rw[hs2 0 om]; exact q0
   have q12:s2.obj 1=zd (.cells bh9):=by rw[hs2 1 om]; exact q1
   have hvl:v.leaf=true:=by rcases hg with ⟨rfl,_⟩|⟨id,rfl,_⟩<;>rfl
   have hvc:v.cs=[v]:=by rcases hg with ⟨rfl,_⟩|⟨id,rfl,_⟩<;>rfl
   have hlen:∀ s,ch9 0 s v=zd (.int .i64 (p.af4.length:Nat)):=fun s=>by
    rcases hg with ⟨rfl,he⟩|⟨id,rfl,_⟩
    ·have:p.af4=[]:=by simpa using he
     rw[this]; rfl
    ·rw[bo7,za]
   simp only[go_sem,q02,pcs,hvl,hvc,hlen]
   refine ab2 noT (fun j fr t=>fr=[(1,.ptr 0 0),(2,.ptr 1 0),(4,.ptr 0 13),(25,.aa4 cr6),(26,.int .i64 6),(27,.int .i64 5),(39,v),(40,.int .i64 p.af4.length),(41,.int .i64 j)] /\
    s2.next<=t.next/\t.obj 0=zd (.cells (pcs p v7 v8 v10 v11 v12 v))/\t.obj 1=zd (.cells bh9)/\∀ id cs,id<s2.next->s2.obj id=zd (.row cs)->t.obj id=zd (.row cs)) p.af4.length ⟨rfl,zb _,?_,?_,?_⟩ ?_
   ·simp only[aa5,if_true]; rfl
   ·simp only[aa5,reduceCtorEq,zp,zq,zg,zl,zf,zj,zi,zo,ze,decide_true,decide_false,↓reduceIte,if_false]; exact q12
   ·intro id cs hlt' h;have:¬ id=0:=fun e=>by subst e; rw[q02] at h; cases h
    simp only[aa5,this,if_false]; exact h
   rintro j fr t hle' ⟨rfl,t0,t1,t2,t3⟩;by_cases hjl:j<p.af4.length
   ·obtain ⟨a,ha,_,hdr,hget,_⟩:=ac7 p.af4 j hjl;rcases hg with ⟨_,he⟩|⟨id,rfl,ho,hil⟩
    ·have:p.af4=[]:=by simpa using he
     rw[this] at hjl; cases hjl
    have hrow:=t3 _ _ hil ho;have c1:(j:Int)<p.af4.length:=om
    have c2:(0:Int)<=j:=om
    have w1:=ac2 (i:=j) (by have:=hfl.1; omega);have hid0:¬ id=0:=fun e=>by subst e; rw[t1] at hrow; cases hrow
    have hid1:¬ id=1:=fun e=>by subst e; rw[t2] at hrow; cases hrow
    have u0:¬ 0=t.next:=om
    have u1:¬ 1=t.next:=om
    have u2:¬ id=t.next:=om
    have u3:¬ t.next=id:=om
    have u4:¬ 0=id:=om
    have u5:¬ 1=id:=om
    have hall:=fun x hx=>(ar6 p.af4 x hx).1
    have hfl2:=an4 hall;have hpart:=ax8 hall j (by rw[za]; exact hjl);rw[hget] at hpart;rw[za] at hfl2;have hin:7<=((p.af4.map aa6.cs).flatten.drop (j*7)).length:=by rw[zr,hfl2]; omega
    have hin2:j*7+7<=(p.af4.map aa6.cs).flatten.length:=by rw[hfl2]; omega
    have hsame:ay4 (p.af4.map aa6.cs).flatten (j*7) a.cs=(p.af4.map aa6.cs).flatten:=bj8 (by rw[ab5]; exact hpart) (by rw[ab5]; exact hin2);simp only[go_sem,c1,c2,hrow,hin,hpart,cv3,ab5,ab6,ac8,t1,pcs,u0,u2,u3,hid0];refine aa8 (ax5 a (hfl.2 a ha).1) ?_;simp only[go_sem,c1,c2,hrow,hin2,cv4,ab5,ab6,hsame,t1,pcs,u0,u2,w1];refine ⟨hjl,om,?_,?_,?_⟩
    ·simp only[u4,if_false]
    ·simp only[u5,u1,if_false]; exact t2
    ·intro id' cs hlt' h;have h':=t3 id' cs hlt' h;have u6:¬ id'=t.next:=om
     by_cases e:id'=id
     ·subst e;rw[hrow] at h';simp only[if_true]; exact h'
     ·simp only[e,u6,if_false]; exact h'
   ·have hj':j=p.af4.length:=om
    subst hj';have c1:¬ (p.af4.length:Int)<p.af4.length:=om
    have hgt:Grow t v 7 (p.af4.map aa6.cs):=by
     rcases hg with h|⟨id,rfl,ho,hil⟩
     ·exact .inl h
     ·exact .inr ⟨id,rfl,t3 _ _ hil ho,om⟩
    have hrows:∀ id cs,id<s.next->s.obj id=zd (.row cs)->t.obj id=zd (.row cs):=fun id cs hlt' h=>t3 id cs om (by rw[hs2 id hlt']; exact h)
    have mm:∀ {d d':Prop} (u:IV) (l:List aa6),ar7 s d u l->(d↔d')->ar7 t d' u l:=fun u l h hd=>h.mono hd om hrows
    simp only[go_sem,c1];exact ⟨rfl,⟨t2,om⟩,v7,v8,v10,v11,v12,v,t1,mm _ _ o7 (by simp),mm _ _ o8 (by simp),mm _ _ o10 (by simp),mm _ _ o11 (by simp),mm _ _ o12 (by simp),.inl ⟨by simp,hgt⟩⟩
 ·have hi':i=6:=om
  subst hi';have c1:¬ ((6:Nat):Int)<6:=om
  simp only[go_sem,c1,q0,q1,pcs,bh9,cd5,o7.leaf,o8.leaf,o10.leaf,o11.leaf,o12.leaf,o13.leaf]
  have fz:∀ (v:IV) (l:List aa6) (k:Nat) (s':Store),k<6->ar7 s (k<6) v l->(∀ id cs,s.obj id=zd (.row cs)->s'.obj id=zd (.row cs))->s.next<=s'.next->bw7 s' 0 v (ai9 l):=by
   intro v l k s' hk ho h1 h2;rcases ho.mono Iff.rfl h2 (fun id cs _ h=>h1 id cs h) with ⟨_,h⟩|⟨h,_⟩
   ·exact h.frz (fun x hx=>(ar6 l x hx).1) (fun _ _=>zu _) (al3 (ak8 l))
   ·exact absurd hk h
  have hr:∀ id cs,s.obj id=zd (.row cs)->(s.put 1 (al9.cells (pcs p v7 v8 v10 v11 v12 v13))).obj id=zd (.row cs):=fun id cs h=>by
   have:¬ id=1:=fun e=>by subst e; rw[q1] at h; cases h
   simp only[aa5,this,if_false]; exact h
  have b1:=fun v hv=>Frz.keep (σ:=s.put 1 (al9.cells (pcs p v7 v8 v10 v11 v12 v13))) (S:=fun i=>i<0) v hv
  exact .jb8 (.cons (bm9 _) (.cons (ad5 _ _) (.cons (bm9 _) (.cons (bm9 _) (.cons (ad5 _ _) (.cons (bm9 _) (.cons (b1 _ (cf8 _))
   (.cons (fz v7 _ 0 _ om o7 hr (zb _)) (.cons (fz v8 _ 1 _ om o8 hr (zb _)) (.cons (b1 _ (cf8 _)) (.cons (fz v10 _ 2 _ om o10 hr (zb _)) (.cons (fz v11 _ 3 _ om o11 hr (zb _))
   (.cons (fz v12 _ 4 _ om o12 hr (zb _)) (.cons (fz v13 _ 5 _ om o13 hr (zb _)) (.cons (b1 _ (cy8 _)) .nil)))))))))))))))
end Go.Id.Tryz
