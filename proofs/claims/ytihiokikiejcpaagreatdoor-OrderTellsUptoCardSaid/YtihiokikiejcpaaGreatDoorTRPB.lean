/- Names,versions,architectures,operators: what the program tells of them. Conditions: none. -/
import Derived.Test.YtihiokikiejcpaaGreatDoorGTT
import Derived.Test.YtihiokikiejcpaaGreatDoorT6
import Derived.Test.YtihiokikiejcpaaGreatDoorFwQ
import Derived.Test.YtihiokikiejcpaaGreatDoorMb
set_option linter.all false
namespace Go.Id.Tryz
open Go Go.Id Go.Proofs Go.Id.Md
def ik3:List (Nat×List IV):=[(0,words.map .str),(1,[.al4 opsL])]
abbrev EE:Nat->IV:=ew5 ik3
theorem hE:∀ g,Bnd 0 (EE g):=gz4 (by kernel_rfl)
theorem E0:EE 0=.ad4 [.str [97,110,100],.str [111,114],.str [105,102],.str [101,108,115,101],.str [117,110,108,101,115,115],.str [119,105,116,104],.str [119,105,116,104,111,117,116]]:=rfl
theorem E1:EE 1=.ad4 [.al4 opsL]:=rfl
theorem dh7 (s:Str)(b:UInt8):PC Tryz.prog EE 119 [.str s,.int .u8 b.toNat] (.int .i64 (dt6 b.toNat s 0)):=by
 refine av1 fok119 (nZ rfl) fun σ=>?_
 have h1:(0:Int)<=b.toNat:=by omega
 have h2:(b.toNat:Int)<256:=by have:=b.toNat_lt; omega
 simp only[ic119,go_sem,h1,h2,Int.toNat_natCast,and_self]
theorem au5 (s:Str)(b:UInt8):PC Tryz.prog EE 91 [.str s,.int .u8 b.toNat] (.int .i64 (dt6 b.toNat s 0)):=by
 refine av1 fok91 (nZ rfl) fun σ=>?_
 simp only[ic91,go_sem];refine aa5 fok119 (dh7 s b) ?_;simp only[go_sem,and_self]
theorem dh8 (s t:Str):PC Tryz.prog EE 120 [.str s,.str t] (.bool (decide (t.length<=s.length)&&decide (s.take t.length=t))):=by
 refine av1 fok120 (nZ rfl) fun σ=>?_
 by_cases h:t.length<=s.length
 ·have h1:(t.length:Int)<=s.length:=by omega
  have h2:(0:Int)<=t.length:=by omega
  simp only[ic120,go_sem,h,h1,ch4,bq4,cq2,h2,Int.toNat_natCast,Nat.zero_le,and_self,List.drop_zero,Bool.true_and,dx8,dx9,Option.map]
 ·have h1:¬ (t.length:Int)<=s.length:=by omega
  simp only[ic120,go_sem,h,h1,Bool.false_and,and_self]
theorem dr6 (s t:Str):PC Tryz.prog EE 92 [.str s,.str t] (.bool (decide (t.length<=s.length)&&decide (s.take t.length=t))):=by
 refine av1 fok92 (nZ rfl) fun σ=>?_
 simp only[ic92,go_sem];refine aa5 fok120 (dh8 s t) ?_;simp only[go_sem,and_self]
theorem fs3 (a:Int):PC Tryz.prog EE 94 [.int .u8 a] (.bool (bt4 a)):=by
 refine av1 fok94 (nZ rfl) fun σ=>?_
 by_cases h:1<=a
 ·simp only[ic94,go_sem,bt4,h,Bool.true_and,and_self]
 ·simp only[ic94,go_sem,bt4,h,Bool.false_and,and_self]
def db9:List IV:=[.str [],.str [110,111,97,114,99,104],.str [120,56,54,95,54,52],.str [105,54,56,54],.str [97,97,114,99,104,54,52]]
theorem dr7:PC Tryz.prog EE 95 [] (.agg db9):=by
 refine ao4 hE fok95 (nZ rfl) (fun a h=>by cases h) ?_;simp only[ic95,go_sem];exact .keep _ (ax1 10 _ (by kernel_rfl))
def bu6 (a:Int):Str:=if a=1 then [110,111,97,114,99,104] else if a=2 then [120,56,54,95,54,52] else if a=3 then [105,54,56,54] else if a=4 then [97,97,114,99,104,54,52] else []
theorem bu7 (a:Int):decide (bu6 a=[])=!bt4 a:=by
 unfold bu6 bt4
 repeat' split
 all_goals first|(subst_vars; rfl)|skip
 have:¬ (1<=a/\a<=4):=by omega
 have h:(decide (1<=a)&&decide (a<=4))=false:=by simpa using this
 rw[h]; rfl
theorem ea5 (a:Int):PC Tryz.prog EE 56 [.int .u8 a] (.str (bu6 a)):=by
 refine av1 fok56 (nZ rfl) fun σ=>?_
 simp only[ic56,go_sem];refine aa5 fok94 (fs3 a) ?_;simp only[go_sem]
 cases h:bt4 a with
 | false=>
  have h1:=bu7 a;rw[h] at h1;have h2:bu6 a=[]:=by simpa using h1
  simp only[go_sem,h2,and_self]
 | true=>
  have h1:1<=a/\a<=4:=by simpa [bt4] using h
  simp only[go_sem];refine aa5 fok95 dr7 ?_;have h2:a=1\/a=2\/a=3\/a=4:=by omega
  rcases h2 with rfl|rfl|rfl|rfl<;>(simp only[go_sem,db9]; first|rfl|exact ⟨rfl,rfl⟩)
theorem ei3 (c:UInt8):∀ (l:Str) (i:Nat),decide (0<=dt6 c.toNat l i)=l.contains c:=by
 intro l
 induction l with
 | nil=>intro i; rfl
 | cons b l ih=>
  intro i;simp only[dt6,List.contains_cons];split
  ·rename_i h;have:c=b:=(UInt8.toNat_inj.1 h).symm;subst this;simp
  ·rename_i h;have:(c==b)=false:=by simp only[beq_eq_false_iff_ne,ne_eq]; intro e; subst e; exact h rfl
   rw[this,Bool.false_or];exact ih (i+1)
theorem ei4 {p:UInt8->Bool}{s:Str}{i:Nat}(h:i<s.length):(s.take (i+1)).all p=((s.take i).all p&&p s[i]):=by
 rw[List.take_add_one,List.getElem?_eq_getElem h];simp only[Option.toList,List.all_append,List.all_cons,List.all_nil,Bool.and_true]
theorem bu8 {p:UInt8->Bool}{s:Str}{i:Nat}(h:i<s.length)(hp:p s[i]=false):s.all p=false:=by
 rw[List.all_eq_false];exact ⟨s[i],List.getElem_mem h,by simp[hp]⟩
theorem dc1 (s:Str)(hs:s.length<2^62):PC Tryz.prog EE 93 [.str s] (.bool (bg9 s)):=by
 refine av1 fok93 (nZ rfl) fun σ=>?_
 by_cases h0:s=[]
 ·subst h0;simp only[ic93,go_sem];rfl
 have hl:1<=s.length:=by cases s with|nil=>exact absurd rfl h0|cons _ _=>simp
 by_cases h1:s.length<=64
 ·have h1':¬ (64:Int)<s.length:=by omega
  simp only[ic93,go_sem,h0,h1'];refine ab3 noT (fun i fr s'=>s'=σ/\fr=[(0,.str s),(13,.int .i64 s.length),(14,.int .i64 i)]/\(s.take i).all ci1=true) s.length ⟨rfl,rfl,rfl⟩ ?_;rintro i fr s' hi ⟨rfl,rfl,ha⟩;by_cases hlt:i<s.length
  ·have c1:(i:Int)<s.length:=by omega
   have c2:(0:Int)<=i:=by omega
   simp only[go_sem,c1,c2,List.getElem?_eq_getElem hlt];have fin:ci1 s[i]=false->bg9 s=false:=fun h=>by simp only[bg9,bu8 hlt h,Bool.and_false]
   have step:ci1 s[i]=true->(s.take (i+1)).all ci1=true:=fun h=>by rw[ei4 hlt,ha,h]; rfl
   have w1:=ad2 (i:=i) (by omega)
   have hv:ci1 s[i]=(decide ((97:Int)<=s[i].toNat)&&decide ((s[i].toNat:Int)<=122)||decide ((65:Int)<=s[i].toNat)&&decide ((s[i].toNat:Int)<=90)||decide ((48:Int)<=s[i].toNat)&&decide ((s[i].toNat:Int)<=57) || [46,95,43,126,94].contains s[i]):=by
    simp only[ci1,fo3];congr 1;congr 1
    ·congr 1<;>congr 1<;>(apply decide_eq_decide.2; omega)
    ·congr 1<;>(apply decide_eq_decide.2; omega)
   generalize s[i]=b at *
   have last:∀ (k1:¬ ((97:Int)<=b.toNat/\(b.toNat:Int)<=122)) (k2:¬ ((65:Int)<=b.toNat/\(b.toNat:Int)<=90)) (k3:¬ ((48:Int)<=b.toNat/\(b.toNat:Int)<=57)),ci1 b=decide (0<=dt6 b.toNat [46,95,43,126,94] 0):=fun k1 k2 k3=>by
    rw[ei3,hv];simp only[<- Bool.decide_and,decide_eq_false k1,decide_eq_false k2,decide_eq_false k3,Bool.false_or]
   by_cases k1:(97:Int)<=b.toNat
   ·by_cases k2:(b.toNat:Int)<=122
    ·simp only[go_sem,k1,k2,w1];exact ⟨hlt,step (by rw[hv]; simp only[k1,k2,go_sem])⟩
    ·have k3:(65:Int)<=b.toNat:=by omega
     have k4:¬ (b.toNat:Int)<=90:=by omega
     have k5:(48:Int)<=b.toNat:=by omega
     have k6:¬ (b.toNat:Int)<=57:=by omega
     simp only[go_sem,k1,k2,k3,k4,k5,k6];refine aa5 fok91 (au5 _ b) ?_;have hl:=last (by omega) (by omega) (by omega);simp only[go_sem,ge_iff_le,<- hl]
     cases hb:ci1 b with
     | true=>simp only[go_sem,w1]; exact ⟨hlt,step hb⟩
     | false=>simp only[go_sem,fin hb,and_self]
   ·by_cases k3:(65:Int)<=b.toNat
    ·by_cases k4:(b.toNat:Int)<=90
     ·simp only[go_sem,k1,k3,k4,w1];exact ⟨hlt,step (by rw[hv]; simp only[k1,k3,k4,go_sem])⟩
     ·have k5:(48:Int)<=b.toNat:=by omega
      have k6:¬ (b.toNat:Int)<=57:=by omega
      simp only[go_sem,k1,k3,k4,k5,k6];refine aa5 fok91 (au5 _ b) ?_;have hl:=last (by omega) (by omega) (by omega);simp only[go_sem,ge_iff_le,<- hl]
      cases hb:ci1 b with
      | true=>simp only[go_sem,w1]; exact ⟨hlt,step hb⟩
      | false=>simp only[go_sem,fin hb,and_self]
    ·by_cases k5:(48:Int)<=b.toNat
     ·by_cases k6:(b.toNat:Int)<=57
      ·simp only[go_sem,k1,k3,k5,k6,w1];exact ⟨hlt,step (by rw[hv]; simp only[k1,k3,k5,k6,go_sem])⟩
      ·simp only[go_sem,k1,k3,k5,k6];refine aa5 fok91 (au5 _ b) ?_;have hl:=last (by omega) (by omega) (by omega);simp only[go_sem,ge_iff_le,<- hl]
       cases hb:ci1 b with
       | true=>simp only[go_sem,w1]; exact ⟨hlt,step hb⟩
       | false=>simp only[go_sem,fin hb,and_self]
     ·simp only[go_sem,k1,k3,k5];refine aa5 fok91 (au5 _ b) ?_;have hl:=last (by omega) (by omega) (by omega);simp only[go_sem,ge_iff_le,<- hl]
      cases hb:ci1 b with
      | true=>simp only[go_sem,w1]; exact ⟨hlt,step hb⟩
      | false=>simp only[go_sem,fin hb,and_self]
  ·have hi':i=s.length:=by omega
   have c1:¬ (i:Int)<s.length:=by omega
   simp only[go_sem,c1];subst hi';rw[List.take_length] at ha;simp only[bg9,ha,go_sem,hl,h1,and_self]
 ·have h1':(64:Int)<s.length:=by omega
  simp only[ic93,go_sem,h0,h1',bg9,h1,Bool.and_false,Bool.false_and,and_self]
theorem dr8 (e:EVR)(dep:Bool)(h1:e.ver.length<2^62)(h2:e.rel.length<2^62):PC Tryz.prog EE 55 [.agg e.cs,.bool dep] (.bool (bh2 e dep)):=by
 obtain ⟨ep,ver,rel⟩:=e;refine av1 fok55 (nZ rfl) fun σ=>?_
 have hw:=dc1 ver h1;have hw':=dc1 rel h2;by_cases a1:(0:Int)<=ep
 ·by_cases a2:ep<=2147483647
  ·simp only[ic55,go_sem,EVR.cs,bh2,a1,a2];refine aa5 fok93 hw ?_;simp only[go_sem]
   cases hv:bg9 ver with
   | false=>simp only[go_sem,and_self]
   | true=>
    simp only[go_sem];refine aa5 fok93 hw' ?_;simp only[go_sem]
    cases hr:bg9 rel with
    | true=>simp only[go_sem,and_self]
    | false=>
     cases dep with
     | true=>
      simp only[go_sem]
      cases rel<;>first|rfl|exact ⟨rfl,rfl⟩
     | false=>simp only[go_sem,and_self]
  ·simp only[ic55,go_sem,EVR.cs,bh2,a1,a2,and_self]
 ·simp only[ic55,go_sem,EVR.cs,bh2,a1,and_self]
theorem ea6 (n:Int):PC Tryz.prog EE 121 [.int .u8 n] (.str (dz4 n)):=by
 obtain ⟨_,pf,an,h⟩:=fok121;exact hf6 (g:=1) h E1
theorem gl3 (n:Int):ex1 n=(decide (n=0) || !decide (dz4 n=[])):=by
 unfold ex1 dz4;by_cases h0:n=0
 ·subst h0; rfl
 by_cases h1:n=1
 ·subst h1; rfl
 by_cases h2:n=2
 ·subst h2; rfl
 by_cases h3:n=3
 ·subst h3; rfl
 by_cases h4:n=4
 ·subst h4; rfl
 by_cases h6:n=6
 ·subst h6; rfl
 simp[h0,h1,h2,h3,h4,h6]
theorem fa8 (n:Int):PC Tryz.prog EE 97 [.int .u8 n] (.bool (ex1 n)):=by
 refine av1 fok97 (nZ rfl) fun σ=>?_
 rw[gl3];by_cases h:n=0
 ·simp only[ic97,go_sem,h,and_self]
 ·simp only[ic97,go_sem,h];refine aa5 fok121 (ea6 n) ?_;simp only[go_sem,and_self]
theorem hj5 (c:UInt8)(l:Str)(i:Nat):decide (dt6 c.toNat l i<0)=!l.contains c:=by
 rw[<- ei3 c l i,<- decide_not];exact decide_eq_decide.2 (by omega)
def gu1:List IV:=[.str [97,110,100],.str [111,114],.str [105,102],.str [101,108,115,101],.str [117,110,108,101,115,115],.str [119,105,116,104],.str [119,105,116,104,111,117,116]]
theorem ei5 {b:UInt8}(h:bo2 b=true):b.toNat<=126:=by
 have:b∈signs:=by simpa [bo2,List.contains_iff_mem] using h
 revert this
 have:∀ b∈signs,b.toNat<=126:=by decide +kernel
 exact this b
theorem cf1 (s:Str)(hs:s.length<2^62):PC Tryz.prog EE 53 [.str s] (.bool (av2 s)):=by
 refine ao4 hE fok53 (nZ rfl) (fun a h=>by cases h with|head=>exact .str _|tail _ h=>cases h) ?_;by_cases h1:1<=s.length
 ·by_cases h2:s.length<=64
  ·have c1:¬ (s.length:Int)<1:=by omega
   have c2:¬ (64:Int)<s.length:=by omega
   simp only[ic53,go_sem,c1,c2];refine gr2 noT (fun m fr σ=>(fr.get 0=.str s/\fr.get 16=.ptr 0 0)/\∃ pos,σ.obj 0=some (.az2 s pos)/\pos<=s.length/\m=s.length-pos/\(s.take pos).all bo2=true) s.length ⟨⟨rfl,rfl⟩,0,rfl,Nat.zero_le _,rfl,rfl⟩ ?_;rintro m fr σ ⟨⟨f0,f16⟩,pos,ho,hp,rfl,ha⟩;by_cases hlt:pos<s.length
   ·simp only[go_sem,f0,f16,ho,hlt,bg7,gr5];by_cases hb:s[pos].toNat<128
    ·rw[eo1 s pos hlt hb];by_cases hb2:s[pos].toNat<=126
     ·have d1:¬ (126:Int)<s[pos].toNat:=by omega
      have d2:IntKind.u8.wrap (s[pos].toNat:Int)=s[pos].toNat:=by
       have:=s[pos].toNat_lt;simp[IntKind.wrap,IntKind.bits,IntKind.signed];omega
      simp only[go_sem,d1,d2];refine aa5 (v:=.int .i64 (dt6 s[pos].toNat signs 0)) fok91 (au5 signs s[pos]) ?_;have hi:decide (dt6 s[pos].toNat signs 0<0)=!bo2 s[pos]:=hj5 s[pos] signs 0;simp only[go_sem,hi]
      cases hg:bo2 s[pos] with
      | true=>
       simp only[go_sem]
       exact ⟨s.length-(pos+1),by omega,pos+1,rfl,hlt,rfl,by rw[ei4 hlt,ha,hg]; rfl⟩
      | false=>
       simp only[go_sem,av2,bu8 hlt hg];exact ac4 _
     ·have d1:(126:Int)<s[pos].toNat:=by omega
      have hg:bo2 s[pos]=false:=by
       cases h:bo2 s[pos] with
       | false=>rfl
       | true=>exact absurd (ei5 h) hb2
      simp only[go_sem,d1,av2,bu8 hlt hg];exact ac4 _
    ·have h3:=decode_high s pos hlt hb;generalize Utf8.decode ⟨s.toArray⟩ pos=dd at h3 ⊢;have d1:(126:Int)<dd.1:=by omega
     have hg:bo2 s[pos]=false:=by
      cases h:bo2 s[pos] with
      | false=>rfl
      | true=>have:=ei5 h; omega
     simp only[go_sem,d1,av2,bu8 hlt hg];exact ac4 _
   ·have hpe:pos=s.length:=by omega
    subst hpe;rw[List.take_length] at ha;simp only[go_sem,f0,f16,ho,bg7,gr5,Nat.lt_irrefl,E0];refine ab3 noT (fun i fr σ=>fr=[(0,.str s),(28,.agg gu1),(29,.int .i64 i)]/\∀ w∈words.take i,s≠w) 7 ⟨rfl,fun w h=>by simp at h⟩ ?_;rintro i fr σ hi ⟨rfl,hw⟩;by_cases hlt:i<7
    ·have e1:(i:Int)<7:=by omega
     have e2:(0:Int)<=i:=by omega
     have w1:=ad2 (i:=i) (by omega)
     obtain ⟨w,h3,h4,h5⟩:∃ w,gu1[i]? = some (.str w)/\words.take (i+1)=words.take i++[w]/\w∈words:=by
      have:i=0\/i=1\/i=2\/i=3\/i=4\/i=5\/i=6:=by omega
      rcases this with rfl|rfl|rfl|rfl|rfl|rfl|rfl<;>exact ⟨_,rfl,rfl,by decide⟩
     simp only[go_sem,e1,e2,Nat.mul_one,h3];by_cases hsw:s=w
     ·subst hsw;have:words.contains s=true:=by simpa using h5
      simp only[go_sem,av2,this];exact ac4 _
     ·simp only[go_sem,hsw,w1];refine ⟨hlt,?_⟩;rw[h4];intro x hx;rcases List.mem_append.1 hx with h|h
      ·exact hw x h
      ·have:x=w:=by simpa using h
       rw[this]; exact hsw
    ·have hi7:i=7:=by omega
     subst hi7
     have:words.contains s=false:=by
      cases h:words.contains s with
      | false=>rfl
      | true=>exact absurd rfl (hw s (by rw[show words.take 7=words from rfl]; simpa using h))
     have e7:¬ ((7:Nat):Int)<7:=by omega
     simp only[go_sem,e7,av2,this,h1,h2,ha,Int.lt_irrefl];exact ac4 _
  ·have c1:¬ (s.length:Int)<1:=by omega
   have c2:(64:Int)<s.length:=by omega
   simp only[ic53,go_sem,c1,c2,av2,h1,h2];exact ac4 _
 ·have c1:(s.length:Int)<1:=by omega
  simp only[ic53,go_sem,c1,av2,h1];exact ac4 _
theorem cf2 (s:Str)(hs:s.length<2^62):PC Tryz.prog EE 54 [.str s] (.bool (bo3 s)):=by
 refine av1 fok54 (nZ rfl) fun σ=>?_
 simp only[ic54,go_sem];refine aa5 fok53 (cf1 s hs) ?_;simp only[go_sem]
 cases h:av2 s with
 | false=>simp only[go_sem,bo3,h,and_self]
 | true=>
  simp only[go_sem];refine aa5 fok92 (dr6 s [47]) ?_
  have:(decide ([47].length<=s.length)&&decide (s.take [47].length=[47]))=(s.head? == some 47):=by
   cases s with
   | nil=>rfl
   | cons b l=>simp[eq_comm]; by_cases hb:b=47<;>simp[hb]
  simp only[List.length_cons,List.length_nil] at this;simp only[go_sem,bo3,h,this,and_self]
theorem cp4 (d:Dep)(h1:d.name.length<2^62)(h2:d.evr.ver.length<2^62)(h3:d.evr.rel.length<2^62):PC Tryz.prog EE 58 [.agg d.cs] (.bool (an8 d)):=by
 obtain ⟨name,op,ep,ver,rel⟩:=d;refine av1 fok58 (nZ rfl) fun σ=>?_
 simp only[ic58,go_sem,Dep.cs];refine aa5 fok53 (cf1 name h1) ?_;simp only[go_sem]
 cases hn:av2 name with
 | false=>simp only[go_sem,an8,hn,and_self]
 | true=>
  simp only[go_sem];refine aa5 fok97 (fa8 op) ?_;simp only[go_sem]
  cases ho:ex1 op with
  | false=>simp only[go_sem,an8,hn,ho,and_self]
  | true=>
   by_cases h0:op=0
   ·subst h0
    have hd:an8 ⟨name,0,ep,ver,rel⟩=(decide (ep=0)&&(decide (ver=[])&&decide (rel=[]))):=by
     simp only[an8,hn,ho,go_sem,hp4,EVR.mk.injEq,Bool.decide_and]
    simp only[go_sem,hd,and_self]
   ·simp only[go_sem,h0];refine aa5 fok54 (cf2 name h1) ?_;simp only[go_sem]
    cases hf:bo3 name with
    | true=>simp only[go_sem,an8,hn,ho,h0,hf,and_self]
    | false=>
     simp only[go_sem];refine aa5 (v:=.bool (bh2 ⟨ep,ver,rel⟩ true)) fok55 (dr8 ⟨ep,ver,rel⟩ true h2 h3) ?_;simp only[go_sem,an8,hn,ho,h0,hf,and_self]
def gl4 (k:Int):List IV:=[.int .i64 (asks k).1,.int .i64 (asks k).2.1,.bool (asks k).2.2.1,.int .u8 (asks k).2.2.2]
theorem fa9 (k:Int)(h1:0<=k)(h2:k<256):PC Tryz.prog EE 104 [.int .u8 k] (.agg (gl4 k)):=by
 have w:=wrap64 (x:=k) (by omega) (by omega);by_cases h8:8<=k
 ·refine ao4 hE fok104 (nZ rfl) (fun a h=>by cases h with|head=>exact .int _ _|tail _ h=>cases h) ?_;simp only[ic104,go_sem,w,h8]
  have:gl4 k=[.int .i64 0,.int .i64 0,.bool false,.int .u8 0]:=by
   unfold gl4 asks;rw[if_neg (by omega),if_neg (by omega),if_neg (by omega),if_neg (by omega),if_neg (by omega),if_neg (by omega),if_neg (by omega)];rfl
  rw[this];exact .keep _ (ax1 10 _ (by kernel_rfl))
 ·have:k=0\/k=1\/k=2\/k=3\/k=4\/k=5\/k=6\/k=7:=by omega
  rcases this with rfl|rfl|rfl|rfl|rfl|rfl|rfl|rfl
  all_goals
   refine ao4 hE fok104 (nZ rfl) (fun a h=>by cases h with|head=>exact .int _ _|tail _ h=>cases h) ?_;simp only[ic104,go_sem,w];exact .keep _ (ax1 10 _ (by kernel_rfl))
theorem hj6 (d:Dep):∀ c∈d.cs,Bnd 0 c:=by
 intro c hc;simp only[Dep.cs,List.mem_cons,List.not_mem_nil,or_false] at hc;rcases hc with rfl|rfl|rfl|rfl|rfl<;>first|exact .str _|exact .int _ _
theorem ei6 (r:aa9):∀ c∈r.cs,Bnd 0 c:=by
 induction r using aa9.ind with
 | h k d xs ih=>
  intro c hc;rw[aa9.au9] at hc;simp only[List.mem_cons,List.not_mem_nil,or_false] at hc;rcases hc with rfl|rfl|rfl|rfl|rfl|rfl|rfl<;>first|exact .str _|exact .int _ _|skip
  refine .aa3 _ fun e he c hc=>?_
  obtain ⟨a,ha,rfl⟩:=List.mem_map.1 he;exact ih a ha c hc
theorem ax5 (r:aa9):Bnd 0 (.agg r.cs):=.agg _ (ei6 r)
theorem ad5 (r:aa9):r.cs.length=7:=by rw[aa9.au9]; rfl
theorem ah6 {P:IV->Prop}{v:IV}(h:P v):∀ a∈[v],P a:=fun a ha=>by
 cases ha with
 | head=>exact h
 | tail _ h=>cases h
theorem ea7 (a:aa9)(xs:List aa9):aa9.bh3 (a::xs)=max a.depth (aa9.bh3 xs):=by simp only[aa9.bh3]
theorem hj7 (n m:Nat):(if (m:Int)>(n:Int) then (m:Int) else n)=((max n m:Nat):Int):=by
 split<;>omega
theorem dh9 (r:aa9):r.fit->r.depth<2^62->PC Tryz.prog EE 103 [.agg r.cs] (.int .i64 r.depth):=by
 induction r using aa9.ind with
 | h k d xs ih=>
  intro hf hd;obtain ⟨f1,f2,f3,f4,f5⟩:=aa9.co4.1 hf;refine ao4 hE fok103 (nZ rfl) (ah6 (ax5 _)) ?_;rw[aa9.au9];by_cases hk:k=1
  ·simp only[ic103,go_sem,aa9.kind,aa9.depth,hk];exact ac8 _ _
  ·simp only[aa9.depth,hk,if_false] at hd;simp only[ic103,go_sem,aa9.kind,aa9.depth,hk];refine ab3 noT (fun i fr σ=>∃ n:Nat,fr=[(3,.int .i64 n),(10,.aa3 (xs.map aa9.cs)),(11,.int .i64 xs.length),(12,.int .i64 i)]/\max n (aa9.bh3 (xs.drop i))=aa9.bh3 xs) xs.length ⟨0,rfl,by simp⟩ ?_;rintro i fr σ hi ⟨n,rfl,hn⟩;by_cases hlt:i<xs.length
   ·obtain ⟨a,ha,_,hdr,hget,_⟩:=ae8 xs i hlt;have c1:(i:Int)<xs.length:=by omega
    have c2:(0:Int)<=i:=by omega
    have w1:=ad2 (i:=i) (by omega);rw[hdr,ea7] at hn;have hl:a.cs.all IV.leaf=true:=by rw[aa9.au9]; rfl
    have ht:a.cs.take 7=a.cs:=List.take_of_length_le (by rw[ad5]; exact Nat.le_refl _);simp only[go_sem,c1,c2,hget,ad5,ht,hl,aa9.args,List.drop_zero];refine aa5 fok103 (ih a ha (f5 a ha) (by omega)) ?_;simp only[go_sem,gr4,do7,hj7,w1];exact ⟨hlt,max n a.depth,rfl,by rw[<- hn]; omega⟩
   ·have hi':i=xs.length:=by omega
    subst hi';have c1:¬ (xs.length:Int)<xs.length:=by omega
    simp only[List.drop_length,aa9.bh3,Nat.max_zero] at hn;subst hn;have w1:=ad2 (i:=aa9.bh3 xs) (by omega);simp only[go_sem,c1,w1];exact ac8 _ _
def row (p:aa9×Bool):List IV:=[.agg p.1.cs,.bool p.2]
def evs (r:aa9)(al:Bool):List (List IV):=(r.parts al).map row
def dr9 (xs:List aa9)(al:Bool):List (List IV):=(aa9.av3 xs al).map row
theorem ig1 (k:Int)(d:Dep)(xs:List aa9)(al:Bool):evs (.mk k d xs) al=[.agg (aa9.mk k d xs).cs,.bool al]::dr9 xs (al||decide (k=6)||decide (k=7)):=by
 simp only[evs,dr9,aa9.parts,List.map_cons,row]
theorem bu9 (a:aa9)(xs:List aa9)(al:Bool):dr9 (a::xs) al=evs a al++dr9 xs al:=by
 simp only[evs,dr9,aa9.av3,List.map_append]
def boxed (b:Nat)(s:Store):Prop:=b<s.next/\s.obj b=some (.cells [.func (.func 112) [] [.ptr b 0]])
theorem ig2 (r:aa9):r.fit->∀ (al:Bool) (rest:List (List IV)) (b yid:Nat) (I:List (List IV)->Store->Prop) (S:Store->Prop) (σ:Store),(∀ rest s,I rest s->boxed b s)->ij6 I->gc7 Tryz.prog EE yid I S ->
  I (evs r al++rest) σ->C Tryz.prog EE 112 [.agg r.cs,.bool al,.yield yid,.ptr b 0] σ fun v s=>σ.next<=s.next/\((v=.bool true/\I rest s)\/(v=.bool false/\S s)):=by
 induction r using aa9.ind with
 | h k d xs ih=>
  intro hf al rest b yid I S σ hown hstab hy hi;obtain ⟨f1,f2,f3,f4,f5⟩:=aa9.co4.1 hf;refine C_f fok112 (nZ rfl) ?_;rw[ig1,List.cons_append,aa9.au9] at hi;rw[aa9.au9];simp only[ic112,go_sem,aa9.kind,aa9.dep,aa9.args] at hi ⊢;refine bx4 hy hi (fun s hn hi=>?_) (fun s hn hs=>?_)
  ·have H:(al=true)\/(al=false/\k=6)\/(al=false/\¬ k=6/\k=7)\/(al=false/\¬ k=6/\¬ k=7):=by
    cases al<;>by_cases h6:k=6<;>by_cases h7:k=7<;>simp[h6,h7]
   rcases H with h1|⟨h1,h2⟩|⟨h1,h2,h3⟩|⟨h1,h2,h3⟩
   ·have hA:(al||decide (k=6)||decide (k=7))=true:=by simp[h1]
    rw[hA] at hi;simp only[go_sem,h1];refine ab3 noT (fun i fr t=>fr=[(1,.bool true),(2,.yield yid),(3,.ptr b 0),(27,.aa3 (xs.map aa9.cs)),(28,.int .i64 xs.length),(29,.int .i64 i)]/\I (dr9 (xs.drop i) true++rest) t/\σ.next<=t.next) xs.length ⟨rfl,hi,hn⟩ ?_;rintro i fr t hle ⟨rfl,hi,hn⟩;by_cases hlt:i<xs.length
    ·obtain ⟨a,ha,_,hdr,hget,_⟩:=ae8 xs i hlt;have c1:(i:Int)<xs.length:=by omega
     have c2:(0:Int)<=i:=by omega
     have w1:=ad2 (i:=i) (by omega);have hl:a.cs.all IV.leaf=true:=by rw[aa9.au9]; rfl
     have ht:a.cs.take 7=a.cs:=List.take_of_length_le (by rw[ad5]; exact Nat.le_refl _);obtain ⟨hb1,hb2⟩:=hown _ _ hi;have hb3:¬ b=t.next:=by omega
     simp only[go_sem,c1,c2,hget,ad5,ht,hl,hb2,hb3];rw[hdr,bu9,List.append_assoc] at hi;refine ad3 fok112 (ih a ha (f5 a ha) true (dr9 (xs.drop (i+1)) true++rest) b yid I S _ hown hstab hy (hstab _ _ _ hi (Nat.le_succ _) (fun j hj=>?_))) ?_
     ·have:¬ j=t.next:=by omega
      simp only[aa2,this,if_false]
     ·rintro v s2 ⟨hn2,⟨rfl,hi2⟩|⟨rfl,hs2⟩⟩
      ·refine ⟨hn2,?_⟩;have hn3:t.next+1<=s2.next:=hn2;simp only[go_sem,w1];exact ⟨hlt,hi2,by omega⟩
      ·refine ⟨hn2,?_⟩;have hn3:t.next+1<=s2.next:=hn2;simp only[go_sem];exact ⟨by omega,.inr hs2⟩
    ·have hi':i=xs.length:=by omega
     subst hi';have c1:¬ (xs.length:Int)<xs.length:=by omega
     simp only[List.drop_length,dr9,aa9.av3,List.map_nil,List.nil_append] at hi;simp only[go_sem,c1];exact ⟨hn,.inl hi⟩
   ·have hA:(al||decide (k=6)||decide (k=7))=true:=by simp[h1,h2]
    rw[hA] at hi;simp only[go_sem,h1,h2];refine ab3 noT (fun i fr t=>fr=[(1,.bool true),(2,.yield yid),(3,.ptr b 0),(27,.aa3 (xs.map aa9.cs)),(28,.int .i64 xs.length),(29,.int .i64 i)]/\I (dr9 (xs.drop i) true++rest) t/\σ.next<=t.next) xs.length ⟨rfl,hi,hn⟩ ?_;rintro i fr t hle ⟨rfl,hi,hn⟩;by_cases hlt:i<xs.length
    ·obtain ⟨a,ha,_,hdr,hget,_⟩:=ae8 xs i hlt;have c1:(i:Int)<xs.length:=by omega
     have c2:(0:Int)<=i:=by omega
     have w1:=ad2 (i:=i) (by omega);have hl:a.cs.all IV.leaf=true:=by rw[aa9.au9]; rfl
     have ht:a.cs.take 7=a.cs:=List.take_of_length_le (by rw[ad5]; exact Nat.le_refl _);obtain ⟨hb1,hb2⟩:=hown _ _ hi;have hb3:¬ b=t.next:=by omega
     simp only[go_sem,c1,c2,hget,ad5,ht,hl,hb2,hb3];rw[hdr,bu9,List.append_assoc] at hi;refine ad3 fok112 (ih a ha (f5 a ha) true (dr9 (xs.drop (i+1)) true++rest) b yid I S _ hown hstab hy (hstab _ _ _ hi (Nat.le_succ _) (fun j hj=>?_))) ?_
     ·have:¬ j=t.next:=by omega
      simp only[aa2,this,if_false]
     ·rintro v s2 ⟨hn2,⟨rfl,hi2⟩|⟨rfl,hs2⟩⟩
      ·refine ⟨hn2,?_⟩;have hn3:t.next+1<=s2.next:=hn2;simp only[go_sem,w1];exact ⟨hlt,hi2,by omega⟩
      ·refine ⟨hn2,?_⟩;have hn3:t.next+1<=s2.next:=hn2;simp only[go_sem];exact ⟨by omega,.inr hs2⟩
    ·have hi':i=xs.length:=by omega
     subst hi';have c1:¬ (xs.length:Int)<xs.length:=by omega
     simp only[List.drop_length,dr9,aa9.av3,List.map_nil,List.nil_append] at hi;simp only[go_sem,c1];exact ⟨hn,.inl hi⟩
   ·have hA:(al||decide (k=6)||decide (k=7))=true:=by simp[h1,h2,h3,show ¬ ((7:Int)=6) from by omega]
    rw[hA] at hi;simp only[go_sem,h1,h2,h3,show ¬ ((7:Int)=6) from by omega];refine ab3 noT (fun i fr t=>fr=[(1,.bool true),(2,.yield yid),(3,.ptr b 0),(27,.aa3 (xs.map aa9.cs)),(28,.int .i64 xs.length),(29,.int .i64 i)]/\I (dr9 (xs.drop i) true++rest) t/\σ.next<=t.next) xs.length ⟨rfl,hi,hn⟩ ?_;rintro i fr t hle ⟨rfl,hi,hn⟩;by_cases hlt:i<xs.length
    ·obtain ⟨a,ha,_,hdr,hget,_⟩:=ae8 xs i hlt;have c1:(i:Int)<xs.length:=by omega
     have c2:(0:Int)<=i:=by omega
     have w1:=ad2 (i:=i) (by omega);have hl:a.cs.all IV.leaf=true:=by rw[aa9.au9]; rfl
     have ht:a.cs.take 7=a.cs:=List.take_of_length_le (by rw[ad5]; exact Nat.le_refl _);obtain ⟨hb1,hb2⟩:=hown _ _ hi;have hb3:¬ b=t.next:=by omega
     simp only[go_sem,c1,c2,hget,ad5,ht,hl,hb2,hb3];rw[hdr,bu9,List.append_assoc] at hi;refine ad3 fok112 (ih a ha (f5 a ha) true (dr9 (xs.drop (i+1)) true++rest) b yid I S _ hown hstab hy (hstab _ _ _ hi (Nat.le_succ _) (fun j hj=>?_))) ?_
     ·have:¬ j=t.next:=by omega
      simp only[aa2,this,if_false]
     ·rintro v s2 ⟨hn2,⟨rfl,hi2⟩|⟨rfl,hs2⟩⟩
      ·refine ⟨hn2,?_⟩;have hn3:t.next+1<=s2.next:=hn2;simp only[go_sem,w1];exact ⟨hlt,hi2,by omega⟩
      ·refine ⟨hn2,?_⟩;have hn3:t.next+1<=s2.next:=hn2;simp only[go_sem];exact ⟨by omega,.inr hs2⟩
    ·have hi':i=xs.length:=by omega
     subst hi';have c1:¬ (xs.length:Int)<xs.length:=by omega
     simp only[List.drop_length,dr9,aa9.av3,List.map_nil,List.nil_append] at hi;simp only[go_sem,c1];exact ⟨hn,.inl hi⟩
   ·have hA:(al||decide (k=6)||decide (k=7))=false:=by simp[h1,h2,h3]
    rw[hA] at hi;simp only[go_sem,h1,h2,h3];refine ab3 noT (fun i fr t=>fr=[(1,.bool false),(2,.yield yid),(3,.ptr b 0),(27,.aa3 (xs.map aa9.cs)),(28,.int .i64 xs.length),(29,.int .i64 i)]/\I (dr9 (xs.drop i) false++rest) t/\σ.next<=t.next) xs.length ⟨rfl,hi,hn⟩ ?_;rintro i fr t hle ⟨rfl,hi,hn⟩;by_cases hlt:i<xs.length
    ·obtain ⟨a,ha,_,hdr,hget,_⟩:=ae8 xs i hlt;have c1:(i:Int)<xs.length:=by omega
     have c2:(0:Int)<=i:=by omega
     have w1:=ad2 (i:=i) (by omega);have hl:a.cs.all IV.leaf=true:=by rw[aa9.au9]; rfl
     have ht:a.cs.take 7=a.cs:=List.take_of_length_le (by rw[ad5]; exact Nat.le_refl _);obtain ⟨hb1,hb2⟩:=hown _ _ hi;have hb3:¬ b=t.next:=by omega
     simp only[go_sem,c1,c2,hget,ad5,ht,hl,hb2,hb3];rw[hdr,bu9,List.append_assoc] at hi;refine ad3 fok112 (ih a ha (f5 a ha) false (dr9 (xs.drop (i+1)) false++rest) b yid I S _ hown hstab hy (hstab _ _ _ hi (Nat.le_succ _) (fun j hj=>?_))) ?_
     ·have:¬ j=t.next:=by omega
      simp only[aa2,this,if_false]
     ·rintro v s2 ⟨hn2,⟨rfl,hi2⟩|⟨rfl,hs2⟩⟩
      ·refine ⟨hn2,?_⟩;have hn3:t.next+1<=s2.next:=hn2;simp only[go_sem,w1];exact ⟨hlt,hi2,by omega⟩
      ·refine ⟨hn2,?_⟩;have hn3:t.next+1<=s2.next:=hn2;simp only[go_sem];exact ⟨by omega,.inr hs2⟩
    ·have hi':i=xs.length:=by omega
     subst hi';have c1:¬ (xs.length:Int)<xs.length:=by omega
     simp only[List.drop_length,dr9,aa9.av3,List.map_nil,List.nil_append] at hi;simp only[go_sem,c1];exact ⟨hn,.inl hi⟩
  ·simp only[go_sem];exact ⟨hn,.inr hs⟩
theorem cf3 (r:aa9)(hf:r.fit)(b:Nat):cm9 Tryz.prog EE (.func (.func 113) [] [.ptr b 0,.ad4 r.cs]) (evs r false) (boxed b):=by
 intro yid I S σ hown hstab hy hi;refine ⟨fok113.1,?_⟩;refine C_f fok113 (nZ rfl) ?_;obtain ⟨hb1,hb2⟩:=hown _ _ hi;have ht:r.cs.take 7=r.cs:=List.take_of_length_le (by rw[ad5]; exact Nat.le_refl _);simp only[ic113,go_sem,hb2,ht,ad5];refine ad3 fok112 (ig2 r hf false [] b yid I S σ hown hstab hy (by rw[List.append_nil]; exact hi)) ?_;rintro v s ⟨hn,h⟩;refine ⟨hn,?_⟩;simp only[go_sem];refine ⟨hn,?_⟩;rcases h with ⟨_,h⟩|⟨_,h⟩
 ·exact .inl h
 ·exact .inr h
theorem ea8 (r:aa9)(σ:Store):C Tryz.prog EE 84 [.agg r.cs] σ fun v s=>v=.func (.func 113) [] [.ptr σ.next 0,.ad4 r.cs]/\boxed σ.next s/\σ.next<=s.next/\∀ i,i<σ.next->s.obj i=σ.obj i:=by
 refine C_f fok84 (nZ rfl) ?_;have hl:r.cs.all IV.leaf=true:=by rw[aa9.au9]; rfl
 simp only[ic84,go_sem,hl];refine ⟨⟨Nat.lt_succ_self _,?_⟩,Nat.le_succ _,fun i hi=>?_⟩
 ·simp only[aa2,if_true]
 ·have:¬ i=σ.next:=by omega
  simp only[aa2,this,if_false]
theorem aa9.au6 (r:aa9):∀ al,(r.parts al).length=r.count:=by
 induction r using aa9.ind with
 | h k d xs ih=>
  intro al;simp only[aa9.parts,aa9.count,List.length_cons];congr 1;generalize (al||decide (k=6)||decide (k=7))=al';clear al
  induction xs with
  | nil=>rfl
  | cons a xs ih'=>
   simp only[aa9.av3,aa9.counts,List.length_append];rw[ih a (List.mem_cons_self ..),ih' (fun b hb=>ih b (List.mem_cons_of_mem _ hb))]
theorem di1 {r:aa9}{al:Bool}:∀ a∈evs r al,a.length=2:=fun a ha=>by
 obtain ⟨p,_,rfl⟩:=List.mem_map.1 ha; rfl
theorem hj8 (r:aa9)(al:Bool):(evs r al).length=r.count:=by rw[evs,List.length_map,aa9.au6]
theorem di2 (r:aa9)(hf:r.fit)(hc:r.count<2^62):PC Tryz.prog EE 102 [.agg r.cs] (.int .i64 r.count):=by
 refine ao4 hE fok102 (nZ rfl) (ah6 (ax5 _)) ?_;have hl:r.cs.all IV.leaf=true:=by rw[aa9.au9]; rfl
 have ht:r.cs.take 7=r.cs:=List.take_of_length_le (by rw[ad5]; exact Nat.le_refl _);simp only[ic102,go_sem,hl,ht,ad5];refine ad3 fok84 (ea8 r _) ?_;rintro v s1 ⟨rfl,hb,hn,hs⟩;refine ⟨hn,?_⟩;simp only[go_sem] at hn hs hb ⊢;have h0:s1.obj 0=some (.cells [.int .i64 0]):=by rw[hs 0 (by omega)]; rfl
 have hb2:=hb.1;refine bx3 (cf3 r hf 1) (fun rest s=>boxed 1 s/\∃ n:Nat,s.obj 0=some (.cells [.int .i64 n])/\n+rest.length=r.count) (fun _ _ h=>h.1) ?_ di1 ?_ ?_ ?_
 ·rintro rest s s' ⟨⟨q1,q2⟩,n,q3,q4⟩ hn' hs';exact ⟨⟨by omega,by rw[hs' 1 q1]; exact q2⟩,n,by rw[hs' 0 (by omega)]; exact q3,q4⟩
 ·intro o;have e0:¬ 0=s1.next:=by omega
  have e1:¬ 1=s1.next:=by omega
  exact ⟨⟨by show 1<s1.next+1; omega,by simp only[aa2,e1,if_false]; exact hb.2⟩,0,by simp only[aa2,e0,if_false]; exact h0,by rw[hj8]; omega⟩
 ·rintro L pre a rest s hev ⟨⟨q1,q2⟩,n,q3,q4⟩ hL hlt;have ha:=di1 (r:=r) (al:=false) a (by rw[hev]; simp)
  match a,ha with
  | [x,y],_=>
   have e0:¬ 0=s1.next:=by omega
   have e1:¬ s1.next=0:=by omega
   have e2:¬ 1=s1.next:=by omega
   simp only[List.length_cons] at q4;have w1:=ad2 (i:=n) (by omega);have e3:¬ s1.next=1:=by omega
   simp only[go_sem,hL,e0,q3,e1,w1];refine cr1 (Nat.le_refl _) ?_ ⟨⟨q1,?_⟩,n+1,?_,by omega⟩
   ·simp only[aa2,if_true]
   ·have:¬ 1=0:=by omega
    simp only[aa2,e2,this,if_false]; exact q2
   ·simp only[aa2,e0,if_false,if_true]
 ·rintro s o ⟨⟨q1,q2⟩,n,q3,q4⟩ hlt ho;have e0:¬ 0=s1.next:=by omega
  have:n=r.count:=by simpa using q4
  subst this;simp only[go_sem,e0,q3];exact ac8 _ _
theorem fs4 (r:aa9):r.fit->∀ al,∀ p∈r.parts al,p.1.fit:=by
 induction r using aa9.ind with
 | h k d xs ih=>
  intro hf al p hp;simp only[aa9.parts,List.mem_cons] at hp;rcases hp with rfl|hp
  ·exact hf
  ·have hx:=(aa9.co4.1 hf).2.2.2.2;clear hf;generalize (al||decide (k=6)||decide (k=7))=al' at hp
   induction xs with
   | nil=>simp[aa9.av3] at hp
   | cons a xs ih'=>
    simp only[aa9.av3,List.mem_append] at hp;rcases hp with hp|hp
    ·exact ih a (List.mem_cons_self ..) (hx a (List.mem_cons_self ..)) _ p hp
    ·exact ih' (fun b hb=>ih b (List.mem_cons_of_mem _ hb)) (fun b hb=>hx b (List.mem_cons_of_mem _ hb)) hp
theorem gl5 (r:aa9):r.depth<=r.count:=by
 induction r using aa9.ind with
 | h k d xs ih=>
  simp only[aa9.depth,aa9.count];split
  ·omega
  ·apply Nat.succ_le_succ
   induction xs with
   | nil=>simp[aa9.bh3]
   | cons a xs ih'=>
    simp only[aa9.bh3,aa9.counts];have h1:=ih a (List.mem_cons_self ..);have h2:=ih' (fun b hb=>ih b (List.mem_cons_of_mem _ hb));omega
theorem ea9 (r:aa9)(wh:Int)(hf:r.fit)(hc:r.count<2^62):PC Tryz.prog EE 63 [.agg r.cs,.int .u8 wh] (.int .i64 (ar7 r wh)):=by
 refine ao4 hE fok63 (nZ rfl) (fun a ha=>by
  cases ha with
  | head=>exact ax5 _
  | tail _ ha=>cases ha with
   | head=>exact .int _ _
   | tail _ ha=>cases ha) ?_
 have hl:r.cs.all IV.leaf=true:=by rw[aa9.au9]; rfl
 have ht:r.cs.take 7=r.cs:=List.take_of_length_le (by rw[ad5]; exact Nat.le_refl _);have hdl:=gl5 r;by_cases a1:wh<1
 ·simp only[ic63,go_sem,hl,a1,ar7];exact ac8 _ _
 by_cases a2:3<wh
 ·simp only[ic63,go_sem,hl,a1,a2,ar7];exact ac8 _ _
 simp only[ic63,go_sem,hl,a1,a2,ht,ad5];refine aa5 fok102 (di2 r hf hc) ?_;by_cases a3:24<r.count
 ·have c3:(24:Int)<r.count:=by omega
  simp only[go_sem,c3,ar7,a1,a2,a3,or_self];exact ac8 _ _
 have c3:¬ (24:Int)<r.count:=by omega
 simp only[go_sem,c3,ht,ad5];refine aa5 fok103 (dh9 r hf (by omega)) ?_;by_cases a4:8<r.depth
 ·have c4:(8:Int)<r.depth:=by omega
  simp only[go_sem,c4,ar7,a1,a2,a3,a4,or_self];exact ac8 _ _
 have c4:¬ (8:Int)<r.depth:=by omega
 simp only[go_sem,c4,ht,ad5]
 have hres:ar7 r wh=if (r.parts false).all (fun p=>ah9 wh p.1 p.2)=true then 0 else 4:=by
  simp only[ar7,a1,a2,a3,a4,or_self,if_false]
 rw[hres];generalize hS:(Store.mk _ _)=s0;refine ad3 fok84 (ea8 r _) ?_;rintro v s1 ⟨rfl,hb,hn,hs⟩;have g0:s0.next=1:=by subst hS; simp only
 have g1:s0.obj 0=some (.cells [.int .i64 0]):=by subst hS; simp only[aa2,if_true]
 refine ⟨hn,?_⟩;rw[g0] at hb hn hs;have hb2:=hb.1;have h0:s1.obj 0=some (.cells [.int .i64 0]):=by rw[hs 0 (by omega),g1]
 have e0:¬ 0=s1.next:=by omega
 have e1:¬ s1.next=0:=by omega
 have e2:¬ 1=s1.next:=by omega
 simp only[go_sem,g0];refine bx3 (cf3 r hf 1) (fun rest s=>(boxed 1 s/\s.obj 0=some (.cells [.int .i64 0]))/\∃ ps:List (aa9×Bool),rest=ps.map row/\(∀ p∈ps,p.1.fit)/\(r.parts false).all (fun p:aa9×Bool=>ah9 wh p.1 p.2)=ps.all (fun p:aa9×Bool=>ah9 wh p.1 p.2)) (fun _ _ h=>h.1.1) ?_ di1 ?_ ?_ ?_
 ·rintro rest s s' ⟨⟨⟨q1,q2⟩,q3⟩,q4⟩ hn' hs';exact ⟨⟨⟨by omega,by rw[hs' 1 q1]; exact q2⟩,by rw[hs' 0 (by omega)]; exact q3⟩,q4⟩
 ·intro o;exact ⟨⟨⟨by show 1<s1.next+1; omega,by simp only[aa2,e2,if_false]; exact hb.2⟩,by simp only[aa2,e0,if_false]; exact h0⟩,_,rfl,fs4 r hf false,rfl⟩
 ·rintro L pre a rest s hev ⟨⟨⟨q1,q2⟩,q3⟩,ps,hps,hfp,hall⟩ hL hlt
  cases ps with
  | nil=>cases hps
  | cons p ps=>
   obtain ⟨⟨k,d,xs⟩,al⟩:=p;simp only[List.map_cons,List.cons.injEq] at hps;obtain ⟨rfl,rfl⟩:=hps;obtain ⟨f1,f2,f3,f4,f5⟩:=aa9.co4.1 (hfp _ (List.mem_cons_self ..));have hfp':∀ p∈ps,p.1.fit:=fun p hp=>hfp p (List.mem_cons_of_mem _ hp)
   simp only[List.all_cons] at hall;have u0:¬ 0=s.next:=by omega
   have u1:¬ s1.next=s.next:=by omega
   have u2:¬ s.next=s1.next:=by omega
   have u3:¬ 0=s.next+1:=by omega
   have u4:¬ s1.next=s.next+1:=by omega
   have u5:¬ s.next=s.next+1:=by omega
   simp only[row,aa9.au9,aa9.kind,aa9.dep,aa9.args,go_sem,hL,q3,e0,e1,u0,u1,u2,u3,u4,u5];have u6:¬ s.next+1=s1.next:=by omega
   have u7:¬ s.next+1=s.next:=by omega
   have u8:¬ s.next+1=0:=by omega
   have u9:¬ s.next=0:=by omega
   have u10:¬ 1=s.next:=by omega
   have u11:¬ 1=s.next+1:=by omega
   refine aa5 fok104 (fa9 k f1 f2) ?_;simp only[go_sem,gl4,q3,e0,e1,u0,u3,e2,u1,u2,u4,u5,u6,u7,u8,u9,u10,u11];have hstop:∀ ok:Bool,ah9 wh (.mk k d xs) al=ok->ah9 wh (.mk k d xs) al=ok:=fun _ h=>h
   by_cases b1:((asks k).2.2.2:Int)<wh
   ·have hok:ah9 wh (.mk k d xs) al=false:=by simp[ah9,aa9.kind,b1]
    simp only[go_sem,b1,q3,e0,e1,u0,u3,e2,u1,u2,u4,u5,u6,u7,u8,u9,u10,u11]
    (refine cn1 (by simp only[aa6]; omega) (by simp only[aa2,if_true]) ?_; simp only[go_sem,e2,u1,u2,u4,u5,u6,u7,u8,u9,u10,u11,e0,u0,u3]; rw[hall,hok]; exact ac8 _ _)
   by_cases b2:(al=true/\(asks k).2.2.1=false)
   ·have hok:ah9 wh (.mk k d xs) al=false:=by simp[ah9,aa9.kind,b2.1,b2.2]
    simp only[go_sem,b1,b2.1,b2.2,q3,e0,e1,u0,u3,e2,u1,u2,u4,u5,u6,u7,u8,u9,u10,u11]
    (refine cn1 (by simp only[aa6]; omega) (by simp only[aa2,if_true]) ?_; simp only[go_sem,e2,u1,u2,u4,u5,u6,u7,u8,u9,u10,u11,e0,u0,u3]; rw[hall,hok]; exact ac8 _ _)
   have hb2:(al&&!(asks k).2.2.1)=false:=by
    cases al<;>cases hx:(asks k).2.2.1<;>simp_all
   have hal:(al=false)\/(al=true/\(asks k).2.2.1=true):=by
    cases al<;>cases hx:(asks k).2.2.1<;>simp_all
   have hdd:decide (d=fo4)=(decide (d.name=[])&&(decide (d.op=0)&&(decide (d.evr.am6=0)&&(decide (d.evr.ver=[])&&decide (d.evr.rel=[]))))):=by
    obtain ⟨n,o,e,v,r⟩:=d;simp only[fo4,hp4,Dep.mk.injEq,EVR.mk.injEq,Bool.decide_and]
   have hpart:ah9 wh (.mk k d xs) al=(!(decide (((asks k).2.2.2:Int)<wh)||al&&!(asks k).2.2.1||decide (xs.length<(asks k).1)||decide ((asks k).2.1<xs.length))&&(if k=1 then an8 d else decide (d=fo4))):=rfl;have hdc:=cp4 d f3.1 f3.2.1 f3.2.2;rcases hal with h1|⟨h1,h2⟩
   ·by_cases b3:xs.length<(asks k).1
    ·have c3:(xs.length:Int)<(asks k).1:=by omega
     have hok:ah9 wh (.mk k d xs) al=false:=by simp[ah9,aa9.kind,aa9.args,b3]
     simp only[go_sem,b1,h1,c3,q3,e0,e1,u0,u3,e2,u1,u2,u4,u5,u6,u7,u8,u9,u10,u11]
     (refine cn1 (by simp only[aa6]; omega) (by simp only[aa2,if_true]) ?_; simp only[go_sem,e2,u1,u2,u4,u5,u6,u7,u8,u9,u10,u11,e0,u0,u3]; rw[hall,hok]; exact ac8 _ _)
    have c3:¬ (xs.length:Int)<(asks k).1:=by omega
    by_cases b4:(asks k).2.1<xs.length
    ·have c4:((asks k).2.1:Int)<xs.length:=by omega
     have hok:ah9 wh (.mk k d xs) al=false:=by simp[ah9,aa9.kind,aa9.args,b4]
     simp only[go_sem,b1,h1,c3,c4,q3,e0,e1,u0,u3,e2,u1,u2,u4,u5,u6,u7,u8,u9,u10,u11]
     (refine cn1 (by simp only[aa6]; omega) (by simp only[aa2,if_true]) ?_; simp only[go_sem,e2,u1,u2,u4,u5,u6,u7,u8,u9,u10,u11,e0,u0,u3]; rw[hall,hok]; exact ac8 _ _)
    have c4:¬ ((asks k).2.1:Int)<xs.length:=by omega
    by_cases hk:k=1
    ·have hkd:decide (k=1)=true:=decide_eq_true hk;simp only[go_sem,b1,h1,c3,c4,hkd,q3,e0,e1,u0,u3,e2,u1,u2,u4,u5,u6,u7,u8,u9,u10,u11,bt2];refine aa5 fok58 hdc ?_
     cases hd:an8 d with
     | false=>
      have hok:ah9 wh (.mk k d xs) al=false:=by simp[ah9,aa9.kind,aa9.args,aa9.dep,hk,hd]
      simp only[go_sem,q3,e0,e1,u0,u3,e2,u1,u2,u4,u5,u6,u7,u8,u9,u10,u11]
      (refine cn1 (by simp only[aa6]; omega) (by simp only[aa2,if_true]) ?_; simp only[go_sem,e2,u1,u2,u4,u5,u6,u7,u8,u9,u10,u11,e0,u0,u3]; rw[hall,hok]; exact ac8 _ _)
     | true=>
      have hok:ah9 wh (.mk k d xs) al=true:=by
       rw[hpart,decide_eq_false b1,hb2,decide_eq_false b3,decide_eq_false b4,if_pos hk,hd]; rfl
      simp only[go_sem,hkd,q3,e0,e1,u0,u3,e2,u1,u2,u4,u5,u6,u7,u8,u9,u10,u11]
      (refine cr1 (by simp only[aa6]; omega) (by simp only[aa2,if_true]) ⟨⟨⟨by simp only[aa6]; omega,by simp only[aa2,e2,u1,u2,u4,u5,u6,u7,u8,u9,u10,u11,if_false]; exact q2⟩,by simp only[aa2,e0,u0,u3,if_false]; exact q3⟩,ps,rfl,hfp',by rw[hall,hok,Bool.true_and]⟩)
    ·simp only[go_sem,b1,h1,c3,c4,hk,q3,e0,e1,u0,u3,e2,u1,u2,u4,u5,u6,u7,u8,u9,u10,u11,bt2];rw[<- hdd];by_cases hd:d=fo4
     ·have hok:ah9 wh (.mk k d xs) al=true:=by
       rw[hpart,decide_eq_false b1,hb2,decide_eq_false b3,decide_eq_false b4,if_neg hk,decide_eq_true hd]; rfl
      have hd1:decide (d=fo4)=true:=decide_eq_true hd;simp only[go_sem,hd1,q3,e0,e1,u0,u3,e2,u1,u2,u4,u5,u6,u7,u8,u9,u10,u11]
      (refine cr1 (by simp only[aa6]; omega) (by simp only[aa2,if_true]) ⟨⟨⟨by simp only[aa6]; omega,by simp only[aa2,e2,u1,u2,u4,u5,u6,u7,u8,u9,u10,u11,if_false]; exact q2⟩,by simp only[aa2,e0,u0,u3,if_false]; exact q3⟩,ps,rfl,hfp',by rw[hall,hok,Bool.true_and]⟩)
     ·have hok:ah9 wh (.mk k d xs) al=false:=by simp[ah9,aa9.kind,aa9.args,aa9.dep,hk,hd]
      have hd1:decide (d=fo4)=false:=decide_eq_false hd;simp only[go_sem,hd1,q3,e0,e1,u0,u3,e2,u1,u2,u4,u5,u6,u7,u8,u9,u10,u11]
      (refine cn1 (by simp only[aa6]; omega) (by simp only[aa2,if_true]) ?_; simp only[go_sem,e2,u1,u2,u4,u5,u6,u7,u8,u9,u10,u11,e0,u0,u3]; rw[hall,hok]; exact ac8 _ _)
   ·by_cases b3:xs.length<(asks k).1
    ·have c3:(xs.length:Int)<(asks k).1:=by omega
     have hok:ah9 wh (.mk k d xs) al=false:=by simp[ah9,aa9.kind,aa9.args,b3]
     simp only[go_sem,b1,h1,h2,c3,q3,e0,e1,u0,u3,e2,u1,u2,u4,u5,u6,u7,u8,u9,u10,u11]
     (refine cn1 (by simp only[aa6]; omega) (by simp only[aa2,if_true]) ?_; simp only[go_sem,e2,u1,u2,u4,u5,u6,u7,u8,u9,u10,u11,e0,u0,u3]; rw[hall,hok]; exact ac8 _ _)
    have c3:¬ (xs.length:Int)<(asks k).1:=by omega
    by_cases b4:(asks k).2.1<xs.length
    ·have c4:((asks k).2.1:Int)<xs.length:=by omega
     have hok:ah9 wh (.mk k d xs) al=false:=by simp[ah9,aa9.kind,aa9.args,b4]
     simp only[go_sem,b1,h1,h2,c3,c4,q3,e0,e1,u0,u3,e2,u1,u2,u4,u5,u6,u7,u8,u9,u10,u11]
     (refine cn1 (by simp only[aa6]; omega) (by simp only[aa2,if_true]) ?_; simp only[go_sem,e2,u1,u2,u4,u5,u6,u7,u8,u9,u10,u11,e0,u0,u3]; rw[hall,hok]; exact ac8 _ _)
    have c4:¬ ((asks k).2.1:Int)<xs.length:=by omega
    by_cases hk:k=1
    ·have hkd:decide (k=1)=true:=decide_eq_true hk;simp only[go_sem,b1,h1,h2,c3,c4,hkd,q3,e0,e1,u0,u3,e2,u1,u2,u4,u5,u6,u7,u8,u9,u10,u11,bt2];refine aa5 fok58 hdc ?_
     cases hd:an8 d with
     | false=>
      have hok:ah9 wh (.mk k d xs) al=false:=by simp[ah9,aa9.kind,aa9.args,aa9.dep,hk,hd]
      simp only[go_sem,q3,e0,e1,u0,u3,e2,u1,u2,u4,u5,u6,u7,u8,u9,u10,u11]
      (refine cn1 (by simp only[aa6]; omega) (by simp only[aa2,if_true]) ?_; simp only[go_sem,e2,u1,u2,u4,u5,u6,u7,u8,u9,u10,u11,e0,u0,u3]; rw[hall,hok]; exact ac8 _ _)
     | true=>
      have hok:ah9 wh (.mk k d xs) al=true:=by
       rw[hpart,decide_eq_false b1,hb2,decide_eq_false b3,decide_eq_false b4,if_pos hk,hd]; rfl
      simp only[go_sem,hkd,q3,e0,e1,u0,u3,e2,u1,u2,u4,u5,u6,u7,u8,u9,u10,u11]
      (refine cr1 (by simp only[aa6]; omega) (by simp only[aa2,if_true]) ⟨⟨⟨by simp only[aa6]; omega,by simp only[aa2,e2,u1,u2,u4,u5,u6,u7,u8,u9,u10,u11,if_false]; exact q2⟩,by simp only[aa2,e0,u0,u3,if_false]; exact q3⟩,ps,rfl,hfp',by rw[hall,hok,Bool.true_and]⟩)
    ·simp only[go_sem,b1,h1,h2,c3,c4,hk,q3,e0,e1,u0,u3,e2,u1,u2,u4,u5,u6,u7,u8,u9,u10,u11,bt2];rw[<- hdd];by_cases hd:d=fo4
     ·have hok:ah9 wh (.mk k d xs) al=true:=by
       rw[hpart,decide_eq_false b1,hb2,decide_eq_false b3,decide_eq_false b4,if_neg hk,decide_eq_true hd]; rfl
      have hd1:decide (d=fo4)=true:=decide_eq_true hd;simp only[go_sem,hd1,q3,e0,e1,u0,u3,e2,u1,u2,u4,u5,u6,u7,u8,u9,u10,u11]
      (refine cr1 (by simp only[aa6]; omega) (by simp only[aa2,if_true]) ⟨⟨⟨by simp only[aa6]; omega,by simp only[aa2,e2,u1,u2,u4,u5,u6,u7,u8,u9,u10,u11,if_false]; exact q2⟩,by simp only[aa2,e0,u0,u3,if_false]; exact q3⟩,ps,rfl,hfp',by rw[hall,hok,Bool.true_and]⟩)
     ·have hok:ah9 wh (.mk k d xs) al=false:=by simp[ah9,aa9.kind,aa9.args,aa9.dep,hk,hd]
      have hd1:decide (d=fo4)=false:=decide_eq_false hd;simp only[go_sem,hd1,q3,e0,e1,u0,u3,e2,u1,u2,u4,u5,u6,u7,u8,u9,u10,u11]
      (refine cn1 (by simp only[aa6]; omega) (by simp only[aa2,if_true]) ?_; simp only[go_sem,e2,u1,u2,u4,u5,u6,u7,u8,u9,u10,u11,e0,u0,u3]; rw[hall,hok]; exact ac8 _ _)
 ·rintro s o ⟨⟨⟨q1,q2⟩,q3⟩,ps,hps,_,hall⟩ hlt ho;have:ps=[]:=by cases ps with|nil=>rfl|cons _ _=>cases hps
  subst this;rw[hall];simp only[go_sem,e0,q3,List.all_nil];exact ac8 _ _
end Go.Id.Tryz
