/- Names,versions,architectures,operators: what the program tells of them. Conditions: none. -/
import Derived.Test.YtjpdjifjokldlaaGreatDoorGPT
import Derived.Test.YtjpdjifjokldlaaGreatDoorFwQ
import Derived.Test.YtjpdjifjokldlaaGreatDoorMv
set_option linter.all false
namespace Go.Id.Tryz
open Go Go.Id Go.Proofs Go.Id.Md
def io5:List (Nat×List IV):=[(0,words.map .str),(1,[.am4 opsL])]
abbrev EE:Nat->IV:=ex5 io5
theorem hE:∀ g,Bnd 0 (EE g):=ha6 (by kernel_rfl)
theorem E0:EE 0=.ad4 [.str [97,110,100],.str [111,114],.str [105,102],.str [101,108,115,101],.str [117,110,108,101,115,115],.str [119,105,116,104],.str [119,105,116,104,111,117,116]]:=rfl
theorem E1:EE 1=.ad4 [.am4 opsL]:=rfl
theorem df5 (s:Str)(b:UInt8):PC Tryz.prog EE 117 [.str s,.int .u8 b.toNat] (.int .i64 (dr8 b.toNat s 0)):=by
 refine aw2 fok117 (nZ rfl) fun σ=>?_
 have h1:(0:Int)<=b.toNat:=by omega
 have h2:(b.toNat:Int)<256:=by have:=b.toNat_lt; omega
 simp only[ic117,go_sem,h1,h2,Int.toNat_natCast,and_self]
theorem as9 (s:Str)(b:UInt8):PC Tryz.prog EE 82 [.str s,.int .u8 b.toNat] (.int .i64 (dr8 b.toNat s 0)):=by
 refine aw2 fok82 (nZ rfl) fun σ=>?_
 simp only[ic82,go_sem];refine aa4 fok117 (df5 s b) ?_;simp only[go_sem,and_self]
theorem df6 (s t:Str):PC Tryz.prog EE 118 [.str s,.str t] (.bool (decide (t.length<=s.length)&&decide (s.take t.length=t))):=by
 refine aw2 fok118 (nZ rfl) fun σ=>?_
 by_cases h:t.length<=s.length
 ·have h1:(t.length:Int)<=s.length:=by omega
  have h2:(0:Int)<=t.length:=by omega
  simp only[ic118,go_sem,h,h1,bs2,bs1,cm6,h2,Int.toNat_natCast,Nat.zero_le,and_self,List.drop_zero,Bool.true_and,dw5,dw6,Option.map]
 ·have h1:¬ (t.length:Int)<=s.length:=by omega
  simp only[ic118,go_sem,h,h1,Bool.false_and,and_self]
theorem dp9 (s t:Str):PC Tryz.prog EE 83 [.str s,.str t] (.bool (decide (t.length<=s.length)&&decide (s.take t.length=t))):=by
 refine aw2 fok83 (nZ rfl) fun σ=>?_
 simp only[ic83,go_sem];refine aa4 fok118 (df6 s t) ?_;simp only[go_sem,and_self]
theorem fs6 (a:Int):PC Tryz.prog EE 85 [.int .u8 a] (.bool (bl5 a)):=by
 refine aw2 fok85 (nZ rfl) fun σ=>?_
 by_cases h:1<=a
 ·simp only[ic85,go_sem,bl5,h,Bool.true_and,and_self]
 ·simp only[ic85,go_sem,bl5,h,Bool.false_and,and_self]
def cy8:List IV:=[.str [],.str [110,111,97,114,99,104],.str [120,56,54,95,54,52],.str [105,54,56,54],.str [97,97,114,99,104,54,52]]
theorem dq1:PC Tryz.prog EE 86 [] (.agg cy8):=by
 refine aj6 hE fok86 (nZ rfl) (fun a h=>by cases h) ?_;simp only[ic86,go_sem];exact .keep _ (ak5 10 _ (by kernel_rfl))
def ba5 (a:Int):Str:=if a=1 then [110,111,97,114,99,104] else if a=2 then [120,56,54,95,54,52] else if a=3 then [105,54,56,54] else if a=4 then [97,97,114,99,104,54,52] else []
theorem bc2 (a:Int):decide (ba5 a=[])=!bl5 a:=by
 unfold ba5 bl5
 repeat' split
 all_goals first|(subst_vars; rfl)|skip
 have:¬ (1<=a/\a<=4):=by omega
 have h:(decide (1<=a)&&decide (a<=4))=false:=by simpa using this
 rw[h]; rfl
theorem dy4 (a:Int):PC Tryz.prog EE 61 [.int .u8 a] (.str (ba5 a)):=by
 refine aw2 fok61 (nZ rfl) fun σ=>?_
 simp only[ic61,go_sem];refine aa4 fok85 (fs6 a) ?_;simp only[go_sem]
 cases h:bl5 a with
 | false=>
  have h1:=bc2 a;rw[h] at h1;have h2:ba5 a=[]:=by simpa using h1
  simp only[go_sem,h2,and_self]
 | true=>
  have h1:1<=a/\a<=4:=by simpa [bl5] using h
  simp only[go_sem];refine aa4 fok86 dq1 ?_;have h2:a=1\/a=2\/a=3\/a=4:=by omega
  rcases h2 with rfl|rfl|rfl|rfl<;>(simp only[go_sem,cy8]; first|rfl|exact ⟨rfl,rfl⟩)
theorem eh1 (c:UInt8):∀ (l:Str) (i:Nat),decide (0<=dr8 c.toNat l i)=l.contains c:=by
 intro l
 induction l with
 | nil=>intro i; rfl
 | cons b l ih=>
  intro i;simp only[dr8,List.contains_cons];split
  ·rename_i h;have:c=b:=(UInt8.toNat_inj.1 h).symm;subst this;simp
  ·rename_i h;have:(c==b)=false:=by simp only[beq_eq_false_iff_ne,ne_eq]; intro e; subst e; exact h rfl
   rw[this,Bool.false_or];exact ih (i+1)
theorem cf2 {p:UInt8->Bool}{s:Str}{i:Nat}(h:i<s.length):(s.take (i+1)).all p=((s.take i).all p&&p s[i]):=by
 rw[List.take_add_one,List.getElem?_eq_getElem h];simp only[Option.toList,List.all_append,List.all_cons,List.all_nil,Bool.and_true]
theorem ba6 {p:UInt8->Bool}{s:Str}{i:Nat}(h:i<s.length)(hp:p s[i]=false):s.all p=false:=by
 rw[List.all_eq_false];exact ⟨s[i],List.getElem_mem h,by simp[hp]⟩
theorem cy9 (s:Str)(hs:s.length<2^62):PC Tryz.prog EE 84 [.str s] (.bool (as7 s)):=by
 refine aw2 fok84 (nZ rfl) fun σ=>?_
 by_cases h0:s=[]
 ·subst h0;simp only[ic84,go_sem];rfl
 have hl:1<=s.length:=by cases s with|nil=>exact absurd rfl h0|cons _ _=>simp
 by_cases h1:s.length<=64
 ·have h1':¬ (64:Int)<s.length:=by omega
  simp only[ic84,go_sem,h0,h1'];refine ac2 noT (fun i fr s'=>s'=σ/\fr=[(0,.str s),(13,.int .i64 s.length),(14,.int .i64 i)]/\(s.take i).all bd3=true) s.length ⟨rfl,rfl,rfl⟩ ?_;rintro i fr s' hi ⟨rfl,rfl,ha⟩;by_cases hlt:i<s.length
  ·have c1:(i:Int)<s.length:=by omega
   have c2:(0:Int)<=i:=by omega
   simp only[go_sem,c1,c2,List.getElem?_eq_getElem hlt];have fin:bd3 s[i]=false->as7 s=false:=fun h=>by simp only[as7,ba6 hlt h,Bool.and_false]
   have step:bd3 s[i]=true->(s.take (i+1)).all bd3=true:=fun h=>by rw[cf2 hlt,ha,h]; rfl
   have w1:=af6 (i:=i) (by omega)
   have hv:bd3 s[i]=(decide ((97:Int)<=s[i].toNat)&&decide ((s[i].toNat:Int)<=122)||decide ((65:Int)<=s[i].toNat)&&decide ((s[i].toNat:Int)<=90)||decide ((48:Int)<=s[i].toNat)&&decide ((s[i].toNat:Int)<=57) || [46,95,43,126,94].contains s[i]):=by
    simp only[bd3,fq2];congr 1;congr 1
    ·congr 1<;>congr 1<;>(apply decide_eq_decide.2; omega)
    ·congr 1<;>(apply decide_eq_decide.2; omega)
   generalize s[i]=b at *
   have last:∀ (k1:¬ ((97:Int)<=b.toNat/\(b.toNat:Int)<=122)) (k2:¬ ((65:Int)<=b.toNat/\(b.toNat:Int)<=90)) (k3:¬ ((48:Int)<=b.toNat/\(b.toNat:Int)<=57)),bd3 b=decide (0<=dr8 b.toNat [46,95,43,126,94] 0):=fun k1 k2 k3=>by
    rw[eh1,hv];simp only[<- Bool.decide_and,decide_eq_false k1,decide_eq_false k2,decide_eq_false k3,Bool.false_or]
   by_cases k1:(97:Int)<=b.toNat
   ·by_cases k2:(b.toNat:Int)<=122
    ·simp only[go_sem,k1,k2,w1];exact ⟨hlt,step (by rw[hv]; simp only[k1,k2,go_sem])⟩
    ·have k3:(65:Int)<=b.toNat:=by omega
     have k4:¬ (b.toNat:Int)<=90:=by omega
     have k5:(48:Int)<=b.toNat:=by omega
     have k6:¬ (b.toNat:Int)<=57:=by omega
     simp only[go_sem,k1,k2,k3,k4,k5,k6];refine aa4 fok82 (as9 _ b) ?_;have hl:=last (by omega) (by omega) (by omega);simp only[go_sem,ge_iff_le,<- hl]
     cases hb:bd3 b with
     | true=>simp only[go_sem,w1]; exact ⟨hlt,step hb⟩
     | false=>simp only[go_sem,fin hb,and_self]
   ·by_cases k3:(65:Int)<=b.toNat
    ·by_cases k4:(b.toNat:Int)<=90
     ·simp only[go_sem,k1,k3,k4,w1];exact ⟨hlt,step (by rw[hv]; simp only[k1,k3,k4,go_sem])⟩
     ·have k5:(48:Int)<=b.toNat:=by omega
      have k6:¬ (b.toNat:Int)<=57:=by omega
      simp only[go_sem,k1,k3,k4,k5,k6];refine aa4 fok82 (as9 _ b) ?_;have hl:=last (by omega) (by omega) (by omega);simp only[go_sem,ge_iff_le,<- hl]
      cases hb:bd3 b with
      | true=>simp only[go_sem,w1]; exact ⟨hlt,step hb⟩
      | false=>simp only[go_sem,fin hb,and_self]
    ·by_cases k5:(48:Int)<=b.toNat
     ·by_cases k6:(b.toNat:Int)<=57
      ·simp only[go_sem,k1,k3,k5,k6,w1];exact ⟨hlt,step (by rw[hv]; simp only[k1,k3,k5,k6,go_sem])⟩
      ·simp only[go_sem,k1,k3,k5,k6];refine aa4 fok82 (as9 _ b) ?_;have hl:=last (by omega) (by omega) (by omega);simp only[go_sem,ge_iff_le,<- hl]
       cases hb:bd3 b with
       | true=>simp only[go_sem,w1]; exact ⟨hlt,step hb⟩
       | false=>simp only[go_sem,fin hb,and_self]
     ·simp only[go_sem,k1,k3,k5];refine aa4 fok82 (as9 _ b) ?_;have hl:=last (by omega) (by omega) (by omega);simp only[go_sem,ge_iff_le,<- hl]
      cases hb:bd3 b with
      | true=>simp only[go_sem,w1]; exact ⟨hlt,step hb⟩
      | false=>simp only[go_sem,fin hb,and_self]
  ·have hi':i=s.length:=by omega
   have c1:¬ (i:Int)<s.length:=by omega
   simp only[go_sem,c1];subst hi';rw[List.take_length] at ha;simp only[as7,ha,go_sem,hl,h1,and_self]
 ·have h1':(64:Int)<s.length:=by omega
  simp only[ic84,go_sem,h0,h1',as7,h1,Bool.and_false,Bool.false_and,and_self]
theorem dq2 (e:EVR)(dep:Bool)(h1:e.ver.length<2^62)(h2:e.rel.length<2^62):PC Tryz.prog EE 60 [.agg e.cs,.bool dep] (.bool (ay3 e dep)):=by
 obtain ⟨ep,ver,rel⟩:=e;refine aw2 fok60 (nZ rfl) fun σ=>?_
 have hw:=cy9 ver h1;have hw':=cy9 rel h2;by_cases a1:(0:Int)<=ep
 ·by_cases a2:ep<=2147483647
  ·simp only[ic60,go_sem,EVR.cs,ay3,a1,a2];refine aa4 fok84 hw ?_;simp only[go_sem]
   cases hv:as7 ver with
   | false=>simp only[go_sem,and_self]
   | true=>
    simp only[go_sem];refine aa4 fok84 hw' ?_;simp only[go_sem]
    cases hr:as7 rel with
    | true=>simp only[go_sem,and_self]
    | false=>
     cases dep with
     | true=>
      simp only[go_sem]
      cases rel<;>first|rfl|exact ⟨rfl,rfl⟩
     | false=>simp only[go_sem,and_self]
  ·simp only[ic60,go_sem,EVR.cs,ay3,a1,a2,and_self]
 ·simp only[ic60,go_sem,EVR.cs,ay3,a1,and_self]
theorem dy5 (n:Int):PC Tryz.prog EE 119 [.int .u8 n] (.str (do8 n)):=by
 obtain ⟨_,pf,an,h⟩:=fok119;exact fr7 (g:=1) h E1
theorem gl1 (n:Int):de1 n=(decide (n=0) || !decide (do8 n=[])):=by
 unfold de1 do8;by_cases h0:n=0
 ·subst h0; rfl
 by_cases h1:n=1
 ·subst h1; rfl
 by_cases h2:n=2
 ·subst h2; rfl
 by_cases h3:n=3
 ·subst h3; rfl
 by_cases h4:n=4
 ·subst h4; rfl
 by_cases h6:n=6
 ·subst h6; rfl
 simp[h0,h1,h2,h3,h4,h6]
theorem ez7 (n:Int):PC Tryz.prog EE 88 [.int .u8 n] (.bool (de1 n)):=by
 refine aw2 fok88 (nZ rfl) fun σ=>?_
 rw[gl1];by_cases h:n=0
 ·simp only[ic88,go_sem,h,and_self]
 ·simp only[ic88,go_sem,h];refine aa4 fok119 (dy5 n) ?_;simp only[go_sem,and_self]
theorem hm5 (c:UInt8)(l:Str)(i:Nat):decide (dr8 c.toNat l i<0)=!l.contains c:=by
 rw[<- eh1 c l i,<- decide_not];exact decide_eq_decide.2 (by omega)
def gv4:List IV:=[.str [97,110,100],.str [111,114],.str [105,102],.str [101,108,115,101],.str [117,110,108,101,115,115],.str [119,105,116,104],.str [119,105,116,104,111,117,116]]
theorem eh2 {b:UInt8}(h:ay2 b=true):b.toNat<=126:=by
 have:b∈signs:=by simpa [ay2,List.contains_iff_mem] using h
 revert this
 have:∀ b∈signs,b.toNat<=126:=by decide +kernel
 exact this b
theorem ca1 (s:Str)(hs:s.length<2^62):PC Tryz.prog EE 58 [.str s] (.bool (am8 s)):=by
 refine aj6 hE fok58 (nZ rfl) (fun a h=>by cases h with|head=>exact .str _|tail _ h=>cases h) ?_;by_cases h1:1<=s.length
 ·by_cases h2:s.length<=64
  ·have c1:¬ (s.length:Int)<1:=by omega
   have c2:¬ (64:Int)<s.length:=by omega
   simp only[ic58,go_sem,c1,c2];refine gs8 noT (fun m fr σ=>(fr.get 0=.str s/\fr.get 16=.ptr 0 0)/\∃ pos,σ.obj 0=some (.as1 s pos)/\pos<=s.length/\m=s.length-pos/\(s.take pos).all ay2=true) s.length ⟨⟨rfl,rfl⟩,0,rfl,Nat.zero_le _,rfl,rfl⟩ ?_;rintro m fr σ ⟨⟨f0,f16⟩,pos,ho,hp,rfl,ha⟩;by_cases hlt:pos<s.length
   ·simp only[go_sem,f0,f16,ho,hlt,bb7,gg9];by_cases hb:s[pos].toNat<128
    ·rw[en1 s pos hlt hb];by_cases hb2:s[pos].toNat<=126
     ·have d1:¬ (126:Int)<s[pos].toNat:=by omega
      have d2:IntKind.u8.wrap (s[pos].toNat:Int)=s[pos].toNat:=by
       have:=s[pos].toNat_lt;simp[IntKind.wrap,IntKind.bits,IntKind.signed];omega
      simp only[go_sem,d1,d2];refine aa4 (v:=.int .i64 (dr8 s[pos].toNat signs 0)) fok82 (as9 signs s[pos]) ?_;have hi:decide (dr8 s[pos].toNat signs 0<0)=!ay2 s[pos]:=hm5 s[pos] signs 0;simp only[go_sem,hi]
      cases hg:ay2 s[pos] with
      | true=>
       simp only[go_sem]
       exact ⟨s.length-(pos+1),by omega,pos+1,rfl,hlt,rfl,by rw[cf2 hlt,ha,hg]; rfl⟩
      | false=>
       simp only[go_sem,am8,ba6 hlt hg];exact ab1 _
     ·have d1:(126:Int)<s[pos].toNat:=by omega
      have hg:ay2 s[pos]=false:=by
       cases h:ay2 s[pos] with
       | false=>rfl
       | true=>exact absurd (eh2 h) hb2
      simp only[go_sem,d1,am8,ba6 hlt hg];exact ab1 _
    ·have h3:=decode_high s pos hlt hb;generalize Utf8.decode ⟨s.toArray⟩ pos=dd at h3 ⊢;have d1:(126:Int)<dd.1:=by omega
     have hg:ay2 s[pos]=false:=by
      cases h:ay2 s[pos] with
      | false=>rfl
      | true=>have:=eh2 h; omega
     simp only[go_sem,d1,am8,ba6 hlt hg];exact ab1 _
   ·have hpe:pos=s.length:=by omega
    subst hpe;rw[List.take_length] at ha;simp only[go_sem,f0,f16,ho,bb7,gg9,Nat.lt_irrefl,E0];refine ac2 noT (fun i fr σ=>fr=[(0,.str s),(28,.agg gv4),(29,.int .i64 i)]/\∀ w∈words.take i,s≠w) 7 ⟨rfl,fun w h=>by simp at h⟩ ?_;rintro i fr σ hi ⟨rfl,hw⟩;by_cases hlt:i<7
    ·have e1:(i:Int)<7:=by omega
     have e2:(0:Int)<=i:=by omega
     have w1:=af6 (i:=i) (by omega)
     obtain ⟨w,h3,h4,h5⟩:∃ w,gv4[i]? = some (.str w)/\words.take (i+1)=words.take i++[w]/\w∈words:=by
      have:i=0\/i=1\/i=2\/i=3\/i=4\/i=5\/i=6:=by omega
      rcases this with rfl|rfl|rfl|rfl|rfl|rfl|rfl<;>exact ⟨_,rfl,rfl,by decide⟩
     simp only[go_sem,e1,e2,Nat.mul_one,h3];by_cases hsw:s=w
     ·subst hsw;have:words.contains s=true:=by simpa using h5
      simp only[go_sem,am8,this];exact ab1 _
     ·simp only[go_sem,hsw,w1];refine ⟨hlt,?_⟩;rw[h4];intro x hx;rcases List.mem_append.1 hx with h|h
      ·exact hw x h
      ·have:x=w:=by simpa using h
       rw[this]; exact hsw
    ·have hi7:i=7:=by omega
     subst hi7
     have:words.contains s=false:=by
      cases h:words.contains s with
      | false=>rfl
      | true=>exact absurd rfl (hw s (by rw[show words.take 7=words from rfl]; simpa using h))
     have e7:¬ ((7:Nat):Int)<7:=by omega
     simp only[go_sem,e7,am8,this,h1,h2,ha,Int.lt_irrefl];exact ab1 _
  ·have c1:¬ (s.length:Int)<1:=by omega
   have c2:(64:Int)<s.length:=by omega
   simp only[ic58,go_sem,c1,c2,am8,h1,h2];exact ab1 _
 ·have c1:(s.length:Int)<1:=by omega
  simp only[ic58,go_sem,c1,am8,h1];exact ab1 _
theorem ca2 (s:Str)(hs:s.length<2^62):PC Tryz.prog EE 59 [.str s] (.bool (aq3 s)):=by
 refine aw2 fok59 (nZ rfl) fun σ=>?_
 simp only[ic59,go_sem];refine aa4 fok58 (ca1 s hs) ?_;simp only[go_sem]
 cases h:am8 s with
 | false=>simp only[go_sem,aq3,h,and_self]
 | true=>
  simp only[go_sem];refine aa4 fok83 (dp9 s [47]) ?_
  have:(decide ([47].length<=s.length)&&decide (s.take [47].length=[47]))=(s.head? == some 47):=by
   cases s with
   | nil=>rfl
   | cons b l=>simp[eq_comm]; by_cases hb:b=47<;>simp[hb]
  simp only[List.length_cons,List.length_nil] at this;simp only[go_sem,aq3,h,this,and_self]
theorem ck9 (d:Dep)(h1:d.name.length<2^62)(h2:d.evr.ver.length<2^62)(h3:d.evr.rel.length<2^62):PC Tryz.prog EE 63 [.agg d.cs] (.bool (ah7 d)):=by
 obtain ⟨name,op,ep,ver,rel⟩:=d;refine aw2 fok63 (nZ rfl) fun σ=>?_
 simp only[ic63,go_sem,Dep.cs];refine aa4 fok58 (ca1 name h1) ?_;simp only[go_sem]
 cases hn:am8 name with
 | false=>simp only[go_sem,ah7,hn,and_self]
 | true=>
  simp only[go_sem];refine aa4 fok88 (ez7 op) ?_;simp only[go_sem]
  cases ho:de1 op with
  | false=>simp only[go_sem,ah7,hn,ho,and_self]
  | true=>
   by_cases h0:op=0
   ·subst h0
    have hd:ah7 ⟨name,0,ep,ver,rel⟩=(decide (ep=0)&&(decide (ver=[])&&decide (rel=[]))):=by
     simp only[ah7,hn,ho,go_sem,fq3,EVR.mk.injEq,Bool.decide_and]
    simp only[go_sem,hd,and_self]
   ·simp only[go_sem,h0];refine aa4 fok59 (ca2 name h1) ?_;simp only[go_sem]
    cases hf:aq3 name with
    | true=>simp only[go_sem,ah7,hn,ho,h0,hf,and_self]
    | false=>
     simp only[go_sem];refine aa4 (v:=.bool (ay3 ⟨ep,ver,rel⟩ true)) fok60 (dq2 ⟨ep,ver,rel⟩ true h2 h3) ?_;simp only[go_sem,ah7,hn,ho,h0,hf,and_self]
def gl2 (k:Int):List IV:=[.int .i64 (asks k).1,.int .i64 (asks k).2.1,.bool (asks k).2.2.1,.int .u8 (asks k).2.2.2]
theorem ez8 (k:Int)(h1:0<=k)(h2:k<256):PC Tryz.prog EE 97 [.int .u8 k] (.agg (gl2 k)):=by
 have w:=wrap64 (x:=k) (by omega) (by omega);by_cases h8:8<=k
 ·refine aj6 hE fok97 (nZ rfl) (fun a h=>by cases h with|head=>exact .int _ _|tail _ h=>cases h) ?_;simp only[ic97,go_sem,w,h8]
  have:gl2 k=[.int .i64 0,.int .i64 0,.bool false,.int .u8 0]:=by
   unfold gl2 asks;rw[if_neg (by omega),if_neg (by omega),if_neg (by omega),if_neg (by omega),if_neg (by omega),if_neg (by omega),if_neg (by omega)];rfl
  rw[this];exact .keep _ (ak5 10 _ (by kernel_rfl))
 ·have:k=0\/k=1\/k=2\/k=3\/k=4\/k=5\/k=6\/k=7:=by omega
  rcases this with rfl|rfl|rfl|rfl|rfl|rfl|rfl|rfl
  all_goals
   refine aj6 hE fok97 (nZ rfl) (fun a h=>by cases h with|head=>exact .int _ _|tail _ h=>cases h) ?_;simp only[ic97,go_sem,w];exact .keep _ (ak5 10 _ (by kernel_rfl))
theorem df7 (d:Dep):∀ c∈d.cs,Bnd 0 c:=by
 intro c hc;simp only[Dep.cs,List.mem_cons,List.not_mem_nil,or_false] at hc;rcases hc with rfl|rfl|rfl|rfl|rfl<;>first|exact .str _|exact .int _ _
theorem eh3 (r:aa9):∀ c∈r.cs,Bnd 0 c:=by
 induction r using aa9.ind with
 | h k d xs ih=>
  intro c hc;rw[aa9.an4] at hc;simp only[List.mem_cons,List.not_mem_nil,or_false] at hc;rcases hc with rfl|rfl|rfl|rfl|rfl|rfl|rfl<;>first|exact .str _|exact .int _ _|skip
  refine .aa3 _ fun e he c hc=>?_
  obtain ⟨a,ha,rfl⟩:=List.mem_map.1 he;exact ih a ha c hc
theorem am3 (r:aa9):Bnd 0 (.agg r.cs):=.agg _ (eh3 r)
theorem ac6 (r:aa9):r.cs.length=7:=by rw[aa9.an4]; rfl
theorem af7 {P:IV->Prop}{v:IV}(h:P v):∀ a∈[v],P a:=fun a ha=>by
 cases ha with
 | head=>exact h
 | tail _ h=>cases h
theorem cl1 (a:aa9)(xs:List aa9):aa9.ay4 (a::xs)=max a.depth (aa9.ay4 xs):=by simp only[aa9.ay4]
theorem hm6 (n m:Nat):(if (m:Int)>(n:Int) then (m:Int) else n)=((max n m:Nat):Int):=by
 split<;>omega
theorem df8 (r:aa9):r.fit->r.depth<2^62->PC Tryz.prog EE 95 [.agg r.cs] (.int .i64 r.depth):=by
 induction r using aa9.ind with
 | h k d xs ih=>
  intro hf hd;obtain ⟨f1,f2,f3,f4,f5⟩:=aa9.bc7.1 hf;refine aj6 hE fok95 (nZ rfl) (af7 (am3 _)) ?_;rw[aa9.an4];by_cases hk:k=1
  ·simp only[ic95,go_sem,aa9.kind,aa9.depth,hk];exact ac4 _ _
  ·simp only[aa9.depth,hk,if_false] at hd;simp only[ic95,go_sem,aa9.kind,aa9.depth,hk];refine ac2 noT (fun i fr σ=>∃ n:Nat,fr=[(3,.int .i64 n),(10,.aa3 (xs.map aa9.cs)),(11,.int .i64 xs.length),(12,.int .i64 i)]/\max n (aa9.ay4 (xs.drop i))=aa9.ay4 xs) xs.length ⟨0,rfl,by simp⟩ ?_;rintro i fr σ hi ⟨n,rfl,hn⟩;by_cases hlt:i<xs.length
   ·obtain ⟨a,ha,_,hdr,hget,_⟩:=ad2 xs i hlt;have c1:(i:Int)<xs.length:=by omega
    have c2:(0:Int)<=i:=by omega
    have w1:=af6 (i:=i) (by omega);rw[hdr,cl1] at hn;have hl:a.cs.all IV.leaf=true:=by rw[aa9.an4]; rfl
    have ht:a.cs.take 7=a.cs:=List.take_of_length_le (by rw[ac6]; exact Nat.le_refl _);simp only[go_sem,c1,c2,hget,ac6,ht,hl,aa9.args,List.drop_zero];refine aa4 fok95 (ih a ha (f5 a ha) (by omega)) ?_;simp only[go_sem,gt1,dm4,hm6,w1];exact ⟨hlt,max n a.depth,rfl,by rw[<- hn]; omega⟩
   ·have hi':i=xs.length:=by omega
    subst hi';have c1:¬ (xs.length:Int)<xs.length:=by omega
    simp only[List.drop_length,aa9.ay4,Nat.max_zero] at hn;subst hn;have w1:=af6 (i:=aa9.ay4 xs) (by omega);simp only[go_sem,c1,w1];exact ac4 _ _
def row (p:aa9×Bool):List IV:=[.agg p.1.cs,.bool p.2]
def evs (r:aa9)(al:Bool):List (List IV):=(r.parts al).map row
def dq3 (xs:List aa9)(al:Bool):List (List IV):=(aa9.ba3 xs al).map row
theorem ik5 (k:Int)(d:Dep)(xs:List aa9)(al:Bool):evs (.mk k d xs) al=[.agg (aa9.mk k d xs).cs,.bool al]::dq3 xs (al||decide (k=6)||decide (k=7)):=by
 simp only[evs,dq3,aa9.parts,List.map_cons,row]
theorem br5 (a:aa9)(xs:List aa9)(al:Bool):dq3 (a::xs) al=evs a al++dq3 xs al:=by
 simp only[evs,dq3,aa9.ba3,List.map_append]
def boxed (b:Nat)(s:Store):Prop:=b<s.next/\s.obj b=some (.cells [.func (.func 122) [] [.ptr b 0]])
theorem ik6 (r:aa9):r.fit->∀ (al:Bool) (rest:List (List IV)) (b yid:Nat) (I:List (List IV)->Store->Prop) (S:Store->Prop) (σ:Store),(∀ rest s,I rest s->boxed b s)->gz1 I->en2 Tryz.prog EE yid I S ->
  I (evs r al++rest) σ->C Tryz.prog EE 122 [.agg r.cs,.bool al,.yield yid,.ptr b 0] σ fun v s=>σ.next<=s.next/\((v=.bool true/\I rest s)\/(v=.bool false/\S s)):=by
 induction r using aa9.ind with
 | h k d xs ih=>
  intro hf al rest b yid I S σ hown hstab hy hi;obtain ⟨f1,f2,f3,f4,f5⟩:=aa9.bc7.1 hf;refine C_f fok122 (nZ rfl) ?_;rw[ik5,List.cons_append,aa9.an4] at hi;rw[aa9.an4];simp only[ic122,go_sem,aa9.kind,aa9.dep,aa9.args] at hi ⊢;refine cb7 hy hi (fun s hn hi=>?_) (fun s hn hs=>?_)
  ·have H:(al=true)\/(al=false/\k=6)\/(al=false/\¬ k=6/\k=7)\/(al=false/\¬ k=6/\¬ k=7):=by
    cases al<;>by_cases h6:k=6<;>by_cases h7:k=7<;>simp[h6,h7]
   rcases H with h1|⟨h1,h2⟩|⟨h1,h2,h3⟩|⟨h1,h2,h3⟩
   ·have hA:(al||decide (k=6)||decide (k=7))=true:=by simp[h1]
    rw[hA] at hi;simp only[go_sem,h1];refine ac2 noT (fun i fr t=>fr=[(1,.bool true),(2,.yield yid),(3,.ptr b 0),(27,.aa3 (xs.map aa9.cs)),(28,.int .i64 xs.length),(29,.int .i64 i)]/\I (dq3 (xs.drop i) true++rest) t/\σ.next<=t.next) xs.length ⟨rfl,hi,hn⟩ ?_;rintro i fr t hle ⟨rfl,hi,hn⟩;by_cases hlt:i<xs.length
    ·obtain ⟨a,ha,_,hdr,hget,_⟩:=ad2 xs i hlt;have c1:(i:Int)<xs.length:=by omega
     have c2:(0:Int)<=i:=by omega
     have w1:=af6 (i:=i) (by omega);have hl:a.cs.all IV.leaf=true:=by rw[aa9.an4]; rfl
     have ht:a.cs.take 7=a.cs:=List.take_of_length_le (by rw[ac6]; exact Nat.le_refl _);obtain ⟨hb1,hb2⟩:=hown _ _ hi;have hb3:¬ b=t.next:=by omega
     simp only[go_sem,c1,c2,hget,ac6,ht,hl,hb2,hb3];rw[hdr,br5,List.append_assoc] at hi;refine am1 fok122 (ih a ha (f5 a ha) true (dq3 (xs.drop (i+1)) true++rest) b yid I S _ hown hstab hy (hstab _ _ _ hi (Nat.le_succ _) (fun j hj=>?_))) ?_
     ·have:¬ j=t.next:=by omega
      simp only[aa5,this,if_false]
     ·rintro v s2 ⟨hn2,⟨rfl,hi2⟩|⟨rfl,hs2⟩⟩
      ·refine ⟨hn2,?_⟩;have hn3:t.next+1<=s2.next:=hn2;simp only[go_sem,w1];exact ⟨hlt,hi2,by omega⟩
      ·refine ⟨hn2,?_⟩;have hn3:t.next+1<=s2.next:=hn2;simp only[go_sem];exact ⟨by omega,.inr hs2⟩
    ·have hi':i=xs.length:=by omega
     subst hi';have c1:¬ (xs.length:Int)<xs.length:=by omega
     simp only[List.drop_length,dq3,aa9.ba3,List.map_nil,List.nil_append] at hi;simp only[go_sem,c1];exact ⟨hn,.inl hi⟩
   ·have hA:(al||decide (k=6)||decide (k=7))=true:=by simp[h1,h2]
    rw[hA] at hi;simp only[go_sem,h1,h2];refine ac2 noT (fun i fr t=>fr=[(1,.bool true),(2,.yield yid),(3,.ptr b 0),(27,.aa3 (xs.map aa9.cs)),(28,.int .i64 xs.length),(29,.int .i64 i)]/\I (dq3 (xs.drop i) true++rest) t/\σ.next<=t.next) xs.length ⟨rfl,hi,hn⟩ ?_;rintro i fr t hle ⟨rfl,hi,hn⟩;by_cases hlt:i<xs.length
    ·obtain ⟨a,ha,_,hdr,hget,_⟩:=ad2 xs i hlt;have c1:(i:Int)<xs.length:=by omega
     have c2:(0:Int)<=i:=by omega
     have w1:=af6 (i:=i) (by omega);have hl:a.cs.all IV.leaf=true:=by rw[aa9.an4]; rfl
     have ht:a.cs.take 7=a.cs:=List.take_of_length_le (by rw[ac6]; exact Nat.le_refl _);obtain ⟨hb1,hb2⟩:=hown _ _ hi;have hb3:¬ b=t.next:=by omega
     simp only[go_sem,c1,c2,hget,ac6,ht,hl,hb2,hb3];rw[hdr,br5,List.append_assoc] at hi;refine am1 fok122 (ih a ha (f5 a ha) true (dq3 (xs.drop (i+1)) true++rest) b yid I S _ hown hstab hy (hstab _ _ _ hi (Nat.le_succ _) (fun j hj=>?_))) ?_
     ·have:¬ j=t.next:=by omega
      simp only[aa5,this,if_false]
     ·rintro v s2 ⟨hn2,⟨rfl,hi2⟩|⟨rfl,hs2⟩⟩
      ·refine ⟨hn2,?_⟩;have hn3:t.next+1<=s2.next:=hn2;simp only[go_sem,w1];exact ⟨hlt,hi2,by omega⟩
      ·refine ⟨hn2,?_⟩;have hn3:t.next+1<=s2.next:=hn2;simp only[go_sem];exact ⟨by omega,.inr hs2⟩
    ·have hi':i=xs.length:=by omega
     subst hi';have c1:¬ (xs.length:Int)<xs.length:=by omega
     simp only[List.drop_length,dq3,aa9.ba3,List.map_nil,List.nil_append] at hi;simp only[go_sem,c1];exact ⟨hn,.inl hi⟩
   ·have hA:(al||decide (k=6)||decide (k=7))=true:=by simp[h1,h2,h3,show ¬ ((7:Int)=6) from by omega]
    rw[hA] at hi;simp only[go_sem,h1,h2,h3,show ¬ ((7:Int)=6) from by omega];refine ac2 noT (fun i fr t=>fr=[(1,.bool true),(2,.yield yid),(3,.ptr b 0),(27,.aa3 (xs.map aa9.cs)),(28,.int .i64 xs.length),(29,.int .i64 i)]/\I (dq3 (xs.drop i) true++rest) t/\σ.next<=t.next) xs.length ⟨rfl,hi,hn⟩ ?_;rintro i fr t hle ⟨rfl,hi,hn⟩;by_cases hlt:i<xs.length
    ·obtain ⟨a,ha,_,hdr,hget,_⟩:=ad2 xs i hlt;have c1:(i:Int)<xs.length:=by omega
     have c2:(0:Int)<=i:=by omega
     have w1:=af6 (i:=i) (by omega);have hl:a.cs.all IV.leaf=true:=by rw[aa9.an4]; rfl
     have ht:a.cs.take 7=a.cs:=List.take_of_length_le (by rw[ac6]; exact Nat.le_refl _);obtain ⟨hb1,hb2⟩:=hown _ _ hi;have hb3:¬ b=t.next:=by omega
     simp only[go_sem,c1,c2,hget,ac6,ht,hl,hb2,hb3];rw[hdr,br5,List.append_assoc] at hi;refine am1 fok122 (ih a ha (f5 a ha) true (dq3 (xs.drop (i+1)) true++rest) b yid I S _ hown hstab hy (hstab _ _ _ hi (Nat.le_succ _) (fun j hj=>?_))) ?_
     ·have:¬ j=t.next:=by omega
      simp only[aa5,this,if_false]
     ·rintro v s2 ⟨hn2,⟨rfl,hi2⟩|⟨rfl,hs2⟩⟩
      ·refine ⟨hn2,?_⟩;have hn3:t.next+1<=s2.next:=hn2;simp only[go_sem,w1];exact ⟨hlt,hi2,by omega⟩
      ·refine ⟨hn2,?_⟩;have hn3:t.next+1<=s2.next:=hn2;simp only[go_sem];exact ⟨by omega,.inr hs2⟩
    ·have hi':i=xs.length:=by omega
     subst hi';have c1:¬ (xs.length:Int)<xs.length:=by omega
     simp only[List.drop_length,dq3,aa9.ba3,List.map_nil,List.nil_append] at hi;simp only[go_sem,c1];exact ⟨hn,.inl hi⟩
   ·have hA:(al||decide (k=6)||decide (k=7))=false:=by simp[h1,h2,h3]
    rw[hA] at hi;simp only[go_sem,h1,h2,h3];refine ac2 noT (fun i fr t=>fr=[(1,.bool false),(2,.yield yid),(3,.ptr b 0),(27,.aa3 (xs.map aa9.cs)),(28,.int .i64 xs.length),(29,.int .i64 i)]/\I (dq3 (xs.drop i) false++rest) t/\σ.next<=t.next) xs.length ⟨rfl,hi,hn⟩ ?_;rintro i fr t hle ⟨rfl,hi,hn⟩;by_cases hlt:i<xs.length
    ·obtain ⟨a,ha,_,hdr,hget,_⟩:=ad2 xs i hlt;have c1:(i:Int)<xs.length:=by omega
     have c2:(0:Int)<=i:=by omega
     have w1:=af6 (i:=i) (by omega);have hl:a.cs.all IV.leaf=true:=by rw[aa9.an4]; rfl
     have ht:a.cs.take 7=a.cs:=List.take_of_length_le (by rw[ac6]; exact Nat.le_refl _);obtain ⟨hb1,hb2⟩:=hown _ _ hi;have hb3:¬ b=t.next:=by omega
     simp only[go_sem,c1,c2,hget,ac6,ht,hl,hb2,hb3];rw[hdr,br5,List.append_assoc] at hi;refine am1 fok122 (ih a ha (f5 a ha) false (dq3 (xs.drop (i+1)) false++rest) b yid I S _ hown hstab hy (hstab _ _ _ hi (Nat.le_succ _) (fun j hj=>?_))) ?_
     ·have:¬ j=t.next:=by omega
      simp only[aa5,this,if_false]
     ·rintro v s2 ⟨hn2,⟨rfl,hi2⟩|⟨rfl,hs2⟩⟩
      ·refine ⟨hn2,?_⟩;have hn3:t.next+1<=s2.next:=hn2;simp only[go_sem,w1];exact ⟨hlt,hi2,by omega⟩
      ·refine ⟨hn2,?_⟩;have hn3:t.next+1<=s2.next:=hn2;simp only[go_sem];exact ⟨by omega,.inr hs2⟩
    ·have hi':i=xs.length:=by omega
     subst hi';have c1:¬ (xs.length:Int)<xs.length:=by omega
     simp only[List.drop_length,dq3,aa9.ba3,List.map_nil,List.nil_append] at hi;simp only[go_sem,c1];exact ⟨hn,.inl hi⟩
  ·simp only[go_sem];exact ⟨hn,.inr hs⟩
theorem cz1 (r:aa9)(hf:r.fit)(b:Nat):ed1 Tryz.prog EE (.func (.func 123) [] [.ptr b 0,.ad4 r.cs]) (evs r false) (boxed b):=by
 intro yid I S σ hown hstab hy hi;refine ⟨fok123.1,?_⟩;refine C_f fok123 (nZ rfl) ?_;obtain ⟨hb1,hb2⟩:=hown _ _ hi;have ht:r.cs.take 7=r.cs:=List.take_of_length_le (by rw[ac6]; exact Nat.le_refl _);simp only[ic123,go_sem,hb2,ht,ac6];refine am1 fok122 (ik6 r hf false [] b yid I S σ hown hstab hy (by rw[List.append_nil]; exact hi)) ?_;rintro v s ⟨hn,h⟩;refine ⟨hn,?_⟩;simp only[go_sem];refine ⟨hn,?_⟩;rcases h with ⟨_,h⟩|⟨_,h⟩
 ·exact .inl h
 ·exact .inr h
theorem fs7 (r:aa9)(σ:Store):C Tryz.prog EE 96 [.agg r.cs] σ fun v s=>v=.func (.func 123) [] [.ptr σ.next 0,.ad4 r.cs]/\boxed σ.next s/\σ.next<=s.next/\∀ i,i<σ.next->s.obj i=σ.obj i:=by
 refine C_f fok96 (nZ rfl) ?_;have hl:r.cs.all IV.leaf=true:=by rw[aa9.an4]; rfl
 simp only[ic96,go_sem,hl];refine ⟨⟨Nat.lt_succ_self _,?_⟩,Nat.le_succ _,fun i hi=>?_⟩
 ·simp only[aa5,if_true]
 ·have:¬ i=σ.next:=by omega
  simp only[aa5,this,if_false]
theorem aa9.fs8 (r:aa9):∀ al,(r.parts al).length=r.count:=by
 induction r using aa9.ind with
 | h k d xs ih=>
  intro al;simp only[aa9.parts,aa9.count,List.length_cons];congr 1;generalize (al||decide (k=6)||decide (k=7))=al';clear al
  induction xs with
  | nil=>rfl
  | cons a xs ih'=>
   simp only[aa9.ba3,aa9.counts,List.length_append];rw[ih a (List.mem_cons_self ..),ih' (fun b hb=>ih b (List.mem_cons_of_mem _ hb))]
theorem dy6 {r:aa9}{al:Bool}:∀ a∈evs r al,a.length=2:=fun a ha=>by
 obtain ⟨p,_,rfl⟩:=List.mem_map.1 ha; rfl
theorem hm7 (r:aa9)(al:Bool):(evs r al).length=r.count:=by rw[evs,List.length_map,aa9.fs8]
theorem df9 (r:aa9)(hf:r.fit)(hc:r.count<2^62):PC Tryz.prog EE 94 [.agg r.cs] (.int .i64 r.count):=by
 refine aj6 hE fok94 (nZ rfl) (af7 (am3 _)) ?_;have hl:r.cs.all IV.leaf=true:=by rw[aa9.an4]; rfl
 have ht:r.cs.take 7=r.cs:=List.take_of_length_le (by rw[ac6]; exact Nat.le_refl _);simp only[ic94,go_sem,hl,ht,ac6];refine am1 fok96 (fs7 r _) ?_;rintro v s1 ⟨rfl,hb,hn,hs⟩;refine ⟨hn,?_⟩;simp only[go_sem] at hn hs hb ⊢;have h0:s1.obj 0=some (.cells [.int .i64 0]):=by rw[hs 0 (by omega)]; rfl
 have hb2:=hb.1;refine db6 (cz1 r hf 1) (fun rest s=>boxed 1 s/\∃ n:Nat,s.obj 0=some (.cells [.int .i64 n])/\n+rest.length=r.count) (fun _ _ h=>h.1) ?_ dy6 ?_ ?_ ?_
 ·rintro rest s s' ⟨⟨q1,q2⟩,n,q3,q4⟩ hn' hs';exact ⟨⟨by omega,by rw[hs' 1 q1]; exact q2⟩,n,by rw[hs' 0 (by omega)]; exact q3,q4⟩
 ·intro o;have e0:¬ 0=s1.next:=by omega
  have e1:¬ 1=s1.next:=by omega
  exact ⟨⟨by show 1<s1.next+1; omega,by simp only[aa5,e1,if_false]; exact hb.2⟩,0,by simp only[aa5,e0,if_false]; exact h0,by rw[hm7]; omega⟩
 ·rintro L pre a rest s hev ⟨⟨q1,q2⟩,n,q3,q4⟩ hL hlt;have ha:=dy6 (r:=r) (al:=false) a (by rw[hev]; simp)
  match a,ha with
  | [x,y],_=>
   have e0:¬ 0=s1.next:=by omega
   have e1:¬ s1.next=0:=by omega
   have e2:¬ 1=s1.next:=by omega
   simp only[List.length_cons] at q4;have w1:=af6 (i:=n) (by omega);have e3:¬ s1.next=1:=by omega
   simp only[go_sem,hL,e0,q3,e1,w1];refine dl4 (Nat.le_refl _) ?_ ⟨⟨q1,?_⟩,n+1,?_,by omega⟩
   ·simp only[aa5,if_true]
   ·have:¬ 1=0:=by omega
    simp only[aa5,e2,this,if_false]; exact q2
   ·simp only[aa5,e0,if_false,if_true]
 ·rintro s o ⟨⟨q1,q2⟩,n,q3,q4⟩ hlt ho;have e0:¬ 0=s1.next:=by omega
  have:n=r.count:=by simpa using q4
  subst this;simp only[go_sem,e0,q3];exact ac4 _ _
theorem fs9 (r:aa9):r.fit->∀ al,∀ p∈r.parts al,p.1.fit:=by
 induction r using aa9.ind with
 | h k d xs ih=>
  intro hf al p hp;simp only[aa9.parts,List.mem_cons] at hp;rcases hp with rfl|hp
  ·exact hf
  ·have hx:=(aa9.bc7.1 hf).2.2.2.2;clear hf;generalize (al||decide (k=6)||decide (k=7))=al' at hp
   induction xs with
   | nil=>simp[aa9.ba3] at hp
   | cons a xs ih'=>
    simp only[aa9.ba3,List.mem_append] at hp;rcases hp with hp|hp
    ·exact ih a (List.mem_cons_self ..) (hx a (List.mem_cons_self ..)) _ p hp
    ·exact ih' (fun b hb=>ih b (List.mem_cons_of_mem _ hb)) (fun b hb=>hx b (List.mem_cons_of_mem _ hb)) hp
theorem eh4 (r:aa9):r.depth<=r.count:=by
 induction r using aa9.ind with
 | h k d xs ih=>
  simp only[aa9.depth,aa9.count];split
  ·omega
  ·apply Nat.succ_le_succ
   induction xs with
   | nil=>simp[aa9.ay4]
   | cons a xs ih'=>
    simp only[aa9.ay4,aa9.counts];have h1:=ih a (List.mem_cons_self ..);have h2:=ih' (fun b hb=>ih b (List.mem_cons_of_mem _ hb));omega
theorem dy7 (r:aa9)(wh:Int)(hf:r.fit)(hc:r.count<2^62):PC Tryz.prog EE 68 [.agg r.cs,.int .u8 wh] (.int .i64 (am9 r wh)):=by
 refine aj6 hE fok68 (nZ rfl) (fun a ha=>by
  cases ha with
  | head=>exact am3 _
  | tail _ ha=>cases ha with
   | head=>exact .int _ _
   | tail _ ha=>cases ha) ?_
 have hl:r.cs.all IV.leaf=true:=by rw[aa9.an4]; rfl
 have ht:r.cs.take 7=r.cs:=List.take_of_length_le (by rw[ac6]; exact Nat.le_refl _);have hdl:=eh4 r;by_cases a1:wh<1
 ·simp only[ic68,go_sem,hl,a1,am9];exact ac4 _ _
 by_cases a2:3<wh
 ·simp only[ic68,go_sem,hl,a1,a2,am9];exact ac4 _ _
 simp only[ic68,go_sem,hl,a1,a2,ht,ac6];refine aa4 fok94 (df9 r hf hc) ?_;by_cases a3:24<r.count
 ·have c3:(24:Int)<r.count:=by omega
  simp only[go_sem,c3,am9,a1,a2,a3,or_self];exact ac4 _ _
 have c3:¬ (24:Int)<r.count:=by omega
 simp only[go_sem,c3,ht,ac6];refine aa4 fok95 (df8 r hf (by omega)) ?_;by_cases a4:8<r.depth
 ·have c4:(8:Int)<r.depth:=by omega
  simp only[go_sem,c4,am9,a1,a2,a3,a4,or_self];exact ac4 _ _
 have c4:¬ (8:Int)<r.depth:=by omega
 simp only[go_sem,c4,ht,ac6]
 have hres:am9 r wh=if (r.parts false).all (fun p=>ag7 wh p.1 p.2)=true then 0 else 4:=by
  simp only[am9,a1,a2,a3,a4,or_self,if_false]
 rw[hres];generalize hS:(Store.mk _ _)=s0;refine am1 fok96 (fs7 r _) ?_;rintro v s1 ⟨rfl,hb,hn,hs⟩;have g0:s0.next=1:=by subst hS; simp only
 have g1:s0.obj 0=some (.cells [.int .i64 0]):=by subst hS; simp only[aa5,if_true]
 refine ⟨hn,?_⟩;rw[g0] at hb hn hs;have hb2:=hb.1;have h0:s1.obj 0=some (.cells [.int .i64 0]):=by rw[hs 0 (by omega),g1]
 have e0:¬ 0=s1.next:=by omega
 have e1:¬ s1.next=0:=by omega
 have e2:¬ 1=s1.next:=by omega
 simp only[go_sem,g0];refine db6 (cz1 r hf 1) (fun rest s=>(boxed 1 s/\s.obj 0=some (.cells [.int .i64 0]))/\∃ ps:List (aa9×Bool),rest=ps.map row/\(∀ p∈ps,p.1.fit)/\(r.parts false).all (fun p:aa9×Bool=>ag7 wh p.1 p.2)=ps.all (fun p:aa9×Bool=>ag7 wh p.1 p.2)) (fun _ _ h=>h.1.1) ?_ dy6 ?_ ?_ ?_
 ·rintro rest s s' ⟨⟨⟨q1,q2⟩,q3⟩,q4⟩ hn' hs';exact ⟨⟨⟨by omega,by rw[hs' 1 q1]; exact q2⟩,by rw[hs' 0 (by omega)]; exact q3⟩,q4⟩
 ·intro o;exact ⟨⟨⟨by show 1<s1.next+1; omega,by simp only[aa5,e2,if_false]; exact hb.2⟩,by simp only[aa5,e0,if_false]; exact h0⟩,_,rfl,fs9 r hf false,rfl⟩
 ·rintro L pre a rest s hev ⟨⟨⟨q1,q2⟩,q3⟩,ps,hps,hfp,hall⟩ hL hlt
  cases ps with
  | nil=>cases hps
  | cons p ps=>
   obtain ⟨⟨k,d,xs⟩,al⟩:=p;simp only[List.map_cons,List.cons.injEq] at hps;obtain ⟨rfl,rfl⟩:=hps;obtain ⟨f1,f2,f3,f4,f5⟩:=aa9.bc7.1 (hfp _ (List.mem_cons_self ..));have hfp':∀ p∈ps,p.1.fit:=fun p hp=>hfp p (List.mem_cons_of_mem _ hp)
   simp only[List.all_cons] at hall;have u0:¬ 0=s.next:=by omega
   have u1:¬ s1.next=s.next:=by omega
   have u2:¬ s.next=s1.next:=by omega
   have u3:¬ 0=s.next+1:=by omega
   have u4:¬ s1.next=s.next+1:=by omega
   have u5:¬ s.next=s.next+1:=by omega
   simp only[row,aa9.an4,aa9.kind,aa9.dep,aa9.args,go_sem,hL,q3,e0,e1,u0,u1,u2,u3,u4,u5];have u6:¬ s.next+1=s1.next:=by omega
   have u7:¬ s.next+1=s.next:=by omega
   have u8:¬ s.next+1=0:=by omega
   have u9:¬ s.next=0:=by omega
   have u10:¬ 1=s.next:=by omega
   have u11:¬ 1=s.next+1:=by omega
   refine aa4 fok97 (ez8 k f1 f2) ?_;simp only[go_sem,gl2,q3,e0,e1,u0,u3,e2,u1,u2,u4,u5,u6,u7,u8,u9,u10,u11];have hstop:∀ ok:Bool,ag7 wh (.mk k d xs) al=ok->ag7 wh (.mk k d xs) al=ok:=fun _ h=>h
   by_cases b1:((asks k).2.2.2:Int)<wh
   ·have hok:ag7 wh (.mk k d xs) al=false:=by simp[ag7,aa9.kind,b1]
    simp only[go_sem,b1,q3,e0,e1,u0,u3,e2,u1,u2,u4,u5,u6,u7,u8,u9,u10,u11]
    (refine ch9 (by simp only[ab4]; omega) (by simp only[aa5,if_true]) ?_; simp only[go_sem,e2,u1,u2,u4,u5,u6,u7,u8,u9,u10,u11,e0,u0,u3]; rw[hall,hok]; exact ac4 _ _)
   by_cases b2:(al=true/\(asks k).2.2.1=false)
   ·have hok:ag7 wh (.mk k d xs) al=false:=by simp[ag7,aa9.kind,b2.1,b2.2]
    simp only[go_sem,b1,b2.1,b2.2,q3,e0,e1,u0,u3,e2,u1,u2,u4,u5,u6,u7,u8,u9,u10,u11]
    (refine ch9 (by simp only[ab4]; omega) (by simp only[aa5,if_true]) ?_; simp only[go_sem,e2,u1,u2,u4,u5,u6,u7,u8,u9,u10,u11,e0,u0,u3]; rw[hall,hok]; exact ac4 _ _)
   have hb2:(al&&!(asks k).2.2.1)=false:=by
    cases al<;>cases hx:(asks k).2.2.1<;>simp_all
   have hal:(al=false)\/(al=true/\(asks k).2.2.1=true):=by
    cases al<;>cases hx:(asks k).2.2.1<;>simp_all
   have hdd:decide (d=cj5)=(decide (d.name=[])&&(decide (d.op=0)&&(decide (d.evr.ai4=0)&&(decide (d.evr.ver=[])&&decide (d.evr.rel=[]))))):=by
    obtain ⟨n,o,e,v,r⟩:=d;simp only[cj5,fq3,Dep.mk.injEq,EVR.mk.injEq,Bool.decide_and]
   have hpart:ag7 wh (.mk k d xs) al=(!(decide (((asks k).2.2.2:Int)<wh)||al&&!(asks k).2.2.1||decide (xs.length<(asks k).1)||decide ((asks k).2.1<xs.length))&&(if k=1 then ah7 d else decide (d=cj5))):=rfl;have hdc:=ck9 d f3.1 f3.2.1 f3.2.2;rcases hal with h1|⟨h1,h2⟩
   ·by_cases b3:xs.length<(asks k).1
    ·have c3:(xs.length:Int)<(asks k).1:=by omega
     have hok:ag7 wh (.mk k d xs) al=false:=by simp[ag7,aa9.kind,aa9.args,b3]
     simp only[go_sem,b1,h1,c3,q3,e0,e1,u0,u3,e2,u1,u2,u4,u5,u6,u7,u8,u9,u10,u11]
     (refine ch9 (by simp only[ab4]; omega) (by simp only[aa5,if_true]) ?_; simp only[go_sem,e2,u1,u2,u4,u5,u6,u7,u8,u9,u10,u11,e0,u0,u3]; rw[hall,hok]; exact ac4 _ _)
    have c3:¬ (xs.length:Int)<(asks k).1:=by omega
    by_cases b4:(asks k).2.1<xs.length
    ·have c4:((asks k).2.1:Int)<xs.length:=by omega
     have hok:ag7 wh (.mk k d xs) al=false:=by simp[ag7,aa9.kind,aa9.args,b4]
     simp only[go_sem,b1,h1,c3,c4,q3,e0,e1,u0,u3,e2,u1,u2,u4,u5,u6,u7,u8,u9,u10,u11]
     (refine ch9 (by simp only[ab4]; omega) (by simp only[aa5,if_true]) ?_; simp only[go_sem,e2,u1,u2,u4,u5,u6,u7,u8,u9,u10,u11,e0,u0,u3]; rw[hall,hok]; exact ac4 _ _)
    have c4:¬ ((asks k).2.1:Int)<xs.length:=by omega
    by_cases hk:k=1
    ·have hkd:decide (k=1)=true:=decide_eq_true hk;simp only[go_sem,b1,h1,c3,c4,hkd,q3,e0,e1,u0,u3,e2,u1,u2,u4,u5,u6,u7,u8,u9,u10,u11,bq5];refine aa4 fok63 hdc ?_
     cases hd:ah7 d with
     | false=>
      have hok:ag7 wh (.mk k d xs) al=false:=by simp[ag7,aa9.kind,aa9.args,aa9.dep,hk,hd]
      simp only[go_sem,q3,e0,e1,u0,u3,e2,u1,u2,u4,u5,u6,u7,u8,u9,u10,u11]
      (refine ch9 (by simp only[ab4]; omega) (by simp only[aa5,if_true]) ?_; simp only[go_sem,e2,u1,u2,u4,u5,u6,u7,u8,u9,u10,u11,e0,u0,u3]; rw[hall,hok]; exact ac4 _ _)
     | true=>
      have hok:ag7 wh (.mk k d xs) al=true:=by
       rw[hpart,decide_eq_false b1,hb2,decide_eq_false b3,decide_eq_false b4,if_pos hk,hd]; rfl
      simp only[go_sem,hkd,q3,e0,e1,u0,u3,e2,u1,u2,u4,u5,u6,u7,u8,u9,u10,u11]
      (refine dl4 (by simp only[ab4]; omega) (by simp only[aa5,if_true]) ⟨⟨⟨by simp only[ab4]; omega,by simp only[aa5,e2,u1,u2,u4,u5,u6,u7,u8,u9,u10,u11,if_false]; exact q2⟩,by simp only[aa5,e0,u0,u3,if_false]; exact q3⟩,ps,rfl,hfp',by rw[hall,hok,Bool.true_and]⟩)
    ·simp only[go_sem,b1,h1,c3,c4,hk,q3,e0,e1,u0,u3,e2,u1,u2,u4,u5,u6,u7,u8,u9,u10,u11,bq5];rw[<- hdd];by_cases hd:d=cj5
     ·have hok:ag7 wh (.mk k d xs) al=true:=by
       rw[hpart,decide_eq_false b1,hb2,decide_eq_false b3,decide_eq_false b4,if_neg hk,decide_eq_true hd]; rfl
      have hd1:decide (d=cj5)=true:=decide_eq_true hd;simp only[go_sem,hd1,q3,e0,e1,u0,u3,e2,u1,u2,u4,u5,u6,u7,u8,u9,u10,u11]
      (refine dl4 (by simp only[ab4]; omega) (by simp only[aa5,if_true]) ⟨⟨⟨by simp only[ab4]; omega,by simp only[aa5,e2,u1,u2,u4,u5,u6,u7,u8,u9,u10,u11,if_false]; exact q2⟩,by simp only[aa5,e0,u0,u3,if_false]; exact q3⟩,ps,rfl,hfp',by rw[hall,hok,Bool.true_and]⟩)
     ·have hok:ag7 wh (.mk k d xs) al=false:=by simp[ag7,aa9.kind,aa9.args,aa9.dep,hk,hd]
      have hd1:decide (d=cj5)=false:=decide_eq_false hd;simp only[go_sem,hd1,q3,e0,e1,u0,u3,e2,u1,u2,u4,u5,u6,u7,u8,u9,u10,u11]
      (refine ch9 (by simp only[ab4]; omega) (by simp only[aa5,if_true]) ?_; simp only[go_sem,e2,u1,u2,u4,u5,u6,u7,u8,u9,u10,u11,e0,u0,u3]; rw[hall,hok]; exact ac4 _ _)
   ·by_cases b3:xs.length<(asks k).1
    ·have c3:(xs.length:Int)<(asks k).1:=by omega
     have hok:ag7 wh (.mk k d xs) al=false:=by simp[ag7,aa9.kind,aa9.args,b3]
     simp only[go_sem,b1,h1,h2,c3,q3,e0,e1,u0,u3,e2,u1,u2,u4,u5,u6,u7,u8,u9,u10,u11]
     (refine ch9 (by simp only[ab4]; omega) (by simp only[aa5,if_true]) ?_; simp only[go_sem,e2,u1,u2,u4,u5,u6,u7,u8,u9,u10,u11,e0,u0,u3]; rw[hall,hok]; exact ac4 _ _)
    have c3:¬ (xs.length:Int)<(asks k).1:=by omega
    by_cases b4:(asks k).2.1<xs.length
    ·have c4:((asks k).2.1:Int)<xs.length:=by omega
     have hok:ag7 wh (.mk k d xs) al=false:=by simp[ag7,aa9.kind,aa9.args,b4]
     simp only[go_sem,b1,h1,h2,c3,c4,q3,e0,e1,u0,u3,e2,u1,u2,u4,u5,u6,u7,u8,u9,u10,u11]
     (refine ch9 (by simp only[ab4]; omega) (by simp only[aa5,if_true]) ?_; simp only[go_sem,e2,u1,u2,u4,u5,u6,u7,u8,u9,u10,u11,e0,u0,u3]; rw[hall,hok]; exact ac4 _ _)
    have c4:¬ ((asks k).2.1:Int)<xs.length:=by omega
    by_cases hk:k=1
    ·have hkd:decide (k=1)=true:=decide_eq_true hk;simp only[go_sem,b1,h1,h2,c3,c4,hkd,q3,e0,e1,u0,u3,e2,u1,u2,u4,u5,u6,u7,u8,u9,u10,u11,bq5];refine aa4 fok63 hdc ?_
     cases hd:ah7 d with
     | false=>
      have hok:ag7 wh (.mk k d xs) al=false:=by simp[ag7,aa9.kind,aa9.args,aa9.dep,hk,hd]
      simp only[go_sem,q3,e0,e1,u0,u3,e2,u1,u2,u4,u5,u6,u7,u8,u9,u10,u11]
      (refine ch9 (by simp only[ab4]; omega) (by simp only[aa5,if_true]) ?_; simp only[go_sem,e2,u1,u2,u4,u5,u6,u7,u8,u9,u10,u11,e0,u0,u3]; rw[hall,hok]; exact ac4 _ _)
     | true=>
      have hok:ag7 wh (.mk k d xs) al=true:=by
       rw[hpart,decide_eq_false b1,hb2,decide_eq_false b3,decide_eq_false b4,if_pos hk,hd]; rfl
      simp only[go_sem,hkd,q3,e0,e1,u0,u3,e2,u1,u2,u4,u5,u6,u7,u8,u9,u10,u11]
      (refine dl4 (by simp only[ab4]; omega) (by simp only[aa5,if_true]) ⟨⟨⟨by simp only[ab4]; omega,by simp only[aa5,e2,u1,u2,u4,u5,u6,u7,u8,u9,u10,u11,if_false]; exact q2⟩,by simp only[aa5,e0,u0,u3,if_false]; exact q3⟩,ps,rfl,hfp',by rw[hall,hok,Bool.true_and]⟩)
    ·simp only[go_sem,b1,h1,h2,c3,c4,hk,q3,e0,e1,u0,u3,e2,u1,u2,u4,u5,u6,u7,u8,u9,u10,u11,bq5];rw[<- hdd];by_cases hd:d=cj5
     ·have hok:ag7 wh (.mk k d xs) al=true:=by
       rw[hpart,decide_eq_false b1,hb2,decide_eq_false b3,decide_eq_false b4,if_neg hk,decide_eq_true hd]; rfl
      have hd1:decide (d=cj5)=true:=decide_eq_true hd;simp only[go_sem,hd1,q3,e0,e1,u0,u3,e2,u1,u2,u4,u5,u6,u7,u8,u9,u10,u11]
      (refine dl4 (by simp only[ab4]; omega) (by simp only[aa5,if_true]) ⟨⟨⟨by simp only[ab4]; omega,by simp only[aa5,e2,u1,u2,u4,u5,u6,u7,u8,u9,u10,u11,if_false]; exact q2⟩,by simp only[aa5,e0,u0,u3,if_false]; exact q3⟩,ps,rfl,hfp',by rw[hall,hok,Bool.true_and]⟩)
     ·have hok:ag7 wh (.mk k d xs) al=false:=by simp[ag7,aa9.kind,aa9.args,aa9.dep,hk,hd]
      have hd1:decide (d=cj5)=false:=decide_eq_false hd;simp only[go_sem,hd1,q3,e0,e1,u0,u3,e2,u1,u2,u4,u5,u6,u7,u8,u9,u10,u11]
      (refine ch9 (by simp only[ab4]; omega) (by simp only[aa5,if_true]) ?_; simp only[go_sem,e2,u1,u2,u4,u5,u6,u7,u8,u9,u10,u11,e0,u0,u3]; rw[hall,hok]; exact ac4 _ _)
 ·rintro s o ⟨⟨⟨q1,q2⟩,q3⟩,ps,hps,_,hall⟩ hlt ho;have:ps=[]:=by cases ps with|nil=>rfl|cons _ _=>cases hps
  subst this;rw[hall];simp only[go_sem,e0,q3,List.all_nil];exact ac4 _ _
end Go.Id.Tryz
