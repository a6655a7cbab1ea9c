/- Names,versions,architectures,operators: what the program tells of them. Conditions: none. -/
import Derived.Test.YtlnkchkhffkofaaGreatDoorGNT
import Derived.Test.YtlnkchkhffkofaaGreatDoorFwQ
import Derived.Test.YtlnkchkhffkofaaGreatDoorMf
set_option linter.all false
namespace Go.Id.Tryz
open Go Go.Id Go.Proofs Go.Id.Md
def ir5:List (Nat×List IV):=[(0,words.map .str),(1,[.al8 opsL]),(2,[.str [],.int .i64 0,.str [],.int .i64 0,.str [97,110,100],.int .i64 24,.str [111,114],.int .i64 24,.str [105,102],.int .i64 3,.str [117,110,108,101,115,115],.int .i64 3,.str [119,105,116,104],.int .i64 24,.str [119,105,116,104,111,117,116],.int .i64 2])]
abbrev EE:Nat->IV:=ff6 ir5
theorem hE:∀ g,Bnd 0 (EE g):=hg9 (by kernel_rfl)
theorem E0:EE 0=.ab6 [.str [97,110,100],.str [111,114],.str [105,102],.str [101,108,115,101],.str [117,110,108,101,115,115],.str [119,105,116,104],.str [119,105,116,104,111,117,116]]:=rfl
theorem E1:EE 1=.ab6 [.al8 opsL]:=rfl
theorem dm2 (s:Str)(b:UInt8):PC Tryz.prog EE 238 [.str s,.int .u8 b.toNat] (.int .i64 (dz7 b.toNat s 0)):=by
 refine ap7 fok238 (nZ rfl) fun σ=>?_
 have h1:(0:Int)<=b.toNat:=by omega
 have h2:(b.toNat:Int)<256:=by have:=b.toNat_lt; omega
 simp only[ic238,go_sem,h1,h2,Int.toNat_natCast,and_self]
theorem aw8 (s:Str)(b:UInt8):PC Tryz.prog EE 198 [.str s,.int .u8 b.toNat] (.int .i64 (dz7 b.toNat s 0)):=by
 refine ap7 fok198 (nZ rfl) fun σ=>?_
 simp only[ic198,go_sem];refine aa5 fok238 (dm2 s b) ?_;simp only[go_sem,and_self]
theorem dm3 (s t:Str):PC Tryz.prog EE 239 [.str s,.str t] (.bool (decide (t.length<=s.length)&&decide (s.take t.length=t))):=by
 refine ap7 fok239 (nZ rfl) fun σ=>?_
 by_cases h:t.length<=s.length
 ·have h1:(t.length:Int)<=s.length:=by omega
  have h2:(0:Int)<=t.length:=by omega
  simp only[ic239,go_sem,h,h1,cu7,co9,es5,h2,Int.toNat_natCast,Nat.zero_le,and_self,List.drop_zero,Bool.true_and,ee1,ee2,Option.map]
 ·have h1:¬ (t.length:Int)<=s.length:=by omega
  simp only[ic239,go_sem,h,h1,Bool.false_and,and_self]
theorem dw3 (s t:Str):PC Tryz.prog EE 199 [.str s,.str t] (.bool (decide (t.length<=s.length)&&decide (s.take t.length=t))):=by
 refine ap7 fok199 (nZ rfl) fun σ=>?_
 simp only[ic199,go_sem];refine aa5 fok239 (dm3 s t) ?_;simp only[go_sem,and_self]
theorem ao6 (a:Int):PC Tryz.prog EE 113 [.int .u8 a] (.bool (am8 a)):=by
 refine ap7 fok113 (nZ rfl) fun σ=>?_
 by_cases h:1<=a
 ·simp only[ic113,go_sem,am8,h,Bool.true_and,and_self]
 ·simp only[ic113,go_sem,am8,h,Bool.false_and,and_self]
def df5:List IV:=[.str [],.str [110,111,97,114,99,104],.str [120,56,54,95,54,52],.str [105,54,56,54],.str [97,97,114,99,104,54,52]]
theorem dw4:PC Tryz.prog EE 201 [] (.agg df5):=by
 refine ag3 hE fok201 (nZ rfl) (fun a h=>by cases h) ?_;simp only[ic201,go_sem];exact .keep _ (av2 10 _ (by kernel_rfl))
def bw5 (a:Int):Str:=if a=1 then [110,111,97,114,99,104] else if a=2 then [120,56,54,95,54,52] else if a=3 then [105,54,56,54] else if a=4 then [97,97,114,99,104,54,52] else []
theorem bw6 (a:Int):decide (bw5 a=[])=!am8 a:=by
 unfold bw5 am8
 repeat' split
 all_goals first|(subst_vars; rfl)|skip
 have:¬ (1<=a/\a<=4):=by omega
 have h:(decide (1<=a)&&decide (a<=4))=false:=by simpa using this
 rw[h]; rfl
theorem ef9 (a:Int):PC Tryz.prog EE 143 [.int .u8 a] (.str (bw5 a)):=by
 refine ap7 fok143 (nZ rfl) fun σ=>?_
 simp only[ic143,go_sem];refine aa5 fok113 (ao6 a) ?_;simp only[go_sem]
 cases h:am8 a with
 | false=>
  have h1:=bw6 a;rw[h] at h1;have h2:bw5 a=[]:=by simpa using h1
  simp only[go_sem,h2,and_self]
 | true=>
  have h1:1<=a/\a<=4:=by simpa [am8] using h
  simp only[go_sem];refine aa5 fok201 dw4 ?_;have h2:a=1\/a=2\/a=3\/a=4:=by omega
  rcases h2 with rfl|rfl|rfl|rfl<;>(simp only[go_sem,df5]; first|rfl|exact ⟨rfl,rfl⟩)
theorem eo3 (c:UInt8):∀ (l:Str) (i:Nat),decide (0<=dz7 c.toNat l i)=l.contains c:=by
 intro l
 induction l with
 | nil=>intro i; rfl
 | cons b l ih=>
  intro i;simp only[dz7,List.contains_cons];split
  ·rename_i h;have:c=b:=(UInt8.toNat_inj.1 h).symm;subst this;simp
  ·rename_i h;have:(c==b)=false:=by simp only[beq_eq_false_iff_ne,ne_eq]; intro e; subst e; exact h rfl
   rw[this,Bool.false_or];exact ih (i+1)
theorem eo4 {p:UInt8->Bool}{s:Str}{i:Nat}(h:i<s.length):(s.take (i+1)).all p=((s.take i).all p&&p s[i]):=by
 rw[List.take_add_one,List.getElem?_eq_getElem h];simp only[Option.toList,List.all_append,List.all_cons,List.all_nil,Bool.and_true]
theorem bw7 {p:UInt8->Bool}{s:Str}{i:Nat}(h:i<s.length)(hp:p s[i]=false):s.all p=false:=by
 rw[List.all_eq_false];exact ⟨s[i],List.getElem_mem h,by simp[hp]⟩
theorem df6 (s:Str)(hs:s.length<2^62):PC Tryz.prog EE 200 [.str s] (.bool (bg2 s)):=by
 refine ap7 fok200 (nZ rfl) fun σ=>?_
 by_cases h0:s=[]
 ·subst h0;simp only[ic200,go_sem];rfl
 have hl:1<=s.length:=by cases s with|nil=>exact absurd rfl h0|cons _ _=>simp
 by_cases h1:s.length<=64
 ·have h1':¬ (64:Int)<s.length:=by omega
  simp only[ic200,go_sem,h0,h1'];refine ab4 noT (fun i fr s'=>s'=σ/\fr=[(0,.str s),(13,.int .i64 s.length),(14,.int .i64 i)]/\(s.take i).all cm1=true) s.length ⟨rfl,rfl,rfl⟩ ?_;rintro i fr s' hi ⟨rfl,rfl,ha⟩;by_cases hlt:i<s.length
  ·have c1:(i:Int)<s.length:=by omega
   have c2:(0:Int)<=i:=by omega
   simp only[go_sem,c1,c2,List.getElem?_eq_getElem hlt];have fin:cm1 s[i]=false->bg2 s=false:=fun h=>by simp only[bg2,bw7 hlt h,Bool.and_false]
   have step:cm1 s[i]=true->(s.take (i+1)).all cm1=true:=fun h=>by rw[eo4 hlt,ha,h]; rfl
   have w1:=ad4 (i:=i) (by omega)
   have hv:cm1 s[i]=(decide ((97:Int)<=s[i].toNat)&&decide ((s[i].toNat:Int)<=122)||decide ((65:Int)<=s[i].toNat)&&decide ((s[i].toNat:Int)<=90)||decide ((48:Int)<=s[i].toNat)&&decide ((s[i].toNat:Int)<=57) || [46,95,43,126,94].contains s[i]):=by
    simp only[cm1,ft6];congr 1;congr 1
    ·congr 1<;>congr 1<;>(apply decide_eq_decide.2; omega)
    ·congr 1<;>(apply decide_eq_decide.2; omega)
   generalize s[i]=b at *
   have last:∀ (k1:¬ ((97:Int)<=b.toNat/\(b.toNat:Int)<=122)) (k2:¬ ((65:Int)<=b.toNat/\(b.toNat:Int)<=90)) (k3:¬ ((48:Int)<=b.toNat/\(b.toNat:Int)<=57)),cm1 b=decide (0<=dz7 b.toNat [46,95,43,126,94] 0):=fun k1 k2 k3=>by
    rw[eo3,hv];simp only[<- Bool.decide_and,decide_eq_false k1,decide_eq_false k2,decide_eq_false k3,Bool.false_or]
   by_cases k1:(97:Int)<=b.toNat
   ·by_cases k2:(b.toNat:Int)<=122
    ·simp only[go_sem,k1,k2,w1];exact ⟨hlt,step (by rw[hv]; simp only[k1,k2,go_sem])⟩
    ·have k3:(65:Int)<=b.toNat:=by omega
     have k4:¬ (b.toNat:Int)<=90:=by omega
     have k5:(48:Int)<=b.toNat:=by omega
     have k6:¬ (b.toNat:Int)<=57:=by omega
     simp only[go_sem,k1,k2,k3,k4,k5,k6];refine aa5 fok198 (aw8 _ b) ?_;have hl:=last (by omega) (by omega) (by omega);simp only[go_sem,ge_iff_le,<- hl]
     cases hb:cm1 b with
     | true=>simp only[go_sem,w1]; exact ⟨hlt,step hb⟩
     | false=>simp only[go_sem,fin hb,and_self]
   ·by_cases k3:(65:Int)<=b.toNat
    ·by_cases k4:(b.toNat:Int)<=90
     ·simp only[go_sem,k1,k3,k4,w1];exact ⟨hlt,step (by rw[hv]; simp only[k1,k3,k4,go_sem])⟩
     ·have k5:(48:Int)<=b.toNat:=by omega
      have k6:¬ (b.toNat:Int)<=57:=by omega
      simp only[go_sem,k1,k3,k4,k5,k6];refine aa5 fok198 (aw8 _ b) ?_;have hl:=last (by omega) (by omega) (by omega);simp only[go_sem,ge_iff_le,<- hl]
      cases hb:cm1 b with
      | true=>simp only[go_sem,w1]; exact ⟨hlt,step hb⟩
      | false=>simp only[go_sem,fin hb,and_self]
    ·by_cases k5:(48:Int)<=b.toNat
     ·by_cases k6:(b.toNat:Int)<=57
      ·simp only[go_sem,k1,k3,k5,k6,w1];exact ⟨hlt,step (by rw[hv]; simp only[k1,k3,k5,k6,go_sem])⟩
      ·simp only[go_sem,k1,k3,k5,k6];refine aa5 fok198 (aw8 _ b) ?_;have hl:=last (by omega) (by omega) (by omega);simp only[go_sem,ge_iff_le,<- hl]
       cases hb:cm1 b with
       | true=>simp only[go_sem,w1]; exact ⟨hlt,step hb⟩
       | false=>simp only[go_sem,fin hb,and_self]
     ·simp only[go_sem,k1,k3,k5];refine aa5 fok198 (aw8 _ b) ?_;have hl:=last (by omega) (by omega) (by omega);simp only[go_sem,ge_iff_le,<- hl]
      cases hb:cm1 b with
      | true=>simp only[go_sem,w1]; exact ⟨hlt,step hb⟩
      | false=>simp only[go_sem,fin hb,and_self]
  ·have hi':i=s.length:=by omega
   have c1:¬ (i:Int)<s.length:=by omega
   simp only[go_sem,c1];subst hi';rw[List.take_length] at ha;simp only[bg2,ha,go_sem,hl,h1,and_self]
 ·have h1':(64:Int)<s.length:=by omega
  simp only[ic200,go_sem,h0,h1',bg2,h1,Bool.and_false,Bool.false_and,and_self]
theorem dw5 (e:EVR)(dep:Bool)(h1:e.ver.length<2^62)(h2:e.rel.length<2^62):PC Tryz.prog EE 142 [.agg e.cs,.bool dep] (.bool (bg3 e dep)):=by
 obtain ⟨ep,ver,rel⟩:=e;refine ap7 fok142 (nZ rfl) fun σ=>?_
 have hw:=df6 ver h1;have hw':=df6 rel h2;by_cases a1:(0:Int)<=ep
 ·by_cases a2:ep<=2147483647
  ·simp only[ic142,go_sem,EVR.cs,bg3,a1,a2];refine aa5 fok200 hw ?_;simp only[go_sem]
   cases hv:bg2 ver with
   | false=>simp only[go_sem,and_self]
   | true=>
    simp only[go_sem];refine aa5 fok200 hw' ?_;simp only[go_sem]
    cases hr:bg2 rel with
    | true=>simp only[go_sem,and_self]
    | false=>
     cases dep with
     | true=>
      simp only[go_sem]
      cases rel<;>first|rfl|exact ⟨rfl,rfl⟩
     | false=>simp only[go_sem,and_self]
  ·simp only[ic142,go_sem,EVR.cs,bg3,a1,a2,and_self]
 ·simp only[ic142,go_sem,EVR.cs,bg3,a1,and_self]
theorem eg1 (n:Int):PC Tryz.prog EE 221 [.int .u8 n] (.str (ef8 n)):=by
 obtain ⟨_,pf,an,h⟩:=fok221;exact hm6 (g:=1) h E1
theorem go5 (n:Int):ff7 n=(decide (n=0) || !decide (ef8 n=[])):=by
 unfold ff7 ef8;by_cases h0:n=0
 ·subst h0; rfl
 by_cases h1:n=1
 ·subst h1; rfl
 by_cases h2:n=2
 ·subst h2; rfl
 by_cases h3:n=3
 ·subst h3; rfl
 by_cases h4:n=4
 ·subst h4; rfl
 by_cases h6:n=6
 ·subst h6; rfl
 simp[h0,h1,h2,h3,h4,h6]
theorem fh2 (n:Int):PC Tryz.prog EE 170 [.int .u8 n] (.bool (ff7 n)):=by
 refine ap7 fok170 (nZ rfl) fun σ=>?_
 rw[go5];by_cases h:n=0
 ·simp only[ic170,go_sem,h,and_self]
 ·simp only[ic170,go_sem,h];refine aa5 fok221 (eg1 n) ?_;simp only[go_sem,and_self]
theorem hn6 (c:UInt8)(l:Str)(i:Nat):decide (dz7 c.toNat l i<0)=!l.contains c:=by
 rw[<- eo3 c l i,<- decide_not];exact decide_eq_decide.2 (by omega)
def gx9:List IV:=[.str [97,110,100],.str [111,114],.str [105,102],.str [101,108,115,101],.str [117,110,108,101,115,115],.str [119,105,116,104],.str [119,105,116,104,111,117,116]]
theorem eo5 {b:UInt8}(h:bq5 b=true):b.toNat<=126:=by
 have:b∈signs:=by simpa [bq5,List.contains_iff_mem] using h
 revert this
 have:∀ b∈signs,b.toNat<=126:=by decide +kernel
 exact this b
theorem ch8 (s:Str)(hs:s.length<2^62):PC Tryz.prog EE 140 [.str s] (.bool (ax3 s)):=by
 refine ag3 hE fok140 (nZ rfl) (fun a h=>by cases h with|head=>exact .str _|tail _ h=>cases h) ?_;by_cases h1:1<=s.length
 ·by_cases h2:s.length<=64
  ·have c1:¬ (s.length:Int)<1:=by omega
   have c2:¬ (64:Int)<s.length:=by omega
   simp only[ic140,go_sem,c1,c2];refine gw7 noT (fun m fr σ=>(fr.get 0=.str s/\fr.get 16=.ptr 0 0)/\∃ pos,σ.obj 0=some (.bb6 s pos)/\pos<=s.length/\m=s.length-pos/\(s.take pos).all bq5=true) s.length ⟨⟨rfl,rfl⟩,0,rfl,Nat.zero_le _,rfl,rfl⟩ ?_;rintro m fr σ ⟨⟨f0,f16⟩,pos,ho,hp,rfl,ha⟩;by_cases hlt:pos<s.length
   ·simp only[go_sem,f0,f16,ho,hlt,bi3,gx1];by_cases hb:s[pos].toNat<128
    ·rw[ev9 s pos hlt hb];by_cases hb2:s[pos].toNat<=126
     ·have d1:¬ (126:Int)<s[pos].toNat:=by omega
      have d2:IntKind.u8.wrap (s[pos].toNat:Int)=s[pos].toNat:=by
       have:=s[pos].toNat_lt;simp[IntKind.wrap,IntKind.bits,IntKind.signed];omega
      simp only[go_sem,d1,d2];refine aa5 (v:=.int .i64 (dz7 s[pos].toNat signs 0)) fok198 (aw8 signs s[pos]) ?_;have hi:decide (dz7 s[pos].toNat signs 0<0)=!bq5 s[pos]:=hn6 s[pos] signs 0;simp only[go_sem,hi]
      cases hg:bq5 s[pos] with
      | true=>
       simp only[go_sem]
       exact ⟨s.length-(pos+1),by omega,pos+1,rfl,hlt,rfl,by rw[eo4 hlt,ha,hg]; rfl⟩
      | false=>
       simp only[go_sem,ax3,bw7 hlt hg];exact ab9 _
     ·have d1:(126:Int)<s[pos].toNat:=by omega
      have hg:bq5 s[pos]=false:=by
       cases h:bq5 s[pos] with
       | false=>rfl
       | true=>exact absurd (eo5 h) hb2
      simp only[go_sem,d1,ax3,bw7 hlt hg];exact ab9 _
    ·have h3:=decode_high s pos hlt hb;generalize Utf8.decode ⟨s.toArray⟩ pos=dd at h3 ⊢;have d1:(126:Int)<dd.1:=by omega
     have hg:bq5 s[pos]=false:=by
      cases h:bq5 s[pos] with
      | false=>rfl
      | true=>have:=eo5 h; omega
     simp only[go_sem,d1,ax3,bw7 hlt hg];exact ab9 _
   ·have hpe:pos=s.length:=by omega
    subst hpe;rw[List.take_length] at ha;simp only[go_sem,f0,f16,ho,bi3,gx1,Nat.lt_irrefl,E0];refine ab4 noT (fun i fr σ=>fr=[(0,.str s),(28,.agg gx9),(29,.int .i64 i)]/\∀ w∈words.take i,s≠w) 7 ⟨rfl,fun w h=>by simp at h⟩ ?_;rintro i fr σ hi ⟨rfl,hw⟩;by_cases hlt:i<7
    ·have e1:(i:Int)<7:=by omega
     have e2:(0:Int)<=i:=by omega
     have w1:=ad4 (i:=i) (by omega)
     obtain ⟨w,h3,h4,h5⟩:∃ w,gx9[i]? = some (.str w)/\words.take (i+1)=words.take i++[w]/\w∈words:=by
      have:i=0\/i=1\/i=2\/i=3\/i=4\/i=5\/i=6:=by omega
      rcases this with rfl|rfl|rfl|rfl|rfl|rfl|rfl<;>exact ⟨_,rfl,rfl,by decide⟩
     simp only[go_sem,e1,e2,Nat.mul_one,h3];by_cases hsw:s=w
     ·subst hsw;have:words.contains s=true:=by simpa using h5
      simp only[go_sem,ax3,this];exact ab9 _
     ·simp only[go_sem,hsw,w1];refine ⟨hlt,?_⟩;rw[h4];intro x hx;rcases List.mem_append.1 hx with h|h
      ·exact hw x h
      ·have:x=w:=by simpa using h
       rw[this]; exact hsw
    ·have hi7:i=7:=by omega
     subst hi7
     have:words.contains s=false:=by
      cases h:words.contains s with
      | false=>rfl
      | true=>exact absurd rfl (hw s (by rw[show words.take 7=words from rfl]; simpa using h))
     have e7:¬ ((7:Nat):Int)<7:=by omega
     simp only[go_sem,e7,ax3,this,h1,h2,ha,Int.lt_irrefl];exact ab9 _
  ·have c1:¬ (s.length:Int)<1:=by omega
   have c2:(64:Int)<s.length:=by omega
   simp only[ic140,go_sem,c1,c2,ax3,h1,h2];exact ab9 _
 ·have c1:(s.length:Int)<1:=by omega
  simp only[ic140,go_sem,c1,ax3,h1];exact ab9 _
theorem ch9 (s:Str)(hs:s.length<2^62):PC Tryz.prog EE 141 [.str s] (.bool (bq6 s)):=by
 refine ap7 fok141 (nZ rfl) fun σ=>?_
 simp only[ic141,go_sem];refine aa5 fok140 (ch8 s hs) ?_;simp only[go_sem]
 cases h:ax3 s with
 | false=>simp only[go_sem,bq6,h,and_self]
 | true=>
  simp only[go_sem];refine aa5 fok199 (dw3 s [47]) ?_
  have:(decide ([47].length<=s.length)&&decide (s.take [47].length=[47]))=(s.head? == some 47):=by
   cases s with
   | nil=>rfl
   | cons b l=>simp[eq_comm]; by_cases hb:b=47<;>simp[hb]
  simp only[List.length_cons,List.length_nil] at this;simp only[go_sem,bq6,h,this,and_self]
theorem bj3 (d:Dep)(h1:d.name.length<2^62)(h2:d.evr.ver.length<2^62)(h3:d.evr.rel.length<2^62):PC Tryz.prog EE 95 [.agg d.cs] (.bool (al2 d)):=by
 obtain ⟨name,op,ep,ver,rel⟩:=d;refine ap7 fok95 (nZ rfl) fun σ=>?_
 simp only[ic95,go_sem,Dep.cs];refine aa5 fok140 (ch8 name h1) ?_;simp only[go_sem]
 cases hn:ax3 name with
 | false=>simp only[go_sem,al2,hn,and_self]
 | true=>
  simp only[go_sem];refine aa5 fok170 (fh2 op) ?_;simp only[go_sem]
  cases ho:ff7 op with
  | false=>simp only[go_sem,al2,hn,ho,and_self]
  | true=>
   by_cases h0:op=0
   ·subst h0
    have hd:al2 ⟨name,0,ep,ver,rel⟩=(decide (ep=0)&&(decide (ver=[])&&decide (rel=[]))):=by
     simp only[al2,hn,ho,go_sem,ic5,EVR.mk.injEq,Bool.decide_and]
    simp only[go_sem,hd,and_self]
   ·simp only[go_sem,h0];refine aa5 fok141 (ch9 name h1) ?_;simp only[go_sem]
    cases hf:bq6 name with
    | true=>simp only[go_sem,al2,hn,ho,h0,hf,and_self]
    | false=>
     simp only[go_sem];refine aa5 (v:=.bool (bg3 ⟨ep,ver,rel⟩ true)) fok142 (dw5 ⟨ep,ver,rel⟩ true h2 h3) ?_;simp only[go_sem,al2,hn,ho,h0,hf,and_self]
def go6 (k:Int):List IV:=[.int .i64 (asks k).1,.int .i64 (asks k).2.1,.bool (asks k).2.2.1,.int .u8 (asks k).2.2.2]
theorem fh3 (k:Int)(h1:0<=k)(h2:k<256):PC Tryz.prog EE 209 [.int .u8 k] (.agg (go6 k)):=by
 have w:=wrap64 (x:=k) (by omega) (by omega);by_cases h8:8<=k
 ·refine ag3 hE fok209 (nZ rfl) (fun a h=>by cases h with|head=>exact .int _ _|tail _ h=>cases h) ?_;simp only[ic209,go_sem,w,h8]
  have:go6 k=[.int .i64 0,.int .i64 0,.bool false,.int .u8 0]:=by
   unfold go6 asks;rw[if_neg (by omega),if_neg (by omega),if_neg (by omega),if_neg (by omega),if_neg (by omega),if_neg (by omega),if_neg (by omega)];rfl
  rw[this];exact .keep _ (av2 10 _ (by kernel_rfl))
 ·have:k=0\/k=1\/k=2\/k=3\/k=4\/k=5\/k=6\/k=7:=by omega
  rcases this with rfl|rfl|rfl|rfl|rfl|rfl|rfl|rfl
  all_goals
   refine ag3 hE fok209 (nZ rfl) (fun a h=>by cases h with|head=>exact .int _ _|tail _ h=>cases h) ?_;simp only[ic209,go_sem,w];exact .keep _ (av2 10 _ (by kernel_rfl))
theorem hn7 (d:Dep):∀ c∈d.cs,Bnd 0 c:=by
 intro c hc;simp only[Dep.cs,List.mem_cons,List.not_mem_nil,or_false] at hc;rcases hc with rfl|rfl|rfl|rfl|rfl<;>first|exact .str _|exact .int _ _
theorem dm4 (r:aa8):∀ c∈r.cs,Bnd 0 c:=by
 induction r using aa8.ind with
 | h k d xs ih=>
  intro c hc;rw[aa8.aq5] at hc;simp only[List.mem_cons,List.not_mem_nil,or_false] at hc;rcases hc with rfl|rfl|rfl|rfl|rfl|rfl|rfl<;>first|exact .str _|exact .int _ _|skip
  refine .aa3 _ fun e he c hc=>?_
  obtain ⟨a,ha,rfl⟩:=List.mem_map.1 he;exact ih a ha c hc
theorem ah8 (r:aa8):Bnd 0 (.agg r.cs):=.agg _ (dm4 r)
theorem ac2 (r:aa8):r.cs.length=7:=by rw[aa8.aq5]; rfl
theorem ae4 {P:IV->Prop}{v:IV}(h:P v):∀ a∈[v],P a:=fun a ha=>by
 cases ha with
 | head=>exact h
 | tail _ h=>cases h
theorem eg2 (a:aa8)(xs:List aa8):aa8.bi6 (a::xs)=max a.depth (aa8.bi6 xs):=by simp only[aa8.bi6]
theorem hn8 (n m:Nat):(if (m:Int)>(n:Int) then (m:Int) else n)=((max n m:Nat):Int):=by
 split<;>omega
theorem dm5 (r:aa8):r.fit->r.depth<2^62->PC Tryz.prog EE 208 [.agg r.cs] (.int .i64 r.depth):=by
 induction r using aa8.ind with
 | h k d xs ih=>
  intro hf hd;obtain ⟨f1,f2,f3,f4,f5⟩:=aa8.cr4.1 hf;refine ag3 hE fok208 (nZ rfl) (ae4 (ah8 _)) ?_;rw[aa8.aq5];by_cases hk:k=1
  ·simp only[ic208,go_sem,aa8.kind,aa8.depth,hk];exact ad8 _ _
  ·simp only[aa8.depth,hk,if_false] at hd;simp only[ic208,go_sem,aa8.kind,aa8.depth,hk];refine ab4 noT (fun i fr σ=>∃ n:Nat,fr=[(3,.int .i64 n),(10,.aa3 (xs.map aa8.cs)),(11,.int .i64 xs.length),(12,.int .i64 i)]/\max n (aa8.bi6 (xs.drop i))=aa8.bi6 xs) xs.length ⟨0,rfl,by simp⟩ ?_;rintro i fr σ hi ⟨n,rfl,hn⟩;by_cases hlt:i<xs.length
   ·obtain ⟨a,ha,_,hdr,hget,_⟩:=af5 xs i hlt;have c1:(i:Int)<xs.length:=by omega
    have c2:(0:Int)<=i:=by omega
    have w1:=ad4 (i:=i) (by omega);rw[hdr,eg2] at hn;have hl:a.cs.all IV.leaf=true:=by rw[aa8.aq5]; rfl
    have ht:a.cs.take 7=a.cs:=List.take_of_length_le (by rw[ac2]; exact Nat.le_refl _);simp only[go_sem,c1,c2,hget,ac2,ht,hl,aa8.args,List.drop_zero];refine aa5 fok208 (ih a ha (f5 a ha) (by omega)) ?_;simp only[go_sem,gw9,dt6,hn8,w1];exact ⟨hlt,max n a.depth,rfl,by rw[<- hn]; omega⟩
   ·have hi':i=xs.length:=by omega
    subst hi';have c1:¬ (xs.length:Int)<xs.length:=by omega
    simp only[List.drop_length,aa8.bi6,Nat.max_zero] at hn;subst hn;have w1:=ad4 (i:=aa8.bi6 xs) (by omega);simp only[go_sem,c1,w1];exact ad8 _ _
def row (p:aa8×Bool):List IV:=[.agg p.1.cs,.bool p.2]
def evs (r:aa8)(al:Bool):List (List IV):=(r.parts al).map row
def dw6 (xs:List aa8)(al:Bool):List (List IV):=(aa8.bi7 xs al).map row
theorem im1 (k:Int)(d:Dep)(xs:List aa8)(al:Bool):evs (.mk k d xs) al=[.agg (aa8.mk k d xs).cs,.bool al]::dw6 xs (al||decide (k=6)||decide (k=7)):=by
 simp only[evs,dw6,aa8.parts,List.map_cons,row]
theorem bw8 (a:aa8)(xs:List aa8)(al:Bool):dw6 (a::xs) al=evs a al++dw6 xs al:=by
 simp only[evs,dw6,aa8.bi7,List.map_append]
def boxed (b:Nat)(s:Store):Prop:=b<s.next/\s.obj b=some (.cells [.func (.func 216) [] [.ptr b 0]])
theorem im2 (r:aa8):r.fit->∀ (al:Bool) (rest:List (List IV)) (b yid:Nat) (I:List (List IV)->Store->Prop) (S:Store->Prop) (σ:Store),(∀ rest s,I rest s->boxed b s)->ir1 I->gi8 Tryz.prog EE yid I S ->
  I (evs r al++rest) σ->C Tryz.prog EE 216 [.agg r.cs,.bool al,.yield yid,.ptr b 0] σ fun v s=>σ.next<=s.next/\((v=.bool true/\I rest s)\/(v=.bool false/\S s)):=by
 induction r using aa8.ind with
 | h k d xs ih=>
  intro hf al rest b yid I S σ hown hstab hy hi;obtain ⟨f1,f2,f3,f4,f5⟩:=aa8.cr4.1 hf;refine C_f fok216 (nZ rfl) ?_;rw[im1,List.cons_append,aa8.aq5] at hi;rw[aa8.aq5];simp only[ic216,go_sem,aa8.kind,aa8.dep,aa8.args] at hi ⊢;refine cl4 hy hi (fun s hn hi=>?_) (fun s hn hs=>?_)
  ·have H:(al=true)\/(al=false/\k=6)\/(al=false/\¬ k=6/\k=7)\/(al=false/\¬ k=6/\¬ k=7):=by
    cases al<;>by_cases h6:k=6<;>by_cases h7:k=7<;>simp[h6,h7]
   rcases H with h1|⟨h1,h2⟩|⟨h1,h2,h3⟩|⟨h1,h2,h3⟩
   ·have hA:(al||decide (k=6)||decide (k=7))=true:=by simp[h1]
    rw[hA] at hi;simp only[go_sem,h1];refine ab4 noT (fun i fr t=>fr=[(1,.bool true),(2,.yield yid),(3,.ptr b 0),(27,.aa3 (xs.map aa8.cs)),(28,.int .i64 xs.length),(29,.int .i64 i)]/\I (dw6 (xs.drop i) true++rest) t/\σ.next<=t.next) xs.length ⟨rfl,hi,hn⟩ ?_;rintro i fr t hle ⟨rfl,hi,hn⟩;by_cases hlt:i<xs.length
    ·obtain ⟨a,ha,_,hdr,hget,_⟩:=af5 xs i hlt;have c1:(i:Int)<xs.length:=by omega
     have c2:(0:Int)<=i:=by omega
     have w1:=ad4 (i:=i) (by omega);have hl:a.cs.all IV.leaf=true:=by rw[aa8.aq5]; rfl
     have ht:a.cs.take 7=a.cs:=List.take_of_length_le (by rw[ac2]; exact Nat.le_refl _);obtain ⟨hb1,hb2⟩:=hown _ _ hi;have hb3:¬ b=t.next:=by omega
     simp only[go_sem,c1,c2,hget,ac2,ht,hl,hb2,hb3];rw[hdr,bw8,List.append_assoc] at hi;refine ac9 fok216 (ih a ha (f5 a ha) true (dw6 (xs.drop (i+1)) true++rest) b yid I S _ hown hstab hy (hstab _ _ _ hi (Nat.le_succ _) (fun j hj=>?_))) ?_
     ·have:¬ j=t.next:=by omega
      simp only[aa4,this,if_false]
     ·rintro v s2 ⟨hn2,⟨rfl,hi2⟩|⟨rfl,hs2⟩⟩
      ·refine ⟨hn2,?_⟩;have hn3:t.next+1<=s2.next:=hn2;simp only[go_sem,w1];exact ⟨hlt,hi2,by omega⟩
      ·refine ⟨hn2,?_⟩;have hn3:t.next+1<=s2.next:=hn2;simp only[go_sem];exact ⟨by omega,.inr hs2⟩
    ·have hi':i=xs.length:=by omega
     subst hi';have c1:¬ (xs.length:Int)<xs.length:=by omega
     simp only[List.drop_length,dw6,aa8.bi7,List.map_nil,List.nil_append] at hi;simp only[go_sem,c1];exact ⟨hn,.inl hi⟩
   ·have hA:(al||decide (k=6)||decide (k=7))=true:=by simp[h1,h2]
    rw[hA] at hi;simp only[go_sem,h1,h2];refine ab4 noT (fun i fr t=>fr=[(1,.bool true),(2,.yield yid),(3,.ptr b 0),(27,.aa3 (xs.map aa8.cs)),(28,.int .i64 xs.length),(29,.int .i64 i)]/\I (dw6 (xs.drop i) true++rest) t/\σ.next<=t.next) xs.length ⟨rfl,hi,hn⟩ ?_;rintro i fr t hle ⟨rfl,hi,hn⟩;by_cases hlt:i<xs.length
    ·obtain ⟨a,ha,_,hdr,hget,_⟩:=af5 xs i hlt;have c1:(i:Int)<xs.length:=by omega
     have c2:(0:Int)<=i:=by omega
     have w1:=ad4 (i:=i) (by omega);have hl:a.cs.all IV.leaf=true:=by rw[aa8.aq5]; rfl
     have ht:a.cs.take 7=a.cs:=List.take_of_length_le (by rw[ac2]; exact Nat.le_refl _);obtain ⟨hb1,hb2⟩:=hown _ _ hi;have hb3:¬ b=t.next:=by omega
     simp only[go_sem,c1,c2,hget,ac2,ht,hl,hb2,hb3];rw[hdr,bw8,List.append_assoc] at hi;refine ac9 fok216 (ih a ha (f5 a ha) true (dw6 (xs.drop (i+1)) true++rest) b yid I S _ hown hstab hy (hstab _ _ _ hi (Nat.le_succ _) (fun j hj=>?_))) ?_
     ·have:¬ j=t.next:=by omega
      simp only[aa4,this,if_false]
     ·rintro v s2 ⟨hn2,⟨rfl,hi2⟩|⟨rfl,hs2⟩⟩
      ·refine ⟨hn2,?_⟩;have hn3:t.next+1<=s2.next:=hn2;simp only[go_sem,w1];exact ⟨hlt,hi2,by omega⟩
      ·refine ⟨hn2,?_⟩;have hn3:t.next+1<=s2.next:=hn2;simp only[go_sem];exact ⟨by omega,.inr hs2⟩
    ·have hi':i=xs.length:=by omega
     subst hi';have c1:¬ (xs.length:Int)<xs.length:=by omega
     simp only[List.drop_length,dw6,aa8.bi7,List.map_nil,List.nil_append] at hi;simp only[go_sem,c1];exact ⟨hn,.inl hi⟩
   ·have hA:(al||decide (k=6)||decide (k=7))=true:=by simp[h1,h2,h3,show ¬ ((7:Int)=6) from by omega]
    rw[hA] at hi;simp only[go_sem,h1,h2,h3,show ¬ ((7:Int)=6) from by omega];refine ab4 noT (fun i fr t=>fr=[(1,.bool true),(2,.yield yid),(3,.ptr b 0),(27,.aa3 (xs.map aa8.cs)),(28,.int .i64 xs.length),(29,.int .i64 i)]/\I (dw6 (xs.drop i) true++rest) t/\σ.next<=t.next) xs.length ⟨rfl,hi,hn⟩ ?_;rintro i fr t hle ⟨rfl,hi,hn⟩;by_cases hlt:i<xs.length
    ·obtain ⟨a,ha,_,hdr,hget,_⟩:=af5 xs i hlt;have c1:(i:Int)<xs.length:=by omega
     have c2:(0:Int)<=i:=by omega
     have w1:=ad4 (i:=i) (by omega);have hl:a.cs.all IV.leaf=true:=by rw[aa8.aq5]; rfl
     have ht:a.cs.take 7=a.cs:=List.take_of_length_le (by rw[ac2]; exact Nat.le_refl _);obtain ⟨hb1,hb2⟩:=hown _ _ hi;have hb3:¬ b=t.next:=by omega
     simp only[go_sem,c1,c2,hget,ac2,ht,hl,hb2,hb3];rw[hdr,bw8,List.append_assoc] at hi;refine ac9 fok216 (ih a ha (f5 a ha) true (dw6 (xs.drop (i+1)) true++rest) b yid I S _ hown hstab hy (hstab _ _ _ hi (Nat.le_succ _) (fun j hj=>?_))) ?_
     ·have:¬ j=t.next:=by omega
      simp only[aa4,this,if_false]
     ·rintro v s2 ⟨hn2,⟨rfl,hi2⟩|⟨rfl,hs2⟩⟩
      ·refine ⟨hn2,?_⟩;have hn3:t.next+1<=s2.next:=hn2;simp only[go_sem,w1];exact ⟨hlt,hi2,by omega⟩
      ·refine ⟨hn2,?_⟩;have hn3:t.next+1<=s2.next:=hn2;simp only[go_sem];exact ⟨by omega,.inr hs2⟩
    ·have hi':i=xs.length:=by omega
     subst hi';have c1:¬ (xs.length:Int)<xs.length:=by omega
     simp only[List.drop_length,dw6,aa8.bi7,List.map_nil,List.nil_append] at hi;simp only[go_sem,c1];exact ⟨hn,.inl hi⟩
   ·have hA:(al||decide (k=6)||decide (k=7))=false:=by simp[h1,h2,h3]
    rw[hA] at hi;simp only[go_sem,h1,h2,h3];refine ab4 noT (fun i fr t=>fr=[(1,.bool false),(2,.yield yid),(3,.ptr b 0),(27,.aa3 (xs.map aa8.cs)),(28,.int .i64 xs.length),(29,.int .i64 i)]/\I (dw6 (xs.drop i) false++rest) t/\σ.next<=t.next) xs.length ⟨rfl,hi,hn⟩ ?_;rintro i fr t hle ⟨rfl,hi,hn⟩;by_cases hlt:i<xs.length
    ·obtain ⟨a,ha,_,hdr,hget,_⟩:=af5 xs i hlt;have c1:(i:Int)<xs.length:=by omega
     have c2:(0:Int)<=i:=by omega
     have w1:=ad4 (i:=i) (by omega);have hl:a.cs.all IV.leaf=true:=by rw[aa8.aq5]; rfl
     have ht:a.cs.take 7=a.cs:=List.take_of_length_le (by rw[ac2]; exact Nat.le_refl _);obtain ⟨hb1,hb2⟩:=hown _ _ hi;have hb3:¬ b=t.next:=by omega
     simp only[go_sem,c1,c2,hget,ac2,ht,hl,hb2,hb3];rw[hdr,bw8,List.append_assoc] at hi;refine ac9 fok216 (ih a ha (f5 a ha) false (dw6 (xs.drop (i+1)) false++rest) b yid I S _ hown hstab hy (hstab _ _ _ hi (Nat.le_succ _) (fun j hj=>?_))) ?_
     ·have:¬ j=t.next:=by omega
      simp only[aa4,this,if_false]
     ·rintro v s2 ⟨hn2,⟨rfl,hi2⟩|⟨rfl,hs2⟩⟩
      ·refine ⟨hn2,?_⟩;have hn3:t.next+1<=s2.next:=hn2;simp only[go_sem,w1];exact ⟨hlt,hi2,by omega⟩
      ·refine ⟨hn2,?_⟩;have hn3:t.next+1<=s2.next:=hn2;simp only[go_sem];exact ⟨by omega,.inr hs2⟩
    ·have hi':i=xs.length:=by omega
     subst hi';have c1:¬ (xs.length:Int)<xs.length:=by omega
     simp only[List.drop_length,dw6,aa8.bi7,List.map_nil,List.nil_append] at hi;simp only[go_sem,c1];exact ⟨hn,.inl hi⟩
  ·simp only[go_sem];exact ⟨hn,.inr hs⟩
theorem ci1 (r:aa8)(hf:r.fit)(b:Nat):em2 Tryz.prog EE (.func (.func 217) [] [.ptr b 0,.ab6 r.cs]) (evs r false) (boxed b):=by
 intro yid I S σ hown hstab hy hi;refine ⟨fok217.1,?_⟩;refine C_f fok217 (nZ rfl) ?_;obtain ⟨hb1,hb2⟩:=hown _ _ hi;have ht:r.cs.take 7=r.cs:=List.take_of_length_le (by rw[ac2]; exact Nat.le_refl _);simp only[ic217,go_sem,hb2,ht,ac2];refine ac9 fok216 (im2 r hf false [] b yid I S σ hown hstab hy (by rw[List.append_nil]; exact hi)) ?_;rintro v s ⟨hn,h⟩;refine ⟨hn,?_⟩;simp only[go_sem];refine ⟨hn,?_⟩;rcases h with ⟨_,h⟩|⟨_,h⟩
 ·exact .inl h
 ·exact .inr h
theorem eg3 (r:aa8)(σ:Store):C Tryz.prog EE 164 [.agg r.cs] σ fun v s=>v=.func (.func 217) [] [.ptr σ.next 0,.ab6 r.cs]/\boxed σ.next s/\σ.next<=s.next/\∀ i,i<σ.next->s.obj i=σ.obj i:=by
 refine C_f fok164 (nZ rfl) ?_;have hl:r.cs.all IV.leaf=true:=by rw[aa8.aq5]; rfl
 simp only[ic164,go_sem,hl];refine ⟨⟨Nat.lt_succ_self _,?_⟩,Nat.le_succ _,fun i hi=>?_⟩
 ·simp only[aa4,if_true]
 ·have:¬ i=σ.next:=by omega
  simp only[aa4,this,if_false]
theorem aa8.ct2 (r:aa8):∀ al,(r.parts al).length=r.count:=by
 induction r using aa8.ind with
 | h k d xs ih=>
  intro al;simp only[aa8.parts,aa8.count,List.length_cons];congr 1;generalize (al||decide (k=6)||decide (k=7))=al';clear al
  induction xs with
  | nil=>rfl
  | cons a xs ih'=>
   simp only[aa8.bi7,aa8.counts,List.length_append];rw[ih a (List.mem_cons_self ..),ih' (fun b hb=>ih b (List.mem_cons_of_mem _ hb))]
theorem dm6 {r:aa8}{al:Bool}:∀ a∈evs r al,a.length=2:=fun a ha=>by
 obtain ⟨p,_,rfl⟩:=List.mem_map.1 ha; rfl
theorem hn9 (r:aa8)(al:Bool):(evs r al).length=r.count:=by rw[evs,List.length_map,aa8.ct2]
theorem dm7 (r:aa8)(hf:r.fit)(hc:r.count<2^62):PC Tryz.prog EE 207 [.agg r.cs] (.int .i64 r.count):=by
 refine ag3 hE fok207 (nZ rfl) (ae4 (ah8 _)) ?_;have hl:r.cs.all IV.leaf=true:=by rw[aa8.aq5]; rfl
 have ht:r.cs.take 7=r.cs:=List.take_of_length_le (by rw[ac2]; exact Nat.le_refl _);simp only[ic207,go_sem,hl,ht,ac2];refine ac9 fok164 (eg3 r _) ?_;rintro v s1 ⟨rfl,hb,hn,hs⟩;refine ⟨hn,?_⟩;simp only[go_sem] at hn hs hb ⊢;have h0:s1.obj 0=some (.cells [.int .i64 0]):=by rw[hs 0 (by omega)]; rfl
 have hb2:=hb.1;refine cq3 (ci1 r hf 1) (fun rest s=>boxed 1 s/\∃ n:Nat,s.obj 0=some (.cells [.int .i64 n])/\n+rest.length=r.count) (fun _ _ h=>h.1) ?_ dm6 ?_ ?_ ?_
 ·rintro rest s s' ⟨⟨q1,q2⟩,n,q3,q4⟩ hn' hs';exact ⟨⟨by omega,by rw[hs' 1 q1]; exact q2⟩,n,by rw[hs' 0 (by omega)]; exact q3,q4⟩
 ·intro o;have e0:¬ 0=s1.next:=by omega
  have e1:¬ 1=s1.next:=by omega
  exact ⟨⟨by show 1<s1.next+1; omega,by simp only[aa4,e1,if_false]; exact hb.2⟩,0,by simp only[aa4,e0,if_false]; exact h0,by rw[hn9]; omega⟩
 ·rintro L pre a rest s hev ⟨⟨q1,q2⟩,n,q3,q4⟩ hL hlt;have ha:=dm6 (r:=r) (al:=false) a (by rw[hev]; simp)
  match a,ha with
  | [x,y],_=>
   have e0:¬ 0=s1.next:=by omega
   have e1:¬ s1.next=0:=by omega
   have e2:¬ 1=s1.next:=by omega
   simp only[List.length_cons] at q4;have w1:=ad4 (i:=n) (by omega);have e3:¬ s1.next=1:=by omega
   simp only[go_sem,hL,e0,q3,e1,w1];refine dj5 (Nat.le_refl _) ?_ ⟨⟨q1,?_⟩,n+1,?_,by omega⟩
   ·simp only[aa4,if_true]
   ·have:¬ 1=0:=by omega
    simp only[aa4,e2,this,if_false]; exact q2
   ·simp only[aa4,e0,if_false,if_true]
 ·rintro s o ⟨⟨q1,q2⟩,n,q3,q4⟩ hlt ho;have e0:¬ 0=s1.next:=by omega
  have:n=r.count:=by simpa using q4
  subst this;simp only[go_sem,e0,q3];exact ad8 _ _
theorem fv1 (r:aa8):r.fit->∀ al,∀ p∈r.parts al,p.1.fit:=by
 induction r using aa8.ind with
 | h k d xs ih=>
  intro hf al p hp;simp only[aa8.parts,List.mem_cons] at hp;rcases hp with rfl|hp
  ·exact hf
  ·have hx:=(aa8.cr4.1 hf).2.2.2.2;clear hf;generalize (al||decide (k=6)||decide (k=7))=al' at hp
   induction xs with
   | nil=>simp[aa8.bi7] at hp
   | cons a xs ih'=>
    simp only[aa8.bi7,List.mem_append] at hp;rcases hp with hp|hp
    ·exact ih a (List.mem_cons_self ..) (hx a (List.mem_cons_self ..)) _ p hp
    ·exact ih' (fun b hb=>ih b (List.mem_cons_of_mem _ hb)) (fun b hb=>hx b (List.mem_cons_of_mem _ hb)) hp
theorem go7 (r:aa8):r.depth<=r.count:=by
 induction r using aa8.ind with
 | h k d xs ih=>
  simp only[aa8.depth,aa8.count];split
  ·omega
  ·apply Nat.succ_le_succ
   induction xs with
   | nil=>simp[aa8.bi6]
   | cons a xs ih'=>
    simp only[aa8.bi6,aa8.counts];have h1:=ih a (List.mem_cons_self ..);have h2:=ih' (fun b hb=>ih b (List.mem_cons_of_mem _ hb));omega
theorem eg4 (r:aa8)(wh:Int)(hf:r.fit)(hc:r.count<2^62):PC Tryz.prog EE 149 [.agg r.cs,.int .u8 wh] (.int .i64 (at1 r wh)):=by
 refine ag3 hE fok149 (nZ rfl) (fun a ha=>by
  cases ha with
  | head=>exact ah8 _
  | tail _ ha=>cases ha with
   | head=>exact .int _ _
   | tail _ ha=>cases ha) ?_
 have hl:r.cs.all IV.leaf=true:=by rw[aa8.aq5]; rfl
 have ht:r.cs.take 7=r.cs:=List.take_of_length_le (by rw[ac2]; exact Nat.le_refl _);have hdl:=go7 r;by_cases a1:wh<1
 ·simp only[ic149,go_sem,hl,a1,at1];exact ad8 _ _
 by_cases a2:3<wh
 ·simp only[ic149,go_sem,hl,a1,a2,at1];exact ad8 _ _
 simp only[ic149,go_sem,hl,a1,a2,ht,ac2];refine aa5 fok207 (dm7 r hf hc) ?_;by_cases a3:24<r.count
 ·have c3:(24:Int)<r.count:=by omega
  simp only[go_sem,c3,at1,a1,a2,a3,or_self];exact ad8 _ _
 have c3:¬ (24:Int)<r.count:=by omega
 simp only[go_sem,c3,ht,ac2];refine aa5 fok208 (dm5 r hf (by omega)) ?_;by_cases a4:8<r.depth
 ·have c4:(8:Int)<r.depth:=by omega
  simp only[go_sem,c4,at1,a1,a2,a3,a4,or_self];exact ad8 _ _
 have c4:¬ (8:Int)<r.depth:=by omega
 simp only[go_sem,c4,ht,ac2]
 have hres:at1 r wh=if (r.parts false).all (fun p=>aj2 wh p.1 p.2)=true then 0 else 4:=by
  simp only[at1,a1,a2,a3,a4,or_self,if_false]
 rw[hres];generalize hS:(Store.mk _ _)=s0;refine ac9 fok164 (eg3 r _) ?_;rintro v s1 ⟨rfl,hb,hn,hs⟩;have g0:s0.next=1:=by subst hS; simp only
 have g1:s0.obj 0=some (.cells [.int .i64 0]):=by subst hS; simp only[aa4,if_true]
 refine ⟨hn,?_⟩;rw[g0] at hb hn hs;have hb2:=hb.1;have h0:s1.obj 0=some (.cells [.int .i64 0]):=by rw[hs 0 (by omega),g1]
 have e0:¬ 0=s1.next:=by omega
 have e1:¬ s1.next=0:=by omega
 have e2:¬ 1=s1.next:=by omega
 simp only[go_sem,g0];refine cq3 (ci1 r hf 1) (fun rest s=>(boxed 1 s/\s.obj 0=some (.cells [.int .i64 0]))/\∃ ps:List (aa8×Bool),rest=ps.map row/\(∀ p∈ps,p.1.fit)/\(r.parts false).all (fun p:aa8×Bool=>aj2 wh p.1 p.2)=ps.all (fun p:aa8×Bool=>aj2 wh p.1 p.2)) (fun _ _ h=>h.1.1) ?_ dm6 ?_ ?_ ?_
 ·rintro rest s s' ⟨⟨⟨q1,q2⟩,q3⟩,q4⟩ hn' hs';exact ⟨⟨⟨by omega,by rw[hs' 1 q1]; exact q2⟩,by rw[hs' 0 (by omega)]; exact q3⟩,q4⟩
 ·intro o;exact ⟨⟨⟨by show 1<s1.next+1; omega,by simp only[aa4,e2,if_false]; exact hb.2⟩,by simp only[aa4,e0,if_false]; exact h0⟩,_,rfl,fv1 r hf false,rfl⟩
 ·rintro L pre a rest s hev ⟨⟨⟨q1,q2⟩,q3⟩,ps,hps,hfp,hall⟩ hL hlt
  cases ps with
  | nil=>cases hps
  | cons p ps=>
   obtain ⟨⟨k,d,xs⟩,al⟩:=p;simp only[List.map_cons,List.cons.injEq] at hps;obtain ⟨rfl,rfl⟩:=hps;obtain ⟨f1,f2,f3,f4,f5⟩:=aa8.cr4.1 (hfp _ (List.mem_cons_self ..));have hfp':∀ p∈ps,p.1.fit:=fun p hp=>hfp p (List.mem_cons_of_mem _ hp)
   simp only[List.all_cons] at hall;have u0:¬ 0=s.next:=by omega
   have u1:¬ s1.next=s.next:=by omega
   have u2:¬ s.next=s1.next:=by omega
   have u3:¬ 0=s.next+1:=by omega
   have u4:¬ s1.next=s.next+1:=by omega
   have u5:¬ s.next=s.next+1:=by omega
   simp only[row,aa8.aq5,aa8.kind,aa8.dep,aa8.args,go_sem,hL,q3,e0,e1,u0,u1,u2,u3,u4,u5];have u6:¬ s.next+1=s1.next:=by omega
   have u7:¬ s.next+1=s.next:=by omega
   have u8:¬ s.next+1=0:=by omega
   have u9:¬ s.next=0:=by omega
   have u10:¬ 1=s.next:=by omega
   have u11:¬ 1=s.next+1:=by omega
   refine aa5 fok209 (fh3 k f1 f2) ?_;simp only[go_sem,go6,q3,e0,e1,u0,u3,e2,u1,u2,u4,u5,u6,u7,u8,u9,u10,u11];have hstop:∀ ok:Bool,aj2 wh (.mk k d xs) al=ok->aj2 wh (.mk k d xs) al=ok:=fun _ h=>h
   by_cases b1:((asks k).2.2.2:Int)<wh
   ·have hok:aj2 wh (.mk k d xs) al=false:=by simp[aj2,aa8.kind,b1]
    simp only[go_sem,b1,q3,e0,e1,u0,u3,e2,u1,u2,u4,u5,u6,u7,u8,u9,u10,u11]
    (refine cq2 (by simp only[aa9]; omega) (by simp only[aa4,if_true]) ?_; simp only[go_sem,e2,u1,u2,u4,u5,u6,u7,u8,u9,u10,u11,e0,u0,u3]; rw[hall,hok]; exact ad8 _ _)
   by_cases b2:(al=true/\(asks k).2.2.1=false)
   ·have hok:aj2 wh (.mk k d xs) al=false:=by simp[aj2,aa8.kind,b2.1,b2.2]
    simp only[go_sem,b1,b2.1,b2.2,q3,e0,e1,u0,u3,e2,u1,u2,u4,u5,u6,u7,u8,u9,u10,u11]
    (refine cq2 (by simp only[aa9]; omega) (by simp only[aa4,if_true]) ?_; simp only[go_sem,e2,u1,u2,u4,u5,u6,u7,u8,u9,u10,u11,e0,u0,u3]; rw[hall,hok]; exact ad8 _ _)
   have hb2:(al&&!(asks k).2.2.1)=false:=by
    cases al<;>cases hx:(asks k).2.2.1<;>simp_all
   have hal:(al=false)\/(al=true/\(asks k).2.2.1=true):=by
    cases al<;>cases hx:(asks k).2.2.1<;>simp_all
   have hdd:decide (d=dz8)=(decide (d.name=[])&&(decide (d.op=0)&&(decide (d.evr.ao5=0)&&(decide (d.evr.ver=[])&&decide (d.evr.rel=[]))))):=by
    obtain ⟨n,o,e,v,r⟩:=d;simp only[dz8,ic5,Dep.mk.injEq,EVR.mk.injEq,Bool.decide_and]
   have hpart:aj2 wh (.mk k d xs) al=(!(decide (((asks k).2.2.2:Int)<wh)||al&&!(asks k).2.2.1||decide (xs.length<(asks k).1)||decide ((asks k).2.1<xs.length))&&(if k=1 then al2 d else decide (d=dz8))):=rfl;have hdc:=bj3 d f3.1 f3.2.1 f3.2.2;rcases hal with h1|⟨h1,h2⟩
   ·by_cases b3:xs.length<(asks k).1
    ·have c3:(xs.length:Int)<(asks k).1:=by omega
     have hok:aj2 wh (.mk k d xs) al=false:=by simp[aj2,aa8.kind,aa8.args,b3]
     simp only[go_sem,b1,h1,c3,q3,e0,e1,u0,u3,e2,u1,u2,u4,u5,u6,u7,u8,u9,u10,u11]
     (refine cq2 (by simp only[aa9]; omega) (by simp only[aa4,if_true]) ?_; simp only[go_sem,e2,u1,u2,u4,u5,u6,u7,u8,u9,u10,u11,e0,u0,u3]; rw[hall,hok]; exact ad8 _ _)
    have c3:¬ (xs.length:Int)<(asks k).1:=by omega
    by_cases b4:(asks k).2.1<xs.length
    ·have c4:((asks k).2.1:Int)<xs.length:=by omega
     have hok:aj2 wh (.mk k d xs) al=false:=by simp[aj2,aa8.kind,aa8.args,b4]
     simp only[go_sem,b1,h1,c3,c4,q3,e0,e1,u0,u3,e2,u1,u2,u4,u5,u6,u7,u8,u9,u10,u11]
     (refine cq2 (by simp only[aa9]; omega) (by simp only[aa4,if_true]) ?_; simp only[go_sem,e2,u1,u2,u4,u5,u6,u7,u8,u9,u10,u11,e0,u0,u3]; rw[hall,hok]; exact ad8 _ _)
    have c4:¬ ((asks k).2.1:Int)<xs.length:=by omega
    by_cases hk:k=1
    ·have hkd:decide (k=1)=true:=decide_eq_true hk;simp only[go_sem,b1,h1,c3,c4,hkd,q3,e0,e1,u0,u3,e2,u1,u2,u4,u5,u6,u7,u8,u9,u10,u11,bv7];refine aa5 fok95 hdc ?_
     cases hd:al2 d with
     | false=>
      have hok:aj2 wh (.mk k d xs) al=false:=by simp[aj2,aa8.kind,aa8.args,aa8.dep,hk,hd]
      simp only[go_sem,q3,e0,e1,u0,u3,e2,u1,u2,u4,u5,u6,u7,u8,u9,u10,u11]
      (refine cq2 (by simp only[aa9]; omega) (by simp only[aa4,if_true]) ?_; simp only[go_sem,e2,u1,u2,u4,u5,u6,u7,u8,u9,u10,u11,e0,u0,u3]; rw[hall,hok]; exact ad8 _ _)
     | true=>
      have hok:aj2 wh (.mk k d xs) al=true:=by
       rw[hpart,decide_eq_false b1,hb2,decide_eq_false b3,decide_eq_false b4,if_pos hk,hd]; rfl
      simp only[go_sem,hkd,q3,e0,e1,u0,u3,e2,u1,u2,u4,u5,u6,u7,u8,u9,u10,u11]
      (refine dj5 (by simp only[aa9]; omega) (by simp only[aa4,if_true]) ⟨⟨⟨by simp only[aa9]; omega,by simp only[aa4,e2,u1,u2,u4,u5,u6,u7,u8,u9,u10,u11,if_false]; exact q2⟩,by simp only[aa4,e0,u0,u3,if_false]; exact q3⟩,ps,rfl,hfp',by rw[hall,hok,Bool.true_and]⟩)
    ·simp only[go_sem,b1,h1,c3,c4,hk,q3,e0,e1,u0,u3,e2,u1,u2,u4,u5,u6,u7,u8,u9,u10,u11,bv7];rw[<- hdd];by_cases hd:d=dz8
     ·have hok:aj2 wh (.mk k d xs) al=true:=by
       rw[hpart,decide_eq_false b1,hb2,decide_eq_false b3,decide_eq_false b4,if_neg hk,decide_eq_true hd]; rfl
      have hd1:decide (d=dz8)=true:=decide_eq_true hd;simp only[go_sem,hd1,q3,e0,e1,u0,u3,e2,u1,u2,u4,u5,u6,u7,u8,u9,u10,u11]
      (refine dj5 (by simp only[aa9]; omega) (by simp only[aa4,if_true]) ⟨⟨⟨by simp only[aa9]; omega,by simp only[aa4,e2,u1,u2,u4,u5,u6,u7,u8,u9,u10,u11,if_false]; exact q2⟩,by simp only[aa4,e0,u0,u3,if_false]; exact q3⟩,ps,rfl,hfp',by rw[hall,hok,Bool.true_and]⟩)
     ·have hok:aj2 wh (.mk k d xs) al=false:=by simp[aj2,aa8.kind,aa8.args,aa8.dep,hk,hd]
      have hd1:decide (d=dz8)=false:=decide_eq_false hd;simp only[go_sem,hd1,q3,e0,e1,u0,u3,e2,u1,u2,u4,u5,u6,u7,u8,u9,u10,u11]
      (refine cq2 (by simp only[aa9]; omega) (by simp only[aa4,if_true]) ?_; simp only[go_sem,e2,u1,u2,u4,u5,u6,u7,u8,u9,u10,u11,e0,u0,u3]; rw[hall,hok]; exact ad8 _ _)
   ·by_cases b3:xs.length<(asks k).1
    ·have c3:(xs.length:Int)<(asks k).1:=by omega
     have hok:aj2 wh (.mk k d xs) al=false:=by simp[aj2,aa8.kind,aa8.args,b3]
     simp only[go_sem,b1,h1,h2,c3,q3,e0,e1,u0,u3,e2,u1,u2,u4,u5,u6,u7,u8,u9,u10,u11]
     (refine cq2 (by simp only[aa9]; omega) (by simp only[aa4,if_true]) ?_; simp only[go_sem,e2,u1,u2,u4,u5,u6,u7,u8,u9,u10,u11,e0,u0,u3]; rw[hall,hok]; exact ad8 _ _)
    have c3:¬ (xs.length:Int)<(asks k).1:=by omega
    by_cases b4:(asks k).2.1<xs.length
    ·have c4:((asks k).2.1:Int)<xs.length:=by omega
     have hok:aj2 wh (.mk k d xs) al=false:=by simp[aj2,aa8.kind,aa8.args,b4]
     simp only[go_sem,b1,h1,h2,c3,c4,q3,e0,e1,u0,u3,e2,u1,u2,u4,u5,u6,u7,u8,u9,u10,u11]
     (refine cq2 (by simp only[aa9]; omega) (by simp only[aa4,if_true]) ?_; simp only[go_sem,e2,u1,u2,u4,u5,u6,u7,u8,u9,u10,u11,e0,u0,u3]; rw[hall,hok]; exact ad8 _ _)
    have c4:¬ ((asks k).2.1:Int)<xs.length:=by omega
    by_cases hk:k=1
    ·have hkd:decide (k=1)=true:=decide_eq_true hk;simp only[go_sem,b1,h1,h2,c3,c4,hkd,q3,e0,e1,u0,u3,e2,u1,u2,u4,u5,u6,u7,u8,u9,u10,u11,bv7];refine aa5 fok95 hdc ?_
     cases hd:al2 d with
     | false=>
      have hok:aj2 wh (.mk k d xs) al=false:=by simp[aj2,aa8.kind,aa8.args,aa8.dep,hk,hd]
      simp only[go_sem,q3,e0,e1,u0,u3,e2,u1,u2,u4,u5,u6,u7,u8,u9,u10,u11]
      (refine cq2 (by simp only[aa9]; omega) (by simp only[aa4,if_true]) ?_; simp only[go_sem,e2,u1,u2,u4,u5,u6,u7,u8,u9,u10,u11,e0,u0,u3]; rw[hall,hok]; exact ad8 _ _)
     | true=>
      have hok:aj2 wh (.mk k d xs) al=true:=by
       rw[hpart,decide_eq_false b1,hb2,decide_eq_false b3,decide_eq_false b4,if_pos hk,hd]; rfl
      simp only[go_sem,hkd,q3,e0,e1,u0,u3,e2,u1,u2,u4,u5,u6,u7,u8,u9,u10,u11]
      (refine dj5 (by simp only[aa9]; omega) (by simp only[aa4,if_true]) ⟨⟨⟨by simp only[aa9]; omega,by simp only[aa4,e2,u1,u2,u4,u5,u6,u7,u8,u9,u10,u11,if_false]; exact q2⟩,by simp only[aa4,e0,u0,u3,if_false]; exact q3⟩,ps,rfl,hfp',by rw[hall,hok,Bool.true_and]⟩)
    ·simp only[go_sem,b1,h1,h2,c3,c4,hk,q3,e0,e1,u0,u3,e2,u1,u2,u4,u5,u6,u7,u8,u9,u10,u11,bv7];rw[<- hdd];by_cases hd:d=dz8
     ·have hok:aj2 wh (.mk k d xs) al=true:=by
       rw[hpart,decide_eq_false b1,hb2,decide_eq_false b3,decide_eq_false b4,if_neg hk,decide_eq_true hd]; rfl
      have hd1:decide (d=dz8)=true:=decide_eq_true hd;simp only[go_sem,hd1,q3,e0,e1,u0,u3,e2,u1,u2,u4,u5,u6,u7,u8,u9,u10,u11]
      (refine dj5 (by simp only[aa9]; omega) (by simp only[aa4,if_true]) ⟨⟨⟨by simp only[aa9]; omega,by simp only[aa4,e2,u1,u2,u4,u5,u6,u7,u8,u9,u10,u11,if_false]; exact q2⟩,by simp only[aa4,e0,u0,u3,if_false]; exact q3⟩,ps,rfl,hfp',by rw[hall,hok,Bool.true_and]⟩)
     ·have hok:aj2 wh (.mk k d xs) al=false:=by simp[aj2,aa8.kind,aa8.args,aa8.dep,hk,hd]
      have hd1:decide (d=dz8)=false:=decide_eq_false hd;simp only[go_sem,hd1,q3,e0,e1,u0,u3,e2,u1,u2,u4,u5,u6,u7,u8,u9,u10,u11]
      (refine cq2 (by simp only[aa9]; omega) (by simp only[aa4,if_true]) ?_; simp only[go_sem,e2,u1,u2,u4,u5,u6,u7,u8,u9,u10,u11,e0,u0,u3]; rw[hall,hok]; exact ad8 _ _)
 ·rintro s o ⟨⟨⟨q1,q2⟩,q3⟩,ps,hps,_,hall⟩ hlt ho;have:ps=[]:=by cases ps with|nil=>rfl|cons _ _=>cases hps
  subst this;rw[hall];simp only[go_sem,e0,q3,List.all_nil];exact ad8 _ _
end Go.Id.Tryz
set_option linter.all false
namespace Go.Id.Tryz
open Go Go.Id Go.Proofs Go.Id.Md
def ai3 {α:Type}(q:α->Bool):List α->Int->Int
 | [],_=>-1
 | e::es,i=>if q e then i else ai3 q es (i+1)
theorem fv2 {α:Type}(q:α->Bool):∀ (l:List α) (i:Nat),decide (0<=ai3 q l i)=l.any q:=by
 intro l
 induction l with
 | nil=>intro i; rfl
 | cons x l ih=>
  intro i;simp only[ai3,List.any_cons];by_cases h:q x=true
  ·simp only[h,if_true,Bool.true_or]; exact decide_eq_true (by omega)
  ·have h':q x=false:=by simpa using h
   have e:=ih (i+1);rw[Int.natCast_add,Int.natCast_one] at e;simp only[h',Bool.false_eq_true,if_false,Bool.false_or];exact e
theorem as2 {α:Type}(q:α->Bool)(l:List α):decide (0<=ai3 q l 0)=l.any q:=fv2 q l 0
theorem ar5 (d:Dep):d.cs.length=5:=rfl
theorem am7 (d:Dep):d.cs.all IV.leaf=true:=rfl
theorem an8 (d:Dep):d.cs.take 5=d.cs:=rfl
theorem ab8 (r:aa8):r.cs.all IV.leaf=true:=by rw[aa8.aq5]; rfl
theorem ad2 (r:aa8):r.cs.take 7=r.cs:=List.take_of_length_le (by rw[ac2]; exact Nat.le_refl _)
theorem dm8 (s:Str):(bt3 s).length=1:=rfl
theorem bw9 (l:List Dep):Bnd 0 (.aa3 (l.map Dep.cs)):=.aa3 _ fun e he c hc=>by
 obtain ⟨d,_,rfl⟩:=List.mem_map.1 he; exact hn7 d c hc
theorem co5 (l:List Str):Bnd 0 (.aa3 (l.map bt3)):=.aa3 _ fun e he c hc=>by
 obtain ⟨d,_,rfl⟩:=List.mem_map.1 he; cases hc with|head=>exact .str _|tail _ h=>cases h
theorem be1 (l:List aa8):Bnd 0 (.aa3 (l.map aa8.cs)):=.aa3 _ fun e he c hc=>by
 obtain ⟨d,_,rfl⟩:=List.mem_map.1 he; exact dm4 d c hc
theorem fv3 (xs:List Dep)(g:Nat)(first cap:List IV)(q:Dep->Bool)(hn:xs.length<2^62)(hok:okF Tryz.prog g=true)
  (hq:∀ x∈xs,PC Tryz.prog EE g (first++[IV.agg (Dep.cs x)]++cap) (.bool (q x))):PC Tryz.prog EE 163 [.aa3 (xs.map Dep.cs),.func (.func g) first cap] (.int .i64 (ai3 q xs 0)):=by
 refine ap7 fok163 (nZ rfl) fun σ=>?_
 simp only[ic163,go_sem];refine ab4 noT (fun i fr s=>s=σ/\fr=[(0,.aa3 (xs.map Dep.cs)),(1,.func (.func g) first cap),(7,.int .i64 xs.length),(8,.int .i64 i)]/\ai3 q xs 0=ai3 q (xs.drop i) i) xs.length ⟨rfl,rfl,rfl⟩ ?_;rintro i fr s hi ⟨rfl,rfl,hf⟩;by_cases hlt:i<xs.length
 ·obtain ⟨x,ha,_,hdr,hget,_⟩:=af5 xs i hlt;have c1:(i:Int)<xs.length:=by omega
  have c2:(0:Int)<=i:=by omega
  have w1:=ad4 (i:=i) (by omega);rw[hdr] at hf;simp only[go_sem,c1,c2,hget,ar5,an8,am7];refine an7 hok (ff2 (hq x ha)) ?_;rintro v s ⟨rfl,rfl⟩;refine ⟨Nat.le_refl _,?_⟩
  cases hqe:q x with
  | true=>simp only[go_sem,hf,ai3,hqe,and_self]
  | false=>
   simp only[go_sem,w1];exact ⟨hlt,by rw[hf]; simp only[ai3,hqe,Bool.false_eq_true,if_false,Int.natCast_add,Int.natCast_one]⟩
 ·have hi':i=xs.length:=by omega
  subst hi';have c1:¬ (xs.length:Int)<xs.length:=by omega
  rw[List.drop_length] at hf;simp only[go_sem,c1,hf,ai3,and_self]
theorem bx2 (xs:List Dep)(g:Nat)(first cap:List IV)(q:Dep->Bool)(hn:xs.length<2^62)(hok:okF Tryz.prog g=true)
  (hq:∀ x∈xs,PC Tryz.prog EE g (first++[IV.agg (Dep.cs x)]++cap) (.bool (q x))):PC Tryz.prog EE 83 [.aa3 (xs.map Dep.cs),.func (.func g) first cap] (.bool (xs.any q)):=by
 refine ap7 fok83 (nZ rfl) fun σ=>?_
 simp only[ic83,go_sem];refine aa5 fok163 (fv3 xs g first cap q hn hok hq) ?_;simp only[go_sem,as2,and_self]
theorem fv4 (x:Dep)(g:Nat)(first cap:List IV)(b:Bool)(hb:∀ c∈first,Bnd 0 c)(hb2:∀ c∈cap,Bnd 0 c)(hok:okF Tryz.prog g=true)(hq:PC Tryz.prog EE g (first++[IV.agg (Dep.cs x)]++cap) (.bool b)) :
  PC Tryz.prog EE 202 [IV.agg (Dep.cs x),.ab6 [.func (.func g) first cap]] (.bool !b):=by
 refine ap7 fok202 (nZ rfl) fun σ=>?_
 simp only[ic202,go_sem,ar5,an8,am7];refine an7 hok (ff2 hq) ?_;rintro v s ⟨rfl,rfl⟩;refine ⟨Nat.le_refl _,?_⟩;simp only[go_sem,and_self]
theorem eo6 (xs:List Dep)(n:Int)(g:Nat)(first cap:List IV)(p:Dep->Bool)(hn:xs.length<2^62)(hb:∀ c∈first,Bnd 0 c)(hb2:∀ c∈cap,Bnd 0 c)(hok:okF Tryz.prog g=true)
  (hq:∀ x∈xs,PC Tryz.prog EE g (first++[IV.agg (Dep.cs x)]++cap) (.bool (p x))):PC Tryz.prog EE 144 [.aa3 (xs.map Dep.cs),.int .i64 n,.func (.func g) first cap] (.bool (decide ((xs.length:Int)<=n)&&xs.all p)):=by
 refine ap7 fok144 (nZ rfl) fun σ=>?_
 by_cases hle:(xs.length:Int)<=n
 ·simp only[ic144,go_sem,hle];refine aa5 fok83 (bx2 xs 202 [] [.ab6 [.func (.func g) first cap]] (fun x=>!p x) hn fok202.1 fun x hx=>fv4 x g first cap (p x) hb hb2 hok (hq x hx)) ?_;have:(!xs.any fun x=>!p x)=xs.all p:=by rw[List.not_any_eq_all_not]; simp
  simp only[go_sem,hle,this,and_self]
 ·simp only[ic144,go_sem,hle,and_self]
theorem fv5 (xs:List Str)(g:Nat)(first cap:List IV)(q:Str->Bool)(hn:xs.length<2^62)(hok:okF Tryz.prog g=true)
  (hq:∀ x∈xs,PC Tryz.prog EE g (first++[IV.str x]++cap) (.bool (q x))):PC Tryz.prog EE 240 [.aa3 (xs.map bt3),.func (.func g) first cap] (.int .i64 (ai3 q xs 0)):=by
 refine ap7 fok240 (nZ rfl) fun σ=>?_
 simp only[ic240,go_sem];refine ab4 noT (fun i fr s=>s=σ/\fr=[(0,.aa3 (xs.map bt3)),(1,.func (.func g) first cap),(7,.int .i64 xs.length),(8,.int .i64 i)]/\ai3 q xs 0=ai3 q (xs.drop i) i) xs.length ⟨rfl,rfl,rfl⟩ ?_;rintro i fr s hi ⟨rfl,rfl,hf⟩;by_cases hlt:i<xs.length
 ·obtain ⟨x,ha,_,hdr,hget,_⟩:=af5 xs i hlt;have c1:(i:Int)<xs.length:=by omega
  have c2:(0:Int)<=i:=by omega
  have w1:=ad4 (i:=i) (by omega);rw[hdr] at hf;simp only[go_sem,c1,c2,hget,dm8,bt3];refine an7 hok (ff2 (hq x ha)) ?_;rintro v s ⟨rfl,rfl⟩;refine ⟨Nat.le_refl _,?_⟩
  cases hqe:q x with
  | true=>simp only[go_sem,hf,ai3,hqe,and_self]
  | false=>
   simp only[go_sem,w1];exact ⟨hlt,by rw[hf]; simp only[ai3,hqe,Bool.false_eq_true,if_false,Int.natCast_add,Int.natCast_one]⟩
 ·have hi':i=xs.length:=by omega
  subst hi';have c1:¬ (xs.length:Int)<xs.length:=by omega
  rw[List.drop_length] at hf;simp only[go_sem,c1,hf,ai3,and_self]
theorem fv6 (xs:List Str)(g:Nat)(first cap:List IV)(q:Str->Bool)(hn:xs.length<2^62)(hok:okF Tryz.prog g=true)
  (hq:∀ x∈xs,PC Tryz.prog EE g (first++[IV.str x]++cap) (.bool (q x))):PC Tryz.prog EE 203 [.aa3 (xs.map bt3),.func (.func g) first cap] (.bool (xs.any q)):=by
 refine ap7 fok203 (nZ rfl) fun σ=>?_
 simp only[ic203,go_sem];refine aa5 fok240 (fv5 xs g first cap q hn hok hq) ?_;simp only[go_sem,as2,and_self]
theorem fv7 (x:Str)(g:Nat)(first cap:List IV)(b:Bool)(hb:∀ c∈first,Bnd 0 c)(hb2:∀ c∈cap,Bnd 0 c)(hok:okF Tryz.prog g=true)(hq:PC Tryz.prog EE g (first++[IV.str x]++cap) (.bool b)) :
  PC Tryz.prog EE 204 [IV.str x,.ab6 [.func (.func g) first cap]] (.bool !b):=by
 refine ap7 fok204 (nZ rfl) fun σ=>?_
 simp only[ic204,go_sem,dm8,bt3];refine an7 hok (ff2 hq) ?_;rintro v s ⟨rfl,rfl⟩;refine ⟨Nat.le_refl _,?_⟩;simp only[go_sem,and_self]
theorem go8 (xs:List Str)(n:Int)(g:Nat)(first cap:List IV)(p:Str->Bool)(hn:xs.length<2^62)(hb:∀ c∈first,Bnd 0 c)(hb2:∀ c∈cap,Bnd 0 c)(hok:okF Tryz.prog g=true)
  (hq:∀ x∈xs,PC Tryz.prog EE g (first++[IV.str x]++cap) (.bool (p x))):PC Tryz.prog EE 145 [.aa3 (xs.map bt3),.int .i64 n,.func (.func g) first cap] (.bool (decide ((xs.length:Int)<=n)&&xs.all p)):=by
 refine ap7 fok145 (nZ rfl) fun σ=>?_
 by_cases hle:(xs.length:Int)<=n
 ·simp only[ic145,go_sem,hle];refine aa5 fok203 (fv6 xs 204 [] [.ab6 [.func (.func g) first cap]] (fun x=>!p x) hn fok204.1 fun x hx=>fv7 x g first cap (p x) hb hb2 hok (hq x hx)) ?_;have:(!xs.any fun x=>!p x)=xs.all p:=by rw[List.not_any_eq_all_not]; simp
  simp only[go_sem,hle,this,and_self]
 ·simp only[ic145,go_sem,hle,and_self]
theorem fh4 (xs:List aa8)(g:Nat)(first cap:List IV)(q:aa8->Bool)(hn:xs.length<2^62)(hok:okF Tryz.prog g=true)
  (hq:∀ x∈xs,PC Tryz.prog EE g (first++[IV.agg (aa8.cs x)]++cap) (.bool (q x))):PC Tryz.prog EE 162 [.aa3 (xs.map aa8.cs),.func (.func g) first cap] (.int .i64 (ai3 q xs 0)):=by
 refine ap7 fok162 (nZ rfl) fun σ=>?_
 simp only[ic162,go_sem];refine ab4 noT (fun i fr s=>s=σ/\fr=[(0,.aa3 (xs.map aa8.cs)),(1,.func (.func g) first cap),(7,.int .i64 xs.length),(8,.int .i64 i)]/\ai3 q xs 0=ai3 q (xs.drop i) i) xs.length ⟨rfl,rfl,rfl⟩ ?_;rintro i fr s hi ⟨rfl,rfl,hf⟩;by_cases hlt:i<xs.length
 ·obtain ⟨x,ha,_,hdr,hget,_⟩:=af5 xs i hlt;have c1:(i:Int)<xs.length:=by omega
  have c2:(0:Int)<=i:=by omega
  have w1:=ad4 (i:=i) (by omega);rw[hdr] at hf;simp only[go_sem,c1,c2,hget,ac2,ad2,ab8];refine an7 hok (ff2 (hq x ha)) ?_;rintro v s ⟨rfl,rfl⟩;refine ⟨Nat.le_refl _,?_⟩
  cases hqe:q x with
  | true=>simp only[go_sem,hf,ai3,hqe,and_self]
  | false=>
   simp only[go_sem,w1];exact ⟨hlt,by rw[hf]; simp only[ai3,hqe,Bool.false_eq_true,if_false,Int.natCast_add,Int.natCast_one]⟩
 ·have hi':i=xs.length:=by omega
  subst hi';have c1:¬ (xs.length:Int)<xs.length:=by omega
  rw[List.drop_length] at hf;simp only[go_sem,c1,hf,ai3,and_self]
theorem bo7 (xs:List aa8)(g:Nat)(first cap:List IV)(q:aa8->Bool)(hn:xs.length<2^62)(hok:okF Tryz.prog g=true)
  (hq:∀ x∈xs,PC Tryz.prog EE g (first++[IV.agg (aa8.cs x)]++cap) (.bool (q x))):PC Tryz.prog EE 81 [.aa3 (xs.map aa8.cs),.func (.func g) first cap] (.bool (xs.any q)):=by
 refine ap7 fok81 (nZ rfl) fun σ=>?_
 simp only[ic81,go_sem];refine aa5 fok162 (fh4 xs g first cap q hn hok hq) ?_;simp only[go_sem,as2,and_self]
theorem fh5 (x:aa8)(g:Nat)(first cap:List IV)(b:Bool)(hb:∀ c∈first,Bnd 0 c)(hb2:∀ c∈cap,Bnd 0 c)(hok:okF Tryz.prog g=true)(hq:PC Tryz.prog EE g (first++[IV.agg (aa8.cs x)]++cap) (.bool b)) :
  PC Tryz.prog EE 206 [IV.agg (aa8.cs x),.ab6 [.func (.func g) first cap]] (.bool !b):=by
 refine ap7 fok206 (nZ rfl) fun σ=>?_
 simp only[ic206,go_sem,ac2,ad2,ab8];refine an7 hok (ff2 hq) ?_;rintro v s ⟨rfl,rfl⟩;refine ⟨Nat.le_refl _,?_⟩;simp only[go_sem,and_self]
theorem fv8 (xs:List aa8)(n:Int)(g:Nat)(first cap:List IV)(p:aa8->Bool)(hn:xs.length<2^62)(hb:∀ c∈first,Bnd 0 c)(hb2:∀ c∈cap,Bnd 0 c)(hok:okF Tryz.prog g=true)
  (hq:∀ x∈xs,PC Tryz.prog EE g (first++[IV.agg (aa8.cs x)]++cap) (.bool (p x))):PC Tryz.prog EE 147 [.aa3 (xs.map aa8.cs),.int .i64 n,.func (.func g) first cap] (.bool (decide ((xs.length:Int)<=n)&&xs.all p)):=by
 refine ap7 fok147 (nZ rfl) fun σ=>?_
 by_cases hle:(xs.length:Int)<=n
 ·simp only[ic147,go_sem,hle];refine aa5 fok81 (bo7 xs 206 [] [.ab6 [.func (.func g) first cap]] (fun x=>!p x) hn fok206.1 fun x hx=>fh5 x g first cap (p x) hb hb2 hok (hq x hx)) ?_;have:(!xs.any fun x=>!p x)=xs.all p:=by rw[List.not_any_eq_all_not]; simp
  simp only[go_sem,hle,this,and_self]
 ·simp only[ic147,go_sem,hle,and_self]
def eo7 (x:Int×List aa8):List IV:=[.int .u8 x.1,ae8 x.2]
def fv9 (p:aa2):List (List IV):=p.rows.map eo7
theorem ag9 (p:aa2):∀ c∈p.cs,Bnd 0 c:=by
 intro c hc;simp only[aa2.cs,List.mem_cons,List.not_mem_nil,or_false] at hc;rcases hc with rfl|rfl|rfl|rfl|rfl|rfl|rfl|rfl|rfl|rfl|rfl|rfl|rfl|rfl|rfl<;>first|exact .str _|exact .int _ _|exact bw9 _|exact be1 _|exact co5 _
theorem ap5 (p:aa2):Bnd 0 (.agg p.cs):=.agg _ (ag9 p)
theorem ag1 (p:aa2):p.cs.length=15:=rfl
theorem ag6 (p:aa2):p.cs.take 15=p.cs:=rfl
theorem af1 (p:aa2):p.cs.all IV.leaf=true:=rfl
theorem go9 (p:aa2):PC Tryz.prog EE 146 [.agg p.cs] (.func (.func 205) [] [.ab6 p.cs]):=by
 refine ap7 fok146 (nZ rfl) fun σ=>?_
 simp only[ic146,go_sem,af1,and_self]
theorem fh6 (p:aa2):em2 Tryz.prog EE (.func (.func 205) [] [.ab6 p.cs]) (fv9 p) (fun _=>True):=by
 intro yid I S σ hown hstab hy hi;refine ⟨fok205.1,?_⟩;refine C_f fok205 (nZ rfl) ?_;simp only[ic205,go_sem,aa2.cs];simp only[fv9,aa2.rows,List.map_cons,List.map_nil,eo7] at hi;have stop:∀ s,σ.next<=s.next->S s->ig5 σ.next I S (.tuple []) s:=fun s hn hs=>⟨hn,.inr hs⟩
 refine cl4 hy hi (fun s1 n1 i1=>?_) (fun s1 n1 h1=>by simp only[go_sem]; exact stop _ n1 h1);simp only[go_sem];refine cl4 hy i1 (fun s2 n2 i2=>?_) (fun s2 n2 h2=>by simp only[go_sem]; exact stop _ (by omega) h2);simp only[go_sem];refine cl4 hy i2 (fun s3 n3 i3=>?_) (fun s3 n3 h3=>by simp only[go_sem]; exact stop _ (by omega) h3);simp only[go_sem];refine cl4 hy i3 (fun s4 n4 i4=>?_) (fun s4 n4 h4=>by simp only[go_sem]; exact stop _ (by omega) h4);simp only[go_sem];refine cl4 hy i4 (fun s5 n5 i5=>?_) (fun s5 n5 h5=>by simp only[go_sem]; exact stop _ (by omega) h5);simp only[go_sem];refine cl4 hy i5 (fun s6 n6 i6=>?_) (fun s6 n6 h6=>by simp only[go_sem]; exact stop _ (by omega) h6);simp only[go_sem];exact ⟨by omega,.inl i6⟩
theorem ho5 (r:aa8)(wh:Int)(hf:r.fit)(hc:r.count<2^62):PC Tryz.prog EE 148 [.agg r.cs,.ab6 [.int .u8 wh]] (.bool (decide (at1 r wh=0))):=by
 refine ap7 fok148 (nZ rfl) fun σ=>?_
 simp only[ic148,go_sem,ac2,ad2,ab8];refine aa5 fok149 (eg4 r wh hf hc) ?_;simp only[go_sem,and_self]
theorem gp1 (l:List aa8)(wh:Int)(hn:l.length<2^62)(hf:∀ r∈l,r.fit/\r.count<2^31):PC Tryz.prog EE 147 [ae8 l,.int .i64 32,.func (.func 148) [] [.ab6 [.int .u8 wh]]] (.bool (am9 l wh)):=by
 have h:=fv8 l 32 148 [] [.ab6 [.int .u8 wh]] (fun r=>decide (at1 r wh=0)) hn (fun c hc=>by cases hc) (ae4 (.ab6 _ (ae4 (.int _ _)))) fok148.1 fun x hx=>ho5 x wh (hf x hx).1 (by have:=(hf x hx).2; omega)
 have e:decide ((l.length:Int)<=32)=decide (l.length<=32):=decide_eq_decide.2 (by omega);rw[e] at h;exact h
theorem fw1 {σ:Store}{f id:Nat}{cs:List IV}(ho:σ.obj id=some (.cells cs))(hb:∀ c∈cs,Bnd 0 c):cn4 σ 0 (.func (.func f) [] [.ptr id 0]) (.func (.func f) [] [.ab6 cs]):=by
 refine .func _ [] [] _ _ rfl rfl (fun i hi=>absurd hi (Nat.not_lt_zero _)) (fun i hi=>?_)
 match i,hi with
 | 0,_=>
  refine .ptr id 0 cs cs (Nat.not_lt_zero _) (.inl ho) (by omega) (fun j hj=>?_);rw[Nat.zero_add];exact .keep _ (hb _ (ad5 _ hj))
theorem eg5 {l:List Str}{i:Nat}{f:Str}(h0:0<i)(h:l.drop i=f::l.drop (i+1)):∃ a,l[i-1]? = some a/\rising (l.drop (i-1))=(Op.bytesLess a f&&rising (l.drop i)):=by
 have hlt:i<l.length:=by
  rcases Nat.lt_or_ge i l.length with h1|h1
  ·exact h1
  ·rw[List.drop_of_length_le h1] at h; cases h
 have h2:i-1<l.length:=by omega
 refine ⟨l[i-1],List.getElem?_eq_getElem h2,?_⟩;rw[List.drop_eq_getElem_cons h2,show i-1+1=i from by omega,h];rfl
theorem fw2 (p:aa2)(hf:p.Fit):PC Tryz.prog EE 68 [.agg p.cs] (.bool (ag8 p)):=by
 refine ag3 hE fok68 (nZ rfl) (ae4 (ap5 _)) ?_;simp only[ic68,go_sem,af1,aa2.cs];refine aa5 fok140 (ch8 p.name hf.name) ?_
 cases h1:ax3 p.name with
 | false=>simp only[go_sem,ag8,h1]; exact ab9 _
 | true=>
 simp only[go_sem];refine aa5 fok141 (ch9 p.name hf.name) ?_
 cases h2:bq6 p.name with
 | true=>simp only[go_sem,ag8,h1,h2]; exact ab9 _
 | false=>
 simp only[go_sem];refine aa5 (v:=.bool (bg3 p.evr false)) fok142 (dw5 p.evr false hf.evr.1 hf.evr.2) ?_
 cases h3:bg3 p.evr false with
 | false=>simp only[go_sem,ag8,h1,h2,h3]; exact ab9 _
 | true=>
 simp only[go_sem];refine aa5 fok143 (ef9 p.an1) ?_;have h4':=bw6 p.an1
 cases h4:am8 p.an1 with
 | false=>
  rw[h4] at h4'
  simp only[go_sem,h4',ag8,h1,h2,h3,h4]; exact ab9 _
 | true=>
 rw[h4] at h4';simp only[go_sem,h4'];by_cases h5:p.vendor.length<=64
 case neg=>
  have h5':(64:Int)<p.vendor.length:=by omega
  simp only[go_sem,h5',ag8,h1,h2,h3,h4,h5]; exact ab9 _
 have h5':¬ (64:Int)<p.vendor.length:=by omega
 simp only[go_sem,h5'];have e32:∀ n:Nat,decide ((n:Int)<=32)=decide (n<=32):=fun n=>decide_eq_decide.2 (by omega)
 have hp6:=eo6 p.provides 32 95 [] [] al2 (by have:=hf.av4.1; omega) (fun c hc=>by cases hc) (fun c hc=>by cases hc) fok95.1 fun x hx=>bj3 x (hf.av4.2 x hx).1 (hf.av4.2 x hx).2.1 (hf.av4.2 x hx).2.2
 have hp7:=eo6 p.ab2 32 95 [] [] al2 (by have:=hf.obs.1; omega) (fun c hc=>by cases hc) (fun c hc=>by cases hc) fok95.1 fun x hx=>bj3 x (hf.obs.2 x hx).1 (hf.obs.2 x hx).2.1 (hf.obs.2 x hx).2.2
 have hp8:=go8 p.files 32 141 [] [] bq6 (by have:=hf.files.1; omega) (fun c hc=>by cases hc) (fun c hc=>by cases hc) fok141.1 fun x hx=>ch9 x (hf.files.2 x hx)
 rw[e32] at hp6 hp7 hp8;refine aa5 fok144 hp6 ?_
 cases h6:(decide (p.provides.length<=32)&&p.provides.all al2) with
 | false=>simp only[go_sem,ag8,h1,h2,h3,h4,h5,h6]; exact ab9 _
 | true=>
 simp only[go_sem];refine aa5 fok144 hp7 ?_
 cases h7:(decide (p.ab2.length<=32)&&p.ab2.all al2) with
 | false=>simp only[go_sem,ag8,h1,h2,h3,h4,h5,h6,h7]; exact ab9 _
 | true=>
 simp only[go_sem];refine aa5 fok145 hp8 ?_
 cases h8:(decide (p.files.length<=32)&&p.files.all bq6) with
 | false=>simp only[go_sem,ag8,h1,h2,h3,h4,h5,h6,h7,h8]; exact ab9 _
 | true=>
 have hmay:ag8 p=(rising p.files&&p.rows.all fun x=>am9 x.2 x.1):=by
  simp only[ag8,h1,h2,h3,h4,h5,h6,h7,h8,aa2.rows,List.all_cons,List.all_nil,decide_true,Bool.not_false,Bool.and_true,Bool.true_and,Bool.and_assoc]
 simp only[go_sem];rw[hmay];refine ab4 noT (fun i fr s=>fr=[(1,.ab6 p.cs),(2,.ptr 0 0),(52,strs p.files),(53,.int .i64 p.files.length),(54,.int .i64 i)]/\(s.obj 0=some (.cells [.bool false])/\0<s.next)/\rising p.files=rising (p.files.drop (i-1))) p.files.length ⟨rfl,⟨?_,?_⟩,rfl⟩ ?_
 ·simp only[aa4,if_true]
 ·exact Nat.zero_lt_one
 rintro i fr s hi ⟨rfl,⟨q1,q2⟩,hr⟩;by_cases hlt:i<p.files.length
 ·obtain ⟨f,ha,hfi,hdr,hget,_⟩:=af5 p.files i hlt;have c1:(i:Int)<p.files.length:=by omega
  have c2:(0:Int)<=i:=by omega
  have w1:=ad4 (i:=i) (by have:=hf.files.1; omega);by_cases h0:0<i
  ·have c0:(0:Int)<i:=by omega
   obtain ⟨a,ha1,ha2⟩:=eg5 h0 hdr;have hget':(p.files.map bt3).getD (i-1) []=bt3 a:=by simp[List.getD_eq_getElem?_getD,ha1]
   have w0:IntKind.i64.wrap ((i:Int)-1)=((i-1:Nat):Int):=by
    have:=hf.files.1;rw[wrap64 (by omega) (by omega)]; omega
   have c3:(0:Int)<=((i-1:Nat):Int):=by omega
   have c4:((i-1:Nat):Int)<p.files.length:=by omega
   rw[ha2] at hr;simp only[go_sem,c0,c1,c2,c3,c4,w0,w1,hget,hget',bt3,aa2.cs]
   cases hb:Op.bytesLess a f with
   | true=>
    rw[hb,Bool.true_and] at hr;simp only[go_sem,w1]
    exact ⟨hlt,⟨q1,q2⟩,hr⟩
   | false=>
    rw[hb,Bool.false_and] at hr;simp only[go_sem,q1,hr];exact ab9 _
  ·have c0:¬ (0:Int)<i:=by omega
   simp only[go_sem,c0,c1,c2,w1,hget,bt3];refine ⟨hlt,⟨q1,q2⟩,?_⟩;have:i=0:=by omega
   subst this; exact hr
 ·have hi':i=p.files.length:=by omega
  subst hi';have c1:¬ (p.files.length:Int)<p.files.length:=by omega
  have hrt:rising p.files=true:=by
   rw[hr]
   cases hl:p.files.drop (p.files.length-1) with
   | nil=>rfl
   | cons x l=>
    have h1:=congrArg List.length hl;rw[List.length_drop,List.length_cons] at h1;have h2:l=[]:=List.length_eq_zero_iff.1 (by omega);rw[h2]; rfl
  rw[hrt,Bool.true_and];simp only[go_sem,c1,ag1,ag6];refine aa5 fok146 (go9 p) ?_;simp only[go_sem];have e0:¬ 0=s.next:=by omega
  have e1:¬ s.next=0:=by omega
  refine cq3 (fh6 p) (fun rest s=>(0<s.next/\s.obj 0=some (.cells [.bool false]))/\∃ ts:List (Int×List aa8),rest=ts.map eo7/\(∀ x∈ts,x∈p.rows)/\(p.rows.all fun x:Int×List aa8=>am9 x.2 x.1)=ts.all fun x:Int×List aa8=>am9 x.2 x.1) (fun _ _ h=>trivial) ?_ ?_ ?_ ?_ ?_
  ·rintro rest s s' ⟨⟨q1,q2⟩,q4⟩ hn' hs';exact ⟨⟨by omega,by rw[hs' 0 q1]; exact q2⟩,q4⟩
  ·intro a ha;obtain ⟨x,_,rfl⟩:=List.mem_map.1 ha;rfl
  ·intro o;exact ⟨⟨by show 0<s.next+1; omega,by simp only[aa4,e0,if_false]; exact q1⟩,_,rfl,fun x hx=>hx,rfl⟩
  ·rintro L pre a rest t hev ⟨⟨q3,q4⟩,ts,hts,hin,hall⟩ hL hlt
   cases ts with
   | nil=>cases hts
   | cons x ts=>
    simp only[List.map_cons,List.cons.injEq] at hts;obtain ⟨rfl,rfl⟩:=hts;obtain ⟨wh,l⟩:=x;simp only[List.all_cons] at hall;have hfx:=hf.rich _ (hin _ (List.mem_cons_self ..));have hin':∀ y∈ts,y∈p.rows:=fun y hy=>hin y (List.mem_cons_of_mem _ hy)
    have u0:¬ 0=t.next:=by omega
    have u1:¬ s.next=t.next:=by omega
    have u2:¬ t.next=s.next:=by omega
    have u3:¬ t.next=0:=by omega
    simp only[eo7,go_sem,hL,q4,e0,e1,u0,u1,u2,u3];refine ac9 fok147 (bi4 (args':=[ae8 l,.int .i64 32,.func (.func 148) [] [.ab6 [.int .u8 wh]]]) hE rfl ?_ (by unfold IV.plain; rfl) (gp1 l wh (Nat.lt_of_lt_of_le hfx.1 (by decide)) hfx.2)) ?_
    ·intro i hi
     match i,hi with
     | 0,_=>exact .keep _ (be1 l)
     | 1,_=>exact .keep _ (.int _ _)
     | 2,_=>exact fw1 (by simp only[aa4,u2,if_false,if_true]) (ae4 (.int _ _))
    ·rintro v s2 ⟨rfl,rfl⟩;refine ⟨Nat.le_refl _,?_⟩
     cases hok:am9 l wh with
     | true=>
      simp only[go_sem]
      refine dj5 (by simp only[aa9]; omega) (by simp only[aa4,if_true]) ⟨⟨by simp only[aa9]; omega,by simp only[aa4,e0,u0,if_false]; exact q4⟩,ts,rfl,hin',by rw[hall,hok,Bool.true_and]⟩
     | false=>
      simp only[go_sem,q4,e0,e1,u0,u1,u2,u3];refine cq2 (by simp only[aa9]; omega) (by simp only[aa4,if_true]) ?_;simp only[go_sem,e0,u0];rw[hall,hok]; exact ab9 _
  ·rintro t o ⟨⟨q3,q4⟩,ts,hts,_,hall⟩ hlt ho;have:ts=[]:=by cases ts with|nil=>rfl|cons _ _=>cases hts
   subst this;rw[hall];simp only[go_sem,e0,q4,List.all_nil];exact ab9 _
end Go.Id.Tryz
