/- Names,versions,architectures,operators: what the program tells of them. Conditions: none. -/
import Derived.Test.YtebfbbjghhagbaaGreatDoorGMT
import Derived.Test.YtebfbbjghhagbaaGreatDoorFwQ
import Derived.Test.YtebfbbjghhagbaaGreatDoorMv
set_option linter.all false
namespace Go.Id.Tryz
open Go Go.Id Go.Proofs Go.Id.Md
def ja9:List (Nat×List IV):=[(0,words.map .str),(1,[.al6 opsL]),(2,[.str [],.int .i64 0,.str [],.int .i64 0,.str [97,110,100],.int .i64 24,.str [111,114],.int .i64 24,.str [105,102],.int .i64 3,.str [117,110,108,101,115,115],.int .i64 3,.str [119,105,116,104],.int .i64 24,.str [119,105,116,104,111,117,116],.int .i64 2])]
abbrev EE:Nat->IV:=fl9 ja9
theorem hE:∀ g,Bnd 0 (EE g):=ib5 (by kernel_rfl)
theorem E0:EE 0=.ab8 [.str [97,110,100],.str [111,114],.str [105,102],.str [101,108,115,101],.str [117,110,108,101,115,115],.str [119,105,116,104],.str [119,105,116,104,111,117,116]]:=rfl
theorem E1:EE 1=.ab8 [.al6 opsL]:=rfl
theorem ds7 (s:Str)(b:UInt8):PC Tryz.prog EE 256 [.str s,.int .u8 b.toNat] (.int .i64 (ee9 b.toNat s 0)):=by
 refine az3 fok256 (nZ rfl) fun σ=>?_
 have h1:(0:Int)<=b.toNat:=by omega
 have h2:(b.toNat:Int)<256:=by have:=b.toNat_lt; omega
 simp only[ic256,go_sem,h1,h2,Int.toNat_natCast,and_self]
theorem az2 (s:Str)(b:UInt8):PC Tryz.prog EE 214 [.str s,.int .u8 b.toNat] (.int .i64 (ee9 b.toNat s 0)):=by
 refine az3 fok214 (nZ rfl) fun σ=>?_
 simp only[ic214,go_sem];refine aa4 fok256 (ds7 s b) ?_;simp only[go_sem,and_self]
theorem ds8 (s t:Str):PC Tryz.prog EE 257 [.str s,.str t] (.bool (decide (t.length<=s.length)&&decide (s.take t.length=t))):=by
 refine az3 fok257 (nZ rfl) fun σ=>?_
 by_cases h:t.length<=s.length
 ·have h1:(t.length:Int)<=s.length:=by omega
  have h2:(0:Int)<=t.length:=by omega
  simp only[ic257,go_sem,h,h1,cz5,co9,ep8,h2,Int.toNat_natCast,Nat.zero_le,and_self,List.drop_zero,Bool.true_and,ej2,ej3,Option.map]
 ·have h1:¬ (t.length:Int)<=s.length:=by omega
  simp only[ic257,go_sem,h,h1,Bool.false_and,and_self]
theorem ec6 (s t:Str):PC Tryz.prog EE 216 [.str s,.str t] (.bool (decide (t.length<=s.length)&&decide (s.take t.length=t))):=by
 refine az3 fok216 (nZ rfl) fun σ=>?_
 simp only[ic216,go_sem];refine aa4 fok257 (ds8 s t) ?_;simp only[go_sem,and_self]
theorem aq3 (a:Int):PC Tryz.prog EE 143 [.int .u8 a] (.bool (an8 a)):=by
 refine az3 fok143 (nZ rfl) fun σ=>?_
 by_cases h:1<=a
 ·simp only[ic143,go_sem,an8,h,Bool.true_and,and_self]
 ·simp only[ic143,go_sem,an8,h,Bool.false_and,and_self]
def dl5:List IV:=[.str [],.str [110,111,97,114,99,104],.str [120,56,54,95,54,52],.str [105,54,56,54],.str [97,97,114,99,104,54,52]]
theorem ec7:PC Tryz.prog EE 242 [] (.agg dl5):=by
 refine ae9 hE fok242 (nZ rfl) (fun a h=>by cases h) ?_;simp only[ic242,go_sem];exact .keep _ (ax6 10 _ (by kernel_rfl))
def bh5 (a:Int):Str:=if a=1 then [110,111,97,114,99,104] else if a=2 then [120,56,54,95,54,52] else if a=3 then [105,54,56,54] else if a=4 then [97,97,114,99,104,54,52] else []
theorem bj4 (a:Int):decide (bh5 a=[])=!an8 a:=by
 unfold bh5 an8
 repeat' split
 all_goals first|(subst_vars; rfl)|skip
 have:¬ (1<=a/\a<=4):=by omega
 have h:(decide (1<=a)&&decide (a<=4))=false:=by simpa using this
 rw[h]; rfl
theorem em9 (a:Int):PC Tryz.prog EE 199 [.int .u8 a] (.str (bh5 a)):=by
 refine az3 fok199 (nZ rfl) fun σ=>?_
 simp only[ic199,go_sem];refine aa4 fok143 (aq3 a) ?_;simp only[go_sem]
 cases h:an8 a with
 | false=>
  have h1:=bj4 a;rw[h] at h1;have h2:bh5 a=[]:=by simpa using h1
  simp only[go_sem,h2,and_self]
 | true=>
  have h1:1<=a/\a<=4:=by simpa [an8] using h
  simp only[go_sem];refine aa4 fok242 ec7 ?_;have h2:a=1\/a=2\/a=3\/a=4:=by omega
  rcases h2 with rfl|rfl|rfl|rfl<;>(simp only[go_sem,dl5]; first|rfl|exact ⟨rfl,rfl⟩)
theorem ev5 (c:UInt8):∀ (l:Str) (i:Nat),decide (0<=ee9 c.toNat l i)=l.contains c:=by
 intro l
 induction l with
 | nil=>intro i; rfl
 | cons b l ih=>
  intro i;simp only[ee9,List.contains_cons];split
  ·rename_i h;have:c=b:=(UInt8.toNat_inj.1 h).symm;subst this;simp
  ·rename_i h;have:(c==b)=false:=by simp only[beq_eq_false_iff_ne,ne_eq]; intro e; subst e; exact h rfl
   rw[this,Bool.false_or];exact ih (i+1)
theorem cq5 {p:UInt8->Bool}{s:Str}{i:Nat}(h:i<s.length):(s.take (i+1)).all p=((s.take i).all p&&p s[i]):=by
 rw[List.take_add_one,List.getElem?_eq_getElem h];simp only[Option.toList,List.all_append,List.all_cons,List.all_nil,Bool.and_true]
theorem bh6 {p:UInt8->Bool}{s:Str}{i:Nat}(h:i<s.length)(hp:p s[i]=false):s.all p=false:=by
 rw[List.all_eq_false];exact ⟨s[i],List.getElem_mem h,by simp[hp]⟩
theorem dl6 (s:Str)(hs:s.length<2^62):PC Tryz.prog EE 217 [.str s] (.bool (ay7 s)):=by
 refine az3 fok217 (nZ rfl) fun σ=>?_
 by_cases h0:s=[]
 ·subst h0;simp only[ic217,go_sem];rfl
 have hl:1<=s.length:=by cases s with|nil=>exact absurd rfl h0|cons _ _=>simp
 by_cases h1:s.length<=64
 ·have h1':¬ (64:Int)<s.length:=by omega
  simp only[ic217,go_sem,h0,h1'];refine ab7 noT (fun i fr s'=>s'=σ/\fr=[(0,.str s),(13,.int .i64 s.length),(14,.int .i64 i)]/\(s.take i).all bl4=true) s.length ⟨rfl,rfl,rfl⟩ ?_;rintro i fr s' hi ⟨rfl,rfl,ha⟩;by_cases hlt:i<s.length
  ·have c1:(i:Int)<s.length:=by omega
   have c2:(0:Int)<=i:=by omega
   simp only[go_sem,c1,c2,List.getElem?_eq_getElem hlt];have fin:bl4 s[i]=false->ay7 s=false:=fun h=>by simp only[ay7,bh6 hlt h,Bool.and_false]
   have step:bl4 s[i]=true->(s.take (i+1)).all bl4=true:=fun h=>by rw[cq5 hlt,ha,h]; rfl
   have w1:=ad4 (i:=i) (by omega)
   have hv:bl4 s[i]=(decide ((97:Int)<=s[i].toNat)&&decide ((s[i].toNat:Int)<=122)||decide ((65:Int)<=s[i].toNat)&&decide ((s[i].toNat:Int)<=90)||decide ((48:Int)<=s[i].toNat)&&decide ((s[i].toNat:Int)<=57) || [46,95,43,126,94].contains s[i]):=by
    simp only[bl4,gb7];congr 1;congr 1
    ·congr 1<;>congr 1<;>(apply decide_eq_decide.2; omega)
    ·congr 1<;>(apply decide_eq_decide.2; omega)
   generalize s[i]=b at *
   have last:∀ (k1:¬ ((97:Int)<=b.toNat/\(b.toNat:Int)<=122)) (k2:¬ ((65:Int)<=b.toNat/\(b.toNat:Int)<=90)) (k3:¬ ((48:Int)<=b.toNat/\(b.toNat:Int)<=57)),bl4 b=decide (0<=ee9 b.toNat [46,95,43,126,94] 0):=fun k1 k2 k3=>by
    rw[ev5,hv];simp only[<- Bool.decide_and,decide_eq_false k1,decide_eq_false k2,decide_eq_false k3,Bool.false_or]
   by_cases k1:(97:Int)<=b.toNat
   ·by_cases k2:(b.toNat:Int)<=122
    ·simp only[go_sem,k1,k2,w1];exact ⟨hlt,step (by rw[hv]; simp only[k1,k2,go_sem])⟩
    ·have k3:(65:Int)<=b.toNat:=by omega
     have k4:¬ (b.toNat:Int)<=90:=by omega
     have k5:(48:Int)<=b.toNat:=by omega
     have k6:¬ (b.toNat:Int)<=57:=by omega
     simp only[go_sem,k1,k2,k3,k4,k5,k6];refine aa4 fok214 (az2 _ b) ?_;have hl:=last (by omega) (by omega) (by omega);simp only[go_sem,ge_iff_le,<- hl]
     cases hb:bl4 b with
     | true=>simp only[go_sem,w1]; exact ⟨hlt,step hb⟩
     | false=>simp only[go_sem,fin hb,and_self]
   ·by_cases k3:(65:Int)<=b.toNat
    ·by_cases k4:(b.toNat:Int)<=90
     ·simp only[go_sem,k1,k3,k4,w1];exact ⟨hlt,step (by rw[hv]; simp only[k1,k3,k4,go_sem])⟩
     ·have k5:(48:Int)<=b.toNat:=by omega
      have k6:¬ (b.toNat:Int)<=57:=by omega
      simp only[go_sem,k1,k3,k4,k5,k6];refine aa4 fok214 (az2 _ b) ?_;have hl:=last (by omega) (by omega) (by omega);simp only[go_sem,ge_iff_le,<- hl]
      cases hb:bl4 b with
      | true=>simp only[go_sem,w1]; exact ⟨hlt,step hb⟩
      | false=>simp only[go_sem,fin hb,and_self]
    ·by_cases k5:(48:Int)<=b.toNat
     ·by_cases k6:(b.toNat:Int)<=57
      ·simp only[go_sem,k1,k3,k5,k6,w1];exact ⟨hlt,step (by rw[hv]; simp only[k1,k3,k5,k6,go_sem])⟩
      ·simp only[go_sem,k1,k3,k5,k6];refine aa4 fok214 (az2 _ b) ?_;have hl:=last (by omega) (by omega) (by omega);simp only[go_sem,ge_iff_le,<- hl]
       cases hb:bl4 b with
       | true=>simp only[go_sem,w1]; exact ⟨hlt,step hb⟩
       | false=>simp only[go_sem,fin hb,and_self]
     ·simp only[go_sem,k1,k3,k5];refine aa4 fok214 (az2 _ b) ?_;have hl:=last (by omega) (by omega) (by omega);simp only[go_sem,ge_iff_le,<- hl]
      cases hb:bl4 b with
      | true=>simp only[go_sem,w1]; exact ⟨hlt,step hb⟩
      | false=>simp only[go_sem,fin hb,and_self]
  ·have hi':i=s.length:=by omega
   have c1:¬ (i:Int)<s.length:=by omega
   simp only[go_sem,c1];subst hi';rw[List.take_length] at ha;simp only[ay7,ha,go_sem,hl,h1,and_self]
 ·have h1':(64:Int)<s.length:=by omega
  simp only[ic217,go_sem,h0,h1',ay7,h1,Bool.and_false,Bool.false_and,and_self]
theorem ec8 (e:EVR)(dep:Bool)(h1:e.ver.length<2^62)(h2:e.rel.length<2^62):PC Tryz.prog EE 148 [.agg e.cs,.bool dep] (.bool (bd7 e dep)):=by
 obtain ⟨ep,ver,rel⟩:=e;refine az3 fok148 (nZ rfl) fun σ=>?_
 have hw:=dl6 ver h1;have hw':=dl6 rel h2;by_cases a1:(0:Int)<=ep
 ·by_cases a2:ep<=2147483647
  ·simp only[ic148,go_sem,EVR.cs,bd7,a1,a2];refine aa4 fok217 hw ?_;simp only[go_sem]
   cases hv:ay7 ver with
   | false=>simp only[go_sem,and_self]
   | true=>
    simp only[go_sem];refine aa4 fok217 hw' ?_;simp only[go_sem]
    cases hr:ay7 rel with
    | true=>simp only[go_sem,and_self]
    | false=>
     cases dep with
     | true=>
      simp only[go_sem]
      cases rel<;>first|rfl|exact ⟨rfl,rfl⟩
     | false=>simp only[go_sem,and_self]
  ·simp only[ic148,go_sem,EVR.cs,bd7,a1,a2,and_self]
 ·simp only[ic148,go_sem,EVR.cs,bd7,a1,and_self]
theorem en1 (n:Int):PC Tryz.prog EE 215 [.int .u8 n] (.str (el1 n)):=by
 obtain ⟨_,pf,an,h⟩:=fok215;exact ie7 (g:=1) h E1
theorem gz7 (n:Int):dq3 n=(decide (n=0) || !decide (el1 n=[])):=by
 unfold dq3 el1;by_cases h0:n=0
 ·subst h0; rfl
 by_cases h1:n=1
 ·subst h1; rfl
 by_cases h2:n=2
 ·subst h2; rfl
 by_cases h3:n=3
 ·subst h3; rfl
 by_cases h4:n=4
 ·subst h4; rfl
 by_cases h6:n=6
 ·subst h6; rfl
 simp[h0,h1,h2,h3,h4,h6]
theorem fo5 (n:Int):PC Tryz.prog EE 146 [.int .u8 n] (.bool (dq3 n)):=by
 refine az3 fok146 (nZ rfl) fun σ=>?_
 rw[gz7];by_cases h:n=0
 ·simp only[ic146,go_sem,h,and_self]
 ·simp only[ic146,go_sem,h];refine aa4 fok215 (en1 n) ?_;simp only[go_sem,and_self]
theorem ig6 (c:UInt8)(l:Str)(i:Nat):decide (ee9 c.toNat l i<0)=!l.contains c:=by
 rw[<- ev5 c l i,<- decide_not];exact decide_eq_decide.2 (by omega)
def hr5:List IV:=[.str [97,110,100],.str [111,114],.str [105,102],.str [101,108,115,101],.str [117,110,108,101,115,115],.str [119,105,116,104],.str [119,105,116,104,111,117,116]]
theorem ev6 {b:UInt8}(h:bd6 b=true):b.toNat<=126:=by
 have:b∈signs:=by simpa [bd6,List.contains_iff_mem] using h
 revert this
 have:∀ b∈signs,b.toNat<=126:=by decide +kernel
 exact this b
theorem ck7 (s:Str)(hs:s.length<2^62):PC Tryz.prog EE 145 [.str s] (.bool (ar3 s)):=by
 refine ae9 hE fok145 (nZ rfl) (fun a h=>by cases h with|head=>exact .str _|tail _ h=>cases h) ?_;by_cases h1:1<=s.length
 ·by_cases h2:s.length<=64
  ·have c1:¬ (s.length:Int)<1:=by omega
   have c2:¬ (64:Int)<s.length:=by omega
   simp only[ic145,go_sem,c1,c2];refine hn7 noT (fun m fr σ=>(fr.get 0=.str s/\fr.get 16=.ptr 0 0)/\∃ pos,σ.obj 0=some (.be8 s pos)/\pos<=s.length/\m=s.length-pos/\(s.take pos).all bd6=true) s.length ⟨⟨rfl,rfl⟩,0,rfl,Nat.zero_le _,rfl,rfl⟩ ?_;rintro m fr σ ⟨⟨f0,f16⟩,pos,ho,hp,rfl,ha⟩;by_cases hlt:pos<s.length
   ·simp only[go_sem,f0,f16,ho,hlt,bn3,ho4];by_cases hb:s[pos].toNat<128
    ·rw[fd2 s pos hlt hb];by_cases hb2:s[pos].toNat<=126
     ·have d1:¬ (126:Int)<s[pos].toNat:=by omega
      have d2:IntKind.u8.wrap (s[pos].toNat:Int)=s[pos].toNat:=by
       have:=s[pos].toNat_lt;simp[IntKind.wrap,IntKind.bits,IntKind.signed];omega
      simp only[go_sem,d1,d2];refine aa4 (v:=.int .i64 (ee9 s[pos].toNat signs 0)) fok214 (az2 signs s[pos]) ?_;have hi:decide (ee9 s[pos].toNat signs 0<0)=!bd6 s[pos]:=ig6 s[pos] signs 0;simp only[go_sem,hi]
      cases hg:bd6 s[pos] with
      | true=>
       simp only[go_sem]
       exact ⟨s.length-(pos+1),by omega,pos+1,rfl,hlt,rfl,by rw[cq5 hlt,ha,hg]; rfl⟩
      | false=>
       simp only[go_sem,ar3,bh6 hlt hg];exact ab3 _
     ·have d1:(126:Int)<s[pos].toNat:=by omega
      have hg:bd6 s[pos]=false:=by
       cases h:bd6 s[pos] with
       | false=>rfl
       | true=>exact absurd (ev6 h) hb2
      simp only[go_sem,d1,ar3,bh6 hlt hg];exact ab3 _
    ·have h3:=decode_high s pos hlt hb;generalize Utf8.decode ⟨s.toArray⟩ pos=dd at h3 ⊢;have d1:(126:Int)<dd.1:=by omega
     have hg:bd6 s[pos]=false:=by
      cases h:bd6 s[pos] with
      | false=>rfl
      | true=>have:=ev6 h; omega
     simp only[go_sem,d1,ar3,bh6 hlt hg];exact ab3 _
   ·have hpe:pos=s.length:=by omega
    subst hpe;rw[List.take_length] at ha;simp only[go_sem,f0,f16,ho,bn3,ho4,Nat.lt_irrefl,E0];refine ab7 noT (fun i fr σ=>fr=[(0,.str s),(28,.agg hr5),(29,.int .i64 i)]/\∀ w∈words.take i,s≠w) 7 ⟨rfl,fun w h=>by simp at h⟩ ?_;rintro i fr σ hi ⟨rfl,hw⟩;by_cases hlt:i<7
    ·have e1:(i:Int)<7:=by omega
     have e2:(0:Int)<=i:=by omega
     have w1:=ad4 (i:=i) (by omega)
     obtain ⟨w,h3,h4,h5⟩:∃ w,hr5[i]? = some (.str w)/\words.take (i+1)=words.take i++[w]/\w∈words:=by
      have:i=0\/i=1\/i=2\/i=3\/i=4\/i=5\/i=6:=by omega
      rcases this with rfl|rfl|rfl|rfl|rfl|rfl|rfl<;>exact ⟨_,rfl,rfl,by decide⟩
     simp only[go_sem,e1,e2,Nat.mul_one,h3];by_cases hsw:s=w
     ·subst hsw;have:words.contains s=true:=by simpa using h5
      simp only[go_sem,ar3,this];exact ab3 _
     ·simp only[go_sem,hsw,w1];refine ⟨hlt,?_⟩;rw[h4];intro x hx;rcases List.mem_append.1 hx with h|h
      ·exact hw x h
      ·have:x=w:=by simpa using h
       rw[this]; exact hsw
    ·have hi7:i=7:=by omega
     subst hi7
     have:words.contains s=false:=by
      cases h:words.contains s with
      | false=>rfl
      | true=>exact absurd rfl (hw s (by rw[show words.take 7=words from rfl]; simpa using h))
     have e7:¬ ((7:Nat):Int)<7:=by omega
     simp only[go_sem,e7,ar3,this,h1,h2,ha,Int.lt_irrefl];exact ab3 _
  ·have c1:¬ (s.length:Int)<1:=by omega
   have c2:(64:Int)<s.length:=by omega
   simp only[ic145,go_sem,c1,c2,ar3,h1,h2];exact ab3 _
 ·have c1:(s.length:Int)<1:=by omega
  simp only[ic145,go_sem,c1,ar3,h1];exact ab3 _
theorem ck8 (s:Str)(hs:s.length<2^62):PC Tryz.prog EE 147 [.str s] (.bool (aw7 s)):=by
 refine az3 fok147 (nZ rfl) fun σ=>?_
 simp only[ic147,go_sem];refine aa4 fok145 (ck7 s hs) ?_;simp only[go_sem]
 cases h:ar3 s with
 | false=>simp only[go_sem,aw7,h,and_self]
 | true=>
  simp only[go_sem];refine aa4 fok216 (ec6 s [47]) ?_
  have:(decide ([47].length<=s.length)&&decide (s.take [47].length=[47]))=(s.head? == some 47):=by
   cases s with
   | nil=>rfl
   | cons b l=>simp[eq_comm]; by_cases hb:b=47<;>simp[hb]
  simp only[List.length_cons,List.length_nil] at this;simp only[go_sem,aw7,h,this,and_self]
theorem bo2 (d:Dep)(h1:d.name.length<2^62)(h2:d.evr.ver.length<2^62)(h3:d.evr.rel.length<2^62):PC Tryz.prog EE 84 [.agg d.cs] (.bool (ah9 d)):=by
 obtain ⟨name,op,ep,ver,rel⟩:=d;refine az3 fok84 (nZ rfl) fun σ=>?_
 simp only[ic84,go_sem,Dep.cs];refine aa4 fok145 (ck7 name h1) ?_;simp only[go_sem]
 cases hn:ar3 name with
 | false=>simp only[go_sem,ah9,hn,and_self]
 | true=>
  simp only[go_sem];refine aa4 fok146 (fo5 op) ?_;simp only[go_sem]
  cases ho:dq3 op with
  | false=>simp only[go_sem,ah9,hn,ho,and_self]
  | true=>
   by_cases h0:op=0
   ·subst h0
    have hd:ah9 ⟨name,0,ep,ver,rel⟩=(decide (ep=0)&&(decide (ver=[])&&decide (rel=[]))):=by
     simp only[ah9,hn,ho,go_sem,fs3,EVR.mk.injEq,Bool.decide_and]
    simp only[go_sem,hd,and_self]
   ·simp only[go_sem,h0];refine aa4 fok147 (ck8 name h1) ?_;simp only[go_sem]
    cases hf:aw7 name with
    | true=>simp only[go_sem,ah9,hn,ho,h0,hf,and_self]
    | false=>
     simp only[go_sem];refine aa4 (v:=.bool (bd7 ⟨ep,ver,rel⟩ true)) fok148 (ec8 ⟨ep,ver,rel⟩ true h2 h3) ?_;simp only[go_sem,ah9,hn,ho,h0,hf,and_self]
def gz8 (k:Int):List IV:=[.int .i64 (asks k).1,.int .i64 (asks k).2.1,.bool (asks k).2.2.1,.int .u8 (asks k).2.2.2]
theorem fo6 (k:Int)(h1:0<=k)(h2:k<256):PC Tryz.prog EE 252 [.int .u8 k] (.agg (gz8 k)):=by
 have w:=wrap64 (x:=k) (by omega) (by omega);by_cases h8:8<=k
 ·refine ae9 hE fok252 (nZ rfl) (fun a h=>by cases h with|head=>exact .int _ _|tail _ h=>cases h) ?_;simp only[ic252,go_sem,w,h8]
  have:gz8 k=[.int .i64 0,.int .i64 0,.bool false,.int .u8 0]:=by
   unfold gz8 asks;rw[if_neg (by omega),if_neg (by omega),if_neg (by omega),if_neg (by omega),if_neg (by omega),if_neg (by omega),if_neg (by omega)];rfl
  rw[this];exact .keep _ (ax6 10 _ (by kernel_rfl))
 ·have:k=0\/k=1\/k=2\/k=3\/k=4\/k=5\/k=6\/k=7:=by omega
  rcases this with rfl|rfl|rfl|rfl|rfl|rfl|rfl|rfl
  all_goals
   refine ae9 hE fok252 (nZ rfl) (fun a h=>by cases h with|head=>exact .int _ _|tail _ h=>cases h) ?_;simp only[ic252,go_sem,w];exact .keep _ (ax6 10 _ (by kernel_rfl))
theorem ds9 (d:Dep):∀ c∈d.cs,Bnd 0 c:=by
 intro c hc;simp only[Dep.cs,List.mem_cons,List.not_mem_nil,or_false] at hc;rcases hc with rfl|rfl|rfl|rfl|rfl<;>first|exact .str _|exact .int _ _
theorem dt1 (r:aa8):∀ c∈r.cs,Bnd 0 c:=by
 induction r using aa8.ind with
 | h k d xs ih=>
  intro c hc;rw[aa8.an7] at hc;simp only[List.mem_cons,List.not_mem_nil,or_false] at hc;rcases hc with rfl|rfl|rfl|rfl|rfl|rfl|rfl<;>first|exact .str _|exact .int _ _|skip
  refine .aa5 _ fun e he c hc=>?_
  obtain ⟨a,ha,rfl⟩:=List.mem_map.1 he;exact ih a ha c hc
theorem ag1 (r:aa8):Bnd 0 (.agg r.cs):=.agg _ (dt1 r)
theorem ac1 (r:aa8):r.cs.length=7:=by rw[aa8.an7]; rfl
theorem ae1 {P:IV->Prop}{v:IV}(h:P v):∀ a∈[v],P a:=fun a ha=>by
 cases ha with
 | head=>exact h
 | tail _ h=>cases h
theorem cx4 (a:aa8)(xs:List aa8):aa8.bd8 (a::xs)=max a.depth (aa8.bd8 xs):=by simp only[aa8.bd8]
theorem ig7 (n m:Nat):(if (m:Int)>(n:Int) then (m:Int) else n)=((max n m:Nat):Int):=by
 split<;>omega
theorem dt2 (r:aa8):r.fit->r.depth<2^62->PC Tryz.prog EE 250 [.agg r.cs] (.int .i64 r.depth):=by
 induction r using aa8.ind with
 | h k d xs ih=>
  intro hf hd;obtain ⟨f1,f2,f3,f4,f5⟩:=aa8.bk4.1 hf;refine ae9 hE fok250 (nZ rfl) (ae1 (ag1 _)) ?_;rw[aa8.an7];by_cases hk:k=1
  ·simp only[ic250,go_sem,aa8.kind,aa8.depth,hk];exact ad9 _ _
  ·simp only[aa8.depth,hk,if_false] at hd;simp only[ic250,go_sem,aa8.kind,aa8.depth,hk];refine ab7 noT (fun i fr σ=>∃ n:Nat,fr=[(3,.int .i64 n),(10,.aa5 (xs.map aa8.cs)),(11,.int .i64 xs.length),(12,.int .i64 i)]/\max n (aa8.bd8 (xs.drop i))=aa8.bd8 xs) xs.length ⟨0,rfl,by simp⟩ ?_;rintro i fr σ hi ⟨n,rfl,hn⟩;by_cases hlt:i<xs.length
   ·obtain ⟨a,ha,_,hdr,hget,_⟩:=ae2 xs i hlt;have c1:(i:Int)<xs.length:=by omega
    have c2:(0:Int)<=i:=by omega
    have w1:=ad4 (i:=i) (by omega);rw[hdr,cx4] at hn;have hl:a.cs.all IV.leaf=true:=by rw[aa8.an7]; rfl
    have ht:a.cs.take 7=a.cs:=List.take_of_length_le (by rw[ac1]; exact Nat.le_refl _);simp only[go_sem,c1,c2,hget,ac1,ht,hl,aa8.args,List.drop_zero];refine aa4 fok250 (ih a ha (f5 a ha) (by omega)) ?_;simp only[go_sem,hn9,dz5,ig7,w1];exact ⟨hlt,max n a.depth,rfl,by rw[<- hn]; omega⟩
   ·have hi':i=xs.length:=by omega
    subst hi';have c1:¬ (xs.length:Int)<xs.length:=by omega
    simp only[List.drop_length,aa8.bd8,Nat.max_zero] at hn;subst hn;have w1:=ad4 (i:=aa8.bd8 xs) (by omega);simp only[go_sem,c1,w1];exact ad9 _ _
def row (p:aa8×Bool):List IV:=[.agg p.1.cs,.bool p.2]
def evs (r:aa8)(al:Bool):List (List IV):=(r.parts al).map row
def ec9 (xs:List aa8)(al:Bool):List (List IV):=(aa8.bg9 xs al).map row
theorem ix4 (k:Int)(d:Dep)(xs:List aa8)(al:Bool):evs (.mk k d xs) al=[.agg (aa8.mk k d xs).cs,.bool al]::ec9 xs (al||decide (k=6)||decide (k=7)):=by
 simp only[evs,ec9,aa8.parts,List.map_cons,row]
theorem ca5 (a:aa8)(xs:List aa8)(al:Bool):ec9 (a::xs) al=evs a al++ec9 xs al:=by
 simp only[evs,ec9,aa8.bg9,List.map_append]
def boxed (b:Nat)(s:Store):Prop:=b<s.next/\s.obj b=some (.cells [.func (.func 285) [] [.ptr b 0]])
theorem ix5 (r:aa8):r.fit->∀ (al:Bool) (rest:List (List IV)) (b yid:Nat) (I:List (List IV)->Store->Prop) (S:Store->Prop) (σ:Store),(∀ rest s,I rest s->boxed b s)->ja4 I->gr7 Tryz.prog EE yid I S ->
  I (evs r al++rest) σ->C Tryz.prog EE 285 [.agg r.cs,.bool al,.yield yid,.ptr b 0] σ fun v s=>σ.next<=s.next/\((v=.bool true/\I rest s)\/(v=.bool false/\S s)):=by
 induction r using aa8.ind with
 | h k d xs ih=>
  intro hf al rest b yid I S σ hown hstab hy hi;obtain ⟨f1,f2,f3,f4,f5⟩:=aa8.bk4.1 hf;refine C_f fok285 (nZ rfl) ?_;rw[ix4,List.cons_append,aa8.an7] at hi;rw[aa8.an7];simp only[ic285,go_sem,aa8.kind,aa8.dep,aa8.args] at hi ⊢;refine cn6 hy hi (fun s hn hi=>?_) (fun s hn hs=>?_)
  ·have H:(al=true)\/(al=false/\k=6)\/(al=false/\¬ k=6/\k=7)\/(al=false/\¬ k=6/\¬ k=7):=by
    cases al<;>by_cases h6:k=6<;>by_cases h7:k=7<;>simp[h6,h7]
   rcases H with h1|⟨h1,h2⟩|⟨h1,h2,h3⟩|⟨h1,h2,h3⟩
   ·have hA:(al||decide (k=6)||decide (k=7))=true:=by simp[h1]
    rw[hA] at hi;simp only[go_sem,h1];refine ab7 noT (fun i fr t=>fr=[(1,.bool true),(2,.yield yid),(3,.ptr b 0),(27,.aa5 (xs.map aa8.cs)),(28,.int .i64 xs.length),(29,.int .i64 i)]/\I (ec9 (xs.drop i) true++rest) t/\σ.next<=t.next) xs.length ⟨rfl,hi,hn⟩ ?_;rintro i fr t hle ⟨rfl,hi,hn⟩;by_cases hlt:i<xs.length
    ·obtain ⟨a,ha,_,hdr,hget,_⟩:=ae2 xs i hlt;have c1:(i:Int)<xs.length:=by omega
     have c2:(0:Int)<=i:=by omega
     have w1:=ad4 (i:=i) (by omega);have hl:a.cs.all IV.leaf=true:=by rw[aa8.an7]; rfl
     have ht:a.cs.take 7=a.cs:=List.take_of_length_le (by rw[ac1]; exact Nat.le_refl _);obtain ⟨hb1,hb2⟩:=hown _ _ hi;have hb3:¬ b=t.next:=by omega
     simp only[go_sem,c1,c2,hget,ac1,ht,hl,hb2,hb3];rw[hdr,ca5,List.append_assoc] at hi;refine af1 fok285 (ih a ha (f5 a ha) true (ec9 (xs.drop (i+1)) true++rest) b yid I S _ hown hstab hy (hstab _ _ _ hi (Nat.le_succ _) (fun j hj=>?_))) ?_
     ·have:¬ j=t.next:=by omega
      simp only[aa7,this,if_false]
     ·rintro v s2 ⟨hn2,⟨rfl,hi2⟩|⟨rfl,hs2⟩⟩
      ·refine ⟨hn2,?_⟩;have hn3:t.next+1<=s2.next:=hn2;simp only[go_sem,w1];exact ⟨hlt,hi2,by omega⟩
      ·refine ⟨hn2,?_⟩;have hn3:t.next+1<=s2.next:=hn2;simp only[go_sem];exact ⟨by omega,.inr hs2⟩
    ·have hi':i=xs.length:=by omega
     subst hi';have c1:¬ (xs.length:Int)<xs.length:=by omega
     simp only[List.drop_length,ec9,aa8.bg9,List.map_nil,List.nil_append] at hi;simp only[go_sem,c1];exact ⟨hn,.inl hi⟩
   ·have hA:(al||decide (k=6)||decide (k=7))=true:=by simp[h1,h2]
    rw[hA] at hi;simp only[go_sem,h1,h2];refine ab7 noT (fun i fr t=>fr=[(1,.bool true),(2,.yield yid),(3,.ptr b 0),(27,.aa5 (xs.map aa8.cs)),(28,.int .i64 xs.length),(29,.int .i64 i)]/\I (ec9 (xs.drop i) true++rest) t/\σ.next<=t.next) xs.length ⟨rfl,hi,hn⟩ ?_;rintro i fr t hle ⟨rfl,hi,hn⟩;by_cases hlt:i<xs.length
    ·obtain ⟨a,ha,_,hdr,hget,_⟩:=ae2 xs i hlt;have c1:(i:Int)<xs.length:=by omega
     have c2:(0:Int)<=i:=by omega
     have w1:=ad4 (i:=i) (by omega);have hl:a.cs.all IV.leaf=true:=by rw[aa8.an7]; rfl
     have ht:a.cs.take 7=a.cs:=List.take_of_length_le (by rw[ac1]; exact Nat.le_refl _);obtain ⟨hb1,hb2⟩:=hown _ _ hi;have hb3:¬ b=t.next:=by omega
     simp only[go_sem,c1,c2,hget,ac1,ht,hl,hb2,hb3];rw[hdr,ca5,List.append_assoc] at hi;refine af1 fok285 (ih a ha (f5 a ha) true (ec9 (xs.drop (i+1)) true++rest) b yid I S _ hown hstab hy (hstab _ _ _ hi (Nat.le_succ _) (fun j hj=>?_))) ?_
     ·have:¬ j=t.next:=by omega
      simp only[aa7,this,if_false]
     ·rintro v s2 ⟨hn2,⟨rfl,hi2⟩|⟨rfl,hs2⟩⟩
      ·refine ⟨hn2,?_⟩;have hn3:t.next+1<=s2.next:=hn2;simp only[go_sem,w1];exact ⟨hlt,hi2,by omega⟩
      ·refine ⟨hn2,?_⟩;have hn3:t.next+1<=s2.next:=hn2;simp only[go_sem];exact ⟨by omega,.inr hs2⟩
    ·have hi':i=xs.length:=by omega
     subst hi';have c1:¬ (xs.length:Int)<xs.length:=by omega
     simp only[List.drop_length,ec9,aa8.bg9,List.map_nil,List.nil_append] at hi;simp only[go_sem,c1];exact ⟨hn,.inl hi⟩
   ·have hA:(al||decide (k=6)||decide (k=7))=true:=by simp[h1,h2,h3,show ¬ ((7:Int)=6) from by omega]
    rw[hA] at hi;simp only[go_sem,h1,h2,h3,show ¬ ((7:Int)=6) from by omega];refine ab7 noT (fun i fr t=>fr=[(1,.bool true),(2,.yield yid),(3,.ptr b 0),(27,.aa5 (xs.map aa8.cs)),(28,.int .i64 xs.length),(29,.int .i64 i)]/\I (ec9 (xs.drop i) true++rest) t/\σ.next<=t.next) xs.length ⟨rfl,hi,hn⟩ ?_;rintro i fr t hle ⟨rfl,hi,hn⟩;by_cases hlt:i<xs.length
    ·obtain ⟨a,ha,_,hdr,hget,_⟩:=ae2 xs i hlt;have c1:(i:Int)<xs.length:=by omega
     have c2:(0:Int)<=i:=by omega
     have w1:=ad4 (i:=i) (by omega);have hl:a.cs.all IV.leaf=true:=by rw[aa8.an7]; rfl
     have ht:a.cs.take 7=a.cs:=List.take_of_length_le (by rw[ac1]; exact Nat.le_refl _);obtain ⟨hb1,hb2⟩:=hown _ _ hi;have hb3:¬ b=t.next:=by omega
     simp only[go_sem,c1,c2,hget,ac1,ht,hl,hb2,hb3];rw[hdr,ca5,List.append_assoc] at hi;refine af1 fok285 (ih a ha (f5 a ha) true (ec9 (xs.drop (i+1)) true++rest) b yid I S _ hown hstab hy (hstab _ _ _ hi (Nat.le_succ _) (fun j hj=>?_))) ?_
     ·have:¬ j=t.next:=by omega
      simp only[aa7,this,if_false]
     ·rintro v s2 ⟨hn2,⟨rfl,hi2⟩|⟨rfl,hs2⟩⟩
      ·refine ⟨hn2,?_⟩;have hn3:t.next+1<=s2.next:=hn2;simp only[go_sem,w1];exact ⟨hlt,hi2,by omega⟩
      ·refine ⟨hn2,?_⟩;have hn3:t.next+1<=s2.next:=hn2;simp only[go_sem];exact ⟨by omega,.inr hs2⟩
    ·have hi':i=xs.length:=by omega
     subst hi';have c1:¬ (xs.length:Int)<xs.length:=by omega
     simp only[List.drop_length,ec9,aa8.bg9,List.map_nil,List.nil_append] at hi;simp only[go_sem,c1];exact ⟨hn,.inl hi⟩
   ·have hA:(al||decide (k=6)||decide (k=7))=false:=by simp[h1,h2,h3]
    rw[hA] at hi;simp only[go_sem,h1,h2,h3];refine ab7 noT (fun i fr t=>fr=[(1,.bool false),(2,.yield yid),(3,.ptr b 0),(27,.aa5 (xs.map aa8.cs)),(28,.int .i64 xs.length),(29,.int .i64 i)]/\I (ec9 (xs.drop i) false++rest) t/\σ.next<=t.next) xs.length ⟨rfl,hi,hn⟩ ?_;rintro i fr t hle ⟨rfl,hi,hn⟩;by_cases hlt:i<xs.length
    ·obtain ⟨a,ha,_,hdr,hget,_⟩:=ae2 xs i hlt;have c1:(i:Int)<xs.length:=by omega
     have c2:(0:Int)<=i:=by omega
     have w1:=ad4 (i:=i) (by omega);have hl:a.cs.all IV.leaf=true:=by rw[aa8.an7]; rfl
     have ht:a.cs.take 7=a.cs:=List.take_of_length_le (by rw[ac1]; exact Nat.le_refl _);obtain ⟨hb1,hb2⟩:=hown _ _ hi;have hb3:¬ b=t.next:=by omega
     simp only[go_sem,c1,c2,hget,ac1,ht,hl,hb2,hb3];rw[hdr,ca5,List.append_assoc] at hi;refine af1 fok285 (ih a ha (f5 a ha) false (ec9 (xs.drop (i+1)) false++rest) b yid I S _ hown hstab hy (hstab _ _ _ hi (Nat.le_succ _) (fun j hj=>?_))) ?_
     ·have:¬ j=t.next:=by omega
      simp only[aa7,this,if_false]
     ·rintro v s2 ⟨hn2,⟨rfl,hi2⟩|⟨rfl,hs2⟩⟩
      ·refine ⟨hn2,?_⟩;have hn3:t.next+1<=s2.next:=hn2;simp only[go_sem,w1];exact ⟨hlt,hi2,by omega⟩
      ·refine ⟨hn2,?_⟩;have hn3:t.next+1<=s2.next:=hn2;simp only[go_sem];exact ⟨by omega,.inr hs2⟩
    ·have hi':i=xs.length:=by omega
     subst hi';have c1:¬ (xs.length:Int)<xs.length:=by omega
     simp only[List.drop_length,ec9,aa8.bg9,List.map_nil,List.nil_append] at hi;simp only[go_sem,c1];exact ⟨hn,.inl hi⟩
  ·simp only[go_sem];exact ⟨hn,.inr hs⟩
theorem dl7 (r:aa8)(hf:r.fit)(b:Nat):er9 Tryz.prog EE (.func (.func 286) [] [.ptr b 0,.ab8 r.cs]) (evs r false) (boxed b):=by
 intro yid I S σ hown hstab hy hi;refine ⟨fok286.1,?_⟩;refine C_f fok286 (nZ rfl) ?_;obtain ⟨hb1,hb2⟩:=hown _ _ hi;have ht:r.cs.take 7=r.cs:=List.take_of_length_le (by rw[ac1]; exact Nat.le_refl _);simp only[ic286,go_sem,hb2,ht,ac1];refine af1 fok285 (ix5 r hf false [] b yid I S σ hown hstab hy (by rw[List.append_nil]; exact hi)) ?_;rintro v s ⟨hn,h⟩;refine ⟨hn,?_⟩;simp only[go_sem];refine ⟨hn,?_⟩;rcases h with ⟨_,h⟩|⟨_,h⟩
 ·exact .inl h
 ·exact .inr h
theorem gf5 (r:aa8)(σ:Store):C Tryz.prog EE 251 [.agg r.cs] σ fun v s=>v=.func (.func 286) [] [.ptr σ.next 0,.ab8 r.cs]/\boxed σ.next s/\σ.next<=s.next/\∀ i,i<σ.next->s.obj i=σ.obj i:=by
 refine C_f fok251 (nZ rfl) ?_;have hl:r.cs.all IV.leaf=true:=by rw[aa8.an7]; rfl
 simp only[ic251,go_sem,hl];refine ⟨⟨Nat.lt_succ_self _,?_⟩,Nat.le_succ _,fun i hi=>?_⟩
 ·simp only[aa7,if_true]
 ·have:¬ i=σ.next:=by omega
  simp only[aa7,this,if_false]
theorem aa8.gf6 (r:aa8):∀ al,(r.parts al).length=r.count:=by
 induction r using aa8.ind with
 | h k d xs ih=>
  intro al;simp only[aa8.parts,aa8.count,List.length_cons];congr 1;generalize (al||decide (k=6)||decide (k=7))=al';clear al
  induction xs with
  | nil=>rfl
  | cons a xs ih'=>
   simp only[aa8.bg9,aa8.counts,List.length_append];rw[ih a (List.mem_cons_self ..),ih' (fun b hb=>ih b (List.mem_cons_of_mem _ hb))]
theorem en2 {r:aa8}{al:Bool}:∀ a∈evs r al,a.length=2:=fun a ha=>by
 obtain ⟨p,_,rfl⟩:=List.mem_map.1 ha; rfl
theorem ig8 (r:aa8)(al:Bool):(evs r al).length=r.count:=by rw[evs,List.length_map,aa8.gf6]
theorem dt3 (r:aa8)(hf:r.fit)(hc:r.count<2^62):PC Tryz.prog EE 249 [.agg r.cs] (.int .i64 r.count):=by
 refine ae9 hE fok249 (nZ rfl) (ae1 (ag1 _)) ?_;have hl:r.cs.all IV.leaf=true:=by rw[aa8.an7]; rfl
 have ht:r.cs.take 7=r.cs:=List.take_of_length_le (by rw[ac1]; exact Nat.le_refl _);simp only[ic249,go_sem,hl,ht,ac1];refine af1 fok251 (gf5 r _) ?_;rintro v s1 ⟨rfl,hb,hn,hs⟩;refine ⟨hn,?_⟩;simp only[go_sem] at hn hs hb ⊢;have h0:s1.obj 0=some (.cells [.int .i64 0]):=by rw[hs 0 (by omega)]; rfl
 have hb2:=hb.1;refine dp2 (dl7 r hf 1) (fun rest s=>boxed 1 s/\∃ n:Nat,s.obj 0=some (.cells [.int .i64 n])/\n+rest.length=r.count) (fun _ _ h=>h.1) ?_ en2 ?_ ?_ ?_
 ·rintro rest s s' ⟨⟨q1,q2⟩,n,q3,q4⟩ hn' hs';exact ⟨⟨by omega,by rw[hs' 1 q1]; exact q2⟩,n,by rw[hs' 0 (by omega)]; exact q3,q4⟩
 ·intro o;have e0:¬ 0=s1.next:=by omega
  have e1:¬ 1=s1.next:=by omega
  exact ⟨⟨by show 1<s1.next+1; omega,by simp only[aa7,e1,if_false]; exact hb.2⟩,0,by simp only[aa7,e0,if_false]; exact h0,by rw[ig8]; omega⟩
 ·rintro L pre a rest s hev ⟨⟨q1,q2⟩,n,q3,q4⟩ hL hlt;have ha:=en2 (r:=r) (al:=false) a (by rw[hev]; simp)
  match a,ha with
  | [x,y],_=>
   have e0:¬ 0=s1.next:=by omega
   have e1:¬ s1.next=0:=by omega
   have e2:¬ 1=s1.next:=by omega
   simp only[List.length_cons] at q4;have w1:=ad4 (i:=n) (by omega);have e3:¬ s1.next=1:=by omega
   simp only[go_sem,hL,e0,q3,e1,w1];refine eh8 (Nat.le_refl _) ?_ ⟨⟨q1,?_⟩,n+1,?_,by omega⟩
   ·simp only[aa7,if_true]
   ·have:¬ 1=0:=by omega
    simp only[aa7,e2,this,if_false]; exact q2
   ·simp only[aa7,e0,if_false,if_true]
 ·rintro s o ⟨⟨q1,q2⟩,n,q3,q4⟩ hlt ho;have e0:¬ 0=s1.next:=by omega
  have:n=r.count:=by simpa using q4
  subst this;simp only[go_sem,e0,q3];exact ad9 _ _
theorem gf7 (r:aa8):r.fit->∀ al,∀ p∈r.parts al,p.1.fit:=by
 induction r using aa8.ind with
 | h k d xs ih=>
  intro hf al p hp;simp only[aa8.parts,List.mem_cons] at hp;rcases hp with rfl|hp
  ·exact hf
  ·have hx:=(aa8.bk4.1 hf).2.2.2.2;clear hf;generalize (al||decide (k=6)||decide (k=7))=al' at hp
   induction xs with
   | nil=>simp[aa8.bg9] at hp
   | cons a xs ih'=>
    simp only[aa8.bg9,List.mem_append] at hp;rcases hp with hp|hp
    ·exact ih a (List.mem_cons_self ..) (hx a (List.mem_cons_self ..)) _ p hp
    ·exact ih' (fun b hb=>ih b (List.mem_cons_of_mem _ hb)) (fun b hb=>hx b (List.mem_cons_of_mem _ hb)) hp
theorem ev7 (r:aa8):r.depth<=r.count:=by
 induction r using aa8.ind with
 | h k d xs ih=>
  simp only[aa8.depth,aa8.count];split
  ·omega
  ·apply Nat.succ_le_succ
   induction xs with
   | nil=>simp[aa8.bd8]
   | cons a xs ih'=>
    simp only[aa8.bd8,aa8.counts];have h1:=ih a (List.mem_cons_self ..);have h2:=ih' (fun b hb=>ih b (List.mem_cons_of_mem _ hb));omega
theorem en3 (r:aa8)(wh:Int)(hf:r.fit)(hc:r.count<2^62):PC Tryz.prog EE 205 [.agg r.cs,.int .u8 wh] (.int .i64 (ar5 r wh)):=by
 refine ae9 hE fok205 (nZ rfl) (fun a ha=>by
  cases ha with
  | head=>exact ag1 _
  | tail _ ha=>cases ha with
   | head=>exact .int _ _
   | tail _ ha=>cases ha) ?_
 have hl:r.cs.all IV.leaf=true:=by rw[aa8.an7]; rfl
 have ht:r.cs.take 7=r.cs:=List.take_of_length_le (by rw[ac1]; exact Nat.le_refl _);have hdl:=ev7 r;by_cases a1:wh<1
 ·simp only[ic205,go_sem,hl,a1,ar5];exact ad9 _ _
 by_cases a2:3<wh
 ·simp only[ic205,go_sem,hl,a1,a2,ar5];exact ad9 _ _
 simp only[ic205,go_sem,hl,a1,a2,ht,ac1];refine aa4 fok249 (dt3 r hf hc) ?_;by_cases a3:24<r.count
 ·have c3:(24:Int)<r.count:=by omega
  simp only[go_sem,c3,ar5,a1,a2,a3,or_self];exact ad9 _ _
 have c3:¬ (24:Int)<r.count:=by omega
 simp only[go_sem,c3,ht,ac1];refine aa4 fok250 (dt2 r hf (by omega)) ?_;by_cases a4:8<r.depth
 ·have c4:(8:Int)<r.depth:=by omega
  simp only[go_sem,c4,ar5,a1,a2,a3,a4,or_self];exact ad9 _ _
 have c4:¬ (8:Int)<r.depth:=by omega
 simp only[go_sem,c4,ht,ac1]
 have hres:ar5 r wh=if (r.parts false).all (fun p=>aj5 wh p.1 p.2)=true then 0 else 4:=by
  simp only[ar5,a1,a2,a3,a4,or_self,if_false]
 rw[hres];generalize hS:(Store.mk _ _)=s0;refine af1 fok251 (gf5 r _) ?_;rintro v s1 ⟨rfl,hb,hn,hs⟩;have g0:s0.next=1:=by subst hS; simp only
 have g1:s0.obj 0=some (.cells [.int .i64 0]):=by subst hS; simp only[aa7,if_true]
 refine ⟨hn,?_⟩;rw[g0] at hb hn hs;have hb2:=hb.1;have h0:s1.obj 0=some (.cells [.int .i64 0]):=by rw[hs 0 (by omega),g1]
 have e0:¬ 0=s1.next:=by omega
 have e1:¬ s1.next=0:=by omega
 have e2:¬ 1=s1.next:=by omega
 simp only[go_sem,g0];refine dp2 (dl7 r hf 1) (fun rest s=>(boxed 1 s/\s.obj 0=some (.cells [.int .i64 0]))/\∃ ps:List (aa8×Bool),rest=ps.map row/\(∀ p∈ps,p.1.fit)/\(r.parts false).all (fun p:aa8×Bool=>aj5 wh p.1 p.2)=ps.all (fun p:aa8×Bool=>aj5 wh p.1 p.2)) (fun _ _ h=>h.1.1) ?_ en2 ?_ ?_ ?_
 ·rintro rest s s' ⟨⟨⟨q1,q2⟩,q3⟩,q4⟩ hn' hs';exact ⟨⟨⟨by omega,by rw[hs' 1 q1]; exact q2⟩,by rw[hs' 0 (by omega)]; exact q3⟩,q4⟩
 ·intro o;exact ⟨⟨⟨by show 1<s1.next+1; omega,by simp only[aa7,e2,if_false]; exact hb.2⟩,by simp only[aa7,e0,if_false]; exact h0⟩,_,rfl,gf7 r hf false,rfl⟩
 ·rintro L pre a rest s hev ⟨⟨⟨q1,q2⟩,q3⟩,ps,hps,hfp,hall⟩ hL hlt
  cases ps with
  | nil=>cases hps
  | cons p ps=>
   obtain ⟨⟨k,d,xs⟩,al⟩:=p;simp only[List.map_cons,List.cons.injEq] at hps;obtain ⟨rfl,rfl⟩:=hps;obtain ⟨f1,f2,f3,f4,f5⟩:=aa8.bk4.1 (hfp _ (List.mem_cons_self ..));have hfp':∀ p∈ps,p.1.fit:=fun p hp=>hfp p (List.mem_cons_of_mem _ hp)
   simp only[List.all_cons] at hall;have u0:¬ 0=s.next:=by omega
   have u1:¬ s1.next=s.next:=by omega
   have u2:¬ s.next=s1.next:=by omega
   have u3:¬ 0=s.next+1:=by omega
   have u4:¬ s1.next=s.next+1:=by omega
   have u5:¬ s.next=s.next+1:=by omega
   simp only[row,aa8.an7,aa8.kind,aa8.dep,aa8.args,go_sem,hL,q3,e0,e1,u0,u1,u2,u3,u4,u5];have u6:¬ s.next+1=s1.next:=by omega
   have u7:¬ s.next+1=s.next:=by omega
   have u8:¬ s.next+1=0:=by omega
   have u9:¬ s.next=0:=by omega
   have u10:¬ 1=s.next:=by omega
   have u11:¬ 1=s.next+1:=by omega
   refine aa4 fok252 (fo6 k f1 f2) ?_;simp only[go_sem,gz8,q3,e0,e1,u0,u3,e2,u1,u2,u4,u5,u6,u7,u8,u9,u10,u11];have hstop:∀ ok:Bool,aj5 wh (.mk k d xs) al=ok->aj5 wh (.mk k d xs) al=ok:=fun _ h=>h
   by_cases b1:((asks k).2.2.2:Int)<wh
   ·have hok:aj5 wh (.mk k d xs) al=false:=by simp[aj5,aa8.kind,b1]
    simp only[go_sem,b1,q3,e0,e1,u0,u3,e2,u1,u2,u4,u5,u6,u7,u8,u9,u10,u11]
    (refine ct2 (by simp only[ab5]; omega) (by simp only[aa7,if_true]) ?_; simp only[go_sem,e2,u1,u2,u4,u5,u6,u7,u8,u9,u10,u11,e0,u0,u3]; rw[hall,hok]; exact ad9 _ _)
   by_cases b2:(al=true/\(asks k).2.2.1=false)
   ·have hok:aj5 wh (.mk k d xs) al=false:=by simp[aj5,aa8.kind,b2.1,b2.2]
    simp only[go_sem,b1,b2.1,b2.2,q3,e0,e1,u0,u3,e2,u1,u2,u4,u5,u6,u7,u8,u9,u10,u11]
    (refine ct2 (by simp only[ab5]; omega) (by simp only[aa7,if_true]) ?_; simp only[go_sem,e2,u1,u2,u4,u5,u6,u7,u8,u9,u10,u11,e0,u0,u3]; rw[hall,hok]; exact ad9 _ _)
   have hb2:(al&&!(asks k).2.2.1)=false:=by
    cases al<;>cases hx:(asks k).2.2.1<;>simp_all
   have hal:(al=false)\/(al=true/\(asks k).2.2.1=true):=by
    cases al<;>cases hx:(asks k).2.2.1<;>simp_all
   have hdd:decide (d=by7)=(decide (d.name=[])&&(decide (d.op=0)&&(decide (d.evr.am9=0)&&(decide (d.evr.ver=[])&&decide (d.evr.rel=[]))))):=by
    obtain ⟨n,o,e,v,r⟩:=d;simp only[by7,fs3,Dep.mk.injEq,EVR.mk.injEq,Bool.decide_and]
   have hpart:aj5 wh (.mk k d xs) al=(!(decide (((asks k).2.2.2:Int)<wh)||al&&!(asks k).2.2.1||decide (xs.length<(asks k).1)||decide ((asks k).2.1<xs.length))&&(if k=1 then ah9 d else decide (d=by7))):=rfl;have hdc:=bo2 d f3.1 f3.2.1 f3.2.2;rcases hal with h1|⟨h1,h2⟩
   ·by_cases b3:xs.length<(asks k).1
    ·have c3:(xs.length:Int)<(asks k).1:=by omega
     have hok:aj5 wh (.mk k d xs) al=false:=by simp[aj5,aa8.kind,aa8.args,b3]
     simp only[go_sem,b1,h1,c3,q3,e0,e1,u0,u3,e2,u1,u2,u4,u5,u6,u7,u8,u9,u10,u11]
     (refine ct2 (by simp only[ab5]; omega) (by simp only[aa7,if_true]) ?_; simp only[go_sem,e2,u1,u2,u4,u5,u6,u7,u8,u9,u10,u11,e0,u0,u3]; rw[hall,hok]; exact ad9 _ _)
    have c3:¬ (xs.length:Int)<(asks k).1:=by omega
    by_cases b4:(asks k).2.1<xs.length
    ·have c4:((asks k).2.1:Int)<xs.length:=by omega
     have hok:aj5 wh (.mk k d xs) al=false:=by simp[aj5,aa8.kind,aa8.args,b4]
     simp only[go_sem,b1,h1,c3,c4,q3,e0,e1,u0,u3,e2,u1,u2,u4,u5,u6,u7,u8,u9,u10,u11]
     (refine ct2 (by simp only[ab5]; omega) (by simp only[aa7,if_true]) ?_; simp only[go_sem,e2,u1,u2,u4,u5,u6,u7,u8,u9,u10,u11,e0,u0,u3]; rw[hall,hok]; exact ad9 _ _)
    have c4:¬ ((asks k).2.1:Int)<xs.length:=by omega
    by_cases hk:k=1
    ·have hkd:decide (k=1)=true:=decide_eq_true hk;simp only[go_sem,b1,h1,c3,c4,hkd,q3,e0,e1,u0,u3,e2,u1,u2,u4,u5,u6,u7,u8,u9,u10,u11,by6];refine aa4 fok84 hdc ?_
     cases hd:ah9 d with
     | false=>
      have hok:aj5 wh (.mk k d xs) al=false:=by simp[aj5,aa8.kind,aa8.args,aa8.dep,hk,hd]
      simp only[go_sem,q3,e0,e1,u0,u3,e2,u1,u2,u4,u5,u6,u7,u8,u9,u10,u11]
      (refine ct2 (by simp only[ab5]; omega) (by simp only[aa7,if_true]) ?_; simp only[go_sem,e2,u1,u2,u4,u5,u6,u7,u8,u9,u10,u11,e0,u0,u3]; rw[hall,hok]; exact ad9 _ _)
     | true=>
      have hok:aj5 wh (.mk k d xs) al=true:=by
       rw[hpart,decide_eq_false b1,hb2,decide_eq_false b3,decide_eq_false b4,if_pos hk,hd]; rfl
      simp only[go_sem,hkd,q3,e0,e1,u0,u3,e2,u1,u2,u4,u5,u6,u7,u8,u9,u10,u11]
      (refine eh8 (by simp only[ab5]; omega) (by simp only[aa7,if_true]) ⟨⟨⟨by simp only[ab5]; omega,by simp only[aa7,e2,u1,u2,u4,u5,u6,u7,u8,u9,u10,u11,if_false]; exact q2⟩,by simp only[aa7,e0,u0,u3,if_false]; exact q3⟩,ps,rfl,hfp',by rw[hall,hok,Bool.true_and]⟩)
    ·simp only[go_sem,b1,h1,c3,c4,hk,q3,e0,e1,u0,u3,e2,u1,u2,u4,u5,u6,u7,u8,u9,u10,u11,by6];rw[<- hdd];by_cases hd:d=by7
     ·have hok:aj5 wh (.mk k d xs) al=true:=by
       rw[hpart,decide_eq_false b1,hb2,decide_eq_false b3,decide_eq_false b4,if_neg hk,decide_eq_true hd]; rfl
      have hd1:decide (d=by7)=true:=decide_eq_true hd;simp only[go_sem,hd1,q3,e0,e1,u0,u3,e2,u1,u2,u4,u5,u6,u7,u8,u9,u10,u11]
      (refine eh8 (by simp only[ab5]; omega) (by simp only[aa7,if_true]) ⟨⟨⟨by simp only[ab5]; omega,by simp only[aa7,e2,u1,u2,u4,u5,u6,u7,u8,u9,u10,u11,if_false]; exact q2⟩,by simp only[aa7,e0,u0,u3,if_false]; exact q3⟩,ps,rfl,hfp',by rw[hall,hok,Bool.true_and]⟩)
     ·have hok:aj5 wh (.mk k d xs) al=false:=by simp[aj5,aa8.kind,aa8.args,aa8.dep,hk,hd]
      have hd1:decide (d=by7)=false:=decide_eq_false hd;simp only[go_sem,hd1,q3,e0,e1,u0,u3,e2,u1,u2,u4,u5,u6,u7,u8,u9,u10,u11]
      (refine ct2 (by simp only[ab5]; omega) (by simp only[aa7,if_true]) ?_; simp only[go_sem,e2,u1,u2,u4,u5,u6,u7,u8,u9,u10,u11,e0,u0,u3]; rw[hall,hok]; exact ad9 _ _)
   ·by_cases b3:xs.length<(asks k).1
    ·have c3:(xs.length:Int)<(asks k).1:=by omega
     have hok:aj5 wh (.mk k d xs) al=false:=by simp[aj5,aa8.kind,aa8.args,b3]
     simp only[go_sem,b1,h1,h2,c3,q3,e0,e1,u0,u3,e2,u1,u2,u4,u5,u6,u7,u8,u9,u10,u11]
     (refine ct2 (by simp only[ab5]; omega) (by simp only[aa7,if_true]) ?_; simp only[go_sem,e2,u1,u2,u4,u5,u6,u7,u8,u9,u10,u11,e0,u0,u3]; rw[hall,hok]; exact ad9 _ _)
    have c3:¬ (xs.length:Int)<(asks k).1:=by omega
    by_cases b4:(asks k).2.1<xs.length
    ·have c4:((asks k).2.1:Int)<xs.length:=by omega
     have hok:aj5 wh (.mk k d xs) al=false:=by simp[aj5,aa8.kind,aa8.args,b4]
     simp only[go_sem,b1,h1,h2,c3,c4,q3,e0,e1,u0,u3,e2,u1,u2,u4,u5,u6,u7,u8,u9,u10,u11]
     (refine ct2 (by simp only[ab5]; omega) (by simp only[aa7,if_true]) ?_; simp only[go_sem,e2,u1,u2,u4,u5,u6,u7,u8,u9,u10,u11,e0,u0,u3]; rw[hall,hok]; exact ad9 _ _)
    have c4:¬ ((asks k).2.1:Int)<xs.length:=by omega
    by_cases hk:k=1
    ·have hkd:decide (k=1)=true:=decide_eq_true hk;simp only[go_sem,b1,h1,h2,c3,c4,hkd,q3,e0,e1,u0,u3,e2,u1,u2,u4,u5,u6,u7,u8,u9,u10,u11,by6];refine aa4 fok84 hdc ?_
     cases hd:ah9 d with
     | false=>
      have hok:aj5 wh (.mk k d xs) al=false:=by simp[aj5,aa8.kind,aa8.args,aa8.dep,hk,hd]
      simp only[go_sem,q3,e0,e1,u0,u3,e2,u1,u2,u4,u5,u6,u7,u8,u9,u10,u11]
      (refine ct2 (by simp only[ab5]; omega) (by simp only[aa7,if_true]) ?_; simp only[go_sem,e2,u1,u2,u4,u5,u6,u7,u8,u9,u10,u11,e0,u0,u3]; rw[hall,hok]; exact ad9 _ _)
     | true=>
      have hok:aj5 wh (.mk k d xs) al=true:=by
       rw[hpart,decide_eq_false b1,hb2,decide_eq_false b3,decide_eq_false b4,if_pos hk,hd]; rfl
      simp only[go_sem,hkd,q3,e0,e1,u0,u3,e2,u1,u2,u4,u5,u6,u7,u8,u9,u10,u11]
      (refine eh8 (by simp only[ab5]; omega) (by simp only[aa7,if_true]) ⟨⟨⟨by simp only[ab5]; omega,by simp only[aa7,e2,u1,u2,u4,u5,u6,u7,u8,u9,u10,u11,if_false]; exact q2⟩,by simp only[aa7,e0,u0,u3,if_false]; exact q3⟩,ps,rfl,hfp',by rw[hall,hok,Bool.true_and]⟩)
    ·simp only[go_sem,b1,h1,h2,c3,c4,hk,q3,e0,e1,u0,u3,e2,u1,u2,u4,u5,u6,u7,u8,u9,u10,u11,by6];rw[<- hdd];by_cases hd:d=by7
     ·have hok:aj5 wh (.mk k d xs) al=true:=by
       rw[hpart,decide_eq_false b1,hb2,decide_eq_false b3,decide_eq_false b4,if_neg hk,decide_eq_true hd]; rfl
      have hd1:decide (d=by7)=true:=decide_eq_true hd;simp only[go_sem,hd1,q3,e0,e1,u0,u3,e2,u1,u2,u4,u5,u6,u7,u8,u9,u10,u11]
      (refine eh8 (by simp only[ab5]; omega) (by simp only[aa7,if_true]) ⟨⟨⟨by simp only[ab5]; omega,by simp only[aa7,e2,u1,u2,u4,u5,u6,u7,u8,u9,u10,u11,if_false]; exact q2⟩,by simp only[aa7,e0,u0,u3,if_false]; exact q3⟩,ps,rfl,hfp',by rw[hall,hok,Bool.true_and]⟩)
     ·have hok:aj5 wh (.mk k d xs) al=false:=by simp[aj5,aa8.kind,aa8.args,aa8.dep,hk,hd]
      have hd1:decide (d=by7)=false:=decide_eq_false hd;simp only[go_sem,hd1,q3,e0,e1,u0,u3,e2,u1,u2,u4,u5,u6,u7,u8,u9,u10,u11]
      (refine ct2 (by simp only[ab5]; omega) (by simp only[aa7,if_true]) ?_; simp only[go_sem,e2,u1,u2,u4,u5,u6,u7,u8,u9,u10,u11,e0,u0,u3]; rw[hall,hok]; exact ad9 _ _)
 ·rintro s o ⟨⟨⟨q1,q2⟩,q3⟩,ps,hps,_,hall⟩ hlt ho;have:ps=[]:=by cases ps with|nil=>rfl|cons _ _=>cases hps
  subst this;rw[hall];simp only[go_sem,e0,q3,List.all_nil];exact ad9 _ _
end Go.Id.Tryz
set_option linter.all false
namespace Go.Id.Tryz
open Go Go.Id Go.Proofs Go.Id.Md
def ah5 {α:Type}(q:α->Bool):List α->Int->Int
 | [],_=>-1
 | e::es,i=>if q e then i else ah5 q es (i+1)
theorem gf8 {α:Type}(q:α->Bool):∀ (l:List α) (i:Nat),decide (0<=ah5 q l i)=l.any q:=by
 intro l
 induction l with
 | nil=>intro i; rfl
 | cons x l ih=>
  intro i;simp only[ah5,List.any_cons];by_cases h:q x=true
  ·simp only[h,if_true,Bool.true_or]; exact decide_eq_true (by omega)
  ·have h':q x=false:=by simpa using h
   have e:=ih (i+1);rw[Int.natCast_add,Int.natCast_one] at e;simp only[h',Bool.false_eq_true,if_false,Bool.false_or];exact e
theorem aq9 {α:Type}(q:α->Bool)(l:List α):decide (0<=ah5 q l 0)=l.any q:=gf8 q l 0
theorem ar6 (d:Dep):d.cs.length=5:=rfl
theorem an2 (d:Dep):d.cs.all IV.leaf=true:=rfl
theorem ao6 (d:Dep):d.cs.take 5=d.cs:=rfl
theorem ab4 (r:aa8):r.cs.all IV.leaf=true:=by rw[aa8.an7]; rfl
theorem ac6 (r:aa8):r.cs.take 7=r.cs:=List.take_of_length_le (by rw[ac1]; exact Nat.le_refl _)
theorem dt4 (s:Str):(bi1 s).length=1:=rfl
theorem ca6 (l:List Dep):Bnd 0 (.aa5 (l.map Dep.cs)):=.aa5 _ fun e he c hc=>by
 obtain ⟨d,_,rfl⟩:=List.mem_map.1 he; exact ds9 d c hc
theorem cq6 (l:List Str):Bnd 0 (.aa5 (l.map bi1)):=.aa5 _ fun e he c hc=>by
 obtain ⟨d,_,rfl⟩:=List.mem_map.1 he; cases hc with|head=>exact .str _|tail _ h=>cases h
theorem aj7 (l:List aa8):Bnd 0 (.aa5 (l.map aa8.cs)):=.aa5 _ fun e he c hc=>by
 obtain ⟨d,_,rfl⟩:=List.mem_map.1 he; exact dt1 d c hc
theorem gf9 (xs:List Dep)(g:Nat)(first cap:List IV)(q:Dep->Bool)(hn:xs.length<2^62)(hok:okF Tryz.prog g=true)
  (hq:∀ x∈xs,PC Tryz.prog EE g (first++[IV.agg (Dep.cs x)]++cap) (.bool (q x))):PC Tryz.prog EE 191 [.aa5 (xs.map Dep.cs),.func (.func g) first cap] (.int .i64 (ah5 q xs 0)):=by
 refine az3 fok191 (nZ rfl) fun σ=>?_
 simp only[ic191,go_sem];refine ab7 noT (fun i fr s=>s=σ/\fr=[(0,.aa5 (xs.map Dep.cs)),(1,.func (.func g) first cap),(7,.int .i64 xs.length),(8,.int .i64 i)]/\ah5 q xs 0=ah5 q (xs.drop i) i) xs.length ⟨rfl,rfl,rfl⟩ ?_;rintro i fr s hi ⟨rfl,rfl,hf⟩;by_cases hlt:i<xs.length
 ·obtain ⟨x,ha,_,hdr,hget,_⟩:=ae2 xs i hlt;have c1:(i:Int)<xs.length:=by omega
  have c2:(0:Int)<=i:=by omega
  have w1:=ad4 (i:=i) (by omega);rw[hdr] at hf;simp only[go_sem,c1,c2,hget,ar6,ao6,an2];refine an1 hok (ej4 (hq x ha)) ?_;rintro v s ⟨rfl,rfl⟩;refine ⟨Nat.le_refl _,?_⟩
  cases hqe:q x with
  | true=>simp only[go_sem,hf,ah5,hqe,and_self]
  | false=>
   simp only[go_sem,w1];exact ⟨hlt,by rw[hf]; simp only[ah5,hqe,Bool.false_eq_true,if_false,Int.natCast_add,Int.natCast_one]⟩
 ·have hi':i=xs.length:=by omega
  subst hi';have c1:¬ (xs.length:Int)<xs.length:=by omega
  rw[List.drop_length] at hf;simp only[go_sem,c1,hf,ah5,and_self]
theorem cx5 (xs:List Dep)(g:Nat)(first cap:List IV)(q:Dep->Bool)(hn:xs.length<2^62)(hok:okF Tryz.prog g=true)
  (hq:∀ x∈xs,PC Tryz.prog EE g (first++[IV.agg (Dep.cs x)]++cap) (.bool (q x))):PC Tryz.prog EE 125 [.aa5 (xs.map Dep.cs),.func (.func g) first cap] (.bool (xs.any q)):=by
 refine az3 fok125 (nZ rfl) fun σ=>?_
 simp only[ic125,go_sem];refine aa4 fok191 (gf9 xs g first cap q hn hok hq) ?_;simp only[go_sem,aq9,and_self]
theorem gg4 (x:Dep)(g:Nat)(first cap:List IV)(b:Bool)(hb:∀ c∈first,Bnd 0 c)(hb2:∀ c∈cap,Bnd 0 c)(hok:okF Tryz.prog g=true)(hq:PC Tryz.prog EE g (first++[IV.agg (Dep.cs x)]++cap) (.bool b)) :
  PC Tryz.prog EE 243 [IV.agg (Dep.cs x),.ab8 [.func (.func g) first cap]] (.bool !b):=by
 refine az3 fok243 (nZ rfl) fun σ=>?_
 simp only[ic243,go_sem,ar6,ao6,an2];refine an1 hok (ej4 hq) ?_;rintro v s ⟨rfl,rfl⟩;refine ⟨Nat.le_refl _,?_⟩;simp only[go_sem,and_self]
theorem ev8 (xs:List Dep)(n:Int)(g:Nat)(first cap:List IV)(p:Dep->Bool)(hn:xs.length<2^62)(hb:∀ c∈first,Bnd 0 c)(hb2:∀ c∈cap,Bnd 0 c)(hok:okF Tryz.prog g=true)
  (hq:∀ x∈xs,PC Tryz.prog EE g (first++[IV.agg (Dep.cs x)]++cap) (.bool (p x))):PC Tryz.prog EE 200 [.aa5 (xs.map Dep.cs),.int .i64 n,.func (.func g) first cap] (.bool (decide ((xs.length:Int)<=n)&&xs.all p)):=by
 refine az3 fok200 (nZ rfl) fun σ=>?_
 by_cases hle:(xs.length:Int)<=n
 ·simp only[ic200,go_sem,hle];refine aa4 fok125 (cx5 xs 243 [] [.ab8 [.func (.func g) first cap]] (fun x=>!p x) hn fok243.1 fun x hx=>gg4 x g first cap (p x) hb hb2 hok (hq x hx)) ?_;have:(!xs.any fun x=>!p x)=xs.all p:=by rw[List.not_any_eq_all_not]; simp
  simp only[go_sem,hle,this,and_self]
 ·simp only[ic200,go_sem,hle,and_self]
theorem gg5 (xs:List Str)(g:Nat)(first cap:List IV)(q:Str->Bool)(hn:xs.length<2^62)(hok:okF Tryz.prog g=true)
  (hq:∀ x∈xs,PC Tryz.prog EE g (first++[IV.str x]++cap) (.bool (q x))):PC Tryz.prog EE 283 [.aa5 (xs.map bi1),.func (.func g) first cap] (.int .i64 (ah5 q xs 0)):=by
 refine az3 fok283 (nZ rfl) fun σ=>?_
 simp only[ic283,go_sem];refine ab7 noT (fun i fr s=>s=σ/\fr=[(0,.aa5 (xs.map bi1)),(1,.func (.func g) first cap),(7,.int .i64 xs.length),(8,.int .i64 i)]/\ah5 q xs 0=ah5 q (xs.drop i) i) xs.length ⟨rfl,rfl,rfl⟩ ?_;rintro i fr s hi ⟨rfl,rfl,hf⟩;by_cases hlt:i<xs.length
 ·obtain ⟨x,ha,_,hdr,hget,_⟩:=ae2 xs i hlt;have c1:(i:Int)<xs.length:=by omega
  have c2:(0:Int)<=i:=by omega
  have w1:=ad4 (i:=i) (by omega);rw[hdr] at hf;simp only[go_sem,c1,c2,hget,dt4,bi1];refine an1 hok (ej4 (hq x ha)) ?_;rintro v s ⟨rfl,rfl⟩;refine ⟨Nat.le_refl _,?_⟩
  cases hqe:q x with
  | true=>simp only[go_sem,hf,ah5,hqe,and_self]
  | false=>
   simp only[go_sem,w1];exact ⟨hlt,by rw[hf]; simp only[ah5,hqe,Bool.false_eq_true,if_false,Int.natCast_add,Int.natCast_one]⟩
 ·have hi':i=xs.length:=by omega
  subst hi';have c1:¬ (xs.length:Int)<xs.length:=by omega
  rw[List.drop_length] at hf;simp only[go_sem,c1,hf,ah5,and_self]
theorem gg6 (xs:List Str)(g:Nat)(first cap:List IV)(q:Str->Bool)(hn:xs.length<2^62)(hok:okF Tryz.prog g=true)
  (hq:∀ x∈xs,PC Tryz.prog EE g (first++[IV.str x]++cap) (.bool (q x))):PC Tryz.prog EE 244 [.aa5 (xs.map bi1),.func (.func g) first cap] (.bool (xs.any q)):=by
 refine az3 fok244 (nZ rfl) fun σ=>?_
 simp only[ic244,go_sem];refine aa4 fok283 (gg5 xs g first cap q hn hok hq) ?_;simp only[go_sem,aq9,and_self]
theorem gg7 (x:Str)(g:Nat)(first cap:List IV)(b:Bool)(hb:∀ c∈first,Bnd 0 c)(hb2:∀ c∈cap,Bnd 0 c)(hok:okF Tryz.prog g=true)(hq:PC Tryz.prog EE g (first++[IV.str x]++cap) (.bool b)) :
  PC Tryz.prog EE 245 [IV.str x,.ab8 [.func (.func g) first cap]] (.bool !b):=by
 refine az3 fok245 (nZ rfl) fun σ=>?_
 simp only[ic245,go_sem,dt4,bi1];refine an1 hok (ej4 hq) ?_;rintro v s ⟨rfl,rfl⟩;refine ⟨Nat.le_refl _,?_⟩;simp only[go_sem,and_self]
theorem gz9 (xs:List Str)(n:Int)(g:Nat)(first cap:List IV)(p:Str->Bool)(hn:xs.length<2^62)(hb:∀ c∈first,Bnd 0 c)(hb2:∀ c∈cap,Bnd 0 c)(hok:okF Tryz.prog g=true)
  (hq:∀ x∈xs,PC Tryz.prog EE g (first++[IV.str x]++cap) (.bool (p x))):PC Tryz.prog EE 201 [.aa5 (xs.map bi1),.int .i64 n,.func (.func g) first cap] (.bool (decide ((xs.length:Int)<=n)&&xs.all p)):=by
 refine az3 fok201 (nZ rfl) fun σ=>?_
 by_cases hle:(xs.length:Int)<=n
 ·simp only[ic201,go_sem,hle];refine aa4 fok244 (gg6 xs 245 [] [.ab8 [.func (.func g) first cap]] (fun x=>!p x) hn fok245.1 fun x hx=>gg7 x g first cap (p x) hb hb2 hok (hq x hx)) ?_;have:(!xs.any fun x=>!p x)=xs.all p:=by rw[List.not_any_eq_all_not]; simp
  simp only[go_sem,hle,this,and_self]
 ·simp only[ic201,go_sem,hle,and_self]
theorem fo7 (xs:List aa8)(g:Nat)(first cap:List IV)(q:aa8->Bool)(hn:xs.length<2^62)(hok:okF Tryz.prog g=true)
  (hq:∀ x∈xs,PC Tryz.prog EE g (first++[IV.agg (aa8.cs x)]++cap) (.bool (q x))):PC Tryz.prog EE 284 [.aa5 (xs.map aa8.cs),.func (.func g) first cap] (.int .i64 (ah5 q xs 0)):=by
 refine az3 fok284 (nZ rfl) fun σ=>?_
 simp only[ic284,go_sem];refine ab7 noT (fun i fr s=>s=σ/\fr=[(0,.aa5 (xs.map aa8.cs)),(1,.func (.func g) first cap),(7,.int .i64 xs.length),(8,.int .i64 i)]/\ah5 q xs 0=ah5 q (xs.drop i) i) xs.length ⟨rfl,rfl,rfl⟩ ?_;rintro i fr s hi ⟨rfl,rfl,hf⟩;by_cases hlt:i<xs.length
 ·obtain ⟨x,ha,_,hdr,hget,_⟩:=ae2 xs i hlt;have c1:(i:Int)<xs.length:=by omega
  have c2:(0:Int)<=i:=by omega
  have w1:=ad4 (i:=i) (by omega);rw[hdr] at hf;simp only[go_sem,c1,c2,hget,ac1,ac6,ab4];refine an1 hok (ej4 (hq x ha)) ?_;rintro v s ⟨rfl,rfl⟩;refine ⟨Nat.le_refl _,?_⟩
  cases hqe:q x with
  | true=>simp only[go_sem,hf,ah5,hqe,and_self]
  | false=>
   simp only[go_sem,w1];exact ⟨hlt,by rw[hf]; simp only[ah5,hqe,Bool.false_eq_true,if_false,Int.natCast_add,Int.natCast_one]⟩
 ·have hi':i=xs.length:=by omega
  subst hi';have c1:¬ (xs.length:Int)<xs.length:=by omega
  rw[List.drop_length] at hf;simp only[go_sem,c1,hf,ah5,and_self]
theorem ck9 (xs:List aa8)(g:Nat)(first cap:List IV)(q:aa8->Bool)(hn:xs.length<2^62)(hok:okF Tryz.prog g=true)
  (hq:∀ x∈xs,PC Tryz.prog EE g (first++[IV.agg (aa8.cs x)]++cap) (.bool (q x))):PC Tryz.prog EE 247 [.aa5 (xs.map aa8.cs),.func (.func g) first cap] (.bool (xs.any q)):=by
 refine az3 fok247 (nZ rfl) fun σ=>?_
 simp only[ic247,go_sem];refine aa4 fok284 (fo7 xs g first cap q hn hok hq) ?_;simp only[go_sem,aq9,and_self]
theorem fo8 (x:aa8)(g:Nat)(first cap:List IV)(b:Bool)(hb:∀ c∈first,Bnd 0 c)(hb2:∀ c∈cap,Bnd 0 c)(hok:okF Tryz.prog g=true)(hq:PC Tryz.prog EE g (first++[IV.agg (aa8.cs x)]++cap) (.bool b)) :
  PC Tryz.prog EE 248 [IV.agg (aa8.cs x),.ab8 [.func (.func g) first cap]] (.bool !b):=by
 refine az3 fok248 (nZ rfl) fun σ=>?_
 simp only[ic248,go_sem,ac1,ac6,ab4];refine an1 hok (ej4 hq) ?_;rintro v s ⟨rfl,rfl⟩;refine ⟨Nat.le_refl _,?_⟩;simp only[go_sem,and_self]
theorem gg8 (xs:List aa8)(n:Int)(g:Nat)(first cap:List IV)(p:aa8->Bool)(hn:xs.length<2^62)(hb:∀ c∈first,Bnd 0 c)(hb2:∀ c∈cap,Bnd 0 c)(hok:okF Tryz.prog g=true)
  (hq:∀ x∈xs,PC Tryz.prog EE g (first++[IV.agg (aa8.cs x)]++cap) (.bool (p x))):PC Tryz.prog EE 203 [.aa5 (xs.map aa8.cs),.int .i64 n,.func (.func g) first cap] (.bool (decide ((xs.length:Int)<=n)&&xs.all p)):=by
 refine az3 fok203 (nZ rfl) fun σ=>?_
 by_cases hle:(xs.length:Int)<=n
 ·simp only[ic203,go_sem,hle];refine aa4 fok247 (ck9 xs 248 [] [.ab8 [.func (.func g) first cap]] (fun x=>!p x) hn fok248.1 fun x hx=>fo8 x g first cap (p x) hb hb2 hok (hq x hx)) ?_;have:(!xs.any fun x=>!p x)=xs.all p:=by rw[List.not_any_eq_all_not]; simp
  simp only[go_sem,hle,this,and_self]
 ·simp only[ic203,go_sem,hle,and_self]
def ev9 (x:Int×List aa8):List IV:=[.int .u8 x.1,ai9 x.2]
def gg9 (p:aa3):List (List IV):=p.rows.map ev9
theorem az5 (p:aa3):∀ c∈p.cs,Bnd 0 c:=by
 intro c hc;simp only[aa3.cs,List.mem_cons,List.not_mem_nil,or_false] at hc;rcases hc with rfl|rfl|rfl|rfl|rfl|rfl|rfl|rfl|rfl|rfl|rfl|rfl|rfl|rfl|rfl<;>first|exact .str _|exact .int _ _|exact ca6 _|exact aj7 _|exact cq6 _
theorem an3 (p:aa3):Bnd 0 (.agg p.cs):=.agg _ (az5 p)
theorem ag9 (p:aa3):p.cs.length=15:=rfl
theorem ah2 (p:aa3):p.cs.take 15=p.cs:=rfl
theorem ad1 (p:aa3):p.cs.all IV.leaf=true:=rfl
theorem ha5 (p:aa3):PC Tryz.prog EE 202 [.agg p.cs] (.func (.func 246) [] [.ab8 p.cs]):=by
 refine az3 fok202 (nZ rfl) fun σ=>?_
 simp only[ic202,go_sem,ad1,and_self]
theorem fo9 (p:aa3):er9 Tryz.prog EE (.func (.func 246) [] [.ab8 p.cs]) (gg9 p) (fun _=>True):=by
 intro yid I S σ hown hstab hy hi;refine ⟨fok246.1,?_⟩;refine C_f fok246 (nZ rfl) ?_;simp only[ic246,go_sem,aa3.cs];simp only[gg9,aa3.rows,List.map_cons,List.map_nil,ev9] at hi;have stop:∀ s,σ.next<=s.next->S s->iq8 σ.next I S (.tuple []) s:=fun s hn hs=>⟨hn,.inr hs⟩
 refine cn6 hy hi (fun s1 n1 i1=>?_) (fun s1 n1 h1=>by simp only[go_sem]; exact stop _ n1 h1);simp only[go_sem];refine cn6 hy i1 (fun s2 n2 i2=>?_) (fun s2 n2 h2=>by simp only[go_sem]; exact stop _ (by omega) h2);simp only[go_sem];refine cn6 hy i2 (fun s3 n3 i3=>?_) (fun s3 n3 h3=>by simp only[go_sem]; exact stop _ (by omega) h3);simp only[go_sem];refine cn6 hy i3 (fun s4 n4 i4=>?_) (fun s4 n4 h4=>by simp only[go_sem]; exact stop _ (by omega) h4);simp only[go_sem];refine cn6 hy i4 (fun s5 n5 i5=>?_) (fun s5 n5 h5=>by simp only[go_sem]; exact stop _ (by omega) h5);simp only[go_sem];refine cn6 hy i5 (fun s6 n6 i6=>?_) (fun s6 n6 h6=>by simp only[go_sem]; exact stop _ (by omega) h6);simp only[go_sem];exact ⟨by omega,.inl i6⟩
theorem ig9 (r:aa8)(wh:Int)(hf:r.fit)(hc:r.count<2^62):PC Tryz.prog EE 204 [.agg r.cs,.ab8 [.int .u8 wh]] (.bool (decide (ar5 r wh=0))):=by
 refine az3 fok204 (nZ rfl) fun σ=>?_
 simp only[ic204,go_sem,ac1,ac6,ab4];refine aa4 fok205 (en3 r wh hf hc) ?_;simp only[go_sem,and_self]
theorem ha6 (l:List aa8)(wh:Int)(hn:l.length<2^62)(hf:∀ r∈l,r.fit/\r.count<2^31):PC Tryz.prog EE 203 [ai9 l,.int .i64 32,.func (.func 204) [] [.ab8 [.int .u8 wh]]] (.bool (ad2 l wh)):=by
 have h:=gg8 l 32 204 [] [.ab8 [.int .u8 wh]] (fun r=>decide (ar5 r wh=0)) hn (fun c hc=>by cases hc) (ae1 (.ab8 _ (ae1 (.int _ _)))) fok204.1 fun x hx=>ig9 x wh (hf x hx).1 (by have:=(hf x hx).2; omega)
 have e:decide ((l.length:Int)<=32)=decide (l.length<=32):=decide_eq_decide.2 (by omega);rw[e] at h;exact h
theorem gh1 {σ:Store}{f id:Nat}{cs:List IV}(ho:σ.obj id=some (.cells cs))(hb:∀ c∈cs,Bnd 0 c):bt7 σ 0 (.func (.func f) [] [.ptr id 0]) (.func (.func f) [] [.ab8 cs]):=by
 refine .func _ [] [] _ _ rfl rfl (fun i hi=>absurd hi (Nat.not_lt_zero _)) (fun i hi=>?_)
 match i,hi with
 | 0,_=>
  refine .ptr id 0 cs cs (Nat.not_lt_zero _) (.inl ho) (by omega) (fun j hj=>?_);rw[Nat.zero_add];exact .keep _ (hb _ (ac9 _ hj))
theorem cx6 {l:List Str}{i:Nat}{f:Str}(h0:0<i)(h:l.drop i=f::l.drop (i+1)):∃ a,l[i-1]? = some a/\rising (l.drop (i-1))=(Op.bytesLess a f&&rising (l.drop i)):=by
 have hlt:i<l.length:=by
  rcases Nat.lt_or_ge i l.length with h1|h1
  ·exact h1
  ·rw[List.drop_of_length_le h1] at h; cases h
 have h2:i-1<l.length:=by omega
 refine ⟨l[i-1],List.getElem?_eq_getElem h2,?_⟩;rw[List.drop_eq_getElem_cons h2,show i-1+1=i from by omega,h];rfl
theorem gh2 (p:aa3)(hf:p.Fit):PC Tryz.prog EE 134 [.agg p.cs] (.bool (ag2 p)):=by
 refine ae9 hE fok134 (nZ rfl) (ae1 (an3 _)) ?_;simp only[ic134,go_sem,ad1,aa3.cs];refine aa4 fok145 (ck7 p.name hf.name) ?_
 cases h1:ar3 p.name with
 | false=>simp only[go_sem,ag2,h1]; exact ab3 _
 | true=>
 simp only[go_sem];refine aa4 fok147 (ck8 p.name hf.name) ?_
 cases h2:aw7 p.name with
 | true=>simp only[go_sem,ag2,h1,h2]; exact ab3 _
 | false=>
 simp only[go_sem];refine aa4 (v:=.bool (bd7 p.evr false)) fok148 (ec8 p.evr false hf.evr.1 hf.evr.2) ?_
 cases h3:bd7 p.evr false with
 | false=>simp only[go_sem,ag2,h1,h2,h3]; exact ab3 _
 | true=>
 simp only[go_sem];refine aa4 fok199 (em9 p.au2) ?_;have h4':=bj4 p.au2
 cases h4:an8 p.au2 with
 | false=>
  rw[h4] at h4'
  simp only[go_sem,h4',ag2,h1,h2,h3,h4]; exact ab3 _
 | true=>
 rw[h4] at h4';simp only[go_sem,h4'];by_cases h5:p.vendor.length<=64
 case neg=>
  have h5':(64:Int)<p.vendor.length:=by omega
  simp only[go_sem,h5',ag2,h1,h2,h3,h4,h5]; exact ab3 _
 have h5':¬ (64:Int)<p.vendor.length:=by omega
 simp only[go_sem,h5'];have e32:∀ n:Nat,decide ((n:Int)<=32)=decide (n<=32):=fun n=>decide_eq_decide.2 (by omega)
 have hp6:=ev8 p.provides 32 84 [] [] ah9 (by have:=hf.av9.1; omega) (fun c hc=>by cases hc) (fun c hc=>by cases hc) fok84.1 fun x hx=>bo2 x (hf.av9.2 x hx).1 (hf.av9.2 x hx).2.1 (hf.av9.2 x hx).2.2
 have hp7:=ev8 p.aa9 32 84 [] [] ah9 (by have:=hf.obs.1; omega) (fun c hc=>by cases hc) (fun c hc=>by cases hc) fok84.1 fun x hx=>bo2 x (hf.obs.2 x hx).1 (hf.obs.2 x hx).2.1 (hf.obs.2 x hx).2.2
 have hp8:=gz9 p.files 32 147 [] [] aw7 (by have:=hf.files.1; omega) (fun c hc=>by cases hc) (fun c hc=>by cases hc) fok147.1 fun x hx=>ck8 x (hf.files.2 x hx)
 rw[e32] at hp6 hp7 hp8;refine aa4 fok200 hp6 ?_
 cases h6:(decide (p.provides.length<=32)&&p.provides.all ah9) with
 | false=>simp only[go_sem,ag2,h1,h2,h3,h4,h5,h6]; exact ab3 _
 | true=>
 simp only[go_sem];refine aa4 fok200 hp7 ?_
 cases h7:(decide (p.aa9.length<=32)&&p.aa9.all ah9) with
 | false=>simp only[go_sem,ag2,h1,h2,h3,h4,h5,h6,h7]; exact ab3 _
 | true=>
 simp only[go_sem];refine aa4 fok201 hp8 ?_
 cases h8:(decide (p.files.length<=32)&&p.files.all aw7) with
 | false=>simp only[go_sem,ag2,h1,h2,h3,h4,h5,h6,h7,h8]; exact ab3 _
 | true=>
 have hmay:ag2 p=(rising p.files&&p.rows.all fun x=>ad2 x.2 x.1):=by
  simp only[ag2,h1,h2,h3,h4,h5,h6,h7,h8,aa3.rows,List.all_cons,List.all_nil,decide_true,Bool.not_false,Bool.and_true,Bool.true_and,Bool.and_assoc]
 simp only[go_sem];rw[hmay];refine ab7 noT (fun i fr s=>fr=[(1,.ab8 p.cs),(2,.ptr 0 0),(52,strs p.files),(53,.int .i64 p.files.length),(54,.int .i64 i)]/\(s.obj 0=some (.cells [.bool false])/\0<s.next)/\rising p.files=rising (p.files.drop (i-1))) p.files.length ⟨rfl,⟨?_,?_⟩,rfl⟩ ?_
 ·simp only[aa7,if_true]
 ·exact Nat.zero_lt_one
 rintro i fr s hi ⟨rfl,⟨q1,q2⟩,hr⟩;by_cases hlt:i<p.files.length
 ·obtain ⟨f,ha,hfi,hdr,hget,_⟩:=ae2 p.files i hlt;have c1:(i:Int)<p.files.length:=by omega
  have c2:(0:Int)<=i:=by omega
  have w1:=ad4 (i:=i) (by have:=hf.files.1; omega);by_cases h0:0<i
  ·have c0:(0:Int)<i:=by omega
   obtain ⟨a,ha1,ha2⟩:=cx6 h0 hdr;have hget':(p.files.map bi1).getD (i-1) []=bi1 a:=by simp[List.getD_eq_getElem?_getD,ha1]
   have w0:IntKind.i64.wrap ((i:Int)-1)=((i-1:Nat):Int):=by
    have:=hf.files.1;rw[wrap64 (by omega) (by omega)]; omega
   have c3:(0:Int)<=((i-1:Nat):Int):=by omega
   have c4:((i-1:Nat):Int)<p.files.length:=by omega
   rw[ha2] at hr;simp only[go_sem,c0,c1,c2,c3,c4,w0,w1,hget,hget',bi1,aa3.cs]
   cases hb:Op.bytesLess a f with
   | true=>
    rw[hb,Bool.true_and] at hr;simp only[go_sem,w1]
    exact ⟨hlt,⟨q1,q2⟩,hr⟩
   | false=>
    rw[hb,Bool.false_and] at hr;simp only[go_sem,q1,hr];exact ab3 _
  ·have c0:¬ (0:Int)<i:=by omega
   simp only[go_sem,c0,c1,c2,w1,hget,bi1];refine ⟨hlt,⟨q1,q2⟩,?_⟩;have:i=0:=by omega
   subst this; exact hr
 ·have hi':i=p.files.length:=by omega
  subst hi';have c1:¬ (p.files.length:Int)<p.files.length:=by omega
  have hrt:rising p.files=true:=by
   rw[hr]
   cases hl:p.files.drop (p.files.length-1) with
   | nil=>rfl
   | cons x l=>
    have h1:=congrArg List.length hl;rw[List.length_drop,List.length_cons] at h1;have h2:l=[]:=List.length_eq_zero_iff.1 (by omega);rw[h2]; rfl
  rw[hrt,Bool.true_and];simp only[go_sem,c1,ag9,ah2];refine aa4 fok202 (ha5 p) ?_;simp only[go_sem];have e0:¬ 0=s.next:=by omega
  have e1:¬ s.next=0:=by omega
  refine dp2 (fo9 p) (fun rest s=>(0<s.next/\s.obj 0=some (.cells [.bool false]))/\∃ ts:List (Int×List aa8),rest=ts.map ev9/\(∀ x∈ts,x∈p.rows)/\(p.rows.all fun x:Int×List aa8=>ad2 x.2 x.1)=ts.all fun x:Int×List aa8=>ad2 x.2 x.1) (fun _ _ h=>trivial) ?_ ?_ ?_ ?_ ?_
  ·rintro rest s s' ⟨⟨q1,q2⟩,q4⟩ hn' hs';exact ⟨⟨by omega,by rw[hs' 0 q1]; exact q2⟩,q4⟩
  ·intro a ha;obtain ⟨x,_,rfl⟩:=List.mem_map.1 ha;rfl
  ·intro o;exact ⟨⟨by show 0<s.next+1; omega,by simp only[aa7,e0,if_false]; exact q1⟩,_,rfl,fun x hx=>hx,rfl⟩
  ·rintro L pre a rest t hev ⟨⟨q3,q4⟩,ts,hts,hin,hall⟩ hL hlt
   cases ts with
   | nil=>cases hts
   | cons x ts=>
    simp only[List.map_cons,List.cons.injEq] at hts;obtain ⟨rfl,rfl⟩:=hts;obtain ⟨wh,l⟩:=x;simp only[List.all_cons] at hall;have hfx:=hf.rich _ (hin _ (List.mem_cons_self ..));have hin':∀ y∈ts,y∈p.rows:=fun y hy=>hin y (List.mem_cons_of_mem _ hy)
    have u0:¬ 0=t.next:=by omega
    have u1:¬ s.next=t.next:=by omega
    have u2:¬ t.next=s.next:=by omega
    have u3:¬ t.next=0:=by omega
    simp only[ev9,go_sem,hL,q4,e0,e1,u0,u1,u2,u3];refine af1 fok203 (bf2 (args':=[ai9 l,.int .i64 32,.func (.func 204) [] [.ab8 [.int .u8 wh]]]) hE rfl ?_ (by unfold IV.plain; rfl) (ha6 l wh (Nat.lt_of_lt_of_le hfx.1 (by decide)) hfx.2)) ?_
    ·intro i hi
     match i,hi with
     | 0,_=>exact .keep _ (aj7 l)
     | 1,_=>exact .keep _ (.int _ _)
     | 2,_=>exact gh1 (by simp only[aa7,u2,if_false,if_true]) (ae1 (.int _ _))
    ·rintro v s2 ⟨rfl,rfl⟩;refine ⟨Nat.le_refl _,?_⟩
     cases hok:ad2 l wh with
     | true=>
      simp only[go_sem]
      refine eh8 (by simp only[ab5]; omega) (by simp only[aa7,if_true]) ⟨⟨by simp only[ab5]; omega,by simp only[aa7,e0,u0,if_false]; exact q4⟩,ts,rfl,hin',by rw[hall,hok,Bool.true_and]⟩
     | false=>
      simp only[go_sem,q4,e0,e1,u0,u1,u2,u3];refine ct2 (by simp only[ab5]; omega) (by simp only[aa7,if_true]) ?_;simp only[go_sem,e0,u0];rw[hall,hok]; exact ab3 _
  ·rintro t o ⟨⟨q3,q4⟩,ts,hts,_,hall⟩ hlt ho;have:ts=[]:=by cases ts with|nil=>rfl|cons _ _=>cases hts
   subst this;rw[hall];simp only[go_sem,e0,q4,List.all_nil];exact ab3 _
end Go.Id.Tryz
