/- Names,versions,architectures,operators: what the program tells of them. Conditions: none. -/
import Derived.Test.YtiallonafbejaaaGreatDoorGUT
import Derived.Test.YtiallonafbejaaaGreatDoorT6
import Derived.Test.YtiallonafbejaaaGreatDoorMd
set_option linter.all false
namespace Go.Id.Tryz
open Go Go.Id Go.Proofs Go.Id.Md
def envL:List (Nat×List IV):=[(0,words.map .str),(1,[.tmap opsL]),(2,[.str [],.int .i64 0,.str [],.int .i64 0,.str [97,110,100],.int .i64 24,.str [111,114],.int .i64 24,.str [105,102],.int .i64 3,.str [117,110,108,101,115,115],.int .i64 3,.str [119,105,116,104],.int .i64 24,.str [119,105,116,104,111,117,116],.int .i64 2])]
abbrev EE:Nat→IV:=es6 envL
theorem hE:∀ g,Bnd 0 (EE g):=go3 (by kernel_rfl)
theorem E0:EE 0=.tptr [.str [97,110,100],.str [111,114],.str [105,102],.str [101,108,115,101],.str [117,110,108,101,115,115],.str [119,105,116,104],.str [119,105,116,104,111,117,116]]:=rfl
theorem E1:EE 1=.tptr [.tmap opsL]:=rfl
theorem da4 (s:Str)(b:UInt8):PC Tryz.prog EE 299 [.str s,.int .u8 b.toNat] (.int .i64 (dn5 b.toNat s 0)):=by
 refine ak4 fok299 (Nat.le_of_ble_eq_true rfl) fun σ=>?_
 have h1:(0:Int)≤b.toNat:=by omega
 have h2:(b.toNat:Int)<256:=by have:=b.toNat_lt; omega
 simp only[ic299,go_sem,h1,h2,Int.toNat_natCast,and_self]
theorem aq1 (s:Str)(b:UInt8):PC Tryz.prog EE 254 [.str s,.int .u8 b.toNat] (.int .i64 (dn5 b.toNat s 0)):=by
 refine ak4 fok254 (Nat.le_of_ble_eq_true rfl) fun σ=>?_
 simp only[ic254,go_sem]
 refine aa1 fok299 (da4 s b) ?_
 simp only[go_sem,and_self]
theorem da5 (s t:Str):PC Tryz.prog EE 300 [.str s,.str t] (.bool (decide (t.length≤s.length)&&decide (s.take t.length=t))):=by
 refine ak4 fok300 (Nat.le_of_ble_eq_true rfl) fun σ=>?_
 by_cases h:t.length≤s.length
 ·have h1:(t.length:Int)≤s.length:=by omega
  have h2:(0:Int)≤t.length:=by omega
  simp only[ic300,go_sem,h,h1,ck7,ce6,dd4,h2,Int.toNat_natCast,Nat.zero_le,and_self,List.drop_zero,Bool.true_and,ds2,ds4,Option.map]
 ·have h1:¬ (t.length:Int)≤s.length:=by omega
  simp only[ic300,go_sem,h,h1,Bool.false_and,and_self]
theorem di6 (s t:Str):PC Tryz.prog EE 255 [.str s,.str t] (.bool (decide (t.length≤s.length)&&decide (s.take t.length=t))):=by
 refine ak4 fok255 (Nat.le_of_ble_eq_true rfl) fun σ=>?_
 simp only[ic255,go_sem]
 refine aa1 fok300 (da5 s t) ?_
 simp only[go_sem,and_self]
theorem an1 (a:Int):PC Tryz.prog EE 169 [.int .u8 a] (.bool (ak5 a)):=by
 refine ak4 fok169 (Nat.le_of_ble_eq_true rfl) fun σ=>?_
 by_cases h:1≤a
 ·simp only[ic169,go_sem,ak5,h,Bool.true_and,and_self]
 ·simp only[ic169,go_sem,ak5,h,Bool.false_and,and_self]
def cu9:List IV:=[.str [],.str [110,111,97,114,99,104],.str [120,56,54,95,54,52],.str [105,54,56,54],.str [97,97,114,99,104,54,52]]
theorem di7:PC Tryz.prog EE 257 [] (.agg cu9):=by
 refine ae9 hE fok257 (Nat.le_of_ble_eq_true rfl) (fun a h=>by cases h) ?_
 simp only[ic257,go_sem]
 exact .keep _ (ao3 10 _ (by kernel_rfl))
def bo9 (a:Int):Str:=if a=1 then [110,111,97,114,99,104] else if a=2 then [120,56,54,95,54,52] else if a=3 then [105,54,56,54] else if a=4 then [97,97,114,99,104,54,52] else []
theorem bp1 (a:Int):decide (bo9 a=[])=!ak5 a:=by
 unfold bo9 ak5
 repeat' split
 all_goals first|(subst_vars; rfl)|skip
 have:¬ (1≤a∧a≤4):=by omega
 have h:(decide (1≤a)&&decide (a≤4))=false:=by simpa using this
 rw[h]; rfl
theorem dt2 (a:Int):PC Tryz.prog EE 207 [.int .u8 a] (.str (bo9 a)):=by
 refine ak4 fok207 (Nat.le_of_ble_eq_true rfl) fun σ=>?_
 simp only[ic207,go_sem]
 refine aa1 fok169 (an1 a) ?_
 simp only[go_sem]
 cases h:ak5 a with
 | false=>
  have h1:=bp1 a
  rw[h] at h1
  have h2:bo9 a=[]:=by simpa using h1
  simp only[go_sem,h2,and_self]
 | true=>
  have h1:1≤a∧a≤4:=by simpa [ak5] using h
  simp only[go_sem]
  refine aa1 fok257 di7 ?_
  have h2:a=1∨a=2∨a=3∨a=4:=by omega
  rcases h2 with rfl|rfl|rfl|rfl<;>(simp only[go_sem,cu9]; first|rfl|exact ⟨rfl,rfl⟩)
theorem ea4 (c:UInt8):∀ (l:Str) (i:Nat),decide (0≤dn5 c.toNat l i)=l.contains c:=by
 intro l
 induction l with
 | nil=>intro i; rfl
 | cons b l ih=>
  intro i
  simp only[dn5,List.contains_cons]
  split
  ·rename_i h
   have:c=b:=(UInt8.toNat_inj.1 h).symm
   subst this
   simp
  ·rename_i h
   have:(c==b)=false:=by simp only[beq_eq_false_iff_ne,ne_eq]; intro e; subst e; exact h rfl
   rw[this,Bool.false_or]
   exact ih (i+1)
theorem ea5 {p:UInt8→Bool}{s:Str}{i:Nat}(h:i<s.length):(s.take (i+1)).all p=((s.take i).all p&&p s[i]):=by
 rw[List.take_add_one,List.getElem?_eq_getElem h]
 simp only[Option.toList,List.all_append,List.all_cons,List.all_nil,Bool.and_true]
theorem bp2 {p:UInt8→Bool}{s:Str}{i:Nat}(h:i<s.length)(hp:p s[i]=false):s.all p=false:=by
 rw[List.all_eq_false]
 exact ⟨s[i],List.getElem_mem h,by simp[hp]⟩
theorem cv2 (s:Str)(hs:s.length<2^62):PC Tryz.prog EE 256 [.str s] (.bool (az1 s)):=by
 refine ak4 fok256 (Nat.le_of_ble_eq_true rfl) fun σ=>?_
 by_cases h0:s=[]
 ·subst h0
  simp only[ic256,go_sem]
  rfl
 have hl:1≤s.length:=by cases s with|nil=>exact absurd rfl h0|cons _ _=>simp
 by_cases h1:s.length≤64
 ·have h1':¬ (64:Int)<s.length:=by omega
  simp only[ic256,go_sem,h0,h1']
  refine aa9 noT (fun i fr s'=>s'=σ∧fr=[(0,.str s),(13,.int .i64 s.length),(14,.int .i64 i)]∧(s.take i).all cc1=true) s.length ⟨rfl,rfl,rfl⟩ ?_
  rintro i fr s' hi ⟨rfl,rfl,ha⟩
  by_cases hlt:i<s.length
  ·have c1:(i:Int)<s.length:=by omega
   have c2:(0:Int)≤i:=by omega
   simp only[go_sem,c1,c2,List.getElem?_eq_getElem hlt]
   have fin:cc1 s[i]=false→az1 s=false:=fun h=>by simp only[az1,bp2 hlt h,Bool.and_false]
   have step:cc1 s[i]=true→(s.take (i+1)).all cc1=true:=fun h=>by rw[ea5 hlt,ha,h]; rfl
   have w1:=ad5 (i:=i) (by omega)
   have hv:cc1 s[i]=(decide ((97:Int)≤s[i].toNat)&&decide ((s[i].toNat:Int)≤122)||decide ((65:Int)≤s[i].toNat)&&decide ((s[i].toNat:Int)≤90)||decide ((48:Int)≤s[i].toNat)&&decide ((s[i].toNat:Int)≤57) || [46,95,43,126,94].contains s[i]):=by
    simp only[cc1,fh2]
    congr 1
    congr 1
    ·congr 1<;>congr 1<;>(apply decide_eq_decide.2; omega)
    ·congr 1<;>(apply decide_eq_decide.2; omega)
   generalize s[i]=b at *
   have last:∀ (k1:¬ ((97:Int)≤b.toNat∧(b.toNat:Int)≤122)) (k2:¬ ((65:Int)≤b.toNat∧(b.toNat:Int)≤90)) (k3:¬ ((48:Int)≤b.toNat∧(b.toNat:Int)≤57)),cc1 b=decide (0≤dn5 b.toNat [46,95,43,126,94] 0):=fun k1 k2 k3=>by
    rw[ea4,hv]
    simp only[← Bool.decide_and,decide_eq_false k1,decide_eq_false k2,decide_eq_false k3,Bool.false_or]
   by_cases k1:(97:Int)≤b.toNat
   ·by_cases k2:(b.toNat:Int)≤122
    ·simp only[go_sem,k1,k2,w1]
     exact ⟨hlt,step (by rw[hv]; simp only[k1,k2,go_sem])⟩
    ·have k3:(65:Int)≤b.toNat:=by omega
     have k4:¬ (b.toNat:Int)≤90:=by omega
     have k5:(48:Int)≤b.toNat:=by omega
     have k6:¬ (b.toNat:Int)≤57:=by omega
     simp only[go_sem,k1,k2,k3,k4,k5,k6]
     refine aa1 fok254 (aq1 _ b) ?_
     have hl:=last (by omega) (by omega) (by omega)
     simp only[go_sem,ge_iff_le,← hl]
     cases hb:cc1 b with
     | true=>simp only[go_sem,w1]; exact ⟨hlt,step hb⟩
     | false=>simp only[go_sem,fin hb,and_self]
   ·by_cases k3:(65:Int)≤b.toNat
    ·by_cases k4:(b.toNat:Int)≤90
     ·simp only[go_sem,k1,k3,k4,w1]
      exact ⟨hlt,step (by rw[hv]; simp only[k1,k3,k4,go_sem])⟩
     ·have k5:(48:Int)≤b.toNat:=by omega
      have k6:¬ (b.toNat:Int)≤57:=by omega
      simp only[go_sem,k1,k3,k4,k5,k6]
      refine aa1 fok254 (aq1 _ b) ?_
      have hl:=last (by omega) (by omega) (by omega)
      simp only[go_sem,ge_iff_le,← hl]
      cases hb:cc1 b with
      | true=>simp only[go_sem,w1]; exact ⟨hlt,step hb⟩
      | false=>simp only[go_sem,fin hb,and_self]
    ·by_cases k5:(48:Int)≤b.toNat
     ·by_cases k6:(b.toNat:Int)≤57
      ·simp only[go_sem,k1,k3,k5,k6,w1]
       exact ⟨hlt,step (by rw[hv]; simp only[k1,k3,k5,k6,go_sem])⟩
      ·simp only[go_sem,k1,k3,k5,k6]
       refine aa1 fok254 (aq1 _ b) ?_
       have hl:=last (by omega) (by omega) (by omega)
       simp only[go_sem,ge_iff_le,← hl]
       cases hb:cc1 b with
       | true=>simp only[go_sem,w1]; exact ⟨hlt,step hb⟩
       | false=>simp only[go_sem,fin hb,and_self]
     ·simp only[go_sem,k1,k3,k5]
      refine aa1 fok254 (aq1 _ b) ?_
      have hl:=last (by omega) (by omega) (by omega)
      simp only[go_sem,ge_iff_le,← hl]
      cases hb:cc1 b with
      | true=>simp only[go_sem,w1]; exact ⟨hlt,step hb⟩
      | false=>simp only[go_sem,fin hb,and_self]
  ·have hi':i=s.length:=by omega
   have c1:¬ (i:Int)<s.length:=by omega
   simp only[go_sem,c1]
   subst hi'
   rw[List.take_length] at ha
   simp only[az1,ha,go_sem,hl,h1,and_self]
 ·have h1':(64:Int)<s.length:=by omega
  simp only[ic256,go_sem,h0,h1',az1,h1,Bool.and_false,Bool.false_and,and_self]
theorem di8 (e:EVR)(dep:Bool)(h1:e.ver.length<2^62)(h2:e.rel.length<2^62):PC Tryz.prog EE 206 [.agg e.cs,.bool dep] (.bool (az2 e dep)):=by
 obtain ⟨ep,ver,rel⟩:=e
 refine ak4 fok206 (Nat.le_of_ble_eq_true rfl) fun σ=>?_
 have hw:=cv2 ver h1
 have hw':=cv2 rel h2
 by_cases a1:(0:Int)≤ep
 ·by_cases a2:ep≤2147483647
  ·simp only[ic206,go_sem,EVR.cs,az2,a1,a2]
   refine aa1 fok256 hw ?_
   simp only[go_sem]
   cases hv:az1 ver with
   | false=>simp only[go_sem,and_self]
   | true=>
    simp only[go_sem]
    refine aa1 fok256 hw' ?_
    simp only[go_sem]
    cases hr:az1 rel with
    | true=>simp only[go_sem,and_self]
    | false=>
     cases dep with
     | true=>
      simp only[go_sem]
      cases rel<;>first|rfl|exact ⟨rfl,rfl⟩
     | false=>simp only[go_sem,and_self]
  ·simp only[ic206,go_sem,EVR.cs,az2,a1,a2,and_self]
 ·simp only[ic206,go_sem,EVR.cs,az2,a1,and_self]
theorem dt3 (n:Int):PC Tryz.prog EE 280 [.int .u8 n] (.str (dt1 n)):=by
 obtain ⟨_,pf,an,h⟩:=fok280
 exact go9 (g:=1) h E1
theorem fy3 (n:Int):er4 n=(decide (n=0) || !decide (dt1 n=[])):=by
 unfold er4 dt1
 by_cases h0:n=0
 ·subst h0; rfl
 by_cases h1:n=1
 ·subst h1; rfl
 by_cases h2:n=2
 ·subst h2; rfl
 by_cases h3:n=3
 ·subst h3; rfl
 by_cases h4:n=4
 ·subst h4; rfl
 by_cases h6:n=6
 ·subst h6; rfl
 simp[h0,h1,h2,h3,h4,h6]
theorem es7 (n:Int):PC Tryz.prog EE 230 [.int .u8 n] (.bool (er4 n)):=by
 refine ak4 fok230 (Nat.le_of_ble_eq_true rfl) fun σ=>?_
 rw[fy3]
 by_cases h:n=0
 ·simp only[ic230,go_sem,h,and_self]
 ·simp only[ic230,go_sem,h]
  refine aa1 fok280 (dt3 n) ?_
  simp only[go_sem,and_self]
theorem gp4 (c:UInt8)(l:Str)(i:Nat):decide (dn5 c.toNat l i<0)=!l.contains c:=by
 rw[← ea4 c l i,← decide_not]
 exact decide_eq_decide.2 (by omega)
def gi4:List IV:=[.str [97,110,100],.str [111,114],.str [105,102],.str [101,108,115,101],.str [117,110,108,101,115,115],.str [119,105,116,104],.str [119,105,116,104,111,117,116]]
theorem ea6 {b:UInt8}(h:bi7 b=true):b.toNat≤126:=by
 have:b∈signs:=by simpa [bi7,List.contains_iff_mem] using h
 revert this
 have:∀ b∈signs,b.toNat≤126:=by decide +kernel
 exact this b
theorem bz1 (s:Str)(hs:s.length<2^62):PC Tryz.prog EE 204 [.str s] (.bool (aq6 s)):=by
 refine ae9 hE fok204 (Nat.le_of_ble_eq_true rfl) (fun a h=>by cases h with|head=>exact .str _|tail _ h=>cases h) ?_
 by_cases h1:1≤s.length
 ·by_cases h2:s.length≤64
  ·have c1:¬ (s.length:Int)<1:=by omega
   have c2:¬ (64:Int)<s.length:=by omega
   simp only[ic204,go_sem,c1,c2]
   refine gh2 noT (fun m fr σ=>(fr.get 0=.str s∧fr.get 16=.ptr 0 0)∧∃ pos,σ.obj 0=some (.siter s pos)∧pos≤s.length∧m=s.length-pos∧(s.take pos).all bi7=true) s.length ⟨⟨rfl,rfl⟩,0,rfl,Nat.zero_le _,rfl,rfl⟩ ?_
   rintro m fr σ ⟨⟨f0,f16⟩,pos,ho,hp,rfl,ha⟩
   by_cases hlt:pos<s.length
   ·simp only[go_sem,f0,f16,ho,hlt,bb7,gh5]
    by_cases hb:s[pos].toNat<128
    ·rw[er3 s pos hlt hb]
     by_cases hb2:s[pos].toNat≤126
     ·have d1:¬ (126:Int)<s[pos].toNat:=by omega
      have d2:IntKind.u8.wrap (s[pos].toNat:Int)=s[pos].toNat:=by
       have:=s[pos].toNat_lt
       simp[IntKind.wrap,IntKind.bits,IntKind.signed]
       omega
      simp only[go_sem,d1,d2]
      refine aa1 (v:=.int .i64 (dn5 s[pos].toNat signs 0)) fok254 (aq1 signs s[pos]) ?_
      have hi:decide (dn5 s[pos].toNat signs 0<0)=!bi7 s[pos]:=gp4 s[pos] signs 0
      simp only[go_sem,hi]
      cases hg:bi7 s[pos] with
      | true=>
       simp only[go_sem]
       exact ⟨s.length-(pos+1),by omega,pos+1,rfl,hlt,rfl,by rw[ea5 hlt,ha,hg]; rfl⟩
      | false=>
       simp only[go_sem,aq6,bp2 hlt hg]
       exact ab1 _
     ·have d1:(126:Int)<s[pos].toNat:=by omega
      have hg:bi7 s[pos]=false:=by
       cases h:bi7 s[pos] with
       | false=>rfl
       | true=>exact absurd (ea6 h) hb2
      simp only[go_sem,d1,aq6,bp2 hlt hg]
      exact ab1 _
    ·have h3:=decode_high s pos hlt hb
     generalize Utf8.decode ⟨s.toArray⟩ pos=dd at h3 ⊢
     have d1:(126:Int)<dd.1:=by omega
     have hg:bi7 s[pos]=false:=by
      cases h:bi7 s[pos] with
      | false=>rfl
      | true=>have:=ea6 h; omega
     simp only[go_sem,d1,aq6,bp2 hlt hg]
     exact ab1 _
   ·have hpe:pos=s.length:=by omega
    subst hpe
    rw[List.take_length] at ha
    simp only[go_sem,f0,f16,ho,bb7,gh5,Nat.lt_irrefl,E0]
    refine aa9 noT (fun i fr σ=>fr=[(0,.str s),(28,.agg gi4),(29,.int .i64 i)]∧∀ w∈words.take i,s≠w) 7 ⟨rfl,fun w h=>by simp at h⟩ ?_
    rintro i fr σ hi ⟨rfl,hw⟩
    by_cases hlt:i<7
    ·have e1:(i:Int)<7:=by omega
     have e2:(0:Int)≤i:=by omega
     have w1:=ad5 (i:=i) (by omega)
     obtain ⟨w,h3,h4,h5⟩:∃ w,gi4[i]? = some (.str w)∧words.take (i+1)=words.take i++[w]∧w∈words:=by
      have:i=0∨i=1∨i=2∨i=3∨i=4∨i=5∨i=6:=by omega
      rcases this with rfl|rfl|rfl|rfl|rfl|rfl|rfl<;>exact ⟨_,rfl,rfl,by decide⟩
     simp only[go_sem,e1,e2,Nat.mul_one,h3]
     by_cases hsw:s=w
     ·subst hsw
      have:words.contains s=true:=by simpa using h5
      simp only[go_sem,aq6,this]
      exact ab1 _
     ·simp only[go_sem,hsw,w1]
      refine ⟨hlt,?_⟩
      rw[h4]
      intro x hx
      rcases List.mem_append.1 hx with h|h
      ·exact hw x h
      ·have:x=w:=by simpa using h
       rw[this]; exact hsw
    ·have hi7:i=7:=by omega
     subst hi7
     have:words.contains s=false:=by
      cases h:words.contains s with
      | false=>rfl
      | true=>exact absurd rfl (hw s (by rw[show words.take 7=words from rfl]; simpa using h))
     have e7:¬ ((7:Nat):Int)<7:=by omega
     simp only[go_sem,e7,aq6,this,h1,h2,ha,Int.lt_irrefl]
     exact ab1 _
  ·have c1:¬ (s.length:Int)<1:=by omega
   have c2:(64:Int)<s.length:=by omega
   simp only[ic204,go_sem,c1,c2,aq6,h1,h2]
   exact ab1 _
 ·have c1:(s.length:Int)<1:=by omega
  simp only[ic204,go_sem,c1,aq6,h1]
  exact ab1 _
theorem bz2 (s:Str)(hs:s.length<2^62):PC Tryz.prog EE 205 [.str s] (.bool (bi8 s)):=by
 refine ak4 fok205 (Nat.le_of_ble_eq_true rfl) fun σ=>?_
 simp only[ic205,go_sem]
 refine aa1 fok204 (bz1 s hs) ?_
 simp only[go_sem]
 cases h:aq6 s with
 | false=>simp only[go_sem,bi8,h,and_self]
 | true=>
  simp only[go_sem]
  refine aa1 fok255 (di6 s [47]) ?_
  have:(decide ([47].length≤s.length)&&decide (s.take [47].length=[47]))=(s.head? == some 47):=by
   cases s with
   | nil=>rfl
   | cons b l=>simp[eq_comm]; by_cases hb:b=47<;>simp[hb]
  simp only[List.length_cons,List.length_nil] at this
  simp only[go_sem,bi8,h,this,and_self]
theorem bc2 (d:Dep)(h1:d.name.length<2^62)(h2:d.evr.ver.length<2^62)(h3:d.evr.rel.length<2^62):PC Tryz.prog EE 157 [.agg d.cs] (.bool (ah2 d)):=by
 obtain ⟨name,op,ep,ver,rel⟩:=d
 refine ak4 fok157 (Nat.le_of_ble_eq_true rfl) fun σ=>?_
 simp only[ic157,go_sem,Dep.cs]
 refine aa1 fok204 (bz1 name h1) ?_
 simp only[go_sem]
 cases hn:aq6 name with
 | false=>simp only[go_sem,ah2,hn,and_self]
 | true=>
  simp only[go_sem]
  refine aa1 fok230 (es7 op) ?_
  simp only[go_sem]
  cases ho:er4 op with
  | false=>simp only[go_sem,ah2,hn,ho,and_self]
  | true=>
   by_cases h0:op=0
   ·subst h0
    have hd:ah2 ⟨name,0,ep,ver,rel⟩=(decide (ep=0)&&(decide (ver=[])&&decide (rel=[]))):=by
     simp only[ah2,hn,ho,go_sem,gx4,EVR.mk.injEq,Bool.decide_and]
    simp only[go_sem,hd,and_self]
   ·simp only[go_sem,h0]
    refine aa1 fok205 (bz2 name h1) ?_
    simp only[go_sem]
    cases hf:bi8 name with
    | true=>simp only[go_sem,ah2,hn,ho,h0,hf,and_self]
    | false=>
     simp only[go_sem]
     refine aa1 (v:=.bool (az2 ⟨ep,ver,rel⟩ true)) fok206 (di8 ⟨ep,ver,rel⟩ true h2 h3) ?_
     simp only[go_sem,ah2,hn,ho,h0,hf,and_self]
end Go.Id.Tryz
