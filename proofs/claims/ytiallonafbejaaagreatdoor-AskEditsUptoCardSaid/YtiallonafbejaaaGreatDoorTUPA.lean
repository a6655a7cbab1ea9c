/- Names,versions,architectures,operators: what the program tells of them. Conditions: none. -/
import Derived.Test.YtiallonafbejaaaGreatDoorGUT
import Derived.Test.YtiallonafbejaaaGreatDoorFwZ
import Derived.Test.YtiallonafbejaaaGreatDoorMd
set_option linter.all false
namespace Go.Id.Tryz
open Go Go.Id Go.Proofs Go.Id.Md
def envL : List (Nat × List IV):=[(0,words.map .str),(1,[.tmap opsL])]
abbrev EE : Nat→IV:=envOf envL
theorem hE : ∀ g,Bnd 0 (EE g):=env_bnd (by kernel_rfl)
theorem E0 : EE 0=.tptr [.str [97,110,100],.str [111,114],.str [105,102],.str [101,108,115,101],.str [117,110,108,101,115,115],.str [119,105,116,104],.str [119,105,116,104,111,117,116]]:=rfl
theorem E1 : EE 1=.tptr [.tmap opsL]:=rfl
theorem indexByteL_pc (s : Str) (b : UInt8) : PC Tryz.prog EE 299 [.str s,.int .u8 b.toNat] (.int .i64 (idxB b.toNat s 0)):=by
 refine PC_f fok299 (Nat.le_of_ble_eq_true rfl) fun σ => ?_
 have h1 : (0 : Int)≤b.toNat:=by omega
 have h2 : (b.toNat : Int) < 256:=by have:=b.toNat_lt; omega
 simp only [ic299,go_sem,h1,h2,Int.toNat_natCast,and_self]
theorem indexByte_pc (s : Str) (b : UInt8) : PC Tryz.prog EE 254 [.str s,.int .u8 b.toNat] (.int .i64 (idxB b.toNat s 0)):=by
 refine PC_f fok254 (Nat.le_of_ble_eq_true rfl) fun σ => ?_
 simp only [ic254,go_sem]
 refine call_pc fok299 (indexByteL_pc s b) ?_
 simp only [go_sem,and_self]
theorem hasPrefixL_pc (s t : Str) : PC Tryz.prog EE 300 [.str s,.str t] (.bool (decide (t.length≤s.length) && decide (s.take t.length=t))):=by
 refine PC_f fok300 (Nat.le_of_ble_eq_true rfl) fun σ => ?_
 by_cases h : t.length≤s.length
 ·have h1 : (t.length : Int)≤s.length:=by omega
  have h2 : (0 : Int)≤t.length:=by omega
  simp only [ic300,go_sem,h,h1,sstrI,bndI,natI,h2,Int.toNat_natCast,Nat.zero_le,and_self,List.drop_zero,Bool.true_and,e_om0,e_om1,Option.map]
 ·have h1 : ¬ (t.length : Int)≤s.length:=by omega
  simp only [ic300,go_sem,h,h1,Bool.false_and,and_self]
theorem hasPrefix_pc (s t : Str) : PC Tryz.prog EE 255 [.str s,.str t] (.bool (decide (t.length≤s.length) && decide (s.take t.length=t))):=by
 refine PC_f fok255 (Nat.le_of_ble_eq_true rfl) fun σ => ?_
 simp only [ic255,go_sem]
 refine call_pc fok300 (hasPrefixL_pc s t) ?_
 simp only [go_sem,and_self]
theorem archIs_pc (a : Int) : PC Tryz.prog EE 169 [.int .u8 a] (.bool (archOK a)):=by
 refine PC_f fok169 (Nat.le_of_ble_eq_true rfl) fun σ => ?_
 by_cases h : 1≤a
 ·simp only [ic169,go_sem,archOK,h,Bool.true_and,and_self]
 ·simp only [ic169,go_sem,archOK,h,Bool.false_and,and_self]
def archNamesL : List IV:=[.str [],.str [110,111,97,114,99,104],.str [120,56,54,95,54,52],.str [105,54,56,54],.str [97,97,114,99,104,54,52]]
theorem archNames_pc : PC Tryz.prog EE 257 [] (.agg archNamesL):=by
 refine PC_e hE fok257 (Nat.le_of_ble_eq_true rfl) (fun a h => by cases h) ?_
 simp only [ic257,go_sem]
 exact .keep _ (closedN_bnd 10 _ (by kernel_rfl))
def archNameM (a : Int) : Str:=if a=1 then [110,111,97,114,99,104] else if a=2 then [120,56,54,95,54,52] else if a=3 then [105,54,56,54] else if a=4 then [97,97,114,99,104,54,52] else []
theorem archNameM_nil (a : Int) : decide (archNameM a=[])=!archOK a:=by
 unfold archNameM archOK
 repeat' split
 all_goals first | (subst_vars; rfl) | skip
 have : ¬ (1≤a∧a≤4):=by omega
 have h : (decide (1≤a) && decide (a≤4))=false:=by simpa using this
 rw [h]; rfl
theorem archName_pc (a : Int) : PC Tryz.prog EE 207 [.int .u8 a] (.str (archNameM a)):=by
 refine PC_f fok207 (Nat.le_of_ble_eq_true rfl) fun σ => ?_
 simp only [ic207,go_sem]
 refine call_pc fok169 (archIs_pc a) ?_
 simp only [go_sem]
 cases h : archOK a with
 | false =>
  have h1:=archNameM_nil a
  rw [h] at h1
  have h2 : archNameM a=[]:=by simpa using h1
  simp only [go_sem,h2,and_self]
 | true =>
  have h1 : 1≤a∧a≤4:=by simpa [archOK] using h
  simp only [go_sem]
  refine call_pc fok257 archNames_pc ?_
  have h2 : a=1 ∨ a=2 ∨ a=3 ∨ a=4:=by omega
  rcases h2 with rfl | rfl | rfl | rfl <;> (simp only [go_sem,archNamesL]; first | rfl | exact ⟨rfl,rfl⟩)
theorem idxB_has (c : UInt8) : ∀ (l : Str) (i : Nat),decide (0≤idxB c.toNat l i)=l.contains c:=by
 intro l
 induction l with
 | nil => intro i; rfl
 | cons b l ih =>
  intro i
  simp only [idxB,List.contains_cons]
  split
  ·rename_i h
   have : c=b:=(UInt8.toNat_inj.1 h).symm
   subst this
   simp
  ·rename_i h
   have : (c == b)=false:=by simp only [beq_eq_false_iff_ne,ne_eq]; intro e; subst e; exact h rfl
   rw [this,Bool.false_or]
   exact ih (i+1)
theorem take_all {p : UInt8→Bool} {s : Str} {i : Nat} (h : i < s.length) : (s.take (i+1)).all p=((s.take i).all p && p s[i]):=by
 rw [List.take_add_one,List.getElem?_eq_getElem h]
 simp only [Option.toList,List.all_append,List.all_cons,List.all_nil,Bool.and_true]
theorem all_of_at {p : UInt8→Bool} {s : Str} {i : Nat} (h : i < s.length) (hp : p s[i]=false) : s.all p=false:=by
 rw [List.all_eq_false]
 exact ⟨s[i],List.getElem_mem h,by simp [hp]⟩
theorem evrWord_pc (s : Str) (hs : s.length < 2 ^ 62) : PC Tryz.prog EE 256 [.str s] (.bool (wordOK s)):=by
 refine PC_f fok256 (Nat.le_of_ble_eq_true rfl) fun σ => ?_
 by_cases h0 : s=[]
 ·subst h0
  simp only [ic256,go_sem]
  rfl
 have hl : 1≤s.length:=by cases s with | nil => exact absurd rfl h0 | cons _ _ => simp
 by_cases h1 : s.length≤64
 ·have h1' : ¬ (64 : Int) < s.length:=by omega
  simp only [ic256,go_sem,h0,h1']
  refine loop_up noT (fun i fr s' => s'=σ∧fr=[(0,.str s),(13,.int .i64 s.length),(14,.int .i64 i)]∧(s.take i).all isVer=true) s.length ⟨rfl,rfl,rfl⟩ ?_
  rintro i fr s' hi ⟨rfl,rfl,ha⟩
  by_cases hlt : i < s.length
  ·have c1 : (i : Int) < s.length:=by omega
   have c2 : (0 : Int)≤i:=by omega
   simp only [go_sem,c1,c2,List.getElem?_eq_getElem hlt]
   have fin : isVer s[i]=false→wordOK s=false:=fun h => by simp only [wordOK,all_of_at hlt h,Bool.and_false]
   have step : isVer s[i]=true→(s.take (i+1)).all isVer=true:=fun h => by rw [take_all hlt,ha,h]; rfl
   have w1:=wrapS (i:=i) (by omega)
   have hv : isVer s[i]=(decide ((97 : Int)≤s[i].toNat) && decide ((s[i].toNat : Int)≤122) || decide ((65 : Int)≤s[i].toNat) && decide ((s[i].toNat : Int)≤90) || decide ((48 : Int)≤s[i].toNat) && decide ((s[i].toNat : Int)≤57) || [46,95,43,126,94].contains s[i]):=by
    simp only [isVer,isAlnum]
    congr 1
    congr 1
    ·congr 1 <;> congr 1 <;> (apply decide_eq_decide.2; omega)
    ·congr 1 <;> (apply decide_eq_decide.2; omega)
   generalize s[i]=b at *
   have last : ∀ (k1 : ¬ ((97 : Int)≤b.toNat∧(b.toNat : Int)≤122)) (k2 : ¬ ((65 : Int)≤b.toNat∧(b.toNat : Int)≤90)) (k3 : ¬ ((48 : Int)≤b.toNat∧(b.toNat : Int)≤57)),isVer b=decide (0≤idxB b.toNat [46,95,43,126,94] 0):=fun k1 k2 k3 => by
    rw [idxB_has,hv]
    simp only [← Bool.decide_and,decide_eq_false k1,decide_eq_false k2,decide_eq_false k3,Bool.false_or]
   by_cases k1 : (97 : Int)≤b.toNat
   ·by_cases k2 : (b.toNat : Int)≤122
    ·simp only [go_sem,k1,k2,w1]
     exact ⟨hlt,step (by rw [hv]; simp only [k1,k2,go_sem])⟩
    ·have k3 : (65 : Int)≤b.toNat:=by omega
     have k4 : ¬ (b.toNat : Int)≤90:=by omega
     have k5 : (48 : Int)≤b.toNat:=by omega
     have k6 : ¬ (b.toNat : Int)≤57:=by omega
     simp only [go_sem,k1,k2,k3,k4,k5,k6]
     refine call_pc fok254 (indexByte_pc _ b) ?_
     have hl:=last (by omega) (by omega) (by omega)
     simp only [go_sem,ge_iff_le,← hl]
     cases hb : isVer b with
     | true => simp only [go_sem,w1]; exact ⟨hlt,step hb⟩
     | false => simp only [go_sem,fin hb,and_self]
   ·by_cases k3 : (65 : Int)≤b.toNat
    ·by_cases k4 : (b.toNat : Int)≤90
     ·simp only [go_sem,k1,k3,k4,w1]
      exact ⟨hlt,step (by rw [hv]; simp only [k1,k3,k4,go_sem])⟩
     ·have k5 : (48 : Int)≤b.toNat:=by omega
      have k6 : ¬ (b.toNat : Int)≤57:=by omega
      simp only [go_sem,k1,k3,k4,k5,k6]
      refine call_pc fok254 (indexByte_pc _ b) ?_
      have hl:=last (by omega) (by omega) (by omega)
      simp only [go_sem,ge_iff_le,← hl]
      cases hb : isVer b with
      | true => simp only [go_sem,w1]; exact ⟨hlt,step hb⟩
      | false => simp only [go_sem,fin hb,and_self]
    ·by_cases k5 : (48 : Int)≤b.toNat
     ·by_cases k6 : (b.toNat : Int)≤57
      ·simp only [go_sem,k1,k3,k5,k6,w1]
       exact ⟨hlt,step (by rw [hv]; simp only [k1,k3,k5,k6,go_sem])⟩
      ·simp only [go_sem,k1,k3,k5,k6]
       refine call_pc fok254 (indexByte_pc _ b) ?_
       have hl:=last (by omega) (by omega) (by omega)
       simp only [go_sem,ge_iff_le,← hl]
       cases hb : isVer b with
       | true => simp only [go_sem,w1]; exact ⟨hlt,step hb⟩
       | false => simp only [go_sem,fin hb,and_self]
     ·simp only [go_sem,k1,k3,k5]
      refine call_pc fok254 (indexByte_pc _ b) ?_
      have hl:=last (by omega) (by omega) (by omega)
      simp only [go_sem,ge_iff_le,← hl]
      cases hb : isVer b with
      | true => simp only [go_sem,w1]; exact ⟨hlt,step hb⟩
      | false => simp only [go_sem,fin hb,and_self]
  ·have hi' : i=s.length:=by omega
   have c1 : ¬ (i : Int) < s.length:=by omega
   simp only [go_sem,c1]
   subst hi'
   rw [List.take_length] at ha
   simp only [wordOK,ha,go_sem,hl,h1,and_self]
 ·have h1' : (64 : Int) < s.length:=by omega
  simp only [ic256,go_sem,h0,h1',wordOK,h1,Bool.and_false,Bool.false_and,and_self]
theorem evrMay_pc (e : EVR) (dep : Bool) (h1 : e.ver.length < 2 ^ 62) (h2 : e.rel.length < 2 ^ 62) : PC Tryz.prog EE 206 [.agg e.cs,.bool dep] (.bool (evrMay e dep)):=by
 obtain ⟨ep,ver,rel⟩:=e
 refine PC_f fok206 (Nat.le_of_ble_eq_true rfl) fun σ => ?_
 have hw:=evrWord_pc ver h1
 have hw':=evrWord_pc rel h2
 by_cases a1 : (0 : Int)≤ep
 ·by_cases a2 : ep≤2147483647
  ·simp only [ic206,go_sem,EVR.cs,evrMay,a1,a2]
   refine call_pc fok256 hw ?_
   simp only [go_sem]
   cases hv : wordOK ver with
   | false => simp only [go_sem,and_self]
   | true =>
    simp only [go_sem]
    refine call_pc fok256 hw' ?_
    simp only [go_sem]
    cases hr : wordOK rel with
    | true => simp only [go_sem,and_self]
    | false =>
     cases dep with
     | true =>
      simp only [go_sem]
      cases rel <;> first | rfl | exact ⟨rfl,rfl⟩
     | false => simp only [go_sem,and_self]
  ·simp only [ic206,go_sem,EVR.cs,evrMay,a1,a2,and_self]
 ·simp only [ic206,go_sem,EVR.cs,evrMay,a1,and_self]
theorem spanText_pc (n : Int) : PC Tryz.prog EE 280 [.int .u8 n] (.str (textP n)):=by
 obtain ⟨_,pf,an,h⟩:=fok280
 exact text_PC (g:=1) h E1
theorem opMay_eq (n : Int) : opMay n=(decide (n=0) || !decide (textP n=[])):=by
 unfold opMay textP
 by_cases h0 : n=0
 ·subst h0; rfl
 by_cases h1 : n=1
 ·subst h1; rfl
 by_cases h2 : n=2
 ·subst h2; rfl
 by_cases h3 : n=3
 ·subst h3; rfl
 by_cases h4 : n=4
 ·subst h4; rfl
 by_cases h6 : n=6
 ·subst h6; rfl
 simp [h0,h1,h2,h3,h4,h6]
theorem spanMay_pc (n : Int) : PC Tryz.prog EE 230 [.int .u8 n] (.bool (opMay n)):=by
 refine PC_f fok230 (Nat.le_of_ble_eq_true rfl) fun σ => ?_
 rw [opMay_eq]
 by_cases h : n=0
 ·simp only [ic230,go_sem,h,and_self]
 ·simp only [ic230,go_sem,h]
  refine call_pc fok280 (spanText_pc n) ?_
  simp only [go_sem,and_self]
theorem idxB_lt (c : UInt8) (l : Str) (i : Nat) : decide (idxB c.toNat l i < 0)=!l.contains c:=by
 rw [← idxB_has c l i,← decide_not]
 exact decide_eq_decide.2 (by omega)
def wordsV : List IV:=[.str [97,110,100],.str [111,114],.str [105,102],.str [101,108,115,101],.str [117,110,108,101,115,115],.str [119,105,116,104],.str [119,105,116,104,111,117,116]]
theorem sign_low {b : UInt8} (h : isSign b=true) : b.toNat≤126:=by
 have : b∈signs:=by simpa [isSign,List.contains_iff_mem] using h
 revert this
 have : ∀ b∈signs,b.toNat≤126:=by decide +kernel
 exact this b
theorem depName_pc (s : Str) (hs : s.length < 2 ^ 62) : PC Tryz.prog EE 204 [.str s] (.bool (nameOK s)):=by
 refine PC_e hE fok204 (Nat.le_of_ble_eq_true rfl) (fun a h => by cases h with | head => exact .str _ | tail _ h => cases h) ?_
 by_cases h1 : 1≤s.length
 ·by_cases h2 : s.length≤64
  ·have c1 : ¬ (s.length : Int) < 1:=by omega
   have c2 : ¬ (64 : Int) < s.length:=by omega
   simp only [ic204,go_sem,c1,c2]
   refine loop_T noT (fun m fr σ => (fr.get 0=.str s∧fr.get 16=.ptr 0 0)∧∃ pos,σ.obj 0=some (.siter s pos)∧pos≤s.length∧m=s.length - pos∧(s.take pos).all isSign=true) s.length ⟨⟨rfl,rfl⟩,0,rfl,Nat.zero_le _,rfl,rfl⟩ ?_
   rintro m fr σ ⟨⟨f0,f16⟩,pos,ho,hp,rfl,ha⟩
   by_cases hlt : pos < s.length
   ·simp only [go_sem,f0,f16,ho,hlt,e_snext,e_nO]
    by_cases hb : s[pos].toNat < 128
    ·rw [decode_low s pos hlt hb]
     by_cases hb2 : s[pos].toNat≤126
     ·have d1 : ¬ (126 : Int) < s[pos].toNat:=by omega
      have d2 : IntKind.u8.wrap (s[pos].toNat : Int)=s[pos].toNat:=by
       have:=s[pos].toNat_lt
       simp [IntKind.wrap,IntKind.bits,IntKind.signed]
       omega
      simp only [go_sem,d1,d2]
      refine call_pc (v:=.int .i64 (idxB s[pos].toNat signs 0)) fok254 (indexByte_pc signs s[pos]) ?_
      have hi : decide (idxB s[pos].toNat signs 0 < 0)=!isSign s[pos]:=idxB_lt s[pos] signs 0
      simp only [go_sem,hi]
      cases hg : isSign s[pos] with
      | true =>
       simp only [go_sem]
       exact ⟨s.length - (pos+1),by omega,pos+1,rfl,hlt,rfl,by rw [take_all hlt,ha,hg]; rfl⟩
      | false =>
       simp only [go_sem,nameOK,all_of_at hlt hg]
       exact frz_bool _
     ·have d1 : (126 : Int) < s[pos].toNat:=by omega
      have hg : isSign s[pos]=false:=by
       cases h : isSign s[pos] with
       | false => rfl
       | true => exact absurd (sign_low h) hb2
      simp only [go_sem,d1,nameOK,all_of_at hlt hg]
      exact frz_bool _
    ·have h3:=decode_high s pos hlt hb
     generalize Utf8.decode ⟨s.toArray⟩ pos=dd at h3 ⊢
     have d1 : (126 : Int) < dd.1:=by omega
     have hg : isSign s[pos]=false:=by
      cases h : isSign s[pos] with
      | false => rfl
      | true => have:=sign_low h; omega
     simp only [go_sem,d1,nameOK,all_of_at hlt hg]
     exact frz_bool _
   ·have hpe : pos=s.length:=by omega
    subst hpe
    rw [List.take_length] at ha
    simp only [go_sem,f0,f16,ho,e_snext,e_nO,Nat.lt_irrefl,E0]
    refine loop_up noT (fun i fr σ => fr=[(0,.str s),(28,.agg wordsV),(29,.int .i64 i)]∧∀ w∈words.take i,s≠w) 7 ⟨rfl,fun w h => by simp at h⟩ ?_
    rintro i fr σ hi ⟨rfl,hw⟩
    by_cases hlt : i < 7
    ·have e1 : (i : Int) < 7:=by omega
     have e2 : (0 : Int)≤i:=by omega
     have w1:=wrapS (i:=i) (by omega)
     obtain ⟨w,h3,h4,h5⟩ : ∃ w,wordsV[i]? = some (.str w)∧words.take (i+1)=words.take i ++ [w]∧w∈words:=by
      have : i=0 ∨ i=1 ∨ i=2 ∨ i=3 ∨ i=4 ∨ i=5 ∨ i=6:=by omega
      rcases this with rfl | rfl | rfl | rfl | rfl | rfl | rfl <;> exact ⟨_,rfl,rfl,by decide⟩
     simp only [go_sem,e1,e2,Nat.mul_one,h3]
     by_cases hsw : s=w
     ·subst hsw
      have : words.contains s=true:=by simpa using h5
      simp only [go_sem,nameOK,this]
      exact frz_bool _
     ·simp only [go_sem,hsw,w1]
      refine ⟨hlt,?_⟩
      rw [h4]
      intro x hx
      rcases List.mem_append.1 hx with h | h
      ·exact hw x h
      ·have : x=w:=by simpa using h
       rw [this]; exact hsw
    ·have hi7 : i=7:=by omega
     subst hi7
     have : words.contains s=false:=by
      cases h : words.contains s with
      | false => rfl
      | true => exact absurd rfl (hw s (by rw [show words.take 7=words from rfl]; simpa using h))
     have e7 : ¬ ((7 : Nat) : Int) < 7:=by omega
     simp only [go_sem,e7,nameOK,this,h1,h2,ha,Int.lt_irrefl]
     exact frz_bool _
  ·have c1 : ¬ (s.length : Int) < 1:=by omega
   have c2 : (64 : Int) < s.length:=by omega
   simp only [ic204,go_sem,c1,c2,nameOK,h1,h2]
   exact frz_bool _
 ·have c1 : (s.length : Int) < 1:=by omega
  simp only [ic204,go_sem,c1,nameOK,h1]
  exact frz_bool _
theorem depFile_pc (s : Str) (hs : s.length < 2 ^ 62) : PC Tryz.prog EE 205 [.str s] (.bool (fileOK s)):=by
 refine PC_f fok205 (Nat.le_of_ble_eq_true rfl) fun σ => ?_
 simp only [ic205,go_sem]
 refine call_pc fok204 (depName_pc s hs) ?_
 simp only [go_sem]
 cases h : nameOK s with
 | false => simp only [go_sem,fileOK,h,and_self]
 | true =>
  simp only [go_sem]
  refine call_pc fok255 (hasPrefix_pc s [47]) ?_
  have : (decide ([47].length≤s.length) && decide (s.take [47].length=[47]))=(s.head? == some 47):=by
   cases s with
   | nil => rfl
   | cons b l => simp [eq_comm]; by_cases hb : b=47 <;> simp [hb]
  simp only [List.length_cons,List.length_nil] at this
  simp only [go_sem,fileOK,h,this,and_self]
theorem depMay_pc (d : Dep) (h1 : d.name.length < 2 ^ 62) (h2 : d.evr.ver.length < 2 ^ 62) (h3 : d.evr.rel.length < 2 ^ 62) : PC Tryz.prog EE 157 [.agg d.cs] (.bool (depMay d)):=by
 obtain ⟨name,op,ep,ver,rel⟩:=d
 refine PC_f fok157 (Nat.le_of_ble_eq_true rfl) fun σ => ?_
 simp only [ic157,go_sem,Dep.cs]
 refine call_pc fok204 (depName_pc name h1) ?_
 simp only [go_sem]
 cases hn : nameOK name with
 | false => simp only [go_sem,depMay,hn,and_self]
 | true =>
  simp only [go_sem]
  refine call_pc fok230 (spanMay_pc op) ?_
  simp only [go_sem]
  cases ho : opMay op with
  | false => simp only [go_sem,depMay,hn,ho,and_self]
  | true =>
   by_cases h0 : op=0
   ·subst h0
    have hd : depMay ⟨name,0,ep,ver,rel⟩=(decide (ep=0) && (decide (ver=[]) && decide (rel=[]))):=by
     simp only [depMay,hn,ho,go_sem,evr0,EVR.mk.injEq,Bool.decide_and]
    simp only [go_sem,hd,and_self]
   ·simp only [go_sem,h0]
    refine call_pc fok205 (depFile_pc name h1) ?_
    simp only [go_sem]
    cases hf : fileOK name with
    | true => simp only [go_sem,depMay,hn,ho,h0,hf,and_self]
    | false =>
     simp only [go_sem]
     refine call_pc (v:=.bool (evrMay ⟨ep,ver,rel⟩ true)) fok206 (evrMay_pc ⟨ep,ver,rel⟩ true h2 h3) ?_
     simp only [go_sem,depMay,hn,ho,h0,hf,and_self]
end Go.Id.Tryz
