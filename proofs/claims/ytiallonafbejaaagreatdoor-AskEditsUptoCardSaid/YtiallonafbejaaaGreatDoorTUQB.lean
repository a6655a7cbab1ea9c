/- Versions,part by part. Conditions: sizes that fit. -/
import Derived.Test.YtiallonafbejaaaGreatDoorTUPF
set_option linter.all false
namespace Go.Id.Tryz
open Go Go.Id Go.Proofs Go.Id.Md
set_option maxRecDepth 100000
theorem nanS_pc (s : Str) : PC Tryz.prog EE 305 [.str s] (.bool false):=by
 refine PC_f fok305 (Nat.le_of_ble_eq_true rfl) fun σ => ?_
 simp only [ic305,go_sem,and_self,bne_self_eq_false,decide_true,Bool.not_true]
theorem nanU_pc (n : Int) : PC Tryz.prog EE 310 [.int .u8 n] (.bool false):=by
 refine PC_f fok310 (Nat.le_of_ble_eq_true rfl) fun σ => ?_
 simp only [ic310,go_sem,and_self,bne_self_eq_false,decide_true,Bool.not_true]
theorem nanI_pc (n : Int) : PC Tryz.prog EE 195 [.int .i64 n] (.bool false):=by
 refine PC_f fok195 (Nat.le_of_ble_eq_true rfl) fun σ => ?_
 simp only [ic195,go_sem,and_self,bne_self_eq_false,decide_true,Bool.not_true]
theorem cmpI_pc (a b : Int) : PC Tryz.prog EE 126 [.int .i64 a,.int .i64 b] (.int .i64 (cmpI a b)):=by
 refine PC_f fok126 (Nat.le_of_ble_eq_true rfl) fun σ => ?_
 simp only [ic126,go_sem]
 refine call_pc fok195 (nanI_pc a) ?_
 simp only [go_sem]
 refine call_pc fok195 (nanI_pc b) ?_
 simp only [go_sem]
 by_cases h1 : a < b
 ·simp only [go_sem,h1,cmpI,and_self]
 ·by_cases h2 : b < a
  ·have h3 : ¬ a=b:=by omega
   simp only [go_sem,h1,h2,h3,cmpI,and_self]
  ·have h3 : a=b:=by omega
   subst h3
   simp only [go_sem,h1,cmpI,and_self,if_false,if_true]
theorem cmpU_pc (a b : Int) : PC Tryz.prog EE 283 [.int .u8 a,.int .u8 b] (.int .i64 (cmpI a b)):=by
 refine PC_f fok283 (Nat.le_of_ble_eq_true rfl) fun σ => ?_
 simp only [ic283,go_sem]
 refine call_pc fok310 (nanU_pc a) ?_
 simp only [go_sem]
 refine call_pc fok310 (nanU_pc b) ?_
 simp only [go_sem]
 by_cases h1 : a < b
 ·simp only [go_sem,h1,cmpI,and_self]
 ·by_cases h2 : b < a
  ·have h3 : ¬ a=b:=by omega
   simp only [go_sem,h1,h2,h3,cmpI,and_self]
  ·have h3 : a=b:=by omega
   subst h3
   simp only [go_sem,h1,cmpI,and_self,if_false,if_true]
theorem cmpS_pc (a b : Str) : PC Tryz.prog EE 284 [.str a,.str b] (.int .i64 (cmpS a b)):=by
 refine PC_f fok284 (Nat.le_of_ble_eq_true rfl) fun σ => ?_
 simp only [ic284,go_sem]
 refine call_pc fok305 (nanS_pc a) ?_
 simp only [go_sem]
 refine call_pc fok305 (nanS_pc b) ?_
 simp only [go_sem]
 cases h1 : Op.bytesLess a b with
 | true => simp only [go_sem,h1,cmpS,and_self]
 | false =>
  by_cases h3 : a=b
  ·subst h3
   simp only [go_sem,h1,cmpS,and_self,Bool.false_eq_true,if_false,if_true,decide_true,Bool.or_true,Bool.not_true]
  ·simp only [go_sem,h1,h3,cmpS,and_self,Bool.false_eq_true,if_false,decide_false,Bool.or_false,Bool.not_false]
def orM : List Int→Int
 | [] => 0
 | a :: l => if a=0 then orM l else a
theorem or_pc (l : List Int) (hl : l.length < 2 ^ 40) : PC Tryz.prog EE 282 [.tslice (l.map Md.intC)] (.int .i64 (orM l)):=by
 refine PC_f fok282 (Nat.le_of_ble_eq_true rfl) fun σ => ?_
 simp only [ic282,go_sem]
 refine loop_up noT (fun i fr s => fr=[(3,.int .i64 0),(6,.tslice (l.map Md.intC)),(7,.int .i64 l.length),(8,.int .i64 i)]∧s=σ∧orM l=orM (l.drop i)) l.length ⟨rfl,rfl,rfl⟩ ?_
 rintro i fr s hle ⟨rfl,rfl,hI⟩
 by_cases hlt : i < l.length
 ·obtain ⟨x,hx,_,hdr,hget,htk⟩:=at_nth l i hlt
  have c1 : (i : Int) < l.length:=by omega
  have c2 : (0 : Int)≤i:=by omega
  have w1:=wrapS (i:=i) (by omega)
  rw [hdr,orM] at hI
  by_cases e : x=0
  ·rw [if_pos e] at hI
   subst e
   simp only [go_sem,c1,c2,hget,Md.intC,w1]
   exact ⟨hlt,hI⟩
  ·rw [if_neg e] at hI
   simp only [go_sem,c1,c2,hget,Md.intC,e,hI,and_self]
 ·have hi' : i=l.length:=by omega
  subst hi'
  have c1 : ¬ (l.length : Int) < l.length:=by omega
  rw [List.drop_length,orM] at hI
  simp only [go_sem,c1,hI,and_self]
theorem side_pc (n : Int) (h : n=-1 ∨ n=0 ∨ n=1) : PC Tryz.prog EE 228 [.int .i64 n] (.int .u8 (if n < 0 then 1 else if n=0 then 2 else 4)):=by
 rcases h with rfl | rfl | rfl
 all_goals
  refine PC_e hE fok228 (Nat.le_of_ble_eq_true rfl) (one_mem (.int _ _)) ?_
  simp only [ic228,go_sem]
  exact .keep _ (.int _ _)
def vkN (n : Nat) : Nat:=if n=126 then 1 else if n=94 then 3 else if 97≤n∧n≤122 ∨ 65≤n∧n≤90 then 4 else if 48≤n∧n≤57 then 5 else 0
theorem vkind_N (b : UInt8) : vkind b=vkN b.toNat:=by
 have h : ∀ n,n < 256→vkind (UInt8.ofNat n)=vkN n:=by decide +kernel
 have:=h b.toNat b.toNat_lt
 rwa [UInt8.ofNat_toNat] at this
theorem kind_pc (b : UInt8) : PC Tryz.prog EE 308 [.int .u8 b.toNat] (.int .u8 (vkind b)):=by
 rw [vkind_N]
 have hb:=b.toNat_lt
 generalize b.toNat=n at *
 unfold vkN
 refine PC_e hE fok308 (Nat.le_of_ble_eq_true rfl) (one_mem (.int _ _)) ?_
 by_cases e1 : n=126
 ·have e1' : (n : Int)=126:=by omega
  rw [if_pos e1]
  simp only [ic308,go_sem,e1']
  exact .keep _ (.int _ _)
 have e1' : ¬ (n : Int)=126:=by omega
 rw [if_neg e1]
 by_cases e2 : n=94
 ·have e2' : (n : Int)=94:=by omega
  have q : ¬ (94 : Int)=126:=by decide
  rw [if_pos e2]
  simp only [ic308,go_sem,e2',q]
  exact .keep _ (.int _ _)
 have e2' : ¬ (n : Int)=94:=by omega
 rw [if_neg e2]
 by_cases e3 : 97≤n∧n≤122
 ·have f1 : (97 : Int)≤n:=by omega
  have f2 : (n : Int)≤122:=by omega
  rw [if_pos (.inl e3)]
  simp only [ic308,go_sem,e1',e2',f1,f2]
  exact .keep _ (.int _ _)
 by_cases e4 : 65≤n∧n≤90
 ·have f1 : ¬ (97 : Int)≤n:=by omega
  have f3 : (65 : Int)≤n:=by omega
  have f4 : (n : Int)≤90:=by omega
  rw [if_pos (.inr e4)]
  simp only [ic308,go_sem,e1',e2',f1,f3,f4]
  exact .keep _ (.int _ _)
 rw [if_neg (fun h => h.elim e3 e4)]
 by_cases e5 : 48≤n∧n≤57
 ·have f1 : ¬ (97 : Int)≤n:=by omega
  have f3 : ¬ (65 : Int)≤n:=by omega
  have f5 : (48 : Int)≤n:=by omega
  have f6 : (n : Int)≤57:=by omega
  rw [if_pos e5]
  simp only [ic308,go_sem,e1',e2',f1,f3,f5,f6]
  exact .keep _ (.int _ _)
 rw [if_neg e5]
 by_cases f1 : (97 : Int)≤n
 ·have f2 : ¬ (n : Int)≤122:=by omega
  have f3 : (65 : Int)≤n:=by omega
  have f4 : ¬ (n : Int)≤90:=by omega
  have f5 : (48 : Int)≤n:=by omega
  have f6 : ¬ (n : Int)≤57:=by omega
  simp only [ic308,go_sem,e1',e2',f1,f2,f3,f4,f5,f6]
  exact .keep _ (.int _ _)
 by_cases f3 : (65 : Int)≤n
 ·have f4 : ¬ (n : Int)≤90:=by omega
  have f5 : (48 : Int)≤n:=by omega
  have f6 : ¬ (n : Int)≤57:=by omega
  simp only [ic308,go_sem,e1',e2',f1,f3,f4,f5,f6]
  exact .keep _ (.int _ _)
 by_cases f5 : (48 : Int)≤n
 ·have f6 : ¬ (n : Int)≤57:=by omega
  simp only [ic308,go_sem,e1',e2',f1,f3,f5,f6]
  exact .keep _ (.int _ _)
 ·simp only [ic308,go_sem,e1',e2',f1,f3,f5]
  exact .keep _ (.int _ _)
theorem trimB_pc (s : Str) (hs : s.length < 2 ^ 62) (c : UInt8) : PC Tryz.prog EE 319 [.str s,.int .u8 c.toNat] (.str (s.dropWhile (· == c))):=by
 refine PC_f fok319 (Nat.le_of_ble_eq_true rfl) fun σ => ?_
 simp only [ic319,go_sem]
 refine loop_up noT (fun i fr t => fr=[(0,.str (s.drop i)),(1,.int .u8 c.toNat)]∧t=σ∧s.dropWhile (· == c)=(s.drop i).dropWhile (· == c)) s.length ⟨rfl,rfl,rfl⟩ ?_
 rintro i fr t hle ⟨rfl,rfl,hI⟩
 by_cases hlt : i < s.length
 ·obtain ⟨x,hx,hget,hdr,_,htk⟩:=at_nth s i hlt
  have c1 : (0 : Int) < (s.length - i : Nat):=by omega
  have h0 : (s.drop i)[0]? = some x:=by rw [hdr]; rfl
  by_cases e : x=c
  ·subst e
   simp only [go_sem,List.length_drop,c1,e_istr1,Int.le_refl,Int.toNat_zero,h0,Option.map]
   have hsub : sstrI (some (.int .i64 1)) none (.str (s.drop i))=some (.str (s.drop (i+1))):=by
    rw [hdr]
    simp [sstrI,bndI,natI]
    exact List.take_of_length_le (by rw [List.length_drop]; omega)
   simp only [go_sem,hsub]
   refine ⟨hlt,?_⟩
   rw [hI,hdr,List.dropWhile_cons,if_pos (by simp)]
  ·have e' : ¬ (x.toNat : Int)=c.toNat:=fun h => e (UInt8.toNat_inj.1 (by omega))
   simp only [go_sem,List.length_drop,c1,e_istr1,Int.le_refl,Int.toNat_zero,h0,Option.map,e']
   rw [hI,hdr,List.dropWhile_cons,if_neg (by simpa using e)]
 ·have hi' : i=s.length:=by omega
  subst hi'
  rw [List.drop_length] at hI ⊢
  simp only [go_sem,List.length_nil,hI,and_self,List.dropWhile_nil]
theorem trimL_pc (s : Str) (hs : s.length < 2 ^ 62) : PC Tryz.prog EE 309 [.str s,.str [48]] (.str (s.dropWhile (· == 48))):=by
 refine PC_f fok309 (Nat.le_of_ble_eq_true rfl) fun σ => ?_
 simp only [ic309,go_sem]
 have ht:=trimB_pc s hs 48
 by_cases h0 : s=[]
 ·subst h0
  simp only [go_sem,List.dropWhile_nil,and_self]
 ·have e1 : istrI (.str [48]) (.int .i64 0)=some (.int .u8 (48 : UInt8).toNat):=rfl
  have e2 : ((48 : UInt8).toNat : Int) < 128:=by decide
  simp only [go_sem,h0,e1,e2]
  refine call_pc fok319 ht ?_
  simp only [go_sem,and_self]
def Part.cs (p : Part) : List IV:=[.int .u8 p.kind,.str p.s]
theorem orM3 (a b c : Int) : orM [a,b,c]=if a≠0 then a else if b≠0 then b else c:=by
 simp only [orM]
 by_cases h1 : a=0 <;> by_cases h2 : b=0 <;> by_cases h3 : c=0 <;> simp [h1,h2,h3]
theorem partCmp_pc (a b : Part) (ha : a.s.length < 2 ^ 62) (hb : b.s.length < 2 ^ 62) : PC Tryz.prog EE 236 [.agg (Part.cs a),.agg (Part.cs b)] (.int .i64 (partCmp a b)):=by
 have bp : ∀ p : Part,Bnd 0 (.agg (Part.cs p)):=fun p => .agg _ fun c hc => by
  simp only [Part.cs,List.mem_cons,List.not_mem_nil,or_false] at hc
  rcases hc with rfl | rfl
  ·exact .int _ _
  ·exact .str _
 refine PC_e hE fok236 (Nat.le_of_ble_eq_true rfl) (two_mem (bp a) (bp b)) ?_
 by_cases h1 : a.kind=5
 ·have g1 : ((a.kind : Nat) : Int)=5:=by omega
  by_cases h2 : b.kind=5
  ·have g2 : ((b.kind : Nat) : Int)=5:=by omega
   simp only [ic236,go_sem,Part.cs,g1,g2]
   first | refine call_pc fok126 (cmpI_pc _ _) ?_ | refine callP_of (cmpI_pc _ _) ?_
   simp only [go_sem]
   refine callP_of (cmpU_pc _ _) ?_
   simp only [go_sem]
   refine callP_of (cmpS_pc _ _) ?_
   simp only [go_sem]
   refine callP_of (or_pc [cmpI 5 5,cmpI a.s.length b.s.length,cmpS a.s b.s] (by simp)) ?_
   simp only [go_sem]
   have e : orM [cmpI 5 5,cmpI a.s.length b.s.length,cmpS a.s b.s]=partCmp a b:=by rw [orM3]; simp only [partCmp,h1,h2,and_self,if_true]; rfl
   rw [e]; exact frz_int _ _
  ·have g2 : ¬ ((b.kind : Nat) : Int)=5:=by omega
   simp only [ic236,go_sem,Part.cs,g1,g2]
   refine callP_of (cmpU_pc _ _) ?_
   simp only [go_sem]
   refine callP_of (cmpS_pc _ _) ?_
   simp only [go_sem]
   refine callP_of (or_pc [cmpI 5 b.kind,0,cmpS a.s b.s] (by simp)) ?_
   simp only [go_sem]
   have e : orM [cmpI 5 b.kind,0,cmpS a.s b.s]=partCmp a b:=by rw [orM3]; simp only [partCmp,h1,h2,and_false,if_false]; rfl
   rw [e]; exact frz_int _ _
 ·have g1 : ¬ ((a.kind : Nat) : Int)=5:=by omega
  simp only [ic236,go_sem,Part.cs,g1]
  refine callP_of (cmpU_pc _ _) ?_
  simp only [go_sem]
  refine callP_of (cmpS_pc _ _) ?_
  simp only [go_sem]
  refine callP_of (or_pc [cmpI a.kind b.kind,0,cmpS a.s b.s] (by simp)) ?_
  simp only [go_sem]
  have e : orM [cmpI a.kind b.kind,0,cmpS a.s b.s]=partCmp a b:=by rw [orM3]; simp only [partCmp,h1,false_and,if_false]
  rw [e]; exact frz_int _ _
end Go.Id.Tryz
