/- Ranges that meet; who provides,names,obsoletes. Conditions: sizes that fit. -/
import Derived.Test.YtiallonafbejaaaGreatDoorTUQC
import Derived.Test.YtiallonafbejaaaGreatDoorFwTe
set_option linter.all false
namespace Go.Id.Tryz
open Go Go.Id Go.Proofs Go.Id.Md
set_option maxRecDepth 100000
def band (a b : Int) : Int:=IntKind.u8.wrap ((BitVec.ofInt 8 a &&& BitVec.ofInt 8 b).toNat : Int)
theorem e_band (a b : Int) : binV .and (.int .u8 a) (.int .u8 b)=some (.int .u8 (band a b)):=rfl
theorem wrap8 {n : Nat} (h : n < 256) : IntKind.u8.wrap (n : Int)=n:=by
 simp [IntKind.wrap,IntKind.bits,IntKind.signed]; omega
theorem band_nat (a b : Nat) (ha : a < 256) (hb : b < 256) : band a b=((a &&& b : Nat) : Int):=by
 unfold band
 rw [BitVec.toNat_and]
 have e : ∀ n : Nat,n < 256→(BitVec.ofInt 8 (n : Int)).toNat=n:=fun n hn => by
  rw [BitVec.toNat_ofInt]; omega
 rw [e a ha,e b hb]
 exact wrap8 (Nat.lt_of_le_of_lt Nat.and_le_left ha)
theorem and7 : ∀ a,a < 256→((a &&& 7=0) ↔ a % 8=0):=by decide +kernel
theorem andBits : ∀ x,x < 256→((x &&& 7=0) ↔ (x.testBit 0=false∧x.testBit 1=false∧x.testBit 2=false)):=by decide +kernel
theorem and1 : ∀ a,a < 256→((a &&& 1=0) ↔ a.testBit 0=false):=by decide +kernel
theorem and4 : ∀ a,a < 256→((a &&& 4=0) ↔ a.testBit 2=false):=by decide +kernel
theorem cmpI_3 (a b : Int) : cmpI a b=-1 ∨ cmpI a b=0 ∨ cmpI a b=1:=by
 unfold cmpI; split
 ·exact .inl rfl
 ·split
  ·exact .inr (.inl rfl)
  ·exact .inr (.inr rfl)
theorem cmpS_3 (a b : Str) : cmpS a b=-1 ∨ cmpS a b=0 ∨ cmpS a b=1:=by
 unfold cmpS; split
 ·exact .inl rfl
 ·split
  ·exact .inr (.inl rfl)
  ·exact .inr (.inr rfl)
theorem partCmp_3 (a b : Part) : partCmp a b=-1 ∨ partCmp a b=0 ∨ partCmp a b=1:=by
 have h : ∀ k n s : Int,(k=-1 ∨ k=0 ∨ k=1)→(n=-1 ∨ n=0 ∨ n=1)→(s=-1 ∨ s=0 ∨ s=1)→((if k≠0 then k else if n≠0 then n else s)=-1 ∨ (if k≠0 then k else if n≠0 then n else s)=0 ∨ (if k≠0 then k else if n≠0 then n else s)=1):=by
  intro k n s h1 h2 h3
  rcases h1 with rfl | rfl | rfl <;> rcases h2 with rfl | rfl | rfl <;> simp <;> exact h3
 refine h (cmpI a.kind b.kind) (if a.kind=5∧b.kind=5 then cmpI a.s.length b.s.length else 0) (cmpS a.s b.s) (cmpI_3 _ _) ?_ (cmpS_3 _ _)
 split
 ·exact cmpI_3 _ _
 ·exact .inr (.inl rfl)
theorem partsCmp_3 : ∀ (l m : List Part),partsCmp l m=-1 ∨ partsCmp l m=0 ∨ partsCmp l m=1:=by
 intro l
 induction l with
 | nil => intro m; exact .inr (.inl (by rw [partsCmp]; intros; contradiction))
 | cons a l ih =>
  intro m
  cases m with
  | nil => exact .inr (.inl (by rw [partsCmp]; intros; contradiction))
  | cons b m =>
   rw [partsCmp]
   split
   ·exact partCmp_3 a b
   ·exact ih m
theorem verCmp_3 (a b : Str) : verCmp a b=-1 ∨ verCmp a b=0 ∨ verCmp a b=1:=partsCmp_3 _ _
theorem evrCmp_3 (a b : EVR) : evrCmp a b=-1 ∨ evrCmp a b=0 ∨ evrCmp a b=1:=by
 unfold evrCmp
 split
 ·exact cmpI_3 _ _
 ·split
  ·exact verCmp_3 _ _
  ·split
   ·exact .inr (.inl rfl)
   ·exact verCmp_3 _ _
def Dep.small (d : Dep) : Prop:=0≤d.op∧d.op < 256∧EVR.small d.evr
theorem bnd_depA (d : Dep) : Bnd 0 (.agg d.cs):=.agg _ fun c hc => by
 simp only [Dep.cs,List.mem_cons,List.not_mem_nil,or_false] at hc
 rcases hc with rfl | rfl | rfl | rfl | rfl
 ·exact .str _
 ·exact .int _ _
 ·exact .int _ _
 ·exact .str _
 ·exact .str _
theorem spanMeet_pc (a b : Dep) (ha : Dep.small a) (hb : Dep.small b) : PC Tryz.prog EE 150 [.agg a.cs,.agg b.cs] (.bool (meet a b)):=by
 refine PC_e hE fok150 (Nat.le_of_ble_eq_true rfl) (two_mem (bnd_depA a) (bnd_depA b)) ?_
 obtain ⟨a1,a2,a3⟩:=ha
 obtain ⟨b1,b2,b3⟩:=hb
 have hc:=evrCompare_pc a.evr b.evr a3 b3
 have h3:=evrCmp_3 a.evr b.evr
 unfold meet
 generalize evrCmp a.evr b.evr=n at hc h3
 simp only [EVR.cs] at hc
 obtain ⟨x,hx⟩ : ∃ x : Nat,a.op=x:=⟨a.op.toNat,by omega⟩
 obtain ⟨y,hy⟩ : ∃ y : Nat,b.op=y:=⟨b.op.toNat,by omega⟩
 have hx2 : x < 256:=by omega
 have hy2 : y < 256:=by omega
 have ex7 : band x 7=((x &&& 7 : Nat) : Int):=band_nat x 7 hx2 (by omega)
 have ey7 : band y 7=((y &&& 7 : Nat) : Int):=band_nat y 7 hy2 (by omega)
 rw [hx,hy,Int.toNat_natCast,Int.toNat_natCast]
 by_cases hx0 : x % 8=0
 ·have q:=(and7 x hx2).2 hx0
  rw [q] at ex7
  have q' : band x 7=0:=ex7
  simp only [ic150,go_sem,Dep.cs,hx,hy,e_band,q',hx0,true_or]
  exact frz_bool _
 ·have q : ¬ (x &&& 7=0):=fun e => hx0 ((and7 x hx2).1 e)
  have q' : ¬ band x 7=0:=by rw [ex7]; omega
  by_cases hy0 : y % 8=0
  ·have r:=(and7 y hy2).2 hy0
   rw [r] at ey7
   have r' : band y 7=0:=ey7
   simp only [ic150,go_sem,Dep.cs,hx,hy,e_band,q',r',hy0,or_true]
   exact frz_bool _
  ·have r : ¬ (y &&& 7=0):=fun e => hy0 ((and7 y hy2).1 e)
   have r' : ¬ band y 7=0:=by rw [ey7]; omega
   simp only [ic150,go_sem,Dep.cs,hx,hy,e_band,q',r',hx0,hy0,or_self]
   refine call_pc fok106 hc ?_
   have exy : band x y=((x &&& y : Nat) : Int):=band_nat x y hx2 hy2
   have hxy : x &&& y < 256:=Nat.lt_of_le_of_lt Nat.and_le_left hx2
   have exy7 : band ((x &&& y : Nat) : Int) 7=((x &&& y &&& 7 : Nat) : Int):=band_nat _ 7 hxy (by omega)
   have s1:=side_pc 1 (.inr (.inr rfl))
   have s2:=side_pc (-1) (.inl rfl)
   have n1 : ¬ ((1 : Int) < 0):=by decide
   have n2 : ¬ ((1 : Int)=0):=by decide
   have n3 : ((-1 : Int) < 0):=by decide
   rw [if_neg n1,if_neg n2] at s1
   rw [if_pos n3] at s2
   have x1 : band x 1=((x &&& 1 : Nat) : Int):=band_nat x 1 hx2 (by omega)
   have x4 : band x 4=((x &&& 4 : Nat) : Int):=band_nat x 4 hx2 (by omega)
   have y1 : band y 1=((y &&& 1 : Nat) : Int):=band_nat y 1 hy2 (by omega)
   have y4 : band y 4=((y &&& 4 : Nat) : Int):=band_nat y 4 hy2 (by omega)
   have w1 : IntKind.i64.wrap (0 - -1)=1:=by decide
   have w2 : IntKind.i64.wrap (0 - 1)=-1:=by decide
   have bt : ∀ (k i : Nat),bit (k : Int) i=k.testBit i:=fun k i => by unfold bit; rw [Int.toNat_natCast]
   have z0 : ∀ k : Nat,((k : Int)=0) ↔ k=0:=fun k => by omega
   rcases h3 with rfl | rfl | rfl
   ·have g1 : side (- -1)=2:=by decide
    have g2 : side (-1)=0:=by decide
    have m0 : ¬ ((-1 : Int)=0):=by decide
    simp only [go_sem,m0,w1,g1,g2,bt]
    refine callP_of s1 ?_
    cases hb : x.testBit 2 with
    | true =>
     have e : ¬ band x 4=0:=by rw [x4,z0,and4 x hx2,hb]; simp
     simp only [go_sem,e_band,e]
     exact frz_bool _
    | false =>
     have e : band x 4=0:=by rw [x4,z0,and4 x hx2,hb]
     simp only [go_sem,e_band,e]
     refine callP_of s2 ?_
     cases hc : y.testBit 0 with
     | true =>
      have e2 : ¬ band y 1=0:=by rw [y1,z0,and1 y hy2,hc]; simp
      simp only [go_sem,e_band,e2]
      exact frz_bool _
     | false =>
      have e2 : band y 1=0:=by rw [y1,z0,and1 y hy2,hc]
      simp only [go_sem,e_band,e2]
      exact frz_bool _
   ·simp only [go_sem,e_band,exy,exy7,bt]
    have e : (!decide (((x &&& y &&& 7 : Nat) : Int)=0))=(x.testBit 0 && y.testBit 0 || x.testBit 1 && y.testBit 1 || x.testBit 2 && y.testBit 2):=by
     by_cases hz : x &&& y &&& 7=0
     ·obtain ⟨t0,t1,t2⟩:=(andBits _ hxy).1 hz
      rw [Nat.testBit_and] at t0 t1 t2
      rw [hz,t0,t1,t2]; rfl
     ·have hz' : ¬ ((x &&& y &&& 7 : Nat) : Int)=0:=fun h => hz (by omega)
      have ht : ¬ ((x &&& y).testBit 0=false∧(x &&& y).testBit 1=false∧(x &&& y).testBit 2=false):=fun h => hz ((andBits _ hxy).2 h)
      rw [Nat.testBit_and,Nat.testBit_and,Nat.testBit_and] at ht
      rw [decide_eq_false hz']
      revert ht
      generalize (x.testBit 0 && y.testBit 0)=b0
      generalize (x.testBit 1 && y.testBit 1)=b1
      generalize (x.testBit 2 && y.testBit 2)=b2
      cases b0 <;> cases b1 <;> cases b2 <;> simp
    rw [e]
    exact frz_bool _
   ·have g1 : side (-1)=0:=by decide
    have g2 : side 1=2:=by decide
    simp only [go_sem,n2,w2,g1,g2,bt]
    refine callP_of s2 ?_
    cases hb : x.testBit 0 with
    | true =>
     have e : ¬ band x 1=0:=by rw [x1,z0,and1 x hx2,hb]; simp
     simp only [go_sem,e_band,e]
     exact frz_bool _
    | false =>
     have e : band x 1=0:=by rw [x1,z0,and1 x hx2,hb]
     simp only [go_sem,e_band,e]
     refine callP_of s1 ?_
     cases hc : y.testBit 2 with
     | true =>
      have e2 : ¬ band y 4=0:=by rw [y4,z0,and4 y hy2,hc]; simp
      simp only [go_sem,e_band,e2]
      exact frz_bool _
     | false =>
      have e2 : band y 4=0:=by rw [y4,z0,and4 y hy2,hc]
      simp only [go_sem,e_band,e2]
      exact frz_bool _
theorem bnd_dep0 (d : Dep) : Bnd 0 (.tptr d.cs):=.tptr _ fun c hc => by
 simp only [Dep.cs,List.mem_cons,List.not_mem_nil,or_false] at hc
 rcases hc with rfl | rfl | rfl | rfl | rfl
 ·exact .str _
 ·exact .int _ _
 ·exact .int _ _
 ·exact .str _
 ·exact .str _
theorem meets_pc (a d : Dep) (ha : Dep.small a) (hd : Dep.small d) : PC Tryz.prog EE 90 [.agg a.cs,.agg d.cs] (.bool (meets a d)):=by
 refine PC_e hE fok90 (Nat.le_of_ble_eq_true rfl) (two_mem (bnd_depA a) (bnd_depA d)) ?_
 have hm:=spanMeet_pc a d ha hd
 unfold meets
 simp only [Dep.cs] at hm
 by_cases h : a.name=d.name
 ·simp only [ic90,go_sem,Dep.cs,h] at hm ⊢
  refine call_pc fok150 hm ?_
  simp only [go_sem]
  exact frz_bool _
 ·simp only [ic90,go_sem,Dep.cs,h]
  exact frz_bool _
theorem depOwn_pc (n : Str) (e : EVR) : PC Tryz.prog EE 152 [.str n,.agg e.cs] (.agg (Dep.cs ⟨n,2,e⟩)):=by
 refine PC_e hE fok152 (Nat.le_of_ble_eq_true rfl) (two_mem (.str _) (bnd_evrA e)) ?_
 simp only [ic152,go_sem,EVR.cs,Dep.cs]
 exact .keep _ (.agg _ fun c hc => by
  simp only [List.mem_cons,List.not_mem_nil,or_false] at hc
  rcases hc with rfl | rfl | rfl | rfl | rfl
  ·exact .str _
  ·exact .int _ _
  ·exact .int _ _
  ·exact .str _
  ·exact .str _)
theorem pkgOwn_pc (p : Package) : PC Tryz.prog EE 92 [.agg p.cs] (.agg (own p).cs):=by
 refine PC_e hE fok92 (Nat.le_of_ble_eq_true rfl) (one_mem (bnd_pkgA p)) ?_
 have ho:=depOwn_pc p.name p.evr
 simp only [EVR.cs,Dep.cs] at ho
 simp only [ic92,go_sem,Package.cs,own,Dep.cs]
 refine call_pc fok152 ho ?_
 simp only [go_sem]
 exact .keep _ (bnd_depA (own p))
def Pkg.small (p : Package) : Prop:=EVR.small p.evr∧(∀ d∈p.provides,Dep.small d)∧(∀ d∈p.obsoletes,Dep.small d)∧p.provides.length < 2 ^ 40∧p.obsoletes.length < 2 ^ 40∧p.files.length < 2 ^ 40
theorem own_small {p : Package} (h : Pkg.small p) : Dep.small (own p):=⟨by show (0 : Int)≤2; decide,by show (2 : Int) < 256; decide,h.1⟩
theorem pkg_lenA (p : Package) : p.cs.length=15:=rfl
theorem pkg_takeA (p : Package) : p.cs.take 15=p.cs:=rfl
theorem pkg_leafA (p : Package) : p.cs.all IV.leaf=true:=rfl
theorem named_pc (p : Package) (d : Dep) (hp : Pkg.small p) (hd : Dep.small d) : PC Tryz.prog EE 32 [.agg p.cs,.agg d.cs] (.bool (named p d)):=by
 refine PC_e hE fok32 (Nat.le_of_ble_eq_true rfl) (two_mem (bnd_pkgA p) (bnd_depA d)) ?_
 have ho:=pkgOwn_pc p
 have hm:=meets_pc (own p) d (own_small hp) hd
 generalize hx : Dep.cs (own p)=x at ho hm
 simp only [ic32,go_sem,pkg_lenA,pkg_takeA,pkg_leafA,dep_len,dep_take,dep_leaf]
 refine callP_of ho ?_
 simp only [go_sem,dep_len,dep_take,dep_leaf]
 refine callP_of hm ?_
 simp only [go_sem]
 exact frz_bool _
theorem obsCl_pc (q : Package) (d : Dep) (hq : Pkg.small q) (hd : Dep.small d) : PC Tryz.prog EE 76 ([] ++ [.agg d.cs] ++ [.tptr q.cs]) (.bool (named q d)):=by
 refine PC_e hE fok76 (Nat.le_of_ble_eq_true rfl) (two_mem (bnd_depA d) (.tptr _ (bnd_pkg q))) ?_
 simp only [ic76,go_sem,pkg_lenA,pkg_takeA,pkg_leafA,dep_len,dep_take,dep_leaf]
 refine call_pc fok32 (named_pc q d hq hd) ?_
 simp only [go_sem]
 exact frz_bool _
theorem obsoletes_pc (p q : Package) (hp : Pkg.small p) (hq : Pkg.small q) : PC Tryz.prog EE 21 [.agg p.cs,.agg q.cs] (.bool (obsoletes p q)):=by
 refine PC_e hE fok21 (Nat.le_of_ble_eq_true rfl) (two_mem (bnd_pkgA p) (bnd_pkgA q)) ?_
 have hc:=conDep_pc p.obsoletes 76 [] [.tptr q.cs] (fun d => named q d) (by have:=hp.2.2.2.2.1; omega) fok76.1 fun d hd => obsCl_pc q d hq (hp.2.2.1 d hd)
 have hf : (p.cs.drop 9).head? = some (deps p.obsoletes):=rfl
 simp only [ic21,go_sem,pkg_leafA,hf]
 refine call_pc fok75 hc ?_
 simp only [go_sem]
 exact frz_bool _
theorem provCl_pc (a d : Dep) (ha : Dep.small a) (hd : Dep.small d) : PC Tryz.prog EE 89 ([] ++ [.agg a.cs] ++ [.tptr d.cs]) (.bool (meets a d)):=by
 refine PC_e hE fok89 (Nat.le_of_ble_eq_true rfl) (two_mem (bnd_depA a) (bnd_dep0 d)) ?_
 simp only [ic89,go_sem,dep_len,dep_take,dep_leaf]
 refine call_pc fok90 (meets_pc a d ha hd) ?_
 simp only [go_sem]
 exact frz_bool _
theorem indexStr_pc (l : List Str) (s : Str) (hl : l.length < 2 ^ 40) : PC Tryz.prog EE 151 [.tslice (l.map strC),.str s] (.int .i64 (findI (fun x => decide (s=x)) l 0)):=by
 refine PC_f fok151 (Nat.le_of_ble_eq_true rfl) fun σ => ?_
 simp only [ic151,go_sem]
 refine loop_up noT (fun i fr t => t=σ∧fr=[(0,.tslice (l.map strC)),(1,.str s),(7,.int .i64 l.length),(8,.int .i64 i)]∧findI (fun x => decide (s=x)) l 0=findI (fun x => decide (s=x)) (l.drop i) i) l.length ⟨rfl,rfl,rfl⟩ ?_
 rintro i fr t hi ⟨rfl,rfl,hf⟩
 by_cases hlt : i < l.length
 ·obtain ⟨x,ha,_,hdr,hget,_⟩:=at_nth l i hlt
  have c1 : (i : Int) < l.length:=by omega
  have c2 : (0 : Int)≤i:=by omega
  have w1:=wrapS (i:=i) (by omega)
  rw [hdr,findI] at hf
  by_cases e : s=x
  ·rw [if_pos (by simpa using e)] at hf
   subst e
   simp only [go_sem,c1,c2,hget,str_len,strC,hf,and_self]
  ·rw [if_neg (by simpa using e)] at hf
   simp only [go_sem,c1,c2,hget,str_len,strC,e,w1]
   exact ⟨hlt,by rw [hf]; simp only [Int.natCast_add,Int.natCast_one]⟩
 ·have hi' : i=l.length:=by omega
  subst hi'
  have c1 : ¬ (l.length : Int) < l.length:=by omega
  rw [List.drop_length] at hf
  simp only [go_sem,c1,hf,findI,and_self]
theorem hasStr_pc (l : List Str) (s : Str) (hl : l.length < 2 ^ 40) : PC Tryz.prog EE 91 [.tslice (l.map strC),.str s] (.bool (l.contains s)):=by
 refine PC_f fok91 (Nat.le_of_ble_eq_true rfl) fun σ => ?_
 simp only [ic91,go_sem]
 refine call_pc fok151 (indexStr_pc l s hl) ?_
 have e : l.any (fun x => decide (s=x))=l.contains s:=by
  induction l with
  | nil => rfl
  | cons a l ih => rw [List.any_cons,List.contains_cons,ih (by simp at hl; omega)]; congr 1; by_cases h : s=a <;> simp [h]
 simp only [go_sem,findI_any0,e,and_self]
theorem provides_pc (p : Package) (d : Dep) (hp : Pkg.small p) (hd : Dep.small d) : PC Tryz.prog EE 31 [.agg p.cs,.agg d.cs] (.bool (provides p d)):=by
 refine PC_e hE fok31 (Nat.le_of_ble_eq_true rfl) (two_mem (bnd_pkgA p) (bnd_depA d)) ?_
 have hn:=named_pc p d hp hd
 have hc:=conDep_pc p.provides 89 [] [.tptr d.cs] (fun a => meets a d) (by have:=hp.2.2.2.1; omega) fok89.1 fun a ha => provCl_pc a d (hp.2.1 a ha) hd
 have hs:=hasStr_pc p.files d.name hp.2.2.2.2.2
 have hf : (p.cs.drop 6).head? = some (deps p.provides):=rfl
 have hg : (p.cs.drop 14).head? = some (strs p.files):=rfl
 have d0 : d.cs.head? = some (.str d.name):=rfl
 have d1 : (d.cs.drop 1).head? = some (.int .u8 d.op):=rfl
 unfold provides
 cases hb : named p d with
 | true =>
  rw [hb] at hn
  simp only [ic31,go_sem,pkg_lenA,pkg_takeA,pkg_leafA,dep_len,dep_take,dep_leaf]
  refine call_pc fok32 hn ?_
  simp only [go_sem]
  exact frz_bool _
 | false =>
  rw [hb] at hn
  simp only [ic31,go_sem,pkg_lenA,pkg_takeA,pkg_leafA,dep_len,dep_take,dep_leaf]
  refine call_pc fok32 hn ?_
  simp only [go_sem,hf]
  refine call_pc fok75 hc ?_
  cases ha : p.provides.any (fun a => meets a d) with
  | true =>
   simp only [go_sem]
   exact frz_bool _
  | false =>
   by_cases h0 : d.op=0
   ·simp only [go_sem,d0,d1,h0,hg]
    refine call_pc fok91 hs ?_
    simp only [go_sem]
    exact frz_bool _
   ·simp only [go_sem,d0,d1,h0]
    exact frz_bool _
end Go.Id.Tryz
/- Indexes asked: providers,those that are named. Conditions: sizes that fit. -/
namespace Go.Id.Tryz
open Go Go.Id Go.Proofs Go.Id.Md
set_option maxRecDepth 100000
theorem provClI_pc (p : Package) (n : Int) (d : Dep) (hp : Pkg.small p) (hd : Dep.small d) : PC Tryz.prog EE 87 [.agg p.cs,.int .i64 n,.tptr d.cs] (.bool (provides p d)):=by
 refine PC_e hE fok87 (Nat.le_of_ble_eq_true rfl) (fun a ha => by
  simp only [List.mem_cons,List.not_mem_nil,or_false] at ha
  rcases ha with rfl | rfl | rfl
  ·exact bnd_pkgA p
  ·exact .int _ _
  ·exact bnd_dep0 d) ?_
 simp only [ic87,go_sem,pkg_lenA,pkg_takeA,pkg_leafA,dep_len,dep_take,dep_leaf]
 refine call_pc fok31 (provides_pc p d hp hd) ?_
 simp only [go_sem]
 exact frz_bool _
theorem namedClI_pc (p : Package) (n : Int) (d : Dep) (hp : Pkg.small p) (hd : Dep.small d) : PC Tryz.prog EE 88 [.agg p.cs,.int .i64 n,.tptr d.cs] (.bool (named p d)):=by
 refine PC_e hE fok88 (Nat.le_of_ble_eq_true rfl) (fun a ha => by
  simp only [List.mem_cons,List.not_mem_nil,or_false] at ha
  rcases ha with rfl | rfl | rfl
  ·exact bnd_pkgA p
  ·exact .int _ _
  ·exact bnd_dep0 d) ?_
 simp only [ic88,go_sem,pkg_lenA,pkg_takeA,pkg_leafA,dep_len,dep_take,dep_leaf]
 refine call_pc fok32 (named_pc p d hp hd) ?_
 simp only [go_sem]
 exact frz_bool _
theorem lkp_nm (nm : Nms) (σ : Store) (k : Str) : ∃ v,lkpI σ 2 .nilslice false (.tmap (nmV nm)) (.str k)=some v∧(v=.tslice ((nmLook nm k).map Md.intC) ∨ v=.nilslice∧nmLook nm k=[]):=by
 have h : ∀ nm : Nms,∃ r,lookL 2 (.str k) (nmV nm)=some r∧((∃ v,r=some v∧v=.tslice ((nmLook nm k).map Md.intC)) ∨ r=none∧nmLook nm k=[]):=by
  intro nm
  induction nm with
  | nil => exact ⟨none,rfl,.inr ⟨rfl,rfl⟩⟩
  | cons t ts ih =>
   obtain ⟨r,h1,h2⟩:=ih
   simp only [nmV,List.map_cons,lookL,e_keq2,nmLook] at h1 ⊢
   by_cases e : k=t.1
   ·simp only [e,decide_true,if_true]
    exact ⟨_,rfl,.inl ⟨_,rfl,rfl⟩⟩
   ·simp only [e,decide_false,if_false]
    exact ⟨r,h1,h2⟩
 obtain ⟨r,h1,h2⟩:=h nm
 rcases h2 with ⟨v,rfl,rfl⟩ | ⟨rfl,h3⟩
 ·refine ⟨.tslice ((nmLook nm k).map Md.intC),?_,.inl rfl⟩
  simp only [lkpI,mapAt,h1]
  rfl
 ·refine ⟨.nilslice,?_,.inr ⟨rfl,h3⟩⟩
  simp only [lkpI,mapAt,h1]
  rfl
theorem numsOf_at {q : Package→Bool} {l : List Package} {n : Int} (h : n∈numsOf q l) : ∃ m : Nat,n=m∧m < l.length:=by
 obtain ⟨m,h1,h2,_⟩:=numsOf_mem.1 h
 exact ⟨m,h1,h2⟩
theorem getD_at (l : List Package) (m : Nat) (h : m < l.length) : l.getD m default=l[m]:=by simp [List.getD_eq_getElem?_getD,h]
theorem idxProviders_pc (l : List Package) (d : Dep) (hl : l.length < 2 ^ 20) (hs : ∀ p∈l,Pkg.small p) (hd : Dep.small d) : PC Tryz.prog EE 28 [(idxM l).v,.agg d.cs] (.tslice ((providersM l d).map Md.intC)):=by
 have hi:=idxM_is l
 have hb:=bnd_idx (idxM l)
 refine PC_e hE fok28 (Nat.le_of_ble_eq_true rfl) (two_mem hb (bnd_depA d)) ?_
 have hlook:=hi.prov d.name
 have hsift : ∀ v,(v=.tslice ((nmLook (idxM l).prov d.name).map Md.intC) ∨ v=.nilslice∧nmLook (idxM l).prov d.name=[])→PC Tryz.prog EE 82 [(idxM l).v,v,.func (.func 87) [] [.tptr d.cs]] (.tslice ((providersM l d).map Md.intC)):=by
  intro v hv
  have h:=sift_pc (idxM l) (nmLook (idxM l).prov d.name) (by rw [hlook]; have:=numsOf_len (fun p => decide (d.name∈offK p)) l; omega) 87 [.tptr d.cs] (fun n => provides (l.getD n.toNat default) d) (one_mem (bnd_dep0 d)) fok87.1 (fun n hn => by
   rw [hlook] at hn
   obtain ⟨m,rfl,hm⟩:=numsOf_at hn
   refine ⟨m,rfl,by rw [hi.all]; exact hm,?_⟩
   have e : (idxM l).all[m]'(by rw [hi.all]; exact hm)=l[m]:=by simp only [hi.all]
   rw [e,Int.toNat_natCast,getD_at l m hm]
   exact provClI_pc l[m] m d (hs _ (List.getElem_mem hm)) hd)
  rw [providers_eq] at h
  rcases hv with rfl | ⟨rfl,h0⟩
  ·exact h
  ·rw [h0] at h
   have hw : ∀ {v : IV} {σ : Store},Bnd 0 v→Frz σ (fun _ => true=true) v v:=fun h => .keep _ (h.weak fun _ _ => rfl)
   refine PC_weak (args':=[(idxM l).v,.tslice [],.func (.func 87) [] [.tptr d.cs]]) rfl (fun σ i hi => ?_) h
   match i,hi with
   | 0,_ => exact hw hb
   | 1,_ => exact .nils
   | 2,_ => exact hw (.func _ _ _ (fun c hc => by cases hc) (one_mem (bnd_dep0 d)))
 have hx : (idxM l).v=.tptr [.tslice ((idxM l).all.map Package.cs),.tmap (nmV (idxM l).prov),.tmap (nmV (idxM l).names),.tmap (nmV (idxM l).over)]:=rfl
 have d0 : d.cs.head? = some (.str d.name):=rfl
 have hres:=bnd_ints (providersM l d)
 have hk0 : ∀ σ : Store,∃ v,lkpI σ 2 .nilslice false (.tmap (nmV (idxM l).prov)) (.str d.name)=some v∧PC Tryz.prog EE 82 [(idxM l).v,v,.func (.func 87) [] [.tptr d.cs]] (.tslice ((providersM l d).map Md.intC)):=fun σ =>
  let ⟨v,h1,h2⟩:=lkp_nm (idxM l).prov σ d.name
  ⟨v,h1,hsift v h2⟩
 clear hsift hlook
 rw [hx] at hk0 ⊢
 generalize (idxM l).all.map Package.cs=a0 at *
 simp only [ic28,go_sem,dep_len,dep_take,dep_leaf,d0]
 obtain ⟨v,hk,hsv⟩:=hk0 ⟨11,emp.obj⟩
 simp only [go_sem,hk]
 refine call_pc fok82 hsv ?_
 simp only [go_sem]
 exact .keep _ hres
theorem idxNamed_pc (l : List Package) (d : Dep) (hl : l.length < 2 ^ 20) (hs : ∀ p∈l,Pkg.small p) (hd : Dep.small d) : PC Tryz.prog EE 29 [(idxM l).v,.agg d.cs] (.tslice ((namedM l d).map Md.intC)):=by
 have hi:=idxM_is l
 have hb:=bnd_idx (idxM l)
 refine PC_e hE fok29 (Nat.le_of_ble_eq_true rfl) (two_mem hb (bnd_depA d)) ?_
 have hlook:=hi.names d.name
 have hsift : ∀ v,(v=.tslice ((nmLook (idxM l).names d.name).map Md.intC) ∨ v=.nilslice∧nmLook (idxM l).names d.name=[])→PC Tryz.prog EE 82 [(idxM l).v,v,.func (.func 88) [] [.tptr d.cs]] (.tslice ((namedM l d).map Md.intC)):=by
  intro v hv
  have h:=sift_pc (idxM l) (nmLook (idxM l).names d.name) (by rw [hlook]; have:=numsOf_len (fun p => decide (p.name=d.name)) l; omega) 88 [.tptr d.cs] (fun n => named (l.getD n.toNat default) d) (one_mem (bnd_dep0 d)) fok88.1 (fun n hn => by
   rw [hlook] at hn
   obtain ⟨m,rfl,hm⟩:=numsOf_at hn
   refine ⟨m,rfl,by rw [hi.all]; exact hm,?_⟩
   have e : (idxM l).all[m]'(by rw [hi.all]; exact hm)=l[m]:=by simp only [hi.all]
   rw [e,Int.toNat_natCast,getD_at l m hm]
   exact namedClI_pc l[m] m d (hs _ (List.getElem_mem hm)) hd)
  rw [named_eq] at h
  rcases hv with rfl | ⟨rfl,h0⟩
  ·exact h
  ·rw [h0] at h
   have hw : ∀ {v : IV} {σ : Store},Bnd 0 v→Frz σ (fun _ => true=true) v v:=fun h => .keep _ (h.weak fun _ _ => rfl)
   refine PC_weak (args':=[(idxM l).v,.tslice [],.func (.func 88) [] [.tptr d.cs]]) rfl (fun σ i hi => ?_) h
   match i,hi with
   | 0,_ => exact hw hb
   | 1,_ => exact .nils
   | 2,_ => exact hw (.func _ _ _ (fun c hc => by cases hc) (one_mem (bnd_dep0 d)))
 have hx : (idxM l).v=.tptr [.tslice ((idxM l).all.map Package.cs),.tmap (nmV (idxM l).prov),.tmap (nmV (idxM l).names),.tmap (nmV (idxM l).over)]:=rfl
 have d0 : d.cs.head? = some (.str d.name):=rfl
 have hres:=bnd_ints (namedM l d)
 have hk0 : ∀ σ : Store,∃ v,lkpI σ 2 .nilslice false (.tmap (nmV (idxM l).names)) (.str d.name)=some v∧PC Tryz.prog EE 82 [(idxM l).v,v,.func (.func 88) [] [.tptr d.cs]] (.tslice ((namedM l d).map Md.intC)):=fun σ =>
  let ⟨v,h1,h2⟩:=lkp_nm (idxM l).names σ d.name
  ⟨v,h1,hsift v h2⟩
 clear hsift hlook
 rw [hx] at hk0 ⊢
 generalize (idxM l).all.map Package.cs=a0 at *
 simp only [ic29,go_sem,dep_len,dep_take,dep_leaf,d0]
 obtain ⟨v,hk,hsv⟩:=hk0 ⟨11,emp.obj⟩
 simp only [go_sem,hk]
 refine call_pc fok82 hsv ?_
 simp only [go_sem]
 exact .keep _ hres
end Go.Id.Tryz
