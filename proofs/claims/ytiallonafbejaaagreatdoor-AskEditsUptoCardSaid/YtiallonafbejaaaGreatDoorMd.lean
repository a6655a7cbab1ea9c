/- The document's data,and what functions give,in plain words. Conditions: none; no program in sight. -/
import Derived.Test.YtiallonafbejaaaGreatDoorFwZ
set_option linter.all false
namespace Go.Id.Md
open Go Go.Id
abbrev Str:=List UInt8
structure EVR where
 epoch : Int
 ver : Str
 rel : Str
 deriving DecidableEq,Inhabited
structure Dep where
 name : Str
 op : Int
 evr : EVR
 deriving DecidableEq,Inhabited
inductive Rich where
 | mk (kind : Int) (dep : Dep) (args : List Rich)
 deriving Inhabited
def Rich.kind : Rich→Int | .mk k _ _ => k
def Rich.dep : Rich→Dep | .mk _ d _ => d
def Rich.args : Rich→List Rich | .mk _ _ a => a
structure Package where
 name : Str
 evr : EVR
 arch : Int
 vendor : Str
 provides : List Dep
 requires : List Rich
 conflicts : List Rich
 obsoletes : List Dep
 recommends : List Rich
 supplements : List Rich
 suggests : List Rich
 enhances : List Rich
 files : List Str
 deriving Inhabited
structure Repo where
 priority : Int
 packages : List Package
 deriving Inhabited
/-! ### Sizes,kinds -/
def EVR.fit (e : EVR) : Prop:=e.ver.length < 2 ^ 62∧e.rel.length < 2 ^ 62
def Dep.fit (d : Dep) : Prop:=d.name.length < 2 ^ 62∧d.evr.fit
theorem Rich.ind {p : Rich→Prop} (h : ∀ k d as,(∀ a∈as,p a)→p (.mk k d as)) (r : Rich) : p r :=
 Rich.rec (motive_1:=p) (motive_2:=fun l => ∀ a∈l,p a) (fun k d as ih => h k d as ih) (fun _ h => by cases h) (fun r rs h1 h2 a ha => by
  rcases List.mem_cons.1 ha with rfl | h
  ·exact h1
  ·exact h2 a h) r
mutual
def Rich.fit : Rich→Prop
 | .mk k d as => 0≤k∧k < 256∧d.fit∧as.length < 2 ^ 31∧Rich.fits as
def Rich.fits : List Rich→Prop
 | [] => True
 | r :: rs => r.fit∧Rich.fits rs
end
theorem Rich.fits_iff (l : List Rich) : Rich.fits l ↔ ∀ r∈l,r.fit:=by
 induction l with
 | nil => simp [Rich.fits]
 | cons r rs ih => simp [Rich.fits,ih]
theorem Rich.fit_mk {k : Int} {d : Dep} {as : List Rich} : (Rich.mk k d as).fit ↔ 0≤k∧k < 256∧d.fit∧as.length < 2 ^ 31∧∀ r∈as,r.fit:=by
 simp only [Rich.fit,Rich.fits_iff]
/-! ### As ideal values -/
def EVR.cs (e : EVR) : List IV:=[.int .i64 e.epoch,.str e.ver,.str e.rel]
def Dep.cs (d : Dep) : List IV:=[.str d.name,.int .u8 d.op,.int .i64 d.evr.epoch,.str d.evr.ver,.str d.evr.rel]
mutual
def Rich.cs : Rich→List IV
 | .mk k d as => [.int .u8 k,.str d.name,.int .u8 d.op,.int .i64 d.evr.epoch,.str d.evr.ver,.str d.evr.rel,.tslice (Rich.css as)]
def Rich.css : List Rich→List (List IV)
 | [] => []
 | r :: rs => r.cs :: Rich.css rs
end
theorem Rich.css_map (l : List Rich) : Rich.css l=l.map Rich.cs:=by
 induction l with
 | nil => rfl
 | cons r rs ih => simp only [Rich.css,ih,List.map_cons]
theorem Rich.cs_eq (r : Rich) : r.cs=[.int .u8 r.kind,.str r.dep.name,.int .u8 r.dep.op,.int .i64 r.dep.evr.epoch,.str r.dep.evr.ver,.str r.dep.evr.rel,.tslice (r.args.map Rich.cs)]:=by
 cases r with
 | mk k d as => simp only [Rich.cs,Rich.css_map,Rich.kind,Rich.dep,Rich.args]
def strC (s : Str) : List IV:=[.str s]
abbrev deps (l : List Dep) : IV:=.tslice (l.map Dep.cs)
abbrev riches (l : List Rich) : IV:=.tslice (l.map Rich.cs)
abbrev strs (l : List Str) : IV:=.tslice (l.map strC)
def Package.cs (p : Package) : List IV :=
 [.str p.name,.int .i64 p.evr.epoch,.str p.evr.ver,.str p.evr.rel,.int .u8 p.arch,.str p.vendor,deps p.provides,riches p.requires,riches p.conflicts,deps p.obsoletes,riches p.recommends,riches p.supplements,riches p.suggests,riches p.enhances,strs p.files]
def Repo.cs (r : Repo) : List IV:=[.int .i64 r.priority,.tslice (r.packages.map Package.cs)]
def Package.rows (p : Package) : List (Int × List Rich):=[(1,p.requires),(2,p.conflicts),(1,p.recommends),(3,p.supplements),(1,p.suggests),(3,p.enhances)]
/-! ### Names,versions -/
def signs : Str:=[97,98,99,100,101,102,103,104,105,106,107,108,109,110,111,112,113,114,115,116,117,118,119,120,121,122,65,66,67,68,69,70,71,72,73,74,75,76,77,78,79,80,81,82,83,84,85,86,87,88,89,90,48,49,50,51,52,53,54,55,56,57,46,95,43,45,47,58,64,126,94]
def isAlnum (b : UInt8) : Bool:=(decide (97≤b.toNat) && decide (b.toNat≤122)) || (decide (65≤b.toNat) && decide (b.toNat≤90)) || (decide (48≤b.toNat) && decide (b.toNat≤57))
def isSign (b : UInt8) : Bool:=signs.contains b
def words : List Str:=[[97,110,100],[111,114],[105,102],[101,108,115,101],[117,110,108,101,115,115],[119,105,116,104],[119,105,116,104,111,117,116]]
def nameOK (s : Str) : Bool:=decide (1≤s.length) && decide (s.length≤64) && s.all isSign && !words.contains s
def fileOK (s : Str) : Bool:=nameOK s && (s.head? == some 47)
def isVer (b : UInt8) : Bool:=isAlnum b || [46,95,43,126,94].contains b
def wordOK (s : Str) : Bool:=decide (1≤s.length) && decide (s.length≤64) && s.all isVer
def evrMay (e : EVR) (dep : Bool) : Bool:=decide (0≤e.epoch) && decide (e.epoch≤2147483647) && wordOK e.ver && (wordOK e.rel || dep && e.rel.isEmpty)
def opMay (op : Int) : Bool:=[0,1,2,3,4,6].contains op
def evr0 : EVR:=⟨0,[],[]⟩
def dep0 : Dep:=⟨[],0,evr0⟩
def depMay (d : Dep) : Bool:=nameOK d.name && opMay d.op && (if d.op=0 then decide (d.evr=evr0) else !fileOK d.name && evrMay d.evr true)
/-! ### How versions compare -/
def vkind (b : UInt8) : Nat:=if b=126 then 1 else if b=94 then 3 else if decide (97≤b) && decide (b≤122) || decide (65≤b) && decide (b≤90) then 4 else if decide (48≤b) && decide (b≤57) then 5 else 0
structure Part where
 kind : Nat
 s : Str
 deriving DecidableEq,Inhabited
def partsF : Nat→Str→List Part
 | 0,_ => []
 | _+1,[] => []
 | n+1,b :: l =>
  if vkind b=0 then partsF n l
  else if vkind b < 4 then ⟨vkind b,[]⟩ :: partsF n l
  else ⟨vkind b,if vkind b=5 then ((b :: l).takeWhile fun c => vkind c == vkind b).dropWhile (· == 48) else (b :: l).takeWhile fun c => vkind c == vkind b⟩ :: partsF n ((b :: l).dropWhile fun c => vkind c == vkind b)
def vparts (s : Str) : List Part:=partsF s.length s
def cmpI (a b : Int) : Int:=if a < b then -1 else if a=b then 0 else 1
def cmpS (a b : Str) : Int:=if Op.bytesLess a b then -1 else if a=b then 0 else 1
def partCmp (a b : Part) : Int :=
 let k:=cmpI a.kind b.kind
 if k≠0 then k else
 let n:=if a.kind=5∧b.kind=5 then cmpI a.s.length b.s.length else 0
 if n≠0 then n else cmpS a.s b.s
def partsCmp : List Part→List Part→Int
 | a :: as,b :: bs => if partCmp a b≠0 then partCmp a b else partsCmp as bs
 | _,_ => 0
def verCmp (a b : Str) : Int:=partsCmp (vparts a ++ [⟨2,[]⟩]) (vparts b ++ [⟨2,[]⟩])
def evrCmp (a b : EVR) : Int :=
 if cmpI a.epoch b.epoch≠0 then cmpI a.epoch b.epoch else
 if verCmp a.ver b.ver≠0 then verCmp a.ver b.ver else
 if a.rel=[] ∨ b.rel=[] then 0 else verCmp a.rel b.rel
def bit (op : Int) (i : Nat) : Bool:=(op.toNat).testBit i
def side (n : Int) : Nat:=if n < 0 then 0 else if n=0 then 1 else 2
def meet (a b : Dep) : Bool :=
 if a.op.toNat % 8=0 ∨ b.op.toNat % 8=0 then true else
 let n:=evrCmp a.evr b.evr
 if n=0 then bit a.op 0 && bit b.op 0 || bit a.op 1 && bit b.op 1 || bit a.op 2 && bit b.op 2
 else bit a.op (side (-n)) || bit b.op (side n)
/-! ### Rich dependencies -/
mutual
def Rich.count : Rich→Nat
 | .mk _ _ as => Rich.counts as+1
def Rich.counts : List Rich→Nat
 | [] => 0
 | r :: rs => r.count+Rich.counts rs
end
mutual
def Rich.depth : Rich→Nat
 | .mk k _ as => if k=1 then 0 else Rich.depths as+1
def Rich.depths : List Rich→Nat
 | [] => 0
 | r :: rs => max r.depth (Rich.depths rs)
end
-- All parts,and whether each stands within a With,or a Without.
mutual
def Rich.parts : Rich→Bool→List (Rich × Bool)
 | .mk k d as,alone => (.mk k d as,alone) :: Rich.partss as (alone || decide (k=6) || decide (k=7))
def Rich.partss : List Rich→Bool→List (Rich × Bool)
 | [],_ => []
 | r :: rs,alone => r.parts alone ++ Rich.partss rs alone
end
def asks (k : Int) : Nat × Nat × Bool × Nat :=
 if k=1 then (0,0,true,3) else if k=2 then (2,24,true,3) else if k=3 then (2,24,true,3) else if k=4 then (2,3,false,1)
 else if k=5 then (2,3,false,2) else if k=6 then (2,24,true,3) else if k=7 then (2,2,true,3) else (0,0,false,0)
def partOK (wh : Int) (r : Rich) (alone : Bool) : Bool :=
 let x:=asks r.kind
 !(decide ((x.2.2.2 : Int) < wh) || alone && !x.2.2.1 || decide (r.args.length < x.1) || decide (x.2.1 < r.args.length)) &&
 (if r.kind=1 then depMay r.dep else decide (r.dep=dep0))
def richMay (r : Rich) (wh : Int) : Int :=
 if wh < 1 ∨ 3 < wh then 1 else if r.count > 24 then 40 else if r.depth > 8 then 21 else if (r.parts false).all fun p => partOK wh p.1 p.2 then 0 else 4
mutual
def Rich.same : Rich→Rich→Bool
 | .mk k d as,.mk k' d' as' => decide (k=k') && decide (d=d') && Rich.sames as as'
def Rich.sames : List Rich→List Rich→Bool
 | [],[] => true
 | r :: rs,s :: ss => r.same s && Rich.sames rs ss
 | _,_ => false
end
structure Package.Fit (p : Package) : Prop where
 name : p.name.length < 2 ^ 62
 evr : p.evr.fit
 prov : p.provides.length < 2 ^ 31∧∀ d∈p.provides,d.fit
 obs : p.obsoletes.length < 2 ^ 31∧∀ d∈p.obsoletes,d.fit
 files : p.files.length < 2 ^ 31∧∀ s∈p.files,s.length < 2 ^ 62
 rich : ∀ x∈p.rows,x.2.length < 2 ^ 31∧∀ r∈x.2,r.fit∧r.count < 2 ^ 31
/-! ### Packages -/
def archOK (a : Int) : Bool:=decide (1≤a) && decide (a≤4)
def rising : List Str→Bool
 | a :: b :: l => Op.bytesLess a b && rising (b :: l)
 | _ => true
def richesMay (l : List Rich) (wh : Int) : Bool:=decide (l.length≤32) && l.all fun r => decide (richMay r wh=0)
def pkgMay (p : Package) : Bool :=
 nameOK p.name && !fileOK p.name && evrMay p.evr false && archOK p.arch && decide (p.vendor.length≤64) &&
 (decide (p.provides.length≤32) && p.provides.all depMay) && (decide (p.obsoletes.length≤32) && p.obsoletes.all depMay) && (decide (p.files.length≤32) && p.files.all fileOK) &&
 rising p.files && richesMay p.requires 1 && richesMay p.conflicts 2 && richesMay p.recommends 1 && richesMay p.supplements 3 && richesMay p.suggests 1 && richesMay p.enhances 3
def own (p : Package) : Dep:=⟨p.name,2,p.evr⟩
def meets (a d : Dep) : Bool:=decide (a.name=d.name) && meet a d
def named (p : Package) (d : Dep) : Bool:=meets (own p) d
def provides (p : Package) (d : Dep) : Bool:=named p d || p.provides.any (fun a => meets a d) || decide (d.op=0) && p.files.contains d.name
def obsoletes (p q : Package) : Bool:=p.obsoletes.any fun d => named q d
def sameL (l m : List Rich) : Bool:=Rich.sames l m
end Go.Id.Md
/- Pools,in plain words: rows of packages,and names with their numbers. Conditions: none; no program in sight. -/
namespace Go.Id.Md
open Go Go.Id
structure PRow where
 pkg : Package
 repo : Int
 prio : Int
def PRow.cs (r : PRow) : List IV:=r.pkg.cs ++ [.int .i64 r.repo,.int .i64 r.prio]
abbrev Nms:=List (Str × List Int)
def nmAdd : Nms→Str→Int→Nms
 | [],k,n => [(k,[n])]
 | t :: ts,k,n => if k=t.1 then (k,t.2 ++ [n]) :: ts else t :: nmAdd ts k n
def nmAll : Nms→Nat→List Package→Nms
 | nm,_,[] => nm
 | nm,n,p :: ps => nmAll (nmAdd nm p.name n) (n+1) ps
def intC (n : Int) : List IV:=[.int .i64 n]
def nmV (nm : Nms) : List (IV × IV):=nm.map fun t => (.str t.1,.tslice (t.2.map intC))
structure Pool where
 rows : List PRow
 inst : Int
 nm : Nms
def Pool.v (p : Pool) : IV:=.tptr [.tslice (p.rows.map PRow.cs),.int .i64 p.inst,.tmap (nmV p.nm)]
def rowsOf (l : List Package) (repo prio : Int) : List PRow:=l.map fun p => ⟨p,repo,prio⟩
theorem rowsOf_snoc (l : List Package) (x : Package) (a b : Int) : rowsOf (l ++ [x]) a b=rowsOf l a b ++ [⟨x,a,b⟩]:=by simp [rowsOf]
theorem rowsOf_len (l : List Package) (a b : Int) : (rowsOf l a b).length=l.length:=by simp [rowsOf]
def reposFrom : Nat→List Repo→List PRow × Nms→Option (List PRow × Nms)
 | _,[],st => some st
 | i,r :: rs,st => if r.priority < 0 ∨ 1024 < r.priority ∨ r.packages.all pkgMay=false then none else reposFrom (i+1) rs (st.1 ++ rowsOf r.packages i r.priority,nmAll st.2 st.1.length r.packages)
def sumLen (l : List Repo) : Nat:=(l.map fun r => r.packages.length).sum
def newM (repos : List Repo) (inst : List Package) : Pool ⊕ Int :=
 if 16 < repos.length ∨ 256 < inst.length+sumLen repos then .inr 40 else
 if inst.all pkgMay=false then .inr 4 else
 match reposFrom 0 repos (rowsOf inst (-1) 1025,nmAll [] 0 inst) with
 | some (rows,nm) => .inl ⟨rows,inst.length,nm⟩
 | none => .inr 4
def newV (r : Pool ⊕ Int) : IV:=match r with
 | .inl p => .tuple [p.v,.int .i64 0]
 | .inr e => .tuple [.nilptr,.int .i64 e]
/-! ### Names,as they lie in memory -/
abbrev NmL:=List (Str × List Int × Nat)
def mEs (L : NmL) : List (IV × IV):=L.map fun t => (.str t.1,.slice t.2.2 0 t.2.1.length 1)
def nmOf (L : NmL) : Nms:=L.map fun t => (t.1,t.2.1)
def updM : NmL→Str→Int→Nat→NmL
 | [],k,n,nid => [(k,[n],nid)]
 | t :: ts,k,n,nid => if k=t.1 then (k,t.2.1 ++ [n],nid) :: ts else t :: updM ts k n nid
def curV (L : NmL) (k : Str) : IV:=match L.find? (fun t => decide (k=t.1)) with
 | some t => .slice t.2.2 0 t.2.1.length 1
 | none => .nilslice
def curL (L : NmL) (k : Str) : List Int:=match L.find? (fun t => decide (k=t.1)) with
 | some t => t.2.1
 | none => []
theorem nmOf_upd (L : NmL) (k : Str) (n : Int) (nid : Nat) : nmOf (updM L k n nid)=nmAdd (nmOf L) k n:=by
 induction L with
 | nil => rfl
 | cons t ts ih =>
  simp only [updM,nmOf,List.map_cons,nmAdd]
  split
  ·rfl
  ·rw [List.map_cons]; congr 1
theorem look_m (L : NmL) (k : Str) : (lookL 2 (.str k) (mEs L)).map (fun r => r.getD .nilslice)=some (curV L k):=by
 induction L with
 | nil => rfl
 | cons t ts ih =>
  simp only [mEs,List.map_cons,lookL,e_keq2,curV,List.find?_cons] at ih ⊢
  by_cases h : k=t.1
  ·simp [h]
  ·simp only [h,decide_false] at ih ⊢
   exact ih
theorem look_m' (L : NmL) (k : Str) : ∃ r,lookL 2 (.str k) (mEs L)=some r∧r.getD .nilslice=curV L k:=by
 have:=look_m L k
 cases h : lookL 2 (.str k) (mEs L) with
 | none => rw [h] at this; cases this
 | some r => rw [h] at this; exact ⟨r,rfl,by simpa using this⟩
theorem upd_m (L : NmL) (k : Str) (n : Int) (nid : Nat) : updL 2 (.str k) (.slice nid 0 ((curL L k).length+1) 1) (mEs L)=some (mEs (updM L k n nid)):=by
 induction L with
 | nil => rfl
 | cons t ts ih =>
  simp only [mEs,List.map_cons,updL,e_keq2,curL,List.find?_cons,updM] at ih ⊢
  by_cases h : k=t.1
  ·simp [h]
  ·simp only [h,decide_false,if_false,List.map_cons] at ih ⊢
   rw [ih]; rfl
theorem upd_mem {k : Str} {n : Int} {nid : Nat} : ∀ {L : NmL},(L.map (·.1)).Nodup→∀ t∈updM L k n nid,(t∈L∧t.1≠k) ∨ t=(k,curL L k ++ [n],nid):=by
 intro L
 induction L with
 | nil => intro _ t ht; simp [updM] at ht; exact .inr (by rw [ht]; rfl)
 | cons u us ih =>
  intro hk t ht
  rw [List.map_cons,List.nodup_cons] at hk
  simp only [updM] at ht
  by_cases h : k=u.1
  ·rw [if_pos h] at ht
   rcases List.mem_cons.1 ht with rfl | ht
   ·right; simp [curL,h]
   ·left
    exact ⟨List.mem_cons_of_mem _ ht,fun e => hk.1 (by rw [← h,← e]; exact List.mem_map_of_mem (f:=fun x : Str × List Int × Nat => x.1) ht)⟩
  ·rw [if_neg h] at ht
   rcases List.mem_cons.1 ht with rfl | ht
   ·left; exact ⟨List.mem_cons_self ..,fun e => h e.symm⟩
   ·have e : curL (u :: us) k=curL us k:=by simp [curL,h]
    rw [e]
    rcases ih hk.2 t ht with ⟨h1,h2⟩ | h1
    ·exact .inl ⟨List.mem_cons_of_mem _ h1,h2⟩
    ·exact .inr h1
theorem upd_keys {k : Str} {n : Int} {nid : Nat} : ∀ (L : NmL),(L.map (·.1)).Nodup→((updM L k n nid).map (·.1)).Nodup∧∀ x∈(updM L k n nid).map (·.1),x=k ∨ x∈L.map (·.1):=by
 intro L
 induction L with
 | nil => intro _; simp [updM]
 | cons u us ih =>
  intro hk
  rw [List.map_cons,List.nodup_cons] at hk
  simp only [updM]
  by_cases h : k=u.1
  ·rw [if_pos h]
   refine ⟨?_,?_⟩
   ·rw [List.map_cons,List.nodup_cons]; exact ⟨by rw [h]; exact hk.1,hk.2⟩
   ·intro x hx
    simp only [List.map_cons,List.mem_cons] at hx ⊢
    rcases hx with h1 | h1
    ·exact .inl h1
    ·exact .inr (.inr h1)
  ·rw [if_neg h]
   obtain ⟨h1,h2⟩:=ih hk.2
   refine ⟨?_,?_⟩
   ·rw [List.map_cons,List.nodup_cons]
    refine ⟨fun hm => ?_,h1⟩
    rcases h2 _ hm with e | e
    ·exact h e.symm
    ·exact hk.1 e
   ·intro x hx
    simp only [List.map_cons,List.mem_cons] at hx ⊢
    rcases hx with h3 | h3
    ·exact .inr (.inl h3)
    ·rcases h2 _ h3 with e | e
     ·exact .inl e
     ·exact .inr (.inr e)
theorem upd_ids {k : Str} {n : Int} {nid : Nat} : ∀ (L : NmL),(L.map (·.2.2)).Nodup→nid ∉ L.map (·.2.2)→((updM L k n nid).map (·.2.2)).Nodup∧∀ x∈(updM L k n nid).map (·.2.2),x=nid ∨ x∈L.map (·.2.2):=by
 intro L
 induction L with
 | nil => intro _ _; simp [updM]
 | cons u us ih =>
  intro hk hn
  rw [List.map_cons,List.nodup_cons] at hk
  simp only [List.map_cons,List.mem_cons,not_or] at hn
  simp only [updM]
  by_cases h : k=u.1
  ·rw [if_pos h]
   refine ⟨?_,?_⟩
   ·rw [List.map_cons,List.nodup_cons]; exact ⟨hn.2,hk.2⟩
   ·intro x hx
    simp only [List.map_cons,List.mem_cons] at hx ⊢
    rcases hx with h1 | h1
    ·exact .inl h1
    ·exact .inr (.inr h1)
  ·rw [if_neg h]
   obtain ⟨h1,h2⟩:=ih hk.2 hn.2
   refine ⟨?_,?_⟩
   ·rw [List.map_cons,List.nodup_cons]
    refine ⟨fun hm => ?_,h1⟩
    rcases h2 _ hm with e | e
    ·exact hn.1 e.symm
    ·exact hk.1 e
   ·intro x hx
    simp only [List.map_cons,List.mem_cons] at hx ⊢
    rcases hx with h3 | h3
    ·exact .inr (.inl h3)
    ·rcases h2 _ h3 with e | e
     ·exact .inl e
     ·exact .inr (.inr e)
theorem cur_spec (L : NmL) (k : Str) : (curV L k=.nilslice∧curL L k=[]) ∨ ∃ t∈L,t.1=k∧curV L k=.slice t.2.2 0 t.2.1.length 1∧curL L k=t.2.1:=by
 unfold curV curL
 cases h : L.find? (fun t => decide (k=t.1)) with
 | none => exact .inl ⟨rfl,rfl⟩
 | some t =>
  have h1:=List.find?_some h
  exact .inr ⟨t,List.mem_of_find?_eq_some h,by simpa using (by simpa using h1 : k=t.1).symm,rfl,rfl⟩
theorem ids_inj {L : NmL} (hk : (L.map (·.1)).Nodup) (hd : (L.map (·.2.2)).Nodup) : ∀ t∈L,∀ u∈L,t.2.2=u.2.2→t=u:=by
 intro t ht u hu e
 obtain ⟨i,hi,h1⟩:=List.mem_iff_getElem.1 ht
 obtain ⟨j,hj,h2⟩:=List.mem_iff_getElem.1 hu
 have hij : i=j:=by
  have hi' : i < (L.map (·.2.2)).length:=by simpa using hi
  have hj' : j < (L.map (·.2.2)).length:=by simpa using hj
  have hp:=List.pairwise_iff_getElem.1 hd
  have e2 : (L.map (·.2.2))[i]=(L.map (·.2.2))[j]:=by simp only [List.getElem_map,h1,h2,e]
  rcases Nat.lt_trichotomy i j with h | h | h
  ·exact absurd e2 (hp i j hi' hj' h)
  ·exact h
  ·exact absurd e2.symm (hp j i hj' hi' h)
 subst hij
 rw [← h1,← h2]
end Go.Id.Md
/- What the statements of pools go over: not too much. Conditions: none; no program in sight. -/
namespace Go.Id.Md
open Go Go.Id
mutual
def Rich.ok : Rich→Prop
 | .mk k d xs => 0≤k∧k < 256∧d.fit∧xs.length < 2 ^ 62∧Rich.oks xs
def Rich.oks : List Rich→Prop
 | [] => True
 | r :: rs => r.ok∧Rich.oks rs
end
theorem Rich.oks_iff (l : List Rich) : Rich.oks l ↔ ∀ r∈l,r.ok:=by
 induction l with
 | nil => simp [Rich.oks]
 | cons r rs ih => simp [Rich.oks,ih]
theorem Rich.ok_mk {k : Int} {d : Dep} {xs : List Rich} : (Rich.mk k d xs).ok ↔ 0≤k∧k < 256∧d.fit∧xs.length < 2 ^ 62∧∀ r∈xs,r.ok:=by
 simp only [Rich.ok,Rich.oks_iff]
structure Package.Ok (p : Package) : Prop where
 name : p.name.length < 2 ^ 62
 vendor : p.vendor.length < 2 ^ 62
 evr : p.evr.fit
 prov : p.provides.length < 2 ^ 62∧∀ d∈p.provides,d.fit
 obs : p.obsoletes.length < 2 ^ 62∧∀ d∈p.obsoletes,d.fit
 files : p.files.length < 2 ^ 62∧∀ s∈p.files,s.length < 2 ^ 62
 rich : ∀ x∈p.rows,x.2.length < 2 ^ 62∧∀ r∈x.2,r.ok
def Repo.Ok (r : Repo) : Prop:=r.packages.length < 2 ^ 62∧∀ p∈r.packages,p.Ok
def lists6 (p : Package) : List (List Rich):=[p.requires,p.conflicts,p.recommends,p.supplements,p.suggests,p.enhances]
/-! ### What is the same -/
/-! ### The rows of a pool -/
def reposRows : Nat→List Repo→List PRow
 | _,[] => []
 | i,r :: rs => rowsOf r.packages i r.priority ++ reposRows (i+1) rs
theorem reposFrom_rows : ∀ (rs : List Repo) (i : Nat) (st : List PRow × Nms) (out : List PRow × Nms),reposFrom i rs st=some out→out.1=st.1 ++ reposRows i rs:=by
 intro rs
 induction rs with
 | nil => intro i st out h; simp only [reposFrom,Option.some.injEq] at h; subst h; simp [reposRows]
 | cons r rs ih =>
  intro i st out h
  simp only [reposFrom] at h
  split at h
  ·cases h
  ·rw [ih _ _ _ h]; simp [reposRows]
theorem newM_inl {repos : List Repo} {inst : List Package} {p : Pool} (h : newM repos inst=.inl p) : p.rows=rowsOf inst (-1) 1025 ++ reposRows 0 repos∧p.inst=inst.length:=by
 unfold newM at h
 split at h
 ·cases h
 split at h
 ·cases h
 split at h
 ·rename_i rows nm hr
  cases h
  exact ⟨reposFrom_rows _ _ _ _ hr,rfl⟩
 ·cases h
theorem newM_inr {repos : List Repo} {inst : List Package} {e : Int} (h : newM repos inst=.inr e) : e=40 ∨ e=4:=by
 unfold newM at h
 split at h
 ·cases h; exact .inl rfl
 split at h
 ·cases h; exact .inr rfl
 split at h
 ·cases h
 ·cases h; exact .inr rfl
end Go.Id.Md
