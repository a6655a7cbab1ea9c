/- The document's data,and what functions give,in plain words. Conditions: none; no program in sight. -/
import Derived.Test.YtlnkchkhffkofaaGreatDoorFwQ
set_option linter.all false
namespace Go.Id.Md
open Go Go.Id
abbrev Str:=List UInt8
structure EVR where
 aw6:Int
 ver:Str
 rel:Str
 deriving DecidableEq,Inhabited
structure Dep where
 name:Str
 op:Int
 evr:EVR
 deriving DecidableEq,Inhabited
inductive ab1 where
 | mk (kind:Int) (dep:Dep) (args:List ab1)
 deriving Inhabited
def ab1.kind:ab1→Int|.mk k _ _=>k
def ab1.dep:ab1→Dep|.mk _ d _=>d
def ab1.args:ab1→List ab1|.mk _ _ a=>a
structure aa4 where
 name:Str
 evr:EVR
 ez1:Int
 vendor:Str
 provides:List Dep
 requires:List ab1
 conflicts:List ab1
 ab6:List Dep
 ac1:List ab1
 ab9:List ab1
 suggests:List ab1
 ad2:List ab1
 files:List Str
 deriving Inhabited
structure ak8 where
 priority:Int
 packages:List aa4
 deriving Inhabited
/-! ### Sizes,kinds -/
def EVR.fit (e:EVR):Prop:=e.ver.length<2^62∧e.rel.length<2^62
def Dep.fit (d:Dep):Prop:=d.name.length<2^62∧d.evr.fit
theorem ab1.ind {p:ab1→Prop}(h:∀ k d aZ,(∀ a∈aZ,p a)→p (.mk k d aZ))(r:ab1):p r :=
 ab1.rec (motive_1:=p) (motive_2:=fun l=>∀ a∈l,p a) (fun k d aZ ih=>h k d aZ ih) (fun _ h=>by cases h) (fun r rs h1 h2 a ha=>by
  rcases List.mem_cons.1 ha with rfl|h
  ·exact h1
  ·exact h2 a h) r
mutual
def ab1.fit:ab1→Prop
 | .mk k d aZ=>0≤k∧k<256∧d.fit∧aZ.length<2^31∧ab1.fits aZ
def ab1.fits:List ab1→Prop
 | []=>True
 | r::rs=>r.fit∧ab1.fits rs
end
theorem ab1.gi8 (l:List ab1):ab1.fits l↔∀ r∈l,r.fit:=by
 induction l with
 | nil=>simp[ab1.fits]
 | cons r rs ih=>simp[ab1.fits,ih]
theorem ab1.co8 {k:Int}{d:Dep}{aZ:List ab1}:(ab1.mk k d aZ).fit↔0≤k∧k<256∧d.fit∧aZ.length<2^31∧∀ r∈aZ,r.fit:=by
 simp only[ab1.fit,ab1.gi8]
/-! ### As ideal values -/
def EVR.cs (e:EVR):List IV:=[.int .i64 e.aw6,.str e.ver,.str e.rel]
def Dep.cs (d:Dep):List IV:=[.str d.name,.int .u8 d.op,.int .i64 d.evr.aw6,.str d.evr.ver,.str d.evr.rel]
mutual
def ab1.cs:ab1→List IV
 | .mk k d aZ=>[.int .u8 k,.str d.name,.int .u8 d.op,.int .i64 d.evr.aw6,.str d.evr.ver,.str d.evr.rel,.aa3 (ab1.css aZ)]
def ab1.css:List ab1→List (List IV)
 | []=>[]
 | r::rs=>r.cs::ab1.css rs
end
theorem ab1.he9 (l:List ab1):ab1.css l=l.map ab1.cs:=by
 induction l with
 | nil=>rfl
 | cons r rs ih=>simp only[ab1.css,ih,List.map_cons]
theorem ab1.au4 (r:ab1):r.cs=[.int .u8 r.kind,.str r.dep.name,.int .u8 r.dep.op,.int .i64 r.dep.evr.aw6,.str r.dep.evr.ver,.str r.dep.evr.rel,.aa3 (r.args.map ab1.cs)]:=by
 cases r with
 | mk k d aZ=>simp only[ab1.cs,ab1.he9,ab1.kind,ab1.dep,ab1.args]
def bn7 (s:Str):List IV:=[.str s]
abbrev deps (l:List Dep):IV:=.aa3 (l.map Dep.cs)
abbrev ae7 (l:List ab1):IV:=.aa3 (l.map ab1.cs)
abbrev strs (l:List Str):IV:=.aa3 (l.map bn7)
def aa4.cs (p:aa4):List IV :=
 [.str p.name,.int .i64 p.evr.aw6,.str p.evr.ver,.str p.evr.rel,.int .u8 p.ez1,.str p.vendor,deps p.provides,ae7 p.requires,ae7 p.conflicts,deps p.ab6,ae7 p.ac1,ae7 p.ab9,ae7 p.suggests,ae7 p.ad2,strs p.files]
def ak8.cs (r:ak8):List IV:=[.int .i64 r.priority,.aa3 (r.packages.map aa4.cs)]
def aa4.rows (p:aa4):List (Int×List ab1):=[(1,p.requires),(2,p.conflicts),(1,p.ac1),(3,p.ab9),(1,p.suggests),(3,p.ad2)]
/-! ### Names,versions -/
def signs:Str:=[97,98,99,100,101,102,103,104,105,106,107,108,109,110,111,112,113,114,115,116,117,118,119,120,121,122,65,66,67,68,69,70,71,72,73,74,75,76,77,78,79,80,81,82,83,84,85,86,87,88,89,90,48,49,50,51,52,53,54,55,56,57,46,95,43,45,47,58,64,126,94]
def fp6 (b:UInt8):Bool:=(decide (97≤b.toNat)&&decide (b.toNat≤122))||(decide (65≤b.toNat)&&decide (b.toNat≤90))||(decide (48≤b.toNat)&&decide (b.toNat≤57))
def bo3 (b:UInt8):Bool:=signs.contains b
def words:List Str:=[[97,110,100],[111,114],[105,102],[101,108,115,101],[117,110,108,101,115,115],[119,105,116,104],[119,105,116,104,111,117,116]]
def au1 (s:Str):Bool:=decide (1≤s.length)&&decide (s.length≤64)&&s.all bo3&&!words.contains s
def bo4 (s:Str):Bool:=au1 s&&(s.head? == some 47)
def ch8 (b:UInt8):Bool:=fp6 b || [46,95,43,126,94].contains b
def bg7 (s:Str):Bool:=decide (1≤s.length)&&decide (s.length≤64)&&s.all ch8
def bg8 (e:EVR)(dep:Bool):Bool:=decide (0≤e.aw6)&&decide (e.aw6≤2147483647)&&bg7 e.ver&&(bg7 e.rel||dep&&e.rel.isEmpty)
def ey9 (op:Int):Bool:=[0,1,2,3,4,6].contains op
def hr5:EVR:=⟨0,[],[]⟩
def fp7:Dep:=⟨[],0,hr5⟩
def an4 (d:Dep):Bool:=au1 d.name&&ey9 d.op&&(if d.op=0 then decide (d.evr=hr5) else !bo4 d.name&&bg8 d.evr true)
/-! ### How versions compare -/
def ae1 (b:UInt8):Nat:=if b=126 then 1 else if b=94 then 3 else if decide (97≤b)&&decide (b≤122)||decide (65≤b)&&decide (b≤90) then 4 else if decide (48≤b)&&decide (b≤57) then 5 else 0
structure Part where
 kind:Nat
 s:Str
 deriving DecidableEq,Inhabited
def aq5:Nat→Str→List Part
 | 0,_=>[]
 | _+1,[]=>[]
 | n+1,b::l=>
  if ae1 b=0 then aq5 n l
  else if ae1 b<4 then ⟨ae1 b,[]⟩::aq5 n l
  else ⟨ae1 b,if ae1 b=5 then ((b::l).takeWhile fun c=>ae1 c==ae1 b).dropWhile (· == 48) else (b::l).takeWhile fun c=>ae1 c==ae1 b⟩::aq5 n ((b::l).dropWhile fun c=>ae1 c==ae1 b)
def ae6 (s:Str):List Part:=aq5 s.length s
def be1 (a b:Int):Int:=if a<b then -1 else if a=b then 0 else 1
def dw1 (a b:Str):Int:=if Op.bytesLess a b then -1 else if a=b then 0 else 1
def ao7 (a b:Part):Int :=
 let k:=be1 a.kind b.kind
 if k≠0 then k else
 let n:=if a.kind=5∧b.kind=5 then be1 a.s.length b.s.length else 0
 if n≠0 then n else dw1 a.s b.s
def al1:List Part→List Part→Int
 | a::aZ,b::bs=>if ao7 a b≠0 then ao7 a b else al1 aZ bs
 | _,_=>0
def ay4 (a b:Str):Int:=al1 (ae6 a++[⟨2,[]⟩]) (ae6 b++[⟨2,[]⟩])
def bt5 (a b:EVR):Int :=
 if be1 a.aw6 b.aw6≠0 then be1 a.aw6 b.aw6 else
 if ay4 a.ver b.ver≠0 then ay4 a.ver b.ver else
 if a.rel=[]∨b.rel=[] then 0 else ay4 a.rel b.rel
def bit (op:Int)(i:Nat):Bool:=(op.toNat).testBit i
def side (n:Int):Nat:=if n<0 then 0 else if n=0 then 1 else 2
def meet (a b:Dep):Bool :=
 if a.op.toNat%8=0∨b.op.toNat%8=0 then true else
 let n:=bt5 a.evr b.evr
 if n=0 then bit a.op 0&&bit b.op 0||bit a.op 1&&bit b.op 1||bit a.op 2&&bit b.op 2
 else bit a.op (side (-n))||bit b.op (side n)
/-! ### ab1 dependencies -/
mutual
def ab1.count:ab1→Nat
 | .mk _ _ aZ=>ab1.counts aZ+1
def ab1.counts:List ab1→Nat
 | []=>0
 | r::rs=>r.count+ab1.counts rs
end
mutual
def ab1.depth:ab1→Nat
 | .mk k _ aZ=>if k=1 then 0 else ab1.bg9 aZ+1
def ab1.bg9:List ab1→Nat
 | []=>0
 | r::rs=>max r.depth (ab1.bg9 rs)
end
-- All parts,and whether each stands within a With,or a Without.
mutual
def ab1.parts:ab1→Bool→List (ab1×Bool)
 | .mk k d aZ,alone=>(.mk k d aZ,alone)::ab1.bh2 aZ (alone||decide (k=6)||decide (k=7))
def ab1.bh2:List ab1→Bool→List (ab1×Bool)
 | [],_=>[]
 | r::rs,alone=>r.parts alone++ab1.bh2 rs alone
end
def asks (k:Int):Nat×Nat×Bool×Nat :=
 if k=1 then (0,0,true,3) else if k=2 then (2,24,true,3) else if k=3 then (2,24,true,3) else if k=4 then (2,3,false,1)
 else if k=5 then (2,3,false,2) else if k=6 then (2,24,true,3) else if k=7 then (2,2,true,3) else (0,0,false,0)
def ai4 (wh:Int)(r:ab1)(alone:Bool):Bool :=
 let x:=asks r.kind
 !(decide ((x.2.2.2:Int)<wh)||alone&&!x.2.2.1||decide (r.args.length<x.1)||decide (x.2.1<r.args.length)) &&
 (if r.kind=1 then an4 r.dep else decide (r.dep=fp7))
def ar2 (r:ab1)(wh:Int):Int :=
 if wh<1∨3<wh then 1 else if r.count>24 then 40 else if r.depth>8 then 21 else if (r.parts false).all fun p=>ai4 wh p.1 p.2 then 0 else 4
mutual
def ab1.same:ab1→ab1→Bool
 | .mk k d aZ,.mk k' d' as'=>decide (k=k')&&decide (d=d')&&ab1.hf4 aZ as'
def ab1.hf4:List ab1→List ab1→Bool
 | [],[]=>true
 | r::rs,s::ss=>r.same s&&ab1.hf4 rs ss
 | _,_=>false
end
structure aa4.Fit (p:aa4):Prop where
 name:p.name.length<2^62
 evr:p.evr.fit
 bf1:p.provides.length<2^31∧∀ d∈p.provides,d.fit
 obs:p.ab6.length<2^31∧∀ d∈p.ab6,d.fit
 files:p.files.length<2^31∧∀ s∈p.files,s.length<2^62
 rich:∀ x∈p.rows,x.2.length<2^31∧∀ r∈x.2,r.fit∧r.count<2^31
/-! ### Packages -/
def bt6 (a:Int):Bool:=decide (1≤a)&&decide (a≤4)
def rising:List Str→Bool
 | a::b::l=>Op.bytesLess a b&&rising (b::l)
 | _=>true
def al3 (l:List ab1)(wh:Int):Bool:=decide (l.length≤32)&&l.all fun r=>decide (ar2 r wh=0)
def ah7 (p:aa4):Bool :=
 au1 p.name&&!bo4 p.name&&bg8 p.evr false&&bt6 p.ez1&&decide (p.vendor.length≤64) &&
 (decide (p.provides.length≤32)&&p.provides.all an4)&&(decide (p.ab6.length≤32)&&p.ab6.all an4)&&(decide (p.files.length≤32)&&p.files.all bo4) &&
 rising p.files&&al3 p.requires 1&&al3 p.conflicts 2&&al3 p.ac1 1&&al3 p.ab9 3&&al3 p.suggests 1&&al3 p.ad2 3
def own (p:aa4):Dep:=⟨p.name,2,p.evr⟩
def meets (a d:Dep):Bool:=decide (a.name=d.name)&&meet a d
def named (p:aa4)(d:Dep):Bool:=meets (own p) d
def provides (p:aa4)(d:Dep):Bool:=named p d||p.provides.any (fun a=>meets a d)||decide (d.op=0)&&p.files.contains d.name
def ab6 (p q:aa4):Bool:=p.ab6.any fun d=>named q d
def hf5 (l m:List ab1):Bool:=ab1.hf4 l m
end Go.Id.Md
set_option linter.all false
namespace Go.Id.Md
open Go Go.Id
structure bb4 where
 pkg:aa4
 ei5:Int
 prio:Int
def bb4.cs (r:bb4):List IV:=r.pkg.cs++[.int .i64 r.ei5,.int .i64 r.prio]
abbrev Nms:=List (Str×List Int)
def an2:Nms→Str→Int→Nms
 | [],k,n=>[(k,[n])]
 | t::ts,k,n=>if k=t.1 then (k,t.2++[n])::ts else t::an2 ts k n
def ct4:Nms→Nat→List aa4→Nms
 | nm,_,[]=>nm
 | nm,n,p::ps=>ct4 (an2 nm p.name n) (n+1) ps
def ag9 (n:Int):List IV:=[.int .i64 n]
def nmV (nm:Nms):List (IV×IV):=nm.map fun t=>(.str t.1,.aa3 (t.2.map ag9))
structure Pool where
 rows:List bb4
 inst:Int
 nm:Nms
def Pool.v (p:Pool):IV:=.ac5 [.aa3 (p.rows.map bb4.cs),.int .i64 p.inst,.al2 (nmV p.nm)]
def rowsOf (l:List aa4)(ei5 prio:Int):List bb4:=l.map fun p=>⟨p,ei5,prio⟩
theorem eb5 (l:List aa4)(x:aa4)(a b:Int):rowsOf (l++[x]) a b=rowsOf l a b++[⟨x,a,b⟩]:=by simp[rowsOf]
theorem bm3 (l:List aa4)(a b:Int):(rowsOf l a b).length=l.length:=by simp[rowsOf]
def ah4:Nat→List ak8→List bb4×Nms→Option (List bb4×Nms)
 | _,[],st=>some st
 | i,r::rs,st=>if r.priority<0∨1024<r.priority∨r.packages.all ah7=false then none else ah4 (i+1) rs (st.1++rowsOf r.packages i r.priority,ct4 st.2 st.1.length r.packages)
def ai5 (l:List ak8):Nat:=(l.map fun r=>r.packages.length).sum
def cg5 (ab8:List ak8)(inst:List aa4):Pool ⊕ Int :=
 if 16<ab8.length∨256<inst.length+ai5 ab8 then .inr 40 else
 if inst.all ah7=false then .inr 4 else
 match ah4 0 ab8 (rowsOf inst (-1) 1025,ct4 [] 0 inst) with
 | some (rows,nm)=>.inl ⟨rows,inst.length,nm⟩
 | none=>.inr 4
def ie8 (r:Pool ⊕ Int):IV:=match r with
 | .inl p=>.tuple [p.v,.int .i64 0]
 | .inr e=>.tuple [.ae4,.int .i64 e]
/-! ### Names,aZ they lie in memory -/
abbrev NmL:=List (Str×List Int×Nat)
def mEs (L:NmL):List (IV×IV):=L.map fun t=>(.str t.1,.slice t.2.2 0 t.2.1.length 1)
def aw7 (L:NmL):Nms:=L.map fun t=>(t.1,t.2.1)
def ax3:NmL→Str→Int→Nat→NmL
 | [],k,n,nid=>[(k,[n],nid)]
 | t::ts,k,n,nid=>if k=t.1 then (k,t.2.1++[n],nid)::ts else t::ax3 ts k n nid
def cp4 (L:NmL)(k:Str):IV:=match L.find? (fun t=>decide (k=t.1)) with
 | some t=>.slice t.2.2 0 t.2.1.length 1
 | none=>.aa1
def bw1 (L:NmL)(k:Str):List Int:=match L.find? (fun t=>decide (k=t.1)) with
 | some t=>t.2.1
 | none=>[]
theorem cj8 (L:NmL)(k:Str)(n:Int)(nid:Nat):aw7 (ax3 L k n nid)=an2 (aw7 L) k n:=by
 induction L with
 | nil=>rfl
 | cons t ts ih=>
  simp only[ax3,aw7,List.map_cons,an2];split
  ·rfl
  ·rw[List.map_cons]; congr 1
theorem ie9 (L:NmL)(k:Str):(as5 2 (.str k) (mEs L)).map (fun r=>r.getD .aa1)=some (cp4 L k):=by
 induction L with
 | nil=>rfl
 | cons t ts ih=>
  simp only[mEs,List.map_cons,as5,fm6,cp4,List.find?_cons] at ih ⊢;by_cases h:k=t.1
  ·simp[h]
  ·simp only[h,decide_false] at ih ⊢;exact ih
theorem hf8 (L:NmL)(k:Str):∃ r,as5 2 (.str k) (mEs L)=some r∧r.getD .aa1=cp4 L k:=by
 have:=ie9 L k
 cases h:as5 2 (.str k) (mEs L) with
 | none=>rw[h] at this; cases this
 | some r=>rw[h] at this; exact ⟨r,rfl,by simpa using this⟩
theorem is7 (L:NmL)(k:Str)(n:Int)(nid:Nat):cl7 2 (.str k) (.slice nid 0 ((bw1 L k).length+1) 1) (mEs L)=some (mEs (ax3 L k n nid)):=by
 induction L with
 | nil=>rfl
 | cons t ts ih=>
  simp only[mEs,List.map_cons,cl7,fm6,bw1,List.find?_cons,ax3] at ih ⊢;by_cases h:k=t.1
  ·simp[h]
  ·simp only[h,decide_false,if_false,List.map_cons] at ih ⊢;rw[ih]; rfl
theorem di5 {k:Str}{n:Int}{nid:Nat}:∀ {L:NmL},(L.map (·.1)).Nodup→∀ t∈ax3 L k n nid,(t∈L∧t.1≠k)∨t=(k,bw1 L k++[n],nid):=by
 intro L
 induction L with
 | nil=>intro _ t ht; simp[ax3] at ht; exact .inr (by rw[ht]; rfl)
 | cons u us ih=>
  intro hk t ht;rw[List.map_cons,List.nodup_cons] at hk;simp only[ax3] at ht;by_cases h:k=u.1
  ·rw[if_pos h] at ht;rcases List.mem_cons.1 ht with rfl|ht
   ·right; simp[bw1,h]
   ·left;exact ⟨List.mem_cons_of_mem _ ht,fun e=>hk.1 (by rw[← h,← e]; exact List.mem_map_of_mem (f:=fun x:Str×List Int×Nat=>x.1) ht)⟩
  ·rw[if_neg h] at ht;rcases List.mem_cons.1 ht with rfl|ht
   ·left; exact ⟨List.mem_cons_self ..,fun e=>h e.symm⟩
   ·have e:bw1 (u::us) k=bw1 us k:=by simp[bw1,h]
    rw[e];rcases ih hk.2 t ht with ⟨h1,h2⟩|h1
    ·exact .inl ⟨List.mem_cons_of_mem _ h1,h2⟩
    ·exact .inr h1
theorem eh9 {k:Str}{n:Int}{nid:Nat}:∀ (L:NmL),(L.map (·.1)).Nodup→((ax3 L k n nid).map (·.1)).Nodup∧∀ x∈(ax3 L k n nid).map (·.1),x=k∨x∈L.map (·.1):=by
 intro L
 induction L with
 | nil=>intro _; simp[ax3]
 | cons u us ih=>
  intro hk;rw[List.map_cons,List.nodup_cons] at hk;simp only[ax3];by_cases h:k=u.1
  ·rw[if_pos h];refine ⟨?_,?_⟩
   ·rw[List.map_cons,List.nodup_cons]; exact ⟨by rw[h]; exact hk.1,hk.2⟩
   ·intro x hx;simp only[List.map_cons,List.mem_cons] at hx ⊢;rcases hx with h1|h1
    ·exact .inl h1
    ·exact .inr (.inr h1)
  ·rw[if_neg h];obtain ⟨h1,h2⟩:=ih hk.2;refine ⟨?_,?_⟩
   ·rw[List.map_cons,List.nodup_cons];refine ⟨fun hm=>?_,h1⟩;rcases h2 _ hm with e|e
    ·exact h e.symm
    ·exact hk.1 e
   ·intro x hx;simp only[List.map_cons,List.mem_cons] at hx ⊢;rcases hx with h3|h3
    ·exact .inr (.inl h3)
    ·rcases h2 _ h3 with e|e
     ·exact .inl e
     ·exact .inr (.inr e)
theorem fq2 {k:Str}{n:Int}{nid:Nat}:∀ (L:NmL),(L.map (·.2.2)).Nodup→nid ∉ L.map (·.2.2)→((ax3 L k n nid).map (·.2.2)).Nodup∧∀ x∈(ax3 L k n nid).map (·.2.2),x=nid∨x∈L.map (·.2.2):=by
 intro L
 induction L with
 | nil=>intro _ _; simp[ax3]
 | cons u us ih=>
  intro hk hn;rw[List.map_cons,List.nodup_cons] at hk;simp only[List.map_cons,List.mem_cons,not_or] at hn;simp only[ax3];by_cases h:k=u.1
  ·rw[if_pos h];refine ⟨?_,?_⟩
   ·rw[List.map_cons,List.nodup_cons]; exact ⟨hn.2,hk.2⟩
   ·intro x hx;simp only[List.map_cons,List.mem_cons] at hx ⊢;rcases hx with h1|h1
    ·exact .inl h1
    ·exact .inr (.inr h1)
  ·rw[if_neg h];obtain ⟨h1,h2⟩:=ih hk.2 hn.2;refine ⟨?_,?_⟩
   ·rw[List.map_cons,List.nodup_cons];refine ⟨fun hm=>?_,h1⟩;rcases h2 _ hm with e|e
    ·exact hn.1 e.symm
    ·exact hk.1 e
   ·intro x hx;simp only[List.map_cons,List.mem_cons] at hx ⊢;rcases hx with h3|h3
    ·exact .inr (.inl h3)
    ·rcases h2 _ h3 with e|e
     ·exact .inl e
     ·exact .inr (.inr e)
theorem bt9 (L:NmL)(k:Str):(cp4 L k=.aa1∧bw1 L k=[])∨∃ t∈L,t.1=k∧cp4 L k=.slice t.2.2 0 t.2.1.length 1∧bw1 L k=t.2.1:=by
 unfold cp4 bw1
 cases h:L.find? (fun t=>decide (k=t.1)) with
 | none=>exact .inl ⟨rfl,rfl⟩
 | some t=>
  have h1:=List.find?_some h;exact .inr ⟨t,List.mem_of_find?_eq_some h,by simpa using (by simpa using h1:k=t.1).symm,rfl,rfl⟩
theorem fq3 {L:NmL}(hk:(L.map (·.1)).Nodup)(hd:(L.map (·.2.2)).Nodup):∀ t∈L,∀ u∈L,t.2.2=u.2.2→t=u:=by
 intro t ht u hu e;obtain ⟨i,hi,h1⟩:=List.mem_iff_getElem.1 ht;obtain ⟨j,hj,h2⟩:=List.mem_iff_getElem.1 hu
 have hij:i=j:=by
  have hi':i<(L.map (·.2.2)).length:=by simpa using hi
  have hj':j<(L.map (·.2.2)).length:=by simpa using hj
  have hp:=List.pairwise_iff_getElem.1 hd;have e2:(L.map (·.2.2))[i]=(L.map (·.2.2))[j]:=by simp only[List.getElem_map,h1,h2,e]
  rcases Nat.lt_trichotomy i j with h|h|h
  ·exact absurd e2 (hp i j hi' hj' h)
  ·exact h
  ·exact absurd e2.symm (hp j i hj' hi' h)
 subst hij;rw[← h1,← h2]
end Go.Id.Md
/- What the statements of pools go over: not too much. Conditions: none; no program in sight. -/
namespace Go.Id.Md
open Go Go.Id
mutual
def ab1.ok:ab1→Prop
 | .mk k d xs=>0≤k∧k<256∧d.fit∧xs.length<2^62∧ab1.oks xs
def ab1.oks:List ab1→Prop
 | []=>True
 | r::rs=>r.ok∧ab1.oks rs
end
theorem ab1.hf9 (l:List ab1):ab1.oks l↔∀ r∈l,r.ok:=by
 induction l with
 | nil=>simp[ab1.oks]
 | cons r rs ih=>simp[ab1.oks,ih]
theorem ab1.gj9 {k:Int}{d:Dep}{xs:List ab1}:(ab1.mk k d xs).ok↔0≤k∧k<256∧d.fit∧xs.length<2^62∧∀ r∈xs,r.ok:=by
 simp only[ab1.ok,ab1.hf9]
structure aa4.Ok (p:aa4):Prop where
 name:p.name.length<2^62
 vendor:p.vendor.length<2^62
 evr:p.evr.fit
 bf1:p.provides.length<2^62∧∀ d∈p.provides,d.fit
 obs:p.ab6.length<2^62∧∀ d∈p.ab6,d.fit
 files:p.files.length<2^62∧∀ s∈p.files,s.length<2^62
 rich:∀ x∈p.rows,x.2.length<2^62∧∀ r∈x.2,r.ok
def ak8.Ok (r:ak8):Prop:=r.packages.length<2^62∧∀ p∈r.packages,p.Ok
def aw8 (p:aa4):List (List ab1):=[p.requires,p.conflicts,p.ac1,p.ab9,p.suggests,p.ad2]
/-! ### What is the same -/
/-! ### The rows of a pool -/
def aw9:Nat→List ak8→List bb4
 | _,[]=>[]
 | i,r::rs=>rowsOf r.packages i r.priority++aw9 (i+1) rs
theorem ct5:∀ (rs:List ak8) (i:Nat) (st:List bb4×Nms) (out:List bb4×Nms),ah4 i rs st=some out→out.1=st.1++aw9 i rs:=by
 intro rs
 induction rs with
 | nil=>intro i st out h; simp only[ah4,Option.some.injEq] at h; subst h; simp[aw9]
 | cons r rs ih=>
  intro i st out h;simp only[ah4] at h;split at h
  ·cases h
  ·rw[ih _ _ _ h]; simp[aw9]
theorem gk1 {ab8:List ak8}{inst:List aa4}{p:Pool}(h:cg5 ab8 inst=.inl p):p.rows=rowsOf inst (-1) 1025++aw9 0 ab8∧p.inst=inst.length:=by
 unfold cg5 at h;split at h
 ·cases h
 split at h
 ·cases h
 split at h
 ·rename_i rows nm hr;cases h;exact ⟨ct5 _ _ _ _ hr,rfl⟩
 ·cases h
theorem gk2 {ab8:List ak8}{inst:List aa4}{e:Int}(h:cg5 ab8 inst=.inr e):e=40∨e=4:=by
 unfold cg5 at h;split at h
 ·cases h; exact .inl rfl
 split at h
 ·cases h; exact .inr rfl
 split at h
 ·cases h
 ·cases h; exact .inr rfl
end Go.Id.Md
/- Indexes,in plain words: names with their numbers,in whatever row. Conditions: none; no program in sight. -/
namespace Go.Id.Md
open Go Go.Id
def ag2:Nms→Str→List Int
 | [],_=>[]
 | t::ts,k=>if k=t.1 then t.2 else ag2 ts k
def KN (nm:Nms):Prop:=(nm.map (·.1)).Nodup
theorem bb5 {nm:Nms}{k:Str}{n:Int}(h:KN nm)(t:Str×List Int):t∈an2 nm k n↔(t∈nm∧t.1≠k)∨t=(k,ag2 nm k++[n]):=by
 induction nm with
 | nil=>simp[an2,ag2]
 | cons u us ih=>
  have h':u.1 ∉ us.map (·.1)∧KN us:=by simpa [KN] using h
  simp only[an2,ag2];by_cases e:k=u.1
  ·rw[if_pos e,if_pos e];subst e;simp only[List.mem_cons];constructor
   ·rintro (rfl|ht)
    ·exact .inr rfl
    ·exact .inl ⟨.inr ht,fun e=>h'.1 (List.mem_map.2 ⟨t,ht,e⟩)⟩
   ·rintro (⟨rfl|ht,hne⟩|rfl)
    ·exact absurd rfl hne
    ·exact .inr ht
    ·exact .inl rfl
  ·rw[if_neg e,if_neg e];simp only[List.mem_cons,ih h'.2];constructor
   ·rintro (rfl|⟨h1,h2⟩|rfl)
    ·exact .inl ⟨.inl rfl,fun e'=>e e'.symm⟩
    ·exact .inl ⟨.inr h1,h2⟩
    ·exact .inr rfl
   ·rintro (⟨rfl|h1,h2⟩|rfl)
    ·exact .inl rfl
    ·exact .inr (.inl ⟨h1,h2⟩)
    ·exact .inr (.inr rfl)
theorem ez7 {k:Str}{n:Int}:∀ {nm:Nms},∀ x∈(an2 nm k n).map (·.1),x=k∨x∈nm.map (·.1):=by
 intro nm
 induction nm with
 | nil=>intro x hx; simpa [an2] using hx
 | cons u us ih=>
  intro x hx;simp only[an2] at hx;split at hx
  ·rename_i e; simp only[List.map_cons,List.mem_cons] at hx ⊢;rcases hx with h|h
   ·exact .inl h
   ·exact .inr (.inr h)
  ·simp only[List.map_cons,List.mem_cons] at hx ⊢;rcases hx with h|h
   ·exact .inr (.inl h)
   ·rcases ih x h with h|h
    ·exact .inl h
    ·exact .inr (.inr h)
theorem aj9 {nm:Nms}{k:Str}{n:Int}(h:KN nm):KN (an2 nm k n):=by
 induction nm with
 | nil=>simp[KN,an2]
 | cons u us ih=>
  have h':u.1 ∉ us.map (·.1)∧KN us:=by simpa [KN] using h
  simp only[an2];split
  ·rename_i e; subst e; exact h
  ·rename_i e;show ((u::an2 us k n).map (·.1)).Nodup;rw[List.map_cons,List.nodup_cons];refine ⟨fun hm=>?_,ih h'.2⟩;rcases ez7 _ hm with h1|h1
   ·exact e h1.symm
   ·exact h'.1 h1
theorem KN.nd {nm:Nms}(h:KN nm):nm.Nodup:=by
 induction nm with
 | nil=>exact List.nodup_nil
 | cons u us ih=>
  have h':u.1 ∉ us.map (·.1)∧KN us:=by simpa [KN] using h
  exact List.nodup_cons.2 ⟨fun hm=>h'.1 (List.mem_map.2 ⟨u,hm,rfl⟩),ih h'.2⟩
theorem KN.perm {nm nm':Nms}(h:KN nm)(p:nm.Perm nm'):KN nm':=(p.map (fun x:Str×List Int=>x.1)).nodup_iff.1 h
theorem dc7 {nm:Nms}(h:KN nm){t:Str×List Int}(ht:t∈nm):ag2 nm t.1=t.2:=by
 induction nm with
 | nil=>cases ht
 | cons u us ih=>
  have h':u.1 ∉ us.map (·.1)∧KN us:=by simpa [KN] using h
  simp only[ag2];rcases List.mem_cons.1 ht with rfl|ht
  ·rw[if_pos rfl]
  ·rw[if_neg (fun e=>h'.1 (List.mem_map.2 ⟨t,ht,e⟩))];exact ih h'.2 ht
theorem cp5 {nm:Nms}{k:Str}(h:k ∉ nm.map (·.1)):ag2 nm k=[]:=by
 induction nm with
 | nil=>rfl
 | cons u us ih=>
  simp only[List.map_cons,List.mem_cons,not_or] at h;simp only[ag2];rw[if_neg h.1]; exact ih h.2
theorem cp6 {nm nm':Nms}(h:KN nm)(p:nm.Perm nm')(k:Str):ag2 nm k=ag2 nm' k:=by
 by_cases hk:k∈nm.map (·.1)
 ·obtain ⟨t,ht,rfl⟩:=List.mem_map.1 hk;rw[dc7 h ht,dc7 (h.perm p) (p.mem_iff.1 ht)]
 ·rw[cp5 hk,cp5 (fun e=>hk ((p.map (·.1)).mem_iff.2 e))]
theorem bb6 {nm:Nms}(h:KN nm)(k:Str)(n:Int)(j:Str):ag2 (an2 nm k n) j=if j=k then ag2 nm k++[n] else ag2 nm j:=by
 induction nm with
 | nil=>
  simp only[an2,ag2]
  split<;>rfl
 | cons u us ih=>
  have h':u.1 ∉ us.map (·.1)∧KN us:=by simpa [KN] using h
  simp only[an2,ag2];by_cases e:k=u.1
  ·rw[if_pos e,if_pos e];simp only[ag2];by_cases ej:j=k
   ·rw[if_pos ej,if_pos ej]
   ·rw[if_neg ej,if_neg ej,if_neg (fun x=>ej (x.trans e.symm))]
  ·rw[if_neg e,if_neg e];simp only[ag2,ih h'.2];by_cases ej:j=k
   ·rw[if_pos ej,if_pos ej,if_neg (fun x=>e (ej.symm.trans x))]
   ·rw[if_neg ej,if_neg ej]
theorem bm4 {nm nm':Nms}{k:Str}{n:Int}(h:KN nm)(p:nm.Perm nm'):(an2 nm k n).Perm (an2 nm' k n):=by
 refine (List.perm_ext_iff_of_nodup (aj9 h).nd (aj9 (h.perm p)).nd).2 fun t=>?_
 rw[bb5 h,bb5 (h.perm p),cp6 h p,p.mem_iff]
theorem ez8 {nm:Nms}{k j:Str}{n:Int}(h:KN nm):(an2 (an2 nm k n) j n).Perm (an2 (an2 nm j n) k n):=by
 by_cases e:k=j
 ·subst e; exact .refl _
 refine (List.perm_ext_iff_of_nodup (aj9 (aj9 h)).nd (aj9 (aj9 h)).nd).2 fun t=>?_
 rw[bb5 (aj9 h),bb5 (aj9 h),bb5 h,bb5 h,bb6 h,bb6 h,if_neg (fun x=>e x.symm),if_neg e];constructor
 ·rintro (⟨⟨h1,h2⟩|rfl,h3⟩|rfl)
  ·exact .inl ⟨.inl ⟨h1,h3⟩,h2⟩
  ·exact .inr rfl
  ·exact .inl ⟨.inr rfl,fun x=>e x.symm⟩
 ·rintro (⟨⟨h1,h2⟩|rfl,h3⟩|rfl)
  ·exact .inl ⟨.inl ⟨h1,h3⟩,h2⟩
  ·exact .inr rfl
  ·exact .inl ⟨.inr rfl,e⟩
def ax1 (nm:Nms)(ks:List Str)(n:Int):Nms:=ks.foldl (fun m k=>an2 m k n) nm
theorem ds8 {n:Int}:∀ {ks:List Str} {nm:Nms},KN nm→KN (ax1 nm ks n)
 | [],_,h=>h
 | _::ks,_,h=>ds8 (ks:=ks) (aj9 h)
theorem cp7 {n:Int}:∀ (ks:List Str) {nm nm':Nms},KN nm→nm.Perm nm'→(ax1 nm ks n).Perm (ax1 nm' ks n)
 | [],_,_,_,p=>p
 | _::ks,_,_,h,p=>cp7 ks (aj9 h) (bm4 h p)
theorem ds9 {n:Int}{ks js:List Str}(p:ks.Perm js):∀ {nm:Nms},KN nm→(ax1 nm ks n).Perm (ax1 nm js n):=by
 induction p with
 | nil=>intro nm _; exact .refl _
 | cons x _ ih=>intro nm h; exact ih (aj9 h)
 | swap x y l=>intro nm h; exact cp7 l (aj9 (aj9 h)) (ez8 h)
 | trans p1 _ ih1 ih2=>intro nm h; exact (ih1 h).trans (ih2 h)
theorem eb6 (nm:Nms)(ks:List Str)(k:Str)(n:Int):ax1 nm (ks++[k]) n=an2 (ax1 nm ks n) k n:=by simp[ax1]
def at1 (l:List Str)(k:Str):List Str:=if k∈l then l else l++[k]
def dm8 (p:aa4):List Str:=p.files.foldl at1 ((p.provides.map (·.name)).foldl at1 [p.name])
def ao8 (nm:Nms)(ds:List Str)(n:Int):Nms:=ds.foldl (fun m k=>if n∈ag2 m k then m else an2 m k n) nm
theorem cg6 (nm:Nms)(ks:List Str)(k:Str)(n:Int):ao8 nm (ks++[k]) n=if n∈ag2 (ao8 nm ks n) k then ao8 nm ks n else an2 (ao8 nm ks n) k n:=by
 unfold ao8; rw[List.foldl_append]; rfl
structure Index where
 all:List aa4
 bf1:Nms
 names:Nms
 over:Nms
def Index.v (x:Index):IV:=.ac5 [.aa3 (x.all.map aa4.cs),.al2 (nmV x.bf1),.al2 (nmV x.names),.al2 (nmV x.over)]
def dt1 (x:Index)(n:Nat)(p:aa4):Index:=⟨x.all++[p],ax1 x.bf1 (dm8 p) n,an2 x.names p.name n,ao8 x.over (p.ab6.map (·.name)) n⟩
def idxFrom (x:Index):Nat→List aa4→Index
 | _,[]=>x
 | n,p::ps=>idxFrom (dt1 x n p) (n+1) ps
def dm9 (l:List aa4):Index:=idxFrom ⟨[],[],[],[]⟩ 0 l
theorem dt2 (ps:List aa4)(p:aa4):∀ (x:Index) (n:Nat),idxFrom x n (ps++[p])=dt1 (idxFrom x n ps) (n+ps.length) p:=by
 induction ps with
 | nil=>intro x n; rfl
 | cons q qs ih=>intro x n; show idxFrom _ (n+1) (qs++[p])=_; rw[ih,List.length_cons]; congr 1; omega
theorem ez9 (L:NmL)(k:Str):ag2 (aw7 L) k=bw1 L k:=by
 induction L with
 | nil=>rfl
 | cons t ts ih=>
  simp only[aw7,List.map_cons,ag2,bw1,List.find?_cons] at ih ⊢;by_cases h:k=t.1
  ·simp[h]
  ·simp only[h,decide_false,if_false] at ih ⊢;exact ih
end Go.Id.Md
/- Indexes,in plain words: who stands in them,by number. Conditions: none; no program in sight. -/
namespace Go.Id.Md
open Go Go.Id
def numsOf (q:aa4→Bool)(l:List aa4):List Int:=((List.range l.length).filter fun n=>q (l.getD n default)).map fun (n:Nat)=>(n:Int)
theorem bq1 (q:aa4→Bool)(l:List aa4)(p:aa4):numsOf q (l++[p])=numsOf q l++if q p then [(l.length:Int)] else []:=by
 unfold numsOf;rw[List.length_append,List.length_singleton,List.range_succ,List.filter_append,List.map_append];congr 1
 ·congr 1;refine List.filter_congr fun n hn=>?_
  have h:=List.mem_range.1 hn;simp[List.getD_eq_getElem?_getD,List.getElem?_append,h]
 ·have e:(l++[p]).getD l.length default=p:=by simp[List.getD_eq_getElem?_getD]
  simp only[List.filter_cons,List.filter_nil,e];split<;>rfl
theorem fa8 {q:aa4→Bool}{l:List aa4}{n:Int}:n∈numsOf q l↔∃ m:Nat,n=m∧m<l.length∧q (l.getD m default)=true:=by
 unfold numsOf;rw[List.mem_map];constructor
 ·rintro ⟨m,hm,rfl⟩;obtain ⟨h1,h2⟩:=List.mem_filter.1 hm;exact ⟨m,rfl,List.mem_range.1 h1,h2⟩
 ·rintro ⟨m,rfl,h1,h2⟩;exact ⟨m,List.mem_filter.2 ⟨List.mem_range.2 h1,by simpa using h2⟩,rfl⟩
theorem eb7 {n:Int}:∀ (ks:List Str) {nm:Nms},KN nm→ks.Nodup→∀ j,ag2 (ax1 nm ks n) j=ag2 nm j++if j∈ks then [n] else []:=by
 intro ks
 induction ks with
 | nil=>intro nm _ _ j; simp[ax1]
 | cons k ks ih=>
  intro nm h hnd j;obtain ⟨h1,h2⟩:=List.nodup_cons.1 hnd;show ag2 (ax1 (an2 nm k n) ks n) j=_;rw[ih (aj9 h) h2,bb6 h];by_cases e:j=k
  ·subst e; simp[h1]
  ·simp[e]
theorem fa9 {n:Int}:∀ (ks:List Str) {nm:Nms},KN nm→KN (ao8 nm ks n):=by
 intro ks
 induction ks with
 | nil=>intro nm h; exact h
 | cons k ks ih=>
  intro nm h;show KN (ao8 (if n∈ag2 nm k then nm else an2 nm k n) ks n);split
  ·exact ih h
  ·exact ih (aj9 h)
theorem dt3 {n:Int}:∀ (ks:List Str) {nm:Nms},KN nm→∀ j,ag2 (ao8 nm ks n) j=ag2 nm j++if j∈ks∧n ∉ ag2 nm j then [n] else []:=by
 intro ks
 induction ks with
 | nil=>intro nm _ j; simp[ao8]
 | cons k ks ih=>
  intro nm h j;show ag2 (ao8 (if n∈ag2 nm k then nm else an2 nm k n) ks n) j=_;by_cases hk:n∈ag2 nm k
  ·rw[if_pos hk,ih h];by_cases e:j=k
   ·subst e; simp[hk]
   ·simp[e]
  ·rw[if_neg hk,ih (aj9 h),bb6 h];by_cases e:j=k
   ·subst e; simp[hk]
   ·simp[e]
theorem fb1 {l:List Str}(h:l.Nodup)(k:Str):(at1 l k).Nodup:=by
 unfold at1;split
 ·exact h
 ·rename_i hk;rw[List.nodup_append];exact ⟨h,by simp,fun a ha b hb e=>by simp at hb; subst hb; subst e; exact hk ha⟩
theorem bq2:∀ (ks:List Str) {l:List Str},l.Nodup→(ks.foldl at1 l).Nodup
 | [],_,h=>h
 | k::ks,_,h=>bq2 ks (fb1 h k)
theorem gk3 (p:aa4):(dm8 p).Nodup:=bq2 _ (bq2 _ (by simp))
structure hg6 (x:Index) (l:List aa4):Prop where
 all:x.all=l
 kp:KN x.bf1
 kn:KN x.names
 ko:KN x.over
 bf1:∀ j,ag2 x.bf1 j=numsOf (fun p=>decide (j∈dm8 p)) l
 names:∀ j,ag2 x.names j=numsOf (fun p=>decide (p.name=j)) l
 over:∀ j,ag2 x.over j=numsOf (fun p=>decide (∃ d∈p.ab6,d.name=j)) l
theorem hg6.add {x:Index}{l:List aa4}(h:hg6 x l)(p:aa4):hg6 (dt1 x l.length p) (l++[p]) where
 all:=by show x.all++[p]=_; rw[h.all]
 kp:=ds8 h.kp
 kn:=aj9 h.kn
 ko:=fa9 _ h.ko
 bf1:=fun j=>by
  show ag2 (ax1 x.bf1 (dm8 p) _) j=_;rw[eb7 _ h.kp (gk3 p),h.bf1,bq1];simp
 names:=fun j=>by
  show ag2 (an2 x.names p.name _) j=_;rw[bb6 h.kn,h.names,h.names,bq1];by_cases e:j=p.name
  ·subst e; simp
  ·have e':¬ p.name=j:=fun h=>e h.symm
   simp[e,e']
 over:=fun j=>by
  show ag2 (ao8 x.over _ _) j=_;rw[dt3 _ h.ko,h.over,bq1]
  have hn:(l.length:Int) ∉ numsOf (fun p=>decide (∃ d∈p.ab6,d.name=j)) l:=fun hm=>by
   obtain ⟨m,e,h1,_⟩:=fa8.1 hm;omega
  simp[hn]
/-! ### Who provides -/
def fb2 (l:List aa4)(d:Dep):List Int:=numsOf (fun p=>provides p d) l
end Go.Id.Md
/- Pools of packages that may be: sizes. Conditions: none; no program in sight. -/
namespace Go.Id.Md
open Go Go.Id
theorem di6:∀ (rs:List ak8) (i:Nat) (st:List bb4×Nms) (out:List bb4×Nms),ah4 i rs st=some out→∀ r∈rs,r.packages.all ah7=true:=by
 intro rs
 induction rs with
 | nil=>intro i st out _ r hr; cases hr
 | cons x xs ih=>
  intro i st out h r hr;simp only[ah4] at h;split at h
  ·cases h
  ·rename_i hc;rcases List.mem_cons.1 hr with rfl|hr
   ·cases hb:r.packages.all ah7 with
    | true=>rfl
    | false=>exact absurd (.inr (.inr hb)) hc
   ·exact ih _ _ _ h r hr
theorem dc8 {ab8:List ak8}{inst:List aa4}{p:Pool}(h:cg5 ab8 inst=.inl p):ab8.length≤16∧inst.length+ai5 ab8≤256∧inst.all ah7=true∧∀ r∈ab8,r.packages.all ah7=true:=by
 unfold cg5 at h;split at h
 ·cases h
 rename_i hc;split at h
 ·cases h
 rename_i hm;split at h
 ·rename_i rows nm hr;exact ⟨by omega,by omega,by simpa using hm,di6 _ _ _ _ hr⟩
 ·cases h
theorem dc9 (l:List aa4)(a b:Int):(rowsOf l a b).map (·.pkg)=l:=by
 induction l with
 | nil=>rfl
 | cons x xs ih=>show x::(rowsOf xs a b).map (·.pkg)=_; rw[ih]
def bo5 (p:Pool):List aa4:=p.rows.map (·.pkg)
theorem di7:∀ (rs:List ak8) (i:Nat),(aw9 i rs).map (·.pkg)=rs.flatMap (·.packages):=by
 intro rs
 induction rs with
 | nil=>intro i; rfl
 | cons r rs ih=>intro i; simp only[aw9,List.map_append,ih,dc9,List.flatMap_cons]
theorem fq4:∀ (rs:List ak8),(rs.flatMap (·.packages)).length=ai5 rs:=by
 intro rs
 induction rs with
 | nil=>rfl
 | cons r rs ih=>simp only[List.flatMap_cons,List.length_append,ih]; rfl
theorem dt4 {ab8:List ak8}{inst:List aa4}{p:Pool}(h:cg5 ab8 inst=.inl p):bo5 p=inst++ab8.flatMap (·.packages):=by
 unfold bo5;rw[(gk1 h).1,List.map_append,di7];congr 1;exact dc9 _ _ _
theorem bu1 {ab8:List ak8}{inst:List aa4}{p:Pool}(h:cg5 ab8 inst=.inl p):p.rows.length≤256:=by
 have e:p.rows.length=(bo5 p).length:=by simp[bo5]
 rw[e,dt4 h,List.length_append,fq4];exact (dc8 h).2.1
theorem ei1 {ab8:List ak8}{inst:List aa4}{p:Pool}(h:cg5 ab8 inst=.inl p):∀ x∈bo5 p,ah7 x=true∧(x∈inst∨∃ r∈ab8,x∈r.packages):=by
 intro x hx;rw[dt4 h] at hx;obtain ⟨_,_,h1,h2⟩:=dc8 h;rcases List.mem_append.1 hx with hx|hx
 ·exact ⟨List.all_eq_true.1 h1 x hx,.inl hx⟩
 ·obtain ⟨r,hr,hxr⟩:=List.mem_flatMap.1 hx;exact ⟨List.all_eq_true.1 (h2 r hr) x hxr,.inr ⟨r,hr,hxr⟩⟩
def EVR.tiny (e:EVR):Prop:=e.ver.length≤64∧e.rel.length≤64
theorem ei2 {s:Str}(h:bg7 s=true):s.length≤64:=by
 unfold bg7 at h;simp only[Bool.and_eq_true,decide_eq_true_eq] at h;exact h.1.2
theorem ei3 {e:EVR}{b:Bool}(h:bg8 e b=true):e.tiny:=by
 unfold bg8 at h;simp only[Bool.and_eq_true,Bool.or_eq_true,decide_eq_true_eq] at h;refine ⟨ei2 h.1.2,?_⟩;rcases h.2 with h|h
 ·exact ei2 h
 ·have:=List.isEmpty_iff.1 h.2; rw[this]; exact Nat.zero_le _
theorem di8 {d:Dep}(h:an4 d=true):0≤d.op∧d.op<256∧d.evr.tiny∧d.name.length≤64:=by
 unfold an4 at h;simp only[Bool.and_eq_true] at h;obtain ⟨⟨h1,h2⟩,h3⟩:=h
 have hn:d.name.length≤64:=by
  unfold au1 at h1;simp only[Bool.and_eq_true,decide_eq_true_eq] at h1;exact h1.1.1.2
 have ho:0≤d.op∧d.op<256:=by
  unfold ey9 at h2;simp only[List.contains_iff_mem,List.mem_cons,List.not_mem_nil,or_false] at h2;omega
 refine ⟨ho.1,ho.2,?_,hn⟩;split at h3
 ·have:d.evr=hr5:=by simpa using h3
  rw[this]; exact ⟨by decide,by decide⟩
 ·simp only[Bool.and_eq_true] at h3;exact ei3 h3.2
structure aa4.Tiny (p:aa4):Prop where
 name:p.name.length≤64
 evr:p.evr.tiny
 bf1:p.provides.length≤32∧∀ d∈p.provides,0≤d.op∧d.op<256∧d.evr.tiny∧d.name.length≤64
 obs:p.ab6.length≤32∧∀ d∈p.ab6,0≤d.op∧d.op<256∧d.evr.tiny∧d.name.length≤64
 files:p.files.length≤32
theorem ei4 {p:aa4}(h:ah7 p=true):p.Tiny:=by
 unfold ah7 at h;simp only[Bool.and_eq_true,decide_eq_true_eq] at h;obtain ⟨⟨⟨⟨⟨⟨⟨⟨⟨⟨⟨⟨⟨⟨h1,_⟩,h3⟩,_⟩,_⟩,h6,h6'⟩,h7,h7'⟩,h8,_⟩,_⟩,_⟩,_⟩,_⟩,_⟩,_⟩,_⟩:=h;refine ⟨?_,ei3 h3,⟨h6,fun d hd=>di8 (List.all_eq_true.1 h6' d hd)⟩,⟨h7,fun d hd=>di8 (List.all_eq_true.1 h7' d hd)⟩,h8⟩;unfold au1 at h1;simp only[Bool.and_eq_true,decide_eq_true_eq] at h1;exact h1.1.1.2
end Go.Id.Md
/- What is asked for,in plain words: successors,newcomers,whom a job means,what fulfils it. Conditions: none; no program in sight. -/
namespace Go.Id.Md
open Go Go.Id
structure Job where
 kind:Int
 dep:Dep
 deriving DecidableEq,Inhabited
structure hr6 where
 kind:Int
 n:Int
 deriving DecidableEq,Inhabited
structure Req where
 ez1:Int
 vendor:Bool
 il2:List Job
 fb3:List hr6
 budget:Int
def Job.cs (j:Job):List IV:=[.int .u8 j.kind,.str j.dep.name,.int .u8 j.dep.op,.int .i64 j.dep.evr.aw6,.str j.dep.evr.ver,.str j.dep.evr.rel]
def hr6.cs (e:hr6):List IV:=[.int .u8 e.kind,.int .i64 e.n]
abbrev if1 (l:List Job):IV:=.aa3 (l.map Job.cs)
abbrev gt7 (l:List hr6):IV:=.aa3 (l.map hr6.cs)
def Req.cs (r:Req):List IV:=[.int .u8 r.ez1,.bool r.vendor,if1 r.il2,gt7 r.fb3,.int .i64 r.budget]
/-! ### Numbers for which something holds -/
/-! ### Architectures -/
def if2 (m a:Int):Int :=
 if m=2 then (if a=1 then 2 else if a=2 then 1 else if a=3 then 3 else 0) else
 if m=3 then (if a=1 then 2 else if a=3 then 1 else 0) else
 if m=4 then (if a=1 then 2 else if a=4 then 1 else 0) else 0
def is8 (m a:Int):Bool:=decide (0<if2 m a)
/-! ### What is asked for -/
structure fz9 where
 p:Pool
 r:Req
namespace fz9
variable (a:fz9)
def l:List aa4:=bo5 a.p
def pk (n:Int):aa4:=a.l.getD n.toNat default
def is (n:Int):Bool:=decide (0≤n)&&decide (n<a.l.length)
def inst (n:Int):Bool:=a.is n&&decide (n<a.p.inst)
def fits (n:Int):Bool:=a.is n&&is8 a.r.ez1 (a.pk n).ez1
def some (state l:List Int):Bool:=l.any fun n=>decide (n∈state)
def cs:List IV:=[a.p.v,(dm9 a.l).v,.int .u8 a.r.ez1,.bool a.r.vendor,if1 a.r.il2,gt7 a.r.fb3,.int .i64 a.r.budget,.aa3 (a.l.map aa4.cs)]
def v:IV:=.ac5 a.cs
end fz9
/-! ### Versions,turned about -/
theorem fq5 {a b:Int}:be1 a b=0↔a=b:=by
 unfold be1;split
 ·constructor
  ·intro h; omega
  ·intro h; omega
 ·split
  ·simp_all
  ·constructor
   ·intro h; omega
   ·intro h; contradiction
/-! ### What holds of it -/
namespace fz9
variable (a:fz9)
end fz9
end Go.Id.Md
/- What holds of what is asked for: fb3,states. Conditions: none; no program in sight. -/
namespace Go.Id.Md
open Go Go.Id
namespace fz9
variable (a:fz9)
/-! ### One edit more -/
variable (x:hr6)
variable {x} (hx:x.kind≠1)
include hx
end fz9
end Go.Id.Md
/- Who is better: an order; rich dependencies,whole and true: in plain words. Conditions: none; no program in sight. -/
namespace Go.Id.Md
open Go Go.Id
/-! ### Orders -/
structure WO {α:Type} (S:α→Prop) (f:α→α→Int):Prop where
 neg:∀ a b,f b a=- f a b
 tr:∀ a b c,S a→S b→S c→f a b≤0→f b c≤0→f a c≤0
theorem WO.of {α β:Type}{S:β→Prop}{f:β→β→Int}(hf:WO S f)(g:α→β):WO (fun a=>S (g a)) fun a b=>f (g a) (g b) where
 neg:=fun a b=>hf.neg _ _
 tr:=fun a b c sa sb sc=>hf.tr _ _ _ sa sb sc
theorem WO.flip {α:Type}{S:α→Prop}{f:α→α→Int}(hf:WO S f):WO S fun a b=>f b a where
 neg:=fun a b=>hf.neg b a
 tr:=fun a b c sa sb sc h1 h2=>hf.tr c b a sc sb sa h2 h1
theorem WO.sub {α:Type}{S T:α→Prop}{f:α→α→Int}(hf:WO S f)(h:∀ a,T a→S a):WO T f:=⟨hf.neg,fun a b c sa sb sc=>hf.tr a b c (h a sa) (h b sb) (h c sc)⟩
abbrev is9:Part:=⟨2,[]⟩
end Go.Id.Md
/- ab1 dependencies,whole and true; who is better: in plain words. Conditions: none; no program in sight. -/
namespace Go.Id.Md
open Go Go.Id
/-! ### Whole -/
def it1 (k:Int):Nat:=if k=4 then 3 else if k=5 then 3 else if k=7 then 2 else 24
def fq6 (k:Int)(d:Dep)(n:Nat):Bool:=decide (1<k)&&decide (k≤7)&&decide (d=fp7)&&decide (2≤n)&&decide (n≤it1 k)
mutual
def ab1.ms:ab1→Nat×Nat×Bool
 | .mk k d aZ=>if k=1 then (1,0,decide (aZ.length=0)&&an4 d) else ((ab1.msL aZ 1 0 (fq6 k d aZ.length)).1,(ab1.msL aZ 1 0 (fq6 k d aZ.length)).2.1+1,(ab1.msL aZ 1 0 (fq6 k d aZ.length)).2.2)
def ab1.msL:List ab1→Nat→Nat→Bool→Nat×Nat×Bool
 | [],p,d,ok=>(p,d,ok)
 | r::rs,p,d,ok=>if ok=true then ab1.msL rs (p+r.ms.1) (max d r.ms.2.1) r.ms.2.2 else (p,d,false)
end
/-! ### True -/
abbrev ff:List Bool→Bool:=fun _=>false
def it2 (c n:Nat):List Bool:=(List.range c).map fun m=>decide (m=n)
def iv9 (st:List Bool)(f:Nat→Bool):Bool:=(List.range st.length).any fun n=>st.getD n false&&f n
def trK (l:List aa4)(k:Int)(d:Dep)(fs:List (List Bool→Bool))(st:List Bool):Bool :=
 if k=1 then (fb2 l d).any fun n=>st.getD n.toNat false
 else if k=2 then fs.all fun f=>f st
 else if k=3 then fs.any fun f=>f st
 else if k=4 then (if (fs.getD 1 ff) st then (fs.getD 0 ff) st else decide (fs.length<3)||(fs.getD 2 ff) st)
 else if k=5 then (if (fs.getD 1 ff) st then decide (fs.length=3)&&(fs.getD 2 ff) st else (fs.getD 0 ff) st)
 else if k=6 then iv9 st fun n=>fs.all fun f=>f (it2 st.length n)
 else iv9 st fun n=>(fs.getD 0 ff) (it2 st.length n)&&!(fs.getD 1 ff) (it2 st.length n)
mutual
def ab1.tr (l:List aa4):ab1→List Bool→Bool
 | .mk k d aZ,st=>trK l k d (ab1.trs l aZ) st
def ab1.trs (l:List aa4):List ab1→List (List Bool→Bool)
 | []=>[]
 | r::rs=>(fun st=>r.tr l st)::ab1.trs l rs
end
def ab1.atoms (r:ab1):List Dep:=(r.parts false).filterMap fun p=>if p.1.kind=1 then some p.1.dep else none
/-! ### Who is better -/
structure gk4 where
 a:fz9
 it3:List Bool
def bu2 (b:Bool):List IV:=[.bool b]
namespace gk4
variable (o:gk4)
def cs:List IV:=[o.a.v,o.a.p.v,.int .u8 o.a.r.ez1,.aa3 (o.a.l.map aa4.cs),.aa3 (o.it3.map bu2)]
def v:IV:=.ac5 o.cs
def prio (n:Int):Int:=(o.a.p.rows.getD n.toNat ⟨default,0,0⟩).prio
variable (hr:∀ n,o.a.is n=true→(o.a.pk n).evr.rel≠[])
include hr
end gk4
end Go.Id.Md
set_option linter.all false
namespace Go.Id.Md
open Go Go.Id
/-! ### Ways -/
inductive Way (R:Int→Int→Bool) (L:List Int):Int→Int→Prop
 | once {n m:Int}:n∈L→m∈L→R n m=true→Way R L n m
 | step {n k m:Int}:n∈L→k∈L→R n k=true→Way R L k m→Way R L n m
section
variable {R R':Int→Int→Bool} {L L':List Int}
theorem Way.mem {n m:Int}(h:Way R L n m):n∈L∧m∈L:=by
 induction h with
 | once h1 h2 _=>exact ⟨h1,h2⟩
 | step h1 _ _ _ ih=>exact ⟨h1,ih.2⟩
theorem Way.trans {n k m:Int}(h:Way R L n k)(h2:Way R L k m):Way R L n m:=by
 induction h with
 | once h1 h3 h4=>exact .step h1 h3 h4 h2
 | step h1 h3 h4 _ ih=>exact .step h1 h3 h4 (ih h2)
theorem Way.same {n m:Int}(hL:∀ x,x∈L→x∈L')(h:Way R L n m):Way R L' n m:=by
 induction h with
 | once h1 h2 h3=>exact .once (hL _ h1) (hL _ h2) h3
 | step h1 h2 h3 _ ih=>exact .step (hL _ h1) (hL _ h2) h3 ih
theorem Way.flip {n m:Int}(h:Way R L n m):Way (fun a b=>R b a) L m n:=by
 induction h with
 | once h1 h2 h3=>exact .once h2 h1 h3
 | step h1 h2 h3 _ ih=>exact ih.trans (.once h2 h1 h3)
theorem gh9 {n m:Int}:Way (fun a b=>R b a) L m n↔Way R L n m:=⟨fun h=>h.flip,fun h=>h.flip⟩
open Classical in
noncomputable def eh5 (R:Int→Int→Bool)(L:List Int)(n m:Int):Bool:=decide (Way R L n m)
theorem ar7 {n m:Int}:eh5 R L n m=true↔Way R L n m:=by unfold eh5; exact @decide_eq_true_iff _ (_)
theorem bt1 {n m:Int}:eh5 (fun a b=>R b a) L m n=eh5 R L n m:=Bool.eq_iff_iff.2 (by rw[ar7,ar7]; exact gh9)
noncomputable def at7 (R:Int→Int→Bool)(L:List Int)(n m:Int):Bool:=R n m&&!eh5 R L m n
/-! ### The row -/
def ai1 (w:Int→Int→Bool)(left:List Int):Nat:=(left.findIdx? fun n=>!left.any fun m=>w n m).getD 0
def co5 (w:Int→Int→Bool):Nat→List Int→List Int
 | 0,_=>[]
 | k+1,left=>match left with
  | []=>[]
  | a::l=>(a::l).getD (ai1 w (a::l)) 0::co5 w k ((a::l).eraseIdx (ai1 w (a::l)))
variable {w w':Int→Int→Bool}
theorem bt2 {left:List Int}(h:left≠[]):ai1 w left<left.length:=by
 unfold ai1
 cases hf:left.findIdx? fun n=>!left.any fun m=>w n m with
 | none=>exact List.length_pos_iff.2 h
 | some i=>exact (List.findIdx?_eq_some_iff_getElem.1 hf).1
theorem eh6 (k:Nat):co5 w k []=[]:=by cases k<;>rfl
theorem aw4 {k:Nat}{left:List Int}(h:left≠[]):co5 w (k+1) left=left.getD (ai1 w left) 0::co5 w k (left.eraseIdx (ai1 w left)):=by
 cases left with
 | nil=>exact absurd rfl h
 | cons a l=>rfl
theorem az9 {l:List Int}{i:Nat}(h:i<l.length):(l.getD i 0::l.eraseIdx i).Perm l:=by
 have e:l.getD i 0=l[i]:=by simp[List.getD_eq_getElem?_getD,h]
 rw[e];clear e
 induction l generalizing i with
 | nil=>exact absurd h (Nat.not_lt_zero _)
 | cons a l ih=>
  cases i with
  | zero=>exact List.Perm.refl _
  | succ i=>
   have hi:i<l.length:=by simpa using h
   exact (List.Perm.swap _ _ _).trans ((ih hi).cons _)
theorem dr6:∀ (k:Nat) (left:List Int),left.length≤k→(co5 w k left).Perm left:=by
 intro k
 induction k with
 | zero=>intro left h; have:left=[]:=List.length_eq_zero_iff.1 (by omega); subst this; exact List.Perm.refl _
 | succ k ih=>
  intro left h;by_cases h0:left=[]
  ·subst h0; exact List.Perm.refl _
  rw[aw4 h0];have hp:=bt2 (w:=w) h0;have hl:(left.eraseIdx (ai1 w left)).length≤k:=by rw[List.length_eraseIdx_of_lt hp]; omega
  exact ((ih _ hl).cons _).trans (az9 hp)
theorem dh6 {f g:Int→Bool}:∀ {l:List Int},(∀ n∈l,f n=g n)→l.findIdx? f=l.findIdx? g:=by
 intro l
 induction l with
 | nil=>intro _; rfl
 | cons a l ih=>
  intro hf;rw[List.findIdx?_cons,List.findIdx?_cons,hf a List.mem_cons_self,ih fun n hn=>hf n (List.mem_cons_of_mem _ hn)]
theorem ea6 {left:List Int}(h:∀ n∈left,∀ m∈left,w n m=w' n m):ai1 w left=ai1 w' left:=by
 have hf:∀ n∈left,(!left.any fun m=>w n m)=!left.any fun m=>w' n m:=fun n hn=>by
  congr 1;rw[Bool.eq_iff_iff,List.any_eq_true,List.any_eq_true];constructor
  ·rintro ⟨m,hm,h1⟩; exact ⟨m,hm,by rw[← h n hn m hm]; exact h1⟩
  ·rintro ⟨m,hm,h1⟩; exact ⟨m,hm,by rw[h n hn m hm]; exact h1⟩
 unfold ai1;congr 1;exact dh6 hf
theorem ey3:∀ (k:Nat) (left:List Int),(∀ n∈left,∀ m∈left,w n m=w' n m)→co5 w k left=co5 w' k left:=by
 intro k
 induction k with
 | zero=>intro left _; rfl
 | succ k ih=>
  intro left h;by_cases h0:left=[]
  ·subst h0; rfl
  have hp:=ea6 h;have hs:∀ x∈left.eraseIdx (ai1 w' left),x∈left:=fun x hx=>List.mem_of_mem_eraseIdx hx
  rw[aw4 h0,aw4 h0,hp,ih _ fun n hn m hm=>h n (hs n hn) m (hs m hm)]
theorem dc3 {left:List Int}(h:∃ n∈left,∀ m∈left,w n m=false):∀ m∈left,w (left.getD (ai1 w left) 0) m=false:=by
 obtain ⟨n,hn,h⟩:=h
 have hs:(left.findIdx? fun n=>!left.any fun m=>w n m).isSome=true:=by
  rw[List.findIdx?_isSome,List.any_eq_true];refine ⟨n,hn,?_⟩;rw[Bool.not_eq_true',List.any_eq_false];exact fun m hm e=>by rw[h m hm] at e; cases e
 obtain ⟨i,hi⟩:=Option.isSome_iff_exists.1 hs;obtain ⟨h1,h2,_⟩:=List.findIdx?_eq_some_iff_getElem.1 hi;have e:ai1 w left=i:=by unfold ai1; rw[hi]; rfl
 have e2:left.getD i 0=left[i]:=by simp[List.getD_eq_getElem?_getD,h1]
 rw[e,e2];rw[Bool.not_eq_true',List.any_eq_false] at h2;exact fun m hm=>by simpa using h2 m hm
theorem ea7 {left:List Int}{i:Nat}(hi:i<ai1 w left)(hl:i<left.length):∃ m∈left,w left[i] m=true:=by
 unfold ai1 at hi
 cases hf:left.findIdx? fun n=>!left.any fun m=>w n m with
 | none=>rw[hf] at hi; exact absurd hi (Nat.not_lt_zero _)
 | some j=>
  rw[hf] at hi;obtain ⟨_,_,h3⟩:=List.findIdx?_eq_some_iff_getElem.1 hf;have:=h3 i hi
  simpa using this
def dh7 (w:Int→Int→Bool)(L:List Int):Prop:=∀ left:List Int,left≠[]→(∀ x∈left,x∈L)→∃ n∈left,∀ m∈left,w n m=false
theorem ie4 (f:Int→Nat):∀ l:List Int,l≠[]→∃ n∈l,∀ m∈l,f n≤f m:=by
 intro l
 induction l with
 | nil=>intro h; exact absurd rfl h
 | cons a l ih=>
  intro _;by_cases h0:l=[]
  ·subst h0; exact ⟨a,List.mem_cons_self,fun m hm=>by rw[List.mem_singleton] at hm; rw[hm]; exact Nat.le_refl _⟩
  obtain ⟨n,hn,h⟩:=ih h0;by_cases h1:f a≤f n
  ·exact ⟨a,List.mem_cons_self,fun m hm=>by
    rcases List.mem_cons.1 hm with rfl|hm
    ·exact Nat.le_refl _
    ·exact Nat.le_trans h1 (h m hm)⟩
  ·exact ⟨n,List.mem_cons_of_mem _ hn,fun m hm=>by
    rcases List.mem_cons.1 hm with rfl|hm
    ·omega
    ·exact h m hm⟩
theorem dr7 {p q:Int→Bool}:∀ {l:List Int},(∀ x∈l,p x=true→q x=true)→(∃ x∈l,q x=true∧p x=false)→l.countP p<l.countP q:=by
 intro l
 induction l with
 | nil=>rintro _ ⟨x,hx,_⟩; cases hx
 | cons a l ih=>
  rintro h ⟨x,hx,h1,h2⟩;have hle:l.countP p≤l.countP q:=List.countP_mono_left fun y hy=>h y (List.mem_cons_of_mem _ hy)
  rcases List.mem_cons.1 hx with rfl|hx
  ·rw[List.countP_cons,List.countP_cons,h1,h2];simp only[if_true,Bool.false_eq_true,if_false]; omega
  ·have:=ih (fun y hy=>h y (List.mem_cons_of_mem _ hy)) ⟨x,hx,h1,h2⟩;rw[List.countP_cons,List.countP_cons];have ha:=h a List.mem_cons_self
   cases hp:p a with
   | true=>rw[ha hp]; simp only[if_true]; omega
   | false=>simp only[Bool.false_eq_true,if_false]; omega
theorem bt3:dh7 (at7 R L) L:=by
 intro left h0 hL;obtain ⟨n,hn,hmin⟩:=ie4 (fun n=>L.countP fun k=>decide (k=n)||eh5 R L n k) left h0;refine ⟨n,hn,fun m hm=>?_⟩
 cases hw:at7 R L n m with
 | false=>rfl
 | true=>
  exfalso;unfold at7 at hw;simp only[Bool.and_eq_true,Bool.not_eq_true'] at hw;have w1:Way R L n m:=.once (hL n hn) (hL m hm) hw.1;have w2:¬ Way R L m n:=fun h=>by rw[ar7.2 h] at hw; cases hw.2
  have hne:n≠m:=fun e=>by subst e; exact w2 w1
  have:=hmin m hm
  have hlt:L.countP (fun k=>decide (k=m)||eh5 R L m k)<L.countP fun k=>decide (k=n)||eh5 R L n k:=by
   refine dr7 (fun x _ hx=>?_) ⟨n,hL n hn,by simp,?_⟩
   ·simp only[Bool.or_eq_true,decide_eq_true_eq,ar7] at hx ⊢;rcases hx with rfl|hx
    ·exact .inr w1
    ·exact .inr (w1.trans hx)
   ·simp only[Bool.or_eq_false_iff,decide_eq_false_iff_not];exact ⟨hne,Bool.eq_false_iff.2 fun h=>w2 (ar7.1 h)⟩
  omega
theorem gi1 {k:Nat}{left:List Int}(h:left.length≤k){x:Int}:x∈co5 w k left↔x∈left:=(dr6 k left h).mem_iff
theorem ey4 (hw:dh7 w L):∀ (k:Nat) (left:List Int),left.length≤k→(∀ x∈left,x∈L)→(co5 w k left).Pairwise fun x y=>w x y=false:=by
 intro k
 induction k with
 | zero=>intro left h _; exact List.Pairwise.nil
 | succ k ih=>
  intro left h hL;by_cases h0:left=[]
  ·subst h0; exact List.Pairwise.nil
  rw[aw4 h0];have hp:=bt2 (w:=w) h0;have hl:(left.eraseIdx (ai1 w left)).length≤k:=by rw[List.length_eraseIdx_of_lt hp]; omega
  have hs:∀ x∈left.eraseIdx (ai1 w left),x∈left:=fun x hx=>List.mem_of_mem_eraseIdx hx
  refine List.pairwise_cons.2 ⟨fun y hy=>dc3 (hw left h0 hL) y (hs y ((gi1 hl).1 hy)),ih _ hl fun x hx=>hL x (hs x hx)⟩
def bg4 (r:Int→Int→Prop)(l:List Int):Prop:=∀ i,i+1<l.length→r (l.getD i 0) (l.getD (i+1) 0)
theorem ey5 {r:Int→Int→Prop}{a b:Int}{l:List Int}(h1:r a b)(h2:bg4 r (b::l)):bg4 r (a::b::l):=by
 intro i hi
 cases i with
 | zero=>exact h1
 | succ i=>exact h2 i (by simpa using hi)
theorem fp3 (hw:dh7 w L):∀ (k:Nat) (left:List Int),left.length≤k→(∀ x∈left,x∈L)→left.Pairwise (· < ·)→bg4 (fun x y=>y<x→w y x=true) (co5 w k left):=by
 intro k
 induction k with
 | zero=>intro left h _ _ i hi; exact absurd hi (Nat.not_lt_zero _)
 | succ k ih=>
  intro left h hL hup;by_cases h0:left=[]
  ·subst h0; intro i hi; exact absurd hi (Nat.not_lt_zero _)
  rw[aw4 h0];have hp:=bt2 (w:=w) h0;have hl:(left.eraseIdx (ai1 w left)).length≤k:=by rw[List.length_eraseIdx_of_lt hp]; omega
  have hs:∀ x∈left.eraseIdx (ai1 w left),x∈left:=fun x hx=>List.mem_of_mem_eraseIdx hx
  have hL2:∀ x∈left.eraseIdx (ai1 w left),x∈L:=fun x hx=>hL x (hs x hx)
  have hi:=ih _ hl hL2 (hup.sublist (List.eraseIdx_sublist _ _));by_cases h1:left.eraseIdx (ai1 w left)=[]
  ·rw[h1,eh6]; intro i hi; simp only[List.length_cons,List.length_nil] at hi; omega
  obtain ⟨k',rfl⟩:∃ k',k=k'+1:=⟨k-1,by
   have:=List.length_pos_iff.2 h1; omega⟩
  rw[aw4 h1] at hi ⊢;refine ey5 (fun hlt=>?_) hi;have hp2:=bt2 (w:=w) h1;have hfree:=dc3 (hw _ h1 hL2);generalize hb:(left.eraseIdx (ai1 w left)).getD (ai1 w (left.eraseIdx (ai1 w left))) 0=b at *
  have hbm:b∈left.eraseIdx (ai1 w left):=by
   rw[← hb]; simp[List.getD_eq_getElem?_getD,hp2]
  obtain ⟨j,hj,hjb⟩:=List.mem_iff_getElem.1 (hs b hbm);have ha:left.getD (ai1 w left) 0=left[ai1 w left]:=by simp[List.getD_eq_getElem?_getD,hp]
  have hjlt:j<ai1 w left:=by
   rcases Nat.lt_trichotomy j (ai1 w left) with h|h|h
   ·exact h
   ·subst h; rw[ha,hjb] at hlt; omega
   ·have:=List.pairwise_iff_getElem.1 hup _ _ hp hj h;rw[ha] at hlt; omega
  obtain ⟨m,hm,hwm⟩:=ea7 hjlt hj;rw[hjb] at hwm;rcases List.mem_cons.1 ((az9 hp).mem_iff.2 hm) with e|e
  ·rw[e] at hwm; exact hwm
  ·rw[hfree m e] at hwm; cases hwm
end
/-! ### Steps -/
structure Step where
 kind:Int
 p:Int
 deriving DecidableEq,Inhabited
def Step.cs (s:Step):List IV:=[.int .u8 s.kind,.int .i64 s.p]
abbrev af7 (l:List Step):IV:=.aa3 (l.map Step.cs)
def aj8 (k:Int):Int:=if k=7∨k=8 then 1 else if k=6 then 2 else 0
def ab4 (l:List Step)(k:Int):List Int:=(l.filter fun s=>decide (aj8 s.kind=k)).map (·.p)
def bt4 (l:List Int):List Int:=l.mergeSort fun x y=>decide (x≤y)
def bn6 (l:List Step)(n:Int):Int:=match l.find? fun s=>decide (s.p=n) with
 | some s=>s.kind
 | none=>0
noncomputable def dr8 (R:Int→Int→Bool)(l:List Int):List Int:=co5 (at7 R l) l.length (bt4 l)
noncomputable def cg2 (R:Int→Int→Bool)(l:List Step):List Int:=dr8 R (ab4 l 0)++(bt4 (ab4 l 1)++dr8 (fun a b=>R b a) (ab4 l 2))
noncomputable def ad8 (R:Int→Int→Bool)(l:List Step):List Step:=(cg2 R l).map fun n=>⟨bn6 l n,n⟩
theorem ai3 (l:List Int):(bt4 l).Perm l:=List.mergeSort_perm _ _
theorem ea8 (l:List Int):(bt4 l).Pairwise (·≤·):=by
 have h:=List.pairwise_mergeSort (le:=fun x y:Int=>decide (x≤y)) (fun a b c h1 h2=>by
  simp only[decide_eq_true_eq] at *; omega) (fun a b=>by simp only[Bool.or_eq_true,decide_eq_true_eq]; omega) l
 exact h.imp fun h=>of_decide_eq_true h
theorem fp4 {l:List Int}(h:l.Nodup):(bt4 l).Pairwise (· < ·):=by
 have h1:(bt4 l).Nodup:=(ai3 l).nodup_iff.2 h;exact (ea8 l).imp₂ (fun {x y} a b=>by have b':x≠y:=b; omega) h1
theorem ey6:∀ {a b:List Int},a.Perm b→a.Pairwise (·≤·)→b.Pairwise (·≤·)→a=b:=fun h h1 h2=>List.Perm.eq_of_pairwise (fun _ _ _ _ x y=>Int.le_antisymm x y) h1 h2 h
theorem cj4 {a b:List Int}(h:a.Perm b)(hu:a.Pairwise (·≤·)):a=bt4 b:=ey6 (h.trans (ai3 b).symm) hu (ea8 b)
theorem as9 (R:Int→Int→Bool)(l:List Int):(dr8 R l).Perm l:=(dr6 _ _ (by rw[(ai3 l).length_eq]; exact Nat.le_refl _)).trans (ai3 l)
theorem dc4 (R:Int→Int→Bool)(l:List Int):(dr8 R l).Pairwise fun x y=>at7 R l x y=false :=
 ey4 bt3 _ _ (by rw[(ai3 l).length_eq]; exact Nat.le_refl _) fun x hx=>(ai3 l).mem_iff.1 hx
theorem dr9 {R:Int→Int→Bool}{l:List Int}(h:l.Nodup):bg4 (fun x y=>y<x→at7 R l y x=true) (dr8 R l):=
 fp3 bt3 _ _ (by rw[(ai3 l).length_eq]; exact Nat.le_refl _) (fun x hx=>(ai3 l).mem_iff.1 hx) (fp4 h)
section
variable {R:Int→Int→Bool} {l l':List Step}
def eh7 (l:List Step):Prop:=(l.map (·.p)).Nodup
theorem dh8 (hd:eh7 l){s:Step}(hs:s∈l):bn6 l s.p=s.kind:=by
 unfold bn6
 have hf:(l.find? fun t=>decide (t.p=s.p))=some s:=by
  unfold eh7 at hd
  induction l with
  | nil=>cases hs
  | cons t l ih=>
   rw[List.map_cons,List.nodup_cons] at hd;rw[List.find?_cons];rcases List.mem_cons.1 hs with rfl|hs
   ·simp
   ·have hne:¬ t.p=s.p:=fun e=>hd.1 (e▸List.mem_map.2 ⟨s,hs,rfl⟩)
    simp only[hne,decide_false];exact ih hd.2 hs
 rw[hf]
theorem bg5 {k n:Int}:n∈ab4 l k↔∃ s∈l,s.p=n∧aj8 s.kind=k:=by
 unfold ab4;rw[List.mem_map];constructor
 ·rintro ⟨s,hs,rfl⟩;obtain ⟨h1,h2⟩:=List.mem_filter.1 hs;exact ⟨s,h1,rfl,of_decide_eq_true h2⟩
 ·rintro ⟨s,hs,rfl,h⟩;exact ⟨s,List.mem_filter.2 ⟨hs,decide_eq_true h⟩,rfl⟩
theorem bm1 (k:Int):aj8 k=0∨aj8 k=1∨aj8 k=2:=by
 unfold aj8;split
 ·exact .inr (.inl rfl)
 ·split
  ·exact .inr (.inr rfl)
  ·exact .inl rfl
theorem ak9 (hd:eh7 l)(k:Int):(ab4 l k).Nodup:=by
 have h:(ab4 l k).Sublist (l.map (·.p)):=(List.filter_sublist (l:=l) (p:=fun s:Step=>decide (aj8 s.kind=k))).map _;exact List.Nodup.sublist h hd
theorem ea9 (hd:eh7 l){k n:Int}(h:n∈ab4 l k):aj8 (bn6 l n)=k∧(⟨bn6 l n,n⟩:Step)∈l:=by
 obtain ⟨s,hs,rfl,hk⟩:=bg5.1 h;rw[dh8 hd hs];exact ⟨hk,hs⟩
theorem fp5:(ab4 l 0++(ab4 l 1++ab4 l 2)).Perm (l.map (·.p)):=by
 induction l with
 | nil=>exact List.Perm.refl _
 | cons s l ih=>
  unfold ab4 at ih ⊢;simp only[List.filter_cons,List.map_cons];rcases bm1 s.kind with h|h|h<;>rw[h]
  ·exact ih.cons _
  ·exact (List.perm_middle.trans (List.Perm.refl _)).trans (ih.cons _)
  ·have e:∀ a b c:List Int,(a++(b++s.p::c)).Perm (s.p::(a++(b++c))):=fun a b c=>by
    rw[← List.append_assoc,← List.append_assoc]; exact List.perm_middle
   exact (e _ _ _).trans (ih.cons _)
theorem bg6:(cg2 R l).Perm (l.map (·.p)):=by
 refine List.Perm.trans ?_ (fp5 (l:=l));exact (as9 _ _).append ((ai3 _).append (as9 _ _))
theorem ey8:(ad8 R l).length=l.length:=by
 unfold ad8;rw[List.length_map,bg6.length_eq,List.length_map]
theorem ds2 {r:Int→Int→Prop}{a b:List Int}(h1:bg4 r a)(h2:bg4 r b)(h3:∀ x∈a,∀ y∈b,r x y):bg4 r (a++b):=by
 intro i hi;rw[List.length_append] at hi;by_cases c1:i+1<a.length
 ·have:=h1 i c1;simp only[List.getD_eq_getElem?_getD] at this ⊢;rw[List.getElem?_append_left (by omega),List.getElem?_append_left c1]; exact this
 by_cases c2:a.length≤i
 ·have:=h2 (i-a.length) (by omega);simp only[List.getD_eq_getElem?_getD] at this ⊢;rw[List.getElem?_append_right c2,List.getElem?_append_right (by omega)];have e:i+1-a.length=i-a.length+1:=by omega
  rw[e]; exact this
 ·have c3:i<a.length:=by omega
  have c4:i+1-a.length<b.length:=by omega
  have e1:(a++b).getD i 0=a[i]:=by simp[List.getD_eq_getElem?_getD,List.getElem?_append_left c3,c3]
  have e2:(a++b).getD (i+1) 0=b[i+1-a.length]:=by
   rw[List.getD_eq_getElem?_getD,List.getElem?_append_right (by omega),List.getElem?_eq_getElem c4]; rfl
  rw[e1,e2];exact h3 _ (List.getElem_mem _) _ (List.getElem_mem _)
theorem gi2 {r:Int→Int→Prop}{a:List Int}(h:a.Pairwise r):bg4 r a:=by
 intro i hi;have:=List.pairwise_iff_getElem.1 h i (i+1) (by omega) hi (by omega);have e1:a.getD i 0=a[i]:=by simp[List.getD_eq_getElem?_getD,show i<a.length by omega]
 have e2:a.getD (i+1) 0=a[i+1]:=by simp[List.getD_eq_getElem?_getD,hi]
 rw[e1,e2]; exact this
theorem co6 {r r':Int→Int→Prop}{a:List Int}(h:bg4 r a)(hr:∀ x∈a,∀ y∈a,r x y→r' x y):bg4 r' a:=fun i hi=>by
 refine hr _ ?_ _ ?_ (h i hi)
 ·rw[List.getD_eq_getElem?_getD,List.getElem?_eq_getElem (show i<a.length by omega)]; exact List.getElem_mem _
 ·rw[List.getD_eq_getElem?_getD,List.getElem?_eq_getElem hi]; exact List.getElem_mem _
def al7 (l:List Step)(n:Int):Int:=aj8 (bn6 l n)
structure Beside (R:Int→Int→Bool) (l:List Step) (x y:Int):Prop where
 part:al7 l x≤al7 l y
 one:al7 l x=al7 l y→al7 l y=1→x<y
 zero:al7 l x=al7 l y→al7 l y=0→y<x→at7 R (ab4 l 0) y x=true
 two:al7 l x=al7 l y→al7 l y=2→y<x→at7 (fun a b=>R b a) (ab4 l 2) y x=true
theorem eb1 (hd:eh7 l):bg4 (Beside R l) (cg2 R l):=by
 have q:∀ k n,n∈ab4 l k→al7 l n=k:=fun k n h=>(ea9 hd h).1
 have m0:∀ x∈dr8 R (ab4 l 0),al7 l x=0:=fun x hx=>q 0 x ((as9 _ _).mem_iff.1 hx)
 have m1:∀ x∈bt4 (ab4 l 1),al7 l x=1:=fun x hx=>q 1 x ((ai3 _).mem_iff.1 hx)
 have m2:∀ x∈dr8 (fun a b=>R b a) (ab4 l 2),al7 l x=2:=fun x hx=>q 2 x ((as9 _ _).mem_iff.1 hx)
 have ne:∀ x y a b:Int,al7 l x=a→al7 l y=b→a<b→Beside R l x y:=fun x y a b h1 h2 h=>⟨by omega,by omega,by omega,by omega⟩
 refine ds2 ?_ (ds2 ?_ ?_ ?_) ?_
 ·exact co6 (dr9 (ak9 hd 0)) fun x hx y hy h=>⟨by rw[m0 x hx,m0 y hy]; omega,fun _ e=>by rw[m0 y hy] at e; omega,fun _ _=>h,fun _ e=>by rw[m0 y hy] at e; omega⟩
 ·exact co6 (gi2 (fp4 (ak9 hd 1))) fun x hx y hy h=>⟨by rw[m1 x hx,m1 y hy]; omega,fun _ _=>h,fun _ e=>by rw[m1 y hy] at e; omega,fun _ e=>by rw[m1 y hy] at e; omega⟩
 ·exact co6 (dr9 (ak9 hd 2)) fun x hx y hy h=>⟨by rw[m2 x hx,m2 y hy]; omega,fun _ e=>by rw[m2 y hy] at e; omega,fun _ e=>by rw[m2 y hy] at e; omega,fun _ _=>h⟩
 ·exact fun x hx y hy=>ne _ _ _ _ (m1 x hx) (m2 y hy) (by decide)
 ·intro x hx y hy;rcases List.mem_append.1 hy with hy|hy
  ·exact ne _ _ _ _ (m0 x hx) (m1 y hy) (by decide)
  ·exact ne _ _ _ _ (m0 x hx) (m2 y hy) (by decide)
structure Behind (R:Int→Int→Bool) (l:List Step) (x y:Int):Prop where
 zero:al7 l x=al7 l y→al7 l y=0→at7 R (ab4 l 0) x y=false
 two:al7 l x=al7 l y→al7 l y=2→at7 (fun a b=>R b a) (ab4 l 2) x y=false
theorem eb2 (hd:eh7 l):(cg2 R l).Pairwise (Behind R l):=by
 have q:∀ k n,n∈ab4 l k→al7 l n=k:=fun k n h=>(ea9 hd h).1
 have m0:∀ x∈dr8 R (ab4 l 0),al7 l x=0:=fun x hx=>q 0 x ((as9 _ _).mem_iff.1 hx)
 have m1:∀ x∈bt4 (ab4 l 1),al7 l x=1:=fun x hx=>q 1 x ((ai3 _).mem_iff.1 hx)
 have m2:∀ x∈dr8 (fun a b=>R b a) (ab4 l 2),al7 l x=2:=fun x hx=>q 2 x ((as9 _ _).mem_iff.1 hx)
 have ne:∀ x y a b:Int,al7 l x=a→al7 l y=b→a<b→Behind R l x y:=fun x y a b h1 h2 h=>⟨by omega,by omega⟩
 refine List.pairwise_append.2 ⟨?_,List.pairwise_append.2 ⟨?_,?_,?_⟩,?_⟩
 ·exact List.Pairwise.imp_of_mem (fun hx hy h=>⟨fun _ _=>h,fun _ e=>by rw[m0 _ hy] at e; omega⟩) (dc4 R (ab4 l 0))
 ·exact List.Pairwise.imp_of_mem (fun hx hy h=>⟨fun _ e=>by rw[m1 _ hy] at e; omega,fun _ e=>by rw[m1 _ hy] at e; omega⟩) (ea8 (ab4 l 1))
 ·exact List.Pairwise.imp_of_mem (fun hx hy h=>⟨fun _ e=>by rw[m2 _ hy] at e; omega,fun _ _=>h⟩) (dc4 (fun a b=>R b a) (ab4 l 2))
 ·exact fun x hx y hy=>ne _ _ _ _ (m1 x hx) (m2 y hy) (by decide)
 ·intro x hx y hy;rcases List.mem_append.1 hy with hy|hy
  ·exact ne _ _ _ _ (m0 x hx) (m1 y hy) (by decide)
  ·exact ne _ _ _ _ (m0 x hx) (m2 y hy) (by decide)
end
end Go.Id.Md
/- Sets of numbers below 256,in four words. Conditions: none; no program in sight. -/
namespace Go.Id.Md
open Go Go.Id
def wd (s i:Nat):Nat:=(s >>> (64*i))%2^64
def wdV (s i:Nat):IV:=.int .u64 (wd s i:Nat)
def ap5 (s:Nat):List IV:=[wdV s 0,wdV s 1,wdV s 2,wdV s 3]
theorem gi3 (s i:Nat):wd s i<2^64:=Nat.mod_lt _ (by decide)
theorem dc5 (s i j:Nat):(wd s i).testBit j=(decide (j<64)&&s.testBit (64*i+j)):=by
 unfold wd;rw[Nat.testBit_mod_two_pow,Nat.testBit_shiftRight]
theorem he7 (s t i:Nat):wd (s ||| t) i=wd s i ||| wd t i:=by
 refine Nat.eq_of_testBit_eq fun j=>?_
 rw[Nat.testBit_or,dc5,dc5,dc5,Nat.testBit_or];cases decide (j<64)<;>simp
theorem gt4 (n i:Nat):wd (2^n) i=if i=n/64 then 2^(n%64) else 0:=by
 refine Nat.eq_of_testBit_eq fun j=>?_
 rw[dc5,Nat.testBit_two_pow];by_cases h:i=n/64
 ·rw[if_pos h,Nat.testBit_two_pow];by_cases hj:j<64
  ·simp only[hj,decide_true,Bool.true_and];exact decide_eq_decide.2 (by omega)
  ·simp only[hj,decide_false,Bool.false_and];exact (decide_eq_false (by omega)).symm
 ·rw[if_neg h,Nat.zero_testBit];by_cases hj:j<64
  ·simp only[hj,decide_true,Bool.true_and];exact decide_eq_false (by omega)
  ·simp only[hj,decide_false,Bool.false_and]
theorem gi4 {s n i:Nat}(h:i≠n/64):wd (s ||| 2^n) i=wd s i:=by
 rw[he7,gt4,if_neg h,Nat.or_zero]
theorem is4 {s t:Nat}(hs:s<2^256)(ht:t<2^256)(h:∀ i,i<4→wd s i=wd t i):s=t:=by
 refine Nat.eq_of_testBit_eq fun j=>?_
 by_cases hj:j<256
 ·have:=congrArg (fun x=>x.testBit (j%64)) (h (j/64) (by omega));simp only[dc5] at this;have e:64*(j/64)+j%64=j:=by omega
  have e2:decide (j%64<64)=true:=decide_eq_true (by omega);rw[e,e2,Bool.true_and,Bool.true_and] at this;exact this
 ·rw[Nat.testBit_lt_two_pow (Nat.lt_of_lt_of_le hs (Nat.pow_le_pow_right (by decide) (by omega))),Nat.testBit_lt_two_pow (Nat.lt_of_lt_of_le ht (Nat.pow_le_pow_right (by decide) (by omega)))]
theorem gi5 {s t:Nat}(hs:s<2^256)(ht:t<2^256)(h:ap5 s=ap5 t):s=t:=by
 refine is4 hs ht fun i hi=>?_
 simp only[ap5,wdV,List.cons.injEq,IV.int.injEq,true_and] at h;have:i=0∨i=1∨i=2∨i=3:=by omega
 rcases this with rfl|rfl|rfl|rfl<;>omega
theorem dh9 {n:Nat}(h:n<2^64):IntKind.u64.wrap (n:Int)=n:=by
 show (n:Int)%18446744073709551616=n;omega
theorem gi6 (n:Nat):BitVec.ofInt 64 (n:Int)=BitVec.ofNat 64 n:=by
 apply BitVec.eq_of_toInt_eq;simp
theorem gt5 {a b:Nat}(ha:a<2^64)(hb:b<2^64):ao9 .or (.int .u64 a) (.int .u64 b)=some (.int .u64 (a ||| b:Nat)):=by
 have h:(BitVec.ofInt 64 (a:Int) ||| BitVec.ofInt 64 (b:Int)).toNat=a ||| b:=by
  rw[gi6,gi6,BitVec.toNat_or,BitVec.toNat_ofNat,BitVec.toNat_ofNat,Nat.mod_eq_of_lt ha,Nat.mod_eq_of_lt hb]
 have hl:a ||| b<2^64:=Nat.or_lt_two_pow ha hb
 show (if IntKind.u64=IntKind.u64 then de5 .or .u64 a b else none)=_;rw[if_pos rfl];show some (IV.int .u64 (IntKind.u64.wrap ((BitVec.ofInt 64 (a:Int) ||| BitVec.ofInt 64 (b:Int)).toNat:Int)))=_;rw[h,dh9 hl]
theorem u64_and1 {a:Nat}(ha:a<2^64):ao9 .and (.int .u64 a) (.int .u64 1)=some (.int .u64 (a%2:Nat)):=by
 have h:(BitVec.ofInt 64 (a:Int) &&& BitVec.ofInt 64 ((1:Nat):Int)).toNat=a%2:=by
  rw[gi6,gi6,BitVec.toNat_and,BitVec.toNat_ofNat,BitVec.toNat_ofNat,Nat.mod_eq_of_lt ha,Nat.mod_eq_of_lt (by decide),Nat.and_one_is_mod]
 have hl:a%2<2^64:=by omega
 show (if IntKind.u64=IntKind.u64 then de5 .and .u64 a 1 else none)=_;rw[if_pos rfl];show some (IV.int .u64 (IntKind.u64.wrap ((BitVec.ofInt 64 (a:Int) &&& BitVec.ofInt 64 ((1:Nat):Int)).toNat:Int)))=_;rw[h,dh9 hl]
theorem he8 (s n:Nat):decide (((((wd s (n/64):Nat):Int).fdiv (2^(n%64))).toNat%2:Nat)=1)=s.testBit n:=by
 have e:(((wd s (n/64):Nat):Int).fdiv (2^(n%64))).toNat=wd s (n/64)/2^(n%64):=by
  have:((2:Int)^(n%64))=((2^(n%64):Nat):Int):=by norm_cast
  rw[this,Int.fdiv_eq_ediv_of_nonneg _ (Int.natCast_nonneg _),← Int.natCast_ediv,Int.toNat_natCast]
 rw[e];have h:=dc5 s (n/64) (n%64);have e2:64*(n/64)+n%64=n:=by omega
 rw[e2,decide_eq_true (by omega:n%64<64),Bool.true_and,Nat.testBit_eq_decide_div_mod_eq] at h;exact h
/-! ### All ways,found by going over them again and again -/
section
variable {R:Int→Int→Bool} {L:List Int} {g:Int→Nat}
structure Reach (R:Int→Int→Bool) (L:List Int) (g:Int→Nat):Prop where
 pos:∀ n∈L,0≤n∧n<256
 once:∀ n∈L,∀ m∈L,R n m=true→(g n).testBit m.toNat=true
 way:∀ n∈L,∀ k:Nat,(g n).testBit k=true→Way R L n k
def al8 (g:Int→Nat)(l:List Int)(s:Nat):Nat:=l.foldl (fun s k=>if s.testBit k.toNat then s ||| g k else s) s
theorem cj5 (g:Int→Nat):∀ (l:List Int) (s k:Nat),s.testBit k=true→(al8 g l s).testBit k=true:=by
 intro l
 induction l with
 | nil=>intro s k h; exact h
 | cons a l ih=>
  intro s k h;refine ih _ k ?_;show (if s.testBit a.toNat then s ||| g a else s).testBit k=true;split
  ·rw[Nat.testBit_or,h]; rfl
  ·exact h
theorem co7 (hg:Reach R L g){n:Int}:∀ (l:List Int) (s:Nat),(∀ k∈l,k∈L)→(∀ k:Nat,s.testBit k=true→Way R L n k)→∀ k:Nat,(al8 g l s).testBit k=true→Way R L n k:=by
 intro l
 induction l with
 | nil=>intro s _ h k hk; exact h k hk
 | cons a l ih=>
  intro s hl h k hk;refine ih _ (fun x hx=>hl x (List.mem_cons_of_mem _ hx)) (fun j hj=>?_) k hk;have hj:(if s.testBit a.toNat then s ||| g a else s).testBit j=true:=hj;by_cases hb:s.testBit a.toNat=true
  ·rw[if_pos hb,Nat.testBit_or,Bool.or_eq_true] at hj;rcases hj with hj|hj
   ·exact h j hj
   ·have ha:=hl a List.mem_cons_self;have h1:=h _ hb;have h2:=hg.way a ha j hj;have e:((a.toNat:Nat):Int)=a:=by have:=(hg.pos a ha).1; omega
    rw[e] at h1;exact h1.trans h2
  ·rw[if_neg hb] at hj;exact h j hj
theorem ds4 (g:Int→Nat):∀ (l:List Int) (s:Nat),al8 g l s=s→∀ k∈l,s.testBit k.toNat=true→∀ j,(g k).testBit j=true→s.testBit j=true:=by
 intro l
 induction l with
 | nil=>intro s _ k hk; cases hk
 | cons a l ih=>
  intro s h k hk hb j hj
  have h1:(if s.testBit a.toNat then s ||| g a else s)=s:=by
   refine Nat.eq_of_testBit_eq fun i=>Bool.eq_iff_iff.2 ⟨fun hi=>?_,fun hi=>?_⟩
   ·have:=cj5 g l _ i hi;have e:al8 g l (if s.testBit a.toNat then s ||| g a else s)=s:=h;rw[e] at this; exact this
   ·split
    ·rw[Nat.testBit_or,hi]; rfl
    ·exact hi
  have h2:al8 g l s=s:=by
   have e:al8 g l (if s.testBit a.toNat then s ||| g a else s)=s:=h;rw[h1] at e; exact e
  rcases List.mem_cons.1 hk with rfl|hk
  ·rw[if_pos hb] at h1;rw[← h1,Nat.testBit_or,hj,Bool.or_true]
  ·exact ih s h2 k hk hb j hj
theorem Reach.small (hg:Reach R L g){n:Int}{s:Nat}(h:∀ k:Nat,s.testBit k=true→Way R L n k):s<2^256:=by
 refine Nat.lt_pow_two_of_testBit _ fun i hi=>?_
 cases hb:s.testBit i with
 | false=>rfl
 | true=>have:=(hg.pos _ (h i hb).mem.2).2; omega
theorem Reach.done (hg:Reach R L g)(hc:∀ n∈L,al8 g L (g n)=g n){n m:Int}(hn:n∈L)(hm:m∈L):(g n).testBit m.toNat=eh5 R L n m:=by
 refine Bool.eq_iff_iff.2 ?_;rw[ar7];constructor
 ·intro h;have:=hg.way n hn _ h;have e:((m.toNat:Nat):Int)=m:=by have:=(hg.pos m hm).1; omega
  rw[e] at this; exact this
 ·intro h;clear hn hm
  induction h with
  | once h1 h2 h3=>exact hg.once _ h1 _ h2 h3
  | step h1 h2 h3 h4 ih=>exact ds4 g L _ (hc _ h1) _ h2 (hg.once _ h1 _ h2 h3) _ ih
def lacks (L:List Int)(s:Nat):Nat:=L.countP fun k=>!s.testBit k.toNat
def aw5 (L:List Int)(g:Int→Nat)(l:List Int):Nat:=(l.map fun n=>lacks L (g n)).sum
def cg3 (g:Int→Nat)(n:Int)(s:Nat):Int→Nat:=fun x=>if x=n then s else g x
theorem Reach.upd (hg:Reach R L g){n:Int}(hn:n∈L):Reach R L (cg3 g n (al8 g L (g n))) where
 pos:=hg.pos
 once:=fun x hx m hm h=>by
  unfold cg3;split
  ·rename_i e; subst e; exact cj5 g L _ _ (hg.once _ hx _ hm h)
  ·exact hg.once x hx m hm h
 way:=fun x hx k h=>by
  unfold cg3 at h;split at h
  ·rename_i e; subst e; exact co7 hg L _ (fun _ h=>h) (hg.way _ hx) k h
  ·exact hg.way x hx k h
theorem gi7 (hg:Reach R L g){n:Int}(hn:n∈L)(h:al8 g L (g n)≠g n):lacks L (al8 g L (g n))<lacks L (g n):=by
 unfold lacks;refine dr7 (fun x _ hx=>?_) ?_
 ·simp only[Bool.not_eq_true'] at hx ⊢
  cases hb:(g n).testBit x.toNat with
  | false=>rfl
  | true=>rw[cj5 g L _ _ hb] at hx; cases hx
 ·obtain ⟨k,hk⟩:∃ k,(al8 g L (g n)).testBit k≠(g n).testBit k:=by
   refine Classical.byContradiction fun hno=>h (Nat.eq_of_testBit_eq fun i=>Classical.byContradiction fun hi=>hno ⟨i,hi⟩)
  have h1:(g n).testBit k=false:=by
   cases hb:(g n).testBit k with
   | false=>rfl
   | true=>rw[hb,cj5 g L _ _ hb] at hk; exact absurd rfl hk
  have h2:(al8 g L (g n)).testBit k=true:=by rw[h1] at hk; simpa using hk
  have hm:=(co7 hg L _ (fun _ h=>h) (hg.way n hn) k h2).mem.2;exact ⟨k,hm,by rw[Int.toNat_natCast,h1]; rfl,by rw[Int.toNat_natCast,h2]; rfl⟩
theorem eb3 {n:Int}{s:Nat}:∀ {l:List Int},l.Nodup→n∈l→aw5 L (cg3 g n s) l+lacks L (g n)=aw5 L g l+lacks L s:=by
 intro l
 induction l with
 | nil=>intro _ h; cases h
 | cons a l ih=>
  intro hd hn;rw[List.nodup_cons] at hd;unfold aw5 at ih ⊢;simp only[List.map_cons,List.sum_cons];rcases List.mem_cons.1 hn with rfl|hn
  ·have e1:cg3 g n s n=s:=by unfold cg3; rw[if_pos rfl]
   have e2:(l.map fun x=>lacks L (cg3 g n s x))=l.map fun x=>lacks L (g x):=List.map_congr_left fun x hx=>by
    unfold cg3; rw[if_neg fun e=>hd.1 (by subst e; exact hx)]
   rw[e1,e2]; omega
  ·have e1:cg3 g n s a=g a:=by unfold cg3; rw[if_neg fun e=>hd.1 (by subst e; exact hn)]
   have:=ih hd.2 hn;rw[e1]; omega
end
end Go.Id.Md
