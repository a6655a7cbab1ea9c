/- The document's data,and what functions give,in plain words. Conditions: none; no program in sight. -/
import Derived.Test.YtiallonafbejaaaGreatDoorFwQ
set_option linter.all false
namespace Go.Id.Md
open Go Go.Id
abbrev Str:=List UInt8
structure EVR where
 epoch:Int
 ver:Str
 rel:Str
 deriving DecidableEq,Inhabited
structure Dep where
 name:Str
 op:Int
 evr:EVR
 deriving DecidableEq,Inhabited
inductive Rich where
 | mk (kind:Int) (dep:Dep) (args:List Rich)
 deriving Inhabited
def Rich.kind:Rich→Int|.mk k _ _=>k
def Rich.dep:Rich→Dep|.mk _ d _=>d
def Rich.args:Rich→List Rich|.mk _ _ a=>a
structure Package where
 name:Str
 evr:EVR
 arch:Int
 vendor:Str
 provides:List Dep
 requires:List Rich
 conflicts:List Rich
 obsoletes:List Dep
 recommends:List Rich
 supplements:List Rich
 suggests:List Rich
 enhances:List Rich
 files:List Str
 deriving Inhabited
structure Repo where
 priority:Int
 packages:List Package
 deriving Inhabited
/-! ### Sizes,kinds -/
def EVR.fit (e:EVR):Prop:=e.ver.length<2^62∧e.rel.length<2^62
def Dep.fit (d:Dep):Prop:=d.name.length<2^62∧d.evr.fit
theorem Rich.ind {p:Rich→Prop}(h:∀ k d as,(∀ a∈as,p a)→p (.mk k d as))(r:Rich):p r :=
 Rich.rec (motive_1:=p) (motive_2:=fun l=>∀ a∈l,p a) (fun k d as ih=>h k d as ih) (fun _ h=>by cases h) (fun r rs h1 h2 a ha=>by
  rcases List.mem_cons.1 ha with rfl|h
  ·exact h1
  ·exact h2 a h) r
mutual
def Rich.fit:Rich→Prop
 | .mk k d as=>0≤k∧k<256∧d.fit∧as.length<2^31∧Rich.fits as
def Rich.fits:List Rich→Prop
 | []=>True
 | r::rs=>r.fit∧Rich.fits rs
end
theorem Rich.fits_iff (l:List Rich):Rich.fits l↔∀ r∈l,r.fit:=by
 induction l with
 | nil=>simp[Rich.fits]
 | cons r rs ih=>simp[Rich.fits,ih]
theorem Rich.fit_mk {k:Int}{d:Dep}{as:List Rich}:(Rich.mk k d as).fit↔0≤k∧k<256∧d.fit∧as.length<2^31∧∀ r∈as,r.fit:=by
 simp only[Rich.fit,Rich.fits_iff]
/-! ### As ideal values -/
def EVR.cs (e:EVR):List IV:=[.int .i64 e.epoch,.str e.ver,.str e.rel]
def Dep.cs (d:Dep):List IV:=[.str d.name,.int .u8 d.op,.int .i64 d.evr.epoch,.str d.evr.ver,.str d.evr.rel]
mutual
def Rich.cs:Rich→List IV
 | .mk k d as=>[.int .u8 k,.str d.name,.int .u8 d.op,.int .i64 d.evr.epoch,.str d.evr.ver,.str d.evr.rel,.tslice (Rich.css as)]
def Rich.css:List Rich→List (List IV)
 | []=>[]
 | r::rs=>r.cs::Rich.css rs
end
theorem Rich.css_map (l:List Rich):Rich.css l=l.map Rich.cs:=by
 induction l with
 | nil=>rfl
 | cons r rs ih=>simp only[Rich.css,ih,List.map_cons]
theorem Rich.cs_eq (r:Rich):r.cs=[.int .u8 r.kind,.str r.dep.name,.int .u8 r.dep.op,.int .i64 r.dep.evr.epoch,.str r.dep.evr.ver,.str r.dep.evr.rel,.tslice (r.args.map Rich.cs)]:=by
 cases r with
 | mk k d as=>simp only[Rich.cs,Rich.css_map,Rich.kind,Rich.dep,Rich.args]
def bl6 (s:Str):List IV:=[.str s]
abbrev deps (l:List Dep):IV:=.tslice (l.map Dep.cs)
abbrev ac5 (l:List Rich):IV:=.tslice (l.map Rich.cs)
abbrev strs (l:List Str):IV:=.tslice (l.map bl6)
def Package.cs (p:Package):List IV :=
 [.str p.name,.int .i64 p.evr.epoch,.str p.evr.ver,.str p.evr.rel,.int .u8 p.arch,.str p.vendor,deps p.provides,ac5 p.requires,ac5 p.conflicts,deps p.obsoletes,ac5 p.recommends,ac5 p.supplements,ac5 p.suggests,ac5 p.enhances,strs p.files]
def Repo.cs (r:Repo):List IV:=[.int .i64 r.priority,.tslice (r.packages.map Package.cs)]
def Package.rows (p:Package):List (Int×List Rich):=[(1,p.requires),(2,p.conflicts),(1,p.recommends),(3,p.supplements),(1,p.suggests),(3,p.enhances)]
/-! ### Names,versions -/
def signs:Str:=[97,98,99,100,101,102,103,104,105,106,107,108,109,110,111,112,113,114,115,116,117,118,119,120,121,122,65,66,67,68,69,70,71,72,73,74,75,76,77,78,79,80,81,82,83,84,85,86,87,88,89,90,48,49,50,51,52,53,54,55,56,57,46,95,43,45,47,58,64,126,94]
def fg3 (b:UInt8):Bool:=(decide (97≤b.toNat)&&decide (b.toNat≤122))||(decide (65≤b.toNat)&&decide (b.toNat≤90))||(decide (48≤b.toNat)&&decide (b.toNat≤57))
def bi7 (b:UInt8):Bool:=signs.contains b
def words:List Str:=[[97,110,100],[111,114],[105,102],[101,108,115,101],[117,110,108,101,115,115],[119,105,116,104],[119,105,116,104,111,117,116]]
def aq6 (s:Str):Bool:=decide (1≤s.length)&&decide (s.length≤64)&&s.all bi7&&!words.contains s
def bi8 (s:Str):Bool:=aq6 s&&(s.head? == some 47)
def cc1 (b:UInt8):Bool:=fg3 b || [46,95,43,126,94].contains b
def az1 (s:Str):Bool:=decide (1≤s.length)&&decide (s.length≤64)&&s.all cc1
def az2 (e:EVR)(dep:Bool):Bool:=decide (0≤e.epoch)&&decide (e.epoch≤2147483647)&&az1 e.ver&&(az1 e.rel||dep&&e.rel.isEmpty)
def er8 (op:Int):Bool:=[0,1,2,3,4,6].contains op
def gx4:EVR:=⟨0,[],[]⟩
def dn6:Dep:=⟨[],0,gx4⟩
def ah2 (d:Dep):Bool:=aq6 d.name&&er8 d.op&&(if d.op=0 then decide (d.evr=gx4) else !bi8 d.name&&az2 d.evr true)
/-! ### How versions compare -/
def ac2 (b:UInt8):Nat:=if b=126 then 1 else if b=94 then 3 else if decide (97≤b)&&decide (b≤122)||decide (65≤b)&&decide (b≤90) then 4 else if decide (48≤b)&&decide (b≤57) then 5 else 0
structure Part where
 kind:Nat
 s:Str
 deriving DecidableEq,Inhabited
def am2:Nat→Str→List Part
 | 0,_=>[]
 | _+1,[]=>[]
 | n+1,b::l=>
  if ac2 b=0 then am2 n l
  else if ac2 b<4 then ⟨ac2 b,[]⟩::am2 n l
  else ⟨ac2 b,if ac2 b=5 then ((b::l).takeWhile fun c=>ac2 c==ac2 b).dropWhile (· == 48) else (b::l).takeWhile fun c=>ac2 c==ac2 b⟩::am2 n ((b::l).dropWhile fun c=>ac2 c==ac2 b)
def ac6 (s:Str):List Part:=am2 s.length s
def ai7 (a b:Int):Int:=if a<b then -1 else if a=b then 0 else 1
def ch5 (a b:Str):Int:=if Op.bytesLess a b then -1 else if a=b then 0 else 1
def ad2 (a b:Part):Int :=
 let k:=ai7 a.kind b.kind
 if k≠0 then k else
 let n:=if a.kind=5∧b.kind=5 then ai7 a.s.length b.s.length else 0
 if n≠0 then n else ch5 a.s b.s
def ad4:List Part→List Part→Int
 | a::as,b::bs=>if ad2 a b≠0 then ad2 a b else ad4 as bs
 | _,_=>0
def aj5 (a b:Str):Int:=ad4 (ac6 a++[⟨2,[]⟩]) (ac6 b++[⟨2,[]⟩])
def am8 (a b:EVR):Int :=
 if ai7 a.epoch b.epoch≠0 then ai7 a.epoch b.epoch else
 if aj5 a.ver b.ver≠0 then aj5 a.ver b.ver else
 if a.rel=[]∨b.rel=[] then 0 else aj5 a.rel b.rel
def bit (op:Int)(i:Nat):Bool:=(op.toNat).testBit i
def side (n:Int):Nat:=if n<0 then 0 else if n=0 then 1 else 2
def meet (a b:Dep):Bool :=
 if a.op.toNat%8=0∨b.op.toNat%8=0 then true else
 let n:=am8 a.evr b.evr
 if n=0 then bit a.op 0&&bit b.op 0||bit a.op 1&&bit b.op 1||bit a.op 2&&bit b.op 2
 else bit a.op (side (-n))||bit b.op (side n)
/-! ### Rich dependencies -/
mutual
def Rich.count:Rich→Nat
 | .mk _ _ as=>Rich.counts as+1
def Rich.counts:List Rich→Nat
 | []=>0
 | r::rs=>r.count+Rich.counts rs
end
mutual
def Rich.depth:Rich→Nat
 | .mk k _ as=>if k=1 then 0 else Rich.depths as+1
def Rich.depths:List Rich→Nat
 | []=>0
 | r::rs=>max r.depth (Rich.depths rs)
end
-- All parts,and whether each stands within a With,or a Without.
mutual
def Rich.parts:Rich→Bool→List (Rich×Bool)
 | .mk k d as,alone=>(.mk k d as,alone)::Rich.partss as (alone||decide (k=6)||decide (k=7))
def Rich.partss:List Rich→Bool→List (Rich×Bool)
 | [],_=>[]
 | r::rs,alone=>r.parts alone++Rich.partss rs alone
end
def asks (k:Int):Nat×Nat×Bool×Nat :=
 if k=1 then (0,0,true,3) else if k=2 then (2,24,true,3) else if k=3 then (2,24,true,3) else if k=4 then (2,3,false,1)
 else if k=5 then (2,3,false,2) else if k=6 then (2,24,true,3) else if k=7 then (2,2,true,3) else (0,0,false,0)
def af4 (wh:Int)(r:Rich)(alone:Bool):Bool :=
 let x:=asks r.kind
 !(decide ((x.2.2.2:Int)<wh)||alone&&!x.2.2.1||decide (r.args.length<x.1)||decide (x.2.1<r.args.length)) &&
 (if r.kind=1 then ah2 r.dep else decide (r.dep=dn6))
def am9 (r:Rich)(wh:Int):Int :=
 if wh<1∨3<wh then 1 else if r.count>24 then 40 else if r.depth>8 then 21 else if (r.parts false).all fun p=>af4 wh p.1 p.2 then 0 else 4
mutual
def Rich.same:Rich→Rich→Bool
 | .mk k d as,.mk k' d' as'=>decide (k=k')&&decide (d=d')&&Rich.sames as as'
def Rich.sames:List Rich→List Rich→Bool
 | [],[]=>true
 | r::rs,s::ss=>r.same s&&Rich.sames rs ss
 | _,_=>false
end
structure Package.Fit (p:Package):Prop where
 name:p.name.length<2^62
 evr:p.evr.fit
 prov:p.provides.length<2^31∧∀ d∈p.provides,d.fit
 obs:p.obsoletes.length<2^31∧∀ d∈p.obsoletes,d.fit
 files:p.files.length<2^31∧∀ s∈p.files,s.length<2^62
 rich:∀ x∈p.rows,x.2.length<2^31∧∀ r∈x.2,r.fit∧r.count<2^31
/-! ### Packages -/
def ak5 (a:Int):Bool:=decide (1≤a)&&decide (a≤4)
def rising:List Str→Bool
 | a::b::l=>Op.bytesLess a b&&rising (b::l)
 | _=>true
def ai4 (l:List Rich)(wh:Int):Bool:=decide (l.length≤32)&&l.all fun r=>decide (am9 r wh=0)
def ac3 (p:Package):Bool :=
 aq6 p.name&&!bi8 p.name&&az2 p.evr false&&ak5 p.arch&&decide (p.vendor.length≤64) &&
 (decide (p.provides.length≤32)&&p.provides.all ah2)&&(decide (p.obsoletes.length≤32)&&p.obsoletes.all ah2)&&(decide (p.files.length≤32)&&p.files.all bi8) &&
 rising p.files&&ai4 p.requires 1&&ai4 p.conflicts 2&&ai4 p.recommends 1&&ai4 p.supplements 3&&ai4 p.suggests 1&&ai4 p.enhances 3
def own (p:Package):Dep:=⟨p.name,2,p.evr⟩
def meets (a d:Dep):Bool:=decide (a.name=d.name)&&meet a d
def named (p:Package)(d:Dep):Bool:=meets (own p) d
def provides (p:Package)(d:Dep):Bool:=named p d||p.provides.any (fun a=>meets a d)||decide (d.op=0)&&p.files.contains d.name
def obsoletes (p q:Package):Bool:=p.obsoletes.any fun d=>named q d
def gp2 (l m:List Rich):Bool:=Rich.sames l m
end Go.Id.Md
