/- The document's data,and what functions give,in plain words. Conditions: none; no program in sight. -/
import Derived.Test.YteomphdgniepbaaGreatDoorFwQ
set_option linter.all false
namespace Go.Id.Md
open Go Go.Id
abbrev Str:=List UInt8
structure EVR where
 am6:Int
 ver:Str
 rel:Str
 deriving DecidableEq,Inhabited
structure Dep where
 name:Str
 op:Int
 evr:EVR
 deriving DecidableEq,Inhabited
inductive aa7 where
 | mk (kind:Int) (dep:Dep) (args:List aa7)
 deriving Inhabited
def aa7.kind:aa7→Int|.mk k _ _=>k
def aa7.dep:aa7→Dep|.mk _ d _=>d
def aa7.args:aa7→List aa7|.mk _ _ a=>a
structure aa2 where
 name:Str
 evr:EVR
 ao2:Int
 vendor:Str
 provides:List Dep
 requires:List aa7
 conflicts:List aa7
 ab4:List Dep
 ac1:List aa7
 ab8:List aa7
 suggests:List aa7
 ac7:List aa7
 files:List Str
 deriving Inhabited
structure ak8 where
 priority:Int
 packages:List aa2
 deriving Inhabited
/-! ### Sizes,kinds -/
def EVR.fit (e:EVR):Prop:=e.ver.length<2^62∧e.rel.length<2^62
def Dep.fit (d:Dep):Prop:=d.name.length<2^62∧d.evr.fit
theorem aa7.ind {p:aa7→Prop}(h:∀ k d as,(∀ a∈as,p a)→p (.mk k d as))(r:aa7):p r :=
 aa7.rec (motive_1:=p) (motive_2:=fun l=>∀ a∈l,p a) (fun k d as ih=>h k d as ih) (fun _ h=>by cases h) (fun r rs h1 h2 a ha=>by
  rcases List.mem_cons.1 ha with rfl|h
  ·exact h1
  ·exact h2 a h) r
mutual
def aa7.fit:aa7→Prop
 | .mk k d as=>0≤k∧k<256∧d.fit∧as.length<2^31∧aa7.fits as
def aa7.fits:List aa7→Prop
 | []=>True
 | r::rs=>r.fit∧aa7.fits rs
end
theorem aa7.gh5 (l:List aa7):aa7.fits l↔∀ r∈l,r.fit:=by
 induction l with
 | nil=>simp[aa7.fits]
 | cons r rs ih=>simp[aa7.fits,ih]
theorem aa7.cp4 {k:Int}{d:Dep}{as:List aa7}:(aa7.mk k d as).fit↔0≤k∧k<256∧d.fit∧as.length<2^31∧∀ r∈as,r.fit:=by
 simp only[aa7.fit,aa7.gh5]
/-! ### As ideal values -/
def EVR.cs (e:EVR):List IV:=[.int .i64 e.am6,.str e.ver,.str e.rel]
def Dep.cs (d:Dep):List IV:=[.str d.name,.int .u8 d.op,.int .i64 d.evr.am6,.str d.evr.ver,.str d.evr.rel]
mutual
def aa7.cs:aa7→List IV
 | .mk k d as=>[.int .u8 k,.str d.name,.int .u8 d.op,.int .i64 d.evr.am6,.str d.evr.ver,.str d.evr.rel,.aa3 (aa7.css as)]
def aa7.css:List aa7→List (List IV)
 | []=>[]
 | r::rs=>r.cs::aa7.css rs
end
theorem aa7.ha8 (l:List aa7):aa7.css l=l.map aa7.cs:=by
 induction l with
 | nil=>rfl
 | cons r rs ih=>simp only[aa7.css,ih,List.map_cons]
theorem aa7.ao4 (r:aa7):r.cs=[.int .u8 r.kind,.str r.dep.name,.int .u8 r.dep.op,.int .i64 r.dep.evr.am6,.str r.dep.evr.ver,.str r.dep.evr.rel,.aa3 (r.args.map aa7.cs)]:=by
 cases r with
 | mk k d as=>simp only[aa7.cs,aa7.ha8,aa7.kind,aa7.dep,aa7.args]
def bs4 (s:Str):List IV:=[.str s]
abbrev deps (l:List Dep):IV:=.aa3 (l.map Dep.cs)
abbrev ae7 (l:List aa7):IV:=.aa3 (l.map aa7.cs)
abbrev strs (l:List Str):IV:=.aa3 (l.map bs4)
def aa2.cs (p:aa2):List IV :=
 [.str p.name,.int .i64 p.evr.am6,.str p.evr.ver,.str p.evr.rel,.int .u8 p.ao2,.str p.vendor,deps p.provides,ae7 p.requires,ae7 p.conflicts,deps p.ab4,ae7 p.ac1,ae7 p.ab8,ae7 p.suggests,ae7 p.ac7,strs p.files]
def ak8.cs (r:ak8):List IV:=[.int .i64 r.priority,.aa3 (r.packages.map aa2.cs)]
def aa2.rows (p:aa2):List (Int×List aa7):=[(1,p.requires),(2,p.conflicts),(1,p.ac1),(3,p.ab8),(1,p.suggests),(3,p.ac7)]
/-! ### Names,versions -/
def signs:Str:=[97,98,99,100,101,102,103,104,105,106,107,108,109,110,111,112,113,114,115,116,117,118,119,120,121,122,65,66,67,68,69,70,71,72,73,74,75,76,77,78,79,80,81,82,83,84,85,86,87,88,89,90,48,49,50,51,52,53,54,55,56,57,46,95,43,45,47,58,64,126,94]
def fp8 (b:UInt8):Bool:=(decide (97≤b.toNat)&&decide (b.toNat≤122))||(decide (65≤b.toNat)&&decide (b.toNat≤90))||(decide (48≤b.toNat)&&decide (b.toNat≤57))
def bq1 (b:UInt8):Bool:=signs.contains b
def words:List Str:=[[97,110,100],[111,114],[105,102],[101,108,115,101],[117,110,108,101,115,115],[119,105,116,104],[119,105,116,104,111,117,116]]
def aw4 (s:Str):Bool:=decide (1≤s.length)&&decide (s.length≤64)&&s.all bq1&&!words.contains s
def bq2 (s:Str):Bool:=aw4 s&&(s.head? == some 47)
def cj4 (b:UInt8):Bool:=fp8 b || [46,95,43,126,94].contains b
def bf3 (s:Str):Bool:=decide (1≤s.length)&&decide (s.length≤64)&&s.all cj4
def bf4 (e:EVR)(dep:Bool):Bool:=decide (0≤e.am6)&&decide (e.am6≤2147483647)&&bf3 e.ver&&(bf3 e.rel||dep&&e.rel.isEmpty)
def fb2 (op:Int):Bool:=[0,1,2,3,4,6].contains op
def ht7:EVR:=⟨0,[],[]⟩
def dw7:Dep:=⟨[],0,ht7⟩
def aj7 (d:Dep):Bool:=aw4 d.name&&fb2 d.op&&(if d.op=0 then decide (d.evr=ht7) else !bq2 d.name&&bf4 d.evr true)
/-! ### How versions compare -/
def ae4 (b:UInt8):Nat:=if b=126 then 1 else if b=94 then 3 else if decide (97≤b)&&decide (b≤122)||decide (65≤b)&&decide (b≤90) then 4 else if decide (48≤b)&&decide (b≤57) then 5 else 0
structure Part where
 kind:Nat
 s:Str
 deriving DecidableEq,Inhabited
def aq8:Nat→Str→List Part
 | 0,_=>[]
 | _+1,[]=>[]
 | n+1,b::l=>
  if ae4 b=0 then aq8 n l
  else if ae4 b<4 then ⟨ae4 b,[]⟩::aq8 n l
  else ⟨ae4 b,if ae4 b=5 then ((b::l).takeWhile fun c=>ae4 c==ae4 b).dropWhile (· == 48) else (b::l).takeWhile fun c=>ae4 c==ae4 b⟩::aq8 n ((b::l).dropWhile fun c=>ae4 c==ae4 b)
def ae8 (s:Str):List Part:=aq8 s.length s
def am9 (a b:Int):Int:=if a<b then -1 else if a=b then 0 else 1
def cp5 (a b:Str):Int:=if Op.bytesLess a b then -1 else if a=b then 0 else 1
def af3 (a b:Part):Int :=
 let k:=am9 a.kind b.kind
 if k≠0 then k else
 let n:=if a.kind=5∧b.kind=5 then am9 a.s.length b.s.length else 0
 if n≠0 then n else cp5 a.s b.s
def af6:List Part→List Part→Int
 | a::as,b::bs=>if af3 a b≠0 then af3 a b else af6 as bs
 | _,_=>0
def an4 (a b:Str):Int:=af6 (ae8 a++[⟨2,[]⟩]) (ae8 b++[⟨2,[]⟩])
def ar5 (a b:EVR):Int :=
 if am9 a.am6 b.am6≠0 then am9 a.am6 b.am6 else
 if an4 a.ver b.ver≠0 then an4 a.ver b.ver else
 if a.rel=[]∨b.rel=[] then 0 else an4 a.rel b.rel
def bit (op:Int)(i:Nat):Bool:=(op.toNat).testBit i
def side (n:Int):Nat:=if n<0 then 0 else if n=0 then 1 else 2
def meet (a b:Dep):Bool :=
 if a.op.toNat%8=0∨b.op.toNat%8=0 then true else
 let n:=ar5 a.evr b.evr
 if n=0 then bit a.op 0&&bit b.op 0||bit a.op 1&&bit b.op 1||bit a.op 2&&bit b.op 2
 else bit a.op (side (-n))||bit b.op (side n)
/-! ### aa7 dependencies -/
mutual
def aa7.count:aa7→Nat
 | .mk _ _ as=>aa7.counts as+1
def aa7.counts:List aa7→Nat
 | []=>0
 | r::rs=>r.count+aa7.counts rs
end
mutual
def aa7.depth:aa7→Nat
 | .mk k _ as=>if k=1 then 0 else aa7.bi3 as+1
def aa7.bi3:List aa7→Nat
 | []=>0
 | r::rs=>max r.depth (aa7.bi3 rs)
end
-- All parts,and whether each stands within a With,or a Without.
mutual
def aa7.parts:aa7→Bool→List (aa7×Bool)
 | .mk k d as,alone=>(.mk k d as,alone)::aa7.bi4 as (alone||decide (k=6)||decide (k=7))
def aa7.bi4:List aa7→Bool→List (aa7×Bool)
 | [],_=>[]
 | r::rs,alone=>r.parts alone++aa7.bi4 rs alone
end
def asks (k:Int):Nat×Nat×Bool×Nat :=
 if k=1 then (0,0,true,3) else if k=2 then (2,24,true,3) else if k=3 then (2,24,true,3) else if k=4 then (2,3,false,1)
 else if k=5 then (2,3,false,2) else if k=6 then (2,24,true,3) else if k=7 then (2,2,true,3) else (0,0,false,0)
def ai5 (wh:Int)(r:aa7)(alone:Bool):Bool :=
 let x:=asks r.kind
 !(decide ((x.2.2.2:Int)<wh)||alone&&!x.2.2.1||decide (r.args.length<x.1)||decide (x.2.1<r.args.length)) &&
 (if r.kind=1 then aj7 r.dep else decide (r.dep=dw7))
def ar6 (r:aa7)(wh:Int):Int :=
 if wh<1∨3<wh then 1 else if r.count>24 then 40 else if r.depth>8 then 21 else if (r.parts false).all fun p=>ai5 wh p.1 p.2 then 0 else 4
mutual
def aa7.same:aa7→aa7→Bool
 | .mk k d as,.mk k' d' as'=>decide (k=k')&&decide (d=d')&&aa7.ha9 as as'
def aa7.ha9:List aa7→List aa7→Bool
 | [],[]=>true
 | r::rs,s::ss=>r.same s&&aa7.ha9 rs ss
 | _,_=>false
end
structure aa2.Fit (p:aa2):Prop where
 name:p.name.length<2^62
 evr:p.evr.fit
 ax1:p.provides.length<2^31∧∀ d∈p.provides,d.fit
 obs:p.ab4.length<2^31∧∀ d∈p.ab4,d.fit
 files:p.files.length<2^31∧∀ s∈p.files,s.length<2^62
 rich:∀ x∈p.rows,x.2.length<2^31∧∀ r∈x.2,r.fit∧r.count<2^31
/-! ### Packages -/
def ao5 (a:Int):Bool:=decide (1≤a)&&decide (a≤4)
def rising:List Str→Bool
 | a::b::l=>Op.bytesLess a b&&rising (b::l)
 | _=>true
def al3 (l:List aa7)(wh:Int):Bool:=decide (l.length≤32)&&l.all fun r=>decide (ar6 r wh=0)
def ag7 (p:aa2):Bool :=
 aw4 p.name&&!bq2 p.name&&bf4 p.evr false&&ao5 p.ao2&&decide (p.vendor.length≤64) &&
 (decide (p.provides.length≤32)&&p.provides.all aj7)&&(decide (p.ab4.length≤32)&&p.ab4.all aj7)&&(decide (p.files.length≤32)&&p.files.all bq2) &&
 rising p.files&&al3 p.requires 1&&al3 p.conflicts 2&&al3 p.ac1 1&&al3 p.ab8 3&&al3 p.suggests 1&&al3 p.ac7 3
def own (p:aa2):Dep:=⟨p.name,2,p.evr⟩
def meets (a d:Dep):Bool:=decide (a.name=d.name)&&meet a d
def named (p:aa2)(d:Dep):Bool:=meets (own p) d
def provides (p:aa2)(d:Dep):Bool:=named p d||p.provides.any (fun a=>meets a d)||decide (d.op=0)&&p.files.contains d.name
def ab4 (p q:aa2):Bool:=p.ab4.any fun d=>named q d
def hb7 (l m:List aa7):Bool:=aa7.ha9 l m
end Go.Id.Md
