/- The document's data,and what functions give,in plain words. Conditions: none; no program in sight. -/
import Derived.Test.YtjpdjifjokldlaaDoorFwQ
set_option linter.all false
namespace Go.Id.Md
open Go Go.Id
abbrev Str:=List UInt8
structure EVR where
 aq5:Int
 ver:Str
 rel:Str
 deriving DecidableEq,Inhabited
structure Dep where
 name:Str
 op:Int
 evr:EVR
 deriving DecidableEq,Inhabited
inductive aa8 where
 | mk (kind:Int) (dep:Dep) (args:List aa8)
 deriving Inhabited
def aa8.kind:aa8→Int|.mk k _ _=>k
def aa8.dep:aa8→Dep|.mk _ d _=>d
def aa8.args:aa8→List aa8|.mk _ _ a=>a
structure aa3 where
 name:Str
 evr:EVR
 dg5:Int
 vendor:Str
 provides:List Dep
 requires:List aa8
 conflicts:List aa8
 ab9:List Dep
 aa7:List aa8
 aa5:List aa8
 suggests:List aa8
 ab2:List aa8
 files:List Str
 deriving Inhabited
structure aj7 where
 priority:Int
 packages:List aa3
 deriving Inhabited
/-! ### Sizes,kinds -/
def EVR.fit (e:EVR):Prop:=e.ver.length<2^62∧e.rel.length<2^62
def Dep.fit (d:Dep):Prop:=d.name.length<2^62∧d.evr.fit
theorem aa8.ind {p:aa8→Prop}(h:∀ k d aZ,(∀ a∈aZ,p a)→p (.mk k d aZ))(r:aa8):p r :=
 aa8.rec (motive_1:=p) (motive_2:=fun l=>∀ a∈l,p a) (fun k d aZ ih=>h k d aZ ih) (fun _ h=>by cases h) (fun r rs h1 h2 a ha=>by
  rcases List.mem_cons.1 ha with rfl|h
  ·exact h1
  ·exact h2 a h) r
mutual
def aa8.fit:aa8→Prop
 | .mk k d aZ=>0≤k∧k<256∧d.fit∧aZ.length<2^31∧aa8.fits aZ
def aa8.fits:List aa8→Prop
 | []=>True
 | r::rs=>r.fit∧aa8.fits rs
end
theorem aa8.ft5 (l:List aa8):aa8.fits l↔∀ r∈l,r.fit:=by
 induction l with
 | nil=>simp[aa8.fits]
 | cons r rs ih=>simp[aa8.fits,ih]
theorem aa8.bn3 {k:Int}{d:Dep}{aZ:List aa8}:(aa8.mk k d aZ).fit↔0≤k∧k<256∧d.fit∧aZ.length<2^31∧∀ r∈aZ,r.fit:=by
 simp only[aa8.fit,aa8.ft5]
/-! ### As ideal values -/
def EVR.cs (e:EVR):List IV:=[.int .i64 e.aq5,.str e.ver,.str e.rel]
def Dep.cs (d:Dep):List IV:=[.str d.name,.int .u8 d.op,.int .i64 d.evr.aq5,.str d.evr.ver,.str d.evr.rel]
mutual
def aa8.cs:aa8→List IV
 | .mk k d aZ=>[.int .u8 k,.str d.name,.int .u8 d.op,.int .i64 d.evr.aq5,.str d.evr.ver,.str d.evr.rel,.aa4 (aa8.css aZ)]
def aa8.css:List aa8→List (List IV)
 | []=>[]
 | r::rs=>r.cs::aa8.css rs
end
theorem aa8.gm7 (l:List aa8):aa8.css l=l.map aa8.cs:=by
 induction l with
 | nil=>rfl
 | cons r rs ih=>simp only[aa8.css,ih,List.map_cons]
theorem aa8.aq1 (r:aa8):r.cs=[.int .u8 r.kind,.str r.dep.name,.int .u8 r.dep.op,.int .i64 r.dep.evr.aq5,.str r.dep.evr.ver,.str r.dep.evr.rel,.aa4 (r.args.map aa8.cs)]:=by
 cases r with
 | mk k d aZ=>simp only[aa8.cs,aa8.gm7,aa8.kind,aa8.dep,aa8.args]
def ap4 (s:Str):List IV:=[.str s]
abbrev deps (l:List Dep):IV:=.aa4 (l.map Dep.cs)
abbrev ab7 (l:List aa8):IV:=.aa4 (l.map aa8.cs)
abbrev strs (l:List Str):IV:=.aa4 (l.map ap4)
def aa3.cs (p:aa3):List IV :=
 [.str p.name,.int .i64 p.evr.aq5,.str p.evr.ver,.str p.evr.rel,.int .u8 p.dg5,.str p.vendor,deps p.provides,ab7 p.requires,ab7 p.conflicts,deps p.ab9,ab7 p.aa7,ab7 p.aa5,ab7 p.suggests,ab7 p.ab2,strs p.files]
def aj7.cs (r:aj7):List IV:=[.int .i64 r.priority,.aa4 (r.packages.map aa3.cs)]
def aa3.rows (p:aa3):List (Int×List aa8):=[(1,p.requires),(2,p.conflicts),(1,p.aa7),(3,p.aa5),(1,p.suggests),(3,p.ab2)]
/-! ### Names,versions -/
def signs:Str:=[97,98,99,100,101,102,103,104,105,106,107,108,109,110,111,112,113,114,115,116,117,118,119,120,121,122,65,66,67,68,69,70,71,72,73,74,75,76,77,78,79,80,81,82,83,84,85,86,87,88,89,90,48,49,50,51,52,53,54,55,56,57,46,95,43,45,47,58,64,126,94]
def fd3 (b:UInt8):Bool:=(decide (97≤b.toNat)&&decide (b.toNat≤122))||(decide (65≤b.toNat)&&decide (b.toNat≤90))||(decide (48≤b.toNat)&&decide (b.toNat≤57))
def bh8 (b:UInt8):Bool:=signs.contains b
def words:List Str:=[[97,110,100],[111,114],[105,102],[101,108,115,101],[117,110,108,101,115,115],[119,105,116,104],[119,105,116,104,111,117,116]]
def av5 (s:Str):Bool:=decide (1≤s.length)&&decide (s.length≤64)&&s.all bh8&&!words.contains s
def bh9 (s:Str):Bool:=av5 s&&(s.head? == some 47)
def bz6 (b:UInt8):Bool:=fd3 b || [46,95,43,126,94].contains b
def bn4 (s:Str):Bool:=decide (1≤s.length)&&decide (s.length≤64)&&s.all bz6
def bn5 (e:EVR)(dep:Bool):Bool:=decide (0≤e.aq5)&&decide (e.aq5≤2147483647)&&bn4 e.ver&&(bn4 e.rel||dep&&e.rel.isEmpty)
def fd4 (op:Int):Bool:=[0,1,2,3,4,6].contains op
def ho4:EVR:=⟨0,[],[]⟩
def fd5:Dep:=⟨[],0,ho4⟩
def aq2 (d:Dep):Bool:=av5 d.name&&fd4 d.op&&(if d.op=0 then decide (d.evr=ho4) else !bh9 d.name&&bn5 d.evr true)
/-! ### How versions compare -/
def cf1 (b:UInt8):Nat:=if b=126 then 1 else if b=94 then 3 else if decide (97≤b)&&decide (b≤122)||decide (65≤b)&&decide (b≤90) then 4 else if decide (48≤b)&&decide (b≤57) then 5 else 0
structure Part where
 kind:Nat
 s:Str
 deriving DecidableEq,Inhabited
def dv2:Nat→Str→List Part
 | 0,_=>[]
 | _+1,[]=>[]
 | n+1,b::l=>
  if cf1 b=0 then dv2 n l
  else if cf1 b<4 then ⟨cf1 b,[]⟩::dv2 n l
  else ⟨cf1 b,if cf1 b=5 then ((b::l).takeWhile fun c=>cf1 c==cf1 b).dropWhile (· == 48) else (b::l).takeWhile fun c=>cf1 c==cf1 b⟩::dv2 n ((b::l).dropWhile fun c=>cf1 c==cf1 b)
def gd1 (s:Str):List Part:=dv2 s.length s
def ho5 (a b:Int):Int:=if a<b then -1 else if a=b then 0 else 1
def iq1 (a b:Str):Int:=if Op.bytesLess a b then -1 else if a=b then 0 else 1
def fd6 (a b:Part):Int :=
 let k:=ho5 a.kind b.kind
 if k≠0 then k else
 let n:=if a.kind=5∧b.kind=5 then ho5 a.s.length b.s.length else 0
 if n≠0 then n else iq1 a.s b.s
def dv3:List Part→List Part→Int
 | a::aZ,b::bs=>if fd6 a b≠0 then fd6 a b else dv3 aZ bs
 | _,_=>0
def fd7 (a b:Str):Int:=dv3 (gd1 a++[⟨2,[]⟩]) (gd1 b++[⟨2,[]⟩])
def hf6 (a b:EVR):Int :=
 if ho5 a.aq5 b.aq5≠0 then ho5 a.aq5 b.aq5 else
 if fd7 a.ver b.ver≠0 then fd7 a.ver b.ver else
 if a.rel=[]∨b.rel=[] then 0 else fd7 a.rel b.rel
def bit (op:Int)(i:Nat):Bool:=(op.toNat).testBit i
def side (n:Int):Nat:=if n<0 then 0 else if n=0 then 1 else 2
def meet (a b:Dep):Bool :=
 if a.op.toNat%8=0∨b.op.toNat%8=0 then true else
 let n:=hf6 a.evr b.evr
 if n=0 then bit a.op 0&&bit b.op 0||bit a.op 1&&bit b.op 1||bit a.op 2&&bit b.op 2
 else bit a.op (side (-n))||bit b.op (side n)
/-! ### aa8 dependencies -/
mutual
def aa8.count:aa8→Nat
 | .mk _ _ aZ=>aa8.counts aZ+1
def aa8.counts:List aa8→Nat
 | []=>0
 | r::rs=>r.count+aa8.counts rs
end
mutual
def aa8.depth:aa8→Nat
 | .mk k _ aZ=>if k=1 then 0 else aa8.bb5 aZ+1
def aa8.bb5:List aa8→Nat
 | []=>0
 | r::rs=>max r.depth (aa8.bb5 rs)
end
-- All parts,and whether each stands within a With,or a Without.
mutual
def aa8.parts:aa8→Bool→List (aa8×Bool)
 | .mk k d aZ,alone=>(.mk k d aZ,alone)::aa8.bb6 aZ (alone||decide (k=6)||decide (k=7))
def aa8.bb6:List aa8→Bool→List (aa8×Bool)
 | [],_=>[]
 | r::rs,alone=>r.parts alone++aa8.bb6 rs alone
end
def asks (k:Int):Nat×Nat×Bool×Nat :=
 if k=1 then (0,0,true,3) else if k=2 then (2,24,true,3) else if k=3 then (2,24,true,3) else if k=4 then (2,3,false,1)
 else if k=5 then (2,3,false,2) else if k=6 then (2,24,true,3) else if k=7 then (2,2,true,3) else (0,0,false,0)
def ah8 (wh:Int)(r:aa8)(alone:Bool):Bool :=
 let x:=asks r.kind
 !(decide ((x.2.2.2:Int)<wh)||alone&&!x.2.2.1||decide (r.args.length<x.1)||decide (x.2.1<r.args.length)) &&
 (if r.kind=1 then aq2 r.dep else decide (r.dep=fd5))
def aw2 (r:aa8)(wh:Int):Int :=
 if wh<1∨3<wh then 1 else if r.count>24 then 40 else if r.depth>8 then 21 else if (r.parts false).all fun p=>ah8 wh p.1 p.2 then 0 else 4
mutual
def aa8.same:aa8→aa8→Bool
 | .mk k d aZ,.mk k' d' as'=>decide (k=k')&&decide (d=d')&&aa8.bh4 aZ as'
def aa8.bh4:List aa8→List aa8→Bool
 | [],[]=>true
 | r::rs,s::ss=>r.same s&&aa8.bh4 rs ss
 | _,_=>false
end
structure aa3.Fit (p:aa3):Prop where
 name:p.name.length<2^62
 evr:p.evr.fit
 aw3:p.provides.length<2^31∧∀ d∈p.provides,d.fit
 obs:p.ab9.length<2^31∧∀ d∈p.ab9,d.fit
 files:p.files.length<2^31∧∀ s∈p.files,s.length<2^62
 au3:∀ x∈p.rows,x.2.length<2^31∧∀ r∈x.2,r.fit∧r.count<2^31
/-! ### Packages -/
def bn6 (a:Int):Bool:=decide (1≤a)&&decide (a≤4)
def rising:List Str→Bool
 | a::b::l=>Op.bytesLess a b&&rising (b::l)
 | _=>true
def al2 (l:List aa8)(wh:Int):Bool:=decide (l.length≤32)&&l.all fun r=>decide (aw2 r wh=0)
def ah9 (p:aa3):Bool :=
 av5 p.name&&!bh9 p.name&&bn5 p.evr false&&bn6 p.dg5&&decide (p.vendor.length≤64) &&
 (decide (p.provides.length≤32)&&p.provides.all aq2)&&(decide (p.ab9.length≤32)&&p.ab9.all aq2)&&(decide (p.files.length≤32)&&p.files.all bh9) &&
 rising p.files&&al2 p.requires 1&&al2 p.conflicts 2&&al2 p.aa7 1&&al2 p.aa5 3&&al2 p.suggests 1&&al2 p.ab2 3
def own (p:aa3):Dep:=⟨p.name,2,p.evr⟩
def meets (a d:Dep):Bool:=decide (a.name=d.name)&&meet a d
def named (p:aa3)(d:Dep):Bool:=meets (own p) d
def provides (p:aa3)(d:Dep):Bool:=named p d||p.provides.any (fun a=>meets a d)||decide (d.op=0)&&p.files.contains d.name
def ab9 (p q:aa3):Bool:=p.ab9.any fun d=>named q d
def ao4 (l m:List aa8):Bool:=aa8.bh4 l m
def al3 (a b:aa3):Bool :=
 decide (a.name=b.name)&&decide (a.evr=b.evr)&&decide (a.dg5=b.dg5)&&decide (a.vendor=b.vendor)&&decide (a.provides=b.provides)&&decide (a.ab9=b.ab9)&&decide (a.files=b.files) &&
 ao4 a.requires b.requires&&ao4 a.conflicts b.conflicts&&ao4 a.aa7 b.aa7&&ao4 a.aa5 b.aa5&&ao4 a.suggests b.suggests&&ao4 a.ab2 b.ab2
end Go.Id.Md
set_option linter.all false
namespace Go.Id.Md
open Go Go.Id
structure av6 where
 pkg:aa3
 bg3:Int
 prio:Int
def av6.cs (r:av6):List IV:=r.pkg.cs++[.int .i64 r.bg3,.int .i64 r.prio]
abbrev Nms:=List (Str×List Int)
def aq6:Nms→Str→Int→Nms
 | [],k,n=>[(k,[n])]
 | t::ts,k,n=>if k=t.1 then (k,t.2++[n])::ts else t::aq6 ts k n
def ax8:Nms→Nat→List aa3→Nms
 | nm,_,[]=>nm
 | nm,n,p::ps=>ax8 (aq6 nm p.name n) (n+1) ps
def ar1 (n:Int):List IV:=[.int .i64 n]
def nmV (nm:Nms):List (IV×IV):=nm.map fun t=>(.str t.1,.aa4 (t.2.map ar1))
structure Pool where
 rows:List av6
 inst:Int
 nm:Nms
def Pool.v (p:Pool):IV:=.af4 [.aa4 (p.rows.map av6.cs),.int .i64 p.inst,.al5 (nmV p.nm)]
def rowsOf (l:List aa3)(bg3 prio:Int):List av6:=l.map fun p=>⟨p,bg3,prio⟩
theorem bj6 (l:List aa3)(x:aa3)(a b:Int):rowsOf (l++[x]) a b=rowsOf l a b++[⟨x,a,b⟩]:=by simp[rowsOf]
theorem am6 (l:List aa3)(a b:Int):(rowsOf l a b).length=l.length:=by simp[rowsOf]
def ad5:Nat→List aj7→List av6×Nms→Option (List av6×Nms)
 | _,[],st=>some st
 | i,r::rs,st=>if r.priority<0∨1024<r.priority∨r.packages.all ah9=false then none else ad5 (i+1) rs (st.1++rowsOf r.packages i r.priority,ax8 st.2 st.1.length r.packages)
def ai3 (l:List aj7):Nat:=(l.map fun r=>r.packages.length).sum
def bz7 (repos:List aj7)(inst:List aa3):Pool ⊕ Int :=
 if 16<repos.length∨256<inst.length+ai3 repos then .inr 40 else
 if inst.all ah9=false then .inr 4 else
 match ad5 0 repos (rowsOf inst (-1) 1025,ax8 [] 0 inst) with
 | some (rows,nm)=>.inl ⟨rows,inst.length,nm⟩
 | none=>.inr 4
def gr7 (r:Pool ⊕ Int):IV:=match r with
 | .inl p=>.tuple [p.v,.int .i64 0]
 | .inr e=>.tuple [.ad3,.int .i64 e]
/-! ### Names,aZ they lie in memory -/
abbrev NmL:=List (Str×List Int×Nat)
def mEs (L:NmL):List (IV×IV):=L.map fun t=>(.str t.1,.slice t.2.2 0 t.2.1.length 1)
def ax9 (L:NmL):Nms:=L.map fun t=>(t.1,t.2.1)
def ba1:NmL→Str→Int→Nat→NmL
 | [],k,n,nid=>[(k,[n],nid)]
 | t::ts,k,n,nid=>if k=t.1 then (k,t.2.1++[n],nid)::ts else t::ba1 ts k n nid
def ch4 (L:NmL)(k:Str):IV:=match L.find? (fun t=>decide (k=t.1)) with
 | some t=>.slice t.2.2 0 t.2.1.length 1
 | none=>.aa1
def cr5 (L:NmL)(k:Str):List Int:=match L.find? (fun t=>decide (k=t.1)) with
 | some t=>t.2.1
 | none=>[]
theorem cx5 (L:NmL)(k:Str)(n:Int)(nid:Nat):ax9 (ba1 L k n nid)=aq6 (ax9 L) k n:=by
 induction L with
 | nil=>rfl
 | cons t ts ih=>
  simp only[ba1,ax9,List.map_cons,aq6];split
  ·rfl
  ·rw[List.map_cons]; congr 1
theorem hf7 (L:NmL)(k:Str):(ar2 2 (.str k) (mEs L)).map (fun r=>r.getD .aa1)=some (ch4 L k):=by
 induction L with
 | nil=>rfl
 | cons t ts ih=>
  simp only[mEs,List.map_cons,ar2,ey8,ch4,List.find?_cons] at ih ⊢;by_cases h:k=t.1
  ·simp[h]
  ·simp only[h,decide_false] at ih ⊢;exact ih
theorem gm8 (L:NmL)(k:Str):∃ r,ar2 2 (.str k) (mEs L)=some r∧r.getD .aa1=ch4 L k:=by
 have:=hf7 L k
 cases h:ar2 2 (.str k) (mEs L) with
 | none=>rw[h] at this; cases this
 | some r=>rw[h] at this; exact ⟨r,rfl,by simpa using this⟩
theorem id8 (L:NmL)(k:Str)(n:Int)(nid:Nat):es3 2 (.str k) (.slice nid 0 ((cr5 L k).length+1) 1) (mEs L)=some (mEs (ba1 L k n nid)):=by
 induction L with
 | nil=>rfl
 | cons t ts ih=>
  simp only[mEs,List.map_cons,es3,ey8,cr5,List.find?_cons,ba1] at ih ⊢;by_cases h:k=t.1
  ·simp[h]
  ·simp only[h,decide_false,if_false,List.map_cons] at ih ⊢;rw[ih]; rfl
theorem cf3 {k:Str}{n:Int}{nid:Nat}:∀ {L:NmL},(L.map (·.1)).Nodup→∀ t∈ba1 L k n nid,(t∈L∧t.1≠k)∨t=(k,cr5 L k++[n],nid):=by
 intro L
 induction L with
 | nil=>intro _ t ht; simp[ba1] at ht; exact .inr (by rw[ht]; rfl)
 | cons u us ih=>
  intro hk t ht;rw[List.map_cons,List.nodup_cons] at hk;simp only[ba1] at ht;by_cases h:k=u.1
  ·rw[if_pos h] at ht;rcases List.mem_cons.1 ht with rfl|ht
   ·right; simp[cr5,h]
   ·left;exact ⟨List.mem_cons_of_mem _ ht,fun e=>hk.1 (by rw[← h,← e]; exact List.mem_map_of_mem (f:=fun x:Str×List Int×Nat=>x.1) ht)⟩
  ·rw[if_neg h] at ht;rcases List.mem_cons.1 ht with rfl|ht
   ·left; exact ⟨List.mem_cons_self ..,fun e=>h e.symm⟩
   ·have e:cr5 (u::us) k=cr5 us k:=by simp[cr5,h]
    rw[e];rcases ih hk.2 t ht with ⟨h1,h2⟩|h1
    ·exact .inl ⟨List.mem_cons_of_mem _ h1,h2⟩
    ·exact .inr h1
theorem dv4 {k:Str}{n:Int}{nid:Nat}:∀ (L:NmL),(L.map (·.1)).Nodup→((ba1 L k n nid).map (·.1)).Nodup∧∀ x∈(ba1 L k n nid).map (·.1),x=k∨x∈L.map (·.1):=by
 intro L
 induction L with
 | nil=>intro _; simp[ba1]
 | cons u us ih=>
  intro hk;rw[List.map_cons,List.nodup_cons] at hk;simp only[ba1];by_cases h:k=u.1
  ·rw[if_pos h];refine ⟨?_,?_⟩
   ·rw[List.map_cons,List.nodup_cons]; exact ⟨by rw[h]; exact hk.1,hk.2⟩
   ·intro x hx;simp only[List.map_cons,List.mem_cons] at hx ⊢;rcases hx with h1|h1
    ·exact .inl h1
    ·exact .inr (.inr h1)
  ·rw[if_neg h];obtain ⟨h1,h2⟩:=ih hk.2;refine ⟨?_,?_⟩
   ·rw[List.map_cons,List.nodup_cons];refine ⟨fun hm=>?_,h1⟩;rcases h2 _ hm with e|e
    ·exact h e.symm
    ·exact hk.1 e
   ·intro x hx;simp only[List.map_cons,List.mem_cons] at hx ⊢;rcases hx with h3|h3
    ·exact .inr (.inl h3)
    ·rcases h2 _ h3 with e|e
     ·exact .inl e
     ·exact .inr (.inr e)
theorem fe1 {k:Str}{n:Int}{nid:Nat}:∀ (L:NmL),(L.map (·.2.2)).Nodup→nid ∉ L.map (·.2.2)→((ba1 L k n nid).map (·.2.2)).Nodup∧∀ x∈(ba1 L k n nid).map (·.2.2),x=nid∨x∈L.map (·.2.2):=by
 intro L
 induction L with
 | nil=>intro _ _; simp[ba1]
 | cons u us ih=>
  intro hk hn;rw[List.map_cons,List.nodup_cons] at hk;simp only[List.map_cons,List.mem_cons,not_or] at hn;simp only[ba1];by_cases h:k=u.1
  ·rw[if_pos h];refine ⟨?_,?_⟩
   ·rw[List.map_cons,List.nodup_cons]; exact ⟨hn.2,hk.2⟩
   ·intro x hx;simp only[List.map_cons,List.mem_cons] at hx ⊢;rcases hx with h1|h1
    ·exact .inl h1
    ·exact .inr (.inr h1)
  ·rw[if_neg h];obtain ⟨h1,h2⟩:=ih hk.2 hn.2;refine ⟨?_,?_⟩
   ·rw[List.map_cons,List.nodup_cons];refine ⟨fun hm=>?_,h1⟩;rcases h2 _ hm with e|e
    ·exact hn.1 e.symm
    ·exact hk.1 e
   ·intro x hx;simp only[List.map_cons,List.mem_cons] at hx ⊢;rcases hx with h3|h3
    ·exact .inr (.inl h3)
    ·rcases h2 _ h3 with e|e
     ·exact .inl e
     ·exact .inr (.inr e)
theorem bg1 (L:NmL)(k:Str):(ch4 L k=.aa1∧cr5 L k=[])∨∃ t∈L,t.1=k∧ch4 L k=.slice t.2.2 0 t.2.1.length 1∧cr5 L k=t.2.1:=by
 unfold ch4 cr5
 cases h:L.find? (fun t=>decide (k=t.1)) with
 | none=>exact .inl ⟨rfl,rfl⟩
 | some t=>
  have h1:=List.find?_some h;exact .inr ⟨t,List.mem_of_find?_eq_some h,by simpa using (by simpa using h1:k=t.1).symm,rfl,rfl⟩
theorem fe2 {L:NmL}(hk:(L.map (·.1)).Nodup)(hd:(L.map (·.2.2)).Nodup):∀ t∈L,∀ u∈L,t.2.2=u.2.2→t=u:=by
 intro t ht u hu e;obtain ⟨i,hi,h1⟩:=List.mem_iff_getElem.1 ht;obtain ⟨j,hj,h2⟩:=List.mem_iff_getElem.1 hu
 have hij:i=j:=by
  have hi':i<(L.map (·.2.2)).length:=by simpa using hi
  have hj':j<(L.map (·.2.2)).length:=by simpa using hj
  have hp:=List.pairwise_iff_getElem.1 hd;have e2:(L.map (·.2.2))[i]=(L.map (·.2.2))[j]:=by simp only[List.getElem_map,h1,h2,e]
  rcases Nat.lt_trichotomy i j with h|h|h
  ·exact absurd e2 (hp i j hi' hj' h)
  ·exact h
  ·exact absurd e2.symm (hp j i hj' hi' h)
 subst hij;rw[← h1,← h2]
end Go.Id.Md
/- What the statements of pools go over: not too much. Conditions: none; no program in sight. -/
namespace Go.Id.Md
open Go Go.Id
mutual
def aa8.ok:aa8→Prop
 | .mk k d xs=>0≤k∧k<256∧d.fit∧xs.length<2^62∧aa8.oks xs
def aa8.oks:List aa8→Prop
 | []=>True
 | r::rs=>r.ok∧aa8.oks rs
end
theorem aa8.gm9 (l:List aa8):aa8.oks l↔∀ r∈l,r.ok:=by
 induction l with
 | nil=>simp[aa8.oks]
 | cons r rs ih=>simp[aa8.oks,ih]
theorem aa8.fe3 {k:Int}{d:Dep}{xs:List aa8}:(aa8.mk k d xs).ok↔0≤k∧k<256∧d.fit∧xs.length<2^62∧∀ r∈xs,r.ok:=by
 simp only[aa8.ok,aa8.gm9]
structure aa3.Ok (p:aa3):Prop where
 name:p.name.length<2^62
 vendor:p.vendor.length<2^62
 evr:p.evr.fit
 aw3:p.provides.length<2^62∧∀ d∈p.provides,d.fit
 obs:p.ab9.length<2^62∧∀ d∈p.ab9,d.fit
 files:p.files.length<2^62∧∀ s∈p.files,s.length<2^62
 au3:∀ x∈p.rows,x.2.length<2^62∧∀ r∈x.2,r.ok
def aj7.Ok (r:aj7):Prop:=r.packages.length<2^62∧∀ p∈r.packages,p.Ok
def big (d:Dep):Bool:=decide (500<d.name.length+d.evr.ver.length)||decide (500<d.evr.rel.length)
mutual
def bn7:aa8→Nat→Nat×Bool
 | .mk _ _ xs,deep=>if 20<deep∨100<xs.length then (0,true) else bz8 xs deep 0
def bz8:List aa8→Nat→Nat→Nat×Bool
 | [],_,n=>(n,false)
 | r::rs,deep,n=>if big r.dep=true then (0,true) else
  if (bn7 r (deep+1)).2=true∨2000<n+1+(bn7 r (deep+1)).1 then (0,true) else bz8 rs deep (n+1+(bn7 r (deep+1)).1)
end
def bz9 (l:List aa8)(deep:Nat):Nat×Bool:=if 20<deep∨100<l.length then (0,true) else bz8 l deep 0
theorem cr6 (r:aa8)(deep:Nat):bn7 r deep=bz9 r.args deep:=by
 cases r; simp only[bn7,bz9,aa8.args]; rfl
def bn8:List (List aa8)→Nat→Bool
 | [],_=>false
 | l::ls,n=>if (bz9 l 0).2=true∨2000<n+(bz9 l 0).1 then true else bn8 ls (n+(bz9 l 0).1)
def bb7 (p:aa3):List (List aa8):=[p.requires,p.conflicts,p.aa7,p.aa5,p.suggests,p.ab2]
def am7 (p:aa3):Bool :=
 decide (100<p.provides.length)||(decide (100<p.ab9.length)||(decide (100<p.files.length)||(decide (1000<p.name.length)||(decide (1000<p.vendor.length)||(decide (1000<p.evr.ver.length)||(decide (1000<p.evr.rel.length)||bn8 (bb7 p) 0))))))
def cx6:List aj7→Nat→Bool
 | [],_=>false
 | r::rs,n=>if 80<n+r.packages.length then true else if r.packages.any am7=true then true else cx6 rs (n+r.packages.length)
def el8 (repos:List aj7)(inst:List aa3):Bool :=
 decide (30<repos.length)||(decide (40<inst.length)||(inst.any am7||cx6 repos inst.length))
theorem ft6:∀ (l:List aa8) (deep n:Nat),n≤2000→(bz8 l deep n).1≤2000:=by
 intro l
 induction l with
 | nil=>intro deep n h; simpa [bz8] using h
 | cons r rs ih=>
  intro deep n h;simp only[bz8];split
  ·omega
  split
  ·omega
  ·exact ih _ _ (by omega)
theorem dv5 (l:List aa8)(deep:Nat):(bz9 l deep).1≤2000:=by
 unfold bz9;split
 ·omega
 ·exact ft6 _ _ _ (by omega)
/-! ### What is the same -/
theorem bn9:∀ (l:List aa8),(∀ r∈l,r.same r=true)→aa8.bh4 l l=true:=by
 intro l
 induction l with
 | nil=>intro _; rfl
 | cons x xs ih=>intro h; simp only[aa8.bh4]; rw[h x (List.mem_cons_self ..),ih fun r hr=>h r (List.mem_cons_of_mem _ hr)]; rfl
theorem fe4 (r:aa8):r.same r=true:=by
 induction r using aa8.ind with
 | h k d xs ih=>simp only[aa8.same,decide_true,Bool.true_and]; exact bn9 xs ih
theorem el9 (l:List aa8):ao4 l l=true:=bn9 l fun r _=>fe4 r
theorem dg7 (p:aa3):al3 p p=true:=by
 simp only[al3,el9,decide_true,Bool.and_true]
/-! ### The rows of a pool -/
def at5:Nat→List aj7→List av6
 | _,[]=>[]
 | i,r::rs=>rowsOf r.packages i r.priority++at5 (i+1) rs
theorem ch5:∀ (rs:List aj7) (i:Nat) (st:List av6×Nms) (out:List av6×Nms),ad5 i rs st=some out→out.1=st.1++at5 i rs:=by
 intro rs
 induction rs with
 | nil=>intro i st out h; simp only[ad5,Option.some.injEq] at h; subst h; simp[at5]
 | cons r rs ih=>
  intro i st out h;simp only[ad5] at h;split at h
  ·cases h
  ·rw[ih _ _ _ h]; simp[at5]
theorem ft7 {repos:List aj7}{inst:List aa3}{p:Pool}(h:bz7 repos inst=.inl p):p.rows=rowsOf inst (-1) 1025++at5 0 repos∧p.inst=inst.length:=by
 unfold bz7 at h;split at h
 ·cases h
 split at h
 ·cases h
 split at h
 ·rename_i rows nm hr;cases h;exact ⟨ch5 _ _ _ _ hr,rfl⟩
 ·cases h
theorem ft8 {repos:List aj7}{inst:List aa3}{e:Int}(h:bz7 repos inst=.inr e):e=40∨e=4:=by
 unfold bz7 at h;split at h
 ·cases h; exact .inl rfl
 split at h
 ·cases h; exact .inr rfl
 split at h
 ·cases h
 ·cases h; exact .inr rfl
end Go.Id.Md
/- Indexes,in plain words: names with their numbers,in whatever row. Conditions: none; no program in sight. -/
namespace Go.Id.Md
open Go Go.Id
def af7:Nms→Str→List Int
 | [],_=>[]
 | t::ts,k=>if k=t.1 then t.2 else af7 ts k
def KN (nm:Nms):Prop:=(nm.map (·.1)).Nodup
theorem cr7 {k:Str}{n:Int}:∀ {nm:Nms},∀ x∈(aq6 nm k n).map (·.1),x=k∨x∈nm.map (·.1):=by
 intro nm
 induction nm with
 | nil=>intro x hx; simpa [aq6] using hx
 | cons u us ih=>
  intro x hx;simp only[aq6] at hx;split at hx
  ·rename_i e; simp only[List.map_cons,List.mem_cons] at hx ⊢;rcases hx with h|h
   ·exact .inl h
   ·exact .inr (.inr h)
  ·simp only[List.map_cons,List.mem_cons] at hx ⊢;rcases hx with h|h
   ·exact .inr (.inl h)
   ·rcases ih x h with h|h
    ·exact .inl h
    ·exact .inr (.inr h)
theorem bg2 {nm:Nms}{k:Str}{n:Int}(h:KN nm):KN (aq6 nm k n):=by
 induction nm with
 | nil=>simp[KN,aq6]
 | cons u us ih=>
  have h':u.1 ∉ us.map (·.1)∧KN us:=by simpa [KN] using h
  simp only[aq6];split
  ·rename_i e; subst e; exact h
  ·rename_i e;show ((u::aq6 us k n).map (·.1)).Nodup;rw[List.map_cons,List.nodup_cons];refine ⟨fun hm=>?_,ih h'.2⟩;rcases cr7 _ hm with h1|h1
   ·exact e h1.symm
   ·exact h'.1 h1
theorem KN.perm {nm nm':Nms}(h:KN nm)(p:nm.Perm nm'):KN nm':=(p.map (fun x:Str×List Int=>x.1)).nodup_iff.1 h
theorem ay1 {nm:Nms}(h:KN nm)(k:Str)(n:Int)(j:Str):af7 (aq6 nm k n) j=if j=k then af7 nm k++[n] else af7 nm j:=by
 induction nm with
 | nil=>
  simp only[aq6,af7]
  split<;>rfl
 | cons u us ih=>
  have h':u.1 ∉ us.map (·.1)∧KN us:=by simpa [KN] using h
  simp only[aq6,af7];by_cases e:k=u.1
  ·rw[if_pos e,if_pos e];simp only[af7];by_cases ej:j=k
   ·rw[if_pos ej,if_pos ej]
   ·rw[if_neg ej,if_neg ej,if_neg (fun x=>ej (x.trans e.symm))]
  ·rw[if_neg e,if_neg e];simp only[af7,ih h'.2];by_cases ej:j=k
   ·rw[if_pos ej,if_pos ej,if_neg (fun x=>e (ej.symm.trans x))]
   ·rw[if_neg ej,if_neg ej]
def cr8 (nm:Nms)(ks:List Str)(n:Int):Nms:=ks.foldl (fun m k=>aq6 m k n) nm
theorem dg8 {n:Int}:∀ {ks:List Str} {nm:Nms},KN nm→KN (cr8 nm ks n)
 | [],_,h=>h
 | _::ks,_,h=>dg8 (ks:=ks) (bg2 h)
def dg9 (l:List Str)(k:Str):List Str:=if k∈l then l else l++[k]
def ho6 (p:aa3):List Str:=p.files.foldl dg9 ((p.provides.map (·.name)).foldl dg9 [p.name])
def bj7 (nm:Nms)(ds:List Str)(n:Int):Nms:=ds.foldl (fun m k=>if n∈af7 m k then m else aq6 m k n) nm
structure Index where
 all:List aa3
 aw3:Nms
 names:Nms
 over:Nms
def Index.v (x:Index):IV:=.af4 [.aa4 (x.all.map aa3.cs),.al5 (nmV x.aw3),.al5 (nmV x.names),.al5 (nmV x.over)]
def gd2 (x:Index)(n:Nat)(p:aa3):Index:=⟨x.all++[p],cr8 x.aw3 (ho6 p) n,aq6 x.names p.name n,bj7 x.over (p.ab9.map (·.name)) n⟩
def idxFrom (x:Index):Nat→List aa3→Index
 | _,[]=>x
 | n,p::ps=>idxFrom (gd2 x n p) (n+1) ps
def iq2 (l:List aa3):Index:=idxFrom ⟨[],[],[],[]⟩ 0 l
end Go.Id.Md
/- Indexes,in plain words: who stands in them,by number. Conditions: none; no program in sight. -/
namespace Go.Id.Md
open Go Go.Id
def numsOf (q:aa3→Bool)(l:List aa3):List Int:=((List.range l.length).filter fun n=>q (l.getD n default)).map fun (n:Nat)=>(n:Int)
theorem az4 (q:aa3→Bool)(l:List aa3)(p:aa3):numsOf q (l++[p])=numsOf q l++if q p then [(l.length:Int)] else []:=by
 unfold numsOf;rw[List.length_append,List.length_singleton,List.range_succ,List.filter_append,List.map_append];congr 1
 ·congr 1;refine List.filter_congr fun n hn=>?_
  have h:=List.mem_range.1 hn;simp[List.getD_eq_getElem?_getD,List.getElem?_append,h]
 ·have e:(l++[p]).getD l.length default=p:=by simp[List.getD_eq_getElem?_getD]
  simp only[List.filter_cons,List.filter_nil,e];split<;>rfl
theorem bx2 {q:aa3→Bool}{l:List aa3}{n:Int}:n∈numsOf q l↔∃ m:Nat,n=m∧m<l.length∧q (l.getD m default)=true:=by
 unfold numsOf;rw[List.mem_map];constructor
 ·rintro ⟨m,hm,rfl⟩;obtain ⟨h1,h2⟩:=List.mem_filter.1 hm;exact ⟨m,rfl,List.mem_range.1 h1,h2⟩
 ·rintro ⟨m,rfl,h1,h2⟩;exact ⟨m,List.mem_filter.2 ⟨List.mem_range.2 h1,by simpa using h2⟩,rfl⟩
theorem em1 (q:aa3→Bool)(l:List aa3):(numsOf q l).length≤l.length:=by
 unfold numsOf;rw[List.length_map];exact Nat.le_trans (List.length_filter_le _ _) (by simp)
theorem dp3 {n:Int}:∀ (ks:List Str) {nm:Nms},KN nm→ks.Nodup→∀ j,af7 (cr8 nm ks n) j=af7 nm j++if j∈ks then [n] else []:=by
 intro ks
 induction ks with
 | nil=>intro nm _ _ j; simp[cr8]
 | cons k ks ih=>
  intro nm h hnd j;obtain ⟨h1,h2⟩:=List.nodup_cons.1 hnd;show af7 (cr8 (aq6 nm k n) ks n) j=_;rw[ih (bg2 h) h2,ay1 h];by_cases e:j=k
  ·subst e; simp[h1]
  ·simp[e]
theorem em2 {n:Int}:∀ (ks:List Str) {nm:Nms},KN nm→KN (bj7 nm ks n):=by
 intro ks
 induction ks with
 | nil=>intro nm h; exact h
 | cons k ks ih=>
  intro nm h;show KN (bj7 (if n∈af7 nm k then nm else aq6 nm k n) ks n);split
  ·exact ih h
  ·exact ih (bg2 h)
theorem dh1 {n:Int}:∀ (ks:List Str) {nm:Nms},KN nm→∀ j,af7 (bj7 nm ks n) j=af7 nm j++if j∈ks∧n ∉ af7 nm j then [n] else []:=by
 intro ks
 induction ks with
 | nil=>intro nm _ j; simp[bj7]
 | cons k ks ih=>
  intro nm h j;show af7 (bj7 (if n∈af7 nm k then nm else aq6 nm k n) ks n) j=_;by_cases hk:n∈af7 nm k
  ·rw[if_pos hk,ih h];by_cases e:j=k
   ·subst e; simp[hk]
   ·simp[e]
  ·rw[if_neg hk,ih (bg2 h),ay1 h];by_cases e:j=k
   ·subst e; simp[hk]
   ·simp[e]
theorem em3 {l:List Str}(h:l.Nodup)(k:Str):(dg9 l k).Nodup:=by
 unfold dg9;split
 ·exact h
 ·rename_i hk;rw[List.nodup_append];exact ⟨h,by simp,fun a ha b hb e=>by simp at hb; subst hb; subst e; exact hk ha⟩
theorem bj8:∀ (ks:List Str) {l:List Str},l.Nodup→(ks.foldl dg9 l).Nodup
 | [],_,h=>h
 | k::ks,_,h=>bj8 ks (em3 h k)
theorem ft9 (p:aa3):(ho6 p).Nodup:=bj8 _ (bj8 _ (by simp))
structure gn1 (x:Index) (l:List aa3):Prop where
 all:x.all=l
 kp:KN x.aw3
 kn:KN x.names
 ko:KN x.over
 aw3:∀ j,af7 x.aw3 j=numsOf (fun p=>decide (j∈ho6 p)) l
 names:∀ j,af7 x.names j=numsOf (fun p=>decide (p.name=j)) l
 over:∀ j,af7 x.over j=numsOf (fun p=>decide (∃ d∈p.ab9,d.name=j)) l
theorem gn1.add {x:Index}{l:List aa3}(h:gn1 x l)(p:aa3):gn1 (gd2 x l.length p) (l++[p]) where
 all:=by show x.all++[p]=_; rw[h.all]
 kp:=dg8 h.kp
 kn:=bg2 h.kn
 ko:=em2 _ h.ko
 aw3:=fun j=>by
  show af7 (cr8 x.aw3 (ho6 p) _) j=_;rw[dp3 _ h.kp (ft9 p),h.aw3,az4];simp
 names:=fun j=>by
  show af7 (aq6 x.names p.name _) j=_;rw[ay1 h.kn,h.names,h.names,az4];by_cases e:j=p.name
  ·subst e; simp
  ·have e':¬ p.name=j:=fun h=>e h.symm
   simp[e,e']
 over:=fun j=>by
  show af7 (bj7 x.over _ _) j=_;rw[dh1 _ h.ko,h.over,az4]
  have hn:(l.length:Int) ∉ numsOf (fun p=>decide (∃ d∈p.ab9,d.name=j)) l:=fun hm=>by
   obtain ⟨m,e,h1,_⟩:=bx2.1 hm;omega
  simp[hn]
/-! ### Who provides -/
end Go.Id.Md
/- Pools of packages that may be: sizes. Conditions: none; no program in sight. -/
namespace Go.Id.Md
open Go Go.Id
theorem cx7:∀ (rs:List aj7) (i:Nat) (st:List av6×Nms) (out:List av6×Nms),ad5 i rs st=some out→∀ r∈rs,r.packages.all ah9=true:=by
 intro rs
 induction rs with
 | nil=>intro i st out _ r hr; cases hr
 | cons x xs ih=>
  intro i st out h r hr;simp only[ad5] at h;split at h
  ·cases h
  ·rename_i hc;rcases List.mem_cons.1 hr with rfl|hr
   ·cases hb:r.packages.all ah9 with
    | true=>rfl
    | false=>exact absurd (.inr (.inr hb)) hc
   ·exact ih _ _ _ h r hr
theorem em4 {repos:List aj7}{inst:List aa3}{p:Pool}(h:bz7 repos inst=.inl p):repos.length≤16∧inst.length+ai3 repos≤256∧inst.all ah9=true∧∀ r∈repos,r.packages.all ah9=true:=by
 unfold bz7 at h;split at h
 ·cases h
 rename_i hc;split at h
 ·cases h
 rename_i hm;split at h
 ·rename_i rows nm hr;exact ⟨by omega,by omega,by simpa using hm,cx7 _ _ _ _ hr⟩
 ·cases h
theorem cr9 (l:List aa3)(a b:Int):(rowsOf l a b).map (·.pkg)=l:=by
 induction l with
 | nil=>rfl
 | cons x xs ih=>show x::(rowsOf xs a b).map (·.pkg)=_; rw[ih]
def at6 (p:Pool):List aa3:=p.rows.map (·.pkg)
theorem cx8:∀ (rs:List aj7) (i:Nat),(at5 i rs).map (·.pkg)=rs.flatMap (·.packages):=by
 intro rs
 induction rs with
 | nil=>intro i; rfl
 | cons r rs ih=>intro i; simp only[at5,List.map_append,ih,cr9,List.flatMap_cons]
theorem fe5:∀ (rs:List aj7),(rs.flatMap (·.packages)).length=ai3 rs:=by
 intro rs
 induction rs with
 | nil=>rfl
 | cons r rs ih=>simp only[List.flatMap_cons,List.length_append,ih]; rfl
theorem dh2 {repos:List aj7}{inst:List aa3}{p:Pool}(h:bz7 repos inst=.inl p):at6 p=inst++repos.flatMap (·.packages):=by
 unfold at6;rw[(ft7 h).1,List.map_append,cx8];congr 1;exact cr9 _ _ _
theorem dv6 {repos:List aj7}{inst:List aa3}{p:Pool}(h:bz7 repos inst=.inl p):p.rows.length≤256:=by
 have e:p.rows.length=(at6 p).length:=by simp[at6]
 rw[e,dh2 h,List.length_append,fe5];exact (em4 h).2.1
end Go.Id.Md
/- What is asked for,in plain words: successors,newcomers,whom a job means,what fulfils it. Conditions: none; no program in sight. -/
namespace Go.Id.Md
open Go Go.Id
structure Job where
 kind:Int
 dep:Dep
 deriving DecidableEq,Inhabited
structure hf8 where
 kind:Int
 n:Int
 deriving DecidableEq,Inhabited
structure Req where
 dg5:Int
 vendor:Bool
 ij8:List Job
 hg7:List hf8
 budget:Int
def Job.cs (j:Job):List IV:=[.int .u8 j.kind,.str j.dep.name,.int .u8 j.dep.op,.int .i64 j.dep.evr.aq5,.str j.dep.evr.ver,.str j.dep.evr.rel]
def hf8.cs (e:hf8):List IV:=[.int .u8 e.kind,.int .i64 e.n]
abbrev hf9 (l:List Job):IV:=.aa4 (l.map Job.cs)
abbrev gd3 (l:List hf8):IV:=.aa4 (l.map hf8.cs)
def Req.cs (r:Req):List IV:=[.int .u8 r.dg5,.bool r.vendor,hf9 r.ij8,gd3 r.hg7,.int .i64 r.budget]
/-! ### Numbers for which something holds -/
/-! ### Architectures -/
def hg6 (m a:Int):Int :=
 if m=2 then (if a=1 then 2 else if a=2 then 1 else if a=3 then 3 else 0) else
 if m=3 then (if a=1 then 2 else if a=3 then 1 else 0) else
 if m=4 then (if a=1 then 2 else if a=4 then 1 else 0) else 0
def id9 (m a:Int):Bool:=decide (0<hg6 m a)
/-! ### What is asked for -/
structure gr8 where
 p:Pool
 r:Req
namespace gr8
variable (a:gr8)
def l:List aa3:=at6 a.p
def pk (n:Int):aa3:=a.l.getD n.toNat default
def is (n:Int):Bool:=decide (0≤n)&&decide (n<a.l.length)
def inst (n:Int):Bool:=a.is n&&decide (n<a.p.inst)
def fits (n:Int):Bool:=a.is n&&id9 a.r.dg5 (a.pk n).dg5
def some (state l:List Int):Bool:=l.any fun n=>decide (n∈state)
def cs:List IV:=[a.p.v,(iq2 a.l).v,.int .u8 a.r.dg5,.bool a.r.vendor,hf9 a.r.ij8,gd3 a.r.hg7,.int .i64 a.r.budget,.aa4 (a.l.map aa3.cs)]
def v:IV:=.af4 a.cs
end gr8
/-! ### Versions,turned about -/
/-! ### What holds of it -/
namespace gr8
variable (a:gr8)
end gr8
end Go.Id.Md
set_option linter.all false
namespace Go.Id.Md
open Go Go.Id
structure eo7 (nm:Nms) (l:List aa3):Prop where
 kn:KN nm
 look:∀ k,af7 nm k=numsOf (fun p=>decide (p.name=k)) l
 ne:∀ k∈nm.map (·.1),af7 nm k≠[]
 len:nm.length≤l.length
theorem fd8 (nm:Nms)(k:Str)(n:Int):(aq6 nm k n).length≤nm.length+1:=by
 induction nm with
 | nil=>simp[aq6]
 | cons t ts ih=>
  simp only[aq6];split
  ·simp
  ·simp only[List.length_cons]; omega
theorem eo7.add {nm:Nms}{l:List aa3}(h:eo7 nm l)(p:aa3):eo7 (aq6 nm p.name (l.length:Nat)) (l++[p]) where
 kn:=bg2 h.kn
 look:=fun k=>by
  rw[ay1 h.kn,az4];by_cases e:k=p.name
  ·rw[if_pos e,h.look,e]; simp
  ·have e':¬ p.name=k:=fun h=>e h.symm
   rw[if_neg e,h.look]; simp[e']
 ne:=fun k hk=>by
  rw[ay1 h.kn];by_cases e:k=p.name
  ·rw[if_pos e]; simp
  ·rw[if_neg e];rcases cr7 k hk with e2|e2
   ·exact absurd e2 e
   ·exact h.ne k e2
 len:=by
  have h1:=fd8 nm p.name (l.length:Nat);have h2:=h.len;rw[List.length_append,List.length_singleton]; omega
theorem eo7.all:∀ (ps:List aa3) {nm:Nms} {l:List aa3},eo7 nm l→eo7 (ax8 nm l.length ps) (l++ps):=by
 intro ps
 induction ps with
 | nil=>intro nm l h; simpa [ax8] using h
 | cons p ps ih=>
  intro nm l h;have:=ih (h.add p);rw[List.length_append,List.length_singleton,List.append_assoc] at this;exact this
theorem cf2 (l:List aa3)(a b:Int):(rowsOf l a b).map (·.pkg)=l:=by
 unfold rowsOf; rw[List.map_map]; exact (List.map_congr_left fun _ _=>rfl).trans (List.map_id l)
theorem dg6:∀ (rs:List aj7) (i:Nat) (rows rows':List av6) (nm nm':Nms),eo7 nm (rows.map (·.pkg))→ad5 i rs (rows,nm)=some (rows',nm')→eo7 nm' (rows'.map (·.pkg)):=by
 intro rs
 induction rs with
 | nil=>intro i rows rows' nm nm' h e; simp only[ad5,Option.some.injEq,Prod.mk.injEq] at e; obtain ⟨rfl,rfl⟩:=e; exact h
 | cons r rs ih=>
  intro i rows rows' nm nm' h e;simp only[ad5] at e;split at e
  ·cases e
  ·refine ih _ _ _ _ _ ?_ e;have:=eo7.all r.packages h;rw[List.map_append,cf2]
   simpa using this
theorem fd9 {repos:List aj7}{inst:List aa3}{p:Pool}(h:bz7 repos inst=.inl p):eo7 p.nm (p.rows.map (·.pkg)):=by
 unfold bz7 at h;split at h
 ·cases h
 split at h
 ·cases h
 split at h
 ·rename_i rows nm hr;cases h;refine dg6 repos 0 _ _ _ _ ?_ hr;rw[cf2];have h0:eo7 [] []:=⟨List.nodup_nil,fun k=>rfl,fun k hk=>(by cases hk),Nat.le_refl _⟩;exact eo7.all inst h0
 ·cases h
end Go.Id.Md
