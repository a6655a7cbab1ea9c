/- The document's data,and what functions give,in plain words. Conditions: none; no program in sight. -/
import Derived.Test.YtebfbbjghhagbaaGreatDoorFwQ
set_option linter.all false
namespace Go.Id.Md
open Go Go.Id
abbrev Str:=List UInt8
structure EVR where
 am7:Int
 ver:Str
 rel:Str
 deriving DecidableEq,Inhabited
structure Dep where
 name:Str
 op:Int
 evr:EVR
 deriving DecidableEq,Inhabited
inductive aa8 where
 | mk (kind:Int) (dep:Dep) (args:List aa8)
 deriving Inhabited
def aa8.kind:aa8->Int|.mk k _ _=>k
def aa8.dep:aa8->Dep|.mk _ d _=>d
def aa8.args:aa8->List aa8|.mk _ _ a=>a
structure aa3 where
 name:Str
 evr:EVR
 aq4:Int
 vendor:Str
 provides:List Dep
 requires:List aa8
 conflicts:List aa8
 aa9:List Dep
 ac3:List aa8
 ac2:List aa8
 suggests:List aa8
 ad7:List aa8
 files:List Str
 deriving Inhabited
structure al7 where
 priority:Int
 packages:List aa3
 deriving Inhabited
def EVR.fit (e:EVR):Prop:=e.ver.length<2^62/\e.rel.length<2^62
def Dep.fit (d:Dep):Prop:=d.name.length<2^62/\d.evr.fit
theorem aa8.ind {p:aa8->Prop}(h:∀ k d aZ,(∀ a∈aZ,p a)->p (.mk k d aZ))(r:aa8):p r :=
 aa8.rec (motive_1:=p) (motive_2:=fun l=>∀ a∈l,p a) (fun k d aZ ih=>h k d aZ ih) (fun _ h=>by cases h) (fun r rs h1 h2 a ha=>by
  rcases List.mem_cons.1 ha with rfl|h
  ·exact h1
  ·exact h2 a h) r
mutual
def aa8.fit:aa8->Prop
 | .mk k d aZ=>0<=k/\k<256/\d.fit/\aZ.length<2^31/\aa8.fits aZ
def aa8.fits:List aa8->Prop
 | []=>True
 | r::rs=>r.fit/\aa8.fits rs
end
theorem aa8.gs6 (l:List aa8):aa8.fits l↔∀ r∈l,r.fit:=by
 induction l with
 | nil=>simp[aa8.fits]
 | cons r rs ih=>simp[aa8.fits,ih]
theorem aa8.bk1 {k:Int}{d:Dep}{aZ:List aa8}:(aa8.mk k d aZ).fit↔0<=k/\k<256/\d.fit/\aZ.length<2^31/\∀ r∈aZ,r.fit:=by
 simp only[aa8.fit,aa8.gs6]
def EVR.cs (e:EVR):List IV:=[.int .i64 e.am7,.str e.ver,.str e.rel]
def Dep.cs (d:Dep):List IV:=[.str d.name,.int .u8 d.op,.int .i64 d.evr.am7,.str d.evr.ver,.str d.evr.rel]
mutual
def aa8.cs:aa8->List IV
 | .mk k d aZ=>[.int .u8 k,.str d.name,.int .u8 d.op,.int .i64 d.evr.am7,.str d.evr.ver,.str d.evr.rel,.aa5 (aa8.css aZ)]
def aa8.css:List aa8->List (List IV)
 | []=>[]
 | r::rs=>r.cs::aa8.css rs
end
theorem aa8.hz8 (l:List aa8):aa8.css l=l.map aa8.cs:=by
 induction l with
 | nil=>rfl
 | cons r rs ih=>simp only[aa8.css,ih,List.map_cons]
theorem aa8.an4 (r:aa8):r.cs=[.int .u8 r.kind,.str r.dep.name,.int .u8 r.dep.op,.int .i64 r.dep.evr.am7,.str r.dep.evr.ver,.str r.dep.evr.rel,.aa5 (r.args.map aa8.cs)]:=by
 cases r with
 | mk k d aZ=>simp only[aa8.cs,aa8.hz8,aa8.kind,aa8.dep,aa8.args]
def bh4 (s:Str):List IV:=[.str s]
abbrev deps (l:List Dep):IV:=.aa5 (l.map Dep.cs)
abbrev ai5 (l:List aa8):IV:=.aa5 (l.map aa8.cs)
abbrev strs (l:List Str):IV:=.aa5 (l.map bh4)
def aa3.cs (p:aa3):List IV :=
 [.str p.name,.int .i64 p.evr.am7,.str p.evr.ver,.str p.evr.rel,.int .u8 p.aq4,.str p.vendor,deps p.provides,ai5 p.requires,ai5 p.conflicts,deps p.aa9,ai5 p.ac3,ai5 p.ac2,ai5 p.suggests,ai5 p.ad7,strs p.files]
def al7.cs (r:al7):List IV:=[.int .i64 r.priority,.aa5 (r.packages.map aa3.cs)]
def aa3.rows (p:aa3):List (Int×List aa8):=[(1,p.requires),(2,p.conflicts),(1,p.ac3),(3,p.ac2),(1,p.suggests),(3,p.ad7)]
def signs:Str:=[97,98,99,100,101,102,103,104,105,106,107,108,109,110,111,112,113,114,115,116,117,118,119,120,121,122,65,66,67,68,69,70,71,72,73,74,75,76,77,78,79,80,81,82,83,84,85,86,87,88,89,90,48,49,50,51,52,53,54,55,56,57,46,95,43,45,47,58,64,126,94]
def fz9 (b:UInt8):Bool:=(decide (97<=b.toNat)&&decide (b.toNat<=122))||(decide (65<=b.toNat)&&decide (b.toNat<=90))||(decide (48<=b.toNat)&&decide (b.toNat<=57))
def bd3 (b:UInt8):Bool:=signs.contains b
def words:List Str:=[[97,110,100],[111,114],[105,102],[101,108,115,101],[117,110,108,101,115,115],[119,105,116,104],[119,105,116,104,111,117,116]]
def ar1 (s:Str):Bool:=decide (1<=s.length)&&decide (s.length<=64)&&s.all bd3&&!words.contains s
def aw2 (s:Str):Bool:=ar1 s&&(s.head? == some 47)
def bk9 (b:UInt8):Bool:=fz9 b || [46,95,43,126,94].contains b
def ay4 (s:Str):Bool:=decide (1<=s.length)&&decide (s.length<=64)&&s.all bk9
def bd4 (e:EVR)(dep:Bool):Bool:=decide (0<=e.am7)&&decide (e.am7<=2147483647)&&ay4 e.ver&&(ay4 e.rel||dep&&e.rel.isEmpty)
def dp4 (op:Int):Bool:=[0,1,2,3,4,6].contains op
def fq2:EVR:=⟨0,[],[]⟩
def by2:Dep:=⟨[],0,fq2⟩
def ah5 (d:Dep):Bool:=ar1 d.name&&dp4 d.op&&(if d.op=0 then decide (d.evr=fq2) else !aw2 d.name&&bd4 d.evr true)
def af1 (b:UInt8):Nat:=if b=126 then 1 else if b=94 then 3 else if decide (97<=b)&&decide (b<=122)||decide (65<=b)&&decide (b<=90) then 4 else if decide (48<=b)&&decide (b<=57) then 5 else 0
structure Part where
 kind:Nat
 s:Str
 deriving DecidableEq,Inhabited
def au4:Nat->Str->List Part
 | 0,_=>[]
 | _+1,[]=>[]
 | n+1,b::l=>
  if af1 b=0 then au4 n l
  else if af1 b<4 then ⟨af1 b,[]⟩::au4 n l
  else ⟨af1 b,if af1 b=5 then ((b::l).takeWhile fun c=>af1 c==af1 b).dropWhile (· == 48) else (b::l).takeWhile fun c=>af1 c==af1 b⟩::au4 n ((b::l).dropWhile fun c=>af1 c==af1 b)
def af5 (s:Str):List Part:=au4 s.length s
def ax5 (a b:Int):Int:=if a<b then -1 else if a=b then 0 else 1
def cu4 (a b:Str):Int:=if Op.bytesLess a b then -1 else if a=b then 0 else 1
def ag3 (a b:Part):Int :=
 let k:=ax5 a.kind b.kind
 if k≠0 then k else
 let n:=if a.kind=5/\b.kind=5 then ax5 a.s.length b.s.length else 0
 if n≠0 then n else cu4 a.s b.s
def ag5:List Part->List Part->Int
 | a::aZ,b::bs=>if ag3 a b≠0 then ag3 a b else ag5 aZ bs
 | _,_=>0
def ar2 (a b:Str):Int:=ag5 (af5 a++[⟨2,[]⟩]) (af5 b++[⟨2,[]⟩])
def ap9 (a b:EVR):Int :=
 if ax5 a.am7 b.am7≠0 then ax5 a.am7 b.am7 else
 if ar2 a.ver b.ver≠0 then ar2 a.ver b.ver else
 if a.rel=[]\/b.rel=[] then 0 else ar2 a.rel b.rel
def bit (op:Int)(i:Nat):Bool:=(op.toNat).testBit i
def side (n:Int):Nat:=if n<0 then 0 else if n=0 then 1 else 2
def meet (a b:Dep):Bool :=
 if a.op.toNat%8=0\/b.op.toNat%8=0 then true else
 let n:=ap9 a.evr b.evr
 if n=0 then bit a.op 0&&bit b.op 0||bit a.op 1&&bit b.op 1||bit a.op 2&&bit b.op 2
 else bit a.op (side (-n))||bit b.op (side n)
mutual
def aa8.count:aa8->Nat
 | .mk _ _ aZ=>aa8.counts aZ+1
def aa8.counts:List aa8->Nat
 | []=>0
 | r::rs=>r.count+aa8.counts rs
end
mutual
def aa8.depth:aa8->Nat
 | .mk k _ aZ=>if k=1 then 0 else aa8.bd5 aZ+1
def aa8.bd5:List aa8->Nat
 | []=>0
 | r::rs=>max r.depth (aa8.bd5 rs)
end
-- All parts,and whether each stands within a With,or a Without.
mutual
def aa8.parts:aa8->Bool->List (aa8×Bool)
 | .mk k d aZ,alone=>(.mk k d aZ,alone)::aa8.bg1 aZ (alone||decide (k=6)||decide (k=7))
def aa8.bg1:List aa8->Bool->List (aa8×Bool)
 | [],_=>[]
 | r::rs,alone=>r.parts alone++aa8.bg1 rs alone
end
def asks (k:Int):Nat×Nat×Bool×Nat :=
 if k=1 then (0,0,true,3) else if k=2 then (2,24,true,3) else if k=3 then (2,24,true,3) else if k=4 then (2,3,false,1)
 else if k=5 then (2,3,false,2) else if k=6 then (2,24,true,3) else if k=7 then (2,2,true,3) else (0,0,false,0)
def aj2 (wh:Int)(r:aa8)(alone:Bool):Bool :=
 let x:=asks r.kind
 !(decide ((x.2.2.2:Int)<wh)||alone&&!x.2.2.1||decide (r.args.length<x.1)||decide (x.2.1<r.args.length)) &&
 (if r.kind=1 then ah5 r.dep else decide (r.dep=by2))
def ar4 (r:aa8)(wh:Int):Int :=
 if wh<1\/3<wh then 1 else if r.count>24 then 40 else if r.depth>8 then 21 else if (r.parts false).all fun p=>aj2 wh p.1 p.2 then 0 else 4
mutual
def aa8.same:aa8->aa8->Bool
 | .mk k d aZ,.mk k' d' as'=>decide (k=k')&&decide (d=d')&&aa8.hz9 aZ as'
def aa8.hz9:List aa8->List aa8->Bool
 | [],[]=>true
 | r::rs,s::ss=>r.same s&&aa8.hz9 rs ss
 | _,_=>false
end
structure aa3.Fit (p:aa3):Prop where
 name:p.name.length<2^62
 evr:p.evr.fit
 av5:p.provides.length<2^31/\∀ d∈p.provides,d.fit
 obs:p.aa9.length<2^31/\∀ d∈p.aa9,d.fit
 files:p.files.length<2^31/\∀ s∈p.files,s.length<2^62
 rich:∀ x∈p.rows,x.2.length<2^31/\∀ r∈x.2,r.fit/\r.count<2^31
def an5 (a:Int):Bool:=decide (1<=a)&&decide (a<=4)
def rising:List Str->Bool
 | a::b::l=>Op.bytesLess a b&&rising (b::l)
 | _=>true
def ad1 (l:List aa8)(wh:Int):Bool:=decide (l.length<=32)&&l.all fun r=>decide (ar4 r wh=0)
def af8 (p:aa3):Bool :=
 ar1 p.name&&!aw2 p.name&&bd4 p.evr false&&an5 p.aq4&&decide (p.vendor.length<=64) &&
 (decide (p.provides.length<=32)&&p.provides.all ah5)&&(decide (p.aa9.length<=32)&&p.aa9.all ah5)&&(decide (p.files.length<=32)&&p.files.all aw2) &&
 rising p.files&&ad1 p.requires 1&&ad1 p.conflicts 2&&ad1 p.ac3 1&&ad1 p.ac2 3&&ad1 p.suggests 1&&ad1 p.ad7 3
def own (p:aa3):Dep:=⟨p.name,2,p.evr⟩
def meets (a d:Dep):Bool:=decide (a.name=d.name)&&meet a d
def named (p:aa3)(d:Dep):Bool:=meets (own p) d
def provides (p:aa3)(d:Dep):Bool:=named p d||p.provides.any (fun a=>meets a d)||decide (d.op=0)&&p.files.contains d.name
def aa9 (p q:aa3):Bool:=p.aa9.any fun d=>named q d
def ia1 (l m:List aa8):Bool:=aa8.hz9 l m
end Go.Id.Md
set_option linter.all false
namespace Go.Id.Md
open Go Go.Id
structure bb3 where
 pkg:aa3
 er2:Int
 prio:Int
def bb3.cs (r:bb3):List IV:=r.pkg.cs++[.int .i64 r.er2,.int .i64 r.prio]
abbrev Nms:=List (Str×List Int)
def aq5:Nms->Str->Int->Nms
 | [],k,n=>[(k,[n])]
 | t::ts,k,n=>if k=t.1 then (k,t.2++[n])::ts else t::aq5 ts k n
def cn9:Nms->Nat->List aa3->Nms
 | nm,_,[]=>nm
 | nm,n,p::ps=>cn9 (aq5 nm p.name n) (n+1) ps
def ah8 (n:Int):List IV:=[.int .i64 n]
def nmV (nm:Nms):List (IV×IV):=nm.map fun t=>(.str t.1,.aa5 (t.2.map ah8))
structure Pool where
 rows:List bb3
 inst:Int
 nm:Nms
def Pool.v (p:Pool):IV:=.ac1 [.aa5 (p.rows.map bb3.cs),.int .i64 p.inst,.al6 (nmV p.nm)]
def rowsOf (l:List aa3)(er2 prio:Int):List bb3:=l.map fun p=>⟨p,er2,prio⟩
theorem ei3 (l:List aa3)(x:aa3)(a b:Int):rowsOf (l++[x]) a b=rowsOf l a b++[⟨x,a,b⟩]:=by simp[rowsOf]
theorem bs3 (l:List aa3)(a b:Int):(rowsOf l a b).length=l.length:=by simp[rowsOf]
def af6:Nat->List al7->List bb3×Nms->Option (List bb3×Nms)
 | _,[],st=>some st
 | i,r::rs,st=>if r.priority<0\/1024<r.priority\/r.packages.all af8=false then none else af6 (i+1) rs (st.1++rowsOf r.packages i r.priority,cn9 st.2 st.1.length r.packages)
def ak7 (l:List al7):Nat:=(l.map fun r=>r.packages.length).sum
def bs9 (repos:List al7)(inst:List aa3):Pool ⊕ Int :=
 if 16<repos.length\/256<inst.length+ak7 repos then .inr 40 else
 if inst.all af8=false then .inr 4 else
 match af6 0 repos (rowsOf inst (-1) 1025,cn9 [] 0 inst) with
 | some (rows,nm)=>.inl ⟨rows,inst.length,nm⟩
 | none=>.inr 4
def iq2 (r:Pool ⊕ Int):IV:=match r with
 | .inl p=>.tuple [p.v,.int .i64 0]
 | .inr e=>.tuple [.ab6,.int .i64 e]
abbrev NmL:=List (Str×List Int×Nat)
def mEs (L:NmL):List (IV×IV):=L.map fun t=>(.str t.1,.slice t.2.2 0 t.2.1.length 1)
def bb4 (L:NmL):Nms:=L.map fun t=>(t.1,t.2.1)
def bc5:NmL->Str->Int->Nat->NmL
 | [],k,n,nid=>[(k,[n],nid)]
 | t::ts,k,n,nid=>if k=t.1 then (k,t.2.1++[n],nid)::ts else t::bc5 ts k n nid
def cu5 (L:NmL)(k:Str):IV:=match L.find? (fun t=>decide (k=t.1)) with
 | some t=>.slice t.2.2 0 t.2.1.length 1
 | none=>.aa1
def ca9 (L:NmL)(k:Str):List Int:=match L.find? (fun t=>decide (k=t.1)) with
 | some t=>t.2.1
 | none=>[]
theorem cp7 (L:NmL)(k:Str)(n:Int)(nid:Nat):bb4 (bc5 L k n nid)=aq5 (bb4 L) k n:=by
 induction L with
 | nil=>rfl
 | cons t ts ih=>
  simp only[bc5,bb4,List.map_cons,aq5];split
  ·rfl
  ·rw[List.map_cons]; congr 1
theorem iq3 (L:NmL)(k:Str):(aw6 2 (.str k) (mEs L)).map (fun r=>r.getD .aa1)=some (cu5 L k):=by
 induction L with
 | nil=>rfl
 | cons t ts ih=>
  simp only[mEs,List.map_cons,aw6,eq3,cu5,List.find?_cons] at ih ⊢;by_cases h:k=t.1
  ·simp[h]
  ·simp only[h,decide_false] at ih ⊢;exact ih
theorem ia2 (L:NmL)(k:Str):∃ r,aw6 2 (.str k) (mEs L)=some r/\r.getD .aa1=cu5 L k:=by
 have:=iq3 L k
 cases h:aw6 2 (.str k) (mEs L) with
 | none=>rw[h] at this; cases this
 | some r=>rw[h] at this; exact ⟨r,rfl,by simpa using this⟩
theorem je4 (L:NmL)(k:Str)(n:Int)(nid:Nat):ed5 2 (.str k) (.slice nid 0 ((ca9 L k).length+1) 1) (mEs L)=some (mEs (bc5 L k n nid)):=by
 induction L with
 | nil=>rfl
 | cons t ts ih=>
  simp only[mEs,List.map_cons,ed5,eq3,ca9,List.find?_cons,bc5] at ih ⊢;by_cases h:k=t.1
  ·simp[h]
  ·simp only[h,decide_false,if_false,List.map_cons] at ih ⊢;rw[ih]; rfl
theorem dp5 {k:Str}{n:Int}{nid:Nat}:∀ {L:NmL},(L.map (·.1)).Nodup->∀ t∈bc5 L k n nid,(t∈L/\t.1≠k)\/t=(k,ca9 L k++[n],nid):=by
 intro L
 induction L with
 | nil=>intro _ t ht; simp[bc5] at ht; exact .inr (by rw[ht]; rfl)
 | cons u us ih=>
  intro hk t ht;rw[List.map_cons,List.nodup_cons] at hk;simp only[bc5] at ht;by_cases h:k=u.1
  ·rw[if_pos h] at ht;rcases List.mem_cons.1 ht with rfl|ht
   ·right; simp[ca9,h]
   ·left;exact ⟨List.mem_cons_of_mem _ ht,fun e=>hk.1 (by rw[<- h,<- e]; exact List.mem_map_of_mem (f:=fun x:Str×List Int×Nat=>x.1) ht)⟩
  ·rw[if_neg h] at ht;rcases List.mem_cons.1 ht with rfl|ht
   ·left; exact ⟨List.mem_cons_self ..,fun e=>h e.symm⟩
   ·have e:ca9 (u::us) k=ca9 us k:=by simp[ca9,h]
    rw[e];rcases ih hk.2 t ht with ⟨h1,h2⟩|h1
    ·exact .inl ⟨List.mem_cons_of_mem _ h1,h2⟩
    ·exact .inr h1
theorem er1 {k:Str}{n:Int}{nid:Nat}:∀ (L:NmL),(L.map (·.1)).Nodup->((bc5 L k n nid).map (·.1)).Nodup/\∀ x∈(bc5 L k n nid).map (·.1),x=k\/x∈L.map (·.1):=by
 intro L
 induction L with
 | nil=>intro _; simp[bc5]
 | cons u us ih=>
  intro hk;rw[List.map_cons,List.nodup_cons] at hk;simp only[bc5];by_cases h:k=u.1
  ·rw[if_pos h];refine ⟨?_,?_⟩
   ·rw[List.map_cons,List.nodup_cons]; exact ⟨by rw[h]; exact hk.1,hk.2⟩
   ·intro x hx;simp only[List.map_cons,List.mem_cons] at hx ⊢;rcases hx with h1|h1
    ·exact .inl h1
    ·exact .inr (.inr h1)
  ·rw[if_neg h];obtain ⟨h1,h2⟩:=ih hk.2;refine ⟨?_,?_⟩
   ·rw[List.map_cons,List.nodup_cons];refine ⟨fun hm=>?_,h1⟩;rcases h2 _ hm with e|e
    ·exact h e.symm
    ·exact hk.1 e
   ·intro x hx;simp only[List.map_cons,List.mem_cons] at hx ⊢;rcases hx with h3|h3
    ·exact .inr (.inl h3)
    ·rcases h2 _ h3 with e|e
     ·exact .inl e
     ·exact .inr (.inr e)
theorem ga1 {k:Str}{n:Int}{nid:Nat}:∀ (L:NmL),(L.map (·.2.2)).Nodup->nid ∉ L.map (·.2.2)->((bc5 L k n nid).map (·.2.2)).Nodup/\∀ x∈(bc5 L k n nid).map (·.2.2),x=nid\/x∈L.map (·.2.2):=by
 intro L
 induction L with
 | nil=>intro _ _; simp[bc5]
 | cons u us ih=>
  intro hk hn;rw[List.map_cons,List.nodup_cons] at hk;simp only[List.map_cons,List.mem_cons,not_or] at hn;simp only[bc5];by_cases h:k=u.1
  ·rw[if_pos h];refine ⟨?_,?_⟩
   ·rw[List.map_cons,List.nodup_cons]; exact ⟨hn.2,hk.2⟩
   ·intro x hx;simp only[List.map_cons,List.mem_cons] at hx ⊢;rcases hx with h1|h1
    ·exact .inl h1
    ·exact .inr (.inr h1)
  ·rw[if_neg h];obtain ⟨h1,h2⟩:=ih hk.2 hn.2;refine ⟨?_,?_⟩
   ·rw[List.map_cons,List.nodup_cons];refine ⟨fun hm=>?_,h1⟩;rcases h2 _ hm with e|e
    ·exact hn.1 e.symm
    ·exact hk.1 e
   ·intro x hx;simp only[List.map_cons,List.mem_cons] at hx ⊢;rcases hx with h3|h3
    ·exact .inr (.inl h3)
    ·rcases h2 _ h3 with e|e
     ·exact .inl e
     ·exact .inr (.inr e)
theorem by3 (L:NmL)(k:Str):(cu5 L k=.aa1/\ca9 L k=[])\/∃ t∈L,t.1=k/\cu5 L k=.slice t.2.2 0 t.2.1.length 1/\ca9 L k=t.2.1:=by
 unfold cu5 ca9
 cases h:L.find? (fun t=>decide (k=t.1)) with
 | none=>exact .inl ⟨rfl,rfl⟩
 | some t=>
  have h1:=List.find?_some h;exact .inr ⟨t,List.mem_of_find?_eq_some h,by simpa using (by simpa using h1:k=t.1).symm,rfl,rfl⟩
theorem ga2 {L:NmL}(hk:(L.map (·.1)).Nodup)(hd:(L.map (·.2.2)).Nodup):∀ t∈L,∀ u∈L,t.2.2=u.2.2->t=u:=by
 intro t ht u hu e;obtain ⟨i,hi,h1⟩:=List.mem_iff_getElem.1 ht;obtain ⟨j,hj,h2⟩:=List.mem_iff_getElem.1 hu
 have hij:i=j:=by
  have hi':i<(L.map (·.2.2)).length:=by simpa using hi
  have hj':j<(L.map (·.2.2)).length:=by simpa using hj
  have hp:=List.pairwise_iff_getElem.1 hd;have e2:(L.map (·.2.2))[i]=(L.map (·.2.2))[j]:=by simp only[List.getElem_map,h1,h2,e]
  rcases Nat.lt_trichotomy i j with h|h|h
  ·exact absurd e2 (hp i j hi' hj' h)
  ·exact h
  ·exact absurd e2.symm (hp j i hj' hi' h)
 subst hij;rw[<- h1,<- h2]
end Go.Id.Md
set_option linter.all false
namespace Go.Id.Md
open Go Go.Id
def ad3:Nms->Str->List Int
 | [],_=>[]
 | t::ts,k=>if k=t.1 then t.2 else ad3 ts k
def KN (nm:Nms):Prop:=(nm.map (·.1)).Nodup
theorem bg2 {nm:Nms}{k:Str}{n:Int}(h:KN nm)(t:Str×List Int):t∈aq5 nm k n↔(t∈nm/\t.1≠k)\/t=(k,ad3 nm k++[n]):=by
 induction nm with
 | nil=>simp[aq5,ad3]
 | cons u us ih=>
  have h':u.1 ∉ us.map (·.1)/\KN us:=by simpa [KN] using h
  simp only[aq5,ad3];by_cases e:k=u.1
  ·rw[if_pos e,if_pos e];subst e;simp only[List.mem_cons];constructor
   ·rintro (rfl|ht)
    ·exact .inr rfl
    ·exact .inl ⟨.inr ht,fun e=>h'.1 (List.mem_map.2 ⟨t,ht,e⟩)⟩
   ·rintro (⟨rfl|ht,hne⟩|rfl)
    ·exact absurd rfl hne
    ·exact .inr ht
    ·exact .inl rfl
  ·rw[if_neg e,if_neg e];simp only[List.mem_cons,ih h'.2];constructor
   ·rintro (rfl|⟨h1,h2⟩|rfl)
    ·exact .inl ⟨.inl rfl,fun e'=>e e'.symm⟩
    ·exact .inl ⟨.inr h1,h2⟩
    ·exact .inr rfl
   ·rintro (⟨rfl|h1,h2⟩|rfl)
    ·exact .inl rfl
    ·exact .inr (.inl ⟨h1,h2⟩)
    ·exact .inr (.inr rfl)
theorem fl1 {k:Str}{n:Int}:∀ {nm:Nms},∀ x∈(aq5 nm k n).map (·.1),x=k\/x∈nm.map (·.1):=by
 intro nm
 induction nm with
 | nil=>intro x hx; simpa [aq5] using hx
 | cons u us ih=>
  intro x hx;simp only[aq5] at hx;split at hx
  ·rename_i e; simp only[List.map_cons,List.mem_cons] at hx ⊢;rcases hx with h|h
   ·exact .inl h
   ·exact .inr (.inr h)
  ·simp only[List.map_cons,List.mem_cons] at hx ⊢;rcases hx with h|h
   ·exact .inr (.inl h)
   ·rcases ih x h with h|h
    ·exact .inl h
    ·exact .inr (.inr h)
theorem am4 {nm:Nms}{k:Str}{n:Int}(h:KN nm):KN (aq5 nm k n):=by
 induction nm with
 | nil=>simp[KN,aq5]
 | cons u us ih=>
  have h':u.1 ∉ us.map (·.1)/\KN us:=by simpa [KN] using h
  simp only[aq5];split
  ·rename_i e; subst e; exact h
  ·rename_i e;show ((u::aq5 us k n).map (·.1)).Nodup;rw[List.map_cons,List.nodup_cons];refine ⟨fun hm=>?_,ih h'.2⟩;rcases fl1 _ hm with h1|h1
   ·exact e h1.symm
   ·exact h'.1 h1
theorem KN.nd {nm:Nms}(h:KN nm):nm.Nodup:=by
 induction nm with
 | nil=>exact List.nodup_nil
 | cons u us ih=>
  have h':u.1 ∉ us.map (·.1)/\KN us:=by simpa [KN] using h
  exact List.nodup_cons.2 ⟨fun hm=>h'.1 (List.mem_map.2 ⟨u,hm,rfl⟩),ih h'.2⟩
theorem KN.perm {nm nm':Nms}(h:KN nm)(p:nm.Perm nm'):KN nm':=(p.map (fun x:Str×List Int=>x.1)).nodup_iff.1 h
theorem dj5 {nm:Nms}(h:KN nm){t:Str×List Int}(ht:t∈nm):ad3 nm t.1=t.2:=by
 induction nm with
 | nil=>cases ht
 | cons u us ih=>
  have h':u.1 ∉ us.map (·.1)/\KN us:=by simpa [KN] using h
  simp only[ad3];rcases List.mem_cons.1 ht with rfl|ht
  ·rw[if_pos rfl]
  ·rw[if_neg (fun e=>h'.1 (List.mem_map.2 ⟨t,ht,e⟩))];exact ih h'.2 ht
theorem cv3 {nm:Nms}{k:Str}(h:k ∉ nm.map (·.1)):ad3 nm k=[]:=by
 induction nm with
 | nil=>rfl
 | cons u us ih=>
  simp only[List.map_cons,List.mem_cons,not_or] at h;simp only[ad3];rw[if_neg h.1]; exact ih h.2
theorem cv4 {nm nm':Nms}(h:KN nm)(p:nm.Perm nm')(k:Str):ad3 nm k=ad3 nm' k:=by
 by_cases hk:k∈nm.map (·.1)
 ·obtain ⟨t,ht,rfl⟩:=List.mem_map.1 hk;rw[dj5 h ht,dj5 (h.perm p) (p.mem_iff.1 ht)]
 ·rw[cv3 hk,cv3 (fun e=>hk ((p.map (·.1)).mem_iff.2 e))]
theorem bg3 {nm:Nms}(h:KN nm)(k:Str)(n:Int)(j:Str):ad3 (aq5 nm k n) j=if j=k then ad3 nm k++[n] else ad3 nm j:=by
 induction nm with
 | nil=>
  simp only[aq5,ad3]
  split<;>rfl
 | cons u us ih=>
  have h':u.1 ∉ us.map (·.1)/\KN us:=by simpa [KN] using h
  simp only[aq5,ad3];by_cases e:k=u.1
  ·rw[if_pos e,if_pos e];simp only[ad3];by_cases ej:j=k
   ·rw[if_pos ej,if_pos ej]
   ·rw[if_neg ej,if_neg ej,if_neg (fun x=>ej (x.trans e.symm))]
  ·rw[if_neg e,if_neg e];simp only[ad3,ih h'.2];by_cases ej:j=k
   ·rw[if_pos ej,if_pos ej,if_neg (fun x=>e (ej.symm.trans x))]
   ·rw[if_neg ej,if_neg ej]
theorem bs5 {nm nm':Nms}{k:Str}{n:Int}(h:KN nm)(p:nm.Perm nm'):(aq5 nm k n).Perm (aq5 nm' k n):=by
 refine (List.perm_ext_iff_of_nodup (am4 h).nd (am4 (h.perm p)).nd).2 fun t=>?_
 rw[bg2 h,bg2 (h.perm p),cv4 h p,p.mem_iff]
theorem fl2 {nm:Nms}{k j:Str}{n:Int}(h:KN nm):(aq5 (aq5 nm k n) j n).Perm (aq5 (aq5 nm j n) k n):=by
 by_cases e:k=j
 ·subst e; exact .refl _
 refine (List.perm_ext_iff_of_nodup (am4 (am4 h)).nd (am4 (am4 h)).nd).2 fun t=>?_
 rw[bg2 (am4 h),bg2 (am4 h),bg2 h,bg2 h,bg3 h,bg3 h,if_neg (fun x=>e x.symm),if_neg e];constructor
 ·rintro (⟨⟨h1,h2⟩|rfl,h3⟩|rfl)
  ·exact .inl ⟨.inl ⟨h1,h3⟩,h2⟩
  ·exact .inr rfl
  ·exact .inl ⟨.inr rfl,fun x=>e x.symm⟩
 ·rintro (⟨⟨h1,h2⟩|rfl,h3⟩|rfl)
  ·exact .inl ⟨.inl ⟨h1,h3⟩,h2⟩
  ·exact .inr rfl
  ·exact .inl ⟨.inr rfl,e⟩
def bb6 (nm:Nms)(ks:List Str)(n:Int):Nms:=ks.foldl (fun m k=>aq5 m k n) nm
theorem dy8 {n:Int}:∀ {ks:List Str} {nm:Nms},KN nm->KN (bb6 nm ks n)
 | [],_,h=>h
 | _::ks,_,h=>dy8 (ks:=ks) (am4 h)
theorem cv5 {n:Int}:∀ (ks:List Str) {nm nm':Nms},KN nm->nm.Perm nm'->(bb6 nm ks n).Perm (bb6 nm' ks n)
 | [],_,_,_,p=>p
 | _::ks,_,_,h,p=>cv5 ks (am4 h) (bs5 h p)
theorem dy9 {n:Int}{ks js:List Str}(p:ks.Perm js):∀ {nm:Nms},KN nm->(bb6 nm ks n).Perm (bb6 nm js n):=by
 induction p with
 | nil=>intro nm _; exact .refl _
 | cons x _ ih=>intro nm h; exact ih (am4 h)
 | swap x y l=>intro nm h; exact cv5 l (am4 (am4 h)) (fl2 h)
 | trans p1 _ ih1 ih2=>intro nm h; exact (ih1 h).trans (ih2 h)
theorem ei6 (nm:Nms)(ks:List Str)(k:Str)(n:Int):bb6 nm (ks++[k]) n=aq5 (bb6 nm ks n) k n:=by simp[bb6]
def au5 (l:List Str)(k:Str):List Str:=if k∈l then l else l++[k]
def cv6 (p:aa3):List Str:=p.files.foldl au5 ((p.provides.map (·.name)).foldl au5 [p.name])
def at7 (nm:Nms)(ds:List Str)(n:Int):Nms:=ds.foldl (fun m k=>if n∈ad3 m k then m else aq5 m k n) nm
theorem cm3 (nm:Nms)(ks:List Str)(k:Str)(n:Int):at7 nm (ks++[k]) n=if n∈ad3 (at7 nm ks n) k then at7 nm ks n else aq5 (at7 nm ks n) k n:=by
 unfold at7; rw[List.foldl_append]; rfl
structure Index where
 all:List aa3
 av5:Nms
 names:Nms
 over:Nms
def Index.v (x:Index):IV:=.ac1 [.aa5 (x.all.map aa3.cs),.al6 (nmV x.av5),.al6 (nmV x.names),.al6 (nmV x.over)]
def dz1 (x:Index)(n:Nat)(p:aa3):Index:=⟨x.all++[p],bb6 x.av5 (cv6 p) n,aq5 x.names p.name n,at7 x.over (p.aa9.map (·.name)) n⟩
def idxFrom (x:Index):Nat->List aa3->Index
 | _,[]=>x
 | n,p::ps=>idxFrom (dz1 x n p) (n+1) ps
def ah3 (l:List aa3):Index:=idxFrom ⟨[],[],[],[]⟩ 0 l
theorem dz2 (ps:List aa3)(p:aa3):∀ (x:Index) (n:Nat),idxFrom x n (ps++[p])=dz1 (idxFrom x n ps) (n+ps.length) p:=by
 induction ps with
 | nil=>intro x n; rfl
 | cons q qs ih=>intro x n; show idxFrom _ (n+1) (qs++[p])=_; rw[ih,List.length_cons]; congr 1; omega
theorem fl3 (L:NmL)(k:Str):ad3 (bb4 L) k=ca9 L k:=by
 induction L with
 | nil=>rfl
 | cons t ts ih=>
  simp only[bb4,List.map_cons,ad3,ca9,List.find?_cons] at ih ⊢;by_cases h:k=t.1
  ·simp[h]
  ·simp only[h,decide_false,if_false] at ih ⊢;exact ih
end Go.Id.Md
/- Indexes,in plain words: who stands in them,by number. Conditions: none; no program in sight. -/
namespace Go.Id.Md
open Go Go.Id
def numsOf (q:aa3->Bool)(l:List aa3):List Int:=((List.range l.length).filter fun n=>q (l.getD n default)).map fun (n:Nat)=>(n:Int)
theorem bu7 (q:aa3->Bool)(l:List aa3)(p:aa3):numsOf q (l++[p])=numsOf q l++if q p then [(l.length:Int)] else []:=by
 unfold numsOf;rw[List.length_append,List.length_singleton,List.range_succ,List.filter_append,List.map_append];congr 1
 ·congr 1;refine List.filter_congr fun n hn=>?_
  have h:=List.mem_range.1 hn;simp[List.getD_eq_getElem?_getD,List.getElem?_append,h]
 ·have e:(l++[p]).getD l.length default=p:=by simp[List.getD_eq_getElem?_getD]
  simp only[List.filter_cons,List.filter_nil,e];split<;>rfl
theorem bg4 {q:aa3->Bool}{l:List aa3}{n:Int}:n∈numsOf q l↔∃ m:Nat,n=m/\m<l.length/\q (l.getD m default)=true:=by
 unfold numsOf;rw[List.mem_map];constructor
 ·rintro ⟨m,hm,rfl⟩;obtain ⟨h1,h2⟩:=List.mem_filter.1 hm;exact ⟨m,rfl,List.mem_range.1 h1,h2⟩
 ·rintro ⟨m,rfl,h1,h2⟩;exact ⟨m,List.mem_filter.2 ⟨List.mem_range.2 h1,by simpa using h2⟩,rfl⟩
theorem al8 (q:aa3->Bool)(l:List aa3):(numsOf q l).length<=l.length:=by
 unfold numsOf;rw[List.length_map];exact Nat.le_trans (List.length_filter_le _ _) (by simp)
theorem by6 (q r:aa3->Bool)(l:List aa3):(numsOf q l).filter (fun n=>r (l.getD n.toNat default))=numsOf (fun p=>q p&&r p) l:=by
 unfold numsOf;rw[List.filter_map,List.filter_filter];congr 1;refine List.filter_congr fun n _=>?_
 show (r (l.getD ((n:Int)).toNat default)&&q (l.getD n default))=_;rw[Int.toNat_natCast,Bool.and_comm]
theorem cm4 {q r:aa3->Bool}{l:List aa3}(h:∀ p∈l,q p=r p):numsOf q l=numsOf r l:=by
 unfold numsOf;congr 1;refine List.filter_congr fun n hn=>?_
 have hlt:=List.mem_range.1 hn;refine h _ ?_;rw[List.getD_eq_getElem?_getD,List.getElem?_eq_getElem hlt];exact List.getElem_mem hlt
theorem ei7 {n:Int}:∀ (ks:List Str) {nm:Nms},KN nm->ks.Nodup->∀ j,ad3 (bb6 nm ks n) j=ad3 nm j++if j∈ks then [n] else []:=by
 intro ks
 induction ks with
 | nil=>intro nm _ _ j; simp[bb6]
 | cons k ks ih=>
  intro nm h hnd j;obtain ⟨h1,h2⟩:=List.nodup_cons.1 hnd;show ad3 (bb6 (aq5 nm k n) ks n) j=_;rw[ih (am4 h) h2,bg3 h];by_cases e:j=k
  ·subst e; simp[h1]
  ·simp[e]
theorem fl4 {n:Int}:∀ (ks:List Str) {nm:Nms},KN nm->KN (at7 nm ks n):=by
 intro ks
 induction ks with
 | nil=>intro nm h; exact h
 | cons k ks ih=>
  intro nm h;show KN (at7 (if n∈ad3 nm k then nm else aq5 nm k n) ks n);split
  ·exact ih h
  ·exact ih (am4 h)
theorem dz3 {n:Int}:∀ (ks:List Str) {nm:Nms},KN nm->∀ j,ad3 (at7 nm ks n) j=ad3 nm j++if j∈ks/\n ∉ ad3 nm j then [n] else []:=by
 intro ks
 induction ks with
 | nil=>intro nm _ j; simp[at7]
 | cons k ks ih=>
  intro nm h j;show ad3 (at7 (if n∈ad3 nm k then nm else aq5 nm k n) ks n) j=_;by_cases hk:n∈ad3 nm k
  ·rw[if_pos hk,ih h];by_cases e:j=k
   ·subst e; simp[hk]
   ·simp[e]
  ·rw[if_neg hk,ih (am4 h),bg3 h];by_cases e:j=k
   ·subst e; simp[hk]
   ·simp[e]
theorem fl5 {l:List Str}{k j:Str}:j∈au5 l k↔j∈l\/j=k:=by
 unfold au5;split
 ·rename_i h; exact ⟨.inl,fun h'=>h'.elim id fun e=>e▸h⟩
 ·simp
theorem cv7 {j:Str}:∀ (ks l:List Str),j∈ks.foldl au5 l↔j∈l\/j∈ks:=by
 intro ks
 induction ks with
 | nil=>intro l; simp
 | cons k ks ih=>intro l; rw[List.foldl_cons,ih,fl5,List.mem_cons,or_assoc]
theorem fl6 {l:List Str}(h:l.Nodup)(k:Str):(au5 l k).Nodup:=by
 unfold au5;split
 ·exact h
 ·rename_i hk;rw[List.nodup_append];exact ⟨h,by simp,fun a ha b hb e=>by simp at hb; subst hb; subst e; exact hk ha⟩
theorem bu8:∀ (ks:List Str) {l:List Str},l.Nodup->(ks.foldl au5 l).Nodup
 | [],_,h=>h
 | k::ks,_,h=>bu8 ks (fl6 h k)
theorem gt7 (p:aa3):(cv6 p).Nodup:=bu8 _ (bu8 _ (by simp))
theorem gt8 (p:aa3)(j:Str):j∈cv6 p↔j=p.name\/(∃ d∈p.provides,d.name=j)\/j∈p.files:=by
 unfold cv6;rw[cv7,cv7];simp[or_assoc]
structure ei8 (x:Index) (l:List aa3):Prop where
 all:x.all=l
 kp:KN x.av5
 kn:KN x.names
 ko:KN x.over
 av5:∀ j,ad3 x.av5 j=numsOf (fun p=>decide (j∈cv6 p)) l
 names:∀ j,ad3 x.names j=numsOf (fun p=>decide (p.name=j)) l
 over:∀ j,ad3 x.over j=numsOf (fun p=>decide (∃ d∈p.aa9,d.name=j)) l
theorem ei8.add {x:Index}{l:List aa3}(h:ei8 x l)(p:aa3):ei8 (dz1 x l.length p) (l++[p]) where
 all:=by show x.all++[p]=_; rw[h.all]
 kp:=dy8 h.kp
 kn:=am4 h.kn
 ko:=fl4 _ h.ko
 av5:=fun j=>by
  show ad3 (bb6 x.av5 (cv6 p) _) j=_;rw[ei7 _ h.kp (gt7 p),h.av5,bu7];simp
 names:=fun j=>by
  show ad3 (aq5 x.names p.name _) j=_;rw[bg3 h.kn,h.names,h.names,bu7];by_cases e:j=p.name
  ·subst e; simp
  ·have e':¬ p.name=j:=fun h=>e h.symm
   simp[e,e']
 over:=fun j=>by
  show ad3 (at7 x.over _ _) j=_;rw[dz3 _ h.ko,h.over,bu7]
  have hn:(l.length:Int) ∉ numsOf (fun p=>decide (∃ d∈p.aa9,d.name=j)) l:=fun hm=>by
   obtain ⟨m,e,h1,_⟩:=bg4.1 hm;omega
  simp[hn]
theorem fl7:∀ (ps:List aa3) {x:Index} {l:List aa3},ei8 x l->ei8 (idxFrom x l.length ps) (l++ps):=by
 intro ps
 induction ps with
 | nil=>intro x l h; rw[List.append_nil]; exact h
 | cons p ps ih=>
  intro x l h;have:=ih (h.add p);rw[List.append_assoc] at this
  simpa [idxFrom] using this
theorem bi3 (l:List aa3):ei8 (ah3 l) l:=by
 have h0:ei8 ⟨[],[],[],[]⟩ []:=⟨rfl,List.nodup_nil,List.nodup_nil,List.nodup_nil,fun _=>by simp[ad3,numsOf],fun _=>by simp[ad3,numsOf],fun _=>by simp[ad3,numsOf]⟩;exact fl7 l h0
theorem dz4 {p:aa3}{d:Dep}(h:named p d=true):p.name=d.name:=by
 unfold named meets own at h;simp only[Bool.and_eq_true,decide_eq_true_eq] at h;exact h.1
theorem dz5 {p:aa3}{d:Dep}(h:provides p d=true):d.name∈cv6 p:=by
 unfold provides at h;rw[gt8];simp only[Bool.or_eq_true,Bool.and_eq_true,decide_eq_true_eq,List.any_eq_true] at h;rcases h with (h|⟨a,ha,h⟩)|⟨_,h⟩
 ·exact .inl (dz4 h).symm
 ·unfold meets at h;simp only[Bool.and_eq_true,decide_eq_true_eq] at h;exact .inr (.inl ⟨a,ha,h.1⟩)
 ·exact .inr (.inr (by simpa using h))
def al9 (l:List aa3)(d:Dep):List Int:=numsOf (fun p=>provides p d) l
def ao9 (l:List aa3)(d:Dep):List Int:=numsOf (fun p=>named p d) l
theorem dz6 (l:List aa3)(d:Dep):(ad3 (ah3 l).av5 d.name).filter (fun n=>provides (l.getD n.toNat default) d)=al9 l d:=by
 rw[(bi3 l).av5];refine (by6 (fun p=>decide (d.name∈cv6 p)) (fun p=>provides p d) l).trans ?_
 exact cm4 fun p _=>by
  cases h:provides p d with
  | false=>simp
  | true=>simp[dz5 h]
theorem er5 (l:List aa3)(d:Dep):(ad3 (ah3 l).names d.name).filter (fun n=>named (l.getD n.toNat default) d)=ao9 l d:=by
 rw[(bi3 l).names];refine (by6 (fun p=>decide (p.name=d.name)) (fun p=>named p d) l).trans ?_
 exact cm4 fun p _=>by
  cases h:named p d with
  | false=>simp
  | true=>simp[dz4 h]
end Go.Id.Md
set_option linter.all false
namespace Go.Id.Md
open Go Go.Id
mutual
def aa8.ok:aa8->Prop
 | .mk k d xs=>0<=k/\k<256/\d.fit/\xs.length<2^62/\aa8.oks xs
def aa8.oks:List aa8->Prop
 | []=>True
 | r::rs=>r.ok/\aa8.oks rs
end
theorem aa8.ia6 (l:List aa8):aa8.oks l↔∀ r∈l,r.ok:=by
 induction l with
 | nil=>simp[aa8.oks]
 | cons r rs ih=>simp[aa8.oks,ih]
theorem aa8.fl8 {k:Int}{d:Dep}{xs:List aa8}:(aa8.mk k d xs).ok↔0<=k/\k<256/\d.fit/\xs.length<2^62/\∀ r∈xs,r.ok:=by
 simp only[aa8.ok,aa8.ia6]
structure aa3.Ok (p:aa3):Prop where
 name:p.name.length<2^62
 vendor:p.vendor.length<2^62
 evr:p.evr.fit
 av5:p.provides.length<2^62/\∀ d∈p.provides,d.fit
 obs:p.aa9.length<2^62/\∀ d∈p.aa9,d.fit
 files:p.files.length<2^62/\∀ s∈p.files,s.length<2^62
 rich:∀ x∈p.rows,x.2.length<2^62/\∀ r∈x.2,r.ok
def al7.Ok (r:al7):Prop:=r.packages.length<2^62/\∀ p∈r.packages,p.Ok
def big (d:Dep):Bool:=decide (500<d.name.length+d.evr.ver.length)||decide (500<d.evr.rel.length)
mutual
def by7:aa8->Nat->Nat×Bool
 | .mk _ _ xs,deep=>if 20<deep\/100<xs.length then (0,true) else co2 xs deep 0
def co2:List aa8->Nat->Nat->Nat×Bool
 | [],_,n=>(n,false)
 | r::rs,deep,n=>if big r.dep=true then (0,true) else
  if (by7 r (deep+1)).2=true\/2000<n+1+(by7 r (deep+1)).1 then (0,true) else co2 rs deep (n+1+(by7 r (deep+1)).1)
end
def co3 (l:List aa8)(deep:Nat):Nat×Bool:=if 20<deep\/100<l.length then (0,true) else co2 l deep 0
theorem dj6 (r:aa8)(deep:Nat):by7 r deep=co3 r.args deep:=by
 cases r; simp only[by7,co3,aa8.args]; rfl
def by8:List (List aa8)->Nat->Bool
 | [],_=>false
 | l::ls,n=>if (co3 l 0).2=true\/2000<n+(co3 l 0).1 then true else by8 ls (n+(co3 l 0).1)
def bn5 (p:aa3):List (List aa8):=[p.requires,p.conflicts,p.ac3,p.ac2,p.suggests,p.ad7]
def au6 (p:aa3):Bool :=
 decide (100<p.provides.length)||(decide (100<p.aa9.length)||(decide (100<p.files.length)||(decide (1000<p.name.length)||(decide (1000<p.vendor.length)||(decide (1000<p.evr.ver.length)||(decide (1000<p.evr.rel.length)||by8 (bn5 p) 0))))))
theorem gt9:∀ (l:List aa8) (deep n:Nat),n<=2000->(co2 l deep n).1<=2000:=by
 intro l
 induction l with
 | nil=>intro deep n h; simpa [co2] using h
 | cons r rs ih=>
  intro deep n h;simp only[co2];split
  ·omega
  split
  ·omega
  ·exact ih _ _ (by omega)
theorem er6 (l:List aa8)(deep:Nat):(co3 l deep).1<=2000:=by
 unfold co3;split
 ·omega
 ·exact gt9 _ _ _ (by omega)
def bb7:Nat->List al7->List bb3
 | _,[]=>[]
 | i,r::rs=>rowsOf r.packages i r.priority++bb7 (i+1) rs
theorem da1:∀ (rs:List al7) (i:Nat) (st:List bb3×Nms) (out:List bb3×Nms),af6 i rs st=some out->out.1=st.1++bb7 i rs:=by
 intro rs
 induction rs with
 | nil=>intro i st out h; simp only[af6,Option.some.injEq] at h; subst h; simp[bb7]
 | cons r rs ih=>
  intro i st out h;simp only[af6] at h;split at h
  ·cases h
  ·rw[ih _ _ _ h]; simp[bb7]
theorem cp8 {repos:List al7}{inst:List aa3}{p:Pool}(h:bs9 repos inst=.inl p):p.rows=rowsOf inst (-1) 1025++bb7 0 repos/\p.inst=inst.length:=by
 unfold bs9 at h;split at h
 ·cases h
 split at h
 ·cases h
 split at h
 ·rename_i rows nm hr;cases h;exact ⟨da1 _ _ _ _ hr,rfl⟩
 ·cases h
theorem gu1 {repos:List al7}{inst:List aa3}{e:Int}(h:bs9 repos inst=.inr e):e=40\/e=4:=by
 unfold bs9 at h;split at h
 ·cases h; exact .inl rfl
 split at h
 ·cases h; exact .inr rfl
 split at h
 ·cases h
 ·cases h; exact .inr rfl
end Go.Id.Md
/- Pools of packages that may be: sizes. Conditions: none; no program in sight. -/
namespace Go.Id.Md
open Go Go.Id
theorem dp9:∀ (rs:List al7) (i:Nat) (st:List bb3×Nms) (out:List bb3×Nms),af6 i rs st=some out->∀ r∈rs,r.packages.all af8=true:=by
 intro rs
 induction rs with
 | nil=>intro i st out _ r hr; cases hr
 | cons x xs ih=>
  intro i st out h r hr;simp only[af6] at h;split at h
  ·cases h
  ·rename_i hc;rcases List.mem_cons.1 hr with rfl|hr
   ·cases hb:r.packages.all af8 with
    | true=>rfl
    | false=>exact absurd (.inr (.inr hb)) hc
   ·exact ih _ _ _ h r hr
theorem cj4 {repos:List al7}{inst:List aa3}{p:Pool}(h:bs9 repos inst=.inl p):repos.length<=16/\inst.length+ak7 repos<=256/\inst.all af8=true/\∀ r∈repos,r.packages.all af8=true:=by
 unfold bs9 at h;split at h
 ·cases h
 rename_i hc;split at h
 ·cases h
 rename_i hm;split at h
 ·rename_i rows nm hr;exact ⟨by omega,by omega,by simpa using hm,dp9 _ _ _ _ hr⟩
 ·cases h
theorem dj7 (l:List aa3)(a b:Int):(rowsOf l a b).map (·.pkg)=l:=by
 induction l with
 | nil=>rfl
 | cons x xs ih=>show x::(rowsOf xs a b).map (·.pkg)=_; rw[ih]
def ad4 (p:Pool):List aa3:=p.rows.map (·.pkg)
theorem dq1:∀ (rs:List al7) (i:Nat),(bb7 i rs).map (·.pkg)=rs.flatMap (·.packages):=by
 intro rs
 induction rs with
 | nil=>intro i; rfl
 | cons r rs ih=>intro i; simp only[bb7,List.map_append,ih,dj7,List.flatMap_cons]
theorem gb2:∀ (rs:List al7),(rs.flatMap (·.packages)).length=ak7 rs:=by
 intro rs
 induction rs with
 | nil=>rfl
 | cons r rs ih=>simp only[List.flatMap_cons,List.length_append,ih]; rfl
theorem cv8 {repos:List al7}{inst:List aa3}{p:Pool}(h:bs9 repos inst=.inl p):ad4 p=inst++repos.flatMap (·.packages):=by
 unfold ad4;rw[(cp8 h).1,List.map_append,dq1];congr 1;exact dj7 _ _ _
theorem er7 {repos:List al7}{inst:List aa3}{p:Pool}(h:bs9 repos inst=.inl p):p.rows.length<=256:=by
 have e:p.rows.length=(ad4 p).length:=by simp[ad4]
 rw[e,cv8 h,List.length_append,gb2];exact (cj4 h).2.1
theorem er8 {repos:List al7}{inst:List aa3}{p:Pool}(h:bs9 repos inst=.inl p):∀ x∈ad4 p,af8 x=true/\(x∈inst\/∃ r∈repos,x∈r.packages):=by
 intro x hx;rw[cv8 h] at hx;obtain ⟨_,_,h1,h2⟩:=cj4 h;rcases List.mem_append.1 hx with hx|hx
 ·exact ⟨List.all_eq_true.1 h1 x hx,.inl hx⟩
 ·obtain ⟨r,hr,hxr⟩:=List.mem_flatMap.1 hx;exact ⟨List.all_eq_true.1 (h2 r hr) x hxr,.inr ⟨r,hr,hxr⟩⟩
def EVR.tiny (e:EVR):Prop:=e.ver.length<=64/\e.rel.length<=64
theorem er9 {s:Str}(h:ay4 s=true):s.length<=64:=by
 unfold ay4 at h;simp only[Bool.and_eq_true,decide_eq_true_eq] at h;exact h.1.2
theorem es3 {e:EVR}{b:Bool}(h:bd4 e b=true):e.tiny:=by
 unfold bd4 at h;simp only[Bool.and_eq_true,Bool.or_eq_true,decide_eq_true_eq] at h;refine ⟨er9 h.1.2,?_⟩;rcases h.2 with h|h
 ·exact er9 h
 ·have:=List.isEmpty_iff.1 h.2; rw[this]; exact Nat.zero_le _
theorem dq2 {d:Dep}(h:ah5 d=true):0<=d.op/\d.op<256/\d.evr.tiny/\d.name.length<=64:=by
 unfold ah5 at h;simp only[Bool.and_eq_true] at h;obtain ⟨⟨h1,h2⟩,h3⟩:=h
 have hn:d.name.length<=64:=by
  unfold ar1 at h1;simp only[Bool.and_eq_true,decide_eq_true_eq] at h1;exact h1.1.1.2
 have ho:0<=d.op/\d.op<256:=by
  unfold dp4 at h2;simp only[List.contains_iff_mem,List.mem_cons,List.not_mem_nil,or_false] at h2;omega
 refine ⟨ho.1,ho.2,?_,hn⟩;split at h3
 ·have:d.evr=fq2:=by simpa using h3
  rw[this]; exact ⟨by decide,by decide⟩
 ·simp only[Bool.and_eq_true] at h3;exact es3 h3.2
structure aa3.Tiny (p:aa3):Prop where
 name:p.name.length<=64
 evr:p.evr.tiny
 av5:p.provides.length<=32/\∀ d∈p.provides,0<=d.op/\d.op<256/\d.evr.tiny/\d.name.length<=64
 obs:p.aa9.length<=32/\∀ d∈p.aa9,0<=d.op/\d.op<256/\d.evr.tiny/\d.name.length<=64
 files:p.files.length<=32
theorem es4 {p:aa3}(h:af8 p=true):p.Tiny:=by
 unfold af8 at h;simp only[Bool.and_eq_true,decide_eq_true_eq] at h;obtain ⟨⟨⟨⟨⟨⟨⟨⟨⟨⟨⟨⟨⟨⟨h1,_⟩,h3⟩,_⟩,_⟩,h6,h6'⟩,h7,h7'⟩,h8,_⟩,_⟩,_⟩,_⟩,_⟩,_⟩,_⟩,_⟩:=h;refine ⟨?_,es3 h3,⟨h6,fun d hd=>dq2 (List.all_eq_true.1 h6' d hd)⟩,⟨h7,fun d hd=>dq2 (List.all_eq_true.1 h7' d hd)⟩,h8⟩;unfold ar1 at h1;simp only[Bool.and_eq_true,decide_eq_true_eq] at h1;exact h1.1.1.2
end Go.Id.Md
set_option linter.all false
namespace Go.Id.Md
open Go Go.Id
structure Job where
 kind:Int
 dep:Dep
 deriving DecidableEq,Inhabited
structure bb8 where
 kind:Int
 n:Int
 deriving DecidableEq,Inhabited
structure Req where
 aq4:Int
 vendor:Bool
 ah4:List Job
 ah9:List bb8
 budget:Int
def Job.cs (j:Job):List IV:=[.int .u8 j.kind,.str j.dep.name,.int .u8 j.dep.op,.int .i64 j.dep.evr.am7,.str j.dep.evr.ver,.str j.dep.evr.rel]
def bb8.cs (e:bb8):List IV:=[.int .u8 e.kind,.int .i64 e.n]
abbrev be4 (l:List Job):IV:=.aa5 (l.map Job.cs)
abbrev au7 (l:List bb8):IV:=.aa5 (l.map bb8.cs)
def Req.cs (r:Req):List IV:=[.int .u8 r.aq4,.bool r.vendor,be4 r.ah4,au7 r.ah9,.int .i64 r.budget]
def bi4 (q:Nat->Bool)(k:Nat):List Int:=((List.range k).filter q).map fun (n:Nat)=>(n:Int)
theorem fl9 (q:Nat->Bool)(k:Nat):bi4 q (k+1)=bi4 q k++if q k then [(k:Int)] else []:=by
 unfold bi4;rw[List.range_succ,List.filter_append,List.map_append];congr 1;simp only[List.filter_cons,List.filter_nil];split<;>rfl
theorem cv9 {q:Nat->Bool}{k:Nat}{n:Int}:n∈bi4 q k↔∃ m:Nat,n=m/\m<k/\q m=true:=by
 unfold bi4;rw[List.mem_map];constructor
 ·rintro ⟨m,hm,rfl⟩;obtain ⟨h1,h2⟩:=List.mem_filter.1 hm;exact ⟨m,rfl,List.mem_range.1 h1,h2⟩
 ·rintro ⟨m,rfl,h1,h2⟩;exact ⟨m,List.mem_filter.2 ⟨List.mem_range.2 h1,h2⟩,rfl⟩
theorem cw1 (q:Nat->Bool)(k:Nat):(bi4 q k).length<=k:=by
 unfold bi4;rw[List.length_map];exact Nat.le_trans (List.length_filter_le _ _) (by simp)
theorem gu2 (q:Nat->Bool)(k:Nat):(bi4 q k).Pairwise (· < ·):=by
 unfold bi4;refine List.Pairwise.map (R:=fun (a b:Nat)=>a<b) _ (fun a b h=>by show (a:Int)<b; omega) ?_;exact List.Pairwise.filter _ List.pairwise_lt_range
def bt1 (a:Int):Bool:=an5 a&&!decide (a=1)
def dj8 (a b:Int):Bool:=bt1 a&&bt1 b&&!decide (a=b)
def cp9 (a b:Int):Bool:=an5 a&&an5 b&&!dj8 a b
def cw2 (m a:Int):Int :=
 if m=2 then (if a=1 then 2 else if a=2 then 1 else if a=3 then 3 else 0) else
 if m=3 then (if a=1 then 2 else if a=3 then 1 else 0) else
 if m=4 then (if a=1 then 2 else if a=4 then 1 else 0) else 0
def iq8 (m a:Int):Bool:=decide (0<cw2 m a)
structure ac4 where
 p:Pool
 r:Req
namespace ac4
variable (a:ac4)
def l:List aa3:=ad4 a.p
def pk (n:Int):aa3:=a.l.getD n.toNat default
def jb (n:Int):Job:=a.r.ah4.getD n.toNat default
def is (n:Int):Bool:=decide (0<=n)&&decide (n<a.l.length)
def inst (n:Int):Bool:=a.is n&&decide (n<a.p.inst)
def job (n:Int):Bool:=decide (0<=n)&&decide (n<a.r.ah4.length)
def fits (n:Int):Bool:=a.is n&&iq8 a.r.aq4 (a.pk n).aq4
def dz7 (p q:aa3):Bool:=decide (p.name=q.name)&&!(dj8 p.aq4 q.aq4&&decide (ap9 p.evr q.evr=0))
def twins (n m:Int):Bool:=a.is n&&a.is m&&!decide (n=m)&&dz7 (a.pk n) (a.pk m)
def by9 (k n:Int):Bool:=decide ((⟨k,n⟩:bb8)∈a.r.ah9)
def dropped (n:Int):Bool:=a.job n&&a.by9 1 n
def bu9 (k n:Int):Bool:=(List.range a.r.ah4.length).any fun i=>decide ((a.jb i).kind=k)&&!a.dropped i&&decide (n∈ao9 a.l (a.jb i).dep)
def goes (i:Int):Bool:=a.inst i&&(a.bu9 2 i||a.by9 2 i)
def dz8 (vendor down other:Bool)(old q:aa3):Bool:=decide (q.name=old.name)&&(down||decide (0<=ap9 q.evr old.evr))&&(other||cp9 q.aq4 old.aq4)&&(vendor||decide (q.vendor=old.vendor))
def jh2 (i:Int)(q:aa3):Bool:=dz8 a.r.vendor (a.by9 3 i||a.bu9 4 i) (a.by9 4 i) (a.pk i) q
def bi5 (i:Int):List Int:=if a.inst i then bi4 (fun n=>decide ((n:Int)=i)||a.jh2 i (a.pk n)||(!decide ((n:Int)=i)&&aa9 (a.pk n) (a.pk i))) a.l.length else []
def dz9 (i:Int):List Int:=(a.bi5 i).filter fun n=>!(a.inst n || !a.fits n)
def meant (j:Int):List Int:=if a.job j then (if (a.jb j).kind=1 then al9 a.l (a.jb j).dep else if (a.jb j).kind=2 then ao9 a.l (a.jb j).dep else (ao9 a.l (a.jb j).dep).filter fun n=>a.inst n) else []
def some (state l:List Int):Bool:=l.any fun n=>decide (n∈state)
def bv1 (j:Int)(state:List Int):Bool:=!a.job j ||
 if (a.jb j).kind=1 then some state (a.meant j) else if (a.jb j).kind=2 then !some state (a.meant j) else
 if (a.jb j).kind=3 then !(a.meant j).any fun i=>!some state (a.bi5 i) else
 !(a.meant j).any fun i=>decide (0<(a.dz9 i).length)&&!some state (a.dz9 i)
def cs:List IV:=[a.p.v,(ah3 a.l).v,.int .u8 a.r.aq4,.bool a.r.vendor,be4 a.r.ah4,au7 a.r.ah9,.int .i64 a.r.budget,.aa5 (a.l.map aa3.cs)]
def v:IV:=.ac1 a.cs
end ac4
def au1 (e:bb8)(ah4 inst:Int):Bool:=decide (1<=e.kind)&&decide (e.kind<=4)&&decide (0<=e.n)&&decide (e.n<if e.kind=1 then ah4 else inst)
def ay5 (j:Job):Bool:=decide (1<=j.kind)&&decide (j.kind<=4)&&ah5 j.dep
def ak8 (r:Req)(inst:Int):Int :=
 if bt1 r.aq4=false\/r.budget<0\/1099511627776<r.budget then 1 else
 if 64<r.ah4.length\/64<r.ah9.length then 40 else
 if r.ah4.all ay5=false then 4 else
 if r.ah9.all (fun e=>au1 e r.ah4.length inst)=false then 5 else 0
def ij3 (p:Pool)(r:Req):IV:=if ak8 r p.inst=0 then .tuple [(ac4.mk p r).v,.int .i64 0] else .tuple [.ab6,.int .i64 (ak8 r p.inst)]
theorem cq1 (a b:Int):ax5 b a=- ax5 a b:=by
 unfold ax5; split<;>split<;>(try split)<;>(try split)<;>omega
theorem ea1 {a b:Int}:ax5 a b=0↔a=b:=by
 unfold ax5;split
 ·constructor
  ·intro h; omega
  ·intro h; omega
 ·split
  ·simp_all
  ·constructor
   ·intro h; omega
   ·intro h; contradiction
theorem cq2:∀ (x y:List UInt8),Op.bytesLess x y=decide (x<y)
 | [],[]=>by simp[Op.bytesLess]
 | _::_,[]=>by simp[Op.bytesLess]
 | [],_::_=>by simp[Op.bytesLess]
 | a::x,b::y=>by
  simp only[Op.bytesLess,cq2 x y,List.cons_lt_cons_iff];by_cases h:a<b
  ·simp[h]
  ·by_cases h2:a=b
   ·subst h2; simp
   ·simp[h,h2]
theorem iq9 (a b:Str):Op.bytesLess a b=true/\Op.bytesLess b a=false/\a≠b\/a=b/\Op.bytesLess a b=false\/Op.bytesLess b a=true/\Op.bytesLess a b=false/\a≠b:=by
 simp only[cq2,decide_eq_true_eq,decide_eq_false_iff_not];rcases Decidable.em (a<b) with h|h
 ·exact .inl ⟨h,fun h2=>List.lt_asymm h h2,fun e=>List.lt_irrefl a (by rw[<- e] at h; exact h)⟩
 ·rcases Decidable.em (b<a) with h2|h2
  ·exact .inr (.inr ⟨h2,h,fun e=>List.lt_irrefl a (by rw[<- e] at h2; exact h2)⟩)
  ·exact .inr (.inl ⟨List.le_antisymm (List.not_lt.1 h2) (List.not_lt.1 h),h⟩)
theorem es5 (a b:Str):cu4 b a=- cu4 a b:=by
 unfold cu4;rcases iq9 a b with ⟨h1,h2,h3⟩|⟨rfl,h⟩|⟨h1,h2,h3⟩
 ·rw[h1,h2,if_neg (by simp),if_neg (fun e=>h3 e.symm),if_pos rfl]; rfl
 ·rw[h]; simp
 ·rw[h1,h2,if_pos rfl,if_neg (by simp),if_neg h3]
theorem ei9 (a b:Part):ag3 b a=- ag3 a b:=by
 unfold ag3;simp only[cq1 (a.kind:Int) b.kind,cq1 (a.s.length:Int) b.s.length,es5 a.s b.s];have e:(b.kind=5/\a.kind=5)↔(a.kind=5/\b.kind=5):=And.comm;by_cases h1:ax5 (a.kind:Int) b.kind=0
 ·simp only[h1,Int.neg_zero,ne_eq,not_true_eq_false,if_false,e];by_cases h2:a.kind=5/\b.kind=5
  ·simp only[h2,and_self,if_true];by_cases h3:ax5 (a.s.length:Int) b.s.length=0
   ·simp[h3]
   ·have h4:¬ - ax5 (a.s.length:Int) b.s.length=0:=by omega
    simp[h3,h4]
  ·simp[h2]
 ·have h2:¬ - ax5 (a.kind:Int) b.kind=0:=by omega
  simp[h1,h2]
theorem ea2:∀ (a b:List Part),ag5 b a=- ag5 a b:=by
 intro a
 induction a with
 | nil=>intro b; cases b<;>rfl
 | cons x a ih=>
  intro b
  cases b with
  | nil=>rfl
  | cons y b=>
   simp only[ag5,ei9 x y];by_cases h:ag3 x y=0
   ·simp[h,ih b]
   ·have h2:¬ - ag3 x y=0:=by omega
    simp[h,h2]
theorem cj5 (a b:Str):ar2 b a=- ar2 a b:=ea2 _ _
theorem dj9 (a b:EVR):ap9 b a=- ap9 a b:=by
 unfold ap9;rw[cq1 a.am7 b.am7,cj5 a.ver b.ver,cj5 a.rel b.rel];by_cases h1:ax5 a.am7 b.am7=0
 ·by_cases h2:ar2 a.ver b.ver=0
  ·simp only[h1,h2,Int.neg_zero,ne_eq,not_true_eq_false,if_false];by_cases h3:a.rel=[]\/b.rel=[]
   ·rw[if_pos h3,if_pos h3.symm]; rfl
   ·rw[if_neg h3,if_neg (fun h=>h3 h.symm)]
  ·have h3:¬ - ar2 a.ver b.ver=0:=by omega
   simp[h1,h2,h3]
 ·have h3:¬ - ax5 a.am7 b.am7=0:=by omega
  simp[h1,h3]
theorem ej1 (a b:EVR):ap9 a b=0↔ap9 b a=0:=by
 rw[dj9 a b]; omega
namespace ac4
variable (a:ac4)
theorem ej2 (p q:aa3):dz7 p q=dz7 q p:=by
 unfold dz7 dj8;have e1:decide (p.name=q.name)=decide (q.name=p.name):=decide_eq_decide.2 eq_comm;have e2:decide (p.aq4=q.aq4)=decide (q.aq4=p.aq4):=decide_eq_decide.2 eq_comm;have e3:decide (ap9 p.evr q.evr=0)=decide (ap9 q.evr p.evr=0):=decide_eq_decide.2 (ej1 _ _);rw[e1,e2,e3,Bool.and_comm (bt1 p.aq4)]
theorem fm1 (n m:Int):a.twins n m=a.twins m n:=by
 unfold twins;rw[ej2 (a.pk n),Bool.and_comm (a.is n),show decide (n=m)=decide (m=n) from decide_eq_decide.2 eq_comm]
theorem fm2 (n:Int):a.twins n n=false:=by
 unfold twins; simp
theorem ir1 (n:Nat):a.is n=decide (n<a.l.length):=by
 unfold is;have:(0:Int)<=n:=by omega
 simp only[this,decide_true,Bool.true_and];exact decide_eq_decide.2 (by omega)
theorem bz1 (i:Int):(a.bi5 i).length<=a.l.length:=by
 unfold bi5;split
 ·exact cw1 _ _
 ·exact Nat.zero_le _
theorem gu3 (i:Int):(a.dz9 i).length<=a.l.length:=Nat.le_trans (List.length_filter_le _ _) (a.bz1 i)
end ac4
end Go.Id.Md
set_option linter.all false
namespace Go.Id.Md
open Go Go.Id
structure WO {α:Type} (S:α->Prop) (f:α->α->Int):Prop where
 neg:∀ a b,f b a=- f a b
 tr:∀ a b c,S a->S b->S c->f a b<=0->f b c<=0->f a c<=0
def lex (x y:Int):Int:=if x=0 then y else x
theorem ia7 (x y:Int):lex (-x) (-y)=- lex x y:=by unfold lex; split<;>split<;>omega
theorem WO.lex {α:Type}{S:α->Prop}{f g:α->α->Int}(hf:WO S f)(hg:WO S g):WO S fun a b=>Md.lex (f a b) (g a b) where
 neg:=fun a b=>by show Md.lex (f b a) (g b a)=_; rw[hf.neg,hg.neg,ia7]
 tr:=fun a b c sa sb sc h1 h2=>by
  have k1:=hf.tr a b c sa sb sc;have k2:=hf.tr c a b sc sa sb;have k3:=hf.tr b c a sb sc sa;have k4:=hg.tr a b c sa sb sc;have n1:=hf.neg a b;have n2:=hf.neg b c;have n3:=hf.neg a c;unfold Md.lex at *;split at h1<;>split at h2<;>split<;>omega
theorem WO.of {α β:Type}{S:β->Prop}{f:β->β->Int}(hf:WO S f)(g:α->β):WO (fun a=>S (g a)) fun a b=>f (g a) (g b) where
 neg:=fun a b=>hf.neg _ _
 tr:=fun a b c sa sb sc=>hf.tr _ _ _ sa sb sc
theorem WO.flip {α:Type}{S:α->Prop}{f:α->α->Int}(hf:WO S f):WO S fun a b=>f b a where
 neg:=fun a b=>hf.neg b a
 tr:=fun a b c sa sb sc h1 h2=>hf.tr c b a sc sb sa h2 h1
theorem WO.sub {α:Type}{S T:α->Prop}{f:α->α->Int}(hf:WO S f)(h:∀ a,T a->S a):WO T f:=⟨hf.neg,fun a b c sa sb sc=>hf.tr a b c (h a sa) (h b sb) (h c sc)⟩
theorem es6:WO (fun _=>True) ax5 where
 neg:=fun a b=>cq1 a b
 tr:=fun a b c _ _ _ h1 h2=>by
  unfold ax5 at *;split at h1<;>split at h2<;>split<;>(try split at h1)<;>(try split at h2)<;>(try split)<;>omega
theorem ej4 {a b:Str}:cu4 a b<=0↔a<=b:=by
 unfold cu4;rcases iq9 a b with ⟨h1,h2,h3⟩|⟨rfl,h⟩|⟨h1,h2,h3⟩
 ·rw[h1,if_pos rfl];rw[cq2,decide_eq_true_eq] at h1;exact ⟨fun _=>List.le_of_lt h1,fun _=>by decide⟩
 ·rw[h]; simp[List.le_refl]
 ·rw[h2,if_neg (by simp),if_neg h3];rw[cq2,decide_eq_true_eq] at h1;exact ⟨fun h=>absurd h (by decide),fun h=>absurd h1 (List.not_lt.2 h)⟩
theorem ir5:WO (fun _=>True) cu4 where
 neg:=fun a b=>es5 a b
 tr:=fun a b c _ _ _ h1 h2=>ej4.2 (List.le_trans (ej4.1 h1) (ej4.1 h2))
def cq4 (a b:Part):Int:=lex (ax5 a.kind b.kind) (lex (ax5 (if a.kind=5 then (a.s.length:Int) else 0) (if b.kind=5 then (b.s.length:Int) else 0)) (cu4 a.s b.s))
theorem dk4 (a b:Part):ag3 a b=cq4 a b:=by
 unfold ag3 cq4 lex;by_cases h:ax5 (a.kind:Int) b.kind=0
 ·have e:=ea1.1 h;have e':a.kind=b.kind:=by omega
  simp only[h,ne_eq,not_true_eq_false,if_false,if_true,e'];by_cases k5:b.kind=5
  ·simp only[k5,and_self,if_true]; split<;>simp_all
  ·have z:ax5 0 0=0:=by decide
   simp[k5,z]
 ·simp[h]
theorem cj6:WO (fun _=>True) ag3:=by
 have h:ag3=cq4:=by funext a b; exact dk4 a b
 rw[h];exact (es6.of (fun a:Part=>(a.kind:Int))).lex ((es6.of (fun a:Part=>if a.kind=5 then (a.s.length:Int) else 0)).lex (ir5.of Part.s))
theorem cw3 {a b:Part}(h:ag3 a b=0):a.kind=b.kind:=by
 rw[dk4] at h;unfold cq4 lex at h;split at h
 ·rename_i e; have:=ea1.1 e; omega
 ·contradiction
abbrev gb4:Part:=⟨2,[]⟩
theorem ax2 (x y:Part)(a b:List Part):ag5 (x::a) (y::b)=lex (ag3 x y) (ag5 a b):=by
 show (if ag3 x y≠0 then ag3 x y else ag5 a b)=_;unfold lex; split<;>simp_all
theorem bg5 (a:List Part):ag5 [] a=0:=by cases a<;>rfl
theorem bs6 (a:List Part):ag5 a []=0:=by cases a<;>rfl
theorem gu7:∀ (a b c:List Part),(∀ x∈a,x.kind≠2)->(∀ x∈b,x.kind≠2)->(∀ x∈c,x.kind≠2) ->
  ag5 (a++[gb4]) (b++[gb4])<=0->ag5 (b++[gb4]) (c++[gb4])<=0->ag5 (a++[gb4]) (c++[gb4])<=0:=by
 have hd:∀ (x y z:Part) (r s t:Int),lex (ag3 x y) r<=0->lex (ag3 y z) s<=0->(ag3 x y=0->ag3 y z=0->r<=0->s<=0->t<=0)->lex (ag3 x z) t<=0:=fun x y z r s t h1 h2 h3=>by
  have k1:=cj6.tr x y z trivial trivial trivial;have k2:=cj6.tr z x y trivial trivial trivial;have k3:=cj6.tr y z x trivial trivial trivial;have n1:=cj6.neg x y;have n2:=cj6.neg y z;have n3:=cj6.neg x z;unfold lex at *;split at h1<;>split at h2<;>split<;>first|omega|exact h3 (by assumption) (by assumption) h1 h2
 intro a
 induction a with
 | nil=>
  intro b c _ hb hc h1 h2
  cases b with
  | nil=>exact h2
  | cons y b=>
   cases c with
   | nil=>simp only[List.nil_append,ax2,bg5]; decide
   | cons z c=>
    simp only[List.nil_append,List.cons_append,ax2,bg5] at *;refine hd _ y z _ _ _ h1 h2 fun e _ _ _=>?_
    exact absurd (cw3 e).symm (hb y List.mem_cons_self)
 | cons x a ih=>
  intro b c ha hb hc h1 h2
  cases b with
  | nil=>
   simp only[List.nil_append,List.cons_append,ax2,bg5,bs6] at h1
   cases c with
   | nil=>simp only[List.nil_append,List.cons_append,ax2,bg5,bs6]; exact h1
   | cons z c=>
    simp only[List.nil_append,List.cons_append,ax2,bg5,bs6] at *;refine hd x gb4 z _ _ _ h1 h2 fun e _ _ _=>?_
    exact absurd (cw3 e) (ha x List.mem_cons_self)
  | cons y b=>
   cases c with
   | nil=>
    simp only[List.nil_append,List.cons_append,ax2,bg5,bs6] at *;refine hd x y gb4 _ _ _ h1 h2 fun _ e _ _=>?_
    exact absurd (cw3 e) (hb y List.mem_cons_self)
   | cons z c=>
    simp only[List.cons_append,ax2] at *;refine hd x y z _ _ _ h1 h2 fun _ _ r s=>?_
    exact ih b c (fun p hp=>ha p (List.mem_cons_of_mem _ hp)) (fun p hp=>hb p (List.mem_cons_of_mem _ hp)) (fun p hp=>hc p (List.mem_cons_of_mem _ hp)) r s
theorem es7 (b:UInt8):af1 b≠2:=by
 unfold af1
 repeat (first|split|omega)
theorem cw4 (s:Str):∀ x∈af5 s,x.kind≠2:=by
 unfold af5
 have : ∀ n s,∀ x∈au4 n s,x.kind≠2:=by
  intro n
  induction n with
  | zero=>intro s x hx; cases hx
  | succ n ih=>
   intro s x hx
   cases s with
   | nil=>cases hx
   | cons b l=>
    simp only[au4] at hx;split at hx
    ·exact ih _ x hx
    ·split at hx
     ·rcases List.mem_cons.1 hx with rfl|hx
      ·exact es7 b
      ·exact ih _ x hx
     ·rcases List.mem_cons.1 hx with rfl|hx
      ·exact es7 b
      ·exact ih _ x hx
 exact this _ s
theorem hk7:WO (fun _=>True) ar2 where
 neg:=fun a b=>cj5 a b
 tr:=fun a b c _ _ _ h1 h2=>gu7 _ _ _ (cw4 a) (cw4 b) (cw4 c) h1 h2
theorem ir6:WO (fun e:EVR=>e.rel≠[]) ap9 where
 neg:=fun a b=>dj9 a b
 tr:=by
  have h:=(es6.of EVR.am7).lex ((hk7.of EVR.ver).lex (hk7.of EVR.rel))
  have e:∀ a b:EVR,a.rel≠[]->b.rel≠[]->ap9 a b=lex (ax5 a.am7 b.am7) (lex (ar2 a.ver b.ver) (ar2 a.rel b.rel)):=fun a b ha hb=>by
   unfold ap9 lex;have hn:¬ (a.rel=[]\/b.rel=[]):=by simp[ha,hb]
   rw[if_neg hn];by_cases h1:ax5 a.am7 b.am7=0<;>by_cases h2:ar2 a.ver b.ver=0<;>simp[h1,h2]
  intro a b c ha hb hc;rw[e a b ha hb,e b c hb hc,e a c ha hc];exact h.tr a b c trivial trivial trivial
end Go.Id.Md
/- aa8 dependencies,whole and true; who is better: in plain words. Conditions: none; no program in sight. -/
namespace Go.Id.Md
open Go Go.Id
def ej5 (k:Int):Nat:=if k=4 then 3 else if k=5 then 3 else if k=7 then 2 else 24
def as4 (k:Int)(d:Dep)(n:Nat):Bool:=decide (1<k)&&decide (k<=7)&&decide (d=by2)&&decide (2<=n)&&decide (n<=ej5 k)
mutual
def aa8.ms:aa8->Nat×Nat×Bool
 | .mk k d aZ=>if k=1 then (1,0,decide (aZ.length=0)&&ah5 d) else ((aa8.msL aZ 1 0 (as4 k d aZ.length)).1,(aa8.msL aZ 1 0 (as4 k d aZ.length)).2.1+1,(aa8.msL aZ 1 0 (as4 k d aZ.length)).2.2)
def aa8.msL:List aa8->Nat->Nat->Bool->Nat×Nat×Bool
 | [],p,d,ok=>(p,d,ok)
 | r::rs,p,d,ok=>if ok=true then aa8.msL rs (p+r.ms.1) (max d r.ms.2.1) r.ms.2.2 else (p,d,false)
end
def ea3 (r:aa8):Bool:=r.ms.2.2&&decide (r.ms.1<=24)&&decide (r.ms.2.1<=8)
inductive aa8.Good:aa8->Prop
 | atom (d:Dep) (h:ah5 d=true):aa8.Good (.mk 1 d [])
 | node (k:Int) (d:Dep) (aZ:List aa8) (h1:1<k) (h2:k<=7) (h3:2<=aZ.length) (h4:aZ.length<=ej5 k) (h5:∀ a∈aZ,aa8.Good a):aa8.Good (.mk k d aZ)
theorem aa8.ir7:∀ (aZ:List aa8) (p d:Nat) (ok:Bool),(aa8.msL aZ p d ok).2.2=true->ok=true/\∀ a∈aZ,a.ms.2.2=true:=by
 intro aZ
 induction aZ with
 | nil=>intro p d ok h; exact ⟨h,fun _ h=>by cases h⟩
 | cons r rs ih=>
  intro p d ok h;simp only[aa8.msL] at h;split at h
  ·rename_i hk;obtain ⟨h1,h2⟩:=ih _ _ _ h;refine ⟨hk,fun a ha=>?_⟩;rcases List.mem_cons.1 ha with rfl|ha
   ·exact h1
   ·exact h2 a ha
  ·cases h
theorem aa8.ia8 (r:aa8):r.ms.2.2=true->r.Good:=by
 induction r using aa8.ind with
 | h k d aZ ih=>
  intro h;unfold aa8.ms at h;split at h
  ·rename_i hk;subst hk;simp only[Bool.and_eq_true,decide_eq_true_eq] at h;obtain ⟨h1,h2⟩:=h;have e:aZ=[]:=List.length_eq_zero_iff.1 h1;subst e;exact .atom d h2
  ·obtain ⟨h1,h2⟩:=aa8.ir7 _ _ _ _ h;unfold as4 at h1;simp only[Bool.and_eq_true,decide_eq_true_eq] at h1;exact .node k d aZ h1.1.1.1.1 h1.1.1.1.2 h1.1.2 h1.2 fun a ha=>ih a ha (h2 a ha)
theorem aa8.ir8 (aZ:List aa8)(h:∀ a∈aZ,a.ms.1<=a.count/\a.ms.2.1<=a.count):∀ (p d:Nat) (ok:Bool),(aa8.msL aZ p d ok).1<=p+aa8.counts aZ/\(aa8.msL aZ p d ok).2.1<=d+aa8.counts aZ:=by
 induction aZ with
 | nil=>intro p d ok; simp[aa8.msL,aa8.counts]
 | cons r rs ih=>
  intro p d ok;obtain ⟨h1,h2⟩:=h r List.mem_cons_self;have ih':=ih (fun a ha=>h a (List.mem_cons_of_mem _ ha));simp only[aa8.msL,aa8.counts];split
  ·obtain ⟨i1,i2⟩:=ih' (p+r.ms.1) (max d r.ms.2.1) r.ms.2.2;omega
  ·simp only; omega
theorem aa8.ir9 (r:aa8):r.ms.1<=r.count/\r.ms.2.1<=r.count:=by
 induction r using aa8.ind with
 | h k d aZ ih=>
  unfold aa8.ms;simp only[aa8.count];split
  ·simp only; omega
  ·obtain ⟨h1,h2⟩:=aa8.ir8 aZ ih 1 0 (as4 k d aZ.length);simp only; omega
abbrev ff:List Bool->Bool:=fun _=>false
def ea4 (c n:Nat):List Bool:=(List.range c).map fun m=>decide (m=n)
def stB (c:Nat)(zs:List Int):List Bool:=(List.range c).map fun (m:Nat)=>decide ((m:Int)∈zs)
def gu8 (st:List Bool)(f:Nat->Bool):Bool:=(List.range st.length).any fun n=>st.getD n false&&f n
def trK (l:List aa3)(k:Int)(d:Dep)(fs:List (List Bool->Bool))(st:List Bool):Bool :=
 if k=1 then (al9 l d).any fun n=>st.getD n.toNat false
 else if k=2 then fs.all fun f=>f st
 else if k=3 then fs.any fun f=>f st
 else if k=4 then (if (fs.getD 1 ff) st then (fs.getD 0 ff) st else decide (fs.length<3)||(fs.getD 2 ff) st)
 else if k=5 then (if (fs.getD 1 ff) st then decide (fs.length=3)&&(fs.getD 2 ff) st else (fs.getD 0 ff) st)
 else if k=6 then gu8 st fun n=>fs.all fun f=>f (ea4 st.length n)
 else gu8 st fun n=>(fs.getD 0 ff) (ea4 st.length n)&&!(fs.getD 1 ff) (ea4 st.length n)
mutual
def aa8.tr (l:List aa3):aa8->List Bool->Bool
 | .mk k d aZ,st=>trK l k d (aa8.trs l aZ) st
def aa8.trs (l:List aa3):List aa8->List (List Bool->Bool)
 | []=>[]
 | r::rs=>(fun st=>r.tr l st)::aa8.trs l rs
end
theorem aa8.dq4 (l:List aa3)(aZ:List aa8):aa8.trs l aZ=aZ.map fun r st=>r.tr l st:=by
 induction aZ with
 | nil=>rfl
 | cons r rs ih=>simp only[aa8.trs,List.map_cons,ih]
def ia9 (l:List aa3)(zs:List Int)(r:aa8):Bool:=ea3 r&&r.tr l (stB l.length zs)
structure je7 where
 a:ac4
 is1:List Bool
def dq5 (b:Bool):List IV:=[.bool b]
namespace je7
variable (o:je7)
def cs:List IV:=[o.a.v,o.a.p.v,.int .u8 o.a.r.aq4,.aa5 (o.a.l.map aa3.cs),.aa5 (o.is1.map dq5)]
def v:IV:=.ac1 o.cs
def lk (n:Int):Bool:=o.is1.getD n.toNat false
def ix7 (b:Bool):Int:=if b then 0 else 1
def prio (n:Int):Int:=(o.a.p.rows.getD n.toNat ⟨default,0,0⟩).prio
def cmp (n m:Int):Int :=
 lex (ax5 (ix7 (o.a.fits n)) (ix7 (o.a.fits m))) (lex (ax5 (cw2 o.a.r.aq4 (o.a.pk n).aq4) (cw2 o.a.r.aq4 (o.a.pk m).aq4)) (lex (ax5 (o.prio m) (o.prio n))
  (lex (ax5 (ix7 (o.lk n)) (ix7 (o.lk m))) (lex (ap9 (o.a.pk m).evr (o.a.pk n).evr) (ax5 n m)))))
theorem wo:WO (fun n=>(o.a.pk n).evr.rel≠[]) o.cmp:=by
 have hi {g:Int->Int}:WO (fun n=>(o.a.pk n).evr.rel≠[]) fun a b=>ax5 (g a) (g b):=(es6.of g).sub fun _ _=>trivial
 exact hi.lex (hi.lex ((hi (g:=o.prio)).flip.lex (hi.lex ((ir6.of fun n=>(o.a.pk n).evr).flip.lex (hi (g:=fun n=>n))))))
variable (hr:∀ n,o.a.is n=true->(o.a.pk n).evr.rel≠[])
include hr
theorem lt_trans {a b c:Int}(ha:o.a.is a=true)(hb:o.a.is b=true)(hc:o.a.is c=true)(h1:o.cmp a b<0)(h2:o.cmp b c<0):o.cmp a c<0:=by
 have k1:=o.wo.tr a b c (hr a ha) (hr b hb) (hr c hc);have k2:=o.wo.tr c a b (hr c hc) (hr a ha) (hr b hb);have n1:=o.wo.neg a b;have n2:=o.wo.neg b c;have n3:=o.wo.neg a c;omega
end je7
end Go.Id.Md
