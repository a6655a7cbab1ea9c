/- The document's data,and what functions give,in plain words. Conditions: none; no program in sight. -/
import Derived.Test.YtebfbbjghhagbaaGreatDoorFwQ
set_option linter.all false
namespace Go.Id.Md
open Go Go.Id
abbrev Str:=List UInt8
structure EVR where
 am9:Int
 ver:Str
 rel:Str
 deriving DecidableEq,Inhabited
structure Dep where
 name:Str
 op:Int
 evr:EVR
 deriving DecidableEq,Inhabited
inductive aa8 where
 | mk (kind:Int) (dep:Dep) (args:List aa8)
 deriving Inhabited
def aa8.kind:aa8->Int|.mk k _ _=>k
def aa8.dep:aa8->Dep|.mk _ d _=>d
def aa8.args:aa8->List aa8|.mk _ _ a=>a
structure aa3 where
 name:Str
 evr:EVR
 au2:Int
 vendor:Str
 provides:List Dep
 requires:List aa8
 conflicts:List aa8
 aa9:List Dep
 ac3:List aa8
 ac2:List aa8
 suggests:List aa8
 ad6:List aa8
 files:List Str
 deriving Inhabited
structure al7 where
 priority:Int
 packages:List aa3
 deriving Inhabited
def EVR.fit (e:EVR):Prop:=e.ver.length<2^62/\e.rel.length<2^62
def Dep.fit (d:Dep):Prop:=d.name.length<2^62/\d.evr.fit
theorem aa8.ind {p:aa8->Prop}(h:∀ k d aZ,(∀ a∈aZ,p a)->p (.mk k d aZ))(r:aa8):p r :=
 aa8.rec (motive_1:=p) (motive_2:=fun l=>∀ a∈l,p a) (fun k d aZ ih=>h k d aZ ih) (fun _ h=>by cases h) (fun r rs h1 h2 a ha=>by
  rcases List.mem_cons.1 ha with rfl|h
  ·exact h1
  ·exact h2 a h) r
mutual
def aa8.fit:aa8->Prop
 | .mk k d aZ=>0<=k/\k<256/\d.fit/\aZ.length<2^31/\aa8.fits aZ
def aa8.fits:List aa8->Prop
 | []=>True
 | r::rs=>r.fit/\aa8.fits rs
end
theorem aa8.gv1 (l:List aa8):aa8.fits l↔∀ r∈l,r.fit:=by
 induction l with
 | nil=>simp[aa8.fits]
 | cons r rs ih=>simp[aa8.fits,ih]
theorem aa8.bk4 {k:Int}{d:Dep}{aZ:List aa8}:(aa8.mk k d aZ).fit↔0<=k/\k<256/\d.fit/\aZ.length<2^31/\∀ r∈aZ,r.fit:=by
 simp only[aa8.fit,aa8.gv1]
def EVR.cs (e:EVR):List IV:=[.int .i64 e.am9,.str e.ver,.str e.rel]
def Dep.cs (d:Dep):List IV:=[.str d.name,.int .u8 d.op,.int .i64 d.evr.am9,.str d.evr.ver,.str d.evr.rel]
mutual
def aa8.cs:aa8->List IV
 | .mk k d aZ=>[.int .u8 k,.str d.name,.int .u8 d.op,.int .i64 d.evr.am9,.str d.evr.ver,.str d.evr.rel,.aa5 (aa8.css aZ)]
def aa8.css:List aa8->List (List IV)
 | []=>[]
 | r::rs=>r.cs::aa8.css rs
end
theorem aa8.id6 (l:List aa8):aa8.css l=l.map aa8.cs:=by
 induction l with
 | nil=>rfl
 | cons r rs ih=>simp only[aa8.css,ih,List.map_cons]
theorem aa8.an7 (r:aa8):r.cs=[.int .u8 r.kind,.str r.dep.name,.int .u8 r.dep.op,.int .i64 r.dep.evr.am9,.str r.dep.evr.ver,.str r.dep.evr.rel,.aa5 (r.args.map aa8.cs)]:=by
 cases r with
 | mk k d aZ=>simp only[aa8.cs,aa8.id6,aa8.kind,aa8.dep,aa8.args]
def bi1 (s:Str):List IV:=[.str s]
abbrev deps (l:List Dep):IV:=.aa5 (l.map Dep.cs)
abbrev ai9 (l:List aa8):IV:=.aa5 (l.map aa8.cs)
abbrev strs (l:List Str):IV:=.aa5 (l.map bi1)
def aa3.cs (p:aa3):List IV :=
 [.str p.name,.int .i64 p.evr.am9,.str p.evr.ver,.str p.evr.rel,.int .u8 p.au2,.str p.vendor,deps p.provides,ai9 p.requires,ai9 p.conflicts,deps p.aa9,ai9 p.ac3,ai9 p.ac2,ai9 p.suggests,ai9 p.ad6,strs p.files]
def al7.cs (r:al7):List IV:=[.int .i64 r.priority,.aa5 (r.packages.map aa3.cs)]
def aa3.rows (p:aa3):List (Int×List aa8):=[(1,p.requires),(2,p.conflicts),(1,p.ac3),(3,p.ac2),(1,p.suggests),(3,p.ad6)]
def signs:Str:=[97,98,99,100,101,102,103,104,105,106,107,108,109,110,111,112,113,114,115,116,117,118,119,120,121,122,65,66,67,68,69,70,71,72,73,74,75,76,77,78,79,80,81,82,83,84,85,86,87,88,89,90,48,49,50,51,52,53,54,55,56,57,46,95,43,45,47,58,64,126,94]
def gb7 (b:UInt8):Bool:=(decide (97<=b.toNat)&&decide (b.toNat<=122))||(decide (65<=b.toNat)&&decide (b.toNat<=90))||(decide (48<=b.toNat)&&decide (b.toNat<=57))
def bd6 (b:UInt8):Bool:=signs.contains b
def words:List Str:=[[97,110,100],[111,114],[105,102],[101,108,115,101],[117,110,108,101,115,115],[119,105,116,104],[119,105,116,104,111,117,116]]
def ar3 (s:Str):Bool:=decide (1<=s.length)&&decide (s.length<=64)&&s.all bd6&&!words.contains s
def aw7 (s:Str):Bool:=ar3 s&&(s.head? == some 47)
def bl4 (b:UInt8):Bool:=gb7 b || [46,95,43,126,94].contains b
def ay7 (s:Str):Bool:=decide (1<=s.length)&&decide (s.length<=64)&&s.all bl4
def bd7 (e:EVR)(dep:Bool):Bool:=decide (0<=e.am9)&&decide (e.am9<=2147483647)&&ay7 e.ver&&(ay7 e.rel||dep&&e.rel.isEmpty)
def dq3 (op:Int):Bool:=[0,1,2,3,4,6].contains op
def fs3:EVR:=⟨0,[],[]⟩
def by7:Dep:=⟨[],0,fs3⟩
def ah9 (d:Dep):Bool:=ar3 d.name&&dq3 d.op&&(if d.op=0 then decide (d.evr=fs3) else !aw7 d.name&&bd7 d.evr true)
def af2 (b:UInt8):Nat:=if b=126 then 1 else if b=94 then 3 else if decide (97<=b)&&decide (b<=122)||decide (65<=b)&&decide (b<=90) then 4 else if decide (48<=b)&&decide (b<=57) then 5 else 0
structure Part where
 kind:Nat
 s:Str
 deriving DecidableEq,Inhabited
def au6:Nat->Str->List Part
 | 0,_=>[]
 | _+1,[]=>[]
 | n+1,b::l=>
  if af2 b=0 then au6 n l
  else if af2 b<4 then ⟨af2 b,[]⟩::au6 n l
  else ⟨af2 b,if af2 b=5 then ((b::l).takeWhile fun c=>af2 c==af2 b).dropWhile (· == 48) else (b::l).takeWhile fun c=>af2 c==af2 b⟩::au6 n ((b::l).dropWhile fun c=>af2 c==af2 b)
def af8 (s:Str):List Part:=au6 s.length s
def ay2 (a b:Int):Int:=if a<b then -1 else if a=b then 0 else 1
def cu4 (a b:Str):Int:=if Op.bytesLess a b then -1 else if a=b then 0 else 1
def ag8 (a b:Part):Int :=
 let k:=ay2 a.kind b.kind
 if k≠0 then k else
 let n:=if a.kind=5/\b.kind=5 then ay2 a.s.length b.s.length else 0
 if n≠0 then n else cu4 a.s b.s
def ah1:List Part->List Part->Int
 | a::aZ,b::bs=>if ag8 a b≠0 then ag8 a b else ah1 aZ bs
 | _,_=>0
def ar4 (a b:Str):Int:=ah1 (af8 a++[⟨2,[]⟩]) (af8 b++[⟨2,[]⟩])
def av8 (a b:EVR):Int :=
 if ay2 a.am9 b.am9≠0 then ay2 a.am9 b.am9 else
 if ar4 a.ver b.ver≠0 then ar4 a.ver b.ver else
 if a.rel=[]\/b.rel=[] then 0 else ar4 a.rel b.rel
def bit (op:Int)(i:Nat):Bool:=(op.toNat).testBit i
def side (n:Int):Nat:=if n<0 then 0 else if n=0 then 1 else 2
def meet (a b:Dep):Bool :=
 if a.op.toNat%8=0\/b.op.toNat%8=0 then true else
 let n:=av8 a.evr b.evr
 if n=0 then bit a.op 0&&bit b.op 0||bit a.op 1&&bit b.op 1||bit a.op 2&&bit b.op 2
 else bit a.op (side (-n))||bit b.op (side n)
mutual
def aa8.count:aa8->Nat
 | .mk _ _ aZ=>aa8.counts aZ+1
def aa8.counts:List aa8->Nat
 | []=>0
 | r::rs=>r.count+aa8.counts rs
end
mutual
def aa8.depth:aa8->Nat
 | .mk k _ aZ=>if k=1 then 0 else aa8.bd8 aZ+1
def aa8.bd8:List aa8->Nat
 | []=>0
 | r::rs=>max r.depth (aa8.bd8 rs)
end
-- All parts,and whether each stands within a With,or a Without.
mutual
def aa8.parts:aa8->Bool->List (aa8×Bool)
 | .mk k d aZ,alone=>(.mk k d aZ,alone)::aa8.bg9 aZ (alone||decide (k=6)||decide (k=7))
def aa8.bg9:List aa8->Bool->List (aa8×Bool)
 | [],_=>[]
 | r::rs,alone=>r.parts alone++aa8.bg9 rs alone
end
def asks (k:Int):Nat×Nat×Bool×Nat :=
 if k=1 then (0,0,true,3) else if k=2 then (2,24,true,3) else if k=3 then (2,24,true,3) else if k=4 then (2,3,false,1)
 else if k=5 then (2,3,false,2) else if k=6 then (2,24,true,3) else if k=7 then (2,2,true,3) else (0,0,false,0)
def aj5 (wh:Int)(r:aa8)(alone:Bool):Bool :=
 let x:=asks r.kind
 !(decide ((x.2.2.2:Int)<wh)||alone&&!x.2.2.1||decide (r.args.length<x.1)||decide (x.2.1<r.args.length)) &&
 (if r.kind=1 then ah9 r.dep else decide (r.dep=by7))
def ar5 (r:aa8)(wh:Int):Int :=
 if wh<1\/3<wh then 1 else if r.count>24 then 40 else if r.depth>8 then 21 else if (r.parts false).all fun p=>aj5 wh p.1 p.2 then 0 else 4
mutual
def aa8.same:aa8->aa8->Bool
 | .mk k d aZ,.mk k' d' as'=>decide (k=k')&&decide (d=d')&&aa8.id7 aZ as'
def aa8.id7:List aa8->List aa8->Bool
 | [],[]=>true
 | r::rs,s::ss=>r.same s&&aa8.id7 rs ss
 | _,_=>false
end
structure aa3.Fit (p:aa3):Prop where
 name:p.name.length<2^62
 evr:p.evr.fit
 av9:p.provides.length<2^31/\∀ d∈p.provides,d.fit
 obs:p.aa9.length<2^31/\∀ d∈p.aa9,d.fit
 files:p.files.length<2^31/\∀ s∈p.files,s.length<2^62
 rich:∀ x∈p.rows,x.2.length<2^31/\∀ r∈x.2,r.fit/\r.count<2^31
def an8 (a:Int):Bool:=decide (1<=a)&&decide (a<=4)
def rising:List Str->Bool
 | a::b::l=>Op.bytesLess a b&&rising (b::l)
 | _=>true
def ad2 (l:List aa8)(wh:Int):Bool:=decide (l.length<=32)&&l.all fun r=>decide (ar5 r wh=0)
def ag2 (p:aa3):Bool :=
 ar3 p.name&&!aw7 p.name&&bd7 p.evr false&&an8 p.au2&&decide (p.vendor.length<=64) &&
 (decide (p.provides.length<=32)&&p.provides.all ah9)&&(decide (p.aa9.length<=32)&&p.aa9.all ah9)&&(decide (p.files.length<=32)&&p.files.all aw7) &&
 rising p.files&&ad2 p.requires 1&&ad2 p.conflicts 2&&ad2 p.ac3 1&&ad2 p.ac2 3&&ad2 p.suggests 1&&ad2 p.ad6 3
def own (p:aa3):Dep:=⟨p.name,2,p.evr⟩
def meets (a d:Dep):Bool:=decide (a.name=d.name)&&meet a d
def named (p:aa3)(d:Dep):Bool:=meets (own p) d
def provides (p:aa3)(d:Dep):Bool:=named p d||p.provides.any (fun a=>meets a d)||decide (d.op=0)&&p.files.contains d.name
def aa9 (p q:aa3):Bool:=p.aa9.any fun d=>named q d
def id8 (l m:List aa8):Bool:=aa8.id7 l m
end Go.Id.Md
set_option linter.all false
namespace Go.Id.Md
open Go Go.Id
structure bd9 where
 pkg:aa3
 es9:Int
 prio:Int
def bd9.cs (r:bd9):List IV:=r.pkg.cs++[.int .i64 r.es9,.int .i64 r.prio]
abbrev Nms:=List (Str×List Int)
def aq7:Nms->Str->Int->Nms
 | [],k,n=>[(k,[n])]
 | t::ts,k,n=>if k=t.1 then (k,t.2++[n])::ts else t::aq7 ts k n
def co1:Nms->Nat->List aa3->Nms
 | nm,_,[]=>nm
 | nm,n,p::ps=>co1 (aq7 nm p.name n) (n+1) ps
def ah6 (n:Int):List IV:=[.int .i64 n]
def nmV (nm:Nms):List (IV×IV):=nm.map fun t=>(.str t.1,.aa5 (t.2.map ah6))
structure Pool where
 rows:List bd9
 inst:Int
 nm:Nms
def Pool.v (p:Pool):IV:=.ab8 [.aa5 (p.rows.map bd9.cs),.int .i64 p.inst,.al6 (nmV p.nm)]
def rowsOf (l:List aa3)(es9 prio:Int):List bd9:=l.map fun p=>⟨p,es9,prio⟩
theorem ej8 (l:List aa3)(x:aa3)(a b:Int):rowsOf (l++[x]) a b=rowsOf l a b++[⟨x,a,b⟩]:=by simp[rowsOf]
theorem bs4 (l:List aa3)(a b:Int):(rowsOf l a b).length=l.length:=by simp[rowsOf]
def af9:Nat->List al7->List bd9×Nms->Option (List bd9×Nms)
 | _,[],st=>some st
 | i,r::rs,st=>if r.priority<0\/1024<r.priority\/r.packages.all ag2=false then none else af9 (i+1) rs (st.1++rowsOf r.packages i r.priority,co1 st.2 st.1.length r.packages)
def ak7 (l:List al7):Nat:=(l.map fun r=>r.packages.length).sum
def bt2 (repos:List al7)(inst:List aa3):Pool ⊕ Int :=
 if 16<repos.length\/256<inst.length+ak7 repos then .inr 40 else
 if inst.all ag2=false then .inr 4 else
 match af9 0 repos (rowsOf inst (-1) 1025,co1 [] 0 inst) with
 | some (rows,nm)=>.inl ⟨rows,inst.length,nm⟩
 | none=>.inr 4
def it7 (r:Pool ⊕ Int):IV:=match r with
 | .inl p=>.tuple [p.v,.int .i64 0]
 | .inr e=>.tuple [.ab6,.int .i64 e]
abbrev NmL:=List (Str×List Int×Nat)
def mEs (L:NmL):List (IV×IV):=L.map fun t=>(.str t.1,.slice t.2.2 0 t.2.1.length 1)
def bb6 (L:NmL):Nms:=L.map fun t=>(t.1,t.2.1)
def bc7:NmL->Str->Int->Nat->NmL
 | [],k,n,nid=>[(k,[n],nid)]
 | t::ts,k,n,nid=>if k=t.1 then (k,t.2.1++[n],nid)::ts else t::bc7 ts k n nid
def cu5 (L:NmL)(k:Str):IV:=match L.find? (fun t=>decide (k=t.1)) with
 | some t=>.slice t.2.2 0 t.2.1.length 1
 | none=>.aa1
def cb9 (L:NmL)(k:Str):List Int:=match L.find? (fun t=>decide (k=t.1)) with
 | some t=>t.2.1
 | none=>[]
theorem cp7 (L:NmL)(k:Str)(n:Int)(nid:Nat):bb6 (bc7 L k n nid)=aq7 (bb6 L) k n:=by
 induction L with
 | nil=>rfl
 | cons t ts ih=>
  simp only[bc7,bb6,List.map_cons,aq7];split
  ·rfl
  ·rw[List.map_cons]; congr 1
theorem it8 (L:NmL)(k:Str):(ax2 2 (.str k) (mEs L)).map (fun r=>r.getD .aa1)=some (cu5 L k):=by
 induction L with
 | nil=>rfl
 | cons t ts ih=>
  simp only[mEs,List.map_cons,ax2,er8,cu5,List.find?_cons] at ih ⊢;by_cases h:k=t.1
  ·simp[h]
  ·simp only[h,decide_false] at ih ⊢;exact ih
theorem id9 (L:NmL)(k:Str):∃ r,ax2 2 (.str k) (mEs L)=some r/\r.getD .aa1=cu5 L k:=by
 have:=it8 L k
 cases h:ax2 2 (.str k) (mEs L) with
 | none=>rw[h] at this; cases this
 | some r=>rw[h] at this; exact ⟨r,rfl,by simpa using this⟩
theorem jh6 (L:NmL)(k:Str)(n:Int)(nid:Nat):ef1 2 (.str k) (.slice nid 0 ((cb9 L k).length+1) 1) (mEs L)=some (mEs (bc7 L k n nid)):=by
 induction L with
 | nil=>rfl
 | cons t ts ih=>
  simp only[mEs,List.map_cons,ef1,er8,cb9,List.find?_cons,bc7] at ih ⊢;by_cases h:k=t.1
  ·simp[h]
  ·simp only[h,decide_false,if_false,List.map_cons] at ih ⊢;rw[ih]; rfl
theorem dq4 {k:Str}{n:Int}{nid:Nat}:∀ {L:NmL},(L.map (·.1)).Nodup->∀ t∈bc7 L k n nid,(t∈L/\t.1≠k)\/t=(k,cb9 L k++[n],nid):=by
 intro L
 induction L with
 | nil=>intro _ t ht; simp[bc7] at ht; exact .inr (by rw[ht]; rfl)
 | cons u us ih=>
  intro hk t ht;rw[List.map_cons,List.nodup_cons] at hk;simp only[bc7] at ht;by_cases h:k=u.1
  ·rw[if_pos h] at ht;rcases List.mem_cons.1 ht with rfl|ht
   ·right; simp[cb9,h]
   ·left;exact ⟨List.mem_cons_of_mem _ ht,fun e=>hk.1 (by rw[<- h,<- e]; exact List.mem_map_of_mem (f:=fun x:Str×List Int×Nat=>x.1) ht)⟩
  ·rw[if_neg h] at ht;rcases List.mem_cons.1 ht with rfl|ht
   ·left; exact ⟨List.mem_cons_self ..,fun e=>h e.symm⟩
   ·have e:cb9 (u::us) k=cb9 us k:=by simp[cb9,h]
    rw[e];rcases ih hk.2 t ht with ⟨h1,h2⟩|h1
    ·exact .inl ⟨List.mem_cons_of_mem _ h1,h2⟩
    ·exact .inr h1
theorem es8 {k:Str}{n:Int}{nid:Nat}:∀ (L:NmL),(L.map (·.1)).Nodup->((bc7 L k n nid).map (·.1)).Nodup/\∀ x∈(bc7 L k n nid).map (·.1),x=k\/x∈L.map (·.1):=by
 intro L
 induction L with
 | nil=>intro _; simp[bc7]
 | cons u us ih=>
  intro hk;rw[List.map_cons,List.nodup_cons] at hk;simp only[bc7];by_cases h:k=u.1
  ·rw[if_pos h];refine ⟨?_,?_⟩
   ·rw[List.map_cons,List.nodup_cons]; exact ⟨by rw[h]; exact hk.1,hk.2⟩
   ·intro x hx;simp only[List.map_cons,List.mem_cons] at hx ⊢;rcases hx with h1|h1
    ·exact .inl h1
    ·exact .inr (.inr h1)
  ·rw[if_neg h];obtain ⟨h1,h2⟩:=ih hk.2;refine ⟨?_,?_⟩
   ·rw[List.map_cons,List.nodup_cons];refine ⟨fun hm=>?_,h1⟩;rcases h2 _ hm with e|e
    ·exact h e.symm
    ·exact hk.1 e
   ·intro x hx;simp only[List.map_cons,List.mem_cons] at hx ⊢;rcases hx with h3|h3
    ·exact .inr (.inl h3)
    ·rcases h2 _ h3 with e|e
     ·exact .inl e
     ·exact .inr (.inr e)
theorem gb8 {k:Str}{n:Int}{nid:Nat}:∀ (L:NmL),(L.map (·.2.2)).Nodup->nid ∉ L.map (·.2.2)->((bc7 L k n nid).map (·.2.2)).Nodup/\∀ x∈(bc7 L k n nid).map (·.2.2),x=nid\/x∈L.map (·.2.2):=by
 intro L
 induction L with
 | nil=>intro _ _; simp[bc7]
 | cons u us ih=>
  intro hk hn;rw[List.map_cons,List.nodup_cons] at hk;simp only[List.map_cons,List.mem_cons,not_or] at hn;simp only[bc7];by_cases h:k=u.1
  ·rw[if_pos h];refine ⟨?_,?_⟩
   ·rw[List.map_cons,List.nodup_cons]; exact ⟨hn.2,hk.2⟩
   ·intro x hx;simp only[List.map_cons,List.mem_cons] at hx ⊢;rcases hx with h1|h1
    ·exact .inl h1
    ·exact .inr (.inr h1)
  ·rw[if_neg h];obtain ⟨h1,h2⟩:=ih hk.2 hn.2;refine ⟨?_,?_⟩
   ·rw[List.map_cons,List.nodup_cons];refine ⟨fun hm=>?_,h1⟩;rcases h2 _ hm with e|e
    ·exact hn.1 e.symm
    ·exact hk.1 e
   ·intro x hx;simp only[List.map_cons,List.mem_cons] at hx ⊢;rcases hx with h3|h3
    ·exact .inr (.inl h3)
    ·rcases h2 _ h3 with e|e
     ·exact .inl e
     ·exact .inr (.inr e)
theorem by8 (L:NmL)(k:Str):(cu5 L k=.aa1/\cb9 L k=[])\/∃ t∈L,t.1=k/\cu5 L k=.slice t.2.2 0 t.2.1.length 1/\cb9 L k=t.2.1:=by
 unfold cu5 cb9
 cases h:L.find? (fun t=>decide (k=t.1)) with
 | none=>exact .inl ⟨rfl,rfl⟩
 | some t=>
  have h1:=List.find?_some h;exact .inr ⟨t,List.mem_of_find?_eq_some h,by simpa using (by simpa using h1:k=t.1).symm,rfl,rfl⟩
theorem gb9 {L:NmL}(hk:(L.map (·.1)).Nodup)(hd:(L.map (·.2.2)).Nodup):∀ t∈L,∀ u∈L,t.2.2=u.2.2->t=u:=by
 intro t ht u hu e;obtain ⟨i,hi,h1⟩:=List.mem_iff_getElem.1 ht;obtain ⟨j,hj,h2⟩:=List.mem_iff_getElem.1 hu
 have hij:i=j:=by
  have hi':i<(L.map (·.2.2)).length:=by simpa using hi
  have hj':j<(L.map (·.2.2)).length:=by simpa using hj
  have hp:=List.pairwise_iff_getElem.1 hd;have e2:(L.map (·.2.2))[i]=(L.map (·.2.2))[j]:=by simp only[List.getElem_map,h1,h2,e]
  rcases Nat.lt_trichotomy i j with h|h|h
  ·exact absurd e2 (hp i j hi' hj' h)
  ·exact h
  ·exact absurd e2.symm (hp j i hj' hi' h)
 subst hij;rw[<- h1,<- h2]
end Go.Id.Md
set_option linter.all false
namespace Go.Id.Md
open Go Go.Id
def ad3:Nms->Str->List Int
 | [],_=>[]
 | t::ts,k=>if k=t.1 then t.2 else ad3 ts k
def KN (nm:Nms):Prop:=(nm.map (·.1)).Nodup
theorem bh2 {nm:Nms}{k:Str}{n:Int}(h:KN nm)(t:Str×List Int):t∈aq7 nm k n↔(t∈nm/\t.1≠k)\/t=(k,ad3 nm k++[n]):=by
 induction nm with
 | nil=>simp[aq7,ad3]
 | cons u us ih=>
  have h':u.1 ∉ us.map (·.1)/\KN us:=by simpa [KN] using h
  simp only[aq7,ad3];by_cases e:k=u.1
  ·rw[if_pos e,if_pos e];subst e;simp only[List.mem_cons];constructor
   ·rintro (rfl|ht)
    ·exact .inr rfl
    ·exact .inl ⟨.inr ht,fun e=>h'.1 (List.mem_map.2 ⟨t,ht,e⟩)⟩
   ·rintro (⟨rfl|ht,hne⟩|rfl)
    ·exact absurd rfl hne
    ·exact .inr ht
    ·exact .inl rfl
  ·rw[if_neg e,if_neg e];simp only[List.mem_cons,ih h'.2];constructor
   ·rintro (rfl|⟨h1,h2⟩|rfl)
    ·exact .inl ⟨.inl rfl,fun e'=>e e'.symm⟩
    ·exact .inl ⟨.inr h1,h2⟩
    ·exact .inr rfl
   ·rintro (⟨rfl|h1,h2⟩|rfl)
    ·exact .inl rfl
    ·exact .inr (.inl ⟨h1,h2⟩)
    ·exact .inr (.inr rfl)
theorem fm7 {k:Str}{n:Int}:∀ {nm:Nms},∀ x∈(aq7 nm k n).map (·.1),x=k\/x∈nm.map (·.1):=by
 intro nm
 induction nm with
 | nil=>intro x hx; simpa [aq7] using hx
 | cons u us ih=>
  intro x hx;simp only[aq7] at hx;split at hx
  ·rename_i e; simp only[List.map_cons,List.mem_cons] at hx ⊢;rcases hx with h|h
   ·exact .inl h
   ·exact .inr (.inr h)
  ·simp only[List.map_cons,List.mem_cons] at hx ⊢;rcases hx with h|h
   ·exact .inr (.inl h)
   ·rcases ih x h with h|h
    ·exact .inl h
    ·exact .inr (.inr h)
theorem am5 {nm:Nms}{k:Str}{n:Int}(h:KN nm):KN (aq7 nm k n):=by
 induction nm with
 | nil=>simp[KN,aq7]
 | cons u us ih=>
  have h':u.1 ∉ us.map (·.1)/\KN us:=by simpa [KN] using h
  simp only[aq7];split
  ·rename_i e; subst e; exact h
  ·rename_i e;show ((u::aq7 us k n).map (·.1)).Nodup;rw[List.map_cons,List.nodup_cons];refine ⟨fun hm=>?_,ih h'.2⟩;rcases fm7 _ hm with h1|h1
   ·exact e h1.symm
   ·exact h'.1 h1
theorem KN.nd {nm:Nms}(h:KN nm):nm.Nodup:=by
 induction nm with
 | nil=>exact List.nodup_nil
 | cons u us ih=>
  have h':u.1 ∉ us.map (·.1)/\KN us:=by simpa [KN] using h
  exact List.nodup_cons.2 ⟨fun hm=>h'.1 (List.mem_map.2 ⟨u,hm,rfl⟩),ih h'.2⟩
theorem KN.perm {nm nm':Nms}(h:KN nm)(p:nm.Perm nm'):KN nm':=(p.map (fun x:Str×List Int=>x.1)).nodup_iff.1 h
theorem dk5 {nm:Nms}(h:KN nm){t:Str×List Int}(ht:t∈nm):ad3 nm t.1=t.2:=by
 induction nm with
 | nil=>cases ht
 | cons u us ih=>
  have h':u.1 ∉ us.map (·.1)/\KN us:=by simpa [KN] using h
  simp only[ad3];rcases List.mem_cons.1 ht with rfl|ht
  ·rw[if_pos rfl]
  ·rw[if_neg (fun e=>h'.1 (List.mem_map.2 ⟨t,ht,e⟩))];exact ih h'.2 ht
theorem cv3 {nm:Nms}{k:Str}(h:k ∉ nm.map (·.1)):ad3 nm k=[]:=by
 induction nm with
 | nil=>rfl
 | cons u us ih=>
  simp only[List.map_cons,List.mem_cons,not_or] at h;simp only[ad3];rw[if_neg h.1]; exact ih h.2
theorem cv4 {nm nm':Nms}(h:KN nm)(p:nm.Perm nm')(k:Str):ad3 nm k=ad3 nm' k:=by
 by_cases hk:k∈nm.map (·.1)
 ·obtain ⟨t,ht,rfl⟩:=List.mem_map.1 hk;rw[dk5 h ht,dk5 (h.perm p) (p.mem_iff.1 ht)]
 ·rw[cv3 hk,cv3 (fun e=>hk ((p.map (·.1)).mem_iff.2 e))]
theorem bh3 {nm:Nms}(h:KN nm)(k:Str)(n:Int)(j:Str):ad3 (aq7 nm k n) j=if j=k then ad3 nm k++[n] else ad3 nm j:=by
 induction nm with
 | nil=>
  simp only[aq7,ad3]
  split<;>rfl
 | cons u us ih=>
  have h':u.1 ∉ us.map (·.1)/\KN us:=by simpa [KN] using h
  simp only[aq7,ad3];by_cases e:k=u.1
  ·rw[if_pos e,if_pos e];simp only[ad3];by_cases ej:j=k
   ·rw[if_pos ej,if_pos ej]
   ·rw[if_neg ej,if_neg ej,if_neg (fun x=>ej (x.trans e.symm))]
  ·rw[if_neg e,if_neg e];simp only[ad3,ih h'.2];by_cases ej:j=k
   ·rw[if_pos ej,if_pos ej,if_neg (fun x=>e (ej.symm.trans x))]
   ·rw[if_neg ej,if_neg ej]
theorem bs6 {nm nm':Nms}{k:Str}{n:Int}(h:KN nm)(p:nm.Perm nm'):(aq7 nm k n).Perm (aq7 nm' k n):=by
 refine (List.perm_ext_iff_of_nodup (am5 h).nd (am5 (h.perm p)).nd).2 fun t=>?_
 rw[bh2 h,bh2 (h.perm p),cv4 h p,p.mem_iff]
theorem fm8 {nm:Nms}{k j:Str}{n:Int}(h:KN nm):(aq7 (aq7 nm k n) j n).Perm (aq7 (aq7 nm j n) k n):=by
 by_cases e:k=j
 ·subst e; exact .refl _
 refine (List.perm_ext_iff_of_nodup (am5 (am5 h)).nd (am5 (am5 h)).nd).2 fun t=>?_
 rw[bh2 (am5 h),bh2 (am5 h),bh2 h,bh2 h,bh3 h,bh3 h,if_neg (fun x=>e x.symm),if_neg e];constructor
 ·rintro (⟨⟨h1,h2⟩|rfl,h3⟩|rfl)
  ·exact .inl ⟨.inl ⟨h1,h3⟩,h2⟩
  ·exact .inr rfl
  ·exact .inl ⟨.inr rfl,fun x=>e x.symm⟩
 ·rintro (⟨⟨h1,h2⟩|rfl,h3⟩|rfl)
  ·exact .inl ⟨.inl ⟨h1,h3⟩,h2⟩
  ·exact .inr rfl
  ·exact .inl ⟨.inr rfl,e⟩
def bb8 (nm:Nms)(ks:List Str)(n:Int):Nms:=ks.foldl (fun m k=>aq7 m k n) nm
theorem dz9 {n:Int}:∀ {ks:List Str} {nm:Nms},KN nm->KN (bb8 nm ks n)
 | [],_,h=>h
 | _::ks,_,h=>dz9 (ks:=ks) (am5 h)
theorem cv5 {n:Int}:∀ (ks:List Str) {nm nm':Nms},KN nm->nm.Perm nm'->(bb8 nm ks n).Perm (bb8 nm' ks n)
 | [],_,_,_,p=>p
 | _::ks,_,_,h,p=>cv5 ks (am5 h) (bs6 h p)
theorem ea1 {n:Int}{ks js:List Str}(p:ks.Perm js):∀ {nm:Nms},KN nm->(bb8 nm ks n).Perm (bb8 nm js n):=by
 induction p with
 | nil=>intro nm _; exact .refl _
 | cons x _ ih=>intro nm h; exact ih (am5 h)
 | swap x y l=>intro nm h; exact cv5 l (am5 (am5 h)) (fm8 h)
 | trans p1 _ ih1 ih2=>intro nm h; exact (ih1 h).trans (ih2 h)
theorem ek3 (nm:Nms)(ks:List Str)(k:Str)(n:Int):bb8 nm (ks++[k]) n=aq7 (bb8 nm ks n) k n:=by simp[bb8]
def au7 (l:List Str)(k:Str):List Str:=if k∈l then l else l++[k]
def cv6 (p:aa3):List Str:=p.files.foldl au7 ((p.provides.map (·.name)).foldl au7 [p.name])
def au3 (nm:Nms)(ds:List Str)(n:Int):Nms:=ds.foldl (fun m k=>if n∈ad3 m k then m else aq7 m k n) nm
theorem cm5 (nm:Nms)(ks:List Str)(k:Str)(n:Int):au3 nm (ks++[k]) n=if n∈ad3 (au3 nm ks n) k then au3 nm ks n else aq7 (au3 nm ks n) k n:=by
 unfold au3; rw[List.foldl_append]; rfl
structure Index where
 all:List aa3
 av9:Nms
 names:Nms
 over:Nms
def Index.v (x:Index):IV:=.ab8 [.aa5 (x.all.map aa3.cs),.al6 (nmV x.av9),.al6 (nmV x.names),.al6 (nmV x.over)]
def ea2 (x:Index)(n:Nat)(p:aa3):Index:=⟨x.all++[p],bb8 x.av9 (cv6 p) n,aq7 x.names p.name n,au3 x.over (p.aa9.map (·.name)) n⟩
def idxFrom (x:Index):Nat->List aa3->Index
 | _,[]=>x
 | n,p::ps=>idxFrom (ea2 x n p) (n+1) ps
def ah8 (l:List aa3):Index:=idxFrom ⟨[],[],[],[]⟩ 0 l
theorem ea3 (ps:List aa3)(p:aa3):∀ (x:Index) (n:Nat),idxFrom x n (ps++[p])=ea2 (idxFrom x n ps) (n+ps.length) p:=by
 induction ps with
 | nil=>intro x n; rfl
 | cons q qs ih=>intro x n; show idxFrom _ (n+1) (qs++[p])=_; rw[ih,List.length_cons]; congr 1; omega
theorem fm9 (L:NmL)(k:Str):ad3 (bb6 L) k=cb9 L k:=by
 induction L with
 | nil=>rfl
 | cons t ts ih=>
  simp only[bb6,List.map_cons,ad3,cb9,List.find?_cons] at ih ⊢;by_cases h:k=t.1
  ·simp[h]
  ·simp only[h,decide_false,if_false] at ih ⊢;exact ih
end Go.Id.Md
/- Indexes,in plain words: who stands in them,by number. Conditions: none; no program in sight. -/
namespace Go.Id.Md
open Go Go.Id
def numsOf (q:aa3->Bool)(l:List aa3):List Int:=((List.range l.length).filter fun n=>q (l.getD n default)).map fun (n:Nat)=>(n:Int)
theorem bv5 (q:aa3->Bool)(l:List aa3)(p:aa3):numsOf q (l++[p])=numsOf q l++if q p then [(l.length:Int)] else []:=by
 unfold numsOf;rw[List.length_append,List.length_singleton,List.range_succ,List.filter_append,List.map_append];congr 1
 ·congr 1;refine List.filter_congr fun n hn=>?_
  have h:=List.mem_range.1 hn;simp[List.getD_eq_getElem?_getD,List.getElem?_append,h]
 ·have e:(l++[p]).getD l.length default=p:=by simp[List.getD_eq_getElem?_getD]
  simp only[List.filter_cons,List.filter_nil,e];split<;>rfl
theorem bb1 {q:aa3->Bool}{l:List aa3}{n:Int}:n∈numsOf q l↔∃ m:Nat,n=m/\m<l.length/\q (l.getD m default)=true:=by
 unfold numsOf;rw[List.mem_map];constructor
 ·rintro ⟨m,hm,rfl⟩;obtain ⟨h1,h2⟩:=List.mem_filter.1 hm;exact ⟨m,rfl,List.mem_range.1 h1,h2⟩
 ·rintro ⟨m,rfl,h1,h2⟩;exact ⟨m,List.mem_filter.2 ⟨List.mem_range.2 h1,by simpa using h2⟩,rfl⟩
theorem al8 (q:aa3->Bool)(l:List aa3):(numsOf q l).length<=l.length:=by
 unfold numsOf;rw[List.length_map];exact Nat.le_trans (List.length_filter_le _ _) (by simp)
theorem bz2 (q r:aa3->Bool)(l:List aa3):(numsOf q l).filter (fun n=>r (l.getD n.toNat default))=numsOf (fun p=>q p&&r p) l:=by
 unfold numsOf;rw[List.filter_map,List.filter_filter];congr 1;refine List.filter_congr fun n _=>?_
 show (r (l.getD ((n:Int)).toNat default)&&q (l.getD n default))=_;rw[Int.toNat_natCast,Bool.and_comm]
theorem cm6 {q r:aa3->Bool}{l:List aa3}(h:∀ p∈l,q p=r p):numsOf q l=numsOf r l:=by
 unfold numsOf;congr 1;refine List.filter_congr fun n hn=>?_
 have hlt:=List.mem_range.1 hn;refine h _ ?_;rw[List.getD_eq_getElem?_getD,List.getElem?_eq_getElem hlt];exact List.getElem_mem hlt
theorem ek4 {n:Int}:∀ (ks:List Str) {nm:Nms},KN nm->ks.Nodup->∀ j,ad3 (bb8 nm ks n) j=ad3 nm j++if j∈ks then [n] else []:=by
 intro ks
 induction ks with
 | nil=>intro nm _ _ j; simp[bb8]
 | cons k ks ih=>
  intro nm h hnd j;obtain ⟨h1,h2⟩:=List.nodup_cons.1 hnd;show ad3 (bb8 (aq7 nm k n) ks n) j=_;rw[ih (am5 h) h2,bh3 h];by_cases e:j=k
  ·subst e; simp[h1]
  ·simp[e]
theorem fn1 {n:Int}:∀ (ks:List Str) {nm:Nms},KN nm->KN (au3 nm ks n):=by
 intro ks
 induction ks with
 | nil=>intro nm h; exact h
 | cons k ks ih=>
  intro nm h;show KN (au3 (if n∈ad3 nm k then nm else aq7 nm k n) ks n);split
  ·exact ih h
  ·exact ih (am5 h)
theorem ea4 {n:Int}:∀ (ks:List Str) {nm:Nms},KN nm->∀ j,ad3 (au3 nm ks n) j=ad3 nm j++if j∈ks/\n ∉ ad3 nm j then [n] else []:=by
 intro ks
 induction ks with
 | nil=>intro nm _ j; simp[au3]
 | cons k ks ih=>
  intro nm h j;show ad3 (au3 (if n∈ad3 nm k then nm else aq7 nm k n) ks n) j=_;by_cases hk:n∈ad3 nm k
  ·rw[if_pos hk,ih h];by_cases e:j=k
   ·subst e; simp[hk]
   ·simp[e]
  ·rw[if_neg hk,ih (am5 h),bh3 h];by_cases e:j=k
   ·subst e; simp[hk]
   ·simp[e]
theorem fn2 {l:List Str}{k j:Str}:j∈au7 l k↔j∈l\/j=k:=by
 unfold au7;split
 ·rename_i h; exact ⟨.inl,fun h'=>h'.elim id fun e=>e▸h⟩
 ·simp
theorem cv7 {j:Str}:∀ (ks l:List Str),j∈ks.foldl au7 l↔j∈l\/j∈ks:=by
 intro ks
 induction ks with
 | nil=>intro l; simp
 | cons k ks ih=>intro l; rw[List.foldl_cons,ih,fn2,List.mem_cons,or_assoc]
theorem fn3 {l:List Str}(h:l.Nodup)(k:Str):(au7 l k).Nodup:=by
 unfold au7;split
 ·exact h
 ·rename_i hk;rw[List.nodup_append];exact ⟨h,by simp,fun a ha b hb e=>by simp at hb; subst hb; subst e; exact hk ha⟩
theorem bv6:∀ (ks:List Str) {l:List Str},l.Nodup->(ks.foldl au7 l).Nodup
 | [],_,h=>h
 | k::ks,_,h=>bv6 ks (fn3 h k)
theorem gw2 (p:aa3):(cv6 p).Nodup:=bv6 _ (bv6 _ (by simp))
theorem gw3 (p:aa3)(j:Str):j∈cv6 p↔j=p.name\/(∃ d∈p.provides,d.name=j)\/j∈p.files:=by
 unfold cv6;rw[cv7,cv7];simp[or_assoc]
structure ek5 (x:Index) (l:List aa3):Prop where
 all:x.all=l
 kp:KN x.av9
 kn:KN x.names
 ko:KN x.over
 av9:∀ j,ad3 x.av9 j=numsOf (fun p=>decide (j∈cv6 p)) l
 names:∀ j,ad3 x.names j=numsOf (fun p=>decide (p.name=j)) l
 over:∀ j,ad3 x.over j=numsOf (fun p=>decide (∃ d∈p.aa9,d.name=j)) l
theorem ek5.add {x:Index}{l:List aa3}(h:ek5 x l)(p:aa3):ek5 (ea2 x l.length p) (l++[p]) where
 all:=by show x.all++[p]=_; rw[h.all]
 kp:=dz9 h.kp
 kn:=am5 h.kn
 ko:=fn1 _ h.ko
 av9:=fun j=>by
  show ad3 (bb8 x.av9 (cv6 p) _) j=_;rw[ek4 _ h.kp (gw2 p),h.av9,bv5];simp
 names:=fun j=>by
  show ad3 (aq7 x.names p.name _) j=_;rw[bh3 h.kn,h.names,h.names,bv5];by_cases e:j=p.name
  ·subst e; simp
  ·have e':¬ p.name=j:=fun h=>e h.symm
   simp[e,e']
 over:=fun j=>by
  show ad3 (au3 x.over _ _) j=_;rw[ea4 _ h.ko,h.over,bv5]
  have hn:(l.length:Int) ∉ numsOf (fun p=>decide (∃ d∈p.aa9,d.name=j)) l:=fun hm=>by
   obtain ⟨m,e,h1,_⟩:=bb1.1 hm;omega
  simp[hn]
theorem fn4:∀ (ps:List aa3) {x:Index} {l:List aa3},ek5 x l->ek5 (idxFrom x l.length ps) (l++ps):=by
 intro ps
 induction ps with
 | nil=>intro x l h; rw[List.append_nil]; exact h
 | cons p ps ih=>
  intro x l h;have:=ih (h.add p);rw[List.append_assoc] at this
  simpa [idxFrom] using this
theorem bi8 (l:List aa3):ek5 (ah8 l) l:=by
 have h0:ek5 ⟨[],[],[],[]⟩ []:=⟨rfl,List.nodup_nil,List.nodup_nil,List.nodup_nil,fun _=>by simp[ad3,numsOf],fun _=>by simp[ad3,numsOf],fun _=>by simp[ad3,numsOf]⟩;exact fn4 l h0
theorem ea5 {p:aa3}{d:Dep}(h:named p d=true):p.name=d.name:=by
 unfold named meets own at h;simp only[Bool.and_eq_true,decide_eq_true_eq] at h;exact h.1
theorem ea6 {p:aa3}{d:Dep}(h:provides p d=true):d.name∈cv6 p:=by
 unfold provides at h;rw[gw3];simp only[Bool.or_eq_true,Bool.and_eq_true,decide_eq_true_eq,List.any_eq_true] at h;rcases h with (h|⟨a,ha,h⟩)|⟨_,h⟩
 ·exact .inl (ea5 h).symm
 ·unfold meets at h;simp only[Bool.and_eq_true,decide_eq_true_eq] at h;exact .inr (.inl ⟨a,ha,h.1⟩)
 ·exact .inr (.inr (by simpa using h))
def al9 (l:List aa3)(d:Dep):List Int:=numsOf (fun p=>provides p d) l
def an9 (l:List aa3)(d:Dep):List Int:=numsOf (fun p=>named p d) l
theorem ea7 (l:List aa3)(d:Dep):(ad3 (ah8 l).av9 d.name).filter (fun n=>provides (l.getD n.toNat default) d)=al9 l d:=by
 rw[(bi8 l).av9];refine (bz2 (fun p=>decide (d.name∈cv6 p)) (fun p=>provides p d) l).trans ?_
 exact cm6 fun p _=>by
  cases h:provides p d with
  | false=>simp
  | true=>simp[ea6 h]
theorem et3 (l:List aa3)(d:Dep):(ad3 (ah8 l).names d.name).filter (fun n=>named (l.getD n.toNat default) d)=an9 l d:=by
 rw[(bi8 l).names];refine (bz2 (fun p=>decide (p.name=d.name)) (fun p=>named p d) l).trans ?_
 exact cm6 fun p _=>by
  cases h:named p d with
  | false=>simp
  | true=>simp[ea5 h]
end Go.Id.Md
set_option linter.all false
namespace Go.Id.Md
open Go Go.Id
mutual
def aa8.ok:aa8->Prop
 | .mk k d xs=>0<=k/\k<256/\d.fit/\xs.length<2^62/\aa8.oks xs
def aa8.oks:List aa8->Prop
 | []=>True
 | r::rs=>r.ok/\aa8.oks rs
end
theorem aa8.ie4 (l:List aa8):aa8.oks l↔∀ r∈l,r.ok:=by
 induction l with
 | nil=>simp[aa8.oks]
 | cons r rs ih=>simp[aa8.oks,ih]
theorem aa8.fn5 {k:Int}{d:Dep}{xs:List aa8}:(aa8.mk k d xs).ok↔0<=k/\k<256/\d.fit/\xs.length<2^62/\∀ r∈xs,r.ok:=by
 simp only[aa8.ok,aa8.ie4]
structure aa3.Ok (p:aa3):Prop where
 name:p.name.length<2^62
 vendor:p.vendor.length<2^62
 evr:p.evr.fit
 av9:p.provides.length<2^62/\∀ d∈p.provides,d.fit
 obs:p.aa9.length<2^62/\∀ d∈p.aa9,d.fit
 files:p.files.length<2^62/\∀ s∈p.files,s.length<2^62
 rich:∀ x∈p.rows,x.2.length<2^62/\∀ r∈x.2,r.ok
def al7.Ok (r:al7):Prop:=r.packages.length<2^62/\∀ p∈r.packages,p.Ok
def big (d:Dep):Bool:=decide (500<d.name.length+d.evr.ver.length)||decide (500<d.evr.rel.length)
mutual
def bz3:aa8->Nat->Nat×Bool
 | .mk _ _ xs,deep=>if 20<deep\/100<xs.length then (0,true) else co3 xs deep 0
def co3:List aa8->Nat->Nat->Nat×Bool
 | [],_,n=>(n,false)
 | r::rs,deep,n=>if big r.dep=true then (0,true) else
  if (bz3 r (deep+1)).2=true\/2000<n+1+(bz3 r (deep+1)).1 then (0,true) else co3 rs deep (n+1+(bz3 r (deep+1)).1)
end
def co4 (l:List aa8)(deep:Nat):Nat×Bool:=if 20<deep\/100<l.length then (0,true) else co3 l deep 0
theorem dk6 (r:aa8)(deep:Nat):bz3 r deep=co4 r.args deep:=by
 cases r; simp only[bz3,co4,aa8.args]; rfl
def bz4:List (List aa8)->Nat->Bool
 | [],_=>false
 | l::ls,n=>if (co4 l 0).2=true\/2000<n+(co4 l 0).1 then true else bz4 ls (n+(co4 l 0).1)
def bn7 (p:aa3):List (List aa8):=[p.requires,p.conflicts,p.ac3,p.ac2,p.suggests,p.ad6]
def au8 (p:aa3):Bool :=
 decide (100<p.provides.length)||(decide (100<p.aa9.length)||(decide (100<p.files.length)||(decide (1000<p.name.length)||(decide (1000<p.vendor.length)||(decide (1000<p.evr.ver.length)||(decide (1000<p.evr.rel.length)||bz4 (bn7 p) 0))))))
theorem gw4:∀ (l:List aa8) (deep n:Nat),n<=2000->(co3 l deep n).1<=2000:=by
 intro l
 induction l with
 | nil=>intro deep n h; simpa [co3] using h
 | cons r rs ih=>
  intro deep n h;simp only[co3];split
  ·omega
  split
  ·omega
  ·exact ih _ _ (by omega)
theorem et4 (l:List aa8)(deep:Nat):(co4 l deep).1<=2000:=by
 unfold co4;split
 ·omega
 ·exact gw4 _ _ _ (by omega)
def bb9:Nat->List al7->List bd9
 | _,[]=>[]
 | i,r::rs=>rowsOf r.packages i r.priority++bb9 (i+1) rs
theorem da7:∀ (rs:List al7) (i:Nat) (st:List bd9×Nms) (out:List bd9×Nms),af9 i rs st=some out->out.1=st.1++bb9 i rs:=by
 intro rs
 induction rs with
 | nil=>intro i st out h; simp only[af9,Option.some.injEq] at h; subst h; simp[bb9]
 | cons r rs ih=>
  intro i st out h;simp only[af9] at h;split at h
  ·cases h
  ·rw[ih _ _ _ h]; simp[bb9]
theorem cp8 {repos:List al7}{inst:List aa3}{p:Pool}(h:bt2 repos inst=.inl p):p.rows=rowsOf inst (-1) 1025++bb9 0 repos/\p.inst=inst.length:=by
 unfold bt2 at h;split at h
 ·cases h
 split at h
 ·cases h
 split at h
 ·rename_i rows nm hr;cases h;exact ⟨da7 _ _ _ _ hr,rfl⟩
 ·cases h
theorem gw5 {repos:List al7}{inst:List aa3}{e:Int}(h:bt2 repos inst=.inr e):e=40\/e=4:=by
 unfold bt2 at h;split at h
 ·cases h; exact .inl rfl
 split at h
 ·cases h; exact .inr rfl
 split at h
 ·cases h
 ·cases h; exact .inr rfl
end Go.Id.Md
/- Pools of packages that may be: sizes. Conditions: none; no program in sight. -/
namespace Go.Id.Md
open Go Go.Id
theorem dq8:∀ (rs:List al7) (i:Nat) (st:List bd9×Nms) (out:List bd9×Nms),af9 i rs st=some out->∀ r∈rs,r.packages.all ag2=true:=by
 intro rs
 induction rs with
 | nil=>intro i st out _ r hr; cases hr
 | cons x xs ih=>
  intro i st out h r hr;simp only[af9] at h;split at h
  ·cases h
  ·rename_i hc;rcases List.mem_cons.1 hr with rfl|hr
   ·cases hb:r.packages.all ag2 with
    | true=>rfl
    | false=>exact absurd (.inr (.inr hb)) hc
   ·exact ih _ _ _ h r hr
theorem ck4 {repos:List al7}{inst:List aa3}{p:Pool}(h:bt2 repos inst=.inl p):repos.length<=16/\inst.length+ak7 repos<=256/\inst.all ag2=true/\∀ r∈repos,r.packages.all ag2=true:=by
 unfold bt2 at h;split at h
 ·cases h
 rename_i hc;split at h
 ·cases h
 rename_i hm;split at h
 ·rename_i rows nm hr;exact ⟨by omega,by omega,by simpa using hm,dq8 _ _ _ _ hr⟩
 ·cases h
theorem dk7 (l:List aa3)(a b:Int):(rowsOf l a b).map (·.pkg)=l:=by
 induction l with
 | nil=>rfl
 | cons x xs ih=>show x::(rowsOf xs a b).map (·.pkg)=_; rw[ih]
def ae3 (p:Pool):List aa3:=p.rows.map (·.pkg)
theorem dq9:∀ (rs:List al7) (i:Nat),(bb9 i rs).map (·.pkg)=rs.flatMap (·.packages):=by
 intro rs
 induction rs with
 | nil=>intro i; rfl
 | cons r rs ih=>intro i; simp only[bb9,List.map_append,ih,dk7,List.flatMap_cons]
theorem gd3:∀ (rs:List al7),(rs.flatMap (·.packages)).length=ak7 rs:=by
 intro rs
 induction rs with
 | nil=>rfl
 | cons r rs ih=>simp only[List.flatMap_cons,List.length_append,ih]; rfl
theorem cv8 {repos:List al7}{inst:List aa3}{p:Pool}(h:bt2 repos inst=.inl p):ae3 p=inst++repos.flatMap (·.packages):=by
 unfold ae3;rw[(cp8 h).1,List.map_append,dq9];congr 1;exact dk7 _ _ _
theorem et5 {repos:List al7}{inst:List aa3}{p:Pool}(h:bt2 repos inst=.inl p):p.rows.length<=256:=by
 have e:p.rows.length=(ae3 p).length:=by simp[ae3]
 rw[e,cv8 h,List.length_append,gd3];exact (ck4 h).2.1
theorem et6 {repos:List al7}{inst:List aa3}{p:Pool}(h:bt2 repos inst=.inl p):∀ x∈ae3 p,ag2 x=true/\(x∈inst\/∃ r∈repos,x∈r.packages):=by
 intro x hx;rw[cv8 h] at hx;obtain ⟨_,_,h1,h2⟩:=ck4 h;rcases List.mem_append.1 hx with hx|hx
 ·exact ⟨List.all_eq_true.1 h1 x hx,.inl hx⟩
 ·obtain ⟨r,hr,hxr⟩:=List.mem_flatMap.1 hx;exact ⟨List.all_eq_true.1 (h2 r hr) x hxr,.inr ⟨r,hr,hxr⟩⟩
def EVR.tiny (e:EVR):Prop:=e.ver.length<=64/\e.rel.length<=64
theorem et7 {s:Str}(h:ay7 s=true):s.length<=64:=by
 unfold ay7 at h;simp only[Bool.and_eq_true,decide_eq_true_eq] at h;exact h.1.2
theorem et8 {e:EVR}{b:Bool}(h:bd7 e b=true):e.tiny:=by
 unfold bd7 at h;simp only[Bool.and_eq_true,Bool.or_eq_true,decide_eq_true_eq] at h;refine ⟨et7 h.1.2,?_⟩;rcases h.2 with h|h
 ·exact et7 h
 ·have:=List.isEmpty_iff.1 h.2; rw[this]; exact Nat.zero_le _
theorem dr1 {d:Dep}(h:ah9 d=true):0<=d.op/\d.op<256/\d.evr.tiny/\d.name.length<=64:=by
 unfold ah9 at h;simp only[Bool.and_eq_true] at h;obtain ⟨⟨h1,h2⟩,h3⟩:=h
 have hn:d.name.length<=64:=by
  unfold ar3 at h1;simp only[Bool.and_eq_true,decide_eq_true_eq] at h1;exact h1.1.1.2
 have ho:0<=d.op/\d.op<256:=by
  unfold dq3 at h2;simp only[List.contains_iff_mem,List.mem_cons,List.not_mem_nil,or_false] at h2;omega
 refine ⟨ho.1,ho.2,?_,hn⟩;split at h3
 ·have:d.evr=fs3:=by simpa using h3
  rw[this]; exact ⟨by decide,by decide⟩
 ·simp only[Bool.and_eq_true] at h3;exact et8 h3.2
structure aa3.Tiny (p:aa3):Prop where
 name:p.name.length<=64
 evr:p.evr.tiny
 av9:p.provides.length<=32/\∀ d∈p.provides,0<=d.op/\d.op<256/\d.evr.tiny/\d.name.length<=64
 obs:p.aa9.length<=32/\∀ d∈p.aa9,0<=d.op/\d.op<256/\d.evr.tiny/\d.name.length<=64
 files:p.files.length<=32
theorem et9 {p:aa3}(h:ag2 p=true):p.Tiny:=by
 unfold ag2 at h;simp only[Bool.and_eq_true,decide_eq_true_eq] at h;obtain ⟨⟨⟨⟨⟨⟨⟨⟨⟨⟨⟨⟨⟨⟨h1,_⟩,h3⟩,_⟩,_⟩,h6,h6'⟩,h7,h7'⟩,h8,_⟩,_⟩,_⟩,_⟩,_⟩,_⟩,_⟩,_⟩:=h;refine ⟨?_,et8 h3,⟨h6,fun d hd=>dr1 (List.all_eq_true.1 h6' d hd)⟩,⟨h7,fun d hd=>dr1 (List.all_eq_true.1 h7' d hd)⟩,h8⟩;unfold ar3 at h1;simp only[Bool.and_eq_true,decide_eq_true_eq] at h1;exact h1.1.1.2
end Go.Id.Md
set_option linter.all false
namespace Go.Id.Md
open Go Go.Id
structure Job where
 kind:Int
 dep:Dep
 deriving DecidableEq,Inhabited
structure bc1 where
 kind:Int
 n:Int
 deriving DecidableEq,Inhabited
structure Req where
 au2:Int
 vendor:Bool
 ai4:List Job
 ai5:List bc1
 budget:Int
def Job.cs (j:Job):List IV:=[.int .u8 j.kind,.str j.dep.name,.int .u8 j.dep.op,.int .i64 j.dep.evr.am9,.str j.dep.evr.ver,.str j.dep.evr.rel]
def bc1.cs (e:bc1):List IV:=[.int .u8 e.kind,.int .i64 e.n]
abbrev bi9 (l:List Job):IV:=.aa5 (l.map Job.cs)
abbrev au9 (l:List bc1):IV:=.aa5 (l.map bc1.cs)
def Req.cs (r:Req):List IV:=[.int .u8 r.au2,.bool r.vendor,bi9 r.ai4,au9 r.ai5,.int .i64 r.budget]
def bj1 (q:Nat->Bool)(k:Nat):List Int:=((List.range k).filter q).map fun (n:Nat)=>(n:Int)
theorem fn6 (q:Nat->Bool)(k:Nat):bj1 q (k+1)=bj1 q k++if q k then [(k:Int)] else []:=by
 unfold bj1;rw[List.range_succ,List.filter_append,List.map_append];congr 1;simp only[List.filter_cons,List.filter_nil];split<;>rfl
theorem bz5 {q:Nat->Bool}{k:Nat}{n:Int}:n∈bj1 q k↔∃ m:Nat,n=m/\m<k/\q m=true:=by
 unfold bj1;rw[List.mem_map];constructor
 ·rintro ⟨m,hm,rfl⟩;obtain ⟨h1,h2⟩:=List.mem_filter.1 hm;exact ⟨m,rfl,List.mem_range.1 h1,h2⟩
 ·rintro ⟨m,rfl,h1,h2⟩;exact ⟨m,List.mem_filter.2 ⟨List.mem_range.2 h1,h2⟩,rfl⟩
theorem cv9 (q:Nat->Bool)(k:Nat):(bj1 q k).length<=k:=by
 unfold bj1;rw[List.length_map];exact Nat.le_trans (List.length_filter_le _ _) (by simp)
theorem gw6 (q:Nat->Bool)(k:Nat):(bj1 q k).Pairwise (· < ·):=by
 unfold bj1;refine List.Pairwise.map (R:=fun (a b:Nat)=>a<b) _ (fun a b h=>by show (a:Int)<b; omega) ?_;exact List.Pairwise.filter _ List.pairwise_lt_range
def bv7 (a:Int):Bool:=an8 a&&!decide (a=1)
def ea8 (a b:Int):Bool:=bv7 a&&bv7 b&&!decide (a=b)
def cp9 (a b:Int):Bool:=an8 a&&an8 b&&!ea8 a b
def cw1 (m a:Int):Int :=
 if m=2 then (if a=1 then 2 else if a=2 then 1 else if a=3 then 3 else 0) else
 if m=3 then (if a=1 then 2 else if a=3 then 1 else 0) else
 if m=4 then (if a=1 then 2 else if a=4 then 1 else 0) else 0
def iu4 (m a:Int):Bool:=decide (0<cw1 m a)
structure ac5 where
 p:Pool
 r:Req
namespace ac5
variable (a:ac5)
def l:List aa3:=ae3 a.p
def pk (n:Int):aa3:=a.l.getD n.toNat default
def jb (n:Int):Job:=a.r.ai4.getD n.toNat default
def is (n:Int):Bool:=decide (0<=n)&&decide (n<a.l.length)
def inst (n:Int):Bool:=a.is n&&decide (n<a.p.inst)
def job (n:Int):Bool:=decide (0<=n)&&decide (n<a.r.ai4.length)
def fits (n:Int):Bool:=a.is n&&iu4 a.r.au2 (a.pk n).au2
def ho9 (p q:aa3):Bool:=decide (p.name=q.name)&&!(ea8 p.au2 q.au2&&decide (av8 p.evr q.evr=0))
def twins (n m:Int):Bool:=a.is n&&a.is m&&!decide (n=m)&&ho9 (a.pk n) (a.pk m)
def bz6 (k n:Int):Bool:=decide ((⟨k,n⟩:bc1)∈a.r.ai5)
def dropped (n:Int):Bool:=a.job n&&a.bz6 1 n
def bv8 (k n:Int):Bool:=(List.range a.r.ai4.length).any fun i=>decide ((a.jb i).kind=k)&&!a.dropped i&&decide (n∈an9 a.l (a.jb i).dep)
def goes (i:Int):Bool:=a.inst i&&(a.bv8 2 i||a.bz6 2 i)
def ea9 (vendor down other:Bool)(old q:aa3):Bool:=decide (q.name=old.name)&&(down||decide (0<=av8 q.evr old.evr))&&(other||cp9 q.au2 old.au2)&&(vendor||decide (q.vendor=old.vendor))
def jk4 (i:Int)(q:aa3):Bool:=ea9 a.r.vendor (a.bz6 3 i||a.bv8 4 i) (a.bz6 4 i) (a.pk i) q
def ay8 (i:Int):List Int:=if a.inst i then bj1 (fun n=>decide ((n:Int)=i)||a.jk4 i (a.pk n)||(!decide ((n:Int)=i)&&aa9 (a.pk n) (a.pk i))) a.l.length else []
def dk8 (i:Int):List Int:=(a.ay8 i).filter fun n=>!(a.inst n || !a.fits n)
def meant (j:Int):List Int:=if a.job j then (if (a.jb j).kind=1 then al9 a.l (a.jb j).dep else if (a.jb j).kind=2 then an9 a.l (a.jb j).dep else (an9 a.l (a.jb j).dep).filter fun n=>a.inst n) else []
def some (state l:List Int):Bool:=l.any fun n=>decide (n∈state)
def bj2 (j:Int)(state:List Int):Bool:=!a.job j ||
 if (a.jb j).kind=1 then some state (a.meant j) else if (a.jb j).kind=2 then !some state (a.meant j) else
 if (a.jb j).kind=3 then !(a.meant j).any fun i=>!some state (a.ay8 i) else
 !(a.meant j).any fun i=>decide (0<(a.dk8 i).length)&&!some state (a.dk8 i)
def cs:List IV:=[a.p.v,(ah8 a.l).v,.int .u8 a.r.au2,.bool a.r.vendor,bi9 a.r.ai4,au9 a.r.ai5,.int .i64 a.r.budget,.aa5 (a.l.map aa3.cs)]
def v:IV:=.ab8 a.cs
end ac5
def au4 (e:bc1)(ai4 inst:Int):Bool:=decide (1<=e.kind)&&decide (e.kind<=4)&&decide (0<=e.n)&&decide (e.n<if e.kind=1 then ai4 else inst)
def ay9 (j:Job):Bool:=decide (1<=j.kind)&&decide (j.kind<=4)&&ah9 j.dep
def ak8 (r:Req)(inst:Int):Int :=
 if bv7 r.au2=false\/r.budget<0\/1099511627776<r.budget then 1 else
 if 64<r.ai4.length\/64<r.ai5.length then 40 else
 if r.ai4.all ay9=false then 4 else
 if r.ai5.all (fun e=>au4 e r.ai4.length inst)=false then 5 else 0
def im9 (p:Pool)(r:Req):IV:=if ak8 r p.inst=0 then .tuple [(ac5.mk p r).v,.int .i64 0] else .tuple [.ab6,.int .i64 (ak8 r p.inst)]
theorem cq1 (a b:Int):ay2 b a=- ay2 a b:=by
 unfold ay2; split<;>split<;>(try split)<;>(try split)<;>omega
theorem eb1 {a b:Int}:ay2 a b=0↔a=b:=by
 unfold ay2;split
 ·constructor
  ·intro h; omega
  ·intro h; omega
 ·split
  ·simp_all
  ·constructor
   ·intro h; omega
   ·intro h; contradiction
theorem cq2:∀ (x y:List UInt8),Op.bytesLess x y=decide (x<y)
 | [],[]=>by simp[Op.bytesLess]
 | _::_,[]=>by simp[Op.bytesLess]
 | [],_::_=>by simp[Op.bytesLess]
 | a::x,b::y=>by
  simp only[Op.bytesLess,cq2 x y,List.cons_lt_cons_iff];by_cases h:a<b
  ·simp[h]
  ·by_cases h2:a=b
   ·subst h2; simp
   ·simp[h,h2]
theorem iu5 (a b:Str):Op.bytesLess a b=true/\Op.bytesLess b a=false/\a≠b\/a=b/\Op.bytesLess a b=false\/Op.bytesLess b a=true/\Op.bytesLess a b=false/\a≠b:=by
 simp only[cq2,decide_eq_true_eq,decide_eq_false_iff_not];rcases Decidable.em (a<b) with h|h
 ·exact .inl ⟨h,fun h2=>List.lt_asymm h h2,fun e=>List.lt_irrefl a (by rw[<- e] at h; exact h)⟩
 ·rcases Decidable.em (b<a) with h2|h2
  ·exact .inr (.inr ⟨h2,h,fun e=>List.lt_irrefl a (by rw[<- e] at h2; exact h2)⟩)
  ·exact .inr (.inl ⟨List.le_antisymm (List.not_lt.1 h2) (List.not_lt.1 h),h⟩)
theorem eu1 (a b:Str):cu4 b a=- cu4 a b:=by
 unfold cu4;rcases iu5 a b with ⟨h1,h2,h3⟩|⟨rfl,h⟩|⟨h1,h2,h3⟩
 ·rw[h1,h2,if_neg (by simp),if_neg (fun e=>h3 e.symm),if_pos rfl]; rfl
 ·rw[h]; simp
 ·rw[h1,h2,if_pos rfl,if_neg (by simp),if_neg h3]
theorem ek6 (a b:Part):ag8 b a=- ag8 a b:=by
 unfold ag8;simp only[cq1 (a.kind:Int) b.kind,cq1 (a.s.length:Int) b.s.length,eu1 a.s b.s];have e:(b.kind=5/\a.kind=5)↔(a.kind=5/\b.kind=5):=And.comm;by_cases h1:ay2 (a.kind:Int) b.kind=0
 ·simp only[h1,Int.neg_zero,ne_eq,not_true_eq_false,if_false,e];by_cases h2:a.kind=5/\b.kind=5
  ·simp only[h2,and_self,if_true];by_cases h3:ay2 (a.s.length:Int) b.s.length=0
   ·simp[h3]
   ·have h4:¬ - ay2 (a.s.length:Int) b.s.length=0:=by omega
    simp[h3,h4]
  ·simp[h2]
 ·have h2:¬ - ay2 (a.kind:Int) b.kind=0:=by omega
  simp[h1,h2]
theorem eb2:∀ (a b:List Part),ah1 b a=- ah1 a b:=by
 intro a
 induction a with
 | nil=>intro b; cases b<;>rfl
 | cons x a ih=>
  intro b
  cases b with
  | nil=>rfl
  | cons y b=>
   simp only[ah1,ek6 x y];by_cases h:ag8 x y=0
   ·simp[h,ih b]
   ·have h2:¬ - ag8 x y=0:=by omega
    simp[h,h2]
theorem ck5 (a b:Str):ar4 b a=- ar4 a b:=eb2 _ _
theorem fn8 (a b:EVR):av8 b a=- av8 a b:=by
 unfold av8;rw[cq1 a.am9 b.am9,ck5 a.ver b.ver,ck5 a.rel b.rel];by_cases h1:ay2 a.am9 b.am9=0
 ·by_cases h2:ar4 a.ver b.ver=0
  ·simp only[h1,h2,Int.neg_zero,ne_eq,not_true_eq_false,if_false];by_cases h3:a.rel=[]\/b.rel=[]
   ·rw[if_pos h3,if_pos h3.symm]; rfl
   ·rw[if_neg h3,if_neg (fun h=>h3 h.symm)]
  ·have h3:¬ - ar4 a.ver b.ver=0:=by omega
   simp[h1,h2,h3]
 ·have h3:¬ - ay2 a.am9 b.am9=0:=by omega
  simp[h1,h3]
namespace ac5
variable (a:ac5)
theorem iu6 (n:Nat):a.is n=decide (n<a.l.length):=by
 unfold is;have:(0:Int)<=n:=by omega
 simp only[this,decide_true,Bool.true_and];exact decide_eq_decide.2 (by omega)
theorem bz7 (i:Int):(a.ay8 i).length<=a.l.length:=by
 unfold ay8;split
 ·exact cv9 _ _
 ·exact Nat.zero_le _
theorem dr2 {i n:Int}(h:n∈a.ay8 i):a.inst i=true/\∃ m:Nat,n=m/\m<a.l.length:=by
 unfold ay8 at h;split at h
 ·rename_i hi;obtain ⟨m,e,h1,_⟩:=bz5.1 h;exact ⟨hi,m,e,h1⟩
 ·cases h
theorem gw7 {i n:Int}(h:n∈a.dk8 i):n∈a.ay8 i/\a.inst n=false/\a.fits n=true:=by
 obtain ⟨h1,h2⟩:=List.mem_filter.1 h;cases h3:a.inst n<;>cases h4:a.fits n<;>simp_all
theorem gw8 (i:Int):(a.dk8 i).length<=a.l.length:=Nat.le_trans (List.length_filter_le _ _) (a.bz7 i)
theorem bz8 {s t l:List Int}(h:∀ n∈l,n∈s↔n∈t):some s l=some t l:=by
 unfold some;refine Bool.eq_iff_iff.2 ?_;simp only[List.any_eq_true,decide_eq_true_eq];exact ⟨fun ⟨n,h1,h2⟩=>⟨n,h1,(h n h1).1 h2⟩,fun ⟨n,h1,h2⟩=>⟨n,h1,(h n h1).2 h2⟩⟩
end ac5
end Go.Id.Md
set_option linter.all false
namespace Go.Id.Md
open Go Go.Id
namespace ac5
variable (a:ac5)
theorem gw9 {j n:Int}(h:n∈a.meant j):∃ m:Nat,n=m/\m<a.l.length:=by
 have hn:∀ {q:aa3->Bool} {n:Int},n∈numsOf q a.l->∃ m:Nat,n=m/\m<a.l.length:=fun h=>let ⟨m,e,h1,_⟩:=bb1.1 h; ⟨m,e,h1⟩
 unfold meant at h;split at h
 ·split at h
  ·exact hn h
  ·split at h
   ·exact hn h
   ·exact hn (List.mem_filter.1 h).1
 ·cases h
theorem eb3 {j:Int}{s t:List Int}(h:∀ n,0<=n->(n∈s↔n∈t)):a.bj2 j s=a.bj2 j t:=by
 have hm:some s (a.meant j)=some t (a.meant j):=bz8 fun n hn=>h n (by obtain ⟨m,e,_⟩:=a.gw9 hn; omega)
 have hs:∀ i,some s (a.ay8 i)=some t (a.ay8 i):=fun i=>bz8 fun n hn=>h n (by obtain ⟨_,m,e,_⟩:=a.dr2 hn; omega)
 have hw:∀ i,some s (a.dk8 i)=some t (a.dk8 i):=fun i=>bz8 fun n hn=>h n (by obtain ⟨_,m,e,_⟩:=a.dr2 (a.gw7 hn).1; omega)
 unfold bj2;rw[hm];simp only[hs,hw]
variable (x:bc1)
variable {x} (hx:x.kind≠1)
include hx
end ac5
end Go.Id.Md
set_option linter.all false
namespace Go.Id.Md
open Go Go.Id
structure WO {α:Type} (S:α->Prop) (f:α->α->Int):Prop where
 neg:∀ a b,f b a=- f a b
 tr:∀ a b c,S a->S b->S c->f a b<=0->f b c<=0->f a c<=0
def lex (x y:Int):Int:=if x=0 then y else x
theorem ie5 (x y:Int):lex (-x) (-y)=- lex x y:=by unfold lex; split<;>split<;>omega
theorem WO.lex {α:Type}{S:α->Prop}{f g:α->α->Int}(hf:WO S f)(hg:WO S g):WO S fun a b=>Md.lex (f a b) (g a b) where
 neg:=fun a b=>by show Md.lex (f b a) (g b a)=_; rw[hf.neg,hg.neg,ie5]
 tr:=fun a b c sa sb sc h1 h2=>by
  have k1:=hf.tr a b c sa sb sc;have k2:=hf.tr c a b sc sa sb;have k3:=hf.tr b c a sb sc sa;have k4:=hg.tr a b c sa sb sc;have n1:=hf.neg a b;have n2:=hf.neg b c;have n3:=hf.neg a c;unfold Md.lex at *;split at h1<;>split at h2<;>split<;>omega
theorem WO.of {α β:Type}{S:β->Prop}{f:β->β->Int}(hf:WO S f)(g:α->β):WO (fun a=>S (g a)) fun a b=>f (g a) (g b) where
 neg:=fun a b=>hf.neg _ _
 tr:=fun a b c sa sb sc=>hf.tr _ _ _ sa sb sc
theorem WO.flip {α:Type}{S:α->Prop}{f:α->α->Int}(hf:WO S f):WO S fun a b=>f b a where
 neg:=fun a b=>hf.neg b a
 tr:=fun a b c sa sb sc h1 h2=>hf.tr c b a sc sb sa h2 h1
theorem WO.sub {α:Type}{S T:α->Prop}{f:α->α->Int}(hf:WO S f)(h:∀ a,T a->S a):WO T f:=⟨hf.neg,fun a b c sa sb sc=>hf.tr a b c (h a sa) (h b sb) (h c sc)⟩
theorem eu2:WO (fun _=>True) ay2 where
 neg:=fun a b=>cq1 a b
 tr:=fun a b c _ _ _ h1 h2=>by
  unfold ay2 at *;split at h1<;>split at h2<;>split<;>(try split at h1)<;>(try split at h2)<;>(try split)<;>omega
theorem ek8 {a b:Str}:cu4 a b<=0↔a<=b:=by
 unfold cu4;rcases iu5 a b with ⟨h1,h2,h3⟩|⟨rfl,h⟩|⟨h1,h2,h3⟩
 ·rw[h1,if_pos rfl];rw[cq2,decide_eq_true_eq] at h1;exact ⟨fun _=>List.le_of_lt h1,fun _=>by decide⟩
 ·rw[h]; simp[List.le_refl]
 ·rw[h2,if_neg (by simp),if_neg h3];rw[cq2,decide_eq_true_eq] at h1;exact ⟨fun h=>absurd h (by decide),fun h=>absurd h1 (List.not_lt.2 h)⟩
theorem iv1:WO (fun _=>True) cu4 where
 neg:=fun a b=>eu1 a b
 tr:=fun a b c _ _ _ h1 h2=>ek8.2 (List.le_trans (ek8.1 h1) (ek8.1 h2))
def cq4 (a b:Part):Int:=lex (ay2 a.kind b.kind) (lex (ay2 (if a.kind=5 then (a.s.length:Int) else 0) (if b.kind=5 then (b.s.length:Int) else 0)) (cu4 a.s b.s))
theorem dk9 (a b:Part):ag8 a b=cq4 a b:=by
 unfold ag8 cq4 lex;by_cases h:ay2 (a.kind:Int) b.kind=0
 ·have e:=eb1.1 h;have e':a.kind=b.kind:=by omega
  simp only[h,ne_eq,not_true_eq_false,if_false,if_true,e'];by_cases k5:b.kind=5
  ·simp only[k5,and_self,if_true]; split<;>simp_all
  ·have z:ay2 0 0=0:=by decide
   simp[k5,z]
 ·simp[h]
theorem ck6:WO (fun _=>True) ag8:=by
 have h:ag8=cq4:=by funext a b; exact dk9 a b
 rw[h];exact (eu2.of (fun a:Part=>(a.kind:Int))).lex ((eu2.of (fun a:Part=>if a.kind=5 then (a.s.length:Int) else 0)).lex (iv1.of Part.s))
theorem cw2 {a b:Part}(h:ag8 a b=0):a.kind=b.kind:=by
 rw[dk9] at h;unfold cq4 lex at h;split at h
 ·rename_i e; have:=eb1.1 e; omega
 ·contradiction
abbrev gd5:Part:=⟨2,[]⟩
theorem ax7 (x y:Part)(a b:List Part):ah1 (x::a) (y::b)=lex (ag8 x y) (ah1 a b):=by
 show (if ag8 x y≠0 then ag8 x y else ah1 a b)=_;unfold lex; split<;>simp_all
theorem bh4 (a:List Part):ah1 [] a=0:=by cases a<;>rfl
theorem bs7 (a:List Part):ah1 a []=0:=by cases a<;>rfl
theorem gx4:∀ (a b c:List Part),(∀ x∈a,x.kind≠2)->(∀ x∈b,x.kind≠2)->(∀ x∈c,x.kind≠2) ->
  ah1 (a++[gd5]) (b++[gd5])<=0->ah1 (b++[gd5]) (c++[gd5])<=0->ah1 (a++[gd5]) (c++[gd5])<=0:=by
 have hd:∀ (x y z:Part) (r s t:Int),lex (ag8 x y) r<=0->lex (ag8 y z) s<=0->(ag8 x y=0->ag8 y z=0->r<=0->s<=0->t<=0)->lex (ag8 x z) t<=0:=fun x y z r s t h1 h2 h3=>by
  have k1:=ck6.tr x y z trivial trivial trivial;have k2:=ck6.tr z x y trivial trivial trivial;have k3:=ck6.tr y z x trivial trivial trivial;have n1:=ck6.neg x y;have n2:=ck6.neg y z;have n3:=ck6.neg x z;unfold lex at *;split at h1<;>split at h2<;>split<;>first|omega|exact h3 (by assumption) (by assumption) h1 h2
 intro a
 induction a with
 | nil=>
  intro b c _ hb hc h1 h2
  cases b with
  | nil=>exact h2
  | cons y b=>
   cases c with
   | nil=>simp only[List.nil_append,ax7,bh4]; decide
   | cons z c=>
    simp only[List.nil_append,List.cons_append,ax7,bh4] at *;refine hd _ y z _ _ _ h1 h2 fun e _ _ _=>?_
    exact absurd (cw2 e).symm (hb y List.mem_cons_self)
 | cons x a ih=>
  intro b c ha hb hc h1 h2
  cases b with
  | nil=>
   simp only[List.nil_append,List.cons_append,ax7,bh4,bs7] at h1
   cases c with
   | nil=>simp only[List.nil_append,List.cons_append,ax7,bh4,bs7]; exact h1
   | cons z c=>
    simp only[List.nil_append,List.cons_append,ax7,bh4,bs7] at *;refine hd x gd5 z _ _ _ h1 h2 fun e _ _ _=>?_
    exact absurd (cw2 e) (ha x List.mem_cons_self)
  | cons y b=>
   cases c with
   | nil=>
    simp only[List.nil_append,List.cons_append,ax7,bh4,bs7] at *;refine hd x y gd5 _ _ _ h1 h2 fun _ e _ _=>?_
    exact absurd (cw2 e) (hb y List.mem_cons_self)
   | cons z c=>
    simp only[List.cons_append,ax7] at *;refine hd x y z _ _ _ h1 h2 fun _ _ r s=>?_
    exact ih b c (fun p hp=>ha p (List.mem_cons_of_mem _ hp)) (fun p hp=>hb p (List.mem_cons_of_mem _ hp)) (fun p hp=>hc p (List.mem_cons_of_mem _ hp)) r s
theorem eu3 (b:UInt8):af2 b≠2:=by
 unfold af2
 repeat (first|split|omega)
theorem cw3 (s:Str):∀ x∈af8 s,x.kind≠2:=by
 unfold af8
 have : ∀ n s,∀ x∈au6 n s,x.kind≠2:=by
  intro n
  induction n with
  | zero=>intro s x hx; cases hx
  | succ n ih=>
   intro s x hx
   cases s with
   | nil=>cases hx
   | cons b l=>
    simp only[au6] at hx;split at hx
    ·exact ih _ x hx
    ·split at hx
     ·rcases List.mem_cons.1 hx with rfl|hx
      ·exact eu3 b
      ·exact ih _ x hx
     ·rcases List.mem_cons.1 hx with rfl|hx
      ·exact eu3 b
      ·exact ih _ x hx
 exact this _ s
theorem hp4:WO (fun _=>True) ar4 where
 neg:=fun a b=>ck5 a b
 tr:=fun a b c _ _ _ h1 h2=>gx4 _ _ _ (cw3 a) (cw3 b) (cw3 c) h1 h2
theorem iv2:WO (fun e:EVR=>e.rel≠[]) av8 where
 neg:=fun a b=>fn8 a b
 tr:=by
  have h:=(eu2.of EVR.am9).lex ((hp4.of EVR.ver).lex (hp4.of EVR.rel))
  have e:∀ a b:EVR,a.rel≠[]->b.rel≠[]->av8 a b=lex (ay2 a.am9 b.am9) (lex (ar4 a.ver b.ver) (ar4 a.rel b.rel)):=fun a b ha hb=>by
   unfold av8 lex;have hn:¬ (a.rel=[]\/b.rel=[]):=by simp[ha,hb]
   rw[if_neg hn];by_cases h1:ay2 a.am9 b.am9=0<;>by_cases h2:ar4 a.ver b.ver=0<;>simp[h1,h2]
  intro a b c ha hb hc;rw[e a b ha hb,e b c hb hc,e a c ha hc];exact h.tr a b c trivial trivial trivial
end Go.Id.Md
/- aa8 dependencies,whole and true; who is better: in plain words. Conditions: none; no program in sight. -/
namespace Go.Id.Md
open Go Go.Id
def ek9 (k:Int):Nat:=if k=4 then 3 else if k=5 then 3 else if k=7 then 2 else 24
def as6 (k:Int)(d:Dep)(n:Nat):Bool:=decide (1<k)&&decide (k<=7)&&decide (d=by7)&&decide (2<=n)&&decide (n<=ek9 k)
mutual
def aa8.ms:aa8->Nat×Nat×Bool
 | .mk k d aZ=>if k=1 then (1,0,decide (aZ.length=0)&&ah9 d) else ((aa8.msL aZ 1 0 (as6 k d aZ.length)).1,(aa8.msL aZ 1 0 (as6 k d aZ.length)).2.1+1,(aa8.msL aZ 1 0 (as6 k d aZ.length)).2.2)
def aa8.msL:List aa8->Nat->Nat->Bool->Nat×Nat×Bool
 | [],p,d,ok=>(p,d,ok)
 | r::rs,p,d,ok=>if ok=true then aa8.msL rs (p+r.ms.1) (max d r.ms.2.1) r.ms.2.2 else (p,d,false)
end
def eb4 (r:aa8):Bool:=r.ms.2.2&&decide (r.ms.1<=24)&&decide (r.ms.2.1<=8)
inductive aa8.Good:aa8->Prop
 | atom (d:Dep) (h:ah9 d=true):aa8.Good (.mk 1 d [])
 | node (k:Int) (d:Dep) (aZ:List aa8) (h1:1<k) (h2:k<=7) (h3:2<=aZ.length) (h4:aZ.length<=ek9 k) (h5:∀ a∈aZ,aa8.Good a):aa8.Good (.mk k d aZ)
theorem aa8.iv3:∀ (aZ:List aa8) (p d:Nat) (ok:Bool),(aa8.msL aZ p d ok).2.2=true->ok=true/\∀ a∈aZ,a.ms.2.2=true:=by
 intro aZ
 induction aZ with
 | nil=>intro p d ok h; exact ⟨h,fun _ h=>by cases h⟩
 | cons r rs ih=>
  intro p d ok h;simp only[aa8.msL] at h;split at h
  ·rename_i hk;obtain ⟨h1,h2⟩:=ih _ _ _ h;refine ⟨hk,fun a ha=>?_⟩;rcases List.mem_cons.1 ha with rfl|ha
   ·exact h1
   ·exact h2 a ha
  ·cases h
theorem aa8.ie6 (r:aa8):r.ms.2.2=true->r.Good:=by
 induction r using aa8.ind with
 | h k d aZ ih=>
  intro h;unfold aa8.ms at h;split at h
  ·rename_i hk;subst hk;simp only[Bool.and_eq_true,decide_eq_true_eq] at h;obtain ⟨h1,h2⟩:=h;have e:aZ=[]:=List.length_eq_zero_iff.1 h1;subst e;exact .atom d h2
  ·obtain ⟨h1,h2⟩:=aa8.iv3 _ _ _ _ h;unfold as6 at h1;simp only[Bool.and_eq_true,decide_eq_true_eq] at h1;exact .node k d aZ h1.1.1.1.1 h1.1.1.1.2 h1.1.2 h1.2 fun a ha=>ih a ha (h2 a ha)
theorem aa8.iv4 (aZ:List aa8)(h:∀ a∈aZ,a.ms.1<=a.count/\a.ms.2.1<=a.count):∀ (p d:Nat) (ok:Bool),(aa8.msL aZ p d ok).1<=p+aa8.counts aZ/\(aa8.msL aZ p d ok).2.1<=d+aa8.counts aZ:=by
 induction aZ with
 | nil=>intro p d ok; simp[aa8.msL,aa8.counts]
 | cons r rs ih=>
  intro p d ok;obtain ⟨h1,h2⟩:=h r List.mem_cons_self;have ih':=ih (fun a ha=>h a (List.mem_cons_of_mem _ ha));simp only[aa8.msL,aa8.counts];split
  ·obtain ⟨i1,i2⟩:=ih' (p+r.ms.1) (max d r.ms.2.1) r.ms.2.2;omega
  ·simp only; omega
theorem aa8.iv5 (r:aa8):r.ms.1<=r.count/\r.ms.2.1<=r.count:=by
 induction r using aa8.ind with
 | h k d aZ ih=>
  unfold aa8.ms;simp only[aa8.count];split
  ·simp only; omega
  ·obtain ⟨h1,h2⟩:=aa8.iv4 aZ ih 1 0 (as6 k d aZ.length);simp only; omega
abbrev ff:List Bool->Bool:=fun _=>false
def eb5 (c n:Nat):List Bool:=(List.range c).map fun m=>decide (m=n)
def stB (c:Nat)(zs:List Int):List Bool:=(List.range c).map fun (m:Nat)=>decide ((m:Int)∈zs)
def gx5 (st:List Bool)(f:Nat->Bool):Bool:=(List.range st.length).any fun n=>st.getD n false&&f n
def trK (l:List aa3)(k:Int)(d:Dep)(fs:List (List Bool->Bool))(st:List Bool):Bool :=
 if k=1 then (al9 l d).any fun n=>st.getD n.toNat false
 else if k=2 then fs.all fun f=>f st
 else if k=3 then fs.any fun f=>f st
 else if k=4 then (if (fs.getD 1 ff) st then (fs.getD 0 ff) st else decide (fs.length<3)||(fs.getD 2 ff) st)
 else if k=5 then (if (fs.getD 1 ff) st then decide (fs.length=3)&&(fs.getD 2 ff) st else (fs.getD 0 ff) st)
 else if k=6 then gx5 st fun n=>fs.all fun f=>f (eb5 st.length n)
 else gx5 st fun n=>(fs.getD 0 ff) (eb5 st.length n)&&!(fs.getD 1 ff) (eb5 st.length n)
mutual
def aa8.tr (l:List aa3):aa8->List Bool->Bool
 | .mk k d aZ,st=>trK l k d (aa8.trs l aZ) st
def aa8.trs (l:List aa3):List aa8->List (List Bool->Bool)
 | []=>[]
 | r::rs=>(fun st=>r.tr l st)::aa8.trs l rs
end
theorem aa8.dr4 (l:List aa3)(aZ:List aa8):aa8.trs l aZ=aZ.map fun r st=>r.tr l st:=by
 induction aZ with
 | nil=>rfl
 | cons r rs ih=>simp only[aa8.trs,List.map_cons,ih]
def gn8 (l:List aa3)(zs:List Int)(r:aa8):Bool:=eb4 r&&r.tr l (stB l.length zs)
structure jh9 where
 a:ac5
 iv6:List Bool
def dr5 (b:Bool):List IV:=[.bool b]
namespace jh9
variable (o:jh9)
def cs:List IV:=[o.a.v,o.a.p.v,.int .u8 o.a.r.au2,.aa5 (o.a.l.map aa3.cs),.aa5 (o.iv6.map dr5)]
def v:IV:=.ab8 o.cs
def lk (n:Int):Bool:=o.iv6.getD n.toNat false
def ja8 (b:Bool):Int:=if b then 0 else 1
def prio (n:Int):Int:=(o.a.p.rows.getD n.toNat ⟨default,0,0⟩).prio
def cmp (n m:Int):Int :=
 lex (ay2 (ja8 (o.a.fits n)) (ja8 (o.a.fits m))) (lex (ay2 (cw1 o.a.r.au2 (o.a.pk n).au2) (cw1 o.a.r.au2 (o.a.pk m).au2)) (lex (ay2 (o.prio m) (o.prio n))
  (lex (ay2 (ja8 (o.lk n)) (ja8 (o.lk m))) (lex (av8 (o.a.pk m).evr (o.a.pk n).evr) (ay2 n m)))))
theorem wo:WO (fun n=>(o.a.pk n).evr.rel≠[]) o.cmp:=by
 have hi {g:Int->Int}:WO (fun n=>(o.a.pk n).evr.rel≠[]) fun a b=>ay2 (g a) (g b):=(eu2.of g).sub fun _ _=>trivial
 exact hi.lex (hi.lex ((hi (g:=o.prio)).flip.lex (hi.lex ((iv2.of fun n=>(o.a.pk n).evr).flip.lex (hi (g:=fun n=>n))))))
variable (hr:∀ n,o.a.is n=true->(o.a.pk n).evr.rel≠[])
include hr
theorem lt_trans {a b c:Int}(ha:o.a.is a=true)(hb:o.a.is b=true)(hc:o.a.is c=true)(h1:o.cmp a b<0)(h2:o.cmp b c<0):o.cmp a c<0:=by
 have k1:=o.wo.tr a b c (hr a ha) (hr b hb) (hr c hc);have k2:=o.wo.tr c a b (hr c hc) (hr a ha) (hr b hb);have n1:=o.wo.neg a b;have n2:=o.wo.neg b c;have n3:=o.wo.neg a c;omega
end jh9
end Go.Id.Md
set_option linter.all false
namespace Go.Id.Md
open Go Go.Id
structure Itm where
 kind:Int
 p:Int
 q:Int
 deriving DecidableEq,Inhabited
def Itm.cs (x:Itm):List IV:=[.int .u8 x.kind,.int .i64 x.p,.int .i64 x.q]
theorem Itm.it9 {x y:Itm}(h:x.cs=y.cs):x=y:=by
 cases x; cases y; simpa [Itm.cs] using h
abbrev am7 (l:List Itm):IV:=.aa5 (l.map Itm.cs)
theorem gc1 (a b:Itm):allEq [1,1,1] a.cs b.cs=some (decide (a=b)):=by
 cases a; cases b;simp[Itm.cs,allEq,ak1,Itm.mk.injEq,Bool.decide_and]
def ba4 (l:List Itm):List (IV×IV):=l.map fun x=>(.agg x.cs,.agg [])
theorem dq5 (x y:Itm):ao3 6 (.agg x.cs) (.agg y.cs)=some (decide (x=y)):=gc1 x y
theorem et1 (x:Itm):kOK 6 (.agg x.cs)=true:=by
 show (ao3 6 (.agg x.cs) (.agg x.cs)).isSome=true;rw[dq5]; rfl
theorem gc2 (x:Itm):∀ l:List Itm,ax2 6 (.agg x.cs) (ba4 l)=some (if x∈l then some (.agg []) else none):=by
 intro l
 induction l with
 | nil=>simp only[ba4,List.map_nil,ax2,et1]; simp
 | cons y l ih=>
  unfold ba4 at *;simp only[List.map_cons,ax2,dq5];by_cases h:x=y
  ·simp[h]
  ·simp only[h,decide_false,ih,List.mem_cons,false_or]
theorem gv2 {x:Itm}:∀ {l:List Itm},x ∉ l->ef1 6 (.agg x.cs) (.agg []) (ba4 l)=some (ba4 (l++[x])):=by
 intro l
 induction l with
 | nil=>intro _; simp only[ba4,List.map_nil,ef1,et1]; rfl
 | cons y l ih=>
  intro h;rw[List.mem_cons,not_or] at h;have:=ih h.2;unfold ba4 at *;simp only[List.map_cons,List.cons_append,ef1,dq5,h.1,decide_false,this,Option.map_some]
theorem gc3 {l:List Itm}(h:l.Nodup):db1 (ba4 l):=by
 refine ⟨?_,.agg [.u8,.i64,.i64],fun e he=>?_⟩
 ·unfold ba4;rw[List.map_map];refine List.pairwise_map.2 (h.imp fun {a b} hab e=>hab ?_);exact Itm.it9 (IV.agg.inj e)
 ·obtain ⟨x,_,rfl⟩:=List.mem_map.1 he;refine ⟨rfl,fun i hi=>?_⟩;have hi:i<3:=hi
  match i,hi with
  | 0,_=>exact ⟨_,rfl⟩
  | 1,_=>exact ⟨_,rfl⟩
  | 2,_=>exact ⟨_,rfl⟩
def bl5 (k:Int)(p n:Nat):List Itm:=(List.range n).map fun (q:Nat)=>⟨k,p,q⟩
theorem fm1 (k:Int)(p n:Nat):bl5 k p (n+1)=bl5 k p n++[⟨k,p,n⟩]:=by
 unfold bl5;rw[List.range_succ,List.map_append]; rfl
def bb4 (f:Nat->Bool)(g:Nat->Itm)(n:Nat):List Itm:=((List.range n).filter f).map g
theorem bs5 (f:Nat->Bool)(g:Nat->Itm)(n:Nat):bb4 f g (n+1)=bb4 f g n++if f n then [g n] else []:=by
 unfold bb4;rw[List.range_succ,List.filter_append,List.map_append];cases h:f n<;>simp[h]
theorem as3 {f:Nat->Bool}{g:Nat->Itm}{n:Nat}{x:Itm}:x∈bb4 f g n↔∃ m,m<n/\f m=true/\x=g m:=by
 unfold bb4;simp only[List.mem_map,List.mem_filter,List.mem_range];constructor
 ·rintro ⟨m,⟨h1,h2⟩,rfl⟩; exact ⟨m,h1,h2,rfl⟩
 ·rintro ⟨m,h1,h2,rfl⟩; exact ⟨m,⟨h1,h2⟩,rfl⟩
theorem aw1 {k:Int}{p n:Nat}{x:Itm}:x∈bl5 k p n↔∃ q:Nat,q<n/\x=⟨k,p,q⟩:=by
 unfold bl5;simp only[List.mem_map,List.mem_range];constructor
 ·rintro ⟨q,h,rfl⟩; exact ⟨q,h,rfl⟩
 ·rintro ⟨q,h,rfl⟩; exact ⟨q,h,rfl⟩
namespace ac5
variable (a:ac5)
def bn5 (p:Nat):List Itm:=if a.fits p then [] else [⟨1,p,0⟩]
def gn7 (p:Nat):List Itm:=a.bn5 p++bl5 2 p (a.pk p).requires.length++bl5 3 p (a.pk p).conflicts.length++bl5 4 p (a.pk p).aa9.length
def cu6 (p k:Nat):List Itm:=bb4 (fun q=>decide (p<q)&&a.twins p q) (fun q=>⟨5,p,q⟩) k
def gv3 (p:Nat):List Itm:=a.cu6 p a.l.length
def bv3 (k:Nat):List Itm:=bb4 (fun i=>!a.goes i) (fun i=>⟨6,i,0⟩) k
def fs4 (k:Nat):List Itm:=bb4 (fun i=>!a.dropped i) (fun i=>⟨7,i,0⟩) k
def owns (k:Nat):List Itm:=(List.range k).flatMap a.gn7
def as4 (k:Nat):List Itm:=(List.range k).flatMap a.gv3
def items:List Itm:=a.owns a.l.length++a.as4 a.l.length++a.bv3 a.p.inst.toNat++a.fs4 a.r.ai4.length
theorem cu7 (k:Nat):a.owns (k+1)=a.owns k++a.gn7 k:=by unfold owns; rw[List.range_succ,List.flatMap_append]; simp
theorem bv4 (k:Nat):a.as4 (k+1)=a.as4 k++a.gv3 k:=by unfold as4; rw[List.range_succ,List.flatMap_append]; simp
inductive Has (a:ac5):Itm->Prop
 | au2 (p:Nat):p<a.l.length->a.fits p=false->Has a ⟨1,p,0⟩
 | need (p q:Nat):p<a.l.length->q<(a.pk p).requires.length->Has a ⟨2,p,q⟩
 | clash (p q:Nat):p<a.l.length->q<(a.pk p).conflicts.length->Has a ⟨3,p,q⟩
 | over (p q:Nat):p<a.l.length->q<(a.pk p).aa9.length->Has a ⟨4,p,q⟩
 | twin (p q:Nat):p<q->q<a.l.length->a.twins p q=true->Has a ⟨5,p,q⟩
 | keep (i:Nat):i<a.p.inst.toNat->a.goes i=false->Has a ⟨6,i,0⟩
 | job (j:Nat):j<a.r.ai4.length->a.dropped j=false->Has a ⟨7,j,0⟩
theorem gc4 {p:Nat}{x:Itm}:x∈a.gn7 p↔(a.fits p=false/\x=⟨1,p,0⟩)\/(∃ q:Nat,q<(a.pk p).requires.length/\x=⟨2,p,q⟩)\/(∃ q:Nat,q<(a.pk p).conflicts.length/\x=⟨3,p,q⟩)\/(∃ q:Nat,q<(a.pk p).aa9.length/\x=⟨4,p,q⟩):=by
 unfold gn7 bn5;simp only[List.mem_append,aw1,or_assoc];refine or_congr ?_ Iff.rfl;cases h:a.fits p<;>simp
theorem gc5 {x:Itm}:x∈a.items↔a.Has x:=by
 unfold items owns as4 bv3 fs4;simp only[List.mem_append,List.mem_flatMap,List.mem_range,gc4,as3];constructor
 ·rintro (((⟨p,hp,h⟩|⟨p,hp,h⟩)|⟨i,hi,h,rfl⟩)|⟨j,hj,h,rfl⟩)
  ·rcases h with ⟨h,rfl⟩|⟨q,hq,rfl⟩|⟨q,hq,rfl⟩|⟨q,hq,rfl⟩
   ·exact .au2 p hp h
   ·exact .need p q hp hq
   ·exact .clash p q hp hq
   ·exact .over p q hp hq
  ·obtain ⟨q,hq,h3,rfl⟩:=as3.1 h;rw[Bool.and_eq_true] at h3;exact .twin p q (of_decide_eq_true h3.1) hq h3.2
  ·exact .keep i hi (by simpa using h)
  ·exact .job j hj (by simpa using h)
 ·intro h
  cases h with
  | au2 p hp h=>exact .inl (.inl (.inl ⟨p,hp,.inl ⟨h,rfl⟩⟩))
  | need p q hp hq=>exact .inl (.inl (.inl ⟨p,hp,.inr (.inl ⟨q,hq,rfl⟩)⟩))
  | clash p q hp hq=>exact .inl (.inl (.inl ⟨p,hp,.inr (.inr (.inl ⟨q,hq,rfl⟩))⟩))
  | over p q hp hq=>exact .inl (.inl (.inl ⟨p,hp,.inr (.inr (.inr ⟨q,hq,rfl⟩))⟩))
  | twin p q h1 h2 h3=>exact .inl (.inl (.inr ⟨p,by omega,as3.2 ⟨q,h2,by simp[h1,h3],rfl⟩⟩))
  | keep i hi h=>exact .inl (.inr ⟨i,hi,by simp[h],rfl⟩)
  | job j hj h=>exact .inr ⟨j,hj,by simp[h],rfl⟩
theorem cj9 (k:Int)(p n:Nat):(bl5 k p n).Nodup:=by
 unfold bl5;refine List.pairwise_map.2 (List.nodup_range.imp fun {x y} h e=>h ?_);have:=congrArg Itm.q e;simp only at this;omega
theorem ck3 {f:Nat->Bool}{g:Nat->Itm}(hg:∀ x y,g x=g y->x=y)(n:Nat):(bb4 f g n).Nodup:=by
 unfold bb4;exact List.pairwise_map.2 ((List.nodup_range.filter _).imp fun {x y} h e=>h (hg _ _ e))
theorem dj8 {g:Nat->List Itm}(h1:∀ p,(g p).Nodup)(h2:∀ p,∀ x∈g p,x.p=(p:Int))(n:Nat):((List.range n).flatMap g).Nodup:=by
 induction n with
 | zero=>exact List.Pairwise.nil
 | succ n ih=>
  rw[List.range_succ,List.flatMap_append,List.flatMap_cons,List.flatMap_nil,List.append_nil];refine List.nodup_append.2 ⟨ih,h1 n,fun x hx y hy e=>?_⟩;obtain ⟨p,hp,hx⟩:=List.mem_flatMap.1 hx;have:=h2 p x hx;have:=h2 n y hy;rw[<- e] at this;have:=List.mem_range.1 hp;omega
theorem by9 {p:Nat}{x:Itm}(h:x∈a.gn7 p):x.p=(p:Int)/\1<=x.kind/\x.kind<=4:=by
 rcases a.gc4.1 h with ⟨_,rfl⟩|⟨q,_,rfl⟩|⟨q,_,rfl⟩|⟨q,_,rfl⟩<;>exact ⟨rfl,by simp only<;>omega,by simp only<;>omega⟩
theorem gc6 (p:Nat):(a.gn7 p).Nodup:=by
 unfold gn7 bn5;refine List.nodup_append.2 ⟨List.nodup_append.2 ⟨List.nodup_append.2 ⟨?_,cj9 ..,fun x hx y hy e=>?_⟩,cj9 ..,fun x hx y hy e=>?_⟩,cj9 ..,fun x hx y hy e=>?_⟩
 ·cases a.fits p<;>simp
 ·obtain ⟨q,_,rfl⟩:=aw1.1 hy;cases hf:a.fits p<;>rw[hf] at hx<;>simp at hx;rw[hx] at e; simp at e
 ·obtain ⟨q,_,rfl⟩:=aw1.1 hy;rcases List.mem_append.1 hx with hx|hx
  ·cases hf:a.fits p<;>rw[hf] at hx<;>simp at hx;rw[hx] at e; simp at e
  ·obtain ⟨r,_,rfl⟩:=aw1.1 hx;simp at e
 ·obtain ⟨q,_,rfl⟩:=aw1.1 hy;rcases List.mem_append.1 hx with hx|hx
  ·rcases List.mem_append.1 hx with hx|hx
   ·cases hf:a.fits p<;>rw[hf] at hx<;>simp at hx;rw[hx] at e; simp at e
   ·obtain ⟨r,_,rfl⟩:=aw1.1 hx;simp at e
  ·obtain ⟨r,_,rfl⟩:=aw1.1 hx;simp at e
theorem bn6 {p k:Nat}{x:Itm}(h:x∈a.cu6 p k):x.p=(p:Int)/\x.kind=5:=by
 obtain ⟨q,_,_,rfl⟩:=as3.1 h;exact ⟨rfl,rfl⟩
theorem nodup:a.items.Nodup:=by
 unfold items;refine List.nodup_append.2 ⟨List.nodup_append.2 ⟨List.nodup_append.2 ⟨?_,?_,fun x hx y hy e=>?_⟩,?_,fun x hx y hy e=>?_⟩,?_,fun x hx y hy e=>?_⟩
 ·exact dj8 a.gc6 (fun p x hx=>(a.by9 hx).1) _
 ·exact dj8 (fun p=>ck3 (fun x y e=>by have:=congrArg Itm.q e; simp only at this; omega) _) (fun p x hx=>(a.bn6 hx).1) _
 ·obtain ⟨p,_,hx⟩:=List.mem_flatMap.1 hx;obtain ⟨q,_,hy⟩:=List.mem_flatMap.1 hy;have:=(a.by9 hx).2;have:=(a.bn6 hy).2;rw[<- e] at this; omega
 ·exact ck3 (fun x y e=>by have:=congrArg Itm.p e; simp only at this; omega) _
 ·obtain ⟨i,_,_,rfl⟩:=as3.1 hy;rcases List.mem_append.1 hx with hx|hx
  ·obtain ⟨p,_,hx⟩:=List.mem_flatMap.1 hx;have:=(a.by9 hx).2;rw[e] at this; simp at this
  ·obtain ⟨p,_,hx⟩:=List.mem_flatMap.1 hx;have:=(a.bn6 hx).2;rw[e] at this; simp at this
 ·exact ck3 (fun x y e=>by have:=congrArg Itm.p e; simp only at this; omega) _
 ·obtain ⟨j,_,_,rfl⟩:=as3.1 hy;rcases List.mem_append.1 hx with hx|hx
  ·rcases List.mem_append.1 hx with hx|hx
   ·obtain ⟨p,_,hx⟩:=List.mem_flatMap.1 hx;have:=(a.by9 hx).2;rw[e] at this; simp at this
   ·obtain ⟨p,_,hx⟩:=List.mem_flatMap.1 hx;have:=(a.bn6 hx).2;rw[e] at this; simp at this
  ·obtain ⟨i,_,_,rfl⟩:=as3.1 hx;simp at e
theorem cu8 {k:Nat}{y:Itm}(h:y∈a.owns k):1<=y.kind/\y.kind<=4/\∃ p:Nat,p<k/\y.p=p:=by
 obtain ⟨p,hp,hy⟩:=List.mem_flatMap.1 h;have:=a.by9 hy;exact ⟨this.2.1,this.2.2,p,List.mem_range.1 hp,this.1⟩
theorem ie1 {p:Nat}{y:Itm}(h:y∈a.bn5 p):y.kind=1:=by
 unfold bn5 at h;split at h
 ·cases h
 ·rw[List.mem_singleton] at h; rw[h]
theorem dq6 {k:Nat}{y:Itm}(h:y∈a.as4 k):y.kind=5/\∃ p:Nat,p<k/\y.p=p:=by
 obtain ⟨p,hp,hy⟩:=List.mem_flatMap.1 h;have:=a.bn6 hy;exact ⟨this.2,p,List.mem_range.1 hp,this.1⟩
theorem gv4 {p k:Nat}{y:Itm}(h:y∈a.cu6 p k):y.kind=5/\y.p=p/\∃ q:Nat,q<k/\y.q=q:=by
 obtain ⟨q,hq,_,rfl⟩:=as3.1 h;exact ⟨rfl,rfl,q,hq,rfl⟩
theorem gc7 {k:Nat}{y:Itm}(h:y∈a.bv3 k):y.kind=6/\∃ q:Nat,q<k/\y.p=q:=by
 obtain ⟨q,hq,_,rfl⟩:=as3.1 h;exact ⟨rfl,q,hq,rfl⟩
theorem iu1 {k:Nat}{y:Itm}(h:y∈a.fs4 k):y.kind=7/\∃ q:Nat,q<k/\y.p=q:=by
 obtain ⟨q,hq,_,rfl⟩:=as3.1 h;exact ⟨rfl,q,hq,rfl⟩
def nsI (p j:Nat):Nat:=if j=0 then (a.pk p).requires.length else if j=1 then (a.pk p).conflicts.length else (a.pk p).aa9.length
def dq7 (p j:Nat):List Itm:=(List.range j).flatMap fun i=>bl5 ((2+i:Nat):Int) p (a.nsI p i)
theorem as5 (p j:Nat):a.dq7 p (j+1)=a.dq7 p j++bl5 ((2+j:Nat):Int) p (a.nsI p j):=by unfold dq7; rw[List.range_succ,List.flatMap_append]; simp
theorem ho7 (p:Nat):a.gn7 p=a.bn5 p++a.dq7 p 3:=by
 rw[as5,as5,as5];unfold gn7 nsI;simp[dq7]
theorem iu2 {p j:Nat}{y:Itm}(h:y∈a.dq7 p j):2<=y.kind/\y.kind<2+(j:Int):=by
 obtain ⟨i,hi,hy⟩:=List.mem_flatMap.1 h;obtain ⟨q,_,rfl⟩:=aw1.1 hy;have:=List.mem_range.1 hi;simp only;omega
theorem dz8 {k m:Nat}(h:k<=m):(a.owns k).length<=(a.owns m).length:=by
 obtain ⟨d,rfl⟩:∃ d,m=k+d:=⟨m-k,by omega⟩
 induction d with
 | zero=>exact Nat.le_refl _
 | succ d ih=>
  have:=ih (by omega);rw[show k+(d+1)=k+d+1 from rfl,a.cu7,List.length_append];omega
theorem fm2 {k m:Nat}(h:k<=m):(a.as4 k).length<=(a.as4 m).length:=by
 obtain ⟨d,rfl⟩:∃ d,m=k+d:=⟨m-k,by omega⟩
 induction d with
 | zero=>exact Nat.le_refl _
 | succ d ih=>
  have:=ih (by omega);rw[show k+(d+1)=k+d+1 from rfl,a.bv4,List.length_append];omega
theorem cu9 (f:Nat->Bool)(g:Nat->Itm){k m:Nat}(h:k<=m):(bb4 f g k).length<=(bb4 f g m).length:=by
 obtain ⟨d,rfl⟩:∃ d,m=k+d:=⟨m-k,by omega⟩
 induction d with
 | zero=>exact Nat.le_refl _
 | succ d ih=>
  have:=ih (by omega);rw[show k+(d+1)=k+d+1 from rfl,bs5,List.length_append];omega
theorem bz1 (k:Int)(p n:Nat):(bl5 k p n).length=n:=by unfold bl5; rw[List.length_map,List.length_range]
theorem bb7:a.items.length=(a.owns a.l.length).length+(a.as4 a.l.length).length+(a.bv3 a.p.inst.toNat).length+(a.fs4 a.r.ai4.length).length:=by
 unfold items; simp only[List.length_append]
theorem gc8 {p j q:Nat}(hp:p<a.l.length)(hj:j<3)(hq:q<=a.nsI p j):(a.owns p++a.bn5 p++a.dq7 p j++bl5 ((2+j:Nat):Int) p q).length<=a.items.length:=by
 have h1:=a.dz8 (show p+1<=a.l.length from hp);have h2:=a.bb7;rw[a.cu7,a.ho7,List.length_append,List.length_append] at h1
 have h3:(a.dq7 p j).length+q<=(a.dq7 p 3).length:=by
  have e3:(a.dq7 p 3).length=a.nsI p 0+a.nsI p 1+a.nsI p 2:=by
   rw[a.as5,a.as5,a.as5];simp only[List.length_append,bz1];simp[dq7]
  rw[e3];have:j=0\/j=1\/j=2:=by omega
  rcases this with rfl|rfl|rfl
  ·simp only[dq7,List.range_zero,List.flatMap_nil,List.length_nil]; omega
  ·rw[a.as5]; simp only[dq7,List.range_zero,List.flatMap_nil,List.nil_append,bz1]; omega
  ·rw[a.as5,a.as5]; simp only[dq7,List.range_zero,List.flatMap_nil,List.nil_append,List.length_append,bz1]; omega
 simp only[List.length_append,bz1];omega
theorem gv5 {p:Nat}(hp:p<a.l.length):(a.owns p).length<=a.items.length:=by
 have h1:=a.dz8 (show p<=a.l.length by omega);have h2:=a.bb7;omega
theorem gv6 {p k:Nat}(hp:p<a.l.length)(hk:k<=a.l.length):(a.owns a.l.length++a.as4 p++a.cu6 p k).length<=a.items.length:=by
 have h1:=a.fm2 (show p+1<=a.l.length from hp);have h2:=a.bb7;have h3:(a.cu6 p k).length<=(a.gv3 p).length:=cu9 _ _ hk;rw[a.bv4,List.length_append] at h1;simp only[List.length_append];omega
theorem gv7 {k:Nat}(hk:k<=a.p.inst.toNat):(a.owns a.l.length++a.as4 a.l.length++a.bv3 k).length<=a.items.length:=by
 have h2:=a.bb7;have h3:(a.bv3 k).length<=(a.bv3 a.p.inst.toNat).length:=cu9 _ _ hk;simp only[List.length_append];omega
theorem ie2 {k:Nat}(hk:k<=a.r.ai4.length):(a.owns a.l.length++a.as4 a.l.length++a.bv3 a.p.inst.toNat++a.fs4 k).length<=a.items.length:=by
 have h2:=a.bb7;have h3:(a.fs4 k).length<=(a.fs4 a.r.ai4.length).length:=cu9 _ _ hk;simp only[List.length_append];omega
theorem ej9 (p:Nat):a.cu6 p (p+1)=[]:=by
 unfold cu6 bb4;rw[List.map_eq_nil_iff,List.filter_eq_nil_iff];intro q hq;have:=List.mem_range.1 hq;have:¬ p<q:=by omega
 simp[this]
theorem gc9 (hA:∀ p∈a.l,p.requires.length<=2^20/\p.conflicts.length<=2^20/\p.aa9.length<=2^20)(hl:a.l.length<=256)(hi:a.p.inst<=a.l.length)(hj:a.r.ai4.length<=64):a.items.length<2^30:=by
 have fl:∀ (g:Nat->List Itm) (m n:Nat),(∀ p,p<n->(g p).length<=m)->((List.range n).flatMap g).length<=n*m:=by
  intro g m n
  induction n with
  | zero=>intro _; simp
  | succ n ih=>
   intro h;have:=ih fun p hp=>h p (by omega)
   have:=h n (by omega);rw[List.range_succ,List.flatMap_append,List.length_append,Nat.succ_mul];simp only[List.flatMap_cons,List.flatMap_nil,List.append_nil];omega
 have pl:∀ f g n,(bb4 f g n).length<=n:=fun f g n=>by
  unfold bb4;rw[List.length_map];exact Nat.le_trans (List.length_filter_le _ _) (by rw[List.length_range]; exact Nat.le_refl _)
 have h1:(a.owns a.l.length).length<=a.l.length*(1+3*2^20):=fl _ _ _ fun p hp=>by
  have hm:a.pk p∈a.l:=by
   have:a.pk p=a.l[p]:=by simp[pk,List.getD_eq_getElem?_getD,hp]
   rw[this]; exact List.getElem_mem hp
  obtain ⟨q1,q2,q3⟩:=hA _ hm;unfold gn7 bn5 bl5;simp only[List.length_append,List.length_map,List.length_range];split<;>simp only[List.length_nil,List.length_singleton]<;>omega
 have h2:(a.as4 a.l.length).length<=a.l.length*256:=fl _ _ _ fun p hp=>Nat.le_trans (pl _ _ _) hl
 have h3:=pl (fun i=>!a.goes i) (fun i=>⟨6,i,0⟩) a.p.inst.toNat;have h4:=pl (fun i=>!a.dropped i) (fun i=>⟨7,i,0⟩) a.r.ai4.length;have e1:a.l.length*(1+3*2^20)<=256*(1+3*2^20):=Nat.mul_le_mul hl (Nat.le_refl _);have e2:a.l.length*256<=256*256:=Nat.mul_le_mul hl (Nat.le_refl _);unfold items bv3 fs4;simp only[List.length_append];omega
def iu3 (x:Itm):aa8:=(a.pk x.p).requires.getD x.q.toNat default
def ho8 (x:Itm):aa8:=(a.pk x.p).conflicts.getD x.q.toNat default
def gd1 (x:Itm):Dep:=(a.pk x.p).aa9.getD x.q.toNat default
def inS (st:List Int)(n:Int):Bool:=decide (n∈st)
def less (st:List Int)(n:Int):List Int:=st.filter fun m=>!decide (m=n)
def keeps (st:List Int)(x:Itm):Bool :=
 if x.kind=1 then !inS st x.p
 else if x.kind=2 then !inS st x.p||gn8 a.l st (a.iu3 x)
 else if x.kind=3 then !inS st x.p || !gn8 a.l (less st x.p) (a.ho8 x)
 else if x.kind=4 then !inS st x.p || !((an9 a.l (a.gd1 x)).any fun n=>!decide (n=x.p)&&inS st n)
 else if x.kind=5 then !inS st x.p || !inS st x.q
 else if x.kind=6 then some st (a.ay8 x.p)
 else a.bj2 x.p st
def isI (x:Itm):Bool:=decide (x∈a.items)
def holds (st:List Int)(x:Itm):Bool:=!a.isI x||a.keeps st x
def kept (st:List Int)(l:List Itm):Bool:=!l.any fun x=>!a.holds st x
def broken (st:List Int):List Itm:=a.items.filter fun x=>!a.holds st x
def good (st:List Int):Bool:=a.kept st a.items
theorem holds_of {st:List Int}{x:Itm}(h:x∈a.items):a.holds st x=a.keeps st x:=by
 unfold holds isI;rw[decide_eq_true h]; rfl
theorem gv8 {st:List Int}:a.good st=true↔∀ x∈a.items,a.keeps st x=true:=by
 unfold good kept;rw[Bool.not_eq_true',List.any_eq_false];constructor
 ·intro h x hx;have:=h x hx;rw[a.holds_of hx] at this
  simpa using this
 ·intro h x hx;rw[a.holds_of hx,h x hx]; simp
theorem cv2 {st:List Int}:a.good st=decide ((a.broken st).length=0):=by
 rw[Bool.eq_iff_iff,a.gv8,decide_eq_true_eq,List.length_eq_zero_iff];unfold broken;rw[List.filter_eq_nil_iff];constructor
 ·intro h x hx;rw[a.holds_of hx,h x hx]; simp
 ·intro h x hx;have:=h x hx;rw[a.holds_of hx] at this
  simpa using this
theorem gv9 {c:Nat}{s t:List Int}(h:∀ n,0<=n->(n∈s↔n∈t)):stB c s=stB c t:=by
 unfold stB;refine List.map_congr_left fun m _=>?_
 rw[Bool.eq_iff_iff,decide_eq_true_eq,decide_eq_true_eq];exact h m (by omega)
theorem et2 {l:List aa3}{s t:List Int}(h:∀ n,0<=n->(n∈s↔n∈t))(r:aa8):gn8 l s r=gn8 l t r:=by
 unfold gn8;rw[gv9 h]
theorem fm3 {s t:List Int}(h:∀ n,0<=n->(n∈s↔n∈t)){x:Itm}(hx:x∈a.items):a.keeps s x=a.keeps t x:=by
 have hi:∀ n:Int,0<=n->inS s n=inS t n:=fun n hn=>by
  unfold inS;rw[Bool.eq_iff_iff,decide_eq_true_eq,decide_eq_true_eq];exact h n hn
 have hp:0<=x.p/\0<=x.q:=by
  cases a.gc5.1 hx<;>(constructor<;>simp only<;>omega)
 have hl:∀ n,0<=n->(n∈less s x.p↔n∈less t x.p):=fun n hn=>by
  unfold less;rw[List.mem_filter,List.mem_filter,h n hn]
 unfold keeps;rw[hi _ hp.1,hi _ hp.2,et2 h,et2 hl,a.eb3 h]
 have e4:((an9 a.l (a.gd1 x)).any fun n=>!decide (n=x.p)&&inS s n)=(an9 a.l (a.gd1 x)).any fun n=>!decide (n=x.p)&&inS t n:=by
  rw[Bool.eq_iff_iff,List.any_eq_true,List.any_eq_true]
  have:∀ n∈an9 a.l (a.gd1 x),inS s n=inS t n:=fun n hn=>by
   obtain ⟨m,e,_⟩:=bb1.1 hn;exact hi n (by omega)
  constructor
  ·rintro ⟨n,hn,h2⟩; exact ⟨n,hn,by rw[<- this n hn]; exact h2⟩
  ·rintro ⟨n,hn,h2⟩; exact ⟨n,hn,by rw[this n hn]; exact h2⟩
 have e6:some s (a.ay8 x.p)=some t (a.ay8 x.p):=bz8 fun n hn=>h n (by obtain ⟨_,m,e,_⟩:=a.dr2 hn; omega)
 rw[e4,e6]
theorem ek1 {s t:List Int}(h:∀ n,0<=n->(n∈s↔n∈t)):a.broken s=a.broken t:=by
 unfold broken;refine List.filter_congr fun x hx=>?_
 rw[a.holds_of hx,a.holds_of hx,a.fm3 h hx]
end ac5
end Go.Id.Md
set_option linter.all false
namespace Go.Id.Md
open Go Go.Id
def gw1 (wh:Int)(k:Int)(d:Dep)(n:Nat)(alone:Bool):Bool :=
 if k=1 then decide (n=0)&&ah9 d else
 (if k=2\/k=3\/k=6 then decide (2<=n) else if k=7 then decide (n=2) else
  if k=4 then (decide (n=2)||decide (n=3))&&!alone&&decide (wh=1) else
  if k=5 then (decide (n=2)||decide (n=3))&&!alone&&decide (wh<=2) else false)&&decide (d=by7)
mutual
def aa8.co2 (wh:Int):aa8->Bool->Bool
 | .mk k d aZ,alone=>gw1 wh k d aZ.length alone&&(aa8.dj9 wh aZ (alone||decide (k=6)||decide (k=7)))
def aa8.dj9 (wh:Int):List aa8->Bool->Bool
 | [],_=>true
 | r::rs,alone=>r.co2 wh alone&&aa8.dj9 wh rs alone
end
theorem aa8.fm4 (wh:Int)(l:List aa8)(alone:Bool):aa8.dj9 wh l alone=l.all fun r=>r.co2 wh alone:=by
 induction l with
 | nil=>rfl
 | cons r l ih=>simp only[aa8.dj9,List.all_cons,ih]
theorem ie3 {wh:Int}(h1:1<=wh)(h3:wh<=3)(k:Int)(d:Dep)(aZ:List aa8)(alone:Bool)(hn:aZ.length<=24):gw1 wh k d aZ.length alone=aj5 wh (.mk k d aZ) alone:=by
 unfold gw1 aj5 asks;simp only[aa8.kind,aa8.args,aa8.dep];rw[Bool.eq_iff_iff];by_cases e1:k=1
 ·subst e1;simp only[if_true];have:¬ (3:Int)<wh:=by omega
  cases ah9 d<;>cases alone<;>simp[this]<;>omega
 by_cases e2:k=2
 ·subst e2;have:¬ (3:Int)<wh:=by omega
  by_cases hd:d=by7<;>cases alone<;>simp[this,hd]<;>omega
 by_cases e3:k=3
 ·subst e3;have:¬ (3:Int)<wh:=by omega
  by_cases hd:d=by7<;>cases alone<;>simp[this,hd]<;>omega
 by_cases e4:k=4
 ·subst e4;by_cases hd:d=by7<;>cases alone<;>by_cases hw:(1:Int)<wh<;>simp[hd,hw]<;>omega
 by_cases e5:k=5
 ·subst e5;by_cases hd:d=by7<;>cases alone<;>by_cases hw:(2:Int)<wh<;>simp[hd,hw]<;>omega
 by_cases e6:k=6
 ·subst e6;have:¬ (3:Int)<wh:=by omega
  by_cases hd:d=by7<;>cases alone<;>simp[this,hd]<;>omega
 by_cases e7:k=7
 ·subst e7;have:¬ (3:Int)<wh:=by omega
  by_cases hd:d=by7<;>cases alone<;>simp[this,hd]<;>omega
 have:(0:Int)<wh:=by omega
 simp[e1,e2,e3,e4,e5,e6,e7,this]
theorem aa8.dk4 {l:List aa8}{r:aa8}(h:r∈l):r.count<=aa8.counts l:=by
 induction l with
 | nil=>cases h
 | cons x l ih=>
  simp only[aa8.counts];rcases List.mem_cons.1 h with rfl|h
  ·omega
  ·have:=ih h; omega
theorem aa8.gd2 (r:aa8):1<=r.count:=by cases r; simp only[aa8.count]; omega
theorem aa8.fm5 (l:List aa8):l.length<=aa8.counts l:=by
 induction l with
 | nil=>exact Nat.le_refl _
 | cons x l ih=>simp only[aa8.counts,List.length_cons]; have:=x.gd2; omega
theorem aa8.fm6 {wh:Int}(h1:1<=wh)(h3:wh<=3)(r:aa8):r.count<=24->∀ alone,r.co2 wh alone=(r.parts alone).all fun p=>aj5 wh p.1 p.2:=by
 refine aa8.ind (p:=fun r=>r.count<=24->∀ alone,r.co2 wh alone=(r.parts alone).all fun p=>aj5 wh p.1 p.2) (fun k d aZ ih hc alone=>?_) r;simp only[aa8.count] at hc;simp only[aa8.co2,aa8.parts,List.all_cons];have:=aa8.fm5 aZ;rw[ie3 h1 h3 k d aZ alone (by omega)];congr 1;generalize (alone||decide (k=6)||decide (k=7))=al
 have:∀ l:List aa8,(∀ x∈l,x∈aZ)->aa8.dj9 wh l al=(aa8.bg9 l al).all fun p=>aj5 wh p.1 p.2:=by
  intro l
  induction l with
  | nil=>intro _; rfl
  | cons x l ih2=>
   intro h;have hx:=h x List.mem_cons_self;simp only[aa8.dj9,aa8.bg9,List.all_append];rw[ih x hx (by have:=aa8.dk4 hx; omega),ih2 fun y hy=>h y (List.mem_cons_of_mem _ hy)]
 exact this aZ fun _ h=>h
theorem ek2 (r:aa8)(wh:Int):ar5 r wh=if wh<1\/3<wh then 1 else if r.count>24 then 40 else if r.depth>8 then 21 else if r.co2 wh false=false then 4 else 0:=by
 unfold ar5;by_cases h1:wh<1\/3<wh
 ·rw[if_pos h1,if_pos h1]
 rw[if_neg h1,if_neg h1];by_cases h2:r.count>24
 ·rw[if_pos h2,if_pos h2]
 rw[if_neg h2,if_neg h2];by_cases h3:r.depth>8
 ·rw[if_pos h3,if_pos h3]
 rw[if_neg h3,if_neg h3,aa8.fm6 (by omega) (by omega) r (by omega)];cases h:(r.parts false).all fun p=>aj5 wh p.1 p.2<;>simp
end Go.Id.Md
set_option linter.all false
namespace Go.Id.Md
open Go Go.Id
theorem cq3 {p:UInt8->Bool}(l:Str):(l.dropWhile p).length<=l.length:=by
 induction l with
 | nil=>exact Nat.le_refl _
 | cons a l ih=>
  rw[List.dropWhile_cons];split
  ·exact Nat.le_trans ih (Nat.le_succ _)
  ·exact Nat.le_refl _
theorem ek7:∀ (n m:Nat) (l:Str),l.length<=n->l.length<=m->au6 n l=au6 m l:=by
 intro n
 induction n with
 | zero=>
  intro m l h1 _;have:l=[]:=List.length_eq_zero_iff.1 (Nat.le_zero.1 h1);subst this
  cases m<;>rfl
 | succ n ih=>
  intro m l h1 h2
  cases l with
  | nil=>cases m<;>rfl
  | cons b l=>
   cases m with
   | zero=>simp at h2
   | succ m=>
    simp only[List.length_cons] at h1 h2
    have hd:af2 b=af2 b->((b::l).dropWhile fun c=>af2 c==af2 b).length<=l.length:=fun _=>by
     rw[List.dropWhile_cons,if_pos (by simp)];exact cq3 l
    have hd:=hd rfl;simp only[au6];rw[ih m l (by omega) (by omega),ih m _ (Nat.le_trans hd (by omega)) (Nat.le_trans hd (by omega))]
def gd4 (b:UInt8)(l:Str):Nat:=(l.takeWhile fun c=>af2 c==af2 b).length
theorem gx1 {b:UInt8}{l:Str}(h:af2 b=0):af8 (b::l)=af8 l:=by
 unfold af8;simp only[List.length_cons,au6,h,if_true]
theorem gx2 {b:UInt8}{l:Str}(h:af2 b≠0)(h4:af2 b<4):af8 (b::l)=⟨af2 b,[]⟩::af8 l:=by
 unfold af8;simp only[List.length_cons,au6,h,h4,if_true,if_false]
theorem dr3 (p:UInt8->Bool)(l:Str):l.takeWhile p=l.take (l.takeWhile p).length/\l.dropWhile p=l.drop (l.takeWhile p).length:=by
 induction l with
 | nil=>exact ⟨rfl,rfl⟩
 | cons a l ih=>
  rw[List.takeWhile_cons,List.dropWhile_cons]
  cases h:p a with
  | true=>
   simp only[if_true,List.length_cons,List.take_succ_cons,List.drop_succ_cons]
   exact ⟨by rw[<- ih.1],ih.2⟩
  | false=>simp
theorem gx3 {b:UInt8}{l:Str}(h4:¬ af2 b<4):af8 (b::l)=⟨af2 b,if af2 b=5 then ((b::l).take (gd4 b l+1)).dropWhile (· == 48) else (b::l).take (gd4 b l+1)⟩::af8 (l.drop (gd4 b l)):=by
 have h0:af2 b≠0:=by omega
 unfold af8;simp only[List.length_cons,au6,h0,h4,if_false]
 have e1:(b::l).takeWhile (fun c=>af2 c==af2 b)=(b::l).take (gd4 b l+1):=by
  rw[List.takeWhile_cons,if_pos (by simp),List.take_succ_cons,(dr3 (fun c=>af2 c==af2 b) l).1];unfold gd4; rw[<- (dr3 (fun c=>af2 c==af2 b) l).1]
 have e2:(b::l).dropWhile (fun c=>af2 c==af2 b)=l.drop (gd4 b l):=by
  rw[List.dropWhile_cons,if_pos (by simp)];exact (dr3 (fun c=>af2 c==af2 b) l).2
 rw[e1,e2,ek7 l.length (l.drop (gd4 b l)).length _ (by rw[List.length_drop]; omega) (Nat.le_refl _)]
theorem jh7 {p:UInt8->Bool}:∀ (l:Str) (m:Nat),m<(l.takeWhile p).length->∃ c,l[m]? = some c/\p c=true:=by
 intro l
 induction l with
 | nil=>intro m h; simp at h
 | cons a l ih=>
  intro m h;rw[List.takeWhile_cons] at h
  cases hp:p a with
  | false=>rw[hp] at h; simp at h
  | true=>
   rw[hp] at h
   cases m with
   | zero=>exact ⟨a,rfl,hp⟩
   | succ m=>exact ih m (by simpa using h)
theorem jh8 {p:UInt8->Bool}:∀ (l:Str) (c:UInt8),l[(l.takeWhile p).length]? = some c->p c=false:=by
 intro l
 induction l with
 | nil=>intro c h; simp at h
 | cons a l ih=>
  intro c h;rw[List.takeWhile_cons] at h
  cases hp:p a with
  | false=>rw[hp] at h; simp at h; rw[<- h]; exact hp
  | true=>rw[hp] at h; exact ih c (by simpa using h)
theorem iu7 {b:UInt8}{l:Str}{m:Nat}(h:m<gd4 b l):∃ c,l[m]? = some c/\af2 c=af2 b:=by
 obtain ⟨c,h1,h2⟩:=jh7 l m h;exact ⟨c,h1,by simpa using h2⟩
theorem iu8 {b:UInt8}{l:Str}{c:UInt8}(h:l[gd4 b l]? = some c):af2 c≠af2 b:=by
 have:=jh8 l c h
 simpa using this
theorem iu9 (b:UInt8)(l:Str):gd4 b l<=l.length:=(List.takeWhile_sublist _).length_le
end Go.Id.Md
