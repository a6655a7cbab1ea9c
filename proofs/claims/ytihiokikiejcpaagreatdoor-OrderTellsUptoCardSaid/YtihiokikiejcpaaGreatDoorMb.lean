/- The document's data,and what functions give,in plain words. Conditions: none; no program in sight. -/
import Derived.Test.YtihiokikiejcpaaGreatDoorFwQ
set_option linter.all false
namespace Go.Id.Md
open Go Go.Id
abbrev Str:=List UInt8
structure EVR where
 am6:Int
 ver:Str
 rel:Str
 deriving DecidableEq,Inhabited
structure Dep where
 name:Str
 op:Int
 evr:EVR
 deriving DecidableEq,Inhabited
inductive aa9 where
 | mk (kind:Int) (dep:Dep) (args:List aa9)
 deriving Inhabited
def aa9.kind:aa9->Int|.mk k _ _=>k
def aa9.dep:aa9->Dep|.mk _ d _=>d
def aa9.args:aa9->List aa9|.mk _ _ a=>a
structure aa4 where
 name:Str
 evr:EVR
 ex2:Int
 vendor:Str
 provides:List Dep
 requires:List aa9
 conflicts:List aa9
 ac6:List Dep
 ac3:List aa9
 ab9:List aa9
 suggests:List aa9
 ad8:List aa9
 files:List Str
 deriving Inhabited
structure ak2 where
 priority:Int
 packages:List aa4
 deriving Inhabited
def EVR.fit (e:EVR):Prop:=e.ver.length<2^62/\e.rel.length<2^62
def Dep.fit (d:Dep):Prop:=d.name.length<2^62/\d.evr.fit
theorem aa9.ind {p:aa9->Prop}(h:∀ k d aZ,(∀ a∈aZ,p a)->p (.mk k d aZ))(r:aa9):p r :=
 aa9.rec (motive_1:=p) (motive_2:=fun l=>∀ a∈l,p a) (fun k d aZ ih=>h k d aZ ih) (fun _ h=>by cases h) (fun r rs h1 h2 a ha=>by
  rcases List.mem_cons.1 ha with rfl|h
  ·exact h1
  ·exact h2 a h) r
mutual
def aa9.fit:aa9->Prop
 | .mk k d aZ=>0<=k/\k<256/\d.fit/\aZ.length<2^31/\aa9.fits aZ
def aa9.fits:List aa9->Prop
 | []=>True
 | r::rs=>r.fit/\aa9.fits rs
end
theorem aa9.gh8 (l:List aa9):aa9.fits l↔∀ r∈l,r.fit:=by
 induction l with
 | nil=>simp[aa9.fits]
 | cons r rs ih=>simp[aa9.fits,ih]
theorem aa9.co4 {k:Int}{d:Dep}{aZ:List aa9}:(aa9.mk k d aZ).fit↔0<=k/\k<256/\d.fit/\aZ.length<2^31/\∀ r∈aZ,r.fit:=by
 simp only[aa9.fit,aa9.gh8]
def EVR.cs (e:EVR):List IV:=[.int .i64 e.am6,.str e.ver,.str e.rel]
def Dep.cs (d:Dep):List IV:=[.str d.name,.int .u8 d.op,.int .i64 d.evr.am6,.str d.evr.ver,.str d.evr.rel]
mutual
def aa9.cs:aa9->List IV
 | .mk k d aZ=>[.int .u8 k,.str d.name,.int .u8 d.op,.int .i64 d.evr.am6,.str d.evr.ver,.str d.evr.rel,.aa3 (aa9.css aZ)]
def aa9.css:List aa9->List (List IV)
 | []=>[]
 | r::rs=>r.cs::aa9.css rs
end
theorem aa9.hd9 (l:List aa9):aa9.css l=l.map aa9.cs:=by
 induction l with
 | nil=>rfl
 | cons r rs ih=>simp only[aa9.css,ih,List.map_cons]
theorem aa9.au9 (r:aa9):r.cs=[.int .u8 r.kind,.str r.dep.name,.int .u8 r.dep.op,.int .i64 r.dep.evr.am6,.str r.dep.evr.ver,.str r.dep.evr.rel,.aa3 (r.args.map aa9.cs)]:=by
 cases r with
 | mk k d aZ=>simp only[aa9.cs,aa9.hd9,aa9.kind,aa9.dep,aa9.args]
def bn7 (s:Str):List IV:=[.str s]
abbrev deps (l:List Dep):IV:=.aa3 (l.map Dep.cs)
abbrev ae6 (l:List aa9):IV:=.aa3 (l.map aa9.cs)
abbrev strs (l:List Str):IV:=.aa3 (l.map bn7)
def aa4.cs (p:aa4):List IV :=
 [.str p.name,.int .i64 p.evr.am6,.str p.evr.ver,.str p.evr.rel,.int .u8 p.ex2,.str p.vendor,deps p.provides,ae6 p.requires,ae6 p.conflicts,deps p.ac6,ae6 p.ac3,ae6 p.ab9,ae6 p.suggests,ae6 p.ad8,strs p.files]
def ak2.cs (r:ak2):List IV:=[.int .i64 r.priority,.aa3 (r.packages.map aa4.cs)]
def aa4.rows (p:aa4):List (Int×List aa9):=[(1,p.requires),(2,p.conflicts),(1,p.ac3),(3,p.ab9),(1,p.suggests),(3,p.ad8)]
def signs:Str:=[97,98,99,100,101,102,103,104,105,106,107,108,109,110,111,112,113,114,115,116,117,118,119,120,121,122,65,66,67,68,69,70,71,72,73,74,75,76,77,78,79,80,81,82,83,84,85,86,87,88,89,90,48,49,50,51,52,53,54,55,56,57,46,95,43,45,47,58,64,126,94]
def fo3 (b:UInt8):Bool:=(decide (97<=b.toNat)&&decide (b.toNat<=122))||(decide (65<=b.toNat)&&decide (b.toNat<=90))||(decide (48<=b.toNat)&&decide (b.toNat<=57))
def bo2 (b:UInt8):Bool:=signs.contains b
def words:List Str:=[[97,110,100],[111,114],[105,102],[101,108,115,101],[117,110,108,101,115,115],[119,105,116,104],[119,105,116,104,111,117,116]]
def av2 (s:Str):Bool:=decide (1<=s.length)&&decide (s.length<=64)&&s.all bo2&&!words.contains s
def bo3 (s:Str):Bool:=av2 s&&(s.head? == some 47)
def ci1 (b:UInt8):Bool:=fo3 b || [46,95,43,126,94].contains b
def bg9 (s:Str):Bool:=decide (1<=s.length)&&decide (s.length<=64)&&s.all ci1
def bh2 (e:EVR)(dep:Bool):Bool:=decide (0<=e.am6)&&decide (e.am6<=2147483647)&&bg9 e.ver&&(bg9 e.rel||dep&&e.rel.isEmpty)
def ex1 (op:Int):Bool:=[0,1,2,3,4,6].contains op
def hp4:EVR:=⟨0,[],[]⟩
def fo4:Dep:=⟨[],0,hp4⟩
def an8 (d:Dep):Bool:=av2 d.name&&ex1 d.op&&(if d.op=0 then decide (d.evr=hp4) else !bo3 d.name&&bh2 d.evr true)
def ac5 (b:UInt8):Nat:=if b=126 then 1 else if b=94 then 3 else if decide (97<=b)&&decide (b<=122)||decide (65<=b)&&decide (b<=90) then 4 else if decide (48<=b)&&decide (b<=57) then 5 else 0
structure Part where
 kind:Nat
 s:Str
 deriving DecidableEq,Inhabited
def aq4:Nat->Str->List Part
 | 0,_=>[]
 | _+1,[]=>[]
 | n+1,b::l=>
  if ac5 b=0 then aq4 n l
  else if ac5 b<4 then ⟨ac5 b,[]⟩::aq4 n l
  else ⟨ac5 b,if ac5 b=5 then ((b::l).takeWhile fun c=>ac5 c==ac5 b).dropWhile (· == 48) else (b::l).takeWhile fun c=>ac5 c==ac5 b⟩::aq4 n ((b::l).dropWhile fun c=>ac5 c==ac5 b)
def ab4 (s:Str):List Part:=aq4 s.length s
def ao7 (a b:Int):Int:=if a<b then -1 else if a=b then 0 else 1
def cj8 (a b:Str):Int:=if Op.bytesLess a b then -1 else if a=b then 0 else 1
def af8 (a b:Part):Int :=
 let k:=ao7 a.kind b.kind
 if k≠0 then k else
 let n:=if a.kind=5/\b.kind=5 then ao7 a.s.length b.s.length else 0
 if n≠0 then n else cj8 a.s b.s
def aj4:List Part->List Part->Int
 | a::aZ,b::bs=>if af8 a b≠0 then af8 a b else aj4 aZ bs
 | _,_=>0
def au2 (a b:Str):Int:=aj4 (ab4 a++[⟨2,[]⟩]) (ab4 b++[⟨2,[]⟩])
def be5 (a b:EVR):Int :=
 if ao7 a.am6 b.am6≠0 then ao7 a.am6 b.am6 else
 if au2 a.ver b.ver≠0 then au2 a.ver b.ver else
 if a.rel=[]\/b.rel=[] then 0 else au2 a.rel b.rel
def bit (op:Int)(i:Nat):Bool:=(op.toNat).testBit i
def side (n:Int):Nat:=if n<0 then 0 else if n=0 then 1 else 2
def meet (a b:Dep):Bool :=
 if a.op.toNat%8=0\/b.op.toNat%8=0 then true else
 let n:=be5 a.evr b.evr
 if n=0 then bit a.op 0&&bit b.op 0||bit a.op 1&&bit b.op 1||bit a.op 2&&bit b.op 2
 else bit a.op (side (-n))||bit b.op (side n)
mutual
def aa9.count:aa9->Nat
 | .mk _ _ aZ=>aa9.counts aZ+1
def aa9.counts:List aa9->Nat
 | []=>0
 | r::rs=>r.count+aa9.counts rs
end
mutual
def aa9.depth:aa9->Nat
 | .mk k _ aZ=>if k=1 then 0 else aa9.bh3 aZ+1
def aa9.bh3:List aa9->Nat
 | []=>0
 | r::rs=>max r.depth (aa9.bh3 rs)
end
-- All parts,and whether each stands within a With,or a Without.
mutual
def aa9.parts:aa9->Bool->List (aa9×Bool)
 | .mk k d aZ,alone=>(.mk k d aZ,alone)::aa9.av3 aZ (alone||decide (k=6)||decide (k=7))
def aa9.av3:List aa9->Bool->List (aa9×Bool)
 | [],_=>[]
 | r::rs,alone=>r.parts alone++aa9.av3 rs alone
end
def asks (k:Int):Nat×Nat×Bool×Nat :=
 if k=1 then (0,0,true,3) else if k=2 then (2,24,true,3) else if k=3 then (2,24,true,3) else if k=4 then (2,3,false,1)
 else if k=5 then (2,3,false,2) else if k=6 then (2,24,true,3) else if k=7 then (2,2,true,3) else (0,0,false,0)
def ah9 (wh:Int)(r:aa9)(alone:Bool):Bool :=
 let x:=asks r.kind
 !(decide ((x.2.2.2:Int)<wh)||alone&&!x.2.2.1||decide (r.args.length<x.1)||decide (x.2.1<r.args.length)) &&
 (if r.kind=1 then an8 r.dep else decide (r.dep=fo4))
def ar7 (r:aa9)(wh:Int):Int :=
 if wh<1\/3<wh then 1 else if r.count>24 then 40 else if r.depth>8 then 21 else if (r.parts false).all fun p=>ah9 wh p.1 p.2 then 0 else 4
mutual
def aa9.same:aa9->aa9->Bool
 | .mk k d aZ,.mk k' d' as'=>decide (k=k')&&decide (d=d')&&aa9.he3 aZ as'
def aa9.he3:List aa9->List aa9->Bool
 | [],[]=>true
 | r::rs,s::ss=>r.same s&&aa9.he3 rs ss
 | _,_=>false
end
structure aa4.Fit (p:aa4):Prop where
 name:p.name.length<2^62
 evr:p.evr.fit
 bp7:p.provides.length<2^31/\∀ d∈p.provides,d.fit
 obs:p.ac6.length<2^31/\∀ d∈p.ac6,d.fit
 files:p.files.length<2^31/\∀ s∈p.files,s.length<2^62
 db2:∀ x∈p.rows,x.2.length<2^31/\∀ r∈x.2,r.fit/\r.count<2^31
def bt4 (a:Int):Bool:=decide (1<=a)&&decide (a<=4)
def rising:List Str->Bool
 | a::b::l=>Op.bytesLess a b&&rising (b::l)
 | _=>true
def ak8 (l:List aa9)(wh:Int):Bool:=decide (l.length<=32)&&l.all fun r=>decide (ar7 r wh=0)
def ah1 (p:aa4):Bool :=
 av2 p.name&&!bo3 p.name&&bh2 p.evr false&&bt4 p.ex2&&decide (p.vendor.length<=64) &&
 (decide (p.provides.length<=32)&&p.provides.all an8)&&(decide (p.ac6.length<=32)&&p.ac6.all an8)&&(decide (p.files.length<=32)&&p.files.all bo3) &&
 rising p.files&&ak8 p.requires 1&&ak8 p.conflicts 2&&ak8 p.ac3 1&&ak8 p.ab9 3&&ak8 p.suggests 1&&ak8 p.ad8 3
def own (p:aa4):Dep:=⟨p.name,2,p.evr⟩
def meets (a d:Dep):Bool:=decide (a.name=d.name)&&meet a d
def named (p:aa4)(d:Dep):Bool:=meets (own p) d
def provides (p:aa4)(d:Dep):Bool:=named p d||p.provides.any (fun a=>meets a d)||decide (d.op=0)&&p.files.contains d.name
def ac6 (p q:aa4):Bool:=p.ac6.any fun d=>named q d
def he4 (l m:List aa9):Bool:=aa9.he3 l m
end Go.Id.Md
set_option linter.all false
namespace Go.Id.Md
open Go Go.Id
structure bb9 where
 pkg:aa4
 ef4:Int
 prio:Int
def bb9.cs (r:bb9):List IV:=r.pkg.cs++[.int .i64 r.ef4,.int .i64 r.prio]
abbrev Nms:=List (Str×List Int)
def az7:Nms->Str->Int->Nms
 | [],k,n=>[(k,[n])]
 | t::ts,k,n=>if k=t.1 then (k,t.2++[n])::ts else t::az7 ts k n
def cr7:Nms->Nat->List aa4->Nms
 | nm,_,[]=>nm
 | nm,n,p::ps=>cr7 (az7 nm p.name n) (n+1) ps
def af9 (n:Int):List IV:=[.int .i64 n]
def nmV (nm:Nms):List (IV×IV):=nm.map fun t=>(.str t.1,.aa3 (t.2.map af9))
structure Pool where
 rows:List bb9
 inst:Int
 nm:Nms
def Pool.v (p:Pool):IV:=.ad4 [.aa3 (p.rows.map bb9.cs),.int .i64 p.inst,.al4 (nmV p.nm)]
def rowsOf (l:List aa4)(ef4 prio:Int):List bb9:=l.map fun p=>⟨p,ef4,prio⟩
theorem dy9 (l:List aa4)(x:aa4)(a b:Int):rowsOf (l++[x]) a b=rowsOf l a b++[⟨x,a,b⟩]:=by simp[rowsOf]
theorem bm4 (l:List aa4)(a b:Int):(rowsOf l a b).length=l.length:=by simp[rowsOf]
def ag5:Nat->List ak2->List bb9×Nms->Option (List bb9×Nms)
 | _,[],st=>some st
 | i,r::rs,st=>if r.priority<0\/1024<r.priority\/r.packages.all ah1=false then none else ag5 (i+1) rs (st.1++rowsOf r.packages i r.priority,cr7 st.2 st.1.length r.packages)
def ag6 (l:List ak2):Nat:=(l.map fun r=>r.packages.length).sum
def co5 (ab5:List ak2)(inst:List aa4):Pool ⊕ Int :=
 if 16<ab5.length\/256<inst.length+ag6 ab5 then .inr 40 else
 if inst.all ah1=false then .inr 4 else
 match ag5 0 ab5 (rowsOf inst (-1) 1025,cr7 [] 0 inst) with
 | some (rows,nm)=>.inl ⟨rows,inst.length,nm⟩
 | none=>.inr 4
def id7 (r:Pool ⊕ Int):IV:=match r with
 | .inl p=>.tuple [p.v,.int .i64 0]
 | .inr e=>.tuple [.af2,.int .i64 e]
abbrev NmL:=List (Str×List Int×Nat)
def mEs (L:NmL):List (IV×IV):=L.map fun t=>(.str t.1,.slice t.2.2 0 t.2.1.length 1)
def cd9 (L:NmL):Nms:=L.map fun t=>(t.1,t.2.1)
def cg8:NmL->Str->Int->Nat->NmL
 | [],k,n,nid=>[(k,[n],nid)]
 | t::ts,k,n,nid=>if k=t.1 then (k,t.2.1++[n],nid)::ts else t::cg8 ts k n nid
def dg2 (L:NmL)(k:Str):IV:=match L.find? (fun t=>decide (k=t.1)) with
 | some t=>.slice t.2.2 0 t.2.1.length 1
 | none=>.aa1
def db3 (L:NmL)(k:Str):List Int:=match L.find? (fun t=>decide (k=t.1)) with
 | some t=>t.2.1
 | none=>[]
theorem gh9 (L:NmL)(k:Str)(n:Int)(nid:Nat):cd9 (cg8 L k n nid)=az7 (cd9 L) k n:=by
 induction L with
 | nil=>rfl
 | cons t ts ih=>
  simp only[cg8,cd9,List.map_cons,az7];split
  ·rfl
  ·rw[List.map_cons]; congr 1
theorem id8 (L:NmL)(k:Str):(at6 2 (.str k) (mEs L)).map (fun r=>r.getD .aa1)=some (dg2 L k):=by
 induction L with
 | nil=>rfl
 | cons t ts ih=>
  simp only[mEs,List.map_cons,at6,gq7,dg2,List.find?_cons] at ih ⊢;by_cases h:k=t.1
  ·simp[h]
  ·simp only[h,decide_false] at ih ⊢;exact ih
theorem he5 (L:NmL)(k:Str):∃ r,at6 2 (.str k) (mEs L)=some r/\r.getD .aa1=dg2 L k:=by
 have:=id8 L k
 cases h:at6 2 (.str k) (mEs L) with
 | none=>rw[h] at this; cases this
 | some r=>rw[h] at this; exact ⟨r,rfl,by simpa using this⟩
theorem ir4 (L:NmL)(k:Str)(n:Int)(nid:Nat):ct1 2 (.str k) (.slice nid 0 ((db3 L k).length+1) 1) (mEs L)=some (mEs (cg8 L k n nid)):=by
 induction L with
 | nil=>rfl
 | cons t ts ih=>
  simp only[mEs,List.map_cons,ct1,gq7,db3,List.find?_cons,cg8] at ih ⊢;by_cases h:k=t.1
  ·simp[h]
  ·simp only[h,decide_false,if_false,List.map_cons] at ih ⊢;rw[ih]; rfl
theorem dg3 {k:Str}{n:Int}{nid:Nat}:∀ {L:NmL},(L.map (·.1)).Nodup->∀ t∈cg8 L k n nid,(t∈L/\t.1≠k)\/t=(k,db3 L k++[n],nid):=by
 intro L
 induction L with
 | nil=>intro _ t ht; simp[cg8] at ht; exact .inr (by rw[ht]; rfl)
 | cons u us ih=>
  intro hk t ht;rw[List.map_cons,List.nodup_cons] at hk;simp only[cg8] at ht;by_cases h:k=u.1
  ·rw[if_pos h] at ht;rcases List.mem_cons.1 ht with rfl|ht
   ·right; simp[db3,h]
   ·left;exact ⟨List.mem_cons_of_mem _ ht,fun e=>hk.1 (by rw[<- h,<- e]; exact List.mem_map_of_mem (f:=fun x:Str×List Int×Nat=>x.1) ht)⟩
  ·rw[if_neg h] at ht;rcases List.mem_cons.1 ht with rfl|ht
   ·left; exact ⟨List.mem_cons_self ..,fun e=>h e.symm⟩
   ·have e:db3 (u::us) k=db3 us k:=by simp[db3,h]
    rw[e];rcases ih hk.2 t ht with ⟨h1,h2⟩|h1
    ·exact .inl ⟨List.mem_cons_of_mem _ h1,h2⟩
    ·exact .inr h1
theorem ef3 {k:Str}{n:Int}{nid:Nat}:∀ (L:NmL),(L.map (·.1)).Nodup->((cg8 L k n nid).map (·.1)).Nodup/\∀ x∈(cg8 L k n nid).map (·.1),x=k\/x∈L.map (·.1):=by
 intro L
 induction L with
 | nil=>intro _; simp[cg8]
 | cons u us ih=>
  intro hk;rw[List.map_cons,List.nodup_cons] at hk;simp only[cg8];by_cases h:k=u.1
  ·rw[if_pos h];refine ⟨?_,?_⟩
   ·rw[List.map_cons,List.nodup_cons]; exact ⟨by rw[h]; exact hk.1,hk.2⟩
   ·intro x hx;simp only[List.map_cons,List.mem_cons] at hx ⊢;rcases hx with h1|h1
    ·exact .inl h1
    ·exact .inr (.inr h1)
  ·rw[if_neg h];obtain ⟨h1,h2⟩:=ih hk.2;refine ⟨?_,?_⟩
   ·rw[List.map_cons,List.nodup_cons];refine ⟨fun hm=>?_,h1⟩;rcases h2 _ hm with e|e
    ·exact h e.symm
    ·exact hk.1 e
   ·intro x hx;simp only[List.map_cons,List.mem_cons] at hx ⊢;rcases hx with h3|h3
    ·exact .inr (.inl h3)
    ·rcases h2 _ h3 with e|e
     ·exact .inl e
     ·exact .inr (.inr e)
theorem fo5 {k:Str}{n:Int}{nid:Nat}:∀ (L:NmL),(L.map (·.2.2)).Nodup->nid ∉ L.map (·.2.2)->((cg8 L k n nid).map (·.2.2)).Nodup/\∀ x∈(cg8 L k n nid).map (·.2.2),x=nid\/x∈L.map (·.2.2):=by
 intro L
 induction L with
 | nil=>intro _ _; simp[cg8]
 | cons u us ih=>
  intro hk hn;rw[List.map_cons,List.nodup_cons] at hk;simp only[List.map_cons,List.mem_cons,not_or] at hn;simp only[cg8];by_cases h:k=u.1
  ·rw[if_pos h];refine ⟨?_,?_⟩
   ·rw[List.map_cons,List.nodup_cons]; exact ⟨hn.2,hk.2⟩
   ·intro x hx;simp only[List.map_cons,List.mem_cons] at hx ⊢;rcases hx with h1|h1
    ·exact .inl h1
    ·exact .inr (.inr h1)
  ·rw[if_neg h];obtain ⟨h1,h2⟩:=ih hk.2 hn.2;refine ⟨?_,?_⟩
   ·rw[List.map_cons,List.nodup_cons];refine ⟨fun hm=>?_,h1⟩;rcases h2 _ hm with e|e
    ·exact hn.1 e.symm
    ·exact hk.1 e
   ·intro x hx;simp only[List.map_cons,List.mem_cons] at hx ⊢;rcases hx with h3|h3
    ·exact .inr (.inl h3)
    ·rcases h2 _ h3 with e|e
     ·exact .inl e
     ·exact .inr (.inr e)
theorem bt5 (L:NmL)(k:Str):(dg2 L k=.aa1/\db3 L k=[])\/∃ t∈L,t.1=k/\dg2 L k=.slice t.2.2 0 t.2.1.length 1/\db3 L k=t.2.1:=by
 unfold dg2 db3
 cases h:L.find? (fun t=>decide (k=t.1)) with
 | none=>exact .inl ⟨rfl,rfl⟩
 | some t=>
  have h1:=List.find?_some h;exact .inr ⟨t,List.mem_of_find?_eq_some h,by simpa using (by simpa using h1:k=t.1).symm,rfl,rfl⟩
theorem fo6 {L:NmL}(hk:(L.map (·.1)).Nodup)(hd:(L.map (·.2.2)).Nodup):∀ t∈L,∀ u∈L,t.2.2=u.2.2->t=u:=by
 intro t ht u hu e;obtain ⟨i,hi,h1⟩:=List.mem_iff_getElem.1 ht;obtain ⟨j,hj,h2⟩:=List.mem_iff_getElem.1 hu
 have hij:i=j:=by
  have hi':i<(L.map (·.2.2)).length:=by simpa using hi
  have hj':j<(L.map (·.2.2)).length:=by simpa using hj
  have hp:=List.pairwise_iff_getElem.1 hd;have e2:(L.map (·.2.2))[i]=(L.map (·.2.2))[j]:=by simp only[List.getElem_map,h1,h2,e]
  rcases Nat.lt_trichotomy i j with h|h|h
  ·exact absurd e2 (hp i j hi' hj' h)
  ·exact h
  ·exact absurd e2.symm (hp j i hj' hi' h)
 subst hij;rw[<- h1,<- h2]
end Go.Id.Md
set_option linter.all false
namespace Go.Id.Md
open Go Go.Id
def ak9:Nms->Str->List Int
 | [],_=>[]
 | t::ts,k=>if k=t.1 then t.2 else ak9 ts k
def KN (nm:Nms):Prop:=(nm.map (·.1)).Nodup
theorem ex9 {k:Str}{n:Int}:∀ {nm:Nms},∀ x∈(az7 nm k n).map (·.1),x=k\/x∈nm.map (·.1):=by
 intro nm
 induction nm with
 | nil=>intro x hx; simpa [az7] using hx
 | cons u us ih=>
  intro x hx;simp only[az7] at hx;split at hx
  ·rename_i e; simp only[List.map_cons,List.mem_cons] at hx ⊢;rcases hx with h|h
   ·exact .inl h
   ·exact .inr (.inr h)
  ·simp only[List.map_cons,List.mem_cons] at hx ⊢;rcases hx with h|h
   ·exact .inr (.inl h)
   ·rcases ih x h with h|h
    ·exact .inl h
    ·exact .inr (.inr h)
theorem bt7 {nm:Nms}{k:Str}{n:Int}(h:KN nm):KN (az7 nm k n):=by
 induction nm with
 | nil=>simp[KN,az7]
 | cons u us ih=>
  have h':u.1 ∉ us.map (·.1)/\KN us:=by simpa [KN] using h
  simp only[az7];split
  ·rename_i e; subst e; exact h
  ·rename_i e;show ((u::az7 us k n).map (·.1)).Nodup;rw[List.map_cons,List.nodup_cons];refine ⟨fun hm=>?_,ih h'.2⟩;rcases ex9 _ hm with h1|h1
   ·exact e h1.symm
   ·exact h'.1 h1
theorem KN.nd {nm:Nms}(h:KN nm):nm.Nodup:=by
 induction nm with
 | nil=>exact List.nodup_nil
 | cons u us ih=>
  have h':u.1 ∉ us.map (·.1)/\KN us:=by simpa [KN] using h
  exact List.nodup_cons.2 ⟨fun hm=>h'.1 (List.mem_map.2 ⟨u,hm,rfl⟩),ih h'.2⟩
theorem KN.perm {nm nm':Nms}(h:KN nm)(p:nm.Perm nm'):KN nm':=(p.map (fun x:Str×List Int=>x.1)).nodup_iff.1 h
theorem ce2 {nm:Nms}(h:KN nm)(k:Str)(n:Int)(j:Str):ak9 (az7 nm k n) j=if j=k then ak9 nm k++[n] else ak9 nm j:=by
 induction nm with
 | nil=>
  simp only[az7,ak9]
  split<;>rfl
 | cons u us ih=>
  have h':u.1 ∉ us.map (·.1)/\KN us:=by simpa [KN] using h
  simp only[az7,ak9];by_cases e:k=u.1
  ·rw[if_pos e,if_pos e];simp only[ak9];by_cases ej:j=k
   ·rw[if_pos ej,if_pos ej]
   ·rw[if_neg ej,if_neg ej,if_neg (fun x=>ej (x.trans e.symm))]
  ·rw[if_neg e,if_neg e];simp only[ak9,ih h'.2];by_cases ej:j=k
   ·rw[if_pos ej,if_pos ej,if_neg (fun x=>e (ej.symm.trans x))]
   ·rw[if_neg ej,if_neg ej]
def db5 (nm:Nms)(ks:List Str)(n:Int):Nms:=ks.foldl (fun m k=>az7 m k n) nm
theorem dp9 {n:Int}:∀ {ks:List Str} {nm:Nms},KN nm->KN (db5 nm ks n)
 | [],_,h=>h
 | _::ks,_,h=>dp9 (ks:=ks) (bt7 h)
def dq1 (l:List Str)(k:Str):List Str:=if k∈l then l else l++[k]
def ij9 (p:aa4):List Str:=p.files.foldl dq1 ((p.provides.map (·.name)).foldl dq1 [p.name])
def bp8 (nm:Nms)(ds:List Str)(n:Int):Nms:=ds.foldl (fun m k=>if n∈ak9 m k then m else az7 m k n) nm
structure Index where
 all:List aa4
 bp7:Nms
 names:Nms
 over:Nms
def Index.v (x:Index):IV:=.ad4 [.aa3 (x.all.map aa4.cs),.al4 (nmV x.bp7),.al4 (nmV x.names),.al4 (nmV x.over)]
def gs4 (x:Index)(n:Nat)(p:aa4):Index:=⟨x.all++[p],db5 x.bp7 (ij9 p) n,az7 x.names p.name n,bp8 x.over (p.ac6.map (·.name)) n⟩
def idxFrom (x:Index):Nat->List aa4->Index
 | _,[]=>x
 | n,p::ps=>idxFrom (gs4 x n p) (n+1) ps
def ja6 (l:List aa4):Index:=idxFrom ⟨[],[],[],[]⟩ 0 l
end Go.Id.Md
/- Indexes,in plain words: who stands in them,by number. Conditions: none; no program in sight. -/
namespace Go.Id.Md
open Go Go.Id
def numsOf (q:aa4->Bool)(l:List aa4):List Int:=((List.range l.length).filter fun n=>q (l.getD n default)).map fun (n:Nat)=>(n:Int)
theorem bp9 (q:aa4->Bool)(l:List aa4)(p:aa4):numsOf q (l++[p])=numsOf q l++if q p then [(l.length:Int)] else []:=by
 unfold numsOf;rw[List.length_append,List.length_singleton,List.range_succ,List.filter_append,List.map_append];congr 1
 ·congr 1;refine List.filter_congr fun n hn=>?_
  have h:=List.mem_range.1 hn;simp[List.getD_eq_getElem?_getD,List.getElem?_append,h]
 ·have e:(l++[p]).getD l.length default=p:=by simp[List.getD_eq_getElem?_getD]
  simp only[List.filter_cons,List.filter_nil,e];split<;>rfl
theorem ey1 {q:aa4->Bool}{l:List aa4}{n:Int}:n∈numsOf q l↔∃ m:Nat,n=m/\m<l.length/\q (l.getD m default)=true:=by
 unfold numsOf;rw[List.mem_map];constructor
 ·rintro ⟨m,hm,rfl⟩;obtain ⟨h1,h2⟩:=List.mem_filter.1 hm;exact ⟨m,rfl,List.mem_range.1 h1,h2⟩
 ·rintro ⟨m,rfl,h1,h2⟩;exact ⟨m,List.mem_filter.2 ⟨List.mem_range.2 h1,by simpa using h2⟩,rfl⟩
theorem dz1 {n:Int}:∀ (ks:List Str) {nm:Nms},KN nm->ks.Nodup->∀ j,ak9 (db5 nm ks n) j=ak9 nm j++if j∈ks then [n] else []:=by
 intro ks
 induction ks with
 | nil=>intro nm _ _ j; simp[db5]
 | cons k ks ih=>
  intro nm h hnd j;obtain ⟨h1,h2⟩:=List.nodup_cons.1 hnd;show ak9 (db5 (az7 nm k n) ks n) j=_;rw[ih (bt7 h) h2,ce2 h];by_cases e:j=k
  ·subst e; simp[h1]
  ·simp[e]
theorem ey2 {n:Int}:∀ (ks:List Str) {nm:Nms},KN nm->KN (bp8 nm ks n):=by
 intro ks
 induction ks with
 | nil=>intro nm h; exact h
 | cons k ks ih=>
  intro nm h;show KN (bp8 (if n∈ak9 nm k then nm else az7 nm k n) ks n);split
  ·exact ih h
  ·exact ih (bt7 h)
theorem dq2 {n:Int}:∀ (ks:List Str) {nm:Nms},KN nm->∀ j,ak9 (bp8 nm ks n) j=ak9 nm j++if j∈ks/\n ∉ ak9 nm j then [n] else []:=by
 intro ks
 induction ks with
 | nil=>intro nm _ j; simp[bp8]
 | cons k ks ih=>
  intro nm h j;show ak9 (bp8 (if n∈ak9 nm k then nm else az7 nm k n) ks n) j=_;by_cases hk:n∈ak9 nm k
  ·rw[if_pos hk,ih h];by_cases e:j=k
   ·subst e; simp[hk]
   ·simp[e]
  ·rw[if_neg hk,ih (bt7 h),ce2 h];by_cases e:j=k
   ·subst e; simp[hk]
   ·simp[e]
theorem ey3 {l:List Str}(h:l.Nodup)(k:Str):(dq1 l k).Nodup:=by
 unfold dq1;split
 ·exact h
 ·rename_i hk;rw[List.nodup_append];exact ⟨h,by simp,fun a ha b hb e=>by simp at hb; subst hb; subst e; exact hk ha⟩
theorem bq1:∀ (ks:List Str) {l:List Str},l.Nodup->(ks.foldl dq1 l).Nodup
 | [],_,h=>h
 | k::ks,_,h=>bq1 ks (ey3 h k)
theorem gi3 (p:aa4):(ij9 p).Nodup:=bq1 _ (bq1 _ (by simp))
structure he8 (x:Index) (l:List aa4):Prop where
 all:x.all=l
 kp:KN x.bp7
 kn:KN x.names
 ko:KN x.over
 bp7:∀ j,ak9 x.bp7 j=numsOf (fun p=>decide (j∈ij9 p)) l
 names:∀ j,ak9 x.names j=numsOf (fun p=>decide (p.name=j)) l
 over:∀ j,ak9 x.over j=numsOf (fun p=>decide (∃ d∈p.ac6,d.name=j)) l
theorem he8.add {x:Index}{l:List aa4}(h:he8 x l)(p:aa4):he8 (gs4 x l.length p) (l++[p]) where
 all:=by show x.all++[p]=_; rw[h.all]
 kp:=dp9 h.kp
 kn:=bt7 h.kn
 ko:=ey2 _ h.ko
 bp7:=fun j=>by
  show ak9 (db5 x.bp7 (ij9 p) _) j=_;rw[dz1 _ h.kp (gi3 p),h.bp7,bp9];simp
 names:=fun j=>by
  show ak9 (az7 x.names p.name _) j=_;rw[ce2 h.kn,h.names,h.names,bp9];by_cases e:j=p.name
  ·subst e; simp
  ·have e':¬ p.name=j:=fun h=>e h.symm
   simp[e,e']
 over:=fun j=>by
  show ak9 (bp8 x.over _ _) j=_;rw[dq2 _ h.ko,h.over,bp9]
  have hn:(l.length:Int) ∉ numsOf (fun p=>decide (∃ d∈p.ac6,d.name=j)) l:=fun hm=>by
   obtain ⟨m,e,h1,_⟩:=ey1.1 hm;omega
  simp[hn]
def ey4 (l:List aa4)(d:Dep):List Int:=numsOf (fun p=>provides p d) l
end Go.Id.Md
set_option linter.all false
namespace Go.Id.Md
open Go Go.Id
mutual
def aa9.ok:aa9->Prop
 | .mk k d xs=>0<=k/\k<256/\d.fit/\xs.length<2^62/\aa9.oks xs
def aa9.oks:List aa9->Prop
 | []=>True
 | r::rs=>r.ok/\aa9.oks rs
end
theorem aa9.he9 (l:List aa9):aa9.oks l↔∀ r∈l,r.ok:=by
 induction l with
 | nil=>simp[aa9.oks]
 | cons r rs ih=>simp[aa9.oks,ih]
theorem aa9.hf4 {k:Int}{d:Dep}{xs:List aa9}:(aa9.mk k d xs).ok↔0<=k/\k<256/\d.fit/\xs.length<2^62/\∀ r∈xs,r.ok:=by
 simp only[aa9.ok,aa9.he9]
structure aa4.Ok (p:aa4):Prop where
 name:p.name.length<2^62
 vendor:p.vendor.length<2^62
 evr:p.evr.fit
 bp7:p.provides.length<2^62/\∀ d∈p.provides,d.fit
 obs:p.ac6.length<2^62/\∀ d∈p.ac6,d.fit
 files:p.files.length<2^62/\∀ s∈p.files,s.length<2^62
 db2:∀ x∈p.rows,x.2.length<2^62/\∀ r∈x.2,r.ok
def ak2.Ok (r:ak2):Prop:=r.packages.length<2^62/\∀ p∈r.packages,p.Ok
def ax3 (p:aa4):List (List aa9):=[p.requires,p.conflicts,p.ac3,p.ab9,p.suggests,p.ad8]
def ax4:Nat->List ak2->List bb9
 | _,[]=>[]
 | i,r::rs=>rowsOf r.packages i r.priority++ax4 (i+1) rs
theorem cr8:∀ (rs:List ak2) (i:Nat) (st:List bb9×Nms) (out:List bb9×Nms),ag5 i rs st=some out->out.1=st.1++ax4 i rs:=by
 intro rs
 induction rs with
 | nil=>intro i st out h; simp only[ag5,Option.some.injEq] at h; subst h; simp[ax4]
 | cons r rs ih=>
  intro i st out h;simp only[ag5] at h;split at h
  ·cases h
  ·rw[ih _ _ _ h]; simp[ax4]
theorem gi4 {ab5:List ak2}{inst:List aa4}{p:Pool}(h:co5 ab5 inst=.inl p):p.rows=rowsOf inst (-1) 1025++ax4 0 ab5/\p.inst=inst.length:=by
 unfold co5 at h;split at h
 ·cases h
 split at h
 ·cases h
 split at h
 ·rename_i rows nm hr;cases h;exact ⟨cr8 _ _ _ _ hr,rfl⟩
 ·cases h
theorem gi5 {ab5:List ak2}{inst:List aa4}{e:Int}(h:co5 ab5 inst=.inr e):e=40\/e=4:=by
 unfold co5 at h;split at h
 ·cases h; exact .inl rfl
 split at h
 ·cases h; exact .inr rfl
 split at h
 ·cases h
 ·cases h; exact .inr rfl
end Go.Id.Md
/- Pools of packages that may be: sizes. Conditions: none; no program in sight. -/
namespace Go.Id.Md
open Go Go.Id
theorem dg5:∀ (rs:List ak2) (i:Nat) (st:List bb9×Nms) (out:List bb9×Nms),ag5 i rs st=some out->∀ r∈rs,r.packages.all ah1=true:=by
 intro rs
 induction rs with
 | nil=>intro i st out _ r hr; cases hr
 | cons x xs ih=>
  intro i st out h r hr;simp only[ag5] at h;split at h
  ·cases h
  ·rename_i hc;rcases List.mem_cons.1 hr with rfl|hr
   ·cases hb:r.packages.all ah1 with
    | true=>rfl
    | false=>exact absurd (.inr (.inr hb)) hc
   ·exact ih _ _ _ h r hr
theorem ce3 {ab5:List ak2}{inst:List aa4}{p:Pool}(h:co5 ab5 inst=.inl p):ab5.length<=16/\inst.length+ag6 ab5<=256/\inst.all ah1=true/\∀ r∈ab5,r.packages.all ah1=true:=by
 unfold co5 at h;split at h
 ·cases h
 rename_i hc;split at h
 ·cases h
 rename_i hm;split at h
 ·rename_i rows nm hr;exact ⟨by omega,by omega,by simpa using hm,dg5 _ _ _ _ hr⟩
 ·cases h
theorem db6 (l:List aa4)(a b:Int):(rowsOf l a b).map (·.pkg)=l:=by
 induction l with
 | nil=>rfl
 | cons x xs ih=>show x::(rowsOf xs a b).map (·.pkg)=_; rw[ih]
def an9 (p:Pool):List aa4:=p.rows.map (·.pkg)
theorem dg6:∀ (rs:List ak2) (i:Nat),(ax4 i rs).map (·.pkg)=rs.flatMap (·.packages):=by
 intro rs
 induction rs with
 | nil=>intro i; rfl
 | cons r rs ih=>intro i; simp only[ax4,List.map_append,ih,db6,List.flatMap_cons]
theorem fo8:∀ (rs:List ak2),(rs.flatMap (·.packages)).length=ag6 rs:=by
 intro rs
 induction rs with
 | nil=>rfl
 | cons r rs ih=>simp only[List.flatMap_cons,List.length_append,ih]; rfl
theorem co8 {ab5:List ak2}{inst:List aa4}{p:Pool}(h:co5 ab5 inst=.inl p):an9 p=inst++ab5.flatMap (·.packages):=by
 unfold an9;rw[(gi4 h).1,List.map_append,dg6];congr 1;exact db6 _ _ _
theorem ef6 {ab5:List ak2}{inst:List aa4}{p:Pool}(h:co5 ab5 inst=.inl p):p.rows.length<=256:=by
 have e:p.rows.length=(an9 p).length:=by simp[an9]
 rw[e,co8 h,List.length_append,fo8];exact (ce3 h).2.1
theorem ef7 {ab5:List ak2}{inst:List aa4}{p:Pool}(h:co5 ab5 inst=.inl p):∀ x∈an9 p,ah1 x=true/\(x∈inst\/∃ r∈ab5,x∈r.packages):=by
 intro x hx;rw[co8 h] at hx;obtain ⟨_,_,h1,h2⟩:=ce3 h;rcases List.mem_append.1 hx with hx|hx
 ·exact ⟨List.all_eq_true.1 h1 x hx,.inl hx⟩
 ·obtain ⟨r,hr,hxr⟩:=List.mem_flatMap.1 hx;exact ⟨List.all_eq_true.1 (h2 r hr) x hxr,.inr ⟨r,hr,hxr⟩⟩
def EVR.tiny (e:EVR):Prop:=e.ver.length<=64/\e.rel.length<=64
theorem ef8 {s:Str}(h:bg9 s=true):s.length<=64:=by
 unfold bg9 at h;simp only[Bool.and_eq_true,decide_eq_true_eq] at h;exact h.1.2
theorem ef9 {e:EVR}{b:Bool}(h:bh2 e b=true):e.tiny:=by
 unfold bh2 at h;simp only[Bool.and_eq_true,Bool.or_eq_true,decide_eq_true_eq] at h;refine ⟨ef8 h.1.2,?_⟩;rcases h.2 with h|h
 ·exact ef8 h
 ·have:=List.isEmpty_iff.1 h.2; rw[this]; exact Nat.zero_le _
theorem dg7 {d:Dep}(h:an8 d=true):0<=d.op/\d.op<256/\d.evr.tiny/\d.name.length<=64:=by
 unfold an8 at h;simp only[Bool.and_eq_true] at h;obtain ⟨⟨h1,h2⟩,h3⟩:=h
 have hn:d.name.length<=64:=by
  unfold av2 at h1;simp only[Bool.and_eq_true,decide_eq_true_eq] at h1;exact h1.1.1.2
 have ho:0<=d.op/\d.op<256:=by
  unfold ex1 at h2;simp only[List.contains_iff_mem,List.mem_cons,List.not_mem_nil,or_false] at h2;omega
 refine ⟨ho.1,ho.2,?_,hn⟩;split at h3
 ·have:d.evr=hp4:=by simpa using h3
  rw[this]; exact ⟨by decide,by decide⟩
 ·simp only[Bool.and_eq_true] at h3;exact ef9 h3.2
structure aa4.Tiny (p:aa4):Prop where
 name:p.name.length<=64
 evr:p.evr.tiny
 bp7:p.provides.length<=32/\∀ d∈p.provides,0<=d.op/\d.op<256/\d.evr.tiny/\d.name.length<=64
 obs:p.ac6.length<=32/\∀ d∈p.ac6,0<=d.op/\d.op<256/\d.evr.tiny/\d.name.length<=64
 files:p.files.length<=32
theorem eg1 {p:aa4}(h:ah1 p=true):p.Tiny:=by
 unfold ah1 at h;simp only[Bool.and_eq_true,decide_eq_true_eq] at h;obtain ⟨⟨⟨⟨⟨⟨⟨⟨⟨⟨⟨⟨⟨⟨h1,_⟩,h3⟩,_⟩,_⟩,h6,h6'⟩,h7,h7'⟩,h8,_⟩,_⟩,_⟩,_⟩,_⟩,_⟩,_⟩,_⟩:=h;refine ⟨?_,ef9 h3,⟨h6,fun d hd=>dg7 (List.all_eq_true.1 h6' d hd)⟩,⟨h7,fun d hd=>dg7 (List.all_eq_true.1 h7' d hd)⟩,h8⟩;unfold av2 at h1;simp only[Bool.and_eq_true,decide_eq_true_eq] at h1;exact h1.1.1.2
end Go.Id.Md
/- What is asked for,in plain words: successors,newcomers,whom a job means,what fulfils it. Conditions: none; no program in sight. -/
namespace Go.Id.Md
open Go Go.Id
structure Job where
 kind:Int
 dep:Dep
 deriving DecidableEq,Inhabited
structure hp5 where
 kind:Int
 n:Int
 deriving DecidableEq,Inhabited
structure Req where
 ex2:Int
 vendor:Bool
 ik1:List Job
 ey5:List hp5
 budget:Int
def Job.cs (j:Job):List IV:=[.int .u8 j.kind,.str j.dep.name,.int .u8 j.dep.op,.int .i64 j.dep.evr.am6,.str j.dep.evr.ver,.str j.dep.evr.rel]
def hp5.cs (e:hp5):List IV:=[.int .u8 e.kind,.int .i64 e.n]
abbrev id9 (l:List Job):IV:=.aa3 (l.map Job.cs)
abbrev gs5 (l:List hp5):IV:=.aa3 (l.map hp5.cs)
def Req.cs (r:Req):List IV:=[.int .u8 r.ex2,.bool r.vendor,id9 r.ik1,gs5 r.ey5,.int .i64 r.budget]
def ie1 (m a:Int):Int :=
 if m=2 then (if a=1 then 2 else if a=2 then 1 else if a=3 then 3 else 0) else
 if m=3 then (if a=1 then 2 else if a=3 then 1 else 0) else
 if m=4 then (if a=1 then 2 else if a=4 then 1 else 0) else 0
def ir5 (m a:Int):Bool:=decide (0<ie1 m a)
structure fx7 where
 p:Pool
 r:Req
namespace fx7
variable (a:fx7)
def l:List aa4:=an9 a.p
def pk (n:Int):aa4:=a.l.getD n.toNat default
def is (n:Int):Bool:=decide (0<=n)&&decide (n<a.l.length)
def inst (n:Int):Bool:=a.is n&&decide (n<a.p.inst)
def fits (n:Int):Bool:=a.is n&&ir5 a.r.ex2 (a.pk n).ex2
def some (state l:List Int):Bool:=l.any fun n=>decide (n∈state)
def cs:List IV:=[a.p.v,(ja6 a.l).v,.int .u8 a.r.ex2,.bool a.r.vendor,id9 a.r.ik1,gs5 a.r.ey5,.int .i64 a.r.budget,.aa3 (a.l.map aa4.cs)]
def v:IV:=.ad4 a.cs
end fx7
theorem eg2 (a b:Int):ao7 b a=- ao7 a b:=by
 unfold ao7; split<;>split<;>(try split)<;>(try split)<;>omega
theorem au3 {a b:Int}:ao7 a b=0↔a=b:=by
 unfold ao7;split
 ·constructor
  ·intro h; omega
  ·intro h; omega
 ·split
  ·simp_all
  ·constructor
   ·intro h; omega
   ·intro h; contradiction
theorem eg3:∀ (x y:List UInt8),Op.bytesLess x y=decide (x<y)
 | [],[]=>by simp[Op.bytesLess]
 | _::_,[]=>by simp[Op.bytesLess]
 | [],_::_=>by simp[Op.bytesLess]
 | a::x,b::y=>by
  simp only[Op.bytesLess,eg3 x y,List.cons_lt_cons_iff];by_cases h:a<b
  ·simp[h]
  ·by_cases h2:a=b
   ·subst h2; simp
   ·simp[h,h2]
theorem ir6 (a b:Str):Op.bytesLess a b=true/\Op.bytesLess b a=false/\a≠b\/a=b/\Op.bytesLess a b=false\/Op.bytesLess b a=true/\Op.bytesLess a b=false/\a≠b:=by
 simp only[eg3,decide_eq_true_eq,decide_eq_false_iff_not];rcases Decidable.em (a<b) with h|h
 ·exact .inl ⟨h,fun h2=>List.lt_asymm h h2,fun e=>List.lt_irrefl a (by rw[<- e] at h; exact h)⟩
 ·rcases Decidable.em (b<a) with h2|h2
  ·exact .inr (.inr ⟨h2,h,fun e=>List.lt_irrefl a (by rw[<- e] at h2; exact h2)⟩)
  ·exact .inr (.inl ⟨List.le_antisymm (List.not_lt.1 h2) (List.not_lt.1 h),h⟩)
theorem gi6 (a b:Str):cj8 b a=- cj8 a b:=by
 unfold cj8;rcases ir6 a b with ⟨h1,h2,h3⟩|⟨rfl,h⟩|⟨h1,h2,h3⟩
 ·rw[h1,h2,if_neg (by simp),if_neg (fun e=>h3 e.symm),if_pos rfl]; rfl
 ·rw[h]; simp
 ·rw[h1,h2,if_pos rfl,if_neg (by simp),if_neg h3]
theorem dz2 (a b:Part):af8 b a=- af8 a b:=by
 unfold af8;simp only[eg2 (a.kind:Int) b.kind,eg2 (a.s.length:Int) b.s.length,gi6 a.s b.s];have e:(b.kind=5/\a.kind=5)↔(a.kind=5/\b.kind=5):=And.comm;by_cases h1:ao7 (a.kind:Int) b.kind=0
 ·simp only[h1,Int.neg_zero,ne_eq,not_true_eq_false,if_false,e];by_cases h2:a.kind=5/\b.kind=5
  ·simp only[h2,and_self,if_true];by_cases h3:ao7 (a.s.length:Int) b.s.length=0
   ·simp[h3]
   ·have h4:¬ - ao7 (a.s.length:Int) b.s.length=0:=by omega
    simp[h3,h4]
  ·simp[h2]
 ·have h2:¬ - ao7 (a.kind:Int) b.kind=0:=by omega
  simp[h1,h2]
namespace fx7
variable (a:fx7)
end fx7
end Go.Id.Md
set_option linter.all false
namespace Go.Id.Md
open Go Go.Id
structure WO {α:Type} (S:α->Prop) (f:α->α->Int):Prop where
 neg:∀ a b,f b a=- f a b
 tr:∀ a b c,S a->S b->S c->f a b<=0->f b c<=0->f a c<=0
def lex (x y:Int):Int:=if x=0 then y else x
theorem hf5 (x y:Int):lex (-x) (-y)=- lex x y:=by unfold lex; split<;>split<;>omega
theorem WO.lex {α:Type}{S:α->Prop}{f g:α->α->Int}(hf:WO S f)(hg:WO S g):WO S fun a b=>Md.lex (f a b) (g a b) where
 neg:=fun a b=>by show Md.lex (f b a) (g b a)=_; rw[hf.neg,hg.neg,hf5]
 tr:=fun a b c sa sb sc h1 h2=>by
  have k1:=hf.tr a b c sa sb sc;have k2:=hf.tr c a b sc sa sb;have k3:=hf.tr b c a sb sc sa;have k4:=hg.tr a b c sa sb sc;have n1:=hf.neg a b;have n2:=hf.neg b c;have n3:=hf.neg a c;unfold Md.lex at *;split at h1<;>split at h2<;>split<;>omega
theorem WO.of {α β:Type}{S:β->Prop}{f:β->β->Int}(hf:WO S f)(g:α->β):WO (fun a=>S (g a)) fun a b=>f (g a) (g b) where
 neg:=fun a b=>hf.neg _ _
 tr:=fun a b c sa sb sc=>hf.tr _ _ _ sa sb sc
theorem WO.flip {α:Type}{S:α->Prop}{f:α->α->Int}(hf:WO S f):WO S fun a b=>f b a where
 neg:=fun a b=>hf.neg b a
 tr:=fun a b c sa sb sc h1 h2=>hf.tr c b a sc sb sa h2 h1
theorem WO.sub {α:Type}{S T:α->Prop}{f:α->α->Int}(hf:WO S f)(h:∀ a,T a->S a):WO T f:=⟨hf.neg,fun a b c sa sb sc=>hf.tr a b c (h a sa) (h b sb) (h c sc)⟩
def dg8 (a b:Part):Int:=lex (ao7 a.kind b.kind) (lex (ao7 (if a.kind=5 then (a.s.length:Int) else 0) (if b.kind=5 then (b.s.length:Int) else 0)) (cj8 a.s b.s))
theorem ey6 (a b:Part):af8 a b=dg8 a b:=by
 unfold af8 dg8 lex;by_cases h:ao7 (a.kind:Int) b.kind=0
 ·have e:=au3.1 h;have e':a.kind=b.kind:=by omega
  simp only[h,ne_eq,not_true_eq_false,if_false,if_true,e'];by_cases k5:b.kind=5
  ·simp only[k5,and_self,if_true]; split<;>simp_all
  ·have z:ao7 0 0=0:=by decide
   simp[k5,z]
 ·simp[h]
theorem fo9 {a b:Part}(h:af8 a b=0):a.kind=b.kind:=by
 rw[ey6] at h;unfold dg8 lex at h;split at h
 ·rename_i e; have:=au3.1 e; omega
 ·contradiction
abbrev eg4:Part:=⟨2,[]⟩
theorem eg5 (b:UInt8):ac5 b≠2:=by
 unfold ac5
 repeat (first|split|omega)
theorem dq3 (s:Str):∀ x∈ab4 s,x.kind≠2:=by
 unfold ab4
 have : ∀ n s,∀ x∈aq4 n s,x.kind≠2:=by
  intro n
  induction n with
  | zero=>intro s x hx; cases hx
  | succ n ih=>
   intro s x hx
   cases s with
   | nil=>cases hx
   | cons b l=>
    simp only[aq4] at hx;split at hx
    ·exact ih _ x hx
    ·split at hx
     ·rcases List.mem_cons.1 hx with rfl|hx
      ·exact eg5 b
      ·exact ih _ x hx
     ·rcases List.mem_cons.1 hx with rfl|hx
      ·exact eg5 b
      ·exact ih _ x hx
 exact this _ s
end Go.Id.Md
set_option linter.all false
namespace Go.Id.Md
open Go Go.Id
def ir7 (k:Int):Nat:=if k=4 then 3 else if k=5 then 3 else if k=7 then 2 else 24
def fp1 (k:Int)(d:Dep)(n:Nat):Bool:=decide (1<k)&&decide (k<=7)&&decide (d=fo4)&&decide (2<=n)&&decide (n<=ir7 k)
mutual
def aa9.ms:aa9->Nat×Nat×Bool
 | .mk k d aZ=>if k=1 then (1,0,decide (aZ.length=0)&&an8 d) else ((aa9.msL aZ 1 0 (fp1 k d aZ.length)).1,(aa9.msL aZ 1 0 (fp1 k d aZ.length)).2.1+1,(aa9.msL aZ 1 0 (fp1 k d aZ.length)).2.2)
def aa9.msL:List aa9->Nat->Nat->Bool->Nat×Nat×Bool
 | [],p,d,ok=>(p,d,ok)
 | r::rs,p,d,ok=>if ok=true then aa9.msL rs (p+r.ms.1) (max d r.ms.2.1) r.ms.2.2 else (p,d,false)
end
abbrev ff:List Bool->Bool:=fun _=>false
def ir8 (c n:Nat):List Bool:=(List.range c).map fun m=>decide (m=n)
def iu6 (st:List Bool)(f:Nat->Bool):Bool:=(List.range st.length).any fun n=>st.getD n false&&f n
def trK (l:List aa4)(k:Int)(d:Dep)(fs:List (List Bool->Bool))(st:List Bool):Bool :=
 if k=1 then (ey4 l d).any fun n=>st.getD n.toNat false
 else if k=2 then fs.all fun f=>f st
 else if k=3 then fs.any fun f=>f st
 else if k=4 then (if (fs.getD 1 ff) st then (fs.getD 0 ff) st else decide (fs.length<3)||(fs.getD 2 ff) st)
 else if k=5 then (if (fs.getD 1 ff) st then decide (fs.length=3)&&(fs.getD 2 ff) st else (fs.getD 0 ff) st)
 else if k=6 then iu6 st fun n=>fs.all fun f=>f (ir8 st.length n)
 else iu6 st fun n=>(fs.getD 0 ff) (ir8 st.length n)&&!(fs.getD 1 ff) (ir8 st.length n)
mutual
def aa9.tr (l:List aa4):aa9->List Bool->Bool
 | .mk k d aZ,st=>trK l k d (aa9.trs l aZ) st
def aa9.trs (l:List aa4):List aa9->List (List Bool->Bool)
 | []=>[]
 | r::rs=>(fun st=>r.tr l st)::aa9.trs l rs
end
def aa9.atoms (r:aa9):List Dep:=(r.parts false).filterMap fun p=>if p.1.kind=1 then some p.1.dep else none
structure gi7 where
 a:fx7
 is1:List Bool
def ir9 (b:Bool):List IV:=[.bool b]
namespace gi7
variable (o:gi7)
def cs:List IV:=[o.a.v,o.a.p.v,.int .u8 o.a.r.ex2,.aa3 (o.a.l.map aa4.cs),.aa3 (o.is1.map ir9)]
def v:IV:=.ad4 o.cs
def prio (n:Int):Int:=(o.a.p.rows.getD n.toNat ⟨default,0,0⟩).prio
variable (hr:∀ n,o.a.is n=true->(o.a.pk n).evr.rel≠[])
include hr
end gi7
end Go.Id.Md
set_option linter.all false
namespace Go.Id.Md
open Go Go.Id
inductive Way (R:Int->Int->Bool) (L:List Int):Int->Int->Prop
 | once {n m:Int}:n∈L->m∈L->R n m=true->Way R L n m
 | step {n k m:Int}:n∈L->k∈L->R n k=true->Way R L k m->Way R L n m
section
variable {R R':Int->Int->Bool} {L L':List Int}
theorem Way.mem {n m:Int}(h:Way R L n m):n∈L/\m∈L:=by
 induction h with
 | once h1 h2 _=>exact ⟨h1,h2⟩
 | step h1 _ _ _ ih=>exact ⟨h1,ih.2⟩
theorem Way.trans {n k m:Int}(h:Way R L n k)(h2:Way R L k m):Way R L n m:=by
 induction h with
 | once h1 h3 h4=>exact .step h1 h3 h4 h2
 | step h1 h3 h4 _ ih=>exact .step h1 h3 h4 (ih h2)
theorem Way.same {n m:Int}(hL:∀ x,x∈L->x∈L')(h:Way R L n m):Way R L' n m:=by
 induction h with
 | once h1 h2 h3=>exact .once (hL _ h1) (hL _ h2) h3
 | step h1 h2 h3 _ ih=>exact .step (hL _ h1) (hL _ h2) h3 ih
theorem Way.flip {n m:Int}(h:Way R L n m):Way (fun a b=>R b a) L m n:=by
 induction h with
 | once h1 h2 h3=>exact .once h2 h1 h3
 | step h1 h2 h3 _ ih=>exact ih.trans (.once h2 h1 h3)
theorem gg6 {n m:Int}:Way (fun a b=>R b a) L m n↔Way R L n m:=⟨fun h=>h.flip,fun h=>h.flip⟩
open Classical in
noncomputable def da8 (R:Int->Int->Bool)(L:List Int)(n m:Int):Bool:=decide (Way R L n m)
theorem ay6 {n m:Int}:da8 R L n m=true↔Way R L n m:=by unfold da8; exact @decide_eq_true_iff _ (_)
theorem co1 {n m:Int}:da8 (fun a b=>R b a) L m n=da8 R L n m:=Bool.eq_iff_iff.2 (by rw[ay6,ay6]; exact gg6)
noncomputable def az6 (R:Int->Int->Bool)(L:List Int)(n m:Int):Bool:=R n m&&!da8 R L m n
def aj5 (w:Int->Int->Bool)(left:List Int):Nat:=(left.findIdx? fun n=>!left.any fun m=>w n m).getD 0
def dk6 (w:Int->Int->Bool):Nat->List Int->List Int
 | 0,_=>[]
 | k+1,left=>match left with
  | []=>[]
  | a::l=>(a::l).getD (aj5 w (a::l)) 0::dk6 w k ((a::l).eraseIdx (aj5 w (a::l)))
variable {w w':Int->Int->Bool}
theorem df5 {left:List Int}(h:left≠[]):aj5 w left<left.length:=by
 unfold aj5
 cases hf:left.findIdx? fun n=>!left.any fun m=>w n m with
 | none=>exact List.length_pos_iff.2 h
 | some i=>exact (List.findIdx?_eq_some_iff_getElem.1 hf).1
theorem ef1 (k:Nat):dk6 w k []=[]:=by cases k<;>rfl
theorem co2 {k:Nat}{left:List Int}(h:left≠[]):dk6 w (k+1) left=left.getD (aj5 w left) 0::dk6 w k (left.eraseIdx (aj5 w left)):=by
 cases left with
 | nil=>exact absurd rfl h
 | cons a l=>rfl
theorem ar5 {l:List Int}{i:Nat}(h:i<l.length):(l.getD i 0::l.eraseIdx i).Perm l:=by
 have e:l.getD i 0=l[i]:=by simp[List.getD_eq_getElem?_getD,h]
 rw[e];clear e
 induction l generalizing i with
 | nil=>exact absurd h (Nat.not_lt_zero _)
 | cons a l ih=>
  cases i with
  | zero=>exact List.Perm.refl _
  | succ i=>
   have hi:i<l.length:=by simpa using h
   exact (List.Perm.swap _ _ _).trans ((ih hi).cons _)
theorem fn9:∀ (k:Nat) (left:List Int),left.length<=k->(dk6 w k left).Perm left:=by
 intro k
 induction k with
 | zero=>intro left h; have:left=[]:=List.length_eq_zero_iff.1 (by omega); subst this; exact List.Perm.refl _
 | succ k ih=>
  intro left h;by_cases h0:left=[]
  ·subst h0; exact List.Perm.refl _
  rw[co2 h0];have hp:=df5 (w:=w) h0;have hl:(left.eraseIdx (aj5 w left)).length<=k:=by rw[List.length_eraseIdx_of_lt hp]; omega
  exact ((ih _ hl).cons _).trans (ar5 hp)
theorem ew6 {left:List Int}(h:∃ n∈left,∀ m∈left,w n m=false):∀ m∈left,w (left.getD (aj5 w left) 0) m=false:=by
 obtain ⟨n,hn,h⟩:=h
 have hs:(left.findIdx? fun n=>!left.any fun m=>w n m).isSome=true:=by
  rw[List.findIdx?_isSome,List.any_eq_true];refine ⟨n,hn,?_⟩;rw[Bool.not_eq_true',List.any_eq_false];exact fun m hm e=>by rw[h m hm] at e; cases e
 obtain ⟨i,hi⟩:=Option.isSome_iff_exists.1 hs;obtain ⟨h1,h2,_⟩:=List.findIdx?_eq_some_iff_getElem.1 hi;have e:aj5 w left=i:=by unfold aj5; rw[hi]; rfl
 have e2:left.getD i 0=left[i]:=by simp[List.getD_eq_getElem?_getD,h1]
 rw[e,e2];rw[Bool.not_eq_true',List.any_eq_false] at h2;exact fun m hm=>by simpa using h2 m hm
theorem dy6 {left:List Int}{i:Nat}(hi:i<aj5 w left)(hl:i<left.length):∃ m∈left,w left[i] m=true:=by
 unfold aj5 at hi
 cases hf:left.findIdx? fun n=>!left.any fun m=>w n m with
 | none=>rw[hf] at hi; exact absurd hi (Nat.not_lt_zero _)
 | some j=>
  rw[hf] at hi;obtain ⟨_,_,h3⟩:=List.findIdx?_eq_some_iff_getElem.1 hf;have:=h3 i hi
  simpa using this
def ef2 (w:Int->Int->Bool)(L:List Int):Prop:=∀ left:List Int,left≠[]->(∀ x∈left,x∈L)->∃ n∈left,∀ m∈left,w n m=false
theorem id6 (f:Int->Nat):∀ l:List Int,l≠[]->∃ n∈l,∀ m∈l,f n<=f m:=by
 intro l
 induction l with
 | nil=>intro h; exact absurd rfl h
 | cons a l ih=>
  intro _;by_cases h0:l=[]
  ·subst h0; exact ⟨a,List.mem_cons_self,fun m hm=>by rw[List.mem_singleton] at hm; rw[hm]; exact Nat.le_refl _⟩
  obtain ⟨n,hn,h⟩:=ih h0;by_cases h1:f a<=f n
  ·exact ⟨a,List.mem_cons_self,fun m hm=>by
    rcases List.mem_cons.1 hm with rfl|hm
    ·exact Nat.le_refl _
    ·exact Nat.le_trans h1 (h m hm)⟩
  ·exact ⟨n,List.mem_cons_of_mem _ hn,fun m hm=>by
    rcases List.mem_cons.1 hm with rfl|hm
    ·omega
    ·exact h m hm⟩
theorem dp2 {p q:Int->Bool}:∀ {l:List Int},(∀ x∈l,p x=true->q x=true)->(∃ x∈l,q x=true/\p x=false)->l.countP p<l.countP q:=by
 intro l
 induction l with
 | nil=>rintro _ ⟨x,hx,_⟩; cases hx
 | cons a l ih=>
  rintro h ⟨x,hx,h1,h2⟩;have hle:l.countP p<=l.countP q:=List.countP_mono_left fun y hy=>h y (List.mem_cons_of_mem _ hy)
  rcases List.mem_cons.1 hx with rfl|hx
  ·rw[List.countP_cons,List.countP_cons,h1,h2];simp only[if_true,Bool.false_eq_true,if_false]; omega
  ·have:=ih (fun y hy=>h y (List.mem_cons_of_mem _ hy)) ⟨x,hx,h1,h2⟩;rw[List.countP_cons,List.countP_cons];have ha:=h a List.mem_cons_self
   cases hp:p a with
   | true=>rw[ha hp]; simp only[if_true]; omega
   | false=>simp only[Bool.false_eq_true,if_false]; omega
theorem df6:ef2 (az6 R L) L:=by
 intro left h0 hL;obtain ⟨n,hn,hmin⟩:=id6 (fun n=>L.countP fun k=>decide (k=n)||da8 R L n k) left h0;refine ⟨n,hn,fun m hm=>?_⟩
 cases hw:az6 R L n m with
 | false=>rfl
 | true=>
  exfalso;unfold az6 at hw;simp only[Bool.and_eq_true,Bool.not_eq_true'] at hw;have w1:Way R L n m:=.once (hL n hn) (hL m hm) hw.1;have w2:¬ Way R L m n:=fun h=>by rw[ay6.2 h] at hw; cases hw.2
  have hne:n≠m:=fun e=>by subst e; exact w2 w1
  have:=hmin m hm
  have hlt:L.countP (fun k=>decide (k=m)||da8 R L m k)<L.countP fun k=>decide (k=n)||da8 R L n k:=by
   refine dp2 (fun x _ hx=>?_) ⟨n,hL n hn,by simp,?_⟩
   ·simp only[Bool.or_eq_true,decide_eq_true_eq,ay6] at hx ⊢;rcases hx with rfl|hx
    ·exact .inr w1
    ·exact .inr (w1.trans hx)
   ·simp only[Bool.or_eq_false_iff,decide_eq_false_iff_not];exact ⟨hne,Bool.eq_false_iff.2 fun h=>w2 (ay6.1 h)⟩
  omega
end
structure Step where
 kind:Int
 p:Int
 deriving DecidableEq,Inhabited
def Step.cs (s:Step):List IV:=[.int .u8 s.kind,.int .i64 s.p]
abbrev aj1 (l:List Step):IV:=.aa3 (l.map Step.cs)
def bf1 (k:Int):Int:=if k=7\/k=8 then 1 else if k=6 then 2 else 0
def ab7 (l:List Step)(k:Int):List Int:=(l.filter fun s=>decide (bf1 s.kind=k)).map (·.p)
def aq6 (l:List Int):List Int:=l.mergeSort fun x y=>decide (x<=y)
def df7 (l:List Step)(n:Int):Int:=match l.find? fun s=>decide (s.p=n) with
 | some s=>s.kind
 | none=>0
noncomputable def dy7 (R:Int->Int->Bool)(l:List Int):List Int:=dk6 (az6 R l) l.length (aq6 l)
noncomputable def fd4 (R:Int->Int->Bool)(l:List Step):List Int:=dy7 R (ab7 l 0)++(aq6 (ab7 l 1)++dy7 (fun a b=>R b a) (ab7 l 2))
noncomputable def be4 (R:Int->Int->Bool)(l:List Step):List Step:=(fd4 R l).map fun n=>⟨df7 l n,n⟩
theorem ak1 (l:List Int):(aq6 l).Perm l:=List.mergeSort_perm _ _
theorem df8 (l:List Int):(aq6 l).Pairwise (·<=·):=by
 have h:=List.pairwise_mergeSort (le:=fun x y:Int=>decide (x<=y)) (fun a b c h1 h2=>by
  simp only[decide_eq_true_eq] at *; omega) (fun a b=>by simp only[Bool.or_eq_true,decide_eq_true_eq]; omega) l
 exact h.imp fun h=>of_decide_eq_true h
theorem ew7:∀ {a b:List Int},a.Perm b->a.Pairwise (·<=·)->b.Pairwise (·<=·)->a=b:=fun h h1 h2=>List.Perm.eq_of_pairwise (fun _ _ _ _ x y=>Int.le_antisymm x y) h1 h2 h
theorem df9 {a b:List Int}(h:a.Perm b)(hu:a.Pairwise (·<=·)):a=aq6 b:=ew7 (h.trans (ak1 b).symm) hu (df8 b)
theorem bb8 (R:Int->Int->Bool)(l:List Int):(dy7 R l).Perm l:=(fn9 _ _ (by rw[(ak1 l).length_eq]; exact Nat.le_refl _)).trans (ak1 l)
section
variable {R:Int->Int->Bool} {l l':List Step}
def hb9 (l:List Step):Prop:=(l.map (·.p)).Nodup
theorem gg7 (hd:hb9 l){s:Step}(hs:s∈l):df7 l s.p=s.kind:=by
 unfold df7
 have hf:(l.find? fun t=>decide (t.p=s.p))=some s:=by
  unfold hb9 at hd
  induction l with
  | nil=>cases hs
  | cons t l ih=>
   rw[List.map_cons,List.nodup_cons] at hd;rw[List.find?_cons];rcases List.mem_cons.1 hs with rfl|hs
   ·simp
   ·have hne:¬ t.p=s.p:=fun e=>hd.1 (e▸List.mem_map.2 ⟨s,hs,rfl⟩)
    simp only[hne,decide_false];exact ih hd.2 hs
 rw[hf]
theorem fo1 {k n:Int}:n∈ab7 l k↔∃ s∈l,s.p=n/\bf1 s.kind=k:=by
 unfold ab7;rw[List.mem_map];constructor
 ·rintro ⟨s,hs,rfl⟩;obtain ⟨h1,h2⟩:=List.mem_filter.1 hs;exact ⟨s,h1,rfl,of_decide_eq_true h2⟩
 ·rintro ⟨s,hs,rfl,h⟩;exact ⟨s,List.mem_filter.2 ⟨hs,decide_eq_true h⟩,rfl⟩
theorem da9 (k:Int):bf1 k=0\/bf1 k=1\/bf1 k=2:=by
 unfold bf1;split
 ·exact .inr (.inl rfl)
 ·split
  ·exact .inr (.inr rfl)
  ·exact .inl rfl
theorem bd8 (hd:hb9 l)(k:Int):(ab7 l k).Nodup:=by
 have h:(ab7 l k).Sublist (l.map (·.p)):=(List.filter_sublist (l:=l) (p:=fun s:Step=>decide (bf1 s.kind=k))).map _;exact List.Nodup.sublist h hd
theorem fo2:(ab7 l 0++(ab7 l 1++ab7 l 2)).Perm (l.map (·.p)):=by
 induction l with
 | nil=>exact List.Perm.refl _
 | cons s l ih=>
  unfold ab7 at ih ⊢;simp only[List.filter_cons,List.map_cons];rcases da9 s.kind with h|h|h<;>rw[h]
  ·exact ih.cons _
  ·exact (List.perm_middle.trans (List.Perm.refl _)).trans (ih.cons _)
  ·have e:∀ a b c:List Int,(a++(b++s.p::c)).Perm (s.p::(a++(b++c))):=fun a b c=>by
    rw[<- List.append_assoc,<- List.append_assoc]; exact List.perm_middle
   exact (e _ _ _).trans (ih.cons _)
theorem dp3:(fd4 R l).Perm (l.map (·.p)):=by
 refine List.Perm.trans ?_ (fo2 (l:=l));exact (bb8 _ _).append ((ak1 _).append (bb8 _ _))
end
end Go.Id.Md
/- Sets of numbers below 256,in four words. Conditions: none; no program in sight. -/
namespace Go.Id.Md
open Go Go.Id
def wd (s i:Nat):Nat:=(s >>> (64*i))%2^64
def wdV (s i:Nat):IV:=.int .u64 (wd s i:Nat)
def aq3 (s:Nat):List IV:=[wdV s 0,wdV s 1,wdV s 2,wdV s 3]
theorem gg8 (s i:Nat):wd s i<2^64:=Nat.mod_lt _ (by decide)
theorem db1 (s i j:Nat):(wd s i).testBit j=(decide (j<64)&&s.testBit (64*i+j)):=by
 unfold wd;rw[Nat.testBit_mod_two_pow,Nat.testBit_shiftRight]
theorem hc5 (s t i:Nat):wd (s ||| t) i=wd s i ||| wd t i:=by
 refine Nat.eq_of_testBit_eq fun j=>?_
 rw[Nat.testBit_or,db1,db1,db1,Nat.testBit_or];cases decide (j<64)<;>simp
theorem gr9 (n i:Nat):wd (2^n) i=if i=n/64 then 2^(n%64) else 0:=by
 refine Nat.eq_of_testBit_eq fun j=>?_
 rw[db1,Nat.testBit_two_pow];by_cases h:i=n/64
 ·rw[if_pos h,Nat.testBit_two_pow];by_cases hj:j<64
  ·simp only[hj,decide_true,Bool.true_and];exact decide_eq_decide.2 (by omega)
  ·simp only[hj,decide_false,Bool.false_and];exact (decide_eq_false (by omega)).symm
 ·rw[if_neg h,Nat.zero_testBit];by_cases hj:j<64
  ·simp only[hj,decide_true,Bool.true_and];exact decide_eq_false (by omega)
  ·simp only[hj,decide_false,Bool.false_and]
theorem gg9 {s n i:Nat}(h:i≠n/64):wd (s ||| 2^n) i=wd s i:=by
 rw[hc5,gr9,if_neg h,Nat.or_zero]
theorem ir3 {s t:Nat}(hs:s<2^256)(ht:t<2^256)(h:∀ i,i<4->wd s i=wd t i):s=t:=by
 refine Nat.eq_of_testBit_eq fun j=>?_
 by_cases hj:j<256
 ·have:=congrArg (fun x=>x.testBit (j%64)) (h (j/64) (by omega));simp only[db1] at this;have e:64*(j/64)+j%64=j:=by omega
  have e2:decide (j%64<64)=true:=decide_eq_true (by omega);rw[e,e2,Bool.true_and,Bool.true_and] at this;exact this
 ·rw[Nat.testBit_lt_two_pow (Nat.lt_of_lt_of_le hs (Nat.pow_le_pow_right (by decide) (by omega))),Nat.testBit_lt_two_pow (Nat.lt_of_lt_of_le ht (Nat.pow_le_pow_right (by decide) (by omega)))]
theorem gh1 {s t:Nat}(hs:s<2^256)(ht:t<2^256)(h:aq3 s=aq3 t):s=t:=by
 refine ir3 hs ht fun i hi=>?_
 simp only[aq3,wdV,List.cons.injEq,IV.int.injEq,true_and] at h;have:i=0\/i=1\/i=2\/i=3:=by omega
 rcases this with rfl|rfl|rfl|rfl<;>omega
theorem dg1 {n:Nat}(h:n<2^64):IntKind.u64.wrap (n:Int)=n:=by
 show (n:Int)%18446744073709551616=n;omega
theorem gh2 (n:Nat):BitVec.ofInt 64 (n:Int)=BitVec.ofNat 64 n:=by
 apply BitVec.eq_of_toInt_eq;simp
theorem gs2 {a b:Nat}(ha:a<2^64)(hb:b<2^64):ap9 .or (.int .u64 a) (.int .u64 b)=some (.int .u64 (a ||| b:Nat)):=by
 have h:(BitVec.ofInt 64 (a:Int) ||| BitVec.ofInt 64 (b:Int)).toNat=a ||| b:=by
  rw[gh2,gh2,BitVec.toNat_or,BitVec.toNat_ofNat,BitVec.toNat_ofNat,Nat.mod_eq_of_lt ha,Nat.mod_eq_of_lt hb]
 have hl:a ||| b<2^64:=Nat.or_lt_two_pow ha hb
 show (if IntKind.u64=IntKind.u64 then dc8 .or .u64 a b else none)=_;rw[if_pos rfl];show some (IV.int .u64 (IntKind.u64.wrap ((BitVec.ofInt 64 (a:Int) ||| BitVec.ofInt 64 (b:Int)).toNat:Int)))=_;rw[h,dg1 hl]
theorem u64_and1 {a:Nat}(ha:a<2^64):ap9 .and (.int .u64 a) (.int .u64 1)=some (.int .u64 (a%2:Nat)):=by
 have h:(BitVec.ofInt 64 (a:Int) &&& BitVec.ofInt 64 ((1:Nat):Int)).toNat=a%2:=by
  rw[gh2,gh2,BitVec.toNat_and,BitVec.toNat_ofNat,BitVec.toNat_ofNat,Nat.mod_eq_of_lt ha,Nat.mod_eq_of_lt (by decide),Nat.and_one_is_mod]
 have hl:a%2<2^64:=by omega
 show (if IntKind.u64=IntKind.u64 then dc8 .and .u64 a 1 else none)=_;rw[if_pos rfl];show some (IV.int .u64 (IntKind.u64.wrap ((BitVec.ofInt 64 (a:Int) &&& BitVec.ofInt 64 ((1:Nat):Int)).toNat:Int)))=_;rw[h,dg1 hl]
theorem hc7 (s n:Nat):decide (((((wd s (n/64):Nat):Int).fdiv (2^(n%64))).toNat%2:Nat)=1)=s.testBit n:=by
 have e:(((wd s (n/64):Nat):Int).fdiv (2^(n%64))).toNat=wd s (n/64)/2^(n%64):=by
  have:((2:Int)^(n%64))=((2^(n%64):Nat):Int):=by norm_cast
  rw[this,Int.fdiv_eq_ediv_of_nonneg _ (Int.natCast_nonneg _),<- Int.natCast_ediv,Int.toNat_natCast]
 rw[e];have h:=db1 s (n/64) (n%64);have e2:64*(n/64)+n%64=n:=by omega
 rw[e2,decide_eq_true (by omega:n%64<64),Bool.true_and,Nat.testBit_eq_decide_div_mod_eq] at h;exact h
section
variable {R:Int->Int->Bool} {L:List Int} {g:Int->Nat}
structure Reach (R:Int->Int->Bool) (L:List Int) (g:Int->Nat):Prop where
 pos:∀ n∈L,0<=n/\n<256
 once:∀ n∈L,∀ m∈L,R n m=true->(g n).testBit m.toNat=true
 way:∀ n∈L,∀ k:Nat,(g n).testBit k=true->Way R L n k
def al8 (g:Int->Nat)(l:List Int)(s:Nat):Nat:=l.foldl (fun s k=>if s.testBit k.toNat then s ||| g k else s) s
theorem cj7 (g:Int->Nat):∀ (l:List Int) (s k:Nat),s.testBit k=true->(al8 g l s).testBit k=true:=by
 intro l
 induction l with
 | nil=>intro s k h; exact h
 | cons a l ih=>
  intro s k h;refine ih _ k ?_;show (if s.testBit a.toNat then s ||| g a else s).testBit k=true;split
  ·rw[Nat.testBit_or,h]; rfl
  ·exact h
theorem co3 (hg:Reach R L g){n:Int}:∀ (l:List Int) (s:Nat),(∀ k∈l,k∈L)->(∀ k:Nat,s.testBit k=true->Way R L n k)->∀ k:Nat,(al8 g l s).testBit k=true->Way R L n k:=by
 intro l
 induction l with
 | nil=>intro s _ h k hk; exact h k hk
 | cons a l ih=>
  intro s hl h k hk;refine ih _ (fun x hx=>hl x (List.mem_cons_of_mem _ hx)) (fun j hj=>?_) k hk;have hj:(if s.testBit a.toNat then s ||| g a else s).testBit j=true:=hj;by_cases hb:s.testBit a.toNat=true
  ·rw[if_pos hb,Nat.testBit_or,Bool.or_eq_true] at hj;rcases hj with hj|hj
   ·exact h j hj
   ·have ha:=hl a List.mem_cons_self;have h1:=h _ hb;have h2:=hg.way a ha j hj;have e:((a.toNat:Nat):Int)=a:=by have:=(hg.pos a ha).1; omega
    rw[e] at h1;exact h1.trans h2
  ·rw[if_neg hb] at hj;exact h j hj
theorem dp4 (g:Int->Nat):∀ (l:List Int) (s:Nat),al8 g l s=s->∀ k∈l,s.testBit k.toNat=true->∀ j,(g k).testBit j=true->s.testBit j=true:=by
 intro l
 induction l with
 | nil=>intro s _ k hk; cases hk
 | cons a l ih=>
  intro s h k hk hb j hj
  have h1:(if s.testBit a.toNat then s ||| g a else s)=s:=by
   refine Nat.eq_of_testBit_eq fun i=>Bool.eq_iff_iff.2 ⟨fun hi=>?_,fun hi=>?_⟩
   ·have:=cj7 g l _ i hi;have e:al8 g l (if s.testBit a.toNat then s ||| g a else s)=s:=h;rw[e] at this; exact this
   ·split
    ·rw[Nat.testBit_or,hi]; rfl
    ·exact hi
  have h2:al8 g l s=s:=by
   have e:al8 g l (if s.testBit a.toNat then s ||| g a else s)=s:=h;rw[h1] at e; exact e
  rcases List.mem_cons.1 hk with rfl|hk
  ·rw[if_pos hb] at h1;rw[<- h1,Nat.testBit_or,hj,Bool.or_true]
  ·exact ih s h2 k hk hb j hj
theorem Reach.small (hg:Reach R L g){n:Int}{s:Nat}(h:∀ k:Nat,s.testBit k=true->Way R L n k):s<2^256:=by
 refine Nat.lt_pow_two_of_testBit _ fun i hi=>?_
 cases hb:s.testBit i with
 | false=>rfl
 | true=>have:=(hg.pos _ (h i hb).mem.2).2; omega
theorem Reach.done (hg:Reach R L g)(hc:∀ n∈L,al8 g L (g n)=g n){n m:Int}(hn:n∈L)(hm:m∈L):(g n).testBit m.toNat=da8 R L n m:=by
 refine Bool.eq_iff_iff.2 ?_;rw[ay6];constructor
 ·intro h;have:=hg.way n hn _ h;have e:((m.toNat:Nat):Int)=m:=by have:=(hg.pos m hm).1; omega
  rw[e] at this; exact this
 ·intro h;clear hn hm
  induction h with
  | once h1 h2 h3=>exact hg.once _ h1 _ h2 h3
  | step h1 h2 h3 h4 ih=>exact dp4 g L _ (hc _ h1) _ h2 (hg.once _ h1 _ h2 h3) _ ih
def lacks (L:List Int)(s:Nat):Nat:=L.countP fun k=>!s.testBit k.toNat
def ax2 (L:List Int)(g:Int->Nat)(l:List Int):Nat:=(l.map fun n=>lacks L (g n)).sum
def cg7 (g:Int->Nat)(n:Int)(s:Nat):Int->Nat:=fun x=>if x=n then s else g x
theorem Reach.upd (hg:Reach R L g){n:Int}(hn:n∈L):Reach R L (cg7 g n (al8 g L (g n))) where
 pos:=hg.pos
 once:=fun x hx m hm h=>by
  unfold cg7;split
  ·rename_i e; subst e; exact cj7 g L _ _ (hg.once _ hx _ hm h)
  ·exact hg.once x hx m hm h
 way:=fun x hx k h=>by
  unfold cg7 at h;split at h
  ·rename_i e; subst e; exact co3 hg L _ (fun _ h=>h) (hg.way _ hx) k h
  ·exact hg.way x hx k h
theorem gh3 (hg:Reach R L g){n:Int}(hn:n∈L)(h:al8 g L (g n)≠g n):lacks L (al8 g L (g n))<lacks L (g n):=by
 unfold lacks;refine dp2 (fun x _ hx=>?_) ?_
 ·simp only[Bool.not_eq_true'] at hx ⊢
  cases hb:(g n).testBit x.toNat with
  | false=>rfl
  | true=>rw[cj7 g L _ _ hb] at hx; cases hx
 ·obtain ⟨k,hk⟩:∃ k,(al8 g L (g n)).testBit k≠(g n).testBit k:=by
   refine Classical.byContradiction fun hno=>h (Nat.eq_of_testBit_eq fun i=>Classical.byContradiction fun hi=>hno ⟨i,hi⟩)
  have h1:(g n).testBit k=false:=by
   cases hb:(g n).testBit k with
   | false=>rfl
   | true=>rw[hb,cj7 g L _ _ hb] at hk; exact absurd rfl hk
  have h2:(al8 g L (g n)).testBit k=true:=by rw[h1] at hk; simpa using hk
  have hm:=(co3 hg L _ (fun _ h=>h) (hg.way n hn) k h2).mem.2;exact ⟨k,hm,by rw[Int.toNat_natCast,h1]; rfl,by rw[Int.toNat_natCast,h2]; rfl⟩
theorem dy8 {n:Int}{s:Nat}:∀ {l:List Int},l.Nodup->n∈l->ax2 L (cg7 g n s) l+lacks L (g n)=ax2 L g l+lacks L s:=by
 intro l
 induction l with
 | nil=>intro _ h; cases h
 | cons a l ih=>
  intro hd hn;rw[List.nodup_cons] at hd;unfold ax2 at ih ⊢;simp only[List.map_cons,List.sum_cons];rcases List.mem_cons.1 hn with rfl|hn
  ·have e1:cg7 g n s n=s:=by unfold cg7; rw[if_pos rfl]
   have e2:(l.map fun x=>lacks L (cg7 g n s x))=l.map fun x=>lacks L (g x):=List.map_congr_left fun x hx=>by
    unfold cg7; rw[if_neg fun e=>hd.1 (by subst e; exact hx)]
   rw[e1,e2]; omega
  ·have e1:cg7 g n s a=g a:=by unfold cg7; rw[if_neg fun e=>hd.1 (by subst e; exact hn)]
   have:=ih hd.2 hn;rw[e1]; omega
end
end Go.Id.Md
