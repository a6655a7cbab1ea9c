/- The document's data,and what functions give,in plain words. Conditions: none; no program in sight. -/
import Derived.Test.YtlnkchkhffkofaaGreatDoorFwQ
set_option linter.all false
namespace Go.Id.Md
open Go Go.Id
abbrev Str:=List UInt8
structure EVR where
 ao5:Int
 ver:Str
 rel:Str
 deriving DecidableEq,Inhabited
structure Dep where
 name:Str
 op:Int
 evr:EVR
 deriving DecidableEq,Inhabited
inductive aa8 where
 | mk (kind:Int) (dep:Dep) (args:List aa8)
 deriving Inhabited
def aa8.kind:aa8->Int|.mk k _ _=>k
def aa8.dep:aa8->Dep|.mk _ d _=>d
def aa8.args:aa8->List aa8|.mk _ _ a=>a
structure aa2 where
 name:Str
 evr:EVR
 an1:Int
 vendor:Str
 provides:List Dep
 requires:List aa8
 conflicts:List aa8
 ab2:List Dep
 ac3:List aa8
 ac1:List aa8
 suggests:List aa8
 ac5:List aa8
 files:List Str
 deriving Inhabited
structure al1 where
 priority:Int
 packages:List aa2
 deriving Inhabited
def EVR.fit (e:EVR):Prop:=e.ver.length<2^62/\e.rel.length<2^62
def Dep.fit (d:Dep):Prop:=d.name.length<2^62/\d.evr.fit
theorem aa8.ind {p:aa8->Prop}(h:∀ k d aZ,(∀ a∈aZ,p a)->p (.mk k d aZ))(r:aa8):p r :=
 aa8.rec (motive_1:=p) (motive_2:=fun l=>∀ a∈l,p a) (fun k d aZ ih=>h k d aZ ih) (fun _ h=>by cases h) (fun r rs h1 h2 a ha=>by
  rcases List.mem_cons.1 ha with rfl|h
  ·exact h1
  ·exact h2 a h) r
mutual
def aa8.fit:aa8->Prop
 | .mk k d aZ=>0<=k/\k<256/\d.fit/\aZ.length<2^31/\aa8.fits aZ
def aa8.fits:List aa8->Prop
 | []=>True
 | r::rs=>r.fit/\aa8.fits rs
end
theorem aa8.gl8 (l:List aa8):aa8.fits l↔∀ r∈l,r.fit:=by
 induction l with
 | nil=>simp[aa8.fits]
 | cons r rs ih=>simp[aa8.fits,ih]
theorem aa8.cr4 {k:Int}{d:Dep}{aZ:List aa8}:(aa8.mk k d aZ).fit↔0<=k/\k<256/\d.fit/\aZ.length<2^31/\∀ r∈aZ,r.fit:=by
 simp only[aa8.fit,aa8.gl8]
def EVR.cs (e:EVR):List IV:=[.int .i64 e.ao5,.str e.ver,.str e.rel]
def Dep.cs (d:Dep):List IV:=[.str d.name,.int .u8 d.op,.int .i64 d.evr.ao5,.str d.evr.ver,.str d.evr.rel]
mutual
def aa8.cs:aa8->List IV
 | .mk k d aZ=>[.int .u8 k,.str d.name,.int .u8 d.op,.int .i64 d.evr.ao5,.str d.evr.ver,.str d.evr.rel,.aa3 (aa8.css aZ)]
def aa8.css:List aa8->List (List IV)
 | []=>[]
 | r::rs=>r.cs::aa8.css rs
end
theorem aa8.hj5 (l:List aa8):aa8.css l=l.map aa8.cs:=by
 induction l with
 | nil=>rfl
 | cons r rs ih=>simp only[aa8.css,ih,List.map_cons]
theorem aa8.aq5 (r:aa8):r.cs=[.int .u8 r.kind,.str r.dep.name,.int .u8 r.dep.op,.int .i64 r.dep.evr.ao5,.str r.dep.evr.ver,.str r.dep.evr.rel,.aa3 (r.args.map aa8.cs)]:=by
 cases r with
 | mk k d aZ=>simp only[aa8.cs,aa8.hj5,aa8.kind,aa8.dep,aa8.args]
def bt3 (s:Str):List IV:=[.str s]
abbrev deps (l:List Dep):IV:=.aa3 (l.map Dep.cs)
abbrev ae8 (l:List aa8):IV:=.aa3 (l.map aa8.cs)
abbrev strs (l:List Str):IV:=.aa3 (l.map bt3)
def aa2.cs (p:aa2):List IV :=
 [.str p.name,.int .i64 p.evr.ao5,.str p.evr.ver,.str p.evr.rel,.int .u8 p.an1,.str p.vendor,deps p.provides,ae8 p.requires,ae8 p.conflicts,deps p.ab2,ae8 p.ac3,ae8 p.ac1,ae8 p.suggests,ae8 p.ac5,strs p.files]
def al1.cs (r:al1):List IV:=[.int .i64 r.priority,.aa3 (r.packages.map aa2.cs)]
def aa2.rows (p:aa2):List (Int×List aa8):=[(1,p.requires),(2,p.conflicts),(1,p.ac3),(3,p.ac1),(1,p.suggests),(3,p.ac5)]
def signs:Str:=[97,98,99,100,101,102,103,104,105,106,107,108,109,110,111,112,113,114,115,116,117,118,119,120,121,122,65,66,67,68,69,70,71,72,73,74,75,76,77,78,79,80,81,82,83,84,85,86,87,88,89,90,48,49,50,51,52,53,54,55,56,57,46,95,43,45,47,58,64,126,94]
def ft6 (b:UInt8):Bool:=(decide (97<=b.toNat)&&decide (b.toNat<=122))||(decide (65<=b.toNat)&&decide (b.toNat<=90))||(decide (48<=b.toNat)&&decide (b.toNat<=57))
def bq5 (b:UInt8):Bool:=signs.contains b
def words:List Str:=[[97,110,100],[111,114],[105,102],[101,108,115,101],[117,110,108,101,115,115],[119,105,116,104],[119,105,116,104,111,117,116]]
def ax3 (s:Str):Bool:=decide (1<=s.length)&&decide (s.length<=64)&&s.all bq5&&!words.contains s
def bq6 (s:Str):Bool:=ax3 s&&(s.head? == some 47)
def cm1 (b:UInt8):Bool:=ft6 b || [46,95,43,126,94].contains b
def bg2 (s:Str):Bool:=decide (1<=s.length)&&decide (s.length<=64)&&s.all cm1
def bg3 (e:EVR)(dep:Bool):Bool:=decide (0<=e.ao5)&&decide (e.ao5<=2147483647)&&bg2 e.ver&&(bg2 e.rel||dep&&e.rel.isEmpty)
def ff7 (op:Int):Bool:=[0,1,2,3,4,6].contains op
def ic5:EVR:=⟨0,[],[]⟩
def dz8:Dep:=⟨[],0,ic5⟩
def al2 (d:Dep):Bool:=ax3 d.name&&ff7 d.op&&(if d.op=0 then decide (d.evr=ic5) else !bq6 d.name&&bg3 d.evr true)
def ae3 (b:UInt8):Nat:=if b=126 then 1 else if b=94 then 3 else if decide (97<=b)&&decide (b<=122)||decide (65<=b)&&decide (b<=90) then 4 else if decide (48<=b)&&decide (b<=57) then 5 else 0
structure Part where
 kind:Nat
 s:Str
 deriving DecidableEq,Inhabited
def ar8:Nat->Str->List Part
 | 0,_=>[]
 | _+1,[]=>[]
 | n+1,b::l=>
  if ae3 b=0 then ar8 n l
  else if ae3 b<4 then ⟨ae3 b,[]⟩::ar8 n l
  else ⟨ae3 b,if ae3 b=5 then ((b::l).takeWhile fun c=>ae3 c==ae3 b).dropWhile (· == 48) else (b::l).takeWhile fun c=>ae3 c==ae3 b⟩::ar8 n ((b::l).dropWhile fun c=>ae3 c==ae3 b)
def ae9 (s:Str):List Part:=ar8 s.length s
def am5 (a b:Int):Int:=if a<b then -1 else if a=b then 0 else 1
def cr5 (a b:Str):Int:=if Op.bytesLess a b then -1 else if a=b then 0 else 1
def af9 (a b:Part):Int :=
 let k:=am5 a.kind b.kind
 if k≠0 then k else
 let n:=if a.kind=5/\b.kind=5 then am5 a.s.length b.s.length else 0
 if n≠0 then n else cr5 a.s b.s
def ag2:List Part->List Part->Int
 | a::aZ,b::bs=>if af9 a b≠0 then af9 a b else ag2 aZ bs
 | _,_=>0
def ap8 (a b:Str):Int:=ag2 (ae9 a++[⟨2,[]⟩]) (ae9 b++[⟨2,[]⟩])
def ak8 (a b:EVR):Int :=
 if am5 a.ao5 b.ao5≠0 then am5 a.ao5 b.ao5 else
 if ap8 a.ver b.ver≠0 then ap8 a.ver b.ver else
 if a.rel=[]\/b.rel=[] then 0 else ap8 a.rel b.rel
def bit (op:Int)(i:Nat):Bool:=(op.toNat).testBit i
def side (n:Int):Nat:=if n<0 then 0 else if n=0 then 1 else 2
def meet (a b:Dep):Bool :=
 if a.op.toNat%8=0\/b.op.toNat%8=0 then true else
 let n:=ak8 a.evr b.evr
 if n=0 then bit a.op 0&&bit b.op 0||bit a.op 1&&bit b.op 1||bit a.op 2&&bit b.op 2
 else bit a.op (side (-n))||bit b.op (side n)
mutual
def aa8.count:aa8->Nat
 | .mk _ _ aZ=>aa8.counts aZ+1
def aa8.counts:List aa8->Nat
 | []=>0
 | r::rs=>r.count+aa8.counts rs
end
mutual
def aa8.depth:aa8->Nat
 | .mk k _ aZ=>if k=1 then 0 else aa8.bi6 aZ+1
def aa8.bi6:List aa8->Nat
 | []=>0
 | r::rs=>max r.depth (aa8.bi6 rs)
end
-- All parts,and whether each stands within a With,or a Without.
mutual
def aa8.parts:aa8->Bool->List (aa8×Bool)
 | .mk k d aZ,alone=>(.mk k d aZ,alone)::aa8.bi7 aZ (alone||decide (k=6)||decide (k=7))
def aa8.bi7:List aa8->Bool->List (aa8×Bool)
 | [],_=>[]
 | r::rs,alone=>r.parts alone++aa8.bi7 rs alone
end
def asks (k:Int):Nat×Nat×Bool×Nat :=
 if k=1 then (0,0,true,3) else if k=2 then (2,24,true,3) else if k=3 then (2,24,true,3) else if k=4 then (2,3,false,1)
 else if k=5 then (2,3,false,2) else if k=6 then (2,24,true,3) else if k=7 then (2,2,true,3) else (0,0,false,0)
def aj2 (wh:Int)(r:aa8)(alone:Bool):Bool :=
 let x:=asks r.kind
 !(decide ((x.2.2.2:Int)<wh)||alone&&!x.2.2.1||decide (r.args.length<x.1)||decide (x.2.1<r.args.length)) &&
 (if r.kind=1 then al2 r.dep else decide (r.dep=dz8))
def at1 (r:aa8)(wh:Int):Int :=
 if wh<1\/3<wh then 1 else if r.count>24 then 40 else if r.depth>8 then 21 else if (r.parts false).all fun p=>aj2 wh p.1 p.2 then 0 else 4
mutual
def aa8.same:aa8->aa8->Bool
 | .mk k d aZ,.mk k' d' as'=>decide (k=k')&&decide (d=d')&&aa8.hj6 aZ as'
def aa8.hj6:List aa8->List aa8->Bool
 | [],[]=>true
 | r::rs,s::ss=>r.same s&&aa8.hj6 rs ss
 | _,_=>false
end
structure aa2.Fit (p:aa2):Prop where
 name:p.name.length<2^62
 evr:p.evr.fit
 av4:p.provides.length<2^31/\∀ d∈p.provides,d.fit
 obs:p.ab2.length<2^31/\∀ d∈p.ab2,d.fit
 files:p.files.length<2^31/\∀ s∈p.files,s.length<2^62
 rich:∀ x∈p.rows,x.2.length<2^31/\∀ r∈x.2,r.fit/\r.count<2^31
def am8 (a:Int):Bool:=decide (1<=a)&&decide (a<=4)
def rising:List Str->Bool
 | a::b::l=>Op.bytesLess a b&&rising (b::l)
 | _=>true
def am9 (l:List aa8)(wh:Int):Bool:=decide (l.length<=32)&&l.all fun r=>decide (at1 r wh=0)
def ag8 (p:aa2):Bool :=
 ax3 p.name&&!bq6 p.name&&bg3 p.evr false&&am8 p.an1&&decide (p.vendor.length<=64) &&
 (decide (p.provides.length<=32)&&p.provides.all al2)&&(decide (p.ab2.length<=32)&&p.ab2.all al2)&&(decide (p.files.length<=32)&&p.files.all bq6) &&
 rising p.files&&am9 p.requires 1&&am9 p.conflicts 2&&am9 p.ac3 1&&am9 p.ac1 3&&am9 p.suggests 1&&am9 p.ac5 3
def own (p:aa2):Dep:=⟨p.name,2,p.evr⟩
def meets (a d:Dep):Bool:=decide (a.name=d.name)&&meet a d
def named (p:aa2)(d:Dep):Bool:=meets (own p) d
def provides (p:aa2)(d:Dep):Bool:=named p d||p.provides.any (fun a=>meets a d)||decide (d.op=0)&&p.files.contains d.name
def ab2 (p q:aa2):Bool:=p.ab2.any fun d=>named q d
def hj7 (l m:List aa8):Bool:=aa8.hj6 l m
end Go.Id.Md
set_option linter.all false
namespace Go.Id.Md
open Go Go.Id
structure ax5 where
 pkg:aa2
 dz9:Int
 prio:Int
def ax5.cs (r:ax5):List IV:=r.pkg.cs++[.int .i64 r.dz9,.int .i64 r.prio]
abbrev Nms:=List (Str×List Int)
def ap3:Nms->Str->Int->Nms
 | [],k,n=>[(k,[n])]
 | t::ts,k,n=>if k=t.1 then (k,t.2++[n])::ts else t::ap3 ts k n
def cv9:Nms->Nat->List aa2->Nms
 | nm,_,[]=>nm
 | nm,n,p::ps=>cv9 (ap3 nm p.name n) (n+1) ps
def af3 (n:Int):List IV:=[.int .i64 n]
def nmV (nm:Nms):List (IV×IV):=nm.map fun t=>(.str t.1,.aa3 (t.2.map af3))
structure Pool where
 rows:List ax5
 inst:Int
 nm:Nms
def Pool.v (p:Pool):IV:=.ab6 [.aa3 (p.rows.map ax5.cs),.int .i64 p.inst,.al8 (nmV p.nm)]
def rowsOf (l:List aa2)(dz9 prio:Int):List ax5:=l.map fun p=>⟨p,dz9,prio⟩
theorem ee9 (l:List aa2)(x:aa2)(a b:Int):rowsOf (l++[x]) a b=rowsOf l a b++[⟨x,a,b⟩]:=by simp[rowsOf]
theorem bo3 (l:List aa2)(a b:Int):(rowsOf l a b).length=l.length:=by simp[rowsOf]
def ai5:Nat->List al1->List ax5×Nms->Option (List ax5×Nms)
 | _,[],st=>some st
 | i,r::rs,st=>if r.priority<0\/1024<r.priority\/r.packages.all ag8=false then none else ai5 (i+1) rs (st.1++rowsOf r.packages i r.priority,cv9 st.2 st.1.length r.packages)
def ag4 (l:List al1):Nat:=(l.map fun r=>r.packages.length).sum
def bq7 (ab5:List al1)(inst:List aa2):Pool ⊕ Int :=
 if 16<ab5.length\/256<inst.length+ag4 ab5 then .inr 40 else
 if inst.all ag8=false then .inr 4 else
 match ai5 0 ab5 (rowsOf inst (-1) 1025,cv9 [] 0 inst) with
 | some (rows,nm)=>.inl ⟨rows,inst.length,nm⟩
 | none=>.inr 4
def ik3 (r:Pool ⊕ Int):IV:=match r with
 | .inl p=>.tuple [p.v,.int .i64 0]
 | .inr e=>.tuple [.ab7,.int .i64 e]
abbrev NmL:=List (Str×List Int×Nat)
def mEs (L:NmL):List (IV×IV):=L.map fun t=>(.str t.1,.slice t.2.2 0 t.2.1.length 1)
def ay8 (L:NmL):Nms:=L.map fun t=>(t.1,t.2.1)
def ba1:NmL->Str->Int->Nat->NmL
 | [],k,n,nid=>[(k,[n],nid)]
 | t::ts,k,n,nid=>if k=t.1 then (k,t.2.1++[n],nid)::ts else t::ba1 ts k n nid
def cr7 (L:NmL)(k:Str):IV:=match L.find? (fun t=>decide (k=t.1)) with
 | some t=>.slice t.2.2 0 t.2.1.length 1
 | none=>.aa1
def bz2 (L:NmL)(k:Str):List Int:=match L.find? (fun t=>decide (k=t.1)) with
 | some t=>t.2.1
 | none=>[]
theorem cn8 (L:NmL)(k:Str)(n:Int)(nid:Nat):ay8 (ba1 L k n nid)=ap3 (ay8 L) k n:=by
 induction L with
 | nil=>rfl
 | cons t ts ih=>
  simp only[ba1,ay8,List.map_cons,ap3];split
  ·rfl
  ·rw[List.map_cons]; congr 1
theorem ik4 (L:NmL)(k:Str):(ax4 2 (.str k) (mEs L)).map (fun r=>r.getD .aa1)=some (cr7 L k):=by
 induction L with
 | nil=>rfl
 | cons t ts ih=>
  simp only[mEs,List.map_cons,ax4,em1,cr7,List.find?_cons] at ih ⊢;by_cases h:k=t.1
  ·simp[h]
  ·simp only[h,decide_false] at ih ⊢;exact ih
theorem hk9 (L:NmL)(k:Str):∃ r,ax4 2 (.str k) (mEs L)=some r/\r.getD .aa1=cr7 L k:=by
 have:=ik4 L k
 cases h:ax4 2 (.str k) (mEs L) with
 | none=>rw[h] at this; cases this
 | some r=>rw[h] at this; exact ⟨r,rfl,by simpa using this⟩
theorem iy2 (L:NmL)(k:Str)(n:Int)(nid:Nat):eu4 2 (.str k) (.slice nid 0 ((bz2 L k).length+1) 1) (mEs L)=some (mEs (ba1 L k n nid)):=by
 induction L with
 | nil=>rfl
 | cons t ts ih=>
  simp only[mEs,List.map_cons,eu4,em1,bz2,List.find?_cons,ba1] at ih ⊢;by_cases h:k=t.1
  ·simp[h]
  ·simp only[h,decide_false,if_false,List.map_cons] at ih ⊢;rw[ih]; rfl
theorem dl2 {k:Str}{n:Int}{nid:Nat}:∀ {L:NmL},(L.map (·.1)).Nodup->∀ t∈ba1 L k n nid,(t∈L/\t.1≠k)\/t=(k,bz2 L k++[n],nid):=by
 intro L
 induction L with
 | nil=>intro _ t ht; simp[ba1] at ht; exact .inr (by rw[ht]; rfl)
 | cons u us ih=>
  intro hk t ht;rw[List.map_cons,List.nodup_cons] at hk;simp only[ba1] at ht;by_cases h:k=u.1
  ·rw[if_pos h] at ht;rcases List.mem_cons.1 ht with rfl|ht
   ·right; simp[bz2,h]
   ·left;exact ⟨List.mem_cons_of_mem _ ht,fun e=>hk.1 (by rw[<- h,<- e]; exact List.mem_map_of_mem (f:=fun x:Str×List Int×Nat=>x.1) ht)⟩
  ·rw[if_neg h] at ht;rcases List.mem_cons.1 ht with rfl|ht
   ·left; exact ⟨List.mem_cons_self ..,fun e=>h e.symm⟩
   ·have e:bz2 (u::us) k=bz2 us k:=by simp[bz2,h]
    rw[e];rcases ih hk.2 t ht with ⟨h1,h2⟩|h1
    ·exact .inl ⟨List.mem_cons_of_mem _ h1,h2⟩
    ·exact .inr h1
theorem en5 {k:Str}{n:Int}{nid:Nat}:∀ (L:NmL),(L.map (·.1)).Nodup->((ba1 L k n nid).map (·.1)).Nodup/\∀ x∈(ba1 L k n nid).map (·.1),x=k\/x∈L.map (·.1):=by
 intro L
 induction L with
 | nil=>intro _; simp[ba1]
 | cons u us ih=>
  intro hk;rw[List.map_cons,List.nodup_cons] at hk;simp only[ba1];by_cases h:k=u.1
  ·rw[if_pos h];refine ⟨?_,?_⟩
   ·rw[List.map_cons,List.nodup_cons]; exact ⟨by rw[h]; exact hk.1,hk.2⟩
   ·intro x hx;simp only[List.map_cons,List.mem_cons] at hx ⊢;rcases hx with h1|h1
    ·exact .inl h1
    ·exact .inr (.inr h1)
  ·rw[if_neg h];obtain ⟨h1,h2⟩:=ih hk.2;refine ⟨?_,?_⟩
   ·rw[List.map_cons,List.nodup_cons];refine ⟨fun hm=>?_,h1⟩;rcases h2 _ hm with e|e
    ·exact h e.symm
    ·exact hk.1 e
   ·intro x hx;simp only[List.map_cons,List.mem_cons] at hx ⊢;rcases hx with h3|h3
    ·exact .inr (.inl h3)
    ·rcases h2 _ h3 with e|e
     ·exact .inl e
     ·exact .inr (.inr e)
theorem fu3 {k:Str}{n:Int}{nid:Nat}:∀ (L:NmL),(L.map (·.2.2)).Nodup->nid ∉ L.map (·.2.2)->((ba1 L k n nid).map (·.2.2)).Nodup/\∀ x∈(ba1 L k n nid).map (·.2.2),x=nid\/x∈L.map (·.2.2):=by
 intro L
 induction L with
 | nil=>intro _ _; simp[ba1]
 | cons u us ih=>
  intro hk hn;rw[List.map_cons,List.nodup_cons] at hk;simp only[List.map_cons,List.mem_cons,not_or] at hn;simp only[ba1];by_cases h:k=u.1
  ·rw[if_pos h];refine ⟨?_,?_⟩
   ·rw[List.map_cons,List.nodup_cons]; exact ⟨hn.2,hk.2⟩
   ·intro x hx;simp only[List.map_cons,List.mem_cons] at hx ⊢;rcases hx with h1|h1
    ·exact .inl h1
    ·exact .inr (.inr h1)
  ·rw[if_neg h];obtain ⟨h1,h2⟩:=ih hk.2 hn.2;refine ⟨?_,?_⟩
   ·rw[List.map_cons,List.nodup_cons];refine ⟨fun hm=>?_,h1⟩;rcases h2 _ hm with e|e
    ·exact hn.1 e.symm
    ·exact hk.1 e
   ·intro x hx;simp only[List.map_cons,List.mem_cons] at hx ⊢;rcases hx with h3|h3
    ·exact .inr (.inl h3)
    ·rcases h2 _ h3 with e|e
     ·exact .inl e
     ·exact .inr (.inr e)
theorem bv9 (L:NmL)(k:Str):(cr7 L k=.aa1/\bz2 L k=[])\/∃ t∈L,t.1=k/\cr7 L k=.slice t.2.2 0 t.2.1.length 1/\bz2 L k=t.2.1:=by
 unfold cr7 bz2
 cases h:L.find? (fun t=>decide (k=t.1)) with
 | none=>exact .inl ⟨rfl,rfl⟩
 | some t=>
  have h1:=List.find?_some h;exact .inr ⟨t,List.mem_of_find?_eq_some h,by simpa using (by simpa using h1:k=t.1).symm,rfl,rfl⟩
theorem fu4 {L:NmL}(hk:(L.map (·.1)).Nodup)(hd:(L.map (·.2.2)).Nodup):∀ t∈L,∀ u∈L,t.2.2=u.2.2->t=u:=by
 intro t ht u hu e;obtain ⟨i,hi,h1⟩:=List.mem_iff_getElem.1 ht;obtain ⟨j,hj,h2⟩:=List.mem_iff_getElem.1 hu
 have hij:i=j:=by
  have hi':i<(L.map (·.2.2)).length:=by simpa using hi
  have hj':j<(L.map (·.2.2)).length:=by simpa using hj
  have hp:=List.pairwise_iff_getElem.1 hd;have e2:(L.map (·.2.2))[i]=(L.map (·.2.2))[j]:=by simp only[List.getElem_map,h1,h2,e]
  rcases Nat.lt_trichotomy i j with h|h|h
  ·exact absurd e2 (hp i j hi' hj' h)
  ·exact h
  ·exact absurd e2.symm (hp j i hj' hi' h)
 subst hij;rw[<- h1,<- h2]
end Go.Id.Md
/- What the statements of pools go over: not too much. Conditions: none; no program in sight. -/
namespace Go.Id.Md
open Go Go.Id
mutual
def aa8.ok:aa8->Prop
 | .mk k d xs=>0<=k/\k<256/\d.fit/\xs.length<2^62/\aa8.oks xs
def aa8.oks:List aa8->Prop
 | []=>True
 | r::rs=>r.ok/\aa8.oks rs
end
theorem aa8.hl7 (l:List aa8):aa8.oks l↔∀ r∈l,r.ok:=by
 induction l with
 | nil=>simp[aa8.oks]
 | cons r rs ih=>simp[aa8.oks,ih]
theorem aa8.hl8 {k:Int}{d:Dep}{xs:List aa8}:(aa8.mk k d xs).ok↔0<=k/\k<256/\d.fit/\xs.length<2^62/\∀ r∈xs,r.ok:=by
 simp only[aa8.ok,aa8.hl7]
structure aa2.Ok (p:aa2):Prop where
 name:p.name.length<2^62
 vendor:p.vendor.length<2^62
 evr:p.evr.fit
 av4:p.provides.length<2^62/\∀ d∈p.provides,d.fit
 obs:p.ab2.length<2^62/\∀ d∈p.ab2,d.fit
 files:p.files.length<2^62/\∀ s∈p.files,s.length<2^62
 rich:∀ x∈p.rows,x.2.length<2^62/\∀ r∈x.2,r.ok
def al1.Ok (r:al1):Prop:=r.packages.length<2^62/\∀ p∈r.packages,p.Ok
def ay9 (p:aa2):List (List aa8):=[p.requires,p.conflicts,p.ac3,p.ac1,p.suggests,p.ac5]
def az1:Nat->List al1->List ax5
 | _,[]=>[]
 | i,r::rs=>rowsOf r.packages i r.priority++az1 (i+1) rs
theorem cw1:∀ (rs:List al1) (i:Nat) (st:List ax5×Nms) (out:List ax5×Nms),ai5 i rs st=some out->out.1=st.1++az1 i rs:=by
 intro rs
 induction rs with
 | nil=>intro i st out h; simp only[ai5,Option.some.injEq] at h; subst h; simp[az1]
 | cons r rs ih=>
  intro i st out h;simp only[ai5] at h;split at h
  ·cases h
  ·rw[ih _ _ _ h]; simp[az1]
theorem gm7 {ab5:List al1}{inst:List aa2}{p:Pool}(h:bq7 ab5 inst=.inl p):p.rows=rowsOf inst (-1) 1025++az1 0 ab5/\p.inst=inst.length:=by
 unfold bq7 at h;split at h
 ·cases h
 split at h
 ·cases h
 split at h
 ·rename_i rows nm hr;cases h;exact ⟨cw1 _ _ _ _ hr,rfl⟩
 ·cases h
theorem gm8 {ab5:List al1}{inst:List aa2}{e:Int}(h:bq7 ab5 inst=.inr e):e=40\/e=4:=by
 unfold bq7 at h;split at h
 ·cases h; exact .inl rfl
 split at h
 ·cases h; exact .inr rfl
 split at h
 ·cases h
 ·cases h; exact .inr rfl
end Go.Id.Md
/- Indexes,in plain words: names with their numbers,in whatever row. Conditions: none; no program in sight. -/
namespace Go.Id.Md
open Go Go.Id
def ad6:Nms->Str->List Int
 | [],_=>[]
 | t::ts,k=>if k=t.1 then t.2 else ad6 ts k
def KN (nm:Nms):Prop:=(nm.map (·.1)).Nodup
theorem bd7 {nm:Nms}{k:Str}{n:Int}(h:KN nm)(t:Str×List Int):t∈ap3 nm k n↔(t∈nm/\t.1≠k)\/t=(k,ad6 nm k++[n]):=by
 induction nm with
 | nil=>simp[ap3,ad6]
 | cons u us ih=>
  have h':u.1 ∉ us.map (·.1)/\KN us:=by simpa [KN] using h
  simp only[ap3,ad6];by_cases e:k=u.1
  ·rw[if_pos e,if_pos e];subst e;simp only[List.mem_cons];constructor
   ·rintro (rfl|ht)
    ·exact .inr rfl
    ·exact .inl ⟨.inr ht,fun e=>h'.1 (List.mem_map.2 ⟨t,ht,e⟩)⟩
   ·rintro (⟨rfl|ht,hne⟩|rfl)
    ·exact absurd rfl hne
    ·exact .inr ht
    ·exact .inl rfl
  ·rw[if_neg e,if_neg e];simp only[List.mem_cons,ih h'.2];constructor
   ·rintro (rfl|⟨h1,h2⟩|rfl)
    ·exact .inl ⟨.inl rfl,fun e'=>e e'.symm⟩
    ·exact .inl ⟨.inr h1,h2⟩
    ·exact .inr rfl
   ·rintro (⟨rfl|h1,h2⟩|rfl)
    ·exact .inl rfl
    ·exact .inr (.inl ⟨h1,h2⟩)
    ·exact .inr (.inr rfl)
theorem fg2 {k:Str}{n:Int}:∀ {nm:Nms},∀ x∈(ap3 nm k n).map (·.1),x=k\/x∈nm.map (·.1):=by
 intro nm
 induction nm with
 | nil=>intro x hx; simpa [ap3] using hx
 | cons u us ih=>
  intro x hx;simp only[ap3] at hx;split at hx
  ·rename_i e; simp only[List.map_cons,List.mem_cons] at hx ⊢;rcases hx with h|h
   ·exact .inl h
   ·exact .inr (.inr h)
  ·simp only[List.map_cons,List.mem_cons] at hx ⊢;rcases hx with h|h
   ·exact .inr (.inl h)
   ·rcases ih x h with h|h
    ·exact .inl h
    ·exact .inr (.inr h)
theorem ak9 {nm:Nms}{k:Str}{n:Int}(h:KN nm):KN (ap3 nm k n):=by
 induction nm with
 | nil=>simp[KN,ap3]
 | cons u us ih=>
  have h':u.1 ∉ us.map (·.1)/\KN us:=by simpa [KN] using h
  simp only[ap3];split
  ·rename_i e; subst e; exact h
  ·rename_i e;show ((u::ap3 us k n).map (·.1)).Nodup;rw[List.map_cons,List.nodup_cons];refine ⟨fun hm=>?_,ih h'.2⟩;rcases fg2 _ hm with h1|h1
   ·exact e h1.symm
   ·exact h'.1 h1
theorem KN.nd {nm:Nms}(h:KN nm):nm.Nodup:=by
 induction nm with
 | nil=>exact List.nodup_nil
 | cons u us ih=>
  have h':u.1 ∉ us.map (·.1)/\KN us:=by simpa [KN] using h
  exact List.nodup_cons.2 ⟨fun hm=>h'.1 (List.mem_map.2 ⟨u,hm,rfl⟩),ih h'.2⟩
theorem KN.perm {nm nm':Nms}(h:KN nm)(p:nm.Perm nm'):KN nm':=(p.map (fun x:Str×List Int=>x.1)).nodup_iff.1 h
theorem de8 {nm:Nms}(h:KN nm){t:Str×List Int}(ht:t∈nm):ad6 nm t.1=t.2:=by
 induction nm with
 | nil=>cases ht
 | cons u us ih=>
  have h':u.1 ∉ us.map (·.1)/\KN us:=by simpa [KN] using h
  simp only[ad6];rcases List.mem_cons.1 ht with rfl|ht
  ·rw[if_pos rfl]
  ·rw[if_neg (fun e=>h'.1 (List.mem_map.2 ⟨t,ht,e⟩))];exact ih h'.2 ht
theorem cr8 {nm:Nms}{k:Str}(h:k ∉ nm.map (·.1)):ad6 nm k=[]:=by
 induction nm with
 | nil=>rfl
 | cons u us ih=>
  simp only[List.map_cons,List.mem_cons,not_or] at h;simp only[ad6];rw[if_neg h.1]; exact ih h.2
theorem cr9 {nm nm':Nms}(h:KN nm)(p:nm.Perm nm')(k:Str):ad6 nm k=ad6 nm' k:=by
 by_cases hk:k∈nm.map (·.1)
 ·obtain ⟨t,ht,rfl⟩:=List.mem_map.1 hk;rw[de8 h ht,de8 (h.perm p) (p.mem_iff.1 ht)]
 ·rw[cr8 hk,cr8 (fun e=>hk ((p.map (·.1)).mem_iff.2 e))]
theorem bd8 {nm:Nms}(h:KN nm)(k:Str)(n:Int)(j:Str):ad6 (ap3 nm k n) j=if j=k then ad6 nm k++[n] else ad6 nm j:=by
 induction nm with
 | nil=>
  simp only[ap3,ad6]
  split<;>rfl
 | cons u us ih=>
  have h':u.1 ∉ us.map (·.1)/\KN us:=by simpa [KN] using h
  simp only[ap3,ad6];by_cases e:k=u.1
  ·rw[if_pos e,if_pos e];simp only[ad6];by_cases ej:j=k
   ·rw[if_pos ej,if_pos ej]
   ·rw[if_neg ej,if_neg ej,if_neg (fun x=>ej (x.trans e.symm))]
  ·rw[if_neg e,if_neg e];simp only[ad6,ih h'.2];by_cases ej:j=k
   ·rw[if_pos ej,if_pos ej,if_neg (fun x=>e (ej.symm.trans x))]
   ·rw[if_neg ej,if_neg ej]
theorem bo4 {nm nm':Nms}{k:Str}{n:Int}(h:KN nm)(p:nm.Perm nm'):(ap3 nm k n).Perm (ap3 nm' k n):=by
 refine (List.perm_ext_iff_of_nodup (ak9 h).nd (ak9 (h.perm p)).nd).2 fun t=>?_
 rw[bd7 h,bd7 (h.perm p),cr9 h p,p.mem_iff]
theorem fg3 {nm:Nms}{k j:Str}{n:Int}(h:KN nm):(ap3 (ap3 nm k n) j n).Perm (ap3 (ap3 nm j n) k n):=by
 by_cases e:k=j
 ·subst e; exact .refl _
 refine (List.perm_ext_iff_of_nodup (ak9 (ak9 h)).nd (ak9 (ak9 h)).nd).2 fun t=>?_
 rw[bd7 (ak9 h),bd7 (ak9 h),bd7 h,bd7 h,bd8 h,bd8 h,if_neg (fun x=>e x.symm),if_neg e];constructor
 ·rintro (⟨⟨h1,h2⟩|rfl,h3⟩|rfl)
  ·exact .inl ⟨.inl ⟨h1,h3⟩,h2⟩
  ·exact .inr rfl
  ·exact .inl ⟨.inr rfl,fun x=>e x.symm⟩
 ·rintro (⟨⟨h1,h2⟩|rfl,h3⟩|rfl)
  ·exact .inl ⟨.inl ⟨h1,h3⟩,h2⟩
  ·exact .inr rfl
  ·exact .inl ⟨.inr rfl,e⟩
def az2 (nm:Nms)(ks:List Str)(n:Int):Nms:=ks.foldl (fun m k=>ap3 m k n) nm
theorem du4 {n:Int}:∀ {ks:List Str} {nm:Nms},KN nm->KN (az2 nm ks n)
 | [],_,h=>h
 | _::ks,_,h=>du4 (ks:=ks) (ak9 h)
theorem cs3 {n:Int}:∀ (ks:List Str) {nm nm':Nms},KN nm->nm.Perm nm'->(az2 nm ks n).Perm (az2 nm' ks n)
 | [],_,_,_,p=>p
 | _::ks,_,_,h,p=>cs3 ks (ak9 h) (bo4 h p)
theorem du5 {n:Int}{ks js:List Str}(p:ks.Perm js):∀ {nm:Nms},KN nm->(az2 nm ks n).Perm (az2 nm js n):=by
 induction p with
 | nil=>intro nm _; exact .refl _
 | cons x _ ih=>intro nm h; exact ih (ak9 h)
 | swap x y l=>intro nm h; exact cs3 l (ak9 (ak9 h)) (fg3 h)
 | trans p1 _ ih1 ih2=>intro nm h; exact (ih1 h).trans (ih2 h)
theorem ef1 (nm:Nms)(ks:List Str)(k:Str)(n:Int):az2 nm (ks++[k]) n=ap3 (az2 nm ks n) k n:=by simp[az2]
def as1 (l:List Str)(k:Str):List Str:=if k∈l then l else l++[k]
def cs4 (p:aa2):List Str:=p.files.foldl as1 ((p.provides.map (·.name)).foldl as1 [p.name])
def ar4 (nm:Nms)(ds:List Str)(n:Int):Nms:=ds.foldl (fun m k=>if n∈ad6 m k then m else ap3 m k n) nm
theorem cj7 (nm:Nms)(ks:List Str)(k:Str)(n:Int):ar4 nm (ks++[k]) n=if n∈ad6 (ar4 nm ks n) k then ar4 nm ks n else ap3 (ar4 nm ks n) k n:=by
 unfold ar4; rw[List.foldl_append]; rfl
structure Index where
 all:List aa2
 av4:Nms
 names:Nms
 over:Nms
def Index.v (x:Index):IV:=.ab6 [.aa3 (x.all.map aa2.cs),.al8 (nmV x.av4),.al8 (nmV x.names),.al8 (nmV x.over)]
def du6 (x:Index)(n:Nat)(p:aa2):Index:=⟨x.all++[p],az2 x.av4 (cs4 p) n,ap3 x.names p.name n,ar4 x.over (p.ab2.map (·.name)) n⟩
def idxFrom (x:Index):Nat->List aa2->Index
 | _,[]=>x
 | n,p::ps=>idxFrom (du6 x n p) (n+1) ps
def ai8 (l:List aa2):Index:=idxFrom ⟨[],[],[],[]⟩ 0 l
theorem du7 (ps:List aa2)(p:aa2):∀ (x:Index) (n:Nat),idxFrom x n (ps++[p])=du6 (idxFrom x n ps) (n+ps.length) p:=by
 induction ps with
 | nil=>intro x n; rfl
 | cons q qs ih=>intro x n; show idxFrom _ (n+1) (qs++[p])=_; rw[ih,List.length_cons]; congr 1; omega
theorem fg5 (L:NmL)(k:Str):ad6 (ay8 L) k=bz2 L k:=by
 induction L with
 | nil=>rfl
 | cons t ts ih=>
  simp only[ay8,List.map_cons,ad6,bz2,List.find?_cons] at ih ⊢;by_cases h:k=t.1
  ·simp[h]
  ·simp only[h,decide_false,if_false] at ih ⊢;exact ih
end Go.Id.Md
/- Indexes,in plain words: who stands in them,by number. Conditions: none; no program in sight. -/
namespace Go.Id.Md
open Go Go.Id
def numsOf (q:aa2->Bool)(l:List aa2):List Int:=((List.range l.length).filter fun n=>q (l.getD n default)).map fun (n:Nat)=>(n:Int)
theorem bs1 (q:aa2->Bool)(l:List aa2)(p:aa2):numsOf q (l++[p])=numsOf q l++if q p then [(l.length:Int)] else []:=by
 unfold numsOf;rw[List.length_append,List.length_singleton,List.range_succ,List.filter_append,List.map_append];congr 1
 ·congr 1;refine List.filter_congr fun n hn=>?_
  have h:=List.mem_range.1 hn;simp[List.getD_eq_getElem?_getD,List.getElem?_append,h]
 ·have e:(l++[p]).getD l.length default=p:=by simp[List.getD_eq_getElem?_getD]
  simp only[List.filter_cons,List.filter_nil,e];split<;>rfl
theorem bo5 {q:aa2->Bool}{l:List aa2}{n:Int}:n∈numsOf q l↔∃ m:Nat,n=m/\m<l.length/\q (l.getD m default)=true:=by
 unfold numsOf;rw[List.mem_map];constructor
 ·rintro ⟨m,hm,rfl⟩;obtain ⟨h1,h2⟩:=List.mem_filter.1 hm;exact ⟨m,rfl,List.mem_range.1 h1,h2⟩
 ·rintro ⟨m,rfl,h1,h2⟩;exact ⟨m,List.mem_filter.2 ⟨List.mem_range.2 h1,by simpa using h2⟩,rfl⟩
theorem ay4 (q:aa2->Bool)(l:List aa2):(numsOf q l).length<=l.length:=by
 unfold numsOf;rw[List.length_map];exact Nat.le_trans (List.length_filter_le _ _) (by simp)
theorem bw1 (q r:aa2->Bool)(l:List aa2):(numsOf q l).filter (fun n=>r (l.getD n.toNat default))=numsOf (fun p=>q p&&r p) l:=by
 unfold numsOf;rw[List.filter_map,List.filter_filter];congr 1;refine List.filter_congr fun n _=>?_
 show (r (l.getD ((n:Int)).toNat default)&&q (l.getD n default))=_;rw[Int.toNat_natCast,Bool.and_comm]
theorem cj8 {q r:aa2->Bool}{l:List aa2}(h:∀ p∈l,q p=r p):numsOf q l=numsOf r l:=by
 unfold numsOf;congr 1;refine List.filter_congr fun n hn=>?_
 have hlt:=List.mem_range.1 hn;refine h _ ?_;rw[List.getD_eq_getElem?_getD,List.getElem?_eq_getElem hlt];exact List.getElem_mem hlt
theorem ef2 {n:Int}:∀ (ks:List Str) {nm:Nms},KN nm->ks.Nodup->∀ j,ad6 (az2 nm ks n) j=ad6 nm j++if j∈ks then [n] else []:=by
 intro ks
 induction ks with
 | nil=>intro nm _ _ j; simp[az2]
 | cons k ks ih=>
  intro nm h hnd j;obtain ⟨h1,h2⟩:=List.nodup_cons.1 hnd;show ad6 (az2 (ap3 nm k n) ks n) j=_;rw[ih (ak9 h) h2,bd8 h];by_cases e:j=k
  ·subst e; simp[h1]
  ·simp[e]
theorem fg6 {n:Int}:∀ (ks:List Str) {nm:Nms},KN nm->KN (ar4 nm ks n):=by
 intro ks
 induction ks with
 | nil=>intro nm h; exact h
 | cons k ks ih=>
  intro nm h;show KN (ar4 (if n∈ad6 nm k then nm else ap3 nm k n) ks n);split
  ·exact ih h
  ·exact ih (ak9 h)
theorem du8 {n:Int}:∀ (ks:List Str) {nm:Nms},KN nm->∀ j,ad6 (ar4 nm ks n) j=ad6 nm j++if j∈ks/\n ∉ ad6 nm j then [n] else []:=by
 intro ks
 induction ks with
 | nil=>intro nm _ j; simp[ar4]
 | cons k ks ih=>
  intro nm h j;show ad6 (ar4 (if n∈ad6 nm k then nm else ap3 nm k n) ks n) j=_;by_cases hk:n∈ad6 nm k
  ·rw[if_pos hk,ih h];by_cases e:j=k
   ·subst e; simp[hk]
   ·simp[e]
  ·rw[if_neg hk,ih (ak9 h),bd8 h];by_cases e:j=k
   ·subst e; simp[hk]
   ·simp[e]
theorem fg7 {l:List Str}{k j:Str}:j∈as1 l k↔j∈l\/j=k:=by
 unfold as1;split
 ·rename_i h; exact ⟨.inl,fun h'=>h'.elim id fun e=>e▸h⟩
 ·simp
theorem cs5 {j:Str}:∀ (ks l:List Str),j∈ks.foldl as1 l↔j∈l\/j∈ks:=by
 intro ks
 induction ks with
 | nil=>intro l; simp
 | cons k ks ih=>intro l; rw[List.foldl_cons,ih,fg7,List.mem_cons,or_assoc]
theorem fg8 {l:List Str}(h:l.Nodup)(k:Str):(as1 l k).Nodup:=by
 unfold as1;split
 ·exact h
 ·rename_i hk;rw[List.nodup_append];exact ⟨h,by simp,fun a ha b hb e=>by simp at hb; subst hb; subst e; exact hk ha⟩
theorem bs2:∀ (ks:List Str) {l:List Str},l.Nodup->(ks.foldl as1 l).Nodup
 | [],_,h=>h
 | k::ks,_,h=>bs2 ks (fg8 h k)
theorem gm9 (p:aa2):(cs4 p).Nodup:=bs2 _ (bs2 _ (by simp))
theorem gn1 (p:aa2)(j:Str):j∈cs4 p↔j=p.name\/(∃ d∈p.provides,d.name=j)\/j∈p.files:=by
 unfold cs4;rw[cs5,cs5];simp[or_assoc]
structure ef3 (x:Index) (l:List aa2):Prop where
 all:x.all=l
 kp:KN x.av4
 kn:KN x.names
 ko:KN x.over
 av4:∀ j,ad6 x.av4 j=numsOf (fun p=>decide (j∈cs4 p)) l
 names:∀ j,ad6 x.names j=numsOf (fun p=>decide (p.name=j)) l
 over:∀ j,ad6 x.over j=numsOf (fun p=>decide (∃ d∈p.ab2,d.name=j)) l
theorem ef3.add {x:Index}{l:List aa2}(h:ef3 x l)(p:aa2):ef3 (du6 x l.length p) (l++[p]) where
 all:=by show x.all++[p]=_; rw[h.all]
 kp:=du4 h.kp
 kn:=ak9 h.kn
 ko:=fg6 _ h.ko
 av4:=fun j=>by
  show ad6 (az2 x.av4 (cs4 p) _) j=_;rw[ef2 _ h.kp (gm9 p),h.av4,bs1];simp
 names:=fun j=>by
  show ad6 (ap3 x.names p.name _) j=_;rw[bd8 h.kn,h.names,h.names,bs1];by_cases e:j=p.name
  ·subst e; simp
  ·have e':¬ p.name=j:=fun h=>e h.symm
   simp[e,e']
 over:=fun j=>by
  show ad6 (ar4 x.over _ _) j=_;rw[du8 _ h.ko,h.over,bs1]
  have hn:(l.length:Int) ∉ numsOf (fun p=>decide (∃ d∈p.ab2,d.name=j)) l:=fun hm=>by
   obtain ⟨m,e,h1,_⟩:=bo5.1 hm;omega
  simp[hn]
theorem fg9:∀ (ps:List aa2) {x:Index} {l:List aa2},ef3 x l->ef3 (idxFrom x l.length ps) (l++ps):=by
 intro ps
 induction ps with
 | nil=>intro x l h; rw[List.append_nil]; exact h
 | cons p ps ih=>
  intro x l h;have:=ih (h.add p);rw[List.append_assoc] at this
  simpa [idxFrom] using this
theorem bi8 (l:List aa2):ef3 (ai8 l) l:=by
 have h0:ef3 ⟨[],[],[],[]⟩ []:=⟨rfl,List.nodup_nil,List.nodup_nil,List.nodup_nil,fun _=>by simp[ad6,numsOf],fun _=>by simp[ad6,numsOf],fun _=>by simp[ad6,numsOf]⟩;exact fg9 l h0
theorem du9 {p:aa2}{d:Dep}(h:named p d=true):p.name=d.name:=by
 unfold named meets own at h;simp only[Bool.and_eq_true,decide_eq_true_eq] at h;exact h.1
theorem dv1 {p:aa2}{d:Dep}(h:provides p d=true):d.name∈cs4 p:=by
 unfold provides at h;rw[gn1];simp only[Bool.or_eq_true,Bool.and_eq_true,decide_eq_true_eq,List.any_eq_true] at h;rcases h with (h|⟨a,ha,h⟩)|⟨_,h⟩
 ·exact .inl (du9 h).symm
 ·unfold meets at h;simp only[Bool.and_eq_true,decide_eq_true_eq] at h;exact .inr (.inl ⟨a,ha,h.1⟩)
 ·exact .inr (.inr (by simpa using h))
def ap4 (l:List aa2)(d:Dep):List Int:=numsOf (fun p=>provides p d) l
def bi9 (l:List aa2)(d:Dep):List Int:=numsOf (fun p=>named p d) l
theorem dv2 (l:List aa2)(d:Dep):(ad6 (ai8 l).av4 d.name).filter (fun n=>provides (l.getD n.toNat default) d)=ap4 l d:=by
 rw[(bi8 l).av4];refine (bw1 (fun p=>decide (d.name∈cs4 p)) (fun p=>provides p d) l).trans ?_
 exact cj8 fun p _=>by
  cases h:provides p d with
  | false=>simp
  | true=>simp[dv1 h]
theorem gn2 (l:List aa2)(d:Dep):(ad6 (ai8 l).names d.name).filter (fun n=>named (l.getD n.toNat default) d)=bi9 l d:=by
 rw[(bi8 l).names];refine (bw1 (fun p=>decide (p.name=d.name)) (fun p=>named p d) l).trans ?_
 exact cj8 fun p _=>by
  cases h:named p d with
  | false=>simp
  | true=>simp[du9 h]
end Go.Id.Md
/- Pools of packages that may be: sizes. Conditions: none; no program in sight. -/
namespace Go.Id.Md
open Go Go.Id
theorem dl3:∀ (rs:List al1) (i:Nat) (st:List ax5×Nms) (out:List ax5×Nms),ai5 i rs st=some out->∀ r∈rs,r.packages.all ag8=true:=by
 intro rs
 induction rs with
 | nil=>intro i st out _ r hr; cases hr
 | cons x xs ih=>
  intro i st out h r hr;simp only[ai5] at h;split at h
  ·cases h
  ·rename_i hc;rcases List.mem_cons.1 hr with rfl|hr
   ·cases hb:r.packages.all ag8 with
    | true=>rfl
    | false=>exact absurd (.inr (.inr hb)) hc
   ·exact ih _ _ _ h r hr
theorem ch1 {ab5:List al1}{inst:List aa2}{p:Pool}(h:bq7 ab5 inst=.inl p):ab5.length<=16/\inst.length+ag4 ab5<=256/\inst.all ag8=true/\∀ r∈ab5,r.packages.all ag8=true:=by
 unfold bq7 at h;split at h
 ·cases h
 rename_i hc;split at h
 ·cases h
 rename_i hm;split at h
 ·rename_i rows nm hr;exact ⟨by omega,by omega,by simpa using hm,dl3 _ _ _ _ hr⟩
 ·cases h
theorem de9 (l:List aa2)(a b:Int):(rowsOf l a b).map (·.pkg)=l:=by
 induction l with
 | nil=>rfl
 | cons x xs ih=>show x::(rowsOf xs a b).map (·.pkg)=_; rw[ih]
def ac8 (p:Pool):List aa2:=p.rows.map (·.pkg)
theorem dl4:∀ (rs:List al1) (i:Nat),(az1 i rs).map (·.pkg)=rs.flatMap (·.packages):=by
 intro rs
 induction rs with
 | nil=>intro i; rfl
 | cons r rs ih=>intro i; simp only[az1,List.map_append,ih,de9,List.flatMap_cons]
theorem fu5:∀ (rs:List al1),(rs.flatMap (·.packages)).length=ag4 rs:=by
 intro rs
 induction rs with
 | nil=>rfl
 | cons r rs ih=>simp only[List.flatMap_cons,List.length_append,ih]; rfl
theorem bw2 {ab5:List al1}{inst:List aa2}{p:Pool}(h:bq7 ab5 inst=.inl p):ac8 p=inst++ab5.flatMap (·.packages):=by
 unfold ac8;rw[(gm7 h).1,List.map_append,dl4];congr 1;exact de9 _ _ _
theorem dl5 {ab5:List al1}{inst:List aa2}{p:Pool}(h:bq7 ab5 inst=.inl p):p.rows.length<=256:=by
 have e:p.rows.length=(ac8 p).length:=by simp[ac8]
 rw[e,bw2 h,List.length_append,fu5];exact (ch1 h).2.1
theorem en6 {ab5:List al1}{inst:List aa2}{p:Pool}(h:bq7 ab5 inst=.inl p):∀ x∈ac8 p,ag8 x=true/\(x∈inst\/∃ r∈ab5,x∈r.packages):=by
 intro x hx;rw[bw2 h] at hx;obtain ⟨_,_,h1,h2⟩:=ch1 h;rcases List.mem_append.1 hx with hx|hx
 ·exact ⟨List.all_eq_true.1 h1 x hx,.inl hx⟩
 ·obtain ⟨r,hr,hxr⟩:=List.mem_flatMap.1 hx;exact ⟨List.all_eq_true.1 (h2 r hr) x hxr,.inr ⟨r,hr,hxr⟩⟩
def EVR.tiny (e:EVR):Prop:=e.ver.length<=64/\e.rel.length<=64
theorem en7 {s:Str}(h:bg2 s=true):s.length<=64:=by
 unfold bg2 at h;simp only[Bool.and_eq_true,decide_eq_true_eq] at h;exact h.1.2
theorem en8 {e:EVR}{b:Bool}(h:bg3 e b=true):e.tiny:=by
 unfold bg3 at h;simp only[Bool.and_eq_true,Bool.or_eq_true,decide_eq_true_eq] at h;refine ⟨en7 h.1.2,?_⟩;rcases h.2 with h|h
 ·exact en7 h
 ·have:=List.isEmpty_iff.1 h.2; rw[this]; exact Nat.zero_le _
theorem dl6 {d:Dep}(h:al2 d=true):0<=d.op/\d.op<256/\d.evr.tiny/\d.name.length<=64:=by
 unfold al2 at h;simp only[Bool.and_eq_true] at h;obtain ⟨⟨h1,h2⟩,h3⟩:=h
 have hn:d.name.length<=64:=by
  unfold ax3 at h1;simp only[Bool.and_eq_true,decide_eq_true_eq] at h1;exact h1.1.1.2
 have ho:0<=d.op/\d.op<256:=by
  unfold ff7 at h2;simp only[List.contains_iff_mem,List.mem_cons,List.not_mem_nil,or_false] at h2;omega
 refine ⟨ho.1,ho.2,?_,hn⟩;split at h3
 ·have:d.evr=ic5:=by simpa using h3
  rw[this]; exact ⟨by decide,by decide⟩
 ·simp only[Bool.and_eq_true] at h3;exact en8 h3.2
structure aa2.Tiny (p:aa2):Prop where
 name:p.name.length<=64
 evr:p.evr.tiny
 av4:p.provides.length<=32/\∀ d∈p.provides,0<=d.op/\d.op<256/\d.evr.tiny/\d.name.length<=64
 obs:p.ab2.length<=32/\∀ d∈p.ab2,0<=d.op/\d.op<256/\d.evr.tiny/\d.name.length<=64
 files:p.files.length<=32
theorem en9 {p:aa2}(h:ag8 p=true):p.Tiny:=by
 unfold ag8 at h;simp only[Bool.and_eq_true,decide_eq_true_eq] at h;obtain ⟨⟨⟨⟨⟨⟨⟨⟨⟨⟨⟨⟨⟨⟨h1,_⟩,h3⟩,_⟩,_⟩,h6,h6'⟩,h7,h7'⟩,h8,_⟩,_⟩,_⟩,_⟩,_⟩,_⟩,_⟩,_⟩:=h;refine ⟨?_,en8 h3,⟨h6,fun d hd=>dl6 (List.all_eq_true.1 h6' d hd)⟩,⟨h7,fun d hd=>dl6 (List.all_eq_true.1 h7' d hd)⟩,h8⟩;unfold ax3 at h1;simp only[Bool.and_eq_true,decide_eq_true_eq] at h1;exact h1.1.1.2
end Go.Id.Md
/- What is asked for,in plain words: successors,newcomers,whom a job means,what fulfils it. Conditions: none; no program in sight. -/
namespace Go.Id.Md
open Go Go.Id
structure Job where
 kind:Int
 dep:Dep
 deriving DecidableEq,Inhabited
structure ba2 where
 kind:Int
 n:Int
 deriving DecidableEq,Inhabited
structure Req where
 an1:Int
 vendor:Bool
 an2:List Job
 al4:List ba2
 budget:Int
def Job.cs (j:Job):List IV:=[.int .u8 j.kind,.str j.dep.name,.int .u8 j.dep.op,.int .i64 j.dep.evr.ao5,.str j.dep.evr.ver,.str j.dep.evr.rel]
def ba2.cs (e:ba2):List IV:=[.int .u8 e.kind,.int .i64 e.n]
abbrev bs3 (l:List Job):IV:=.aa3 (l.map Job.cs)
abbrev aw6 (l:List ba2):IV:=.aa3 (l.map ba2.cs)
def Req.cs (r:Req):List IV:=[.int .u8 r.an1,.bool r.vendor,bs3 r.an2,aw6 r.al4,.int .i64 r.budget]
def am6 (q:Nat->Bool)(k:Nat):List Int:=((List.range k).filter q).map fun (n:Nat)=>(n:Int)
theorem df1 (q:Nat->Bool)(k:Nat):am6 q (k+1)=am6 q k++if q k then [(k:Int)] else []:=by
 unfold am6;rw[List.range_succ,List.filter_append,List.map_append];congr 1;simp only[List.filter_cons,List.filter_nil];split<;>rfl
theorem at5 {q:Nat->Bool}{k:Nat}{n:Int}:n∈am6 q k↔∃ m:Nat,n=m/\m<k/\q m=true:=by
 unfold am6;rw[List.mem_map];constructor
 ·rintro ⟨m,hm,rfl⟩;obtain ⟨h1,h2⟩:=List.mem_filter.1 hm;exact ⟨m,rfl,List.mem_range.1 h1,h2⟩
 ·rintro ⟨m,rfl,h1,h2⟩;exact ⟨m,List.mem_filter.2 ⟨List.mem_range.2 h1,h2⟩,rfl⟩
theorem az3 (q:Nat->Bool)(k:Nat):(am6 q k).length<=k:=by
 unfold am6;rw[List.length_map];exact Nat.le_trans (List.length_filter_le _ _) (by simp)
theorem dl7 (q:Nat->Bool)(k:Nat):(am6 q k).Pairwise (· < ·):=by
 unfold am6;refine List.Pairwise.map (R:=fun (a b:Nat)=>a<b) _ (fun a b h=>by show (a:Int)<b; omega) ?_;exact List.Pairwise.filter _ List.pairwise_lt_range
def cw2 (a:Int):Bool:=am8 a&&!decide (a=1)
def fu6 (a b:Int):Bool:=cw2 a&&cw2 b&&!decide (a=b)
def cn9 (a b:Int):Bool:=am8 a&&am8 b&&!fu6 a b
def az4 (m a:Int):Int :=
 if m=2 then (if a=1 then 2 else if a=2 then 1 else if a=3 then 3 else 0) else
 if m=3 then (if a=1 then 2 else if a=3 then 1 else 0) else
 if m=4 then (if a=1 then 2 else if a=4 then 1 else 0) else 0
def ik5 (m a:Int):Bool:=decide (0<az4 m a)
structure ah7 where
 p:Pool
 r:Req
namespace ah7
variable (a:ah7)
def l:List aa2:=ac8 a.p
def pk (n:Int):aa2:=a.l.getD n.toNat default
def jb (n:Int):Job:=a.r.an2.getD n.toNat default
def is (n:Int):Bool:=decide (0<=n)&&decide (n<a.l.length)
def inst (n:Int):Bool:=a.is n&&decide (n<a.p.inst)
def job (n:Int):Bool:=decide (0<=n)&&decide (n<a.r.an2.length)
def fits (n:Int):Bool:=a.is n&&ik5 a.r.an1 (a.pk n).an1
def cj9 (k n:Int):Bool:=decide ((⟨k,n⟩:ba2)∈a.r.al4)
def dropped (n:Int):Bool:=a.job n&&a.cj9 1 n
def cs6 (k n:Int):Bool:=(List.range a.r.an2.length).any fun i=>decide ((a.jb i).kind=k)&&!a.dropped i&&decide (n∈bi9 a.l (a.jb i).dep)
def dv3 (vendor down other:Bool)(old q:aa2):Bool:=decide (q.name=old.name)&&(down||decide (0<=ak8 q.evr old.evr))&&(other||cn9 q.an1 old.an1)&&(vendor||decide (q.vendor=old.vendor))
def ja8 (i:Int)(q:aa2):Bool:=dv3 a.r.vendor (a.cj9 3 i||a.cs6 4 i) (a.cj9 4 i) (a.pk i) q
def aw7 (i:Int):List Int:=if a.inst i then am6 (fun n=>decide ((n:Int)=i)||a.ja8 i (a.pk n)||(!decide ((n:Int)=i)&&ab2 (a.pk n) (a.pk i))) a.l.length else []
def some (state l:List Int):Bool:=l.any fun n=>decide (n∈state)
def cs:List IV:=[a.p.v,(ai8 a.l).v,.int .u8 a.r.an1,.bool a.r.vendor,bs3 a.r.an2,aw6 a.r.al4,.int .i64 a.r.budget,.aa3 (a.l.map aa2.cs)]
def v:IV:=.ab6 a.cs
end ah7
def bs4 (e:ba2)(an2 inst:Int):Bool:=decide (1<=e.kind)&&decide (e.kind<=4)&&decide (0<=e.n)&&decide (e.n<if e.kind=1 then an2 else inst)
def ck3 (j:Job):Bool:=decide (1<=j.kind)&&decide (j.kind<=4)&&al2 j.dep
def au3 (r:Req)(inst:Int):Int :=
 if cw2 r.an1=false\/r.budget<0\/1099511627776<r.budget then 1 else
 if 64<r.an2.length\/64<r.al4.length then 40 else
 if r.an2.all ck3=false then 4 else
 if r.al4.all (fun e=>bs4 e r.an2.length inst)=false then 5 else 0
def ik6 (p:Pool)(r:Req):IV:=if au3 r p.inst=0 then .tuple [(ah7.mk p r).v,.int .i64 0] else .tuple [.ab7,.int .i64 (au3 r p.inst)]
theorem co1 (a b:Int):am5 b a=- am5 a b:=by
 unfold am5; split<;>split<;>(try split)<;>(try split)<;>omega
theorem cs7 {a b:Int}:am5 a b=0↔a=b:=by
 unfold am5;split
 ·constructor
  ·intro h; omega
  ·intro h; omega
 ·split
  ·simp_all
  ·constructor
   ·intro h; omega
   ·intro h; contradiction
theorem co2:∀ (x y:List UInt8),Op.bytesLess x y=decide (x<y)
 | [],[]=>by simp[Op.bytesLess]
 | _::_,[]=>by simp[Op.bytesLess]
 | [],_::_=>by simp[Op.bytesLess]
 | a::x,b::y=>by
  simp only[Op.bytesLess,co2 x y,List.cons_lt_cons_iff];by_cases h:a<b
  ·simp[h]
  ·by_cases h2:a=b
   ·subst h2; simp
   ·simp[h,h2]
theorem ik7 (a b:Str):Op.bytesLess a b=true/\Op.bytesLess b a=false/\a≠b\/a=b/\Op.bytesLess a b=false\/Op.bytesLess b a=true/\Op.bytesLess a b=false/\a≠b:=by
 simp only[co2,decide_eq_true_eq,decide_eq_false_iff_not];rcases Decidable.em (a<b) with h|h
 ·exact .inl ⟨h,fun h2=>List.lt_asymm h h2,fun e=>List.lt_irrefl a (by rw[<- e] at h; exact h)⟩
 ·rcases Decidable.em (b<a) with h2|h2
  ·exact .inr (.inr ⟨h2,h,fun e=>List.lt_irrefl a (by rw[<- e] at h2; exact h2)⟩)
  ·exact .inr (.inl ⟨List.le_antisymm (List.not_lt.1 h2) (List.not_lt.1 h),h⟩)
theorem eo1 (a b:Str):cr5 b a=- cr5 a b:=by
 unfold cr5;rcases ik7 a b with ⟨h1,h2,h3⟩|⟨rfl,h⟩|⟨h1,h2,h3⟩
 ·rw[h1,h2,if_neg (by simp),if_neg (fun e=>h3 e.symm),if_pos rfl]; rfl
 ·rw[h]; simp
 ·rw[h1,h2,if_pos rfl,if_neg (by simp),if_neg h3]
theorem ef4 (a b:Part):af9 b a=- af9 a b:=by
 unfold af9;simp only[co1 (a.kind:Int) b.kind,co1 (a.s.length:Int) b.s.length,eo1 a.s b.s];have e:(b.kind=5/\a.kind=5)↔(a.kind=5/\b.kind=5):=And.comm;by_cases h1:am5 (a.kind:Int) b.kind=0
 ·simp only[h1,Int.neg_zero,ne_eq,not_true_eq_false,if_false,e];by_cases h2:a.kind=5/\b.kind=5
  ·simp only[h2,and_self,if_true];by_cases h3:am5 (a.s.length:Int) b.s.length=0
   ·simp[h3]
   ·have h4:¬ - am5 (a.s.length:Int) b.s.length=0:=by omega
    simp[h3,h4]
  ·simp[h2]
 ·have h2:¬ - am5 (a.kind:Int) b.kind=0:=by omega
  simp[h1,h2]
theorem dv4:∀ (a b:List Part),ag2 b a=- ag2 a b:=by
 intro a
 induction a with
 | nil=>intro b; cases b<;>rfl
 | cons x a ih=>
  intro b
  cases b with
  | nil=>rfl
  | cons y b=>
   simp only[ag2,ef4 x y];by_cases h:af9 x y=0
   ·simp[h,ih b]
   ·have h2:¬ - af9 x y=0:=by omega
    simp[h,h2]
theorem ch2 (a b:Str):ap8 b a=- ap8 a b:=dv4 _ _
theorem df2 (a b:EVR):ak8 b a=- ak8 a b:=by
 unfold ak8;rw[co1 a.ao5 b.ao5,ch2 a.ver b.ver,ch2 a.rel b.rel];by_cases h1:am5 a.ao5 b.ao5=0
 ·by_cases h2:ap8 a.ver b.ver=0
  ·simp only[h1,h2,Int.neg_zero,ne_eq,not_true_eq_false,if_false];by_cases h3:a.rel=[]\/b.rel=[]
   ·rw[if_pos h3,if_pos h3.symm]; rfl
   ·rw[if_neg h3,if_neg (fun h=>h3 h.symm)]
  ·have h3:¬ - ap8 a.ver b.ver=0:=by omega
   simp[h1,h2,h3]
 ·have h3:¬ - am5 a.ao5 b.ao5=0:=by omega
  simp[h1,h3]
namespace ah7
variable (a:ah7)
theorem df3 (n:Nat):a.is n=decide (n<a.l.length):=by
 unfold is;have:(0:Int)<=n:=by omega
 simp only[this,decide_true,Bool.true_and];exact decide_eq_decide.2 (by omega)
theorem gn3 {i n:Int}(h:n∈a.aw7 i):a.inst i=true/\∃ m:Nat,n=m/\m<a.l.length:=by
 unfold aw7 at h;split at h
 ·rename_i hi;obtain ⟨m,e,h1,_⟩:=at5.1 h;exact ⟨hi,m,e,h1⟩
 ·cases h
theorem ef5 {i:Int}(h:a.inst i=true):0<=i/\i<a.l.length:=by
 unfold inst is at h;simp only[Bool.and_eq_true,decide_eq_true_eq] at h;exact h.1
theorem de7 (i:Int):i∈a.aw7 i↔a.inst i=true:=by
 constructor
 ·exact fun h=>(a.gn3 h).1
 ·intro h;obtain ⟨h1,h2⟩:=a.ef5 h;unfold aw7;rw[if_pos h]
  exact at5.2 ⟨i.toNat,by omega,by omega,by
   have:((i.toNat:Nat):Int)=i:=by omega
   simp[this]⟩
end ah7
end Go.Id.Md
/- What holds of what is asked for: al4,states. Conditions: none; no program in sight. -/
namespace Go.Id.Md
open Go Go.Id
namespace ah7
variable (a:ah7)
variable (x:ba2)
variable {x} (hx:x.kind≠1)
include hx
end ah7
end Go.Id.Md
/- Who is better: an order; rich dependencies,whole and true: in plain words. Conditions: none; no program in sight. -/
namespace Go.Id.Md
open Go Go.Id
structure WO {α:Type} (S:α->Prop) (f:α->α->Int):Prop where
 neg:∀ a b,f b a=- f a b
 tr:∀ a b c,S a->S b->S c->f a b<=0->f b c<=0->f a c<=0
def lex (x y:Int):Int:=if x=0 then y else x
theorem hl9 (x y:Int):lex (-x) (-y)=- lex x y:=by unfold lex; split<;>split<;>omega
theorem WO.lex {α:Type}{S:α->Prop}{f g:α->α->Int}(hf:WO S f)(hg:WO S g):WO S fun a b=>Md.lex (f a b) (g a b) where
 neg:=fun a b=>by show Md.lex (f b a) (g b a)=_; rw[hf.neg,hg.neg,hl9]
 tr:=fun a b c sa sb sc h1 h2=>by
  have k1:=hf.tr a b c sa sb sc;have k2:=hf.tr c a b sc sa sb;have k3:=hf.tr b c a sb sc sa;have k4:=hg.tr a b c sa sb sc;have n1:=hf.neg a b;have n2:=hf.neg b c;have n3:=hf.neg a c;unfold Md.lex at *;split at h1<;>split at h2<;>split<;>omega
theorem WO.of {α β:Type}{S:β->Prop}{f:β->β->Int}(hf:WO S f)(g:α->β):WO (fun a=>S (g a)) fun a b=>f (g a) (g b) where
 neg:=fun a b=>hf.neg _ _
 tr:=fun a b c sa sb sc=>hf.tr _ _ _ sa sb sc
theorem WO.flip {α:Type}{S:α->Prop}{f:α->α->Int}(hf:WO S f):WO S fun a b=>f b a where
 neg:=fun a b=>hf.neg b a
 tr:=fun a b c sa sb sc h1 h2=>hf.tr c b a sc sb sa h2 h1
theorem WO.sub {α:Type}{S T:α->Prop}{f:α->α->Int}(hf:WO S f)(h:∀ a,T a->S a):WO T f:=⟨hf.neg,fun a b c sa sb sc=>hf.tr a b c (h a sa) (h b sb) (h c sc)⟩
theorem cs8:WO (fun _=>True) am5 where
 neg:=fun a b=>co1 a b
 tr:=fun a b c _ _ _ h1 h2=>by
  unfold am5 at *;split at h1<;>split at h2<;>split<;>(try split at h1)<;>(try split at h2)<;>(try split)<;>omega
theorem ef6 {a b:Str}:cr5 a b<=0↔a<=b:=by
 unfold cr5;rcases ik7 a b with ⟨h1,h2,h3⟩|⟨rfl,h⟩|⟨h1,h2,h3⟩
 ·rw[h1,if_pos rfl];rw[co2,decide_eq_true_eq] at h1;exact ⟨fun _=>List.le_of_lt h1,fun _=>by decide⟩
 ·rw[h]; simp[List.le_refl]
 ·rw[h2,if_neg (by simp),if_neg h3];rw[co2,decide_eq_true_eq] at h1;exact ⟨fun h=>absurd h (by decide),fun h=>absurd h1 (List.not_lt.2 h)⟩
theorem ik8:WO (fun _=>True) cr5 where
 neg:=fun a b=>eo1 a b
 tr:=fun a b c _ _ _ h1 h2=>ef6.2 (List.le_trans (ef6.1 h1) (ef6.1 h2))
def co3 (a b:Part):Int:=lex (am5 a.kind b.kind) (lex (am5 (if a.kind=5 then (a.s.length:Int) else 0) (if b.kind=5 then (b.s.length:Int) else 0)) (cr5 a.s b.s))
theorem df4 (a b:Part):af9 a b=co3 a b:=by
 unfold af9 co3 lex;by_cases h:am5 (a.kind:Int) b.kind=0
 ·have e:=cs7.1 h;have e':a.kind=b.kind:=by omega
  simp only[h,ne_eq,not_true_eq_false,if_false,if_true,e'];by_cases k5:b.kind=5
  ·simp only[k5,and_self,if_true]; split<;>simp_all
  ·have z:am5 0 0=0:=by decide
   simp[k5,z]
 ·simp[h]
theorem ch3:WO (fun _=>True) af9:=by
 have h:af9=co3:=by funext a b; exact df4 a b
 rw[h];exact (cs8.of (fun a:Part=>(a.kind:Int))).lex ((cs8.of (fun a:Part=>if a.kind=5 then (a.s.length:Int) else 0)).lex (ik8.of Part.s))
theorem cs9 {a b:Part}(h:af9 a b=0):a.kind=b.kind:=by
 rw[df4] at h;unfold co3 lex at h;split at h
 ·rename_i e; have:=cs7.1 e; omega
 ·contradiction
abbrev fu7:Part:=⟨2,[]⟩
theorem av5 (x y:Part)(a b:List Part):ag2 (x::a) (y::b)=lex (af9 x y) (ag2 a b):=by
 show (if af9 x y≠0 then af9 x y else ag2 a b)=_;unfold lex; split<;>simp_all
theorem bd9 (a:List Part):ag2 [] a=0:=by cases a<;>rfl
theorem bo6 (a:List Part):ag2 a []=0:=by cases a<;>rfl
theorem gn4:∀ (a b c:List Part),(∀ x∈a,x.kind≠2)->(∀ x∈b,x.kind≠2)->(∀ x∈c,x.kind≠2) ->
  ag2 (a++[fu7]) (b++[fu7])<=0->ag2 (b++[fu7]) (c++[fu7])<=0->ag2 (a++[fu7]) (c++[fu7])<=0:=by
 have hd:∀ (x y z:Part) (r s t:Int),lex (af9 x y) r<=0->lex (af9 y z) s<=0->(af9 x y=0->af9 y z=0->r<=0->s<=0->t<=0)->lex (af9 x z) t<=0:=fun x y z r s t h1 h2 h3=>by
  have k1:=ch3.tr x y z trivial trivial trivial;have k2:=ch3.tr z x y trivial trivial trivial;have k3:=ch3.tr y z x trivial trivial trivial;have n1:=ch3.neg x y;have n2:=ch3.neg y z;have n3:=ch3.neg x z;unfold lex at *;split at h1<;>split at h2<;>split<;>first|omega|exact h3 (by assumption) (by assumption) h1 h2
 intro a
 induction a with
 | nil=>
  intro b c _ hb hc h1 h2
  cases b with
  | nil=>exact h2
  | cons y b=>
   cases c with
   | nil=>simp only[List.nil_append,av5,bd9]; decide
   | cons z c=>
    simp only[List.nil_append,List.cons_append,av5,bd9] at *;refine hd _ y z _ _ _ h1 h2 fun e _ _ _=>?_
    exact absurd (cs9 e).symm (hb y List.mem_cons_self)
 | cons x a ih=>
  intro b c ha hb hc h1 h2
  cases b with
  | nil=>
   simp only[List.nil_append,List.cons_append,av5,bd9,bo6] at h1
   cases c with
   | nil=>simp only[List.nil_append,List.cons_append,av5,bd9,bo6]; exact h1
   | cons z c=>
    simp only[List.nil_append,List.cons_append,av5,bd9,bo6] at *;refine hd x fu7 z _ _ _ h1 h2 fun e _ _ _=>?_
    exact absurd (cs9 e) (ha x List.mem_cons_self)
  | cons y b=>
   cases c with
   | nil=>
    simp only[List.nil_append,List.cons_append,av5,bd9,bo6] at *;refine hd x y fu7 _ _ _ h1 h2 fun _ e _ _=>?_
    exact absurd (cs9 e) (hb y List.mem_cons_self)
   | cons z c=>
    simp only[List.cons_append,av5] at *;refine hd x y z _ _ _ h1 h2 fun _ _ r s=>?_
    exact ih b c (fun p hp=>ha p (List.mem_cons_of_mem _ hp)) (fun p hp=>hb p (List.mem_cons_of_mem _ hp)) (fun p hp=>hc p (List.mem_cons_of_mem _ hp)) r s
theorem eo2 (b:UInt8):ae3 b≠2:=by
 unfold ae3
 repeat (first|split|omega)
theorem ct1 (s:Str):∀ x∈ae9 s,x.kind≠2:=by
 unfold ae9
 have : ∀ n s,∀ x∈ar8 n s,x.kind≠2:=by
  intro n
  induction n with
  | zero=>intro s x hx; cases hx
  | succ n ih=>
   intro s x hx
   cases s with
   | nil=>cases hx
   | cons b l=>
    simp only[ar8] at hx;split at hx
    ·exact ih _ x hx
    ·split at hx
     ·rcases List.mem_cons.1 hx with rfl|hx
      ·exact eo2 b
      ·exact ih _ x hx
     ·rcases List.mem_cons.1 hx with rfl|hx
      ·exact eo2 b
      ·exact ih _ x hx
 exact this _ s
theorem gx5:WO (fun _=>True) ap8 where
 neg:=fun a b=>ch2 a b
 tr:=fun a b c _ _ _ h1 h2=>gn4 _ _ _ (ct1 a) (ct1 b) (ct1 c) h1 h2
theorem gx6:WO (fun e:EVR=>e.rel≠[]) ak8 where
 neg:=fun a b=>df2 a b
 tr:=by
  have h:=(cs8.of EVR.ao5).lex ((gx5.of EVR.ver).lex (gx5.of EVR.rel))
  have e:∀ a b:EVR,a.rel≠[]->b.rel≠[]->ak8 a b=lex (am5 a.ao5 b.ao5) (lex (ap8 a.ver b.ver) (ap8 a.rel b.rel)):=fun a b ha hb=>by
   unfold ak8 lex;have hn:¬ (a.rel=[]\/b.rel=[]):=by simp[ha,hb]
   rw[if_neg hn];by_cases h1:am5 a.ao5 b.ao5=0<;>by_cases h2:ap8 a.ver b.ver=0<;>simp[h1,h2]
  intro a b c ha hb hc;rw[e a b ha hb,e b c hb hc,e a c ha hc];exact h.tr a b c trivial trivial trivial
end Go.Id.Md
/- aa8 dependencies,whole and true; who is better: in plain words. Conditions: none; no program in sight. -/
namespace Go.Id.Md
open Go Go.Id
def ef7 (k:Int):Nat:=if k=4 then 3 else if k=5 then 3 else if k=7 then 2 else 24
def aq6 (k:Int)(d:Dep)(n:Nat):Bool:=decide (1<k)&&decide (k<=7)&&decide (d=dz8)&&decide (2<=n)&&decide (n<=ef7 k)
mutual
def aa8.ms:aa8->Nat×Nat×Bool
 | .mk k d aZ=>if k=1 then (1,0,decide (aZ.length=0)&&al2 d) else ((aa8.msL aZ 1 0 (aq6 k d aZ.length)).1,(aa8.msL aZ 1 0 (aq6 k d aZ.length)).2.1+1,(aa8.msL aZ 1 0 (aq6 k d aZ.length)).2.2)
def aa8.msL:List aa8->Nat->Nat->Bool->Nat×Nat×Bool
 | [],p,d,ok=>(p,d,ok)
 | r::rs,p,d,ok=>if ok=true then aa8.msL rs (p+r.ms.1) (max d r.ms.2.1) r.ms.2.2 else (p,d,false)
end
def dv5 (r:aa8):Bool:=r.ms.2.2&&decide (r.ms.1<=24)&&decide (r.ms.2.1<=8)
inductive aa8.Good:aa8->Prop
 | atom (d:Dep) (h:al2 d=true):aa8.Good (.mk 1 d [])
 | node (k:Int) (d:Dep) (aZ:List aa8) (h1:1<k) (h2:k<=7) (h3:2<=aZ.length) (h4:aZ.length<=ef7 k) (h5:∀ a∈aZ,aa8.Good a):aa8.Good (.mk k d aZ)
theorem aa8.ik9:∀ (aZ:List aa8) (p d:Nat) (ok:Bool),(aa8.msL aZ p d ok).2.2=true->ok=true/\∀ a∈aZ,a.ms.2.2=true:=by
 intro aZ
 induction aZ with
 | nil=>intro p d ok h; exact ⟨h,fun _ h=>by cases h⟩
 | cons r rs ih=>
  intro p d ok h;simp only[aa8.msL] at h;split at h
  ·rename_i hk;obtain ⟨h1,h2⟩:=ih _ _ _ h;refine ⟨hk,fun a ha=>?_⟩;rcases List.mem_cons.1 ha with rfl|ha
   ·exact h1
   ·exact h2 a ha
  ·cases h
theorem aa8.hm4 (r:aa8):r.ms.2.2=true->r.Good:=by
 induction r using aa8.ind with
 | h k d aZ ih=>
  intro h;unfold aa8.ms at h;split at h
  ·rename_i hk;subst hk;simp only[Bool.and_eq_true,decide_eq_true_eq] at h;obtain ⟨h1,h2⟩:=h;have e:aZ=[]:=List.length_eq_zero_iff.1 h1;subst e;exact .atom d h2
  ·obtain ⟨h1,h2⟩:=aa8.ik9 _ _ _ _ h;unfold aq6 at h1;simp only[Bool.and_eq_true,decide_eq_true_eq] at h1;exact .node k d aZ h1.1.1.1.1 h1.1.1.1.2 h1.1.2 h1.2 fun a ha=>ih a ha (h2 a ha)
theorem aa8.il1 (aZ:List aa8)(h:∀ a∈aZ,a.ms.1<=a.count/\a.ms.2.1<=a.count):∀ (p d:Nat) (ok:Bool),(aa8.msL aZ p d ok).1<=p+aa8.counts aZ/\(aa8.msL aZ p d ok).2.1<=d+aa8.counts aZ:=by
 induction aZ with
 | nil=>intro p d ok; simp[aa8.msL,aa8.counts]
 | cons r rs ih=>
  intro p d ok;obtain ⟨h1,h2⟩:=h r List.mem_cons_self;have ih':=ih (fun a ha=>h a (List.mem_cons_of_mem _ ha));simp only[aa8.msL,aa8.counts];split
  ·obtain ⟨i1,i2⟩:=ih' (p+r.ms.1) (max d r.ms.2.1) r.ms.2.2;omega
  ·simp only; omega
theorem aa8.il2 (r:aa8):r.ms.1<=r.count/\r.ms.2.1<=r.count:=by
 induction r using aa8.ind with
 | h k d aZ ih=>
  unfold aa8.ms;simp only[aa8.count];split
  ·simp only; omega
  ·obtain ⟨h1,h2⟩:=aa8.il1 aZ ih 1 0 (aq6 k d aZ.length);simp only; omega
abbrev ff:List Bool->Bool:=fun _=>false
def dv6 (c n:Nat):List Bool:=(List.range c).map fun m=>decide (m=n)
def stB (c:Nat)(zs:List Int):List Bool:=(List.range c).map fun (m:Nat)=>decide ((m:Int)∈zs)
def gn5 (st:List Bool)(f:Nat->Bool):Bool:=(List.range st.length).any fun n=>st.getD n false&&f n
def trK (l:List aa2)(k:Int)(d:Dep)(fs:List (List Bool->Bool))(st:List Bool):Bool :=
 if k=1 then (ap4 l d).any fun n=>st.getD n.toNat false
 else if k=2 then fs.all fun f=>f st
 else if k=3 then fs.any fun f=>f st
 else if k=4 then (if (fs.getD 1 ff) st then (fs.getD 0 ff) st else decide (fs.length<3)||(fs.getD 2 ff) st)
 else if k=5 then (if (fs.getD 1 ff) st then decide (fs.length=3)&&(fs.getD 2 ff) st else (fs.getD 0 ff) st)
 else if k=6 then gn5 st fun n=>fs.all fun f=>f (dv6 st.length n)
 else gn5 st fun n=>(fs.getD 0 ff) (dv6 st.length n)&&!(fs.getD 1 ff) (dv6 st.length n)
mutual
def aa8.tr (l:List aa2):aa8->List Bool->Bool
 | .mk k d aZ,st=>trK l k d (aa8.trs l aZ) st
def aa8.trs (l:List aa2):List aa8->List (List Bool->Bool)
 | []=>[]
 | r::rs=>(fun st=>r.tr l st)::aa8.trs l rs
end
theorem aa8.dl8 (l:List aa2)(aZ:List aa8):aa8.trs l aZ=aZ.map fun r st=>r.tr l st:=by
 induction aZ with
 | nil=>rfl
 | cons r rs ih=>simp only[aa8.trs,List.map_cons,ih]
def hm5 (l:List aa2)(zs:List Int)(r:aa8):Bool:=dv5 r&&r.tr l (stB l.length zs)
def aa8.atoms (r:aa8):List Dep:=(r.parts false).filterMap fun p=>if p.1.kind=1 then some p.1.dep else none
structure ak1 where
 a:ah7
 dv8:List Bool
def bp8 (b:Bool):List IV:=[.bool b]
namespace ak1
variable (o:ak1)
def cs:List IV:=[o.a.v,o.a.p.v,.int .u8 o.a.r.an1,.aa3 (o.a.l.map aa2.cs),.aa3 (o.dv8.map bp8)]
def v:IV:=.ab6 o.cs
def lk (n:Int):Bool:=o.dv8.getD n.toNat false
def ba4 (b:Bool):Int:=if b then 0 else 1
def prio (n:Int):Int:=(o.a.p.rows.getD n.toNat ⟨default,0,0⟩).prio
def cmp (n m:Int):Int :=
 lex (am5 (ba4 (o.a.fits n)) (ba4 (o.a.fits m))) (lex (am5 (az4 o.a.r.an1 (o.a.pk n).an1) (az4 o.a.r.an1 (o.a.pk m).an1)) (lex (am5 (o.prio m) (o.prio n))
  (lex (am5 (ba4 (o.lk n)) (ba4 (o.lk m))) (lex (ak8 (o.a.pk m).evr (o.a.pk n).evr) (am5 n m)))))
def better (n m:Int):Bool:=o.a.is n&&o.a.is m&&decide (o.cmp n m<0)
theorem wo:WO (fun n=>(o.a.pk n).evr.rel≠[]) o.cmp:=by
 have hi {g:Int->Int}:WO (fun n=>(o.a.pk n).evr.rel≠[]) fun a b=>am5 (g a) (g b):=(cs8.of g).sub fun _ _=>trivial
 exact hi.lex (hi.lex ((hi (g:=o.prio)).flip.lex (hi.lex ((gx6.of fun n=>(o.a.pk n).evr).flip.lex (hi (g:=fun n=>n))))))
theorem co4 {n m:Int}(h:o.cmp n m=0):n=m:=by
 unfold cmp lex at h
 repeat (first|exact cs7.1 h|(split at h; rotate_left; contradiction))
theorem dl9 (n:Int):o.cmp n n=0:=by have:=o.wo.neg n n; omega
def bw3 (zs:List Int):List Int:=(am6 (fun n=>decide ((n:Int)∈zs)) o.a.l.length).mergeSort fun x y=>!decide (o.cmp y x<0)
theorem bw4 {zs:List Int}{n:Int}:n∈o.bw3 zs↔n∈zs/\o.a.is n=true:=by
 unfold bw3;rw[(List.mergeSort_perm _ _).mem_iff,at5];constructor
 ·rintro ⟨m,rfl,h1,h2⟩;exact ⟨by simpa using h2,by rw[ah7.df3]; exact decide_eq_true h1⟩
 ·rintro ⟨h1,h2⟩;unfold ah7.is at h2;simp only[Bool.and_eq_true,decide_eq_true_eq] at h2;have e:((n.toNat:Nat):Int)=n:=by omega
  exact ⟨n.toNat,e.symm,by omega,by rw[e]; exact decide_eq_true h1⟩
variable (hr:∀ n,o.a.is n=true->(o.a.pk n).evr.rel≠[])
include hr
theorem lt_trans {a b c:Int}(ha:o.a.is a=true)(hb:o.a.is b=true)(hc:o.a.is c=true)(h1:o.cmp a b<0)(h2:o.cmp b c<0):o.cmp a c<0:=by
 have k1:=o.wo.tr a b c (hr a ha) (hr b hb) (hr c hc);have k2:=o.wo.tr c a b (hr c hc) (hr a ha) (hr b hb);have n1:=o.wo.neg a b;have n2:=o.wo.neg b c;have n3:=o.wo.neg a c;omega
theorem gn6 (zs:List Int):(o.bw3 zs).Pairwise fun x y=>o.cmp x y<0:=by
 have hm:∀ x∈am6 (fun n=>decide ((n:Int)∈zs)) o.a.l.length,o.a.is x=true:=fun x hx=>by
  obtain ⟨m,rfl,h1,_⟩:=at5.1 hx;rw[ah7.df3]; exact decide_eq_true h1
 have hnd:(o.bw3 zs).Nodup:=by
  unfold bw3;rw[(List.mergeSort_perm _ _).nodup_iff];exact (dl7 _ _).imp fun h e=>by omega
 have hmem:∀ x∈o.bw3 zs,o.a.is x=true:=fun x hx=>((o.bw4).1 hx).2
 have hp:(o.bw3 zs).Pairwise fun x y=>(!decide (o.cmp y x<0))=true:=by
  unfold bw3
  -- the order holds among the numbers that there are
  let S:={ n:Int // o.a.is n=true };let L:List S:=(am6 (fun n=>decide ((n:Int)∈zs)) o.a.l.length).attach.map fun x=>⟨x.1,hm x.1 x.2⟩
  have hL:L.map (·.1)=am6 (fun n=>decide ((n:Int)∈zs)) o.a.l.length:=by
   show (List.map _ (List.map _ _))=_;rw[List.map_map];exact List.attach_map_subtype_val _
  rw[<- hL,<- List.map_mergeSort (r:=fun x y:S=>!decide (o.cmp y.1 x.1<0)) (fun _ _ _ _=>rfl)];refine List.Pairwise.map _ (fun _ _ h=>h) ?_;refine List.pairwise_mergeSort ?_ ?_ L
  ·intro a b c h1 h2;have k1:=o.wo.tr a.1 b.1 c.1 (hr _ a.2) (hr _ b.2) (hr _ c.2);have n1:=o.wo.neg a.1 b.1;have n2:=o.wo.neg b.1 c.1;have n3:=o.wo.neg a.1 c.1;simp only[Bool.not_eq_true',decide_eq_false_iff_not] at h1 h2 ⊢;omega
  ·intro a b;have n1:=o.wo.neg a.1 b.1;by_cases h:o.cmp a.1 b.1<0
   ·have:¬ o.cmp b.1 a.1<0:=by omega
    simp[h,this]
   ·simp[h]
 refine hp.imp₂ (fun {x y} h1 h2=>?_) hnd;have n1:=o.wo.neg x y;have n2:=fun h=>o.co4 (n:=x) (m:=y) h
 have h2':x≠y:=h2;have h1':¬ o.cmp y x<0:=by simpa using h1
 have:o.cmp x y≠0:=fun h=>h2' (n2 h)
 omega
theorem il3:∀ {D F:List Int},(∀ x∈D,o.a.is x=true)->(∀ x∈F,o.a.is x=true)->D.Pairwise (fun x y=>o.cmp x y<0)->F.Pairwise (fun x y=>o.cmp x y<0)->(∀ x,x∈D↔x∈F)->D=F:=by
 intro D
 induction D with
 | nil=>intro F _ _ _ _ h; cases F with
  | nil=>rfl
  | cons y F=>exact absurd ((h y).2 List.mem_cons_self) (by simp)
 | cons x D ih=>
  intro F hD hF pD pF h
  cases F with
  | nil=>exact absurd ((h x).1 List.mem_cons_self) (by simp)
  | cons y F=>
   obtain ⟨pD1,pD2⟩:=List.pairwise_cons.1 pD;obtain ⟨pF1,pF2⟩:=List.pairwise_cons.1 pF
   have hxy:x=y:=by
    rcases List.mem_cons.1 ((h x).1 List.mem_cons_self) with h1|h1
    ·exact h1
    rcases List.mem_cons.1 ((h y).2 List.mem_cons_self) with h2|h2
    ·exact h2.symm
    have:=pF1 x h1;have:=pD1 y h2;have:=o.wo.neg x y;omega
   subst hxy;congr 1
   have nD:∀ z∈D,z≠x:=fun z hz e=>by
    subst e; have:=pD1 z hz; rw[o.dl9] at this; omega
   have nF:∀ z∈F,z≠x:=fun z hz e=>by
    subst e; have:=pF1 z hz; rw[o.dl9] at this; omega
   refine ih (fun z hz=>hD z (List.mem_cons_of_mem _ hz)) (fun z hz=>hF z (List.mem_cons_of_mem _ hz)) pD2 pF2 fun z=>⟨fun hz=>?_,fun hz=>?_⟩
   ·rcases List.mem_cons.1 ((h z).1 (List.mem_cons_of_mem _ hz)) with e|hz'
    ·exact absurd e (nD z hz)
    ·exact hz'
   ·rcases List.mem_cons.1 ((h z).2 (List.mem_cons_of_mem _ hz)) with e|hz'
    ·exact absurd e (nF z hz)
    ·exact hz'
theorem dv7 {zs D:List Int}(h1:D.Pairwise fun x y=>o.cmp x y<0)(h2:∀ x,x∈D↔x∈zs/\o.a.is x=true):D=o.bw3 zs :=
 o.il3 hr (fun x hx=>((h2 x).1 hx).2) (fun x hx=>((o.bw4).1 hx).2) h1 (o.gn6 hr zs) fun x=>(h2 x).trans o.bw4.symm
end ak1
end Go.Id.Md
set_option linter.all false
namespace Go.Id.Md
open Go Go.Id
structure OkM (ab5:List al1) (inst:List aa2):Prop where
 n:ab5.length<=16
 all:inst.length+ag4 ab5<=256
 inst:inst.all ag8=true
 ab5:∀ r∈ab5,0<=r.priority/\r.priority<=1024/\r.packages.all ag8=true
theorem dv9:∀ (rs:List al1) (i:Nat) (st:List ax5×Nms),(∀ r∈rs,0<=r.priority/\r.priority<=1024/\r.packages.all ag8=true)->∃ out,ai5 i rs st=some out:=by
 intro rs
 induction rs with
 | nil=>intro i st _; exact ⟨st,rfl⟩
 | cons r rs ih=>
  intro i st h;obtain ⟨h1,h2,h3⟩:=h r List.mem_cons_self;simp only[ai5];rw[if_neg (by rw[h3]; simp; omega)];exact ih _ _ fun x hx=>h x (List.mem_cons_of_mem _ hx)
theorem OkM.new {ab5:List al1}{inst:List aa2}(h:OkM ab5 inst):∃ p,bq7 ab5 inst=.inl p:=by
 obtain ⟨⟨rows,nm⟩,ho⟩:=dv9 ab5 0 (rowsOf inst (-1) 1025,cv9 [] 0 inst) h.ab5;unfold bq7;have:=h.n;have:=h.all;rw[if_neg (by omega),if_neg (by rw[h.inst]; simp),ho];exact ⟨_,rfl⟩
theorem fh1 (a b:List al1):ag4 (a++b)=ag4 a+ag4 b:=by simp[ag4]
theorem OkM.last {a:List al1}{l:al1}{inst:List aa2}{ps:List aa2}(h:OkM (a++[l]) inst)(hp:∀ p∈ps,p∈l.packages)(hl:ps.length<=l.packages.length):OkM (a++[⟨l.priority,ps⟩]) inst where
 n:=by have:=h.n; rw[List.length_append] at this ⊢; exact this
 all:=by
  have:=h.all;rw[fh1] at this ⊢;have e:ag4 [l]=l.packages.length:=by simp[ag4]
  have e2:ag4 [⟨l.priority,ps⟩]=ps.length:=by simp[ag4]
  omega
 inst:=h.inst
 ab5:=fun r hr=>by
  rcases List.mem_append.1 hr with hr|hr
  ·exact h.ab5 r (List.mem_append_left _ hr)
  ·rw[List.mem_singleton] at hr;subst hr;obtain ⟨h1,h2,h3⟩:=h.ab5 l (by simp);exact ⟨h1,h2,List.all_eq_true.2 fun p hp'=>List.all_eq_true.1 h3 p (hp p hp')⟩
end Go.Id.Md
/- Pools whose packages were altered: in plain words. Conditions: none; no program in sight. -/
namespace Go.Id.Md
open Go Go.Id
def il4 (f:aa2->aa2)(l:List al1):List al1:=l.map fun r=>⟨r.priority,r.packages.map f⟩
theorem gn7 (f:aa2->aa2)(l:List al1):(il4 f l).length=l.length:=by simp[il4]
theorem gn8 (f:aa2->aa2)(l:List al1):ag4 (il4 f l)=ag4 l:=by
 unfold ag4 il4;rw[List.map_map];congr 1;exact List.map_congr_left fun r _=>List.length_map ..
theorem OkM.map {ab5:List al1}{inst:List aa2}{f g:aa2->aa2}(h:OkM ab5 inst)(hf:∀ q,ag8 q=true->ag8 (f q)=true)(hg:∀ q,ag8 q=true->ag8 (g q)=true):OkM (il4 f ab5) (inst.map g) where
 n:=by rw[gn7]; exact h.n
 all:=by rw[gn8,List.length_map]; exact h.all
 inst:=List.all_eq_true.2 fun x hx=>by
  obtain ⟨y,hy,rfl⟩:=List.mem_map.1 hx;exact hg y (List.all_eq_true.1 h.inst y hy)
 ab5:=fun r hr=>by
  obtain ⟨y,hy,rfl⟩:=List.mem_map.1 hr;obtain ⟨h1,h2,h3⟩:=h.ab5 y hy;refine ⟨h1,h2,List.all_eq_true.2 fun x hx=>?_⟩;obtain ⟨z,hz,rfl⟩:=List.mem_map.1 hx;exact hf z (List.all_eq_true.1 h3 z hz)
def Pool.az5 (p:Pool)(n:Int):Int:=if 0<=n/\n<p.rows.length then (p.rows.getD n.toNat ⟨default,0,0⟩).dz9 else -1
end Go.Id.Md
set_option linter.all false
namespace Go.Id.Md
open Go Go.Id
def cv8:List (Int->Int->Int)->(Int->Int->Int)->Int->Int->Int
 | [],c,n,m=>c n m
 | f::fs,c,n,m=>lex (f n m) (cv8 fs c n m)
theorem ft7 {S:Int->Prop}{c:Int->Int->Int}(hc:WO S c):∀ fs:List (Int->Int->Int),(∀ f∈fs,WO S f)->WO S (cv8 fs c):=by
 intro fs
 induction fs with
 | nil=>intro _; exact hc
 | cons f fs ih=>intro h; exact (h f List.mem_cons_self).lex (ih fun g hg=>h g (List.mem_cons_of_mem _ hg))
theorem du2 {c:Int->Int->Int}(hz:∀ n m,c n m=0->n=m):∀ (fs:List (Int->Int->Int)) (n m:Int),cv8 fs c n m=0->n=m:=by
 intro fs
 induction fs with
 | nil=>exact hz
 | cons f fs ih=>
  intro n m h;simp only[cv8,lex] at h;split at h
  ·exact ih n m h
  ·contradiction
def ee7 (c:Int->Int->Int)(zs:List Int):List Int:=zs.mergeSort fun x y=>!decide (c y x<0)
theorem cg9 (c:Int->Int->Int)(zs:List Int):(ee7 c zs).Perm zs:=List.mergeSort_perm _ _
theorem en3 {S:Int->Prop}{c:Int->Int->Int}(hc:WO S c)(hz:∀ n m,c n m=0->n=m){zs:List Int}(hS:∀ x∈zs,S x)(hd:zs.Nodup):(ee7 c zs).Pairwise fun x y=>c x y<0:=by
 have hnd:(ee7 c zs).Nodup:=(cg9 c zs).nodup_iff.2 hd
 have hp:(ee7 c zs).Pairwise fun x y=>(!decide (c y x<0))=true:=by
  unfold ee7;let T:={ n:Int // S n };let L:List T:=zs.attach.map fun x=>⟨x.1,hS x.1 x.2⟩
  have hL:L.map (·.1)=zs:=by
   show (List.map _ (List.map _ _))=_;rw[List.map_map];exact List.attach_map_subtype_val _
  rw[<- hL,<- List.map_mergeSort (r:=fun x y:T=>!decide (c y.1 x.1<0)) (fun _ _ _ _=>rfl)];refine List.Pairwise.map _ (fun _ _ h=>h) ?_;refine List.pairwise_mergeSort ?_ ?_ L
  ·intro a b d h1 h2;have k1:=hc.tr a.1 b.1 d.1 a.2 b.2 d.2;have n1:=hc.neg a.1 b.1;have n2:=hc.neg b.1 d.1;have n3:=hc.neg a.1 d.1;simp only[Bool.not_eq_true',decide_eq_false_iff_not] at h1 h2 ⊢;omega
  ·intro a b;have n1:=hc.neg a.1 b.1;by_cases h:c a.1 b.1<0
   ·have:¬ c b.1 a.1<0:=by omega
    simp[h,this]
   ·simp[h]
 refine hp.imp₂ (fun {x y} h1 h2=>?_) hnd;have n1:=hc.neg x y;have h2':x≠y:=h2;have h1':¬ c y x<0:=by simpa using h1
 have:c x y≠0:=fun h=>h2' (hz _ _ h)
 omega
theorem ft8 {S:Int->Prop}{c:Int->Int->Int}(hc:WO S c)(hz:∀ n m,c n m=0->n=m){zs ds:List Int}(hS:∀ x∈zs,S x)(hd:zs.Nodup)(hp:ds.Perm zs)(hu:ds.Pairwise fun x y=>x=y\/c x y<0):ds=ee7 c zs:=by
 have hnd:ds.Nodup:=hp.nodup_iff.2 hd;have hu':ds.Pairwise fun x y=>c x y<0:=hu.imp₂ (fun {x y} h1 h2=>h1.resolve_left h2) hnd
 exact List.Perm.eq_of_pairwise (fun a b _ _ h1 h2=>by have:=hc.neg a b; omega) hu' (en3 hc hz hS hd) (hp.trans (cg9 c zs).symm)
namespace ak1
variable (o:ak1)
def ff8 (i n:Int):Int:=ba4 (decide ((o.a.pk n).name=(o.a.pk i).name))
def upF (i n m:Int):Int:=lex (am5 (o.ff8 i n) (o.ff8 i m)) (ak8 (o.a.pk m).evr (o.a.pk n).evr)
def bb9 (i n m:Int):Int:=am5 (ba4 (decide (n=i))) (ba4 (decide (m=i)))
def bv8 (n m:Int):Int:=am5 (ba4 (decide (0<=o.a.p.az5 n))) (ba4 (decide (0<=o.a.p.az5 m)))
def an6 (fs:List (Int->Int->Int))(i:Int):List Int:=ee7 (cv8 fs o.cmp) (o.a.aw7 i)
abbrev cm2 (n:Int):Prop:=(o.a.pk n).evr.rel≠[]
theorem ij8 (i:Int):WO o.cm2 (o.upF i):=
 ((cs8.of (o.ff8 i)).sub fun _ _=>trivial).lex ((gx6.of fun n=>(o.a.pk n).evr).flip)
theorem hj8 (i:Int):WO o.cm2 (bb9 i):=(cs8.of fun n=>ba4 (decide (n=i))).sub fun _ _=>trivial
theorem hj9:WO o.cm2 o.bv8:=(cs8.of fun n=>ba4 (decide (0<=o.a.p.az5 n))).sub fun _ _=>trivial
theorem cn5 {i n:Int}(h:n∈o.a.aw7 i):o.a.is n=true:=by
 unfold ah7.aw7 at h;split at h
 ·obtain ⟨m,rfl,hm,_⟩:=at5.1 h;rw[ah7.df3]; exact decide_eq_true hm
 ·cases h
theorem bf1 (i:Int):(o.a.aw7 i).Nodup:=by
 unfold ah7.aw7;split
 ·exact (dl7 _ _).imp fun h e=>by omega
 ·exact List.nodup_nil
theorem ar9 (fs:List (Int->Int->Int))(i:Int):(o.an6 fs i).Perm (o.a.aw7 i):=cg9 _ _
variable (hr:∀ n,o.a.is n=true->(o.a.pk n).evr.rel≠[])
include hr
theorem cn6 {fs:List (Int->Int->Int)}(hf:∀ f∈fs,WO o.cm2 f)(i:Int):(o.an6 fs i).Pairwise fun x y=>cv8 fs o.cmp x y<0 :=
 en3 (S:=o.cm2) (ft7 o.wo fs hf) (du2 (fun _ _=>o.co4) fs) (fun x hx=>hr x (o.cn5 hx)) (o.bf1 i)
end ak1
end Go.Id.Md
