/- The document's data,and what functions give,in plain words. Conditions: none; no program in sight. -/
import Derived.Test.YtphnnoolpagclaaGreatDoorFwQ
set_option linter.all false
namespace Go.Id.Md
open Go Go.Id
abbrev Str:=List UInt8
structure EVR where
 ao4:Int
 ver:Str
 rel:Str
 deriving DecidableEq,Inhabited
structure Dep where
 name:Str
 op:Int
 evr:EVR
 deriving DecidableEq,Inhabited
inductive ab1 where
 | mk (kind:Int) (dep:Dep) (args:List ab1)
 deriving Inhabited
def ab1.kind:ab1->Int|.mk k _ _=>k
def ab1.dep:ab1->Dep|.mk _ d _=>d
def ab1.args:ab1->List ab1|.mk _ _ a=>a
structure aa3 where
 name:Str
 evr:EVR
 ao9:Int
 vendor:Str
 provides:List Dep
 requires:List ab1
 conflicts:List ab1
 aa8:List Dep
 ac1:List ab1
 ab8:List ab1
 suggests:List ab1
 ad6:List ab1
 files:List Str
 deriving Inhabited
structure ao8 where
 priority:Int
 packages:List aa3
 deriving Inhabited
def EVR.fit (e:EVR):Prop:=e.ver.length<2^62/\e.rel.length<2^62
def Dep.fit (d:Dep):Prop:=d.name.length<2^62/\d.evr.fit
theorem ab1.ind {p:ab1->Prop}(h:∀ k d aZ,(∀ a∈aZ,p a)->p (.mk k d aZ))(r:ab1):p r :=
 ab1.rec (motive_1:=p) (motive_2:=fun l=>∀ a∈l,p a) (fun k d aZ ih=>h k d aZ ih) (fun _ h=>by cases h) (fun r rs h1 h2 a ha=>by
  rcases List.mem_cons.1 ha with rfl|h
  ·exact h1
  ·exact h2 a h) r
mutual
def ab1.fit:ab1->Prop
 | .mk k d aZ=>0<=k/\k<256/\d.fit/\aZ.length<2^31/\ab1.fits aZ
def ab1.fits:List ab1->Prop
 | []=>True
 | r::rs=>r.fit/\ab1.fits rs
end
theorem ab1.ga8 (l:List ab1):ab1.fits l↔∀ r∈l,r.fit:=by
 induction l with
 | nil=>simp[ab1.fits]
 | cons r rs ih=>simp[ab1.fits,ih]
theorem ab1.cz7 {k:Int}{d:Dep}{aZ:List ab1}:(ab1.mk k d aZ).fit↔0<=k/\k<256/\d.fit/\aZ.length<2^31/\∀ r∈aZ,r.fit:=by
 simp only[ab1.fit,ab1.ga8]
def EVR.cs (e:EVR):List IV:=[.int .i64 e.ao4,.str e.ver,.str e.rel]
def Dep.cs (d:Dep):List IV:=[.str d.name,.int .u8 d.op,.int .i64 d.evr.ao4,.str d.evr.ver,.str d.evr.rel]
mutual
def ab1.cs:ab1->List IV
 | .mk k d aZ=>[.int .u8 k,.str d.name,.int .u8 d.op,.int .i64 d.evr.ao4,.str d.evr.ver,.str d.evr.rel,.aa5 (ab1.css aZ)]
def ab1.css:List ab1->List (List IV)
 | []=>[]
 | r::rs=>r.cs::ab1.css rs
end
theorem ab1.gt1 (l:List ab1):ab1.css l=l.map ab1.cs:=by
 induction l with
 | nil=>rfl
 | cons r rs ih=>simp only[ab1.css,ih,List.map_cons]
theorem ab1.bb1 (r:ab1):r.cs=[.int .u8 r.kind,.str r.dep.name,.int .u8 r.dep.op,.int .i64 r.dep.evr.ao4,.str r.dep.evr.ver,.str r.dep.evr.rel,.aa5 (r.args.map ab1.cs)]:=by
 cases r with
 | mk k d aZ=>simp only[ab1.cs,ab1.gt1,ab1.kind,ab1.dep,ab1.args]
def bm3 (s:Str):List IV:=[.str s]
abbrev deps (l:List Dep):IV:=.aa5 (l.map Dep.cs)
abbrev af8 (l:List ab1):IV:=.aa5 (l.map ab1.cs)
abbrev strs (l:List Str):IV:=.aa5 (l.map bm3)
def aa3.cs (p:aa3):List IV :=
 [.str p.name,.int .i64 p.evr.ao4,.str p.evr.ver,.str p.evr.rel,.int .u8 p.ao9,.str p.vendor,deps p.provides,af8 p.requires,af8 p.conflicts,deps p.aa8,af8 p.ac1,af8 p.ab8,af8 p.suggests,af8 p.ad6,strs p.files]
def ao8.cs (r:ao8):List IV:=[.int .i64 r.priority,.aa5 (r.packages.map aa3.cs)]
def aa3.rows (p:aa3):List (Int×List ab1):=[(1,p.requires),(2,p.conflicts),(1,p.ac1),(3,p.ab8),(1,p.suggests),(3,p.ad6)]
def signs:Str:=[97,98,99,100,101,102,103,104,105,106,107,108,109,110,111,112,113,114,115,116,117,118,119,120,121,122,65,66,67,68,69,70,71,72,73,74,75,76,77,78,79,80,81,82,83,84,85,86,87,88,89,90,48,49,50,51,52,53,54,55,56,57,46,95,43,45,47,58,64,126,94]
def fk5 (b:UInt8):Bool:=(decide (97<=b.toNat)&&decide (b.toNat<=122))||(decide (65<=b.toNat)&&decide (b.toNat<=90))||(decide (48<=b.toNat)&&decide (b.toNat<=57))
def az9 (b:UInt8):Bool:=signs.contains b
def words:List Str:=[[97,110,100],[111,114],[105,102],[101,108,115,101],[117,110,108,101,115,115],[119,105,116,104],[119,105,116,104,111,117,116]]
def ap6 (s:Str):Bool:=decide (1<=s.length)&&decide (s.length<=64)&&s.all az9&&!words.contains s
def bd1 (s:Str):Bool:=ap6 s&&(s.head? == some 47)
def bf5 (b:UInt8):Bool:=fk5 b || [46,95,43,126,94].contains b
def au7 (s:Str):Bool:=decide (1<=s.length)&&decide (s.length<=64)&&s.all bf5
def bd2 (e:EVR)(dep:Bool):Bool:=decide (0<=e.ao4)&&decide (e.ao4<=2147483647)&&au7 e.ver&&(au7 e.rel||dep&&e.rel.isEmpty)
def df2 (op:Int):Bool:=[0,1,2,3,4,6].contains op
def ft7:EVR:=⟨0,[],[]⟩
def ft8:Dep:=⟨[],0,ft7⟩
def an8 (d:Dep):Bool:=ap6 d.name&&df2 d.op&&(if d.op=0 then decide (d.evr=ft7) else !bd1 d.name&&bd2 d.evr true)
def ac4 (b:UInt8):Nat:=if b=126 then 1 else if b=94 then 3 else if decide (97<=b)&&decide (b<=122)||decide (65<=b)&&decide (b<=90) then 4 else if decide (48<=b)&&decide (b<=57) then 5 else 0
structure Part where
 kind:Nat
 s:Str
 deriving DecidableEq,Inhabited
def aq8:Nat->Str->List Part
 | 0,_=>[]
 | _+1,[]=>[]
 | n+1,b::l=>
  if ac4 b=0 then aq8 n l
  else if ac4 b<4 then ⟨ac4 b,[]⟩::aq8 n l
  else ⟨ac4 b,if ac4 b=5 then ((b::l).takeWhile fun c=>ac4 c==ac4 b).dropWhile (· == 48) else (b::l).takeWhile fun c=>ac4 c==ac4 b⟩::aq8 n ((b::l).dropWhile fun c=>ac4 c==ac4 b)
def ab3 (s:Str):List Part:=aq8 s.length s
def ar9 (a b:Int):Int:=if a<b then -1 else if a=b then 0 else 1
def ch5 (a b:Str):Int:=if Op.bytesLess a b then -1 else if a=b then 0 else 1
def ag4 (a b:Part):Int :=
 let k:=ar9 a.kind b.kind
 if k≠0 then k else
 let n:=if a.kind=5/\b.kind=5 then ar9 a.s.length b.s.length else 0
 if n≠0 then n else ch5 a.s b.s
def ak6:List Part->List Part->Int
 | a::aZ,b::bs=>if ag4 a b≠0 then ag4 a b else ak6 aZ bs
 | _,_=>0
def au8 (a b:Str):Int:=ak6 (ab3 a++[⟨2,[]⟩]) (ab3 b++[⟨2,[]⟩])
def au9 (a b:EVR):Int :=
 if ar9 a.ao4 b.ao4≠0 then ar9 a.ao4 b.ao4 else
 if au8 a.ver b.ver≠0 then au8 a.ver b.ver else
 if a.rel=[]\/b.rel=[] then 0 else au8 a.rel b.rel
def bit (op:Int)(i:Nat):Bool:=(op.toNat).testBit i
def side (n:Int):Nat:=if n<0 then 0 else if n=0 then 1 else 2
def meet (a b:Dep):Bool :=
 if a.op.toNat%8=0\/b.op.toNat%8=0 then true else
 let n:=au9 a.evr b.evr
 if n=0 then bit a.op 0&&bit b.op 0||bit a.op 1&&bit b.op 1||bit a.op 2&&bit b.op 2
 else bit a.op (side (-n))||bit b.op (side n)
mutual
def ab1.count:ab1->Nat
 | .mk _ _ aZ=>ab1.counts aZ+1
def ab1.counts:List ab1->Nat
 | []=>0
 | r::rs=>r.count+ab1.counts rs
end
mutual
def ab1.depth:ab1->Nat
 | .mk k _ aZ=>if k=1 then 0 else ab1.bh2 aZ+1
def ab1.bh2:List ab1->Nat
 | []=>0
 | r::rs=>max r.depth (ab1.bh2 rs)
end
-- All parts,and whether each stands within a With,or a Without.
mutual
def ab1.parts:ab1->Bool->List (ab1×Bool)
 | .mk k d aZ,alone=>(.mk k d aZ,alone)::ab1.bh3 aZ (alone||decide (k=6)||decide (k=7))
def ab1.bh3:List ab1->Bool->List (ab1×Bool)
 | [],_=>[]
 | r::rs,alone=>r.parts alone++ab1.bh3 rs alone
end
def asks (k:Int):Nat×Nat×Bool×Nat :=
 if k=1 then (0,0,true,3) else if k=2 then (2,24,true,3) else if k=3 then (2,24,true,3) else if k=4 then (2,3,false,1)
 else if k=5 then (2,3,false,2) else if k=6 then (2,24,true,3) else if k=7 then (2,2,true,3) else (0,0,false,0)
def aj5 (wh:Int)(r:ab1)(alone:Bool):Bool :=
 let x:=asks r.kind
 !(decide ((x.2.2.2:Int)<wh)||alone&&!x.2.2.1||decide (r.args.length<x.1)||decide (x.2.1<r.args.length)) &&
 (if r.kind=1 then an8 r.dep else decide (r.dep=ft8))
def bb2 (r:ab1)(wh:Int):Int :=
 if wh<1\/3<wh then 1 else if r.count>24 then 40 else if r.depth>8 then 21 else if (r.parts false).all fun p=>aj5 wh p.1 p.2 then 0 else 4
mutual
def ab1.same:ab1->ab1->Bool
 | .mk k d aZ,.mk k' d' as'=>decide (k=k')&&decide (d=d')&&ab1.gt2 aZ as'
def ab1.gt2:List ab1->List ab1->Bool
 | [],[]=>true
 | r::rs,s::ss=>r.same s&&ab1.gt2 rs ss
 | _,_=>false
end
structure aa3.Fit (p:aa3):Prop where
 name:p.name.length<2^62
 evr:p.evr.fit
 as2:p.provides.length<2^31/\∀ d∈p.provides,d.fit
 obs:p.aa8.length<2^31/\∀ d∈p.aa8,d.fit
 files:p.files.length<2^31/\∀ s∈p.files,s.length<2^62
 dx5:∀ x∈p.rows,x.2.length<2^31/\∀ r∈x.2,r.fit/\r.count<2^31
def ai7 (a:Int):Bool:=decide (1<=a)&&decide (a<=4)
def rising:List Str->Bool
 | a::b::l=>Op.bytesLess a b&&rising (b::l)
 | _=>true
def an9 (l:List ab1)(wh:Int):Bool:=decide (l.length<=32)&&l.all fun r=>decide (bb2 r wh=0)
def am5 (p:aa3):Bool :=
 ap6 p.name&&!bd1 p.name&&bd2 p.evr false&&ai7 p.ao9&&decide (p.vendor.length<=64) &&
 (decide (p.provides.length<=32)&&p.provides.all an8)&&(decide (p.aa8.length<=32)&&p.aa8.all an8)&&(decide (p.files.length<=32)&&p.files.all bd1) &&
 rising p.files&&an9 p.requires 1&&an9 p.conflicts 2&&an9 p.ac1 1&&an9 p.ab8 3&&an9 p.suggests 1&&an9 p.ad6 3
def own (p:aa3):Dep:=⟨p.name,2,p.evr⟩
def meets (a d:Dep):Bool:=decide (a.name=d.name)&&meet a d
def named (p:aa3)(d:Dep):Bool:=meets (own p) d
def provides (p:aa3)(d:Dep):Bool:=named p d||p.provides.any (fun a=>meets a d)||decide (d.op=0)&&p.files.contains d.name
def aa8 (p q:aa3):Bool:=p.aa8.any fun d=>named q d
def gt3 (l m:List ab1):Bool:=ab1.gt2 l m
end Go.Id.Md
set_option linter.all false
namespace Go.Id.Md
open Go Go.Id
structure bb5 where
 pkg:aa3
 ef1:Int
 prio:Int
def bb5.cs (r:bb5):List IV:=r.pkg.cs++[.int .i64 r.ef1,.int .i64 r.prio]
abbrev Nms:=List (Str×List Int)
def ao5:Nms->Str->Int->Nms
 | [],k,n=>[(k,[n])]
 | t::ts,k,n=>if k=t.1 then (k,t.2++[n])::ts else t::ao5 ts k n
def df3:Nms->Nat->List aa3->Nms
 | nm,_,[]=>nm
 | nm,n,p::ps=>df3 (ao5 nm p.name n) (n+1) ps
def af2 (n:Int):List IV:=[.int .i64 n]
def nmV (nm:Nms):List (IV×IV):=nm.map fun t=>(.str t.1,.aa5 (t.2.map af2))
structure Pool where
 rows:List bb5
 inst:Int
 nm:Nms
def Pool.v (p:Pool):IV:=.ab7 [.aa5 (p.rows.map bb5.cs),.int .i64 p.inst,.ak1 (nmV p.nm)]
def rowsOf (l:List aa3)(ef1 prio:Int):List bb5:=l.map fun p=>⟨p,ef1,prio⟩
theorem dx6 (l:List aa3)(x:aa3)(a b:Int):rowsOf (l++[x]) a b=rowsOf l a b++[⟨x,a,b⟩]:=by simp[rowsOf]
theorem bm4 (l:List aa3)(a b:Int):(rowsOf l a b).length=l.length:=by simp[rowsOf]
def aj6:Nat->List ao8->List bb5×Nms->Option (List bb5×Nms)
 | _,[],st=>some st
 | i,r::rs,st=>if r.priority<0\/1024<r.priority\/r.packages.all am5=false then none else aj6 (i+1) rs (st.1++rowsOf r.packages i r.priority,df3 st.2 st.1.length r.packages)
def ao1 (l:List ao8):Nat:=(l.map fun r=>r.packages.length).sum
def cq1 (repos:List ao8)(inst:List aa3):Pool ⊕ Int :=
 if 16<repos.length\/256<inst.length+ao1 repos then .inr 40 else
 if inst.all am5=false then .inr 4 else
 match aj6 0 repos (rowsOf inst (-1) 1025,df3 [] 0 inst) with
 | some (rows,nm)=>.inl ⟨rows,inst.length,nm⟩
 | none=>.inr 4
def hm8 (r:Pool ⊕ Int):IV:=match r with
 | .inl p=>.tuple [p.v,.int .i64 0]
 | .inr e=>.tuple [.ac2,.int .i64 e]
abbrev NmL:=List (Str×List Int×Nat)
def mEs (L:NmL):List (IV×IV):=L.map fun t=>(.str t.1,.slice t.2.2 0 t.2.1.length 1)
def ax5 (L:NmL):Nms:=L.map fun t=>(t.1,t.2.1)
def az1:NmL->Str->Int->Nat->NmL
 | [],k,n,nid=>[(k,[n],nid)]
 | t::ts,k,n,nid=>if k=t.1 then (k,t.2.1++[n],nid)::ts else t::az1 ts k n nid
def cl4 (L:NmL)(k:Str):IV:=match L.find? (fun t=>decide (k=t.1)) with
 | some t=>.slice t.2.2 0 t.2.1.length 1
 | none=>.aa1
def bv6 (L:NmL)(k:Str):List Int:=match L.find? (fun t=>decide (k=t.1)) with
 | some t=>t.2.1
 | none=>[]
theorem ch6 (L:NmL)(k:Str)(n:Int)(nid:Nat):ax5 (az1 L k n nid)=ao5 (ax5 L) k n:=by
 induction L with
 | nil=>rfl
 | cons t ts ih=>
  simp only[az1,ax5,List.map_cons,ao5];split
  ·rfl
  ·rw[List.map_cons]; congr 1
theorem hm9 (L:NmL)(k:Str):(aw2 2 (.str k) (mEs L)).map (fun r=>r.getD .aa1)=some (cl4 L k):=by
 induction L with
 | nil=>rfl
 | cons t ts ih=>
  simp only[mEs,List.map_cons,aw2,ee1,cl4,List.find?_cons] at ih ⊢;by_cases h:k=t.1
  ·simp[h]
  ·simp only[h,decide_false] at ih ⊢;exact ih
theorem gt4 (L:NmL)(k:Str):∃ r,aw2 2 (.str k) (mEs L)=some r/\r.getD .aa1=cl4 L k:=by
 have:=hm9 L k
 cases h:aw2 2 (.str k) (mEs L) with
 | none=>rw[h] at this; cases this
 | some r=>rw[h] at this; exact ⟨r,rfl,by simpa using this⟩
theorem ig8 (L:NmL)(k:Str)(n:Int)(nid:Nat):em3 2 (.str k) (.slice nid 0 ((bv6 L k).length+1) 1) (mEs L)=some (mEs (az1 L k n nid)):=by
 induction L with
 | nil=>rfl
 | cons t ts ih=>
  simp only[mEs,List.map_cons,em3,ee1,bv6,List.find?_cons,az1] at ih ⊢;by_cases h:k=t.1
  ·simp[h]
  ·simp only[h,decide_false,if_false,List.map_cons] at ih ⊢;rw[ih]; rfl
theorem df4 {k:Str}{n:Int}{nid:Nat}:∀ {L:NmL},(L.map (·.1)).Nodup->∀ t∈az1 L k n nid,(t∈L/\t.1≠k)\/t=(k,bv6 L k++[n],nid):=by
 intro L
 induction L with
 | nil=>intro _ t ht; simp[az1] at ht; exact .inr (by rw[ht]; rfl)
 | cons u us ih=>
  intro hk t ht;rw[List.map_cons,List.nodup_cons] at hk;simp only[az1] at ht;by_cases h:k=u.1
  ·rw[if_pos h] at ht;rcases List.mem_cons.1 ht with rfl|ht
   ·right; simp[bv6,h]
   ·left;exact ⟨List.mem_cons_of_mem _ ht,fun e=>hk.1 (by rw[<- h,<- e]; exact List.mem_map_of_mem (f:=fun x:Str×List Int×Nat=>x.1) ht)⟩
  ·rw[if_neg h] at ht;rcases List.mem_cons.1 ht with rfl|ht
   ·left; exact ⟨List.mem_cons_self ..,fun e=>h e.symm⟩
   ·have e:bv6 (u::us) k=bv6 us k:=by simp[bv6,h]
    rw[e];rcases ih hk.2 t ht with ⟨h1,h2⟩|h1
    ·exact .inl ⟨List.mem_cons_of_mem _ h1,h2⟩
    ·exact .inr h1
theorem ee9 {k:Str}{n:Int}{nid:Nat}:∀ (L:NmL),(L.map (·.1)).Nodup->((az1 L k n nid).map (·.1)).Nodup/\∀ x∈(az1 L k n nid).map (·.1),x=k\/x∈L.map (·.1):=by
 intro L
 induction L with
 | nil=>intro _; simp[az1]
 | cons u us ih=>
  intro hk;rw[List.map_cons,List.nodup_cons] at hk;simp only[az1];by_cases h:k=u.1
  ·rw[if_pos h];refine ⟨?_,?_⟩
   ·rw[List.map_cons,List.nodup_cons]; exact ⟨by rw[h]; exact hk.1,hk.2⟩
   ·intro x hx;simp only[List.map_cons,List.mem_cons] at hx ⊢;rcases hx with h1|h1
    ·exact .inl h1
    ·exact .inr (.inr h1)
  ·rw[if_neg h];obtain ⟨h1,h2⟩:=ih hk.2;refine ⟨?_,?_⟩
   ·rw[List.map_cons,List.nodup_cons];refine ⟨fun hm=>?_,h1⟩;rcases h2 _ hm with e|e
    ·exact h e.symm
    ·exact hk.1 e
   ·intro x hx;simp only[List.map_cons,List.mem_cons] at hx ⊢;rcases hx with h3|h3
    ·exact .inr (.inl h3)
    ·rcases h2 _ h3 with e|e
     ·exact .inl e
     ·exact .inr (.inr e)
theorem fk6 {k:Str}{n:Int}{nid:Nat}:∀ (L:NmL),(L.map (·.2.2)).Nodup->nid ∉ L.map (·.2.2)->((az1 L k n nid).map (·.2.2)).Nodup/\∀ x∈(az1 L k n nid).map (·.2.2),x=nid\/x∈L.map (·.2.2):=by
 intro L
 induction L with
 | nil=>intro _ _; simp[az1]
 | cons u us ih=>
  intro hk hn;rw[List.map_cons,List.nodup_cons] at hk;simp only[List.map_cons,List.mem_cons,not_or] at hn;simp only[az1];by_cases h:k=u.1
  ·rw[if_pos h];refine ⟨?_,?_⟩
   ·rw[List.map_cons,List.nodup_cons]; exact ⟨hn.2,hk.2⟩
   ·intro x hx;simp only[List.map_cons,List.mem_cons] at hx ⊢;rcases hx with h1|h1
    ·exact .inl h1
    ·exact .inr (.inr h1)
  ·rw[if_neg h];obtain ⟨h1,h2⟩:=ih hk.2 hn.2;refine ⟨?_,?_⟩
   ·rw[List.map_cons,List.nodup_cons];refine ⟨fun hm=>?_,h1⟩;rcases h2 _ hm with e|e
    ·exact hn.1 e.symm
    ·exact hk.1 e
   ·intro x hx;simp only[List.map_cons,List.mem_cons] at hx ⊢;rcases hx with h3|h3
    ·exact .inr (.inl h3)
    ·rcases h2 _ h3 with e|e
     ·exact .inl e
     ·exact .inr (.inr e)
theorem bs9 (L:NmL)(k:Str):(cl4 L k=.aa1/\bv6 L k=[])\/∃ t∈L,t.1=k/\cl4 L k=.slice t.2.2 0 t.2.1.length 1/\bv6 L k=t.2.1:=by
 unfold cl4 bv6
 cases h:L.find? (fun t=>decide (k=t.1)) with
 | none=>exact .inl ⟨rfl,rfl⟩
 | some t=>
  have h1:=List.find?_some h;exact .inr ⟨t,List.mem_of_find?_eq_some h,by simpa using (by simpa using h1:k=t.1).symm,rfl,rfl⟩
theorem fk7 {L:NmL}(hk:(L.map (·.1)).Nodup)(hd:(L.map (·.2.2)).Nodup):∀ t∈L,∀ u∈L,t.2.2=u.2.2->t=u:=by
 intro t ht u hu e;obtain ⟨i,hi,h1⟩:=List.mem_iff_getElem.1 ht;obtain ⟨j,hj,h2⟩:=List.mem_iff_getElem.1 hu
 have hij:i=j:=by
  have hi':i<(L.map (·.2.2)).length:=by simpa using hi
  have hj':j<(L.map (·.2.2)).length:=by simpa using hj
  have hp:=List.pairwise_iff_getElem.1 hd;have e2:(L.map (·.2.2))[i]=(L.map (·.2.2))[j]:=by simp only[List.getElem_map,h1,h2,e]
  rcases Nat.lt_trichotomy i j with h|h|h
  ·exact absurd e2 (hp i j hi' hj' h)
  ·exact h
  ·exact absurd e2.symm (hp j i hj' hi' h)
 subst hij;rw[<- h1,<- h2]
end Go.Id.Md
set_option linter.all false
namespace Go.Id.Md
open Go Go.Id
def ac6:Nms->Str->List Int
 | [],_=>[]
 | t::ts,k=>if k=t.1 then t.2 else ac6 ts k
def KN (nm:Nms):Prop:=(nm.map (·.1)).Nodup
theorem bd3 {nm:Nms}{k:Str}{n:Int}(h:KN nm)(t:Str×List Int):t∈ao5 nm k n↔(t∈nm/\t.1≠k)\/t=(k,ac6 nm k++[n]):=by
 induction nm with
 | nil=>simp[ao5,ac6]
 | cons u us ih=>
  have h':u.1 ∉ us.map (·.1)/\KN us:=by simpa [KN] using h
  simp only[ao5,ac6];by_cases e:k=u.1
  ·rw[if_pos e,if_pos e];subst e;simp only[List.mem_cons];constructor
   ·rintro (rfl|ht)
    ·exact .inr rfl
    ·exact .inl ⟨.inr ht,fun e=>h'.1 (List.mem_map.2 ⟨t,ht,e⟩)⟩
   ·rintro (⟨rfl|ht,hne⟩|rfl)
    ·exact absurd rfl hne
    ·exact .inr ht
    ·exact .inl rfl
  ·rw[if_neg e,if_neg e];simp only[List.mem_cons,ih h'.2];constructor
   ·rintro (rfl|⟨h1,h2⟩|rfl)
    ·exact .inl ⟨.inl rfl,fun e'=>e e'.symm⟩
    ·exact .inl ⟨.inr h1,h2⟩
    ·exact .inr rfl
   ·rintro (⟨rfl|h1,h2⟩|rfl)
    ·exact .inl rfl
    ·exact .inr (.inl ⟨h1,h2⟩)
    ·exact .inr (.inr rfl)
theorem ew8 {k:Str}{n:Int}:∀ {nm:Nms},∀ x∈(ao5 nm k n).map (·.1),x=k\/x∈nm.map (·.1):=by
 intro nm
 induction nm with
 | nil=>intro x hx; simpa [ao5] using hx
 | cons u us ih=>
  intro x hx;simp only[ao5] at hx;split at hx
  ·rename_i e; simp only[List.map_cons,List.mem_cons] at hx ⊢;rcases hx with h|h
   ·exact .inl h
   ·exact .inr (.inr h)
  ·simp only[List.map_cons,List.mem_cons] at hx ⊢;rcases hx with h|h
   ·exact .inr (.inl h)
   ·rcases ih x h with h|h
    ·exact .inl h
    ·exact .inr (.inr h)
theorem ak7 {nm:Nms}{k:Str}{n:Int}(h:KN nm):KN (ao5 nm k n):=by
 induction nm with
 | nil=>simp[KN,ao5]
 | cons u us ih=>
  have h':u.1 ∉ us.map (·.1)/\KN us:=by simpa [KN] using h
  simp only[ao5];split
  ·rename_i e; subst e; exact h
  ·rename_i e;show ((u::ao5 us k n).map (·.1)).Nodup;rw[List.map_cons,List.nodup_cons];refine ⟨fun hm=>?_,ih h'.2⟩;rcases ew8 _ hm with h1|h1
   ·exact e h1.symm
   ·exact h'.1 h1
theorem KN.nd {nm:Nms}(h:KN nm):nm.Nodup:=by
 induction nm with
 | nil=>exact List.nodup_nil
 | cons u us ih=>
  have h':u.1 ∉ us.map (·.1)/\KN us:=by simpa [KN] using h
  exact List.nodup_cons.2 ⟨fun hm=>h'.1 (List.mem_map.2 ⟨u,hm,rfl⟩),ih h'.2⟩
theorem KN.perm {nm nm':Nms}(h:KN nm)(p:nm.Perm nm'):KN nm':=(p.map (fun x:Str×List Int=>x.1)).nodup_iff.1 h
theorem cz8 {nm:Nms}(h:KN nm){t:Str×List Int}(ht:t∈nm):ac6 nm t.1=t.2:=by
 induction nm with
 | nil=>cases ht
 | cons u us ih=>
  have h':u.1 ∉ us.map (·.1)/\KN us:=by simpa [KN] using h
  simp only[ac6];rcases List.mem_cons.1 ht with rfl|ht
  ·rw[if_pos rfl]
  ·rw[if_neg (fun e=>h'.1 (List.mem_map.2 ⟨t,ht,e⟩))];exact ih h'.2 ht
theorem cl5 {nm:Nms}{k:Str}(h:k ∉ nm.map (·.1)):ac6 nm k=[]:=by
 induction nm with
 | nil=>rfl
 | cons u us ih=>
  simp only[List.map_cons,List.mem_cons,not_or] at h;simp only[ac6];rw[if_neg h.1]; exact ih h.2
theorem cl6 {nm nm':Nms}(h:KN nm)(p:nm.Perm nm')(k:Str):ac6 nm k=ac6 nm' k:=by
 by_cases hk:k∈nm.map (·.1)
 ·obtain ⟨t,ht,rfl⟩:=List.mem_map.1 hk;rw[cz8 h ht,cz8 (h.perm p) (p.mem_iff.1 ht)]
 ·rw[cl5 hk,cl5 (fun e=>hk ((p.map (·.1)).mem_iff.2 e))]
theorem bd4 {nm:Nms}(h:KN nm)(k:Str)(n:Int)(j:Str):ac6 (ao5 nm k n) j=if j=k then ac6 nm k++[n] else ac6 nm j:=by
 induction nm with
 | nil=>
  simp only[ao5,ac6]
  split<;>rfl
 | cons u us ih=>
  have h':u.1 ∉ us.map (·.1)/\KN us:=by simpa [KN] using h
  simp only[ao5,ac6];by_cases e:k=u.1
  ·rw[if_pos e,if_pos e];simp only[ac6];by_cases ej:j=k
   ·rw[if_pos ej,if_pos ej]
   ·rw[if_neg ej,if_neg ej,if_neg (fun x=>ej (x.trans e.symm))]
  ·rw[if_neg e,if_neg e];simp only[ac6,ih h'.2];by_cases ej:j=k
   ·rw[if_pos ej,if_pos ej,if_neg (fun x=>e (ej.symm.trans x))]
   ·rw[if_neg ej,if_neg ej]
theorem bm5 {nm nm':Nms}{k:Str}{n:Int}(h:KN nm)(p:nm.Perm nm'):(ao5 nm k n).Perm (ao5 nm' k n):=by
 refine (List.perm_ext_iff_of_nodup (ak7 h).nd (ak7 (h.perm p)).nd).2 fun t=>?_
 rw[bd3 h,bd3 (h.perm p),cl6 h p,p.mem_iff]
theorem ew9 {nm:Nms}{k j:Str}{n:Int}(h:KN nm):(ao5 (ao5 nm k n) j n).Perm (ao5 (ao5 nm j n) k n):=by
 by_cases e:k=j
 ·subst e; exact .refl _
 refine (List.perm_ext_iff_of_nodup (ak7 (ak7 h)).nd (ak7 (ak7 h)).nd).2 fun t=>?_
 rw[bd3 (ak7 h),bd3 (ak7 h),bd3 h,bd3 h,bd4 h,bd4 h,if_neg (fun x=>e x.symm),if_neg e];constructor
 ·rintro (⟨⟨h1,h2⟩|rfl,h3⟩|rfl)
  ·exact .inl ⟨.inl ⟨h1,h3⟩,h2⟩
  ·exact .inr rfl
  ·exact .inl ⟨.inr rfl,fun x=>e x.symm⟩
 ·rintro (⟨⟨h1,h2⟩|rfl,h3⟩|rfl)
  ·exact .inl ⟨.inl ⟨h1,h3⟩,h2⟩
  ·exact .inr rfl
  ·exact .inl ⟨.inr rfl,e⟩
def ax6 (nm:Nms)(ks:List Str)(n:Int):Nms:=ks.foldl (fun m k=>ao5 m k n) nm
theorem do2 {n:Int}:∀ {ks:List Str} {nm:Nms},KN nm->KN (ax6 nm ks n)
 | [],_,h=>h
 | _::ks,_,h=>do2 (ks:=ks) (ak7 h)
theorem cl7 {n:Int}:∀ (ks:List Str) {nm nm':Nms},KN nm->nm.Perm nm'->(ax6 nm ks n).Perm (ax6 nm' ks n)
 | [],_,_,_,p=>p
 | _::ks,_,_,h,p=>cl7 ks (ak7 h) (bm5 h p)
theorem do3 {n:Int}{ks js:List Str}(p:ks.Perm js):∀ {nm:Nms},KN nm->(ax6 nm ks n).Perm (ax6 nm js n):=by
 induction p with
 | nil=>intro nm _; exact .refl _
 | cons x _ ih=>intro nm h; exact ih (ak7 h)
 | swap x y l=>intro nm h; exact cl7 l (ak7 (ak7 h)) (ew9 h)
 | trans p1 _ ih1 ih2=>intro nm h; exact (ih1 h).trans (ih2 h)
theorem dx7 (nm:Nms)(ks:List Str)(k:Str)(n:Int):ax6 nm (ks++[k]) n=ao5 (ax6 nm ks n) k n:=by simp[ax6]
def aq9 (l:List Str)(k:Str):List Str:=if k∈l then l else l++[k]
def cl8 (p:aa3):List Str:=p.files.foldl aq9 ((p.provides.map (·.name)).foldl aq9 [p.name])
def aq3 (nm:Nms)(ds:List Str)(n:Int):Nms:=ds.foldl (fun m k=>if n∈ac6 m k then m else ao5 m k n) nm
theorem ce7 (nm:Nms)(ks:List Str)(k:Str)(n:Int):aq3 nm (ks++[k]) n=if n∈ac6 (aq3 nm ks n) k then aq3 nm ks n else ao5 (aq3 nm ks n) k n:=by
 unfold aq3; rw[List.foldl_append]; rfl
structure Index where
 all:List aa3
 as2:Nms
 names:Nms
 over:Nms
def Index.v (x:Index):IV:=.ab7 [.aa5 (x.all.map aa3.cs),.ak1 (nmV x.as2),.ak1 (nmV x.names),.ak1 (nmV x.over)]
def do4 (x:Index)(n:Nat)(p:aa3):Index:=⟨x.all++[p],ax6 x.as2 (cl8 p) n,ao5 x.names p.name n,aq3 x.over (p.aa8.map (·.name)) n⟩
def idxFrom (x:Index):Nat->List aa3->Index
 | _,[]=>x
 | n,p::ps=>idxFrom (do4 x n p) (n+1) ps
def ae2 (l:List aa3):Index:=idxFrom ⟨[],[],[],[]⟩ 0 l
theorem do5 (ps:List aa3)(p:aa3):∀ (x:Index) (n:Nat),idxFrom x n (ps++[p])=do4 (idxFrom x n ps) (n+ps.length) p:=by
 induction ps with
 | nil=>intro x n; rfl
 | cons q qs ih=>intro x n; show idxFrom _ (n+1) (qs++[p])=_; rw[ih,List.length_cons]; congr 1; omega
theorem ex1 (L:NmL)(k:Str):ac6 (ax5 L) k=bv6 L k:=by
 induction L with
 | nil=>rfl
 | cons t ts ih=>
  simp only[ax5,List.map_cons,ac6,bv6,List.find?_cons] at ih ⊢;by_cases h:k=t.1
  ·simp[h]
  ·simp only[h,decide_false,if_false] at ih ⊢;exact ih
end Go.Id.Md
/- Indexes,in plain words: who stands in them,by number. Conditions: none; no program in sight. -/
namespace Go.Id.Md
open Go Go.Id
def numsOf (q:aa3->Bool)(l:List aa3):List Int:=((List.range l.length).filter fun n=>q (l.getD n default)).map fun (n:Nat)=>(n:Int)
theorem at1 (q:aa3->Bool)(l:List aa3)(p:aa3):numsOf q (l++[p])=numsOf q l++if q p then [(l.length:Int)] else []:=by
 unfold numsOf;rw[List.length_append,List.length_singleton,List.range_succ,List.filter_append,List.map_append];congr 1
 ·congr 1;refine List.filter_congr fun n hn=>?_
  have h:=List.mem_range.1 hn;simp[List.getD_eq_getElem?_getD,List.getElem?_append,h]
 ·have e:(l++[p]).getD l.length default=p:=by simp[List.getD_eq_getElem?_getD]
  simp only[List.filter_cons,List.filter_nil,e];split<;>rfl
theorem ar1 {q:aa3->Bool}{l:List aa3}{n:Int}:n∈numsOf q l↔∃ m:Nat,n=m/\m<l.length/\q (l.getD m default)=true:=by
 unfold numsOf;rw[List.mem_map];constructor
 ·rintro ⟨m,hm,rfl⟩;obtain ⟨h1,h2⟩:=List.mem_filter.1 hm;exact ⟨m,rfl,List.mem_range.1 h1,h2⟩
 ·rintro ⟨m,rfl,h1,h2⟩;exact ⟨m,List.mem_filter.2 ⟨List.mem_range.2 h1,by simpa using h2⟩,rfl⟩
theorem ag7 (q:aa3->Bool)(l:List aa3):(numsOf q l).length<=l.length:=by
 unfold numsOf;rw[List.length_map];exact Nat.le_trans (List.length_filter_le _ _) (by simp)
theorem bt1 (q r:aa3->Bool)(l:List aa3):(numsOf q l).filter (fun n=>r (l.getD n.toNat default))=numsOf (fun p=>q p&&r p) l:=by
 unfold numsOf;rw[List.filter_map,List.filter_filter];congr 1;refine List.filter_congr fun n _=>?_
 show (r (l.getD ((n:Int)).toNat default)&&q (l.getD n default))=_;rw[Int.toNat_natCast,Bool.and_comm]
theorem ce8 {q r:aa3->Bool}{l:List aa3}(h:∀ p∈l,q p=r p):numsOf q l=numsOf r l:=by
 unfold numsOf;congr 1;refine List.filter_congr fun n hn=>?_
 have hlt:=List.mem_range.1 hn;refine h _ ?_;rw[List.getD_eq_getElem?_getD,List.getElem?_eq_getElem hlt];exact List.getElem_mem hlt
theorem fk8 (q:aa3->Bool)(l:List aa3):(numsOf q l).Pairwise (· < ·):=by
 unfold numsOf;refine List.Pairwise.map (R:=fun (a b:Nat)=>a<b) _ (fun a b h=>by show (a:Int)<b; omega) ?_;exact List.Pairwise.filter _ List.pairwise_lt_range
theorem dx8 {n:Int}:∀ (ks:List Str) {nm:Nms},KN nm->ks.Nodup->∀ j,ac6 (ax6 nm ks n) j=ac6 nm j++if j∈ks then [n] else []:=by
 intro ks
 induction ks with
 | nil=>intro nm _ _ j; simp[ax6]
 | cons k ks ih=>
  intro nm h hnd j;obtain ⟨h1,h2⟩:=List.nodup_cons.1 hnd;show ac6 (ax6 (ao5 nm k n) ks n) j=_;rw[ih (ak7 h) h2,bd4 h];by_cases e:j=k
  ·subst e; simp[h1]
  ·simp[e]
theorem ex2 {n:Int}:∀ (ks:List Str) {nm:Nms},KN nm->KN (aq3 nm ks n):=by
 intro ks
 induction ks with
 | nil=>intro nm h; exact h
 | cons k ks ih=>
  intro nm h;show KN (aq3 (if n∈ac6 nm k then nm else ao5 nm k n) ks n);split
  ·exact ih h
  ·exact ih (ak7 h)
theorem do6 {n:Int}:∀ (ks:List Str) {nm:Nms},KN nm->∀ j,ac6 (aq3 nm ks n) j=ac6 nm j++if j∈ks/\n ∉ ac6 nm j then [n] else []:=by
 intro ks
 induction ks with
 | nil=>intro nm _ j; simp[aq3]
 | cons k ks ih=>
  intro nm h j;show ac6 (aq3 (if n∈ac6 nm k then nm else ao5 nm k n) ks n) j=_;by_cases hk:n∈ac6 nm k
  ·rw[if_pos hk,ih h];by_cases e:j=k
   ·subst e; simp[hk]
   ·simp[e]
  ·rw[if_neg hk,ih (ak7 h),bd4 h];by_cases e:j=k
   ·subst e; simp[hk]
   ·simp[e]
theorem ex3 {l:List Str}{k j:Str}:j∈aq9 l k↔j∈l\/j=k:=by
 unfold aq9;split
 ·rename_i h; exact ⟨.inl,fun h'=>h'.elim id fun e=>e▸h⟩
 ·simp
theorem cl9 {j:Str}:∀ (ks l:List Str),j∈ks.foldl aq9 l↔j∈l\/j∈ks:=by
 intro ks
 induction ks with
 | nil=>intro l; simp
 | cons k ks ih=>intro l; rw[List.foldl_cons,ih,ex3,List.mem_cons,or_assoc]
theorem ex4 {l:List Str}(h:l.Nodup)(k:Str):(aq9 l k).Nodup:=by
 unfold aq9;split
 ·exact h
 ·rename_i hk;rw[List.nodup_append];exact ⟨h,by simp,fun a ha b hb e=>by simp at hb; subst hb; subst e; exact hk ha⟩
theorem bp4:∀ (ks:List Str) {l:List Str},l.Nodup->(ks.foldl aq9 l).Nodup
 | [],_,h=>h
 | k::ks,_,h=>bp4 ks (ex4 h k)
theorem ga9 (p:aa3):(cl8 p).Nodup:=bp4 _ (bp4 _ (by simp))
theorem gb1 (p:aa3)(j:Str):j∈cl8 p↔j=p.name\/(∃ d∈p.provides,d.name=j)\/j∈p.files:=by
 unfold cl8;rw[cl9,cl9];simp[or_assoc]
structure dx9 (x:Index) (l:List aa3):Prop where
 all:x.all=l
 kp:KN x.as2
 kn:KN x.names
 ko:KN x.over
 as2:∀ j,ac6 x.as2 j=numsOf (fun p=>decide (j∈cl8 p)) l
 names:∀ j,ac6 x.names j=numsOf (fun p=>decide (p.name=j)) l
 over:∀ j,ac6 x.over j=numsOf (fun p=>decide (∃ d∈p.aa8,d.name=j)) l
theorem dx9.add {x:Index}{l:List aa3}(h:dx9 x l)(p:aa3):dx9 (do4 x l.length p) (l++[p]) where
 all:=by show x.all++[p]=_; rw[h.all]
 kp:=do2 h.kp
 kn:=ak7 h.kn
 ko:=ex2 _ h.ko
 as2:=fun j=>by
  show ac6 (ax6 x.as2 (cl8 p) _) j=_;rw[dx8 _ h.kp (ga9 p),h.as2,at1];simp
 names:=fun j=>by
  show ac6 (ao5 x.names p.name _) j=_;rw[bd4 h.kn,h.names,h.names,at1];by_cases e:j=p.name
  ·subst e; simp
  ·have e':¬ p.name=j:=fun h=>e h.symm
   simp[e,e']
 over:=fun j=>by
  show ac6 (aq3 x.over _ _) j=_;rw[do6 _ h.ko,h.over,at1]
  have hn:(l.length:Int) ∉ numsOf (fun p=>decide (∃ d∈p.aa8,d.name=j)) l:=fun hm=>by
   obtain ⟨m,e,h1,_⟩:=ar1.1 hm;omega
  simp[hn]
theorem ex5:∀ (ps:List aa3) {x:Index} {l:List aa3},dx9 x l->dx9 (idxFrom x l.length ps) (l++ps):=by
 intro ps
 induction ps with
 | nil=>intro x l h; rw[List.append_nil]; exact h
 | cons p ps ih=>
  intro x l h;have:=ih (h.add p);rw[List.append_assoc] at this
  simpa [idxFrom] using this
theorem av5 (l:List aa3):dx9 (ae2 l) l:=by
 have h0:dx9 ⟨[],[],[],[]⟩ []:=⟨rfl,List.nodup_nil,List.nodup_nil,List.nodup_nil,fun _=>by simp[ac6,numsOf],fun _=>by simp[ac6,numsOf],fun _=>by simp[ac6,numsOf]⟩;exact ex5 l h0
theorem do7 {p:aa3}{d:Dep}(h:named p d=true):p.name=d.name:=by
 unfold named meets own at h;simp only[Bool.and_eq_true,decide_eq_true_eq] at h;exact h.1
theorem do8 {p:aa3}{d:Dep}(h:provides p d=true):d.name∈cl8 p:=by
 unfold provides at h;rw[gb1];simp only[Bool.or_eq_true,Bool.and_eq_true,decide_eq_true_eq,List.any_eq_true] at h;rcases h with (h|⟨a,ha,h⟩)|⟨_,h⟩
 ·exact .inl (do7 h).symm
 ·unfold meets at h;simp only[Bool.and_eq_true,decide_eq_true_eq] at h;exact .inr (.inl ⟨a,ha,h.1⟩)
 ·exact .inr (.inr (by simpa using h))
def al7 (l:List aa3)(d:Dep):List Int:=numsOf (fun p=>provides p d) l
def al8 (l:List aa3)(d:Dep):List Int:=numsOf (fun p=>named p d) l
theorem do9 (l:List aa3)(d:Dep):(ac6 (ae2 l).as2 d.name).filter (fun n=>provides (l.getD n.toNat default) d)=al7 l d:=by
 rw[(av5 l).as2];refine (bt1 (fun p=>decide (d.name∈cl8 p)) (fun p=>provides p d) l).trans ?_
 exact ce8 fun p _=>by
  cases h:provides p d with
  | false=>simp
  | true=>simp[do8 h]
theorem ef2 (l:List aa3)(d:Dep):(ac6 (ae2 l).names d.name).filter (fun n=>named (l.getD n.toNat default) d)=al8 l d:=by
 rw[(av5 l).names];refine (bt1 (fun p=>decide (p.name=d.name)) (fun p=>named p d) l).trans ?_
 exact ce8 fun p _=>by
  cases h:named p d with
  | false=>simp
  | true=>simp[do7 h]
end Go.Id.Md
set_option linter.all false
namespace Go.Id.Md
open Go Go.Id
mutual
def ab1.ok:ab1->Prop
 | .mk k d xs=>0<=k/\k<256/\d.fit/\xs.length<2^62/\ab1.oks xs
def ab1.oks:List ab1->Prop
 | []=>True
 | r::rs=>r.ok/\ab1.oks rs
end
theorem ab1.gt5 (l:List ab1):ab1.oks l↔∀ r∈l,r.ok:=by
 induction l with
 | nil=>simp[ab1.oks]
 | cons r rs ih=>simp[ab1.oks,ih]
theorem ab1.gt6 {k:Int}{d:Dep}{xs:List ab1}:(ab1.mk k d xs).ok↔0<=k/\k<256/\d.fit/\xs.length<2^62/\∀ r∈xs,r.ok:=by
 simp only[ab1.ok,ab1.gt5]
structure aa3.Ok (p:aa3):Prop where
 name:p.name.length<2^62
 vendor:p.vendor.length<2^62
 evr:p.evr.fit
 as2:p.provides.length<2^62/\∀ d∈p.provides,d.fit
 obs:p.aa8.length<2^62/\∀ d∈p.aa8,d.fit
 files:p.files.length<2^62/\∀ s∈p.files,s.length<2^62
 dx5:∀ x∈p.rows,x.2.length<2^62/\∀ r∈x.2,r.ok
def ao8.Ok (r:ao8):Prop:=r.packages.length<2^62/\∀ p∈r.packages,p.Ok
def ax7 (p:aa3):List (List ab1):=[p.requires,p.conflicts,p.ac1,p.ab8,p.suggests,p.ad6]
def ax8:Nat->List ao8->List bb5
 | _,[]=>[]
 | i,r::rs=>rowsOf r.packages i r.priority++ax8 (i+1) rs
theorem cq2:∀ (rs:List ao8) (i:Nat) (st:List bb5×Nms) (out:List bb5×Nms),aj6 i rs st=some out->out.1=st.1++ax8 i rs:=by
 intro rs
 induction rs with
 | nil=>intro i st out h; simp only[aj6,Option.some.injEq] at h; subst h; simp[ax8]
 | cons r rs ih=>
  intro i st out h;simp only[aj6] at h;split at h
  ·cases h
  ·rw[ih _ _ _ h]; simp[ax8]
theorem ef3 {repos:List ao8}{inst:List aa3}{p:Pool}(h:cq1 repos inst=.inl p):p.rows=rowsOf inst (-1) 1025++ax8 0 repos/\p.inst=inst.length:=by
 unfold cq1 at h;split at h
 ·cases h
 split at h
 ·cases h
 split at h
 ·rename_i rows nm hr;cases h;exact ⟨cq2 _ _ _ _ hr,rfl⟩
 ·cases h
theorem gb2 {repos:List ao8}{inst:List aa3}{e:Int}(h:cq1 repos inst=.inr e):e=40\/e=4:=by
 unfold cq1 at h;split at h
 ·cases h; exact .inl rfl
 split at h
 ·cases h; exact .inr rfl
 split at h
 ·cases h
 ·cases h; exact .inr rfl
end Go.Id.Md
/- Pools of packages that may be: sizes. Conditions: none; no program in sight. -/
namespace Go.Id.Md
open Go Go.Id
theorem df5:∀ (rs:List ao8) (i:Nat) (st:List bb5×Nms) (out:List bb5×Nms),aj6 i rs st=some out->∀ r∈rs,r.packages.all am5=true:=by
 intro rs
 induction rs with
 | nil=>intro i st out _ r hr; cases hr
 | cons x xs ih=>
  intro i st out h r hr;simp only[aj6] at h;split at h
  ·cases h
  ·rename_i hc;rcases List.mem_cons.1 hr with rfl|hr
   ·cases hb:r.packages.all am5 with
    | true=>rfl
    | false=>exact absurd (.inr (.inr hb)) hc
   ·exact ih _ _ _ h r hr
theorem cc9 {repos:List ao8}{inst:List aa3}{p:Pool}(h:cq1 repos inst=.inl p):repos.length<=16/\inst.length+ao1 repos<=256/\inst.all am5=true/\∀ r∈repos,r.packages.all am5=true:=by
 unfold cq1 at h;split at h
 ·cases h
 rename_i hc;split at h
 ·cases h
 rename_i hm;split at h
 ·rename_i rows nm hr;exact ⟨by omega,by omega,by simpa using hm,df5 _ _ _ _ hr⟩
 ·cases h
theorem cz9 (l:List aa3)(a b:Int):(rowsOf l a b).map (·.pkg)=l:=by
 induction l with
 | nil=>rfl
 | cons x xs ih=>show x::(rowsOf xs a b).map (·.pkg)=_; rw[ih]
def ae5 (p:Pool):List aa3:=p.rows.map (·.pkg)
theorem df6:∀ (rs:List ao8) (i:Nat),(ax8 i rs).map (·.pkg)=rs.flatMap (·.packages):=by
 intro rs
 induction rs with
 | nil=>intro i; rfl
 | cons r rs ih=>intro i; simp only[ax8,List.map_append,ih,cz9,List.flatMap_cons]
theorem fk9:∀ (rs:List ao8),(rs.flatMap (·.packages)).length=ao1 rs:=by
 intro rs
 induction rs with
 | nil=>rfl
 | cons r rs ih=>simp only[List.flatMap_cons,List.length_append,ih]; rfl
theorem bt2 {repos:List ao8}{inst:List aa3}{p:Pool}(h:cq1 repos inst=.inl p):ae5 p=inst++repos.flatMap (·.packages):=by
 unfold ae5;rw[(ef3 h).1,List.map_append,df6];congr 1;exact cz9 _ _ _
theorem ef4 {repos:List ao8}{inst:List aa3}{p:Pool}(h:cq1 repos inst=.inl p):p.rows.length<=256:=by
 have e:p.rows.length=(ae5 p).length:=by simp[ae5]
 rw[e,bt2 h,List.length_append,fk9];exact (cc9 h).2.1
theorem gb3 {repos:List ao8}{inst:List aa3}{p:Pool}(h:cq1 repos inst=.inl p):∀ x∈ae5 p,am5 x=true/\(x∈inst\/∃ r∈repos,x∈r.packages):=by
 intro x hx;rw[bt2 h] at hx;obtain ⟨_,_,h1,h2⟩:=cc9 h;rcases List.mem_append.1 hx with hx|hx
 ·exact ⟨List.all_eq_true.1 h1 x hx,.inl hx⟩
 ·obtain ⟨r,hr,hxr⟩:=List.mem_flatMap.1 hx;exact ⟨List.all_eq_true.1 (h2 r hr) x hxr,.inr ⟨r,hr,hxr⟩⟩
def EVR.tiny (e:EVR):Prop:=e.ver.length<=64/\e.rel.length<=64
theorem ef5 {s:Str}(h:au7 s=true):s.length<=64:=by
 unfold au7 at h;simp only[Bool.and_eq_true,decide_eq_true_eq] at h;exact h.1.2
theorem ef6 {e:EVR}{b:Bool}(h:bd2 e b=true):e.tiny:=by
 unfold bd2 at h;simp only[Bool.and_eq_true,Bool.or_eq_true,decide_eq_true_eq] at h;refine ⟨ef5 h.1.2,?_⟩;rcases h.2 with h|h
 ·exact ef5 h
 ·have:=List.isEmpty_iff.1 h.2; rw[this]; exact Nat.zero_le _
theorem ef7 {d:Dep}(h:an8 d=true):0<=d.op/\d.op<256/\d.evr.tiny/\d.name.length<=64:=by
 unfold an8 at h;simp only[Bool.and_eq_true] at h;obtain ⟨⟨h1,h2⟩,h3⟩:=h
 have hn:d.name.length<=64:=by
  unfold ap6 at h1;simp only[Bool.and_eq_true,decide_eq_true_eq] at h1;exact h1.1.1.2
 have ho:0<=d.op/\d.op<256:=by
  unfold df2 at h2;simp only[List.contains_iff_mem,List.mem_cons,List.not_mem_nil,or_false] at h2;omega
 refine ⟨ho.1,ho.2,?_,hn⟩;split at h3
 ·have:d.evr=ft7:=by simpa using h3
  rw[this]; exact ⟨by decide,by decide⟩
 ·simp only[Bool.and_eq_true] at h3;exact ef6 h3.2
structure aa3.Tiny (p:aa3):Prop where
 name:p.name.length<=64
 evr:p.evr.tiny
 as2:p.provides.length<=32/\∀ d∈p.provides,0<=d.op/\d.op<256/\d.evr.tiny/\d.name.length<=64
 obs:p.aa8.length<=32/\∀ d∈p.aa8,0<=d.op/\d.op<256/\d.evr.tiny/\d.name.length<=64
 files:p.files.length<=32
theorem ef8 {p:aa3}(h:am5 p=true):p.Tiny:=by
 unfold am5 at h;simp only[Bool.and_eq_true,decide_eq_true_eq] at h;obtain ⟨⟨⟨⟨⟨⟨⟨⟨⟨⟨⟨⟨⟨⟨h1,_⟩,h3⟩,_⟩,_⟩,h6,h6'⟩,h7,h7'⟩,h8,_⟩,_⟩,_⟩,_⟩,_⟩,_⟩,_⟩,_⟩:=h;refine ⟨?_,ef6 h3,⟨h6,fun d hd=>ef7 (List.all_eq_true.1 h6' d hd)⟩,⟨h7,fun d hd=>ef7 (List.all_eq_true.1 h7' d hd)⟩,h8⟩;unfold ap6 at h1;simp only[Bool.and_eq_true,decide_eq_true_eq] at h1;exact h1.1.1.2
end Go.Id.Md
/- What is asked for,in plain words: successors,newcomers,whom a job means,what av6 it. Conditions: none; no program in sight. -/
namespace Go.Id.Md
open Go Go.Id
structure Job where
 kind:Int
 dep:Dep
 deriving DecidableEq,Inhabited
structure at5 where
 kind:Int
 n:Int
 deriving DecidableEq,Inhabited
structure Req where
 ao9:Int
 vendor:Bool
 af3:List Job
 ae1:List at5
 budget:Int
def Job.cs (j:Job):List IV:=[.int .u8 j.kind,.str j.dep.name,.int .u8 j.dep.op,.int .i64 j.dep.evr.ao4,.str j.dep.evr.ver,.str j.dep.evr.rel]
def at5.cs (e:at5):List IV:=[.int .u8 e.kind,.int .i64 e.n]
abbrev av1 (l:List Job):IV:=.aa5 (l.map Job.cs)
abbrev am1 (l:List at5):IV:=.aa5 (l.map at5.cs)
def Req.cs (r:Req):List IV:=[.int .u8 r.ao9,.bool r.vendor,av1 r.af3,am1 r.ae1,.int .i64 r.budget]
def ar6 (q:Nat->Bool)(k:Nat):List Int:=((List.range k).filter q).map fun (n:Nat)=>(n:Int)
theorem cd1 (q:Nat->Bool)(k:Nat):ar6 q (k+1)=ar6 q k++if q k then [(k:Int)] else []:=by
 unfold ar6;rw[List.range_succ,List.filter_append,List.map_append];congr 1;simp only[List.filter_cons,List.filter_nil];split<;>rfl
theorem bh4 {q:Nat->Bool}{k:Nat}{n:Int}:n∈ar6 q k↔∃ m:Nat,n=m/\m<k/\q m=true:=by
 unfold ar6;rw[List.mem_map];constructor
 ·rintro ⟨m,hm,rfl⟩;obtain ⟨h1,h2⟩:=List.mem_filter.1 hm;exact ⟨m,rfl,List.mem_range.1 h1,h2⟩
 ·rintro ⟨m,rfl,h1,h2⟩;exact ⟨m,List.mem_filter.2 ⟨List.mem_range.2 h1,h2⟩,rfl⟩
theorem ax9 (q:Nat->Bool)(k:Nat):(ar6 q k).length<=k:=by
 unfold ar6;rw[List.length_map];exact Nat.le_trans (List.length_filter_le _ _) (by simp)
theorem ef9 (q:Nat->Bool)(k:Nat):(ar6 q k).Pairwise (· < ·):=by
 unfold ar6;refine List.Pairwise.map (R:=fun (a b:Nat)=>a<b) _ (fun a b h=>by show (a:Int)<b; omega) ?_;exact List.Pairwise.filter _ List.pairwise_lt_range
def bb3 (a:Int):Bool:=ai7 a&&!decide (a=1)
def bt3 (a b:Int):Bool:=bb3 a&&bb3 b&&!decide (a=b)
def ar7 (a b:Int):Bool:=ai7 a&&ai7 b&&!bt3 a b
def ay1 (m a:Int):Int :=
 if m=2 then (if a=1 then 2 else if a=2 then 1 else if a=3 then 3 else 0) else
 if m=3 then (if a=1 then 2 else if a=3 then 1 else 0) else
 if m=4 then (if a=1 then 2 else if a=4 then 1 else 0) else 0
def gb4 (m a:Int):Bool:=decide (0<ay1 m a)
structure ab9 where
 p:Pool
 r:Req
namespace ab9
variable (a:ab9)
def l:List aa3:=ae5 a.p
def pk (n:Int):aa3:=a.l.getD n.toNat default
def jb (n:Int):Job:=a.r.af3.getD n.toNat default
def is (n:Int):Bool:=decide (0<=n)&&decide (n<a.l.length)
def inst (n:Int):Bool:=a.is n&&decide (n<a.p.inst)
def job (n:Int):Bool:=decide (0<=n)&&decide (n<a.r.af3.length)
def fits (n:Int):Bool:=a.is n&&gb4 a.r.ao9 (a.pk n).ao9
def eg1 (p q:aa3):Bool:=decide (p.name=q.name)&&!(bt3 p.ao9 q.ao9&&decide (au9 p.evr q.evr=0))
def twins (n m:Int):Bool:=a.is n&&a.is m&&!decide (n=m)&&eg1 (a.pk n) (a.pk m)
def aw1 (k n:Int):Bool:=decide ((⟨k,n⟩:at5)∈a.r.ae1)
def dropped (n:Int):Bool:=a.job n&&a.aw1 1 n
def at6 (k n:Int):Bool:=(List.range a.r.af3.length).any fun i=>decide ((a.jb i).kind=k)&&!a.dropped i&&decide (n∈al8 a.l (a.jb i).dep)
def goes (i:Int):Bool:=a.inst i&&(a.at6 2 i||a.aw1 2 i)
def df7 (vendor down other:Bool)(old q:aa3):Bool:=decide (q.name=old.name)&&(down||decide (0<=au9 q.evr old.evr))&&(other||ar7 q.ao9 old.ao9)&&(vendor||decide (q.vendor=old.vendor))
def hy7 (i:Int)(q:aa3):Bool:=df7 a.r.vendor (a.aw1 3 i||a.at6 4 i) (a.aw1 4 i) (a.pk i) q
def aq4 (i:Int):List Int:=if a.inst i then ar6 (fun n=>decide ((n:Int)=i)||a.hy7 i (a.pk n)||(!decide ((n:Int)=i)&&aa8 (a.pk n) (a.pk i))) a.l.length else []
def bn5 (i:Int):List Int:=(a.aq4 i).filter fun n=>!(a.inst n || !a.fits n)
def meant (j:Int):List Int:=if a.job j then (if (a.jb j).kind=1 then al7 a.l (a.jb j).dep else if (a.jb j).kind=2 then al8 a.l (a.jb j).dep else (al8 a.l (a.jb j).dep).filter fun n=>a.inst n) else []
def some (state l:List Int):Bool:=l.any fun n=>decide (n∈state)
def av6 (j:Int)(state:List Int):Bool:=!a.job j ||
 if (a.jb j).kind=1 then some state (a.meant j) else if (a.jb j).kind=2 then !some state (a.meant j) else
 if (a.jb j).kind=3 then !(a.meant j).any fun i=>!some state (a.aq4 i) else
 !(a.meant j).any fun i=>decide (0<(a.bn5 i).length)&&!some state (a.bn5 i)
def cs:List IV:=[a.p.v,(ae2 a.l).v,.int .u8 a.r.ao9,.bool a.r.vendor,av1 a.r.af3,am1 a.r.ae1,.int .i64 a.r.budget,.aa5 (a.l.map aa3.cs)]
def v:IV:=.ab7 a.cs
end ab9
def aq5 (e:at5)(af3 inst:Int):Bool:=decide (1<=e.kind)&&decide (e.kind<=4)&&decide (0<=e.n)&&decide (e.n<if e.kind=1 then af3 else inst)
def av2 (j:Job):Bool:=decide (1<=j.kind)&&decide (j.kind<=4)&&an8 j.dep
def ak8 (r:Req)(inst:Int):Int :=
 if bb3 r.ao9=false\/r.budget<0\/1099511627776<r.budget then 1 else
 if 64<r.af3.length\/64<r.ae1.length then 40 else
 if r.af3.all av2=false then 4 else
 if r.ae1.all (fun e=>aq5 e r.af3.length inst)=false then 5 else 0
def gz7 (p:Pool)(r:Req):IV:=if ak8 r p.inst=0 then .tuple [(ab9.mk p r).v,.int .i64 0] else .tuple [.ac2,.int .i64 (ak8 r p.inst)]
theorem eg2 (a b:Int):ar9 b a=- ar9 a b:=by
 unfold ar9; split<;>split<;>(try split)<;>(try split)<;>omega
theorem ay2 {a b:Int}:ar9 a b=0↔a=b:=by
 unfold ar9;split
 ·constructor
  ·intro h; omega
  ·intro h; omega
 ·split
  ·simp_all
  ·constructor
   ·intro h; omega
   ·intro h; contradiction
theorem eg3:∀ (x y:List UInt8),Op.bytesLess x y=decide (x<y)
 | [],[]=>by simp[Op.bytesLess]
 | _::_,[]=>by simp[Op.bytesLess]
 | [],_::_=>by simp[Op.bytesLess]
 | a::x,b::y=>by
  simp only[Op.bytesLess,eg3 x y,List.cons_lt_cons_iff];by_cases h:a<b
  ·simp[h]
  ·by_cases h2:a=b
   ·subst h2; simp
   ·simp[h,h2]
theorem ig9 (a b:Str):Op.bytesLess a b=true/\Op.bytesLess b a=false/\a≠b\/a=b/\Op.bytesLess a b=false\/Op.bytesLess b a=true/\Op.bytesLess a b=false/\a≠b:=by
 simp only[eg3,decide_eq_true_eq,decide_eq_false_iff_not];rcases Decidable.em (a<b) with h|h
 ·exact .inl ⟨h,fun h2=>List.lt_asymm h h2,fun e=>List.lt_irrefl a (by rw[<- e] at h; exact h)⟩
 ·rcases Decidable.em (b<a) with h2|h2
  ·exact .inr (.inr ⟨h2,h,fun e=>List.lt_irrefl a (by rw[<- e] at h2; exact h2)⟩)
  ·exact .inr (.inl ⟨List.le_antisymm (List.not_lt.1 h2) (List.not_lt.1 h),h⟩)
theorem gb5 (a b:Str):ch5 b a=- ch5 a b:=by
 unfold ch5;rcases ig9 a b with ⟨h1,h2,h3⟩|⟨rfl,h⟩|⟨h1,h2,h3⟩
 ·rw[h1,h2,if_neg (by simp),if_neg (fun e=>h3 e.symm),if_pos rfl]; rfl
 ·rw[h]; simp
 ·rw[h1,h2,if_pos rfl,if_neg (by simp),if_neg h3]
theorem dy1 (a b:Part):ag4 b a=- ag4 a b:=by
 unfold ag4;simp only[eg2 (a.kind:Int) b.kind,eg2 (a.s.length:Int) b.s.length,gb5 a.s b.s];have e:(b.kind=5/\a.kind=5)↔(a.kind=5/\b.kind=5):=And.comm;by_cases h1:ar9 (a.kind:Int) b.kind=0
 ·simp only[h1,Int.neg_zero,ne_eq,not_true_eq_false,if_false,e];by_cases h2:a.kind=5/\b.kind=5
  ·simp only[h2,and_self,if_true];by_cases h3:ar9 (a.s.length:Int) b.s.length=0
   ·simp[h3]
   ·have h4:¬ - ar9 (a.s.length:Int) b.s.length=0:=by omega
    simp[h3,h4]
  ·simp[h2]
 ·have h2:¬ - ar9 (a.kind:Int) b.kind=0:=by omega
  simp[h1,h2]
namespace ab9
variable (a:ab9)
theorem hn6 (n:Nat):a.is n=decide (n<a.l.length):=by
 unfold is;have:(0:Int)<=n:=by omega
 simp only[this,decide_true,Bool.true_and];exact decide_eq_decide.2 (by omega)
theorem cm1 (i:Int):(a.aq4 i).length<=a.l.length:=by
 unfold aq4;split
 ·exact ax9 _ _
 ·exact Nat.zero_le _
theorem gb6 (i:Int):(a.bn5 i).length<=a.l.length:=Nat.le_trans (List.length_filter_le _ _) (a.cm1 i)
end ab9
end Go.Id.Md
set_option linter.all false
namespace Go.Id.Md
open Go Go.Id
structure WO {α:Type} (S:α->Prop) (f:α->α->Int):Prop where
 neg:∀ a b,f b a=- f a b
 tr:∀ a b c,S a->S b->S c->f a b<=0->f b c<=0->f a c<=0
def lex (x y:Int):Int:=if x=0 then y else x
theorem gt7 (x y:Int):lex (-x) (-y)=- lex x y:=by unfold lex; split<;>split<;>omega
theorem WO.lex {α:Type}{S:α->Prop}{f g:α->α->Int}(hf:WO S f)(hg:WO S g):WO S fun a b=>Md.lex (f a b) (g a b) where
 neg:=fun a b=>by show Md.lex (f b a) (g b a)=_; rw[hf.neg,hg.neg,gt7]
 tr:=fun a b c sa sb sc h1 h2=>by
  have k1:=hf.tr a b c sa sb sc;have k2:=hf.tr c a b sc sa sb;have k3:=hf.tr b c a sb sc sa;have k4:=hg.tr a b c sa sb sc;have n1:=hf.neg a b;have n2:=hf.neg b c;have n3:=hf.neg a c;unfold Md.lex at *;split at h1<;>split at h2<;>split<;>omega
theorem WO.of {α β:Type}{S:β->Prop}{f:β->β->Int}(hf:WO S f)(g:α->β):WO (fun a=>S (g a)) fun a b=>f (g a) (g b) where
 neg:=fun a b=>hf.neg _ _
 tr:=fun a b c sa sb sc=>hf.tr _ _ _ sa sb sc
theorem WO.sub {α:Type}{S T:α->Prop}{f:α->α->Int}(hf:WO S f)(h:∀ a,T a->S a):WO T f:=⟨hf.neg,fun a b c sa sb sc=>hf.tr a b c (h a sa) (h b sb) (h c sc)⟩
def df8 (a b:Part):Int:=lex (ar9 a.kind b.kind) (lex (ar9 (if a.kind=5 then (a.s.length:Int) else 0) (if b.kind=5 then (b.s.length:Int) else 0)) (ch5 a.s b.s))
theorem ex6 (a b:Part):ag4 a b=df8 a b:=by
 unfold ag4 df8 lex;by_cases h:ar9 (a.kind:Int) b.kind=0
 ·have e:=ay2.1 h;have e':a.kind=b.kind:=by omega
  simp only[h,ne_eq,not_true_eq_false,if_false,if_true,e'];by_cases k5:b.kind=5
  ·simp only[k5,and_self,if_true]; split<;>simp_all
  ·have z:ar9 0 0=0:=by decide
   simp[k5,z]
 ·simp[h]
theorem fl1 {a b:Part}(h:ag4 a b=0):a.kind=b.kind:=by
 rw[ex6] at h;unfold df8 lex at h;split at h
 ·rename_i e; have:=ay2.1 e; omega
 ·contradiction
abbrev eg4:Part:=⟨2,[]⟩
theorem eg5 (b:UInt8):ac4 b≠2:=by
 unfold ac4
 repeat (first|split|omega)
theorem dp1 (s:Str):∀ x∈ab3 s,x.kind≠2:=by
 unfold ab3
 have : ∀ n s,∀ x∈aq8 n s,x.kind≠2:=by
  intro n
  induction n with
  | zero=>intro s x hx; cases hx
  | succ n ih=>
   intro s x hx
   cases s with
   | nil=>cases hx
   | cons b l=>
    simp only[aq8] at hx;split at hx
    ·exact ih _ x hx
    ·split at hx
     ·rcases List.mem_cons.1 hx with rfl|hx
      ·exact eg5 b
      ·exact ih _ x hx
     ·rcases List.mem_cons.1 hx with rfl|hx
      ·exact eg5 b
      ·exact ih _ x hx
 exact this _ s
end Go.Id.Md
set_option linter.all false
namespace Go.Id.Md
open Go Go.Id
theorem ch7 {p:UInt8->Bool}(l:Str):(l.dropWhile p).length<=l.length:=by
 induction l with
 | nil=>exact Nat.le_refl _
 | cons a l ih=>
  rw[List.dropWhile_cons];split
  ·exact Nat.le_trans ih (Nat.le_succ _)
  ·exact Nat.le_refl _
theorem dy2:∀ (n m:Nat) (l:Str),l.length<=n->l.length<=m->aq8 n l=aq8 m l:=by
 intro n
 induction n with
 | zero=>
  intro m l h1 _;have:l=[]:=List.length_eq_zero_iff.1 (Nat.le_zero.1 h1);subst this
  cases m<;>rfl
 | succ n ih=>
  intro m l h1 h2
  cases l with
  | nil=>cases m<;>rfl
  | cons b l=>
   cases m with
   | zero=>simp at h2
   | succ m=>
    simp only[List.length_cons] at h1 h2
    have hd:ac4 b=ac4 b->((b::l).dropWhile fun c=>ac4 c==ac4 b).length<=l.length:=fun _=>by
     rw[List.dropWhile_cons,if_pos (by simp)];exact ch7 l
    have hd:=hd rfl;simp only[aq8];rw[ih m l (by omega) (by omega),ih m _ (Nat.le_trans hd (by omega)) (Nat.le_trans hd (by omega))]
def fc3 (b:UInt8)(l:Str):Nat:=(l.takeWhile fun c=>ac4 c==ac4 b).length
theorem ex8:ab3 []=[]:=rfl
theorem eg6 {b:UInt8}{l:Str}(h:ac4 b=0):ab3 (b::l)=ab3 l:=by
 unfold ab3;simp only[List.length_cons,aq8,h,if_true]
theorem eg7 {b:UInt8}{l:Str}(h:ac4 b≠0)(h4:ac4 b<4):ab3 (b::l)=⟨ac4 b,[]⟩::ab3 l:=by
 unfold ab3;simp only[List.length_cons,aq8,h,h4,if_true,if_false]
theorem ch8 (p:UInt8->Bool)(l:Str):l.takeWhile p=l.take (l.takeWhile p).length/\l.dropWhile p=l.drop (l.takeWhile p).length:=by
 induction l with
 | nil=>exact ⟨rfl,rfl⟩
 | cons a l ih=>
  rw[List.takeWhile_cons,List.dropWhile_cons]
  cases h:p a with
  | true=>
   simp only[if_true,List.length_cons,List.take_succ_cons,List.drop_succ_cons]
   exact ⟨by rw[<- ih.1],ih.2⟩
  | false=>simp
theorem eg8 {b:UInt8}{l:Str}(h4:¬ ac4 b<4):ab3 (b::l)=⟨ac4 b,if ac4 b=5 then ((b::l).take (fc3 b l+1)).dropWhile (· == 48) else (b::l).take (fc3 b l+1)⟩::ab3 (l.drop (fc3 b l)):=by
 have h0:ac4 b≠0:=by omega
 unfold ab3;simp only[List.length_cons,aq8,h0,h4,if_false]
 have e1:(b::l).takeWhile (fun c=>ac4 c==ac4 b)=(b::l).take (fc3 b l+1):=by
  rw[List.takeWhile_cons,if_pos (by simp),List.take_succ_cons,(ch8 (fun c=>ac4 c==ac4 b) l).1];unfold fc3; rw[<- (ch8 (fun c=>ac4 c==ac4 b) l).1]
 have e2:(b::l).dropWhile (fun c=>ac4 c==ac4 b)=l.drop (fc3 b l):=by
  rw[List.dropWhile_cons,if_pos (by simp)];exact (ch8 (fun c=>ac4 c==ac4 b) l).2
 rw[e1,e2,dy2 l.length (l.drop (fc3 b l)).length _ (by rw[List.length_drop]; omega) (Nat.le_refl _)]
theorem hn7 {p:UInt8->Bool}:∀ (l:Str) (m:Nat),m<(l.takeWhile p).length->∃ c,l[m]? = some c/\p c=true:=by
 intro l
 induction l with
 | nil=>intro m h; simp at h
 | cons a l ih=>
  intro m h;rw[List.takeWhile_cons] at h
  cases hp:p a with
  | false=>rw[hp] at h; simp at h
  | true=>
   rw[hp] at h
   cases m with
   | zero=>exact ⟨a,rfl,hp⟩
   | succ m=>exact ih m (by simpa using h)
theorem hn8 {p:UInt8->Bool}:∀ (l:Str) (c:UInt8),l[(l.takeWhile p).length]? = some c->p c=false:=by
 intro l
 induction l with
 | nil=>intro c h; simp at h
 | cons a l ih=>
  intro c h;rw[List.takeWhile_cons] at h
  cases hp:p a with
  | false=>rw[hp] at h; simp at h; rw[<- h]; exact hp
  | true=>rw[hp] at h; exact ih c (by simpa using h)
theorem gk9 {b:UInt8}{l:Str}{m:Nat}(h:m<fc3 b l):∃ c,l[m]? = some c/\ac4 c=ac4 b:=by
 obtain ⟨c,h1,h2⟩:=hn7 l m h;exact ⟨c,h1,by simpa using h2⟩
theorem gl1 {b:UInt8}{l:Str}{c:UInt8}(h:l[fc3 b l]? = some c):ac4 c≠ac4 b:=by
 have:=hn8 l c h
 simpa using this
theorem gl2 (b:UInt8)(l:Str):fc3 b l<=l.length:=(List.takeWhile_sublist _).length_le
end Go.Id.Md
