/- The document's data,and what functions give,in plain words. Conditions: none; no program in sight. -/
import Derived.Test.YtjpdjifjokldlaaGreatDoorFwQ
set_option linter.all false
namespace Go.Id.Md
open Go Go.Id
abbrev Str:=List UInt8
structure EVR where
 ai4:Int
 ver:Str
 rel:Str
 deriving DecidableEq,Inhabited
structure Dep where
 name:Str
 op:Int
 evr:EVR
 deriving DecidableEq,Inhabited
inductive aa9 where
 | mk (kind:Int) (dep:Dep) (args:List aa9)
 deriving Inhabited
def aa9.kind:aa9->Int|.mk k _ _=>k
def aa9.dep:aa9->Dep|.mk _ d _=>d
def aa9.args:aa9->List aa9|.mk _ _ a=>a
structure aa2 where
 name:Str
 evr:EVR
 de2:Int
 vendor:Str
 provides:List Dep
 requires:List aa9
 conflicts:List aa9
 ab2:List Dep
 ab7:List aa9
 ab3:List aa9
 suggests:List aa9
 ac3:List aa9
 files:List Str
 deriving Inhabited
structure ak1 where
 priority:Int
 packages:List aa2
 deriving Inhabited
def EVR.fit (e:EVR):Prop:=e.ver.length<2^62/\e.rel.length<2^62
def Dep.fit (d:Dep):Prop:=d.name.length<2^62/\d.evr.fit
theorem aa9.ind {p:aa9->Prop}(h:∀ k d aZ,(∀ a∈aZ,p a)->p (.mk k d aZ))(r:aa9):p r :=
 aa9.rec (motive_1:=p) (motive_2:=fun l=>∀ a∈l,p a) (fun k d aZ ih=>h k d aZ ih) (fun _ h=>by cases h) (fun r rs h1 h2 a ha=>by
  rcases List.mem_cons.1 ha with rfl|h
  ·exact h1
  ·exact h2 a h) r
mutual
def aa9.fit:aa9->Prop
 | .mk k d aZ=>0<=k/\k<256/\d.fit/\aZ.length<2^31/\aa9.fits aZ
def aa9.fits:List aa9->Prop
 | []=>True
 | r::rs=>r.fit/\aa9.fits rs
end
theorem aa9.gi6 (l:List aa9):aa9.fits l↔∀ r∈l,r.fit:=by
 induction l with
 | nil=>simp[aa9.fits]
 | cons r rs ih=>simp[aa9.fits,ih]
theorem aa9.bc7 {k:Int}{d:Dep}{aZ:List aa9}:(aa9.mk k d aZ).fit↔0<=k/\k<256/\d.fit/\aZ.length<2^31/\∀ r∈aZ,r.fit:=by
 simp only[aa9.fit,aa9.gi6]
def EVR.cs (e:EVR):List IV:=[.int .i64 e.ai4,.str e.ver,.str e.rel]
def Dep.cs (d:Dep):List IV:=[.str d.name,.int .u8 d.op,.int .i64 d.evr.ai4,.str d.evr.ver,.str d.evr.rel]
mutual
def aa9.cs:aa9->List IV
 | .mk k d aZ=>[.int .u8 k,.str d.name,.int .u8 d.op,.int .i64 d.evr.ai4,.str d.evr.ver,.str d.evr.rel,.aa3 (aa9.css aZ)]
def aa9.css:List aa9->List (List IV)
 | []=>[]
 | r::rs=>r.cs::aa9.css rs
end
theorem aa9.hi8 (l:List aa9):aa9.css l=l.map aa9.cs:=by
 induction l with
 | nil=>rfl
 | cons r rs ih=>simp only[aa9.css,ih,List.map_cons]
theorem aa9.an4 (r:aa9):r.cs=[.int .u8 r.kind,.str r.dep.name,.int .u8 r.dep.op,.int .i64 r.dep.evr.ai4,.str r.dep.evr.ver,.str r.dep.evr.rel,.aa3 (r.args.map aa9.cs)]:=by
 cases r with
 | mk k d aZ=>simp only[aa9.cs,aa9.hi8,aa9.kind,aa9.dep,aa9.args]
def ap8 (s:Str):List IV:=[.str s]
abbrev deps (l:List Dep):IV:=.aa3 (l.map Dep.cs)
abbrev ag6 (l:List aa9):IV:=.aa3 (l.map aa9.cs)
abbrev strs (l:List Str):IV:=.aa3 (l.map ap8)
def aa2.cs (p:aa2):List IV :=
 [.str p.name,.int .i64 p.evr.ai4,.str p.evr.ver,.str p.evr.rel,.int .u8 p.de2,.str p.vendor,deps p.provides,ag6 p.requires,ag6 p.conflicts,deps p.ab2,ag6 p.ab7,ag6 p.ab3,ag6 p.suggests,ag6 p.ac3,strs p.files]
def ak1.cs (r:ak1):List IV:=[.int .i64 r.priority,.aa3 (r.packages.map aa2.cs)]
def aa2.rows (p:aa2):List (Int×List aa9):=[(1,p.requires),(2,p.conflicts),(1,p.ab7),(3,p.ab3),(1,p.suggests),(3,p.ac3)]
def signs:Str:=[97,98,99,100,101,102,103,104,105,106,107,108,109,110,111,112,113,114,115,116,117,118,119,120,121,122,65,66,67,68,69,70,71,72,73,74,75,76,77,78,79,80,81,82,83,84,85,86,87,88,89,90,48,49,50,51,52,53,54,55,56,57,46,95,43,45,47,58,64,126,94]
def fq2 (b:UInt8):Bool:=(decide (97<=b.toNat)&&decide (b.toNat<=122))||(decide (65<=b.toNat)&&decide (b.toNat<=90))||(decide (48<=b.toNat)&&decide (b.toNat<=57))
def ay2 (b:UInt8):Bool:=signs.contains b
def words:List Str:=[[97,110,100],[111,114],[105,102],[101,108,115,101],[117,110,108,101,115,115],[119,105,116,104],[119,105,116,104,111,117,116]]
def am8 (s:Str):Bool:=decide (1<=s.length)&&decide (s.length<=64)&&s.all ay2&&!words.contains s
def aq3 (s:Str):Bool:=am8 s&&(s.head? == some 47)
def bd3 (b:UInt8):Bool:=fq2 b || [46,95,43,126,94].contains b
def as7 (s:Str):Bool:=decide (1<=s.length)&&decide (s.length<=64)&&s.all bd3
def ay3 (e:EVR)(dep:Bool):Bool:=decide (0<=e.ai4)&&decide (e.ai4<=2147483647)&&as7 e.ver&&(as7 e.rel||dep&&e.rel.isEmpty)
def de1 (op:Int):Bool:=[0,1,2,3,4,6].contains op
def fq3:EVR:=⟨0,[],[]⟩
def cj5:Dep:=⟨[],0,fq3⟩
def ah7 (d:Dep):Bool:=am8 d.name&&de1 d.op&&(if d.op=0 then decide (d.evr=fq3) else !aq3 d.name&&ay3 d.evr true)
def ac5 (b:UInt8):Nat:=if b=126 then 1 else if b=94 then 3 else if decide (97<=b)&&decide (b<=122)||decide (65<=b)&&decide (b<=90) then 4 else if decide (48<=b)&&decide (b<=57) then 5 else 0
structure Part where
 kind:Nat
 s:Str
 deriving DecidableEq,Inhabited
def ao7:Nat->Str->List Part
 | 0,_=>[]
 | _+1,[]=>[]
 | n+1,b::l=>
  if ac5 b=0 then ao7 n l
  else if ac5 b<4 then ⟨ac5 b,[]⟩::ao7 n l
  else ⟨ac5 b,if ac5 b=5 then ((b::l).takeWhile fun c=>ac5 c==ac5 b).dropWhile (· == 48) else (b::l).takeWhile fun c=>ac5 c==ac5 b⟩::ao7 n ((b::l).dropWhile fun c=>ac5 c==ac5 b)
def ab6 (s:Str):List Part:=ao7 s.length s
def ap9 (a b:Int):Int:=if a<b then -1 else if a=b then 0 else 1
def ce7 (a b:Str):Int:=if Op.bytesLess a b then -1 else if a=b then 0 else 1
def ag3 (a b:Part):Int :=
 let k:=ap9 a.kind b.kind
 if k≠0 then k else
 let n:=if a.kind=5/\b.kind=5 then ap9 a.s.length b.s.length else 0
 if n≠0 then n else ce7 a.s b.s
def ai8:List Part->List Part->Int
 | a::aZ,b::bs=>if ag3 a b≠0 then ag3 a b else ai8 aZ bs
 | _,_=>0
def as8 (a b:Str):Int:=ai8 (ab6 a++[⟨2,[]⟩]) (ab6 b++[⟨2,[]⟩])
def bc8 (a b:EVR):Int :=
 if ap9 a.ai4 b.ai4≠0 then ap9 a.ai4 b.ai4 else
 if as8 a.ver b.ver≠0 then as8 a.ver b.ver else
 if a.rel=[]\/b.rel=[] then 0 else as8 a.rel b.rel
def bit (op:Int)(i:Nat):Bool:=(op.toNat).testBit i
def side (n:Int):Nat:=if n<0 then 0 else if n=0 then 1 else 2
def meet (a b:Dep):Bool :=
 if a.op.toNat%8=0\/b.op.toNat%8=0 then true else
 let n:=bc8 a.evr b.evr
 if n=0 then bit a.op 0&&bit b.op 0||bit a.op 1&&bit b.op 1||bit a.op 2&&bit b.op 2
 else bit a.op (side (-n))||bit b.op (side n)
mutual
def aa9.count:aa9->Nat
 | .mk _ _ aZ=>aa9.counts aZ+1
def aa9.counts:List aa9->Nat
 | []=>0
 | r::rs=>r.count+aa9.counts rs
end
mutual
def aa9.depth:aa9->Nat
 | .mk k _ aZ=>if k=1 then 0 else aa9.ay4 aZ+1
def aa9.ay4:List aa9->Nat
 | []=>0
 | r::rs=>max r.depth (aa9.ay4 rs)
end
-- All parts,and whether each stands within a With,or a Without.
mutual
def aa9.parts:aa9->Bool->List (aa9×Bool)
 | .mk k d aZ,alone=>(.mk k d aZ,alone)::aa9.ba3 aZ (alone||decide (k=6)||decide (k=7))
def aa9.ba3:List aa9->Bool->List (aa9×Bool)
 | [],_=>[]
 | r::rs,alone=>r.parts alone++aa9.ba3 rs alone
end
def asks (k:Int):Nat×Nat×Bool×Nat :=
 if k=1 then (0,0,true,3) else if k=2 then (2,24,true,3) else if k=3 then (2,24,true,3) else if k=4 then (2,3,false,1)
 else if k=5 then (2,3,false,2) else if k=6 then (2,24,true,3) else if k=7 then (2,2,true,3) else (0,0,false,0)
def ag7 (wh:Int)(r:aa9)(alone:Bool):Bool :=
 let x:=asks r.kind
 !(decide ((x.2.2.2:Int)<wh)||alone&&!x.2.2.1||decide (r.args.length<x.1)||decide (x.2.1<r.args.length)) &&
 (if r.kind=1 then ah7 r.dep else decide (r.dep=cj5))
def am9 (r:aa9)(wh:Int):Int :=
 if wh<1\/3<wh then 1 else if r.count>24 then 40 else if r.depth>8 then 21 else if (r.parts false).all fun p=>ag7 wh p.1 p.2 then 0 else 4
mutual
def aa9.same:aa9->aa9->Bool
 | .mk k d aZ,.mk k' d' as'=>decide (k=k')&&decide (d=d')&&aa9.bk7 aZ as'
def aa9.bk7:List aa9->List aa9->Bool
 | [],[]=>true
 | r::rs,s::ss=>r.same s&&aa9.bk7 rs ss
 | _,_=>false
end
structure aa2.Fit (p:aa2):Prop where
 name:p.name.length<2^62
 evr:p.evr.fit
 bd4:p.provides.length<2^31/\∀ d∈p.provides,d.fit
 obs:p.ab2.length<2^31/\∀ d∈p.ab2,d.fit
 files:p.files.length<2^31/\∀ s∈p.files,s.length<2^62
 ay5:∀ x∈p.rows,x.2.length<2^31/\∀ r∈x.2,r.fit/\r.count<2^31
def bl5 (a:Int):Bool:=decide (1<=a)&&decide (a<=4)
def rising:List Str->Bool
 | a::b::l=>Op.bytesLess a b&&rising (b::l)
 | _=>true
def ac9 (l:List aa9)(wh:Int):Bool:=decide (l.length<=32)&&l.all fun r=>decide (am9 r wh=0)
def af3 (p:aa2):Bool :=
 am8 p.name&&!aq3 p.name&&ay3 p.evr false&&bl5 p.de2&&decide (p.vendor.length<=64) &&
 (decide (p.provides.length<=32)&&p.provides.all ah7)&&(decide (p.ab2.length<=32)&&p.ab2.all ah7)&&(decide (p.files.length<=32)&&p.files.all aq3) &&
 rising p.files&&ac9 p.requires 1&&ac9 p.conflicts 2&&ac9 p.ab7 1&&ac9 p.ab3 3&&ac9 p.suggests 1&&ac9 p.ac3 3
def own (p:aa2):Dep:=⟨p.name,2,p.evr⟩
def meets (a d:Dep):Bool:=decide (a.name=d.name)&&meet a d
def named (p:aa2)(d:Dep):Bool:=meets (own p) d
def provides (p:aa2)(d:Dep):Bool:=named p d||p.provides.any (fun a=>meets a d)||decide (d.op=0)&&p.files.contains d.name
def ab2 (p q:aa2):Bool:=p.ab2.any fun d=>named q d
def ar2 (l m:List aa9):Bool:=aa9.bk7 l m
def am2 (a b:aa2):Bool :=
 decide (a.name=b.name)&&decide (a.evr=b.evr)&&decide (a.de2=b.de2)&&decide (a.vendor=b.vendor)&&decide (a.provides=b.provides)&&decide (a.ab2=b.ab2)&&decide (a.files=b.files) &&
 ar2 a.requires b.requires&&ar2 a.conflicts b.conflicts&&ar2 a.ab7 b.ab7&&ar2 a.ab3 b.ab3&&ar2 a.suggests b.suggests&&ar2 a.ac3 b.ac3
end Go.Id.Md
set_option linter.all false
namespace Go.Id.Md
open Go Go.Id
structure aq1 where
 pkg:aa2
 bo2:Int
 prio:Int
def aq1.cs (r:aq1):List IV:=r.pkg.cs++[.int .i64 r.bo2,.int .i64 r.prio]
abbrev Nms:=List (Str×List Int)
def at5:Nms->Str->Int->Nms
 | [],k,n=>[(k,[n])]
 | t::ts,k,n=>if k=t.1 then (k,t.2++[n])::ts else t::at5 ts k n
def bn4:Nms->Nat->List aa2->Nms
 | nm,_,[]=>nm
 | nm,n,p::ps=>bn4 (at5 nm p.name n) (n+1) ps
def ai9 (n:Int):List IV:=[.int .i64 n]
def nmV (nm:Nms):List (IV×IV):=nm.map fun t=>(.str t.1,.aa3 (t.2.map ai9))
structure Pool where
 rows:List aq1
 inst:Int
 nm:Nms
def Pool.v (p:Pool):IV:=.ad4 [.aa3 (p.rows.map aq1.cs),.int .i64 p.inst,.am4 (nmV p.nm)]
def rowsOf (l:List aa2)(bo2 prio:Int):List aq1:=l.map fun p=>⟨p,bo2,prio⟩
theorem bc1 (l:List aa2)(x:aa2)(a b:Int):rowsOf (l++[x]) a b=rowsOf l a b++[⟨x,a,b⟩]:=by simp[rowsOf]
theorem bj8 (l:List aa2)(a b:Int):(rowsOf l a b).length=l.length:=by simp[rowsOf]
def ad7:Nat->List ak1->List aq1×Nms->Option (List aq1×Nms)
 | _,[],st=>some st
 | i,r::rs,st=>if r.priority<0\/1024<r.priority\/r.packages.all af3=false then none else ad7 (i+1) rs (st.1++rowsOf r.packages i r.priority,bn4 st.2 st.1.length r.packages)
def aj1 (l:List ak1):Nat:=(l.map fun r=>r.packages.length).sum
def bq8 (repos:List ak1)(inst:List aa2):Pool ⊕ Int :=
 if 16<repos.length\/256<inst.length+aj1 repos then .inr 40 else
 if inst.all af3=false then .inr 4 else
 match ad7 0 repos (rowsOf inst (-1) 1025,bn4 [] 0 inst) with
 | some (rows,nm)=>.inl ⟨rows,inst.length,nm⟩
 | none=>.inr 4
def ij1 (r:Pool ⊕ Int):IV:=match r with
 | .inl p=>.tuple [p.v,.int .i64 0]
 | .inr e=>.tuple [.ad5,.int .i64 e]
abbrev NmL:=List (Str×List Int×Nat)
def mEs (L:NmL):List (IV×IV):=L.map fun t=>(.str t.1,.slice t.2.2 0 t.2.1.length 1)
def bz8 (L:NmL):Nms:=L.map fun t=>(t.1,t.2.1)
def cj6:NmL->Str->Int->Nat->NmL
 | [],k,n,nid=>[(k,[n],nid)]
 | t::ts,k,n,nid=>if k=t.1 then (k,t.2.1++[n],nid)::ts else t::cj6 ts k n nid
def dx4 (L:NmL)(k:Str):IV:=match L.find? (fun t=>decide (k=t.1)) with
 | some t=>.slice t.2.2 0 t.2.1.length 1
 | none=>.aa1
def di1 (L:NmL)(k:Str):List Int:=match L.find? (fun t=>decide (k=t.1)) with
 | some t=>t.2.1
 | none=>[]
theorem gi7 (L:NmL)(k:Str)(n:Int)(nid:Nat):bz8 (cj6 L k n nid)=at5 (bz8 L) k n:=by
 induction L with
 | nil=>rfl
 | cons t ts ih=>
  simp only[cj6,bz8,List.map_cons,at5];split
  ·rfl
  ·rw[List.map_cons]; congr 1
theorem ij2 (L:NmL)(k:Str):(au1 2 (.str k) (mEs L)).map (fun r=>r.getD .aa1)=some (dx4 L k):=by
 induction L with
 | nil=>rfl
 | cons t ts ih=>
  simp only[mEs,List.map_cons,au1,fk6,dx4,List.find?_cons] at ih ⊢;by_cases h:k=t.1
  ·simp[h]
  ·simp only[h,decide_false] at ih ⊢;exact ih
theorem hj4 (L:NmL)(k:Str):∃ r,au1 2 (.str k) (mEs L)=some r/\r.getD .aa1=dx4 L k:=by
 have:=ij2 L k
 cases h:au1 2 (.str k) (mEs L) with
 | none=>rw[h] at this; cases this
 | some r=>rw[h] at this; exact ⟨r,rfl,by simpa using this⟩
theorem iw2 (L:NmL)(k:Str)(n:Int)(nid:Nat):fg2 2 (.str k) (.slice nid 0 ((di1 L k).length+1) 1) (mEs L)=some (mEs (cj6 L k n nid)):=by
 induction L with
 | nil=>rfl
 | cons t ts ih=>
  simp only[mEs,List.map_cons,fg2,fk6,di1,List.find?_cons,cj6] at ih ⊢;by_cases h:k=t.1
  ·simp[h]
  ·simp only[h,decide_false,if_false,List.map_cons] at ih ⊢;rw[ih]; rfl
theorem fq4 {k:Str}{n:Int}{nid:Nat}:∀ {L:NmL},(L.map (·.1)).Nodup->∀ t∈cj6 L k n nid,(t∈L/\t.1≠k)\/t=(k,di1 L k++[n],nid):=by
 intro L
 induction L with
 | nil=>intro _ t ht; simp[cj6] at ht; exact .inr (by rw[ht]; rfl)
 | cons u us ih=>
  intro hk t ht;rw[List.map_cons,List.nodup_cons] at hk;simp only[cj6] at ht;by_cases h:k=u.1
  ·rw[if_pos h] at ht;rcases List.mem_cons.1 ht with rfl|ht
   ·right; simp[di1,h]
   ·left;exact ⟨List.mem_cons_of_mem _ ht,fun e=>hk.1 (by rw[<- h,<- e]; exact List.mem_map_of_mem (f:=fun x:Str×List Int×Nat=>x.1) ht)⟩
  ·rw[if_neg h] at ht;rcases List.mem_cons.1 ht with rfl|ht
   ·left; exact ⟨List.mem_cons_self ..,fun e=>h e.symm⟩
   ·have e:di1 (u::us) k=di1 us k:=by simp[di1,h]
    rw[e];rcases ih hk.2 t ht with ⟨h1,h2⟩|h1
    ·exact .inl ⟨List.mem_cons_of_mem _ h1,h2⟩
    ·exact .inr h1
theorem gi8 {k:Str}{n:Int}{nid:Nat}:∀ (L:NmL),(L.map (·.1)).Nodup->((cj6 L k n nid).map (·.1)).Nodup/\∀ x∈(cj6 L k n nid).map (·.1),x=k\/x∈L.map (·.1):=by
 intro L
 induction L with
 | nil=>intro _; simp[cj6]
 | cons u us ih=>
  intro hk;rw[List.map_cons,List.nodup_cons] at hk;simp only[cj6];by_cases h:k=u.1
  ·rw[if_pos h];refine ⟨?_,?_⟩
   ·rw[List.map_cons,List.nodup_cons]; exact ⟨by rw[h]; exact hk.1,hk.2⟩
   ·intro x hx;simp only[List.map_cons,List.mem_cons] at hx ⊢;rcases hx with h1|h1
    ·exact .inl h1
    ·exact .inr (.inr h1)
  ·rw[if_neg h];obtain ⟨h1,h2⟩:=ih hk.2;refine ⟨?_,?_⟩
   ·rw[List.map_cons,List.nodup_cons];refine ⟨fun hm=>?_,h1⟩;rcases h2 _ hm with e|e
    ·exact h e.symm
    ·exact hk.1 e
   ·intro x hx;simp only[List.map_cons,List.mem_cons] at hx ⊢;rcases hx with h3|h3
    ·exact .inr (.inl h3)
    ·rcases h2 _ h3 with e|e
     ·exact .inl e
     ·exact .inr (.inr e)
theorem hj5 {k:Str}{n:Int}{nid:Nat}:∀ (L:NmL),(L.map (·.2.2)).Nodup->nid ∉ L.map (·.2.2)->((cj6 L k n nid).map (·.2.2)).Nodup/\∀ x∈(cj6 L k n nid).map (·.2.2),x=nid\/x∈L.map (·.2.2):=by
 intro L
 induction L with
 | nil=>intro _ _; simp[cj6]
 | cons u us ih=>
  intro hk hn;rw[List.map_cons,List.nodup_cons] at hk;simp only[List.map_cons,List.mem_cons,not_or] at hn;simp only[cj6];by_cases h:k=u.1
  ·rw[if_pos h];refine ⟨?_,?_⟩
   ·rw[List.map_cons,List.nodup_cons]; exact ⟨hn.2,hk.2⟩
   ·intro x hx;simp only[List.map_cons,List.mem_cons] at hx ⊢;rcases hx with h1|h1
    ·exact .inl h1
    ·exact .inr (.inr h1)
  ·rw[if_neg h];obtain ⟨h1,h2⟩:=ih hk.2 hn.2;refine ⟨?_,?_⟩
   ·rw[List.map_cons,List.nodup_cons];refine ⟨fun hm=>?_,h1⟩;rcases h2 _ hm with e|e
    ·exact hn.1 e.symm
    ·exact hk.1 e
   ·intro x hx;simp only[List.map_cons,List.mem_cons] at hx ⊢;rcases hx with h3|h3
    ·exact .inr (.inl h3)
    ·rcases h2 _ h3 with e|e
     ·exact .inl e
     ·exact .inr (.inr e)
theorem ce8 (L:NmL)(k:Str):(dx4 L k=.aa1/\di1 L k=[])\/∃ t∈L,t.1=k/\dx4 L k=.slice t.2.2 0 t.2.1.length 1/\di1 L k=t.2.1:=by
 unfold dx4 di1
 cases h:L.find? (fun t=>decide (k=t.1)) with
 | none=>exact .inl ⟨rfl,rfl⟩
 | some t=>
  have h1:=List.find?_some h;exact .inr ⟨t,List.mem_of_find?_eq_some h,by simpa using (by simpa using h1:k=t.1).symm,rfl,rfl⟩
theorem hj6 {L:NmL}(hk:(L.map (·.1)).Nodup)(hd:(L.map (·.2.2)).Nodup):∀ t∈L,∀ u∈L,t.2.2=u.2.2->t=u:=by
 intro t ht u hu e;obtain ⟨i,hi,h1⟩:=List.mem_iff_getElem.1 ht;obtain ⟨j,hj,h2⟩:=List.mem_iff_getElem.1 hu
 have hij:i=j:=by
  have hi':i<(L.map (·.2.2)).length:=by simpa using hi
  have hj':j<(L.map (·.2.2)).length:=by simpa using hj
  have hp:=List.pairwise_iff_getElem.1 hd;have e2:(L.map (·.2.2))[i]=(L.map (·.2.2))[j]:=by simp only[List.getElem_map,h1,h2,e]
  rcases Nat.lt_trichotomy i j with h|h|h
  ·exact absurd e2 (hp i j hi' hj' h)
  ·exact h
  ·exact absurd e2.symm (hp j i hj' hi' h)
 subst hij;rw[<- h1,<- h2]
end Go.Id.Md
set_option linter.all false
namespace Go.Id.Md
open Go Go.Id
def ae6:Nms->Str->List Int
 | [],_=>[]
 | t::ts,k=>if k=t.1 then t.2 else ae6 ts k
def KN (nm:Nms):Prop:=(nm.map (·.1)).Nodup
theorem cy1 {k:Str}{n:Int}:∀ {nm:Nms},∀ x∈(at5 nm k n).map (·.1),x=k\/x∈nm.map (·.1):=by
 intro nm
 induction nm with
 | nil=>intro x hx; simpa [at5] using hx
 | cons u us ih=>
  intro x hx;simp only[at5] at hx;split at hx
  ·rename_i e; simp only[List.map_cons,List.mem_cons] at hx ⊢;rcases hx with h|h
   ·exact .inl h
   ·exact .inr (.inr h)
  ·simp only[List.map_cons,List.mem_cons] at hx ⊢;rcases hx with h|h
   ·exact .inr (.inl h)
   ·rcases ih x h with h|h
    ·exact .inl h
    ·exact .inr (.inr h)
theorem bj9 {nm:Nms}{k:Str}{n:Int}(h:KN nm):KN (at5 nm k n):=by
 induction nm with
 | nil=>simp[KN,at5]
 | cons u us ih=>
  have h':u.1 ∉ us.map (·.1)/\KN us:=by simpa [KN] using h
  simp only[at5];split
  ·rename_i e; subst e; exact h
  ·rename_i e;show ((u::at5 us k n).map (·.1)).Nodup;rw[List.map_cons,List.nodup_cons];refine ⟨fun hm=>?_,ih h'.2⟩;rcases cy1 _ hm with h1|h1
   ·exact e h1.symm
   ·exact h'.1 h1
theorem KN.perm {nm nm':Nms}(h:KN nm)(p:nm.Perm nm'):KN nm':=(p.map (fun x:Str×List Int=>x.1)).nodup_iff.1 h
theorem ba4 {nm:Nms}(h:KN nm)(k:Str)(n:Int)(j:Str):ae6 (at5 nm k n) j=if j=k then ae6 nm k++[n] else ae6 nm j:=by
 induction nm with
 | nil=>
  simp only[at5,ae6]
  split<;>rfl
 | cons u us ih=>
  have h':u.1 ∉ us.map (·.1)/\KN us:=by simpa [KN] using h
  simp only[at5,ae6];by_cases e:k=u.1
  ·rw[if_pos e,if_pos e];simp only[ae6];by_cases ej:j=k
   ·rw[if_pos ej,if_pos ej]
   ·rw[if_neg ej,if_neg ej,if_neg (fun x=>ej (x.trans e.symm))]
  ·rw[if_neg e,if_neg e];simp only[ae6,ih h'.2];by_cases ej:j=k
   ·rw[if_pos ej,if_pos ej,if_neg (fun x=>e (ej.symm.trans x))]
   ·rw[if_neg ej,if_neg ej]
def cy2 (nm:Nms)(ks:List Str)(n:Int):Nms:=ks.foldl (fun m k=>at5 m k n) nm
theorem do1 {n:Int}:∀ {ks:List Str} {nm:Nms},KN nm->KN (cy2 nm ks n)
 | [],_,h=>h
 | _::ks,_,h=>do1 (ks:=ks) (bj9 h)
def do2 (l:List Str)(k:Str):List Str:=if k∈l then l else l++[k]
def io3 (p:aa2):List Str:=p.files.foldl do2 ((p.provides.map (·.name)).foldl do2 [p.name])
def bn5 (nm:Nms)(ds:List Str)(n:Int):Nms:=ds.foldl (fun m k=>if n∈ae6 m k then m else at5 m k n) nm
structure Index where
 all:List aa2
 bd4:Nms
 names:Nms
 over:Nms
def Index.v (x:Index):IV:=.ad4 [.aa3 (x.all.map aa2.cs),.am4 (nmV x.bd4),.am4 (nmV x.names),.am4 (nmV x.over)]
def gu5 (x:Index)(n:Nat)(p:aa2):Index:=⟨x.all++[p],cy2 x.bd4 (io3 p) n,at5 x.names p.name n,bn5 x.over (p.ab2.map (·.name)) n⟩
def idxFrom (x:Index):Nat->List aa2->Index
 | _,[]=>x
 | n,p::ps=>idxFrom (gu5 x n p) (n+1) ps
def jh3 (l:List aa2):Index:=idxFrom ⟨[],[],[],[]⟩ 0 l
end Go.Id.Md
/- Indexes,in plain words: who stands in them,by number. Conditions: none; no program in sight. -/
namespace Go.Id.Md
open Go Go.Id
def numsOf (q:aa2->Bool)(l:List aa2):List Int:=((List.range l.length).filter fun n=>q (l.getD n default)).map fun (n:Nat)=>(n:Int)
theorem aw7 (q:aa2->Bool)(l:List aa2)(p:aa2):numsOf q (l++[p])=numsOf q l++if q p then [(l.length:Int)] else []:=by
 unfold numsOf;rw[List.length_append,List.length_singleton,List.range_succ,List.filter_append,List.map_append];congr 1
 ·congr 1;refine List.filter_congr fun n hn=>?_
  have h:=List.mem_range.1 hn;simp[List.getD_eq_getElem?_getD,List.getElem?_append,h]
 ·have e:(l++[p]).getD l.length default=p:=by simp[List.getD_eq_getElem?_getD]
  simp only[List.filter_cons,List.filter_nil,e];split<;>rfl
theorem bz9 {q:aa2->Bool}{l:List aa2}{n:Int}:n∈numsOf q l↔∃ m:Nat,n=m/\m<l.length/\q (l.getD m default)=true:=by
 unfold numsOf;rw[List.mem_map];constructor
 ·rintro ⟨m,hm,rfl⟩;obtain ⟨h1,h2⟩:=List.mem_filter.1 hm;exact ⟨m,rfl,List.mem_range.1 h1,h2⟩
 ·rintro ⟨m,rfl,h1,h2⟩;exact ⟨m,List.mem_filter.2 ⟨List.mem_range.2 h1,by simpa using h2⟩,rfl⟩
theorem cy3 (q:aa2->Bool)(l:List aa2):(numsOf q l).length<=l.length:=by
 unfold numsOf;rw[List.length_map];exact Nat.le_trans (List.length_filter_le _ _) (by simp)
theorem dx6 {n:Int}:∀ (ks:List Str) {nm:Nms},KN nm->ks.Nodup->∀ j,ae6 (cy2 nm ks n) j=ae6 nm j++if j∈ks then [n] else []:=by
 intro ks
 induction ks with
 | nil=>intro nm _ _ j; simp[cy2]
 | cons k ks ih=>
  intro nm h hnd j;obtain ⟨h1,h2⟩:=List.nodup_cons.1 hnd;show ae6 (cy2 (at5 nm k n) ks n) j=_;rw[ih (bj9 h) h2,ba4 h];by_cases e:j=k
  ·subst e; simp[h1]
  ·simp[e]
theorem ey1 {n:Int}:∀ (ks:List Str) {nm:Nms},KN nm->KN (bn5 nm ks n):=by
 intro ks
 induction ks with
 | nil=>intro nm h; exact h
 | cons k ks ih=>
  intro nm h;show KN (bn5 (if n∈ae6 nm k then nm else at5 nm k n) ks n);split
  ·exact ih h
  ·exact ih (bj9 h)
theorem do3 {n:Int}:∀ (ks:List Str) {nm:Nms},KN nm->∀ j,ae6 (bn5 nm ks n) j=ae6 nm j++if j∈ks/\n ∉ ae6 nm j then [n] else []:=by
 intro ks
 induction ks with
 | nil=>intro nm _ j; simp[bn5]
 | cons k ks ih=>
  intro nm h j;show ae6 (bn5 (if n∈ae6 nm k then nm else at5 nm k n) ks n) j=_;by_cases hk:n∈ae6 nm k
  ·rw[if_pos hk,ih h];by_cases e:j=k
   ·subst e; simp[hk]
   ·simp[e]
  ·rw[if_neg hk,ih (bj9 h),ba4 h];by_cases e:j=k
   ·subst e; simp[hk]
   ·simp[e]
theorem ey2 {l:List Str}(h:l.Nodup)(k:Str):(do2 l k).Nodup:=by
 unfold do2;split
 ·exact h
 ·rename_i hk;rw[List.nodup_append];exact ⟨h,by simp,fun a ha b hb e=>by simp at hb; subst hb; subst e; exact hk ha⟩
theorem bn6:∀ (ks:List Str) {l:List Str},l.Nodup->(ks.foldl do2 l).Nodup
 | [],_,h=>h
 | k::ks,_,h=>bn6 ks (ey2 h k)
theorem gj1 (p:aa2):(io3 p).Nodup:=bn6 _ (bn6 _ (by simp))
structure hj8 (x:Index) (l:List aa2):Prop where
 all:x.all=l
 kp:KN x.bd4
 kn:KN x.names
 ko:KN x.over
 bd4:∀ j,ae6 x.bd4 j=numsOf (fun p=>decide (j∈io3 p)) l
 names:∀ j,ae6 x.names j=numsOf (fun p=>decide (p.name=j)) l
 over:∀ j,ae6 x.over j=numsOf (fun p=>decide (∃ d∈p.ab2,d.name=j)) l
theorem hj8.add {x:Index}{l:List aa2}(h:hj8 x l)(p:aa2):hj8 (gu5 x l.length p) (l++[p]) where
 all:=by show x.all++[p]=_; rw[h.all]
 kp:=do1 h.kp
 kn:=bj9 h.kn
 ko:=ey1 _ h.ko
 bd4:=fun j=>by
  show ae6 (cy2 x.bd4 (io3 p) _) j=_;rw[dx6 _ h.kp (gj1 p),h.bd4,aw7];simp
 names:=fun j=>by
  show ae6 (at5 x.names p.name _) j=_;rw[ba4 h.kn,h.names,h.names,aw7];by_cases e:j=p.name
  ·subst e; simp
  ·have e':¬ p.name=j:=fun h=>e h.symm
   simp[e,e']
 over:=fun j=>by
  show ae6 (bn5 x.over _ _) j=_;rw[do3 _ h.ko,h.over,aw7]
  have hn:(l.length:Int) ∉ numsOf (fun p=>decide (∃ d∈p.ab2,d.name=j)) l:=fun hm=>by
   obtain ⟨m,e,h1,_⟩:=bz9.1 hm;omega
  simp[hn]
end Go.Id.Md
set_option linter.all false
namespace Go.Id.Md
open Go Go.Id
mutual
def aa9.ok:aa9->Prop
 | .mk k d xs=>0<=k/\k<256/\d.fit/\xs.length<2^62/\aa9.oks xs
def aa9.oks:List aa9->Prop
 | []=>True
 | r::rs=>r.ok/\aa9.oks rs
end
theorem aa9.hj9 (l:List aa9):aa9.oks l↔∀ r∈l,r.ok:=by
 induction l with
 | nil=>simp[aa9.oks]
 | cons r rs ih=>simp[aa9.oks,ih]
theorem aa9.fq6 {k:Int}{d:Dep}{xs:List aa9}:(aa9.mk k d xs).ok↔0<=k/\k<256/\d.fit/\xs.length<2^62/\∀ r∈xs,r.ok:=by
 simp only[aa9.ok,aa9.hj9]
structure aa2.Ok (p:aa2):Prop where
 name:p.name.length<2^62
 vendor:p.vendor.length<2^62
 evr:p.evr.fit
 bd4:p.provides.length<2^62/\∀ d∈p.provides,d.fit
 obs:p.ab2.length<2^62/\∀ d∈p.ab2,d.fit
 files:p.files.length<2^62/\∀ s∈p.files,s.length<2^62
 ay5:∀ x∈p.rows,x.2.length<2^62/\∀ r∈x.2,r.ok
def ak1.Ok (r:ak1):Prop:=r.packages.length<2^62/\∀ p∈r.packages,p.Ok
def big (d:Dep):Bool:=decide (500<d.name.length+d.evr.ver.length)||decide (500<d.evr.rel.length)
mutual
def bq9:aa9->Nat->Nat×Bool
 | .mk _ _ xs,deep=>if 20<deep\/100<xs.length then (0,true) else cc5 xs deep 0
def cc5:List aa9->Nat->Nat->Nat×Bool
 | [],_,n=>(n,false)
 | r::rs,deep,n=>if big r.dep=true then (0,true) else
  if (bq9 r (deep+1)).2=true\/2000<n+1+(bq9 r (deep+1)).1 then (0,true) else cc5 rs deep (n+1+(bq9 r (deep+1)).1)
end
def cc6 (l:List aa9)(deep:Nat):Nat×Bool:=if 20<deep\/100<l.length then (0,true) else cc5 l deep 0
theorem cy4 (r:aa9)(deep:Nat):bq9 r deep=cc6 r.args deep:=by
 cases r; simp only[bq9,cc6,aa9.args]; rfl
def br1:List (List aa9)->Nat->Bool
 | [],_=>false
 | l::ls,n=>if (cc6 l 0).2=true\/2000<n+(cc6 l 0).1 then true else br1 ls (n+(cc6 l 0).1)
def bf3 (p:aa2):List (List aa9):=[p.requires,p.conflicts,p.ab7,p.ab3,p.suggests,p.ac3]
def ao8 (p:aa2):Bool :=
 decide (100<p.provides.length)||(decide (100<p.ab2.length)||(decide (100<p.files.length)||(decide (1000<p.name.length)||(decide (1000<p.vendor.length)||(decide (1000<p.evr.ver.length)||(decide (1000<p.evr.rel.length)||br1 (bf3 p) 0))))))
def de3:List ak1->Nat->Bool
 | [],_=>false
 | r::rs,n=>if 80<n+r.packages.length then true else if r.packages.any ao8=true then true else de3 rs (n+r.packages.length)
def ey3 (repos:List ak1)(inst:List aa2):Bool :=
 decide (30<repos.length)||(decide (40<inst.length)||(inst.any ao8||de3 repos inst.length))
theorem gj2:∀ (l:List aa9) (deep n:Nat),n<=2000->(cc5 l deep n).1<=2000:=by
 intro l
 induction l with
 | nil=>intro deep n h; simpa [cc5] using h
 | cons r rs ih=>
  intro deep n h;simp only[cc5];split
  ·omega
  split
  ·omega
  ·exact ih _ _ (by omega)
theorem ee7 (l:List aa9)(deep:Nat):(cc6 l deep).1<=2000:=by
 unfold cc6;split
 ·omega
 ·exact gj2 _ _ _ (by omega)
theorem br2:∀ (l:List aa9),(∀ r∈l,r.same r=true)->aa9.bk7 l l=true:=by
 intro l
 induction l with
 | nil=>intro _; rfl
 | cons x xs ih=>intro h; simp only[aa9.bk7]; rw[h x (List.mem_cons_self ..),ih fun r hr=>h r (List.mem_cons_of_mem _ hr)]; rfl
theorem fq7 (r:aa9):r.same r=true:=by
 induction r using aa9.ind with
 | h k d xs ih=>simp only[aa9.same,decide_true,Bool.true_and]; exact br2 xs ih
theorem ey4 (l:List aa9):ar2 l l=true:=br2 l fun r _=>fq7 r
theorem cb1 (p:aa2):am2 p p=true:=by
 simp only[am2,ey4,decide_true,Bool.and_true]
def aw8:Nat->List ak1->List aq1
 | _,[]=>[]
 | i,r::rs=>rowsOf r.packages i r.priority++aw8 (i+1) rs
theorem cn6:∀ (rs:List ak1) (i:Nat) (st:List aq1×Nms) (out:List aq1×Nms),ad7 i rs st=some out->out.1=st.1++aw8 i rs:=by
 intro rs
 induction rs with
 | nil=>intro i st out h; simp only[ad7,Option.some.injEq] at h; subst h; simp[aw8]
 | cons r rs ih=>
  intro i st out h;simp only[ad7] at h;split at h
  ·cases h
  ·rw[ih _ _ _ h]; simp[aw8]
theorem gj3 {repos:List ak1}{inst:List aa2}{p:Pool}(h:bq8 repos inst=.inl p):p.rows=rowsOf inst (-1) 1025++aw8 0 repos/\p.inst=inst.length:=by
 unfold bq8 at h;split at h
 ·cases h
 split at h
 ·cases h
 split at h
 ·rename_i rows nm hr;cases h;exact ⟨cn6 _ _ _ _ hr,rfl⟩
 ·cases h
theorem gj4 {repos:List ak1}{inst:List aa2}{e:Int}(h:bq8 repos inst=.inr e):e=40\/e=4:=by
 unfold bq8 at h;split at h
 ·cases h; exact .inl rfl
 split at h
 ·cases h; exact .inr rfl
 split at h
 ·cases h
 ·cases h; exact .inr rfl
end Go.Id.Md
/- Pools of packages that may be: sizes. Conditions: none; no program in sight. -/
namespace Go.Id.Md
open Go Go.Id
theorem de4:∀ (rs:List ak1) (i:Nat) (st:List aq1×Nms) (out:List aq1×Nms),ad7 i rs st=some out->∀ r∈rs,r.packages.all af3=true:=by
 intro rs
 induction rs with
 | nil=>intro i st out _ r hr; cases hr
 | cons x xs ih=>
  intro i st out h r hr;simp only[ad7] at h;split at h
  ·cases h
  ·rename_i hc;rcases List.mem_cons.1 hr with rfl|hr
   ·cases hb:r.packages.all af3 with
    | true=>rfl
    | false=>exact absurd (.inr (.inr hb)) hc
   ·exact ih _ _ _ h r hr
theorem cy5 {repos:List ak1}{inst:List aa2}{p:Pool}(h:bq8 repos inst=.inl p):repos.length<=16/\inst.length+aj1 repos<=256/\inst.all af3=true/\∀ r∈repos,r.packages.all af3=true:=by
 unfold bq8 at h;split at h
 ·cases h
 rename_i hc;split at h
 ·cases h
 rename_i hm;split at h
 ·rename_i rows nm hr;exact ⟨by omega,by omega,by simpa using hm,de4 _ _ _ _ hr⟩
 ·cases h
theorem cy6 (l:List aa2)(a b:Int):(rowsOf l a b).map (·.pkg)=l:=by
 induction l with
 | nil=>rfl
 | cons x xs ih=>show x::(rowsOf xs a b).map (·.pkg)=_; rw[ih]
def ac1 (p:Pool):List aa2:=p.rows.map (·.pkg)
theorem de5:∀ (rs:List ak1) (i:Nat),(aw8 i rs).map (·.pkg)=rs.flatMap (·.packages):=by
 intro rs
 induction rs with
 | nil=>intro i; rfl
 | cons r rs ih=>intro i; simp only[aw8,List.map_append,ih,cy6,List.flatMap_cons]
theorem fq8:∀ (rs:List ak1),(rs.flatMap (·.packages)).length=aj1 rs:=by
 intro rs
 induction rs with
 | nil=>rfl
 | cons r rs ih=>simp only[List.flatMap_cons,List.length_append,ih]; rfl
theorem do4 {repos:List ak1}{inst:List aa2}{p:Pool}(h:bq8 repos inst=.inl p):ac1 p=inst++repos.flatMap (·.packages):=by
 unfold ac1;rw[(gj3 h).1,List.map_append,de5];congr 1;exact cy6 _ _ _
theorem gj5 {repos:List ak1}{inst:List aa2}{p:Pool}(h:bq8 repos inst=.inl p):p.rows.length<=256:=by
 have e:p.rows.length=(ac1 p).length:=by simp[ac1]
 rw[e,do4 h,List.length_append,fq8];exact (cy5 h).2.1
theorem gj6 {repos:List ak1}{inst:List aa2}{p:Pool}(h:bq8 repos inst=.inl p):∀ x∈ac1 p,af3 x=true/\(x∈inst\/∃ r∈repos,x∈r.packages):=by
 intro x hx;rw[do4 h] at hx;obtain ⟨_,_,h1,h2⟩:=cy5 h;rcases List.mem_append.1 hx with hx|hx
 ·exact ⟨List.all_eq_true.1 h1 x hx,.inl hx⟩
 ·obtain ⟨r,hr,hxr⟩:=List.mem_flatMap.1 hx;exact ⟨List.all_eq_true.1 (h2 r hr) x hxr,.inr ⟨r,hr,hxr⟩⟩
def EVR.tiny (e:EVR):Prop:=e.ver.length<=64/\e.rel.length<=64
theorem ee8 {s:Str}(h:as7 s=true):s.length<=64:=by
 unfold as7 at h;simp only[Bool.and_eq_true,decide_eq_true_eq] at h;exact h.1.2
theorem ee9 {e:EVR}{b:Bool}(h:ay3 e b=true):e.tiny:=by
 unfold ay3 at h;simp only[Bool.and_eq_true,Bool.or_eq_true,decide_eq_true_eq] at h;refine ⟨ee8 h.1.2,?_⟩;rcases h.2 with h|h
 ·exact ee8 h
 ·have:=List.isEmpty_iff.1 h.2; rw[this]; exact Nat.zero_le _
theorem ef1 {d:Dep}(h:ah7 d=true):0<=d.op/\d.op<256/\d.evr.tiny/\d.name.length<=64:=by
 unfold ah7 at h;simp only[Bool.and_eq_true] at h;obtain ⟨⟨h1,h2⟩,h3⟩:=h
 have hn:d.name.length<=64:=by
  unfold am8 at h1;simp only[Bool.and_eq_true,decide_eq_true_eq] at h1;exact h1.1.1.2
 have ho:0<=d.op/\d.op<256:=by
  unfold de1 at h2;simp only[List.contains_iff_mem,List.mem_cons,List.not_mem_nil,or_false] at h2;omega
 refine ⟨ho.1,ho.2,?_,hn⟩;split at h3
 ·have:d.evr=fq3:=by simpa using h3
  rw[this]; exact ⟨by decide,by decide⟩
 ·simp only[Bool.and_eq_true] at h3;exact ee9 h3.2
structure aa2.Tiny (p:aa2):Prop where
 name:p.name.length<=64
 evr:p.evr.tiny
 bd4:p.provides.length<=32/\∀ d∈p.provides,0<=d.op/\d.op<256/\d.evr.tiny/\d.name.length<=64
 obs:p.ab2.length<=32/\∀ d∈p.ab2,0<=d.op/\d.op<256/\d.evr.tiny/\d.name.length<=64
 files:p.files.length<=32
theorem ef2 {p:aa2}(h:af3 p=true):p.Tiny:=by
 unfold af3 at h;simp only[Bool.and_eq_true,decide_eq_true_eq] at h;obtain ⟨⟨⟨⟨⟨⟨⟨⟨⟨⟨⟨⟨⟨⟨h1,_⟩,h3⟩,_⟩,_⟩,h6,h6'⟩,h7,h7'⟩,h8,_⟩,_⟩,_⟩,_⟩,_⟩,_⟩,_⟩,_⟩:=h;refine ⟨?_,ee9 h3,⟨h6,fun d hd=>ef1 (List.all_eq_true.1 h6' d hd)⟩,⟨h7,fun d hd=>ef1 (List.all_eq_true.1 h7' d hd)⟩,h8⟩;unfold am8 at h1;simp only[Bool.and_eq_true,decide_eq_true_eq] at h1;exact h1.1.1.2
end Go.Id.Md
set_option linter.all false
namespace Go.Id.Md
open Go Go.Id
structure Job where
 kind:Int
 dep:Dep
 deriving DecidableEq,Inhabited
structure hu4 where
 kind:Int
 n:Int
 deriving DecidableEq,Inhabited
structure Req where
 de2:Int
 vendor:Bool
 io4:List Job
 ey9:List hu4
 budget:Int
def Job.cs (j:Job):List IV:=[.int .u8 j.kind,.str j.dep.name,.int .u8 j.dep.op,.int .i64 j.dep.evr.ai4,.str j.dep.evr.ver,.str j.dep.evr.rel]
def hu4.cs (e:hu4):List IV:=[.int .u8 e.kind,.int .i64 e.n]
abbrev ij4 (l:List Job):IV:=.aa3 (l.map Job.cs)
abbrev gu6 (l:List hu4):IV:=.aa3 (l.map hu4.cs)
def Req.cs (r:Req):List IV:=[.int .u8 r.de2,.bool r.vendor,ij4 r.io4,gu6 r.ey9,.int .i64 r.budget]
def ij5 (m a:Int):Int :=
 if m=2 then (if a=1 then 2 else if a=2 then 1 else if a=3 then 3 else 0) else
 if m=3 then (if a=1 then 2 else if a=3 then 1 else 0) else
 if m=4 then (if a=1 then 2 else if a=4 then 1 else 0) else 0
def iw3 (m a:Int):Bool:=decide (0<ij5 m a)
structure gj7 where
 p:Pool
 r:Req
namespace gj7
variable (a:gj7)
def l:List aa2:=ac1 a.p
def pk (n:Int):aa2:=a.l.getD n.toNat default
def is (n:Int):Bool:=decide (0<=n)&&decide (n<a.l.length)
def inst (n:Int):Bool:=a.is n&&decide (n<a.p.inst)
def fits (n:Int):Bool:=a.is n&&iw3 a.r.de2 (a.pk n).de2
def some (state l:List Int):Bool:=l.any fun n=>decide (n∈state)
def cs:List IV:=[a.p.v,(jh3 a.l).v,.int .u8 a.r.de2,.bool a.r.vendor,ij4 a.r.io4,gu6 a.r.ey9,.int .i64 a.r.budget,.aa3 (a.l.map aa2.cs)]
def v:IV:=.ad4 a.cs
end gj7
theorem ef4 (a b:Int):ap9 b a=- ap9 a b:=by
 unfold ap9; split<;>split<;>(try split)<;>(try split)<;>omega
theorem aw9 {a b:Int}:ap9 a b=0↔a=b:=by
 unfold ap9;split
 ·constructor
  ·intro h; omega
  ·intro h; omega
 ·split
  ·simp_all
  ·constructor
   ·intro h; omega
   ·intro h; contradiction
theorem ef5:∀ (x y:List UInt8),Op.bytesLess x y=decide (x<y)
 | [],[]=>by simp[Op.bytesLess]
 | _::_,[]=>by simp[Op.bytesLess]
 | [],_::_=>by simp[Op.bytesLess]
 | a::x,b::y=>by
  simp only[Op.bytesLess,ef5 x y,List.cons_lt_cons_iff];by_cases h:a<b
  ·simp[h]
  ·by_cases h2:a=b
   ·subst h2; simp
   ·simp[h,h2]
theorem iw4 (a b:Str):Op.bytesLess a b=true/\Op.bytesLess b a=false/\a≠b\/a=b/\Op.bytesLess a b=false\/Op.bytesLess b a=true/\Op.bytesLess a b=false/\a≠b:=by
 simp only[ef5,decide_eq_true_eq,decide_eq_false_iff_not];rcases Decidable.em (a<b) with h|h
 ·exact .inl ⟨h,fun h2=>List.lt_asymm h h2,fun e=>List.lt_irrefl a (by rw[<- e] at h; exact h)⟩
 ·rcases Decidable.em (b<a) with h2|h2
  ·exact .inr (.inr ⟨h2,h,fun e=>List.lt_irrefl a (by rw[<- e] at h2; exact h2)⟩)
  ·exact .inr (.inl ⟨List.le_antisymm (List.not_lt.1 h2) (List.not_lt.1 h),h⟩)
theorem gj8 (a b:Str):ce7 b a=- ce7 a b:=by
 unfold ce7;rcases iw4 a b with ⟨h1,h2,h3⟩|⟨rfl,h⟩|⟨h1,h2,h3⟩
 ·rw[h1,h2,if_neg (by simp),if_neg (fun e=>h3 e.symm),if_pos rfl]; rfl
 ·rw[h]; simp
 ·rw[h1,h2,if_pos rfl,if_neg (by simp),if_neg h3]
theorem dx7 (a b:Part):ag3 b a=- ag3 a b:=by
 unfold ag3;simp only[ef4 (a.kind:Int) b.kind,ef4 (a.s.length:Int) b.s.length,gj8 a.s b.s];have e:(b.kind=5/\a.kind=5)↔(a.kind=5/\b.kind=5):=And.comm;by_cases h1:ap9 (a.kind:Int) b.kind=0
 ·simp only[h1,Int.neg_zero,ne_eq,not_true_eq_false,if_false,e];by_cases h2:a.kind=5/\b.kind=5
  ·simp only[h2,and_self,if_true];by_cases h3:ap9 (a.s.length:Int) b.s.length=0
   ·simp[h3]
   ·have h4:¬ - ap9 (a.s.length:Int) b.s.length=0:=by omega
    simp[h3,h4]
  ·simp[h2]
 ·have h2:¬ - ap9 (a.kind:Int) b.kind=0:=by omega
  simp[h1,h2]
namespace gj7
variable (a:gj7)
end gj7
end Go.Id.Md
set_option linter.all false
namespace Go.Id.Md
open Go Go.Id
def gi9 (wh:Int)(k:Int)(d:Dep)(n:Nat)(alone:Bool):Bool :=
 if k=1 then decide (n=0)&&ah7 d else
 (if k=2\/k=3\/k=6 then decide (2<=n) else if k=7 then decide (n=2) else
  if k=4 then (decide (n=2)||decide (n=3))&&!alone&&decide (wh=1) else
  if k=5 then (decide (n=2)||decide (n=3))&&!alone&&decide (wh<=2) else false)&&decide (d=cj5)
mutual
def aa9.cc4 (wh:Int):aa9->Bool->Bool
 | .mk k d aZ,alone=>gi9 wh k d aZ.length alone&&(aa9.cx8 wh aZ (alone||decide (k=6)||decide (k=7)))
def aa9.cx8 (wh:Int):List aa9->Bool->Bool
 | [],_=>true
 | r::rs,alone=>r.cc4 wh alone&&aa9.cx8 wh rs alone
end
theorem aa9.ex6 (wh:Int)(l:List aa9)(alone:Bool):aa9.cx8 wh l alone=l.all fun r=>r.cc4 wh alone:=by
 induction l with
 | nil=>rfl
 | cons r l ih=>simp only[aa9.cx8,List.all_cons,ih]
theorem hj7 {wh:Int}(h1:1<=wh)(h3:wh<=3)(k:Int)(d:Dep)(aZ:List aa9)(alone:Bool)(hn:aZ.length<=24):gi9 wh k d aZ.length alone=ag7 wh (.mk k d aZ) alone:=by
 unfold gi9 ag7 asks;simp only[aa9.kind,aa9.args,aa9.dep];rw[Bool.eq_iff_iff];by_cases e1:k=1
 ·subst e1;simp only[if_true];have:¬ (3:Int)<wh:=by omega
  cases ah7 d<;>cases alone<;>simp[this]<;>omega
 by_cases e2:k=2
 ·subst e2;have:¬ (3:Int)<wh:=by omega
  by_cases hd:d=cj5<;>cases alone<;>simp[this,hd]<;>omega
 by_cases e3:k=3
 ·subst e3;have:¬ (3:Int)<wh:=by omega
  by_cases hd:d=cj5<;>cases alone<;>simp[this,hd]<;>omega
 by_cases e4:k=4
 ·subst e4;by_cases hd:d=cj5<;>cases alone<;>by_cases hw:(1:Int)<wh<;>simp[hd,hw]<;>omega
 by_cases e5:k=5
 ·subst e5;by_cases hd:d=cj5<;>cases alone<;>by_cases hw:(2:Int)<wh<;>simp[hd,hw]<;>omega
 by_cases e6:k=6
 ·subst e6;have:¬ (3:Int)<wh:=by omega
  by_cases hd:d=cj5<;>cases alone<;>simp[this,hd]<;>omega
 by_cases e7:k=7
 ·subst e7;have:¬ (3:Int)<wh:=by omega
  by_cases hd:d=cj5<;>cases alone<;>simp[this,hd]<;>omega
 have:(0:Int)<wh:=by omega
 simp[e1,e2,e3,e4,e5,e6,e7,this]
theorem aa9.cx9 {l:List aa9}{r:aa9}(h:r∈l):r.count<=aa9.counts l:=by
 induction l with
 | nil=>cases h
 | cons x l ih=>
  simp only[aa9.counts];rcases List.mem_cons.1 h with rfl|h
  ·omega
  ·have:=ih h; omega
theorem aa9.fq5 (r:aa9):1<=r.count:=by cases r; simp only[aa9.count]; omega
theorem aa9.ex8 (l:List aa9):l.length<=aa9.counts l:=by
 induction l with
 | nil=>exact Nat.le_refl _
 | cons x l ih=>simp only[aa9.counts,List.length_cons]; have:=x.fq5; omega
theorem aa9.ex9 {wh:Int}(h1:1<=wh)(h3:wh<=3)(r:aa9):r.count<=24->∀ alone,r.cc4 wh alone=(r.parts alone).all fun p=>ag7 wh p.1 p.2:=by
 refine aa9.ind (p:=fun r=>r.count<=24->∀ alone,r.cc4 wh alone=(r.parts alone).all fun p=>ag7 wh p.1 p.2) (fun k d aZ ih hc alone=>?_) r;simp only[aa9.count] at hc;simp only[aa9.cc4,aa9.parts,List.all_cons];have:=aa9.ex8 aZ;rw[hj7 h1 h3 k d aZ alone (by omega)];congr 1;generalize (alone||decide (k=6)||decide (k=7))=al
 have:∀ l:List aa9,(∀ x∈l,x∈aZ)->aa9.cx8 wh l al=(aa9.ba3 l al).all fun p=>ag7 wh p.1 p.2:=by
  intro l
  induction l with
  | nil=>intro _; rfl
  | cons x l ih2=>
   intro h;have hx:=h x List.mem_cons_self;simp only[aa9.cx8,aa9.ba3,List.all_append];rw[ih x hx (by have:=aa9.cx9 hx; omega),ih2 fun y hy=>h y (List.mem_cons_of_mem _ hy)]
 exact this aZ fun _ h=>h
theorem dx5 (r:aa9)(wh:Int):am9 r wh=if wh<1\/3<wh then 1 else if r.count>24 then 40 else if r.depth>8 then 21 else if r.cc4 wh false=false then 4 else 0:=by
 unfold am9;by_cases h1:wh<1\/3<wh
 ·rw[if_pos h1,if_pos h1]
 rw[if_neg h1,if_neg h1];by_cases h2:r.count>24
 ·rw[if_pos h2,if_pos h2]
 rw[if_neg h2,if_neg h2];by_cases h3:r.depth>8
 ·rw[if_pos h3,if_pos h3]
 rw[if_neg h3,if_neg h3,aa9.ex9 (by omega) (by omega) r (by omega)];cases h:(r.parts false).all fun p=>ag7 wh p.1 p.2<;>simp
end Go.Id.Md
set_option linter.all false
namespace Go.Id.Md
open Go Go.Id
structure ey6 (nm:Nms) (l:List aa2):Prop where
 kn:KN nm
 look:∀ k,ae6 nm k=numsOf (fun p=>decide (p.name=k)) l
 ne:∀ k∈nm.map (·.1),ae6 nm k≠[]
 len:nm.length<=l.length
theorem fr4 (nm:Nms)(k:Str)(n:Int):(at5 nm k n).length<=nm.length+1:=by
 induction nm with
 | nil=>simp[at5]
 | cons t ts ih=>
  simp only[at5];split
  ·simp
  ·simp only[List.length_cons]; omega
theorem ey8 (nm:Nms)(k:Str)(h:ae6 nm k≠[]):k∈nm.map (·.1):=by
 induction nm with
 | nil=>exact absurd rfl h
 | cons t ts ih=>
  simp only[ae6] at h;by_cases e:k=t.1
  ·rw[List.map_cons,e]; exact List.mem_cons_self ..
  ·rw[if_neg e] at h;exact List.mem_cons_of_mem _ (ih h)
theorem ey6.add {nm:Nms}{l:List aa2}(h:ey6 nm l)(p:aa2):ey6 (at5 nm p.name (l.length:Nat)) (l++[p]) where
 kn:=bj9 h.kn
 look:=fun k=>by
  rw[ba4 h.kn,aw7];by_cases e:k=p.name
  ·rw[if_pos e,h.look,e]; simp
  ·have e':¬ p.name=k:=fun h=>e h.symm
   rw[if_neg e,h.look]; simp[e']
 ne:=fun k hk=>by
  rw[ba4 h.kn];by_cases e:k=p.name
  ·rw[if_pos e]; simp
  ·rw[if_neg e];rcases cy1 k hk with e2|e2
   ·exact absurd e2 e
   ·exact h.ne k e2
 len:=by
  have h1:=fr4 nm p.name (l.length:Nat);have h2:=h.len;rw[List.length_append,List.length_singleton]; omega
theorem ey6.all:∀ (ps:List aa2) {nm:Nms} {l:List aa2},ey6 nm l->ey6 (bn4 nm l.length ps) (l++ps):=by
 intro ps
 induction ps with
 | nil=>intro nm l h; simpa [bn4] using h
 | cons p ps ih=>
  intro nm l h;have:=ih (h.add p);rw[List.length_append,List.length_singleton,List.append_assoc] at this;exact this
theorem cj8 (l:List aa2)(a b:Int):(rowsOf l a b).map (·.pkg)=l:=by
 unfold rowsOf; rw[List.map_map]; exact (List.map_congr_left fun _ _=>rfl).trans (List.map_id l)
theorem do6:∀ (rs:List ak1) (i:Nat) (rows rows':List aq1) (nm nm':Nms),ey6 nm (rows.map (·.pkg))->ad7 i rs (rows,nm)=some (rows',nm')->ey6 nm' (rows'.map (·.pkg)):=by
 intro rs
 induction rs with
 | nil=>intro i rows rows' nm nm' h e; simp only[ad7,Option.some.injEq,Prod.mk.injEq] at e; obtain ⟨rfl,rfl⟩:=e; exact h
 | cons r rs ih=>
  intro i rows rows' nm nm' h e;simp only[ad7] at e;split at e
  ·cases e
  ·refine ih _ _ _ _ _ ?_ e;have:=ey6.all r.packages h;rw[List.map_append,cj8]
   simpa using this
theorem hk7 {repos:List ak1}{inst:List aa2}{p:Pool}(h:bq8 repos inst=.inl p):ey6 p.nm (p.rows.map (·.pkg)):=by
 unfold bq8 at h;split at h
 ·cases h
 split at h
 ·cases h
 split at h
 ·rename_i rows nm hr;cases h;refine do6 repos 0 _ _ _ _ ?_ hr;rw[cj8];have h0:ey6 [] []:=⟨List.nodup_nil,fun k=>rfl,fun k hk=>(by cases hk),Nat.le_refl _⟩;exact ey6.all inst h0
 ·cases h
end Go.Id.Md
set_option linter.all false
namespace Go.Id.Md
open Go Go.Id
def do5:List Str->Str->List Str
 | [],k=>[k]
 | x::xs,k=>if x<k then x::do5 xs k else if x=k then x::xs else k::x::xs
def ak6 (l:List aa2):List Str:=l.foldl (fun o q=>do5 o q.name) []
theorem cj7 (l:List aa2)(q:aa2):ak6 (l++[q])=do5 (ak6 l) q.name:=by
 unfold ak6; rw[List.foldl_append]; rfl
theorem ef3 {x k:Str}:∀ {l:List Str},x∈do5 l k↔x=k\/x∈l:=by
 intro l
 induction l with
 | nil=>simp[do5]
 | cons y ys ih=>
  simp only[do5];by_cases h:y<k
  ·rw[if_pos h,List.mem_cons,ih,List.mem_cons];constructor
   ·rintro (h|h|h)
    ·exact .inr (.inl h)
    ·exact .inl h
    ·exact .inr (.inr h)
   ·rintro (h|h|h)
    ·exact .inr (.inl h)
    ·exact .inl h
    ·exact .inr (.inr h)
  ·rw[if_neg h];by_cases e:y=k
   ·rw[if_pos e,List.mem_cons];constructor
    ·exact .inr
    ·rintro (h|h)
     ·exact .inl (h.trans e.symm)
     ·exact h
   ·rw[if_neg e,List.mem_cons]
theorem ij3 {x k:Str}(h:¬ x<k)(e:¬ x=k):k<x:=by
 rcases Decidable.em (k<x) with h2|h2
 ·exact h2
 ·exact absurd (List.le_antisymm (List.not_lt.1 h2) (List.not_lt.1 h)) e
theorem hk6 {k:Str}:∀ {l:List Str},l.Pairwise (· < ·)->(do5 l k).Pairwise (· < ·):=by
 intro l
 induction l with
 | nil=>intro _; simp[do5]
 | cons y ys ih=>
  intro h;obtain ⟨h1,h2⟩:=List.pairwise_cons.1 h;simp only[do5];by_cases c:y<k
  ·rw[if_pos c];refine List.pairwise_cons.2 ⟨fun z hz=>?_,ih h2⟩;rcases ef3.1 hz with rfl|hz
   ·exact c
   ·exact h1 z hz
  ·rw[if_neg c];by_cases e:y=k
   ·rw[if_pos e]; exact h
   ·rw[if_neg e];have hk:=ij3 c e;refine List.pairwise_cons.2 ⟨fun z hz=>?_,h⟩;rcases List.mem_cons.1 hz with rfl|hz
    ·exact hk
    ·exact List.lt_trans hk (h1 z hz)
theorem fq9 {k:Str}:∀ {l:List Str} {n:Nat},n<=l.length->(∀ j (h:j<l.length),j<n->l[j]<k)->(∀ h:n<l.length,¬ l[n]<k) ->
  do5 l k=if l[n]? = some k then l else l.take n++[k]++l.drop n:=by
 intro l
 induction l with
 | nil => intro n h _ _; have:n=0:=by simpa using h
          subst this; rfl
 | cons y ys ih=>
  intro n h h1 h2
  cases n with
  | zero=>
   have h3:=h2 (Nat.zero_lt_succ _);have h4:¬ y<k:=h3
   simp only[do5,if_neg h4,List.getElem?_cons_zero,Option.some.injEq,List.take_zero,List.drop_zero,List.nil_append,List.singleton_append]
  | succ n=>
   have h3:=h1 0 (Nat.zero_lt_succ _) (Nat.zero_lt_succ _);have h4:y<k:=h3;have h5:=ih (n:=n) (Nat.le_of_succ_le_succ h) (fun j hj hn=>h1 (j+1) (Nat.succ_lt_succ hj) (Nat.succ_lt_succ hn)) (fun hn=>h2 (Nat.succ_lt_succ hn));simp only[do5,if_pos h4,h5,List.getElem?_cons_succ,List.take_succ_cons,List.drop_succ_cons,List.cons_append];split<;>rfl
theorem fr3:∀ {l m:List Str},l.Pairwise (· < ·)->m.Pairwise (· < ·)->(∀ x,x∈l↔x∈m)->l=m:=by
 intro l
 induction l with
 | nil=>intro m _ _ h; exact (List.eq_nil_iff_forall_not_mem.2 fun x hx=>by have:=(h x).2 hx; cases this).symm
 | cons a l ih=>
  intro m h1 h2 h
  cases m with
  | nil=>have:=(h a).1 (List.mem_cons_self ..); cases this
  | cons b m=>
   obtain ⟨a1,a2⟩:=List.pairwise_cons.1 h1;obtain ⟨b1,b2⟩:=List.pairwise_cons.1 h2
   have e:a=b:=by
    rcases List.mem_cons.1 ((h a).1 (List.mem_cons_self ..)) with e|e
    ·exact e
    ·rcases List.mem_cons.1 ((h b).2 (List.mem_cons_self ..)) with e2|e2
     ·exact e2.symm
     ·exact absurd (List.lt_trans (a1 b e2) (b1 a e)) (List.lt_irrefl _)
   subst e;rw[ih a2 b2 fun x=>?_];constructor
   ·intro hx;rcases List.mem_cons.1 ((h x).1 (List.mem_cons_of_mem _ hx)) with rfl|h3
    ·exact absurd (a1 x hx) (List.lt_irrefl _)
    ·exact h3
   ·intro hx;rcases List.mem_cons.1 ((h x).2 (List.mem_cons_of_mem _ hx)) with rfl|h3
    ·exact absurd (b1 x hx) (List.lt_irrefl _)
    ·exact h3
theorem ey5:∀ (l o:List aa2),(ak6 (o++l)).Pairwise (· < ·)/\∀ x,x∈ak6 (o++l)↔∃ q∈o++l,q.name=x:=by
 have one:∀ o:List aa2,(ak6 o).Pairwise (· < ·)/\(∀ x,x∈ak6 o↔∃ q∈o,q.name=x)->∀ q,(ak6 (o++[q])).Pairwise (· < ·)/\∀ x,x∈ak6 (o++[q])↔∃ y∈o++[q],y.name=x:=fun o h q=>by
  rw[cj7];refine ⟨hk6 h.1,fun x=>?_⟩;rw[ef3,h.2];constructor
  ·rintro (rfl|⟨y,hy,rfl⟩)
   ·exact ⟨q,by simp,rfl⟩
   ·exact ⟨y,List.mem_append_left _ hy,rfl⟩
  ·rintro ⟨y,hy,rfl⟩;rcases List.mem_append.1 hy with hy|hy
   ·exact .inr ⟨y,hy,rfl⟩
   ·rw[List.mem_singleton] at hy; exact .inl (by rw[hy])
 have all:∀ (l o:List aa2),(ak6 o).Pairwise (· < ·)/\(∀ x,x∈ak6 o↔∃ q∈o,q.name=x)->(ak6 (o++l)).Pairwise (· < ·)/\∀ x,x∈ak6 (o++l)↔∃ q∈o++l,q.name=x:=by
  intro l
  induction l with
  | nil=>intro o h; rw[List.append_nil]; exact h
  | cons q l ih=>intro o h; have:=ih (o++[q]) (one o h q); rw[List.append_assoc] at this; exact this
 have zero:(ak6 []).Pairwise (· < ·)/\(∀ x,x∈ak6 []↔∃ q∈([]:List aa2),q.name=x):=⟨List.Pairwise.nil,fun x=>by simp[ak6]⟩;intro l o;have:=all (o++l) [] zero;exact this
theorem cy7 (l:List aa2):(ak6 l).length<=l.length:=by
 have h:∀ (l:List Str) (k:Str),(do5 l k).length<=l.length+1:=by
  intro l k
  induction l with
  | nil=>simp[do5]
  | cons x xs ih=>
   simp only[do5];split
   ·simp only[List.length_cons]; omega
   ·split<;>simp
 have g:∀ (l:List aa2) (o:List Str),(l.foldl (fun o q=>do5 o q.name) o).length<=o.length+l.length:=by
  intro l
  induction l with
  | nil=>intro o; simp
  | cons q l ih=>
   intro o;have h1:=ih (do5 o q.name);have h2:=h o q.name;simp only[List.foldl_cons,List.length_cons]; omega
 have:=g l []
 simpa [ak6] using this
end Go.Id.Md
set_option linter.all false
namespace Go.Id.Md
open Go Go.Id
structure WO {α:Type} (S:α->Prop) (f:α->α->Int):Prop where
 neg:∀ a b,f b a=- f a b
 tr:∀ a b c,S a->S b->S c->f a b<=0->f b c<=0->f a c<=0
def lex (x y:Int):Int:=if x=0 then y else x
theorem hk8 (x y:Int):lex (-x) (-y)=- lex x y:=by unfold lex; split<;>split<;>omega
theorem WO.lex {α:Type}{S:α->Prop}{f g:α->α->Int}(hf:WO S f)(hg:WO S g):WO S fun a b=>Md.lex (f a b) (g a b) where
 neg:=fun a b=>by show Md.lex (f b a) (g b a)=_; rw[hf.neg,hg.neg,hk8]
 tr:=fun a b c sa sb sc h1 h2=>by
  have k1:=hf.tr a b c sa sb sc;have k2:=hf.tr c a b sc sa sb;have k3:=hf.tr b c a sb sc sa;have k4:=hg.tr a b c sa sb sc;have n1:=hf.neg a b;have n2:=hf.neg b c;have n3:=hf.neg a c;unfold Md.lex at *;split at h1<;>split at h2<;>split<;>omega
theorem WO.of {α β:Type}{S:β->Prop}{f:β->β->Int}(hf:WO S f)(g:α->β):WO (fun a=>S (g a)) fun a b=>f (g a) (g b) where
 neg:=fun a b=>hf.neg _ _
 tr:=fun a b c sa sb sc=>hf.tr _ _ _ sa sb sc
theorem WO.sub {α:Type}{S T:α->Prop}{f:α->α->Int}(hf:WO S f)(h:∀ a,T a->S a):WO T f:=⟨hf.neg,fun a b c sa sb sc=>hf.tr a b c (h a sa) (h b sb) (h c sc)⟩
def de6 (a b:Part):Int:=lex (ap9 a.kind b.kind) (lex (ap9 (if a.kind=5 then (a.s.length:Int) else 0) (if b.kind=5 then (b.s.length:Int) else 0)) (ce7 a.s b.s))
theorem ez1 (a b:Part):ag3 a b=de6 a b:=by
 unfold ag3 de6 lex;by_cases h:ap9 (a.kind:Int) b.kind=0
 ·have e:=aw9.1 h;have e':a.kind=b.kind:=by omega
  simp only[h,ne_eq,not_true_eq_false,if_false,if_true,e'];by_cases k5:b.kind=5
  ·simp only[k5,and_self,if_true]; split<;>simp_all
  ·have z:ap9 0 0=0:=by decide
   simp[k5,z]
 ·simp[h]
theorem fr5 {a b:Part}(h:ag3 a b=0):a.kind=b.kind:=by
 rw[ez1] at h;unfold de6 lex at h;split at h
 ·rename_i e; have:=aw9.1 e; omega
 ·contradiction
abbrev ef6:Part:=⟨2,[]⟩
theorem ef7 (b:UInt8):ac5 b≠2:=by
 unfold ac5
 repeat (first|split|omega)
theorem do7 (s:Str):∀ x∈ab6 s,x.kind≠2:=by
 unfold ab6
 have : ∀ n s,∀ x∈ao7 n s,x.kind≠2:=by
  intro n
  induction n with
  | zero=>intro s x hx; cases hx
  | succ n ih=>
   intro s x hx
   cases s with
   | nil=>cases hx
   | cons b l=>
    simp only[ao7] at hx;split at hx
    ·exact ih _ x hx
    ·split at hx
     ·rcases List.mem_cons.1 hx with rfl|hx
      ·exact ef7 b
      ·exact ih _ x hx
     ·rcases List.mem_cons.1 hx with rfl|hx
      ·exact ef7 b
      ·exact ih _ x hx
 exact this _ s
end Go.Id.Md
set_option linter.all false
namespace Go.Id.Md
open Go Go.Id
theorem ce9 {p:UInt8->Bool}(l:Str):(l.dropWhile p).length<=l.length:=by
 induction l with
 | nil=>exact Nat.le_refl _
 | cons a l ih=>
  rw[List.dropWhile_cons];split
  ·exact Nat.le_trans ih (Nat.le_succ _)
  ·exact Nat.le_refl _
theorem dx8:∀ (n m:Nat) (l:Str),l.length<=n->l.length<=m->ao7 n l=ao7 m l:=by
 intro n
 induction n with
 | zero=>
  intro m l h1 _;have:l=[]:=List.length_eq_zero_iff.1 (Nat.le_zero.1 h1);subst this
  cases m<;>rfl
 | succ n ih=>
  intro m l h1 h2
  cases l with
  | nil=>cases m<;>rfl
  | cons b l=>
   cases m with
   | zero=>simp at h2
   | succ m=>
    simp only[List.length_cons] at h1 h2
    have hd:ac5 b=ac5 b->((b::l).dropWhile fun c=>ac5 c==ac5 b).length<=l.length:=fun _=>by
     rw[List.dropWhile_cons,if_pos (by simp)];exact ce9 l
    have hd:=hd rfl;simp only[ao7];rw[ih m l (by omega) (by omega),ih m _ (Nat.le_trans hd (by omega)) (Nat.le_trans hd (by omega))]
def fc8 (b:UInt8)(l:Str):Nat:=(l.takeWhile fun c=>ac5 c==ac5 b).length
theorem ez2:ab6 []=[]:=rfl
theorem ef8 {b:UInt8}{l:Str}(h:ac5 b=0):ab6 (b::l)=ab6 l:=by
 unfold ab6;simp only[List.length_cons,ao7,h,if_true]
theorem ef9 {b:UInt8}{l:Str}(h:ac5 b≠0)(h4:ac5 b<4):ab6 (b::l)=⟨ac5 b,[]⟩::ab6 l:=by
 unfold ab6;simp only[List.length_cons,ao7,h,h4,if_true,if_false]
theorem cf1 (p:UInt8->Bool)(l:Str):l.takeWhile p=l.take (l.takeWhile p).length/\l.dropWhile p=l.drop (l.takeWhile p).length:=by
 induction l with
 | nil=>exact ⟨rfl,rfl⟩
 | cons a l ih=>
  rw[List.takeWhile_cons,List.dropWhile_cons]
  cases h:p a with
  | true=>
   simp only[if_true,List.length_cons,List.take_succ_cons,List.drop_succ_cons]
   exact ⟨by rw[<- ih.1],ih.2⟩
  | false=>simp
theorem eg1 {b:UInt8}{l:Str}(h4:¬ ac5 b<4):ab6 (b::l)=⟨ac5 b,if ac5 b=5 then ((b::l).take (fc8 b l+1)).dropWhile (· == 48) else (b::l).take (fc8 b l+1)⟩::ab6 (l.drop (fc8 b l)):=by
 have h0:ac5 b≠0:=by omega
 unfold ab6;simp only[List.length_cons,ao7,h0,h4,if_false]
 have e1:(b::l).takeWhile (fun c=>ac5 c==ac5 b)=(b::l).take (fc8 b l+1):=by
  rw[List.takeWhile_cons,if_pos (by simp),List.take_succ_cons,(cf1 (fun c=>ac5 c==ac5 b) l).1];unfold fc8; rw[<- (cf1 (fun c=>ac5 c==ac5 b) l).1]
 have e2:(b::l).dropWhile (fun c=>ac5 c==ac5 b)=l.drop (fc8 b l):=by
  rw[List.dropWhile_cons,if_pos (by simp)];exact (cf1 (fun c=>ac5 c==ac5 b) l).2
 rw[e1,e2,dx8 l.length (l.drop (fc8 b l)).length _ (by rw[List.length_drop]; omega) (Nat.le_refl _)]
theorem ij6 {p:UInt8->Bool}:∀ (l:Str) (m:Nat),m<(l.takeWhile p).length->∃ c,l[m]? = some c/\p c=true:=by
 intro l
 induction l with
 | nil=>intro m h; simp at h
 | cons a l ih=>
  intro m h;rw[List.takeWhile_cons] at h
  cases hp:p a with
  | false=>rw[hp] at h; simp at h
  | true=>
   rw[hp] at h
   cases m with
   | zero=>exact ⟨a,rfl,hp⟩
   | succ m=>exact ih m (by simpa using h)
theorem ij7 {p:UInt8->Bool}:∀ (l:Str) (c:UInt8),l[(l.takeWhile p).length]? = some c->p c=false:=by
 intro l
 induction l with
 | nil=>intro c h; simp at h
 | cons a l ih=>
  intro c h;rw[List.takeWhile_cons] at h
  cases hp:p a with
  | false=>rw[hp] at h; simp at h; rw[<- h]; exact hp
  | true=>rw[hp] at h; exact ih c (by simpa using h)
theorem gu7 {b:UInt8}{l:Str}{m:Nat}(h:m<fc8 b l):∃ c,l[m]? = some c/\ac5 c=ac5 b:=by
 obtain ⟨c,h1,h2⟩:=ij6 l m h;exact ⟨c,h1,by simpa using h2⟩
theorem gu8 {b:UInt8}{l:Str}{c:UInt8}(h:l[fc8 b l]? = some c):ac5 c≠ac5 b:=by
 have:=ij7 l c h
 simpa using this
theorem gu9 (b:UInt8)(l:Str):fc8 b l<=l.length:=(List.takeWhile_sublist _).length_le
end Go.Id.Md
