/- The document's data,and what functions give,in plain words. Conditions: none; no program in sight. -/
import Derived.Test.YtcdomcibjgbalaaGreatDoorFwQ
open Bool renaming and_eq_true→za,or_eq_true→zx,eq_iff_iff→zy,and_comm→qd
open List renaming map_cons→zb,mem_cons→zc,length_append→zd,mem_range→ze,mem_flatMap→zf,mem_cons_of_mem→zg,nodup_cons→zh,nodup_append→zi,mem_append→zj,mem_cons_self→zk,range_succ→zl,nil_append→zm,range→zn,cons_append→zo,all_eq_true→zp,mem_map→zq,mem_filter→zr,map_append→zt,flatMap_append→zu,getD_eq_getElem?_getD→zv,flatMap_nil→zw,length_filter_le→zz,nodup_nil→z0,filter_append→z1,pairwise_map→z2,flatMap_cons→z3,filter_congr→z4,length_cons→z5,range_zero→z7,length_map→z8,find?_cons→z9,perm_ext_iff_of_nodup→qa,all_cons→qb,Pairwise→qc,not_lt→qg,mem_iff_getElem→qh
open Nat renaming le_refl→z6,le_trans→qf
open UInt8 renaming ofNat→qe
open Decidable renaming em→qi
set_option linter.all false
private theorem om{P:Prop}(h:P:=by omega):P:=h
namespace Go.Id.Md
open Go Go.Id
abbrev Str:=List UInt8
structure EVR where
 am4:Int
 ver:Str
 rel:Str
 deriving DecidableEq,Inhabited
structure Dep where
 name:Str
 op:Int
 evr:EVR
 deriving DecidableEq,Inhabited
inductive aa6 where
 | mk (kind:Int) (dep:Dep) (args:List aa6)
 deriving Inhabited
def aa6.kind:aa6->Int|.mk k _ _=>k
def aa6.dep:aa6->Dep|.mk _ d _=>d
def aa6.args:aa6->List aa6|.mk _ _ a=>a
structure aa2 where
 name:Str
 evr:EVR
 ap7:Int
 vendor:Str
 provides:List Dep
 requires:List aa6
 conflicts:List aa6
 aa7:List Dep
 ar4:List aa6
 ap5:List aa6
 suggests:List aa6
 bb4:List aa6
 files:List Str
 deriving Inhabited
structure ao2 where
 priority:Int
 packages:List aa2
 deriving Inhabited
def EVR.fit (e:EVR):Prop:=e.ver.length<2^62/\e.rel.length<2^62
def Dep.fit (d:Dep):Prop:=d.name.length<2^62/\d.evr.fit
theorem aa6.ind {p:aa6->Prop}(h:∀k d aZ,(∀a∈aZ,p a)->p (.mk k d aZ))(r:aa6):p r :=
 aa6.rec (motive_1:=p) (motive_2:=λl=>∀a∈l,p a) (λk d aZ ih=>h k d aZ ih) (λ_ h=>by cases h) (λr rs h1 h2 a ha=>by
  rcases zc.1 ha with rfl|h
  ·exact h1
  ·exact h2 a h) r
mutual
def aa6.fit:aa6->Prop
 | .mk k d aZ=>0<=k/\k<256/\d.fit/\aZ.length<2^31/\aa6.fits aZ
def aa6.fits:List aa6->Prop
 | []=>True
 | r::rs=>r.fit/\aa6.fits rs
end
theorem aa6.ie6 (l:List aa6):aa6.fits l↔∀r∈l,r.fit:=by
 induction l with
 | nil=>simp[aa6.fits]
 | cons r rs ih=>simp[aa6.fits,ih]
theorem aa6.ce3 {k:Int}{d:Dep}{aZ:List aa6}:(aa6.mk k d aZ).fit↔0<=k/\k<256/\d.fit/\aZ.length<2^31/\∀r∈aZ,r.fit:=by
 simp only[aa6.fit,aa6.ie6]
def EVR.cs (e:EVR):List IV:=[.int .i64 e.am4,.str e.ver,.str e.rel]
def Dep.cs (d:Dep):List IV:=[.str d.name,.int .u8 d.op,.int .i64 d.evr.am4,.str d.evr.ver,.str d.evr.rel]
mutual
def aa6.cs:aa6->List IV
 | .mk k d aZ=>[.int .u8 k,.str d.name,.int .u8 d.op,.int .i64 d.evr.am4,.str d.evr.ver,.str d.evr.rel,.aa3 (aa6.css aZ)]
def aa6.css:List aa6->List (List IV)
 | []=>[]
 | r::rs=>r.cs::aa6.css rs
end
theorem aa6.jc1 (l:List aa6):aa6.css l=l.map aa6.cs:=by
 induction l with
 | nil=>rfl
 | cons r rs ih=>simp only[aa6.css,ih,zb]
theorem aa6.ax5 (r:aa6):r.cs=[.int .u8 r.kind,.str r.dep.name,.int .u8 r.dep.op,.int .i64 r.dep.evr.am4,.str r.dep.evr.ver,.str r.dep.evr.rel,.aa3 (r.args.map aa6.cs)]:=by
 cases r with
 | mk k d aZ=>simp only[aa6.cs,aa6.jc1,aa6.kind,aa6.dep,aa6.args]
def bv8 (s:Str):List IV:=[.str s]
abbrev deps (l:List Dep):IV:=.aa3 (l.map Dep.cs)
abbrev ap8 (l:List aa6):IV:=.aa3 (l.map aa6.cs)
abbrev strs (l:List Str):IV:=.aa3 (l.map bv8)
def aa2.cs (p:aa2):List IV :=
 [.str p.name,.int .i64 p.evr.am4,.str p.evr.ver,.str p.evr.rel,.int .u8 p.ap7,.str p.vendor,deps p.provides,ap8 p.requires,ap8 p.conflicts,deps p.aa7,ap8 p.ar4,ap8 p.ap5,ap8 p.suggests,ap8 p.bb4,strs p.files]
def ao2.cs (r:ao2):List IV:=[.int .i64 r.priority,.aa3 (r.packages.map aa2.cs)]
def aa2.rows (p:aa2):List (Int×List aa6):=[(1,p.requires),(2,p.conflicts),(1,p.ar4),(3,p.ap5),(1,p.suggests),(3,p.bb4)]
def signs:Str:=[97,98,99,100,101,102,103,104,105,106,107,108,109,110,111,112,113,114,115,116,117,118,119,120,121,122,65,66,67,68,69,70,71,72,73,74,75,76,77,78,79,80,81,82,83,84,85,86,87,88,89,90,48,49,50,51,52,53,54,55,56,57,46,95,43,45,47,58,64,126,94]
def gs3 (b:UInt8):Bool:=(decide (97<=b.toNat)&&decide (b.toNat<=122))||(decide (65<=b.toNat)&&decide (b.toNat<=90))||(decide (48<=b.toNat)&&decide (b.toNat<=57))
def bf3 (b:UInt8):Bool:=signs.contains b
def words:List Str:=[[97,110,100],[111,114],[105,102],[101,108,115,101],[117,110,108,101,115,115],[119,105,116,104],[119,105,116,104,111,117,116]]
def as4 (s:Str):Bool:=decide (1<=s.length)&&decide (s.length<=64)&&s.all bf3&&!words.contains s
def bi7 (s:Str):Bool:=as4 s&&(s.head? == some 47)
def bo2 (b:UInt8):Bool:=gs3 b || [46,95,43,126,94].contains b
def az3 (s:Str):Bool:=decide (1<=s.length)&&decide (s.length<=64)&&s.all bo2
def bi8 (e:EVR)(dep:Bool):Bool:=decide (0<=e.am4)&&decide (e.am4<=2147483647)&&az3 e.ver&&(az3 e.rel||dep&&e.rel.isEmpty)
def eb1 (op:Int):Bool:=[0,1,2,3,4,6].contains op
def hp5:EVR:=⟨0,[],[]⟩
def di2:Dep:=⟨[],0,hp5⟩
def am2 (d:Dep):Bool:=as4 d.name&&eb1 d.op&&(if d.op=0 then decide (d.evr=hp5) else !bi7 d.name&&bi8 d.evr true)
def ad1 (b:UInt8):Nat:=if b=126 then 1 else if b=94 then 3 else if decide (97<=b)&&decide (b<=122)||decide (65<=b)&&decide (b<=90) then 4 else if decide (48<=b)&&decide (b<=57) then 5 else 0
structure Part where
 kind:Nat
 s:Str
 deriving DecidableEq,Inhabited
def au8:Nat->Str->List Part
 | 0,_=>[]
 | _+1,[]=>[]
 | n+1,b::l=>
  if ad1 b=0 then au8 n l
  else if ad1 b<4 then ⟨ad1 b,[]⟩::au8 n l
  else ⟨ad1 b,if ad1 b=5 then ((b::l).takeWhile λc=>ad1 c==ad1 b).dropWhile (· == 48) else (b::l).takeWhile λc=>ad1 c==ad1 b⟩::au8 n ((b::l).dropWhile λc=>ad1 c==ad1 b)
def ab5 (s:Str):List Part:=au8 s.length s
def ar1 (a b:Int):Int:=if a<b then -1 else if a=b then 0 else 1
def cr3 (a b:Str):Int:=if Op.bytesLess a b then -1 else if a=b then 0 else 1
def af1 (a b:Part):Int :=
 let k:=ar1 a.kind b.kind
 if k≠0 then k else
 let n:=if a.kind=5/\b.kind=5 then ar1 a.s.length b.s.length else 0
 if n≠0 then n else cr3 a.s b.s
def ag2:List Part->List Part->Int
 | a::aZ,b::bs=>if af1 a b≠0 then af1 a b else ag2 aZ bs
 | _,_=>0
def ap9 (a b:Str):Int:=ag2 (ab5 a++[⟨2,[]⟩]) (ab5 b++[⟨2,[]⟩])
def aq4 (a b:EVR):Int :=
 if ar1 a.am4 b.am4≠0 then ar1 a.am4 b.am4 else
 if ap9 a.ver b.ver≠0 then ap9 a.ver b.ver else
 if a.rel=[]\/b.rel=[] then 0 else ap9 a.rel b.rel
def bit (op:Int)(i:Nat):Bool:=(op.toNat).testBit i
def side (n:Int):Nat:=if n<0 then 0 else if n=0 then 1 else 2
def meet (a b:Dep):Bool :=
 if a.op.toNat%8=0\/b.op.toNat%8=0 then true else
 let n:=aq4 a.evr b.evr
 if n=0 then bit a.op 0&&bit b.op 0||bit a.op 1&&bit b.op 1||bit a.op 2&&bit b.op 2
 else bit a.op (side (-n))||bit b.op (side n)
mutual
def aa6.count:aa6->Nat
 | .mk _ _ aZ=>aa6.counts aZ+1
def aa6.counts:List aa6->Nat
 | []=>0
 | r::rs=>r.count+aa6.counts rs
end
mutual
def aa6.depth:aa6->Nat
 | .mk k _ aZ=>if k=1 then 0 else aa6.bf4 aZ+1
def aa6.bf4:List aa6->Nat
 | []=>0
 | r::rs=>max r.depth (aa6.bf4 rs)
end
-- All parts,and whether each stands within a With,or a Without.
mutual
def aa6.parts:aa6->Bool->List (aa6×Bool)
 | .mk k d aZ,alone=>(.mk k d aZ,alone)::aa6.bi9 aZ (alone||decide (k=6)||decide (k=7))
def aa6.bi9:List aa6->Bool->List (aa6×Bool)
 | [],_=>[]
 | r::rs,alone=>r.parts alone++aa6.bi9 rs alone
end
def asks (k:Int):Nat×Nat×Bool×Nat :=
 if k=1 then (0,0,true,3) else if k=2 then (2,24,true,3) else if k=3 then (2,24,true,3) else if k=4 then (2,3,false,1)
 else if k=5 then (2,3,false,2) else if k=6 then (2,24,true,3) else if k=7 then (2,2,true,3) else (0,0,false,0)
def ai5 (wh:Int)(r:aa6)(alone:Bool):Bool :=
 let x:=asks r.kind
 !(decide ((x.2.2.2:Int)<wh)||alone&&!x.2.2.1||decide (r.args.length<x.1)||decide (x.2.1<r.args.length)) &&
 (if r.kind=1 then am2 r.dep else decide (r.dep=di2))
def ao3 (r:aa6)(wh:Int):Int :=
 if wh<1\/3<wh then 1 else if r.count>24 then 40 else if r.depth>8 then 21 else if (r.parts false).all λp=>ai5 wh p.1 p.2 then 0 else 4
mutual
def aa6.same:aa6->aa6->Bool
 | .mk k d aZ,.mk k' d' as'=>decide (k=k')&&decide (d=d')&&aa6.jc2 aZ as'
def aa6.jc2:List aa6->List aa6->Bool
 | [],[]=>true
 | r::rs,s::ss=>r.same s&&aa6.jc2 rs ss
 | _,_=>false
end
structure aa2.Fit (p:aa2):Prop where
 name:p.name.length<2^62
 evr:p.evr.fit
 at5:p.provides.length<2^31/\∀d∈p.provides,d.fit
 obs:p.aa7.length<2^31/\∀d∈p.aa7,d.fit
 files:p.files.length<2^31/\∀s∈p.files,s.length<2^62
 cw8:∀x∈p.rows,x.2.length<2^31/\∀r∈x.2,r.fit/\r.count<2^31
def ak6 (a:Int):Bool:=decide (1<=a)&&decide (a<=4)
def rising:List Str->Bool
 | a::b::l=>Op.bytesLess a b&&rising (b::l)
 | _=>true
def ak7 (l:List aa6)(wh:Int):Bool:=decide (l.length<=32)&&l.all λr=>decide (ao3 r wh=0)
def aj7 (p:aa2):Bool :=
 as4 p.name&&!bi7 p.name&&bi8 p.evr false&&ak6 p.ap7&&decide (p.vendor.length<=64) &&
 (decide (p.provides.length<=32)&&p.provides.all am2)&&(decide (p.aa7.length<=32)&&p.aa7.all am2)&&(decide (p.files.length<=32)&&p.files.all bi7) &&
 rising p.files&&ak7 p.requires 1&&ak7 p.conflicts 2&&ak7 p.ar4 1&&ak7 p.ap5 3&&ak7 p.suggests 1&&ak7 p.bb4 3
def own (p:aa2):Dep:=⟨p.name,2,p.evr⟩
def meets (a d:Dep):Bool:=decide (a.name=d.name)&&meet a d
def named (p:aa2)(d:Dep):Bool:=meets (own p) d
def provides (p:aa2)(d:Dep):Bool:=named p d||p.provides.any (λa=>meets a d)||decide (d.op=0)&&p.files.contains d.name
def aa7 (p q:aa2):Bool:=p.aa7.any λd=>named q d
def jc3 (l m:List aa6):Bool:=aa6.jc2 l m
end Go.Id.Md
namespace Go.Id.Md
open Go Go.Id
structure be5 where
 pkg:aa2
 fh8:Int
 prio:Int
def be5.cs (r:be5):List IV:=r.pkg.cs++[.int .i64 r.fh8,.int .i64 r.prio]
abbrev Nms:=List (Str×List Int)
def ar5:Nms->Str->Int->Nms
 | [],k,n=>[(k,[n])]
 | t::ts,k,n=>if k=t.1 then (k,t.2++[n])::ts else t::ar5 ts k n
def eb2:Nms->Nat->List aa2->Nms
 | nm,_,[]=>nm
 | nm,n,p::ps=>eb2 (ar5 nm p.name n) (n+1) ps
def ae1 (n:Int):List IV:=[.int .i64 n]
def nmV (nm:Nms):List (IV×IV):=nm.map λt=>(.str t.1,.aa3 (t.2.map ae1))
structure Pool where
 rows:List be5
 inst:Int
 nm:Nms
def Pool.v (p:Pool):IV:=.ab8 [.aa3 (p.rows.map be5.cs),.int .i64 p.inst,.al4 (nmV p.nm)]
def rowsOf (l:List aa2)(fh8 prio:Int):List be5:=l.map λp=>⟨p,fh8,prio⟩
theorem ex1 (l:List aa2)(x:aa2)(a b:Int):rowsOf (l++[x]) a b=rowsOf l a b++[⟨x,a,b⟩]:=by simp[rowsOf]
theorem bv9 (l:List aa2)(a b:Int):(rowsOf l a b).length=l.length:=by simp[rowsOf]
def al8:Nat->List ao2->List be5×Nms->Option (List be5×Nms)
 | _,[],st=>some st
 | i,r::rs,st=>if r.priority<0\/1024<r.priority\/r.packages.all aj7=false then none else al8 (i+1) rs (st.1++rowsOf r.packages i r.priority,eb2 st.2 st.1.length r.packages)
def am8 (l:List ao2):Nat:=(l.map λr=>r.packages.length).sum
def ce4 (repos:List ao2)(inst:List aa2):Pool ⊕ Int :=
 if 16<repos.length\/256<inst.length+am8 repos then .inr 40 else
 if inst.all aj7=false then .inr 4 else
 match al8 0 repos (rowsOf inst (-1) 1025,eb2 [] 0 inst) with
 | some (rows,nm)=>.inl ⟨rows,inst.length,nm⟩
 | none=>.inr 4
def jr5 (r:Pool ⊕ Int):IV:=match r with
 | .inl p=>.tuple [p.v,.int .i64 0]
 | .inr e=>.tuple [.ae3,.int .i64 e]
abbrev NmL:=List (Str×List Int×Nat)
def mEs (L:NmL):List (IV×IV):=L.map λt=>(.str t.1,.slice t.2.2 0 t.2.1.length 1)
def bc8 (L:NmL):Nms:=L.map λt=>(t.1,t.2.1)
def be6:NmL->Str->Int->Nat->NmL
 | [],k,n,nid=>[(k,[n],nid)]
 | t::ts,k,n,nid=>if k=t.1 then (k,t.2.1++[n],nid)::ts else t::be6 ts k n nid
def dd6 (L:NmL)(k:Str):IV:=match L.find? (λt=>decide (k=t.1)) with
 | some t=>.slice t.2.2 0 t.2.1.length 1
 | none=>.aa1
def ci6 (L:NmL)(k:Str):List Int:=match L.find? (λt=>decide (k=t.1)) with
 | some t=>t.2.1
 | none=>[]
theorem cy4 (L:NmL)(k:Str)(n:Int)(nid:Nat):bc8 (be6 L k n nid)=ar5 (bc8 L) k n:=by
 induction L with
 | nil=>rfl
 | cons t ts ih=>
  simp only[be6,bc8,zb,ar5];split
  ·rfl
  ·rw[zb];congr 1
theorem jr6 (L:NmL)(k:Str):(ay9 2 (.str k) (mEs L)).map (λr=>r.getD .aa1)=some (dd6 L k):=by
 induction L with
 | nil=>rfl
 | cons t ts ih=>
  simp only[mEs,zb,ay9,dl8,dd6,z9] at ih ⊢;by_cases h:k=t.1
  ·simp[h]
  ·simp only[h,decide_false] at ih ⊢;exact ih
theorem jc4 (L:NmL)(k:Str):∃r,ay9 2 (.str k) (mEs L)=some r/\r.getD .aa1=dd6 L k:=by
 have:=jr6 L k
 cases h:ay9 2 (.str k) (mEs L) with
 | none=>rw[h] at this;cases this
 | some r=>rw[h] at this;exact ⟨r,rfl,by simpa using this⟩
theorem kh2 (L:NmL)(k:Str)(n:Int)(nid:Nat):eg6 2 (.str k) (.slice nid 0 ((ci6 L k).length+1) 1) (mEs L)=some (mEs (be6 L k n nid)):=by
 induction L with
 | nil=>rfl
 | cons t ts ih=>
  simp only[mEs,zb,eg6,dl8,ci6,z9,be6] at ih ⊢;by_cases h:k=t.1
  ·simp[h]
  ·simp only[h,decide_false,if_false,zb] at ih ⊢;rw[ih];rfl
theorem eb3 {k:Str}{n:Int}{nid:Nat}:∀ {L:NmL},(L.map (·.1)).Nodup->∀t∈be6 L k n nid,(t∈L/\t.1≠k)\/t=(k,ci6 L k++[n],nid):=by
 intro L
 induction L with
 | nil=>intro _ t ht;simp[be6] at ht;exact .inr (by rw[ht];rfl)
 | cons u us ih=>
  intro hk t ht;rw[zb,zh] at hk;simp only[be6] at ht;by_cases h:k=u.1
  ·rw[if_pos h] at ht;rcases zc.1 ht with rfl|ht
   ·right;simp[ci6,h]
   ·left;exact ⟨zg _ ht,λe=>hk.1 (by rw[<- h,<- e];exact List.mem_map_of_mem (f:=λx:Str×List Int×Nat=>x.1) ht)⟩
  ·rw[if_neg h] at ht;rcases zc.1 ht with rfl|ht
   ·left;exact ⟨zk ..,λe=>h e.symm⟩
   ·have e:ci6 (u::us) k=ci6 us k:=by simp[ci6,h]
    rw[e];rcases ih hk.2 t ht with ⟨h1,h2⟩|h1
    ·exact .inl ⟨zg _ h1,h2⟩
    ·exact .inr h1
theorem fg7 {k:Str}{n:Int}{nid:Nat}:∀(L:NmL),(L.map (·.1)).Nodup->((be6 L k n nid).map (·.1)).Nodup/\∀x∈(be6 L k n nid).map (·.1),x=k\/x∈L.map (·.1):=by
 intro L
 induction L with
 | nil=>intro _;simp[be6]
 | cons u us ih=>
  intro hk;rw[zb,zh] at hk;simp only[be6];by_cases h:k=u.1
  ·rw[if_pos h];refine ⟨?_,?_⟩
   ·rw[zb,zh];exact ⟨by rw[h];exact hk.1,hk.2⟩
   ·intro x hx;simp only[zb,zc] at hx ⊢;rcases hx with h1|h1
    ·exact .inl h1
    ·exact .inr (.inr h1)
  ·rw[if_neg h];obtain ⟨h1,h2⟩:=ih hk.2;refine ⟨?_,?_⟩
   ·rw[zb,zh];refine ⟨λhm=>?_,h1⟩;rcases h2 _ hm with e|e
    ·exact h e.symm
    ·exact hk.1 e
   ·intro x hx;simp only[zb,zc] at hx ⊢;rcases hx with h3|h3
    ·exact .inr (.inl h3)
    ·rcases h2 _ h3 with e|e
     ·exact .inl e
     ·exact .inr (.inr e)
theorem gs4 {k:Str}{n:Int}{nid:Nat}:∀(L:NmL),(L.map (·.2.2)).Nodup->nid ∉ L.map (·.2.2)->((be6 L k n nid).map (·.2.2)).Nodup/\∀x∈(be6 L k n nid).map (·.2.2),x=nid\/x∈L.map (·.2.2):=by
 intro L
 induction L with
 | nil=>intro _ _;simp[be6]
 | cons u us ih=>
  intro hk hn;rw[zb,zh] at hk;simp only[zb,zc,not_or] at hn;simp only[be6];by_cases h:k=u.1
  ·rw[if_pos h];refine ⟨?_,?_⟩
   ·rw[zb,zh];exact ⟨hn.2,hk.2⟩
   ·intro x hx;simp only[zb,zc] at hx ⊢;rcases hx with h1|h1
    ·exact .inl h1
    ·exact .inr (.inr h1)
  ·rw[if_neg h];obtain ⟨h1,h2⟩:=ih hk.2 hn.2;refine ⟨?_,?_⟩
   ·rw[zb,zh];refine ⟨λhm=>?_,h1⟩;rcases h2 _ hm with e|e
    ·exact hn.1 e.symm
    ·exact hk.1 e
   ·intro x hx;simp only[zb,zc] at hx ⊢;rcases hx with h3|h3
    ·exact .inr (.inl h3)
    ·rcases h2 _ h3 with e|e
     ·exact .inl e
     ·exact .inr (.inr e)
theorem ce5 (L:NmL)(k:Str):(dd6 L k=.aa1/\ci6 L k=[])\/∃t∈L,t.1=k/\dd6 L k=.slice t.2.2 0 t.2.1.length 1/\ci6 L k=t.2.1:=by
 unfold dd6 ci6
 cases h:L.find? (λt=>decide (k=t.1)) with
 | none=>exact .inl ⟨rfl,rfl⟩
 | some t=>
  have h1:=List.find?_some h;exact .inr ⟨t,List.mem_of_find?_eq_some h,by simpa using (by simpa using h1:k=t.1).symm,rfl,rfl⟩
theorem gs5 {L:NmL}(hk:(L.map (·.1)).Nodup)(hd:(L.map (·.2.2)).Nodup):∀t∈L,∀u∈L,t.2.2=u.2.2->t=u:=by
 intro t ht u hu e;obtain ⟨i,hi,h1⟩:=qh.1 ht;obtain ⟨j,hj,h2⟩:=qh.1 hu
 have hij:i=j:=by
  have hi':i<(L.map (·.2.2)).length:=by simpa using hi
  have hj':j<(L.map (·.2.2)).length:=by simpa using hj
  have hp:=List.pairwise_iff_getElem.1 hd;have e2:(L.map (·.2.2))[i]=(L.map (·.2.2))[j]:=by simp only[List.getElem_map,h1,h2,e]
  rcases Nat.lt_trichotomy i j with h|h|h
  ·exact absurd e2 (hp i j hi' hj' h)
  ·exact h
  ·exact absurd e2.symm (hp j i hj' hi' h)
 subst hij;rw[<- h1,<- h2]
mutual
def aa6.ok:aa6->Prop
 | .mk k d xs=>0<=k/\k<256/\d.fit/\xs.length<2^62/\aa6.oks xs
def aa6.oks:List aa6->Prop
 | []=>True
 | r::rs=>r.ok/\aa6.oks rs
end
theorem aa6.jc5 (l:List aa6):aa6.oks l↔∀r∈l,r.ok:=by
 induction l with
 | nil=>simp[aa6.oks]
 | cons r rs ih=>simp[aa6.oks,ih]
theorem aa6.gc2 {k:Int}{d:Dep}{xs:List aa6}:(aa6.mk k d xs).ok↔0<=k/\k<256/\d.fit/\xs.length<2^62/\∀r∈xs,r.ok:=by
 simp only[aa6.ok,aa6.jc5]
structure aa2.Ok (p:aa2):Prop where
 name:p.name.length<2^62
 vendor:p.vendor.length<2^62
 evr:p.evr.fit
 at5:p.provides.length<2^62/\∀d∈p.provides,d.fit
 obs:p.aa7.length<2^62/\∀d∈p.aa7,d.fit
 files:p.files.length<2^62/\∀s∈p.files,s.length<2^62
 cw8:∀x∈p.rows,x.2.length<2^62/\∀r∈x.2,r.ok
def ao2.Ok (r:ao2):Prop:=r.packages.length<2^62/\∀p∈r.packages,p.Ok
def big (d:Dep):Bool:=decide (500<d.name.length+d.evr.ver.length)||decide (500<d.evr.rel.length)
mutual
def ce6:aa6->Nat->Nat×Bool
 | .mk _ _ xs,deep=>if 20<deep\/100<xs.length then (0,true) else cw9 xs deep 0
def cw9:List aa6->Nat->Nat->Nat×Bool
 | [],_,n=>(n,false)
 | r::rs,deep,n=>if big r.dep=true then (0,true) else
  if (ce6 r (deep+1)).2=true\/2000<n+1+(ce6 r (deep+1)).1 then (0,true) else cw9 rs deep (n+1+(ce6 r (deep+1)).1)
end
def cx1 (l:List aa6)(deep:Nat):Nat×Bool:=if 20<deep\/100<l.length then (0,true) else cw9 l deep 0
theorem dt2 (r:aa6)(deep:Nat):ce6 r deep=cx1 r.args deep:=by
 cases r;simp only[ce6,cx1,aa6.args];rfl
def ce7:List (List aa6)->Nat->Bool
 | [],_=>false
 | l::ls,n=>if (cx1 l 0).2=true\/2000<n+(cx1 l 0).1 then true else ce7 ls (n+(cx1 l 0).1)
def bp9 (p:aa2):List (List aa6):=[p.requires,p.conflicts,p.ar4,p.ap5,p.suggests,p.bb4]
def au9 (p:aa2):Bool :=
 decide (100<p.provides.length)||(decide (100<p.aa7.length)||(decide (100<p.files.length)||(decide (1000<p.name.length)||(decide (1000<p.vendor.length)||(decide (1000<p.evr.ver.length)||(decide (1000<p.evr.rel.length)||ce7 (bp9 p) 0))))))
theorem ie7:∀(l:List aa6) (deep n:Nat),n<=2000->(cw9 l deep n).1<=2000:=by
 intro l
 induction l with
 | nil=>intro deep n h;simpa [cw9] using h
 | cons r rs ih=>
  intro deep n h;simp only[cw9];split
  ·omega
  split
  ·omega
  ·exact ih _ _ om
theorem fg8 (l:List aa6)(deep:Nat):(cx1 l deep).1<=2000:=by
 unfold cx1;split
 ·omega
 ·exact ie7 _ _ _ om
def bc9:Nat->List ao2->List be5
 | _,[]=>[]
 | i,r::rs=>rowsOf r.packages i r.priority++bc9 (i+1) rs
theorem dj4:∀(rs:List ao2) (i:Nat) (st:List be5×Nms) (out:List be5×Nms),al8 i rs st=some out->out.1=st.1++bc9 i rs:=by
 intro rs
 induction rs with
 | nil=>intro i st out h;simp only[al8,Option.some.injEq] at h;subst h;simp[bc9]
 | cons r rs ih=>
  intro i st out h;simp only[al8] at h;split at h
  ·cases h
  ·rw[ih _ _ _ h];simp[bc9]
theorem eb4 {repos:List ao2}{inst:List aa2}{p:Pool}(h:ce4 repos inst=.inl p):p.rows=rowsOf inst (-1) 1025++bc9 0 repos/\p.inst=inst.length:=by
 unfold ce4 at h;split at h
 ·cases h
 split at h
 ·cases h
 split at h
 ·rename_i rows nm hr;cases h;exact ⟨dj4 _ _ _ _ hr,rfl⟩
 ·cases h
theorem ie8 {repos:List ao2}{inst:List aa2}{e:Int}(h:ce4 repos inst=.inr e):e=40\/e=4:=by
 unfold ce4 at h;split at h
 ·cases h;exact .inl rfl
 split at h
 ·cases h;exact .inr rfl
 split at h
 ·cases h
 ·cases h;exact .inr rfl
end Go.Id.Md
namespace Go.Id.Md
open Go Go.Id
def ad4:Nms->Str->List Int
 | [],_=>[]
 | t::ts,k=>if k=t.1 then t.2 else ad4 ts k
def KN (nm:Nms):Prop:=(nm.map (·.1)).Nodup
theorem bj1 {nm:Nms}{k:Str}{n:Int}(h:KN nm)(t:Str×List Int):t∈ar5 nm k n↔(t∈nm/\t.1≠k)\/t=(k,ad4 nm k++[n]):=by
 induction nm with
 | nil=>simp[ar5,ad4]
 | cons u us ih=>
  have h':u.1 ∉ us.map (·.1)/\KN us:=by simpa [KN] using h
  simp only[ar5,ad4];by_cases e:k=u.1
  ·rw[if_pos e,if_pos e];subst e;simp only[zc];constructor
   ·rintro (rfl|ht)
    ·exact .inr rfl
    ·exact .inl ⟨.inr ht,λe=>h'.1 (zq.2 ⟨t,ht,e⟩)⟩
   ·rintro (⟨rfl|ht,hne⟩|rfl)
    ·exact absurd rfl hne
    ·exact .inr ht
    ·exact .inl rfl
  ·rw[if_neg e,if_neg e];simp only[zc,ih h'.2];constructor
   ·rintro (rfl|⟨h1,h2⟩|rfl)
    ·exact .inl ⟨.inl rfl,λe'=>e e'.symm⟩
    ·exact .inl ⟨.inr h1,h2⟩
    ·exact .inr rfl
   ·rintro (⟨rfl|h1,h2⟩|rfl)
    ·exact .inl rfl
    ·exact .inr (.inl ⟨h1,h2⟩)
    ·exact .inr (.inr rfl)
theorem gc3 {k:Str}{n:Int}:∀ {nm:Nms},∀x∈(ar5 nm k n).map (·.1),x=k\/x∈nm.map (·.1):=by
 intro nm
 induction nm with
 | nil=>intro x hx;simpa [ar5] using hx
 | cons u us ih=>
  intro x hx;simp only[ar5] at hx;split at hx
  ·rename_i e;simp only[zb,zc] at hx ⊢;rcases hx with h|h
   ·exact .inl h
   ·exact .inr (.inr h)
  ·simp only[zb,zc] at hx ⊢;rcases hx with h|h
   ·exact .inr (.inl h)
   ·rcases ih x h with h|h
    ·exact .inl h
    ·exact .inr (.inr h)
theorem am9 {nm:Nms}{k:Str}{n:Int}(h:KN nm):KN (ar5 nm k n):=by
 induction nm with
 | nil=>simp[KN,ar5]
 | cons u us ih=>
  have h':u.1 ∉ us.map (·.1)/\KN us:=by simpa [KN] using h
  simp only[ar5];split
  ·rename_i e;subst e;exact h
  ·rename_i e;show ((u::ar5 us k n).map (·.1)).Nodup;rw[zb,zh];refine ⟨λhm=>?_,ih h'.2⟩;rcases gc3 _ hm with h1|h1
   ·exact e h1.symm
   ·exact h'.1 h1
theorem KN.nd {nm:Nms}(h:KN nm):nm.Nodup:=by
 induction nm with
 | nil=>exact z0
 | cons u us ih=>
  have h':u.1 ∉ us.map (·.1)/\KN us:=by simpa [KN] using h
  exact zh.2 ⟨λhm=>h'.1 (zq.2 ⟨u,hm,rfl⟩),ih h'.2⟩
theorem KN.perm {nm nm':Nms}(h:KN nm)(p:nm.Perm nm'):KN nm':=(p.map (λx:Str×List Int=>x.1)).nodup_iff.1 h
theorem dt3 {nm:Nms}(h:KN nm){t:Str×List Int}(ht:t∈nm):ad4 nm t.1=t.2:=by
 induction nm with
 | nil=>cases ht
 | cons u us ih=>
  have h':u.1 ∉ us.map (·.1)/\KN us:=by simpa [KN] using h
  simp only[ad4];rcases zc.1 ht with rfl|ht
  ·rw[if_pos rfl]
  ·rw[if_neg (λe=>h'.1 (zq.2 ⟨t,ht,e⟩))];exact ih h'.2 ht
theorem dd7 {nm:Nms}{k:Str}(h:k ∉ nm.map (·.1)):ad4 nm k=[]:=by
 induction nm with
 | nil=>rfl
 | cons u us ih=>
  simp only[zb,zc,not_or] at h;simp only[ad4];rw[if_neg h.1];exact ih h.2
theorem dd8 {nm nm':Nms}(h:KN nm)(p:nm.Perm nm')(k:Str):ad4 nm k=ad4 nm' k:=by
 by_cases hk:k∈nm.map (·.1)
 ·obtain ⟨t,ht,rfl⟩:=zq.1 hk;rw[dt3 h ht,dt3 (h.perm p) (p.mem_iff.1 ht)]
 ·rw[dd7 hk,dd7 (λe=>hk ((p.map (·.1)).mem_iff.2 e))]
theorem bj2 {nm:Nms}(h:KN nm)(k:Str)(n:Int)(j:Str):ad4 (ar5 nm k n) j=if j=k then ad4 nm k++[n] else ad4 nm j:=by
 induction nm with
 | nil=>
  simp only[ar5,ad4]
  split<;>rfl
 | cons u us ih=>
  have h':u.1 ∉ us.map (·.1)/\KN us:=by simpa [KN] using h
  simp only[ar5,ad4];by_cases e:k=u.1
  ·rw[if_pos e,if_pos e];simp only[ad4];by_cases ej:j=k
   ·rw[if_pos ej,if_pos ej]
   ·rw[if_neg ej,if_neg ej,if_neg (λx=>ej (x.trans e.symm))]
  ·rw[if_neg e,if_neg e];simp only[ad4,ih h'.2];by_cases ej:j=k
   ·rw[if_pos ej,if_pos ej,if_neg (λx=>e (ej.symm.trans x))]
   ·rw[if_neg ej,if_neg ej]
theorem bw1 {nm nm':Nms}{k:Str}{n:Int}(h:KN nm)(p:nm.Perm nm'):(ar5 nm k n).Perm (ar5 nm' k n):=by
 refine (qa (am9 h).nd (am9 (h.perm p)).nd).2 λt=>?_
 rw[bj1 h,bj1 (h.perm p),dd8 h p,p.mem_iff]
theorem gc4 {nm:Nms}{k j:Str}{n:Int}(h:KN nm):(ar5 (ar5 nm k n) j n).Perm (ar5 (ar5 nm j n) k n):=by
 by_cases e:k=j
 ·subst e;exact .refl _
 refine (qa (am9 (am9 h)).nd (am9 (am9 h)).nd).2 λt=>?_
 rw[bj1 (am9 h),bj1 (am9 h),bj1 h,bj1 h,bj2 h,bj2 h,if_neg (λx=>e x.symm),if_neg e];constructor
 ·rintro (⟨⟨h1,h2⟩|rfl,h3⟩|rfl)
  ·exact .inl ⟨.inl ⟨h1,h3⟩,h2⟩
  ·exact .inr rfl
  ·exact .inl ⟨.inr rfl,λx=>e x.symm⟩
 ·rintro (⟨⟨h1,h2⟩|rfl,h3⟩|rfl)
  ·exact .inl ⟨.inl ⟨h1,h3⟩,h2⟩
  ·exact .inr rfl
  ·exact .inl ⟨.inr rfl,e⟩
def bd1 (nm:Nms)(ks:List Str)(n:Int):Nms:=ks.foldl (λm k=>ar5 m k n) nm
theorem el5 {n:Int}:∀ {ks:List Str} {nm:Nms},KN nm->KN (bd1 nm ks n)
 | [],_,h=>h
 | _::ks,_,h=>el5 (ks:=ks) (am9 h)
theorem dd9 {n:Int}:∀(ks:List Str) {nm nm':Nms},KN nm->nm.Perm nm'->(bd1 nm ks n).Perm (bd1 nm' ks n)
 | [],_,_,_,p=>p
 | _::ks,_,_,h,p=>dd9 ks (am9 h) (bw1 h p)
theorem el6 {n:Int}{ks js:List Str}(p:ks.Perm js):∀ {nm:Nms},KN nm->(bd1 nm ks n).Perm (bd1 nm js n):=by
 induction p with
 | nil=>intro nm _;exact .refl _
 | cons x _ ih=>intro nm h;exact ih (am9 h)
 | swap x y l=>intro nm h;exact dd9 l (am9 (am9 h)) (gc4 h)
 | trans p1 _ ih1 ih2=>intro nm h;exact (ih1 h).trans (ih2 h)
theorem ex2 (nm:Nms)(ks:List Str)(k:Str)(n:Int):bd1 nm (ks++[k]) n=ar5 (bd1 nm ks n) k n:=by simp[bd1]
def av1 (l:List Str)(k:Str):List Str:=if k∈l then l else l++[k]
def cy5 (p:aa2):List Str:=p.files.foldl av1 ((p.provides.map (·.name)).foldl av1 [p.name])
def au4 (nm:Nms)(ds:List Str)(n:Int):Nms:=ds.foldl (λm k=>if n∈ad4 m k then m else ar5 m k n) nm
theorem cu8 (nm:Nms)(ks:List Str)(k:Str)(n:Int):au4 nm (ks++[k]) n=if n∈ad4 (au4 nm ks n) k then au4 nm ks n else ar5 (au4 nm ks n) k n:=by
 unfold au4;rw[List.foldl_append];rfl
structure Index where
 all:List aa2
 at5:Nms
 names:Nms
 over:Nms
def Index.v (x:Index):IV:=.ab8 [.aa3 (x.all.map aa2.cs),.al4 (nmV x.at5),.al4 (nmV x.names),.al4 (nmV x.over)]
def el7 (x:Index)(n:Nat)(p:aa2):Index:=⟨x.all++[p],bd1 x.at5 (cy5 p) n,ar5 x.names p.name n,au4 x.over (p.aa7.map (·.name)) n⟩
def idxFrom (x:Index):Nat->List aa2->Index
 | _,[]=>x
 | n,p::ps=>idxFrom (el7 x n p) (n+1) ps
def ad8 (l:List aa2):Index:=idxFrom ⟨[],[],[],[]⟩ 0 l
theorem el8 (ps:List aa2)(p:aa2):∀(x:Index) (n:Nat),idxFrom x n (ps++[p])=el7 (idxFrom x n ps) (n+ps.length) p:=by
 induction ps with
 | nil=>intro x n;rfl
 | cons q qs ih=>intro x n;show idxFrom _ (n+1) (qs++[p])=_;rw[ih,z5];congr 1;omega
theorem gc5 (L:NmL)(k:Str):ad4 (bc8 L) k=ci6 L k:=by
 induction L with
 | nil=>rfl
 | cons t ts ih=>
  simp only[bc8,zb,ad4,ci6,z9] at ih ⊢;by_cases h:k=t.1
  ·simp[h]
  ·simp only[h,decide_false,if_false] at ih ⊢;exact ih
def numsOf (q:aa2->Bool)(l:List aa2):List Int:=((zn l.length).filter λn=>q (l.getD n default)).map λ(n:Nat)=>(n:Int)
theorem ax6 (q:aa2->Bool)(l:List aa2)(p:aa2):numsOf q (l++[p])=numsOf q l++if q p then [(l.length:Int)] else []:=by
 unfold numsOf;rw[zd,List.length_singleton,zl,z1,zt];congr 1
 ·congr 1;refine z4 λn hn=>?_
  have h:=ze.1 hn;simp[zv,List.getElem?_append,h]
 ·have e:(l++[p]).getD l.length default=p:=by simp[zv]
  simp only[List.filter_cons,List.filter_nil,e];split<;>rfl
theorem am5 {q:aa2->Bool}{l:List aa2}{n:Int}:n∈numsOf q l↔∃m:Nat,n=m/\m<l.length/\q (l.getD m default)=true:=by
 unfold numsOf;rw[zq];constructor
 ·rintro ⟨m,hm,rfl⟩;obtain ⟨h1,h2⟩:=zr.1 hm;exact ⟨m,rfl,ze.1 h1,h2⟩
 ·rintro ⟨m,rfl,h1,h2⟩;exact ⟨m,zr.2 ⟨ze.2 h1,by simpa using h2⟩,rfl⟩
theorem ae5 (q:aa2->Bool)(l:List aa2):(numsOf q l).length<=l.length:=by
 unfold numsOf;rw[z8];exact qf (zz _ _) (by simp)
theorem ce8 (q r:aa2->Bool)(l:List aa2):(numsOf q l).filter (λn=>r (l.getD n.toNat default))=numsOf (λp=>q p&&r p) l:=by
 unfold numsOf;rw[List.filter_map,List.filter_filter];congr 1;refine z4 λn _=>?_
 show (r (l.getD ((n:Int)).toNat default)&&q (l.getD n default))=_;rw[Int.toNat_natCast,qd]
theorem cu9 {q r:aa2->Bool}{l:List aa2}(h:∀p∈l,q p=r p):numsOf q l=numsOf r l:=by
 unfold numsOf;congr 1;refine z4 λn hn=>?_
 have hlt:=ze.1 hn;refine h _ ?_;rw[zv,List.getElem?_eq_getElem hlt];exact List.getElem_mem hlt
theorem ex3 {n:Int}:∀(ks:List Str) {nm:Nms},KN nm->ks.Nodup->∀j,ad4 (bd1 nm ks n) j=ad4 nm j++if j∈ks then [n] else []:=by
 intro ks
 induction ks with
 | nil=>intro nm _ _ j;simp[bd1]
 | cons k ks ih=>
  intro nm h hnd j;obtain ⟨h1,h2⟩:=zh.1 hnd;show ad4 (bd1 (ar5 nm k n) ks n) j=_;rw[ih (am9 h) h2,bj2 h];by_cases e:j=k
  ·subst e;simp[h1]
  ·simp[e]
theorem gc6 {n:Int}:∀(ks:List Str) {nm:Nms},KN nm->KN (au4 nm ks n):=by
 intro ks
 induction ks with
 | nil=>intro nm h;exact h
 | cons k ks ih=>
  intro nm h;show KN (au4 (if n∈ad4 nm k then nm else ar5 nm k n) ks n);split
  ·exact ih h
  ·exact ih (am9 h)
theorem el9 {n:Int}:∀(ks:List Str) {nm:Nms},KN nm->∀j,ad4 (au4 nm ks n) j=ad4 nm j++if j∈ks/\n ∉ ad4 nm j then [n] else []:=by
 intro ks
 induction ks with
 | nil=>intro nm _ j;simp[au4]
 | cons k ks ih=>
  intro nm h j;show ad4 (au4 (if n∈ad4 nm k then nm else ar5 nm k n) ks n) j=_;by_cases hk:n∈ad4 nm k
  ·rw[if_pos hk,ih h];by_cases e:j=k
   ·subst e;simp[hk]
   ·simp[e]
  ·rw[if_neg hk,ih (am9 h),bj2 h];by_cases e:j=k
   ·subst e;simp[hk]
   ·simp[e]
theorem gc7 {l:List Str}{k j:Str}:j∈av1 l k↔j∈l\/j=k:=by
 unfold av1;split
 ·rename_i h;exact ⟨.inl,λh'=>h'.elim id λe=>e▸h⟩
 ·simp
theorem de1 {j:Str}:∀(ks l:List Str),j∈ks.foldl av1 l↔j∈l\/j∈ks:=by
 intro ks
 induction ks with
 | nil=>intro l;simp
 | cons k ks ih=>intro l;rw[List.foldl_cons,ih,gc7,zc,or_assoc]
theorem gc8 {l:List Str}(h:l.Nodup)(k:Str):(av1 l k).Nodup:=by
 unfold av1;split
 ·exact h
 ·rename_i hk;rw[zi];exact ⟨h,by simp,λa ha b hb e=>by simp at hb;subst hb;subst e;exact hk ha⟩
theorem bz7:∀(ks:List Str) {l:List Str},l.Nodup->(ks.foldl av1 l).Nodup
 | [],_,h=>h
 | k::ks,_,h=>bz7 ks (gc8 h k)
theorem ie9 (p:aa2):(cy5 p).Nodup:=bz7 _ (bz7 _ (by simp))
theorem if1 (p:aa2)(j:Str):j∈cy5 p↔j=p.name\/(∃d∈p.provides,d.name=j)\/j∈p.files:=by
 unfold cy5;rw[de1,de1];simp[or_assoc]
structure ex4 (x:Index) (l:List aa2):Prop where
 all:x.all=l
 kp:KN x.at5
 kn:KN x.names
 ko:KN x.over
 at5:∀j,ad4 x.at5 j=numsOf (λp=>decide (j∈cy5 p)) l
 names:∀j,ad4 x.names j=numsOf (λp=>decide (p.name=j)) l
 over:∀j,ad4 x.over j=numsOf (λp=>decide (∃d∈p.aa7,d.name=j)) l
theorem ex4.add {x:Index}{l:List aa2}(h:ex4 x l)(p:aa2):ex4 (el7 x l.length p) (l++[p]) where
 all:=by show x.all++[p]=_;rw[h.all]
 kp:=el5 h.kp
 kn:=am9 h.kn
 ko:=gc6 _ h.ko
 at5:=λj=>by
  show ad4 (bd1 x.at5 (cy5 p) _) j=_;rw[ex3 _ h.kp (ie9 p),h.at5,ax6];simp
 names:=λj=>by
  show ad4 (ar5 x.names p.name _) j=_;rw[bj2 h.kn,h.names,h.names,ax6];by_cases e:j=p.name
  ·subst e;simp
  ·have e':¬p.name=j:=λh=>e h.symm
   simp[e,e']
 over:=λj=>by
  show ad4 (au4 x.over _ _) j=_;rw[el9 _ h.ko,h.over,ax6]
  have hn:(l.length:Int) ∉ numsOf (λp=>decide (∃d∈p.aa7,d.name=j)) l:=λhm=>by
   obtain ⟨m,e,h1,_⟩:=am5.1 hm;omega
  simp[hn]
theorem gc9:∀(ps:List aa2) {x:Index} {l:List aa2},ex4 x l->ex4 (idxFrom x l.length ps) (l++ps):=by
 intro ps
 induction ps with
 | nil=>intro x l h;rw[List.append_nil];exact h
 | cons p ps ih=>
  intro x l h;have:=ih (h.add p);rw[List.append_assoc] at this
  simpa [idxFrom] using this
theorem bg7 (l:List aa2):ex4 (ad8 l) l:=by
 have h0:ex4 ⟨[],[],[],[]⟩ []:=⟨rfl,z0,z0,z0,λ_=>by simp[ad4,numsOf],λ_=>by simp[ad4,numsOf],λ_=>by simp[ad4,numsOf]⟩;exact gc9 l h0
theorem em1 {p:aa2}{d:Dep}(h:named p d=true):p.name=d.name:=by
 unfold named meets own at h;simp only[za,decide_eq_true_eq] at h;exact h.1
theorem em2 {p:aa2}{d:Dep}(h:provides p d=true):d.name∈cy5 p:=by
 unfold provides at h;rw[if1];simp only[zx,za,decide_eq_true_eq,List.any_eq_true] at h;rcases h with (h|⟨a,ha,h⟩)|⟨_,h⟩
 ·exact .inl (em1 h).symm
 ·unfold meets at h;simp only[za,decide_eq_true_eq] at h;exact .inr (.inl ⟨a,ha,h.1⟩)
 ·exact .inr (.inr (by simpa using h))
def ag1 (l:List aa2)(d:Dep):List Int:=numsOf (λp=>provides p d) l
def ak8 (l:List aa2)(d:Dep):List Int:=numsOf (λp=>named p d) l
theorem cv2 (l:List aa2)(d:Dep):(ad4 (ad8 l).at5 d.name).filter (λn=>provides (l.getD n.toNat default) d)=ag1 l d:=by
 rw[(bg7 l).at5];refine (ce8 (λp=>decide (d.name∈cy5 p)) (λp=>provides p d) l).trans ?_
 exact cu9 λp _=>by
  cases h:provides p d with
  | false=>simp
  | true=>simp[em2 h]
theorem fg9 (l:List aa2)(d:Dep):(ad4 (ad8 l).names d.name).filter (λn=>named (l.getD n.toNat default) d)=ak8 l d:=by
 rw[(bg7 l).names];refine (ce8 (λp=>decide (p.name=d.name)) (λp=>named p d) l).trans ?_
 exact cu9 λp _=>by
  cases h:named p d with
  | false=>simp
  | true=>simp[em1 h]
theorem eb5:∀(rs:List ao2) (i:Nat) (st:List be5×Nms) (out:List be5×Nms),al8 i rs st=some out->∀r∈rs,r.packages.all aj7=true:=by
 intro rs
 induction rs with
 | nil=>intro i st out _ r hr;cases hr
 | cons x xs ih=>
  intro i st out h r hr;simp only[al8] at h;split at h
  ·cases h
  ·rename_i hc;rcases zc.1 hr with rfl|hr
   ·cases hb:r.packages.all aj7 with
    | true=>rfl
    | false=>exact absurd (.inr (.inr hb)) hc
   ·exact ih _ _ _ h r hr
theorem cr4 {repos:List ao2}{inst:List aa2}{p:Pool}(h:ce4 repos inst=.inl p):repos.length<=16/\inst.length+am8 repos<=256/\inst.all aj7=true/\∀r∈repos,r.packages.all aj7=true:=by
 unfold ce4 at h;split at h
 ·cases h
 rename_i hc;split at h
 ·cases h
 rename_i hm;split at h
 ·rename_i rows nm hr;exact ⟨om,om,by simpa using hm,eb5 _ _ _ _ hr⟩
 ·cases h
theorem dt4 (l:List aa2)(a b:Int):(rowsOf l a b).map (·.pkg)=l:=by
 induction l with
 | nil=>rfl
 | cons x xs ih=>show x::(rowsOf xs a b).map (·.pkg)=_;rw[ih]
def ac1 (p:Pool):List aa2:=p.rows.map (·.pkg)
theorem eb6:∀(rs:List ao2) (i:Nat),(bc9 i rs).map (·.pkg)=rs.flatMap (·.packages):=by
 intro rs
 induction rs with
 | nil=>intro i;rfl
 | cons r rs ih=>intro i;simp only[bc9,zt,ih,dt4,z3]
theorem gs6:∀(rs:List ao2),(rs.flatMap (·.packages)).length=am8 rs:=by
 intro rs
 induction rs with
 | nil=>rfl
 | cons r rs ih=>simp only[z3,zd,ih];rfl
theorem bq1 {repos:List ao2}{inst:List aa2}{p:Pool}(h:ce4 repos inst=.inl p):ac1 p=inst++repos.flatMap (·.packages):=by
 unfold ac1;rw[(eb4 h).1,zt,eb6];congr 1;exact dt4 _ _ _
theorem fh1 {repos:List ao2}{inst:List aa2}{p:Pool}(h:ce4 repos inst=.inl p):p.rows.length<=256:=by
 have e:p.rows.length=(ac1 p).length:=by simp[ac1]
 rw[e,bq1 h,zd,gs6];exact (cr4 h).2.1
theorem fh2 {repos:List ao2}{inst:List aa2}{p:Pool}(h:ce4 repos inst=.inl p):∀x∈ac1 p,aj7 x=true/\(x∈inst\/∃r∈repos,x∈r.packages):=by
 intro x hx;rw[bq1 h] at hx;obtain ⟨_,_,h1,h2⟩:=cr4 h;rcases zj.1 hx with hx|hx
 ·exact ⟨zp.1 h1 x hx,.inl hx⟩
 ·obtain ⟨r,hr,hxr⟩:=zf.1 hx;exact ⟨zp.1 (h2 r hr) x hxr,.inr ⟨r,hr,hxr⟩⟩
def EVR.tiny (e:EVR):Prop:=e.ver.length<=64/\e.rel.length<=64
theorem fh3 {s:Str}(h:az3 s=true):s.length<=64:=by
 unfold az3 at h;simp only[za,decide_eq_true_eq] at h;exact h.1.2
theorem fh4 {e:EVR}{b:Bool}(h:bi8 e b=true):e.tiny:=by
 unfold bi8 at h;simp only[za,zx,decide_eq_true_eq] at h;refine ⟨fh3 h.1.2,?_⟩;rcases h.2 with h|h
 ·exact fh3 h
 ·have:=List.isEmpty_iff.1 h.2;rw[this];exact Nat.zero_le _
theorem eb7 {d:Dep}(h:am2 d=true):0<=d.op/\d.op<256/\d.evr.tiny/\d.name.length<=64:=by
 unfold am2 at h;simp only[za] at h;obtain ⟨⟨h1,h2⟩,h3⟩:=h
 have hn:d.name.length<=64:=by
  unfold as4 at h1;simp only[za,decide_eq_true_eq] at h1;exact h1.1.1.2
 have ho:0<=d.op/\d.op<256:=by
  unfold eb1 at h2;simp only[List.contains_iff_mem,zc,List.not_mem_nil,or_false] at h2;omega
 refine ⟨ho.1,ho.2,?_,hn⟩;split at h3
 ·have:d.evr=hp5:=by simpa using h3
  rw[this];exact ⟨by decide,by decide⟩
 ·simp only[za] at h3;exact fh4 h3.2
structure aa2.Tiny (p:aa2):Prop where
 name:p.name.length<=64
 evr:p.evr.tiny
 at5:p.provides.length<=32/\∀d∈p.provides,0<=d.op/\d.op<256/\d.evr.tiny/\d.name.length<=64
 obs:p.aa7.length<=32/\∀d∈p.aa7,0<=d.op/\d.op<256/\d.evr.tiny/\d.name.length<=64
 files:p.files.length<=32
theorem fh5 {p:aa2}(h:aj7 p=true):p.Tiny:=by
 unfold aj7 at h;simp only[za,decide_eq_true_eq] at h;obtain ⟨⟨⟨⟨⟨⟨⟨⟨⟨⟨⟨⟨⟨⟨h1,_⟩,h3⟩,_⟩,_⟩,h6,h6'⟩,h7,h7'⟩,h8,_⟩,_⟩,_⟩,_⟩,_⟩,_⟩,_⟩,_⟩:=h;refine ⟨?_,fh4 h3,⟨h6,λd hd=>eb7 (zp.1 h6' d hd)⟩,⟨h7,λd hd=>eb7 (zp.1 h7' d hd)⟩,h8⟩;unfold as4 at h1;simp only[za,decide_eq_true_eq] at h1;exact h1.1.1.2
structure Job where
 kind:Int
 dep:Dep
 deriving DecidableEq,Inhabited
structure az4 where
 kind:Int
 n:Int
 deriving DecidableEq,Inhabited
structure Req where
 ap7:Int
 vendor:Bool
 af2:List Job
 ag5:List az4
 budget:Int
def Job.cs (j:Job):List IV:=[.int .u8 j.kind,.str j.dep.name,.int .u8 j.dep.op,.int .i64 j.dep.evr.am4,.str j.dep.evr.ver,.str j.dep.evr.rel]
def az4.cs (e:az4):List IV:=[.int .u8 e.kind,.int .i64 e.n]
abbrev as5 (l:List Job):IV:=.aa3 (l.map Job.cs)
abbrev ao7 (l:List az4):IV:=.aa3 (l.map az4.cs)
def Req.cs (r:Req):List IV:=[.int .u8 r.ap7,.bool r.vendor,as5 r.af2,ao7 r.ag5,.int .i64 r.budget]
def ak9 (q:Nat->Bool)(k:Nat):List Int:=((zn k).filter q).map λ(n:Nat)=>(n:Int)
theorem ax7 (q:Nat->Bool)(k:Nat):ak9 q (k+1)=ak9 q k++if q k then [(k:Int)] else []:=by
 unfold ak9;rw[zl,z1,zt];congr 1;simp only[List.filter_cons,List.filter_nil];split<;>rfl
theorem bq2 {q:Nat->Bool}{k:Nat}{n:Int}:n∈ak9 q k↔∃m:Nat,n=m/\m<k/\q m=true:=by
 unfold ak9;rw[zq];constructor
 ·rintro ⟨m,hm,rfl⟩;obtain ⟨h1,h2⟩:=zr.1 hm;exact ⟨m,rfl,ze.1 h1,h2⟩
 ·rintro ⟨m,rfl,h1,h2⟩;exact ⟨m,zr.2 ⟨ze.2 h1,h2⟩,rfl⟩
theorem ao4 (q:Nat->Bool)(k:Nat):(ak9 q k).length<=k:=by
 unfold ak9;rw[z8];exact qf (zz _ _) (by simp)
theorem if2 (q:Nat->Bool)(k:Nat):(ak9 q k).Pairwise (· < ·):=by
 unfold ak9;refine qc.map (R:=λ(a b:Nat)=>a<b) _ (λa b h=>by show (a:Int)<b;omega) ?_;exact qc.filter _ List.pairwise_lt_range
def bg8 (a:Int):Bool:=ak6 a&&!decide (a=1)
def ce9 (a b:Int):Bool:=bg8 a&&bg8 b&&!decide (a=b)
def av7 (a b:Int):Bool:=ak6 a&&ak6 b&&!ce9 a b
def az5 (m a:Int):Int :=
 if m=2 then (if a=1 then 2 else if a=2 then 1 else if a=3 then 3 else 0) else
 if m=3 then (if a=1 then 2 else if a=3 then 1 else 0) else
 if m=4 then (if a=1 then 2 else if a=4 then 1 else 0) else 0
def if3 (m a:Int):Bool:=decide (0<az5 m a)
structure ab3 where
 p:Pool
 r:Req
namespace ab3
variable (a:ab3)
def l:List aa2:=ac1 a.p
def pk (n:Int):aa2:=a.l.getD n.toNat default
def jb (n:Int):Job:=a.r.af2.getD n.toNat default
def is (n:Int):Bool:=decide (0<=n)&&decide (n<a.l.length)
def inst (n:Int):Bool:=a.is n&&decide (n<a.p.inst)
def job (n:Int):Bool:=decide (0<=n)&&decide (n<a.r.af2.length)
def fits (n:Int):Bool:=a.is n&&if3 a.r.ap7 (a.pk n).ap7
def fh6 (p q:aa2):Bool:=decide (p.name=q.name)&&!(ce9 p.ap7 q.ap7&&decide (aq4 p.evr q.evr=0))
def twins (n m:Int):Bool:=a.is n&&a.is m&&!decide (n=m)&&fh6 (a.pk n) (a.pk m)
def ba4 (k n:Int):Bool:=decide ((⟨k,n⟩:az4)∈a.r.ag5)
def dropped (n:Int):Bool:=a.job n&&a.ba4 1 n
def ax8 (k n:Int):Bool:=(zn a.r.af2.length).any λi=>decide ((a.jb i).kind=k)&&!a.dropped i&&decide (n∈ak8 a.l (a.jb i).dep)
def goes (i:Int):Bool:=a.inst i&&(a.ax8 2 i||a.ba4 2 i)
def eb8 (vendor down other:Bool)(old q:aa2):Bool:=decide (q.name=old.name)&&(down||decide (0<=aq4 q.evr old.evr))&&(other||av7 q.ap7 old.ap7)&&(vendor||decide (q.vendor=old.vendor))
def ka3 (i:Int)(q:aa2):Bool:=eb8 a.r.vendor (a.ba4 3 i||a.ax8 4 i) (a.ba4 4 i) (a.pk i) q
def an4 (i:Int):List Int:=if a.inst i then ak9 (λn=>decide ((n:Int)=i)||a.ka3 i (a.pk n)||(!decide ((n:Int)=i)&&aa7 (a.pk n) (a.pk i))) a.l.length else []
def bx7 (i:Int):List Int:=(a.an4 i).filter λn=>!(a.inst n || !a.fits n)
def meant (j:Int):List Int:=if a.job j then (if (a.jb j).kind=1 then ag1 a.l (a.jb j).dep else if (a.jb j).kind=2 then ak8 a.l (a.jb j).dep else (ak8 a.l (a.jb j).dep).filter λn=>a.inst n) else []
def some (state l:List Int):Bool:=l.any λn=>decide (n∈state)
def eb9 (j:Int)(state:List Int):Bool:=!a.job j ||
 if (a.jb j).kind=1 then some state (a.meant j) else if (a.jb j).kind=2 then !some state (a.meant j) else
 if (a.jb j).kind=3 then !(a.meant j).any λi=>!some state (a.an4 i) else
 !(a.meant j).any λi=>decide (0<(a.bx7 i).length)&&!some state (a.bx7 i)
def cs:List IV:=[a.p.v,(ad8 a.l).v,.int .u8 a.r.ap7,.bool a.r.vendor,as5 a.r.af2,ao7 a.r.ag5,.int .i64 a.r.budget,.aa3 (a.l.map aa2.cs)]
def v:IV:=.ab8 a.cs
end ab3
def au5 (e:az4)(af2 inst:Int):Bool:=decide (1<=e.kind)&&decide (e.kind<=4)&&decide (0<=e.n)&&decide (e.n<if e.kind=1 then af2 else inst)
def av8 (j:Job):Bool:=decide (1<=j.kind)&&decide (j.kind<=4)&&am2 j.dep
def aj4 (r:Req)(inst:Int):Int :=
 if bg8 r.ap7=false\/r.budget<0\/1099511627776<r.budget then 1 else
 if 64<r.af2.length\/64<r.ag5.length then 40 else
 if r.af2.all av8=false then 4 else
 if r.ag5.all (λe=>au5 e r.af2.length inst)=false then 5 else 0
def jk8 (p:Pool)(r:Req):IV:=if aj4 r p.inst=0 then .tuple [(ab3.mk p r).v,.int .i64 0] else .tuple [.ae3,.int .i64 (aj4 r p.inst)]
theorem cy6 (a b:Int):ar1 b a=- ar1 a b:=by
 unfold ar1;split<;>split<;>(try split)<;>(try split)<;>omega
theorem bd2 {a b:Int}:ar1 a b=0↔a=b:=by
 unfold ar1;split
 ·constructor
  ·intro h;omega
  ·intro h;omega
 ·split
  ·simp_all
  ·constructor
   ·intro h;omega
   ·intro h;contradiction
theorem cy7:∀(x y:List UInt8),Op.bytesLess x y=decide (x<y)
 | [],[]=>by simp[Op.bytesLess]
 | _::_,[]=>by simp[Op.bytesLess]
 | [],_::_=>by simp[Op.bytesLess]
 | a::x,b::y=>by
  simp only[Op.bytesLess,cy7 x y,List.cons_lt_cons_iff];by_cases h:a<b
  ·simp[h]
  ·by_cases h2:a=b
   ·subst h2;simp
   ·simp[h,h2]
theorem jr7 (a b:Str):Op.bytesLess a b=true/\Op.bytesLess b a=false/\a≠b\/a=b/\Op.bytesLess a b=false\/Op.bytesLess b a=true/\Op.bytesLess a b=false/\a≠b:=by
 simp only[cy7,decide_eq_true_eq,decide_eq_false_iff_not];rcases qi (a<b) with h|h
 ·exact .inl ⟨h,λh2=>List.lt_asymm h h2,λe=>List.lt_irrefl a (by rw[<- e] at h;exact h)⟩
 ·rcases qi (b<a) with h2|h2
  ·exact .inr (.inr ⟨h2,h,λe=>List.lt_irrefl a (by rw[<- e] at h2;exact h2)⟩)
  ·exact .inr (.inl ⟨List.le_antisymm (qg.1 h2) (qg.1 h),h⟩)
theorem fh7 (a b:Str):cr3 b a=- cr3 a b:=by
 unfold cr3;rcases jr7 a b with ⟨h1,h2,h3⟩|⟨rfl,h⟩|⟨h1,h2,h3⟩
 ·rw[h1,h2,if_neg (by simp),if_neg (λe=>h3 e.symm),if_pos rfl];rfl
 ·rw[h];simp
 ·rw[h1,h2,if_pos rfl,if_neg (by simp),if_neg h3]
theorem de2 (a b:Part):af1 b a=- af1 a b:=by
 unfold af1;simp only[cy6 (a.kind:Int) b.kind,cy6 (a.s.length:Int) b.s.length,fh7 a.s b.s];have e:(b.kind=5/\a.kind=5)↔(a.kind=5/\b.kind=5):=And.comm;by_cases h1:ar1 (a.kind:Int) b.kind=0
 ·simp only[h1,Int.neg_zero,ne_eq,not_true_eq_false,if_false,e];by_cases h2:a.kind=5/\b.kind=5
  ·simp only[h2,and_self,if_true];by_cases h3:ar1 (a.s.length:Int) b.s.length=0
   ·simp[h3]
   ·have h4:¬ - ar1 (a.s.length:Int) b.s.length=0:=om;simp[h3,h4]
  ·simp[h2]
 ·have h2:¬ - ar1 (a.kind:Int) b.kind=0:=om;simp[h1,h2]
theorem em3:∀(a b:List Part),ag2 b a=- ag2 a b:=by
 intro a
 induction a with
 | nil=>intro b;cases b<;>rfl
 | cons x a ih=>
  intro b
  cases b with
  | nil=>rfl
  | cons y b=>
   simp only[ag2,de2 x y];by_cases h:af1 x y=0
   ·simp[h,ih b]
   ·have h2:¬ - af1 x y=0:=om;simp[h,h2]
theorem cr5 (a b:Str):ap9 b a=- ap9 a b:=em3 _ _
theorem gd1 (a b:EVR):aq4 b a=- aq4 a b:=by
 unfold aq4;rw[cy6 a.am4 b.am4,cr5 a.ver b.ver,cr5 a.rel b.rel];by_cases h1:ar1 a.am4 b.am4=0
 ·by_cases h2:ap9 a.ver b.ver=0
  ·simp only[h1,h2,Int.neg_zero,ne_eq,not_true_eq_false,if_false];by_cases h3:a.rel=[]\/b.rel=[]
   ·rw[if_pos h3,if_pos h3.symm];rfl
   ·rw[if_neg h3,if_neg (λh=>h3 h.symm)]
  ·have h3:¬ - ap9 a.ver b.ver=0:=om;simp[h1,h2,h3]
 ·have h3:¬ - ar1 a.am4 b.am4=0:=om;simp[h1,h3]
namespace ab3
variable (a:ab3)
theorem dt5 (n:Nat):a.is n=decide (n<a.l.length):=by
 unfold is;have:(0:Int)<=n:=om;simp only[this,decide_true,Bool.true_and];exact decide_eq_decide.2 om
theorem az6 (i:Int):(a.an4 i).length<=a.l.length:=by
 unfold an4;split
 ·exact ao4 _ _
 ·exact Nat.zero_le _
theorem if4 {i n:Int}(h:n∈a.an4 i):a.inst i=true/\∃m:Nat,n=m/\m<a.l.length:=by
 unfold an4 at h;split at h
 ·rename_i hi;obtain ⟨m,e,h1,_⟩:=bq2.1 h;exact ⟨hi,m,e,h1⟩
 ·cases h
theorem ec1 {i n:Int}(h:n∈a.bx7 i):n∈a.an4 i/\a.inst n=false/\a.fits n=true:=by
 obtain ⟨h1,h2⟩:=zr.1 h;cases h3:a.inst n<;>cases h4:a.fits n<;>simp_all
theorem ec2 (i:Int):(a.bx7 i).length<=a.l.length:=qf (zz _ _) (a.az6 i)
end ab3
namespace ab3
variable (a:ab3)
theorem ih8 {j n:Int}(h:n∈a.meant j):∃m:Nat,n=m/\m<a.l.length:=by
 have hn:∀ {q:aa2->Bool} {n:Int},n∈numsOf q a.l->∃m:Nat,n=m/\m<a.l.length:=λh=>let ⟨m,e,h1,_⟩:=am5.1 h;⟨m,e,h1⟩
 unfold meant at h;split at h
 ·split at h
  ·exact hn h
  ·split at h
   ·exact hn h
   ·exact hn (zr.1 h).1
 ·cases h
variable (x:az4)
variable {x} (hx:x.kind≠1)
include hx
end ab3
structure WO {α:Type} (S:α->Prop) (f:α->α->Int):Prop where
 neg:∀a b,f b a=- f a b
 tr:∀a b c,S a->S b->S c->f a b<=0->f b c<=0->f a c<=0
def lex (x y:Int):Int:=if x=0 then y else x
theorem jc6 (x y:Int):lex (-x) (-y)=- lex x y:=by unfold lex;split<;>split<;>omega
theorem WO.lex {α:Type}{S:α->Prop}{f g:α->α->Int}(hf:WO S f)(hg:WO S g):WO S λa b=>Md.lex (f a b) (g a b) where
 neg:=λa b=>by show Md.lex (f b a) (g b a)=_;rw[hf.neg,hg.neg,jc6]
 tr:=λa b c sa sb sc h1 h2=>by
  have k1:=hf.tr a b c sa sb sc;have k2:=hf.tr c a b sc sa sb;have k3:=hf.tr b c a sb sc sa;have k4:=hg.tr a b c sa sb sc;have n1:=hf.neg a b;have n2:=hf.neg b c;have n3:=hf.neg a c;unfold Md.lex at *;split at h1<;>split at h2<;>split<;>omega
theorem WO.of {α β:Type}{S:β->Prop}{f:β->β->Int}(hf:WO S f)(g:α->β):WO (λa=>S (g a)) λa b=>f (g a) (g b) where
 neg:=λa b=>hf.neg _ _
 tr:=λa b c sa sb sc=>hf.tr _ _ _ sa sb sc
theorem WO.flip {α:Type}{S:α->Prop}{f:α->α->Int}(hf:WO S f):WO S λa b=>f b a where
 neg:=λa b=>hf.neg b a
 tr:=λa b c sa sb sc h1 h2=>hf.tr c b a sc sb sa h2 h1
theorem WO.sub {α:Type}{S T:α->Prop}{f:α->α->Int}(hf:WO S f)(h:∀a,T a->S a):WO T f:=⟨hf.neg,λa b c sa sb sc=>hf.tr a b c (h a sa) (h b sb) (h c sc)⟩
theorem fh9:WO (λ_=>True) ar1 where
 neg:=λa b=>cy6 a b
 tr:=λa b c _ _ _ h1 h2=>by
  unfold ar1 at *;split at h1<;>split at h2<;>split<;>(try split at h1)<;>(try split at h2)<;>(try split)<;>omega
theorem ex5 {a b:Str}:cr3 a b<=0↔a<=b:=by
 unfold cr3;rcases jr7 a b with ⟨h1,h2,h3⟩|⟨rfl,h⟩|⟨h1,h2,h3⟩
 ·rw[h1,if_pos rfl];rw[cy7,decide_eq_true_eq] at h1;exact ⟨λ_=>List.le_of_lt h1,λ_=>by decide⟩
 ·rw[h];simp[List.le_refl]
 ·rw[h2,if_neg (by simp),if_neg h3];rw[cy7,decide_eq_true_eq] at h1;exact ⟨λh=>absurd h (by decide),λh=>absurd h1 (qg.2 h)⟩
theorem jr8:WO (λ_=>True) cr3 where
 neg:=λa b=>fh7 a b
 tr:=λa b c _ _ _ h1 h2=>ex5.2 (List.le_trans (ex5.1 h1) (ex5.1 h2))
def cy8 (a b:Part):Int:=lex (ar1 a.kind b.kind) (lex (ar1 (if a.kind=5 then (a.s.length:Int) else 0) (if b.kind=5 then (b.s.length:Int) else 0)) (cr3 a.s b.s))
theorem dt6 (a b:Part):af1 a b=cy8 a b:=by
 unfold af1 cy8 lex;by_cases h:ar1 (a.kind:Int) b.kind=0
 ·have e:=bd2.1 h;have e':a.kind=b.kind:=om;simp only[h,ne_eq,not_true_eq_false,if_false,if_true,e'];by_cases k5:b.kind=5
  ·simp only[k5,and_self,if_true];split<;>simp_all
  ·have z:ar1 0 0=0:=by decide
   simp[k5,z]
 ·simp[h]
theorem cr6:WO (λ_=>True) af1:=by
 have h:af1=cy8:=by funext a b;exact dt6 a b
 rw[h];exact (fh9.of (λa:Part=>(a.kind:Int))).lex ((fh9.of (λa:Part=>if a.kind=5 then (a.s.length:Int) else 0)).lex (jr8.of Part.s))
theorem cf1 {a b:Part}(h:af1 a b=0):a.kind=b.kind:=by
 rw[dt6] at h;unfold cy8 lex at h;split at h
 ·rename_i e;have:=bd2.1 e;omega
 ·contradiction
abbrev di3:Part:=⟨2,[]⟩
theorem ax9 (x y:Part)(a b:List Part):ag2 (x::a) (y::b)=lex (af1 x y) (ag2 a b):=by
 show (if af1 x y≠0 then af1 x y else ag2 a b)=_;unfold lex;split<;>simp_all
theorem bj3 (a:List Part):ag2 [] a=0:=by cases a<;>rfl
theorem bw2 (a:List Part):ag2 a []=0:=by cases a<;>rfl
theorem if5:∀(a b c:List Part),(∀x∈a,x.kind≠2)->(∀x∈b,x.kind≠2)->(∀x∈c,x.kind≠2) ->
  ag2 (a++[di3]) (b++[di3])<=0->ag2 (b++[di3]) (c++[di3])<=0->ag2 (a++[di3]) (c++[di3])<=0:=by
 have hd:∀(x y z:Part) (r s t:Int),lex (af1 x y) r<=0->lex (af1 y z) s<=0->(af1 x y=0->af1 y z=0->r<=0->s<=0->t<=0)->lex (af1 x z) t<=0:=λx y z r s t h1 h2 h3=>by
  have k1:=cr6.tr x y z trivial trivial trivial;have k2:=cr6.tr z x y trivial trivial trivial;have k3:=cr6.tr y z x trivial trivial trivial;have n1:=cr6.neg x y;have n2:=cr6.neg y z;have n3:=cr6.neg x z;unfold lex at *;split at h1<;>split at h2<;>split<;>first|omega|exact h3 (by assumption) (by assumption) h1 h2
 intro a
 induction a with
 | nil=>
  intro b c _ hb hc h1 h2
  cases b with
  | nil=>exact h2
  | cons y b=>
   cases c with
   | nil=>simp only[zm,ax9,bj3];decide
   | cons z c=>
    simp only[zm,zo,ax9,bj3] at *;refine hd _ y z _ _ _ h1 h2 λe _ _ _=>?_
    exact absurd (cf1 e).symm (hb y zk)
 | cons x a ih=>
  intro b c ha hb hc h1 h2
  cases b with
  | nil=>
   simp only[zm,zo,ax9,bj3,bw2] at h1
   cases c with
   | nil=>simp only[zm,zo,ax9,bj3,bw2];exact h1
   | cons z c=>
    simp only[zm,zo,ax9,bj3,bw2] at *;refine hd x di3 z _ _ _ h1 h2 λe _ _ _=>?_
    exact absurd (cf1 e) (ha x zk)
  | cons y b=>
   cases c with
   | nil=>
    simp only[zm,zo,ax9,bj3,bw2] at *;refine hd x y di3 _ _ _ h1 h2 λ_ e _ _=>?_
    exact absurd (cf1 e) (hb y zk)
   | cons z c=>
    simp only[zo,ax9] at *;refine hd x y z _ _ _ h1 h2 λ_ _ r s=>?_
    exact ih b c (λp hp=>ha p (zg _ hp)) (λp hp=>hb p (zg _ hp)) (λp hp=>hc p (zg _ hp)) r s
theorem fi1 (b:UInt8):ad1 b≠2:=by
 unfold ad1
 repeat (first|split|omega)
theorem bq3 (s:Str):∀x∈ab5 s,x.kind≠2:=by
 unfold ab5
 have : ∀n s,∀x∈au8 n s,x.kind≠2:=by
  intro n
  induction n with
  | zero=>intro s x hx;cases hx
  | succ n ih=>
   intro s x hx
   cases s with
   | nil=>cases hx
   | cons b l=>
    simp only[au8] at hx;split at hx
    ·exact ih _ x hx
    ·split at hx
     ·rcases zc.1 hx with rfl|hx
      ·exact fi1 b
      ·exact ih _ x hx
     ·rcases zc.1 hx with rfl|hx
      ·exact fi1 b
      ·exact ih _ x hx
 exact this _ s
theorem is2:WO (λ_=>True) ap9 where
 neg:=λa b=>cr5 a b
 tr:=λa b c _ _ _ h1 h2=>if5 _ _ _ (bq3 a) (bq3 b) (bq3 c) h1 h2
theorem jr9:WO (λe:EVR=>e.rel≠[]) aq4 where
 neg:=λa b=>gd1 a b
 tr:=by
  have h:=(fh9.of EVR.am4).lex ((is2.of EVR.ver).lex (is2.of EVR.rel))
  have e:∀a b:EVR,a.rel≠[]->b.rel≠[]->aq4 a b=lex (ar1 a.am4 b.am4) (lex (ap9 a.ver b.ver) (ap9 a.rel b.rel)):=λa b ha hb=>by
   unfold aq4 lex;have hn:¬(a.rel=[]\/b.rel=[]):=by simp[ha,hb]
   rw[if_neg hn];by_cases h1:ar1 a.am4 b.am4=0<;>by_cases h2:ap9 a.ver b.ver=0<;>simp[h1,h2]
  intro a b c ha hb hc;rw[e a b ha hb,e b c hb hc,e a c ha hc];exact h.tr a b c trivial trivial trivial
def js1 (k:Int):Nat:=if k=4 then 3 else if k=5 then 3 else if k=7 then 2 else 24
def de3 (k:Int)(d:Dep)(n:Nat):Bool:=decide (1<k)&&decide (k<=7)&&decide (d=di2)&&decide (2<=n)&&decide (n<=js1 k)
mutual
def aa6.ms:aa6->Nat×Nat×Bool
 | .mk k d aZ=>if k=1 then (1,0,decide (aZ.length=0)&&am2 d) else ((aa6.msL aZ 1 0 (de3 k d aZ.length)).1,(aa6.msL aZ 1 0 (de3 k d aZ.length)).2.1+1,(aa6.msL aZ 1 0 (de3 k d aZ.length)).2.2)
def aa6.msL:List aa6->Nat->Nat->Bool->Nat×Nat×Bool
 | [],p,d,ok=>(p,d,ok)
 | r::rs,p,d,ok=>if ok=true then aa6.msL rs (p+r.ms.1) (max d r.ms.2.1) r.ms.2.2 else (p,d,false)
end
def cf2 (r:aa6):Bool:=r.ms.2.2&&decide (r.ms.1<=24)&&decide (r.ms.2.1<=8)
theorem aa6.is3:∀(aZ:List aa6) (p d:Nat) (ok:Bool),(aa6.msL aZ p d ok).2.2=true->ok=true/\∀a∈aZ,a.ms.2.2=true:=by
 intro aZ
 induction aZ with
 | nil=>intro p d ok h;exact ⟨h,λ_ h=>by cases h⟩
 | cons r rs ih=>
  intro p d ok h;simp only[aa6.msL] at h;split at h
  ·rename_i hk;obtain ⟨h1,h2⟩:=ih _ _ _ h;refine ⟨hk,λa ha=>?_⟩;rcases zc.1 ha with rfl|ha
   ·exact h1
   ·exact h2 a ha
  ·cases h
abbrev ff:List Bool->Bool:=λ_=>false
def kh3 (c n:Nat):List Bool:=(zn c).map λm=>decide (m=n)
def stB (c:Nat)(zs:List Int):List Bool:=(zn c).map λ(m:Nat)=>decide ((m:Int)∈zs)
def kl2 (st:List Bool)(f:Nat->Bool):Bool:=(zn st.length).any λn=>st.getD n false&&f n
def trK (l:List aa2)(k:Int)(d:Dep)(fs:List (List Bool->Bool))(st:List Bool):Bool :=
 if k=1 then (ag1 l d).any λn=>st.getD n.toNat false
 else if k=2 then fs.all λf=>f st
 else if k=3 then fs.any λf=>f st
 else if k=4 then (if (fs.getD 1 ff) st then (fs.getD 0 ff) st else decide (fs.length<3)||(fs.getD 2 ff) st)
 else if k=5 then (if (fs.getD 1 ff) st then decide (fs.length=3)&&(fs.getD 2 ff) st else (fs.getD 0 ff) st)
 else if k=6 then kl2 st λn=>fs.all λf=>f (kh3 st.length n)
 else kl2 st λn=>(fs.getD 0 ff) (kh3 st.length n)&&!(fs.getD 1 ff) (kh3 st.length n)
mutual
def aa6.tr (l:List aa2):aa6->List Bool->Bool
 | .mk k d aZ,st=>trK l k d (aa6.trs l aZ) st
def aa6.trs (l:List aa2):List aa6->List (List Bool->Bool)
 | []=>[]
 | r::rs=>(λst=>r.tr l st)::aa6.trs l rs
end
def kl3 (l:List aa2)(zs:List Int)(r:aa6):Bool:=cf2 r&&r.tr l (stB l.length zs)
structure kh4 where
 a:ab3
 js7:List Bool
def ec3 (b:Bool):List IV:=[.bool b]
namespace kh4
variable (o:kh4)
def cs:List IV:=[o.a.v,o.a.p.v,.int .u8 o.a.r.ap7,.aa3 (o.a.l.map aa2.cs),.aa3 (o.js7.map ec3)]
def v:IV:=.ab8 o.cs
def lk (n:Int):Bool:=o.js7.getD n.toNat false
def ka4 (b:Bool):Int:=if b then 0 else 1
def prio (n:Int):Int:=(o.a.p.rows.getD n.toNat ⟨default,0,0⟩).prio
def cmp (n m:Int):Int :=
 lex (ar1 (ka4 (o.a.fits n)) (ka4 (o.a.fits m))) (lex (ar1 (az5 o.a.r.ap7 (o.a.pk n).ap7) (az5 o.a.r.ap7 (o.a.pk m).ap7)) (lex (ar1 (o.prio m) (o.prio n))
  (lex (ar1 (ka4 (o.lk n)) (ka4 (o.lk m))) (lex (aq4 (o.a.pk m).evr (o.a.pk n).evr) (ar1 n m)))))
theorem wo:WO (λn=>(o.a.pk n).evr.rel≠[]) o.cmp:=by
 have hi {g:Int->Int}:WO (λn=>(o.a.pk n).evr.rel≠[]) λa b=>ar1 (g a) (g b):=(fh9.of g).sub λ_ _=>trivial
 exact hi.lex (hi.lex ((hi (g:=o.prio)).flip.lex (hi.lex ((jr9.of λn=>(o.a.pk n).evr).flip.lex (hi (g:=λn=>n))))))
variable (hr:∀n,o.a.is n=true->(o.a.pk n).evr.rel≠[])
include hr
theorem lt_trans {a b c:Int}(ha:o.a.is a=true)(hb:o.a.is b=true)(hc:o.a.is c=true)(h1:o.cmp a b<0)(h2:o.cmp b c<0):o.cmp a c<0:=by
 have k1:=o.wo.tr a b c (hr a ha) (hr b hb) (hr c hc);have k2:=o.wo.tr c a b (hr c hc) (hr a ha) (hr b hb);have n1:=o.wo.neg a b;have n2:=o.wo.neg b c;have n3:=o.wo.neg a c;omega
end kh4
end Go.Id.Md
namespace Go.Id.Md
open Go Go.Id
def bz8 (wh:Int)(k:Int)(d:Dep)(n:Nat)(alone:Bool):Bool :=
 if k=1 then decide (n=0)&&am2 d else
 (if k=2\/k=3\/k=6 then decide (2<=n) else if k=7 then decide (n=2) else
  if k=4 then (decide (n=2)||decide (n=3))&&!alone&&decide (wh=1) else
  if k=5 then (decide (n=2)||decide (n=3))&&!alone&&decide (wh<=2) else false)&&decide (d=di2)
mutual
def aa6.an5 (wh:Int):aa6->Bool->Bool
 | .mk k d aZ,alone=>bz8 wh k d aZ.length alone&&(aa6.dt7 wh aZ (alone||decide (k=6)||decide (k=7)))
def aa6.dt7 (wh:Int):List aa6->Bool->Bool
 | [],_=>true
 | r::rs,alone=>r.an5 wh alone&&aa6.dt7 wh rs alone
end
theorem aa6.bc2 (wh:Int)(l:List aa6)(alone:Bool):aa6.dt7 wh l alone=l.all λr=>r.an5 wh alone:=by
 induction l with
 | nil=>rfl
 | cons r l ih=>simp only[aa6.dt7,qb,ih]
theorem jc7 {wh:Int}(h1:1<=wh)(h3:wh<=3)(k:Int)(d:Dep)(aZ:List aa6)(alone:Bool)(hn:aZ.length<=24):bz8 wh k d aZ.length alone=ai5 wh (.mk k d aZ) alone:=by
 unfold bz8 ai5 asks;simp only[aa6.kind,aa6.args,aa6.dep];rw[zy];by_cases e1:k=1
 ·subst e1;simp only[if_true];have:¬(3:Int)<wh:=om;cases am2 d<;>cases alone<;>simp[this]<;>omega
 by_cases e2:k=2
 ·subst e2;have:¬(3:Int)<wh:=om;by_cases hd:d=di2<;>cases alone<;>simp[this,hd]<;>omega
 by_cases e3:k=3
 ·subst e3;have:¬(3:Int)<wh:=om;by_cases hd:d=di2<;>cases alone<;>simp[this,hd]<;>omega
 by_cases e4:k=4
 ·subst e4;by_cases hd:d=di2<;>cases alone<;>by_cases hw:(1:Int)<wh<;>simp[hd,hw]<;>omega
 by_cases e5:k=5
 ·subst e5;by_cases hd:d=di2<;>cases alone<;>by_cases hw:(2:Int)<wh<;>simp[hd,hw]<;>omega
 by_cases e6:k=6
 ·subst e6;have:¬(3:Int)<wh:=om;by_cases hd:d=di2<;>cases alone<;>simp[this,hd]<;>omega
 by_cases e7:k=7
 ·subst e7;have:¬(3:Int)<wh:=om;by_cases hd:d=di2<;>cases alone<;>simp[this,hd]<;>omega
 have:(0:Int)<wh:=om;simp[e1,e2,e3,e4,e5,e6,e7,this]
theorem aa6.bc3 {l:List aa6}{r:aa6}(h:r∈l):r.count<=aa6.counts l:=by
 induction l with
 | nil=>cases h
 | cons x l ih=>
  simp only[aa6.counts];rcases zc.1 h with rfl|h
  ·omega
  ·have:=ih h;omega
theorem aa6.gs7 (r:aa6):1<=r.count:=by cases r;simp only[aa6.count];omega
theorem aa6.bw3 (l:List aa6):l.length<=aa6.counts l:=by
 induction l with
 | nil=>exact z6 _
 | cons x l ih=>simp only[aa6.counts,z5];have:=x.gs7;omega
theorem aa6.gd2 {wh:Int}(h1:1<=wh)(h3:wh<=3)(r:aa6):r.count<=24->∀alone,r.an5 wh alone=(r.parts alone).all λp=>ai5 wh p.1 p.2:=by
 refine aa6.ind (p:=λr=>r.count<=24->∀alone,r.an5 wh alone=(r.parts alone).all λp=>ai5 wh p.1 p.2) (λk d aZ ih hc alone=>?_) r;simp only[aa6.count] at hc;simp only[aa6.an5,aa6.parts,qb];have:=aa6.bw3 aZ;rw[jc7 h1 h3 k d aZ alone om];congr 1;generalize (alone||decide (k=6)||decide (k=7))=al
 have:∀l:List aa6,(∀x∈l,x∈aZ)->aa6.dt7 wh l al=(aa6.bi9 l al).all λp=>ai5 wh p.1 p.2:=by
  intro l
  induction l with
  | nil=>intro _;rfl
  | cons x l ih2=>
   intro h;have hx:=h x zk;simp only[aa6.dt7,aa6.bi9,List.all_append];rw[ih x hx (by have:=aa6.bc3 hx;omega),ih2 λy hy=>h y (zg _ hy)]
 exact this aZ λ_ h=>h
theorem bm3 (r:aa6)(wh:Int):ao3 r wh=if wh<1\/3<wh then 1 else if r.count>24 then 40 else if r.depth>8 then 21 else if r.an5 wh false=false then 4 else 0:=by
 unfold ao3;by_cases h1:wh<1\/3<wh
 ·rw[if_pos h1,if_pos h1]
 rw[if_neg h1,if_neg h1];by_cases h2:r.count>24
 ·rw[if_pos h2,if_pos h2]
 rw[if_neg h2,if_neg h2];by_cases h3:r.depth>8
 ·rw[if_pos h3,if_pos h3]
 rw[if_neg h3,if_neg h3,aa6.gd2 om om r om];cases h:(r.parts false).all λp=>ai5 wh p.1 p.2<;>simp
end Go.Id.Md
namespace Go.Id.Md
open Go Go.Id
def headD (k:Int)(n:Nat):Bool :=
 if k=2\/k=3\/k=6 then decide (2<=n) else if k=4\/k=5 then decide (n=2\/n=3) else if k=7 then decide (n=2) else false
mutual
def aa6.part:aa6->Bool
 | .mk k d aZ=>if k=1 then am2 d&&decide (aZ.length=0) else headD k aZ.length&&(aa6.gs8 aZ&&decide (d=di2))
def aa6.gs8:List aa6->Bool
 | []=>true
 | r::rs=>r.part&&aa6.gs8 rs
end
theorem aa6.em4 (aZ:List aa6):aa6.gs8 aZ=aZ.all aa6.part:=by
 induction aZ with
 | nil=>rfl
 | cons r rs ih=>simp only[aa6.gs8,qb,ih]
theorem aa6.gs9 (aZ:List aa6):∀p d:Nat,(∀a∈aZ,a.ms=(a.count,a.depth,true))->aa6.msL aZ p d true=(p+aa6.counts aZ,max d (aa6.bf4 aZ),true):=by
 induction aZ with
 | nil=>intro p d _;simp[aa6.msL,aa6.counts,aa6.bf4]
 | cons r rs ih=>
  intro p d h;have hr:=h r zk;simp only[aa6.msL,if_pos,hr,aa6.counts];rw[ih _ _ λa ha=>h a (zg _ ha)];simp only[aa6.bf4,Nat.add_assoc,Nat.max_assoc]
theorem aa6.ex6 (r:aa6):r.ms.2.2=true->r.ms=(r.count,r.depth,true):=by
 induction r using aa6.ind with
 | h k d aZ ih=>
  intro h;unfold aa6.ms at h ⊢;by_cases hk:k=1
  ·rw[if_pos hk] at h ⊢;simp only[za,decide_eq_true_eq] at h;have e:aZ=[]:=List.length_eq_zero_iff.1 h.1;subst e;simp[aa6.count,aa6.counts,aa6.depth,hk,h.2]
  ·rw[if_neg hk] at h ⊢;obtain ⟨h1,h2⟩:=aa6.is3 _ _ _ _ h;have e:=aa6.gs9 aZ 1 0 λa ha=>ih a ha (h2 a ha)
   rw[h1] at h ⊢;rw[e];simp only[aa6.count,aa6.depth,hk,if_false];rw[Nat.zero_max,Nat.add_comm]
theorem if6 {k:Int}{n:Nat}(hn:n<=24)(d:Dep)(h1:k≠1):de3 k d n=(headD k n&&decide (d=di2)):=by
 by_cases hk:k=2\/k=3\/k=4\/k=5\/k=6\/k=7
 ·by_cases hd:d=di2
  ·rw[zy];unfold de3 headD js1;rcases hk with rfl|rfl|rfl|rfl|rfl|rfl<;>simp only[hd,za,decide_eq_true_eq,Int.reduceEq,false_or,or_false,or_self,true_or,or_true,if_true,if_false,reduceCtorEq,decide_true,and_true,true_and,Int.reduceLT,Int.reduceLE]<;>omega
  ·simp[de3,hd]
 ·have e1:¬(k=2\/k=3\/k=6):=om;have e2:¬(k=4\/k=5):=om;have e3:¬k=7:=om;unfold headD;rw[if_neg e1,if_neg e2,if_neg e3,Bool.false_and];unfold de3;by_cases h:1<k
  ·simp[show ¬k<=7 by omega]
  ·simp[h]
theorem aa6.js2 (aZ:List aa6):aZ.length<=aa6.counts aZ:=by
 induction aZ with
 | nil=>simp[aa6.counts]
 | cons r rs ih=>cases r;simp only[aa6.counts,aa6.count,z5];omega
theorem aa6.gt1 (r:aa6):r.count<=24->r.part=r.ms.2.2:=by
 induction r using aa6.ind with
 | h k d aZ ih=>
  intro hc;simp only[aa6.count] at hc;have hl:=aa6.js2 aZ;unfold aa6.part aa6.ms;by_cases hk:k=1
  ·rw[if_pos hk,if_pos hk,qd]
  ·rw[if_neg hk,if_neg hk,aa6.em4,zy];have hd:=if6 (k:=k) (n:=aZ.length) om d hk;have ih':∀a∈aZ,a.part=a.ms.2.2:=λa ha=>ih a ha (by have:=aa6.bc3 ha;omega)
   simp only[za,zp];constructor
   ·rintro ⟨h1,h2,h3⟩;have e:=aa6.gs9 aZ 1 0 λa ha=>aa6.ex6 a (by rw[<- ih' a ha];exact h2 a ha)
    rw[hd,h1,h3,Bool.and_self,e]
   ·intro h;obtain ⟨h1,h2⟩:=aa6.is3 _ _ _ _ h;rw[hd,za] at h1;exact ⟨h1.1,λa ha=>by rw[ih' a ha];exact h2 a ha,h1.2⟩
theorem gt2 (r:aa6):cf2 r=(r.part&&decide (r.count<=24)&&decide (r.depth<=8)):=by
 unfold cf2;rw[zy];simp only[za,decide_eq_true_eq];constructor
 ·rintro ⟨⟨h1,h2⟩,h3⟩;have e:=aa6.ex6 r h1;rw[e] at h2 h3;exact ⟨⟨by rw[aa6.gt1 r h2];exact h1,h2⟩,h3⟩
 ·rintro ⟨⟨h1,h2⟩,h3⟩;rw[aa6.gt1 r h2] at h1;have e:=aa6.ex6 r h1;rw[e];exact ⟨⟨rfl,h2⟩,h3⟩
end Go.Id.Md
namespace Go.Id.Md
open Go Go.Id
theorem aa6.gt3 (wh:Int)(r:aa6):∀alone:Bool,r.an5 wh alone=true->r.part=true:=by
 induction r using aa6.ind with
 | h k d aZ ih=>
  intro alone h;simp only[aa6.an5,za,aa6.bc2,zp] at h;obtain ⟨h1,h2⟩:=h;unfold bz8 at h1;unfold aa6.part;by_cases hk:k=1
  ·rw[if_pos hk] at h1 ⊢;rw[qd];exact h1
  ·rw [if_neg hk] at h1 ⊢;rw[za] at h1
   have hp:aa6.gs8 aZ=true:=by
    rw[aa6.em4,zp];exact λx hx=>ih x hx _ (h2 x hx)
   rw[hp,h1.2,Bool.and_true,Bool.and_true];have h3:=h1.1;unfold headD;by_cases e1:k=2\/k=3\/k=6
   ·rw[if_pos e1] at h3 ⊢;exact h3
   ·rw [if_neg e1] at h3 ⊢;by_cases e7:k=7
    ·rw[if_pos e7] at h3;rw[if_neg om,if_pos e7];exact h3
    ·rw[if_neg e7] at h3;by_cases e4:k=4
     ·rw[if_pos e4] at h3;rw[if_pos (.inl e4)];simp only[za,zx,decide_eq_true_eq] at h3 ⊢;exact h3.1.1
     ·rw[if_neg e4] at h3;by_cases e5:k=5
      ·rw[if_pos e5] at h3;rw[if_pos (.inr e5)];simp only[za,zx,decide_eq_true_eq] at h3 ⊢;exact h3.1.1
      ·rw[if_neg e5] at h3;cases h3
theorem gt4 {r:aa6}{wh:Int}(h:ao3 r wh=0):cf2 r=true:=by
 rw[bm3] at h;split at h
 ·cases h
 ·split at h
  ·cases h
  ·split at h
   ·cases h
   ·split at h
    ·cases h
    ·rename_i h1 h2 h3 h4;rw[gt2,aa6.gt3 wh r false (by simpa using h4)];simp only[Bool.true_and,za,decide_eq_true_eq];omega
structure Itm where
 kind:Int
 p:Int
 q:Int
 deriving DecidableEq,Inhabited
def Itm.cs (x:Itm):List IV:=[.int .u8 x.kind,.int .i64 x.p,.int .i64 x.q]
theorem Itm.js3 {x y:Itm}(h:x.cs=y.cs):x=y:=by
 cases x;cases y;simpa [Itm.cs] using h
abbrev aj5 (l:List Itm):IV:=.aa3 (l.map Itm.cs)
theorem is4 (a b:Itm):allEq [1,1,1] a.cs b.cs=some (decide (a=b)):=by
 cases a;cases b;simp[Itm.cs,allEq,ak4,Itm.mk.injEq,Bool.decide_and]
def bj4 (l:List Itm):List (IV×IV):=l.map λx=>(.agg x.cs,.agg [])
theorem fi2 (x y:Itm):ao8 6 (.agg x.cs) (.agg y.cs)=some (decide (x=y)):=is4 x y
theorem if7 (x:Itm):kOK 6 (.agg x.cs)=true:=by
 show (ao8 6 (.agg x.cs) (.agg x.cs)).isSome=true;rw[fi2];rfl
theorem if8 {x:Itm}:∀ {l:List Itm},x ∉ l->eg6 6 (.agg x.cs) (.agg []) (bj4 l)=some (bj4 (l++[x])):=by
 intro l
 induction l with
 | nil=>intro _;simp only[bj4,List.map_nil,eg6,if7];rfl
 | cons y l ih=>
  intro h;rw[zc,not_or] at h;have:=ih h.2;unfold bj4 at *;simp only[zb,zo,eg6,fi2,h.1,decide_false,this,Option.map_some]
theorem gt5 {l:List Itm}(h:l.Nodup):da2 (bj4 l):=by
 refine ⟨?_,.agg [.u8,.i64,.i64],λe he=>?_⟩
 ·unfold bj4;rw[List.map_map];refine z2.2 (h.imp λ{a b} hab e=>hab ?_);exact Itm.js3 (IV.agg.inj e)
 ·obtain ⟨x,_,rfl⟩:=zq.1 he;refine ⟨rfl,λi hi=>?_⟩;have hi:i<3:=hi
  match i,hi with
  | 0,_=>exact ⟨_,rfl⟩
  | 1,_=>exact ⟨_,rfl⟩
  | 2,_=>exact ⟨_,rfl⟩
def bd3 (k:Int)(p n:Nat):List Itm:=(zn n).map λ(q:Nat)=>⟨k,p,q⟩
theorem bw4 (k:Int)(p n:Nat):bd3 k p (n+1)=bd3 k p n++[⟨k,p,n⟩]:=by
 unfold bd3;rw[zl,zt];rfl
def bc5 (f:Nat->Bool)(g:Nat->Itm)(n:Nat):List Itm:=((zn n).filter f).map g
theorem ay1 (f:Nat->Bool)(g:Nat->Itm)(n:Nat):bc5 f g (n+1)=bc5 f g n++if f n then [g n] else []:=by
 unfold bc5;rw[zl,z1,zt];cases h:f n<;>simp[h]
theorem as6 {f:Nat->Bool}{g:Nat->Itm}{n:Nat}{x:Itm}:x∈bc5 f g n↔∃m,m<n/\f m=true/\x=g m:=by
 unfold bc5;simp only[zq,zr,ze];constructor
 ·rintro ⟨m,⟨h1,h2⟩,rfl⟩;exact ⟨m,h1,h2,rfl⟩
 ·rintro ⟨m,h1,h2,rfl⟩;exact ⟨m,⟨h1,h2⟩,rfl⟩
theorem av9 {k:Int}{p n:Nat}{x:Itm}:x∈bd3 k p n↔∃q:Nat,q<n/\x=⟨k,p,q⟩:=by
 unfold bd3;simp only[zq,ze];constructor
 ·rintro ⟨q,h,rfl⟩;exact ⟨q,h,rfl⟩
 ·rintro ⟨q,h,rfl⟩;exact ⟨q,h,rfl⟩
namespace ab3
variable (a:ab3)
def aw7 (p:Nat):List Itm:=if a.fits p then [] else [⟨1,p,0⟩]
def hp9 (p:Nat):List Itm:=a.aw7 p++bd3 2 p (a.pk p).requires.length++bd3 3 p (a.pk p).conflicts.length++bd3 4 p (a.pk p).aa7.length
def bx8 (p k:Nat):List Itm:=bc5 (λq=>decide (p<q)&&a.twins p q) (λq=>⟨5,p,q⟩) k
def gt6 (p:Nat):List Itm:=a.bx8 p a.l.length
def bd4 (k:Nat):List Itm:=bc5 (λi=>!a.goes i) (λi=>⟨6,i,0⟩) k
def eg7 (k:Nat):List Itm:=bc5 (λi=>!a.dropped i) (λi=>⟨7,i,0⟩) k
def owns (k:Nat):List Itm:=(zn k).flatMap a.hp9
def am3 (k:Nat):List Itm:=(zn k).flatMap a.gt6
def items:List Itm:=a.owns a.l.length++a.am3 a.l.length++a.bd4 a.p.inst.toNat++a.eg7 a.r.af2.length
theorem bq4 (k:Nat):a.owns (k+1)=a.owns k++a.hp9 k:=by unfold owns;rw[zl,zu];simp
theorem bd5 (k:Nat):a.am3 (k+1)=a.am3 k++a.gt6 k:=by unfold am3;rw[zl,zu];simp
inductive Has (a:ab3):Itm->Prop
 | ap7 (p:Nat):p<a.l.length->a.fits p=false->Has a ⟨1,p,0⟩
 | need (p q:Nat):p<a.l.length->q<(a.pk p).requires.length->Has a ⟨2,p,q⟩
 | clash (p q:Nat):p<a.l.length->q<(a.pk p).conflicts.length->Has a ⟨3,p,q⟩
 | over (p q:Nat):p<a.l.length->q<(a.pk p).aa7.length->Has a ⟨4,p,q⟩
 | twin (p q:Nat):p<q->q<a.l.length->a.twins p q=true->Has a ⟨5,p,q⟩
 | keep (i:Nat):i<a.p.inst.toNat->a.goes i=false->Has a ⟨6,i,0⟩
 | job (j:Nat):j<a.r.af2.length->a.dropped j=false->Has a ⟨7,j,0⟩
theorem gt7 {p:Nat}{x:Itm}:x∈a.hp9 p↔(a.fits p=false/\x=⟨1,p,0⟩)\/(∃q:Nat,q<(a.pk p).requires.length/\x=⟨2,p,q⟩)\/(∃q:Nat,q<(a.pk p).conflicts.length/\x=⟨3,p,q⟩)\/(∃q:Nat,q<(a.pk p).aa7.length/\x=⟨4,p,q⟩):=by
 unfold hp9 aw7;simp only[zj,av9,or_assoc];refine or_congr ?_ Iff.rfl;cases h:a.fits p<;>simp
theorem ex8 {x:Itm}:x∈a.items↔a.Has x:=by
 unfold items owns am3 bd4 eg7;simp only[zj,zf,ze,gt7,as6];constructor
 ·rintro (((⟨p,hp,h⟩|⟨p,hp,h⟩)|⟨i,hi,h,rfl⟩)|⟨j,hj,h,rfl⟩)
  ·rcases h with ⟨h,rfl⟩|⟨q,hq,rfl⟩|⟨q,hq,rfl⟩|⟨q,hq,rfl⟩
   ·exact .ap7 p hp h
   ·exact .need p q hp hq
   ·exact .clash p q hp hq
   ·exact .over p q hp hq
  ·obtain ⟨q,hq,h3,rfl⟩:=as6.1 h;rw[za] at h3;exact .twin p q (of_decide_eq_true h3.1) hq h3.2
  ·exact .keep i hi (by simpa using h)
  ·exact .job j hj (by simpa using h)
 ·intro h
  cases h with
  | ap7 p hp h=>exact .inl (.inl (.inl ⟨p,hp,.inl ⟨h,rfl⟩⟩))
  | need p q hp hq=>exact .inl (.inl (.inl ⟨p,hp,.inr (.inl ⟨q,hq,rfl⟩)⟩))
  | clash p q hp hq=>exact .inl (.inl (.inl ⟨p,hp,.inr (.inr (.inl ⟨q,hq,rfl⟩))⟩))
  | over p q hp hq=>exact .inl (.inl (.inl ⟨p,hp,.inr (.inr (.inr ⟨q,hq,rfl⟩))⟩))
  | twin p q h1 h2 h3=>exact .inl (.inl (.inr ⟨p,om,as6.2 ⟨q,h2,by simp[h1,h3],rfl⟩⟩))
  | keep i hi h=>exact .inl (.inr ⟨i,hi,by simp[h],rfl⟩)
  | job j hj h=>exact .inr ⟨j,hj,by simp[h],rfl⟩
theorem cr7 (k:Int)(p n:Nat):(bd3 k p n).Nodup:=by
 unfold bd3;refine z2.2 (List.nodup_range.imp λ{x y} h e=>h ?_);have:=congrArg Itm.q e;simp only at this;omega
theorem cr8 {f:Nat->Bool}{g:Nat->Itm}(hg:∀x y,g x=g y->x=y)(n:Nat):(bc5 f g n).Nodup:=by
 unfold bc5;exact z2.2 ((List.nodup_range.filter _).imp λ{x y} h e=>h (hg _ _ e))
theorem dt8 {g:Nat->List Itm}(h1:∀p,(g p).Nodup)(h2:∀p,∀x∈g p,x.p=(p:Int))(n:Nat):((zn n).flatMap g).Nodup:=by
 induction n with
 | zero=>exact qc.nil
 | succ n ih=>
  rw[zl,zu,z3,zw,List.append_nil];refine zi.2 ⟨ih,h1 n,λx hx y hy e=>?_⟩;obtain ⟨p,hp,hx⟩:=zf.1 hx;have:=h2 p x hx;have:=h2 n y hy;rw[<- e] at this;have:=ze.1 hp;omega
theorem cf3 {p:Nat}{x:Itm}(h:x∈a.hp9 p):x.p=(p:Int)/\1<=x.kind/\x.kind<=4:=by
 rcases a.gt7.1 h with ⟨_,rfl⟩|⟨q,_,rfl⟩|⟨q,_,rfl⟩|⟨q,_,rfl⟩<;>exact ⟨rfl,by simp only<;>omega,by simp only<;>omega⟩
theorem gt8 (p:Nat):(a.hp9 p).Nodup:=by
 unfold hp9 aw7;refine zi.2 ⟨zi.2 ⟨zi.2 ⟨?_,cr7 ..,λx hx y hy e=>?_⟩,cr7 ..,λx hx y hy e=>?_⟩,cr7 ..,λx hx y hy e=>?_⟩
 ·cases a.fits p<;>simp
 ·obtain ⟨q,_,rfl⟩:=av9.1 hy;cases hf:a.fits p<;>rw[hf] at hx<;>simp at hx;rw[hx] at e;simp at e
 ·obtain ⟨q,_,rfl⟩:=av9.1 hy;rcases zj.1 hx with hx|hx
  ·cases hf:a.fits p<;>rw[hf] at hx<;>simp at hx;rw[hx] at e;simp at e
  ·obtain ⟨r,_,rfl⟩:=av9.1 hx;simp at e
 ·obtain ⟨q,_,rfl⟩:=av9.1 hy;rcases zj.1 hx with hx|hx
  ·rcases zj.1 hx with hx|hx
   ·cases hf:a.fits p<;>rw[hf] at hx<;>simp at hx;rw[hx] at e;simp at e
   ·obtain ⟨r,_,rfl⟩:=av9.1 hx;simp at e
  ·obtain ⟨r,_,rfl⟩:=av9.1 hx;simp at e
theorem bq5 {p k:Nat}{x:Itm}(h:x∈a.bx8 p k):x.p=(p:Int)/\x.kind=5:=by
 obtain ⟨q,_,_,rfl⟩:=as6.1 h;exact ⟨rfl,rfl⟩
theorem nodup:a.items.Nodup:=by
 unfold items;refine zi.2 ⟨zi.2 ⟨zi.2 ⟨?_,?_,λx hx y hy e=>?_⟩,?_,λx hx y hy e=>?_⟩,?_,λx hx y hy e=>?_⟩
 ·exact dt8 a.gt8 (λp x hx=>(a.cf3 hx).1) _
 ·exact dt8 (λp=>cr8 (λx y e=>by have:=congrArg Itm.q e;simp only at this;omega) _) (λp x hx=>(a.bq5 hx).1) _
 ·obtain ⟨p,_,hx⟩:=zf.1 hx;obtain ⟨q,_,hy⟩:=zf.1 hy;have:=(a.cf3 hx).2;have:=(a.bq5 hy).2;rw[<- e] at this;omega
 ·exact cr8 (λx y e=>by have:=congrArg Itm.p e;simp only at this;omega) _
 ·obtain ⟨i,_,_,rfl⟩:=as6.1 hy;rcases zj.1 hx with hx|hx
  ·obtain ⟨p,_,hx⟩:=zf.1 hx;have:=(a.cf3 hx).2;rw[e] at this;simp at this
  ·obtain ⟨p,_,hx⟩:=zf.1 hx;have:=(a.bq5 hx).2;rw[e] at this;simp at this
 ·exact cr8 (λx y e=>by have:=congrArg Itm.p e;simp only at this;omega) _
 ·obtain ⟨j,_,_,rfl⟩:=as6.1 hy;rcases zj.1 hx with hx|hx
  ·rcases zj.1 hx with hx|hx
   ·obtain ⟨p,_,hx⟩:=zf.1 hx;have:=(a.cf3 hx).2;rw[e] at this;simp at this
   ·obtain ⟨p,_,hx⟩:=zf.1 hx;have:=(a.bq5 hx).2;rw[e] at this;simp at this
  ·obtain ⟨i,_,_,rfl⟩:=as6.1 hx;simp at e
theorem de4 {k:Nat}{y:Itm}(h:y∈a.owns k):1<=y.kind/\y.kind<=4/\∃p:Nat,p<k/\y.p=p:=by
 obtain ⟨p,hp,hy⟩:=zf.1 h;have:=a.cf3 hy;exact ⟨this.2.1,this.2.2,p,ze.1 hp,this.1⟩
theorem jc8 {p:Nat}{y:Itm}(h:y∈a.aw7 p):y.kind=1:=by
 unfold aw7 at h;split at h
 ·cases h
 ·rw[List.mem_singleton] at h;rw[h]
theorem ec4 {k:Nat}{y:Itm}(h:y∈a.am3 k):y.kind=5/\∃p:Nat,p<k/\y.p=p:=by
 obtain ⟨p,hp,hy⟩:=zf.1 h;have:=a.bq5 hy;exact ⟨this.2,p,ze.1 hp,this.1⟩
theorem if9 {p k:Nat}{y:Itm}(h:y∈a.bx8 p k):y.kind=5/\y.p=p/\∃q:Nat,q<k/\y.q=q:=by
 obtain ⟨q,hq,_,rfl⟩:=as6.1 h;exact ⟨rfl,rfl,q,hq,rfl⟩
theorem gt9 {k:Nat}{y:Itm}(h:y∈a.bd4 k):y.kind=6/\∃q:Nat,q<k/\y.p=q:=by
 obtain ⟨q,hq,_,rfl⟩:=as6.1 h;exact ⟨rfl,q,hq,rfl⟩
theorem js4 {k:Nat}{y:Itm}(h:y∈a.eg7 k):y.kind=7/\∃q:Nat,q<k/\y.p=q:=by
 obtain ⟨q,hq,_,rfl⟩:=as6.1 h;exact ⟨rfl,q,hq,rfl⟩
def nsI (p j:Nat):Nat:=if j=0 then (a.pk p).requires.length else if j=1 then (a.pk p).conflicts.length else (a.pk p).aa7.length
def ci7 (p j:Nat):List Itm:=(zn j).flatMap λi=>bd3 ((2+i:Nat):Int) p (a.nsI p i)
theorem ao5 (p j:Nat):a.ci7 p (j+1)=a.ci7 p j++bd3 ((2+j:Nat):Int) p (a.nsI p j):=by unfold ci7;rw[zl,zu];simp
theorem gu1 (p:Nat):a.hp9 p=a.aw7 p++a.ci7 p 3:=by
 rw[ao5,ao5,ao5];unfold hp9 nsI;simp[ci7]
theorem js5 {p j:Nat}{y:Itm}(h:y∈a.ci7 p j):2<=y.kind/\y.kind<2+(j:Int):=by
 obtain ⟨i,hi,hy⟩:=zf.1 h;obtain ⟨q,_,rfl⟩:=av9.1 hy;have:=ze.1 hi;simp only;omega
theorem em5 {k m:Nat}(h:k<=m):(a.owns k).length<=(a.owns m).length:=by
 obtain ⟨d,rfl⟩:∃d,m=k+d:=⟨m-k,om⟩
 induction d with
 | zero=>exact z6 _
 | succ d ih=>
  have:=ih om;rw[show k+(d+1)=k+d+1 from rfl,a.bq4,zd];omega
theorem gd3 {k m:Nat}(h:k<=m):(a.am3 k).length<=(a.am3 m).length:=by
 obtain ⟨d,rfl⟩:∃d,m=k+d:=⟨m-k,om⟩
 induction d with
 | zero=>exact z6 _
 | succ d ih=>
  have:=ih om;rw[show k+(d+1)=k+d+1 from rfl,a.bd5,zd];omega
theorem de5 (f:Nat->Bool)(g:Nat->Itm){k m:Nat}(h:k<=m):(bc5 f g k).length<=(bc5 f g m).length:=by
 obtain ⟨d,rfl⟩:∃d,m=k+d:=⟨m-k,om⟩
 induction d with
 | zero=>exact z6 _
 | succ d ih=>
  have:=ih om;rw[show k+(d+1)=k+d+1 from rfl,ay1,zd];omega
theorem aw1 (k:Int)(p n:Nat):(bd3 k p n).length=n:=by unfold bd3;rw[z8,List.length_range]
theorem ay2:a.items.length=(a.owns a.l.length).length+(a.am3 a.l.length).length+(a.bd4 a.p.inst.toNat).length+(a.eg7 a.r.af2.length).length:=by
 unfold items;simp only[zd]
theorem bq6 {p j q:Nat}(hp:p<a.l.length)(hj:j<3)(hq:q<=a.nsI p j):(a.owns p++a.aw7 p++a.ci7 p j++bd3 ((2+j:Nat):Int) p q).length<=a.items.length:=by
 have h1:=a.em5 (show p+1<=a.l.length from hp);have h2:=a.ay2;rw[a.bq4,a.gu1,zd,zd] at h1
 have h3:(a.ci7 p j).length+q<=(a.ci7 p 3).length:=by
  have e3:(a.ci7 p 3).length=a.nsI p 0+a.nsI p 1+a.nsI p 2:=by
   rw[a.ao5,a.ao5,a.ao5];simp only[zd,aw1];simp[ci7]
  rw[e3];have:j=0\/j=1\/j=2:=om;rcases this with rfl|rfl|rfl
  ·simp only[ci7,z7,zw,List.length_nil];omega
  ·rw[a.ao5];simp only[ci7,z7,zw,zm,aw1];omega
  ·rw[a.ao5,a.ao5];simp only[ci7,z7,zw,zm,zd,aw1];omega
 simp only[zd,aw1];omega
theorem fi3 {p:Nat}(hp:p<a.l.length):(a.owns p).length<=a.items.length:=by
 have h1:=a.em5 (show p<=a.l.length by omega);have h2:=a.ay2;omega
theorem ec5 {p k:Nat}(hp:p<a.l.length)(hk:k<=a.l.length):(a.owns a.l.length++a.am3 p++a.bx8 p k).length<=a.items.length:=by
 have h1:=a.gd3 (show p+1<=a.l.length from hp);have h2:=a.ay2;have h3:(a.bx8 p k).length<=(a.gt6 p).length:=de5 _ _ hk;rw[a.bd5,zd] at h1;simp only[zd];omega
theorem fi4 {k:Nat}(hk:k<=a.p.inst.toNat):(a.owns a.l.length++a.am3 a.l.length++a.bd4 k).length<=a.items.length:=by
 have h2:=a.ay2;have h3:(a.bd4 k).length<=(a.bd4 a.p.inst.toNat).length:=de5 _ _ hk;simp only[zd];omega
theorem gu2 {k:Nat}(hk:k<=a.r.af2.length):(a.owns a.l.length++a.am3 a.l.length++a.bd4 a.p.inst.toNat++a.eg7 k).length<=a.items.length:=by
 have h2:=a.ay2;have h3:(a.eg7 k).length<=(a.eg7 a.r.af2.length).length:=de5 _ _ hk;simp only[zd];omega
theorem de6 (p:Nat):a.bx8 p (p+1)=[]:=by
 unfold bx8 bc5;rw[List.map_eq_nil_iff,List.filter_eq_nil_iff];intro q hq;have:=ze.1 hq;have:¬p<q:=om;simp[this]
def cf4 (x:Itm):aa6:=(a.pk x.p).requires.getD x.q.toNat default
def bf5 (x:Itm):aa6:=(a.pk x.p).conflicts.getD x.q.toNat default
def bx9 (x:Itm):Dep:=(a.pk x.p).aa7.getD x.q.toNat default
def inS (st:List Int)(n:Int):Bool:=decide (n∈st)
def less (st:List Int)(n:Int):List Int:=st.filter λm=>!decide (m=n)
def keeps (st:List Int)(x:Itm):Bool :=
 if x.kind=1 then !inS st x.p
 else if x.kind=2 then !inS st x.p||kl3 a.l st (a.cf4 x)
 else if x.kind=3 then !inS st x.p || !kl3 a.l (less st x.p) (a.bf5 x)
 else if x.kind=4 then !inS st x.p || !((ak8 a.l (a.bx9 x)).any λn=>!decide (n=x.p)&&inS st n)
 else if x.kind=5 then !inS st x.p || !inS st x.q
 else if x.kind=6 then some st (a.an4 x.p)
 else a.eb9 x.p st
def isI (x:Itm):Bool:=decide (x∈a.items)
def holds (st:List Int)(x:Itm):Bool:=!a.isI x||a.keeps st x
def kept (st:List Int)(l:List Itm):Bool:=!l.any λx=>!a.holds st x
end ab3
def fi5 (p:aa2)(k:Int)(d:Dep)(bs:List Bool):Bool :=
 if k=1 then provides p d else if k=3 then bs.any λb=>b else if k=7 then bs.getD 0 false&&!bs.getD 1 false else bs.all λb=>b
mutual
def aa6.alone (p:aa2):aa6->Bool
 | .mk k d aZ=>fi5 p k d (aa6.fi6 p aZ)
def aa6.fi6 (p:aa2):List aa6->List Bool
 | []=>[]
 | r::rs=>r.alone p::aa6.fi6 p rs
end
theorem aa6.gd4 (p:aa2)(aZ:List aa6):aa6.fi6 p aZ=aZ.map λr=>r.alone p:=by
 induction aZ with
 | nil=>rfl
 | cons r rs ih=>simp only[aa6.fi6,zb,ih]
structure ag9 where
 h:Nat
 cl:List (List Int)
 sets:List (Str×Int)
def fi7 (n:Int):Str:=if n<10 then [qe (48+n.toNat)] else [qe (48+n.toNat/10),qe (48+n.toNat%10)]
def dj5 (l:List Int):Str:=l.flatMap λn=>fi7 n++[32]
def by1:List (Str×Int)->Str->Option Int
 | [],_=>none
 | t::ts,k=>if k=t.1 then some t.2 else by1 ts k
def ec6 (l:List Int):List Int:=l.map λx=>-x
def upL (l:List Int):List Int:=l.map λx=>x+1
variable (c:Nat)
def ak2 (l:List Int)(t:ag9):Int×ag9 :=
 (((c+(t.h+1):Nat):Int),⟨t.h+1,t.cl++(l.map λx=>[-x,((c+(t.h+1):Nat):Int)])++[-((c+(t.h+1):Nat):Int)::l],t.sets⟩)
def cf5 (l:List Int)(t:ag9):Int×ag9:=(-(ak2 c (ec6 l) t).1,(ak2 c (ec6 l) t).2)
def fi8 (l:List Int)(t:ag9):Int×ag9 :=
 if l.length=1 then (l.getD 0 0+1,t) else
 match by1 t.sets (dj5 l) with
 | some x=>(x,t)
 | none=>((ak2 c (upL l) t).1,{ (ak2 c (upL l) t).2 with sets:=t.sets++[(dj5 l,(ak2 c (upL l) t).1)] })
def bq7 (x y w:Int)(t:ag9):Int×ag9 :=
 (((c+(t.h+1):Nat):Int),⟨t.h+1,t.cl++[[-w,-x,((c+(t.h+1):Nat):Int)],[-w,x,-((c+(t.h+1):Nat):Int)],[w,-y,((c+(t.h+1):Nat):Int)],[w,y,-((c+(t.h+1):Nat):Int)]],t.sets⟩)
def fi9 (k:Int)(ls:List Int)(t:ag9):Int×ag9 :=
 if k=2 then cf5 c ls t
 else if k=3 then ak2 c ls t
 else if k=4 then (if ls.length=3 then bq7 c (ls.getD 0 0) (ls.getD 2 0) (ls.getD 1 0) t else ak2 c [ls.getD 0 0,-ls.getD 1 0] t)
 else if ls.length=3 then bq7 c (ls.getD 2 0) (ls.getD 0 0) (ls.getD 1 0) t else cf5 c [ls.getD 0 0,-ls.getD 1 0] t
def bz9 (l:List Int)(b:Int):List Int:=l.filter λn=>!decide (n=b)
mutual
def aa6.by5 (l:List aa2)(b:Int):aa6->ag9->Int×ag9
 | .mk k d aZ,t=>
  if k=1 then fi8 l.length (bz9 (ag1 l d) b) t
  else if k=6\/k=7 then fi8 l.length (bz9 (numsOf (λp=>(aa6.mk k d aZ).alone p) l) b) t
  else fi9 l.length k (aa6.an1 l b aZ t).1 (aa6.an1 l b aZ t).2
def aa6.an1 (l:List aa2)(b:Int):List aa6->ag9->List Int×ag9
 | [],t=>([],t)
 | r::rs,t=>((r.by5 l b t).1::(aa6.an1 l b rs (r.by5 l b t).2).1,(aa6.an1 l b rs (r.by5 l b t).2).2)
end
end Go.Id.Md
namespace Go.Id.Md
open Go Go.Id
def RgN (V:Nat)(x:Int):Prop:=x≠0/\-(V:Int)<=x/\x<=V
theorem RgN.mono {V W:Nat}{x:Int}(h:RgN V x)(hw:V<=W):RgN W x:=⟨h.1,by have:=h.2.1;omega,by have:=h.2.2;omega⟩
theorem RgN.neg {V:Nat}{x:Int}(h:RgN V x):RgN V (-x):=⟨by have:=h.1;omega,by have:=h.2.2;omega,by have:=h.2.1;omega⟩
def jc9 (V:Nat)(T:Int->Bool):Prop:=∀x,RgN V x->T (-x)=!T x
theorem jc9.mono {V W:Nat}{T:Int->Bool}(h:jc9 W T)(hw:V<=W):jc9 V T:=λx hx=>h x (hx.mono hw)
def kl4 (T:Int->Bool)(l:List (List Int)):Prop:=∀q∈l,q.any T=true
def js6 (l:List Int):Prop:=∀n∈l,0<=n/\n<100
structure ag9.OK (c:Nat) (t:ag9):Prop where
 cl:∀q∈t.cl,∀x∈q,RgN (c+t.h) x
 st:∀e∈t.sets,RgN (c+t.h) e.2
 kn:(t.sets.map (·.1)).Nodup
def fj1 (T:Int->Bool)(t:ag9):Prop:=∀l x,js6 l->by1 t.sets (dj5 l)=some x->T x=l.any λn=>T (n+1)
structure Told (c n:Nat) (t:ag9) (r:Int×ag9) (P:(Int->Bool)->Bool):Prop where
 le:t.h<=r.2.h/\r.2.h<=t.h+n
 cl:∀q∈t.cl,q∈r.2.cl
 ok:r.2.OK c/\RgN (c+r.2.h) r.1
 says:∀T,jc9 (c+r.2.h) T->kl4 T r.2.cl->fj1 T t->T r.1=P T/\fj1 T r.2
variable {c:Nat} {t:ag9}
theorem gu3 {s:List (Str×Int)}{k:Str}{x:Int}(h:by1 s k=some x):(k,x)∈s:=by
 induction s with
 | nil=>cases h
 | cons t ts ih=>
  unfold by1 at h;split at h
  ·rename_i e;cases h;rw[e];exact zk
  ·exact zg _ (ih h)
theorem gd5 {s:List (Str×Int)}{k:Str}(h:by1 s k=none):k ∉ s.map (·.1):=by
 induction s with
 | nil=>exact List.not_mem_nil
 | cons t ts ih=>
  unfold by1 at h;split at h
  ·cases h
  ·rename_i e;rw[zb,zc];exact λh2=>h2.elim e (ih h)
end Go.Id.Md
