/- The document's data,and what functions give,in plain words. Conditions: none; no program in sight. -/
import Derived.Test.YtiplpeflonpcmaaGreatDoorFwQ
open Bool renaming and_eq_true→za,eq_iff_iff→zw,or_eq_true→z5,and_comm→qo,not_eq_true'→qz
open List renaming mem_cons→zb,map_cons→zc,length_append→zd,getD_eq_getElem?_getD→ze,mem_cons_of_mem→zf,mem_cons_self→zg,mem_range→zh,mem_append→zi,mem_flatMap→zj,nodup_cons→zk,nodup_append→zl,mem_map→zm,nil_append→zn,cons_append→zo,all_eq_true→zp,range_succ→zq,range→zr,not_mem_nil→zt,mem_filter→zu,map_append→zv,mem_singleton→zy,any_eq_true→z0,mem_append_left→z1,flatMap_append→z2,flatMap_nil→z3,length_map→z4,mem_append_right→z6,length_filter_le→z7,nodup_nil→z8,filter_append→z9,pairwise_map→qa,flatMap_cons→qb,filter_congr→qc,any_map→qd,any_eq_false→qe,length_cons→qg,range_zero→qi,find?_cons→qj,perm_ext_iff_of_nodup→qk,any_cons→ql,all_cons→qm,Pairwise→qn,length_eq_zero_iff→qp,not_lt→qr,mem_iff_getElem→qt,map_congr_left→qv,length_range→qx
open UInt8 renaming ofNat→zx,toNat_ofNat'→qu
open Nat renaming le_refl→zz,le_succ→qh,le_trans→qq
open Int renaming toNat_natCast→qf,toNat_of_nonneg→qw
open Decidable renaming em→qy
set_option linter.all false
private theorem om{P:Prop}(h:P:=by omega):P:=h
namespace Go.Id.Md
open Go Go.Id
abbrev Str:=List UInt8
structure EVR where
 aq6:Int
 ver:Str
 rel:Str
 deriving DecidableEq,Inhabited
structure Dep where
 name:Str
 op:Int
 evr:EVR
 deriving DecidableEq,Inhabited
inductive aa6 where
 | mk (kind:Int) (dep:Dep) (args:List aa6)
 deriving Inhabited
def aa6.kind:aa6->Int|.mk k _ _=>k
def aa6.dep:aa6->Dep|.mk _ d _=>d
def aa6.args:aa6->List aa6|.mk _ _ a=>a
structure aa2 where
 name:Str
 evr:EVR
 au7:Int
 vendor:Str
 provides:List Dep
 requires:List aa6
 conflicts:List aa6
 aa8:List Dep
 ac7:List aa6
 ac4:List aa6
 suggests:List aa6
 af3:List aa6
 files:List Str
 deriving Inhabited
structure an7 where
 priority:Int
 packages:List aa2
 deriving Inhabited
def EVR.fit (e:EVR):Prop:=e.ver.length<2^62/\e.rel.length<2^62
def Dep.fit (d:Dep):Prop:=d.name.length<2^62/\d.evr.fit
theorem aa6.ind {p:aa6->Prop}(h:∀ k d aZ,(∀ a∈aZ,p a)->p (.mk k d aZ))(r:aa6):p r :=
 aa6.rec (motive_1:=p) (motive_2:=fun l=>∀ a∈l,p a) (fun k d aZ ih=>h k d aZ ih) (fun _ h=>by cases h) (fun r rs h1 h2 a ha=>by
  rcases zb.1 ha with rfl|h
  ·exact h1
  ·exact h2 a h) r
mutual
def aa6.fit:aa6->Prop
 | .mk k d aZ=>0<=k/\k<256/\d.fit/\aZ.length<2^31/\aa6.fits aZ
def aa6.fits:List aa6->Prop
 | []=>True
 | r::rs=>r.fit/\aa6.fits rs
end
theorem aa6.ia5 (l:List aa6):aa6.fits l↔∀ r∈l,r.fit:=by
 induction l with
 | nil=>simp[aa6.fits]
 | cons r rs ih=>simp[aa6.fits,ih]
theorem aa6.by6 {k:Int}{d:Dep}{aZ:List aa6}:(aa6.mk k d aZ).fit↔0<=k/\k<256/\d.fit/\aZ.length<2^31/\∀ r∈aZ,r.fit:=by
 simp only[aa6.fit,aa6.ia5]
def EVR.cs (e:EVR):List IV:=[.int .i64 e.aq6,.str e.ver,.str e.rel]
def Dep.cs (d:Dep):List IV:=[.str d.name,.int .u8 d.op,.int .i64 d.evr.aq6,.str d.evr.ver,.str d.evr.rel]
mutual
def aa6.cs:aa6->List IV
 | .mk k d aZ=>[.int .u8 k,.str d.name,.int .u8 d.op,.int .i64 d.evr.aq6,.str d.evr.ver,.str d.evr.rel,.aa4 (aa6.css aZ)]
def aa6.css:List aa6->List (List IV)
 | []=>[]
 | r::rs=>r.cs::aa6.css rs
end
theorem aa6.iz8 (l:List aa6):aa6.css l=l.map aa6.cs:=by
 induction l with
 | nil=>rfl
 | cons r rs ih=>simp only[aa6.css,ih,zc]
theorem aa6.ar1 (r:aa6):r.cs=[.int .u8 r.kind,.str r.dep.name,.int .u8 r.dep.op,.int .i64 r.dep.evr.aq6,.str r.dep.evr.ver,.str r.dep.evr.rel,.aa4 (r.args.map aa6.cs)]:=by
 cases r with
 | mk k d aZ=>simp only[aa6.cs,aa6.iz8,aa6.kind,aa6.dep,aa6.args]
def cb9 (s:Str):List IV:=[.str s]
abbrev deps (l:List Dep):IV:=.aa4 (l.map Dep.cs)
abbrev aj6 (l:List aa6):IV:=.aa4 (l.map aa6.cs)
abbrev strs (l:List Str):IV:=.aa4 (l.map cb9)
def aa2.cs (p:aa2):List IV :=
 [.str p.name,.int .i64 p.evr.aq6,.str p.evr.ver,.str p.evr.rel,.int .u8 p.au7,.str p.vendor,deps p.provides,aj6 p.requires,aj6 p.conflicts,deps p.aa8,aj6 p.ac7,aj6 p.ac4,aj6 p.suggests,aj6 p.af3,strs p.files]
def an7.cs (r:an7):List IV:=[.int .i64 r.priority,.aa4 (r.packages.map aa2.cs)]
def aa2.rows (p:aa2):List (Int×List aa6):=[(1,p.requires),(2,p.conflicts),(1,p.ac7),(3,p.ac4),(1,p.suggests),(3,p.af3)]
def signs:Str:=[97,98,99,100,101,102,103,104,105,106,107,108,109,110,111,112,113,114,115,116,117,118,119,120,121,122,65,66,67,68,69,70,71,72,73,74,75,76,77,78,79,80,81,82,83,84,85,86,87,88,89,90,48,49,50,51,52,53,54,55,56,57,46,95,43,45,47,58,64,126,94]
def gq1 (b:UInt8):Bool:=(decide (97<=b.toNat)&&decide (b.toNat<=122))||(decide (65<=b.toNat)&&decide (b.toNat<=90))||(decide (48<=b.toNat)&&decide (b.toNat<=57))
def bf7 (b:UInt8):Bool:=signs.contains b
def words:List Str:=[[97,110,100],[111,114],[105,102],[101,108,115,101],[117,110,108,101,115,115],[119,105,116,104],[119,105,116,104,111,117,116]]
def as5 (s:Str):Bool:=decide (1<=s.length)&&decide (s.length<=64)&&s.all bf7&&!words.contains s
def bj1 (s:Str):Bool:=as5 s&&(s.head? == some 47)
def bp1 (b:UInt8):Bool:=gq1 b || [46,95,43,126,94].contains b
def az8 (s:Str):Bool:=decide (1<=s.length)&&decide (s.length<=64)&&s.all bp1
def bj2 (e:EVR)(dep:Bool):Bool:=decide (0<=e.aq6)&&decide (e.aq6<=2147483647)&&az8 e.ver&&(az8 e.rel||dep&&e.rel.isEmpty)
def eb7 (op:Int):Bool:=[0,1,2,3,4,6].contains op
def gq2:EVR:=⟨0,[],[]⟩
def cq9:Dep:=⟨[],0,gq2⟩
def aj9 (d:Dep):Bool:=as5 d.name&&eb7 d.op&&(if d.op=0 then decide (d.evr=gq2) else !bj1 d.name&&bj2 d.evr true)
def af5 (b:UInt8):Nat:=if b=126 then 1 else if b=94 then 3 else if decide (97<=b)&&decide (b<=122)||decide (65<=b)&&decide (b<=90) then 4 else if decide (48<=b)&&decide (b<=57) then 5 else 0
structure Part where
 kind:Nat
 s:Str
 deriving DecidableEq,Inhabited
def av4:Nat->Str->List Part
 | 0,_=>[]
 | _+1,[]=>[]
 | n+1,b::l=>
  if af5 b=0 then av4 n l
  else if af5 b<4 then ⟨af5 b,[]⟩::av4 n l
  else ⟨af5 b,if af5 b=5 then ((b::l).takeWhile fun c=>af5 c==af5 b).dropWhile (· == 48) else (b::l).takeWhile fun c=>af5 c==af5 b⟩::av4 n ((b::l).dropWhile fun c=>af5 c==af5 b)
def af9 (s:Str):List Part:=av4 s.length s
def ay9 (a b:Int):Int:=if a<b then -1 else if a=b then 0 else 1
def de2 (a b:Str):Int:=if Op.bytesLess a b then -1 else if a=b then 0 else 1
def ag5 (a b:Part):Int :=
 let k:=ay9 a.kind b.kind
 if k≠0 then k else
 let n:=if a.kind=5/\b.kind=5 then ay9 a.s.length b.s.length else 0
 if n≠0 then n else de2 a.s b.s
def ag7:List Part->List Part->Int
 | a::aZ,b::bs=>if ag5 a b≠0 then ag5 a b else ag7 aZ bs
 | _,_=>0
def ar8 (a b:Str):Int:=ag7 (af9 a++[⟨2,[]⟩]) (af9 b++[⟨2,[]⟩])
def aw5 (a b:EVR):Int :=
 if ay9 a.aq6 b.aq6≠0 then ay9 a.aq6 b.aq6 else
 if ar8 a.ver b.ver≠0 then ar8 a.ver b.ver else
 if a.rel=[]\/b.rel=[] then 0 else ar8 a.rel b.rel
def bit (op:Int)(i:Nat):Bool:=(op.toNat).testBit i
def side (n:Int):Nat:=if n<0 then 0 else if n=0 then 1 else 2
def meet (a b:Dep):Bool :=
 if a.op.toNat%8=0\/b.op.toNat%8=0 then true else
 let n:=aw5 a.evr b.evr
 if n=0 then bit a.op 0&&bit b.op 0||bit a.op 1&&bit b.op 1||bit a.op 2&&bit b.op 2
 else bit a.op (side (-n))||bit b.op (side n)
mutual
def aa6.count:aa6->Nat
 | .mk _ _ aZ=>aa6.counts aZ+1
def aa6.counts:List aa6->Nat
 | []=>0
 | r::rs=>r.count+aa6.counts rs
end
mutual
def aa6.depth:aa6->Nat
 | .mk k _ aZ=>if k=1 then 0 else aa6.bf8 aZ+1
def aa6.bf8:List aa6->Nat
 | []=>0
 | r::rs=>max r.depth (aa6.bf8 rs)
end
-- All parts,and whether each stands within a With,or a Without.
mutual
def aa6.parts:aa6->Bool->List (aa6×Bool)
 | .mk k d aZ,alone=>(.mk k d aZ,alone)::aa6.bj3 aZ (alone||decide (k=6)||decide (k=7))
def aa6.bj3:List aa6->Bool->List (aa6×Bool)
 | [],_=>[]
 | r::rs,alone=>r.parts alone++aa6.bj3 rs alone
end
def asks (k:Int):Nat×Nat×Bool×Nat :=
 if k=1 then (0,0,true,3) else if k=2 then (2,24,true,3) else if k=3 then (2,24,true,3) else if k=4 then (2,3,false,1)
 else if k=5 then (2,3,false,2) else if k=6 then (2,24,true,3) else if k=7 then (2,2,true,3) else (0,0,false,0)
def ai9 (wh:Int)(r:aa6)(alone:Bool):Bool :=
 let x:=asks r.kind
 !(decide ((x.2.2.2:Int)<wh)||alone&&!x.2.2.1||decide (r.args.length<x.1)||decide (x.2.1<r.args.length)) &&
 (if r.kind=1 then aj9 r.dep else decide (r.dep=cq9))
def an8 (r:aa6)(wh:Int):Int :=
 if wh<1\/3<wh then 1 else if r.count>24 then 40 else if r.depth>8 then 21 else if (r.parts false).all fun p=>ai9 wh p.1 p.2 then 0 else 4
mutual
def aa6.same:aa6->aa6->Bool
 | .mk k d aZ,.mk k' d' as'=>decide (k=k')&&decide (d=d')&&aa6.iz9 aZ as'
def aa6.iz9:List aa6->List aa6->Bool
 | [],[]=>true
 | r::rs,s::ss=>r.same s&&aa6.iz9 rs ss
 | _,_=>false
end
structure aa2.Fit (p:aa2):Prop where
 name:p.name.length<2^62
 evr:p.evr.fit
 au1:p.provides.length<2^31/\∀ d∈p.provides,d.fit
 obs:p.aa8.length<2^31/\∀ d∈p.aa8,d.fit
 files:p.files.length<2^31/\∀ s∈p.files,s.length<2^62
 rich:∀ x∈p.rows,x.2.length<2^31/\∀ r∈x.2,r.fit/\r.count<2^31
def ao2 (a:Int):Bool:=decide (1<=a)&&decide (a<=4)
def rising:List Str->Bool
 | a::b::l=>Op.bytesLess a b&&rising (b::l)
 | _=>true
def ak6 (l:List aa6)(wh:Int):Bool:=decide (l.length<=32)&&l.all fun r=>decide (an8 r wh=0)
def ak1 (p:aa2):Bool :=
 as5 p.name&&!bj1 p.name&&bj2 p.evr false&&ao2 p.au7&&decide (p.vendor.length<=64) &&
 (decide (p.provides.length<=32)&&p.provides.all aj9)&&(decide (p.aa8.length<=32)&&p.aa8.all aj9)&&(decide (p.files.length<=32)&&p.files.all bj1) &&
 rising p.files&&ak6 p.requires 1&&ak6 p.conflicts 2&&ak6 p.ac7 1&&ak6 p.ac4 3&&ak6 p.suggests 1&&ak6 p.af3 3
def own (p:aa2):Dep:=⟨p.name,2,p.evr⟩
def meets (a d:Dep):Bool:=decide (a.name=d.name)&&meet a d
def named (p:aa2)(d:Dep):Bool:=meets (own p) d
def provides (p:aa2)(d:Dep):Bool:=named p d||p.provides.any (fun a=>meets a d)||decide (d.op=0)&&p.files.contains d.name
def aa8 (p q:aa2):Bool:=p.aa8.any fun d=>named q d
def ja1 (l m:List aa6):Bool:=aa6.iz9 l m
end Go.Id.Md
namespace Go.Id.Md
open Go Go.Id
structure be6 where
 pkg:aa2
 fh7:Int
 prio:Int
def be6.cs (r:be6):List IV:=r.pkg.cs++[.int .i64 r.fh7,.int .i64 r.prio]
abbrev Nms:=List (Str×List Int)
def ar2:Nms->Str->Int->Nms
 | [],k,n=>[(k,[n])]
 | t::ts,k,n=>if k=t.1 then (k,t.2++[n])::ts else t::ar2 ts k n
def eb8:Nms->Nat->List aa2->Nms
 | nm,_,[]=>nm
 | nm,n,p::ps=>eb8 (ar2 nm p.name n) (n+1) ps
def ad9 (n:Int):List IV:=[.int .i64 n]
def nmV (nm:Nms):List (IV×IV):=nm.map fun t=>(.str t.1,.aa4 (t.2.map ad9))
structure Pool where
 rows:List be6
 inst:Int
 nm:Nms
def Pool.v (p:Pool):IV:=.ab9 [.aa4 (p.rows.map be6.cs),.int .i64 p.inst,.ak9 (nmV p.nm)]
def rowsOf (l:List aa2)(fh7 prio:Int):List be6:=l.map fun p=>⟨p,fh7,prio⟩
theorem ew8 (l:List aa2)(x:aa2)(a b:Int):rowsOf (l++[x]) a b=rowsOf l a b++[⟨x,a,b⟩]:=by simp[rowsOf]
theorem bw4 (l:List aa2)(a b:Int):(rowsOf l a b).length=l.length:=by simp[rowsOf]
def al7:Nat->List an7->List be6×Nms->Option (List be6×Nms)
 | _,[],st=>some st
 | i,r::rs,st=>if r.priority<0\/1024<r.priority\/r.packages.all ak1=false then none else al7 (i+1) rs (st.1++rowsOf r.packages i r.priority,eb8 st.2 st.1.length r.packages)
def am6 (l:List an7):Nat:=(l.map fun r=>r.packages.length).sum
def ce4 (repos:List an7)(inst:List aa2):Pool ⊕ Int :=
 if 16<repos.length\/256<inst.length+am6 repos then .inr 40 else
 if inst.all ak1=false then .inr 4 else
 match al7 0 repos (rowsOf inst (-1) 1025,eb8 [] 0 inst) with
 | some (rows,nm)=>.inl ⟨rows,inst.length,nm⟩
 | none=>.inr 4
def jq2 (r:Pool ⊕ Int):IV:=match r with
 | .inl p=>.tuple [p.v,.int .i64 0]
 | .inr e=>.tuple [.ad5,.int .i64 e]
abbrev NmL:=List (Str×List Int×Nat)
def mEs (L:NmL):List (IV×IV):=L.map fun t=>(.str t.1,.slice t.2.2 0 t.2.1.length 1)
def bd6 (L:NmL):Nms:=L.map fun t=>(t.1,t.2.1)
def be7:NmL->Str->Int->Nat->NmL
 | [],k,n,nid=>[(k,[n],nid)]
 | t::ts,k,n,nid=>if k=t.1 then (k,t.2.1++[n],nid)::ts else t::be7 ts k n nid
def de3 (L:NmL)(k:Str):IV:=match L.find? (fun t=>decide (k=t.1)) with
 | some t=>.slice t.2.2 0 t.2.1.length 1
 | none=>.aa1
def ch9 (L:NmL)(k:Str):List Int:=match L.find? (fun t=>decide (k=t.1)) with
 | some t=>t.2.1
 | none=>[]
theorem cy6 (L:NmL)(k:Str)(n:Int)(nid:Nat):bd6 (be7 L k n nid)=ar2 (bd6 L) k n:=by
 induction L with
 | nil=>rfl
 | cons t ts ih=>
  simp only[be7,bd6,zc,ar2];split
  ·rfl
  ·rw[zc]; congr 1
theorem jq3 (L:NmL)(k:Str):(aw2 2 (.str k) (mEs L)).map (fun r=>r.getD .aa1)=some (de3 L k):=by
 induction L with
 | nil=>rfl
 | cons t ts ih=>
  simp only[mEs,zc,aw2,dm6,de3,qj] at ih ⊢;by_cases h:k=t.1
  ·simp[h]
  ·simp only[h,decide_false] at ih ⊢;exact ih
theorem ja2 (L:NmL)(k:Str):∃ r,aw2 2 (.str k) (mEs L)=some r/\r.getD .aa1=de3 L k:=by
 have:=jq3 L k
 cases h:aw2 2 (.str k) (mEs L) with
 | none=>rw[h] at this; cases this
 | some r=>rw[h] at this; exact ⟨r,rfl,by simpa using this⟩
theorem kf6 (L:NmL)(k:Str)(n:Int)(nid:Nat):eh8 2 (.str k) (.slice nid 0 ((ch9 L k).length+1) 1) (mEs L)=some (mEs (be7 L k n nid)):=by
 induction L with
 | nil=>rfl
 | cons t ts ih=>
  simp only[mEs,zc,eh8,dm6,ch9,qj,be7] at ih ⊢;by_cases h:k=t.1
  ·simp[h]
  ·simp only[h,decide_false,if_false,zc] at ih ⊢;rw[ih]; rfl
theorem eb9 {k:Str}{n:Int}{nid:Nat}:∀ {L:NmL},(L.map (·.1)).Nodup->∀ t∈be7 L k n nid,(t∈L/\t.1≠k)\/t=(k,ch9 L k++[n],nid):=by
 intro L
 induction L with
 | nil=>intro _ t ht; simp[be7] at ht; exact .inr (by rw[ht]; rfl)
 | cons u us ih=>
  intro hk t ht;rw[zc,zk] at hk;simp only[be7] at ht;by_cases h:k=u.1
  ·rw[if_pos h] at ht;rcases zb.1 ht with rfl|ht
   ·right; simp[ch9,h]
   ·left;exact ⟨zf _ ht,fun e=>hk.1 (by rw[<- h,<- e]; exact List.mem_map_of_mem (f:=fun x:Str×List Int×Nat=>x.1) ht)⟩
  ·rw[if_neg h] at ht;rcases zb.1 ht with rfl|ht
   ·left; exact ⟨zg ..,fun e=>h e.symm⟩
   ·have e:ch9 (u::us) k=ch9 us k:=by simp[ch9,h]
    rw[e];rcases ih hk.2 t ht with ⟨h1,h2⟩|h1
    ·exact .inl ⟨zf _ h1,h2⟩
    ·exact .inr h1
theorem fg7 {k:Str}{n:Int}{nid:Nat}:∀ (L:NmL),(L.map (·.1)).Nodup->((be7 L k n nid).map (·.1)).Nodup/\∀ x∈(be7 L k n nid).map (·.1),x=k\/x∈L.map (·.1):=by
 intro L
 induction L with
 | nil=>intro _; simp[be7]
 | cons u us ih=>
  intro hk;rw[zc,zk] at hk;simp only[be7];by_cases h:k=u.1
  ·rw[if_pos h];refine ⟨?_,?_⟩
   ·rw[zc,zk]; exact ⟨by rw[h]; exact hk.1,hk.2⟩
   ·intro x hx;simp only[zc,zb] at hx ⊢;rcases hx with h1|h1
    ·exact .inl h1
    ·exact .inr (.inr h1)
  ·rw[if_neg h];obtain ⟨h1,h2⟩:=ih hk.2;refine ⟨?_,?_⟩
   ·rw[zc,zk];refine ⟨fun hm=>?_,h1⟩;rcases h2 _ hm with e|e
    ·exact h e.symm
    ·exact hk.1 e
   ·intro x hx;simp only[zc,zb] at hx ⊢;rcases hx with h3|h3
    ·exact .inr (.inl h3)
    ·rcases h2 _ h3 with e|e
     ·exact .inl e
     ·exact .inr (.inr e)
theorem gq3 {k:Str}{n:Int}{nid:Nat}:∀ (L:NmL),(L.map (·.2.2)).Nodup->nid ∉ L.map (·.2.2)->((be7 L k n nid).map (·.2.2)).Nodup/\∀ x∈(be7 L k n nid).map (·.2.2),x=nid\/x∈L.map (·.2.2):=by
 intro L
 induction L with
 | nil=>intro _ _; simp[be7]
 | cons u us ih=>
  intro hk hn;rw[zc,zk] at hk;simp only[zc,zb,not_or] at hn;simp only[be7];by_cases h:k=u.1
  ·rw[if_pos h];refine ⟨?_,?_⟩
   ·rw[zc,zk]; exact ⟨hn.2,hk.2⟩
   ·intro x hx;simp only[zc,zb] at hx ⊢;rcases hx with h1|h1
    ·exact .inl h1
    ·exact .inr (.inr h1)
  ·rw[if_neg h];obtain ⟨h1,h2⟩:=ih hk.2 hn.2;refine ⟨?_,?_⟩
   ·rw[zc,zk];refine ⟨fun hm=>?_,h1⟩;rcases h2 _ hm with e|e
    ·exact hn.1 e.symm
    ·exact hk.1 e
   ·intro x hx;simp only[zc,zb] at hx ⊢;rcases hx with h3|h3
    ·exact .inr (.inl h3)
    ·rcases h2 _ h3 with e|e
     ·exact .inl e
     ·exact .inr (.inr e)
theorem ce5 (L:NmL)(k:Str):(de3 L k=.aa1/\ch9 L k=[])\/∃ t∈L,t.1=k/\de3 L k=.slice t.2.2 0 t.2.1.length 1/\ch9 L k=t.2.1:=by
 unfold de3 ch9
 cases h:L.find? (fun t=>decide (k=t.1)) with
 | none=>exact .inl ⟨rfl,rfl⟩
 | some t=>
  have h1:=List.find?_some h;exact .inr ⟨t,List.mem_of_find?_eq_some h,by simpa using (by simpa using h1:k=t.1).symm,rfl,rfl⟩
theorem gq4 {L:NmL}(hk:(L.map (·.1)).Nodup)(hd:(L.map (·.2.2)).Nodup):∀ t∈L,∀ u∈L,t.2.2=u.2.2->t=u:=by
 intro t ht u hu e;obtain ⟨i,hi,h1⟩:=qt.1 ht;obtain ⟨j,hj,h2⟩:=qt.1 hu
 have hij:i=j:=by
  have hi':i<(L.map (·.2.2)).length:=by simpa using hi
  have hj':j<(L.map (·.2.2)).length:=by simpa using hj
  have hp:=List.pairwise_iff_getElem.1 hd;have e2:(L.map (·.2.2))[i]=(L.map (·.2.2))[j]:=by simp only[List.getElem_map,h1,h2,e]
  rcases Nat.lt_trichotomy i j with h|h|h
  ·exact absurd e2 (hp i j hi' hj' h)
  ·exact h
  ·exact absurd e2.symm (hp j i hj' hi' h)
 subst hij;rw[<- h1,<- h2]
end Go.Id.Md
namespace Go.Id.Md
open Go Go.Id
mutual
def aa6.ok:aa6->Prop
 | .mk k d xs=>0<=k/\k<256/\d.fit/\xs.length<2^62/\aa6.oks xs
def aa6.oks:List aa6->Prop
 | []=>True
 | r::rs=>r.ok/\aa6.oks rs
end
theorem aa6.ja3 (l:List aa6):aa6.oks l↔∀ r∈l,r.ok:=by
 induction l with
 | nil=>simp[aa6.oks]
 | cons r rs ih=>simp[aa6.oks,ih]
theorem aa6.ga1 {k:Int}{d:Dep}{xs:List aa6}:(aa6.mk k d xs).ok↔0<=k/\k<256/\d.fit/\xs.length<2^62/\∀ r∈xs,r.ok:=by
 simp only[aa6.ok,aa6.ja3]
structure aa2.Ok (p:aa2):Prop where
 name:p.name.length<2^62
 vendor:p.vendor.length<2^62
 evr:p.evr.fit
 au1:p.provides.length<2^62/\∀ d∈p.provides,d.fit
 obs:p.aa8.length<2^62/\∀ d∈p.aa8,d.fit
 files:p.files.length<2^62/\∀ s∈p.files,s.length<2^62
 rich:∀ x∈p.rows,x.2.length<2^62/\∀ r∈x.2,r.ok
def an7.Ok (r:an7):Prop:=r.packages.length<2^62/\∀ p∈r.packages,p.Ok
def big (d:Dep):Bool:=decide (500<d.name.length+d.evr.ver.length)||decide (500<d.evr.rel.length)
mutual
def ce6:aa6->Nat->Nat×Bool
 | .mk _ _ xs,deep=>if 20<deep\/100<xs.length then (0,true) else cw9 xs deep 0
def cw9:List aa6->Nat->Nat->Nat×Bool
 | [],_,n=>(n,false)
 | r::rs,deep,n=>if big r.dep=true then (0,true) else
  if (ce6 r (deep+1)).2=true\/2000<n+1+(ce6 r (deep+1)).1 then (0,true) else cw9 rs deep (n+1+(ce6 r (deep+1)).1)
end
def cx1 (l:List aa6)(deep:Nat):Nat×Bool:=if 20<deep\/100<l.length then (0,true) else cw9 l deep 0
theorem du1 (r:aa6)(deep:Nat):ce6 r deep=cx1 r.args deep:=by
 cases r; simp only[ce6,cx1,aa6.args]; rfl
def ce7:List (List aa6)->Nat->Bool
 | [],_=>false
 | l::ls,n=>if (cx1 l 0).2=true\/2000<n+(cx1 l 0).1 then true else ce7 ls (n+(cx1 l 0).1)
def bq8 (p:aa2):List (List aa6):=[p.requires,p.conflicts,p.ac7,p.ac4,p.suggests,p.af3]
def av5 (p:aa2):Bool :=
 decide (100<p.provides.length)||(decide (100<p.aa8.length)||(decide (100<p.files.length)||(decide (1000<p.name.length)||(decide (1000<p.vendor.length)||(decide (1000<p.evr.ver.length)||(decide (1000<p.evr.rel.length)||ce7 (bq8 p) 0))))))
theorem ia6:∀ (l:List aa6) (deep n:Nat),n<=2000->(cw9 l deep n).1<=2000:=by
 intro l
 induction l with
 | nil=>intro deep n h; simpa [cw9] using h
 | cons r rs ih=>
  intro deep n h;simp only[cw9];split
  ·omega
  split
  ·omega
  ·exact ih _ _ om
theorem fg8 (l:List aa6)(deep:Nat):(cx1 l deep).1<=2000:=by
 unfold cx1;split
 ·omega
 ·exact ia6 _ _ _ om
def bd7:Nat->List an7->List be6
 | _,[]=>[]
 | i,r::rs=>rowsOf r.packages i r.priority++bd7 (i+1) rs
theorem dk8:∀ (rs:List an7) (i:Nat) (st:List be6×Nms) (out:List be6×Nms),al7 i rs st=some out->out.1=st.1++bd7 i rs:=by
 intro rs
 induction rs with
 | nil=>intro i st out h; simp only[al7,Option.some.injEq] at h; subst h; simp[bd7]
 | cons r rs ih=>
  intro i st out h;simp only[al7] at h;split at h
  ·cases h
  ·rw[ih _ _ _ h]; simp[bd7]
theorem ec1 {repos:List an7}{inst:List aa2}{p:Pool}(h:ce4 repos inst=.inl p):p.rows=rowsOf inst (-1) 1025++bd7 0 repos/\p.inst=inst.length:=by
 unfold ce4 at h;split at h
 ·cases h
 split at h
 ·cases h
 split at h
 ·rename_i rows nm hr;cases h;exact ⟨dk8 _ _ _ _ hr,rfl⟩
 ·cases h
theorem ia7 {repos:List an7}{inst:List aa2}{e:Int}(h:ce4 repos inst=.inr e):e=40\/e=4:=by
 unfold ce4 at h;split at h
 ·cases h; exact .inl rfl
 split at h
 ·cases h; exact .inr rfl
 split at h
 ·cases h
 ·cases h; exact .inr rfl
end Go.Id.Md
namespace Go.Id.Md
open Go Go.Id
def ad3:Nms->Str->List Int
 | [],_=>[]
 | t::ts,k=>if k=t.1 then t.2 else ad3 ts k
def KN (nm:Nms):Prop:=(nm.map (·.1)).Nodup
theorem bj4 {nm:Nms}{k:Str}{n:Int}(h:KN nm)(t:Str×List Int):t∈ar2 nm k n↔(t∈nm/\t.1≠k)\/t=(k,ad3 nm k++[n]):=by
 induction nm with
 | nil=>simp[ar2,ad3]
 | cons u us ih=>
  have h':u.1 ∉ us.map (·.1)/\KN us:=by simpa [KN] using h
  simp only[ar2,ad3];by_cases e:k=u.1
  ·rw[if_pos e,if_pos e];subst e;simp only[zb];constructor
   ·rintro (rfl|ht)
    ·exact .inr rfl
    ·exact .inl ⟨.inr ht,fun e=>h'.1 (zm.2 ⟨t,ht,e⟩)⟩
   ·rintro (⟨rfl|ht,hne⟩|rfl)
    ·exact absurd rfl hne
    ·exact .inr ht
    ·exact .inl rfl
  ·rw[if_neg e,if_neg e];simp only[zb,ih h'.2];constructor
   ·rintro (rfl|⟨h1,h2⟩|rfl)
    ·exact .inl ⟨.inl rfl,fun e'=>e e'.symm⟩
    ·exact .inl ⟨.inr h1,h2⟩
    ·exact .inr rfl
   ·rintro (⟨rfl|h1,h2⟩|rfl)
    ·exact .inl rfl
    ·exact .inr (.inl ⟨h1,h2⟩)
    ·exact .inr (.inr rfl)
theorem ga2 {k:Str}{n:Int}:∀ {nm:Nms},∀ x∈(ar2 nm k n).map (·.1),x=k\/x∈nm.map (·.1):=by
 intro nm
 induction nm with
 | nil=>intro x hx; simpa [ar2] using hx
 | cons u us ih=>
  intro x hx;simp only[ar2] at hx;split at hx
  ·rename_i e; simp only[zc,zb] at hx ⊢;rcases hx with h|h
   ·exact .inl h
   ·exact .inr (.inr h)
  ·simp only[zc,zb] at hx ⊢;rcases hx with h|h
   ·exact .inr (.inl h)
   ·rcases ih x h with h|h
    ·exact .inl h
    ·exact .inr (.inr h)
theorem am7 {nm:Nms}{k:Str}{n:Int}(h:KN nm):KN (ar2 nm k n):=by
 induction nm with
 | nil=>simp[KN,ar2]
 | cons u us ih=>
  have h':u.1 ∉ us.map (·.1)/\KN us:=by simpa [KN] using h
  simp only[ar2];split
  ·rename_i e; subst e; exact h
  ·rename_i e;show ((u::ar2 us k n).map (·.1)).Nodup;rw[zc,zk];refine ⟨fun hm=>?_,ih h'.2⟩;rcases ga2 _ hm with h1|h1
   ·exact e h1.symm
   ·exact h'.1 h1
theorem KN.nd {nm:Nms}(h:KN nm):nm.Nodup:=by
 induction nm with
 | nil=>exact z8
 | cons u us ih=>
  have h':u.1 ∉ us.map (·.1)/\KN us:=by simpa [KN] using h
  exact zk.2 ⟨fun hm=>h'.1 (zm.2 ⟨u,hm,rfl⟩),ih h'.2⟩
theorem KN.perm {nm nm':Nms}(h:KN nm)(p:nm.Perm nm'):KN nm':=(p.map (fun x:Str×List Int=>x.1)).nodup_iff.1 h
theorem du2 {nm:Nms}(h:KN nm){t:Str×List Int}(ht:t∈nm):ad3 nm t.1=t.2:=by
 induction nm with
 | nil=>cases ht
 | cons u us ih=>
  have h':u.1 ∉ us.map (·.1)/\KN us:=by simpa [KN] using h
  simp only[ad3];rcases zb.1 ht with rfl|ht
  ·rw[if_pos rfl]
  ·rw[if_neg (fun e=>h'.1 (zm.2 ⟨t,ht,e⟩))];exact ih h'.2 ht
theorem de4 {nm:Nms}{k:Str}(h:k ∉ nm.map (·.1)):ad3 nm k=[]:=by
 induction nm with
 | nil=>rfl
 | cons u us ih=>
  simp only[zc,zb,not_or] at h;simp only[ad3];rw[if_neg h.1]; exact ih h.2
theorem de5 {nm nm':Nms}(h:KN nm)(p:nm.Perm nm')(k:Str):ad3 nm k=ad3 nm' k:=by
 by_cases hk:k∈nm.map (·.1)
 ·obtain ⟨t,ht,rfl⟩:=zm.1 hk;rw[du2 h ht,du2 (h.perm p) (p.mem_iff.1 ht)]
 ·rw[de4 hk,de4 (fun e=>hk ((p.map (·.1)).mem_iff.2 e))]
theorem bj5 {nm:Nms}(h:KN nm)(k:Str)(n:Int)(j:Str):ad3 (ar2 nm k n) j=if j=k then ad3 nm k++[n] else ad3 nm j:=by
 induction nm with
 | nil=>
  simp only[ar2,ad3]
  split<;>rfl
 | cons u us ih=>
  have h':u.1 ∉ us.map (·.1)/\KN us:=by simpa [KN] using h
  simp only[ar2,ad3];by_cases e:k=u.1
  ·rw[if_pos e,if_pos e];simp only[ad3];by_cases ej:j=k
   ·rw[if_pos ej,if_pos ej]
   ·rw[if_neg ej,if_neg ej,if_neg (fun x=>ej (x.trans e.symm))]
  ·rw[if_neg e,if_neg e];simp only[ad3,ih h'.2];by_cases ej:j=k
   ·rw[if_pos ej,if_pos ej,if_neg (fun x=>e (ej.symm.trans x))]
   ·rw[if_neg ej,if_neg ej]
theorem bw5 {nm nm':Nms}{k:Str}{n:Int}(h:KN nm)(p:nm.Perm nm'):(ar2 nm k n).Perm (ar2 nm' k n):=by
 refine (qk (am7 h).nd (am7 (h.perm p)).nd).2 fun t=>?_
 rw[bj4 h,bj4 (h.perm p),de5 h p,p.mem_iff]
theorem ga3 {nm:Nms}{k j:Str}{n:Int}(h:KN nm):(ar2 (ar2 nm k n) j n).Perm (ar2 (ar2 nm j n) k n):=by
 by_cases e:k=j
 ·subst e; exact .refl _
 refine (qk (am7 (am7 h)).nd (am7 (am7 h)).nd).2 fun t=>?_
 rw[bj4 (am7 h),bj4 (am7 h),bj4 h,bj4 h,bj5 h,bj5 h,if_neg (fun x=>e x.symm),if_neg e];constructor
 ·rintro (⟨⟨h1,h2⟩|rfl,h3⟩|rfl)
  ·exact .inl ⟨.inl ⟨h1,h3⟩,h2⟩
  ·exact .inr rfl
  ·exact .inl ⟨.inr rfl,fun x=>e x.symm⟩
 ·rintro (⟨⟨h1,h2⟩|rfl,h3⟩|rfl)
  ·exact .inl ⟨.inl ⟨h1,h3⟩,h2⟩
  ·exact .inr rfl
  ·exact .inl ⟨.inr rfl,e⟩
def bd8 (nm:Nms)(ks:List Str)(n:Int):Nms:=ks.foldl (fun m k=>ar2 m k n) nm
theorem em5 {n:Int}:∀ {ks:List Str} {nm:Nms},KN nm->KN (bd8 nm ks n)
 | [],_,h=>h
 | _::ks,_,h=>em5 (ks:=ks) (am7 h)
theorem de6 {n:Int}:∀ (ks:List Str) {nm nm':Nms},KN nm->nm.Perm nm'->(bd8 nm ks n).Perm (bd8 nm' ks n)
 | [],_,_,_,p=>p
 | _::ks,_,_,h,p=>de6 ks (am7 h) (bw5 h p)
theorem em6 {n:Int}{ks js:List Str}(p:ks.Perm js):∀ {nm:Nms},KN nm->(bd8 nm ks n).Perm (bd8 nm js n):=by
 induction p with
 | nil=>intro nm _; exact .refl _
 | cons x _ ih=>intro nm h; exact ih (am7 h)
 | swap x y l=>intro nm h; exact de6 l (am7 (am7 h)) (ga3 h)
 | trans p1 _ ih1 ih2=>intro nm h; exact (ih1 h).trans (ih2 h)
theorem ew9 (nm:Nms)(ks:List Str)(k:Str)(n:Int):bd8 nm (ks++[k]) n=ar2 (bd8 nm ks n) k n:=by simp[bd8]
def av6 (l:List Str)(k:Str):List Str:=if k∈l then l else l++[k]
def cy7 (p:aa2):List Str:=p.files.foldl av6 ((p.provides.map (·.name)).foldl av6 [p.name])
def au8 (nm:Nms)(ds:List Str)(n:Int):Nms:=ds.foldl (fun m k=>if n∈ad3 m k then m else ar2 m k n) nm
theorem cu6 (nm:Nms)(ks:List Str)(k:Str)(n:Int):au8 nm (ks++[k]) n=if n∈ad3 (au8 nm ks n) k then au8 nm ks n else ar2 (au8 nm ks n) k n:=by
 unfold au8; rw[List.foldl_append]; rfl
structure Index where
 all:List aa2
 au1:Nms
 names:Nms
 over:Nms
def Index.v (x:Index):IV:=.ab9 [.aa4 (x.all.map aa2.cs),.ak9 (nmV x.au1),.ak9 (nmV x.names),.ak9 (nmV x.over)]
def em7 (x:Index)(n:Nat)(p:aa2):Index:=⟨x.all++[p],bd8 x.au1 (cy7 p) n,ar2 x.names p.name n,au8 x.over (p.aa8.map (·.name)) n⟩
def idxFrom (x:Index):Nat->List aa2->Index
 | _,[]=>x
 | n,p::ps=>idxFrom (em7 x n p) (n+1) ps
def ad7 (l:List aa2):Index:=idxFrom ⟨[],[],[],[]⟩ 0 l
theorem em8 (ps:List aa2)(p:aa2):∀ (x:Index) (n:Nat),idxFrom x n (ps++[p])=em7 (idxFrom x n ps) (n+ps.length) p:=by
 induction ps with
 | nil=>intro x n; rfl
 | cons q qs ih=>intro x n; show idxFrom _ (n+1) (qs++[p])=_; rw[ih,qg]; congr 1; omega
theorem ga4 (L:NmL)(k:Str):ad3 (bd6 L) k=ch9 L k:=by
 induction L with
 | nil=>rfl
 | cons t ts ih=>
  simp only[bd6,zc,ad3,ch9,qj] at ih ⊢;by_cases h:k=t.1
  ·simp[h]
  ·simp only[h,decide_false,if_false] at ih ⊢;exact ih
end Go.Id.Md
namespace Go.Id.Md
open Go Go.Id
def numsOf (q:aa2->Bool)(l:List aa2):List Int:=((zr l.length).filter fun n=>q (l.getD n default)).map fun (n:Nat)=>(n:Int)
theorem ca1 (q:aa2->Bool)(l:List aa2)(p:aa2):numsOf q (l++[p])=numsOf q l++if q p then [(l.length:Int)] else []:=by
 unfold numsOf;rw[zd,List.length_singleton,zq,z9,zv];congr 1
 ·congr 1;refine qc fun n hn=>?_
  have h:=zh.1 hn;simp[ze,List.getElem?_append,h]
 ·have e:(l++[p]).getD l.length default=p:=by simp[ze]
  simp only[List.filter_cons,List.filter_nil,e];split<;>rfl
theorem al3 {q:aa2->Bool}{l:List aa2}{n:Int}:n∈numsOf q l↔∃ m:Nat,n=m/\m<l.length/\q (l.getD m default)=true:=by
 unfold numsOf;rw[zm];constructor
 ·rintro ⟨m,hm,rfl⟩;obtain ⟨h1,h2⟩:=zu.1 hm;exact ⟨m,rfl,zh.1 h1,h2⟩
 ·rintro ⟨m,rfl,h1,h2⟩;exact ⟨m,zu.2 ⟨zh.2 h1,by simpa using h2⟩,rfl⟩
theorem ae8 (q:aa2->Bool)(l:List aa2):(numsOf q l).length<=l.length:=by
 unfold numsOf;rw[z4];exact qq (z7 _ _) (by simp)
theorem ce8 (q r:aa2->Bool)(l:List aa2):(numsOf q l).filter (fun n=>r (l.getD n.toNat default))=numsOf (fun p=>q p&&r p) l:=by
 unfold numsOf;rw[List.filter_map,List.filter_filter];congr 1;refine qc fun n _=>?_
 show (r (l.getD ((n:Int)).toNat default)&&q (l.getD n default))=_;rw[qf,qo]
theorem cu7 {q r:aa2->Bool}{l:List aa2}(h:∀ p∈l,q p=r p):numsOf q l=numsOf r l:=by
 unfold numsOf;congr 1;refine qc fun n hn=>?_
 have hlt:=zh.1 hn;refine h _ ?_;rw[ze,List.getElem?_eq_getElem hlt];exact List.getElem_mem hlt
theorem ex1 {n:Int}:∀ (ks:List Str) {nm:Nms},KN nm->ks.Nodup->∀ j,ad3 (bd8 nm ks n) j=ad3 nm j++if j∈ks then [n] else []:=by
 intro ks
 induction ks with
 | nil=>intro nm _ _ j; simp[bd8]
 | cons k ks ih=>
  intro nm h hnd j;obtain ⟨h1,h2⟩:=zk.1 hnd;show ad3 (bd8 (ar2 nm k n) ks n) j=_;rw[ih (am7 h) h2,bj5 h];by_cases e:j=k
  ·subst e; simp[h1]
  ·simp[e]
theorem ga5 {n:Int}:∀ (ks:List Str) {nm:Nms},KN nm->KN (au8 nm ks n):=by
 intro ks
 induction ks with
 | nil=>intro nm h; exact h
 | cons k ks ih=>
  intro nm h;show KN (au8 (if n∈ad3 nm k then nm else ar2 nm k n) ks n);split
  ·exact ih h
  ·exact ih (am7 h)
theorem em9 {n:Int}:∀ (ks:List Str) {nm:Nms},KN nm->∀ j,ad3 (au8 nm ks n) j=ad3 nm j++if j∈ks/\n ∉ ad3 nm j then [n] else []:=by
 intro ks
 induction ks with
 | nil=>intro nm _ j; simp[au8]
 | cons k ks ih=>
  intro nm h j;show ad3 (au8 (if n∈ad3 nm k then nm else ar2 nm k n) ks n) j=_;by_cases hk:n∈ad3 nm k
  ·rw[if_pos hk,ih h];by_cases e:j=k
   ·subst e; simp[hk]
   ·simp[e]
  ·rw[if_neg hk,ih (am7 h),bj5 h];by_cases e:j=k
   ·subst e; simp[hk]
   ·simp[e]
theorem ga6 {l:List Str}{k j:Str}:j∈av6 l k↔j∈l\/j=k:=by
 unfold av6;split
 ·rename_i h; exact ⟨.inl,fun h'=>h'.elim id fun e=>e▸h⟩
 ·simp
theorem de7 {j:Str}:∀ (ks l:List Str),j∈ks.foldl av6 l↔j∈l\/j∈ks:=by
 intro ks
 induction ks with
 | nil=>intro l; simp
 | cons k ks ih=>intro l; rw[List.foldl_cons,ih,ga6,zb,or_assoc]
theorem ga7 {l:List Str}(h:l.Nodup)(k:Str):(av6 l k).Nodup:=by
 unfold av6;split
 ·exact h
 ·rename_i hk;rw[zl];exact ⟨h,by simp,fun a ha b hb e=>by simp at hb; subst hb; subst e; exact hk ha⟩
theorem ca2:∀ (ks:List Str) {l:List Str},l.Nodup->(ks.foldl av6 l).Nodup
 | [],_,h=>h
 | k::ks,_,h=>ca2 ks (ga7 h k)
theorem ia8 (p:aa2):(cy7 p).Nodup:=ca2 _ (ca2 _ (by simp))
theorem ia9 (p:aa2)(j:Str):j∈cy7 p↔j=p.name\/(∃ d∈p.provides,d.name=j)\/j∈p.files:=by
 unfold cy7;rw[de7,de7];simp[or_assoc]
structure ex2 (x:Index) (l:List aa2):Prop where
 all:x.all=l
 kp:KN x.au1
 kn:KN x.names
 ko:KN x.over
 au1:∀ j,ad3 x.au1 j=numsOf (fun p=>decide (j∈cy7 p)) l
 names:∀ j,ad3 x.names j=numsOf (fun p=>decide (p.name=j)) l
 over:∀ j,ad3 x.over j=numsOf (fun p=>decide (∃ d∈p.aa8,d.name=j)) l
theorem ex2.add {x:Index}{l:List aa2}(h:ex2 x l)(p:aa2):ex2 (em7 x l.length p) (l++[p]) where
 all:=by show x.all++[p]=_; rw[h.all]
 kp:=em5 h.kp
 kn:=am7 h.kn
 ko:=ga5 _ h.ko
 au1:=fun j=>by
  show ad3 (bd8 x.au1 (cy7 p) _) j=_;rw[ex1 _ h.kp (ia8 p),h.au1,ca1];simp
 names:=fun j=>by
  show ad3 (ar2 x.names p.name _) j=_;rw[bj5 h.kn,h.names,h.names,ca1];by_cases e:j=p.name
  ·subst e; simp
  ·have e':¬ p.name=j:=fun h=>e h.symm
   simp[e,e']
 over:=fun j=>by
  show ad3 (au8 x.over _ _) j=_;rw[em9 _ h.ko,h.over,ca1]
  have hn:(l.length:Int) ∉ numsOf (fun p=>decide (∃ d∈p.aa8,d.name=j)) l:=fun hm=>by
   obtain ⟨m,e,h1,_⟩:=al3.1 hm;omega
  simp[hn]
theorem ga8:∀ (ps:List aa2) {x:Index} {l:List aa2},ex2 x l->ex2 (idxFrom x l.length ps) (l++ps):=by
 intro ps
 induction ps with
 | nil=>intro x l h; rw[List.append_nil]; exact h
 | cons p ps ih=>
  intro x l h;have:=ih (h.add p);rw[List.append_assoc] at this
  simpa [idxFrom] using this
theorem bg9 (l:List aa2):ex2 (ad7 l) l:=by
 have h0:ex2 ⟨[],[],[],[]⟩ []:=⟨rfl,z8,z8,z8,fun _=>by simp[ad3,numsOf],fun _=>by simp[ad3,numsOf],fun _=>by simp[ad3,numsOf]⟩;exact ga8 l h0
theorem en1 {p:aa2}{d:Dep}(h:named p d=true):p.name=d.name:=by
 unfold named meets own at h;simp only[za,decide_eq_true_eq] at h;exact h.1
theorem en2 {p:aa2}{d:Dep}(h:provides p d=true):d.name∈cy7 p:=by
 unfold provides at h;rw[ia9];simp only[z5,za,decide_eq_true_eq,z0] at h;rcases h with (h|⟨a,ha,h⟩)|⟨_,h⟩
 ·exact .inl (en1 h).symm
 ·unfold meets at h;simp only[za,decide_eq_true_eq] at h;exact .inr (.inl ⟨a,ha,h.1⟩)
 ·exact .inr (.inr (by simpa using h))
def ae9 (l:List aa2)(d:Dep):List Int:=numsOf (fun p=>provides p d) l
def am1 (l:List aa2)(d:Dep):List Int:=numsOf (fun p=>named p d) l
theorem cu8 (l:List aa2)(d:Dep):(ad3 (ad7 l).au1 d.name).filter (fun n=>provides (l.getD n.toNat default) d)=ae9 l d:=by
 rw[(bg9 l).au1];refine (ce8 (fun p=>decide (d.name∈cy7 p)) (fun p=>provides p d) l).trans ?_
 exact cu7 fun p _=>by
  cases h:provides p d with
  | false=>simp
  | true=>simp[en2 h]
theorem fg9 (l:List aa2)(d:Dep):(ad3 (ad7 l).names d.name).filter (fun n=>named (l.getD n.toNat default) d)=am1 l d:=by
 rw[(bg9 l).names];refine (ce8 (fun p=>decide (p.name=d.name)) (fun p=>named p d) l).trans ?_
 exact cu7 fun p _=>by
  cases h:named p d with
  | false=>simp
  | true=>simp[en1 h]
end Go.Id.Md
namespace Go.Id.Md
open Go Go.Id
theorem ec2:∀ (rs:List an7) (i:Nat) (st:List be6×Nms) (out:List be6×Nms),al7 i rs st=some out->∀ r∈rs,r.packages.all ak1=true:=by
 intro rs
 induction rs with
 | nil=>intro i st out _ r hr; cases hr
 | cons x xs ih=>
  intro i st out h r hr;simp only[al7] at h;split at h
  ·cases h
  ·rename_i hc;rcases zb.1 hr with rfl|hr
   ·cases hb:r.packages.all ak1 with
    | true=>rfl
    | false=>exact absurd (.inr (.inr hb)) hc
   ·exact ih _ _ _ h r hr
theorem cr1 {repos:List an7}{inst:List aa2}{p:Pool}(h:ce4 repos inst=.inl p):repos.length<=16/\inst.length+am6 repos<=256/\inst.all ak1=true/\∀ r∈repos,r.packages.all ak1=true:=by
 unfold ce4 at h;split at h
 ·cases h
 rename_i hc;split at h
 ·cases h
 rename_i hm;split at h
 ·rename_i rows nm hr;exact ⟨om,om,by simpa using hm,ec2 _ _ _ _ hr⟩
 ·cases h
theorem du3 (l:List aa2)(a b:Int):(rowsOf l a b).map (·.pkg)=l:=by
 induction l with
 | nil=>rfl
 | cons x xs ih=>show x::(rowsOf xs a b).map (·.pkg)=_; rw[ih]
def ac3 (p:Pool):List aa2:=p.rows.map (·.pkg)
theorem ec3:∀ (rs:List an7) (i:Nat),(bd7 i rs).map (·.pkg)=rs.flatMap (·.packages):=by
 intro rs
 induction rs with
 | nil=>intro i; rfl
 | cons r rs ih=>intro i; simp only[bd7,zv,ih,du3,qb]
theorem gq5:∀ (rs:List an7),(rs.flatMap (·.packages)).length=am6 rs:=by
 intro rs
 induction rs with
 | nil=>rfl
 | cons r rs ih=>simp only[qb,zd,ih]; rfl
theorem ce9 {repos:List an7}{inst:List aa2}{p:Pool}(h:ce4 repos inst=.inl p):ac3 p=inst++repos.flatMap (·.packages):=by
 unfold ac3;rw[(ec1 h).1,zv,ec3];congr 1;exact du3 _ _ _
theorem fh1 {repos:List an7}{inst:List aa2}{p:Pool}(h:ce4 repos inst=.inl p):p.rows.length<=256:=by
 have e:p.rows.length=(ac3 p).length:=by simp[ac3]
 rw[e,ce9 h,zd,gq5];exact (cr1 h).2.1
theorem fh2 {repos:List an7}{inst:List aa2}{p:Pool}(h:ce4 repos inst=.inl p):∀ x∈ac3 p,ak1 x=true/\(x∈inst\/∃ r∈repos,x∈r.packages):=by
 intro x hx;rw[ce9 h] at hx;obtain ⟨_,_,h1,h2⟩:=cr1 h;rcases zi.1 hx with hx|hx
 ·exact ⟨zp.1 h1 x hx,.inl hx⟩
 ·obtain ⟨r,hr,hxr⟩:=zj.1 hx;exact ⟨zp.1 (h2 r hr) x hxr,.inr ⟨r,hr,hxr⟩⟩
def EVR.tiny (e:EVR):Prop:=e.ver.length<=64/\e.rel.length<=64
theorem fh3 {s:Str}(h:az8 s=true):s.length<=64:=by
 unfold az8 at h;simp only[za,decide_eq_true_eq] at h;exact h.1.2
theorem fh4 {e:EVR}{b:Bool}(h:bj2 e b=true):e.tiny:=by
 unfold bj2 at h;simp only[za,z5,decide_eq_true_eq] at h;refine ⟨fh3 h.1.2,?_⟩;rcases h.2 with h|h
 ·exact fh3 h
 ·have:=List.isEmpty_iff.1 h.2; rw[this]; exact Nat.zero_le _
theorem ec4 {d:Dep}(h:aj9 d=true):0<=d.op/\d.op<256/\d.evr.tiny/\d.name.length<=64:=by
 unfold aj9 at h;simp only[za] at h;obtain ⟨⟨h1,h2⟩,h3⟩:=h
 have hn:d.name.length<=64:=by
  unfold as5 at h1;simp only[za,decide_eq_true_eq] at h1;exact h1.1.1.2
 have ho:0<=d.op/\d.op<256:=by
  unfold eb7 at h2;simp only[List.contains_iff_mem,zb,zt,or_false] at h2;omega
 refine ⟨ho.1,ho.2,?_,hn⟩;split at h3
 ·have:d.evr=gq2:=by simpa using h3
  rw[this]; exact ⟨by decide,by decide⟩
 ·simp only[za] at h3;exact fh4 h3.2
structure aa2.Tiny (p:aa2):Prop where
 name:p.name.length<=64
 evr:p.evr.tiny
 au1:p.provides.length<=32/\∀ d∈p.provides,0<=d.op/\d.op<256/\d.evr.tiny/\d.name.length<=64
 obs:p.aa8.length<=32/\∀ d∈p.aa8,0<=d.op/\d.op<256/\d.evr.tiny/\d.name.length<=64
 files:p.files.length<=32
theorem fh5 {p:aa2}(h:ak1 p=true):p.Tiny:=by
 unfold ak1 at h;simp only[za,decide_eq_true_eq] at h;obtain ⟨⟨⟨⟨⟨⟨⟨⟨⟨⟨⟨⟨⟨⟨h1,_⟩,h3⟩,_⟩,_⟩,h6,h6'⟩,h7,h7'⟩,h8,_⟩,_⟩,_⟩,_⟩,_⟩,_⟩,_⟩,_⟩:=h;refine ⟨?_,fh4 h3,⟨h6,fun d hd=>ec4 (zp.1 h6' d hd)⟩,⟨h7,fun d hd=>ec4 (zp.1 h7' d hd)⟩,h8⟩;unfold as5 at h1;simp only[za,decide_eq_true_eq] at h1;exact h1.1.1.2
end Go.Id.Md
namespace Go.Id.Md
open Go Go.Id
structure Job where
 kind:Int
 dep:Dep
 deriving DecidableEq,Inhabited
structure bd9 where
 kind:Int
 n:Int
 deriving DecidableEq,Inhabited
structure Req where
 au7:Int
 vendor:Bool
 ag6:List Job
 ai1:List bd9
 budget:Int
def Job.cs (j:Job):List IV:=[.int .u8 j.kind,.str j.dep.name,.int .u8 j.dep.op,.int .i64 j.dep.evr.aq6,.str j.dep.evr.ver,.str j.dep.evr.rel]
def bd9.cs (e:bd9):List IV:=[.int .u8 e.kind,.int .i64 e.n]
abbrev be1 (l:List Job):IV:=.aa4 (l.map Job.cs)
abbrev av7 (l:List bd9):IV:=.aa4 (l.map bd9.cs)
def Req.cs (r:Req):List IV:=[.int .u8 r.au7,.bool r.vendor,be1 r.ag6,av7 r.ai1,.int .i64 r.budget]
def ba7 (q:Nat->Bool)(k:Nat):List Int:=((zr k).filter q).map fun (n:Nat)=>(n:Int)
theorem cr2 (q:Nat->Bool)(k:Nat):ba7 q (k+1)=ba7 q k++if q k then [(k:Int)] else []:=by
 unfold ba7;rw[zq,z9,zv];congr 1;simp only[List.filter_cons,List.filter_nil];split<;>rfl
theorem bq9 {q:Nat->Bool}{k:Nat}{n:Int}:n∈ba7 q k↔∃ m:Nat,n=m/\m<k/\q m=true:=by
 unfold ba7;rw[zm];constructor
 ·rintro ⟨m,hm,rfl⟩;obtain ⟨h1,h2⟩:=zu.1 hm;exact ⟨m,rfl,zh.1 h1,h2⟩
 ·rintro ⟨m,rfl,h1,h2⟩;exact ⟨m,zu.2 ⟨zh.2 h1,h2⟩,rfl⟩
theorem aw6 (q:Nat->Bool)(k:Nat):(ba7 q k).length<=k:=by
 unfold ba7;rw[z4];exact qq (z7 _ _) (by simp)
theorem ib5 (q:Nat->Bool)(k:Nat):(ba7 q k).Pairwise (· < ·):=by
 unfold ba7;refine qn.map (R:=fun (a b:Nat)=>a<b) _ (fun a b h=>by show (a:Int)<b; omega) ?_;exact qn.filter _ List.pairwise_lt_range
def ca3 (a:Int):Bool:=ao2 a&&!decide (a=1)
def en3 (a b:Int):Bool:=ca3 a&&ca3 b&&!decide (a=b)
def cy8 (a b:Int):Bool:=ao2 a&&ao2 b&&!en3 a b
def de8 (m a:Int):Int :=
 if m=2 then (if a=1 then 2 else if a=2 then 1 else if a=3 then 3 else 0) else
 if m=3 then (if a=1 then 2 else if a=3 then 1 else 0) else
 if m=4 then (if a=1 then 2 else if a=4 then 1 else 0) else 0
def jq4 (m a:Int):Bool:=decide (0<de8 m a)
structure ab7 where
 p:Pool
 r:Req
namespace ab7
variable (a:ab7)
def l:List aa2:=ac3 a.p
def pk (n:Int):aa2:=a.l.getD n.toNat default
def jb (n:Int):Job:=a.r.ag6.getD n.toNat default
def is (n:Int):Bool:=decide (0<=n)&&decide (n<a.l.length)
def inst (n:Int):Bool:=a.is n&&decide (n<a.p.inst)
def job (n:Int):Bool:=decide (0<=n)&&decide (n<a.r.ag6.length)
def fits (n:Int):Bool:=a.is n&&jq4 a.r.au7 (a.pk n).au7
def ir2 (p q:aa2):Bool:=decide (p.name=q.name)&&!(en3 p.au7 q.au7&&decide (aw5 p.evr q.evr=0))
def twins (n m:Int):Bool:=a.is n&&a.is m&&!decide (n=m)&&ir2 (a.pk n) (a.pk m)
def cf1 (k n:Int):Bool:=decide ((⟨k,n⟩:bd9)∈a.r.ai1)
def dropped (n:Int):Bool:=a.job n&&a.cf1 1 n
def ca4 (k n:Int):Bool:=(zr a.r.ag6.length).any fun i=>decide ((a.jb i).kind=k)&&!a.dropped i&&decide (n∈am1 a.l (a.jb i).dep)
def goes (i:Int):Bool:=a.inst i&&(a.ca4 2 i||a.cf1 2 i)
def en4 (vendor down other:Bool)(old q:aa2):Bool:=decide (q.name=old.name)&&(down||decide (0<=aw5 q.evr old.evr))&&(other||cy8 q.au7 old.au7)&&(vendor||decide (q.vendor=old.vendor))
def ki9 (i:Int)(q:aa2):Bool:=en4 a.r.vendor (a.cf1 3 i||a.ca4 4 i) (a.cf1 4 i) (a.pk i) q
def ao9 (i:Int):List Int:=if a.inst i then ba7 (fun n=>decide ((n:Int)=i)||a.ki9 i (a.pk n)||(!decide ((n:Int)=i)&&aa8 (a.pk n) (a.pk i))) a.l.length else []
def by7 (i:Int):List Int:=(a.ao9 i).filter fun n=>!(a.inst n || !a.fits n)
def meant (j:Int):List Int:=if a.job j then (if (a.jb j).kind=1 then ae9 a.l (a.jb j).dep else if (a.jb j).kind=2 then am1 a.l (a.jb j).dep else (am1 a.l (a.jb j).dep).filter fun n=>a.inst n) else []
def some (state l:List Int):Bool:=l.any fun n=>decide (n∈state)
def br1 (j:Int)(state:List Int):Bool:=!a.job j ||
 if (a.jb j).kind=1 then some state (a.meant j) else if (a.jb j).kind=2 then !some state (a.meant j) else
 if (a.jb j).kind=3 then !(a.meant j).any fun i=>!some state (a.ao9 i) else
 !(a.meant j).any fun i=>decide (0<(a.by7 i).length)&&!some state (a.by7 i)
def cs:List IV:=[a.p.v,(ad7 a.l).v,.int .u8 a.r.au7,.bool a.r.vendor,be1 a.r.ag6,av7 a.r.ai1,.int .i64 a.r.budget,.aa4 (a.l.map aa2.cs)]
def v:IV:=.ab9 a.cs
end ab7
def au9 (e:bd9)(ag6 inst:Int):Bool:=decide (1<=e.kind)&&decide (e.kind<=4)&&decide (0<=e.n)&&decide (e.n<if e.kind=1 then ag6 else inst)
def aw7 (j:Job):Bool:=decide (1<=j.kind)&&decide (j.kind<=4)&&aj9 j.dep
def aj7 (r:Req)(inst:Int):Int :=
 if ca3 r.au7=false\/r.budget<0\/1099511627776<r.budget then 1 else
 if 64<r.ag6.length\/64<r.ai1.length then 40 else
 if r.ag6.all aw7=false then 4 else
 if r.ai1.all (fun e=>au9 e r.ag6.length inst)=false then 5 else 0
def jj3 (p:Pool)(r:Req):IV:=if aj7 r p.inst=0 then .tuple [(ab7.mk p r).v,.int .i64 0] else .tuple [.ad5,.int .i64 (aj7 r p.inst)]
theorem cy9 (a b:Int):ay9 b a=- ay9 a b:=by
 unfold ay9; split<;>split<;>(try split)<;>(try split)<;>omega
theorem en5 {a b:Int}:ay9 a b=0↔a=b:=by
 unfold ay9;split
 ·constructor
  ·intro h; omega
  ·intro h; omega
 ·split
  ·simp_all
  ·constructor
   ·intro h; omega
   ·intro h; contradiction
theorem cz1:∀ (x y:List UInt8),Op.bytesLess x y=decide (x<y)
 | [],[]=>by simp[Op.bytesLess]
 | _::_,[]=>by simp[Op.bytesLess]
 | [],_::_=>by simp[Op.bytesLess]
 | a::x,b::y=>by
  simp only[Op.bytesLess,cz1 x y,List.cons_lt_cons_iff];by_cases h:a<b
  ·simp[h]
  ·by_cases h2:a=b
   ·subst h2; simp
   ·simp[h,h2]
theorem jq5 (a b:Str):Op.bytesLess a b=true/\Op.bytesLess b a=false/\a≠b\/a=b/\Op.bytesLess a b=false\/Op.bytesLess b a=true/\Op.bytesLess a b=false/\a≠b:=by
 simp only[cz1,decide_eq_true_eq,decide_eq_false_iff_not];rcases qy (a<b) with h|h
 ·exact .inl ⟨h,fun h2=>List.lt_asymm h h2,fun e=>List.lt_irrefl a (by rw[<- e] at h; exact h)⟩
 ·rcases qy (b<a) with h2|h2
  ·exact .inr (.inr ⟨h2,h,fun e=>List.lt_irrefl a (by rw[<- e] at h2; exact h2)⟩)
  ·exact .inr (.inl ⟨List.le_antisymm (qr.1 h2) (qr.1 h),h⟩)
theorem fh6 (a b:Str):de2 b a=- de2 a b:=by
 unfold de2;rcases jq5 a b with ⟨h1,h2,h3⟩|⟨rfl,h⟩|⟨h1,h2,h3⟩
 ·rw[h1,h2,if_neg (by simp),if_neg (fun e=>h3 e.symm),if_pos rfl]; rfl
 ·rw[h]; simp
 ·rw[h1,h2,if_pos rfl,if_neg (by simp),if_neg h3]
theorem ex3 (a b:Part):ag5 b a=- ag5 a b:=by
 unfold ag5;simp only[cy9 (a.kind:Int) b.kind,cy9 (a.s.length:Int) b.s.length,fh6 a.s b.s];have e:(b.kind=5/\a.kind=5)↔(a.kind=5/\b.kind=5):=And.comm;by_cases h1:ay9 (a.kind:Int) b.kind=0
 ·simp only[h1,Int.neg_zero,ne_eq,not_true_eq_false,if_false,e];by_cases h2:a.kind=5/\b.kind=5
  ·simp only[h2,and_self,if_true];by_cases h3:ay9 (a.s.length:Int) b.s.length=0
   ·simp[h3]
   ·have h4:¬ - ay9 (a.s.length:Int) b.s.length=0:=om
    simp[h3,h4]
  ·simp[h2]
 ·have h2:¬ - ay9 (a.kind:Int) b.kind=0:=om
  simp[h1,h2]
theorem en6:∀ (a b:List Part),ag7 b a=- ag7 a b:=by
 intro a
 induction a with
 | nil=>intro b; cases b<;>rfl
 | cons x a ih=>
  intro b
  cases b with
  | nil=>rfl
  | cons y b=>
   simp only[ag7,ex3 x y];by_cases h:ag5 x y=0
   ·simp[h,ih b]
   ·have h2:¬ - ag5 x y=0:=om
    simp[h,h2]
theorem cr3 (a b:Str):ar8 b a=- ar8 a b:=en6 _ _
theorem ga9 (a b:EVR):aw5 b a=- aw5 a b:=by
 unfold aw5;rw[cy9 a.aq6 b.aq6,cr3 a.ver b.ver,cr3 a.rel b.rel];by_cases h1:ay9 a.aq6 b.aq6=0
 ·by_cases h2:ar8 a.ver b.ver=0
  ·simp only[h1,h2,Int.neg_zero,ne_eq,not_true_eq_false,if_false];by_cases h3:a.rel=[]\/b.rel=[]
   ·rw[if_pos h3,if_pos h3.symm]; rfl
   ·rw[if_neg h3,if_neg (fun h=>h3 h.symm)]
  ·have h3:¬ - ar8 a.ver b.ver=0:=om
   simp[h1,h2,h3]
 ·have h3:¬ - ay9 a.aq6 b.aq6=0:=om
  simp[h1,h3]
namespace ab7
variable (a:ab7)
theorem cf2 (n:Nat):a.is n=decide (n<a.l.length):=by
 unfold is;have:(0:Int)<=n:=om
 simp only[this,decide_true,Bool.true_and];exact decide_eq_decide.2 om
theorem az9 (i:Int):(a.ao9 i).length<=a.l.length:=by
 unfold ao9;split
 ·exact aw6 _ _
 ·exact Nat.zero_le _
theorem ib6 {i n:Int}(h:n∈a.ao9 i):a.inst i=true/\∃ m:Nat,n=m/\m<a.l.length:=by
 unfold ao9 at h;split at h
 ·rename_i hi;obtain ⟨m,e,h1,_⟩:=bq9.1 h;exact ⟨hi,m,e,h1⟩
 ·cases h
theorem ec5 {i n:Int}(h:n∈a.by7 i):n∈a.ao9 i/\a.inst n=false/\a.fits n=true:=by
 obtain ⟨h1,h2⟩:=zu.1 h;cases h3:a.inst n<;>cases h4:a.fits n<;>simp_all
theorem ec6 (i:Int):(a.by7 i).length<=a.l.length:=qq (z7 _ _) (a.az9 i)
end ab7
end Go.Id.Md
namespace Go.Id.Md
open Go Go.Id
namespace ab7
variable (a:ab7)
theorem if3 {j n:Int}(h:n∈a.meant j):∃ m:Nat,n=m/\m<a.l.length:=by
 have hn:∀ {q:aa2->Bool} {n:Int},n∈numsOf q a.l->∃ m:Nat,n=m/\m<a.l.length:=fun h=>let ⟨m,e,h1,_⟩:=al3.1 h; ⟨m,e,h1⟩
 unfold meant at h;split at h
 ·split at h
  ·exact hn h
  ·split at h
   ·exact hn h
   ·exact hn (zu.1 h).1
 ·cases h
variable (x:bd9)
variable {x} (hx:x.kind≠1)
include hx
end ab7
end Go.Id.Md
namespace Go.Id.Md
open Go Go.Id
structure WO {α:Type} (S:α->Prop) (f:α->α->Int):Prop where
 neg:∀ a b,f b a=- f a b
 tr:∀ a b c,S a->S b->S c->f a b<=0->f b c<=0->f a c<=0
def lex (x y:Int):Int:=if x=0 then y else x
theorem ja4 (x y:Int):lex (-x) (-y)=- lex x y:=by unfold lex; split<;>split<;>omega
theorem WO.lex {α:Type}{S:α->Prop}{f g:α->α->Int}(hf:WO S f)(hg:WO S g):WO S fun a b=>Md.lex (f a b) (g a b) where
 neg:=fun a b=>by show Md.lex (f b a) (g b a)=_; rw[hf.neg,hg.neg,ja4]
 tr:=fun a b c sa sb sc h1 h2=>by
  have k1:=hf.tr a b c sa sb sc;have k2:=hf.tr c a b sc sa sb;have k3:=hf.tr b c a sb sc sa;have k4:=hg.tr a b c sa sb sc;have n1:=hf.neg a b;have n2:=hf.neg b c;have n3:=hf.neg a c;unfold Md.lex at *;split at h1<;>split at h2<;>split<;>omega
theorem WO.of {α β:Type}{S:β->Prop}{f:β->β->Int}(hf:WO S f)(g:α->β):WO (fun a=>S (g a)) fun a b=>f (g a) (g b) where
 neg:=fun a b=>hf.neg _ _
 tr:=fun a b c sa sb sc=>hf.tr _ _ _ sa sb sc
theorem WO.flip {α:Type}{S:α->Prop}{f:α->α->Int}(hf:WO S f):WO S fun a b=>f b a where
 neg:=fun a b=>hf.neg b a
 tr:=fun a b c sa sb sc h1 h2=>hf.tr c b a sc sb sa h2 h1
theorem WO.sub {α:Type}{S T:α->Prop}{f:α->α->Int}(hf:WO S f)(h:∀ a,T a->S a):WO T f:=⟨hf.neg,fun a b c sa sb sc=>hf.tr a b c (h a sa) (h b sb) (h c sc)⟩
theorem fh8:WO (fun _=>True) ay9 where
 neg:=fun a b=>cy9 a b
 tr:=fun a b c _ _ _ h1 h2=>by
  unfold ay9 at *;split at h1<;>split at h2<;>split<;>(try split at h1)<;>(try split at h2)<;>(try split)<;>omega
theorem ex4 {a b:Str}:de2 a b<=0↔a<=b:=by
 unfold de2;rcases jq5 a b with ⟨h1,h2,h3⟩|⟨rfl,h⟩|⟨h1,h2,h3⟩
 ·rw[h1,if_pos rfl];rw[cz1,decide_eq_true_eq] at h1;exact ⟨fun _=>List.le_of_lt h1,fun _=>by decide⟩
 ·rw[h]; simp[List.le_refl]
 ·rw[h2,if_neg (by simp),if_neg h3];rw[cz1,decide_eq_true_eq] at h1;exact ⟨fun h=>absurd h (by decide),fun h=>absurd h1 (qr.2 h)⟩
theorem jq6:WO (fun _=>True) de2 where
 neg:=fun a b=>fh6 a b
 tr:=fun a b c _ _ _ h1 h2=>ex4.2 (List.le_trans (ex4.1 h1) (ex4.1 h2))
def cz2 (a b:Part):Int:=lex (ay9 a.kind b.kind) (lex (ay9 (if a.kind=5 then (a.s.length:Int) else 0) (if b.kind=5 then (b.s.length:Int) else 0)) (de2 a.s b.s))
theorem du4 (a b:Part):ag5 a b=cz2 a b:=by
 unfold ag5 cz2 lex;by_cases h:ay9 (a.kind:Int) b.kind=0
 ·have e:=en5.1 h;have e':a.kind=b.kind:=om
  simp only[h,ne_eq,not_true_eq_false,if_false,if_true,e'];by_cases k5:b.kind=5
  ·simp only[k5,and_self,if_true]; split<;>simp_all
  ·have z:ay9 0 0=0:=by decide
   simp[k5,z]
 ·simp[h]
theorem cr4:WO (fun _=>True) ag5:=by
 have h:ag5=cz2:=by funext a b; exact du4 a b
 rw[h];exact (fh8.of (fun a:Part=>(a.kind:Int))).lex ((fh8.of (fun a:Part=>if a.kind=5 then (a.s.length:Int) else 0)).lex (jq6.of Part.s))
theorem de9 {a b:Part}(h:ag5 a b=0):a.kind=b.kind:=by
 rw[du4] at h;unfold cz2 lex at h;split at h
 ·rename_i e; have:=en5.1 e; omega
 ·contradiction
abbrev gq6:Part:=⟨2,[]⟩
theorem ay3 (x y:Part)(a b:List Part):ag7 (x::a) (y::b)=lex (ag5 x y) (ag7 a b):=by
 show (if ag5 x y≠0 then ag5 x y else ag7 a b)=_;unfold lex; split<;>simp_all
theorem bj6 (a:List Part):ag7 [] a=0:=by cases a<;>rfl
theorem bw6 (a:List Part):ag7 a []=0:=by cases a<;>rfl
theorem ib7:∀ (a b c:List Part),(∀ x∈a,x.kind≠2)->(∀ x∈b,x.kind≠2)->(∀ x∈c,x.kind≠2) ->
  ag7 (a++[gq6]) (b++[gq6])<=0->ag7 (b++[gq6]) (c++[gq6])<=0->ag7 (a++[gq6]) (c++[gq6])<=0:=by
 have hd:∀ (x y z:Part) (r s t:Int),lex (ag5 x y) r<=0->lex (ag5 y z) s<=0->(ag5 x y=0->ag5 y z=0->r<=0->s<=0->t<=0)->lex (ag5 x z) t<=0:=fun x y z r s t h1 h2 h3=>by
  have k1:=cr4.tr x y z trivial trivial trivial;have k2:=cr4.tr z x y trivial trivial trivial;have k3:=cr4.tr y z x trivial trivial trivial;have n1:=cr4.neg x y;have n2:=cr4.neg y z;have n3:=cr4.neg x z;unfold lex at *;split at h1<;>split at h2<;>split<;>first|omega|exact h3 (by assumption) (by assumption) h1 h2
 intro a
 induction a with
 | nil=>
  intro b c _ hb hc h1 h2
  cases b with
  | nil=>exact h2
  | cons y b=>
   cases c with
   | nil=>simp only[zn,ay3,bj6]; decide
   | cons z c=>
    simp only[zn,zo,ay3,bj6] at *;refine hd _ y z _ _ _ h1 h2 fun e _ _ _=>?_
    exact absurd (de9 e).symm (hb y zg)
 | cons x a ih=>
  intro b c ha hb hc h1 h2
  cases b with
  | nil=>
   simp only[zn,zo,ay3,bj6,bw6] at h1
   cases c with
   | nil=>simp only[zn,zo,ay3,bj6,bw6]; exact h1
   | cons z c=>
    simp only[zn,zo,ay3,bj6,bw6] at *;refine hd x gq6 z _ _ _ h1 h2 fun e _ _ _=>?_
    exact absurd (de9 e) (ha x zg)
  | cons y b=>
   cases c with
   | nil=>
    simp only[zn,zo,ay3,bj6,bw6] at *;refine hd x y gq6 _ _ _ h1 h2 fun _ e _ _=>?_
    exact absurd (de9 e) (hb y zg)
   | cons z c=>
    simp only[zo,ay3] at *;refine hd x y z _ _ _ h1 h2 fun _ _ r s=>?_
    exact ih b c (fun p hp=>ha p (zf _ hp)) (fun p hp=>hb p (zf _ hp)) (fun p hp=>hc p (zf _ hp)) r s
theorem fh9 (b:UInt8):af5 b≠2:=by
 unfold af5
 repeat (first|split|omega)
theorem df1 (s:Str):∀ x∈af9 s,x.kind≠2:=by
 unfold af9
 have : ∀ n s,∀ x∈av4 n s,x.kind≠2:=by
  intro n
  induction n with
  | zero=>intro s x hx; cases hx
  | succ n ih=>
   intro s x hx
   cases s with
   | nil=>cases hx
   | cons b l=>
    simp only[av4] at hx;split at hx
    ·exact ih _ x hx
    ·split at hx
     ·rcases zb.1 hx with rfl|hx
      ·exact fh9 b
      ·exact ih _ x hx
     ·rcases zb.1 hx with rfl|hx
      ·exact fh9 b
      ·exact ih _ x hx
 exact this _ s
theorem ir3:WO (fun _=>True) ar8 where
 neg:=fun a b=>cr3 a b
 tr:=fun a b c _ _ _ h1 h2=>ib7 _ _ _ (df1 a) (df1 b) (df1 c) h1 h2
theorem jq7:WO (fun e:EVR=>e.rel≠[]) aw5 where
 neg:=fun a b=>ga9 a b
 tr:=by
  have h:=(fh8.of EVR.aq6).lex ((ir3.of EVR.ver).lex (ir3.of EVR.rel))
  have e:∀ a b:EVR,a.rel≠[]->b.rel≠[]->aw5 a b=lex (ay9 a.aq6 b.aq6) (lex (ar8 a.ver b.ver) (ar8 a.rel b.rel)):=fun a b ha hb=>by
   unfold aw5 lex;have hn:¬ (a.rel=[]\/b.rel=[]):=by simp[ha,hb]
   rw[if_neg hn];by_cases h1:ay9 a.aq6 b.aq6=0<;>by_cases h2:ar8 a.ver b.ver=0<;>simp[h1,h2]
  intro a b c ha hb hc;rw[e a b ha hb,e b c hb hc,e a c ha hc];exact h.tr a b c trivial trivial trivial
end Go.Id.Md
namespace Go.Id.Md
open Go Go.Id
def en7 (k:Int):Nat:=if k=4 then 3 else if k=5 then 3 else if k=7 then 2 else 24
def ap3 (k:Int)(d:Dep)(n:Nat):Bool:=decide (1<k)&&decide (k<=7)&&decide (d=cq9)&&decide (2<=n)&&decide (n<=en7 k)
mutual
def aa6.ms:aa6->Nat×Nat×Bool
 | .mk k d aZ=>if k=1 then (1,0,decide (aZ.length=0)&&aj9 d) else ((aa6.msL aZ 1 0 (ap3 k d aZ.length)).1,(aa6.msL aZ 1 0 (ap3 k d aZ.length)).2.1+1,(aa6.msL aZ 1 0 (ap3 k d aZ.length)).2.2)
def aa6.msL:List aa6->Nat->Nat->Bool->Nat×Nat×Bool
 | [],p,d,ok=>(p,d,ok)
 | r::rs,p,d,ok=>if ok=true then aa6.msL rs (p+r.ms.1) (max d r.ms.2.1) r.ms.2.2 else (p,d,false)
end
def bj7 (r:aa6):Bool:=r.ms.2.2&&decide (r.ms.1<=24)&&decide (r.ms.2.1<=8)
inductive aa6.Good:aa6->Prop
 | atom (d:Dep) (h:aj9 d=true):aa6.Good (.mk 1 d [])
 | node (k:Int) (d:Dep) (aZ:List aa6) (h1:1<k) (h2:k<=7) (h3:2<=aZ.length) (h4:aZ.length<=en7 k) (h5:∀ a∈aZ,aa6.Good a):aa6.Good (.mk k d aZ)
theorem aa6.gq7:∀ (aZ:List aa6) (p d:Nat) (ok:Bool),(aa6.msL aZ p d ok).2.2=true->ok=true/\∀ a∈aZ,a.ms.2.2=true:=by
 intro aZ
 induction aZ with
 | nil=>intro p d ok h; exact ⟨h,fun _ h=>by cases h⟩
 | cons r rs ih=>
  intro p d ok h;simp only[aa6.msL] at h;split at h
  ·rename_i hk;obtain ⟨h1,h2⟩:=ih _ _ _ h;refine ⟨hk,fun a ha=>?_⟩;rcases zb.1 ha with rfl|ha
   ·exact h1
   ·exact h2 a ha
  ·cases h
theorem aa6.ja5 (r:aa6):r.ms.2.2=true->r.Good:=by
 induction r using aa6.ind with
 | h k d aZ ih=>
  intro h;unfold aa6.ms at h;split at h
  ·rename_i hk;subst hk;simp only[za,decide_eq_true_eq] at h;obtain ⟨h1,h2⟩:=h;have e:aZ=[]:=qp.1 h1;subst e;exact .atom d h2
  ·obtain ⟨h1,h2⟩:=aa6.gq7 _ _ _ _ h;unfold ap3 at h1;simp only[za,decide_eq_true_eq] at h1;exact .node k d aZ h1.1.1.1.1 h1.1.1.1.2 h1.1.2 h1.2 fun a ha=>ih a ha (h2 a ha)
theorem aa6.jq8 (aZ:List aa6)(h:∀ a∈aZ,a.ms.1<=a.count/\a.ms.2.1<=a.count):∀ (p d:Nat) (ok:Bool),(aa6.msL aZ p d ok).1<=p+aa6.counts aZ/\(aa6.msL aZ p d ok).2.1<=d+aa6.counts aZ:=by
 induction aZ with
 | nil=>intro p d ok; simp[aa6.msL,aa6.counts]
 | cons r rs ih=>
  intro p d ok;obtain ⟨h1,h2⟩:=h r zg;have ih':=ih (fun a ha=>h a (zf _ ha));simp only[aa6.msL,aa6.counts];split
  ·obtain ⟨i1,i2⟩:=ih' (p+r.ms.1) (max d r.ms.2.1) r.ms.2.2;omega
  ·simp only; omega
theorem aa6.jq9 (r:aa6):r.ms.1<=r.count/\r.ms.2.1<=r.count:=by
 induction r using aa6.ind with
 | h k d aZ ih=>
  unfold aa6.ms;simp only[aa6.count];split
  ·simp only; omega
  ·obtain ⟨h1,h2⟩:=aa6.jq8 aZ ih 1 0 (ap3 k d aZ.length);simp only; omega
abbrev ff:List Bool->Bool:=fun _=>false
def ci1 (c n:Nat):List Bool:=(zr c).map fun m=>decide (m=n)
def stB (c:Nat)(zs:List Int):List Bool:=(zr c).map fun (m:Nat)=>decide ((m:Int)∈zs)
def gb1 (st:List Bool)(f:Nat->Bool):Bool:=(zr st.length).any fun n=>st.getD n false&&f n
def trK (l:List aa2)(k:Int)(d:Dep)(fs:List (List Bool->Bool))(st:List Bool):Bool :=
 if k=1 then (ae9 l d).any fun n=>st.getD n.toNat false
 else if k=2 then fs.all fun f=>f st
 else if k=3 then fs.any fun f=>f st
 else if k=4 then (if (fs.getD 1 ff) st then (fs.getD 0 ff) st else decide (fs.length<3)||(fs.getD 2 ff) st)
 else if k=5 then (if (fs.getD 1 ff) st then decide (fs.length=3)&&(fs.getD 2 ff) st else (fs.getD 0 ff) st)
 else if k=6 then gb1 st fun n=>fs.all fun f=>f (ci1 st.length n)
 else gb1 st fun n=>(fs.getD 0 ff) (ci1 st.length n)&&!(fs.getD 1 ff) (ci1 st.length n)
mutual
def aa6.tr (l:List aa2):aa6->List Bool->Bool
 | .mk k d aZ,st=>trK l k d (aa6.trs l aZ) st
def aa6.trs (l:List aa2):List aa6->List (List Bool->Bool)
 | []=>[]
 | r::rs=>(fun st=>r.tr l st)::aa6.trs l rs
end
theorem aa6.bh2 (l:List aa2)(aZ:List aa6):aa6.trs l aZ=aZ.map fun r st=>r.tr l st:=by
 induction aZ with
 | nil=>rfl
 | cons r rs ih=>simp only[aa6.trs,zc,ih]
def gq8 (l:List aa2)(zs:List Int)(r:aa6):Bool:=bj7 r&&r.tr l (stB l.length zs)
structure kf7 where
 a:ab7
 jr7:List Bool
def ca5 (b:Bool):List IV:=[.bool b]
namespace kf7
variable (o:kf7)
def cs:List IV:=[o.a.v,o.a.p.v,.int .u8 o.a.r.au7,.aa4 (o.a.l.map aa2.cs),.aa4 (o.jr7.map ca5)]
def v:IV:=.ab9 o.cs
def lk (n:Int):Bool:=o.jr7.getD n.toNat false
def jz3 (b:Bool):Int:=if b then 0 else 1
def prio (n:Int):Int:=(o.a.p.rows.getD n.toNat ⟨default,0,0⟩).prio
def cmp (n m:Int):Int :=
 lex (ay9 (jz3 (o.a.fits n)) (jz3 (o.a.fits m))) (lex (ay9 (de8 o.a.r.au7 (o.a.pk n).au7) (de8 o.a.r.au7 (o.a.pk m).au7)) (lex (ay9 (o.prio m) (o.prio n))
  (lex (ay9 (jz3 (o.lk n)) (jz3 (o.lk m))) (lex (aw5 (o.a.pk m).evr (o.a.pk n).evr) (ay9 n m)))))
theorem wo:WO (fun n=>(o.a.pk n).evr.rel≠[]) o.cmp:=by
 have hi {g:Int->Int}:WO (fun n=>(o.a.pk n).evr.rel≠[]) fun a b=>ay9 (g a) (g b):=(fh8.of g).sub fun _ _=>trivial
 exact hi.lex (hi.lex ((hi (g:=o.prio)).flip.lex (hi.lex ((jq7.of fun n=>(o.a.pk n).evr).flip.lex (hi (g:=fun n=>n))))))
variable (hr:∀ n,o.a.is n=true->(o.a.pk n).evr.rel≠[])
include hr
theorem lt_trans {a b c:Int}(ha:o.a.is a=true)(hb:o.a.is b=true)(hc:o.a.is c=true)(h1:o.cmp a b<0)(h2:o.cmp b c<0):o.cmp a c<0:=by
 have k1:=o.wo.tr a b c (hr a ha) (hr b hb) (hr c hc);have k2:=o.wo.tr c a b (hr c hc) (hr a ha) (hr b hb);have n1:=o.wo.neg a b;have n2:=o.wo.neg b c;have n3:=o.wo.neg a c;omega
end kf7
end Go.Id.Md
namespace Go.Id.Md
open Go Go.Id
def bh3 (wh:Int)(k:Int)(d:Dep)(n:Nat)(alone:Bool):Bool :=
 if k=1 then decide (n=0)&&aj9 d else
 (if k=2\/k=3\/k=6 then decide (2<=n) else if k=7 then decide (n=2) else
  if k=4 then (decide (n=2)||decide (n=3))&&!alone&&decide (wh=1) else
  if k=5 then (decide (n=2)||decide (n=3))&&!alone&&decide (wh<=2) else false)&&decide (d=cq9)
mutual
def aa6.ak7 (wh:Int):aa6->Bool->Bool
 | .mk k d aZ,alone=>bh3 wh k d aZ.length alone&&(aa6.du5 wh aZ (alone||decide (k=6)||decide (k=7)))
def aa6.du5 (wh:Int):List aa6->Bool->Bool
 | [],_=>true
 | r::rs,alone=>r.ak7 wh alone&&aa6.du5 wh rs alone
end
theorem aa6.ap5 (wh:Int)(l:List aa6)(alone:Bool):aa6.du5 wh l alone=l.all fun r=>r.ak7 wh alone:=by
 induction l with
 | nil=>rfl
 | cons r l ih=>simp only[aa6.du5,qm,ih]
theorem ja6 {wh:Int}(h1:1<=wh)(h3:wh<=3)(k:Int)(d:Dep)(aZ:List aa6)(alone:Bool)(hn:aZ.length<=24):bh3 wh k d aZ.length alone=ai9 wh (.mk k d aZ) alone:=by
 unfold bh3 ai9 asks;simp only[aa6.kind,aa6.args,aa6.dep];rw[zw];by_cases e1:k=1
 ·subst e1;simp only[if_true];have:¬ (3:Int)<wh:=om
  cases aj9 d<;>cases alone<;>simp[this]<;>omega
 by_cases e2:k=2
 ·subst e2;have:¬ (3:Int)<wh:=om
  by_cases hd:d=cq9<;>cases alone<;>simp[this,hd]<;>omega
 by_cases e3:k=3
 ·subst e3;have:¬ (3:Int)<wh:=om
  by_cases hd:d=cq9<;>cases alone<;>simp[this,hd]<;>omega
 by_cases e4:k=4
 ·subst e4;by_cases hd:d=cq9<;>cases alone<;>by_cases hw:(1:Int)<wh<;>simp[hd,hw]<;>omega
 by_cases e5:k=5
 ·subst e5;by_cases hd:d=cq9<;>cases alone<;>by_cases hw:(2:Int)<wh<;>simp[hd,hw]<;>omega
 by_cases e6:k=6
 ·subst e6;have:¬ (3:Int)<wh:=om
  by_cases hd:d=cq9<;>cases alone<;>simp[this,hd]<;>omega
 by_cases e7:k=7
 ·subst e7;have:¬ (3:Int)<wh:=om
  by_cases hd:d=cq9<;>cases alone<;>simp[this,hd]<;>omega
 have:(0:Int)<wh:=om
 simp[e1,e2,e3,e4,e5,e6,e7,this]
theorem aa6.bd1 {l:List aa6}{r:aa6}(h:r∈l):r.count<=aa6.counts l:=by
 induction l with
 | nil=>cases h
 | cons x l ih=>
  simp only[aa6.counts];rcases zb.1 h with rfl|h
  ·omega
  ·have:=ih h; omega
theorem aa6.gq9 (r:aa6):1<=r.count:=by cases r; simp only[aa6.count]; omega
theorem aa6.bw7 (l:List aa6):l.length<=aa6.counts l:=by
 induction l with
 | nil=>exact zz _
 | cons x l ih=>simp only[aa6.counts,qg]; have:=x.gq9; omega
theorem aa6.gb2 {wh:Int}(h1:1<=wh)(h3:wh<=3)(r:aa6):r.count<=24->∀ alone,r.ak7 wh alone=(r.parts alone).all fun p=>ai9 wh p.1 p.2:=by
 refine aa6.ind (p:=fun r=>r.count<=24->∀ alone,r.ak7 wh alone=(r.parts alone).all fun p=>ai9 wh p.1 p.2) (fun k d aZ ih hc alone=>?_) r;simp only[aa6.count] at hc;simp only[aa6.ak7,aa6.parts,qm];have:=aa6.bw7 aZ;rw[ja6 h1 h3 k d aZ alone om];congr 1;generalize (alone||decide (k=6)||decide (k=7))=al
 have:∀ l:List aa6,(∀ x∈l,x∈aZ)->aa6.du5 wh l al=(aa6.bj3 l al).all fun p=>ai9 wh p.1 p.2:=by
  intro l
  induction l with
  | nil=>intro _; rfl
  | cons x l ih2=>
   intro h;have hx:=h x zg;simp only[aa6.du5,aa6.bj3,List.all_append];rw[ih x hx (by have:=aa6.bd1 hx; omega),ih2 fun y hy=>h y (zf _ hy)]
 exact this aZ fun _ h=>h
theorem bm4 (r:aa6)(wh:Int):an8 r wh=if wh<1\/3<wh then 1 else if r.count>24 then 40 else if r.depth>8 then 21 else if r.ak7 wh false=false then 4 else 0:=by
 unfold an8;by_cases h1:wh<1\/3<wh
 ·rw[if_pos h1,if_pos h1]
 rw[if_neg h1,if_neg h1];by_cases h2:r.count>24
 ·rw[if_pos h2,if_pos h2]
 rw[if_neg h2,if_neg h2];by_cases h3:r.depth>8
 ·rw[if_pos h3,if_pos h3]
 rw[if_neg h3,if_neg h3,aa6.gb2 om om r om];cases h:(r.parts false).all fun p=>ai9 wh p.1 p.2<;>simp
end Go.Id.Md
namespace Go.Id.Md
open Go Go.Id
def headD (k:Int)(n:Nat):Bool :=
 if k=2\/k=3\/k=6 then decide (2<=n) else if k=4\/k=5 then decide (n=2\/n=3) else if k=7 then decide (n=2) else false
mutual
def aa6.part:aa6->Bool
 | .mk k d aZ=>if k=1 then aj9 d&&decide (aZ.length=0) else headD k aZ.length&&(aa6.gr1 aZ&&decide (d=cq9))
def aa6.gr1:List aa6->Bool
 | []=>true
 | r::rs=>r.part&&aa6.gr1 rs
end
theorem aa6.en8 (aZ:List aa6):aa6.gr1 aZ=aZ.all aa6.part:=by
 induction aZ with
 | nil=>rfl
 | cons r rs ih=>simp only[aa6.gr1,qm,ih]
theorem aa6.gr2 (aZ:List aa6):∀ p d:Nat,(∀ a∈aZ,a.ms=(a.count,a.depth,true))->aa6.msL aZ p d true=(p+aa6.counts aZ,max d (aa6.bf8 aZ),true):=by
 induction aZ with
 | nil=>intro p d _; simp[aa6.msL,aa6.counts,aa6.bf8]
 | cons r rs ih=>
  intro p d h;have hr:=h r zg;simp only[aa6.msL,if_pos,hr,aa6.counts];rw[ih _ _ fun a ha=>h a (zf _ ha)];simp only[aa6.bf8,Nat.add_assoc,Nat.max_assoc]
theorem aa6.ex5 (r:aa6):r.ms.2.2=true->r.ms=(r.count,r.depth,true):=by
 induction r using aa6.ind with
 | h k d aZ ih=>
  intro h;unfold aa6.ms at h ⊢;by_cases hk:k=1
  ·rw[if_pos hk] at h ⊢;simp only[za,decide_eq_true_eq] at h;have e:aZ=[]:=qp.1 h.1;subst e;simp[aa6.count,aa6.counts,aa6.depth,hk,h.2]
  ·rw[if_neg hk] at h ⊢;obtain ⟨h1,h2⟩:=aa6.gq7 _ _ _ _ h;have e:=aa6.gr2 aZ 1 0 fun a ha=>ih a ha (h2 a ha)
   rw[h1] at h ⊢;rw[e];simp only[aa6.count,aa6.depth,hk,if_false];rw[Nat.zero_max,Nat.add_comm]
theorem ib8 {k:Int}{n:Nat}(hn:n<=24)(d:Dep)(h1:k≠1):ap3 k d n=(headD k n&&decide (d=cq9)):=by
 by_cases hk:k=2\/k=3\/k=4\/k=5\/k=6\/k=7
 ·by_cases hd:d=cq9
  ·rw[zw];unfold ap3 headD en7;rcases hk with rfl|rfl|rfl|rfl|rfl|rfl<;>simp only[hd,za,decide_eq_true_eq,Int.reduceEq,false_or,or_false,or_self,true_or,or_true,if_true,if_false,reduceCtorEq,decide_true,and_true,true_and,Int.reduceLT,Int.reduceLE]<;>omega
  ·simp[ap3,hd]
 ·have e1:¬ (k=2\/k=3\/k=6):=om
  have e2:¬ (k=4\/k=5):=om
  have e3:¬ k=7:=om
  unfold headD;rw[if_neg e1,if_neg e2,if_neg e3,Bool.false_and];unfold ap3;by_cases h:1<k
  ·simp[show ¬ k<=7 by omega]
  ·simp[h]
theorem aa6.jr1 (aZ:List aa6):aZ.length<=aa6.counts aZ:=by
 induction aZ with
 | nil=>simp[aa6.counts]
 | cons r rs ih=>cases r; simp only[aa6.counts,aa6.count,qg]; omega
theorem aa6.gr3 (r:aa6):r.count<=24->r.part=r.ms.2.2:=by
 induction r using aa6.ind with
 | h k d aZ ih=>
  intro hc;simp only[aa6.count] at hc;have hl:=aa6.jr1 aZ;unfold aa6.part aa6.ms;by_cases hk:k=1
  ·rw[if_pos hk,if_pos hk,qo]
  ·rw[if_neg hk,if_neg hk,aa6.en8,zw];have hd:=ib8 (k:=k) (n:=aZ.length) om d hk;have ih':∀ a∈aZ,a.part=a.ms.2.2:=fun a ha=>ih a ha (by have:=aa6.bd1 ha; omega)
   simp only[za,zp];constructor
   ·rintro ⟨h1,h2,h3⟩;have e:=aa6.gr2 aZ 1 0 fun a ha=>aa6.ex5 a (by rw[<- ih' a ha]; exact h2 a ha)
    rw[hd,h1,h3,Bool.and_self,e]
   ·intro h;obtain ⟨h1,h2⟩:=aa6.gq7 _ _ _ _ h;rw[hd,za] at h1;exact ⟨h1.1,fun a ha=>by rw[ih' a ha]; exact h2 a ha,h1.2⟩
theorem gr4 (r:aa6):bj7 r=(r.part&&decide (r.count<=24)&&decide (r.depth<=8)):=by
 unfold bj7;rw[zw];simp only[za,decide_eq_true_eq];constructor
 ·rintro ⟨⟨h1,h2⟩,h3⟩;have e:=aa6.ex5 r h1;rw[e] at h2 h3;exact ⟨⟨by rw[aa6.gr3 r h2]; exact h1,h2⟩,h3⟩
 ·rintro ⟨⟨h1,h2⟩,h3⟩;rw[aa6.gr3 r h2] at h1;have e:=aa6.ex5 r h1;rw[e];exact ⟨⟨rfl,h2⟩,h3⟩
theorem df2 (c:Nat)(zs:List Int):(stB c zs).length=c:=by unfold stB; rw[z4,qx]
theorem ec7 (c:Nat)(zs:List Int)(n:Nat):(stB c zs).getD n false=(decide (n<c)&&decide ((n:Int)∈zs)):=by
 unfold stB;by_cases h:n<c
 ·simp[ze,h]
 ·simp[ze,h]
theorem ec8 (c n:Nat):ci1 c n=stB c [(n:Int)]:=by
 unfold ci1 stB;refine qv fun m _=>?_
 rw[decide_eq_decide,zy];omega
theorem ja7 (c:Nat)(zs:List Int)(f:Nat->Bool):gb1 (stB c zs) f=zs.any fun z=>decide (0<=z)&&decide (z<c)&&f z.toNat:=by
 unfold gb1;rw[df2,zw,z0,z0];constructor
 ·rintro ⟨n,hn,h⟩;rw[za,ec7,za,decide_eq_true_eq,decide_eq_true_eq] at h;refine ⟨n,h.1.2,?_⟩;simp[h.2,h.1.1]
 ·rintro ⟨z,hz,h⟩;simp only[za,decide_eq_true_eq] at h;obtain ⟨⟨h1,h2⟩,h3⟩:=h;have e:(z.toNat:Int)=z:=qw h1;refine ⟨z.toNat,zh.2 om,?_⟩;rw[za,ec7,za,decide_eq_true_eq,decide_eq_true_eq];exact ⟨⟨om,by rw[e]; exact hz⟩,h3⟩
theorem ja8 (l:List aa2)(d:Dep)(zs:List Int):((ae9 l d).any fun n=>(stB l.length zs).getD n.toNat false)=zs.any fun z=>decide (0<=z)&&decide (z<l.length)&&provides (l.getD z.toNat default) d:=by
 rw[zw,z0,z0];constructor
 ·rintro ⟨n,hn,h⟩;obtain ⟨m,rfl,h1,h2⟩:=al3.1 hn;rw[ec7,za,decide_eq_true_eq,decide_eq_true_eq,qf] at h;refine ⟨m,h.2,?_⟩;simp only[qf,h2];simp[h1]
 ·rintro ⟨z,hz,h⟩;simp only[za,decide_eq_true_eq] at h;obtain ⟨⟨h1,h2⟩,h3⟩:=h;have e:(z.toNat:Int)=z:=qw h1;refine ⟨z,al3.2 ⟨z.toNat,e.symm,om,h3⟩,?_⟩;rw[ec7,e,za,decide_eq_true_eq,decide_eq_true_eq];exact ⟨om,hz⟩
end Go.Id.Md
namespace Go.Id.Md
open Go Go.Id
theorem aa6.gr5 (l:List aa2)(aZ:List aa6)(i:Nat):(aa6.trs l aZ).getD i ff=if h:i<aZ.length then fun st=>aZ[i].tr l st else ff:=by
 rw[aa6.bh2];split
 ·rename_i h; simp[ze,h]
 ·rename_i h; simp[ze,h]
theorem aa6.gr6 (wh:Int)(r:aa6):∀ alone:Bool,r.ak7 wh alone=true->r.part=true:=by
 induction r using aa6.ind with
 | h k d aZ ih=>
  intro alone h;simp only[aa6.ak7,za,aa6.ap5,zp] at h;obtain ⟨h1,h2⟩:=h;unfold bh3 at h1;unfold aa6.part;by_cases hk:k=1
  ·rw[if_pos hk] at h1 ⊢;rw[qo]; exact h1
  ·rw [if_neg hk] at h1 ⊢;rw[za] at h1
   have hp:aa6.gr1 aZ=true:=by
    rw[aa6.en8,zp];exact fun x hx=>ih x hx _ (h2 x hx)
   rw[hp,h1.2,Bool.and_true,Bool.and_true];have h3:=h1.1;unfold headD;by_cases e1:k=2\/k=3\/k=6
   ·rw[if_pos e1] at h3 ⊢; exact h3
   ·rw [if_neg e1] at h3 ⊢;by_cases e7:k=7
    ·rw[if_pos e7] at h3;rw[if_neg om,if_pos e7]; exact h3
    ·rw[if_neg e7] at h3;by_cases e4:k=4
     ·rw[if_pos e4] at h3;rw[if_pos (.inl e4)];simp only[za,z5,decide_eq_true_eq] at h3 ⊢;exact h3.1.1
     ·rw[if_neg e4] at h3;by_cases e5:k=5
      ·rw[if_pos e5] at h3;rw[if_pos (.inr e5)];simp only[za,z5,decide_eq_true_eq] at h3 ⊢;exact h3.1.1
      ·rw[if_neg e5] at h3; cases h3
theorem gr7 {r:aa6}{wh:Int}(h:an8 r wh=0):bj7 r=true:=by
 rw[bm4] at h;split at h
 ·cases h
 ·split at h
  ·cases h
  ·split at h
   ·cases h
   ·split at h
    ·cases h
    ·rename_i h1 h2 h3 h4;rw[gr4,aa6.gr6 wh r false (by simpa using h4)];simp only[Bool.true_and,za,decide_eq_true_eq];omega
end Go.Id.Md
namespace Go.Id.Md
open Go Go.Id
structure Itm where
 kind:Int
 p:Int
 q:Int
 deriving DecidableEq,Inhabited
def Itm.cs (x:Itm):List IV:=[.int .u8 x.kind,.int .i64 x.p,.int .i64 x.q]
theorem Itm.jr2 {x y:Itm}(h:x.cs=y.cs):x=y:=by
 cases x; cases y; simpa [Itm.cs] using h
abbrev ar9 (l:List Itm):IV:=.aa4 (l.map Itm.cs)
theorem jr3 (a b:Itm):allEq [1,1,1] a.cs b.cs=some (decide (a=b)):=by
 cases a; cases b;simp[Itm.cs,allEq,ak4,Itm.mk.injEq,Bool.decide_and]
def bb8 (l:List Itm):List (IV×IV):=l.map fun x=>(.agg x.cs,.agg [])
theorem ec9 (x y:Itm):ao3 6 (.agg x.cs) (.agg y.cs)=some (decide (x=y)):=jr3 x y
theorem fi1 (x:Itm):kOK 6 (.agg x.cs)=true:=by
 show (ao3 6 (.agg x.cs) (.agg x.cs)).isSome=true;rw[ec9]; rfl
theorem gr8 (x:Itm):∀ l:List Itm,aw2 6 (.agg x.cs) (bb8 l)=some (if x∈l then some (.agg []) else none):=by
 intro l
 induction l with
 | nil=>simp only[bb8,List.map_nil,aw2,fi1]; simp
 | cons y l ih=>
  unfold bb8 at *;simp only[zc,aw2,ec9];by_cases h:x=y
  ·simp[h]
  ·simp only[h,decide_false,ih,zb,false_or]
theorem ib9 {x:Itm}:∀ {l:List Itm},x ∉ l->eh8 6 (.agg x.cs) (.agg []) (bb8 l)=some (bb8 (l++[x])):=by
 intro l
 induction l with
 | nil=>intro _; simp only[bb8,List.map_nil,eh8,fi1]; rfl
 | cons y l ih=>
  intro h;rw[zb,not_or] at h;have:=ih h.2;unfold bb8 at *;simp only[zc,zo,eh8,ec9,h.1,decide_false,this,Option.map_some]
theorem gr9 {l:List Itm}(h:l.Nodup):da5 (bb8 l):=by
 refine ⟨?_,.agg [.u8,.i64,.i64],fun e he=>?_⟩
 ·unfold bb8;rw[List.map_map];refine qa.2 (h.imp fun {a b} hab e=>hab ?_);exact Itm.jr2 (IV.agg.inj e)
 ·obtain ⟨x,_,rfl⟩:=zm.1 he;refine ⟨rfl,fun i hi=>?_⟩;have hi:i<3:=hi
  match i,hi with
  | 0,_=>exact ⟨_,rfl⟩
  | 1,_=>exact ⟨_,rfl⟩
  | 2,_=>exact ⟨_,rfl⟩
def br2 (k:Int)(p n:Nat):List Itm:=(zr n).map fun (q:Nat)=>⟨k,p,q⟩
theorem gb3 (k:Int)(p n:Nat):br2 k p (n+1)=br2 k p n++[⟨k,p,n⟩]:=by
 unfold br2;rw[zq,zv]; rfl
def bd3 (f:Nat->Bool)(g:Nat->Itm)(n:Nat):List Itm:=((zr n).filter f).map g
theorem bw8 (f:Nat->Bool)(g:Nat->Itm)(n:Nat):bd3 f g (n+1)=bd3 f g n++if f n then [g n] else []:=by
 unfold bd3;rw[zq,z9,zv];cases h:f n<;>simp[h]
theorem as6 {f:Nat->Bool}{g:Nat->Itm}{n:Nat}{x:Itm}:x∈bd3 f g n↔∃ m,m<n/\f m=true/\x=g m:=by
 unfold bd3;simp only[zm,zu,zh];constructor
 ·rintro ⟨m,⟨h1,h2⟩,rfl⟩; exact ⟨m,h1,h2,rfl⟩
 ·rintro ⟨m,h1,h2,rfl⟩; exact ⟨m,⟨h1,h2⟩,rfl⟩
theorem aw8 {k:Int}{p n:Nat}{x:Itm}:x∈br2 k p n↔∃ q:Nat,q<n/\x=⟨k,p,q⟩:=by
 unfold br2;simp only[zm,zh];constructor
 ·rintro ⟨q,h,rfl⟩; exact ⟨q,h,rfl⟩
 ·rintro ⟨q,h,rfl⟩; exact ⟨q,h,rfl⟩
namespace ab7
variable (a:ab7)
def br3 (p:Nat):List Itm:=if a.fits p then [] else [⟨1,p,0⟩]
def hl7 (p:Nat):List Itm:=a.br3 p++br2 2 p (a.pk p).requires.length++br2 3 p (a.pk p).conflicts.length++br2 4 p (a.pk p).aa8.length
def cx2 (p k:Nat):List Itm:=bd3 (fun q=>decide (p<q)&&a.twins p q) (fun q=>⟨5,p,q⟩) k
def gs2 (p:Nat):List Itm:=a.cx2 p a.l.length
def ca6 (k:Nat):List Itm:=bd3 (fun i=>!a.goes i) (fun i=>⟨6,i,0⟩) k
def gg6 (k:Nat):List Itm:=bd3 (fun i=>!a.dropped i) (fun i=>⟨7,i,0⟩) k
def owns (k:Nat):List Itm:=(zr k).flatMap a.hl7
def as7 (k:Nat):List Itm:=(zr k).flatMap a.gs2
def items:List Itm:=a.owns a.l.length++a.as7 a.l.length++a.ca6 a.p.inst.toNat++a.gg6 a.r.ag6.length
theorem cf3 (k:Nat):a.owns (k+1)=a.owns k++a.hl7 k:=by unfold owns; rw[zq,z2]; simp
theorem bm5 (k:Nat):a.as7 (k+1)=a.as7 k++a.gs2 k:=by unfold as7; rw[zq,z2]; simp
inductive Has (a:ab7):Itm->Prop
 | au7 (p:Nat):p<a.l.length->a.fits p=false->Has a ⟨1,p,0⟩
 | need (p q:Nat):p<a.l.length->q<(a.pk p).requires.length->Has a ⟨2,p,q⟩
 | clash (p q:Nat):p<a.l.length->q<(a.pk p).conflicts.length->Has a ⟨3,p,q⟩
 | over (p q:Nat):p<a.l.length->q<(a.pk p).aa8.length->Has a ⟨4,p,q⟩
 | twin (p q:Nat):p<q->q<a.l.length->a.twins p q=true->Has a ⟨5,p,q⟩
 | keep (i:Nat):i<a.p.inst.toNat->a.goes i=false->Has a ⟨6,i,0⟩
 | job (j:Nat):j<a.r.ag6.length->a.dropped j=false->Has a ⟨7,j,0⟩
theorem gs3 {p:Nat}{x:Itm}:x∈a.hl7 p↔(a.fits p=false/\x=⟨1,p,0⟩)\/(∃ q:Nat,q<(a.pk p).requires.length/\x=⟨2,p,q⟩)\/(∃ q:Nat,q<(a.pk p).conflicts.length/\x=⟨3,p,q⟩)\/(∃ q:Nat,q<(a.pk p).aa8.length/\x=⟨4,p,q⟩):=by
 unfold hl7 br3;simp only[zi,aw8,or_assoc];refine or_congr ?_ Iff.rfl;cases h:a.fits p<;>simp
theorem df3 {x:Itm}:x∈a.items↔a.Has x:=by
 unfold items owns as7 ca6 gg6;simp only[zi,zj,zh,gs3,as6];constructor
 ·rintro (((⟨p,hp,h⟩|⟨p,hp,h⟩)|⟨i,hi,h,rfl⟩)|⟨j,hj,h,rfl⟩)
  ·rcases h with ⟨h,rfl⟩|⟨q,hq,rfl⟩|⟨q,hq,rfl⟩|⟨q,hq,rfl⟩
   ·exact .au7 p hp h
   ·exact .need p q hp hq
   ·exact .clash p q hp hq
   ·exact .over p q hp hq
  ·obtain ⟨q,hq,h3,rfl⟩:=as6.1 h;rw[za] at h3;exact .twin p q (of_decide_eq_true h3.1) hq h3.2
  ·exact .keep i hi (by simpa using h)
  ·exact .job j hj (by simpa using h)
 ·intro h
  cases h with
  | au7 p hp h=>exact .inl (.inl (.inl ⟨p,hp,.inl ⟨h,rfl⟩⟩))
  | need p q hp hq=>exact .inl (.inl (.inl ⟨p,hp,.inr (.inl ⟨q,hq,rfl⟩)⟩))
  | clash p q hp hq=>exact .inl (.inl (.inl ⟨p,hp,.inr (.inr (.inl ⟨q,hq,rfl⟩))⟩))
  | over p q hp hq=>exact .inl (.inl (.inl ⟨p,hp,.inr (.inr (.inr ⟨q,hq,rfl⟩))⟩))
  | twin p q h1 h2 h3=>exact .inl (.inl (.inr ⟨p,om,as6.2 ⟨q,h2,by simp[h1,h3],rfl⟩⟩))
  | keep i hi h=>exact .inl (.inr ⟨i,hi,by simp[h],rfl⟩)
  | job j hj h=>exact .inr ⟨j,hj,by simp[h],rfl⟩
theorem cr5 (k:Int)(p n:Nat):(br2 k p n).Nodup:=by
 unfold br2;refine qa.2 (List.nodup_range.imp fun {x y} h e=>h ?_);have:=congrArg Itm.q e;simp only at this;omega
theorem cr6 {f:Nat->Bool}{g:Nat->Itm}(hg:∀ x y,g x=g y->x=y)(n:Nat):(bd3 f g n).Nodup:=by
 unfold bd3;exact qa.2 ((List.nodup_range.filter _).imp fun {x y} h e=>h (hg _ _ e))
theorem du6 {g:Nat->List Itm}(h1:∀ p,(g p).Nodup)(h2:∀ p,∀ x∈g p,x.p=(p:Int))(n:Nat):((zr n).flatMap g).Nodup:=by
 induction n with
 | zero=>exact qn.nil
 | succ n ih=>
  rw[zq,z2,qb,z3,List.append_nil];refine zl.2 ⟨ih,h1 n,fun x hx y hy e=>?_⟩;obtain ⟨p,hp,hx⟩:=zj.1 hx;have:=h2 p x hx;have:=h2 n y hy;rw[<- e] at this;have:=zh.1 hp;omega
theorem cf4 {p:Nat}{x:Itm}(h:x∈a.hl7 p):x.p=(p:Int)/\1<=x.kind/\x.kind<=4:=by
 rcases a.gs3.1 h with ⟨_,rfl⟩|⟨q,_,rfl⟩|⟨q,_,rfl⟩|⟨q,_,rfl⟩<;>exact ⟨rfl,by simp only<;>omega,by simp only<;>omega⟩
theorem gs4 (p:Nat):(a.hl7 p).Nodup:=by
 unfold hl7 br3;refine zl.2 ⟨zl.2 ⟨zl.2 ⟨?_,cr5 ..,fun x hx y hy e=>?_⟩,cr5 ..,fun x hx y hy e=>?_⟩,cr5 ..,fun x hx y hy e=>?_⟩
 ·cases a.fits p<;>simp
 ·obtain ⟨q,_,rfl⟩:=aw8.1 hy;cases hf:a.fits p<;>rw[hf] at hx<;>simp at hx;rw[hx] at e; simp at e
 ·obtain ⟨q,_,rfl⟩:=aw8.1 hy;rcases zi.1 hx with hx|hx
  ·cases hf:a.fits p<;>rw[hf] at hx<;>simp at hx;rw[hx] at e; simp at e
  ·obtain ⟨r,_,rfl⟩:=aw8.1 hx;simp at e
 ·obtain ⟨q,_,rfl⟩:=aw8.1 hy;rcases zi.1 hx with hx|hx
  ·rcases zi.1 hx with hx|hx
   ·cases hf:a.fits p<;>rw[hf] at hx<;>simp at hx;rw[hx] at e; simp at e
   ·obtain ⟨r,_,rfl⟩:=aw8.1 hx;simp at e
  ·obtain ⟨r,_,rfl⟩:=aw8.1 hx;simp at e
theorem br4 {p k:Nat}{x:Itm}(h:x∈a.cx2 p k):x.p=(p:Int)/\x.kind=5:=by
 obtain ⟨q,_,_,rfl⟩:=as6.1 h;exact ⟨rfl,rfl⟩
theorem nodup:a.items.Nodup:=by
 unfold items;refine zl.2 ⟨zl.2 ⟨zl.2 ⟨?_,?_,fun x hx y hy e=>?_⟩,?_,fun x hx y hy e=>?_⟩,?_,fun x hx y hy e=>?_⟩
 ·exact du6 a.gs4 (fun p x hx=>(a.cf4 hx).1) _
 ·exact du6 (fun p=>cr6 (fun x y e=>by have:=congrArg Itm.q e; simp only at this; omega) _) (fun p x hx=>(a.br4 hx).1) _
 ·obtain ⟨p,_,hx⟩:=zj.1 hx;obtain ⟨q,_,hy⟩:=zj.1 hy;have:=(a.cf4 hx).2;have:=(a.br4 hy).2;rw[<- e] at this; omega
 ·exact cr6 (fun x y e=>by have:=congrArg Itm.p e; simp only at this; omega) _
 ·obtain ⟨i,_,_,rfl⟩:=as6.1 hy;rcases zi.1 hx with hx|hx
  ·obtain ⟨p,_,hx⟩:=zj.1 hx;have:=(a.cf4 hx).2;rw[e] at this; simp at this
  ·obtain ⟨p,_,hx⟩:=zj.1 hx;have:=(a.br4 hx).2;rw[e] at this; simp at this
 ·exact cr6 (fun x y e=>by have:=congrArg Itm.p e; simp only at this; omega) _
 ·obtain ⟨j,_,_,rfl⟩:=as6.1 hy;rcases zi.1 hx with hx|hx
  ·rcases zi.1 hx with hx|hx
   ·obtain ⟨p,_,hx⟩:=zj.1 hx;have:=(a.cf4 hx).2;rw[e] at this; simp at this
   ·obtain ⟨p,_,hx⟩:=zj.1 hx;have:=(a.br4 hx).2;rw[e] at this; simp at this
  ·obtain ⟨i,_,_,rfl⟩:=as6.1 hx;simp at e
theorem df4 {k:Nat}{y:Itm}(h:y∈a.owns k):1<=y.kind/\y.kind<=4/\∃ p:Nat,p<k/\y.p=p:=by
 obtain ⟨p,hp,hy⟩:=zj.1 h;have:=a.cf4 hy;exact ⟨this.2.1,this.2.2,p,zh.1 hp,this.1⟩
theorem ja9 {p:Nat}{y:Itm}(h:y∈a.br3 p):y.kind=1:=by
 unfold br3 at h;split at h
 ·cases h
 ·rw[zy] at h; rw[h]
theorem ed1 {k:Nat}{y:Itm}(h:y∈a.as7 k):y.kind=5/\∃ p:Nat,p<k/\y.p=p:=by
 obtain ⟨p,hp,hy⟩:=zj.1 h;have:=a.br4 hy;exact ⟨this.2,p,zh.1 hp,this.1⟩
theorem ic1 {p k:Nat}{y:Itm}(h:y∈a.cx2 p k):y.kind=5/\y.p=p/\∃ q:Nat,q<k/\y.q=q:=by
 obtain ⟨q,hq,_,rfl⟩:=as6.1 h;exact ⟨rfl,rfl,q,hq,rfl⟩
theorem gs5 {k:Nat}{y:Itm}(h:y∈a.ca6 k):y.kind=6/\∃ q:Nat,q<k/\y.p=q:=by
 obtain ⟨q,hq,_,rfl⟩:=as6.1 h;exact ⟨rfl,q,hq,rfl⟩
theorem jr4 {k:Nat}{y:Itm}(h:y∈a.gg6 k):y.kind=7/\∃ q:Nat,q<k/\y.p=q:=by
 obtain ⟨q,hq,_,rfl⟩:=as6.1 h;exact ⟨rfl,q,hq,rfl⟩
def nsI (p j:Nat):Nat:=if j=0 then (a.pk p).requires.length else if j=1 then (a.pk p).conflicts.length else (a.pk p).aa8.length
def ed2 (p j:Nat):List Itm:=(zr j).flatMap fun i=>br2 ((2+i:Nat):Int) p (a.nsI p i)
theorem as8 (p j:Nat):a.ed2 p (j+1)=a.ed2 p j++br2 ((2+j:Nat):Int) p (a.nsI p j):=by unfold ed2; rw[zq,z2]; simp
theorem ir4 (p:Nat):a.hl7 p=a.br3 p++a.ed2 p 3:=by
 rw[as8,as8,as8];unfold hl7 nsI;simp[ed2]
theorem jr5 {p j:Nat}{y:Itm}(h:y∈a.ed2 p j):2<=y.kind/\y.kind<2+(j:Int):=by
 obtain ⟨i,hi,hy⟩:=zj.1 h;obtain ⟨q,_,rfl⟩:=aw8.1 hy;have:=zh.1 hi;simp only;omega
theorem en9 {k m:Nat}(h:k<=m):(a.owns k).length<=(a.owns m).length:=by
 obtain ⟨d,rfl⟩:∃ d,m=k+d:=⟨m-k,om⟩
 induction d with
 | zero=>exact zz _
 | succ d ih=>
  have:=ih om;rw[show k+(d+1)=k+d+1 from rfl,a.cf3,zd];omega
theorem gb4 {k m:Nat}(h:k<=m):(a.as7 k).length<=(a.as7 m).length:=by
 obtain ⟨d,rfl⟩:∃ d,m=k+d:=⟨m-k,om⟩
 induction d with
 | zero=>exact zz _
 | succ d ih=>
  have:=ih om;rw[show k+(d+1)=k+d+1 from rfl,a.bm5,zd];omega
theorem df5 (f:Nat->Bool)(g:Nat->Itm){k m:Nat}(h:k<=m):(bd3 f g k).length<=(bd3 f g m).length:=by
 obtain ⟨d,rfl⟩:∃ d,m=k+d:=⟨m-k,om⟩
 induction d with
 | zero=>exact zz _
 | succ d ih=>
  have:=ih om;rw[show k+(d+1)=k+d+1 from rfl,bw8,zd];omega
theorem bf9 (k:Int)(p n:Nat):(br2 k p n).length=n:=by unfold br2; rw[z4,qx]
theorem ay4:a.items.length=(a.owns a.l.length).length+(a.as7 a.l.length).length+(a.ca6 a.p.inst.toNat).length+(a.gg6 a.r.ag6.length).length:=by
 unfold items; simp only[zd]
theorem gs6 {p j q:Nat}(hp:p<a.l.length)(hj:j<3)(hq:q<=a.nsI p j):(a.owns p++a.br3 p++a.ed2 p j++br2 ((2+j:Nat):Int) p q).length<=a.items.length:=by
 have h1:=a.en9 (show p+1<=a.l.length from hp);have h2:=a.ay4;rw[a.cf3,a.ir4,zd,zd] at h1
 have h3:(a.ed2 p j).length+q<=(a.ed2 p 3).length:=by
  have e3:(a.ed2 p 3).length=a.nsI p 0+a.nsI p 1+a.nsI p 2:=by
   rw[a.as8,a.as8,a.as8];simp only[zd,bf9];simp[ed2]
  rw[e3];have:j=0\/j=1\/j=2:=om
  rcases this with rfl|rfl|rfl
  ·simp only[ed2,qi,z3,List.length_nil]; omega
  ·rw[a.as8]; simp only[ed2,qi,z3,zn,bf9]; omega
  ·rw[a.as8,a.as8]; simp only[ed2,qi,z3,zn,zd,bf9]; omega
 simp only[zd,bf9];omega
theorem ic2 {p:Nat}(hp:p<a.l.length):(a.owns p).length<=a.items.length:=by
 have h1:=a.en9 (show p<=a.l.length by omega);have h2:=a.ay4;omega
theorem id3 {p k:Nat}(hp:p<a.l.length)(hk:k<=a.l.length):(a.owns a.l.length++a.as7 p++a.cx2 p k).length<=a.items.length:=by
 have h1:=a.gb4 (show p+1<=a.l.length from hp);have h2:=a.ay4;have h3:(a.cx2 p k).length<=(a.gs2 p).length:=df5 _ _ hk;rw[a.bm5,zd] at h1;simp only[zd];omega
theorem id4 {k:Nat}(hk:k<=a.p.inst.toNat):(a.owns a.l.length++a.as7 a.l.length++a.ca6 k).length<=a.items.length:=by
 have h2:=a.ay4;have h3:(a.ca6 k).length<=(a.ca6 a.p.inst.toNat).length:=df5 _ _ hk;simp only[zd];omega
theorem jb5 {k:Nat}(hk:k<=a.r.ag6.length):(a.owns a.l.length++a.as7 a.l.length++a.ca6 a.p.inst.toNat++a.gg6 k).length<=a.items.length:=by
 have h2:=a.ay4;have h3:(a.gg6 k).length<=(a.gg6 a.r.ag6.length).length:=df5 _ _ hk;simp only[zd];omega
theorem ex6 (p:Nat):a.cx2 p (p+1)=[]:=by
 unfold cx2 bd3;rw[List.map_eq_nil_iff,List.filter_eq_nil_iff];intro q hq;have:=zh.1 hq;have:¬ p<q:=om
 simp[this]
def by2 (x:Itm):aa6:=(a.pk x.p).requires.getD x.q.toNat default
def bb1 (x:Itm):aa6:=(a.pk x.p).conflicts.getD x.q.toNat default
def cx3 (x:Itm):Dep:=(a.pk x.p).aa8.getD x.q.toNat default
def inS (st:List Int)(n:Int):Bool:=decide (n∈st)
def less (st:List Int)(n:Int):List Int:=st.filter fun m=>!decide (m=n)
def keeps (st:List Int)(x:Itm):Bool :=
 if x.kind=1 then !inS st x.p
 else if x.kind=2 then !inS st x.p||gq8 a.l st (a.by2 x)
 else if x.kind=3 then !inS st x.p || !gq8 a.l (less st x.p) (a.bb1 x)
 else if x.kind=4 then !inS st x.p || !((am1 a.l (a.cx3 x)).any fun n=>!decide (n=x.p)&&inS st n)
 else if x.kind=5 then !inS st x.p || !inS st x.q
 else if x.kind=6 then some st (a.ao9 x.p)
 else a.br1 x.p st
def isI (x:Itm):Bool:=decide (x∈a.items)
def holds (st:List Int)(x:Itm):Bool:=!a.isI x||a.keeps st x
def kept (st:List Int)(l:List Itm):Bool:=!l.any fun x=>!a.holds st x
def good (st:List Int):Bool:=a.kept st a.items
theorem holds_of {st:List Int}{x:Itm}(h:x∈a.items):a.holds st x=a.keeps st x:=by
 unfold holds isI;rw[decide_eq_true h]; rfl
theorem id5 {st:List Int}:a.good st=true↔∀ x∈a.items,a.keeps st x=true:=by
 unfold good kept;rw[qz,qe];constructor
 ·intro h x hx;have:=h x hx;rw[a.holds_of hx] at this
  simpa using this
 ·intro h x hx;rw[a.holds_of hx,h x hx]; simp
end ab7
end Go.Id.Md
namespace Go.Id.Md
open Go Go.Id
def du7 (p:aa2)(k:Int)(d:Dep)(bs:List Bool):Bool :=
 if k=1 then provides p d else if k=3 then bs.any fun b=>b else if k=7 then bs.getD 0 false&&!bs.getD 1 false else bs.all fun b=>b
mutual
def aa6.alone (p:aa2):aa6->Bool
 | .mk k d aZ=>du7 p k d (aa6.fi2 p aZ)
def aa6.fi2 (p:aa2):List aa6->List Bool
 | []=>[]
 | r::rs=>r.alone p::aa6.fi2 p rs
end
theorem aa6.du8 (p:aa2)(aZ:List aa6):aa6.fi2 p aZ=aZ.map fun r=>r.alone p:=by
 induction aZ with
 | nil=>rfl
 | cons r rs ih=>simp only[aa6.fi2,zc,ih]
theorem cz3 (c n:Nat)(h:n<c)(f:Nat->Bool):gb1 (ci1 c n) f=f n:=by
 rw[ec8,ja7];simp[h]
theorem id6 (l:List aa2)(n:Nat)(hn:n<l.length)(wh:Int)(r:aa6):r.ak7 wh true=true->r.alone (l.getD n default)=r.tr l (ci1 l.length n):=by
 induction r using aa6.ind with
 | h k d aZ ih=>
  intro h;simp only[aa6.ak7,za,aa6.ap5,zp,Bool.true_or] at h;obtain ⟨h1,h2⟩:=h;have hm:(aZ.map fun r=>r.alone (l.getD n default))=aZ.map fun r=>r.tr l (ci1 l.length n):=qv fun a ha=>ih a ha (h2 a ha)
  have hl:(ci1 l.length n).length=l.length:=by rw[ec8,df2]
  have hg:∀ i,(aZ.map fun r=>r.alone (l.getD n default)).getD i false=(aa6.trs l aZ).getD i ff (ci1 l.length n):=fun i=>by
   rw[hm,aa6.gr5];split
   ·rename_i h; simp[ze,h]
   ·rename_i h; simp[ze,h]
  have ha:(aZ.map fun r=>r.alone (l.getD n default)).all (fun b=>b)=(aa6.trs l aZ).all fun f=>f (ci1 l.length n):=by
   rw[hm,aa6.bh2,List.all_map,List.all_map]; rfl
  have hy:(aZ.map fun r=>r.alone (l.getD n default)).any (fun b=>b)=(aa6.trs l aZ).any fun f=>f (ci1 l.length n):=by
   rw[hm,aa6.bh2,qd,qd]; rfl
  show du7 _ _ _ _=trK _ _ _ _ _;rw[aa6.du8];unfold du7 trK bh3 at *;by_cases e1:k=1
  ·rw[if_pos e1,if_pos e1];have:=ja8 l d [(n:Int)];rw[<- ec8] at this;rw[this]; simp[hn]
  rw[if_neg e1] at h1 ⊢;rw[if_neg e1];by_cases e2:k=2
  ·subst e2
   simpa using ha
  by_cases e3:k=3
  ·subst e3
   simpa using hy
  by_cases e7:k=7
  ·subst e7;simp only[cz3 _ _ hn,hl,hg];simp
  by_cases e6:k=6
  ·subst e6;simp only[cz3 _ _ hn,hl]
   simpa using ha
  simp[e2,e3,e6,e7] at h1
structure ah6 where
 h:Nat
 cl:List (List Int)
 sets:List (Str×Int)
def eh9 (n:Int):Str:=if n<10 then [zx (48+n.toNat)] else [zx (48+n.toNat/10),zx (48+n.toNat%10)]
def ci2 (l:List Int):Str:=l.flatMap fun n=>eh9 n++[32]
def bh4:List (Str×Int)->Str->Option Int
 | [],_=>none
 | t::ts,k=>if k=t.1 then some t.2 else bh4 ts k
def dj5 (l:List Int):List Int:=l.map fun x=>-x
def upL (l:List Int):List Int:=l.map fun x=>x+1
variable (c:Nat)
def ak3 (l:List Int)(t:ah6):Int×ah6 :=
 (((c+(t.h+1):Nat):Int),⟨t.h+1,t.cl++(l.map fun x=>[-x,((c+(t.h+1):Nat):Int)])++[-((c+(t.h+1):Nat):Int)::l],t.sets⟩)
def cf5 (l:List Int)(t:ah6):Int×ah6:=(-(ak3 c (dj5 l) t).1,(ak3 c (dj5 l) t).2)
def fi3 (l:List Int)(t:ah6):Int×ah6 :=
 if l.length=1 then (l.getD 0 0+1,t) else
 match bh4 t.sets (ci2 l) with
 | some x=>(x,t)
 | none=>((ak3 c (upL l) t).1,{ (ak3 c (upL l) t).2 with sets:=t.sets++[(ci2 l,(ak3 c (upL l) t).1)] })
def br5 (x y w:Int)(t:ah6):Int×ah6 :=
 (((c+(t.h+1):Nat):Int),⟨t.h+1,t.cl++[[-w,-x,((c+(t.h+1):Nat):Int)],[-w,x,-((c+(t.h+1):Nat):Int)],[w,-y,((c+(t.h+1):Nat):Int)],[w,y,-((c+(t.h+1):Nat):Int)]],t.sets⟩)
def gb5 (k:Int)(ls:List Int)(t:ah6):Int×ah6 :=
 if k=2 then cf5 c ls t
 else if k=3 then ak3 c ls t
 else if k=4 then (if ls.length=3 then br5 c (ls.getD 0 0) (ls.getD 2 0) (ls.getD 1 0) t else ak3 c [ls.getD 0 0,-ls.getD 1 0] t)
 else if ls.length=3 then br5 c (ls.getD 2 0) (ls.getD 0 0) (ls.getD 1 0) t else cf5 c [ls.getD 0 0,-ls.getD 1 0] t
def cu9 (l:List Int)(b:Int):List Int:=l.filter fun n=>!decide (n=b)
mutual
def aa6.bp2 (l:List aa2)(b:Int):aa6->ah6->Int×ah6
 | .mk k d aZ,t=>
  if k=1 then fi3 l.length (cu9 (ae9 l d) b) t
  else if k=6\/k=7 then fi3 l.length (cu9 (numsOf (fun p=>(aa6.mk k d aZ).alone p) l) b) t
  else gb5 l.length k (aa6.ak8 l b aZ t).1 (aa6.ak8 l b aZ t).2
def aa6.ak8 (l:List aa2)(b:Int):List aa6->ah6->List Int×ah6
 | [],t=>([],t)
 | r::rs,t=>((r.bp2 l b t).1::(aa6.ak8 l b rs (r.bp2 l b t).2).1,(aa6.ak8 l b rs (r.bp2 l b t).2).2)
end
end Go.Id.Md
namespace Go.Id.Md
open Go Go.Id
def RgN (V:Nat)(x:Int):Prop:=x≠0/\-(V:Int)<=x/\x<=V
theorem RgN.mono {V W:Nat}{x:Int}(h:RgN V x)(hw:V<=W):RgN W x:=⟨h.1,by have:=h.2.1; omega,by have:=h.2.2; omega⟩
theorem RgN.neg {V:Nat}{x:Int}(h:RgN V x):RgN V (-x):=⟨by have:=h.1; omega,by have:=h.2.2; omega,by have:=h.2.1; omega⟩
def fi4 (V:Nat)(T:Int->Bool):Prop:=∀ x,RgN V x->T (-x)=!T x
theorem fi4.mono {V W:Nat}{T:Int->Bool}(h:fi4 W T)(hw:V<=W):fi4 V T:=fun x hx=>h x (hx.mono hw)
def id7 (T:Int->Bool)(l:List (List Int)):Prop:=∀ q∈l,q.any T=true
def fi5 (l:List Int):Prop:=∀ n∈l,0<=n/\n<100
structure ah6.OK (c:Nat) (t:ah6):Prop where
 cl:∀ q∈t.cl,∀ x∈q,RgN (c+t.h) x
 st:∀ e∈t.sets,RgN (c+t.h) e.2
 kn:(t.sets.map (·.1)).Nodup
def df6 (T:Int->Bool)(t:ah6):Prop:=∀ l x,fi5 l->bh4 t.sets (ci2 l)=some x->T x=l.any fun n=>T (n+1)
structure Told (c n:Nat) (t:ah6) (r:Int×ah6) (P:(Int->Bool)->Bool):Prop where
 le:t.h<=r.2.h/\r.2.h<=t.h+n
 cl:∀ q∈t.cl,q∈r.2.cl
 ok:r.2.OK c/\RgN (c+r.2.h) r.1
 says:∀ T,fi4 (c+r.2.h) T->id7 T r.2.cl->df6 T t->T r.1=P T/\df6 T r.2
variable {c:Nat} {t:ah6}
theorem bm6 (ho:t.OK c){l:List Int}(hl:∀ x∈l,RgN (c+t.h) x):Told c 1 t (ak3 c l t) fun T=>l.any T where
 le:=⟨qh _,zz _⟩
 cl:=fun q hq=>z1 _ (z1 _ hq)
 ok:=by
  have hh:RgN (c+(t.h+1)) ((c+(t.h+1):Nat):Int):=⟨om,om,om⟩;refine ⟨⟨fun q hq=>?_,fun e he=>(ho.st e he).mono (by show c+t.h<=c+(t.h+1); omega),ho.kn⟩,hh⟩;show ∀ x∈q,RgN (c+(t.h+1)) x;rcases zi.1 hq with hq|hq
  ·rcases zi.1 hq with hq|hq
   ·exact fun x hx=>(ho.cl q hq x hx).mono om
   ·obtain ⟨y,hy,rfl⟩:=zm.1 hq;intro x hx;simp only[zb,zt,or_false] at hx;rcases hx with rfl|rfl
    ·exact ((hl y hy).mono om).neg
    ·exact hh
  ·rw[zy] at hq;subst hq;intro x hx;rcases zb.1 hx with rfl|hx
   ·exact hh.neg
   ·exact (hl x hx).mono om
 says:=fun T hv hs hk=>by
  have hh:RgN (c+(t.h+1)) ((c+(t.h+1):Nat):Int):=⟨om,om,om⟩;have n1:T (-((c+(t.h+1):Nat):Int))=!T ((c+(t.h+1):Nat):Int):=hv _ hh;have s1:(-((c+(t.h+1):Nat):Int)::l).any T=true:=hs _ (z6 _ zg);have s2:∀ x∈l,([-x,((c+(t.h+1):Nat):Int)]).any T=true:=fun x hx=>hs _ (z1 _ (z6 _ (zm.2 ⟨x,hx,rfl⟩)))
  refine ⟨?_,hk⟩;show T ((c+(t.h+1):Nat):Int)=l.any T
  cases hT:T ((c+(t.h+1):Nat):Int) with
  | true=>
   rw[ql,n1,hT] at s1
   simpa using s1.symm
  | false=>
   refine (qe.2 fun x hx h=>?_).symm;have:=s2 x hx;have n2:T (-x)=!T x:=hv x ((hl x hx).mono (by show c+t.h<=c+(t.h+1); omega));simp only[ql,List.any_nil,n2,h,hT] at this;exact absurd this (by decide)
theorem du9 (ho:t.OK c){l:List Int}(hl:∀ x∈l,RgN (c+t.h) x):Told c 1 t (cf5 c l t) fun T=>l.all T:=by
 have h:=bm6 (c:=c) ho (l:=dj5 l) fun x hx=>by
  obtain ⟨y,hy,rfl⟩:=zm.1 hx;exact (hl y hy).neg
 refine ⟨h.le,h.cl,⟨h.ok.1,h.ok.2.neg⟩,fun T hv hs hk=>?_⟩;obtain ⟨h1,h2⟩:=h.says T hv hs hk;refine ⟨?_,h2⟩;show T (-(ak3 c (dj5 l) t).1)=_;rw[hv _ h.ok.2,h1];unfold dj5;rw[qd,zw,qz,qe,zp];refine forall_congr' fun x=>forall_congr' fun hx=>?_
 have:=hv x ((hl x hx).mono (by have:=h.le.1; show c+t.h<=c+(ak3 c (dj5 l) t).2.h; omega));simp[this]
theorem df7 (ho:t.OK c){x y w:Int}(hx:RgN (c+t.h) x)(hy:RgN (c+t.h) y)(hw:RgN (c+t.h) w):Told c 1 t (br5 c x y w t) fun T=>if T w then T x else T y where
 le:=⟨qh _,zz _⟩
 cl:=fun q hq=>z1 _ hq
 ok:=by
  have hh:RgN (c+(t.h+1)) ((c+(t.h+1):Nat):Int):=⟨om,om,om⟩;have hx:=hx.mono (W:=c+(t.h+1)) om;have hy:=hy.mono (W:=c+(t.h+1)) om;have hw:=hw.mono (W:=c+(t.h+1)) om;refine ⟨⟨fun q hq=>?_,fun e he=>(ho.st e he).mono (by show c+t.h<=c+(t.h+1); omega),ho.kn⟩,hh⟩;show ∀ x∈q,RgN (c+(t.h+1)) x;rcases zi.1 hq with hq|hq
  ·exact fun x hx=>(ho.cl q hq x hx).mono om
  ·simp only[zb,zt,or_false] at hq;have n1:=hx.neg; have n2:=hy.neg; have n3:=hw.neg; have n4:=hh.neg;rcases hq with rfl|rfl|rfl|rfl<;>intro z hz<;>simp only[zb,zt,or_false] at hz<;>rcases hz with rfl|rfl|rfl<;>assumption
 says:=fun T hv hs hk=>by
  have hh:RgN (c+(t.h+1)) ((c+(t.h+1):Nat):Int):=⟨om,om,om⟩;have m:c+t.h<=c+(t.h+1):=om
  have n1:=hv _ hh;have n2:=hv _ (hx.mono m);have n3:=hv _ (hy.mono m);have n4:=hv _ (hw.mono m);have s:∀ q∈[[-w,-x,((c+(t.h+1):Nat):Int)],[-w,x,-((c+(t.h+1):Nat):Int)],[w,-y,((c+(t.h+1):Nat):Int)],[w,y,-((c+(t.h+1):Nat):Int)]],q.any T=true:=fun q hq=>hs q (z6 _ hq)
  refine ⟨?_,hk⟩;show T ((c+(t.h+1):Nat):Int)=_;simp only[zb,zt,or_false,forall_eq_or_imp,forall_eq,ql,List.any_nil,n1,n2,n3,n4] at s;generalize T ((c+(t.h+1):Nat):Int)=a at *;generalize T x=b at *;generalize T y=d at *;generalize T w=e at *
  revert s
  cases a<;>cases b<;>cases d<;>cases e<;>decide
theorem dv1 {n:Int}(h0:0<=n)(h1:n<100):(∃ a:Nat,a<10/\n=a/\eh9 n=[zx (48+a)])\/∃ a b:Nat,a<10/\b<10/\n=((10*a+b:Nat):Int)/\eh9 n=[zx (48+a),zx (48+b)]:=by
 unfold eh9;by_cases h:n<10
 ·rw[if_pos h]; exact .inl ⟨n.toNat,om,om,rfl⟩
 ·rw[if_neg h]; exact .inr ⟨n.toNat/10,n.toNat%10,om,om,om,rfl⟩
theorem gs7 {a b:Nat}(ha:a<10)(hb:b<10)(h:zx (48+a)=zx (48+b)):a=b:=by
 have:=congrArg UInt8.toNat h;simp only[qu] at this;omega
theorem jr6 {a:Nat}(ha:a<10):zx (48+a)≠32:=fun h=>by
 have:=congrArg UInt8.toNat h;simp only[qu] at this;have e:(32:UInt8).toNat=32:=rfl;rw[e] at this;omega
theorem id8:∀ {l m:List Int},fi5 l->fi5 m->ci2 l=ci2 m->l=m:=by
 have nk:∀ (n:Int) (l:List Int),ci2 (n::l)=eh9 n++32::ci2 l:=fun n l=>by simp[ci2]
 have ne:∀ (n:Int) (l:List Int),ci2 (n::l)≠[]:=fun n l=>by rw[nk]; simp
 intro l
 induction l with
 | nil=>
  intro m _ _ h
  cases m with
  | nil=>rfl
  | cons b m=>exact absurd h.symm (ne b m)
 | cons a l ih=>
  intro m hl hm h
  cases m with
  | nil=>exact absurd h (ne a l)
  | cons b m=>
   rw[nk,nk] at h;have g1:=hl a zg;have g2:=hm b zg;have ih:=@ih m (fun n hn=>hl n (zf _ hn)) fun n hn=>hm n (zf _ hn)
   rcases dv1 g1.1 g1.2 with ⟨x,hx,rfl,e⟩|⟨x,y,hx,hy,rfl,e⟩<;>rcases dv1 g2.1 g2.2 with ⟨z,hz,rfl,f⟩|⟨z,w,hz,hw,rfl,f⟩<;>rw[e,f] at h<;>simp only[zo,zn,List.cons.injEq,true_and] at h
   ·rw[gs7 hx hz h.1,ih h.2]
   ·exact absurd h.2.1.symm (jr6 hw)
   ·exact absurd h.2.1 (jr6 hy)
   ·rw[gs7 hx hz h.1,gs7 hy hw h.2.1,ih h.2.2]
theorem gs8 {s:List (Str×Int)}{k:Str}{x:Int}(h:bh4 s k=some x):(k,x)∈s:=by
 induction s with
 | nil=>cases h
 | cons t ts ih=>
  unfold bh4 at h;split at h
  ·rename_i e;cases h;rw[e]; exact zg
  ·exact zf _ (ih h)
theorem gb6 {s:List (Str×Int)}{k k':Str}{x y:Int}(h:bh4 (s++[(k,x)]) k'=some y):bh4 s k'=some y\/k'=k/\x=y:=by
 induction s with
 | nil=>
  rw[zn] at h;unfold bh4 at h;split at h
  ·rename_i e;cases h;exact .inr ⟨e,rfl⟩
  ·cases h
 | cons t ts ih=>
  rw[zo] at h;unfold bh4 at h ⊢;split
  ·rename_i e;rw[if_pos e] at h; exact .inl h
  ·rename_i e;rw[if_neg e] at h; exact ih h
theorem gb7 {s:List (Str×Int)}{k:Str}(h:bh4 s k=none):k ∉ s.map (·.1):=by
 induction s with
 | nil=>exact zt
 | cons t ts ih=>
  unfold bh4 at h;split at h
  ·cases h
  ·rename_i e;rw[zc,zb];exact fun h2=>h2.elim e (ih h)
theorem ir5 (l:List Int)(T:Int->Bool):(upL l).any T=l.any fun n=>T (n+1):=by unfold upL; rw[qd]; rfl
theorem fi6 (ho:t.OK c){l:List Int}(hl:∀ n∈l,0<=n/\n<(c:Int))(hc:c<=100):Told c 1 t (fi3 c l t) fun T=>l.any fun n=>T (n+1):=by
 have hr:∀ n∈l,RgN (c+t.h) (n+1):=fun n hn=>⟨by have:=hl n hn; omega,by have:=hl n hn; omega,by have:=hl n hn; omega⟩
 have hs:fi5 l:=fun n hn=>⟨(hl n hn).1,by have:=(hl n hn).2; omega⟩
 unfold fi3;by_cases h1:l.length=1
 ·rw[if_pos h1];obtain ⟨n,rfl⟩:=List.length_eq_one_iff.1 h1;exact ⟨⟨zz _,qh _⟩,fun _ h=>h,⟨ho,hr n zg⟩,fun T _ _ hk=>⟨by simp,hk⟩⟩
 rw[if_neg h1]
 cases hf:bh4 t.sets (ci2 l) with
 | some x=>exact ⟨⟨zz _,qh _⟩,fun _ h=>h,⟨ho,ho.st _ (gs8 hf)⟩,fun T _ _ hk=>⟨hk l x hs hf,hk⟩⟩
 | none=>
  have h:=bm6 (c:=c) ho (l:=upL l) fun x hx=>by
   obtain ⟨y,hy,rfl⟩:=zm.1 hx;exact hr y hy
  refine ⟨h.le,h.cl,⟨⟨h.ok.1.cl,fun e he=>?_,?_⟩,h.ok.2⟩,fun T hv hsat hk=>?_⟩
  ·rcases zi.1 he with he|he
   ·exact h.ok.1.st e he
   ·rw[zy.1 he]; exact h.ok.2
  ·show ((t.sets++[(ci2 l,(ak3 c (upL l) t).1)]).map (·.1)).Nodup;rw[zv,List.map_singleton,zl];refine ⟨ho.kn,(zk.2 ⟨zt,.nil⟩),fun a ha b hb e=>?_⟩;rw[zy] at hb;rw[e,hb] at ha;exact gb7 hf ha
  ·obtain ⟨h2,_⟩:=h.says T hv hsat hk;rw[ir5] at h2;refine ⟨h2,fun m x hm hx=>?_⟩;rcases gb6 hx with hx|⟨e,rfl⟩
   ·exact hk m x hm hx
   ·rw[id8 hm hs e]; exact h2
end Go.Id.Md
