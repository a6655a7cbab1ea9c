/- The document's data,and what functions give,in plain words. Conditions: none; no program in sight. -/
import Derived.Test.YthmabjmjjonlmaaGreatDoorFwQ
open Bool renaming and_eq_true→za,eq_iff_iff→zu
open List renaming length_append→zb,map_cons→zc,mem_cons→zd,mem_range→ze,mem_flatMap→zf,mem_cons_of_mem→zg,getD_eq_getElem?_getD→zh,nodup_cons→zi,nodup_append→zj,range_succ→zk,mem_append→zl,length_cons→zm,range→zn,mem_cons_self→zo,nil_append→zp,cons_append→zq,mem_map→zt,flatMap_append→zw,map_append→zx,length_map→zy,length_eq_zero_iff→zz,length_filter_le→z0,flatMap_nil→z1,any_eq_true→z2,all_eq_true→z3,mem_filter→z4,takeWhile_cons→z5,dropWhile_cons→z6,length_range→z7,flatMap_cons→z8,nodup_nil→z9,filter_append→qa,pairwise_map→qb,filter_congr→qc,range_zero→qe,find?_cons→qf,append_nil→qg,perm_ext_iff_of_nodup→qh,all_cons→qi,Pairwise→qj,filter_eq_nil_iff→qk,length_singleton→ql,not_lt→qm,mem_iff_getElem→qn,take_succ_cons→qo,mem_singleton→qp
open Nat renaming le_refl→zr,le_trans→zv
open Int renaming toNat_natCast→qd,toNat_of_nonneg→qq
open Decidable renaming em→qr
set_option linter.all false
private theorem om{P:Prop}(h:P:=by omega):P:=h
namespace Go.Id.Md
open Go Go.Id
abbrev Str:=List UInt8
structure EVR where
 ai5:Int
 ver:Str
 rel:Str
 deriving DecidableEq,Inhabited
structure Dep where
 name:Str
 op:Int
 evr:EVR
 deriving DecidableEq,Inhabited
inductive aa6 where
 | mk (kind:Int) (dep:Dep) (args:List aa6)
 deriving Inhabited
def aa6.kind:aa6->Int|.mk k _ _=>k
def aa6.dep:aa6->Dep|.mk _ d _=>d
def aa6.args:aa6->List aa6|.mk _ _ a=>a
structure aa3 where
 name:Str
 evr:EVR
 ap9:Int
 vendor:Str
 provides:List Dep
 requires:List aa6
 conflicts:List aa6
 aa7:List Dep
 ac6:List aa6
 ac1:List aa6
 suggests:List aa6
 af4:List aa6
 files:List Str
 deriving Inhabited
structure ao2 where
 priority:Int
 packages:List aa3
 deriving Inhabited
def EVR.fit (e:EVR):Prop:=e.ver.length<2^62/\e.rel.length<2^62
def Dep.fit (d:Dep):Prop:=d.name.length<2^62/\d.evr.fit
theorem aa6.ind {p:aa6->Prop}(h:∀ k d aZ,(∀ a∈aZ,p a)->p (.mk k d aZ))(r:aa6):p r :=
 aa6.rec (motive_1:=p) (motive_2:=fun l=>∀ a∈l,p a) (fun k d aZ ih=>h k d aZ ih) (fun _ h=>by cases h) (fun r rs h1 h2 a ha=>by
  rcases zd.1 ha with rfl|h
  ·exact h1
  ·exact h2 a h) r
mutual
def aa6.fit:aa6->Prop
 | .mk k d aZ=>0<=k/\k<256/\d.fit/\aZ.length<2^31/\aa6.fits aZ
def aa6.fits:List aa6->Prop
 | []=>True
 | r::rs=>r.fit/\aa6.fits rs
end
theorem aa6.hr8 (l:List aa6):aa6.fits l↔∀ r∈l,r.fit:=by
 induction l with
 | nil=>simp[aa6.fits]
 | cons r rs ih=>simp[aa6.fits,ih]
theorem aa6.bc6 {k:Int}{d:Dep}{aZ:List aa6}:(aa6.mk k d aZ).fit↔0<=k/\k<256/\d.fit/\aZ.length<2^31/\∀ r∈aZ,r.fit:=by
 simp only[aa6.fit,aa6.hr8]
def EVR.cs (e:EVR):List IV:=[.int .i64 e.ai5,.str e.ver,.str e.rel]
def Dep.cs (d:Dep):List IV:=[.str d.name,.int .u8 d.op,.int .i64 d.evr.ai5,.str d.evr.ver,.str d.evr.rel]
mutual
def aa6.cs:aa6->List IV
 | .mk k d aZ=>[.int .u8 k,.str d.name,.int .u8 d.op,.int .i64 d.evr.ai5,.str d.evr.ver,.str d.evr.rel,.aa4 (aa6.css aZ)]
def aa6.css:List aa6->List (List IV)
 | []=>[]
 | r::rs=>r.cs::aa6.css rs
end
theorem aa6.it2 (l:List aa6):aa6.css l=l.map aa6.cs:=by
 induction l with
 | nil=>rfl
 | cons r rs ih=>simp only[aa6.css,ih,zc]
theorem aa6.ak5 (r:aa6):r.cs=[.int .u8 r.kind,.str r.dep.name,.int .u8 r.dep.op,.int .i64 r.dep.evr.ai5,.str r.dep.evr.ver,.str r.dep.evr.rel,.aa4 (r.args.map aa6.cs)]:=by
 cases r with
 | mk k d aZ=>simp only[aa6.cs,aa6.it2,aa6.kind,aa6.dep,aa6.args]
def bh4 (s:Str):List IV:=[.str s]
abbrev deps (l:List Dep):IV:=.aa4 (l.map Dep.cs)
abbrev ai9 (l:List aa6):IV:=.aa4 (l.map aa6.cs)
abbrev strs (l:List Str):IV:=.aa4 (l.map bh4)
def aa3.cs (p:aa3):List IV :=
 [.str p.name,.int .i64 p.evr.ai5,.str p.evr.ver,.str p.evr.rel,.int .u8 p.ap9,.str p.vendor,deps p.provides,ai9 p.requires,ai9 p.conflicts,deps p.aa7,ai9 p.ac6,ai9 p.ac1,ai9 p.suggests,ai9 p.af4,strs p.files]
def ao2.cs (r:ao2):List IV:=[.int .i64 r.priority,.aa4 (r.packages.map aa3.cs)]
def aa3.rows (p:aa3):List (Int×List aa6):=[(1,p.requires),(2,p.conflicts),(1,p.ac6),(3,p.ac1),(1,p.suggests),(3,p.af4)]
def signs:Str:=[97,98,99,100,101,102,103,104,105,106,107,108,109,110,111,112,113,114,115,116,117,118,119,120,121,122,65,66,67,68,69,70,71,72,73,74,75,76,77,78,79,80,81,82,83,84,85,86,87,88,89,90,48,49,50,51,52,53,54,55,56,57,46,95,43,45,47,58,64,126,94]
def gm8 (b:UInt8):Bool:=(decide (97<=b.toNat)&&decide (b.toNat<=122))||(decide (65<=b.toNat)&&decide (b.toNat<=90))||(decide (48<=b.toNat)&&decide (b.toNat<=57))
def bh5 (b:UInt8):Bool:=signs.contains b
def words:List Str:=[[97,110,100],[111,114],[105,102],[101,108,115,101],[117,110,108,101,115,115],[119,105,116,104],[119,105,116,104,111,117,116]]
def au6 (s:Str):Bool:=decide (1<=s.length)&&decide (s.length<=64)&&s.all bh5&&!words.contains s
def ay5 (s:Str):Bool:=au6 s&&(s.head? == some 47)
def bp4 (b:UInt8):Bool:=gm8 b || [46,95,43,126,94].contains b
def bb3 (s:Str):Bool:=decide (1<=s.length)&&decide (s.length<=64)&&s.all bp4
def bh6 (e:EVR)(dep:Bool):Bool:=decide (0<=e.ai5)&&decide (e.ai5<=2147483647)&&bb3 e.ver&&(bb3 e.rel||dep&&e.rel.isEmpty)
def dx4 (op:Int):Bool:=[0,1,2,3,4,6].contains op
def gc7:EVR:=⟨0,[],[]⟩
def by2:Dep:=⟨[],0,gc7⟩
def ai4 (d:Dep):Bool:=au6 d.name&&dx4 d.op&&(if d.op=0 then decide (d.evr=gc7) else !ay5 d.name&&bh6 d.evr true)
def ad7 (b:UInt8):Nat:=if b=126 then 1 else if b=94 then 3 else if decide (97<=b)&&decide (b<=122)||decide (65<=b)&&decide (b<=90) then 4 else if decide (48<=b)&&decide (b<=57) then 5 else 0
structure Part where
 kind:Nat
 s:Str
 deriving DecidableEq,Inhabited
def ax1:Nat->Str->List Part
 | 0,_=>[]
 | _+1,[]=>[]
 | n+1,b::l=>
  if ad7 b=0 then ax1 n l
  else if ad7 b<4 then ⟨ad7 b,[]⟩::ax1 n l
  else ⟨ad7 b,if ad7 b=5 then ((b::l).takeWhile fun c=>ad7 c==ad7 b).dropWhile (· == 48) else (b::l).takeWhile fun c=>ad7 c==ad7 b⟩::ax1 n ((b::l).dropWhile fun c=>ad7 c==ad7 b)
def ab9 (s:Str):List Part:=ax1 s.length s
def at5 (a b:Int):Int:=if a<b then -1 else if a=b then 0 else 1
def cp9 (a b:Str):Int:=if Op.bytesLess a b then -1 else if a=b then 0 else 1
def af9 (a b:Part):Int :=
 let k:=at5 a.kind b.kind
 if k≠0 then k else
 let n:=if a.kind=5/\b.kind=5 then at5 a.s.length b.s.length else 0
 if n≠0 then n else cp9 a.s b.s
def ah2:List Part->List Part->Int
 | a::aZ,b::bs=>if af9 a b≠0 then af9 a b else ah2 aZ bs
 | _,_=>0
def aq6 (a b:Str):Int:=ah2 (ab9 a++[⟨2,[]⟩]) (ab9 b++[⟨2,[]⟩])
def ar5 (a b:EVR):Int :=
 if at5 a.ai5 b.ai5≠0 then at5 a.ai5 b.ai5 else
 if aq6 a.ver b.ver≠0 then aq6 a.ver b.ver else
 if a.rel=[]\/b.rel=[] then 0 else aq6 a.rel b.rel
def bit (op:Int)(i:Nat):Bool:=(op.toNat).testBit i
def side (n:Int):Nat:=if n<0 then 0 else if n=0 then 1 else 2
def meet (a b:Dep):Bool :=
 if a.op.toNat%8=0\/b.op.toNat%8=0 then true else
 let n:=ar5 a.evr b.evr
 if n=0 then bit a.op 0&&bit b.op 0||bit a.op 1&&bit b.op 1||bit a.op 2&&bit b.op 2
 else bit a.op (side (-n))||bit b.op (side n)
mutual
def aa6.count:aa6->Nat
 | .mk _ _ aZ=>aa6.counts aZ+1
def aa6.counts:List aa6->Nat
 | []=>0
 | r::rs=>r.count+aa6.counts rs
end
mutual
def aa6.depth:aa6->Nat
 | .mk k _ aZ=>if k=1 then 0 else aa6.ax2 aZ+1
def aa6.ax2:List aa6->Nat
 | []=>0
 | r::rs=>max r.depth (aa6.ax2 rs)
end
-- All parts,and whether each stands within a With,or a Without.
mutual
def aa6.parts:aa6->Bool->List (aa6×Bool)
 | .mk k d aZ,alone=>(.mk k d aZ,alone)::aa6.bk7 aZ (alone||decide (k=6)||decide (k=7))
def aa6.bk7:List aa6->Bool->List (aa6×Bool)
 | [],_=>[]
 | r::rs,alone=>r.parts alone++aa6.bk7 rs alone
end
def asks (k:Int):Nat×Nat×Bool×Nat :=
 if k=1 then (0,0,true,3) else if k=2 then (2,24,true,3) else if k=3 then (2,24,true,3) else if k=4 then (2,3,false,1)
 else if k=5 then (2,3,false,2) else if k=6 then (2,24,true,3) else if k=7 then (2,2,true,3) else (0,0,false,0)
def ak6 (wh:Int)(r:aa6)(alone:Bool):Bool :=
 let x:=asks r.kind
 !(decide ((x.2.2.2:Int)<wh)||alone&&!x.2.2.1||decide (r.args.length<x.1)||decide (x.2.1<r.args.length)) &&
 (if r.kind=1 then ai4 r.dep else decide (r.dep=by2))
def au8 (r:aa6)(wh:Int):Int :=
 if wh<1\/3<wh then 1 else if r.count>24 then 40 else if r.depth>8 then 21 else if (r.parts false).all fun p=>ak6 wh p.1 p.2 then 0 else 4
mutual
def aa6.same:aa6->aa6->Bool
 | .mk k d aZ,.mk k' d' as'=>decide (k=k')&&decide (d=d')&&aa6.it3 aZ as'
def aa6.it3:List aa6->List aa6->Bool
 | [],[]=>true
 | r::rs,s::ss=>r.same s&&aa6.it3 rs ss
 | _,_=>false
end
structure aa3.Fit (p:aa3):Prop where
 name:p.name.length<2^62
 evr:p.evr.fit
 ax9:p.provides.length<2^31/\∀ d∈p.provides,d.fit
 obs:p.aa7.length<2^31/\∀ d∈p.aa7,d.fit
 files:p.files.length<2^31/\∀ s∈p.files,s.length<2^62
 rich:∀ x∈p.rows,x.2.length<2^31/\∀ r∈x.2,r.fit/\r.count<2^31
def al7 (a:Int):Bool:=decide (1<=a)&&decide (a<=4)
def rising:List Str->Bool
 | a::b::l=>Op.bytesLess a b&&rising (b::l)
 | _=>true
def ae6 (l:List aa6)(wh:Int):Bool:=decide (l.length<=32)&&l.all fun r=>decide (au8 r wh=0)
def ah4 (p:aa3):Bool :=
 au6 p.name&&!ay5 p.name&&bh6 p.evr false&&al7 p.ap9&&decide (p.vendor.length<=64) &&
 (decide (p.provides.length<=32)&&p.provides.all ai4)&&(decide (p.aa7.length<=32)&&p.aa7.all ai4)&&(decide (p.files.length<=32)&&p.files.all ay5) &&
 rising p.files&&ae6 p.requires 1&&ae6 p.conflicts 2&&ae6 p.ac6 1&&ae6 p.ac1 3&&ae6 p.suggests 1&&ae6 p.af4 3
def own (p:aa3):Dep:=⟨p.name,2,p.evr⟩
def meets (a d:Dep):Bool:=decide (a.name=d.name)&&meet a d
def named (p:aa3)(d:Dep):Bool:=meets (own p) d
def provides (p:aa3)(d:Dep):Bool:=named p d||p.provides.any (fun a=>meets a d)||decide (d.op=0)&&p.files.contains d.name
def aa7 (p q:aa3):Bool:=p.aa7.any fun d=>named q d
def it4 (l m:List aa6):Bool:=aa6.it3 l m
end Go.Id.Md
namespace Go.Id.Md
open Go Go.Id
structure bh7 where
 pkg:aa3
 fd3:Int
 prio:Int
def bh7.cs (r:bh7):List IV:=r.pkg.cs++[.int .i64 r.fd3,.int .i64 r.prio]
abbrev Nms:=List (Str×List Int)
def at6:Nms->Str->Int->Nms
 | [],k,n=>[(k,[n])]
 | t::ts,k,n=>if k=t.1 then (k,t.2++[n])::ts else t::at6 ts k n
def cv5:Nms->Nat->List aa3->Nms
 | nm,_,[]=>nm
 | nm,n,p::ps=>cv5 (at6 nm p.name n) (n+1) ps
def ae1 (n:Int):List IV:=[.int .i64 n]
def nmV (nm:Nms):List (IV×IV):=nm.map fun t=>(.str t.1,.aa4 (t.2.map ae1))
structure Pool where
 rows:List bh7
 inst:Int
 nm:Nms
def Pool.v (p:Pool):IV:=.ab8 [.aa4 (p.rows.map bh7.cs),.int .i64 p.inst,.an9 (nmV p.nm)]
def rowsOf (l:List aa3)(fd3 prio:Int):List bh7:=l.map fun p=>⟨p,fd3,prio⟩
theorem et3 (l:List aa3)(x:aa3)(a b:Int):rowsOf (l++[x]) a b=rowsOf l a b++[⟨x,a,b⟩]:=by simp[rowsOf]
theorem bw8 (l:List aa3)(a b:Int):(rowsOf l a b).length=l.length:=by simp[rowsOf]
def ah3:Nat->List ao2->List bh7×Nms->Option (List bh7×Nms)
 | _,[],st=>some st
 | i,r::rs,st=>if r.priority<0\/1024<r.priority\/r.packages.all ah4=false then none else ah3 (i+1) rs (st.1++rowsOf r.packages i r.priority,cv5 st.2 st.1.length r.packages)
def am4 (l:List ao2):Nat:=(l.map fun r=>r.packages.length).sum
def by3 (repos:List ao2)(inst:List aa3):Pool ⊕ Int :=
 if 16<repos.length\/256<inst.length+am4 repos then .inr 40 else
 if inst.all ah4=false then .inr 4 else
 match ah3 0 repos (rowsOf inst (-1) 1025,cv5 [] 0 inst) with
 | some (rows,nm)=>.inl ⟨rows,inst.length,nm⟩
 | none=>.inr 4
def jj6 (r:Pool ⊕ Int):IV:=match r with
 | .inl p=>.tuple [p.v,.int .i64 0]
 | .inr e=>.tuple [.af3,.int .i64 e]
abbrev NmL:=List (Str×List Int×Nat)
def mEs (L:NmL):List (IV×IV):=L.map fun t=>(.str t.1,.slice t.2.2 0 t.2.1.length 1)
def be8 (L:NmL):Nms:=L.map fun t=>(t.1,t.2.1)
def bg6:NmL->Str->Int->Nat->NmL
 | [],k,n,nid=>[(k,[n],nid)]
 | t::ts,k,n,nid=>if k=t.1 then (k,t.2.1++[n],nid)::ts else t::bg6 ts k n nid
def dc2 (L:NmL)(k:Str):IV:=match L.find? (fun t=>decide (k=t.1)) with
 | some t=>.slice t.2.2 0 t.2.1.length 1
 | none=>.aa1
def ch2 (L:NmL)(k:Str):List Int:=match L.find? (fun t=>decide (k=t.1)) with
 | some t=>t.2.1
 | none=>[]
theorem cx4 (L:NmL)(k:Str)(n:Int)(nid:Nat):be8 (bg6 L k n nid)=at6 (be8 L) k n:=by
 induction L with
 | nil=>rfl
 | cons t ts ih=>
  simp only[bg6,be8,zc,at6];split
  ·rfl
  ·rw[zc]; congr 1
theorem jj7 (L:NmL)(k:Str):(ay9 2 (.str k) (mEs L)).map (fun r=>r.getD .aa1)=some (dc2 L k):=by
 induction L with
 | nil=>rfl
 | cons t ts ih=>
  simp only[mEs,zc,ay9,fc3,dc2,qf] at ih ⊢;by_cases h:k=t.1
  ·simp[h]
  ·simp only[h,decide_false] at ih ⊢;exact ih
theorem it5 (L:NmL)(k:Str):∃ r,ay9 2 (.str k) (mEs L)=some r/\r.getD .aa1=dc2 L k:=by
 have:=jj7 L k
 cases h:ay9 2 (.str k) (mEs L) with
 | none=>rw[h] at this; cases this
 | some r=>rw[h] at this; exact ⟨r,rfl,by simpa using this⟩
theorem jx4 (L:NmL)(k:Str)(n:Int)(nid:Nat):eo3 2 (.str k) (.slice nid 0 ((ch2 L k).length+1) 1) (mEs L)=some (mEs (bg6 L k n nid)):=by
 induction L with
 | nil=>rfl
 | cons t ts ih=>
  simp only[mEs,zc,eo3,fc3,ch2,qf,bg6] at ih ⊢;by_cases h:k=t.1
  ·simp[h]
  ·simp only[h,decide_false,if_false,zc] at ih ⊢;rw[ih]; rfl
theorem dx5 {k:Str}{n:Int}{nid:Nat}:∀ {L:NmL},(L.map (·.1)).Nodup->∀ t∈bg6 L k n nid,(t∈L/\t.1≠k)\/t=(k,ch2 L k++[n],nid):=by
 intro L
 induction L with
 | nil=>intro _ t ht; simp[bg6] at ht; exact .inr (by rw[ht]; rfl)
 | cons u us ih=>
  intro hk t ht;rw[zc,zi] at hk;simp only[bg6] at ht;by_cases h:k=u.1
  ·rw[if_pos h] at ht;rcases zd.1 ht with rfl|ht
   ·right; simp[ch2,h]
   ·left;exact ⟨zg _ ht,fun e=>hk.1 (by rw[<- h,<- e]; exact List.mem_map_of_mem (f:=fun x:Str×List Int×Nat=>x.1) ht)⟩
  ·rw[if_neg h] at ht;rcases zd.1 ht with rfl|ht
   ·left; exact ⟨zo ..,fun e=>h e.symm⟩
   ·have e:ch2 (u::us) k=ch2 us k:=by simp[ch2,h]
    rw[e];rcases ih hk.2 t ht with ⟨h1,h2⟩|h1
    ·exact .inl ⟨zg _ h1,h2⟩
    ·exact .inr h1
theorem fd2 {k:Str}{n:Int}{nid:Nat}:∀ (L:NmL),(L.map (·.1)).Nodup->((bg6 L k n nid).map (·.1)).Nodup/\∀ x∈(bg6 L k n nid).map (·.1),x=k\/x∈L.map (·.1):=by
 intro L
 induction L with
 | nil=>intro _; simp[bg6]
 | cons u us ih=>
  intro hk;rw[zc,zi] at hk;simp only[bg6];by_cases h:k=u.1
  ·rw[if_pos h];refine ⟨?_,?_⟩
   ·rw[zc,zi]; exact ⟨by rw[h]; exact hk.1,hk.2⟩
   ·intro x hx;simp only[zc,zd] at hx ⊢;rcases hx with h1|h1
    ·exact .inl h1
    ·exact .inr (.inr h1)
  ·rw[if_neg h];obtain ⟨h1,h2⟩:=ih hk.2;refine ⟨?_,?_⟩
   ·rw[zc,zi];refine ⟨fun hm=>?_,h1⟩;rcases h2 _ hm with e|e
    ·exact h e.symm
    ·exact hk.1 e
   ·intro x hx;simp only[zc,zd] at hx ⊢;rcases hx with h3|h3
    ·exact .inr (.inl h3)
    ·rcases h2 _ h3 with e|e
     ·exact .inl e
     ·exact .inr (.inr e)
theorem gm9 {k:Str}{n:Int}{nid:Nat}:∀ (L:NmL),(L.map (·.2.2)).Nodup->nid ∉ L.map (·.2.2)->((bg6 L k n nid).map (·.2.2)).Nodup/\∀ x∈(bg6 L k n nid).map (·.2.2),x=nid\/x∈L.map (·.2.2):=by
 intro L
 induction L with
 | nil=>intro _ _; simp[bg6]
 | cons u us ih=>
  intro hk hn;rw[zc,zi] at hk;simp only[zc,zd,not_or] at hn;simp only[bg6];by_cases h:k=u.1
  ·rw[if_pos h];refine ⟨?_,?_⟩
   ·rw[zc,zi]; exact ⟨hn.2,hk.2⟩
   ·intro x hx;simp only[zc,zd] at hx ⊢;rcases hx with h1|h1
    ·exact .inl h1
    ·exact .inr (.inr h1)
  ·rw[if_neg h];obtain ⟨h1,h2⟩:=ih hk.2 hn.2;refine ⟨?_,?_⟩
   ·rw[zc,zi];refine ⟨fun hm=>?_,h1⟩;rcases h2 _ hm with e|e
    ·exact hn.1 e.symm
    ·exact hk.1 e
   ·intro x hx;simp only[zc,zd] at hx ⊢;rcases hx with h3|h3
    ·exact .inr (.inl h3)
    ·rcases h2 _ h3 with e|e
     ·exact .inl e
     ·exact .inr (.inr e)
theorem cd6 (L:NmL)(k:Str):(dc2 L k=.aa1/\ch2 L k=[])\/∃ t∈L,t.1=k/\dc2 L k=.slice t.2.2 0 t.2.1.length 1/\ch2 L k=t.2.1:=by
 unfold dc2 ch2
 cases h:L.find? (fun t=>decide (k=t.1)) with
 | none=>exact .inl ⟨rfl,rfl⟩
 | some t=>
  have h1:=List.find?_some h;exact .inr ⟨t,List.mem_of_find?_eq_some h,by simpa using (by simpa using h1:k=t.1).symm,rfl,rfl⟩
theorem gn1 {L:NmL}(hk:(L.map (·.1)).Nodup)(hd:(L.map (·.2.2)).Nodup):∀ t∈L,∀ u∈L,t.2.2=u.2.2->t=u:=by
 intro t ht u hu e;obtain ⟨i,hi,h1⟩:=qn.1 ht;obtain ⟨j,hj,h2⟩:=qn.1 hu
 have hij:i=j:=by
  have hi':i<(L.map (·.2.2)).length:=by simpa using hi
  have hj':j<(L.map (·.2.2)).length:=by simpa using hj
  have hp:=List.pairwise_iff_getElem.1 hd;have e2:(L.map (·.2.2))[i]=(L.map (·.2.2))[j]:=by simp only[List.getElem_map,h1,h2,e]
  rcases Nat.lt_trichotomy i j with h|h|h
  ·exact absurd e2 (hp i j hi' hj' h)
  ·exact h
  ·exact absurd e2.symm (hp j i hj' hi' h)
 subst hij;rw[<- h1,<- h2]
end Go.Id.Md
namespace Go.Id.Md
open Go Go.Id
def ae8:Nms->Str->List Int
 | [],_=>[]
 | t::ts,k=>if k=t.1 then t.2 else ae8 ts k
def KN (nm:Nms):Prop:=(nm.map (·.1)).Nodup
theorem bk8 {nm:Nms}{k:Str}{n:Int}(h:KN nm)(t:Str×List Int):t∈at6 nm k n↔(t∈nm/\t.1≠k)\/t=(k,ae8 nm k++[n]):=by
 induction nm with
 | nil=>simp[at6,ae8]
 | cons u us ih=>
  have h':u.1 ∉ us.map (·.1)/\KN us:=by simpa [KN] using h
  simp only[at6,ae8];by_cases e:k=u.1
  ·rw[if_pos e,if_pos e];subst e;simp only[zd];constructor
   ·rintro (rfl|ht)
    ·exact .inr rfl
    ·exact .inl ⟨.inr ht,fun e=>h'.1 (zt.2 ⟨t,ht,e⟩)⟩
   ·rintro (⟨rfl|ht,hne⟩|rfl)
    ·exact absurd rfl hne
    ·exact .inr ht
    ·exact .inl rfl
  ·rw[if_neg e,if_neg e];simp only[zd,ih h'.2];constructor
   ·rintro (rfl|⟨h1,h2⟩|rfl)
    ·exact .inl ⟨.inl rfl,fun e'=>e e'.symm⟩
    ·exact .inl ⟨.inr h1,h2⟩
    ·exact .inr rfl
   ·rintro (⟨rfl|h1,h2⟩|rfl)
    ·exact .inl rfl
    ·exact .inr (.inl ⟨h1,h2⟩)
    ·exact .inr (.inr rfl)
theorem fx4 {k:Str}{n:Int}:∀ {nm:Nms},∀ x∈(at6 nm k n).map (·.1),x=k\/x∈nm.map (·.1):=by
 intro nm
 induction nm with
 | nil=>intro x hx; simpa [at6] using hx
 | cons u us ih=>
  intro x hx;simp only[at6] at hx;split at hx
  ·rename_i e; simp only[zc,zd] at hx ⊢;rcases hx with h|h
   ·exact .inl h
   ·exact .inr (.inr h)
  ·simp only[zc,zd] at hx ⊢;rcases hx with h|h
   ·exact .inr (.inl h)
   ·rcases ih x h with h|h
    ·exact .inl h
    ·exact .inr (.inr h)
theorem ao6 {nm:Nms}{k:Str}{n:Int}(h:KN nm):KN (at6 nm k n):=by
 induction nm with
 | nil=>simp[KN,at6]
 | cons u us ih=>
  have h':u.1 ∉ us.map (·.1)/\KN us:=by simpa [KN] using h
  simp only[at6];split
  ·rename_i e; subst e; exact h
  ·rename_i e;show ((u::at6 us k n).map (·.1)).Nodup;rw[zc,zi];refine ⟨fun hm=>?_,ih h'.2⟩;rcases fx4 _ hm with h1|h1
   ·exact e h1.symm
   ·exact h'.1 h1
theorem KN.nd {nm:Nms}(h:KN nm):nm.Nodup:=by
 induction nm with
 | nil=>exact z9
 | cons u us ih=>
  have h':u.1 ∉ us.map (·.1)/\KN us:=by simpa [KN] using h
  exact zi.2 ⟨fun hm=>h'.1 (zt.2 ⟨u,hm,rfl⟩),ih h'.2⟩
theorem KN.perm {nm nm':Nms}(h:KN nm)(p:nm.Perm nm'):KN nm':=(p.map (fun x:Str×List Int=>x.1)).nodup_iff.1 h
theorem dr2 {nm:Nms}(h:KN nm){t:Str×List Int}(ht:t∈nm):ae8 nm t.1=t.2:=by
 induction nm with
 | nil=>cases ht
 | cons u us ih=>
  have h':u.1 ∉ us.map (·.1)/\KN us:=by simpa [KN] using h
  simp only[ae8];rcases zd.1 ht with rfl|ht
  ·rw[if_pos rfl]
  ·rw[if_neg (fun e=>h'.1 (zt.2 ⟨t,ht,e⟩))];exact ih h'.2 ht
theorem dc6 {nm:Nms}{k:Str}(h:k ∉ nm.map (·.1)):ae8 nm k=[]:=by
 induction nm with
 | nil=>rfl
 | cons u us ih=>
  simp only[zc,zd,not_or] at h;simp only[ae8];rw[if_neg h.1]; exact ih h.2
theorem dc7 {nm nm':Nms}(h:KN nm)(p:nm.Perm nm')(k:Str):ae8 nm k=ae8 nm' k:=by
 by_cases hk:k∈nm.map (·.1)
 ·obtain ⟨t,ht,rfl⟩:=zt.1 hk;rw[dr2 h ht,dr2 (h.perm p) (p.mem_iff.1 ht)]
 ·rw[dc6 hk,dc6 (fun e=>hk ((p.map (·.1)).mem_iff.2 e))]
theorem bk9 {nm:Nms}(h:KN nm)(k:Str)(n:Int)(j:Str):ae8 (at6 nm k n) j=if j=k then ae8 nm k++[n] else ae8 nm j:=by
 induction nm with
 | nil=>
  simp only[at6,ae8]
  split<;>rfl
 | cons u us ih=>
  have h':u.1 ∉ us.map (·.1)/\KN us:=by simpa [KN] using h
  simp only[at6,ae8];by_cases e:k=u.1
  ·rw[if_pos e,if_pos e];simp only[ae8];by_cases ej:j=k
   ·rw[if_pos ej,if_pos ej]
   ·rw[if_neg ej,if_neg ej,if_neg (fun x=>ej (x.trans e.symm))]
  ·rw[if_neg e,if_neg e];simp only[ae8,ih h'.2];by_cases ej:j=k
   ·rw[if_pos ej,if_pos ej,if_neg (fun x=>e (ej.symm.trans x))]
   ·rw[if_neg ej,if_neg ej]
theorem bx3 {nm nm':Nms}{k:Str}{n:Int}(h:KN nm)(p:nm.Perm nm'):(at6 nm k n).Perm (at6 nm' k n):=by
 refine (qh (ao6 h).nd (ao6 (h.perm p)).nd).2 fun t=>?_
 rw[bk8 h,bk8 (h.perm p),dc7 h p,p.mem_iff]
theorem fx5 {nm:Nms}{k j:Str}{n:Int}(h:KN nm):(at6 (at6 nm k n) j n).Perm (at6 (at6 nm j n) k n):=by
 by_cases e:k=j
 ·subst e; exact .refl _
 refine (qh (ao6 (ao6 h)).nd (ao6 (ao6 h)).nd).2 fun t=>?_
 rw[bk8 (ao6 h),bk8 (ao6 h),bk8 h,bk8 h,bk9 h,bk9 h,if_neg (fun x=>e x.symm),if_neg e];constructor
 ·rintro (⟨⟨h1,h2⟩|rfl,h3⟩|rfl)
  ·exact .inl ⟨.inl ⟨h1,h3⟩,h2⟩
  ·exact .inr rfl
  ·exact .inl ⟨.inr rfl,fun x=>e x.symm⟩
 ·rintro (⟨⟨h1,h2⟩|rfl,h3⟩|rfl)
  ·exact .inl ⟨.inl ⟨h1,h3⟩,h2⟩
  ·exact .inr rfl
  ·exact .inl ⟨.inr rfl,e⟩
def bf2 (nm:Nms)(ks:List Str)(n:Int):Nms:=ks.foldl (fun m k=>at6 m k n) nm
theorem ej1 {n:Int}:∀ {ks:List Str} {nm:Nms},KN nm->KN (bf2 nm ks n)
 | [],_,h=>h
 | _::ks,_,h=>ej1 (ks:=ks) (ao6 h)
theorem dc8 {n:Int}:∀ (ks:List Str) {nm nm':Nms},KN nm->nm.Perm nm'->(bf2 nm ks n).Perm (bf2 nm' ks n)
 | [],_,_,_,p=>p
 | _::ks,_,_,h,p=>dc8 ks (ao6 h) (bx3 h p)
theorem ej2 {n:Int}{ks js:List Str}(p:ks.Perm js):∀ {nm:Nms},KN nm->(bf2 nm ks n).Perm (bf2 nm js n):=by
 induction p with
 | nil=>intro nm _; exact .refl _
 | cons x _ ih=>intro nm h; exact ih (ao6 h)
 | swap x y l=>intro nm h; exact dc8 l (ao6 (ao6 h)) (fx5 h)
 | trans p1 _ ih1 ih2=>intro nm h; exact (ih1 h).trans (ih2 h)
theorem et6 (nm:Nms)(ks:List Str)(k:Str)(n:Int):bf2 nm (ks++[k]) n=at6 (bf2 nm ks n) k n:=by simp[bf2]
def ax3 (l:List Str)(k:Str):List Str:=if k∈l then l else l++[k]
def dc9 (p:aa3):List Str:=p.files.foldl ax3 ((p.provides.map (·.name)).foldl ax3 [p.name])
def aw6 (nm:Nms)(ds:List Str)(n:Int):Nms:=ds.foldl (fun m k=>if n∈ae8 m k then m else at6 m k n) nm
theorem ct2 (nm:Nms)(ks:List Str)(k:Str)(n:Int):aw6 nm (ks++[k]) n=if n∈ae8 (aw6 nm ks n) k then aw6 nm ks n else at6 (aw6 nm ks n) k n:=by
 unfold aw6; rw[List.foldl_append]; rfl
structure Index where
 all:List aa3
 ax9:Nms
 names:Nms
 over:Nms
def Index.v (x:Index):IV:=.ab8 [.aa4 (x.all.map aa3.cs),.an9 (nmV x.ax9),.an9 (nmV x.names),.an9 (nmV x.over)]
def ej3 (x:Index)(n:Nat)(p:aa3):Index:=⟨x.all++[p],bf2 x.ax9 (dc9 p) n,at6 x.names p.name n,aw6 x.over (p.aa7.map (·.name)) n⟩
def idxFrom (x:Index):Nat->List aa3->Index
 | _,[]=>x
 | n,p::ps=>idxFrom (ej3 x n p) (n+1) ps
def aj2 (l:List aa3):Index:=idxFrom ⟨[],[],[],[]⟩ 0 l
theorem ej4 (ps:List aa3)(p:aa3):∀ (x:Index) (n:Nat),idxFrom x n (ps++[p])=ej3 (idxFrom x n ps) (n+ps.length) p:=by
 induction ps with
 | nil=>intro x n; rfl
 | cons q qs ih=>intro x n; show idxFrom _ (n+1) (qs++[p])=_; rw[ih,zm]; congr 1; omega
theorem fx6 (L:NmL)(k:Str):ae8 (be8 L) k=ch2 L k:=by
 induction L with
 | nil=>rfl
 | cons t ts ih=>
  simp only[be8,zc,ae8,ch2,qf] at ih ⊢;by_cases h:k=t.1
  ·simp[h]
  ·simp only[h,decide_false,if_false] at ih ⊢;exact ih
end Go.Id.Md
namespace Go.Id.Md
open Go Go.Id
def numsOf (q:aa3->Bool)(l:List aa3):List Int:=((zn l.length).filter fun n=>q (l.getD n default)).map fun (n:Nat)=>(n:Int)
theorem az7 (q:aa3->Bool)(l:List aa3)(p:aa3):numsOf q (l++[p])=numsOf q l++if q p then [(l.length:Int)] else []:=by
 unfold numsOf;rw[zb,ql,zk,qa,zx];congr 1
 ·congr 1;refine qc fun n hn=>?_
  have h:=ze.1 hn;simp[zh,List.getElem?_append,h]
 ·have e:(l++[p]).getD l.length default=p:=by simp[zh]
  simp only[List.filter_cons,List.filter_nil,e];split<;>rfl
theorem ao3 {q:aa3->Bool}{l:List aa3}{n:Int}:n∈numsOf q l↔∃ m:Nat,n=m/\m<l.length/\q (l.getD m default)=true:=by
 unfold numsOf;rw[zt];constructor
 ·rintro ⟨m,hm,rfl⟩;obtain ⟨h1,h2⟩:=z4.1 hm;exact ⟨m,rfl,ze.1 h1,h2⟩
 ·rintro ⟨m,rfl,h1,h2⟩;exact ⟨m,z4.2 ⟨ze.2 h1,by simpa using h2⟩,rfl⟩
theorem aj3 (q:aa3->Bool)(l:List aa3):(numsOf q l).length<=l.length:=by
 unfold numsOf;rw[zy];exact zv (z0 _ _) (by simp)
theorem cd9 (q r:aa3->Bool)(l:List aa3):(numsOf q l).filter (fun n=>r (l.getD n.toNat default))=numsOf (fun p=>q p&&r p) l:=by
 unfold numsOf;rw[List.filter_map,List.filter_filter];congr 1;refine qc fun n _=>?_
 show (r (l.getD ((n:Int)).toNat default)&&q (l.getD n default))=_;rw[qd,Bool.and_comm]
theorem ct3 {q r:aa3->Bool}{l:List aa3}(h:∀ p∈l,q p=r p):numsOf q l=numsOf r l:=by
 unfold numsOf;congr 1;refine qc fun n hn=>?_
 have hlt:=ze.1 hn;refine h _ ?_;rw[zh,List.getElem?_eq_getElem hlt];exact List.getElem_mem hlt
theorem et7 {n:Int}:∀ (ks:List Str) {nm:Nms},KN nm->ks.Nodup->∀ j,ae8 (bf2 nm ks n) j=ae8 nm j++if j∈ks then [n] else []:=by
 intro ks
 induction ks with
 | nil=>intro nm _ _ j; simp[bf2]
 | cons k ks ih=>
  intro nm h hnd j;obtain ⟨h1,h2⟩:=zi.1 hnd;show ae8 (bf2 (at6 nm k n) ks n) j=_;rw[ih (ao6 h) h2,bk9 h];by_cases e:j=k
  ·subst e; simp[h1]
  ·simp[e]
theorem fx7 {n:Int}:∀ (ks:List Str) {nm:Nms},KN nm->KN (aw6 nm ks n):=by
 intro ks
 induction ks with
 | nil=>intro nm h; exact h
 | cons k ks ih=>
  intro nm h;show KN (aw6 (if n∈ae8 nm k then nm else at6 nm k n) ks n);split
  ·exact ih h
  ·exact ih (ao6 h)
theorem ej5 {n:Int}:∀ (ks:List Str) {nm:Nms},KN nm->∀ j,ae8 (aw6 nm ks n) j=ae8 nm j++if j∈ks/\n ∉ ae8 nm j then [n] else []:=by
 intro ks
 induction ks with
 | nil=>intro nm _ j; simp[aw6]
 | cons k ks ih=>
  intro nm h j;show ae8 (aw6 (if n∈ae8 nm k then nm else at6 nm k n) ks n) j=_;by_cases hk:n∈ae8 nm k
  ·rw[if_pos hk,ih h];by_cases e:j=k
   ·subst e; simp[hk]
   ·simp[e]
  ·rw[if_neg hk,ih (ao6 h),bk9 h];by_cases e:j=k
   ·subst e; simp[hk]
   ·simp[e]
theorem fx8 {l:List Str}{k j:Str}:j∈ax3 l k↔j∈l\/j=k:=by
 unfold ax3;split
 ·rename_i h; exact ⟨.inl,fun h'=>h'.elim id fun e=>e▸h⟩
 ·simp
theorem dd2 {j:Str}:∀ (ks l:List Str),j∈ks.foldl ax3 l↔j∈l\/j∈ks:=by
 intro ks
 induction ks with
 | nil=>intro l; simp
 | cons k ks ih=>intro l; rw[List.foldl_cons,ih,fx8,zd,or_assoc]
theorem fx9 {l:List Str}(h:l.Nodup)(k:Str):(ax3 l k).Nodup:=by
 unfold ax3;split
 ·exact h
 ·rename_i hk;rw[zj];exact ⟨h,by simp,fun a ha b hb e=>by simp at hb; subst hb; subst e; exact hk ha⟩
theorem ca4:∀ (ks:List Str) {l:List Str},l.Nodup->(ks.foldl ax3 l).Nodup
 | [],_,h=>h
 | k::ks,_,h=>ca4 ks (fx9 h k)
theorem ht6 (p:aa3):(dc9 p).Nodup:=ca4 _ (ca4 _ (by simp))
theorem ht7 (p:aa3)(j:Str):j∈dc9 p↔j=p.name\/(∃ d∈p.provides,d.name=j)\/j∈p.files:=by
 unfold dc9;rw[dd2,dd2];simp[or_assoc]
structure et8 (x:Index) (l:List aa3):Prop where
 all:x.all=l
 kp:KN x.ax9
 kn:KN x.names
 ko:KN x.over
 ax9:∀ j,ae8 x.ax9 j=numsOf (fun p=>decide (j∈dc9 p)) l
 names:∀ j,ae8 x.names j=numsOf (fun p=>decide (p.name=j)) l
 over:∀ j,ae8 x.over j=numsOf (fun p=>decide (∃ d∈p.aa7,d.name=j)) l
theorem et8.add {x:Index}{l:List aa3}(h:et8 x l)(p:aa3):et8 (ej3 x l.length p) (l++[p]) where
 all:=by show x.all++[p]=_; rw[h.all]
 kp:=ej1 h.kp
 kn:=ao6 h.kn
 ko:=fx7 _ h.ko
 ax9:=fun j=>by
  show ae8 (bf2 x.ax9 (dc9 p) _) j=_;rw[et7 _ h.kp (ht6 p),h.ax9,az7];simp
 names:=fun j=>by
  show ae8 (at6 x.names p.name _) j=_;rw[bk9 h.kn,h.names,h.names,az7];by_cases e:j=p.name
  ·subst e; simp
  ·have e':¬ p.name=j:=fun h=>e h.symm
   simp[e,e']
 over:=fun j=>by
  show ae8 (aw6 x.over _ _) j=_;rw[ej5 _ h.ko,h.over,az7]
  have hn:(l.length:Int) ∉ numsOf (fun p=>decide (∃ d∈p.aa7,d.name=j)) l:=fun hm=>by
   obtain ⟨m,e,h1,_⟩:=ao3.1 hm;omega
  simp[hn]
theorem fy1:∀ (ps:List aa3) {x:Index} {l:List aa3},et8 x l->et8 (idxFrom x l.length ps) (l++ps):=by
 intro ps
 induction ps with
 | nil=>intro x l h; rw[qg]; exact h
 | cons p ps ih=>
  intro x l h;have:=ih (h.add p);rw[List.append_assoc] at this
  simpa [idxFrom] using this
theorem bn5 (l:List aa3):et8 (aj2 l) l:=by
 have h0:et8 ⟨[],[],[],[]⟩ []:=⟨rfl,z9,z9,z9,fun _=>by simp[ae8,numsOf],fun _=>by simp[ae8,numsOf],fun _=>by simp[ae8,numsOf]⟩;exact fy1 l h0
theorem ej6 {p:aa3}{d:Dep}(h:named p d=true):p.name=d.name:=by
 unfold named meets own at h;simp only[za,decide_eq_true_eq] at h;exact h.1
theorem ej7 {p:aa3}{d:Dep}(h:provides p d=true):d.name∈dc9 p:=by
 unfold provides at h;rw[ht7];simp only[Bool.or_eq_true,za,decide_eq_true_eq,z2] at h;rcases h with (h|⟨a,ha,h⟩)|⟨_,h⟩
 ·exact .inl (ej6 h).symm
 ·unfold meets at h;simp only[za,decide_eq_true_eq] at h;exact .inr (.inl ⟨a,ha,h.1⟩)
 ·exact .inr (.inr (by simpa using h))
def aj7 (l:List aa3)(d:Dep):List Int:=numsOf (fun p=>provides p d) l
def am3 (l:List aa3)(d:Dep):List Int:=numsOf (fun p=>named p d) l
theorem ej8 (l:List aa3)(d:Dep):(ae8 (aj2 l).ax9 d.name).filter (fun n=>provides (l.getD n.toNat default) d)=aj7 l d:=by
 rw[(bn5 l).ax9];refine (cd9 (fun p=>decide (d.name∈dc9 p)) (fun p=>provides p d) l).trans ?_
 exact ct3 fun p _=>by
  cases h:provides p d with
  | false=>simp
  | true=>simp[ej7 h]
theorem fd8 (l:List aa3)(d:Dep):(ae8 (aj2 l).names d.name).filter (fun n=>named (l.getD n.toNat default) d)=am3 l d:=by
 rw[(bn5 l).names];refine (cd9 (fun p=>decide (p.name=d.name)) (fun p=>named p d) l).trans ?_
 exact ct3 fun p _=>by
  cases h:named p d with
  | false=>simp
  | true=>simp[ej6 h]
end Go.Id.Md
namespace Go.Id.Md
open Go Go.Id
mutual
def aa6.ok:aa6->Prop
 | .mk k d xs=>0<=k/\k<256/\d.fit/\xs.length<2^62/\aa6.oks xs
def aa6.oks:List aa6->Prop
 | []=>True
 | r::rs=>r.ok/\aa6.oks rs
end
theorem aa6.iu2 (l:List aa6):aa6.oks l↔∀ r∈l,r.ok:=by
 induction l with
 | nil=>simp[aa6.oks]
 | cons r rs ih=>simp[aa6.oks,ih]
theorem aa6.fy2 {k:Int}{d:Dep}{xs:List aa6}:(aa6.mk k d xs).ok↔0<=k/\k<256/\d.fit/\xs.length<2^62/\∀ r∈xs,r.ok:=by
 simp only[aa6.ok,aa6.iu2]
structure aa3.Ok (p:aa3):Prop where
 name:p.name.length<2^62
 vendor:p.vendor.length<2^62
 evr:p.evr.fit
 ax9:p.provides.length<2^62/\∀ d∈p.provides,d.fit
 obs:p.aa7.length<2^62/\∀ d∈p.aa7,d.fit
 files:p.files.length<2^62/\∀ s∈p.files,s.length<2^62
 rich:∀ x∈p.rows,x.2.length<2^62/\∀ r∈x.2,r.ok
def ao2.Ok (r:ao2):Prop:=r.packages.length<2^62/\∀ p∈r.packages,p.Ok
def big (d:Dep):Bool:=decide (500<d.name.length+d.evr.ver.length)||decide (500<d.evr.rel.length)
mutual
def ce1:aa6->Nat->Nat×Bool
 | .mk _ _ xs,deep=>if 20<deep\/100<xs.length then (0,true) else cv7 xs deep 0
def cv7:List aa6->Nat->Nat->Nat×Bool
 | [],_,n=>(n,false)
 | r::rs,deep,n=>if big r.dep=true then (0,true) else
  if (ce1 r (deep+1)).2=true\/2000<n+1+(ce1 r (deep+1)).1 then (0,true) else cv7 rs deep (n+1+(ce1 r (deep+1)).1)
end
def cv8 (l:List aa6)(deep:Nat):Nat×Bool:=if 20<deep\/100<l.length then (0,true) else cv7 l deep 0
theorem dr3 (r:aa6)(deep:Nat):ce1 r deep=cv8 r.args deep:=by
 cases r; simp only[ce1,cv8,aa6.args]; rfl
def ce2:List (List aa6)->Nat->Bool
 | [],_=>false
 | l::ls,n=>if (cv8 l 0).2=true\/2000<n+(cv8 l 0).1 then true else ce2 ls (n+(cv8 l 0).1)
def br4 (p:aa3):List (List aa6):=[p.requires,p.conflicts,p.ac6,p.ac1,p.suggests,p.af4]
def ax4 (p:aa3):Bool :=
 decide (100<p.provides.length)||(decide (100<p.aa7.length)||(decide (100<p.files.length)||(decide (1000<p.name.length)||(decide (1000<p.vendor.length)||(decide (1000<p.evr.ver.length)||(decide (1000<p.evr.rel.length)||ce2 (br4 p) 0))))))
theorem hu4:∀ (l:List aa6) (deep n:Nat),n<=2000->(cv7 l deep n).1<=2000:=by
 intro l
 induction l with
 | nil=>intro deep n h; simpa [cv7] using h
 | cons r rs ih=>
  intro deep n h;simp only[cv7];split
  ·omega
  split
  ·omega
  ·exact ih _ _ om
theorem fd9 (l:List aa6)(deep:Nat):(cv8 l deep).1<=2000:=by
 unfold cv8;split
 ·omega
 ·exact hu4 _ _ _ om
def bf3:Nat->List ao2->List bh7
 | _,[]=>[]
 | i,r::rs=>rowsOf r.packages i r.priority++bf3 (i+1) rs
theorem dh5:∀ (rs:List ao2) (i:Nat) (st:List bh7×Nms) (out:List bh7×Nms),ah3 i rs st=some out->out.1=st.1++bf3 i rs:=by
 intro rs
 induction rs with
 | nil=>intro i st out h; simp only[ah3,Option.some.injEq] at h; subst h; simp[bf3]
 | cons r rs ih=>
  intro i st out h;simp only[ah3] at h;split at h
  ·cases h
  ·rw[ih _ _ _ h]; simp[bf3]
theorem cx5 {repos:List ao2}{inst:List aa3}{p:Pool}(h:by3 repos inst=.inl p):p.rows=rowsOf inst (-1) 1025++bf3 0 repos/\p.inst=inst.length:=by
 unfold by3 at h;split at h
 ·cases h
 split at h
 ·cases h
 split at h
 ·rename_i rows nm hr;cases h;exact ⟨dh5 _ _ _ _ hr,rfl⟩
 ·cases h
theorem hu5 {repos:List ao2}{inst:List aa3}{e:Int}(h:by3 repos inst=.inr e):e=40\/e=4:=by
 unfold by3 at h;split at h
 ·cases h; exact .inl rfl
 split at h
 ·cases h; exact .inr rfl
 split at h
 ·cases h
 ·cases h; exact .inr rfl
end Go.Id.Md
namespace Go.Id.Md
open Go Go.Id
theorem dy2:∀ (rs:List ao2) (i:Nat) (st:List bh7×Nms) (out:List bh7×Nms),ah3 i rs st=some out->∀ r∈rs,r.packages.all ah4=true:=by
 intro rs
 induction rs with
 | nil=>intro i st out _ r hr; cases hr
 | cons x xs ih=>
  intro i st out h r hr;simp only[ah3] at h;split at h
  ·cases h
  ·rename_i hc;rcases zd.1 hr with rfl|hr
   ·cases hb:r.packages.all ah4 with
    | true=>rfl
    | false=>exact absurd (.inr (.inr hb)) hc
   ·exact ih _ _ _ h r hr
theorem cq3 {repos:List ao2}{inst:List aa3}{p:Pool}(h:by3 repos inst=.inl p):repos.length<=16/\inst.length+am4 repos<=256/\inst.all ah4=true/\∀ r∈repos,r.packages.all ah4=true:=by
 unfold by3 at h;split at h
 ·cases h
 rename_i hc;split at h
 ·cases h
 rename_i hm;split at h
 ·rename_i rows nm hr;exact ⟨om,om,by simpa using hm,dy2 _ _ _ _ hr⟩
 ·cases h
theorem dr4 (l:List aa3)(a b:Int):(rowsOf l a b).map (·.pkg)=l:=by
 induction l with
 | nil=>rfl
 | cons x xs ih=>show x::(rowsOf xs a b).map (·.pkg)=_; rw[ih]
def af6 (p:Pool):List aa3:=p.rows.map (·.pkg)
theorem dy3:∀ (rs:List ao2) (i:Nat),(bf3 i rs).map (·.pkg)=rs.flatMap (·.packages):=by
 intro rs
 induction rs with
 | nil=>intro i; rfl
 | cons r rs ih=>intro i; simp only[bf3,zx,ih,dr4,z8]
theorem go9:∀ (rs:List ao2),(rs.flatMap (·.packages)).length=am4 rs:=by
 intro rs
 induction rs with
 | nil=>rfl
 | cons r rs ih=>simp only[z8,zb,ih]; rfl
theorem ce3 {repos:List ao2}{inst:List aa3}{p:Pool}(h:by3 repos inst=.inl p):af6 p=inst++repos.flatMap (·.packages):=by
 unfold af6;rw[(cx5 h).1,zx,dy3];congr 1;exact dr4 _ _ _
theorem fe1 {repos:List ao2}{inst:List aa3}{p:Pool}(h:by3 repos inst=.inl p):p.rows.length<=256:=by
 have e:p.rows.length=(af6 p).length:=by simp[af6]
 rw[e,ce3 h,zb,go9];exact (cq3 h).2.1
theorem fe2 {repos:List ao2}{inst:List aa3}{p:Pool}(h:by3 repos inst=.inl p):∀ x∈af6 p,ah4 x=true/\(x∈inst\/∃ r∈repos,x∈r.packages):=by
 intro x hx;rw[ce3 h] at hx;obtain ⟨_,_,h1,h2⟩:=cq3 h;rcases zl.1 hx with hx|hx
 ·exact ⟨z3.1 h1 x hx,.inl hx⟩
 ·obtain ⟨r,hr,hxr⟩:=zf.1 hx;exact ⟨z3.1 (h2 r hr) x hxr,.inr ⟨r,hr,hxr⟩⟩
def EVR.tiny (e:EVR):Prop:=e.ver.length<=64/\e.rel.length<=64
theorem fe3 {s:Str}(h:bb3 s=true):s.length<=64:=by
 unfold bb3 at h;simp only[za,decide_eq_true_eq] at h;exact h.1.2
theorem fe4 {e:EVR}{b:Bool}(h:bh6 e b=true):e.tiny:=by
 unfold bh6 at h;simp only[za,Bool.or_eq_true,decide_eq_true_eq] at h;refine ⟨fe3 h.1.2,?_⟩;rcases h.2 with h|h
 ·exact fe3 h
 ·have:=List.isEmpty_iff.1 h.2; rw[this]; exact Nat.zero_le _
theorem dy4 {d:Dep}(h:ai4 d=true):0<=d.op/\d.op<256/\d.evr.tiny/\d.name.length<=64:=by
 unfold ai4 at h;simp only[za] at h;obtain ⟨⟨h1,h2⟩,h3⟩:=h
 have hn:d.name.length<=64:=by
  unfold au6 at h1;simp only[za,decide_eq_true_eq] at h1;exact h1.1.1.2
 have ho:0<=d.op/\d.op<256:=by
  unfold dx4 at h2;simp only[List.contains_iff_mem,zd,List.not_mem_nil,or_false] at h2;omega
 refine ⟨ho.1,ho.2,?_,hn⟩;split at h3
 ·have:d.evr=gc7:=by simpa using h3
  rw[this]; exact ⟨by decide,by decide⟩
 ·simp only[za] at h3;exact fe4 h3.2
structure aa3.Tiny (p:aa3):Prop where
 name:p.name.length<=64
 evr:p.evr.tiny
 ax9:p.provides.length<=32/\∀ d∈p.provides,0<=d.op/\d.op<256/\d.evr.tiny/\d.name.length<=64
 obs:p.aa7.length<=32/\∀ d∈p.aa7,0<=d.op/\d.op<256/\d.evr.tiny/\d.name.length<=64
 files:p.files.length<=32
theorem fe5 {p:aa3}(h:ah4 p=true):p.Tiny:=by
 unfold ah4 at h;simp only[za,decide_eq_true_eq] at h;obtain ⟨⟨⟨⟨⟨⟨⟨⟨⟨⟨⟨⟨⟨⟨h1,_⟩,h3⟩,_⟩,_⟩,h6,h6'⟩,h7,h7'⟩,h8,_⟩,_⟩,_⟩,_⟩,_⟩,_⟩,_⟩,_⟩:=h;refine ⟨?_,fe4 h3,⟨h6,fun d hd=>dy4 (z3.1 h6' d hd)⟩,⟨h7,fun d hd=>dy4 (z3.1 h7' d hd)⟩,h8⟩;unfold au6 at h1;simp only[za,decide_eq_true_eq] at h1;exact h1.1.1.2
end Go.Id.Md
namespace Go.Id.Md
open Go Go.Id
structure Job where
 kind:Int
 dep:Dep
 deriving DecidableEq,Inhabited
structure bb4 where
 kind:Int
 n:Int
 deriving DecidableEq,Inhabited
structure Req where
 ap9:Int
 vendor:Bool
 ag6:List Job
 ah6:List bb4
 budget:Int
def Job.cs (j:Job):List IV:=[.int .u8 j.kind,.str j.dep.name,.int .u8 j.dep.op,.int .i64 j.dep.evr.ai5,.str j.dep.evr.ver,.str j.dep.evr.rel]
def bb4.cs (e:bb4):List IV:=[.int .u8 e.kind,.int .i64 e.n]
abbrev az8 (l:List Job):IV:=.aa4 (l.map Job.cs)
abbrev aq1 (l:List bb4):IV:=.aa4 (l.map bb4.cs)
def Req.cs (r:Req):List IV:=[.int .u8 r.ap9,.bool r.vendor,az8 r.ag6,aq1 r.ah6,.int .i64 r.budget]
def bd4 (q:Nat->Bool)(k:Nat):List Int:=((zn k).filter q).map fun (n:Nat)=>(n:Int)
theorem dr5 (q:Nat->Bool)(k:Nat):bd4 q (k+1)=bd4 q k++if q k then [(k:Int)] else []:=by
 unfold bd4;rw[zk,qa,zx];congr 1;simp only[List.filter_cons,List.filter_nil];split<;>rfl
theorem ce4 {q:Nat->Bool}{k:Nat}{n:Int}:n∈bd4 q k↔∃ m:Nat,n=m/\m<k/\q m=true:=by
 unfold bd4;rw[zt];constructor
 ·rintro ⟨m,hm,rfl⟩;obtain ⟨h1,h2⟩:=z4.1 hm;exact ⟨m,rfl,ze.1 h1,h2⟩
 ·rintro ⟨m,rfl,h1,h2⟩;exact ⟨m,z4.2 ⟨ze.2 h1,h2⟩,rfl⟩
theorem br5 (q:Nat->Bool)(k:Nat):(bd4 q k).length<=k:=by
 unfold bd4;rw[zy];exact zv (z0 _ _) (by simp)
theorem hu6 (q:Nat->Bool)(k:Nat):(bd4 q k).Pairwise (· < ·):=by
 unfold bd4;refine qj.map (R:=fun (a b:Nat)=>a<b) _ (fun a b h=>by show (a:Int)<b; omega) ?_;exact qj.filter _ List.pairwise_lt_range
def bi9 (a:Int):Bool:=al7 a&&!decide (a=1)
def ce5 (a b:Int):Bool:=bi9 a&&bi9 b&&!decide (a=b)
def ay2 (a b:Int):Bool:=al7 a&&al7 b&&!ce5 a b
def bb5 (m a:Int):Int :=
 if m=2 then (if a=1 then 2 else if a=2 then 1 else if a=3 then 3 else 0) else
 if m=3 then (if a=1 then 2 else if a=3 then 1 else 0) else
 if m=4 then (if a=1 then 2 else if a=4 then 1 else 0) else 0
def hu7 (m a:Int):Bool:=decide (0<bb5 m a)
structure ab4 where
 p:Pool
 r:Req
namespace ab4
variable (a:ab4)
def l:List aa3:=af6 a.p
def pk (n:Int):aa3:=a.l.getD n.toNat default
def jb (n:Int):Job:=a.r.ag6.getD n.toNat default
def is (n:Int):Bool:=decide (0<=n)&&decide (n<a.l.length)
def inst (n:Int):Bool:=a.is n&&decide (n<a.p.inst)
def job (n:Int):Bool:=decide (0<=n)&&decide (n<a.r.ag6.length)
def fits (n:Int):Bool:=a.is n&&hu7 a.r.ap9 (a.pk n).ap9
def fe6 (p q:aa3):Bool:=decide (p.name=q.name)&&!(ce5 p.ap9 q.ap9&&decide (ar5 p.evr q.evr=0))
def twins (n m:Int):Bool:=a.is n&&a.is m&&!decide (n=m)&&fe6 (a.pk n) (a.pk m)
def bc7 (k n:Int):Bool:=decide ((⟨k,n⟩:bb4)∈a.r.ah6)
def dropped (n:Int):Bool:=a.job n&&a.bc7 1 n
def az9 (k n:Int):Bool:=(zn a.r.ag6.length).any fun i=>decide ((a.jb i).kind=k)&&!a.dropped i&&decide (n∈am3 a.l (a.jb i).dep)
def goes (i:Int):Bool:=a.inst i&&(a.az9 2 i||a.bc7 2 i)
def dy5 (vendor down other:Bool)(old q:aa3):Bool:=decide (q.name=old.name)&&(down||decide (0<=ar5 q.evr old.evr))&&(other||ay2 q.ap9 old.ap9)&&(vendor||decide (q.vendor=old.vendor))
def jq8 (i:Int)(q:aa3):Bool:=dy5 a.r.vendor (a.bc7 3 i||a.az9 4 i) (a.bc7 4 i) (a.pk i) q
def au9 (i:Int):List Int:=if a.inst i then bd4 (fun n=>decide ((n:Int)=i)||a.jq8 i (a.pk n)||(!decide ((n:Int)=i)&&aa7 (a.pk n) (a.pk i))) a.l.length else []
def ch4 (i:Int):List Int:=(a.au9 i).filter fun n=>!(a.inst n || !a.fits n)
def meant (j:Int):List Int:=if a.job j then (if (a.jb j).kind=1 then aj7 a.l (a.jb j).dep else if (a.jb j).kind=2 then am3 a.l (a.jb j).dep else (am3 a.l (a.jb j).dep).filter fun n=>a.inst n) else []
def some (state l:List Int):Bool:=l.any fun n=>decide (n∈state)
def aw7 (j:Int)(state:List Int):Bool:=!a.job j ||
 if (a.jb j).kind=1 then some state (a.meant j) else if (a.jb j).kind=2 then !some state (a.meant j) else
 if (a.jb j).kind=3 then !(a.meant j).any fun i=>!some state (a.au9 i) else
 !(a.meant j).any fun i=>decide (0<(a.ch4 i).length)&&!some state (a.ch4 i)
def cs:List IV:=[a.p.v,(aj2 a.l).v,.int .u8 a.r.ap9,.bool a.r.vendor,az8 a.r.ag6,aq1 a.r.ah6,.int .i64 a.r.budget,.aa4 (a.l.map aa3.cs)]
def v:IV:=.ab8 a.cs
end ab4
def aw8 (e:bb4)(ag6 inst:Int):Bool:=decide (1<=e.kind)&&decide (e.kind<=4)&&decide (0<=e.n)&&decide (e.n<if e.kind=1 then ag6 else inst)
def bb6 (j:Job):Bool:=decide (1<=j.kind)&&decide (j.kind<=4)&&ai4 j.dep
def am5 (r:Req)(inst:Int):Int :=
 if bi9 r.ap9=false\/r.budget<0\/1099511627776<r.budget then 1 else
 if 64<r.ag6.length\/64<r.ah6.length then 40 else
 if r.ag6.all bb6=false then 4 else
 if r.ah6.all (fun e=>aw8 e r.ag6.length inst)=false then 5 else 0
def jc9 (p:Pool)(r:Req):IV:=if am5 r p.inst=0 then .tuple [(ab4.mk p r).v,.int .i64 0] else .tuple [.af3,.int .i64 (am5 r p.inst)]
theorem cx6 (a b:Int):at5 b a=- at5 a b:=by
 unfold at5; split<;>split<;>(try split)<;>(try split)<;>omega
theorem bf4 {a b:Int}:at5 a b=0↔a=b:=by
 unfold at5;split
 ·constructor
  ·intro h; omega
  ·intro h; omega
 ·split
  ·simp_all
  ·constructor
   ·intro h; omega
   ·intro h; contradiction
theorem cx7:∀ (x y:List UInt8),Op.bytesLess x y=decide (x<y)
 | [],[]=>by simp[Op.bytesLess]
 | _::_,[]=>by simp[Op.bytesLess]
 | [],_::_=>by simp[Op.bytesLess]
 | a::x,b::y=>by
  simp only[Op.bytesLess,cx7 x y,List.cons_lt_cons_iff];by_cases h:a<b
  ·simp[h]
  ·by_cases h2:a=b
   ·subst h2; simp
   ·simp[h,h2]
theorem jk3 (a b:Str):Op.bytesLess a b=true/\Op.bytesLess b a=false/\a≠b\/a=b/\Op.bytesLess a b=false\/Op.bytesLess b a=true/\Op.bytesLess a b=false/\a≠b:=by
 simp only[cx7,decide_eq_true_eq,decide_eq_false_iff_not];rcases qr (a<b) with h|h
 ·exact .inl ⟨h,fun h2=>List.lt_asymm h h2,fun e=>List.lt_irrefl a (by rw[<- e] at h; exact h)⟩
 ·rcases qr (b<a) with h2|h2
  ·exact .inr (.inr ⟨h2,h,fun e=>List.lt_irrefl a (by rw[<- e] at h2; exact h2)⟩)
  ·exact .inr (.inl ⟨List.le_antisymm (qm.1 h2) (qm.1 h),h⟩)
theorem fe7 (a b:Str):cp9 b a=- cp9 a b:=by
 unfold cp9;rcases jk3 a b with ⟨h1,h2,h3⟩|⟨rfl,h⟩|⟨h1,h2,h3⟩
 ·rw[h1,h2,if_neg (by simp),if_neg (fun e=>h3 e.symm),if_pos rfl]; rfl
 ·rw[h]; simp
 ·rw[h1,h2,if_pos rfl,if_neg (by simp),if_neg h3]
theorem dd4 (a b:Part):af9 b a=- af9 a b:=by
 unfold af9;simp only[cx6 (a.kind:Int) b.kind,cx6 (a.s.length:Int) b.s.length,fe7 a.s b.s];have e:(b.kind=5/\a.kind=5)↔(a.kind=5/\b.kind=5):=And.comm;by_cases h1:at5 (a.kind:Int) b.kind=0
 ·simp only[h1,Int.neg_zero,ne_eq,not_true_eq_false,if_false,e];by_cases h2:a.kind=5/\b.kind=5
  ·simp only[h2,and_self,if_true];by_cases h3:at5 (a.s.length:Int) b.s.length=0
   ·simp[h3]
   ·have h4:¬ - at5 (a.s.length:Int) b.s.length=0:=om
    simp[h3,h4]
  ·simp[h2]
 ·have h2:¬ - at5 (a.kind:Int) b.kind=0:=om
  simp[h1,h2]
theorem ek1:∀ (a b:List Part),ah2 b a=- ah2 a b:=by
 intro a
 induction a with
 | nil=>intro b; cases b<;>rfl
 | cons x a ih=>
  intro b
  cases b with
  | nil=>rfl
  | cons y b=>
   simp only[ah2,dd4 x y];by_cases h:af9 x y=0
   ·simp[h,ih b]
   ·have h2:¬ - af9 x y=0:=om
    simp[h,h2]
theorem cq4 (a b:Str):aq6 b a=- aq6 a b:=ek1 _ _
theorem fy3 (a b:EVR):ar5 b a=- ar5 a b:=by
 unfold ar5;rw[cx6 a.ai5 b.ai5,cq4 a.ver b.ver,cq4 a.rel b.rel];by_cases h1:at5 a.ai5 b.ai5=0
 ·by_cases h2:aq6 a.ver b.ver=0
  ·simp only[h1,h2,Int.neg_zero,ne_eq,not_true_eq_false,if_false];by_cases h3:a.rel=[]\/b.rel=[]
   ·rw[if_pos h3,if_pos h3.symm]; rfl
   ·rw[if_neg h3,if_neg (fun h=>h3 h.symm)]
  ·have h3:¬ - aq6 a.ver b.ver=0:=om
   simp[h1,h2,h3]
 ·have h3:¬ - at5 a.ai5 b.ai5=0:=om
  simp[h1,h3]
namespace ab4
variable (a:ab4)
theorem jk4 (n:Nat):a.is n=decide (n<a.l.length):=by
 unfold is;have:(0:Int)<=n:=om
 simp only[this,decide_true,Bool.true_and];exact decide_eq_decide.2 om
theorem ce6 (i:Int):(a.au9 i).length<=a.l.length:=by
 unfold au9;split
 ·exact br5 _ _
 ·exact Nat.zero_le _
theorem hu8 (i:Int):(a.ch4 i).length<=a.l.length:=zv (z0 _ _) (a.ce6 i)
end ab4
end Go.Id.Md
namespace Go.Id.Md
open Go Go.Id
structure WO {α:Type} (S:α->Prop) (f:α->α->Int):Prop where
 neg:∀ a b,f b a=- f a b
 tr:∀ a b c,S a->S b->S c->f a b<=0->f b c<=0->f a c<=0
def lex (x y:Int):Int:=if x=0 then y else x
theorem iu3 (x y:Int):lex (-x) (-y)=- lex x y:=by unfold lex; split<;>split<;>omega
theorem WO.lex {α:Type}{S:α->Prop}{f g:α->α->Int}(hf:WO S f)(hg:WO S g):WO S fun a b=>Md.lex (f a b) (g a b) where
 neg:=fun a b=>by show Md.lex (f b a) (g b a)=_; rw[hf.neg,hg.neg,iu3]
 tr:=fun a b c sa sb sc h1 h2=>by
  have k1:=hf.tr a b c sa sb sc;have k2:=hf.tr c a b sc sa sb;have k3:=hf.tr b c a sb sc sa;have k4:=hg.tr a b c sa sb sc;have n1:=hf.neg a b;have n2:=hf.neg b c;have n3:=hf.neg a c;unfold Md.lex at *;split at h1<;>split at h2<;>split<;>omega
theorem WO.of {α β:Type}{S:β->Prop}{f:β->β->Int}(hf:WO S f)(g:α->β):WO (fun a=>S (g a)) fun a b=>f (g a) (g b) where
 neg:=fun a b=>hf.neg _ _
 tr:=fun a b c sa sb sc=>hf.tr _ _ _ sa sb sc
theorem WO.flip {α:Type}{S:α->Prop}{f:α->α->Int}(hf:WO S f):WO S fun a b=>f b a where
 neg:=fun a b=>hf.neg b a
 tr:=fun a b c sa sb sc h1 h2=>hf.tr c b a sc sb sa h2 h1
theorem WO.sub {α:Type}{S T:α->Prop}{f:α->α->Int}(hf:WO S f)(h:∀ a,T a->S a):WO T f:=⟨hf.neg,fun a b c sa sb sc=>hf.tr a b c (h a sa) (h b sb) (h c sc)⟩
theorem fe8:WO (fun _=>True) at5 where
 neg:=fun a b=>cx6 a b
 tr:=fun a b c _ _ _ h1 h2=>by
  unfold at5 at *;split at h1<;>split at h2<;>split<;>(try split at h1)<;>(try split at h2)<;>(try split)<;>omega
theorem eu1 {a b:Str}:cp9 a b<=0↔a<=b:=by
 unfold cp9;rcases jk3 a b with ⟨h1,h2,h3⟩|⟨rfl,h⟩|⟨h1,h2,h3⟩
 ·rw[h1,if_pos rfl];rw[cx7,decide_eq_true_eq] at h1;exact ⟨fun _=>List.le_of_lt h1,fun _=>by decide⟩
 ·rw[h]; simp[List.le_refl]
 ·rw[h2,if_neg (by simp),if_neg h3];rw[cx7,decide_eq_true_eq] at h1;exact ⟨fun h=>absurd h (by decide),fun h=>absurd h1 (qm.2 h)⟩
theorem jk5:WO (fun _=>True) cp9 where
 neg:=fun a b=>fe7 a b
 tr:=fun a b c _ _ _ h1 h2=>eu1.2 (List.le_trans (eu1.1 h1) (eu1.1 h2))
def cx8 (a b:Part):Int:=lex (at5 a.kind b.kind) (lex (at5 (if a.kind=5 then (a.s.length:Int) else 0) (if b.kind=5 then (b.s.length:Int) else 0)) (cp9 a.s b.s))
theorem dr6 (a b:Part):af9 a b=cx8 a b:=by
 unfold af9 cx8 lex;by_cases h:at5 (a.kind:Int) b.kind=0
 ·have e:=bf4.1 h;have e':a.kind=b.kind:=om
  simp only[h,ne_eq,not_true_eq_false,if_false,if_true,e'];by_cases k5:b.kind=5
  ·simp only[k5,and_self,if_true]; split<;>simp_all
  ·have z:at5 0 0=0:=by decide
   simp[k5,z]
 ·simp[h]
theorem cq5:WO (fun _=>True) af9:=by
 have h:af9=cx8:=by funext a b; exact dr6 a b
 rw[h];exact (fe8.of (fun a:Part=>(a.kind:Int))).lex ((fe8.of (fun a:Part=>if a.kind=5 then (a.s.length:Int) else 0)).lex (jk5.of Part.s))
theorem ce7 {a b:Part}(h:af9 a b=0):a.kind=b.kind:=by
 rw[dr6] at h;unfold cx8 lex at h;split at h
 ·rename_i e; have:=bf4.1 e; omega
 ·contradiction
abbrev dg3:Part:=⟨2,[]⟩
theorem ba1 (x y:Part)(a b:List Part):ah2 (x::a) (y::b)=lex (af9 x y) (ah2 a b):=by
 show (if af9 x y≠0 then af9 x y else ah2 a b)=_;unfold lex; split<;>simp_all
theorem bl4 (a:List Part):ah2 [] a=0:=by cases a<;>rfl
theorem bx4 (a:List Part):ah2 a []=0:=by cases a<;>rfl
theorem hu9:∀ (a b c:List Part),(∀ x∈a,x.kind≠2)->(∀ x∈b,x.kind≠2)->(∀ x∈c,x.kind≠2) ->
  ah2 (a++[dg3]) (b++[dg3])<=0->ah2 (b++[dg3]) (c++[dg3])<=0->ah2 (a++[dg3]) (c++[dg3])<=0:=by
 have hd:∀ (x y z:Part) (r s t:Int),lex (af9 x y) r<=0->lex (af9 y z) s<=0->(af9 x y=0->af9 y z=0->r<=0->s<=0->t<=0)->lex (af9 x z) t<=0:=fun x y z r s t h1 h2 h3=>by
  have k1:=cq5.tr x y z trivial trivial trivial;have k2:=cq5.tr z x y trivial trivial trivial;have k3:=cq5.tr y z x trivial trivial trivial;have n1:=cq5.neg x y;have n2:=cq5.neg y z;have n3:=cq5.neg x z;unfold lex at *;split at h1<;>split at h2<;>split<;>first|omega|exact h3 (by assumption) (by assumption) h1 h2
 intro a
 induction a with
 | nil=>
  intro b c _ hb hc h1 h2
  cases b with
  | nil=>exact h2
  | cons y b=>
   cases c with
   | nil=>simp only[zp,ba1,bl4]; decide
   | cons z c=>
    simp only[zp,zq,ba1,bl4] at *;refine hd _ y z _ _ _ h1 h2 fun e _ _ _=>?_
    exact absurd (ce7 e).symm (hb y zo)
 | cons x a ih=>
  intro b c ha hb hc h1 h2
  cases b with
  | nil=>
   simp only[zp,zq,ba1,bl4,bx4] at h1
   cases c with
   | nil=>simp only[zp,zq,ba1,bl4,bx4]; exact h1
   | cons z c=>
    simp only[zp,zq,ba1,bl4,bx4] at *;refine hd x dg3 z _ _ _ h1 h2 fun e _ _ _=>?_
    exact absurd (ce7 e) (ha x zo)
  | cons y b=>
   cases c with
   | nil=>
    simp only[zp,zq,ba1,bl4,bx4] at *;refine hd x y dg3 _ _ _ h1 h2 fun _ e _ _=>?_
    exact absurd (ce7 e) (hb y zo)
   | cons z c=>
    simp only[zq,ba1] at *;refine hd x y z _ _ _ h1 h2 fun _ _ r s=>?_
    exact ih b c (fun p hp=>ha p (zg _ hp)) (fun p hp=>hb p (zg _ hp)) (fun p hp=>hc p (zg _ hp)) r s
theorem fe9 (b:UInt8):ad7 b≠2:=by
 unfold ad7
 repeat (first|split|omega)
theorem br6 (s:Str):∀ x∈ab9 s,x.kind≠2:=by
 unfold ab9
 have : ∀ n s,∀ x∈ax1 n s,x.kind≠2:=by
  intro n
  induction n with
  | zero=>intro s x hx; cases hx
  | succ n ih=>
   intro s x hx
   cases s with
   | nil=>cases hx
   | cons b l=>
    simp only[ax1] at hx;split at hx
    ·exact ih _ x hx
    ·split at hx
     ·rcases zd.1 hx with rfl|hx
      ·exact fe9 b
      ·exact ih _ x hx
     ·rcases zd.1 hx with rfl|hx
      ·exact fe9 b
      ·exact ih _ x hx
 exact this _ s
theorem ik5:WO (fun _=>True) aq6 where
 neg:=fun a b=>cq4 a b
 tr:=fun a b c _ _ _ h1 h2=>hu9 _ _ _ (br6 a) (br6 b) (br6 c) h1 h2
theorem jk6:WO (fun e:EVR=>e.rel≠[]) ar5 where
 neg:=fun a b=>fy3 a b
 tr:=by
  have h:=(fe8.of EVR.ai5).lex ((ik5.of EVR.ver).lex (ik5.of EVR.rel))
  have e:∀ a b:EVR,a.rel≠[]->b.rel≠[]->ar5 a b=lex (at5 a.ai5 b.ai5) (lex (aq6 a.ver b.ver) (aq6 a.rel b.rel)):=fun a b ha hb=>by
   unfold ar5 lex;have hn:¬ (a.rel=[]\/b.rel=[]):=by simp[ha,hb]
   rw[if_neg hn];by_cases h1:at5 a.ai5 b.ai5=0<;>by_cases h2:aq6 a.ver b.ver=0<;>simp[h1,h2]
  intro a b c ha hb hc;rw[e a b ha hb,e b c hb hc,e a c ha hc];exact h.tr a b c trivial trivial trivial
end Go.Id.Md
namespace Go.Id.Md
open Go Go.Id
def cv9 (k:Int):Nat:=if k=4 then 3 else if k=5 then 3 else if k=7 then 2 else 24
def aq7 (k:Int)(d:Dep)(n:Nat):Bool:=decide (1<k)&&decide (k<=7)&&decide (d=by2)&&decide (2<=n)&&decide (n<=cv9 k)
mutual
def aa6.ms:aa6->Nat×Nat×Bool
 | .mk k d aZ=>if k=1 then (1,0,decide (aZ.length=0)&&ai4 d) else ((aa6.msL aZ 1 0 (aq7 k d aZ.length)).1,(aa6.msL aZ 1 0 (aq7 k d aZ.length)).2.1+1,(aa6.msL aZ 1 0 (aq7 k d aZ.length)).2.2)
def aa6.msL:List aa6->Nat->Nat->Bool->Nat×Nat×Bool
 | [],p,d,ok=>(p,d,ok)
 | r::rs,p,d,ok=>if ok=true then aa6.msL rs (p+r.ms.1) (max d r.ms.2.1) r.ms.2.2 else (p,d,false)
end
def by7 (r:aa6):Bool:=r.ms.2.2&&decide (r.ms.1<=24)&&decide (r.ms.2.1<=8)
inductive aa6.Good:aa6->Prop
 | atom (d:Dep) (h:ai4 d=true):aa6.Good (.mk 1 d [])
 | node (k:Int) (d:Dep) (aZ:List aa6) (h1:1<k) (h2:k<=7) (h3:2<=aZ.length) (h4:aZ.length<=cv9 k) (h5:∀ a∈aZ,aa6.Good a):aa6.Good (.mk k d aZ)
theorem aa6.gp1:∀ (aZ:List aa6) (p d:Nat) (ok:Bool),(aa6.msL aZ p d ok).2.2=true->ok=true/\∀ a∈aZ,a.ms.2.2=true:=by
 intro aZ
 induction aZ with
 | nil=>intro p d ok h; exact ⟨h,fun _ h=>by cases h⟩
 | cons r rs ih=>
  intro p d ok h;simp only[aa6.msL] at h;split at h
  ·rename_i hk;obtain ⟨h1,h2⟩:=ih _ _ _ h;refine ⟨hk,fun a ha=>?_⟩;rcases zd.1 ha with rfl|ha
   ·exact h1
   ·exact h2 a ha
  ·cases h
theorem aa6.gp2 (r:aa6):r.ms.2.2=true->r.Good:=by
 induction r using aa6.ind with
 | h k d aZ ih=>
  intro h;unfold aa6.ms at h;split at h
  ·rename_i hk;subst hk;simp only[za,decide_eq_true_eq] at h;obtain ⟨h1,h2⟩:=h;have e:aZ=[]:=zz.1 h1;subst e;exact .atom d h2
  ·obtain ⟨h1,h2⟩:=aa6.gp1 _ _ _ _ h;unfold aq7 at h1;simp only[za,decide_eq_true_eq] at h1;exact .node k d aZ h1.1.1.1.1 h1.1.1.1.2 h1.1.2 h1.2 fun a ha=>ih a ha (h2 a ha)
theorem aa6.jk9 (aZ:List aa6)(h:∀ a∈aZ,a.ms.1<=a.count/\a.ms.2.1<=a.count):∀ (p d:Nat) (ok:Bool),(aa6.msL aZ p d ok).1<=p+aa6.counts aZ/\(aa6.msL aZ p d ok).2.1<=d+aa6.counts aZ:=by
 induction aZ with
 | nil=>intro p d ok; simp[aa6.msL,aa6.counts]
 | cons r rs ih=>
  intro p d ok;obtain ⟨h1,h2⟩:=h r zo;have ih':=ih (fun a ha=>h a (zg _ ha));simp only[aa6.msL,aa6.counts];split
  ·obtain ⟨i1,i2⟩:=ih' (p+r.ms.1) (max d r.ms.2.1) r.ms.2.2;omega
  ·simp only; omega
theorem aa6.jl1 (r:aa6):r.ms.1<=r.count/\r.ms.2.1<=r.count:=by
 induction r using aa6.ind with
 | h k d aZ ih=>
  unfold aa6.ms;simp only[aa6.count];split
  ·simp only; omega
  ·obtain ⟨h1,h2⟩:=aa6.jk9 aZ ih 1 0 (aq7 k d aZ.length);simp only; omega
abbrev ff:List Bool->Bool:=fun _=>false
def dy6 (c n:Nat):List Bool:=(zn c).map fun m=>decide (m=n)
def stB (c:Nat)(zs:List Int):List Bool:=(zn c).map fun (m:Nat)=>decide ((m:Int)∈zs)
def gp3 (st:List Bool)(f:Nat->Bool):Bool:=(zn st.length).any fun n=>st.getD n false&&f n
def trK (l:List aa3)(k:Int)(d:Dep)(fs:List (List Bool->Bool))(st:List Bool):Bool :=
 if k=1 then (aj7 l d).any fun n=>st.getD n.toNat false
 else if k=2 then fs.all fun f=>f st
 else if k=3 then fs.any fun f=>f st
 else if k=4 then (if (fs.getD 1 ff) st then (fs.getD 0 ff) st else decide (fs.length<3)||(fs.getD 2 ff) st)
 else if k=5 then (if (fs.getD 1 ff) st then decide (fs.length=3)&&(fs.getD 2 ff) st else (fs.getD 0 ff) st)
 else if k=6 then gp3 st fun n=>fs.all fun f=>f (dy6 st.length n)
 else gp3 st fun n=>(fs.getD 0 ff) (dy6 st.length n)&&!(fs.getD 1 ff) (dy6 st.length n)
mutual
def aa6.tr (l:List aa3):aa6->List Bool->Bool
 | .mk k d aZ,st=>trK l k d (aa6.trs l aZ) st
def aa6.trs (l:List aa3):List aa6->List (List Bool->Bool)
 | []=>[]
 | r::rs=>(fun st=>r.tr l st)::aa6.trs l rs
end
theorem aa6.bj1 (l:List aa3)(aZ:List aa6):aa6.trs l aZ=aZ.map fun r st=>r.tr l st:=by
 induction aZ with
 | nil=>rfl
 | cons r rs ih=>simp only[aa6.trs,zc,ih]
def gc9 (l:List aa3)(zs:List Int)(r:aa6):Bool:=by7 r&&r.tr l (stB l.length zs)
structure jx5 where
 a:ab4
 jl2:List Bool
def dy7 (b:Bool):List IV:=[.bool b]
namespace jx5
variable (o:jx5)
def cs:List IV:=[o.a.v,o.a.p.v,.int .u8 o.a.r.ap9,.aa4 (o.a.l.map aa3.cs),.aa4 (o.jl2.map dy7)]
def v:IV:=.ab8 o.cs
def lk (n:Int):Bool:=o.jl2.getD n.toNat false
def jq9 (b:Bool):Int:=if b then 0 else 1
def prio (n:Int):Int:=(o.a.p.rows.getD n.toNat ⟨default,0,0⟩).prio
def cmp (n m:Int):Int :=
 lex (at5 (jq9 (o.a.fits n)) (jq9 (o.a.fits m))) (lex (at5 (bb5 o.a.r.ap9 (o.a.pk n).ap9) (bb5 o.a.r.ap9 (o.a.pk m).ap9)) (lex (at5 (o.prio m) (o.prio n))
  (lex (at5 (jq9 (o.lk n)) (jq9 (o.lk m))) (lex (ar5 (o.a.pk m).evr (o.a.pk n).evr) (at5 n m)))))
theorem wo:WO (fun n=>(o.a.pk n).evr.rel≠[]) o.cmp:=by
 have hi {g:Int->Int}:WO (fun n=>(o.a.pk n).evr.rel≠[]) fun a b=>at5 (g a) (g b):=(fe8.of g).sub fun _ _=>trivial
 exact hi.lex (hi.lex ((hi (g:=o.prio)).flip.lex (hi.lex ((jk6.of fun n=>(o.a.pk n).evr).flip.lex (hi (g:=fun n=>n))))))
variable (hr:∀ n,o.a.is n=true->(o.a.pk n).evr.rel≠[])
include hr
theorem lt_trans {a b c:Int}(ha:o.a.is a=true)(hb:o.a.is b=true)(hc:o.a.is c=true)(h1:o.cmp a b<0)(h2:o.cmp b c<0):o.cmp a c<0:=by
 have k1:=o.wo.tr a b c (hr a ha) (hr b hb) (hr c hc);have k2:=o.wo.tr c a b (hr c hc) (hr a ha) (hr b hb);have n1:=o.wo.neg a b;have n2:=o.wo.neg b c;have n3:=o.wo.neg a c;omega
end jx5
end Go.Id.Md
namespace Go.Id.Md
open Go Go.Id
structure Itm where
 kind:Int
 p:Int
 q:Int
 deriving DecidableEq,Inhabited
def Itm.cs (x:Itm):List IV:=[.int .u8 x.kind,.int .i64 x.p,.int .i64 x.q]
theorem Itm.jj8 {x y:Itm}(h:x.cs=y.cs):x=y:=by
 cases x; cases y; simpa [Itm.cs] using h
abbrev aj8 (l:List Itm):IV:=.aa4 (l.map Itm.cs)
theorem fd4 (a b:Itm):allEq [1,1,1] a.cs b.cs=some (decide (a=b)):=by
 cases a; cases b;simp[Itm.cs,allEq,al5,Itm.mk.injEq,Bool.decide_and]
def bd2 (l:List Itm):List (IV×IV):=l.map fun x=>(.agg x.cs,.agg [])
theorem dx6 (x y:Itm):aq2 6 (.agg x.cs) (.agg y.cs)=some (decide (x=y)):=fd4 x y
theorem fd5 (x:Itm):kOK 6 (.agg x.cs)=true:=by
 show (aq2 6 (.agg x.cs) (.agg x.cs)).isSome=true;rw[dx6]; rfl
theorem gn2 (x:Itm):∀ l:List Itm,ay9 6 (.agg x.cs) (bd2 l)=some (if x∈l then some (.agg []) else none):=by
 intro l
 induction l with
 | nil=>simp only[bd2,List.map_nil,ay9,fd5]; simp
 | cons y l ih=>
  unfold bd2 at *;simp only[zc,ay9,dx6];by_cases h:x=y
  ·simp[h]
  ·simp only[h,decide_false,ih,zd,false_or]
theorem hr9 {x:Itm}:∀ {l:List Itm},x ∉ l->eo3 6 (.agg x.cs) (.agg []) (bd2 l)=some (bd2 (l++[x])):=by
 intro l
 induction l with
 | nil=>intro _; simp only[bd2,List.map_nil,eo3,fd5]; rfl
 | cons y l ih=>
  intro h;rw[zd,not_or] at h;have:=ih h.2;unfold bd2 at *;simp only[zc,zq,eo3,dx6,h.1,decide_false,this,Option.map_some]
theorem gn3 {l:List Itm}(h:l.Nodup):di1 (bd2 l):=by
 refine ⟨?_,.agg [.u8,.i64,.i64],fun e he=>?_⟩
 ·unfold bd2;rw[List.map_map];refine qb.2 (h.imp fun {a b} hab e=>hab ?_);exact Itm.jj8 (IV.agg.inj e)
 ·obtain ⟨x,_,rfl⟩:=zt.1 he;refine ⟨rfl,fun i hi=>?_⟩;have hi:i<3:=hi
  match i,hi with
  | 0,_=>exact ⟨_,rfl⟩
  | 1,_=>exact ⟨_,rfl⟩
  | 2,_=>exact ⟨_,rfl⟩
def bd3 (k:Int)(p n:Nat):List Itm:=(zn n).map fun (q:Nat)=>⟨k,p,q⟩
theorem bw9 (k:Int)(p n:Nat):bd3 k p (n+1)=bd3 k p n++[⟨k,p,n⟩]:=by
 unfold bd3;rw[zk,zx]; rfl
def be3 (f:Nat->Bool)(g:Nat->Itm)(n:Nat):List Itm:=((zn n).filter f).map g
theorem az6 (f:Nat->Bool)(g:Nat->Itm)(n:Nat):be3 f g (n+1)=be3 f g n++if f n then [g n] else []:=by
 unfold be3;rw[zk,qa,zx];cases h:f n<;>simp[h]
theorem av5 {f:Nat->Bool}{g:Nat->Itm}{n:Nat}{x:Itm}:x∈be3 f g n↔∃ m,m<n/\f m=true/\x=g m:=by
 unfold be3;simp only[zt,z4,ze];constructor
 ·rintro ⟨m,⟨h1,h2⟩,rfl⟩; exact ⟨m,h1,h2,rfl⟩
 ·rintro ⟨m,h1,h2,rfl⟩; exact ⟨m,⟨h1,h2⟩,rfl⟩
theorem ay1 {k:Int}{p n:Nat}{x:Itm}:x∈bd3 k p n↔∃ q:Nat,q<n/\x=⟨k,p,q⟩:=by
 unfold bd3;simp only[zt,ze];constructor
 ·rintro ⟨q,h,rfl⟩; exact ⟨q,h,rfl⟩
 ·rintro ⟨q,h,rfl⟩; exact ⟨q,h,rfl⟩
namespace ab4
variable (a:ab4)
def ay3 (p:Nat):List Itm:=if a.fits p then [] else [⟨1,p,0⟩]
def hc7 (p:Nat):List Itm:=a.ay3 p++bd3 2 p (a.pk p).requires.length++bd3 3 p (a.pk p).conflicts.length++bd3 4 p (a.pk p).aa7.length
def ca3 (p k:Nat):List Itm:=be3 (fun q=>decide (p<q)&&a.twins p q) (fun q=>⟨5,p,q⟩) k
def hs8 (p:Nat):List Itm:=a.ca3 p a.l.length
def be9 (k:Nat):List Itm:=be3 (fun i=>!a.goes i) (fun i=>⟨6,i,0⟩) k
def ee4 (k:Nat):List Itm:=be3 (fun i=>!a.dropped i) (fun i=>⟨7,i,0⟩) k
def owns (k:Nat):List Itm:=(zn k).flatMap a.hc7
def an7 (k:Nat):List Itm:=(zn k).flatMap a.hs8
def items:List Itm:=a.owns a.l.length++a.an7 a.l.length++a.be9 a.p.inst.toNat++a.ee4 a.r.ag6.length
theorem cd7 (k:Nat):a.owns (k+1)=a.owns k++a.hc7 k:=by unfold owns; rw[zk,zw]; simp
theorem bn4 (k:Nat):a.an7 (k+1)=a.an7 k++a.hs8 k:=by unfold an7; rw[zk,zw]; simp
inductive Has (a:ab4):Itm->Prop
 | ap9 (p:Nat):p<a.l.length->a.fits p=false->Has a ⟨1,p,0⟩
 | need (p q:Nat):p<a.l.length->q<(a.pk p).requires.length->Has a ⟨2,p,q⟩
 | clash (p q:Nat):p<a.l.length->q<(a.pk p).conflicts.length->Has a ⟨3,p,q⟩
 | over (p q:Nat):p<a.l.length->q<(a.pk p).aa7.length->Has a ⟨4,p,q⟩
 | twin (p q:Nat):p<q->q<a.l.length->a.twins p q=true->Has a ⟨5,p,q⟩
 | keep (i:Nat):i<a.p.inst.toNat->a.goes i=false->Has a ⟨6,i,0⟩
 | job (j:Nat):j<a.r.ag6.length->a.dropped j=false->Has a ⟨7,j,0⟩
theorem gn4 {p:Nat}{x:Itm}:x∈a.hc7 p↔(a.fits p=false/\x=⟨1,p,0⟩)\/(∃ q:Nat,q<(a.pk p).requires.length/\x=⟨2,p,q⟩)\/(∃ q:Nat,q<(a.pk p).conflicts.length/\x=⟨3,p,q⟩)\/(∃ q:Nat,q<(a.pk p).aa7.length/\x=⟨4,p,q⟩):=by
 unfold hc7 ay3;simp only[zl,ay1,or_assoc];refine or_congr ?_ Iff.rfl;cases h:a.fits p<;>simp
theorem dx7 {x:Itm}:x∈a.items↔a.Has x:=by
 unfold items owns an7 be9 ee4;simp only[zl,zf,ze,gn4,av5];constructor
 ·rintro (((⟨p,hp,h⟩|⟨p,hp,h⟩)|⟨i,hi,h,rfl⟩)|⟨j,hj,h,rfl⟩)
  ·rcases h with ⟨h,rfl⟩|⟨q,hq,rfl⟩|⟨q,hq,rfl⟩|⟨q,hq,rfl⟩
   ·exact .ap9 p hp h
   ·exact .need p q hp hq
   ·exact .clash p q hp hq
   ·exact .over p q hp hq
  ·obtain ⟨q,hq,h3,rfl⟩:=av5.1 h;rw[za] at h3;exact .twin p q (of_decide_eq_true h3.1) hq h3.2
  ·exact .keep i hi (by simpa using h)
  ·exact .job j hj (by simpa using h)
 ·intro h
  cases h with
  | ap9 p hp h=>exact .inl (.inl (.inl ⟨p,hp,.inl ⟨h,rfl⟩⟩))
  | need p q hp hq=>exact .inl (.inl (.inl ⟨p,hp,.inr (.inl ⟨q,hq,rfl⟩)⟩))
  | clash p q hp hq=>exact .inl (.inl (.inl ⟨p,hp,.inr (.inr (.inl ⟨q,hq,rfl⟩))⟩))
  | over p q hp hq=>exact .inl (.inl (.inl ⟨p,hp,.inr (.inr (.inr ⟨q,hq,rfl⟩))⟩))
  | twin p q h1 h2 h3=>exact .inl (.inl (.inr ⟨p,om,av5.2 ⟨q,h2,by simp[h1,h3],rfl⟩⟩))
  | keep i hi h=>exact .inl (.inr ⟨i,hi,by simp[h],rfl⟩)
  | job j hj h=>exact .inr ⟨j,hj,by simp[h],rfl⟩
theorem cq1 (k:Int)(p n:Nat):(bd3 k p n).Nodup:=by
 unfold bd3;refine qb.2 (List.nodup_range.imp fun {x y} h e=>h ?_);have:=congrArg Itm.q e;simp only at this;omega
theorem cq2 {f:Nat->Bool}{g:Nat->Itm}(hg:∀ x y,g x=g y->x=y)(n:Nat):(be3 f g n).Nodup:=by
 unfold be3;exact qb.2 ((List.nodup_range.filter _).imp fun {x y} h e=>h (hg _ _ e))
theorem dq9 {g:Nat->List Itm}(h1:∀ p,(g p).Nodup)(h2:∀ p,∀ x∈g p,x.p=(p:Int))(n:Nat):((zn n).flatMap g).Nodup:=by
 induction n with
 | zero=>exact qj.nil
 | succ n ih=>
  rw[zk,zw,z8,z1,qg];refine zj.2 ⟨ih,h1 n,fun x hx y hy e=>?_⟩;obtain ⟨p,hp,hx⟩:=zf.1 hx;have:=h2 p x hx;have:=h2 n y hy;rw[<- e] at this;have:=ze.1 hp;omega
theorem cd8 {p:Nat}{x:Itm}(h:x∈a.hc7 p):x.p=(p:Int)/\1<=x.kind/\x.kind<=4:=by
 rcases a.gn4.1 h with ⟨_,rfl⟩|⟨q,_,rfl⟩|⟨q,_,rfl⟩|⟨q,_,rfl⟩<;>exact ⟨rfl,by simp only<;>omega,by simp only<;>omega⟩
theorem gn5 (p:Nat):(a.hc7 p).Nodup:=by
 unfold hc7 ay3;refine zj.2 ⟨zj.2 ⟨zj.2 ⟨?_,cq1 ..,fun x hx y hy e=>?_⟩,cq1 ..,fun x hx y hy e=>?_⟩,cq1 ..,fun x hx y hy e=>?_⟩
 ·cases a.fits p<;>simp
 ·obtain ⟨q,_,rfl⟩:=ay1.1 hy;cases hf:a.fits p<;>rw[hf] at hx<;>simp at hx;rw[hx] at e; simp at e
 ·obtain ⟨q,_,rfl⟩:=ay1.1 hy;rcases zl.1 hx with hx|hx
  ·cases hf:a.fits p<;>rw[hf] at hx<;>simp at hx;rw[hx] at e; simp at e
  ·obtain ⟨r,_,rfl⟩:=ay1.1 hx;simp at e
 ·obtain ⟨q,_,rfl⟩:=ay1.1 hy;rcases zl.1 hx with hx|hx
  ·rcases zl.1 hx with hx|hx
   ·cases hf:a.fits p<;>rw[hf] at hx<;>simp at hx;rw[hx] at e; simp at e
   ·obtain ⟨r,_,rfl⟩:=ay1.1 hx;simp at e
  ·obtain ⟨r,_,rfl⟩:=ay1.1 hx;simp at e
theorem br2 {p k:Nat}{x:Itm}(h:x∈a.ca3 p k):x.p=(p:Int)/\x.kind=5:=by
 obtain ⟨q,_,_,rfl⟩:=av5.1 h;exact ⟨rfl,rfl⟩
theorem nodup:a.items.Nodup:=by
 unfold items;refine zj.2 ⟨zj.2 ⟨zj.2 ⟨?_,?_,fun x hx y hy e=>?_⟩,?_,fun x hx y hy e=>?_⟩,?_,fun x hx y hy e=>?_⟩
 ·exact dq9 a.gn5 (fun p x hx=>(a.cd8 hx).1) _
 ·exact dq9 (fun p=>cq2 (fun x y e=>by have:=congrArg Itm.q e; simp only at this; omega) _) (fun p x hx=>(a.br2 hx).1) _
 ·obtain ⟨p,_,hx⟩:=zf.1 hx;obtain ⟨q,_,hy⟩:=zf.1 hy;have:=(a.cd8 hx).2;have:=(a.br2 hy).2;rw[<- e] at this; omega
 ·exact cq2 (fun x y e=>by have:=congrArg Itm.p e; simp only at this; omega) _
 ·obtain ⟨i,_,_,rfl⟩:=av5.1 hy;rcases zl.1 hx with hx|hx
  ·obtain ⟨p,_,hx⟩:=zf.1 hx;have:=(a.cd8 hx).2;rw[e] at this; simp at this
  ·obtain ⟨p,_,hx⟩:=zf.1 hx;have:=(a.br2 hx).2;rw[e] at this; simp at this
 ·exact cq2 (fun x y e=>by have:=congrArg Itm.p e; simp only at this; omega) _
 ·obtain ⟨j,_,_,rfl⟩:=av5.1 hy;rcases zl.1 hx with hx|hx
  ·rcases zl.1 hx with hx|hx
   ·obtain ⟨p,_,hx⟩:=zf.1 hx;have:=(a.cd8 hx).2;rw[e] at this; simp at this
   ·obtain ⟨p,_,hx⟩:=zf.1 hx;have:=(a.br2 hx).2;rw[e] at this; simp at this
  ·obtain ⟨i,_,_,rfl⟩:=av5.1 hx;simp at e
theorem dc3 {k:Nat}{y:Itm}(h:y∈a.owns k):1<=y.kind/\y.kind<=4/\∃ p:Nat,p<k/\y.p=p:=by
 obtain ⟨p,hp,hy⟩:=zf.1 h;have:=a.cd8 hy;exact ⟨this.2.1,this.2.2,p,ze.1 hp,this.1⟩
theorem it6 {p:Nat}{y:Itm}(h:y∈a.ay3 p):y.kind=1:=by
 unfold ay3 at h;split at h
 ·cases h
 ·rw[qp] at h; rw[h]
theorem dx8 {k:Nat}{y:Itm}(h:y∈a.an7 k):y.kind=5/\∃ p:Nat,p<k/\y.p=p:=by
 obtain ⟨p,hp,hy⟩:=zf.1 h;have:=a.br2 hy;exact ⟨this.2,p,ze.1 hp,this.1⟩
theorem hs9 {p k:Nat}{y:Itm}(h:y∈a.ca3 p k):y.kind=5/\y.p=p/\∃ q:Nat,q<k/\y.q=q:=by
 obtain ⟨q,hq,_,rfl⟩:=av5.1 h;exact ⟨rfl,rfl,q,hq,rfl⟩
theorem gn6 {k:Nat}{y:Itm}(h:y∈a.be9 k):y.kind=6/\∃ q:Nat,q<k/\y.p=q:=by
 obtain ⟨q,hq,_,rfl⟩:=av5.1 h;exact ⟨rfl,q,hq,rfl⟩
theorem jj9 {k:Nat}{y:Itm}(h:y∈a.ee4 k):y.kind=7/\∃ q:Nat,q<k/\y.p=q:=by
 obtain ⟨q,hq,_,rfl⟩:=av5.1 h;exact ⟨rfl,q,hq,rfl⟩
def nsI (p j:Nat):Nat:=if j=0 then (a.pk p).requires.length else if j=1 then (a.pk p).conflicts.length else (a.pk p).aa7.length
def ch3 (p j:Nat):List Itm:=(zn j).flatMap fun i=>bd3 ((2+i:Nat):Int) p (a.nsI p i)
theorem ap6 (p j:Nat):a.ch3 p (j+1)=a.ch3 p j++bd3 ((2+j:Nat):Int) p (a.nsI p j):=by unfold ch3; rw[zk,zw]; simp
theorem gn7 (p:Nat):a.hc7 p=a.ay3 p++a.ch3 p 3:=by
 rw[ap6,ap6,ap6];unfold hc7 nsI;simp[ch3]
theorem jk1 {p j:Nat}{y:Itm}(h:y∈a.ch3 p j):2<=y.kind/\y.kind<2+(j:Int):=by
 obtain ⟨i,hi,hy⟩:=zf.1 h;obtain ⟨q,_,rfl⟩:=ay1.1 hy;have:=ze.1 hi;simp only;omega
theorem ei9 {k m:Nat}(h:k<=m):(a.owns k).length<=(a.owns m).length:=by
 obtain ⟨d,rfl⟩:∃ d,m=k+d:=⟨m-k,om⟩
 induction d with
 | zero=>exact zr _
 | succ d ih=>
  have:=ih om;rw[show k+(d+1)=k+d+1 from rfl,a.cd7,zb];omega
theorem fw9 {k m:Nat}(h:k<=m):(a.an7 k).length<=(a.an7 m).length:=by
 obtain ⟨d,rfl⟩:∃ d,m=k+d:=⟨m-k,om⟩
 induction d with
 | zero=>exact zr _
 | succ d ih=>
  have:=ih om;rw[show k+(d+1)=k+d+1 from rfl,a.bn4,zb];omega
theorem dc4 (f:Nat->Bool)(g:Nat->Itm){k m:Nat}(h:k<=m):(be3 f g k).length<=(be3 f g m).length:=by
 obtain ⟨d,rfl⟩:∃ d,m=k+d:=⟨m-k,om⟩
 induction d with
 | zero=>exact zr _
 | succ d ih=>
  have:=ih om;rw[show k+(d+1)=k+d+1 from rfl,az6,zb];omega
theorem bh8 (k:Int)(p n:Nat):(bd3 k p n).length=n:=by unfold bd3; rw[zy,z7]
theorem bf1:a.items.length=(a.owns a.l.length).length+(a.an7 a.l.length).length+(a.be9 a.p.inst.toNat).length+(a.ee4 a.r.ag6.length).length:=by
 unfold items; simp only[zb]
theorem br3 {p j q:Nat}(hp:p<a.l.length)(hj:j<3)(hq:q<=a.nsI p j):(a.owns p++a.ay3 p++a.ch3 p j++bd3 ((2+j:Nat):Int) p q).length<=a.items.length:=by
 have h1:=a.ei9 (show p+1<=a.l.length from hp);have h2:=a.bf1;rw[a.cd7,a.gn7,zb,zb] at h1
 have h3:(a.ch3 p j).length+q<=(a.ch3 p 3).length:=by
  have e3:(a.ch3 p 3).length=a.nsI p 0+a.nsI p 1+a.nsI p 2:=by
   rw[a.ap6,a.ap6,a.ap6];simp only[zb,bh8];simp[ch3]
  rw[e3];have:j=0\/j=1\/j=2:=om
  rcases this with rfl|rfl|rfl
  ·simp only[ch3,qe,z1,List.length_nil]; omega
  ·rw[a.ap6]; simp only[ch3,qe,z1,zp,bh8]; omega
  ·rw[a.ap6,a.ap6]; simp only[ch3,qe,z1,zp,zb,bh8]; omega
 simp only[zb,bh8];omega
theorem fd6 {p:Nat}(hp:p<a.l.length):(a.owns p).length<=a.items.length:=by
 have h1:=a.ei9 (show p<=a.l.length by omega);have h2:=a.bf1;omega
theorem dx9 {p k:Nat}(hp:p<a.l.length)(hk:k<=a.l.length):(a.owns a.l.length++a.an7 p++a.ca3 p k).length<=a.items.length:=by
 have h1:=a.fw9 (show p+1<=a.l.length from hp);have h2:=a.bf1;have h3:(a.ca3 p k).length<=(a.hs8 p).length:=dc4 _ _ hk;rw[a.bn4,zb] at h1;simp only[zb];omega
theorem fd7 {k:Nat}(hk:k<=a.p.inst.toNat):(a.owns a.l.length++a.an7 a.l.length++a.be9 k).length<=a.items.length:=by
 have h2:=a.bf1;have h3:(a.be9 k).length<=(a.be9 a.p.inst.toNat).length:=dc4 _ _ hk;simp only[zb];omega
theorem gn8 {k:Nat}(hk:k<=a.r.ag6.length):(a.owns a.l.length++a.an7 a.l.length++a.be9 a.p.inst.toNat++a.ee4 k).length<=a.items.length:=by
 have h2:=a.bf1;have h3:(a.ee4 k).length<=(a.ee4 a.r.ag6.length).length:=dc4 _ _ hk;simp only[zb];omega
theorem dc5 (p:Nat):a.ca3 p (p+1)=[]:=by
 unfold ca3 be3;rw[List.map_eq_nil_iff,qk];intro q hq;have:=ze.1 hq;have:¬ p<q:=om
 simp[this]
theorem gn9 (hA:∀ p∈a.l,p.requires.length<=2^20/\p.conflicts.length<=2^20/\p.aa7.length<=2^20)(hl:a.l.length<=256)(hi:a.p.inst<=a.l.length)(hj:a.r.ag6.length<=64):a.items.length<2^30:=by
 have fl:∀ (g:Nat->List Itm) (m n:Nat),(∀ p,p<n->(g p).length<=m)->((zn n).flatMap g).length<=n*m:=by
  intro g m n
  induction n with
  | zero=>intro _; simp
  | succ n ih=>
   intro h;have:=ih fun p hp=>h p om
   have:=h n om;rw[zk,zw,zb,Nat.succ_mul];simp only[z8,z1,qg];omega
 have pl:∀ f g n,(be3 f g n).length<=n:=fun f g n=>by
  unfold be3;rw[zy];exact zv (z0 _ _) (by rw[z7]; exact zr _)
 have h1:(a.owns a.l.length).length<=a.l.length*(1+3*2^20):=fl _ _ _ fun p hp=>by
  have hm:a.pk p∈a.l:=by
   have:a.pk p=a.l[p]:=by simp[pk,zh,hp]
   rw[this]; exact List.getElem_mem hp
  obtain ⟨q1,q2,q3⟩:=hA _ hm;unfold hc7 ay3 bd3;simp only[zb,zy,z7];split<;>simp only[List.length_nil,ql]<;>omega
 have h2:(a.an7 a.l.length).length<=a.l.length*256:=fl _ _ _ fun p hp=>zv (pl _ _ _) hl
 have h3:=pl (fun i=>!a.goes i) (fun i=>⟨6,i,0⟩) a.p.inst.toNat;have h4:=pl (fun i=>!a.dropped i) (fun i=>⟨7,i,0⟩) a.r.ag6.length;have e1:a.l.length*(1+3*2^20)<=256*(1+3*2^20):=Nat.mul_le_mul hl (zr _);have e2:a.l.length*256<=256*256:=Nat.mul_le_mul hl (zr _);unfold items be9 ee4;simp only[zb];omega
def it7 (x:Itm):aa6:=(a.pk x.p).requires.getD x.q.toNat default
def go2 (x:Itm):aa6:=(a.pk x.p).conflicts.getD x.q.toNat default
def it8 (x:Itm):Dep:=(a.pk x.p).aa7.getD x.q.toNat default
def inS (st:List Int)(n:Int):Bool:=decide (n∈st)
def less (st:List Int)(n:Int):List Int:=st.filter fun m=>!decide (m=n)
def keeps (st:List Int)(x:Itm):Bool :=
 if x.kind=1 then !inS st x.p
 else if x.kind=2 then !inS st x.p||gc9 a.l st (a.it7 x)
 else if x.kind=3 then !inS st x.p || !gc9 a.l (less st x.p) (a.go2 x)
 else if x.kind=4 then !inS st x.p || !((am3 a.l (a.it8 x)).any fun n=>!decide (n=x.p)&&inS st n)
 else if x.kind=5 then !inS st x.p || !inS st x.q
 else if x.kind=6 then some st (a.au9 x.p)
 else a.aw7 x.p st
def isI (x:Itm):Bool:=decide (x∈a.items)
def holds (st:List Int)(x:Itm):Bool:=!a.isI x||a.keeps st x
def kept (st:List Int)(l:List Itm):Bool:=!l.any fun x=>!a.holds st x
def broken (st:List Int):List Itm:=a.items.filter fun x=>!a.holds st x
def good (st:List Int):Bool:=a.kept st a.items
theorem holds_of {st:List Int}{x:Itm}(h:x∈a.items):a.holds st x=a.keeps st x:=by
 unfold holds isI;rw[decide_eq_true h]; rfl
theorem ht4 {st:List Int}:a.good st=true↔∀ x∈a.items,a.keeps st x=true:=by
 unfold good kept;rw[Bool.not_eq_true',List.any_eq_false];constructor
 ·intro h x hx;have:=h x hx;rw[a.holds_of hx] at this
  simpa using this
 ·intro h x hx;rw[a.holds_of hx,h x hx]; simp
theorem et4 {st:List Int}:a.good st=decide ((a.broken st).length=0):=by
 rw[zu,a.ht4,decide_eq_true_eq,zz];unfold broken;rw[qk];constructor
 ·intro h x hx;rw[a.holds_of hx,h x hx]; simp
 ·intro h x hx;have:=h x hx;rw[a.holds_of hx] at this
  simpa using this
end ab4
end Go.Id.Md
namespace Go.Id.Md
open Go Go.Id
def ht5 (wh:Int)(k:Int)(d:Dep)(n:Nat)(alone:Bool):Bool :=
 if k=1 then decide (n=0)&&ai4 d else
 (if k=2\/k=3\/k=6 then decide (2<=n) else if k=7 then decide (n=2) else
  if k=4 then (decide (n=2)||decide (n=3))&&!alone&&decide (wh=1) else
  if k=5 then (decide (n=2)||decide (n=3))&&!alone&&decide (wh<=2) else false)&&decide (d=by2)
mutual
def aa6.cv6 (wh:Int):aa6->Bool->Bool
 | .mk k d aZ,alone=>ht5 wh k d aZ.length alone&&(aa6.dr1 wh aZ (alone||decide (k=6)||decide (k=7)))
def aa6.dr1 (wh:Int):List aa6->Bool->Bool
 | [],_=>true
 | r::rs,alone=>r.cv6 wh alone&&aa6.dr1 wh rs alone
end
theorem aa6.fx1 (wh:Int)(l:List aa6)(alone:Bool):aa6.dr1 wh l alone=l.all fun r=>r.cv6 wh alone:=by
 induction l with
 | nil=>rfl
 | cons r l ih=>simp only[aa6.dr1,qi,ih]
theorem it9 {wh:Int}(h1:1<=wh)(h3:wh<=3)(k:Int)(d:Dep)(aZ:List aa6)(alone:Bool)(hn:aZ.length<=24):ht5 wh k d aZ.length alone=ak6 wh (.mk k d aZ) alone:=by
 unfold ht5 ak6 asks;simp only[aa6.kind,aa6.args,aa6.dep];rw[zu];by_cases e1:k=1
 ·subst e1;simp only[if_true];have:¬ (3:Int)<wh:=om
  cases ai4 d<;>cases alone<;>simp[this]<;>omega
 by_cases e2:k=2
 ·subst e2;have:¬ (3:Int)<wh:=om
  by_cases hd:d=by2<;>cases alone<;>simp[this,hd]<;>omega
 by_cases e3:k=3
 ·subst e3;have:¬ (3:Int)<wh:=om
  by_cases hd:d=by2<;>cases alone<;>simp[this,hd]<;>omega
 by_cases e4:k=4
 ·subst e4;by_cases hd:d=by2<;>cases alone<;>by_cases hw:(1:Int)<wh<;>simp[hd,hw]<;>omega
 by_cases e5:k=5
 ·subst e5;by_cases hd:d=by2<;>cases alone<;>by_cases hw:(2:Int)<wh<;>simp[hd,hw]<;>omega
 by_cases e6:k=6
 ·subst e6;have:¬ (3:Int)<wh:=om
  by_cases hd:d=by2<;>cases alone<;>simp[this,hd]<;>omega
 by_cases e7:k=7
 ·subst e7;have:¬ (3:Int)<wh:=om
  by_cases hd:d=by2<;>cases alone<;>simp[this,hd]<;>omega
 have:(0:Int)<wh:=om
 simp[e1,e2,e3,e4,e5,e6,e7,this]
theorem aa6.bx2 {l:List aa6}{r:aa6}(h:r∈l):r.count<=aa6.counts l:=by
 induction l with
 | nil=>cases h
 | cons x l ih=>
  simp only[aa6.counts];rcases zd.1 h with rfl|h
  ·omega
  ·have:=ih h; omega
theorem aa6.go3 (r:aa6):1<=r.count:=by cases r; simp only[aa6.count]; omega
theorem aa6.fx2 (l:List aa6):l.length<=aa6.counts l:=by
 induction l with
 | nil=>exact zr _
 | cons x l ih=>simp only[aa6.counts,zm]; have:=x.go3; omega
theorem aa6.fx3 {wh:Int}(h1:1<=wh)(h3:wh<=3)(r:aa6):r.count<=24->∀ alone,r.cv6 wh alone=(r.parts alone).all fun p=>ak6 wh p.1 p.2:=by
 refine aa6.ind (p:=fun r=>r.count<=24->∀ alone,r.cv6 wh alone=(r.parts alone).all fun p=>ak6 wh p.1 p.2) (fun k d aZ ih hc alone=>?_) r;simp only[aa6.count] at hc;simp only[aa6.cv6,aa6.parts,qi];have:=aa6.fx2 aZ;rw[it9 h1 h3 k d aZ alone om];congr 1;generalize (alone||decide (k=6)||decide (k=7))=al
 have:∀ l:List aa6,(∀ x∈l,x∈aZ)->aa6.dr1 wh l al=(aa6.bk7 l al).all fun p=>ak6 wh p.1 p.2:=by
  intro l
  induction l with
  | nil=>intro _; rfl
  | cons x l ih2=>
   intro h;have hx:=h x zo;simp only[aa6.dr1,aa6.bk7,List.all_append];rw[ih x hx (by have:=aa6.bx2 hx; omega),ih2 fun y hy=>h y (zg _ hy)]
 exact this aZ fun _ h=>h
theorem et5 (r:aa6)(wh:Int):au8 r wh=if wh<1\/3<wh then 1 else if r.count>24 then 40 else if r.depth>8 then 21 else if r.cv6 wh false=false then 4 else 0:=by
 unfold au8;by_cases h1:wh<1\/3<wh
 ·rw[if_pos h1,if_pos h1]
 rw[if_neg h1,if_neg h1];by_cases h2:r.count>24
 ·rw[if_pos h2,if_pos h2]
 rw[if_neg h2,if_neg h2];by_cases h3:r.depth>8
 ·rw[if_pos h3,if_pos h3]
 rw[if_neg h3,if_neg h3,aa6.fx3 om om r om];cases h:(r.parts false).all fun p=>ak6 wh p.1 p.2<;>simp
end Go.Id.Md
namespace Go.Id.Md
open Go Go.Id
def headD (k:Int)(n:Nat):Bool :=
 if k=2\/k=3\/k=6 then decide (2<=n) else if k=4\/k=5 then decide (n=2\/n=3) else if k=7 then decide (n=2) else false
mutual
def aa6.part:aa6->Bool
 | .mk k d aZ=>if k=1 then ai4 d&&decide (aZ.length=0) else headD k aZ.length&&(aa6.ht8 aZ&&decide (d=by2))
def aa6.ht8:List aa6->Bool
 | []=>true
 | r::rs=>r.part&&aa6.ht8 rs
end
theorem aa6.ej9 (aZ:List aa6):aa6.ht8 aZ=aZ.all aa6.part:=by
 induction aZ with
 | nil=>rfl
 | cons r rs ih=>simp only[aa6.ht8,qi,ih]
theorem aa6.go4 (aZ:List aa6):∀ p d:Nat,(∀ a∈aZ,a.ms=(a.count,a.depth,true))->aa6.msL aZ p d true=(p+aa6.counts aZ,max d (aa6.ax2 aZ),true):=by
 induction aZ with
 | nil=>intro p d _; simp[aa6.msL,aa6.counts,aa6.ax2]
 | cons r rs ih=>
  intro p d h;have hr:=h r zo;simp only[aa6.msL,if_pos,hr,aa6.counts];rw[ih _ _ fun a ha=>h a (zg _ ha)];simp only[aa6.ax2,Nat.add_assoc,Nat.max_assoc]
theorem aa6.et9 (r:aa6):r.ms.2.2=true->r.ms=(r.count,r.depth,true):=by
 induction r using aa6.ind with
 | h k d aZ ih=>
  intro h;unfold aa6.ms at h ⊢;by_cases hk:k=1
  ·rw[if_pos hk] at h ⊢;simp only[za,decide_eq_true_eq] at h;have e:aZ=[]:=zz.1 h.1;subst e;simp[aa6.count,aa6.counts,aa6.depth,hk,h.2]
  ·rw[if_neg hk] at h ⊢;obtain ⟨h1,h2⟩:=aa6.gp1 _ _ _ _ h;have e:=aa6.go4 aZ 1 0 fun a ha=>ih a ha (h2 a ha)
   rw[h1] at h ⊢;rw[e];simp only[aa6.count,aa6.depth,hk,if_false];rw[Nat.zero_max,Nat.add_comm]
theorem ht9 {k:Int}{n:Nat}(hn:n<=24)(d:Dep)(h1:k≠1):aq7 k d n=(headD k n&&decide (d=by2)):=by
 by_cases hk:k=2\/k=3\/k=4\/k=5\/k=6\/k=7
 ·by_cases hd:d=by2
  ·rw[zu];unfold aq7 headD cv9;rcases hk with rfl|rfl|rfl|rfl|rfl|rfl<;>simp only[hd,za,decide_eq_true_eq,Int.reduceEq,false_or,or_false,or_self,true_or,or_true,if_true,if_false,reduceCtorEq,decide_true,and_true,true_and,Int.reduceLT,Int.reduceLE]<;>omega
  ·simp[aq7,hd]
 ·have e1:¬ (k=2\/k=3\/k=6):=om
  have e2:¬ (k=4\/k=5):=om
  have e3:¬ k=7:=om
  unfold headD;rw[if_neg e1,if_neg e2,if_neg e3,Bool.false_and];unfold aq7;by_cases h:1<k
  ·simp[show ¬ k<=7 by omega]
  ·simp[h]
theorem aa6.jk2 (aZ:List aa6):aZ.length<=aa6.counts aZ:=by
 induction aZ with
 | nil=>simp[aa6.counts]
 | cons r rs ih=>cases r; simp only[aa6.counts,aa6.count,zm]; omega
theorem aa6.go5 (r:aa6):r.count<=24->r.part=r.ms.2.2:=by
 induction r using aa6.ind with
 | h k d aZ ih=>
  intro hc;simp only[aa6.count] at hc;have hl:=aa6.jk2 aZ;unfold aa6.part aa6.ms;by_cases hk:k=1
  ·rw[if_pos hk,if_pos hk,Bool.and_comm]
  ·rw[if_neg hk,if_neg hk,aa6.ej9,zu];have hd:=ht9 (k:=k) (n:=aZ.length) om d hk;have ih':∀ a∈aZ,a.part=a.ms.2.2:=fun a ha=>ih a ha (by have:=aa6.bx2 ha; omega)
   simp only[za,z3];constructor
   ·rintro ⟨h1,h2,h3⟩;have e:=aa6.go4 aZ 1 0 fun a ha=>aa6.et9 a (by rw[<- ih' a ha]; exact h2 a ha)
    rw[hd,h1,h3,Bool.and_self,e]
   ·intro h;obtain ⟨h1,h2⟩:=aa6.gp1 _ _ _ _ h;rw[hd,za] at h1;exact ⟨h1.1,fun a ha=>by rw[ih' a ha]; exact h2 a ha,h1.2⟩
theorem go6 (r:aa6):by7 r=(r.part&&decide (r.count<=24)&&decide (r.depth<=8)):=by
 unfold by7;rw[zu];simp only[za,decide_eq_true_eq];constructor
 ·rintro ⟨⟨h1,h2⟩,h3⟩;have e:=aa6.et9 r h1;rw[e] at h2 h3;exact ⟨⟨by rw[aa6.go5 r h2]; exact h1,h2⟩,h3⟩
 ·rintro ⟨⟨h1,h2⟩,h3⟩;rw[aa6.go5 r h2] at h1;have e:=aa6.et9 r h1;rw[e];exact ⟨⟨rfl,h2⟩,h3⟩
theorem dd3 (c:Nat)(zs:List Int):(stB c zs).length=c:=by unfold stB; rw[zy,z7]
theorem dy1 (c:Nat)(zs:List Int)(n:Nat):(stB c zs).getD n false=(decide (n<c)&&decide ((n:Int)∈zs)):=by
 unfold stB;by_cases h:n<c
 ·simp[zh,h]
 ·simp[zh,h]
theorem go7 (c n:Nat):dy6 c n=stB c [(n:Int)]:=by
 unfold dy6 stB;refine List.map_congr_left fun m _=>?_
 rw[decide_eq_decide,qp];omega
theorem go8 (c:Nat)(zs:List Int)(f:Nat->Bool):gp3 (stB c zs) f=zs.any fun z=>decide (0<=z)&&decide (z<c)&&f z.toNat:=by
 unfold gp3;rw[dd3,zu,z2,z2];constructor
 ·rintro ⟨n,hn,h⟩;rw[za,dy1,za,decide_eq_true_eq,decide_eq_true_eq] at h;refine ⟨n,h.1.2,?_⟩;simp[h.2,h.1.1]
 ·rintro ⟨z,hz,h⟩;simp only[za,decide_eq_true_eq] at h;obtain ⟨⟨h1,h2⟩,h3⟩:=h;have e:(z.toNat:Int)=z:=qq h1;refine ⟨z.toNat,ze.2 om,?_⟩;rw[za,dy1,za,decide_eq_true_eq,decide_eq_true_eq];exact ⟨⟨om,by rw[e]; exact hz⟩,h3⟩
theorem iu1 (l:List aa3)(d:Dep)(zs:List Int):((aj7 l d).any fun n=>(stB l.length zs).getD n.toNat false)=zs.any fun z=>decide (0<=z)&&decide (z<l.length)&&provides (l.getD z.toNat default) d:=by
 rw[zu,z2,z2];constructor
 ·rintro ⟨n,hn,h⟩;obtain ⟨m,rfl,h1,h2⟩:=ao3.1 hn;rw[dy1,za,decide_eq_true_eq,decide_eq_true_eq,qd] at h;refine ⟨m,h.2,?_⟩;simp only[qd,h2];simp[h1]
 ·rintro ⟨z,hz,h⟩;simp only[za,decide_eq_true_eq] at h;obtain ⟨⟨h1,h2⟩,h3⟩:=h;have e:(z.toNat:Int)=z:=qq h1;refine ⟨z,ao3.2 ⟨z.toNat,e.symm,om,h3⟩,?_⟩;rw[dy1,e,za,decide_eq_true_eq,decide_eq_true_eq];exact ⟨om,hz⟩
end Go.Id.Md
namespace Go.Id.Md
open Go Go.Id
theorem cx9 {p:UInt8->Bool}(l:Str):(l.dropWhile p).length<=l.length:=by
 induction l with
 | nil=>exact zr _
 | cons a l ih=>
  rw[z6];split
  ·exact zv ih (Nat.le_succ _)
  ·exact zr _
theorem eu2:∀ (n m:Nat) (l:Str),l.length<=n->l.length<=m->ax1 n l=ax1 m l:=by
 intro n
 induction n with
 | zero=>
  intro m l h1 _;have:l=[]:=zz.1 (Nat.le_zero.1 h1);subst this
  cases m<;>rfl
 | succ n ih=>
  intro m l h1 h2
  cases l with
  | nil=>cases m<;>rfl
  | cons b l=>
   cases m with
   | zero=>simp at h2
   | succ m=>
    simp only[zm] at h1 h2
    have hd:ad7 b=ad7 b->((b::l).dropWhile fun c=>ad7 c==ad7 b).length<=l.length:=fun _=>by
     rw[z6,if_pos (by simp)];exact cx9 l
    have hd:=hd rfl;simp only[ax1];rw[ih m l om om,ih m _ (zv hd om) (zv hd om)]
def gc8 (b:UInt8)(l:Str):Nat:=(l.takeWhile fun c=>ad7 c==ad7 b).length
theorem fy4:ab9 []=[]:=rfl
theorem ff1 {b:UInt8}{l:Str}(h:ad7 b=0):ab9 (b::l)=ab9 l:=by
 unfold ab9;simp only[zm,ax1,h,if_true]
theorem ff2 {b:UInt8}{l:Str}(h:ad7 b≠0)(h4:ad7 b<4):ab9 (b::l)=⟨ad7 b,[]⟩::ab9 l:=by
 unfold ab9;simp only[zm,ax1,h,h4,if_true,if_false]
theorem cy1 (p:UInt8->Bool)(l:Str):l.takeWhile p=l.take (l.takeWhile p).length/\l.dropWhile p=l.drop (l.takeWhile p).length:=by
 induction l with
 | nil=>exact ⟨rfl,rfl⟩
 | cons a l ih=>
  rw[z5,z6]
  cases h:p a with
  | true=>
   simp only[if_true,zm,qo,List.drop_succ_cons]
   exact ⟨by rw[<- ih.1],ih.2⟩
  | false=>simp
theorem ff3 {b:UInt8}{l:Str}(h4:¬ ad7 b<4):ab9 (b::l)=⟨ad7 b,if ad7 b=5 then ((b::l).take (gc8 b l+1)).dropWhile (· == 48) else (b::l).take (gc8 b l+1)⟩::ab9 (l.drop (gc8 b l)):=by
 have h0:ad7 b≠0:=om
 unfold ab9;simp only[zm,ax1,h0,h4,if_false]
 have e1:(b::l).takeWhile (fun c=>ad7 c==ad7 b)=(b::l).take (gc8 b l+1):=by
  rw[z5,if_pos (by simp),qo,(cy1 (fun c=>ad7 c==ad7 b) l).1];unfold gc8; rw[<- (cy1 (fun c=>ad7 c==ad7 b) l).1]
 have e2:(b::l).dropWhile (fun c=>ad7 c==ad7 b)=l.drop (gc8 b l):=by
  rw[z6,if_pos (by simp)];exact (cy1 (fun c=>ad7 c==ad7 b) l).2
 rw[e1,e2,eu2 l.length (l.drop (gc8 b l)).length _ (by rw[List.length_drop]; omega) (zr _)]
theorem jk7 {p:UInt8->Bool}:∀ (l:Str) (m:Nat),m<(l.takeWhile p).length->∃ c,l[m]? = some c/\p c=true:=by
 intro l
 induction l with
 | nil=>intro m h; simp at h
 | cons a l ih=>
  intro m h;rw[z5] at h
  cases hp:p a with
  | false=>rw[hp] at h; simp at h
  | true=>
   rw[hp] at h
   cases m with
   | zero=>exact ⟨a,rfl,hp⟩
   | succ m=>exact ih m (by simpa using h)
theorem jk8 {p:UInt8->Bool}:∀ (l:Str) (c:UInt8),l[(l.takeWhile p).length]? = some c->p c=false:=by
 intro l
 induction l with
 | nil=>intro c h; simp at h
 | cons a l ih=>
  intro c h;rw[z5] at h
  cases hp:p a with
  | false=>rw[hp] at h; simp at h; rw[<- h]; exact hp
  | true=>rw[hp] at h; exact ih c (by simpa using h)
theorem ik6 {b:UInt8}{l:Str}{m:Nat}(h:m<gc8 b l):∃ c,l[m]? = some c/\ad7 c=ad7 b:=by
 obtain ⟨c,h1,h2⟩:=jk7 l m h;exact ⟨c,h1,by simpa using h2⟩
theorem ik7 {b:UInt8}{l:Str}{c:UInt8}(h:l[gc8 b l]? = some c):ad7 c≠ad7 b:=by
 have:=jk8 l c h
 simpa using this
theorem ik8 (b:UInt8)(l:Str):gc8 b l<=l.length:=(List.takeWhile_sublist _).length_le
end Go.Id.Md
