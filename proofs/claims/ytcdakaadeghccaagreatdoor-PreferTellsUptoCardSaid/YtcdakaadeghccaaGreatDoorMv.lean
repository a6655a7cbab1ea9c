/- The document's data,and what functions give,in plain words. Conditions: none; no program in sight. -/
import Derived.Test.YtcdakaadeghccaaGreatDoorFwQ
open Bool renaming and_eq_true→za,eq_iff_iff→zm,or_eq_true→qa,true_and→qn,and_comm→qo,not_eq_true'→q7
open List renaming mem_cons→zb,mem_cons_of_mem→zc,getD_eq_getElem?_getD→zd,mem_cons_self→ze,map_cons→zf,all_eq_true→zg,nodup_cons→zh,length_cons→zi,mem_singleton→zj,getElem_mem→zk,mem_map→zl,any_eq_true→zn,length_map→zo,nodup_nil→zp,mem_range→zq,cons_append→zr,nil_append→zt,mem_append→zu,map_append→zv,length_append→zw,takeWhile_cons→zx,dropWhile_cons→zy,perm_ext_iff_of_nodup→z0,flatMap_cons→z1,Pairwise→z3,length_eq_zero_iff→z5,range→z6,map_map→z7,mem_filter→z9,mem_iff_getElem→qb,mergeSort_perm→qc,pairwise_cons→qd,filter_congr→qe,foldl_cons→qf,find?_cons→qg,attach_map_subtype_val→qh,replicate→qi,pairwise_iff_getElem→qj,mem_drop_iff_getElem→qk,getElem?_eq_getElem→ql,all_cons→qm,pairwise_mergeSort→qp,length_filter_le→qq,filterMap_append→qr,not_lt→qt,mem_of_getElem?→qu,mem_append_left→qv,map→qw,take_succ_cons→qx,map_congr_left→qy,filterMap_cons→qz,map_mergeSort→q0,filter_append→q3,nodup_append→q5
open Function renaming comp_def→zz
open Nat renaming le_refl→z2,le_trans→z8
open Int renaming toNat_natCast→z4,toNat_of_nonneg→q4
open Decidable renaming em→q6
set_option linter.all false
private theorem om{P:Prop}(h:P:=by omega):P:=h
namespace Go.Id.Md
open Go Go.Id
abbrev Str:=List UInt8
structure EVR where
 ak4:Int
 ver:Str
 rel:Str
 deriving DecidableEq,Inhabited
structure Dep where
 name:Str
 op:Int
 evr:EVR
 deriving DecidableEq,Inhabited
inductive aa6 where
 | mk (kind:Int) (dep:Dep) (args:List aa6)
 deriving Inhabited
def aa6.kind:aa6->Int|.mk k _ _=>k
def aa6.dep:aa6->Dep|.mk _ d _=>d
def aa6.args:aa6->List aa6|.mk _ _ a=>a
structure aa2 where
 name:Str
 evr:EVR
 aj1:Int
 vendor:Str
 provides:List Dep
 requires:List aa6
 conflicts:List aa6
 ab2:List Dep
 ac6:List aa6
 ac2:List aa6
 suggests:List aa6
 ac1:List aa6
 files:List Str
 deriving Inhabited
structure am5 where
 priority:Int
 packages:List aa2
 deriving Inhabited
def EVR.fit (e:EVR):Prop:=e.ver.length<2^62/\e.rel.length<2^62
def Dep.fit (d:Dep):Prop:=d.name.length<2^62/\d.evr.fit
theorem aa6.ind {p:aa6->Prop}(h:∀ k d aZ,(∀ a∈aZ,p a)->p (.mk k d aZ))(r:aa6):p r :=
 aa6.rec (motive_1:=p) (motive_2:=fun l=>∀ a∈l,p a) (fun k d aZ ih=>h k d aZ ih) (fun _ h=>by cases h) (fun r rs h1 h2 a ha=>by
  rcases zb.1 ha with rfl|h
  ·exact h1
  ·exact h2 a h) r
mutual
def aa6.fit:aa6->Prop
 | .mk k d aZ=>0<=k/\k<256/\d.fit/\aZ.length<2^31/\aa6.fits aZ
def aa6.fits:List aa6->Prop
 | []=>True
 | r::rs=>r.fit/\aa6.fits rs
end
theorem aa6.hb7 (l:List aa6):aa6.fits l↔∀ r∈l,r.fit:=by
 induction l with
 | nil=>simp[aa6.fits]
 | cons r rs ih=>simp[aa6.fits,ih]
theorem aa6.ca5 {k:Int}{d:Dep}{aZ:List aa6}:(aa6.mk k d aZ).fit↔0<=k/\k<256/\d.fit/\aZ.length<2^31/\∀ r∈aZ,r.fit:=by
 simp only[aa6.fit,aa6.hb7]
def EVR.cs (e:EVR):List IV:=[.int .i64 e.ak4,.str e.ver,.str e.rel]
def Dep.cs (d:Dep):List IV:=[.str d.name,.int .u8 d.op,.int .i64 d.evr.ak4,.str d.evr.ver,.str d.evr.rel]
mutual
def aa6.cs:aa6->List IV
 | .mk k d aZ=>[.int .u8 k,.str d.name,.int .u8 d.op,.int .i64 d.evr.ak4,.str d.evr.ver,.str d.evr.rel,.aa4 (aa6.css aZ)]
def aa6.css:List aa6->List (List IV)
 | []=>[]
 | r::rs=>r.cs::aa6.css rs
end
theorem aa6.il8 (l:List aa6):aa6.css l=l.map aa6.cs:=by
 induction l with
 | nil=>rfl
 | cons r rs ih=>simp only[aa6.css,ih,zf]
theorem aa6.aq6 (r:aa6):r.cs=[.int .u8 r.kind,.str r.dep.name,.int .u8 r.dep.op,.int .i64 r.dep.evr.ak4,.str r.dep.evr.ver,.str r.dep.evr.rel,.aa4 (r.args.map aa6.cs)]:=by
 cases r with
 | mk k d aZ=>simp only[aa6.cs,aa6.il8,aa6.kind,aa6.dep,aa6.args]
def bs8 (s:Str):List IV:=[.str s]
abbrev deps (l:List Dep):IV:=.aa4 (l.map Dep.cs)
abbrev af1 (l:List aa6):IV:=.aa4 (l.map aa6.cs)
abbrev strs (l:List Str):IV:=.aa4 (l.map bs8)
def aa2.cs (p:aa2):List IV :=
 [.str p.name,.int .i64 p.evr.ak4,.str p.evr.ver,.str p.evr.rel,.int .u8 p.aj1,.str p.vendor,deps p.provides,af1 p.requires,af1 p.conflicts,deps p.ab2,af1 p.ac6,af1 p.ac2,af1 p.suggests,af1 p.ac1,strs p.files]
def am5.cs (r:am5):List IV:=[.int .i64 r.priority,.aa4 (r.packages.map aa2.cs)]
def aa2.rows (p:aa2):List (Int×List aa6):=[(1,p.requires),(2,p.conflicts),(1,p.ac6),(3,p.ac2),(1,p.suggests),(3,p.ac1)]
def signs:Str:=[97,98,99,100,101,102,103,104,105,106,107,108,109,110,111,112,113,114,115,116,117,118,119,120,121,122,65,66,67,68,69,70,71,72,73,74,75,76,77,78,79,80,81,82,83,84,85,86,87,88,89,90,48,49,50,51,52,53,54,55,56,57,46,95,43,45,47,58,64,126,94]
def gf3 (b:UInt8):Bool:=(decide (97<=b.toNat)&&decide (b.toNat<=122))||(decide (65<=b.toNat)&&decide (b.toNat<=90))||(decide (48<=b.toNat)&&decide (b.toNat<=57))
def bc7 (b:UInt8):Bool:=signs.contains b
def words:List Str:=[[97,110,100],[111,114],[105,102],[101,108,115,101],[117,110,108,101,115,115],[119,105,116,104],[119,105,116,104,111,117,116]]
def as1 (s:Str):Bool:=decide (1<=s.length)&&decide (s.length<=64)&&s.all bc7&&!words.contains s
def bg3 (s:Str):Bool:=as1 s&&(s.head? == some 47)
def bk7 (b:UInt8):Bool:=gf3 b || [46,95,43,126,94].contains b
def aw1 (s:Str):Bool:=decide (1<=s.length)&&decide (s.length<=64)&&s.all bk7
def bc8 (e:EVR)(dep:Bool):Bool:=decide (0<=e.ak4)&&decide (e.ak4<=2147483647)&&aw1 e.ver&&(aw1 e.rel||dep&&e.rel.isEmpty)
def dr6 (op:Int):Bool:=[0,1,2,3,4,6].contains op
def gf4:EVR:=⟨0,[],[]⟩
def cq3:Dep:=⟨[],0,gf4⟩
def ak5 (d:Dep):Bool:=as1 d.name&&dr6 d.op&&(if d.op=0 then decide (d.evr=gf4) else !bg3 d.name&&bc8 d.evr true)
def ad2 (b:UInt8):Nat:=if b=126 then 1 else if b=94 then 3 else if decide (97<=b)&&decide (b<=122)||decide (65<=b)&&decide (b<=90) then 4 else if decide (48<=b)&&decide (b<=57) then 5 else 0
structure Part where
 kind:Nat
 s:Str
 deriving DecidableEq,Inhabited
def au4:Nat->Str->List Part
 | 0,_=>[]
 | _+1,[]=>[]
 | n+1,b::l=>
  if ad2 b=0 then au4 n l
  else if ad2 b<4 then ⟨ad2 b,[]⟩::au4 n l
  else ⟨ad2 b,if ad2 b=5 then ((b::l).takeWhile fun c=>ad2 c==ad2 b).dropWhile (· == 48) else (b::l).takeWhile fun c=>ad2 c==ad2 b⟩::au4 n ((b::l).dropWhile fun c=>ad2 c==ad2 b)
def ab7 (s:Str):List Part:=au4 s.length s
def al7 (a b:Int):Int:=if a<b then -1 else if a=b then 0 else 1
def cm4 (a b:Str):Int:=if Op.bytesLess a b then -1 else if a=b then 0 else 1
def ae8 (a b:Part):Int :=
 let k:=al7 a.kind b.kind
 if k≠0 then k else
 let n:=if a.kind=5/\b.kind=5 then al7 a.s.length b.s.length else 0
 if n≠0 then n else cm4 a.s b.s
def af9:List Part->List Part->Int
 | a::aZ,b::bs=>if ae8 a b≠0 then ae8 a b else af9 aZ bs
 | _,_=>0
def ao6 (a b:Str):Int:=af9 (ab7 a++[⟨2,[]⟩]) (ab7 b++[⟨2,[]⟩])
def ai5 (a b:EVR):Int :=
 if al7 a.ak4 b.ak4≠0 then al7 a.ak4 b.ak4 else
 if ao6 a.ver b.ver≠0 then ao6 a.ver b.ver else
 if a.rel=[]\/b.rel=[] then 0 else ao6 a.rel b.rel
def bit (op:Int)(i:Nat):Bool:=(op.toNat).testBit i
def side (n:Int):Nat:=if n<0 then 0 else if n=0 then 1 else 2
def meet (a b:Dep):Bool :=
 if a.op.toNat%8=0\/b.op.toNat%8=0 then true else
 let n:=ai5 a.evr b.evr
 if n=0 then bit a.op 0&&bit b.op 0||bit a.op 1&&bit b.op 1||bit a.op 2&&bit b.op 2
 else bit a.op (side (-n))||bit b.op (side n)
mutual
def aa6.count:aa6->Nat
 | .mk _ _ aZ=>aa6.counts aZ+1
def aa6.counts:List aa6->Nat
 | []=>0
 | r::rs=>r.count+aa6.counts rs
end
mutual
def aa6.depth:aa6->Nat
 | .mk k _ aZ=>if k=1 then 0 else aa6.bc9 aZ+1
def aa6.bc9:List aa6->Nat
 | []=>0
 | r::rs=>max r.depth (aa6.bc9 rs)
end
-- All parts,and whether each stands within a With,or a Without.
mutual
def aa6.parts:aa6->Bool->List (aa6×Bool)
 | .mk k d aZ,alone=>(.mk k d aZ,alone)::aa6.aw2 aZ (alone||decide (k=6)||decide (k=7))
def aa6.aw2:List aa6->Bool->List (aa6×Bool)
 | [],_=>[]
 | r::rs,alone=>r.parts alone++aa6.aw2 rs alone
end
def asks (k:Int):Nat×Nat×Bool×Nat :=
 if k=1 then (0,0,true,3) else if k=2 then (2,24,true,3) else if k=3 then (2,24,true,3) else if k=4 then (2,3,false,1)
 else if k=5 then (2,3,false,2) else if k=6 then (2,24,true,3) else if k=7 then (2,2,true,3) else (0,0,false,0)
def ai6 (wh:Int)(r:aa6)(alone:Bool):Bool :=
 let x:=asks r.kind
 !(decide ((x.2.2.2:Int)<wh)||alone&&!x.2.2.1||decide (r.args.length<x.1)||decide (x.2.1<r.args.length)) &&
 (if r.kind=1 then ak5 r.dep else decide (r.dep=cq3))
def ar2 (r:aa6)(wh:Int):Int :=
 if wh<1\/3<wh then 1 else if r.count>24 then 40 else if r.depth>8 then 21 else if (r.parts false).all fun p=>ai6 wh p.1 p.2 then 0 else 4
mutual
def aa6.same:aa6->aa6->Bool
 | .mk k d aZ,.mk k' d' as'=>decide (k=k')&&decide (d=d')&&aa6.il9 aZ as'
def aa6.il9:List aa6->List aa6->Bool
 | [],[]=>true
 | r::rs,s::ss=>r.same s&&aa6.il9 rs ss
 | _,_=>false
end
structure aa2.Fit (p:aa2):Prop where
 name:p.name.length<2^62
 evr:p.evr.fit
 ax2:p.provides.length<2^31/\∀ d∈p.provides,d.fit
 obs:p.ab2.length<2^31/\∀ d∈p.ab2,d.fit
 files:p.files.length<2^31/\∀ s∈p.files,s.length<2^62
 rich:∀ x∈p.rows,x.2.length<2^31/\∀ r∈x.2,r.fit/\r.count<2^31
def ak8 (a:Int):Bool:=decide (1<=a)&&decide (a<=4)
def rising:List Str->Bool
 | a::b::l=>Op.bytesLess a b&&rising (b::l)
 | _=>true
def ao7 (l:List aa6)(wh:Int):Bool:=decide (l.length<=32)&&l.all fun r=>decide (ar2 r wh=0)
def ah8 (p:aa2):Bool :=
 as1 p.name&&!bg3 p.name&&bc8 p.evr false&&ak8 p.aj1&&decide (p.vendor.length<=64) &&
 (decide (p.provides.length<=32)&&p.provides.all ak5)&&(decide (p.ab2.length<=32)&&p.ab2.all ak5)&&(decide (p.files.length<=32)&&p.files.all bg3) &&
 rising p.files&&ao7 p.requires 1&&ao7 p.conflicts 2&&ao7 p.ac6 1&&ao7 p.ac2 3&&ao7 p.suggests 1&&ao7 p.ac1 3
def own (p:aa2):Dep:=⟨p.name,2,p.evr⟩
def meets (a d:Dep):Bool:=decide (a.name=d.name)&&meet a d
def named (p:aa2)(d:Dep):Bool:=meets (own p) d
def provides (p:aa2)(d:Dep):Bool:=named p d||p.provides.any (fun a=>meets a d)||decide (d.op=0)&&p.files.contains d.name
def ab2 (p q:aa2):Bool:=p.ab2.any fun d=>named q d
def im1 (l m:List aa6):Bool:=aa6.il9 l m
end Go.Id.Md
namespace Go.Id.Md
open Go Go.Id
structure az3 where
 pkg:aa2
 dl9:Int
 prio:Int
def az3.cs (r:az3):List IV:=r.pkg.cs++[.int .i64 r.dl9,.int .i64 r.prio]
abbrev Nms:=List (Str×List Int)
def ar5:Nms->Str->Int->Nms
 | [],k,n=>[(k,[n])]
 | t::ts,k,n=>if k=t.1 then (k,t.2++[n])::ts else t::ar5 ts k n
def dc6:Nms->Nat->List aa2->Nms
 | nm,_,[]=>nm
 | nm,n,p::ps=>dc6 (ar5 nm p.name n) (n+1) ps
def ae4 (n:Int):List IV:=[.int .i64 n]
def nmV (nm:Nms):List (IV×IV):=nm.map fun t=>(.str t.1,.aa4 (t.2.map ae4))
structure Pool where
 rows:List az3
 inst:Int
 nm:Nms
def Pool.v (p:Pool):IV:=.ab5 [.aa4 (p.rows.map az3.cs),.int .i64 p.inst,.an9 (nmV p.nm)]
def rowsOf (l:List aa2)(dl9 prio:Int):List az3:=l.map fun p=>⟨p,dl9,prio⟩
theorem en6 (l:List aa2)(x:aa2)(a b:Int):rowsOf (l++[x]) a b=rowsOf l a b++[⟨x,a,b⟩]:=by simp[rowsOf]
theorem bs9 (l:List aa2)(a b:Int):(rowsOf l a b).length=l.length:=by simp[rowsOf]
def aj9:Nat->List am5->List az3×Nms->Option (List az3×Nms)
 | _,[],st=>some st
 | i,r::rs,st=>if r.priority<0\/1024<r.priority\/r.packages.all ah8=false then none else aj9 (i+1) rs (st.1++rowsOf r.packages i r.priority,dc6 st.2 st.1.length r.packages)
def af5 (l:List am5):Nat:=(l.map fun r=>r.packages.length).sum
def ce2 (ab3:List am5)(inst:List aa2):Pool ⊕ Int :=
 if 16<ab3.length\/256<inst.length+af5 ab3 then .inr 40 else
 if inst.all ah8=false then .inr 4 else
 match aj9 0 ab3 (rowsOf inst (-1) 1025,dc6 [] 0 inst) with
 | some (rows,nm)=>.inl ⟨rows,inst.length,nm⟩
 | none=>.inr 4
def jd1 (r:Pool ⊕ Int):IV:=match r with
 | .inl p=>.tuple [p.v,.int .i64 0]
 | .inr e=>.tuple [.ae7,.int .i64 e]
abbrev NmL:=List (Str×List Int×Nat)
def mEs (L:NmL):List (IV×IV):=L.map fun t=>(.str t.1,.slice t.2.2 0 t.2.1.length 1)
def ba9 (L:NmL):Nms:=L.map fun t=>(t.1,t.2.1)
def bb8:NmL->Str->Int->Nat->NmL
 | [],k,n,nid=>[(k,[n],nid)]
 | t::ts,k,n,nid=>if k=t.1 then (k,t.2.1++[n],nid)::ts else t::bb8 ts k n nid
def cy2 (L:NmL)(k:Str):IV:=match L.find? (fun t=>decide (k=t.1)) with
 | some t=>.slice t.2.2 0 t.2.1.length 1
 | none=>.aa1
def ce3 (L:NmL)(k:Str):List Int:=match L.find? (fun t=>decide (k=t.1)) with
 | some t=>t.2.1
 | none=>[]
theorem ct9 (L:NmL)(k:Str)(n:Int)(nid:Nat):ba9 (bb8 L k n nid)=ar5 (ba9 L) k n:=by
 induction L with
 | nil=>rfl
 | cons t ts ih=>
  simp only[bb8,ba9,zf,ar5];split
  ·rfl
  ·rw[zf]; congr 1
theorem jd2 (L:NmL)(k:Str):(az5 2 (.str k) (mEs L)).map (fun r=>r.getD .aa1)=some (cy2 L k):=by
 induction L with
 | nil=>rfl
 | cons t ts ih=>
  simp only[mEs,zf,az5,ev7,cy2,qg] at ih ⊢;by_cases h:k=t.1
  ·simp[h]
  ·simp only[h,decide_false] at ih ⊢;exact ih
theorem im2 (L:NmL)(k:Str):∃ r,az5 2 (.str k) (mEs L)=some r/\r.getD .aa1=cy2 L k:=by
 have:=jd2 L k
 cases h:az5 2 (.str k) (mEs L) with
 | none=>rw[h] at this; cases this
 | some r=>rw[h] at this; exact ⟨r,rfl,by simpa using this⟩
theorem jq5 (L:NmL)(k:Str)(n:Int)(nid:Nat):fg6 2 (.str k) (.slice nid 0 ((ce3 L k).length+1) 1) (mEs L)=some (mEs (bb8 L k n nid)):=by
 induction L with
 | nil=>rfl
 | cons t ts ih=>
  simp only[mEs,zf,fg6,ev7,ce3,qg,bb8] at ih ⊢;by_cases h:k=t.1
  ·simp[h]
  ·simp only[h,decide_false,if_false,zf] at ih ⊢;rw[ih]; rfl
theorem dr7 {k:Str}{n:Int}{nid:Nat}:∀ {L:NmL},(L.map (·.1)).Nodup->∀ t∈bb8 L k n nid,(t∈L/\t.1≠k)\/t=(k,ce3 L k++[n],nid):=by
 intro L
 induction L with
 | nil=>intro _ t ht; simp[bb8] at ht; exact .inr (by rw[ht]; rfl)
 | cons u us ih=>
  intro hk t ht;rw[zf,zh] at hk;simp only[bb8] at ht;by_cases h:k=u.1
  ·rw[if_pos h] at ht;rcases zb.1 ht with rfl|ht
   ·right; simp[ce3,h]
   ·left;exact ⟨zc _ ht,fun e=>hk.1 (by rw[<- h,<- e]; exact List.mem_map_of_mem (f:=fun x:Str×List Int×Nat=>x.1) ht)⟩
  ·rw[if_neg h] at ht;rcases zb.1 ht with rfl|ht
   ·left; exact ⟨ze ..,fun e=>h e.symm⟩
   ·have e:ce3 (u::us) k=ce3 us k:=by simp[ce3,h]
    rw[e];rcases ih hk.2 t ht with ⟨h1,h2⟩|h1
    ·exact .inl ⟨zc _ h1,h2⟩
    ·exact .inr h1
theorem ex2 {k:Str}{n:Int}{nid:Nat}:∀ (L:NmL),(L.map (·.1)).Nodup->((bb8 L k n nid).map (·.1)).Nodup/\∀ x∈(bb8 L k n nid).map (·.1),x=k\/x∈L.map (·.1):=by
 intro L
 induction L with
 | nil=>intro _; simp[bb8]
 | cons u us ih=>
  intro hk;rw[zf,zh] at hk;simp only[bb8];by_cases h:k=u.1
  ·rw[if_pos h];refine ⟨?_,?_⟩
   ·rw[zf,zh]; exact ⟨by rw[h]; exact hk.1,hk.2⟩
   ·intro x hx;simp only[zf,zb] at hx ⊢;rcases hx with h1|h1
    ·exact .inl h1
    ·exact .inr (.inr h1)
  ·rw[if_neg h];obtain ⟨h1,h2⟩:=ih hk.2;refine ⟨?_,?_⟩
   ·rw[zf,zh];refine ⟨fun hm=>?_,h1⟩;rcases h2 _ hm with e|e
    ·exact h e.symm
    ·exact hk.1 e
   ·intro x hx;simp only[zf,zb] at hx ⊢;rcases hx with h3|h3
    ·exact .inr (.inl h3)
    ·rcases h2 _ h3 with e|e
     ·exact .inl e
     ·exact .inr (.inr e)
theorem gf5 {k:Str}{n:Int}{nid:Nat}:∀ (L:NmL),(L.map (·.2.2)).Nodup->nid ∉ L.map (·.2.2)->((bb8 L k n nid).map (·.2.2)).Nodup/\∀ x∈(bb8 L k n nid).map (·.2.2),x=nid\/x∈L.map (·.2.2):=by
 intro L
 induction L with
 | nil=>intro _ _; simp[bb8]
 | cons u us ih=>
  intro hk hn;rw[zf,zh] at hk;simp only[zf,zb,not_or] at hn;simp only[bb8];by_cases h:k=u.1
  ·rw[if_pos h];refine ⟨?_,?_⟩
   ·rw[zf,zh]; exact ⟨hn.2,hk.2⟩
   ·intro x hx;simp only[zf,zb] at hx ⊢;rcases hx with h1|h1
    ·exact .inl h1
    ·exact .inr (.inr h1)
  ·rw[if_neg h];obtain ⟨h1,h2⟩:=ih hk.2 hn.2;refine ⟨?_,?_⟩
   ·rw[zf,zh];refine ⟨fun hm=>?_,h1⟩;rcases h2 _ hm with e|e
    ·exact hn.1 e.symm
    ·exact hk.1 e
   ·intro x hx;simp only[zf,zb] at hx ⊢;rcases hx with h3|h3
    ·exact .inr (.inl h3)
    ·rcases h2 _ h3 with e|e
     ·exact .inl e
     ·exact .inr (.inr e)
theorem ca6 (L:NmL)(k:Str):(cy2 L k=.aa1/\ce3 L k=[])\/∃ t∈L,t.1=k/\cy2 L k=.slice t.2.2 0 t.2.1.length 1/\ce3 L k=t.2.1:=by
 unfold cy2 ce3
 cases h:L.find? (fun t=>decide (k=t.1)) with
 | none=>exact .inl ⟨rfl,rfl⟩
 | some t=>
  have h1:=List.find?_some h;exact .inr ⟨t,List.mem_of_find?_eq_some h,by simpa using (by simpa using h1:k=t.1).symm,rfl,rfl⟩
theorem gf6 {L:NmL}(hk:(L.map (·.1)).Nodup)(hd:(L.map (·.2.2)).Nodup):∀ t∈L,∀ u∈L,t.2.2=u.2.2->t=u:=by
 intro t ht u hu e;obtain ⟨i,hi,h1⟩:=qb.1 ht;obtain ⟨j,hj,h2⟩:=qb.1 hu
 have hij:i=j:=by
  have hi':i<(L.map (·.2.2)).length:=by simpa using hi
  have hj':j<(L.map (·.2.2)).length:=by simpa using hj
  have hp:=qj.1 hd;have e2:(L.map (·.2.2))[i]=(L.map (·.2.2))[j]:=by simp only[List.getElem_map,h1,h2,e]
  rcases Nat.lt_trichotomy i j with h|h|h
  ·exact absurd e2 (hp i j hi' hj' h)
  ·exact h
  ·exact absurd e2.symm (hp j i hj' hi' h)
 subst hij;rw[<- h1,<- h2]
end Go.Id.Md
namespace Go.Id.Md
open Go Go.Id
def ae2:Nms->Str->List Int
 | [],_=>[]
 | t::ts,k=>if k=t.1 then t.2 else ae2 ts k
def KN (nm:Nms):Prop:=(nm.map (·.1)).Nodup
theorem bg4 {nm:Nms}{k:Str}{n:Int}(h:KN nm)(t:Str×List Int):t∈ar5 nm k n↔(t∈nm/\t.1≠k)\/t=(k,ae2 nm k++[n]):=by
 induction nm with
 | nil=>simp[ar5,ae2]
 | cons u us ih=>
  have h':u.1 ∉ us.map (·.1)/\KN us:=by simpa [KN] using h
  simp only[ar5,ae2];by_cases e:k=u.1
  ·rw[if_pos e,if_pos e];subst e;simp only[zb];constructor
   ·rintro (rfl|ht)
    ·exact .inr rfl
    ·exact .inl ⟨.inr ht,fun e=>h'.1 (zl.2 ⟨t,ht,e⟩)⟩
   ·rintro (⟨rfl|ht,hne⟩|rfl)
    ·exact absurd rfl hne
    ·exact .inr ht
    ·exact .inl rfl
  ·rw[if_neg e,if_neg e];simp only[zb,ih h'.2];constructor
   ·rintro (rfl|⟨h1,h2⟩|rfl)
    ·exact .inl ⟨.inl rfl,fun e'=>e e'.symm⟩
    ·exact .inl ⟨.inr h1,h2⟩
    ·exact .inr rfl
   ·rintro (⟨rfl|h1,h2⟩|rfl)
    ·exact .inl rfl
    ·exact .inr (.inl ⟨h1,h2⟩)
    ·exact .inr (.inr rfl)
theorem fr4 {k:Str}{n:Int}:∀ {nm:Nms},∀ x∈(ar5 nm k n).map (·.1),x=k\/x∈nm.map (·.1):=by
 intro nm
 induction nm with
 | nil=>intro x hx; simpa [ar5] using hx
 | cons u us ih=>
  intro x hx;simp only[ar5] at hx;split at hx
  ·rename_i e; simp only[zf,zb] at hx ⊢;rcases hx with h|h
   ·exact .inl h
   ·exact .inr (.inr h)
  ·simp only[zf,zb] at hx ⊢;rcases hx with h|h
   ·exact .inr (.inl h)
   ·rcases ih x h with h|h
    ·exact .inl h
    ·exact .inr (.inr h)
theorem an2 {nm:Nms}{k:Str}{n:Int}(h:KN nm):KN (ar5 nm k n):=by
 induction nm with
 | nil=>simp[KN,ar5]
 | cons u us ih=>
  have h':u.1 ∉ us.map (·.1)/\KN us:=by simpa [KN] using h
  simp only[ar5];split
  ·rename_i e; subst e; exact h
  ·rename_i e;show ((u::ar5 us k n).map (·.1)).Nodup;rw[zf,zh];refine ⟨fun hm=>?_,ih h'.2⟩;rcases fr4 _ hm with h1|h1
   ·exact e h1.symm
   ·exact h'.1 h1
theorem KN.nd {nm:Nms}(h:KN nm):nm.Nodup:=by
 induction nm with
 | nil=>exact zp
 | cons u us ih=>
  have h':u.1 ∉ us.map (·.1)/\KN us:=by simpa [KN] using h
  exact zh.2 ⟨fun hm=>h'.1 (zl.2 ⟨u,hm,rfl⟩),ih h'.2⟩
theorem KN.perm {nm nm':Nms}(h:KN nm)(p:nm.Perm nm'):KN nm':=(p.map (fun x:Str×List Int=>x.1)).nodup_iff.1 h
theorem dm3 {nm:Nms}(h:KN nm){t:Str×List Int}(ht:t∈nm):ae2 nm t.1=t.2:=by
 induction nm with
 | nil=>cases ht
 | cons u us ih=>
  have h':u.1 ∉ us.map (·.1)/\KN us:=by simpa [KN] using h
  simp only[ae2];rcases zb.1 ht with rfl|ht
  ·rw[if_pos rfl]
  ·rw[if_neg (fun e=>h'.1 (zl.2 ⟨t,ht,e⟩))];exact ih h'.2 ht
theorem cy3 {nm:Nms}{k:Str}(h:k ∉ nm.map (·.1)):ae2 nm k=[]:=by
 induction nm with
 | nil=>rfl
 | cons u us ih=>
  simp only[zf,zb,not_or] at h;simp only[ae2];rw[if_neg h.1]; exact ih h.2
theorem cy4 {nm nm':Nms}(h:KN nm)(p:nm.Perm nm')(k:Str):ae2 nm k=ae2 nm' k:=by
 by_cases hk:k∈nm.map (·.1)
 ·obtain ⟨t,ht,rfl⟩:=zl.1 hk;rw[dm3 h ht,dm3 (h.perm p) (p.mem_iff.1 ht)]
 ·rw[cy3 hk,cy3 (fun e=>hk ((p.map (·.1)).mem_iff.2 e))]
theorem bg5 {nm:Nms}(h:KN nm)(k:Str)(n:Int)(j:Str):ae2 (ar5 nm k n) j=if j=k then ae2 nm k++[n] else ae2 nm j:=by
 induction nm with
 | nil=>
  simp only[ar5,ae2]
  split<;>rfl
 | cons u us ih=>
  have h':u.1 ∉ us.map (·.1)/\KN us:=by simpa [KN] using h
  simp only[ar5,ae2];by_cases e:k=u.1
  ·rw[if_pos e,if_pos e];simp only[ae2];by_cases ej:j=k
   ·rw[if_pos ej,if_pos ej]
   ·rw[if_neg ej,if_neg ej,if_neg (fun x=>ej (x.trans e.symm))]
  ·rw[if_neg e,if_neg e];simp only[ae2,ih h'.2];by_cases ej:j=k
   ·rw[if_pos ej,if_pos ej,if_neg (fun x=>e (ej.symm.trans x))]
   ·rw[if_neg ej,if_neg ej]
theorem bt1 {nm nm':Nms}{k:Str}{n:Int}(h:KN nm)(p:nm.Perm nm'):(ar5 nm k n).Perm (ar5 nm' k n):=by
 refine (z0 (an2 h).nd (an2 (h.perm p)).nd).2 fun t=>?_
 rw[bg4 h,bg4 (h.perm p),cy4 h p,p.mem_iff]
theorem fr5 {nm:Nms}{k j:Str}{n:Int}(h:KN nm):(ar5 (ar5 nm k n) j n).Perm (ar5 (ar5 nm j n) k n):=by
 by_cases e:k=j
 ·subst e; exact .refl _
 refine (z0 (an2 (an2 h)).nd (an2 (an2 h)).nd).2 fun t=>?_
 rw[bg4 (an2 h),bg4 (an2 h),bg4 h,bg4 h,bg5 h,bg5 h,if_neg (fun x=>e x.symm),if_neg e];constructor
 ·rintro (⟨⟨h1,h2⟩|rfl,h3⟩|rfl)
  ·exact .inl ⟨.inl ⟨h1,h3⟩,h2⟩
  ·exact .inr rfl
  ·exact .inl ⟨.inr rfl,fun x=>e x.symm⟩
 ·rintro (⟨⟨h1,h2⟩|rfl,h3⟩|rfl)
  ·exact .inl ⟨.inl ⟨h1,h3⟩,h2⟩
  ·exact .inr rfl
  ·exact .inl ⟨.inr rfl,e⟩
def bb1 (nm:Nms)(ks:List Str)(n:Int):Nms:=ks.foldl (fun m k=>ar5 m k n) nm
theorem ec3 {n:Int}:∀ {ks:List Str} {nm:Nms},KN nm->KN (bb1 nm ks n)
 | [],_,h=>h
 | _::ks,_,h=>ec3 (ks:=ks) (an2 h)
theorem cy5 {n:Int}:∀ (ks:List Str) {nm nm':Nms},KN nm->nm.Perm nm'->(bb1 nm ks n).Perm (bb1 nm' ks n)
 | [],_,_,_,p=>p
 | _::ks,_,_,h,p=>cy5 ks (an2 h) (bt1 h p)
theorem ec4 {n:Int}{ks js:List Str}(p:ks.Perm js):∀ {nm:Nms},KN nm->(bb1 nm ks n).Perm (bb1 nm js n):=by
 induction p with
 | nil=>intro nm _; exact .refl _
 | cons x _ ih=>intro nm h; exact ih (an2 h)
 | swap x y l=>intro nm h; exact cy5 l (an2 (an2 h)) (fr5 h)
 | trans p1 _ ih1 ih2=>intro nm h; exact (ih1 h).trans (ih2 h)
theorem en8 (nm:Nms)(ks:List Str)(k:Str)(n:Int):bb1 nm (ks++[k]) n=ar5 (bb1 nm ks n) k n:=by simp[bb1]
def au5 (l:List Str)(k:Str):List Str:=if k∈l then l else l++[k]
def cy6 (p:aa2):List Str:=p.files.foldl au5 ((p.provides.map (·.name)).foldl au5 [p.name])
def at5 (nm:Nms)(ds:List Str)(n:Int):Nms:=ds.foldl (fun m k=>if n∈ae2 m k then m else ar5 m k n) nm
theorem cq4 (nm:Nms)(ks:List Str)(k:Str)(n:Int):at5 nm (ks++[k]) n=if n∈ae2 (at5 nm ks n) k then at5 nm ks n else ar5 (at5 nm ks n) k n:=by
 unfold at5; rw[List.foldl_append]; rfl
structure Index where
 all:List aa2
 ax2:Nms
 names:Nms
 over:Nms
def Index.v (x:Index):IV:=.ab5 [.aa4 (x.all.map aa2.cs),.an9 (nmV x.ax2),.an9 (nmV x.names),.an9 (nmV x.over)]
def ec5 (x:Index)(n:Nat)(p:aa2):Index:=⟨x.all++[p],bb1 x.ax2 (cy6 p) n,ar5 x.names p.name n,at5 x.over (p.ab2.map (·.name)) n⟩
def idxFrom (x:Index):Nat->List aa2->Index
 | _,[]=>x
 | n,p::ps=>idxFrom (ec5 x n p) (n+1) ps
def ak3 (l:List aa2):Index:=idxFrom ⟨[],[],[],[]⟩ 0 l
theorem ec6 (ps:List aa2)(p:aa2):∀ (x:Index) (n:Nat),idxFrom x n (ps++[p])=ec5 (idxFrom x n ps) (n+ps.length) p:=by
 induction ps with
 | nil=>intro x n; rfl
 | cons q qs ih=>intro x n; show idxFrom _ (n+1) (qs++[p])=_; rw[ih,zi]; congr 1; omega
theorem fr6 (L:NmL)(k:Str):ae2 (ba9 L) k=ce3 L k:=by
 induction L with
 | nil=>rfl
 | cons t ts ih=>
  simp only[ba9,zf,ae2,ce3,qg] at ih ⊢;by_cases h:k=t.1
  ·simp[h]
  ·simp only[h,decide_false,if_false] at ih ⊢;exact ih
end Go.Id.Md
namespace Go.Id.Md
open Go Go.Id
def numsOf (q:aa2->Bool)(l:List aa2):List Int:=((z6 l.length).filter fun n=>q (l.getD n default)).map fun (n:Nat)=>(n:Int)
theorem bw9 (q:aa2->Bool)(l:List aa2)(p:aa2):numsOf q (l++[p])=numsOf q l++if q p then [(l.length:Int)] else []:=by
 unfold numsOf;rw[zw,List.length_singleton,List.range_succ,q3,zv];congr 1
 ·congr 1;refine qe fun n hn=>?_
  have h:=zq.1 hn;simp[zd,List.getElem?_append,h]
 ·have e:(l++[p]).getD l.length default=p:=by simp[zd]
  simp only[List.filter_cons,List.filter_nil,e];split<;>rfl
theorem au6 {q:aa2->Bool}{l:List aa2}{n:Int}:n∈numsOf q l↔∃ m:Nat,n=m/\m<l.length/\q (l.getD m default)=true:=by
 unfold numsOf;rw[zl];constructor
 ·rintro ⟨m,hm,rfl⟩;obtain ⟨h1,h2⟩:=z9.1 hm;exact ⟨m,rfl,zq.1 h1,h2⟩
 ·rintro ⟨m,rfl,h1,h2⟩;exact ⟨m,z9.2 ⟨zq.2 h1,by simpa using h2⟩,rfl⟩
theorem ba2 (q:aa2->Bool)(l:List aa2):(numsOf q l).length<=l.length:=by
 unfold numsOf;rw[zo];exact z8 (qq _ _) (by simp)
theorem ca7 (q r:aa2->Bool)(l:List aa2):(numsOf q l).filter (fun n=>r (l.getD n.toNat default))=numsOf (fun p=>q p&&r p) l:=by
 unfold numsOf;rw[List.filter_map,List.filter_filter];congr 1;refine qe fun n _=>?_
 show (r (l.getD ((n:Int)).toNat default)&&q (l.getD n default))=_;rw[z4,qo]
theorem cq5 {q r:aa2->Bool}{l:List aa2}(h:∀ p∈l,q p=r p):numsOf q l=numsOf r l:=by
 unfold numsOf;congr 1;refine qe fun n hn=>?_
 have hlt:=zq.1 hn;refine h _ ?_;rw[zd,ql hlt];exact zk hlt
theorem en9 {n:Int}:∀ (ks:List Str) {nm:Nms},KN nm->ks.Nodup->∀ j,ae2 (bb1 nm ks n) j=ae2 nm j++if j∈ks then [n] else []:=by
 intro ks
 induction ks with
 | nil=>intro nm _ _ j; simp[bb1]
 | cons k ks ih=>
  intro nm h hnd j;obtain ⟨h1,h2⟩:=zh.1 hnd;show ae2 (bb1 (ar5 nm k n) ks n) j=_;rw[ih (an2 h) h2,bg5 h];by_cases e:j=k
  ·subst e; simp[h1]
  ·simp[e]
theorem fr7 {n:Int}:∀ (ks:List Str) {nm:Nms},KN nm->KN (at5 nm ks n):=by
 intro ks
 induction ks with
 | nil=>intro nm h; exact h
 | cons k ks ih=>
  intro nm h;show KN (at5 (if n∈ae2 nm k then nm else ar5 nm k n) ks n);split
  ·exact ih h
  ·exact ih (an2 h)
theorem ec7 {n:Int}:∀ (ks:List Str) {nm:Nms},KN nm->∀ j,ae2 (at5 nm ks n) j=ae2 nm j++if j∈ks/\n ∉ ae2 nm j then [n] else []:=by
 intro ks
 induction ks with
 | nil=>intro nm _ j; simp[at5]
 | cons k ks ih=>
  intro nm h j;show ae2 (at5 (if n∈ae2 nm k then nm else ar5 nm k n) ks n) j=_;by_cases hk:n∈ae2 nm k
  ·rw[if_pos hk,ih h];by_cases e:j=k
   ·subst e; simp[hk]
   ·simp[e]
  ·rw[if_neg hk,ih (an2 h),bg5 h];by_cases e:j=k
   ·subst e; simp[hk]
   ·simp[e]
theorem fr8 {l:List Str}{k j:Str}:j∈au5 l k↔j∈l\/j=k:=by
 unfold au5;split
 ·rename_i h; exact ⟨.inl,fun h'=>h'.elim id fun e=>e▸h⟩
 ·simp
theorem cy7 {j:Str}:∀ (ks l:List Str),j∈ks.foldl au5 l↔j∈l\/j∈ks:=by
 intro ks
 induction ks with
 | nil=>intro l; simp
 | cons k ks ih=>intro l; rw[qf,ih,fr8,zb,or_assoc]
theorem fr9 {l:List Str}(h:l.Nodup)(k:Str):(au5 l k).Nodup:=by
 unfold au5;split
 ·exact h
 ·rename_i hk;rw[q5];exact ⟨h,by simp,fun a ha b hb e=>by simp at hb; subst hb; subst e; exact hk ha⟩
theorem bx2:∀ (ks:List Str) {l:List Str},l.Nodup->(ks.foldl au5 l).Nodup
 | [],_,h=>h
 | k::ks,_,h=>bx2 ks (fr9 h k)
theorem hb9 (p:aa2):(cy6 p).Nodup:=bx2 _ (bx2 _ (by simp))
theorem hc5 (p:aa2)(j:Str):j∈cy6 p↔j=p.name\/(∃ d∈p.provides,d.name=j)\/j∈p.files:=by
 unfold cy6;rw[cy7,cy7];simp[or_assoc]
structure eo1 (x:Index) (l:List aa2):Prop where
 all:x.all=l
 kp:KN x.ax2
 kn:KN x.names
 ko:KN x.over
 ax2:∀ j,ae2 x.ax2 j=numsOf (fun p=>decide (j∈cy6 p)) l
 names:∀ j,ae2 x.names j=numsOf (fun p=>decide (p.name=j)) l
 over:∀ j,ae2 x.over j=numsOf (fun p=>decide (∃ d∈p.ab2,d.name=j)) l
theorem eo1.add {x:Index}{l:List aa2}(h:eo1 x l)(p:aa2):eo1 (ec5 x l.length p) (l++[p]) where
 all:=by show x.all++[p]=_; rw[h.all]
 kp:=ec3 h.kp
 kn:=an2 h.kn
 ko:=fr7 _ h.ko
 ax2:=fun j=>by
  show ae2 (bb1 x.ax2 (cy6 p) _) j=_;rw[en9 _ h.kp (hb9 p),h.ax2,bw9];simp
 names:=fun j=>by
  show ae2 (ar5 x.names p.name _) j=_;rw[bg5 h.kn,h.names,h.names,bw9];by_cases e:j=p.name
  ·subst e; simp
  ·have e':¬ p.name=j:=fun h=>e h.symm
   simp[e,e']
 over:=fun j=>by
  show ae2 (at5 x.over _ _) j=_;rw[ec7 _ h.ko,h.over,bw9]
  have hn:(l.length:Int) ∉ numsOf (fun p=>decide (∃ d∈p.ab2,d.name=j)) l:=fun hm=>by
   obtain ⟨m,e,h1,_⟩:=au6.1 hm;omega
  simp[hn]
theorem fs1:∀ (ps:List aa2) {x:Index} {l:List aa2},eo1 x l->eo1 (idxFrom x l.length ps) (l++ps):=by
 intro ps
 induction ps with
 | nil=>intro x l h; rw[List.append_nil]; exact h
 | cons p ps ih=>
  intro x l h;have:=ih (h.add p);rw[List.append_assoc] at this
  simpa [idxFrom] using this
theorem bn1 (l:List aa2):eo1 (ak3 l) l:=by
 have h0:eo1 ⟨[],[],[],[]⟩ []:=⟨rfl,zp,zp,zp,fun _=>by simp[ae2,numsOf],fun _=>by simp[ae2,numsOf],fun _=>by simp[ae2,numsOf]⟩;exact fs1 l h0
theorem ec8 {p:aa2}{d:Dep}(h:named p d=true):p.name=d.name:=by
 unfold named meets own at h;simp only[za,decide_eq_true_eq] at h;exact h.1
theorem ec9 {p:aa2}{d:Dep}(h:provides p d=true):d.name∈cy6 p:=by
 unfold provides at h;rw[hc5];simp only[qa,za,decide_eq_true_eq,zn] at h;rcases h with (h|⟨a,ha,h⟩)|⟨_,h⟩
 ·exact .inl (ec8 h).symm
 ·unfold meets at h;simp only[za,decide_eq_true_eq] at h;exact .inr (.inl ⟨a,ha,h.1⟩)
 ·exact .inr (.inr (by simpa using h))
def ap6 (l:List aa2)(d:Dep):List Int:=numsOf (fun p=>provides p d) l
def bg6 (l:List aa2)(d:Dep):List Int:=numsOf (fun p=>named p d) l
theorem ed1 (l:List aa2)(d:Dep):(ae2 (ak3 l).ax2 d.name).filter (fun n=>provides (l.getD n.toNat default) d)=ap6 l d:=by
 rw[(bn1 l).ax2];refine (ca7 (fun p=>decide (d.name∈cy6 p)) (fun p=>provides p d) l).trans ?_
 exact cq5 fun p _=>by
  cases h:provides p d with
  | false=>simp
  | true=>simp[ec9 h]
theorem hc7 (l:List aa2)(d:Dep):(ae2 (ak3 l).names d.name).filter (fun n=>named (l.getD n.toNat default) d)=bg6 l d:=by
 rw[(bn1 l).names];refine (ca7 (fun p=>decide (p.name=d.name)) (fun p=>named p d) l).trans ?_
 exact cq5 fun p _=>by
  cases h:named p d with
  | false=>simp
  | true=>simp[ec8 h]
end Go.Id.Md
namespace Go.Id.Md
open Go Go.Id
mutual
def aa6.ok:aa6->Prop
 | .mk k d xs=>0<=k/\k<256/\d.fit/\xs.length<2^62/\aa6.oks xs
def aa6.oks:List aa6->Prop
 | []=>True
 | r::rs=>r.ok/\aa6.oks rs
end
theorem aa6.in2 (l:List aa6):aa6.oks l↔∀ r∈l,r.ok:=by
 induction l with
 | nil=>simp[aa6.oks]
 | cons r rs ih=>simp[aa6.oks,ih]
theorem aa6.in3 {k:Int}{d:Dep}{xs:List aa6}:(aa6.mk k d xs).ok↔0<=k/\k<256/\d.fit/\xs.length<2^62/\∀ r∈xs,r.ok:=by
 simp only[aa6.ok,aa6.in2]
structure aa2.Ok (p:aa2):Prop where
 name:p.name.length<2^62
 vendor:p.vendor.length<2^62
 evr:p.evr.fit
 ax2:p.provides.length<2^62/\∀ d∈p.provides,d.fit
 obs:p.ab2.length<2^62/\∀ d∈p.ab2,d.fit
 files:p.files.length<2^62/\∀ s∈p.files,s.length<2^62
 rich:∀ x∈p.rows,x.2.length<2^62/\∀ r∈x.2,r.ok
def am5.Ok (r:am5):Prop:=r.packages.length<2^62/\∀ p∈r.packages,p.Ok
def bb2 (p:aa2):List (List aa6):=[p.requires,p.conflicts,p.ac6,p.ac2,p.suggests,p.ac1]
def ar3:Nat->List am5->List az3
 | _,[]=>[]
 | i,r::rs=>rowsOf r.packages i r.priority++ar3 (i+1) rs
theorem dd2:∀ (rs:List am5) (i:Nat) (st:List az3×Nms) (out:List az3×Nms),aj9 i rs st=some out->out.1=st.1++ar3 i rs:=by
 intro rs
 induction rs with
 | nil=>intro i st out h; simp only[aj9,Option.some.injEq] at h; subst h; simp[ar3]
 | cons r rs ih=>
  intro i st out h;simp only[aj9] at h;split at h
  ·cases h
  ·rw[ih _ _ _ h]; simp[ar3]
theorem cu1 {ab3:List am5}{inst:List aa2}{p:Pool}(h:ce2 ab3 inst=.inl p):p.rows=rowsOf inst (-1) 1025++ar3 0 ab3/\p.inst=inst.length:=by
 unfold ce2 at h;split at h
 ·cases h
 split at h
 ·cases h
 split at h
 ·rename_i rows nm hr;cases h;exact ⟨dd2 _ _ _ _ hr,rfl⟩
 ·cases h
theorem he9 {ab3:List am5}{inst:List aa2}{e:Int}(h:ce2 ab3 inst=.inr e):e=40\/e=4:=by
 unfold ce2 at h;split at h
 ·cases h; exact .inl rfl
 split at h
 ·cases h; exact .inr rfl
 split at h
 ·cases h
 ·cases h; exact .inr rfl
end Go.Id.Md
namespace Go.Id.Md
open Go Go.Id
theorem ds7:∀ (rs:List am5) (i:Nat) (st:List az3×Nms) (out:List az3×Nms),aj9 i rs st=some out->∀ r∈rs,r.packages.all ah8=true:=by
 intro rs
 induction rs with
 | nil=>intro i st out _ r hr; cases hr
 | cons x xs ih=>
  intro i st out h r hr;simp only[aj9] at h;split at h
  ·cases h
  ·rename_i hc;rcases zb.1 hr with rfl|hr
   ·cases hb:r.packages.all ah8 with
    | true=>rfl
    | false=>exact absurd (.inr (.inr hb)) hc
   ·exact ih _ _ _ h r hr
theorem bt2 {ab3:List am5}{inst:List aa2}{p:Pool}(h:ce2 ab3 inst=.inl p):ab3.length<=16/\inst.length+af5 ab3<=256/\inst.all ah8=true/\∀ r∈ab3,r.packages.all ah8=true:=by
 unfold ce2 at h;split at h
 ·cases h
 rename_i hc;split at h
 ·cases h
 rename_i hm;split at h
 ·rename_i rows nm hr;exact ⟨om,om,by simpa using hm,ds7 _ _ _ _ hr⟩
 ·cases h
theorem dm4 (l:List aa2)(a b:Int):(rowsOf l a b).map (·.pkg)=l:=by
 induction l with
 | nil=>rfl
 | cons x xs ih=>show x::(rowsOf xs a b).map (·.pkg)=_; rw[ih]
def ad4 (p:Pool):List aa2:=p.rows.map (·.pkg)
theorem ds8:∀ (rs:List am5) (i:Nat),(ar3 i rs).map (·.pkg)=rs.flatMap (·.packages):=by
 intro rs
 induction rs with
 | nil=>intro i; rfl
 | cons r rs ih=>intro i; simp only[ar3,zv,ih,dm4,z1]
theorem gh8:∀ (rs:List am5),(rs.flatMap (·.packages)).length=af5 rs:=by
 intro rs
 induction rs with
 | nil=>rfl
 | cons r rs ih=>simp only[z1,zw,ih]; rfl
theorem bn4 {ab3:List am5}{inst:List aa2}{p:Pool}(h:ce2 ab3 inst=.inl p):ad4 p=inst++ab3.flatMap (·.packages):=by
 unfold ad4;rw[(cu1 h).1,zv,ds8];congr 1;exact dm4 _ _ _
theorem ex6 {ab3:List am5}{inst:List aa2}{p:Pool}(h:ce2 ab3 inst=.inl p):p.rows.length<=256:=by
 have e:p.rows.length=(ad4 p).length:=by simp[ad4]
 rw[e,bn4 h,zw,gh8];exact (bt2 h).2.1
theorem ex8 {ab3:List am5}{inst:List aa2}{p:Pool}(h:ce2 ab3 inst=.inl p):∀ x∈ad4 p,ah8 x=true/\(x∈inst\/∃ r∈ab3,x∈r.packages):=by
 intro x hx;rw[bn4 h] at hx;obtain ⟨_,_,h1,h2⟩:=bt2 h;rcases zu.1 hx with hx|hx
 ·exact ⟨zg.1 h1 x hx,.inl hx⟩
 ·obtain ⟨r,hr,hxr⟩:=List.mem_flatMap.1 hx;exact ⟨zg.1 (h2 r hr) x hxr,.inr ⟨r,hr,hxr⟩⟩
def EVR.tiny (e:EVR):Prop:=e.ver.length<=64/\e.rel.length<=64
theorem ex9 {s:Str}(h:aw1 s=true):s.length<=64:=by
 unfold aw1 at h;simp only[za,decide_eq_true_eq] at h;exact h.1.2
theorem ey1 {e:EVR}{b:Bool}(h:bc8 e b=true):e.tiny:=by
 unfold bc8 at h;simp only[za,qa,decide_eq_true_eq] at h;refine ⟨ex9 h.1.2,?_⟩;rcases h.2 with h|h
 ·exact ex9 h
 ·have:=List.isEmpty_iff.1 h.2; rw[this]; exact Nat.zero_le _
theorem ds9 {d:Dep}(h:ak5 d=true):0<=d.op/\d.op<256/\d.evr.tiny/\d.name.length<=64:=by
 unfold ak5 at h;simp only[za] at h;obtain ⟨⟨h1,h2⟩,h3⟩:=h
 have hn:d.name.length<=64:=by
  unfold as1 at h1;simp only[za,decide_eq_true_eq] at h1;exact h1.1.1.2
 have ho:0<=d.op/\d.op<256:=by
  unfold dr6 at h2;simp only[List.contains_iff_mem,zb,List.not_mem_nil,or_false] at h2;omega
 refine ⟨ho.1,ho.2,?_,hn⟩;split at h3
 ·have:d.evr=gf4:=by simpa using h3
  rw[this]; exact ⟨by decide,by decide⟩
 ·simp only[za] at h3;exact ey1 h3.2
structure aa2.Tiny (p:aa2):Prop where
 name:p.name.length<=64
 evr:p.evr.tiny
 ax2:p.provides.length<=32/\∀ d∈p.provides,0<=d.op/\d.op<256/\d.evr.tiny/\d.name.length<=64
 obs:p.ab2.length<=32/\∀ d∈p.ab2,0<=d.op/\d.op<256/\d.evr.tiny/\d.name.length<=64
 files:p.files.length<=32
theorem ey2 {p:aa2}(h:ah8 p=true):p.Tiny:=by
 unfold ah8 at h;simp only[za,decide_eq_true_eq] at h;obtain ⟨⟨⟨⟨⟨⟨⟨⟨⟨⟨⟨⟨⟨⟨h1,_⟩,h3⟩,_⟩,_⟩,h6,h6'⟩,h7,h7'⟩,h8,_⟩,_⟩,_⟩,_⟩,_⟩,_⟩,_⟩,_⟩:=h;refine ⟨?_,ey1 h3,⟨h6,fun d hd=>ds9 (zg.1 h6' d hd)⟩,⟨h7,fun d hd=>ds9 (zg.1 h7' d hd)⟩,h8⟩;unfold as1 at h1;simp only[za,decide_eq_true_eq] at h1;exact h1.1.1.2
end Go.Id.Md
namespace Go.Id.Md
open Go Go.Id
structure Job where
 kind:Int
 dep:Dep
 deriving DecidableEq,Inhabited
structure az1 where
 kind:Int
 n:Int
 deriving DecidableEq,Inhabited
structure Req where
 aj1:Int
 vendor:Bool
 ai4:List Job
 ag5:List az1
 budget:Int
def Job.cs (j:Job):List IV:=[.int .u8 j.kind,.str j.dep.name,.int .u8 j.dep.op,.int .i64 j.dep.evr.ak4,.str j.dep.evr.ver,.str j.dep.evr.rel]
def az1.cs (e:az1):List IV:=[.int .u8 e.kind,.int .i64 e.n]
abbrev bc3 (l:List Job):IV:=.aa4 (l.map Job.cs)
abbrev aq2 (l:List az1):IV:=.aa4 (l.map az1.cs)
def Req.cs (r:Req):List IV:=[.int .u8 r.aj1,.bool r.vendor,bc3 r.ai4,aq2 r.ag5,.int .i64 r.budget]
def ak9 (q:Nat->Bool)(k:Nat):List Int:=((z6 k).filter q).map fun (n:Nat)=>(n:Int)
theorem cm8 (q:Nat->Bool)(k:Nat):ak9 q (k+1)=ak9 q k++if q k then [(k:Int)] else []:=by
 unfold ak9;rw[List.range_succ,q3,zv];congr 1;simp only[List.filter_cons,List.filter_nil];split<;>rfl
theorem bg7 {q:Nat->Bool}{k:Nat}{n:Int}:n∈ak9 q k↔∃ m:Nat,n=m/\m<k/\q m=true:=by
 unfold ak9;rw[zl];constructor
 ·rintro ⟨m,hm,rfl⟩;obtain ⟨h1,h2⟩:=z9.1 hm;exact ⟨m,rfl,zq.1 h1,h2⟩
 ·rintro ⟨m,rfl,h1,h2⟩;exact ⟨m,z9.2 ⟨zq.2 h1,h2⟩,rfl⟩
theorem av4 (q:Nat->Bool)(k:Nat):(ak9 q k).length<=k:=by
 unfold ak9;rw[zo];exact z8 (qq _ _) (by simp)
theorem dt1 (q:Nat->Bool)(k:Nat):(ak9 q k).Pairwise (· < ·):=by
 unfold ak9;refine z3.map (R:=fun (a b:Nat)=>a<b) _ (fun a b h=>by show (a:Int)<b; omega) ?_;exact z3.filter _ List.pairwise_lt_range
def bg8 (a:Int):Bool:=ak8 a&&!decide (a=1)
def ey3 (a b:Int):Bool:=bg8 a&&bg8 b&&!decide (a=b)
def av5 (a b:Int):Bool:=ak8 a&&ak8 b&&!ey3 a b
def al1 (m a:Int):Int :=
 if m=2 then (if a=1 then 2 else if a=2 then 1 else if a=3 then 3 else 0) else
 if m=3 then (if a=1 then 2 else if a=3 then 1 else 0) else
 if m=4 then (if a=1 then 2 else if a=4 then 1 else 0) else 0
def hf4 (m a:Int):Bool:=decide (0<al1 m a)
structure ad9 where
 p:Pool
 r:Req
namespace ad9
variable (a:ad9)
def l:List aa2:=ad4 a.p
def pk (n:Int):aa2:=a.l.getD n.toNat default
def jb (n:Int):Job:=a.r.ai4.getD n.toNat default
def is (n:Int):Bool:=decide (0<=n)&&decide (n<a.l.length)
def inst (n:Int):Bool:=a.is n&&decide (n<a.p.inst)
def job (n:Int):Bool:=decide (0<=n)&&decide (n<a.r.ai4.length)
def fits (n:Int):Bool:=a.is n&&hf4 a.r.aj1 (a.pk n).aj1
def bd1 (k n:Int):Bool:=decide ((⟨k,n⟩:az1)∈a.r.ag5)
def dropped (n:Int):Bool:=a.job n&&a.bd1 1 n
def bi9 (k n:Int):Bool:=(z6 a.r.ai4.length).any fun i=>decide ((a.jb i).kind=k)&&!a.dropped i&&decide (n∈bg6 a.l (a.jb i).dep)
def dt2 (vendor down other:Bool)(old q:aa2):Bool:=decide (q.name=old.name)&&(down||decide (0<=ai5 q.evr old.evr))&&(other||av5 q.aj1 old.aj1)&&(vendor||decide (q.vendor=old.vendor))
def jk2 (i:Int)(q:aa2):Bool:=dt2 a.r.vendor (a.bd1 3 i||a.bi9 4 i) (a.bd1 4 i) (a.pk i) q
def av8 (i:Int):List Int:=if a.inst i then ak9 (fun n=>decide ((n:Int)=i)||a.jk2 i (a.pk n)||(!decide ((n:Int)=i)&&ab2 (a.pk n) (a.pk i))) a.l.length else []
def some (state l:List Int):Bool:=l.any fun n=>decide (n∈state)
def cs:List IV:=[a.p.v,(ak3 a.l).v,.int .u8 a.r.aj1,.bool a.r.vendor,bc3 a.r.ai4,aq2 a.r.ag5,.int .i64 a.r.budget,.aa4 (a.l.map aa2.cs)]
def v:IV:=.ab5 a.cs
end ad9
def at6 (e:az1)(ai4 inst:Int):Bool:=decide (1<=e.kind)&&decide (e.kind<=4)&&decide (0<=e.n)&&decide (e.n<if e.kind=1 then ai4 else inst)
def ay6 (j:Job):Bool:=decide (1<=j.kind)&&decide (j.kind<=4)&&ak5 j.dep
def am7 (r:Req)(inst:Int):Int :=
 if bg8 r.aj1=false\/r.budget<0\/1099511627776<r.budget then 1 else
 if 64<r.ai4.length\/64<r.ag5.length then 40 else
 if r.ai4.all ay6=false then 4 else
 if r.ag5.all (fun e=>at6 e r.ai4.length inst)=false then 5 else 0
def iv8 (p:Pool)(r:Req):IV:=if am7 r p.inst=0 then .tuple [(ad9.mk p r).v,.int .i64 0] else .tuple [.ae7,.int .i64 (am7 r p.inst)]
theorem cu2 (a b:Int):al7 b a=- al7 a b:=by
 unfold al7; split<;>split<;>(try split)<;>(try split)<;>omega
theorem ao8 {a b:Int}:al7 a b=0↔a=b:=by
 unfold al7;split
 ·constructor
  ·intro h; omega
  ·intro h; omega
 ·split
  ·simp_all
  ·constructor
   ·intro h; omega
   ·intro h; contradiction
theorem cu3:∀ (x y:List UInt8),Op.bytesLess x y=decide (x<y)
 | [],[]=>by simp[Op.bytesLess]
 | _::_,[]=>by simp[Op.bytesLess]
 | [],_::_=>by simp[Op.bytesLess]
 | a::x,b::y=>by
  simp only[Op.bytesLess,cu3 x y,List.cons_lt_cons_iff];by_cases h:a<b
  ·simp[h]
  ·by_cases h2:a=b
   ·subst h2; simp
   ·simp[h,h2]
theorem jd7 (a b:Str):Op.bytesLess a b=true/\Op.bytesLess b a=false/\a≠b\/a=b/\Op.bytesLess a b=false\/Op.bytesLess b a=true/\Op.bytesLess a b=false/\a≠b:=by
 simp only[cu3,decide_eq_true_eq,decide_eq_false_iff_not];rcases q6 (a<b) with h|h
 ·exact .inl ⟨h,fun h2=>List.lt_asymm h h2,fun e=>List.lt_irrefl a (by rw[<- e] at h; exact h)⟩
 ·rcases q6 (b<a) with h2|h2
  ·exact .inr (.inr ⟨h2,h,fun e=>List.lt_irrefl a (by rw[<- e] at h2; exact h2)⟩)
  ·exact .inr (.inl ⟨List.le_antisymm (qt.1 h2) (qt.1 h),h⟩)
theorem ey4 (a b:Str):cm4 b a=- cm4 a b:=by
 unfold cm4;rcases jd7 a b with ⟨h1,h2,h3⟩|⟨rfl,h⟩|⟨h1,h2,h3⟩
 ·rw[h1,h2,if_neg (by simp),if_neg (fun e=>h3 e.symm),if_pos rfl]; rfl
 ·rw[h]; simp
 ·rw[h1,h2,if_pos rfl,if_neg (by simp),if_neg h3]
theorem cz3 (a b:Part):ae8 b a=- ae8 a b:=by
 unfold ae8;simp only[cu2 (a.kind:Int) b.kind,cu2 (a.s.length:Int) b.s.length,ey4 a.s b.s];have e:(b.kind=5/\a.kind=5)↔(a.kind=5/\b.kind=5):=And.comm;by_cases h1:al7 (a.kind:Int) b.kind=0
 ·simp only[h1,Int.neg_zero,ne_eq,not_true_eq_false,if_false,e];by_cases h2:a.kind=5/\b.kind=5
  ·simp only[h2,and_self,if_true];by_cases h3:al7 (a.s.length:Int) b.s.length=0
   ·simp[h3]
   ·have h4:¬ - al7 (a.s.length:Int) b.s.length=0:=om
    simp[h3,h4]
  ·simp[h2]
 ·have h2:¬ - al7 (a.kind:Int) b.kind=0:=om
  simp[h1,h2]
theorem ee1:∀ (a b:List Part),af9 b a=- af9 a b:=by
 intro a
 induction a with
 | nil=>intro b; cases b<;>rfl
 | cons x a ih=>
  intro b
  cases b with
  | nil=>rfl
  | cons y b=>
   simp only[af9,cz3 x y];by_cases h:ae8 x y=0
   ·simp[h,ih b]
   ·have h2:¬ - ae8 x y=0:=om
    simp[h,h2]
theorem cm9 (a b:Str):ao6 b a=- ao6 a b:=ee1 _ _
theorem cn1 (a b:EVR):ai5 b a=- ai5 a b:=by
 unfold ai5;rw[cu2 a.ak4 b.ak4,cm9 a.ver b.ver,cm9 a.rel b.rel];by_cases h1:al7 a.ak4 b.ak4=0
 ·by_cases h2:ao6 a.ver b.ver=0
  ·simp only[h1,h2,Int.neg_zero,ne_eq,not_true_eq_false,if_false];by_cases h3:a.rel=[]\/b.rel=[]
   ·rw[if_pos h3,if_pos h3.symm]; rfl
   ·rw[if_neg h3,if_neg (fun h=>h3 h.symm)]
  ·have h3:¬ - ao6 a.ver b.ver=0:=om
   simp[h1,h2,h3]
 ·have h3:¬ - al7 a.ak4 b.ak4=0:=om
  simp[h1,h3]
namespace ad9
variable (a:ad9)
theorem bn5 (n:Nat):a.is n=decide (n<a.l.length):=by
 unfold is;have:(0:Int)<=n:=om
 simp only[this,decide_true,qn];exact decide_eq_decide.2 om
end ad9
end Go.Id.Md
namespace Go.Id.Md
open Go Go.Id
def hb8 (wh:Int)(k:Int)(d:Dep)(n:Nat)(alone:Bool):Bool :=
 if k=1 then decide (n=0)&&ak5 d else
 (if k=2\/k=3\/k=6 then decide (2<=n) else if k=7 then decide (n=2) else
  if k=4 then (decide (n=2)||decide (n=3))&&!alone&&decide (wh=1) else
  if k=5 then (decide (n=2)||decide (n=3))&&!alone&&decide (wh<=2) else false)&&decide (d=cq3)
mutual
def aa6.ec2 (wh:Int):aa6->Bool->Bool
 | .mk k d aZ,alone=>hb8 wh k d aZ.length alone&&(aa6.dm1 wh aZ (alone||decide (k=6)||decide (k=7)))
def aa6.dm1 (wh:Int):List aa6->Bool->Bool
 | [],_=>true
 | r::rs,alone=>r.ec2 wh alone&&aa6.dm1 wh rs alone
end
theorem aa6.fq8 (wh:Int)(l:List aa6)(alone:Bool):aa6.dm1 wh l alone=l.all fun r=>r.ec2 wh alone:=by
 induction l with
 | nil=>rfl
 | cons r l ih=>simp only[aa6.dm1,qm,ih]
theorem im3 {wh:Int}(h1:1<=wh)(h3:wh<=3)(k:Int)(d:Dep)(aZ:List aa6)(alone:Bool)(hn:aZ.length<=24):hb8 wh k d aZ.length alone=ai6 wh (.mk k d aZ) alone:=by
 unfold hb8 ai6 asks;simp only[aa6.kind,aa6.args,aa6.dep];rw[zm];by_cases e1:k=1
 ·subst e1;simp only[if_true];have:¬ (3:Int)<wh:=om
  cases ak5 d<;>cases alone<;>simp[this]<;>omega
 by_cases e2:k=2
 ·subst e2;have:¬ (3:Int)<wh:=om
  by_cases hd:d=cq3<;>cases alone<;>simp[this,hd]<;>omega
 by_cases e3:k=3
 ·subst e3;have:¬ (3:Int)<wh:=om
  by_cases hd:d=cq3<;>cases alone<;>simp[this,hd]<;>omega
 by_cases e4:k=4
 ·subst e4;by_cases hd:d=cq3<;>cases alone<;>by_cases hw:(1:Int)<wh<;>simp[hd,hw]<;>omega
 by_cases e5:k=5
 ·subst e5;by_cases hd:d=cq3<;>cases alone<;>by_cases hw:(2:Int)<wh<;>simp[hd,hw]<;>omega
 by_cases e6:k=6
 ·subst e6;have:¬ (3:Int)<wh:=om
  by_cases hd:d=cq3<;>cases alone<;>simp[this,hd]<;>omega
 by_cases e7:k=7
 ·subst e7;have:¬ (3:Int)<wh:=om
  by_cases hd:d=cq3<;>cases alone<;>simp[this,hd]<;>omega
 have:(0:Int)<wh:=om
 simp[e1,e2,e3,e4,e5,e6,e7,this]
theorem aa6.dm2 {l:List aa6}{r:aa6}(h:r∈l):r.count<=aa6.counts l:=by
 induction l with
 | nil=>cases h
 | cons x l ih=>
  simp only[aa6.counts];rcases zb.1 h with rfl|h
  ·omega
  ·have:=ih h; omega
theorem aa6.gf7 (r:aa6):1<=r.count:=by cases r; simp only[aa6.count]; omega
theorem aa6.fq9 (l:List aa6):l.length<=aa6.counts l:=by
 induction l with
 | nil=>exact z2 _
 | cons x l ih=>simp only[aa6.counts,zi]; have:=x.gf7; omega
theorem aa6.fr3 {wh:Int}(h1:1<=wh)(h3:wh<=3)(r:aa6):r.count<=24->∀ alone,r.ec2 wh alone=(r.parts alone).all fun p=>ai6 wh p.1 p.2:=by
 refine aa6.ind (p:=fun r=>r.count<=24->∀ alone,r.ec2 wh alone=(r.parts alone).all fun p=>ai6 wh p.1 p.2) (fun k d aZ ih hc alone=>?_) r;simp only[aa6.count] at hc;simp only[aa6.ec2,aa6.parts,qm];have:=aa6.fq9 aZ;rw[im3 h1 h3 k d aZ alone om];congr 1;generalize (alone||decide (k=6)||decide (k=7))=al
 have:∀ l:List aa6,(∀ x∈l,x∈aZ)->aa6.dm1 wh l al=(aa6.aw2 l al).all fun p=>ai6 wh p.1 p.2:=by
  intro l
  induction l with
  | nil=>intro _; rfl
  | cons x l ih2=>
   intro h;have hx:=h x ze;simp only[aa6.dm1,aa6.aw2,List.all_append];rw[ih x hx (by have:=aa6.dm2 hx; omega),ih2 fun y hy=>h y (zc _ hy)]
 exact this aZ fun _ h=>h
theorem en7 (r:aa6)(wh:Int):ar2 r wh=if wh<1\/3<wh then 1 else if r.count>24 then 40 else if r.depth>8 then 21 else if r.ec2 wh false=false then 4 else 0:=by
 unfold ar2;by_cases h1:wh<1\/3<wh
 ·rw[if_pos h1,if_pos h1]
 rw[if_neg h1,if_neg h1];by_cases h2:r.count>24
 ·rw[if_pos h2,if_pos h2]
 rw[if_neg h2,if_neg h2];by_cases h3:r.depth>8
 ·rw[if_pos h3,if_pos h3]
 rw[if_neg h3,if_neg h3,aa6.fr3 om om r om];cases h:(r.parts false).all fun p=>ai6 wh p.1 p.2<;>simp
end Go.Id.Md
namespace Go.Id.Md
open Go Go.Id
structure WO {α:Type} (S:α->Prop) (f:α->α->Int):Prop where
 neg:∀ a b,f b a=- f a b
 tr:∀ a b c,S a->S b->S c->f a b<=0->f b c<=0->f a c<=0
def lex (x y:Int):Int:=if x=0 then y else x
theorem in4 (x y:Int):lex (-x) (-y)=- lex x y:=by unfold lex; split<;>split<;>omega
theorem WO.lex {α:Type}{S:α->Prop}{f g:α->α->Int}(hf:WO S f)(hg:WO S g):WO S fun a b=>Md.lex (f a b) (g a b) where
 neg:=fun a b=>by show Md.lex (f b a) (g b a)=_; rw[hf.neg,hg.neg,in4]
 tr:=fun a b c sa sb sc h1 h2=>by
  have k1:=hf.tr a b c sa sb sc;have k2:=hf.tr c a b sc sa sb;have k3:=hf.tr b c a sb sc sa;have k4:=hg.tr a b c sa sb sc;have n1:=hf.neg a b;have n2:=hf.neg b c;have n3:=hf.neg a c;unfold Md.lex at *;split at h1<;>split at h2<;>split<;>omega
theorem WO.of {α β:Type}{S:β->Prop}{f:β->β->Int}(hf:WO S f)(g:α->β):WO (fun a=>S (g a)) fun a b=>f (g a) (g b) where
 neg:=fun a b=>hf.neg _ _
 tr:=fun a b c sa sb sc=>hf.tr _ _ _ sa sb sc
theorem WO.flip {α:Type}{S:α->Prop}{f:α->α->Int}(hf:WO S f):WO S fun a b=>f b a where
 neg:=fun a b=>hf.neg b a
 tr:=fun a b c sa sb sc h1 h2=>hf.tr c b a sc sb sa h2 h1
theorem WO.sub {α:Type}{S T:α->Prop}{f:α->α->Int}(hf:WO S f)(h:∀ a,T a->S a):WO T f:=⟨hf.neg,fun a b c sa sb sc=>hf.tr a b c (h a sa) (h b sb) (h c sc)⟩
theorem cz4:WO (fun _=>True) al7 where
 neg:=fun a b=>cu2 a b
 tr:=fun a b c _ _ _ h1 h2=>by
  unfold al7 at *;split at h1<;>split at h2<;>split<;>(try split at h1)<;>(try split at h2)<;>(try split)<;>omega
theorem eo8 {a b:Str}:cm4 a b<=0↔a<=b:=by
 unfold cm4;rcases jd7 a b with ⟨h1,h2,h3⟩|⟨rfl,h⟩|⟨h1,h2,h3⟩
 ·rw[h1,if_pos rfl];rw[cu3,decide_eq_true_eq] at h1;exact ⟨fun _=>List.le_of_lt h1,fun _=>by decide⟩
 ·rw[h]; simp[List.le_refl]
 ·rw[h2,if_neg (by simp),if_neg h3];rw[cu3,decide_eq_true_eq] at h1;exact ⟨fun h=>absurd h (by decide),fun h=>absurd h1 (qt.2 h)⟩
theorem jd8:WO (fun _=>True) cm4 where
 neg:=fun a b=>ey4 a b
 tr:=fun a b c _ _ _ h1 h2=>eo8.2 (List.le_trans (eo8.1 h1) (eo8.1 h2))
def cu4 (a b:Part):Int:=lex (al7 a.kind b.kind) (lex (al7 (if a.kind=5 then (a.s.length:Int) else 0) (if b.kind=5 then (b.s.length:Int) else 0)) (cm4 a.s b.s))
theorem dm5 (a b:Part):ae8 a b=cu4 a b:=by
 unfold ae8 cu4 lex;by_cases h:al7 (a.kind:Int) b.kind=0
 ·have e:=ao8.1 h;have e':a.kind=b.kind:=om
  simp only[h,ne_eq,not_true_eq_false,if_false,if_true,e'];by_cases k5:b.kind=5
  ·simp only[k5,and_self,if_true]; split<;>simp_all
  ·have z:al7 0 0=0:=by decide
   simp[k5,z]
 ·simp[h]
theorem cn2:WO (fun _=>True) ae8:=by
 have h:ae8=cu4:=by funext a b; exact dm5 a b
 rw[h];exact (cz4.of (fun a:Part=>(a.kind:Int))).lex ((cz4.of (fun a:Part=>if a.kind=5 then (a.s.length:Int) else 0)).lex (jd8.of Part.s))
theorem ca9 {a b:Part}(h:ae8 a b=0):a.kind=b.kind:=by
 rw[dm5] at h;unfold cu4 lex at h;split at h
 ·rename_i e; have:=ao8.1 e; omega
 ·contradiction
abbrev db5:Part:=⟨2,[]⟩
theorem ax3 (x y:Part)(a b:List Part):af9 (x::a) (y::b)=lex (ae8 x y) (af9 a b):=by
 show (if ae8 x y≠0 then ae8 x y else af9 a b)=_;unfold lex; split<;>simp_all
theorem bg9 (a:List Part):af9 [] a=0:=by cases a<;>rfl
theorem bt3 (a:List Part):af9 a []=0:=by cases a<;>rfl
theorem hf5:∀ (a b c:List Part),(∀ x∈a,x.kind≠2)->(∀ x∈b,x.kind≠2)->(∀ x∈c,x.kind≠2) ->
  af9 (a++[db5]) (b++[db5])<=0->af9 (b++[db5]) (c++[db5])<=0->af9 (a++[db5]) (c++[db5])<=0:=by
 have hd:∀ (x y z:Part) (r s t:Int),lex (ae8 x y) r<=0->lex (ae8 y z) s<=0->(ae8 x y=0->ae8 y z=0->r<=0->s<=0->t<=0)->lex (ae8 x z) t<=0:=fun x y z r s t h1 h2 h3=>by
  have k1:=cn2.tr x y z trivial trivial trivial;have k2:=cn2.tr z x y trivial trivial trivial;have k3:=cn2.tr y z x trivial trivial trivial;have n1:=cn2.neg x y;have n2:=cn2.neg y z;have n3:=cn2.neg x z;unfold lex at *;split at h1<;>split at h2<;>split<;>first|omega|exact h3 (by assumption) (by assumption) h1 h2
 intro a
 induction a with
 | nil=>
  intro b c _ hb hc h1 h2
  cases b with
  | nil=>exact h2
  | cons y b=>
   cases c with
   | nil=>simp only[zt,ax3,bg9]; decide
   | cons z c=>
    simp only[zt,zr,ax3,bg9] at *;refine hd _ y z _ _ _ h1 h2 fun e _ _ _=>?_
    exact absurd (ca9 e).symm (hb y ze)
 | cons x a ih=>
  intro b c ha hb hc h1 h2
  cases b with
  | nil=>
   simp only[zt,zr,ax3,bg9,bt3] at h1
   cases c with
   | nil=>simp only[zt,zr,ax3,bg9,bt3]; exact h1
   | cons z c=>
    simp only[zt,zr,ax3,bg9,bt3] at *;refine hd x db5 z _ _ _ h1 h2 fun e _ _ _=>?_
    exact absurd (ca9 e) (ha x ze)
  | cons y b=>
   cases c with
   | nil=>
    simp only[zt,zr,ax3,bg9,bt3] at *;refine hd x y db5 _ _ _ h1 h2 fun _ e _ _=>?_
    exact absurd (ca9 e) (hb y ze)
   | cons z c=>
    simp only[zr,ax3] at *;refine hd x y z _ _ _ h1 h2 fun _ _ r s=>?_
    exact ih b c (fun p hp=>ha p (zc _ hp)) (fun p hp=>hb p (zc _ hp)) (fun p hp=>hc p (zc _ hp)) r s
theorem ey5 (b:UInt8):ad2 b≠2:=by
 unfold ad2
 repeat (first|split|omega)
theorem bn6 (s:Str):∀ x∈ab7 s,x.kind≠2:=by
 unfold ab7
 have : ∀ n s,∀ x∈au4 n s,x.kind≠2:=by
  intro n
  induction n with
  | zero=>intro s x hx; cases hx
  | succ n ih=>
   intro s x hx
   cases s with
   | nil=>cases hx
   | cons b l=>
    simp only[au4] at hx;split at hx
    ·exact ih _ x hx
    ·split at hx
     ·rcases zb.1 hx with rfl|hx
      ·exact ey5 b
      ·exact ih _ x hx
     ·rcases zb.1 hx with rfl|hx
      ·exact ey5 b
      ·exact ih _ x hx
 exact this _ s
theorem id4:WO (fun _=>True) ao6 where
 neg:=fun a b=>cm9 a b
 tr:=fun a b c _ _ _ h1 h2=>hf5 _ _ _ (bn6 a) (bn6 b) (bn6 c) h1 h2
theorem id5:WO (fun e:EVR=>e.rel≠[]) ai5 where
 neg:=fun a b=>cn1 a b
 tr:=by
  have h:=(cz4.of EVR.ak4).lex ((id4.of EVR.ver).lex (id4.of EVR.rel))
  have e:∀ a b:EVR,a.rel≠[]->b.rel≠[]->ai5 a b=lex (al7 a.ak4 b.ak4) (lex (ao6 a.ver b.ver) (ao6 a.rel b.rel)):=fun a b ha hb=>by
   unfold ai5 lex;have hn:¬ (a.rel=[]\/b.rel=[]):=by simp[ha,hb]
   rw[if_neg hn];by_cases h1:al7 a.ak4 b.ak4=0<;>by_cases h2:ao6 a.ver b.ver=0<;>simp[h1,h2]
  intro a b c ha hb hc;rw[e a b ha hb,e b c hb hc,e a c ha hc];exact h.tr a b c trivial trivial trivial
end Go.Id.Md
namespace Go.Id.Md
open Go Go.Id
def ct1 (k:Int):Nat:=if k=4 then 3 else if k=5 then 3 else if k=7 then 2 else 24
def ao9 (k:Int)(d:Dep)(n:Nat):Bool:=decide (1<k)&&decide (k<=7)&&decide (d=cq3)&&decide (2<=n)&&decide (n<=ct1 k)
mutual
def aa6.ms:aa6->Nat×Nat×Bool
 | .mk k d aZ=>if k=1 then (1,0,decide (aZ.length=0)&&ak5 d) else ((aa6.msL aZ 1 0 (ao9 k d aZ.length)).1,(aa6.msL aZ 1 0 (ao9 k d aZ.length)).2.1+1,(aa6.msL aZ 1 0 (ao9 k d aZ.length)).2.2)
def aa6.msL:List aa6->Nat->Nat->Bool->Nat×Nat×Bool
 | [],p,d,ok=>(p,d,ok)
 | r::rs,p,d,ok=>if ok=true then aa6.msL rs (p+r.ms.1) (max d r.ms.2.1) r.ms.2.2 else (p,d,false)
end
def bv5 (r:aa6):Bool:=r.ms.2.2&&decide (r.ms.1<=24)&&decide (r.ms.2.1<=8)
inductive aa6.Good:aa6->Prop
 | atom (d:Dep) (h:ak5 d=true):aa6.Good (.mk 1 d [])
 | node (k:Int) (d:Dep) (aZ:List aa6) (h1:1<k) (h2:k<=7) (h3:2<=aZ.length) (h4:aZ.length<=ct1 k) (h5:∀ a∈aZ,aa6.Good a):aa6.Good (.mk k d aZ)
theorem aa6.gh9:∀ (aZ:List aa6) (p d:Nat) (ok:Bool),(aa6.msL aZ p d ok).2.2=true->ok=true/\∀ a∈aZ,a.ms.2.2=true:=by
 intro aZ
 induction aZ with
 | nil=>intro p d ok h; exact ⟨h,fun _ h=>by cases h⟩
 | cons r rs ih=>
  intro p d ok h;simp only[aa6.msL] at h;split at h
  ·rename_i hk;obtain ⟨h1,h2⟩:=ih _ _ _ h;refine ⟨hk,fun a ha=>?_⟩;rcases zb.1 ha with rfl|ha
   ·exact h1
   ·exact h2 a ha
  ·cases h
theorem aa6.gi1 (r:aa6):r.ms.2.2=true->r.Good:=by
 induction r using aa6.ind with
 | h k d aZ ih=>
  intro h;unfold aa6.ms at h;split at h
  ·rename_i hk;subst hk;simp only[za,decide_eq_true_eq] at h;obtain ⟨h1,h2⟩:=h;have e:aZ=[]:=z5.1 h1;subst e;exact .atom d h2
  ·obtain ⟨h1,h2⟩:=aa6.gh9 _ _ _ _ h;unfold ao9 at h1;simp only[za,decide_eq_true_eq] at h1;exact .node k d aZ h1.1.1.1.1 h1.1.1.1.2 h1.1.2 h1.2 fun a ha=>ih a ha (h2 a ha)
theorem aa6.je2 (aZ:List aa6)(h:∀ a∈aZ,a.ms.1<=a.count/\a.ms.2.1<=a.count):∀ (p d:Nat) (ok:Bool),(aa6.msL aZ p d ok).1<=p+aa6.counts aZ/\(aa6.msL aZ p d ok).2.1<=d+aa6.counts aZ:=by
 induction aZ with
 | nil=>intro p d ok; simp[aa6.msL,aa6.counts]
 | cons r rs ih=>
  intro p d ok;obtain ⟨h1,h2⟩:=h r ze;have ih':=ih (fun a ha=>h a (zc _ ha));simp only[aa6.msL,aa6.counts];split
  ·obtain ⟨i1,i2⟩:=ih' (p+r.ms.1) (max d r.ms.2.1) r.ms.2.2;omega
  ·simp only; omega
theorem aa6.je3 (r:aa6):r.ms.1<=r.count/\r.ms.2.1<=r.count:=by
 induction r using aa6.ind with
 | h k d aZ ih=>
  unfold aa6.ms;simp only[aa6.count];split
  ·simp only; omega
  ·obtain ⟨h1,h2⟩:=aa6.je2 aZ ih 1 0 (ao9 k d aZ.length);simp only; omega
abbrev ff:List Bool->Bool:=fun _=>false
def dm6 (c n:Nat):List Bool:=(z6 c).map fun m=>decide (m=n)
def stB (c:Nat)(zs:List Int):List Bool:=(z6 c).map fun (m:Nat)=>decide ((m:Int)∈zs)
def gi2 (st:List Bool)(f:Nat->Bool):Bool:=(z6 st.length).any fun n=>st.getD n false&&f n
def trK (l:List aa2)(k:Int)(d:Dep)(fs:List (List Bool->Bool))(st:List Bool):Bool :=
 if k=1 then (ap6 l d).any fun n=>st.getD n.toNat false
 else if k=2 then fs.all fun f=>f st
 else if k=3 then fs.any fun f=>f st
 else if k=4 then (if (fs.getD 1 ff) st then (fs.getD 0 ff) st else decide (fs.length<3)||(fs.getD 2 ff) st)
 else if k=5 then (if (fs.getD 1 ff) st then decide (fs.length=3)&&(fs.getD 2 ff) st else (fs.getD 0 ff) st)
 else if k=6 then gi2 st fun n=>fs.all fun f=>f (dm6 st.length n)
 else gi2 st fun n=>(fs.getD 0 ff) (dm6 st.length n)&&!(fs.getD 1 ff) (dm6 st.length n)
mutual
def aa6.tr (l:List aa2):aa6->List Bool->Bool
 | .mk k d aZ,st=>trK l k d (aa6.trs l aZ) st
def aa6.trs (l:List aa2):List aa6->List (List Bool->Bool)
 | []=>[]
 | r::rs=>(fun st=>r.tr l st)::aa6.trs l rs
end
theorem aa6.at7 (l:List aa2)(aZ:List aa6):aa6.trs l aZ=aZ.map fun r st=>r.tr l st:=by
 induction aZ with
 | nil=>rfl
 | cons r rs ih=>simp only[aa6.trs,zf,ih]
def hf6 (l:List aa2)(zs:List Int)(r:aa6):Bool:=bv5 r&&r.tr l (stB l.length zs)
def aa6.atoms (r:aa6):List Dep:=(r.parts false).filterMap fun p=>if p.1.kind=1 then some p.1.dep else none
structure ag6 where
 a:ad9
 ct2:List Bool
def bu9 (b:Bool):List IV:=[.bool b]
namespace ag6
variable (o:ag6)
def cs:List IV:=[o.a.v,o.a.p.v,.int .u8 o.a.r.aj1,.aa4 (o.a.l.map aa2.cs),.aa4 (o.ct2.map bu9)]
def v:IV:=.ab5 o.cs
def lk (n:Int):Bool:=o.ct2.getD n.toNat false
def likes (n:Int):Bool:=o.a.is n&&o.lk n
def bb9 (b:Bool):Int:=if b then 0 else 1
def prio (n:Int):Int:=(o.a.p.rows.getD n.toNat ⟨default,0,0⟩).prio
def cmp (n m:Int):Int :=
 lex (al7 (bb9 (o.a.fits n)) (bb9 (o.a.fits m))) (lex (al7 (al1 o.a.r.aj1 (o.a.pk n).aj1) (al1 o.a.r.aj1 (o.a.pk m).aj1)) (lex (al7 (o.prio m) (o.prio n))
  (lex (al7 (bb9 (o.lk n)) (bb9 (o.lk m))) (lex (ai5 (o.a.pk m).evr (o.a.pk n).evr) (al7 n m)))))
def better (n m:Int):Bool:=o.a.is n&&o.a.is m&&decide (o.cmp n m<0)
theorem wo:WO (fun n=>(o.a.pk n).evr.rel≠[]) o.cmp:=by
 have hi {g:Int->Int}:WO (fun n=>(o.a.pk n).evr.rel≠[]) fun a b=>al7 (g a) (g b):=(cz4.of g).sub fun _ _=>trivial
 exact hi.lex (hi.lex ((hi (g:=o.prio)).flip.lex (hi.lex ((id5.of fun n=>(o.a.pk n).evr).flip.lex (hi (g:=fun n=>n))))))
theorem bj1 {n m:Int}(h:o.cmp n m=0):n=m:=by
 unfold cmp lex at h
 repeat (first|exact ao8.1 h|(split at h; rotate_left; contradiction))
theorem cu7 (n:Int):o.cmp n n=0:=by have:=o.wo.neg n n; omega
def bk8 (zs:List Int):List Int:=(ak9 (fun n=>decide ((n:Int)∈zs)) o.a.l.length).mergeSort fun x y=>!decide (o.cmp y x<0)
theorem bn7 {zs:List Int}{n:Int}:n∈o.bk8 zs↔n∈zs/\o.a.is n=true:=by
 unfold bk8;rw[(qc _ _).mem_iff,bg7];constructor
 ·rintro ⟨m,rfl,h1,h2⟩;exact ⟨by simpa using h2,by rw[ad9.bn5]; exact decide_eq_true h1⟩
 ·rintro ⟨h1,h2⟩;unfold ad9.is at h2;simp only[za,decide_eq_true_eq] at h2;have e:((n.toNat:Nat):Int)=n:=om
  exact ⟨n.toNat,e.symm,om,by rw[e]; exact decide_eq_true h1⟩
variable (hr:∀ n,o.a.is n=true->(o.a.pk n).evr.rel≠[])
include hr
theorem lt_trans {a b c:Int}(ha:o.a.is a=true)(hb:o.a.is b=true)(hc:o.a.is c=true)(h1:o.cmp a b<0)(h2:o.cmp b c<0):o.cmp a c<0:=by
 have k1:=o.wo.tr a b c (hr a ha) (hr b hb) (hr c hc);have k2:=o.wo.tr c a b (hr c hc) (hr a ha) (hr b hb);have n1:=o.wo.neg a b;have n2:=o.wo.neg b c;have n3:=o.wo.neg a c;omega
theorem hf7 (zs:List Int):(o.bk8 zs).Pairwise fun x y=>o.cmp x y<0:=by
 have hm:∀ x∈ak9 (fun n=>decide ((n:Int)∈zs)) o.a.l.length,o.a.is x=true:=fun x hx=>by
  obtain ⟨m,rfl,h1,_⟩:=bg7.1 hx;rw[ad9.bn5]; exact decide_eq_true h1
 have hnd:(o.bk8 zs).Nodup:=by
  unfold bk8;rw[(qc _ _).nodup_iff];exact (dt1 _ _).imp fun h e=>by omega
 have hmem:∀ x∈o.bk8 zs,o.a.is x=true:=fun x hx=>((o.bn7).1 hx).2
 have hp:(o.bk8 zs).Pairwise fun x y=>(!decide (o.cmp y x<0))=true:=by
  unfold bk8
  -- the order holds among the numbers that there are
  let S:={ n:Int // o.a.is n=true };let L:List S:=(ak9 (fun n=>decide ((n:Int)∈zs)) o.a.l.length).attach.map fun x=>⟨x.1,hm x.1 x.2⟩
  have hL:L.map (·.1)=ak9 (fun n=>decide ((n:Int)∈zs)) o.a.l.length:=by
   show (qw _ (qw _ _))=_;rw[z7];exact qh _
  rw[<- hL,<- q0 (r:=fun x y:S=>!decide (o.cmp y.1 x.1<0)) (fun _ _ _ _=>rfl)];refine z3.map _ (fun _ _ h=>h) ?_;refine qp ?_ ?_ L
  ·intro a b c h1 h2;have k1:=o.wo.tr a.1 b.1 c.1 (hr _ a.2) (hr _ b.2) (hr _ c.2);have n1:=o.wo.neg a.1 b.1;have n2:=o.wo.neg b.1 c.1;have n3:=o.wo.neg a.1 c.1;simp only[q7,decide_eq_false_iff_not] at h1 h2 ⊢;omega
  ·intro a b;have n1:=o.wo.neg a.1 b.1;by_cases h:o.cmp a.1 b.1<0
   ·have:¬ o.cmp b.1 a.1<0:=om
    simp[h,this]
   ·simp[h]
 refine hp.imp₂ (fun {x y} h1 h2=>?_) hnd;have n1:=o.wo.neg x y;have n2:=fun h=>o.bj1 (n:=x) (m:=y) h
 have h2':x≠y:=h2;have h1':¬ o.cmp y x<0:=by simpa using h1
 have:o.cmp x y≠0:=fun h=>h2' (n2 h)
 omega
theorem je4:∀ {D F:List Int},(∀ x∈D,o.a.is x=true)->(∀ x∈F,o.a.is x=true)->D.Pairwise (fun x y=>o.cmp x y<0)->F.Pairwise (fun x y=>o.cmp x y<0)->(∀ x,x∈D↔x∈F)->D=F:=by
 intro D
 induction D with
 | nil=>intro F _ _ _ _ h; cases F with
  | nil=>rfl
  | cons y F=>exact absurd ((h y).2 ze) (by simp)
 | cons x D ih=>
  intro F hD hF pD pF h
  cases F with
  | nil=>exact absurd ((h x).1 ze) (by simp)
  | cons y F=>
   obtain ⟨pD1,pD2⟩:=qd.1 pD;obtain ⟨pF1,pF2⟩:=qd.1 pF
   have hxy:x=y:=by
    rcases zb.1 ((h x).1 ze) with h1|h1
    ·exact h1
    rcases zb.1 ((h y).2 ze) with h2|h2
    ·exact h2.symm
    have:=pF1 x h1;have:=pD1 y h2;have:=o.wo.neg x y;omega
   subst hxy;congr 1
   have nD:∀ z∈D,z≠x:=fun z hz e=>by
    subst e; have:=pD1 z hz; rw[o.cu7] at this; omega
   have nF:∀ z∈F,z≠x:=fun z hz e=>by
    subst e; have:=pF1 z hz; rw[o.cu7] at this; omega
   refine ih (fun z hz=>hD z (zc _ hz)) (fun z hz=>hF z (zc _ hz)) pD2 pF2 fun z=>⟨fun hz=>?_,fun hz=>?_⟩
   ·rcases zb.1 ((h z).1 (zc _ hz)) with e|hz'
    ·exact absurd e (nD z hz)
    ·exact hz'
   ·rcases zb.1 ((h z).2 (zc _ hz)) with e|hz'
    ·exact absurd e (nF z hz)
    ·exact hz'
theorem ee2 {zs D:List Int}(h1:D.Pairwise fun x y=>o.cmp x y<0)(h2:∀ x,x∈D↔x∈zs/\o.a.is x=true):D=o.bk8 zs :=
 o.je4 hr (fun x hx=>((h2 x).1 hx).2) (fun x hx=>((o.bn7).1 hx).2) h1 (o.hf7 hr zs) fun x=>(h2 x).trans o.bn7.symm
end ag6
end Go.Id.Md
namespace Go.Id.Md
open Go Go.Id
def headD (k:Int)(n:Nat):Bool :=
 if k=2\/k=3\/k=6 then decide (2<=n) else if k=4\/k=5 then decide (n=2\/n=3) else if k=7 then decide (n=2) else false
mutual
def aa6.part:aa6->Bool
 | .mk k d aZ=>if k=1 then ak5 d&&decide (aZ.length=0) else headD k aZ.length&&(aa6.gf8 aZ&&decide (d=cq3))
def aa6.gf8:List aa6->Bool
 | []=>true
 | r::rs=>r.part&&aa6.gf8 rs
end
theorem aa6.ed2 (aZ:List aa6):aa6.gf8 aZ=aZ.all aa6.part:=by
 induction aZ with
 | nil=>rfl
 | cons r rs ih=>simp only[aa6.gf8,qm,ih]
theorem aa6.gf9 (aZ:List aa6):∀ p d:Nat,(∀ a∈aZ,a.ms=(a.count,a.depth,true))->aa6.msL aZ p d true=(p+aa6.counts aZ,max d (aa6.bc9 aZ),true):=by
 induction aZ with
 | nil=>intro p d _; simp[aa6.msL,aa6.counts,aa6.bc9]
 | cons r rs ih=>
  intro p d h;have hr:=h r ze;simp only[aa6.msL,if_pos,hr,aa6.counts];rw[ih _ _ fun a ha=>h a (zc _ ha)];simp only[aa6.bc9,Nat.add_assoc,Nat.max_assoc]
theorem aa6.eo2 (r:aa6):r.ms.2.2=true->r.ms=(r.count,r.depth,true):=by
 induction r using aa6.ind with
 | h k d aZ ih=>
  intro h;unfold aa6.ms at h ⊢;by_cases hk:k=1
  ·rw[if_pos hk] at h ⊢;simp only[za,decide_eq_true_eq] at h;have e:aZ=[]:=z5.1 h.1;subst e;simp[aa6.count,aa6.counts,aa6.depth,hk,h.2]
  ·rw[if_neg hk] at h ⊢;obtain ⟨h1,h2⟩:=aa6.gh9 _ _ _ _ h;have e:=aa6.gf9 aZ 1 0 fun a ha=>ih a ha (h2 a ha)
   rw[h1] at h ⊢;rw[e];simp only[aa6.count,aa6.depth,hk,if_false];rw[Nat.zero_max,Nat.add_comm]
theorem hc9 {k:Int}{n:Nat}(hn:n<=24)(d:Dep)(h1:k≠1):ao9 k d n=(headD k n&&decide (d=cq3)):=by
 by_cases hk:k=2\/k=3\/k=4\/k=5\/k=6\/k=7
 ·by_cases hd:d=cq3
  ·rw[zm];unfold ao9 headD ct1;rcases hk with rfl|rfl|rfl|rfl|rfl|rfl<;>simp only[hd,za,decide_eq_true_eq,Int.reduceEq,false_or,or_false,or_self,true_or,or_true,if_true,if_false,reduceCtorEq,decide_true,and_true,true_and,Int.reduceLT,Int.reduceLE]<;>omega
  ·simp[ao9,hd]
 ·have e1:¬ (k=2\/k=3\/k=6):=om
  have e2:¬ (k=4\/k=5):=om
  have e3:¬ k=7:=om
  unfold headD;rw[if_neg e1,if_neg e2,if_neg e3,Bool.false_and];unfold ao9;by_cases h:1<k
  ·simp[show ¬ k<=7 by omega]
  ·simp[h]
theorem aa6.jd3 (aZ:List aa6):aZ.length<=aa6.counts aZ:=by
 induction aZ with
 | nil=>simp[aa6.counts]
 | cons r rs ih=>cases r; simp only[aa6.counts,aa6.count,zi]; omega
theorem aa6.gg6 (r:aa6):r.count<=24->r.part=r.ms.2.2:=by
 induction r using aa6.ind with
 | h k d aZ ih=>
  intro hc;simp only[aa6.count] at hc;have hl:=aa6.jd3 aZ;unfold aa6.part aa6.ms;by_cases hk:k=1
  ·rw[if_pos hk,if_pos hk,qo]
  ·rw[if_neg hk,if_neg hk,aa6.ed2,zm];have hd:=hc9 (k:=k) (n:=aZ.length) om d hk;have ih':∀ a∈aZ,a.part=a.ms.2.2:=fun a ha=>ih a ha (by have:=aa6.dm2 ha; omega)
   simp only[za,zg];constructor
   ·rintro ⟨h1,h2,h3⟩;have e:=aa6.gf9 aZ 1 0 fun a ha=>aa6.eo2 a (by rw[<- ih' a ha]; exact h2 a ha)
    rw[hd,h1,h3,Bool.and_self,e]
   ·intro h;obtain ⟨h1,h2⟩:=aa6.gh9 _ _ _ _ h;rw[hd,za] at h1;exact ⟨h1.1,fun a ha=>by rw[ih' a ha]; exact h2 a ha,h1.2⟩
theorem gg7 (r:aa6):bv5 r=(r.part&&decide (r.count<=24)&&decide (r.depth<=8)):=by
 unfold bv5;rw[zm];simp only[za,decide_eq_true_eq];constructor
 ·rintro ⟨⟨h1,h2⟩,h3⟩;have e:=aa6.eo2 r h1;rw[e] at h2 h3;exact ⟨⟨by rw[aa6.gg6 r h2]; exact h1,h2⟩,h3⟩
 ·rintro ⟨⟨h1,h2⟩,h3⟩;rw[aa6.gg6 r h2] at h1;have e:=aa6.eo2 r h1;rw[e];exact ⟨⟨rfl,h2⟩,h3⟩
theorem bn2 (c:Nat)(zs:List Int):(stB c zs).length=c:=by unfold stB; rw[zo,List.length_range]
theorem dr8 (c:Nat)(zs:List Int)(n:Nat):(stB c zs).getD n false=(decide (n<c)&&decide ((n:Int)∈zs)):=by
 unfold stB;by_cases h:n<c
 ·simp[zd,h]
 ·simp[zd,h]
theorem dr9 (c n:Nat):dm6 c n=stB c [(n:Int)]:=by
 unfold dm6 stB;refine qy fun m _=>?_
 rw[decide_eq_decide,zj];omega
theorem cm5 (c:Nat)(zs:List Int)(f:Nat->Bool):gi2 (stB c zs) f=zs.any fun z=>decide (0<=z)&&decide (z<c)&&f z.toNat:=by
 unfold gi2;rw[bn2,zm,zn,zn];constructor
 ·rintro ⟨n,hn,h⟩;rw[za,dr8,za,decide_eq_true_eq,decide_eq_true_eq] at h;refine ⟨n,h.1.2,?_⟩;simp[h.2,h.1.1]
 ·rintro ⟨z,hz,h⟩;simp only[za,decide_eq_true_eq] at h;obtain ⟨⟨h1,h2⟩,h3⟩:=h;have e:(z.toNat:Int)=z:=q4 h1;refine ⟨z.toNat,zq.2 om,?_⟩;rw[za,dr8,za,decide_eq_true_eq,decide_eq_true_eq];exact ⟨⟨om,by rw[e]; exact hz⟩,h3⟩
theorem eo3 (l:List aa2)(d:Dep)(zs:List Int):((ap6 l d).any fun n=>(stB l.length zs).getD n.toNat false)=zs.any fun z=>decide (0<=z)&&decide (z<l.length)&&provides (l.getD z.toNat default) d:=by
 rw[zm,zn,zn];constructor
 ·rintro ⟨n,hn,h⟩;obtain ⟨m,rfl,h1,h2⟩:=au6.1 hn;rw[dr8,za,decide_eq_true_eq,decide_eq_true_eq,z4] at h;refine ⟨m,h.2,?_⟩;simp only[z4,h2];simp[h1]
 ·rintro ⟨z,hz,h⟩;simp only[za,decide_eq_true_eq] at h;obtain ⟨⟨h1,h2⟩,h3⟩:=h;have e:(z.toNat:Int)=z:=q4 h1;refine ⟨z,au6.2 ⟨z.toNat,e.symm,om,h3⟩,?_⟩;rw[dr8,e,za,decide_eq_true_eq,decide_eq_true_eq];exact ⟨om,hz⟩
end Go.Id.Md
namespace Go.Id.Md
open Go Go.Id
theorem aa6.eo4 (l:List aa2)(aZ:List aa6)(i:Nat):(aa6.trs l aZ).getD i ff=if h:i<aZ.length then fun st=>aZ[i].tr l st else ff:=by
 rw[aa6.at7];split
 ·rename_i h; simp[zd,h]
 ·rename_i h; simp[zd,h]
theorem aa6.hd8 (l:List aa2)(n:Nat)(hn:n<l.length)(r:aa6):r.tr [l[n]] (stB 1 [0])=r.tr l (stB l.length [(n:Int)]):=by
 induction r using aa6.ind with
 | h k d aZ ih=>
  show trK _ _ _ _ _=trK _ _ _ _ _;have hl:(stB 1 [0]).length=1:=bn2 _ _;have h1:=eo3 [l[n]] d [0];have h2:=eo3 l d [(n:Int)]
  have hg:∀ i,(aa6.trs [l[n]] aZ).getD i ff (stB 1 [0])=(aa6.trs l aZ).getD i ff (stB l.length [(n:Int)]):=fun i=>by
   rw[aa6.eo4,aa6.eo4];split
   ·rename_i h; exact ih _ (zk h)
   ·rfl
  have ha:(aa6.trs [l[n]] aZ).all (fun f=>f (stB 1 [0]))=(aa6.trs l aZ).all fun f=>f (stB l.length [(n:Int)]):=by
   rw[aa6.at7,aa6.at7,List.all_map,List.all_map,zm,zg,zg];exact ⟨fun h x hx=>by have:=h x hx; simp only[zz] at this ⊢; rw[<- ih x hx]; exact this,fun h x hx=>by have:=h x hx; simp only[zz] at this ⊢; rw[ih x hx]; exact this⟩
  have hy:(aa6.trs [l[n]] aZ).any (fun f=>f (stB 1 [0]))=(aa6.trs l aZ).any fun f=>f (stB l.length [(n:Int)]):=by
   rw[aa6.at7,aa6.at7,List.any_map,List.any_map,zm,zn,zn];exact ⟨fun ⟨x,hx,h⟩=>⟨x,hx,by simp only[zz] at h ⊢; rw[<- ih x hx]; exact h⟩,fun ⟨x,hx,h⟩=>⟨x,hx,by simp only[zz] at h ⊢; rw[ih x hx]; exact h⟩⟩
  have hll:(aa6.trs [l[n]] aZ).length=(aa6.trs l aZ).length:=by rw[aa6.at7,aa6.at7,zo,zo]
  have e1:dm6 1 0=stB 1 [0]:=dr9 1 0;unfold trK;simp only[zi,List.length_nil,Nat.zero_add] at h1;rw[h1,h2,ha,hy,hg,hg,hg,hll,bn2,bn2,cm5,cm5,cm5,cm5];have c1:(decide ((0:Int)<=n)&&decide ((n:Int)<l.length))=true:=by simp[hn]
  have hp:(List.getD [l[n]] (0:Int).toNat default)=l.getD (n:Int).toNat default:=by simp[zd,hn]
  simp only[List.any_cons,List.any_nil,Bool.or_false,c1,qn,hp,z4];simp only[dr9,Int.toNat_zero,Int.natCast_zero,ha,hg];simp
theorem aa6.gg8 (wh:Int)(r:aa6):∀ alone:Bool,r.ec2 wh alone=true->r.part=true:=by
 induction r using aa6.ind with
 | h k d aZ ih=>
  intro alone h;simp only[aa6.ec2,za,aa6.fq8,zg] at h;obtain ⟨h1,h2⟩:=h;unfold hb8 at h1;unfold aa6.part;by_cases hk:k=1
  ·rw[if_pos hk] at h1 ⊢;rw[qo]; exact h1
  ·rw [if_neg hk] at h1 ⊢;rw[za] at h1
   have hp:aa6.gf8 aZ=true:=by
    rw[aa6.ed2,zg];exact fun x hx=>ih x hx _ (h2 x hx)
   rw[hp,h1.2,Bool.and_true,Bool.and_true];have h3:=h1.1;unfold headD;by_cases e1:k=2\/k=3\/k=6
   ·rw[if_pos e1] at h3 ⊢; exact h3
   ·rw [if_neg e1] at h3 ⊢;by_cases e7:k=7
    ·rw[if_pos e7] at h3;rw[if_neg om,if_pos e7]; exact h3
    ·rw[if_neg e7] at h3;by_cases e4:k=4
     ·rw[if_pos e4] at h3;rw[if_pos (.inl e4)];simp only[za,qa,decide_eq_true_eq] at h3 ⊢;exact h3.1.1
     ·rw[if_neg e4] at h3;by_cases e5:k=5
      ·rw[if_pos e5] at h3;rw[if_pos (.inr e5)];simp only[za,qa,decide_eq_true_eq] at h3 ⊢;exact h3.1.1
      ·rw[if_neg e5] at h3; cases h3
theorem ed3 {r:aa6}{wh:Int}(h:ar2 r wh=0):bv5 r=true:=by
 rw[en7] at h;split at h
 ·cases h
 ·split at h
  ·cases h
  ·split at h
   ·cases h
   ·split at h
    ·cases h
    ·rename_i h1 h2 h3 h4;rw[gg7,aa6.gg8 wh r false (by simpa using h4)];simp only[qn,za,decide_eq_true_eq];omega
def cy8 (ab3:List am5)(n:Nat):List Int:=qi n 1025++ab3.flatMap fun r=>qi r.packages.length r.priority
end Go.Id.Md
namespace Go.Id.Md
open Go Go.Id
inductive Way (R:Int->Int->Bool) (L:List Int):Int->Int->Prop
 | once {n m:Int}:n∈L->m∈L->R n m=true->Way R L n m
 | step {n k m:Int}:n∈L->k∈L->R n k=true->Way R L k m->Way R L n m
section
variable {R R':Int->Int->Bool} {L L':List Int}
theorem Way.trans {n k m:Int}(h:Way R L n k)(h2:Way R L k m):Way R L n m:=by
 induction h with
 | once h1 h3 h4=>exact .step h1 h3 h4 h2
 | step h1 h3 h4 _ ih=>exact .step h1 h3 h4 (ih h2)
theorem Way.same {n m:Int}(hL:∀ x,x∈L->x∈L')(h:Way R L n m):Way R L' n m:=by
 induction h with
 | once h1 h2 h3=>exact .once (hL _ h1) (hL _ h2) h3
 | step h1 h2 h3 _ ih=>exact .step (hL _ h1) (hL _ h2) h3 ih
theorem Way.flip {n m:Int}(h:Way R L n m):Way (fun a b=>R b a) L m n:=by
 induction h with
 | once h1 h2 h3=>exact .once h2 h1 h3
 | step h1 h2 h3 _ ih=>exact ih.trans (.once h2 h1 h3)
open Classical in
variable {w w':Int->Int->Bool}
theorem bp4 {l:List Int}{i:Nat}(h:i<l.length):(l.getD i 0::l.eraseIdx i).Perm l:=by
 have e:l.getD i 0=l[i]:=by simp[zd,h]
 rw[e];clear e
 induction l generalizing i with
 | nil=>exact absurd h (Nat.not_lt_zero _)
 | cons a l ih=>
  cases i with
  | zero=>exact List.Perm.refl _
  | succ i=>
   have hi:i<l.length:=by simpa using h
   exact (List.Perm.swap _ _ _).trans ((ih hi).cons _)
end
structure Step where
 kind:Int
 p:Int
 deriving DecidableEq,Inhabited
def Step.cs (s:Step):List IV:=[.int .u8 s.kind,.int .i64 s.p]
section
variable {R:Int->Int->Bool} {l l':List Step}
end
end Go.Id.Md
namespace Go.Id.Md
open Go Go.Id
section
variable {R w:Int->Int->Bool} {L left:List Int}
structure ds2 (R:Int->Int->Bool) (L:List Int) (n m:Int) (met:List Int):Prop where
 from_:∀ x∈met,x∈L/\(x=n\/Way R L n x)
 has:n∈met
 nd:met.Nodup
theorem ds2.zero {n m:Int}(hn:n∈L):ds2 R L n m [n] where
 from_:=fun x hx=>by rw[zj] at hx; subst hx; exact ⟨hn,.inl rfl⟩
 has:=zj.2 rfl
 nd:=(zh.2 ⟨fun h=>(by cases h),zp⟩)
theorem ds2.next {n m x a:Int}{met:List Int}(h:ds2 R L n m met)(hx:x∈met)(ha:a∈L)(hr:R x a=true):Way R L n a:=by
 obtain ⟨h1,h2⟩:=h.from_ x hx;rcases h2 with rfl|h2
 ·exact .once h1 ha hr
 ·exact h2.trans (.once h1 ha hr)
theorem ds2.push {n m x a:Int}{met:List Int}(h:ds2 R L n m met)(hx:x∈met)(ha:a∈L)(hr:R x a=true)(hi:a ∉ met):ds2 R L n m (met++[a]) where
 from_:=fun y hy=>by
  rcases zu.1 hy with hy|hy
  ·exact h.from_ y hy
  ·rw[zj] at hy; subst hy; exact ⟨ha,.inr (h.next hx ha hr)⟩
 has:=qv _ h.has
 nd:=q5.2 ⟨h.nd,(zh.2 ⟨fun h=>(by cases h),zp⟩),fun y hy z hz e=>by rw[zj] at hz; subst hz; subst e; exact hi hy⟩
theorem ds2.len {n m:Int}{met:List Int}(h:ds2 R L n m met):met.length<=L.length:=by
 have:∀ (l m:List Int),l.Nodup->(∀ x∈l,x∈m)->l.length<=m.length:=by
  intro l
  induction l with
  | nil=>intro m _ _; exact Nat.zero_le _
  | cons a l ih=>
   intro m hd hs;obtain ⟨h1,h2⟩:=zh.1 hd;obtain ⟨i,hi,e⟩:=qb.1 (hs a ze);have hg:m.getD i 0=a:=by simp[zd,hi,e]
   have hp:=bp4 hi;rw[hg] at hp
   have:=ih (m.eraseIdx i) h2 fun x hx=>by
    rcases zb.1 (hp.mem_iff.2 (hs x (zc _ hx))) with rfl|h
    ·exact absurd hx h1
    ·exact h
   have hl:=hp.length_eq;simp only[zi] at hl ⊢; omega
 exact this met L h.nd fun x hx=>(h.from_ x hx).1
end
def dc7 (p:aa6×Bool):Option Dep:=if p.1.kind=1 then some p.1.dep else none
theorem fs2 (r:aa6):∀ b c,(r.parts b).filterMap dc7=(r.parts c).filterMap dc7:=by
 induction r using aa6.ind with
 | h k d xs ih=>
  intro b c
  have hs:∀ (ys:List aa6),(∀ y∈ys,y∈xs)->∀ b c,(aa6.aw2 ys b).filterMap dc7=(aa6.aw2 ys c).filterMap dc7:=by
   intro ys
   induction ys with
   | nil=>intro _ b c; rfl
   | cons y ys ih2=>
    intro h b c;simp only[aa6.aw2,qr];rw[ih y (h y ze) b c,ih2 (fun z hz=>h z (zc _ hz)) b c]
  simp only[aa6.parts,qz];rw[hs xs (fun _ h=>h) _ (c||decide (k=6)||decide (k=7))];rfl
theorem ed4 (xs:List aa6):∀ b,(aa6.aw2 xs b).filterMap dc7=xs.flatMap aa6.atoms:=by
 induction xs with
 | nil=>intro b; rfl
 | cons y ys ih=>
  intro b;simp only[aa6.aw2,qr,z1];rw[ih b,fs2 y b false]; rfl
theorem hd9 (k:Int)(d:Dep)(xs:List aa6):(aa6.mk k d xs).atoms=(if k=1 then [d] else [])++xs.flatMap aa6.atoms:=by
 show (aa6.parts (aa6.mk k d xs) false).filterMap dc7=_;simp only[aa6.parts,qz];rw[ed4];by_cases h:k=1
 ·have:dc7 (aa6.mk k d xs,false)=some d:=by unfold dc7; rw[if_pos]; rfl; exact h
  rw[this,if_pos h]; rfl
 ·have:dc7 (aa6.mk k d xs,false)=none:=by unfold dc7; rw[if_neg]; exact h
  rw[this,if_neg h]; rfl
theorem aa6.ed5 {k:Int}{d:Dep}{xs:List aa6}{a:aa6}(h:a∈xs):a.count<=(aa6.mk k d xs).count:=by
 have:∀ ys:List aa6,a∈ys->a.count<=aa6.counts ys:=by
  intro ys
  induction ys with
  | nil=>intro h; cases h
  | cons y ys ih=>
   intro h;simp only[aa6.counts];rcases zb.1 h with rfl|h
   ·omega
   ·have:=ih h; omega
 have:=this xs h;simp only[aa6.count]; omega
end Go.Id.Md
namespace Go.Id.Md
open Go Go.Id
structure OkM (ab3:List am5) (inst:List aa2):Prop where
 n:ab3.length<=16
 all:inst.length+af5 ab3<=256
 inst:inst.all ah8=true
 ab3:∀ r∈ab3,0<=r.priority/\r.priority<=1024/\r.packages.all ah8=true
theorem ed6:∀ (rs:List am5) (i:Nat) (st:List az3×Nms),(∀ r∈rs,0<=r.priority/\r.priority<=1024/\r.packages.all ah8=true)->∃ out,aj9 i rs st=some out:=by
 intro rs
 induction rs with
 | nil=>intro i st _; exact ⟨st,rfl⟩
 | cons r rs ih=>
  intro i st h;obtain ⟨h1,h2,h3⟩:=h r ze;simp only[aj9];rw[if_neg (by rw[h3]; simp; omega)];exact ih _ _ fun x hx=>h x (zc _ hx)
theorem OkM.new {ab3:List am5}{inst:List aa2}(h:OkM ab3 inst):∃ p,ce2 ab3 inst=.inl p:=by
 obtain ⟨⟨rows,nm⟩,ho⟩:=ed6 ab3 0 (rowsOf inst (-1) 1025,dc6 [] 0 inst) h.ab3;unfold ce2;have:=h.n;have:=h.all;rw[if_neg om,if_neg (by rw[h.inst]; simp),ho];exact ⟨_,rfl⟩
theorem fs3 (a b:List am5):af5 (a++b)=af5 a+af5 b:=by simp[af5]
theorem OkM.last {a:List am5}{l:am5}{inst:List aa2}{ps:List aa2}(h:OkM (a++[l]) inst)(hp:∀ p∈ps,p∈l.packages)(hl:ps.length<=l.packages.length):OkM (a++[⟨l.priority,ps⟩]) inst where
 n:=by have:=h.n; rw[zw] at this ⊢; exact this
 all:=by
  have:=h.all;rw[fs3] at this ⊢;have e:af5 [l]=l.packages.length:=by simp[af5]
  have e2:af5 [⟨l.priority,ps⟩]=ps.length:=by simp[af5]
  omega
 inst:=h.inst
 ab3:=fun r hr=>by
  rcases zu.1 hr with hr|hr
  ·exact h.ab3 r (qv _ hr)
  ·rw[zj] at hr;subst hr;obtain ⟨h1,h2,h3⟩:=h.ab3 l (by simp);exact ⟨h1,h2,zg.2 fun p hp'=>zg.1 h3 p (hp p hp')⟩
end Go.Id.Md
namespace Go.Id.Md
open Go Go.Id
def jd4 (f:aa2->aa2)(l:List am5):List am5:=l.map fun r=>⟨r.priority,r.packages.map f⟩
theorem he5 (f:aa2->aa2)(l:List am5):(jd4 f l).length=l.length:=by simp[jd4]
theorem he6 (f:aa2->aa2)(l:List am5):af5 (jd4 f l)=af5 l:=by
 unfold af5 jd4;rw[z7];congr 1;exact qy fun r _=>zo ..
theorem OkM.map {ab3:List am5}{inst:List aa2}{f g:aa2->aa2}(h:OkM ab3 inst)(hf:∀ q,ah8 q=true->ah8 (f q)=true)(hg:∀ q,ah8 q=true->ah8 (g q)=true):OkM (jd4 f ab3) (inst.map g) where
 n:=by rw[he5]; exact h.n
 all:=by rw[he6,zo]; exact h.all
 inst:=zg.2 fun x hx=>by
  obtain ⟨y,hy,rfl⟩:=zl.1 hx;exact hg y (zg.1 h.inst y hy)
 ab3:=fun r hr=>by
  obtain ⟨y,hy,rfl⟩:=zl.1 hr;obtain ⟨h1,h2,h3⟩:=h.ab3 y hy;refine ⟨h1,h2,zg.2 fun x hx=>?_⟩;obtain ⟨z,hz,rfl⟩:=zl.1 hx;exact hf z (zg.1 h3 z hz)
def Pool.aw3 (p:Pool)(n:Int):Int:=if 0<=n/\n<p.rows.length then (p.rows.getD n.toNat ⟨default,0,0⟩).dl9 else -1
theorem ds4 {r:az3}:∀ (l:List am5) (i:Nat),r∈ar3 i l->0<=r.dl9/\∃ x∈l,r.prio=x.priority:=by
 intro l
 induction l with
 | nil=>intro i h; cases h
 | cons x xs ih=>
  intro i h;rw[ar3] at h;rcases zu.1 h with h|h
  ·obtain ⟨q,_,rfl⟩:=zl.1 h;exact ⟨Int.natCast_nonneg _,x,ze,rfl⟩
  ·obtain ⟨h1,y,hy,h2⟩:=ih _ h;exact ⟨h1,y,zc _ hy,h2⟩
end Go.Id.Md
namespace Go.Id.Md
open Go Go.Id
theorem dc8:∀ (l:List am5) (i:Nat),(ar3 i l).map (·.prio)=l.flatMap fun r=>qi r.packages.length r.priority:=by
 intro l
 induction l with
 | nil=>intro i; rfl
 | cons r rs ih=>
  intro i;unfold ar3;rw[zv,ih,z1];congr 1;unfold rowsOf;rw[z7];exact List.map_const' ..
theorem fs4 {ab3:List am5}{inst:List aa2}{p:Pool}(h:ce2 ab3 inst=.inl p):p.rows.map (·.prio)=cy8 ab3 inst.length:=by
 rw[(cu1 h).1,zv,dc8];unfold cy8 rowsOf;congr 1;rw[z7];exact List.map_const' ..
end Go.Id.Md
namespace Go.Id.Md
open Go Go.Id
def ed7:List (Int->Int->Int)->(Int->Int->Int)->Int->Int->Int
 | [],c,n,m=>c n m
 | f::fs,c,n,m=>lex (f n m) (ed7 fs c n m)
theorem ds5 {S:Int->Prop}{c:Int->Int->Int}(hc:WO S c):∀ fs:List (Int->Int->Int),(∀ f∈fs,WO S f)->WO S (ed7 fs c):=by
 intro fs
 induction fs with
 | nil=>intro _; exact hc
 | cons f fs ih=>intro h; exact (h f ze).lex (ih fun g hg=>h g (zc _ hg))
theorem ca8 {c:Int->Int->Int}(hz:∀ n m,c n m=0->n=m):∀ (fs:List (Int->Int->Int)) (n m:Int),ed7 fs c n m=0->n=m:=by
 intro fs
 induction fs with
 | nil=>exact hz
 | cons f fs ih=>
  intro n m h;simp only[ed7,lex] at h;split at h
  ·exact ih n m h
  ·contradiction
def ed8 (c:Int->Int->Int)(zs:List Int):List Int:=zs.mergeSort fun x y=>!decide (c y x<0)
theorem cm6 (c:Int->Int->Int)(zs:List Int):(ed8 c zs).Perm zs:=qc _ _
theorem he7 {S:Int->Prop}{c:Int->Int->Int}(hc:WO S c)(hz:∀ n m,c n m=0->n=m){zs:List Int}(hS:∀ x∈zs,S x)(hd:zs.Nodup):(ed8 c zs).Pairwise fun x y=>c x y<0:=by
 have hnd:(ed8 c zs).Nodup:=(cm6 c zs).nodup_iff.2 hd
 have hp:(ed8 c zs).Pairwise fun x y=>(!decide (c y x<0))=true:=by
  unfold ed8;let T:={ n:Int // S n };let L:List T:=zs.attach.map fun x=>⟨x.1,hS x.1 x.2⟩
  have hL:L.map (·.1)=zs:=by
   show (qw _ (qw _ _))=_;rw[z7];exact qh _
  rw[<- hL,<- q0 (r:=fun x y:T=>!decide (c y.1 x.1<0)) (fun _ _ _ _=>rfl)];refine z3.map _ (fun _ _ h=>h) ?_;refine qp ?_ ?_ L
  ·intro a b d h1 h2;have k1:=hc.tr a.1 b.1 d.1 a.2 b.2 d.2;have n1:=hc.neg a.1 b.1;have n2:=hc.neg b.1 d.1;have n3:=hc.neg a.1 d.1;simp only[q7,decide_eq_false_iff_not] at h1 h2 ⊢;omega
  ·intro a b;have n1:=hc.neg a.1 b.1;by_cases h:c a.1 b.1<0
   ·have:¬ c b.1 a.1<0:=om
    simp[h,this]
   ·simp[h]
 refine hp.imp₂ (fun {x y} h1 h2=>?_) hnd;have n1:=hc.neg x y;have h2':x≠y:=h2;have h1':¬ c y x<0:=by simpa using h1
 have:c x y≠0:=fun h=>h2' (hz _ _ h)
 omega
theorem ed9 {S:Int->Prop}{c:Int->Int->Int}(hc:WO S c)(hz:∀ n m,c n m=0->n=m){zs ds:List Int}(hS:∀ x∈zs,S x)(hd:zs.Nodup)(hp:ds.Perm zs)(hu:ds.Pairwise fun x y=>x=y\/c x y<0):ds=ed8 c zs:=by
 have hnd:ds.Nodup:=hp.nodup_iff.2 hd;have hu':ds.Pairwise fun x y=>c x y<0:=hu.imp₂ (fun {x y} h1 h2=>h1.resolve_left h2) hnd
 exact List.Perm.eq_of_pairwise (fun a b _ _ h1 h2=>by have:=hc.neg a b; omega) hu' (he7 hc hz hS hd) (hp.trans (cm6 c zs).symm)
namespace ag6
variable (o:ag6)
def gg9 (i n:Int):Int:=bb9 (decide ((o.a.pk n).name=(o.a.pk i).name))
def upF (i n m:Int):Int:=lex (al7 (o.gg9 i n) (o.gg9 i m)) (ai5 (o.a.pk m).evr (o.a.pk n).evr)
def cy9 (i n m:Int):Int:=al7 (bb9 (decide (n=i))) (bb9 (decide (m=i)))
def cz1 (n m:Int):Int:=al7 (bb9 (decide (0<=o.a.p.aw3 n))) (bb9 (decide (0<=o.a.p.aw3 m)))
def bn3 (fs:List (Int->Int->Int))(i:Int):List Int:=ed8 (ed7 fs o.cmp) (o.a.av8 i)
abbrev dc9 (n:Int):Prop:=(o.a.pk n).evr.rel≠[]
theorem jd5 (i:Int):WO o.dc9 (o.upF i):=
 ((cz4.of (o.gg9 i)).sub fun _ _=>trivial).lex ((id5.of fun n=>(o.a.pk n).evr).flip)
theorem im4 (i:Int):WO o.dc9 (cy9 i):=(cz4.of fun n=>bb9 (decide (n=i))).sub fun _ _=>trivial
theorem im5:WO o.dc9 o.cz1:=(cz4.of fun n=>bb9 (decide (0<=o.a.p.aw3 n))).sub fun _ _=>trivial
theorem av3 {i n:Int}(h:n∈o.a.av8 i):o.a.is n=true:=by
 unfold ad9.av8 at h;split at h
 ·obtain ⟨m,rfl,hm,_⟩:=bg7.1 h;rw[ad9.bn5]; exact decide_eq_true hm
 ·cases h
theorem bi8 (i:Int):(o.a.av8 i).Nodup:=by
 unfold ad9.av8;split
 ·exact (dt1 _ _).imp fun h e=>by omega
 ·exact zp
theorem cm7 (fs:List (Int->Int->Int))(i:Int):(o.bn3 fs i).Perm (o.a.av8 i):=cm6 _ _
variable (hr:∀ n,o.a.is n=true->(o.a.pk n).evr.rel≠[])
include hr
end ag6
end Go.Id.Md
namespace Go.Id.Md
open Go Go.Id
theorem eo5 (a b:Int):decide (al7 a b<0)=decide (a<b):=by
 unfold al7;by_cases h:a<b
 ·simp[h]
 ·rw[if_neg h];by_cases e:a=b<;>simp[h,e]
theorem cq6 (x y:Int):decide (lex x y<0)=if x=0 then decide (y<0) else decide (x<0):=by unfold lex; split<;>rfl
theorem cz2 (b c:Bool):al7 (ag6.bb9 b) (ag6.bb9 c)=if b=c then 0 else if b=true then -1 else 1:=by cases b<;>cases c<;>rfl
namespace ag6
variable (o:ag6)
def ds6 (n m:Int):Bool :=
 if o.a.fits n=o.a.fits m then
  if al1 o.a.r.aj1 (o.a.pk n).aj1=al1 o.a.r.aj1 (o.a.pk m).aj1 then
   if o.prio n=o.prio m then
    if o.lk n=o.lk m then
     if ai5 (o.a.pk n).evr (o.a.pk m).evr=0 then decide (n<m) else decide (0<ai5 (o.a.pk n).evr (o.a.pk m).evr)
    else o.lk n
   else decide (o.prio m<o.prio n)
  else decide (al1 o.a.r.aj1 (o.a.pk n).aj1<al1 o.a.r.aj1 (o.a.pk m).aj1)
 else o.a.fits n
theorem gh1 (n m:Int):decide (o.cmp n m<0)=o.ds6 n m:=by
 unfold cmp ds6;have hn:=cn1 (o.a.pk n).evr (o.a.pk m).evr;rw[cq6,cq6,cq6,cq6,cq6,cz2,cz2,eo5,eo5,eo5,hn];by_cases e1:o.a.fits n=o.a.fits m
 ·rw [if_pos e1,if_pos e1,if_pos rfl];by_cases e2:al1 o.a.r.aj1 (o.a.pk n).aj1=al1 o.a.r.aj1 (o.a.pk m).aj1
  ·rw[if_pos (ao8.2 e2),if_pos e2];by_cases e3:o.prio n=o.prio m
   ·rw[if_pos (ao8.2 e3.symm),if_pos e3];by_cases e4:o.lk n=o.lk m
    ·rw[if_pos e4,if_pos e4,if_pos rfl];by_cases e5:ai5 (o.a.pk n).evr (o.a.pk m).evr=0
     ·rw[if_pos e5,if_pos om]
     ·rw[if_neg e5,if_neg om,decide_eq_decide]; omega
    ·rw[if_neg e4,if_neg e4];cases hl:o.lk n<;>simp
   ·rw[if_neg fun h=>e3 (ao8.1 h).symm,if_neg e3]
  ·rw[if_neg fun h=>e2 (ao8.1 h),if_neg e2]
 ·rw[if_neg e1,if_neg e1];cases hl:o.a.fits n<;>simp
def upD (i n m:Int):Bool :=
 if decide ((o.a.pk n).name=(o.a.pk i).name)=decide ((o.a.pk m).name=(o.a.pk i).name) then
  if ai5 (o.a.pk n).evr (o.a.pk m).evr=0 then decide (o.cmp n m<0) else decide (0<ai5 (o.a.pk n).evr (o.a.pk m).evr)
 else decide ((o.a.pk n).name=(o.a.pk i).name)
theorem id3 (i n m:Int):decide (lex (o.upF i n m) (o.cmp n m)<0)=o.upD i n m:=by
 unfold upD upF gg9;have hn:=cn1 (o.a.pk n).evr (o.a.pk m).evr;rw[cq6,hn,cz2];by_cases e1:decide ((o.a.pk n).name=(o.a.pk i).name)=decide ((o.a.pk m).name=(o.a.pk i).name)
 ·rw[if_pos e1,if_pos e1];unfold lex;rw[if_pos rfl];by_cases e5:ai5 (o.a.pk n).evr (o.a.pk m).evr=0
  ·rw[if_pos om,if_pos e5]
  ·rw[if_neg om,if_neg e5,decide_eq_decide]; omega
 ·rw[if_neg e1,if_neg e1];unfold lex;by_cases e2:(o.a.pk n).name=(o.a.pk i).name
  ·rw[if_pos (decide_eq_true e2)]; simp[e2]
  ·rw[if_neg (by simp[e2])]; simp[e2]
end ag6
end Go.Id.Md
namespace Go.Id.Md
open Go Go.Id
def ex3 (r:Int->Int->Bool)(out:List Int)(z:Int):Nat->Nat
 | 0=>0
 | k+1=>if r (out.getD k 0) z=true then k+1 else ex3 r out z k
theorem gh2 (r:Int->Int->Bool)(out:List Int)(z:Int):∀ k,ex3 r out z k<=k:=by
 intro k
 induction k with
 | zero=>exact z2 _
 | succ k ih=>unfold ex3; split<;>omega
def gh3 (r:Int->Int->Bool)(out:List Int)(z:Int):List Int:=out.take (ex3 r out z out.length)++z::out.drop (ex3 r out z out.length)
def bx3 (r:Int->Int->Bool)(out:List Int)(z:Int):List Int:=if z∈out then out else gh3 r out z
def gt6 (r:Int->Int->Bool)(l:List Int):List Int:=l.foldl (bx3 r) []
theorem gh4 (r:Int->Int->Bool)(out:List Int)(z:Int):∀ k,(∀ j,ex3 r out z k<=j->j<k->r (out.getD j 0) z=false)/\(0<ex3 r out z k->r (out.getD (ex3 r out z k-1) 0) z=true):=by
 intro k
 induction k with
 | zero=>exact ⟨fun j h1 h2=>om,fun h=>absurd h (Nat.lt_irrefl _)⟩
 | succ k ih=>
  unfold ex3;split
  ·rename_i h; exact ⟨fun j h1 h2=>om,fun _=>h⟩
  ·rename_i h;refine ⟨fun j h1 h2=>?_,ih.2⟩;by_cases e:j=k
   ·subst e; simpa using h
   ·exact ih.1 j h1 om
section
variable {S:Int->Prop} {c:Int->Int->Int} {r:Int->Int->Bool} (hc:WO S c) (hz:∀ n m,c n m=0->n=m) (hr:∀ n m,n≠m->S n->S m->r n m=decide (c n m<0))
include hc hz hr
theorem jd6 {out:List Int}{z:Int}(hS:∀ x∈out,S x)(hSz:S z)(hn:z ∉ out)(hu:out.Pairwise fun x y=>c x y<0):(gh3 r out z).Pairwise fun x y=>c x y<0:=by
 obtain ⟨p,hp⟩:∃ p,p=ex3 r out z out.length:=⟨_,rfl⟩;obtain ⟨h1,h2⟩:=gh4 r out z out.length;have hle:=gh2 r out z out.length;unfold gh3;rw[<- hp] at *;have hget:∀ j (h:j<out.length),out.getD j 0=out[j]:=fun j h=>by simp[zd,h]
 have hne:∀ x∈out,x≠z:=fun x hx e=>hn (e▸hx)
 have tr:∀ a b d,S a->S b->S d->c a b<0->c b d<0->c a d<0:=fun a b d sa sb sd q1 q2=>by
  have k1:=hc.tr a b d sa sb sd;have k2:=hc.tr d a b sd sa sb;have n1:=hc.neg a b;have n2:=hc.neg b d;have n3:=hc.neg a d;omega
 have hd:∀ j (h:j<out.length),p<=j->c z out[j]<0:=fun j h hj=>by
  have q:=h1 j hj h;rw[hget j h,hr _ _ (hne _ (zk h)) (hS _ (zk h)) hSz] at q;have q':¬ c out[j] z<0:=of_decide_eq_false q;have n1:=hc.neg out[j] z;have n2:c out[j] z≠0:=fun e=>hne _ (zk h) (hz _ _ e)
  omega
 have hpw:=qj.1 hu
 have ht:∀ j (h:j<out.length),j<p->c out[j] z<0:=fun j h hj=>by
  have q:=h2 om;have hp1:p-1<out.length:=om
  rw[hget (p-1) hp1,hr _ _ (hne _ (zk hp1)) (hS _ (zk hp1)) hSz] at q;have q':c out[p-1] z<0:=of_decide_eq_true q;by_cases e:j=p-1
  ·subst e; exact q'
  ·exact tr _ _ _ (hS _ (zk h)) (hS _ (zk hp1)) hSz (hpw j (p-1) h hp1 om) q'
 rw[List.pairwise_append];refine ⟨hu.sublist (List.take_sublist _ _),qd.2 ⟨fun y hy=>?_,hu.sublist (List.drop_sublist _ _)⟩,fun x hx y hy=>?_⟩
 ·obtain ⟨j,hj,rfl⟩:=qk.1 hy;exact hd _ om om
 ·obtain ⟨j,hj,rfl⟩:=List.mem_take_iff_getElem.1 hx;have hj1:j<p:=om
  have hj2:j<out.length:=om
  rcases zb.1 hy with rfl|hy
  ·exact ht j hj2 hj1
  ·obtain ⟨k,hk,rfl⟩:=qk.1 hy;exact hpw j (p+k) hj2 om om
omit hc hz hr in
theorem eo6 {out:List Int}{z x:Int}:x∈gh3 r out z↔x=z\/x∈out:=by
 unfold gh3;generalize ex3 r out z out.length=p
 have:x∈out↔x∈out.take p\/x∈out.drop p:=by
  conv=>lhs; rw[<- List.take_append_drop p out,zu]
 rw[zu,zb,this];constructor
 ·rintro (h|h|h)
  ·exact .inr (.inl h)
  ·exact .inl h
  ·exact .inr (.inr h)
 ·rintro (h|h|h)
  ·exact .inr (.inl h)
  ·exact .inl h
  ·exact .inr (.inr h)
theorem im6 (l:List Int):∀ out:List Int,(∀ x∈out,S x)->(∀ x∈l,S x)->out.Pairwise (fun x y=>c x y<0)->(l.foldl (bx3 r) out).Pairwise (fun x y=>c x y<0)/\∀ x,x∈l.foldl (bx3 r) out↔x∈out\/x∈l:=by
 induction l with
 | nil=>intro out _ _ hu; exact ⟨hu,fun x=>by simp⟩
 | cons z l ih=>
  intro out hS hl hu;rw[qf];have hSz:=hl z ze;have hl':=fun x hx=>hl x (zc _ hx)
  by_cases h:z∈out
  ·have e:bx3 r out z=out:=if_pos h;rw[e];obtain ⟨q1,q2⟩:=ih out hS hl' hu;refine ⟨q1,fun x=>(q2 x).trans ⟨fun k=>k.imp id (zc _),fun k=>?_⟩⟩;rcases k with k|k
   ·exact .inl k
   ·rcases zb.1 k with rfl|k
    ·exact .inl h
    ·exact .inr k
  ·have e:bx3 r out z=gh3 r out z:=if_neg h;rw[e]
   obtain ⟨q1,q2⟩:=ih (gh3 r out z) (fun x hx=>by
    rcases eo6.1 hx with rfl|hx
    ·exact hSz
    ·exact hS x hx) hl' (jd6 hc hz hr hS hSz h hu)
   refine ⟨q1,fun x=>(q2 x).trans ?_⟩;rw[eo6,zb];constructor
   ·rintro ((k|k)|k)
    ·exact .inr (.inl k)
    ·exact .inl k
    ·exact .inr (.inr k)
   ·rintro (k|k|k)
    ·exact .inl (.inr k)
    ·exact .inl (.inl k)
    ·exact .inr k
theorem gh5 (l:List Int)(hl:∀ x∈l,S x):(gt6 r l).Pairwise (fun x y=>c x y<0)/\∀ x,x∈gt6 r l↔x∈l:=by
 obtain ⟨h1,h2⟩:=im6 hc hz hr l [] (fun _ h=>by cases h) hl z3.nil;exact ⟨h1,fun x=>(h2 x).trans (by simp)⟩
theorem eo7 (l:List Int)(hl:∀ x∈l,S x)(hd:l.Nodup):gt6 r l=ed8 c l:=by
 obtain ⟨h1,h2⟩:=gh5 hc hz hr l hl;have hself:∀ x,c x x=0:=fun x=>by have:=hc.neg x x; omega
 have hnd:(gt6 r l).Nodup:=h1.imp fun {a b} h e=>by subst e; rw[hself] at h; omega
 exact ed9 hc hz hl hd ((z0 hnd hd).2 h2) (h1.imp .inr)
end
theorem he8 (r:Int->Int->Bool)(l:List Int):∀ out:List Int,(l.foldl (bx3 r) out).length<=out.length+l.length:=by
 induction l with
 | nil=>intro out; exact z2 _
 | cons z l ih=>
  intro out;rw[qf,zi];have:=ih (bx3 r out z)
  have h:(bx3 r out z).length<=out.length+1:=by
   unfold bx3 gh3;split
   ·omega
   ·rw[zw,zi,List.length_take,List.length_drop]; omega
  omega
end Go.Id.Md
namespace Go.Id.Md
open Go Go.Id
namespace ag6
variable (o:ag6)
variable (hr:∀ n,o.a.is n=true->(o.a.pk n).evr.rel≠[])
include hr
theorem ex4 {i:Int}:∀ f∈[cy9 i],WO o.dc9 f:=fun f hf=>by
 rw[zj] at hf; subst hf; exact o.im4 i
theorem gh6 {i:Int}:∀ f∈[o.upF i],WO o.dc9 f:=fun f hf=>by
 rw[zj] at hf; subst hf; exact o.jd5 i
theorem ex5 {i:Int}:∀ f∈[o.cz1,o.upF i],WO o.dc9 f:=fun f hf=>by
 simp only[zb,List.not_mem_nil,or_false] at hf;rcases hf with rfl|rfl
 ·exact o.im5
 ·exact o.jd5 i
end ag6
end Go.Id.Md
namespace Go.Id.Md
open Go Go.Id
namespace ag6
def al5 (o:ag6)(how:Nat)(i n m:Int):Bool :=
 if how=1/\(n=i\/m=i) then decide (n=i)
 else if how=3/\decide (n<o.a.p.inst)≠decide (m<o.a.p.inst) then decide (o.a.p.inst<=n)
 else if how=2\/how=3 then o.upD i n m
 else decide (o.cmp n m<0)
variable (o:ag6)
theorem im7 (i n m:Int):o.al5 0 i n m=decide (o.cmp n m<0):=by
 unfold al5;rw[if_neg om,if_neg om,if_neg om]
theorem im8 {i n m:Int}(h:n≠m):o.al5 1 i n m=decide (ed7 [cy9 i] o.cmp n m<0):=by
 show o.al5 1 i n m=decide (lex (al7 (bb9 (decide (n=i))) (bb9 (decide (m=i)))) (o.cmp n m)<0);unfold al5;rw[cq6,cz2];by_cases e1:n=i
 ·have e2:¬ m=i:=fun e=>h (e1.trans e.symm)
  rw[if_pos ⟨rfl,.inl e1⟩,decide_eq_true e1,decide_eq_false e2]; simp
 ·by_cases e2:m=i
  ·rw[if_pos ⟨rfl,.inr e2⟩,decide_eq_false e1,decide_eq_true e2]; simp
  ·rw[if_neg (by rintro ⟨_,h|h⟩<;>contradiction),if_neg om,if_neg om,decide_eq_false e1,decide_eq_false e2]; simp
theorem im9 (i n m:Int):o.al5 2 i n m=decide (ed7 [o.upF i] o.cmp n m<0):=by
 show o.al5 2 i n m=decide (lex (o.upF i n m) (o.cmp n m)<0);unfold al5;rw[if_neg om,if_neg om,if_pos (.inl rfl),o.id3]
theorem in1 (i:Int){n m:Int}(hn:decide (0<=o.a.p.aw3 n)=!decide (n<o.a.p.inst))(hm:decide (0<=o.a.p.aw3 m)=!decide (m<o.a.p.inst)):o.al5 3 i n m=decide (ed7 [o.cz1,o.upF i] o.cmp n m<0):=by
 show o.al5 3 i n m=decide (lex (al7 (bb9 (decide (0<=o.a.p.aw3 n))) (bb9 (decide (0<=o.a.p.aw3 m)))) (lex (o.upF i n m) (o.cmp n m))<0);unfold al5;rw[if_neg om,cq6,o.id3,cz2,hn,hm];by_cases h:n<o.a.p.inst
 ·by_cases h2:m<o.a.p.inst
  ·simp[h,h2]
  ·have:¬ o.a.p.inst<=n:=om
   simp[h,h2,this]
 ·by_cases h2:m<o.a.p.inst
  ·have:o.a.p.inst<=n:=om
   simp[h,h2,this]
  ·simp[h,h2]
end ag6
theorem gh7 {ab3:List am5}{inst:List aa2}{p:Pool}(h:ce2 ab3 inst=.inl p){n:Nat}(hn:n<p.rows.length):decide (0<=p.aw3 n)=!decide ((n:Int)<p.inst):=by
 obtain ⟨h1,h2⟩:=cu1 h;have hc:0<=(n:Int)/\(n:Int)<p.rows.length:=om
 have hg:p.aw3 n=p.rows[n].dl9:=by
  unfold Pool.aw3;rw[if_pos hc];simp[zd,hn]
 have hl:(rowsOf inst (-1) 1025).length=inst.length:=by simp[rowsOf]
 obtain ⟨x,hx⟩:∃ x,x=p.rows[n]:=⟨_,rfl⟩;have e:p.rows[n]? = some x:=by rw[hx]; exact ql hn
 rw[hg,h2,<- hx];rw[h1] at e;clear hx hg;by_cases hi:n<inst.length
 ·have:x.dl9=-1:=by
   rw[List.getElem?_append_left om] at e;have hm:=qu e;obtain ⟨q,_,hq⟩:=zl.1 hm;rw[<- hq]
  rw[this];simp[hi]
 ·have:0<=x.dl9:=by
   rw[List.getElem?_append_right om] at e;exact (ds4 _ _ (qu e)).1
  simp[this,hi]
end Go.Id.Md
namespace Go.Id.Md
open Go Go.Id
theorem cu5 {p:UInt8->Bool}(l:Str):(l.dropWhile p).length<=l.length:=by
 induction l with
 | nil=>exact z2 _
 | cons a l ih=>
  rw[zy];split
  ·exact z8 ih (Nat.le_succ _)
  ·exact z2 _
theorem eo9:∀ (n m:Nat) (l:Str),l.length<=n->l.length<=m->au4 n l=au4 m l:=by
 intro n
 induction n with
 | zero=>
  intro m l h1 _;have:l=[]:=z5.1 (Nat.le_zero.1 h1);subst this
  cases m<;>rfl
 | succ n ih=>
  intro m l h1 h2
  cases l with
  | nil=>cases m<;>rfl
  | cons b l=>
   cases m with
   | zero=>simp at h2
   | succ m=>
    simp only[zi] at h1 h2
    have hd:ad2 b=ad2 b->((b::l).dropWhile fun c=>ad2 c==ad2 b).length<=l.length:=fun _=>by
     rw[zy,if_pos (by simp)];exact cu5 l
    have hd:=hd rfl;simp only[au4];rw[ih m l om om,ih m _ (z8 hd om) (z8 hd om)]
def fx1 (b:UInt8)(l:Str):Nat:=(l.takeWhile fun c=>ad2 c==ad2 b).length
theorem fs5:ab7 []=[]:=rfl
theorem ey6 {b:UInt8}{l:Str}(h:ad2 b=0):ab7 (b::l)=ab7 l:=by
 unfold ab7;simp only[zi,au4,h,if_true]
theorem ey8 {b:UInt8}{l:Str}(h:ad2 b≠0)(h4:ad2 b<4):ab7 (b::l)=⟨ad2 b,[]⟩::ab7 l:=by
 unfold ab7;simp only[zi,au4,h,h4,if_true,if_false]
theorem cu6 (p:UInt8->Bool)(l:Str):l.takeWhile p=l.take (l.takeWhile p).length/\l.dropWhile p=l.drop (l.takeWhile p).length:=by
 induction l with
 | nil=>exact ⟨rfl,rfl⟩
 | cons a l ih=>
  rw[zx,zy]
  cases h:p a with
  | true=>
   simp only[if_true,zi,qx,List.drop_succ_cons]
   exact ⟨by rw[<- ih.1],ih.2⟩
  | false=>simp
theorem ey9 {b:UInt8}{l:Str}(h4:¬ ad2 b<4):ab7 (b::l)=⟨ad2 b,if ad2 b=5 then ((b::l).take (fx1 b l+1)).dropWhile (· == 48) else (b::l).take (fx1 b l+1)⟩::ab7 (l.drop (fx1 b l)):=by
 have h0:ad2 b≠0:=om
 unfold ab7;simp only[zi,au4,h0,h4,if_false]
 have e1:(b::l).takeWhile (fun c=>ad2 c==ad2 b)=(b::l).take (fx1 b l+1):=by
  rw[zx,if_pos (by simp),qx,(cu6 (fun c=>ad2 c==ad2 b) l).1];unfold fx1; rw[<- (cu6 (fun c=>ad2 c==ad2 b) l).1]
 have e2:(b::l).dropWhile (fun c=>ad2 c==ad2 b)=l.drop (fx1 b l):=by
  rw[zy,if_pos (by simp)];exact (cu6 (fun c=>ad2 c==ad2 b) l).2
 rw[e1,e2,eo9 l.length (l.drop (fx1 b l)).length _ (by rw[List.length_drop]; omega) (z2 _)]
theorem jd9 {p:UInt8->Bool}:∀ (l:Str) (m:Nat),m<(l.takeWhile p).length->∃ c,l[m]? = some c/\p c=true:=by
 intro l
 induction l with
 | nil=>intro m h; simp at h
 | cons a l ih=>
  intro m h;rw[zx] at h
  cases hp:p a with
  | false=>rw[hp] at h; simp at h
  | true=>
   rw[hp] at h
   cases m with
   | zero=>exact ⟨a,rfl,hp⟩
   | succ m=>exact ih m (by simpa using h)
theorem je1 {p:UInt8->Bool}:∀ (l:Str) (c:UInt8),l[(l.takeWhile p).length]? = some c->p c=false:=by
 intro l
 induction l with
 | nil=>intro c h; simp at h
 | cons a l ih=>
  intro c h;rw[zx] at h
  cases hp:p a with
  | false=>rw[hp] at h; simp at h; rw[<- h]; exact hp
  | true=>rw[hp] at h; exact ih c (by simpa using h)
theorem id6 {b:UInt8}{l:Str}{m:Nat}(h:m<fx1 b l):∃ c,l[m]? = some c/\ad2 c=ad2 b:=by
 obtain ⟨c,h1,h2⟩:=jd9 l m h;exact ⟨c,h1,by simpa using h2⟩
theorem id7 {b:UInt8}{l:Str}{c:UInt8}(h:l[fx1 b l]? = some c):ad2 c≠ad2 b:=by
 have:=je1 l c h
 simpa using this
theorem id8 (b:UInt8)(l:Str):fx1 b l<=l.length:=(List.takeWhile_sublist _).length_le
end Go.Id.Md
