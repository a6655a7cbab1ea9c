/- The document's data,and what functions give,in plain words. Conditions: none; no program in sight. -/
import Derived.Test.YthjhfdodeghbpaaGreatDoorFwQ
open Bool renaming and_eq_true→za,or_eq_true→z1,eq_iff_iff→z2,and_comm→qi,not_eq_true'→qw
open List renaming mem_cons→zb,map_cons→zc,length_append→zd,mem_cons_of_mem→ze,mem_cons_self→zf,all_eq_true→zg,mem_range→zh,mem_flatMap→zi,nodup_cons→zj,mem_append→zk,mem_map→zl,nodup_append→zm,range_succ→zn,nil_append→zo,range→zp,cons_append→zq,mem_filter→zr,map_append→zt,length_map→zu,flatMap_append→zv,nodup_nil→zw,mem_singleton→zx,getD_eq_getElem?_getD→zy,Pairwise→zz,flatMap_nil→z0,length_filter_le→z3,mergeSort_perm→z4,filter_append→z5,pairwise_map→z6,map_map→z7,flatMap_cons→z8,filter_congr→z9,not_mem_nil→qa,length_cons→qb,range_zero→qd,find?_cons→qe,attach_map_subtype_val→qf,perm_ext_iff_of_nodup→qg,all_cons→qh,pairwise_mergeSort→qj,length_eq_zero_iff→qk,not_lt→qn,mem_iff_getElem→qo,mem_append_left→qp,map→qq,pairwise_cons→qr,map_mergeSort→qt,length_range→qu
open Nat renaming le_refl→qc,le_trans→qm
open UInt8 renaming ofNat→ql
open Decidable renaming em→qv
set_option linter.all false
private theorem om{P:Prop}(h:P:=by omega):P:=h
private theorem sm{P:Prop}(h:P:=by simp):P:=h
namespace Go.Id.Md
open Go Go.Id
abbrev Str:=List UInt8
structure EVR where
 ar6:Int
 ver:Str
 rel:Str
 deriving DecidableEq,Inhabited
structure Dep where
 name:Str
 op:Int
 evr:EVR
 deriving DecidableEq,Inhabited
inductive aa6 where
 | mk (kind:Int) (dep:Dep) (args:List aa6)
 deriving Inhabited
def aa6.kind:aa6->Int|.mk k _ _=>k
def aa6.dep:aa6->Dep|.mk _ d _=>d
def aa6.args:aa6->List aa6|.mk _ _ a=>a
structure aa1 where
 name:Str
 evr:EVR
 al9:Int
 vendor:Str
 provides:List Dep
 requires:List aa6
 conflicts:List aa6
 ab2:List Dep
 ae1:List aa6
 ac7:List aa6
 suggests:List aa6
 ak8:List aa6
 files:List Str
 deriving Inhabited
structure al5 where
 priority:Int
 packages:List aa1
 deriving Inhabited
def EVR.fit (e:EVR):Prop:=e.ver.length<2^62/\e.rel.length<2^62
def Dep.fit (d:Dep):Prop:=d.name.length<2^62/\d.evr.fit
def aa6.ind {p:aa6->Prop}(h:∀k d b,(∀a∈b,p a)->p (.mk k d b))(r:aa6):p r :=
 aa6.rec (motive_1:=p) (motive_2:=λl=>∀a∈l,p a) (λk d b c=>h k d b c) (λ_ h=>by cases h) (λr i g f a e=>by
  rcases zb.1 e with rfl|h
  .exact g
  .exact f a h) r
mutual
def aa6.fit:aa6->Prop
 | .mk k d aZ=>0<=k/\k<256/\d.fit/\aZ.length<2^31/\aa6.fits aZ
def aa6.fits:List aa6->Prop
 | []=>True
 | r::rs=>r.fit/\aa6.fits rs
end
def aa6.ik6 (l:List aa6):aa6.fits l↔∀r∈l,r.fit:=by
 induction l with
 | nil=>simp[aa6.fits]
 | cons r rs ih=>simp[aa6.fits,ih]
def aa6.ce5 {k:Int}{d:Dep}{a:List aa6}:(aa6.mk k d a).fit↔0<=k/\k<256/\d.fit/\a.length<2^31/\∀r∈a,r.fit:=by
 simp only[aa6.fit,aa6.ik6]
def EVR.cs (e:EVR):List IV:=[.int .i64 e.ar6,.str e.ver,.str e.rel]
def Dep.cs (d:Dep):List IV:=[.str d.name,.int .u8 d.op,.int .i64 d.evr.ar6,.str d.evr.ver,.str d.evr.rel]
mutual
def aa6.cs:aa6->List IV
 | .mk k d aZ=>[.int .u8 k,.str d.name,.int .u8 d.op,.int .i64 d.evr.ar6,.str d.evr.ver,.str d.evr.rel,.aa2 (aa6.css aZ)]
def aa6.css:List aa6->List (List IV)
 | []=>[]
 | r::rs=>r.cs::aa6.css rs
end
def aa6.jj7 (l:List aa6):aa6.css l=l.map aa6.cs:=by
 induction l with
 | nil=>rfl
 | cons r rs ih=>simp only[aa6.css,ih,zc]
def aa6.as1 (r:aa6):r.cs=[.int .u8 r.kind,.str r.dep.name,.int .u8 r.dep.op,.int .i64 r.dep.evr.ar6,.str r.dep.evr.ver,.str r.dep.evr.rel,.aa2 (r.args.map aa6.cs)]:=by
 cases r with
 | mk k d aZ=>simp only[aa6.cs,aa6.jj7,aa6.kind,aa6.dep,aa6.args]
def cc4 (s:Str):List IV:=[.str s]
abbrev deps (l:List Dep):IV:=.aa2 (l.map Dep.cs)
abbrev ao3 (l:List aa6):IV:=.aa2 (l.map aa6.cs)
abbrev strs (l:List Str):IV:=.aa2 (l.map cc4)
def aa1.cs (p:aa1):List IV :=
 [.str p.name,.int .i64 p.evr.ar6,.str p.evr.ver,.str p.evr.rel,.int .u8 p.al9,.str p.vendor,deps p.provides,ao3 p.requires,ao3 p.conflicts,deps p.ab2,ao3 p.ae1,ao3 p.ac7,ao3 p.suggests,ao3 p.ak8,strs p.files]
def al5.cs (r:al5):List IV:=[.int .i64 r.priority,.aa2 (r.packages.map aa1.cs)]
def aa1.rows (p:aa1):List (Int×List aa6):=[(1,p.requires),(2,p.conflicts),(1,p.ae1),(3,p.ac7),(1,p.suggests),(3,p.ak8)]
def signs:Str:=[97,98,99,100,101,102,103,104,105,106,107,108,109,110,111,112,113,114,115,116,117,118,119,120,121,122,65,66,67,68,69,70,71,72,73,74,75,76,77,78,79,80,81,82,83,84,85,86,87,88,89,90,48,49,50,51,52,53,54,55,56,57,46,95,43,45,47,58,64,126,94]
def gw2 (b:UInt8):Bool:=(decide (97<=b.toNat)&&decide (b.toNat<=122))||(decide (65<=b.toNat)&&decide (b.toNat<=90))||(decide (48<=b.toNat)&&decide (b.toNat<=57))
def bg5 (b:UInt8):Bool:=signs.contains b
def words:List Str:=[[97,110,100],[111,114],[105,102],[101,108,115,101],[117,110,108,101,115,115],[119,105,116,104],[119,105,116,104,111,117,116]]
def at5 (s:Str):Bool:=decide (1<=s.length)&&decide (s.length<=64)&&s.all bg5&&!words.contains s
def bj8 (s:Str):Bool:=at5 s&&(s.head? == some 47)
def bp1 (b:UInt8):Bool:=gw2 b || [46,95,43,126,94].contains b
def ay7 (s:Str):Bool:=decide (1<=s.length)&&decide (s.length<=64)&&s.all bp1
def bg6 (e:EVR)(dep:Bool):Bool:=decide (0<=e.ar6)&&decide (e.ar6<=2147483647)&&ay7 e.ver&&(ay7 e.rel||dep&&e.rel.isEmpty)
def eb8 (op:Int):Bool:=[0,1,2,3,4,6].contains op
def gw3:EVR:=⟨0,[],[]⟩
def cq9:Dep:=⟨[],0,gw3⟩
def ak2 (d:Dep):Bool:=at5 d.name&&eb8 d.op&&(if d.op=0 then decide (d.evr=gw3) else !bj8 d.name&&bg6 d.evr true)
def af6 (b:UInt8):Nat:=if b=126 then 1 else if b=94 then 3 else if decide (97<=b)&&decide (b<=122)||decide (65<=b)&&decide (b<=90) then 4 else if decide (48<=b)&&decide (b<=57) then 5 else 0
structure Part where
 kind:Nat
 s:Str
 deriving DecidableEq,Inhabited
def av6:Nat->Str->List Part
 | 0,_=>[]
 | _+1,[]=>[]
 | n+1,b::l=>
  if af6 b=0 then av6 n l
  else if af6 b<4 then ⟨af6 b,[]⟩::av6 n l
  else ⟨af6 b,if af6 b=5 then ((b::l).takeWhile λc=>af6 c==af6 b).dropWhile (· == 48) else (b::l).takeWhile λc=>af6 c==af6 b⟩::av6 n ((b::l).dropWhile λc=>af6 c==af6 b)
def af9 (s:Str):List Part:=av6 s.length s
def aq7 (a b:Int):Int:=if a<b then -1 else if a=b then 0 else 1
def dd6 (a b:Str):Int:=if Op.bytesLess a b then -1 else if a=b then 0 else 1
def ag8 (a b:Part):Int :=
 let k:=aq7 a.kind b.kind
 if k≠0 then k else
 let n:=if a.kind=5/\b.kind=5 then aq7 a.s.length b.s.length else 0
 if n≠0 then n else dd6 a.s b.s
def ah1:List Part->List Part->Int
 | a::aZ,b::bs=>if ag8 a b≠0 then ag8 a b else ah1 aZ bs
 | _,_=>0
def as6 (a b:Str):Int:=ah1 (af9 a++[⟨2,[]⟩]) (af9 b++[⟨2,[]⟩])
def ao6 (a b:EVR):Int :=
 if aq7 a.ar6 b.ar6≠0 then aq7 a.ar6 b.ar6 else
 if as6 a.ver b.ver≠0 then as6 a.ver b.ver else
 if a.rel=[]\/b.rel=[] then 0 else as6 a.rel b.rel
def bit (op:Int)(i:Nat):Bool:=(op.toNat).testBit i
def side (n:Int):Nat:=if n<0 then 0 else if n=0 then 1 else 2
def meet (a b:Dep):Bool :=
 if a.op.toNat%8=0\/b.op.toNat%8=0 then true else
 let n:=ao6 a.evr b.evr
 if n=0 then bit a.op 0&&bit b.op 0||bit a.op 1&&bit b.op 1||bit a.op 2&&bit b.op 2
 else bit a.op (side (-n))||bit b.op (side n)
mutual
def aa6.count:aa6->Nat
 | .mk _ _ aZ=>aa6.counts aZ+1
def aa6.counts:List aa6->Nat
 | []=>0
 | r::rs=>r.count+aa6.counts rs
end
mutual
def aa6.depth:aa6->Nat
 | .mk k _ aZ=>if k=1 then 0 else aa6.bg7 aZ+1
def aa6.bg7:List aa6->Nat
 | []=>0
 | r::rs=>max r.depth (aa6.bg7 rs)
end
-- All parts,and whether each stands within a With,or a Without.
mutual
def aa6.parts:aa6->Bool->List (aa6×Bool)
 | .mk k d aZ,alone=>(.mk k d aZ,alone)::aa6.bj9 aZ (alone||decide (k=6)||decide (k=7))
def aa6.bj9:List aa6->Bool->List (aa6×Bool)
 | [],_=>[]
 | r::rs,alone=>r.parts alone++aa6.bj9 rs alone
end
def asks (k:Int):Nat×Nat×Bool×Nat :=
 if k=1 then (0,0,true,3) else if k=2 then (2,24,true,3) else if k=3 then (2,24,true,3) else if k=4 then (2,3,false,1)
 else if k=5 then (2,3,false,2) else if k=6 then (2,24,true,3) else if k=7 then (2,2,true,3) else (0,0,false,0)
def ah5 (wh:Int)(r:aa6)(alone:Bool):Bool :=
 let x:=asks r.kind
 !(decide ((x.2.2.2:Int)<wh)||alone&&!x.2.2.1||decide (r.args.length<x.1)||decide (x.2.1<r.args.length)) &&
 (if r.kind=1 then ak2 r.dep else decide (r.dep=cq9))
def af3 (r:aa6)(wh:Int):Int :=
 if wh<1\/3<wh then 1 else if r.count>24 then 40 else if r.depth>8 then 21 else if (r.parts false).all λp=>ah5 wh p.1 p.2 then 0 else 4
mutual
def aa6.same:aa6->aa6->Bool
 | .mk k d aZ,.mk k' d' as'=>decide (k=k')&&decide (d=d')&&aa6.jj8 aZ as'
def aa6.jj8:List aa6->List aa6->Bool
 | [],[]=>true
 | r::rs,s::ss=>r.same s&&aa6.jj8 rs ss
 | _,_=>false
end
structure aa1.Fit (p:aa1):Prop where
 name:p.name.length<2^62
 evr:p.evr.fit
 au4:p.provides.length<2^31/\∀d∈p.provides,d.fit
 obs:p.ab2.length<2^31/\∀d∈p.ab2,d.fit
 files:p.files.length<2^31/\∀s∈p.files,s.length<2^62
 rich:∀x∈p.rows,x.2.length<2^31/\∀r∈x.2,r.fit/\r.count<2^31
def ao7 (a:Int):Bool:=decide (1<=a)&&decide (a<=4)
def rising:List Str->Bool
 | a::b::l=>Op.bytesLess a b&&rising (b::l)
 | _=>true
def ai2 (l:List aa6)(wh:Int):Bool:=decide (l.length<=32)&&l.all λr=>decide (af3 r wh=0)
def ae9 (p:aa1):Bool :=
 at5 p.name&&!bj8 p.name&&bg6 p.evr false&&ao7 p.al9&&decide (p.vendor.length<=64) &&
 (decide (p.provides.length<=32)&&p.provides.all ak2)&&(decide (p.ab2.length<=32)&&p.ab2.all ak2)&&(decide (p.files.length<=32)&&p.files.all bj8) &&
 rising p.files&&ai2 p.requires 1&&ai2 p.conflicts 2&&ai2 p.ae1 1&&ai2 p.ac7 3&&ai2 p.suggests 1&&ai2 p.ak8 3
def own (p:aa1):Dep:=⟨p.name,2,p.evr⟩
def meets (a d:Dep):Bool:=decide (a.name=d.name)&&meet a d
def named (p:aa1)(d:Dep):Bool:=meets (own p) d
def provides (p:aa1)(d:Dep):Bool:=named p d||p.provides.any (λa=>meets a d)||decide (d.op=0)&&p.files.contains d.name
def ab2 (p q:aa1):Bool:=p.ab2.any λd=>named q d
def jj9 (l m:List aa6):Bool:=aa6.jj8 l m
end Go.Id.Md
namespace Go.Id.Md
open Go Go.Id
structure bb5 where
 pkg:aa1
 eu2:Int
 prio:Int
def bb5.cs (r:bb5):List IV:=r.pkg.cs++[.int .i64 r.eu2,.int .i64 r.prio]
abbrev Nms:=List (Str×List Int)
def as2:Nms->Str->Int->Nms
 | [],k,n=>[(k,[n])]
 | t::ts,k,n=>if k=t.1 then (k,t.2++[n])::ts else t::as2 ts k n
def dk6:Nms->Nat->List aa1->Nms
 | nm,_,[]=>nm
 | nm,n,p::ps=>dk6 (as2 nm p.name n) (n+1) ps
def ad1 (n:Int):List IV:=[.int .i64 n]
def nmV (nm:Nms):List (IV×IV):=nm.map λt=>(.str t.1,.aa2 (t.2.map ad1))
structure Pool where
 rows:List bb5
 inst:Int
 nm:Nms
def Pool.v (p:Pool):IV:=.ab5 [.aa2 (p.rows.map bb5.cs),.int .i64 p.inst,.am2 (nmV p.nm)]
def rowsOf (l:List aa1)(eu2 prio:Int):List bb5:=l.map λp=>⟨p,eu2,prio⟩
def ez5 (l:List aa1)(x:aa1)(a b:Int):rowsOf (l++[x]) a b=rowsOf l a b++[⟨x,a,b⟩]:=by simp[rowsOf]
def bw3 (l:List aa1)(a b:Int):(rowsOf l a b).length=l.length:=by simp[rowsOf]
def ak5:Nat->List al5->List bb5×Nms->Option (List bb5×Nms)
 | _,[],st=>some st
 | i,r::rs,st=>if r.priority<0\/1024<r.priority\/r.packages.all ae9=false then none else ak5 (i+1) rs (st.1++rowsOf r.packages i r.priority,dk6 st.2 st.1.length r.packages)
def ah3 (l:List al5):Nat:=(l.map λr=>r.packages.length).sum
def by5 (ab4:List al5)(inst:List aa1):Pool ⊕ Int :=
 if 16<ab4.length\/256<inst.length+ah3 ab4 then .inr 40 else
 if inst.all ae9=false then .inr 4 else
 match ak5 0 ab4 (rowsOf inst (-1) 1025,dk6 [] 0 inst) with
 | some (rows,nm)=>.inl ⟨rows,inst.length,nm⟩
 | none=>.inr 4
def kb6 (r:Pool ⊕ Int):IV:=match r with
 | .inl p=>.tuple [p.v,.int .i64 0]
 | .inr e=>.tuple [.ag2,.int .i64 e]
abbrev NmL:=List (Str×List Int×Nat)
def mEs (L:NmL):List (IV×IV):=L.map λt=>(.str t.1,.slice t.2.2 0 t.2.1.length 1)
def be5 (L:NmL):Nms:=L.map λt=>(t.1,t.2.1)
def bf7:NmL->Str->Int->Nat->NmL
 | [],k,n,nid=>[(k,[n],nid)]
 | t::ts,k,n,nid=>if k=t.1 then (k,t.2.1++[n],nid)::ts else t::bf7 ts k n nid
def dd7 (L:NmL)(k:Str):IV:=match L.find? (λt=>decide (k=t.1)) with
 | some t=>.slice t.2.2 0 t.2.1.length 1
 | none=>.aa5
def ci7 (L:NmL)(k:Str):List Int:=match L.find? (λt=>decide (k=t.1)) with
 | some t=>t.2.1
 | none=>[]
def cy1 (L:NmL)(k:Str)(n:Int)(nid:Nat):be5 (bf7 L k n nid)=as2 (be5 L) k n:=by
 induction L with
 | nil=>rfl
 | cons t ts ih=>
  simp only[bf7,be5,zc,as2];split
  .rfl
  .rw[zc];congr 1
def kb7 (L:NmL)(k:Str):(ba7 2 (.str k) (mEs L)).map (λr=>r.getD .aa5)=some (dd7 L k):=by
 induction L with
 | nil=>rfl
 | cons t ts ih=>
  simp only[mEs,zc,ba7,dn1,dd7,qe] at ih ⊢;by_cases h:k=t.1
  .simp[h]
  .simp only[h,decide_false] at ih ⊢;exact ih
def jk6 (L:NmL)(k:Str):∃r,ba7 2 (.str k) (mEs L)=some r/\r.getD .aa5=dd7 L k:=by
 have:=kb7 L k
 cases h:ba7 2 (.str k) (mEs L) with
 | none=>rw[h] at this;cases this
 | some r=>rw[h] at this;exact ⟨r,rfl,by simpa using this⟩
def ks7 (L:NmL)(k:Str)(n:Int)(nid:Nat):eh5 2 (.str k) (.slice nid 0 ((ci7 L k).length+1) 1) (mEs L)=some (mEs (bf7 L k n nid)):=by
 induction L with
 | nil=>rfl
 | cons t ts ih=>
  simp only[mEs,zc,eh5,dn1,ci7,qe,bf7] at ih ⊢;by_cases h:k=t.1
  .simp[h]
  .simp only[h,decide_false,if_false,zc] at ih ⊢;rw[ih];rfl
def ec2 {k:Str}{n:Int}{nid:Nat}:∀ {L:NmL},(L.map (·.1)).Nodup->∀t∈bf7 L k n nid,(t∈L/\t.1≠k)\/t=(k,ci7 L k++[n],nid):=by
 intro L
 induction L with
 | nil=>intro _ t a;simp[bf7] at a;exact .inr (by rw[a];rfl)
 | cons u us ih=>
  intro b t a;rw[zc,zj] at b;simp only[bf7] at a;by_cases h:k=u.1
  .rw[if_pos h] at a;rcases zb.1 a with rfl|a
   .right;simp[ci7,h]
   .left;exact ⟨ze _ a,λe=>b.1 (by rw[<- h,<- e];exact List.mem_map_of_mem (f:=λx:Str×List Int×Nat=>x.1) a)⟩
  .rw[if_neg h] at a;rcases zb.1 a with rfl|a
   .left;exact ⟨zf ..,λe=>h e.symm⟩
   .have e:ci7 (u::us) k=ci7 us k:=by simp[ci7,h]
    rw[e];rcases ih b.2 t a with ⟨c,d⟩|c
    .exact .inl ⟨ze _ c,d⟩
    .exact .inr c
def fj7 {k:Str}{n:Int}{nid:Nat}:∀(L:NmL),(L.map (·.1)).Nodup->((bf7 L k n nid).map (·.1)).Nodup/\∀x∈(bf7 L k n nid).map (·.1),x=k\/x∈L.map (·.1):=by
 intro L
 induction L with
 | nil=>intro _;simp[bf7]
 | cons u us ih=>
  intro hk;rw[zc,zj] at hk;simp only[bf7];by_cases h:k=u.1
  .rw[if_pos h];refine ⟨?_,?_⟩
   .rw[zc,zj];exact ⟨by rw[h];exact hk.1,hk.2⟩
   .intro x hx;simp only[zc,zb] at hx ⊢;rcases hx with h1|h1
    .exact .inl h1
    .exact .inr (.inr h1)
  .rw[if_neg h];have⟨h1,h2⟩:=ih hk.2;refine ⟨?_,?_⟩
   .rw[zc,zj];refine ⟨λhm=>?_,h1⟩;rcases h2 _ hm with e|e
    .exact h e.symm
    .exact hk.1 e
   .intro x hx;simp only[zc,zb] at hx ⊢;rcases hx with h3|h3
    .exact .inr (.inl h3)
    .rcases h2 _ h3 with e|e
     .exact .inl e
     .exact .inr (.inr e)
def gw6 {k:Str}{n:Int}{nid:Nat}:∀(L:NmL),(L.map (·.2.2)).Nodup->nid ∉ L.map (·.2.2)->((bf7 L k n nid).map (·.2.2)).Nodup/\∀x∈(bf7 L k n nid).map (·.2.2),x=nid\/x∈L.map (·.2.2):=by
 intro L
 induction L with
 | nil=>intro _ _;simp[bf7]
 | cons u us ih=>
  intro hk hn;rw[zc,zj] at hk;simp only[zc,zb,not_or] at hn;simp only[bf7];by_cases h:k=u.1
  .rw[if_pos h];refine ⟨?_,?_⟩
   .rw[zc,zj];exact ⟨hn.2,hk.2⟩
   .intro x hx;simp only[zc,zb] at hx ⊢;rcases hx with h1|h1
    .exact .inl h1
    .exact .inr (.inr h1)
  .rw[if_neg h];have⟨h1,h2⟩:=ih hk.2 hn.2;refine ⟨?_,?_⟩
   .rw[zc,zj];refine ⟨λhm=>?_,h1⟩;rcases h2 _ hm with e|e
    .exact hn.1 e.symm
    .exact hk.1 e
   .intro x hx;simp only[zc,zb] at hx ⊢;rcases hx with h3|h3
    .exact .inr (.inl h3)
    .rcases h2 _ h3 with e|e
     .exact .inl e
     .exact .inr (.inr e)
def ce6 (L:NmL)(k:Str):(dd7 L k=.aa5/\ci7 L k=[])\/∃t∈L,t.1=k/\dd7 L k=.slice t.2.2 0 t.2.1.length 1/\ci7 L k=t.2.1:=by
 unfold dd7 ci7
 cases h:L.find? (λt=>decide (k=t.1)) with
 | none=>exact .inl ⟨rfl,rfl⟩
 | some t=>
  have a:=List.find?_some h;exact .inr ⟨t,List.mem_of_find?_eq_some h,by simpa using (by simpa using a:k=t.1).symm,rfl,rfl⟩
def gw7 {L:NmL}(o:(L.map (·.1)).Nodup)(n:(L.map (·.2.2)).Nodup):∀t∈L,∀u∈L,t.2.2=u.2.2->t=u:=by
 intro t k u g e;have⟨i,hi,f⟩:=qo.1 k;have⟨j,m,d⟩:=qo.1 g
 have c:i=j:=by
  have b:i<(L.map (·.2.2)).length:=by simpa using hi
  have a:j<(L.map (·.2.2)).length:=by simpa using m
  have hp:=List.pairwise_iff_getElem.1 n;have e2:(L.map (·.2.2))[i]=(L.map (·.2.2))[j]:=by simp only[List.getElem_map,f,d,e]
  rcases Nat.lt_trichotomy i j with h|h|h
  .exact absurd e2 (hp i j b a h)
  .exact h
  .exact absurd e2.symm (hp j i a b h)
 subst c;rw[<- f,<- d]
mutual
def aa6.ok:aa6->Prop
 | .mk k d xs=>0<=k/\k<256/\d.fit/\xs.length<2^62/\aa6.oks xs
def aa6.oks:List aa6->Prop
 | []=>True
 | r::rs=>r.ok/\aa6.oks rs
end
def aa6.jk7 (l:List aa6):aa6.oks l↔∀r∈l,r.ok:=by
 induction l with
 | nil=>simp[aa6.oks]
 | cons r rs ih=>simp[aa6.oks,ih]
def aa6.gw8 {k:Int}{d:Dep}{xs:List aa6}:(aa6.mk k d xs).ok↔0<=k/\k<256/\d.fit/\xs.length<2^62/\∀r∈xs,r.ok:=by
 simp only[aa6.ok,aa6.jk7]
structure aa1.Ok (p:aa1):Prop where
 name:p.name.length<2^62
 vendor:p.vendor.length<2^62
 evr:p.evr.fit
 au4:p.provides.length<2^62/\∀d∈p.provides,d.fit
 obs:p.ab2.length<2^62/\∀d∈p.ab2,d.fit
 files:p.files.length<2^62/\∀s∈p.files,s.length<2^62
 rich:∀x∈p.rows,x.2.length<2^62/\∀r∈x.2,r.ok
def al5.Ok (r:al5):Prop:=r.packages.length<2^62/\∀p∈r.packages,p.Ok
def big (d:Dep):Bool:=decide (500<d.name.length+d.evr.ver.length)||decide (500<d.evr.rel.length)
mutual
def ce7:aa6->Nat->Nat×Bool
 | .mk _ _ xs,deep=>if 20<deep\/100<xs.length then (0,true) else cw8 xs deep 0
def cw8:List aa6->Nat->Nat->Nat×Bool
 | [],_,n=>(n,false)
 | r::rs,deep,n=>if big r.dep=true then (0,true) else
  if (ce7 r (deep+1)).2=true\/2000<n+1+(ce7 r (deep+1)).1 then (0,true) else cw8 rs deep (n+1+(ce7 r (deep+1)).1)
end
def cw9 (l:List aa6)(deep:Nat):Nat×Bool:=if 20<deep\/100<l.length then (0,true) else cw8 l deep 0
def du6 (r:aa6)(a:Nat):ce7 r a=cw9 r.args a:=by
 cases r;simp only[ce7,cw9,aa6.args];rfl
def ce8:List (List aa6)->Nat->Bool
 | [],_=>false
 | l::ls,n=>if (cw9 l 0).2=true\/2000<n+(cw9 l 0).1 then true else ce8 ls (n+(cw9 l 0).1)
def bq7 (p:aa1):List (List aa6):=[p.requires,p.conflicts,p.ae1,p.ac7,p.suggests,p.ak8]
def av7 (p:aa1):Bool :=
 decide (100<p.provides.length)||(decide (100<p.ab2.length)||(decide (100<p.files.length)||(decide (1000<p.name.length)||(decide (1000<p.vendor.length)||(decide (1000<p.evr.ver.length)||(decide (1000<p.evr.rel.length)||ce8 (bq7 p) 0))))))
def il2:∀(l:List aa6) (a n:Nat),n<=2000->(cw8 l a n).1<=2000:=by
 intro l
 induction l with
 | nil=>intro a n h;simpa [cw8] using h
 | cons r rs ih=>
  intro a n h;simp only[cw8];split
  .omega
  split
  .omega
  .exact ih _ _ om
def fj8 (l:List aa6)(a:Nat):(cw9 l a).1<=2000:=by
 unfold cw9;split
 .omega
 .exact il2 _ _ _ om
def be6:Nat->List al5->List bb5
 | _,[]=>[]
 | i,r::rs=>rowsOf r.packages i r.priority++be6 (i+1) rs
def dk7:∀(b:List al5) (i:Nat) (st:List bb5×Nms) (a:List bb5×Nms),ak5 i b st=some a->a.1=st.1++be6 i b:=by
 intro b
 induction b with
 | nil=>intro i st a h;simp only[ak5,Option.some.injEq] at h;subst h;simp[be6]
 | cons r b ih=>
  intro i st a h;simp only[ak5] at h;split at h
  .cases h
  .rw[ih _ _ _ h];simp[be6]
def cy2 {a:List al5}{inst:List aa1}{p:Pool}(h:by5 a inst=.inl p):p.rows=rowsOf inst (-1) 1025++be6 0 a/\p.inst=inst.length:=by
 unfold by5 at h;split at h
 .cases h
 split at h
 .cases h
 split at h
 .rename_i rows nm hr;cases h;exact ⟨dk7 _ _ _ _ hr,rfl⟩
 .cases h
def il3 {a:List al5}{inst:List aa1}{e:Int}(h:by5 a inst=.inr e):e=40\/e=4:=by
 unfold by5 at h;split at h
 .cases h;exact .inl rfl
 split at h
 .cases h;exact .inr rfl
 split at h
 .cases h
 .cases h;exact .inr rfl
end Go.Id.Md
namespace Go.Id.Md
open Go Go.Id
def ad6:Nms->Str->List Int
 | [],_=>[]
 | t::ts,k=>if k=t.1 then t.2 else ad6 ts k
def KN (nm:Nms):Prop:=(nm.map (·.1)).Nodup
def bk2 {nm:Nms}{k:Str}{n:Int}(h:KN nm)(t:Str×List Int):t∈as2 nm k n↔(t∈nm/\t.1≠k)\/t=(k,ad6 nm k++[n]):=by
 induction nm with
 | nil=>simp[as2,ad6]
 | cons u us ih=>
  have h':u.1 ∉ us.map (·.1)/\KN us:=by simpa [KN] using h
  simp only[as2,ad6];by_cases e:k=u.1
  .rw[if_pos e,if_pos e];subst e;simp only[zb];constructor
   .rintro (rfl|ht)
    .exact .inr rfl
    .exact .inl ⟨.inr ht,λe=>h'.1 (zl.2 ⟨t,ht,e⟩)⟩
   .rintro (⟨rfl|ht,hne⟩|rfl)
    .exact absurd rfl hne
    .exact .inr ht
    .exact .inl rfl
  .rw[if_neg e,if_neg e];simp only[zb,ih h'.2];constructor
   .rintro (rfl|⟨h1,h2⟩|rfl)
    .exact .inl ⟨.inl rfl,λe'=>e e'.symm⟩
    .exact .inl ⟨.inr h1,h2⟩
    .exact .inr rfl
   .rintro (⟨rfl|h1,h2⟩|rfl)
    .exact .inl rfl
    .exact .inr (.inl ⟨h1,h2⟩)
    .exact .inr (.inr rfl)
def gf2 {k:Str}{n:Int}:∀ {nm:Nms},∀x∈(as2 nm k n).map (·.1),x=k\/x∈nm.map (·.1):=by
 intro nm
 induction nm with
 | nil=>intro x a;simpa [as2] using a
 | cons u us ih=>
  intro x a;simp only[as2] at a;split at a
  .rename_i e;simp only[zc,zb] at a ⊢;rcases a with h|h
   .exact .inl h
   .exact .inr (.inr h)
  .simp only[zc,zb] at a ⊢;rcases a with h|h
   .exact .inr (.inl h)
   .rcases ih x h with h|h
    .exact .inl h
    .exact .inr (.inr h)
def an1 {nm:Nms}{k:Str}{n:Int}(h:KN nm):KN (as2 nm k n):=by
 induction nm with
 | nil=>simp[KN,as2]
 | cons u us ih=>
  have h':u.1 ∉ us.map (·.1)/\KN us:=by simpa [KN] using h
  simp only[as2];split
  .rename_i e;subst e;exact h
  .rename_i e;show ((u::as2 us k n).map (·.1)).Nodup;rw[zc,zj];refine ⟨λhm=>?_,ih h'.2⟩;rcases gf2 _ hm with h1|h1
   .exact e h1.symm
   .exact h'.1 h1
def KN.nd {nm:Nms}(h:KN nm):nm.Nodup:=by
 induction nm with
 | nil=>exact zw
 | cons u us ih=>
  have h':u.1 ∉ us.map (·.1)/\KN us:=by simpa [KN] using h
  exact zj.2 ⟨λhm=>h'.1 (zl.2 ⟨u,hm,rfl⟩),ih h'.2⟩
def KN.perm {nm a:Nms}(h:KN nm)(p:nm.Perm a):KN a:=(p.map (λx:Str×List Int=>x.1)).nodup_iff.1 h
def du7 {nm:Nms}(h:KN nm){t:Str×List Int}(a:t∈nm):ad6 nm t.1=t.2:=by
 induction nm with
 | nil=>cases a
 | cons u us ih=>
  have b:u.1 ∉ us.map (·.1)/\KN us:=by simpa [KN] using h
  simp only[ad6];rcases zb.1 a with rfl|a
  .rw[if_pos rfl]
  .rw[if_neg (λe=>b.1 (zl.2 ⟨t,a,e⟩))];exact ih b.2 a
def dd8 {nm:Nms}{k:Str}(h:k ∉ nm.map (·.1)):ad6 nm k=[]:=by
 induction nm with
 | nil=>rfl
 | cons u us ih=>
  simp only[zc,zb,not_or] at h;simp only[ad6];rw[if_neg h.1];exact ih h.2
def dd9 {nm a:Nms}(h:KN nm)(p:nm.Perm a)(k:Str):ad6 nm k=ad6 a k:=by
 by_cases b:k∈nm.map (·.1)
 .obtain ⟨t,c,rfl⟩:=zl.1 b;rw[du7 h c,du7 (h.perm p) (p.mem_iff.1 c)]
 .rw[dd8 b,dd8 (λe=>b ((p.map (·.1)).mem_iff.2 e))]
def bk3 {nm:Nms}(h:KN nm)(k:Str)(n:Int)(j:Str):ad6 (as2 nm k n) j=if j=k then ad6 nm k++[n] else ad6 nm j:=by
 induction nm with
 | nil=>
  simp only[as2,ad6]
  split<;>rfl
 | cons u us ih=>
  have b:u.1 ∉ us.map (·.1)/\KN us:=by simpa [KN] using h
  simp only[as2,ad6];by_cases e:k=u.1
  .rw[if_pos e,if_pos e];simp only[ad6];by_cases a:j=k
   .rw[if_pos a,if_pos a]
   .rw[if_neg a,if_neg a,if_neg (λx=>a (x.trans e.symm))]
  .rw[if_neg e,if_neg e];simp only[ad6,ih b.2];by_cases a:j=k
   .rw[if_pos a,if_pos a,if_neg (λx=>e (a.symm.trans x))]
   .rw[if_neg a,if_neg a]
def bw4 {nm a:Nms}{k:Str}{n:Int}(h:KN nm)(p:nm.Perm a):(as2 nm k n).Perm (as2 a k n):=by
 refine (qg (an1 h).nd (an1 (h.perm p)).nd).2 λt=>?_
 rw[bk2 h,bk2 (h.perm p),dd9 h p,p.mem_iff]
def gf3 {nm:Nms}{k j:Str}{n:Int}(h:KN nm):(as2 (as2 nm k n) j n).Perm (as2 (as2 nm j n) k n):=by
 by_cases e:k=j
 .subst e;exact .refl _
 refine (qg (an1 (an1 h)).nd (an1 (an1 h)).nd).2 λt=>?_
 rw[bk2 (an1 h),bk2 (an1 h),bk2 h,bk2 h,bk3 h,bk3 h,if_neg (λx=>e x.symm),if_neg e];constructor
 .rintro (⟨⟨c,b⟩|rfl,a⟩|rfl)
  .exact .inl ⟨.inl ⟨c,a⟩,b⟩
  .exact .inr rfl
  .exact .inl ⟨.inr rfl,λx=>e x.symm⟩
 .rintro (⟨⟨c,b⟩|rfl,a⟩|rfl)
  .exact .inl ⟨.inl ⟨c,a⟩,b⟩
  .exact .inr rfl
  .exact .inl ⟨.inr rfl,e⟩
def be7 (nm:Nms)(ks:List Str)(n:Int):Nms:=ks.foldl (λm k=>as2 m k n) nm
def em4 {n:Int}:∀ {ks:List Str} {nm:Nms},KN nm->KN (be7 nm ks n)
 | [],_,h=>h
 | _::ks,_,h=>em4 (ks:=ks) (an1 h)
def de1 {n:Int}:∀(ks:List Str) {nm a:Nms},KN nm->nm.Perm a->(be7 nm ks n).Perm (be7 a ks n)
 | [],_,_,_,p=>p
 | _::ks,_,_,h,p=>de1 ks (an1 h) (bw4 h p)
def em5 {n:Int}{ks a:List Str}(p:ks.Perm a):∀ {nm:Nms},KN nm->(be7 nm ks n).Perm (be7 nm a n):=by
 induction p with
 | nil=>intro nm _;exact .refl _
 | cons x _ ih=>intro nm h;exact ih (an1 h)
 | swap x y l=>intro nm h;exact de1 l (an1 (an1 h)) (gf3 h)
 | trans p1 _ ih1 ih2=>intro nm h;exact (ih1 h).trans (ih2 h)
def ez6 (nm:Nms)(ks:List Str)(k:Str)(n:Int):be7 nm (ks++[k]) n=as2 (be7 nm ks n) k n:=by simp[be7]
def av8 (l:List Str)(k:Str):List Str:=if k∈l then l else l++[k]
def cy3 (p:aa1):List Str:=p.files.foldl av8 ((p.provides.map (·.name)).foldl av8 [p.name])
def av1 (nm:Nms)(ds:List Str)(n:Int):Nms:=ds.foldl (λm k=>if n∈ad6 m k then m else as2 m k n) nm
def cu6 (nm:Nms)(ks:List Str)(k:Str)(n:Int):av1 nm (ks++[k]) n=if n∈ad6 (av1 nm ks n) k then av1 nm ks n else as2 (av1 nm ks n) k n:=by
 unfold av1;rw[List.foldl_append];rfl
structure Index where
 all:List aa1
 au4:Nms
 names:Nms
 over:Nms
def Index.v (x:Index):IV:=.ab5 [.aa2 (x.all.map aa1.cs),.am2 (nmV x.au4),.am2 (nmV x.names),.am2 (nmV x.over)]
def em6 (x:Index)(n:Nat)(p:aa1):Index:=⟨x.all++[p],be7 x.au4 (cy3 p) n,as2 x.names p.name n,av1 x.over (p.ab2.map (·.name)) n⟩
def idxFrom (x:Index):Nat->List aa1->Index
 | _,[]=>x
 | n,p::ps=>idxFrom (em6 x n p) (n+1) ps
def ad7 (l:List aa1):Index:=idxFrom ⟨[],[],[],[]⟩ 0 l
def em7 (ps:List aa1)(p:aa1):∀(x:Index) (n:Nat),idxFrom x n (ps++[p])=em6 (idxFrom x n ps) (n+ps.length) p:=by
 induction ps with
 | nil=>intro x n;rfl
 | cons q qs ih=>intro x n;show idxFrom _ (n+1) (qs++[p])=_;rw[ih,qb];congr 1;omega
def gf4 (L:NmL)(k:Str):ad6 (be5 L) k=ci7 L k:=by
 induction L with
 | nil=>rfl
 | cons t ts ih=>
  simp only[be5,zc,ad6,ci7,qe] at ih ⊢;by_cases h:k=t.1
  .simp[h]
  .simp only[h,decide_false,if_false] at ih ⊢;exact ih
def numsOf (q:aa1->Bool)(l:List aa1):List Int:=((zp l.length).filter λn=>q (l.getD n default)).map λ(n:Nat)=>(n:Int)
def ca1 (q:aa1->Bool)(l:List aa1)(p:aa1):numsOf q (l++[p])=numsOf q l++if q p then [(l.length:Int)] else []:=by
 unfold numsOf;rw[zd,List.length_singleton,zn,z5,zt];congr 1
 .congr 1;refine z9 λn a=>?_
  have h:=zh.1 a;simp[zy,List.getElem?_append,h]
 .have e:(l++[p]).getD l.length default=p:=by simp[zy]
  simp only[List.filter_cons,List.filter_nil,e];split<;>rfl
def av9 {q:aa1->Bool}{l:List aa1}{n:Int}:n∈numsOf q l↔∃m:Nat,n=m/\m<l.length/\q (l.getD m default)=true:=by
 unfold numsOf;rw[zl];constructor
 .rintro ⟨m,c,rfl⟩;have⟨b,a⟩:=zr.1 c;exact ⟨m,rfl,zh.1 b,a⟩
 .rintro ⟨m,rfl,b,a⟩;exact ⟨m,zr.2 ⟨zh.2 b,by simpa using a⟩,rfl⟩
def ai6 (q:aa1->Bool)(l:List aa1):(numsOf q l).length<=l.length:=by
 unfold numsOf;rw[zu];exact qm (z3 _ _) sm
def ce9 (q r:aa1->Bool)(l:List aa1):(numsOf q l).filter (λn=>r (l.getD n.toNat default))=numsOf (λp=>q p&&r p) l:=by
 unfold numsOf;rw[List.filter_map,List.filter_filter];congr 1;refine z9 λn _=>?_
 show (r (l.getD ((n:Int)).toNat default)&&q (l.getD n default))=_;rw[Int.toNat_natCast,qi]
def cu7 {q r:aa1->Bool}{l:List aa1}(h:∀p∈l,q p=r p):numsOf q l=numsOf r l:=by
 unfold numsOf;congr 1;refine z9 λn b=>?_
 have a:=zh.1 b;refine h _ ?_;rw[zy,List.getElem?_eq_getElem a];exact List.getElem_mem a
def ez7 {n:Int}:∀(ks:List Str) {nm:Nms},KN nm->ks.Nodup->∀j,ad6 (be7 nm ks n) j=ad6 nm j++if j∈ks then [n] else []:=by
 intro ks
 induction ks with
 | nil=>intro nm _ _ j;simp[be7]
 | cons k ks ih=>
  intro nm h a j;have⟨c,b⟩:=zj.1 a;show ad6 (be7 (as2 nm k n) ks n) j=_;rw[ih (an1 h) b,bk3 h];by_cases e:j=k
  .subst e;simp[c]
  .simp[e]
def gf5 {n:Int}:∀(ks:List Str) {nm:Nms},KN nm->KN (av1 nm ks n):=by
 intro ks
 induction ks with
 | nil=>intro nm h;exact h
 | cons k ks ih=>
  intro nm h;show KN (av1 (if n∈ad6 nm k then nm else as2 nm k n) ks n);split
  .exact ih h
  .exact ih (an1 h)
def em8 {n:Int}:∀(ks:List Str) {nm:Nms},KN nm->∀j,ad6 (av1 nm ks n) j=ad6 nm j++if j∈ks/\n ∉ ad6 nm j then [n] else []:=by
 intro ks
 induction ks with
 | nil=>intro nm _ j;simp[av1]
 | cons k ks ih=>
  intro nm h j;show ad6 (av1 (if n∈ad6 nm k then nm else as2 nm k n) ks n) j=_;by_cases a:n∈ad6 nm k
  .rw[if_pos a,ih h];by_cases e:j=k
   .subst e;simp[a]
   .simp[e]
  .rw[if_neg a,ih (an1 h),bk3 h];by_cases e:j=k
   .subst e;simp[a]
   .simp[e]
def gf6 {l:List Str}{k j:Str}:j∈av8 l k↔j∈l\/j=k:=by
 unfold av8;split
 .rename_i h;exact ⟨.inl,λh'=>h'.elim id λe=>e▸h⟩
 .simp
def de2 {j:Str}:∀(ks l:List Str),j∈ks.foldl av8 l↔j∈l\/j∈ks:=by
 intro ks
 induction ks with
 | nil=>intro l;simp
 | cons k ks ih=>intro l;rw[List.foldl_cons,ih,gf6,zb,or_assoc]
def gf7 {l:List Str}(h:l.Nodup)(k:Str):(av8 l k).Nodup:=by
 unfold av8;split
 .exact h
 .rename_i c;rw[zm];exact ⟨h,by simp,λa d b a e=>by simp at a;subst a;subst e;exact c d⟩
def ca2:∀(ks:List Str) {l:List Str},l.Nodup->(ks.foldl av8 l).Nodup
 | [],_,h=>h
 | k::ks,_,h=>ca2 ks (gf7 h k)
def il4 (p:aa1):(cy3 p).Nodup:=ca2 _ (ca2 _ sm)
def il5 (p:aa1)(j:Str):j∈cy3 p↔j=p.name\/(∃d∈p.provides,d.name=j)\/j∈p.files:=by
 unfold cy3;rw[de2,de2];simp[or_assoc]
structure ez8 (x:Index) (l:List aa1):Prop where
 all:x.all=l
 kp:KN x.au4
 kn:KN x.names
 ko:KN x.over
 au4:∀j,ad6 x.au4 j=numsOf (λp=>decide (j∈cy3 p)) l
 names:∀j,ad6 x.names j=numsOf (λp=>decide (p.name=j)) l
 over:∀j,ad6 x.over j=numsOf (λp=>decide (∃d∈p.ab2,d.name=j)) l
def ez8.add {x:Index}{l:List aa1}(h:ez8 x l)(p:aa1):ez8 (em6 x l.length p) (l++[p]) where
 all:=by show x.all++[p]=_;rw[h.all]
 kp:=em4 h.kp
 kn:=an1 h.kn
 ko:=gf5 _ h.ko
 au4:=λj=>by
  show ad6 (be7 x.au4 (cy3 p) _) j=_;rw[ez7 _ h.kp (il4 p),h.au4,ca1];simp
 names:=λj=>by
  show ad6 (as2 x.names p.name _) j=_;rw[bk3 h.kn,h.names,h.names,ca1];by_cases e:j=p.name
  .subst e;simp
  .have e':¬p.name=j:=λh=>e h.symm
   simp[e,e']
 over:=λj=>by
  show ad6 (av1 x.over _ _) j=_;rw[em8 _ h.ko,h.over,ca1]
  have hn:(l.length:Int) ∉ numsOf (λp=>decide (∃d∈p.ab2,d.name=j)) l:=λhm=>by
   have⟨m,e,h1,_⟩:=av9.1 hm;omega
  simp[hn]
def gf8:∀(ps:List aa1) {x:Index} {l:List aa1},ez8 x l->ez8 (idxFrom x l.length ps) (l++ps):=by
 intro ps
 induction ps with
 | nil=>intro x l h;rw[List.append_nil];exact h
 | cons p ps ih=>
  intro x l h;have:=ih (h.add p);rw[List.append_assoc] at this
  simpa [idxFrom] using this
def bi4 (l:List aa1):ez8 (ad7 l) l:=by
 have h0:ez8 ⟨[],[],[],[]⟩ []:=⟨rfl,zw,zw,zw,λ_=>by simp[ad6,numsOf],λ_=>by simp[ad6,numsOf],λ_=>by simp[ad6,numsOf]⟩;exact gf8 l h0
def em9 {p:aa1}{d:Dep}(h:named p d=true):p.name=d.name:=by
 unfold named meets own at h;simp only[za,decide_eq_true_eq] at h;exact h.1
def en1 {p:aa1}{d:Dep}(h:provides p d=true):d.name∈cy3 p:=by
 unfold provides at h;rw[il5];simp only[z1,za,decide_eq_true_eq,List.any_eq_true] at h;rcases h with (h|⟨a,b,h⟩)|⟨_,h⟩
 .exact .inl (em9 h).symm
 .unfold meets at h;simp only[za,decide_eq_true_eq] at h;exact .inr (.inl ⟨a,b,h.1⟩)
 .exact .inr (.inr (by simpa using h))
def ag3 (l:List aa1)(d:Dep):List Int:=numsOf (λp=>provides p d) l
def ap8 (l:List aa1)(d:Dep):List Int:=numsOf (λp=>named p d) l
def cu8 (l:List aa1)(d:Dep):(ad6 (ad7 l).au4 d.name).filter (λn=>provides (l.getD n.toNat default) d)=ag3 l d:=by
 rw[(bi4 l).au4];refine (ce9 (λp=>decide (d.name∈cy3 p)) (λp=>provides p d) l).trans ?_
 exact cu7 λp _=>by
  cases h:provides p d with
  | false=>simp
  | true=>simp[en1 h]
def fj9 (l:List aa1)(d:Dep):(ad6 (ad7 l).names d.name).filter (λn=>named (l.getD n.toNat default) d)=ap8 l d:=by
 rw[(bi4 l).names];refine (ce9 (λp=>decide (p.name=d.name)) (λp=>named p d) l).trans ?_
 exact cu7 λp _=>by
  cases h:named p d with
  | false=>simp
  | true=>simp[em9 h]
def ec3:∀(b:List al5) (i:Nat) (st:List bb5×Nms) (a:List bb5×Nms),ak5 i b st=some a->∀r∈b,r.packages.all ae9=true:=by
 intro b
 induction b with
 | nil=>intro i st a _ r hr;cases hr
 | cons x xs ih=>
  intro i st a h r hr;simp only[ak5] at h;split at h
  .cases h
  .rename_i hc;rcases zb.1 hr with rfl|hr
   .cases c:r.packages.all ae9 with
    | true=>rfl
    | false=>exact absurd (.inr (.inr c)) hc
   .exact ih _ _ _ h r hr
def cr3 {a:List al5}{inst:List aa1}{p:Pool}(h:by5 a inst=.inl p):a.length<=16/\inst.length+ah3 a<=256/\inst.all ae9=true/\∀r∈a,r.packages.all ae9=true:=by
 unfold by5 at h;split at h
 .cases h
 rename_i hc;split at h
 .cases h
 rename_i b;split at h
 .rename_i rows nm hr;exact ⟨om,om,by simpa using b,ec3 _ _ _ _ hr⟩
 .cases h
def du8 (l:List aa1)(a b:Int):(rowsOf l a b).map (·.pkg)=l:=by
 induction l with
 | nil=>rfl
 | cons x xs ih=>show x::(rowsOf xs a b).map (·.pkg)=_;rw[ih]
def ac3 (p:Pool):List aa1:=p.rows.map (·.pkg)
def ec4:∀(a:List al5) (i:Nat),(be6 i a).map (·.pkg)=a.flatMap (·.packages):=by
 intro a
 induction a with
 | nil=>intro i;rfl
 | cons r a ih=>intro i;simp only[be6,zt,ih,du8,z8]
def gw9:∀(a:List al5),(a.flatMap (·.packages)).length=ah3 a:=by
 intro a
 induction a with
 | nil=>rfl
 | cons r a ih=>simp only[z8,zd,ih];rfl
def bk4 {a:List al5}{inst:List aa1}{p:Pool}(h:by5 a inst=.inl p):ac3 p=inst++a.flatMap (·.packages):=by
 unfold ac3;rw[(cy2 h).1,zt,ec4];congr 1;exact du8 _ _ _
def fk1 {a:List al5}{inst:List aa1}{p:Pool}(h:by5 a inst=.inl p):p.rows.length<=256:=by
 have e:p.rows.length=(ac3 p).length:=by simp[ac3]
 rw[e,bk4 h,zd,gw9];exact (cr3 h).2.1
def ec5 {c:List al5}{inst:List aa1}{p:Pool}(h:by5 c inst=.inl p):∀x∈ac3 p,ae9 x=true/\(x∈inst\/∃r∈c,x∈r.packages):=by
 intro x a;rw[bk4 h] at a;have⟨_,_,e,d⟩:=cr3 h;rcases zk.1 a with a|a
 .exact ⟨zg.1 e x a,.inl a⟩
 .have⟨r,hr,b⟩:=zi.1 a;exact ⟨zg.1 (d r hr) x b,.inr ⟨r,hr,b⟩⟩
def EVR.tiny (e:EVR):Prop:=e.ver.length<=64/\e.rel.length<=64
def fk2 {s:Str}(h:ay7 s=true):s.length<=64:=by
 unfold ay7 at h;simp only[za,decide_eq_true_eq] at h;exact h.1.2
def fk3 {e:EVR}{b:Bool}(h:bg6 e b=true):e.tiny:=by
 unfold bg6 at h;simp only[za,z1,decide_eq_true_eq] at h;refine ⟨fk2 h.1.2,?_⟩;rcases h.2 with h|h
 .exact fk2 h
 .have:=List.isEmpty_iff.1 h.2;rw[this];exact Nat.zero_le _
def ec6 {d:Dep}(h:ak2 d=true):0<=d.op/\d.op<256/\d.evr.tiny/\d.name.length<=64:=by
 unfold ak2 at h;simp only[za] at h;have⟨⟨b,e⟩,a⟩:=h
 have f:d.name.length<=64:=by
  unfold at5 at b;simp only[za,decide_eq_true_eq] at b;exact b.1.1.2
 have c:0<=d.op/\d.op<256:=by
  unfold eb8 at e;simp only[List.contains_iff_mem,zb,qa,or_false] at e;omega
 refine ⟨c.1,c.2,?_,f⟩;split at a
 .have:d.evr=gw3:=by simpa using a
  rw[this];exact ⟨by decide,by decide⟩
 .simp only[za] at a;exact fk3 a.2
structure aa1.Tiny (p:aa1):Prop where
 name:p.name.length<=64
 evr:p.evr.tiny
 au4:p.provides.length<=32/\∀d∈p.provides,0<=d.op/\d.op<256/\d.evr.tiny/\d.name.length<=64
 obs:p.ab2.length<=32/\∀d∈p.ab2,0<=d.op/\d.op<256/\d.evr.tiny/\d.name.length<=64
 files:p.files.length<=32
def fk4 {p:aa1}(h:ae9 p=true):p.Tiny:=by
 unfold ae9 at h;simp only[za,decide_eq_true_eq] at h;obtain ⟨⟨⟨⟨⟨⟨⟨⟨⟨⟨⟨⟨⟨⟨e,_⟩,j⟩,_⟩,_⟩,i,c⟩,g,b⟩,f,_⟩,_⟩,_⟩,_⟩,_⟩,_⟩,_⟩,_⟩:=h;refine ⟨?_,fk3 j,⟨i,λd a=>ec6 (zg.1 c d a)⟩,⟨g,λd a=>ec6 (zg.1 b d a)⟩,f⟩;unfold at5 at e;simp only[za,decide_eq_true_eq] at e;exact e.1.1.2
structure Job where
 kind:Int
 dep:Dep
 deriving DecidableEq,Inhabited
structure be8 where
 kind:Int
 n:Int
 deriving DecidableEq,Inhabited
structure Req where
 al9:Int
 vendor:Bool
 ae8:List Job
 ah9:List be8
 budget:Int
def Job.cs (j:Job):List IV:=[.int .u8 j.kind,.str j.dep.name,.int .u8 j.dep.op,.int .i64 j.dep.evr.ar6,.str j.dep.evr.ver,.str j.dep.evr.rel]
def be8.cs (e:be8):List IV:=[.int .u8 e.kind,.int .i64 e.n]
abbrev ax2 (l:List Job):IV:=.aa2 (l.map Job.cs)
abbrev aw1 (l:List be8):IV:=.aa2 (l.map be8.cs)
def Req.cs (r:Req):List IV:=[.int .u8 r.al9,.bool r.vendor,ax2 r.ae8,aw1 r.ah9,.int .i64 r.budget]
def aj5 (q:Nat->Bool)(k:Nat):List Int:=((zp k).filter q).map λ(n:Nat)=>(n:Int)
def bd3 (q:Nat->Bool)(k:Nat):aj5 q (k+1)=aj5 q k++if q k then [(k:Int)] else []:=by
 unfold aj5;rw[zn,z5,zt];congr 1;simp only[List.filter_cons,List.filter_nil];split<;>rfl
def al4 {q:Nat->Bool}{k:Nat}{n:Int}:n∈aj5 q k↔∃m:Nat,n=m/\m<k/\q m=true:=by
 unfold aj5;rw[zl];constructor
 .rintro ⟨m,c,rfl⟩;have⟨b,a⟩:=zr.1 c;exact ⟨m,rfl,zh.1 b,a⟩
 .rintro ⟨m,rfl,b,a⟩;exact ⟨m,zr.2 ⟨zh.2 b,a⟩,rfl⟩
def ai3 (q:Nat->Bool)(k:Nat):(aj5 q k).length<=k:=by
 unfold aj5;rw[zu];exact qm (z3 _ _) sm
def cy4 (q:Nat->Bool)(k:Nat):(aj5 q k).Pairwise (· < ·):=by
 unfold aj5;refine zz.map (R:=λ(a b:Nat)=>a<b) _ (λa b h=>by show (a:Int)<b;omega) ?_;exact zz.filter _ List.pairwise_lt_range
def ca3 (a:Int):Bool:=ao7 a&&!decide (a=1)
def en2 (a b:Int):Bool:=ca3 a&&ca3 b&&!decide (a=b)
def cy5 (a b:Int):Bool:=ao7 a&&ao7 b&&!en2 a b
def be9 (m a:Int):Int :=
 if m=2 then (if a=1 then 2 else if a=2 then 1 else if a=3 then 3 else 0) else
 if m=3 then (if a=1 then 2 else if a=3 then 1 else 0) else
 if m=4 then (if a=1 then 2 else if a=4 then 1 else 0) else 0
def kb8 (m a:Int):Bool:=decide (0<be9 m a)
structure ac2 where
 p:Pool
 r:Req
namespace ac2
variable (a:ac2)
def l:List aa1:=ac3 a.p
def pk (n:Int):aa1:=a.l.getD n.toNat default
def jb (n:Int):Job:=a.r.ae8.getD n.toNat default
def is (n:Int):Bool:=decide (0<=n)&&decide (n<a.l.length)
def inst (n:Int):Bool:=a.is n&&decide (n<a.p.inst)
def job (n:Int):Bool:=decide (0<=n)&&decide (n<a.r.ae8.length)
def fits (n:Int):Bool:=a.is n&&kb8 a.r.al9 (a.pk n).al9
def ja3 (p q:aa1):Bool:=decide (p.name=q.name)&&!(en2 p.al9 q.al9&&decide (ao6 p.evr q.evr=0))
def twins (n m:Int):Bool:=a.is n&&a.is m&&!decide (n=m)&&ja3 (a.pk n) (a.pk m)
def cf1 (k n:Int):Bool:=decide ((⟨k,n⟩:be8)∈a.r.ah9)
def dropped (n:Int):Bool:=a.job n&&a.cf1 1 n
def ca4 (k n:Int):Bool:=(zp a.r.ae8.length).any λi=>decide ((a.jb i).kind=k)&&!a.dropped i&&decide (n∈ap8 a.l (a.jb i).dep)
def goes (i:Int):Bool:=a.inst i&&(a.ca4 2 i||a.cf1 2 i)
def en3 (vendor down other:Bool)(old q:aa1):Bool:=decide (q.name=old.name)&&(down||decide (0<=ao6 q.evr old.evr))&&(other||cy5 q.al9 old.al9)&&(vendor||decide (q.vendor=old.vendor))
def kx5 (i:Int)(q:aa1):Bool:=en3 a.r.vendor (a.cf1 3 i||a.ca4 4 i) (a.cf1 4 i) (a.pk i) q
def an3 (i:Int):List Int:=if a.inst i then aj5 (λn=>decide ((n:Int)=i)||a.kx5 i (a.pk n)||(!decide ((n:Int)=i)&&ab2 (a.pk n) (a.pk i))) a.l.length else []
def du9 (i:Int):List Int:=(a.an3 i).filter λn=>!(a.inst n || !a.fits n)
def meant (j:Int):List Int:=if a.job j then (if (a.jb j).kind=1 then ag3 a.l (a.jb j).dep else if (a.jb j).kind=2 then ap8 a.l (a.jb j).dep else (ap8 a.l (a.jb j).dep).filter λn=>a.inst n) else []
def some (state l:List Int):Bool:=l.any λn=>decide (n∈state)
def ez9 (j:Int)(state:List Int):Bool:=!a.job j ||
 if (a.jb j).kind=1 then some state (a.meant j) else if (a.jb j).kind=2 then !some state (a.meant j) else
 if (a.jb j).kind=3 then !(a.meant j).any λi=>!some state (a.an3 i) else
 !(a.meant j).any λi=>decide (0<(a.du9 i).length)&&!some state (a.du9 i)
def cs:List IV:=[a.p.v,(ad7 a.l).v,.int .u8 a.r.al9,.bool a.r.vendor,ax2 a.r.ae8,aw1 a.r.ah9,.int .i64 a.r.budget,.aa2 (a.l.map aa1.cs)]
def v:IV:=.ab5 a.cs
end ac2
def av2 (e:be8)(ae8 inst:Int):Bool:=decide (1<=e.kind)&&decide (e.kind<=4)&&decide (0<=e.n)&&decide (e.n<if e.kind=1 then ae8 else inst)
def ax3 (j:Job):Bool:=decide (1<=j.kind)&&decide (j.kind<=4)&&ak2 j.dep
def ak3 (r:Req)(inst:Int):Int :=
 if ca3 r.al9=false\/r.budget<0\/1099511627776<r.budget then 1 else
 if 64<r.ae8.length\/64<r.ah9.length then 40 else
 if r.ae8.all ax3=false then 4 else
 if r.ah9.all (λe=>av2 e r.ae8.length inst)=false then 5 else 0
def jv1 (p:Pool)(r:Req):IV:=if ak3 r p.inst=0 then .tuple [(ac2.mk p r).v,.int .i64 0] else .tuple [.ag2,.int .i64 (ak3 r p.inst)]
def cy6 (a b:Int):aq7 b a=- aq7 a b:=by
 unfold aq7;split<;>split<;>(try split)<;>(try split)<;>omega
def de3 {a b:Int}:aq7 a b=0↔a=b:=by
 unfold aq7;split
 .constructor
  .intro h;omega
  .intro h;omega
 .split
  .simp_all
  .constructor
   .intro h;omega
   .intro h;contradiction
def cy7:∀(x y:List UInt8),Op.bytesLess x y=decide (x<y)
 | [],[]=>by simp[Op.bytesLess]
 | _::_,[]=>by simp[Op.bytesLess]
 | [],_::_=>by simp[Op.bytesLess]
 | a::x,b::y=>by
  simp only[Op.bytesLess,cy7 x y,List.cons_lt_cons_iff];by_cases h:a<b
  .simp[h]
  .by_cases c:a=b
   .subst c;simp
   .simp[h,c]
def kb9 (a b:Str):Op.bytesLess a b=true/\Op.bytesLess b a=false/\a≠b\/a=b/\Op.bytesLess a b=false\/Op.bytesLess b a=true/\Op.bytesLess a b=false/\a≠b:=by
 simp only[cy7,decide_eq_true_eq,decide_eq_false_iff_not];rcases qv (a<b) with h|h
 .exact .inl ⟨h,λh2=>List.lt_asymm h h2,λe=>List.lt_irrefl a (by rw[<- e] at h;exact h)⟩
 .rcases qv (b<a) with h2|h2
  .exact .inr (.inr ⟨h2,h,λe=>List.lt_irrefl a (by rw[<- e] at h2;exact h2)⟩)
  .exact .inr (.inl ⟨List.le_antisymm (qn.1 h2) (qn.1 h),h⟩)
def fk5 (a b:Str):dd6 b a=- dd6 a b:=by
 unfold dd6;rcases kb9 a b with ⟨f,d,c⟩|⟨rfl,h⟩|⟨f,d,c⟩
 .rw[f,d,if_neg sm,if_neg (λe=>c e.symm),if_pos rfl];rfl
 .rw[h];simp
 .rw[f,d,if_pos rfl,if_neg sm,if_neg c]
def fa8 (a b:Part):ag8 b a=- ag8 a b:=by
 unfold ag8;simp only[cy6 (a.kind:Int) b.kind,cy6 (a.s.length:Int) b.s.length,fk5 a.s b.s];have e:(b.kind=5/\a.kind=5)↔(a.kind=5/\b.kind=5):=And.comm;by_cases f:aq7 (a.kind:Int) b.kind=0
 .simp only[f,Int.neg_zero,ne_eq,not_true_eq_false,if_false,e];by_cases c:a.kind=5/\b.kind=5
  .simp only[c,and_self,if_true];by_cases d:aq7 (a.s.length:Int) b.s.length=0
   .simp[d]
   .have g:¬ - aq7 (a.s.length:Int) b.s.length=0:=om;simp[d,g]
  .simp[c]
 .have c:¬ - aq7 (a.kind:Int) b.kind=0:=om;simp[f,c]
def en4:∀(a b:List Part),ah1 b a=- ah1 a b:=by
 intro a
 induction a with
 | nil=>intro b;cases b<;>rfl
 | cons x a ih=>
  intro b
  cases b with
  | nil=>rfl
  | cons y b=>
   simp only[ah1,fa8 x y];by_cases h:ag8 x y=0
   .simp[h,ih b]
   .have c:¬ - ag8 x y=0:=om;simp[h,c]
def cr4 (a b:Str):as6 b a=- as6 a b:=en4 _ _
def gf9 (a b:EVR):ao6 b a=- ao6 a b:=by
 unfold ao6;rw[cy6 a.ar6 b.ar6,cr4 a.ver b.ver,cr4 a.rel b.rel];by_cases d:aq7 a.ar6 b.ar6=0
 .by_cases e:as6 a.ver b.ver=0
  .simp only[d,e,Int.neg_zero,ne_eq,not_true_eq_false,if_false];by_cases c:a.rel=[]\/b.rel=[]
   .rw[if_pos c,if_pos c.symm];rfl
   .rw[if_neg c,if_neg (λh=>c h.symm)]
  .have c:¬ - as6 a.ver b.ver=0:=om;simp[d,e,c]
 .have c:¬ - aq7 a.ar6 b.ar6=0:=om;simp[d,c]
namespace ac2
variable (a:ac2)
def bq8 (n:Nat):a.is n=decide (n<a.l.length):=by
 unfold is;have:(0:Int)<=n:=om;simp only[this,decide_true,Bool.true_and];exact decide_eq_decide.2 om
def bf1 (i:Int):(a.an3 i).length<=a.l.length:=by
 unfold an3;split
 .exact ai3 _ _
 .exact Nat.zero_le _
def fk6 {i n:Int}(h:n∈a.an3 i):a.inst i=true/\∃m:Nat,n=m/\m<a.l.length:=by
 unfold an3 at h;split at h
 .rename_i hi;have⟨m,e,b,_⟩:=al4.1 h;exact ⟨hi,m,e,b⟩
 .cases h
def fa9 {i:Int}(h:a.inst i=true):0<=i/\i<a.l.length:=by
 unfold inst is at h;simp only[za,decide_eq_true_eq] at h;exact h.1
def du5 (i:Int):i∈a.an3 i↔a.inst i=true:=by
 constructor
 .exact λh=>(a.fk6 h).1
 .intro h;have⟨c,b⟩:=a.fa9 h;unfold an3;rw[if_pos h]
  exact al4.2 ⟨i.toNat,om,om,by
   have:((i.toNat:Nat):Int)=i:=om;simp[this]⟩
def fk7 {i n:Int}(h:n∈a.du9 i):n∈a.an3 i/\a.inst n=false/\a.fits n=true:=by
 have⟨e,d⟩:=zr.1 h;cases c:a.inst n<;>cases b:a.fits n<;>simp_all
def fk8 (i:Int):(a.du9 i).length<=a.l.length:=qm (z3 _ _) (a.bf1 i)
end ac2
namespace ac2
variable (a:ac2)
def fm5 {j n:Int}(h:n∈a.meant j):∃m:Nat,n=m/\m<a.l.length:=by
 have b:∀ {q:aa1->Bool} {n:Int},n∈numsOf q a.l->∃m:Nat,n=m/\m<a.l.length:=λh=>let ⟨m,e,h1,_⟩:=av9.1 h;⟨m,e,h1⟩
 unfold meant at h;split at h
 .split at h
  .exact b h
  .split at h
   .exact b h
   .exact b (zr.1 h).1
 .cases h
variable (x:be8)
variable {x} (hx:x.kind≠1)
include hx
end ac2
structure WO {α:Type} (S:α->Prop) (f:α->α->Int):Prop where
 neg:∀a b,f b a=- f a b
 tr:∀a b c,S a->S b->S c->f a b<=0->f b c<=0->f a c<=0
def lex (x y:Int):Int:=if x=0 then y else x
theorem jk8 (x y:Int):lex (-x) (-y)=- lex x y:=by unfold lex;split<;>split<;>omega
theorem WO.lex {i:Type}{S:i->Prop}{f g:i->i->Int}(hf:WO S f)(j:WO S g):WO S λa b=>Md.lex (f a b) (g a b) where
 neg:=λa b=>by show Md.lex (f b a) (g b a)=_;rw[hf.neg,j.neg,jk8]
 tr:=λa b c h e d m k=>by
  have t:=hf.tr a b c h e d;have s:=hf.tr c a b d h e;have r:=hf.tr b c a e d h;have q:=j.tr a b c h e d;have p:=hf.neg a b;have o:=hf.neg b c;have n:=hf.neg a c;unfold Md.lex at *;split at m<;>split at k<;>split<;>omega
theorem WO.of {e d:Type}{S:d->Prop}{f:d->d->Int}(hf:WO S f)(g:e->d):WO (λa=>S (g a)) λa b=>f (g a) (g b) where
 neg:=λa b=>hf.neg _ _
 tr:=λa b c j i h=>hf.tr _ _ _ j i h
theorem WO.flip {d:Type}{S:d->Prop}{f:d->d->Int}(hf:WO S f):WO S λa b=>f b a where
 neg:=λa b=>hf.neg b a
 tr:=λa b c h g e j i=>hf.tr c b a e g h i j
theorem WO.sub {d:Type}{S T:d->Prop}{f:d->d->Int}(hf:WO S f)(h:∀a,T a->S a):WO T f:=⟨hf.neg,λa b c i g e=>hf.tr a b c (h a i) (h b g) (h c e)⟩
theorem de4:WO (λ_=>True) aq7 where
 neg:=λa b=>cy6 a b
 tr:=λa b c _ _ _ e d=>by
  unfold aq7 at *;split at e<;>split at d<;>split<;>(try split at e)<;>(try split at d)<;>(try split)<;>omega
theorem fb1 {a b:Str}:dd6 a b<=0↔a<=b:=by
 unfold dd6;rcases kb9 a b with ⟨c,e,d⟩|⟨rfl,h⟩|⟨c,e,d⟩
 .rw[c,if_pos rfl];rw[cy7,decide_eq_true_eq] at c;exact ⟨λ_=>List.le_of_lt c,λ_=>by decide⟩
 .rw[h];simp[List.le_refl]
 .rw[e,if_neg sm,if_neg d];rw[cy7,decide_eq_true_eq] at c;exact ⟨λh=>absurd h (by decide),λh=>absurd c (qn.2 h)⟩
theorem kc1:WO (λ_=>True) dd6 where
 neg:=λa b=>fk5 a b
 tr:=λa b c _ _ _ e d=>fb1.2 (List.le_trans (fb1.1 e) (fb1.1 d))
def cy8 (a b:Part):Int:=lex (aq7 a.kind b.kind) (lex (aq7 (if a.kind=5 then (a.s.length:Int) else 0) (if b.kind=5 then (b.s.length:Int) else 0)) (dd6 a.s b.s))
theorem dv1 (a b:Part):ag8 a b=cy8 a b:=by
 unfold ag8 cy8 lex;by_cases h:aq7 (a.kind:Int) b.kind=0
 .have e:=de3.1 h;have d:a.kind=b.kind:=om;simp only[h,ne_eq,not_true_eq_false,if_false,if_true,d];by_cases c:b.kind=5
  .simp only[c,and_self,if_true];split<;>simp_all
  .have z:aq7 0 0=0:=by decide
   simp[c,z]
 .simp[h]
theorem cr5:WO (λ_=>True) ag8:=by
 have h:ag8=cy8:=by funext a b;exact dv1 a b
 rw[h];exact (de4.of (λa:Part=>(a.kind:Int))).lex ((de4.of (λa:Part=>if a.kind=5 then (a.s.length:Int) else 0)).lex (kc1.of Part.s))
theorem de5 {a b:Part}(h:ag8 a b=0):a.kind=b.kind:=by
 rw[dv1] at h;unfold cy8 lex at h;split at h
 .rename_i e;have:=de3.1 e;omega
 .contradiction
abbrev gx1:Part:=⟨2,[]⟩
theorem az6 (x y:Part)(a b:List Part):ah1 (x::a) (y::b)=lex (ag8 x y) (ah1 a b):=by
 show (if ag8 x y≠0 then ag8 x y else ah1 a b)=_;unfold lex;split<;>simp_all
theorem bk5 (a:List Part):ah1 [] a=0:=by cases a<;>rfl
theorem bw5 (a:List Part):ah1 a []=0:=by cases a<;>rfl
theorem il6:∀(a b c:List Part),(∀x∈a,x.kind≠2)->(∀x∈b,x.kind≠2)->(∀x∈c,x.kind≠2) ->
  ah1 (a++[gx1]) (b++[gx1])<=0->ah1 (b++[gx1]) (c++[gx1])<=0->ah1 (a++[gx1]) (c++[gx1])<=0:=by
 have g:∀(x y z:Part) (r s t:Int),lex (ag8 x y) r<=0->lex (ag8 y z) s<=0->(ag8 x y=0->ag8 y z=0->r<=0->s<=0->t<=0)->lex (ag8 x z) t<=0:=λx y z r s t d f j=>by
  have u:=cr5.tr x y z trivial trivial trivial;have q:=cr5.tr z x y trivial trivial trivial;have o:=cr5.tr y z x trivial trivial trivial;have n:=cr5.neg x y;have m:=cr5.neg y z;have k:=cr5.neg x z;unfold lex at *;split at d<;>split at f<;>split<;>first|omega|exact j (by assumption) (by assumption) d f
 intro a
 induction a with
 | nil=>
  intro b c _ h hc d f
  cases b with
  | nil=>exact f
  | cons y b=>
   cases c with
   | nil=>simp only[zo,az6,bk5];decide
   | cons z c=>
    simp only[zo,zq,az6,bk5] at *;refine g _ y z _ _ _ d f λe _ _ _=>?_
    exact absurd (de5 e).symm (h y zf)
 | cons x a ih=>
  intro b c i h hc d f
  cases b with
  | nil=>
   simp only[zo,zq,az6,bk5,bw5] at d
   cases c with
   | nil=>simp only[zo,zq,az6,bk5,bw5];exact d
   | cons z c=>
    simp only[zo,zq,az6,bk5,bw5] at *;refine g x gx1 z _ _ _ d f λe _ _ _=>?_
    exact absurd (de5 e) (i x zf)
  | cons y b=>
   cases c with
   | nil=>
    simp only[zo,zq,az6,bk5,bw5] at *;refine g x y gx1 _ _ _ d f λ_ e _ _=>?_
    exact absurd (de5 e) (h y zf)
   | cons z c=>
    simp only[zq,az6] at *;refine g x y z _ _ _ d f λ_ _ r s=>?_
    exact ih b c (λp hp=>i p (ze _ hp)) (λp hp=>h p (ze _ hp)) (λp hp=>hc p (ze _ hp)) r s
theorem fk9 (b:UInt8):af6 b≠2:=by
 unfold af6
 repeat (first|split|omega)
theorem de6 (s:Str):∀x∈af9 s,x.kind≠2:=by
 unfold af9
 have : ∀n s,∀x∈av6 n s,x.kind≠2:=by
  intro n
  induction n with
  | zero=>intro s x hx;cases hx
  | succ n ih=>
   intro s x hx
   cases s with
   | nil=>cases hx
   | cons b l=>
    simp only[av6] at hx;split at hx
    .exact ih _ x hx
    .split at hx
     .rcases zb.1 hx with rfl|hx
      .exact fk9 b
      .exact ih _ x hx
     .rcases zb.1 hx with rfl|hx
      .exact fk9 b
      .exact ih _ x hx
 exact this _ s
theorem ja4:WO (λ_=>True) as6 where
 neg:=λa b=>cr4 a b
 tr:=λa b c _ _ _ e d=>il6 _ _ _ (de6 a) (de6 b) (de6 c) e d
theorem ja5:WO (λe:EVR=>e.rel≠[]) ao6 where
 neg:=λa b=>gf9 a b
 tr:=by
  have h:=(de4.of EVR.ar6).lex ((ja4.of EVR.ver).lex (ja4.of EVR.rel))
  have e:∀a b:EVR,a.rel≠[]->b.rel≠[]->ao6 a b=lex (aq7 a.ar6 b.ar6) (lex (as6 a.ver b.ver) (as6 a.rel b.rel)):=λa b f d=>by
   unfold ao6 lex;have g:¬(a.rel=[]\/b.rel=[]):=by simp[f,d]
   rw[if_neg g];by_cases j:aq7 a.ar6 b.ar6=0<;>by_cases i:as6 a.ver b.ver=0<;>simp[j,i]
  intro a b c f d hc;rw[e a b f d,e b c d hc,e a c f hc];exact h.tr a b c trivial trivial trivial
def en5 (k:Int):Nat:=if k=4 then 3 else if k=5 then 3 else if k=7 then 2 else 24
def ap9 (k:Int)(d:Dep)(n:Nat):Bool:=decide (1<k)&&decide (k<=7)&&decide (d=cq9)&&decide (2<=n)&&decide (n<=en5 k)
mutual
def aa6.ms:aa6->Nat×Nat×Bool
 | .mk k d aZ=>if k=1 then (1,0,decide (aZ.length=0)&&ak2 d) else ((aa6.msL aZ 1 0 (ap9 k d aZ.length)).1,(aa6.msL aZ 1 0 (ap9 k d aZ.length)).2.1+1,(aa6.msL aZ 1 0 (ap9 k d aZ.length)).2.2)
def aa6.msL:List aa6->Nat->Nat->Bool->Nat×Nat×Bool
 | [],p,d,ok=>(p,d,ok)
 | r::rs,p,d,ok=>if ok=true then aa6.msL rs (p+r.ms.1) (max d r.ms.2.1) r.ms.2.2 else (p,d,false)
end
def bk6 (r:aa6):Bool:=r.ms.2.2&&decide (r.ms.1<=24)&&decide (r.ms.2.1<=8)
inductive aa6.Good:aa6->Prop
 | atom (d:Dep) (h:ak2 d=true):aa6.Good (.mk 1 d [])
 | node (k:Int) (d:Dep) (aZ:List aa6) (h1:1<k) (h2:k<=7) (h3:2<=aZ.length) (h4:aZ.length<=en5 k) (h5:∀a∈aZ,aa6.Good a):aa6.Good (.mk k d aZ)
theorem aa6.gx2:∀(b:List aa6) (p d:Nat) (ok:Bool),(aa6.msL b p d ok).2.2=true->ok=true/\∀a∈b,a.ms.2.2=true:=by
 intro b
 induction b with
 | nil=>intro p d ok h;exact ⟨h,λ_ h=>by cases h⟩
 | cons r rs ih=>
  intro p d ok h;simp only[aa6.msL] at h;split at h
  .rename_i e;have⟨g,f⟩:=ih _ _ _ h;refine ⟨e,λa c=>?_⟩;rcases zb.1 c with rfl|c
   .exact g
   .exact f a c
  .cases h
theorem aa6.jk9 (r:aa6):r.ms.2.2=true->r.Good:=by
 induction r using aa6.ind with
 | h k d aZ ih=>
  intro h;unfold aa6.ms at h;split at h
  .rename_i g;subst g;simp only[za,decide_eq_true_eq] at h;have⟨b,c⟩:=h;have e:aZ=[]:=qk.1 b;subst e;exact .atom d c
  .have⟨b,c⟩:=aa6.gx2 _ _ _ _ h;unfold ap9 at b;simp only[za,decide_eq_true_eq] at b;exact .node k d aZ b.1.1.1.1 b.1.1.1.2 b.1.2 b.2 λa f=>ih a f (c a f)
theorem aa6.kc2 (b:List aa6)(h:∀a∈b,a.ms.1<=a.count/\a.ms.2.1<=a.count):∀(p d:Nat) (ok:Bool),(aa6.msL b p d ok).1<=p+aa6.counts b/\(aa6.msL b p d ok).2.1<=d+aa6.counts b:=by
 induction b with
 | nil=>intro p d ok;simp[aa6.msL,aa6.counts]
 | cons r rs ih=>
  intro p d ok;have⟨j,i⟩:=h r zf;have c:=ih (λa e=>h a (ze _ e));simp only[aa6.msL,aa6.counts];split
  .have⟨g,f⟩:=c (p+r.ms.1) (max d r.ms.2.1) r.ms.2.2;omega
  .simp only;omega
theorem aa6.kc3 (r:aa6):r.ms.1<=r.count/\r.ms.2.1<=r.count:=by
 induction r using aa6.ind with
 | h k d aZ ih=>
  unfold aa6.ms;simp only[aa6.count];split
  .simp only;omega
  .have⟨c,b⟩:=aa6.kc2 aZ ih 1 0 (ap9 k d aZ.length);simp only;omega
abbrev ff:List Bool->Bool:=λ_=>false
def en6 (c n:Nat):List Bool:=(zp c).map λm=>decide (m=n)
def stB (c:Nat)(zs:List Int):List Bool:=(zp c).map λ(m:Nat)=>decide ((m:Int)∈zs)
def il7 (st:List Bool)(f:Nat->Bool):Bool:=(zp st.length).any λn=>st.getD n false&&f n
def trK (l:List aa1)(k:Int)(d:Dep)(fs:List (List Bool->Bool))(st:List Bool):Bool :=
 if k=1 then (ag3 l d).any λn=>st.getD n.toNat false
 else if k=2 then fs.all λf=>f st
 else if k=3 then fs.any λf=>f st
 else if k=4 then (if (fs.getD 1 ff) st then (fs.getD 0 ff) st else decide (fs.length<3)||(fs.getD 2 ff) st)
 else if k=5 then (if (fs.getD 1 ff) st then decide (fs.length=3)&&(fs.getD 2 ff) st else (fs.getD 0 ff) st)
 else if k=6 then il7 st λn=>fs.all λf=>f (en6 st.length n)
 else il7 st λn=>(fs.getD 0 ff) (en6 st.length n)&&!(fs.getD 1 ff) (en6 st.length n)
mutual
def aa6.tr (l:List aa1):aa6->List Bool->Bool
 | .mk k d aZ,st=>trK l k d (aa6.trs l aZ) st
def aa6.trs (l:List aa1):List aa6->List (List Bool->Bool)
 | []=>[]
 | r::rs=>(λst=>r.tr l st)::aa6.trs l rs
end
theorem aa6.ec7 (l:List aa1)(b:List aa6):aa6.trs l b=b.map λr st=>r.tr l st:=by
 induction b with
 | nil=>rfl
 | cons r rs ih=>simp only[aa6.trs,zc,ih]
def fb2 (l:List aa1)(zs:List Int)(r:aa6):Bool:=bk6 r&&r.tr l (stB l.length zs)
def aa6.atoms (r:aa6):List Dep:=(r.parts false).filterMap λp=>if p.1.kind=1 then some p.1.dep else none
structure ah4 where
 a:ac2
 eo1:List Bool
def bx6 (b:Bool):List IV:=[.bool b]
namespace ah4
variable (o:ah4)
def cs:List IV:=[o.a.v,o.a.p.v,.int .u8 o.a.r.al9,.aa2 (o.a.l.map aa1.cs),.aa2 (o.eo1.map bx6)]
def v:IV:=.ab5 o.cs
def lk (n:Int):Bool:=o.eo1.getD n.toNat false
def bl8 (b:Bool):Int:=if b then 0 else 1
def prio (n:Int):Int:=(o.a.p.rows.getD n.toNat ⟨default,0,0⟩).prio
def cmp (n m:Int):Int :=
 lex (aq7 (bl8 (o.a.fits n)) (bl8 (o.a.fits m))) (lex (aq7 (be9 o.a.r.al9 (o.a.pk n).al9) (be9 o.a.r.al9 (o.a.pk m).al9)) (lex (aq7 (o.prio m) (o.prio n))
  (lex (aq7 (bl8 (o.lk n)) (bl8 (o.lk m))) (lex (ao6 (o.a.pk m).evr (o.a.pk n).evr) (aq7 n m)))))
theorem wo:WO (λn=>(o.a.pk n).evr.rel≠[]) o.cmp:=by
 have hi {g:Int->Int}:WO (λn=>(o.a.pk n).evr.rel≠[]) λa b=>aq7 (g a) (g b):=(de4.of g).sub λ_ _=>trivial
 exact hi.lex (hi.lex ((hi (g:=o.prio)).flip.lex (hi.lex ((ja5.of λn=>(o.a.pk n).evr).flip.lex (hi (g:=λn=>n))))))
theorem ec8 {n m:Int}(h:o.cmp n m=0):n=m:=by
 unfold cmp lex at h
 repeat (first|exact de3.1 h|(split at h;rotate_left;contradiction))
theorem ec9 (n:Int):o.cmp n n=0:=by have:=o.wo.neg n n;omega
def av3 (zs:List Int):List Int:=(aj5 (λn=>decide ((n:Int)∈zs)) o.a.l.length).mergeSort λx y=>!decide (o.cmp y x<0)
theorem ax4 {zs:List Int}{n:Int}:n∈o.av3 zs↔n∈zs/\o.a.is n=true:=by
 unfold av3;rw[(z4 _ _).mem_iff,al4];constructor
 .rintro ⟨m,rfl,c,b⟩;exact ⟨by simpa using b,by rw[ac2.bq8];exact decide_eq_true c⟩
 .rintro ⟨c,b⟩;unfold ac2.is at b;simp only[za,decide_eq_true_eq] at b;have e:((n.toNat:Nat):Int)=n:=om;exact ⟨n.toNat,e.symm,om,by rw[e];exact decide_eq_true c⟩
variable (hr:∀n,o.a.is n=true->(o.a.pk n).evr.rel≠[])
include hr
theorem lt_trans {a b c:Int}(e:o.a.is a=true)(d:o.a.is b=true)(hc:o.a.is c=true)(m:o.cmp a b<0)(k:o.cmp b c<0):o.cmp a c<0:=by
 have j:=o.wo.tr a b c (hr a e) (hr b d) (hr c hc);have i:=o.wo.tr c a b (hr c hc) (hr a e) (hr b d);have h:=o.wo.neg a b;have g:=o.wo.neg b c;have f:=o.wo.neg a c;omega
theorem il8 (zs:List Int):(o.av3 zs).Pairwise λx y=>o.cmp x y<0:=by
 have q:∀x∈aj5 (λn=>decide ((n:Int)∈zs)) o.a.l.length,o.a.is x=true:=λx hx=>by
  obtain ⟨m,rfl,d,_⟩:=al4.1 hx;rw[ac2.bq8];exact decide_eq_true d
 have f:(o.av3 zs).Nodup:=by
  unfold av3;rw[(z4 _ _).nodup_iff];exact (cy4 _ _).imp λh e=>by omega
 have p:∀x∈o.av3 zs,o.a.is x=true:=λx hx=>((o.ax4).1 hx).2
 have hp:(o.av3 zs).Pairwise λx y=>(!decide (o.cmp y x<0))=true:=by
  unfold av3
  -- the order holds among the numbers that there are
  let S:={ n:Int // o.a.is n=true };let L:List S:=(aj5 (λn=>decide ((n:Int)∈zs)) o.a.l.length).attach.map λx=>⟨x.1,q x.1 x.2⟩
  have s:L.map (·.1)=aj5 (λn=>decide ((n:Int)∈zs)) o.a.l.length:=by
   show (qq _ (qq _ _))=_;rw[z7];exact qf _
  rw[<- s,<- qt (r:=λx y:S=>!decide (o.cmp y.1 x.1<0)) (λ_ _ _ _=>rfl)];refine zz.map _ (λ_ _ h=>h) ?_;refine qj ?_ ?_ L
  .intro a b c d i;have z:=o.wo.tr a.1 b.1 c.1 (hr _ a.2) (hr _ b.2) (hr _ c.2);have k:=o.wo.neg a.1 b.1;have j:=o.wo.neg b.1 c.1;have u:=o.wo.neg a.1 c.1;simp only[qw,decide_eq_false_iff_not] at d i ⊢;omega
  .intro a b;have k:=o.wo.neg a.1 b.1;by_cases h:o.cmp a.1 b.1<0
   .have:¬o.cmp b.1 a.1<0:=om;simp[h,this]
   .simp[h]
 refine hp.imp₂ (λ{x y} d i=>?_) f;have k:=o.wo.neg x y;have j:=λh=>o.ec8 (n:=x) (m:=y) h
 have g:x≠y:=i;have t:¬o.cmp y x<0:=by simpa using d
 have:o.cmp x y≠0:=λh=>g (j h)
 omega
theorem kc4:∀ {D F:List Int},(∀x∈D,o.a.is x=true)->(∀x∈F,o.a.is x=true)->D.Pairwise (λx y=>o.cmp x y<0)->F.Pairwise (λx y=>o.cmp x y<0)->(∀x,x∈D↔x∈F)->D=F:=by
 intro D
 induction D with
 | nil=>intro F _ _ _ _ h;cases F with
  | nil=>rfl
  | cons y F=>exact absurd ((h y).2 zf) sm
 | cons x D ih=>
  intro F hD hF pD pF h
  cases F with
  | nil=>exact absurd ((h x).1 zf) sm
  | cons y F=>
   have⟨pD1,pD2⟩:=qr.1 pD;have⟨pF1,pF2⟩:=qr.1 pF
   have hxy:x=y:=by
    rcases zb.1 ((h x).1 zf) with h1|h1
    .exact h1
    rcases zb.1 ((h y).2 zf) with h2|h2
    .exact h2.symm
    have:=pF1 x h1;have:=pD1 y h2;have:=o.wo.neg x y;omega
   subst hxy;congr 1
   have nD:∀z∈D,z≠x:=λz hz e=>by
    subst e;have:=pD1 z hz;rw[o.ec9] at this;omega
   have nF:∀z∈F,z≠x:=λz hz e=>by
    subst e;have:=pF1 z hz;rw[o.ec9] at this;omega
   refine ih (λz hz=>hD z (ze _ hz)) (λz hz=>hF z (ze _ hz)) pD2 pF2 λz=>⟨λhz=>?_,λhz=>?_⟩
   .rcases zb.1 ((h z).1 (ze _ hz)) with e|hz'
    .exact absurd e (nD z hz)
    .exact hz'
   .rcases zb.1 ((h z).2 (ze _ hz)) with e|hz'
    .exact absurd e (nF z hz)
    .exact hz'
theorem gx3 {zs D:List Int}(c:D.Pairwise λx y=>o.cmp x y<0)(b:∀x,x∈D↔x∈zs/\o.a.is x=true):D=o.av3 zs :=
 o.kc4 hr (λx hx=>((b x).1 hx).2) (λx hx=>((o.ax4).1 hx).2) c (o.il8 hr zs) λx=>(b x).trans o.ax4.symm
end ah4
end Go.Id.Md
namespace Go.Id.Md
open Go Go.Id
def ca5 (wh:Int)(k:Int)(d:Dep)(n:Nat)(alone:Bool):Bool :=
 if k=1 then decide (n=0)&&ak2 d else
 (if k=2\/k=3\/k=6 then decide (2<=n) else if k=7 then decide (n=2) else
  if k=4 then (decide (n=2)||decide (n=3))&&!alone&&decide (wh=1) else
  if k=5 then (decide (n=2)||decide (n=3))&&!alone&&decide (wh<=2) else false)&&decide (d=cq9)
mutual
def aa6.an4 (wh:Int):aa6->Bool->Bool
 | .mk k d aZ,alone=>ca5 wh k d aZ.length alone&&(aa6.dv2 wh aZ (alone||decide (k=6)||decide (k=7)))
def aa6.dv2 (wh:Int):List aa6->Bool->Bool
 | [],_=>true
 | r::rs,alone=>r.an4 wh alone&&aa6.dv2 wh rs alone
end
def aa6.bd4 (b:Int)(l:List aa6)(alone:Bool):aa6.dv2 b l alone=l.all λr=>r.an4 b alone:=by
 induction l with
 | nil=>rfl
 | cons r l ih=>simp only[aa6.dv2,qh,ih]
def jl1 {b:Int}(p:1<=b)(m:b<=3)(k:Int)(d:Dep)(f:List aa6)(alone:Bool)(j:f.length<=24):ca5 b k d f.length alone=ah5 b (.mk k d f) alone:=by
 unfold ca5 ah5 asks;simp only[aa6.kind,aa6.args,aa6.dep];rw[z2];by_cases e1:k=1
 .subst e1;simp only[if_true];have:¬(3:Int)<b:=om;cases ak2 d<;>cases alone<;>simp[this]<;>omega
 by_cases e2:k=2
 .subst e2;have:¬(3:Int)<b:=om;by_cases c:d=cq9<;>cases alone<;>simp[this,c]<;>omega
 by_cases e3:k=3
 .subst e3;have:¬(3:Int)<b:=om;by_cases c:d=cq9<;>cases alone<;>simp[this,c]<;>omega
 by_cases e4:k=4
 .subst e4;by_cases c:d=cq9<;>cases alone<;>by_cases e:(1:Int)<b<;>simp[c,e]<;>omega
 by_cases i:k=5
 .subst i;by_cases c:d=cq9<;>cases alone<;>by_cases e:(2:Int)<b<;>simp[c,e]<;>omega
 by_cases h:k=6
 .subst h;have:¬(3:Int)<b:=om;by_cases c:d=cq9<;>cases alone<;>simp[this,c]<;>omega
 by_cases g:k=7
 .subst g;have:¬(3:Int)<b:=om;by_cases c:d=cq9<;>cases alone<;>simp[this,c]<;>omega
 have:(0:Int)<b:=om;simp[e1,e2,e3,e4,i,h,g,this]
def aa6.bk7 {l:List aa6}{r:aa6}(h:r∈l):r.count<=aa6.counts l:=by
 induction l with
 | nil=>cases h
 | cons x l ih=>
  simp only[aa6.counts];rcases zb.1 h with rfl|h
  .omega
  .have:=ih h;omega
def aa6.gx4 (r:aa6):1<=r.count:=by cases r;simp only[aa6.count];omega
def aa6.cr6 (l:List aa6):l.length<=aa6.counts l:=by
 induction l with
 | nil=>exact qc _
 | cons x l ih=>simp only[aa6.counts,qb];have:=x.gx4;omega
def aa6.gg3 {b:Int}(i:1<=b)(g:b<=3)(r:aa6):r.count<=24->∀alone,r.an4 b alone=(r.parts alone).all λp=>ah5 b p.1 p.2:=by
 refine aa6.ind (p:=λr=>r.count<=24->∀alone,r.an4 b alone=(r.parts alone).all λp=>ah5 b p.1 p.2) (λk d c e hc alone=>?_) r;simp only[aa6.count] at hc;simp only[aa6.an4,aa6.parts,qh];have:=aa6.cr6 c;rw[jl1 i g k d c alone om];congr 1;generalize (alone||decide (k=6)||decide (k=7))=al
 have:∀l:List aa6,(∀x∈l,x∈c)->aa6.dv2 b l al=(aa6.bj9 l al).all λp=>ah5 b p.1 p.2:=by
  intro l
  induction l with
  | nil=>intro _;rfl
  | cons x l ih2=>
   intro h;have hx:=h x zf;simp only[aa6.dv2,aa6.bj9,List.all_append];rw[e x hx (by have:=aa6.bk7 hx;omega),ih2 λy f=>h y (ze _ f)]
 exact this c λ_ h=>h
def bm9 (r:aa6)(b:Int):af3 r b=if b<1\/3<b then 1 else if r.count>24 then 40 else if r.depth>8 then 21 else if r.an4 b false=false then 4 else 0:=by
 unfold af3;by_cases e:b<1\/3<b
 .rw[if_pos e,if_pos e]
 rw[if_neg e,if_neg e];by_cases d:r.count>24
 .rw[if_pos d,if_pos d]
 rw[if_neg d,if_neg d];by_cases c:r.depth>8
 .rw[if_pos c,if_pos c]
 rw[if_neg c,if_neg c,aa6.gg3 om om r om];cases h:(r.parts false).all λp=>ah5 b p.1 p.2<;>simp
end Go.Id.Md
namespace Go.Id.Md
open Go Go.Id
def headD (k:Int)(n:Nat):Bool :=
 if k=2\/k=3\/k=6 then decide (2<=n) else if k=4\/k=5 then decide (n=2\/n=3) else if k=7 then decide (n=2) else false
mutual
def aa6.part:aa6->Bool
 | .mk k d aZ=>if k=1 then ak2 d&&decide (aZ.length=0) else headD k aZ.length&&(aa6.gx5 aZ&&decide (d=cq9))
def aa6.gx5:List aa6->Bool
 | []=>true
 | r::rs=>r.part&&aa6.gx5 rs
end
def aa6.en7 (b:List aa6):aa6.gx5 b=b.all aa6.part:=by
 induction b with
 | nil=>rfl
 | cons r rs ih=>simp only[aa6.gx5,qh,ih]
def aa6.gx6 (b:List aa6):∀p d:Nat,(∀a∈b,a.ms=(a.count,a.depth,true))->aa6.msL b p d true=(p+aa6.counts b,max d (aa6.bg7 b),true):=by
 induction b with
 | nil=>intro p d _;simp[aa6.msL,aa6.counts,aa6.bg7]
 | cons r rs ih=>
  intro p d h;have hr:=h r zf;simp only[aa6.msL,if_pos,hr,aa6.counts];rw[ih _ _ λa c=>h a (ze _ c)];simp only[aa6.bg7,Nat.add_assoc,Nat.max_assoc]
def aa6.fb3 (r:aa6):r.ms.2.2=true->r.ms=(r.count,r.depth,true):=by
 induction r using aa6.ind with
 | h k d aZ ih=>
  intro h;unfold aa6.ms at h ⊢;by_cases b:k=1
  .rw[if_pos b] at h ⊢;simp only[za,decide_eq_true_eq] at h;have e:aZ=[]:=qk.1 h.1;subst e;simp[aa6.count,aa6.counts,aa6.depth,b,h.2]
  .rw[if_neg b] at h ⊢;have⟨g,f⟩:=aa6.gx2 _ _ _ _ h;have e:=aa6.gx6 aZ 1 0 λa c=>ih a c (f a c)
   rw[g] at h ⊢;rw[e];simp only[aa6.count,aa6.depth,b,if_false];rw[Nat.zero_max,Nat.add_comm]
def il9 {k:Int}{n:Nat}(e:n<=24)(d:Dep)(f:k≠1):ap9 k d n=(headD k n&&decide (d=cq9)):=by
 by_cases c:k=2\/k=3\/k=4\/k=5\/k=6\/k=7
 .by_cases b:d=cq9
  .rw[z2];unfold ap9 headD en5;rcases c with rfl|rfl|rfl|rfl|rfl|rfl<;>simp only[b,za,decide_eq_true_eq,Int.reduceEq,false_or,or_false,or_self,true_or,or_true,if_true,if_false,reduceCtorEq,decide_true,and_true,true_and,Int.reduceLT,Int.reduceLE]<;>omega
  .simp[ap9,b]
 .have e1:¬(k=2\/k=3\/k=6):=om;have e2:¬(k=4\/k=5):=om;have e3:¬k=7:=om;unfold headD;rw[if_neg e1,if_neg e2,if_neg e3,Bool.false_and];unfold ap9;by_cases h:1<k
  .simp[show ¬k<=7 by omega]
  .simp[h]
def aa6.kc5 (b:List aa6):b.length<=aa6.counts b:=by
 induction b with
 | nil=>simp[aa6.counts]
 | cons r rs ih=>cases r;simp only[aa6.counts,aa6.count,qb];omega
def aa6.gx7 (r:aa6):r.count<=24->r.part=r.ms.2.2:=by
 induction r using aa6.ind with
 | h k d aZ ih=>
  intro hc;simp only[aa6.count] at hc;have p:=aa6.kc5 aZ;unfold aa6.part aa6.ms;by_cases f:k=1
  .rw[if_pos f,if_pos f,qi]
  .rw[if_neg f,if_neg f,aa6.en7,z2];have j:=il9 (k:=k) (n:=aZ.length) om d f;have c:∀a∈aZ,a.part=a.ms.2.2:=λa b=>ih a b (by have:=aa6.bk7 b;omega)
   simp only[za,zg];constructor
   .rintro ⟨g,i,m⟩;have e:=aa6.gx6 aZ 1 0 λa b=>aa6.fb3 a (by rw[<- c a b];exact i a b)
    rw[j,g,m,Bool.and_self,e]
   .intro h;have⟨g,i⟩:=aa6.gx2 _ _ _ _ h;rw[j,za] at g;exact ⟨g.1,λa b=>by rw[c a b];exact i a b,g.2⟩
def gx8 (r:aa6):bk6 r=(r.part&&decide (r.count<=24)&&decide (r.depth<=8)):=by
 unfold bk6;rw[z2];simp only[za,decide_eq_true_eq];constructor
 .rintro ⟨⟨c,b⟩,d⟩;have e:=aa6.fb3 r c;rw[e] at b d;exact ⟨⟨by rw[aa6.gx7 r b];exact c,b⟩,d⟩
 .rintro ⟨⟨c,b⟩,d⟩;rw[aa6.gx7 r b] at c;have e:=aa6.fb3 r c;rw[e];exact ⟨⟨rfl,b⟩,d⟩
def gx9 (c:Nat)(zs:List Int):(stB c zs).length=c:=by unfold stB;rw[zu,qu]
end Go.Id.Md
namespace Go.Id.Md
open Go Go.Id
def aa6.gy1 (i:Int)(r:aa6):∀alone:Bool,r.an4 i alone=true->r.part=true:=by
 induction r using aa6.ind with
 | h k d aZ ih=>
  intro alone h;simp only[aa6.an4,za,aa6.bd4,zg] at h;have⟨c,j⟩:=h;unfold ca5 at c;unfold aa6.part;by_cases g:k=1
  .rw[if_pos g] at c ⊢;rw[qi];exact c
  .rw [if_neg g] at c ⊢;rw[za] at c
   have hp:aa6.gx5 aZ=true:=by
    rw[aa6.en7,zg];exact λx hx=>ih x hx _ (j x hx)
   rw[hp,c.2,Bool.and_true,Bool.and_true];have b:=c.1;unfold headD;by_cases e1:k=2\/k=3\/k=6
   .rw[if_pos e1] at b ⊢;exact b
   .rw [if_neg e1] at b ⊢;by_cases e:k=7
    .rw[if_pos e] at b;rw[if_neg om,if_pos e];exact b
    .rw[if_neg e] at b;by_cases e4:k=4
     .rw[if_pos e4] at b;rw[if_pos (.inl e4)];simp only[za,z1,decide_eq_true_eq] at b ⊢;exact b.1.1
     .rw[if_neg e4] at b;by_cases f:k=5
      .rw[if_pos f] at b;rw[if_pos (.inr f)];simp only[za,z1,decide_eq_true_eq] at b ⊢;exact b.1.1
      .rw[if_neg f] at b;cases b
def gy2 {r:aa6}{b:Int}(h:af3 r b=0):bk6 r=true:=by
 rw[bm9] at h;split at h
 .cases h
 .split at h
  .cases h
  .split at h
   .cases h
   .split at h
    .cases h
    .rename_i f e d c;rw[gx8,aa6.gy1 b r false (by simpa using c)];simp only[Bool.true_and,za,decide_eq_true_eq];omega
structure Itm where
 kind:Int
 p:Int
 q:Int
 deriving DecidableEq,Inhabited
def Itm.cs (x:Itm):List IV:=[.int .u8 x.kind,.int .i64 x.p,.int .i64 x.q]
def Itm.kc6 {x y:Itm}(h:x.cs=y.cs):x=y:=by
 cases x;cases y;simpa [Itm.cs] using h
abbrev bb7 (l:List Itm):IV:=.aa2 (l.map Itm.cs)
def kc7 (a b:Itm):allEq [1,1,1] a.cs b.cs=some (decide (a=b)):=by
 cases a;cases b;simp[Itm.cs,allEq,al1,Itm.mk.injEq,Bool.decide_and]
def bk8 (l:List Itm):List (IV×IV):=l.map λx=>(.agg x.cs,.agg [])
def fl1 (x y:Itm):ao9 6 (.agg x.cs) (.agg y.cs)=some (decide (x=y)):=kc7 x y
def im1 (x:Itm):kOK 6 (.agg x.cs)=true:=by
 show (ao9 6 (.agg x.cs) (.agg x.cs)).isSome=true;rw[fl1];rfl
def im2 {x:Itm}:∀ {l:List Itm},x ∉ l->eh5 6 (.agg x.cs) (.agg []) (bk8 l)=some (bk8 (l++[x])):=by
 intro l
 induction l with
 | nil=>intro _;simp only[bk8,List.map_nil,eh5,im1];rfl
 | cons y l ih=>
  intro h;rw[zb,not_or] at h;have:=ih h.2;unfold bk8 at *;simp only[zc,zq,eh5,fl1,h.1,decide_false,this,Option.map_some]
def gy3 {l:List Itm}(h:l.Nodup):da5 (bk8 l):=by
 refine ⟨?_,.agg [.u8,.i64,.i64],λe c=>?_⟩
 .unfold bk8;rw[z7];refine z6.2 (h.imp λ{a b} hab e=>hab ?_);exact Itm.kc6 (IV.agg.inj e)
 .obtain ⟨x,_,rfl⟩:=zl.1 c;refine ⟨rfl,λi hi=>?_⟩;have hi:i<3:=hi
  match i,hi with
  | 0,_=>exact ⟨_,rfl⟩
  | 1,_=>exact ⟨_,rfl⟩
  | 2,_=>exact ⟨_,rfl⟩
def bq9 (k:Int)(p n:Nat):List Itm:=(zp n).map λ(q:Nat)=>⟨k,p,q⟩
def gg4 (k:Int)(p n:Nat):bq9 k p (n+1)=bq9 k p n++[⟨k,p,n⟩]:=by
 unfold bq9;rw[zn,zt];rfl
def be1 (f:Nat->Bool)(g:Nat->Itm)(n:Nat):List Itm:=((zp n).filter f).map g
def bw6 (f:Nat->Bool)(g:Nat->Itm)(n:Nat):be1 f g (n+1)=be1 f g n++if f n then [g n] else []:=by
 unfold be1;rw[zn,z5,zt];cases h:f n<;>simp[h]
def at6 {f:Nat->Bool}{g:Nat->Itm}{n:Nat}{x:Itm}:x∈be1 f g n↔∃m,m<n/\f m=true/\x=g m:=by
 unfold be1;simp only[zl,zr,zh];constructor
 .rintro ⟨m,⟨c,b⟩,rfl⟩;exact ⟨m,c,b,rfl⟩
 .rintro ⟨m,c,b,rfl⟩;exact ⟨m,⟨c,b⟩,rfl⟩
def ax5 {k:Int}{p n:Nat}{x:Itm}:x∈bq9 k p n↔∃q:Nat,q<n/\x=⟨k,p,q⟩:=by
 unfold bq9;simp only[zl,zh];constructor
 .rintro ⟨q,h,rfl⟩;exact ⟨q,h,rfl⟩
 .rintro ⟨q,h,rfl⟩;exact ⟨q,h,rfl⟩
namespace ac2
variable (a:ac2)
def br1 (p:Nat):List Itm:=if a.fits p then [] else [⟨1,p,0⟩]
def id4 (p:Nat):List Itm:=a.br1 p++bq9 2 p (a.pk p).requires.length++bq9 3 p (a.pk p).conflicts.length++bq9 4 p (a.pk p).ab2.length
def cx1 (p k:Nat):List Itm:=be1 (λq=>decide (p<q)&&a.twins p q) (λq=>⟨5,p,q⟩) k
def gy4 (p:Nat):List Itm:=a.cx1 p a.l.length
def ca6 (k:Nat):List Itm:=be1 (λi=>!a.goes i) (λi=>⟨6,i,0⟩) k
def gm2 (k:Nat):List Itm:=be1 (λi=>!a.dropped i) (λi=>⟨7,i,0⟩) k
def owns (k:Nat):List Itm:=(zp k).flatMap a.id4
def at7 (k:Nat):List Itm:=(zp k).flatMap a.gy4
def items:List Itm:=a.owns a.l.length++a.at7 a.l.length++a.ca6 a.p.inst.toNat++a.gm2 a.r.ae8.length
def cf2 (k:Nat):a.owns (k+1)=a.owns k++a.id4 k:=by unfold owns;rw[zn,zv];simp
def bn1 (k:Nat):a.at7 (k+1)=a.at7 k++a.gy4 k:=by unfold at7;rw[zn,zv];simp
inductive Has (a:ac2):Itm->Prop
 | al9 (p:Nat):p<a.l.length->a.fits p=false->Has a ⟨1,p,0⟩
 | need (p q:Nat):p<a.l.length->q<(a.pk p).requires.length->Has a ⟨2,p,q⟩
 | clash (p q:Nat):p<a.l.length->q<(a.pk p).conflicts.length->Has a ⟨3,p,q⟩
 | over (p q:Nat):p<a.l.length->q<(a.pk p).ab2.length->Has a ⟨4,p,q⟩
 | twin (p q:Nat):p<q->q<a.l.length->a.twins p q=true->Has a ⟨5,p,q⟩
 | keep (i:Nat):i<a.p.inst.toNat->a.goes i=false->Has a ⟨6,i,0⟩
 | job (j:Nat):j<a.r.ae8.length->a.dropped j=false->Has a ⟨7,j,0⟩
def gy5 {p:Nat}{x:Itm}:x∈a.id4 p↔(a.fits p=false/\x=⟨1,p,0⟩)\/(∃q:Nat,q<(a.pk p).requires.length/\x=⟨2,p,q⟩)\/(∃q:Nat,q<(a.pk p).conflicts.length/\x=⟨3,p,q⟩)\/(∃q:Nat,q<(a.pk p).ab2.length/\x=⟨4,p,q⟩):=by
 unfold id4 br1;simp only[zk,ax5,or_assoc];refine or_congr ?_ Iff.rfl;cases h:a.fits p<;>simp
def gy6 {x:Itm}:x∈a.items↔a.Has x:=by
 unfold items owns at7 ca6 gm2;simp only[zk,zi,zh,gy5,at6];constructor
 .rintro (((⟨p,hp,h⟩|⟨p,hp,h⟩)|⟨i,hi,h,rfl⟩)|⟨j,d,h,rfl⟩)
  .rcases h with ⟨h,rfl⟩|⟨q,b,rfl⟩|⟨q,b,rfl⟩|⟨q,b,rfl⟩
   .exact .al9 p hp h
   .exact .need p q hp b
   .exact .clash p q hp b
   .exact .over p q hp b
  .obtain ⟨q,b,c,rfl⟩:=at6.1 h;rw[za] at c;exact .twin p q (of_decide_eq_true c.1) b c.2
  .exact .keep i hi (by simpa using h)
  .exact .job j d (by simpa using h)
 .intro h
  cases h with
  | al9 p hp h=>exact .inl (.inl (.inl ⟨p,hp,.inl ⟨h,rfl⟩⟩))
  | need p q hp b=>exact .inl (.inl (.inl ⟨p,hp,.inr (.inl ⟨q,b,rfl⟩)⟩))
  | clash p q hp b=>exact .inl (.inl (.inl ⟨p,hp,.inr (.inr (.inl ⟨q,b,rfl⟩))⟩))
  | over p q hp b=>exact .inl (.inl (.inl ⟨p,hp,.inr (.inr (.inr ⟨q,b,rfl⟩))⟩))
  | twin p q h1 h2 c=>exact .inl (.inl (.inr ⟨p,om,at6.2 ⟨q,h2,by simp[h1,c],rfl⟩⟩))
  | keep i hi h=>exact .inl (.inr ⟨i,hi,by simp[h],rfl⟩)
  | job j d h=>exact .inr ⟨j,d,by simp[h],rfl⟩
def cr7 (k:Int)(p n:Nat):(bq9 k p n).Nodup:=by
 unfold bq9;refine z6.2 (List.nodup_range.imp λ{x y} h e=>h ?_);have:=congrArg Itm.q e;simp only at this;omega
def cr8 {f:Nat->Bool}{g:Nat->Itm}(b:∀x y,g x=g y->x=y)(n:Nat):(be1 f g n).Nodup:=by
 unfold be1;exact z6.2 ((List.nodup_range.filter _).imp λ{x y} h e=>h (b _ _ e))
def dv3 {g:Nat->List Itm}(d:∀p,(g p).Nodup)(b:∀p,∀x∈g p,x.p=(p:Int))(n:Nat):((zp n).flatMap g).Nodup:=by
 induction n with
 | zero=>exact zz.nil
 | succ n ih=>
  rw[zn,zv,z8,z0,List.append_nil];refine zm.2 ⟨ih,d n,λx hx y c e=>?_⟩;have⟨p,hp,hx⟩:=zi.1 hx;have:=b p x hx;have:=b n y c;rw[<- e] at this;have:=zh.1 hp;omega
def cf3 {p:Nat}{x:Itm}(h:x∈a.id4 p):x.p=(p:Int)/\1<=x.kind/\x.kind<=4:=by
 rcases a.gy5.1 h with ⟨_,rfl⟩|⟨q,_,rfl⟩|⟨q,_,rfl⟩|⟨q,_,rfl⟩<;>exact ⟨rfl,by simp only<;>omega,by simp only<;>omega⟩
def gy7 (p:Nat):(a.id4 p).Nodup:=by
 unfold id4 br1;refine zm.2 ⟨zm.2 ⟨zm.2 ⟨?_,cr7 ..,λx hx y b e=>?_⟩,cr7 ..,λx hx y b e=>?_⟩,cr7 ..,λx hx y b e=>?_⟩
 .cases a.fits p<;>simp
 .obtain ⟨q,_,rfl⟩:=ax5.1 b;cases hf:a.fits p<;>rw[hf] at hx<;>simp at hx;rw[hx] at e;simp at e
 .obtain ⟨q,_,rfl⟩:=ax5.1 b;rcases zk.1 hx with hx|hx
  .cases hf:a.fits p<;>rw[hf] at hx<;>simp at hx;rw[hx] at e;simp at e
  .obtain ⟨r,_,rfl⟩:=ax5.1 hx;simp at e
 .obtain ⟨q,_,rfl⟩:=ax5.1 b;rcases zk.1 hx with hx|hx
  .rcases zk.1 hx with hx|hx
   .cases hf:a.fits p<;>rw[hf] at hx<;>simp at hx;rw[hx] at e;simp at e
   .obtain ⟨r,_,rfl⟩:=ax5.1 hx;simp at e
  .obtain ⟨r,_,rfl⟩:=ax5.1 hx;simp at e
def br2 {p k:Nat}{x:Itm}(h:x∈a.cx1 p k):x.p=(p:Int)/\x.kind=5:=by
 obtain ⟨q,_,_,rfl⟩:=at6.1 h;exact ⟨rfl,rfl⟩
def nodup:a.items.Nodup:=by
 unfold items;refine zm.2 ⟨zm.2 ⟨zm.2 ⟨?_,?_,λx hx y b e=>?_⟩,?_,λx hx y b e=>?_⟩,?_,λx hx y b e=>?_⟩
 .exact dv3 a.gy7 (λp x hx=>(a.cf3 hx).1) _
 .exact dv3 (λp=>cr8 (λx y e=>by have:=congrArg Itm.q e;simp only at this;omega) _) (λp x hx=>(a.br2 hx).1) _
 .have⟨p,_,hx⟩:=zi.1 hx;have⟨q,_,b⟩:=zi.1 b;have:=(a.cf3 hx).2;have:=(a.br2 b).2;rw[<- e] at this;omega
 .exact cr8 (λx y e=>by have:=congrArg Itm.p e;simp only at this;omega) _
 .obtain ⟨i,_,_,rfl⟩:=at6.1 b;rcases zk.1 hx with hx|hx
  .have⟨p,_,hx⟩:=zi.1 hx;have:=(a.cf3 hx).2;rw[e] at this;simp at this
  .have⟨p,_,hx⟩:=zi.1 hx;have:=(a.br2 hx).2;rw[e] at this;simp at this
 .exact cr8 (λx y e=>by have:=congrArg Itm.p e;simp only at this;omega) _
 .obtain ⟨j,_,_,rfl⟩:=at6.1 b;rcases zk.1 hx with hx|hx
  .rcases zk.1 hx with hx|hx
   .have⟨p,_,hx⟩:=zi.1 hx;have:=(a.cf3 hx).2;rw[e] at this;simp at this
   .have⟨p,_,hx⟩:=zi.1 hx;have:=(a.br2 hx).2;rw[e] at this;simp at this
  .obtain ⟨i,_,_,rfl⟩:=at6.1 hx;simp at e
def de7 {k:Nat}{y:Itm}(h:y∈a.owns k):1<=y.kind/\y.kind<=4/\∃p:Nat,p<k/\y.p=p:=by
 have⟨p,hp,b⟩:=zi.1 h;have:=a.cf3 b;exact ⟨this.2.1,this.2.2,p,zh.1 hp,this.1⟩
def jl2 {p:Nat}{y:Itm}(h:y∈a.br1 p):y.kind=1:=by
 unfold br1 at h;split at h
 .cases h
 .rw[zx] at h;rw[h]
def ed1 {k:Nat}{y:Itm}(h:y∈a.at7 k):y.kind=5/\∃p:Nat,p<k/\y.p=p:=by
 have⟨p,hp,b⟩:=zi.1 h;have:=a.br2 b;exact ⟨this.2,p,zh.1 hp,this.1⟩
def im3 {p k:Nat}{y:Itm}(h:y∈a.cx1 p k):y.kind=5/\y.p=p/\∃q:Nat,q<k/\y.q=q:=by
 obtain ⟨q,b,_,rfl⟩:=at6.1 h;exact ⟨rfl,rfl,q,b,rfl⟩
def gy8 {k:Nat}{y:Itm}(h:y∈a.ca6 k):y.kind=6/\∃q:Nat,q<k/\y.p=q:=by
 obtain ⟨q,b,_,rfl⟩:=at6.1 h;exact ⟨rfl,q,b,rfl⟩
def kc8 {k:Nat}{y:Itm}(h:y∈a.gm2 k):y.kind=7/\∃q:Nat,q<k/\y.p=q:=by
 obtain ⟨q,b,_,rfl⟩:=at6.1 h;exact ⟨rfl,q,b,rfl⟩
def nsI (p j:Nat):Nat:=if j=0 then (a.pk p).requires.length else if j=1 then (a.pk p).conflicts.length else (a.pk p).ab2.length
def ed2 (p j:Nat):List Itm:=(zp j).flatMap λi=>bq9 ((2+i:Nat):Int) p (a.nsI p i)
def au1 (p j:Nat):a.ed2 p (j+1)=a.ed2 p j++bq9 ((2+j:Nat):Int) p (a.nsI p j):=by unfold ed2;rw[zn,zv];simp
def ja6 (p:Nat):a.id4 p=a.br1 p++a.ed2 p 3:=by
 rw[au1,au1,au1];unfold id4 nsI;simp[ed2]
def kc9 {p j:Nat}{y:Itm}(h:y∈a.ed2 p j):2<=y.kind/\y.kind<2+(j:Int):=by
 have⟨i,hi,b⟩:=zi.1 h;obtain ⟨q,_,rfl⟩:=ax5.1 b;have:=zh.1 hi;simp only;omega
def en8 {k m:Nat}(h:k<=m):(a.owns k).length<=(a.owns m).length:=by
 obtain ⟨d,rfl⟩:∃d,m=k+d:=⟨m-k,om⟩
 induction d with
 | zero=>exact qc _
 | succ d ih=>
  have:=ih om;rw[show k+(d+1)=k+d+1 from rfl,a.cf2,zd];omega
def gg5 {k m:Nat}(h:k<=m):(a.at7 k).length<=(a.at7 m).length:=by
 obtain ⟨d,rfl⟩:∃d,m=k+d:=⟨m-k,om⟩
 induction d with
 | zero=>exact qc _
 | succ d ih=>
  have:=ih om;rw[show k+(d+1)=k+d+1 from rfl,a.bn1,zd];omega
def de8 (f:Nat->Bool)(g:Nat->Itm){k m:Nat}(h:k<=m):(be1 f g k).length<=(be1 f g m).length:=by
 obtain ⟨d,rfl⟩:∃d,m=k+d:=⟨m-k,om⟩
 induction d with
 | zero=>exact qc _
 | succ d ih=>
  have:=ih om;rw[show k+(d+1)=k+d+1 from rfl,bw6,zd];omega
def bg8 (k:Int)(p n:Nat):(bq9 k p n).length=n:=by unfold bq9;rw[zu,qu]
def az7:a.items.length=(a.owns a.l.length).length+(a.at7 a.l.length).length+(a.ca6 a.p.inst.toNat).length+(a.gm2 a.r.ae8.length).length:=by
 unfold items;simp only[zd]
def gy9 {p j q:Nat}(hp:p<a.l.length)(d:j<3)(c:q<=a.nsI p j):(a.owns p++a.br1 p++a.ed2 p j++bq9 ((2+j:Nat):Int) p q).length<=a.items.length:=by
 have b:=a.en8 (show p+1<=a.l.length from hp);have f:=a.az7;rw[a.cf2,a.ja6,zd,zd] at b
 have e:(a.ed2 p j).length+q<=(a.ed2 p 3).length:=by
  have e3:(a.ed2 p 3).length=a.nsI p 0+a.nsI p 1+a.nsI p 2:=by
   rw[a.au1,a.au1,a.au1];simp only[zd,bg8];simp[ed2]
  rw[e3];have:j=0\/j=1\/j=2:=om;rcases this with rfl|rfl|rfl
  .simp only[ed2,qd,z0,List.length_nil];omega
  .rw[a.au1];simp only[ed2,qd,z0,zo,bg8];omega
  .rw[a.au1,a.au1];simp only[ed2,qd,z0,zo,zd,bg8];omega
 simp only[zd,bg8];omega
def im4 {p:Nat}(hp:p<a.l.length):(a.owns p).length<=a.items.length:=by
 have c:=a.en8 (show p<=a.l.length by omega);have b:=a.az7;omega
def im5 {p k:Nat}(hp:p<a.l.length)(b:k<=a.l.length):(a.owns a.l.length++a.at7 p++a.cx1 p k).length<=a.items.length:=by
 have c:=a.gg5 (show p+1<=a.l.length from hp);have e:=a.az7;have d:(a.cx1 p k).length<=(a.gy4 p).length:=de8 _ _ b;rw[a.bn1,zd] at c;simp only[zd];omega
def im6 {k:Nat}(b:k<=a.p.inst.toNat):(a.owns a.l.length++a.at7 a.l.length++a.ca6 k).length<=a.items.length:=by
 have d:=a.az7;have c:(a.ca6 k).length<=(a.ca6 a.p.inst.toNat).length:=de8 _ _ b;simp only[zd];omega
def jl3 {k:Nat}(b:k<=a.r.ae8.length):(a.owns a.l.length++a.at7 a.l.length++a.ca6 a.p.inst.toNat++a.gm2 k).length<=a.items.length:=by
 have d:=a.az7;have c:(a.gm2 k).length<=(a.gm2 a.r.ae8.length).length:=de8 _ _ b;simp only[zd];omega
def fb4 (p:Nat):a.cx1 p (p+1)=[]:=by
 unfold cx1 be1;rw[List.map_eq_nil_iff,List.filter_eq_nil_iff];intro q b;have:=zh.1 b;have:¬p<q:=om;simp[this]
def cf4 (x:Itm):aa6:=(a.pk x.p).requires.getD x.q.toNat default
def bg9 (x:Itm):aa6:=(a.pk x.p).conflicts.getD x.q.toNat default
def dk8 (x:Itm):Dep:=(a.pk x.p).ab2.getD x.q.toNat default
def inS (st:List Int)(n:Int):Bool:=decide (n∈st)
def less (st:List Int)(n:Int):List Int:=st.filter λm=>!decide (m=n)
def keeps (st:List Int)(x:Itm):Bool :=
 if x.kind=1 then !inS st x.p
 else if x.kind=2 then !inS st x.p||fb2 a.l st (a.cf4 x)
 else if x.kind=3 then !inS st x.p || !fb2 a.l (less st x.p) (a.bg9 x)
 else if x.kind=4 then !inS st x.p || !((ap8 a.l (a.dk8 x)).any λn=>!decide (n=x.p)&&inS st n)
 else if x.kind=5 then !inS st x.p || !inS st x.q
 else if x.kind=6 then some st (a.an3 x.p)
 else a.ez9 x.p st
def isI (x:Itm):Bool:=decide (x∈a.items)
def holds (st:List Int)(x:Itm):Bool:=!a.isI x||a.keeps st x
def kept (st:List Int)(l:List Itm):Bool:=!l.any λx=>!a.holds st x
end ac2
def fl2 (p:aa1)(k:Int)(d:Dep)(bs:List Bool):Bool :=
 if k=1 then provides p d else if k=3 then bs.any λb=>b else if k=7 then bs.getD 0 false&&!bs.getD 1 false else bs.all λb=>b
mutual
def aa6.alone (p:aa1):aa6->Bool
 | .mk k d aZ=>fl2 p k d (aa6.fl3 p aZ)
def aa6.fl3 (p:aa1):List aa6->List Bool
 | []=>[]
 | r::rs=>r.alone p::aa6.fl3 p rs
end
def aa6.gg6 (p:aa1)(b:List aa6):aa6.fl3 p b=b.map λr=>r.alone p:=by
 induction b with
 | nil=>rfl
 | cons r rs ih=>simp only[aa6.fl3,zc,ih]
structure ag9 where
 h:Nat
 cl:List (List Int)
 sets:List (Str×Int)
def fl4 (n:Int):Str:=if n<10 then [ql (48+n.toNat)] else [ql (48+n.toNat/10),ql (48+n.toNat%10)]
def dk9 (l:List Int):Str:=l.flatMap λn=>fl4 n++[32]
def bx7:List (Str×Int)->Str->Option Int
 | [],_=>none
 | t::ts,k=>if k=t.1 then some t.2 else bx7 ts k
def en9 (l:List Int):List Int:=l.map λx=>-x
def upL (l:List Int):List Int:=l.map λx=>x+1
variable (c:Nat)
def al6 (l:List Int)(t:ag9):Int×ag9 :=
 (((c+(t.h+1):Nat):Int),⟨t.h+1,t.cl++(l.map λx=>[-x,((c+(t.h+1):Nat):Int)])++[-((c+(t.h+1):Nat):Int)::l],t.sets⟩)
def cu9 (l:List Int)(t:ag9):Int×ag9:=(-(al6 c (en9 l) t).1,(al6 c (en9 l) t).2)
def gm3 (l:List Int)(t:ag9):Int×ag9 :=
 if l.length=1 then (l.getD 0 0+1,t) else
 match bx7 t.sets (dk9 l) with
 | some x=>(x,t)
 | none=>((al6 c (upL l) t).1,{ (al6 c (upL l) t).2 with sets:=t.sets++[(dk9 l,(al6 c (upL l) t).1)] })
def ca7 (x y w:Int)(t:ag9):Int×ag9 :=
 (((c+(t.h+1):Nat):Int),⟨t.h+1,t.cl++[[-w,-x,((c+(t.h+1):Nat):Int)],[-w,x,-((c+(t.h+1):Nat):Int)],[w,-y,((c+(t.h+1):Nat):Int)],[w,y,-((c+(t.h+1):Nat):Int)]],t.sets⟩)
def gg7 (k:Int)(ls:List Int)(t:ag9):Int×ag9 :=
 if k=2 then cu9 c ls t
 else if k=3 then al6 c ls t
 else if k=4 then (if ls.length=3 then ca7 c (ls.getD 0 0) (ls.getD 2 0) (ls.getD 1 0) t else al6 c [ls.getD 0 0,-ls.getD 1 0] t)
 else if ls.length=3 then ca7 c (ls.getD 2 0) (ls.getD 0 0) (ls.getD 1 0) t else cu9 c [ls.getD 0 0,-ls.getD 1 0] t
def de9 (l:List Int)(b:Int):List Int:=l.filter λn=>!decide (n=b)
mutual
def aa6.bn2 (l:List aa1)(b:Int):aa6->ag9->Int×ag9
 | .mk k d aZ,t=>
  if k=1 then gm3 l.length (de9 (ag3 l d) b) t
  else if k=6\/k=7 then gm3 l.length (de9 (numsOf (λp=>(aa6.mk k d aZ).alone p) l) b) t
  else gg7 l.length k (aa6.an7 l b aZ t).1 (aa6.an7 l b aZ t).2
def aa6.an7 (l:List aa1)(b:Int):List aa6->ag9->List Int×ag9
 | [],t=>([],t)
 | r::rs,t=>((r.bn2 l b t).1::(aa6.an7 l b rs (r.bn2 l b t).2).1,(aa6.an7 l b rs (r.bn2 l b t).2).2)
end
end Go.Id.Md
namespace Go.Id.Md
open Go Go.Id
def RgN (V:Nat)(x:Int):Prop:=x≠0/\-(V:Int)<=x/\x<=V
def RgN.mono {V W:Nat}{x:Int}(h:RgN V x)(b:V<=W):RgN W x:=⟨h.1,by have:=h.2.1;omega,by have:=h.2.2;omega⟩
def RgN.neg {V:Nat}{x:Int}(h:RgN V x):RgN V (-x):=⟨by have:=h.1;omega,by have:=h.2.2;omega,by have:=h.2.1;omega⟩
def jl4 (V:Nat)(T:Int->Bool):Prop:=∀x,RgN V x->T (-x)=!T x
def jl4.mono {V W:Nat}{T:Int->Bool}(h:jl4 W T)(b:V<=W):jl4 V T:=λx hx=>h x (hx.mono b)
def kx6 (T:Int->Bool)(l:List (List Int)):Prop:=∀q∈l,q.any T=true
def kd1 (l:List Int):Prop:=∀n∈l,0<=n/\n<100
structure ag9.OK (c:Nat) (t:ag9):Prop where
 cl:∀q∈t.cl,∀x∈q,RgN (c+t.h) x
 st:∀e∈t.sets,RgN (c+t.h) e.2
 kn:(t.sets.map (·.1)).Nodup
def fl5 (T:Int->Bool)(t:ag9):Prop:=∀l x,kd1 l->bx7 t.sets (dk9 l)=some x->T x=l.any λn=>T (n+1)
structure Told (c n:Nat) (t:ag9) (r:Int×ag9) (P:(Int->Bool)->Bool):Prop where
 le:t.h<=r.2.h/\r.2.h<=t.h+n
 cl:∀q∈t.cl,q∈r.2.cl
 ok:r.2.OK c/\RgN (c+r.2.h) r.1
 says:∀T,jl4 (c+r.2.h) T->kx6 T r.2.cl->fl5 T t->T r.1=P T/\fl5 T r.2
variable {c:Nat} {t:ag9}
def gz1 {s:List (Str×Int)}{k:Str}{x:Int}(h:bx7 s k=some x):(k,x)∈s:=by
 induction s with
 | nil=>cases h
 | cons t ts ih=>
  unfold bx7 at h;split at h
  .rename_i e;cases h;rw[e];exact zf
  .exact ze _ (ih h)
def gg8 {s:List (Str×Int)}{k:Str}(h:bx7 s k=none):k ∉ s.map (·.1):=by
 induction s with
 | nil=>exact qa
 | cons t ts ih=>
  unfold bx7 at h;split at h
  .cases h
  .rename_i e;rw[zc,zb];exact λh2=>h2.elim e (ih h)
end Go.Id.Md
namespace Go.Id.Md
open Go Go.Id
structure OkM (ab4:List al5) (inst:List aa1):Prop where
 n:ab4.length<=16
 all:inst.length+ah3 ab4<=256
 inst:inst.all ae9=true
 ab4:∀r∈ab4,0<=r.priority/\r.priority<=1024/\r.packages.all ae9=true
def eo7:∀(b:List al5) (i:Nat) (st:List bb5×Nms),(∀r∈b,0<=r.priority/\r.priority<=1024/\r.packages.all ae9=true)->∃d,ak5 i b st=some d:=by
 intro b
 induction b with
 | nil=>intro i st _;exact ⟨st,rfl⟩
 | cons r b ih=>
  intro i st h;have⟨g,f,e⟩:=h r zf;simp only[ak5];rw[if_neg (by rw[e];simp;omega)];exact ih _ _ λx hx=>h x (ze _ hx)
def OkM.new {b:List al5}{inst:List aa1}(h:OkM b inst):∃p,by5 b inst=.inl p:=by
 have⟨⟨rows,nm⟩,d⟩:=eo7 b 0 (rowsOf inst (-1) 1025,dk6 [] 0 inst) h.ab4;unfold by5;have:=h.n;have:=h.all;rw[if_neg om,if_neg (by rw[h.inst];simp),d];exact ⟨_,rfl⟩
def dv9 (a b:List al5):ah3 (a++b)=ah3 a+ah3 b:=by simp[ah3]
def OkM.less {a:List al5}{l:al5}{inst:List aa1}(h:OkM (a++[l]) inst):OkM a inst where
 n:=by have:=h.n;rw[zd] at this;omega
 all:=by have:=h.all;rw[dv9] at this;omega
 inst:=h.inst
 ab4:=λr hr=>h.ab4 r (qp _ hr)
def OkM.last {a:List al5}{l:al5}{inst:List aa1}{ps:List aa1}(h:OkM (a++[l]) inst)(hp:∀p∈ps,p∈l.packages)(i:ps.length<=l.packages.length):OkM (a++[⟨l.priority,ps⟩]) inst where
 n:=by have:=h.n;rw[zd] at this ⊢;exact this
 all:=by
  have:=h.all;rw[dv9] at this ⊢;have e:ah3 [l]=l.packages.length:=by simp[ah3]
  have e2:ah3 [⟨l.priority,ps⟩]=ps.length:=by simp[ah3]
  omega
 inst:=h.inst
 ab4:=λr hr=>by
  rcases zk.1 hr with hr|hr
  .exact h.ab4 r (qp _ hr)
  .rw[zx] at hr;subst hr;have⟨g,f,d⟩:=h.ab4 l sm;exact ⟨g,f,zg.2 λp b=>zg.1 d p (hp p b)⟩
def kd8 (f:aa1->aa1)(l:List al5):List al5:=l.map λr=>⟨r.priority,r.packages.map f⟩
def in8 (f:aa1->aa1)(l:List al5):(kd8 f l).length=l.length:=by simp[kd8]
def in9 (f:aa1->aa1)(l:List al5):ah3 (kd8 f l)=ah3 l:=by
 unfold ah3 kd8;rw[z7];congr 1;exact List.map_congr_left λr _=>zu ..
def OkM.map {ab4:List al5}{inst:List aa1}{f g:aa1->aa1}(h:OkM ab4 inst)(hf:∀q,ae9 q=true->ae9 (f q)=true)(e:∀q,ae9 q=true->ae9 (g q)=true):OkM (kd8 f ab4) (inst.map g) where
 n:=by rw[in8];exact h.n
 all:=by rw[in9,zu];exact h.all
 inst:=zg.2 λx hx=>by
  obtain ⟨y,b,rfl⟩:=zl.1 hx;exact e y (zg.1 h.inst y b)
 ab4:=λr hr=>by
  obtain ⟨y,b,rfl⟩:=zl.1 hr;have⟨k,j,i⟩:=h.ab4 y b;refine ⟨k,j,zg.2 λx hx=>?_⟩;obtain ⟨z,d,rfl⟩:=zl.1 hx;exact hf z (zg.1 i z d)
def Pool.cf7 (p:Pool)(n:Int):Int:=if 0<=n/\n<p.rows.length then (p.rows.getD n.toNat ⟨default,0,0⟩).eu2 else -1
def fj6:List (Int->Int->Int)->(Int->Int->Int)->Int->Int->Int
 | [],c,n,m=>c n m
 | f::fs,c,n,m=>lex (f n m) (fj6 fs c n m)
def jk1 {S:Int->Prop}{c:Int->Int->Int}(hc:WO S c):∀b:List (Int->Int->Int),(∀f∈b,WO S f)->WO S (fj6 b c):=by
 intro b
 induction b with
 | nil=>intro _;exact hc
 | cons f b ih=>intro h;exact (h f zf).lex (ih λg d=>h g (ze _ d))
def gw4 {c:Int->Int->Int}(d:∀n m,c n m=0->n=m):∀(b:List (Int->Int->Int)) (n m:Int),fj6 b c n m=0->n=m:=by
 intro b
 induction b with
 | nil=>exact d
 | cons f b ih=>
  intro n m h;simp only[fj6,lex] at h;split at h
  .exact ih n m h
  .contradiction
def ez3 (c:Int->Int->Int)(zs:List Int):List Int:=zs.mergeSort λx y=>!decide (c y x<0)
def cr1 (c:Int->Int->Int)(zs:List Int):(ez3 c zs).Perm zs:=z4 _ _
def ik7 {S:Int->Prop}{c:Int->Int->Int}(hc:WO S c)(k:∀n m,c n m=0->n=m){zs:List Int}(q:∀x∈zs,S x)(p:zs.Nodup):(ez3 c zs).Pairwise λx y=>c x y<0:=by
 have e:(ez3 c zs).Nodup:=(cr1 c zs).nodup_iff.2 p
 have hp:(ez3 c zs).Pairwise λx y=>(!decide (c y x<0))=true:=by
  unfold ez3;let T:={ n:Int // S n };let L:List T:=zs.attach.map λx=>⟨x.1,q x.1 x.2⟩
  have s:L.map (·.1)=zs:=by
   show (qq _ (qq _ _))=_;rw[z7];exact qf _
  rw[<- s,<- qt (r:=λx y:T=>!decide (c y.1 x.1<0)) (λ_ _ _ _=>rfl)];refine zz.map _ (λ_ _ h=>h) ?_;refine qj ?_ ?_ L
  .intro a b d i g;have B:=hc.tr a.1 b.1 d.1 a.2 b.2 d.2;have j:=hc.neg a.1 b.1;have A:=hc.neg b.1 d.1;have z:=hc.neg a.1 d.1;simp only[qw,decide_eq_false_iff_not] at i g ⊢;omega
  .intro a b;have j:=hc.neg a.1 b.1;by_cases h:c a.1 b.1<0
   .have:¬c b.1 a.1<0:=om;simp[h,this]
   .simp[h]
 refine hp.imp₂ (λ{x y} i g=>?_) e;have j:=hc.neg x y;have f:x≠y:=g;have u:¬c y x<0:=by simpa using i
 have:c x y≠0:=λh=>f (k _ _ h)
 omega
def gw5 {S:Int->Prop}{c:Int->Int->Int}(hc:WO S c)(i:∀n m,c n m=0->n=m){zs ds:List Int}(k:∀x∈zs,S x)(f:zs.Nodup)(hp:ds.Perm zs)(j:ds.Pairwise λx y=>x=y\/c x y<0):ds=ez3 c zs:=by
 have e:ds.Nodup:=hp.nodup_iff.2 f;have d:ds.Pairwise λx y=>c x y<0:=j.imp₂ (λ{x y} h g=>h.resolve_left g) e
 exact List.Perm.eq_of_pairwise (λa b _ _ h g=>by have:=hc.neg a b;omega) d (ik7 hc i k f) (hp.trans (cr1 c zs).symm)
namespace ah4
variable (o:ah4)
def ik8 (i n:Int):Int:=bl8 (decide ((o.a.pk n).name=(o.a.pk i).name))
def upF (i n m:Int):Int:=lex (aq7 (o.ik8 i n) (o.ik8 i m)) (ao6 (o.a.pk m).evr (o.a.pk n).evr)
def cr2 (i n m:Int):Int:=aq7 (bl8 (decide (n=i))) (bl8 (decide (m=i)))
def eb9 (n m:Int):Int:=aq7 (bl8 (decide (0<=o.a.p.cf7 n))) (bl8 (decide (0<=o.a.p.cf7 m)))
def bi3 (fs:List (Int->Int->Int))(i:Int):List Int:=ez3 (fj6 fs o.cmp) (o.a.an3 i)
abbrev dk5 (n:Int):Prop:=(o.a.pk n).evr.rel≠[]
def kb5 (i:Int):WO o.dk5 (o.upF i):=
 ((de4.of (o.ik8 i)).sub λ_ _=>trivial).lex ((ja5.of λn=>(o.a.pk n).evr).flip)
def jk2 (i:Int):WO o.dk5 (cr2 i):=(de4.of λn=>bl8 (decide (n=i))).sub λ_ _=>trivial
def jk3:WO o.dk5 o.eb9:=(de4.of λn=>bl8 (decide (0<=o.a.p.cf7 n))).sub λ_ _=>trivial
def ec1 {i n:Int}(h:n∈o.a.an3 i):o.a.is n=true:=by
 unfold ac2.an3 at h;split at h
 .obtain ⟨m,rfl,b,_⟩:=al4.1 h;rw[ac2.bq8];exact decide_eq_true b
 .cases h
def ez4 (i:Int):(o.a.an3 i).Nodup:=by
 unfold ac2.an3;split
 .exact (cy4 _ _).imp λh e=>by omega
 .exact zw
def bk1 (b:List (Int->Int->Int))(i:Int):(o.bi3 b i).Perm (o.a.an3 i):=cr1 _ _
variable (hr:∀n,o.a.is n=true->(o.a.pk n).evr.rel≠[])
include hr
end ah4
namespace ah4
variable (o:ah4)
theorem du5 {i:Int}(h:o.a.inst i=true):i∈o.a.an3 i:=by
 unfold ac2.an3;rw[if_pos h]
 have b:o.a.is i=true:=by
  unfold ac2.inst at h;rw[za] at h;exact h.1
 unfold ac2.is at b;simp only[za,decide_eq_true_eq] at b;refine al4.2 ⟨i.toNat,om,om,?_⟩;have e:((i.toNat:Nat):Int)=i:=om;rw[e];simp
variable (hr:∀n,o.a.is n=true->(o.a.pk n).evr.rel≠[])
include hr
theorem ik9 {i:Int}:∀f∈[cr2 i],WO o.dk5 f:=λf hf=>by
 rw[zx] at hf;subst hf;exact o.jk2 i
theorem jk4 {i:Int}:∀f∈[o.upF i],WO o.dk5 f:=λf hf=>by
 rw[zx] at hf;subst hf;exact o.kb5 i
theorem il1 {i:Int}:∀f∈[o.eb9,o.upF i],WO o.dk5 f:=λf hf=>by
 simp only[zb,qa,or_false] at hf;rcases hf with rfl|rfl
 .exact o.jk3
 .exact o.kb5 i
theorem jk5 {b:List (Int->Int->Int)}{i x:Int}(hx:x∈o.bi3 b i):o.a.is x=true:=o.ec1 ((o.bk1 b i).mem_iff.1 hx)
end ah4
end Go.Id.Md
