/- The document's data,and what functions give,in plain words. Conditions: none; no program in sight. -/
import Derived.Test.YtlpijcemoicebaaGreatDoorFwQ
open Bool renaming and_eq_true→za,eq_iff_iff→zt,or_eq_true→qb,true_and→qt,and_comm→qu,not_eq_true'→jc
open List renaming mem_cons→zb,mem_cons_of_mem→zc,map_cons→zd,length_append→ze,mem_cons_self→zf,getD_eq_getElem?_getD→zg,mem_range→zh,mem_flatMap→zi,mem_append→zj,nodup_cons→zk,getElem_mem→zl,all_eq_true→zm,nodup_append→zn,mem_map→zo,range_succ→zp,nil_append→zq,map_append→zr,range→zu,cons_append→zv,any_eq_true→zw,mem_filter→zx,length_cons→zy,length_map→zz,flatMap_cons→z0,Pairwise→z1,flatMap_append→z2,perm_ext_iff_of_nodup→z4,nodup_nil→z5,mem_singleton→z6,flatMap_nil→z9,map_map→qa,length_filter_le→qc,mergeSort_perm→qd,pairwise_cons→qe,filter_append→qf,pairwise_map→qg,filter_congr→qh,not_mem_nil→qi,range_zero→qj,foldl_cons→qk,find?_cons→ql,attach_map_subtype_val→qm,replicate→qn,pairwise_iff_getElem→qo,mem_drop_iff_getElem→qp,getElem?_eq_getElem→qq,all_cons→qr,pairwise_mergeSort→qv,length_eq_zero_iff→qw,filterMap_append→qz,not_lt→q0,mem_of_getElem?→q3,mem_iff_getElem→q4,map→q5,filterMap_cons→q6,map_mergeSort→q7,length_range→q9
open Function renaming comp_def→z3
open Nat renaming le_refl→z7,le_trans→qy
open Int renaming toNat_natCast→z8,toNat_of_nonneg→q8
open UInt8 renaming ofNat→qx
open Decidable renaming em→ja
set_option linter.all false
private theorem om{P:Prop}(h:P:=by omega):P:=h
namespace Go.Id.Md
open Go Go.Id
abbrev bJ:=List UInt8
structure dg where
 dG:Int
 cz:bJ
 rel:bJ
 deriving DecidableEq,Inhabited
structure bC where
 name:bJ
 op:Int
 bB:dg
 deriving DecidableEq,Inhabited
inductive aX where|mk (kind:Int)(dep:bC)(args:List aX) deriving Inhabited
def aX.kind:aX->Int|.mk k _ _=>k
def aX.dep:aX->bC|.mk _ d _=>d
def aX.args:aX->List aX|.mk _ _ a=>a
structure bc where
 name:bJ
 bB:dg
 b9:Int
 bI:bJ
 ba:List bC
 bT:List aX
 conflicts:List aX
 dh:List bC
 iE:List aX
 fJ:List aX
 bE:List aX
 iz:List aX
 files:List bJ
 deriving Inhabited
structure cF where
 priority:Int
 br:List bc
 deriving Inhabited
def dg.fit (e:dg):Prop:=e.cz.length<2^62/\e.rel.length<2^62
def bC.fit (d:bC):Prop:=d.name.length<2^62/\d.bB.fit
def aX.ind{p:aX->Prop}(h:∀k d b,(∀a∈b,p a)->p (.mk k d b))(r:aX):p r :=aX.rec (motive_1:=p) (motive_2:=λl=>∀a∈l,p a) (λk d b c=>h k d b c) (λ_ h=>by cases h) (λr i g f a e=>by rcases zb.1 e with rfl|h;{exact g};exact f a h) r
mutual
def aX.fit:aX->Prop
 | .mk k d aZ=>0<=k/\k<256/\d.fit/\aZ.length<2^31/\aX.fits aZ
def aX.fits:List aX->Prop
 | []=>True
 | r::rs=>r.fit/\aX.fits rs
end
def aX.Zb(l:List aX):aX.fits l↔∀r∈l,r.fit:=by induction l with|nil=>simp[aX.fits]|cons r rs ih=>simp[aX.fits,ih]
def aX.oj{k:Int}{d:bC}{a:List aX}:(aX.mk k d a).fit↔0<=k/\k<256/\d.fit/\a.length<2^31/\∀r∈a,r.fit:=by simp only[aX.fit,aX.Zb]
def dg.cs (e:dg):List IV:=[.int .i64 e.dG,.str e.cz,.str e.rel]
def bC.cs (d:bC):List IV:=[.str d.name,.int .u8 d.op,.int .i64 d.bB.dG,.str d.bB.cz,.str d.bB.rel]
mutual
def aX.cs:aX->List IV
 | .mk k d aZ=>[.int .u8 k,.str d.name,.int .u8 d.op,.int .i64 d.bB.dG,.str d.bB.cz,.str d.bB.rel,.a8 (aX.css aZ)]
def aX.css:List aX->List (List IV)
 | []=>[]
 | r::rs=>r.cs::aX.css rs
end
def aX.kc3(l:List aX):aX.css l=l.map aX.cs:=by induction l with|nil=>rfl|cons r rs ih=>simp only[aX.css,ih,zd]
def aX.dV(r:aX):r.cs=[.int .u8 r.kind,.str r.dep.name,.int .u8 r.dep.op,.int .i64 r.dep.bB.dG,.str r.dep.bB.cz,.str r.dep.bB.rel,.a8 (r.args.map aX.cs)]:=by cases r with|mk k d aZ=>simp only[aX.cs,aX.kc3,aX.kind,aX.dep,aX.args]
def gA (s:bJ):List IV:=[.str s]
abbrev iu (l:List bC):IV:=.a8 (l.map bC.cs)
abbrev gZ (l:List aX):IV:=.a8 (l.map aX.cs)
abbrev strs (l:List bJ):IV:=.a8 (l.map gA)
def bc.cs(p:bc):List IV :=[.str p.name,.int .i64 p.bB.dG,.str p.bB.cz,.str p.bB.rel,.int .u8 p.b9,.str p.bI,iu p.ba,gZ p.bT,gZ p.conflicts,iu p.dh,gZ p.iE,gZ p.fJ,gZ p.bE,gZ p.iz,strs p.files]
def cF.cs (r:cF):List IV:=[.int .i64 r.priority,.a8 (r.br.map bc.cs)]
def bc.bx (p:bc):List (Int×List aX):=[(1,p.bT),(2,p.conflicts),(1,p.iE),(3,p.fJ),(1,p.bE),(3,p.iz)]
def kj:bJ:=[97,98,99,100,101,102,103,104,105,106,107,108,109,110,111,112,113,114,115,116,117,118,119,120,121,122,65,66,67,68,69,70,71,72,73,74,75,76,77,78,79,80,81,82,83,84,85,86,87,88,89,90,48,49,50,51,52,53,54,55,56,57,46,95,43,45,47,58,64,126,94]
def O7 (b:UInt8):Bool:=(decide (97<=b.toNat)&&decide (b.toNat<=122))||(decide (65<=b.toNat)&&decide (b.toNat<=90))||(decide (48<=b.toNat)&&decide (b.toNat<=57))
def oL (b:UInt8):Bool:=kj.contains b
def words:List bJ:=[[97,110,100],[111,114],[105,102],[101,108,115,101],[117,110,108,101,115,115],[119,105,116,104],[119,105,116,104,111,117,116]]
def kG (s:bJ):Bool:=decide (1<=s.length)&&decide (s.length<=64)&&s.all oL&&!words.contains s
def pH (s:bJ):Bool:=kG s&&(s.head? == some 47)
def mu (b:UInt8):Bool:=O7 b || [46,95,43,126,94].contains b
def mh (s:bJ):Bool:=decide (1<=s.length)&&decide (s.length<=64)&&s.all mu
def oO (e:dg)(dep:Bool):Bool:=decide (0<=e.dG)&&decide (e.dG<=2147483647)&&mh e.cz&&(mh e.rel||dep&&e.rel.isEmpty)
def ue (op:Int):Bool:=[0,1,2,3,4,6].contains op
def qS:dg:=⟨0,[],[]⟩
def ij:bC:=⟨[],0,qS⟩
def fK (d:bC):Bool:=kG d.name&&ue d.op&&(if d.op=0 then decide (d.bB=qS) else !pH d.name&&oO d.bB true)
def cy (b:UInt8):Nat:=if b=126 then 1 else if b=94 then 3 else if decide (97<=b)&&decide (b<=122)||decide (65<=b)&&decide (b<=90) then 4 else if decide (48<=b)&&decide (b<=57) then 5 else 0
structure Part where
 kind:Nat
 s:bJ
 deriving DecidableEq,Inhabited
def kY:Nat->bJ->List Part|0,_=>[]|_+1,[]=>[]|n+1,b::l=>if cy b=0 then kY n l else if cy b<4 then ⟨cy b,[]⟩::kY n l else ⟨cy b,if cy b=5 then ((b::l).takeWhile λc=>cy c==cy b).dropWhile (· == 48) else (b::l).takeWhile λc=>cy c==cy b⟩::kY n ((b::l).dropWhile λc=>cy c==cy b)
def cr (s:bJ):List Part:=kY s.length s
def cJ (a b:Int):Int:=if a<b then -1 else if a=b then 0 else 1
def ju (a b:bJ):Int:=if Op.bytesLess a b then -1 else if a=b then 0 else 1
def ft(a b:Part):Int :=let k:=cJ a.kind b.kind;if k≠0 then k else let n:=if a.kind=5/\b.kind=5 then cJ a.s.length b.s.length else 0;if n≠0 then n else ju a.s b.s
def iS:List Part->List Part->Int|a::aZ,b::bs=>if ft a b≠0 then ft a b else iS aZ bs|_,_=>0
def jL (a b:bJ):Int:=iS (cr a++[⟨2,[]⟩]) (cr b++[⟨2,[]⟩])
def fC(a b:dg):Int :=if cJ a.dG b.dG≠0 then cJ a.dG b.dG else if jL a.cz b.cz≠0 then jL a.cz b.cz else if a.rel=[]\/b.rel=[] then 0 else jL a.rel b.rel
def bit (op:Int)(i:Nat):Bool:=(op.toNat).testBit i
def side (n:Int):Nat:=if n<0 then 0 else if n=0 then 1 else 2
def meet(a b:bC):Bool :=if a.op.toNat%8=0\/b.op.toNat%8=0 then true else let n:=fC a.bB b.bB;if n=0 then bit a.op 0&&bit b.op 0||bit a.op 1&&bit b.op 1||bit a.op 2&&bit b.op 2 else bit a.op (side (-n))||bit b.op (side n)
mutual
def aX.count:aX->Nat
 | .mk _ _ aZ=>aX.counts aZ+1
def aX.counts:List aX->Nat
 | []=>0
 | r::rs=>r.count+aX.counts rs
end
mutual
def aX.depth:aX->Nat
 | .mk k _ aZ=>if k=1 then 0 else aX.mS aZ+1
def aX.mS:List aX->Nat
 | []=>0
 | r::rs=>max r.depth (aX.mS rs)
end
-- All parts,and whether each stands within a With,or a Without.
mutual
def aX.parts:aX->Bool->List (aX×Bool)
 | .mk k d aZ,alone=>(.mk k d aZ,alone)::aX.mj aZ (alone||decide (k=6)||decide (k=7))
def aX.mj:List aX->Bool->List (aX×Bool)
 | [],_=>[]
 | r::rs,alone=>r.parts alone++aX.mj rs alone
end
def asks(k:Int):Nat×Nat×Bool×Nat :=if k=1 then (0,0,true,3) else if k=2 then (2,24,true,3) else if k=3 then (2,24,true,3) else if k=4 then (2,3,false,1) else if k=5 then (2,3,false,2) else if k=6 then (2,24,true,3) else if k=7 then (2,2,true,3) else (0,0,false,0)
def fu(wh:Int)(r:aX)(alone:Bool):Bool :=let x:=asks r.kind;!(decide ((x.2.2.2:Int)<wh)||alone&&!x.2.2.1||decide (r.args.length<x.1)||decide (x.2.1<r.args.length)) && (if r.kind=1 then fK r.dep else decide (r.dep=ij))
def fy(r:aX)(wh:Int):Int :=if wh<1\/3<wh then 1 else if r.count>24 then 40 else if r.depth>8 then 21 else if (r.parts false).all λp=>fu wh p.1 p.2 then 0 else 4
structure bc.Fit (p:bc):Prop where
 name:p.name.length<2^62
 bB:p.bB.fit
 dZ:p.ba.length<2^31/\∀d∈p.ba,d.fit
 pj:p.dh.length<2^31/\∀d∈p.dh,d.fit
 files:p.files.length<2^31/\∀s∈p.files,s.length<2^62
 rich:∀x∈p.bx,x.2.length<2^31/\∀r∈x.2,r.fit/\r.count<2^31
def gH (a:Int):Bool:=decide (1<=a)&&decide (a<=4)
def rising:List bJ->Bool|a::b::l=>Op.bytesLess a b&&rising (b::l)|_=>true
def lH (l:List aX)(wh:Int):Bool:=decide (l.length<=32)&&l.all λr=>decide (fy r wh=0)
def eh(p:bc):Bool :=kG p.name&&!pH p.name&&oO p.bB false&&gH p.b9&&decide (p.bI.length<=64) && (decide (p.ba.length<=32)&&p.ba.all fK)&&(decide (p.dh.length<=32)&&p.dh.all fK)&&(decide (p.files.length<=32)&&p.files.all pH) && rising p.files&&lH p.bT 1&&lH p.conflicts 2&&lH p.iE 1&&lH p.fJ 3&&lH p.bE 1&&lH p.iz 3
def own (p:bc):bC:=⟨p.name,2,p.bB⟩
def meets (a d:bC):Bool:=decide (a.name=d.name)&&meet a d
def named (p:bc)(d:bC):Bool:=meets (own p) d
def ba (p:bc)(d:bC):Bool:=named p d||p.ba.any (λa=>meets a d)||decide (d.op=0)&&p.files.contains d.name
def dh (p q:bc):Bool:=p.dh.any λd=>named q d
end Go.Id.Md
namespace Go.Id.Md
open Go Go.Id
structure ey where
 jx:bc
 lx:Int
 prio:Int
def ey.cs (r:ey):List IV:=r.jx.cs++[.int .i64 r.lx,.int .i64 r.prio]
abbrev eP:=List (bJ×List Int)
def gu:eP->bJ->Int->eP|[],k,n=>[(k,[n])]|t::ts,k,n=>if k=t.1 then (k,t.2++[n])::ts else t::gu ts k n
def uf:eP->Nat->List bc->eP|nm,_,[]=>nm|nm,n,p::ps=>uf (gu nm p.name n) (n+1) ps
def bw (n:Int):List IV:=[.int .i64 n]
def dH (nm:eP):List (IV×IV):=nm.map λt=>(.str t.1,.a8 (t.2.map bw))
structure cK where
 bx:List ey
 a7:Int
 nm:eP
def cK.v (p:cK):IV:=.bj [.a8 (p.bx.map ey.cs),.int .i64 p.a7,.cH (dH p.nm)]
def rowsOf (l:List bc)(lx prio:Int):List ey:=l.map λp=>⟨p,lx,prio⟩
def TE (l:List bc)(x:bc)(a b:Int):rowsOf (l++[x]) a b=rowsOf l a b++[⟨x,a,b⟩]:=by simp[rowsOf]
def Fl (l:List bc)(a b:Int):(rowsOf l a b).length=l.length:=by simp[rowsOf]
def nY:Nat->List cF->List ey×eP->Option (List ey×eP)|_,[],st=>some st|i,r::rs,st=>if r.priority<0\/1024<r.priority\/r.br.all eh=false then none else nY (i+1) rs (st.1++rowsOf r.br i r.priority,uf st.2 st.1.length r.br)
def fA (l:List cF):Nat:=(l.map λr=>r.br.length).sum
def iq(repos:List cF)(a7:List bc):cK ⊕ Int :=if 16<repos.length\/256<a7.length+fA repos then .inr 40 else if a7.all eh=false then .inr 4 else match nY 0 repos (rowsOf a7 (-1) 1025,uf [] 0 a7)with|some (bx,nm)=>.inl ⟨bx,a7.length,nm⟩|none=>.inr 4
def KQ(r:cK ⊕ Int):IV:=match r with|.inl p=>.tuple [p.v,.int .i64 0]|.inr e=>.tuple [.eI,.int .i64 e]
abbrev fB:=List (bJ×List Int×Nat)
def eO (L:fB):List (IV×IV):=L.map λt=>(.str t.1,.slice t.2.2 0 t.2.1.length 1)
def eN (L:fB):eP:=L.map λt=>(t.1,t.2.1)
def eQ:fB->bJ->Int->Nat->fB|[],k,n,nid=>[(k,[n],nid)]|t::ts,k,n,nid=>if k=t.1 then (k,t.2.1++[n],nid)::ts else t::eQ ts k n nid
def kh(L:fB)(k:bJ):IV:=match L.find? (λt=>decide (k=t.1))with|some t=>.slice t.2.2 0 t.2.1.length 1|none=>.bA
def jg(L:fB)(k:bJ):List Int:=match L.find? (λt=>decide (k=t.1))with|some t=>t.2.1|none=>[]
def F2(L:fB)(k:bJ)(n:Int)(nid:Nat):eN (eQ L k n nid)=gu (eN L) k n:=by induction L with|nil=>rfl|cons t ts ih=>simp only[eQ,eN,zd,gu];split;{rfl};rw[zd];congr 1
def kv4(L:fB)(k:bJ):(jC 2 (.str k) (eO L)).map (λr=>r.getD .bA)=some (kh L k):=by induction L with|nil=>rfl|cons t ts ih=>simp only[eO,zd,jC,AM,kh,ql]at ih ⊢;by_cases h:k=t.1;{simp[h]};simp only[h,aD]at ih ⊢;exact ih
def kd4(L:fB)(k:bJ):∃r,jC 2 (.str k) (eO L)=some r/\r.getD .bA=kh L k:=by have:=kv4 L k;cases h:jC 2 (.str k) (eO L)with|none=>rw[h]at this;cases this|some r=>rw[h]at this;exact ⟨r,rfl,by simpa using this⟩
def lm7(L:fB)(k:bJ)(n:Int)(nid:Nat):mF 2 (.str k) (.slice nid 0 ((jg L k).length+1) 1) (eO L)=some (eO (eQ L k n nid)):=by induction L with|nil=>rfl|cons t ts ih=>simp only[eO,zd,mF,AM,jg,ql,eQ]at ih ⊢;by_cases h:k=t.1;{simp[h]};simp only[h,aD,ae,zd]at ih ⊢;rw[ih];rfl
variable {k:bJ}{n:Int}
def GA{nid:Nat}:∀ {L:fB},(L.map (·.1)).Nodup->∀t∈eQ L k n nid,(t∈L/\t.1≠k)\/t=(k,jg L k++[n],nid):=by intro L;induction L with|nil=>intro _ t a;simp[eQ]at a;exact .inr (by rw[a];rfl)|cons u us ih=>intro b t a;rw[zd,zk]at b;simp only[eQ]at a;by_cases h:k=u.1;{rw[ab h]at a;rcases zb.1 a with rfl|a;{right;simp[jg,h]};left;exact ⟨zc _ a,λe=>b.1 (by rw[<- h,<- e];exact List.mem_map_of_mem (f:=λx:bJ×List Int×Nat=>x.1) a)⟩};rw[aa h]at a;rcases zb.1 a with rfl|a;{left;exact ⟨zf ..,λe=>h e.symm⟩};have e:jg (u::us) k=jg us k:=(by simp[jg,h]);rw[e];rcases ih b.2 t a with ⟨c,d⟩|c;{exact .inl ⟨zc _ c,d⟩};exact .inr c
variable {a:Nat}
def NJ:∀(L:fB),(L.map (·.1)).Nodup->((eQ L k n a).map (·.1)).Nodup/\∀x∈(eQ L k n a).map (·.1),x=k\/x∈L.map (·.1):=by intro L;induction L with|nil=>intro _;simp[eQ]|cons u us ih=>intro b;rw[zd,zk]at b;simp only[eQ];by_cases h:k=u.1;{rw[ab h];refine ⟨?_,?_⟩;{rw[zd,zk];exact ⟨by rw[h];exact b.1,b.2⟩};intro x i;simp only[zd,zb]at i ⊢;rcases i with c|c;{exact .inl c};exact .inr (.inr c)};rw[aa h];have⟨c,f⟩:=ih b.2;refine ⟨?_,?_⟩;{rw[zd,zk];refine ⟨λg=>?_,c⟩;rcases f _ g with e|e;{exact h e.symm};exact b.1 e};intro x i;simp only[zd,zb]at i ⊢;rcases i with d|d;{exact .inr (.inl d)};rcases f _ d with e|e;{exact .inl e};exact .inr (.inr e)
def Pc:∀(L:fB),(L.map (·.2.2)).Nodup->a ∉ L.map (·.2.2)->((eQ L k n a).map (·.2.2)).Nodup/\∀x∈(eQ L k n a).map (·.2.2),x=a\/x∈L.map (·.2.2):=by intro L;induction L with|nil=>intro _ _;simp[eQ]|cons u us ih=>intro d c;rw[zd,zk]at d;simp only[zd,zb,aF]at c;simp only[eQ];by_cases h:k=u.1;{rw[ab h];refine ⟨?_,?_⟩;{rw[zd,zk];exact ⟨c.2,d.2⟩};intro x j;simp only[zd,zb]at j ⊢;rcases j with b|b;{exact .inl b};exact .inr (.inr b)};rw[aa h];have⟨b,g⟩:=ih d.2 c.2;refine ⟨?_,?_⟩;{rw[zd,zk];refine ⟨λi=>?_,b⟩;rcases g _ i with e|e;{exact c.1 e.symm};exact d.1 e};intro x j;simp only[zd,zb]at j ⊢;rcases j with f|f;{exact .inr (.inl f)};rcases g _ f with e|e;{exact .inl e};exact .inr (.inr e)
def DT(L:fB)(k:bJ):(kh L k=.bA/\jg L k=[])\/∃t∈L,t.1=k/\kh L k=.slice t.2.2 0 t.2.1.length 1/\jg L k=t.2.1:=by unfold kh jg;cases h:L.find? (λt=>decide (k=t.1))with|none=>exact .inl ⟨rfl,rfl⟩|some t=>have a:=List.find?_some h;exact .inr ⟨t,List.mem_of_find?_eq_some h,by simpa using (by simpa using a:k=t.1).symm,rfl,rfl⟩
def Pd{L:fB}(q:(L.map (·.1)).Nodup)(p:(L.map (·.2.2)).Nodup):∀t∈L,∀u∈L,t.2.2=u.2.2->t=u:=by intro t n u m e;have⟨i,hi,g⟩:=q4.1 n;have⟨j,o,f⟩:=q4.1 m;have c:i=j:=(by have b:i<(L.map (·.2.2)).length:=(by simpa using hi);have a:j<(L.map (·.2.2)).length:=(by simpa using o);have d:=qo.1 p;have k:(L.map (·.2.2))[i]=(L.map (·.2.2))[j]:=(by simp only[List.getElem_map,g,f,e]);rcases Nat.lt_trichotomy i j with h|h|h;{exact aw k (d i j b a h)};{exact h};exact aw k.symm (d j i a b h));subst c;rw[<- g,<- f]
mutual
def aX.ok:aX->Prop
 | .mk k d xs=>0<=k/\k<256/\d.fit/\xs.length<2^62/\aX.oks xs
def aX.oks:List aX->Prop
 | []=>True
 | r::rs=>r.ok/\aX.oks rs
end
def aX.kd5(l:List aX):aX.oks l↔∀r∈l,r.ok:=by induction l with|nil=>simp[aX.oks]|cons r rs ih=>simp[aX.oks,ih]
def aX.EF{d:bC}{xs:List aX}:(aX.mk n d xs).ok↔0<=n/\n<256/\d.fit/\xs.length<2^62/\∀r∈xs,r.ok:=by simp only[aX.ok,aX.kd5]
structure bc.Ok (p:bc):Prop where
 name:p.name.length<2^62
 bI:p.bI.length<2^62
 bB:p.bB.fit
 dZ:p.ba.length<2^62/\∀d∈p.ba,d.fit
 pj:p.dh.length<2^62/\∀d∈p.dh,d.fit
 files:p.files.length<2^62/\∀s∈p.files,s.length<2^62
 rich:∀x∈p.bx,x.2.length<2^62/\∀r∈x.2,r.ok
def cF.Ok (r:cF):Prop:=r.br.length<2^62/\∀p∈r.br,p.Ok
def big (d:bC):Bool:=decide (500<d.name.length+d.bB.cz.length)||decide (500<d.bB.rel.length)
mutual
def oX:aX->Nat->Nat×Bool
 | .mk _ _ xs,deep=>if 20<deep\/100<xs.length then (0,true) else qL xs deep 0
def qL:List aX->Nat->Nat->Nat×Bool
 | [],_,n=>(n,false)
 | r::rs,deep,n=>if big r.dep=true then (0,true) else
  if (oX r (deep+1)).2=true\/2000<n+1+(oX r (deep+1)).1 then (0,true) else qL rs deep (n+1+(oX r (deep+1)).1)
end
def qM (l:List aX)(deep:Nat):Nat×Bool:=if 20<deep\/100<l.length then (0,true) else qL l deep 0
def LP(r:aX)(a:Nat):oX r a=qM r.args a:=by cases r;simp only[oX,qM,aX.args];rfl
def tS:List (List aX)->Nat->Bool|[],_=>false|l::ls,n=>if (qM l 0).2=true\/2000<n+(qM l 0).1 then true else tS ls (n+(qM l 0).1)
def rS (p:bc):List (List aX):=[p.bT,p.conflicts,p.iE,p.fJ,p.bE,p.iz]
def kZ(p:bc):Bool :=decide (100<p.ba.length)||(decide (100<p.dh.length)||(decide (100<p.files.length)||(decide (1000<p.name.length)||(decide (1000<p.bI.length)||(decide (1000<p.bB.cz.length)||(decide (1000<p.bB.rel.length)||tS (rS p) 0))))))
def Zf:∀(l:List aX)(a n:Nat),n<=2000->(qL l a n).1<=2000:=by intro l;induction l with|nil=>intro a n h;simpa [qL] using h|cons r rs ih=>intro a n h;simp only[qL];split;{omega};split;{omega};exact ih _ _ om
def NK(l:List aX)(a:Nat):(qM l a).1<=2000:=by unfold qM;split;{omega};exact Zf _ _ _ om
def rB:Nat->List cF->List ey|_,[]=>[]|i,r::rs=>rowsOf r.br i r.priority++rB (i+1) rs
def Sg:∀(b:List cF)(i:Nat)(st:List ey×eP)(a:List ey×eP),nY i b st=some a->a.1=st.1++rB i b:=by intro b;induction b with|nil=>intro i st a h;simp only[nY,Option.some.injEq]at h;subst h;simp[rB]|cons r b ih=>intro i st a h;simp only[nY]at h;split at h;{cases h};rw[ih _ _ _ h];simp[rB]
def yT{a:List cF}{a7:List bc}{p:cK}(h:iq a a7=.inl p):p.bx=rowsOf a7 (-1) 1025++rB 0 a/\p.a7=a7.length:=by unfold iq at h;split at h;{cases h};split at h;{cases h};split at h;{rename_i bx nm b;cases h;exact ⟨Sg _ _ _ _ b,rfl⟩};cases h
def Zg{a:List cF}{a7:List bc}(h:iq a a7=.inr n):n=40\/n=4:=by unfold iq at h;split at h;{cases h;exact .inl rfl};split at h;{cases h;exact .inr rfl};split at h;{cases h};cases h;exact .inr rfl
end Go.Id.Md
namespace Go.Id.Md
open Go Go.Id
def dE:eP->bJ->List Int|[],_=>[]|t::ts,k=>if k=t.1 then t.2 else dE ts k
def KN (nm:eP):Prop:=(nm.map (·.1)).Nodup
variable {k:bJ}{n:Int}
def yg{nm:eP}(h:KN nm)(t:bJ×List Int):t∈gu nm k n↔(t∈nm/\t.1≠k)\/t=(k,dE nm k++[n]):=by induction nm with|nil=>simp[gu,dE]|cons u us ih=>have f:u.1 ∉ us.map (·.1)/\KN us:=(by simpa [KN] using h);simp only[gu,dE];by_cases e:k=u.1;{rw[ab e,ab e];subst e;simp only[zb];constructor;{rintro (rfl|a);{exact .inr rfl};exact .inl ⟨.inr a,λe=>f.1 (zo.2 ⟨t,a,e⟩)⟩};rintro (⟨rfl|a,b⟩|rfl);{exact aw rfl b};{exact .inr a};exact .inl rfl};rw[aa e,aa e];simp only[zb,ih f.2];constructor;{rintro (rfl|⟨d,c⟩|rfl);{exact .inl ⟨.inl rfl,λg=>e g.symm⟩};{exact .inl ⟨.inr d,c⟩};exact .inr rfl};rintro (⟨rfl|d,c⟩|rfl);{exact .inl rfl};{exact .inr (.inl ⟨d,c⟩)};exact .inr (.inr rfl)
def UY:∀ {nm:eP},∀x∈(gu nm k n).map (·.1),x=k\/x∈nm.map (·.1):=by intro nm;induction nm with|nil=>intro x a;simpa [gu] using a|cons u us ih=>intro x a;simp only[gu]at a;split at a;{rename_i e;simp only[zd,zb]at a ⊢;rcases a with h|h;{exact .inl h};exact .inr (.inr h)};simp only[zd,zb]at a ⊢;rcases a with h|h;{exact .inr (.inl h)};rcases ih x h with h|h;{exact .inl h};exact .inr (.inr h)
def mN{nm:eP}(h:KN nm):KN (gu nm k n):=by induction nm with|nil=>simp[KN,gu]|cons u us ih=>have b:u.1 ∉ us.map (·.1)/\KN us:=(by simpa [KN] using h);simp only[gu];split;{rename_i e;subst e;exact h};rename_i e;show ((u::gu us k n).map (·.1)).Nodup;rw[zd,zk];refine ⟨λc=>?_,ih b.2⟩;rcases UY _ c with a|a;{exact e a.symm};exact b.1 a
variable {a:eP}
def KN.nd(h:KN a):a.Nodup:=by induction a with|nil=>exact z5|cons u us ih=>have c:u.1 ∉ us.map (·.1)/\KN us:=(by simpa [KN] using h);exact zk.2 ⟨λb=>c.1 (zo.2 ⟨u,b,rfl⟩),ih c.2⟩
def KN.perm{nm:eP}(h:KN nm)(p:nm.Perm a):KN a:=(p.map (λx:bJ×List Int=>x.1)).nodup_iff.1 h
def LQ{nm:eP}(h:KN nm){t:bJ×List Int}(a:t∈nm):dE nm t.1=t.2:=by induction nm with|nil=>cases a|cons u us ih=>have b:u.1 ∉ us.map (·.1)/\KN us:=(by simpa [KN] using h);simp only[dE];rcases zb.1 a with rfl|a;{rw[ab rfl]};rw[aa (λe=>b.1 (zo.2 ⟨t,a,e⟩))];exact ih b.2 a
def Ln(h:k ∉ a.map (·.1)):dE a k=[]:=by induction a with|nil=>rfl|cons u us ih=>simp only[zd,zb,aF]at h;simp only[dE];rw[aa h.1];exact ih h.2
def Lo{d:eP}(h:KN a)(p:a.Perm d)(k:bJ):dE a k=dE d k:=by by_cases b:k∈a.map (·.1);{obtain ⟨t,c,rfl⟩:=zo.1 b;rw[LQ h c,LQ (h.perm p) (p.mem_iff.1 c)]};rw[Ln b,Ln (λe=>b ((p.map (·.1)).mem_iff.2 e))]
def Dw(h:KN a)(k:bJ)(n:Int)(j:bJ):dE (gu a k n) j=if j=k then dE a k++[n] else dE a j:=by induction a with|nil=>simp only[gu,dE];split<;>rfl|cons u us ih=>have b:u.1 ∉ us.map (·.1)/\KN us:=(by simpa [KN] using h);simp only[gu,dE];by_cases e:k=u.1;{rw[ab e,ab e];simp only[dE];by_cases c:j=k;{rw[ab c,ab c]};rw[aa c,aa c,aa (λx=>c (x.trans e.symm))]};rw[aa e,aa e];simp only[dE,ih b.2];by_cases c:j=k;{rw[ab c,ab c,aa (λx=>e (c.symm.trans x))]};rw[aa c,aa c]
def Fm{b:eP}(h:KN a)(p:a.Perm b):(gu a k n).Perm (gu b k n):=by refine (z4 (mN h).nd (mN (h.perm p)).nd).2 λt=>?_;rw[yg h,yg (h.perm p),Lo h p,p.mem_iff]
variable {j:bJ}
def UZ(h:KN a):(gu (gu a k n) j n).Perm (gu (gu a j n) k n):=by by_cases e:k=j;{subst e;exact .refl _};refine (z4 (mN (mN h)).nd (mN (mN h)).nd).2 λt=>?_;rw[yg (mN h),yg (mN h),yg h,yg h,Dw h,Dw h,aa (λx=>e x.symm),aa e];constructor;{rintro (⟨⟨c,b⟩|rfl,d⟩|rfl);{exact .inl ⟨.inl ⟨c,d⟩,b⟩};{exact .inr rfl};exact .inl ⟨.inr rfl,λx=>e x.symm⟩};rintro (⟨⟨c,b⟩|rfl,d⟩|rfl);{exact .inl ⟨.inl ⟨c,d⟩,b⟩};{exact .inr rfl};exact .inl ⟨.inr rfl,e⟩
def oo (nm:eP)(ks:List bJ)(n:Int):eP:=ks.foldl (λm k=>gu m k n) nm
def MH:∀ {ks:List bJ}{nm:eP},KN nm->KN (oo nm ks n)|[],_,h=>h|_::ks,_,h=>MH (ks:=ks) (mN h)
def Lp:∀(ks:List bJ){nm a:eP},KN nm->nm.Perm a->(oo nm ks n).Perm (oo a ks n)|[],_,_,_,p=>p|_::ks,_,_,h,p=>Lp ks (mN h) (Fm h p)
def SM{ks a:List bJ}(p:ks.Perm a):∀ {nm:eP},KN nm->(oo nm ks n).Perm (oo nm a n):=by induction p with|nil=>intro nm _;exact .refl _|cons x _ ih=>intro nm h;exact ih (mN h)|swap x y l=>intro nm h;exact Lp l (mN (mN h)) (UZ h)|trans p1 _ ih1 ih2=>intro nm h;exact (ih1 h).trans (ih2 h)
def TF (nm:eP)(ks:List bJ)(k:bJ)(n:Int):oo nm (ks++[k]) n=gu (oo nm ks n) k n:=by simp[oo]
def ld (l:List bJ)(k:bJ):List bJ:=if k∈l then l else l++[k]
def j6 (p:bc):List bJ:=p.files.foldl ld ((p.ba.map (·.name)).foldl ld [p.name])
def oe (nm:eP)(ds:List bJ)(n:Int):eP:=ds.foldl (λm k=>if n∈dE m k then m else gu m k n) nm
def K9(nm:eP)(ks:List bJ)(k:bJ)(n:Int):oe nm (ks++[k]) n=if n∈dE (oe nm ks n) k then oe nm ks n else gu (oe nm ks n) k n:=by unfold oe;rw[List.foldl_append];rfl
structure Index where
 all:List bc
 dZ:eP
 names:eP
 over:eP
def Index.v (x:Index):IV:=.bj [.a8 (x.all.map bc.cs),.cH (dH x.dZ),.cH (dH x.names),.cH (dH x.over)]
def En (x:Index)(n:Nat)(p:bc):Index:=⟨x.all++[p],oo x.dZ (j6 p) n,gu x.names p.name n,oe x.over (p.dh.map (·.name)) n⟩
def idxFrom(x:Index):Nat->List bc->Index|_,[]=>x|n,p::ps=>idxFrom (En x n p) (n+1) ps
def bH (l:List bc):Index:=idxFrom ⟨[],[],[],[]⟩ 0 l
def SN(ps:List bc)(p:bc):∀(x:Index)(n:Nat),idxFrom x n (ps++[p])=En (idxFrom x n ps) (n+ps.length) p:=by induction ps with|nil=>intro x n;rfl|cons q qs ih=>intro x n;show idxFrom _ (n+1) (qs++[p])=_;rw[ih,zy];congr 1;omega
def U0(L:fB)(k:bJ):dE (eN L) k=jg L k:=by induction L with|nil=>rfl|cons t ts ih=>simp only[eN,zd,dE,jg,ql]at ih ⊢;by_cases h:k=t.1;{simp[h]};simp only[h,aD,ae]at ih ⊢;exact ih
def bL (q:bc->Bool)(l:List bc):List Int:=((zu l.length).filter λn=>q (l.getD n default)).map λ(n:Nat)=>(n:Int)
def xN(q:bc->Bool)(l:List bc)(p:bc):bL q (l++[p])=bL q l++if q p then [(l.length:Int)] else []:=by unfold bL;rw[ze,List.length_singleton,zp,qf,zr];congr 1;{congr 1;refine qh λn a=>?_;have h:=zh.1 a;simp[zg,List.getElem?_append,h]};have e:(l++[p]).getD l.length default=p:=(by simp[zg]);simp only[List.filter_cons,List.filter_nil,e];split<;>rfl
def oG{q:bc->Bool}{l:List bc}:n∈bL q l↔∃m:Nat,n=m/\m<l.length/\q (l.getD m default)=true:=by unfold bL;rw[zo];constructor;{rintro ⟨m,c,rfl⟩;have⟨b,a⟩:=zx.1 c;exact ⟨m,rfl,zh.1 b,a⟩};rintro ⟨m,rfl,b,a⟩;exact ⟨m,zx.2 ⟨zh.2 b,by simpa using a⟩,rfl⟩
def lY(q:bc->Bool)(l:List bc):(bL q l).length<=l.length:=by unfold bL;rw[zz];exact qy (qc _ _) (by simp)
def KZ(q r:bc->Bool)(l:List bc):(bL q l).filter (λn=>r (l.getD n.toNat default))=bL (λp=>q p&&r p) l:=by unfold bL;rw[List.filter_map,List.filter_filter];congr 1;refine qh λn _=>?_;show (r (l.getD ((n:Int)).toNat default)&&q (l.getD n default))=_;rw[z8,qu]
def La{q r:bc->Bool}{l:List bc}(h:∀p∈l,q p=r p):bL q l=bL r l:=by unfold bL;congr 1;refine qh λn b=>?_;have a:=zh.1 b;refine h _ ?_;rw[zg,qq a];exact zl a
def TG:∀(ks:List bJ){nm:eP},KN nm->ks.Nodup->∀j,dE (oo nm ks n) j=dE nm j++if j∈ks then [n] else []:=by intro ks;induction ks with|nil=>intro nm _ _ j;simp[oo]|cons k ks ih=>intro nm h a j;have⟨c,b⟩:=zk.1 a;show dE (oo (gu nm k n) ks n) j=_;rw[ih (mN h) b,Dw h];by_cases e:j=k;{subst e;simp[c]};simp[e]
def U1:∀(ks:List bJ){nm:eP},KN nm->KN (oe nm ks n):=by intro ks;induction ks with|nil=>intro nm h;exact h|cons k ks ih=>intro nm h;show KN (oe (if n∈dE nm k then nm else gu nm k n) ks n);split;{exact ih h};exact ih (mN h)
def SP:∀(ks:List bJ){nm:eP},KN nm->∀j,dE (oe nm ks n) j=dE nm j++if j∈ks/\n ∉ dE nm j then [n] else []:=by intro ks;induction ks with|nil=>intro nm _ j;simp[oe]|cons k ks ih=>intro nm h j;show dE (oe (if n∈dE nm k then nm else gu nm k n) ks n) j=_;by_cases a:n∈dE nm k;{rw[ab a,ih h];by_cases e:j=k;{subst e;simp[a]};simp[e]};rw[aa a,ih (mN h),Dw h];by_cases e:j=k;{subst e;simp[a]};simp[e]
def U2{l:List bJ}:j∈ld l k↔j∈l\/j=k:=by unfold ld;split;{rename_i h;exact ⟨.inl,λa=>a.elim id λe=>e▸h⟩};simp
def Lq:∀(ks l:List bJ),k∈ks.foldl ld l↔k∈l\/k∈ks:=by intro ks;induction ks with|nil=>intro l;simp|cons j ks ih=>intro l;rw[qk,ih,U2,zb,or_assoc]
def U3{l:List bJ}(h:l.Nodup)(k:bJ):(ld l k).Nodup:=by unfold ld;split;{exact h};rename_i d;rw[zn];exact ⟨h,by simp,λa f b c e=>by simp at c;subst c;subst e;exact d f⟩
def HV:∀(ks:List bJ){l:List bJ},l.Nodup->(ks.foldl ld l).Nodup|[],_,h=>h|k::ks,_,h=>HV ks (U3 h k)
def Zh (p:bc):(j6 p).Nodup:=HV _ (HV _ (by simp))
def Zi(p:bc)(j:bJ):j∈j6 p↔j=p.name\/(∃d∈p.ba,d.name=j)\/j∈p.files:=by unfold j6;rw[Lq,Lq];simp[or_assoc]
structure xq (x:Index) (l:List bc):Prop where
 all:x.all=l
 kp:KN x.dZ
 kn:KN x.names
 ko:KN x.over
 dZ:∀j,dE x.dZ j=bL (λp=>decide (j∈j6 p)) l
 names:∀j,dE x.names j=bL (λp=>decide (p.name=j)) l
 over:∀j,dE x.over j=bL (λp=>decide (∃d∈p.dh,d.name=j)) l
def xq.add {x:Index}{l:List bc}(h:xq x l)(p:bc):xq (En x l.length p) (l++[p]) where
 all:=by show x.all++[p]=_;rw[h.all]
 kp:=MH h.kp
 kn:=mN h.kn
 ko:=U1 _ h.ko
 dZ:=λj=>by
  show dE (oo x.dZ (j6 p) _) j=_;rw[TG _ h.kp (Zh p),h.dZ,xN];simp
 names:=λj=>by
  show dE (gu x.names p.name _) j=_;rw[Dw h.kn,h.names,h.names,xN];by_cases e:j=p.name
  .subst e;simp
  .have c:¬p.name=j:=λh=>e h.symm
   simp[e,c]
 over:=λj=>by
  show dE (oe x.over _ _) j=_;rw[SP _ h.ko,h.over,xN]
  have a:(l.length:Int) ∉ bL (λp=>decide (∃d∈p.dh,d.name=j)) l:=λb=>by
   have⟨m,e,f,_⟩:=oG.1 b;omega
  simp[a]
def U4:∀(ps:List bc){x:Index}{l:List bc},xq x l->xq (idxFrom x l.length ps) (l++ps):=by intro ps;induction ps with|nil=>intro x l h;rw[List.append_nil];exact h|cons p ps ih=>intro x l h;have:=ih (h.add p);rw[List.append_assoc]at this;simpa [idxFrom] using this
def sK(l:List bc):xq (bH l) l:=by have h0:xq ⟨[],[],[],[]⟩ []:=⟨rfl,z5,z5,z5,λ_=>by simp[dE,bL],λ_=>by simp[dE,bL],λ_=>by simp[dE,bL]⟩;exact U4 l h0
variable {c:bc}{e:bC}
def MJ(h:named c e=true):c.name=e.name:=by unfold named meets own at h;simp only[za,ah]at h;exact h.1
def SQ(h:ba c e=true):e.name∈j6 c:=by unfold ba at h;rw[Zi];simp only[qb,za,ah,zw]at h;rcases h with (h|⟨a,b,h⟩)|⟨_,h⟩;{exact .inl (MJ h).symm};{unfold meets at h;simp only[za,ah]at h;exact .inr (.inl ⟨a,b,h.1⟩)};exact .inr (.inr (by simpa using h))
def jU (l:List bc)(d:bC):List Int:=bL (λp=>ba p d) l
def gU (l:List bc)(d:bC):List Int:=bL (λp=>named p d) l
def Lb(l:List bc)(d:bC):(dE (bH l).dZ d.name).filter (λn=>ba (l.getD n.toNat default) d)=jU l d:=by rw[(sK l).dZ];refine (KZ (λp=>decide (d.name∈j6 p)) (λp=>ba p d) l).trans ?_;exact La λp _=>by cases h:ba p d with|false=>simp|true=>simp[SQ h]
def NL(l:List bc)(d:bC):(dE (bH l).names d.name).filter (λn=>named (l.getD n.toNat default) d)=gU l d:=by rw[(sK l).names];refine (KZ (λp=>decide (p.name=d.name)) (λp=>named p d) l).trans ?_;exact La λp _=>by cases h:named p d with|false=>simp|true=>simp[MJ h]
def Ss:∀(c:List cF)(i:Nat)(st:List ey×eP)(a:List ey×eP),nY i c st=some a->∀r∈c,r.br.all eh=true:=by intro c;induction c with|nil=>intro i st a _ r b;cases b|cons x xs ih=>intro i st a h r b;simp only[nY]at h;split at h;{cases h};rename_i hc;rcases zb.1 b with rfl|b;{cases d:r.br.all eh with|true=>rfl|false=>exact aw (.inr (.inr d)) hc};exact ih _ _ _ h r b
variable {b:List cF}{p:cK}
def Fo{a7:List bc}(h:iq b a7=.inl p):b.length<=16/\a7.length+fA b<=256/\a7.all eh=true/\∀r∈b,r.br.all eh=true:=by unfold iq at h;split at h;{cases h};rename_i hc;split at h;{cases h};rename_i c;split at h;{rename_i bx nm a;exact ⟨om,om,by simpa using c,Ss _ _ _ _ a⟩};cases h
def LR(l:List bc)(a b:Int):(rowsOf l a b).map (·.jx)=l:=by induction l with|nil=>rfl|cons x xs ih=>show x::(rowsOf xs a b).map (·.jx)=_;rw[ih]
def cE (p:cK):List bc:=p.bx.map (·.jx)
def St:∀(a:List cF)(i:Nat),(rB i a).map (·.jx)=a.flatMap (·.br):=by intro a;induction a with|nil=>intro i;rfl|cons r a ih=>intro i;simp only[rB,zr,ih,LR,z0]
def WY:∀(a:List cF),(a.flatMap (·.br)).length=fA a:=by intro a;induction a with|nil=>rfl|cons r a ih=>simp only[z0,ze,ih];rfl
def yh{a7:List bc}(h:iq b a7=.inl p):cE p=a7++b.flatMap (·.br):=by unfold cE;rw[(yT h).1,zr,St];congr 1;exact LR _ _ _
def NM{a7:List bc}(h:iq b a7=.inl p):p.bx.length<=256:=by have e:p.bx.length=(cE p).length:=(by simp[cE]);rw[e,yh h,ze,WY];exact (Fo h).2.1
def F3{a:List cF}{a7:List bc}(h:iq a a7=.inl p):∀x∈cE p,eh x=true/\(x∈a7\/∃r∈a,x∈r.br):=by intro x b;rw[yh h]at b;have⟨_,_,f,e⟩:=Fo h;rcases zj.1 b with b|b;{exact ⟨zm.1 f x b,.inl b⟩};have⟨r,d,c⟩:=zi.1 b;exact ⟨zm.1 (e r d) x c,.inr ⟨r,d,c⟩⟩
def dg.ku (e:dg):Prop:=e.cz.length<=64/\e.rel.length<=64
def NN(h:mh k=true):k.length<=64:=by unfold mh at h;simp only[za,ah]at h;exact h.1.2
def NO{e:dg}{b:Bool}(h:oO e b=true):e.ku:=by unfold oO at h;simp only[za,qb,ah]at h;refine ⟨NN h.1.2,?_⟩;rcases h.2 with h|h;{exact NN h};have:=List.isEmpty_iff.1 h.2;rw[this];exact Nat.zero_le _
def I7(h:fK e=true):0<=e.op/\e.op<256/\e.bB.ku/\e.name.length<=64:=by unfold fK at h;simp only[za]at h;have⟨⟨b,d⟩,a⟩:=h;have f:e.name.length<=64:=(by unfold kG at b;simp only[za,ah]at b;exact b.1.1.2);have c:0<=e.op/\e.op<256:=(by unfold ue at d;simp only[List.contains_iff_mem,zb,qi,aj]at d;omega);refine ⟨c.1,c.2,?_,f⟩;split at a;{have:e.bB=qS:=(by simpa using a);rw[this];exact ⟨by decide,by decide⟩};simp only[za]at a;exact NO a.2
structure bc.nV (p:bc):Prop where
 name:p.name.length<=64
 bB:p.bB.ku
 dZ:p.ba.length<=32/\∀d∈p.ba,0<=d.op/\d.op<256/\d.bB.ku/\d.name.length<=64
 pj:p.dh.length<=32/\∀d∈p.dh,0<=d.op/\d.op<256/\d.bB.ku/\d.name.length<=64
 files:p.files.length<=32
def NP(h:eh c=true):c.nV:=by unfold eh at h;simp only[za,ah]at h;obtain ⟨⟨⟨⟨⟨⟨⟨⟨⟨⟨⟨⟨⟨⟨e,_⟩,j⟩,_⟩,_⟩,i,p⟩,g,b⟩,f,_⟩,_⟩,_⟩,_⟩,_⟩,_⟩,_⟩,_⟩:=h;refine ⟨?_,NO j,⟨i,λd a=>I7 (zm.1 p d a)⟩,⟨g,λd a=>I7 (zm.1 b d a)⟩,f⟩;unfold kG at e;simp only[za,ah]at e;exact e.1.1.2
structure dS where
 kind:Int
 dep:bC
 deriving DecidableEq,Inhabited
structure ei where
 kind:Int
 n:Int
 deriving DecidableEq,Inhabited
structure fN where
 b9:Int
 bI:Bool
 bP:List dS
 dI:List ei
 cO:Int
def dS.cs (j:dS):List IV:=[.int .u8 j.kind,.str j.dep.name,.int .u8 j.dep.op,.int .i64 j.dep.bB.dG,.str j.dep.bB.cz,.str j.dep.bB.rel]
def ei.cs (e:ei):List IV:=[.int .u8 e.kind,.int .i64 e.n]
abbrev fX (l:List dS):IV:=.a8 (l.map dS.cs)
abbrev jB (l:List ei):IV:=.a8 (l.map ei.cs)
def fN.cs (r:fN):List IV:=[.int .u8 r.b9,.bool r.bI,fX r.bP,jB r.dI,.int .i64 r.cO]
def da (q:Nat->Bool)(k:Nat):List Int:=((zu k).filter q).map λ(n:Nat)=>(n:Int)
def ru(q:Nat->Bool)(k:Nat):da q (k+1)=da q k++if q k then [(k:Int)] else []:=by unfold da;rw[zp,qf,zr];congr 1;simp only[List.filter_cons,List.filter_nil];split<;>rfl
def pB{q:Nat->Bool}{k:Nat}:n∈da q k↔∃m:Nat,n=m/\m<k/\q m=true:=by unfold da;rw[zo];constructor;{rintro ⟨m,c,rfl⟩;have⟨b,a⟩:=zx.1 c;exact ⟨m,rfl,zh.1 b,a⟩};rintro ⟨m,rfl,b,a⟩;exact ⟨m,zx.2 ⟨zh.2 b,a⟩,rfl⟩
def iF(q:Nat->Bool)(k:Nat):(da q k).length<=k:=by unfold da;rw[zz];exact qy (qc _ _) (by simp)
def I8(q:Nat->Bool)(k:Nat):(da q k).Pairwise (· < ·):=by unfold da;refine z1.map (R:=λ(a b:Nat)=>a<b) _ (λa b h=>by show (a:Int)<b;omega) ?_;exact z1.filter _ List.pairwise_lt_range
def ln (a:Int):Bool:=gH a&&!decide (a=1)
def BN (a b:Int):Bool:=ln a&&ln b&&!decide (a=b)
def rC (a b:Int):Bool:=gH a&&gH b&&!BN a b
def gI(m a:Int):Int :=if m=2 then (if a=1 then 2 else if a=2 then 1 else if a=3 then 3 else 0) else if m=3 then (if a=1 then 2 else if a=3 then 1 else 0) else if m=4 then (if a=1 then 2 else if a=4 then 1 else 0) else 0
def Hh (m a:Int):Bool:=decide (0<gI m a)
structure bg where
 p:cK
 r:fN
namespace bg
variable (a:bg)
def l:List bc:=cE a.p
def pk (n:Int):bc:=a.l.getD n.toNat default
def jb (n:Int):dS:=a.r.bP.getD n.toNat default
def is (n:Int):Bool:=decide (0<=n)&&decide (n<a.l.length)
def a7 (n:Int):Bool:=a.is n&&decide (n<a.p.a7)
def lE (n:Int):Bool:=decide (0<=n)&&decide (n<a.r.bP.length)
def fits (n:Int):Bool:=a.is n&&Hh a.r.b9 (a.pk n).b9
def Ql (p q:bc):Bool:=decide (p.name=q.name)&&!(BN p.b9 q.b9&&decide (fC p.bB q.bB=0))
def twins (n m:Int):Bool:=a.is n&&a.is m&&!decide (n=m)&&Ql (a.pk n) (a.pk m)
def oJ (k n:Int):Bool:=decide ((⟨k,n⟩:ei)∈a.r.dI)
def dropped (n:Int):Bool:=a.lE n&&a.oJ 1 n
def rJ (k n:Int):Bool:=(zu a.r.bP.length).any λi=>decide ((a.jb i).kind=k)&&!a.dropped i&&decide (n∈gU a.l (a.jb i).dep)
def goes (i:Int):Bool:=a.a7 i&&(a.rJ 2 i||a.oJ 2 i)
def ug (bI down other:Bool)(old q:bc):Bool:=decide (q.name=old.name)&&(down||decide (0<=fC q.bB old.bB))&&(other||rC q.b9 old.b9)&&(bI||decide (q.bI=old.bI))
def HG (i:Int)(q:bc):Bool:=ug a.r.bI (a.oJ 3 i||a.rJ 4 i) (a.oJ 4 i) (a.pk i) q
def eB (i:Int):List Int:=if a.a7 i then da (λn=>decide ((n:Int)=i)||a.HG i (a.pk n)||(!decide ((n:Int)=i)&&dh (a.pk n) (a.pk i))) a.l.length else []
def mG (i:Int):List Int:=(a.eB i).filter λn=>!(a.a7 n || !a.fits n)
def bG (j:Int):List Int:=if a.lE j then (if (a.jb j).kind=1 then jU a.l (a.jb j).dep else if (a.jb j).kind=2 then gU a.l (a.jb j).dep else (gU a.l (a.jb j).dep).filter λn=>a.a7 n) else []
def some (state l:List Int):Bool:=l.any λn=>decide (n∈state)
def cs:List IV:=[a.p.v,(bH a.l).v,.int .u8 a.r.b9,.bool a.r.bI,fX a.r.bP,jB a.r.dI,.int .i64 a.r.cO,.a8 (a.l.map bc.cs)]
def v:IV:=.bj a.cs
end bg
def og (e:ei)(bP a7:Int):Bool:=decide (1<=e.kind)&&decide (e.kind<=4)&&decide (0<=e.n)&&decide (e.n<if e.kind=1 then bP else a7)
def lL (j:dS):Bool:=decide (1<=j.kind)&&decide (j.kind<=4)&&fK j.dep
def fP(r:fN)(a7:Int):Int :=if ln r.b9=false\/r.cO<0\/1099511627776<r.cO then 1 else if 64<r.bP.length\/64<r.dI.length then 40 else if r.bP.all lL=false then 4 else if r.dI.all (λe=>og e r.bP.length a7)=false then 5 else 0
def Dp (p:cK)(r:fN):IV:=if fP r p.a7=0 then .tuple [(bg.mk p r).v,.int .i64 0] else .tuple [.eI,.int .i64 (fP r p.a7)]
def F4(a b:Int):cJ b a=- cJ a b:=by unfold cJ;split<;>split<;>(try split)<;>(try split)<;>omega
def p8{b:Int}:cJ n b=0↔n=b:=by unfold cJ;split;{constructor;{intro h;omega};intro h;omega};split;{simp_all};constructor;{intro h;omega};intro h;contradiction
def F5:∀(x y:List UInt8),Op.bytesLess x y=decide (x<y)|[],[]=>by simp[Op.bytesLess]|_::_,[]=>by simp[Op.bytesLess]|[],_::_=>by simp[Op.bytesLess]|a::x,b::y=>by simp only[Op.bytesLess,F5 x y,List.cons_lt_cons_iff];by_cases h:a<b;{simp[h]};by_cases c:a=b;{subst c;simp};simp[h,c]
def Q9(a b:bJ):Op.bytesLess a b=true/\Op.bytesLess b a=false/\a≠b\/a=b/\Op.bytesLess a b=false\/Op.bytesLess b a=true/\Op.bytesLess a b=false/\a≠b:=by simp only[F5,ah,au];rcases ja (a<b)with h|h;{exact .inl ⟨h,λc=>List.lt_asymm h c,λe=>List.lt_irrefl a (by rw[<- e]at h;exact h)⟩};rcases ja (b<a)with c|c;{exact .inr (.inr ⟨c,h,λe=>List.lt_irrefl a (by rw[<- e]at c;exact c)⟩)};exact .inr (.inl ⟨List.le_antisymm (q0.1 c) (q0.1 h),h⟩)
def NQ(a b:bJ):ju b a=- ju a b:=by unfold ju;rcases Q9 a b with ⟨f,d,c⟩|⟨rfl,h⟩|⟨f,d,c⟩;{rw[f,d,aa (by simp),aa (λe=>c e.symm),ab rfl];rfl};{rw[h];simp};rw[f,d,ab rfl,aa (by simp),aa c]
def Lr(a b:Part):ft b a=- ft a b:=by unfold ft;simp only[F4 (a.kind:Int) b.kind,F4 (a.s.length:Int) b.s.length,NQ a.s b.s];have e:(b.kind=5/\a.kind=5)↔(a.kind=5/\b.kind=5):=And.comm;by_cases f:cJ (a.kind:Int) b.kind=0;{simp only[f,Int.neg_zero,ne_eq,not_true_eq_false,ae,e];by_cases c:a.kind=5/\b.kind=5;{simp only[c,ai,af];by_cases d:cJ (a.s.length:Int) b.s.length=0;{simp[d]};have g:¬ - cJ (a.s.length:Int) b.s.length=0:=om;simp[d,g]};simp[c]};have c:¬ - cJ (a.kind:Int) b.kind=0:=om;simp[f,c]
def SR:∀(a b:List Part),iS b a=- iS a b:=by intro a;induction a with|nil=>intro b;cases b<;>rfl|cons x a ih=>intro b;cases b with|nil=>rfl|cons y b=>simp only[iS,Lr x y];by_cases h:ft x y=0;{simp[h,ih b]};have c:¬ - ft x y=0:=om;simp[h,c]
def Ib (a b:bJ):jL b a=- jL a b:=SR _ _
def Ic(a b:dg):fC b a=- fC a b:=by unfold fC;rw[F4 a.dG b.dG,Ib a.cz b.cz,Ib a.rel b.rel];by_cases d:cJ a.dG b.dG=0;{by_cases e:jL a.cz b.cz=0;{simp only[d,e,Int.neg_zero,ne_eq,not_true_eq_false,ae];by_cases c:a.rel=[]\/b.rel=[];{rw[ab c,ab c.symm];rfl};rw[aa c,aa (λh=>c h.symm)]};have c:¬ - jL a.cz b.cz=0:=om;simp[d,e,c]};have c:¬ - cJ a.dG b.dG=0:=om;simp[d,c]
namespace bg
variable (a:bg)
def nK(n:Nat):a.is n=decide (n<a.l.length):=by unfold is;have:(0:Int)<=n:=om;simp only[this,aE,qt];exact decide_eq_decide.2 om
def vR(i:Int):(a.eB i).length<=a.l.length:=by unfold eB;split;{exact iF _ _};exact Nat.zero_le _
def Zj{i n:Int}(h:n∈a.eB i):a.a7 i=true/\∃m:Nat,n=m/\m<a.l.length:=by unfold eB at h;split at h;{rename_i hi;have⟨m,e,b,_⟩:=pB.1 h;exact ⟨hi,m,e,b⟩};cases h
def NR{i n:Int}(h:n∈a.mG i):n∈a.eB i/\a.a7 n=false/\a.fits n=true:=by have⟨e,d⟩:=zx.1 h;cases c:a.a7 n<;>cases b:a.fits n<;>simp_all
def NT (i:Int):(a.mG i).length<=a.l.length:=qy (qc _ _) (a.vR i)
end bg
namespace bg
variable (a:bg)
def N1{j n:Int}(h:n∈a.bG j):∃m:Nat,n=m/\m<a.l.length:=by have b:∀ {q:bc->Bool}{n:Int},n∈bL q a.l->∃m:Nat,n=m/\m<a.l.length:=λh=>let ⟨m,e,h1,_⟩:=oG.1 h;⟨m,e,h1⟩;unfold bG at h;split at h;{split at h;{exact b h};split at h;{exact b h};exact b (zx.1 h).1};cases h
variable (x:ei)
variable {x} (hx:x.kind≠1)
include hx
end bg
structure WO {α:Type} (S:α->Prop) (f:α->α->Int):Prop where
 neg:∀a b,f b a=- f a b
 tr:∀a b c,S a->S b->S c->f a b<=0->f b c<=0->f a c<=0
def lex (x y:Int):Int:=if x=0 then y else x
theorem kd6 (x y:Int):lex (-x) (-y)=- lex x y:=by unfold lex;split<;>split<;>omega
variable {d:Type}
theorem WO.lex{S:d->Prop}{f g:d->d->Int}(hf:WO S f)(j:WO S g):WO S λa b=>Md.lex (f a b) (g a b) where
 neg:=λa b=>by show Md.lex (f b a) (g b a)=_;rw[hf.neg,j.neg,kd6]
 tr:=λa b c h e i m k=>by
  have t:=hf.tr a b c h e i;have s:=hf.tr c a b i h e;have r:=hf.tr b c a e i h;have q:=j.tr a b c h e i;have p:=hf.neg a b;have o:=hf.neg b c;have n:=hf.neg a c;unfold Md.lex at *;split at m<;>split at k<;>split<;>omega
theorem WO.of{e:Type}{S:e->Prop}{f:e->e->Int}(hf:WO S f)(g:d->e):WO (λa=>S (g a)) λa b=>f (g a) (g b) where
 neg:=λa b=>hf.neg _ _
 tr:=λa b c j i h=>hf.tr _ _ _ j i h
theorem WO.flip{S:d->Prop}{f:d->d->Int}(hf:WO S f):WO S λa b=>f b a where
 neg:=λa b=>hf.neg b a
 tr:=λa b c h g e j i=>hf.tr c b a e g h i j
theorem WO.sub{S T:d->Prop}{f:d->d->Int}(hf:WO S f)(h:∀a,T a->S a):WO T f:=⟨hf.neg,λa b c i g e=>hf.tr a b c (h a i) (h b g) (h c e)⟩
theorem wN:WO (λ_=>True) cJ where
 neg:=λa b=>F4 a b
 tr:=λa b c _ _ _ e d=>by
  unfold cJ at *;split at e<;>split at d<;>split<;>(try split at e)<;>(try split at d)<;>(try split)<;>omega
theorem Jz:ju k j<=0↔k<=j:=by unfold ju;rcases Q9 k j with ⟨c,e,d⟩|⟨rfl,h⟩|⟨c,e,d⟩;{rw[c,ab rfl];rw[F5,ah]at c;exact ⟨λ_=>List.le_of_lt c,λ_=>by decide⟩};{rw[h];simp[List.le_refl]};rw[e,aa (by simp),aa d];rw[F5,ah]at c;exact ⟨λh=>aw h (by decide),λh=>aw c (q0.2 h)⟩
theorem kv6:WO (λ_=>True) ju where
 neg:=λa b=>NQ a b
 tr:=λa b c _ _ _ e d=>Jz.2 (List.le_trans (Jz.1 e) (Jz.1 d))
def F6 (a b:Part):Int:=lex (cJ a.kind b.kind) (lex (cJ (if a.kind=5 then (a.s.length:Int) else 0) (if b.kind=5 then (b.s.length:Int) else 0)) (ju a.s b.s))
theorem LS(a b:Part):ft a b=F6 a b:=by unfold ft F6 lex;by_cases h:cJ (a.kind:Int) b.kind=0;{have e:=p8.1 h;have d:a.kind=b.kind:=om;simp only[h,ne_eq,not_true_eq_false,ae,af,d];by_cases c:b.kind=5;{simp only[c,ai,af];split<;>simp_all};have z:cJ 0 0=0:=(by decide);simp[c,z]};simp[h]
theorem AD:WO (λ_=>True) ft:=by have h:ft=F6:=(by funext a b;exact LS a b);rw[h];exact (wN.of (λa:Part=>(a.kind:Int))).lex ((wN.of (λa:Part=>if a.kind=5 then (a.s.length:Int) else 0)).lex (kv6.of Part.s))
theorem FJ{a b:Part}(h:ft a b=0):a.kind=b.kind:=by rw[LS]at h;unfold F6 lex at h;split at h;{rename_i e;have:=p8.1 e;omega};contradiction
abbrev kB:Part:=⟨2,[]⟩
theorem vP(x y:Part)(a b:List Part):iS (x::a) (y::b)=lex (ft x y) (iS a b):=by show (if ft x y≠0 then ft x y else iS a b)=_;unfold lex;split<;>simp_all
theorem yi (a:List Part):iS [] a=0:=by cases a<;>rfl
theorem Fp (a:List Part):iS a []=0:=by cases a<;>rfl
theorem Zk:∀(a b c:List Part),(∀x∈a,x.kind≠2)->(∀x∈b,x.kind≠2)->(∀x∈c,x.kind≠2) -> iS (a++[kB]) (b++[kB])<=0->iS (b++[kB]) (c++[kB])<=0->iS (a++[kB]) (c++[kB])<=0:=by have h:∀(x y z:Part)(r s t:Int),lex (ft x y) r<=0->lex (ft y z) s<=0->(ft x y=0->ft y z=0->r<=0->s<=0->t<=0)->lex (ft x z) t<=0:=λx y z r s t d f k=>(by have A:=AD.tr x y z trivial trivial trivial;have u:=AD.tr z x y trivial trivial trivial;have q:=AD.tr y z x trivial trivial trivial;have o:=AD.neg x y;have n:=AD.neg y z;have m:=AD.neg x z;unfold lex at *;split at d<;>split at f<;>split<;>first|omega|exact k (by assumption) (by assumption) d f);intro a;induction a with|nil=>(intro b c _ i hc d f;cases b with|nil=>exact f|cons y b=>cases c with|nil=>simp only[zq,vP,yi];decide|cons z c=>simp only[zq,zv,vP,yi]at *;refine h _ y z _ _ _ d f λe _ _ _=>?_;exact aw (FJ e).symm (i y zf))|cons x a ih=>intro b c j i hc d f;cases b with|nil=>(simp only[zq,zv,vP,yi,Fp]at d;cases c with|nil=>simp only[zq,zv,vP,yi,Fp];exact d|cons z c=>simp only[zq,zv,vP,yi,Fp]at *;refine h x kB z _ _ _ d f λe _ _ _=>?_;exact aw (FJ e) (j x zf))|cons y b=>cases c with|nil=>simp only[zq,zv,vP,yi,Fp]at *;refine h x y kB _ _ _ d f λ_ e _ _=>?_;exact aw (FJ e) (i y zf)|cons z c=>simp only[zv,vP]at *;refine h x y z _ _ _ d f λ_ _ r s=>?_;exact ih b c (λp g=>j p (zc _ g)) (λp g=>i p (zc _ g)) (λp g=>hc p (zc _ g)) r s
theorem NU(b:UInt8):cy b≠2:=by unfold cy;repeat (first|split|omega)
theorem DG(s:bJ):∀x∈cr s,x.kind≠2:=by unfold cr;have : ∀n s,∀x∈kY n s,x.kind≠2:=(by intro n;induction n with|zero=>intro s x hx;cases hx|succ n ih=>intro s x hx;cases s with|nil=>cases hx|cons b l=>simp only[kY]at hx;split at hx;{exact ih _ x hx};split at hx;{rcases zb.1 hx with rfl|hx;{exact NU b};exact ih _ x hx};rcases zb.1 hx with rfl|hx;{exact NU b};exact ih _ x hx);exact this _ s
theorem Qn:WO (λ_=>True) jL where
 neg:=λa b=>Ib a b
 tr:=λa b c _ _ _ e d=>Zk _ _ _ (DG a) (DG b) (DG c) e d
theorem Qo:WO (λe:dg=>e.rel≠[]) fC where
 neg:=λa b=>Ic a b
 tr:=by
  have h:=(wN.of dg.dG).lex ((Qn.of dg.cz).lex (Qn.of dg.rel))
  have e:∀a b:dg,a.rel≠[]->b.rel≠[]->fC a b=lex (cJ a.dG b.dG) (lex (jL a.cz b.cz) (jL a.rel b.rel)):=λa b f d=>by
   unfold fC lex;have g:¬(a.rel=[]\/b.rel=[]):=by simp[f,d]
   rw[aa g];by_cases j:cJ a.dG b.dG=0<;>by_cases i:jL a.cz b.cz=0<;>simp[j,i]
  intro a b c f d hc;rw[e a b f d,e b c d hc,e a c f hc];exact h.tr a b c trivial trivial trivial
def nN (k:Int):Nat:=if k=4 then 3 else if k=5 then 3 else if k=7 then 2 else 24
def jM (k:Int)(d:bC)(n:Nat):Bool:=decide (1<k)&&decide (k<=7)&&decide (d=ij)&&decide (2<=n)&&decide (n<=nN k)
mutual
def aX.ms:aX->Nat×Nat×Bool
 | .mk k d aZ=>if k=1 then (1,0,decide (aZ.length=0)&&fK d) else ((aX.kO aZ 1 0 (jM k d aZ.length)).1,(aX.kO aZ 1 0 (jM k d aZ.length)).2.1+1,(aX.kO aZ 1 0 (jM k d aZ.length)).2.2)
def aX.kO:List aX->Nat->Nat->Bool->Nat×Nat×Bool
 | [],p,d,ok=>(p,d,ok)
 | r::rs,p,d,ok=>if ok=true then aX.kO rs (p+r.ms.1) (max d r.ms.2.1) r.ms.2.2 else (p,d,false)
end
def ml (r:aX):Bool:=r.ms.2.2&&decide (r.ms.1<=24)&&decide (r.ms.2.1<=8)
inductive aX.Good:aX->Prop|atom (d:bC)(h:fK d=true):aX.Good (.mk 1 d [])|node (k:Int)(d:bC)(aZ:List aX)(h1:1<k)(h2:k<=7)(h3:2<=aZ.length)(h4:aZ.length<=nN k)(h5:∀a∈aZ,aX.Good a):aX.Good (.mk k d aZ)
theorem aX.J4:∀(b:List aX)(p d:Nat)(ok:Bool),(aX.kO b p d ok).2.2=true->ok=true/\∀a∈b,a.ms.2.2=true:=by intro b;induction b with|nil=>intro p d ok h;exact ⟨h,λ_ h=>by cases h⟩|cons r rs ih=>intro p d ok h;simp only[aX.kO]at h;split at h;{rename_i e;have⟨g,f⟩:=ih _ _ _ h;refine ⟨e,λa c=>?_⟩;rcases zb.1 c with rfl|c;{exact g};exact f a c};cases h
theorem aX.JA(r:aX):r.ms.2.2=true->r.Good:=by induction r using aX.ind with|h k d aZ ih=>intro h;unfold aX.ms at h;split at h;{rename_i g;subst g;simp only[za,ah]at h;have⟨b,c⟩:=h;have e:aZ=[]:=qw.1 b;subst e;exact .atom d c};have⟨b,c⟩:=aX.J4 _ _ _ _ h;unfold jM at b;simp only[za,ah]at b;exact .node k d aZ b.1.1.1.1 b.1.1.1.2 b.1.2 b.2 λa f=>ih a f (c a f)
theorem aX.kv7(b:List aX)(h:∀a∈b,a.ms.1<=a.count/\a.ms.2.1<=a.count):∀(p d:Nat)(ok:Bool),(aX.kO b p d ok).1<=p+aX.counts b/\(aX.kO b p d ok).2.1<=d+aX.counts b:=by induction b with|nil=>intro p d ok;simp[aX.kO,aX.counts]|cons r rs ih=>intro p d ok;have⟨j,i⟩:=h r zf;have c:=ih (λa e=>h a (zc _ e));simp only[aX.kO,aX.counts];split;{have⟨g,f⟩:=c (p+r.ms.1) (max d r.ms.2.1) r.ms.2.2;omega};simp only;omega
theorem aX.Ra(r:aX):r.ms.1<=r.count/\r.ms.2.1<=r.count:=by induction r using aX.ind with|h k d aZ ih=>unfold aX.ms;simp only[aX.count];split;{simp only;omega};have⟨c,b⟩:=aX.kv7 aZ ih 1 0 (jM k d aZ.length);simp only;omega
abbrev ff:List Bool->Bool:=λ_=>false
def ly (c n:Nat):List Bool:=(zu c).map λm=>decide (m=n)
def cw (c:Nat)(zs:List Int):List Bool:=(zu c).map λ(m:Nat)=>decide ((m:Int)∈zs)
def sm (st:List Bool)(f:Nat->Bool):Bool:=(zu st.length).any λn=>st.getD n false&&f n
def iw(l:List bc)(k:Int)(d:bC)(fs:List (List Bool->Bool))(st:List Bool):Bool :=if k=1 then (jU l d).any λn=>st.getD n.toNat false else if k=2 then fs.all λf=>f st else if k=3 then fs.any λf=>f st else if k=4 then (if (fs.getD 1 ff) st then (fs.getD 0 ff) st else decide (fs.length<3)||(fs.getD 2 ff) st) else if k=5 then (if (fs.getD 1 ff) st then decide (fs.length=3)&&(fs.getD 2 ff) st else (fs.getD 0 ff) st) else if k=6 then sm st λn=>fs.all λf=>f (ly st.length n) else sm st λn=>(fs.getD 0 ff) (ly st.length n)&&!(fs.getD 1 ff) (ly st.length n)
mutual
def aX.tr (l:List bc):aX->List Bool->Bool
 | .mk k d aZ,st=>iw l k d (aX.dB l aZ) st
def aX.dB (l:List bc):List aX->List (List Bool->Bool)
 | []=>[]
 | r::rs=>(λst=>r.tr l st)::aX.dB l rs
end
theorem aX.kE(l:List bc)(b:List aX):aX.dB l b=b.map λr st=>r.tr l st:=by induction b with|nil=>rfl|cons r rs ih=>simp only[aX.dB,zd,ih]
def lT (l:List bc)(zs:List Int)(r:aX):Bool:=ml r&&r.tr l (cw l.length zs)
def aX.atoms (r:aX):List bC:=(r.parts false).filterMap λp=>if p.1.kind=1 then some p.1.dep else none
structure bM where
 a:bg
 tU:List Bool
def nO (b:Bool):List IV:=[.bool b]
namespace bM
variable (o:bM)
def cs:List IV:=[o.a.v,o.a.p.v,.int .u8 o.a.r.b9,.a8 (o.a.l.map bc.cs),.a8 (o.tU.map nO)]
def v:IV:=.bj o.cs
def lk (n:Int):Bool:=o.tU.getD n.toNat false
def gW (n:Int):Bool:=o.a.is n&&o.lk n
def eR (b:Bool):Int:=if b then 0 else 1
def prio (n:Int):Int:=(o.a.p.bx.getD n.toNat ⟨default,0,0⟩).prio
def cmp(n m:Int):Int :=lex (cJ (eR (o.a.fits n)) (eR (o.a.fits m))) (lex (cJ (gI o.a.r.b9 (o.a.pk n).b9) (gI o.a.r.b9 (o.a.pk m).b9)) (lex (cJ (o.prio m) (o.prio n)) (lex (cJ (eR (o.lk n)) (eR (o.lk m))) (lex (fC (o.a.pk m).bB (o.a.pk n).bB) (cJ n m)))))
def better (n m:Int):Bool:=o.a.is n&&o.a.is m&&decide (o.cmp n m<0)
theorem wo:WO (λn=>(o.a.pk n).bB.rel≠[]) o.cmp:=by have hi {g:Int->Int}:WO (λn=>(o.a.pk n).bB.rel≠[]) λa b=>cJ (g a) (g b):=(wN.of g).sub λ_ _=>trivial;exact hi.lex (hi.lex ((hi (g:=o.prio)).flip.lex (hi.lex ((Qo.of λn=>(o.a.pk n).bB).flip.lex (hi (g:=λn=>n))))))
theorem wc{n m:Int}(h:o.cmp n m=0):n=m:=by unfold cmp lex at h;repeat (first|exact p8.1 h|(split at h;rotate_left;contradiction))
theorem F7 (n:Int):o.cmp n n=0:=by have:=o.wo.neg n n;omega
def fG (zs:List Int):List Int:=(da (λn=>decide ((n:Int)∈zs)) o.a.l.length).mergeSort λx y=>!decide (o.cmp y x<0)
theorem vS{zs:List Int}{n:Int}:n∈o.fG zs↔n∈zs/\o.a.is n=true:=by unfold fG;rw[(qd _ _).mem_iff,pB];constructor;{rintro ⟨m,rfl,c,b⟩;exact ⟨by simpa using b,by rw[bg.nK];exact ao c⟩};rintro ⟨c,b⟩;unfold bg.is at b;simp only[za,ah]at b;have e:((n.toNat:Nat):Int)=n:=om;exact ⟨n.toNat,e.symm,om,by rw[e];exact ao c⟩
variable (hr:∀n,o.a.is n=true->(o.a.pk n).bB.rel≠[])
include hr
theorem lt_trans{a b c:Int}(e:o.a.is a=true)(d:o.a.is b=true)(hc:o.a.is c=true)(m:o.cmp a b<0)(k:o.cmp b c<0):o.cmp a c<0:=by have j:=o.wo.tr a b c (hr a e) (hr b d) (hr c hc);have i:=o.wo.tr c a b (hr c hc) (hr a e) (hr b d);have h:=o.wo.neg a b;have g:=o.wo.neg b c;have f:=o.wo.neg a c;omega
theorem Zl(zs:List Int):(o.fG zs).Pairwise λx y=>o.cmp x y<0:=by
 have s:∀x∈da (λn=>decide ((n:Int)∈zs)) o.a.l.length,o.a.is x=true:=λx hx=>by obtain ⟨m,rfl,d,_⟩:=pB.1 hx;rw[bg.nK];exact ao d
 have f:(o.fG zs).Nodup:=by unfold fG;rw[(qd _ _).nodup_iff];exact (I8 _ _).imp λh e=>by omega
 have p:∀x∈o.fG zs,o.a.is x=true:=λx hx=>((o.vS).1 hx).2;have q:(o.fG zs).Pairwise λx y=>(!decide (o.cmp y x<0))=true:=by unfold fG;let S:={ n:Int // o.a.is n=true };let L:List S:=(da (λn=>decide ((n:Int)∈zs)) o.a.l.length).attach.map λx=>⟨x.1,s x.1 x.2⟩;have t:L.map (·.1)=da (λn=>decide ((n:Int)∈zs)) o.a.l.length:=(by show (q5 _ (q5 _ _))=_;rw[qa];exact qm _);rw[<- t,<- q7 (r:=λx y:S=>!decide (o.cmp y.1 x.1<0)) (λ_ _ _ _=>rfl)];refine z1.map _ (λ_ _ h=>h) ?_;refine qv ?_ ?_ L;{intro a b c d i;have A:=o.wo.tr a.1 b.1 c.1 (hr _ a.2) (hr _ b.2) (hr _ c.2);have k:=o.wo.neg a.1 b.1;have j:=o.wo.neg b.1 c.1;have z:=o.wo.neg a.1 c.1;simp only[jc,au]at d i ⊢;omega};intro a b;have k:=o.wo.neg a.1 b.1;by_cases h:o.cmp a.1 b.1<0;{have:¬o.cmp b.1 a.1<0:=om;simp[h,this]};simp[h]
 refine q.imp₂ (λ{x y} d i=>?_) f;have k:=o.wo.neg x y;have j:=λh=>o.wc (n:=x) (m:=y) h;have g:x≠y:=i;have u:¬o.cmp y x<0:=by simpa using d
 have:o.cmp x y≠0:=λh=>g (j h);omega
theorem kv9:∀ {D F:List Int},(∀x∈D,o.a.is x=true)->(∀x∈F,o.a.is x=true)->D.Pairwise (λx y=>o.cmp x y<0)->F.Pairwise (λx y=>o.cmp x y<0)->(∀x,x∈D↔x∈F)->D=F:=by intro D;induction D with|nil=>(intro F _ _ _ _ h;cases F with|nil=>rfl|cons y F=>exact aw ((h y).2 zf) (by simp))|cons x D ih=>intro F u t q p h;cases F with|nil=>exact aw ((h x).1 zf) (by simp)|cons y F=>
 have⟨f,i⟩:=qe.1 q;have⟨d,g⟩:=qe.1 p;have j:x=y:=by rcases zb.1 ((h x).1 zf)with m|m;{exact m};rcases zb.1 ((h y).2 zf)with k|k;{exact k.symm};have:=d x m;have:=f y k;have:=o.wo.neg x y;omega
 subst j;congr 1;have s:∀z∈D,z≠x:=λz b e=>by subst e;have:=f z b;rw[o.F7]at this;omega
 have r:∀z∈F,z≠x:=λz b e=>by subst e;have:=d z b;rw[o.F7]at this;omega
 refine ih (λz b=>u z (zc _ b)) (λz b=>t z (zc _ b)) i g λz=>⟨λb=>?_,λb=>?_⟩;{rcases zb.1 ((h z).1 (zc _ b))with e|c;{exact aw e (s z b)};exact c};rcases zb.1 ((h z).2 (zc _ b))with e|c;{exact aw e (r z b)};exact c
theorem ML{zs D:List Int}(c:D.Pairwise λx y=>o.cmp x y<0)(b:∀x,x∈D↔x∈zs/\o.a.is x=true):D=o.fG zs :=o.kv9 hr (λx hx=>((b x).1 hx).2) (λx hx=>((o.vS).1 hx).2) c (o.Zl hr zs) λx=>(b x).trans o.vS.symm
end bM
end Go.Id.Md
namespace Go.Id.Md
open Go Go.Id
def ou(wh:Int)(k:Int)(d:bC)(n:Nat)(alone:Bool):Bool :=if k=1 then decide (n=0)&&fK d else (if k=2\/k=3\/k=6 then decide (2<=n) else if k=7 then decide (n=2) else if k=4 then (decide (n=2)||decide (n=3))&&!alone&&decide (wh=1) else if k=5 then (decide (n=2)||decide (n=3))&&!alone&&decide (wh<=2) else false)&&decide (d=ij)
mutual
def aX.fc (wh:Int):aX->Bool->Bool
 | .mk k d aZ,alone=>ou wh k d aZ.length alone&&(aX.BO wh aZ (alone||decide (k=6)||decide (k=7)))
def aX.BO (wh:Int):List aX->Bool->Bool
 | [],_=>true
 | r::rs,alone=>r.fc wh alone&&aX.BO wh rs alone
end
def aX.xR(b:Int)(l:List aX)(alone:Bool):aX.BO b l alone=l.all λr=>r.fc b alone:=by induction l with|nil=>rfl|cons r l ih=>simp only[aX.BO,qr,ih]
def kd7{b:Int}(t:1<=b)(s:b<=3)(k:Int)(d:bC)(f:List aX)(alone:Bool)(r:f.length<=24):ou b k d f.length alone=fu b (.mk k d f) alone:=by unfold ou fu asks;simp only[aX.kind,aX.args,aX.dep];rw[zt];by_cases q:k=1;{subst q;simp only[af];have:¬(3:Int)<b:=om;cases fK d<;>cases alone<;>simp[this]<;>omega};by_cases p:k=2;{subst p;have:¬(3:Int)<b:=om;by_cases c:d=ij<;>cases alone<;>simp[this,c]<;>omega};by_cases m:k=3;{subst m;have:¬(3:Int)<b:=om;by_cases c:d=ij<;>cases alone<;>simp[this,c]<;>omega};by_cases j:k=4;{subst j;by_cases c:d=ij<;>cases alone<;>by_cases e:(1:Int)<b<;>simp[c,e]<;>omega};by_cases i:k=5;{subst i;by_cases c:d=ij<;>cases alone<;>by_cases e:(2:Int)<b<;>simp[c,e]<;>omega};by_cases h:k=6;{subst h;have:¬(3:Int)<b:=om;by_cases c:d=ij<;>cases alone<;>simp[this,c]<;>omega};by_cases g:k=7;{subst g;have:¬(3:Int)<b:=om;by_cases c:d=ij<;>cases alone<;>simp[this,c]<;>omega};have:(0:Int)<b:=om;simp[q,p,m,j,i,h,g,this]
def aX.xS{l:List aX}{r:aX}(h:r∈l):r.count<=aX.counts l:=by induction l with|nil=>cases h|cons x l ih=>simp only[aX.counts];rcases zb.1 h with rfl|h;{omega};have:=ih h;omega
def aX.W0 (r:aX):1<=r.count:=by cases r;simp only[aX.count];omega
def aX.Ie(l:List aX):l.length<=aX.counts l:=by induction l with|nil=>exact z7 _|cons x l ih=>simp only[aX.counts,zy];have:=x.W0;omega
def aX.U5{b:Int}(i:1<=b)(g:b<=3)(r:aX):r.count<=24->∀alone,r.fc b alone=(r.parts alone).all λp=>fu b p.1 p.2:=by refine aX.ind (p:=λr=>r.count<=24->∀alone,r.fc b alone=(r.parts alone).all λp=>fu b p.1 p.2) (λk d c e hc alone=>?_) r;simp only[aX.count]at hc;simp only[aX.fc,aX.parts,qr];have:=aX.Ie c;rw[kd7 i g k d c alone om];congr 1;generalize (alone||decide (k=6)||decide (k=7))=al;have:∀l:List aX,(∀x∈l,x∈c)->aX.BO b l al=(aX.mj l al).all λp=>fu b p.1 p.2:=(by intro l;induction l with|nil=>intro _;rfl|cons x l ih2=>intro h;have hx:=h x zf;simp only[aX.BO,aX.mj,List.all_append];rw[e x hx (by have:=aX.xS hx;omega),ih2 λy f=>h y (zc _ f)]);exact this c λ_ h=>h
def E8(r:aX)(b:Int):fy r b=if b<1\/3<b then 1 else if r.count>24 then 40 else if r.depth>8 then 21 else if r.fc b false=false then 4 else 0:=by unfold fy;by_cases e:b<1\/3<b;{rw[ab e,ab e]};rw[aa e,aa e];by_cases d:r.count>24;{rw[ab d,ab d]};rw[aa d,aa d];by_cases c:r.depth>8;{rw[ab c,ab c]};rw[aa c,aa c,aX.U5 om om r om];cases h:(r.parts false).all λp=>fu b p.1 p.2<;>simp
end Go.Id.Md
namespace Go.Id.Md
open Go Go.Id
def headD(k:Int)(n:Nat):Bool :=if k=2\/k=3\/k=6 then decide (2<=n) else if k=4\/k=5 then decide (n=2\/n=3) else if k=7 then decide (n=2) else false
mutual
def aX.part:aX->Bool
 | .mk k d aZ=>if k=1 then fK d&&decide (aZ.length=0) else headD k aZ.length&&(aX.EG aZ&&decide (d=ij))
def aX.EG:List aX->Bool
 | []=>true
 | r::rs=>r.part&&aX.EG rs
end
def aX.IA(b:List aX):aX.EG b=b.all aX.part:=by induction b with|nil=>rfl|cons r rs ih=>simp only[aX.EG,qr,ih]
def aX.Pe(b:List aX):∀p d:Nat,(∀a∈b,a.ms=(a.count,a.depth,true))->aX.kO b p d true=(p+aX.counts b,max d (aX.mS b),true):=by induction b with|nil=>intro p d _;simp[aX.kO,aX.counts,aX.mS]|cons r rs ih=>intro p d h;have hr:=h r zf;simp only[aX.kO,ab,hr,aX.counts];rw[ih _ _ λa c=>h a (zc _ c)];simp only[aX.mS,Nat.add_assoc,Nat.max_assoc]
def aX.JB(r:aX):r.ms.2.2=true->r.ms=(r.count,r.depth,true):=by induction r using aX.ind with|h k d aZ ih=>intro h;unfold aX.ms at h ⊢;by_cases b:k=1;{rw[ab b]at h ⊢;simp only[za,ah]at h;have e:aZ=[]:=qw.1 h.1;subst e;simp[aX.count,aX.counts,aX.depth,b,h.2]};rw[aa b]at h ⊢;have⟨g,f⟩:=aX.J4 _ _ _ _ h;have e:=aX.Pe aZ 1 0 λa c=>ih a c (f a c);rw[g]at h ⊢;rw[e];simp only[aX.count,aX.depth,b,ae];rw[Nat.zero_max,Nat.add_comm]
def Zm{k:Int}{n:Nat}(i:n<=24)(d:bC)(j:k≠1):jM k d n=(headD k n&&decide (d=ij)):=by by_cases c:k=2\/k=3\/k=4\/k=5\/k=6\/k=7;{by_cases b:d=ij;{rw[zt];unfold jM headD nN;rcases c with rfl|rfl|rfl|rfl|rfl|rfl<;>simp only[b,za,ah,Int.reduceEq,false_or,aj,aB,true_or,or_true,af,ae,reduceCtorEq,aE,and_true,aA,Int.reduceLT,Int.reduceLE]<;>omega};simp[jM,b]};have g:¬(k=2\/k=3\/k=6):=om;have f:¬(k=4\/k=5):=om;have e:¬k=7:=om;unfold headD;rw[aa g,aa f,aa e,Bool.false_and];unfold jM;by_cases h:1<k;{simp[show ¬k<=7 by omega]};simp[h]
def aX.kw1(b:List aX):b.length<=aX.counts b:=by induction b with|nil=>simp[aX.counts]|cons r rs ih=>cases r;simp only[aX.counts,aX.count,zy];omega
def aX.Pf(r:aX):r.count<=24->r.part=r.ms.2.2:=by induction r using aX.ind with|h k d aZ ih=>intro hc;simp only[aX.count]at hc;have p:=aX.kw1 aZ;unfold aX.part aX.ms;by_cases f:k=1;{rw[ab f,ab f,qu]};rw[aa f,aa f,aX.IA,zt];have j:=Zm (k:=k) (n:=aZ.length) om d f;have c:∀a∈aZ,a.part=a.ms.2.2:=λa b=>ih a b (by have:=aX.xS b;omega);simp only[za,zm];constructor;{rintro ⟨g,i,m⟩;have e:=aX.Pe aZ 1 0 λa b=>aX.JB a (by rw[<- c a b];exact i a b);rw[j,g,m,Bool.and_self,e]};intro h;have⟨g,i⟩:=aX.J4 _ _ _ _ h;rw[j,za]at g;exact ⟨g.1,λa b=>by rw[c a b];exact i a b,g.2⟩
def MM(r:aX):ml r=(r.part&&decide (r.count<=24)&&decide (r.depth<=8)):=by unfold ml;rw[zt];simp only[za,ah];constructor;{rintro ⟨⟨c,b⟩,d⟩;have e:=aX.JB r c;rw[e]at b d;exact ⟨⟨by rw[aX.Pf r b];exact c,b⟩,d⟩};rintro ⟨⟨c,b⟩,d⟩;rw[aX.Pf r b]at c;have e:=aX.JB r c;rw[e];exact ⟨⟨rfl,b⟩,d⟩
def sL (c:Nat)(zs:List Int):(cw c zs).length=c:=by unfold cw;rw[zz,q9]
def GB(c:Nat)(zs:List Int)(n:Nat):(cw c zs).getD n false=(decide (n<c)&&decide ((n:Int)∈zs)):=by unfold cw;by_cases h:n<c;{simp[zg,h]};simp[zg,h]
def AE(c n:Nat):ly c n=cw c [(n:Int)]:=by unfold ly cw;refine List.map_congr_left λm _=>?_;rw[decide_eq_decide,z6];omega
def uW(c:Nat)(zs:List Int)(f:Nat->Bool):sm (cw c zs) f=zs.any λz=>decide (0<=z)&&decide (z<c)&&f z.toNat:=by unfold sm;rw[sL,zt,zw,zw];constructor;{rintro ⟨n,i,h⟩;rw[za,GB,za,ah,ah]at h;refine ⟨n,h.1.2,?_⟩;simp[h.2,h.1.1]};rintro ⟨z,b,h⟩;simp only[za,ah]at h;have⟨⟨g,j⟩,d⟩:=h;have e:(z.toNat:Int)=z:=q8 g;refine ⟨z.toNat,zh.2 om,?_⟩;rw[za,GB,za,ah,ah];exact ⟨⟨om,by rw[e];exact b⟩,d⟩
def GC(l:List bc)(d:bC)(zs:List Int):((jU l d).any λn=>(cw l.length zs).getD n.toNat false)=zs.any λz=>decide (0<=z)&&decide (z<l.length)&&ba (l.getD z.toNat default) d:=by rw[zt,zw,zw];constructor;{rintro ⟨n,g,h⟩;obtain ⟨m,rfl,b,c⟩:=oG.1 g;rw[GB,za,ah,ah,z8]at h;refine ⟨m,h.2,?_⟩;simp only[z8,c];simp[b]};rintro ⟨z,f,h⟩;simp only[za,ah]at h;have⟨⟨b,c⟩,i⟩:=h;have e:(z.toNat:Int)=z:=q8 b;refine ⟨z,oG.2 ⟨z.toNat,e.symm,om,i⟩,?_⟩;rw[GB,e,za,ah,ah];exact ⟨om,f⟩
end Go.Id.Md
namespace Go.Id.Md
open Go Go.Id
def aX.JC(l:List bc)(b:List aX)(i:Nat):(aX.dB l b).getD i ff=if h:i<b.length then λst=>b[i].tr l st else ff:=by rw[aX.kE];split;{rename_i h;simp[zg,h]};rename_i h;simp[zg,h]
def aX.Zn(l:List bc)(n:Nat)(e:n<l.length)(r:aX):r.tr [l[n]] (cw 1 [0])=r.tr l (cw l.length [(n:Int)]):=by induction r using aX.ind with|h k d aZ ih=>
 show iw _ _ _ _ _=iw _ _ _ _ _;have t:(cw 1 [0]).length=1:=sL _ _;have j:=GC [l[n]] d [0];have q:=GC l d [(n:Int)];have b:∀i,(aX.dB [l[n]] aZ).getD i ff (cw 1 [0])=(aX.dB l aZ).getD i ff (cw l.length [(n:Int)]):=λi=>by rw[aX.JC,aX.JC];split;{rename_i h;exact ih _ (zl h)};rfl
 have g:(aX.dB [l[n]] aZ).all (λf=>f (cw 1 [0]))=(aX.dB l aZ).all λf=>f (cw l.length [(n:Int)]):=by rw[aX.kE,aX.kE,List.all_map,List.all_map,zt,zm,zm];exact ⟨λh x hx=>by have:=h x hx;simp only[z3]at this ⊢;rw[<- ih x hx];exact this,λh x hx=>by have:=h x hx;simp only[z3]at this ⊢;rw[ih x hx];exact this⟩
 have m:(aX.dB [l[n]] aZ).any (λf=>f (cw 1 [0]))=(aX.dB l aZ).any λf=>f (cw l.length [(n:Int)]):=by rw[aX.kE,aX.kE,List.any_map,List.any_map,zt,zw,zw];exact ⟨λ⟨x,hx,h⟩=>⟨x,hx,by simp only[z3]at h ⊢;rw[<- ih x hx];exact h⟩,λ⟨x,hx,h⟩=>⟨x,hx,by simp only[z3]at h ⊢;rw[ih x hx];exact h⟩⟩
 have c:(aX.dB [l[n]] aZ).length=(aX.dB l aZ).length:=by rw[aX.kE,aX.kE,zz,zz]
 have u:ly 1 0=cw 1 [0]:=AE 1 0;unfold iw;simp only[zy,List.length_nil,Nat.zero_add]at j;rw[j,q,g,m,b,b,b,c,sL,sL,uW,uW,uW,uW];have s:(decide ((0:Int)<=n)&&decide ((n:Int)<l.length))=true:=by simp[e]
 have p:(List.getD [l[n]] (0:Int).toNat default)=l.getD (n:Int).toNat default:=by simp[zg,e]
 simp only[List.any_cons,List.any_nil,Bool.or_false,s,qt,p,z8];simp only[AE,Int.toNat_zero,Int.natCast_zero,g,b];simp
def aX.W6(m:Int)(r:aX):∀alone:Bool,r.fc m alone=true->r.part=true:=by induction r using aX.ind with|h k d aZ ih=>intro alone h;simp only[aX.fc,za,aX.xR,zm]at h;have⟨c,q⟩:=h;unfold ou at c;unfold aX.part;by_cases i:k=1;{rw[ab i]at c ⊢;rw[qu];exact c};rw [aa i]at c ⊢;rw[za]at c;have p:aX.EG aZ=true:=(by rw[aX.IA,zm];exact λx hx=>ih x hx _ (q x hx));rw[p,c.2,Bool.and_true,Bool.and_true];have b:=c.1;unfold headD;by_cases j:k=2\/k=3\/k=6;{rw[ab j]at b ⊢;exact b};rw [aa j]at b ⊢;by_cases e:k=7;{rw[ab e]at b;rw[aa om,ab e];exact b};rw[aa e]at b;by_cases g:k=4;{rw[ab g]at b;rw[ab (.inl g)];simp only[za,qb,ah]at b ⊢;exact b.1.1};rw[aa g]at b;by_cases f:k=5;{rw[ab f]at b;rw[ab (.inr f)];simp only[za,qb,ah]at b ⊢;exact b.1.1};rw[aa f]at b;cases b
def IB{r:aX}{b:Int}(h:fy r b=0):ml r=true:=by rw[E8]at h;split at h;{cases h};split at h;{cases h};split at h;{cases h};split at h;{cases h};rename_i f e d c;rw[MM,aX.W6 b r false (by simpa using c)];simp only[qt,za,ah];omega
def wO (repos:List cF)(n:Nat):List Int:=qn n 1025++repos.flatMap λr=>qn r.br.length r.priority
structure cg where
 kind:Int
 p:Int
 q:Int
 deriving DecidableEq,Inhabited
def cg.cs (x:cg):List IV:=[.int .u8 x.kind,.int .i64 x.p,.int .i64 x.q]
variable {x:cg}
def cg.kw2{y:cg}(h:x.cs=y.cs):x=y:=by cases x;cases y;simpa [cg.cs] using h
abbrev kH (l:List cg):IV:=.a8 (l.map cg.cs)
def kw3(a b:cg):allEq [1,1,1] a.cs b.cs=some (decide (a=b)):=by cases a;cases b;simp[cg.cs,allEq,gh,cg.mk.injEq,Bool.decide_and]
def lq (l:List cg):List (IV×IV):=l.map λx=>(.agg x.cs,.agg [])
def NV (x y:cg):fE 6 (.agg x.cs) (.agg y.cs)=some (decide (x=y)):=kw3 x y
def Zo(x:cg):kOK 6 (.agg x.cs)=true:=by show (fE 6 (.agg x.cs) (.agg x.cs)).isSome=true;rw[NV];rfl
def Zp:∀ {l:List cg},x ∉ l->mF 6 (.agg x.cs) (.agg []) (lq l)=some (lq (l++[x])):=by intro l;induction l with|nil=>intro _;simp only[lq,List.map_nil,mF,Zo];rfl|cons y l ih=>intro h;rw[zb,aF]at h;have:=ih h.2;unfold lq at *;simp only[zd,zv,mF,NV,h.1,aD,this,Option.map_some]
def W7{l:List cg}(h:l.Nodup):wH (lq l):=by refine ⟨?_,.agg [.u8,.i64,.i64],λe c=>?_⟩;{unfold lq;rw[qa];refine qg.2 (h.imp λ{a b} hab e=>hab ?_);exact cg.kw2 (IV.agg.inj e)};obtain ⟨x,_,rfl⟩:=zo.1 c;refine ⟨rfl,λi hi=>?_⟩;have hi:i<3:=hi;match i,hi with|0,_=>exact ⟨_,rfl⟩|1,_=>exact ⟨_,rfl⟩|2,_=>exact ⟨_,rfl⟩
def mW (k:Int)(p n:Nat):List cg:=(zu n).map λ(q:Nat)=>⟨k,p,q⟩
def U6(k:Int)(p n:Nat):mW k p (n+1)=mW k p n++[⟨k,p,n⟩]:=by unfold mW;rw[zp,zr];rfl
def kg (f:Nat->Bool)(g:Nat->cg)(n:Nat):List cg:=((zu n).filter f).map g
def Fq(f:Nat->Bool)(g:Nat->cg)(n:Nat):kg f g (n+1)=kg f g n++if f n then [g n] else []:=by unfold kg;rw[zp,qf,zr];cases h:f n<;>simp[h]
def sB{f:Nat->Bool}{g:Nat->cg}{n:Nat}:x∈kg f g n↔∃m,m<n/\f m=true/\x=g m:=by unfold kg;simp only[zo,zx,zh];constructor;{rintro ⟨m,⟨c,b⟩,rfl⟩;exact ⟨m,c,b,rfl⟩};rintro ⟨m,c,b,rfl⟩;exact ⟨m,⟨c,b⟩,rfl⟩
def tz{k:Int}{p n:Nat}:x∈mW k p n↔∃q:Nat,q<n/\x=⟨k,p,q⟩:=by unfold mW;simp only[zo,zh];constructor;{rintro ⟨q,h,rfl⟩;exact ⟨q,h,rfl⟩};rintro ⟨q,h,rfl⟩;exact ⟨q,h,rfl⟩
namespace bg
variable (a:bg)
def mX (p:Nat):List cg:=if a.fits p then [] else [⟨1,p,0⟩]
def tj (p:Nat):List cg:=a.mX p++mW 2 p (a.pk p).bT.length++mW 3 p (a.pk p).conflicts.length++mW 4 p (a.pk p).dh.length
def qN (p k:Nat):List cg:=kg (λq=>decide (p<q)&&a.twins p q) (λq=>⟨5,p,q⟩) k
def EH (p:Nat):List cg:=a.qN p a.l.length
def ow (k:Nat):List cg:=kg (λi=>!a.goes i) (λi=>⟨6,i,0⟩) k
def qT (k:Nat):List cg:=kg (λi=>!a.dropped i) (λi=>⟨7,i,0⟩) k
def dJ (k:Nat):List cg:=(zu k).flatMap a.tj
def kI (k:Nat):List cg:=(zu k).flatMap a.EH
def items:List cg:=a.dJ a.l.length++a.kI a.l.length++a.ow a.p.a7.toNat++a.qT a.r.bP.length
def FK (k:Nat):a.dJ (k+1)=a.dJ k++a.tj k:=by unfold dJ;rw[zp,z2];simp
def E9 (k:Nat):a.kI (k+1)=a.kI k++a.EH k:=by unfold kI;rw[zp,z2];simp
inductive Has(a:bg):cg->Prop|b9 (p:Nat):p<a.l.length->a.fits p=false->Has a ⟨1,p,0⟩|kQ (p q:Nat):p<a.l.length->q<(a.pk p).bT.length->Has a ⟨2,p,q⟩|iL (p q:Nat):p<a.l.length->q<(a.pk p).conflicts.length->Has a ⟨3,p,q⟩|over (p q:Nat):p<a.l.length->q<(a.pk p).dh.length->Has a ⟨4,p,q⟩|twin (p q:Nat):p<q->q<a.l.length->a.twins p q=true->Has a ⟨5,p,q⟩|bd (i:Nat):i<a.p.a7.toNat->a.goes i=false->Has a ⟨6,i,0⟩|lE (j:Nat):j<a.r.bP.length->a.dropped j=false->Has a ⟨7,j,0⟩
variable {k:Nat}{y:cg}
def Pg:y∈a.tj k↔(a.fits k=false/\y=⟨1,k,0⟩)\/(∃q:Nat,q<(a.pk k).bT.length/\y=⟨2,k,q⟩)\/(∃q:Nat,q<(a.pk k).conflicts.length/\y=⟨3,k,q⟩)\/(∃q:Nat,q<(a.pk k).dh.length/\y=⟨4,k,q⟩):=by unfold tj mX;simp only[zj,tz,or_assoc];refine or_congr ?_ Iff.rfl;cases h:a.fits k<;>simp
def JD:y∈a.items↔a.Has y:=by unfold items dJ kI ow qT;simp only[zj,zi,zh,Pg,sB];constructor;{rintro (((⟨p,c,h⟩|⟨p,c,h⟩)|⟨i,hi,h,rfl⟩)|⟨j,e,h,rfl⟩);{rcases h with ⟨h,rfl⟩|⟨q,b,rfl⟩|⟨q,b,rfl⟩|⟨q,b,rfl⟩;{exact .b9 p c h};{exact .kQ p q c b};{exact .iL p q c b};exact .over p q c b};{obtain ⟨q,b,d,rfl⟩:=sB.1 h;rw[za]at d;exact .twin p q (aC d.1) b d.2};{exact .bd i hi (by simpa using h)};exact .lE j e (by simpa using h)};intro h;cases h with|b9 p c h=>exact .inl (.inl (.inl ⟨p,c,.inl ⟨h,rfl⟩⟩))|kQ p q c b=>exact .inl (.inl (.inl ⟨p,c,.inr (.inl ⟨q,b,rfl⟩)⟩))|iL p q c b=>exact .inl (.inl (.inl ⟨p,c,.inr (.inr (.inl ⟨q,b,rfl⟩))⟩))|over p q c b=>exact .inl (.inl (.inl ⟨p,c,.inr (.inr (.inr ⟨q,b,rfl⟩))⟩))|twin p q h1 h2 d=>exact .inl (.inl (.inr ⟨p,om,sB.2 ⟨q,h2,by simp[h1,d],rfl⟩⟩))|bd i hi h=>exact .inl (.inr ⟨i,hi,by simp[h],rfl⟩)|lE j e h=>exact .inr ⟨j,e,by simp[h],rfl⟩
def If(k:Int)(p n:Nat):(mW k p n).Nodup:=by unfold mW;refine qg.2 (List.nodup_range.imp λ{x y} h e=>h ?_);have:=az cg.q e;simp only at this;omega
def Ig{f:Nat->Bool}{g:Nat->cg}(b:∀x y,g x=g y->x=y)(n:Nat):(kg f g n).Nodup:=by unfold kg;exact qg.2 ((List.nodup_range.filter _).imp λ{x y} h e=>h (b _ _ e))
def LU{g:Nat->List cg}(f:∀p,(g p).Nodup)(b:∀p,∀x∈g p,x.p=(p:Int))(n:Nat):((zu n).flatMap g).Nodup:=by induction n with|zero=>exact z1.nil|succ n ih=>rw[zp,z2,z0,z9,List.append_nil];refine zn.2 ⟨ih,f n,λx hx y c e=>?_⟩;have⟨p,d,hx⟩:=zi.1 hx;have:=b p x hx;have:=b n y c;rw[<- e]at this;have:=zh.1 d;omega
def DU(h:y∈a.tj k):y.p=(k:Int)/\1<=y.kind/\y.kind<=4:=by rcases a.Pg.1 h with ⟨_,rfl⟩|⟨q,_,rfl⟩|⟨q,_,rfl⟩|⟨q,_,rfl⟩<;>exact ⟨rfl,by simp only<;>omega,by simp only<;>omega⟩
def W8(p:Nat):(a.tj p).Nodup:=by unfold tj mX;refine zn.2 ⟨zn.2 ⟨zn.2 ⟨?_,If ..,λx hx y b e=>?_⟩,If ..,λx hx y b e=>?_⟩,If ..,λx hx y b e=>?_⟩;{cases a.fits p<;>simp};{obtain ⟨q,_,rfl⟩:=tz.1 b;cases hf:a.fits p<;>rw[hf]at hx<;>simp at hx;rw[hx]at e;simp at e};{obtain ⟨q,_,rfl⟩:=tz.1 b;rcases zj.1 hx with hx|hx;{cases hf:a.fits p<;>rw[hf]at hx<;>simp at hx;rw[hx]at e;simp at e};obtain ⟨r,_,rfl⟩:=tz.1 hx;simp at e};obtain ⟨q,_,rfl⟩:=tz.1 b;rcases zj.1 hx with hx|hx;{rcases zj.1 hx with hx|hx;{cases hf:a.fits p<;>rw[hf]at hx<;>simp at hx;rw[hx]at e;simp at e};obtain ⟨r,_,rfl⟩:=tz.1 hx;simp at e};obtain ⟨r,_,rfl⟩:=tz.1 hx;simp at e
variable {p:Nat}
def DH(h:y∈a.qN k p):y.p=(k:Int)/\y.kind=5:=by obtain ⟨q,_,_,rfl⟩:=sB.1 h;exact ⟨rfl,rfl⟩
def nodup:a.items.Nodup:=by unfold items;refine zn.2 ⟨zn.2 ⟨zn.2 ⟨?_,?_,λx hx y b e=>?_⟩,?_,λx hx y b e=>?_⟩,?_,λx hx y b e=>?_⟩;{exact LU a.W8 (λp x hx=>(a.DU hx).1) _};{exact LU (λp=>Ig (λx y e=>by have:=az cg.q e;simp only at this;omega) _) (λp x hx=>(a.DH hx).1) _};{have⟨p,_,hx⟩:=zi.1 hx;have⟨q,_,b⟩:=zi.1 b;have:=(a.DU hx).2;have:=(a.DH b).2;rw[<- e]at this;omega};{exact Ig (λx y e=>by have:=az cg.p e;simp only at this;omega) _};{obtain ⟨i,_,_,rfl⟩:=sB.1 b;rcases zj.1 hx with hx|hx;{have⟨p,_,hx⟩:=zi.1 hx;have:=(a.DU hx).2;rw[e]at this;simp at this};have⟨p,_,hx⟩:=zi.1 hx;have:=(a.DH hx).2;rw[e]at this;simp at this};{exact Ig (λx y e=>by have:=az cg.p e;simp only at this;omega) _};obtain ⟨j,_,_,rfl⟩:=sB.1 b;rcases zj.1 hx with hx|hx;{rcases zj.1 hx with hx|hx;{have⟨p,_,hx⟩:=zi.1 hx;have:=(a.DU hx).2;rw[e]at this;simp at this};have⟨p,_,hx⟩:=zi.1 hx;have:=(a.DH hx).2;rw[e]at this;simp at this};obtain ⟨i,_,_,rfl⟩:=sB.1 hx;simp at e
def Eb(h:y∈a.dJ k):1<=y.kind/\y.kind<=4/\∃p:Nat,p<k/\y.p=p:=by have⟨p,c,b⟩:=zi.1 h;have:=a.DU b;exact ⟨this.2.1,this.2.2,p,zh.1 c,this.1⟩
def kd8(h:y∈a.mX k):y.kind=1:=by unfold mX at h;split at h;{cases h};rw[z6]at h;rw[h]
def I9(h:y∈a.kI k):y.kind=5/\∃p:Nat,p<k/\y.p=p:=by have⟨p,c,b⟩:=zi.1 h;have:=a.DH b;exact ⟨this.2,p,zh.1 c,this.1⟩
def Zq(h:y∈a.qN k p):y.kind=5/\y.p=k/\∃q:Nat,q<p/\y.q=q:=by obtain ⟨q,b,_,rfl⟩:=sB.1 h;exact ⟨rfl,rfl,q,b,rfl⟩
def Ph(h:y∈a.ow k):y.kind=6/\∃q:Nat,q<k/\y.p=q:=by obtain ⟨q,b,_,rfl⟩:=sB.1 h;exact ⟨rfl,q,b,rfl⟩
def kw4(h:y∈a.qT k):y.kind=7/\∃q:Nat,q<k/\y.p=q:=by obtain ⟨q,b,_,rfl⟩:=sB.1 h;exact ⟨rfl,q,b,rfl⟩
def lW (p j:Nat):Nat:=if j=0 then (a.pk p).bT.length else if j=1 then (a.pk p).conflicts.length else (a.pk p).dh.length
def lU (p j:Nat):List cg:=(zu j).flatMap λi=>mW ((2+i:Nat):Int) p (a.lW p i)
def sC (p j:Nat):a.lU p (j+1)=a.lU p j++mW ((2+j:Nat):Int) p (a.lW p j):=by unfold lU;rw[zp,z2];simp
def Qp(p:Nat):a.tj p=a.mX p++a.lU p 3:=by rw[sC,sC,sC];unfold tj lW;simp[lU]
def kw5(h:y∈a.lU k p):2<=y.kind/\y.kind<2+(p:Int):=by have⟨i,hi,b⟩:=zi.1 h;obtain ⟨q,_,rfl⟩:=tz.1 b;have:=zh.1 hi;simp only;omega
def MN(h:k<=p):(a.dJ k).length<=(a.dJ p).length:=by obtain ⟨d,rfl⟩:∃d,p=k+d:=⟨p-k,om⟩;induction d with|zero=>exact z7 _|succ d ih=>have:=ih om;rw[show k+(d+1)=k+d+1 from rfl,a.FK,ze];omega
def U7(h:k<=p):(a.kI k).length<=(a.kI p).length:=by obtain ⟨d,rfl⟩:∃d,p=k+d:=⟨p-k,om⟩;induction d with|zero=>exact z7 _|succ d ih=>have:=ih om;rw[show k+(d+1)=k+d+1 from rfl,a.E9,ze];omega
def ID(f:Nat->Bool)(g:Nat->cg)(h:k<=p):(kg f g k).length<=(kg f g p).length:=by obtain ⟨d,rfl⟩:∃d,p=k+d:=⟨p-k,om⟩;induction d with|zero=>exact z7 _|succ d ih=>have:=ih om;rw[show k+(d+1)=k+d+1 from rfl,Fq,ze];omega
def uQ (k:Int)(p n:Nat):(mW k p n).length=n:=by unfold mW;rw[zz,q9]
def xO:a.items.length=(a.dJ a.l.length).length+(a.kI a.l.length).length+(a.ow a.p.a7.toNat).length+(a.qT a.r.bP.length).length:=by unfold items;simp only[ze]
def Pi{q:Nat}(b:k<a.l.length)(f:p<3)(e:q<=a.lW k p):(a.dJ k++a.mX k++a.lU k p++mW ((2+p:Nat):Int) k q).length<=a.items.length:=by have c:=a.MN (show k+1<=a.l.length from b);have h:=a.xO;rw[a.FK,a.Qp,ze,ze]at c;have g:(a.lU k p).length+q<=(a.lU k 3).length:=(by have d:(a.lU k 3).length=a.lW k 0+a.lW k 1+a.lW k 2:=(by rw[a.sC,a.sC,a.sC];simp only[ze,uQ];simp[lU]);rw[d];have:p=0\/p=1\/p=2:=om;rcases this with rfl|rfl|rfl;{simp only[lU,qj,z9,List.length_nil];omega};{rw[a.sC];simp only[lU,qj,z9,zq,uQ];omega};rw[a.sC,a.sC];simp only[lU,qj,z9,zq,ze,uQ];omega);simp only[ze,uQ];omega
def Zr(b:k<a.l.length):(a.dJ k).length<=a.items.length:=by have d:=a.MN (show k<=a.l.length by omega);have c:=a.xO;omega
def Zs(b:k<a.l.length)(c:p<=a.l.length):(a.dJ a.l.length++a.kI k++a.qN k p).length<=a.items.length:=by have d:=a.U7 (show k+1<=a.l.length from b);have f:=a.xO;have e:(a.qN k p).length<=(a.EH k).length:=ID _ _ c;rw[a.E9,ze]at d;simp only[ze];omega
def Zt(b:k<=a.p.a7.toNat):(a.dJ a.l.length++a.kI a.l.length++a.ow k).length<=a.items.length:=by have d:=a.xO;have c:(a.ow k).length<=(a.ow a.p.a7.toNat).length:=ID _ _ b;simp only[ze];omega
def kd9(b:k<=a.r.bP.length):(a.dJ a.l.length++a.kI a.l.length++a.ow a.p.a7.toNat++a.qT k).length<=a.items.length:=by have d:=a.xO;have c:(a.qT k).length<=(a.qT a.r.bP.length).length:=ID _ _ b;simp only[ze];omega
def TH(p:Nat):a.qN p (p+1)=[]:=by unfold qN kg;rw[List.map_eq_nil_iff,List.filter_eq_nil_iff];intro q b;have:=zh.1 b;have:¬p<q:=om;simp[this]
def pN (x:cg):aX:=(a.pk x.p).bT.getD x.q.toNat default
def pI (x:cg):aX:=(a.pk x.p).conflicts.getD x.q.toNat default
def uh (x:cg):bC:=(a.pk x.p).dh.getD x.q.toNat default
def inS (st:List Int)(n:Int):Bool:=decide (n∈st)
def less (st:List Int)(n:Int):List Int:=st.filter λm=>!decide (m=n)
def isI (x:cg):Bool:=decide (x∈a.items)
end bg
def GR(p:bc)(k:Int)(d:bC)(bs:List Bool):Bool :=if k=1 then ba p d else if k=3 then bs.any λb=>b else if k=7 then bs.getD 0 false&&!bs.getD 1 false else bs.all λb=>b
mutual
def aX.alone (p:bc):aX->Bool
 | .mk k d aZ=>GR p k d (aX.GS p aZ)
def aX.GS (p:bc):List aX->List Bool
 | []=>[]
 | r::rs=>r.alone p::aX.GS p rs
end
def aX.U8(p:bc)(b:List aX):aX.GS p b=b.map λr=>r.alone p:=by induction b with|nil=>rfl|cons r rs ih=>simp only[aX.GS,zd,ih]
structure bW where
 h:Nat
 cl:List (List Int)
 db:List (bJ×Int)
def pe (n:Int):bJ:=if n<10 then [qx (48+n.toNat)] else [qx (48+n.toNat/10),qx (48+n.toNat%10)]
def lz (l:List Int):bJ:=l.flatMap λn=>pe n++[32]
def ox:List (bJ×Int)->bJ->Option Int|[],_=>none|t::ts,k=>if k=t.1 then some t.2 else ox ts k
def nq (l:List Int):List Int:=l.map λx=>-x
def eU (l:List Int):List Int:=l.map λx=>x+1
variable (c:Nat)
def jW(l:List Int)(t:bW):Int×bW :=(((c+(t.h+1):Nat):Int),⟨t.h+1,t.cl++(l.map λx=>[-x,((c+(t.h+1):Nat):Int)])++[-((c+(t.h+1):Nat):Int)::l],t.db⟩)
def vd (l:List Int)(t:bW):Int×bW:=(-(jW c (nq l) t).1,(jW c (nq l) t).2)
def qU(l:List Int)(t:bW):Int×bW :=if l.length=1 then (l.getD 0 0+1,t) else match ox t.db (lz l)with|some x=>(x,t)|none=>((jW c (eU l) t).1,{ (jW c (eU l) t).2 with db:=t.db++[(lz l,(jW c (eU l) t).1)] })
def wD(x y w:Int)(t:bW):Int×bW :=(((c+(t.h+1):Nat):Int),⟨t.h+1,t.cl++[[-w,-x,((c+(t.h+1):Nat):Int)],[-w,x,-((c+(t.h+1):Nat):Int)],[w,-y,((c+(t.h+1):Nat):Int)],[w,y,-((c+(t.h+1):Nat):Int)]],t.db⟩)
def pS(k:Int)(ls:List Int)(t:bW):Int×bW :=if k=2 then vd c ls t else if k=3 then jW c ls t else if k=4 then (if ls.length=3 then wD c (ls.getD 0 0) (ls.getD 2 0) (ls.getD 1 0) t else jW c [ls.getD 0 0,-ls.getD 1 0] t) else if ls.length=3 then wD c (ls.getD 2 0) (ls.getD 0 0) (ls.getD 1 0) t else vd c [ls.getD 0 0,-ls.getD 1 0] t
def ki (l:List Int)(b:Int):List Int:=l.filter λn=>!decide (n=b)
mutual
def aX.fx (l:List bc)(b:Int):aX->bW->Int×bW
 | .mk k d aZ,t=>
  if k=1 then qU l.length (ki (jU l d) b) t
  else if k=6\/k=7 then qU l.length (ki (bL (λp=>(aX.mk k d aZ).alone p) l) b) t
  else pS l.length k (aX.fl l b aZ t).1 (aX.fl l b aZ t).2
def aX.fl (l:List bc)(b:Int):List aX->bW->List Int×bW
 | [],t=>([],t)
 | r::rs,t=>((r.fx l b t).1::(aX.fl l b rs (r.fx l b t).2).1,(aX.fl l b rs (r.fx l b t).2).2)
end
end Go.Id.Md
namespace Go.Id.Md
open Go Go.Id
def jh (V:Nat)(x:Int):Prop:=x≠0/\-(V:Int)<=x/\x<=V
variable {x:Int}
def jh.mono{V W:Nat}(h:jh V x)(b:V<=W):jh W x:=⟨h.1,by have:=h.2.1;omega,by have:=h.2.2;omega⟩
def jh.neg{V:Nat}(h:jh V x):jh V (-x):=⟨by have:=h.1;omega,by have:=h.2.2;omega,by have:=h.2.1;omega⟩
structure bW.OK (c:Nat) (t:bW):Prop where
 cl:∀q∈t.cl,∀x∈q,jh (c+t.h) x
 st:∀e∈t.db,jh (c+t.h) e.2
 kn:(t.db.map (·.1)).Nodup
variable {c:Nat} {t:bW}
def W9{s:List (bJ×Int)}{k:bJ}(h:ox s k=some x):(k,x)∈s:=by induction s with|nil=>cases h|cons t ts ih=>unfold ox at h;split at h;{rename_i e;cases h;rw[e];exact zf};exact zc _ (ih h)
def U9{s:List (bJ×Int)}{k:bJ}(h:ox s k=none):k ∉ s.map (·.1):=by induction s with|nil=>exact qi|cons t ts ih=>unfold ox at h;split at h;{cases h};rename_i e;rw[zd,zb];exact λb=>b.elim e (ih h)
end Go.Id.Md
namespace Go.Id.Md
open Go Go.Id
def cK.mn (p:cK)(n:Int):Int:=if 0<=n/\n<p.bx.length then (p.bx.getD n.toNat ⟨default,0,0⟩).lx else -1
def Su{r:ey}:∀(l:List cF)(i:Nat),r∈rB i l->0<=r.lx/\∃x∈l,r.prio=x.priority:=by intro l;induction l with|nil=>intro i h;cases h|cons x xs ih=>intro i h;rw[rB]at h;rcases zj.1 h with h|h;{obtain ⟨q,_,rfl⟩:=zo.1 h;exact ⟨Int.natCast_nonneg _,x,zf,rfl⟩};have⟨e,y,b,d⟩:=ih _ h;exact ⟨e,y,zc _ b,d⟩
def np:List (Int->Int->Int)->(Int->Int->Int)->Int->Int->Int|[],c,n,m=>c n m|f::fs,c,n,m=>lex (f n m) (np fs c n m)
variable {c:Int->Int->Int}
def Gy{S:Int->Prop}(hc:WO S c):∀b:List (Int->Int->Int),(∀f∈b,WO S f)->WO S (np b c):=by intro b;induction b with|nil=>intro _;exact hc|cons f b ih=>intro h;exact (h f zf).lex (ih λg d=>h g (zc _ d))
def FI(d:∀n m,c n m=0->n=m):∀(b:List (Int->Int->Int))(n m:Int),np b c n m=0->n=m:=by intro b;induction b with|nil=>exact d|cons f b ih=>intro n m h;simp only[np,lex]at h;split at h;{exact ih n m h};contradiction
def vq (c:Int->Int->Int)(zs:List Int):List Int:=zs.mergeSort λx y=>!decide (c y x<0)
def Ia (c:Int->Int->Int)(zs:List Int):(vq c zs).Perm zs:=qd _ _
def Zc{S:Int->Prop}(hc:WO S c)(k:∀n m,c n m=0->n=m){zs:List Int}(s:∀x∈zs,S x)(q:zs.Nodup):(vq c zs).Pairwise λx y=>c x y<0:=by have e:(vq c zs).Nodup:=(Ia c zs).nodup_iff.2 q;have p:(vq c zs).Pairwise λx y=>(!decide (c y x<0))=true:=(by unfold vq;let T:={ n:Int // S n };let L:List T:=zs.attach.map λx=>⟨x.1,s x.1 x.2⟩;have u:L.map (·.1)=zs:=(by show (q5 _ (q5 _ _))=_;rw[qa];exact qm _);rw[<- u,<- q7 (r:=λx y:T=>!decide (c y.1 x.1<0)) (λ_ _ _ _=>rfl)];refine z1.map _ (λ_ _ h=>h) ?_;refine qv ?_ ?_ L;{intro a b d i g;have D:=hc.tr a.1 b.1 d.1 a.2 b.2 d.2;have j:=hc.neg a.1 b.1;have B:=hc.neg b.1 d.1;have A:=hc.neg a.1 d.1;simp only[jc,au]at i g ⊢;omega};intro a b;have j:=hc.neg a.1 b.1;by_cases h:c a.1 b.1<0;{have:¬c b.1 a.1<0:=om;simp[h,this]};simp[h]);refine p.imp₂ (λ{x y} i g=>?_) e;have j:=hc.neg x y;have f:x≠y:=g;have z:¬c y x<0:=(by simpa using i);have:c x y≠0:=λh=>f (k _ _ h);omega
def MF{S:Int->Prop}(hc:WO S c)(j:∀n m,c n m=0->n=m){zs ds:List Int}(p:∀x∈zs,S x)(g:zs.Nodup)(f:ds.Perm zs)(k:ds.Pairwise λx y=>x=y\/c x y<0):ds=vq c zs:=by have e:ds.Nodup:=f.nodup_iff.2 g;have d:ds.Pairwise λx y=>c x y<0:=k.imp₂ (λ{x y} i h=>i.resolve_left h) e;exact List.Perm.eq_of_pairwise (λa b _ _ i h=>by have:=hc.neg a b;omega) d (Zc hc j p g) (f.trans (Ia c zs).symm)
namespace bM
variable (o:bM)
def ED (i n:Int):Int:=eR (decide ((o.a.pk n).name=(o.a.pk i).name))
def jy (i n m:Int):Int:=lex (cJ (o.ED i n) (o.ED i m)) (fC (o.a.pk m).bB (o.a.pk n).bB)
def lO (i n m:Int):Int:=cJ (eR (decide (n=i))) (eR (decide (m=i)))
def pM (n m:Int):Int:=cJ (eR (decide (0<=o.a.p.mn n))) (eR (decide (0<=o.a.p.mn m)))
def iB (fs:List (Int->Int->Int))(i:Int):List Int:=vq (np fs o.cmp) (o.a.eB i)
abbrev sX (n:Int):Prop:=(o.a.pk n).bB.rel≠[]
def Q8(i:Int):WO o.sX (o.jy i):=((wN.of (o.ED i)).sub λ_ _=>trivial).lex ((Qo.of λn=>(o.a.pk n).bB).flip)
def kc5 (i:Int):WO o.sX (lO i):=(wN.of λn=>eR (decide (n=i))).sub λ_ _=>trivial
def kc6:WO o.sX o.pM:=(wN.of λn=>eR (decide (0<=o.a.p.mn n))).sub λ_ _=>trivial
def qB{i n:Int}(h:n∈o.a.eB i):o.a.is n=true:=by unfold bg.eB at h;split at h;{obtain ⟨m,rfl,b,_⟩:=pB.1 h;rw[bg.nK];exact ao b};cases h
def E7(i:Int):(o.a.eB i).Nodup:=by unfold bg.eB;split;{exact (I8 _ _).imp λh e=>by omega};exact z5
def Fk (b:List (Int->Int->Int))(i:Int):(o.iB b i).Perm (o.a.eB i):=Ia _ _
variable (hr:∀n,o.a.is n=true->(o.a.pk n).bB.rel≠[])
include hr
end bM
namespace bM
variable (o:bM)
variable (hr:∀n,o.a.is n=true->(o.a.pk n).bB.rel≠[])
include hr
theorem NH{i:Int}:∀f∈[lO i],WO o.sX f:=λf hf=>by rw[z6]at hf;subst hf;exact o.kc5 i
theorem O8{i:Int}:∀f∈[o.jy i],WO o.sX f:=λf hf=>by rw[z6]at hf;subst hf;exact o.Q8 i
theorem NI{i:Int}:∀f∈[o.pM,o.jy i],WO o.sX f:=λf hf=>by simp only[zb,qi,aj]at hf;rcases hf with rfl|rfl;{exact o.kc6};exact o.Q8 i
theorem kc7 {b:List (Int->Int->Int)}{i x:Int}(hx:x∈o.iB b i):o.a.is x=true:=o.qB ((o.Fk b i).mem_iff.1 hx)
end bM
section
variable {R R':Int->Int->Bool} {L L':List Int}
open Classical in
variable {w w':Int->Int->Bool}
theorem H7{l:List Int}{i:Nat}(h:i<l.length):(l.getD i 0::l.eraseIdx i).Perm l:=by have e:l.getD i 0=l[i]:=(by simp[zg,h]);rw[e];clear e;induction l generalizing i with|nil=>exact aw h (Nat.not_lt_zero _)|cons a l ih=>cases i with|zero=>exact List.Perm.refl _|succ i=>have hi:i<l.length:=(by simpa using h);exact (List.Perm.swap _ _ _).trans ((ih hi).cons _)
end
structure Step where
 kind:Int
 p:Int
 deriving DecidableEq,Inhabited
section
variable {R:Int->Int->Bool} {l l':List Step}
end
section
variable {R w:Int->Int->Bool} {L left:List Int}
end
def sY (p:aX×Bool):Option bC:=if p.1.kind=1 then some p.1.dep else none
theorem UW(r:aX):∀b c,(r.parts b).filterMap sY=(r.parts c).filterMap sY:=by induction r using aX.ind with|h k d xs ih=>intro b c;have hs:∀(e:List aX),(∀y∈e,y∈xs)->∀b c,(aX.mj e b).filterMap sY=(aX.mj e c).filterMap sY:=(by intro e;induction e with|nil=>intro _ b c;rfl|cons y e ih2=>intro h b c;simp only[aX.mj,qz];rw[ih y (h y zf) b c,ih2 (λz f=>h z (zc _ f)) b c]);simp only[aX.parts,q6];rw[hs xs (λ_ h=>h) _ (c||decide (k=6)||decide (k=7))];rfl
theorem SL(xs:List aX):∀b,(aX.mj xs b).filterMap sY=xs.flatMap aX.atoms:=by induction xs with|nil=>intro b;rfl|cons y ys ih=>intro b;simp only[aX.mj,qz,z0];rw[ih b,UW y b false];rfl
theorem Zd(k:Int)(d:bC)(xs:List aX):(aX.mk k d xs).atoms=(if k=1 then [d] else [])++xs.flatMap aX.atoms:=by show (aX.parts (aX.mk k d xs) false).filterMap sY=_;simp only[aX.parts,q6];rw[SL];by_cases h:k=1;{have:sY (aX.mk k d xs,false)=some d:=(by unfold sY;rw[ab];rfl;exact h);rw[this,ab h];rfl};have:sY (aX.mk k d xs,false)=none:=(by unfold sY;rw[aa];exact h);rw[this,aa h];rfl
theorem aX.MG{k:Int}{d:bC}{xs:List aX}{a:aX}(h:a∈xs):a.count<=(aX.mk k d xs).count:=by have:∀b:List aX,a∈b->a.count<=aX.counts b:=(by intro b;induction b with|nil=>intro h;cases h|cons y b ih=>intro h;simp only[aX.counts];rcases zb.1 h with rfl|h;{omega};have:=ih h;omega);have:=this xs h;simp only[aX.count];omega
theorem Sf:∀(l:List cF)(i:Nat),(rB i l).map (·.prio)=l.flatMap λr=>qn r.br.length r.priority:=by intro l;induction l with|nil=>intro i;rfl|cons r rs ih=>intro i;unfold rB;rw[zr,ih,z0];congr 1;unfold rowsOf;rw[qa];exact List.map_const' ..
theorem UX{b:List cF}{a7:List bc}{p:cK}(h:iq b a7=.inl p):p.bx.map (·.prio)=wO b a7.length:=by rw[(yT h).1,zr,Sf];unfold wO rowsOf;congr 1;rw[qa];exact List.map_const' ..
theorem Jw(a b:Int):decide (cJ a b<0)=decide (a<b):=by unfold cJ;by_cases h:a<b;{simp[h]};rw[aa h];by_cases e:a=b<;>simp[h,e]
theorem uZ (x y:Int):decide (lex x y<0)=if x=0 then decide (y<0) else decide (x<0):=by unfold lex;split<;>rfl
theorem Ea (b c:Bool):cJ (bM.eR b) (bM.eR c)=if b=c then 0 else if b=true then -1 else 1:=by cases b<;>cases c<;>rfl
namespace bM
variable (o:bM)
def Gz(n m:Int):Bool :=if o.a.fits n=o.a.fits m then if gI o.a.r.b9 (o.a.pk n).b9=gI o.a.r.b9 (o.a.pk m).b9 then if o.prio n=o.prio m then if o.lk n=o.lk m then if fC (o.a.pk n).bB (o.a.pk m).bB=0 then decide (n<m) else decide (0<fC (o.a.pk n).bB (o.a.pk m).bB) else o.lk n else decide (o.prio m<o.prio n) else decide (gI o.a.r.b9 (o.a.pk n).b9<gI o.a.r.b9 (o.a.pk m).b9) else o.a.fits n
theorem O9(n m:Int):decide (o.cmp n m<0)=o.Gz n m:=by unfold cmp Gz;have i:=Ic (o.a.pk n).bB (o.a.pk m).bB;rw[uZ,uZ,uZ,uZ,uZ,Ea,Ea,Jw,Jw,Jw,i];by_cases f:o.a.fits n=o.a.fits m;{rw [ab f,ab f,ab rfl];by_cases e:gI o.a.r.b9 (o.a.pk n).b9=gI o.a.r.b9 (o.a.pk m).b9;{rw[ab (p8.2 e),ab e];by_cases d:o.prio n=o.prio m;{rw[ab (p8.2 d.symm),ab d];by_cases b:o.lk n=o.lk m;{rw[ab b,ab b,ab rfl];by_cases g:fC (o.a.pk n).bB (o.a.pk m).bB=0;{rw[ab g,ab om]};rw[aa g,aa om,decide_eq_decide];omega};rw[aa b,aa b];cases j:o.lk n<;>simp};rw[aa λh=>d (p8.1 h).symm,aa d]};rw[aa λh=>e (p8.1 h),aa e]};rw[aa f,aa f];cases j:o.a.fits n<;>simp
def upD(i n m:Int):Bool :=if decide ((o.a.pk n).name=(o.a.pk i).name)=decide ((o.a.pk m).name=(o.a.pk i).name) then if fC (o.a.pk n).bB (o.a.pk m).bB=0 then decide (o.cmp n m<0) else decide (0<fC (o.a.pk n).bB (o.a.pk m).bB) else decide ((o.a.pk n).name=(o.a.pk i).name)
theorem Qk(i n m:Int):decide (lex (o.jy i n m) (o.cmp n m)<0)=o.upD i n m:=by unfold upD jy ED;have f:=Ic (o.a.pk n).bB (o.a.pk m).bB;rw[uZ,f,Ea];by_cases d:decide ((o.a.pk n).name=(o.a.pk i).name)=decide ((o.a.pk m).name=(o.a.pk i).name);{rw[ab d,ab d];unfold lex;rw[ab rfl];by_cases e:fC (o.a.pk n).bB (o.a.pk m).bB=0;{rw[ab om,ab e]};rw[aa om,aa e,decide_eq_decide];omega};rw[aa d,aa d];unfold lex;by_cases b:(o.a.pk n).name=(o.a.pk i).name;{rw[ab (ao b)];simp[b]};rw[aa (by simp[b])];simp[b]
end bM
def o9(r:Int->Int->Bool)(out:List Int)(z:Int):Nat->Nat|0=>0|k+1=>if r (out.getD k 0) z=true then k+1 else o9 r out z k
theorem Pa(r:Int->Int->Bool)(b:List Int)(z:Int):∀k,o9 r b z k<=k:=by intro k;induction k with|zero=>exact z7 _|succ k ih=>unfold o9;split<;>omega
def sk (r:Int->Int->Bool)(out:List Int)(z:Int):List Int:=out.take (o9 r out z out.length)++z::out.drop (o9 r out z out.length)
def ot (r:Int->Int->Bool)(out:List Int)(z:Int):List Int:=if z∈out then out else sk r out z
def ti (r:Int->Int->Bool)(l:List Int):List Int:=l.foldl (ot r) []
theorem WW(r:Int->Int->Bool)(b:List Int)(z:Int):∀k,(∀j,o9 r b z k<=j->j<k->r (b.getD j 0) z=false)/\(0<o9 r b z k->r (b.getD (o9 r b z k-1) 0) z=true):=by intro k;induction k with|zero=>exact ⟨λj d f=>om,λh=>aw h (Nat.lt_irrefl _)⟩|succ k ih=>unfold o9;split;{rename_i h;exact ⟨λj d f=>om,λ_=>h⟩};rename_i h;refine ⟨λj d f=>?_,ih.2⟩;by_cases e:j=k;{subst e;simpa using h};exact ih.1 j d om
section
variable {S:Int->Prop} {c:Int->Int->Int} {r:Int->Int->Bool} (hc:WO S c) (hz:∀n m,c n m=0->n=m) (hr:∀n m,n≠m->S n->S m->r n m=decide (c n m<0))
include hc hz hr
theorem kv3{f:List Int}{z:Int}(F:∀x∈f,S x)(u:S z)(T:z ∉ f)(H:f.Pairwise λx y=>c x y<0):(sk r f z).Pairwise λx y=>c x y<0:=by
 obtain ⟨p,Q⟩:∃p,p=o9 r f z f.length:=⟨_,rfl⟩;have⟨X,W⟩:=WW r f z f.length;have U:=Pa r f z f.length;unfold sk;rw[<- Q]at *;have i:∀j (h:j<f.length),f.getD j 0=f[j]:=λj h=>by simp[zg,h]
 have s:∀x∈f,x≠z:=λx hx e=>T (e▸hx);have tr:∀a b d,S a->S b->S d->c a b<0->c b d<0->c a d<0:=λa b d M K J q1 Y=>by have k1:=hc.tr a b d M K J;have k2:=hc.tr d a b J M K;have O:=hc.neg a b;have N:=hc.neg b d;have Z:=hc.neg a d;omega
 have V:∀j (h:j<f.length),p<=j->c z f[j]<0:=λj h E=>by have q:=X j E h;rw[i j h,hr _ _ (s _ (zl h)) (F _ (zl h)) u]at q;have G:¬c f[j] z<0:=of_decide_eq_false q;have O:=hc.neg f[j] z;have N:c f[j] z≠0:=λe=>s _ (zl h) (hz _ _ e);omega
 have B:=qo.1 H;have P:∀j (h:j<f.length),j<p->c f[j] z<0:=λj h E=>by have q:=W om;have g:p-1<f.length:=om;rw[i (p-1) g,hr _ _ (s _ (zl g)) (F _ (zl g)) u]at q;have G:c f[p-1] z<0:=aC q;by_cases e:j=p-1;{subst e;exact G};exact tr _ _ _ (F _ (zl h)) (F _ (zl g)) u (B j (p-1) h g om) G
 rw[List.pairwise_append];refine ⟨H.sublist (List.take_sublist _ _),qe.2 ⟨λy A=>?_,H.sublist (List.drop_sublist _ _)⟩,λx hx y A=>?_⟩;{obtain ⟨j,E,rfl⟩:=qp.1 A;exact V _ om om};obtain ⟨j,E,rfl⟩:=List.mem_take_iff_getElem.1 hx;have I:j<p:=om;have D:j<f.length:=om;rcases zb.1 A with rfl|A;{exact P j D I};obtain ⟨k,hk,rfl⟩:=qp.1 A;exact B j (p+k) D om om
omit hc hz hr in theorem Jx{b:List Int}{z x:Int}:x∈sk r b z↔x=z\/x∈b:=by unfold sk;generalize o9 r b z b.length=p;have:x∈b↔x∈b.take p\/x∈b.drop p:=(by conv=>lhs;rw[<- List.take_append_drop p b,zj]);rw[zj,zb,this];constructor;{rintro (h|h|h);{exact .inr (.inl h)};{exact .inl h};exact .inr (.inr h)};rintro (h|h|h);{exact .inr (.inl h)};{exact .inl h};exact .inr (.inr h)
theorem kc8(l:List Int):∀b:List Int,(∀x∈b,S x)->(∀x∈l,S x)->b.Pairwise (λx y=>c x y<0)->(l.foldl (ot r) b).Pairwise (λx y=>c x y<0)/\∀x,x∈l.foldl (ot r) b↔x∈b\/x∈l:=by induction l with|nil=>intro b _ _ g;exact ⟨g,λx=>by simp⟩|cons z l ih=>intro b j p g;rw[qk];have f:=p z zf;have d:=λx hx=>p x (zc _ hx);by_cases h:z∈b;{have e:ot r b z=b:=ab h;rw[e];have⟨q1,i⟩:=ih b j d g;refine ⟨q1,λx=>(i x).trans ⟨λk=>k.imp id (zc _),λk=>?_⟩⟩;rcases k with k|k;{exact .inl k};rcases zb.1 k with rfl|k;{exact .inl h};exact .inr k};have e:ot r b z=sk r b z:=aa h;rw[e];have⟨q1,i⟩:=ih (sk r b z) (λx hx=>by rcases Jx.1 hx with rfl|hx;{exact f};exact j x hx) d (kv3 hc hz hr j f h g);refine ⟨q1,λx=>(i x).trans ?_⟩;rw[Jx,zb];constructor;{rintro ((k|k)|k);{exact .inr (.inl k)};{exact .inl k};exact .inr (.inr k)};rintro (k|k|k);{exact .inl (.inr k)};{exact .inl (.inl k)};exact .inr k
theorem Pb(l:List Int)(b:∀x∈l,S x):(ti r l).Pairwise (λx y=>c x y<0)/\∀x,x∈ti r l↔x∈l:=by have⟨e,d⟩:=kc8 hc hz hr l [] (λ_ h=>by cases h) b z1.nil;exact ⟨e,λx=>(d x).trans (by simp)⟩
theorem Jy(l:List Int)(g:∀x∈l,S x)(i:l.Nodup):ti r l=vq c l:=by have⟨j,k⟩:=Pb hc hz hr l g;have d:∀x,c x x=0:=λx=>(by have:=hc.neg x x;omega);have f:(ti r l).Nodup:=j.imp λ{a b} h e=>(by subst e;rw[d]at h;omega);exact MF hc hz g i ((z4 f i).2 k) (j.imp .inr)
end
theorem Ze(r:Int->Int->Bool)(l:List Int):∀b:List Int,(l.foldl (ot r) b).length<=b.length+l.length:=by induction l with|nil=>intro b;exact z7 _|cons z l ih=>intro b;rw[qk,zy];have:=ih (ot r b z);have h:(ot r b z).length<=b.length+1:=(by unfold ot sk;split;{omega};rw[ze,zy,List.length_take,List.length_drop];omega);omega
namespace bM
def gT(o:bM)(how:Nat)(i n m:Int):Bool :=if how=1/\(n=i\/m=i) then decide (n=i) else if how=3/\decide (n<o.a.p.a7)≠decide (m<o.a.p.a7) then decide (o.a.p.a7<=n) else if how=2\/how=3 then o.upD i n m else decide (o.cmp n m<0)
variable (o:bM)
theorem kc9(i n m:Int):o.gT 0 i n m=decide (o.cmp n m<0):=by unfold gT;rw[aa om,aa om,aa om]
theorem kd1{i n m:Int}(h:n≠m):o.gT 1 i n m=decide (np [lO i] o.cmp n m<0):=by show o.gT 1 i n m=decide (lex (cJ (eR (decide (n=i))) (eR (decide (m=i)))) (o.cmp n m)<0);unfold gT;rw[uZ,Ea];by_cases d:n=i;{have b:¬m=i:=λe=>h (d.trans e.symm);rw[ab ⟨rfl,.inl d⟩,ao d,aq b];simp};by_cases b:m=i;{rw[ab ⟨rfl,.inr b⟩,aq d,ao b];simp};rw[aa (by rintro ⟨_,h|h⟩<;>contradiction),aa om,aa om,aq d,aq b];simp
theorem kd2(i n m:Int):o.gT 2 i n m=decide (np [o.jy i] o.cmp n m<0):=by show o.gT 2 i n m=decide (lex (o.jy i n m) (o.cmp n m)<0);unfold gT;rw[aa om,aa om,ab (.inl rfl),o.Qk]
theorem kd3(i:Int){n m:Int}(d:decide (0<=o.a.p.mn n)=!decide (n<o.a.p.a7))(e:decide (0<=o.a.p.mn m)=!decide (m<o.a.p.a7)):o.gT 3 i n m=decide (np [o.pM,o.jy i] o.cmp n m<0):=by show o.gT 3 i n m=decide (lex (cJ (eR (decide (0<=o.a.p.mn n))) (eR (decide (0<=o.a.p.mn m)))) (lex (o.jy i n m) (o.cmp n m))<0);unfold gT;rw[aa om,uZ,o.Qk,Ea,d,e];by_cases h:n<o.a.p.a7;{by_cases b:m<o.a.p.a7;{simp[h,b]};have:¬o.a.p.a7<=n:=om;simp[h,b,this]};by_cases b:m<o.a.p.a7;{have:o.a.p.a7<=n:=om;simp[h,b,this]};simp[h,b]
end bM
theorem WX{b:List cF}{a7:List bc}{p:cK}(h:iq b a7=.inl p){n:Nat}(d:n<p.bx.length):decide (0<=p.mn n)=!decide ((n:Int)<p.a7):=by
 have⟨k,j⟩:=yT h;have hc:0<=(n:Int)/\(n:Int)<p.bx.length:=om;have f:p.mn n=p.bx[n].lx:=by unfold cK.mn;rw[ab hc];simp[zg,d]
 have s:(rowsOf a7 (-1) 1025).length=a7.length:=by simp[rowsOf]
 obtain ⟨x,hx⟩:∃x,x=p.bx[n]:=⟨_,rfl⟩;have e:p.bx[n]? = some x:=by rw[hx];exact qq d
 rw[f,j,<- hx];rw[k]at e;clear hx f;by_cases hi:n<a7.length;{have:x.lx=-1:=(by rw[List.getElem?_append_left om]at e;have i:=q3 e;have⟨q,_,g⟩:=zo.1 i;rw[<- g]);rw[this];simp[hi]};have:0<=x.lx:=by rw[List.getElem?_append_right om]at e;exact (Su _ _ (q3 e)).1
 simp[this,hi]
end Go.Id.Md
