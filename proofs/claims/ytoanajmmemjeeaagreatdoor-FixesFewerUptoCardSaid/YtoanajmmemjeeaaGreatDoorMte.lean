/- The document's data,and what functions give,in plain words. Conditions: none; no program in sight. -/
import Derived.Test.YtoanajmmemjeeaaGreatDoorFwQ
open List renaming map_cons→za,mem_cons→zb,length_append→zd,mem_cons_of_mem→ze,mem_range→zf,mem_cons_self→zg,mem_append→zh,mem_map→zi,mem_flatMap→zj,getElem?_append_left→zk,nodup_cons→zl,mem_filter→zn,getElem?_eq_some_iff→zo,nodup_append→zp,range_succ→zq,range→zr,getElem?_eq_getElem→zs,all_eq_true→zt,mem_singleton→zu,flatMap_append→zv,map_append→zx,getElem?_take→zy,mem_iff_getElem?→z0,not_mem_nil→z1,length_cons→z2,length_map→z4,getElem?_append_right→z7,getD_eq_getElem?_getD→z8,pairwise_iff_getElem→z9,sum_cons→qa,flatMap_nil→qb,length_filter_le→qd,nodup_nil→qe,mem_of_getElem?→qf,mem_append_left→qg,filter_append→qh,pairwise_map→qi,length_range→qj,flatMap_cons→qk,filter_congr→ql,getElem_mem→qm,getElem_map→qn,range_zero→qo,find?_cons→qp,perm_ext_iff_of_nodup→qq,all_cons→qr,Pairwise→qt,mem_append_right→qx,length_singleton→qy,countP_mono_left→qz,mem_iff_getElem→q0,append_assoc→q2
open Bool renaming and_eq_true→zc,or_eq_true→z5,eq_iff_iff→qc,and_comm→qu
open Nat renaming le_refl→zm,zero_le→zz,le_trans→z6,lt_or_ge→qw,mul_le_mul_right→q1
open Classical renaming propDecidable→zw
open Int renaming neg_neg→z3
open UInt8 renaming ofNat→qv
set_option linter.all false
private theorem om{P:Prop}(h:P:=by omega):P:=h
namespace Go.Id.Md
open Go Go.Id
abbrev bB:=List UInt8
structure dX where
 jH:Int
 fe:bB
 rel:bB
 deriving DecidableEq,Inhabited
structure bD where
 name:bB
 op:Int
 cg:dX
 deriving DecidableEq,Inhabited
inductive aS where|mk (kind:Int)(dep:bD)(args:List aS) deriving Inhabited
def aS.kind:aS->Int|.mk k _ _=>k
def aS.dep:aS->bD|.mk _ d _=>d
def aS.args:aS->List aS|.mk _ _ a=>a
structure ba where
 name:bB
 cg:dX
 dE:Int
 bz:bB
 aX:List bD
 bq:List aS
 conflicts:List aS
 cR:List bD
 sr:List aS
 sl:List aS
 dB:List aS
 sA:List aS
 files:List bB
 deriving Inhabited
structure cM where
 priority:Int
 bn:List ba
 deriving Inhabited
def dX.fit (e:dX):Prop:=e.fe.length<2^62/\e.rel.length<2^62
def bD.fit (d:bD):Prop:=d.name.length<2^62/\d.cg.fit
def aS.ind{p:aS->Prop}(h:∀k d b,(∀a∈b,p a)->p (.mk k d b))(r:aS):p r :=aS.rec (motive_1:=p) (motive_2:=λl=>∀a∈l,p a) (λk d b c=>h k d b c) (λ_ h=>by cases h) (λr g f e a ha=>by rcases zb.1 ha with rfl|h;{exact f};exact e a h) r
mutual
def aS.fit:aS->Prop
 | .mk k d aZ=>0<=k/\k<256/\d.fit/\aZ.length<2^31/\aS.fits aZ
def aS.fits:List aS->Prop
 | []=>True
 | r::rs=>r.fit/\aS.fits rs
end
def aS.Yc(l:List aS):aS.fits l↔∀r∈l,r.fit:=by induction l with|nil=>simp[aS.fits]|cons r rs ih=>simp[aS.fits,ih]
def aS.tM{k:Int}{d:bD}{a:List aS}:(aS.mk k d a).fit↔0<=k/\k<256/\d.fit/\a.length<2^31/\∀r∈a,r.fit:=by simp only[aS.fit,aS.Yc]
def dX.cs (e:dX):List IV:=[.int .i64 e.jH,.str e.fe,.str e.rel]
def bD.cs (d:bD):List IV:=[.str d.name,.int .u8 d.op,.int .i64 d.cg.jH,.str d.cg.fe,.str d.cg.rel]
mutual
def aS.cs:aS->List IV
 | .mk k d aZ=>[.int .u8 k,.str d.name,.int .u8 d.op,.int .i64 d.cg.jH,.str d.cg.fe,.str d.cg.rel,.aW (aS.css aZ)]
def aS.css:List aS->List (List IV)
 | []=>[]
 | r::rs=>r.cs::aS.css rs
end
def aS.jv2(l:List aS):aS.css l=l.map aS.cs:=by induction l with|nil=>rfl|cons r rs ih=>simp only[aS.css,ih,za]
def aS.iT(r:aS):r.cs=[.int .u8 r.kind,.str r.dep.name,.int .u8 r.dep.op,.int .i64 r.dep.cg.jH,.str r.dep.cg.fe,.str r.dep.cg.rel,.aW (r.args.map aS.cs)]:=by cases r with|mk k d aZ=>simp only[aS.cs,aS.jv2,aS.kind,aS.dep,aS.args]
def gq (s:bB):List IV:=[.str s]
abbrev jL (l:List bD):IV:=.aW (l.map bD.cs)
abbrev jE (l:List aS):IV:=.aW (l.map aS.cs)
abbrev strs (l:List bB):IV:=.aW (l.map gq)
def ba.cs(p:ba):List IV :=[.str p.name,.int .i64 p.cg.jH,.str p.cg.fe,.str p.cg.rel,.int .u8 p.dE,.str p.bz,jL p.aX,jE p.bq,jE p.conflicts,jL p.cR,jE p.sr,jE p.sl,jE p.dB,jE p.sA,strs p.files]
def cM.cs (r:cM):List IV:=[.int .i64 r.priority,.aW (r.bn.map ba.cs)]
def ba.bg (p:ba):List (Int×List aS):=[(1,p.bq),(2,p.conflicts),(1,p.sr),(3,p.sl),(1,p.dB),(3,p.sA)]
def jR:bB:=[97,98,99,100,101,102,103,104,105,106,107,108,109,110,111,112,113,114,115,116,117,118,119,120,121,122,65,66,67,68,69,70,71,72,73,74,75,76,77,78,79,80,81,82,83,84,85,86,87,88,89,90,48,49,50,51,52,53,54,55,56,57,46,95,43,45,47,58,64,126,94]
def NK (b:UInt8):Bool:=(decide (97<=b.toNat)&&decide (b.toNat<=122))||(decide (65<=b.toNat)&&decide (b.toNat<=90))||(decide (48<=b.toNat)&&decide (b.toNat<=57))
def rJ (b:UInt8):Bool:=jR.contains b
def words:List bB:=[[97,110,100],[111,114],[105,102],[101,108,115,101],[117,110,108,101,115,115],[119,105,116,104],[119,105,116,104,111,117,116]]
def mo (s:bB):Bool:=decide (1<=s.length)&&decide (s.length<=64)&&s.all rJ&&!words.contains s
def rK (s:bB):Bool:=mo s&&(s.head? == some 47)
def pE (b:UInt8):Bool:=NK b || [46,95,43,126,94].contains b
def pZ (s:bB):Bool:=decide (1<=s.length)&&decide (s.length<=64)&&s.all pE
def qA (e:dX)(dep:Bool):Bool:=decide (0<=e.jH)&&decide (e.jH<=2147483647)&&pZ e.fe&&(pZ e.rel||dep&&e.rel.isEmpty)
def B9 (op:Int):Bool:=[0,1,2,3,4,6].contains op
def D8:dX:=⟨0,[],[]⟩
def kf:bD:=⟨[],0,D8⟩
def iz (d:bD):Bool:=mo d.name&&B9 d.op&&(if d.op=0 then decide (d.cg=D8) else !rK d.name&&qA d.cg true)
def cL (b:UInt8):Nat:=if b=126 then 1 else if b=94 then 3 else if decide (97<=b)&&decide (b<=122)||decide (65<=b)&&decide (b<=90) then 4 else if decide (48<=b)&&decide (b<=57) then 5 else 0
structure Part where
 kind:Nat
 s:bB
 deriving DecidableEq,Inhabited
def lq:Nat->bB->List Part|0,_=>[]|_+1,[]=>[]|n+1,b::l=>if cL b=0 then lq n l else if cL b<4 then ⟨cL b,[]⟩::lq n l else ⟨cL b,if cL b=5 then ((b::l).takeWhile λc=>cL c==cL b).dropWhile (· == 48) else (b::l).takeWhile λc=>cL c==cL b⟩::lq n ((b::l).dropWhile λc=>cL c==cL b)
def eo (s:bB):List Part:=lq s.length s
def gS (a b:Int):Int:=if a<b then -1 else if a=b then 0 else 1
def mH (a b:bB):Int:=if Op.bytesLess a b then -1 else if a=b then 0 else 1
def mR(a b:Part):Int :=let k:=gS a.kind b.kind;if k≠0 then k else let n:=if a.kind=5/\b.kind=5 then gS a.s.length b.s.length else 0;if n≠0 then n else mH a.s b.s
def mM:List Part->List Part->Int|a::aZ,b::bs=>if mR a b≠0 then mR a b else mM aZ bs|_,_=>0
def nC (a b:bB):Int:=mM (eo a++[⟨2,[]⟩]) (eo b++[⟨2,[]⟩])
def pj(a b:dX):Int :=if gS a.jH b.jH≠0 then gS a.jH b.jH else if nC a.fe b.fe≠0 then nC a.fe b.fe else if a.rel=[]\/b.rel=[] then 0 else nC a.rel b.rel
def bit (op:Int)(i:Nat):Bool:=(op.toNat).testBit i
def side (n:Int):Nat:=if n<0 then 0 else if n=0 then 1 else 2
def meet(a b:bD):Bool :=if a.op.toNat%8=0\/b.op.toNat%8=0 then true else let n:=pj a.cg b.cg;if n=0 then bit a.op 0&&bit b.op 0||bit a.op 1&&bit b.op 1||bit a.op 2&&bit b.op 2 else bit a.op (side (-n))||bit b.op (side n)
mutual
def aS.count:aS->Nat
 | .mk _ _ aZ=>aS.counts aZ+1
def aS.counts:List aS->Nat
 | []=>0
 | r::rs=>r.count+aS.counts rs
end
mutual
def aS.depth:aS->Nat
 | .mk k _ aZ=>if k=1 then 0 else aS.nD aZ+1
def aS.nD:List aS->Nat
 | []=>0
 | r::rs=>max r.depth (aS.nD rs)
end
-- All parts,and whether each stands within a With,or a Without.
mutual
def aS.parts:aS->Bool->List (aS×Bool)
 | .mk k d aZ,alone=>(.mk k d aZ,alone)::aS.oB aZ (alone||decide (k=6)||decide (k=7))
def aS.oB:List aS->Bool->List (aS×Bool)
 | [],_=>[]
 | r::rs,alone=>r.parts alone++aS.oB rs alone
end
def asks(k:Int):Nat×Nat×Bool×Nat :=if k=1 then (0,0,true,3) else if k=2 then (2,24,true,3) else if k=3 then (2,24,true,3) else if k=4 then (2,3,false,1) else if k=5 then (2,3,false,2) else if k=6 then (2,24,true,3) else if k=7 then (2,2,true,3) else (0,0,false,0)
def fE(wh:Int)(r:aS)(alone:Bool):Bool :=let x:=asks r.kind;!(decide ((x.2.2.2:Int)<wh)||alone&&!x.2.2.1||decide (r.args.length<x.1)||decide (x.2.1<r.args.length)) && (if r.kind=1 then iz r.dep else decide (r.dep=kf))
def ku(r:aS)(wh:Int):Int :=if wh<1\/3<wh then 1 else if r.count>24 then 40 else if r.depth>8 then 21 else if (r.parts false).all λp=>fE wh p.1 p.2 then 0 else 4
structure ba.Fit (p:ba):Prop where
 name:p.name.length<2^62
 cg:p.cg.fit
 dL:p.aX.length<2^31/\∀d∈p.aX,d.fit
 oi:p.cR.length<2^31/\∀d∈p.cR,d.fit
 files:p.files.length<2^31/\∀s∈p.files,s.length<2^62
 oJ:∀x∈p.bg,x.2.length<2^31/\∀r∈x.2,r.fit/\r.count<2^31
def iR (a:Int):Bool:=decide (1<=a)&&decide (a<=4)
def rising:List bB->Bool|a::b::l=>Op.bytesLess a b&&rising (b::l)|_=>true
def mc (l:List aS)(wh:Int):Bool:=decide (l.length<=32)&&l.all λr=>decide (ku r wh=0)
def fF(p:ba):Bool :=mo p.name&&!rK p.name&&qA p.cg false&&iR p.dE&&decide (p.bz.length<=64) && (decide (p.aX.length<=32)&&p.aX.all iz)&&(decide (p.cR.length<=32)&&p.cR.all iz)&&(decide (p.files.length<=32)&&p.files.all rK) && rising p.files&&mc p.bq 1&&mc p.conflicts 2&&mc p.sr 1&&mc p.sl 3&&mc p.dB 1&&mc p.sA 3
def own (p:ba):bD:=⟨p.name,2,p.cg⟩
def meets (a d:bD):Bool:=decide (a.name=d.name)&&meet a d
def named (p:ba)(d:bD):Bool:=meets (own p) d
def aX (p:ba)(d:bD):Bool:=named p d||p.aX.any (λa=>meets a d)||decide (d.op=0)&&p.files.contains d.name
def cR (p q:ba):Bool:=p.cR.any λd=>named q d
end Go.Id.Md
namespace Go.Id.Md
open Go Go.Id
structure eK where
 iN:ba
 nW:Int
 prio:Int
def eK.cs (r:eK):List IV:=r.iN.cs++[.int .i64 r.nW,.int .i64 r.prio]
abbrev eB:=List (bB×List Int)
def fW:eB->bB->Int->eB|[],k,n=>[(k,[n])]|t::ts,k,n=>if k=t.1 then (k,t.2++[n])::ts else t::fW ts k n
def sS:eB->Nat->List ba->eB|nm,_,[]=>nm|nm,n,p::ps=>sS (fW nm p.name n) (n+1) ps
def bu (n:Int):List IV:=[.int .i64 n]
def dk (nm:eB):List (IV×IV):=nm.map λt=>(.str t.1,.aW (t.2.map bu))
structure dI where
 bg:List eK
 aU:Int
 nm:eB
def dI.v (p:dI):IV:=.bd [.aW (p.bg.map eK.cs),.int .i64 p.aU,.bY (dk p.nm)]
def rowsOf (l:List ba)(nW prio:Int):List eK:=l.map λp=>⟨p,nW,prio⟩
def Sx (l:List ba)(x:ba)(a b:Int):rowsOf (l++[x]) a b=rowsOf l a b++[⟨x,a,b⟩]:=by simp[rowsOf]
def Eu (l:List ba)(a b:Int):(rowsOf l a b).length=l.length:=by simp[rowsOf]
def mL:Nat->List cM->List eK×eB->Option (List eK×eB)|_,[],st=>some st|i,r::rs,st=>if r.priority<0\/1024<r.priority\/r.bn.all fF=false then none else mL (i+1) rs (st.1++rowsOf r.bn i r.priority,sS st.2 st.1.length r.bn)
def kE (l:List cM):Nat:=(l.map λr=>r.bn.length).sum
def jv(repos:List cM)(aU:List ba):dI ⊕ Int :=if 16<repos.length\/256<aU.length+kE repos then .inr 40 else if aU.all fF=false then .inr 4 else match mL 0 repos (rowsOf aU (-1) 1025,sS [] 0 aU)with|some (bg,nm)=>.inl ⟨bg,aU.length,nm⟩|none=>.inr 4
def JO(r:dI ⊕ Int):IV:=match r with|.inl p=>.tuple [p.v,.int .i64 0]|.inr e=>.tuple [.ee,.int .i64 e]
abbrev fi:=List (bB×List Int×Nat)
def ez (L:fi):List (IV×IV):=L.map λt=>(.str t.1,.slice t.2.2 0 t.2.1.length 1)
def eu (L:fi):eB:=L.map λt=>(t.1,t.2.1)
def eM:fi->bB->Int->Nat->fi|[],k,n,nid=>[(k,[n],nid)]|t::ts,k,n,nid=>if k=t.1 then (k,t.2.1++[n],nid)::ts else t::eM ts k n nid
def jM(L:fi)(k:bB):IV:=match L.find? (λt=>decide (k=t.1))with|some t=>.slice t.2.2 0 t.2.1.length 1|none=>.bc
def ig(L:fi)(k:bB):List Int:=match L.find? (λt=>decide (k=t.1))with|some t=>t.2.1|none=>[]
def Fe(L:fi)(k:bB)(n:Int)(nid:Nat):eu (eM L k n nid)=fW (eu L) k n:=by induction L with|nil=>rfl|cons t ts ih=>simp only[eM,eu,za,fW];split;{rfl};rw[za];congr 1
def kn8(L:fi)(k:bB):(fh 2 (.str k) (ez L)).map (λr=>r.getD .bc)=some (jM L k):=by induction L with|nil=>rfl|cons t ts ih=>simp only[ez,za,fh,zD,jM,qp]at ih ⊢;by_cases h:k=t.1;{simp[h]};simp only[h,aB]at ih ⊢;exact ih
def jv5(L:fi)(k:bB):∃r,fh 2 (.str k) (ez L)=some r/\r.getD .bc=jM L k:=by have:=kn8 L k;cases h:fh 2 (.str k) (ez L)with|none=>rw[h]at this;cases this|some r=>rw[h]at this;exact ⟨r,rfl,by simpa using this⟩
def lj9(L:fi)(k:bB)(n:Int)(nid:Nat):gG 2 (.str k) (.slice nid 0 ((ig L k).length+1) 1) (ez L)=some (ez (eM L k n nid)):=by induction L with|nil=>rfl|cons t ts ih=>simp only[ez,za,gG,zD,ig,qp,eM]at ih ⊢;by_cases h:k=t.1;{simp[h]};simp only[h,aB,ae,za]at ih ⊢;rw[ih];rfl
variable {k:bB}{n:Int}
def FC{nid:Nat}:∀ {L:fi},(L.map (·.1)).Nodup->∀t∈eM L k n nid,(t∈L/\t.1≠k)\/t=(k,ig L k++[n],nid):=by intro L;induction L with|nil=>intro _ t a;simp[eM]at a;exact .inr (by rw[a];rfl)|cons u us ih=>intro b t a;rw[za,zl]at b;simp only[eM]at a;by_cases h:k=u.1;{rw[ab h]at a;rcases zb.1 a with rfl|a;{right;simp[ig,h]};left;exact ⟨ze _ a,λe=>b.1 (by rw[<- h,<- e];exact List.mem_map_of_mem (f:=λx:bB×List Int×Nat=>x.1) a)⟩};rw[aa h]at a;rcases zb.1 a with rfl|a;{left;exact ⟨zg ..,λe=>h e.symm⟩};have e:ig (u::us) k=ig us k:=(by simp[ig,h]);rw[e];rcases ih b.2 t a with ⟨c,d⟩|c;{exact .inl ⟨ze _ c,d⟩};exact .inr c
variable {a:Nat}
def ME:∀(L:fi),(L.map (·.1)).Nodup->((eM L k n a).map (·.1)).Nodup/\∀x∈(eM L k n a).map (·.1),x=k\/x∈L.map (·.1):=by intro L;induction L with|nil=>intro _;simp[eM]|cons u us ih=>intro b;rw[za,zl]at b;simp only[eM];by_cases h:k=u.1;{rw[ab h];refine ⟨?_,?_⟩;{rw[za,zl];exact ⟨by rw[h];exact b.1,b.2⟩};intro x i;simp only[za,zb]at i ⊢;rcases i with c|c;{exact .inl c};exact .inr (.inr c)};rw[aa h];have⟨c,f⟩:=ih b.2;refine ⟨?_,?_⟩;{rw[za,zl];refine ⟨λg=>?_,c⟩;rcases f _ g with e|e;{exact h e.symm};exact b.1 e};intro x i;simp only[za,zb]at i ⊢;rcases i with d|d;{exact .inr (.inl d)};rcases f _ d with e|e;{exact .inl e};exact .inr (.inr e)
def NO:∀(L:fi),(L.map (·.2.2)).Nodup->a ∉ L.map (·.2.2)->((eM L k n a).map (·.2.2)).Nodup/\∀x∈(eM L k n a).map (·.2.2),x=a\/x∈L.map (·.2.2):=by intro L;induction L with|nil=>intro _ _;simp[eM]|cons u us ih=>intro d c;rw[za,zl]at d;simp only[za,zb,not_or]at c;simp only[eM];by_cases h:k=u.1;{rw[ab h];refine ⟨?_,?_⟩;{rw[za,zl];exact ⟨c.2,d.2⟩};intro x j;simp only[za,zb]at j ⊢;rcases j with b|b;{exact .inl b};exact .inr (.inr b)};rw[aa h];have⟨b,g⟩:=ih d.2 c.2;refine ⟨?_,?_⟩;{rw[za,zl];refine ⟨λi=>?_,b⟩;rcases g _ i with e|e;{exact c.1 e.symm};exact d.1 e};intro x j;simp only[za,zb]at j ⊢;rcases j with f|f;{exact .inr (.inl f)};rcases g _ f with e|e;{exact .inl e};exact .inr (.inr e)
def C5(L:fi)(k:bB):(jM L k=.bc/\ig L k=[])\/∃t∈L,t.1=k/\jM L k=.slice t.2.2 0 t.2.1.length 1/\ig L k=t.2.1:=by unfold jM ig;cases h:L.find? (λt=>decide (k=t.1))with|none=>exact .inl ⟨rfl,rfl⟩|some t=>have a:=List.find?_some h;exact .inr ⟨t,List.mem_of_find?_eq_some h,by simpa using (by simpa using a:k=t.1).symm,rfl,rfl⟩
def NP{L:fi}(q:(L.map (·.1)).Nodup)(p:(L.map (·.2.2)).Nodup):∀t∈L,∀u∈L,t.2.2=u.2.2->t=u:=by intro t n u m e;have⟨i,hi,g⟩:=q0.1 n;have⟨j,o,f⟩:=q0.1 m;have c:i=j:=(by have b:i<(L.map (·.2.2)).length:=(by simpa using hi);have a:j<(L.map (·.2.2)).length:=(by simpa using o);have d:=z9.1 p;have k:(L.map (·.2.2))[i]=(L.map (·.2.2))[j]:=(by simp only[qn,g,f,e]);rcases Nat.lt_trichotomy i j with h|h|h;{exact au k (d i j b a h)};{exact h};exact au k.symm (d j i a b h));subst c;rw[<- g,<- f]
mutual
def aS.ok:aS->Prop
 | .mk k d xs=>0<=k/\k<256/\d.fit/\xs.length<2^62/\aS.oks xs
def aS.oks:List aS->Prop
 | []=>True
 | r::rs=>r.ok/\aS.oks rs
end
def aS.jv6(l:List aS):aS.oks l↔∀r∈l,r.ok:=by induction l with|nil=>simp[aS.oks]|cons r rs ih=>simp[aS.oks,ih]
def aS.P4{d:bD}{xs:List aS}:(aS.mk n d xs).ok↔0<=n/\n<256/\d.fit/\xs.length<2^62/\∀r∈xs,r.ok:=by simp only[aS.ok,aS.jv6]
structure ba.Ok (p:ba):Prop where
 name:p.name.length<2^62
 bz:p.bz.length<2^62
 cg:p.cg.fit
 dL:p.aX.length<2^62/\∀d∈p.aX,d.fit
 oi:p.cR.length<2^62/\∀d∈p.cR,d.fit
 files:p.files.length<2^62/\∀s∈p.files,s.length<2^62
 oJ:∀x∈p.bg,x.2.length<2^62/\∀r∈x.2,r.ok
def cM.Ok (r:cM):Prop:=r.bn.length<2^62/\∀p∈r.bn,p.Ok
def kR (p:ba):List (List aS):=[p.bq,p.conflicts,p.sr,p.sl,p.dB,p.sA]
def uA:Nat->List cM->List eK|_,[]=>[]|i,r::rs=>rowsOf r.bn i r.priority++uA (i+1) rs
def Rl:∀(b:List cM)(i:Nat)(c:List eK×eB)(a:List eK×eB),mL i b c=some a->a.1=c.1++uA i b:=by intro b;induction b with|nil=>intro i c a h;simp only[mL,Option.some.injEq]at h;subst h;simp[uA]|cons r b ih=>intro i c a h;simp only[mL]at h;split at h;{cases h};rw[ih _ _ _ h];simp[uA]
def MF{repos:List cM}{aU:List ba}{p:dI}(h:jv repos aU=.inl p):p.bg=rowsOf aU (-1) 1025++uA 0 repos/\p.aU=aU.length:=by unfold jv at h;split at h;{cases h};split at h;{cases h};split at h;{rename_i bg nm a;cases h;exact ⟨Rl _ _ _ _ a,rfl⟩};cases h
def Yi{repos:List cM}{aU:List ba}(h:jv repos aU=.inr n):n=40\/n=4:=by unfold jv at h;split at h;{cases h;exact .inl rfl};split at h;{cases h;exact .inr rfl};split at h;{cases h};cases h;exact .inr rfl
end Go.Id.Md
namespace Go.Id.Md
open Go Go.Id
def dh:eB->bB->List Int|[],_=>[]|t::ts,k=>if k=t.1 then t.2 else dh ts k
def KN (nm:eB):Prop:=(nm.map (·.1)).Nodup
variable {k:bB}{n:Int}
def wM{nm:eB}(h:KN nm)(t:bB×List Int):t∈fW nm k n↔(t∈nm/\t.1≠k)\/t=(k,dh nm k++[n]):=by induction nm with|nil=>simp[fW,dh]|cons u us ih=>have f:u.1 ∉ us.map (·.1)/\KN us:=(by simpa [KN] using h);simp only[fW,dh];by_cases e:k=u.1;{rw[ab e,ab e];subst e;simp only[zb];constructor;{rintro (rfl|a);{exact .inr rfl};exact .inl ⟨.inr a,λe=>f.1 (zi.2 ⟨t,a,e⟩)⟩};rintro (⟨rfl|a,b⟩|rfl);{exact au rfl b};{exact .inr a};exact .inl rfl};rw[aa e,aa e];simp only[zb,ih f.2];constructor;{rintro (rfl|⟨d,c⟩|rfl);{exact .inl ⟨.inl rfl,λg=>e g.symm⟩};{exact .inl ⟨.inr d,c⟩};exact .inr rfl};rintro (⟨rfl|d,c⟩|rfl);{exact .inl rfl};{exact .inr (.inl ⟨d,c⟩)};exact .inr (.inr rfl)
def TW:∀ {nm:eB},∀x∈(fW nm k n).map (·.1),x=k\/x∈nm.map (·.1):=by intro nm;induction nm with|nil=>intro x a;simpa [fW] using a|cons u us ih=>intro x a;simp only[fW]at a;split at a;{rename_i e;simp only[za,zb]at a ⊢;rcases a with h|h;{exact .inl h};exact .inr (.inr h)};simp only[za,zb]at a ⊢;rcases a with h|h;{exact .inr (.inl h)};rcases ih x h with h|h;{exact .inl h};exact .inr (.inr h)
def lI{nm:eB}(h:KN nm):KN (fW nm k n):=by induction nm with|nil=>simp[KN,fW]|cons u us ih=>have b:u.1 ∉ us.map (·.1)/\KN us:=(by simpa [KN] using h);simp only[fW];split;{rename_i e;subst e;exact h};rename_i e;show ((u::fW us k n).map (·.1)).Nodup;rw[za,zl];refine ⟨λc=>?_,ih b.2⟩;rcases TW _ c with a|a;{exact e a.symm};exact b.1 a
variable {a:eB}
def KN.nd(h:KN a):a.Nodup:=by induction a with|nil=>exact qe|cons u us ih=>have c:u.1 ∉ us.map (·.1)/\KN us:=(by simpa [KN] using h);exact zl.2 ⟨λb=>c.1 (zi.2 ⟨u,b,rfl⟩),ih c.2⟩
def KN.perm{nm:eB}(h:KN nm)(p:nm.Perm a):KN a:=(p.map (λx:bB×List Int=>x.1)).nodup_iff.1 h
def KP{nm:eB}(h:KN nm){t:bB×List Int}(a:t∈nm):dh nm t.1=t.2:=by induction nm with|nil=>cases a|cons u us ih=>have b:u.1 ∉ us.map (·.1)/\KN us:=(by simpa [KN] using h);simp only[dh];rcases zb.1 a with rfl|a;{rw[ab rfl]};rw[aa (λe=>b.1 (zi.2 ⟨t,a,e⟩))];exact ih b.2 a
def Ki(h:k ∉ a.map (·.1)):dh a k=[]:=by induction a with|nil=>rfl|cons u us ih=>simp only[za,zb,not_or]at h;simp only[dh];rw[aa h.1];exact ih h.2
def Kj{d:eB}(h:KN a)(p:a.Perm d)(k:bB):dh a k=dh d k:=by by_cases b:k∈a.map (·.1);{obtain ⟨t,c,rfl⟩:=zi.1 b;rw[KP h c,KP (h.perm p) (p.mem_iff.1 c)]};rw[Ki b,Ki (λe=>b ((p.map (·.1)).mem_iff.2 e))]
def CG(h:KN a)(k:bB)(n:Int)(j:bB):dh (fW a k n) j=if j=k then dh a k++[n] else dh a j:=by induction a with|nil=>simp only[fW,dh];split<;>rfl|cons u us ih=>have b:u.1 ∉ us.map (·.1)/\KN us:=(by simpa [KN] using h);simp only[fW,dh];by_cases e:k=u.1;{rw[ab e,ab e];simp only[dh];by_cases c:j=k;{rw[ab c,ab c]};rw[aa c,aa c,aa (λx=>c (x.trans e.symm))]};rw[aa e,aa e];simp only[dh,ih b.2];by_cases c:j=k;{rw[ab c,ab c,aa (λx=>e (c.symm.trans x))]};rw[aa c,aa c]
def Ev{b:eB}(h:KN a)(p:a.Perm b):(fW a k n).Perm (fW b k n):=by refine (qq (lI h).nd (lI (h.perm p)).nd).2 λt=>?_;rw[wM h,wM (h.perm p),Kj h p,p.mem_iff]
def TX{j:bB}(h:KN a):(fW (fW a k n) j n).Perm (fW (fW a j n) k n):=by by_cases e:k=j;{subst e;exact .refl _};refine (qq (lI (lI h)).nd (lI (lI h)).nd).2 λt=>?_;rw[wM (lI h),wM (lI h),wM h,wM h,CG h,CG h,aa (λx=>e x.symm),aa e];constructor;{rintro (⟨⟨c,b⟩|rfl,d⟩|rfl);{exact .inl ⟨.inl ⟨c,d⟩,b⟩};{exact .inr rfl};exact .inl ⟨.inr rfl,λx=>e x.symm⟩};rintro (⟨⟨c,b⟩|rfl,d⟩|rfl);{exact .inl ⟨.inl ⟨c,d⟩,b⟩};{exact .inr rfl};exact .inl ⟨.inr rfl,e⟩
def mW (nm:eB)(ks:List bB)(n:Int):eB:=ks.foldl (λm k=>fW m k n) nm
def LK:∀ {ks:List bB}{nm:eB},KN nm->KN (mW nm ks n)|[],_,h=>h|_::ks,_,h=>LK (ks:=ks) (lI h)
def Kk:∀(ks:List bB){nm a:eB},KN nm->nm.Perm a->(mW nm ks n).Perm (mW a ks n)|[],_,_,_,p=>p|_::ks,_,_,h,p=>Kk ks (lI h) (Ev h p)
def RP{ks a:List bB}(p:ks.Perm a):∀ {nm:eB},KN nm->(mW nm ks n).Perm (mW nm a n):=by induction p with|nil=>intro nm _;exact .refl _|cons x _ ih=>intro nm h;exact ih (lI h)|swap x y l=>intro nm h;exact Kk l (lI (lI h)) (TX h)|trans p1 _ ih1 ih2=>intro nm h;exact (ih1 h).trans (ih2 h)
def Sy (nm:eB)(ks:List bB)(k:bB)(n:Int):mW nm (ks++[k]) n=fW (mW nm ks n) k n:=by simp[mW]
def kF (l:List bB)(k:bB):List bB:=if k∈l then l else l++[k]
def jw (p:ba):List bB:=p.files.foldl kF ((p.aX.map (·.name)).foldl kF [p.name])
def mS (nm:eB)(ds:List bB)(n:Int):eB:=ds.foldl (λm k=>if n∈dh m k then m else fW m k n) nm
def J5(nm:eB)(ks:List bB)(k:bB)(n:Int):mS nm (ks++[k]) n=if n∈dh (mS nm ks n) k then mS nm ks n else fW (mS nm ks n) k n:=by unfold mS;rw[List.foldl_append];rfl
structure Index where
 all:List ba
 dL:eB
 names:eB
 over:eB
def Index.v (x:Index):IV:=.bd [.aW (x.all.map ba.cs),.bY (dk x.dL),.bY (dk x.names),.bY (dk x.over)]
def DE (x:Index)(n:Nat)(p:ba):Index:=⟨x.all++[p],mW x.dL (jw p) n,fW x.names p.name n,mS x.over (p.cR.map (·.name)) n⟩
def idxFrom(x:Index):Nat->List ba->Index|_,[]=>x|n,p::ps=>idxFrom (DE x n p) (n+1) ps
def bw (l:List ba):Index:=idxFrom ⟨[],[],[],[]⟩ 0 l
def RQ(ps:List ba)(p:ba):∀(x:Index)(n:Nat),idxFrom x n (ps++[p])=DE (idxFrom x n ps) (n+ps.length) p:=by induction ps with|nil=>intro x n;rfl|cons q qs ih=>intro x n;show idxFrom _ (n+1) (qs++[p])=_;rw[ih,z2];congr 1;omega
def TY(L:fi)(k:bB):dh (eu L) k=ig L k:=by induction L with|nil=>rfl|cons t ts ih=>simp only[eu,za,dh,ig,qp]at ih ⊢;by_cases h:k=t.1;{simp[h]};simp only[h,aB,ae]at ih ⊢;exact ih
def bG (q:ba->Bool)(l:List ba):List Int:=((zr l.length).filter λn=>q (l.getD n default)).map λ(n:Nat)=>(n:Int)
def Ha(q:ba->Bool)(l:List ba)(p:ba):bG q (l++[p])=bG q l++if q p then [(l.length:Int)] else []:=by unfold bG;rw[zd,qy,zq,qh,zx];congr 1;{congr 1;refine ql λn a=>?_;have h:=zf.1 a;simp[z8,List.getElem?_append,h]};have e:(l++[p]).getD l.length default=p:=(by simp[z8]);simp only[List.filter_cons,List.filter_nil,e];split<;>rfl
def tk{q:ba->Bool}{l:List ba}:n∈bG q l↔∃m:Nat,n=m/\m<l.length/\q (l.getD m default)=true:=by unfold bG;rw[zi];constructor;{rintro ⟨m,c,rfl⟩;have⟨b,a⟩:=zn.1 c;exact ⟨m,rfl,zf.1 b,a⟩};rintro ⟨m,rfl,b,a⟩;exact ⟨m,zn.2 ⟨zf.2 b,by simpa using a⟩,rfl⟩
def kh(q:ba->Bool)(l:List ba):(bG q l).length<=l.length:=by unfold bG;rw[z4];exact z6 (qd _ _) (by simp)
def JW(q r:ba->Bool)(l:List ba):(bG q l).filter (λn=>r (l.getD n.toNat default))=bG (λp=>q p&&r p) l:=by unfold bG;rw[List.filter_map,List.filter_filter];congr 1;refine ql λn _=>?_;show (r (l.getD ((n:Int)).toNat default)&&q (l.getD n default))=_;rw[Int.toNat_natCast,qu]
def J6{q r:ba->Bool}{l:List ba}(h:∀p∈l,q p=r p):bG q l=bG r l:=by unfold bG;congr 1;refine ql λn b=>?_;have a:=zf.1 b;refine h _ ?_;rw[z8,zs a];exact qm a
def Sz:∀(ks:List bB){nm:eB},KN nm->ks.Nodup->∀j,dh (mW nm ks n) j=dh nm j++if j∈ks then [n] else []:=by intro ks;induction ks with|nil=>intro nm _ _ j;simp[mW]|cons k ks ih=>intro nm h a j;have⟨c,b⟩:=zl.1 a;show dh (mW (fW nm k n) ks n) j=_;rw[ih (lI h) b,CG h];by_cases e:j=k;{subst e;simp[c]};simp[e]
def TZ:∀(ks:List bB){nm:eB},KN nm->KN (mS nm ks n):=by intro ks;induction ks with|nil=>intro nm h;exact h|cons k ks ih=>intro nm h;show KN (mS (if n∈dh nm k then nm else fW nm k n) ks n);split;{exact ih h};exact ih (lI h)
def RR:∀(ks:List bB){nm:eB},KN nm->∀j,dh (mS nm ks n) j=dh nm j++if j∈ks/\n ∉ dh nm j then [n] else []:=by intro ks;induction ks with|nil=>intro nm _ j;simp[mS]|cons k ks ih=>intro nm h j;show dh (mS (if n∈dh nm k then nm else fW nm k n) ks n) j=_;by_cases a:n∈dh nm k;{rw[ab a,ih h];by_cases e:j=k;{subst e;simp[a]};simp[e]};rw[aa a,ih (lI h),CG h];by_cases e:j=k;{subst e;simp[a]};simp[e]
def T0{l:List bB}{j:bB}:j∈kF l k↔j∈l\/j=k:=by unfold kF;split;{rename_i h;exact ⟨.inl,λa=>a.elim id λe=>e▸h⟩};simp
def Kl:∀(ks l:List bB),k∈ks.foldl kF l↔k∈l\/k∈ks:=by intro ks;induction ks with|nil=>intro l;simp|cons j ks ih=>intro l;rw[List.foldl_cons,ih,T0,zb,or_assoc]
def T3{l:List bB}(h:l.Nodup)(k:bB):(kF l k).Nodup:=by unfold kF;split;{exact h};rename_i d;rw[zp];exact ⟨h,by simp,λa ha b c e=>by simp at c;subst c;subst e;exact d ha⟩
def Hb:∀(ks:List bB){l:List bB},l.Nodup->(ks.foldl kF l).Nodup|[],_,h=>h|k::ks,_,h=>Hb ks (T3 h k)
def Yj (p:ba):(jw p).Nodup:=Hb _ (Hb _ (by simp))
def Yk(p:ba)(j:bB):j∈jw p↔j=p.name\/(∃d∈p.aX,d.name=j)\/j∈p.files:=by unfold jw;rw[Kl,Kl];simp[or_assoc]
structure vK (x:Index) (l:List ba):Prop where
 all:x.all=l
 kp:KN x.dL
 kn:KN x.names
 ko:KN x.over
 dL:∀j,dh x.dL j=bG (λp=>decide (j∈jw p)) l
 names:∀j,dh x.names j=bG (λp=>decide (p.name=j)) l
 over:∀j,dh x.over j=bG (λp=>decide (∃d∈p.cR,d.name=j)) l
def vK.add {x:Index}{l:List ba}(h:vK x l)(p:ba):vK (DE x l.length p) (l++[p]) where
 all:=by show x.all++[p]=_;rw[h.all]
 kp:=LK h.kp
 kn:=lI h.kn
 ko:=TZ _ h.ko
 dL:=λj=>by
  show dh (mW x.dL (jw p) _) j=_;rw[Sz _ h.kp (Yj p),h.dL,Ha];simp
 names:=λj=>by
  show dh (fW x.names p.name _) j=_;rw[CG h.kn,h.names,h.names,Ha];by_cases e:j=p.name
  .subst e;simp
  .have c:¬p.name=j:=λh=>e h.symm
   simp[e,c]
 over:=λj=>by
  show dh (mS x.over _ _) j=_;rw[RR _ h.ko,h.over,Ha]
  have a:(l.length:Int) ∉ bG (λp=>decide (∃d∈p.cR,d.name=j)) l:=λb=>by
   have⟨m,e,f,_⟩:=tk.1 b;omega
  simp[a]
def T6:∀(ps:List ba){x:Index}{l:List ba},vK x l->vK (idxFrom x l.length ps) (l++ps):=by intro ps;induction ps with|nil=>intro x l h;rw[List.append_nil];exact h|cons p ps ih=>intro x l h;have:=ih (h.add p);rw[q2]at this;simpa [idxFrom] using this
def rD(l:List ba):vK (bw l) l:=by have h0:vK ⟨[],[],[],[]⟩ []:=⟨rfl,qe,qe,qe,λ_=>by simp[dh,bG],λ_=>by simp[dh,bG],λ_=>by simp[dh,bG]⟩;exact T6 l h0
variable {c:ba}{d:bD}
def LL(h:named c d=true):c.name=d.name:=by unfold named meets own at h;simp only[zc,ah]at h;exact h.1
def RS(h:aX c d=true):d.name∈jw c:=by unfold aX at h;rw[Yk];simp only[z5,zc,ah,List.any_eq_true]at h;rcases h with (h|⟨a,ha,h⟩)|⟨_,h⟩;{exact .inl (LL h).symm};{unfold meets at h;simp only[zc,ah]at h;exact .inr (.inl ⟨a,ha,h.1⟩)};exact .inr (.inr (by simpa using h))
def ma (l:List ba)(d:bD):List Int:=bG (λp=>aX p d) l
def iY (l:List ba)(d:bD):List Int:=bG (λp=>named p d) l
def J7(l:List ba)(d:bD):(dh (bw l).dL d.name).filter (λn=>aX (l.getD n.toNat default) d)=ma l d:=by rw[(rD l).dL];refine (JW (λp=>decide (d.name∈jw p)) (λp=>aX p d) l).trans ?_;exact J6 λp _=>by cases h:aX p d with|false=>simp|true=>simp[RS h]
def MG(l:List ba)(d:bD):(dh (bw l).names d.name).filter (λn=>named (l.getD n.toNat default) d)=iY l d:=by rw[(rD l).names];refine (JW (λp=>decide (p.name=d.name)) (λp=>named p d) l).trans ?_;exact J6 λp _=>by cases h:named p d with|false=>simp|true=>simp[LL h]
def Ru:∀(c:List cM)(i:Nat)(d:List eK×eB)(a:List eK×eB),mL i c d=some a->∀r∈c,r.bn.all fF=true:=by intro c;induction c with|nil=>intro i d a _ r b;cases b|cons x xs ih=>intro i d a h r b;simp only[mL]at h;split at h;{cases h};rename_i hc;rcases zb.1 b with rfl|b;{cases e:r.bn.all fF with|true=>rfl|false=>exact au (.inr (.inr e)) hc};exact ih _ _ _ h r b
variable {b:List cM}{p:dI}
def KQ{aU:List ba}(h:jv b aU=.inl p):b.length<=16/\aU.length+kE b<=256/\aU.all fF=true/\∀r∈b,r.bn.all fF=true:=by unfold jv at h;split at h;{cases h};rename_i hc;split at h;{cases h};rename_i c;split at h;{rename_i bg nm a;exact ⟨om,om,by simpa using c,Ru _ _ _ _ a⟩};cases h
def KR(l:List ba)(a b:Int):(rowsOf l a b).map (·.iN)=l:=by induction l with|nil=>rfl|cons x xs ih=>show x::(rowsOf xs a b).map (·.iN)=_;rw[ih]
def cG (p:dI):List ba:=p.bg.map (·.iN)
def Rv:∀(a:List cM)(i:Nat),(uA i a).map (·.iN)=a.flatMap (·.bn):=by intro a;induction a with|nil=>intro i;rfl|cons r a ih=>intro i;simp only[uA,zx,ih,KR,qk]
def VT:∀(a:List cM),(a.flatMap (·.bn)).length=kE a:=by intro a;induction a with|nil=>rfl|cons r a ih=>simp only[qk,zd,ih];rfl
def EN{aU:List ba}(h:jv b aU=.inl p):cG p=aU++b.flatMap (·.bn):=by unfold cG;rw[(MF h).1,zx,Rv];congr 1;exact KR _ _ _
def MH{aU:List ba}(h:jv b aU=.inl p):p.bg.length<=256:=by have e:p.bg.length=(cG p).length:=(by simp[cG]);rw[e,EN h,zd,VT];exact (KQ h).2.1
def H4{aU:List ba}(h:jv b aU=.inl p):∀x∈cG p,fF x=true/\(x∈aU\/∃r∈b,x∈r.bn):=by intro x a;rw[EN h]at a;have⟨_,_,e,d⟩:=KQ h;rcases zh.1 a with a|a;{exact ⟨zt.1 e x a,.inl a⟩};have⟨r,c,f⟩:=zj.1 a;exact ⟨zt.1 (d r c) x f,.inr ⟨r,c,f⟩⟩
def dX.iV (e:dX):Prop:=e.fe.length<=64/\e.rel.length<=64
def MI(h:pZ k=true):k.length<=64:=by unfold pZ at h;simp only[zc,ah]at h;exact h.1.2
def MJ{e:dX}{b:Bool}(h:qA e b=true):e.iV:=by unfold qA at h;simp only[zc,z5,ah]at h;refine ⟨MI h.1.2,?_⟩;rcases h.2 with h|h;{exact MI h};have:=List.isEmpty_iff.1 h.2;rw[this];exact zz _
def H5(h:iz d=true):0<=d.op/\d.op<256/\d.cg.iV/\d.name.length<=64:=by unfold iz at h;simp only[zc]at h;have⟨⟨b,e⟩,a⟩:=h;have f:d.name.length<=64:=(by unfold mo at b;simp only[zc,ah]at b;exact b.1.1.2);have c:0<=d.op/\d.op<256:=(by unfold B9 at e;simp only[List.contains_iff_mem,zb,z1,aj]at e;omega);refine ⟨c.1,c.2,?_,f⟩;split at a;{have:d.cg=D8:=(by simpa using a);rw[this];exact ⟨by decide,by decide⟩};simp only[zc]at a;exact MJ a.2
structure ba.mJ (p:ba):Prop where
 name:p.name.length<=64
 cg:p.cg.iV
 dL:p.aX.length<=32/\∀d∈p.aX,0<=d.op/\d.op<256/\d.cg.iV/\d.name.length<=64
 oi:p.cR.length<=32/\∀d∈p.cR,0<=d.op/\d.op<256/\d.cg.iV/\d.name.length<=64
 files:p.files.length<=32
def ML(h:fF c=true):c.mJ:=by unfold fF at h;simp only[zc,ah]at h;obtain ⟨⟨⟨⟨⟨⟨⟨⟨⟨⟨⟨⟨⟨⟨e,_⟩,j⟩,_⟩,_⟩,i,p⟩,g,b⟩,f,_⟩,_⟩,_⟩,_⟩,_⟩,_⟩,_⟩,_⟩:=h;refine ⟨?_,MJ j,⟨i,λd a=>H5 (zt.1 p d a)⟩,⟨g,λd a=>H5 (zt.1 b d a)⟩,f⟩;unfold mo at e;simp only[zc,ah]at e;exact e.1.1.2
structure eO where
 kind:Int
 dep:bD
 deriving DecidableEq,Inhabited
structure bR where
 kind:Int
 n:Int
 deriving DecidableEq,Inhabited
structure gw where
 dE:Int
 bz:Bool
 bP:List eO
 cr:List bR
 bA:Int
def eO.cs (j:eO):List IV:=[.int .u8 j.kind,.str j.dep.name,.int .u8 j.dep.op,.int .i64 j.dep.cg.jH,.str j.dep.cg.fe,.str j.dep.cg.rel]
def bR.cs (e:bR):List IV:=[.int .u8 e.kind,.int .i64 e.n]
abbrev gO (l:List eO):IV:=.aW (l.map eO.cs)
abbrev eR (l:List bR):IV:=.aW (l.map bR.cs)
def gw.cs (r:gw):List IV:=[.int .u8 r.dE,.bool r.bz,gO r.bP,eR r.cr,.int .i64 r.bA]
def jI (q:Nat->Bool)(k:Nat):List Int:=((zr k).filter q).map λ(n:Nat)=>(n:Int)
def KS(q:Nat->Bool)(k:Nat):jI q (k+1)=jI q k++if q k then [(k:Int)] else []:=by unfold jI;rw[zq,qh,zx];congr 1;simp only[List.filter_cons,List.filter_nil];split<;>rfl
def EO{q:Nat->Bool}{k:Nat}:n∈jI q k↔∃m:Nat,n=m/\m<k/\q m=true:=by unfold jI;rw[zi];constructor;{rintro ⟨m,c,rfl⟩;have⟨b,a⟩:=zn.1 c;exact ⟨m,rfl,zf.1 b,a⟩};rintro ⟨m,rfl,b,a⟩;exact ⟨m,zn.2 ⟨zf.2 b,a⟩,rfl⟩
def uB(q:Nat->Bool)(k:Nat):(jI q k).length<=k:=by unfold jI;rw[z4];exact z6 (qd _ _) (by simp)
def Yl(q:Nat->Bool)(k:Nat):(jI q k).Pairwise (· < ·):=by unfold jI;refine qt.map (R:=λ(a b:Nat)=>a<b) _ (λa b h=>by show (a:Int)<b;omega) ?_;exact qt.filter _ List.pairwise_lt_range
def rW (a:Int):Bool:=iR a&&!decide (a=1)
def DG (a b:Int):Bool:=rW a&&rW b&&!decide (a=b)
def Ff (a b:Int):Bool:=iR a&&iR b&&!DG a b
def DH(m a:Int):Int :=if m=2 then (if a=1 then 2 else if a=2 then 1 else if a=3 then 3 else 0) else if m=3 then (if a=1 then 2 else if a=3 then 1 else 0) else if m=4 then (if a=1 then 2 else if a=4 then 1 else 0) else 0
def P6 (m a:Int):Bool:=decide (0<DH m a)
structure a7 where
 p:dI
 r:gw
namespace a7
variable (a:a7)
def l:List ba:=cG a.p
def pk (n:Int):ba:=a.l.getD n.toNat default
def jb (n:Int):eO:=a.r.bP.getD n.toNat default
def is (n:Int):Bool:=decide (0<=n)&&decide (n<a.l.length)
def aU (n:Int):Bool:=a.is n&&decide (n<a.p.aU)
def oV (n:Int):Bool:=decide (0<=n)&&decide (n<a.r.bP.length)
def fits (n:Int):Bool:=a.is n&&P6 a.r.dE (a.pk n).dE
def O6 (p q:ba):Bool:=decide (p.name=q.name)&&!(DG p.dE q.dE&&decide (pj p.cg q.cg=0))
def twins (n m:Int):Bool:=a.is n&&a.is m&&!decide (n=m)&&O6 (a.pk n) (a.pk m)
def sM (k n:Int):Bool:=decide ((⟨k,n⟩:bR)∈a.r.cr)
def dropped (n:Int):Bool:=a.oV n&&a.sM 1 n
def uN (k n:Int):Bool:=(zr a.r.bP.length).any λi=>decide ((a.jb i).kind=k)&&!a.dropped i&&decide (n∈iY a.l (a.jb i).dep)
def goes (i:Int):Bool:=a.aU i&&(a.uN 2 i||a.sM 2 i)
def tV (bz down other:Bool)(old q:ba):Bool:=decide (q.name=old.name)&&(down||decide (0<=pj q.cg old.cg))&&(other||Ff q.dE old.dE)&&(bz||decide (q.bz=old.bz))
def QJ (i:Int)(q:ba):Bool:=tV a.r.bz (a.sM 3 i||a.uN 4 i) (a.sM 4 i) (a.pk i) q
def iC (i:Int):List Int:=if a.aU i then jI (λn=>decide ((n:Int)=i)||a.QJ i (a.pk n)||(!decide ((n:Int)=i)&&cR (a.pk n) (a.pk i))) a.l.length else []
def lC (i:Int):List Int:=(a.iC i).filter λn=>!(a.aU n || !a.fits n)
def du (j:Int):List Int:=if a.oV j then (if (a.jb j).kind=1 then ma a.l (a.jb j).dep else if (a.jb j).kind=2 then iY a.l (a.jb j).dep else (iY a.l (a.jb j).dep).filter λn=>a.aU n) else []
def some (state l:List Int):Bool:=l.any λn=>decide (n∈state)
def cs:List IV:=[a.p.v,(bw a.l).v,.int .u8 a.r.dE,.bool a.r.bz,gO a.r.bP,eR a.r.cr,.int .i64 a.r.bA,.aW (a.l.map ba.cs)]
def v:IV:=.bd a.cs
end a7
def uO (e:bR)(bP aU:Int):Bool:=decide (1<=e.kind)&&decide (e.kind<=4)&&decide (0<=e.n)&&decide (e.n<if e.kind=1 then bP else aU)
def rL (j:eO):Bool:=decide (1<=j.kind)&&decide (j.kind<=4)&&iz j.dep
def fN(r:gw)(aU:Int):Int :=if rW r.dE=false\/r.bA<0\/1099511627776<r.bA then 1 else if 64<r.bP.length\/64<r.cr.length then 40 else if r.bP.all rL=false then 4 else if r.cr.all (λe=>uO e r.bP.length aU)=false then 5 else 0
def Cu (p:dI)(r:gw):IV:=if fN r p.aU=0 then .tuple [(a7.mk p r).v,.int .i64 0] else .tuple [.ee,.int .i64 (fN r p.aU)]
namespace a7
variable (a:a7)
def AP(n:Nat):a.is n=decide (n<a.l.length):=by unfold is;have:(0:Int)<=n:=om;simp only[this,aC,Bool.true_and];exact decide_eq_decide.2 om
def wN(i:Int):(a.iC i).length<=a.l.length:=by unfold iC;split;{exact uB _ _};exact zz _
def Ym{i n:Int}(h:n∈a.iC i):a.aU i=true/\∃m:Nat,n=m/\m<a.l.length:=by unfold iC at h;split at h;{rename_i hi;have⟨m,e,b,_⟩:=EO.1 h;exact ⟨hi,m,e,b⟩};cases h
def MM{i n:Int}(h:n∈a.lC i):n∈a.iC i/\a.aU n=false/\a.fits n=true:=by have⟨e,d⟩:=zn.1 h;cases c:a.aU n<;>cases b:a.fits n<;>simp_all
def MN (i:Int):(a.lC i).length<=a.l.length:=z6 (qd _ _) (a.wN i)
end a7
namespace a7
variable (a:a7)
def Yq{j n:Int}(h:n∈a.du j):∃m:Nat,n=m/\m<a.l.length:=by have b:∀ {q:ba->Bool}{n:Int},n∈bG q a.l->∃m:Nat,n=m/\m<a.l.length:=λh=>let ⟨m,e,h1,_⟩:=tk.1 h;⟨m,e,h1⟩;unfold du at h;split at h;{split at h;{exact b h};split at h;{exact b h};exact b (zn.1 h).1};cases h
variable (x:bR)
def more:a7:=⟨a.p,{ a.r with cr:=a.r.cr++[x] }⟩
variable {x} (hx:x.kind≠1)
include hx
end a7
abbrev JQ:Part:=⟨2,[]⟩
def Qg (k:Int):Nat:=if k=4 then 3 else if k=5 then 3 else if k=7 then 2 else 24
def ve (k:Int)(d:bD)(n:Nat):Bool:=decide (1<k)&&decide (k<=7)&&decide (d=kf)&&decide (2<=n)&&decide (n<=Qg k)
mutual
def aS.ms:aS->Nat×Nat×Bool
 | .mk k d aZ=>if k=1 then (1,0,decide (aZ.length=0)&&iz d) else ((aS.msL aZ 1 0 (ve k d aZ.length)).1,(aS.msL aZ 1 0 (ve k d aZ.length)).2.1+1,(aS.msL aZ 1 0 (ve k d aZ.length)).2.2)
def aS.msL:List aS->Nat->Nat->Bool->Nat×Nat×Bool
 | [],p,d,ok=>(p,d,ok)
 | r::rs,p,d,ok=>if ok=true then aS.msL rs (p+r.ms.1) (max d r.ms.2.1) r.ms.2.2 else (p,d,false)
end
def tN (r:aS):Bool:=r.ms.2.2&&decide (r.ms.1<=24)&&decide (r.ms.2.1<=8)
theorem aS.Pj:∀(b:List aS)(p d:Nat)(ok:Bool),(aS.msL b p d ok).2.2=true->ok=true/\∀a∈b,a.ms.2.2=true:=by intro b;induction b with|nil=>intro p d ok h;exact ⟨h,λ_ h=>by cases h⟩|cons r rs ih=>intro p d ok h;simp only[aS.msL]at h;split at h;{rename_i c;have⟨f,e⟩:=ih _ _ _ h;refine ⟨c,λa ha=>?_⟩;rcases zb.1 ha with rfl|ha;{exact f};exact e a ha};cases h
end Go.Id.Md
namespace Go.Id.Md
open Go Go.Id
structure br where
 kind:Int
 p:Int
 q:Int
 deriving DecidableEq,Inhabited
def br.cs (x:br):List IV:=[.int .u8 x.kind,.int .i64 x.p,.int .i64 x.q]
variable {x:br}
def br.kn5{y:br}(h:x.cs=y.cs):x=y:=by cases x;cases y;simpa [br.cs] using h
abbrev dS (l:List br):IV:=.aW (l.map br.cs)
def F8(a b:br):allEq [1,1,1] a.cs b.cs=some (decide (a=b)):=by cases a;cases b;simp[br.cs,allEq,fB,br.mk.injEq,Bool.decide_and]
def jn (l:List br):List (IV×IV):=l.map λx=>(.agg x.cs,.agg [])
def H2 (x y:br):dR 6 (.agg x.cs) (.agg y.cs)=some (decide (x=y)):=F8 x y
def MD(x:br):ld 6 (.agg x.cs)=true:=by show (dR 6 (.agg x.cs) (.agg x.cs)).isSome=true;rw[H2];rfl
def VP(x:br):∀l:List br,fh 6 (.agg x.cs) (jn l)=some (if x∈l then some (.agg []) else none):=by intro l;induction l with|nil=>simp only[jn,List.map_nil,fh,MD];simp|cons y l ih=>unfold jn at *;simp only[za,fh,H2];by_cases h:x=y;{simp[h]};simp only[h,aB,ih,zb,false_or]
def Yd:∀ {l:List br},x ∉ l->gG 6 (.agg x.cs) (.agg []) (jn l)=some (jn (l++[x])):=by intro l;induction l with|nil=>intro _;simp only[jn,List.map_nil,gG,MD];rfl|cons y l ih=>intro h;rw[zb,not_or]at h;have:=ih h.2;unfold jn at *;simp only[za,List.cons_append,gG,H2,h.1,aB,this,Option.map_some]
def VQ{l:List br}(h:l.Nodup):tI (jn l):=by refine ⟨?_,.agg [.u8,.i64,.i64],λe he=>?_⟩;{unfold jn;rw[List.map_map];refine qi.2 (h.imp λ{a b} hab e=>hab ?_);exact br.kn5 (IV.agg.inj e)};obtain ⟨x,_,rfl⟩:=zi.1 he;refine ⟨rfl,λi hi=>?_⟩;have hi:i<3:=hi;match i,hi with|0,_=>exact ⟨_,rfl⟩|1,_=>exact ⟨_,rfl⟩|2,_=>exact ⟨_,rfl⟩
def jX (k:Int)(p n:Nat):List br:=(zr n).map λ(q:Nat)=>⟨k,p,q⟩
def TU(k:Int)(p n:Nat):jX k p (n+1)=jX k p n++[⟨k,p,n⟩]:=by unfold jX;rw[zq,zx];rfl
def iZ (f:Nat->Bool)(g:Nat->br)(n:Nat):List br:=((zr n).filter f).map g
def Et(f:Nat->Bool)(g:Nat->br)(n:Nat):iZ f g (n+1)=iZ f g n++if f n then [g n] else []:=by unfold iZ;rw[zq,qh,zx];cases h:f n<;>simp[h]
def oY{f:Nat->Bool}{g:Nat->br}{n:Nat}:x∈iZ f g n↔∃m,m<n/\f m=true/\x=g m:=by unfold iZ;simp only[zi,zn,zf];constructor;{rintro ⟨m,⟨c,b⟩,rfl⟩;exact ⟨m,c,b,rfl⟩};rintro ⟨m,c,b,rfl⟩;exact ⟨m,⟨c,b⟩,rfl⟩
variable {b:Int}
def qZ{p n:Nat}:x∈jX b p n↔∃q:Nat,q<n/\x=⟨b,p,q⟩:=by unfold jX;simp only[zi,zf];constructor;{rintro ⟨q,h,rfl⟩;exact ⟨q,h,rfl⟩};rintro ⟨q,h,rfl⟩;exact ⟨q,h,rfl⟩
namespace a7
variable (a:a7)
def kV (p:Nat):List br:=if a.fits p then [] else [⟨1,p,0⟩]
def pI (p:Nat):List br:=a.kV p++jX 2 p (a.pk p).bq.length++jX 3 p (a.pk p).conflicts.length++jX 4 p (a.pk p).cR.length
def oE (p k:Nat):List br:=iZ (λq=>decide (p<q)&&a.twins p q) (λq=>⟨5,p,q⟩) k
def Ca (p:Nat):List br:=a.oE p a.l.length
def mz (k:Nat):List br:=iZ (λi=>!a.goes i) (λi=>⟨6,i,0⟩) k
def oR (k:Nat):List br:=iZ (λi=>!a.dropped i) (λi=>⟨7,i,0⟩) k
def dq (k:Nat):List br:=(zr k).flatMap a.pI
def jF (k:Nat):List br:=(zr k).flatMap a.Ca
def items:List br:=a.dq a.l.length++a.jF a.l.length++a.mz a.p.aU.toNat++a.oR a.r.bP.length
def CP (k:Nat):a.dq (k+1)=a.dq k++a.pI k:=by unfold dq;rw[zq,zv];simp
def Ej (k:Nat):a.jF (k+1)=a.jF k++a.Ca k:=by unfold jF;rw[zq,zv];simp
inductive Has(a:a7):br->Prop|dE (p:Nat):p<a.l.length->a.fits p=false->Has a ⟨1,p,0⟩|iU (p q:Nat):p<a.l.length->q<(a.pk p).bq.length->Has a ⟨2,p,q⟩|fR (p q:Nat):p<a.l.length->q<(a.pk p).conflicts.length->Has a ⟨3,p,q⟩|over (p q:Nat):p<a.l.length->q<(a.pk p).cR.length->Has a ⟨4,p,q⟩|twin (p q:Nat):p<q->q<a.l.length->a.twins p q=true->Has a ⟨5,p,q⟩|aT (i:Nat):i<a.p.aU.toNat->a.goes i=false->Has a ⟨6,i,0⟩|oV (j:Nat):j<a.r.bP.length->a.dropped j=false->Has a ⟨7,j,0⟩
variable {k:Nat}{y:br}
def NL:y∈a.pI k↔(a.fits k=false/\y=⟨1,k,0⟩)\/(∃q:Nat,q<(a.pk k).bq.length/\y=⟨2,k,q⟩)\/(∃q:Nat,q<(a.pk k).conflicts.length/\y=⟨3,k,q⟩)\/(∃q:Nat,q<(a.pk k).cR.length/\y=⟨4,k,q⟩):=by unfold pI kV;simp only[zh,qZ,or_assoc];refine or_congr ?_ Iff.rfl;cases h:a.fits k<;>simp
def IE:y∈a.items↔a.Has y:=by unfold items dq jF mz oR;simp only[zh,zj,zf,NL,oY];constructor;{rintro (((⟨p,c,h⟩|⟨p,c,h⟩)|⟨i,hi,h,rfl⟩)|⟨j,e,h,rfl⟩);{rcases h with ⟨h,rfl⟩|⟨q,b,rfl⟩|⟨q,b,rfl⟩|⟨q,b,rfl⟩;{exact .dE p c h};{exact .iU p q c b};{exact .fR p q c b};exact .over p q c b};{obtain ⟨q,b,d,rfl⟩:=oY.1 h;rw[zc]at d;exact .twin p q (aA d.1) b d.2};{exact .aT i hi (by simpa using h)};exact .oV j e (by simpa using h)};intro h;cases h with|dE p c h=>exact .inl (.inl (.inl ⟨p,c,.inl ⟨h,rfl⟩⟩))|iU p q c b=>exact .inl (.inl (.inl ⟨p,c,.inr (.inl ⟨q,b,rfl⟩)⟩))|fR p q c b=>exact .inl (.inl (.inl ⟨p,c,.inr (.inr (.inl ⟨q,b,rfl⟩))⟩))|over p q c b=>exact .inl (.inl (.inl ⟨p,c,.inr (.inr (.inr ⟨q,b,rfl⟩))⟩))|twin p q h1 h2 d=>exact .inl (.inl (.inr ⟨p,om,oY.2 ⟨q,h2,by simp[h1,d],rfl⟩⟩))|aT i hi h=>exact .inl (.inr ⟨i,hi,by simp[h],rfl⟩)|oV j e h=>exact .inr ⟨j,e,by simp[h],rfl⟩
def Hq(k:Int)(p n:Nat):(jX k p n).Nodup:=by unfold jX;refine qi.2 (List.nodup_range.imp λ{x y} h e=>h ?_);have:=aw br.q e;simp only at this;omega
def Hr{f:Nat->Bool}{g:Nat->br}(b:∀x y,g x=g y->x=y)(n:Nat):(iZ f g n).Nodup:=by unfold iZ;exact qi.2 ((List.nodup_range.filter _).imp λ{x y} h e=>h (b _ _ e))
def KO{g:Nat->List br}(f:∀p,(g p).Nodup)(b:∀p,∀x∈g p,x.p=(p:Int))(n:Nat):((zr n).flatMap g).Nodup:=by induction n with|zero=>exact qt.nil|succ n ih=>rw[zq,zv,qk,qb,List.append_nil];refine zp.2 ⟨ih,f n,λx hx y c e=>?_⟩;have⟨p,d,hx⟩:=zj.1 hx;have:=b p x hx;have:=b n y c;rw[<- e]at this;have:=zf.1 d;omega
def C4(h:y∈a.pI k):y.p=(k:Int)/\1<=y.kind/\y.kind<=4:=by rcases a.NL.1 h with ⟨_,rfl⟩|⟨q,_,rfl⟩|⟨q,_,rfl⟩|⟨q,_,rfl⟩<;>exact ⟨rfl,by simp only<;>omega,by simp only<;>omega⟩
def VS(p:Nat):(a.pI p).Nodup:=by unfold pI kV;refine zp.2 ⟨zp.2 ⟨zp.2 ⟨?_,Hq ..,λx hx y b e=>?_⟩,Hq ..,λx hx y b e=>?_⟩,Hq ..,λx hx y b e=>?_⟩;{cases a.fits p<;>simp};{obtain ⟨q,_,rfl⟩:=qZ.1 b;cases hf:a.fits p<;>rw[hf]at hx<;>simp at hx;rw[hx]at e;simp at e};{obtain ⟨q,_,rfl⟩:=qZ.1 b;rcases zh.1 hx with hx|hx;{cases hf:a.fits p<;>rw[hf]at hx<;>simp at hx;rw[hx]at e;simp at e};obtain ⟨r,_,rfl⟩:=qZ.1 hx;simp at e};obtain ⟨q,_,rfl⟩:=qZ.1 b;rcases zh.1 hx with hx|hx;{rcases zh.1 hx with hx|hx;{cases hf:a.fits p<;>rw[hf]at hx<;>simp at hx;rw[hx]at e;simp at e};obtain ⟨r,_,rfl⟩:=qZ.1 hx;simp at e};obtain ⟨r,_,rfl⟩:=qZ.1 hx;simp at e
variable {p:Nat}
def CQ(h:y∈a.oE k p):y.p=(k:Int)/\y.kind=5:=by obtain ⟨q,_,_,rfl⟩:=oY.1 h;exact ⟨rfl,rfl⟩
def nodup:a.items.Nodup:=by unfold items;refine zp.2 ⟨zp.2 ⟨zp.2 ⟨?_,?_,λx hx y b e=>?_⟩,?_,λx hx y b e=>?_⟩,?_,λx hx y b e=>?_⟩;{exact KO a.VS (λp x hx=>(a.C4 hx).1) _};{exact KO (λp=>Hr (λx y e=>by have:=aw br.q e;simp only at this;omega) _) (λp x hx=>(a.CQ hx).1) _};{have⟨p,_,hx⟩:=zj.1 hx;have⟨q,_,b⟩:=zj.1 b;have:=(a.C4 hx).2;have:=(a.CQ b).2;rw[<- e]at this;omega};{exact Hr (λx y e=>by have:=aw br.p e;simp only at this;omega) _};{obtain ⟨i,_,_,rfl⟩:=oY.1 b;rcases zh.1 hx with hx|hx;{have⟨p,_,hx⟩:=zj.1 hx;have:=(a.C4 hx).2;rw[e]at this;simp at this};have⟨p,_,hx⟩:=zj.1 hx;have:=(a.CQ hx).2;rw[e]at this;simp at this};{exact Hr (λx y e=>by have:=aw br.p e;simp only at this;omega) _};obtain ⟨j,_,_,rfl⟩:=oY.1 b;rcases zh.1 hx with hx|hx;{rcases zh.1 hx with hx|hx;{have⟨p,_,hx⟩:=zj.1 hx;have:=(a.C4 hx).2;rw[e]at this;simp at this};have⟨p,_,hx⟩:=zj.1 hx;have:=(a.CQ hx).2;rw[e]at this;simp at this};obtain ⟨i,_,_,rfl⟩:=oY.1 hx;simp at e
def Dp(h:y∈a.dq k):1<=y.kind/\y.kind<=4/\∃p:Nat,p<k/\y.p=p:=by have⟨p,c,b⟩:=zj.1 h;have:=a.C4 b;exact ⟨this.2.1,this.2.2,p,zf.1 c,this.1⟩
def jv3(h:y∈a.kV k):y.kind=1:=by unfold kV at h;split at h;{cases h};rw[zu]at h;rw[h]
def H3(h:y∈a.jF k):y.kind=5/\∃p:Nat,p<k/\y.p=p:=by have⟨p,c,b⟩:=zj.1 h;have:=a.CQ b;exact ⟨this.2,p,zf.1 c,this.1⟩
def Ye(h:y∈a.oE k p):y.kind=5/\y.p=k/\∃q:Nat,q<p/\y.q=q:=by obtain ⟨q,b,_,rfl⟩:=oY.1 h;exact ⟨rfl,rfl,q,b,rfl⟩
def NM(h:y∈a.mz k):y.kind=6/\∃q:Nat,q<k/\y.p=q:=by obtain ⟨q,b,_,rfl⟩:=oY.1 h;exact ⟨rfl,q,b,rfl⟩
def kn6(h:y∈a.oR k):y.kind=7/\∃q:Nat,q<k/\y.p=q:=by obtain ⟨q,b,_,rfl⟩:=oY.1 h;exact ⟨rfl,q,b,rfl⟩
def lj (p j:Nat):Nat:=if j=0 then (a.pk p).bq.length else if j=1 then (a.pk p).conflicts.length else (a.pk p).cR.length
def kW (p j:Nat):List br:=(zr j).flatMap λi=>jX ((2+i:Nat):Int) p (a.lj p i)
def rj (p j:Nat):a.kW p (j+1)=a.kW p j++jX ((2+j:Nat):Int) p (a.lj p j):=by unfold kW;rw[zq,zv];simp
def O5(p:Nat):a.pI p=a.kV p++a.kW p 3:=by rw[rj,rj,rj];unfold pI lj;simp[kW]
def kn7(h:y∈a.kW k p):2<=y.kind/\y.kind<2+(p:Int):=by have⟨i,hi,b⟩:=zj.1 h;obtain ⟨q,_,rfl⟩:=qZ.1 b;have:=zf.1 hi;simp only;omega
def LJ{m:Nat}(h:k<=m):(a.dq k).length<=(a.dq m).length:=by obtain ⟨d,rfl⟩:∃d,m=k+d:=⟨m-k,om⟩;induction d with|zero=>exact zm _|succ d ih=>have:=ih om;rw[show k+(d+1)=k+d+1 from rfl,a.CP,zd];omega
def TV{m:Nat}(h:k<=m):(a.jF k).length<=(a.jF m).length:=by obtain ⟨d,rfl⟩:∃d,m=k+d:=⟨m-k,om⟩;induction d with|zero=>exact zm _|succ d ih=>have:=ih om;rw[show k+(d+1)=k+d+1 from rfl,a.Ej,zd];omega
def HF(f:Nat->Bool)(g:Nat->br){m:Nat}(h:k<=m):(iZ f g k).length<=(iZ f g m).length:=by obtain ⟨d,rfl⟩:∃d,m=k+d:=⟨m-k,om⟩;induction d with|zero=>exact zm _|succ d ih=>have:=ih om;rw[show k+(d+1)=k+d+1 from rfl,Et,zd];omega
def tz (k:Int)(p n:Nat):(jX k p n).length=n:=by unfold jX;rw[z4,qj]
def wt:a.items.length=(a.dq a.l.length).length+(a.jF a.l.length).length+(a.mz a.p.aU.toNat).length+(a.oR a.r.bP.length).length:=by unfold items;simp only[zd]
def NN{q:Nat}(b:k<a.l.length)(f:p<3)(e:q<=a.lj k p):(a.dq k++a.kV k++a.kW k p++jX ((2+p:Nat):Int) k q).length<=a.items.length:=by have c:=a.LJ (show k+1<=a.l.length from b);have h:=a.wt;rw[a.CP,a.O5,zd,zd]at c;have g:(a.kW k p).length+q<=(a.kW k 3).length:=(by have d:(a.kW k 3).length=a.lj k 0+a.lj k 1+a.lj k 2:=(by rw[a.rj,a.rj,a.rj];simp only[zd,tz];simp[kW]);rw[d];have:p=0\/p=1\/p=2:=om;rcases this with rfl|rfl|rfl;{simp only[kW,qo,qb,List.length_nil];omega};{rw[a.rj];simp only[kW,qo,qb,List.nil_append,tz];omega};rw[a.rj,a.rj];simp only[kW,qo,qb,List.nil_append,zd,tz];omega);simp only[zd,tz];omega
def Yf(b:k<a.l.length):(a.dq k).length<=a.items.length:=by have d:=a.LJ (show k<=a.l.length by omega);have c:=a.wt;omega
def Yg(b:k<a.l.length)(c:p<=a.l.length):(a.dq a.l.length++a.jF k++a.oE k p).length<=a.items.length:=by have d:=a.TV (show k+1<=a.l.length from b);have f:=a.wt;have e:(a.oE k p).length<=(a.Ca k).length:=HF _ _ c;rw[a.Ej,zd]at d;simp only[zd];omega
def Yh(b:k<=a.p.aU.toNat):(a.dq a.l.length++a.jF a.l.length++a.mz k).length<=a.items.length:=by have d:=a.wt;have c:(a.mz k).length<=(a.mz a.p.aU.toNat).length:=HF _ _ b;simp only[zd];omega
def jv4(b:k<=a.r.bP.length):(a.dq a.l.length++a.jF a.l.length++a.mz a.p.aU.toNat++a.oR k).length<=a.items.length:=by have d:=a.wt;have c:(a.oR k).length<=(a.oR a.r.bP.length).length:=HF _ _ b;simp only[zd];omega
def Sw(p:Nat):a.oE p (p+1)=[]:=by unfold oE iZ;rw[List.map_eq_nil_iff,List.filter_eq_nil_iff];intro q b;have:=zf.1 b;have:¬p<q:=om;simp[this]
def nQ (x:br):aS:=(a.pk x.p).bq.getD x.q.toNat default
def nE (x:br):aS:=(a.pk x.p).conflicts.getD x.q.toNat default
def sR (x:br):bD:=(a.pk x.p).cR.getD x.q.toNat default
def less (st:List Int)(n:Int):List Int:=st.filter λm=>!decide (m=n)
def isI (x:br):Bool:=decide (x∈a.items)
end a7
def mZ(wh:Int)(k:Int)(d:bD)(n:Nat)(alone:Bool):Bool :=if k=1 then decide (n=0)&&iz d else (if k=2\/k=3\/k=6 then decide (2<=n) else if k=7 then decide (n=2) else if k=4 then (decide (n=2)||decide (n=3))&&!alone&&decide (wh=1) else if k=5 then (decide (n=2)||decide (n=3))&&!alone&&decide (wh<=2) else false)&&decide (d=kf)
mutual
def aS.eS (wh:Int):aS->Bool->Bool
 | .mk k d aZ,alone=>mZ wh k d aZ.length alone&&(aS.AQ wh aZ (alone||decide (k=6)||decide (k=7)))
def aS.AQ (wh:Int):List aS->Bool->Bool
 | [],_=>true
 | r::rs,alone=>r.eS wh alone&&aS.AQ wh rs alone
end
def aS.wD(b:Int)(l:List aS)(alone:Bool):aS.AQ b l alone=l.all λr=>r.eS b alone:=by induction l with|nil=>rfl|cons r l ih=>simp only[aS.AQ,qr,ih]
def jv8(r:1<=b)(q:b<=3)(k:Int)(d:bD)(f:List aS)(alone:Bool)(p:f.length<=24):mZ b k d f.length alone=fE b (.mk k d f) alone:=by unfold mZ fE asks;simp only[aS.kind,aS.args,aS.dep];rw[qc];by_cases o:k=1;{subst o;simp only[af];have:¬(3:Int)<b:=om;cases iz d<;>cases alone<;>simp[this]<;>omega};by_cases n:k=2;{subst n;have:¬(3:Int)<b:=om;by_cases c:d=kf<;>cases alone<;>simp[this,c]<;>omega};by_cases m:k=3;{subst m;have:¬(3:Int)<b:=om;by_cases c:d=kf<;>cases alone<;>simp[this,c]<;>omega};by_cases j:k=4;{subst j;by_cases c:d=kf<;>cases alone<;>by_cases e:(1:Int)<b<;>simp[c,e]<;>omega};by_cases i:k=5;{subst i;by_cases c:d=kf<;>cases alone<;>by_cases e:(2:Int)<b<;>simp[c,e]<;>omega};by_cases h:k=6;{subst h;have:¬(3:Int)<b:=om;by_cases c:d=kf<;>cases alone<;>simp[this,c]<;>omega};by_cases g:k=7;{subst g;have:¬(3:Int)<b:=om;by_cases c:d=kf<;>cases alone<;>simp[this,c]<;>omega};have:(0:Int)<b:=om;simp[o,n,m,j,i,h,g,this]
def aS.wE{l:List aS}{r:aS}(h:r∈l):r.count<=aS.counts l:=by induction l with|nil=>cases h|cons x l ih=>simp only[aS.counts];rcases zb.1 h with rfl|h;{omega};have:=ih h;omega
def aS.V1 (r:aS):1<=r.count:=by cases r;simp only[aS.count];omega
def aS.Ez(l:List aS):l.length<=aS.counts l:=by induction l with|nil=>exact zm _|cons x l ih=>simp only[aS.counts,z2];have:=x.V1;omega
def aS.T8(i:1<=b)(g:b<=3)(r:aS):r.count<=24->∀alone,r.eS b alone=(r.parts alone).all λp=>fE b p.1 p.2:=by refine aS.ind (p:=λr=>r.count<=24->∀alone,r.eS b alone=(r.parts alone).all λp=>fE b p.1 p.2) (λk d c e hc alone=>?_) r;simp only[aS.count]at hc;simp only[aS.eS,aS.parts,qr];have:=aS.Ez c;rw[jv8 i g k d c alone om];congr 1;generalize (alone||decide (k=6)||decide (k=7))=al;have:∀l:List aS,(∀x∈l,x∈c)->aS.AQ b l al=(aS.oB l al).all λp=>fE b p.1 p.2:=(by intro l;induction l with|nil=>intro _;rfl|cons x l ih2=>intro h;have hx:=h x zg;simp only[aS.AQ,aS.oB,List.all_append];rw[e x hx (by have:=aS.wE hx;omega),ih2 λy f=>h y (ze _ f)]);exact this c λ_ h=>h
def El(r:aS)(b:Int):ku r b=if b<1\/3<b then 1 else if r.count>24 then 40 else if r.depth>8 then 21 else if r.eS b false=false then 4 else 0:=by unfold ku;by_cases e:b<1\/3<b;{rw[ab e,ab e]};rw[aa e,aa e];by_cases d:r.count>24;{rw[ab d,ab d]};rw[aa d,aa d];by_cases c:r.depth>8;{rw[ab c,ab c]};rw[aa c,aa c,aS.T8 om om r om];cases h:(r.parts false).all λp=>fE b p.1 p.2<;>simp
end Go.Id.Md
namespace Go.Id.Md
open Go Go.Id
def headD(k:Int)(n:Nat):Bool :=if k=2\/k=3\/k=6 then decide (2<=n) else if k=4\/k=5 then decide (n=2\/n=3) else if k=7 then decide (n=2) else false
mutual
def aS.part:aS->Bool
 | .mk k d aZ=>if k=1 then iz d&&decide (aZ.length=0) else headD k aZ.length&&(aS.DU aZ&&decide (d=kf))
def aS.DU:List aS->Bool
 | []=>true
 | r::rs=>r.part&&aS.DU rs
end
def aS.LR(b:List aS):aS.DU b=b.all aS.part:=by induction b with|nil=>rfl|cons r rs ih=>simp only[aS.DU,qr,ih]
def aS.NU(b:List aS):∀p d:Nat,(∀a∈b,a.ms=(a.count,a.depth,true))->aS.msL b p d true=(p+aS.counts b,max d (aS.nD b),true):=by induction b with|nil=>intro p d _;simp[aS.msL,aS.counts,aS.nD]|cons r rs ih=>intro p d h;have c:=h r zg;simp only[aS.msL,ab,c,aS.counts];rw[ih _ _ λa ha=>h a (ze _ ha)];simp only[aS.nD,Nat.add_assoc,Nat.max_assoc]
def aS.IM(r:aS):r.ms.2.2=true->r.ms=(r.count,r.depth,true):=by induction r using aS.ind with|h k d aZ ih=>intro h;unfold aS.ms at h ⊢;by_cases b:k=1;{rw[ab b]at h ⊢;simp only[zc,ah]at h;have e:aZ=[]:=List.length_eq_zero_iff.1 h.1;subst e;simp[aS.count,aS.counts,aS.depth,b,h.2]};rw[aa b]at h ⊢;have⟨f,c⟩:=aS.Pj _ _ _ _ h;have e:=aS.NU aZ 1 0 λa ha=>ih a ha (c a ha);rw[f]at h ⊢;rw[e];simp only[aS.count,aS.depth,b,ae];rw[Nat.zero_max,Nat.add_comm]
def Yr{k:Int}{n:Nat}(i:n<=24)(d:bD)(j:k≠1):ve k d n=(headD k n&&decide (d=kf)):=by by_cases c:k=2\/k=3\/k=4\/k=5\/k=6\/k=7;{by_cases b:d=kf;{rw[qc];unfold ve headD Qg;rcases c with rfl|rfl|rfl|rfl|rfl|rfl<;>simp only[b,zc,ah,Int.reduceEq,false_or,aj,or_self,true_or,or_true,af,ae,reduceCtorEq,aC,and_true,az,Int.reduceLT,Int.reduceLE]<;>omega};simp[ve,b]};have g:¬(k=2\/k=3\/k=6):=om;have f:¬(k=4\/k=5):=om;have e:¬k=7:=om;unfold headD;rw[aa g,aa f,aa e,Bool.false_and];unfold ve;by_cases h:1<k;{simp[show ¬k<=7 by omega]};simp[h]
def aS.ko3(b:List aS):b.length<=aS.counts b:=by induction b with|nil=>simp[aS.counts]|cons r rs ih=>cases r;simp only[aS.counts,aS.count,z2];omega
def aS.NV(r:aS):r.count<=24->r.part=r.ms.2.2:=by induction r using aS.ind with|h k d aZ ih=>intro hc;simp only[aS.count]at hc;have m:=aS.ko3 aZ;unfold aS.part aS.ms;by_cases c:k=1;{rw[ab c,ab c,qu]};rw[aa c,aa c,aS.LR,qc];have i:=Yr (k:=k) (n:=aZ.length) om d c;have b:∀a∈aZ,a.part=a.ms.2.2:=λa ha=>ih a ha (by have:=aS.wE ha;omega);simp only[zc,zt];constructor;{rintro ⟨f,g,j⟩;have e:=aS.NU aZ 1 0 λa ha=>aS.IM a (by rw[<- b a ha];exact g a ha);rw[i,f,j,Bool.and_self,e]};intro h;have⟨f,g⟩:=aS.Pj _ _ _ _ h;rw[i,zc]at f;exact ⟨f.1,λa ha=>by rw[b a ha];exact g a ha,f.2⟩
def V2(r:aS):tN r=(r.part&&decide (r.count<=24)&&decide (r.depth<=8)):=by unfold tN;rw[qc];simp only[zc,ah];constructor;{rintro ⟨⟨c,b⟩,d⟩;have e:=aS.IM r c;rw[e]at b d;exact ⟨⟨by rw[aS.NV r b];exact c,b⟩,d⟩};rintro ⟨⟨c,b⟩,d⟩;rw[aS.NV r b]at c;have e:=aS.IM r c;rw[e];exact ⟨⟨rfl,b⟩,d⟩
end Go.Id.Md
namespace Go.Id.Md
open Go Go.Id
def aS.V3(m:Int)(r:aS):∀alone:Bool,r.eS m alone=true->r.part=true:=by induction r using aS.ind with|h k d aZ ih=>intro alone h;simp only[aS.eS,zc,aS.wD,zt]at h;have⟨c,o⟩:=h;unfold mZ at c;unfold aS.part;by_cases i:k=1;{rw[ab i]at c ⊢;rw[qu];exact c};rw [aa i]at c ⊢;rw[zc]at c;have n:aS.DU aZ=true:=(by rw[aS.LR,zt];exact λx hx=>ih x hx _ (o x hx));rw[n,c.2,Bool.and_true,Bool.and_true];have b:=c.1;unfold headD;by_cases j:k=2\/k=3\/k=6;{rw[ab j]at b ⊢;exact b};rw [aa j]at b ⊢;by_cases e:k=7;{rw[ab e]at b;rw[aa om,ab e];exact b};rw[aa e]at b;by_cases g:k=4;{rw[ab g]at b;rw[ab (.inl g)];simp only[zc,z5,ah]at b ⊢;exact b.1.1};rw[aa g]at b;by_cases f:k=5;{rw[ab f]at b;rw[ab (.inr f)];simp only[zc,z5,ah]at b ⊢;exact b.1.1};rw[aa f]at b;cases b
def V4{r:aS}{b:Int}(h:ku r b=0):tN r=true:=by rw[El]at h;split at h;{cases h};split at h;{cases h};split at h;{cases h};split at h;{cases h};rename_i f e d c;rw[V2,aS.V3 b r false (by simpa using c)];simp only[Bool.true_and,zc,ah];omega
def Gc(p:ba)(k:Int)(d:bD)(bs:List Bool):Bool :=if k=1 then aX p d else if k=3 then bs.any λb=>b else if k=7 then bs.getD 0 false&&!bs.getD 1 false else bs.all λb=>b
mutual
def aS.alone (p:ba):aS->Bool
 | .mk k d aZ=>Gc p k d (aS.Gd p aZ)
def aS.Gd (p:ba):List aS->List Bool
 | []=>[]
 | r::rs=>r.alone p::aS.Gd p rs
end
def aS.T9(p:ba)(b:List aS):aS.Gd p b=b.map λr=>r.alone p:=by induction b with|nil=>rfl|cons r rs ih=>simp only[aS.Gd,za,ih]
structure bL where
 h:Nat
 cl:List (List Int)
 cu:List (bB×Int)
def nX (n:Int):bB:=if n<10 then [qv (48+n.toNat)] else [qv (48+n.toNat/10),qv (48+n.toNat%10)]
def kJ (l:List Int):bB:=l.flatMap λn=>nX n++[32]
def m5:List (bB×Int)->bB->Option Int|[],_=>none|t::ts,k=>if k=t.1 then some t.2 else m5 ts k
def kY (l:List Int):List Int:=l.map λx=>-x
def dW (l:List Int):List Int:=l.map λx=>x+1
variable (c:Nat)
def gY(l:List Int)(t:bL):Int×bL :=(((c+(t.h+1):Nat):Int),⟨t.h+1,t.cl++(l.map λx=>[-x,((c+(t.h+1):Nat):Int)])++[-((c+(t.h+1):Nat):Int)::l],t.cu⟩)
def sN (l:List Int)(t:bL):Int×bL:=(-(gY c (kY l) t).1,(gY c (kY l) t).2)
def nY(l:List Int)(t:bL):Int×bL :=if l.length=1 then (l.getD 0 0+1,t) else match m5 t.cu (kJ l)with|some x=>(x,t)|none=>((gY c (dW l) t).1,{ (gY c (dW l) t).2 with cu:=t.cu++[(kJ l,(gY c (dW l) t).1)] })
def sJ(x y w:Int)(t:bL):Int×bL :=(((c+(t.h+1):Nat):Int),⟨t.h+1,t.cl++[[-w,-x,((c+(t.h+1):Nat):Int)],[-w,x,-((c+(t.h+1):Nat):Int)],[w,-y,((c+(t.h+1):Nat):Int)],[w,y,-((c+(t.h+1):Nat):Int)]],t.cu⟩)
def oa(k:Int)(ls:List Int)(t:bL):Int×bL :=if k=2 then sN c ls t else if k=3 then gY c ls t else if k=4 then (if ls.length=3 then sJ c (ls.getD 0 0) (ls.getD 2 0) (ls.getD 1 0) t else gY c [ls.getD 0 0,-ls.getD 1 0] t) else if ls.length=3 then sJ c (ls.getD 2 0) (ls.getD 0 0) (ls.getD 1 0) t else sN c [ls.getD 0 0,-ls.getD 1 0] t
def jx (l:List Int)(b:Int):List Int:=l.filter λn=>!decide (n=b)
mutual
def aS.gu (l:List ba)(b:Int):aS->bL->Int×bL
 | .mk k d aZ,t=>
  if k=1 then nY l.length (jx (ma l d) b) t
  else if k=6\/k=7 then nY l.length (jx (bG (λp=>(aS.mk k d aZ).alone p) l) b) t
  else oa l.length k (aS.eQ l b aZ t).1 (aS.eQ l b aZ t).2
def aS.eQ (l:List ba)(b:Int):List aS->bL->List Int×bL
 | [],t=>([],t)
 | r::rs,t=>((r.gu l b t).1::(aS.eQ l b rs (r.gu l b t).2).1,(aS.eQ l b rs (r.gu l b t).2).2)
end
end Go.Id.Md
namespace Go.Id.Md
open Go Go.Id
inductive j6(F:List (List Int))(S:Int->Prop):Int->Prop|dec {l:Int}:S l->j6 F S l|unit {c:List Int}{l:Int}:c∈F->l∈c->(∀m∈c,m≠l->j6 F S (-m))->j6 F S l
variable {S:Int->Prop}
def j6.mono{F d:List (List Int)}{b:Int->Prop}(f:∀c∈F,c∈d)(e:∀l,S l->b l){l:Int}(h:j6 F S l):j6 d b l:=by induction h with|dec h=>exact .dec (e _ h)|unit h1 h2 _ ih=>exact .unit (f _ h1) h2 ih
def gT (F:List (List Int))(T:Int->Prop):Prop:=∀c∈F,(∃l∈c,T l)\/∃l∈c,∃m∈c,l≠m/\¬T (-l)/\¬T (-m)
variable {F:List (List Int)}
def gT.bcp{T:Int->Prop}(h:gT F T)(m:∀l,T l->¬T (-l))(n:∀l,S l->T l){l:Int}(j:j6 F S l):T l:=by induction j with|dec h=>exact n _ h|@unit c l h1 h2 _ ih=>rcases h c h1 with ⟨x,hx,d⟩|⟨a,ha,b,k,f,i,g⟩;{by_cases e:x=l;{rw[<- e];exact d};exact au (ih x hx e) (m x d)};by_cases e:a=l;{exact au (ih b k λo=>f (by rw[e,o])) g};exact au (ih a ha e) i
def uh (p b:Nat)(l:Int):Prop:=∃v:Nat,v<p/\b.testBit v=true/\l=-((v:Int)+1)
def rX (n:Nat):List Int:=(zr n).flatMap λ(v:Nat)=>[(v:Int)+1,-((v:Int)+1)]
variable {n:Nat}
def LU{l:Int}:l∈rX n↔l≠0/\-(n:Int)<=l/\l<=n:=by unfold rX;simp only[zj,zf,zb,z1,aj];constructor;{rintro ⟨v,b,rfl|rfl⟩<;>omega};rintro ⟨h0,e,d⟩;rcases Int.lt_or_gt_of_ne h0 with h|h;{refine ⟨(-l-1).toNat,?_,.inr ?_⟩;{omega};omega};refine ⟨(l-1).toNat,?_,.inl ?_⟩;{omega};omega
def LV(n:Nat):(rX n).length=2*n:=by unfold rX;induction n with|zero=>rfl|succ n ih=>rw[zq,zv,zd,ih];simp;omega
open Classical in noncomputable def phi(F:List (List Int))(n p:Nat):Nat:=((zr (2^p)).map λb=>(rX n).countP λl=>decide (j6 F (uh p b) l)).sum
def ko4{l:List Nat}{f:Nat->Nat}{k:Nat}(h:∀x∈l,f x<=k):(l.map f).sum<=l.length*k:=by induction l with|nil=>exact zz _|cons x l ih=>have e:=h x zg;have d:=ih λy b=>h y (ze _ b);rw[za,qa,z2,Nat.add_mul,Nat.one_mul];omega
def Ys{l:List Nat}{f g:Nat->Nat}(h:∀x∈l,f x<=g x):(l.map f).sum<=(l.map g).sum:=by induction l with|nil=>exact zm _|cons x l ih=>have e:=h x zg;have d:=ih λy b=>h y (ze _ b);rw[za,qa,za,qa];omega
def ko5{l:List Nat}{f g:Nat->Nat}(h:∀x∈l,f x<=g x)(b:n∈l)(d:f n<g n):(l.map f).sum<(l.map g).sum:=by induction l with|nil=>cases b|cons x l ih=>have i:=h x zg;have e:=Ys λn b=>h n (ze x b);rw[za,qa,za,qa];rcases zb.1 b with rfl|b;{omega};have:=ih (λn b=>h n (ze _ b)) b;omega
def V6{d:Type}{p q:d->Bool}{l:List d}(h:∀x∈l,p x=true->q x=true){y:d}(b:y∈l)(i:p y=false)(g:q y=true):l.countP p<l.countP q:=by induction l with|nil=>cases b|cons x l ih=>have j:l.countP p<=l.countP q:=qz λz e=>h z (ze _ e);rw[List.countP_cons,List.countP_cons];rcases zb.1 b with rfl|b;{rw[i,g];simp;omega};have:=ih (λz e=>h z (ze _ e)) b;have hx:=h x zg;cases f:p x with|false=>simp;omega|true=>rw[hx f];simp;omega
def ko6(F:List (List Int))(n p:Nat):phi F n p<=2^p*(2*n):=by have h:=ko4 (l:=zr (2^p)) (f:=λb=>(rX n).countP λl=>@decide (j6 F (uh p b) l) (zw _)) (k:=2*n) λb _=>(by have:=List.countP_le_length (l:=rX n) (p:=λl=>@decide (j6 F (uh p b) l) (zw _));rw[LV]at this;exact this);rw[qj]at h;exact h
def ko7{d:List (List Int)}{p:Nat}(i:∀c∈F,c∈d){b:Nat}(g:b<2^p){l:Int}(f:l∈rX n)(k:¬j6 F (uh p b) l)(j:j6 d (uh p b) l):phi F n p<phi d n p:=by classical have e:∀b l,@decide (j6 F (uh p b) l) (zw _)=true->@decide (j6 d (uh p b) l) (zw _)=true:=λb l h=>ao ((aA h).mono i λ_ h=>h);exact ko5 (λx _=>qz λz _=>e x z) (zf.2 g) (V6 (λz _=>e b z) f (aq k) (ao j))
def Cw (T:Int->Bool)(c:List Int):Prop:=∃l∈c,T l=true
def gJ (F:List (List Int))(c:List Int):Prop:=∀T:Int->Bool,(∀l,l≠0->T (-l)=!T l)->(∀d∈F,Cw T d)->Cw T c
def gJ.of{c:List Int}(h:c∈F):gJ F c:=λ_ _ b=>b c h
def gJ.res{c d e:List Int}{l:Int}(h0:l≠0)(hc:gJ F c)(m:gJ F d)(o:∀x∈c,x≠-l->x∈e)(n:∀x∈d,x≠l->x∈e):gJ F e:=λT g h=>by have⟨x,hx,f⟩:=hc T g h;have⟨y,k,b⟩:=m T g h;by_cases j:x=-l;{by_cases i:y=l;{have:=g l h0;rw[<- j,f,<- i,b]at this;cases this};exact ⟨y,n y k i,b⟩};exact ⟨x,o x hx j,f⟩
def bT (V:Nat)(x:Int):Prop:=x≠0/\-(V:Int)<=x/\x<=V
variable {x:Int}
def bT.mono{V W:Nat}(h:bT V x)(b:V<=W):bT W x:=⟨h.1,by have:=h.2.1;omega,by have:=h.2.2;omega⟩
def bT.neg(h:bT n x):bT n (-x):=⟨by have:=h.1;omega,by have:=h.2.2;omega,by have:=h.2.1;omega⟩
def nf (c:Nat)(t:bL):Prop:=∀(F:List (List Int)) (T:Int->Prop),(∀q∈t.cl,q∈F)->gT F T->(∀l,T l->¬T (-l))->(∀x,bT c x->T x\/T (-x))->∀x,bT (c+t.h) x->T x\/T (-x)
def nf.zero (c:Nat):nf c ⟨0,[],[]⟩:=λ_ _ _ _ _ h x hx=>h x hx
def gT.last(k:gT F S)(hc:∀l,S l->¬S (-l)){q:List Int}(i:q∈F)(hf:∀T∈q,T=x\/S (-T)):S x:=by rcases k q i with ⟨l,d,g⟩|⟨l,d,m,j,b,o,n⟩;{rcases hf l d with e|e;{rw[<- e];exact g};exact au e (hc l g)};rcases hf l d with e|e;{rcases hf m j with f|f;{exact au (e.trans f.symm) b};exact au f n};exact au e o
variable {s:List (bB×Int)}
def nf.more{c:Nat}{t:bL}(h:nf c t){m:List (List Int)}(p:∀(F:List (List Int))(T:Int->Prop),(∀q∈m,q∈F)->gT F T->(∀l,T l->¬T (-l))->(∀x,bT (c+t.h) x->T x\/T (-x))->T ((c+(t.h+1):Nat):Int)\/T (-((c+(t.h+1):Nat):Int))):nf c ⟨t.h+1,t.cl++m,s⟩:=λF T k j hc o x hx=>by have d:=h F T (λq f=>k q (qg _ f)) j hc o;by_cases g:bT (c+t.h) x;{exact d x g};have i:=p F T (λq f=>k q (qx _ f)) j hc d;have⟨h0,y,n⟩:=hx;have u:-((c+(t.h+1):Nat):Int)<=x:=y;have r:x<=((c+(t.h+1):Nat):Int):=n;have e:x=((c+(t.h+1):Nat):Int)\/x=-((c+(t.h+1):Nat):Int):=(by by_cases a:x=((c+(t.h+1):Nat):Int);{exact .inl a};by_cases b:x=-((c+(t.h+1):Nat):Int);{exact .inr b};exact au ⟨h0,om,om⟩ g);rcases e with rfl|rfl;{exact i};rw[z3];exact i.symm
def Ua{c:Nat}{t:bL}(h:nf c t){l:List Int}(i:∀x∈l,bT (c+t.h) x):nf c (gY c l t).2:=by have e:(gY c l t).2=⟨t.h+1,t.cl++((l.map λx=>[-x,((c+(t.h+1):Nat):Int)])++[-((c+(t.h+1):Nat):Int)::l]),t.cu⟩:=(by unfold gY;rw[q2]);rw[e];refine h.more λF T f d hc g=>?_;by_cases hx:∃x∈l,T x;{have⟨x,hx,j⟩:=hx;refine .inl (d.last hc (f [-x,((c+(t.h+1):Nat):Int)] (qg _ (zi.2 ⟨x,hx,rfl⟩))) λy b=>?_);simp only[zb,z1,aj]at b;rcases b with rfl|rfl;{rw[z3];exact .inr j};exact .inl rfl};refine .inr (d.last hc (f (-((c+(t.h+1):Nat):Int)::l) (qx _ (zu.2 rfl))) λy b=>?_);rcases zb.1 b with rfl|b;{exact .inl rfl};exact .inr ((g y (i y b)).resolve_left λh=>hx ⟨y,b,h⟩)
def Uc{c:Nat}{t:bL}(h:nf c t){y w:Int}(hx:bT (c+t.h) x)(o:bT (c+t.h) y)(p:bT (c+t.h) w):nf c (sJ c x y w t).2:=by refine h.more λF T e q hc f=>?_;have d:∀ {a b:Int}{g:Int},[a,b,g]∈F->T (-a)->T (-b)->T g:=λ{a b g} hm h1 h2=>q.last hc hm λz i=>(by simp only[zb,z1,aj]at i;rcases i with rfl|rfl|rfl;{exact .inr h1};{exact .inr h2};exact .inl rfl);have n:=e [-w,-x,((c+(t.h+1):Nat):Int)] (by simp);have m:=e [-w,x,-((c+(t.h+1):Nat):Int)] (by simp);have k:=e [w,-y,((c+(t.h+1):Nat):Int)] (by simp);have j:=e [w,y,-((c+(t.h+1):Nat):Int)] (by simp);rcases f w p with a|a;{rcases f x hx with b|b;{exact .inl (d n (by rw[z3];exact a) (by rw[z3];exact b))};exact .inr (d m (by rw[z3];exact a) b)};rcases f y o with b|b;{exact .inl (d k a (by rw[z3];exact b))};exact .inr (d j a b)
structure bL.OK (c:Nat) (t:bL):Prop where
 cl:∀q∈t.cl,∀x∈q,bT (c+t.h) x
 st:∀e∈t.cu,bT (c+t.h) e.2
 kn:(t.cu.map (·.1)).Nodup
 det:nf c t
variable {c:Nat} {t:bL}
def V7{k:bB}(h:m5 s k=some x):(k,x)∈s:=by induction s with|nil=>cases h|cons t ts ih=>unfold m5 at h;split at h;{rename_i e;cases h;rw[e];exact zg};exact ze _ (ih h)
def Ud{k:bB}(h:m5 s k=none):k ∉ s.map (·.1):=by induction s with|nil=>exact z1|cons t ts ih=>unfold m5 at h;split at h;{cases h};rename_i e;rw[za,zb];exact λb=>b.elim e (ih h)
end Go.Id.Md
namespace Go.Id.Md
structure bE where
 lit:Int
 dK:Nat
 iP:Int
def da (tr:List bE)(i:Nat)(l:Int):Prop:=∃j,j<i/\∃e,tr[j]? = some e/\e.lit=l
def dy (tr:List bE)(k:Nat)(l:Int):Prop:=∃(j:Nat) (e:bE),tr[j]? = some e/\e.dK<=k/\e.lit=l
def JP (tr:List bE)(k:Nat)(l:Int):Prop:=∃(j:Nat) (e:bE),tr[j]? = some e/\e.dK<=k/\e.iP<0/\e.lit=l
structure dz (n p:Nat) (F:List (List Int)) (tr:List bE) (k:Nat):Prop where
 dU:∀(j:Nat) (e:bE),tr[j]? = some e->e.lit≠0/\-(n:Int)<=e.lit/\e.lit<=n
 one:∀(i j:Nat) (d e:bE),tr[i]? = some d->tr[j]? = some e->(d.lit=e.lit\/d.lit=-e.lit)->i=j
 up:∀(i j:Nat) (d e:bE),tr[i]? = some d->tr[j]? = some e->i<=j->d.dK<=e.dK
 top:∀(j:Nat) (e:bE),tr[j]? = some e->e.dK<=k
 dec:∀(j:Nat) (e:bE),tr[j]? = some e->e.iP<0->1<=e.dK/\(∃v:Nat,v<p/\e.lit=-((v:Int)+1))/\∀(i:Nat) (d:bE),i<j->tr[i]? = some d->d.dK<e.dK
 iP:∀(j:Nat) (e:bE),tr[j]? = some e->0<=e.iP->∃c,F[e.iP.toNat]? = some c/\e.lit∈c/\∀m∈c,m≠e.lit->da tr j (-m)
variable {n p k:Nat} {F:List (List Int)} {tr:List bE}
variable {a:Nat}
def dz.con(h:dz n p F tr k){b:Nat}{l:Int}(m:dy tr a l)(g:dy tr b (-l)):False:=by obtain ⟨i,d,f,_,rfl⟩:=m;have⟨j,e,he,_,o⟩:=g;have:=h.one i j d e f he (.inr om);subst this;rw[f]at he;cases he;have:=(h.dU i d f).1;omega
def dz.bcp(h:dz n p F tr k)(a:Nat):∀(j:Nat)(e:bE),tr[j]? = some e->e.dK<=a->j6 F (JP tr a) e.lit:=by intro j;induction j using Nat.strongRecOn with|ind j ih=>intro e he o;by_cases r:e.iP<0;{exact .dec ⟨j,e,he,o,r,rfl⟩};have⟨c,hc,s,b⟩:=h.iP j e he om;refine .unit (qf hc) s λm g f=>?_;have⟨i,hi,d,q,u⟩:=b m g f;rw[<- u];exact ih i hi d q (z6 (h.up i j d e q he om) o)
def dz.shut(h:dz n p F tr k)(g:gT F (dy tr a)){l:Int}:j6 F (JP tr a) l↔dy tr a l:=by constructor;{exact λb=>g.bcp (λx f d=>h.con f d) (λx ⟨j,e,he,f,_,d⟩=>⟨j,e,he,f,d⟩) b};rintro ⟨j,e,he,b,rfl⟩;exact h.bcp a j e he b
def jv9(p:Nat)(l:List Nat)(f:∀v∈l,v<p):∃b,b<2^p/\∀v,v<p->(b.testBit v=true↔v∈l):=by induction l with|nil=>exact ⟨0,Nat.two_pow_pos p,λv _=>by simp⟩|cons x l ih=>have⟨b,g,h⟩:=ih λv d=>f v (ze _ d);have hx:=f x zg;refine ⟨b |||2^x,Nat.or_lt_two_pow g (Nat.pow_lt_pow_right om hx),λv d=>?_⟩;rw[Nat.testBit_or,Nat.testBit_two_pow,z5,h v d,zb,ah];exact ⟨λh=>h.elim .inr λe=>.inl e.symm,λh=>h.elim (λe=>.inr e.symm) .inl⟩
def Yt(h:dz n p F tr k)(a:Nat):∃b,b<2^p/\∀l,JP tr a l↔uh p b l:=by have s:∀v∈(tr.filter λ(e:bE)=>decide (e.dK<=a)&&decide (e.iP<0)).map λ(e:bE)=>(-e.lit-1).toNat,v<p:=λv d=>(by obtain ⟨e,he,rfl⟩:=zi.1 d;have⟨g,f⟩:=zn.1 he;simp only[zc,ah]at f;have⟨j,i⟩:=z0.1 g;have⟨_,⟨v,d,o⟩,_⟩:=h.dec j e i f.2;rw[o];omega);have⟨b,u,q⟩:=jv9 p _ s;refine ⟨b,u,λl=>⟨λ⟨j,e,he,g,f,r⟩=>?_,λ⟨v,d,g,f⟩=>?_⟩⟩;{have⟨_,⟨v,d,o⟩,_⟩:=h.dec j e he f;refine ⟨v,d,(q v d).2 (zi.2 ⟨e,zn.2 ⟨qf he,by simp[g,f]⟩,by rw[o];omega⟩),om⟩};have⟨e,he,o⟩:=zi.1 ((q v d).1 g);have⟨r,m⟩:=zn.1 he;simp only[zc,ah]at m;have⟨j,i⟩:=z0.1 r;have⟨_,⟨w,y,z⟩,_⟩:=h.dec j e i m.2;exact ⟨j,e,i,m.1,m.2,om⟩
variable {T:Int->Prop}
def j6.same{d:Int->Prop}(b:∀l,T l↔d l){l:Int}:j6 F T l↔j6 F d l :=⟨λh=>h.mono (λ_ h=>h) λl=>(b l).1,λh=>h.mono (λ_ h=>h) λl=>(b l).2⟩
def dz.lS(h:dz n p F tr k){u:Int}{r:List Int}(ha:a<k)(g:gT F (dy tr a))(i:u∈rX n)(o:¬dy tr a u)(j:∀m∈r,dy tr a (-m)):phi F n p<phi (F++[u::r]) n p:=by have⟨b,q,f⟩:=Yt h a;refine ko7 (λc hc=>zh.2 (.inl hc)) q i (λs=>o ((h.shut g).1 ((j6.same f).2 s))) ?_;refine .unit (c:=u::r) (zh.2 (.inr (zu.2 rfl))) zg λm e d=>?_;rcases zb.1 e with rfl|e;{exact au rfl d};exact ((j6.same f).1 ((h.shut g).2 (j m e))).mono (λc hc=>zh.2 (.inl hc)) λ_ h=>h
def gT.lS(h:gT F T){c:List Int}{l m:Int}(g:l∈c)(f:m∈c)(e:l≠m)(j:¬T (-l))(i:¬T (-m)):gT (F++[c]) T:=λd b=>by rcases zh.1 b with b|b;{exact h d b};rw[zu.1 b];exact .inr ⟨l,g,m,f,e,j,i⟩
def gT.all(d:gT F T)(e:∀c∈F,∀x∈c,T x\/T (-x)):∀c∈F,∃l∈c,T l:=λc hc=>by rcases d c hc with h|⟨l,b,_,_,_,f,_⟩;{exact h};exact ⟨l,b,(e c hc l b).resolve_right f⟩
end Go.Id.Md
namespace Go.Id.Md
def di (tr:List bE)(i:Nat):Int:=(tr[i]?.map λ(e:bE)=>e.lit).getD 0
def GB (tr:List bE)(H:List Nat):List Int:=H.map λi=>-di tr i
variable {n p k:Nat} {F:List (List Int)} {tr:List bE}
variable {i:Nat}{d:bE}
def C7(h:tr[i]? = some d):di tr i=d.lit:=by unfold di;rw[h];rfl
variable {H:List Nat}
def Ue{c:List Int}(hc:c∈F)(h:∀m∈c,∃i∈H,di tr i=-m):gJ F (GB tr H):=λT f d=>by have⟨x,hx,b⟩:=d c hc;have⟨i,hi,e⟩:=h x hx;exact ⟨x,zi.2 ⟨i,hi,by rw[e];omega⟩,b⟩
def V8{g:List Nat}{i:Nat}{d:List Int}(o:gJ F (GB tr H))(h0:di tr i≠0)(h:d∈F)(r:∀j∈H,j≠i->j∈g)(q:∀m∈d,m≠di tr i->∃j∈g,di tr j=-m):gJ F (GB tr g):=by refine o.res h0 (.of h) (λx hx b=>?_) λx hx b=>?_;{obtain ⟨j,f,rfl⟩:=zi.1 hx;exact zi.2 ⟨j,r j f λe=>b (by rw[e]),rfl⟩};have⟨j,f,e⟩:=q x hx b;exact zi.2 ⟨j,f,by rw[e];omega⟩
def V9{c:List Int}(hc:c∈F)(b:∀l,dy tr (k-1) l->¬dy tr (k-1) (-l))(g:gT F (dy tr (k-1)))(hf:∀m∈c,∃(j:Nat) (e:bE),tr[j]? = some e/\e.lit=-m):∃m∈c,¬dy tr (k-1) (-m):=by rcases g c hc with ⟨l,d,f⟩|⟨l,d,_,_,_,h,_⟩;{exact ⟨l,d,b l f⟩};exact ⟨l,d,h⟩
structure WI (F L:List (List Int)) (by':Int->List Nat) (tr:List bE) (done:Nat) (fresh:List Nat):Prop where
 len:L.length=F.length
 same:∀(i:Nat) (c l:List Int),F[i]? = some c->L[i]? = some l->l.Nodup/\∀x,x∈l↔x∈c
 by_:∀(i:Nat) (l:List Int),L[i]? = some l->∀w,(l[0]? = some w\/l[1]? = some w)->i∈by' w
 le:done<=tr.length
 sat:∀(i:Nat) (l:List Int),L[i]? = some l->∀(w x:Int),l[1]? = some x->(l[0]? = some w\/l[1]? = some w)->da tr done (-w)->∃y∈l,da tr tr.length y
 one:∀(i:Nat) (l:List Int),L[i]? = some l->l[1]? = none->i∈fresh\/∃y∈l,da tr tr.length y
def P7{l:Int}(h:da tr i l):da tr tr.length l:=by have⟨j,_,e,he,h⟩:=h;exact ⟨j,(zo.1 he).1,e,he,h⟩
def DL{l:Int}(hi:i<=tr.length):da (tr++[d]) i l↔da tr i l:=by constructor;{rintro ⟨j,b,e,he,h⟩;rw[zk om]at he;exact ⟨j,b,e,he,h⟩};rintro ⟨j,b,e,he,h⟩;exact ⟨j,b,e,by rw[zk om];exact he,h⟩
def uP{l:Int}(h:da tr tr.length l):da (tr++[d]) (tr++[d]).length l :=P7 ((DL (zm _)).2 h)
def rY(h:∀(j:Nat)(e:bE),tr[j]? = some e->e.dK<=k){l:Int}:dy tr k l↔da tr tr.length l:=by constructor;{rintro ⟨j,e,he,_,b⟩;exact ⟨j,(zo.1 he).1,e,he,b⟩};rintro ⟨j,_,e,he,b⟩;exact ⟨j,e,he,h j e he,b⟩
variable {L:List (List Int)}{a:Int->List Nat}
def WI.shut(h:WI F L a tr tr.length [])(q:∀(j:Nat)(e:bE),tr[j]? = some e->e.dK<=k):gT F (dy tr k):=λc hc=>by have⟨i,hi⟩:=z0.1 hc;have s:i<L.length:=(by rw[h.len];exact (zo.1 hi).1);have o:L[i]? = some L[i]:=zs s;have⟨r,f⟩:=h.same i c _ hi o;have d:(∃y∈L[i],da tr tr.length y)->∃l∈c,dy tr k l:=λ⟨y,B,g⟩=>⟨y,(f y).1 B,(rY q).2 g⟩;cases g:L[i][1]? with|none=>rcases h.one i _ o g with z|z;{cases z};exact .inl (d z)|some b=>have⟨u,m⟩:=zo.1 g;have h0:L[i][0]? = some L[i][0]:=zs om;by_cases ha:da tr tr.length (-L[i][0]);{exact .inl (d (h.sat i _ o _ b g (.inl h0) ha))};by_cases A:da tr tr.length (-b);{exact .inl (d (h.sat i _ o _ b g (.inr g) A))};refine .inr ⟨L[i][0],(f _).1 (qm _),b,(f _).1 (by rw[<- m];exact qm _),λe=>?_,λh=>ha ((rY q).1 h),λh=>A ((rY q).1 h)⟩;have:=z9.1 r 0 1 om u (by decide);exact this (by rw[e,m])
def WI.push(h:WI F L a tr i H)(d:bE):WI F L a (tr++[d]) i H where
 len:=h.len
 same:=h.same
 by_:=h.by_
 le:=by rw[zd];have:=h.le;omega
 sat:=λc l e w x g j ha=>by
  have⟨y,b,f⟩:=h.sat c l e w x g j ((DL h.le).1 ha);exact ⟨y,b,uP f⟩
 one:=λc l e g=>(h.one c l e g).imp_right λ⟨y,b,f⟩=>⟨y,b,uP f⟩
def WI.back(h:WI F L a tr i H)(d:List bE)(b:List Nat)(hf:∀(j:Nat) (l:List Int),L[j]? = some l->l[1]? = none->j∈b):WI F L a d 0 b where
 len:=h.len
 same:=h.same
 by_:=h.by_
 le:=zz _
 sat:=λ_ _ _ _ _ _ _ ⟨_,f,_⟩=>au f (Nat.not_lt_zero _)
 one:=λj l e g=>.inl (hf j l e g)
end Go.Id.Md
namespace Go.Id.Md
def H7{l m:List Nat}(d:l.Nodup)(hs:∀x∈l,x∈m):l.length<=m.length:=by induction l generalizing m with|nil=>exact zz _|cons x xs ih=>have⟨h,g⟩:=zl.1 d;have hx:=hs x zg;have f:=ih (m:=m.erase x) g λy b=>(List.mem_erase_of_ne λe=>h (by rw[<- e];exact b)).2 (hs y (ze _ b));rw[List.length_erase_of_mem hx]at f;have:=List.length_pos_of_mem hx;rw[z2];omega
variable {n p k:Nat} {F:List (List Int)} {tr:List bE}
variable {e:bE}{j:Nat}
def kj{d:bE}(h:(tr++[e])[j]? = some d):tr[j]? = some d\/j=tr.length/\d=e:=by rcases Nat.lt_trichotomy j tr.length with b|rfl|b;{rw[zk b]at h;exact .inl h};{rw[z7 (zm _),Nat.sub_self]at h;exact .inr ⟨rfl,(Option.some.inj h).symm⟩};rw[z7 om,List.getElem?_eq_none (by rw[qy];omega)]at h;cases h
def iA(h:tr[j]? = some e):j<tr.length:=(zo.1 h).1
def dz.push(h:dz n p F tr k){l:Int}{s:List Int}(B:l≠0/\-(n:Int)<=l/\l<=n)(A:¬da tr tr.length l)(z:¬da tr tr.length (-l))(hc:F[j]? = some s)(q:l∈s)(hf:∀m∈s,m≠l->da tr tr.length (-m)):dz n p F (tr++[⟨l,k,j⟩]) k where
 dU:=λc e he=>by
  rcases kj he with he|⟨_,rfl⟩
  .exact h.dU c e he
  .exact B
 one:=λi c d e f he o=>by
  rcases kj f with f|⟨rfl,rfl⟩<;>rcases kj he with he|⟨rfl,rfl⟩
  .exact h.one i c d e f he o
  .exact (o.elim (λe=>A ⟨i,iA f,d,f,e⟩) λe=>z ⟨i,iA f,d,f,e⟩).elim
  .exact (o.elim (λy=>A ⟨c,iA he,e,he,y.symm⟩) λy=>z ⟨c,iA he,e,he,by have D:l=-e.lit:=y;omega⟩).elim
  .rfl
 up:=λi c d e f he u=>by
  rcases kj f with f|⟨rfl,rfl⟩<;>rcases kj he with he|⟨rfl,rfl⟩
  .exact h.up i c d e f he u
  .exact h.top i d f
  .have:=iA he;omega
  .exact zm _
 top:=λc e he=>by
  rcases kj he with he|⟨_,rfl⟩
  .exact h.top c e he
  .exact zm _
 dec:=λc e he r=>by
  rcases kj he with he|⟨_,rfl⟩
  .have⟨a,b,j⟩:=h.dec c e he r;refine ⟨a,b,λi d hi f=>?_⟩;rcases kj f with f|⟨rfl,rfl⟩
   .exact j i d hi f
   .have:=iA he;omega
  .exact au r (by show ¬(j:Int)<0;omega)
 iP:=λc e he r=>by
  rcases kj he with he|⟨rfl,rfl⟩
  .have⟨j,a,b,d⟩:=h.iP c e he r;exact ⟨j,a,b,λm q g=>(DL (Nat.le_of_lt (iA he))).2 (d m q g)⟩
  .exact ⟨s,by show F[(j:Int).toNat]? = _;rw[Int.toNat_natCast];exact hc,q,λm q g=>(DL (zm _)).2 (hf m q g)⟩
def dz.choose (h:dz n p F tr k){v:Nat}(z:v<p)(A:p<=n)(y:¬da tr tr.length ((v:Int)+1))(u:¬da tr tr.length (-((v:Int)+1))):dz n p F (tr++[⟨-((v:Int)+1),k+1,-1⟩]) (k+1) where
 dU:=λj e he=>by
  rcases kj he with he|⟨_,rfl⟩
  .exact h.dU j e he
  .exact ⟨by show -((v:Int)+1)≠0;omega,by show -(n:Int)<=-((v:Int)+1);omega,by show -((v:Int)+1)<=n;omega⟩
 one:=λi j d e f he g=>by
  rcases kj f with f|⟨rfl,rfl⟩<;>rcases kj he with he|⟨rfl,rfl⟩
  .exact h.one i j d e f he g
  .exact (g.elim (λe=>u ⟨i,iA f,d,f,e⟩) λe=>y ⟨i,iA f,d,f,by have D:d.lit=-(-((v:Int)+1)):=e;omega⟩).elim
  .exact (g.elim (λs=>u ⟨j,iA he,e,he,s.symm⟩) λs=>y ⟨j,iA he,e,he,by have D:-((v:Int)+1)=-e.lit:=s;omega⟩).elim
  .rfl
 up:=λi j d e f he r=>by
  rcases kj f with f|⟨rfl,rfl⟩<;>rcases kj he with he|⟨rfl,rfl⟩
  .exact h.up i j d e f he r
  .exact Nat.le_succ_of_le (h.top i d f)
  .have:=iA he;omega
  .exact zm _
 top:=λj e he=>by
  rcases kj he with he|⟨_,rfl⟩
  .exact Nat.le_succ_of_le (h.top j e he)
  .exact zm _
 dec:=λj e he o=>by
  rcases kj he with he|⟨rfl,rfl⟩
  .have⟨a,b,c⟩:=h.dec j e he o;refine ⟨a,b,λi d hi f=>?_⟩;rcases kj f with f|⟨rfl,rfl⟩
   .exact c i d hi f
   .have:=iA he;omega
  .refine ⟨Nat.le_add_left _ _,⟨v,z,rfl⟩,λi d hi f=>?_⟩;rcases kj f with f|⟨rfl,rfl⟩
   .exact Nat.lt_succ_of_le (h.top i d f)
   .omega
 iP:=λj e he o=>by
  rcases kj he with he|⟨rfl,rfl⟩
  .have⟨c,a,b,d⟩:=h.iP j e he o;exact ⟨c,a,b,λm B q=>(DL (Nat.le_of_lt (iA he))).2 (d m B q)⟩
  .exact au o (by show ¬(0:Int)<=-1;decide)
def nq{m:Nat}(h:(tr.take m)[j]? = some e):j<m/\tr[j]? = some e:=by by_cases b:j<m;{rw[zy,ab b]at h;exact ⟨b,h⟩};rw[zy,aa b]at h;cases h
def dz.back(h:dz n p F tr k){m:Nat}(u:∀(a:Nat) (e:bE),tr[a]? = some e->a<m->e.dK<=j):dz n p F (tr.take m) j where
 dU:=λa e he=>h.dU a e (nq he).2
 one:=λi a d e f he=>h.one i a d e (nq f).2 (nq he).2
 up:=λi a d e f he=>h.up i a d e (nq f).2 (nq he).2
 top:=λa e he=>u a e (nq he).2 (nq he).1
 dec:=λa e he g=>by
  have⟨j,b,c⟩:=h.dec a e (nq he).2 g;exact ⟨j,b,λi d hi f=>c i d hi (nq f).2⟩
 iP:=λa e he g=>by
  have⟨c,j,b,d⟩:=h.iP a e (nq he).2 g;refine ⟨c,j,b,λs q o=>?_⟩;have⟨i,hi,z,r,y⟩:=d s q o;exact ⟨i,hi,z,by rw[zy,ab (Nat.lt_trans hi (nq he).1)];exact r,y⟩
def dz.more (h:dz n p F tr k)(c:List Int):dz n p (F++[c]) tr k where
 dU:=h.dU
 one:=h.one
 up:=h.up
 top:=h.top
 dec:=h.dec
 iP:=λj e he f=>by
  have⟨c,a,b,d⟩:=h.iP j e he f;exact ⟨c,by rw[zk (zo.1 a).1];exact a,b,d⟩
def dz.cE(h:dz n p F tr k):tr.length<=n:=by have q:(tr.map λ(e:bE)=>e.lit.natAbs-1).Nodup:=z9.2 λi j hi b o e=>(by rw[z4]at hi b;rw[qn,qn]at e;have g:tr[i]? = some tr[i]:=zs hi;have f:tr[j]? = some tr[j]:=zs b;have s:=(h.dU i _ g).1;have r:=(h.dU j _ f).1;have:=h.one i j _ _ g f om;omega);have d:=H7 (m:=zr n) q λx hx=>(by obtain ⟨e,he,rfl⟩:=zi.1 hx;have⟨j,b⟩:=z0.1 he;have:=h.dU j e b;rw[zf];omega);rw[z4,qj]at d;exact d
structure SI (n p:Nat) (F0 F:List (List Int)) (tr:List bE) (k steps:Nat):Prop where
 t:dz n p F tr k
 shut:∀a,a<k->gT F (dy tr a)
 all:∀a,1<=a->a<=k->∃(j:Nat) (e:bE),tr[j]? = some e/\e.dK=a
 sub:∀c∈F0,c∈F
 imp:∀c∈F,gJ F0 c
 dU:∀c∈F,∀x∈c,bT n x
 steps:steps<=phi F n p*(n+2)+k
def SI.low{H:List (List Int)}(h:SI n p H F tr k j):k<=n:=by have G:∀m,m<=k->m<=tr.length:=λm=>(by induction m with|zero=>exact λ_=>zz _|succ m ih=>intro A;have⟨s,e,he,L⟩:=h.all (m+1) om A;have M:=iA he;rcases Nat.eq_zero_or_pos m with rfl|K;{omega};have E:∀q,q<=m->∃(s:Nat) (e:bE),tr[s]? = some e/\e.dK=q+1/\q<=s:=λq=>(by induction q with|zero=>exact λ_=>(h.all 1 om om).imp λs ⟨e,a,b⟩=>⟨e,a,b,zz _⟩|succ q iq=>intro J;have⟨i,d,D,B,o⟩:=iq om;have⟨g,z,f,r⟩:=h.all (q+2) om om;refine ⟨g,z,f,r,?_⟩;rcases qw i g with y|y;{omega};have:=h.t.up g i z d f D y;omega);have⟨I,N,u,_,o⟩:=E m (zm _);have:=iA u;omega);exact z6 (G k (zm _)) h.t.cE
def SI.bound{b:List (List Int)}(h:SI n p b F tr k j):j<=2^p*(2*n)*(n+2)+n:=by have f:=h.steps;have e:=h.low;have d:=q1 (n+2) (ko6 F n p);omega
end Go.Id.Md
namespace Go.Id.Md
variable {n p k s:Nat} {F0 F:List (List Int)} {tr:List bE}
variable {a:Nat}
def Pb{d:bE}(ha:a<d.dK){l:Int}:dy (tr++[d]) a l↔dy tr a l:=by constructor;{rintro ⟨j,e,he,f,b⟩;rcases kj he with he|⟨_,rfl⟩;{exact ⟨j,e,he,f,b⟩};omega};rintro ⟨j,e,he,f,b⟩;exact ⟨j,e,by rw[zk (iA he)];exact he,f,b⟩
def NW{m:Nat}(g:∀(j:Nat)(e:bE),tr[j]? = some e->(j<m↔e.dK<=a)){b:Nat}(h:b<=a){l:Int}:dy (tr.take m) b l↔dy tr b l:=by constructor;{rintro ⟨j,e,he,f,d⟩;exact ⟨j,e,(nq he).2,f,d⟩};rintro ⟨j,e,he,f,d⟩;exact ⟨j,e,by rw[zy,ab ((g j e he).2 om)];exact he,f,d⟩
def NX{b:Nat}(h:a<=b){l:Int}:dy tr a l->dy tr b l:=λ⟨j,e,he,f,d⟩=>⟨j,e,he,z6 f h,d⟩
def gT.same{T g:Int->Prop}(h:gT F T)(e:∀l,T l↔g l):gT F g:=λc hc=>by rcases h c hc with ⟨l,d,f⟩|⟨l,d,m,i,b,f,j⟩;{exact .inl ⟨l,d,(e l).1 f⟩};exact .inr ⟨l,d,m,i,b,λh=>f ((e _).2 h),λh=>j ((e _).2 h)⟩
variable {b:List Int}
def SI.push(h:SI n p F0 F tr k s){l:Int}(g:¬da tr tr.length l)(f:¬da tr tr.length (-l))(hc:F[a]? = some b)(i:l∈b)(hf:∀m∈b,m≠l->da tr tr.length (-m)):SI n p F0 F (tr++[⟨l,k,a⟩]) k s where
 t:=h.t.push (h.dU b (qf hc) l i) g f hc i hf
 shut:=λc ha=>(h.shut c ha).same λ_=>(Pb (d:=⟨l,k,a⟩) ha).symm
 all:=λc g f=>(h.all c g f).imp λj ⟨e,he,o⟩=>⟨e,by rw[zk (iA he)];exact he,o⟩
 sub:=h.sub
 imp:=h.imp
 dU:=h.dU
 steps:=h.steps
def SI.choose (h:SI n p F0 F tr k s)(o:gT F (dy tr k)){v:Nat}(i:v<p)(b:p<=n)(f:¬da tr tr.length ((v:Int)+1))(g:¬da tr tr.length (-((v:Int)+1))):SI n p F0 F (tr++[⟨-((v:Int)+1),k+1,-1⟩]) (k+1) (s+1) where
 t:=h.t.choose i b f g
 shut:=λa ha=>by
  have e:∀l,dy tr a l↔dy (tr++[⟨-((v:Int)+1),k+1,-1⟩]) a l:=λ_=>(Pb (d:=⟨-((v:Int)+1),k+1,-1⟩) ha).symm
  rcases qw a k with ha|ha
  .exact (h.shut a ha).same e
  .have:a=k:=om;subst this;exact o.same e
 all:=λa f g=>by
  rcases qw k a with ha|ha
  .exact ⟨tr.length,⟨-((v:Int)+1),k+1,-1⟩,by rw[z7 (zm _),Nat.sub_self];rfl,by show k+1=a;omega⟩
  .exact (h.all a f ha).imp λj ⟨e,he,m⟩=>⟨e,by rw[zk (iA he)];exact he,m⟩
 sub:=h.sub
 imp:=h.imp
 dU:=h.dU
 steps:=by have:=h.steps;omega
def gJ.trans(h:∀d∈F,gJ F0 d)(hc:gJ F b):gJ F0 b:=λT c f=>hc T c λd e=>h d e T c f
def SI.lS(h:SI n p F0 F tr k s){m:Nat}{u:Int}(ha:a<k)(g:∀(j:Nat) (e:bE),tr[j]? = some e->(j<m↔e.dK<=a))
  (hi:gJ F (u::b)) (y:∀x∈u::b,bT n x) (A:dy tr k (-u)) (q:¬dy tr a (-u)) (o:∀x∈b,dy tr a (-x)) (hx:a=0\/∃x∈b,¬dy tr (a-1) (-x)) :
  SI n p F0 (F++[u::b]) (tr.take m) a (s+1) where
 t:=(h.t.back λj e he D=>(g j e he).1 D).more _
 shut:=λr H=>by
  refine gT.same ?_ λl=>(NW g (by omega:r<=a)).symm
  have⟨x,d,f⟩:=hx.resolve_left om;exact (h.shut r om).lS (l:=u) (m:=x) zg (ze _ d) (λe=>q (by rw[e];exact o x d)) (λh=>q (NX om h)) λh=>f (NX om h)
 all:=λr z G=>by
  have⟨j,e,he,B⟩:=h.all r z om;exact ⟨j,e,by rw[zy,ab ((g j e he).2 om)];exact he,B⟩
 sub:=λc hc=>qg _ (h.sub c hc)
 imp:=λc hc=>by
  rcases zh.1 hc with hc|hc
  .exact h.imp c hc
  .rw[zu.1 hc];exact hi.trans h.imp
 dU:=λc hc=>by
  rcases zh.1 hc with hc|hc
  .exact h.dU c hc
  .rw[zu.1 hc];exact y
 steps:=by
  have z:=h.steps;have G:=h.low;have E:phi F n p<phi (F++[u::b]) n p:=h.t.lS ha (h.shut a ha) (LU.2 (y u zg)) (λi=>h.t.con (i) A) o;have i:=q1 (n+2) (Nat.succ_le_of_lt E);rw[Nat.succ_mul] at i;omega
def SI.yes(h:SI n p F0 F tr k s)(y:gT F (dy tr k))(o:∀x,bT n x->dy tr k x\/dy tr k (-x)):∃T:Int->Bool,(∀l,l≠0->T (-l)=!T l)/\(∀d∈F0,Cw T d)/\∀x,bT n x->(T x=true↔dy tr k x):=by classical have m:∀x,bT n x->(((bT n x/\dy tr k x)\/(¬bT n x/\0<x))↔dy tr k x):=λx hx=>⟨λh=>h.elim (·.2) λh=>au hx h.1,λh=>.inl ⟨hx,h⟩⟩;have r:∀x,¬bT n x->(((bT n x/\dy tr k x)\/(¬bT n x/\0<x))↔0<x):=λx hx=>⟨λh=>h.elim (λh=>au h.1 hx) (·.2),λh=>.inr ⟨hx,h⟩⟩;have q:∀x,bT n x->(decide ((bT n x/\dy tr k x)\/(¬bT n x/\0<x))=true↔dy tr k x):=λx hx=>(by rw[ah];exact m x hx);refine ⟨λx=>decide ((bT n x/\dy tr k x)\/(¬bT n x/\0<x)),λl j=>?_,λd u=>?_,q⟩;{show decide _=!decide _;by_cases e:bT n l;{rw[decide_eq_decide.2 (m l e),decide_eq_decide.2 (m (-l) e.neg)];rcases o l e with b|b;{rw[ao b,aq λg=>h.t.con b g];rfl};rw[ao b,aq λg=>h.t.con g b];rfl};have i:¬bT n (-l):=λg=>e (by have:=g.neg;rwa [z3]at this);rw[decide_eq_decide.2 (r l e),decide_eq_decide.2 (r (-l) i)];by_cases h0:0<l;{rw[ao h0,aq om];rfl};rw[aq h0,ao (by omega:0 < -l)];rfl};have f:=h.sub d u;have⟨l,j,b⟩:=y.all (λc hc x hx=>o x (h.dU c hc x hx)) d f;exact ⟨l,j,(q l (h.dU d f l j)).2 b⟩
def SI.start (b:∀c∈F,∀x∈c,bT n x):SI n p F F [] 0 0 where
 t:=⟨λ_ _ h=>(by simp at h),λ_ _ _ _ h=>(by simp at h),λ_ _ _ _ h=>(by simp at h),λ_ _ h=>(by simp at h),λ_ _ h=>(by simp at h),λ_ _ h=>(by simp at h)⟩
 shut:=λ_ h=>au h (Nat.not_lt_zero _)
 all:=λ_ e d=>by omega
 sub:=λ_ h=>h
 imp:=λ_ h=>.of h
 dU:=b
 steps:=zz _
end Go.Id.Md
