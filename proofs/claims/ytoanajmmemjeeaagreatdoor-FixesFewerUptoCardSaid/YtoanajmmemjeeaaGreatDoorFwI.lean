/- Regions whose order is open: which operations may be taken ahead of which. Conditions: none; over any program. -/
import Derived.Test.YtoanajmmemjeeaaGreatDoorFwR
import Derived.OrdersIn
open List renaming mem_append_left→za,mem_cons_self→zb,mem_cons_of_mem→ze,mem_append→zg,mem_cons→zh,mem_map→zj,pairwise_cons→zk,mem_append_right→zl,nodup_iff_pairwise_ne→zp,getD_eq_getElem?_getD→zq,all_eq_true→zt,pairwise_append→zu,Sublist→zv,sublist_cons_self→zw,append_of_mem→zx,pairwise_map→zy,map_congr_left→z0,mem_filter→z1,flatMap_cons→z2,mem_flatMap→z3,eq_nil_iff_forall_not_mem→z4,Pairwise→z5,length_eq_zero_iff→z8,range→z9,mem_range→qa,flatMap_append→qb,any_eq_true→qe,nodup_cons→qi,mem_of_getElem?→ql
open Option renaming some→zc,none→zn,map_some→qd
open Array renaming getElem?_eq_none→zf,getElem?_eq_some_iff→z7,size_push→qf,getElem?_setIfInBounds→qg,getD_eq_getD_getElem?→qj
open Bool renaming and_eq_true→zi,or_eq_true→zo,not_eq_true'→qm
open Nat renaming lt_or_ge→zm,le_refl→zs,zero_add→qc,zero_le→qh
open Classical renaming byContradiction→z6
open Iff renaming rfl→qk
set_option linter.all false
private theorem om{P:Prop}(h:P:=by omega):P:=h
namespace Go.Id
open Go
variable {P:Program} {w w' w'':World} {ρ ρ' ρ'':bC} {E:Nat->IV} {O O':aQ} {N n n':Nat} {fr:a8} {a:Act} {pf:List Nat}
def IQ.kind:IQ->Nat|.load _ _=>1|.len 0 _=>0|.len 1 _=>0|.len _ _=>6|.lE _ _ _ _ _=>5|_=>0
def SK.kind:SK->Nat|.nev=>0|_=>6
def IK.kind:IK->Nat|.q u=>u.kind|.alloc _|.box _|.lA _ _ _ _|.kH _ _ _=>2|.app _ _ _=>3|.jW _ _|.jU _ _|.ju _ _ _ _|.ka _=>0|.store _ _ _=>4|.st k _=>k.kind|_=>6
def IX.cK:IX->List Nat|.t n=>[n]|_=>[]
def IQ.ops:IQ->List IX|.lh x|.not x|.neg x|.AT _ _ x|.conv _ x|.DR x|.len _ x|.tR _ x|.fld _ _ x|.slz x|.ext _ x|.load _ x|.ldt _ x|.vR x=>[x]|.pick c a b=>[c,a,b]|.bin _ x y|.eqs _ _ _ x y|.tS _ x y|.AU _ _ x y|.idx _ _ _ x y|.Cf x y|.mm _ x y|.lE _ _ _ x y|.ibs x y=>[x,y]|.slc _ x lo hi|.Cg x lo hi=>x::(lo.toList++hi.toList)|.clp _ x lo hi mx=>[x,lo,hi,mx]|.mkf _ f c=>f++c|.bld _ ps=>ps.map (·.2.2)
def IK.ops:IK->List IX|.q u=>u.ops|.alloc _=>[]|.box x=>[x]|.lA _ _ _ ps=>ps.map (·.2.2)|.store _ x y=>[x,y]|.app _ s x=>[s,x]|.qI=>[]|.pY x|.rS x=>[x]|.oP _ x k v=>[x,k,v]|.call _ xs|.jW _ xs=>xs|.rT x xs|.jU x xs=>x::xs|.ju _ _ _ ps=>ps.map (·.2.2)|.ka x|.ph x|.qJ x|.qR x|.kH _ _ x|.clr _ _ x=>[x]|.st _ xs=>xs
def bZ.cK (o:bZ):List Nat:=(o.op.ops.flatMap IX.cK)++(match o.guard with|some (s,_)=>[s]|none=>[])
def iQ (fr fr':a8):Prop:=∀t,fr.get t=fr'.get t
variable {d:a8}
def dj{fr:a8}{x:IX}(h:∀t∈x.cK,fr.get t=d.get t):x.ev E fr=x.ev E d:=by cases x with|t n=>exact h n (by simp[IX.cK])|_=>rfl
def sv{fr:a8}{xs:List IX}(h:∀t∈xs.flatMap IX.cK,fr.get t=d.get t):xs.map (·.ev E fr)=xs.map (·.ev E d):=z0 λx b=>dj λt c=>h t (z3.2 ⟨x,b,c⟩)
def EG{fr:a8}{x:Option IX}(h:∀t∈x.toList.flatMap IX.cK,fr.get t=d.get t):x.map (·.ev E fr)=x.map (·.ev E d):=by cases x with|none=>rfl|some x=>simp only[qd];rw[dj (λt b=>h t (by simpa using b))]
def CE{fr:a8}{ps:List (Nat×Nat×IX)}(h:∀t∈(ps.map (·.2.2)).flatMap IX.cK,fr.get t=d.get t): (ps.map λp=>(p.1,p.2.1,p.2.2.ev E fr))=ps.map λp=>(p.1,p.2.1,p.2.2.ev E d):=z0 λp c=>by have:p.2.2.ev E fr=p.2.2.ev E d:=dj λt b=>h t (z3.2 ⟨p.2.2,zj.2 ⟨p,c,rfl⟩,b⟩);rw[this]
def OM{fr:a8}{q:IQ}(h:∀t∈q.ops.flatMap IX.cK,fr.get t=d.get t):cJ E fr O q=cJ E d O q:=by cases q with|mkf f fs cs=>simp only[IQ.ops,qb,zg]at h;simp only[cJ];rw[sv (λt g=>h t (.inl g)),sv (λt g=>h t (.inr g))]|bld z ps=>simp only[cJ];rw[CE h]|slc e x lo hi=>simp only[IQ.ops,z2,qb,zg]at h;simp only[cJ];rw[dj (x:=x) (λt g=>h t (.inl g)),EG (x:=lo) (λt g=>h t (.inr (.inl g))),EG (x:=hi) (λt g=>h t (.inr (.inr g)))]|Cg x lo hi=>simp only[IQ.ops,z2,qb,zg]at h;simp only[cJ];rw[dj (x:=x) (λt g=>h t (.inl g)),EG (x:=lo) (λt g=>h t (.inr (.inl g))),EG (x:=hi) (λt g=>h t (.inr (.inr g)))]|clp e x lo hi mx=>simp only[cJ];rw[dj (x:=x) (λt g=>h t (by simp[IQ.ops,g])),dj (x:=lo) (λt g=>h t (by simp[IQ.ops,g])),dj (x:=hi) (λt g=>h t (by simp[IQ.ops,g])),dj (x:=mx) (λt g=>h t (by simp[IQ.ops,g]))]|pick c x y=>simp only[cJ];rw[dj (x:=c) (λt g=>h t (by simp[IQ.ops,g])),dj (x:=x) (λt g=>h t (by simp[IQ.ops,g])),dj (x:=y) (λt g=>h t (by simp[IQ.ops,g]))]|bin op x y=>simp only[cJ];rw[dj (x:=x) (λt g=>h t (by simp[IQ.ops,g])),dj (x:=y) (λt g=>h t (by simp[IQ.ops,g]))]|eqs a b c x y=>simp only[cJ];rw[dj (x:=x) (λt g=>h t (by simp[IQ.ops,g])),dj (x:=y) (λt g=>h t (by simp[IQ.ops,g]))]|tS a x y=>simp only[cJ];rw[dj (x:=x) (λt g=>h t (by simp[IQ.ops,g])),dj (x:=y) (λt g=>h t (by simp[IQ.ops,g]))]|AU a b x y=>simp only[cJ];rw[dj (x:=x) (λt g=>h t (by simp[IQ.ops,g])),dj (x:=y) (λt g=>h t (by simp[IQ.ops,g]))]|idx a b c x y=>simp only[cJ];rw[dj (x:=x) (λt g=>h t (by simp[IQ.ops,g])),dj (x:=y) (λt g=>h t (by simp[IQ.ops,g]))]|lE a b c x y=>simp only[cJ];rw[dj (x:=x) (λt g=>h t (by simp[IQ.ops,g])),dj (x:=y) (λt g=>h t (by simp[IQ.ops,g]))]|mm a x y=>simp only[cJ];rw[dj (x:=x) (λt g=>h t (by simp[IQ.ops,g])),dj (x:=y) (λt g=>h t (by simp[IQ.ops,g]))]|ibs x y=>simp only[cJ];rw[dj (x:=x) (λt g=>h t (by simp[IQ.ops,g])),dj (x:=y) (λt g=>h t (by simp[IQ.ops,g]))]|Cf x y=>simp only[cJ];rw[dj (x:=x) (λt g=>h t (by simp[IQ.ops,g])),dj (x:=y) (λt g=>h t (by simp[IQ.ops,g]))]|_=>simp only[cJ];rw[dj (λt g=>h t (by simp[IQ.ops,g]))]
def XB{q:IQ}(h:q.kind=0):cJ E fr O q=cJ E fr O' q:=by cases q with|load a x=>simp[IQ.kind]at h|lE a b c x y=>simp[IQ.kind]at h|len k x=>(simp only[cJ];match k,h with|0,_=>(unfold gR;split<;>first|rfl|simp_all [sa])|1,_=>(unfold gR;split<;>first|rfl|simp_all [sa])|k+2,h=>simp[IQ.kind]at h)|_=>rfl
def fO(P:Program)(E:Nat->IV)(op:IK)(id:Nat)(fr:a8)(O:aQ)(v:IV)(O':aQ):Prop :=match op with|.q q=>cJ E fr O q=zc v/\O'=O|.alloc z=>v=.ptr id 0/\O'=O.put id (.cells z)|.box x=>(x.ev E fr).cs.all IV.aY=true/\v=.ptr id 0/\O'=O.put id (.cells (x.ev E fr).cs)|.lA esz n z parts=>∃out,gz (rep z n) (parts.map λp=>(p.1,p.2.1,p.2.2.ev E fr))=zc out/\v=.slice id 0 n esz/\O'=O.put id (.row out)|.app esz s x=>c8 O id esz (s.ev E fr) (x.ev E fr)=zc (v,O')|.store sz x y=>jD O sz (x.ev E fr) (y.ev E fr)=zc O'/\v=.undef|.jW f args=>PC P E f (args.map (·.ev E fr)) v/\O'=O|.jU x args=>PCV P E (x.ev E fr) (args.map (·.ev E fr)) v/\O'=O|.ju esz n z parts=>∃out,gz (rep z n) (parts.map λp=>(p.1,p.2.1,p.2.2.ev E fr))=zc out/\v=.aW (chunk esz n out)/\O'=O|.ka x=>(x.ev E fr).cs.all IV.aY=true/\v=.bd (x.ev E fr).cs/\O'=O|.kH esz z x=>∃n,qF (x.ev E fr)=zc n/\v=.slice id 0 n esz/\O'=O.put id (.row (rep z n))|_=>False
variable {b:Nat}
def pU{op:IK}{K:IV->aQ->Prop}(c:op.kind<=5):fc P E op b fr O K↔∃v O',fO P E op b fr O v O'/\K v O':=by cases op with|q q=>exact ⟨λ⟨v,h,k⟩=>⟨v,O,⟨h,rfl⟩,k⟩,λ⟨v,_,⟨h,e⟩,k⟩=>by subst e;exact ⟨v,h,k⟩⟩|alloc z=>exact ⟨λk=>⟨_,_,⟨rfl,rfl⟩,k⟩,λ⟨_,_,⟨e1,e2⟩,k⟩=>by subst e1;subst e2;exact k⟩|box x=>exact ⟨λ⟨h,k⟩=>⟨_,_,⟨h,rfl,rfl⟩,k⟩,λ⟨_,_,⟨h,e1,e2⟩,k⟩=>by subst e1;subst e2;exact ⟨h,k⟩⟩|lA e n z ps=>exact ⟨λ⟨d,h,k⟩=>⟨_,_,⟨d,h,rfl,rfl⟩,k⟩,λ⟨_,_,⟨d,h,e1,e2⟩,k⟩=>by subst e1;subst e2;exact ⟨d,h,k⟩⟩|app e s x=>exact ⟨λ⟨r,h,k⟩=>⟨r.1,r.2,h,k⟩,λ⟨v,O',h,k⟩=>⟨(v,O'),h,k⟩⟩|store e x y=>exact ⟨λ⟨s,h,k⟩=>⟨_,s,⟨h,rfl⟩,k⟩,λ⟨v,s,⟨h,e⟩,k⟩=>by subst e;exact ⟨s,h,k⟩⟩|jU x xs=>exact ⟨λ⟨v,h,k⟩=>⟨v,O,⟨h,rfl⟩,k⟩,λ⟨v,_,⟨h,e⟩,k⟩=>by subst e;exact ⟨v,h,k⟩⟩|jW f xs=>exact ⟨λ⟨v,h,k⟩=>⟨v,O,⟨h,rfl⟩,k⟩,λ⟨v,_,⟨h,e⟩,k⟩=>by subst e;exact ⟨v,h,k⟩⟩|ju e n z ps=>exact ⟨λ⟨d,h,k⟩=>⟨_,_,⟨d,h,rfl,rfl⟩,k⟩,λ⟨_,_,⟨d,h,e1,e2⟩,k⟩=>by subst e1;subst e2;exact ⟨d,h,k⟩⟩|kH e z x=>exact ⟨λ⟨n,h,k⟩=>⟨_,_,⟨n,h,rfl,rfl⟩,k⟩,λ⟨_,_,⟨n,h,e1,e2⟩,k⟩=>by subst e1;subst e2;exact ⟨n,h,k⟩⟩|ka x=>exact ⟨λ⟨h,k⟩=>⟨_,_,⟨h,rfl,rfl⟩,k⟩,λ⟨_,_,⟨h,e1,e2⟩,k⟩=>by subst e1;subst e2;exact ⟨h,k⟩⟩|st k xs=>(cases k with|nev=>exact ⟨λ⟨r,h,_⟩=>by (cases h),λ⟨_,_,h,_⟩=>h.elim⟩|_=>exact au c (by simp[IK.kind,SK.kind]))|_=>exact au c (by simp[IK.kind])
def tD{op:IK}{fr:a8}{v:IV}(h:∀t∈op.ops.flatMap IX.cK,fr.get t=d.get t):fO P E op b fr O v O'->fO P E op b d O v O':=by cases op with|q q=>simp only[fO];rw[OM h];exact λh=>h|alloc z=>exact λh=>h|box x=>simp only[fO];rw[dj (x:=x) (λt c=>h t (by simp[IK.ops,c]))];exact λh=>h|lA e n z ps=>simp only[fO];rw[CE h];exact λh=>h|app e s x=>simp only[fO];rw[dj (x:=s) (λt c=>h t (by simp[IK.ops,c])),dj (x:=x) (λt c=>h t (by simp[IK.ops,c]))];exact λh=>h|store e x y=>simp only[fO];rw[dj (x:=x) (λt c=>h t (by simp[IK.ops,c])),dj (x:=y) (λt c=>h t (by simp[IK.ops,c]))];exact λh=>h|jW f xs=>simp only[fO];rw[sv (xs:=xs) h];exact λh=>h|jU x xs=>simp only[IK.ops,z2,zg]at h;simp only[fO];rw[sv (xs:=xs) (λt c=>h t (.inr c)),dj (x:=x) (λt c=>h t (.inl c))];exact λh=>h|ju e n z ps=>simp only[fO];rw[CE h];exact λh=>h|kH e z x=>simp only[fO];rw[dj (x:=x) (λt c=>h t (by simp[IK.ops,c]))];exact λh=>h|ka x=>simp only[fO];rw[dj (x:=x) (λt c=>h t (by simp[IK.ops,c]))];exact λh=>h|_=>exact λh=>h
def kT(id:Nat):IV->Prop|.ptr i _|.slice i _ _ _|.map i|.eg i _ _ _|.eD i _ _ _ _=>i≠id|_=>True
def MA{v:IV}{r:Value}(c:VR ρ w v r)(h:ρ b=.no):kT b v:=by cases c<;>simp only[kT]<;>first|trivial|(intro e;subst e;simp_all)
def put_comm(i j:Nat)(x y:bU)(h:i≠j):(O.put i x).put j y=(O.put j y).put i x:=by unfold aQ.put;congr 1;funext k;simp only;split;{rename_i c;split;{rename_i b;exact au (b.symm.trans c) h};rfl};rfl
variable {i:Nat}{c:bU}
def kO(h:i≠b):(O.put b c).aR i=O.aR i:=by simp[aQ.put,h]
variable {x s:IV}
def NA{k:IV}{ok:Bool}(h:kT i s):fy (O.put i c) b x ok s k=fy O b x ok s k:=by have:lr (O.put i c) s=lr O s:=(by (cases s<;>try rfl);simp only[lr,kO h]);unfold fy;rw[this]
def Vl{k v:IV}{ok:Bool}(c:O.aR i=zn)(h:fy O b x ok s k=zc v):kT i s:=by (cases s<;>simp only[kT]<;>try trivial);all_goals (intro e;subst e;simp[fy,lr,c]at h)
def MB{d:Option Nat}(h:kT b x):iI (O.put b c) d x=iI O d x:=by have:lJ (O.put b c) x=lJ O x:=(by cases x<;>simp only[lJ];rename_i i off;rw[kO h]);unfold iI;rw[this]
def TC{c:Option Nat}{v:IV}(d:O.aR b=zn)(h:iI O c x=zc v):kT b x:=by cases x with|ptr i off=>intro e;subst e;simp[iI,lJ,d]at h|slice i o l e=>simp[iI,lJ]at h|_=>trivial
def Z0(d:kT b x):dO (O.put b c) i x=dO O i x:=by cases x<;>simp only[dO];all_goals (rename_i f o l e;rw[kO d])
def XC(h:i≠b):(O.put b c).kill i=(O.kill i).put b c:=by unfold aQ.put aQ.kill;congr 1;funext k;simp only;split;{rename_i e;split;{rename_i d;exact au (e.symm.trans d) h};rfl};rfl
def KF{esz:Nat}(hs:kT i x)(f:kT i s)(d:i≠b): c8 (O.put i c) b esz x s=(c8 O b esz x s).map λr=>(r.1,r.2.put i c):=by unfold c8;rw[Z0 f];cases dO O esz s with|none=>rfl|some p=>have⟨n,xs⟩:=p;simp only;split;{rfl};cases x with|bc=>simp only;split;{rfl};split;{simp[put_comm i b _ _ d]};rfl|cw=>simp only;split;{rfl};split;{simp[put_comm i b _ _ d]};rfl|aW es=>simp only;split<;>rfl|slice did off len e=>(simp only;have g:did≠i:=hs;rw[kO g];cases O.aR did with|none=>rfl|some o=>cases o with|row cs=>simp only;split;{rfl};split;{simp[XC g,put_comm i b _ _ d]};rfl|_=>rfl)|eg did off len e=>(simp only;have g:did≠i:=hs;rw[kO g];cases O.aR did with|none=>rfl|some o=>cases o with|row cs=>simp only;split;{rfl};split;{simp[put_comm i b _ _ d]};rfl|_=>rfl)|_=>rfl
def Vm{id2:Nat}{v:IV}(d:O.aR id2=zn)(h:c8 O b i x s=zc (v,O')):kT id2 x/\kT id2 s:=by unfold c8 at h;split at h;{cases h};rename_i n xs g;constructor;{split at h;{cases h};(split at h<;>first|trivial|skip);{rename_i f off len e;intro c;subst c;rw[d]at h;simp at h};rename_i f off len e;intro c;subst c;rw[d]at h;simp at h};cases s with|slice j o l e=>intro c;subst c;simp[dO,d]at g|eg j o l e=>intro c;subst c;simp[dO,d]at g|ptr j o=>simp[dO]at g|_=>trivial
def EH{v:IV}(c:O.aR b=zn)(h:c8 O b i x s=zc (v,O'))(j:Nat)(cs:List IV):O.aR j=zc (.cells cs)↔O'.aR j=zc (.cells cs):=by have put:∀(O:aQ)(l:List IV),O.aR b=zn->(O.aR j=zc (.cells cs)↔(O.put b (.row l)).aR j=zc (.cells cs)):=(by intro O l c;by_cases hi:j=b;{subst hi;simp[aQ.put,c]};rw[kO hi]);unfold c8 at h;split at h;{cases h};split at h;{cases h};split at h;{split at h;{cases h;exact qk};split at h;{cases h;exact put O _ c};cases h};{split at h;{cases h;exact qk};split at h;{cases h;exact put O _ c};cases h};{split at h;{cases h;exact qk};cases h};{rename_i k off len e;split at h;{rename_i d f;split at h;{cases h;exact qk};split at h;{cases h;have g:(O.kill k).aR b=zn:=(by simp[aQ.kill,c]);refine Iff.trans ?_ (put (O.kill k) _ g);by_cases hi:j=k;{subst hi;simp[aQ.kill,f]};simp[aQ.kill,hi]};cases h};cases h};{rename_i k off len e;split at h;{rename_i d f;split at h;{cases h;exact qk};split at h;{cases h;exact put O _ c};cases h};cases h};cases h
end Go.Id
namespace Go.Id
open Go
variable {P:Program} {w w' w'':World} {ρ ρ' ρ'':bC} {E:Nat->IV} {O O':aQ} {N n n':Nat} {fr:a8} {a:Act} {pf:List Nat}
def j8(E:Nat->IV)(fr:a8)(O:aQ):IK->Prop|.q (.load _ x)=>(match x.ev E fr with|.bd _=>True|.ptr i _=>∃cs,O.aR i=zc (.cells cs)|_=>False)|_=>True
def GO(P:Program)(E:Nat->IV)(B act:Bool)(op:IK)(id:Nat)(fr:a8)(O:aQ)(v:IV)(O':aQ):Prop :=if act then fO P E op id fr O v O'/\(B=true->j8 E fr O op) else v=eX/\O'=O
def Dw(B:Bool)(i j:Nat):Bool :=i==0&&j<=5||j==0&&i<=5||i==1&&j==1||i==1&&j==2||i==2&&j==2||i==3&&j==2||B&&i==1&&j==3||B&&i==3&&j==1||i==2&&j==1||i==2&&j==3||i==1&&j==5||i==5&&j==1||i==5&&j==5||i==5&&j==2||i==2&&j==5
def nL (B:Bool)(i j:Nat):Bool:=Dw B i j||i==2&&j==4||i==4&&j==2
def TD{q:IQ}(h:q.kind=1):∃b x,q=.load b x:=by cases q with|load b x=>exact ⟨b,x,rfl⟩|len k x=>(exfalso;match k,h with|0,h=>simp[IQ.kind]at h|1,h=>simp[IQ.kind]at h|k+2,h=>simp[IQ.kind]at h)|_=>simp[IQ.kind]at h
variable {p:IK}
def AW(h:p.kind=1):∃b x,p=.q (.load b x):=by cases p with|q q=>obtain ⟨b,x,rfl⟩:=TD h;exact ⟨b,x,rfl⟩|st k xs=>cases k<;>simp[IK.kind,SK.kind]at h|_=>simp[IK.kind]at h
def G7(q:IQ):q.kind=0\/q.kind=1\/q.kind=5\/q.kind=6:=by cases q with|load ag x=>simp[IQ.kind]|len k x=>(match k with|0=>simp[IQ.kind]|1=>simp[IQ.kind]|k+2=>simp[IQ.kind])|_=>simp[IQ.kind]
def PW(h:p.kind=1\/p.kind=5):∃q,p=.q q:=by cases p with|q q=>exact ⟨q,rfl⟩|st k xs=>cases k<;>simp[IK.kind,SK.kind]at h|_=>simp[IK.kind]at h
def PX(h:p.kind=5):∃t z ok x k,p=.q (.lE t z ok x k):=by cases p with|q q=>(cases q with|lE t z ok x k=>exact ⟨t,z,ok,x,k,rfl⟩|len k x=>(exfalso;match k,h with|0,h=>simp[IK.kind,IQ.kind]at h|1,h=>simp[IK.kind,IQ.kind]at h|k+2,h=>simp[IK.kind,IQ.kind]at h)|_=>simp[IK.kind,IQ.kind]at h)|st k xs=>cases k<;>simp[IK.kind,SK.kind]at h|_=>simp[IK.kind]at h
def Gt(h:p.kind=3):∃e s x,p=.app e s x:=by cases p with|q q=>rcases G7 q with b|b|b|b<;>simp[IK.kind,b]at h|app e s x=>exact ⟨e,s,x,rfl⟩|st k xs=>cases k<;>simp[IK.kind,SK.kind]at h|_=>simp[IK.kind]at h
def PY(h:p.kind=4):∃e a y,p=.store e a y:=by cases p with|q q=>rcases G7 q with b|b|b|b<;>simp[IK.kind,b]at h|store e a y=>exact ⟨e,a,y,rfl⟩|st k xs=>cases k<;>simp[IK.kind,SK.kind]at h|_=>simp[IK.kind]at h
variable {b K:Nat}
def Ly{c:bU}{a v:IV}(h:kT b a):jD (O.put b c) K a v=(jD O K a v).map (·.put b c):=by cases a with|ptr i off=>(have hi:i≠b:=h;simp only[jD,kO hi];cases hc:O.aR i with|none=>rfl|some o=>cases o with|cells cs=>simp only;split;{simp only[qd];rw[put_comm b i _ _ (λe=>hi e.symm)]};rfl|row cs=>simp only;split;{simp only[qd];rw[put_comm b i _ _ (λe=>hi e.symm)]};rfl|_=>rfl)|_=>rfl
def Sk{a v:IV}(c:O.aR b=zn)(h:jD O K a v=zc O'):kT b a:=by cases a with|ptr i off=>intro e;subst e;simp[jD,c]at h|slice i o l e=>simp[jD]at h|map i=>simp[jD]at h|eg i o l e=>simp[jD]at h|eD i o l r e=>simp[jD]at h|_=>trivial
def CZ{v:IV}(j:p.kind=0)(h:fO P E p b fr O v O'):O'=O/\∀m,fO P E p b fr m v m:=by cases p with|q q=>exact ⟨h.2,λm=>⟨by rw[XB (O':=O) j];exact h.1,rfl⟩⟩|jW f xs=>exact ⟨h.2,λm=>⟨h.1,rfl⟩⟩|jU f xs=>exact ⟨h.2,λm=>⟨h.1,rfl⟩⟩|ju e n z ps=>have⟨c,i,g,d⟩:=h;exact ⟨d,λ_=>⟨c,i,g,rfl⟩⟩|ka x=>have⟨i,g,d⟩:=h;exact ⟨d,λ_=>⟨i,g,rfl⟩⟩|st k xs=>exact h.elim|_=>simp[IK.kind]at j
def qX{v:IV}(m:p.kind=2)(h:fO P E p b fr O v O'):∃j,O'=O.put b j/\∀o,fO P E p b fr o v (o.put b j):=by cases p with|q q=>rcases G7 q with c|c|c|c<;>simp[IK.kind,c]at m|alloc z=>exact ⟨_,h.2,λo=>⟨h.1,rfl⟩⟩|box x=>exact ⟨_,h.2.2,λo=>⟨h.1,h.2.1,rfl⟩⟩|lA e n z ps=>have⟨d,i,g,f⟩:=h;exact ⟨_,f,λo=>⟨d,i,g,rfl⟩⟩|kH e z x=>have⟨n,i,g,f⟩:=h;exact ⟨_,f,λo=>⟨n,i,g,rfl⟩⟩|st k xs=>exact h.elim|_=>simp[IK.kind]at m
def wT{fr fr':a8}(h:∀t∈p.ops.flatMap IX.cK,fr.get t=fr'.get t):j8 E fr O p->j8 E fr' O p:=by cases p with|q q=>(cases q with|load ag x=>simp only[j8];rw[dj (x:=x) (λt b=>h t (by simp[IK.ops,IQ.ops,b]))];exact λh=>h|_=>exact λh=>h)|_=>exact λh=>h
variable {c:aQ}
def Hn(h:∀i cs,O.aR i=zc (.cells cs)->∃b,c.aR i=zc (.cells b)):j8 E fr O p->j8 E fr c p:=by cases p with|q q=>(cases q with|load ag x=>simp only[j8];split;{exact λh=>h};{rintro ⟨cs,hc⟩;exact h _ cs hc};exact λh=>h|_=>exact λh=>h)|_=>exact λh=>h
def ot(b:p.kind≠1):j8 E fr c p:=by cases p with|q q=>(cases q with|load ag x=>exact au rfl b|_=>trivial)|_=>trivial
def HW{B:Bool}{x:IK}{T I:a8}{O2:aQ}{vp vx:IV}(r:fO P E p b fr O vp c)(H:B=true->j8 E fr O p)(hx:fO P E x K T c vx O2)(al:B=true->j8 E T c x)(f:nL B p.kind x.kind=true)(ac:∀t∈x.ops.flatMap IX.cK,T.get t=fr.get t)(ad:∀t∈p.ops.flatMap IX.cK,fr.get t=I.get t)(M:b≠K)(Z:O.aR b=zn)(F:O.aR K=zn)(hH:p.kind=2->∀y∈x.ops,kT b (y.ev E fr)): ∃U,fO P E x K fr O vx U/\(B=true->j8 E fr O x)/\fO P E p b I U vp O2/\(B=true->j8 E I U p):=by have L:=tD ac hx;have D:B=true->j8 E fr c x:=λm=>wT ac (al m);have d:∀ {s s' v},fO P E p b fr s v s'->fO P E p b I s v s':=λh=>tD ad h;have u:∀ {s},j8 E fr s p->j8 E I s p:=λh=>wT ad h;by_cases W:p.kind=0;{obtain ⟨rfl,ix⟩:=CZ W r;exact ⟨O2,L,D,d (ix O2),λ_=>u (ot om)⟩};by_cases V:x.kind=0;{obtain ⟨rfl,ix⟩:=CZ V L;exact ⟨O,ix O,λ_=>ot om,d r,λm=>u (H m)⟩};by_cases n1:p.kind=2/\x.kind=4;{have⟨g,j⟩:=n1;obtain ⟨G,rfl,ix⟩:=qX g r;obtain ⟨e,a,y,rfl⟩:=PY j;have r1:=hH g a (by simp[IK.ops]);simp only[fO]at L;obtain ⟨X,rfl⟩:=L;rw[Ly r1]at X;obtain ⟨s,o,rfl⟩:=map_some X;exact ⟨s,⟨o,rfl⟩,λ_=>trivial,d (ix s),λ_=>ot om⟩};by_cases n2:p.kind=4/\x.kind=2;{have⟨g,j⟩:=n2;obtain ⟨e,a,y,rfl⟩:=PY g;obtain ⟨G,rfl,ix⟩:=qX j L;obtain ⟨o,rfl⟩:=r;refine ⟨O.put K G,ix O,λ_=>ot om,d ⟨?_,rfl⟩,λ_=>trivial⟩;rw[Ly (Sk F o),o];rfl};have f:Dw B p.kind x.kind=true:=(by unfold nL at f;simp only[zo,zi,beq_iff_eq]at f;rcases f with (h|h)|h;{exact h};{exact au h n1};exact au h n2);have J:(p.kind=1/\x.kind=1)\/(p.kind=1/\x.kind=2)\/(p.kind=2/\x.kind=2)\/(p.kind=3/\x.kind=2)\/(B=true/\p.kind=1/\x.kind=3)\/(B=true/\p.kind=3/\x.kind=1)\/(p.kind=2/\x.kind=1)\/(p.kind=2/\x.kind=3)\/((p.kind=1\/p.kind=5)/\(x.kind=1\/x.kind=5))\/(p.kind=5/\x.kind=2)\/(p.kind=2/\x.kind=5):=(by unfold Dw at f;simp only[zo,zi,beq_iff_eq,ah]at f;rcases f with ((((((((((((((h|h)|h)|h)|h)|h)|h)|h)|h)|h)|h)|h)|h)|h)|h);{exact au h.1 W};{exact au h.1 V};{exact .inl h};{exact .inr (.inl h)};{exact .inr (.inr (.inl h))};{exact .inr (.inr (.inr (.inl h)))};{exact .inr (.inr (.inr (.inr (.inl ⟨h.1.1,h.1.2,h.2⟩))))};{exact .inr (.inr (.inr (.inr (.inr (.inl ⟨h.1.1,h.1.2,h.2⟩)))))};{exact .inr (.inr (.inr (.inr (.inr (.inr (.inl h))))))};{exact .inr (.inr (.inr (.inr (.inr (.inr (.inr (.inl h)))))))};{exact .inr (.inr (.inr (.inr (.inr (.inr (.inr (.inr (.inl ⟨.inl h.1,.inr h.2⟩))))))))};{exact .inr (.inr (.inr (.inr (.inr (.inr (.inr (.inr (.inl ⟨.inr h.1,.inl h.2⟩))))))))};{exact .inr (.inr (.inr (.inr (.inr (.inr (.inr (.inr (.inl ⟨.inr h.1,.inr h.2⟩))))))))};{exact .inr (.inr (.inr (.inr (.inr (.inr (.inr (.inr (.inr (.inl h)))))))))};exact .inr (.inr (.inr (.inr (.inr (.inr (.inr (.inr (.inr (.inr h))))))))));rcases J with ⟨g,j⟩|⟨g,j⟩|⟨g,j⟩|⟨g,j⟩|⟨hB,g,j⟩|⟨hB,g,j⟩|⟨g,j⟩|⟨g,j⟩|⟨g,j⟩|⟨g,j⟩|⟨g,j⟩;{obtain ⟨ag,y,rfl⟩:=AW g;obtain ⟨am,y',rfl⟩:=AW j;obtain ⟨o,rfl⟩:=r;obtain ⟨A,rfl⟩:=L;exact ⟨_,⟨A,rfl⟩,D,d ⟨o,rfl⟩,λm=>u (H m)⟩};{obtain ⟨ag,y,rfl⟩:=AW g;obtain ⟨o,rfl⟩:=r;obtain ⟨G,rfl,ix⟩:=qX j L;refine ⟨c.put K G,ix c,λ_=>ot om,d ⟨?_,rfl⟩,λm=>u (Hn (λi cs hc=>⟨cs,by rw[kO (λe=>by subst e;rw[F]at hc;cases hc)];exact hc⟩) (H m))⟩;simp only[cJ]at o ⊢;rw[MB (TC F o)];exact o};{obtain ⟨G,rfl,ix⟩:=qX g r;obtain ⟨ak,rfl,S⟩:=qX j L;refine ⟨O.put K ak,S O,λ_=>ot om,?_,λ_=>ot om⟩;rw[put_comm b K _ _ M];exact d (ix _)};{obtain ⟨e,s,y,rfl⟩:=Gt g;obtain ⟨G,rfl,ix⟩:=qX j L;refine ⟨O.put K G,ix O,λ_=>ot om,d ?_,λ_=>ot om⟩;have⟨n1,n2⟩:=Vm (id2:=K) F r;simp only[fO]at r ⊢;rw[KF n1 n2 (λe=>M e.symm),r];rfl};{obtain ⟨ag,y,rfl⟩:=AW g;obtain ⟨e,s,z,rfl⟩:=Gt j;obtain ⟨o,rfl⟩:=r;have m:=H hB;refine ⟨O2,L,λ_=>trivial,d ⟨?_,rfl⟩,λ_=>u (Hn (λi cs hc=>⟨cs,(EH F L i cs).1 hc⟩) m)⟩;simp only[cJ]at o ⊢;rw[<- o];simp only[j8]at m;split at m;{rename_i he;rw[he];rfl};{rename_i i off he;have⟨cs,hc⟩:=m;have Q:=(EH F L i cs).1 hc;rw[he];simp[iI,lJ,hc,Q]};exact m.elim};{obtain ⟨e,s,z,rfl⟩:=Gt g;obtain ⟨ag,y,rfl⟩:=AW j;obtain ⟨A,rfl⟩:=L;have m:=D hB;refine ⟨O,⟨?_,rfl⟩,λ_=>Hn (λi cs hc=>⟨cs,(EH Z r i cs).2 hc⟩) m,d r,λ_=>trivial⟩;simp only[cJ]at A ⊢;rw[<- A];simp only[j8]at m;split at m;{rename_i he;rw[he];rfl};{rename_i i off he;have⟨cs,hc⟩:=m;have Q:=(EH Z r i cs).2 hc;rw[he];simp[iI,lJ,hc,Q]};exact m.elim};{obtain ⟨G,rfl,ix⟩:=qX g r;obtain ⟨ag,y,rfl⟩:=AW j;obtain ⟨A,rfl⟩:=L;have Y:=hH g y (by simp[IK.ops,IQ.ops]);refine ⟨O,⟨?_,rfl⟩,λm=>?_,d r,λ_=>ot om⟩;{simp only[cJ]at A ⊢;rw[MB Y]at A;exact A};have:=D m;simp only[j8]at this ⊢;split;{trivial};{rename_i i off he;rw[he]at this Y;have⟨cs,hc⟩:=this;exact ⟨cs,by rw[kO Y]at hc;exact hc⟩};rename_i o A;generalize y.ev E fr=q at *;cases q<;>first|exact this|exact (o _ rfl).elim|exact (A _ _ rfl).elim};{obtain ⟨G,rfl,ix⟩:=qX g r;obtain ⟨e,s,z,rfl⟩:=Gt j;have r1:=hH g s (by simp[IK.ops]);have r2:=hH g z (by simp[IK.ops]);simp only[fO]at L;rw[KF r1 r2 M]at L;have⟨⟨v',s'⟩,o,A⟩:=map_some L;cases A;exact ⟨s',o,λ_=>trivial,d (ix _),λ_=>ot om⟩};{obtain ⟨q1,rfl⟩:=PW g;obtain ⟨q2,rfl⟩:=PW j;obtain ⟨o,rfl⟩:=r;obtain ⟨A,rfl⟩:=L;exact ⟨_,⟨A,rfl⟩,D,d ⟨o,rfl⟩,λm=>u (H m)⟩};{obtain ⟨t,z,ok,y,k,rfl⟩:=PX g;obtain ⟨o,rfl⟩:=r;obtain ⟨G,rfl,ix⟩:=qX j L;refine ⟨c.put K G,ix c,λ_=>ot om,d ⟨?_,rfl⟩,λm=>trivial⟩;simp only[cJ]at o ⊢;rw[NA (Vl F o)];exact o};obtain ⟨G,rfl,ix⟩:=qX g r;obtain ⟨t,z,ok,y,k,rfl⟩:=PX j;obtain ⟨A,rfl⟩:=L;have Y:=hH g y (by simp[IK.ops,IQ.ops]);refine ⟨O,⟨?_,rfl⟩,λm=>trivial,d r,λ_=>ot om⟩;simp only[cJ]at A ⊢;rw[NA Y]at A;exact A
end Go.Id
namespace Go.Id
open Go
variable {P:Program} {w w' w'':World} {ρ ρ' ρ'':bC} {E:Nat->IV} {O O':aQ} {N n n':Nat} {fr:a8} {a:Act} {pf:List Nat}
abbrev Item:=Nat×bZ×Nat
def mF(P:Program)(E:Nat->IV)(B:Bool)(o:bZ)(id:Nat)(fr:a8)(O:aQ)(K:a8->aQ->Prop):Prop :=∃act,iB o fr=zc act/\(if act then fc P E o.op id fr O (λv O'=>K (fr.bS o.dst v) O')/\(B=true->j8 E fr O o.op) else K (fr.bS o.dst eX) O)
def j9(P:Program)(E:Nat->IV)(B:Bool):List Item->a8->aQ->(a8->aQ->Prop)->Prop|[],fr,O,K=>K fr O|(_,o,id)::rest,fr,O,K=>mF P E B o id fr O λfr' O'=>j9 P E B rest fr' O' K
def lH(fr:a8)(d:Option Nat)(v:IV)(t:Nat):(fr.bS d v).get t=if d=zc t then v else fr.get t:=by cases d with|none=>simp[a8.bS]|some d=>simp only[a8.bS,a8.Ft,zc.injEq];by_cases h:t=d;{subst h;simp};have:¬d=t:=λe=>h e.symm;simp[h,this]
variable {b:a8}
def E7{fr:a8}(h:iQ fr b)(d:Option Nat)(v:IV):iQ (fr.bS d v) (b.bS d v):=λt=>by rw[lH,lH,h t]
variable {c:IK}{i:Nat}{d:IV->aQ->Prop}
def xK{fr:a8}(h:∀t∈c.ops.flatMap IX.cK,fr.get t=b.get t):fc P E c i fr O d->fc P E c i b O d:=by cases c with|q q=>simp only[fc];rw[OM (λt K=>h t K)];exact λh=>h|alloc z=>exact λh=>h|box x=>simp only[fc];rw[dj (x:=x) (λt K=>h t (by simp[IK.ops,K]))];exact λh=>h|lA e n z ps=>simp only[fc];rw[CE (λt K=>h t K)];exact λh=>h|store e x y=>simp only[fc];rw[dj (x:=x) (λt K=>h t (by simp[IK.ops,K])),dj (x:=y) (λt K=>h t (by simp[IK.ops,K]))];exact λh=>h|app e x y=>simp only[fc];rw[dj (x:=x) (λt K=>h t (by simp[IK.ops,K])),dj (x:=y) (λt K=>h t (by simp[IK.ops,K]))];exact λh=>h|qI=>exact λh=>h|pY x=>simp only[fc];rw[dj (x:=x) (λt K=>h t (by simp[IK.ops,K]))];exact λh=>h|rS x=>simp only[fc];rw[dj (x:=x) (λt K=>h t (by simp[IK.ops,K]))];exact λh=>h|oP t x y z=>simp only[fc];rw[dj (x:=x) (λt K=>h t (by simp[IK.ops,K])),dj (x:=y) (λt K=>h t (by simp[IK.ops,K])),dj (x:=z) (λt K=>h t (by simp[IK.ops,K]))];exact λh=>h|call f xs=>simp only[fc];rw[sv (xs:=xs) h];exact λh=>h|jW f xs=>simp only[fc];rw[sv (xs:=xs) h];exact λh=>h|rT x xs=>simp only[IK.ops,z2,zg]at h;simp only[fc];rw[sv (xs:=xs) (λt K=>h t (.inr K)),dj (x:=x) (λt K=>h t (.inl K))];exact λh=>h|jU x xs=>simp only[IK.ops,z2,zg]at h;simp only[fc];rw[sv (xs:=xs) (λt K=>h t (.inr K)),dj (x:=x) (λt K=>h t (.inl K))];exact λh=>h|ju e n z ps=>simp only[fc];rw[CE (λt K=>h t K)];exact λh=>h|ka x=>simp only[fc];rw[dj (x:=x) (λt K=>h t (by simp[IK.ops,K]))];exact λh=>h|ph x=>simp only[fc];rw[dj (x:=x) (λt K=>h t (by simp[IK.ops,K]))];exact λh=>h|qJ x=>simp only[fc];rw[dj (x:=x) (λt K=>h t (by simp[IK.ops,K]))];exact λh=>h|qR x=>simp only[fc];rw[dj (x:=x) (λt K=>h t (by simp[IK.ops,K]))];exact λh=>h|kH e z x=>simp only[fc];rw[dj (x:=x) (λt K=>h t (by simp[IK.ops,K]))];exact λh=>h|clr e z x=>simp only[fc];rw[dj (x:=x) (λt K=>h t (by simp[IK.ops,K]))];exact λh=>h|st k xs=>simp only[fc];rw[sv (xs:=xs) h];exact λh=>h
def NB{fr:a8}(h:iQ fr b):fc P E c i fr O d->fc P E c i b O d:=xK λt _=>h t
def ki{u:IV->aQ->Prop}(b:∀v O,d v O->u v O):fc P E c i fr O d->fc P E c i fr O u:=by cases c with|q q=>exact λ⟨v,h,k⟩=>⟨v,h,b _ _ k⟩|alloc z=>exact λk=>b _ _ k|box x=>exact λ⟨h,k⟩=>⟨h,b _ _ k⟩|lA e n z ps=>exact λ⟨K,h,k⟩=>⟨K,h,b _ _ k⟩|store e x y=>exact λ⟨s,h,k⟩=>⟨s,h,b _ _ k⟩|app e x y=>exact λ⟨r,h,k⟩=>⟨r,h,b _ _ k⟩|qI=>exact λk=>b _ _ k|pY x=>exact λ⟨s,h,k⟩=>⟨s,h,b _ _ k⟩|rS x=>exact λ⟨s,h,k⟩=>⟨s,h,b _ _ k⟩|oP t x y z=>exact λ⟨s,h,k⟩=>⟨s,h,b _ _ k⟩|call f xs=>exact λ⟨Q,h,k⟩=>⟨Q,h,λv s q=>⟨(k v s q).1,b _ _ (k v s q).2⟩⟩|jW f xs=>exact λ⟨v,h,k⟩=>⟨v,h,b _ _ k⟩|jU f xs=>exact λ⟨v,h,k⟩=>⟨v,h,b _ _ k⟩|rT x xs=>exact λ⟨Q,h,k⟩=>⟨Q,h,λv s q=>⟨(k v s q).1,b _ _ (k v s q).2⟩⟩|ju e n z ps=>exact λ⟨K,h,k⟩=>⟨K,h,b _ _ k⟩|ka x=>exact λ⟨h,k⟩=>⟨h,b _ _ k⟩|ph x=>exact λ⟨s,h,k⟩=>⟨s,h,b _ _ k⟩|qR x=>exact λ⟨v,h,k⟩=>⟨v,h,b _ _ k⟩|kH e z x=>exact λ⟨n,h,k⟩=>⟨n,h,b _ _ k⟩|clr e z x=>exact λ⟨s,h,o,k⟩=>⟨s,h,o,b _ _ k⟩|st e xs=>exact λ⟨r,h,k⟩=>⟨r,h,b _ _ k⟩|qJ x=>exact λ⟨A,l,h,m,g⟩=>⟨A,l,h,λe=>b _ _ (m e),λj p=>b _ _ (g j p)⟩
variable {o:bZ}
def pe{fr:a8}(h:∀t∈o.cK,fr.get t=b.get t):iB o fr=iB o b:=by unfold iB;cases c:o.guard with|none=>rfl|some p=>have⟨s,d⟩:=p;simp only;rw[h s (by simp[bZ.cK,c])]
variable {B:Bool}{K g:a8->aQ->Prop}
def XD{fr:a8}(h:iQ fr b)(d:∀f e s,iQ f e->K f s->g e s):mF P E B o i fr O K->mF P E B o i b O g:=by rintro ⟨p,ha,c⟩;refine ⟨p,by rw[<- pe (λt _=>h t)];exact ha,?_⟩;cases p with|true=>have⟨m,j⟩:=c;exact ⟨ki (λv s k=>d _ _ _ (E7 h _ _) k) (NB h m),λq=>wT (λt _=>h t) (j q)⟩|false=>exact d _ _ _ (E7 h _ _) c
def Hz(e:∀f c s,iQ f c->K f s->K c s):∀(b:List Item)(fr fr':a8)(O:aQ),iQ fr fr'->j9 P E B b fr O K->j9 P E B b fr' O K:=by intro b;induction b with|nil=>exact λfr fr' O h k=>e _ _ _ h k|cons it b ih=>have⟨i,o,id⟩:=it;exact λfr fr' O h k=>XD h (λf c s hf d=>ih f c s hf d) k
def pX(p x:bZ):Prop :=(∀d,x.dst=zc d->d ∉ p.cK/\p.dst≠zc d)/\(∀d,p.dst=zc d->d ∉ x.cK)
def sf(o:bZ):Bool:=match o.guard,o.op with|none,.q (.lh _)=>true|_,_=>false
def DS (B:Bool)(p x:bZ):Prop:=(nL B p.op.kind x.op.kind=true\/sf p=true\/sf x=true)/\pX p x
variable {j:Nat}
def E8(h:nL B i j=true):i<=5/\j<=5:=by unfold nL Dw at h;simp only[zo,zi,beq_iff_eq,ah]at h;omega
def Lz{v:IV}(d:c.kind<=5)(hi:j≠i)(h:fO P E c i fr O v O')(b:O.aR j=zn):O'.aR j=zn:=by cases c with|q q=>rw[h.2];exact b|alloc z=>rw[h.2,kO hi];exact b|box x=>rw[h.2.2,kO hi];exact b|lA e n z ps=>have⟨p,_,_,g⟩:=h;rw[g,kO hi];exact b|store e x y=>have⟨h,_⟩:=h;unfold jD at h;split at h;{rename_i o off m;split at h;{rename_i cs hc;split at h;{cases h;rw[kO (λe=>by subst e;rw[b]at hc;cases hc)];exact b};cases h};{rename_i cs hc;split at h;{cases h;rw[kO (λe=>by subst e;rw[b]at hc;cases hc)];exact b};cases h};cases h};cases h|jW f xs=>rw[h.2];exact b|jU f xs=>rw[h.2];exact b|app e s x=>simp only[fO]at h;unfold c8 at h;split at h;{cases h};split at h;{cases h};split at h;{split at h;{cases h;exact b};split at h;{cases h;rw[kO hi];exact b};cases h};{split at h;{cases h;exact b};split at h;{cases h;rw[kO hi];exact b};cases h};{split at h;{cases h;exact b};cases h};{split at h;{split at h;{cases h;exact b};split at h;{cases h;rw[kO hi];simp only[aQ.kill];split<;>simp[b]};cases h};cases h};{split at h;{split at h;{cases h;exact b};split at h;{cases h;rw[kO hi];exact b};cases h};cases h};cases h|ju e n z ps=>obtain ⟨_,_,_,rfl⟩:=h;exact b|ka x=>obtain ⟨_,_,rfl⟩:=h;exact b|kH e z x=>obtain ⟨_,_,_,rfl⟩:=h;rw[kO hi];exact b|st k xs=>exact h.elim|_=>exact au d (by simp[IK.kind])
def mg(h:i∈o.op.ops.flatMap IX.cK):i∈o.cK:=by unfold bZ.cK;exact za _ h
def QA{B:Bool}(h:sf o=true):o.op.kind=0/\∃y:IX,(∀t∈y.cK,t∈o.cK)/\∀id fr O K,mF P E B o id fr O K↔K (fr.bS o.dst (y.ev E fr)) O:=by have⟨d,g,k⟩:=o;unfold sf at h;simp only at h;split at h;{rename_i y;refine ⟨rfl,y,λt e=>mg (z3.2 ⟨y,List.mem_singleton.2 rfl,e⟩),λid fr O K=>⟨?_,λb=>⟨true,rfl,show fc P E _ id fr O _/\_ from ⟨⟨_,rfl,b⟩,λ_=>trivial⟩⟩⟩⟩;rintro ⟨i,ha,f⟩;cases ha;have⟨⟨v,c,b⟩,_⟩:=f;cases c;exact b};cases h
def HX{fr:a8}(h:∀t∈o.cK,fr.get t=b.get t)(e:∀v s,K (fr.bS o.dst v) s->g (b.bS o.dst v) s):mF P E B o i fr O K->mF P E B o i b O g:=by rintro ⟨f,ha,d⟩;refine ⟨f,by rw[<- pe h];exact ha,?_⟩;cases f with|true=>have⟨j,p⟩:=d;exact ⟨ki (λv s k=>e v s k) (xK (λt c=>h t (mg c)) j),λm=>wT (λt c=>h t (mg c)) (p m)⟩|false=>exact e _ _ d
def LA{fr:a8}{d c:Option Nat}{v e:IV}(h:∀t,d=zc t->c≠zc t):iQ ((fr.bS d v).bS c e) ((fr.bS c e).bS d v):=λt=>by simp only[lH];by_cases b:d=zc t;{simp[b,h t b]};simp[b]
def LB{B:Bool}(m:∀f u s,iQ f u->K f s->K u s){x:bZ}(b:pX o x)(r:sf x=true):mF P E B o i fr O (λf s=>mF P E B x j f s K)↔mF P E B x j fr O (λf s=>mF P E B o i f s K):=by have⟨_,y,q,p⟩:=QA (P:=P) (E:=E) (B:=B) r;have d:∀v,y.ev E (fr.bS o.dst v)=y.ev E fr:=λv=>dj λt c=>(by rw[lH,aa];intro e;exact b.2 t e (q t c));have g:∀t∈o.cK,fr.get t=(fr.bS x.dst (y.ev E fr)).get t:=λt c=>(by rw[lH,aa];intro e;exact (b.1 t e).1 c);rw[p];constructor;{refine λh=>HX g (λv s k=>?_) h;rw[p,d]at k;exact m _ _ _ (λt=>((LA λt e=>(b.1 t e).2) t).symm) k};refine λh=>HX (λt c=>(g t c).symm) (λv s k=>?_) h;rw[p,d];exact m _ _ _ (LA λt e=>(b.1 t e).2) k
def Vn(c:∀f s,K f s->g f s)(h:mF P E B o i fr O K):mF P E B o i fr O g:=HX (λ_ _=>rfl) (λ_ _ k=>c _ _ k) h
def pX.symm{x:bZ}(h:pX o x):pX x o:=⟨λd b=>⟨h.2 d b,λe=>(h.1 d e).2 b⟩,λd b=>(h.1 d b).1⟩
def lc5(m:∀f b s,iQ f b->K f s->K b s){post:List Item}: ∀(pre:List Item)(fr:a8)(O:aQ),(∀p∈pre,(sf p.2.1=true\/sf o=true)/\pX p.2.1 o) -> j9 P E B (pre++(i,o,j)::post) fr O K->mF P E B o j fr O λfr' O'=>j9 P E B (pre++post) fr' O' K:=by intro pre;induction pre with|nil=>exact λfr O _ h=>h|cons p pre ih=>intro fr O x h;have h:=Vn (λf s k=>ih f s (λq r=>x q (ze _ r)) k) h;have⟨c,d⟩:=x p (zb ..);have g:∀f b s,iQ f b->j9 P E B (pre++post) f s K->j9 P E B (pre++post) b s K:=λf b s e k=>Hz m _ _ _ _ e k;rcases c with c|c;{exact (LB g d.symm c).2 h};exact (LB g d c).1 h
def lc6(hK:∀f f' s,iQ f f'->K f s->K f' s){post:List Item}: ∀(pre:List Item)(fr:a8)(O:aQ),(∀p∈pre,nL B p.2.1.op.kind o.op.kind=true/\pX p.2.1 o)->(∀p∈pre,p.2.2≠j/\O.aR p.2.2=zn)->(pre.map (·.2.2)).Nodup->(pre≠[]->O.aR j=zn) -> (∀p∈pre,p.2.1.op.kind=2->∀y∈o.op.ops,kT p.2.2 (y.ev E fr)) -> j9 P E B (pre++(i,o,j)::post) fr O K->mF P E B o j fr O λfr' O'=>j9 P E B (pre++post) fr' O' K:=by intro pre;induction pre with|nil=>intro fr O _ _ _ _ _ h;exact h|cons p pre ih=>
 intro fr O A u am F hH h;have⟨ip,p,kp⟩:=p;have⟨hk,H⟩:=A _ (zb ..);have⟨X,ag⟩:=u _ (zb ..);simp only at hk H X ag;have⟨U,ad⟩:=E8 hk;have F:=F (by simp);have⟨S,ac,hh⟩:=h;have hp:∃d L,GO P E B S p.op kp fr O d L/\j9 P E B (pre++(i,o,j)::post) (fr.bS p.dst d) L K:=by cases S with|true=>have⟨Z,h2⟩:=hh;have⟨d,L,D,k⟩:=(pU U).1 Z;exact ⟨d,L,⟨D,h2⟩,k⟩|false=>exact ⟨eX,O,⟨rfl,rfl⟩,hh⟩
 have⟨d,L,D,V⟩:=hp;have z:∀t∈o.cK,(fr.bS p.dst d).get t=fr.get t:=λt b=>by rw[lH,aa];intro e;exact H.2 t e b
 have kx:∀ix,ix≠kp->O.aR ix=zn->L.aR ix=zn:=λix hi h0=>by cases S with|true=>exact Lz U hi D.1 h0|false=>obtain ⟨_,rfl⟩:=D;exact h0
 have M:=qi.1 (show (kp::pre.map (·.2.2)).Nodup from am);have⟨Q,Y,ak⟩:=ih (fr.bS p.dst d) L (λq W=>A q (ze _ W)) (λq W=>⟨(u q (ze _ W)).1,kx _ (λe=>M.1 (by rw[<- e];exact zj.2 ⟨q,W,rfl⟩)) (u q (ze _ W)).2⟩) M.2 (λ_=>kx j (λe=>X e.symm) F) (λq W an y hy=>by have:y.ev E (fr.bS p.dst d)=y.ev E fr:=dj λt b=>z t (mg (z3.2 ⟨y,hy,b⟩));rw[this];exact hH q (ze _ W) an y hy) V;have hx:∃m T,GO P E B Q o.op j (fr.bS p.dst d) L m T/\j9 P E B (pre++post) ((fr.bS p.dst d).bS o.dst m) T K:=by cases Q with|true=>have⟨Z,h2⟩:=ak;have⟨m,T,D,k⟩:=(pU ad).1 Z;exact ⟨m,T,⟨D,h2⟩,k⟩|false=>exact ⟨eX,L,⟨rfl,rfl⟩,ak⟩
 have⟨m,T,x,g⟩:=hx;have I:iB o fr=zc Q:=by rw[<- pe z];exact Y
 have G:∀t∈p.cK,fr.get t=(fr.bS o.dst m).get t:=λt b=>by rw[lH,aa];intro e;exact (H.1 t e).1 b
 have J:iB p (fr.bS o.dst m)=zc S:=by rw[<- pe G];exact ac
 have al:iQ ((fr.bS p.dst d).bS o.dst m) ((fr.bS o.dst m).bS p.dst d):=λt=>by simp only[lH];by_cases Z:o.dst=zc t;{have h2:p.dst≠zc t:=(H.1 t Z).2;simp[Z,h2]};simp[Z]
 have swap:∃c,GO P E B Q o.op j fr O m c/\GO P E B S p.op kp (fr.bS o.dst m) c d T:=by cases S with|true=>(cases Q with|true=>have⟨c,s1,s2,s3,s4⟩:=HW D.1 D.2 x.1 x.2 hk (λt b=>z t (mg b)) (λt b=>G t (mg b)) X ag F (hH _ (zb ..));exact ⟨c,⟨s1,s2⟩,⟨s3,s4⟩⟩|false=>obtain ⟨rfl,rfl⟩:=x;exact ⟨O,⟨rfl,rfl⟩,tD (λt b=>G t (mg b)) D.1,λhb=>wT (λt b=>G t (mg b)) (D.2 hb)⟩)|false=>obtain ⟨rfl,rfl⟩:=D;cases Q with|true=>exact ⟨T,⟨tD (λt b=>z t (mg b)) x.1,λhb=>wT (λt b=>z t (mg b)) (x.2 hb)⟩,rfl,rfl⟩|false=>obtain ⟨rfl,rfl⟩:=x;exact ⟨_,⟨rfl,rfl⟩,rfl,rfl⟩
 have⟨c,d1,d2⟩:=swap;have r:mF P E B p kp (fr.bS o.dst m) c λfr' O'=>j9 P E B (pre++post) fr' O' K:=by refine ⟨S,J,?_⟩;cases S with|true=>exact ⟨(pU U).2 ⟨d,T,d2.1,Hz hK _ _ _ _ al g⟩,d2.2⟩|false=>obtain ⟨rfl,rfl⟩:=d2;exact Hz hK _ _ _ _ al g
 refine ⟨Q,I,?_⟩;cases Q with|true=>exact ⟨(pU ad).2 ⟨m,c,d1.1,r⟩,d1.2⟩|false=>obtain ⟨rfl,rfl⟩:=d1;exact r
def lr4{B:Bool}{K:a8->aQ->Prop}(k:∀f m s,iQ f m->K f s->K m s){ix:Nat}{x:bZ}{kx:Nat}{post:List Item}: ∀(pre:List Item)(fr:a8)(O:aQ),(∀p∈pre,DS B p.2.1 x)->(∀p∈pre,p.2.2≠kx/\O.aR p.2.2=zn)->(pre.map (·.2.2)).Nodup->(pre≠[]->O.aR kx=zn) -> (∀p∈pre,p.2.1.op.kind=2->∀y∈x.op.ops,kT p.2.2 (y.ev E fr)) -> j9 P E B (pre++(ix,x,kx)::post) fr O K->mF P E B x kx fr O λfr' O'=>j9 P E B (pre++post) fr' O' K:=by intro pre fr O b g j i o h;by_cases e:sf x=true\/5<x.op.kind;{exact lc5 k pre fr O (λp d=>⟨by rcases e with h|h;{exact .inr h};rcases (b p d).1 with c|c;{exact au (E8 c).2 om};exact c,(b p d).2⟩) h};refine lc6 k pre fr O (show ∀p∈pre,nL B p.2.1.op.kind x.op.kind=true/\pX p.2.1 x from λp d=>⟨by rcases (b p d).1 with c|c|c;{exact c};{have:=(QA (P:=P) (E:=E) (B:=B) c).1;have:x.op.kind<=5:=om;simp_all [nL,Dw]};exact au (.inl c) e,(b p d).2⟩) g j i o h
end Go.Id
namespace Go.Id
open Go
variable {P:Program} {w w' w'':World} {ρ ρ' ρ'':bC} {E:Nat->IV} {O O':aQ} {N n n':Nat} {fr:a8} {a:Act} {pf:List Nat}
def IX.quiet:IX->Bool|.c (.ptr _ _)=>false|.c (.slice _ _ _ _)=>false|.c (.map _)=>false|.c (.eg _ _ _ _)=>false|.c (.eD _ _ _ _ _)=>false|_=>true
variable {j:Nat}
def IX.Ei{x:IX}(b:x.quiet=true)(hs:bF E ρ w O)(hf:FR ρ w N fr a.tmps)(h:ρ j=.no):kT j (x.ev E fr):=by cases x with|t n=>exact MA (hf.get n) h|c v=>(cases v<;>first|trivial|cases b)|g n=>exact MA (hs.env n) h|f n=>trivial
structure Rem (P:Program) (pf:List Nat) (N:Nat) (ops:Array Oper) (B:Bool) (anc:Nat->Nat->Prop) (base:Nat) (rem:List Item) (listed:Array Bool):Prop where
 size:listed.size=ops.size
 un:∀j,j<ops.size->(listed.getD j true=false↔∃it∈rem,it.1=j)
 dg:∀it∈rem,∃o,ops[it.1]? = zc o/\tF P pf N ops o=zc it.2.1/\it.2.2=base+it.1/\∀y∈it.2.1.op.ops,IX.quiet y=true
 pw:rem.Pairwise λp x=>(anc p.1 x.1\/DS B p.2.1 x.2.1)/\p.1≠x.1/\∀o,ops[p.1]? = zc o->∀e∈o.after,Region.binds .any e=true->e.on≠x.1
 dc:∀j,listed.getD j false=true->∀k,anc k j->listed.getD k false=true
def fj{l:Array Bool}(h:l.getD j true=false):j<l.size:=by rcases zm j l.size with b|b;{exact b};simp[zf b]at h
def Fv{l:Array Bool}(h:l.getD j false=true):l.getD j true=true:=by rcases zm j l.size with b|b;{simp[b]at h ⊢;exact h};simp[zf b]at h
def Vo{ops:Array Oper}{B:Bool}{anc:Nat->Nat->Prop}{n0 base:Nat}{ro:Option Nat}{Qw:Exit->Act->World->Prop}{K:a8->aQ->Prop}{ρ0:bC}{w0:World}{ds:List Deferred}(cg:∀f f' s,iQ f f'->K f s->K f' s)(bb:∀fr O ρ w a,n0<=O.aP->K fr O->bF E ρ w O->FR ρ w N fr a.tmps->a.defers=ds->dG n0 ρ0 w0 ρ w->Qw .normal a w)(ce:∀j o,ops[j]? = zc o->∀e∈o.after,Region.binds .any e=true->e.on<ops.size/\e.on≠j)(al:∀k j,anc k j->∀o,ops[j]? = zc o->∃e∈o.after,Region.binds .any e=true/\(e.on=k\/anc k e.on)): ∀(g:Nat)(u:List Item)(b:Array Bool)(fr:a8)(O:aQ)(ρ:bC)(w:World)(a:Act),u.length=g->Rem P pf N ops B anc base u b->j9 P E B u fr O K -> bF E ρ w O->FR ρ w N fr a.tmps->a.defers=ds->dG n0 ρ0 w0 ρ w->n0<=base->base+ops.size<=O.aP->(∀c∈u,ρ c.2.2=.no) -> wpAnyIn (fw ro) 0 P .any ops Qw g b a w:=by intro g;induction g with|zero=>intro u b fr O ρ w a G d h hs hf hd hx ay bm F;have:u=[]:=z8.1 G;subst this;refine ⟨?_,bb fr O ρ w a om h hs hf hd hx⟩;rw[z4];intro j X;have⟨h0,_⟩:=mem_ready.1 X;have⟨c,D,_⟩:=(d.un j (by rw[<- d.size];exact fj h0)).1 h0;cases D|succ g ih=>
 intro u b fr O ρ w a G d h hs hf hd hx ay bm F;refine ⟨λbc=>?_,λi hi=>?_⟩;{exfalso;cases u with|nil=>cases G|cons c u=>have⟨o,V,hc,ck,_⟩:=d.dg c (zb ..);have aR:c.1<ops.size:=(by rcases zm c.1 ops.size with T|T;{exact T};simp[zf T]at V);have:c.1∈Region.ready .any ops b:=(by refine mem_ready.2 ⟨(d.un _ aR).2 ⟨c,zb ..,rfl⟩,o,V,λe he hb=>?_⟩;have⟨m,h2⟩:=ce _ o V e he hb;have X:e.on<b.size:=(by rw[d.size];exact m);by_cases hL:b.getD e.on true=false;{have⟨U,z,bp⟩:=(d.un _ m).1 hL;rcases zh.1 z with rfl|z;{exact au bp.symm h2};exact au bp.symm (((zk.1 d.pw).1 U z).2.2 o V e he hb)};simp[X]at hL ⊢;exact hL);rw[bc]at this;cases this};have⟨h0,o,V,am⟩:=mem_ready.1 hi;have aR:i<ops.size:=by rw[<- d.size];exact fj h0
 have⟨c,D,bq⟩:=(d.un i aR).1 h0;obtain ⟨pre,post,rfl⟩:=zx D;have⟨ix,x,kx⟩:=c;simp only at bq;subst bq;have⟨o',ap,hc,W,bl⟩:=d.dg _ D;simp only at ap hc W bl;rw[V]at ap;cases ap;have⟨bA,bv,Y⟩:=zu.1 d.pw;have bd:=λp A=>Y p A _ (zb ..);have J:∀p∈pre,b.getD p.1 false≠true:=λp A hL=>by have⟨op,an,_⟩:=d.dg p (za _ A);have bP:p.1<ops.size:=(by rcases zm p.1 ops.size with T|T;{exact T};simp[zf T]at an);have:=(d.un p.1 bP).2 ⟨p,za _ A,rfl⟩;rw[Fv hL]at this;cases this
 have ag:∀p∈pre,DS B p.2.1 x:=λp A=>by rcases (bd p A).1 with ha|hf;{exfalso;have⟨e,he,hb,S⟩:=al _ _ ha o V;have M:=am e he hb;rcases S with S|be;{exact J p A (by rw[<- S];exact M)};exact J p A (d.dc _ M _ be)};exact hf
 have Q:∀p∈pre,p.2.2=base+p.1:=λp A=>by have⟨_,_,_,m,_⟩:=d.dg p (za _ A);exact m
 have ac:=lr4 (P:=P) (E:=E) (B:=B) (K:=K) cg (ix:=ix) (x:=x) (kx:=kx) (post:=post) pre fr O ag (λp A=>⟨by rw[Q p A,W];have:=(bd p A).2.1;omega,hs.eI _ (F p (za _ A))⟩) (by rw[zp,zy];refine (z5.and_mem.1 bA).imp ?_;intro p q ⟨A,hq,m⟩;rw[Q p A,Q q hq];have:=m.2.1;omega) (λ_=>hs.eI _ (F _ D)) (λp A _ y hy=>IX.Ei (bl y hy) hs hf (F p (za _ A))) h;have⟨⟨fz,hk⟩,ak,bs,hg⟩:=wg hc;have ad:kx<O.aP/\n0<=kx:=by rw[W];omega
 have t:∀c∈pre++post,c∈pre++(ix,x,kx)::post:=λc h=>by rcases zg.1 h with h|h;{exact za _ h};exact zl _ (ze _ h)
 have bn:∀c∈pre++post,c.1≠ix:=λc h=>by rcases zg.1 h with h|h;{exact (bd c h).2.1};exact λe=>((zk.1 bv).1 c h).2.1 e.symm
 have Z:Rem P pf N ops B anc base (pre++post) (b.setIfInBounds ix true):=by refine ⟨by simp[d.size],λj X=>?_,λc D=>d.dg c (t c D),?_,?_⟩;{by_cases I:j=ix;{subst I;have:j<b.size:=(by rw[d.size];exact X);constructor;{intro h;simp[this]at h};rintro ⟨c,m,h2⟩;exact au h2 (bn c m)};rw[getD_set_ne true (Ne.symm I),d.un j X];constructor;{rintro ⟨c,m,h2⟩;refine ⟨c,?_,h2⟩;rcases zg.1 m with m|m;{exact za _ m};rcases zh.1 m with rfl|m;{exact au h2.symm I};exact zl _ m};rintro ⟨c,m,h2⟩;exact ⟨c,t c m,h2⟩};{exact d.pw.sublist (zv.append (zv.refl _) (zw _ _))};intro j X k hk;by_cases I:j=ix;{subst I;have⟨e,he,hb,S⟩:=al _ _ hk o V;have M:=am e he hb;rcases S with rfl|be;{exact getD_set_true M};exact getD_set_true (d.dc _ M _ be)};rw[getD_set_ne false (Ne.symm I)]at X;exact getD_set_true (d.dc _ X _ hk)
 have L:(pre++post).length=g:=by simp at G ⊢;omega
 have ax:∀c∈pre++post,c.2.2≠kx:=λc h=>by have⟨_,_,_,m,_⟩:=d.dg c (t c h);rw[m,W];have:=bn c h;omega
 unfold wpOpIn;simp only[V];have⟨ch,H,hh⟩:=ac;have bh:fc P E x.op kx fr O (λv O'=>j9 P E B (pre++post) (fr.bS x.dst v) O' K)->o.wpIn (fw ro) 0 P a w (wpAnyIn (fw ro) 0 P .any ops Qw g (b.setIfInBounds ix true)) Qw:=by intro an;refine C0 hk an hs hf om (λhl=>⟨F _ D,ad.1,ad.2⟩) ?_;intro v O' r ρ' w' bY hK bz bx bi av;refine ih (pre++post) _ _ O' ρ' w' (a.put o.dst r) L Z hK bz ?_ (by rw[put_defers];exact hd) (hx.trans (bi.b9 (zs _))) ay om ?_;{rw[ak];exact FR.bS (hf.mono bi) bs bx};intro U z;have⟨jo,ca,_,m,_⟩:=d.dg U (t U z);have ci:U.1<ops.size:=(by rcases zm U.1 ops.size with T|T;{exact T};simp[zf T]at ca);exact av _ (by rw[m];omega) (λ_=>ax U z) (F _ (t U z))
 rcases hg with ⟨aZ,aW⟩|⟨j,bt,s,aZ,cb,aW⟩;{have hw:Region.wanted o (yielded ops a.tmps)=true:=(by unfold Region.wanted;rw[aZ]);rw[ab hw];simp only[iB,aW,zc.injEq]at H;subst H;exact bh hh.1};simp only[iB,aW]at H;have hw:=tm aZ cb hf H;rw[hw];cases ch with|true=>exact bh hh.1|false=>refine ⟨λf _=>trivial,?_⟩;exact ih (pre++post) _ _ O ρ w (a.put o.dst undef) L Z hh hs (by rw[ak];exact FR.bS hf bs DB) (by rw[put_defers];exact hd) hx ay bm (λU z=>F _ (t U z))
end Go.Id
namespace Go.Id
open Go
variable {P:Program} {w w' w'':World} {ρ ρ' ρ'':bC} {E:Nat->IV} {O O':aQ} {N n n':Nat} {fr:a8} {a:Act} {pf:List Nat}
def mG(base:Nat):Nat->List bZ->List Item|_,[]=>[]|i,o::os=>(i,o,base+i)::mG base (i+1) os
def fg (o:Oper):List Nat:=(o.after.toList.filter (Region.binds .any)).map (·.on)
def orF (ms:List Nat)(es:List Nat):Nat:=es.foldl (λs e=>s ||| (2^e ||| ms.getD e 0)) 0
def vw (ess:List (List Nat)):List Nat:=ess.foldl (λacc es=>acc++[orF acc es]) []
def Dx(p x:bZ):Bool :=(match x.dst with|none=>true|some d=>!p.cK.contains d&&p.dst != zc d)&&(match p.dst with|none=>true|some d=>!x.cK.contains d)
def FV(B:Bool)(ms:List Nat)(i:Nat)(p:bZ):Nat->List bZ->Bool|_,[]=>true|j,x::xs=>((ms.getD j 0).testBit i||((nL B p.op.kind x.op.kind||(sf p||sf x))&&Dx p x))&&FV B ms i p (j+1) xs
def Fw(B:Bool)(ms:List Nat):Nat->List bZ->Bool|_,[]=>true|i,o::os=>FV B ms i o (i+1) os&&Fw B ms (i+1) os
def Ci:Nat->List (List Nat)->Bool|_,[]=>true|j,es::r=>es.all (λe=>decide (e<j))&&Ci (j+1) r
def Cj(ms:List Nat):Nat->List (List Nat)->Bool|_,[]=>true|j,es::r=>ms.getD j 0==orF ms es&&Cj ms (j+1) r
def GP(ess:List (List Nat))(ios:List bZ)(B:Bool):Bool :=let ms:=vw ess;Ci 0 ess&&Cj ms 0 ess&&Fw B ms 0 ios&&ios.all λo=>o.op.ops.all IX.quiet
def Dy (ios:List bZ):Bool:=ios.any λo=>o.op.kind==3
variable {k:Nat}
def Iz{ms:List Nat}:∀(es:List Nat)(s:Nat),(es.foldl (λs e=>s |||(2^e |||ms.getD e 0)) s).testBit k=true->s.testBit k=true\/∃e∈es,e=k\/(ms.getD e 0).testBit k=true:=by intro es;induction es with|nil=>exact λs h=>.inl h|cons e es ih=>intro s h;rcases ih _ h with b|⟨c,he,b⟩;{rw[Nat.testBit_or,Nat.testBit_or,Nat.testBit_two_pow]at b;simp only[zo,ah]at b;rcases b with b|b|b;{exact .inl b};{exact .inr ⟨e,zb ..,.inl b⟩};exact .inr ⟨e,zb ..,.inr b⟩};exact .inr ⟨c,ze _ he,b⟩
def G8{p x:bZ}(h:Dx p x=true):pX p x:=by unfold Dx at h;simp only[zi]at h;have⟨e,c⟩:=h;refine ⟨λd b=>?_,λd b=>?_⟩;{rw[b]at e;simpa using e};rw[b]at c;simpa using c
def Fx:∀(b:List bZ)(i:Nat),∀c∈mG k i b,i<=c.1:=by intro b;induction b with|nil=>intro i c h;cases h|cons o os ih=>intro i c h;rcases zh.1 h with rfl|h;{exact zs _};have:=ih _ c h;omega
def XF:∀(b:List bZ)(i:Nat),(mG k i b).length=b.length:=by intro b;induction b with|nil=>intro i;rfl|cons o os ih=>intro i;simp[mG,ih]
def E9{base:Nat}:∀(b:List bZ)(i j:Nat),i<=j->j<i+b.length->∃c∈mG base i b,c.1=j:=by intro b;induction b with|nil=>intro i j g d;simp at d;omega|cons o os ih=>intro i j g d;by_cases h:i=j;{exact ⟨_,zb ..,h⟩};have⟨c,f,e⟩:=ih (i+1) j om (by simp at d;omega);exact ⟨c,ze _ f,e⟩
def NC:∀(b:List bZ)(i:Nat),∀c∈mG k i b,c.2.2=k+c.1/\c.2.1∈b:=by intro b;induction b with|nil=>intro i c h;cases h|cons o os ih=>intro i c h;rcases zh.1 h with rfl|h;{exact ⟨rfl,zb ..⟩};have⟨e,d⟩:=ih _ c h;exact ⟨e,ze _ d⟩
def Fa{ops:Array Oper}:∀(f:List Oper)(d:List bZ)(i:Nat),ops.toList.drop i=f->pg P pf N ops f=zc d->∀g∈mG k i d,∃o,ops[g.1]? = zc o/\tF P pf N ops o=zc g.2.1:=by intro f;induction f with|nil=>intro d i _ hc g b;cases hc;cases b|cons o f ih=>intro d i c hc g b;simp only[pg]at hc;split at hc;{rename_i m h p j;cases hc;have hi:ops[i]? = zc o:=(by have:=aw (λl=>l[0]?) c;simpa [List.getElem?_drop] using this);have e:ops.toList.drop (i+1)=f:=(by have:=aw (List.drop 1) c;simpa [List.drop_drop] using this);rcases zh.1 b with rfl|b;{exact ⟨o,hi,p⟩};exact ih h (i+1) e j g b};cases hc
variable {b:Array Oper}
def Ho:∀(c:List Oper)(i:List bZ),pg P pf N b c=zc i->i.length=c.length:=by intro c;induction c with|nil=>intro i h;cases h;rfl|cons o c ih=>intro i h;simp only[pg]at h;split at h;{rename_i g e f d;cases h;simp[ih _ d]};cases h
variable {c:List Nat}
def Sl{B:Bool}{base:Nat}{p:bZ}:∀(xs:List bZ)(j:Nat),FV B c k p j xs=true->∀i∈mG base j xs,(c.getD i.1 0).testBit k=true\/DS B p i.2.1:=by intro xs;induction xs with|nil=>intro j _ i h;cases h|cons x xs ih=>intro j h i b;simp only[FV,zi,zo]at h;rcases zh.1 b with rfl|b;{rcases h.1 with d|d;{exact .inl d};exact .inr ⟨by simpa [zo] using d.1,G8 d.2⟩};exact ih _ h.2 i b
def TE{B:Bool}:∀(xs:List bZ)(i:Nat),Fw B c i xs=true->(mG k i xs).Pairwise λp x=>((c.getD x.1 0).testBit p.1=true\/DS B p.2.1 x.2.1)/\p.1<x.1:=by intro xs;induction xs with|nil=>intro i _;exact .nil|cons x xs ih=>intro i h;simp only[Fw,zi]at h;refine zk.2 ⟨λd b=>⟨Sl xs _ h.1 d b,?_⟩,ih _ h.2⟩;have:=Fx xs _ d b;simp only;omega
def EI:∀(b:List (List Nat))(i:Nat),Ci i b=true->∀j es,b[j]? = zc es->∀e∈es,e<i+j:=by intro b;induction b with|nil=>intro i _ j es h;simp at h|cons x b ih=>intro i h j es c e he;simp only[Ci,zi,zt,ah]at h;cases j with|zero=>simp at c;subst c;exact h.1 e he|succ j=>have:=ih (i+1) h.2 j es (by simpa using c) e he;omega
def HA:∀(b:List (List Nat))(i:Nat),Cj c i b=true->∀j es,b[j]? = zc es->c.getD (i+j) 0=orF c es:=by intro b;induction b with|nil=>intro i _ j es h;simp at h|cons x b ih=>intro i h j es d;simp only[Cj,zi,beq_iff_eq]at h;cases j with|zero=>simp at d;subst d;exact h.1|succ j=>have:=ih (i+1) h.2 j es (by simpa using d);rw[<- this];congr 1;omega
def Vp{n0:Nat}{id:List bZ}{B:Bool}{Q:Exit->a8->aQ->Prop}{ks:List Nat}(hm:P.follows .mixedOrders=true)(hc:pg P pf N b b.toList=zc id)(q:GP (b.toList.map fg) id B=true)(h:j9 P E B (mG O.aP 0 id) fr { O with aP:=O.aP+id.length } (λfr' O'=>Q .normal (fr'.aT ks) O')):R P E N n0 (.region k b true) fr O Q:=by
 intro hn ro h0 ρ w a hs hf hd hr;refine wpIn_region_any hm ?_;have m:id.length=b.size:=by rw[Ho _ _ hc];simp
 unfold GP at q;simp only[zi,zt]at q;obtain ⟨⟨⟨H,y⟩,u⟩,hq⟩:=q;generalize vw (b.toList.map fg)=ms at y u;have r:∀(j:Nat)(o:Oper),b[j]? = zc o->(b.toList.map fg)[j]? = zc (fg o):=λj o g=>by simp[g]
 have T:∀(o:Oper)(ops:Nat),ops∈fg o->∃e∈o.after,Region.binds .any e=true/\e.on=ops:=λo ops A=>by unfold fg at A;obtain ⟨e,he,rfl⟩:=zj.1 A;have⟨d,J⟩:=z1.1 he;exact ⟨e,by simpa using d,J,rfl⟩
 have F:∀(o:Oper)(e:Edge),e∈o.after->Region.binds .any e=true->e.on∈fg o:=λo e he t=>zj.2 ⟨e,z1.2 ⟨by simpa using he,t⟩,rfl⟩;refine Vo (E:=E) (pf:=pf) (N:=N) (B:=B) (anc:=λops j=>(ms.getD j 0).testBit ops=true) (n0:=n0) (base:=O.aP) (ρ0:=ρ) (w0:=w) (ds:=a.defers) (K:=λfr' O'=>Q .normal (fr'.aT ks) O') ?_ ?_ ?_ ?_ b.size (mG O.aP 0 id) _ fr { O with aP:=O.aP+id.length } ρ w.drew a (by rw[XF,m]) ?_ h (Fb (CX hs) (λi hi=>hs.fresh i om)) (hf.mono (pQ 0)) rfl ((pQ n0).b9 (zs _)) hn (by rw[m];exact zs _) ?_;{intro f f' s U Y;have:f'.aT ks=f.aT ks:=(by unfold a8.aT;exact z0 λops _=>by rw[U ops]);rw[this];exact Y};{intro fr' O' ρ' w' a' S Y M V X L;exact ⟨fr'.aT ks,O',ρ',S,Y,M,V.aT ks,by rw[X];exact hd.mono L,hr.mono L,L⟩};{intro j o g e he t;have:=EI _ _ H j _ (r j o g) _ (F o e he t);have D:j<b.size:=(by rcases zm j b.size with Z|Z;{exact Z};simp[zf Z]at g);omega};{intro ops j A o g;have:=HA _ _ y j _ (r j o g);simp only[qc]at this;rw[this]at A;rcases Iz _ _ A with d|⟨e,he,d⟩;{simp at d};have⟨ed,G,t,W⟩:=T o e he;exact ⟨ed,G,t,by rw[W];exact d⟩};{refine ⟨by simp,λj D=>?_,λI c=>?_,?_,?_⟩;{constructor;{intro _;exact E9 id 0 j (qh _) om};intro _;simp[D]};{have⟨o,d,J⟩:=Fa b.toList id 0 rfl hc I c;have⟨h3,h4⟩:=NC id 0 I c;exact ⟨o,d,J,h3,hq _ h4⟩};{refine (TE id 0 u).imp ?_;intro p x ⟨d,J⟩;refine ⟨d,om,λo g e he t=>?_⟩;have:=EI _ _ H p.1 _ (r p.1 o g) _ (F o e he t);omega};intro j D;exfalso;by_cases z:j<b.size;{simp[z]at D};simp[z]at D};intro I c;exact hs.fresh _ (by rw[(NC id 0 I c).1];omega)
end Go.Id
namespace Go.Id
open Go
variable {P:Program} {w w' w'':World} {ρ ρ' ρ'':bC} {E:Nat->IV} {O O':aQ} {N n n':Nat} {fr:a8} {a:Act} {pf:List Nat}
def IK.cls:IK->Nat|.q u=>(match u.kind with|0=>0|_=>1)|.jW _ _|.jU _ _|.ju _ _ _ _|.ka _=>0|_=>2
variable {b:IK}
def HB(h:b.cls=0):b.kind=0:=by cases b with|q u=>simp only[IK.cls]at h;split at h;{rename_i c;exact c};cases h|jW f xs=>rfl|jU f xs=>rfl|ju _ _ _ _=>rfl|ka _=>rfl|_=>cases h
def ki8(h:b.cls<=1):(∃q,b=.q q)\/b.cls=0:=by cases b with|q u=>exact .inl ⟨u,rfl⟩|jW f xs=>exact .inr rfl|jU f xs=>exact .inr rfl|ju _ _ _ _=>exact .inr rfl|ka _=>exact .inr rfl|_=>simp[IK.cls]at h
variable {i:Nat}
def Dn{K:IV->aQ->Prop}(h:b.cls<=1):fc P E b i fr O K↔∃v,fO P E b i fr O v O/\K v O:=by cases b with|q q=>exact ⟨λ⟨v,h,k⟩=>⟨v,⟨h,rfl⟩,k⟩,λ⟨v,⟨h,_⟩,k⟩=>⟨v,h,k⟩⟩|jW f xs=>exact ⟨λ⟨v,h,k⟩=>⟨v,⟨h,rfl⟩,k⟩,λ⟨v,⟨h,_⟩,k⟩=>⟨v,h,k⟩⟩|jU f xs=>exact ⟨λ⟨v,h,k⟩=>⟨v,⟨h,rfl⟩,k⟩,λ⟨v,⟨h,_⟩,k⟩=>⟨v,h,k⟩⟩|ju e n z ps=>exact ⟨λ⟨c,h,k⟩=>⟨_,⟨c,h,rfl,rfl⟩,k⟩,λ⟨_,⟨c,h,e1,_⟩,k⟩=>by subst e1;exact ⟨c,h,k⟩⟩|ka x=>exact ⟨λ⟨h,k⟩=>⟨_,⟨h,rfl,rfl⟩,k⟩,λ⟨_,⟨h,e1,_⟩,k⟩=>by subst e1;exact ⟨h,k⟩⟩|_=>simp[IK.cls]at h
def ND{v:IV}(c:b.cls<=1)(h:fO P E b i fr O v O'):O'=O:=by cases b with|q q=>exact h.2|jW f xs=>exact h.2|jU f xs=>exact h.2|ju e n z ps=>have⟨_,_,_,h⟩:=h;exact h|ka x=>exact h.2.2|_=>simp[IK.cls]at c
def qG(E:Nat->IV)(fr:a8):IQ->IQ|.load a x=>.load a (.c (x.ev E fr))|.lE t z ok x k=>.lE t z ok (.c (x.ev E fr)) (.c (k.ev E fr))|.len k x=>.len k (.c (x.ev E fr))|q=>q
def XG{q:IQ}(f:a8)(h:q.kind≠0):cJ E f O (qG E fr q)=cJ E fr O q:=by cases q with|load a x=>rfl|lE t z ok x k=>rfl|len k x=>rfl|_=>exact au rfl h
def XH{fr fr':a8}{q:IQ}(h:∀t∈q.ops.flatMap IX.cK,fr.get t=fr'.get t):qG E fr q=qG E fr' q:=by cases q with|load a x=>simp only[qG];rw[dj (x:=x) (λt b=>h t (by simp[IQ.ops,b]))]|lE t z ok x k=>simp only[qG];rw[dj (x:=x) (λt b=>h t (by simp[IQ.ops,b])),dj (x:=k) (λt b=>h t (by simp[IQ.ops,b]))]|len k x=>simp only[qG];rw[dj (x:=x) (λt b=>h t (by simp[IQ.ops,b]))]|_=>rfl
abbrev LE:=Nat×IQ×IV
def dp(E:Nat->IV)(fr:a8)(i:Nat)(op:IK)(v:IV)(L:List LE):List LE :=match op with|.q q=>if q.kind=0 then L else (i,qG E fr q,v)::L|_=>L
variable {L:List LE}
def tE{fr fr':a8}{v:IV}(h:∀t∈b.ops.flatMap IX.cK,fr.get t=fr'.get t):dp E fr i b v L=dp E fr' i b v L:=by cases b with|q q=>simp only[dp];rw[XH (q:=q) (λt c=>h t c)]|_=>rfl
def wU{v:IV}:∀e∈L,e∈dp E fr i b v L:=by intro e he;unfold dp;split;{split;{exact he};exact ze _ he};exact he
def Vq{v:IV}{L':List LE}(h:∀e∈L',e∈L):∀e∈dp E fr i b v L',e∈dp E fr i b v L:=by intro e he;cases b with|q q=>simp only[dp]at he ⊢;by_cases c:q.kind=0;{rw[ab c]at he ⊢;exact h e he};rw[aa c]at he ⊢;rcases zh.1 he with rfl|he;{exact zb ..};exact ze _ (h e he)|_=>exact h e he
def HC{v:IV}(h:¬b.cls<=1):dp E fr i b v L=L:=by cases b with|q q=>exfalso;apply h;simp only[IK.cls];split<;>omega|_=>rfl
def XI{j:Nat}{m:IK}{v d:IV}{fr':a8}(e:LE):e∈dp E fr i b v (dp E fr' j m d L)↔e∈dp E fr' j m d (dp E fr i b v L):=by have c:∀(fr:a8)(i:Nat)(b:IK)(v:IV),(∃x:LE,∀L,dp E fr i b v L=x::L)\/∀L,dp E fr i b v L=L:=(by intro fr i b v;cases b with|q q=>by_cases k:q.kind=0;{exact .inr λL=>by simp only[dp,k,af]};exact .inl ⟨(i,qG E fr q,v),λL=>by simp only[dp,k,ae]⟩|_=>exact .inr λ_=>rfl);rcases c fr i b v with ⟨x,g⟩|g<;>rcases c fr' j m d with ⟨y,f⟩|f<;>simp only[g,f];simp only[zh];constructor;{rintro (h|h|h);{exact .inr (.inl h)};{exact .inl h};exact .inr (.inr h)};rintro (h|h|h);{exact .inr (.inl h)};{exact .inl h};exact .inr (.inr h)
def qQ (E:Nat->IV)(L:List LE)(m:Nat)(O:aQ):Prop:=∀e∈L,m.testBit e.1=true->cJ E [] O e.2.1=zc e.2.2
def EJ:qQ E L 0 O:=λe _ h=>by simp at h
def uF{L':List LE}{m:Nat}(h:∀e∈L',e∈L)(hc:qQ E L m O):qQ E L' m O:=λe he=>hc e (h e he)
abbrev jV:=Nat×bZ×Nat×Nat
def JM(P:Program)(E:Nat->IV)(o:bZ)(id m:Nat)(L:List LE)(fr:a8)(O:aQ)(K:IV->aQ->Prop)(Ks:Prop):Prop :=(iB o fr=zc true/\fc P E o.op id fr O (λv O'=>qQ E L m O'/\K v O'))\/(iB o fr=zc false/\Ks)
def fH(P:Program)(E:Nat->IV):List jV->List LE->a8->aQ->(a8->aQ->Prop)->Prop|[],_,fr,O,K=>K fr O|(i,o,id,m)::rest,L,fr,O,K=>JM P E o id m L fr O (λv O'=>fH P E rest (dp E fr i o.op v L) (fr.bS o.dst v) O' K) (fH P E rest L (fr.bS o.dst eX) O K)
variable {K:a8->aQ->Prop}
def Vr:∀(b:List jV)(L L':List LE)(fr:a8)(O:aQ),(∀e∈L',e∈L)->fH P E b L fr O K->fH P E b L' fr O K:=by intro b;induction b with|nil=>exact λ_ _ _ _ _ h=>h|cons it b ih=>have⟨i,o,id,m⟩:=it;rintro L L' fr O hs (⟨ha,h⟩|⟨ha,h⟩);{exact .inl ⟨ha,ki (λv s ⟨c,k⟩=>⟨uF hs c,ih _ _ _ _ (Vq hs) k⟩) h⟩};exact .inr ⟨ha,ih _ _ _ _ hs h⟩
def qY(e:∀f d s,iQ f d->K f s->K d s):∀(b:List jV)(L:List LE)(fr fr':a8)(O:aQ),iQ fr fr'->fH P E b L fr O K->fH P E b L fr' O K:=by intro b;induction b with|nil=>exact λ_ fr fr' O h k=>e _ _ _ h k|cons it b ih=>have⟨i,o,id,m⟩:=it;rintro L fr fr' O hf (⟨ha,h⟩|⟨ha,h⟩);{refine .inl ⟨by rw[<- pe (λt _=>hf t)];exact ha,ki (λv s ⟨c,k⟩=>⟨c,?_⟩) (NB hf h)⟩;show fH P E b (dp E fr' i o.op v L) _ s K;rw[<- tE (fr:=fr) (λt _=>hf t)];exact ih _ _ _ _ (E7 hf _ _) k};exact .inr ⟨by rw[<- pe (λt _=>hf t)];exact ha,ih _ _ _ _ (E7 hf _ _) h⟩
def TF{e:a8->aQ->Prop}:∀(b:List jV)(L:List LE)(fr:a8)(O:aQ),(∀f s,K f s->e f s)->fH P E b L fr O K->fH P E b L fr O e:=by intro b;induction b with|nil=>exact λ_ _ _ d h=>d _ _ h|cons it b ih=>have⟨i,o,id,m⟩:=it;rintro L fr O d (⟨ha,h⟩|⟨ha,h⟩);{exact .inl ⟨ha,ki (λv s ⟨c,k⟩=>⟨c,ih _ _ _ d k⟩) h⟩};exact .inr ⟨ha,ih _ _ _ d h⟩
def pC(p x:jV):Prop :=pX p.2.1 x.2.1/\(p.2.1.op.cls<=1/\p.2.2.2=0/\(p.2.1.op.cls=0\/x.2.1.op.cls<=1\/x.2.2.2.testBit p.1=true\/nL false p.2.1.op.kind x.2.1.op.kind=true) \/ ¬p.2.1.op.cls<=1/\nL false p.2.1.op.kind x.2.1.op.kind=true/\x.2.2.2=0/\(p.2.2.2=0\/x.2.1.op.cls<=1/\p.2.2.2.testBit x.1=false))
def XJ{m:Nat}{v:IV}(h:qQ E L m O)(c:m.testBit i=false):qQ E (dp E fr i b v L) m O:=by intro e he d;unfold dp at he;split at he;{split at he;{exact h e he d};rcases zh.1 he with rfl|he;{simp only at d;rw[c]at d;cases d};exact h e he d};exact h e he d
theorem Gu {K:a8->aQ->Prop} (hK:∀f f' s,iQ f f'->K f s->K f' s) {ix:Nat} {x:bZ} {kx mx:Nat} {post:List jV} :
  ∀(pre:List jV) (L:List LE) (fr:a8) (O:aQ),(∀p∈pre,pC p (ix,x,kx,mx))->(∀p∈pre,p.2.2.1≠kx/\O.aR p.2.2.1=zn)->(pre.map (·.2.2.1)).Nodup->(pre≠[]->O.aR kx=zn) ->
   (∀p∈pre,p.2.1.op.kind=2->∀y∈x.op.ops,kT p.2.2.1 (y.ev E fr)) ->
   fH P E (pre++(ix,x,kx,mx)::post) L fr O K ->
   JM P E x kx mx L fr O (λv O'=>fH P E (pre++post) (dp E fr ix x.op v L) (fr.bS x.dst v) O' K) (fH P E (pre++post) L (fr.bS x.dst eX) O K):=by
 intro pre
 induction pre with
 | nil=>intro L fr O _ _ _ _ _ h;exact h
 | cons p pre ih=>
  intro L fr O T S bb aZ hH h;obtain ⟨ip,p,kp,mp⟩:=p;obtain ⟨X,an⟩:=T _ (zb ..);obtain ⟨W,ag⟩:=S _ (zb ..);simp only at X an W ag;have Q:=aZ (by simp);have Y:=qi.1 (show (kp::pre.map (·.2.2.1)).Nodup from bb)
  have am:∀b,∀t∈x.cK,(fr.bS p.dst b).get t=fr.get t:=λb t z=>by
   rw[lH,if_neg];intro e;exact X.2 t e z
  have g:∀b,∀t∈x.op.ops.flatMap IX.cK,(fr.bS p.dst b).get t=fr.get t:=λb t z=>am b t (mg z)
  have av:∀d,∀t∈p.cK,fr.get t=(fr.bS x.dst d).get t:=λd t z=>by
   rw[lH,if_neg];intro e;exact (X.1 t e).1 z
  have r:∀d,∀t∈p.op.ops.flatMap IX.cK,fr.get t=(fr.bS x.dst d).get t:=λd t z=>av d t (mg z)
  have G:∀b d,iQ ((fr.bS p.dst b).bS x.dst d) ((fr.bS x.dst d).bS p.dst b):=λb d t=>by
   simp only[lH];by_cases A:x.dst=zc t
   ·have F:p.dst≠zc t:=(X.1 t A).2;simp[A,F]
   ·simp[A]
  have m:∀b ax,iB x (fr.bS p.dst b)=zc ax->iB x fr=zc ax:=λb ax h=>by rw[<- pe (am b)];exact h
  have o:∀ {ap:Bool},iB p fr=zc ap->∀d,iB p (fr.bS x.dst d)=zc ap:=λj d=>by rw[<- pe (av d)];exact j
  -- the rest,at a store where the fresh ones are fresh
  have IH:∀(b:IV) (L1:List LE) (U:aQ),(∀i,i≠kp->O.aR i=zn->U.aR i=zn)->fH P E (pre++(ix,x,kx,mx)::post) L1 (fr.bS p.dst b) U K ->
    JM P E x kx mx L1 (fr.bS p.dst b) U (λv O'=>fH P E (pre++post) (dp E (fr.bS p.dst b) ix x.op v L1) ((fr.bS p.dst b).bS x.dst v) O' K) (fH P E (pre++post) L1 ((fr.bS p.dst b).bS x.dst eX) U K):=by
   intro b L1 U D z
   exact ih L1 (fr.bS p.dst b) U (λq M=>T q (ze _ M))
    (λq M=>⟨(S q (ze _ M)).1,D _ (λe=>Y.1 (by rw[<- e];exact zj.2 ⟨q,M,rfl⟩)) (S q (ze _ M)).2⟩)
    Y.2 (λ_=>D kx (λe=>W e.symm) Q)
    (λq M be y hy=>by
     have:y.ev E (fr.bS p.dst b)=y.ev E fr:=dj λt z=>g b t (z3.2 ⟨y,hy,z⟩)
     rw[this];exact hH q (ze _ M) be y hy) z
  rcases h with ⟨j,hh⟩|⟨j,hh⟩
  ·rcases an with ⟨J,bd,hc⟩|⟨ac,ay,bc,hc⟩
   ·-- p reads at most
    subst bd;obtain ⟨b,V,_,u⟩:=(Dn J).1 hh;have aW:∀ {s:aQ} d,fO P E p.op kp fr s b s->fO P E p.op kp (fr.bS x.dst d) s b s:=λd h=>tD (r d) h
    rcases IH b _ O (λ_ _ h=>h) u with ⟨A,F⟩|⟨A,F⟩
    ·have h3:=xK (g b) F
     have h4:fc P E x.op kx fr O (λv O'=>fO P E p.op kp fr O' b O'/\qQ E L mx O'/\fH P E (pre++post) (dp E (fr.bS p.dst b) ix x.op v (dp E fr ip p.op b L)) ((fr.bS p.dst b).bS x.dst v) O' K):=by
      rcases hc with c0|cx|cm|ck
      ·exact ki (λv s ⟨c,k⟩=>⟨(CZ (HB c0) V).2 s,uF wU c,k⟩) h3
      ·obtain ⟨d,e1,c,k⟩:=(Dn cx).1 h3;exact (Dn cx).2 ⟨d,e1,V,uF wU c,k⟩
      ·rcases ki8 J with ⟨q,M⟩|c0
       ·by_cases ak:q.kind=0
        ·have c0:p.op.cls=0:=by rw[M];simp only[IK.cls,ak]
         exact ki (λv s ⟨c,k⟩=>⟨(CZ (HB c0) V).2 s,uF wU c,k⟩) h3
        ·refine ki (λv s ⟨c,k⟩=>⟨?_,uF wU c,k⟩) h3;rw[M];refine ⟨?_,rfl⟩
         have ad:(ip,qG E fr q,b)∈dp E fr ip p.op b L:=by
          rw[M];simp only[dp,ak,if_false];exact zb ..
         have:=c _ ad cm;rw[XG _ ak] at this;exact this
       ·exact ki (λv s ⟨c,k⟩=>⟨(CZ (HB c0) V).2 s,uF wU c,k⟩) h3
      ·obtain ⟨I,H⟩:=E8 ck;obtain ⟨d,O2,e1,c,k⟩:=(pU H).1 h3;have bi:fO P E x.op kx (fr.bS p.dst b) O d O2:=tD (λt z=>(g b t z).symm) e1;obtain ⟨al,s1,_,s3,_⟩:=HW (B:=false) V (λh=>by cases h) bi (λh=>by cases h) ck (g b) (r d) W ag Q (hH _ (zb ..));have hs:O2=al:=ND J s3;subst hs;exact (pU H).2 ⟨d,O2,s1,tD (λt z=>(r d t z).symm) s3,uF wU c,k⟩
     refine .inl ⟨m _ _ A,ki (λv s ⟨bh,c,k⟩=>⟨c,?_⟩) h4⟩;refine .inl ⟨o j v,(Dn J).2 ⟨b,aW v bh,EJ,?_⟩⟩;rw[tE (fr':=fr) (g b)] at k;have k2:=qY hK _ _ _ _ _ (G b v) k;show fH P E (pre++post) (dp E (fr.bS x.dst v) ip p.op b (dp E fr ix x.op v L)) _ s K;rw[<- tE (fr:=fr) (r v)];exact Vr _ _ _ _ _ (λe he=>(XI e).1 he) k2
    ·refine .inr ⟨m _ _ A,.inl ⟨o j eX,(Dn J).2 ⟨b,aW eX V,EJ,?_⟩⟩⟩;show fH P E (pre++post) (dp E (fr.bS x.dst eX) ip p.op b L) _ O K;rw[<- tE (fr:=fr) (r eX)];exact qY hK _ _ _ _ _ (G b eX) F
   ·-- p writes,or cc
    obtain ⟨I,H⟩:=E8 ay;obtain ⟨b,U,V,Z,u⟩:=(pU I).1 hh;subst bc;rw[HC ac] at u;rcases IH b _ U (λi hi h0=>Lz I hi V h0) u with ⟨A,F⟩|⟨A,F⟩
    ·obtain ⟨d,O2,e1,_,k⟩:=(pU H).1 F;obtain ⟨al,s1,_,s3,_⟩:=HW (B:=false) V (λh=>by cases h) e1 (λh=>by cases h) ay (g b) (r d) W ag Q (hH _ (zb ..));refine .inl ⟨m _ _ A,(pU H).2 ⟨d,al,s1,EJ,.inl ⟨o j d,(pU I).2 ⟨b,O2,s3,?_,?_⟩⟩⟩⟩
     ·rcases hc with h0|⟨cx,hb⟩
      ·subst h0;exact EJ
      ·have hs:O2=U:=ND cx e1;subst hs;exact XJ Z hb
     ·show fH P E (pre++post) (dp E _ ip p.op b (dp E fr ix x.op d L)) _ O2 K;rw[HC ac];rw[tE (fr':=fr) (g b)] at k;exact qY hK _ _ _ _ _ (G b d) k
    ·refine .inr ⟨m _ _ A,.inl ⟨o j eX,(pU I).2 ⟨b,U,tD (r eX) V,Z,?_⟩⟩⟩;show fH P E (pre++post) (dp E _ ip p.op b L) _ U K;rw[HC ac];exact qY hK _ _ _ _ _ (G b eX) F
  ·rcases IH eX L O (λ_ _ h=>h) hh with ⟨A,F⟩|⟨A,F⟩
   ·refine .inl ⟨m _ _ A,ki (λv s ⟨c,k⟩=>⟨c,?_⟩) (xK (g eX) F)⟩;refine .inr ⟨o j v,?_⟩;replace k:fH P E (pre++post) (dp E (fr.bS p.dst eX) ix x.op v L) ((fr.bS p.dst eX).bS x.dst v) s K:=k;rw[tE (fr':=fr) (g eX)] at k;exact qY hK _ _ _ _ _ (G eX v) k
   ·exact .inr ⟨m _ _ A,.inr ⟨o j eX,qY hK _ _ _ _ _ (G eX eX) F⟩⟩
end Go.Id
namespace Go.Id
open Go
variable {P:Program} {w w' w'':World} {ρ ρ' ρ'':bC} {E:Nat->IV} {O O':aQ} {N n n':Nat} {fr:a8} {a:Act} {pf:List Nat}
structure QB (P:Program) (pf:List Nat) (N:Nat) (ops:Array Oper) (anc:Nat->Nat->Prop) (base:Nat) (rem:List jV) (listed:Array Bool):Prop where
 size:listed.size=ops.size
 un:∀j,j<ops.size->(listed.getD j true=false↔∃it∈rem,it.1=j)
 dg:∀it∈rem,∃o,ops[it.1]? = zc o/\tF P pf N ops o=zc it.2.1/\it.2.2.1=base+it.1/\∀y∈it.2.1.op.ops,IX.quiet y=true
 pw:rem.Pairwise λp x=>(anc p.1 x.1\/pC p x)/\p.1≠x.1/\∀o,ops[p.1]? = zc o->∀e∈o.after,Region.binds .any e=true->e.on≠x.1
 dc:∀j,listed.getD j false=true->∀k,anc k j->listed.getD k false=true
def KG{ops:Array Oper}{anc:Nat->Nat->Prop}{n0 base:Nat}{ro:Option Nat}{Qw:Exit->Act->World->Prop}{K:a8->aQ->Prop}{ρ0:bC}{w0:World}{ds:List Deferred}(cg:∀f f' s,iQ f f'->K f s->K f' s)(bb:∀fr O ρ w a,n0<=O.aP->K fr O->bF E ρ w O->FR ρ w N fr a.tmps->a.defers=ds->dG n0 ρ0 w0 ρ w->Qw .normal a w)(ce:∀j o,ops[j]? = zc o->∀e∈o.after,Region.binds .any e=true->e.on<ops.size/\e.on≠j)(am:∀k j,anc k j->∀o,ops[j]? = zc o->∃e∈o.after,Region.binds .any e=true/\(e.on=k\/anc k e.on)): ∀(m:Nat)(z:List jV)(L:List LE)(b:Array Bool)(fr:a8)(O:aQ)(ρ:bC)(w:World)(a:Act),z.length=m->QB P pf N ops anc base z b->fH P E z L fr O K -> bF E ρ w O->FR ρ w N fr a.tmps->a.defers=ds->dG n0 ρ0 w0 ρ w->n0<=base->base+ops.size<=O.aP->(∀c∈z,ρ c.2.2.1=.no) -> wpAnyIn (fw ro) 0 P .any ops Qw m b a w:=by intro m;induction m with|zero=>intro z L b fr O ρ w a G g h hs hf hd hx aW bm F;have:z=[]:=z8.1 G;subst this;refine ⟨?_,bb fr O ρ w a om h hs hf hd hx⟩;rw[z4];intro j Y;have⟨h0,_⟩:=mem_ready.1 Y;have⟨c,D,_⟩:=(g.un j (by rw[<- g.size];exact fj h0)).1 h0;cases D|succ m ih=>
 intro z L b fr O ρ w a G g h hs hf hd hx aW bm F;refine ⟨λbc=>?_,λi hi=>?_⟩;{exfalso;cases z with|nil=>cases G|cons c z=>have⟨o,W,hc,ci,_⟩:=g.dg c (zb ..);have aZ:c.1<ops.size:=(by rcases zm c.1 ops.size with U|U;{exact U};simp[zf U]at W);have:c.1∈Region.ready .any ops b:=(by refine mem_ready.2 ⟨(g.un _ aZ).2 ⟨c,zb ..,rfl⟩,o,W,λe he hb=>?_⟩;have⟨t,h2⟩:=ce _ o W e he hb;have Y:e.on<b.size:=(by rw[g.size];exact t);by_cases hL:b.getD e.on true=false;{have⟨V,A,bp⟩:=(g.un _ t).1 hL;rcases zh.1 A with rfl|A;{exact au bp.symm h2};exact au bp.symm (((zk.1 g.pw).1 V A).2.2 o W e he hb)};simp[Y]at hL ⊢;exact hL);rw[bc]at this;cases this};have⟨h0,o,W,an⟩:=mem_ready.1 hi;have aZ:i<ops.size:=by rw[<- g.size];exact fj h0
 have⟨c,D,bq⟩:=(g.un i aZ).1 h0;obtain ⟨pre,post,rfl⟩:=zx D;have⟨ix,x,kx,mx⟩:=c;simp only at bq;subst bq;have⟨o',ax,hc,X,bl⟩:=g.dg _ D;simp only at ax hc X bl;rw[W]at ax;cases ax;have⟨bP,bx,ac⟩:=zu.1 g.pw;have bd:=λp B=>ac p B _ (zb ..);have J:∀p∈pre,b.getD p.1 false≠true:=λp B hL=>by have⟨op,av,_⟩:=g.dg p (za _ B);have bY:p.1<ops.size:=(by rcases zm p.1 ops.size with U|U;{exact U};simp[zf U]at av);have:=(g.un p.1 bY).2 ⟨p,za _ B,rfl⟩;rw[Fv hL]at this;cases this
 have ak:∀p∈pre,pC p (ix,x,kx,mx):=λp B=>by rcases (bd p B).1 with ha|hf;{exfalso;have⟨e,he,hb,T⟩:=am _ _ ha o W;have Q:=an e he hb;rcases T with T|be;{exact J p B (by rw[<- T];exact Q)};exact J p B (g.dc _ Q _ be)};exact hf
 have S:∀p∈pre,p.2.2.1=base+p.1:=λp B=>by have⟨_,_,_,t,_⟩:=g.dg p (za _ B);exact t
 have I:=Gu (P:=P) (E:=E) (K:=K) cg (ix:=ix) (x:=x) (kx:=kx) (mx:=mx) (post:=post) pre L fr O ak (λp B=>⟨by rw[S p B,X];have:=(bd p B).2.1;omega,hs.eI _ (F p (za _ B))⟩) (by rw[zp,zy];refine (z5.and_mem.1 bP).imp ?_;intro p q ⟨B,hq,t⟩;rw[S p B,S q hq];have:=t.2.1;omega) (λ_=>hs.eI _ (F _ D)) (λp B _ y hy=>IX.Ei (bl y hy) hs hf (F p (za _ B))) h;have⟨⟨fz,hk⟩,al,bt,hg⟩:=wg hc;have ag:kx<O.aP/\n0<=kx:=by rw[X];omega
 have u:∀c∈pre++post,c∈pre++(ix,x,kx,mx)::post:=λc h=>by rcases zg.1 h with h|h;{exact za _ h};exact zl _ (ze _ h)
 have bn:∀c∈pre++post,c.1≠ix:=λc h=>by rcases zg.1 h with h|h;{exact (bd c h).2.1};exact λe=>((zk.1 bx).1 c h).2.1 e.symm
 have ad:QB P pf N ops anc base (pre++post) (b.setIfInBounds ix true):=by refine ⟨by simp[g.size],λj Y=>?_,λc D=>g.dg c (u c D),?_,?_⟩;{by_cases H:j=ix;{subst H;have:j<b.size:=(by rw[g.size];exact Y);constructor;{intro h;simp[this]at h};rintro ⟨c,t,h2⟩;exact au h2 (bn c t)};rw[getD_set_ne true (Ne.symm H),g.un j Y];constructor;{rintro ⟨c,t,h2⟩;refine ⟨c,?_,h2⟩;rcases zg.1 t with t|t;{exact za _ t};rcases zh.1 t with rfl|t;{exact au h2.symm H};exact zl _ t};rintro ⟨c,t,h2⟩;exact ⟨c,u c t,h2⟩};{exact g.pw.sublist (zv.append (zv.refl _) (zw _ _))};intro j Y k hk;by_cases H:j=ix;{subst H;have⟨e,he,hb,T⟩:=am _ _ hk o W;have Q:=an e he hb;rcases T with rfl|be;{exact getD_set_true Q};exact getD_set_true (g.dc _ Q _ be)};rw[getD_set_ne false (Ne.symm H)]at Y;exact getD_set_true (g.dc _ Y _ hk)
 have M:(pre++post).length=m:=by simp at G ⊢;omega
 have aR:∀c∈pre++post,c.2.2.1≠kx:=λc h=>by have⟨_,_,_,t,_⟩:=g.dg c (u c h);rw[t,X];have:=bn c h;omega
 unfold wpOpIn;simp only[W];have bh:fc P E x.op kx fr O (λv O'=>qQ E L mx O'/\fH P E (pre++post) (dp E fr ix x.op v L) (fr.bS x.dst v) O' K)->o.wpIn (fw ro) 0 P a w (wpAnyIn (fw ro) 0 P .any ops Qw m (b.setIfInBounds ix true)) Qw:=by intro av;refine C0 hk av hs hf om (λhl=>⟨F _ D,ag.1,ag.2⟩) ?_;intro v O' r ρ' w' ca hK bA bz bi ay;refine ih (pre++post) _ _ _ O' ρ' w' (a.put o.dst r) M ad hK.2 bA ?_ (by rw[put_defers];exact hd) (hx.trans (bi.b9 (zs _))) aW om ?_;{rw[al];exact FR.bS (hf.mono bi) bt bz};intro V A;have⟨jo,cb,_,t,_⟩:=g.dg V (u V A);have ch:V.1<ops.size:=(by rcases zm V.1 ops.size with U|U;{exact U};simp[zf U]at cb);exact ay _ (by rw[t];omega) (λ_=>aR V A) (F _ (u V A))
 rcases hg with ⟨ap,Z⟩|⟨j,bv,s,ap,bs,Z⟩;{have hw:Region.wanted o (yielded ops a.tmps)=true:=(by unfold Region.wanted;rw[ap]);rw[ab hw];rcases I with ⟨d,hh⟩|⟨d,hh⟩;{exact bh hh};simp[iB,Z]at d};rcases I with ⟨d,hh⟩|⟨d,hh⟩;{simp only[iB,Z]at d;have hw:=tm ap bs hf d;rw[hw];exact bh hh};simp only[iB,Z]at d;have hw:=tm ap bs hf d;rw[hw];refine ⟨λf _=>trivial,?_⟩;exact ih (pre++post) _ _ _ O ρ w (a.put o.dst undef) M ad hh hs (by rw[al];exact FR.bS hf bt DB) (by rw[put_defers];exact hd) hx aW bm (λV A=>F _ (u V A))
abbrev YO:=Nat×bZ×Nat
def m7 (base:Nat)(l:List YO):List jV:=l.map λy=>(y.1,y.2.1,base+y.1,y.2.2)
def FW(p x:YO):Bool :=Dx p.2.1 x.2.1&&((decide (p.2.1.op.cls<=1)&&p.2.2==0&&(p.2.1.op.cls==0||decide (x.2.1.op.cls<=1)||x.2.2.testBit p.1||nL false p.2.1.op.kind x.2.1.op.kind)) ||(!decide (p.2.1.op.cls<=1)&&nL false p.2.1.op.kind x.2.1.op.kind&&x.2.2==0&&(p.2.2==0||decide (x.2.1.op.cls<=1)&&!p.2.2.testBit x.1)))
def Ke{p x:YO}{a b:Nat}(h:FW p x=true):pC (p.1,p.2.1,a,p.2.2) (x.1,x.2.1,b,x.2.2):=by unfold FW at h;simp only[zi,zo,ah,beq_iff_eq,qm,ar]at h;refine ⟨G8 h.1,?_⟩;rcases h.2 with ⟨⟨e,d⟩,c⟩|⟨⟨⟨e,d⟩,c⟩,f⟩;{refine .inl ⟨e,d,?_⟩;rcases c with ((c|c)|c)|c;{exact .inl c};{exact .inr (.inl c)};{exact .inr (.inr (.inl c))};exact .inr (.inr (.inr c))};exact .inr ⟨e,d,c,f⟩
def FX(ess:List (List Nat))(ms:List Nat):List YO->Bool|[]=>true|p::xs=>xs.all (λx=>((ms.getD x.1 0).testBit p.1||FW p x)&&p.1 != x.1&&!(ess.getD p.1 []).contains x.1)&&FX ess ms xs
def Sm{c:List (List Nat)}{ms:List Nat}{base:Nat}:∀l:List YO,FX c ms l=true->(m7 base l).Pairwise λp x=>((ms.getD x.1 0).testBit p.1=true\/pC p x)/\p.1≠x.1/\x.1 ∉ c.getD p.1 []:=by intro l;induction l with|nil=>intro _;exact .nil|cons p xs ih=>intro h;simp only[FX,zi,zt]at h;refine zk.2 ⟨λi d=>?_,ih h.2⟩;obtain ⟨x,e,rfl⟩:=zj.1 d;have⟨⟨b,g⟩,f⟩:=h.1 x e;refine ⟨?_,by simpa using g,by simpa using f⟩;rw[zo]at b;rcases b with b|b;{exact .inl b};exact .inr (Ke b)
def m8 (ios:List bZ)(l:List (Nat×Nat)):List YO:=l.map λq=>(q.1,ios.getD q.1 default,q.2)
def yOK(ess:List (List Nat))(ios:List bZ)(l:List (Nat×Nat)):Bool :=let ms:=vw ess;Ci 0 ess&&Cj ms 0 ess&&FX ess ms (m8 ios l)&&(ios.all λo=>o.op.ops.all IX.quiet) && l.all (λq=>decide (q.1<ios.length))&&(z9 ios.length).all (λj=>l.any λq=>q.1==j)&&l.length==ios.length
def Vs{n0 id:Nat}{ops:Array Oper}{b:List bZ}{l:List (Nat×Nat)}{Q:Exit->a8->aQ->Prop}{ks:List Nat}(hm:P.follows .mixedOrders=true)(hc:pg P pf N ops ops.toList=zc b)(B:yOK (ops.toList.map fg) b l=true)(h:fH P E (m7 O.aP (m8 b l)) [] fr { O with aP:=O.aP+l.length } (λfr' O'=>Q .normal (fr'.aT ks) O')):R P E N n0 (.region id ops true) fr O Q:=by
 intro hn ro h0 ρ w a hs hf Z hr;refine wpIn_region_any hm ?_;have m:b.length=ops.size:=by rw[Ho _ _ hc];simp
 unfold yOK at B;simp only[zi,zt,beq_iff_eq,ah]at B;obtain ⟨⟨⟨⟨⟨⟨am,L⟩,J⟩,hq⟩,u⟩,X⟩,M⟩:=B;generalize vw (ops.toList.map fg)=ms at L J;have D:∀(j:Nat)(o:Oper),ops[j]? = zc o->(ops.toList.map fg)[j]? = zc (fg o):=λj o z=>by simp[z]
 have ag:∀(o:Oper)(k:Nat),k∈fg o->∃e∈o.after,Region.binds .any e=true/\e.on=k:=λo k S=>by unfold fg at S;obtain ⟨e,he,rfl⟩:=zj.1 S;have⟨t,H⟩:=z1.1 he;exact ⟨e,by simpa using t,H,rfl⟩
 have V:∀(o:Oper)(e:Edge),e∈o.after->Region.binds .any e=true->e.on∈fg o:=λo e he G=>zj.2 ⟨e,z1.2 ⟨by simpa using he,G⟩,rfl⟩;have g:∀c∈m7 O.aP (m8 b l),∃q∈l,c=(q.1,b.getD q.1 default,O.aP+q.1,q.2):=λc r=>by obtain ⟨y,hy,rfl⟩:=zj.1 r;obtain ⟨q,d,rfl⟩:=zj.1 hy;exact ⟨q,d,rfl⟩
 refine KG (E:=E) (pf:=pf) (N:=N) (anc:=λk j=>(ms.getD j 0).testBit k=true) (n0:=n0) (base:=O.aP) (ρ0:=ρ) (w0:=w) (ds:=a.defers) (K:=λfr' O'=>Q .normal (fr'.aT ks) O') ?_ ?_ ?_ ?_ ops.size (m7 O.aP (m8 b l)) [] _ fr { O with aP:=O.aP+l.length } ρ w.drew a (by simp[m7,m8,M,m]) ?_ h (Fb (CX hs) (λi hi=>hs.fresh i om)) (hf.mono (pQ 0)) rfl ((pQ n0).b9 (zs _)) hn (by rw[M,m];exact zs _) ?_;{intro f f' s ak hK;have:f'.aT ks=f.aT ks:=(by unfold a8.aT;exact z0 λk _=>by rw[ak k]);rw[this];exact hK};{intro fr' O' ρ' w' a' ad hK ac al an hx;exact ⟨fr'.aT ks,O',ρ',ad,hK,ac,al.aT ks,by rw[an];exact Z.mono hx,hr.mono hx,hx⟩};{intro j o z e he G;have:=EI _ _ am j _ (D j o z) _ (V o e he G);have I:j<ops.size:=(by rcases zm j ops.size with h'|h';{exact h'};simp[zf h']at z);omega};{intro k j S o z;have:=HA _ _ L j _ (D j o z);simp only[qc]at this;rw[this]at S;rcases Iz _ _ S with t|⟨e,he,t⟩;{simp at t};have⟨ed,W,G,F⟩:=ag o e he;exact ⟨ed,W,G,by rw[F];exact t⟩};{refine ⟨by simp,λj I=>?_,λc r=>?_,?_,?_⟩;{constructor;{intro _;have:=X j (by simp[qa,m,I]);have⟨q,d,he⟩:=qe.1 this;have he:q.1=j:=(by simpa using he);exact ⟨(q.1,b.getD q.1 default,O.aP+q.1,q.2),zj.2 ⟨_,zj.2 ⟨q,d,rfl⟩,rfl⟩,he⟩};intro _;simp[I]};{obtain ⟨q,d,rfl⟩:=g c r;have av:=u q d;have ap:q.1<ops.size:=om;have⟨Y,T,U⟩:=E9 (base:=O.aP) b 0 q.1 (qh _) om;have⟨o,t,H⟩:=Fa ops.toList b 0 rfl hc Y T;have A:b[q.1]? = zc Y.2.1:=(by have:∀(b:List bZ)(i:Nat),∀c∈mG O.aP i b,b[c.1-i]? = zc c.2.1:=(by intro b;induction b with|nil=>intro i c h;cases h|cons o os ih=>intro i c h;rcases zh.1 h with rfl|h;{simp};have t:=Fx os _ c h;have H:=ih _ c h;rw[show c.1-i=(c.1-(i+1))+1 from by omega];simpa using H);have:=this b 0 Y T;rw[U]at this;simpa using this);have Z:b.getD q.1 default=Y.2.1:=(by simp[zq,A]);rw[U]at t;refine ⟨o,t,by simp only[Z];exact H,rfl,?_⟩;simp only[Z];exact hq _ (ql A)};{refine (Sm (base:=O.aP) _ J).imp ?_;intro p x ⟨t,H,h3⟩;refine ⟨t,H,λo z e he G F=>h3 ?_⟩;have:(ops.toList.map fg).getD p.1 []=fg o:=(by rw[zq,D p.1 o z];rfl);rw[this,<- F];exact V o e he G};intro j I;exfalso;by_cases u:j<ops.size;{simp[u]at I};simp[u]at I};intro c r;obtain ⟨q,d,rfl⟩:=g c r;exact hs.fresh _ (by show O.aP<=O.aP+q.1;omega)
def ON (ess:List (List Nat))(done:List Nat)(j:Nat):Bool:=(ess.getD j []).all λe=>done.contains e
def lc9(ess:List (List Nat))(ios:List bZ)(done:List Nat):Option Nat :=match (z9 ios.length).find? (λj=>!done.contains j&&ON ess done j&&decide ((ios.getD j default).op.cls<=1))with|some j=>zc j|none=>(z9 ios.length).find? λj=>!done.contains j&&ON ess done j
def OO(ess:List (List Nat))(ios:List bZ):Nat->List Nat->List Nat|0,done=>done|n+1,done=>match lc9 ess ios done with|some j=>OO ess ios n (done++[j])|none=>done
def Jm(ms:List Nat)(ios:List bZ)(j:Nat):List Nat->Nat|[]=>0|p::ps=>if (ios.getD p default).op.cls=1&&!(ms.getD j 0).testBit p&&!nL false (ios.getD p default).op.kind (ios.getD j default).op.kind then 2^p |||Jm ms ios j ps else Jm ms ios j ps
def OP(ms:List Nat)(ios:List bZ):List Nat->List Nat->List (Nat×Nat)|_,[]=>[]|ahead,j::js=>(j,if (ios.getD j default).op.cls<=1 then 0 else Jm ms ios j ahead)::OP ms ios (j::ahead) js
def vz (ess:List (List Nat))(ios:List bZ):List (Nat×Nat):=OP (vw ess) ios [] (OO ess ios ios.length [])
end Go.Id
namespace Go.Id
open Go
variable {P:Program} {w w' w'':World} {ρ ρ' ρ'':bC} {E:Nat->IV} {O O':aQ} {N n n':Nat} {fr:a8} {a:Act} {pf:List Nat}
structure ua (ρ:bC) (w:World) (ρ':bC) (w':World):Prop where
 at_:∀i B d,ρ i=.at B d->ρ' i=.at B d
 dead:∀i,ρ i=.dead->ρ' i=.dead
 fb:∀b,FB ρ w b->FB ρ' w' b
 heap:∀b,b<w.heap.size->w'.heap[b]? = w.heap[b]?
variable {B:Nat}
def ua.some{o:Obj}(h:ua ρ w ρ' w')(c:w.heap[B]? = zc o):w'.heap[B]? = zc o:=by rw[h.heap B (z7.1 c).1];exact c
variable {b:Nat}
def ua.cell(h:ua ρ w ρ' w')(c:FB ρ w B):w'.cell? ⟨B,b,zn⟩=w.cell? ⟨B,b,zn⟩:=by unfold World.cell?;rw[h.heap B c.1]
def VR.mY(h:ua ρ w ρ' w'){v:IV}{r:Value}(f:VR ρ w v r):VR ρ' w' v r:=by induction f with|undef r=>exact .undef r|bool b=>exact .bool b|int k n=>exact .int k n|str s=>exact .str s|ee=>exact .ee|ptr id off B d hi=>exact .ptr id off B d (h.at_ _ _ _ hi)|iK id off ad hi=>exact .iK id off ad (h.dead id hi)|bd cs b o vs hf hc _ ih=>exact .bd cs b o vs (h.fb _ hf) (λj e=>by rw[h.cell hf];exact hc j e) ih|bc=>exact .bc|cw a=>exact .cw a|dN a cap=>exact .dN a cap|slice id off len esz B d cap rcs el fz hi hb hsz hle=>exact .slice id off len esz B d cap rcs el fz (h.at_ _ _ _ hi) (h.some hb) hsz hle|fC id off esz B d a hi=>exact .fC id off esz B d a (h.at_ _ _ _ hi)|fD id off len esz cap ad hi hle=>exact .fD id off len esz cap ad (h.dead id hi) hle|eg id off len esz B d rcs el fz hi hb hsz=>exact .eg id off len esz B d rcs el fz (h.at_ _ _ _ hi) (h.some hb) hsz|kq id off len esz ad hi=>exact .kq id off len esz ad (h.dead id hi)|eD id off len room esz B d cap rcs el fz hi hb hsz hle hr=>exact .eD id off len room esz B d cap rcs el fz (h.at_ _ _ _ hi) (h.some hb) hsz hle hr|kQ id off len room esz cap ad hi hle hr=>exact .kQ id off len room esz cap ad (h.dead id hi) hle hr|aW es b o cap esz sp vs hf hsz hc _ hle ih=>refine .aW es b o cap esz sp vs (λc=>⟨h.fb _ (hf c).1,(hf c).2⟩) hsz (λi hi j e=>?_) ih hle;rw[h.cell (hf (by intro h0;subst h0;simp at hi)).1];exact hc i hi j e|gA=>exact .gA|fM=>exact .fM|map id B d hi=>exact .map id B d (h.at_ _ _ _ hi)|fl id B hi=>exact .fl id B (h.dead id hi)|bY es es' b mes clock hp hd hf hb hl _ _ h4 h5 ihk ihv=>exact .bY es es' b mes clock hp hd (h.fb _ hf) (h.some hb) hl ihk ihv h4 h5|func fn first cap rf rc hy h1 h2 _ _ ihf ihc=>exact .func fn first cap rf rc hy h1 h2 ihf ihc|yield id B d hi=>exact .yield id B d (h.at_ _ _ _ hi)|lK id B hi=>exact .lK id B (h.dead id hi)|gL=>exact .gL|iface t v r _ ih=>exact .iface t v r ih|iG=>exact .iG|agg cs rs hl _ ih=>exact .agg cs rs hl ih|tuple cs rs hl _ ih=>exact .tuple cs rs hl ih
def OR.mY{o:bU}(h:ua ρ w ρ' w')(j:OR ρ w B b o):OR ρ' w' B b o:=by have q:∀cs,iW ρ w B b cs->iW ρ' w' B b cs:=λcs ⟨x,el,m,k,f⟩=>⟨x,el,h.some m,k,λi hi=>(f i hi).mY h⟩;cases o with|cells cs=>exact q cs j|row cs=>exact q cs j|map es=>have⟨g,d,m,h0,k,f,u,r⟩:=j;exact ⟨g,d,h.some m,h0,k,λi hi=>⟨(f i hi).1.mY h,(f i hi).2.mY h⟩,u,r⟩|jG s pos=>exact ⟨h.some j.1,j.2⟩|loop N tmps params assign body st pend=>have⟨z,l,m,k,f,u,r,F,D,A⟩:=j;exact ⟨z,l,h.some m,k,f,u,r,F,D,λt=>(A t).mY h⟩|fJ left cur=>have⟨z,H,last,p,g,d,y,m,k,f,u,r,F,D,A,hc,G⟩:=j;exact ⟨z,H,last,p,g,d,y,h.some m,h.fb _ k,h.some f,u,r,F,D,A,λc e=>let ⟨i,g1,g2,g3,g4⟩:=hc c e;⟨i,g1,g2,g3.mY h,g4.mY h⟩,λi hi=>⟨(G i hi).1.mY h,(G i hi).2.mY h⟩⟩
def bC.lock (ρ:bC)(B:Nat):bC:=⟨ρ.map,λb=>ρ.X b\/b=B⟩
def bC.free (ρ:bC)(B k:Nat):bC:=⟨(ρ.put k (.at B 0)).map,λb=>ρ.X b/\b≠B⟩
def HD (o:Obj):ua ρ w (ρ.lock w.heap.size) (w.alloc o) where
 at_:=λ_ _ _ h=>h
 dead:=λ_ h=>h
 fb:=λb c=>⟨by show b<(w.heap.push o).size;rw[qf];have:=c.1;omega,c.2,λd=>d.elim c.3 λe=>by have:=c.1;omega⟩
 heap:=λb c=>su w o b c
def XK (o:Obj)(hs:bF E ρ w O):bF E (ρ.lock w.heap.size) (w.alloc o) O where
 inj:=hs.inj
 lt:=λi B d h=>by have:=hs.lt i B d h;show B<(w.heap.push o).size;rw[qf];omega
 aR:=λi B d h=>let ⟨o',h1,h2⟩:=hs.aR i B d h;⟨o',h1,h2.mY (HD o)⟩
 dead:=hs.dead
 fresh:=hs.fresh
 eI:=hs.eI
 env:=λg=>(hs.env g).mY (HD o)
 nx:=λi B d h c=>c.elim (hs.nx i B d h) λe=>by have:=hs.lt i B d h;omega
 gh:=λb c=>by
  show b<(w.heap.push o).size;rw[qf];rcases c with c|rfl
  .have:=hs.gh b c;omega
  .omega
def LC(c:ρ b=.no)(o:∀i d,ρ i≠.at B d)(m:ρ.X B):ua ρ w (ρ.free B b) w where
 at_:=λi p d h=>by
  show (if i=b then _ else ρ i)=_;rw[aa (λe=>by subst e;rw[c] at h;cases h)];exact h
 dead:=λi h=>by
  show (if i=b then _ else ρ i)=_;rw[aa (λe=>by subst e;rw[c] at h;cases h)];exact h
 fb:=λk f=>by
  have g:k≠B:=λe=>by subst e;exact f.3 m
  refine ⟨f.1,λi d hi=>?_,λj=>f.3 j.1⟩;replace hi:(if i=b then jK.at B 0 else ρ i)=.at k d:=hi;split at hi
  .cases hi;exact g rfl
  .exact f.2 i d hi
 heap:=λ_ _=>rfl
def XL{z:List IV}{c:Array Value}{el:TypeId}(hs:bF E ρ w O)(r:ρ b=.no)(D:b<O.aP)(s:∀i d,ρ i≠.at B d)(F:ρ.X B)(q:w.heap[B]? = zc (.cells c el (0,0)))(hc:∀(ρ:bC)(w:World),CR ρ w z c):bF E (ρ.free B b) w (O.put b (.cells z)):=by have x:=LC (w:=w) r s F;have f:∀i,(ρ.free B b) i=if i=b then jK.at B 0 else ρ i:=λi=>rfl;refine ⟨?_,?_,?_,?_,?_,?_,λg=>(hs.env g).mY x,?_,λk q=>hs.gh k q.1⟩;{intro i j m A y hi e;rw[f]at hi e;split at hi<;>split at e;{rename_i u t;rw[u,t]};{cases hi;exact au e (s j y)};{cases e;exact au hi (s i A)};exact hs.inj i j m A y hi e};{intro i m d hi;rw[f]at hi;split at hi;{cases hi;exact (z7.1 q).1};exact hs.lt i m d hi};{intro i m d hi;rw[f]at hi;simp only[aQ.put];split at hi;{rename_i h;cases hi;refine ⟨.cells z,by simp[h],c,el,q,by have:=(hc ρ w).1;omega,λj e=>?_⟩;rw[qc];exact (hc _ _).2 j e};rename_i h;have⟨o,u,t⟩:=hs.aR i m d hi;exact ⟨o,by simp[h,u],t.mY x⟩};{intro i hi;rw[f]at hi;simp only[aQ.put];split at hi;{cases hi};rename_i h;simp[h,hs.dead i hi]};{intro i hi;rw[f,aa (by have:O.aP<=i:=hi;omega)];exact hs.fresh i hi};{intro i hi;rw[f]at hi;simp only[aQ.put];split at hi;{cases hi};rename_i h;simp[h,hs.eI i hi]};intro i m d hi p;rw[f]at hi;split at hi;{cases hi;exact p.2 rfl};exact hs.nx i m d hi p.1
def Vt{t:TypeId}{z:List IV}(h:jm P t=zc z):∃zr,(∀w,(zeroValue t).run P w=.ok zr w)/\∀(ρ:bC)(w:World),CR ρ w z zr.cells:=by unfold jm at h;cases hi:P.info? t with|none=>rw[hi]at h;cases h|some i=>rw[hi]at h;simp only at h;cases b:i.zero with|none=>rw[b]at h;cases h|some zr=>rw[b]at h;exact ⟨zr,λw=>by simp[zeroValue,typeInfo,hi,b],λρ w=>EC h⟩
def bC.with (ρ:bC)(X:Nat->Prop):bC:=⟨ρ.map,X⟩
variable {X:Nat->Prop}{d:bC}{c:World}
def LD(h:dG B d c (ρ.with X) w)(f:Ext B ρ w ρ' w'):dG B d c (ρ'.with X) w' :=h.trans ⟨f.size,λb e=>f.aT b ⟨e.1,e.2⟩,f.shape,f.iE,λi j g _ hi=>f.at_ i j g hi,λi _ hi=>f.dead i hi,λi hi h0=>f.no i hi h0,f.output,f.os,f.tape,f.loops,rfl⟩
def Vu(o:Obj)(h:dG B d c (ρ.with X) w):dG B d c ((ρ.lock w.heap.size).with X) (w.alloc o):=LD (ρ:=ρ) (ρ':=ρ) h (CF B o)
def Vv{k:Nat}(g:B<=k)(f:c.heap.size<=b)(h:dG B d c (ρ.with X) w):dG B d c ((ρ.free b k).with X) w:=by have m:∀i,((ρ.free b k).with X) i=if i=k then jK.at b 0 else ρ i:=λi=>rfl;refine ⟨h.size,h.aT,h.shape,λi e o hi=>?_,λi e o j hi=>?_,λi j hi=>?_,λi j hi=>?_,h.output,h.os,h.tape,h.loops,h.X⟩;{rw[m]at hi;split at hi;{cases hi;exact .inr f};exact h.iE i e o hi};{rw[m,aa om];exact h.at_ i e o j hi};{rw[m,aa om];exact h.dead i j hi};rw[m,aa om];exact h.no i j hi
def Vw{K:a8->aQ->Prop}(r:∀f F s,iQ f F->K f s->K F s){mx d:Nat}{x:bZ}{post:List jV}(u:IV)(z:x.dst=zc d)(y:d ∉ x.cK): ∀(pre:List jV)(L:List LE)(fr:a8)(O:aQ),(∀p∈pre,d ∉ p.2.1.cK/\p.2.1.dst≠zc d)->fH P E (pre++(B,x,b,mx)::post) L fr O K->fH P E (pre++(B,x,b,mx)::post) L (fr.bS (zc d) u) O K:=by have get:∀(fr:a8)(t:Nat),t≠d->(fr.bS (zc d) u).get t=fr.get t:=λfr t h=>(by rw[lH,aa (λe=>h (zc.inj e).symm)]);intro pre;induction pre with|nil=>intro L fr O _ h;have g:∀t∈x.cK,fr.get t=(fr.bS (zc d) u).get t:=λt J=>(get fr t (λe=>y (e▸J))).symm;have o:∀v,iQ (fr.bS x.dst v) ((fr.bS (zc d) u).bS x.dst v):=λv t=>(by simp only[lH,z];split<;>rfl);rcases h with ⟨ha,h⟩|⟨ha,h⟩;{refine .inl ⟨by rw[<- pe g];exact ha,xK (λt J=>g t (mg J)) (ki (λv s ⟨c,k⟩=>⟨c,?_⟩) h)⟩;show fH P E post (dp E (fr.bS (zc d) u) B x.op v L) _ s K;rw[<- tE (fr:=fr) (λt J=>g t (mg J))];exact qY r _ _ _ _ _ (o v) k};exact .inr ⟨by rw[<- pe g];exact ha,qY r _ _ _ _ _ (o eX) h⟩|cons p pre ih=>have⟨G,p,I,mp⟩:=p;intro L fr O M h;have⟨j,m⟩:=M _ (zb ..);simp only at j m;have g:∀t∈p.cK,fr.get t=(fr.bS (zc d) u).get t:=λt J=>(get fr t (λe=>j (e▸J))).symm;have o:∀v,iQ ((fr.bS p.dst v).bS (zc d) u) ((fr.bS (zc d) u).bS p.dst v):=λv t=>(by simp only[lH];by_cases A:p.dst=zc t;{by_cases D:zc d=zc t;{exact au (A.trans D.symm) m};simp[A,D]};simp[A]);have i:=λL fr O=>ih L fr O (λq H=>M q (ze _ H));rcases h with ⟨ha,h⟩|⟨ha,h⟩;{refine .inl ⟨by rw[<- pe g];exact ha,xK (λt J=>g t (mg J)) (ki (λv s ⟨c,k⟩=>⟨c,?_⟩) h)⟩;show fH P E (pre++(B,x,b,mx)::post) (dp E (fr.bS (zc d) u) G p.op v L) _ s K;rw[<- tE (fr:=fr) (λt J=>g t (mg J))];exact qY r _ _ _ _ _ (o v) (i _ _ _ k)};exact .inr ⟨by rw[<- pe g];exact ha,qY r _ _ _ _ _ (o eX) (i _ _ _ h)⟩
end Go.Id
namespace Go.Id
open Go
variable {P:Program} {w w' w'':World} {ρ ρ' ρ'':bC} {E:Nat->IV} {O O':aQ} {N n n':Nat} {fr:a8} {a:Act} {pf:List Nat}
def Ck(anc:Nat->Nat->Prop)(p x:jV):Prop :=pX p.2.1 x.2.1/\(∀k,¬anc k x.1)/\∀y,anc x.1 y->anc p.1 y
structure Jn (P:Program) (ops:Array Oper) (x:jV) (d:Nat) (z:List IV) (t:TypeId):Prop where
 op:x.2.1=⟨zc d,zn,.alloc z⟩
 mask:x.2.2.2=0
 z:jm P t=zc z
 o:∃o,ops[x.1]? = zc o/\o.op=.alloc t/\o.guard=zn/\o.dst=zc d
structure D5 (P:Program) (pf:List Nat) (N:Nat) (ops:Array Oper) (anc:Nat->Nat->Prop) (base e0:Nat) (early:Bool) (rem:List jV) (listed:Array Bool):Prop where
 size:listed.size=ops.size
 un:∀j,j<ops.size->(listed.getD j true=false↔∃it∈rem,it.1=j/\(early=true->j≠e0))
 dg:∀it∈rem,∃o,ops[it.1]? = zc o/\tF P pf N ops o=zc it.2.1/\it.2.2.1=base+it.1/\∀y∈it.2.1.op.ops,IX.quiet y=true
 pw:rem.Pairwise λp x=>(anc p.1 x.1\/pC p x\/(x.1=e0/\Ck anc p x))/\p.1≠x.1/\∀o,ops[p.1]? = zc o->∀e∈o.after,Region.binds .any e=true->e.on≠x.1
 dc:∀j,listed.getD j false=true->∀k,anc k j->listed.getD k false=true
def TG{ops:Array Oper}{anc:Nat->Nat->Prop}{n0 base d:Nat}{te:TypeId}{z:List IV}{zr:Array Value}{B:Nat}{ro:Option Nat}{Qw:Exit->Act->World->Prop}{K:a8->aQ->Prop}{ρ0:bC}{w0:World}{ds:List Deferred}{e:jV}(dN:∀f f' s,iQ f f'->K f s->K f' s)(dE:∀fr O ρ w a,n0<=O.aP->K fr O->bF E ρ w O->FR ρ w N fr a.tmps->a.defers=ds->dG n0 ρ0 w0 ρ w->Qw .normal a w)(ep:∀j o,ops[j]? = zc o->∀e∈o.after,Region.binds .any e=true->e.on<ops.size/\e.on≠j)(aR:∀k j,anc k j->∀o,ops[j]? = zc o->∃e∈o.after,Region.binds .any e=true/\(e.on=k\/anc k e.on))(hz:Jn P ops e d z te)(ew:∀(ρ:bC)(w:World),CR ρ w z zr)(fM:w0.heap.size<=B)(fJ:¬ρ0.X B): ∀(A:Nat)(H:List jV)(L:List LE)(c:Array Bool)(fr:a8)(O:aQ)(ρ:bC)(w:World)(a:Act),H.length=A+1->D5 P pf N ops anc base e.1 true H c->e∈H->fH P E H L fr O K -> bF E ρ w O->FR ρ w N fr a.tmps->a.defers=ds->dG n0 ρ0 w0 (ρ.with ρ0.X) w->n0<=base->base+ops.size<=O.aP->(∀g∈H,ρ g.2.2.1=.no) -> c.getD e.1 false=true->w.heap[B]? = zc (.cells zr te (0,0))->(∀i d',ρ i≠.at B d')->(∀b,ρ.X b↔ρ0.X b\/b=B)->a.tmps.getD d undef=.pointer (zc ⟨B,0,zn⟩)->fr.get d=.undef -> wpAnyIn (fw ro) 0 P .any ops Qw A c a w:=by have⟨J,xe,S,me⟩:=e;have⟨cx,bc,fQ,oe,eg,fe,fd,eT⟩:=hz;simp only at cx bc eg;subst cx;subst bc;have bi:∀(A:Nat)(pre post:List jV)(L:List LE)(c:Array Bool)(fr:a8)(O:aQ)(ρ:bC)(w:World)(a:Act),(pre++(J,⟨zc d,zn,.alloc z⟩,S,0)::post).length=A+1 -> D5 P pf N ops anc base J true (pre++(J,⟨zc d,zn,.alloc z⟩,S,0)::post) c->fH P E (pre++(J,⟨zc d,zn,.alloc z⟩,S,0)::post) L fr O K -> bF E ρ w O->FR ρ w N fr a.tmps->a.defers=ds->dG n0 ρ0 w0 (ρ.with ρ0.X) w->n0<=base->base+ops.size<=O.aP->(∀g∈pre++(J,⟨zc d,zn,.alloc z⟩,S,0)::post,ρ g.2.2.1=.no) -> w.heap[B]? = zc (.cells zr te (0,0))->(∀i d',ρ i≠.at B d')->(∀b,ρ.X b↔ρ0.X b\/b=B)->a.tmps.getD d undef=.pointer (zc ⟨B,0,zn⟩)->(∀q∈pre,pC q (J,⟨zc d,zn,.alloc z⟩,S,0)) -> wpAnyIn (fw ro) 0 P .any ops Qw A c a w:=(by intro A pre post L c fr O ρ w a U D h hs hf hd hx bn bz M be bh aW bm ak;have u:(J,(⟨zc d,zn,.alloc z⟩:bZ),S,0)∈pre++(J,⟨zc d,zn,.alloc z⟩,S,0)::post:=(by simp);have ap:∀p∈pre++(J,(⟨zc d,zn,.alloc z⟩:bZ),S,0)::post,p.2.2.1=base+p.1:=λp T=>(by have⟨_,_,_,m,_⟩:=D.dg p T;exact m);have ej:S=base+J:=ap _ u;have gc:J<ops.size:=(by rcases zm J ops.size with h'|h';{exact h'};simp[zf h']at eg);have⟨cP,cw,ac⟩:=zu.1 D.pw;have bP:=λp T=>ac p T _ (zb ..);have bb:∀g∈pre++post,g.1≠J:=λg h=>(by rcases zg.1 h with h|h;{exact (bP g h).2.1};exact λe=>((zk.1 cw).1 g h).2.1 e.symm);have Q:∀g∈pre++post,g∈pre++(J,(⟨zc d,zn,.alloc z⟩:bZ),S,0)::post:=λg h=>(by rcases zg.1 h with h|h;{exact za _ h};exact zl _ (ze _ h));have ad:=Gu (P:=P) (E:=E) (K:=K) dN (ix:=J) (x:=⟨zc d,zn,.alloc z⟩) (kx:=S) (mx:=0) (post:=post) pre L fr O ak (λp T=>⟨by rw[ap p (za _ T),ej];have:=(bP p T).2.1;omega,hs.eI _ (M p (za _ T))⟩) (by rw[zp,zy];refine (z5.and_mem.1 cP).imp ?_;intro p q ⟨T,hq,m⟩;rw[ap p (za _ T),ap q (za _ hq)];have:=m.2.1;omega) (λ_=>hs.eI _ (M _ u)) (λp T _ y hy=>by cases hy) h;rcases ad with ⟨_,hk⟩|⟨G,_⟩;{have⟨_,cb⟩:=hk;have es:ρ.X B:=(aW B).2 (.inr rfl);have el:ρ S=.no:=M _ u;have fD:(ρ.free B S).with ρ0.X=ρ.free B S:=(by unfold bC.with bC.free;congr 1;funext b;refine propext ⟨λh=>⟨(aW b).2 (.inl h),λe=>fJ (e▸h)⟩,λ⟨m,h2⟩=>((aW b).1 m).resolve_right h2⟩);have aZ:=Vv (k:=S) (by omega:n0<=S) fM hx;rw[fD]at aZ;have fq:FR (ρ.free B S) w N (fr.bS (zc d) (.ptr S 0)) a.tmps:=(by refine ⟨hf.size,λt=>?_⟩;rw[lH];split;{rename_i ht;cases ht;rw[bm];exact .ptr S 0 B 0 (by show (if S=S then jK.at B 0 else _)=_;rw[ab rfl])};exact (hf.get t).mY (LC el bh es));have ag:(pre++post).length=A:=(by simp at U ⊢;omega);refine KG (P:=P) (pf:=pf) (N:=N) (anc:=anc) (n0:=n0) (base:=base) (K:=K) dN dE ep aR A (pre++post) L c _ _ (ρ.free B S) w a ag ?_ cb (XL hs el om bh es be ew) fq hd aZ bn bz ?_;{refine ⟨D.size,λj hj=>?_,λg u=>D.dg g (Q g u),?_,D.dc⟩;{rw[D.un j hj];constructor;{rintro ⟨g,m,h2,h3⟩;refine ⟨g,?_,h2⟩;have fn:=h3 rfl;rcases zg.1 m with m|m;{exact za _ m};rcases zh.1 m with rfl|m;{exact au h2.symm fn};exact zl _ m};rintro ⟨g,m,h2⟩;exact ⟨g,Q g m,h2,λ_ e=>bb g m (h2.trans e)⟩};refine ((z5.and_mem.1 (D.pw.sublist (zv.append (zv.refl _) (zw _ _)))).imp ?_);intro p x ⟨_,ex,m,h2,h3⟩;refine ⟨?_,h2,h3⟩;rcases m with m|m|⟨m,_⟩;{exact .inl m};{exact .inr m};exact au m (bb x ex)};intro g bq;have df:g.2.2.1≠S:=(by rw[ap g (Q g bq),ej];have:=bb g bq;omega);show (if g.2.2.1=S then jK.at B 0 else ρ g.2.2.1)=_;rw[aa df];exact M g (Q g bq)};simp[iB]at G);intro A;induction A with|zero=>intro H L c fr O ρ w a U D Q h hs hf hd hx bn bz M dm be bh aW bm en;obtain ⟨pre,post,rfl⟩:=zx Q;have T:pre=[]:=(by cases pre with|nil=>rfl|cons _ _=>simp at U);subst T;exact bi 0 [] post L c fr O ρ w a U D h hs hf hd hx bn bz M be bh aW bm (λq hq=>by cases hq)|succ A ih=>
 intro H L c fr O ρ w a U D Q h hs hf hd hx bn bz M dm be bh aW bm en;have⟨bl,ca,F⟩:=zx Q;by_cases bv:∀q∈bl,pC q (J,⟨zc d,zn,.alloc z⟩,S,0);{subst F;exact bi (A+1) bl ca L c fr O ρ w a U D h hs hf hd hx bn bz M be bh aW bm bv};have cg:=D.pw;rw[F]at cg;have⟨eL,cN,W⟩:=zu.1 cg;have fl:∀g∈H,g.1=J->g=(J,(⟨zc d,zn,.alloc z⟩:bZ),S,0):=λg u he=>by rw[F]at u;rcases zg.1 u with h|h;{exact au he (W g h _ (zb ..)).2.1};rcases zh.1 h with h|h;{exact h};exact au he.symm ((zk.1 cN).1 g h).2.1
 have bp:∀g∈H,g.1<ops.size:=λg u=>by have⟨o,ho,_⟩:=D.dg g u;rcases zm g.1 ops.size with h'|h';{exact h'};simp[zf h']at ho
 have al:∀g∈H,g.1≠J->c.getD g.1 false≠true:=λg u he hL=>by have:=(D.un g.1 (bp g u)).2 ⟨g,u,rfl,λ_=>he⟩;rw[Fv hL]at this;cases this
 obtain ⟨q,hq,ed,cq⟩:∃q∈H,q.1≠J/\Ck anc q (J,⟨zc d,zn,.alloc z⟩,S,0):=by refine z6 λam=>bv λq hq=>?_;have ec:q∈H:=(by rw[F];exact za _ hq);have⟨m,h2,_⟩:=W q hq _ (zb ..);rcases m with m|m|⟨_,m⟩;{exact au (D.dc _ dm _ m) (al q ec h2)};{exact m};exact au ⟨q,ec,h2,m⟩ am
 have ch:∀y,c.getD y false=true\/True->(∀o,ops[y]? = zc o->∀e'∈o.after,Region.binds .any e'=true->c.getD e'.on false=true)->(∃o,ops[y]? = zc o)->¬anc J y:=λy _ ct ⟨o,ho⟩ ha=>by have eF:=cq.2.2 y ha;have⟨e',Y,Z,ay⟩:=aR _ _ eF o ho;have bd:=ct o ho e' Y Z;rcases ay with ay|cu;{exact al q hq ed (by rw[<- ay];exact bd)};exact al q hq ed (D.dc _ bd _ cu)
 refine ⟨λdL=>?_,λi hi=>?_⟩;{exfalso;have dK:∃g∈H,g.1≠J/\∀jt∈H,jt.1≠J->jt≠g->∀o,ops[g.1]? = zc o->∀e'∈o.after,Region.binds .any e'=true->e'.on≠jt.1:=(by cases bl with|nil=>exact au (λq hq=>by cases hq) bv|cons g rest=>have dt:g∈H:=(by rw[F];simp);refine ⟨g,dt,(W g (by simp) _ (zb ..)).2.1,λjt V _ bb o ho e' Y Z=>?_⟩;have ef:=D.pw;rw[F]at ef V;rcases zh.1 V with h|h;{exact au h bb};exact ((zk.1 ef).1 jt h).2.2 o ho e' Y Z);have⟨g,u,dB,cp⟩:=dK;have⟨o,ho,_⟩:=D.dg g u;have:g.1∈Region.ready .any ops c:=(by refine mem_ready.2 ⟨(D.un _ (bp g u)).2 ⟨g,u,rfl,λ_=>dB⟩,o,ho,λe' Y Z=>?_⟩;have⟨m,h2⟩:=ep _ o ho e' Y Z;have hj:e'.on<c.size:=(by rw[D.size];exact m);by_cases hL:c.getD e'.on true=false;{have⟨jt,V,dr,dn⟩:=(D.un _ m).1 hL;by_cases ck:jt=g;{subst ck;exact au dr.symm h2};exact au dr.symm (cp jt V (λe=>dn rfl (dr▸e)) ck o ho e' Y Z)};simp[hj]at hL ⊢;exact hL);rw[dL]at this;cases this};have⟨h0,o,ho,av⟩:=mem_ready.1 hi;have fm:i<ops.size:=by rw[<- D.size];exact fj h0
 have⟨g,u,cl,ax⟩:=(D.un i fm).1 h0;replace ax:=ax rfl;have dl:¬anc J i:=ch i (.inr trivial) (λo' bx=>by rw[ho]at bx;cases bx;exact av) ⟨o,ho⟩;obtain ⟨pre,post,rfl⟩:=zx u;have⟨ix,x,kx,mx⟩:=g;simp only at cl;subst cl;have⟨o',bx,hc,cA,eb⟩:=D.dg _ u;simp only at bx hc cA eb;rw[ho]at bx;cases bx;have⟨cP,cw,ac⟩:=zu.1 D.pw;have bP:=λp T=>ac p T _ (zb ..);have ak:∀p∈pre,pC p (ix,x,kx,mx):=λp T=>by rcases (bP p T).1 with ha|hf|⟨fC,_⟩;{exfalso;by_cases cT:p.1=J;{exact dl (cT▸ha)};have⟨e',Y,Z,ay⟩:=aR _ _ ha o ho;have bd:=av e' Y Z;have ee:p∈pre++(ix,x,kx,mx)::post:=za _ T;rcases ay with ay|cu;{exact al p ee cT (by rw[<- ay];exact bd)};exact al p ee cT (D.dc _ bd _ cu)};{exact hf};exact au fC ax
 have bs:∀p∈pre,p.2.2.1=base+p.1:=λp T=>by have⟨_,_,_,m,_⟩:=D.dg p (za _ T);exact m
 have ad:=Gu (P:=P) (E:=E) (K:=K) dN (ix:=ix) (x:=x) (kx:=kx) (mx:=mx) (post:=post) pre L fr O ak (λp T=>⟨by rw[bs p T,cA];have:=(bP p T).2.1;omega,hs.eI _ (M p (za _ T))⟩) (by rw[zp,zy];refine (z5.and_mem.1 cP).imp ?_;intro p q ⟨T,hq,m⟩;rw[bs p T,bs q hq];have:=m.2.1;omega) (λ_=>hs.eI _ (M _ u)) (λp T _ y hy=>IX.Ei (eb y hy) hs hf (M p (za _ T))) h;have⟨⟨fz,hk⟩,bt,er,hg⟩:=wg hc;have cm:kx<O.aP/\n0<=kx:=by rw[cA];omega
 have I:∀g∈pre++post,g∈pre++(ix,x,kx,mx)::post:=λg h=>by rcases zg.1 h with h|h;{exact za _ h};exact zl _ (ze _ h)
 have bb:∀g∈pre++post,g.1≠ix:=λg h=>by rcases zg.1 h with h|h;{exact (bP g h).2.1};exact λe=>((zk.1 cw).1 g h).2.1 e.symm
 have an:(J,(⟨zc d,zn,.alloc z⟩:bZ),S,0)∈pre++post:=by rcases zg.1 Q with h|h;{exact za _ h};rcases zh.1 h with h|h;{cases h;exact au rfl ax};exact zl _ h
 have dU:x.dst≠zc d:=by rcases zg.1 an with h|h;{exact λfv=>((ak _ h).1.1 d fv).2 rfl};have eG:=(zk.1 cw).1 _ h;rcases eG.1 with ha|hf|⟨_,hb⟩;{exact au ha (cq.2.1 _)};{exact (hf.1.1 d rfl).2};exact (hb.1.1 d rfl).2
 have ce:D5 P pf N ops anc base J true (pre++post) (c.setIfInBounds ix true):=by refine ⟨by simp[D.size],λj hj=>?_,λg u=>D.dg g (I g u),?_,?_⟩;{by_cases bA:j=ix;{subst bA;have:j<c.size:=(by rw[D.size];exact hj);constructor;{intro h;simp[this]at h};rintro ⟨g,m,h2,_⟩;exact au h2 (bb g m)};rw[getD_set_ne true (Ne.symm bA),D.un j hj];constructor;{rintro ⟨g,m,h2,h3⟩;refine ⟨g,?_,h2,h3⟩;rcases zg.1 m with m|m;{exact za _ m};rcases zh.1 m with rfl|m;{exact au h2.symm bA};exact zl _ m};rintro ⟨g,m,h2,h3⟩;exact ⟨g,I g m,h2,h3⟩};{exact D.pw.sublist (zv.append (zv.refl _) (zw _ _))};intro j hj k hk;by_cases bA:j=ix;{subst bA;have⟨e',Y,Z,ay⟩:=aR _ _ hk o ho;have bd:=av e' Y Z;rcases ay with rfl|cu;{exact getD_set_true bd};exact getD_set_true (D.dc _ bd _ cu)};rw[getD_set_ne false (Ne.symm bA)]at hj;exact getD_set_true (D.dc _ hj _ hk)
 have ag:(pre++post).length=A+1:=by simp at U ⊢;omega
 have dd:∀g∈pre++post,g.2.2.1≠kx:=λg h=>by have⟨_,_,_,m,_⟩:=D.dg g (I g h);rw[m,cA];have:=bb g h;omega
 have ci:(c.setIfInBounds ix true).getD J false=true:=getD_set_true dm;have bY:∀(a':Act)(r:Value),a'.tmps.getD d undef=.pointer (zc ⟨B,0,zn⟩)->(a'.put o.dst r).tmps.getD d undef=.pointer (zc ⟨B,0,zn⟩):=λa' r hh=>by have ff:o.dst≠zc d:=(by rw[<- bt];exact dU);cases fs:o.dst with|none=>simpa [Act.put] using hh|some t=>have eC:t≠d:=λe=>ff (by rw[fs,e]);simp only[Act.put];rw[qj]at hh ⊢;rw[qg,aa eC];exact hh
 have co:∀v,(fr.bS x.dst v).get d=.undef:=λv=>by rw[lH,aa dU];exact en
 have cY:∀(ρ':bC),(∀i,i<O.aP->(x.op.cc=true->i≠kx)->ρ i=.no->ρ' i=.no)->∀jt∈pre++post,ρ' jt.2.2.1=.no:=λρ' am jt V=>by have⟨jo,fR,_,m,_⟩:=D.dg jt (I jt V);have ga:=bp jt (I jt V);exact am _ (by rw[m];omega) (λ_=>dd jt V) (M _ (I jt V))
 unfold wpOpIn;simp only[ho];have dP:fc P E x.op kx fr O (λv O'=>qQ E L mx O'/\fH P E (pre++post) (dp E fr ix x.op v L) (fr.bS x.dst v) O' K)->o.wpIn (fw ro) 0 P a w (wpAnyIn (fw ro) 0 P .any ops Qw A (c.setIfInBounds ix true)) Qw:=by intro cx;refine C0 hk cx hs hf om (λhl=>⟨M _ u,cm.1,cm.2⟩) ?_;intro v O' r ρ' w' fk hK eD eA aZ am;have ea:UB ρ w B:=⟨(z7.1 be).1,bh⟩;refine ih (pre++post) _ _ _ O' ρ' w' (a.put o.dst r) ag ce an hK.2 eD ?_ (by rw[put_defers];exact hd) (LD hx aZ) bn om (cY ρ' am) ci (by rw[aZ.aT B ea];exact be) (aZ.ub ea).2 (λb=>by rw[aZ.X];exact aW b) (bY a r bm) (co v);rw[bt];exact FR.bS (hf.mono aZ) er eA
 rcases hg with ⟨cD,cC⟩|⟨j,et,s,cD,em,cC⟩;{have hw:Region.wanted o (yielded ops a.tmps)=true:=(by unfold Region.wanted;rw[cD]);rw[ab hw];rcases ad with ⟨G,hh⟩|⟨G,hh⟩;{exact dP hh};simp[iB,cC]at G};rcases ad with ⟨G,hh⟩|⟨G,hh⟩;{simp only[iB,cC]at G;have hw:=tm cD em hf G;rw[hw];exact dP hh};simp only[iB,cC]at G;have hw:=tm cD em hf G;rw[hw];refine ⟨λf _=>trivial,?_⟩;exact ih (pre++post) _ _ _ O ρ w (a.put o.dst undef) ag ce an hh hs (by rw[bt];exact FR.bS hf er DB) (by rw[put_defers];exact hd) hx bn bz (λjt V=>M _ (I jt V)) ci be bh aW (bY a undef bm) (co eX)
end Go.Id
namespace Go.Id
open Go
variable {P:Program} {w w' w'':World} {ρ ρ' ρ'':bC} {E:Nat->IV} {O O':aQ} {N n n':Nat} {fr:a8} {a:Act} {pf:List Nat}
def TH {ops:Array Oper} {anc:Nat->Nat->Prop} {n0 base d:Nat} {te:TypeId} {z:List IV} {e:jV} {ro:Option Nat} {Qw:Exit->Act->World->Prop} {K:a8->aQ->Prop} {ρ0:bC} {w0:World} {ds:List Deferred}
  (ch:∀f f' s,iQ f f'->K f s->K f' s)
  (aW:∀fr O ρ w a,n0<=O.aP->K fr O->bF E ρ w O->FR ρ w N fr a.tmps->a.defers=ds->dG n0 ρ0 w0 ρ w->Qw .normal a w)
  (cx:∀j o,ops[j]? = zc o->∀e∈o.after,Region.binds .any e=true->e.on<ops.size/\e.on≠j)
  (ap:∀k j,anc k j->∀o,ops[j]? = zc o->∃e∈o.after,Region.binds .any e=true/\(e.on=k\/anc k e.on)) (hz:Jn P ops e d z te) :
  ∀(H:Nat) (J:List jV) (L:List LE) (g:Array Bool) (fr:a8) (O:aQ) (ρ:bC) (w:World) (a:Act),J.length=H->D5 P pf N ops anc base e.1 false J g->(∀m∈J,m.1=e.1->m=e)->fH P E J L fr O K ->
   bF E ρ w O->FR ρ w N fr a.tmps->a.defers=ds->dG n0 ρ0 w0 ρ w->n0<=base->base+ops.size<=O.aP->(∀m∈J,ρ m.2.2.1=.no) ->
   wpAnyIn (fw ro) 0 P .any ops Qw H g a w:=by
 intro H
 induction H with
 | zero=>
  intro J L g fr O ρ w a T A hE h hs hf hd hx bh bx S;have:J=[]:=z8.1 T;subst this;refine ⟨?_,aW fr O ρ w a om h hs hf hd hx⟩;rw[z4];intro j U;have⟨h0,_⟩:=mem_ready.1 U;have⟨m,M,_⟩:=(A.un j (by rw[<- A.size];exact fj h0)).1 h0
  cases M
 | succ H ih=>
  intro J L g fr O ρ w a T A hE h hs hf hd hx bh bx S;refine ⟨λbP=>?_,λi hi=>?_⟩
  .exfalso
   cases J with
   | nil=>cases T
   | cons m J=>
    have⟨o,Y,hc,dB,_⟩:=A.dg m (zb ..)
    have bi:m.1<ops.size:=by
     rcases zm m.1 ops.size with h'|h'
     .exact h'
     .simp[zf h'] at Y
    have:m.1∈Region.ready .any ops g:=by
     refine mem_ready.2 ⟨(A.un _ bi).2 ⟨m,zb ..,rfl,λh=>by cases h⟩,o,Y,λe he hb=>?_⟩;have⟨u,V⟩:=cx _ o Y e he hb;have U:e.on<g.size:=by rw[A.size];exact u
     by_cases hL:g.getD e.on true=false
     .have⟨jt,Q,cq,_⟩:=(A.un _ u).1 hL;rcases zh.1 Q with rfl|Q
      .exact au cq.symm V
      .exact au cq.symm (((zk.1 A.pw).1 jt Q).2.2 o Y e he hb)
     .simp[U] at hL ⊢;exact hL
    rw[bP] at this;cases this
  .have⟨h0,o,Y,bd⟩:=mem_ready.1 hi;have bi:i<ops.size:=by rw[<- A.size];exact fj h0
   have⟨m,M,ct,_⟩:=(A.un i bi).1 h0;obtain ⟨pre,post,rfl⟩:=zx M;have⟨ix,x,kx,mx⟩:=m;simp only at ct;subst ct;have⟨o',bv,hc,bl,cm⟩:=A.dg _ M;simp only at bv hc bl cm;rw[Y] at bv;cases bv;have⟨cT,cD,an⟩:=zu.1 A.pw;have ca:=λp I=>an p I _ (zb ..)
   have ac:∀p∈pre,g.getD p.1 false≠true:=λp I hL=>by
    have⟨op,W,_⟩:=A.dg p (za _ I)
    have cY:p.1<ops.size:=by
     rcases zm p.1 ops.size with h'|h'
     .exact h'
     .simp[zf h'] at W
    have:=(A.un p.1 cY).2 ⟨p,za _ I,rfl,λh=>by cases h⟩;rw[Fv hL] at this;cases this
   have cw:∀p∈pre,pC p (ix,x,kx,mx)\/(ix=e.1/\Ck anc p (ix,x,kx,mx)):=λp I=>by
    rcases (ca p I).1 with ha|hf
    .exfalso;have⟨e,he,hb,aZ⟩:=ap _ _ ha o Y;have ay:=bd e he hb;rcases aZ with aZ|cg
     .exact ac p I (by rw[<- aZ];exact ay)
     .exact ac p I (A.dc _ ay _ cg)
    .exact hf
   by_cases ak:∀p∈pre,pC p (ix,x,kx,mx)
   case neg=>
    -- the block is laid ahead
    obtain ⟨p0,dr,bA,cb⟩:∃p∈pre,ix=e.1/\Ck anc p (ix,x,kx,mx):=by
     refine z6 λal=>ak λp I=>?_
     rcases cw p I with u|⟨u,V⟩
     .exact u
     .exact au ⟨p,I,u,V⟩ al
    have dl:=hE _ M bA;subst dl;have⟨W,ad,ck,o2,bt,bs,co,be⟩:=hz;simp only at W ad bt;rw[Y] at bt;cases bt;subst W;subst ad;have⟨zr,av,bp⟩:=Vt ck;have dm:∀c,o.op≠.defer c:=λc h=>by rw[bs] at h;cases h
    have bq:(execOp a.eval o).run P w=.ok (.value (.pointer (zc ⟨w.heap.size,0,zn⟩))) (w.alloc (.cells zr.cells te)):=by
     unfold execOp;rw[bs];simp[Instr.alloc,av,newVar,newRow]
    unfold wpOpIn;simp only[Y];have hw:Region.wanted o (yielded ops a.tmps)=true:=by unfold Region.wanted;rw[co]
    rw[ab hw];refine ⟨λf _=>trivial,?_⟩;rw[Oper.semAt_eq _ _ _ dm,bq]
    have bc:vA N (zc d)=true:=by
     have⟨_,_,h3,_⟩:=wg hc;rw[be] at h3;exact h3
    have bY:d<a.tmps.size:=by rw[hf.size];simpa [vA] using bc
    have dn:ρ.with ρ0.X=ρ:=by unfold bC.with;rw[<- hx.X]
    have ce:∀p∈pre,d ∉ p.2.1.cK/\p.2.1.dst≠zc d:=λp I=>by
     rcases cw p I with u|⟨_,u⟩
     .exact u.1.1 d rfl
     .exact u.1.1 d rfl
    refine TG (P:=P) (pf:=pf) (N:=N) (anc:=anc) (n0:=n0) (base:=base) (K:=K) (e:=(ix,⟨zc d,zn,.alloc z⟩,kx,0)) (d:=d) (te:=te) (z:=z) (zr:=zr.cells) (B:=w.heap.size) ch aW cx ap ⟨rfl,rfl,ck,o,Y,bs,co,be⟩ bp hx.size (λh=>by rw[<- hx.X] at h;exact au (hs.gh _ h) (Nat.lt_irrefl _))
     H (pre++(ix,⟨zc d,zn,.alloc z⟩,kx,0)::post) L (g.setIfInBounds ix true) (fr.bS (zc d) .undef) O (ρ.lock w.heap.size) (w.alloc (.cells zr.cells te)) (a.put o.dst (.pointer (zc ⟨w.heap.size,0,zn⟩))) T ?_ M
     (Vw ch .undef rfl (by intro h;cases h) pre L fr O ce h) (XK _ hs) ?_ (by rw[put_defers];exact hd) (Vu _ (by rw[dn];exact hx)) bh bx S ?_ (World.alloc_heap_new _ _) (λi d' h=>au (hs.lt i _ d' h) (Nat.lt_irrefl _)) (λb=>by rw[<- hx.X];exact qk) ?_ (by rw[lH,ab rfl])
    .refine ⟨by simp[A.size],λj U=>?_,A.dg,?_,?_⟩
     .by_cases D:j=ix
      .subst D;have:j<g.size:=by rw[A.size];exact U
       constructor
       .intro h;simp[this] at h
       .rintro ⟨m,u,V,h3⟩;exact au rfl (h3 rfl)
      .rw[getD_set_ne true (Ne.symm D),A.un j U];constructor
       .rintro ⟨m,u,V,_⟩;exact ⟨m,u,V,λ_=>D⟩
       .rintro ⟨m,u,V,_⟩;exact ⟨m,u,V,λh=>by cases h⟩
     .exact A.pw
     .intro j U k hk;by_cases D:j=ix
      .subst D;exact au hk (cb.2.1 k)
      .rw[getD_set_ne false (Ne.symm D)] at U;exact getD_set_true (A.dc _ U _ hk)
    .rw[be];exact FR.bS (a:=a) ⟨hf.size,λt=>(hf.get t).mY (HD _)⟩ bc (.undef _)
    .have:ix<g.size:=by rw[A.size];exact bi
     simp[this]
    .rw[be];simp only[Act.put];rw[qj,qg,ab rfl,ab bY];rfl
   have am:∀p∈pre,p.2.2.1=base+p.1:=λp I=>by
    have⟨_,_,_,u,_⟩:=A.dg p (za _ I);exact u
   have Z:=Gu (P:=P) (E:=E) (K:=K) ch (ix:=ix) (x:=x) (kx:=kx) (mx:=mx) (post:=post) pre L fr O ak
    (λp I=>⟨by rw[am p I,bl];have:=(ca p I).2.1;omega,hs.eI _ (S p (za _ I))⟩)
    (by
     rw[zp,zy];refine (z5.and_mem.1 cT).imp ?_;intro p q ⟨I,hq,u⟩;rw[am p I,am q hq];have:=u.2.1;omega)
    (λ_=>hs.eI _ (S _ M))
    (λp I _ y hy=>IX.Ei (cm y hy) hs hf (S p (za _ I))) h
   have⟨⟨fz,hk⟩,bb,cA,hg⟩:=wg hc;have aR:kx<O.aP/\n0<=kx:=by rw[bl];omega
   have F:∀m∈pre++post,m∈pre++(ix,x,kx,mx)::post:=λm h=>by
    rcases zg.1 h with h|h
    .exact za _ h
    .exact zl _ (ze _ h)
   have cp:∀m∈pre++post,m.1≠ix:=λm h=>by
    rcases zg.1 h with h|h
    .exact (ca m h).2.1
    .exact λe=>((zk.1 cD).1 m h).2.1 e.symm
   have ax:D5 P pf N ops anc base e.1 false (pre++post) (g.setIfInBounds ix true):=by
    refine ⟨by simp[A.size],λj U=>?_,λm M=>A.dg m (F m M),?_,?_⟩
    .by_cases D:j=ix
     .subst D;have:j<g.size:=by rw[A.size];exact U
      constructor
      .intro h;simp[this] at h
      .rintro ⟨m,u,V,_⟩;exact au V (cp m u)
     .rw[getD_set_ne true (Ne.symm D),A.un j U];constructor
      .rintro ⟨m,u,V,h3⟩;refine ⟨m,?_,V,h3⟩;rcases zg.1 u with u|u
       .exact za _ u
       .rcases zh.1 u with rfl|u
        .exact au V.symm D
        .exact zl _ u
      .rintro ⟨m,u,V,h3⟩;exact ⟨m,F m u,V,h3⟩
    .exact A.pw.sublist (zv.append (zv.refl _) (zw _ _))
    .intro j U k hk;by_cases D:j=ix
     .subst D;have⟨e,he,hb,aZ⟩:=ap _ _ hk o Y;have ay:=bd e he hb;rcases aZ with rfl|cg
      .exact getD_set_true ay
      .exact getD_set_true (A.dc _ ay _ cg)
     .rw[getD_set_ne false (Ne.symm D)] at U;exact getD_set_true (A.dc _ U _ hk)
   have ag:(pre++post).length=H:=by simp at T ⊢;omega
   have bz:∀m∈pre++post,m.2.2.1≠kx:=λm h=>by
    have⟨_,_,_,u,_⟩:=A.dg m (F m h);rw[u,bl];have:=cp m h;omega
   unfold wpOpIn;simp only[Y]
   have ci:fc P E x.op kx fr O (λv O'=>qQ E L mx O'/\fH P E (pre++post) (dp E fr ix x.op v L) (fr.bS x.dst v) O' K)->o.wpIn (fw ro) 0 P a w (wpAnyIn (fw ro) 0 P .any ops Qw H (g.setIfInBounds ix true)) Qw:=by
    intro W;refine C0 hk W hs hf om (λhl=>⟨S _ M,aR.1,aR.2⟩) ?_;intro v O' r ρ' w' dd hK cP cN cl al;refine ih (pre++post) _ _ _ O' ρ' w' (a.put o.dst r) ag ax (λm h=>hE m (F m h)) hK.2 cP ?_ (by rw[put_defers];exact hd) (hx.trans (cl.b9 (zs _))) bh om ?_
    .rw[bb];exact FR.bS (hf.mono cl) cA cN
    .intro jt Q;have⟨jo,df,_,u,_⟩:=A.dg jt (F jt Q)
     have dt:jt.1<ops.size:=by
      rcases zm jt.1 ops.size with h'|h'
      .exact h'
      .simp[zf h'] at df
     exact al _ (by rw[u];omega) (λ_=>bz jt Q) (S _ (F jt Q))
   rcases hg with ⟨bn,bm⟩|⟨j,cC,s,bn,cu,bm⟩
   .have hw:Region.wanted o (yielded ops a.tmps)=true:=by unfold Region.wanted;rw[bn]
    rw[ab hw];rcases Z with ⟨G,hh⟩|⟨G,hh⟩
    .exact ci hh
    .simp[iB,bm] at G
   .rcases Z with ⟨G,hh⟩|⟨G,hh⟩
    .simp only[iB,bm] at G;have hw:=tm bn cu hf G;rw[hw];exact ci hh
    .simp only[iB,bm] at G;have hw:=tm bn cu hf G;rw[hw];refine ⟨λf _=>trivial,?_⟩;exact ih (pre++post) _ _ _ O ρ w (a.put o.dst undef) ag ax (λm h=>hE m (F m h)) hh hs (by rw[bb];exact FR.bS hf cA DB) (by rw[put_defers];exact hd) hx bh bx (λjt Q=>S _ (F jt Q))
def Jo(ms:List Nat)(n:Nat)(p x:YO):Bool :=Dx p.2.1 x.2.1&&ms.getD x.1 0==0&&(z9 n).all λy=>!(ms.getD y 0).testBit x.1||(ms.getD y 0).testBit p.1
variable {b:Nat}
def TI{ms:List Nat}{n:Nat}{p x:YO}{a:Nat}(i:ms.length<=n)(h:Jo ms n p x=true):Ck (λk j=>(ms.getD j 0).testBit k=true) (p.1,p.2.1,a,p.2.2) (x.1,x.2.1,b,x.2.2):=by unfold Jo at h;simp only[zi,beq_iff_eq,zt,zo,qm]at h;refine ⟨G8 h.1.1,λk d=>?_,λy c=>?_⟩;{replace d:(ms.getD x.1 0).testBit k=true:=d;rw[h.1.2]at d;simp at d};rcases zm y n with e|g;{rcases h.2 y (qa.2 e)with f|f;{simp only at c;rw[f]at c;cases c};exact f};simp only at c;rw[zq,List.getElem?_eq_none om]at c;simp at c
def FY(e0 n:Nat)(ess:List (List Nat))(ms:List Nat):List YO->Bool|[]=>true|p::xs=>xs.all (λx=>((ms.getD x.1 0).testBit p.1||FW p x||(x.1==e0&&Jo ms n p x))&&p.1 != x.1&&!(ess.getD p.1 []).contains x.1)&&FY e0 n ess ms xs
def Kg{e n:Nat}{c:List (List Nat)}{ms:List Nat}{base:Nat}(g:ms.length<=n):∀l:List YO,FY e n c ms l=true->(m7 base l).Pairwise λp x=>((ms.getD x.1 0).testBit p.1=true\/pC p x\/(x.1=e/\Ck (λk j=>(ms.getD j 0).testBit k=true) p x))/\p.1≠x.1/\x.1 ∉ c.getD p.1 []:=by intro l;induction l with|nil=>intro _;exact .nil|cons p xs ih=>intro h;simp only[FY,zi,zt]at h;refine zk.2 ⟨λo d=>?_,ih h.2⟩;obtain ⟨x,f,rfl⟩:=zj.1 d;have⟨⟨b,m⟩,i⟩:=h.1 x f;refine ⟨?_,by simpa using m,by simpa using i⟩;rw[zo,zo]at b;rcases b with (b|b)|b;{exact .inl b};{exact .inr (.inl (Ke b))};simp only[zi,beq_iff_eq]at b;exact .inr (.inr ⟨b.1,TI g b.2⟩)
def zeroAt(ops:List Oper)(ios:List bZ)(e0:Nat):Bool :=match ops[e0]?,ios[e0]? with|some o,zc ⟨zc d,zn,.alloc _⟩=>(match o.op with|.alloc _=>true|_=>false)&&o.guard.isNone&&o.dst==zc d|_,_=>false
def zOK(ops:List Oper)(ess:List (List Nat))(ios:List bZ)(l:List (Nat×Nat))(e0:Nat):Bool :=let ms:=vw ess;Ci 0 ess&&Cj ms 0 ess&&FY e0 ms.length ess ms (m8 ios l)&&(ios.all λo=>o.op.ops.all IX.quiet) && l.all (λq=>decide (q.1<ios.length))&&(z9 ios.length).all (λj=>l.any λq=>q.1==j)&&l.length==ios.length&&zeroAt ops ios e0&&l.all (λq=>q.1 != e0||q.2==0)
def zAt(ess:List (List Nat))(ios:List bZ):Nat :=match (z9 ios.length).find? (λj=>(match (ios.getD j default).op with|.alloc _=>true|_=>false)&&(ess.getD j []).isEmpty)with|some j=>j|none=>0
def Vx{n0 e0:Nat}{ops:Array Oper}{g:List bZ}{l:List (Nat×Nat)}{Q:Exit->a8->aQ->Prop}{ks:List Nat}(hm:P.follows .mixedOrders=true)(hc:pg P pf N ops ops.toList=zc g)(ag:zOK ops.toList (ops.toList.map fg) g l e0=true)(h:fH P E (m7 O.aP (m8 g l)) [] fr { O with aP:=O.aP+l.length } (λfr' O'=>Q .normal (fr'.aT ks) O')):R P E N n0 (.region b ops true) fr O Q:=by
 intro hn ro h0 ρ w a hs hf hd hr;refine wpIn_region_any hm ?_;have J:g.length=ops.size:=by rw[Ho _ _ hc];simp
 unfold zOK at ag;simp only[zi,zt,beq_iff_eq,ah,zo,bne_iff_ne]at ag;obtain ⟨⟨⟨⟨⟨⟨⟨⟨ca,aW⟩,ad⟩,hq⟩,U⟩,Z⟩,aZ⟩,H⟩,bs⟩:=ag;generalize vw (ops.toList.map fg)=ms at aW ad;have am:∀(j:Nat)(o:Oper),ops[j]? = zc o->(ops.toList.map fg)[j]? = zc (fg o):=λj o X=>by simp[X]
 have bt:∀(o:Oper)(k:Nat),k∈fg o->∃e∈o.after,Region.binds .any e=true/\e.on=k:=λo k A=>by unfold fg at A;obtain ⟨e,he,rfl⟩:=zj.1 A;have⟨u,F⟩:=z1.1 he;exact ⟨e,by simpa using u,F,rfl⟩
 have bb:∀(o:Oper)(e:Edge),e∈o.after->Region.binds .any e=true->e.on∈fg o:=λo e he T=>zj.2 ⟨e,z1.2 ⟨by simpa using he,T⟩,rfl⟩;have I:∀m∈m7 O.aP (m8 g l),∃q∈l,m=(q.1,g.getD q.1 default,O.aP+q.1,q.2):=λm B=>by obtain ⟨y,hy,rfl⟩:=zj.1 B;obtain ⟨q,r,rfl⟩:=zj.1 hy;exact ⟨q,r,rfl⟩
 have ac:∃(d:Nat) (zz:List IV) (tt:TypeId) (m:jV),m∈m7 O.aP (m8 g l)/\m.1=e0/\Jn P ops m d zz tt:=by unfold zeroAt at H;split at H;{rename_i o d zz bm al;simp only[zi,beq_iff_eq]at H;have⟨⟨u,F⟩,h3⟩:=H;have W:ops[e0]? = zc o:=(by simpa using bm);have ak:e0<g.length:=(List.getElem?_eq_some_iff.1 al).1;have⟨q,r,D⟩:=qe.1 (Z e0 (qa.2 ak));have D:q.1=e0:=(by simpa using D);have bz:g.getD q.1 default=⟨zc d,zn,.alloc zz⟩:=(by rw[D,zq,al];rfl);split at u;{rename_i tt aR;have⟨V,M,S⟩:=E9 (base:=O.aP) g 0 e0 (qh _) om;have⟨o2,g1,G⟩:=Fa ops.toList g 0 rfl hc V M;rw[S,W]at g1;cases g1;have bx:V.2.1=⟨zc d,zn,.alloc zz⟩:=(by have:∀(g:List bZ)(i:Nat),∀m∈mG O.aP i g,g[m.1-i]? = zc m.2.1:=(by intro g;induction g with|nil=>intro i m h;cases h|cons o os ih=>intro i m h;rcases zh.1 h with rfl|h;{simp};have u:=Fx os _ m h;have F:=ih _ m h;rw[show m.1-i=(m.1-(i+1))+1 from by omega];simpa using F);have:=this g 0 V M;rw[S,Nat.sub_zero,al]at this;exact (zc.inj this).symm);rw[bx]at G;have bc:jm P tt=zc zz:=(by unfold tF at G;cases A:vU P pf (o.dst.any λt=>pf.contains (1000000+t)) o.op with|none=>rw[A]at G;cases G|some k=>have bv:k=.alloc zz:=(by rw[A]at G;simp only at G;split at G;{split at G;{have g3:=zc.inj G;injection g3};split at G;{have g3:=zc.inj G;injection g3};cases G};cases G);subst bv;rw[aR]at A;simp only[vU,AY]at A;cases ay:jm P tt with|none=>rw[ay]at A;simp[NG]at A|some z'=>rw[ay]at A;simp at A;rw[A]);refine ⟨d,zz,tt,(q.1,g.getD q.1 default,O.aP+q.1,q.2),zj.2 ⟨_,zj.2 ⟨q,r,rfl⟩,rfl⟩,D,bz,?_,bc,o,by rw[D];exact W,aR,by simpa using F,h3⟩;rcases bs q r with h4|h4;{exact au D h4};exact h4};cases u};cases H
 have⟨zd,zz,tt,ax,bd,be,bh⟩:=ac;refine TH (d:=zd) (te:=tt) (z:=zz) (e:=ax) (E:=E) (pf:=pf) (N:=N) (anc:=λk j=>(ms.getD j 0).testBit k=true) (n0:=n0) (base:=O.aP) (ρ0:=ρ) (w0:=w) (ds:=a.defers) (K:=λfr' O'=>Q .normal (fr'.aT ks) O') ?_ ?_ ?_ ?_ bh ops.size (m7 O.aP (m8 g l)) [] _ fr { O with aP:=O.aP+l.length } ρ w.drew a (by simp[m7,m8,aZ,J]) ?_ ?_ h (Fb (CX hs) (λi hi=>hs.fresh i om)) (hf.mono (pQ 0)) rfl ((pQ n0).b9 (zs _)) hn (by rw[aZ,J];exact zs _) ?_;{intro f f' s bA hK;have:f'.aT ks=f.aT ks:=(by unfold a8.aT;exact z0 λk _=>by rw[bA k]);rw[this];exact hK};{intro fr' O' ρ' w' a' bq hK bi bP cb hx;exact ⟨fr'.aT ks,O',ρ',bq,hK,bi,bP.aT ks,by rw[cb];exact hd.mono hx,hr.mono hx,hx⟩};{intro j o X e he T;have:=EI _ _ ca j _ (am j o X) _ (bb o e he T);have hj:j<ops.size:=(by rcases zm j ops.size with h'|h';{exact h'};simp[zf h']at X);omega};{intro k j A o X;have:=HA _ _ aW j _ (am j o X);simp only[qc]at this;rw[this]at A;rcases Iz _ _ A with u|⟨e,he,u⟩;{simp at u};have⟨ed,ap,T,an⟩:=bt o e he;exact ⟨ed,ap,T,by rw[an];exact u⟩};{refine ⟨by simp,λj hj=>?_,λm B=>?_,?_,?_⟩;{constructor;{intro _;have:=Z j (by simp[qa,J,hj]);have⟨q,r,he⟩:=qe.1 this;have he:q.1=j:=(by simpa using he);exact ⟨(q.1,g.getD q.1 default,O.aP+q.1,q.2),zj.2 ⟨_,zj.2 ⟨q,r,rfl⟩,rfl⟩,he,λh=>by cases h⟩};intro _;simp[hj]};{obtain ⟨q,r,rfl⟩:=I m B;have cg:=U q r;have ce:q.1<ops.size:=om;have⟨V,M,S⟩:=E9 (base:=O.aP) g 0 q.1 (qh _) om;have⟨o,u,F⟩:=Fa ops.toList g 0 rfl hc V M;have Y:g[q.1]? = zc V.2.1:=(by have:∀(g:List bZ)(i:Nat),∀m∈mG O.aP i g,g[m.1-i]? = zc m.2.1:=(by intro g;induction g with|nil=>intro i m h;cases h|cons o os ih=>intro i m h;rcases zh.1 h with rfl|h;{simp};have u:=Fx os _ m h;have F:=ih _ m h;rw[show m.1-i=(m.1-(i+1))+1 from by omega];simpa using F);have:=this g 0 V M;rw[S]at this;simpa using this);have hd:g.getD q.1 default=V.2.1:=(by simp[zq,Y]);rw[S]at u;refine ⟨o,u,by simp only[hd];exact F,rfl,?_⟩;simp only[hd];exact hq _ (ql Y)};{refine (Kg (base:=O.aP) (zs _) _ ad).imp ?_;intro p x ⟨u,F,h3⟩;refine ⟨by rw[be];exact u,F,λo X e he T an=>h3 ?_⟩;have:(ops.toList.map fg).getD p.1 []=fg o:=(by rw[zq,am p.1 o X];rfl);rw[this,<- an];exact bb o e he T};intro j hj;exfalso;by_cases U:j<ops.size;{simp[U]at hj};simp[U]at hj};{intro m B bY;have bl:=Kg (base:=O.aP) (zs _) _ ad;refine z6 λbn=>?_;have bp:((m7 O.aP (m8 g l)).map (·.1)).Nodup:=(by rw[zp,zy];exact bl.imp λh=>h.2.1);have:∀(L:List jV),(L.map (·.1)).Nodup->∀a∈L,∀id∈L,a.1=id.1->a=id:=(by intro L;induction L with|nil=>intro _ a ha;cases ha|cons c L ih=>intro hn a ha id T av;have⟨u,F⟩:=qi.1 (show (c.1::L.map (·.1)).Nodup from hn);rcases zh.1 ha with rfl|ha<;>rcases zh.1 T with rfl|T;{rfl};{exact au (show a.1∈L.map (·.1) from zj.2 ⟨id,by assumption,av.symm⟩) u};{exact au (show id.1∈L.map (·.1) from zj.2 ⟨a,by assumption,av⟩) u};exact ih F a ha id T av);exact bn (this _ bp m B ax bd bY)};intro m B;obtain ⟨q,r,rfl⟩:=I m B;exact hs.fresh _ (by show O.aP<=O.aP+q.1;omega)
end Go.Id
namespace Go.Id
open Go
variable {P:Program} {w w' w'':World} {ρ ρ' ρ'':bC} {E:Nat->IV} {O O':aQ} {N n n':Nat} {fr:a8} {a:Act} {pf:List Nat}
inductive IC where|skip|lF (id:Nat)(ops:List bZ)(aT:List Nat)|se (id:Nat)(ops:List bZ)(B:Bool)(aT:List Nat)|qP (id:Nat)(ops:List YO)(aT:List Nat)|seq (a b:IC)|cond (x:IX)(a b:IC)|block (id:Nat)(a:IC)|loop (a:IC)|exit (id:Nat)|ret|mu (g:IX)(ps:List Nat)(asg a:IC)|scope (a:IC) deriving Inhabited
abbrev lZ:=List (Nat×List Nat)
abbrev vS:IC:=.lF 0 [⟨zn,zn,.st .nev []⟩] []
def dH(P:Program)(pf:List Nat)(N:Nat)(an:lZ):Code->Option IC|.skip=>zc .skip|.label _=>zc .skip|.region id ops draw=>(match draw,pg P pf N ops ops.toList with|false,zc ios=>zc (.lF id ios ((an.lookup id).getD []))|true,zc ios=>if P.follows .mixedOrders=true/\GP (ops.toList.map fg) ios (Dy ios)=true/\(pf.contains 2000000&&Dy ios)=false then zc (.se id ios (Dy ios) ((an.lookup id).getD [])) else if P.follows .mixedOrders=true/\(yOK (ops.toList.map fg) ios (vz (ops.toList.map fg) ios)||zOK ops.toList (ops.toList.map fg) ios (vz (ops.toList.map fg) ios) (zAt (ops.toList.map fg) ios))=true then zc (.qP id (m8 ios (vz (ops.toList.map fg) ios)) ((an.lookup id).getD [])) else zc vS|_,_=>zc vS)|.seq a b=>(match dH P pf N an a,dH P pf N an b with|some x,zc y=>zc (.seq x y)|_,_=>zn)|.cond c a b=>(match bN c,dH P pf N an a,dH P pf N an b with|some i,zc x,zc y=>zc (.cond i x y)|_,_,_=>zc vS)|.block id a=>(dH P pf N an a).map (.block id)|.loop a=>(dH P pf N an a).map .loop|.exit id=>zc (.exit id)|.ret=>zc .ret|.rangeFunc g ps assign body=>(match dH P pf N an assign,bN g,dH P pf N an body with|some y,zc i,zc x=>if ps.toList.all (λp=>decide (p<N)) then zc (.mu i ps.toList y x) else zc vS|_,_,_=>zc vS)|.scope a=>(dH P pf N an a).map .scope|_=>zc vS
def RI(P:Program)(E:Nat->IV)(N n0:Nat)(ic:IC)(fr:a8)(O:aQ)(Q:Exit->a8->aQ->Prop):Prop :=∀(pf:List Nat)(an:lZ)(c:Code),dH P pf N an c=zc ic->R P E N n0 c fr O Q
def nk(P:Program)(E:Nat->IV)(N n0:Nat):IC->a8->aQ->(Exit->a8->aQ->Prop)->Prop|.skip,fr,O,Q=>Q .normal fr O|.lF _ ops aT,fr,O,Q=>nM P E ops O.aP fr { O with aP:=O.aP+nN ops } (λfr' O'=>Q .normal (fr'.aT aT) O')|.se _ ops B aT,fr,O,Q=>j9 P E B (mG O.aP 0 ops) fr { O with aP:=O.aP+ops.length } (λfr' O'=>Q .normal (fr'.aT aT) O')|.qP _ ops aT,fr,O,Q=>fH P E (m7 O.aP ops) [] fr { O with aP:=O.aP+ops.length } (λfr' O'=>Q .normal (fr'.aT aT) O')|.seq a b,fr,O,Q=>nk P E N n0 a fr O (λe fr' O'=>match e with|.normal=>nk P E N n0 b fr' O' Q|e=>Q e fr' O')|.cond x a b,fr,O,Q=>∃t,x.ev E fr=.bool t/\if t then nk P E N n0 a fr O Q else nk P E N n0 b fr O Q|.block id a,fr,O,Q=>nk P E N n0 a fr O (rI id Q)|.loop a,fr,O,Q=>RI P E N n0 (.loop a) fr O Q|.exit id,fr,O,Q=>Q (.exit id) fr O|.ret,fr,O,Q=>Q .ret fr O|.mu g ps y a,fr,O,Q=>RI P E N n0 (.mu g ps y a) fr O Q|.scope a,fr,O,Q=>nk P E N n0 a fr O (uW Q)
variable {b:Nat}{Q:Exit->a8->aQ->Prop}
def ZZ{c:Code}{ks:List Nat}(h:R P E N b c fr O (λe fr' O'=>Q e (fr'.aT ks) O')):R P E N b c fr O Q :=λk i h0 ρ w a hs hf m j=>wpIn_mono (h k i h0 ρ w a hs hf m j) λ_ _ _ ⟨fr',O',ρ',f,q,d,g,o⟩=>⟨fr'.aT ks,O',ρ',f,q,d,g.aT ks,o⟩
def wF(h:nk P E N b vS fr O Q):False:=by have⟨c,ha,h⟩:=h;cases ha;have⟨r,d,_⟩:=h;cases d
theorem XA {n0:Nat}{an:lZ}:∀(c:Code) (j:IC) (fr:a8) (O:aQ) (Q:Exit->a8->aQ->Prop),dH P pf N an c=zc j->nk P E N n0 j fr O Q->R P E N n0 c fr O Q:=by
 intro c
 induction c with
 | skip=>intro j fr O Q hc h;cases hc;exact ki3 h
 | label l=>intro j fr O Q hc h;cases hc;exact ZY h
 | region id ops draw=>
  intro j fr O Q hc h;simp only[dH] at hc;split at hc
  ·rename_i d f;cases hc;exact ZZ (XU (Q:=λe fr' O'=>Q e (fr'.aT _) O') f h)
  ·rename_i d f;by_cases o:P.follows .mixedOrders=true/\GP (ops.toList.map fg) d (Dy d)=true/\(pf.contains 2000000&&Dy d)=false
   ·rw[if_pos o] at hc;cases hc;exact Vp o.1 f o.2.1 h
   ·rw[if_neg o] at hc;by_cases k:P.follows .mixedOrders=true/\(yOK (ops.toList.map fg) d (vz (ops.toList.map fg) d)||zOK ops.toList (ops.toList.map fg) d (vz (ops.toList.map fg) d) (zAt (ops.toList.map fg) d))=true
    ·rw[if_pos k] at hc;cases hc;have s:(m8 d (vz (ops.toList.map fg) d)).length=(vz (ops.toList.map fg) d).length:=by simp[m8]
     rcases (Bool.or_eq_true_iff.1 k.2) with m|u
     ·refine Vs (ks:=(an.lookup id).getD []) k.1 f m ?_;rw[<- s];exact h
     ·refine Vx (ks:=(an.lookup id).getD []) k.1 f u ?_;rw[<- s];exact h
    ·rw[if_neg k] at hc;cases hc;exact (wF h).elim
  ·cases hc;exact (wF h).elim
 | seq a b iha ihb=>
  intro j fr O Q hc h;simp only[dH] at hc;split at hc
  ·rename_i x y r m;cases hc;refine PU ((iha _ fr O _ r h).mono ?_);intro e fr' O' q
   cases e with
   | normal=>exact ihb _ fr' O' Q m q
   | _=>exact q
  ·cases hc
 | cond c a b iha ihb=>
  intro j fr O Q hc h;simp only[dH] at hc;split at hc
  ·rename_i i x y hi r m;cases hc;obtain ⟨t,z,h⟩:=h;refine OJ hi z ?_
   cases t with
   | true=>exact iha _ fr O Q r h
   | false=>exact ihb _ fr O Q m h
  ·cases hc;exact (wF h).elim
 | block id a ih=>
  intro j fr O Q hc h;obtain ⟨y,m,he⟩:=map_some hc;cases he
  exact Nx (ih _ fr O _ m h)
 | loop a ih=>
  intro j fr O Q hc h;have p:=hc;obtain ⟨y,m,he⟩:=map_some hc;cases he
  exact h pf an _ p
 | scope a ih=>
  intro j fr O Q hc h;obtain ⟨y,m,he⟩:=map_some hc;cases he
  exact Ny (ih _ fr O _ m h)
 | exit id=>intro j fr O Q hc h;cases hc;exact ki4 h
 | ret=>intro j fr O Q hc h;cases hc;exact lc2 h
 | rangeFunc g ps assign body _ _=>
  intro j fr O Q hc h;have p:=hc;simp only[dH] at hc;split at hc
  ·split at hc
   ·cases hc;exact h pf an _ p
   ·cases hc;exact (wF h).elim
  ·cases hc;exact (wF h).elim
 | _=>intro j fr O Q hc h;cases hc;exact (wF h).elim
def CM(d:IC)(fr:a8)(O:aQ)(Q:Exit->a8->aQ->Prop)(h:nk P E N b d fr O Q):RI P E N b d fr O Q :=λpf an c hc=>XA (pf:=pf) (an:=an) c d fr O Q hc h
variable {x:IC}
def Nz(I:Nat->a8->aQ->Prop)(m:Nat)(h:I m fr O)(e:∀m fr O,I m fr O->nk P E N b x fr O (vu I m Q)):RI P E N b (.loop x) fr O Q:=by intro pf an c hc;cases c with|loop c=>have⟨y,d,he⟩:=map_some hc;cases he;exact OL I m h (λm fr O hi=>CM _ _ _ _ (e m fr O hi) pf an _ d)|region id ops draw=>exfalso;simp only[dH]at hc;split at hc;{cases hc};{split at hc<;>first|(cases hc;done)|(split at hc<;>cases hc)};cases hc|seq a f=>simp only[dH]at hc;split at hc<;>cases hc|cond c a f=>simp only[dH]at hc;split at hc<;>cases hc|block id a=>have⟨_,_,h⟩:=map_some hc;cases h|scope a=>have⟨_,_,h⟩:=map_some hc;cases h|rangeFunc g ps assign body=>exfalso;simp only[dH]at hc;split at hc;{split at hc<;>cases hc};cases hc|_=>cases hc
inductive JX where|ret|exit (i:Nat) deriving Inhabited
def JX.code:JX->Code|.ret=>.ret|.exit i=>.exit i
def Gs(Q:Exit->a8->aQ->Prop)(fr:a8)(O:aQ):Option JX->Prop|none=>Q .normal fr O|some .ret=>Q .ret fr O|some (.exit i)=>Q (.exit i) fr O
def uX(id:Nat)(L:LoopState->Option JX->bU)(K:IV->aQ->Prop):Exit->a8->aQ->Prop|.normal,_,O=>O.aR id=zc (L .busy zn)/\K (.bool true) (O.put id (L .ready zn))|.ret,_,O=>O.aR id=zc (L .busy zn)/\K (.bool false) (O.put id (L .done (zc .ret)))|.exit i,_,O=>O.aR id=zc (L .busy zn)/\K (.bool false) (O.put id (L .done (zc (.exit i))))|_,_,_=>False
def Mz{n0:Nat}{g:IX}{ps:List Nat}{y:IC}{Q:Exit->a8->aQ->Prop}(h:∀L:LoopState->Option JX->bU,(∀(O':aQ)(args:List IV)(K:IV->aQ->Prop),args.length=ps.length->O'.aR O.aP=zc (L .ready zn) -> RI P E N O'.aP x (rR fr ps args) O' (λe f s=>e=.normal/\s.aR O.aP=zc (L .ready zn)/\RI P E N O'.aP y f (s.put O.aP (L .busy zn)) (uX O.aP L K))->CYd P E O.aP args O' K) -> CVf P E (g.ev E fr) [.yield O.aP] ⟨O.aP+1,(O.put O.aP (L .ready zn)).aR⟩ λ_ z=>O.aP<=z.aP/\∃o d,o≠.busy/\z.aR O.aP=zc (L o d)/\Gs Q fr (z.kill O.aP) d): RI P E N n0 (.mu g ps x y) fr O Q:=by intro pf an c hc;cases c with|rangeFunc go psA assign body=>simp only[dH]at hc;split at hc;{rename_i S i M k hi B;split at hc;{rename_i m;cases hc;have t:∀p∈psA.toList,p<N:=λp D=>(by simpa using zt.1 m p D);have J:=h (λs p=>.loop N fr psA.toList.toArray assign body s (p.map JX.code)) (λO' args K H F I=>by refine km2 t H F ((I pf an assign k).mono λe f s q=>⟨q.1,q.2.1,(q.2.2 pf an body B).mono λe f s q=>?_⟩);cases e with|normal=>exact q|ret=>exact q|exit i=>exact q|_=>exact q.elim);exact Sr (n0:=n0) (Q:=Q) (ps:=psA.toList) (asg:=assign) (body:=body) (E:=E) (fr:=fr) (O:=O) (N:=N) hi (J.mono (by rintro v s ⟨G,o,d,r,u,A⟩;refine ⟨G,o,d.map JX.code,r,u,?_⟩;cases d with|none=>exact A|some j=>cases j<;>exact A))};cases hc};cases hc|region id ops draw=>exfalso;simp only[dH]at hc;split at hc;{cases hc};{split at hc<;>first|(cases hc;done)|(split at hc<;>cases hc)};cases hc|seq a b=>simp only[dH]at hc;split at hc<;>cases hc|cond c a b=>simp only[dH]at hc;split at hc<;>cases hc|block id a=>have⟨_,_,h⟩:=map_some hc;cases h|scope a=>have⟨_,_,h⟩:=map_some hc;cases h|loop a=>have⟨_,_,h⟩:=map_some hc;cases h|_=>cases hc
def gM{Q f:Exit->a8->aQ->Prop}(h:RI P E N b x fr O Q)(d:∀e fr O,Q e fr O->f e fr O):RI P E N b x fr O f :=λpf an c hc=>(h pf an c hc).mono d
end Go.Id
