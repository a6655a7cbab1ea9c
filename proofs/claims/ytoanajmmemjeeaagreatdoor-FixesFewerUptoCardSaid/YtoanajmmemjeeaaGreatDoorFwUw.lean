/- The interpreter,turned so that the kernel runs it in fewer steps; it is the same function. Conditions: none; over any program. -/
import Derived.Test.YtoanajmmemjeeaaGreatDoorFwQ
open List renaming getD_eq_getElem?_getD→za,length_append→zb
set_option linter.all false
namespace Go.Id
open Go
noncomputable section
variable {E:Nat->IV} {fr:a8}
end
end Go.Id
namespace Go.Id
open Go
variable {P:Program} {E:Nat->IV} {O O':aQ} {N n0:Nat} {fr:a8}
def Gw(P:Program)(E:Nat->IV)(N n0:Nat)(b:IC)(Q:Exit->a8->aQ->Prop):Exit->a8->aQ->Prop|.normal,fr,O=>RI P E N n0 b fr O Q|e,fr,O=>Q e fr O
variable {b:IC}{Q:Exit->a8->aQ->Prop}
def lh6:Gw P E N n0 b Q .normal fr O=RI P E N n0 b fr O Q:=nr rfl
def lh7:Gw P E N n0 b Q .ret fr O=Q .ret fr O:=nr rfl
variable {f:Nat}
def lh8:Gw P E N n0 b Q (.exit f) fr O=Q (.exit f) fr O:=nr rfl
attribute [go_sem] lh6 lh7 lh8
def bf(h:fp og mI P E N n0 b fr O Q):RI P E N n0 b fr O Q:=CM b fr O Q (wG cd b fr O Q h)
def bj{a:IC}(h:RI P E N n0 b fr O (Gw P E N n0 a Q)):RI P E N n0 (.seq b a) fr O Q:=by intro pf an c hc;cases c with|seq x y=>simp only[dH]at hc;split at hc;{rename_i k j i d;cases hc;refine PU ((h pf an x i).mono ?_);intro e f s q;cases e with|normal=>exact q pf an y d|_=>exact q};cases hc|region id ops draw=>exfalso;simp only[dH]at hc;split at hc;{cases hc};{split at hc<;>first|(cases hc;done)|(split at hc<;>cases hc)};cases hc|cond c b a=>simp only[dH]at hc;split at hc<;>cases hc|block id b=>have⟨_,_,h⟩:=map_some hc;cases h|scope b=>have⟨_,_,h⟩:=map_some hc;cases h|loop b=>have⟨_,_,h⟩:=map_some hc;cases h|rangeFunc g ps b a=>simp only[dH]at hc;split at hc;{split at hc<;>cases hc};cases hc|_=>cases hc
variable {a:List IV}
def mw{p:List IR}{i:IV->aQ->Prop}(hf:FOK P f (N,b,p))(j:a.length<=N)(h:RI P E N O.aP b (kU a 0) O (qS p i)):C P E f a O i:=by have⟨_,pf,an,o,n,m,g,k⟩:=hf;cases d:o.body with|none=>rw[d]at g;cases g|some c=>rw[d]at g;refine P1 n d m j ((h pf an c g).mono ?_);intro e fr' O' q;have q:=KM q;cases e<;>first|(have⟨vs,q1,q2⟩:=q;exact ⟨vs,by rw[OU _ _ k];exact q1,q2⟩)|exact q
def Jq{c:List IR}{v:IV}(hE:∀g,bM 0 (E g))(hf:FOK P f (N,b,c))(e:a.length<=N)(ha:∀i∈a,bM 0 i)(h:RI P E N 0 b (kU a 0) emp (qS c λd O'=>gH O' 0 d v)):PC P E f a v :=MC hE ha (mw (O:=emp) hf e h)
def TN {S:Nat->Bool}:(O.cz S).aP=O.aP:=nr rfl
def EM{S:Nat->Bool}:(O.cz S).aR f=if S f=true then O.aR f else none:=nr rfl
attribute [go_sem] TN EM
def ID{args':List IV}{v:IV}(b:args'.length=a.length)(ha:∀O i,i<a.length->de O (λ_=>true=true) (a.getD i .undef) (args'.getD i .undef))(h:PC P E f args' v):PC P E f a v:=λO=>I6 (S:=λ_=>true) b (ha O) (h O)
end Go.Id
namespace Go.Id
open Go
variable {P:Program} {E:Nat->IV} {O O':aQ} {N n0:Nat} {fr:a8}
end Go.Id
namespace Go.Id
open Go
variable {P:Program} {E:Nat->IV} {O O':aQ} {N n0:Nat} {fr:a8}
def DT(P:Program)(E:Nat->IV)(base:Nat):List YO->a8->aQ->(a8->aQ->Prop)->Prop|[],fr,O,K=>K fr O|(i,o,m)::rest,fr,O,K=>(m=0/\o.guard=none)/\ek og mI P E o.op (base+i) fr O λv O'=>DT P E base rest (fr.bS o.dst v) O' K
def PZ (P:Program)(E:Nat->IV)(base:Nat)(rest:List YO)(d:Option Nat)(fr:a8)(K:a8->aQ->Prop):IV->aQ->Prop:=λv O'=>DT P E base rest (fr.bS d v) O' K
variable {base i:Nat} {Kf:a8->aQ->Prop} {d:Option Nat} {rest:List YO}
def lr5:DT P E base [] fr O Kf=Kf fr O:=nr rfl
def lr6 {d:Nat}(v:IV):PZ P E base rest (some d) fr Kf v O=DT P E base rest ((d,v)::fr) O Kf:=nr rfl
def ld2 (v:IV):PZ P E base rest none fr Kf v O=DT P E base rest fr O Kf:=nr rfl
def ld3:List.length ([]:List YO)=0:=nr rfl
def ld4 {y:YO}:List.length (y::rest)=rest.length+1:=nr rfl
attribute [go_sem] lr5  lr6 ld2 ld3 ld4
def Vy{a t vs:List IV}{k:Nat}(h:k+vs.length<=a.length):cO (a++t) k vs=cO a k vs++t:=by unfold cO;rw[List.take_append_of_le_length (by omega),List.drop_append_of_le_length h];simp
def KH{a t vs:List IV}{k:Nat}:cO (a++t) (a.length+k) vs=a++cO t k vs:=by unfold cO;rw[List.take_append,List.take_of_length_le (by omega),List.drop_append,List.drop_of_length_le (by omega)];have c:a.length+k-a.length=k:=(by omega);have b:a.length+k+vs.length-a.length=k+vs.length:=(by omega);rw[c,b];simp
end Go.Id
namespace Go.Id
open Go
variable {P:Program} {E:Nat->IV} {O O':aQ} {N n0:Nat} {fr:a8}
def m9(E:Nat->IV):List LE->Nat->aQ->Prop|[],_,_=>True|e::L,m,O=>(e.1<0\/(m.testBit e.1=true->cJ E [] O e.2.1=some e.2.2))/\m9 E L m O
def Z1{m:Nat}:∀ {L:List LE},m9 E L m O->qQ E L m O:=by intro L;induction L with|nil=>intro _ e he;cases he|cons a L ih=>rintro ⟨c,b⟩ e he;rcases List.mem_cons.1 he with rfl|he;{exact c.resolve_left (Nat.not_lt_zero _)};exact ih b e he
def sP(P:Program)(E:Nat->IV)(base:Nat):List YO->List LE->a8->aQ->(a8->aQ->Prop)->Prop|[],_,fr,O,K=>K fr O|(i,o,m)::rest,L,fr,O,K=>o.guard=none/\ek og mI P E o.op (base+i) fr O λv O'=>m9 E L m O'/\sP P E base rest (dp E fr i o.op v L) (fr.bS o.dst v) O' K
def Jp (P:Program)(E:Nat->IV)(base:Nat)(rest:List YO)(L:List LE)(m:Nat)(d:Option Nat)(fr:a8)(i:Nat)(op:IK)(K:a8->aQ->Prop):IV->aQ->Prop:=λv O'=>m9 E L m O'/\sP P E base rest (dp E fr i op v L) (fr.bS d v) O' K
def Sn{base:Nat}{K:a8->aQ->Prop}:∀(ops:List YO)(L:List LE)(fr:a8)(O:aQ),sP P E base ops L fr O K->fH P E (m7 base ops) L fr O K:=by intro ops;induction ops with|nil=>intro L fr O h;exact h|cons o os ih=>have⟨i,⟨d,g,op⟩,m⟩:=o;rintro L fr O ⟨a,h⟩;simp only at a h;subst a;refine .inl ⟨rfl,ki (λv s k=>⟨Z1 k.1,ih _ _ _ k.2⟩) (CO cd h)⟩
variable {j:Nat}
def ox{ops:List YO}{aT:List Nat}{Q:Exit->a8->aQ->Prop}(h:sP P E O.aP ops [] fr ⟨O.aP+ops.length,O.aR⟩ (GA aT Q)):RI P E N n0 (.qP j ops aT) fr O Q :=bf (show fp og mI P E N n0 (.qP j ops aT) fr O Q from Sn ops [] fr _ h)
variable {base i m:Nat} {Kf:a8->aQ->Prop} {d:Option Nat} {rest:List YO} {L:List LE}
def lr7:sP P E base [] L fr O Kf=Kf fr O:=nr rfl
variable {a:IK}
def lr8:sP P E base ((i,⟨d,none,a⟩,m)::rest) L fr O Kf=ek og mI P E a (base+i) fr O (Jp P E base rest L m d fr i a Kf):=by simp[sP];rfl
def lr9{d:Nat}(v:IV):Jp P E base rest L m (some d) fr i a Kf v O=(m9 E L m O/\sP P E base rest (dp E fr i a v L) ((d,v)::fr) O Kf):=nr rfl
def ld5(v:IV):Jp P E base rest L m none fr i a Kf v O=(m9 E L m O/\sP P E base rest (dp E fr i a v L) fr O Kf):=nr rfl
def ld6:m9 E [] m O=True:=nr rfl
def ld7:∀L:List LE,m9 E L 0 O=True:=by intro L;induction L with|nil=>rfl|cons e L ih=>simp[m9,ih]
variable {q:IQ}
def oD{v:IV}(h:m.testBit j=false):m9 E ((j,q,v)::L) m O=m9 E L m O:=by simp[m9,h]
def lu{v:IV}(h:m.testBit j=true):m9 E ((j,q,v)::L) m O=(cJ E [] O q=some v/\m9 E L m O):=by simp[m9,h]
def uc{v:IV}(h:q.kind=0):dp E fr i (.q q) v L=L:=by simp[dp,h]
variable {x:IX}
def ls1{a:Option Nat}{v:IV}:dp E fr i (.q (.load a x)) v L=(i,.load a (.c (x.ev E fr)),v)::L:=by have:(IQ.load a x).kind≠0:=(by simp[IQ.kind]);simp[dp,this,qG]
def ld8{y z:IX}{v:IV}:dp E fr i (.oP j x y z) v L=L:=nr rfl
def ld9{v:IV}:dp E fr i (.q (.tR j x)) v L=L:=uc rfl
def le1{v:IV}:dp E fr i (.q (.lh x)) v L=L:=uc rfl
attribute [go_sem] lr7 lr8 lr9 ld5 ld6 ld7 ls1 ld8 ld9 le1
end Go.Id
namespace Go.Id
open Go
variable {P:Program} {E:Nat->IV} {O O':aQ} {N n0:Nat} {fr:a8} {ρ:bC} {w:World}
def Less (cs cs':List IV):Prop:=cs'.length<=cs.length/\∀j,j<cs'.length->cs'.getD j .undef=cs.getD j .undef\/cs'.getD j .undef=sL (cs.getD j .undef)
def LH(pre cs:List IV)(m:Nat):Less (pre++cs) (pre++cs.take m):=by refine ⟨by simp only[zb,List.length_take];omega,λj a=>.inl ?_⟩;simp only[za,List.getElem?_append,List.getElem?_take];simp only[zb,List.length_take]at a;split;{rfl};rw[ab (by omega)]
def ju1(cs:List IV):Less cs (cs.map sL):=⟨by rw[List.length_map];exact Nat.le_refl _,λj a=>.inr (by rw[List.length_map]at a;simp[za,a])⟩
variable {n:Nat}{z:List IV}
def iW.less{d:Nat}{cs:List IV}(h:iW ρ w n d cs)(c:Less cs z):iW ρ w n d z:=by have⟨b,el,j,k,g⟩:=h;refine ⟨b,el,j,by have:=c.1;omega,λi hi=>?_⟩;have f:=g i (Nat.lt_of_lt_of_le hi c.1);rcases c.2 i hi with e|e;{rw[e];exact f};rw[e];exact Ln f
def OT (O O':aQ):Prop:=O'.aP=O.aP/\∀i,O'.aR i=O.aR i\/∃cs cs',Less cs cs'/\(O.aR i=some (.cells cs)/\O'.aR i=some (.cells cs')\/O.aR i=some (.row cs)/\O'.aR i=some (.row cs'))
def bF.lesser (hs:bF E ρ w O)(h:OT O O'):bF E ρ w O' where
 inj:=hs.inj
 lt:=hs.lt
 aR:=λi B d hi=>by
  have⟨o,a,j⟩:=hs.aR i B d hi;rcases h.2 i with e|⟨cs,f,g,⟨b,c⟩|⟨b,c⟩⟩
  .exact ⟨o,by rw[e];exact a,j⟩
  .rw[b] at a;cases a;exact ⟨_,c,iW.less j g⟩
  .rw[b] at a;cases a;exact ⟨_,c,iW.less j g⟩
 dead:=λi hi=>by
  have a:=hs.dead i hi;rcases h.2 i with e|⟨cs,f,g,⟨b,c⟩|⟨b,c⟩⟩
  .rw[e];exact a
  .rw[b] at a;cases a
  .rw[b] at a;cases a
 fresh:=λi hi=>hs.fresh i (by rw[<- h.1];exact hi)
 eI:=λi hi=>by
  have a:=hs.eI i hi;rcases h.2 i with e|⟨cs,f,g,⟨b,c⟩|⟨b,c⟩⟩
  .rw[e];exact a
  .rw[b] at a;cases a
  .rw[b] at a;cases a
 env:=hs.env
 nx:=hs.nx
 gh:=hs.gh
def ju2{b:IC}{Q:Exit->a8->aQ->Prop}(e:OT O O')(h:RI P E N n0 b fr O' Q):RI P E N n0 b fr O Q :=λpf an c hc g f h0 ρ w a hs=>h pf an c hc (by rw[e.1];exact g) f h0 ρ w a (hs.lesser e)
variable {i d:Nat} {x y:IX} {v:IV} {L:List LE}
def li1:dp E fr i (.q (.vR x)) v L=L:=uc rfl
def li2{ps:List (Nat×Nat×IX)}:dp E fr i (.q (.bld z ps)) v L=L:=uc rfl
def li3:dp E fr i (.q (.tS n x y)) v L=L:=uc rfl
def li4 {o:BinOp}:dp E fr i (.q (.bin o x y)) v L=L:=uc rfl
def li5:dp E fr i (.q (.ext n x)) v L=L:=uc rfl
def li6{xs:List IX}:dp E fr i (.call n xs) v L=L:=rfl
def li7:dp E fr i (.store n x y) v L=L:=rfl
def li8{e:Nat}{ps:List (Nat×Nat×IX)}:dp E fr i (.ju n e z ps) v L=L:=rfl
def li9:dp E fr i (.app n x y) v L=L:=rfl
def lj1:dp E fr i (.box x) v L=L:=rfl
def lj3{lo hi mx:IX}:cJ E fr O (.clp n x lo hi mx)=Cc n (x.ev E fr) (lo.ev E fr) (hi.ev E fr) (mx.ev E fr):=nr rfl
attribute [go_sem] lj3 li1 li2 li3 li4 li5  li6 li7 li8 li9 lj1
end Go.Id
