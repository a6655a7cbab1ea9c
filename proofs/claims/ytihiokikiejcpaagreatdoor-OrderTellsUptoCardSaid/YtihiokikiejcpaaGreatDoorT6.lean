/- Running compiled codes on ideal values: a function,and its proof. Conditions: none; over any program. -/
import Derived.Test.YtihiokikiejcpaaGreatDoorFwV
import Derived.WideKeyElems2
import Derived.OpenShut
import Derived.FnData
import Derived.Below
import Derived.ChangeSame
import Derived.CallsIn
import Derived.ChangeArms
import Derived.MakeChecks
set_option linter.all false
namespace Go.Id
open Go
variable {P:Program} {E:Nat->IV} {σ σ':Store} {N n n0:Nat} {fr:Frm}
inductive dy3 where
 | o (x:ak4)
 | loop (N:Nat) (fr:Frm) (ps:List Nat) (asg body:IC) (st:LoopState) (pend:Option JX)
 | app (rev:List (List IV)) (n:Nat) (h:rev.reverse.flatten.length=n/\rev.reverse.flatten.all IV.leaf=true)
 deriving Inhabited
def dy3.fin:Option dy3->Option dy3
 | some (.app rev _ _)=>some (.o (.row rev.reverse.flatten))
 | x=>x
inductive Tr where
 | e
 | n (v:Option dy3) (l r:Tr)
 deriving Inhabited
def Tr.raw:Tr->Nat->Option dy3
 | .e,_=>none
 | .n v l r,i=>bif Nat.beq i 0 then v else bif Nat.beq (i%2) 1 then l.raw (i/2) else r.raw (i/2-1)
def Tr.get (t:Tr)(i:Nat):Option dy3:=dy3.fin (t.raw i)
def Tr.set (x:Option dy3):Nat->Tr->Nat->Tr
 | 0,t,_=>t
 | f+1,.e,i=>bif Nat.beq i 0 then .n x .e .e else bif Nat.beq (i%2) 1 then .n none (Tr.set x f .e (i/2)) .e else .n none .e (Tr.set x f .e (i/2-1))
 | f+1,.n v l r,i=>bif Nat.beq i 0 then .n x l r else bif Nat.beq (i%2) 1 then .n v (Tr.set x f l (i/2)) r else .n v l (Tr.set x f r (i/2-1))
theorem ay5 {α:Type}(a b:Nat)(x y:α):(bif Nat.beq a b then x else y)=if a=b then x else y:=by
 by_cases h:a=b
 ·subst h; simp
 ·have:Nat.beq a b=false:=by rw[<- Bool.not_eq_true,Nat.beq_eq]; exact h
  simp[this,h]
theorem Tr.ha8 (x:Option dy3):∀ (f:Nat) (t:Tr) (i j:Nat),i+1<2^f->(Tr.set x f t i).raw j=if j=i then x else t.raw j:=by
 intro f
 induction f with
 | zero=>intro t i j h; simp at h
 | succ f ih=>
  intro t i j h;have hp:2^(f+1)=2*2^f:=by rw[Nat.pow_succ]; omega
  cases t with
  | e =>
   simp only[Tr.set,ay5];split
   ·rename_i h0; subst h0;simp only[Tr.raw,ay5];split
    ·rfl
    ·split<;>rfl
   ·rename_i h0;split
    ·rename_i h1;simp only[Tr.raw,ay5];by_cases hj:j=0
     ·subst hj; rw[if_pos rfl,if_neg (by omega)]
     ·rw[if_neg hj];split
      ·rename_i h2;rw[ih _ _ _ (by omega)];by_cases hij:j=i
       ·rw[if_pos hij,if_pos (by omega)]
       ·rw[if_neg hij,if_neg (by omega)]; rfl
      ·rw[if_neg (by omega)]
    ·rename_i h1;simp only[Tr.raw,ay5];by_cases hj:j=0
     ·subst hj; rw[if_pos rfl,if_neg (by omega)]
     ·rw[if_neg hj];split
      ·rw[if_neg (by omega)]
      ·rename_i h2;rw[ih _ _ _ (by omega)];by_cases hij:j=i
       ·rw[if_pos hij,if_pos (by omega)]
       ·rw[if_neg hij,if_neg (by omega)]; rfl
  | n v l r=>
   simp only[Tr.set,ay5];split
   ·rename_i h0; subst h0;simp only[Tr.raw,ay5];split
    ·rfl
    ·rfl
   ·rename_i h0;split
    ·rename_i h1;simp only[Tr.raw,ay5];by_cases hj:j=0
     ·subst hj; rw[if_pos rfl,if_neg (by omega)]; rfl
     ·rw[if_neg hj,if_neg hj];split
      ·rename_i h2;rw[ih _ _ _ (by omega)];by_cases hij:j=i
       ·rw[if_pos hij,if_pos (by omega)]
       ·rw[if_neg hij,if_neg (by omega)]
      ·rw[if_neg (by omega)]
    ·rename_i h1;simp only[Tr.raw,ay5];by_cases hj:j=0
     ·subst hj; rw[if_pos rfl,if_neg (by omega)]; rfl
     ·rw[if_neg hj,if_neg hj];split
      ·rw[if_neg (by omega)]
      ·rename_i h2;rw[ih _ _ _ (by omega)];by_cases hij:j=i
       ·rw[if_pos hij,if_pos (by omega)]
       ·rw[if_neg hij,if_neg (by omega)]
theorem Tr.bw2 (x:Option dy3)(f:Nat)(t:Tr)(i j:Nat)(h:i+1<2^f):(Tr.set x f t i).get j=if j=i then dy3.fin x else t.get j:=by
 unfold Tr.get;rw[Tr.ha8 x f t i j h];split<;>rfl
structure XSt where
 next:Nat
 t:Tr
 deriving Inhabited
def XSt.put (xs:XSt)(i:Nat)(x:Option dy3):Option XSt :=
 bif Nat.blt i 1152921504606846976 then some ⟨xs.next,xs.t.set x 64 i⟩ else none
def XSt.st (xs:XSt):Store:=⟨xs.next,fun i=>match xs.t.get i with|some (.o x)=>some x|_=>none⟩
theorem XSt.fn4 {xs xs':XSt}{i:Nat}{x:Option dy3}(h:xs.put i x=some xs'):xs'.next=xs.next/\∀ j,xs'.t.get j=if j=i then dy3.fin x else xs.t.get j:=by
 unfold XSt.put at h
 cases hb:Nat.blt i 1152921504606846976 with
 | false=>rw[hb] at h; cases h
 | true=>
  rw[hb] at h;cases h;have:i<1152921504606846976:=Nat.le_of_ble_eq_true hb;exact ⟨rfl,fun j=>Tr.bw2 x 64 _ i j (by omega)⟩
def YR (P:Program)(E:Nat->IV)(id N:Nat)(fr:Frm)(ps:List Nat)(asg body:IC)(L:LoopState->Option JX->ak4):Prop :=
 ∀ (σ':Store) (args:List IV) (K:IV->Store->Prop),args.length=ps.length->σ'.obj id=some (L .ready none) ->
  RI P E N σ'.next asg (cr2 fr ps args) σ' (fun e f s=>e=.normal/\s.obj id=some (L .ready none)/\RI P E N σ'.next body f (s.put id (L .busy none)) (cm1 id L K))->CYd P E id args σ' K
abbrev Lam:=Nat->LoopState->Option JX->ak4
def XOR (P:Program)(E:Nat->IV)(Λ:Lam)(i:Nat):Option dy3->Option ak4->Prop
 | none,o=>o=none
 | some (.o x),o=>o=some x
 | some (.app rev _ _),o=>o=some (.row rev.reverse.flatten)
 | some (.loop N fr ps asg body st pend),o=>o=some (Λ i st pend)/\YR P E i N fr ps asg body (Λ i)
structure XR (P:Program) (E:Nat->IV) (Λ:Lam) (xs:XSt) (σ:Store):Prop where
 next:xs.next=σ.next
 obj:∀ i,XOR P E Λ i (xs.t.get i) (σ.obj i)
theorem XR.put {Λ:Lam}{xs xs':XSt}{i:Nat}{x:ak4}(h:XR P E Λ xs σ)(hp:xs.put i (some (.o x))=some xs'):XR P E Λ xs' (σ.put i x):=by
 obtain ⟨h1,h2⟩:=XSt.fn4 hp;refine ⟨by rw[h1]; exact h.next,fun j=>?_⟩;rw[h2,aa2];by_cases hj:j=i
 ·rw[if_pos hj,if_pos hj]; rfl
 ·rw[if_neg hj,if_neg hj]; exact h.obj j
theorem XR.kill {Λ:Lam}{xs xs':XSt}{i:Nat}(h:XR P E Λ xs σ)(hp:xs.put i none=some xs'):XR P E Λ xs' (σ.kill i):=by
 obtain ⟨h1,h2⟩:=XSt.fn4 hp;refine ⟨by rw[h1]; exact h.next,fun j=>?_⟩;rw[h2];show XOR P E Λ j _ (if j=i then none else σ.obj j);by_cases hj:j=i
 ·rw[if_pos hj,if_pos hj]; rfl
 ·rw[if_neg hj,if_neg hj]; exact h.obj j
theorem XR.get {Λ:Lam}{xs:XSt}{i:Nat}{x:ak4}(h:XR P E Λ xs σ)(hg:xs.t.get i=some (.o x)):σ.obj i=some x:=by
 have:=h.obj i;rw[hg] at this;exact this
def LeS (s σ:Store):Prop:=∀ i x,s.obj i=some x->σ.obj i=some x
theorem XR.le {Λ:Lam}{xs:XSt}(h:XR P E Λ xs σ):LeS xs.st σ:=by
 intro i x hx;simp only[XSt.st] at hx;split at hx
 ·rename_i y hy; cases hx; exact h.get hy
 ·cases hx
def ap8:Nat->IV->Bool
 | 0,_=>false
 | n+1,v=>match v with
  | .ptr _ _|.slice _ _ _ _|.map _|.yield _|.af1 _ _ _ _|.ae2 _ _ _ _ _=>false
  | .ad4 cs=>cs.all (ap8 n)
  | .aa3 es=>es.all fun e=>e.all (ap8 n)
  | .al4 es=>es.all fun e=>ap8 n e.1&&ap8 n e.2
  | .func _ a b=>a.all (ap8 n)&&b.all (ap8 n)
  | .iface _ v=>ap8 n v
  | .agg cs=>cs.all (ap8 n)
  | .tuple cs=>cs.all (ap8 n)
  | _=>true
theorem ax1:∀ (n:Nat) (v:IV),ap8 n v=true->Bnd 0 v:=by
 intro n
 induction n with
 | zero=>intro v h; cases h
 | succ n ih=>
  intro v h;have all:∀ {cs:List IV},cs.all (ap8 n)=true->∀ c∈cs,Bnd 0 c:=fun h c hc=>ih c (List.all_eq_true.1 h c hc)
  cases v with
  | undef=>exact .undef
  | bool b=>exact .bool b
  | int k x=>exact .int k x
  | str s=>exact .str s
  | af2=>exact .af2
  | ptr id off=>cases h
  | ad4 cs=>exact .ad4 cs (all h)
  | aa1=>exact .aa1
  | ac2=>exact .ac2
  | ae5=>exact .ae5
  | slice a b c d=>cases h
  | aa3 es=>exact .aa3 es fun e he=>all (List.all_eq_true.1 h e he)
  | ae1=>exact .ae1
  | map id=>cases h
  | al4 es=>exact .al4 es (fun e he=>ih _ (by have:=List.all_eq_true.1 h e he; simp at this; exact this.1)) (fun e he=>ih _ (by have:=List.all_eq_true.1 h e he; simp at this; exact this.2))
  | func f a b=>
   simp only[ap8,Bool.and_eq_true] at h
   exact .func f a b (all h.1) (all h.2)
  | yield id=>cases h
  | af3=>exact .af3
  | iface t v=>exact .iface t v (ih v h)
  | af5=>exact .af5
  | agg cs=>exact .agg cs (all h)
  | tuple cs=>exact .tuple cs (all h)
  | af1 a b c d=>cases h
  | ae2 a b c d e=>cases h
def dp1 (E:Nat->IV)(σ:Store)(fr:Frm)(σ':Store)(fr':Frm):Prop :=
 ∀ (ρ:Rho) (w:World),Sim E ρ w σ->∃ ρd:Rho,Sim E ρd w σ'/\(∀ n,Ext n ρ w ρd w)/\∀ (N:Nat) (tmps:Array Value),FR ρ w N fr tmps->FR ρd w N fr' tmps
theorem dp1.trans {σ'':Store}{fr fr' fr'':Frm}(h:dp1 E σ fr σ' fr')(h':dp1 E σ' fr' σ'' fr''):dp1 E σ fr σ'' fr'':=fun ρ w hs=>
 let ⟨ρ1,a1,a2,a3⟩:=h ρ w hs;let ⟨ρ2,b1,b2,b3⟩:=h' ρ1 w a1
 ⟨ρ2,b1,fun n=>(a2 n).trans (b2 n) (Nat.le_refl _),fun N tmps hf=>b3 N tmps (a3 N tmps hf)⟩
theorem dp1.refl (fr:Frm):dp1 E σ fr σ fr:=fun ρ w hs=>⟨ρ,hs,fun n=>Ext.refl _ _ _,fun _ _ h=>h⟩
theorem dp1.of {S:Nat->Bool}{fr fr':Frm}(hf:∀ t,fr'.get t=fr.get t\/Frz σ (fun i=>S i=true) (fr.get t) (fr'.get t)):dp1 E σ fr (σ.kills S) fr':=fun ρ w hs=>by
 obtain ⟨ρd,hs0,hxd,hvd⟩:=bp4 (S:=S) hs;refine ⟨ρd,hs0,hxd,fun N tmps hfr=>⟨hfr.size,fun t=>?_⟩⟩;rcases hf t with e|e
 ·rw[e]; exact (hfr.get t).mono (hxd 0)
 ·exact hvd _ _ _ e (hfr.get t)
end Go.Id
set_option linter.all false
namespace Go.Id
open Go
variable {P:Program} {E:Nat->IV} {σ σ':Store} {N n n0:Nat} {fr:Frm}
inductive XE where
 | normal
 | exit (i:Nat)
 | ret
 deriving Inhabited
def XE.ex:XE->Exit
 | .normal=>.normal
 | .exit i=>.exit i
 | .ret=>.ret
abbrev RD:=Nat->Nat->List IV->XSt->Option (IV×XSt)
where
 he4 (r:IV->IV->Bool):List IV->List IV->Bool
  | [],[]=>true
  | a::x,b::y=>r a b&&he4 r x y
  | _,_=>false
 sameLL (r:IV->IV->Bool):List (List IV)->List (List IV)->Bool
  | [],[]=>true
  | a::x,b::y=>he4 r a b&&sameLL r x y
  | _,_=>false
variable {rd:RD} {Λ:Lam} {xs xs':XSt}
theorem ew2 {pf:List Nat}{an:Ann}{c:Code}{i:Nat}{x:IC}(h:az9 P pf N an c=some (.block i x)):∃ a,c=.block i a/\az9 P pf N an a=some x:=by
 cases c with
 | block id a=>obtain ⟨_,h1,h⟩:=map_some h; cases h; exact ⟨a,rfl,h1⟩
 | scope a=>obtain ⟨_,_,h⟩:=map_some h; cases h
 | region id ops draw=>simp only[az9] at h; split at h<;>first|(cases h; done)|(split at h<;>first|(cases h; done)|(split at h<;>cases h))
 | seq a b=>simp only[az9] at h; split at h<;>cases h
 | cond c a b=>simp only[az9] at h; split at h<;>cases h
 | loop a=>obtain ⟨_,_,h⟩:=map_some h; cases h
 | rangeFunc g ps assign body=>simp only[az9] at h; split at h<;>first|(cases h; done)|(split at h<;>cases h)
 | _=>cases h
theorem fn6 {pf:List Nat}{an:Ann}{c:Code}{x:IC}(h:az9 P pf N an c=some (.loop x)):∃ a,c=.loop a/\az9 P pf N an a=some x:=by
 cases c with
 | loop a=>obtain ⟨_,h1,h⟩:=map_some h; cases h; exact ⟨a,rfl,h1⟩
 | region id ops draw=>simp only[az9] at h; split at h<;>first|(cases h; done)|(split at h<;>first|(cases h; done)|(split at h<;>cases h))
 | seq a b=>simp only[az9] at h; split at h<;>cases h
 | cond c a b=>simp only[az9] at h; split at h<;>cases h
 | block id a=>obtain ⟨_,_,h⟩:=map_some h; cases h
 | scope a=>obtain ⟨_,_,h⟩:=map_some h; cases h
 | rangeFunc g ps assign body=>simp only[az9] at h; split at h<;>first|(cases h; done)|(split at h<;>cases h)
 | _=>cases h
theorem ai8 {i:Nat}{x:IC}{Q:Exit->Frm->Store->Prop}(h:RI P E N n0 x fr σ (bn9 i Q)):RI P E N n0 (.block i x) fr σ Q:=by
 intro pf an c hc;obtain ⟨a,rfl,hx⟩:=ew2 hc;exact fi1 (h pf an a hx)
theorem ee9 {x:IC}{Q:Exit->Frm->Store->Prop}(I:Nat->Frm->Store->Prop)(m:Nat)(h:I m fr σ)(hI:∀ m fr σ,I m fr σ->RI P E N n0 x fr σ (dv9 I m Q)):RI P E N n0 (.loop x) fr σ Q:=by
 intro pf an c hc;obtain ⟨a,rfl,hx⟩:=fn6 hc;exact gp9 I m h fun m fr σ hi=>hI m fr σ hi pf an a hx
end Go.Id
/- Tables of compiled functions. Conditions: none; over any program. -/
namespace Go.Id
open Go
variable {P:Program} {E:Nat->IV} {σ σ':Store}
inductive BT (V:Type) where
 | e
 | n (k:Nat) (v:V) (l r:BT V)
def BT.get {V:Type}:BT V->Nat->Option V
 | .e,_=>none
 | .n k v l r,i=>bif Nat.beq i k then some v else bif Nat.ble i k then l.get i else r.get i
abbrev FE:=Nat×IC×List IR
def FOK (P:Program)(f:Nat)(e:FE):Prop:=okF P f=true/\∃ pf an,gr1 P f e.1 pf an e.2.1 e.2.2
theorem FOK.mk {f N:Nat}{pf:List Nat}{an:Ann}{ic:IC}{rs:List IR}(h:okF P f=true)(hf:gr1 P f N pf an ic rs):FOK P f (N,ic,rs):=⟨h,pf,an,hf⟩
instance instIX (n:Nat):OfNat IX n:=⟨.t n⟩
def oQ (d:Nat)(q:IQ):ad9:=⟨some d,none,.q q⟩
def oM (d:Nat)(x:IX):ad9:=⟨some d,none,.q (.mov x)⟩
def oK (d:Nat)(k:IK):ad9:=⟨some d,none,k⟩
def gQ (d s:Nat)(w:Bool)(q:IQ):ad9:=⟨some d,some (s,w),.q q⟩
def gK (d s:Nat)(w:Bool)(k:IK):ad9:=⟨some d,some (s,w),k⟩
def oN (k:IK):ad9:=⟨none,none,k⟩
def cI (n:Int):IX:=.c (.int .i64 n)
def cB (b:Bool):IX:=.c (.bool b)
def zI (n:Int):IV:=.int .i64 n
def zU (n:Int):IV:=.int .u8 n
def cn8:IC->Ann
 | .reg id _ keep=>[(id,keep)]
 | .an7 id _ _ keep=>[(id,keep)]
 | .en3 id _ keep=>[(id,keep)]
 | .seq a b=>cn8 a++cn8 b
 | .cond _ a b=>cn8 a++cn8 b
 | .block _ a=>cn8 a
 | .loop a=>cn8 a
 | .be8 _ _ a b=>cn8 a++cn8 b
 | .scope a=>cn8 a
 | _=>[]
theorem ai3 (pf:List Nat){f N:Nat}{fn:Func}{ic:IC}{rs:List IR}(h:P.funcs[f]? = some fn)(ho:okF P f=true:=by kernel_rfl)(hN:fn.ntmps=N:=by kernel_rfl)(hc:fn.body.bind (az9 P pf N (cn8 ic))=some ic:=by kernel_rfl)(hr:eo8 P fn.results.toList=some rs:=by kernel_rfl):FOK P f (N,ic,rs):=
 .mk (pf:=pf) (an:=cn8 ic) ho (ac9 h hN hc hr)
end Go.Id
/- What the readings of a statement give: arguments and listed variables aZ ideal values; a contract aZ a kit's one. Conditions: none; over any program. -/
namespace Go.Id
open Go
variable {H:Type} {enc:TypeId×Value->H} {P:Program} {w w':World} {base:Nat} {sp:Nat->Bool} {held:Bool} {ρ:Rho} {E:Nat->IV}
structure VL (ρ:Rho) (w:World) (ivs:List IV) (cs:List Value):Prop where
 len:ivs.length=cs.length
 get:∀ i,i<ivs.length->VR ρ w (ivs.getD i .undef) (cs.getD i undef)
def dvF (r:TypeId->DataW H->Option (List IV))(P:Program):List (TypeId×Nat)->List (DataW H)->Nat->Option (List IV)
 | [],[],_=>some []
 | f::fs,d::ds,off=>if f.2=off then (match r f.1 d with
  | some a=>if a.length=P.cellsOf f.1 then (match dvF r P fs ds (off+P.cellsOf f.1) with
   | some b=>some (a++b)
   | none=>none) else none
  | none=>none) else none
 | _,_,_=>none
def dvS (r:DataW H->Option (List IV))(c:Nat):List (DataW H)->Option (List (List IV))
 | []=>some []
 | d::ds=>match r d with
  | some a=>if a.length=c then (match dvS r c ds with
   | some b=>some (a::b)
   | none=>none) else none
  | none=>none
def dvE (r:DataW H->Option (List IV))(x:Lit×DataW H):IV×IV:=match x.1,r x.2 with
 | .string bs,some [v]=>(.str bs,v)
 | _,_=>(.undef,.undef)
def cn9:List IV->Bool
 | []=>true
 | .str a::r=>(r.all fun|.str b=>!(a==b)|_=>false)&&cn9 r
 | _::_=>false
def flat (P:Program)(e:TypeId):Bool:=match P.underlying e with
 | some .bool|some (.int _)|some .string|some (.slice _)|some (.pointer _)=>true
 | _=>false
def dv (P:Program):Nat->TypeId->DataW H->Option (List IV)
 | 0,_,_=>none
 | m+1,t,d=>match P.underlying t,d with
  | some .bool,.lit (.bool b)=>some [.bool b]
  | some (.int _),.lit (.int k n)=>some [.int k n]
  | some .string,.lit (.string bs)=>some [.str bs]
  | some (.pointer _),.nil=>some [.af2]
  | some (.pointer e),.ptr d=>match dv P m e d with
   | some (c::cs)=>some [.ad4 (c::cs)]
   | _=>none
  | some (.slice _),.nil=>some [.aa3 []]
  | some (.slice e),.slice els _=>if P.cellsOf e=0 then none else match dvS (dv P m e) (P.cellsOf e) els with
   | some es=>some [.aa3 es]
   | none=>none
  | some (.struct fs),.agg ds=>match dvF (dv P m) P (fs.toList.map fun f=>(f.type,f.offset)) ds 0 with
   | some ivs=>if ivs.length=P.cellsOf t then some ivs else none
   | none=>none
  | some (.array n e),.agg ds=>match dvF (dv P m) P ((List.range n).map fun i=>(e,i*P.cellsOf e)) ds 0 with
   | some ivs=>if ivs.length=P.cellsOf t then some ivs else none
   | none=>none
  | some (.map k e),.map es=>match P.underlying k with
   | some .string=>if flat P e&&cn9 (es.map fun x=>(dvE (dv P m e) x).1) then some [.al4 (es.map (dvE (dv P m e)))] else none
   | _=>none
  | _,_=>none
theorem cg5 {v:IV}{r:Value}(h:VR ρ w v r):VL ρ w [v] [r]:=⟨rfl,fun i hi=>by
 have h0:i=0:=by simpa using hi
 rw[h0]; exact h⟩
theorem gr8 {r:TypeId->DataW H->Option (List IV)} {rd:TypeId->List Value->DataW H->Prop} (hr:∀ t cs d ivs,rd t cs d->r t d=some ivs->VL ρ w ivs cs) (cs:List Value) :
  ∀ (fs:List (TypeId×Nat)) (ds:List (DataW H)) (off:Nat) (ivs:List IV),fs.length=ds.length ->
   (∀ (i:Nat) (f:TypeId×Nat) (d:DataW H),fs[i]? = some f->ds[i]? = some d->rd f.1 ((cs.drop f.2).take (P.cellsOf f.1)) d)->dvF r P fs ds off=some ivs ->
   ∀ i,i<ivs.length->off+i<cs.length/\VR ρ w (ivs.getD i .undef) (cs.getD (off+i) undef):=by
 intro fs
 induction fs with
 | nil=>
  intro ds off ivs hl _ h
  cases ds with
  | nil=>cases h; intro i hi; simp at hi
  | cons d ds=>simp at hl
 | cons f fs ih=>
  intro ds off ivs hl hrd h
  cases ds with
  | nil=>simp at hl
  | cons d ds=>
   simp only[dvF] at h;split at h
   ·rename_i hoff;split at h
    ·rename_i a ha;split at h
     ·rename_i hal;split at h
      ·rename_i b hb;cases h;have h0:=hr _ _ _ _ (hrd 0 f d rfl rfl) ha;have hl0:=h0.len;rw[hoff] at h0 hl0;simp only[List.length_take,List.length_drop] at hl0;intro i hi;by_cases hia:i<a.length
       ·have h1:=h0.get i hia;have hlt:off+i<cs.length:=by omega
        refine ⟨hlt,?_⟩;have e1:(a++b).getD i .undef=a.getD i .undef:=by simp[List.getD_eq_getElem?_getD,List.getElem?_append,hia]
        have e2:((cs.drop off).take (P.cellsOf f.1)).getD i undef=cs.getD (off+i) undef:=by
         have:i<P.cellsOf f.1:=by omega
         simp[List.getD_eq_getElem?_getD,List.getElem?_take,this,List.getElem?_drop]
        rw[e1,<- e2]; exact h1
       ·have h1:=ih ds _ b (by simpa using hl) (fun i f' d' hf hd=>hrd (i+1) f' d' (by simpa using hf) (by simpa using hd)) hb (i-a.length) (by simp at hi; omega);have e0:off+P.cellsOf f.1+(i-a.length)=off+i:=by omega
        rw[e0] at h1;refine ⟨h1.1,?_⟩;have e1:(a++b).getD i .undef=b.getD (i-a.length) .undef:=by simp[List.getD_eq_getElem?_getD,List.getElem?_append,hia]
        rw[e1]; exact h1.2
      ·cases h
     ·cases h
    ·cases h
   ·cases h
theorem hb7 {r:DataW H->Option (List IV)}{c:Nat}:∀ (ds:List (DataW H)) (es:List (List IV)),dvS r c ds=some es->es.length=ds.length/\∀ i,i<es.length->(es.getD i []).length=c/\∃ d,ds[i]? = some d/\r d=some (es.getD i []):=by
 intro ds
 induction ds with
 | nil=>intro es h; cases h; exact ⟨rfl,fun i hi=>by simp at hi⟩
 | cons d ds ih=>
  intro es h;simp only[dvS] at h;split at h
  ·rename_i a ha;split at h
   ·rename_i hal;split at h
    ·rename_i b hb;cases h;obtain ⟨h1,h2⟩:=ih b hb;refine ⟨by simp[h1],fun i hi=>?_⟩
     cases i with
     | zero=>exact ⟨hal,d,rfl,ha⟩
     | succ i=>
      obtain ⟨h3,d',h4,h5⟩:=h2 i (by simpa using hi);exact ⟨h3,d',h4,h5⟩
    ·cases h
   ·cases h
  ·cases h
theorem dy5 {es:List (IV×IV)}(h:cn9 (es.map (·.1))=true):cs4 es:=by
 have:∀ (l:List IV),cn9 l=true->l.Nodup/\∀ v∈l,∃ s,v=.str s:=by
  intro l
  induction l with
  | nil=>intro _; exact ⟨.nil,fun _ h=>by cases h⟩
  | cons v l ih=>
   intro h
   cases v with
   | str a=>
    simp only[cn9,Bool.and_eq_true] at h;obtain ⟨h1,h2⟩:=ih h.2;refine ⟨List.nodup_cons.2 ⟨fun hm=>?_,h1⟩,fun v hv=>?_⟩
    ·have:=List.all_eq_true.1 h.1 _ hm;simp at this
    ·rcases List.mem_cons.1 hv with rfl|hv
     ·exact ⟨a,rfl⟩
     ·exact h2 v hv
   | _=>cases h
 obtain ⟨h1,h2⟩:=this _ h;refine ⟨h1,.str,fun e he=>?_⟩;obtain ⟨s,hs⟩:=h2 e.1 (List.mem_map.2 ⟨e,he,rfl⟩);rw[hs]; trivial
theorem bg8 {a:Addr}{v:Value}(h:w.cell? a=some v):a.spot=none/\a.block<w.heap.size:=by
 unfold World.cell? at h;split at h
 ·rename_i c _ _ hb;split at h
  ·cases h
  ·rename_i hs;refine ⟨by simpa using hs,?_⟩;exact Nat.lt_of_not_le fun hle=>by rw[Array.getElem?_eq_none hle] at hb; cases hb
 ·cases h
theorem ew3:∀ {l:List IV},cn9 l=true->∀ v∈l,∃ s,v=.str s:=by
 intro l
 induction l with
 | nil=>intro _ _ h; cases h
 | cons v l ih=>
  intro h
  cases v with
  | str a=>
   simp only[cn9,Bool.and_eq_true] at h;intro v hv;rcases List.mem_cons.1 hv with rfl|hv
   ·exact ⟨a,rfl⟩
   ·exact ih h.2 v hv
  | _=>cases h
theorem hb8 {k:TypeId}{v:Value}{bs:List UInt8}(hk:P.underlying k=some .string)(h:keyOf P k v=some (.string bs)):v=.string ⟨bs.toArray⟩:=by
 unfold keyOf mapKey at h;rw[hk] at h
 cases v with
 | string s=>
  simp only at h;split at h
  ·cases h;congr 1
  ·cases h
 | _=>cases h
theorem ew4 {e:TypeId}{v:Value}(h:flat P e=true)(hf:v.formed P e=true):v.cells.toList=[v]:=by
 unfold flat at h
 cases v with
 | agg cs=>
  unfold Value.formed at hf
  split at h<;>simp_all
 | _=>rfl
theorem cd8 (hF:∀ b,b<w.heap.size->FB ρ w b):∀ (m n:Nat) (t:TypeId) (d:DataW H) (cs:List Value) (ps:List MemPlace) (ivs:List IV),
  DataW.trod enc P w base sp held n t cs=some (d,ps)->dv P m t d=some ivs->VL ρ w ivs cs:=by
 intro m
 induction m with
 | zero=>intro n t d cs ps ivs _ h; cases h
 | succ m ih=>
  intro n t d cs ps ivs h hd;unfold dv at hd;split at hd
  ·rename_i b hu;obtain ⟨b',rfl,hx⟩:=DataW.trod_bool hu h;cases hx; cases hd;exact cg5 (.bool _)
  ·rename_i k0 k n0 hu;obtain ⟨n',rfl,hx,_⟩:=DataW.trod_int hu h;cases hx; cases hd;exact cg5 (.int _ _)
  ·rename_i bs hu;obtain ⟨s,rfl,hx,_⟩:=DataW.trod_string hu h;cases hx; cases hd;have:(⟨s.data.toList.toArray⟩:ByteArray)=s:=by cases s; simp
   exact cg5 (by have:=VR.str (ρ:=ρ) (w:=w) s.data.toList; simpa using this)
  ·rename_i hu;cases hd;rcases DataW.trod_pointer hu h with ⟨rfl,_⟩|⟨a,cs',y,n',_,_,hx,_⟩
   ·exact cg5 .af2
   ·cases hx
  ·rename_i e d' hu;rcases DataW.trod_pointer hu h with ⟨_,hx⟩|⟨a,cs',y,n',rfl,rfl,hx,hc,hy⟩
   ·cases hx
   ·cases hx;split at hd
    ·rename_i c0 cs0 hd0;cases hd;have hv:=ih n' e y.1 cs' y.2 (c0::cs0) hy hd0;obtain ⟨_,hl,hcell⟩:=World.cells?_some hc;have hlen:=hv.len;simp only[List.length_cons] at hlen;have h0:=hcell 0 (by omega);rw[List.getElem?_eq_getElem (by omega)] at h0;obtain ⟨h1,h2⟩:=bg8 h0;have ea:a.add 0=a:=rfl;rw[ea] at h1 h2;obtain ⟨b,o,s⟩:=a;simp only at h1; subst h1;refine cg5 (.ad4 (c0::cs0) b o (fun j=>cs'.getD j undef) (hF b h2) (fun j hj=>?_) (fun j hj=>hv.get j hj));simp only[List.length_cons] at hj;have hj':=hcell j (by omega);have ej:(⟨b,o,none⟩:Addr).add j=⟨b,o+j,none⟩:=by unfold Addr.add; by_cases hj0:j=0<;>simp[hj0]
     rw[ej] at hj';rw[hj',List.getD_eq_getElem?_getD,List.getElem?_eq_getElem (by omega)];rfl
    ·cases hd
  ·rename_i e hu;cases hd;rcases DataW.trod_slice hu h with ⟨rfl,_⟩|⟨a,len,cap,elems,rest,n',_,_,hx,_⟩
   ·exact cg5 .bw1
   ·cases hx
  ·rename_i e els rst hu;split at hd
   ·cases hd
   ·rename_i hc0;split at hd
    ·rename_i es hes;cases hd;rcases DataW.trod_slice hu h with ⟨rfl,hx⟩|⟨a,len,cap,elems,rest,n',rfl,rfl,hx,_,hlc,_,hel,hcell,_,_⟩
     ·cases hx
     ·cases hx;obtain ⟨g1,g2⟩:=hb7 _ _ hes;have hlen:es.length=len:=by rw[g1,List.length_map,hel]
      have key:∀ i,i<es.length->∃ ci p,w.cells? base (a.add (i*P.cellsOf e)) (P.cellsOf e)=some ci/\(es.getD i []).length=P.cellsOf e/\VL ρ w (es.getD i []) ci/\p=():=by
       intro i hi;obtain ⟨g3,d',g4,g5⟩:=g2 i hi;have hc:=hcell i (by omega);rw[List.getElem?_map] at g4
       cases hei:elems[i]? with
       | none=>rw[hei] at g4; cases g4
       | some x=>
        rw[hei] at g4 hc;cases g4;obtain ⟨ci,hci,hx⟩:=Option.bind_eq_some_iff.1 hc;exact ⟨ci,(),hci,g3,ih n' e x.1 ci x.2 _ hx g5,rfl⟩
      have hF0:es≠[]->FB ρ w a.block/\a.spot=none:=by
       intro hne;have h0:0<es.length:=List.length_pos_iff.2 hne;obtain ⟨ci,_,hci,g3,_,_⟩:=key 0 h0;obtain ⟨_,hl,hcc⟩:=World.cells?_some hci;have hcc0:=hcc 0 (by omega);rw[List.getElem?_eq_getElem (by omega)] at hcc0;have ea:(a.add (0*P.cellsOf e)).add 0=a:=by simp[Addr.add]
       rw[ea] at hcc0;obtain ⟨h1,h2⟩:=bg8 hcc0;exact ⟨hF _ h2,h1⟩
      have hcells:∀ i,i<es.length->∀ j,j<P.cellsOf e->∃ v,w.cell? ⟨a.block,a.off+(i*P.cellsOf e+j),none⟩=some v/\VR ρ w ((es.getD i []).getD j .undef) v:=by
       intro i hi j hj;obtain ⟨ci,_,hci,g3,g4,_⟩:=key i hi;obtain ⟨_,hl,hcc⟩:=World.cells?_some hci;have hcj:=hcc j hj;have hsp:=(hF0 (by intro h0; rw[h0] at hi; simp at hi)).2
       have ea:(a.add (i*P.cellsOf e)).add j=⟨a.block,a.off+(i*P.cellsOf e+j),none⟩:=by
        obtain ⟨b,o,s⟩:=a;simp only at hsp; subst hsp;unfold Addr.add;by_cases h1:i*P.cellsOf e=0<;>by_cases h2:j=0<;>simp[h1,h2,Nat.add_assoc]
       rw[ea,List.getElem?_eq_getElem (by omega)] at hcj;refine ⟨_,hcj,?_⟩;have:=g4.get j (by omega);rw[List.getD_eq_getElem?_getD (l:=ci),List.getElem?_eq_getElem (by omega)] at this;exact this
      refine cg5 ?_;obtain ⟨b,o,s⟩:=a;rw[<- hlen];refine .aa3 es b o cap (P.cellsOf e) s (fun i j=>(w.cell? ⟨b,o+(i*P.cellsOf e+j),none⟩).getD undef) hF0 (fun i hi=>(g2 i hi).1) (fun i hi j hj=>?_) (fun i hi j hj=>?_) (by omega)
      ·obtain ⟨v,h1,_⟩:=hcells i hi j hj;simp only at h1;rw[h1]; rfl
      ·obtain ⟨v,h1,h2⟩:=hcells i hi j hj;simp only at h1;rw[h1]; exact h2
    ·cases hd
  ·rename_i fs ds hu;split at hd
   ·rename_i ivs' hd';split at hd
    ·rename_i hil;cases hd;obtain ⟨xs,n',rfl,hx,hlen,hxl,hfi⟩:=DataW.trod_struct hu h;cases hx
     have hg:=gr8 (P:=P) (rd:=fun t cs d=>∃ p,DataW.trod enc P w base sp held n' t cs=some (d,p)) (fun t cs d ivs ⟨p,hp⟩ h=>ih n' t d cs p ivs hp h) cs _ _ 0 _ (by simp[hxl]) (fun i f d hf hd=>by
      rw[List.getElem?_map] at hf hd
      cases hfi':fs.toList[i]? with
      | none=>rw[hfi'] at hf; cases hf
      | some f0=>
       rw[hfi'] at hf; cases hf;have:=hfi i f0 (by simpa using hfi')
       cases hxi:xs[i]? with
       | none=>rw[hxi] at hd; cases hd
       | some x=>rw[hxi] at hd this; cases hd; exact ⟨x.2,this⟩) hd'
     exact ⟨by rw[hil,hlen],fun i hi=>by have:=(hg i hi).2; rwa [Nat.zero_add] at this⟩
    ·cases hd
   ·cases hd
  ·rename_i k e ds hu;split at hd
   ·rename_i ivs' hd';split at hd
    ·rename_i hil;cases hd;obtain ⟨xs,n',rfl,hx,hlen,hxl,hfi⟩:=DataW.trod_array hu h;cases hx
     have hg:=gr8 (P:=P) (rd:=fun t cs d=>∃ p,DataW.trod enc P w base sp held n' t cs=some (d,p)) (fun t cs d ivs ⟨p,hp⟩ h=>ih n' t d cs p ivs hp h) cs _ _ 0 _ (by simp[hxl]) (fun i f d hf hd=>by
      rw[List.getElem?_map] at hf hd
      cases hfi':(List.range k)[i]? with
      | none=>rw[hfi'] at hf; cases hf
      | some f0=>
       rw[hfi'] at hf; cases hf;obtain ⟨hik,rfl⟩:=List.getElem?_eq_some_iff.1 hfi';simp only[List.length_range] at hik;have:=hfi i hik;simp only[List.getElem_range]
       cases hxi:xs[i]? with
       | none=>rw[hxi] at hd; cases hd
       | some x=>rw[hxi] at hd this; cases hd; exact ⟨x.2,this⟩) hd'
     exact ⟨by rw[hil,hlen],fun i hi=>by have:=(hg i hi).2; rwa [Nat.zero_add] at this⟩
    ·cases hd
   ·cases hd
  ·rename_i k e es hu;split at hd
   ·rename_i hk;split at hd
    ·rename_i hfn;cases hd;simp only[Bool.and_eq_true] at hfn;obtain ⟨hfl,hnd⟩:=hfn;rcases WideElems.open_map hu h with ⟨_,hx⟩|⟨b,mes,clock,n',rfl,rfl,hb,_,F,hx⟩
     ·cases hx
     ·simp only[Prod.mk.injEq,DataW.map.injEq] at hx;obtain ⟨hx,_⟩:=hx;have hlt:b<w.heap.size:=Nat.lt_of_not_le fun hle=>by rw[Array.getElem?_eq_none hle] at hb; cases hb
      let g:Lit×DataW H->IV×IV:=dvE (dv P m e);let L:=mes.toList.map (WideElems.rg P k (WideElems.elemAt enc P w base sp held n' e));have hp:L.Perm es:=by rw[hx]; exact (WideShapes.sorted_perm L).symm
      have hpg:(L.map g).Perm (es.map g):=hp.map g;have hko:cs4 (es.map g):=dy5 (by rw[List.map_map]; exact hnd)
      have ent:∀ i,i<mes.size->VR ρ w ((L.map g).getD i (.undef,.undef)).1 (mes.getD i default).key/\VR ρ w ((L.map g).getD i (.undef,.undef)).2 (mes.getD i default).val:=by
       intro i hi
       have hmem:mes.getD i default∈mes.toList:=by
        have:=ad6 (default:MapEntry) (l:=mes.toList) (i:=i) (by simpa using hi)
        simpa [List.getD_eq_getElem?_getD,Array.getD_eq_getD_getElem?] using this
       obtain ⟨y,hy⟩:=F.reads _ hmem
       have e1:(L.map g).getD i (.undef,.undef)=g y:=by
        have:L[i]? = some y:=by
         simp only[L,List.getElem?_map];rw[show mes.toList[i]? = some (mes.getD i default) by simp[Array.getD_eq_getD_getElem?,hi]];exact congrArg some (WideElems.rg_of hy)
        simp[List.getD_eq_getElem?_getD,this]
       rw[e1];have hyL:y∈L:=List.mem_map.2 ⟨_,hmem,WideElems.rg_of hy⟩;have hys:∃ s,(g y).1=.str s:=ew3 hnd _ (List.mem_map.2 ⟨y,hp.mem_iff.1 hyL,rfl⟩);have hkey:=WideElems.rd_key hy;obtain ⟨z,hz,hyz⟩:=WideElems.rd_val hy;simp only[g,dvE] at hys ⊢;split at hys
       ·rename_i bs v hl hv;refine ⟨?_,?_⟩
        ·rw[hl] at hkey;rw[hb8 hk hkey]; exact .str _
        ·generalize mes.getD i default=me at hz ⊢;unfold WideElems.elemAt at hz;split at hz
         ·rename_i hform;have hvl:=ih n' e z.1 _ z.2 [v] hz (by rw[<- hyz]; exact hv);have hcl:=ew4 hfl hform;rw[hcl] at hvl;exact hvl.get 0 (by simp)
         ·cases hz
       ·obtain ⟨_,hys⟩:=hys; cases hys
      have hsz:(L.map g).length=mes.size:=by simp[L]
      obtain ⟨s1,s2,_⟩:=F.stamped;refine cg5 (.al4 (es.map g) (L.map g) b mes clock hpg hko (hF b hlt) hb hsz (fun i hi=>(ent i (by omega)).1) (fun i hi=>(ent i (by omega)).2) ?_ ?_)
      ·intro i hi;refine s1 _ ?_;have:=ad6 (default:MapEntry) (l:=mes.toList) (i:=i) (by simpa using hi)
       simpa [List.getD_eq_getElem?_getD,Array.getD_eq_getD_getElem?] using this
      ·intro i j hij hj he;have:=(List.pairwise_iff_getElem.1 s2) i j (by simp; omega) (by simpa using hj) hij;simp only[List.getElem_map,Array.getElem_toList] at this;apply this;have hi:i<mes.size:=by omega
       simpa [Array.getD_eq_getD_getElem?,hi,hj] using he
    ·cases hd
   ·cases hd
  ·cases hd
def ew5 (l:List (Nat×List IV))(g:Nat):IV:=match l.lookup g with
 | some cs=>.ad4 cs
 | none=>.undef
theorem fn8 {laid:List (String×DataW Unit)}(hF:∀ b,b<w.heap.size->FB ρ w b):∀ (laid:List (String×DataW Unit)) (ps:List MemPlace),DataW.LaidVars P w laid ps->∀ (name:String) (d:DataW Unit),(name,d)∈laid->∀ (g:Nat) (t:TypeId) (m:Nat) (c:IV) (ivs:List IV),
  P.globalNamed name=some g->(P.globals[g]?).map (·.type)=some t->dv P m t d=some (c::ivs)->VR ρ w (.ad4 (c::ivs)) (.pointer (some ⟨g,0,none⟩)):=by
 intro laid
 induction laid with
 | nil=>intro ps _ name d hm; cases hm
 | cons x r ih=>
  intro ps h name d hm g t m c ivs hg ht hd;obtain ⟨xn,xd⟩:=x;obtain ⟨g',t',cs,fuel,p,q,h1,h2,h3,h4,h5,_⟩:=h;rcases List.mem_cons.1 hm with hm|hm
  ·cases hm;obtain rfl:=Option.some.inj (h1.symm.trans hg);obtain rfl:=Option.some.inj (h2.symm.trans ht);have hv:=cd8 hF m fuel _ d _ p _ h4 hd;have hc:=fun i=>World.var?_cell h1 h3 i
   have hlen:=hv.len;simp only[List.length_cons,Array.length_toList] at hlen;have h0:=hc 0;rw[Array.getElem?_eq_getElem (by omega)] at h0;refine .ad4 (c::ivs) _ 0 (fun j=>cs.getD j undef) (hF _ (bg8 h0).2) (fun j hj=>?_) (fun j hj=>?_)
   ·simp only[List.length_cons] at hj;rw[Nat.zero_add,hc j,Array.getElem?_eq_getElem (by omega)];simp[Array.getD_eq_getD_getElem?,show j<cs.size by omega]
   ·have:=hv.get j hj
    simpa [List.getD_eq_getElem?_getD,Array.getD_eq_getD_getElem?] using this
  ·exact ih _ h5 name d hm g t m c ivs hg ht hd
def fd3:Rho:=⟨fun _=>.no,fun _=>False⟩
theorem bp5:∀ b,b<w.heap.size->FB fd3 w b:=fun b h=>⟨h,(fun _ _ h=>by cases h),fun h=>h⟩
def iu5:Store:=⟨0,fun _=>none⟩
theorem gf8 {laid:List (String×DataW Unit)}(h:laidMet P laid w)(l:List (Nat×List IV))
  (hl:∀ x∈l,∃ (name:String) (d:DataW Unit) (t:TypeId) (m:Nat) (c:IV) (ivs:List IV),x.2=c::ivs/\(name,d)∈laid/\P.globalNamed name=some x.1/\(P.globals[x.1]?).map (·.type)=some t/\dv P m t d=some (c::ivs)) :
  ∀ g,VR fd3 w (ew5 l g) (.pointer (some ⟨g,0,none⟩)):=by
 intro g;unfold ew5
 cases hg:l.lookup g with
 | none=>exact .undef _
 | some cs=>
  obtain ⟨ps,hps,_,_⟩:=h
  have hm:(g,cs)∈l:=by
   clear hl
   induction l with
   | nil=>cases hg
   | cons x l ih=>
    obtain ⟨a,b⟩:=x;simp only[List.lookup] at hg;split at hg
    ·rename_i hb;cases hg;have:g=a:=by simpa using hb
     rw[this]; exact List.mem_cons_self ..
    ·exact List.mem_cons_of_mem _ (ih hg)
  obtain ⟨name,d,t,m,c,ivs,h1,h2,h3,h4,h5⟩:=hl _ hm;simp only at h1 h3 h4;rw[h1];exact fn8 (laid:=laid) bp5 laid ps hps name d h2 g t m c ivs h3 h4 h5
theorem ja3 (h:∀ g,VR fd3 w (E g) (.pointer (some ⟨g,0,none⟩))):Sim E fd3 w iu5 :=
 ⟨(fun _ _ _ _ _ h=>by cases h),(fun _ _ _ h=>by cases h),(fun _ _ _ h=>by cases h),(fun _ h=>by cases h),(fun _ _=>rfl),(fun _ _=>rfl),h,(fun _ _ _ h=>by cases h),fun _ h=>h.elim⟩
theorem gf9 {f:FuncId}{args:List IV}{rargs:Array Value}{b:Bool}(h:PC P E f args (.bool b))(he:∀ g,VR fd3 w (E g) (.pointer (some ⟨g,0,none⟩)))(ha:CR fd3 w args rargs) :
  Calls P f rargs w fun e w'=>e=.returned (.bool b)/\RowKit.Below w.heap.size w w':=by
 refine callsIn_wide.1 (CallsIn.mono (h iu5 fd3 w rargs (ja3 he) ha) ?_);rintro e w' ⟨v,r,ρ',σ',rfl,⟨rfl,rfl⟩,_,hv,hx⟩;cases hv;exact ⟨rfl,hx.os,hx.tape.1,hx.output,hx.size,fun k hk=>hx.keep k (bp5 k hk).ub⟩
theorem df4 {H:Type}{enc:TypeId×Value->H}{f:Func}{s:ChangeSpec}{apart fresh handsOn again:Bool}{W W':World}{args:Array Value}{v:Value}{ds gs:List (DataW H)}{before pa pv:List MemPlace}
  (hW:DataW.Whole enc P f.params.toList s.vars apart W args.toList ds gs before)
  (hres:∀ (b:Nat) (sp:Nat->Bool) (hd:Bool),DataW.TrodAll enc P W' b sp hd f.resultTypes.toList (v.resultList f.resultTypes.size) (s.fn H (ds++gs)).results [])
  (hargs:∀ sp:Nat->Bool,(∀ p∈before,sp p.block=true)->DataW.TrodAll enc P W' 0 sp true f.params.toList args.toList (s.fn H (ds++gs)).args pa)
  (hvars:∀ sp:Nat->Bool,(∀ p∈before,sp p.block=true)->DataW.TrodVars enc P W' sp s.vars (s.fn H (ds++gs)).vars pv)
  (hps:before=pa++pv) (hb:RowKit.Below W.heap.size W W')
  (hok:∀ (j:Nat) (t:TypeId) (r:Value),f.resultTypes[j]? = some t->(v.resultList f.resultTypes.size)[j]? = some r->Value.okWide P W' .any 0 t r) :
  s.post enc P f apart fresh handsOn again W args v W':=by
 have hlt:∀ p∈before,p.block<W.heap.size:=fun p hp=>hW.lt p hp
 have hold:∀ p∈before,(fun b=>decide (b<W.heap.size)) p.block=true:=fun p hp=>by simpa using hlt p hp
 refine ⟨ds,gs,before,[],pa,pv,hW,hres _ _ _,hargs _ hold,hvars _ hold,World.keptBut_mono (fun p hp=>⟨hp,?_⟩) (hb.frame (·∈before)),fun _=>?_⟩
 ·rw[hps,List.mem_append] at hp;exact Or.inr hp
 ·obtain ⟨_,_,_,_,_,hz,hn⟩:=hW;refine ⟨hok,_,_,([]++pa)++pv,⟨[]++pa,pv,ChangeShapes.trodAll_append (hargs _ (fun _ _=>rfl)) (hres _ _ _),hvars _ (fun _ _=>rfl),rfl,?_,?_⟩,?_⟩
  ·intro b off hp;have hin:MemPlace.cell b off∈before:=by rw[hps]; simpa using hp
   rw[hb.frozen (hlt _ hin)];exact hz b off hin
  ·intro ha;have:=hn ha;rw[hps] at this
   simpa using this
  ·intro p hp _;rw[hps]
   simpa using hp
end Go.Id
set_option linter.all false
namespace Go.Id
open Go
variable {P:Program} {E:Nat->IV}
def opsL:List (IV×IV):=[(.str [],.int .u8 0),(.str [60],.int .u8 1),(.str [60,61],.int .u8 3),(.str [61],.int .u8 2),(.str [62],.int .u8 4),(.str [62,61],.int .u8 6)]
def dz4 (op:Int):List UInt8:=if op=1 then [60] else if op=2 then [61] else if op=3 then [60,61] else if op=4 then [62] else if op=6 then [62,61] else []
def gs9 (g:Nat):IC :=
(.seq
 (.reg 0 [⟨(some 2),none,(.q (.mov (.c (.str []))))⟩] [0])
 (.seq
 (.seq
  (.reg 1 [⟨(some 5),none,(.q (.load none (.g g)))⟩,⟨(some 6),none,(.ba7 (.t 5))⟩] [0,6])
  (.block 0
  (.loop
   (.seq
   (.reg 2 [⟨(some 7),none,(.ch6 (.t 6))⟩,⟨(some 8),none,(.q (.ext 0 (.t 7)))⟩] [0,6,8])
   (.seq
    (.cond (.t 8)
    .skip
    (.exit 0))
    (.block 1
    (.seq
     (.reg 3 [⟨(some 9),none,(.fc9 (.t 6))⟩,⟨(some 10),none,(.q (.ext 0 (.t 9)))⟩,⟨(some 11),none,(.q (.ext 1 (.t 9)))⟩,⟨(some 3),none,(.q (.mov (.t 10)))⟩,⟨(some 4),none,(.q (.mov (.t 11)))⟩] [0,3,4,6])
     (.seq
     (.reg 4 [⟨(some 12),none,(.q (.mov (.t 4)))⟩,⟨(some 13),none,(.q (.mov (.t 0)))⟩,⟨(some 14),none,(.q (.bin .eql (.t 12) (.t 13)))⟩] [0,3,6,14])
     (.cond (.t 14)
      (.seq
      (.reg 5 [⟨(some 15),none,(.q (.mov (.t 3)))⟩,⟨(some 2),none,(.q (.mov (.t 15)))⟩] [2])
      .ret)
      .skip)))))))))
 (.seq
  (.reg 6 [⟨(some 2),none,(.q (.mov (.c (.str []))))⟩] [2])
  .ret)))
theorem dq5 {α:Type}{d:α}{e:α}:∀ {l:List α} {j:Nat},e∈l->e∈l.eraseIdx j\/e=l.getD j d:=by
 intro l
 induction l with
 | nil=>intro j h; cases h
 | cons x l ih=>
  intro j h
  cases j with
  | zero=>
   rcases List.mem_cons.1 h with rfl|h
   ·exact .inr rfl
   ·exact .inl h
  | succ j=>
   rcases List.mem_cons.1 h with rfl|h
   ·exact .inl (List.mem_cons_self ..)
   ·rcases ih (j:=j) h with h|h
    ·exact .inl (List.mem_cons_of_mem _ h)
    ·exact .inr h
structure TxI (σ0:Store) (n:Int) (id:Nat) (m:Nat) (fr:Frm) (σ:Store):Prop where
 f0:fr.get 0=.int .u8 n
 f6:fr.get 6=.ptr id 0
 next:σ0.next<=σ.next
 low:∀ i,i<σ0.next->σ.obj i=σ0.obj i
 lt:σ0.next<=id
 obj:∃ left cur,σ.obj id=some (.av4 left cur)/\left.length=m/\(∀ e∈left,e∈opsL)/\∀ e∈opsL,e.2=.int .u8 n->e∈left
theorem gj1 {n:Int}{e:IV×IV}(h:e∈opsL)(hn:e.2=.int .u8 n):e.1=.str (dz4 n):=by
 simp only[opsL,List.mem_cons,List.not_mem_nil,or_false] at h;rcases h with rfl|rfl|rfl|rfl|rfl|rfl<;>cases hn<;>rfl
theorem fp3 {n:Int}(h:∀ e∈opsL,e.2≠.int .u8 n):dz4 n=[]:=by
 have h1:=h (.str [60],.int .u8 1) (by simp[opsL]);have h2:=h (.str [61],.int .u8 2) (by simp[opsL]);have h3:=h (.str [60,61],.int .u8 3) (by simp[opsL]);have h4:=h (.str [62],.int .u8 4) (by simp[opsL]);have h6:=h (.str [62,61],.int .u8 6) (by simp[opsL]);simp only[ne_eq,IV.int.injEq,true_and] at h1 h2 h3 h4 h6;simp[dz4,Ne.symm h1,Ne.symm h2,Ne.symm h3,Ne.symm h4,Ne.symm h6]
theorem hf6 {f g:Nat}{pf:List Nat}{an:Ann}{n:Int}(hf:gr1 P f 16 pf an (gs9 g) [.t 2])(hg:E g=.ad4 [.al4 opsL]):PC P E f [.int .u8 n] (.str (dz4 n)):=by
 refine ir1 noT hf (Nat.le_of_ble_eq_true rfl) fun σ hb=>?_
 simp only[gs9,ct9,cu1,bx7,bj1,cu2,bx8,cu3,bx9,ep3,ho4,eo9,ep1,cu4,by1,cu5,by2,by3,bj2,cu6,w_q,by4,ep4,ep5,by5,ep6,by7,bj3,by6,cu7,cu8,cu9,by8,bj4,ep7,cv2,ep8,cv3,by9,bz1,cv4,ep9,eq1,eq2,eq3,eq4,eq5,eq6,eq7,eq8,eq9,cv5,er1,cv6,er2,cv7,bz2,cv8,cw3,er3,ho7,ho8,er4,er5,er6,er7,er8,er9,es3,es4,es5,es6,cw4,bz3,bj5,bb1,bz4,bj6,cv9,cw1,cw2,bz5,ho5,ho6,bb3,bk1,ca7,ca8,ca9,ca6,cx7,e_t,e_c,e_g,e_f,es7,cw5,es8,es9,et1,ao1,et2,cw6,bz6,et3,bz7,et4,bz8,bz9,et5,cw7,et6,cw8,et7,et8,et9,eu1,cw9,cx1,dx7,gr4,do7,dx6,ca1,ca2,cx2,cx3,ca3,ca4,ho9,bj7,cx4,cx5,cx6,bj8,ca5,bb2,bj9,bk2,cb1,bk3,bk4,cx8,cx9,dx8,dx9,cb2,cb3,cb4,cb5,cy1,cy2,cb6,bk5,eu2,eu3,eu4,eu5,eu6,eu7,eu8,eu9,ev1,ev2,ev3,do8,dy1,cy3,cy4,cy5,cy6,cy7,cy8,cy9,cz1,cz2,cz3,bb4,bk6,cb7,cb8,cb9,cz4,cz5,cz6,cz7,ev4,ev5,cz8,ev6,cc1,cc2,cc3,ev9,bg7,gr5,da6,cc4,cc5,bk7,bg6,bt2,ev7,ch7,bk8,ev8,ch8,bk9,bl4,cc6,cc7,cc8,cc9,bl5,cd1,cd2,bl6,bb5,aw3,bl7,cd3,bl8,cz9,da1,da2,cd4,bl9,cd5,cd6,bm1,bb6,aw4,bm2,cd7,bm3,da3,da4,da5,List.getElem?_cons_zero,List.getElem?_cons_succ,List.all_cons,List.all_nil,List.drop_zero,List.drop_succ_cons,List.head?_cons,Bool.and_true,Bool.and_self,Frm.ay4,Frm.get_nil,aa6,aa2,decide_true,decide_false,List.append_nil,List.nil_append,List.cons_append,Bool.false_eq_true,Bool.xor_false,Bool.xor_true,Bool.not_true,Bool.not_false,Nat.reduceEqDiff,Nat.reduceAdd,Nat.reduceMul,Nat.reduceLT,Nat.add_zero,Nat.zero_add,Nat.succ_ne_zero,if_true,if_false,↓reduceIte,reduceCtorEq,true_and,and_true,hg];refine gr2 noT (TxI σ n σ.next) opsL.length ⟨rfl,rfl,?_,?_,Nat.le_refl _,opsL,none,?_,rfl,fun _ h=>h,fun _ h _=>h⟩ ?_
 ·show σ.next<=σ.next+1; omega
 ·intro i hi; simp only[aa2]; rw[if_neg (by omega)]
 ·simp only[aa2,if_true]
 ·rintro m fr s ⟨f0,f6,h1,h2,h3,left,cur,h4,h5,h6,h7⟩;have hm:br6 s (.ptr σ.next 0)=some (σ.next,left):=by simp only[br6,h4]
  simp only[ct9,cu1,bx7,bj1,cu2,bx8,cu3,bx9,ep3,ho4,eo9,ep1,cu4,by1,cu5,by2,by3,bj2,cu6,w_q,by4,ep4,ep5,by5,ep6,by7,bj3,by6,cu7,cu8,cu9,by8,bj4,ep7,cv2,ep8,cv3,by9,bz1,cv4,ep9,eq1,eq2,eq3,eq4,eq5,eq6,eq7,eq8,eq9,cv5,er1,cv6,er2,cv7,bz2,cv8,cw3,er3,ho7,ho8,er4,er5,er6,er7,er8,er9,es3,es4,es5,es6,cw4,bz3,bj5,bb1,bz4,bj6,cv9,cw1,cw2,bz5,ho5,ho6,bb3,bk1,ca7,ca8,ca9,ca6,cx7,e_t,e_c,e_g,e_f,es7,cw5,es8,es9,et1,ao1,et2,cw6,bz6,et3,bz7,et4,bz8,bz9,et5,cw7,et6,cw8,et7,et8,et9,eu1,cw9,cx1,dx7,gr4,do7,dx6,ca1,ca2,cx2,cx3,ca3,ca4,ho9,bj7,cx4,cx5,cx6,bj8,ca5,bb2,bj9,bk2,cb1,bk3,bk4,cx8,cx9,dx8,dx9,cb2,cb3,cb4,cb5,cy1,cy2,cb6,bk5,eu2,eu3,eu4,eu5,eu6,eu7,eu8,eu9,ev1,ev2,ev3,do8,dy1,cy3,cy4,cy5,cy6,cy7,cy8,cy9,cz1,cz2,cz3,bb4,bk6,cb7,cb8,cb9,cz4,cz5,cz6,cz7,ev4,ev5,cz8,ev6,cc1,cc2,cc3,ev9,bg7,gr5,da6,cc4,cc5,bk7,bg6,bt2,ev7,ch7,bk8,ev8,ch8,bk9,bl4,cc6,cc7,cc8,cc9,bl5,cd1,cd2,bl6,bb5,aw3,bl7,cd3,bl8,cz9,da1,da2,cd4,bl9,cd5,cd6,bm1,bb6,aw4,bm2,cd7,bm3,da3,da4,da5,List.getElem?_cons_zero,List.getElem?_cons_succ,List.all_cons,List.all_nil,List.drop_zero,List.drop_succ_cons,List.head?_cons,Bool.and_true,Bool.and_self,Frm.ay4,Frm.get_nil,aa6,aa2,decide_true,decide_false,List.append_nil,List.nil_append,List.cons_append,Bool.false_eq_true,Bool.xor_false,Bool.xor_true,Bool.not_true,Bool.not_false,Nat.reduceEqDiff,Nat.reduceAdd,Nat.reduceMul,Nat.reduceLT,Nat.add_zero,Nat.zero_add,Nat.succ_ne_zero,if_true,if_false,↓reduceIte,reduceCtorEq,true_and,and_true,f0,f6,hm];constructor
  ·intro h0;subst h0;have hno:∀ e∈opsL,e.2≠.int .u8 n:=fun e he hn=>by have:=h7 e he hn; cases this
   refine ⟨fun i hi=>h2 i hi,h1,?_⟩;rw[fp3 hno];exact .keep _ (.str _)
  ·intro j hj;have hmem:left.getD j (.undef,.undef)∈left:=ad6 _ hj;have hops:=h6 _ hmem;have hment:∀ c x,dd7 ⟨x,(s.put σ.next (.av4 (left.eraseIdx j) (some c))).obj⟩ (.ptr σ.next 0)=some (.tuple [c.1,c.2]):=fun c x=>by simp only[dd7,aa2,if_true]
   generalize hc:left.getD j (.undef,.undef)=c at hmem hops ⊢
   obtain ⟨k,hk⟩:∃ k,c.2=.int .u8 k:=by
    simp only[opsL,List.mem_cons,List.not_mem_nil,or_false] at hops;rcases hops with rfl|rfl|rfl|rfl|rfl|rfl<;>exact ⟨_,rfl⟩
   simp only[hment,ct9,cu1,bx7,bj1,cu2,bx8,cu3,bx9,ep3,ho4,eo9,ep1,cu4,by1,cu5,by2,by3,bj2,cu6,w_q,by4,ep4,ep5,by5,ep6,by7,bj3,by6,cu7,cu8,cu9,by8,bj4,ep7,cv2,ep8,cv3,by9,bz1,cv4,ep9,eq1,eq2,eq3,eq4,eq5,eq6,eq7,eq8,eq9,cv5,er1,cv6,er2,cv7,bz2,cv8,cw3,er3,ho7,ho8,er4,er5,er6,er7,er8,er9,es3,es4,es5,es6,cw4,bz3,bj5,bb1,bz4,bj6,cv9,cw1,cw2,bz5,ho5,ho6,bb3,bk1,ca7,ca8,ca9,ca6,cx7,e_t,e_c,e_g,e_f,es7,cw5,es8,es9,et1,ao1,et2,cw6,bz6,et3,bz7,et4,bz8,bz9,et5,cw7,et6,cw8,et7,et8,et9,eu1,cw9,cx1,dx7,gr4,do7,dx6,ca1,ca2,cx2,cx3,ca3,ca4,ho9,bj7,cx4,cx5,cx6,bj8,ca5,bb2,bj9,bk2,cb1,bk3,bk4,cx8,cx9,dx8,dx9,cb2,cb3,cb4,cb5,cy1,cy2,cb6,bk5,eu2,eu3,eu4,eu5,eu6,eu7,eu8,eu9,ev1,ev2,ev3,do8,dy1,cy3,cy4,cy5,cy6,cy7,cy8,cy9,cz1,cz2,cz3,bb4,bk6,cb7,cb8,cb9,cz4,cz5,cz6,cz7,ev4,ev5,cz8,ev6,cc1,cc2,cc3,ev9,bg7,gr5,da6,cc4,cc5,bk7,bg6,bt2,ev7,ch7,bk8,ev8,ch8,bk9,bl4,cc6,cc7,cc8,cc9,bl5,cd1,cd2,bl6,bb5,aw3,bl7,cd3,bl8,cz9,da1,da2,cd4,bl9,cd5,cd6,bm1,bb6,aw4,bm2,cd7,bm3,da3,da4,da5,List.getElem?_cons_zero,List.getElem?_cons_succ,List.all_cons,List.all_nil,List.drop_zero,List.drop_succ_cons,List.head?_cons,Bool.and_true,Bool.and_self,Frm.ay4,Frm.get_nil,aa6,aa2,decide_true,decide_false,List.append_nil,List.nil_append,List.cons_append,Bool.false_eq_true,Bool.xor_false,Bool.xor_true,Bool.not_true,Bool.not_false,Nat.reduceEqDiff,Nat.reduceAdd,Nat.reduceMul,Nat.reduceLT,Nat.add_zero,Nat.zero_add,Nat.succ_ne_zero,if_true,if_false,↓reduceIte,reduceCtorEq,true_and,and_true,hk];by_cases hkn:k=n
   ·subst hkn;simp only[ct9,cu1,bx7,bj1,cu2,bx8,cu3,bx9,ep3,ho4,eo9,ep1,cu4,by1,cu5,by2,by3,bj2,cu6,w_q,by4,ep4,ep5,by5,ep6,by7,bj3,by6,cu7,cu8,cu9,by8,bj4,ep7,cv2,ep8,cv3,by9,bz1,cv4,ep9,eq1,eq2,eq3,eq4,eq5,eq6,eq7,eq8,eq9,cv5,er1,cv6,er2,cv7,bz2,cv8,cw3,er3,ho7,ho8,er4,er5,er6,er7,er8,er9,es3,es4,es5,es6,cw4,bz3,bj5,bb1,bz4,bj6,cv9,cw1,cw2,bz5,ho5,ho6,bb3,bk1,ca7,ca8,ca9,ca6,cx7,e_t,e_c,e_g,e_f,es7,cw5,es8,es9,et1,ao1,et2,cw6,bz6,et3,bz7,et4,bz8,bz9,et5,cw7,et6,cw8,et7,et8,et9,eu1,cw9,cx1,dx7,gr4,do7,dx6,ca1,ca2,cx2,cx3,ca3,ca4,ho9,bj7,cx4,cx5,cx6,bj8,ca5,bb2,bj9,bk2,cb1,bk3,bk4,cx8,cx9,dx8,dx9,cb2,cb3,cb4,cb5,cy1,cy2,cb6,bk5,eu2,eu3,eu4,eu5,eu6,eu7,eu8,eu9,ev1,ev2,ev3,do8,dy1,cy3,cy4,cy5,cy6,cy7,cy8,cy9,cz1,cz2,cz3,bb4,bk6,cb7,cb8,cb9,cz4,cz5,cz6,cz7,ev4,ev5,cz8,ev6,cc1,cc2,cc3,ev9,bg7,gr5,da6,cc4,cc5,bk7,bg6,bt2,ev7,ch7,bk8,ev8,ch8,bk9,bl4,cc6,cc7,cc8,cc9,bl5,cd1,cd2,bl6,bb5,aw3,bl7,cd3,bl8,cz9,da1,da2,cd4,bl9,cd5,cd6,bm1,bb6,aw4,bm2,cd7,bm3,da3,da4,da5,List.getElem?_cons_zero,List.getElem?_cons_succ,List.all_cons,List.all_nil,List.drop_zero,List.drop_succ_cons,List.head?_cons,Bool.and_true,Bool.and_self,Frm.ay4,Frm.get_nil,aa6,aa2,decide_true,decide_false,List.append_nil,List.nil_append,List.cons_append,Bool.false_eq_true,Bool.xor_false,Bool.xor_true,Bool.not_true,Bool.not_false,Nat.reduceEqDiff,Nat.reduceAdd,Nat.reduceMul,Nat.reduceLT,Nat.add_zero,Nat.zero_add,Nat.succ_ne_zero,if_true,if_false,↓reduceIte,reduceCtorEq,true_and,and_true];refine ⟨fun i hi=>by rw[if_neg (by omega)]; exact h2 i hi,h1,?_⟩;rw[gj1 hops hk];exact .keep _ (.str _)
   ·simp only[ct9,cu1,bx7,bj1,cu2,bx8,cu3,bx9,ep3,ho4,eo9,ep1,cu4,by1,cu5,by2,by3,bj2,cu6,w_q,by4,ep4,ep5,by5,ep6,by7,bj3,by6,cu7,cu8,cu9,by8,bj4,ep7,cv2,ep8,cv3,by9,bz1,cv4,ep9,eq1,eq2,eq3,eq4,eq5,eq6,eq7,eq8,eq9,cv5,er1,cv6,er2,cv7,bz2,cv8,cw3,er3,ho7,ho8,er4,er5,er6,er7,er8,er9,es3,es4,es5,es6,cw4,bz3,bj5,bb1,bz4,bj6,cv9,cw1,cw2,bz5,ho5,ho6,bb3,bk1,ca7,ca8,ca9,ca6,cx7,e_t,e_c,e_g,e_f,es7,cw5,es8,es9,et1,ao1,et2,cw6,bz6,et3,bz7,et4,bz8,bz9,et5,cw7,et6,cw8,et7,et8,et9,eu1,cw9,cx1,dx7,gr4,do7,dx6,ca1,ca2,cx2,cx3,ca3,ca4,ho9,bj7,cx4,cx5,cx6,bj8,ca5,bb2,bj9,bk2,cb1,bk3,bk4,cx8,cx9,dx8,dx9,cb2,cb3,cb4,cb5,cy1,cy2,cb6,bk5,eu2,eu3,eu4,eu5,eu6,eu7,eu8,eu9,ev1,ev2,ev3,do8,dy1,cy3,cy4,cy5,cy6,cy7,cy8,cy9,cz1,cz2,cz3,bb4,bk6,cb7,cb8,cb9,cz4,cz5,cz6,cz7,ev4,ev5,cz8,ev6,cc1,cc2,cc3,ev9,bg7,gr5,da6,cc4,cc5,bk7,bg6,bt2,ev7,ch7,bk8,ev8,ch8,bk9,bl4,cc6,cc7,cc8,cc9,bl5,cd1,cd2,bl6,bb5,aw3,bl7,cd3,bl8,cz9,da1,da2,cd4,bl9,cd5,cd6,bm1,bb6,aw4,bm2,cd7,bm3,da3,da4,da5,List.getElem?_cons_zero,List.getElem?_cons_succ,List.all_cons,List.all_nil,List.drop_zero,List.drop_succ_cons,List.head?_cons,Bool.and_true,Bool.and_self,Frm.ay4,Frm.get_nil,aa6,aa2,decide_true,decide_false,List.append_nil,List.nil_append,List.cons_append,Bool.false_eq_true,Bool.xor_false,Bool.xor_true,Bool.not_true,Bool.not_false,Nat.reduceEqDiff,Nat.reduceAdd,Nat.reduceMul,Nat.reduceLT,Nat.add_zero,Nat.zero_add,Nat.succ_ne_zero,if_true,if_false,↓reduceIte,reduceCtorEq,true_and,and_true,hkn];refine ⟨left.length-1,by omega,rfl,rfl,h1,fun i hi=>?_,Nat.le_refl _,left.eraseIdx j,some c,?_,?_,fun e he=>h6 e (List.mem_of_mem_eraseIdx he),fun e he hn=>?_⟩
    ·simp only[aa2]; rw[if_neg (by omega)]; exact h2 i hi
    ·simp only[aa2,if_true]
    ·rw[List.length_eraseIdx_of_lt hj]
    ·have h8:=h7 e he hn;rcases dq5 (d:=(IV.undef,IV.undef)) (j:=j) h8 with h9|h9
     ·exact h9
     ·rw[h9] at hn; rw[hc,hk] at hn; cases hn; exact absurd rfl hkn
end Go.Id
