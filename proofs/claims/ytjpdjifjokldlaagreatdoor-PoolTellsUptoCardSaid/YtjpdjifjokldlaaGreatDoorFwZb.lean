/- The interpreter,turned so that the kernel runs it in fewer steps; it is the same function. Conditions: none; over any program. -/
import Derived.Test.YtjpdjifjokldlaaGreatDoorFwZ
import Derived.Test.YtjpdjifjokldlaaGreatDoorFwQ
import Derived.Test.YtjpdjifjokldlaaGreatDoorMv
import Derived.Test.YtjpdjifjokldlaaGreatDoorFwV
import Derived.Shelf.Sort.Plain
import Derived.Shelf.Slices.In.SortNone
import Derived.SizedLaws
set_option linter.all false
namespace Go.Id
open Go
noncomputable section
variable {E:Nat->IV} {fr:Frm}
def cm5 {α:Type}(n:Nat)(k:Nat->α):α:=Nat.casesOn (motive:=fun _=>α) n (k 0) (fun m=>k (Nat.succ m))
theorem dv5 {α:Type}(n:Nat)(k:Nat->α):cm5 n k=k n:=by cases n<;>rfl
def iy5 {α:Type}(b:Bool)(k:Bool->α):α:=Bool.casesOn (motive:=fun _=>α) b (k false) (k true)
theorem hb9 {α:Type}(b:Bool)(k:Bool->α):iy5 b k=k b:=by cases b<;>rfl
def it8 {α:Type}(n:Int)(k:Int->α):α:=Int.casesOn (motive:=fun _=>α) n (fun m=>cm5 m fun m=>k (.ofNat m)) (fun m=>cm5 m fun m=>k (.negSucc m))
theorem hc5 {α:Type}(n:Int)(k:Int->α):it8 n k=k n:=by cases n<;>simp only[it8,dv5]
def id5 {α:Type}(b:Bool)(k:IV->α):α:=iy5 b fun b=>k (.bool b)
def iy6 {α:Type}(kd:IntKind)(n:Int)(k:IV->α):α:=it8 n fun n=>k (.int kd n)
def iy7 {α:Type}(i o:Nat)(k:IV->α):α:=cm5 i fun i=>cm5 o fun o=>k (.ptr i o)
def rSl {α:Type}(i o l e:Nat)(k:IV->α):α:=cm5 i fun i=>cm5 o fun o=>cm5 l fun l=>cm5 e fun e=>k (.slice i o l e)
def iy8 {α:Type}(i:Nat)(k:IV->α):α:=cm5 i fun i=>k (.map i)
def gq7 {α:Type}(i:Nat)(k:IV->α):α:=cm5 i fun i=>k (.yield i)
def gq8 {α:Type}(k:IV->α):α:=k .undef
def id6 {α:Type}(k:IV->α):α:=k .ad5
def id7 {α:Type}(k:IV->α):α:=k .aa1
def iy9 {α:Type}(k:IV->α):α:=k .ab9
def iz1 {α:Type}(k:IV->α):α:=k .ad6
def id8 {α:Type}(k:IV->α):α:=k .ag2
def id9 {α:Type}(k:IV->α):α:=k .ae4
def ie1 {α:Type}(k:IV->α):α:=k .ae2
def iz2 {α:Type}(x:List UInt8)(k:IV->α):α:=k (.str x)
def ie2 {α:Type}(x:List IV)(_:Unit)(k:IV->α):α:=k (.ad4 x)
def iz3 {α:Type}(x:List (List IV))(_:Unit)(k:IV->α):α:=k (.aa3 x)
def ie3 {α:Type}(x:List (IV×IV))(_:Unit)(k:IV->α):α:=k (.am4 x)
def ie4 {α:Type}(f:Fn)(x y:List IV)(_ _:Unit)(k:IV->α):α:=k (.func f x y)
def rIf {α:Type}(t:Nat)(x:IV)(_:(IV->α)->α)(k:IV->α):α:=k (.iface t x)
def iz4 {α:Type}(x:List IV)(_:Unit)(k:IV->α):α:=k (.agg x)
def iz5 {α:Type}(x:List IV)(_:Unit)(k:IV->α):α:=k (.tuple x)
def iz6 {α:Type}(i o l e:Nat)(k:IV->α):α:=cm5 i fun i=>cm5 o fun o=>cm5 l fun l=>cm5 e fun e=>k (.ae3 i o l e)
def iz7 {α:Type}(i o l r e:Nat)(k:IV->α):α:=cm5 i fun i=>cm5 o fun o=>cm5 l fun l=>cm5 r fun r=>cm5 e fun e=>k (.ad8 i o l r e)
def gq9 {α:Type}(v:IV):(IV->α)->α :=
 IV.rec (motive_1:=fun _=>(IV->α)->α) (motive_2:=fun _=>Unit) (motive_3:=fun _=>Unit) (motive_4:=fun _=>Unit) (motive_5:=fun _=>Unit)
  gq8 id5 iy6 iz2 id6 iy7 ie2 id7 iy9 iz1 rSl iz3 id8 iy8 ie3 ie4 gq7 id9 rIf ie1 iz4 iz5 iz6 iz7
  () (fun _ _ _ _=>()) () (fun _ _ _ _=>()) () (fun _ _ _ _=>()) (fun _ _ _ _=>()) v
theorem dc6 {α:Type}(v:IV)(k:IV->α):gq9 v k=k v:=by
 cases v<;>simp only[gq9,gq8,id5,iy6,iy7,rSl,iy8,gq7,id6,id7,iy9,iz1,id8,id9,ie1,iz2,ie2,iz3,ie3,ie4,rIf,iz4,iz5,iz6,iz7,dv5,hb9,hc5]
def hc7 (fr:Frm)(t:Nat):IV:=List.rec (motive:=fun _=>IV) .undef (fun e _ ih=>Bool.rec (motive:=fun _=>IV) ih e.2 (Nat.beq t e.1)) fr
theorem dv6 (fr:Frm)(t:Nat):hc7 fr t=fr.get t:=by
 induction fr with
 | nil=>rfl
 | cons e r ih=>
  obtain ⟨k,v⟩:=e;show Bool.rec (motive:=fun _=>IV) (hc7 r t) v (Nat.beq t k)=_;rw[ih,Frm.bb4];by_cases h:t=k
  ·subst h; simp
  ·have:Nat.beq t k=false:=by rw[<- Bool.not_eq_true,Nat.beq_eq]; exact h
   rw[this,if_neg h]
def eT (n:Nat)(_:Nat->IV)(fr:Frm):IV:=hc7 fr n
def eC (v:IV)(_:Nat->IV)(_:Frm):IV:=v
def eG (g:Nat)(E:Nat->IV)(_:Frm):IV:=E g
def eF (f:Nat)(_:Nat->IV)(_:Frm):IV:=.func (.func f) [] []
def evD (x:IX):(Nat->IV)->Frm->IV:=IX.rec (motive:=fun _=>(Nat->IV)->Frm->IV) eT eC eG eF x
def evK (E:Nat->IV)(fr:Frm)(x:IX):IV:=evD x E fr
theorem cp8 (E:Nat->IV)(fr:Frm)(x:IX):evK E fr x=x.ev E fr:=by
 cases x with
 | t n=>exact dv6 fr n
 | _=>rfl
theorem fm2 (E:Nat->IV)(fr:Frm):(fun x=>evK E fr x)=(fun x:IX=>x.ev E fr):=funext fun x=>cp8 E fr x
def ie5 (x:IX)(E:Nat->IV)(fr:Frm)(σ:Store):Option IV:=some (evK E fr x)
def gr1 (c a b:IX)(E:Nat->IV)(fr:Frm)(σ:Store):Option IV:=dj4 (evK E fr c) (evK E fr a) (evK E fr b)
def ie6 (x:IX)(E:Nat->IV)(fr:Frm)(σ:Store):Option IV:=hr5 (evK E fr x)
def ie7 (x:IX)(E:Nat->IV)(fr:Frm)(σ:Store):Option IV:=hr6 (evK E fr x)
def ie8 (op:BinOp)(x y:IX)(E:Nat->IV)(fr:Frm)(σ:Store):Option IV:=at1 op (evK E fr x) (evK E fr y)
def fm3 (d:TypeDesc)(neg:Bool)(x:IX)(E:Nat->IV)(fr:Frm)(σ:Store):Option IV:=(bs3 d (evK E fr x)).map fun b=>.bool (b ^^ neg)
def ie9 (tags:List Nat)(agg neg:Bool)(x y:IX)(E:Nat->IV)(fr:Frm)(σ:Store):Option IV:=fy2 tags agg neg (evK E fr x) (evK E fr y)
def gr2 (k:IntKind)(x:IX)(E:Nat->IV)(fr:Frm)(σ:Store):Option IV:=ek1 k (evK E fr x)
def fm4 (x:IX)(E:Nat->IV)(fr:Frm)(σ:Store):Option IV:=co3 (evK E fr x)
def q_len (kind:Nat)(x:IX)(E:Nat->IV)(fr:Frm)(σ:Store):Option IV:=cd7 kind σ (evK E fr x)
def fm5 (off:Nat)(x:IX)(E:Nat->IV)(fr:Frm)(σ:Store):Option IV:=cb5 off (evK E fr x)
def if1 (agg:Option Nat)(off:Nat)(x:IX)(E:Nat->IV)(fr:Frm)(σ:Store):Option IV:=gw4 agg off (evK E fr x)
def fm6 (esz:Nat)(x i:IX)(E:Nat->IV)(fr:Frm)(σ:Store):Option IV:=an1 esz (evK E fr x) (evK E fr i)
def fm7 (n esz:Nat)(x i:IX)(E:Nat->IV)(fr:Frm)(σ:Store):Option IV:=cf6 n esz (evK E fr x) (evK E fr i)
def if2 (agg:Option Nat)(n esz:Nat)(x i:IX)(E:Nat->IV)(fr:Frm)(σ:Store):Option IV:=go9 agg n esz (evK E fr x) (evK E fr i)
def gr3 (x i:IX)(E:Nat->IV)(fr:Frm)(σ:Store):Option IV:=cz9 (evK E fr x) (evK E fr i)
def if3 (esz:Nat)(x:IX)(lo hi:Option IX)(E:Nat->IV)(fr:Frm)(σ:Store):Option IV:=cb6 esz (lo.map (evK E fr)) (hi.map (evK E fr)) (evK E fr x)
def gr4 (x:IX)(lo hi:Option IX)(E:Nat->IV)(fr:Frm)(σ:Store):Option IV:=bs2 (lo.map (evK E fr)) (hi.map (evK E fr)) (evK E fr x)
def if4 (x:IX)(E:Nat->IV)(fr:Frm)(σ:Store):Option IV:=fd7 (evK E fr x)
def if5 (i:Nat)(x:IX)(E:Nat->IV)(fr:Frm)(σ:Store):Option IV:=gp1 i (evK E fr x)
def if6 (fn:Nat)(first cap:List IX)(E:Nat->IV)(fr:Frm)(σ:Store):Option IV:=some (.func (.func fn) (first.map (evK E fr)) (cap.map (evK E fr)))
def if7 (zero:List IV)(parts:List (Nat×Nat×IX))(E:Nat->IV)(fr:Frm)(σ:Store):Option IV:=(an2 zero (parts.map fun p=>(p.1,p.2.1,evK E fr p.2.2))).map .agg
def gr5 (agg:Option Nat)(x:IX)(E:Nat->IV)(fr:Frm)(σ:Store):Option IV:=ap4 σ agg (evK E fr x)
def gr6 (x:IX)(E:Nat->IV)(fr:Frm)(σ:Store):Option IV:=da2 (evK E fr x)
def iz8 (mx:Bool)(x y:IX)(E:Nat->IV)(fr:Frm)(σ:Store):Option IV:=mmI mx (evK E fr x) (evK E fr y)
def if8 (tag:Nat)(zero:IV)(ok:Bool)(x k:IX)(E:Nat->IV)(fr:Frm)(σ:Store):Option IV:=co5 σ tag zero ok (evK E fr x) (evK E fr k)
def if9 (x c:IX)(E:Nat->IV)(fr:Frm)(σ:Store):Option IV:=hr7 (evK E fr x) (evK E fr c)
def ig1 (agg:Option Nat)(x:IX)(E:Nat->IV)(fr:Frm)(σ:Store):Option IV:=gw5 agg (evK E fr x)
def ig2 (esz:Nat)(x lo hi mx:IX)(E:Nat->IV)(fr:Frm)(σ:Store):Option IV:=im8 esz (evK E fr x) (evK E fr lo) (evK E fr hi) (evK E fr mx)
def iz9 (q0:IQ):(Nat->IV)->Frm->Store->Option IV :=
 IQ.rec (motive:=fun _=>(Nat->IV)->Frm->Store->Option IV) ie5 gr1 ie6 ie7 ie8 fm3 ie9 gr2 fm4 q_len fm5 if1 fm6 fm7 if2 gr3 if3 gr4 if4 if5 if6 if7 gr5 gr6 iz8 if8 if9 ig1 ig2 q0
def it9 (E:Nat->IV)(fr:Frm)(σ:Store)(q0:IQ):Option IV:=iz9 q0 E fr σ
theorem hc9 (fr:Frm)(σ:Store)(q:IQ):it9 E fr σ q=evq E fr σ q:=by
 cases q<;>simp only[it9,iz9,ie5,gr1,ie6,ie7,ie8,fm3,ie9,gr2,fm4,q_len,fm5,if1,fm6,fm7,if2,gr3,if3,gr4,if4,if5,if6,if7,gr5,gr6,iz8,if8,if9,ig1,ig2,evq,cp8,show evK E fr=(fun x:IX=>x.ev E fr) from fm2 E fr]
def fQ (E:Nat->IV)(fr:Frm)(xs:XSt)(q:IQ):Option (IV×XSt):=match it9 E fr xs.st q with
  | some v=>some (v,xs)
  | none=>none
def ja1 (E:Nat->IV)(fr:Frm)(id:Nat)(xs:XSt)(x:IX):Option (IV×XSt):=if (evK E fr x).cs.all IV.leaf=true then dh9 xs id (.cells (evK E fr x).cs) (.ptr id 0) else none
def ja2 (E:Nat->IV)(fr:Frm)(id:Nat)(xs:XSt)(esz n:Nat)(z:List IV)(parts:List (Nat×Nat×IX)):Option (IV×XSt):=match an2 (rep z n) (parts.map fun p=>(p.1,p.2.1,evK E fr p.2.2)) with
  | some out=>dh9 xs id (.row out) (.slice id 0 n esz)
  | none=>none
def gr7 (E:Nat->IV)(fr:Frm)(xs:XSt)(sz:Nat)(x y:IX):Option (IV×XSt):=match ee2 xs sz (evK E fr x) (evK E fr y) with
  | some s=>some (.undef,s)
  | none=>none
def fSr (E:Nat->IV)(fr:Frm)(id:Nat)(xs:XSt)(x:IX):Option (IV×XSt):=match evK E fr x with
  | .str s=>dh9 xs id (.as1 s 0) (.ptr id 0)
  | _=>none
def fMu (E:Nat->IV)(fr:Frm)(xs:XSt)(tag:Nat)(x k v:IX):Option (IV×XSt):=match gh3 xs tag (evK E fr x) (evK E fr k) (evK E fr v) with
  | some s=>some (.undef,s)
  | none=>none
def fPc (rd:RD)(E:Nat->IV)(fr:Frm)(xs:XSt)(f:Nat)(args:List IX):Option (IV×XSt):=match rd 0 f (args.map (evK E fr)) xs with
  | some r=>some (r.1,xs)
  | none=>none
def fCv (rd:RD)(E:Nat->IV)(fr:Frm)(xs:XSt)(x:IX)(args:List IX):Option (IV×XSt):=match evK E fr x with
  | .func (.func f) first cap=>rd 1 f (first++args.map (evK E fr)++cap) xs
  | .yield i=>rd 2 i (args.map (evK E fr)) xs
  | _=>none
def ja3 (E:Nat->IV)(fr:Frm)(xs:XSt)(esz n:Nat)(z:List IV)(parts:List (Nat×Nat×IX)):Option (IV×XSt):=match an2 (rep z n) (parts.map fun p=>(p.1,p.2.1,evK E fr p.2.2)) with
  | some out=>some (.aa3 (chunk esz n out),xs)
  | none=>none
def ja4 (E:Nat->IV)(fr:Frm)(xs:XSt)(x:IX):Option (IV×XSt):=if (evK E fr x).cs.all IV.leaf=true then some (.ad4 (evK E fr x).cs,xs) else none
def fMr (E:Nat->IV)(fr:Frm)(id:Nat)(xs:XSt)(x:IX):Option (IV×XSt):=match evK E fr x with
  | .am4 es=>dh9 xs id (.aj5 es none) (.ptr id 0)
  | _=>none
def fMn (E:Nat->IV)(fr:Frm)(xs:XSt)(x:IX):Option (IV×XSt):=match at6 xs.st (evK E fr x) with
  | some (_,[])=>some (.tuple [.bool false],xs)
  | some (i,[e])=>dh9 xs i (.aj5 [] (some e)) (.tuple [.bool true,e.1,e.2])
  | _=>none
def fMe (E:Nat->IV)(fr:Frm)(xs:XSt)(x:IX):Option (IV×XSt):=match be1 xs.st (evK E fr x) with
  | some v=>some (v,xs)
  | none=>none
def fMk (E:Nat->IV)(fr:Frm)(id:Nat)(xs:XSt)(esz:Nat)(z:List IV)(x:IX):Option (IV×XSt):=match da8 (evK E fr x) with
  | some n=>dh9 xs id (.row (rep z n)) (.slice id 0 n esz)
  | none=>none
def fCl (E:Nat->IV)(fr:Frm)(xs:XSt)(esz:Nat)(z:List IV)(x:IX):Option (IV×XSt):=match io1 xs esz z (evK E fr x) with
  | some s=>some (.undef,s)
  | none=>none
def fSt (E:Nat->IV)(fr:Frm)(id:Nat)(xs:XSt)(k:SK)(ys:List IX):Option (IV×XSt):=stX k id xs (ys.map (evK E fr))
def ig3 (rd:RD)(E:Nat->IV)(fr:Frm)(xs:XSt)(f:Nat)(args:List IX):Option (IV×XSt):=rd 1 f (args.map (evK E fr)) xs
def k_q (q:IQ)(rd:RD)(E:Nat->IV)(id:Nat)(fr:Frm)(xs:XSt):Option (IV×XSt):=fQ E fr xs q
def fm8 (z:List IV)(rd:RD)(E:Nat->IV)(id:Nat)(fr:Frm)(xs:XSt):Option (IV×XSt):=dh9 xs id (.cells z) (.ptr id 0)
def ig4 (x:IX)(rd:RD)(E:Nat->IV)(id:Nat)(fr:Frm)(xs:XSt):Option (IV×XSt):=ja1 E fr id xs x
def ig5 (esz n:Nat)(z:List IV)(parts:List (Nat×Nat×IX))(rd:RD)(E:Nat->IV)(id:Nat)(fr:Frm)(xs:XSt):Option (IV×XSt):=ja2 E fr id xs esz n z parts
def fm9 (sz:Nat)(x y:IX)(rd:RD)(E:Nat->IV)(id:Nat)(fr:Frm)(xs:XSt):Option (IV×XSt):=gr7 E fr xs sz x y
def ig6 (esz:Nat)(s x:IX)(rd:RD)(E:Nat->IV)(id:Nat)(fr:Frm)(xs:XSt):Option (IV×XSt):=in9 xs id esz (evK E fr s) (evK E fr x)
def fn1 (rd:RD)(E:Nat->IV)(id:Nat)(fr:Frm)(xs:XSt):Option (IV×XSt):=dh9 xs id (.map []) (.map id)
def ed4 (x:IX)(rd:RD)(E:Nat->IV)(id:Nat)(fr:Frm)(xs:XSt):Option (IV×XSt):=fSr E fr id xs x
def fn2 (x:IX)(rd:RD)(E:Nat->IV)(id:Nat)(fr:Frm)(xs:XSt):Option (IV×XSt):=ee3 xs (evK E fr x)
def gr8 (tag:Nat)(x k v:IX)(rd:RD)(E:Nat->IV)(id:Nat)(fr:Frm)(xs:XSt):Option (IV×XSt):=fMu E fr xs tag x k v
def gr9 (f:Nat)(args:List IX)(rd:RD)(E:Nat->IV)(id:Nat)(fr:Frm)(xs:XSt):Option (IV×XSt):=ig3 rd E fr xs f args
def fn3 (f:Nat)(args:List IX)(rd:RD)(E:Nat->IV)(id:Nat)(fr:Frm)(xs:XSt):Option (IV×XSt):=fPc rd E fr xs f args
def fn4 (x:IX)(args:List IX)(rd:RD)(E:Nat->IV)(id:Nat)(fr:Frm)(xs:XSt):Option (IV×XSt):=fCv rd E fr xs x args
def gs2 (esz n:Nat)(z:List IV)(parts:List (Nat×Nat×IX))(rd:RD)(E:Nat->IV)(id:Nat)(fr:Frm)(xs:XSt):Option (IV×XSt):=ja3 E fr xs esz n z parts
def gs3 (x:IX)(rd:RD)(E:Nat->IV)(id:Nat)(fr:Frm)(xs:XSt):Option (IV×XSt):=ja4 E fr xs x
def ed5 (x:IX)(rd:RD)(E:Nat->IV)(id:Nat)(fr:Frm)(xs:XSt):Option (IV×XSt):=fMr E fr id xs x
def fn5 (x:IX)(rd:RD)(E:Nat->IV)(id:Nat)(fr:Frm)(xs:XSt):Option (IV×XSt):=fMn E fr xs x
def gs4 (x:IX)(rd:RD)(E:Nat->IV)(id:Nat)(fr:Frm)(xs:XSt):Option (IV×XSt):=fMe E fr xs x
def gs5 (esz:Nat)(z:List IV)(x:IX)(rd:RD)(E:Nat->IV)(id:Nat)(fr:Frm)(xs:XSt):Option (IV×XSt):=fMk E fr id xs esz z x
def ig7 (esz:Nat)(z:List IV)(x:IX)(rd:RD)(E:Nat->IV)(id:Nat)(fr:Frm)(xs:XSt):Option (IV×XSt):=fCl E fr xs esz z x
def ja5 (k:SK)(ys:List IX)(rd:RD)(E:Nat->IV)(id:Nat)(fr:Frm)(xs:XSt):Option (IV×XSt):=fSt E fr id xs k ys
def opD (op:IK):RD->(Nat->IV)->Nat->Frm->XSt->Option (IV×XSt):=
 IK.rec (motive:=fun _=>RD->(Nat->IV)->Nat->Frm->XSt->Option (IV×XSt)) k_q fm8 ig4 ig5 fm9 ig6 fn1 ed4 fn2 gr8 gr9 fn3 fn4 gs2 gs3 ed5 fn5 gs4 gs5 ig7 ja5 op
def opK (rd:RD)(E:Nat->IV)(op:IK)(id:Nat)(fr:Frm)(xs:XSt):Option (IV×XSt):=opD op rd E id fr xs
theorem fn6 (rd:RD)(op:IK)(id:Nat)(fr:Frm)(xs:XSt):opK rd E op id fr xs=opX rd E op id fr xs:=by
 cases op<;>simp only[opK,opD,k_q,fm8,ig4,ig5,fm9,ig6,fn1,ed4,fn2,gr8,gr9,fn3,fn4,gs2,gs3,ed5,fn5,gs4,gs5,ig7,ja5,opX,fQ,ja1,ja2,gr7,fSr,fMu,fPc,fCv,ja3,ja4,fMr,fMn,fMe,fMk,fCl,fSt,ig3,hc9,cp8,show evK E fr=(fun x:IX=>x.ev E fr) from fm2 E fr]<;>rfl
def ig8 (op:IK):Bool :=
 IK.rec (motive:=fun _=>Bool) (fun _=>false) (fun _=>true) (fun _=>true) (fun _ _ _ _=>true) (fun _ _ _=>false) (fun _ _ _=>true) true (fun _=>true) (fun _=>false) (fun _ _ _ _=>false) (fun _ _=>false) (fun _ _=>false) (fun _ _=>false) (fun _ _ _ _=>false) (fun _=>false) (fun _=>true) (fun _=>false) (fun _=>false) (fun _ _ _=>true) (fun _ _ _=>false) (fun _ _=>true) op
theorem gf1 (op:IK):ig8 op=op.lays:=by cases op<;>rfl
def in4 (op:IK)(id:Nat):Nat:=Bool.rec (motive:=fun _=>Nat) id (Nat.succ id) (ig8 op)
theorem hd8 (op:IK)(id:Nat):in4 op id=(bif op.lays then id+1 else id):=by
 unfold in4; rw[gf1]; cases op.lays<;>rfl
def hr9 (o:ac8)(fr:Frm):Option Bool :=
 match o.guard with
 | none=>some true
 | some (s,want)=>fc5 (hc7 fr s) want
theorem dv7 (o:ac8)(fr:Frm):hr9 o fr=au4 o fr:=by
 obtain ⟨d,g,op⟩:=o
 cases g with
 | none=>rfl
 | some p=>obtain ⟨a,b⟩:=p; show fc5 (hc7 fr a) b=fc5 (fr.get a) b; rw[dv6]
def ja6 (rd:RD)(E:Nat->IV)(o:ac8)(ih:Nat->Frm->XSt->Option (Frm×XSt))(id:Nat)(fr:Frm)(xs:XSt):Option (Frm×XSt):=
 match opK rd E o.op id fr xs with
 | some (v,s)=>gq9 v fun v=>cm5 (in4 o.op id) fun id=>ih id (fr.ai5 o.dst v) s
 | none=>none
def ja7 (o:ac8)(ih:Nat->Frm->XSt->Option (Frm×XSt))(id:Nat)(fr:Frm)(xs:XSt):Option (Frm×XSt):=cm5 (in4 o.op id) fun id=>ih id (fr.ai5 o.dst skV) xs
def iu1 (rd:RD)(E:Nat->IV)(o:ac8)(_:List ac8)(ih:Nat->Frm->XSt->Option (Frm×XSt))(id:Nat)(fr:Frm)(xs:XSt):Option (Frm×XSt):=
 match hr9 o fr with
 | some true=>ja6 rd E o ih id fr xs
 | some false=>ja7 o ih id fr xs
 | none=>none
def jf3 (_:Nat)(fr:Frm)(xs:XSt):Option (Frm×XSt):=some (fr,xs)
def iu2 (rd:RD)(E:Nat->IV)(ops:List ac8):Nat->Frm->XSt->Option (Frm×XSt):=
 List.rec (motive:=fun _=>Nat->Frm->XSt->Option (Frm×XSt)) jf3 (iu1 rd E) ops
theorem hd9 (rd:RD):∀ (ops:List ac8) (id:Nat) (fr:Frm) (xs:XSt),iu2 rd E ops id fr xs=hh2 rd E ops id fr xs:=by
 intro ops
 induction ops with
 | nil=>intro id fr xs; rfl
 | cons o rest ih=>
  intro id fr xs;simp only[hh2];show iu1 rd E o rest (iu2 rd E rest) id fr xs=_;simp only[iu1,ja6,ja7,dv7,fn6,ih,dc6,dv5,hd8];rfl
def in5 (E:Nat->IV)(fr:Frm)(xs:XSt):IK->Bool
 | .q (.load _ x)=>match evK E fr x with
  | .ad4 _=>true
  | .ptr i _=>match xs.t.get i with
   | some (.o (.cells _))=>true
   | _=>false
  | _=>false
 | _=>true
theorem he3 (fr:Frm)(xs:XSt)(k:IK):in5 E fr xs k=ii7 E fr xs k:=by
 cases k with
 | q q=>cases q with
  | load a x=>simp only[in5,ii7,cp8]; rfl
  | _=>rfl
 | _=>rfl
def gf2 (rd:RD)(E:Nat->IV)(B:Bool)(ops:List ac8):Nat->Frm->XSt->Option (Frm×XSt):=
 List.rec (motive:=fun _=>Nat->Frm->XSt->Option (Frm×XSt)) (fun _ fr xs=>some (fr,xs))
  (fun o _ ih id fr xs=>match hr9 o fr with
  | some true=>if (!B||in5 E fr xs o.op)=true then match opK rd E o.op id fr xs with
   | some (v,s)=>gq9 v fun v=>ih (id+1) (fr.ai5 o.dst v) s
   | none=>none
   else none
  | some false=>ih (id+1) (fr.ai5 o.dst skV) xs
  | none=>none) ops
theorem gf3 (rd:RD)(B:Bool):∀ (ops:List ac8) (id:Nat) (fr:Frm) (xs:XSt),gf2 rd E B ops id fr xs=ci6 rd E B ops id fr xs:=by
 intro ops
 induction ops with
 | nil=>intro id fr xs; rfl
 | cons o rest ih=>
  intro id fr xs;simp only[ci6]
  show (match hr9 o fr with
  | some true=>if (!B||in5 E fr xs o.op)=true then match opK rd E o.op id fr xs with
   | some (v,s)=>gq9 v fun v=>gf2 rd E B rest (id+1) (fr.ai5 o.dst v) s
   | none=>none
   else none
  | some false=>gf2 rd E B rest (id+1) (fr.ai5 o.dst skV) xs
  | none=>none)=_
  simp only[dv7,fn6,he3,ih,dc6];rfl
def gs6 (E:Nat->IV)(xs:XSt)(m:Nat)(L:List LE):Bool:=dn5 E xs m L
def tYo (rd:RD)(E:Nat->IV)(base i m:Nat)(o:ac8)(ih:List LE->Frm->XSt->Option (Frm×XSt))(L:List LE)(fr:Frm)(xs:XSt):Option (Frm×XSt):=
 match opK rd E o.op (base+i) fr xs with
 | some (v,s)=>match (Nat.beq m 0||gs6 E s m L) with
  | true=>gq9 v fun v=>ih (bd2 E fr i o.op v L) (fr.ai5 o.dst v) s
  | false=>none
 | none=>none
def ed6 (rd:RD)(E:Nat->IV)(base:Nat)(ops:List YO):List LE->Frm->XSt->Option (Frm×XSt):=
 List.rec (motive:=fun _=>List LE->Frm->XSt->Option (Frm×XSt)) (fun _ fr xs=>some (fr,xs))
  (fun y _ ih L fr xs=>match hr9 y.2.1 fr with
  | some true=>tYo rd E base y.1 y.2.2 y.2.1 ih L fr xs
  | some false=>ih L (fr.ai5 y.2.1.dst skV) xs
  | none=>none) ops
theorem fn8 (rd:RD)(base:Nat):∀ (ops:List YO) (L:List LE) (fr:Frm) (xs:XSt),ed6 rd E base ops L fr xs=ci7 rd E base ops L fr xs:=by
 intro ops
 induction ops with
 | nil=>intro L fr xs; rfl
 | cons o rest ih=>
  obtain ⟨i,o,m⟩:=o;intro L fr xs;simp only[ci7]
  show (match hr9 o fr with
  | some true=>tYo rd E base i m o (ed6 rd E base rest) L fr xs
  | some false=>ed6 rd E base rest L (fr.ai5 o.dst skV) xs
  | none=>none)=_
  simp only[dv7,fn6,gs6,tYo,ih,dc6];rfl
def fn9 {α:Type}(fr:Frm)(ks:List Nat):(Frm->α)->α:=List.rec (motive:=fun _=>(Frm->α)->α) (fun k=>k []) (fun t _ ih k=>gq9 (hc7 fr t) fun v=>ih fun f=>k ((t,v)::f)) ks
theorem dc7 {α:Type}(fr:Frm)(ks:List Nat):∀ (k:Frm->α),fn9 fr ks k=k (fr.keep ks):=by
 induction ks with
 | nil=>intro k; rfl
 | cons t ks ih=>
  intro k;show gq9 (hc7 fr t) (fun v=>fn9 fr ks fun f=>k ((t,v)::f))=_;rw[dc6,ih,dv6]; rfl
def he4 (step:Frm->XSt->Option (XE×Frm×XSt))(n:Nat):Frm->XSt->Option (XE×Frm×XSt):=
 Nat.rec (motive:=fun _=>Frm->XSt->Option (XE×Frm×XSt)) (fun _ _=>none) (fun _ ih fr xs=>match step fr xs with
  | some (.normal,fr',xs')=>ih fr' xs'
  | r=>r) n
theorem gf4 (step:Frm->XSt->Option (XE×Frm×XSt)):∀ (n:Nat) (fr:Frm) (xs:XSt),he4 step n fr xs=ew4 step n fr xs:=by
 intro n
 induction n with
 | zero=>intro fr xs; rfl
 | succ n ih=>
  intro fr xs
  show (match step fr xs with
  | some (.normal,fr',xs')=>he4 step n fr' xs'
  | r=>r)=_
  simp only[ew4,ih];rfl
abbrev RI2:=Option (XE×Frm×XSt)
def iu3 (fr:Frm)(xs:XSt):RI2:=some (.normal,fr,xs)
def iu4 (i:Nat)(fr:Frm)(xs:XSt):RI2:=some (.exit i,fr,xs)
def jf4 (fr:Frm)(xs:XSt):RI2:=some (.ret,fr,xs)
def iu5 (rd:RD)(E:Nat->IV)(fz:Nat->List Nat)(i:Nat)(ops:List ac8)(ks:List Nat)(fr:Frm)(xs:XSt):RI2:=match dn4 (fz i) fr xs with
  | some (fr,xs)=>match iu2 rd E ops xs.next fr ⟨xs.next+az5 ops,xs.t⟩ with
   | some (fr',xs')=>fn9 fr' ks fun f=>some (.normal,f,xs')
   | none=>none
  | none=>none
def he5 (rd:RD)(E:Nat->IV)(fz:Nat->List Nat)(i:Nat)(ops:List ac8)(B:Bool)(ks:List Nat)(fr:Frm)(xs:XSt):RI2:=match dn4 (fz i) fr xs with
  | some (fr,xs)=>match gf2 rd E B ops xs.next fr ⟨xs.next+ops.length,xs.t⟩ with
   | some (fr',xs')=>fn9 fr' ks fun f=>some (.normal,f,xs')
   | none=>none
  | none=>none
def he6 (rd:RD)(E:Nat->IV)(fz:Nat->List Nat)(i:Nat)(ops:List YO)(ks:List Nat)(fr:Frm)(xs:XSt):RI2:=match dn4 (fz i) fr xs with
  | some (fr,xs)=>match ed6 rd E xs.next ops [] fr ⟨xs.next+ops.length,xs.t⟩ with
   | some (fr',xs')=>fn9 fr' ks fun f=>some (.normal,f,xs')
   | none=>none
  | none=>none
def iu6 (_ _:IC)(a b:Frm->XSt->RI2)(fr:Frm)(xs:XSt):RI2:=match a fr xs with
  | some (.normal,fr',xs')=>b fr' xs'
  | r=>r
def he7 (E:Nat->IV)(x:IX)(_ _:IC)(a b:Frm->XSt->RI2)(fr:Frm)(xs:XSt):RI2:=match evK E fr x with
  | .bool true=>a fr xs
  | .bool false=>b fr xs
  | _=>none
def fo1 (i:Nat)(_:IC)(a:Frm->XSt->RI2)(fr:Frm)(xs:XSt):RI2:=match a fr xs with
  | some (.exit j,fr',xs')=>bif Nat.beq j i then some (.normal,fr',xs') else some (.exit j,fr',xs')
  | r=>r
def he8 (lf:Nat)(_:IC)(a:Frm->XSt->RI2)(fr:Frm)(xs:XSt):RI2:=he4 a lf fr xs
def kRf (rd:RD) (E:Nat->IV) (N:Nat) (g:IX) (ps:List Nat) (y a:IC) (_ _:Frm->XSt->RI2) (fr:Frm) (xs:XSt):RI2:=match evK E fr g with
  | .func (.func f) first cap=>match XSt.put ⟨xs.next+1,xs.t⟩ xs.next (some (.loop N fr ps y a .ready none)) with
   | some xs1=>match rd 1 f (first++[.yield xs.next]++cap) xs1 with
    | some (_,xs2)=>match xs2.t.get xs.next with
     | some (.loop _ _ _ _ _ .ready none)=>(xs2.put xs.next none).map fun s=>(.normal,fr,s)
     | some (.loop _ _ _ _ _ .done (some .ret))=>(xs2.put xs.next none).map fun s=>(.ret,fr,s)
     | some (.loop _ _ _ _ _ .done (some (.exit i)))=>(xs2.put xs.next none).map fun s=>(.exit i,fr,s)
     | _=>none
    | none=>none
   | none=>none
  | _=>none
def ig9 (_:IC)(a:Frm->XSt->RI2)(fr:Frm)(xs:XSt):RI2:=a fr xs
def icK (rd:RD)(E:Nat->IV)(fz:Nat->List Nat)(N lf:Nat)(c:IC):Frm->XSt->RI2 :=
 IC.rec (motive:=fun _=>Frm->XSt->RI2) (skip:=iu3) (reg:=iu5 rd E fz) (dreg:=he5 rd E fz) (oreg:=he6 rd E fz) (seq:=iu6) (cond:=he7 E) (block:=fo1) (loop:=he8 lf) (exit:=iu4) (ret:=jf4) (rfunc:=kRf rd E N) (scope:=ig9) c
theorem gs7 (rd:RD)(fz:Nat->List Nat)(N lf:Nat):∀ (c:IC) (fr:Frm) (xs:XSt),icK rd E fz N lf c fr xs=icX rd E fz N lf c fr xs:=by
 intro c
 induction c with
 | seq a b iha ihb=>
  intro fr xs;show iu6 a b (icK rd E fz N lf a) (icK rd E fz N lf b) fr xs=_
  simp only[iu6,icX,iha,ihb]; rfl
 | cond x a b iha ihb=>
  intro fr xs;show he7 E x a b (icK rd E fz N lf a) (icK rd E fz N lf b) fr xs=_
  simp only[he7,icX,iha,ihb,cp8]; rfl
 | block i a iha=>
  intro fr xs;show fo1 i a (icK rd E fz N lf a) fr xs=_
  simp only[fo1,icX,iha]; rfl
 | scope a iha=>intro fr xs; show icK rd E fz N lf a fr xs=_; simp only[icX]; exact iha fr xs
 | loop a iha=>
  intro fr xs;show he8 lf a (icK rd E fz N lf a) fr xs=_;simp only[he8,icX,gf4]
  rw[show icK rd E fz N lf a=icX rd E fz N lf a from funext fun f=>funext fun x=>iha f x]
 | reg i ops ks=>intro fr xs; show iu5 rd E fz i ops ks fr xs=_; simp only[iu5,icX,hd9,dc7]; rfl
 | dreg i ops B ks=>intro fr xs; show he5 rd E fz i ops B ks fr xs=_; simp only[he5,icX,gf3,dc7]; rfl
 | oreg i ops ks=>intro fr xs; show he6 rd E fz i ops ks fr xs=_; simp only[he6,icX,fn8,dc7]; rfl
 | rfunc g ps y a ihy iha=>intro fr xs; show kRf rd E N g ps y a (icK rd E fz N lf y) (icK rd E fz N lf a) fr xs=_; simp only[kRf,icX,cp8]; rfl
 | _=>intro fr xs; rfl
def gf5 (rd:RD)(E:Nat->IV)(fz:Nat->List Nat)(lf:Nat)(e:Nat×IC×List IR)(args:List IV)(xs:XSt):Option (IV×XSt):=
 if args.length<=e.1 then
  match icK rd E fz e.1 lf e.2.1 (ax2 args 0) xs with
  | some (.normal,fr,s)=>match irL s.st fr e.2.2 with
   | some vs=>some (hh4 (dc2 vs),s)
   | none=>none
  | some (.ret,fr,s)=>match irL s.st fr e.2.2 with
   | some vs=>some (hh4 (dc2 vs),s)
   | none=>none
  | _=>none
 else none
theorem ed7 (rd:RD)(fz:Nat->List Nat)(lf:Nat)(e:Nat×IC×List IR)(args:List IV)(xs:XSt):gf5 rd E fz lf e args xs=ew5 rd E fz lf e args xs:=by
 simp only[gf5,ew5,gs7];rfl
def dv8 (rd:RD)(T:Tab)(E:Nat->IV)(lf:Nat)(k:Nat)(args:List IV):Option IV :=
 match T.fy5 k args with
 | some v=>some v
 | none=>match T.fn k with
  | some e=>match gf5 rd E (T.fz k) lf e args ⟨0,.e⟩ with
   | some (v,s)=>io2 s 1000 v
   | none=>none
  | none=>none
theorem ed8 (rd:RD)(T:Tab)(lf k:Nat)(args:List IV):dv8 rd T E lf k args=dd6 rd T E lf k args:=by
 simp only[dv8,dd6,ed7];rfl
def en7  (T:Tab) (E:Nat->IV) (lf:Nat):Nat->RD
 | 0,_,_,_,_=>none
 | d+1,0,k,args,xs=>bif args.all (af2 1000) then (match dv8 (en7 T E lf d) T E lf k args with
  | some v=>some (v,xs)
  | none=>none) else none
 | d+1,1,k,args,xs=>bif T.pure k&&args.all (af2 1000) then (match dv8 (en7 T E lf d) T E lf k args with
  | some v=>some (v,xs)
  | none=>none) else (bif T.ht9 (k+1000000)&&hh6 args xs then gh8 (dv8 (en7 T E lf d) T E lf) k args xs else bif T.ht9 k then gh9 (dv8 (en7 T E lf d) T E lf) k args xs else (match T.fn k with
   | some e=>gf5 (en7 T E lf d) E (T.fz k) lf e args xs
   | none=>none))
 | d+1,_,k,args,xs=>match xs.t.get k with
  | some (.loop N fr ps asg body .ready none)=>if args.length=ps.length then
    match icK (en7 T E lf d) E (fun _=>[]) N lf asg (bt2 fr ps args) xs with
    | some (.normal,f1,xs0)=>match xs0.t.get k with
     | some (.loop N0 fr0 ps0 as0 b0 .ready none)=>match xs0.put k (some (.loop N0 fr0 ps0 as0 b0 .busy none)) with
      | some xs1=>match icK (en7 T E lf d) E (fun _=>[]) N lf body f1 xs1 with
       | some (e,_,xs2)=>match xs2.t.get k with
        | some (.loop N' fr' ps' as' b' .busy none)=>match e with
         | .normal=>(xs2.put k (some (.loop N' fr' ps' as' b' .ready none))).map fun s=>(.bool true,s)
         | .ret=>(xs2.put k (some (.loop N' fr' ps' as' b' .done (some .ret)))).map fun s=>(.bool false,s)
         | .exit i=>(xs2.put k (some (.loop N' fr' ps' as' b' .done (some (.exit i))))).map fun s=>(.bool false,s)
        | _=>none
       | none=>none
      | none=>none
     | _=>none
    | _=>none
   else none
  | _=>none
theorem he9 (T:Tab)(lf:Nat):∀ d,en7 T E lf d=cx6 T E lf d:=by
 intro d
 induction d with
 | zero=>funext a k args xs; simp only[en7,cx6]
 | succ d ih=>
  funext a k args xs
  match a with
  | 0=>simp only[en7,cx6,ih,ed8]; rfl
  | 1=>simp only[en7,cx6,ih,show dv8 (cx6 T E lf d) T E lf=dd6 (cx6 T E lf d) T E lf from funext fun k=>funext fun a=>ed8 _ _ _ _ _,ed7]; rfl
  | a+2=>simp only[en7,cx6,ih,gs7]; rfl
end
end Go.Id
/- Codes,part by part; blocks let go at a call. Conditions: none; over any program. -/
namespace Go.Id
open Go
variable {P:Program} {E:Nat->IV} {σ σ':Store} {N n0:Nat} {fr:Frm}
def gf6 (P:Program)(E:Nat->IV)(N n0:Nat)(b:IC)(Q:Exit->Frm->Store->Prop):Exit->Frm->Store->Prop
 | .normal,fr,σ=>RI P E N n0 b fr σ Q
 | e,fr,σ=>Q e fr σ
theorem iu7 {b:IC}{Q:Exit->Frm->Store->Prop}:gf6 P E N n0 b Q .normal fr σ=RI P E N n0 b fr σ Q:=nr rfl
theorem iu8 {b:IC}{Q:Exit->Frm->Store->Prop}:gf6 P E N n0 b Q .ret fr σ=Q .ret fr σ:=nr rfl
theorem iu9 {b:IC}{i:Nat}{Q:Exit->Frm->Store->Prop}:gf6 P E N n0 b Q (.exit i) fr σ=Q (.exit i) fr σ:=nr rfl
attribute [go_sem] iu7 iu8 iu9
theorem ax9 {x:IC}{Q:Exit->Frm->Store->Prop}(h:wpT noP noC P E N n0 x fr σ Q):RI P E N n0 x fr σ Q:=as3 x fr σ Q (as6 noT x fr σ Q h)
theorem aw6 {a b:IC}{Q:Exit->Frm->Store->Prop}(h:RI P E N n0 a fr σ (gf6 P E N n0 b Q)):RI P E N n0 (.seq a b) fr σ Q:=by
 intro pf an c hc
 cases c with
 | seq x y=>
  simp only[ao5] at hc;split at hc
  ·rename_i xa xb hx hy;cases hc;refine gx5 ((h pf an x hx).mono ?_);intro e f s q
   cases e with
   | normal=>exact q pf an y hy
   | _=>exact q
  ·cases hc
 | region id ops draw=>
  exfalso;simp only[ao5] at hc;split at hc
  ·cases hc
  ·split at hc<;>first|(cases hc; done)|(split at hc<;>cases hc)
  ·cases hc
 | cond c a b=>simp only[ao5] at hc; split at hc<;>cases hc
 | block id a=>obtain ⟨_,_,h⟩:=map_some hc; cases h
 | scope a=>obtain ⟨_,_,h⟩:=map_some hc; cases h
 | loop a=>obtain ⟨_,_,h⟩:=map_some hc; cases h
 | rangeFunc g ps a b=>
  simp only[ao5] at hc;split at hc
  ·split at hc<;>cases hc
  ·cases hc
 | _=>cases hc
theorem ih4 {f:Nat}{ic:IC}{irs:List IR}{args:List IV}{Qc:IV->Store->Prop}(hf:FOK P f (N,ic,irs))(hl:args.length<=N)
  (h:RI P E N σ.next ic (ax2 args 0) σ (fo5 irs Qc)):C P E f args σ Qc:=by
 obtain ⟨_,pf,an,fn,h1,h2,h3,h4⟩:=hf
 cases hb:fn.body with
 | none=>rw[hb] at h3; cases h3
 | some c=>
  rw[hb] at h3;refine ha8 h1 hb h2 hl ((h pf an c h3).mono ?_);intro e fr' σ' q;have q:=cq2 q;cases e<;>first|(obtain ⟨vs,q1,q2⟩:=q; exact ⟨vs,by rw[fo3 _ _ h4]; exact q1,q2⟩)|exact q
theorem iv1 {f:Nat}{ic:IC}{irs:List IR}{args:List IV}{v:IV}(hE:∀ g,Bnd 0 (E g))(hf:FOK P f (N,ic,irs))(hl:args.length<=N)(ha:∀ a∈args,Bnd 0 a)
  (h:RI P E N 0 ic (ax2 args 0) emp (fo5 irs fun v' σ'=>dh8 σ' 0 v' v)):PC P E f args v :=
 dc9 hE ha (ih4 (σ:=emp) hf hl h)
theorem en8 {S:Nat->Bool}:(σ.kills S).next=σ.next:=nr rfl
theorem fo2 {S:Nat->Bool}{i:Nat}:(σ.kills S).obj i=if S i=true then σ.obj i else none:=nr rfl
attribute [go_sem] en8 fo2
theorem hf4 {f:Nat}{args args':List IV}{v:IV}(hl:args'.length=args.length)(ha:∀ σ i,i<args.length->Frz σ (fun _=>true=true) (args.getD i .undef) (args'.getD i .undef))(h:PC P E f args' v):PC P E f args v:=fun σ=>
 gt5 (S:=fun _=>true) hl (ha σ) (h σ)
end Go.Id
namespace Go.Id
open Go
variable {P:Program} {E:Nat->IV} {σ σ':Store} {N n0:Nat} {fr:Frm}
end Go.Id
set_option linter.all false
namespace Go.Id
open Go
theorem jf7 {d:Nat}{q:IQ}:oQ d q=⟨some d,none,.q q⟩:=nr rfl
theorem jf8 {d:Nat}{x:IX}:oM d x=⟨some d,none,.q (.mov x)⟩:=nr rfl
theorem jf9 {d:Nat}{k:IK}:oK d k=⟨some d,none,k⟩:=nr rfl
theorem jg1 {d s:Nat}{w:Bool}{q:IQ}:gQ d s w q=⟨some d,some (s,w),.q q⟩:=nr rfl
theorem jg2 {d s:Nat}{w:Bool}{k:IK}:gK d s w k=⟨some d,some (s,w),k⟩:=nr rfl
theorem jg3 {k:IK}:oN k=⟨none,none,k⟩:=nr rfl
theorem jg4 {n:Int}:cI n=.c (.int .i64 n):=nr rfl
theorem jg5 {b:Bool}:cB b=.c (.bool b):=nr rfl
theorem jg6 {n:Int}:zI n=.int .i64 n:=nr rfl
theorem jg7 {n:Int}:zU n=.int .u8 n:=nr rfl
attribute [go_sem] jf7 jf8 jf9 jg1 jg2 jg3 jg4 jg5 jg6 jg7
attribute [go_sem] decide_true decide_false reduceCtorEq Int.reduceLT Int.reduceLE Int.reduceToNat Int.reduceAdd Nat.reduceEqDiff Nat.reduceAdd Nat.reduceMul Nat.reduceLT Nat.reduceLeDiff
attribute [go_sem ↓] reduceIte
theorem nZ {a b:Nat} (h:Nat.ble a b=true):a<=b:=Nat.le_of_ble_eq_true h
abbrev T0:IX:=.t 0
abbrev T1:IX:=.t 1
abbrev T2:IX:=.t 2
abbrev T3:IX:=.t 3
abbrev T4:IX:=.t 4
abbrev T5:IX:=.t 5
abbrev T6:IX:=.t 6
abbrev T7:IX:=.t 7
abbrev T8:IX:=.t 8
abbrev T9:IX:=.t 9
abbrev T10:IX:=.t 10
abbrev T11:IX:=.t 11
abbrev T12:IX:=.t 12
abbrev T13:IX:=.t 13
abbrev T14:IX:=.t 14
abbrev T15:IX:=.t 15
abbrev T16:IX:=.t 16
abbrev T17:IX:=.t 17
abbrev T18:IX:=.t 18
abbrev T19:IX:=.t 19
abbrev T20:IX:=.t 20
abbrev T21:IX:=.t 21
abbrev T22:IX:=.t 22
abbrev T23:IX:=.t 23
abbrev T24:IX:=.t 24
abbrev T25:IX:=.t 25
abbrev T26:IX:=.t 26
abbrev T27:IX:=.t 27
abbrev T28:IX:=.t 28
abbrev T29:IX:=.t 29
abbrev T30:IX:=.t 30
abbrev T31:IX:=.t 31
abbrev T32:IX:=.t 32
abbrev T33:IX:=.t 33
abbrev T34:IX:=.t 34
abbrev T35:IX:=.t 35
abbrev T36:IX:=.t 36
abbrev T37:IX:=.t 37
abbrev T38:IX:=.t 38
abbrev T39:IX:=.t 39
abbrev T40:IX:=.t 40
abbrev T41:IX:=.t 41
abbrev T42:IX:=.t 42
abbrev T43:IX:=.t 43
abbrev T44:IX:=.t 44
abbrev T45:IX:=.t 45
abbrev T46:IX:=.t 46
abbrev T47:IX:=.t 47
abbrev T48:IX:=.t 48
abbrev T49:IX:=.t 49
abbrev T50:IX:=.t 50
abbrev T51:IX:=.t 51
abbrev T52:IX:=.t 52
abbrev T53:IX:=.t 53
abbrev T54:IX:=.t 54
abbrev T55:IX:=.t 55
abbrev T56:IX:=.t 56
abbrev T57:IX:=.t 57
abbrev T58:IX:=.t 58
abbrev T59:IX:=.t 59
abbrev T60:IX:=.t 60
abbrev T61:IX:=.t 61
abbrev T62:IX:=.t 62
abbrev T63:IX:=.t 63
abbrev T64:IX:=.t 64
abbrev T65:IX:=.t 65
abbrev T66:IX:=.t 66
abbrev T67:IX:=.t 67
abbrev T68:IX:=.t 68
abbrev T69:IX:=.t 69
abbrev T70:IX:=.t 70
abbrev T71:IX:=.t 71
abbrev T72:IX:=.t 72
abbrev T73:IX:=.t 73
abbrev T74:IX:=.t 74
abbrev T75:IX:=.t 75
abbrev T76:IX:=.t 76
abbrev T77:IX:=.t 77
abbrev T78:IX:=.t 78
abbrev T79:IX:=.t 79
abbrev T80:IX:=.t 80
abbrev T81:IX:=.t 81
abbrev T82:IX:=.t 82
abbrev T83:IX:=.t 83
abbrev T84:IX:=.t 84
abbrev T85:IX:=.t 85
abbrev T86:IX:=.t 86
abbrev T87:IX:=.t 87
abbrev T88:IX:=.t 88
abbrev T89:IX:=.t 89
abbrev T90:IX:=.t 90
abbrev T91:IX:=.t 91
abbrev T92:IX:=.t 92
abbrev T93:IX:=.t 93
abbrev T94:IX:=.t 94
abbrev T95:IX:=.t 95
abbrev T96:IX:=.t 96
abbrev T97:IX:=.t 97
abbrev T98:IX:=.t 98
abbrev T99:IX:=.t 99
abbrev T100:IX:=.t 100
abbrev T101:IX:=.t 101
abbrev T102:IX:=.t 102
abbrev T103:IX:=.t 103
abbrev T104:IX:=.t 104
abbrev T105:IX:=.t 105
abbrev T106:IX:=.t 106
abbrev T107:IX:=.t 107
abbrev T108:IX:=.t 108
abbrev T109:IX:=.t 109
abbrev T110:IX:=.t 110
abbrev T111:IX:=.t 111
abbrev T112:IX:=.t 112
abbrev T113:IX:=.t 113
abbrev T114:IX:=.t 114
abbrev T115:IX:=.t 115
abbrev T116:IX:=.t 116
abbrev T117:IX:=.t 117
abbrev T118:IX:=.t 118
abbrev T119:IX:=.t 119
abbrev T120:IX:=.t 120
abbrev T121:IX:=.t 121
abbrev T122:IX:=.t 122
abbrev T123:IX:=.t 123
abbrev T124:IX:=.t 124
abbrev T125:IX:=.t 125
abbrev T126:IX:=.t 126
abbrev T127:IX:=.t 127
abbrev T128:IX:=.t 128
abbrev T129:IX:=.t 129
abbrev T130:IX:=.t 130
abbrev T131:IX:=.t 131
abbrev T132:IX:=.t 132
abbrev T133:IX:=.t 133
abbrev T134:IX:=.t 134
abbrev T135:IX:=.t 135
abbrev T136:IX:=.t 136
abbrev T137:IX:=.t 137
abbrev T138:IX:=.t 138
abbrev T139:IX:=.t 139
abbrev T140:IX:=.t 140
abbrev T141:IX:=.t 141
abbrev T142:IX:=.t 142
abbrev T143:IX:=.t 143
abbrev T144:IX:=.t 144
abbrev T145:IX:=.t 145
abbrev T146:IX:=.t 146
abbrev T147:IX:=.t 147
abbrev T148:IX:=.t 148
abbrev T149:IX:=.t 149
abbrev T150:IX:=.t 150
abbrev T151:IX:=.t 151
abbrev T152:IX:=.t 152
abbrev T153:IX:=.t 153
abbrev T154:IX:=.t 154
abbrev T155:IX:=.t 155
abbrev T156:IX:=.t 156
abbrev T157:IX:=.t 157
abbrev T158:IX:=.t 158
abbrev T159:IX:=.t 159
abbrev T160:IX:=.t 160
abbrev T161:IX:=.t 161
abbrev T162:IX:=.t 162
abbrev T163:IX:=.t 163
abbrev T164:IX:=.t 164
abbrev T165:IX:=.t 165
abbrev T166:IX:=.t 166
abbrev T167:IX:=.t 167
abbrev T168:IX:=.t 168
abbrev T169:IX:=.t 169
abbrev T170:IX:=.t 170
abbrev T171:IX:=.t 171
abbrev T172:IX:=.t 172
abbrev T173:IX:=.t 173
abbrev T174:IX:=.t 174
abbrev T175:IX:=.t 175
abbrev T176:IX:=.t 176
abbrev T177:IX:=.t 177
abbrev T178:IX:=.t 178
abbrev T179:IX:=.t 179
abbrev T180:IX:=.t 180
abbrev T181:IX:=.t 181
abbrev T182:IX:=.t 182
abbrev T183:IX:=.t 183
abbrev T184:IX:=.t 184
abbrev T185:IX:=.t 185
abbrev T186:IX:=.t 186
abbrev T187:IX:=.t 187
abbrev T188:IX:=.t 188
abbrev T189:IX:=.t 189
abbrev T190:IX:=.t 190
abbrev T191:IX:=.t 191
abbrev T192:IX:=.t 192
abbrev T193:IX:=.t 193
abbrev T194:IX:=.t 194
abbrev T195:IX:=.t 195
abbrev T196:IX:=.t 196
abbrev T197:IX:=.t 197
abbrev T198:IX:=.t 198
abbrev T199:IX:=.t 199
abbrev T200:IX:=.t 200
abbrev T201:IX:=.t 201
abbrev T202:IX:=.t 202
abbrev T203:IX:=.t 203
abbrev T204:IX:=.t 204
abbrev T205:IX:=.t 205
abbrev T206:IX:=.t 206
abbrev T207:IX:=.t 207
abbrev T208:IX:=.t 208
abbrev T209:IX:=.t 209
abbrev T210:IX:=.t 210
abbrev T211:IX:=.t 211
abbrev T212:IX:=.t 212
end Go.Id
set_option linter.all false
namespace Go.Id
open Go
variable {P:Program} {E:Nat->IV} {σ:Store} {N n0 id:Nat} {fr:Frm} {pt:PT} {ct:CT} {Q:Exit->Frm->Store->Prop} {K:IV->Store->Prop}
theorem be9 {P:IV->Prop}{a:IV}(h:P a):∀ v∈[a],P v:=by simpa using h
theorem cc3 {P:IV->Prop}{a b:IV}(h:P a)(h2:P b):∀ v∈[a,b],P v:=by simpa using ⟨h,h2⟩
theorem ew3 {P:IV->Prop}{a b c:IV}(h:P a)(h2:P b)(h3:P c):∀ v∈[a,b,c],P v:=by simpa using ⟨h,h2,h3⟩
theorem iv9 {P:IV->Prop}{a b c d:IV}(h:P a)(h2:P b)(h3:P c)(h4:P d):∀ v∈[a,b,c,d],P v:=by simpa using ⟨h,h2,h3,h4⟩
theorem ii4 {P:IV->Prop}{a b c d e:IV}(h:P a)(h2:P b)(h3:P c)(h4:P d)(h5:P e):∀ v∈[a,b,c,d,e],P v:=by simpa using ⟨h,h2,h3,h4,h5⟩
theorem iw1 {ag:Option Nat}{x:IX}:evq E fr σ (.ldt ag x)=gw5 ag (x.ev E fr):=nr rfl
theorem ii5 {cs:List IV}:gw5 none (.ad4 cs)=cs.head?:=nr rfl
theorem ii6 {n:Nat}{cs:List IV}:gw5 (some n) (.ad4 cs)=if n<=cs.length then some (.agg (cs.take n)) else none:=nr rfl
attribute [go_sem] iw1 ii5 ii6
end Go.Id
set_option linter.all false
namespace Go.Id
open Go Go.Id.Md
variable {P:Program} {E:Nat->IV} {σ s t:Store} {v:IV} {zs:List Int} {lo:Nat}
abbrev gq6 (n:Int):IV:=.int .i64 n
def ha9 (s:Store)(lo:Nat)(v:IV)(zs:List Int):Prop :=
 (v=.aa1/\zs=[])\/∃ id cs,lo<=id/\id<s.next/\v=.slice id 0 zs.length 1/\s.obj id=some (.row cs)/\cs.take zs.length=zs.map gq6/\zs.length<=cs.length
def cn4 (s:Store)(lo:Nat)(v:IV)(zs:List Int):Prop :=
 (v=.aa1/\zs=[])\/∃ id,lo<=id/\id<s.next/\v=.slice id 0 zs.length 1/\s.obj id=some (.row (zs.map gq6))
theorem cn4.w (h:cn4 s lo v zs):ha9 s lo v zs:=by
 rcases h with h|⟨id,h1,h2,h3,h4⟩
 ·exact .inl h
 ·exact .inr ⟨id,_,h1,h2,h3,h4,by rw[List.take_of_length_le (by simp)],by simp⟩
structure Kept (σ s:Store):Prop where
 next:σ.next<=s.next
 obj:∀ i,i<σ.next->s.obj i=σ.obj i
theorem Kept.refl (σ:Store):Kept σ σ:=⟨Nat.le_refl _,fun _ _=>rfl⟩
theorem Kept.trans (h:Kept σ s)(h2:Kept s t):Kept σ t:=⟨Nat.le_trans h.next h2.next,fun i hi=>by rw[h2.obj i (Nat.lt_of_lt_of_le hi h.next),h.obj i hi]⟩
def jf2 (σ:Store)(zs:List Int)(v:IV)(s:Store):Prop:=Kept σ s/\ha9 s σ.next v zs
def id4 (σ:Store)(zs:List Int)(v:IV)(s:Store):Prop:=Kept σ s/\cn4 s σ.next v zs
theorem id4.w (h:id4 σ zs v s):jf2 σ zs v s:=⟨h.1,h.2.w⟩
theorem hb7 {cs:List IV}(h:cs.take zs.length=zs.map gq6){i:Nat}(hi:i<zs.length):cs.getD i .undef=gq6 zs[i]:=by
 have h1:(cs.take zs.length)[i]? = (zs.map gq6)[i]?:=by rw[h]
 rw[List.getElem?_take,if_pos hi,List.getElem?_map,List.getElem?_eq_getElem hi] at h1;rw[List.getD_eq_getElem?_getD,h1]; rfl
theorem ha9.frz {S:Nat->Prop}(h:ha9 s lo v zs)(hS:∀ i,lo<=i->¬ S i):Frz s S v (.aa3 (zs.map Md.ai9)):=by
 rcases h with ⟨rfl,rfl⟩|⟨id,cs,h1,h2,rfl,h4,h5,h6⟩
 ·exact .dr9
 ·refine .slice id 0 zs.length 1 cs (zs.map Md.ai9) (hS id h1) (.inr h4) (by rw[List.length_map]) (by omega) (fun i hi=>?_) fun i hi j hj=>?_
  ·simp[List.getD_eq_getElem?_getD,hi,Md.ai9]
  ·have hj0:j=0:=by omega
   subst hj0;have e2:((zs.map Md.ai9).getD i []).getD 0 .undef=gq6 zs[i]:=by simp[List.getD_eq_getElem?_getD,hi,Md.ai9]
   rw[e2,Nat.zero_add,Nat.mul_one,Nat.add_zero,hb7 h5 hi];exact .keep _ (.int _ _)
theorem cn4.grow (h:Grow s v 1 (zs.map Md.ai9))(hlo:∀ id,v=.slice id 0 zs.length 1->lo<=id):cn4 s lo v zs:=by
 have hfl:∀ zs:List Int,(zs.map Md.ai9).flatten=zs.map gq6:=fun zs=>by
  induction zs with
  | nil=>rfl
  | cons z zs ih=>simp only[List.map_cons,List.flatten_cons,ih]; rfl
 rcases h with ⟨rfl,h⟩|⟨id,rfl,ho,hid⟩
 ·exact .inl ⟨rfl,List.map_eq_nil_iff.1 h⟩
 ·rw[List.length_map] at hlo;exact .inr ⟨id,hlo id rfl,hid,by rw[List.length_map],by rw[ho,hfl]⟩
theorem cn4.gr (h:cn4 s lo v zs):Grow s v 1 (zs.map Md.ai9):=by
 have hfl:∀ zs:List Int,(zs.map Md.ai9).flatten=zs.map gq6:=fun zs=>by
  induction zs with
  | nil=>rfl
  | cons z zs ih=>simp only[List.map_cons,List.flatten_cons,ih]; rfl
 rcases h with ⟨rfl,rfl⟩|⟨id,h1,h2,rfl,ho⟩
 ·exact .inl ⟨rfl,rfl⟩
 ·exact .inr ⟨id,by rw[List.length_map],by rw[ho,hfl],h2⟩
theorem Kept.low {k:Nat}(h:Kept ⟨σ.next+k,σ.obj⟩ s):Kept σ s:=⟨Nat.le_trans (Nat.le_add_right _ k) h.next,fun i hi=>h.obj i (Nat.lt_of_lt_of_le hi (Nat.le_add_right _ k))⟩
theorem cn4.low {lo':Nat}(h:cn4 s lo v zs)(hl:lo'<=lo):cn4 s lo' v zs:=by
 rcases h with h|⟨id,h1,h2⟩
 ·exact .inl h
 ·exact .inr ⟨id,Nat.le_trans hl h1,h2⟩
theorem ha9.low {lo':Nat}(h:ha9 s lo v zs)(hl:lo'<=lo):ha9 s lo' v zs:=by
 rcases h with h|⟨id,cs,h1,h2⟩
 ·exact .inl h
 ·exact .inr ⟨id,cs,Nat.le_trans hl h1,h2⟩
theorem Kept.box (t:Store)(A B:ak2):Kept t ⟨t.next+1,(((⟨t.next+1,t.obj⟩:Store).put t.next A).put t.next B).obj⟩:=⟨Nat.le_succ _,fun i hi=>by
 have h:¬ i=t.next:=by omega
 show (if i=t.next then _ else if i=t.next then _ else t.obj i)=_;rw[if_neg h,if_neg h]⟩
end Go.Id
set_option linter.all false
namespace Go.Id
open Go
section
theorem fh8 {s:Store}{v:IV}{esz nid:Nat}{es xs:List (List IV)}(hg:Grow s v esz es)(h:∀ x∈es,x.length=esz/\x.all IV.leaf=true)(hx:∀ x∈xs,x.length=esz/\x.all IV.leaf=true)(hn:es.length+xs.length<=2147483648) :
  (xs=[]/\aq2 s nid esz v (.aa3 xs)=some (v,s))\/aq2 s nid esz v (.aa3 xs)=some (.slice nid 0 (es.length+xs.length) esz,(ai3 v s).put nid (.row (es++xs).flatten)):=by
 have hsrc:av8 s esz (.aa3 xs)=some (xs.length,xs.flatten):=by
  have h1:xs.all (fun e=>e.length==esz)=true:=List.all_eq_true.2 fun x hm=>by rw[(hx x hm).1]; simp
  simp only[av8,h1,if_true]
 have hl:xs.flatten.all IV.leaf=true:=az3 fun x hm=>(hx x hm).2
 have hl2:es.flatten.all IV.leaf=true:=az3 fun x hm=>(h x hm).2
 have hfl:es.flatten.length=es.length*esz:=ap6 fun x hm=>(h x hm).1
 have hn2:xs.length<=2147483648:=by omega
 by_cases h0:xs.length=0
 ·have hxe:xs=[]:=List.length_eq_zero_iff.1 h0;subst hxe;refine .inl ⟨rfl,?_⟩;unfold aq2;rw[hsrc];rcases hg with ⟨rfl,rfl⟩|⟨id,rfl,ho,hid⟩
  ·simp
  ·simp[ho]
 ·refine .inr ?_;unfold aq2;rw[hsrc];rcases hg with ⟨rfl,rfl⟩|⟨id,rfl,ho,hid⟩
  ·simp[hl,h0,hn2,ai3]
  ·simp[hl,ho,h0,hfl,hl2,hn,ai3]
theorem cg9 {s:Store}{v:IV}{esz nid:Nat}{es xs:List (List IV)}(hg:Grow s v esz es)(h:∀ x∈es,x.length=esz/\x.all IV.leaf=true)(hx:∀ x∈xs,x.length=esz/\x.all IV.leaf=true)(hn:es.length+xs.length<=2147483648)(hnid:nid<s.next) :
  ∃ v' s',aq2 s nid esz v (.aa3 xs)=some (v',s')/\s'.next=s.next/\Grow s' v' esz (es++xs)/\(∀ i,i≠nid->(∀ k,v≠.slice i 0 k esz)->s'.obj i=s.obj i)/\(v'=v\/v'=.slice nid 0 (es.length+xs.length) esz):=by
 rcases fh8 (nid:=nid) hg h hx hn with ⟨rfl,h1⟩|h1
 ·exact ⟨v,s,h1,rfl,by rw[List.append_nil]; exact hg,fun _ _ _=>rfl,.inl rfl⟩
 ·refine ⟨_,_,h1,by rw[ab4,ae1],.inr ⟨nid,by rw[List.length_append],by rw[aa5,if_pos rfl],by rw[ab4,ae1]; exact hnid⟩,fun i hi hv=>?_,.inr rfl⟩;rw[aa5,if_neg hi];rcases hg with ⟨rfl,_⟩|⟨id,rfl,_,_⟩
  ·rfl
  ·show (if i=id then none else s.obj i)=_;rw[if_neg fun e=>hv _ (by rw[e])]
end
end Go.Id
set_option linter.all false
namespace Go.Id
open Go Go.Sort
variable {P:Program} {w w':World} {ρ ρ':Rho} {E:Nat->IV} {σ:Store}
theorem ci3 (n k:Nat):Ext n ρ w ρ (Sort.ahead w k):=⟨Nat.le_refl _,fun _ _=>rfl,fun _ r _ _ h=>⟨r,h,rfl⟩,fun i B d h=>.inl ⟨i,d,h⟩,fun _ _ _ h=>.inl h,fun _ h=>h,fun _ _ h=>h,rfl,rfl,⟨rfl,Nat.le_add_right _ _⟩,fun _ L h=>⟨L,h⟩,rfl⟩
theorem fl9 (hs:Sim E ρ w σ)(k:Nat):Sim E ρ (Sort.ahead w k) σ :=
 ⟨hs.inj,hs.lt,fun i B d h=>let ⟨o,h1,h2⟩:=hs.obj i B d h; ⟨o,h1,h2.mono (ci3 0 k) rfl⟩,hs.dead,hs.fresh,hs.al7,fun g=>(hs.env g).mono (ci3 0 k),hs.nx,hs.xlt⟩
theorem dc5 (w:World)(os:Array Obj){b:Nat}(h:b<w.heap.size):(Sort.grow w os).heap[b]? = w.heap[b]?:=by
 show (w.heap++os)[b]? = _;rw[Array.getElem?_append_left h]
theorem fm1 {b:Nat}{o:Obj}(h:w.heap[b]? = some o):b<w.heap.size:=(Array.getElem?_eq_some_iff.1 h).1
theorem bq2 (n:Nat)(os:Array Obj):Ext n ρ w ρ (Sort.grow w os):=
 ⟨by show _<=(w.heap++os).size; simp,fun b h=>dc5 w os h.1,fun b r el fz h=>⟨r,by rw[dc5 w os (fm1 h)]; exact h,rfl⟩,fun i B d h=>.inl ⟨i,d,h⟩,fun _ _ _ h=>.inl h,fun _ h=>h,fun _ _ h=>h,rfl,rfl,⟨rfl,Nat.le_refl _⟩,fun l L h=>⟨L,by rw[dc5 w os (fm1 h)]; exact h⟩,rfl⟩
theorem ge9 (hs:Sim E ρ w σ)(os:Array Obj):Sim E ρ (Sort.grow w os) σ :=
 ⟨hs.inj,fun i B d h=>Nat.lt_of_lt_of_le (hs.lt i B d h) (bq2 (ρ:=ρ) 0 os).size,fun i B d h=>let ⟨o,h1,h2⟩:=hs.obj i B d h; ⟨o,h1,h2.mono (bq2 0 os) (dc5 w os (hs.lt i B d h))⟩,hs.dead,hs.fresh,hs.al7,fun g=>(hs.env g).mono (bq2 0 os),hs.nx,fun b h=>Nat.lt_of_lt_of_le (hs.xlt b h) (bq2 (ρ:=ρ) (w:=w) 0 os).size⟩
theorem putRow_set {α:Type}[Inhabited α](enc:α->Value)(w:World)(B off:Nat)(d:Array α){rcs:Array Value}{el:TypeId}{fz:Nat×Nat}(h:w.heap[B]? = some (.cells rcs el fz)) :
  Sort.putRow enc w B off d=w.setRow B (Sort.putCells enc off d rcs):=by
 unfold Sort.putRow Sort.mapBlock World.setRow;congr 1;apply Array.ext_getElem?;intro k;simp only[Array.getElem?_modify];by_cases hk:B=k
 ·subst hk;simp only[if_true,h,Option.map_some,Sort.onCells]
 ·simp[hk]
theorem hb8 {α:Type}[Inhabited α]{enc:α->Value}{en:α->IV}{srt:List α->List α}{f:Nat}
  (hv:∀ (ρ:Rho) (w:World) (x:α),VR ρ w (en x) (enc x)) (hinv:∀ (ρ:Rho) (w:World) (x:α) (r:Value),VR ρ w (en x) r->r=enc x)
  (hl:∀ l,(srt l).length=l.length) (h0:srt []=[])
  (hk:∀ (blk off cap:Nat) (zs:List α) (w:World),Sort.Holds enc w blk off zs.toArray->blk<w.heap.size->zs.length<4611686018427387904->Calls P f #[.slice (some ⟨blk,off,none⟩) zs.length cap] w fun e w'=>
   e=.returned (.tuple #[])/\∃ n os,w'=Sort.grow (Sort.putRow enc (Sort.ahead w n) blk off (srt zs).toArray) os)
  (hn:∀ (p:Option Addr) (cap:Nat) (w:World),Calls P f #[.slice p 0 cap] w fun e w'=>e=.returned (.tuple #[])/\w'=w)
  {id:Nat} {zs:List α} (hz:zs.length<4611686018427387904) (ho:σ.obj id=some (.row (zs.map en))) :
  C P E f [.slice id 0 zs.length 1] σ fun v s=>v=.tuple []/\s=σ.put id (.row ((srt zs).map en)):=by
 intro ρ w rargs hs hr;obtain ⟨hr1,hr2⟩:=hr;have hv0:=hr2 0 (by simp);obtain ⟨al⟩:=rargs
 match al,hr1,hv0 with
 | [r],_,hv0=>
  have hv0:VR ρ w (.slice id 0 zs.length 1) r:=hv0
  have empty:∀ (p:Option Addr) (cap:Nat),r=.slice p 0 cap->zs.length=0->CallsIn Fence.wide 0 P f #[r] w fun e w'=>∃ v r ρ' σ',e=.returned r/\(v=IV.tuple []/\σ'=σ.put id (.row ((srt zs).map en)))/\Sim E ρ' w' σ'/\VR ρ' w' v r/\ax6 σ.next ρ w ρ' w':=by
   intro p cap er hz0;have hz0:zs=[]:=List.length_eq_zero_iff.1 hz0;subst hz0;rw[er];refine callsIn_wide.2 ((hn p cap w).mono ?_);rintro e w' ⟨rfl,rfl⟩
   have hput:σ.put id (.row (([]:List α).map en))=σ:=by
    unfold Store.put;congr 1;funext i;by_cases h:i=id
    ·subst h; simpa using ho.symm
    ·simp[h]
   exact ⟨.tuple [],_,ρ,σ,rfl,⟨rfl,by rw[h0]; exact hput.symm⟩,hs,.tuple [] #[] rfl (fun i hi=>by simp at hi),ax6.refl _ _ _⟩
  by_cases hz0:zs.length=0
  ·rw[hz0] at hv0
   cases hv0 with
   | slice _ _ _ _ B d cap rcs el fz hid hb hsz hle=>exact empty _ _ rfl hz0
   | ag8 _ _ _ B d a hid=>exact empty _ _ rfl hz0
   | ag9 _ _ _ _ cap ad hid hle=>exact empty _ _ rfl hz0
  ·obtain ⟨m,hm⟩:∃ m,m=zs.length:=⟨_,rfl⟩;rw[<- hm] at hv0
   cases hv0 with
   | slice _ _ _ _ B d cap rcs el fz hid hb hsz hle=>
    subst hm;obtain ⟨o,h1,h2⟩:=hs.obj id B d hid;rw[ho] at h1;cases h1;obtain ⟨rcs',el',hb',hsz',hvs⟩:=h2;rw[hb] at hb';cases hb';rw[List.length_map] at hsz' hvs
    have hcell:∀ j (h:j<zs.length),rcs[d+j]? = some (enc zs[j]):=fun j h=>by
     have:=hvs j h;have e1:(zs.map en).getD j .undef=en zs[j]:=by simp[List.getD_eq_getElem?_getD,h]
     rw[e1] at this;have:=hinv _ _ _ _ this;have hlt:d+j<rcs.size:=by omega
     rw[ac7 _ _ _ hlt] at this;rw[Array.getElem?_eq_getElem hlt,this]
    have hH:Sort.Holds enc w B (d+0) zs.toArray:=fun j hj=>by
     have hj':j<zs.length:=by simpa using hj
     refine ⟨?_,?_⟩
     ·simp only[World.cell?,hb,Option.isSome_none,Bool.false_eq_true,if_false,Nat.add_zero];rw[hcell j hj'];congr 2;rw[getElem!_pos _ j hj]; simp
     ·simp[World.frozen?,hb]
    refine callsIn_wide.2 ((hk B (d+0) cap zs w hH (hs.lt id B d hid) hz).mono ?_);rintro e w' ⟨rfl,n,os,rfl⟩;have hba:(Sort.ahead w n).heap[B]? = some (.cells rcs el (0,0)):=hb;rw[putRow_set enc _ B _ _ hba];have hsa:=fl9 hs n;generalize hnew:Sort.putCells enc (d+0) (srt zs).toArray rcs=new;have hnsz:new.size=rcs.size:=by rw[<- hnew]; simp[Sort.putCells]
    have hx1:∀ m,Ext m ρ (Sort.ahead w n) ρ ((Sort.ahead w n).setRow B new):=fun m=>am5 (n:=m) (new:=new) hid hba hnsz
    have hs1:Sim E ρ ((Sort.ahead w n).setRow B new) (σ.put id (.row ((srt zs).map en))):=by
     refine av1 hsa hid hba hnsz ⟨new,el,setRow_heap _ B rcs new el (0,0) hba,?_,fun k hk'=>?_⟩
     ·rw[hnsz,List.length_map,hl]; exact hsz'
     ·rw[List.length_map,hl] at hk';have hlt:d+k<rcs.size:=by omega
      have hks:k<(srt zs).length:=by rw[hl]; exact hk'
      have e1:((srt zs).map en).getD k .undef=en (srt zs)[k]:=by simp[List.getD_eq_getElem?_getD,hks]
      have e2:new.getD (d+k) undef=enc (srt zs)[k]:=by
       rw[<- hnew];rw[ac7 _ _ _ (by simpa [Sort.putCells] using hlt)];have c1:d+0<=d+k/\d+k<d+0+(srt zs).toArray.size:=by simp; omega
       simp only[Sort.putCells,Array.getElem_mapIdx,c1,and_self,if_true];congr 1;rw[getElem!_pos _ _ (by simp; omega)];simp
      rw[e1,e2];exact hv _ _ _
    exact ⟨.tuple [],_,ρ,_,rfl,⟨rfl,rfl⟩,ge9 hs1 os,.tuple [] #[] rfl (fun i hi=>by simp at hi),(((ci3 σ.next n).trans (hx1 σ.next) (Nat.le_refl _)).trans (bq2 σ.next os) (Nat.le_refl _)).weak (Nat.le_refl _)⟩
   | ag8=>exact absurd hm.symm hz0
   | ag9 _ _ _ _ cap ad hid hle=>rw[hs.dead id hid] at ho; cases ho
end Go.Id
set_option linter.all false
namespace Go.Id
open Go
variable {P:Program} {E:Nat->IV} {σ σ':Store}
def gf7 (f:IV->IV->Bool):List (IV×IV)->List (IV×IV)->Bool
 | [],y=>match y with
  | []=>true
  | _=>false
 | a::aZ,y=>match y with
  | b::bs=>f a.1 b.1&&f a.2 b.2&&gf7 f aZ bs
  | _=>false
theorem gf8 {f:IV->IV->Bool}(hf:∀ a b,f a b=true->a=b):∀ x y,gf7 f x y=true->x=y:=by
 intro x
 induction x with
 | nil=>intro y h; cases y with
  | nil=>rfl
  | cons b y=>cases h
 | cons a x ih=>intro y h; cases y with
  | nil=>cases h
  | cons b y=>
   obtain ⟨a1,a2⟩:=a;obtain ⟨b1,b2⟩:=b;simp only[gf7,Bool.and_eq_true] at h;rw[hf _ _ h.1.1,hf _ _ h.1.2,ih y h.2]
def dm2:Nat->IV->IV->Bool
 | 0,_,_=>false
 | n+1,a,b=>match a with
  | .am4 x=>match b with
   | .am4 y=>gf7 (dm2 n) x y
   | _=>false
  | .ad4 x=>match b with
   | .ad4 y=>ci2 (dm2 n) x y
   | _=>false
  | .aa3 x=>match b with
   | .aa3 y=>dl5 (dm2 n) x y
   | _=>false
  | .agg x=>match b with
   | .agg y=>ci2 (dm2 n) x y
   | _=>false
  | .tuple x=>match b with
   | .tuple y=>ci2 (dm2 n) x y
   | _=>false
  | a=>ge1 (n+1) a b
theorem gf9:∀ (n:Nat) (a b:IV),dm2 n a b=true->a=b:=by
 intro n
 induction n with
 | zero=>intro a b h; cases h
 | succ n ih=>
  intro a b h
  cases a with
  | am4 x=>cases b with
   | am4 y=>rw[gf8 ih _ _ h]
   | _=>cases h
  | ad4 x=>cases b with
   | ad4 y=>rw[ax8 ih _ _ h]
   | _=>cases h
  | aa3 x=>cases b with
   | aa3 y=>rw[dl6 ih _ _ h]
   | _=>cases h
  | agg x=>cases b with
   | agg y=>rw[ax8 ih _ _ h]
   | _=>cases h
  | tuple x=>cases b with
   | tuple y=>rw[ax8 ih _ _ h]
   | _=>cases h
  | _=>exact fk9 (n+1) _ _ h
def wkL (f:IV->IV->Bool):List IV->List IV->Bool
 | [],y=>match y with
  | []=>true
  | _=>false
 | a::aZ,y=>match y with
  | b::bs=>f a b&&wkL f aZ bs
  | _=>false
theorem ay1 {f:IV->IV->Bool}:∀ x y,wkL f x y=true->y.length=x.length/\∀ i,i<x.length->f (x.getD i .undef) (y.getD i .undef)=true:=by
 intro x
 induction x with
 | nil=>intro y h; cases y with
  | nil=>exact ⟨rfl,fun i hi=>absurd hi (Nat.not_lt_zero _)⟩
  | cons b y=>cases h
 | cons a x ih=>intro y h; cases y with
  | nil=>cases h
  | cons b y=>
   simp only[wkL,Bool.and_eq_true] at h;obtain ⟨h1,h2⟩:=ih y h.2;refine ⟨by simp[h1],fun i hi=>?_⟩
   cases i with
   | zero=>exact h.1
   | succ i=>exact h2 i (by simpa using hi)
def wkR (f:IV->IV->Bool):List (List IV)->List (List IV)->Bool
 | [],y=>match y with
  | []=>true
  | _=>false
 | a::aZ,y=>match y with
  | b::bs=>wkL f a b&&wkR f aZ bs
  | _=>false
theorem gg5 {f:IV->IV->Bool}:∀ x y,wkR f x y=true->y.length=x.length/\∀ i,i<x.length->wkL f (x.getD i []) (y.getD i [])=true:=by
 intro x
 induction x with
 | nil=>intro y h; cases y with
  | nil=>exact ⟨rfl,fun i hi=>absurd hi (Nat.not_lt_zero _)⟩
  | cons b y=>cases h
 | cons a x ih=>intro y h; cases y with
  | nil=>cases h
  | cons b y=>
   simp only[wkR,Bool.and_eq_true] at h;obtain ⟨h1,h2⟩:=ih y h.2;refine ⟨by simp[h1],fun i hi=>?_⟩
   cases i with
   | zero=>exact h.1
   | succ i=>exact h2 i (by simpa using hi)
def wkB:Nat->IV->IV->Bool
 | 0,_,_=>false
 | n+1,a,b=>match a with
  | .aa1=>match b with
   | .aa3 y=>match y with
    | []=>true
    | _=>false
   | .aa1=>true
   | _=>false
  | .aa3 x=>match b with
   | .aa3 y=>wkR (wkB n) x y
   | _=>false
  | .agg x=>match b with
   | .agg y=>wkL (wkB n) x y
   | _=>false
  | .ad4 x=>match b with
   | .ad4 y=>wkL (wkB n) x y
   | _=>false
  | a=>af2 (n+1) a&&dm2 (n+1) a b
theorem hf5:∀ (n:Nat) (a b:IV),wkB n a b=true->∀ (σ:Store) (S:Nat->Prop),Frz σ S a b:=by
 intro n
 induction n with
 | zero=>intro a b h; cases h
 | succ n ih=>
  intro a b h σ S
  have eqc:∀ a b:IV,(af2 (n+1) a&&dm2 (n+1) a b)=true->Frz σ S a b:=fun a b h=>by
   simp only[Bool.and_eq_true] at h;rw[<- gf9 _ _ _ h.2];exact .keep _ ((ak5 _ _ h.1).weak fun i hi=>absurd hi (Nat.not_lt_zero _))
  cases a with
  | aa1=>cases b with
   | aa3 y=>cases y with
    | nil=>exact .dr9
    | cons _ _=>cases h
   | aa1=>exact .keep _ .aa1
   | _=>cases h
  | aa3 x=>cases b with
   | aa3 y=>
    obtain ⟨h1,h2⟩:=gg5 _ _ h
    exact .aa3 _ _ h1 (fun i hi=>(ay1 _ _ (h2 i hi)).1) fun i hi j hj=>ih _ _ ((ay1 _ _ (h2 i hi)).2 j hj) σ S
   | _=>cases h
  | agg x=>cases b with
   | agg y=>exact .agg _ _ (ay1 _ _ h).1 fun i hi=>ih _ _ ((ay1 _ _ h).2 i hi) σ S
   | _=>cases h
  | ad4 x=>cases b with
   | ad4 y=>exact .ad4 _ _ (ay1 _ _ h).1 fun i hi=>ih _ _ ((ay1 _ _ h).2 i hi) σ S
   | _=>cases h
  | _=>exact eqc _ _ h
theorem gg6 {f:Nat}{args args':List IV}{v:IV}(hw:wkL (wkB 1000) args args'=true)(h:PC P E f args' v):PC P E f args v :=
 hf4 (ay1 _ _ hw).1 (fun σ i hi=>hf5 1000 _ _ ((ay1 _ _ hw).2 i hi) σ _) h
end Go.Id
set_option linter.all false
namespace Go.Id
open Go
variable {H:Type} {enc:TypeId×Value->H} {P:Program} {w:World} {base:Nat} {sp:Nat->Bool} {held:Bool}
def Rdg (enc:TypeId×Value->H)(P:Program)(w:World)(base:Nat)(sp:Nat->Bool)(held:Bool)(n:Nat)(t:TypeId)(d:DataW H):Prop :=
 ∃ cs ps,DataW.trod enc P w base sp held n t cs=some (d,ps)
def WT (P:Program)(t:TypeId)(d:DataW H):Prop:=∀ k∈d.weights P t,k<=reachBytes
theorem cx7 {n:Nat}{t:TypeId}{d:DataW H}{k:IntKind}(hu:P.underlying t=some (.int k))(h:Rdg enc P w base sp held n t d):∃ z,d=.lit (.int k z)/\(Lit.int k z).wf=true/\∀ m,n<=m->dv P m t d=some [.int k z]:=by
 obtain ⟨cs,ps,h⟩:=h;have hn:n≠0:=fun e=>by subst e; simp[DataW.trod] at h
 obtain ⟨z,rfl,hx,hw⟩:=DataW.trod_int hu h;cases hx;refine ⟨z,rfl,hw,fun m hm=>?_⟩
 cases m with
 | zero=>omega
 | succ m=>simp only[dv,hu]
theorem cj4 {n:Nat}{t:TypeId}{d:DataW H}(hu:P.underlying t=some .string)(h:Rdg enc P w base sp held n t d)(hw:WT P t d):∃ s:List UInt8,s.length<2^62/\∀ m,n<=m->dv P m t d=some [.str s]:=by
 obtain ⟨cs,ps,h⟩:=h;have hn:n≠0:=fun e=>by subst e; simp[DataW.trod] at h
 obtain ⟨s,rfl,hx,_⟩:=DataW.trod_string hu h;cases hx;refine ⟨s.data.toList,?_,fun m hm=>?_⟩
 ·have:=hw s.data.toList.length (by simp[DataW.weights]);have:=reachBytes_lt;omega
 ·cases m with
  | zero=>omega
  | succ m=>simp only[dv,hu]
theorem bf2 {n:Nat}{t:TypeId}{d:DataW H}{fs:Array Field}(hu:P.underlying t=some (.struct fs))(h:Rdg enc P w base sp held n t d)(hw:WT P t d) :
  ∃ n' ds,n=n'+1/\d=.agg ds/\ds.length=fs.size/\∀ (i:Nat) (f:Field) (d':DataW H),fs[i]? = some f->ds[i]? = some d'->Rdg enc P w base sp held n' f.type d'/\WT P f.type d':=by
 obtain ⟨cs,ps,h⟩:=h;obtain ⟨xs,n',rfl,hx,_,hl,hf⟩:=DataW.trod_struct hu h;cases hx;refine ⟨n',xs.map (·.1),rfl,rfl,by rw[List.length_map,hl],fun i f d' h1 h2=>⟨?_,fun k hk=>?_⟩⟩
 ·rw[List.getElem?_map] at h2
  cases hxi:xs[i]? with
  | none=>rw[hxi] at h2; cases h2
  | some x=>
   rw[hxi] at h2;cases h2;exact ⟨_,x.2,by rw[hf i f h1,hxi]⟩
 ·refine hw k ?_;simp only[DataW.weights,hu];exact DataW.weights_mem_each (j:=i) (t:=f.type) (d:=d') (by rw[List.getElem?_map]; simp[h1]) h2 k hk
theorem cn5 {e:TypeId}{k:Nat}:∀ {l:List (DataW H)} {d:DataW H},d∈l->k∈d.weights P e->k∈DataW.weightsAll P e l:=by
 intro l
 induction l with
 | nil=>intro d h; cases h
 | cons x xs ih=>
  intro d h hk;simp only[DataW.weightsAll,List.mem_append];rcases List.mem_cons.1 h with rfl|h
  ·exact .inl hk
  ·exact .inr (ih h hk)
theorem bj7 {α:Type}{n:Nat}{t e:TypeId}{d:DataW H}{c:Nat}(f:α->List IV)(ok:α->Prop)(hu:P.underlying t=some (.slice e))(hc:P.cellsOf e=c)(hc0:c≠0)(hb:1<=P.bytesOf e)(hl:∀ a,(f a).length=c)
  (ih:∀ n' d',n'<n->Rdg enc P w base sp held n' e d'->WT P e d'->∃ a,ok a/\∀ m,n'<=m->dv P m e d'=some (f a))
  (h:Rdg enc P w base sp held n t d) (hw:WT P t d):∃ l:List α,l.length<2^62/\(∀ a∈l,ok a)/\∀ m,n<=m->dv P m t d=some [.aa3 (l.map f)]:=by
 obtain ⟨cs,ps,h⟩:=h;have hn:n≠0:=fun e=>by subst e; simp[DataW.trod] at h
 rcases DataW.trod_slice hu h with ⟨rfl,hx⟩|⟨a,len,cap,elems,rest,n',rfl,rfl,hx,_,_,_,hlen,hel,_,_⟩
 ·cases hx;refine ⟨[],by simp,fun a ha=>(by cases ha),fun m hm=>?_⟩
  cases m with
  | zero=>omega
  | succ m=>simp only[dv,hu]; rfl
 ·cases hx
  have hsz:elems.length<2^62:=by
   have h1:=hw ((elems.length+rest.length)*P.bytesOf e) (by simp[DataW.weights,hu]);have h2:(elems.length+rest.length)*1<=(elems.length+rest.length)*P.bytesOf e:=Nat.mul_le_mul_left _ hb;have:=reachBytes_lt;omega
  have hel':∀ x∈elems,Rdg enc P w base sp held n' e x.1:=by
   intro x hx;obtain ⟨i,hi,he⟩:=List.mem_iff_getElem.1 hx;have h1:=hel i (by omega);rw[List.getElem?_eq_getElem hi,he] at h1;obtain ⟨ci,_,h2⟩:=Option.bind_eq_some_iff.1 h1;exact ⟨ci,x.2,h2⟩
  have hwe:∀ x∈elems,WT P e x.1:=by
   intro x hx k hk;refine hw k ?_;simp only[DataW.weights,hu,List.mem_cons,List.mem_append];exact .inr (.inl (cn5 (List.mem_map_of_mem (f:=fun x:DataW H×List MemPlace=>x.1) hx) hk))
  have key:∀ ys:List (DataW H×List MemPlace),(∀ x∈ys,x∈elems)->∃ l:List α,l.length=ys.length/\(∀ a∈l,ok a)/\∀ m,n'<=m->dvS (dv P m e) c (ys.map (·.1))=some (l.map f):=by
   intro ys
   induction ys with
   | nil=>intro _; exact ⟨[],rfl,fun a ha=>(by cases ha),fun m _=>rfl⟩
   | cons y ys ih2=>
    intro hin;obtain ⟨l,l1,l2,l3⟩:=ih2 fun x hx=>hin x (List.mem_cons_of_mem _ hx)
    have hy:=hin y (List.mem_cons_self ..);obtain ⟨a,a1,a2⟩:=ih n' y.1 (Nat.lt_succ_self _) (hel' y hy) (hwe y hy);refine ⟨a::l,by simp[l1],fun b hb=>?_,fun m hm=>?_⟩
    ·rcases List.mem_cons.1 hb with rfl|hb
     ·exact a1
     ·exact l2 b hb
    ·simp only[List.map_cons,dvS,a2 m hm,hl a,if_true,l3 m hm]
  obtain ⟨l,l1,l2,l3⟩:=key elems fun x hx=>hx
  refine ⟨l,by omega,l2,fun m hm=>?_⟩
  cases m with
  | zero=>omega
  | succ m=>
   subst hc;simp only[dv,hu,if_neg hc0,l3 m (by omega)]
end Go.Id
