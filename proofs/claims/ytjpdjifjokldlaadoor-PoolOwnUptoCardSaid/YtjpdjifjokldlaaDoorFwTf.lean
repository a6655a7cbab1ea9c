/- The interpreter,turned so that the kernel runs it in fewer steps; it is the same function. Conditions: none; over any program. -/
import Derived.Test.YtjpdjifjokldlaaDoorFwZ
import Derived.Test.YtjpdjifjokldlaaDoorFwQ
import Derived.Test.YtjpdjifjokldlaaDoorMq
import Derived.Test.YtjpdjifjokldlaaDoorFwV
import Derived.Shelf.Sort.Plain
import Derived.Shelf.Slices.In.SortNone
set_option linter.all false
namespace Go.Id
open Go
noncomputable section
variable {E:Nat→IV} {fr:Frm}
def cg3 {α:Type}(n:Nat)(k:Nat→α):α:=Nat.casesOn (motive:=fun _=>α) n (k 0) (fun m=>k (Nat.succ m))
theorem dl9 {α:Type}(n:Nat)(k:Nat→α):cg3 n k=k n:=by cases n<;>rfl
def if7 {α:Type}(b:Bool)(k:Bool→α):α:=Bool.casesOn (motive:=fun _=>α) b (k false) (k true)
theorem gg1 {α:Type}(b:Bool)(k:Bool→α):if7 b k=k b:=by cases b<;>rfl
def hr6 {α:Type}(n:Int)(k:Int→α):α:=Int.casesOn (motive:=fun _=>α) n (fun m=>cg3 m fun m=>k (.ofNat m)) (fun m=>cg3 m fun m=>k (.negSucc m))
theorem gg2 {α:Type}(n:Int)(k:Int→α):hr6 n k=k n:=by cases n<;>simp only[hr6,dl9]
def gt9 {α:Type}(b:Bool)(k:IV→α):α:=if7 b fun b=>k (.bool b)
def if8 {α:Type}(kd:IntKind)(n:Int)(k:IV→α):α:=hr6 n fun n=>k (.int kd n)
def if9 {α:Type}(i o:Nat)(k:IV→α):α:=cg3 i fun i=>cg3 o fun o=>k (.ptr i o)
def rSl {α:Type}(i o l e:Nat)(k:IV→α):α:=cg3 i fun i=>cg3 o fun o=>cg3 l fun l=>cg3 e fun e=>k (.slice i o l e)
def ig1 {α:Type}(i:Nat)(k:IV→α):α:=cg3 i fun i=>k (.map i)
def fz3 {α:Type}(i:Nat)(k:IV→α):α:=cg3 i fun i=>k (.yield i)
def fz4 {α:Type}(k:IV→α):α:=k .undef
def gu1 {α:Type}(k:IV→α):α:=k .ad3
def gu2 {α:Type}(k:IV→α):α:=k .aa1
def ig2 {α:Type}(k:IV→α):α:=k .ab4
def ig3 {α:Type}(k:IV→α):α:=k .ad4
def gu3 {α:Type}(k:IV→α):α:=k .af9
def gu4 {α:Type}(k:IV→α):α:=k .ae6
def gu5 {α:Type}(k:IV→α):α:=k .ae1
def ig4 {α:Type}(x:List UInt8)(k:IV→α):α:=k (.str x)
def gu6 {α:Type}(x:List IV)(_:Unit)(k:IV→α):α:=k (.af4 x)
def ig5 {α:Type}(x:List (List IV))(_:Unit)(k:IV→α):α:=k (.aa4 x)
def gu7 {α:Type}(x:List (IV×IV))(_:Unit)(k:IV→α):α:=k (.al5 x)
def gu8 {α:Type}(f:Fn)(x y:List IV)(_ _:Unit)(k:IV→α):α:=k (.func f x y)
def rIf {α:Type}(t:Nat)(x:IV)(_:(IV→α)→α)(k:IV→α):α:=k (.iface t x)
def ig6 {α:Type}(x:List IV)(_:Unit)(k:IV→α):α:=k (.agg x)
def ig7 {α:Type}(x:List IV)(_:Unit)(k:IV→α):α:=k (.tuple x)
def ig8 {α:Type}(i o l e:Nat)(k:IV→α):α:=cg3 i fun i=>cg3 o fun o=>cg3 l fun l=>cg3 e fun e=>k (.ae2 i o l e)
def ig9 {α:Type}(i o l r e:Nat)(k:IV→α):α:=cg3 i fun i=>cg3 o fun o=>cg3 l fun l=>cg3 r fun r=>cg3 e fun e=>k (.ad7 i o l r e)
def fz5 {α:Type}(v:IV):(IV→α)→α :=
 IV.rec (motive_1:=fun _=>(IV→α)→α) (motive_2:=fun _=>Unit) (motive_3:=fun _=>Unit) (motive_4:=fun _=>Unit) (motive_5:=fun _=>Unit)
  fz4 gt9 if8 ig4 gu1 if9 gu6 gu2 ig2 ig3 rSl ig5 gu3 ig1 gu7 gu8 fz3 gu4 rIf gu5 ig6 ig7 ig8 ig9
  () (fun _ _ _ _=>()) () (fun _ _ _ _=>()) () (fun _ _ _ _=>()) (fun _ _ _ _=>()) v
theorem cu8 {α:Type}(v:IV)(k:IV→α):fz5 v k=k v:=by
 cases v<;>simp only[fz5,fz4,gt9,if8,if9,rSl,ig1,fz3,gu1,gu2,ig2,ig3,gu3,gu4,gu5,ig4,gu6,ig5,gu7,gu8,rIf,ig6,ig7,ig8,ig9,dl9,gg1,gg2]
def gg3 (fr:Frm)(t:Nat):IV:=List.rec (motive:=fun _=>IV) .undef (fun e _ ih=>Bool.rec (motive:=fun _=>IV) ih e.2 (Nat.beq t e.1)) fr
theorem dm1 (fr:Frm)(t:Nat):gg3 fr t=fr.get t:=by
 induction fr with
 | nil=>rfl
 | cons e r ih=>
  obtain ⟨k,v⟩:=e;show Bool.rec (motive:=fun _=>IV) (gg3 r t) v (Nat.beq t k)=_;rw[ih,Frm.ay8];by_cases h:t=k
  ·subst h; simp
  ·have:Nat.beq t k=false:=by rw[← Bool.not_eq_true,Nat.beq_eq]; exact h
   rw[this,if_neg h]
def eT (n:Nat)(_:Nat→IV)(fr:Frm):IV:=gg3 fr n
def eC (v:IV)(_:Nat→IV)(_:Frm):IV:=v
def eG (g:Nat)(E:Nat→IV)(_:Frm):IV:=E g
def eF (f:Nat)(_:Nat→IV)(_:Frm):IV:=.func (.func f) [] []
def evD (x:IX):(Nat→IV)→Frm→IV:=IX.rec (motive:=fun _=>(Nat→IV)→Frm→IV) eT eC eG eF x
def evK (E:Nat→IV)(fr:Frm)(x:IX):IV:=evD x E fr
theorem cj4 (E:Nat→IV)(fr:Frm)(x:IX):evK E fr x=x.ev E fr:=by
 cases x with
 | t n=>exact dm1 fr n
 | _=>rfl
theorem ew6 (E:Nat→IV)(fr:Frm):(fun x=>evK E fr x)=(fun x:IX=>x.ev E fr):=funext fun x=>cj4 E fr x
def gu9 (x:IX)(E:Nat→IV)(fr:Frm)(σ:Store):Option IV:=some (evK E fr x)
def fz6 (c a b:IX)(E:Nat→IV)(fr:Frm)(σ:Store):Option IV:=db7 (evK E fr c) (evK E fr a) (evK E fr b)
def gv1 (x:IX)(E:Nat→IV)(fr:Frm)(σ:Store):Option IV:=gq1 (evK E fr x)
def gv2 (x:IX)(E:Nat→IV)(fr:Frm)(σ:Store):Option IV:=gq2 (evK E fr x)
def gv3 (op:BinOp)(x y:IX)(E:Nat→IV)(fr:Frm)(σ:Store):Option IV:=aq7 op (evK E fr x) (evK E fr y)
def ew7 (d:TypeDesc)(neg:Bool)(x:IX)(E:Nat→IV)(fr:Frm)(σ:Store):Option IV:=(bk5 d (evK E fr x)).map fun b=>.bool (b ^^ neg)
def gv4 (tags:List Nat)(agg neg:Bool)(x y:IX)(E:Nat→IV)(fr:Frm)(σ:Store):Option IV:=fy1 tags agg neg (evK E fr x) (evK E fr y)
def fz7 (k:IntKind)(x:IX)(E:Nat→IV)(fr:Frm)(σ:Store):Option IV:=dy5 k (evK E fr x)
def ew8 (x:IX)(E:Nat→IV)(fr:Frm)(σ:Store):Option IV:=ci3 (evK E fr x)
def q_len (kind:Nat)(x:IX)(E:Nat→IV)(fr:Frm)(σ:Store):Option IV:=bh7 kind σ (evK E fr x)
def ew9 (off:Nat)(x:IX)(E:Nat→IV)(fr:Frm)(σ:Store):Option IV:=by9 off (evK E fr x)
def gv5 (agg:Option Nat)(off:Nat)(x:IX)(E:Nat→IV)(fr:Frm)(σ:Store):Option IV:=ge2 agg off (evK E fr x)
def ex1 (esz:Nat)(x i:IX)(E:Nat→IV)(fr:Frm)(σ:Store):Option IV:=al6 esz (evK E fr x) (evK E fr i)
def ex2 (n esz:Nat)(x i:IX)(E:Nat→IV)(fr:Frm)(σ:Store):Option IV:=cc1 n esz (evK E fr x) (evK E fr i)
def gv6 (agg:Option Nat)(n esz:Nat)(x i:IX)(E:Nat→IV)(fr:Frm)(σ:Store):Option IV:=fx6 agg n esz (evK E fr x) (evK E fr i)
def fz8 (x i:IX)(E:Nat→IV)(fr:Frm)(σ:Store):Option IV:=da5 (evK E fr x) (evK E fr i)
def gv7 (esz:Nat)(x:IX)(lo hi:Option IX)(E:Nat→IV)(fr:Frm)(σ:Store):Option IV:=dj4 esz (lo.map (evK E fr)) (hi.map (evK E fr)) (evK E fr x)
def fz9 (x:IX)(lo hi:Option IX)(E:Nat→IV)(fr:Frm)(σ:Store):Option IV:=dj3 (lo.map (evK E fr)) (hi.map (evK E fr)) (evK E fr x)
def gv8 (x:IX)(E:Nat→IV)(fr:Frm)(σ:Store):Option IV:=ep6 (evK E fr x)
def gv9 (i:Nat)(x:IX)(E:Nat→IV)(fr:Frm)(σ:Store):Option IV:=fx7 i (evK E fr x)
def gw1 (fn:Nat)(first cap:List IX)(E:Nat→IV)(fr:Frm)(σ:Store):Option IV:=some (.func (.func fn) (first.map (evK E fr)) (cap.map (evK E fr)))
def gw2 (zero:List IV)(parts:List (Nat×Nat×IX))(E:Nat→IV)(fr:Frm)(σ:Store):Option IV:=(ak7 zero (parts.map fun p=>(p.1,p.2.1,evK E fr p.2.2))).map .agg
def ga1 (agg:Option Nat)(x:IX)(E:Nat→IV)(fr:Frm)(σ:Store):Option IV:=am9 σ agg (evK E fr x)
def ga2 (x:IX)(E:Nat→IV)(fr:Frm)(σ:Store):Option IV:=ct5 (evK E fr x)
def ih4 (mx:Bool)(x y:IX)(E:Nat→IV)(fr:Frm)(σ:Store):Option IV:=mmI mx (evK E fr x) (evK E fr y)
def gw3 (tag:Nat)(zero:IV)(ok:Bool)(x k:IX)(E:Nat→IV)(fr:Frm)(σ:Store):Option IV:=ct7 σ tag zero ok (evK E fr x) (evK E fr k)
def gw4 (x c:IX)(E:Nat→IV)(fr:Frm)(σ:Store):Option IV:=gq3 (evK E fr x) (evK E fr c)
def gw5 (agg:Option Nat)(x:IX)(E:Nat→IV)(fr:Frm)(σ:Store):Option IV:=ge3 agg (evK E fr x)
def gw6 (esz:Nat)(x lo hi mx:IX)(E:Nat→IV)(fr:Frm)(σ:Store):Option IV:=hm4 esz (evK E fr x) (evK E fr lo) (evK E fr hi) (evK E fr mx)
def ih5 (q0:IQ):(Nat→IV)→Frm→Store→Option IV :=
 IQ.rec (motive:=fun _=>(Nat→IV)→Frm→Store→Option IV) gu9 fz6 gv1 gv2 gv3 ew7 gv4 fz7 ew8 q_len ew9 gv5 ex1 ex2 gv6 fz8 gv7 fz9 gv8 gv9 gw1 gw2 ga1 ga2 ih4 gw3 gw4 gw5 gw6 q0
def hr7 (E:Nat→IV)(fr:Frm)(σ:Store)(q0:IQ):Option IV:=ih5 q0 E fr σ
theorem gg4 (fr:Frm)(σ:Store)(q:IQ):hr7 E fr σ q=evq E fr σ q:=by
 cases q<;>simp only[hr7,ih5,gu9,fz6,gv1,gv2,gv3,ew7,gv4,fz7,ew8,q_len,ew9,gv5,ex1,ex2,gv6,fz8,gv7,fz9,gv8,gv9,gw1,gw2,ga1,ga2,ih4,gw3,gw4,gw5,gw6,evq,cj4,show evK E fr=(fun x:IX=>x.ev E fr) from ew6 E fr]
def fQ (E:Nat→IV)(fr:Frm)(xs:XSt)(q:IQ):Option (IV×XSt):=match hr7 E fr xs.st q with
  | some v=>some (v,xs)
  | none=>none
def ih6 (E:Nat→IV)(fr:Frm)(id:Nat)(xs:XSt)(x:IX):Option (IV×XSt):=if (evK E fr x).cs.all IV.leaf=true then da3 xs id (.cells (evK E fr x).cs) (.ptr id 0) else none
def ih7 (E:Nat→IV)(fr:Frm)(id:Nat)(xs:XSt)(esz n:Nat)(z:List IV)(parts:List (Nat×Nat×IX)):Option (IV×XSt):=match ak7 (rep z n) (parts.map fun p=>(p.1,p.2.1,evK E fr p.2.2)) with
  | some out=>da3 xs id (.row out) (.slice id 0 n esz)
  | none=>none
def ga3 (E:Nat→IV)(fr:Frm)(xs:XSt)(sz:Nat)(x y:IX):Option (IV×XSt):=match du7 xs sz (evK E fr x) (evK E fr y) with
  | some s=>some (.undef,s)
  | none=>none
def fSr (E:Nat→IV)(fr:Frm)(id:Nat)(xs:XSt)(x:IX):Option (IV×XSt):=match evK E fr x with
  | .str s=>da3 xs id (.ap5 s 0) (.ptr id 0)
  | _=>none
def fMu (E:Nat→IV)(fr:Frm)(xs:XSt)(tag:Nat)(x k v:IX):Option (IV×XSt):=match fs2 xs tag (evK E fr x) (evK E fr k) (evK E fr v) with
  | some s=>some (.undef,s)
  | none=>none
def fPc (rd:RD)(E:Nat→IV)(fr:Frm)(xs:XSt)(f:Nat)(args:List IX):Option (IV×XSt):=match rd 0 f (args.map (evK E fr)) xs with
  | some r=>some (r.1,xs)
  | none=>none
def fCv (rd:RD)(E:Nat→IV)(fr:Frm)(xs:XSt)(x:IX)(args:List IX):Option (IV×XSt):=match evK E fr x with
  | .func (.func f) first cap=>rd 1 f (first++args.map (evK E fr)++cap) xs
  | .yield i=>rd 2 i (args.map (evK E fr)) xs
  | _=>none
def ih8 (E:Nat→IV)(fr:Frm)(xs:XSt)(esz n:Nat)(z:List IV)(parts:List (Nat×Nat×IX)):Option (IV×XSt):=match ak7 (rep z n) (parts.map fun p=>(p.1,p.2.1,evK E fr p.2.2)) with
  | some out=>some (.aa4 (chunk esz n out),xs)
  | none=>none
def ih9 (E:Nat→IV)(fr:Frm)(xs:XSt)(x:IX):Option (IV×XSt):=if (evK E fr x).cs.all IV.leaf=true then some (.af4 (evK E fr x).cs,xs) else none
def fMr (E:Nat→IV)(fr:Frm)(id:Nat)(xs:XSt)(x:IX):Option (IV×XSt):=match evK E fr x with
  | .al5 es=>da3 xs id (.ai8 es none) (.ptr id 0)
  | _=>none
def fMn (E:Nat→IV)(fr:Frm)(xs:XSt)(x:IX):Option (IV×XSt):=match aq8 xs.st (evK E fr x) with
  | some (_,[])=>some (.tuple [.bool false],xs)
  | some (i,[e])=>da3 xs i (.ai8 [] (some e)) (.tuple [.bool true,e.1,e.2])
  | _=>none
def fMe (E:Nat→IV)(fr:Frm)(xs:XSt)(x:IX):Option (IV×XSt):=match ba5 xs.st (evK E fr x) with
  | some v=>some (v,xs)
  | none=>none
def fMk (E:Nat→IV)(fr:Frm)(id:Nat)(xs:XSt)(esz:Nat)(z:List IV)(x:IX):Option (IV×XSt):=match cu2 (evK E fr x) with
  | some n=>da3 xs id (.row (rep z n)) (.slice id 0 n esz)
  | none=>none
def fCl (E:Nat→IV)(fr:Frm)(xs:XSt)(esz:Nat)(z:List IV)(x:IX):Option (IV×XSt):=match hn8 xs esz z (evK E fr x) with
  | some s=>some (.undef,s)
  | none=>none
def fSt (E:Nat→IV)(fr:Frm)(id:Nat)(xs:XSt)(k:SK)(ys:List IX):Option (IV×XSt):=stX k id xs (ys.map (evK E fr))
def gw7 (rd:RD)(E:Nat→IV)(fr:Frm)(xs:XSt)(f:Nat)(args:List IX):Option (IV×XSt):=rd 1 f (args.map (evK E fr)) xs
def k_q (q:IQ)(rd:RD)(E:Nat→IV)(id:Nat)(fr:Frm)(xs:XSt):Option (IV×XSt):=fQ E fr xs q
def ex3 (z:List IV)(rd:RD)(E:Nat→IV)(id:Nat)(fr:Frm)(xs:XSt):Option (IV×XSt):=da3 xs id (.cells z) (.ptr id 0)
def gw8 (x:IX)(rd:RD)(E:Nat→IV)(id:Nat)(fr:Frm)(xs:XSt):Option (IV×XSt):=ih6 E fr id xs x
def gw9 (esz n:Nat)(z:List IV)(parts:List (Nat×Nat×IX))(rd:RD)(E:Nat→IV)(id:Nat)(fr:Frm)(xs:XSt):Option (IV×XSt):=ih7 E fr id xs esz n z parts
def ex4 (sz:Nat)(x y:IX)(rd:RD)(E:Nat→IV)(id:Nat)(fr:Frm)(xs:XSt):Option (IV×XSt):=ga3 E fr xs sz x y
def gx1 (esz:Nat)(s x:IX)(rd:RD)(E:Nat→IV)(id:Nat)(fr:Frm)(xs:XSt):Option (IV×XSt):=hn7 xs id esz (evK E fr s) (evK E fr x)
def ex5 (rd:RD)(E:Nat→IV)(id:Nat)(fr:Frm)(xs:XSt):Option (IV×XSt):=da3 xs id (.map []) (.map id)
def dt5 (x:IX)(rd:RD)(E:Nat→IV)(id:Nat)(fr:Frm)(xs:XSt):Option (IV×XSt):=fSr E fr id xs x
def ex6 (x:IX)(rd:RD)(E:Nat→IV)(id:Nat)(fr:Frm)(xs:XSt):Option (IV×XSt):=du8 xs (evK E fr x)
def ga4 (tag:Nat)(x k v:IX)(rd:RD)(E:Nat→IV)(id:Nat)(fr:Frm)(xs:XSt):Option (IV×XSt):=fMu E fr xs tag x k v
def ga5 (f:Nat)(args:List IX)(rd:RD)(E:Nat→IV)(id:Nat)(fr:Frm)(xs:XSt):Option (IV×XSt):=gw7 rd E fr xs f args
def ex7 (f:Nat)(args:List IX)(rd:RD)(E:Nat→IV)(id:Nat)(fr:Frm)(xs:XSt):Option (IV×XSt):=fPc rd E fr xs f args
def ex8 (x:IX)(args:List IX)(rd:RD)(E:Nat→IV)(id:Nat)(fr:Frm)(xs:XSt):Option (IV×XSt):=fCv rd E fr xs x args
def ga6 (esz n:Nat)(z:List IV)(parts:List (Nat×Nat×IX))(rd:RD)(E:Nat→IV)(id:Nat)(fr:Frm)(xs:XSt):Option (IV×XSt):=ih8 E fr xs esz n z parts
def ga7 (x:IX)(rd:RD)(E:Nat→IV)(id:Nat)(fr:Frm)(xs:XSt):Option (IV×XSt):=ih9 E fr xs x
def dt6 (x:IX)(rd:RD)(E:Nat→IV)(id:Nat)(fr:Frm)(xs:XSt):Option (IV×XSt):=fMr E fr id xs x
def ex9 (x:IX)(rd:RD)(E:Nat→IV)(id:Nat)(fr:Frm)(xs:XSt):Option (IV×XSt):=fMn E fr xs x
def ga8 (x:IX)(rd:RD)(E:Nat→IV)(id:Nat)(fr:Frm)(xs:XSt):Option (IV×XSt):=fMe E fr xs x
def ga9 (esz:Nat)(z:List IV)(x:IX)(rd:RD)(E:Nat→IV)(id:Nat)(fr:Frm)(xs:XSt):Option (IV×XSt):=fMk E fr id xs esz z x
def gx2 (esz:Nat)(z:List IV)(x:IX)(rd:RD)(E:Nat→IV)(id:Nat)(fr:Frm)(xs:XSt):Option (IV×XSt):=fCl E fr xs esz z x
def ii1 (k:SK)(ys:List IX)(rd:RD)(E:Nat→IV)(id:Nat)(fr:Frm)(xs:XSt):Option (IV×XSt):=fSt E fr id xs k ys
def opD (op:IK):RD→(Nat→IV)→Nat→Frm→XSt→Option (IV×XSt):=
 IK.rec (motive:=fun _=>RD→(Nat→IV)→Nat→Frm→XSt→Option (IV×XSt)) k_q ex3 gw8 gw9 ex4 gx1 ex5 dt5 ex6 ga4 ga5 ex7 ex8 ga6 ga7 dt6 ex9 ga8 ga9 gx2 ii1 op
def opK (rd:RD)(E:Nat→IV)(op:IK)(id:Nat)(fr:Frm)(xs:XSt):Option (IV×XSt):=opD op rd E id fr xs
theorem ey1 (rd:RD)(op:IK)(id:Nat)(fr:Frm)(xs:XSt):opK rd E op id fr xs=opX rd E op id fr xs:=by
 cases op<;>simp only[opK,opD,k_q,ex3,gw8,gw9,ex4,gx1,ex5,dt5,ex6,ga4,ga5,ex7,ex8,ga6,ga7,dt6,ex9,ga8,ga9,gx2,ii1,opX,fQ,ih6,ih7,ga3,fSr,fMu,fPc,fCv,ih8,ih9,fMr,fMn,fMe,fMk,fCl,fSt,gw7,gg4,cj4,show evK E fr=(fun x:IX=>x.ev E fr) from ew6 E fr]<;>rfl
def gx3 (op:IK):Bool :=
 IK.rec (motive:=fun _=>Bool) (fun _=>false) (fun _=>true) (fun _=>true) (fun _ _ _ _=>true) (fun _ _ _=>false) (fun _ _ _=>true) true (fun _=>true) (fun _=>false) (fun _ _ _ _=>false) (fun _ _=>false) (fun _ _=>false) (fun _ _=>false) (fun _ _ _ _=>false) (fun _=>false) (fun _=>true) (fun _=>false) (fun _=>false) (fun _ _ _=>true) (fun _ _ _=>false) (fun _ _=>true) op
theorem fo1 (op:IK):gx3 op=op.lays:=by cases op<;>rfl
def hm7 (op:IK)(id:Nat):Nat:=Bool.rec (motive:=fun _=>Nat) id (Nat.succ id) (gx3 op)
theorem gg5 (op:IK)(id:Nat):hm7 op id=(bif op.lays then id+1 else id):=by
 unfold hm7; rw[fo1]; cases op.lays<;>rfl
def gq7 (o:ac6)(fr:Frm):Option Bool :=
 match o.guard with
 | none=>some true
 | some (s,want)=>eo5 (gg3 fr s) want
theorem dm2 (o:ac6)(fr:Frm):gq7 o fr=ar6 o fr:=by
 obtain ⟨d,g,op⟩:=o
 cases g with
 | none=>rfl
 | some p=>obtain ⟨a,b⟩:=p; show eo5 (gg3 fr a) b=eo5 (fr.get a) b; rw[dm1]
def ii2 (rd:RD)(E:Nat→IV)(o:ac6)(ih:Nat→Frm→XSt→Option (Frm×XSt))(id:Nat)(fr:Frm)(xs:XSt):Option (Frm×XSt):=
 match opK rd E o.op id fr xs with
 | some (v,s)=>fz5 v fun v=>cg3 (hm7 o.op id) fun id=>ih id (fr.ah5 o.dst v) s
 | none=>none
def ii3 (o:ac6)(ih:Nat→Frm→XSt→Option (Frm×XSt))(id:Nat)(fr:Frm)(xs:XSt):Option (Frm×XSt):=cg3 (hm7 o.op id) fun id=>ih id (fr.ah5 o.dst skV) xs
def hr8 (rd:RD)(E:Nat→IV)(o:ac6)(_:List ac6)(ih:Nat→Frm→XSt→Option (Frm×XSt))(id:Nat)(fr:Frm)(xs:XSt):Option (Frm×XSt):=
 match gq7 o fr with
 | some true=>ii2 rd E o ih id fr xs
 | some false=>ii3 o ih id fr xs
 | none=>none
def ik5 (_:Nat)(fr:Frm)(xs:XSt):Option (Frm×XSt):=some (fr,xs)
def hr9 (rd:RD)(E:Nat→IV)(ops:List ac6):Nat→Frm→XSt→Option (Frm×XSt):=
 List.rec (motive:=fun _=>Nat→Frm→XSt→Option (Frm×XSt)) ik5 (hr8 rd E) ops
theorem gg7 (rd:RD):∀ (ops:List ac6) (id:Nat) (fr:Frm) (xs:XSt),hr9 rd E ops id fr xs=gl9 rd E ops id fr xs:=by
 intro ops
 induction ops with
 | nil=>intro id fr xs; rfl
 | cons o rest ih=>
  intro id fr xs;simp only[gl9];show hr8 rd E o rest (hr9 rd E rest) id fr xs=_;simp only[hr8,ii2,ii3,dm2,ey1,ih,cu8,dl9,gg5];rfl
def hm8 (E:Nat→IV)(fr:Frm)(xs:XSt):IK→Bool
 | .q (.load _ x)=>match evK E fr x with
  | .af4 _=>true
  | .ptr i _=>match xs.t.get i with
   | some (.o (.cells _))=>true
   | _=>false
  | _=>false
 | _=>true
theorem gg8 (fr:Frm)(xs:XSt)(k:IK):hm8 E fr xs k=hf4 E fr xs k:=by
 cases k with
 | q q=>cases q with
  | load a x=>simp only[hm8,hf4,cj4]; rfl
  | _=>rfl
 | _=>rfl
def fo2 (rd:RD)(E:Nat→IV)(B:Bool)(ops:List ac6):Nat→Frm→XSt→Option (Frm×XSt):=
 List.rec (motive:=fun _=>Nat→Frm→XSt→Option (Frm×XSt)) (fun _ fr xs=>some (fr,xs))
  (fun o _ ih id fr xs=>match gq7 o fr with
  | some true=>if (!B||hm8 E fr xs o.op)=true then match opK rd E o.op id fr xs with
   | some (v,s)=>fz5 v fun v=>ih (id+1) (fr.ah5 o.dst v) s
   | none=>none
   else none
  | some false=>ih (id+1) (fr.ah5 o.dst skV) xs
  | none=>none) ops
theorem fo3 (rd:RD)(B:Bool):∀ (ops:List ac6) (id:Nat) (fr:Frm) (xs:XSt),fo2 rd E B ops id fr xs=ce4 rd E B ops id fr xs:=by
 intro ops
 induction ops with
 | nil=>intro id fr xs; rfl
 | cons o rest ih=>
  intro id fr xs;simp only[ce4]
  show (match gq7 o fr with
  | some true=>if (!B||hm8 E fr xs o.op)=true then match opK rd E o.op id fr xs with
   | some (v,s)=>fz5 v fun v=>fo2 rd E B rest (id+1) (fr.ah5 o.dst v) s
   | none=>none
   else none
  | some false=>fo2 rd E B rest (id+1) (fr.ah5 o.dst skV) xs
  | none=>none)=_
  simp only[dm2,ey1,gg8,ih,cu8];rfl
def gb1 (E:Nat→IV)(xs:XSt)(m:Nat)(L:List LE):Bool:=df8 E xs m L
def tYo (rd:RD)(E:Nat→IV)(base i m:Nat)(o:ac6)(ih:List LE→Frm→XSt→Option (Frm×XSt))(L:List LE)(fr:Frm)(xs:XSt):Option (Frm×XSt):=
 match opK rd E o.op (base+i) fr xs with
 | some (v,s)=>match (Nat.beq m 0||gb1 E s m L) with
  | true=>fz5 v fun v=>ih (ap1 E fr i o.op v L) (fr.ah5 o.dst v) s
  | false=>none
 | none=>none
def dt7 (rd:RD)(E:Nat→IV)(base:Nat)(ops:List YO):List LE→Frm→XSt→Option (Frm×XSt):=
 List.rec (motive:=fun _=>List LE→Frm→XSt→Option (Frm×XSt)) (fun _ fr xs=>some (fr,xs))
  (fun y _ ih L fr xs=>match gq7 y.2.1 fr with
  | some true=>tYo rd E base y.1 y.2.2 y.2.1 ih L fr xs
  | some false=>ih L (fr.ah5 y.2.1.dst skV) xs
  | none=>none) ops
theorem ey2 (rd:RD)(base:Nat):∀ (ops:List YO) (L:List LE) (fr:Frm) (xs:XSt),dt7 rd E base ops L fr xs=ce5 rd E base ops L fr xs:=by
 intro ops
 induction ops with
 | nil=>intro L fr xs; rfl
 | cons o rest ih=>
  obtain ⟨i,o,m⟩:=o;intro L fr xs;simp only[ce5]
  show (match gq7 o fr with
  | some true=>tYo rd E base i m o (dt7 rd E base rest) L fr xs
  | some false=>dt7 rd E base rest L (fr.ah5 o.dst skV) xs
  | none=>none)=_
  simp only[dm2,ey1,gb1,tYo,ih,cu8];rfl
def ey3 {α:Type}(fr:Frm)(ks:List Nat):(Frm→α)→α:=List.rec (motive:=fun _=>(Frm→α)→α) (fun k=>k []) (fun t _ ih k=>fz5 (gg3 fr t) fun v=>ih fun f=>k ((t,v)::f)) ks
theorem cu9 {α:Type}(fr:Frm)(ks:List Nat):∀ (k:Frm→α),ey3 fr ks k=k (fr.keep ks):=by
 induction ks with
 | nil=>intro k; rfl
 | cons t ks ih=>
  intro k;show fz5 (gg3 fr t) (fun v=>ey3 fr ks fun f=>k ((t,v)::f))=_;rw[cu8,ih,dm1]; rfl
def gh1 (step:Frm→XSt→Option (XE×Frm×XSt))(n:Nat):Frm→XSt→Option (XE×Frm×XSt):=
 Nat.rec (motive:=fun _=>Frm→XSt→Option (XE×Frm×XSt)) (fun _ _=>none) (fun _ ih fr xs=>match step fr xs with
  | some (.normal,fr',xs')=>ih fr' xs'
  | r=>r) n
theorem fo4 (step:Frm→XSt→Option (XE×Frm×XSt)):∀ (n:Nat) (fr:Frm) (xs:XSt),gh1 step n fr xs=ek3 step n fr xs:=by
 intro n
 induction n with
 | zero=>intro fr xs; rfl
 | succ n ih=>
  intro fr xs
  show (match step fr xs with
  | some (.normal,fr',xs')=>gh1 step n fr' xs'
  | r=>r)=_
  simp only[ek3,ih];rfl
abbrev RI2:=Option (XE×Frm×XSt)
def hs8 (fr:Frm)(xs:XSt):RI2:=some (.normal,fr,xs)
def hs9 (i:Nat)(fr:Frm)(xs:XSt):RI2:=some (.exit i,fr,xs)
def ik6 (fr:Frm)(xs:XSt):RI2:=some (.ret,fr,xs)
def ht4 (rd:RD)(E:Nat→IV)(fz:Nat→List Nat)(i:Nat)(ops:List ac6)(ks:List Nat)(fr:Frm)(xs:XSt):RI2:=match df7 (fz i) fr xs with
  | some (fr,xs)=>match hr9 rd E ops xs.next fr ⟨xs.next+ax1 ops,xs.t⟩ with
   | some (fr',xs')=>ey3 fr' ks fun f=>some (.normal,f,xs')
   | none=>none
  | none=>none
def gh2 (rd:RD)(E:Nat→IV)(fz:Nat→List Nat)(i:Nat)(ops:List ac6)(B:Bool)(ks:List Nat)(fr:Frm)(xs:XSt):RI2:=match df7 (fz i) fr xs with
  | some (fr,xs)=>match fo2 rd E B ops xs.next fr ⟨xs.next+ops.length,xs.t⟩ with
   | some (fr',xs')=>ey3 fr' ks fun f=>some (.normal,f,xs')
   | none=>none
  | none=>none
def gh3 (rd:RD)(E:Nat→IV)(fz:Nat→List Nat)(i:Nat)(ops:List YO)(ks:List Nat)(fr:Frm)(xs:XSt):RI2:=match df7 (fz i) fr xs with
  | some (fr,xs)=>match dt7 rd E xs.next ops [] fr ⟨xs.next+ops.length,xs.t⟩ with
   | some (fr',xs')=>ey3 fr' ks fun f=>some (.normal,f,xs')
   | none=>none
  | none=>none
def ht5 (_ _:IC)(a b:Frm→XSt→RI2)(fr:Frm)(xs:XSt):RI2:=match a fr xs with
  | some (.normal,fr',xs')=>b fr' xs'
  | r=>r
def gh4 (E:Nat→IV)(x:IX)(_ _:IC)(a b:Frm→XSt→RI2)(fr:Frm)(xs:XSt):RI2:=match evK E fr x with
  | .bool true=>a fr xs
  | .bool false=>b fr xs
  | _=>none
def ey4 (i:Nat)(_:IC)(a:Frm→XSt→RI2)(fr:Frm)(xs:XSt):RI2:=match a fr xs with
  | some (.exit j,fr',xs')=>bif Nat.beq j i then some (.normal,fr',xs') else some (.exit j,fr',xs')
  | r=>r
def gh5 (lf:Nat)(_:IC)(a:Frm→XSt→RI2)(fr:Frm)(xs:XSt):RI2:=gh1 a lf fr xs
def kRf (rd:RD) (E:Nat→IV) (N:Nat) (g:IX) (ps:List Nat) (y a:IC) (_ _:Frm→XSt→RI2) (fr:Frm) (xs:XSt):RI2:=match evK E fr g with
  | .func (.func f) first cap=>match XSt.put ⟨xs.next+1,xs.t⟩ xs.next (some (.loop N fr ps y a .ready none)) with
   | some xs1=>match rd 1 f (first++[.yield xs.next]++cap) xs1 with
    | some (_,xs2)=>match xs2.t.get xs.next with
     | some (.loop _ _ _ _ _ .ready none)=>(xs2.put xs.next none).map fun s=>(.normal,fr,s)
     | some (.loop _ _ _ _ _ .done (some .ret))=>(xs2.put xs.next none).map fun s=>(.ret,fr,s)
     | some (.loop _ _ _ _ _ .done (some (.exit i)))=>(xs2.put xs.next none).map fun s=>(.exit i,fr,s)
     | _=>none
    | none=>none
   | none=>none
  | _=>none
def gx4 (_:IC)(a:Frm→XSt→RI2)(fr:Frm)(xs:XSt):RI2:=a fr xs
def icK (rd:RD)(E:Nat→IV)(fz:Nat→List Nat)(N lf:Nat)(c:IC):Frm→XSt→RI2 :=
 IC.rec (motive:=fun _=>Frm→XSt→RI2) (skip:=hs8) (reg:=ht4 rd E fz) (dreg:=gh2 rd E fz) (oreg:=gh3 rd E fz) (seq:=ht5) (cond:=gh4 E) (block:=ey4) (loop:=gh5 lf) (exit:=hs9) (ret:=ik6) (rfunc:=kRf rd E N) (scope:=gx4) c
theorem gb2 (rd:RD)(fz:Nat→List Nat)(N lf:Nat):∀ (c:IC) (fr:Frm) (xs:XSt),icK rd E fz N lf c fr xs=icX rd E fz N lf c fr xs:=by
 intro c
 induction c with
 | seq a b iha ihb=>
  intro fr xs;show ht5 a b (icK rd E fz N lf a) (icK rd E fz N lf b) fr xs=_
  simp only[ht5,icX,iha,ihb]; rfl
 | cond x a b iha ihb=>
  intro fr xs;show gh4 E x a b (icK rd E fz N lf a) (icK rd E fz N lf b) fr xs=_
  simp only[gh4,icX,iha,ihb,cj4]; rfl
 | block i a iha=>
  intro fr xs;show ey4 i a (icK rd E fz N lf a) fr xs=_
  simp only[ey4,icX,iha]; rfl
 | scope a iha=>intro fr xs; show icK rd E fz N lf a fr xs=_; simp only[icX]; exact iha fr xs
 | loop a iha=>
  intro fr xs;show gh5 lf a (icK rd E fz N lf a) fr xs=_;simp only[gh5,icX,fo4]
  rw[show icK rd E fz N lf a=icX rd E fz N lf a from funext fun f=>funext fun x=>iha f x]
 | reg i ops ks=>intro fr xs; show ht4 rd E fz i ops ks fr xs=_; simp only[ht4,icX,gg7,cu9]; rfl
 | dreg i ops B ks=>intro fr xs; show gh2 rd E fz i ops B ks fr xs=_; simp only[gh2,icX,fo3,cu9]; rfl
 | oreg i ops ks=>intro fr xs; show gh3 rd E fz i ops ks fr xs=_; simp only[gh3,icX,ey2,cu9]; rfl
 | rfunc g ps y a ihy iha=>intro fr xs; show kRf rd E N g ps y a (icK rd E fz N lf y) (icK rd E fz N lf a) fr xs=_; simp only[kRf,icX,cj4]; rfl
 | _=>intro fr xs; rfl
def fo5 (rd:RD)(E:Nat→IV)(fz:Nat→List Nat)(lf:Nat)(e:Nat×IC×List IR)(args:List IV)(xs:XSt):Option (IV×XSt):=
 if args.length≤e.1 then
  match icK rd E fz e.1 lf e.2.1 (au2 args 0) xs with
  | some (.normal,fr,s)=>match irL s.st fr e.2.2 with
   | some vs=>some (gm1 (cv7 vs),s)
   | none=>none
  | some (.ret,fr,s)=>match irL s.st fr e.2.2 with
   | some vs=>some (gm1 (cv7 vs),s)
   | none=>none
  | _=>none
 else none
theorem dt8 (rd:RD)(fz:Nat→List Nat)(lf:Nat)(e:Nat×IC×List IR)(args:List IV)(xs:XSt):fo5 rd E fz lf e args xs=ek4 rd E fz lf e args xs:=by
 simp only[fo5,ek4,gb2];rfl
def dm3 (rd:RD)(T:Tab)(E:Nat→IV)(lf:Nat)(k:Nat)(args:List IV):Option IV :=
 match T.fj4 k args with
 | some v=>some v
 | none=>match T.fn k with
  | some e=>match fo5 rd E (T.fz k) lf e args ⟨0,.e⟩ with
   | some (v,s)=>hn9 s 1000 v
   | none=>none
  | none=>none
theorem dt9 (rd:RD)(T:Tab)(lf k:Nat)(args:List IV):dm3 rd T E lf k args=cw8 rd T E lf k args:=by
 simp only[dm3,cw8,dt8];rfl
def eb2  (T:Tab) (E:Nat→IV) (lf:Nat):Nat→RD
 | 0,_,_,_,_=>none
 | d+1,0,k,args,xs=>bif args.all (af1 1000) then (match dm3 (eb2 T E lf d) T E lf k args with
  | some v=>some (v,xs)
  | none=>none) else none
 | d+1,1,k,args,xs=>bif T.pure k&&args.all (af1 1000) then (match dm3 (eb2 T E lf d) T E lf k args with
  | some v=>some (v,xs)
  | none=>none) else (bif T.gr6 (k+1000000)&&gm3 args xs then fs7 (dm3 (eb2 T E lf d) T E lf) k args xs else bif T.gr6 k then fs8 (dm3 (eb2 T E lf d) T E lf) k args xs else (match T.fn k with
   | some e=>fo5 (eb2 T E lf d) E (T.fz k) lf e args xs
   | none=>none))
 | d+1,_,k,args,xs=>match xs.t.get k with
  | some (.loop N fr ps asg body .ready none)=>if args.length=ps.length then
    match icK (eb2 T E lf d) E (fun _=>[]) N lf asg (bq5 fr ps args) xs with
    | some (.normal,f1,xs0)=>match xs0.t.get k with
     | some (.loop N0 fr0 ps0 as0 b0 .ready none)=>match xs0.put k (some (.loop N0 fr0 ps0 as0 b0 .busy none)) with
      | some xs1=>match icK (eb2 T E lf d) E (fun _=>[]) N lf body f1 xs1 with
       | some (e,_,xs2)=>match xs2.t.get k with
        | some (.loop N' fr' ps' as' b' .busy none)=>match e with
         | .normal=>(xs2.put k (some (.loop N' fr' ps' as' b' .ready none))).map fun s=>(.bool true,s)
         | .ret=>(xs2.put k (some (.loop N' fr' ps' as' b' .done (some .ret)))).map fun s=>(.bool false,s)
         | .exit i=>(xs2.put k (some (.loop N' fr' ps' as' b' .done (some (.exit i))))).map fun s=>(.bool false,s)
        | _=>none
       | none=>none
      | none=>none
     | _=>none
    | _=>none
   else none
  | _=>none
theorem gh6 (T:Tab)(lf:Nat):∀ d,eb2 T E lf d=cr3 T E lf d:=by
 intro d
 induction d with
 | zero=>funext a k args xs; simp only[eb2,cr3]
 | succ d ih=>
  funext a k args xs
  match a with
  | 0=>simp only[eb2,cr3,ih,dt9]; rfl
  | 1=>simp only[eb2,cr3,ih,show dm3 (cr3 T E lf d) T E lf=cw8 (cr3 T E lf d) T E lf from funext fun k=>funext fun a=>dt9 _ _ _ _ _,dt8]; rfl
  | a+2=>simp only[eb2,cr3,ih,gb2]; rfl
end
end Go.Id
/- Codes,part by part; blocks let go at a call. Conditions: none; over any program. -/
namespace Go.Id
open Go
variable {P:Program} {E:Nat→IV} {σ σ':Store} {N n0:Nat} {fr:Frm}
def fo6 (P:Program)(E:Nat→IV)(N n0:Nat)(b:IC)(Q:Exit→Frm→Store→Prop):Exit→Frm→Store→Prop
 | .normal,fr,σ=>RI P E N n0 b fr σ Q
 | e,fr,σ=>Q e fr σ
theorem ht6 {b:IC}{Q:Exit→Frm→Store→Prop}:fo6 P E N n0 b Q .normal fr σ=RI P E N n0 b fr σ Q:=nr rfl
theorem ht7 {b:IC}{Q:Exit→Frm→Store→Prop}:fo6 P E N n0 b Q .ret fr σ=Q .ret fr σ:=nr rfl
theorem ht8 {b:IC}{i:Nat}{Q:Exit→Frm→Store→Prop}:fo6 P E N n0 b Q (.exit i) fr σ=Q (.exit i) fr σ:=nr rfl
attribute [go_sem] ht6 ht7 ht8
theorem ab3 {x:IC}{Q:Exit→Frm→Store→Prop}(h:wpT noP noC P E N n0 x fr σ Q):RI P E N n0 x fr σ Q:=ap7 x fr σ Q (ap9 noT x fr σ Q h)
theorem ab1 {a b:IC}{Q:Exit→Frm→Store→Prop}(h:RI P E N n0 a fr σ (fo6 P E N n0 b Q)):RI P E N n0 (.seq a b) fr σ Q:=by
 intro pf an c hc
 cases c with
 | seq x y=>
  simp only[am4] at hc;split at hc
  ·rename_i xa xb hx hy;cases hc;refine gf3 ((h pf an x hx).mono ?_);intro e f s q
   cases e with
   | normal=>exact q pf an y hy
   | _=>exact q
  ·cases hc
 | region id ops draw=>
  exfalso;simp only[am4] at hc;split at hc
  ·cases hc
  ·split at hc<;>first|(cases hc; done)|(split at hc<;>cases hc)
  ·cases hc
 | cond c a b=>simp only[am4] at hc; split at hc<;>cases hc
 | block id a=>obtain ⟨_,_,h⟩:=map_some hc; cases h
 | scope a=>obtain ⟨_,_,h⟩:=map_some hc; cases h
 | loop a=>obtain ⟨_,_,h⟩:=map_some hc; cases h
 | rangeFunc g ps a b=>
  simp only[am4] at hc;split at hc
  ·split at hc<;>cases hc
  ·cases hc
 | _=>cases hc
theorem ey5 {f:Nat}{ic:IC}{irs:List IR}{args:List IV}{Qc:IV→Store→Prop}(hf:FOK P f (N,ic,irs))(hl:args.length≤N)
  (h:RI P E N σ.next ic (au2 args 0) σ (fb4 irs Qc)):C P E f args σ Qc:=by
 obtain ⟨_,pf,an,fn,h1,h2,h3,h4⟩:=hf
 cases hb:fn.body with
 | none=>rw[hb] at h3; cases h3
 | some c=>
  rw[hb] at h3;refine gk5 h1 hb h2 hl ((h pf an c h3).mono ?_);intro e fr' σ' q;have q:=cj8 q;cases e<;>first|(obtain ⟨vs,q1,q2⟩:=q; exact ⟨vs,by rw[fb2 _ _ h4]; exact q1,q2⟩)|exact q
theorem ht9 {f:Nat}{ic:IC}{irs:List IR}{args:List IV}{v:IV}(hE:∀ g,Bnd 0 (E g))(hf:FOK P f (N,ic,irs))(hl:args.length≤N)(ha:∀ a∈args,Bnd 0 a)
  (h:RI P E N 0 ic (au2 args 0) emp (fb4 irs fun v' σ'=>bm9 σ' 0 v' v)):PC P E f args v :=
 cw2 hE ha (ey5 (σ:=emp) hf hl h)
theorem eb3 {S:Nat→Bool}:(σ.kills S).next=σ.next:=nr rfl
theorem ey6 {S:Nat→Bool}{i:Nat}:(σ.kills S).obj i=if S i=true then σ.obj i else none:=nr rfl
attribute [go_sem] eb3 ey6
theorem gh7 {f:Nat}{args args':List IV}{v:IV}(hl:args'.length=args.length)(ha:∀ σ i,i<args.length→Frz σ (fun _=>true=true) (args.getD i .undef) (args'.getD i .undef))(h:PC P E f args' v):PC P E f args v:=fun σ=>
 gc2 (S:=fun _=>true) hl (ha σ) (h σ)
end Go.Id
namespace Go.Id
open Go
variable {P:Program} {E:Nat→IV} {σ σ':Store} {N n0:Nat} {fr:Frm}
end Go.Id
/- Regions taken in whatever order,walked: no operation reads what another one writes. Conditions: none; over any program. -/
namespace Go.Id
open Go
variable {P:Program} {E:Nat→IV} {σ σ':Store} {N n0:Nat} {fr:Frm}
def cv2 (P:Program)(E:Nat→IV)(base:Nat):List YO→Frm→Store→(Frm→Store→Prop)→Prop
 | [],fr,σ,K=>K fr σ
 | (i,o,m)::rest,fr,σ,K=>(m=0∧o.guard=none)∧opT noP noC P E o.op (base+i) fr σ fun v σ'=>cv2 P E base rest (fr.ah5 o.dst v) σ' K
def gh8 (P:Program)(E:Nat→IV)(base:Nat)(rest:List YO)(d:Option Nat)(fr:Frm)(K:Frm→Store→Prop):IV→Store→Prop:=fun v σ'=>cv2 P E base rest (fr.ah5 d v) σ' K
theorem dm4 {base:Nat}{K:Frm→Store→Prop}:∀ (ops:List YO) (L:List LE) (fr:Frm) (σ:Store),cv2 P E base ops fr σ K→an3 P E (fi9 base ops) L fr σ K:=by
 intro ops
 induction ops with
 | nil=>intro L fr σ h; exact h
 | cons o os ih=>
  obtain ⟨i,⟨d,g,op⟩,m⟩:=o;rintro L fr σ ⟨⟨hm,hg⟩,h⟩;simp only at hm hg h;subst hm;subst hg;refine .inl ⟨rfl,ai1 (fun v s k=>⟨aw7,ih _ _ _ k⟩) (ax2 noT h)⟩
theorem fo7 {id:Nat}{ops:List YO}{keep:List Nat}{Q:Exit→Frm→Store→Prop}(h:cv2 P E σ.next ops fr ⟨σ.next+ops.length,σ.obj⟩ (fb6 keep Q)):RI P E N n0 (.oreg id ops keep) fr σ Q :=
 ab3 (show wpT noP noC P E N n0 (.oreg id ops keep) fr σ Q from dm4 ops [] fr _ h)
variable {base i:Nat} {Kf:Frm→Store→Prop} {d:Option Nat} {rest:List YO}
theorem ik7:cv2 P E base [] fr σ Kf=Kf fr σ:=nr rfl
theorem ik8 {op:IK}:cv2 P E base ((i,⟨d,none,op⟩,0)::rest) fr σ Kf=opT noP noC P E op (base+i) fr σ (gh8 P E base rest d fr Kf):=by
 simp[cv2]; rfl
theorem ik9 {d:Nat}(v:IV):gh8 P E base rest (some d) fr Kf v σ=cv2 P E base rest ((d,v)::fr) σ Kf:=nr rfl
theorem hu4 (v:IV):gh8 P E base rest none fr Kf v σ=cv2 P E base rest fr σ Kf:=nr rfl
theorem hu5:List.length ([]:List YO)=0:=nr rfl
theorem hu6 {y:YO}:List.length (y::rest)=rest.length+1:=nr rfl
attribute [go_sem] ik7 ik8 ik9 hu4 hu5 hu6
/-! ### Rows of rows,one cell written -/
end Go.Id
/- Regions taken in whatever order,walked,where what was read is read again. Conditions: none; over any program. -/
namespace Go.Id
open Go
variable {P:Program} {E:Nat→IV} {σ σ':Store} {N n0:Nat} {fr:Frm}
def dm5 (E:Nat→IV):List LE→Nat→Store→Prop
 | [],_,_=>True
 | e::L,m,σ=>(e.1<0∨(m.testBit e.1=true→evq E [] σ e.2.1=some e.2.2))∧dm5 E L m σ
theorem gh9 {m:Nat}:∀ {L:List LE},dm5 E L m σ→ev8 E L m σ:=by
 intro L
 induction L with
 | nil=>intro _ e he; cases he
 | cons a L ih=>
  rintro ⟨h1,h2⟩ e he;rcases List.mem_cons.1 he with rfl|he
  ·exact h1.resolve_left (Nat.not_lt_zero _)
  ·exact ih h2 e he
def cv3 (P:Program)(E:Nat→IV)(base:Nat):List YO→List LE→Frm→Store→(Frm→Store→Prop)→Prop
 | [],_,fr,σ,K=>K fr σ
 | (i,o,m)::rest,L,fr,σ,K=>o.guard=none∧opT noP noC P E o.op (base+i) fr σ fun v σ'=>dm5 E L m σ'∧cv3 P E base rest (ap1 E fr i o.op v L) (fr.ah5 o.dst v) σ' K
def gi1 (P:Program)(E:Nat→IV)(base:Nat)(rest:List YO)(L:List LE)(m:Nat)(d:Option Nat)(fr:Frm)(i:Nat)(op:IK)(K:Frm→Store→Prop):IV→Store→Prop:=fun v σ'=>dm5 E L m σ'∧cv3 P E base rest (ap1 E fr i op v L) (fr.ah5 d v) σ' K
theorem dm6 {base:Nat}{K:Frm→Store→Prop}:∀ (ops:List YO) (L:List LE) (fr:Frm) (σ:Store),cv3 P E base ops L fr σ K→an3 P E (fi9 base ops) L fr σ K:=by
 intro ops
 induction ops with
 | nil=>intro L fr σ h; exact h
 | cons o os ih=>
  obtain ⟨i,⟨d,g,op⟩,m⟩:=o;rintro L fr σ ⟨hg,h⟩;simp only at hg h;subst hg;refine .inl ⟨rfl,ai1 (fun v s k=>⟨gh9 k.1,ih _ _ _ k.2⟩) (ax2 noT h)⟩
theorem du1 {id:Nat}{ops:List YO}{keep:List Nat}{Q:Exit→Frm→Store→Prop}(h:cv3 P E σ.next ops [] fr ⟨σ.next+ops.length,σ.obj⟩ (fb6 keep Q)):RI P E N n0 (.oreg id ops keep) fr σ Q :=
 ab3 (show wpT noP noC P E N n0 (.oreg id ops keep) fr σ Q from dm6 ops [] fr _ h)
variable {base i m:Nat} {Kf:Frm→Store→Prop} {d:Option Nat} {rest:List YO} {L:List LE}
theorem il1:cv3 P E base [] L fr σ Kf=Kf fr σ:=nr rfl
theorem il2 {op:IK}:cv3 P E base ((i,⟨d,none,op⟩,m)::rest) L fr σ Kf=opT noP noC P E op (base+i) fr σ (gi1 P E base rest L m d fr i op Kf):=by
 simp[cv3]; rfl
theorem il3 {d:Nat}{op:IK}(v:IV):gi1 P E base rest L m (some d) fr i op Kf v σ=(dm5 E L m σ∧cv3 P E base rest (ap1 E fr i op v L) ((d,v)::fr) σ Kf):=nr rfl
theorem hu7 {op:IK}(v:IV):gi1 P E base rest L m none fr i op Kf v σ=(dm5 E L m σ∧cv3 P E base rest (ap1 E fr i op v L) fr σ Kf):=nr rfl
theorem hu8:dm5 E [] m σ=True:=nr rfl
theorem hu9:∀ L:List LE,dm5 E L 0 σ=True:=by
 intro L
 induction L with
 | nil=>rfl
 | cons e L ih=>simp[dm5,ih]
theorem fo8 {j:Nat}{q:IQ}{v:IV}(h:m.testBit j=false):dm5 E ((j,q,v)::L) m σ=dm5 E L m σ:=by simp[dm5,h]
theorem fo9 {j:Nat}{q:IQ}{v:IV}(h:m.testBit j=true):dm5 E ((j,q,v)::L) m σ=(evq E [] σ q=some v∧dm5 E L m σ):=by simp[dm5,h]
theorem hm9 {q:IQ}{v:IV}(h:q.kind=0):ap1 E fr i (.q q) v L=L:=by simp[ap1,h]
theorem il4 {a:Option Nat}{x:IX}{v:IV}:ap1 E fr i (.q (.load a x)) v L=(i,.load a (.c (x.ev E fr)),v)::L:=by
 have:(IQ.load a x).kind≠0:=by simp[IQ.kind]
 simp[ap1,this,cg9]
theorem hv8 {t:Nat}{x y z:IX}{v:IV}:ap1 E fr i (.de4 t x y z) v L=L:=nr rfl
theorem hv9 {n:Nat}{x:IX}{v:IV}:ap1 E fr i (.q (.aa9 n x)) v L=L:=hm9 rfl
theorem hw5 {x:IX}{v:IV}:ap1 E fr i (.q (.mov x)) v L=L:=hm9 rfl
attribute [go_sem] il1 il2 il3 hu7 hu8 hu9 il4 hv8 hv9 hw5
end Go.Id
set_option linter.all false
namespace Go.Id
open Go
theorem io5 {d:Nat}{q:IQ}:oQ d q=⟨some d,none,.q q⟩:=nr rfl
theorem io6 {d:Nat}{x:IX}:oM d x=⟨some d,none,.q (.mov x)⟩:=nr rfl
theorem io7 {d:Nat}{k:IK}:oK d k=⟨some d,none,k⟩:=nr rfl
theorem io8 {d s:Nat}{w:Bool}{q:IQ}:gQ d s w q=⟨some d,some (s,w),.q q⟩:=nr rfl
theorem io9 {d s:Nat}{w:Bool}{k:IK}:gK d s w k=⟨some d,some (s,w),k⟩:=nr rfl
theorem ip1 {k:IK}:oN k=⟨none,none,k⟩:=nr rfl
theorem ip2 {n:Int}:cI n=.c (.int .i64 n):=nr rfl
theorem ip3 {b:Bool}:cB b=.c (.bool b):=nr rfl
theorem ip4 {n:Int}:zI n=.int .i64 n:=nr rfl
theorem ip5 {n:Int}:zU n=.int .u8 n:=nr rfl
attribute [go_sem] io5 io6 io7 io8 io9 ip1 ip2 ip3 ip4 ip5
attribute [go_sem] decide_true decide_false reduceCtorEq Int.reduceLT Int.reduceLE Int.reduceToNat Int.reduceAdd Nat.reduceEqDiff Nat.reduceAdd Nat.reduceMul Nat.reduceLT Nat.reduceLeDiff
attribute [go_sem ↓] reduceIte
theorem nZ {a b:Nat} (h:Nat.ble a b=true):a≤b:=Nat.le_of_ble_eq_true h
abbrev T0:IX:=.t 0
abbrev T1:IX:=.t 1
abbrev T2:IX:=.t 2
abbrev T3:IX:=.t 3
abbrev T4:IX:=.t 4
abbrev T5:IX:=.t 5
abbrev T6:IX:=.t 6
abbrev T7:IX:=.t 7
abbrev T8:IX:=.t 8
abbrev T9:IX:=.t 9
abbrev T10:IX:=.t 10
abbrev T11:IX:=.t 11
abbrev T12:IX:=.t 12
abbrev T13:IX:=.t 13
abbrev T14:IX:=.t 14
abbrev T15:IX:=.t 15
abbrev T16:IX:=.t 16
abbrev T17:IX:=.t 17
abbrev T18:IX:=.t 18
abbrev T19:IX:=.t 19
abbrev T20:IX:=.t 20
abbrev T21:IX:=.t 21
abbrev T22:IX:=.t 22
abbrev T23:IX:=.t 23
abbrev T24:IX:=.t 24
abbrev T25:IX:=.t 25
abbrev T26:IX:=.t 26
abbrev T27:IX:=.t 27
abbrev T28:IX:=.t 28
abbrev T29:IX:=.t 29
abbrev T30:IX:=.t 30
abbrev T31:IX:=.t 31
abbrev T32:IX:=.t 32
abbrev T33:IX:=.t 33
abbrev T34:IX:=.t 34
abbrev T35:IX:=.t 35
abbrev T36:IX:=.t 36
abbrev T37:IX:=.t 37
abbrev T38:IX:=.t 38
abbrev T39:IX:=.t 39
abbrev T40:IX:=.t 40
abbrev T41:IX:=.t 41
abbrev T42:IX:=.t 42
abbrev T43:IX:=.t 43
abbrev T44:IX:=.t 44
abbrev T45:IX:=.t 45
abbrev T46:IX:=.t 46
abbrev T47:IX:=.t 47
abbrev T48:IX:=.t 48
abbrev T49:IX:=.t 49
abbrev T50:IX:=.t 50
abbrev T51:IX:=.t 51
abbrev T52:IX:=.t 52
abbrev T53:IX:=.t 53
abbrev T54:IX:=.t 54
abbrev T55:IX:=.t 55
abbrev T56:IX:=.t 56
abbrev T57:IX:=.t 57
abbrev T58:IX:=.t 58
abbrev T59:IX:=.t 59
abbrev T60:IX:=.t 60
abbrev T61:IX:=.t 61
abbrev T62:IX:=.t 62
abbrev T63:IX:=.t 63
abbrev T64:IX:=.t 64
abbrev T65:IX:=.t 65
abbrev T66:IX:=.t 66
abbrev T67:IX:=.t 67
abbrev T68:IX:=.t 68
abbrev T69:IX:=.t 69
abbrev T70:IX:=.t 70
abbrev T71:IX:=.t 71
abbrev T72:IX:=.t 72
abbrev T73:IX:=.t 73
abbrev T74:IX:=.t 74
abbrev T75:IX:=.t 75
abbrev T76:IX:=.t 76
abbrev T77:IX:=.t 77
abbrev T78:IX:=.t 78
abbrev T79:IX:=.t 79
abbrev T80:IX:=.t 80
abbrev T81:IX:=.t 81
abbrev T82:IX:=.t 82
abbrev T83:IX:=.t 83
abbrev T84:IX:=.t 84
abbrev T85:IX:=.t 85
abbrev T86:IX:=.t 86
abbrev T87:IX:=.t 87
abbrev T88:IX:=.t 88
abbrev T89:IX:=.t 89
abbrev T90:IX:=.t 90
abbrev T91:IX:=.t 91
abbrev T92:IX:=.t 92
abbrev T93:IX:=.t 93
abbrev T94:IX:=.t 94
abbrev T95:IX:=.t 95
abbrev T96:IX:=.t 96
abbrev T97:IX:=.t 97
abbrev T98:IX:=.t 98
abbrev T99:IX:=.t 99
abbrev T100:IX:=.t 100
abbrev T101:IX:=.t 101
abbrev T102:IX:=.t 102
abbrev T103:IX:=.t 103
abbrev T104:IX:=.t 104
abbrev T105:IX:=.t 105
abbrev T106:IX:=.t 106
abbrev T107:IX:=.t 107
abbrev T108:IX:=.t 108
abbrev T109:IX:=.t 109
abbrev T110:IX:=.t 110
abbrev T111:IX:=.t 111
abbrev T112:IX:=.t 112
abbrev T113:IX:=.t 113
abbrev T114:IX:=.t 114
abbrev T115:IX:=.t 115
abbrev T116:IX:=.t 116
abbrev T117:IX:=.t 117
abbrev T118:IX:=.t 118
abbrev T119:IX:=.t 119
abbrev T120:IX:=.t 120
abbrev T121:IX:=.t 121
abbrev T122:IX:=.t 122
abbrev T123:IX:=.t 123
abbrev T124:IX:=.t 124
abbrev T125:IX:=.t 125
abbrev T126:IX:=.t 126
abbrev T127:IX:=.t 127
abbrev T128:IX:=.t 128
abbrev T129:IX:=.t 129
abbrev T130:IX:=.t 130
abbrev T131:IX:=.t 131
abbrev T132:IX:=.t 132
abbrev T133:IX:=.t 133
abbrev T134:IX:=.t 134
abbrev T135:IX:=.t 135
abbrev T136:IX:=.t 136
abbrev T137:IX:=.t 137
abbrev T138:IX:=.t 138
abbrev T139:IX:=.t 139
abbrev T140:IX:=.t 140
abbrev T141:IX:=.t 141
abbrev T142:IX:=.t 142
abbrev T143:IX:=.t 143
abbrev T144:IX:=.t 144
abbrev T145:IX:=.t 145
abbrev T146:IX:=.t 146
abbrev T147:IX:=.t 147
abbrev T148:IX:=.t 148
abbrev T149:IX:=.t 149
abbrev T150:IX:=.t 150
abbrev T151:IX:=.t 151
abbrev T152:IX:=.t 152
abbrev T153:IX:=.t 153
abbrev T154:IX:=.t 154
abbrev T155:IX:=.t 155
abbrev T156:IX:=.t 156
abbrev T157:IX:=.t 157
abbrev T158:IX:=.t 158
abbrev T159:IX:=.t 159
abbrev T160:IX:=.t 160
abbrev T161:IX:=.t 161
abbrev T162:IX:=.t 162
abbrev T163:IX:=.t 163
abbrev T164:IX:=.t 164
abbrev T165:IX:=.t 165
abbrev T166:IX:=.t 166
abbrev T167:IX:=.t 167
abbrev T168:IX:=.t 168
abbrev T169:IX:=.t 169
abbrev T170:IX:=.t 170
abbrev T171:IX:=.t 171
abbrev T172:IX:=.t 172
abbrev T173:IX:=.t 173
abbrev T174:IX:=.t 174
abbrev T175:IX:=.t 175
abbrev T176:IX:=.t 176
abbrev T177:IX:=.t 177
abbrev T178:IX:=.t 178
abbrev T179:IX:=.t 179
abbrev T180:IX:=.t 180
abbrev T181:IX:=.t 181
abbrev T182:IX:=.t 182
abbrev T183:IX:=.t 183
abbrev T184:IX:=.t 184
abbrev T185:IX:=.t 185
abbrev T186:IX:=.t 186
abbrev T187:IX:=.t 187
abbrev T188:IX:=.t 188
abbrev T189:IX:=.t 189
abbrev T190:IX:=.t 190
abbrev T191:IX:=.t 191
abbrev T192:IX:=.t 192
abbrev T193:IX:=.t 193
abbrev T194:IX:=.t 194
abbrev T195:IX:=.t 195
abbrev T196:IX:=.t 196
abbrev T197:IX:=.t 197
end Go.Id
set_option linter.all false
namespace Go.Id
open Go
variable {P:Program} {E:Nat→IV} {σ:Store} {N n0 id:Nat} {fr:Frm} {pt:PT} {ct:CT} {Q:Exit→Frm→Store→Prop} {K:IV→Store→Prop}
theorem id6 {P:IV→Prop}{a:IV}(h:P a):∀ v∈[a],P v:=by simpa using h
theorem id7 {ag:Option Nat}{x:IX}:evq E fr σ (.ldt ag x)=ge3 ag (x.ev E fr):=nr rfl
theorem he8 {cs:List IV}:ge3 none (.af4 cs)=cs.head?:=nr rfl
theorem he9 {n:Nat}{cs:List IV}:ge3 (some n) (.af4 cs)=if n≤cs.length then some (.agg (cs.take n)) else none:=nr rfl
attribute [go_sem] id7 he8 he9
end Go.Id
set_option linter.all false
namespace Go.Id
open Go Go.Id.Md
variable {P:Program} {E:Nat→IV} {σ s t:Store} {v:IV} {zs:List Int} {lo:Nat}
abbrev gb4 (n:Int):IV:=.int .i64 n
def ec1 (s:Store)(lo:Nat)(v:IV)(zs:List Int):Prop :=
 (v=.aa1∧zs=[])∨∃ id cs,lo≤id∧id<s.next∧v=.slice id 0 zs.length 1∧s.obj id=some (.row cs)∧cs.take zs.length=zs.map gb4∧zs.length≤cs.length
def bh2 (s:Store)(lo:Nat)(v:IV)(zs:List Int):Prop :=
 (v=.aa1∧zs=[])∨∃ id,lo≤id∧id<s.next∧v=.slice id 0 zs.length 1∧s.obj id=some (.row (zs.map gb4))
theorem bh2.w (h:bh2 s lo v zs):ec1 s lo v zs:=by
 rcases h with h|⟨id,h1,h2,h3,h4⟩
 ·exact .inl h
 ·exact .inr ⟨id,_,h1,h2,h3,h4,by rw[List.take_of_length_le (by simp)],by simp⟩
structure Kept (σ s:Store):Prop where
 next:σ.next≤s.next
 obj:∀ i,i<σ.next→s.obj i=σ.obj i
theorem Kept.refl (σ:Store):Kept σ σ:=⟨Nat.le_refl _,fun _ _=>rfl⟩
theorem Kept.trans (h:Kept σ s)(h2:Kept s t):Kept σ t:=⟨Nat.le_trans h.next h2.next,fun i hi=>by rw[h2.obj i (Nat.lt_of_lt_of_le hi h.next),h.obj i hi]⟩
def io2 (σ:Store)(zs:List Int)(v:IV)(s:Store):Prop:=Kept σ s∧ec1 s σ.next v zs
def hc5 (σ:Store)(zs:List Int)(v:IV)(s:Store):Prop:=Kept σ s∧bh2 s σ.next v zs
theorem hc5.w (h:hc5 σ zs v s):io2 σ zs v s:=⟨h.1,h.2.w⟩
theorem gk6 {cs:List IV}(h:cs.take zs.length=zs.map gb4){i:Nat}(hi:i<zs.length):cs.getD i .undef=gb4 zs[i]:=by
 have h1:(cs.take zs.length)[i]? = (zs.map gb4)[i]?:=by rw[h]
 rw[List.getElem?_take,if_pos hi,List.getElem?_map,List.getElem?_eq_getElem hi] at h1;rw[List.getD_eq_getElem?_getD,h1]; rfl
theorem ec1.frz {S:Nat→Prop}(h:ec1 s lo v zs)(hS:∀ i,lo≤i→¬ S i):Frz s S v (.aa4 (zs.map Md.ar1)):=by
 rcases h with ⟨rfl,rfl⟩|⟨id,cs,h1,h2,rfl,h4,h5,h6⟩
 ·exact .gq6
 ·refine .slice id 0 zs.length 1 cs (zs.map Md.ar1) (hS id h1) (.inr h4) (by rw[List.length_map]) (by omega) (fun i hi=>?_) fun i hi j hj=>?_
  ·simp[List.getD_eq_getElem?_getD,hi,Md.ar1]
  ·have hj0:j=0:=by omega
   subst hj0;have e2:((zs.map Md.ar1).getD i []).getD 0 .undef=gb4 zs[i]:=by simp[List.getD_eq_getElem?_getD,hi,Md.ar1]
   rw[e2,Nat.zero_add,Nat.mul_one,Nat.add_zero,gk6 h5 hi];exact .keep _ (.int _ _)
theorem bh2.grow (h:Grow s v 1 (zs.map Md.ar1))(hlo:∀ id,v=.slice id 0 zs.length 1→lo≤id):bh2 s lo v zs:=by
 have hfl:∀ zs:List Int,(zs.map Md.ar1).flatten=zs.map gb4:=fun zs=>by
  induction zs with
  | nil=>rfl
  | cons z zs ih=>simp only[List.map_cons,List.flatten_cons,ih]; rfl
 rcases h with ⟨rfl,h⟩|⟨id,rfl,ho,hid⟩
 ·exact .inl ⟨rfl,List.map_eq_nil_iff.1 h⟩
 ·rw[List.length_map] at hlo;exact .inr ⟨id,hlo id rfl,hid,by rw[List.length_map],by rw[ho,hfl]⟩
theorem bh2.gr (h:bh2 s lo v zs):Grow s v 1 (zs.map Md.ar1):=by
 have hfl:∀ zs:List Int,(zs.map Md.ar1).flatten=zs.map gb4:=fun zs=>by
  induction zs with
  | nil=>rfl
  | cons z zs ih=>simp only[List.map_cons,List.flatten_cons,ih]; rfl
 rcases h with ⟨rfl,rfl⟩|⟨id,h1,h2,rfl,ho⟩
 ·exact .inl ⟨rfl,rfl⟩
 ·exact .inr ⟨id,by rw[List.length_map],by rw[ho,hfl],h2⟩
theorem Kept.up (h:Kept σ s)(n:Nat):Kept σ ⟨s.next+n,s.obj⟩:=⟨Nat.le_trans h.next (Nat.le_add_right _ _),h.obj⟩
theorem bh2.up (h:bh2 s lo v zs)(n:Nat):bh2 ⟨s.next+n,s.obj⟩ lo v zs:=by
 rcases h with h|⟨id,h1,h2,h3,h4⟩
 ·exact .inl h
 ·exact .inr ⟨id,h1,Nat.lt_of_lt_of_le h2 (Nat.le_add_right _ _),h3,h4⟩
theorem ec1.up (h:ec1 s lo v zs)(n:Nat):ec1 ⟨s.next+n,s.obj⟩ lo v zs:=by
 rcases h with h|⟨id,cs,h1,h2,h3,h4⟩
 ·exact .inl h
 ·exact .inr ⟨id,cs,h1,Nat.lt_of_lt_of_le h2 (Nat.le_add_right _ _),h3,h4⟩
theorem bh2.kept (h:bh2 s lo v zs)(hk:Kept s t):bh2 t lo v zs:=by
 rcases h with h|⟨id,h1,h2,h3,h4⟩
 ·exact .inl h
 ·exact .inr ⟨id,h1,Nat.lt_of_lt_of_le h2 hk.next,h3,by rw[hk.obj id h2]; exact h4⟩
theorem ec1.kept (h:ec1 s lo v zs)(hk:Kept s t):ec1 t lo v zs:=by
 rcases h with h|⟨id,cs,h1,h2,h3,h4,h5⟩
 ·exact .inl h
 ·exact .inr ⟨id,cs,h1,Nat.lt_of_lt_of_le h2 hk.next,h3,by rw[hk.obj id h2]; exact h4,h5⟩
theorem Kept.low {k:Nat}(h:Kept ⟨σ.next+k,σ.obj⟩ s):Kept σ s:=⟨Nat.le_trans (Nat.le_add_right _ k) h.next,fun i hi=>h.obj i (Nat.lt_of_lt_of_le hi (Nat.le_add_right _ k))⟩
theorem bh2.low {lo':Nat}(h:bh2 s lo v zs)(hl:lo'≤lo):bh2 s lo' v zs:=by
 rcases h with h|⟨id,h1,h2⟩
 ·exact .inl h
 ·exact .inr ⟨id,Nat.le_trans hl h1,h2⟩
theorem ec1.low {lo':Nat}(h:ec1 s lo v zs)(hl:lo'≤lo):ec1 s lo' v zs:=by
 rcases h with h|⟨id,cs,h1,h2⟩
 ·exact .inl h
 ·exact .inr ⟨id,cs,Nat.le_trans hl h1,h2⟩
theorem Kept.box (t:Store)(A B:ah2):Kept t ⟨t.next+1,(((⟨t.next+1,t.obj⟩:Store).put t.next A).put t.next B).obj⟩:=⟨Nat.le_succ _,fun i hi=>by
 have h:¬ i=t.next:=by omega
 show (if i=t.next then _ else if i=t.next then _ else t.obj i)=_;rw[if_neg h,if_neg h]⟩
end Go.Id
set_option linter.all false
namespace Go.Id
open Go
theorem an2 {P:Program}{E:Nat→IV}{N n0:Nat}{fr:Frm}{σ:Store}{x:IC}{Q:Exit→Frm→Store→Prop}(I:Nat→Frm→Store→Prop)(n:Nat)(h:I 0 fr σ)
  (hI:∀ i fr σ,i≤n→I i fr σ→RI P E N n0 x fr σ (upQ I i n Q)):RI P E N n0 (.loop x) fr σ Q:=by
 refine cx1 (fun m fr σ=>∃ i,i≤n∧m=n-i∧I i fr σ) n ⟨0,Nat.zero_le _,rfl,h⟩ ?_;rintro m fr σ ⟨i,hi,rfl,hi0⟩;refine al9 (hI i fr σ hi hi0) ?_;intro e f s q
 cases e with
 | normal=>exact ⟨n-(i+1),by have:=q.1; omega,i+1,q.1,rfl,q.2⟩
 | _=>exact q
section
end
end Go.Id
set_option linter.all false
namespace Go.Id
open Go Go.Sort
variable {P:Program} {w w':World} {ρ ρ':Rho} {E:Nat→IV} {σ:Store}
theorem ce2 (n k:Nat):Ext n ρ w ρ (Sort.ahead w k):=⟨Nat.le_refl _,fun _ _=>rfl,fun _ r _ _ h=>⟨r,h,rfl⟩,fun i B d h=>.inl ⟨i,d,h⟩,fun _ _ _ h=>.inl h,fun _ h=>h,fun _ _ h=>h,rfl,rfl,⟨rfl,Nat.le_add_right _ _⟩,fun _ L h=>⟨L,h⟩,rfl⟩
theorem fa9 (hs:Sim E ρ w σ)(k:Nat):Sim E ρ (Sort.ahead w k) σ :=
 ⟨hs.inj,hs.lt,fun i B d h=>let ⟨o,h1,h2⟩:=hs.obj i B d h; ⟨o,h1,h2.mono (ce2 0 k) rfl⟩,hs.dead,hs.fresh,hs.ak6,fun g=>(hs.env g).mono (ce2 0 k),hs.nx,hs.xlt⟩
theorem cw1 (w:World)(os:Array Obj){b:Nat}(h:b<w.heap.size):(Sort.grow w os).heap[b]? = w.heap[b]?:=by
 show (w.heap++os)[b]? = _;rw[Array.getElem?_append_left h]
theorem fb1 {b:Nat}{o:Obj}(h:w.heap[b]? = some o):b<w.heap.size:=(Array.getElem?_eq_some_iff.1 h).1
theorem bm6 (n:Nat)(os:Array Obj):Ext n ρ w ρ (Sort.grow w os):=
 ⟨by show _≤(w.heap++os).size; simp,fun b h=>cw1 w os h.1,fun b r el fz h=>⟨r,by rw[cw1 w os (fb1 h)]; exact h,rfl⟩,fun i B d h=>.inl ⟨i,d,h⟩,fun _ _ _ h=>.inl h,fun _ h=>h,fun _ _ h=>h,rfl,rfl,⟨rfl,Nat.le_refl _⟩,fun l L h=>⟨L,by rw[cw1 w os (fb1 h)]; exact h⟩,rfl⟩
theorem fq8 (hs:Sim E ρ w σ)(os:Array Obj):Sim E ρ (Sort.grow w os) σ :=
 ⟨hs.inj,fun i B d h=>Nat.lt_of_lt_of_le (hs.lt i B d h) (bm6 (ρ:=ρ) 0 os).size,fun i B d h=>let ⟨o,h1,h2⟩:=hs.obj i B d h; ⟨o,h1,h2.mono (bm6 0 os) (cw1 w os (hs.lt i B d h))⟩,hs.dead,hs.fresh,hs.ak6,fun g=>(hs.env g).mono (bm6 0 os),hs.nx,fun b h=>Nat.lt_of_lt_of_le (hs.xlt b h) (bm6 (ρ:=ρ) (w:=w) 0 os).size⟩
theorem putRow_set {α:Type}[Inhabited α](enc:α→Value)(w:World)(B off:Nat)(d:Array α){rcs:Array Value}{el:TypeId}{fz:Nat×Nat}(h:w.heap[B]? = some (.cells rcs el fz)) :
  Sort.putRow enc w B off d=w.setRow B (Sort.putCells enc off d rcs):=by
 unfold Sort.putRow Sort.mapBlock World.setRow;congr 1;apply Array.ext_getElem?;intro k;simp only[Array.getElem?_modify];by_cases hk:B=k
 ·subst hk;simp only[if_true,h,Option.map_some,Sort.onCells]
 ·simp[hk]
theorem gk7 {α:Type}[Inhabited α]{enc:α→Value}{en:α→IV}{srt:List α→List α}{f:Nat}
  (hv:∀ (ρ:Rho) (w:World) (x:α),VR ρ w (en x) (enc x)) (hinv:∀ (ρ:Rho) (w:World) (x:α) (r:Value),VR ρ w (en x) r→r=enc x)
  (hl:∀ l,(srt l).length=l.length) (h0:srt []=[])
  (hk:∀ (blk off cap:Nat) (zs:List α) (w:World),Sort.Holds enc w blk off zs.toArray→blk<w.heap.size→zs.length<4611686018427387904→Calls P f #[.slice (some ⟨blk,off,none⟩) zs.length cap] w fun e w'=>
   e=.returned (.tuple #[])∧∃ n os,w'=Sort.grow (Sort.putRow enc (Sort.ahead w n) blk off (srt zs).toArray) os)
  (hn:∀ (p:Option Addr) (cap:Nat) (w:World),Calls P f #[.slice p 0 cap] w fun e w'=>e=.returned (.tuple #[])∧w'=w)
  {id:Nat} {zs:List α} (hz:zs.length<4611686018427387904) (ho:σ.obj id=some (.row (zs.map en))) :
  C P E f [.slice id 0 zs.length 1] σ fun v s=>v=.tuple []∧s=σ.put id (.row ((srt zs).map en)):=by
 intro ρ w rargs hs hr;obtain ⟨hr1,hr2⟩:=hr;have hv0:=hr2 0 (by simp);obtain ⟨al⟩:=rargs
 match al,hr1,hv0 with
 | [r],_,hv0=>
  have hv0:VR ρ w (.slice id 0 zs.length 1) r:=hv0
  have empty:∀ (p:Option Addr) (cap:Nat),r=.slice p 0 cap→zs.length=0→CallsIn Fence.wide 0 P f #[r] w fun e w'=>∃ v r ρ' σ',e=.returned r∧(v=IV.tuple []∧σ'=σ.put id (.row ((srt zs).map en)))∧Sim E ρ' w' σ'∧VR ρ' w' v r∧au7 σ.next ρ w ρ' w':=by
   intro p cap er hz0;have hz0:zs=[]:=List.length_eq_zero_iff.1 hz0;subst hz0;rw[er];refine callsIn_wide.2 ((hn p cap w).mono ?_);rintro e w' ⟨rfl,rfl⟩
   have hput:σ.put id (.row (([]:List α).map en))=σ:=by
    unfold Store.put;congr 1;funext i;by_cases h:i=id
    ·subst h; simpa using ho.symm
    ·simp[h]
   exact ⟨.tuple [],_,ρ,σ,rfl,⟨rfl,by rw[h0]; exact hput.symm⟩,hs,.tuple [] #[] rfl (fun i hi=>by simp at hi),au7.refl _ _ _⟩
  by_cases hz0:zs.length=0
  ·rw[hz0] at hv0
   cases hv0 with
   | slice _ _ _ _ B d cap rcs el fz hid hb hsz hle=>exact empty _ _ rfl hz0
   | ag5 _ _ _ B d a hid=>exact empty _ _ rfl hz0
   | ag6 _ _ _ _ cap ad hid hle=>exact empty _ _ rfl hz0
  ·obtain ⟨m,hm⟩:∃ m,m=zs.length:=⟨_,rfl⟩;rw[← hm] at hv0
   cases hv0 with
   | slice _ _ _ _ B d cap rcs el fz hid hb hsz hle=>
    subst hm;obtain ⟨o,h1,h2⟩:=hs.obj id B d hid;rw[ho] at h1;cases h1;obtain ⟨rcs',el',hb',hsz',hvs⟩:=h2;rw[hb] at hb';cases hb';rw[List.length_map] at hsz' hvs
    have hcell:∀ j (h:j<zs.length),rcs[d+j]? = some (enc zs[j]):=fun j h=>by
     have:=hvs j h;have e1:(zs.map en).getD j .undef=en zs[j]:=by simp[List.getD_eq_getElem?_getD,h]
     rw[e1] at this;have:=hinv _ _ _ _ this;have hlt:d+j<rcs.size:=by omega
     rw[ac5 _ _ _ hlt] at this;rw[Array.getElem?_eq_getElem hlt,this]
    have hH:Sort.Holds enc w B (d+0) zs.toArray:=fun j hj=>by
     have hj':j<zs.length:=by simpa using hj
     refine ⟨?_,?_⟩
     ·simp only[World.cell?,hb,Option.isSome_none,Bool.false_eq_true,if_false,Nat.add_zero];rw[hcell j hj'];congr 2;rw[getElem!_pos _ j hj]; simp
     ·simp[World.frozen?,hb]
    refine callsIn_wide.2 ((hk B (d+0) cap zs w hH (hs.lt id B d hid) hz).mono ?_);rintro e w' ⟨rfl,n,os,rfl⟩;have hba:(Sort.ahead w n).heap[B]? = some (.cells rcs el (0,0)):=hb;rw[putRow_set enc _ B _ _ hba];have hsa:=fa9 hs n;generalize hnew:Sort.putCells enc (d+0) (srt zs).toArray rcs=new;have hnsz:new.size=rcs.size:=by rw[← hnew]; simp[Sort.putCells]
    have hx1:∀ m,Ext m ρ (Sort.ahead w n) ρ ((Sort.ahead w n).setRow B new):=fun m=>al4 (n:=m) (new:=new) hid hba hnsz
    have hs1:Sim E ρ ((Sort.ahead w n).setRow B new) (σ.put id (.row ((srt zs).map en))):=by
     refine as2 hsa hid hba hnsz ⟨new,el,setRow_heap _ B rcs new el (0,0) hba,?_,fun k hk'=>?_⟩
     ·rw[hnsz,List.length_map,hl]; exact hsz'
     ·rw[List.length_map,hl] at hk';have hlt:d+k<rcs.size:=by omega
      have hks:k<(srt zs).length:=by rw[hl]; exact hk'
      have e1:((srt zs).map en).getD k .undef=en (srt zs)[k]:=by simp[List.getD_eq_getElem?_getD,hks]
      have e2:new.getD (d+k) undef=enc (srt zs)[k]:=by
       rw[← hnew];rw[ac5 _ _ _ (by simpa [Sort.putCells] using hlt)];have c1:d+0≤d+k∧d+k<d+0+(srt zs).toArray.size:=by simp; omega
       simp only[Sort.putCells,Array.getElem_mapIdx,c1,and_self,if_true];congr 1;rw[getElem!_pos _ _ (by simp; omega)];simp
      rw[e1,e2];exact hv _ _ _
    exact ⟨.tuple [],_,ρ,_,rfl,⟨rfl,rfl⟩,fq8 hs1 os,.tuple [] #[] rfl (fun i hi=>by simp at hi),(((ce2 σ.next n).trans (hx1 σ.next) (Nat.le_refl _)).trans (bm6 σ.next os) (Nat.le_refl _)).weak (Nat.le_refl _)⟩
   | ag5=>exact absurd hm.symm hz0
   | ag6 _ _ _ _ cap ad hid hle=>rw[hs.dead id hid] at ho; cases ho
end Go.Id
set_option linter.all false
namespace Go.Id
open Go
variable {P:Program} {E:Nat→IV} {σ σ':Store}
def fq9 (f:IV→IV→Bool):List (IV×IV)→List (IV×IV)→Bool
 | [],y=>match y with
  | []=>true
  | _=>false
 | a::aZ,y=>match y with
  | b::bs=>f a.1 b.1&&f a.2 b.2&&fq9 f aZ bs
  | _=>false
theorem fr3 {f:IV→IV→Bool}(hf:∀ a b,f a b=true→a=b):∀ x y,fq9 f x y=true→x=y:=by
 intro x
 induction x with
 | nil=>intro y h; cases y with
  | nil=>rfl
  | cons b y=>cases h
 | cons a x ih=>intro y h; cases y with
  | nil=>cases h
  | cons b y=>
   obtain ⟨a1,a2⟩:=a;obtain ⟨b1,b2⟩:=b;simp only[fq9,Bool.and_eq_true] at h;rw[hf _ _ h.1.1,hf _ _ h.1.2,ih y h.2]
def de5:Nat→IV→IV→Bool
 | 0,_,_=>false
 | n+1,a,b=>match a with
  | .al5 x=>match b with
   | .al5 y=>fq9 (de5 n) x y
   | _=>false
  | .af4 x=>match b with
   | .af4 y=>ce1 (de5 n) x y
   | _=>false
  | .aa4 x=>match b with
   | .aa4 y=>dd7 (de5 n) x y
   | _=>false
  | .agg x=>match b with
   | .agg y=>ce1 (de5 n) x y
   | _=>false
  | .tuple x=>match b with
   | .tuple y=>ce1 (de5 n) x y
   | _=>false
  | a=>fp9 (n+1) a b
theorem fr4:∀ (n:Nat) (a b:IV),de5 n a b=true→a=b:=by
 intro n
 induction n with
 | zero=>intro a b h; cases h
 | succ n ih=>
  intro a b h
  cases a with
  | al5 x=>cases b with
   | al5 y=>rw[fr3 ih _ _ h]
   | _=>cases h
  | af4 x=>cases b with
   | af4 y=>rw[au9 ih _ _ h]
   | _=>cases h
  | aa4 x=>cases b with
   | aa4 y=>rw[dd8 ih _ _ h]
   | _=>cases h
  | agg x=>cases b with
   | agg y=>rw[au9 ih _ _ h]
   | _=>cases h
  | tuple x=>cases b with
   | tuple y=>rw[au9 ih _ _ h]
   | _=>cases h
  | _=>exact ez2 (n+1) _ _ h
/-! ### Trees with nil rows are trees with empty rows -/
def wkL (f:IV→IV→Bool):List IV→List IV→Bool
 | [],y=>match y with
  | []=>true
  | _=>false
 | a::aZ,y=>match y with
  | b::bs=>f a b&&wkL f aZ bs
  | _=>false
theorem av3 {f:IV→IV→Bool}:∀ x y,wkL f x y=true→y.length=x.length∧∀ i,i<x.length→f (x.getD i .undef) (y.getD i .undef)=true:=by
 intro x
 induction x with
 | nil=>intro y h; cases y with
  | nil=>exact ⟨rfl,fun i hi=>absurd hi (Nat.not_lt_zero _)⟩
  | cons b y=>cases h
 | cons a x ih=>intro y h; cases y with
  | nil=>cases h
  | cons b y=>
   simp only[wkL,Bool.and_eq_true] at h;obtain ⟨h1,h2⟩:=ih y h.2;refine ⟨by simp[h1],fun i hi=>?_⟩
   cases i with
   | zero=>exact h.1
   | succ i=>exact h2 i (by simpa using hi)
def wkR (f:IV→IV→Bool):List (List IV)→List (List IV)→Bool
 | [],y=>match y with
  | []=>true
  | _=>false
 | a::aZ,y=>match y with
  | b::bs=>wkL f a b&&wkR f aZ bs
  | _=>false
theorem fr5 {f:IV→IV→Bool}:∀ x y,wkR f x y=true→y.length=x.length∧∀ i,i<x.length→wkL f (x.getD i []) (y.getD i [])=true:=by
 intro x
 induction x with
 | nil=>intro y h; cases y with
  | nil=>exact ⟨rfl,fun i hi=>absurd hi (Nat.not_lt_zero _)⟩
  | cons b y=>cases h
 | cons a x ih=>intro y h; cases y with
  | nil=>cases h
  | cons b y=>
   simp only[wkR,Bool.and_eq_true] at h;obtain ⟨h1,h2⟩:=ih y h.2;refine ⟨by simp[h1],fun i hi=>?_⟩
   cases i with
   | zero=>exact h.1
   | succ i=>exact h2 i (by simpa using hi)
def wkB:Nat→IV→IV→Bool
 | 0,_,_=>false
 | n+1,a,b=>match a with
  | .aa1=>match b with
   | .aa4 y=>match y with
    | []=>true
    | _=>false
   | .aa1=>true
   | _=>false
  | .aa4 x=>match b with
   | .aa4 y=>wkR (wkB n) x y
   | _=>false
  | .agg x=>match b with
   | .agg y=>wkL (wkB n) x y
   | _=>false
  | .af4 x=>match b with
   | .af4 y=>wkL (wkB n) x y
   | _=>false
  | a=>af1 (n+1) a&&de5 (n+1) a b
theorem gk8:∀ (n:Nat) (a b:IV),wkB n a b=true→∀ (σ:Store) (S:Nat→Prop),Frz σ S a b:=by
 intro n
 induction n with
 | zero=>intro a b h; cases h
 | succ n ih=>
  intro a b h σ S
  have eqc:∀ a b:IV,(af1 (n+1) a&&de5 (n+1) a b)=true→Frz σ S a b:=fun a b h=>by
   simp only[Bool.and_eq_true] at h;rw[← fr4 _ _ _ h.2];exact .keep _ ((aj5 _ _ h.1).weak fun i hi=>absurd hi (Nat.not_lt_zero _))
  cases a with
  | aa1=>cases b with
   | aa4 y=>cases y with
    | nil=>exact .gq6
    | cons _ _=>cases h
   | aa1=>exact .keep _ .aa1
   | _=>cases h
  | aa4 x=>cases b with
   | aa4 y=>
    obtain ⟨h1,h2⟩:=fr5 _ _ h
    exact .aa4 _ _ h1 (fun i hi=>(av3 _ _ (h2 i hi)).1) fun i hi j hj=>ih _ _ ((av3 _ _ (h2 i hi)).2 j hj) σ S
   | _=>cases h
  | agg x=>cases b with
   | agg y=>exact .agg _ _ (av3 _ _ h).1 fun i hi=>ih _ _ ((av3 _ _ h).2 i hi) σ S
   | _=>cases h
  | af4 x=>cases b with
   | af4 y=>exact .af4 _ _ (av3 _ _ h).1 fun i hi=>ih _ _ ((av3 _ _ h).2 i hi) σ S
   | _=>cases h
  | _=>exact eqc _ _ h
theorem hc7 {f:Nat}{args args':List IV}{v:IV}(hw:wkL (wkB 1000) args args'=true)(h:PC P E f args' v):PC P E f args v :=
 gh7 (av3 _ _ hw).1 (fun σ i hi=>gk8 1000 _ _ ((av3 _ _ hw).2 i hi) σ _) h
end Go.Id
