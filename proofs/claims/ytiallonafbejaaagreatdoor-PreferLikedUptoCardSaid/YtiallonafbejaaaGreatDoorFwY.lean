/- Running compiled codes on ideal values: codes,calls,and the proof. Conditions: none; over any program. -/
import Derived.Test.YtiallonafbejaaaGreatDoorFwW
set_option linter.all false
namespace Go.Id
open Go
variable {P:Program} {E:Nat→IV} {σ σ':Store} {N n n0:Nat} {fr:Frm}
inductive XE where
 | normal
 | exit (i:Nat)
 | ret
 deriving Inhabited
structure Tab where
 fn:Nat→Option (Nat×IC×List IR)
 pure:Nat→Bool
 prim:Nat→List IV→Option IV
 fz:Nat→Nat→List Nat:=fun _ _=>[]
 /-- Functions that are lent what is one's own,and give a plain answer. -/
 lend:Nat→Bool:=fun _=>false
structure TabOK (P:Program) (E:Nat→IV) (T:Tab):Prop where
 fn:∀ f N ic rs,T.fn f=some (N,ic,rs)→okF P f=true∧∃ pf an,fv5 P f N pf an ic rs
 prim:∀ f args v,T.prim f args=some v→okF P f=true∧PC P E f args v
abbrev RD:=Nat→Nat→List IV→XSt→Option (IV×XSt)
where
 go4 (r:IV→IV→Bool):List IV→List IV→Bool
  | [],[]=>true
  | a::x,b::y=>r a b&&go4 r x y
  | _,_=>false
 sameLL (r:IV→IV→Bool):List (List IV)→List (List IV)→Bool
  | [],[]=>true
  | a::x,b::y=>go4 r a b&&sameLL r x y
  | _,_=>false
/-! ### The proof -/
structure RDok (P:Program) (E:Nat→IV) (rd:RD):Prop where
 pure:∀ k args xs r,rd 0 k args xs=some r→okF P k=true∧PC P E k args r.1
 call:∀ Λ k args xs σ r,XR P E Λ xs σ→rd 1 k args xs=some r→okF P k=true∧C P E k args σ fun v s=>v=r.1∧XR P E Λ r.2 s∧σ.next≤s.next
 yld:∀ Λ k args xs σ r,XR P E Λ xs σ→rd 2 k args xs=some r→CV P E (.yield k) args σ fun v s=>v=r.1∧XR P E Λ r.2 s∧σ.next≤s.next
variable {rd:RD} {Λ:Lam} {xs xs':XSt}
/-! ### Codes,by their parts -/
theorem er2 {pf:List Nat}{an:Ann}{c:Code}{i:Nat}{x:IC}(h:au8 P pf N an c=some (.block i x)):∃ a,c=.block i a∧au8 P pf N an a=some x:=by
 cases c with
 | block id a=>obtain ⟨_,h1,h⟩:=map_some h; cases h; exact ⟨a,rfl,h1⟩
 | scope a=>obtain ⟨_,_,h⟩:=map_some h; cases h
 | region id ops draw=>simp only[au8] at h; split at h<;>first|(cases h; done)|(split at h<;>first|(cases h; done)|(split at h<;>cases h))
 | seq a b=>simp only[au8] at h; split at h<;>cases h
 | cond c a b=>simp only[au8] at h; split at h<;>cases h
 | loop a=>obtain ⟨_,_,h⟩:=map_some h; cases h
 | rangeFunc g ps assign body=>simp only[au8] at h; split at h<;>first|(cases h; done)|(split at h<;>cases h)
 | _=>cases h
theorem fg8 {pf:List Nat}{an:Ann}{c:Code}{x:IC}(h:au8 P pf N an c=some (.loop x)):∃ a,c=.loop a∧au8 P pf N an a=some x:=by
 cases c with
 | loop a=>obtain ⟨_,h1,h⟩:=map_some h; cases h; exact ⟨a,rfl,h1⟩
 | region id ops draw=>simp only[au8] at h; split at h<;>first|(cases h; done)|(split at h<;>first|(cases h; done)|(split at h<;>cases h))
 | seq a b=>simp only[au8] at h; split at h<;>cases h
 | cond c a b=>simp only[au8] at h; split at h<;>cases h
 | block id a=>obtain ⟨_,_,h⟩:=map_some h; cases h
 | scope a=>obtain ⟨_,_,h⟩:=map_some h; cases h
 | rangeFunc g ps assign body=>simp only[au8] at h; split at h<;>first|(cases h; done)|(split at h<;>cases h)
 | _=>cases h
theorem cz8 {i:Nat}{x:IC}{Q:Exit→Frm→Store→Prop}(h:RI P E N n0 x fr σ (bi6 i Q)):RI P E N n0 (.block i x) fr σ Q:=by
 intro pf an c hc
 obtain ⟨a,rfl,hx⟩:=er2 hc
 exact fb4 (h pf an a hx)
theorem fw1 {x:IC}{Q:Exit→Frm→Store→Prop}(I:Nat→Frm→Store→Prop)(m:Nat)(h:I m fr σ)(hI:∀ m fr σ,I m fr σ→RI P E N n0 x fr σ (dp9 I m Q)):RI P E N n0 (.loop x) fr σ Q:=by
 intro pf an c hc
 obtain ⟨a,rfl,hx⟩:=fg8 hc
 exact gf8 I m h fun m fr σ hi=>hI m fr σ hi pf an a hx
end Go.Id
/- Tables of compiled functions. Conditions: none; over any program. -/
namespace Go.Id
open Go
variable {P:Program} {E:Nat→IV} {σ σ':Store}
inductive BT (V:Type) where
 | e
 | n (k:Nat) (v:V) (l r:BT V)
def BT.get {V:Type}:BT V→Nat→Option V
 | .e,_=>none
 | .n k v l r,i=>bif Nat.beq i k then some v else bif Nat.ble i k then l.get i else r.get i
abbrev FE:=Nat×IC×List IR
def FOK (P:Program)(f:Nat)(e:FE):Prop:=okF P f=true∧∃ pf an,fv5 P f e.1 pf an e.2.1 e.2.2
theorem FOK.mk {f N:Nat}{pf:List Nat}{an:Ann}{ic:IC}{rs:List IR}(h:okF P f=true)(hf:fv5 P f N pf an ic rs):FOK P f (N,ic,rs):=⟨h,pf,an,hf⟩
/-! ### Codes,written closely -/
instance instIX (n:Nat):OfNat IX n:=⟨.t n⟩
def oQ (d:Nat)(q:IQ):IOper:=⟨some d,none,.q q⟩
def oM (d:Nat)(x:IX):IOper:=⟨some d,none,.q (.mov x)⟩
def oK (d:Nat)(k:IK):IOper:=⟨some d,none,k⟩
def gQ (d s:Nat)(w:Bool)(q:IQ):IOper:=⟨some d,some (s,w),.q q⟩
def gK (d s:Nat)(w:Bool)(k:IK):IOper:=⟨some d,some (s,w),k⟩
def oN (k:IK):IOper:=⟨none,none,k⟩
def cI (n:Int):IX:=.c (.int .i64 n)
def cB (b:Bool):IX:=.c (.bool b)
def zI (n:Int):IV:=.int .i64 n
def zU (n:Int):IV:=.int .u8 n
def ch1:IC→Ann
 | .reg id _ keep=>[(id,keep)]
 | .dreg id _ _ keep=>[(id,keep)]
 | .oreg id _ keep=>[(id,keep)]
 | .seq a b=>ch1 a++ch1 b
 | .cond _ a b=>ch1 a++ch1 b
 | .block _ a=>ch1 a
 | .loop a=>ch1 a
 | .rfunc _ _ a b=>ch1 a++ch1 b
 | .scope a=>ch1 a
 | _=>[]
theorem fokA (pf:List Nat){f N:Nat}{fn:Func}{ic:IC}{rs:List IR}(h:P.funcs[f]? = some fn)(ho:okF P f=true:=by kernel_rfl)(hN:fn.ntmps=N:=by kernel_rfl)(hc:fn.body.bind (au8 P pf N (ch1 ic))=some ic:=by kernel_rfl)(hr:ej3 P fn.results.toList=some rs:=by kernel_rfl):FOK P f (N,ic,rs):=
 .mk (pf:=pf) (an:=ch1 ic) ho (ab3 h hN hc hr)
end Go.Id
