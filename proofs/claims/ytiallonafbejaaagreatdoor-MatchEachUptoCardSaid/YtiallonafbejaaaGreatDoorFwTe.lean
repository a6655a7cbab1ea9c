/- Codes, part by part; blocks let go at a call. Conditions: none; over any program. -/
import Derived.Test.YtiallonafbejaaaGreatDoorFwZ
import Derived.Test.YtiallonafbejaaaGreatDoorFwKa
set_option linter.all false
namespace Go.Id
open Go
variable {P : Program} {E : Nat → IV} {σ σ' : Store} {N n0 : Nat} {fr : Frm}
def thenR (P : Program) (E : Nat → IV) (N n0 : Nat) (b : IC) (Q : Exit → Frm → Store → Prop) : Exit → Frm → Store → Prop
 | .normal, fr, σ => RI P E N n0 b fr σ Q
 | e, fr, σ => Q e fr σ
theorem w_thn {b : IC} {Q : Exit → Frm → Store → Prop} : thenR P E N n0 b Q .normal fr σ = RI P E N n0 b fr σ Q := nr rfl
theorem w_thr {b : IC} {Q : Exit → Frm → Store → Prop} : thenR P E N n0 b Q .ret fr σ = Q .ret fr σ := nr rfl
theorem w_the {b : IC} {i : Nat} {Q : Exit → Frm → Store → Prop} : thenR P E N n0 b Q (.exit i) fr σ = Q (.exit i) fr σ := nr rfl
attribute [go_sem] w_thn w_thr w_the
theorem kills_next {S : Nat → Bool} : (σ.kills S).next = σ.next := nr rfl
theorem kills_obj {S : Nat → Bool} {i : Nat} : (σ.kills S).obj i = if S i = true then σ.obj i else none := nr rfl
attribute [go_sem] kills_next kills_obj
theorem PC_weak {f : Nat} {args args' : List IV} {v : IV} (hl : args'.length = args.length) (ha : ∀ σ i, i < args.length → Frz σ (fun _ => true = true) (args.getD i .undef) (args'.getD i .undef)) (h : PC P E f args' v) : PC P E f args v := fun σ =>
 C_kill (S := fun _ => true) hl (ha σ) (h σ)
end Go.Id
namespace Go.Id
open Go
variable {P : Program} {E : Nat → IV} {σ σ' : Store} {N n0 : Nat} {fr : Frm}
end Go.Id
