/- Regions taken in whatever order,walked: no operation reads what another one writes. Conditions: none; over any program. -/
import Derived.Test.YteomphdgniepbaaGreatDoorFwTe
set_option linter.all false
namespace Go.Id
open Go
variable {P:Program} {E:Nat→IV} {σ σ':Store} {N n0:Nat} {fr:Frm}
def fn3 (P:Program)(E:Nat→IV)(base:Nat):List YO→Frm→Store→(Frm→Store→Prop)→Prop
 | [],fr,σ,K=>K fr σ
 | (i,o,m)::rest,fr,σ,K=>(m=0∧o.guard=none)∧opT noP noC P E o.op (base+i) fr σ fun v σ'=>fn3 P E base rest (fr.ak9 o.dst v) σ' K
def hx8 (P:Program)(E:Nat→IV)(base:Nat)(rest:List YO)(d:Option Nat)(fr:Frm)(K:Frm→Store→Prop):IV→Store→Prop:=fun v σ'=>fn3 P E base rest (fr.ak9 d v) σ' K
variable {base i:Nat} {Kf:Frm→Store→Prop} {d:Option Nat} {rest:List YO}
theorem iv9:fn3 P E base [] fr σ Kf=Kf fr σ:=nr rfl
theorem iw1 {d:Nat}(v:IV):hx8 P E base rest (some d) fr Kf v σ=fn3 P E base rest ((d,v)::fr) σ Kf:=nr rfl
theorem im8 (v:IV):hx8 P E base rest none fr Kf v σ=fn3 P E base rest fr σ Kf:=nr rfl
theorem im9:List.length ([]:List YO)=0:=nr rfl
theorem in1 {y:YO}:List.length (y::rest)=rest.length+1:=nr rfl
attribute [go_sem] iv9  iw1 im8 im9 in1
/-! ### Rows of rows,one cell written -/
end Go.Id
