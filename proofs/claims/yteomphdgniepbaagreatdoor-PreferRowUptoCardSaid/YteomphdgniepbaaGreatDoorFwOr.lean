/- Regions taken in whatever order,walked: no operation reads what another one writes. Conditions: none; over any program. -/
import Derived.Test.YteomphdgniepbaaGreatDoorFwTe
set_option linter.all false
namespace Go.Id
open Go
variable {P:Program} {E:Nat→IV} {σ σ':Store} {N n0:Nat} {fr:Frm}
def fn4 (P:Program)(E:Nat→IV)(base:Nat):List YO→Frm→Store→(Frm→Store→Prop)→Prop
 | [],fr,σ,K=>K fr σ
 | (i,o,m)::rest,fr,σ,K=>(m=0∧o.guard=none)∧opT noP noC P E o.op (base+i) fr σ fun v σ'=>fn4 P E base rest (fr.al1 o.dst v) σ' K
def hy6 (P:Program)(E:Nat→IV)(base:Nat)(rest:List YO)(d:Option Nat)(fr:Frm)(K:Frm→Store→Prop):IV→Store→Prop:=fun v σ'=>fn4 P E base rest (fr.al1 d v) σ' K
variable {base i:Nat} {Kf:Frm→Store→Prop} {d:Option Nat} {rest:List YO}
theorem iw4:fn4 P E base [] fr σ Kf=Kf fr σ:=nr rfl
theorem iw5 {d:Nat}(v:IV):hy6 P E base rest (some d) fr Kf v σ=fn4 P E base rest ((d,v)::fr) σ Kf:=nr rfl
theorem in4 (v:IV):hy6 P E base rest none fr Kf v σ=fn4 P E base rest fr σ Kf:=nr rfl
theorem in5:List.length ([]:List YO)=0:=nr rfl
theorem in6 {y:YO}:List.length (y::rest)=rest.length+1:=nr rfl
attribute [go_sem] iw4  iw5 in4 in5 in6
/-! ### Rows of rows,one cell written -/
end Go.Id
