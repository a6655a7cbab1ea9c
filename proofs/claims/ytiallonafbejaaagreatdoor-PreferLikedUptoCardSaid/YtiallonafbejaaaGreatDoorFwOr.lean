/- Regions taken in whatever order,walked: no operation reads what another one writes. Conditions: none; over any program. -/
import Derived.Test.YtiallonafbejaaaGreatDoorFwTe
set_option linter.all false
namespace Go.Id
open Go
variable {P:Program} {E:Nat→IV} {σ σ':Store} {N n0:Nat} {fr:Frm}
def cz6 (P:Program)(E:Nat→IV)(base:Nat):List YO→Frm→Store→(Frm→Store→Prop)→Prop
 | [],fr,σ,K=>K fr σ
 | (i,o,m)::rest,fr,σ,K=>(m=0∧o.guard=none)∧opT noP noC P E o.op (base+i) fr σ fun v σ'=>cz6 P E base rest (fr.setd o.dst v) σ' K
def gm3 (P:Program)(E:Nat→IV)(base:Nat)(rest:List YO)(d:Option Nat)(fr:Frm)(K:Frm→Store→Prop):IV→Store→Prop:=fun v σ'=>cz6 P E base rest (fr.setd d v) σ' K
theorem dr1 {base:Nat}{K:Frm→Store→Prop}:∀ (ops:List YO) (L:List LE) (fr:Frm) (σ:Store),cz6 P E base ops fr σ K→ao2 P E (gg5 base ops) L fr σ K:=by
 intro ops
 induction ops with
 | nil=>intro L fr σ h; exact h
 | cons o os ih=>
  obtain ⟨i,⟨d,g,op⟩,m⟩:=o
  rintro L fr σ ⟨⟨hm,hg⟩,h⟩
  simp only at hm hg h
  subst hm
  subst hg
  refine .inl ⟨rfl,ag6 (fun v s k=>⟨bb2,ih _ _ _ k⟩) (bb5 noT h)⟩
theorem dy9 {id:Nat}{ops:List YO}{keep:List Nat}{Q:Exit→Frm→Store→Prop}(h:cz6 P E σ.next ops fr ⟨σ.next+ops.length,σ.obj⟩ (fx3 keep Q)):RI P E N n0 (.oreg id ops keep) fr σ Q :=
 af3 (show wpT noP noC P E N n0 (.oreg id ops keep) fr σ Q from dr1 ops [] fr _ h)
variable {base i:Nat} {Kf:Frm→Store→Prop} {d:Option Nat} {rest:List YO}
theorem ii1:cz6 P E base [] fr σ Kf=Kf fr σ:=nr rfl
theorem ii2 {op:IK}:cz6 P E base ((i,⟨d,none,op⟩,0)::rest) fr σ Kf=opT noP noC P E op (base+i) fr σ (gm3 P E base rest d fr Kf):=by
 simp[cz6]; rfl
theorem ii3 {d:Nat}(v:IV):gm3 P E base rest (some d) fr Kf v σ=cz6 P E base rest ((d,v)::fr) σ Kf:=nr rfl
theorem hy7 (v:IV):gm3 P E base rest none fr Kf v σ=cz6 P E base rest fr σ Kf:=nr rfl
theorem hy8:List.length ([]:List YO)=0:=nr rfl
theorem hy9 {y:YO}:List.length (y::rest)=rest.length+1:=nr rfl
attribute [go_sem] ii1 ii2 ii3 hy7 hy8 hy9
/-! ### Rows of rows,one cell written -/
theorem ff2 {a t vs:List IV}{k:Nat}(h:k+vs.length≤a.length):ag9 (a++t) k vs=ag9 a k vs++t:=by
 unfold ag9
 rw[List.take_append_of_le_length (by omega),List.drop_append_of_le_length h]
 simp
theorem ej1 {a t vs:List IV}{k:Nat}:ag9 (a++t) (a.length+k) vs=a++ag9 t k vs:=by
 unfold ag9
 rw[List.take_append,List.take_of_length_le (by omega),List.drop_append,List.drop_of_length_le (by omega)]
 have e1:a.length+k-a.length=k:=by omega
 have e2:a.length+k+vs.length-a.length=k+vs.length:=by omega
 rw[e1,e2]; simp
theorem bn5 {n k:Nat}{v:IV}:∀ {L:List (List IV)} {i:Nat},(∀ e∈L,e.length=n)→i<L.length→k<n→ag9 L.flatten (i*n+k) [v]=(L.set i (ag9 (L.getD i []) k [v])).flatten:=by
 intro L
 induction L with
 | nil=>intro i _ hi; exact absurd hi (Nat.not_lt_zero _)
 | cons e es ih=>
  intro i hl hi hk
  have he:=hl e List.mem_cons_self
  cases i with
  | zero=>
   rw[List.flatten_cons,Nat.zero_mul,Nat.zero_add,ff2 (by simp; omega)]
   rfl
  | succ i=>
   have e1:(i+1)*n+k=e.length+(i*n+k):=by rw[he,Nat.add_mul]; omega
   rw[List.flatten_cons,e1,ej1,ih (fun x hx=>hl x (List.mem_cons_of_mem _ hx)) (by simpa using hi) hk]
   rfl
end Go.Id
