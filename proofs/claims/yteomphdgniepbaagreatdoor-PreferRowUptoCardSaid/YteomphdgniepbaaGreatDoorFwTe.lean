/- The interpreter,turned so that the kernel runs it in fewer steps; it is the same function. Conditions: none; over any program. -/
import Derived.Test.YteomphdgniepbaaGreatDoorFwZ
import Derived.Test.YteomphdgniepbaaGreatDoorFwQ
set_option linter.all false
namespace Go.Id
open Go
noncomputable section
variable {E:Nat→IV} {fr:Frm}
end
end Go.Id
/- Codes,part by part; blocks let go at a call. Conditions: none; over any program. -/
namespace Go.Id
open Go
variable {P:Program} {E:Nat→IV} {σ σ':Store} {N n0:Nat} {fr:Frm}
def gf6 (P:Program)(E:Nat→IV)(N n0:Nat)(b:IC)(Q:Exit→Frm→Store→Prop):Exit→Frm→Store→Prop
 | .normal,fr,σ=>RI P E N n0 b fr σ Q
 | e,fr,σ=>Q e fr σ
theorem ir2 {b:IC}{Q:Exit→Frm→Store→Prop}:gf6 P E N n0 b Q .normal fr σ=RI P E N n0 b fr σ Q:=nr rfl
theorem ir3 {b:IC}{Q:Exit→Frm→Store→Prop}:gf6 P E N n0 b Q .ret fr σ=Q .ret fr σ:=nr rfl
theorem ir4 {b:IC}{i:Nat}{Q:Exit→Frm→Store→Prop}:gf6 P E N n0 b Q (.exit i) fr σ=Q (.exit i) fr σ:=nr rfl
attribute [go_sem] ir2 ir3 ir4
theorem ad9 {x:IC}{Q:Exit→Frm→Store→Prop}(h:wpT noP noC P E N n0 x fr σ Q):RI P E N n0 x fr σ Q:=bg9 x fr σ Q (bb9 noT x fr σ Q h)
theorem ac6 {a b:IC}{Q:Exit→Frm→Store→Prop}(h:RI P E N n0 a fr σ (gf6 P E N n0 b Q)):RI P E N n0 (.seq a b) fr σ Q:=by
 intro pf an c hc
 cases c with
 | seq x y=>
  simp only[ba8] at hc;split at hc
  ·rename_i xa xb hx hy;cases hc;refine hu7 ((h pf an x hx).mono ?_);intro e f s q
   cases e with
   | normal=>exact q pf an y hy
   | _=>exact q
  ·cases hc
 | region id ops draw=>
  exfalso;simp only[ba8] at hc;split at hc
  ·cases hc
  ·split at hc<;>first|(cases hc; done)|(split at hc<;>cases hc)
  ·cases hc
 | cond c a b=>simp only[ba8] at hc; split at hc<;>cases hc
 | block id a=>obtain ⟨_,_,h⟩:=map_some hc; cases h
 | scope a=>obtain ⟨_,_,h⟩:=map_some hc; cases h
 | loop a=>obtain ⟨_,_,h⟩:=map_some hc; cases h
 | rangeFunc g ps a b=>
  simp only[ba8] at hc;split at hc
  ·split at hc<;>cases hc
  ·cases hc
 | _=>cases hc
theorem gz3 {f:Nat}{ic:IC}{irs:List IR}{args:List IV}{Qc:IV→Store→Prop}(hf:FOK P f (N,ic,irs))(hl:args.length≤N)
  (h:RI P E N σ.next ic (be1 args 0) σ (fp3 irs Qc)):C P E f args σ Qc:=by
 obtain ⟨_,pf,an,fn,h1,h2,h3,h4⟩:=hf
 cases hb:fn.body with
 | none=>rw[hb] at h3; cases h3
 | some c=>
  rw[hb] at h3;refine ic6 h1 hb h2 hl ((h pf an c h3).mono ?_);intro e fr' σ' q;have q:=cw3 q;cases e<;>first|(obtain ⟨vs,q1,q2⟩:=q; exact ⟨vs,by rw[gr6 _ _ h4]; exact q1,q2⟩)|exact q
theorem ir5 {f:Nat}{ic:IC}{irs:List IR}{args:List IV}{v:IV}(hE:∀ g,Bnd 0 (E g))(hf:FOK P f (N,ic,irs))(hl:args.length≤N)(ha:∀ a∈args,Bnd 0 a)
  (h:RI P E N 0 ic (be1 args 0) emp (fp3 irs fun v' σ'=>co8 σ' 0 v' v)):PC P E f args v :=
 ei9 hE ha (gz3 (σ:=emp) hf hl h)
theorem es9 {S:Nat→Bool}:(σ.kills S).next=σ.next:=nr rfl
theorem fp1 {S:Nat→Bool}{i:Nat}:(σ.kills S).obj i=if S i=true then σ.obj i else none:=nr rfl
attribute [go_sem] es9 fp1
theorem ea1 {f:Nat}{args args':List IV}{v:IV}(hl:args'.length=args.length)(ha:∀ σ i,i<args.length→Frz σ (fun _=>true=true) (args.getD i .undef) (args'.getD i .undef))(h:PC P E f args' v):PC P E f args v:=fun σ=>
 ej1 (S:=fun _=>true) hl (ha σ) (h σ)
end Go.Id
namespace Go.Id
open Go
variable {P:Program} {E:Nat→IV} {σ σ':Store} {N n0:Nat} {fr:Frm}
end Go.Id
