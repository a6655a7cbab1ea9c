/- Walks that split where a guard is not known. Conditions: none; over any program. -/
import Derived.Test.YtiallonafbejaaaGreatDoorFwYa
set_option linter.all false
namespace Go.Id
open Go
variable {P : Program} {E : Nat→IV} {σ : Store} {N n0 id : Nat} {fr : Frm} {pt : PT} {ct : CT} {Q : Exit→Frm→Store→Prop} {K : IV→Store→Prop}
theorem mems1 {P : IV→Prop} {a : IV} (h : P a) : ∀ v∈[a],P v:=by simpa using h
theorem mems2 {P : IV→Prop} {a b : IV} (h : P a) (h2 : P b) : ∀ v∈[a,b],P v:=by simpa using ⟨h,h2⟩
theorem mems3 {P : IV→Prop} {a b c : IV} (h : P a) (h2 : P b) (h3 : P c) : ∀ v∈[a,b,c],P v:=by simpa using ⟨h,h2,h3⟩
theorem mems4 {P : IV→Prop} {a b c d : IV} (h : P a) (h2 : P b) (h3 : P c) (h4 : P d) : ∀ v∈[a,b,c,d],P v:=by simpa using ⟨h,h2,h3,h4⟩
theorem mems5 {P : IV→Prop} {a b c d e : IV} (h : P a) (h2 : P b) (h3 : P c) (h4 : P d) (h5 : P e) : ∀ v∈[a,b,c,d,e],P v:=by simpa using ⟨h,h2,h3,h4,h5⟩
theorem mems6 {P : IV→Prop} {a b c d e f : IV} (h : P a) (h2 : P b) (h3 : P c) (h4 : P d) (h5 : P e) (h6 : P f) : ∀ v∈[a,b,c,d,e,f],P v:=by simpa using ⟨h,h2,h3,h4,h5,h6⟩
theorem e_ldt {ag : Option Nat} {x : IX} : evq E fr σ (.ldt ag x)=ldtI ag (x.ev E fr):=nr rfl
theorem e_ldt0 {cs : List IV} : ldtI none (.tptr cs)=cs.head?:=nr rfl
theorem e_ldtA {n : Nat} {cs : List IV} : ldtI (some n) (.tptr cs)=if n≤cs.length then some (.agg (cs.take n)) else none:=nr rfl
attribute [go_sem] e_ldt e_ldt0 e_ldtA
end Go.Id
