/- Walks that split where a guard is not known. Conditions: none; over any program. -/
import Derived.Test.YteomphdgniepbaaGreatDoorFwYa
set_option linter.all false
namespace Go.Id
open Go
variable {P:Program} {E:Nat→IV} {σ:Store} {N n0 id:Nat} {fr:Frm} {pt:PT} {ct:CT} {Q:Exit→Frm→Store→Prop} {K:IV→Store→Prop}
theorem bh8 {P:IV→Prop}{a:IV}(h:P a):∀ v∈[a],P v:=by simpa using h
theorem al2 {P:IV→Prop}{a b:IV}(h:P a)(h2:P b):∀ v∈[a,b],P v:=by simpa using ⟨h,h2⟩
theorem bc5 {P:IV→Prop}{a b c:IV}(h:P a)(h2:P b)(h3:P c):∀ v∈[a,b,c],P v:=by simpa using ⟨h,h2,h3⟩
theorem gz7 {P:IV→Prop}{a b c d:IV}(h:P a)(h2:P b)(h3:P c)(h4:P d):∀ v∈[a,b,c,d],P v:=by simpa using ⟨h,h2,h3,h4⟩
theorem ir5 {P:IV→Prop}{a b c d e:IV}(h:P a)(h2:P b)(h3:P c)(h4:P d)(h5:P e):∀ v∈[a,b,c,d,e],P v:=by simpa using ⟨h,h2,h3,h4,h5⟩
theorem ir6 {P:IV→Prop}{a b c d e f:IV}(h:P a)(h2:P b)(h3:P c)(h4:P d)(h5:P e)(h6:P f):∀ v∈[a,b,c,d,e,f],P v:=by simpa using ⟨h,h2,h3,h4,h5,h6⟩
theorem ir7 {ag:Option Nat}{x:IX}:evq E fr σ (.ldt ag x)=hp9 ag (x.ev E fr):=nr rfl
theorem id8 {cs:List IV}:hp9 none (.ac2 cs)=cs.head?:=nr rfl
theorem id9 {n:Nat}{cs:List IV}:hp9 (some n) (.ac2 cs)=if n≤cs.length then some (.agg (cs.take n)) else none:=nr rfl
attribute [go_sem] ir7 id8 id9
end Go.Id
