/- Walks that split where a guard is not known. Conditions: none; over any program. -/
import Derived.Test.YteomphdgniepbaaGreatDoorFwYa
set_option linter.all false
namespace Go.Id
open Go
variable {P:Program} {E:Nat→IV} {σ:Store} {N n0 id:Nat} {fr:Frm} {pt:PT} {ct:CT} {Q:Exit→Frm→Store→Prop} {K:IV→Store→Prop}
theorem bh9 {P:IV→Prop}{a:IV}(h:P a):∀ v∈[a],P v:=by simpa using h
theorem al2 {P:IV→Prop}{a b:IV}(h:P a)(h2:P b):∀ v∈[a,b],P v:=by simpa using ⟨h,h2⟩
theorem bc6 {P:IV→Prop}{a b c:IV}(h:P a)(h2:P b)(h3:P c):∀ v∈[a,b,c],P v:=by simpa using ⟨h,h2,h3⟩
theorem ha5 {P:IV→Prop}{a b c d:IV}(h:P a)(h2:P b)(h3:P c)(h4:P d):∀ v∈[a,b,c,d],P v:=by simpa using ⟨h,h2,h3,h4⟩
theorem is1 {P:IV→Prop}{a b c d e:IV}(h:P a)(h2:P b)(h3:P c)(h4:P d)(h5:P e):∀ v∈[a,b,c,d,e],P v:=by simpa using ⟨h,h2,h3,h4,h5⟩
theorem is3 {P:IV→Prop}{a b c d e f:IV}(h:P a)(h2:P b)(h3:P c)(h4:P d)(h5:P e)(h6:P f):∀ v∈[a,b,c,d,e,f],P v:=by simpa using ⟨h,h2,h3,h4,h5,h6⟩
theorem is4 {ag:Option Nat}{x:IX}:evq E fr σ (.ldt ag x)=hq7 ag (x.ev E fr):=nr rfl
theorem ie2 {cs:List IV}:hq7 none (.ac2 cs)=cs.head?:=nr rfl
theorem ie3 {n:Nat}{cs:List IV}:hq7 (some n) (.ac2 cs)=if n≤cs.length then some (.agg (cs.take n)) else none:=nr rfl
attribute [go_sem] is4 ie2 ie3
end Go.Id
