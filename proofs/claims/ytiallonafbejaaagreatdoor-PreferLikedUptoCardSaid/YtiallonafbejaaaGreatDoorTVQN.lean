/- The library's sort,as this program has it. Conditions: none. -/
import Derived.Test.YtiallonafbejaaaGreatDoorTVPB
import Derived.Test.YtiallonafbejaaaGreatDoorFwSo
import Derived.Test.YtiallonafbejaaaGreatDoorTVQL
set_option linter.all false
namespace Go.Id.Tryz
open Go Go.Id Go.Proofs Go.Shelf
set_option maxRecDepth 100000
end Go.Id.Tryz
/- Whom a package obsoletes: rows gathered,sorted,what stands twice taken out. Conditions: sizes that fit. -/
namespace Go.Id.Tryz
open Go Go.Id Go.Proofs Go.Shelf Go.Id.Md
set_option maxRecDepth 100000
end Go.Id.Tryz
/- Whom a package obsoletes: the function walked. Conditions: sizes that fit. -/
namespace Go.Id
open Go Go.Id
theorem ed6 {P:Program}{E:Nat→IV}{N n0:Nat}{fr:Frm}{σ:Store}{x:IC}{Q:Exit→Frm→Store→Prop}(I:Nat→Frm→Store→Prop)(n:Nat)(h:I 0 fr σ)
  (hI:∀ i fr σ,i≤n→I i fr σ→RI P E N n0 x fr σ (upQ I i n Q)):RI P E N n0 (.loop x) fr σ Q:=by
 refine fx5 (fun m fr σ=>∃ i,i≤n∧m=n-i∧I i fr σ) n ⟨0,Nat.zero_le _,rfl,h⟩ ?_
 rintro m fr σ ⟨i,hi,rfl,hi0⟩
 refine dq4 (hI i fr σ hi hi0) ?_
 intro e f s q
 cases e with
 | normal=>exact ⟨n-(i+1),by have:=q.1; omega,i+1,q.1,rfl,q.2⟩
 | _=>exact q
end Go.Id
namespace Go.Id.Tryz
open Go Go.Id Go.Proofs Go.Shelf Go.Id.Md
set_option maxRecDepth 100000
end Go.Id.Tryz
