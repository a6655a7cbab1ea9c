/- Codes that are printed closely,walked. Conditions: none; over any program. -/
import Derived.Test.YtiallonafbejaaaGreatDoorFwY
import Derived.Test.YtiallonafbejaaaGreatDoorT6
set_option linter.all false
namespace Go.Id
open Go
theorem ii3 {d:Nat}{q:IQ}:oQ d q=⟨some d,none,.q q⟩:=nr rfl
theorem ii4 {d:Nat}{x:IX}:oM d x=⟨some d,none,.q (.mov x)⟩:=nr rfl
theorem ii5 {d:Nat}{k:IK}:oK d k=⟨some d,none,k⟩:=nr rfl
theorem ii6 {d s:Nat}{w:Bool}{q:IQ}:gQ d s w q=⟨some d,some (s,w),.q q⟩:=nr rfl
theorem ii7 {d s:Nat}{w:Bool}{k:IK}:gK d s w k=⟨some d,some (s,w),k⟩:=nr rfl
theorem ii8 {k:IK}:oN k=⟨none,none,k⟩:=nr rfl
theorem ii9 {n:Int}:cI n=.c (.int .i64 n):=nr rfl
theorem ij1 {b:Bool}:cB b=.c (.bool b):=nr rfl
theorem ij2 {n:Int}:zI n=.int .i64 n:=nr rfl
theorem ij3 {n:Int}:zU n=.int .u8 n:=nr rfl
attribute [go_sem] ii3 ii4 ii5 ii6 ii7 ii8 ii9 ij1 ij2 ij3
attribute [go_sem] decide_true decide_false reduceCtorEq Int.reduceLT Int.reduceLE Int.reduceToNat Int.reduceAdd Nat.reduceEqDiff Nat.reduceAdd Nat.reduceMul Nat.reduceLT Nat.reduceLeDiff
attribute [go_sem ↓] reduceIte
end Go.Id
