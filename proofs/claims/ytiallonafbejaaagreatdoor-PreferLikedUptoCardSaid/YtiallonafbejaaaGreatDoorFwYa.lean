/- Codes that are printed closely,walked. Conditions: none; over any program. -/
import Derived.Test.YtiallonafbejaaaGreatDoorFwZ
import Derived.Test.YtiallonafbejaaaGreatDoorT6
set_option linter.all false
namespace Go.Id
open Go
theorem il3 {d:Nat}{q:IQ}:oQ d q=⟨some d,none,.q q⟩:=nr rfl
theorem il4 {d:Nat}{x:IX}:oM d x=⟨some d,none,.q (.mov x)⟩:=nr rfl
theorem il5 {d:Nat}{k:IK}:oK d k=⟨some d,none,k⟩:=nr rfl
theorem il6 {d s:Nat}{w:Bool}{q:IQ}:gQ d s w q=⟨some d,some (s,w),.q q⟩:=nr rfl
theorem il7 {d s:Nat}{w:Bool}{k:IK}:gK d s w k=⟨some d,some (s,w),k⟩:=nr rfl
theorem il8 {k:IK}:oN k=⟨none,none,k⟩:=nr rfl
theorem il9 {n:Int}:cI n=.c (.int .i64 n):=nr rfl
theorem im1 {b:Bool}:cB b=.c (.bool b):=nr rfl
theorem im2 {n:Int}:zI n=.int .i64 n:=nr rfl
theorem im3 {n:Int}:zU n=.int .u8 n:=nr rfl
attribute [go_sem] il3 il4 il5 il6 il7 il8 il9 im1 im2 im3
attribute [go_sem] decide_true decide_false reduceCtorEq Int.reduceLT Int.reduceLE Int.reduceToNat Int.reduceAdd Nat.reduceEqDiff Nat.reduceAdd Nat.reduceMul Nat.reduceLT Nat.reduceLeDiff
attribute [go_sem ↓] reduceIte
end Go.Id
