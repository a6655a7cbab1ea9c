/- Codes that are printed closely,walked. Conditions: none; over any program. -/
import Derived.Test.YtiallonafbejaaaGreatDoorFwW
import Derived.Test.YtiallonafbejaaaGreatDoorFwZ
set_option linter.all false
namespace Go.Id
open Go
theorem e_oQ {d : Nat} {q : IQ} : oQ d q=⟨some d,none,.q q⟩:=nr rfl
theorem e_oM {d : Nat} {x : IX} : oM d x=⟨some d,none,.q (.mov x)⟩:=nr rfl
theorem e_oK {d : Nat} {k : IK} : oK d k=⟨some d,none,k⟩:=nr rfl
theorem e_gQ {d s : Nat} {w : Bool} {q : IQ} : gQ d s w q=⟨some d,some (s,w),.q q⟩:=nr rfl
theorem e_gK {d s : Nat} {w : Bool} {k : IK} : gK d s w k=⟨some d,some (s,w),k⟩:=nr rfl
theorem e_oN {k : IK} : oN k=⟨none,none,k⟩:=nr rfl
theorem e_cI {n : Int} : cI n=.c (.int .i64 n):=nr rfl
theorem e_cB {b : Bool} : cB b=.c (.bool b):=nr rfl
theorem e_zI {n : Int} : zI n=.int .i64 n:=nr rfl
theorem e_zU {n : Int} : zU n=.int .u8 n:=nr rfl
attribute [go_sem] e_oQ e_oM e_oK e_gQ e_gK e_oN e_cI e_cB e_zI e_zU
attribute [go_sem] decide_true decide_false reduceCtorEq Int.reduceLT Int.reduceLE Int.reduceToNat Int.reduceAdd Nat.reduceEqDiff Nat.reduceAdd Nat.reduceMul Nat.reduceLT Nat.reduceLeDiff
attribute [go_sem ↓] reduceIte
end Go.Id
