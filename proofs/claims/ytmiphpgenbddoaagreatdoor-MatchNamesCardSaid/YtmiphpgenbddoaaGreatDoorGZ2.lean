/- The compiled codes of functions, written by a program out of the given form. Conditions: none. -/
import Derived.Test.YtmiphpgenbddoaaGreatDoorFwW
import Derived.Test.YtmiphpgenbddoaaGreatDoorProg
set_option linter.all false
namespace Go.Id.Tryz
open Go Go.Id Go.Proofs
def allF2 : List Nat := List.range 242
/-- slices.siftDownOrdered[int] -/
def ic165 : IC :=
(.seq
 (.reg 0 [⟨(some 10), none, (.q (.mov (.t 1)))⟩, ⟨(some 8), none, (.q (.mov (.t 10)))⟩] [0, 2, 3, 8])
 (.block 0
  (.loop
   (.block 1
    (.seq
     (.reg 1 [⟨(some 11), none, (.q (.mov (.t 8)))⟩, ⟨(some 12), none, (.q (.bin .mul (.c (.int .i64 2)) (.t 11)))⟩, ⟨(some 13), none, (.q (.bin .add (.t 12) (.c (.int .i64 1))))⟩, ⟨(some 9), none, (.q (.mov (.t 13)))⟩] [0, 2, 3, 8, 9])
     (.seq
      (.seq
       (.reg 2 [⟨(some 14), none, (.q (.mov (.t 9)))⟩, ⟨(some 15), none, (.q (.mov (.t 2)))⟩, ⟨(some 16), none, (.q (.bin .geq (.t 14) (.t 15)))⟩] [0, 2, 3, 8, 9, 16])
       (.cond (.t 16)
        (.exit 0)
        .skip))
      (.seq
       (.seq
        (.dreg 3 [⟨(some 17), none, (.q (.mov (.t 9)))⟩, ⟨(some 18), none, (.q (.bin .add (.t 17) (.c (.int .i64 1))))⟩, ⟨(some 19), none, (.q (.mov (.t 2)))⟩, ⟨(some 20), none, (.q (.bin .lss (.t 18) (.t 19)))⟩, ⟨(some 21), none, (.q (.mov (.t 20)))⟩, ⟨(some 22), (some ⟨21, true⟩), (.q (.mov (.t 0)))⟩, ⟨(some 23), (some ⟨21, true⟩), (.q (.mov (.t 3)))⟩, ⟨(some 24), (some ⟨21, true⟩), (.q (.mov (.t 9)))⟩, ⟨(some 25), (some ⟨21, true⟩), (.q (.bin .add (.t 23) (.t 24)))⟩, ⟨(some 26), (some ⟨21, true⟩), (.q (.iaddr 1 (.t 22) (.t 25)))⟩, ⟨(some 27), (some ⟨21, true⟩), (.q (.load none (.t 26)))⟩, ⟨(some 28), (some ⟨21, true⟩), (.q (.mov (.t 0)))⟩, ⟨(some 29), (some ⟨21, true⟩), (.q (.mov (.t 3)))⟩, ⟨(some 30), (some ⟨21, true⟩), (.q (.mov (.t 9)))⟩, ⟨(some 31), (some ⟨21, true⟩), (.q (.bin .add (.t 29) (.t 30)))⟩, ⟨(some 32), (some ⟨21, true⟩), (.q (.bin .add (.t 31) (.c (.int .i64 1))))⟩, ⟨(some 33), (some ⟨21, true⟩), (.q (.iaddr 1 (.t 28) (.t 32)))⟩, ⟨(some 34), (some ⟨21, true⟩), (.q (.load none (.t 33)))⟩, ⟨(some 35), (some ⟨21, true⟩), (.call 127 [(.t 27), (.t 34)])⟩, ⟨(some 36), none, (.q (.pick (.t 21) (.t 35) (.c (.bool false))))⟩] false [0, 2, 3, 8, 9, 36])
        (.cond (.t 36)
         (.reg 4 [⟨(some 37), none, (.q (.mov (.t 9)))⟩, ⟨(some 38), none, (.q (.bin .add (.t 37) (.c (.int .i64 1))))⟩, ⟨(some 9), none, (.q (.mov (.t 38)))⟩] [0, 2, 3, 8, 9])
         .skip))
       (.seq
        (.seq
         (.dreg 5 [⟨(some 39), none, (.q (.mov (.t 0)))⟩, ⟨(some 40), none, (.q (.mov (.t 3)))⟩, ⟨(some 41), none, (.q (.mov (.t 8)))⟩, ⟨(some 42), none, (.q (.bin .add (.t 40) (.t 41)))⟩, ⟨(some 43), none, (.q (.iaddr 1 (.t 39) (.t 42)))⟩, ⟨(some 44), none, (.q (.load none (.t 43)))⟩, ⟨(some 45), none, (.q (.mov (.t 0)))⟩, ⟨(some 46), none, (.q (.mov (.t 3)))⟩, ⟨(some 47), none, (.q (.mov (.t 9)))⟩, ⟨(some 48), none, (.q (.bin .add (.t 46) (.t 47)))⟩, ⟨(some 49), none, (.q (.iaddr 1 (.t 45) (.t 48)))⟩, ⟨(some 50), none, (.q (.load none (.t 49)))⟩, ⟨(some 51), none, (.call 127 [(.t 44), (.t 50)])⟩, ⟨(some 52), none, (.q (.not (.t 51)))⟩] false [0, 2, 3, 8, 9, 52])
         (.cond (.t 52)
          .ret
          .skip))
        (.seq
         (.dreg 6 [⟨(some 53), none, (.q (.mov (.t 0)))⟩, ⟨(some 54), none, (.q (.mov (.t 3)))⟩, ⟨(some 55), none, (.q (.mov (.t 8)))⟩, ⟨(some 56), none, (.q (.bin .add (.t 54) (.t 55)))⟩, ⟨(some 57), none, (.q (.mov (.t 0)))⟩, ⟨(some 58), none, (.q (.mov (.t 3)))⟩, ⟨(some 59), none, (.q (.mov (.t 9)))⟩, ⟨(some 60), none, (.q (.bin .add (.t 58) (.t 59)))⟩, ⟨(some 61), none, (.q (.mov (.t 0)))⟩, ⟨(some 62), none, (.q (.mov (.t 3)))⟩, ⟨(some 63), none, (.q (.mov (.t 9)))⟩, ⟨(some 64), none, (.q (.bin .add (.t 62) (.t 63)))⟩, ⟨(some 65), none, (.q (.iaddr 1 (.t 61) (.t 64)))⟩, ⟨(some 66), none, (.q (.load none (.t 65)))⟩, ⟨(some 67), none, (.q (.mov (.t 0)))⟩, ⟨(some 68), none, (.q (.mov (.t 3)))⟩, ⟨(some 69), none, (.q (.mov (.t 8)))⟩, ⟨(some 70), none, (.q (.bin .add (.t 68) (.t 69)))⟩, ⟨(some 71), none, (.q (.iaddr 1 (.t 67) (.t 70)))⟩, ⟨(some 72), none, (.q (.load none (.t 71)))⟩, ⟨(some 73), none, (.q (.iaddr 1 (.t 53) (.t 56)))⟩, ⟨none, none, (.store 1 (.t 73) (.t 66))⟩, ⟨(some 74), none, (.q (.iaddr 1 (.t 57) (.t 60)))⟩, ⟨none, none, (.store 1 (.t 74) (.t 72))⟩] false [0, 2, 3, 9])
         (.reg 7 [⟨(some 75), none, (.q (.mov (.t 9)))⟩, ⟨(some 8), none, (.q (.mov (.t 75)))⟩] [0, 2, 3, 8]))))))))))
theorem fok165 : FOK Tryz.prog 165 (76, ic165, []) := .mk (pf := []) (an := [(0, [0, 2, 3, 8]), (1, [0, 2, 3, 8, 9]), (2, [0, 2, 3, 8, 9, 16]), (3, [0, 2, 3, 8, 9, 36]), (4, [0, 2, 3, 8, 9]), (5, [0, 2, 3, 8, 9, 52]), (6, [0, 2, 3, 9]), (7, [0, 2, 3, 8])]) (by kernel_rfl) (fnOK_of Tryz.func165 (by kernel_rfl) (by kernel_rfl) (by kernel_rfl))
/-- slices.nextPowerOfTwo -/
def ic166 : IC :=
(.seq
 (.reg 0 [⟨(some 2), none, (.q (.mov (.c (.int .u64 0))))⟩] [0])
 (.seq
  (.reg 1 [⟨(some 3), none, (.q (.mov (.t 0)))⟩, ⟨(some 4), none, (.q (.conv .u64 (.t 3)))⟩, ⟨(some 5), none, (.call 96 [(.t 4)])⟩, ⟨(some 6), none, (.q (.bin .shl (.c (.int .u64 1)) (.t 5)))⟩, ⟨(some 2), none, (.q (.mov (.t 6)))⟩] [2])
  .ret))
theorem fok166 : FOK Tryz.prog 166 (7, ic166, [(.t 2)]) := .mk (pf := []) (an := [(0, [0]), (1, [2])]) (by kernel_rfl) (fnOK_of Tryz.func166 (by kernel_rfl) (by kernel_rfl) (by kernel_rfl))
/-- (*slices.xorshift).Next -/
def ic167 : IC :=
(.seq
 (.reg 0 [⟨(some 2), none, (.q (.mov (.c (.int .u64 0))))⟩] [0])
 (.seq
  (.dreg 1 [⟨(some 3), none, (.q (.mov (.t 0)))⟩, ⟨(some 4), none, (.q (.nchk (.t 3)))⟩, ⟨(some 5), none, (.q (.load none (.t 4)))⟩, ⟨(some 6), none, (.q (.mov (.t 0)))⟩, ⟨(some 7), none, (.q (.nchk (.t 6)))⟩, ⟨(some 8), none, (.q (.load none (.t 7)))⟩, ⟨(some 9), none, (.q (.bin .shl (.t 8) (.c (.int .u64 13))))⟩, ⟨(some 10), none, (.q (.bin .xor (.t 5) (.t 9)))⟩, ⟨(some 11), none, (.q (.nchk (.t 3)))⟩, ⟨none, none, (.store 1 (.t 11) (.t 10))⟩] false [0])
  (.seq
   (.dreg 2 [⟨(some 12), none, (.q (.mov (.t 0)))⟩, ⟨(some 13), none, (.q (.nchk (.t 12)))⟩, ⟨(some 14), none, (.q (.load none (.t 13)))⟩, ⟨(some 15), none, (.q (.mov (.t 0)))⟩, ⟨(some 16), none, (.q (.nchk (.t 15)))⟩, ⟨(some 17), none, (.q (.load none (.t 16)))⟩, ⟨(some 18), none, (.q (.bin .shr (.t 17) (.c (.int .u64 7))))⟩, ⟨(some 19), none, (.q (.bin .xor (.t 14) (.t 18)))⟩, ⟨(some 20), none, (.q (.nchk (.t 12)))⟩, ⟨none, none, (.store 1 (.t 20) (.t 19))⟩] false [0])
   (.seq
    (.dreg 3 [⟨(some 21), none, (.q (.mov (.t 0)))⟩, ⟨(some 22), none, (.q (.nchk (.t 21)))⟩, ⟨(some 23), none, (.q (.load none (.t 22)))⟩, ⟨(some 24), none, (.q (.mov (.t 0)))⟩, ⟨(some 25), none, (.q (.nchk (.t 24)))⟩, ⟨(some 26), none, (.q (.load none (.t 25)))⟩, ⟨(some 27), none, (.q (.bin .shl (.t 26) (.c (.int .u64 17))))⟩, ⟨(some 28), none, (.q (.bin .xor (.t 23) (.t 27)))⟩, ⟨(some 29), none, (.q (.nchk (.t 21)))⟩, ⟨none, none, (.store 1 (.t 29) (.t 28))⟩] false [0])
    (.seq
     (.reg 4 [⟨(some 30), none, (.q (.mov (.t 0)))⟩, ⟨(some 31), none, (.q (.nchk (.t 30)))⟩, ⟨(some 32), none, (.q (.load none (.t 31)))⟩, ⟨(some 2), none, (.q (.mov (.t 32)))⟩] [2])
     .ret)))))
theorem fok167 : FOK Tryz.prog 167 (33, ic167, [(.t 2)]) := .mk (pf := []) (an := [(0, [0]), (1, [0]), (2, [0]), (3, [0]), (4, [2])]) (by kernel_rfl) (fnOK_of Tryz.func167 (by kernel_rfl) (by kernel_rfl) (by kernel_rfl))
/-- slices.medianAdjacentOrdered[int] -/
def ic168 : IC :=
(.seq
 (.reg 0 [⟨(some 6), none, (.q (.mov (.c (.int .i64 0))))⟩] [0, 1, 2])
 (.seq
  (.reg 1 [⟨(some 7), none, (.q (.mov (.t 0)))⟩, ⟨(some 8), none, (.q (.mov (.t 1)))⟩, ⟨(some 9), none, (.q (.bin .sub (.t 8) (.c (.int .i64 1))))⟩, ⟨(some 10), none, (.q (.mov (.t 1)))⟩, ⟨(some 11), none, (.q (.mov (.t 1)))⟩, ⟨(some 12), none, (.q (.bin .add (.t 11) (.c (.int .i64 1))))⟩, ⟨(some 13), none, (.q (.mov (.t 2)))⟩, ⟨(some 14), none, (.call 169 [(.t 7), (.t 9), (.t 10), (.t 12), (.t 13)])⟩, ⟨(some 6), none, (.q (.mov (.t 14)))⟩] [6])
  .ret))
theorem fok168 : FOK Tryz.prog 168 (15, ic168, [(.t 6)]) := .mk (pf := []) (an := [(0, [0, 1, 2]), (1, [6])]) (by kernel_rfl) (fnOK_of Tryz.func168 (by kernel_rfl) (by kernel_rfl) (by kernel_rfl))
/-- slices.medianOrdered[int] -/
def ic169 : IC :=
(.seq
 (.reg 0 [⟨(some 10), none, (.q (.mov (.c (.int .i64 0))))⟩] [0, 1, 2, 3, 4])
 (.seq
  (.reg 1 [⟨(some 12), none, (.q (.mov (.t 0)))⟩, ⟨(some 13), none, (.q (.mov (.t 1)))⟩, ⟨(some 14), none, (.q (.mov (.t 2)))⟩, ⟨(some 15), none, (.q (.mov (.t 4)))⟩, ⟨(some 16), none, (.call 189 [(.t 12), (.t 13), (.t 14), (.t 15)])⟩, ⟨(some 11), none, (.q (.mov (.t 16)))⟩, ⟨(some 17), none, (.q (.ext 0 (.t 11)))⟩, ⟨(some 18), none, (.q (.ext 1 (.t 11)))⟩, ⟨(some 1), none, (.q (.mov (.t 17)))⟩, ⟨(some 2), none, (.q (.mov (.t 18)))⟩] [0, 1, 2, 3, 4])
  (.seq
   (.reg 2 [⟨(some 20), none, (.q (.mov (.t 0)))⟩, ⟨(some 21), none, (.q (.mov (.t 2)))⟩, ⟨(some 22), none, (.q (.mov (.t 3)))⟩, ⟨(some 23), none, (.q (.mov (.t 4)))⟩, ⟨(some 24), none, (.call 189 [(.t 20), (.t 21), (.t 22), (.t 23)])⟩, ⟨(some 19), none, (.q (.mov (.t 24)))⟩, ⟨(some 25), none, (.q (.ext 0 (.t 19)))⟩, ⟨(some 26), none, (.q (.ext 1 (.t 19)))⟩, ⟨(some 2), none, (.q (.mov (.t 25)))⟩, ⟨(some 3), none, (.q (.mov (.t 26)))⟩] [0, 1, 2, 4])
   (.seq
    (.reg 3 [⟨(some 28), none, (.q (.mov (.t 0)))⟩, ⟨(some 29), none, (.q (.mov (.t 1)))⟩, ⟨(some 30), none, (.q (.mov (.t 2)))⟩, ⟨(some 31), none, (.q (.mov (.t 4)))⟩, ⟨(some 32), none, (.call 189 [(.t 28), (.t 29), (.t 30), (.t 31)])⟩, ⟨(some 27), none, (.q (.mov (.t 32)))⟩, ⟨(some 33), none, (.q (.ext 0 (.t 27)))⟩, ⟨(some 34), none, (.q (.ext 1 (.t 27)))⟩, ⟨(some 1), none, (.q (.mov (.t 33)))⟩, ⟨(some 2), none, (.q (.mov (.t 34)))⟩] [2])
    (.seq
     (.reg 4 [⟨(some 35), none, (.q (.mov (.t 2)))⟩, ⟨(some 10), none, (.q (.mov (.t 35)))⟩] [10])
     .ret)))))
theorem fok169 : FOK Tryz.prog 169 (36, ic169, [(.t 10)]) := .mk (pf := []) (an := [(0, [0, 1, 2, 3, 4]), (1, [0, 1, 2, 3, 4]), (2, [0, 1, 2, 4]), (3, [2]), (4, [10])]) (by kernel_rfl) (fnOK_of Tryz.func169 (by kernel_rfl) (by kernel_rfl) (by kernel_rfl))
/-- cmp.isNaN[int] -/
def ic170 : IC :=
(.seq
 (.reg 0 [⟨(some 2), none, (.q (.mov (.c (.bool false))))⟩] [0])
 (.seq
  (.reg 1 [⟨(some 3), none, (.q (.mov (.t 0)))⟩, ⟨(some 4), none, (.q (.mov (.t 0)))⟩, ⟨(some 5), none, (.q (.bin .neq (.t 3) (.t 4)))⟩, ⟨(some 2), none, (.q (.mov (.t 5)))⟩] [2])
  .ret))
theorem fok170 : FOK Tryz.prog 170 (6, ic170, [(.t 2)]) := .mk (pf := []) (an := [(0, [0]), (1, [2])]) (by kernel_rfl) (fnOK_of Tryz.func170 (by kernel_rfl) (by kernel_rfl) (by kernel_rfl))
/-- chandlery/evr.first -/
def ic171 : IC :=
(.seq
 (.reg 0 [⟨(some 2), none, (.q (.mov (.c (.int .i64 0))))⟩] [0])
 (.seq
  (.seq
   (.reg 1 [⟨(some 6), none, (.q (.mov (.t 0)))⟩, ⟨(some 7), none, (.q (.len 0 (.t 6)))⟩, ⟨(some 8), none, (.q (.mov (.c (.int .i64 0))))⟩] [6, 7, 8])
   (.block 0
    (.loop
     (.seq
      (.reg 2 [⟨(some 9), none, (.q (.bin .lss (.t 8) (.t 7)))⟩] [6, 7, 8, 9])
      (.seq
       (.cond (.t 9)
        .skip
        (.exit 0))
       (.seq
        (.block 1
         (.seq
          (.reg 3 [⟨(some 10), none, (.q (.iaddr 1 (.t 6) (.t 8)))⟩, ⟨(some 11), none, (.q (.load none (.t 10)))⟩, ⟨(some 4), none, (.q (.mov (.t 11)))⟩] [4, 6, 7, 8])
          (.seq
           (.reg 4 [⟨(some 12), none, (.q (.mov (.t 4)))⟩, ⟨(some 13), none, (.callv (.t 12) [])⟩, ⟨(some 5), none, (.q (.mov (.t 13)))⟩] [5, 6, 7, 8])
           (.seq
            (.reg 5 [⟨(some 14), none, (.q (.mov (.t 5)))⟩, ⟨(some 15), none, (.q (.bin .neq (.t 14) (.c (.int .i64 0))))⟩] [5, 6, 7, 8, 15])
            (.cond (.t 15)
            (.seq
            (.reg 6 [⟨(some 16), none, (.q (.mov (.t 5)))⟩, ⟨(some 2), none, (.q (.mov (.t 16)))⟩] [2])
            .ret)
            .skip)))))
        (.reg 7 [⟨(some 17), none, (.q (.bin .add (.t 8) (.c (.int .i64 1))))⟩, ⟨(some 8), none, (.q (.mov (.t 17)))⟩] [6, 7, 8])))))))
  (.seq
   (.reg 8 [⟨(some 2), none, (.q (.mov (.c (.int .i64 0))))⟩] [2])
   .ret)))
theorem fok171 : FOK Tryz.prog 171 (18, ic171, [(.t 2)]) := .mk (pf := []) (an := [(0, [0]), (1, [6, 7, 8]), (2, [6, 7, 8, 9]), (3, [4, 6, 7, 8]), (4, [5, 6, 7, 8]), (5, [5, 6, 7, 8, 15]), (6, [2]), (7, [6, 7, 8]), (8, [2])]) (by kernel_rfl) (fnOK_of Tryz.func171 (by kernel_rfl) (by kernel_rfl) (by kernel_rfl))
/-- chandlery/evr.Compare$1 -/
def ic172 : IC :=
(.seq
 (.reg 0 [⟨(some 2), none, (.q (.mov (.c (.int .i64 0))))⟩] [0, 1])
 (.seq
  (.reg 1 [⟨(some 3), none, (.q (.faddr 0 (.t 0)))⟩, ⟨(some 4), none, (.q (.load none (.t 3)))⟩, ⟨(some 5), none, (.q (.faddr 0 (.t 1)))⟩, ⟨(some 6), none, (.q (.load none (.t 5)))⟩, ⟨(some 7), none, (.call 173 [(.t 4), (.t 6)])⟩, ⟨(some 2), none, (.q (.mov (.t 7)))⟩] [2])
  .ret))
theorem fok172 : FOK Tryz.prog 172 (8, ic172, [(.t 2)]) := .mk (pf := []) (an := [(0, [0, 1]), (1, [2])]) (by kernel_rfl) (fnOK_of Tryz.func172 (by kernel_rfl) (by kernel_rfl) (by kernel_rfl))
/-- cmp.Compare[int] -/
def ic173 : IC :=
(.seq
 (.reg 0 [⟨(some 4), none, (.q (.mov (.c (.int .i64 0))))⟩] [0, 1])
 (.seq
  (.reg 1 [⟨(some 7), none, (.q (.mov (.t 0)))⟩, ⟨(some 8), none, (.call 170 [(.t 7)])⟩, ⟨(some 5), none, (.q (.mov (.t 8)))⟩] [0, 1, 5])
  (.seq
   (.reg 2 [⟨(some 9), none, (.q (.mov (.t 1)))⟩, ⟨(some 10), none, (.call 170 [(.t 9)])⟩, ⟨(some 6), none, (.q (.mov (.t 10)))⟩] [0, 1, 5, 6])
   (.seq
    (.seq
     (.reg 3 [⟨(some 11), none, (.q (.mov (.t 5)))⟩] [0, 1, 6, 11])
     (.cond (.t 11)
      (.seq
       (.seq
        (.reg 4 [⟨(some 12), none, (.q (.mov (.t 6)))⟩] [12])
        (.cond (.t 12)
         (.seq
          (.reg 5 [⟨(some 4), none, (.q (.mov (.c (.int .i64 0))))⟩] [4])
          .ret)
         .skip))
       (.seq
        (.reg 6 [⟨(some 4), none, (.q (.mov (.c (.int .i64 (-1)))))⟩] [4])
        .ret))
      .skip))
    (.seq
     (.seq
      (.reg 7 [⟨(some 13), none, (.q (.mov (.t 6)))⟩] [0, 1, 13])
      (.cond (.t 13)
       (.seq
        (.reg 8 [⟨(some 4), none, (.q (.mov (.c (.int .i64 1))))⟩] [4])
        .ret)
       .skip))
     (.seq
      (.seq
       (.reg 9 [⟨(some 14), none, (.q (.mov (.t 0)))⟩, ⟨(some 15), none, (.q (.mov (.t 1)))⟩, ⟨(some 16), none, (.q (.bin .lss (.t 14) (.t 15)))⟩] [0, 1, 16])
       (.cond (.t 16)
        (.seq
         (.reg 10 [⟨(some 4), none, (.q (.mov (.c (.int .i64 (-1)))))⟩] [4])
         .ret)
        .skip))
      (.seq
       (.seq
        (.reg 11 [⟨(some 17), none, (.q (.mov (.t 0)))⟩, ⟨(some 18), none, (.q (.mov (.t 1)))⟩, ⟨(some 19), none, (.q (.bin .gtr (.t 17) (.t 18)))⟩] [19])
        (.cond (.t 19)
         (.seq
          (.reg 12 [⟨(some 4), none, (.q (.mov (.c (.int .i64 1))))⟩] [4])
          .ret)
         .skip))
       (.seq
        (.reg 13 [⟨(some 4), none, (.q (.mov (.c (.int .i64 0))))⟩] [4])
        .ret))))))))
theorem fok173 : FOK Tryz.prog 173 (20, ic173, [(.t 4)]) := .mk (pf := []) (an := [(0, [0, 1]), (1, [0, 1, 5]), (2, [0, 1, 5, 6]), (3, [0, 1, 6, 11]), (4, [12]), (5, [4]), (6, [4]), (7, [0, 1, 13]), (8, [4]), (9, [0, 1, 16]), (10, [4]), (11, [19]), (12, [4]), (13, [4])]) (by kernel_rfl) (fnOK_of Tryz.func173 (by kernel_rfl) (by kernel_rfl) (by kernel_rfl))
/-- chandlery/evr.Compare$2 -/
def ic174 : IC :=
(.seq
 (.reg 0 [⟨(some 2), none, (.q (.mov (.c (.int .i64 0))))⟩] [0, 1])
 (.seq
  (.reg 1 [⟨(some 3), none, (.q (.faddr 1 (.t 0)))⟩, ⟨(some 4), none, (.q (.load none (.t 3)))⟩, ⟨(some 5), none, (.q (.faddr 1 (.t 1)))⟩, ⟨(some 6), none, (.q (.load none (.t 5)))⟩, ⟨(some 7), none, (.call 175 [(.t 4), (.t 6)])⟩, ⟨(some 2), none, (.q (.mov (.t 7)))⟩] [2])
  .ret))
theorem fok174 : FOK Tryz.prog 174 (8, ic174, [(.t 2)]) := .mk (pf := []) (an := [(0, [0, 1]), (1, [2])]) (by kernel_rfl) (fnOK_of Tryz.func174 (by kernel_rfl) (by kernel_rfl) (by kernel_rfl))
/-- chandlery/vercmp.Compare -/
def ic175 : IC :=
(.seq
 (.reg 0 [⟨(some 4), none, (.q (.mov (.c (.int .i64 0))))⟩] [0, 1])
 (.seq
  (.reg 1 [⟨(some 9), none, (.q (.mov (.t 0)))⟩, ⟨(some 10), none, (.call 190 [(.t 9)])⟩, ⟨(some 11), none, (.q (.bld [(.int .u8 0), (.str [])] [⟨0, ⟨1, (.c (.int .u8 2))⟩⟩]))⟩, ⟨(some 12), none, (.bslt 2 1 [(.int .u8 0), (.str [])] [⟨0, ⟨2, (.t 11)⟩⟩])⟩, ⟨(some 13), none, (.app 2 (.t 10) (.t 12))⟩, ⟨(some 14), none, (.q (.mov (.t 1)))⟩, ⟨(some 15), none, (.call 190 [(.t 14)])⟩, ⟨(some 16), none, (.q (.bld [(.int .u8 0), (.str [])] [⟨0, ⟨1, (.c (.int .u8 2))⟩⟩]))⟩, ⟨(some 17), none, (.bslt 2 1 [(.int .u8 0), (.str [])] [⟨0, ⟨2, (.t 16)⟩⟩])⟩, ⟨(some 18), none, (.app 2 (.t 15) (.t 17))⟩, ⟨(some 5), none, (.q (.mov (.t 13)))⟩, ⟨(some 6), none, (.q (.mov (.t 18)))⟩] [5, 6])
  (.seq
   (.seq
    (.reg 2 [⟨(some 19), none, (.q (.mov (.t 5)))⟩, ⟨(some 20), none, (.q (.len 0 (.t 19)))⟩, ⟨(some 21), none, (.q (.mov (.t 6)))⟩, ⟨(some 22), none, (.q (.len 0 (.t 21)))⟩, ⟨(some 23), none, (.q (.mm false (.t 20) (.t 22)))⟩, ⟨(some 24), none, (.q (.mov (.c (.int .i64 0))))⟩] [5, 6, 23, 24])
    (.block 0
     (.loop
      (.seq
       (.reg 3 [⟨(some 25), none, (.q (.bin .lss (.t 24) (.t 23)))⟩] [5, 6, 23, 24, 25])
       (.seq
        (.cond (.t 25)
         .skip
         (.exit 0))
        (.seq
         (.block 1
          (.seq
           (.reg 4 [⟨(some 26), none, (.q (.mov (.t 24)))⟩, ⟨(some 7), none, (.q (.mov (.t 26)))⟩] [5, 6, 7, 23, 24])
           (.seq
            (.dreg 5 [⟨(some 27), none, (.q (.mov (.t 5)))⟩, ⟨(some 28), none, (.q (.mov (.t 7)))⟩, ⟨(some 29), none, (.q (.iaddr 2 (.t 27) (.t 28)))⟩, ⟨(some 30), none, (.q (.load (some 2) (.t 29)))⟩, ⟨(some 31), none, (.q (.mov (.t 6)))⟩, ⟨(some 32), none, (.q (.mov (.t 7)))⟩, ⟨(some 33), none, (.q (.iaddr 2 (.t 31) (.t 32)))⟩, ⟨(some 34), none, (.q (.load (some 2) (.t 33)))⟩, ⟨(some 35), none, (.call 191 [(.t 30), (.t 34)])⟩, ⟨(some 8), none, (.q (.mov (.t 35)))⟩] false [5, 6, 8, 23, 24])
            (.seq
            (.reg 6 [⟨(some 36), none, (.q (.mov (.t 8)))⟩, ⟨(some 37), none, (.q (.bin .neq (.t 36) (.c (.int .i64 0))))⟩] [5, 6, 8, 23, 24, 37])
            (.cond (.t 37)
            (.seq
            (.reg 7 [⟨(some 38), none, (.q (.mov (.t 8)))⟩, ⟨(some 4), none, (.q (.mov (.t 38)))⟩] [4])
            .ret)
            .skip)))))
         (.reg 8 [⟨(some 39), none, (.q (.bin .add (.t 24) (.c (.int .i64 1))))⟩, ⟨(some 24), none, (.q (.mov (.t 39)))⟩] [5, 6, 23, 24])))))))
   (.seq
    (.reg 9 [⟨(some 4), none, (.q (.mov (.c (.int .i64 0))))⟩] [4])
    .ret))))
theorem fok175 : FOK Tryz.prog 175 (40, ic175, [(.t 4)]) := .mk (pf := [1000012, 1000017]) (an := [(0, [0, 1]), (1, [5, 6]), (2, [5, 6, 23, 24]), (3, [5, 6, 23, 24, 25]), (4, [5, 6, 7, 23, 24]), (5, [5, 6, 8, 23, 24]), (6, [5, 6, 8, 23, 24, 37]), (7, [4]), (8, [5, 6, 23, 24]), (9, [4])]) (by kernel_rfl) (fnOK_of Tryz.func175 (by kernel_rfl) (by kernel_rfl) (by kernel_rfl))
/-- chandlery/evr.Compare$3 -/
def ic176 : IC :=
(.seq
 (.reg 0 [⟨(some 2), none, (.q (.mov (.c (.int .i64 0))))⟩] [0, 1])
 (.seq
  (.seq
   (.reg 1 [⟨(some 3), none, (.q (.faddr 2 (.t 0)))⟩, ⟨(some 4), none, (.q (.load none (.t 3)))⟩, ⟨(some 5), none, (.q (.bin .eql (.t 4) (.c (.str []))))⟩, ⟨(some 6), none, (.q (.mov (.t 5)))⟩, ⟨(some 7), (some ⟨6, false⟩), (.q (.faddr 2 (.t 1)))⟩, ⟨(some 8), (some ⟨6, false⟩), (.q (.load none (.t 7)))⟩, ⟨(some 9), (some ⟨6, false⟩), (.q (.bin .eql (.t 8) (.c (.str []))))⟩, ⟨(some 10), none, (.q (.pick (.t 6) (.c (.bool true)) (.t 9)))⟩] [0, 1, 10])
   (.cond (.t 10)
    (.seq
     (.reg 2 [⟨(some 2), none, (.q (.mov (.c (.int .i64 0))))⟩] [2])
     .ret)
    .skip))
  (.seq
   (.reg 3 [⟨(some 11), none, (.q (.faddr 2 (.t 0)))⟩, ⟨(some 12), none, (.q (.load none (.t 11)))⟩, ⟨(some 13), none, (.q (.faddr 2 (.t 1)))⟩, ⟨(some 14), none, (.q (.load none (.t 13)))⟩, ⟨(some 15), none, (.call 175 [(.t 12), (.t 14)])⟩, ⟨(some 2), none, (.q (.mov (.t 15)))⟩] [2])
   .ret)))
theorem fok176 : FOK Tryz.prog 176 (16, ic176, [(.t 2)]) := .mk (pf := []) (an := [(0, [0, 1]), (1, [0, 1, 10]), (2, [2]), (3, [2])]) (by kernel_rfl) (fnOK_of Tryz.func176 (by kernel_rfl) (by kernel_rfl) (by kernel_rfl))
/-- internal/stringslite.IndexByte -/
def ic177 : IC :=
(.seq
 (.reg 0 [⟨(some 4), none, (.q (.mov (.c (.int .i64 0))))⟩] [0, 1])
 (.seq
  (.reg 1 [⟨(some 5), none, (.q (.mov (.t 0)))⟩, ⟨(some 6), none, (.q (.mov (.t 1)))⟩, ⟨(some 7), none, (.q (.ibs (.t 5) (.t 6)))⟩, ⟨(some 4), none, (.q (.mov (.t 7)))⟩] [4])
  .ret))
theorem fok177 : FOK Tryz.prog 177 (8, ic177, [(.t 4)]) := .mk (pf := []) (an := [(0, [0, 1]), (1, [4])]) (by kernel_rfl) (fnOK_of Tryz.func177 (by kernel_rfl) (by kernel_rfl) (by kernel_rfl))
/-- internal/stringslite.HasPrefix -/
def ic178 : IC :=
(.seq
 (.reg 0 [⟨(some 4), none, (.q (.mov (.c (.bool false))))⟩] [0, 1])
 (.seq
  (.reg 1 [⟨(some 5), none, (.q (.mov (.t 0)))⟩, ⟨(some 6), none, (.q (.len 1 (.t 5)))⟩, ⟨(some 7), none, (.q (.mov (.t 1)))⟩, ⟨(some 8), none, (.q (.len 1 (.t 7)))⟩, ⟨(some 9), none, (.q (.bin .geq (.t 6) (.t 8)))⟩, ⟨(some 10), none, (.q (.mov (.t 9)))⟩, ⟨(some 11), (some ⟨10, true⟩), (.q (.mov (.t 0)))⟩, ⟨(some 12), (some ⟨10, true⟩), (.q (.mov (.t 1)))⟩, ⟨(some 13), (some ⟨10, true⟩), (.q (.len 1 (.t 12)))⟩, ⟨(some 14), (some ⟨10, true⟩), (.q (.sstr (.t 11) none (some (.t 13))))⟩, ⟨(some 15), (some ⟨10, true⟩), (.q (.mov (.t 1)))⟩, ⟨(some 16), (some ⟨10, true⟩), (.q (.bin .eql (.t 14) (.t 15)))⟩, ⟨(some 17), none, (.q (.pick (.t 10) (.t 16) (.c (.bool false))))⟩, ⟨(some 4), none, (.q (.mov (.t 17)))⟩] [4])
  .ret))
theorem fok178 : FOK Tryz.prog 178 (18, ic178, [(.t 4)]) := .mk (pf := []) (an := [(0, [0, 1]), (1, [4])]) (by kernel_rfl) (fnOK_of Tryz.func178 (by kernel_rfl) (by kernel_rfl) (by kernel_rfl))
/-- chandlery/span.Text -/
def ic179 : IC :=
(.seq
 (.reg 0 [⟨(some 2), none, (.q (.mov (.c (.str []))))⟩] [0])
 (.seq
  (.seq
   (.reg 1 [⟨(some 5), none, (.q (.load none (.g 1)))⟩, ⟨(some 6), none, (.mrange (.t 5))⟩] [0, 6])
   (.block 0
    (.loop
     (.seq
      (.reg 2 [⟨(some 7), none, (.mnext (.t 6))⟩, ⟨(some 8), none, (.q (.ext 0 (.t 7)))⟩] [0, 6, 8])
      (.seq
       (.cond (.t 8)
        .skip
        (.exit 0))
       (.block 1
        (.seq
         (.reg 3 [⟨(some 9), none, (.ment (.t 6))⟩, ⟨(some 10), none, (.q (.ext 0 (.t 9)))⟩, ⟨(some 11), none, (.q (.ext 1 (.t 9)))⟩, ⟨(some 3), none, (.q (.mov (.t 10)))⟩, ⟨(some 4), none, (.q (.mov (.t 11)))⟩] [0, 3, 4, 6])
         (.seq
          (.reg 4 [⟨(some 12), none, (.q (.mov (.t 4)))⟩, ⟨(some 13), none, (.q (.mov (.t 0)))⟩, ⟨(some 14), none, (.q (.bin .eql (.t 12) (.t 13)))⟩] [0, 3, 6, 14])
          (.cond (.t 14)
           (.seq
            (.reg 5 [⟨(some 15), none, (.q (.mov (.t 3)))⟩, ⟨(some 2), none, (.q (.mov (.t 15)))⟩] [2])
            .ret)
           .skip)))))))))
  (.seq
   (.reg 6 [⟨(some 2), none, (.q (.mov (.c (.str []))))⟩] [2])
   .ret)))
theorem fok179 : FOK Tryz.prog 179 (16, ic179, [(.t 2)]) := .mk (pf := []) (an := [(0, [0]), (1, [0, 6]), (2, [0, 6, 8]), (3, [0, 3, 4, 6]), (4, [0, 3, 6, 14]), (5, [2]), (6, [2])]) (by kernel_rfl) (fnOK_of Tryz.func179 (by kernel_rfl) (by kernel_rfl) (by kernel_rfl))
/-- slices.IndexFunc[[]string,string] -/
def ic180 : IC :=
(.seq
 (.reg 0 [⟨(some 4), none, (.q (.mov (.c (.int .i64 0))))⟩] [0, 1])
 (.seq
  (.seq
   (.reg 1 [⟨(some 6), none, (.q (.mov (.t 0)))⟩, ⟨(some 7), none, (.q (.len 0 (.t 6)))⟩, ⟨(some 8), none, (.q (.mov (.c (.int .i64 0))))⟩] [0, 1, 7, 8])
   (.block 0
    (.loop
     (.seq
      (.reg 2 [⟨(some 9), none, (.q (.bin .lss (.t 8) (.t 7)))⟩] [0, 1, 7, 8, 9])
      (.seq
       (.cond (.t 9)
        .skip
        (.exit 0))
       (.seq
        (.block 1
         (.seq
          (.reg 3 [⟨(some 10), none, (.q (.mov (.t 8)))⟩, ⟨(some 5), none, (.q (.mov (.t 10)))⟩] [0, 1, 5, 7, 8])
          (.seq
           (.reg 4 [⟨(some 11), none, (.q (.mov (.t 1)))⟩, ⟨(some 12), none, (.q (.mov (.t 0)))⟩, ⟨(some 13), none, (.q (.mov (.t 5)))⟩, ⟨(some 14), none, (.q (.iaddr 1 (.t 12) (.t 13)))⟩, ⟨(some 15), none, (.q (.load none (.t 14)))⟩, ⟨(some 16), none, (.callv (.t 11) [(.t 15)])⟩] [0, 1, 5, 7, 8, 16])
           (.cond (.t 16)
            (.seq
            (.reg 5 [⟨(some 17), none, (.q (.mov (.t 5)))⟩, ⟨(some 4), none, (.q (.mov (.t 17)))⟩] [4])
            .ret)
            .skip))))
        (.reg 6 [⟨(some 18), none, (.q (.bin .add (.t 8) (.c (.int .i64 1))))⟩, ⟨(some 8), none, (.q (.mov (.t 18)))⟩] [0, 1, 7, 8])))))))
  (.seq
   (.reg 7 [⟨(some 4), none, (.q (.mov (.c (.int .i64 (-1)))))⟩] [4])
   .ret)))
theorem fok180 : FOK Tryz.prog 180 (19, ic180, [(.t 4)]) := .mk (pf := []) (an := [(0, [0, 1]), (1, [0, 1, 7, 8]), (2, [0, 1, 7, 8, 9]), (3, [0, 1, 5, 7, 8]), (4, [0, 1, 5, 7, 8, 16]), (5, [4]), (6, [0, 1, 7, 8]), (7, [4])]) (by kernel_rfl) (fnOK_of Tryz.func180 (by kernel_rfl) (by kernel_rfl) (by kernel_rfl))
/-- slices.IndexFunc[[]chandlery/api.Rich,chandlery/api.Rich] -/
def ic181 : IC :=
(.seq
 (.reg 0 [⟨(some 4), none, (.q (.mov (.c (.int .i64 0))))⟩] [0, 1])
 (.seq
  (.seq
   (.reg 1 [⟨(some 6), none, (.q (.mov (.t 0)))⟩, ⟨(some 7), none, (.q (.len 0 (.t 6)))⟩, ⟨(some 8), none, (.q (.mov (.c (.int .i64 0))))⟩] [0, 1, 7, 8])
   (.block 0
    (.loop
     (.seq
      (.reg 2 [⟨(some 9), none, (.q (.bin .lss (.t 8) (.t 7)))⟩] [0, 1, 7, 8, 9])
      (.seq
       (.cond (.t 9)
        .skip
        (.exit 0))
       (.seq
        (.block 1
         (.seq
          (.reg 3 [⟨(some 10), none, (.q (.mov (.t 8)))⟩, ⟨(some 5), none, (.q (.mov (.t 10)))⟩] [0, 1, 5, 7, 8])
          (.seq
           (.reg 4 [⟨(some 11), none, (.q (.mov (.t 1)))⟩, ⟨(some 12), none, (.q (.mov (.t 0)))⟩, ⟨(some 13), none, (.q (.mov (.t 5)))⟩, ⟨(some 14), none, (.q (.iaddr 7 (.t 12) (.t 13)))⟩, ⟨(some 15), none, (.q (.load (some 7) (.t 14)))⟩, ⟨(some 16), none, (.callv (.t 11) [(.t 15)])⟩] [0, 1, 5, 7, 8, 16])
           (.cond (.t 16)
            (.seq
            (.reg 5 [⟨(some 17), none, (.q (.mov (.t 5)))⟩, ⟨(some 4), none, (.q (.mov (.t 17)))⟩] [4])
            .ret)
            .skip))))
        (.reg 6 [⟨(some 18), none, (.q (.bin .add (.t 8) (.c (.int .i64 1))))⟩, ⟨(some 8), none, (.q (.mov (.t 18)))⟩] [0, 1, 7, 8])))))))
  (.seq
   (.reg 7 [⟨(some 4), none, (.q (.mov (.c (.int .i64 (-1)))))⟩] [4])
   .ret)))
theorem fok181 : FOK Tryz.prog 181 (19, ic181, [(.t 4)]) := .mk (pf := []) (an := [(0, [0, 1]), (1, [0, 1, 7, 8]), (2, [0, 1, 7, 8, 9]), (3, [0, 1, 5, 7, 8]), (4, [0, 1, 5, 7, 8, 16]), (5, [4]), (6, [0, 1, 7, 8]), (7, [4])]) (by kernel_rfl) (fnOK_of Tryz.func181 (by kernel_rfl) (by kernel_rfl) (by kernel_rfl))
/-- chandlery/shape.parts$1 -/
def ic182 : IC :=
(.seq
 (.reg 0 [⟨(some 4), none, (.boxt (.t 0))⟩, ⟨(some 7), none, (.q (.mov (.c (.bool false))))⟩] [1, 2, 3, 4])
 (.seq
  (.seq
   (.reg 1 [⟨(some 10), none, (.q (.mov (.t 2)))⟩, ⟨(some 11), none, (.q (.load (some 7) (.t 4)))⟩, ⟨(some 12), none, (.q (.mov (.t 1)))⟩, ⟨(some 13), none, (.callv (.t 10) [(.t 11), (.t 12)])⟩, ⟨(some 14), none, (.q (.not (.t 13)))⟩] [1, 2, 3, 4, 14])
   (.cond (.t 14)
    (.seq
     (.reg 2 [⟨(some 7), none, (.q (.mov (.c (.bool false))))⟩] [7])
     .ret)
    .skip))
  (.seq
   (.reg 3 [⟨(some 15), none, (.q (.mov (.t 1)))⟩, ⟨(some 16), none, (.q (.mov (.t 15)))⟩, ⟨(some 17), (some ⟨16, false⟩), (.q (.faddr 0 (.t 4)))⟩, ⟨(some 18), (some ⟨16, false⟩), (.q (.load none (.t 17)))⟩, ⟨(some 19), (some ⟨16, false⟩), (.q (.bin .eql (.t 18) (.c (.int .u8 6))))⟩, ⟨(some 20), none, (.q (.pick (.t 16) (.c (.bool true)) (.t 19)))⟩, ⟨(some 21), none, (.q (.mov (.t 20)))⟩, ⟨(some 22), (some ⟨21, false⟩), (.q (.faddr 0 (.t 4)))⟩, ⟨(some 23), (some ⟨21, false⟩), (.q (.load none (.t 22)))⟩, ⟨(some 24), (some ⟨21, false⟩), (.q (.bin .eql (.t 23) (.c (.int .u8 7))))⟩, ⟨(some 25), none, (.q (.pick (.t 21) (.c (.bool true)) (.t 24)))⟩, ⟨(some 1), none, (.q (.mov (.t 25)))⟩] [1, 2, 3, 4])
   (.seq
    (.seq
     (.reg 4 [⟨(some 26), none, (.q (.faddr 6 (.t 4)))⟩, ⟨(some 27), none, (.q (.load none (.t 26)))⟩, ⟨(some 28), none, (.q (.len 0 (.t 27)))⟩, ⟨(some 29), none, (.q (.mov (.c (.int .i64 0))))⟩] [1, 2, 3, 27, 28, 29])
     (.block 0
      (.loop
       (.seq
        (.reg 5 [⟨(some 30), none, (.q (.bin .lss (.t 29) (.t 28)))⟩] [1, 2, 3, 27, 28, 29, 30])
        (.seq
         (.cond (.t 30)
          .skip
          (.exit 0))
         (.seq
          (.block 1
           (.seq
            (.reg 6 [⟨(some 31), none, (.q (.iaddr 7 (.t 27) (.t 29)))⟩, ⟨(some 32), none, (.q (.load (some 7) (.t 31)))⟩, ⟨(some 9), none, (.alloc [(.int .u8 0), (.str []), (.int .u8 0), (.int .i64 0), (.str []), (.str []), .nilslice])⟩, ⟨none, none, (.store 7 (.t 9) (.t 32))⟩] [1, 2, 3, 9, 27, 28, 29])
            (.seq
            (.reg 7 [⟨(some 33), none, (.q (.load none (.t 3)))⟩, ⟨(some 34), none, (.q (.load (some 7) (.t 9)))⟩, ⟨(some 35), none, (.q (.mov (.t 1)))⟩, ⟨(some 36), none, (.q (.mov (.t 2)))⟩, ⟨(some 37), none, (.callv (.t 33) [(.t 34), (.t 35), (.t 36)])⟩, ⟨(some 38), none, (.q (.not (.t 37)))⟩] [1, 2, 3, 27, 28, 29, 38])
            (.cond (.t 38)
            (.seq
            (.reg 8 [⟨(some 7), none, (.q (.mov (.c (.bool false))))⟩] [7])
            .ret)
            .skip))))
          (.reg 9 [⟨(some 39), none, (.q (.bin .add (.t 29) (.c (.int .i64 1))))⟩, ⟨(some 29), none, (.q (.mov (.t 39)))⟩] [1, 2, 3, 27, 28, 29])))))))
    (.seq
     (.reg 10 [⟨(some 7), none, (.q (.mov (.c (.bool true))))⟩] [7])
     .ret)))))
theorem fok182 : FOK Tryz.prog 182 (40, ic182, [(.t 7)]) := .mk (pf := [1000004]) (an := [(0, [1, 2, 3, 4]), (1, [1, 2, 3, 4, 14]), (2, [7]), (3, [1, 2, 3, 4]), (4, [1, 2, 3, 27, 28, 29]), (5, [1, 2, 3, 27, 28, 29, 30]), (6, [1, 2, 3, 9, 27, 28, 29]), (7, [1, 2, 3, 27, 28, 29, 38]), (8, [7]), (9, [1, 2, 3, 27, 28, 29]), (10, [7])]) (by kernel_rfl) (fnOK_of Tryz.func182 (by kernel_rfl) (by kernel_rfl) (by kernel_rfl))
/-- chandlery/shape.parts$2 -/
def ic183 : IC :=
(.reg 0 [⟨(some 4), none, (.q (.load none (.t 1)))⟩, ⟨(some 5), none, (.q (.load (some 7) (.t 2)))⟩, ⟨(some 6), none, (.q (.mov (.t 0)))⟩, ⟨(some 7), none, (.callv (.t 4) [(.t 5), (.c (.bool false)), (.t 6)])⟩] [])
theorem fok183 : FOK Tryz.prog 183 (8, ic183, []) := .mk (pf := []) (an := []) (by kernel_rfl) (fnOK_of Tryz.func183 (by kernel_rfl) (by kernel_rfl) (by kernel_rfl))
/-- cmp.isNaN[string] -/
def ic187 : IC :=
(.seq
 (.reg 0 [⟨(some 2), none, (.q (.mov (.c (.bool false))))⟩] [0])
 (.seq
  (.reg 1 [⟨(some 3), none, (.q (.mov (.t 0)))⟩, ⟨(some 4), none, (.q (.mov (.t 0)))⟩, ⟨(some 5), none, (.q (.bin .neq (.t 3) (.t 4)))⟩, ⟨(some 2), none, (.q (.mov (.t 5)))⟩] [2])
  .ret))
theorem fok187 : FOK Tryz.prog 187 (6, ic187, [(.t 2)]) := .mk (pf := []) (an := [(0, [0]), (1, [2])]) (by kernel_rfl) (fnOK_of Tryz.func187 (by kernel_rfl) (by kernel_rfl) (by kernel_rfl))
/-- slices.order2Ordered[int] -/
def ic189 : IC :=
(.seq
 (.reg 0 [⟨(some 8), none, (.q (.mov (.c (.int .i64 0))))⟩, ⟨(some 9), none, (.q (.mov (.c (.int .i64 0))))⟩] [0, 1, 2, 3])
 (.seq
  (.seq
   (.dreg 1 [⟨(some 10), none, (.q (.mov (.t 0)))⟩, ⟨(some 11), none, (.q (.mov (.t 2)))⟩, ⟨(some 12), none, (.q (.iaddr 1 (.t 10) (.t 11)))⟩, ⟨(some 13), none, (.q (.load none (.t 12)))⟩, ⟨(some 14), none, (.q (.mov (.t 0)))⟩, ⟨(some 15), none, (.q (.mov (.t 1)))⟩, ⟨(some 16), none, (.q (.iaddr 1 (.t 14) (.t 15)))⟩, ⟨(some 17), none, (.q (.load none (.t 16)))⟩, ⟨(some 18), none, (.call 127 [(.t 13), (.t 17)])⟩] false [1, 2, 3, 18])
   (.cond (.t 18)
    (.seq
     (.reg 2 [⟨(some 19), none, (.q (.mov (.t 3)))⟩, ⟨(some 20), none, (.q (.nchk (.t 19)))⟩, ⟨(some 21), none, (.q (.load none (.t 20)))⟩, ⟨(some 22), none, (.q (.bin .add (.t 21) (.c (.int .i64 1))))⟩, ⟨(some 23), none, (.q (.nchk (.t 19)))⟩, ⟨none, none, (.store 1 (.t 23) (.t 22))⟩] [1, 2])
     (.seq
      (.reg 3 [⟨(some 24), none, (.q (.mov (.t 2)))⟩, ⟨(some 25), none, (.q (.mov (.t 1)))⟩, ⟨(some 8), none, (.q (.mov (.t 24)))⟩, ⟨(some 9), none, (.q (.mov (.t 25)))⟩] [8, 9])
      .ret))
    .skip))
  (.seq
   (.reg 4 [⟨(some 26), none, (.q (.mov (.t 1)))⟩, ⟨(some 27), none, (.q (.mov (.t 2)))⟩, ⟨(some 8), none, (.q (.mov (.t 26)))⟩, ⟨(some 9), none, (.q (.mov (.t 27)))⟩] [8, 9])
   .ret)))
theorem fok189 : FOK Tryz.prog 189 (28, ic189, [(.t 8), (.t 9)]) := .mk (pf := []) (an := [(0, [0, 1, 2, 3]), (1, [1, 2, 3, 18]), (2, [1, 2]), (3, [8, 9]), (4, [8, 9])]) (by kernel_rfl) (fnOK_of Tryz.func189 (by kernel_rfl) (by kernel_rfl) (by kernel_rfl))
/-- chandlery/vercmp.Parts -/
def ic190 : IC :=
(.seq
 (.reg 0 [⟨(some 2), none, (.q (.mov (.c .nilslice)))⟩] [0, 2])
 (.seq
  (.reg 1 [⟨(some 3), none, (.alloc [.nilslice])⟩] [0, 2, 3])
  (.seq
   (.seq
    (.reg 2 [⟨(some 5), none, (.q (.mov (.t 0)))⟩, ⟨(some 6), none, (.call 197 [(.t 5)])⟩] [2, 3, 6])
    (.block 0
     (.rfunc (.t 6) [7]
      (.reg 3 [⟨(some 4), none, (.alloc [(.int .u8 0), (.str [])])⟩, ⟨none, none, (.store 2 (.t 4) (.t 7))⟩] [3, 4])
      (.block 1
       (.reg 4 [⟨(some 8), none, (.q (.load none (.t 3)))⟩, ⟨(some 9), none, (.q (.load (some 2) (.t 4)))⟩, ⟨(some 10), none, (.bslt 2 1 [(.int .u8 0), (.str [])] [⟨0, ⟨2, (.t 9)⟩⟩])⟩, ⟨(some 11), none, (.app 2 (.t 8) (.t 10))⟩, ⟨none, none, (.store 1 (.t 3) (.t 11))⟩] [])))))
   (.seq
    (.reg 5 [⟨(some 12), none, (.q (.load none (.t 3)))⟩, ⟨(some 2), none, (.q (.mov (.t 12)))⟩] [2])
    .ret))))
theorem fok190 : FOK Tryz.prog 190 (13, ic190, [(.t 2)]) := .mk (pf := [1000010]) (an := [(0, [0, 2]), (1, [0, 2, 3]), (2, [2, 3, 6]), (3, [3, 4]), (5, [2])]) (by kernel_rfl) (fnOK_of Tryz.func190 (by kernel_rfl) (by kernel_rfl) (by kernel_rfl))
/-- chandlery/vercmp.compare -/
def ic191 : IC :=
(.seq
 (.reg 0 [⟨(some 2), none, (.boxt (.t 0))⟩, ⟨(some 3), none, (.boxt (.t 1))⟩, ⟨(some 4), none, (.q (.mov (.c (.int .i64 0))))⟩] [2, 3])
 (.seq
  (.reg 1 [⟨(some 5), none, (.q (.mov (.c (.int .i64 0))))⟩] [2, 3, 5])
  (.seq
   (.seq
    (.reg 2 [⟨(some 6), none, (.q (.faddr 0 (.t 2)))⟩, ⟨(some 7), none, (.q (.load none (.t 6)))⟩, ⟨(some 8), none, (.q (.bin .eql (.t 7) (.c (.int .u8 5))))⟩, ⟨(some 9), none, (.q (.mov (.t 8)))⟩, ⟨(some 10), (some ⟨9, true⟩), (.q (.faddr 0 (.t 3)))⟩, ⟨(some 11), (some ⟨9, true⟩), (.q (.load none (.t 10)))⟩, ⟨(some 12), (some ⟨9, true⟩), (.q (.bin .eql (.t 11) (.c (.int .u8 5))))⟩, ⟨(some 13), none, (.q (.pick (.t 9) (.t 12) (.c (.bool false))))⟩] [2, 3, 5, 13])
    (.cond (.t 13)
     (.reg 3 [⟨(some 14), none, (.q (.faddr 1 (.t 2)))⟩, ⟨(some 15), none, (.q (.load none (.t 14)))⟩, ⟨(some 16), none, (.q (.len 1 (.t 15)))⟩, ⟨(some 17), none, (.q (.faddr 1 (.t 3)))⟩, ⟨(some 18), none, (.q (.load none (.t 17)))⟩, ⟨(some 19), none, (.q (.len 1 (.t 18)))⟩, ⟨(some 20), none, (.pcall 173 [(.t 16), (.t 19)])⟩, ⟨(some 5), none, (.q (.mov (.t 20)))⟩] [2, 3, 5])
     .skip))
   (.seq
    (.dreg 4 [⟨(some 21), none, (.q (.faddr 0 (.t 2)))⟩, ⟨(some 22), none, (.q (.load none (.t 21)))⟩, ⟨(some 23), none, (.q (.faddr 0 (.t 3)))⟩, ⟨(some 24), none, (.q (.load none (.t 23)))⟩, ⟨(some 25), none, (.pcall 199 [(.t 22), (.t 24)])⟩, ⟨(some 26), none, (.q (.mov (.t 5)))⟩, ⟨(some 27), none, (.q (.faddr 1 (.t 2)))⟩, ⟨(some 28), none, (.q (.load none (.t 27)))⟩, ⟨(some 29), none, (.q (.faddr 1 (.t 3)))⟩, ⟨(some 30), none, (.q (.load none (.t 29)))⟩, ⟨(some 31), none, (.pcall 200 [(.t 28), (.t 30)])⟩, ⟨(some 32), none, (.bslt 1 3 [(.int .i64 0)] [⟨0, ⟨1, (.t 25)⟩⟩, ⟨1, ⟨1, (.t 26)⟩⟩, ⟨2, ⟨1, (.t 31)⟩⟩])⟩, ⟨(some 33), none, (.pcall 198 [(.t 32)])⟩, ⟨(some 4), none, (.q (.mov (.t 33)))⟩] false [4])
    .ret))))
theorem fok191 : FOK Tryz.prog 191 (34, ic191, [(.t 4)]) := .mk (pf := ([1000002, 1000003, 1000032] ++ allF2)) (an := [(0, [2, 3]), (1, [2, 3, 5]), (2, [2, 3, 5, 13]), (3, [2, 3, 5]), (4, [4])]) (by kernel_rfl) (fnOK_of Tryz.func191 (by kernel_rfl) (by kernel_rfl) (by kernel_rfl))
/-- chandlery/vercmp.parts -/
def ic197 : IC :=
(.seq
 (.reg 0 [⟨(some 1), none, (.boxt (.t 0))⟩, ⟨(some 2), none, (.q (.mov (.c .nilfunc)))⟩] [1])
 (.seq
  (.reg 1 [⟨(some 3), none, (.q (.mkf 202 [] [(.t 1)]))⟩, ⟨(some 2), none, (.q (.mov (.t 3)))⟩] [2])
  .ret))
theorem fok197 : FOK Tryz.prog 197 (4, ic197, [(.t 2)]) := .mk (pf := [1000001]) (an := [(0, [1]), (1, [2])]) (by kernel_rfl) (fnOK_of Tryz.func197 (by kernel_rfl) (by kernel_rfl) (by kernel_rfl))
/-- cmp.Or[int] -/
def ic198 : IC :=
(.seq
 (.reg 0 [⟨(some 2), none, (.q (.mov (.c (.int .i64 0))))⟩] [0])
 (.seq
  (.reg 1 [⟨(some 3), none, (.q (.mov (.c (.int .i64 0))))⟩] [0, 3])
  (.seq
   (.seq
    (.reg 2 [⟨(some 6), none, (.q (.mov (.t 0)))⟩, ⟨(some 7), none, (.q (.len 0 (.t 6)))⟩, ⟨(some 8), none, (.q (.mov (.c (.int .i64 0))))⟩] [3, 6, 7, 8])
    (.block 0
     (.loop
      (.seq
       (.reg 3 [⟨(some 9), none, (.q (.bin .lss (.t 8) (.t 7)))⟩] [3, 6, 7, 8, 9])
       (.seq
        (.cond (.t 9)
         .skip
         (.exit 0))
        (.seq
         (.block 1
          (.seq
           (.reg 4 [⟨(some 10), none, (.q (.iaddr 1 (.t 6) (.t 8)))⟩, ⟨(some 11), none, (.q (.load none (.t 10)))⟩, ⟨(some 5), none, (.q (.mov (.t 11)))⟩] [3, 5, 6, 7, 8])
           (.seq
            (.reg 5 [⟨(some 12), none, (.q (.mov (.t 5)))⟩, ⟨(some 13), none, (.q (.mov (.t 3)))⟩, ⟨(some 14), none, (.q (.bin .neq (.t 12) (.t 13)))⟩] [3, 5, 6, 7, 8, 14])
            (.cond (.t 14)
            (.seq
            (.reg 6 [⟨(some 15), none, (.q (.mov (.t 5)))⟩, ⟨(some 2), none, (.q (.mov (.t 15)))⟩] [2])
            .ret)
            .skip))))
         (.reg 7 [⟨(some 16), none, (.q (.bin .add (.t 8) (.c (.int .i64 1))))⟩, ⟨(some 8), none, (.q (.mov (.t 16)))⟩] [3, 6, 7, 8])))))))
   (.seq
    (.reg 8 [⟨(some 17), none, (.q (.mov (.t 3)))⟩, ⟨(some 2), none, (.q (.mov (.t 17)))⟩] [2])
    .ret))))
theorem fok198 : FOK Tryz.prog 198 (18, ic198, [(.t 2)]) := .mk (pf := []) (an := [(0, [0]), (1, [0, 3]), (2, [3, 6, 7, 8]), (3, [3, 6, 7, 8, 9]), (4, [3, 5, 6, 7, 8]), (5, [3, 5, 6, 7, 8, 14]), (6, [2]), (7, [3, 6, 7, 8]), (8, [2])]) (by kernel_rfl) (fnOK_of Tryz.func198 (by kernel_rfl) (by kernel_rfl) (by kernel_rfl))
/-- cmp.Compare[uint8] -/
def ic199 : IC :=
(.seq
 (.reg 0 [⟨(some 4), none, (.q (.mov (.c (.int .i64 0))))⟩] [0, 1])
 (.seq
  (.reg 1 [⟨(some 7), none, (.q (.mov (.t 0)))⟩, ⟨(some 8), none, (.call 205 [(.t 7)])⟩, ⟨(some 5), none, (.q (.mov (.t 8)))⟩] [0, 1, 5])
  (.seq
   (.reg 2 [⟨(some 9), none, (.q (.mov (.t 1)))⟩, ⟨(some 10), none, (.call 205 [(.t 9)])⟩, ⟨(some 6), none, (.q (.mov (.t 10)))⟩] [0, 1, 5, 6])
   (.seq
    (.seq
     (.reg 3 [⟨(some 11), none, (.q (.mov (.t 5)))⟩] [0, 1, 6, 11])
     (.cond (.t 11)
      (.seq
       (.seq
        (.reg 4 [⟨(some 12), none, (.q (.mov (.t 6)))⟩] [12])
        (.cond (.t 12)
         (.seq
          (.reg 5 [⟨(some 4), none, (.q (.mov (.c (.int .i64 0))))⟩] [4])
          .ret)
         .skip))
       (.seq
        (.reg 6 [⟨(some 4), none, (.q (.mov (.c (.int .i64 (-1)))))⟩] [4])
        .ret))
      .skip))
    (.seq
     (.seq
      (.reg 7 [⟨(some 13), none, (.q (.mov (.t 6)))⟩] [0, 1, 13])
      (.cond (.t 13)
       (.seq
        (.reg 8 [⟨(some 4), none, (.q (.mov (.c (.int .i64 1))))⟩] [4])
        .ret)
       .skip))
     (.seq
      (.seq
       (.reg 9 [⟨(some 14), none, (.q (.mov (.t 0)))⟩, ⟨(some 15), none, (.q (.mov (.t 1)))⟩, ⟨(some 16), none, (.q (.bin .lss (.t 14) (.t 15)))⟩] [0, 1, 16])
       (.cond (.t 16)
        (.seq
         (.reg 10 [⟨(some 4), none, (.q (.mov (.c (.int .i64 (-1)))))⟩] [4])
         .ret)
        .skip))
      (.seq
       (.seq
        (.reg 11 [⟨(some 17), none, (.q (.mov (.t 0)))⟩, ⟨(some 18), none, (.q (.mov (.t 1)))⟩, ⟨(some 19), none, (.q (.bin .gtr (.t 17) (.t 18)))⟩] [19])
        (.cond (.t 19)
         (.seq
          (.reg 12 [⟨(some 4), none, (.q (.mov (.c (.int .i64 1))))⟩] [4])
          .ret)
         .skip))
       (.seq
        (.reg 13 [⟨(some 4), none, (.q (.mov (.c (.int .i64 0))))⟩] [4])
        .ret))))))))
theorem fok199 : FOK Tryz.prog 199 (20, ic199, [(.t 4)]) := .mk (pf := []) (an := [(0, [0, 1]), (1, [0, 1, 5]), (2, [0, 1, 5, 6]), (3, [0, 1, 6, 11]), (4, [12]), (5, [4]), (6, [4]), (7, [0, 1, 13]), (8, [4]), (9, [0, 1, 16]), (10, [4]), (11, [19]), (12, [4]), (13, [4])]) (by kernel_rfl) (fnOK_of Tryz.func199 (by kernel_rfl) (by kernel_rfl) (by kernel_rfl))
/-- cmp.Compare[string] -/
def ic200 : IC :=
(.seq
 (.reg 0 [⟨(some 4), none, (.q (.mov (.c (.int .i64 0))))⟩] [0, 1])
 (.seq
  (.reg 1 [⟨(some 7), none, (.q (.mov (.t 0)))⟩, ⟨(some 8), none, (.call 187 [(.t 7)])⟩, ⟨(some 5), none, (.q (.mov (.t 8)))⟩] [0, 1, 5])
  (.seq
   (.reg 2 [⟨(some 9), none, (.q (.mov (.t 1)))⟩, ⟨(some 10), none, (.call 187 [(.t 9)])⟩, ⟨(some 6), none, (.q (.mov (.t 10)))⟩] [0, 1, 5, 6])
   (.seq
    (.seq
     (.reg 3 [⟨(some 11), none, (.q (.mov (.t 5)))⟩] [0, 1, 6, 11])
     (.cond (.t 11)
      (.seq
       (.seq
        (.reg 4 [⟨(some 12), none, (.q (.mov (.t 6)))⟩] [12])
        (.cond (.t 12)
         (.seq
          (.reg 5 [⟨(some 4), none, (.q (.mov (.c (.int .i64 0))))⟩] [4])
          .ret)
         .skip))
       (.seq
        (.reg 6 [⟨(some 4), none, (.q (.mov (.c (.int .i64 (-1)))))⟩] [4])
        .ret))
      .skip))
    (.seq
     (.seq
      (.reg 7 [⟨(some 13), none, (.q (.mov (.t 6)))⟩] [0, 1, 13])
      (.cond (.t 13)
       (.seq
        (.reg 8 [⟨(some 4), none, (.q (.mov (.c (.int .i64 1))))⟩] [4])
        .ret)
       .skip))
     (.seq
      (.seq
       (.reg 9 [⟨(some 14), none, (.q (.mov (.t 0)))⟩, ⟨(some 15), none, (.q (.mov (.t 1)))⟩, ⟨(some 16), none, (.q (.bin .lss (.t 14) (.t 15)))⟩] [0, 1, 16])
       (.cond (.t 16)
        (.seq
         (.reg 10 [⟨(some 4), none, (.q (.mov (.c (.int .i64 (-1)))))⟩] [4])
         .ret)
        .skip))
      (.seq
       (.seq
        (.reg 11 [⟨(some 17), none, (.q (.mov (.t 0)))⟩, ⟨(some 18), none, (.q (.mov (.t 1)))⟩, ⟨(some 19), none, (.q (.bin .gtr (.t 17) (.t 18)))⟩] [19])
        (.cond (.t 19)
         (.seq
          (.reg 12 [⟨(some 4), none, (.q (.mov (.c (.int .i64 1))))⟩] [4])
          .ret)
         .skip))
       (.seq
        (.reg 13 [⟨(some 4), none, (.q (.mov (.c (.int .i64 0))))⟩] [4])
        .ret))))))))
theorem fok200 : FOK Tryz.prog 200 (20, ic200, [(.t 4)]) := .mk (pf := []) (an := [(0, [0, 1]), (1, [0, 1, 5]), (2, [0, 1, 5, 6]), (3, [0, 1, 6, 11]), (4, [12]), (5, [4]), (6, [4]), (7, [0, 1, 13]), (8, [4]), (9, [0, 1, 16]), (10, [4]), (11, [19]), (12, [4]), (13, [4])]) (by kernel_rfl) (fnOK_of Tryz.func200 (by kernel_rfl) (by kernel_rfl) (by kernel_rfl))
/-- chandlery/vercmp.parts$1 -/
def ic202 : IC :=
(.seq
 (.reg 0 [⟨(some 3), none, (.q (.mov (.c (.int .i64 0))))⟩] [0, 1, 3])
 (.block 0
  (.loop
   (.seq
    (.seq
     (.reg 1 [⟨(some 6), none, (.q (.mov (.t 3)))⟩, ⟨(some 7), none, (.q (.load none (.t 1)))⟩, ⟨(some 8), none, (.q (.len 1 (.t 7)))⟩, ⟨(some 9), none, (.q (.bin .lss (.t 6) (.t 8)))⟩] [0, 1, 3, 9])
     (.cond (.t 9)
      .skip
      (.exit 0)))
    (.block 1
     (.seq
      (.reg 2 [⟨(some 10), none, (.q (.load none (.t 1)))⟩, ⟨(some 11), none, (.q (.mov (.t 3)))⟩, ⟨(some 12), none, (.q (.istr (.t 10) (.t 11)))⟩, ⟨(some 13), none, (.pcall 203 [(.t 12)])⟩, ⟨(some 14), none, (.q (.bld [(.int .u8 0), (.str [])] [⟨0, ⟨1, (.t 13)⟩⟩]))⟩, ⟨(some 4), none, (.alloc [(.int .u8 0), (.str [])])⟩, ⟨none, none, (.store 2 (.t 4) (.t 14))⟩] [0, 1, 3, 4])
      (.seq
       (.reg 3 [⟨(some 15), none, (.q (.mov (.t 3)))⟩, ⟨(some 5), none, (.q (.mov (.t 15)))⟩] [0, 1, 3, 4, 5])
       (.seq
        (.seq
         (.reg 4 [⟨(some 16), none, (.q (.mov (.t 3)))⟩, ⟨(some 17), none, (.q (.bin .add (.t 16) (.c (.int .i64 1))))⟩, ⟨(some 3), none, (.q (.mov (.t 17)))⟩] [0, 1, 3, 4, 5])
         (.block 2
          (.loop
           (.seq
            (.seq
            (.dreg 5 [⟨(some 18), none, (.q (.faddr 0 (.t 4)))⟩, ⟨(some 19), none, (.q (.load none (.t 18)))⟩, ⟨(some 20), none, (.q (.bin .geq (.t 19) (.c (.int .u8 4))))⟩, ⟨(some 21), none, (.q (.mov (.t 20)))⟩, ⟨(some 22), (some ⟨21, true⟩), (.q (.mov (.t 3)))⟩, ⟨(some 23), (some ⟨21, true⟩), (.q (.load none (.t 1)))⟩, ⟨(some 24), (some ⟨21, true⟩), (.q (.len 1 (.t 23)))⟩, ⟨(some 25), (some ⟨21, true⟩), (.q (.bin .lss (.t 22) (.t 24)))⟩, ⟨(some 26), none, (.q (.pick (.t 21) (.t 25) (.c (.bool false))))⟩, ⟨(some 27), none, (.q (.mov (.t 26)))⟩, ⟨(some 28), (some ⟨27, true⟩), (.q (.load none (.t 1)))⟩, ⟨(some 29), (some ⟨27, true⟩), (.q (.mov (.t 3)))⟩, ⟨(some 30), (some ⟨27, true⟩), (.q (.istr (.t 28) (.t 29)))⟩, ⟨(some 31), (some ⟨27, true⟩), (.pcall 203 [(.t 30)])⟩, ⟨(some 32), (some ⟨27, true⟩), (.q (.faddr 0 (.t 4)))⟩, ⟨(some 33), (some ⟨27, true⟩), (.q (.load none (.t 32)))⟩, ⟨(some 34), (some ⟨27, true⟩), (.q (.bin .eql (.t 31) (.t 33)))⟩, ⟨(some 35), none, (.q (.pick (.t 27) (.t 34) (.c (.bool false))))⟩] false [0, 1, 3, 4, 5, 35])
            (.cond (.t 35)
            .skip
            (.exit 2)))
            (.seq
            (.block 3
            .skip)
            (.reg 6 [⟨(some 36), none, (.q (.mov (.t 3)))⟩, ⟨(some 37), none, (.q (.bin .add (.t 36) (.c (.int .i64 1))))⟩, ⟨(some 3), none, (.q (.mov (.t 37)))⟩] [0, 1, 3, 4, 5]))))))
        (.seq
         (.seq
          (.reg 7 [⟨(some 38), none, (.q (.faddr 0 (.t 4)))⟩, ⟨(some 39), none, (.q (.load none (.t 38)))⟩, ⟨(some 40), none, (.q (.bin .geq (.t 39) (.c (.int .u8 4))))⟩] [0, 1, 3, 4, 5, 40])
          (.cond (.t 40)
           (.reg 8 [⟨(some 41), none, (.q (.load none (.t 1)))⟩, ⟨(some 42), none, (.q (.mov (.t 5)))⟩, ⟨(some 43), none, (.q (.mov (.t 3)))⟩, ⟨(some 44), none, (.q (.sstr (.t 41) (some (.t 42)) (some (.t 43))))⟩, ⟨(some 45), none, (.q (.faddr 1 (.t 4)))⟩, ⟨none, none, (.store 1 (.t 45) (.t 44))⟩] [0, 1, 3, 4])
           .skip))
         (.seq
          (.seq
           (.reg 9 [⟨(some 46), none, (.q (.faddr 0 (.t 4)))⟩, ⟨(some 47), none, (.q (.load none (.t 46)))⟩, ⟨(some 48), none, (.q (.bin .eql (.t 47) (.c (.int .u8 5))))⟩] [0, 1, 3, 4, 48])
           (.cond (.t 48)
            (.reg 10 [⟨(some 49), none, (.q (.faddr 1 (.t 4)))⟩, ⟨(some 50), none, (.q (.load none (.t 49)))⟩, ⟨(some 51), none, (.pcall 204 [(.t 50), (.c (.str [48]))])⟩, ⟨(some 52), none, (.q (.faddr 1 (.t 4)))⟩, ⟨none, none, (.store 1 (.t 52) (.t 51))⟩] [0, 1, 3, 4])
            .skip))
          (.seq
           (.reg 11 [⟨(some 53), none, (.q (.faddr 0 (.t 4)))⟩, ⟨(some 54), none, (.q (.load none (.t 53)))⟩, ⟨(some 55), none, (.q (.bin .neq (.t 54) (.c (.int .u8 0))))⟩, ⟨(some 56), none, (.q (.mov (.t 55)))⟩, ⟨(some 57), (some ⟨56, true⟩), (.q (.mov (.t 0)))⟩, ⟨(some 58), (some ⟨56, true⟩), (.q (.load (some 2) (.t 4)))⟩, ⟨(some 59), (some ⟨56, true⟩), (.callv (.t 57) [(.t 58)])⟩, ⟨(some 60), (some ⟨56, true⟩), (.q (.not (.t 59)))⟩, ⟨(some 61), none, (.q (.pick (.t 56) (.t 60) (.c (.bool false))))⟩] [0, 1, 3, 61])
           (.cond (.t 61)
            .ret
            .skip))))))))))))
theorem fok202 : FOK Tryz.prog 202 (62, ic202, []) := .mk (pf := ([] ++ allF2)) (an := [(0, [0, 1, 3]), (1, [0, 1, 3, 9]), (2, [0, 1, 3, 4]), (3, [0, 1, 3, 4, 5]), (4, [0, 1, 3, 4, 5]), (5, [0, 1, 3, 4, 5, 35]), (6, [0, 1, 3, 4, 5]), (7, [0, 1, 3, 4, 5, 40]), (8, [0, 1, 3, 4]), (9, [0, 1, 3, 4, 48]), (10, [0, 1, 3, 4]), (11, [0, 1, 3, 61])]) (by kernel_rfl) (fnOK_of Tryz.func202 (by kernel_rfl) (by kernel_rfl) (by kernel_rfl))
/-- chandlery/vercmp.kind -/
def ic203 : IC :=
(.seq
 (.reg 0 [⟨(some 2), none, (.q (.mov (.c (.int .u8 0))))⟩] [0])
 (.seq
  (.block 0
   (.seq
    (.reg 1 [⟨(some 4), none, (.q (.mov (.t 0)))⟩, ⟨(some 5), none, (.q (.bin .eql (.t 4) (.c (.int .u8 126))))⟩, ⟨(some 3), none, (.q (.mov (.t 5)))⟩] [0, 3])
    (.cond (.t 3)
     (.seq
      (.reg 2 [⟨(some 2), none, (.q (.mov (.c (.int .u8 1))))⟩] [2])
      .ret)
     (.seq
      (.reg 3 [⟨(some 7), none, (.q (.mov (.t 0)))⟩, ⟨(some 8), none, (.q (.bin .eql (.t 7) (.c (.int .u8 94))))⟩, ⟨(some 6), none, (.q (.mov (.t 8)))⟩] [0, 6])
      (.cond (.t 6)
       (.seq
        (.reg 4 [⟨(some 2), none, (.q (.mov (.c (.int .u8 3))))⟩] [2])
        .ret)
       (.seq
        (.reg 5 [⟨(some 10), none, (.q (.mov (.t 0)))⟩, ⟨(some 11), none, (.q (.bin .geq (.t 10) (.c (.int .u8 97))))⟩, ⟨(some 12), none, (.q (.mov (.t 11)))⟩, ⟨(some 13), (some ⟨12, true⟩), (.q (.mov (.t 0)))⟩, ⟨(some 14), (some ⟨12, true⟩), (.q (.bin .leq (.t 13) (.c (.int .u8 122))))⟩, ⟨(some 15), none, (.q (.pick (.t 12) (.t 14) (.c (.bool false))))⟩, ⟨(some 16), none, (.q (.mov (.t 15)))⟩, ⟨(some 17), (some ⟨16, false⟩), (.q (.mov (.t 0)))⟩, ⟨(some 18), (some ⟨16, false⟩), (.q (.bin .geq (.t 17) (.c (.int .u8 65))))⟩, ⟨(some 19), (some ⟨16, false⟩), (.q (.mov (.t 18)))⟩, ⟨(some 20), (some ⟨19, true⟩), (.q (.mov (.t 0)))⟩, ⟨(some 21), (some ⟨19, true⟩), (.q (.bin .leq (.t 20) (.c (.int .u8 90))))⟩, ⟨(some 22), (some ⟨16, false⟩), (.q (.pick (.t 19) (.t 21) (.c (.bool false))))⟩, ⟨(some 23), none, (.q (.pick (.t 16) (.c (.bool true)) (.t 22)))⟩, ⟨(some 9), none, (.q (.mov (.t 23)))⟩] [0, 9])
        (.cond (.t 9)
         (.seq
          (.reg 6 [⟨(some 2), none, (.q (.mov (.c (.int .u8 4))))⟩] [2])
          .ret)
         (.seq
          (.reg 7 [⟨(some 25), none, (.q (.mov (.t 0)))⟩, ⟨(some 26), none, (.q (.bin .geq (.t 25) (.c (.int .u8 48))))⟩, ⟨(some 27), none, (.q (.mov (.t 26)))⟩, ⟨(some 28), (some ⟨27, true⟩), (.q (.mov (.t 0)))⟩, ⟨(some 29), (some ⟨27, true⟩), (.q (.bin .leq (.t 28) (.c (.int .u8 57))))⟩, ⟨(some 30), none, (.q (.pick (.t 27) (.t 29) (.c (.bool false))))⟩, ⟨(some 24), none, (.q (.mov (.t 30)))⟩] [24])
          (.cond (.t 24)
           (.seq
            (.reg 8 [⟨(some 2), none, (.q (.mov (.c (.int .u8 5))))⟩] [2])
            .ret)
           .skip)))))))))
  (.seq
   (.reg 9 [⟨(some 2), none, (.q (.mov (.c (.int .u8 0))))⟩] [2])
   .ret)))
theorem fok203 : FOK Tryz.prog 203 (31, ic203, [(.t 2)]) := .mk (pf := []) (an := [(0, [0]), (1, [0, 3]), (2, [2]), (3, [0, 6]), (4, [2]), (5, [0, 9]), (6, [2]), (7, [24]), (8, [2]), (9, [2])]) (by kernel_rfl) (fnOK_of Tryz.func203 (by kernel_rfl) (by kernel_rfl) (by kernel_rfl))
/-- strings.TrimLeft -/
def ic204 : IC :=
(.seq
 (.reg 0 [⟨(some 4), none, (.q (.mov (.c (.str []))))⟩] [0, 1])
 (.seq
  (.seq
   (.reg 1 [⟨(some 7), none, (.q (.mov (.t 0)))⟩, ⟨(some 8), none, (.q (.bin .eql (.t 7) (.c (.str []))))⟩, ⟨(some 9), none, (.q (.mov (.t 8)))⟩, ⟨(some 10), (some ⟨9, false⟩), (.q (.mov (.t 1)))⟩, ⟨(some 11), (some ⟨9, false⟩), (.q (.bin .eql (.t 10) (.c (.str []))))⟩, ⟨(some 12), none, (.q (.pick (.t 9) (.c (.bool true)) (.t 11)))⟩] [0, 1, 12])
   (.cond (.t 12)
    (.seq
     (.reg 2 [⟨(some 13), none, (.q (.mov (.t 0)))⟩, ⟨(some 4), none, (.q (.mov (.t 13)))⟩] [4])
     .ret)
    .skip))
  (.seq
   (.seq
    (.reg 3 [⟨(some 14), none, (.q (.mov (.t 1)))⟩, ⟨(some 15), none, (.q (.len 1 (.t 14)))⟩, ⟨(some 16), none, (.q (.bin .eql (.t 15) (.c (.int .i64 1))))⟩, ⟨(some 17), none, (.q (.mov (.t 16)))⟩, ⟨(some 18), (some ⟨17, true⟩), (.q (.mov (.t 1)))⟩, ⟨(some 19), (some ⟨17, true⟩), (.q (.istr (.t 18) (.c (.int .i64 0))))⟩, ⟨(some 20), (some ⟨17, true⟩), (.q (.bin .lss (.t 19) (.c (.int .u8 128))))⟩, ⟨(some 21), none, (.q (.pick (.t 17) (.t 20) (.c (.bool false))))⟩] [0, 1, 21])
    (.cond (.t 21)
     (.seq
      (.reg 4 [⟨(some 22), none, (.q (.mov (.t 0)))⟩, ⟨(some 23), none, (.q (.mov (.t 1)))⟩, ⟨(some 24), none, (.q (.istr (.t 23) (.c (.int .i64 0))))⟩, ⟨(some 25), none, (.call 206 [(.t 22), (.t 24)])⟩, ⟨(some 4), none, (.q (.mov (.t 25)))⟩] [4])
      .ret)
     .skip))
   (.seq
    (.seq
     (.reg 5 [⟨(some 27), none, (.q (.mov (.t 1)))⟩, ⟨(some 28), none, (.call 207 [(.t 27)])⟩, ⟨(some 26), none, (.q (.mov (.t 28)))⟩, ⟨(some 29), none, (.q (.ext 0 (.t 26)))⟩, ⟨(some 30), none, (.q (.ext 1 (.t 26)))⟩, ⟨(some 5), none, (.alloc [(.bool false), (.bool false), (.bool false), (.bool false), (.bool false), (.bool false), (.bool false), (.bool false), (.bool false), (.bool false), (.bool false), (.bool false), (.bool false), (.bool false), (.bool false), (.bool false), (.bool false), (.bool false), (.bool false), (.bool false), (.bool false), (.bool false), (.bool false), (.bool false), (.bool false), (.bool false), (.bool false), (.bool false), (.bool false), (.bool false), (.bool false), (.bool false), (.bool false), (.bool false), (.bool false), (.bool false), (.bool false), (.bool false), (.bool false), (.bool false), (.bool false), (.bool false), (.bool false), (.bool false), (.bool false), (.bool false), (.bool false), (.bool false), (.bool false), (.bool false), (.bool false), (.bool false), (.bool false), (.bool false), (.bool false), (.bool false), (.bool false), (.bool false), (.bool false), (.bool false), (.bool false), (.bool false), (.bool false), (.bool false), (.bool false), (.bool false), (.bool false), (.bool false), (.bool false), (.bool false), (.bool false), (.bool false), (.bool false), (.bool false), (.bool false), (.bool false), (.bool false), (.bool false), (.bool false), (.bool false), (.bool false), (.bool false), (.bool false), (.bool false), (.bool false), (.bool false), (.bool false), (.bool false), (.bool false), (.bool false), (.bool false), (.bool false), (.bool false), (.bool false), (.bool false), (.bool false), (.bool false), (.bool false), (.bool false), (.bool false), (.bool false), (.bool false), (.bool false), (.bool false), (.bool false), (.bool false), (.bool false), (.bool false), (.bool false), (.bool false), (.bool false), (.bool false), (.bool false), (.bool false), (.bool false), (.bool false), (.bool false), (.bool false), (.bool false), (.bool false), (.bool false), (.bool false), (.bool false), (.bool false), (.bool false), (.bool false), (.bool false), (.bool false), (.bool false), (.bool false), (.bool false), (.bool false), (.bool false), (.bool false), (.bool false), (.bool false), (.bool false), (.bool false), (.bool false), (.bool false), (.bool false), (.bool false), (.bool false), (.bool false), (.bool false), (.bool false), (.bool false), (.bool false), (.bool false), (.bool false), (.bool false), (.bool false), (.bool false), (.bool false), (.bool false), (.bool false), (.bool false), (.bool false), (.bool false), (.bool false), (.bool false), (.bool false), (.bool false), (.bool false), (.bool false), (.bool false), (.bool false), (.bool false), (.bool false), (.bool false), (.bool false), (.bool false), (.bool false), (.bool false), (.bool false), (.bool false), (.bool false), (.bool false), (.bool false), (.bool false), (.bool false), (.bool false), (.bool false), (.bool false), (.bool false), (.bool false), (.bool false), (.bool false), (.bool false), (.bool false), (.bool false), (.bool false), (.bool false), (.bool false), (.bool false), (.bool false), (.bool false), (.bool false), (.bool false), (.bool false), (.bool false), (.bool false), (.bool false), (.bool false), (.bool false), (.bool false), (.bool false), (.bool false), (.bool false), (.bool false), (.bool false), (.bool false), (.bool false), (.bool false), (.bool false), (.bool false), (.bool false), (.bool false), (.bool false), (.bool false), (.bool false), (.bool false), (.bool false), (.bool false), (.bool false), (.bool false), (.bool false), (.bool false), (.bool false), (.bool false), (.bool false), (.bool false), (.bool false), (.bool false), (.bool false), (.bool false), (.bool false), (.bool false), (.bool false), (.bool false), (.bool false), (.bool false), (.bool false), (.bool false), (.bool false), (.bool false), (.bool false), (.bool false), (.bool false), (.bool false), (.bool false), (.bool false), (.bool false), (.bool false), (.bool false), (.bool false)])⟩, ⟨none, none, (.store 256 (.t 5) (.t 29))⟩, ⟨(some 6), none, (.q (.mov (.t 30)))⟩] [0, 1, 5, 6])
     (.seq
      (.reg 6 [⟨(some 31), none, (.q (.mov (.t 6)))⟩] [0, 1, 5, 31])
      (.cond (.t 31)
       (.seq
        (.reg 7 [⟨(some 32), none, (.q (.mov (.t 0)))⟩, ⟨(some 33), none, (.call 208 [(.t 32), (.t 5)])⟩, ⟨(some 4), none, (.q (.mov (.t 33)))⟩] [4])
        .ret)
       .skip)))
    (.seq
     (.reg 8 [⟨(some 34), none, (.q (.mov (.t 0)))⟩, ⟨(some 35), none, (.q (.mov (.t 1)))⟩, ⟨(some 36), none, (.call 209 [(.t 34), (.t 35)])⟩, ⟨(some 4), none, (.q (.mov (.t 36)))⟩] [4])
     .ret)))))
theorem fok204 : FOK Tryz.prog 204 (37, ic204, [(.t 4)]) := .mk (pf := []) (an := [(0, [0, 1]), (1, [0, 1, 12]), (2, [4]), (3, [0, 1, 21]), (4, [4]), (5, [0, 1, 5, 6]), (6, [0, 1, 5, 31]), (7, [4]), (8, [4])]) (by kernel_rfl) (fnOK_of Tryz.func204 (by kernel_rfl) (by kernel_rfl) (by kernel_rfl))
/-- cmp.isNaN[uint8] -/
def ic205 : IC :=
(.seq
 (.reg 0 [⟨(some 2), none, (.q (.mov (.c (.bool false))))⟩] [0])
 (.seq
  (.reg 1 [⟨(some 3), none, (.q (.mov (.t 0)))⟩, ⟨(some 4), none, (.q (.mov (.t 0)))⟩, ⟨(some 5), none, (.q (.bin .neq (.t 3) (.t 4)))⟩, ⟨(some 2), none, (.q (.mov (.t 5)))⟩] [2])
  .ret))
theorem fok205 : FOK Tryz.prog 205 (6, ic205, [(.t 2)]) := .mk (pf := []) (an := [(0, [0]), (1, [2])]) (by kernel_rfl) (fnOK_of Tryz.func205 (by kernel_rfl) (by kernel_rfl) (by kernel_rfl))
/-- strings.trimLeftByte -/
def ic206 : IC :=
(.seq
 (.reg 0 [⟨(some 4), none, (.q (.mov (.c (.str []))))⟩] [0, 1])
 (.seq
  (.block 0
   (.loop
    (.seq
     (.seq
      (.reg 1 [⟨(some 5), none, (.q (.mov (.t 0)))⟩, ⟨(some 6), none, (.q (.len 1 (.t 5)))⟩, ⟨(some 7), none, (.q (.bin .gtr (.t 6) (.c (.int .i64 0))))⟩, ⟨(some 8), none, (.q (.mov (.t 7)))⟩, ⟨(some 9), (some ⟨8, true⟩), (.q (.mov (.t 0)))⟩, ⟨(some 10), (some ⟨8, true⟩), (.q (.istr (.t 9) (.c (.int .i64 0))))⟩, ⟨(some 11), (some ⟨8, true⟩), (.q (.mov (.t 1)))⟩, ⟨(some 12), (some ⟨8, true⟩), (.q (.bin .eql (.t 10) (.t 11)))⟩, ⟨(some 13), none, (.q (.pick (.t 8) (.t 12) (.c (.bool false))))⟩] [0, 1, 13])
      (.cond (.t 13)
       .skip
       (.exit 0)))
     (.block 1
      (.reg 2 [⟨(some 14), none, (.q (.mov (.t 0)))⟩, ⟨(some 15), none, (.q (.sstr (.t 14) (some (.c (.int .i64 1))) none))⟩, ⟨(some 0), none, (.q (.mov (.t 15)))⟩] [0, 1])))))
  (.seq
   (.reg 3 [⟨(some 16), none, (.q (.mov (.t 0)))⟩, ⟨(some 4), none, (.q (.mov (.t 16)))⟩] [4])
   .ret)))
theorem fok206 : FOK Tryz.prog 206 (17, ic206, [(.t 4)]) := .mk (pf := []) (an := [(0, [0, 1]), (1, [0, 1, 13]), (2, [0, 1]), (3, [4])]) (by kernel_rfl) (fnOK_of Tryz.func206 (by kernel_rfl) (by kernel_rfl) (by kernel_rfl))
/-- strings.makeASCIISet -/
def ic207 : IC :=
(.seq
 (.reg 0 [⟨(some 2), none, (.alloc [(.bool false), (.bool false), (.bool false), (.bool false), (.bool false), (.bool false), (.bool false), (.bool false), (.bool false), (.bool false), (.bool false), (.bool false), (.bool false), (.bool false), (.bool false), (.bool false), (.bool false), (.bool false), (.bool false), (.bool false), (.bool false), (.bool false), (.bool false), (.bool false), (.bool false), (.bool false), (.bool false), (.bool false), (.bool false), (.bool false), (.bool false), (.bool false), (.bool false), (.bool false), (.bool false), (.bool false), (.bool false), (.bool false), (.bool false), (.bool false), (.bool false), (.bool false), (.bool false), (.bool false), (.bool false), (.bool false), (.bool false), (.bool false), (.bool false), (.bool false), (.bool false), (.bool false), (.bool false), (.bool false), (.bool false), (.bool false), (.bool false), (.bool false), (.bool false), (.bool false), (.bool false), (.bool false), (.bool false), (.bool false), (.bool false), (.bool false), (.bool false), (.bool false), (.bool false), (.bool false), (.bool false), (.bool false), (.bool false), (.bool false), (.bool false), (.bool false), (.bool false), (.bool false), (.bool false), (.bool false), (.bool false), (.bool false), (.bool false), (.bool false), (.bool false), (.bool false), (.bool false), (.bool false), (.bool false), (.bool false), (.bool false), (.bool false), (.bool false), (.bool false), (.bool false), (.bool false), (.bool false), (.bool false), (.bool false), (.bool false), (.bool false), (.bool false), (.bool false), (.bool false), (.bool false), (.bool false), (.bool false), (.bool false), (.bool false), (.bool false), (.bool false), (.bool false), (.bool false), (.bool false), (.bool false), (.bool false), (.bool false), (.bool false), (.bool false), (.bool false), (.bool false), (.bool false), (.bool false), (.bool false), (.bool false), (.bool false), (.bool false), (.bool false), (.bool false), (.bool false), (.bool false), (.bool false), (.bool false), (.bool false), (.bool false), (.bool false), (.bool false), (.bool false), (.bool false), (.bool false), (.bool false), (.bool false), (.bool false), (.bool false), (.bool false), (.bool false), (.bool false), (.bool false), (.bool false), (.bool false), (.bool false), (.bool false), (.bool false), (.bool false), (.bool false), (.bool false), (.bool false), (.bool false), (.bool false), (.bool false), (.bool false), (.bool false), (.bool false), (.bool false), (.bool false), (.bool false), (.bool false), (.bool false), (.bool false), (.bool false), (.bool false), (.bool false), (.bool false), (.bool false), (.bool false), (.bool false), (.bool false), (.bool false), (.bool false), (.bool false), (.bool false), (.bool false), (.bool false), (.bool false), (.bool false), (.bool false), (.bool false), (.bool false), (.bool false), (.bool false), (.bool false), (.bool false), (.bool false), (.bool false), (.bool false), (.bool false), (.bool false), (.bool false), (.bool false), (.bool false), (.bool false), (.bool false), (.bool false), (.bool false), (.bool false), (.bool false), (.bool false), (.bool false), (.bool false), (.bool false), (.bool false), (.bool false), (.bool false), (.bool false), (.bool false), (.bool false), (.bool false), (.bool false), (.bool false), (.bool false), (.bool false), (.bool false), (.bool false), (.bool false), (.bool false), (.bool false), (.bool false), (.bool false), (.bool false), (.bool false), (.bool false), (.bool false), (.bool false), (.bool false), (.bool false), (.bool false), (.bool false), (.bool false), (.bool false), (.bool false), (.bool false), (.bool false), (.bool false), (.bool false), (.bool false), (.bool false), (.bool false), (.bool false), (.bool false), (.bool false), (.bool false), (.bool false), (.bool false), (.bool false), (.bool false), (.bool false)])⟩, ⟨(some 3), none, (.q (.mov (.c (.bool false))))⟩] [0, 2])
 (.seq
  (.seq
   (.reg 1 [⟨(some 4), none, (.q (.mov (.c (.int .i64 0))))⟩] [0, 2, 4])
   (.block 0
    (.loop
     (.seq
      (.seq
       (.reg 2 [⟨(some 6), none, (.q (.mov (.t 4)))⟩, ⟨(some 7), none, (.q (.mov (.t 0)))⟩, ⟨(some 8), none, (.q (.len 1 (.t 7)))⟩, ⟨(some 9), none, (.q (.bin .lss (.t 6) (.t 8)))⟩] [0, 2, 4, 9])
       (.cond (.t 9)
        .skip
        (.exit 0)))
      (.seq
       (.block 1
        (.seq
         (.reg 4 [⟨(some 12), none, (.q (.mov (.t 0)))⟩, ⟨(some 13), none, (.q (.mov (.t 4)))⟩, ⟨(some 14), none, (.q (.istr (.t 12) (.t 13)))⟩, ⟨(some 5), none, (.q (.mov (.t 14)))⟩] [0, 2, 4, 5])
         (.seq
          (.seq
           (.reg 5 [⟨(some 15), none, (.q (.mov (.t 5)))⟩, ⟨(some 16), none, (.q (.bin .geq (.t 15) (.c (.int .u8 128))))⟩] [0, 2, 4, 5, 16])
           (.cond (.t 16)
            (.seq
            (.reg 6 [⟨(some 17), none, (.q (.load (some 256) (.t 2)))⟩, ⟨none, none, (.store 256 (.t 2) (.t 17))⟩, ⟨(some 3), none, (.q (.mov (.c (.bool false))))⟩] [2, 3])
            .ret)
            .skip))
          (.reg 7 [⟨(some 18), none, (.q (.mov (.t 5)))⟩, ⟨(some 19), none, (.q (.aaddr 256 1 (.t 2) (.t 18)))⟩, ⟨none, none, (.store 1 (.t 19) (.c (.bool true)))⟩] [0, 2, 4]))))
       (.reg 3 [⟨(some 10), none, (.q (.mov (.t 4)))⟩, ⟨(some 11), none, (.q (.bin .add (.t 10) (.c (.int .i64 1))))⟩, ⟨(some 4), none, (.q (.mov (.t 11)))⟩] [0, 2, 4]))))))
  (.seq
   (.reg 8 [⟨(some 20), none, (.q (.load (some 256) (.t 2)))⟩, ⟨none, none, (.store 256 (.t 2) (.t 20))⟩, ⟨(some 3), none, (.q (.mov (.c (.bool true))))⟩] [2, 3])
   .ret)))
theorem fok207 : FOK Tryz.prog 207 (21, ic207, [(.cell (some 256) 2), (.t 3)]) := .mk (pf := []) (an := [(0, [0, 2]), (1, [0, 2, 4]), (2, [0, 2, 4, 9]), (3, [0, 2, 4]), (4, [0, 2, 4, 5]), (5, [0, 2, 4, 5, 16]), (6, [2, 3]), (7, [0, 2, 4]), (8, [2, 3])]) (by kernel_rfl) (fnOK_of Tryz.func207 (by kernel_rfl) (by kernel_rfl) (by kernel_rfl))
/-- strings.trimLeftASCII -/
def ic208 : IC :=
(.seq
 (.reg 0 [⟨(some 4), none, (.q (.mov (.c (.str []))))⟩] [0, 1])
 (.seq
  (.block 0
   (.loop
    (.seq
     (.seq
      (.reg 1 [⟨(some 5), none, (.q (.mov (.t 0)))⟩, ⟨(some 6), none, (.q (.len 1 (.t 5)))⟩, ⟨(some 7), none, (.q (.bin .gtr (.t 6) (.c (.int .i64 0))))⟩] [0, 1, 7])
      (.cond (.t 7)
       .skip
       (.exit 0)))
     (.block 1
      (.seq
       (.seq
        (.reg 2 [⟨(some 8), none, (.q (.mov (.t 1)))⟩, ⟨(some 9), none, (.q (.mov (.t 0)))⟩, ⟨(some 10), none, (.q (.istr (.t 9) (.c (.int .i64 0))))⟩, ⟨(some 11), none, (.call 210 [(.t 8), (.t 10)])⟩, ⟨(some 12), none, (.q (.not (.t 11)))⟩] [0, 1, 12])
        (.cond (.t 12)
         (.exit 0)
         .skip))
       (.reg 3 [⟨(some 13), none, (.q (.mov (.t 0)))⟩, ⟨(some 14), none, (.q (.sstr (.t 13) (some (.c (.int .i64 1))) none))⟩, ⟨(some 0), none, (.q (.mov (.t 14)))⟩] [0, 1]))))))
  (.seq
   (.reg 4 [⟨(some 15), none, (.q (.mov (.t 0)))⟩, ⟨(some 4), none, (.q (.mov (.t 15)))⟩] [4])
   .ret)))
theorem fok208 : FOK Tryz.prog 208 (16, ic208, [(.t 4)]) := .mk (pf := []) (an := [(0, [0, 1]), (1, [0, 1, 7]), (2, [0, 1, 12]), (3, [0, 1]), (4, [4])]) (by kernel_rfl) (fnOK_of Tryz.func208 (by kernel_rfl) (by kernel_rfl) (by kernel_rfl))
/-- strings.trimLeftUnicode -/
def ic209 : IC :=
(.seq
 (.reg 0 [⟨(some 4), none, (.q (.mov (.c (.str []))))⟩] [0, 1])
 (.seq
  (.block 0
   (.loop
    (.seq
     (.seq
      (.reg 1 [⟨(some 7), none, (.q (.mov (.t 0)))⟩, ⟨(some 8), none, (.q (.len 1 (.t 7)))⟩, ⟨(some 9), none, (.q (.bin .gtr (.t 8) (.c (.int .i64 0))))⟩] [0, 1, 9])
      (.cond (.t 9)
       .skip
       (.exit 0)))
     (.block 1
      (.seq
       (.reg 2 [⟨(some 11), none, (.q (.mov (.t 0)))⟩, ⟨(some 12), none, (.call 211 [(.t 11)])⟩, ⟨(some 10), none, (.q (.mov (.t 12)))⟩, ⟨(some 13), none, (.q (.ext 0 (.t 10)))⟩, ⟨(some 14), none, (.q (.ext 1 (.t 10)))⟩, ⟨(some 5), none, (.q (.mov (.t 13)))⟩, ⟨(some 6), none, (.q (.mov (.t 14)))⟩] [0, 1, 5, 6])
       (.seq
        (.seq
         (.reg 3 [⟨(some 15), none, (.q (.mov (.t 1)))⟩, ⟨(some 16), none, (.q (.mov (.t 5)))⟩, ⟨(some 17), none, (.call 212 [(.t 15), (.t 16)])⟩, ⟨(some 18), none, (.q (.not (.t 17)))⟩] [0, 1, 6, 18])
         (.cond (.t 18)
          (.exit 0)
          .skip))
        (.reg 4 [⟨(some 19), none, (.q (.mov (.t 0)))⟩, ⟨(some 20), none, (.q (.mov (.t 6)))⟩, ⟨(some 21), none, (.q (.sstr (.t 19) (some (.t 20)) none))⟩, ⟨(some 0), none, (.q (.mov (.t 21)))⟩] [0, 1])))))))
  (.seq
   (.reg 5 [⟨(some 22), none, (.q (.mov (.t 0)))⟩, ⟨(some 4), none, (.q (.mov (.t 22)))⟩] [4])
   .ret)))
theorem fok209 : FOK Tryz.prog 209 (23, ic209, [(.t 4)]) := .mk (pf := []) (an := [(0, [0, 1]), (1, [0, 1, 9]), (2, [0, 1, 5, 6]), (3, [0, 1, 6, 18]), (4, [0, 1]), (5, [4])]) (by kernel_rfl) (fnOK_of Tryz.func209 (by kernel_rfl) (by kernel_rfl) (by kernel_rfl))
/-- (*strings.asciiSet).contains -/
def ic210 : IC :=
(.seq
 (.reg 0 [⟨(some 4), none, (.q (.mov (.c (.bool false))))⟩] [0, 1])
 (.seq
  (.reg 1 [⟨(some 5), none, (.q (.mov (.t 0)))⟩, ⟨(some 6), none, (.q (.mov (.t 1)))⟩, ⟨(some 7), none, (.q (.nchk (.t 5)))⟩, ⟨(some 8), none, (.q (.aaddr 256 1 (.t 7) (.t 6)))⟩, ⟨(some 9), none, (.q (.load none (.t 8)))⟩, ⟨(some 4), none, (.q (.mov (.t 9)))⟩] [4])
  .ret))
theorem fok210 : FOK Tryz.prog 210 (10, ic210, [(.t 4)]) := .mk (pf := []) (an := [(0, [0, 1]), (1, [4])]) (by kernel_rfl) (fnOK_of Tryz.func210 (by kernel_rfl) (by kernel_rfl) (by kernel_rfl))
/-- unicode/utf8.DecodeRuneInString -/
def ic211 : IC :=
(.seq
 (.reg 0 [⟨(some 2), none, (.q (.mov (.c (.int .i32 0))))⟩, ⟨(some 3), none, (.q (.mov (.c (.int .i64 0))))⟩] [0])
 (.seq
  (.seq
   (.reg 1 [⟨(some 4), none, (.q (.mov (.t 0)))⟩, ⟨(some 5), none, (.q (.bin .neq (.t 4) (.c (.str []))))⟩, ⟨(some 6), none, (.q (.mov (.t 5)))⟩, ⟨(some 7), (some ⟨6, true⟩), (.q (.mov (.t 0)))⟩, ⟨(some 8), (some ⟨6, true⟩), (.q (.istr (.t 7) (.c (.int .i64 0))))⟩, ⟨(some 9), (some ⟨6, true⟩), (.q (.bin .lss (.t 8) (.c (.int .u8 128))))⟩, ⟨(some 10), none, (.q (.pick (.t 6) (.t 9) (.c (.bool false))))⟩] [0, 10])
   (.cond (.t 10)
    (.seq
     (.reg 2 [⟨(some 11), none, (.q (.mov (.t 0)))⟩, ⟨(some 12), none, (.q (.istr (.t 11) (.c (.int .i64 0))))⟩, ⟨(some 13), none, (.q (.conv .i32 (.t 12)))⟩, ⟨(some 2), none, (.q (.mov (.t 13)))⟩, ⟨(some 3), none, (.q (.mov (.c (.int .i64 1))))⟩] [2, 3])
     .ret)
    (.reg 3 [⟨(some 15), none, (.q (.mov (.t 0)))⟩, ⟨(some 16), none, (.call 213 [(.t 15)])⟩, ⟨(some 14), none, (.q (.mov (.t 16)))⟩, ⟨(some 17), none, (.q (.ext 0 (.t 14)))⟩, ⟨(some 18), none, (.q (.ext 1 (.t 14)))⟩, ⟨(some 2), none, (.q (.mov (.t 17)))⟩, ⟨(some 3), none, (.q (.mov (.t 18)))⟩] [2, 3])))
  .ret))
theorem fok211 : FOK Tryz.prog 211 (19, ic211, [(.t 2), (.t 3)]) := .mk (pf := []) (an := [(0, [0]), (1, [0, 10]), (2, [2, 3]), (3, [2, 3])]) (by kernel_rfl) (fnOK_of Tryz.func211 (by kernel_rfl) (by kernel_rfl) (by kernel_rfl))
/-- strings.ContainsRune -/
def ic212 : IC :=
(.seq
 (.reg 0 [⟨(some 4), none, (.q (.mov (.c (.bool false))))⟩] [0, 1])
 (.seq
  (.reg 1 [⟨(some 5), none, (.q (.mov (.t 0)))⟩, ⟨(some 6), none, (.q (.mov (.t 1)))⟩, ⟨(some 7), none, (.call 214 [(.t 5), (.t 6)])⟩, ⟨(some 8), none, (.q (.bin .geq (.t 7) (.c (.int .i64 0))))⟩, ⟨(some 4), none, (.q (.mov (.t 8)))⟩] [4])
  .ret))
theorem fok212 : FOK Tryz.prog 212 (9, ic212, [(.t 4)]) := .mk (pf := []) (an := [(0, [0, 1]), (1, [4])]) (by kernel_rfl) (fnOK_of Tryz.func212 (by kernel_rfl) (by kernel_rfl) (by kernel_rfl))
/-- unicode/utf8.decodeRuneInStringSlow -/
def ic213 : IC :=
(.seq
 (.reg 0 [⟨(some 2), none, (.q (.mov (.c (.int .i32 0))))⟩, ⟨(some 3), none, (.q (.mov (.c (.int .i64 0))))⟩] [0])
 (.seq
  (.reg 1 [⟨(some 13), none, (.q (.mov (.t 0)))⟩, ⟨(some 14), none, (.q (.len 1 (.t 13)))⟩, ⟨(some 4), none, (.q (.mov (.t 14)))⟩] [0, 4])
  (.seq
   (.seq
    (.reg 2 [⟨(some 15), none, (.q (.mov (.t 4)))⟩, ⟨(some 16), none, (.q (.bin .lss (.t 15) (.c (.int .i64 1))))⟩] [0, 4, 16])
    (.cond (.t 16)
     (.seq
      (.reg 3 [⟨(some 2), none, (.q (.mov (.c (.int .i32 65533))))⟩, ⟨(some 3), none, (.q (.mov (.c (.int .i64 0))))⟩] [2, 3])
      .ret)
     .skip))
   (.seq
    (.reg 4 [⟨(some 17), none, (.q (.mov (.t 0)))⟩, ⟨(some 18), none, (.q (.istr (.t 17) (.c (.int .i64 0))))⟩, ⟨(some 5), none, (.q (.mov (.t 18)))⟩] [0, 4, 5])
    (.seq
     (.reg 5 [⟨(some 19), none, (.q (.mov (.t 5)))⟩, ⟨(some 20), none, (.q (.aaddr 256 1 (.g 3) (.t 19)))⟩, ⟨(some 21), none, (.q (.load none (.t 20)))⟩, ⟨(some 6), none, (.q (.mov (.t 21)))⟩] [0, 4, 5, 6])
     (.seq
      (.seq
       (.reg 6 [⟨(some 22), none, (.q (.mov (.t 6)))⟩, ⟨(some 23), none, (.q (.bin .geq (.t 22) (.c (.int .u8 240))))⟩] [0, 4, 5, 6, 23])
       (.cond (.t 23)
        (.seq
         (.reg 7 [⟨(some 24), none, (.q (.mov (.t 6)))⟩, ⟨(some 25), none, (.q (.conv .i32 (.t 24)))⟩, ⟨(some 26), none, (.q (.bin .shl (.t 25) (.c (.int .u64 31))))⟩, ⟨(some 27), none, (.q (.bin .shr (.t 26) (.c (.int .u64 31))))⟩, ⟨(some 7), none, (.q (.mov (.t 27)))⟩] [0, 7])
         (.seq
          (.reg 8 [⟨(some 28), none, (.q (.mov (.t 0)))⟩, ⟨(some 29), none, (.q (.istr (.t 28) (.c (.int .i64 0))))⟩, ⟨(some 30), none, (.q (.conv .i32 (.t 29)))⟩, ⟨(some 31), none, (.q (.mov (.t 7)))⟩, ⟨(some 32), none, (.q (.bin .andNot (.t 30) (.t 31)))⟩, ⟨(some 33), none, (.q (.mov (.t 7)))⟩, ⟨(some 34), none, (.q (.bin .and (.c (.int .i32 65533)) (.t 33)))⟩, ⟨(some 35), none, (.q (.bin .or (.t 32) (.t 34)))⟩, ⟨(some 2), none, (.q (.mov (.t 35)))⟩, ⟨(some 3), none, (.q (.mov (.c (.int .i64 1))))⟩] [2, 3])
          .ret))
        .skip))
      (.seq
       (.reg 9 [⟨(some 36), none, (.q (.mov (.t 6)))⟩, ⟨(some 37), none, (.q (.bin .and (.t 36) (.c (.int .u8 7))))⟩, ⟨(some 38), none, (.q (.conv .i64 (.t 37)))⟩, ⟨(some 8), none, (.q (.mov (.t 38)))⟩] [0, 4, 5, 6, 8])
       (.seq
        (.reg 10 [⟨(some 39), none, (.q (.mov (.t 6)))⟩, ⟨(some 40), none, (.q (.bin .shr (.t 39) (.c (.int .u64 4))))⟩, ⟨(some 41), none, (.q (.aaddr 16 2 (.g 4) (.t 40)))⟩, ⟨(some 42), none, (.q (.load (some 2) (.t 41)))⟩, ⟨(some 9), none, (.alloc [(.int .u8 0), (.int .u8 0)])⟩, ⟨none, none, (.store 2 (.t 9) (.t 42))⟩] [0, 4, 5, 8, 9])
        (.seq
         (.seq
          (.reg 11 [⟨(some 43), none, (.q (.mov (.t 4)))⟩, ⟨(some 44), none, (.q (.mov (.t 8)))⟩, ⟨(some 45), none, (.q (.bin .lss (.t 43) (.t 44)))⟩] [0, 5, 8, 9, 45])
          (.cond (.t 45)
           (.seq
            (.reg 12 [⟨(some 2), none, (.q (.mov (.c (.int .i32 65533))))⟩, ⟨(some 3), none, (.q (.mov (.c (.int .i64 1))))⟩] [2, 3])
            .ret)
           .skip))
         (.seq
          (.reg 13 [⟨(some 46), none, (.q (.mov (.t 0)))⟩, ⟨(some 47), none, (.q (.istr (.t 46) (.c (.int .i64 1))))⟩, ⟨(some 10), none, (.q (.mov (.t 47)))⟩] [0, 5, 8, 9, 10])
          (.seq
           (.seq
            (.reg 14 [⟨(some 48), none, (.q (.mov (.t 10)))⟩, ⟨(some 49), none, (.q (.faddr 0 (.t 9)))⟩, ⟨(some 50), none, (.q (.load none (.t 49)))⟩, ⟨(some 51), none, (.q (.bin .lss (.t 48) (.t 50)))⟩, ⟨(some 52), none, (.q (.mov (.t 51)))⟩, ⟨(some 53), (some ⟨52, false⟩), (.q (.faddr 1 (.t 9)))⟩, ⟨(some 54), (some ⟨52, false⟩), (.q (.load none (.t 53)))⟩, ⟨(some 55), (some ⟨52, false⟩), (.q (.mov (.t 10)))⟩, ⟨(some 56), (some ⟨52, false⟩), (.q (.bin .lss (.t 54) (.t 55)))⟩, ⟨(some 57), none, (.q (.pick (.t 52) (.c (.bool true)) (.t 56)))⟩] [0, 5, 8, 10, 57])
            (.cond (.t 57)
            (.seq
            (.reg 15 [⟨(some 2), none, (.q (.mov (.c (.int .i32 65533))))⟩, ⟨(some 3), none, (.q (.mov (.c (.int .i64 1))))⟩] [2, 3])
            .ret)
            .skip))
           (.seq
            (.seq
            (.reg 16 [⟨(some 58), none, (.q (.mov (.t 8)))⟩, ⟨(some 59), none, (.q (.bin .leq (.t 58) (.c (.int .i64 2))))⟩] [0, 5, 8, 10, 59])
            (.cond (.t 59)
            (.seq
            (.reg 17 [⟨(some 60), none, (.q (.mov (.t 5)))⟩, ⟨(some 61), none, (.q (.bin .and (.t 60) (.c (.int .u8 31))))⟩, ⟨(some 62), none, (.q (.conv .i32 (.t 61)))⟩, ⟨(some 63), none, (.q (.bin .shl (.t 62) (.c (.int .u64 6))))⟩, ⟨(some 64), none, (.q (.mov (.t 10)))⟩, ⟨(some 65), none, (.q (.bin .and (.t 64) (.c (.int .u8 63))))⟩, ⟨(some 66), none, (.q (.conv .i32 (.t 65)))⟩, ⟨(some 67), none, (.q (.bin .or (.t 63) (.t 66)))⟩, ⟨(some 2), none, (.q (.mov (.t 67)))⟩, ⟨(some 3), none, (.q (.mov (.c (.int .i64 2))))⟩] [2, 3])
            .ret)
            .skip))
            (.seq
            (.reg 18 [⟨(some 68), none, (.q (.mov (.t 0)))⟩, ⟨(some 69), none, (.q (.istr (.t 68) (.c (.int .i64 2))))⟩, ⟨(some 11), none, (.q (.mov (.t 69)))⟩] [0, 5, 8, 10, 11])
            (.seq
            (.seq
            (.reg 19 [⟨(some 70), none, (.q (.mov (.t 11)))⟩, ⟨(some 71), none, (.q (.bin .lss (.t 70) (.c (.int .u8 128))))⟩, ⟨(some 72), none, (.q (.mov (.t 71)))⟩, ⟨(some 73), (some ⟨72, false⟩), (.q (.mov (.t 11)))⟩, ⟨(some 74), (some ⟨72, false⟩), (.q (.bin .lss (.c (.int .u8 191)) (.t 73)))⟩, ⟨(some 75), none, (.q (.pick (.t 72) (.c (.bool true)) (.t 74)))⟩] [0, 5, 8, 10, 11, 75])
            (.cond (.t 75)
            (.seq
            (.reg 20 [⟨(some 2), none, (.q (.mov (.c (.int .i32 65533))))⟩, ⟨(some 3), none, (.q (.mov (.c (.int .i64 1))))⟩] [2, 3])
            .ret)
            .skip))
            (.seq
            (.seq
            (.reg 21 [⟨(some 76), none, (.q (.mov (.t 8)))⟩, ⟨(some 77), none, (.q (.bin .leq (.t 76) (.c (.int .i64 3))))⟩] [0, 5, 10, 11, 77])
            (.cond (.t 77)
            (.seq
            (.reg 22 [⟨(some 78), none, (.q (.mov (.t 5)))⟩, ⟨(some 79), none, (.q (.bin .and (.t 78) (.c (.int .u8 15))))⟩, ⟨(some 80), none, (.q (.conv .i32 (.t 79)))⟩, ⟨(some 81), none, (.q (.bin .shl (.t 80) (.c (.int .u64 12))))⟩, ⟨(some 82), none, (.q (.mov (.t 10)))⟩, ⟨(some 83), none, (.q (.bin .and (.t 82) (.c (.int .u8 63))))⟩, ⟨(some 84), none, (.q (.conv .i32 (.t 83)))⟩, ⟨(some 85), none, (.q (.bin .shl (.t 84) (.c (.int .u64 6))))⟩, ⟨(some 86), none, (.q (.bin .or (.t 81) (.t 85)))⟩, ⟨(some 87), none, (.q (.mov (.t 11)))⟩, ⟨(some 88), none, (.q (.bin .and (.t 87) (.c (.int .u8 63))))⟩, ⟨(some 89), none, (.q (.conv .i32 (.t 88)))⟩, ⟨(some 90), none, (.q (.bin .or (.t 86) (.t 89)))⟩, ⟨(some 2), none, (.q (.mov (.t 90)))⟩, ⟨(some 3), none, (.q (.mov (.c (.int .i64 3))))⟩] [2, 3])
            .ret)
            .skip))
            (.seq
            (.reg 23 [⟨(some 91), none, (.q (.mov (.t 0)))⟩, ⟨(some 92), none, (.q (.istr (.t 91) (.c (.int .i64 3))))⟩, ⟨(some 12), none, (.q (.mov (.t 92)))⟩] [5, 10, 11, 12])
            (.seq
            (.seq
            (.reg 24 [⟨(some 93), none, (.q (.mov (.t 12)))⟩, ⟨(some 94), none, (.q (.bin .lss (.t 93) (.c (.int .u8 128))))⟩, ⟨(some 95), none, (.q (.mov (.t 94)))⟩, ⟨(some 96), (some ⟨95, false⟩), (.q (.mov (.t 12)))⟩, ⟨(some 97), (some ⟨95, false⟩), (.q (.bin .lss (.c (.int .u8 191)) (.t 96)))⟩, ⟨(some 98), none, (.q (.pick (.t 95) (.c (.bool true)) (.t 97)))⟩] [5, 10, 11, 12, 98])
            (.cond (.t 98)
            (.seq
            (.reg 25 [⟨(some 2), none, (.q (.mov (.c (.int .i32 65533))))⟩, ⟨(some 3), none, (.q (.mov (.c (.int .i64 1))))⟩] [2, 3])
            .ret)
            .skip))
            (.seq
            (.reg 26 [⟨(some 99), none, (.q (.mov (.t 5)))⟩, ⟨(some 100), none, (.q (.bin .and (.t 99) (.c (.int .u8 7))))⟩, ⟨(some 101), none, (.q (.conv .i32 (.t 100)))⟩, ⟨(some 102), none, (.q (.bin .shl (.t 101) (.c (.int .u64 18))))⟩, ⟨(some 103), none, (.q (.mov (.t 10)))⟩, ⟨(some 104), none, (.q (.bin .and (.t 103) (.c (.int .u8 63))))⟩, ⟨(some 105), none, (.q (.conv .i32 (.t 104)))⟩, ⟨(some 106), none, (.q (.bin .shl (.t 105) (.c (.int .u64 12))))⟩, ⟨(some 107), none, (.q (.bin .or (.t 102) (.t 106)))⟩, ⟨(some 108), none, (.q (.mov (.t 11)))⟩, ⟨(some 109), none, (.q (.bin .and (.t 108) (.c (.int .u8 63))))⟩, ⟨(some 110), none, (.q (.conv .i32 (.t 109)))⟩, ⟨(some 111), none, (.q (.bin .shl (.t 110) (.c (.int .u64 6))))⟩, ⟨(some 112), none, (.q (.bin .or (.t 107) (.t 111)))⟩, ⟨(some 113), none, (.q (.mov (.t 12)))⟩, ⟨(some 114), none, (.q (.bin .and (.t 113) (.c (.int .u8 63))))⟩, ⟨(some 115), none, (.q (.conv .i32 (.t 114)))⟩, ⟨(some 116), none, (.q (.bin .or (.t 112) (.t 115)))⟩, ⟨(some 2), none, (.q (.mov (.t 116)))⟩, ⟨(some 3), none, (.q (.mov (.c (.int .i64 4))))⟩] [2, 3])
            .ret))))))))))))))))))
theorem fok213 : FOK Tryz.prog 213 (117, ic213, [(.t 2), (.t 3)]) := .mk (pf := []) (an := [(0, [0]), (1, [0, 4]), (2, [0, 4, 16]), (3, [2, 3]), (4, [0, 4, 5]), (5, [0, 4, 5, 6]), (6, [0, 4, 5, 6, 23]), (7, [0, 7]), (8, [2, 3]), (9, [0, 4, 5, 6, 8]), (10, [0, 4, 5, 8, 9]), (11, [0, 5, 8, 9, 45]), (12, [2, 3]), (13, [0, 5, 8, 9, 10]), (14, [0, 5, 8, 10, 57]), (15, [2, 3]), (16, [0, 5, 8, 10, 59]), (17, [2, 3]), (18, [0, 5, 8, 10, 11]), (19, [0, 5, 8, 10, 11, 75]), (20, [2, 3]), (21, [0, 5, 10, 11, 77]), (22, [2, 3]), (23, [5, 10, 11, 12]), (24, [5, 10, 11, 12, 98]), (25, [2, 3]), (26, [2, 3])]) (by kernel_rfl) (fnOK_of Tryz.func213 (by kernel_rfl) (by kernel_rfl) (by kernel_rfl))
end Go.Id.Tryz
