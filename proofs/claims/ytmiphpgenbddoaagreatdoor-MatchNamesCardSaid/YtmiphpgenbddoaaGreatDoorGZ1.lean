/- The compiled codes of functions, written by a program out of the given form. Conditions: none. -/
import Derived.Test.YtmiphpgenbddoaaGreatDoorFwW
import Derived.Test.YtmiphpgenbddoaaGreatDoorProg
set_option linter.all false
namespace Go.Id.Tryz
open Go Go.Id Go.Proofs
def allF1 : List Nat := List.range 242
/-- slices.Compact[[]int,int] -/
def ic64 : IC :=
(.seq
 (.reg 0 [⟨(some 2), none, (.q (.mov (.c .nilslice)))⟩] [0])
 (.seq
  (.seq
   (.reg 1 [⟨(some 6), none, (.q (.mov (.t 0)))⟩, ⟨(some 7), none, (.q (.len 0 (.t 6)))⟩, ⟨(some 8), none, (.q (.bin .lss (.t 7) (.c (.int .i64 2))))⟩] [0, 8])
   (.cond (.t 8)
    (.seq
     (.reg 2 [⟨(some 9), none, (.q (.mov (.t 0)))⟩, ⟨(some 2), none, (.q (.mov (.t 9)))⟩] [2])
     .ret)
    .skip))
  (.seq
   (.seq
    (.reg 3 [⟨(some 3), none, (.q (.mov (.c (.int .i64 1))))⟩] [0, 3])
    (.block 0
     (.loop
      (.seq
       (.seq
        (.reg 4 [⟨(some 10), none, (.q (.mov (.t 3)))⟩, ⟨(some 11), none, (.q (.mov (.t 0)))⟩, ⟨(some 12), none, (.q (.len 0 (.t 11)))⟩, ⟨(some 13), none, (.q (.bin .lss (.t 10) (.t 12)))⟩] [0, 3, 13])
        (.cond (.t 13)
         .skip
         (.exit 0)))
       (.seq
        (.block 1
         (.seq
          (.dreg 6 [⟨(some 16), none, (.q (.mov (.t 0)))⟩, ⟨(some 17), none, (.q (.mov (.t 3)))⟩, ⟨(some 18), none, (.q (.iaddr 1 (.t 16) (.t 17)))⟩, ⟨(some 19), none, (.q (.load none (.t 18)))⟩, ⟨(some 20), none, (.q (.mov (.t 0)))⟩, ⟨(some 21), none, (.q (.mov (.t 3)))⟩, ⟨(some 22), none, (.q (.bin .sub (.t 21) (.c (.int .i64 1))))⟩, ⟨(some 23), none, (.q (.iaddr 1 (.t 20) (.t 22)))⟩, ⟨(some 24), none, (.q (.load none (.t 23)))⟩, ⟨(some 25), none, (.q (.bin .eql (.t 19) (.t 24)))⟩] false [0, 3, 25])
          (.cond (.t 25)
           (.seq
            (.reg 7 [⟨(some 26), none, (.q (.mov (.t 0)))⟩, ⟨(some 27), none, (.q (.mov (.t 3)))⟩, ⟨(some 28), none, (.q (.slc 1 (.t 26) (some (.t 27)) none))⟩, ⟨(some 4), none, (.q (.mov (.t 28)))⟩] [0, 3, 4])
            (.seq
            (.seq
            (.reg 8 [⟨(some 5), none, (.q (.mov (.c (.int .i64 1))))⟩] [0, 3, 4, 5])
            (.block 2
            (.loop
            (.seq
            (.seq
            (.reg 9 [⟨(some 29), none, (.q (.mov (.t 5)))⟩, ⟨(some 30), none, (.q (.mov (.t 4)))⟩, ⟨(some 31), none, (.q (.len 0 (.t 30)))⟩, ⟨(some 32), none, (.q (.bin .lss (.t 29) (.t 31)))⟩] [0, 3, 4, 5, 32])
            (.cond (.t 32)
            .skip
            (.exit 2)))
            (.seq
            (.block 3
            (.seq
            (.dreg 11 [⟨(some 35), none, (.q (.mov (.t 4)))⟩, ⟨(some 36), none, (.q (.mov (.t 5)))⟩, ⟨(some 37), none, (.q (.iaddr 1 (.t 35) (.t 36)))⟩, ⟨(some 38), none, (.q (.load none (.t 37)))⟩, ⟨(some 39), none, (.q (.mov (.t 4)))⟩, ⟨(some 40), none, (.q (.mov (.t 5)))⟩, ⟨(some 41), none, (.q (.bin .sub (.t 40) (.c (.int .i64 1))))⟩, ⟨(some 42), none, (.q (.iaddr 1 (.t 39) (.t 41)))⟩, ⟨(some 43), none, (.q (.load none (.t 42)))⟩, ⟨(some 44), none, (.q (.bin .neq (.t 38) (.t 43)))⟩] false [0, 3, 4, 5, 44])
            (.cond (.t 44)
            (.seq
            (.reg 12 [⟨(some 45), none, (.q (.mov (.t 0)))⟩, ⟨(some 46), none, (.q (.mov (.t 3)))⟩, ⟨(some 47), none, (.q (.mov (.t 4)))⟩, ⟨(some 48), none, (.q (.mov (.t 5)))⟩, ⟨(some 49), none, (.q (.iaddr 1 (.t 47) (.t 48)))⟩, ⟨(some 50), none, (.q (.load none (.t 49)))⟩, ⟨(some 51), none, (.q (.iaddr 1 (.t 45) (.t 46)))⟩, ⟨none, none, (.store 1 (.t 51) (.t 50))⟩] [0, 3, 4, 5])
            (.reg 13 [⟨(some 52), none, (.q (.mov (.t 3)))⟩, ⟨(some 53), none, (.q (.bin .add (.t 52) (.c (.int .i64 1))))⟩, ⟨(some 3), none, (.q (.mov (.t 53)))⟩] [0, 3, 4, 5]))
            .skip)))
            (.reg 10 [⟨(some 33), none, (.q (.mov (.t 5)))⟩, ⟨(some 34), none, (.q (.bin .add (.t 33) (.c (.int .i64 1))))⟩, ⟨(some 5), none, (.q (.mov (.t 34)))⟩] [0, 3, 4, 5]))))))
            (.seq
            (.reg 14 [⟨(some 54), none, (.q (.mov (.t 0)))⟩, ⟨(some 55), none, (.q (.mov (.t 3)))⟩, ⟨(some 56), none, (.q (.slc 1 (.t 54) (some (.t 55)) none))⟩, ⟨none, none, (.clr 1 [(.int .i64 0)] (.t 56))⟩] [0, 3])
            (.seq
            (.reg 15 [⟨(some 57), none, (.q (.mov (.t 0)))⟩, ⟨(some 58), none, (.q (.mov (.t 3)))⟩, ⟨(some 59), none, (.q (.slc 1 (.t 57) none (some (.t 58))))⟩, ⟨(some 2), none, (.q (.mov (.t 59)))⟩] [2])
            .ret))))
           .skip)))
        (.reg 5 [⟨(some 14), none, (.q (.mov (.t 3)))⟩, ⟨(some 15), none, (.q (.bin .add (.t 14) (.c (.int .i64 1))))⟩, ⟨(some 3), none, (.q (.mov (.t 15)))⟩] [0, 3]))))))
   (.seq
    (.reg 16 [⟨(some 60), none, (.q (.mov (.t 0)))⟩, ⟨(some 2), none, (.q (.mov (.t 60)))⟩] [2])
    .ret))))
theorem fok64 : FOK Tryz.prog 64 (61, ic64, [(.t 2)]) := .mk (pf := []) (an := [(0, [0]), (1, [0, 8]), (2, [2]), (3, [0, 3]), (4, [0, 3, 13]), (5, [0, 3]), (6, [0, 3, 25]), (7, [0, 3, 4]), (8, [0, 3, 4, 5]), (9, [0, 3, 4, 5, 32]), (10, [0, 3, 4, 5]), (11, [0, 3, 4, 5, 44]), (12, [0, 3, 4, 5]), (13, [0, 3, 4, 5]), (14, [0, 3]), (15, [2]), (16, [2])]) (by kernel_rfl) (fnOK_of Tryz.func64 (by kernel_rfl) (by kernel_rfl) (by kernel_rfl))
/-- (*chandlery/match.Index).Obsoleters$1 -/
def ic65 : IC :=
(.seq
 (.reg 0 [⟨(some 4), none, (.boxt (.t 0))⟩, ⟨(some 6), none, (.q (.mov (.c (.bool false))))⟩] [1, 2, 3, 4])
 (.seq
  (.dreg 1 [⟨(some 7), none, (.q (.mov (.t 1)))⟩, ⟨(some 8), none, (.q (.load none (.t 2)))⟩, ⟨(some 9), none, (.q (.bin .neq (.t 7) (.t 8)))⟩, ⟨(some 10), none, (.q (.mov (.t 9)))⟩, ⟨(some 11), (some ⟨10, true⟩), (.q (.load (some 15) (.t 4)))⟩, ⟨(some 12), (some ⟨10, true⟩), (.q (.load none (.t 3)))⟩, ⟨(some 13), (some ⟨10, true⟩), (.q (.nchk (.t 12)))⟩, ⟨(some 14), (some ⟨10, true⟩), (.q (.faddr 0 (.t 13)))⟩, ⟨(some 15), (some ⟨10, true⟩), (.q (.load none (.t 14)))⟩, ⟨(some 16), (some ⟨10, true⟩), (.q (.load none (.t 2)))⟩, ⟨(some 17), (some ⟨10, true⟩), (.q (.iaddr 15 (.t 15) (.t 16)))⟩, ⟨(some 18), (some ⟨10, true⟩), (.q (.load (some 15) (.t 17)))⟩, ⟨(some 19), (some ⟨10, true⟩), (.call 29 [(.t 11), (.t 18)])⟩, ⟨(some 20), none, (.q (.pick (.t 10) (.t 19) (.c (.bool false))))⟩, ⟨(some 6), none, (.q (.mov (.t 20)))⟩] false [6])
  .ret))
theorem fok65 : FOK Tryz.prog 65 (21, ic65, [(.t 6)]) := .mk (pf := [1000004]) (an := [(0, [1, 2, 3, 4]), (1, [6])]) (by kernel_rfl) (fnOK_of Tryz.func65 (by kernel_rfl) (by kernel_rfl) (by kernel_rfl))
/-- chandlery/match.offered -/
def ic66 : IC :=
(.seq
 (.reg 0 [⟨(some 1), none, (.boxt (.t 0))⟩, ⟨(some 2), none, (.q (.mov (.c .nilmap)))⟩] [1])
 (.seq
  (.reg 1 [⟨(some 8), none, .mkmap⟩, ⟨(some 9), none, (.q (.faddr 0 (.t 1)))⟩, ⟨(some 10), none, (.q (.load none (.t 9)))⟩, ⟨(some 11), none, (.q (.bld [] []))⟩, ⟨none, none, (.mupd 2 (.t 8) (.t 10) (.t 11))⟩, ⟨(some 12), none, (.q (.mov (.t 8)))⟩, ⟨(some 3), none, (.q (.mov (.t 12)))⟩] [1, 3])
  (.seq
   (.seq
    (.reg 2 [⟨(some 13), none, (.q (.faddr 6 (.t 1)))⟩, ⟨(some 14), none, (.q (.load none (.t 13)))⟩, ⟨(some 15), none, (.q (.len 0 (.t 14)))⟩, ⟨(some 16), none, (.q (.mov (.c (.int .i64 0))))⟩] [1, 3, 14, 15, 16])
    (.block 0
     (.loop
      (.seq
       (.reg 3 [⟨(some 17), none, (.q (.bin .lss (.t 16) (.t 15)))⟩] [1, 3, 14, 15, 16, 17])
       (.seq
        (.cond (.t 17)
         .skip
         (.exit 0))
        (.seq
         (.block 1
          (.seq
           (.reg 4 [⟨(some 18), none, (.q (.iaddr 5 (.t 14) (.t 16)))⟩, ⟨(some 19), none, (.q (.load (some 5) (.t 18)))⟩, ⟨(some 5), none, (.alloc [(.str []), (.int .u8 0), (.int .i64 0), (.str []), (.str [])])⟩, ⟨none, none, (.store 5 (.t 5) (.t 19))⟩] [1, 3, 5, 14, 15, 16])
           (.reg 5 [⟨(some 20), none, (.q (.mov (.t 3)))⟩, ⟨(some 21), none, (.q (.faddr 0 (.t 5)))⟩, ⟨(some 22), none, (.q (.load none (.t 21)))⟩, ⟨(some 23), none, (.q (.bld [] []))⟩, ⟨none, none, (.mupd 2 (.t 20) (.t 22) (.t 23))⟩] [1, 3, 14, 15, 16])))
         (.reg 6 [⟨(some 24), none, (.q (.bin .add (.t 16) (.c (.int .i64 1))))⟩, ⟨(some 16), none, (.q (.mov (.t 24)))⟩] [1, 3, 14, 15, 16])))))))
   (.seq
    (.seq
     (.reg 7 [⟨(some 25), none, (.q (.faddr 14 (.t 1)))⟩, ⟨(some 26), none, (.q (.load none (.t 25)))⟩, ⟨(some 27), none, (.q (.len 0 (.t 26)))⟩, ⟨(some 28), none, (.q (.mov (.c (.int .i64 0))))⟩] [3, 26, 27, 28])
     (.block 2
      (.loop
       (.seq
        (.reg 8 [⟨(some 29), none, (.q (.bin .lss (.t 28) (.t 27)))⟩] [3, 26, 27, 28, 29])
        (.seq
         (.cond (.t 29)
          .skip
          (.exit 2))
         (.seq
          (.block 3
           (.seq
            (.reg 9 [⟨(some 30), none, (.q (.iaddr 1 (.t 26) (.t 28)))⟩, ⟨(some 31), none, (.q (.load none (.t 30)))⟩, ⟨(some 7), none, (.q (.mov (.t 31)))⟩] [3, 7, 26, 27, 28])
            (.reg 10 [⟨(some 32), none, (.q (.mov (.t 3)))⟩, ⟨(some 33), none, (.q (.mov (.t 7)))⟩, ⟨(some 34), none, (.q (.bld [] []))⟩, ⟨none, none, (.mupd 2 (.t 32) (.t 33) (.t 34))⟩] [3, 26, 27, 28])))
          (.reg 11 [⟨(some 35), none, (.q (.bin .add (.t 28) (.c (.int .i64 1))))⟩, ⟨(some 28), none, (.q (.mov (.t 35)))⟩] [3, 26, 27, 28])))))))
    (.seq
     (.reg 12 [⟨(some 36), none, (.q (.mov (.t 3)))⟩, ⟨(some 2), none, (.q (.mov (.t 36)))⟩] [2])
     .ret)))))
theorem fok66 : FOK Tryz.prog 66 (37, ic66, [(.t 2)]) := .mk (pf := [1000001]) (an := [(0, [1]), (1, [1, 3]), (2, [1, 3, 14, 15, 16]), (3, [1, 3, 14, 15, 16, 17]), (4, [1, 3, 5, 14, 15, 16]), (5, [1, 3, 14, 15, 16]), (6, [1, 3, 14, 15, 16]), (7, [3, 26, 27, 28]), (8, [3, 26, 27, 28, 29]), (9, [3, 7, 26, 27, 28]), (10, [3, 26, 27, 28]), (11, [3, 26, 27, 28]), (12, [2])]) (by kernel_rfl) (fnOK_of Tryz.func66 (by kernel_rfl) (by kernel_rfl) (by kernel_rfl))
/-- slices.Contains[[]int,int] -/
def ic67 : IC :=
(.seq
 (.reg 0 [⟨(some 4), none, (.q (.mov (.c (.bool false))))⟩] [0, 1])
 (.seq
  (.reg 1 [⟨(some 5), none, (.q (.mov (.t 0)))⟩, ⟨(some 6), none, (.q (.mov (.t 1)))⟩, ⟨(some 7), none, (.call 97 [(.t 5), (.t 6)])⟩, ⟨(some 8), none, (.q (.bin .geq (.t 7) (.c (.int .i64 0))))⟩, ⟨(some 4), none, (.q (.mov (.t 8)))⟩] [4])
  .ret))
theorem fok67 : FOK Tryz.prog 67 (9, ic67, [(.t 4)]) := .mk (pf := []) (an := [(0, [0, 1]), (1, [4])]) (by kernel_rfl) (fnOK_of Tryz.func67 (by kernel_rfl) (by kernel_rfl) (by kernel_rfl))
/-- (*chandlery/match.Index).Providers$1 -/
def ic68 : IC :=
(.seq
 (.reg 0 [⟨(some 3), none, (.boxt (.t 0))⟩, ⟨(some 5), none, (.q (.mov (.c (.bool false))))⟩] [2, 3])
 (.seq
  (.reg 1 [⟨(some 6), none, (.q (.load (some 15) (.t 3)))⟩, ⟨(some 7), none, (.q (.load (some 5) (.t 2)))⟩, ⟨(some 8), none, (.call 43 [(.t 6), (.t 7)])⟩, ⟨(some 5), none, (.q (.mov (.t 8)))⟩] [5])
  .ret))
theorem fok68 : FOK Tryz.prog 68 (9, ic68, [(.t 5)]) := .mk (pf := [1000003]) (an := [(0, [2, 3]), (1, [5])]) (by kernel_rfl) (fnOK_of Tryz.func68 (by kernel_rfl) (by kernel_rfl) (by kernel_rfl))
/-- (*chandlery/match.Index).Named$1 -/
def ic69 : IC :=
(.seq
 (.reg 0 [⟨(some 3), none, (.boxt (.t 0))⟩, ⟨(some 5), none, (.q (.mov (.c (.bool false))))⟩] [2, 3])
 (.seq
  (.reg 1 [⟨(some 6), none, (.q (.load (some 15) (.t 3)))⟩, ⟨(some 7), none, (.q (.load (some 5) (.t 2)))⟩, ⟨(some 8), none, (.call 44 [(.t 6), (.t 7)])⟩, ⟨(some 5), none, (.q (.mov (.t 8)))⟩] [5])
  .ret))
theorem fok69 : FOK Tryz.prog 69 (9, ic69, [(.t 5)]) := .mk (pf := [1000003]) (an := [(0, [2, 3]), (1, [5])]) (by kernel_rfl) (fnOK_of Tryz.func69 (by kernel_rfl) (by kernel_rfl) (by kernel_rfl))
/-- chandlery/chandleryref13.Numbers -/
def ic70 : IC :=
(.seq
 (.reg 0 [⟨(some 4), none, (.q (.mov (.c (.bool false))))⟩] [0, 1])
 (.seq
  (.seq
   (.reg 1 [⟨(some 6), none, (.q (.mov (.t 0)))⟩, ⟨(some 7), none, (.q (.len 0 (.t 6)))⟩, ⟨(some 8), none, (.q (.mov (.t 1)))⟩, ⟨(some 9), none, (.q (.len 0 (.t 8)))⟩, ⟨(some 10), none, (.q (.bin .neq (.t 7) (.t 9)))⟩] [0, 1, 10])
   (.cond (.t 10)
    (.seq
     (.reg 2 [⟨(some 4), none, (.q (.mov (.c (.bool false))))⟩] [4])
     .ret)
    .skip))
  (.seq
   (.seq
    (.reg 3 [⟨(some 5), none, (.q (.mov (.c (.int .i64 0))))⟩] [0, 1, 5])
    (.block 0
     (.loop
      (.seq
       (.seq
        (.reg 4 [⟨(some 11), none, (.q (.mov (.t 5)))⟩, ⟨(some 12), none, (.q (.mov (.t 0)))⟩, ⟨(some 13), none, (.q (.len 0 (.t 12)))⟩, ⟨(some 14), none, (.q (.bin .lss (.t 11) (.t 13)))⟩] [0, 1, 5, 14])
        (.cond (.t 14)
         .skip
         (.exit 0)))
       (.seq
        (.block 1
         (.seq
          (.dreg 6 [⟨(some 17), none, (.q (.mov (.t 0)))⟩, ⟨(some 18), none, (.q (.mov (.t 5)))⟩, ⟨(some 19), none, (.q (.iaddr 1 (.t 17) (.t 18)))⟩, ⟨(some 20), none, (.q (.load none (.t 19)))⟩, ⟨(some 21), none, (.q (.mov (.t 1)))⟩, ⟨(some 22), none, (.q (.mov (.t 5)))⟩, ⟨(some 23), none, (.q (.iaddr 1 (.t 21) (.t 22)))⟩, ⟨(some 24), none, (.q (.load none (.t 23)))⟩, ⟨(some 25), none, (.q (.bin .neq (.t 20) (.t 24)))⟩] false [0, 1, 5, 25])
          (.cond (.t 25)
           (.seq
            (.reg 7 [⟨(some 4), none, (.q (.mov (.c (.bool false))))⟩] [4])
            .ret)
           .skip)))
        (.reg 5 [⟨(some 15), none, (.q (.mov (.t 5)))⟩, ⟨(some 16), none, (.q (.bin .add (.t 15) (.c (.int .i64 1))))⟩, ⟨(some 5), none, (.q (.mov (.t 16)))⟩] [0, 1, 5]))))))
   (.seq
    (.reg 8 [⟨(some 4), none, (.q (.mov (.c (.bool true))))⟩] [4])
    .ret))))
theorem fok70 : FOK Tryz.prog 70 (26, ic70, [(.t 4)]) := .mk (pf := []) (an := [(0, [0, 1]), (1, [0, 1, 10]), (2, [4]), (3, [0, 1, 5]), (4, [0, 1, 5, 14]), (5, [0, 1, 5]), (6, [0, 1, 5, 25]), (7, [4]), (8, [4])]) (by kernel_rfl) (fnOK_of Tryz.func70 (by kernel_rfl) (by kernel_rfl) (by kernel_rfl))
/-- chandlery/pkg.Provides$1 -/
def ic71 : IC :=
(.seq
 (.reg 0 [⟨(some 2), none, (.boxt (.t 0))⟩, ⟨(some 3), none, (.q (.mov (.c (.bool false))))⟩] [1, 2])
 (.seq
  (.reg 1 [⟨(some 4), none, (.q (.load (some 5) (.t 2)))⟩, ⟨(some 5), none, (.q (.load (some 5) (.t 1)))⟩, ⟨(some 6), none, (.call 72 [(.t 4), (.t 5)])⟩, ⟨(some 3), none, (.q (.mov (.t 6)))⟩] [3])
  .ret))
theorem fok71 : FOK Tryz.prog 71 (7, ic71, [(.t 3)]) := .mk (pf := [1000002]) (an := [(0, [1, 2]), (1, [3])]) (by kernel_rfl) (fnOK_of Tryz.func71 (by kernel_rfl) (by kernel_rfl) (by kernel_rfl))
/-- chandlery/pkg.meets -/
def ic72 : IC :=
(.seq
 (.reg 0 [⟨(some 2), none, (.boxt (.t 0))⟩, ⟨(some 3), none, (.boxt (.t 1))⟩, ⟨(some 4), none, (.q (.mov (.c (.bool false))))⟩] [2, 3])
 (.seq
  (.reg 1 [⟨(some 5), none, (.q (.faddr 0 (.t 2)))⟩, ⟨(some 6), none, (.q (.load none (.t 5)))⟩, ⟨(some 7), none, (.q (.faddr 0 (.t 3)))⟩, ⟨(some 8), none, (.q (.load none (.t 7)))⟩, ⟨(some 9), none, (.q (.bin .eql (.t 6) (.t 8)))⟩, ⟨(some 10), none, (.q (.mov (.t 9)))⟩, ⟨(some 11), (some ⟨10, true⟩), (.q (.load (some 5) (.t 2)))⟩, ⟨(some 12), (some ⟨10, true⟩), (.q (.load (some 5) (.t 3)))⟩, ⟨(some 13), (some ⟨10, true⟩), (.call 98 [(.t 11), (.t 12)])⟩, ⟨(some 14), none, (.q (.pick (.t 10) (.t 13) (.c (.bool false))))⟩, ⟨(some 4), none, (.q (.mov (.t 14)))⟩] [4])
  .ret))
theorem fok72 : FOK Tryz.prog 72 (15, ic72, [(.t 4)]) := .mk (pf := [1000002, 1000003]) (an := [(0, [2, 3]), (1, [4])]) (by kernel_rfl) (fnOK_of Tryz.func72 (by kernel_rfl) (by kernel_rfl) (by kernel_rfl))
/-- slices.Contains[[]string,string] -/
def ic73 : IC :=
(.seq
 (.reg 0 [⟨(some 4), none, (.q (.mov (.c (.bool false))))⟩] [0, 1])
 (.seq
  (.reg 1 [⟨(some 5), none, (.q (.mov (.t 0)))⟩, ⟨(some 6), none, (.q (.mov (.t 1)))⟩, ⟨(some 7), none, (.call 99 [(.t 5), (.t 6)])⟩, ⟨(some 8), none, (.q (.bin .geq (.t 7) (.c (.int .i64 0))))⟩, ⟨(some 4), none, (.q (.mov (.t 8)))⟩] [4])
  .ret))
theorem fok73 : FOK Tryz.prog 73 (9, ic73, [(.t 4)]) := .mk (pf := []) (an := [(0, [0, 1]), (1, [4])]) (by kernel_rfl) (fnOK_of Tryz.func73 (by kernel_rfl) (by kernel_rfl) (by kernel_rfl))
/-- chandlery/pkg.Own -/
def ic74 : IC :=
(.seq
 (.reg 0 [⟨(some 1), none, (.boxt (.t 0))⟩, ⟨(some 2), none, (.alloc [(.str []), (.int .u8 0), (.int .i64 0), (.str []), (.str [])])⟩] [1, 2])
 (.seq
  (.reg 1 [⟨(some 3), none, (.q (.faddr 0 (.t 1)))⟩, ⟨(some 4), none, (.q (.load none (.t 3)))⟩, ⟨(some 5), none, (.q (.faddr 1 (.t 1)))⟩, ⟨(some 6), none, (.q (.load (some 3) (.t 5)))⟩, ⟨(some 7), none, (.call 100 [(.t 4), (.t 6)])⟩, ⟨none, none, (.store 5 (.t 2) (.t 7))⟩] [2])
  .ret))
theorem fok74 : FOK Tryz.prog 74 (8, ic74, [(.cell (some 5) 2)]) := .mk (pf := [1000001]) (an := [(0, [1, 2]), (1, [2])]) (by kernel_rfl) (fnOK_of Tryz.func74 (by kernel_rfl) (by kernel_rfl) (by kernel_rfl))
/-- chandlery/pkg.May -/
def ic76 : IC :=
(.seq
 (.reg 0 [⟨(some 1), none, (.boxt (.t 0))⟩, ⟨(some 2), none, (.alloc [(.bool false)])⟩] [1, 2])
 (.seq
  (.block 0
   (.seq
    (.reg 1 [⟨(some 8), none, (.q (.faddr 0 (.t 1)))⟩, ⟨(some 9), none, (.q (.load none (.t 8)))⟩, ⟨(some 10), none, (.call 101 [(.t 9)])⟩, ⟨(some 11), none, (.q (.not (.t 10)))⟩, ⟨(some 12), none, (.q (.mov (.t 11)))⟩, ⟨(some 13), (some ⟨12, false⟩), (.q (.faddr 0 (.t 1)))⟩, ⟨(some 14), (some ⟨12, false⟩), (.q (.load none (.t 13)))⟩, ⟨(some 15), (some ⟨12, false⟩), (.call 102 [(.t 14)])⟩, ⟨(some 16), none, (.q (.pick (.t 12) (.c (.bool true)) (.t 15)))⟩, ⟨(some 17), none, (.q (.mov (.t 16)))⟩, ⟨(some 18), (some ⟨17, false⟩), (.q (.faddr 1 (.t 1)))⟩, ⟨(some 19), (some ⟨17, false⟩), (.q (.load (some 3) (.t 18)))⟩, ⟨(some 20), (some ⟨17, false⟩), (.call 103 [(.t 19), (.c (.bool false))])⟩, ⟨(some 21), (some ⟨17, false⟩), (.q (.not (.t 20)))⟩, ⟨(some 22), none, (.q (.pick (.t 17) (.c (.bool true)) (.t 21)))⟩, ⟨(some 7), none, (.q (.mov (.t 22)))⟩] [1, 2, 7])
    (.cond (.t 7)
     (.seq
      (.reg 2 [⟨none, none, (.store 1 (.t 2) (.c (.bool false)))⟩] [2])
      .ret)
     (.seq
      (.reg 3 [⟨(some 24), none, (.q (.faddr 4 (.t 1)))⟩, ⟨(some 25), none, (.q (.load none (.t 24)))⟩, ⟨(some 26), none, (.call 104 [(.t 25)])⟩, ⟨(some 27), none, (.q (.bin .eql (.t 26) (.c (.str []))))⟩, ⟨(some 28), none, (.q (.mov (.t 27)))⟩, ⟨(some 29), (some ⟨28, false⟩), (.q (.faddr 5 (.t 1)))⟩, ⟨(some 30), (some ⟨28, false⟩), (.q (.load none (.t 29)))⟩, ⟨(some 31), (some ⟨28, false⟩), (.q (.len 1 (.t 30)))⟩, ⟨(some 32), (some ⟨28, false⟩), (.q (.bin .gtr (.t 31) (.c (.int .i64 64))))⟩, ⟨(some 33), none, (.q (.pick (.t 28) (.c (.bool true)) (.t 32)))⟩, ⟨(some 23), none, (.q (.mov (.t 33)))⟩] [1, 2, 23])
      (.cond (.t 23)
       (.seq
        (.reg 4 [⟨none, none, (.store 1 (.t 2) (.c (.bool false)))⟩] [2])
        .ret)
       (.seq
        (.reg 5 [⟨(some 35), none, (.q (.faddr 6 (.t 1)))⟩, ⟨(some 36), none, (.q (.load none (.t 35)))⟩, ⟨(some 37), none, (.call 105 [(.t 36), (.c (.int .i64 32)), (.f 106)])⟩, ⟨(some 38), none, (.q (.not (.t 37)))⟩, ⟨(some 39), none, (.q (.mov (.t 38)))⟩, ⟨(some 40), (some ⟨39, false⟩), (.q (.faddr 9 (.t 1)))⟩, ⟨(some 41), (some ⟨39, false⟩), (.q (.load none (.t 40)))⟩, ⟨(some 42), (some ⟨39, false⟩), (.call 105 [(.t 41), (.c (.int .i64 32)), (.f 106)])⟩, ⟨(some 43), (some ⟨39, false⟩), (.q (.not (.t 42)))⟩, ⟨(some 44), none, (.q (.pick (.t 39) (.c (.bool true)) (.t 43)))⟩, ⟨(some 45), none, (.q (.mov (.t 44)))⟩, ⟨(some 46), (some ⟨45, false⟩), (.q (.faddr 14 (.t 1)))⟩, ⟨(some 47), (some ⟨45, false⟩), (.q (.load none (.t 46)))⟩, ⟨(some 48), (some ⟨45, false⟩), (.call 107 [(.t 47), (.c (.int .i64 32)), (.f 102)])⟩, ⟨(some 49), (some ⟨45, false⟩), (.q (.not (.t 48)))⟩, ⟨(some 50), none, (.q (.pick (.t 45) (.c (.bool true)) (.t 49)))⟩, ⟨(some 34), none, (.q (.mov (.t 50)))⟩] [1, 2, 34])
        (.cond (.t 34)
         (.seq
          (.reg 6 [⟨none, none, (.store 1 (.t 2) (.c (.bool false)))⟩] [2])
          .ret)
         .skip)))))))
  (.seq
   (.seq
    (.reg 7 [⟨(some 51), none, (.q (.faddr 14 (.t 1)))⟩, ⟨(some 52), none, (.q (.load none (.t 51)))⟩, ⟨(some 53), none, (.q (.len 0 (.t 52)))⟩, ⟨(some 54), none, (.q (.mov (.c (.int .i64 0))))⟩] [1, 2, 52, 53, 54])
    (.block 1
     (.loop
      (.seq
       (.reg 8 [⟨(some 55), none, (.q (.bin .lss (.t 54) (.t 53)))⟩] [1, 2, 52, 53, 54, 55])
       (.seq
        (.cond (.t 55)
         .skip
         (.exit 1))
        (.seq
         (.block 2
          (.seq
           (.reg 9 [⟨(some 56), none, (.q (.mov (.t 54)))⟩, ⟨(some 57), none, (.q (.iaddr 1 (.t 52) (.t 54)))⟩, ⟨(some 58), none, (.q (.load none (.t 57)))⟩, ⟨(some 3), none, (.q (.mov (.t 56)))⟩, ⟨(some 4), none, (.q (.mov (.t 58)))⟩] [1, 2, 3, 4, 52, 53, 54])
           (.seq
            (.reg 10 [⟨(some 59), none, (.q (.mov (.t 3)))⟩, ⟨(some 60), none, (.q (.bin .gtr (.t 59) (.c (.int .i64 0))))⟩, ⟨(some 61), none, (.q (.mov (.t 60)))⟩, ⟨(some 62), (some ⟨61, true⟩), (.q (.faddr 14 (.t 1)))⟩, ⟨(some 63), (some ⟨61, true⟩), (.q (.load none (.t 62)))⟩, ⟨(some 64), (some ⟨61, true⟩), (.q (.mov (.t 3)))⟩, ⟨(some 65), (some ⟨61, true⟩), (.q (.bin .sub (.t 64) (.c (.int .i64 1))))⟩, ⟨(some 66), (some ⟨61, true⟩), (.q (.iaddr 1 (.t 63) (.t 65)))⟩, ⟨(some 67), (some ⟨61, true⟩), (.q (.load none (.t 66)))⟩, ⟨(some 68), (some ⟨61, true⟩), (.q (.mov (.t 4)))⟩, ⟨(some 69), (some ⟨61, true⟩), (.q (.bin .geq (.t 67) (.t 68)))⟩, ⟨(some 70), none, (.q (.pick (.t 61) (.t 69) (.c (.bool false))))⟩] [1, 2, 52, 53, 54, 70])
            (.cond (.t 70)
            (.seq
            (.reg 11 [⟨none, none, (.store 1 (.t 2) (.c (.bool false)))⟩] [2])
            .ret)
            .skip))))
         (.reg 12 [⟨(some 71), none, (.q (.bin .add (.t 54) (.c (.int .i64 1))))⟩, ⟨(some 54), none, (.q (.mov (.t 71)))⟩] [1, 2, 52, 53, 54])))))))
   (.seq
    (.seq
     (.reg 13 [⟨(some 72), none, (.q (.load (some 15) (.t 1)))⟩, ⟨(some 73), none, (.call 108 [(.t 72)])⟩] [2, 73])
     (.block 3
      (.rfunc (.t 73) [74, 75]
       (.seq
        (.reg 14 [⟨(some 5), none, (.alloc [(.int .u8 0)])⟩, ⟨none, none, (.store 1 (.t 5) (.t 74))⟩] [2, 5, 75])
        (.reg 15 [⟨(some 6), none, (.q (.mov (.t 75)))⟩] [2, 5, 6]))
       (.block 4
        (.seq
         (.reg 16 [⟨(some 76), none, (.q (.mov (.t 6)))⟩, ⟨(some 77), none, (.q (.mkf 110 [] [(.t 5)]))⟩, ⟨(some 78), none, (.call 109 [(.t 76), (.c (.int .i64 32)), (.t 77)])⟩, ⟨(some 79), none, (.q (.not (.t 78)))⟩] [2, 79])
         (.cond (.t 79)
          (.seq
           (.reg 17 [⟨none, none, (.store 1 (.t 2) (.c (.bool false)))⟩] [])
           .ret)
          .skip))))))
    (.seq
     (.reg 18 [⟨none, none, (.store 1 (.t 2) (.c (.bool true)))⟩] [2])
     .ret)))))
theorem fok76 : FOK Tryz.prog 76 (80, ic76, [(.cell none 2)]) := .mk (pf := [1000001]) (an := [(0, [1, 2]), (1, [1, 2, 7]), (2, [2]), (3, [1, 2, 23]), (4, [2]), (5, [1, 2, 34]), (6, [2]), (7, [1, 2, 52, 53, 54]), (8, [1, 2, 52, 53, 54, 55]), (9, [1, 2, 3, 4, 52, 53, 54]), (10, [1, 2, 52, 53, 54, 70]), (11, [2]), (12, [1, 2, 52, 53, 54]), (13, [2, 73]), (14, [2, 5, 75]), (15, [2, 5, 6]), (16, [2, 79]), (18, [2])]) (by kernel_rfl) (fnOK_of Tryz.func76 (by kernel_rfl) (by kernel_rfl) (by kernel_rfl))
/-- slices.Clone[[]chandlery/api.Dep,chandlery/api.Dep] -/
def ic88 : IC :=
(.seq
 (.reg 0 [⟨(some 2), none, (.q (.mov (.c .nilslice)))⟩] [0])
 (.seq
  (.seq
   (.reg 1 [⟨(some 3), none, (.q (.mov (.t 0)))⟩, ⟨(some 4), none, (.q (.isnil (.slice 67) false (.t 3)))⟩] [0, 4])
   (.cond (.t 4)
    (.seq
     (.reg 2 [⟨(some 2), none, (.q (.mov (.c .nilslice)))⟩] [2])
     .ret)
    .skip))
  (.seq
   (.reg 3 [⟨(some 5), none, (.bsl 5 0 [(.str []), (.int .u8 0), (.int .i64 0), (.str []), (.str [])] [])⟩, ⟨(some 6), none, (.q (.mov (.t 0)))⟩, ⟨(some 7), none, (.app 5 (.t 5) (.t 6))⟩, ⟨(some 2), none, (.q (.mov (.t 7)))⟩] [2])
   .ret)))
theorem fok88 : FOK Tryz.prog 88 (8, ic88, [(.t 2)]) := .mk (pf := []) (an := [(0, [0]), (1, [0, 4]), (2, [2]), (3, [2])]) (by kernel_rfl) (fnOK_of Tryz.func88 (by kernel_rfl) (by kernel_rfl) (by kernel_rfl))
/-- slices.Clone[[]string,string] -/
def ic89 : IC :=
(.seq
 (.reg 0 [⟨(some 2), none, (.q (.mov (.c .nilslice)))⟩] [0])
 (.seq
  (.seq
   (.reg 1 [⟨(some 3), none, (.q (.mov (.t 0)))⟩, ⟨(some 4), none, (.q (.isnil (.slice 9) false (.t 3)))⟩] [0, 4])
   (.cond (.t 4)
    (.seq
     (.reg 2 [⟨(some 2), none, (.q (.mov (.c .nilslice)))⟩] [2])
     .ret)
    .skip))
  (.seq
   (.reg 3 [⟨(some 5), none, (.bsl 1 0 [(.str [])] [])⟩, ⟨(some 6), none, (.q (.mov (.t 0)))⟩, ⟨(some 7), none, (.app 1 (.t 5) (.t 6))⟩, ⟨(some 2), none, (.q (.mov (.t 7)))⟩] [2])
   .ret)))
theorem fok89 : FOK Tryz.prog 89 (8, ic89, [(.t 2)]) := .mk (pf := []) (an := [(0, [0]), (1, [0, 4]), (2, [2]), (3, [2])]) (by kernel_rfl) (fnOK_of Tryz.func89 (by kernel_rfl) (by kernel_rfl) (by kernel_rfl))
/-- slices.Clone[[]chandlery/api.Rich,chandlery/api.Rich] -/
def ic90 : IC :=
(.seq
 (.reg 0 [⟨(some 2), none, (.q (.mov (.c .nilslice)))⟩] [0])
 (.seq
  (.seq
   (.reg 1 [⟨(some 3), none, (.q (.mov (.t 0)))⟩, ⟨(some 4), none, (.q (.isnil (.slice 118) false (.t 3)))⟩] [0, 4])
   (.cond (.t 4)
    (.seq
     (.reg 2 [⟨(some 2), none, (.q (.mov (.c .nilslice)))⟩] [2])
     .ret)
    .skip))
  (.seq
   (.reg 3 [⟨(some 5), none, (.bsl 7 0 [(.int .u8 0), (.str []), (.int .u8 0), (.int .i64 0), (.str []), (.str []), .nilslice] [])⟩, ⟨(some 6), none, (.q (.mov (.t 0)))⟩, ⟨(some 7), none, (.app 7 (.t 5) (.t 6))⟩, ⟨(some 2), none, (.q (.mov (.t 7)))⟩] [2])
   .ret)))
theorem fok90 : FOK Tryz.prog 90 (8, ic90, [(.t 2)]) := .mk (pf := []) (an := [(0, [0]), (1, [0, 4]), (2, [2]), (3, [2])]) (by kernel_rfl) (fnOK_of Tryz.func90 (by kernel_rfl) (by kernel_rfl) (by kernel_rfl))
/-- chandlery/shape.Copy -/
def ic91 : IC :=
(.seq
 (.reg 0 [⟨(some 1), none, (.boxt (.t 0))⟩, ⟨(some 2), none, (.alloc [(.int .u8 0), (.str []), (.int .u8 0), (.int .i64 0), (.str []), (.str []), .nilslice])⟩] [1, 2])
 (.seq
  (.reg 1 [⟨(some 6), none, (.q (.faddr 0 (.t 1)))⟩, ⟨(some 7), none, (.q (.load none (.t 6)))⟩, ⟨(some 8), none, (.q (.faddr 1 (.t 1)))⟩, ⟨(some 9), none, (.q (.load (some 5) (.t 8)))⟩, ⟨(some 10), none, (.q (.bld [(.int .u8 0), (.str []), (.int .u8 0), (.int .i64 0), (.str []), (.str []), .nilslice] [⟨0, ⟨1, (.t 7)⟩⟩, ⟨1, ⟨5, (.t 9)⟩⟩]))⟩, ⟨(some 3), none, (.alloc [(.int .u8 0), (.str []), (.int .u8 0), (.int .i64 0), (.str []), (.str []), .nilslice])⟩, ⟨none, none, (.store 7 (.t 3) (.t 10))⟩] [1, 2, 3])
  (.seq
   (.seq
    (.reg 2 [⟨(some 11), none, (.q (.faddr 6 (.t 1)))⟩, ⟨(some 12), none, (.q (.load none (.t 11)))⟩, ⟨(some 13), none, (.q (.len 0 (.t 12)))⟩, ⟨(some 14), none, (.q (.mov (.c (.int .i64 0))))⟩] [2, 3, 12, 13, 14])
    (.block 0
     (.loop
      (.seq
       (.reg 3 [⟨(some 15), none, (.q (.bin .lss (.t 14) (.t 13)))⟩] [2, 3, 12, 13, 14, 15])
       (.seq
        (.cond (.t 15)
         .skip
         (.exit 0))
        (.seq
         (.block 1
          (.seq
           (.reg 4 [⟨(some 16), none, (.q (.iaddr 7 (.t 12) (.t 14)))⟩, ⟨(some 17), none, (.q (.load (some 7) (.t 16)))⟩, ⟨(some 5), none, (.alloc [(.int .u8 0), (.str []), (.int .u8 0), (.int .i64 0), (.str []), (.str []), .nilslice])⟩, ⟨none, none, (.store 7 (.t 5) (.t 17))⟩] [2, 3, 5, 12, 13, 14])
           (.dreg 5 [⟨(some 18), none, (.q (.faddr 6 (.t 3)))⟩, ⟨(some 19), none, (.q (.load none (.t 18)))⟩, ⟨(some 20), none, (.q (.load (some 7) (.t 5)))⟩, ⟨(some 21), none, (.pcall 91 [(.t 20)])⟩, ⟨(some 22), none, (.bslt 7 1 [(.int .u8 0), (.str []), (.int .u8 0), (.int .i64 0), (.str []), (.str []), .nilslice] [⟨0, ⟨7, (.t 21)⟩⟩])⟩, ⟨(some 23), none, (.app 7 (.t 19) (.t 22))⟩, ⟨(some 24), none, (.q (.faddr 6 (.t 3)))⟩, ⟨none, none, (.store 1 (.t 24) (.t 23))⟩] true [2, 3, 12, 13, 14])))
         (.reg 6 [⟨(some 25), none, (.q (.bin .add (.t 14) (.c (.int .i64 1))))⟩, ⟨(some 14), none, (.q (.mov (.t 25)))⟩] [2, 3, 12, 13, 14])))))))
   (.seq
    (.reg 7 [⟨(some 26), none, (.q (.load (some 7) (.t 3)))⟩, ⟨none, none, (.store 7 (.t 2) (.t 26))⟩] [2])
    .ret))))
theorem fok91 : FOK Tryz.prog 91 (27, ic91, [(.cell (some 7) 2)]) := .mk (pf := ([1000001, 1000022] ++ allF1)) (an := [(0, [1, 2]), (1, [1, 2, 3]), (2, [2, 3, 12, 13, 14]), (3, [2, 3, 12, 13, 14, 15]), (4, [2, 3, 5, 12, 13, 14]), (5, [2, 3, 12, 13, 14]), (6, [2, 3, 12, 13, 14]), (7, [2])]) (by kernel_rfl) (fnOK_of Tryz.func91 (by kernel_rfl) (by kernel_rfl) (by kernel_rfl))
/-- chandlery/chandleryref09.Same -/
def ic92 : IC :=
(.seq
 (.reg 0 [⟨(some 2), none, (.boxt (.t 0))⟩, ⟨(some 3), none, (.boxt (.t 1))⟩, ⟨(some 4), none, (.q (.mov (.c (.bool false))))⟩] [2, 3])
 (.seq
  (.seq
   (.reg 1 [⟨(some 6), none, (.q (.faddr 0 (.t 2)))⟩, ⟨(some 7), none, (.q (.load none (.t 6)))⟩, ⟨(some 8), none, (.q (.faddr 0 (.t 3)))⟩, ⟨(some 9), none, (.q (.load none (.t 8)))⟩, ⟨(some 10), none, (.q (.bin .neq (.t 7) (.t 9)))⟩, ⟨(some 11), none, (.q (.mov (.t 10)))⟩, ⟨(some 12), (some ⟨11, false⟩), (.q (.faddr 1 (.t 2)))⟩, ⟨(some 13), (some ⟨11, false⟩), (.q (.load (some 5) (.t 12)))⟩, ⟨(some 14), (some ⟨11, false⟩), (.q (.faddr 1 (.t 3)))⟩, ⟨(some 15), (some ⟨11, false⟩), (.q (.load (some 5) (.t 14)))⟩, ⟨(some 16), (some ⟨11, false⟩), (.q (.eqs [2, 1, 1, 2, 2] true true (.t 13) (.t 15)))⟩, ⟨(some 17), none, (.q (.pick (.t 11) (.c (.bool true)) (.t 16)))⟩, ⟨(some 18), none, (.q (.mov (.t 17)))⟩, ⟨(some 19), (some ⟨18, false⟩), (.q (.faddr 6 (.t 2)))⟩, ⟨(some 20), (some ⟨18, false⟩), (.q (.load none (.t 19)))⟩, ⟨(some 21), (some ⟨18, false⟩), (.q (.len 0 (.t 20)))⟩, ⟨(some 22), (some ⟨18, false⟩), (.q (.faddr 6 (.t 3)))⟩, ⟨(some 23), (some ⟨18, false⟩), (.q (.load none (.t 22)))⟩, ⟨(some 24), (some ⟨18, false⟩), (.q (.len 0 (.t 23)))⟩, ⟨(some 25), (some ⟨18, false⟩), (.q (.bin .neq (.t 21) (.t 24)))⟩, ⟨(some 26), none, (.q (.pick (.t 18) (.c (.bool true)) (.t 25)))⟩] [2, 3, 26])
   (.cond (.t 26)
    (.seq
     (.reg 2 [⟨(some 4), none, (.q (.mov (.c (.bool false))))⟩] [4])
     .ret)
    .skip))
  (.seq
   (.seq
    (.reg 3 [⟨(some 5), none, (.q (.mov (.c (.int .i64 0))))⟩] [2, 3, 5])
    (.block 0
     (.loop
      (.seq
       (.seq
        (.reg 4 [⟨(some 27), none, (.q (.mov (.t 5)))⟩, ⟨(some 28), none, (.q (.faddr 6 (.t 2)))⟩, ⟨(some 29), none, (.q (.load none (.t 28)))⟩, ⟨(some 30), none, (.q (.len 0 (.t 29)))⟩, ⟨(some 31), none, (.q (.bin .lss (.t 27) (.t 30)))⟩] [2, 3, 5, 31])
        (.cond (.t 31)
         .skip
         (.exit 0)))
       (.seq
        (.block 1
         (.seq
          (.dreg 6 [⟨(some 34), none, (.q (.faddr 6 (.t 2)))⟩, ⟨(some 35), none, (.q (.load none (.t 34)))⟩, ⟨(some 36), none, (.q (.mov (.t 5)))⟩, ⟨(some 37), none, (.q (.iaddr 7 (.t 35) (.t 36)))⟩, ⟨(some 38), none, (.q (.load (some 7) (.t 37)))⟩, ⟨(some 39), none, (.q (.faddr 6 (.t 3)))⟩, ⟨(some 40), none, (.q (.load none (.t 39)))⟩, ⟨(some 41), none, (.q (.mov (.t 5)))⟩, ⟨(some 42), none, (.q (.iaddr 7 (.t 40) (.t 41)))⟩, ⟨(some 43), none, (.q (.load (some 7) (.t 42)))⟩, ⟨(some 44), none, (.call 92 [(.t 38), (.t 43)])⟩, ⟨(some 45), none, (.q (.not (.t 44)))⟩] false [2, 3, 5, 45])
          (.cond (.t 45)
           (.seq
            (.reg 7 [⟨(some 4), none, (.q (.mov (.c (.bool false))))⟩] [4])
            .ret)
           .skip)))
        (.reg 5 [⟨(some 32), none, (.q (.mov (.t 5)))⟩, ⟨(some 33), none, (.q (.bin .add (.t 32) (.c (.int .i64 1))))⟩, ⟨(some 5), none, (.q (.mov (.t 33)))⟩] [2, 3, 5]))))))
   (.seq
    (.reg 8 [⟨(some 4), none, (.q (.mov (.c (.bool true))))⟩] [4])
    .ret))))
theorem fok92 : FOK Tryz.prog 92 (46, ic92, [(.t 4)]) := .mk (pf := [1000002, 1000003]) (an := [(0, [2, 3]), (1, [2, 3, 26]), (2, [4]), (3, [2, 3, 5]), (4, [2, 3, 5, 31]), (5, [2, 3, 5]), (6, [2, 3, 5, 45]), (7, [4]), (8, [4])]) (by kernel_rfl) (fnOK_of Tryz.func92 (by kernel_rfl) (by kernel_rfl) (by kernel_rfl))
/-- slices.IndexFunc[[]chandlery/api.Dep,chandlery/api.Dep] -/
def ic93 : IC :=
(.seq
 (.reg 0 [⟨(some 4), none, (.q (.mov (.c (.int .i64 0))))⟩] [0, 1])
 (.seq
  (.seq
   (.reg 1 [⟨(some 6), none, (.q (.mov (.t 0)))⟩, ⟨(some 7), none, (.q (.len 0 (.t 6)))⟩, ⟨(some 8), none, (.q (.mov (.c (.int .i64 0))))⟩] [0, 1, 7, 8])
   (.block 0
    (.loop
     (.seq
      (.reg 2 [⟨(some 9), none, (.q (.bin .lss (.t 8) (.t 7)))⟩] [0, 1, 7, 8, 9])
      (.seq
       (.cond (.t 9)
        .skip
        (.exit 0))
       (.seq
        (.block 1
         (.seq
          (.reg 3 [⟨(some 10), none, (.q (.mov (.t 8)))⟩, ⟨(some 5), none, (.q (.mov (.t 10)))⟩] [0, 1, 5, 7, 8])
          (.seq
           (.reg 4 [⟨(some 11), none, (.q (.mov (.t 1)))⟩, ⟨(some 12), none, (.q (.mov (.t 0)))⟩, ⟨(some 13), none, (.q (.mov (.t 5)))⟩, ⟨(some 14), none, (.q (.iaddr 5 (.t 12) (.t 13)))⟩, ⟨(some 15), none, (.q (.load (some 5) (.t 14)))⟩, ⟨(some 16), none, (.callv (.t 11) [(.t 15)])⟩] [0, 1, 5, 7, 8, 16])
           (.cond (.t 16)
            (.seq
            (.reg 5 [⟨(some 17), none, (.q (.mov (.t 5)))⟩, ⟨(some 4), none, (.q (.mov (.t 17)))⟩] [4])
            .ret)
            .skip))))
        (.reg 6 [⟨(some 18), none, (.q (.bin .add (.t 8) (.c (.int .i64 1))))⟩, ⟨(some 8), none, (.q (.mov (.t 18)))⟩] [0, 1, 7, 8])))))))
  (.seq
   (.reg 7 [⟨(some 4), none, (.q (.mov (.c (.int .i64 (-1)))))⟩] [4])
   .ret)))
theorem fok93 : FOK Tryz.prog 93 (19, ic93, [(.t 4)]) := .mk (pf := []) (an := [(0, [0, 1]), (1, [0, 1, 7, 8]), (2, [0, 1, 7, 8, 9]), (3, [0, 1, 5, 7, 8]), (4, [0, 1, 5, 7, 8, 16]), (5, [4]), (6, [0, 1, 7, 8]), (7, [4])]) (by kernel_rfl) (fnOK_of Tryz.func93 (by kernel_rfl) (by kernel_rfl) (by kernel_rfl))
/-- slices.pdqsortOrdered[int] -/
def ic95 : IC :=
(.seq
 (.reg 0 [⟨(some 8), none, (.q (.mov (.c (.bool true))))⟩] [0, 1, 2, 3, 8])
 (.seq
  (.reg 1 [⟨(some 9), none, (.q (.mov (.c (.bool true))))⟩] [0, 1, 2, 3, 8, 9])
  (.block 0
   (.loop
    (.block 1
     (.seq
      (.reg 2 [⟨(some 19), none, (.q (.mov (.t 2)))⟩, ⟨(some 20), none, (.q (.mov (.t 1)))⟩, ⟨(some 21), none, (.q (.bin .sub (.t 19) (.t 20)))⟩, ⟨(some 10), none, (.q (.mov (.t 21)))⟩] [0, 1, 2, 3, 8, 9, 10])
      (.seq
       (.seq
        (.reg 3 [⟨(some 22), none, (.q (.mov (.t 10)))⟩, ⟨(some 23), none, (.q (.bin .leq (.t 22) (.c (.int .i64 12))))⟩] [0, 1, 2, 3, 8, 9, 10, 23])
        (.cond (.t 23)
         (.seq
          (.reg 4 [⟨(some 24), none, (.q (.mov (.t 0)))⟩, ⟨(some 25), none, (.q (.mov (.t 1)))⟩, ⟨(some 26), none, (.q (.mov (.t 2)))⟩, ⟨(some 27), none, (.call 121 [(.t 24), (.t 25), (.t 26)])⟩] [])
          .ret)
         .skip))
       (.seq
        (.seq
         (.reg 5 [⟨(some 28), none, (.q (.mov (.t 3)))⟩, ⟨(some 29), none, (.q (.bin .eql (.t 28) (.c (.int .i64 0))))⟩] [0, 1, 2, 3, 8, 9, 10, 29])
         (.cond (.t 29)
          (.seq
           (.reg 6 [⟨(some 30), none, (.q (.mov (.t 0)))⟩, ⟨(some 31), none, (.q (.mov (.t 1)))⟩, ⟨(some 32), none, (.q (.mov (.t 2)))⟩, ⟨(some 33), none, (.call 122 [(.t 30), (.t 31), (.t 32)])⟩] [])
           .ret)
          .skip))
        (.seq
         (.seq
          (.reg 7 [⟨(some 34), none, (.q (.mov (.t 8)))⟩, ⟨(some 35), none, (.q (.not (.t 34)))⟩] [0, 1, 2, 3, 8, 9, 10, 35])
          (.cond (.t 35)
           (.seq
            (.reg 8 [⟨(some 36), none, (.q (.mov (.t 0)))⟩, ⟨(some 37), none, (.q (.mov (.t 1)))⟩, ⟨(some 38), none, (.q (.mov (.t 2)))⟩, ⟨(some 39), none, (.call 123 [(.t 36), (.t 37), (.t 38)])⟩] [0, 1, 2, 3, 8, 9, 10])
            (.reg 9 [⟨(some 40), none, (.q (.mov (.t 3)))⟩, ⟨(some 41), none, (.q (.bin .sub (.t 40) (.c (.int .i64 1))))⟩, ⟨(some 3), none, (.q (.mov (.t 41)))⟩] [0, 1, 2, 3, 8, 9, 10]))
           .skip))
         (.seq
          (.reg 10 [⟨(some 43), none, (.q (.mov (.t 0)))⟩, ⟨(some 44), none, (.q (.mov (.t 1)))⟩, ⟨(some 45), none, (.q (.mov (.t 2)))⟩, ⟨(some 46), none, (.call 124 [(.t 43), (.t 44), (.t 45)])⟩, ⟨(some 42), none, (.q (.mov (.t 46)))⟩, ⟨(some 47), none, (.q (.ext 0 (.t 42)))⟩, ⟨(some 48), none, (.q (.ext 1 (.t 42)))⟩, ⟨(some 11), none, (.q (.mov (.t 47)))⟩, ⟨(some 12), none, (.q (.mov (.t 48)))⟩] [0, 1, 2, 3, 8, 9, 10, 11, 12])
          (.seq
           (.seq
            (.reg 11 [⟨(some 49), none, (.q (.mov (.t 12)))⟩, ⟨(some 50), none, (.q (.bin .eql (.t 49) (.c (.int .i64 2))))⟩] [0, 1, 2, 3, 8, 9, 10, 11, 12, 50])
            (.cond (.t 50)
            (.seq
            (.reg 12 [⟨(some 51), none, (.q (.mov (.t 0)))⟩, ⟨(some 52), none, (.q (.mov (.t 1)))⟩, ⟨(some 53), none, (.q (.mov (.t 2)))⟩, ⟨(some 54), none, (.call 125 [(.t 51), (.t 52), (.t 53)])⟩] [0, 1, 2, 3, 8, 9, 10, 11])
            (.seq
            (.reg 13 [⟨(some 55), none, (.q (.mov (.t 2)))⟩, ⟨(some 56), none, (.q (.bin .sub (.t 55) (.c (.int .i64 1))))⟩, ⟨(some 57), none, (.q (.mov (.t 11)))⟩, ⟨(some 58), none, (.q (.mov (.t 1)))⟩, ⟨(some 59), none, (.q (.bin .sub (.t 57) (.t 58)))⟩, ⟨(some 60), none, (.q (.bin .sub (.t 56) (.t 59)))⟩, ⟨(some 11), none, (.q (.mov (.t 60)))⟩] [0, 1, 2, 3, 8, 9, 10, 11])
            (.reg 14 [⟨(some 12), none, (.q (.mov (.c (.int .i64 1))))⟩] [0, 1, 2, 3, 8, 9, 10, 11, 12])))
            .skip))
           (.seq
            (.seq
            (.reg 15 [⟨(some 61), none, (.q (.mov (.t 8)))⟩, ⟨(some 62), none, (.q (.mov (.t 61)))⟩, ⟨(some 63), (some ⟨62, true⟩), (.q (.mov (.t 9)))⟩, ⟨(some 64), none, (.q (.pick (.t 62) (.t 63) (.c (.bool false))))⟩, ⟨(some 65), none, (.q (.mov (.t 64)))⟩, ⟨(some 66), (some ⟨65, true⟩), (.q (.mov (.t 12)))⟩, ⟨(some 67), (some ⟨65, true⟩), (.q (.bin .eql (.t 66) (.c (.int .i64 1))))⟩, ⟨(some 68), none, (.q (.pick (.t 65) (.t 67) (.c (.bool false))))⟩] [0, 1, 2, 3, 8, 9, 10, 11, 68])
            (.cond (.t 68)
            (.seq
            (.reg 16 [⟨(some 69), none, (.q (.mov (.t 0)))⟩, ⟨(some 70), none, (.q (.mov (.t 1)))⟩, ⟨(some 71), none, (.q (.mov (.t 2)))⟩, ⟨(some 72), none, (.call 126 [(.t 69), (.t 70), (.t 71)])⟩] [0, 1, 2, 3, 8, 9, 10, 11, 72])
            (.cond (.t 72)
            .ret
            .skip))
            .skip))
            (.seq
            (.seq
            (.dreg 17 [⟨(some 73), none, (.q (.mov (.t 1)))⟩, ⟨(some 74), none, (.q (.bin .gtr (.t 73) (.c (.int .i64 0))))⟩, ⟨(some 75), none, (.q (.mov (.t 74)))⟩, ⟨(some 76), (some ⟨75, true⟩), (.q (.mov (.t 0)))⟩, ⟨(some 77), (some ⟨75, true⟩), (.q (.mov (.t 1)))⟩, ⟨(some 78), (some ⟨75, true⟩), (.q (.bin .sub (.t 77) (.c (.int .i64 1))))⟩, ⟨(some 79), (some ⟨75, true⟩), (.q (.iaddr 1 (.t 76) (.t 78)))⟩, ⟨(some 80), (some ⟨75, true⟩), (.q (.load none (.t 79)))⟩, ⟨(some 81), (some ⟨75, true⟩), (.q (.mov (.t 0)))⟩, ⟨(some 82), (some ⟨75, true⟩), (.q (.mov (.t 11)))⟩, ⟨(some 83), (some ⟨75, true⟩), (.q (.iaddr 1 (.t 81) (.t 82)))⟩, ⟨(some 84), (some ⟨75, true⟩), (.q (.load none (.t 83)))⟩, ⟨(some 85), (some ⟨75, true⟩), (.call 127 [(.t 80), (.t 84)])⟩, ⟨(some 86), (some ⟨75, true⟩), (.q (.not (.t 85)))⟩, ⟨(some 87), none, (.q (.pick (.t 75) (.t 86) (.c (.bool false))))⟩] false [0, 1, 2, 3, 8, 9, 10, 11, 87])
            (.cond (.t 87)
            (.seq
            (.reg 18 [⟨(some 88), none, (.q (.mov (.t 0)))⟩, ⟨(some 89), none, (.q (.mov (.t 1)))⟩, ⟨(some 90), none, (.q (.mov (.t 2)))⟩, ⟨(some 91), none, (.q (.mov (.t 11)))⟩, ⟨(some 92), none, (.call 128 [(.t 88), (.t 89), (.t 90), (.t 91)])⟩, ⟨(some 13), none, (.q (.mov (.t 92)))⟩] [0, 2, 3, 8, 9, 13])
            (.seq
            (.reg 19 [⟨(some 93), none, (.q (.mov (.t 13)))⟩, ⟨(some 1), none, (.q (.mov (.t 93)))⟩] [0, 1, 2, 3, 8, 9])
            (.exit 1)))
            .skip))
            (.seq
            (.reg 20 [⟨(some 95), none, (.q (.mov (.t 0)))⟩, ⟨(some 96), none, (.q (.mov (.t 1)))⟩, ⟨(some 97), none, (.q (.mov (.t 2)))⟩, ⟨(some 98), none, (.q (.mov (.t 11)))⟩, ⟨(some 99), none, (.call 129 [(.t 95), (.t 96), (.t 97), (.t 98)])⟩, ⟨(some 94), none, (.q (.mov (.t 99)))⟩, ⟨(some 100), none, (.q (.ext 0 (.t 94)))⟩, ⟨(some 101), none, (.q (.ext 1 (.t 94)))⟩, ⟨(some 14), none, (.q (.mov (.t 100)))⟩, ⟨(some 15), none, (.q (.mov (.t 101)))⟩] [0, 1, 2, 3, 10, 14, 15])
            (.seq
            (.reg 21 [⟨(some 102), none, (.q (.mov (.t 15)))⟩, ⟨(some 9), none, (.q (.mov (.t 102)))⟩] [0, 1, 2, 3, 9, 10, 14])
            (.seq
            (.reg 22 [⟨(some 103), none, (.q (.mov (.t 14)))⟩, ⟨(some 104), none, (.q (.mov (.t 1)))⟩, ⟨(some 105), none, (.q (.bin .sub (.t 103) (.t 104)))⟩, ⟨(some 106), none, (.q (.mov (.t 2)))⟩, ⟨(some 107), none, (.q (.mov (.t 14)))⟩, ⟨(some 108), none, (.q (.bin .sub (.t 106) (.t 107)))⟩, ⟨(some 16), none, (.q (.mov (.t 105)))⟩, ⟨(some 17), none, (.q (.mov (.t 108)))⟩] [0, 1, 2, 3, 9, 10, 14, 16, 17])
            (.seq
            (.reg 23 [⟨(some 109), none, (.q (.mov (.t 10)))⟩, ⟨(some 110), none, (.q (.bin .quo (.t 109) (.c (.int .i64 8))))⟩, ⟨(some 18), none, (.q (.mov (.t 110)))⟩] [0, 1, 2, 3, 9, 14, 16, 17, 18])
            (.seq
            (.reg 24 [⟨(some 111), none, (.q (.mov (.t 16)))⟩, ⟨(some 112), none, (.q (.mov (.t 17)))⟩, ⟨(some 113), none, (.q (.bin .lss (.t 111) (.t 112)))⟩] [0, 1, 2, 3, 9, 14, 16, 17, 18, 113])
            (.cond (.t 113)
            (.seq
            (.reg 25 [⟨(some 114), none, (.q (.mov (.t 16)))⟩, ⟨(some 115), none, (.q (.mov (.t 18)))⟩, ⟨(some 116), none, (.q (.bin .geq (.t 114) (.t 115)))⟩, ⟨(some 8), none, (.q (.mov (.t 116)))⟩] [0, 1, 2, 3, 8, 9, 14])
            (.seq
            (.reg 26 [⟨(some 117), none, (.q (.mov (.t 0)))⟩, ⟨(some 118), none, (.q (.mov (.t 1)))⟩, ⟨(some 119), none, (.q (.mov (.t 14)))⟩, ⟨(some 120), none, (.q (.mov (.t 3)))⟩, ⟨(some 121), none, (.call 95 [(.t 117), (.t 118), (.t 119), (.t 120)])⟩] [0, 2, 3, 8, 9, 14])
            (.reg 27 [⟨(some 122), none, (.q (.mov (.t 14)))⟩, ⟨(some 123), none, (.q (.bin .add (.t 122) (.c (.int .i64 1))))⟩, ⟨(some 1), none, (.q (.mov (.t 123)))⟩] [0, 1, 2, 3, 8, 9])))
            (.seq
            (.reg 28 [⟨(some 124), none, (.q (.mov (.t 17)))⟩, ⟨(some 125), none, (.q (.mov (.t 18)))⟩, ⟨(some 126), none, (.q (.bin .geq (.t 124) (.t 125)))⟩, ⟨(some 8), none, (.q (.mov (.t 126)))⟩] [0, 1, 2, 3, 8, 9, 14])
            (.seq
            (.reg 29 [⟨(some 127), none, (.q (.mov (.t 0)))⟩, ⟨(some 128), none, (.q (.mov (.t 14)))⟩, ⟨(some 129), none, (.q (.bin .add (.t 128) (.c (.int .i64 1))))⟩, ⟨(some 130), none, (.q (.mov (.t 2)))⟩, ⟨(some 131), none, (.q (.mov (.t 3)))⟩, ⟨(some 132), none, (.call 95 [(.t 127), (.t 129), (.t 130), (.t 131)])⟩] [0, 1, 3, 8, 9, 14])
            (.reg 30 [⟨(some 133), none, (.q (.mov (.t 14)))⟩, ⟨(some 2), none, (.q (.mov (.t 133)))⟩] [0, 1, 2, 3, 8, 9]))))))))))))))))))))))
theorem fok95 : FOK Tryz.prog 95 (134, ic95, []) := .mk (pf := []) (an := [(0, [0, 1, 2, 3, 8]), (1, [0, 1, 2, 3, 8, 9]), (2, [0, 1, 2, 3, 8, 9, 10]), (3, [0, 1, 2, 3, 8, 9, 10, 23]), (5, [0, 1, 2, 3, 8, 9, 10, 29]), (7, [0, 1, 2, 3, 8, 9, 10, 35]), (8, [0, 1, 2, 3, 8, 9, 10]), (9, [0, 1, 2, 3, 8, 9, 10]), (10, [0, 1, 2, 3, 8, 9, 10, 11, 12]), (11, [0, 1, 2, 3, 8, 9, 10, 11, 12, 50]), (12, [0, 1, 2, 3, 8, 9, 10, 11]), (13, [0, 1, 2, 3, 8, 9, 10, 11]), (14, [0, 1, 2, 3, 8, 9, 10, 11, 12]), (15, [0, 1, 2, 3, 8, 9, 10, 11, 68]), (16, [0, 1, 2, 3, 8, 9, 10, 11, 72]), (17, [0, 1, 2, 3, 8, 9, 10, 11, 87]), (18, [0, 2, 3, 8, 9, 13]), (19, [0, 1, 2, 3, 8, 9]), (20, [0, 1, 2, 3, 10, 14, 15]), (21, [0, 1, 2, 3, 9, 10, 14]), (22, [0, 1, 2, 3, 9, 10, 14, 16, 17]), (23, [0, 1, 2, 3, 9, 14, 16, 17, 18]), (24, [0, 1, 2, 3, 9, 14, 16, 17, 18, 113]), (25, [0, 1, 2, 3, 8, 9, 14]), (26, [0, 2, 3, 8, 9, 14]), (27, [0, 1, 2, 3, 8, 9]), (28, [0, 1, 2, 3, 8, 9, 14]), (29, [0, 1, 3, 8, 9, 14]), (30, [0, 1, 2, 3, 8, 9])]) (by kernel_rfl) (fnOK_of Tryz.func95 (by kernel_rfl) (by kernel_rfl) (by kernel_rfl))
/-- math/bits.Len -/
def ic96 : IC :=
(.seq
 (.reg 0 [⟨(some 2), none, (.q (.mov (.c (.int .i64 0))))⟩] [0])
 (.seq
  (.cond (.c (.bool false))
   (.seq
    (.reg 1 [⟨(some 3), none, (.q (.mov (.t 0)))⟩, ⟨(some 4), none, (.q (.conv .u32 (.t 3)))⟩, ⟨(some 5), none, (.call 130 [(.t 4)])⟩, ⟨(some 2), none, (.q (.mov (.t 5)))⟩] [2])
    .ret)
   .skip)
  (.seq
   (.reg 2 [⟨(some 6), none, (.q (.mov (.t 0)))⟩, ⟨(some 7), none, (.call 131 [(.t 6)])⟩, ⟨(some 2), none, (.q (.mov (.t 7)))⟩] [2])
   .ret)))
theorem fok96 : FOK Tryz.prog 96 (8, ic96, [(.t 2)]) := .mk (pf := []) (an := [(0, [0]), (1, [2]), (2, [2])]) (by kernel_rfl) (fnOK_of Tryz.func96 (by kernel_rfl) (by kernel_rfl) (by kernel_rfl))
/-- slices.Index[[]int,int] -/
def ic97 : IC :=
(.seq
 (.reg 0 [⟨(some 4), none, (.q (.mov (.c (.int .i64 0))))⟩] [0, 1])
 (.seq
  (.seq
   (.reg 1 [⟨(some 6), none, (.q (.mov (.t 0)))⟩, ⟨(some 7), none, (.q (.len 0 (.t 6)))⟩, ⟨(some 8), none, (.q (.mov (.c (.int .i64 0))))⟩] [0, 1, 7, 8])
   (.block 0
    (.loop
     (.seq
      (.reg 2 [⟨(some 9), none, (.q (.bin .lss (.t 8) (.t 7)))⟩] [0, 1, 7, 8, 9])
      (.seq
       (.cond (.t 9)
        .skip
        (.exit 0))
       (.seq
        (.block 1
         (.seq
          (.reg 3 [⟨(some 10), none, (.q (.mov (.t 8)))⟩, ⟨(some 5), none, (.q (.mov (.t 10)))⟩] [0, 1, 5, 7, 8])
          (.seq
           (.reg 4 [⟨(some 11), none, (.q (.mov (.t 1)))⟩, ⟨(some 12), none, (.q (.mov (.t 0)))⟩, ⟨(some 13), none, (.q (.mov (.t 5)))⟩, ⟨(some 14), none, (.q (.iaddr 1 (.t 12) (.t 13)))⟩, ⟨(some 15), none, (.q (.load none (.t 14)))⟩, ⟨(some 16), none, (.q (.bin .eql (.t 11) (.t 15)))⟩] [0, 1, 5, 7, 8, 16])
           (.cond (.t 16)
            (.seq
            (.reg 5 [⟨(some 17), none, (.q (.mov (.t 5)))⟩, ⟨(some 4), none, (.q (.mov (.t 17)))⟩] [4])
            .ret)
            .skip))))
        (.reg 6 [⟨(some 18), none, (.q (.bin .add (.t 8) (.c (.int .i64 1))))⟩, ⟨(some 8), none, (.q (.mov (.t 18)))⟩] [0, 1, 7, 8])))))))
  (.seq
   (.reg 7 [⟨(some 4), none, (.q (.mov (.c (.int .i64 (-1)))))⟩] [4])
   .ret)))
theorem fok97 : FOK Tryz.prog 97 (19, ic97, [(.t 4)]) := .mk (pf := []) (an := [(0, [0, 1]), (1, [0, 1, 7, 8]), (2, [0, 1, 7, 8, 9]), (3, [0, 1, 5, 7, 8]), (4, [0, 1, 5, 7, 8, 16]), (5, [4]), (6, [0, 1, 7, 8]), (7, [4])]) (by kernel_rfl) (fnOK_of Tryz.func97 (by kernel_rfl) (by kernel_rfl) (by kernel_rfl))
/-- chandlery/span.Meet -/
def ic98 : IC :=
(.seq
 (.reg 0 [⟨(some 2), none, (.boxt (.t 0))⟩, ⟨(some 3), none, (.boxt (.t 1))⟩, ⟨(some 4), none, (.q (.mov (.c (.bool false))))⟩] [2, 3])
 (.seq
  (.seq
   (.reg 1 [⟨(some 6), none, (.q (.faddr 1 (.t 2)))⟩, ⟨(some 7), none, (.q (.load none (.t 6)))⟩, ⟨(some 8), none, (.q (.bin .and (.t 7) (.c (.int .u8 7))))⟩, ⟨(some 9), none, (.q (.bin .eql (.t 8) (.c (.int .u8 0))))⟩, ⟨(some 10), none, (.q (.mov (.t 9)))⟩, ⟨(some 11), (some ⟨10, false⟩), (.q (.faddr 1 (.t 3)))⟩, ⟨(some 12), (some ⟨10, false⟩), (.q (.load none (.t 11)))⟩, ⟨(some 13), (some ⟨10, false⟩), (.q (.bin .and (.t 12) (.c (.int .u8 7))))⟩, ⟨(some 14), (some ⟨10, false⟩), (.q (.bin .eql (.t 13) (.c (.int .u8 0))))⟩, ⟨(some 15), none, (.q (.pick (.t 10) (.c (.bool true)) (.t 14)))⟩] [2, 3, 15])
   (.cond (.t 15)
    (.seq
     (.reg 2 [⟨(some 4), none, (.q (.mov (.c (.bool true))))⟩] [4])
     .ret)
    .skip))
  (.seq
   (.reg 3 [⟨(some 16), none, (.q (.faddr 2 (.t 2)))⟩, ⟨(some 17), none, (.q (.load (some 3) (.t 16)))⟩, ⟨(some 18), none, (.q (.faddr 2 (.t 3)))⟩, ⟨(some 19), none, (.q (.load (some 3) (.t 18)))⟩, ⟨(some 20), none, (.pcall 132 [(.t 17), (.t 19)])⟩, ⟨(some 5), none, (.q (.mov (.t 20)))⟩] [2, 3, 5])
   (.seq
    (.seq
     (.reg 4 [⟨(some 21), none, (.q (.mov (.t 5)))⟩, ⟨(some 22), none, (.q (.bin .eql (.t 21) (.c (.int .i64 0))))⟩] [2, 3, 5, 22])
     (.cond (.t 22)
      (.seq
       (.reg 5 [⟨(some 23), none, (.q (.faddr 1 (.t 2)))⟩, ⟨(some 24), none, (.q (.load none (.t 23)))⟩, ⟨(some 25), none, (.q (.faddr 1 (.t 3)))⟩, ⟨(some 26), none, (.q (.load none (.t 25)))⟩, ⟨(some 27), none, (.q (.bin .and (.t 24) (.t 26)))⟩, ⟨(some 28), none, (.q (.bin .and (.t 27) (.c (.int .u8 7))))⟩, ⟨(some 29), none, (.q (.bin .neq (.t 28) (.c (.int .u8 0))))⟩, ⟨(some 4), none, (.q (.mov (.t 29)))⟩] [4])
       .ret)
      .skip))
    (.seq
     (.dreg 6 [⟨(some 30), none, (.q (.faddr 1 (.t 2)))⟩, ⟨(some 31), none, (.q (.load none (.t 30)))⟩, ⟨(some 32), none, (.q (.mov (.t 5)))⟩, ⟨(some 33), none, (.q (.neg (.t 32)))⟩, ⟨(some 34), none, (.pcall 133 [(.t 33)])⟩, ⟨(some 35), none, (.q (.bin .and (.t 31) (.t 34)))⟩, ⟨(some 36), none, (.q (.bin .neq (.t 35) (.c (.int .u8 0))))⟩, ⟨(some 37), none, (.q (.mov (.t 36)))⟩, ⟨(some 38), (some ⟨37, false⟩), (.q (.faddr 1 (.t 3)))⟩, ⟨(some 39), (some ⟨37, false⟩), (.q (.load none (.t 38)))⟩, ⟨(some 40), (some ⟨37, false⟩), (.q (.mov (.t 5)))⟩, ⟨(some 41), (some ⟨37, false⟩), (.pcall 133 [(.t 40)])⟩, ⟨(some 42), (some ⟨37, false⟩), (.q (.bin .and (.t 39) (.t 41)))⟩, ⟨(some 43), (some ⟨37, false⟩), (.q (.bin .neq (.t 42) (.c (.int .u8 0))))⟩, ⟨(some 44), none, (.q (.pick (.t 37) (.c (.bool true)) (.t 43)))⟩, ⟨(some 4), none, (.q (.mov (.t 44)))⟩] false [4])
     .ret)))))
theorem fok98 : FOK Tryz.prog 98 (45, ic98, [(.t 4)]) := .mk (pf := ([1000002, 1000003] ++ allF1)) (an := [(0, [2, 3]), (1, [2, 3, 15]), (2, [4]), (3, [2, 3, 5]), (4, [2, 3, 5, 22]), (5, [4]), (6, [4])]) (by kernel_rfl) (fnOK_of Tryz.func98 (by kernel_rfl) (by kernel_rfl) (by kernel_rfl))
/-- slices.Index[[]string,string] -/
def ic99 : IC :=
(.seq
 (.reg 0 [⟨(some 4), none, (.q (.mov (.c (.int .i64 0))))⟩] [0, 1])
 (.seq
  (.seq
   (.reg 1 [⟨(some 6), none, (.q (.mov (.t 0)))⟩, ⟨(some 7), none, (.q (.len 0 (.t 6)))⟩, ⟨(some 8), none, (.q (.mov (.c (.int .i64 0))))⟩] [0, 1, 7, 8])
   (.block 0
    (.loop
     (.seq
      (.reg 2 [⟨(some 9), none, (.q (.bin .lss (.t 8) (.t 7)))⟩] [0, 1, 7, 8, 9])
      (.seq
       (.cond (.t 9)
        .skip
        (.exit 0))
       (.seq
        (.block 1
         (.seq
          (.reg 3 [⟨(some 10), none, (.q (.mov (.t 8)))⟩, ⟨(some 5), none, (.q (.mov (.t 10)))⟩] [0, 1, 5, 7, 8])
          (.seq
           (.reg 4 [⟨(some 11), none, (.q (.mov (.t 1)))⟩, ⟨(some 12), none, (.q (.mov (.t 0)))⟩, ⟨(some 13), none, (.q (.mov (.t 5)))⟩, ⟨(some 14), none, (.q (.iaddr 1 (.t 12) (.t 13)))⟩, ⟨(some 15), none, (.q (.load none (.t 14)))⟩, ⟨(some 16), none, (.q (.bin .eql (.t 11) (.t 15)))⟩] [0, 1, 5, 7, 8, 16])
           (.cond (.t 16)
            (.seq
            (.reg 5 [⟨(some 17), none, (.q (.mov (.t 5)))⟩, ⟨(some 4), none, (.q (.mov (.t 17)))⟩] [4])
            .ret)
            .skip))))
        (.reg 6 [⟨(some 18), none, (.q (.bin .add (.t 8) (.c (.int .i64 1))))⟩, ⟨(some 8), none, (.q (.mov (.t 18)))⟩] [0, 1, 7, 8])))))))
  (.seq
   (.reg 7 [⟨(some 4), none, (.q (.mov (.c (.int .i64 (-1)))))⟩] [4])
   .ret)))
theorem fok99 : FOK Tryz.prog 99 (19, ic99, [(.t 4)]) := .mk (pf := []) (an := [(0, [0, 1]), (1, [0, 1, 7, 8]), (2, [0, 1, 7, 8, 9]), (3, [0, 1, 5, 7, 8]), (4, [0, 1, 5, 7, 8, 16]), (5, [4]), (6, [0, 1, 7, 8]), (7, [4])]) (by kernel_rfl) (fnOK_of Tryz.func99 (by kernel_rfl) (by kernel_rfl) (by kernel_rfl))
/-- chandlery/dep.Own -/
def ic100 : IC :=
(.seq
 (.reg 0 [⟨(some 3), none, (.boxt (.t 1))⟩, ⟨(some 4), none, (.alloc [(.str []), (.int .u8 0), (.int .i64 0), (.str []), (.str [])])⟩] [0, 3, 4])
 (.seq
  (.reg 1 [⟨(some 5), none, (.q (.mov (.t 0)))⟩, ⟨(some 6), none, (.q (.load (some 3) (.t 3)))⟩, ⟨(some 7), none, (.q (.bld [(.str []), (.int .u8 0), (.int .i64 0), (.str []), (.str [])] [⟨0, ⟨1, (.t 5)⟩⟩, ⟨1, ⟨1, (.c (.int .u8 2))⟩⟩, ⟨2, ⟨3, (.t 6)⟩⟩]))⟩, ⟨none, none, (.store 5 (.t 4) (.t 7))⟩] [4])
  .ret))
theorem fok100 : FOK Tryz.prog 100 (8, ic100, [(.cell (some 5) 4)]) := .mk (pf := [1000003]) (an := [(0, [0, 3, 4]), (1, [4])]) (by kernel_rfl) (fnOK_of Tryz.func100 (by kernel_rfl) (by kernel_rfl) (by kernel_rfl))
/-- chandlery/dep.Name -/
def ic101 : IC :=
(.seq
 (.reg 0 [⟨(some 2), none, (.q (.mov (.c (.bool false))))⟩] [0])
 (.seq
  (.seq
   (.reg 1 [⟨(some 7), none, (.q (.mov (.t 0)))⟩, ⟨(some 8), none, (.q (.len 1 (.t 7)))⟩, ⟨(some 9), none, (.q (.bin .lss (.t 8) (.c (.int .i64 1))))⟩, ⟨(some 10), none, (.q (.mov (.t 9)))⟩, ⟨(some 11), (some ⟨10, false⟩), (.q (.mov (.t 0)))⟩, ⟨(some 12), (some ⟨10, false⟩), (.q (.len 1 (.t 11)))⟩, ⟨(some 13), (some ⟨10, false⟩), (.q (.bin .gtr (.t 12) (.c (.int .i64 64))))⟩, ⟨(some 14), none, (.q (.pick (.t 10) (.c (.bool true)) (.t 13)))⟩] [0, 14])
   (.cond (.t 14)
    (.seq
     (.reg 2 [⟨(some 2), none, (.q (.mov (.c (.bool false))))⟩] [2])
     .ret)
    .skip))
  (.seq
   (.seq
    (.reg 3 [⟨(some 15), none, (.q (.mov (.t 0)))⟩, ⟨(some 16), none, (.srange (.t 15))⟩] [0, 16])
    (.block 0
     (.loop
      (.seq
       (.reg 4 [⟨(some 17), none, (.snext (.t 16))⟩, ⟨(some 18), none, (.q (.ext 0 (.t 17)))⟩] [0, 16, 17, 18])
       (.seq
        (.cond (.t 18)
         .skip
         (.exit 0))
        (.block 1
         (.seq
          (.reg 5 [⟨(some 19), none, (.q (.ext 2 (.t 17)))⟩, ⟨(some 4), none, (.q (.mov (.t 19)))⟩] [0, 4, 16])
          (.seq
           (.reg 6 [⟨(some 20), none, (.q (.mov (.t 4)))⟩, ⟨(some 21), none, (.q (.bin .gtr (.t 20) (.c (.int .i32 126))))⟩, ⟨(some 22), none, (.q (.mov (.t 21)))⟩, ⟨(some 23), (some ⟨22, false⟩), (.q (.mov (.t 4)))⟩, ⟨(some 24), (some ⟨22, false⟩), (.q (.conv .u8 (.t 23)))⟩, ⟨(some 25), (some ⟨22, false⟩), (.call 134 [(.c (.str [97, 98, 99, 100, 101, 102, 103, 104, 105, 106, 107, 108, 109, 110, 111, 112, 113, 114, 115, 116, 117, 118, 119, 120, 121, 122, 65, 66, 67, 68, 69, 70, 71, 72, 73, 74, 75, 76, 77, 78, 79, 80, 81, 82, 83, 84, 85, 86, 87, 88, 89, 90, 48, 49, 50, 51, 52, 53, 54, 55, 56, 57, 46, 95, 43, 45, 47, 58, 64, 126, 94])), (.t 24)])⟩, ⟨(some 26), (some ⟨22, false⟩), (.q (.bin .lss (.t 25) (.c (.int .i64 0))))⟩, ⟨(some 27), none, (.q (.pick (.t 22) (.c (.bool true)) (.t 26)))⟩] [0, 16, 27])
           (.cond (.t 27)
            (.seq
            (.reg 7 [⟨(some 2), none, (.q (.mov (.c (.bool false))))⟩] [2])
            .ret)
            .skip)))))))))
   (.seq
    (.seq
     (.reg 8 [⟨(some 28), none, (.q (.load (some 7) (.g 0)))⟩, ⟨(some 29), none, (.q (.mov (.c (.int .i64 0))))⟩] [0, 28, 29])
     (.block 2
      (.loop
       (.seq
        (.reg 9 [⟨(some 30), none, (.q (.bin .lss (.t 29) (.c (.int .i64 7))))⟩] [0, 28, 29, 30])
        (.seq
         (.cond (.t 30)
          .skip
          (.exit 2))
         (.seq
          (.block 3
           (.seq
            (.reg 10 [⟨(some 31), none, (.q (.idx none 7 1 (.t 28) (.t 29)))⟩, ⟨(some 6), none, (.q (.mov (.t 31)))⟩] [0, 6, 28, 29])
            (.seq
            (.reg 11 [⟨(some 32), none, (.q (.mov (.t 0)))⟩, ⟨(some 33), none, (.q (.mov (.t 6)))⟩, ⟨(some 34), none, (.q (.bin .eql (.t 32) (.t 33)))⟩] [0, 28, 29, 34])
            (.cond (.t 34)
            (.seq
            (.reg 12 [⟨(some 2), none, (.q (.mov (.c (.bool false))))⟩] [2])
            .ret)
            .skip))))
          (.reg 13 [⟨(some 35), none, (.q (.bin .add (.t 29) (.c (.int .i64 1))))⟩, ⟨(some 29), none, (.q (.mov (.t 35)))⟩] [0, 28, 29])))))))
    (.seq
     (.reg 14 [⟨(some 2), none, (.q (.mov (.c (.bool true))))⟩] [2])
     .ret)))))
theorem fok101 : FOK Tryz.prog 101 (36, ic101, [(.t 2)]) := .mk (pf := []) (an := [(0, [0]), (1, [0, 14]), (2, [2]), (3, [0, 16]), (4, [0, 16, 17, 18]), (5, [0, 4, 16]), (6, [0, 16, 27]), (7, [2]), (8, [0, 28, 29]), (9, [0, 28, 29, 30]), (10, [0, 6, 28, 29]), (11, [0, 28, 29, 34]), (12, [2]), (13, [0, 28, 29]), (14, [2])]) (by kernel_rfl) (fnOK_of Tryz.func101 (by kernel_rfl) (by kernel_rfl) (by kernel_rfl))
/-- chandlery/dep.File -/
def ic102 : IC :=
(.seq
 (.reg 0 [⟨(some 2), none, (.q (.mov (.c (.bool false))))⟩] [0])
 (.seq
  (.reg 1 [⟨(some 3), none, (.q (.mov (.t 0)))⟩, ⟨(some 4), none, (.call 101 [(.t 3)])⟩, ⟨(some 5), none, (.q (.mov (.t 4)))⟩, ⟨(some 6), (some ⟨5, true⟩), (.q (.mov (.t 0)))⟩, ⟨(some 7), (some ⟨5, true⟩), (.call 135 [(.t 6), (.c (.str [47]))])⟩, ⟨(some 8), none, (.q (.pick (.t 5) (.t 7) (.c (.bool false))))⟩, ⟨(some 2), none, (.q (.mov (.t 8)))⟩] [2])
  .ret))
theorem fok102 : FOK Tryz.prog 102 (9, ic102, [(.t 2)]) := .mk (pf := []) (an := [(0, [0]), (1, [2])]) (by kernel_rfl) (fnOK_of Tryz.func102 (by kernel_rfl) (by kernel_rfl) (by kernel_rfl))
/-- chandlery/evr.May -/
def ic103 : IC :=
(.seq
 (.reg 0 [⟨(some 2), none, (.boxt (.t 0))⟩, ⟨(some 4), none, (.q (.mov (.c (.bool false))))⟩] [1, 2])
 (.seq
  (.reg 1 [⟨(some 5), none, (.q (.faddr 0 (.t 2)))⟩, ⟨(some 6), none, (.q (.load none (.t 5)))⟩, ⟨(some 7), none, (.q (.bin .geq (.t 6) (.c (.int .i64 0))))⟩, ⟨(some 8), none, (.q (.mov (.t 7)))⟩, ⟨(some 9), (some ⟨8, true⟩), (.q (.faddr 0 (.t 2)))⟩, ⟨(some 10), (some ⟨8, true⟩), (.q (.load none (.t 9)))⟩, ⟨(some 11), (some ⟨8, true⟩), (.q (.bin .leq (.t 10) (.c (.int .i64 2147483647))))⟩, ⟨(some 12), none, (.q (.pick (.t 8) (.t 11) (.c (.bool false))))⟩, ⟨(some 13), none, (.q (.mov (.t 12)))⟩, ⟨(some 14), (some ⟨13, true⟩), (.q (.faddr 1 (.t 2)))⟩, ⟨(some 15), (some ⟨13, true⟩), (.q (.load none (.t 14)))⟩, ⟨(some 16), (some ⟨13, true⟩), (.call 136 [(.t 15)])⟩, ⟨(some 17), none, (.q (.pick (.t 13) (.t 16) (.c (.bool false))))⟩, ⟨(some 18), none, (.q (.mov (.t 17)))⟩, ⟨(some 19), (some ⟨18, true⟩), (.q (.faddr 2 (.t 2)))⟩, ⟨(some 20), (some ⟨18, true⟩), (.q (.load none (.t 19)))⟩, ⟨(some 21), (some ⟨18, true⟩), (.call 136 [(.t 20)])⟩, ⟨(some 22), (some ⟨18, true⟩), (.q (.mov (.t 21)))⟩, ⟨(some 23), (some ⟨22, false⟩), (.q (.mov (.t 1)))⟩, ⟨(some 24), (some ⟨22, false⟩), (.q (.mov (.t 23)))⟩, ⟨(some 25), (some ⟨24, true⟩), (.q (.faddr 2 (.t 2)))⟩, ⟨(some 26), (some ⟨24, true⟩), (.q (.load none (.t 25)))⟩, ⟨(some 27), (some ⟨24, true⟩), (.q (.bin .eql (.t 26) (.c (.str []))))⟩, ⟨(some 28), (some ⟨22, false⟩), (.q (.pick (.t 24) (.t 27) (.c (.bool false))))⟩, ⟨(some 29), (some ⟨18, true⟩), (.q (.pick (.t 22) (.c (.bool true)) (.t 28)))⟩, ⟨(some 30), none, (.q (.pick (.t 18) (.t 29) (.c (.bool false))))⟩, ⟨(some 4), none, (.q (.mov (.t 30)))⟩] [4])
  .ret))
theorem fok103 : FOK Tryz.prog 103 (31, ic103, [(.t 4)]) := .mk (pf := [1000002]) (an := [(0, [1, 2]), (1, [4])]) (by kernel_rfl) (fnOK_of Tryz.func103 (by kernel_rfl) (by kernel_rfl) (by kernel_rfl))
/-- chandlery/arch.Name -/
def ic104 : IC :=
(.seq
 (.reg 0 [⟨(some 2), none, (.q (.mov (.c (.str []))))⟩] [0])
 (.seq
  (.seq
   (.reg 1 [⟨(some 3), none, (.q (.mov (.t 0)))⟩, ⟨(some 4), none, (.call 137 [(.t 3)])⟩, ⟨(some 5), none, (.q (.not (.t 4)))⟩] [0, 5])
   (.cond (.t 5)
    (.seq
     (.reg 2 [⟨(some 2), none, (.q (.mov (.c (.str []))))⟩] [2])
     .ret)
    .skip))
  (.seq
   (.reg 3 [⟨(some 6), none, (.call 138 [])⟩, ⟨(some 7), none, (.q (.mov (.t 0)))⟩, ⟨(some 8), none, (.q (.idx none 5 1 (.t 6) (.t 7)))⟩, ⟨(some 2), none, (.q (.mov (.t 8)))⟩] [2])
   .ret)))
theorem fok104 : FOK Tryz.prog 104 (9, ic104, [(.t 2)]) := .mk (pf := []) (an := [(0, [0]), (1, [0, 5]), (2, [2]), (3, [2])]) (by kernel_rfl) (fnOK_of Tryz.func104 (by kernel_rfl) (by kernel_rfl) (by kernel_rfl))
/-- chandlery/pkg.every[chandlery/api.Dep] -/
def ic105 : IC :=
(.seq
 (.reg 0 [⟨(some 5), none, (.boxt (.t 2))⟩, ⟨(some 6), none, (.q (.mov (.c (.bool false))))⟩] [0, 1, 5])
 (.seq
  (.reg 1 [⟨(some 7), none, (.q (.mov (.t 0)))⟩, ⟨(some 8), none, (.q (.len 0 (.t 7)))⟩, ⟨(some 9), none, (.q (.mov (.t 1)))⟩, ⟨(some 10), none, (.q (.bin .leq (.t 8) (.t 9)))⟩, ⟨(some 11), none, (.q (.mov (.t 10)))⟩, ⟨(some 12), (some ⟨11, true⟩), (.q (.mov (.t 0)))⟩, ⟨(some 13), (some ⟨11, true⟩), (.q (.mkf 139 [] [(.t 5)]))⟩, ⟨(some 14), (some ⟨11, true⟩), (.call 57 [(.t 12), (.t 13)])⟩, ⟨(some 15), (some ⟨11, true⟩), (.q (.not (.t 14)))⟩, ⟨(some 16), none, (.q (.pick (.t 11) (.t 15) (.c (.bool false))))⟩, ⟨(some 6), none, (.q (.mov (.t 16)))⟩] [6])
  .ret))
theorem fok105 : FOK Tryz.prog 105 (17, ic105, [(.t 6)]) := .mk (pf := [1000005]) (an := [(0, [0, 1, 5]), (1, [6])]) (by kernel_rfl) (fnOK_of Tryz.func105 (by kernel_rfl) (by kernel_rfl) (by kernel_rfl))
/-- chandlery/dep.May -/
def ic106 : IC :=
(.seq
 (.reg 0 [⟨(some 1), none, (.boxt (.t 0))⟩, ⟨(some 2), none, (.q (.mov (.c (.bool false))))⟩] [1])
 (.seq
  (.block 0
   (.seq
    (.reg 1 [⟨(some 4), none, (.q (.faddr 0 (.t 1)))⟩, ⟨(some 5), none, (.q (.load none (.t 4)))⟩, ⟨(some 6), none, (.call 101 [(.t 5)])⟩, ⟨(some 7), none, (.q (.not (.t 6)))⟩, ⟨(some 8), none, (.q (.mov (.t 7)))⟩, ⟨(some 9), (some ⟨8, false⟩), (.q (.faddr 1 (.t 1)))⟩, ⟨(some 10), (some ⟨8, false⟩), (.q (.load none (.t 9)))⟩, ⟨(some 11), (some ⟨8, false⟩), (.call 140 [(.t 10)])⟩, ⟨(some 12), (some ⟨8, false⟩), (.q (.not (.t 11)))⟩, ⟨(some 13), none, (.q (.pick (.t 8) (.c (.bool true)) (.t 12)))⟩, ⟨(some 3), none, (.q (.mov (.t 13)))⟩] [1, 3])
    (.cond (.t 3)
     (.seq
      (.reg 2 [⟨(some 2), none, (.q (.mov (.c (.bool false))))⟩] [2])
      .ret)
     (.seq
      (.reg 3 [⟨(some 15), none, (.q (.faddr 1 (.t 1)))⟩, ⟨(some 16), none, (.q (.load none (.t 15)))⟩, ⟨(some 17), none, (.q (.bin .eql (.t 16) (.c (.int .u8 0))))⟩, ⟨(some 14), none, (.q (.mov (.t 17)))⟩] [1, 14])
      (.cond (.t 14)
       (.seq
        (.reg 4 [⟨(some 18), none, (.q (.faddr 2 (.t 1)))⟩, ⟨(some 19), none, (.q (.load (some 3) (.t 18)))⟩, ⟨(some 20), none, (.q (.bld [(.int .i64 0), (.str []), (.str [])] []))⟩, ⟨(some 21), none, (.q (.eqs [1, 2, 2] true false (.t 19) (.t 20)))⟩, ⟨(some 2), none, (.q (.mov (.t 21)))⟩] [2])
        .ret)
       .skip)))))
  (.seq
   (.reg 5 [⟨(some 22), none, (.q (.faddr 0 (.t 1)))⟩, ⟨(some 23), none, (.q (.load none (.t 22)))⟩, ⟨(some 24), none, (.call 102 [(.t 23)])⟩, ⟨(some 25), none, (.q (.not (.t 24)))⟩, ⟨(some 26), none, (.q (.mov (.t 25)))⟩, ⟨(some 27), (some ⟨26, true⟩), (.q (.faddr 2 (.t 1)))⟩, ⟨(some 28), (some ⟨26, true⟩), (.q (.load (some 3) (.t 27)))⟩, ⟨(some 29), (some ⟨26, true⟩), (.call 103 [(.t 28), (.c (.bool true))])⟩, ⟨(some 30), none, (.q (.pick (.t 26) (.t 29) (.c (.bool false))))⟩, ⟨(some 2), none, (.q (.mov (.t 30)))⟩] [2])
   .ret)))
theorem fok106 : FOK Tryz.prog 106 (31, ic106, [(.t 2)]) := .mk (pf := [1000001]) (an := [(0, [1]), (1, [1, 3]), (2, [2]), (3, [1, 14]), (4, [2]), (5, [2])]) (by kernel_rfl) (fnOK_of Tryz.func106 (by kernel_rfl) (by kernel_rfl) (by kernel_rfl))
/-- chandlery/pkg.every[string] -/
def ic107 : IC :=
(.seq
 (.reg 0 [⟨(some 5), none, (.boxt (.t 2))⟩, ⟨(some 6), none, (.q (.mov (.c (.bool false))))⟩] [0, 1, 5])
 (.seq
  (.reg 1 [⟨(some 7), none, (.q (.mov (.t 0)))⟩, ⟨(some 8), none, (.q (.len 0 (.t 7)))⟩, ⟨(some 9), none, (.q (.mov (.t 1)))⟩, ⟨(some 10), none, (.q (.bin .leq (.t 8) (.t 9)))⟩, ⟨(some 11), none, (.q (.mov (.t 10)))⟩, ⟨(some 12), (some ⟨11, true⟩), (.q (.mov (.t 0)))⟩, ⟨(some 13), (some ⟨11, true⟩), (.q (.mkf 142 [] [(.t 5)]))⟩, ⟨(some 14), (some ⟨11, true⟩), (.call 141 [(.t 12), (.t 13)])⟩, ⟨(some 15), (some ⟨11, true⟩), (.q (.not (.t 14)))⟩, ⟨(some 16), none, (.q (.pick (.t 11) (.t 15) (.c (.bool false))))⟩, ⟨(some 6), none, (.q (.mov (.t 16)))⟩] [6])
  .ret))
theorem fok107 : FOK Tryz.prog 107 (17, ic107, [(.t 6)]) := .mk (pf := [1000005]) (an := [(0, [0, 1, 5]), (1, [6])]) (by kernel_rfl) (fnOK_of Tryz.func107 (by kernel_rfl) (by kernel_rfl) (by kernel_rfl))
/-- chandlery/pkg.lists -/
def ic108 : IC :=
(.seq
 (.reg 0 [⟨(some 1), none, (.boxt (.t 0))⟩, ⟨(some 2), none, (.q (.mov (.c .nilfunc)))⟩] [1])
 (.seq
  (.reg 1 [⟨(some 3), none, (.q (.mkf 143 [] [(.t 1)]))⟩, ⟨(some 2), none, (.q (.mov (.t 3)))⟩] [2])
  .ret))
theorem fok108 : FOK Tryz.prog 108 (4, ic108, [(.t 2)]) := .mk (pf := [1000001]) (an := [(0, [1]), (1, [2])]) (by kernel_rfl) (fnOK_of Tryz.func108 (by kernel_rfl) (by kernel_rfl) (by kernel_rfl))
/-- chandlery/pkg.every[chandlery/api.Rich] -/
def ic109 : IC :=
(.seq
 (.reg 0 [⟨(some 5), none, (.boxt (.t 2))⟩, ⟨(some 6), none, (.q (.mov (.c (.bool false))))⟩] [0, 1, 5])
 (.seq
  (.reg 1 [⟨(some 7), none, (.q (.mov (.t 0)))⟩, ⟨(some 8), none, (.q (.len 0 (.t 7)))⟩, ⟨(some 9), none, (.q (.mov (.t 1)))⟩, ⟨(some 10), none, (.q (.bin .leq (.t 8) (.t 9)))⟩, ⟨(some 11), none, (.q (.mov (.t 10)))⟩, ⟨(some 12), (some ⟨11, true⟩), (.q (.mov (.t 0)))⟩, ⟨(some 13), (some ⟨11, true⟩), (.q (.mkf 145 [] [(.t 5)]))⟩, ⟨(some 14), (some ⟨11, true⟩), (.call 144 [(.t 12), (.t 13)])⟩, ⟨(some 15), (some ⟨11, true⟩), (.q (.not (.t 14)))⟩, ⟨(some 16), none, (.q (.pick (.t 11) (.t 15) (.c (.bool false))))⟩, ⟨(some 6), none, (.q (.mov (.t 16)))⟩] [6])
  .ret))
theorem fok109 : FOK Tryz.prog 109 (17, ic109, [(.t 6)]) := .mk (pf := [1000005]) (an := [(0, [0, 1, 5]), (1, [6])]) (by kernel_rfl) (fnOK_of Tryz.func109 (by kernel_rfl) (by kernel_rfl) (by kernel_rfl))
/-- chandlery/pkg.May$1 -/
def ic110 : IC :=
(.seq
 (.reg 0 [⟨(some 2), none, (.boxt (.t 0))⟩, ⟨(some 3), none, (.q (.mov (.c (.bool false))))⟩] [1, 2])
 (.seq
  (.reg 1 [⟨(some 4), none, (.q (.load (some 7) (.t 2)))⟩, ⟨(some 5), none, (.q (.load none (.t 1)))⟩, ⟨(some 6), none, (.call 111 [(.t 4), (.t 5)])⟩, ⟨(some 7), none, (.q (.bin .eql (.t 6) (.c (.int .i64 0))))⟩, ⟨(some 3), none, (.q (.mov (.t 7)))⟩] [3])
  .ret))
theorem fok110 : FOK Tryz.prog 110 (8, ic110, [(.t 3)]) := .mk (pf := [1000002]) (an := [(0, [1, 2]), (1, [3])]) (by kernel_rfl) (fnOK_of Tryz.func110 (by kernel_rfl) (by kernel_rfl) (by kernel_rfl))
/-- chandlery/shape.May -/
def ic111 : IC :=
(.seq
 (.reg 0 [⟨(some 2), none, (.boxt (.t 0))⟩, ⟨(some 3), none, (.boxt (.t 1))⟩, ⟨(some 4), none, (.alloc [(.int .i64 0)])⟩] [2, 3, 4])
 (.seq
  (.block 0
   (.seq
    (.reg 1 [⟨(some 9), none, (.q (.load none (.t 3)))⟩, ⟨(some 10), none, (.q (.bin .lss (.t 9) (.c (.int .u8 1))))⟩, ⟨(some 11), none, (.q (.mov (.t 10)))⟩, ⟨(some 12), (some ⟨11, false⟩), (.q (.load none (.t 3)))⟩, ⟨(some 13), (some ⟨11, false⟩), (.q (.bin .gtr (.t 12) (.c (.int .u8 3))))⟩, ⟨(some 14), none, (.q (.pick (.t 11) (.c (.bool true)) (.t 13)))⟩, ⟨(some 8), none, (.q (.mov (.t 14)))⟩] [2, 3, 4, 8])
    (.cond (.t 8)
     (.seq
      (.reg 2 [⟨none, none, (.store 1 (.t 4) (.c (.int .i64 1)))⟩] [4])
      .ret)
     (.seq
      (.reg 3 [⟨(some 16), none, (.q (.load (some 7) (.t 2)))⟩, ⟨(some 17), none, (.call 146 [(.t 16)])⟩, ⟨(some 18), none, (.q (.bin .gtr (.t 17) (.c (.int .i64 24))))⟩, ⟨(some 15), none, (.q (.mov (.t 18)))⟩] [2, 3, 4, 15])
      (.cond (.t 15)
       (.seq
        (.reg 4 [⟨none, none, (.store 1 (.t 4) (.c (.int .i64 40)))⟩] [4])
        .ret)
       (.seq
        (.reg 5 [⟨(some 20), none, (.q (.load (some 7) (.t 2)))⟩, ⟨(some 21), none, (.call 147 [(.t 20)])⟩, ⟨(some 22), none, (.q (.bin .gtr (.t 21) (.c (.int .i64 8))))⟩, ⟨(some 19), none, (.q (.mov (.t 22)))⟩] [2, 3, 4, 19])
        (.cond (.t 19)
         (.seq
          (.reg 6 [⟨none, none, (.store 1 (.t 4) (.c (.int .i64 21)))⟩] [4])
          .ret)
         .skip)))))))
  (.seq
   (.seq
    (.reg 7 [⟨(some 23), none, (.q (.load (some 7) (.t 2)))⟩, ⟨(some 24), none, (.call 148 [(.t 23)])⟩] [3, 4, 24])
    (.block 1
     (.rfunc (.t 24) [25, 26]
      (.seq
       (.reg 8 [⟨(some 5), none, (.alloc [(.int .u8 0), (.str []), (.int .u8 0), (.int .i64 0), (.str []), (.str []), .nilslice])⟩, ⟨none, none, (.store 7 (.t 5) (.t 25))⟩] [3, 4, 5, 26])
       (.reg 9 [⟨(some 6), none, (.q (.mov (.t 26)))⟩] [3, 4, 5, 6]))
      (.block 2
       (.seq
        (.reg 10 [⟨(some 27), none, (.q (.faddr 0 (.t 5)))⟩, ⟨(some 28), none, (.q (.load none (.t 27)))⟩, ⟨(some 29), none, (.call 149 [(.t 28)])⟩, ⟨(some 7), none, (.alloc [(.int .i64 0), (.int .i64 0), (.bool false), (.int .u8 0)])⟩, ⟨none, none, (.store 4 (.t 7) (.t 29))⟩] [3, 4, 5, 6, 7])
        (.block 3
         (.seq
          (.seq
           (.reg 11 [⟨(some 31), none, (.q (.faddr 3 (.t 7)))⟩, ⟨(some 32), none, (.q (.load none (.t 31)))⟩, ⟨(some 33), none, (.q (.load none (.t 3)))⟩, ⟨(some 34), none, (.q (.bin .lss (.t 32) (.t 33)))⟩, ⟨(some 30), none, (.q (.mov (.t 34)))⟩] [4, 5, 6, 7, 30])
           (.cond (.t 30)
            .skip
            (.seq
            (.reg 12 [⟨(some 35), none, (.q (.mov (.t 6)))⟩, ⟨(some 36), none, (.q (.mov (.t 35)))⟩, ⟨(some 37), (some ⟨36, true⟩), (.q (.faddr 2 (.t 7)))⟩, ⟨(some 38), (some ⟨36, true⟩), (.q (.load none (.t 37)))⟩, ⟨(some 39), (some ⟨36, true⟩), (.q (.not (.t 38)))⟩, ⟨(some 40), none, (.q (.pick (.t 36) (.t 39) (.c (.bool false))))⟩, ⟨(some 30), none, (.q (.mov (.t 40)))⟩] [4, 5, 7, 30])
            (.cond (.t 30)
            .skip
            (.seq
            (.reg 13 [⟨(some 41), none, (.q (.faddr 6 (.t 5)))⟩, ⟨(some 42), none, (.q (.load none (.t 41)))⟩, ⟨(some 43), none, (.q (.len 0 (.t 42)))⟩, ⟨(some 44), none, (.q (.faddr 0 (.t 7)))⟩, ⟨(some 45), none, (.q (.load none (.t 44)))⟩, ⟨(some 46), none, (.q (.bin .lss (.t 43) (.t 45)))⟩, ⟨(some 30), none, (.q (.mov (.t 46)))⟩] [4, 5, 7, 30])
            (.cond (.t 30)
            .skip
            (.reg 14 [⟨(some 47), none, (.q (.faddr 6 (.t 5)))⟩, ⟨(some 48), none, (.q (.load none (.t 47)))⟩, ⟨(some 49), none, (.q (.len 0 (.t 48)))⟩, ⟨(some 50), none, (.q (.faddr 1 (.t 7)))⟩, ⟨(some 51), none, (.q (.load none (.t 50)))⟩, ⟨(some 52), none, (.q (.bin .gtr (.t 49) (.t 51)))⟩, ⟨(some 30), none, (.q (.mov (.t 52)))⟩] [4, 5, 30])))))))
          (.cond (.t 30)
           (.seq
            (.reg 15 [⟨none, none, (.store 1 (.t 4) (.c (.int .i64 4)))⟩] [])
            .ret)
           (.seq
            (.seq
            (.reg 16 [⟨(some 54), none, (.q (.faddr 0 (.t 5)))⟩, ⟨(some 55), none, (.q (.load none (.t 54)))⟩, ⟨(some 56), none, (.q (.bin .eql (.t 55) (.c (.int .u8 1))))⟩, ⟨(some 57), none, (.q (.mov (.t 56)))⟩, ⟨(some 58), (some ⟨57, true⟩), (.q (.faddr 1 (.t 5)))⟩, ⟨(some 59), (some ⟨57, true⟩), (.q (.load (some 5) (.t 58)))⟩, ⟨(some 60), (some ⟨57, true⟩), (.call 106 [(.t 59)])⟩, ⟨(some 61), (some ⟨57, true⟩), (.q (.not (.t 60)))⟩, ⟨(some 62), none, (.q (.pick (.t 57) (.t 61) (.c (.bool false))))⟩, ⟨(some 53), none, (.q (.mov (.t 62)))⟩] [4, 5, 53])
            (.cond (.t 53)
            .skip
            (.reg 17 [⟨(some 63), none, (.q (.faddr 0 (.t 5)))⟩, ⟨(some 64), none, (.q (.load none (.t 63)))⟩, ⟨(some 65), none, (.q (.bin .neq (.t 64) (.c (.int .u8 1))))⟩, ⟨(some 66), none, (.q (.mov (.t 65)))⟩, ⟨(some 67), (some ⟨66, true⟩), (.q (.faddr 1 (.t 5)))⟩, ⟨(some 68), (some ⟨66, true⟩), (.q (.load (some 5) (.t 67)))⟩, ⟨(some 69), (some ⟨66, true⟩), (.q (.bld [(.str []), (.int .u8 0), (.int .i64 0), (.str []), (.str [])] []))⟩, ⟨(some 70), (some ⟨66, true⟩), (.q (.eqs [2, 1, 1, 2, 2] true true (.t 68) (.t 69)))⟩, ⟨(some 71), none, (.q (.pick (.t 66) (.t 70) (.c (.bool false))))⟩, ⟨(some 53), none, (.q (.mov (.t 71)))⟩] [4, 53])))
            (.cond (.t 53)
            (.seq
            (.reg 18 [⟨none, none, (.store 1 (.t 4) (.c (.int .i64 4)))⟩] [])
            .ret)
            .skip))))))))))
   (.seq
    (.reg 19 [⟨none, none, (.store 1 (.t 4) (.c (.int .i64 0)))⟩] [4])
    .ret))))
theorem fok111 : FOK Tryz.prog 111 (72, ic111, [(.cell none 4)]) := .mk (pf := [1000002, 1000003]) (an := [(0, [2, 3, 4]), (1, [2, 3, 4, 8]), (2, [4]), (3, [2, 3, 4, 15]), (4, [4]), (5, [2, 3, 4, 19]), (6, [4]), (7, [3, 4, 24]), (8, [3, 4, 5, 26]), (9, [3, 4, 5, 6]), (10, [3, 4, 5, 6, 7]), (11, [4, 5, 6, 7, 30]), (12, [4, 5, 7, 30]), (13, [4, 5, 7, 30]), (14, [4, 5, 30]), (16, [4, 5, 53]), (17, [4, 53]), (19, [4])]) (by kernel_rfl) (fnOK_of Tryz.func111 (by kernel_rfl) (by kernel_rfl) (by kernel_rfl))
/-- slices.insertionSortOrdered[int] -/
def ic121 : IC :=
(.seq
 (.reg 0 [⟨(some 8), none, (.q (.mov (.t 1)))⟩, ⟨(some 9), none, (.q (.bin .add (.t 8) (.c (.int .i64 1))))⟩, ⟨(some 6), none, (.q (.mov (.t 9)))⟩] [0, 1, 2, 6])
 (.block 0
  (.loop
   (.seq
    (.seq
     (.reg 1 [⟨(some 10), none, (.q (.mov (.t 6)))⟩, ⟨(some 11), none, (.q (.mov (.t 2)))⟩, ⟨(some 12), none, (.q (.bin .lss (.t 10) (.t 11)))⟩] [0, 1, 2, 6, 12])
     (.cond (.t 12)
      .skip
      (.exit 0)))
    (.seq
     (.block 1
      (.seq
       (.reg 3 [⟨(some 15), none, (.q (.mov (.t 6)))⟩, ⟨(some 7), none, (.q (.mov (.t 15)))⟩] [0, 1, 2, 6, 7])
       (.block 2
        (.loop
         (.seq
          (.seq
           (.dreg 4 [⟨(some 16), none, (.q (.mov (.t 7)))⟩, ⟨(some 17), none, (.q (.mov (.t 1)))⟩, ⟨(some 18), none, (.q (.bin .gtr (.t 16) (.t 17)))⟩, ⟨(some 19), none, (.q (.mov (.t 18)))⟩, ⟨(some 20), (some ⟨19, true⟩), (.q (.mov (.t 0)))⟩, ⟨(some 21), (some ⟨19, true⟩), (.q (.mov (.t 7)))⟩, ⟨(some 22), (some ⟨19, true⟩), (.q (.iaddr 1 (.t 20) (.t 21)))⟩, ⟨(some 23), (some ⟨19, true⟩), (.q (.load none (.t 22)))⟩, ⟨(some 24), (some ⟨19, true⟩), (.q (.mov (.t 0)))⟩, ⟨(some 25), (some ⟨19, true⟩), (.q (.mov (.t 7)))⟩, ⟨(some 26), (some ⟨19, true⟩), (.q (.bin .sub (.t 25) (.c (.int .i64 1))))⟩, ⟨(some 27), (some ⟨19, true⟩), (.q (.iaddr 1 (.t 24) (.t 26)))⟩, ⟨(some 28), (some ⟨19, true⟩), (.q (.load none (.t 27)))⟩, ⟨(some 29), (some ⟨19, true⟩), (.call 127 [(.t 23), (.t 28)])⟩, ⟨(some 30), none, (.q (.pick (.t 19) (.t 29) (.c (.bool false))))⟩] false [0, 1, 2, 6, 7, 30])
           (.cond (.t 30)
            .skip
            (.exit 2)))
          (.seq
           (.block 3
            (.dreg 6 [⟨(some 33), none, (.q (.mov (.t 0)))⟩, ⟨(some 34), none, (.q (.mov (.t 7)))⟩, ⟨(some 35), none, (.q (.mov (.t 0)))⟩, ⟨(some 36), none, (.q (.mov (.t 7)))⟩, ⟨(some 37), none, (.q (.bin .sub (.t 36) (.c (.int .i64 1))))⟩, ⟨(some 38), none, (.q (.mov (.t 0)))⟩, ⟨(some 39), none, (.q (.mov (.t 7)))⟩, ⟨(some 40), none, (.q (.bin .sub (.t 39) (.c (.int .i64 1))))⟩, ⟨(some 41), none, (.q (.iaddr 1 (.t 38) (.t 40)))⟩, ⟨(some 42), none, (.q (.load none (.t 41)))⟩, ⟨(some 43), none, (.q (.mov (.t 0)))⟩, ⟨(some 44), none, (.q (.mov (.t 7)))⟩, ⟨(some 45), none, (.q (.iaddr 1 (.t 43) (.t 44)))⟩, ⟨(some 46), none, (.q (.load none (.t 45)))⟩, ⟨(some 47), none, (.q (.iaddr 1 (.t 33) (.t 34)))⟩, ⟨none, none, (.store 1 (.t 47) (.t 42))⟩, ⟨(some 48), none, (.q (.iaddr 1 (.t 35) (.t 37)))⟩, ⟨none, none, (.store 1 (.t 48) (.t 46))⟩] false [0, 1, 2, 6, 7]))
           (.reg 5 [⟨(some 31), none, (.q (.mov (.t 7)))⟩, ⟨(some 32), none, (.q (.bin .sub (.t 31) (.c (.int .i64 1))))⟩, ⟨(some 7), none, (.q (.mov (.t 32)))⟩] [0, 1, 2, 6, 7])))))))
     (.reg 2 [⟨(some 13), none, (.q (.mov (.t 6)))⟩, ⟨(some 14), none, (.q (.bin .add (.t 13) (.c (.int .i64 1))))⟩, ⟨(some 6), none, (.q (.mov (.t 14)))⟩] [0, 1, 2, 6]))))))
theorem fok121 : FOK Tryz.prog 121 (49, ic121, []) := .mk (pf := []) (an := [(0, [0, 1, 2, 6]), (1, [0, 1, 2, 6, 12]), (2, [0, 1, 2, 6]), (3, [0, 1, 2, 6, 7]), (4, [0, 1, 2, 6, 7, 30]), (5, [0, 1, 2, 6, 7]), (6, [0, 1, 2, 6, 7])]) (by kernel_rfl) (fnOK_of Tryz.func121 (by kernel_rfl) (by kernel_rfl) (by kernel_rfl))
/-- slices.heapSortOrdered[int] -/
def ic122 : IC :=
(.seq
 (.reg 0 [⟨(some 11), none, (.q (.mov (.t 1)))⟩, ⟨(some 6), none, (.q (.mov (.t 11)))⟩] [0, 1, 2, 6])
 (.seq
  (.reg 1 [⟨(some 7), none, (.q (.mov (.c (.int .i64 0))))⟩] [0, 1, 2, 6, 7])
  (.seq
   (.reg 2 [⟨(some 12), none, (.q (.mov (.t 2)))⟩, ⟨(some 13), none, (.q (.mov (.t 1)))⟩, ⟨(some 14), none, (.q (.bin .sub (.t 12) (.t 13)))⟩, ⟨(some 8), none, (.q (.mov (.t 14)))⟩] [0, 6, 7, 8])
   (.seq
    (.seq
     (.reg 3 [⟨(some 15), none, (.q (.mov (.t 8)))⟩, ⟨(some 16), none, (.q (.bin .sub (.t 15) (.c (.int .i64 1))))⟩, ⟨(some 17), none, (.q (.bin .quo (.t 16) (.c (.int .i64 2))))⟩, ⟨(some 9), none, (.q (.mov (.t 17)))⟩] [0, 6, 7, 8, 9])
     (.block 0
      (.loop
       (.seq
        (.seq
         (.reg 4 [⟨(some 18), none, (.q (.mov (.t 9)))⟩, ⟨(some 19), none, (.q (.bin .geq (.t 18) (.c (.int .i64 0))))⟩] [0, 6, 7, 8, 9, 19])
         (.cond (.t 19)
          .skip
          (.exit 0)))
        (.seq
         (.block 1
          (.reg 6 [⟨(some 22), none, (.q (.mov (.t 0)))⟩, ⟨(some 23), none, (.q (.mov (.t 9)))⟩, ⟨(some 24), none, (.q (.mov (.t 8)))⟩, ⟨(some 25), none, (.q (.mov (.t 6)))⟩, ⟨(some 26), none, (.call 165 [(.t 22), (.t 23), (.t 24), (.t 25)])⟩] [0, 6, 7, 8, 9]))
         (.reg 5 [⟨(some 20), none, (.q (.mov (.t 9)))⟩, ⟨(some 21), none, (.q (.bin .sub (.t 20) (.c (.int .i64 1))))⟩, ⟨(some 9), none, (.q (.mov (.t 21)))⟩] [0, 6, 7, 8, 9]))))))
    (.seq
     (.reg 7 [⟨(some 27), none, (.q (.mov (.t 8)))⟩, ⟨(some 28), none, (.q (.bin .sub (.t 27) (.c (.int .i64 1))))⟩, ⟨(some 10), none, (.q (.mov (.t 28)))⟩] [0, 6, 7, 10])
     (.block 2
      (.loop
       (.seq
        (.seq
         (.reg 8 [⟨(some 29), none, (.q (.mov (.t 10)))⟩, ⟨(some 30), none, (.q (.bin .geq (.t 29) (.c (.int .i64 0))))⟩] [0, 6, 7, 10, 30])
         (.cond (.t 30)
          .skip
          (.exit 2)))
        (.seq
         (.block 3
          (.seq
           (.dreg 10 [⟨(some 33), none, (.q (.mov (.t 0)))⟩, ⟨(some 34), none, (.q (.mov (.t 6)))⟩, ⟨(some 35), none, (.q (.mov (.t 0)))⟩, ⟨(some 36), none, (.q (.mov (.t 6)))⟩, ⟨(some 37), none, (.q (.mov (.t 10)))⟩, ⟨(some 38), none, (.q (.bin .add (.t 36) (.t 37)))⟩, ⟨(some 39), none, (.q (.mov (.t 0)))⟩, ⟨(some 40), none, (.q (.mov (.t 6)))⟩, ⟨(some 41), none, (.q (.mov (.t 10)))⟩, ⟨(some 42), none, (.q (.bin .add (.t 40) (.t 41)))⟩, ⟨(some 43), none, (.q (.iaddr 1 (.t 39) (.t 42)))⟩, ⟨(some 44), none, (.q (.load none (.t 43)))⟩, ⟨(some 45), none, (.q (.mov (.t 0)))⟩, ⟨(some 46), none, (.q (.mov (.t 6)))⟩, ⟨(some 47), none, (.q (.iaddr 1 (.t 45) (.t 46)))⟩, ⟨(some 48), none, (.q (.load none (.t 47)))⟩, ⟨(some 49), none, (.q (.iaddr 1 (.t 33) (.t 34)))⟩, ⟨none, none, (.store 1 (.t 49) (.t 44))⟩, ⟨(some 50), none, (.q (.iaddr 1 (.t 35) (.t 38)))⟩, ⟨none, none, (.store 1 (.t 50) (.t 48))⟩] false [0, 6, 7, 10])
           (.reg 11 [⟨(some 51), none, (.q (.mov (.t 0)))⟩, ⟨(some 52), none, (.q (.mov (.t 7)))⟩, ⟨(some 53), none, (.q (.mov (.t 10)))⟩, ⟨(some 54), none, (.q (.mov (.t 6)))⟩, ⟨(some 55), none, (.call 165 [(.t 51), (.t 52), (.t 53), (.t 54)])⟩] [0, 6, 7, 10])))
         (.reg 9 [⟨(some 31), none, (.q (.mov (.t 10)))⟩, ⟨(some 32), none, (.q (.bin .sub (.t 31) (.c (.int .i64 1))))⟩, ⟨(some 10), none, (.q (.mov (.t 32)))⟩] [0, 6, 7, 10]))))))))))
theorem fok122 : FOK Tryz.prog 122 (56, ic122, []) := .mk (pf := []) (an := [(0, [0, 1, 2, 6]), (1, [0, 1, 2, 6, 7]), (2, [0, 6, 7, 8]), (3, [0, 6, 7, 8, 9]), (4, [0, 6, 7, 8, 9, 19]), (5, [0, 6, 7, 8, 9]), (6, [0, 6, 7, 8, 9]), (7, [0, 6, 7, 10]), (8, [0, 6, 7, 10, 30]), (9, [0, 6, 7, 10]), (10, [0, 6, 7, 10]), (11, [0, 6, 7, 10])]) (by kernel_rfl) (fnOK_of Tryz.func122 (by kernel_rfl) (by kernel_rfl) (by kernel_rfl))
/-- slices.breakPatternsOrdered[int] -/
def ic123 : IC :=
(.seq
 (.reg 0 [⟨(some 11), none, (.q (.mov (.t 2)))⟩, ⟨(some 12), none, (.q (.mov (.t 1)))⟩, ⟨(some 13), none, (.q (.bin .sub (.t 11) (.t 12)))⟩, ⟨(some 6), none, (.q (.mov (.t 13)))⟩] [0, 1, 6])
 (.seq
  (.reg 1 [⟨(some 14), none, (.q (.mov (.t 6)))⟩, ⟨(some 15), none, (.q (.bin .geq (.t 14) (.c (.int .i64 8))))⟩] [0, 1, 6, 15])
  (.cond (.t 15)
   (.seq
    (.reg 2 [⟨(some 16), none, (.q (.mov (.t 6)))⟩, ⟨(some 17), none, (.q (.conv .u64 (.t 16)))⟩, ⟨(some 7), none, (.alloc [(.int .u64 0)])⟩, ⟨none, none, (.store 1 (.t 7) (.t 17))⟩] [0, 1, 6, 7])
    (.seq
     (.reg 3 [⟨(some 18), none, (.q (.mov (.t 6)))⟩, ⟨(some 19), none, (.call 166 [(.t 18)])⟩, ⟨(some 8), none, (.q (.mov (.t 19)))⟩] [0, 1, 6, 7, 8])
     (.seq
      (.reg 4 [⟨(some 20), none, (.q (.mov (.t 1)))⟩, ⟨(some 21), none, (.q (.mov (.t 6)))⟩, ⟨(some 22), none, (.q (.bin .quo (.t 21) (.c (.int .i64 4))))⟩, ⟨(some 23), none, (.q (.bin .mul (.t 22) (.c (.int .i64 2))))⟩, ⟨(some 24), none, (.q (.bin .add (.t 20) (.t 23)))⟩, ⟨(some 25), none, (.q (.bin .sub (.t 24) (.c (.int .i64 1))))⟩, ⟨(some 9), none, (.q (.mov (.t 25)))⟩] [0, 1, 6, 7, 8, 9])
      (.block 0
       (.loop
        (.seq
         (.seq
          (.reg 5 [⟨(some 26), none, (.q (.mov (.t 9)))⟩, ⟨(some 27), none, (.q (.mov (.t 1)))⟩, ⟨(some 28), none, (.q (.mov (.t 6)))⟩, ⟨(some 29), none, (.q (.bin .quo (.t 28) (.c (.int .i64 4))))⟩, ⟨(some 30), none, (.q (.bin .mul (.t 29) (.c (.int .i64 2))))⟩, ⟨(some 31), none, (.q (.bin .add (.t 27) (.t 30)))⟩, ⟨(some 32), none, (.q (.bin .add (.t 31) (.c (.int .i64 1))))⟩, ⟨(some 33), none, (.q (.bin .leq (.t 26) (.t 32)))⟩] [0, 1, 6, 7, 8, 9, 33])
          (.cond (.t 33)
           .skip
           (.exit 0)))
         (.seq
          (.block 1
           (.seq
            (.reg 7 [⟨(some 36), none, (.call 167 [(.t 7)])⟩, ⟨(some 37), none, (.q (.mov (.t 8)))⟩, ⟨(some 38), none, (.q (.bin .sub (.t 37) (.c (.int .u64 1))))⟩, ⟨(some 39), none, (.q (.bin .and (.t 36) (.t 38)))⟩, ⟨(some 40), none, (.q (.conv .i64 (.t 39)))⟩, ⟨(some 10), none, (.q (.mov (.t 40)))⟩] [0, 1, 6, 7, 8, 9, 10])
            (.seq
            (.seq
            (.reg 8 [⟨(some 41), none, (.q (.mov (.t 10)))⟩, ⟨(some 42), none, (.q (.mov (.t 6)))⟩, ⟨(some 43), none, (.q (.bin .geq (.t 41) (.t 42)))⟩] [0, 1, 6, 7, 8, 9, 10, 43])
            (.cond (.t 43)
            (.reg 9 [⟨(some 44), none, (.q (.mov (.t 10)))⟩, ⟨(some 45), none, (.q (.mov (.t 6)))⟩, ⟨(some 46), none, (.q (.bin .sub (.t 44) (.t 45)))⟩, ⟨(some 10), none, (.q (.mov (.t 46)))⟩] [0, 1, 6, 7, 8, 9, 10])
            .skip))
            (.dreg 10 [⟨(some 47), none, (.q (.mov (.t 0)))⟩, ⟨(some 48), none, (.q (.mov (.t 9)))⟩, ⟨(some 49), none, (.q (.mov (.t 0)))⟩, ⟨(some 50), none, (.q (.mov (.t 1)))⟩, ⟨(some 51), none, (.q (.mov (.t 10)))⟩, ⟨(some 52), none, (.q (.bin .add (.t 50) (.t 51)))⟩, ⟨(some 53), none, (.q (.mov (.t 0)))⟩, ⟨(some 54), none, (.q (.mov (.t 1)))⟩, ⟨(some 55), none, (.q (.mov (.t 10)))⟩, ⟨(some 56), none, (.q (.bin .add (.t 54) (.t 55)))⟩, ⟨(some 57), none, (.q (.iaddr 1 (.t 53) (.t 56)))⟩, ⟨(some 58), none, (.q (.load none (.t 57)))⟩, ⟨(some 59), none, (.q (.mov (.t 0)))⟩, ⟨(some 60), none, (.q (.mov (.t 9)))⟩, ⟨(some 61), none, (.q (.iaddr 1 (.t 59) (.t 60)))⟩, ⟨(some 62), none, (.q (.load none (.t 61)))⟩, ⟨(some 63), none, (.q (.iaddr 1 (.t 47) (.t 48)))⟩, ⟨none, none, (.store 1 (.t 63) (.t 58))⟩, ⟨(some 64), none, (.q (.iaddr 1 (.t 49) (.t 52)))⟩, ⟨none, none, (.store 1 (.t 64) (.t 62))⟩] false [0, 1, 6, 7, 8, 9]))))
          (.reg 6 [⟨(some 34), none, (.q (.mov (.t 9)))⟩, ⟨(some 35), none, (.q (.bin .add (.t 34) (.c (.int .i64 1))))⟩, ⟨(some 9), none, (.q (.mov (.t 35)))⟩] [0, 1, 6, 7, 8, 9]))))))))
   .skip)))
theorem fok123 : FOK Tryz.prog 123 (65, ic123, []) := .mk (pf := []) (an := [(0, [0, 1, 6]), (1, [0, 1, 6, 15]), (2, [0, 1, 6, 7]), (3, [0, 1, 6, 7, 8]), (4, [0, 1, 6, 7, 8, 9]), (5, [0, 1, 6, 7, 8, 9, 33]), (6, [0, 1, 6, 7, 8, 9]), (7, [0, 1, 6, 7, 8, 9, 10]), (8, [0, 1, 6, 7, 8, 9, 10, 43]), (9, [0, 1, 6, 7, 8, 9, 10]), (10, [0, 1, 6, 7, 8, 9])]) (by kernel_rfl) (fnOK_of Tryz.func123 (by kernel_rfl) (by kernel_rfl) (by kernel_rfl))
/-- slices.choosePivotOrdered[int] -/
def ic124 : IC :=
(.seq
 (.reg 0 [⟨(some 6), none, (.q (.mov (.c (.int .i64 0))))⟩, ⟨(some 7), none, (.q (.mov (.c (.int .i64 0))))⟩] [0, 1, 2])
 (.seq
  (.reg 1 [⟨(some 13), none, (.q (.mov (.t 2)))⟩, ⟨(some 14), none, (.q (.mov (.t 1)))⟩, ⟨(some 15), none, (.q (.bin .sub (.t 13) (.t 14)))⟩, ⟨(some 8), none, (.q (.mov (.t 15)))⟩] [0, 1, 8])
  (.seq
   (.reg 2 [⟨(some 9), none, (.alloc [(.int .i64 0)])⟩] [0, 1, 8, 9])
   (.seq
    (.reg 3 [⟨(some 16), none, (.q (.mov (.t 1)))⟩, ⟨(some 17), none, (.q (.mov (.t 8)))⟩, ⟨(some 18), none, (.q (.bin .quo (.t 17) (.c (.int .i64 4))))⟩, ⟨(some 19), none, (.q (.bin .mul (.t 18) (.c (.int .i64 1))))⟩, ⟨(some 20), none, (.q (.bin .add (.t 16) (.t 19)))⟩, ⟨(some 10), none, (.q (.mov (.t 20)))⟩] [0, 1, 8, 9, 10])
    (.seq
     (.reg 4 [⟨(some 21), none, (.q (.mov (.t 1)))⟩, ⟨(some 22), none, (.q (.mov (.t 8)))⟩, ⟨(some 23), none, (.q (.bin .quo (.t 22) (.c (.int .i64 4))))⟩, ⟨(some 24), none, (.q (.bin .mul (.t 23) (.c (.int .i64 2))))⟩, ⟨(some 25), none, (.q (.bin .add (.t 21) (.t 24)))⟩, ⟨(some 11), none, (.q (.mov (.t 25)))⟩] [0, 1, 8, 9, 10, 11])
     (.seq
      (.reg 5 [⟨(some 26), none, (.q (.mov (.t 1)))⟩, ⟨(some 27), none, (.q (.mov (.t 8)))⟩, ⟨(some 28), none, (.q (.bin .quo (.t 27) (.c (.int .i64 4))))⟩, ⟨(some 29), none, (.q (.bin .mul (.t 28) (.c (.int .i64 3))))⟩, ⟨(some 30), none, (.q (.bin .add (.t 26) (.t 29)))⟩, ⟨(some 12), none, (.q (.mov (.t 30)))⟩] [0, 8, 9, 10, 11, 12])
      (.seq
       (.seq
        (.reg 6 [⟨(some 31), none, (.q (.mov (.t 8)))⟩, ⟨(some 32), none, (.q (.bin .geq (.t 31) (.c (.int .i64 8))))⟩] [0, 8, 9, 10, 11, 12, 32])
        (.cond (.t 32)
         (.seq
          (.seq
           (.reg 7 [⟨(some 33), none, (.q (.mov (.t 8)))⟩, ⟨(some 34), none, (.q (.bin .geq (.t 33) (.c (.int .i64 50))))⟩] [0, 9, 10, 11, 12, 34])
           (.cond (.t 34)
            (.seq
            (.reg 8 [⟨(some 35), none, (.q (.mov (.t 0)))⟩, ⟨(some 36), none, (.q (.mov (.t 10)))⟩, ⟨(some 37), none, (.call 168 [(.t 35), (.t 36), (.t 9)])⟩, ⟨(some 10), none, (.q (.mov (.t 37)))⟩] [0, 9, 10, 11, 12])
            (.seq
            (.reg 9 [⟨(some 38), none, (.q (.mov (.t 0)))⟩, ⟨(some 39), none, (.q (.mov (.t 11)))⟩, ⟨(some 40), none, (.call 168 [(.t 38), (.t 39), (.t 9)])⟩, ⟨(some 11), none, (.q (.mov (.t 40)))⟩] [0, 9, 10, 11, 12])
            (.reg 10 [⟨(some 41), none, (.q (.mov (.t 0)))⟩, ⟨(some 42), none, (.q (.mov (.t 12)))⟩, ⟨(some 43), none, (.call 168 [(.t 41), (.t 42), (.t 9)])⟩, ⟨(some 12), none, (.q (.mov (.t 43)))⟩] [0, 9, 10, 11, 12])))
            .skip))
          (.reg 11 [⟨(some 44), none, (.q (.mov (.t 0)))⟩, ⟨(some 45), none, (.q (.mov (.t 10)))⟩, ⟨(some 46), none, (.q (.mov (.t 11)))⟩, ⟨(some 47), none, (.q (.mov (.t 12)))⟩, ⟨(some 48), none, (.call 169 [(.t 44), (.t 45), (.t 46), (.t 47), (.t 9)])⟩, ⟨(some 11), none, (.q (.mov (.t 48)))⟩] [9, 11]))
         .skip))
       (.seq
        (.reg 12 [⟨(some 49), none, (.q (.load none (.t 9)))⟩] [11, 49])
        (.block 0
         (.seq
          (.reg 14 [⟨(some 52), none, (.q (.bin .eql (.t 49) (.c (.int .i64 0))))⟩, ⟨(some 51), none, (.q (.mov (.t 52)))⟩] [11, 49, 51])
          (.cond (.t 51)
           (.seq
            (.reg 15 [⟨(some 53), none, (.q (.mov (.t 11)))⟩, ⟨(some 6), none, (.q (.mov (.t 53)))⟩, ⟨(some 7), none, (.q (.mov (.c (.int .i64 1))))⟩] [6, 7])
            .ret)
           (.seq
            (.reg 16 [⟨(some 55), none, (.q (.bin .eql (.t 49) (.c (.int .i64 12))))⟩, ⟨(some 54), none, (.q (.mov (.t 55)))⟩] [11, 54])
            (.cond (.t 54)
            (.seq
            (.reg 17 [⟨(some 56), none, (.q (.mov (.t 11)))⟩, ⟨(some 6), none, (.q (.mov (.t 56)))⟩, ⟨(some 7), none, (.q (.mov (.c (.int .i64 2))))⟩] [6, 7])
            .ret)
            (.seq
            (.reg 13 [⟨(some 50), none, (.q (.mov (.t 11)))⟩, ⟨(some 6), none, (.q (.mov (.t 50)))⟩, ⟨(some 7), none, (.q (.mov (.c (.int .i64 0))))⟩] [6, 7])
            .ret))))))))))))))
theorem fok124 : FOK Tryz.prog 124 (57, ic124, [(.t 6), (.t 7)]) := .mk (pf := []) (an := [(0, [0, 1, 2]), (1, [0, 1, 8]), (2, [0, 1, 8, 9]), (3, [0, 1, 8, 9, 10]), (4, [0, 1, 8, 9, 10, 11]), (5, [0, 8, 9, 10, 11, 12]), (6, [0, 8, 9, 10, 11, 12, 32]), (7, [0, 9, 10, 11, 12, 34]), (8, [0, 9, 10, 11, 12]), (9, [0, 9, 10, 11, 12]), (10, [0, 9, 10, 11, 12]), (11, [9, 11]), (12, [11, 49]), (13, [6, 7]), (14, [11, 49, 51]), (15, [6, 7]), (16, [11, 54]), (17, [6, 7])]) (by kernel_rfl) (fnOK_of Tryz.func124 (by kernel_rfl) (by kernel_rfl) (by kernel_rfl))
/-- slices.reverseRangeOrdered[int] -/
def ic125 : IC :=
(.seq
 (.reg 0 [⟨(some 8), none, (.q (.mov (.t 1)))⟩, ⟨(some 6), none, (.q (.mov (.t 8)))⟩] [0, 2, 6])
 (.seq
  (.reg 1 [⟨(some 9), none, (.q (.mov (.t 2)))⟩, ⟨(some 10), none, (.q (.bin .sub (.t 9) (.c (.int .i64 1))))⟩, ⟨(some 7), none, (.q (.mov (.t 10)))⟩] [0, 6, 7])
  (.block 0
   (.loop
    (.seq
     (.seq
      (.reg 2 [⟨(some 11), none, (.q (.mov (.t 6)))⟩, ⟨(some 12), none, (.q (.mov (.t 7)))⟩, ⟨(some 13), none, (.q (.bin .lss (.t 11) (.t 12)))⟩] [0, 6, 7, 13])
      (.cond (.t 13)
       .skip
       (.exit 0)))
     (.block 1
      (.seq
       (.dreg 3 [⟨(some 14), none, (.q (.mov (.t 0)))⟩, ⟨(some 15), none, (.q (.mov (.t 6)))⟩, ⟨(some 16), none, (.q (.mov (.t 0)))⟩, ⟨(some 17), none, (.q (.mov (.t 7)))⟩, ⟨(some 18), none, (.q (.mov (.t 0)))⟩, ⟨(some 19), none, (.q (.mov (.t 7)))⟩, ⟨(some 20), none, (.q (.iaddr 1 (.t 18) (.t 19)))⟩, ⟨(some 21), none, (.q (.load none (.t 20)))⟩, ⟨(some 22), none, (.q (.mov (.t 0)))⟩, ⟨(some 23), none, (.q (.mov (.t 6)))⟩, ⟨(some 24), none, (.q (.iaddr 1 (.t 22) (.t 23)))⟩, ⟨(some 25), none, (.q (.load none (.t 24)))⟩, ⟨(some 26), none, (.q (.iaddr 1 (.t 14) (.t 15)))⟩, ⟨none, none, (.store 1 (.t 26) (.t 21))⟩, ⟨(some 27), none, (.q (.iaddr 1 (.t 16) (.t 17)))⟩, ⟨none, none, (.store 1 (.t 27) (.t 25))⟩] false [0, 6, 7])
       (.seq
        (.reg 4 [⟨(some 28), none, (.q (.mov (.t 6)))⟩, ⟨(some 29), none, (.q (.bin .add (.t 28) (.c (.int .i64 1))))⟩, ⟨(some 6), none, (.q (.mov (.t 29)))⟩] [0, 6, 7])
        (.reg 5 [⟨(some 30), none, (.q (.mov (.t 7)))⟩, ⟨(some 31), none, (.q (.bin .sub (.t 30) (.c (.int .i64 1))))⟩, ⟨(some 7), none, (.q (.mov (.t 31)))⟩] [0, 6, 7])))))))))
theorem fok125 : FOK Tryz.prog 125 (32, ic125, []) := .mk (pf := []) (an := [(0, [0, 2, 6]), (1, [0, 6, 7]), (2, [0, 6, 7, 13]), (3, [0, 6, 7]), (4, [0, 6, 7]), (5, [0, 6, 7])]) (by kernel_rfl) (fnOK_of Tryz.func125 (by kernel_rfl) (by kernel_rfl) (by kernel_rfl))
/-- slices.partialInsertionSortOrdered[int] -/
def ic126 : IC :=
(.seq
 (.reg 0 [⟨(some 6), none, (.q (.mov (.c (.bool false))))⟩] [0, 1, 2])
 (.seq
  (.reg 1 [⟨(some 11), none, (.q (.mov (.t 1)))⟩, ⟨(some 12), none, (.q (.bin .add (.t 11) (.c (.int .i64 1))))⟩, ⟨(some 7), none, (.q (.mov (.t 12)))⟩] [0, 1, 2, 7])
  (.seq
   (.seq
    (.reg 2 [⟨(some 8), none, (.q (.mov (.c (.int .i64 0))))⟩] [0, 1, 2, 7, 8])
    (.block 0
     (.loop
      (.seq
       (.seq
        (.reg 3 [⟨(some 13), none, (.q (.mov (.t 8)))⟩, ⟨(some 14), none, (.q (.bin .lss (.t 13) (.c (.int .i64 5))))⟩] [0, 1, 2, 7, 8, 14])
        (.cond (.t 14)
         .skip
         (.exit 0)))
       (.seq
        (.block 1
         (.seq
          (.block 2
           (.loop
            (.seq
            (.seq
            (.dreg 5 [⟨(some 17), none, (.q (.mov (.t 7)))⟩, ⟨(some 18), none, (.q (.mov (.t 2)))⟩, ⟨(some 19), none, (.q (.bin .lss (.t 17) (.t 18)))⟩, ⟨(some 20), none, (.q (.mov (.t 19)))⟩, ⟨(some 21), (some ⟨20, true⟩), (.q (.mov (.t 0)))⟩, ⟨(some 22), (some ⟨20, true⟩), (.q (.mov (.t 7)))⟩, ⟨(some 23), (some ⟨20, true⟩), (.q (.iaddr 1 (.t 21) (.t 22)))⟩, ⟨(some 24), (some ⟨20, true⟩), (.q (.load none (.t 23)))⟩, ⟨(some 25), (some ⟨20, true⟩), (.q (.mov (.t 0)))⟩, ⟨(some 26), (some ⟨20, true⟩), (.q (.mov (.t 7)))⟩, ⟨(some 27), (some ⟨20, true⟩), (.q (.bin .sub (.t 26) (.c (.int .i64 1))))⟩, ⟨(some 28), (some ⟨20, true⟩), (.q (.iaddr 1 (.t 25) (.t 27)))⟩, ⟨(some 29), (some ⟨20, true⟩), (.q (.load none (.t 28)))⟩, ⟨(some 30), (some ⟨20, true⟩), (.call 127 [(.t 24), (.t 29)])⟩, ⟨(some 31), (some ⟨20, true⟩), (.q (.not (.t 30)))⟩, ⟨(some 32), none, (.q (.pick (.t 20) (.t 31) (.c (.bool false))))⟩] false [0, 1, 2, 7, 8, 32])
            (.cond (.t 32)
            .skip
            (.exit 2)))
            (.block 3
            (.reg 6 [⟨(some 33), none, (.q (.mov (.t 7)))⟩, ⟨(some 34), none, (.q (.bin .add (.t 33) (.c (.int .i64 1))))⟩, ⟨(some 7), none, (.q (.mov (.t 34)))⟩] [0, 1, 2, 7, 8])))))
          (.seq
           (.seq
            (.reg 7 [⟨(some 35), none, (.q (.mov (.t 7)))⟩, ⟨(some 36), none, (.q (.mov (.t 2)))⟩, ⟨(some 37), none, (.q (.bin .eql (.t 35) (.t 36)))⟩] [0, 1, 2, 7, 8, 37])
            (.cond (.t 37)
            (.seq
            (.reg 8 [⟨(some 6), none, (.q (.mov (.c (.bool true))))⟩] [6])
            .ret)
            .skip))
           (.seq
            (.seq
            (.reg 9 [⟨(some 38), none, (.q (.mov (.t 2)))⟩, ⟨(some 39), none, (.q (.mov (.t 1)))⟩, ⟨(some 40), none, (.q (.bin .sub (.t 38) (.t 39)))⟩, ⟨(some 41), none, (.q (.bin .lss (.t 40) (.c (.int .i64 50))))⟩] [0, 1, 2, 7, 8, 41])
            (.cond (.t 41)
            (.seq
            (.reg 10 [⟨(some 6), none, (.q (.mov (.c (.bool false))))⟩] [6])
            .ret)
            .skip))
            (.seq
            (.dreg 11 [⟨(some 42), none, (.q (.mov (.t 0)))⟩, ⟨(some 43), none, (.q (.mov (.t 7)))⟩, ⟨(some 44), none, (.q (.mov (.t 0)))⟩, ⟨(some 45), none, (.q (.mov (.t 7)))⟩, ⟨(some 46), none, (.q (.bin .sub (.t 45) (.c (.int .i64 1))))⟩, ⟨(some 47), none, (.q (.mov (.t 0)))⟩, ⟨(some 48), none, (.q (.mov (.t 7)))⟩, ⟨(some 49), none, (.q (.bin .sub (.t 48) (.c (.int .i64 1))))⟩, ⟨(some 50), none, (.q (.iaddr 1 (.t 47) (.t 49)))⟩, ⟨(some 51), none, (.q (.load none (.t 50)))⟩, ⟨(some 52), none, (.q (.mov (.t 0)))⟩, ⟨(some 53), none, (.q (.mov (.t 7)))⟩, ⟨(some 54), none, (.q (.iaddr 1 (.t 52) (.t 53)))⟩, ⟨(some 55), none, (.q (.load none (.t 54)))⟩, ⟨(some 56), none, (.q (.iaddr 1 (.t 42) (.t 43)))⟩, ⟨none, none, (.store 1 (.t 56) (.t 51))⟩, ⟨(some 57), none, (.q (.iaddr 1 (.t 44) (.t 46)))⟩, ⟨none, none, (.store 1 (.t 57) (.t 55))⟩] false [0, 1, 2, 7, 8])
            (.seq
            (.seq
            (.reg 12 [⟨(some 58), none, (.q (.mov (.t 7)))⟩, ⟨(some 59), none, (.q (.mov (.t 1)))⟩, ⟨(some 60), none, (.q (.bin .sub (.t 58) (.t 59)))⟩, ⟨(some 61), none, (.q (.bin .geq (.t 60) (.c (.int .i64 2))))⟩] [0, 1, 2, 7, 8, 61])
            (.cond (.t 61)
            (.seq
            (.reg 13 [⟨(some 62), none, (.q (.mov (.t 7)))⟩, ⟨(some 63), none, (.q (.bin .sub (.t 62) (.c (.int .i64 1))))⟩, ⟨(some 9), none, (.q (.mov (.t 63)))⟩] [0, 1, 2, 7, 8, 9])
            (.block 4
            (.loop
            (.seq
            (.seq
            (.reg 14 [⟨(some 64), none, (.q (.mov (.t 9)))⟩, ⟨(some 65), none, (.q (.bin .geq (.t 64) (.c (.int .i64 1))))⟩] [0, 1, 2, 7, 8, 9, 65])
            (.cond (.t 65)
            .skip
            (.exit 4)))
            (.seq
            (.block 5
            (.seq
            (.seq
            (.dreg 16 [⟨(some 68), none, (.q (.mov (.t 0)))⟩, ⟨(some 69), none, (.q (.mov (.t 9)))⟩, ⟨(some 70), none, (.q (.iaddr 1 (.t 68) (.t 69)))⟩, ⟨(some 71), none, (.q (.load none (.t 70)))⟩, ⟨(some 72), none, (.q (.mov (.t 0)))⟩, ⟨(some 73), none, (.q (.mov (.t 9)))⟩, ⟨(some 74), none, (.q (.bin .sub (.t 73) (.c (.int .i64 1))))⟩, ⟨(some 75), none, (.q (.iaddr 1 (.t 72) (.t 74)))⟩, ⟨(some 76), none, (.q (.load none (.t 75)))⟩, ⟨(some 77), none, (.call 127 [(.t 71), (.t 76)])⟩, ⟨(some 78), none, (.q (.not (.t 77)))⟩] false [0, 1, 2, 7, 8, 9, 78])
            (.cond (.t 78)
            (.exit 4)
            .skip))
            (.dreg 17 [⟨(some 79), none, (.q (.mov (.t 0)))⟩, ⟨(some 80), none, (.q (.mov (.t 9)))⟩, ⟨(some 81), none, (.q (.mov (.t 0)))⟩, ⟨(some 82), none, (.q (.mov (.t 9)))⟩, ⟨(some 83), none, (.q (.bin .sub (.t 82) (.c (.int .i64 1))))⟩, ⟨(some 84), none, (.q (.mov (.t 0)))⟩, ⟨(some 85), none, (.q (.mov (.t 9)))⟩, ⟨(some 86), none, (.q (.bin .sub (.t 85) (.c (.int .i64 1))))⟩, ⟨(some 87), none, (.q (.iaddr 1 (.t 84) (.t 86)))⟩, ⟨(some 88), none, (.q (.load none (.t 87)))⟩, ⟨(some 89), none, (.q (.mov (.t 0)))⟩, ⟨(some 90), none, (.q (.mov (.t 9)))⟩, ⟨(some 91), none, (.q (.iaddr 1 (.t 89) (.t 90)))⟩, ⟨(some 92), none, (.q (.load none (.t 91)))⟩, ⟨(some 93), none, (.q (.iaddr 1 (.t 79) (.t 80)))⟩, ⟨none, none, (.store 1 (.t 93) (.t 88))⟩, ⟨(some 94), none, (.q (.iaddr 1 (.t 81) (.t 83)))⟩, ⟨none, none, (.store 1 (.t 94) (.t 92))⟩] false [0, 1, 2, 7, 8, 9])))
            (.reg 15 [⟨(some 66), none, (.q (.mov (.t 9)))⟩, ⟨(some 67), none, (.q (.bin .sub (.t 66) (.c (.int .i64 1))))⟩, ⟨(some 9), none, (.q (.mov (.t 67)))⟩] [0, 1, 2, 7, 8, 9]))))))
            .skip))
            (.seq
            (.reg 18 [⟨(some 95), none, (.q (.mov (.t 2)))⟩, ⟨(some 96), none, (.q (.mov (.t 7)))⟩, ⟨(some 97), none, (.q (.bin .sub (.t 95) (.t 96)))⟩, ⟨(some 98), none, (.q (.bin .geq (.t 97) (.c (.int .i64 2))))⟩] [0, 1, 2, 7, 8, 98])
            (.cond (.t 98)
            (.seq
            (.reg 19 [⟨(some 99), none, (.q (.mov (.t 7)))⟩, ⟨(some 100), none, (.q (.bin .add (.t 99) (.c (.int .i64 1))))⟩, ⟨(some 10), none, (.q (.mov (.t 100)))⟩] [0, 1, 2, 7, 8, 10])
            (.block 6
            (.loop
            (.seq
            (.seq
            (.reg 20 [⟨(some 101), none, (.q (.mov (.t 10)))⟩, ⟨(some 102), none, (.q (.mov (.t 2)))⟩, ⟨(some 103), none, (.q (.bin .lss (.t 101) (.t 102)))⟩] [0, 1, 2, 7, 8, 10, 103])
            (.cond (.t 103)
            .skip
            (.exit 6)))
            (.seq
            (.block 7
            (.seq
            (.seq
            (.dreg 22 [⟨(some 106), none, (.q (.mov (.t 0)))⟩, ⟨(some 107), none, (.q (.mov (.t 10)))⟩, ⟨(some 108), none, (.q (.iaddr 1 (.t 106) (.t 107)))⟩, ⟨(some 109), none, (.q (.load none (.t 108)))⟩, ⟨(some 110), none, (.q (.mov (.t 0)))⟩, ⟨(some 111), none, (.q (.mov (.t 10)))⟩, ⟨(some 112), none, (.q (.bin .sub (.t 111) (.c (.int .i64 1))))⟩, ⟨(some 113), none, (.q (.iaddr 1 (.t 110) (.t 112)))⟩, ⟨(some 114), none, (.q (.load none (.t 113)))⟩, ⟨(some 115), none, (.call 127 [(.t 109), (.t 114)])⟩, ⟨(some 116), none, (.q (.not (.t 115)))⟩] false [0, 1, 2, 7, 8, 10, 116])
            (.cond (.t 116)
            (.exit 6)
            .skip))
            (.dreg 23 [⟨(some 117), none, (.q (.mov (.t 0)))⟩, ⟨(some 118), none, (.q (.mov (.t 10)))⟩, ⟨(some 119), none, (.q (.mov (.t 0)))⟩, ⟨(some 120), none, (.q (.mov (.t 10)))⟩, ⟨(some 121), none, (.q (.bin .sub (.t 120) (.c (.int .i64 1))))⟩, ⟨(some 122), none, (.q (.mov (.t 0)))⟩, ⟨(some 123), none, (.q (.mov (.t 10)))⟩, ⟨(some 124), none, (.q (.bin .sub (.t 123) (.c (.int .i64 1))))⟩, ⟨(some 125), none, (.q (.iaddr 1 (.t 122) (.t 124)))⟩, ⟨(some 126), none, (.q (.load none (.t 125)))⟩, ⟨(some 127), none, (.q (.mov (.t 0)))⟩, ⟨(some 128), none, (.q (.mov (.t 10)))⟩, ⟨(some 129), none, (.q (.iaddr 1 (.t 127) (.t 128)))⟩, ⟨(some 130), none, (.q (.load none (.t 129)))⟩, ⟨(some 131), none, (.q (.iaddr 1 (.t 117) (.t 118)))⟩, ⟨none, none, (.store 1 (.t 131) (.t 126))⟩, ⟨(some 132), none, (.q (.iaddr 1 (.t 119) (.t 121)))⟩, ⟨none, none, (.store 1 (.t 132) (.t 130))⟩] false [0, 1, 2, 7, 8, 10])))
            (.reg 21 [⟨(some 104), none, (.q (.mov (.t 10)))⟩, ⟨(some 105), none, (.q (.bin .add (.t 104) (.c (.int .i64 1))))⟩, ⟨(some 10), none, (.q (.mov (.t 105)))⟩] [0, 1, 2, 7, 8, 10]))))))
            .skip))))))))
        (.reg 4 [⟨(some 15), none, (.q (.mov (.t 8)))⟩, ⟨(some 16), none, (.q (.bin .add (.t 15) (.c (.int .i64 1))))⟩, ⟨(some 8), none, (.q (.mov (.t 16)))⟩] [0, 1, 2, 7, 8]))))))
   (.seq
    (.reg 24 [⟨(some 6), none, (.q (.mov (.c (.bool false))))⟩] [6])
    .ret))))
theorem fok126 : FOK Tryz.prog 126 (133, ic126, [(.t 6)]) := .mk (pf := []) (an := [(0, [0, 1, 2]), (1, [0, 1, 2, 7]), (2, [0, 1, 2, 7, 8]), (3, [0, 1, 2, 7, 8, 14]), (4, [0, 1, 2, 7, 8]), (5, [0, 1, 2, 7, 8, 32]), (6, [0, 1, 2, 7, 8]), (7, [0, 1, 2, 7, 8, 37]), (8, [6]), (9, [0, 1, 2, 7, 8, 41]), (10, [6]), (11, [0, 1, 2, 7, 8]), (12, [0, 1, 2, 7, 8, 61]), (13, [0, 1, 2, 7, 8, 9]), (14, [0, 1, 2, 7, 8, 9, 65]), (15, [0, 1, 2, 7, 8, 9]), (16, [0, 1, 2, 7, 8, 9, 78]), (17, [0, 1, 2, 7, 8, 9]), (18, [0, 1, 2, 7, 8, 98]), (19, [0, 1, 2, 7, 8, 10]), (20, [0, 1, 2, 7, 8, 10, 103]), (21, [0, 1, 2, 7, 8, 10]), (22, [0, 1, 2, 7, 8, 10, 116]), (23, [0, 1, 2, 7, 8, 10]), (24, [6])]) (by kernel_rfl) (fnOK_of Tryz.func126 (by kernel_rfl) (by kernel_rfl) (by kernel_rfl))
/-- cmp.Less[int] -/
def ic127 : IC :=
(.seq
 (.reg 0 [⟨(some 4), none, (.q (.mov (.c (.bool false))))⟩] [0, 1])
 (.seq
  (.reg 1 [⟨(some 5), none, (.q (.mov (.t 0)))⟩, ⟨(some 6), none, (.call 170 [(.t 5)])⟩, ⟨(some 7), none, (.q (.mov (.t 6)))⟩, ⟨(some 8), (some ⟨7, true⟩), (.q (.mov (.t 1)))⟩, ⟨(some 9), (some ⟨7, true⟩), (.call 170 [(.t 8)])⟩, ⟨(some 10), (some ⟨7, true⟩), (.q (.not (.t 9)))⟩, ⟨(some 11), none, (.q (.pick (.t 7) (.t 10) (.c (.bool false))))⟩, ⟨(some 12), none, (.q (.mov (.t 11)))⟩, ⟨(some 13), (some ⟨12, false⟩), (.q (.mov (.t 0)))⟩, ⟨(some 14), (some ⟨12, false⟩), (.q (.mov (.t 1)))⟩, ⟨(some 15), (some ⟨12, false⟩), (.q (.bin .lss (.t 13) (.t 14)))⟩, ⟨(some 16), none, (.q (.pick (.t 12) (.c (.bool true)) (.t 15)))⟩, ⟨(some 4), none, (.q (.mov (.t 16)))⟩] [4])
  .ret))
theorem fok127 : FOK Tryz.prog 127 (17, ic127, [(.t 4)]) := .mk (pf := []) (an := [(0, [0, 1]), (1, [4])]) (by kernel_rfl) (fnOK_of Tryz.func127 (by kernel_rfl) (by kernel_rfl) (by kernel_rfl))
/-- slices.partitionEqualOrdered[int] -/
def ic128 : IC :=
(.seq
 (.reg 0 [⟨(some 8), none, (.q (.mov (.c (.int .i64 0))))⟩] [0, 1, 2, 3])
 (.seq
  (.dreg 1 [⟨(some 11), none, (.q (.mov (.t 0)))⟩, ⟨(some 12), none, (.q (.mov (.t 1)))⟩, ⟨(some 13), none, (.q (.mov (.t 0)))⟩, ⟨(some 14), none, (.q (.mov (.t 3)))⟩, ⟨(some 15), none, (.q (.mov (.t 0)))⟩, ⟨(some 16), none, (.q (.mov (.t 3)))⟩, ⟨(some 17), none, (.q (.iaddr 1 (.t 15) (.t 16)))⟩, ⟨(some 18), none, (.q (.load none (.t 17)))⟩, ⟨(some 19), none, (.q (.mov (.t 0)))⟩, ⟨(some 20), none, (.q (.mov (.t 1)))⟩, ⟨(some 21), none, (.q (.iaddr 1 (.t 19) (.t 20)))⟩, ⟨(some 22), none, (.q (.load none (.t 21)))⟩, ⟨(some 23), none, (.q (.iaddr 1 (.t 11) (.t 12)))⟩, ⟨none, none, (.store 1 (.t 23) (.t 18))⟩, ⟨(some 24), none, (.q (.iaddr 1 (.t 13) (.t 14)))⟩, ⟨none, none, (.store 1 (.t 24) (.t 22))⟩] false [0, 1, 2])
  (.seq
   (.reg 2 [⟨(some 25), none, (.q (.mov (.t 1)))⟩, ⟨(some 26), none, (.q (.bin .add (.t 25) (.c (.int .i64 1))))⟩, ⟨(some 27), none, (.q (.mov (.t 2)))⟩, ⟨(some 28), none, (.q (.bin .sub (.t 27) (.c (.int .i64 1))))⟩, ⟨(some 9), none, (.q (.mov (.t 26)))⟩, ⟨(some 10), none, (.q (.mov (.t 28)))⟩] [0, 1, 9, 10])
   (.seq
    (.block 0
     (.loop
      (.block 1
       (.seq
        (.block 2
         (.loop
          (.seq
           (.seq
            (.dreg 3 [⟨(some 29), none, (.q (.mov (.t 9)))⟩, ⟨(some 30), none, (.q (.mov (.t 10)))⟩, ⟨(some 31), none, (.q (.bin .leq (.t 29) (.t 30)))⟩, ⟨(some 32), none, (.q (.mov (.t 31)))⟩, ⟨(some 33), (some ⟨32, true⟩), (.q (.mov (.t 0)))⟩, ⟨(some 34), (some ⟨32, true⟩), (.q (.mov (.t 1)))⟩, ⟨(some 35), (some ⟨32, true⟩), (.q (.iaddr 1 (.t 33) (.t 34)))⟩, ⟨(some 36), (some ⟨32, true⟩), (.q (.load none (.t 35)))⟩, ⟨(some 37), (some ⟨32, true⟩), (.q (.mov (.t 0)))⟩, ⟨(some 38), (some ⟨32, true⟩), (.q (.mov (.t 9)))⟩, ⟨(some 39), (some ⟨32, true⟩), (.q (.iaddr 1 (.t 37) (.t 38)))⟩, ⟨(some 40), (some ⟨32, true⟩), (.q (.load none (.t 39)))⟩, ⟨(some 41), (some ⟨32, true⟩), (.call 127 [(.t 36), (.t 40)])⟩, ⟨(some 42), (some ⟨32, true⟩), (.q (.not (.t 41)))⟩, ⟨(some 43), none, (.q (.pick (.t 32) (.t 42) (.c (.bool false))))⟩] false [0, 1, 9, 10, 43])
            (.cond (.t 43)
            .skip
            (.exit 2)))
           (.block 3
            (.reg 4 [⟨(some 44), none, (.q (.mov (.t 9)))⟩, ⟨(some 45), none, (.q (.bin .add (.t 44) (.c (.int .i64 1))))⟩, ⟨(some 9), none, (.q (.mov (.t 45)))⟩] [0, 1, 9, 10])))))
        (.seq
         (.block 4
          (.loop
           (.seq
            (.seq
            (.dreg 5 [⟨(some 46), none, (.q (.mov (.t 9)))⟩, ⟨(some 47), none, (.q (.mov (.t 10)))⟩, ⟨(some 48), none, (.q (.bin .leq (.t 46) (.t 47)))⟩, ⟨(some 49), none, (.q (.mov (.t 48)))⟩, ⟨(some 50), (some ⟨49, true⟩), (.q (.mov (.t 0)))⟩, ⟨(some 51), (some ⟨49, true⟩), (.q (.mov (.t 1)))⟩, ⟨(some 52), (some ⟨49, true⟩), (.q (.iaddr 1 (.t 50) (.t 51)))⟩, ⟨(some 53), (some ⟨49, true⟩), (.q (.load none (.t 52)))⟩, ⟨(some 54), (some ⟨49, true⟩), (.q (.mov (.t 0)))⟩, ⟨(some 55), (some ⟨49, true⟩), (.q (.mov (.t 10)))⟩, ⟨(some 56), (some ⟨49, true⟩), (.q (.iaddr 1 (.t 54) (.t 55)))⟩, ⟨(some 57), (some ⟨49, true⟩), (.q (.load none (.t 56)))⟩, ⟨(some 58), (some ⟨49, true⟩), (.call 127 [(.t 53), (.t 57)])⟩, ⟨(some 59), none, (.q (.pick (.t 49) (.t 58) (.c (.bool false))))⟩] false [0, 1, 9, 10, 59])
            (.cond (.t 59)
            .skip
            (.exit 4)))
            (.block 5
            (.reg 6 [⟨(some 60), none, (.q (.mov (.t 10)))⟩, ⟨(some 61), none, (.q (.bin .sub (.t 60) (.c (.int .i64 1))))⟩, ⟨(some 10), none, (.q (.mov (.t 61)))⟩] [0, 1, 9, 10])))))
         (.seq
          (.seq
           (.reg 7 [⟨(some 62), none, (.q (.mov (.t 9)))⟩, ⟨(some 63), none, (.q (.mov (.t 10)))⟩, ⟨(some 64), none, (.q (.bin .gtr (.t 62) (.t 63)))⟩] [0, 1, 9, 10, 64])
           (.cond (.t 64)
            (.exit 0)
            .skip))
          (.seq
           (.dreg 8 [⟨(some 65), none, (.q (.mov (.t 0)))⟩, ⟨(some 66), none, (.q (.mov (.t 9)))⟩, ⟨(some 67), none, (.q (.mov (.t 0)))⟩, ⟨(some 68), none, (.q (.mov (.t 10)))⟩, ⟨(some 69), none, (.q (.mov (.t 0)))⟩, ⟨(some 70), none, (.q (.mov (.t 10)))⟩, ⟨(some 71), none, (.q (.iaddr 1 (.t 69) (.t 70)))⟩, ⟨(some 72), none, (.q (.load none (.t 71)))⟩, ⟨(some 73), none, (.q (.mov (.t 0)))⟩, ⟨(some 74), none, (.q (.mov (.t 9)))⟩, ⟨(some 75), none, (.q (.iaddr 1 (.t 73) (.t 74)))⟩, ⟨(some 76), none, (.q (.load none (.t 75)))⟩, ⟨(some 77), none, (.q (.iaddr 1 (.t 65) (.t 66)))⟩, ⟨none, none, (.store 1 (.t 77) (.t 72))⟩, ⟨(some 78), none, (.q (.iaddr 1 (.t 67) (.t 68)))⟩, ⟨none, none, (.store 1 (.t 78) (.t 76))⟩] false [0, 1, 9, 10])
           (.seq
            (.reg 9 [⟨(some 79), none, (.q (.mov (.t 9)))⟩, ⟨(some 80), none, (.q (.bin .add (.t 79) (.c (.int .i64 1))))⟩, ⟨(some 9), none, (.q (.mov (.t 80)))⟩] [0, 1, 9, 10])
            (.reg 10 [⟨(some 81), none, (.q (.mov (.t 10)))⟩, ⟨(some 82), none, (.q (.bin .sub (.t 81) (.c (.int .i64 1))))⟩, ⟨(some 10), none, (.q (.mov (.t 82)))⟩] [0, 1, 9, 10])))))))))
    (.seq
     (.reg 11 [⟨(some 83), none, (.q (.mov (.t 9)))⟩, ⟨(some 8), none, (.q (.mov (.t 83)))⟩] [8])
     .ret)))))
theorem fok128 : FOK Tryz.prog 128 (84, ic128, [(.t 8)]) := .mk (pf := []) (an := [(0, [0, 1, 2, 3]), (1, [0, 1, 2]), (2, [0, 1, 9, 10]), (3, [0, 1, 9, 10, 43]), (4, [0, 1, 9, 10]), (5, [0, 1, 9, 10, 59]), (6, [0, 1, 9, 10]), (7, [0, 1, 9, 10, 64]), (8, [0, 1, 9, 10]), (9, [0, 1, 9, 10]), (10, [0, 1, 9, 10]), (11, [8])]) (by kernel_rfl) (fnOK_of Tryz.func128 (by kernel_rfl) (by kernel_rfl) (by kernel_rfl))
/-- slices.partitionOrdered[int] -/
def ic129 : IC :=
(.seq
 (.reg 0 [⟨(some 8), none, (.q (.mov (.c (.int .i64 0))))⟩, ⟨(some 9), none, (.q (.mov (.c (.bool false))))⟩] [0, 1, 2, 3])
 (.seq
  (.dreg 1 [⟨(some 12), none, (.q (.mov (.t 0)))⟩, ⟨(some 13), none, (.q (.mov (.t 1)))⟩, ⟨(some 14), none, (.q (.mov (.t 0)))⟩, ⟨(some 15), none, (.q (.mov (.t 3)))⟩, ⟨(some 16), none, (.q (.mov (.t 0)))⟩, ⟨(some 17), none, (.q (.mov (.t 3)))⟩, ⟨(some 18), none, (.q (.iaddr 1 (.t 16) (.t 17)))⟩, ⟨(some 19), none, (.q (.load none (.t 18)))⟩, ⟨(some 20), none, (.q (.mov (.t 0)))⟩, ⟨(some 21), none, (.q (.mov (.t 1)))⟩, ⟨(some 22), none, (.q (.iaddr 1 (.t 20) (.t 21)))⟩, ⟨(some 23), none, (.q (.load none (.t 22)))⟩, ⟨(some 24), none, (.q (.iaddr 1 (.t 12) (.t 13)))⟩, ⟨none, none, (.store 1 (.t 24) (.t 19))⟩, ⟨(some 25), none, (.q (.iaddr 1 (.t 14) (.t 15)))⟩, ⟨none, none, (.store 1 (.t 25) (.t 23))⟩] false [0, 1, 2])
  (.seq
   (.reg 2 [⟨(some 26), none, (.q (.mov (.t 1)))⟩, ⟨(some 27), none, (.q (.bin .add (.t 26) (.c (.int .i64 1))))⟩, ⟨(some 28), none, (.q (.mov (.t 2)))⟩, ⟨(some 29), none, (.q (.bin .sub (.t 28) (.c (.int .i64 1))))⟩, ⟨(some 10), none, (.q (.mov (.t 27)))⟩, ⟨(some 11), none, (.q (.mov (.t 29)))⟩] [0, 1, 10, 11])
   (.seq
    (.block 0
     (.loop
      (.seq
       (.seq
        (.dreg 3 [⟨(some 30), none, (.q (.mov (.t 10)))⟩, ⟨(some 31), none, (.q (.mov (.t 11)))⟩, ⟨(some 32), none, (.q (.bin .leq (.t 30) (.t 31)))⟩, ⟨(some 33), none, (.q (.mov (.t 32)))⟩, ⟨(some 34), (some ⟨33, true⟩), (.q (.mov (.t 0)))⟩, ⟨(some 35), (some ⟨33, true⟩), (.q (.mov (.t 10)))⟩, ⟨(some 36), (some ⟨33, true⟩), (.q (.iaddr 1 (.t 34) (.t 35)))⟩, ⟨(some 37), (some ⟨33, true⟩), (.q (.load none (.t 36)))⟩, ⟨(some 38), (some ⟨33, true⟩), (.q (.mov (.t 0)))⟩, ⟨(some 39), (some ⟨33, true⟩), (.q (.mov (.t 1)))⟩, ⟨(some 40), (some ⟨33, true⟩), (.q (.iaddr 1 (.t 38) (.t 39)))⟩, ⟨(some 41), (some ⟨33, true⟩), (.q (.load none (.t 40)))⟩, ⟨(some 42), (some ⟨33, true⟩), (.call 127 [(.t 37), (.t 41)])⟩, ⟨(some 43), none, (.q (.pick (.t 33) (.t 42) (.c (.bool false))))⟩] false [0, 1, 10, 11, 43])
        (.cond (.t 43)
         .skip
         (.exit 0)))
       (.block 1
        (.reg 4 [⟨(some 44), none, (.q (.mov (.t 10)))⟩, ⟨(some 45), none, (.q (.bin .add (.t 44) (.c (.int .i64 1))))⟩, ⟨(some 10), none, (.q (.mov (.t 45)))⟩] [0, 1, 10, 11])))))
    (.seq
     (.block 2
      (.loop
       (.seq
        (.seq
         (.dreg 5 [⟨(some 46), none, (.q (.mov (.t 10)))⟩, ⟨(some 47), none, (.q (.mov (.t 11)))⟩, ⟨(some 48), none, (.q (.bin .leq (.t 46) (.t 47)))⟩, ⟨(some 49), none, (.q (.mov (.t 48)))⟩, ⟨(some 50), (some ⟨49, true⟩), (.q (.mov (.t 0)))⟩, ⟨(some 51), (some ⟨49, true⟩), (.q (.mov (.t 11)))⟩, ⟨(some 52), (some ⟨49, true⟩), (.q (.iaddr 1 (.t 50) (.t 51)))⟩, ⟨(some 53), (some ⟨49, true⟩), (.q (.load none (.t 52)))⟩, ⟨(some 54), (some ⟨49, true⟩), (.q (.mov (.t 0)))⟩, ⟨(some 55), (some ⟨49, true⟩), (.q (.mov (.t 1)))⟩, ⟨(some 56), (some ⟨49, true⟩), (.q (.iaddr 1 (.t 54) (.t 55)))⟩, ⟨(some 57), (some ⟨49, true⟩), (.q (.load none (.t 56)))⟩, ⟨(some 58), (some ⟨49, true⟩), (.call 127 [(.t 53), (.t 57)])⟩, ⟨(some 59), (some ⟨49, true⟩), (.q (.not (.t 58)))⟩, ⟨(some 60), none, (.q (.pick (.t 49) (.t 59) (.c (.bool false))))⟩] false [0, 1, 10, 11, 60])
         (.cond (.t 60)
          .skip
          (.exit 2)))
        (.block 3
         (.reg 6 [⟨(some 61), none, (.q (.mov (.t 11)))⟩, ⟨(some 62), none, (.q (.bin .sub (.t 61) (.c (.int .i64 1))))⟩, ⟨(some 11), none, (.q (.mov (.t 62)))⟩] [0, 1, 10, 11])))))
     (.seq
      (.seq
       (.reg 7 [⟨(some 63), none, (.q (.mov (.t 10)))⟩, ⟨(some 64), none, (.q (.mov (.t 11)))⟩, ⟨(some 65), none, (.q (.bin .gtr (.t 63) (.t 64)))⟩] [0, 1, 10, 11, 65])
       (.cond (.t 65)
        (.seq
         (.dreg 8 [⟨(some 66), none, (.q (.mov (.t 0)))⟩, ⟨(some 67), none, (.q (.mov (.t 11)))⟩, ⟨(some 68), none, (.q (.mov (.t 0)))⟩, ⟨(some 69), none, (.q (.mov (.t 1)))⟩, ⟨(some 70), none, (.q (.mov (.t 0)))⟩, ⟨(some 71), none, (.q (.mov (.t 1)))⟩, ⟨(some 72), none, (.q (.iaddr 1 (.t 70) (.t 71)))⟩, ⟨(some 73), none, (.q (.load none (.t 72)))⟩, ⟨(some 74), none, (.q (.mov (.t 0)))⟩, ⟨(some 75), none, (.q (.mov (.t 11)))⟩, ⟨(some 76), none, (.q (.iaddr 1 (.t 74) (.t 75)))⟩, ⟨(some 77), none, (.q (.load none (.t 76)))⟩, ⟨(some 78), none, (.q (.iaddr 1 (.t 66) (.t 67)))⟩, ⟨none, none, (.store 1 (.t 78) (.t 73))⟩, ⟨(some 79), none, (.q (.iaddr 1 (.t 68) (.t 69)))⟩, ⟨none, none, (.store 1 (.t 79) (.t 77))⟩] false [11])
         (.seq
          (.reg 9 [⟨(some 80), none, (.q (.mov (.t 11)))⟩, ⟨(some 8), none, (.q (.mov (.t 80)))⟩, ⟨(some 9), none, (.q (.mov (.c (.bool true))))⟩] [8, 9])
          .ret))
        .skip))
      (.seq
       (.dreg 10 [⟨(some 81), none, (.q (.mov (.t 0)))⟩, ⟨(some 82), none, (.q (.mov (.t 10)))⟩, ⟨(some 83), none, (.q (.mov (.t 0)))⟩, ⟨(some 84), none, (.q (.mov (.t 11)))⟩, ⟨(some 85), none, (.q (.mov (.t 0)))⟩, ⟨(some 86), none, (.q (.mov (.t 11)))⟩, ⟨(some 87), none, (.q (.iaddr 1 (.t 85) (.t 86)))⟩, ⟨(some 88), none, (.q (.load none (.t 87)))⟩, ⟨(some 89), none, (.q (.mov (.t 0)))⟩, ⟨(some 90), none, (.q (.mov (.t 10)))⟩, ⟨(some 91), none, (.q (.iaddr 1 (.t 89) (.t 90)))⟩, ⟨(some 92), none, (.q (.load none (.t 91)))⟩, ⟨(some 93), none, (.q (.iaddr 1 (.t 81) (.t 82)))⟩, ⟨none, none, (.store 1 (.t 93) (.t 88))⟩, ⟨(some 94), none, (.q (.iaddr 1 (.t 83) (.t 84)))⟩, ⟨none, none, (.store 1 (.t 94) (.t 92))⟩] false [0, 1, 10, 11])
       (.seq
        (.reg 11 [⟨(some 95), none, (.q (.mov (.t 10)))⟩, ⟨(some 96), none, (.q (.bin .add (.t 95) (.c (.int .i64 1))))⟩, ⟨(some 10), none, (.q (.mov (.t 96)))⟩] [0, 1, 10, 11])
        (.seq
         (.reg 12 [⟨(some 97), none, (.q (.mov (.t 11)))⟩, ⟨(some 98), none, (.q (.bin .sub (.t 97) (.c (.int .i64 1))))⟩, ⟨(some 11), none, (.q (.mov (.t 98)))⟩] [0, 1, 10, 11])
         (.seq
          (.block 4
           (.loop
            (.block 5
            (.seq
            (.block 6
            (.loop
            (.seq
            (.seq
            (.dreg 13 [⟨(some 99), none, (.q (.mov (.t 10)))⟩, ⟨(some 100), none, (.q (.mov (.t 11)))⟩, ⟨(some 101), none, (.q (.bin .leq (.t 99) (.t 100)))⟩, ⟨(some 102), none, (.q (.mov (.t 101)))⟩, ⟨(some 103), (some ⟨102, true⟩), (.q (.mov (.t 0)))⟩, ⟨(some 104), (some ⟨102, true⟩), (.q (.mov (.t 10)))⟩, ⟨(some 105), (some ⟨102, true⟩), (.q (.iaddr 1 (.t 103) (.t 104)))⟩, ⟨(some 106), (some ⟨102, true⟩), (.q (.load none (.t 105)))⟩, ⟨(some 107), (some ⟨102, true⟩), (.q (.mov (.t 0)))⟩, ⟨(some 108), (some ⟨102, true⟩), (.q (.mov (.t 1)))⟩, ⟨(some 109), (some ⟨102, true⟩), (.q (.iaddr 1 (.t 107) (.t 108)))⟩, ⟨(some 110), (some ⟨102, true⟩), (.q (.load none (.t 109)))⟩, ⟨(some 111), (some ⟨102, true⟩), (.call 127 [(.t 106), (.t 110)])⟩, ⟨(some 112), none, (.q (.pick (.t 102) (.t 111) (.c (.bool false))))⟩] false [0, 1, 10, 11, 112])
            (.cond (.t 112)
            .skip
            (.exit 6)))
            (.block 7
            (.reg 14 [⟨(some 113), none, (.q (.mov (.t 10)))⟩, ⟨(some 114), none, (.q (.bin .add (.t 113) (.c (.int .i64 1))))⟩, ⟨(some 10), none, (.q (.mov (.t 114)))⟩] [0, 1, 10, 11])))))
            (.seq
            (.block 8
            (.loop
            (.seq
            (.seq
            (.dreg 15 [⟨(some 115), none, (.q (.mov (.t 10)))⟩, ⟨(some 116), none, (.q (.mov (.t 11)))⟩, ⟨(some 117), none, (.q (.bin .leq (.t 115) (.t 116)))⟩, ⟨(some 118), none, (.q (.mov (.t 117)))⟩, ⟨(some 119), (some ⟨118, true⟩), (.q (.mov (.t 0)))⟩, ⟨(some 120), (some ⟨118, true⟩), (.q (.mov (.t 11)))⟩, ⟨(some 121), (some ⟨118, true⟩), (.q (.iaddr 1 (.t 119) (.t 120)))⟩, ⟨(some 122), (some ⟨118, true⟩), (.q (.load none (.t 121)))⟩, ⟨(some 123), (some ⟨118, true⟩), (.q (.mov (.t 0)))⟩, ⟨(some 124), (some ⟨118, true⟩), (.q (.mov (.t 1)))⟩, ⟨(some 125), (some ⟨118, true⟩), (.q (.iaddr 1 (.t 123) (.t 124)))⟩, ⟨(some 126), (some ⟨118, true⟩), (.q (.load none (.t 125)))⟩, ⟨(some 127), (some ⟨118, true⟩), (.call 127 [(.t 122), (.t 126)])⟩, ⟨(some 128), (some ⟨118, true⟩), (.q (.not (.t 127)))⟩, ⟨(some 129), none, (.q (.pick (.t 118) (.t 128) (.c (.bool false))))⟩] false [0, 1, 10, 11, 129])
            (.cond (.t 129)
            .skip
            (.exit 8)))
            (.block 9
            (.reg 16 [⟨(some 130), none, (.q (.mov (.t 11)))⟩, ⟨(some 131), none, (.q (.bin .sub (.t 130) (.c (.int .i64 1))))⟩, ⟨(some 11), none, (.q (.mov (.t 131)))⟩] [0, 1, 10, 11])))))
            (.seq
            (.seq
            (.reg 17 [⟨(some 132), none, (.q (.mov (.t 10)))⟩, ⟨(some 133), none, (.q (.mov (.t 11)))⟩, ⟨(some 134), none, (.q (.bin .gtr (.t 132) (.t 133)))⟩] [0, 1, 10, 11, 134])
            (.cond (.t 134)
            (.exit 4)
            .skip))
            (.seq
            (.dreg 18 [⟨(some 135), none, (.q (.mov (.t 0)))⟩, ⟨(some 136), none, (.q (.mov (.t 10)))⟩, ⟨(some 137), none, (.q (.mov (.t 0)))⟩, ⟨(some 138), none, (.q (.mov (.t 11)))⟩, ⟨(some 139), none, (.q (.mov (.t 0)))⟩, ⟨(some 140), none, (.q (.mov (.t 11)))⟩, ⟨(some 141), none, (.q (.iaddr 1 (.t 139) (.t 140)))⟩, ⟨(some 142), none, (.q (.load none (.t 141)))⟩, ⟨(some 143), none, (.q (.mov (.t 0)))⟩, ⟨(some 144), none, (.q (.mov (.t 10)))⟩, ⟨(some 145), none, (.q (.iaddr 1 (.t 143) (.t 144)))⟩, ⟨(some 146), none, (.q (.load none (.t 145)))⟩, ⟨(some 147), none, (.q (.iaddr 1 (.t 135) (.t 136)))⟩, ⟨none, none, (.store 1 (.t 147) (.t 142))⟩, ⟨(some 148), none, (.q (.iaddr 1 (.t 137) (.t 138)))⟩, ⟨none, none, (.store 1 (.t 148) (.t 146))⟩] false [0, 1, 10, 11])
            (.seq
            (.reg 19 [⟨(some 149), none, (.q (.mov (.t 10)))⟩, ⟨(some 150), none, (.q (.bin .add (.t 149) (.c (.int .i64 1))))⟩, ⟨(some 10), none, (.q (.mov (.t 150)))⟩] [0, 1, 10, 11])
            (.reg 20 [⟨(some 151), none, (.q (.mov (.t 11)))⟩, ⟨(some 152), none, (.q (.bin .sub (.t 151) (.c (.int .i64 1))))⟩, ⟨(some 11), none, (.q (.mov (.t 152)))⟩] [0, 1, 10, 11])))))))))
          (.seq
           (.dreg 21 [⟨(some 153), none, (.q (.mov (.t 0)))⟩, ⟨(some 154), none, (.q (.mov (.t 11)))⟩, ⟨(some 155), none, (.q (.mov (.t 0)))⟩, ⟨(some 156), none, (.q (.mov (.t 1)))⟩, ⟨(some 157), none, (.q (.mov (.t 0)))⟩, ⟨(some 158), none, (.q (.mov (.t 1)))⟩, ⟨(some 159), none, (.q (.iaddr 1 (.t 157) (.t 158)))⟩, ⟨(some 160), none, (.q (.load none (.t 159)))⟩, ⟨(some 161), none, (.q (.mov (.t 0)))⟩, ⟨(some 162), none, (.q (.mov (.t 11)))⟩, ⟨(some 163), none, (.q (.iaddr 1 (.t 161) (.t 162)))⟩, ⟨(some 164), none, (.q (.load none (.t 163)))⟩, ⟨(some 165), none, (.q (.iaddr 1 (.t 153) (.t 154)))⟩, ⟨none, none, (.store 1 (.t 165) (.t 160))⟩, ⟨(some 166), none, (.q (.iaddr 1 (.t 155) (.t 156)))⟩, ⟨none, none, (.store 1 (.t 166) (.t 164))⟩] false [11])
           (.seq
            (.reg 22 [⟨(some 167), none, (.q (.mov (.t 11)))⟩, ⟨(some 8), none, (.q (.mov (.t 167)))⟩, ⟨(some 9), none, (.q (.mov (.c (.bool false))))⟩] [8, 9])
            .ret))))))))))))
theorem fok129 : FOK Tryz.prog 129 (168, ic129, [(.t 8), (.t 9)]) := .mk (pf := []) (an := [(0, [0, 1, 2, 3]), (1, [0, 1, 2]), (2, [0, 1, 10, 11]), (3, [0, 1, 10, 11, 43]), (4, [0, 1, 10, 11]), (5, [0, 1, 10, 11, 60]), (6, [0, 1, 10, 11]), (7, [0, 1, 10, 11, 65]), (8, [11]), (9, [8, 9]), (10, [0, 1, 10, 11]), (11, [0, 1, 10, 11]), (12, [0, 1, 10, 11]), (13, [0, 1, 10, 11, 112]), (14, [0, 1, 10, 11]), (15, [0, 1, 10, 11, 129]), (16, [0, 1, 10, 11]), (17, [0, 1, 10, 11, 134]), (18, [0, 1, 10, 11]), (19, [0, 1, 10, 11]), (20, [0, 1, 10, 11]), (21, [11]), (22, [8, 9])]) (by kernel_rfl) (fnOK_of Tryz.func129 (by kernel_rfl) (by kernel_rfl) (by kernel_rfl))
/-- math/bits.Len32 -/
def ic130 : IC :=
(.seq
 (.reg 0 [⟨(some 2), none, (.q (.mov (.c (.int .i64 0))))⟩] [0, 2])
 (.seq
  (.seq
   (.reg 1 [⟨(some 3), none, (.q (.mov (.t 0)))⟩, ⟨(some 4), none, (.q (.bin .geq (.t 3) (.c (.int .u32 65536))))⟩] [0, 2, 4])
   (.cond (.t 4)
    (.seq
     (.reg 2 [⟨(some 5), none, (.q (.mov (.t 0)))⟩, ⟨(some 6), none, (.q (.bin .shr (.t 5) (.c (.int .u64 16))))⟩, ⟨(some 0), none, (.q (.mov (.t 6)))⟩] [0])
     (.reg 3 [⟨(some 2), none, (.q (.mov (.c (.int .i64 16))))⟩] [0, 2]))
    .skip))
  (.seq
   (.seq
    (.reg 4 [⟨(some 7), none, (.q (.mov (.t 0)))⟩, ⟨(some 8), none, (.q (.bin .geq (.t 7) (.c (.int .u32 256))))⟩] [0, 2, 8])
    (.cond (.t 8)
     (.seq
      (.reg 5 [⟨(some 9), none, (.q (.mov (.t 0)))⟩, ⟨(some 10), none, (.q (.bin .shr (.t 9) (.c (.int .u64 8))))⟩, ⟨(some 0), none, (.q (.mov (.t 10)))⟩] [0, 2])
      (.reg 6 [⟨(some 11), none, (.q (.mov (.t 2)))⟩, ⟨(some 12), none, (.q (.bin .add (.t 11) (.c (.int .i64 8))))⟩, ⟨(some 2), none, (.q (.mov (.t 12)))⟩] [0, 2]))
     .skip))
   (.seq
    (.reg 7 [⟨(some 13), none, (.q (.mov (.t 2)))⟩, ⟨(some 14), none, (.q (.mov (.t 0)))⟩, ⟨(some 15), none, (.q (.conv .u8 (.t 14)))⟩, ⟨(some 16), none, (.q (.istr (.c (.str [0, 1, 2, 2, 3, 3, 3, 3, 4, 4, 4, 4, 4, 4, 4, 4, 5, 5, 5, 5, 5, 5, 5, 5, 5, 5, 5, 5, 5, 5, 5, 5, 6, 6, 6, 6, 6, 6, 6, 6, 6, 6, 6, 6, 6, 6, 6, 6, 6, 6, 6, 6, 6, 6, 6, 6, 6, 6, 6, 6, 6, 6, 6, 6, 7, 7, 7, 7, 7, 7, 7, 7, 7, 7, 7, 7, 7, 7, 7, 7, 7, 7, 7, 7, 7, 7, 7, 7, 7, 7, 7, 7, 7, 7, 7, 7, 7, 7, 7, 7, 7, 7, 7, 7, 7, 7, 7, 7, 7, 7, 7, 7, 7, 7, 7, 7, 7, 7, 7, 7, 7, 7, 7, 7, 7, 7, 7, 7, 8, 8, 8, 8, 8, 8, 8, 8, 8, 8, 8, 8, 8, 8, 8, 8, 8, 8, 8, 8, 8, 8, 8, 8, 8, 8, 8, 8, 8, 8, 8, 8, 8, 8, 8, 8, 8, 8, 8, 8, 8, 8, 8, 8, 8, 8, 8, 8, 8, 8, 8, 8, 8, 8, 8, 8, 8, 8, 8, 8, 8, 8, 8, 8, 8, 8, 8, 8, 8, 8, 8, 8, 8, 8, 8, 8, 8, 8, 8, 8, 8, 8, 8, 8, 8, 8, 8, 8, 8, 8, 8, 8, 8, 8, 8, 8, 8, 8, 8, 8, 8, 8, 8, 8, 8, 8, 8, 8, 8, 8, 8, 8, 8, 8, 8, 8, 8, 8, 8, 8, 8, 8, 8, 8, 8, 8, 8, 8])) (.t 15)))⟩, ⟨(some 17), none, (.q (.conv .i64 (.t 16)))⟩, ⟨(some 18), none, (.q (.bin .add (.t 13) (.t 17)))⟩, ⟨(some 2), none, (.q (.mov (.t 18)))⟩] [2])
    .ret))))
theorem fok130 : FOK Tryz.prog 130 (19, ic130, [(.t 2)]) := .mk (pf := []) (an := [(0, [0, 2]), (1, [0, 2, 4]), (2, [0]), (3, [0, 2]), (4, [0, 2, 8]), (5, [0, 2]), (6, [0, 2]), (7, [2])]) (by kernel_rfl) (fnOK_of Tryz.func130 (by kernel_rfl) (by kernel_rfl) (by kernel_rfl))
/-- math/bits.Len64 -/
def ic131 : IC :=
(.seq
 (.reg 0 [⟨(some 2), none, (.q (.mov (.c (.int .i64 0))))⟩] [0, 2])
 (.seq
  (.seq
   (.reg 1 [⟨(some 3), none, (.q (.mov (.t 0)))⟩, ⟨(some 4), none, (.q (.bin .geq (.t 3) (.c (.int .u64 4294967296))))⟩] [0, 2, 4])
   (.cond (.t 4)
    (.seq
     (.reg 2 [⟨(some 5), none, (.q (.mov (.t 0)))⟩, ⟨(some 6), none, (.q (.bin .shr (.t 5) (.c (.int .u64 32))))⟩, ⟨(some 0), none, (.q (.mov (.t 6)))⟩] [0])
     (.reg 3 [⟨(some 2), none, (.q (.mov (.c (.int .i64 32))))⟩] [0, 2]))
    .skip))
  (.seq
   (.seq
    (.reg 4 [⟨(some 7), none, (.q (.mov (.t 0)))⟩, ⟨(some 8), none, (.q (.bin .geq (.t 7) (.c (.int .u64 65536))))⟩] [0, 2, 8])
    (.cond (.t 8)
     (.seq
      (.reg 5 [⟨(some 9), none, (.q (.mov (.t 0)))⟩, ⟨(some 10), none, (.q (.bin .shr (.t 9) (.c (.int .u64 16))))⟩, ⟨(some 0), none, (.q (.mov (.t 10)))⟩] [0, 2])
      (.reg 6 [⟨(some 11), none, (.q (.mov (.t 2)))⟩, ⟨(some 12), none, (.q (.bin .add (.t 11) (.c (.int .i64 16))))⟩, ⟨(some 2), none, (.q (.mov (.t 12)))⟩] [0, 2]))
     .skip))
   (.seq
    (.seq
     (.reg 7 [⟨(some 13), none, (.q (.mov (.t 0)))⟩, ⟨(some 14), none, (.q (.bin .geq (.t 13) (.c (.int .u64 256))))⟩] [0, 2, 14])
     (.cond (.t 14)
      (.seq
       (.reg 8 [⟨(some 15), none, (.q (.mov (.t 0)))⟩, ⟨(some 16), none, (.q (.bin .shr (.t 15) (.c (.int .u64 8))))⟩, ⟨(some 0), none, (.q (.mov (.t 16)))⟩] [0, 2])
       (.reg 9 [⟨(some 17), none, (.q (.mov (.t 2)))⟩, ⟨(some 18), none, (.q (.bin .add (.t 17) (.c (.int .i64 8))))⟩, ⟨(some 2), none, (.q (.mov (.t 18)))⟩] [0, 2]))
      .skip))
    (.seq
     (.reg 10 [⟨(some 19), none, (.q (.mov (.t 2)))⟩, ⟨(some 20), none, (.q (.mov (.t 0)))⟩, ⟨(some 21), none, (.q (.conv .u8 (.t 20)))⟩, ⟨(some 22), none, (.q (.istr (.c (.str [0, 1, 2, 2, 3, 3, 3, 3, 4, 4, 4, 4, 4, 4, 4, 4, 5, 5, 5, 5, 5, 5, 5, 5, 5, 5, 5, 5, 5, 5, 5, 5, 6, 6, 6, 6, 6, 6, 6, 6, 6, 6, 6, 6, 6, 6, 6, 6, 6, 6, 6, 6, 6, 6, 6, 6, 6, 6, 6, 6, 6, 6, 6, 6, 7, 7, 7, 7, 7, 7, 7, 7, 7, 7, 7, 7, 7, 7, 7, 7, 7, 7, 7, 7, 7, 7, 7, 7, 7, 7, 7, 7, 7, 7, 7, 7, 7, 7, 7, 7, 7, 7, 7, 7, 7, 7, 7, 7, 7, 7, 7, 7, 7, 7, 7, 7, 7, 7, 7, 7, 7, 7, 7, 7, 7, 7, 7, 7, 8, 8, 8, 8, 8, 8, 8, 8, 8, 8, 8, 8, 8, 8, 8, 8, 8, 8, 8, 8, 8, 8, 8, 8, 8, 8, 8, 8, 8, 8, 8, 8, 8, 8, 8, 8, 8, 8, 8, 8, 8, 8, 8, 8, 8, 8, 8, 8, 8, 8, 8, 8, 8, 8, 8, 8, 8, 8, 8, 8, 8, 8, 8, 8, 8, 8, 8, 8, 8, 8, 8, 8, 8, 8, 8, 8, 8, 8, 8, 8, 8, 8, 8, 8, 8, 8, 8, 8, 8, 8, 8, 8, 8, 8, 8, 8, 8, 8, 8, 8, 8, 8, 8, 8, 8, 8, 8, 8, 8, 8, 8, 8, 8, 8, 8, 8, 8, 8, 8, 8, 8, 8, 8, 8, 8, 8, 8, 8])) (.t 21)))⟩, ⟨(some 23), none, (.q (.conv .i64 (.t 22)))⟩, ⟨(some 24), none, (.q (.bin .add (.t 19) (.t 23)))⟩, ⟨(some 2), none, (.q (.mov (.t 24)))⟩] [2])
     .ret)))))
theorem fok131 : FOK Tryz.prog 131 (25, ic131, [(.t 2)]) := .mk (pf := []) (an := [(0, [0, 2]), (1, [0, 2, 4]), (2, [0]), (3, [0, 2]), (4, [0, 2, 8]), (5, [0, 2]), (6, [0, 2]), (7, [0, 2, 14]), (8, [0, 2]), (9, [0, 2]), (10, [2])]) (by kernel_rfl) (fnOK_of Tryz.func131 (by kernel_rfl) (by kernel_rfl) (by kernel_rfl))
/-- chandlery/evr.Compare -/
def ic132 : IC :=
(.seq
 (.reg 0 [⟨(some 2), none, (.boxt (.t 0))⟩, ⟨(some 3), none, (.boxt (.t 1))⟩, ⟨(some 4), none, (.q (.mov (.c (.int .i64 0))))⟩] [2, 3])
 (.seq
  (.reg 1 [⟨(some 5), none, (.q (.mkf 172 [] [(.t 2), (.t 3)]))⟩, ⟨(some 6), none, (.q (.mkf 174 [] [(.t 2), (.t 3)]))⟩, ⟨(some 7), none, (.q (.mkf 176 [] [(.t 2), (.t 3)]))⟩, ⟨(some 8), none, (.bslt 1 3 [.nilfunc] [⟨0, ⟨1, (.t 5)⟩⟩, ⟨1, ⟨1, (.t 6)⟩⟩, ⟨2, ⟨1, (.t 7)⟩⟩])⟩, ⟨(some 9), none, (.call 171 [(.t 8)])⟩, ⟨(some 4), none, (.q (.mov (.t 9)))⟩] [4])
  .ret))
theorem fok132 : FOK Tryz.prog 132 (10, ic132, [(.t 4)]) := .mk (pf := [1000002, 1000003, 1000008]) (an := [(0, [2, 3]), (1, [4])]) (by kernel_rfl) (fnOK_of Tryz.func132 (by kernel_rfl) (by kernel_rfl) (by kernel_rfl))
/-- chandlery/span.side -/
def ic133 : IC :=
(.seq
 (.reg 0 [⟨(some 2), none, (.q (.mov (.c (.int .u8 0))))⟩] [0])
 (.seq
  (.reg 1 [⟨(some 3), none, (.q (.bld [(.int .u8 0), (.int .u8 0), (.int .u8 0)] [⟨0, ⟨1, (.c (.int .u8 1))⟩⟩, ⟨1, ⟨1, (.c (.int .u8 2))⟩⟩, ⟨2, ⟨1, (.c (.int .u8 4))⟩⟩]))⟩, ⟨(some 4), none, (.q (.mov (.t 0)))⟩, ⟨(some 5), none, (.q (.bin .add (.t 4) (.c (.int .i64 1))))⟩, ⟨(some 6), none, (.q (.idx none 3 1 (.t 3) (.t 5)))⟩, ⟨(some 2), none, (.q (.mov (.t 6)))⟩] [2])
  .ret))
theorem fok133 : FOK Tryz.prog 133 (7, ic133, [(.t 2)]) := .mk (pf := []) (an := [(0, [0]), (1, [2])]) (by kernel_rfl) (fnOK_of Tryz.func133 (by kernel_rfl) (by kernel_rfl) (by kernel_rfl))
/-- strings.IndexByte -/
def ic134 : IC :=
(.seq
 (.reg 0 [⟨(some 4), none, (.q (.mov (.c (.int .i64 0))))⟩] [0, 1])
 (.seq
  (.reg 1 [⟨(some 5), none, (.q (.mov (.t 0)))⟩, ⟨(some 6), none, (.q (.mov (.t 1)))⟩, ⟨(some 7), none, (.call 177 [(.t 5), (.t 6)])⟩, ⟨(some 4), none, (.q (.mov (.t 7)))⟩] [4])
  .ret))
theorem fok134 : FOK Tryz.prog 134 (8, ic134, [(.t 4)]) := .mk (pf := []) (an := [(0, [0, 1]), (1, [4])]) (by kernel_rfl) (fnOK_of Tryz.func134 (by kernel_rfl) (by kernel_rfl) (by kernel_rfl))
/-- strings.HasPrefix -/
def ic135 : IC :=
(.seq
 (.reg 0 [⟨(some 4), none, (.q (.mov (.c (.bool false))))⟩] [0, 1])
 (.seq
  (.reg 1 [⟨(some 5), none, (.q (.mov (.t 0)))⟩, ⟨(some 6), none, (.q (.mov (.t 1)))⟩, ⟨(some 7), none, (.call 178 [(.t 5), (.t 6)])⟩, ⟨(some 4), none, (.q (.mov (.t 7)))⟩] [4])
  .ret))
theorem fok135 : FOK Tryz.prog 135 (8, ic135, [(.t 4)]) := .mk (pf := []) (an := [(0, [0, 1]), (1, [4])]) (by kernel_rfl) (fnOK_of Tryz.func135 (by kernel_rfl) (by kernel_rfl) (by kernel_rfl))
/-- chandlery/evr.word -/
def ic136 : IC :=
(.seq
 (.reg 0 [⟨(some 2), none, (.q (.mov (.c (.bool false))))⟩] [0])
 (.seq
  (.seq
   (.reg 1 [⟨(some 5), none, (.q (.mov (.t 0)))⟩, ⟨(some 6), none, (.q (.bin .eql (.t 5) (.c (.str []))))⟩, ⟨(some 7), none, (.q (.mov (.t 6)))⟩, ⟨(some 8), (some ⟨7, false⟩), (.q (.mov (.t 0)))⟩, ⟨(some 9), (some ⟨7, false⟩), (.q (.len 1 (.t 8)))⟩, ⟨(some 10), (some ⟨7, false⟩), (.q (.bin .gtr (.t 9) (.c (.int .i64 64))))⟩, ⟨(some 11), none, (.q (.pick (.t 7) (.c (.bool true)) (.t 10)))⟩] [0, 11])
   (.cond (.t 11)
    (.seq
     (.reg 2 [⟨(some 2), none, (.q (.mov (.c (.bool false))))⟩] [2])
     .ret)
    .skip))
  (.seq
   (.seq
    (.reg 3 [⟨(some 12), none, (.q (.mov (.t 0)))⟩, ⟨(some 13), none, (.q (.len 1 (.t 12)))⟩, ⟨(some 14), none, (.q (.mov (.c (.int .i64 0))))⟩] [0, 13, 14])
    (.block 0
     (.loop
      (.seq
       (.reg 4 [⟨(some 15), none, (.q (.bin .lss (.t 14) (.t 13)))⟩] [0, 13, 14, 15])
       (.seq
        (.cond (.t 15)
         .skip
         (.exit 0))
        (.seq
         (.block 1
          (.seq
           (.reg 5 [⟨(some 16), none, (.q (.mov (.t 14)))⟩, ⟨(some 3), none, (.q (.mov (.t 16)))⟩] [0, 3, 13, 14])
           (.seq
            (.reg 6 [⟨(some 17), none, (.q (.mov (.t 0)))⟩, ⟨(some 18), none, (.q (.mov (.t 3)))⟩, ⟨(some 19), none, (.q (.istr (.t 17) (.t 18)))⟩, ⟨(some 4), none, (.q (.mov (.t 19)))⟩] [0, 4, 13, 14])
            (.block 2
            (.seq
            (.seq
            (.reg 8 [⟨(some 21), none, (.q (.mov (.t 4)))⟩, ⟨(some 22), none, (.q (.bin .geq (.t 21) (.c (.int .u8 97))))⟩, ⟨(some 23), none, (.q (.mov (.t 22)))⟩, ⟨(some 24), (some ⟨23, true⟩), (.q (.mov (.t 4)))⟩, ⟨(some 25), (some ⟨23, true⟩), (.q (.bin .leq (.t 24) (.c (.int .u8 122))))⟩, ⟨(some 26), none, (.q (.pick (.t 23) (.t 25) (.c (.bool false))))⟩, ⟨(some 20), none, (.q (.mov (.t 26)))⟩] [0, 4, 13, 14, 20])
            (.cond (.t 20)
            .skip
            (.seq
            (.reg 9 [⟨(some 27), none, (.q (.mov (.t 4)))⟩, ⟨(some 28), none, (.q (.bin .geq (.t 27) (.c (.int .u8 65))))⟩, ⟨(some 29), none, (.q (.mov (.t 28)))⟩, ⟨(some 30), (some ⟨29, true⟩), (.q (.mov (.t 4)))⟩, ⟨(some 31), (some ⟨29, true⟩), (.q (.bin .leq (.t 30) (.c (.int .u8 90))))⟩, ⟨(some 32), none, (.q (.pick (.t 29) (.t 31) (.c (.bool false))))⟩, ⟨(some 20), none, (.q (.mov (.t 32)))⟩] [0, 4, 13, 14, 20])
            (.cond (.t 20)
            .skip
            (.seq
            (.reg 10 [⟨(some 33), none, (.q (.mov (.t 4)))⟩, ⟨(some 34), none, (.q (.bin .geq (.t 33) (.c (.int .u8 48))))⟩, ⟨(some 35), none, (.q (.mov (.t 34)))⟩, ⟨(some 36), (some ⟨35, true⟩), (.q (.mov (.t 4)))⟩, ⟨(some 37), (some ⟨35, true⟩), (.q (.bin .leq (.t 36) (.c (.int .u8 57))))⟩, ⟨(some 38), none, (.q (.pick (.t 35) (.t 37) (.c (.bool false))))⟩, ⟨(some 20), none, (.q (.mov (.t 38)))⟩] [0, 4, 13, 14, 20])
            (.cond (.t 20)
            .skip
            (.reg 11 [⟨(some 39), none, (.q (.mov (.t 4)))⟩, ⟨(some 40), none, (.call 134 [(.c (.str [46, 95, 43, 126, 94])), (.t 39)])⟩, ⟨(some 41), none, (.q (.bin .geq (.t 40) (.c (.int .i64 0))))⟩, ⟨(some 20), none, (.q (.mov (.t 41)))⟩] [0, 13, 14, 20])))))))
            (.cond (.t 20)
            .skip
            (.seq
            (.reg 7 [⟨(some 2), none, (.q (.mov (.c (.bool false))))⟩] [2])
            .ret)))))))
         (.reg 12 [⟨(some 42), none, (.q (.bin .add (.t 14) (.c (.int .i64 1))))⟩, ⟨(some 14), none, (.q (.mov (.t 42)))⟩] [0, 13, 14])))))))
   (.seq
    (.reg 13 [⟨(some 2), none, (.q (.mov (.c (.bool true))))⟩] [2])
    .ret))))
theorem fok136 : FOK Tryz.prog 136 (43, ic136, [(.t 2)]) := .mk (pf := []) (an := [(0, [0]), (1, [0, 11]), (2, [2]), (3, [0, 13, 14]), (4, [0, 13, 14, 15]), (5, [0, 3, 13, 14]), (6, [0, 4, 13, 14]), (7, [2]), (8, [0, 4, 13, 14, 20]), (9, [0, 4, 13, 14, 20]), (10, [0, 4, 13, 14, 20]), (11, [0, 13, 14, 20]), (12, [0, 13, 14]), (13, [2])]) (by kernel_rfl) (fnOK_of Tryz.func136 (by kernel_rfl) (by kernel_rfl) (by kernel_rfl))
/-- chandlery/arch.is -/
def ic137 : IC :=
(.seq
 (.reg 0 [⟨(some 2), none, (.q (.mov (.c (.bool false))))⟩] [0])
 (.seq
  (.reg 1 [⟨(some 3), none, (.q (.mov (.t 0)))⟩, ⟨(some 4), none, (.q (.bin .geq (.t 3) (.c (.int .u8 1))))⟩, ⟨(some 5), none, (.q (.mov (.t 4)))⟩, ⟨(some 6), (some ⟨5, true⟩), (.q (.mov (.t 0)))⟩, ⟨(some 7), (some ⟨5, true⟩), (.q (.bin .leq (.t 6) (.c (.int .u8 4))))⟩, ⟨(some 8), none, (.q (.pick (.t 5) (.t 7) (.c (.bool false))))⟩, ⟨(some 2), none, (.q (.mov (.t 8)))⟩] [2])
  .ret))
theorem fok137 : FOK Tryz.prog 137 (9, ic137, [(.t 2)]) := .mk (pf := []) (an := [(0, [0]), (1, [2])]) (by kernel_rfl) (fnOK_of Tryz.func137 (by kernel_rfl) (by kernel_rfl) (by kernel_rfl))
/-- chandlery/arch.names -/
def ic138 : IC :=
(.seq
 (.reg 0 [⟨(some 0), none, (.alloc [(.str []), (.str []), (.str []), (.str []), (.str [])])⟩] [0])
 (.seq
  (.reg 1 [⟨(some 1), none, (.q (.bld [(.str []), (.str []), (.str []), (.str []), (.str [])] [⟨1, ⟨1, (.c (.str [110, 111, 97, 114, 99, 104]))⟩⟩, ⟨2, ⟨1, (.c (.str [120, 56, 54, 95, 54, 52]))⟩⟩, ⟨3, ⟨1, (.c (.str [105, 54, 56, 54]))⟩⟩, ⟨4, ⟨1, (.c (.str [97, 97, 114, 99, 104, 54, 52]))⟩⟩]))⟩, ⟨none, none, (.store 5 (.t 0) (.t 1))⟩] [0])
  .ret))
theorem fok138 : FOK Tryz.prog 138 (2, ic138, [(.cell (some 5) 0)]) := .mk (pf := []) (an := [(0, [0]), (1, [0])]) (by kernel_rfl) (fnOK_of Tryz.func138 (by kernel_rfl) (by kernel_rfl) (by kernel_rfl))
/-- chandlery/pkg.every[chandlery/api.Dep]$1 -/
def ic139 : IC :=
(.seq
 (.reg 0 [⟨(some 2), none, (.boxt (.t 0))⟩, ⟨(some 3), none, (.q (.mov (.c (.bool false))))⟩] [1, 2])
 (.seq
  (.reg 1 [⟨(some 4), none, (.q (.load none (.t 1)))⟩, ⟨(some 5), none, (.q (.load (some 5) (.t 2)))⟩, ⟨(some 6), none, (.callv (.t 4) [(.t 5)])⟩, ⟨(some 7), none, (.q (.not (.t 6)))⟩, ⟨(some 3), none, (.q (.mov (.t 7)))⟩] [3])
  .ret))
theorem fok139 : FOK Tryz.prog 139 (8, ic139, [(.t 3)]) := .mk (pf := [1000002]) (an := [(0, [1, 2]), (1, [3])]) (by kernel_rfl) (fnOK_of Tryz.func139 (by kernel_rfl) (by kernel_rfl) (by kernel_rfl))
/-- chandlery/span.May -/
def ic140 : IC :=
(.seq
 (.reg 0 [⟨(some 2), none, (.q (.mov (.c (.bool false))))⟩] [0])
 (.seq
  (.reg 1 [⟨(some 3), none, (.q (.mov (.t 0)))⟩, ⟨(some 4), none, (.q (.bin .eql (.t 3) (.c (.int .u8 0))))⟩, ⟨(some 5), none, (.q (.mov (.t 4)))⟩, ⟨(some 6), (some ⟨5, false⟩), (.q (.mov (.t 0)))⟩, ⟨(some 7), (some ⟨5, false⟩), (.call 179 [(.t 6)])⟩, ⟨(some 8), (some ⟨5, false⟩), (.q (.bin .neq (.t 7) (.c (.str []))))⟩, ⟨(some 9), none, (.q (.pick (.t 5) (.c (.bool true)) (.t 8)))⟩, ⟨(some 2), none, (.q (.mov (.t 9)))⟩] [2])
  .ret))
theorem fok140 : FOK Tryz.prog 140 (10, ic140, [(.t 2)]) := .mk (pf := []) (an := [(0, [0]), (1, [2])]) (by kernel_rfl) (fnOK_of Tryz.func140 (by kernel_rfl) (by kernel_rfl) (by kernel_rfl))
/-- slices.ContainsFunc[[]string,string] -/
def ic141 : IC :=
(.seq
 (.reg 0 [⟨(some 4), none, (.q (.mov (.c (.bool false))))⟩] [0, 1])
 (.seq
  (.reg 1 [⟨(some 5), none, (.q (.mov (.t 0)))⟩, ⟨(some 6), none, (.q (.mov (.t 1)))⟩, ⟨(some 7), none, (.call 180 [(.t 5), (.t 6)])⟩, ⟨(some 8), none, (.q (.bin .geq (.t 7) (.c (.int .i64 0))))⟩, ⟨(some 4), none, (.q (.mov (.t 8)))⟩] [4])
  .ret))
theorem fok141 : FOK Tryz.prog 141 (9, ic141, [(.t 4)]) := .mk (pf := []) (an := [(0, [0, 1]), (1, [4])]) (by kernel_rfl) (fnOK_of Tryz.func141 (by kernel_rfl) (by kernel_rfl) (by kernel_rfl))
/-- chandlery/pkg.every[string]$1 -/
def ic142 : IC :=
(.seq
 (.reg 0 [⟨(some 3), none, (.q (.mov (.c (.bool false))))⟩] [0, 1])
 (.seq
  (.reg 1 [⟨(some 4), none, (.q (.load none (.t 1)))⟩, ⟨(some 5), none, (.q (.mov (.t 0)))⟩, ⟨(some 6), none, (.callv (.t 4) [(.t 5)])⟩, ⟨(some 7), none, (.q (.not (.t 6)))⟩, ⟨(some 3), none, (.q (.mov (.t 7)))⟩] [3])
  .ret))
theorem fok142 : FOK Tryz.prog 142 (8, ic142, [(.t 3)]) := .mk (pf := []) (an := [(0, [0, 1]), (1, [3])]) (by kernel_rfl) (fnOK_of Tryz.func142 (by kernel_rfl) (by kernel_rfl) (by kernel_rfl))
/-- chandlery/pkg.lists$1 -/
def ic143 : IC :=
(.reg 0 [⟨(some 3), none, (.q (.mov (.t 0)))⟩, ⟨(some 4), none, (.q (.faddr 7 (.t 1)))⟩, ⟨(some 5), none, (.q (.load none (.t 4)))⟩, ⟨(some 6), none, (.callv (.t 3) [(.c (.int .u8 1)), (.t 5)])⟩, ⟨(some 7), none, (.q (.mov (.t 6)))⟩, ⟨(some 8), (some ⟨7, true⟩), (.q (.mov (.t 0)))⟩, ⟨(some 9), (some ⟨7, true⟩), (.q (.faddr 8 (.t 1)))⟩, ⟨(some 10), (some ⟨7, true⟩), (.q (.load none (.t 9)))⟩, ⟨(some 11), (some ⟨7, true⟩), (.callv (.t 8) [(.c (.int .u8 2)), (.t 10)])⟩, ⟨(some 12), none, (.q (.pick (.t 7) (.t 11) (.c (.bool false))))⟩, ⟨(some 13), none, (.q (.mov (.t 12)))⟩, ⟨(some 14), (some ⟨13, true⟩), (.q (.mov (.t 0)))⟩, ⟨(some 15), (some ⟨13, true⟩), (.q (.faddr 10 (.t 1)))⟩, ⟨(some 16), (some ⟨13, true⟩), (.q (.load none (.t 15)))⟩, ⟨(some 17), (some ⟨13, true⟩), (.callv (.t 14) [(.c (.int .u8 1)), (.t 16)])⟩, ⟨(some 18), none, (.q (.pick (.t 13) (.t 17) (.c (.bool false))))⟩, ⟨(some 19), none, (.q (.mov (.t 18)))⟩, ⟨(some 20), (some ⟨19, true⟩), (.q (.mov (.t 0)))⟩, ⟨(some 21), (some ⟨19, true⟩), (.q (.faddr 11 (.t 1)))⟩, ⟨(some 22), (some ⟨19, true⟩), (.q (.load none (.t 21)))⟩, ⟨(some 23), (some ⟨19, true⟩), (.callv (.t 20) [(.c (.int .u8 3)), (.t 22)])⟩, ⟨(some 24), none, (.q (.pick (.t 19) (.t 23) (.c (.bool false))))⟩, ⟨(some 25), none, (.q (.mov (.t 24)))⟩, ⟨(some 26), (some ⟨25, true⟩), (.q (.mov (.t 0)))⟩, ⟨(some 27), (some ⟨25, true⟩), (.q (.faddr 12 (.t 1)))⟩, ⟨(some 28), (some ⟨25, true⟩), (.q (.load none (.t 27)))⟩, ⟨(some 29), (some ⟨25, true⟩), (.callv (.t 26) [(.c (.int .u8 1)), (.t 28)])⟩, ⟨(some 30), none, (.q (.pick (.t 25) (.t 29) (.c (.bool false))))⟩, ⟨(some 31), none, (.q (.mov (.t 30)))⟩, ⟨(some 32), (some ⟨31, true⟩), (.q (.mov (.t 0)))⟩, ⟨(some 33), (some ⟨31, true⟩), (.q (.faddr 13 (.t 1)))⟩, ⟨(some 34), (some ⟨31, true⟩), (.q (.load none (.t 33)))⟩, ⟨(some 35), (some ⟨31, true⟩), (.callv (.t 32) [(.c (.int .u8 3)), (.t 34)])⟩, ⟨(some 36), none, (.q (.pick (.t 31) (.t 35) (.c (.bool false))))⟩] [])
theorem fok143 : FOK Tryz.prog 143 (37, ic143, []) := .mk (pf := []) (an := []) (by kernel_rfl) (fnOK_of Tryz.func143 (by kernel_rfl) (by kernel_rfl) (by kernel_rfl))
/-- slices.ContainsFunc[[]chandlery/api.Rich,chandlery/api.Rich] -/
def ic144 : IC :=
(.seq
 (.reg 0 [⟨(some 4), none, (.q (.mov (.c (.bool false))))⟩] [0, 1])
 (.seq
  (.reg 1 [⟨(some 5), none, (.q (.mov (.t 0)))⟩, ⟨(some 6), none, (.q (.mov (.t 1)))⟩, ⟨(some 7), none, (.call 181 [(.t 5), (.t 6)])⟩, ⟨(some 8), none, (.q (.bin .geq (.t 7) (.c (.int .i64 0))))⟩, ⟨(some 4), none, (.q (.mov (.t 8)))⟩] [4])
  .ret))
theorem fok144 : FOK Tryz.prog 144 (9, ic144, [(.t 4)]) := .mk (pf := []) (an := [(0, [0, 1]), (1, [4])]) (by kernel_rfl) (fnOK_of Tryz.func144 (by kernel_rfl) (by kernel_rfl) (by kernel_rfl))
/-- chandlery/pkg.every[chandlery/api.Rich]$1 -/
def ic145 : IC :=
(.seq
 (.reg 0 [⟨(some 2), none, (.boxt (.t 0))⟩, ⟨(some 3), none, (.q (.mov (.c (.bool false))))⟩] [1, 2])
 (.seq
  (.reg 1 [⟨(some 4), none, (.q (.load none (.t 1)))⟩, ⟨(some 5), none, (.q (.load (some 7) (.t 2)))⟩, ⟨(some 6), none, (.callv (.t 4) [(.t 5)])⟩, ⟨(some 7), none, (.q (.not (.t 6)))⟩, ⟨(some 3), none, (.q (.mov (.t 7)))⟩] [3])
  .ret))
theorem fok145 : FOK Tryz.prog 145 (8, ic145, [(.t 3)]) := .mk (pf := [1000002]) (an := [(0, [1, 2]), (1, [3])]) (by kernel_rfl) (fnOK_of Tryz.func145 (by kernel_rfl) (by kernel_rfl) (by kernel_rfl))
/-- chandlery/shape.Count -/
def ic146 : IC :=
(.seq
 (.reg 0 [⟨(some 1), none, (.boxt (.t 0))⟩, ⟨(some 2), none, (.q (.mov (.c (.int .i64 0))))⟩] [1, 2])
 (.seq
  (.reg 1 [⟨(some 3), none, (.alloc [(.int .i64 0)])⟩, ⟨none, none, (.store 1 (.t 3) (.c (.int .i64 0)))⟩] [1, 2, 3])
  (.seq
   (.seq
    (.reg 2 [⟨(some 4), none, (.q (.load (some 7) (.t 1)))⟩, ⟨(some 5), none, (.call 148 [(.t 4)])⟩] [2, 3, 5])
    (.block 0
     (.rfunc (.t 5) [6, 7]
      .skip
      (.block 1
       (.reg 3 [⟨(some 8), none, (.q (.load none (.t 3)))⟩, ⟨(some 9), none, (.q (.bin .add (.t 8) (.c (.int .i64 1))))⟩, ⟨none, none, (.store 1 (.t 3) (.t 9))⟩] [])))))
   (.seq
    (.reg 4 [⟨(some 10), none, (.q (.load none (.t 3)))⟩, ⟨(some 2), none, (.q (.mov (.t 10)))⟩] [2])
    .ret))))
theorem fok146 : FOK Tryz.prog 146 (11, ic146, [(.t 2)]) := .mk (pf := [1000001]) (an := [(0, [1, 2]), (1, [1, 2, 3]), (2, [2, 3, 5]), (4, [2])]) (by kernel_rfl) (fnOK_of Tryz.func146 (by kernel_rfl) (by kernel_rfl) (by kernel_rfl))
/-- chandlery/shape.Depth -/
def ic147 : IC :=
(.seq
 (.reg 0 [⟨(some 1), none, (.boxt (.t 0))⟩, ⟨(some 2), none, (.q (.mov (.c (.int .i64 0))))⟩] [1])
 (.seq
  (.seq
   (.reg 1 [⟨(some 6), none, (.q (.faddr 0 (.t 1)))⟩, ⟨(some 7), none, (.q (.load none (.t 6)))⟩, ⟨(some 8), none, (.q (.bin .eql (.t 7) (.c (.int .u8 1))))⟩] [1, 8])
   (.cond (.t 8)
    (.seq
     (.reg 2 [⟨(some 2), none, (.q (.mov (.c (.int .i64 0))))⟩] [2])
     .ret)
    .skip))
  (.seq
   (.reg 3 [⟨(some 3), none, (.q (.mov (.c (.int .i64 0))))⟩] [1, 3])
   (.seq
    (.seq
     (.reg 4 [⟨(some 9), none, (.q (.faddr 6 (.t 1)))⟩, ⟨(some 10), none, (.q (.load none (.t 9)))⟩, ⟨(some 11), none, (.q (.len 0 (.t 10)))⟩, ⟨(some 12), none, (.q (.mov (.c (.int .i64 0))))⟩] [3, 10, 11, 12])
     (.block 0
      (.loop
       (.seq
        (.reg 5 [⟨(some 13), none, (.q (.bin .lss (.t 12) (.t 11)))⟩] [3, 10, 11, 12, 13])
        (.seq
         (.cond (.t 13)
          .skip
          (.exit 0))
         (.seq
          (.block 1
           (.seq
            (.reg 6 [⟨(some 14), none, (.q (.iaddr 7 (.t 10) (.t 12)))⟩, ⟨(some 15), none, (.q (.load (some 7) (.t 14)))⟩, ⟨(some 5), none, (.alloc [(.int .u8 0), (.str []), (.int .u8 0), (.int .i64 0), (.str []), (.str []), .nilslice])⟩, ⟨none, none, (.store 7 (.t 5) (.t 15))⟩] [3, 5, 10, 11, 12])
            (.reg 7 [⟨(some 16), none, (.q (.mov (.t 3)))⟩, ⟨(some 17), none, (.q (.load (some 7) (.t 5)))⟩, ⟨(some 18), none, (.call 147 [(.t 17)])⟩, ⟨(some 19), none, (.q (.mm true (.t 16) (.t 18)))⟩, ⟨(some 3), none, (.q (.mov (.t 19)))⟩] [3, 10, 11, 12])))
          (.reg 8 [⟨(some 20), none, (.q (.bin .add (.t 12) (.c (.int .i64 1))))⟩, ⟨(some 12), none, (.q (.mov (.t 20)))⟩] [3, 10, 11, 12])))))))
    (.seq
     (.reg 9 [⟨(some 21), none, (.q (.mov (.t 3)))⟩, ⟨(some 22), none, (.q (.bin .add (.t 21) (.c (.int .i64 1))))⟩, ⟨(some 2), none, (.q (.mov (.t 22)))⟩] [2])
     .ret)))))
theorem fok147 : FOK Tryz.prog 147 (23, ic147, [(.t 2)]) := .mk (pf := [1000001]) (an := [(0, [1]), (1, [1, 8]), (2, [2]), (3, [1, 3]), (4, [3, 10, 11, 12]), (5, [3, 10, 11, 12, 13]), (6, [3, 5, 10, 11, 12]), (7, [3, 10, 11, 12]), (8, [3, 10, 11, 12]), (9, [2])]) (by kernel_rfl) (fnOK_of Tryz.func147 (by kernel_rfl) (by kernel_rfl) (by kernel_rfl))
/-- chandlery/shape.parts -/
def ic148 : IC :=
(.seq
 (.reg 0 [⟨(some 1), none, (.boxt (.t 0))⟩, ⟨(some 2), none, (.q (.mov (.c .nilfunc)))⟩] [1])
 (.seq
  (.reg 1 [⟨(some 3), none, (.alloc [.nilfunc])⟩] [1, 3])
  (.seq
   (.reg 2 [⟨(some 4), none, (.q (.mkf 182 [] [(.t 3)]))⟩, ⟨none, none, (.store 1 (.t 3) (.t 4))⟩] [1, 3])
   (.seq
    (.reg 3 [⟨(some 5), none, (.q (.mkf 183 [] [(.t 3), (.t 1)]))⟩, ⟨(some 2), none, (.q (.mov (.t 5)))⟩] [2])
    .ret))))
theorem fok148 : FOK Tryz.prog 148 (6, ic148, [(.t 2)]) := .mk (pf := [1000001]) (an := [(0, [1]), (1, [1, 3]), (2, [1, 3]), (3, [2])]) (by kernel_rfl) (fnOK_of Tryz.func148 (by kernel_rfl) (by kernel_rfl) (by kernel_rfl))
/-- chandlery/shape.of -/
def ic149 : IC :=
(.seq
 (.reg 0 [⟨(some 2), none, (.alloc [(.int .i64 0), (.int .i64 0), (.bool false), (.int .u8 0)])⟩] [0, 2])
 (.seq
  (.reg 1 [⟨(some 4), none, (.q (.bld [(.int .i64 0), (.int .i64 0), (.bool false), (.int .u8 0)] [⟨0, ⟨1, (.c (.int .i64 0))⟩⟩, ⟨1, ⟨1, (.c (.int .i64 0))⟩⟩, ⟨2, ⟨1, (.c (.bool true))⟩⟩, ⟨3, ⟨1, (.c (.int .u8 3))⟩⟩]))⟩, ⟨(some 5), none, (.q (.bld [(.int .i64 0), (.int .i64 0), (.bool false), (.int .u8 0)] [⟨0, ⟨1, (.c (.int .i64 2))⟩⟩, ⟨1, ⟨1, (.c (.int .i64 24))⟩⟩, ⟨2, ⟨1, (.c (.bool true))⟩⟩, ⟨3, ⟨1, (.c (.int .u8 3))⟩⟩]))⟩, ⟨(some 6), none, (.q (.bld [(.int .i64 0), (.int .i64 0), (.bool false), (.int .u8 0)] [⟨0, ⟨1, (.c (.int .i64 2))⟩⟩, ⟨1, ⟨1, (.c (.int .i64 24))⟩⟩, ⟨2, ⟨1, (.c (.bool true))⟩⟩, ⟨3, ⟨1, (.c (.int .u8 3))⟩⟩]))⟩, ⟨(some 7), none, (.q (.bld [(.int .i64 0), (.int .i64 0), (.bool false), (.int .u8 0)] [⟨0, ⟨1, (.c (.int .i64 2))⟩⟩, ⟨1, ⟨1, (.c (.int .i64 3))⟩⟩, ⟨2, ⟨1, (.c (.bool false))⟩⟩, ⟨3, ⟨1, (.c (.int .u8 1))⟩⟩]))⟩, ⟨(some 8), none, (.q (.bld [(.int .i64 0), (.int .i64 0), (.bool false), (.int .u8 0)] [⟨0, ⟨1, (.c (.int .i64 2))⟩⟩, ⟨1, ⟨1, (.c (.int .i64 3))⟩⟩, ⟨2, ⟨1, (.c (.bool false))⟩⟩, ⟨3, ⟨1, (.c (.int .u8 2))⟩⟩]))⟩, ⟨(some 9), none, (.q (.bld [(.int .i64 0), (.int .i64 0), (.bool false), (.int .u8 0)] [⟨0, ⟨1, (.c (.int .i64 2))⟩⟩, ⟨1, ⟨1, (.c (.int .i64 24))⟩⟩, ⟨2, ⟨1, (.c (.bool true))⟩⟩, ⟨3, ⟨1, (.c (.int .u8 3))⟩⟩]))⟩, ⟨(some 10), none, (.q (.bld [(.int .i64 0), (.int .i64 0), (.bool false), (.int .u8 0)] [⟨0, ⟨1, (.c (.int .i64 2))⟩⟩, ⟨1, ⟨1, (.c (.int .i64 2))⟩⟩, ⟨2, ⟨1, (.c (.bool true))⟩⟩, ⟨3, ⟨1, (.c (.int .u8 3))⟩⟩]))⟩, ⟨(some 11), none, (.q (.bld [(.int .i64 0), (.int .i64 0), (.bool false), (.int .u8 0), (.int .i64 0), (.int .i64 0), (.bool false), (.int .u8 0), (.int .i64 0), (.int .i64 0), (.bool false), (.int .u8 0), (.int .i64 0), (.int .i64 0), (.bool false), (.int .u8 0), (.int .i64 0), (.int .i64 0), (.bool false), (.int .u8 0), (.int .i64 0), (.int .i64 0), (.bool false), (.int .u8 0), (.int .i64 0), (.int .i64 0), (.bool false), (.int .u8 0), (.int .i64 0), (.int .i64 0), (.bool false), (.int .u8 0)] [⟨4, ⟨4, (.t 4)⟩⟩, ⟨8, ⟨4, (.t 5)⟩⟩, ⟨12, ⟨4, (.t 6)⟩⟩, ⟨16, ⟨4, (.t 7)⟩⟩, ⟨20, ⟨4, (.t 8)⟩⟩, ⟨24, ⟨4, (.t 9)⟩⟩, ⟨28, ⟨4, (.t 10)⟩⟩]))⟩, ⟨(some 3), none, (.alloc [(.int .i64 0), (.int .i64 0), (.bool false), (.int .u8 0), (.int .i64 0), (.int .i64 0), (.bool false), (.int .u8 0), (.int .i64 0), (.int .i64 0), (.bool false), (.int .u8 0), (.int .i64 0), (.int .i64 0), (.bool false), (.int .u8 0), (.int .i64 0), (.int .i64 0), (.bool false), (.int .u8 0), (.int .i64 0), (.int .i64 0), (.bool false), (.int .u8 0), (.int .i64 0), (.int .i64 0), (.bool false), (.int .u8 0), (.int .i64 0), (.int .i64 0), (.bool false), (.int .u8 0)])⟩, ⟨none, none, (.store 32 (.t 3) (.t 11))⟩] [0, 2, 3])
  (.seq
   (.seq
    (.reg 2 [⟨(some 12), none, (.q (.mov (.t 0)))⟩, ⟨(some 13), none, (.q (.conv .i64 (.t 12)))⟩, ⟨(some 14), none, (.q (.bin .geq (.t 13) (.c (.int .i64 8))))⟩] [0, 2, 3, 14])
    (.cond (.t 14)
     (.seq
      (.reg 3 [⟨(some 15), none, (.q (.bld [(.int .i64 0), (.int .i64 0), (.bool false), (.int .u8 0)] []))⟩, ⟨none, none, (.store 4 (.t 2) (.t 15))⟩] [2])
      .ret)
     .skip))
   (.seq
    (.reg 4 [⟨(some 16), none, (.q (.mov (.t 0)))⟩, ⟨(some 17), none, (.q (.aaddr 8 4 (.t 3) (.t 16)))⟩, ⟨(some 18), none, (.q (.load (some 4) (.t 17)))⟩, ⟨none, none, (.store 4 (.t 2) (.t 18))⟩] [2])
    .ret))))
theorem fok149 : FOK Tryz.prog 149 (19, ic149, [(.cell (some 4) 2)]) := .mk (pf := []) (an := [(0, [0, 2]), (1, [0, 2, 3]), (2, [0, 2, 3, 14]), (3, [2]), (4, [2])]) (by kernel_rfl) (fnOK_of Tryz.func149 (by kernel_rfl) (by kernel_rfl) (by kernel_rfl))
end Go.Id.Tryz
