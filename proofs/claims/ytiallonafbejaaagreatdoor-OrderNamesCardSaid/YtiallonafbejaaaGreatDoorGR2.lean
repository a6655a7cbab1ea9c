/- The compiled codes of functions, written by a program out of the given form. Conditions: none. -/
import Derived.Test.YtiallonafbejaaaGreatDoorFwW
import Derived.Test.YtiallonafbejaaaGreatDoorProg
set_option linter.all false
namespace Go.Id.Tryz
open Go Go.Id Go.Proofs
def allF2 : List Nat := List.range 357
def ic135 : IC :=
(.seq
 (.reg 0 [⟨(some 1), none, (.boxt (.t 0))⟩, ⟨(some 2), none, (.alloc [(.bool false)])⟩] [1, 2])
 (.seq
  (.block 0
   (.seq
    (.reg 1 [⟨(some 8), none, (.q (.faddr 0 (.t 1)))⟩, ⟨(some 9), none, (.q (.load none (.t 8)))⟩, ⟨(some 10), none, (.call 204 [(.t 9)])⟩, ⟨(some 11), none, (.q (.not (.t 10)))⟩, ⟨(some 12), none, (.q (.mov (.t 11)))⟩, ⟨(some 13), (some ⟨12, false⟩), (.q (.faddr 0 (.t 1)))⟩, ⟨(some 14), (some ⟨12, false⟩), (.q (.load none (.t 13)))⟩, ⟨(some 15), (some ⟨12, false⟩), (.call 205 [(.t 14)])⟩, ⟨(some 16), none, (.q (.pick (.t 12) (.c (.bool true)) (.t 15)))⟩, ⟨(some 17), none, (.q (.mov (.t 16)))⟩, ⟨(some 18), (some ⟨17, false⟩), (.q (.faddr 1 (.t 1)))⟩, ⟨(some 19), (some ⟨17, false⟩), (.q (.load (some 3) (.t 18)))⟩, ⟨(some 20), (some ⟨17, false⟩), (.call 206 [(.t 19), (.c (.bool false))])⟩, ⟨(some 21), (some ⟨17, false⟩), (.q (.not (.t 20)))⟩, ⟨(some 22), none, (.q (.pick (.t 17) (.c (.bool true)) (.t 21)))⟩, ⟨(some 7), none, (.q (.mov (.t 22)))⟩] [1, 2, 7])
    (.cond (.t 7)
     (.seq
      (.reg 2 [⟨none, none, (.store 1 (.t 2) (.c (.bool false)))⟩] [2])
      .ret)
     (.seq
      (.reg 3 [⟨(some 24), none, (.q (.faddr 4 (.t 1)))⟩, ⟨(some 25), none, (.q (.load none (.t 24)))⟩, ⟨(some 26), none, (.call 207 [(.t 25)])⟩, ⟨(some 27), none, (.q (.bin .eql (.t 26) (.c (.str []))))⟩, ⟨(some 28), none, (.q (.mov (.t 27)))⟩, ⟨(some 29), (some ⟨28, false⟩), (.q (.faddr 5 (.t 1)))⟩, ⟨(some 30), (some ⟨28, false⟩), (.q (.load none (.t 29)))⟩, ⟨(some 31), (some ⟨28, false⟩), (.q (.len 1 (.t 30)))⟩, ⟨(some 32), (some ⟨28, false⟩), (.q (.bin .gtr (.t 31) (.c (.int .i64 64))))⟩, ⟨(some 33), none, (.q (.pick (.t 28) (.c (.bool true)) (.t 32)))⟩, ⟨(some 23), none, (.q (.mov (.t 33)))⟩] [1, 2, 23])
      (.cond (.t 23)
       (.seq
        (.reg 4 [⟨none, none, (.store 1 (.t 2) (.c (.bool false)))⟩] [2])
        .ret)
       (.seq
        (.reg 5 [⟨(some 35), none, (.q (.faddr 6 (.t 1)))⟩, ⟨(some 36), none, (.q (.load none (.t 35)))⟩, ⟨(some 37), none, (.call 208 [(.t 36), (.c (.int .i64 32)), (.f 157)])⟩, ⟨(some 38), none, (.q (.not (.t 37)))⟩, ⟨(some 39), none, (.q (.mov (.t 38)))⟩, ⟨(some 40), (some ⟨39, false⟩), (.q (.faddr 9 (.t 1)))⟩, ⟨(some 41), (some ⟨39, false⟩), (.q (.load none (.t 40)))⟩, ⟨(some 42), (some ⟨39, false⟩), (.call 208 [(.t 41), (.c (.int .i64 32)), (.f 157)])⟩, ⟨(some 43), (some ⟨39, false⟩), (.q (.not (.t 42)))⟩, ⟨(some 44), none, (.q (.pick (.t 39) (.c (.bool true)) (.t 43)))⟩, ⟨(some 45), none, (.q (.mov (.t 44)))⟩, ⟨(some 46), (some ⟨45, false⟩), (.q (.faddr 14 (.t 1)))⟩, ⟨(some 47), (some ⟨45, false⟩), (.q (.load none (.t 46)))⟩, ⟨(some 48), (some ⟨45, false⟩), (.call 209 [(.t 47), (.c (.int .i64 32)), (.f 205)])⟩, ⟨(some 49), (some ⟨45, false⟩), (.q (.not (.t 48)))⟩, ⟨(some 50), none, (.q (.pick (.t 45) (.c (.bool true)) (.t 49)))⟩, ⟨(some 34), none, (.q (.mov (.t 50)))⟩] [1, 2, 34])
        (.cond (.t 34)
         (.seq
          (.reg 6 [⟨none, none, (.store 1 (.t 2) (.c (.bool false)))⟩] [2])
          .ret)
         .skip)))))))
  (.seq
   (.seq
    (.reg 7 [⟨(some 51), none, (.q (.faddr 14 (.t 1)))⟩, ⟨(some 52), none, (.q (.load none (.t 51)))⟩, ⟨(some 53), none, (.q (.len 0 (.t 52)))⟩, ⟨(some 54), none, (.q (.mov (.c (.int .i64 0))))⟩] [1, 2, 52, 53, 54])
    (.block 1
     (.loop
      (.seq
       (.reg 8 [⟨(some 55), none, (.q (.bin .lss (.t 54) (.t 53)))⟩] [1, 2, 52, 53, 54, 55])
       (.seq
        (.cond (.t 55)
         .skip
         (.exit 1))
        (.seq
         (.block 2
          (.seq
           (.reg 9 [⟨(some 56), none, (.q (.mov (.t 54)))⟩, ⟨(some 57), none, (.q (.iaddr 1 (.t 52) (.t 54)))⟩, ⟨(some 58), none, (.q (.load none (.t 57)))⟩, ⟨(some 3), none, (.q (.mov (.t 56)))⟩, ⟨(some 4), none, (.q (.mov (.t 58)))⟩] [1, 2, 3, 4, 52, 53, 54])
           (.seq
            (.reg 10 [⟨(some 59), none, (.q (.mov (.t 3)))⟩, ⟨(some 60), none, (.q (.bin .gtr (.t 59) (.c (.int .i64 0))))⟩, ⟨(some 61), none, (.q (.mov (.t 60)))⟩, ⟨(some 62), (some ⟨61, true⟩), (.q (.faddr 14 (.t 1)))⟩, ⟨(some 63), (some ⟨61, true⟩), (.q (.load none (.t 62)))⟩, ⟨(some 64), (some ⟨61, true⟩), (.q (.mov (.t 3)))⟩, ⟨(some 65), (some ⟨61, true⟩), (.q (.bin .sub (.t 64) (.c (.int .i64 1))))⟩, ⟨(some 66), (some ⟨61, true⟩), (.q (.iaddr 1 (.t 63) (.t 65)))⟩, ⟨(some 67), (some ⟨61, true⟩), (.q (.load none (.t 66)))⟩, ⟨(some 68), (some ⟨61, true⟩), (.q (.mov (.t 4)))⟩, ⟨(some 69), (some ⟨61, true⟩), (.q (.bin .geq (.t 67) (.t 68)))⟩, ⟨(some 70), none, (.q (.pick (.t 61) (.t 69) (.c (.bool false))))⟩] [1, 2, 52, 53, 54, 70])
            (.cond (.t 70)
            (.seq
            (.reg 11 [⟨none, none, (.store 1 (.t 2) (.c (.bool false)))⟩] [2])
            .ret)
            .skip))))
         (.reg 12 [⟨(some 71), none, (.q (.bin .add (.t 54) (.c (.int .i64 1))))⟩, ⟨(some 54), none, (.q (.mov (.t 71)))⟩] [1, 2, 52, 53, 54])))))))
   (.seq
    (.seq
     (.reg 13 [⟨(some 72), none, (.q (.load (some 15) (.t 1)))⟩, ⟨(some 73), none, (.call 210 [(.t 72)])⟩] [2, 73])
     (.block 3
      (.rfunc (.t 73) [74, 75]
       (.seq
        (.reg 14 [⟨(some 5), none, (.alloc [(.int .u8 0)])⟩, ⟨none, none, (.store 1 (.t 5) (.t 74))⟩] [2, 5, 75])
        (.reg 15 [⟨(some 6), none, (.q (.mov (.t 75)))⟩] [2, 5, 6]))
       (.block 4
        (.seq
         (.reg 16 [⟨(some 76), none, (.q (.mov (.t 6)))⟩, ⟨(some 77), none, (.q (.mkf 212 [] [(.t 5)]))⟩, ⟨(some 78), none, (.call 211 [(.t 76), (.c (.int .i64 32)), (.t 77)])⟩, ⟨(some 79), none, (.q (.not (.t 78)))⟩] [2, 79])
         (.cond (.t 79)
          (.seq
           (.reg 17 [⟨none, none, (.store 1 (.t 2) (.c (.bool false)))⟩] [])
           .ret)
          .skip))))))
    (.seq
     (.reg 18 [⟨none, none, (.store 1 (.t 2) (.c (.bool true)))⟩] [2])
     .ret)))))
theorem fok135 : FOK Tryz.prog 135 (80, ic135, [(.cell none 2)]) := .mk (pf := [1000001]) (an := [(0, [1, 2]), (1, [1, 2, 7]), (2, [2]), (3, [1, 2, 23]), (4, [2]), (5, [1, 2, 34]), (6, [2]), (7, [1, 2, 52, 53, 54]), (8, [1, 2, 52, 53, 54, 55]), (9, [1, 2, 3, 4, 52, 53, 54]), (10, [1, 2, 52, 53, 54, 70]), (11, [2]), (12, [1, 2, 52, 53, 54]), (13, [2, 73]), (14, [2, 5, 75]), (15, [2, 5, 6]), (16, [2, 79]), (18, [2])]) (by kernel_rfl) (fnOK_of Tryz.func135 (by kernel_rfl) (by kernel_rfl) (by kernel_rfl))
def ic139 : IC :=
(.seq
 (.reg 0 [⟨(some 2), none, (.q (.mov (.c .nilslice)))⟩] [0])
 (.seq
  (.seq
   (.reg 1 [⟨(some 3), none, (.q (.mov (.t 0)))⟩, ⟨(some 4), none, (.q (.isnil (.slice 51) false (.t 3)))⟩] [0, 4])
   (.cond (.t 4)
    (.seq
     (.reg 2 [⟨(some 2), none, (.q (.mov (.c .nilslice)))⟩] [2])
     .ret)
    .skip))
  (.seq
   (.reg 3 [⟨(some 5), none, (.bsl 5 0 [(.str []), (.int .u8 0), (.int .i64 0), (.str []), (.str [])] [])⟩, ⟨(some 6), none, (.q (.mov (.t 0)))⟩, ⟨(some 7), none, (.app 5 (.t 5) (.t 6))⟩, ⟨(some 2), none, (.q (.mov (.t 7)))⟩] [2])
   .ret)))
theorem fok139 : FOK Tryz.prog 139 (8, ic139, [(.t 2)]) := .mk (pf := []) (an := [(0, [0]), (1, [0, 4]), (2, [2]), (3, [2])]) (by kernel_rfl) (fnOK_of Tryz.func139 (by kernel_rfl) (by kernel_rfl) (by kernel_rfl))
def ic140 : IC :=
(.seq
 (.reg 0 [⟨(some 2), none, (.q (.mov (.c .nilslice)))⟩] [0])
 (.seq
  (.seq
   (.reg 1 [⟨(some 3), none, (.q (.mov (.t 0)))⟩, ⟨(some 4), none, (.q (.isnil (.slice 9) false (.t 3)))⟩] [0, 4])
   (.cond (.t 4)
    (.seq
     (.reg 2 [⟨(some 2), none, (.q (.mov (.c .nilslice)))⟩] [2])
     .ret)
    .skip))
  (.seq
   (.reg 3 [⟨(some 5), none, (.bsl 1 0 [(.str [])] [])⟩, ⟨(some 6), none, (.q (.mov (.t 0)))⟩, ⟨(some 7), none, (.app 1 (.t 5) (.t 6))⟩, ⟨(some 2), none, (.q (.mov (.t 7)))⟩] [2])
   .ret)))
theorem fok140 : FOK Tryz.prog 140 (8, ic140, [(.t 2)]) := .mk (pf := []) (an := [(0, [0]), (1, [0, 4]), (2, [2]), (3, [2])]) (by kernel_rfl) (fnOK_of Tryz.func140 (by kernel_rfl) (by kernel_rfl) (by kernel_rfl))
def ic141 : IC :=
(.seq
 (.reg 0 [⟨(some 2), none, (.q (.mov (.c .nilslice)))⟩] [0])
 (.seq
  (.seq
   (.reg 1 [⟨(some 3), none, (.q (.mov (.t 0)))⟩, ⟨(some 4), none, (.q (.isnil (.slice 89) false (.t 3)))⟩] [0, 4])
   (.cond (.t 4)
    (.seq
     (.reg 2 [⟨(some 2), none, (.q (.mov (.c .nilslice)))⟩] [2])
     .ret)
    .skip))
  (.seq
   (.reg 3 [⟨(some 5), none, (.bsl 7 0 [(.int .u8 0), (.str []), (.int .u8 0), (.int .i64 0), (.str []), (.str []), .nilslice] [])⟩, ⟨(some 6), none, (.q (.mov (.t 0)))⟩, ⟨(some 7), none, (.app 7 (.t 5) (.t 6))⟩, ⟨(some 2), none, (.q (.mov (.t 7)))⟩] [2])
   .ret)))
theorem fok141 : FOK Tryz.prog 141 (8, ic141, [(.t 2)]) := .mk (pf := []) (an := [(0, [0]), (1, [0, 4]), (2, [2]), (3, [2])]) (by kernel_rfl) (fnOK_of Tryz.func141 (by kernel_rfl) (by kernel_rfl) (by kernel_rfl))
def ic142 : IC :=
(.seq
 (.reg 0 [⟨(some 1), none, (.boxt (.t 0))⟩, ⟨(some 2), none, (.alloc [(.int .u8 0), (.str []), (.int .u8 0), (.int .i64 0), (.str []), (.str []), .nilslice])⟩] [1, 2])
 (.seq
  (.reg 1 [⟨(some 6), none, (.q (.faddr 0 (.t 1)))⟩, ⟨(some 7), none, (.q (.load none (.t 6)))⟩, ⟨(some 8), none, (.q (.faddr 1 (.t 1)))⟩, ⟨(some 9), none, (.q (.load (some 5) (.t 8)))⟩, ⟨(some 10), none, (.q (.bld [(.int .u8 0), (.str []), (.int .u8 0), (.int .i64 0), (.str []), (.str []), .nilslice] [⟨0, ⟨1, (.t 7)⟩⟩, ⟨1, ⟨5, (.t 9)⟩⟩]))⟩, ⟨(some 3), none, (.alloc [(.int .u8 0), (.str []), (.int .u8 0), (.int .i64 0), (.str []), (.str []), .nilslice])⟩, ⟨none, none, (.store 7 (.t 3) (.t 10))⟩] [1, 2, 3])
  (.seq
   (.seq
    (.reg 2 [⟨(some 11), none, (.q (.faddr 6 (.t 1)))⟩, ⟨(some 12), none, (.q (.load none (.t 11)))⟩, ⟨(some 13), none, (.q (.len 0 (.t 12)))⟩, ⟨(some 14), none, (.q (.mov (.c (.int .i64 0))))⟩] [2, 3, 12, 13, 14])
    (.block 0
     (.loop
      (.seq
       (.reg 3 [⟨(some 15), none, (.q (.bin .lss (.t 14) (.t 13)))⟩] [2, 3, 12, 13, 14, 15])
       (.seq
        (.cond (.t 15)
         .skip
         (.exit 0))
        (.seq
         (.block 1
          (.seq
           (.reg 4 [⟨(some 16), none, (.q (.iaddr 7 (.t 12) (.t 14)))⟩, ⟨(some 17), none, (.q (.load (some 7) (.t 16)))⟩, ⟨(some 5), none, (.alloc [(.int .u8 0), (.str []), (.int .u8 0), (.int .i64 0), (.str []), (.str []), .nilslice])⟩, ⟨none, none, (.store 7 (.t 5) (.t 17))⟩] [2, 3, 5, 12, 13, 14])
           (.dreg 5 [⟨(some 18), none, (.q (.faddr 6 (.t 3)))⟩, ⟨(some 19), none, (.q (.load none (.t 18)))⟩, ⟨(some 20), none, (.q (.load (some 7) (.t 5)))⟩, ⟨(some 21), none, (.pcall 142 [(.t 20)])⟩, ⟨(some 22), none, (.bslt 7 1 [(.int .u8 0), (.str []), (.int .u8 0), (.int .i64 0), (.str []), (.str []), .nilslice] [⟨0, ⟨7, (.t 21)⟩⟩])⟩, ⟨(some 23), none, (.app 7 (.t 19) (.t 22))⟩, ⟨(some 24), none, (.q (.faddr 6 (.t 3)))⟩, ⟨none, none, (.store 1 (.t 24) (.t 23))⟩] true [2, 3, 12, 13, 14])))
         (.reg 6 [⟨(some 25), none, (.q (.bin .add (.t 14) (.c (.int .i64 1))))⟩, ⟨(some 14), none, (.q (.mov (.t 25)))⟩] [2, 3, 12, 13, 14])))))))
   (.seq
    (.reg 7 [⟨(some 26), none, (.q (.load (some 7) (.t 3)))⟩, ⟨none, none, (.store 7 (.t 2) (.t 26))⟩] [2])
    .ret))))
theorem fok142 : FOK Tryz.prog 142 (27, ic142, [(.cell (some 7) 2)]) := .mk (pf := ([1000001, 1000022] ++ allF2)) (an := [(0, [1, 2]), (1, [1, 2, 3]), (2, [2, 3, 12, 13, 14]), (3, [2, 3, 12, 13, 14, 15]), (4, [2, 3, 5, 12, 13, 14]), (5, [2, 3, 12, 13, 14]), (6, [2, 3, 12, 13, 14]), (7, [2])]) (by kernel_rfl) (fnOK_of Tryz.func142 (by kernel_rfl) (by kernel_rfl) (by kernel_rfl))
def ic143 : IC :=
(.seq
 (.reg 0 [⟨(some 4), none, (.q (.mov (.c (.int .i64 0))))⟩] [0, 1])
 (.seq
  (.seq
   (.reg 1 [⟨(some 6), none, (.q (.mov (.t 0)))⟩, ⟨(some 7), none, (.q (.len 0 (.t 6)))⟩, ⟨(some 8), none, (.q (.mov (.c (.int .i64 0))))⟩] [0, 1, 7, 8])
   (.block 0
    (.loop
     (.seq
      (.reg 2 [⟨(some 9), none, (.q (.bin .lss (.t 8) (.t 7)))⟩] [0, 1, 7, 8, 9])
      (.seq
       (.cond (.t 9)
        .skip
        (.exit 0))
       (.seq
        (.block 1
         (.seq
          (.reg 3 [⟨(some 10), none, (.q (.mov (.t 8)))⟩, ⟨(some 5), none, (.q (.mov (.t 10)))⟩] [0, 1, 5, 7, 8])
          (.seq
           (.reg 4 [⟨(some 11), none, (.q (.mov (.t 1)))⟩, ⟨(some 12), none, (.q (.mov (.t 0)))⟩, ⟨(some 13), none, (.q (.mov (.t 5)))⟩, ⟨(some 14), none, (.q (.iaddr 5 (.t 12) (.t 13)))⟩, ⟨(some 15), none, (.q (.load (some 5) (.t 14)))⟩, ⟨(some 16), none, (.callv (.t 11) [(.t 15)])⟩] [0, 1, 5, 7, 8, 16])
           (.cond (.t 16)
            (.seq
            (.reg 5 [⟨(some 17), none, (.q (.mov (.t 5)))⟩, ⟨(some 4), none, (.q (.mov (.t 17)))⟩] [4])
            .ret)
            .skip))))
        (.reg 6 [⟨(some 18), none, (.q (.bin .add (.t 8) (.c (.int .i64 1))))⟩, ⟨(some 8), none, (.q (.mov (.t 18)))⟩] [0, 1, 7, 8])))))))
  (.seq
   (.reg 7 [⟨(some 4), none, (.q (.mov (.c (.int .i64 (-1)))))⟩] [4])
   .ret)))
theorem fok143 : FOK Tryz.prog 143 (19, ic143, [(.t 4)]) := .mk (pf := []) (an := [(0, [0, 1]), (1, [0, 1, 7, 8]), (2, [0, 1, 7, 8, 9]), (3, [0, 1, 5, 7, 8]), (4, [0, 1, 5, 7, 8, 16]), (5, [4]), (6, [0, 1, 7, 8]), (7, [4])]) (by kernel_rfl) (fnOK_of Tryz.func143 (by kernel_rfl) (by kernel_rfl) (by kernel_rfl))
def ic148 : IC :=
 (.seq
 (.reg 0 [oM 8 (cB true)] [0, 1, 2, 3, 8])
 (.seq
 (.reg 1 [oM 9 (cB true)] [0, 1, 2, 3, 8, 9])
 (.block 0
 (.loop
 (.block 1
 (.seq
 (.reg 2 [oM 19 2, oM 20 1, oQ 21 (.bin .sub 19 20), oM 10 21] [0, 1, 2, 3, 8, 9, 10])
 (.seq
 (.seq
 (.reg 3 [oM 22 10, oQ 23 (.bin .leq 22 (cI 12))] [0, 1, 2, 3, 8, 9, 10, 23])
 (.cond 23
 (.seq
 (.reg 4 [oM 24 0, oM 25 1, oM 26 2, oK 27 (.call 217 [24, 25, 26])] [])
 .ret)
 .skip))
 (.seq
 (.seq
 (.reg 5 [oM 28 3, oQ 29 (.bin .eql 28 (cI 0))] [0, 1, 2, 3, 8, 9, 10, 29])
 (.cond 29
 (.seq
 (.reg 6 [oM 30 0, oM 31 1, oM 32 2, oK 33 (.call 218 [30, 31, 32])] [])
 .ret)
 .skip))
 (.seq
 (.seq
 (.reg 7 [oM 34 8, oQ 35 (.not 34)] [0, 1, 2, 3, 8, 9, 10, 35])
 (.cond 35
 (.seq
 (.reg 8 [oM 36 0, oM 37 1, oM 38 2, oK 39 (.call 219 [36, 37, 38])] [0, 1, 2, 3, 8, 9, 10])
 (.reg 9 [oM 40 3, oQ 41 (.bin .sub 40 (cI 1)), oM 3 41] [0, 1, 2, 3, 8, 9, 10]))
 .skip))
 (.seq
 (.reg 10 [oM 43 0, oM 44 1, oM 45 2, oK 46 (.call 220 [43, 44, 45]), oM 42 46, oQ 47 (.ext 0 42), oQ 48 (.ext 1 42), oM 11 47, oM 12 48] [0, 1, 2, 3, 8, 9, 10, 11, 12])
 (.seq
 (.seq
 (.reg 11 [oM 49 12, oQ 50 (.bin .eql 49 (cI 2))] [0, 1, 2, 3, 8, 9, 10, 11, 12, 50])
 (.cond 50
 (.seq
 (.reg 12 [oM 51 0, oM 52 1, oM 53 2, oK 54 (.call 221 [51, 52, 53])] [0, 1, 2, 3, 8, 9, 10, 11])
 (.seq
 (.reg 13 [oM 55 2, oQ 56 (.bin .sub 55 (cI 1)), oM 57 11, oM 58 1, oQ 59 (.bin .sub 57 58), oQ 60 (.bin .sub 56 59), oM 11 60] [0, 1, 2, 3, 8, 9, 10, 11])
 (.reg 14 [oM 12 (cI 1)] [0, 1, 2, 3, 8, 9, 10, 11, 12])))
 .skip))
 (.seq
 (.seq
 (.reg 15 [oM 61 8, oM 62 61, gQ 63 62 true (.mov 9), oQ 64 (.pick 62 63 (cB false)), oM 65 64, gQ 66 65 true (.mov 12), gQ 67 65 true (.bin .eql 66 (cI 1)), oQ 68 (.pick 65 67 (cB false))] [0, 1, 2, 3, 8, 9, 10, 11, 68])
 (.cond 68
 (.seq
 (.reg 16 [oM 69 0, oM 70 1, oM 71 2, oK 72 (.call 222 [69, 70, 71])] [0, 1, 2, 3, 8, 9, 10, 11, 72])
 (.cond 72
 .ret
 .skip))
 .skip))
 (.seq
 (.seq
 (.dreg 17 [oM 73 1, oQ 74 (.bin .gtr 73 (cI 0)), oM 75 74, gQ 76 75 true (.mov 0), gQ 77 75 true (.mov 1), gQ 78 75 true (.bin .sub 77 (cI 1)), gQ 79 75 true (.iaddr 1 76 78), gQ 80 75 true (.load none 79), gQ 81 75 true (.mov 0), gQ 82 75 true (.mov 11), gQ 83 75 true (.iaddr 1 81 82), gQ 84 75 true (.load none 83), gK 85 75 true (.call 223 [80, 84]), gQ 86 75 true (.not 85), oQ 87 (.pick 75 86 (cB false))] false [0, 1, 2, 3, 8, 9, 10, 11, 87])
 (.cond 87
 (.seq
 (.reg 18 [oM 88 0, oM 89 1, oM 90 2, oM 91 11, oK 92 (.call 224 [88, 89, 90, 91]), oM 13 92] [0, 2, 3, 8, 9, 13])
 (.seq
 (.reg 19 [oM 93 13, oM 1 93] [0, 1, 2, 3, 8, 9])
 (.exit 1)))
 .skip))
 (.seq
 (.reg 20 [oM 95 0, oM 96 1, oM 97 2, oM 98 11, oK 99 (.call 225 [95, 96, 97, 98]), oM 94 99, oQ 100 (.ext 0 94), oQ 101 (.ext 1 94), oM 14 100, oM 15 101] [0, 1, 2, 3, 10, 14, 15])
 (.seq
 (.reg 21 [oM 102 15, oM 9 102] [0, 1, 2, 3, 9, 10, 14])
 (.seq
 (.reg 22 [oM 103 14, oM 104 1, oQ 105 (.bin .sub 103 104), oM 106 2, oM 107 14, oQ 108 (.bin .sub 106 107), oM 16 105, oM 17 108] [0, 1, 2, 3, 9, 10, 14, 16, 17])
 (.seq
 (.reg 23 [oM 109 10, oQ 110 (.bin .quo 109 (cI 8)), oM 18 110] [0, 1, 2, 3, 9, 14, 16, 17, 18])
 (.seq
 (.reg 24 [oM 111 16, oM 112 17, oQ 113 (.bin .lss 111 112)] [0, 1, 2, 3, 9, 14, 16, 17, 18, 113])
 (.cond 113
 (.seq
 (.reg 25 [oM 114 16, oM 115 18, oQ 116 (.bin .geq 114 115), oM 8 116] [0, 1, 2, 3, 8, 9, 14])
 (.seq
 (.reg 26 [oM 117 0, oM 118 1, oM 119 14, oM 120 3, oK 121 (.call 148 [117, 118, 119, 120])] [0, 2, 3, 8, 9, 14])
 (.reg 27 [oM 122 14, oQ 123 (.bin .add 122 (cI 1)), oM 1 123] [0, 1, 2, 3, 8, 9])))
 (.seq
 (.reg 28 [oM 124 17, oM 125 18, oQ 126 (.bin .geq 124 125), oM 8 126] [0, 1, 2, 3, 8, 9, 14])
 (.seq
 (.reg 29 [oM 127 0, oM 128 14, oQ 129 (.bin .add 128 (cI 1)), oM 130 2, oM 131 3, oK 132 (.call 148 [127, 129, 130, 131])] [0, 1, 3, 8, 9, 14])
 (.reg 30 [oM 133 14, oM 2 133] [0, 1, 2, 3, 8, 9]))))))))))))))))))))))
theorem fok148 : FOK Tryz.prog 148 (134, ic148, []) := fokA [2000000] Tryz.func148 (by kernel_rfl) (by kernel_rfl) (by kernel_rfl) (by kernel_rfl)
def ic149 : IC :=
 (.seq
 (.reg 0 [oM 2 (cI 0)] [0])
 (.seq
 (.cond (cB false)
 (.seq
 (.reg 1 [oM 3 0, oQ 4 (.conv .u32 3), oK 5 (.call 226 [4]), oM 2 5] [2])
 .ret)
 .skip)
 (.seq
 (.reg 2 [oM 6 0, oK 7 (.call 227 [6]), oM 2 7] [2])
 .ret)))
theorem fok149 : FOK Tryz.prog 149 (8, ic149, [(.t 2)]) := fokA [2000000] Tryz.func149 (by kernel_rfl) (by kernel_rfl) (by kernel_rfl) (by kernel_rfl)
def ic150 : IC :=
 (.seq
 (.reg 0 [oK 2 (.boxt 0), oK 3 (.boxt 1), oM 4 (cB false)] [2, 3])
 (.seq
 (.seq
 (.reg 1 [oQ 6 (.faddr 1 2), oQ 7 (.load none 6), oQ 8 (.bin .and 7 (.c (zU 7))), oQ 9 (.bin .eql 8 (.c (zU 0))), oM 10 9, gQ 11 10 false (.faddr 1 3), gQ 12 10 false (.load none 11), gQ 13 10 false (.bin .and 12 (.c (zU 7))), gQ 14 10 false (.bin .eql 13 (.c (zU 0))), oQ 15 (.pick 10 (cB true) 14)] [2, 3, 15])
 (.cond 15
 (.seq
 (.reg 2 [oM 4 (cB true)] [4])
 .ret)
 .skip))
 (.seq
 (.reg 3 [oQ 16 (.faddr 2 2), oQ 17 (.load (some 3) 16), oQ 18 (.faddr 2 3), oQ 19 (.load (some 3) 18), oK 20 (.call 106 [17, 19]), oM 5 20] [2, 3, 5])
 (.seq
 (.seq
 (.reg 4 [oM 21 5, oQ 22 (.bin .eql 21 (cI 0))] [2, 3, 5, 22])
 (.cond 22
 (.seq
 (.reg 5 [oQ 23 (.faddr 1 2), oQ 24 (.load none 23), oQ 25 (.faddr 1 3), oQ 26 (.load none 25), oQ 27 (.bin .and 24 26), oQ 28 (.bin .and 27 (.c (zU 7))), oQ 29 (.bin .neq 28 (.c (zU 0))), oM 4 29] [4])
 .ret)
 .skip))
 (.seq
 (.oreg 6 [(0, oQ 30 (.faddr 1 2), 0), (1, oQ 31 (.load none 30), 0), (2, oM 32 5, 0), (3, oQ 33 (.neg 32), 0), (4, oK 34 (.call 228 [33]), 2), (5, oQ 35 (.bin .and 31 34), 0), (6, oQ 36 (.bin .neq 35 (.c (zU 0))), 0), (7, oM 37 36, 0), (8, gQ 38 37 false (.faddr 1 3), 0), (9, gQ 39 37 false (.load none 38), 0), (10, gQ 40 37 false (.mov 5), 0), (11, gK 41 37 false (.call 228 [40]), 512), (12, gQ 42 37 false (.bin .and 39 41), 0), (13, gQ 43 37 false (.bin .neq 42 (.c (zU 0))), 0), (14, oQ 44 (.pick 37 (cB true) 43), 0), (15, oM 4 44, 0)] [4])
 .ret)))))
theorem fok150 : FOK Tryz.prog 150 (45, ic150, [(.t 4)]) := fokA [1000002, 1000003, 2000000] Tryz.func150 (by kernel_rfl) (by kernel_rfl) (by kernel_rfl) (by kernel_rfl)
def ic151 : IC :=
 (.seq
 (.reg 0 [oM 4 (cI 0)] [0, 1])
 (.seq
 (.seq
 (.reg 1 [oM 6 0, oQ 7 (.len 0 6), oM 8 (cI 0)] [0, 1, 7, 8])
 (.block 0
 (.loop
 (.seq
 (.reg 2 [oQ 9 (.bin .lss 8 7)] [0, 1, 7, 8, 9])
 (.seq
 (.cond 9
 .skip
 (.exit 0))
 (.seq
 (.block 1
 (.seq
 (.reg 3 [oM 10 8, oM 5 10] [0, 1, 5, 7, 8])
 (.seq
 (.reg 4 [oM 11 1, oM 12 0, oM 13 5, oQ 14 (.iaddr 1 12 13), oQ 15 (.load none 14), oQ 16 (.bin .eql 11 15)] [0, 1, 5, 7, 8, 16])
 (.cond 16
 (.seq
 (.reg 5 [oM 17 5, oM 4 17] [4])
 .ret)
 .skip))))
 (.reg 6 [oQ 18 (.bin .add 8 (cI 1)), oM 8 18] [0, 1, 7, 8])))))))
 (.seq
 (.reg 7 [oM 4 (cI (-1))] [4])
 .ret)))
theorem fok151 : FOK Tryz.prog 151 (19, ic151, [(.t 4)]) := fokA [2000000] Tryz.func151 (by kernel_rfl) (by kernel_rfl) (by kernel_rfl) (by kernel_rfl)
def ic152 : IC :=
 (.seq
 (.reg 0 [oK 3 (.boxt 1), oK 4 (.alloc [(.str []), (zU 0), (zI 0), (.str []), (.str [])])] [0, 3, 4])
 (.seq
 (.reg 1 [oM 5 0, oQ 6 (.load (some 3) 3), oQ 7 (.bld [(.str []), (zU 0), (zI 0), (.str []), (.str [])] [⟨0, ⟨1, 5⟩⟩, ⟨1, ⟨1, (.c (zU 2))⟩⟩, ⟨2, ⟨3, 6⟩⟩]), oN (.store 5 4 7)] [4])
 .ret))
theorem fok152 : FOK Tryz.prog 152 (8, ic152, [(.cell (some 5) 4)]) := fokA [1000003, 2000000] Tryz.func152 (by kernel_rfl) (by kernel_rfl) (by kernel_rfl) (by kernel_rfl)
def ic157 : IC :=
(.seq
 (.reg 0 [⟨(some 1), none, (.boxt (.t 0))⟩, ⟨(some 2), none, (.q (.mov (.c (.bool false))))⟩] [1])
 (.seq
  (.block 0
   (.seq
    (.reg 1 [⟨(some 4), none, (.q (.faddr 0 (.t 1)))⟩, ⟨(some 5), none, (.q (.load none (.t 4)))⟩, ⟨(some 6), none, (.call 204 [(.t 5)])⟩, ⟨(some 7), none, (.q (.not (.t 6)))⟩, ⟨(some 8), none, (.q (.mov (.t 7)))⟩, ⟨(some 9), (some ⟨8, false⟩), (.q (.faddr 1 (.t 1)))⟩, ⟨(some 10), (some ⟨8, false⟩), (.q (.load none (.t 9)))⟩, ⟨(some 11), (some ⟨8, false⟩), (.call 230 [(.t 10)])⟩, ⟨(some 12), (some ⟨8, false⟩), (.q (.not (.t 11)))⟩, ⟨(some 13), none, (.q (.pick (.t 8) (.c (.bool true)) (.t 12)))⟩, ⟨(some 3), none, (.q (.mov (.t 13)))⟩] [1, 3])
    (.cond (.t 3)
     (.seq
      (.reg 2 [⟨(some 2), none, (.q (.mov (.c (.bool false))))⟩] [2])
      .ret)
     (.seq
      (.reg 3 [⟨(some 15), none, (.q (.faddr 1 (.t 1)))⟩, ⟨(some 16), none, (.q (.load none (.t 15)))⟩, ⟨(some 17), none, (.q (.bin .eql (.t 16) (.c (.int .u8 0))))⟩, ⟨(some 14), none, (.q (.mov (.t 17)))⟩] [1, 14])
      (.cond (.t 14)
       (.seq
        (.reg 4 [⟨(some 18), none, (.q (.faddr 2 (.t 1)))⟩, ⟨(some 19), none, (.q (.load (some 3) (.t 18)))⟩, ⟨(some 20), none, (.q (.bld [(.int .i64 0), (.str []), (.str [])] []))⟩, ⟨(some 21), none, (.q (.eqs [1, 2, 2] true false (.t 19) (.t 20)))⟩, ⟨(some 2), none, (.q (.mov (.t 21)))⟩] [2])
        .ret)
       .skip)))))
  (.seq
   (.reg 5 [⟨(some 22), none, (.q (.faddr 0 (.t 1)))⟩, ⟨(some 23), none, (.q (.load none (.t 22)))⟩, ⟨(some 24), none, (.call 205 [(.t 23)])⟩, ⟨(some 25), none, (.q (.not (.t 24)))⟩, ⟨(some 26), none, (.q (.mov (.t 25)))⟩, ⟨(some 27), (some ⟨26, true⟩), (.q (.faddr 2 (.t 1)))⟩, ⟨(some 28), (some ⟨26, true⟩), (.q (.load (some 3) (.t 27)))⟩, ⟨(some 29), (some ⟨26, true⟩), (.call 206 [(.t 28), (.c (.bool true))])⟩, ⟨(some 30), none, (.q (.pick (.t 26) (.t 29) (.c (.bool false))))⟩, ⟨(some 2), none, (.q (.mov (.t 30)))⟩] [2])
   .ret)))
theorem fok157 : FOK Tryz.prog 157 (31, ic157, [(.t 2)]) := .mk (pf := [1000001]) (an := [(0, [1]), (1, [1, 3]), (2, [2]), (3, [1, 14]), (4, [2]), (5, [2])]) (by kernel_rfl) (fnOK_of Tryz.func157 (by kernel_rfl) (by kernel_rfl) (by kernel_rfl))
def ic163 : IC :=
 (.seq
 (.reg 0 [oM 4 (cI 0)] [0, 1])
 (.seq
 (.seq
 (.reg 1 [oM 6 0, oQ 7 (.len 0 6), oM 8 (cI 0)] [0, 1, 7, 8])
 (.block 0
 (.loop
 (.seq
 (.reg 2 [oQ 9 (.bin .lss 8 7)] [0, 1, 7, 8, 9])
 (.seq
 (.cond 9
 .skip
 (.exit 0))
 (.seq
 (.block 1
 (.seq
 (.reg 3 [oM 10 8, oM 5 10] [0, 1, 5, 7, 8])
 (.seq
 (.reg 4 [oM 11 1, oM 12 0, oM 13 5, oQ 14 (.iaddr 1 12 13), oQ 15 (.load none 14), oK 16 (.callv 11 [15])] [0, 1, 5, 7, 8, 16])
 (.cond 16
 (.seq
 (.reg 5 [oM 17 5, oM 4 17] [4])
 .ret)
 .skip))))
 (.reg 6 [oQ 18 (.bin .add 8 (cI 1)), oM 8 18] [0, 1, 7, 8])))))))
 (.seq
 (.reg 7 [oM 4 (cI (-1))] [4])
 .ret)))
theorem fok163 : FOK Tryz.prog 163 (19, ic163, [(.t 4)]) := fokA [2000000] Tryz.func163 (by kernel_rfl) (by kernel_rfl) (by kernel_rfl) (by kernel_rfl)
def ic164 : IC :=
 (.seq
 (.reg 0 [oM 2 (cI 0)] [0])
 (.seq
 (.seq
 (.reg 1 [oM 6 0, oQ 7 (.len 0 6), oM 8 (cI 0)] [6, 7, 8])
 (.block 0
 (.loop
 (.seq
 (.reg 2 [oQ 9 (.bin .lss 8 7)] [6, 7, 8, 9])
 (.seq
 (.cond 9
 .skip
 (.exit 0))
 (.seq
 (.block 1
 (.seq
 (.reg 3 [oQ 10 (.iaddr 1 6 8), oQ 11 (.load none 10), oM 4 11] [4, 6, 7, 8])
 (.seq
 (.reg 4 [oM 12 4, oK 13 (.callv 12 []), oM 5 13] [5, 6, 7, 8])
 (.seq
 (.reg 5 [oM 14 5, oQ 15 (.bin .neq 14 (cI 0))] [5, 6, 7, 8, 15])
 (.cond 15
 (.seq
 (.reg 6 [oM 16 5, oM 2 16] [2])
 .ret)
 .skip)))))
 (.reg 7 [oQ 17 (.bin .add 8 (cI 1)), oM 8 17] [6, 7, 8])))))))
 (.seq
 (.reg 8 [oM 2 (cI 0)] [2])
 .ret)))
theorem fok164 : FOK Tryz.prog 164 (18, ic164, [(.t 2)]) := fokA [2000000] Tryz.func164 (by kernel_rfl) (by kernel_rfl) (by kernel_rfl) (by kernel_rfl)
def ic165 : IC :=
 (.seq
 (.reg 0 [oM 2 (cI 0)] [0, 1])
 (.seq
 (.reg 1 [oQ 3 (.faddr 0 0), oQ 4 (.load none 3), oQ 5 (.faddr 0 1), oQ 6 (.load none 5), oK 7 (.call 126 [4, 6]), oM 2 7] [2])
 .ret))
theorem fok165 : FOK Tryz.prog 165 (8, ic165, [(.t 2)]) := fokA [2000000] Tryz.func165 (by kernel_rfl) (by kernel_rfl) (by kernel_rfl) (by kernel_rfl)
def ic166 : IC :=
 (.seq
 (.reg 0 [oM 2 (cI 0)] [0, 1])
 (.seq
 (.reg 1 [oQ 3 (.faddr 1 0), oQ 4 (.load none 3), oQ 5 (.faddr 1 1), oQ 6 (.load none 5), oK 7 (.call 167 [4, 6]), oM 2 7] [2])
 .ret))
theorem fok166 : FOK Tryz.prog 166 (8, ic166, [(.t 2)]) := fokA [2000000] Tryz.func166 (by kernel_rfl) (by kernel_rfl) (by kernel_rfl) (by kernel_rfl)
def ic167 : IC :=
 (.seq
 (.reg 0 [oM 4 (cI 0)] [0, 1])
 (.seq
 (.reg 1 [oM 9 0, oK 10 (.call 235 [9]), oQ 11 (.bld [(zU 0), (.str [])] [⟨0, ⟨1, (.c (zU 2))⟩⟩]), oK 12 (.bslt 2 1 [(zU 0), (.str [])] [⟨0, ⟨2, 11⟩⟩]), oK 13 (.app 2 10 12), oM 14 1, oK 15 (.call 235 [14]), oQ 16 (.bld [(zU 0), (.str [])] [⟨0, ⟨1, (.c (zU 2))⟩⟩]), oK 17 (.bslt 2 1 [(zU 0), (.str [])] [⟨0, ⟨2, 16⟩⟩]), oK 18 (.app 2 15 17), oM 5 13, oM 6 18] [5, 6])
 (.seq
 (.seq
 (.reg 2 [oM 19 5, oQ 20 (.len 0 19), oM 21 6, oQ 22 (.len 0 21), oQ 23 (.mm false 20 22), oM 24 (cI 0)] [5, 6, 23, 24])
 (.block 0
 (.loop
 (.seq
 (.reg 3 [oQ 25 (.bin .lss 24 23)] [5, 6, 23, 24, 25])
 (.seq
 (.cond 25
 .skip
 (.exit 0))
 (.seq
 (.block 1
 (.seq
 (.reg 4 [oM 26 24, oM 7 26] [5, 6, 7, 23, 24])
 (.seq
 (.dreg 5 [oM 27 5, oM 28 7, oQ 29 (.iaddr 2 27 28), oQ 30 (.load (some 2) 29), oM 31 6, oM 32 7, oQ 33 (.iaddr 2 31 32), oQ 34 (.load (some 2) 33), oK 35 (.call 236 [30, 34]), oM 8 35] false [5, 6, 8, 23, 24])
 (.seq
 (.reg 6 [oM 36 8, oQ 37 (.bin .neq 36 (cI 0))] [5, 6, 8, 23, 24, 37])
 (.cond 37
 (.seq
 (.reg 7 [oM 38 8, oM 4 38] [4])
 .ret)
 .skip)))))
 (.reg 8 [oQ 39 (.bin .add 24 (cI 1)), oM 24 39] [5, 6, 23, 24])))))))
 (.seq
 (.reg 9 [oM 4 (cI 0)] [4])
 .ret))))
theorem fok167 : FOK Tryz.prog 167 (40, ic167, [(.t 4)]) := fokA [1000012, 1000017, 2000000] Tryz.func167 (by kernel_rfl) (by kernel_rfl) (by kernel_rfl) (by kernel_rfl)
def ic168 : IC :=
 (.seq
 (.reg 0 [oM 2 (cI 0)] [0, 1])
 (.seq
 (.seq
 (.reg 1 [oQ 3 (.faddr 2 0), oQ 4 (.load none 3), oQ 5 (.bin .eql 4 (.c (.str []))), oM 6 5, gQ 7 6 false (.faddr 2 1), gQ 8 6 false (.load none 7), gQ 9 6 false (.bin .eql 8 (.c (.str []))), oQ 10 (.pick 6 (cB true) 9)] [0, 1, 10])
 (.cond 10
 (.seq
 (.reg 2 [oM 2 (cI 0)] [2])
 .ret)
 .skip))
 (.seq
 (.reg 3 [oQ 11 (.faddr 2 0), oQ 12 (.load none 11), oQ 13 (.faddr 2 1), oQ 14 (.load none 13), oK 15 (.call 167 [12, 14]), oM 2 15] [2])
 .ret)))
theorem fok168 : FOK Tryz.prog 168 (16, ic168, [(.t 2)]) := fokA [2000000] Tryz.func168 (by kernel_rfl) (by kernel_rfl) (by kernel_rfl) (by kernel_rfl)
def ic169 : IC :=
(.seq
 (.reg 0 [⟨(some 2), none, (.q (.mov (.c (.bool false))))⟩] [0])
 (.seq
  (.reg 1 [⟨(some 3), none, (.q (.mov (.t 0)))⟩, ⟨(some 4), none, (.q (.bin .geq (.t 3) (.c (.int .u8 1))))⟩, ⟨(some 5), none, (.q (.mov (.t 4)))⟩, ⟨(some 6), (some ⟨5, true⟩), (.q (.mov (.t 0)))⟩, ⟨(some 7), (some ⟨5, true⟩), (.q (.bin .leq (.t 6) (.c (.int .u8 4))))⟩, ⟨(some 8), none, (.q (.pick (.t 5) (.t 7) (.c (.bool false))))⟩, ⟨(some 2), none, (.q (.mov (.t 8)))⟩] [2])
  .ret))
theorem fok169 : FOK Tryz.prog 169 (9, ic169, [(.t 2)]) := .mk (pf := []) (an := [(0, [0]), (1, [2])]) (by kernel_rfl) (fnOK_of Tryz.func169 (by kernel_rfl) (by kernel_rfl) (by kernel_rfl))
def ic172 : IC :=
 (.seq
 (.reg 0 [oM 4 (cB false)] [0, 1])
 (.seq
 (.reg 1 [oM 5 0, oM 6 1, oK 7 (.call 163 [5, 6]), oQ 8 (.bin .geq 7 (cI 0)), oM 4 8] [4])
 .ret))
theorem fok172 : FOK Tryz.prog 172 (9, ic172, [(.t 4)]) := fokA [2000000] Tryz.func172 (by kernel_rfl) (by kernel_rfl) (by kernel_rfl) (by kernel_rfl)
def ic179 : IC :=
 (.seq
 (.reg 0 [oK 1 (.boxt 0), oM 2 (.c .nilslice)] [1, 2])
 (.seq
 (.reg 1 [oK 3 (.alloc [.nilslice])] [1, 2, 3])
 (.seq
 (.seq
 (.reg 2 [oQ 5 (.load (some 7) 1), oK 6 (.call 239 [5])] [2, 3, 6])
 (.block 0
 (.rfunc 6 [7, 8]
 (.reg 3 [oK 4 (.alloc [(zU 0), (.str []), (zU 0), (zI 0), (.str []), (.str []), .nilslice]), oN (.store 7 4 7)] [3, 4])
 (.block 1
 (.seq
 (.reg 4 [oQ 9 (.faddr 0 4), oQ 10 (.load none 9), oQ 11 (.bin .eql 10 (.c (zU 1)))] [3, 4, 11])
 (.cond 11
 (.reg 5 [oQ 12 (.load none 3), oQ 13 (.faddr 1 4), oQ 14 (.load (some 5) 13), oK 15 (.bslt 5 1 [(.str []), (zU 0), (zI 0), (.str []), (.str [])] [⟨0, ⟨5, 14⟩⟩]), oK 16 (.app 5 12 15), oN (.store 1 3 16)] [])
 .skip))))))
 (.seq
 (.reg 6 [oQ 17 (.load none 3), oM 2 17] [2])
 .ret))))
theorem fok179 : FOK Tryz.prog 179 (18, ic179, [(.t 2)]) := fokA [1000001, 1000015, 2000000] Tryz.func179 (by kernel_rfl) (by kernel_rfl) (by kernel_rfl) (by kernel_rfl)
def ic181 : IC :=
(.seq
 (.reg 0 [⟨(some 4), none, (.q (.mov (.c (.bool false))))⟩] [0, 1])
 (.seq
  (.reg 1 [⟨(some 5), none, (.q (.mov (.t 0)))⟩, ⟨(some 6), none, (.q (.mov (.t 1)))⟩, ⟨(some 7), none, (.call 240 [(.t 5), (.t 6)])⟩, ⟨(some 8), none, (.q (.bin .geq (.t 7) (.c (.int .i64 0))))⟩, ⟨(some 4), none, (.q (.mov (.t 8)))⟩] [4])
  .ret))
theorem fok181 : FOK Tryz.prog 181 (9, ic181, [(.t 4)]) := .mk (pf := []) (an := [(0, [0, 1]), (1, [4])]) (by kernel_rfl) (fnOK_of Tryz.func181 (by kernel_rfl) (by kernel_rfl) (by kernel_rfl))
def ic192 : IC :=
 (.seq
 (.reg 0 [oM 10 (cB true)] [0, 1, 2, 3, 4, 10])
 (.seq
 (.reg 1 [oM 11 (cB true)] [0, 1, 2, 3, 4, 10, 11])
 (.block 0
 (.loop
 (.block 1
 (.seq
 (.reg 2 [oM 21 2, oM 22 1, oQ 23 (.bin .sub 21 22), oM 12 23] [0, 1, 2, 3, 4, 10, 11, 12])
 (.seq
 (.seq
 (.reg 3 [oM 24 12, oQ 25 (.bin .leq 24 (cI 12))] [0, 1, 2, 3, 4, 10, 11, 12, 25])
 (.cond 25
 (.seq
 (.reg 4 [oM 26 0, oM 27 1, oM 28 2, oM 29 4, oK 30 (.call 244 [26, 27, 28, 29])] [])
 .ret)
 .skip))
 (.seq
 (.seq
 (.reg 5 [oM 31 3, oQ 32 (.bin .eql 31 (cI 0))] [0, 1, 2, 3, 4, 10, 11, 12, 32])
 (.cond 32
 (.seq
 (.reg 6 [oM 33 0, oM 34 1, oM 35 2, oM 36 4, oK 37 (.call 245 [33, 34, 35, 36])] [])
 .ret)
 .skip))
 (.seq
 (.seq
 (.reg 7 [oM 38 10, oQ 39 (.not 38)] [0, 1, 2, 3, 4, 10, 11, 12, 39])
 (.cond 39
 (.seq
 (.reg 8 [oM 40 0, oM 41 1, oM 42 2, oM 43 4, oK 44 (.call 246 [40, 41, 42, 43])] [0, 1, 2, 3, 4, 10, 11, 12])
 (.reg 9 [oM 45 3, oQ 46 (.bin .sub 45 (cI 1)), oM 3 46] [0, 1, 2, 3, 4, 10, 11, 12]))
 .skip))
 (.seq
 (.reg 10 [oM 48 0, oM 49 1, oM 50 2, oM 51 4, oK 52 (.call 247 [48, 49, 50, 51]), oM 47 52, oQ 53 (.ext 0 47), oQ 54 (.ext 1 47), oM 13 53, oM 14 54] [0, 1, 2, 3, 4, 10, 11, 12, 13, 14])
 (.seq
 (.seq
 (.reg 11 [oM 55 14, oQ 56 (.bin .eql 55 (cI 2))] [0, 1, 2, 3, 4, 10, 11, 12, 13, 14, 56])
 (.cond 56
 (.seq
 (.reg 12 [oM 57 0, oM 58 1, oM 59 2, oM 60 4, oK 61 (.call 248 [57, 58, 59, 60])] [0, 1, 2, 3, 4, 10, 11, 12, 13])
 (.seq
 (.reg 13 [oM 62 2, oQ 63 (.bin .sub 62 (cI 1)), oM 64 13, oM 65 1, oQ 66 (.bin .sub 64 65), oQ 67 (.bin .sub 63 66), oM 13 67] [0, 1, 2, 3, 4, 10, 11, 12, 13])
 (.reg 14 [oM 14 (cI 1)] [0, 1, 2, 3, 4, 10, 11, 12, 13, 14])))
 .skip))
 (.seq
 (.seq
 (.reg 15 [oM 68 10, oM 69 68, gQ 70 69 true (.mov 11), oQ 71 (.pick 69 70 (cB false)), oM 72 71, gQ 73 72 true (.mov 14), gQ 74 72 true (.bin .eql 73 (cI 1)), oQ 75 (.pick 72 74 (cB false))] [0, 1, 2, 3, 4, 10, 11, 12, 13, 75])
 (.cond 75
 (.seq
 (.reg 16 [oM 76 0, oM 77 1, oM 78 2, oM 79 4, oK 80 (.call 249 [76, 77, 78, 79])] [0, 1, 2, 3, 4, 10, 11, 12, 13, 80])
 (.cond 80
 .ret
 .skip))
 .skip))
 (.seq
 (.seq
 (.dreg 17 [oM 81 1, oQ 82 (.bin .gtr 81 (cI 0)), oM 83 82, gQ 84 83 true (.mov 4), gQ 85 83 true (.mov 0), gQ 86 83 true (.mov 1), gQ 87 83 true (.bin .sub 86 (cI 1)), gQ 88 83 true (.iaddr 1 85 87), gQ 89 83 true (.load none 88), gQ 90 83 true (.mov 0), gQ 91 83 true (.mov 13), gQ 92 83 true (.iaddr 1 90 91), gQ 93 83 true (.load none 92), gK 94 83 true (.callv 84 [89, 93]), gQ 95 83 true (.bin .lss 94 (cI 0)), gQ 96 83 true (.not 95), oQ 97 (.pick 83 96 (cB false))] false [0, 1, 2, 3, 4, 10, 11, 12, 13, 97])
 (.cond 97
 (.seq
 (.reg 18 [oM 98 0, oM 99 1, oM 100 2, oM 101 13, oM 102 4, oK 103 (.call 250 [98, 99, 100, 101, 102]), oM 15 103] [0, 2, 3, 4, 10, 11, 15])
 (.seq
 (.reg 19 [oM 104 15, oM 1 104] [0, 1, 2, 3, 4, 10, 11])
 (.exit 1)))
 .skip))
 (.seq
 (.reg 20 [oM 106 0, oM 107 1, oM 108 2, oM 109 13, oM 110 4, oK 111 (.call 251 [106, 107, 108, 109, 110]), oM 105 111, oQ 112 (.ext 0 105), oQ 113 (.ext 1 105), oM 16 112, oM 17 113] [0, 1, 2, 3, 4, 12, 16, 17])
 (.seq
 (.reg 21 [oM 114 17, oM 11 114] [0, 1, 2, 3, 4, 11, 12, 16])
 (.seq
 (.reg 22 [oM 115 16, oM 116 1, oQ 117 (.bin .sub 115 116), oM 118 2, oM 119 16, oQ 120 (.bin .sub 118 119), oM 18 117, oM 19 120] [0, 1, 2, 3, 4, 11, 12, 16, 18, 19])
 (.seq
 (.reg 23 [oM 121 12, oQ 122 (.bin .quo 121 (cI 8)), oM 20 122] [0, 1, 2, 3, 4, 11, 16, 18, 19, 20])
 (.seq
 (.reg 24 [oM 123 18, oM 124 19, oQ 125 (.bin .lss 123 124)] [0, 1, 2, 3, 4, 11, 16, 18, 19, 20, 125])
 (.cond 125
 (.seq
 (.reg 25 [oM 126 18, oM 127 20, oQ 128 (.bin .geq 126 127), oM 10 128] [0, 1, 2, 3, 4, 10, 11, 16])
 (.seq
 (.reg 26 [oM 129 0, oM 130 1, oM 131 16, oM 132 3, oM 133 4, oK 134 (.call 192 [129, 130, 131, 132, 133])] [0, 2, 3, 4, 10, 11, 16])
 (.reg 27 [oM 135 16, oQ 136 (.bin .add 135 (cI 1)), oM 1 136] [0, 1, 2, 3, 4, 10, 11])))
 (.seq
 (.reg 28 [oM 137 19, oM 138 20, oQ 139 (.bin .geq 137 138), oM 10 139] [0, 1, 2, 3, 4, 10, 11, 16])
 (.seq
 (.reg 29 [oM 140 0, oM 141 16, oQ 142 (.bin .add 141 (cI 1)), oM 143 2, oM 144 3, oM 145 4, oK 146 (.call 192 [140, 142, 143, 144, 145])] [0, 1, 3, 4, 10, 11, 16])
 (.reg 30 [oM 147 16, oM 2 147] [0, 1, 2, 3, 4, 10, 11]))))))))))))))))))))))
theorem fok192 : FOK Tryz.prog 192 (148, ic192, []) := fokA [2000000] Tryz.func192 (by kernel_rfl) (by kernel_rfl) (by kernel_rfl) (by kernel_rfl)
def ic193 : IC :=
 (.seq
 (.reg 0 [oK 2 (.box 0), oK 4 (.alloc [(.int .u64 0), (.int .u64 0), (.int .u64 0), (.int .u64 0)])] [1, 2, 4])
 (.seq
 (.dreg 1 [oM 5 1, oQ 6 (.bin .quo 5 (cI 64)), oQ 7 (.aaddr 4 1 2 6), oQ 8 (.load none 7), oM 9 1, oQ 10 (.bin .rem 9 (cI 64)), oQ 11 (.bin .shl (.c (.int .u64 1)) 10), oQ 12 (.bin .or 8 11), oQ 13 (.aaddr 4 1 2 6), oN (.store 1 13 12)] false [2, 4])
 (.seq
 (.reg 2 [oQ 14 (.load (some 4) 2), oN (.store 4 4 14)] [4])
 .ret)))
theorem fok193 : FOK Tryz.prog 193 (15, ic193, [(.cell (some 4) 4)]) := fokA [2000000] Tryz.func193 (by kernel_rfl) (by kernel_rfl) (by kernel_rfl) (by kernel_rfl)
def ic194 : IC :=
 (.seq
 (.reg 0 [oK 2 (.box 0), oK 3 (.boxt 1), oK 4 (.alloc [(.int .u64 0), (.int .u64 0), (.int .u64 0), (.int .u64 0)])] [2, 3, 4])
 (.seq
 (.seq
 (.reg 1 [oM 6 (cI 0)] [2, 3, 4, 6])
 (.block 0
 (.loop
 (.seq
 (.reg 2 [oQ 7 (.bin .lss 6 (cI 4))] [2, 3, 4, 6, 7])
 (.seq
 (.cond 7
 .skip
 (.exit 0))
 (.seq
 (.block 1
 (.seq
 (.reg 3 [oM 8 6, oM 5 8] [2, 3, 4, 5, 6])
 (.dreg 4 [oM 9 5, oQ 10 (.aaddr 4 1 2 9), oQ 11 (.load none 10), oM 12 5, oQ 13 (.aaddr 4 1 3 12), oQ 14 (.load none 13), oQ 15 (.bin .or 11 14), oQ 16 (.aaddr 4 1 2 9), oN (.store 1 16 15)] false [2, 3, 4, 6])))
 (.reg 5 [oQ 17 (.bin .add 6 (cI 1)), oM 6 17] [2, 3, 4, 6])))))))
 (.seq
 (.reg 6 [oQ 18 (.load (some 4) 2), oN (.store 4 4 18)] [4])
 .ret)))
theorem fok194 : FOK Tryz.prog 194 (19, ic194, [(.cell (some 4) 4)]) := fokA [1000003, 2000000] Tryz.func194 (by kernel_rfl) (by kernel_rfl) (by kernel_rfl) (by kernel_rfl)
def ic195 : IC :=
 (.seq
 (.reg 0 [oM 2 (cB false)] [0])
 (.seq
 (.reg 1 [oM 3 0, oM 4 0, oQ 5 (.bin .neq 3 4), oM 2 5] [2])
 .ret))
theorem fok195 : FOK Tryz.prog 195 (6, ic195, [(.t 2)]) := fokA [2000000] Tryz.func195 (by kernel_rfl) (by kernel_rfl) (by kernel_rfl) (by kernel_rfl)
def ic196 : IC :=
 (.seq
 (.reg 0 [oM 2 (.c .nilslice)] [0])
 (.seq
 (.reg 1 [oM 4 0, oK 5 (.call 252 [4]), oM 3 5] [3])
 (.seq
 (.reg 2 [oM 6 3, oK 7 (.call 84 [6])] [3])
 (.seq
 (.reg 3 [oM 8 3, oM 2 8] [2])
 .ret))))
theorem fok196 : FOK Tryz.prog 196 (9, ic196, [(.t 2)]) := fokA [2000000] Tryz.func196 (by kernel_rfl) (by kernel_rfl) (by kernel_rfl) (by kernel_rfl)
def ic197 : IC :=
 (.seq
 (.reg 0 [oK 1 (.boxt 0), oM 2 (.c .nilfunc)] [1])
 (.seq
 (.reg 1 [oQ 3 (.mkf 253 [] [1]), oM 2 3] [2])
 .ret))
theorem fok197 : FOK Tryz.prog 197 (4, ic197, [(.t 2)]) := fokA [1000001, 2000000] Tryz.func197 (by kernel_rfl) (by kernel_rfl) (by kernel_rfl) (by kernel_rfl)
def ic198 : IC :=
 (.seq
 (.reg 0 [oK 3 (.boxt 0), oM 4 (cB false)] [1, 2, 3])
 (.seq
 (.reg 1 [oQ 5 (.load none 1), oQ 6 (.mkf 199 [] [2, 3]), oK 7 (.call 172 [5, 6]), oQ 8 (.not 7), oM 4 8] [4])
 .ret))
theorem fok198 : FOK Tryz.prog 198 (9, ic198, [(.t 4)]) := fokA [1000003, 2000000] Tryz.func198 (by kernel_rfl) (by kernel_rfl) (by kernel_rfl) (by kernel_rfl)
def ic199 : IC :=
 (.seq
 (.reg 0 [oM 4 (cB false)] [0, 1, 2])
 (.seq
 (.reg 1 [oQ 5 (.load none 1), oQ 6 (.load none 2), oM 7 0, oK 8 (.callv 5 [6, 7]), oM 4 8] [4])
 .ret))
theorem fok199 : FOK Tryz.prog 199 (9, ic199, [(.t 4)]) := fokA [2000000] Tryz.func199 (by kernel_rfl) (by kernel_rfl) (by kernel_rfl) (by kernel_rfl)
def ic200 : IC :=
 (.seq
 (.reg 0 [oM 6 (.c .nilslice)] [0, 1, 2])
 (.seq
 (.reg 1 [oM 8 0, oM 9 1, oM 10 2, oM 11 0, oQ 12 (.len 0 11), oK 13 (.st (.sl3 1 true) [8, 9, 10, 12])] [0, 1, 2])
 (.seq
 (.seq
 (.reg 2 [oM 14 1, oM 15 2, oQ 16 (.bin .eql 14 15)] [0, 1, 2, 16])
 (.cond 16
 (.seq
 (.reg 3 [oM 17 0, oM 6 17] [6])
 .ret)
 .skip))
 (.seq
 (.reg 4 [oM 18 0, oQ 19 (.len 0 18), oM 7 19] [0, 1, 2, 7])
 (.seq
 (.oreg 5 [(0, oM 20 0, 0), (1, oM 21 1, 0), (3, oM 23 0, 0), (4, oM 24 2, 0), (5, oQ 25 (.slc 1 23 (some 24) none), 0), (2, oK 22 (.st (.rlp 1) [20, 21]), 0), (6, oK 26 (.st (.apr 1) [22, 25]), 0), (7, oM 0 26, 0)] [0, 7])
 (.seq
 (.reg 6 [oM 27 0, oM 28 0, oQ 29 (.len 0 28), oM 30 7, oQ 31 (.slc 1 27 (some 29) (some 30)), oN (.clr 1 [(zI 0)] 31)] [0])
 (.seq
 (.reg 7 [oM 32 0, oM 6 32] [6])
 .ret)))))))
theorem fok200 : FOK Tryz.prog 200 (33, ic200, [(.t 6)]) := fokA [1000013, 1000022, 1000026, 2000000] Tryz.func200 (by kernel_rfl) (by kernel_rfl) (by kernel_rfl) (by kernel_rfl)
def ic201 : IC :=
 (.seq
 (.reg 0 [oK 2 (.boxt 0), oM 3 (cB false)] [1, 2])
 (.seq
 (.reg 1 [oQ 4 (.load (some 7) 2), oK 5 (.call 179 [4]), oQ 6 (.mkf 202 [] [1]), oK 7 (.call 75 [5, 6]), oM 3 7] [3])
 .ret))
theorem fok201 : FOK Tryz.prog 201 (8, ic201, [(.t 3)]) := fokA [1000002, 2000000] Tryz.func201 (by kernel_rfl) (by kernel_rfl) (by kernel_rfl) (by kernel_rfl)
def ic202 : IC :=
 (.seq
 (.reg 0 [oK 2 (.boxt 0), oM 3 (cB false)] [1, 2])
 (.seq
 (.reg 1 [oQ 4 (.load (some 15) 1), oQ 5 (.load (some 5) 2), oK 6 (.call 31 [4, 5]), oM 3 6] [3])
 .ret))
theorem fok202 : FOK Tryz.prog 202 (7, ic202, [(.t 3)]) := fokA [1000002, 2000000] Tryz.func202 (by kernel_rfl) (by kernel_rfl) (by kernel_rfl) (by kernel_rfl)
def ic204 : IC :=
(.seq
 (.reg 0 [⟨(some 2), none, (.q (.mov (.c (.bool false))))⟩] [0])
 (.seq
  (.seq
   (.reg 1 [⟨(some 7), none, (.q (.mov (.t 0)))⟩, ⟨(some 8), none, (.q (.len 1 (.t 7)))⟩, ⟨(some 9), none, (.q (.bin .lss (.t 8) (.c (.int .i64 1))))⟩, ⟨(some 10), none, (.q (.mov (.t 9)))⟩, ⟨(some 11), (some ⟨10, false⟩), (.q (.mov (.t 0)))⟩, ⟨(some 12), (some ⟨10, false⟩), (.q (.len 1 (.t 11)))⟩, ⟨(some 13), (some ⟨10, false⟩), (.q (.bin .gtr (.t 12) (.c (.int .i64 64))))⟩, ⟨(some 14), none, (.q (.pick (.t 10) (.c (.bool true)) (.t 13)))⟩] [0, 14])
   (.cond (.t 14)
    (.seq
     (.reg 2 [⟨(some 2), none, (.q (.mov (.c (.bool false))))⟩] [2])
     .ret)
    .skip))
  (.seq
   (.seq
    (.reg 3 [⟨(some 15), none, (.q (.mov (.t 0)))⟩, ⟨(some 16), none, (.srange (.t 15))⟩] [0, 16])
    (.block 0
     (.loop
      (.seq
       (.reg 4 [⟨(some 17), none, (.snext (.t 16))⟩, ⟨(some 18), none, (.q (.ext 0 (.t 17)))⟩] [0, 16, 17, 18])
       (.seq
        (.cond (.t 18)
         .skip
         (.exit 0))
        (.block 1
         (.seq
          (.reg 5 [⟨(some 19), none, (.q (.ext 2 (.t 17)))⟩, ⟨(some 4), none, (.q (.mov (.t 19)))⟩] [0, 4, 16])
          (.seq
           (.reg 6 [⟨(some 20), none, (.q (.mov (.t 4)))⟩, ⟨(some 21), none, (.q (.bin .gtr (.t 20) (.c (.int .i32 126))))⟩, ⟨(some 22), none, (.q (.mov (.t 21)))⟩, ⟨(some 23), (some ⟨22, false⟩), (.q (.mov (.t 4)))⟩, ⟨(some 24), (some ⟨22, false⟩), (.q (.conv .u8 (.t 23)))⟩, ⟨(some 25), (some ⟨22, false⟩), (.call 254 [(.c (.str [97, 98, 99, 100, 101, 102, 103, 104, 105, 106, 107, 108, 109, 110, 111, 112, 113, 114, 115, 116, 117, 118, 119, 120, 121, 122, 65, 66, 67, 68, 69, 70, 71, 72, 73, 74, 75, 76, 77, 78, 79, 80, 81, 82, 83, 84, 85, 86, 87, 88, 89, 90, 48, 49, 50, 51, 52, 53, 54, 55, 56, 57, 46, 95, 43, 45, 47, 58, 64, 126, 94])), (.t 24)])⟩, ⟨(some 26), (some ⟨22, false⟩), (.q (.bin .lss (.t 25) (.c (.int .i64 0))))⟩, ⟨(some 27), none, (.q (.pick (.t 22) (.c (.bool true)) (.t 26)))⟩] [0, 16, 27])
           (.cond (.t 27)
            (.seq
            (.reg 7 [⟨(some 2), none, (.q (.mov (.c (.bool false))))⟩] [2])
            .ret)
            .skip)))))))))
   (.seq
    (.seq
     (.reg 8 [⟨(some 28), none, (.q (.load (some 7) (.g 0)))⟩, ⟨(some 29), none, (.q (.mov (.c (.int .i64 0))))⟩] [0, 28, 29])
     (.block 2
      (.loop
       (.seq
        (.reg 9 [⟨(some 30), none, (.q (.bin .lss (.t 29) (.c (.int .i64 7))))⟩] [0, 28, 29, 30])
        (.seq
         (.cond (.t 30)
          .skip
          (.exit 2))
         (.seq
          (.block 3
           (.seq
            (.reg 10 [⟨(some 31), none, (.q (.idx none 7 1 (.t 28) (.t 29)))⟩, ⟨(some 6), none, (.q (.mov (.t 31)))⟩] [0, 6, 28, 29])
            (.seq
            (.reg 11 [⟨(some 32), none, (.q (.mov (.t 0)))⟩, ⟨(some 33), none, (.q (.mov (.t 6)))⟩, ⟨(some 34), none, (.q (.bin .eql (.t 32) (.t 33)))⟩] [0, 28, 29, 34])
            (.cond (.t 34)
            (.seq
            (.reg 12 [⟨(some 2), none, (.q (.mov (.c (.bool false))))⟩] [2])
            .ret)
            .skip))))
          (.reg 13 [⟨(some 35), none, (.q (.bin .add (.t 29) (.c (.int .i64 1))))⟩, ⟨(some 29), none, (.q (.mov (.t 35)))⟩] [0, 28, 29])))))))
    (.seq
     (.reg 14 [⟨(some 2), none, (.q (.mov (.c (.bool true))))⟩] [2])
     .ret)))))
theorem fok204 : FOK Tryz.prog 204 (36, ic204, [(.t 2)]) := .mk (pf := []) (an := [(0, [0]), (1, [0, 14]), (2, [2]), (3, [0, 16]), (4, [0, 16, 17, 18]), (5, [0, 4, 16]), (6, [0, 16, 27]), (7, [2]), (8, [0, 28, 29]), (9, [0, 28, 29, 30]), (10, [0, 6, 28, 29]), (11, [0, 28, 29, 34]), (12, [2]), (13, [0, 28, 29]), (14, [2])]) (by kernel_rfl) (fnOK_of Tryz.func204 (by kernel_rfl) (by kernel_rfl) (by kernel_rfl))
def ic205 : IC :=
(.seq
 (.reg 0 [⟨(some 2), none, (.q (.mov (.c (.bool false))))⟩] [0])
 (.seq
  (.reg 1 [⟨(some 3), none, (.q (.mov (.t 0)))⟩, ⟨(some 4), none, (.call 204 [(.t 3)])⟩, ⟨(some 5), none, (.q (.mov (.t 4)))⟩, ⟨(some 6), (some ⟨5, true⟩), (.q (.mov (.t 0)))⟩, ⟨(some 7), (some ⟨5, true⟩), (.call 255 [(.t 6), (.c (.str [47]))])⟩, ⟨(some 8), none, (.q (.pick (.t 5) (.t 7) (.c (.bool false))))⟩, ⟨(some 2), none, (.q (.mov (.t 8)))⟩] [2])
  .ret))
theorem fok205 : FOK Tryz.prog 205 (9, ic205, [(.t 2)]) := .mk (pf := []) (an := [(0, [0]), (1, [2])]) (by kernel_rfl) (fnOK_of Tryz.func205 (by kernel_rfl) (by kernel_rfl) (by kernel_rfl))
def ic206 : IC :=
(.seq
 (.reg 0 [⟨(some 2), none, (.boxt (.t 0))⟩, ⟨(some 4), none, (.q (.mov (.c (.bool false))))⟩] [1, 2])
 (.seq
  (.reg 1 [⟨(some 5), none, (.q (.faddr 0 (.t 2)))⟩, ⟨(some 6), none, (.q (.load none (.t 5)))⟩, ⟨(some 7), none, (.q (.bin .geq (.t 6) (.c (.int .i64 0))))⟩, ⟨(some 8), none, (.q (.mov (.t 7)))⟩, ⟨(some 9), (some ⟨8, true⟩), (.q (.faddr 0 (.t 2)))⟩, ⟨(some 10), (some ⟨8, true⟩), (.q (.load none (.t 9)))⟩, ⟨(some 11), (some ⟨8, true⟩), (.q (.bin .leq (.t 10) (.c (.int .i64 2147483647))))⟩, ⟨(some 12), none, (.q (.pick (.t 8) (.t 11) (.c (.bool false))))⟩, ⟨(some 13), none, (.q (.mov (.t 12)))⟩, ⟨(some 14), (some ⟨13, true⟩), (.q (.faddr 1 (.t 2)))⟩, ⟨(some 15), (some ⟨13, true⟩), (.q (.load none (.t 14)))⟩, ⟨(some 16), (some ⟨13, true⟩), (.call 256 [(.t 15)])⟩, ⟨(some 17), none, (.q (.pick (.t 13) (.t 16) (.c (.bool false))))⟩, ⟨(some 18), none, (.q (.mov (.t 17)))⟩, ⟨(some 19), (some ⟨18, true⟩), (.q (.faddr 2 (.t 2)))⟩, ⟨(some 20), (some ⟨18, true⟩), (.q (.load none (.t 19)))⟩, ⟨(some 21), (some ⟨18, true⟩), (.call 256 [(.t 20)])⟩, ⟨(some 22), (some ⟨18, true⟩), (.q (.mov (.t 21)))⟩, ⟨(some 23), (some ⟨22, false⟩), (.q (.mov (.t 1)))⟩, ⟨(some 24), (some ⟨22, false⟩), (.q (.mov (.t 23)))⟩, ⟨(some 25), (some ⟨24, true⟩), (.q (.faddr 2 (.t 2)))⟩, ⟨(some 26), (some ⟨24, true⟩), (.q (.load none (.t 25)))⟩, ⟨(some 27), (some ⟨24, true⟩), (.q (.bin .eql (.t 26) (.c (.str []))))⟩, ⟨(some 28), (some ⟨22, false⟩), (.q (.pick (.t 24) (.t 27) (.c (.bool false))))⟩, ⟨(some 29), (some ⟨18, true⟩), (.q (.pick (.t 22) (.c (.bool true)) (.t 28)))⟩, ⟨(some 30), none, (.q (.pick (.t 18) (.t 29) (.c (.bool false))))⟩, ⟨(some 4), none, (.q (.mov (.t 30)))⟩] [4])
  .ret))
theorem fok206 : FOK Tryz.prog 206 (31, ic206, [(.t 4)]) := .mk (pf := [1000002]) (an := [(0, [1, 2]), (1, [4])]) (by kernel_rfl) (fnOK_of Tryz.func206 (by kernel_rfl) (by kernel_rfl) (by kernel_rfl))
def ic207 : IC :=
(.seq
 (.reg 0 [⟨(some 2), none, (.q (.mov (.c (.str []))))⟩] [0])
 (.seq
  (.seq
   (.reg 1 [⟨(some 3), none, (.q (.mov (.t 0)))⟩, ⟨(some 4), none, (.call 169 [(.t 3)])⟩, ⟨(some 5), none, (.q (.not (.t 4)))⟩] [0, 5])
   (.cond (.t 5)
    (.seq
     (.reg 2 [⟨(some 2), none, (.q (.mov (.c (.str []))))⟩] [2])
     .ret)
    .skip))
  (.seq
   (.reg 3 [⟨(some 6), none, (.call 257 [])⟩, ⟨(some 7), none, (.q (.mov (.t 0)))⟩, ⟨(some 8), none, (.q (.idx none 5 1 (.t 6) (.t 7)))⟩, ⟨(some 2), none, (.q (.mov (.t 8)))⟩] [2])
   .ret)))
theorem fok207 : FOK Tryz.prog 207 (9, ic207, [(.t 2)]) := .mk (pf := []) (an := [(0, [0]), (1, [0, 5]), (2, [2]), (3, [2])]) (by kernel_rfl) (fnOK_of Tryz.func207 (by kernel_rfl) (by kernel_rfl) (by kernel_rfl))
def ic208 : IC :=
(.seq
 (.reg 0 [⟨(some 5), none, (.boxt (.t 2))⟩, ⟨(some 6), none, (.q (.mov (.c (.bool false))))⟩] [0, 1, 5])
 (.seq
  (.reg 1 [⟨(some 7), none, (.q (.mov (.t 0)))⟩, ⟨(some 8), none, (.q (.len 0 (.t 7)))⟩, ⟨(some 9), none, (.q (.mov (.t 1)))⟩, ⟨(some 10), none, (.q (.bin .leq (.t 8) (.t 9)))⟩, ⟨(some 11), none, (.q (.mov (.t 10)))⟩, ⟨(some 12), (some ⟨11, true⟩), (.q (.mov (.t 0)))⟩, ⟨(some 13), (some ⟨11, true⟩), (.q (.mkf 258 [] [(.t 5)]))⟩, ⟨(some 14), (some ⟨11, true⟩), (.call 75 [(.t 12), (.t 13)])⟩, ⟨(some 15), (some ⟨11, true⟩), (.q (.not (.t 14)))⟩, ⟨(some 16), none, (.q (.pick (.t 11) (.t 15) (.c (.bool false))))⟩, ⟨(some 6), none, (.q (.mov (.t 16)))⟩] [6])
  .ret))
theorem fok208 : FOK Tryz.prog 208 (17, ic208, [(.t 6)]) := .mk (pf := [1000005]) (an := [(0, [0, 1, 5]), (1, [6])]) (by kernel_rfl) (fnOK_of Tryz.func208 (by kernel_rfl) (by kernel_rfl) (by kernel_rfl))
def ic209 : IC :=
(.seq
 (.reg 0 [⟨(some 5), none, (.boxt (.t 2))⟩, ⟨(some 6), none, (.q (.mov (.c (.bool false))))⟩] [0, 1, 5])
 (.seq
  (.reg 1 [⟨(some 7), none, (.q (.mov (.t 0)))⟩, ⟨(some 8), none, (.q (.len 0 (.t 7)))⟩, ⟨(some 9), none, (.q (.mov (.t 1)))⟩, ⟨(some 10), none, (.q (.bin .leq (.t 8) (.t 9)))⟩, ⟨(some 11), none, (.q (.mov (.t 10)))⟩, ⟨(some 12), (some ⟨11, true⟩), (.q (.mov (.t 0)))⟩, ⟨(some 13), (some ⟨11, true⟩), (.q (.mkf 260 [] [(.t 5)]))⟩, ⟨(some 14), (some ⟨11, true⟩), (.call 259 [(.t 12), (.t 13)])⟩, ⟨(some 15), (some ⟨11, true⟩), (.q (.not (.t 14)))⟩, ⟨(some 16), none, (.q (.pick (.t 11) (.t 15) (.c (.bool false))))⟩, ⟨(some 6), none, (.q (.mov (.t 16)))⟩] [6])
  .ret))
theorem fok209 : FOK Tryz.prog 209 (17, ic209, [(.t 6)]) := .mk (pf := [1000005]) (an := [(0, [0, 1, 5]), (1, [6])]) (by kernel_rfl) (fnOK_of Tryz.func209 (by kernel_rfl) (by kernel_rfl) (by kernel_rfl))
def ic210 : IC :=
(.seq
 (.reg 0 [⟨(some 1), none, (.boxt (.t 0))⟩, ⟨(some 2), none, (.q (.mov (.c .nilfunc)))⟩] [1])
 (.seq
  (.reg 1 [⟨(some 3), none, (.q (.mkf 261 [] [(.t 1)]))⟩, ⟨(some 2), none, (.q (.mov (.t 3)))⟩] [2])
  .ret))
theorem fok210 : FOK Tryz.prog 210 (4, ic210, [(.t 2)]) := .mk (pf := [1000001]) (an := [(0, [1]), (1, [2])]) (by kernel_rfl) (fnOK_of Tryz.func210 (by kernel_rfl) (by kernel_rfl) (by kernel_rfl))
def ic211 : IC :=
(.seq
 (.reg 0 [⟨(some 5), none, (.boxt (.t 2))⟩, ⟨(some 6), none, (.q (.mov (.c (.bool false))))⟩] [0, 1, 5])
 (.seq
  (.reg 1 [⟨(some 7), none, (.q (.mov (.t 0)))⟩, ⟨(some 8), none, (.q (.len 0 (.t 7)))⟩, ⟨(some 9), none, (.q (.mov (.t 1)))⟩, ⟨(some 10), none, (.q (.bin .leq (.t 8) (.t 9)))⟩, ⟨(some 11), none, (.q (.mov (.t 10)))⟩, ⟨(some 12), (some ⟨11, true⟩), (.q (.mov (.t 0)))⟩, ⟨(some 13), (some ⟨11, true⟩), (.q (.mkf 262 [] [(.t 5)]))⟩, ⟨(some 14), (some ⟨11, true⟩), (.call 181 [(.t 12), (.t 13)])⟩, ⟨(some 15), (some ⟨11, true⟩), (.q (.not (.t 14)))⟩, ⟨(some 16), none, (.q (.pick (.t 11) (.t 15) (.c (.bool false))))⟩, ⟨(some 6), none, (.q (.mov (.t 16)))⟩] [6])
  .ret))
theorem fok211 : FOK Tryz.prog 211 (17, ic211, [(.t 6)]) := .mk (pf := [1000005]) (an := [(0, [0, 1, 5]), (1, [6])]) (by kernel_rfl) (fnOK_of Tryz.func211 (by kernel_rfl) (by kernel_rfl) (by kernel_rfl))
def ic212 : IC :=
(.seq
 (.reg 0 [⟨(some 2), none, (.boxt (.t 0))⟩, ⟨(some 3), none, (.q (.mov (.c (.bool false))))⟩] [1, 2])
 (.seq
  (.reg 1 [⟨(some 4), none, (.q (.load (some 7) (.t 2)))⟩, ⟨(some 5), none, (.q (.load none (.t 1)))⟩, ⟨(some 6), none, (.call 213 [(.t 4), (.t 5)])⟩, ⟨(some 7), none, (.q (.bin .eql (.t 6) (.c (.int .i64 0))))⟩, ⟨(some 3), none, (.q (.mov (.t 7)))⟩] [3])
  .ret))
theorem fok212 : FOK Tryz.prog 212 (8, ic212, [(.t 3)]) := .mk (pf := [1000002]) (an := [(0, [1, 2]), (1, [3])]) (by kernel_rfl) (fnOK_of Tryz.func212 (by kernel_rfl) (by kernel_rfl) (by kernel_rfl))
def ic213 : IC :=
(.seq
 (.reg 0 [⟨(some 2), none, (.boxt (.t 0))⟩, ⟨(some 3), none, (.boxt (.t 1))⟩, ⟨(some 4), none, (.alloc [(.int .i64 0)])⟩] [2, 3, 4])
 (.seq
  (.block 0
   (.seq
    (.reg 1 [⟨(some 9), none, (.q (.load none (.t 3)))⟩, ⟨(some 10), none, (.q (.bin .lss (.t 9) (.c (.int .u8 1))))⟩, ⟨(some 11), none, (.q (.mov (.t 10)))⟩, ⟨(some 12), (some ⟨11, false⟩), (.q (.load none (.t 3)))⟩, ⟨(some 13), (some ⟨11, false⟩), (.q (.bin .gtr (.t 12) (.c (.int .u8 3))))⟩, ⟨(some 14), none, (.q (.pick (.t 11) (.c (.bool true)) (.t 13)))⟩, ⟨(some 8), none, (.q (.mov (.t 14)))⟩] [2, 3, 4, 8])
    (.cond (.t 8)
     (.seq
      (.reg 2 [⟨none, none, (.store 1 (.t 4) (.c (.int .i64 1)))⟩] [4])
      .ret)
     (.seq
      (.reg 3 [⟨(some 16), none, (.q (.load (some 7) (.t 2)))⟩, ⟨(some 17), none, (.call 263 [(.t 16)])⟩, ⟨(some 18), none, (.q (.bin .gtr (.t 17) (.c (.int .i64 24))))⟩, ⟨(some 15), none, (.q (.mov (.t 18)))⟩] [2, 3, 4, 15])
      (.cond (.t 15)
       (.seq
        (.reg 4 [⟨none, none, (.store 1 (.t 4) (.c (.int .i64 40)))⟩] [4])
        .ret)
       (.seq
        (.reg 5 [⟨(some 20), none, (.q (.load (some 7) (.t 2)))⟩, ⟨(some 21), none, (.call 264 [(.t 20)])⟩, ⟨(some 22), none, (.q (.bin .gtr (.t 21) (.c (.int .i64 8))))⟩, ⟨(some 19), none, (.q (.mov (.t 22)))⟩] [2, 3, 4, 19])
        (.cond (.t 19)
         (.seq
          (.reg 6 [⟨none, none, (.store 1 (.t 4) (.c (.int .i64 21)))⟩] [4])
          .ret)
         .skip)))))))
  (.seq
   (.seq
    (.reg 7 [⟨(some 23), none, (.q (.load (some 7) (.t 2)))⟩, ⟨(some 24), none, (.call 239 [(.t 23)])⟩] [3, 4, 24])
    (.block 1
     (.rfunc (.t 24) [25, 26]
      (.seq
       (.reg 8 [⟨(some 5), none, (.alloc [(.int .u8 0), (.str []), (.int .u8 0), (.int .i64 0), (.str []), (.str []), .nilslice])⟩, ⟨none, none, (.store 7 (.t 5) (.t 25))⟩] [3, 4, 5, 26])
       (.reg 9 [⟨(some 6), none, (.q (.mov (.t 26)))⟩] [3, 4, 5, 6]))
      (.block 2
       (.seq
        (.reg 10 [⟨(some 27), none, (.q (.faddr 0 (.t 5)))⟩, ⟨(some 28), none, (.q (.load none (.t 27)))⟩, ⟨(some 29), none, (.call 265 [(.t 28)])⟩, ⟨(some 7), none, (.alloc [(.int .i64 0), (.int .i64 0), (.bool false), (.int .u8 0)])⟩, ⟨none, none, (.store 4 (.t 7) (.t 29))⟩] [3, 4, 5, 6, 7])
        (.block 3
         (.seq
          (.seq
           (.reg 11 [⟨(some 31), none, (.q (.faddr 3 (.t 7)))⟩, ⟨(some 32), none, (.q (.load none (.t 31)))⟩, ⟨(some 33), none, (.q (.load none (.t 3)))⟩, ⟨(some 34), none, (.q (.bin .lss (.t 32) (.t 33)))⟩, ⟨(some 30), none, (.q (.mov (.t 34)))⟩] [4, 5, 6, 7, 30])
           (.cond (.t 30)
            .skip
            (.seq
            (.reg 12 [⟨(some 35), none, (.q (.mov (.t 6)))⟩, ⟨(some 36), none, (.q (.mov (.t 35)))⟩, ⟨(some 37), (some ⟨36, true⟩), (.q (.faddr 2 (.t 7)))⟩, ⟨(some 38), (some ⟨36, true⟩), (.q (.load none (.t 37)))⟩, ⟨(some 39), (some ⟨36, true⟩), (.q (.not (.t 38)))⟩, ⟨(some 40), none, (.q (.pick (.t 36) (.t 39) (.c (.bool false))))⟩, ⟨(some 30), none, (.q (.mov (.t 40)))⟩] [4, 5, 7, 30])
            (.cond (.t 30)
            .skip
            (.seq
            (.reg 13 [⟨(some 41), none, (.q (.faddr 6 (.t 5)))⟩, ⟨(some 42), none, (.q (.load none (.t 41)))⟩, ⟨(some 43), none, (.q (.len 0 (.t 42)))⟩, ⟨(some 44), none, (.q (.faddr 0 (.t 7)))⟩, ⟨(some 45), none, (.q (.load none (.t 44)))⟩, ⟨(some 46), none, (.q (.bin .lss (.t 43) (.t 45)))⟩, ⟨(some 30), none, (.q (.mov (.t 46)))⟩] [4, 5, 7, 30])
            (.cond (.t 30)
            .skip
            (.reg 14 [⟨(some 47), none, (.q (.faddr 6 (.t 5)))⟩, ⟨(some 48), none, (.q (.load none (.t 47)))⟩, ⟨(some 49), none, (.q (.len 0 (.t 48)))⟩, ⟨(some 50), none, (.q (.faddr 1 (.t 7)))⟩, ⟨(some 51), none, (.q (.load none (.t 50)))⟩, ⟨(some 52), none, (.q (.bin .gtr (.t 49) (.t 51)))⟩, ⟨(some 30), none, (.q (.mov (.t 52)))⟩] [4, 5, 30])))))))
          (.cond (.t 30)
           (.seq
            (.reg 15 [⟨none, none, (.store 1 (.t 4) (.c (.int .i64 4)))⟩] [])
            .ret)
           (.seq
            (.seq
            (.reg 16 [⟨(some 54), none, (.q (.faddr 0 (.t 5)))⟩, ⟨(some 55), none, (.q (.load none (.t 54)))⟩, ⟨(some 56), none, (.q (.bin .eql (.t 55) (.c (.int .u8 1))))⟩, ⟨(some 57), none, (.q (.mov (.t 56)))⟩, ⟨(some 58), (some ⟨57, true⟩), (.q (.faddr 1 (.t 5)))⟩, ⟨(some 59), (some ⟨57, true⟩), (.q (.load (some 5) (.t 58)))⟩, ⟨(some 60), (some ⟨57, true⟩), (.call 157 [(.t 59)])⟩, ⟨(some 61), (some ⟨57, true⟩), (.q (.not (.t 60)))⟩, ⟨(some 62), none, (.q (.pick (.t 57) (.t 61) (.c (.bool false))))⟩, ⟨(some 53), none, (.q (.mov (.t 62)))⟩] [4, 5, 53])
            (.cond (.t 53)
            .skip
            (.reg 17 [⟨(some 63), none, (.q (.faddr 0 (.t 5)))⟩, ⟨(some 64), none, (.q (.load none (.t 63)))⟩, ⟨(some 65), none, (.q (.bin .neq (.t 64) (.c (.int .u8 1))))⟩, ⟨(some 66), none, (.q (.mov (.t 65)))⟩, ⟨(some 67), (some ⟨66, true⟩), (.q (.faddr 1 (.t 5)))⟩, ⟨(some 68), (some ⟨66, true⟩), (.q (.load (some 5) (.t 67)))⟩, ⟨(some 69), (some ⟨66, true⟩), (.q (.bld [(.str []), (.int .u8 0), (.int .i64 0), (.str []), (.str [])] []))⟩, ⟨(some 70), (some ⟨66, true⟩), (.q (.eqs [2, 1, 1, 2, 2] true true (.t 68) (.t 69)))⟩, ⟨(some 71), none, (.q (.pick (.t 66) (.t 70) (.c (.bool false))))⟩, ⟨(some 53), none, (.q (.mov (.t 71)))⟩] [4, 53])))
            (.cond (.t 53)
            (.seq
            (.reg 18 [⟨none, none, (.store 1 (.t 4) (.c (.int .i64 4)))⟩] [])
            .ret)
            .skip))))))))))
   (.seq
    (.reg 19 [⟨none, none, (.store 1 (.t 4) (.c (.int .i64 0)))⟩] [4])
    .ret))))
theorem fok213 : FOK Tryz.prog 213 (72, ic213, [(.cell none 4)]) := .mk (pf := [1000002, 1000003]) (an := [(0, [2, 3, 4]), (1, [2, 3, 4, 8]), (2, [4]), (3, [2, 3, 4, 15]), (4, [4]), (5, [2, 3, 4, 19]), (6, [4]), (7, [3, 4, 24]), (8, [3, 4, 5, 26]), (9, [3, 4, 5, 6]), (10, [3, 4, 5, 6, 7]), (11, [4, 5, 6, 7, 30]), (12, [4, 5, 7, 30]), (13, [4, 5, 7, 30]), (14, [4, 5, 30]), (16, [4, 5, 53]), (17, [4, 53]), (19, [4])]) (by kernel_rfl) (fnOK_of Tryz.func213 (by kernel_rfl) (by kernel_rfl) (by kernel_rfl))
def ic217 : IC :=
 (.seq
 (.reg 0 [oM 8 1, oQ 9 (.bin .add 8 (cI 1)), oM 6 9] [0, 1, 2, 6])
 (.block 0
 (.loop
 (.seq
 (.seq
 (.reg 1 [oM 10 6, oM 11 2, oQ 12 (.bin .lss 10 11)] [0, 1, 2, 6, 12])
 (.cond 12
 .skip
 (.exit 0)))
 (.seq
 (.block 1
 (.seq
 (.reg 3 [oM 15 6, oM 7 15] [0, 1, 2, 6, 7])
 (.block 2
 (.loop
 (.seq
 (.seq
 (.dreg 4 [oM 16 7, oM 17 1, oQ 18 (.bin .gtr 16 17), oM 19 18, gQ 20 19 true (.mov 0), gQ 21 19 true (.mov 7), gQ 22 19 true (.iaddr 1 20 21), gQ 23 19 true (.load none 22), gQ 24 19 true (.mov 0), gQ 25 19 true (.mov 7), gQ 26 19 true (.bin .sub 25 (cI 1)), gQ 27 19 true (.iaddr 1 24 26), gQ 28 19 true (.load none 27), gK 29 19 true (.call 223 [23, 28]), oQ 30 (.pick 19 29 (cB false))] false [0, 1, 2, 6, 7, 30])
 (.cond 30
 .skip
 (.exit 2)))
 (.seq
 (.block 3
 (.dreg 6 [oM 33 0, oM 34 7, oM 35 0, oM 36 7, oQ 37 (.bin .sub 36 (cI 1)), oM 38 0, oM 39 7, oQ 40 (.bin .sub 39 (cI 1)), oQ 41 (.iaddr 1 38 40), oQ 42 (.load none 41), oM 43 0, oM 44 7, oQ 45 (.iaddr 1 43 44), oQ 46 (.load none 45), oQ 47 (.iaddr 1 33 34), oN (.store 1 47 42), oQ 48 (.iaddr 1 35 37), oN (.store 1 48 46)] false [0, 1, 2, 6, 7]))
 (.reg 5 [oM 31 7, oQ 32 (.bin .sub 31 (cI 1)), oM 7 32] [0, 1, 2, 6, 7])))))))
 (.reg 2 [oM 13 6, oQ 14 (.bin .add 13 (cI 1)), oM 6 14] [0, 1, 2, 6]))))))
theorem fok217 : FOK Tryz.prog 217 (49, ic217, []) := fokA [2000000] Tryz.func217 (by kernel_rfl) (by kernel_rfl) (by kernel_rfl) (by kernel_rfl)
def ic218 : IC :=
 (.seq
 (.reg 0 [oM 11 1, oM 6 11] [0, 1, 2, 6])
 (.seq
 (.reg 1 [oM 7 (cI 0)] [0, 1, 2, 6, 7])
 (.seq
 (.reg 2 [oM 12 2, oM 13 1, oQ 14 (.bin .sub 12 13), oM 8 14] [0, 6, 7, 8])
 (.seq
 (.seq
 (.reg 3 [oM 15 8, oQ 16 (.bin .sub 15 (cI 1)), oQ 17 (.bin .quo 16 (cI 2)), oM 9 17] [0, 6, 7, 8, 9])
 (.block 0
 (.loop
 (.seq
 (.seq
 (.reg 4 [oM 18 9, oQ 19 (.bin .geq 18 (cI 0))] [0, 6, 7, 8, 9, 19])
 (.cond 19
 .skip
 (.exit 0)))
 (.seq
 (.block 1
 (.reg 6 [oM 22 0, oM 23 9, oM 24 8, oM 25 6, oK 26 (.call 275 [22, 23, 24, 25])] [0, 6, 7, 8, 9]))
 (.reg 5 [oM 20 9, oQ 21 (.bin .sub 20 (cI 1)), oM 9 21] [0, 6, 7, 8, 9]))))))
 (.seq
 (.reg 7 [oM 27 8, oQ 28 (.bin .sub 27 (cI 1)), oM 10 28] [0, 6, 7, 10])
 (.block 2
 (.loop
 (.seq
 (.seq
 (.reg 8 [oM 29 10, oQ 30 (.bin .geq 29 (cI 0))] [0, 6, 7, 10, 30])
 (.cond 30
 .skip
 (.exit 2)))
 (.seq
 (.block 3
 (.seq
 (.dreg 10 [oM 33 0, oM 34 6, oM 35 0, oM 36 6, oM 37 10, oQ 38 (.bin .add 36 37), oM 39 0, oM 40 6, oM 41 10, oQ 42 (.bin .add 40 41), oQ 43 (.iaddr 1 39 42), oQ 44 (.load none 43), oM 45 0, oM 46 6, oQ 47 (.iaddr 1 45 46), oQ 48 (.load none 47), oQ 49 (.iaddr 1 33 34), oN (.store 1 49 44), oQ 50 (.iaddr 1 35 38), oN (.store 1 50 48)] false [0, 6, 7, 10])
 (.reg 11 [oM 51 0, oM 52 7, oM 53 10, oM 54 6, oK 55 (.call 275 [51, 52, 53, 54])] [0, 6, 7, 10])))
 (.reg 9 [oM 31 10, oQ 32 (.bin .sub 31 (cI 1)), oM 10 32] [0, 6, 7, 10]))))))))))
theorem fok218 : FOK Tryz.prog 218 (56, ic218, []) := fokA [2000000] Tryz.func218 (by kernel_rfl) (by kernel_rfl) (by kernel_rfl) (by kernel_rfl)
def ic219 : IC :=
 (.seq
 (.reg 0 [oM 11 2, oM 12 1, oQ 13 (.bin .sub 11 12), oM 6 13] [0, 1, 6])
 (.seq
 (.reg 1 [oM 14 6, oQ 15 (.bin .geq 14 (cI 8))] [0, 1, 6, 15])
 (.cond 15
 (.seq
 (.reg 2 [oM 16 6, oQ 17 (.conv .u64 16), oK 7 (.alloc [(.int .u64 0)]), oN (.store 1 7 17)] [0, 1, 6, 7])
 (.seq
 (.reg 3 [oM 18 6, oK 19 (.call 276 [18]), oM 8 19] [0, 1, 6, 7, 8])
 (.seq
 (.reg 4 [oM 20 1, oM 21 6, oQ 22 (.bin .quo 21 (cI 4)), oQ 23 (.bin .mul 22 (cI 2)), oQ 24 (.bin .add 20 23), oQ 25 (.bin .sub 24 (cI 1)), oM 9 25] [0, 1, 6, 7, 8, 9])
 (.block 0
 (.loop
 (.seq
 (.seq
 (.reg 5 [oM 26 9, oM 27 1, oM 28 6, oQ 29 (.bin .quo 28 (cI 4)), oQ 30 (.bin .mul 29 (cI 2)), oQ 31 (.bin .add 27 30), oQ 32 (.bin .add 31 (cI 1)), oQ 33 (.bin .leq 26 32)] [0, 1, 6, 7, 8, 9, 33])
 (.cond 33
 .skip
 (.exit 0)))
 (.seq
 (.block 1
 (.seq
 (.reg 7 [oK 36 (.call 277 [7]), oM 37 8, oQ 38 (.bin .sub 37 (.c (.int .u64 1))), oQ 39 (.bin .and 36 38), oQ 40 (.conv .i64 39), oM 10 40] [0, 1, 6, 7, 8, 9, 10])
 (.seq
 (.seq
 (.reg 8 [oM 41 10, oM 42 6, oQ 43 (.bin .geq 41 42)] [0, 1, 6, 7, 8, 9, 10, 43])
 (.cond 43
 (.reg 9 [oM 44 10, oM 45 6, oQ 46 (.bin .sub 44 45), oM 10 46] [0, 1, 6, 7, 8, 9, 10])
 .skip))
 (.dreg 10 [oM 47 0, oM 48 9, oM 49 0, oM 50 1, oM 51 10, oQ 52 (.bin .add 50 51), oM 53 0, oM 54 1, oM 55 10, oQ 56 (.bin .add 54 55), oQ 57 (.iaddr 1 53 56), oQ 58 (.load none 57), oM 59 0, oM 60 9, oQ 61 (.iaddr 1 59 60), oQ 62 (.load none 61), oQ 63 (.iaddr 1 47 48), oN (.store 1 63 58), oQ 64 (.iaddr 1 49 52), oN (.store 1 64 62)] false [0, 1, 6, 7, 8, 9]))))
 (.reg 6 [oM 34 9, oQ 35 (.bin .add 34 (cI 1)), oM 9 35] [0, 1, 6, 7, 8, 9]))))))))
 .skip)))
theorem fok219 : FOK Tryz.prog 219 (65, ic219, []) := fokA [2000000] Tryz.func219 (by kernel_rfl) (by kernel_rfl) (by kernel_rfl) (by kernel_rfl)
def ic220 : IC :=
 (.seq
 (.reg 0 [oM 6 (cI 0), oM 7 (cI 0)] [0, 1, 2])
 (.seq
 (.reg 1 [oM 13 2, oM 14 1, oQ 15 (.bin .sub 13 14), oM 8 15] [0, 1, 8])
 (.seq
 (.reg 2 [oK 9 (.alloc [(zI 0)])] [0, 1, 8, 9])
 (.seq
 (.reg 3 [oM 16 1, oM 17 8, oQ 18 (.bin .quo 17 (cI 4)), oQ 19 (.bin .mul 18 (cI 1)), oQ 20 (.bin .add 16 19), oM 10 20] [0, 1, 8, 9, 10])
 (.seq
 (.reg 4 [oM 21 1, oM 22 8, oQ 23 (.bin .quo 22 (cI 4)), oQ 24 (.bin .mul 23 (cI 2)), oQ 25 (.bin .add 21 24), oM 11 25] [0, 1, 8, 9, 10, 11])
 (.seq
 (.reg 5 [oM 26 1, oM 27 8, oQ 28 (.bin .quo 27 (cI 4)), oQ 29 (.bin .mul 28 (cI 3)), oQ 30 (.bin .add 26 29), oM 12 30] [0, 8, 9, 10, 11, 12])
 (.seq
 (.seq
 (.reg 6 [oM 31 8, oQ 32 (.bin .geq 31 (cI 8))] [0, 8, 9, 10, 11, 12, 32])
 (.cond 32
 (.seq
 (.seq
 (.reg 7 [oM 33 8, oQ 34 (.bin .geq 33 (cI 50))] [0, 9, 10, 11, 12, 34])
 (.cond 34
 (.seq
 (.reg 8 [oM 35 0, oM 36 10, oK 37 (.call 278 [35, 36, 9]), oM 10 37] [0, 9, 10, 11, 12])
 (.seq
 (.reg 9 [oM 38 0, oM 39 11, oK 40 (.call 278 [38, 39, 9]), oM 11 40] [0, 9, 10, 11, 12])
 (.reg 10 [oM 41 0, oM 42 12, oK 43 (.call 278 [41, 42, 9]), oM 12 43] [0, 9, 10, 11, 12])))
 .skip))
 (.reg 11 [oM 44 0, oM 45 10, oM 46 11, oM 47 12, oK 48 (.call 279 [44, 45, 46, 47, 9]), oM 11 48] [9, 11]))
 .skip))
 (.seq
 (.reg 12 [oQ 49 (.load none 9)] [11, 49])
 (.block 0
 (.seq
 (.reg 14 [oQ 52 (.bin .eql 49 (cI 0)), oM 51 52] [11, 49, 51])
 (.cond 51
 (.seq
 (.reg 15 [oM 53 11, oM 6 53, oM 7 (cI 1)] [6, 7])
 .ret)
 (.seq
 (.reg 16 [oQ 55 (.bin .eql 49 (cI 12)), oM 54 55] [11, 54])
 (.cond 54
 (.seq
 (.reg 17 [oM 56 11, oM 6 56, oM 7 (cI 2)] [6, 7])
 .ret)
 (.seq
 (.reg 13 [oM 50 11, oM 6 50, oM 7 (cI 0)] [6, 7])
 .ret))))))))))))))
theorem fok220 : FOK Tryz.prog 220 (57, ic220, [(.t 6), (.t 7)]) := fokA [2000000] Tryz.func220 (by kernel_rfl) (by kernel_rfl) (by kernel_rfl) (by kernel_rfl)
def ic221 : IC :=
 (.seq
 (.reg 0 [oM 8 1, oM 6 8] [0, 2, 6])
 (.seq
 (.reg 1 [oM 9 2, oQ 10 (.bin .sub 9 (cI 1)), oM 7 10] [0, 6, 7])
 (.block 0
 (.loop
 (.seq
 (.seq
 (.reg 2 [oM 11 6, oM 12 7, oQ 13 (.bin .lss 11 12)] [0, 6, 7, 13])
 (.cond 13
 .skip
 (.exit 0)))
 (.block 1
 (.seq
 (.dreg 3 [oM 14 0, oM 15 6, oM 16 0, oM 17 7, oM 18 0, oM 19 7, oQ 20 (.iaddr 1 18 19), oQ 21 (.load none 20), oM 22 0, oM 23 6, oQ 24 (.iaddr 1 22 23), oQ 25 (.load none 24), oQ 26 (.iaddr 1 14 15), oN (.store 1 26 21), oQ 27 (.iaddr 1 16 17), oN (.store 1 27 25)] false [0, 6, 7])
 (.seq
 (.reg 4 [oM 28 6, oQ 29 (.bin .add 28 (cI 1)), oM 6 29] [0, 6, 7])
 (.reg 5 [oM 30 7, oQ 31 (.bin .sub 30 (cI 1)), oM 7 31] [0, 6, 7])))))))))
theorem fok221 : FOK Tryz.prog 221 (32, ic221, []) := fokA [2000000] Tryz.func221 (by kernel_rfl) (by kernel_rfl) (by kernel_rfl) (by kernel_rfl)
def ic222 : IC :=
 (.seq
 (.reg 0 [oM 6 (cB false)] [0, 1, 2])
 (.seq
 (.reg 1 [oM 11 1, oQ 12 (.bin .add 11 (cI 1)), oM 7 12] [0, 1, 2, 7])
 (.seq
 (.seq
 (.reg 2 [oM 8 (cI 0)] [0, 1, 2, 7, 8])
 (.block 0
 (.loop
 (.seq
 (.seq
 (.reg 3 [oM 13 8, oQ 14 (.bin .lss 13 (cI 5))] [0, 1, 2, 7, 8, 14])
 (.cond 14
 .skip
 (.exit 0)))
 (.seq
 (.block 1
 (.seq
 (.block 2
 (.loop
 (.seq
 (.seq
 (.dreg 5 [oM 17 7, oM 18 2, oQ 19 (.bin .lss 17 18), oM 20 19, gQ 21 20 true (.mov 0), gQ 22 20 true (.mov 7), gQ 23 20 true (.iaddr 1 21 22), gQ 24 20 true (.load none 23), gQ 25 20 true (.mov 0), gQ 26 20 true (.mov 7), gQ 27 20 true (.bin .sub 26 (cI 1)), gQ 28 20 true (.iaddr 1 25 27), gQ 29 20 true (.load none 28), gK 30 20 true (.call 223 [24, 29]), gQ 31 20 true (.not 30), oQ 32 (.pick 20 31 (cB false))] false [0, 1, 2, 7, 8, 32])
 (.cond 32
 .skip
 (.exit 2)))
 (.block 3
 (.reg 6 [oM 33 7, oQ 34 (.bin .add 33 (cI 1)), oM 7 34] [0, 1, 2, 7, 8])))))
 (.seq
 (.seq
 (.reg 7 [oM 35 7, oM 36 2, oQ 37 (.bin .eql 35 36)] [0, 1, 2, 7, 8, 37])
 (.cond 37
 (.seq
 (.reg 8 [oM 6 (cB true)] [6])
 .ret)
 .skip))
 (.seq
 (.seq
 (.reg 9 [oM 38 2, oM 39 1, oQ 40 (.bin .sub 38 39), oQ 41 (.bin .lss 40 (cI 50))] [0, 1, 2, 7, 8, 41])
 (.cond 41
 (.seq
 (.reg 10 [oM 6 (cB false)] [6])
 .ret)
 .skip))
 (.seq
 (.dreg 11 [oM 42 0, oM 43 7, oM 44 0, oM 45 7, oQ 46 (.bin .sub 45 (cI 1)), oM 47 0, oM 48 7, oQ 49 (.bin .sub 48 (cI 1)), oQ 50 (.iaddr 1 47 49), oQ 51 (.load none 50), oM 52 0, oM 53 7, oQ 54 (.iaddr 1 52 53), oQ 55 (.load none 54), oQ 56 (.iaddr 1 42 43), oN (.store 1 56 51), oQ 57 (.iaddr 1 44 46), oN (.store 1 57 55)] false [0, 1, 2, 7, 8])
 (.seq
 (.seq
 (.reg 12 [oM 58 7, oM 59 1, oQ 60 (.bin .sub 58 59), oQ 61 (.bin .geq 60 (cI 2))] [0, 1, 2, 7, 8, 61])
 (.cond 61
 (.seq
 (.reg 13 [oM 62 7, oQ 63 (.bin .sub 62 (cI 1)), oM 9 63] [0, 1, 2, 7, 8, 9])
 (.block 4
 (.loop
 (.seq
 (.seq
 (.reg 14 [oM 64 9, oQ 65 (.bin .geq 64 (cI 1))] [0, 1, 2, 7, 8, 9, 65])
 (.cond 65
 .skip
 (.exit 4)))
 (.seq
 (.block 5
 (.seq
 (.seq
 (.dreg 16 [oM 68 0, oM 69 9, oQ 70 (.iaddr 1 68 69), oQ 71 (.load none 70), oM 72 0, oM 73 9, oQ 74 (.bin .sub 73 (cI 1)), oQ 75 (.iaddr 1 72 74), oQ 76 (.load none 75), oK 77 (.call 223 [71, 76]), oQ 78 (.not 77)] false [0, 1, 2, 7, 8, 9, 78])
 (.cond 78
 (.exit 4)
 .skip))
 (.dreg 17 [oM 79 0, oM 80 9, oM 81 0, oM 82 9, oQ 83 (.bin .sub 82 (cI 1)), oM 84 0, oM 85 9, oQ 86 (.bin .sub 85 (cI 1)), oQ 87 (.iaddr 1 84 86), oQ 88 (.load none 87), oM 89 0, oM 90 9, oQ 91 (.iaddr 1 89 90), oQ 92 (.load none 91), oQ 93 (.iaddr 1 79 80), oN (.store 1 93 88), oQ 94 (.iaddr 1 81 83), oN (.store 1 94 92)] false [0, 1, 2, 7, 8, 9])))
 (.reg 15 [oM 66 9, oQ 67 (.bin .sub 66 (cI 1)), oM 9 67] [0, 1, 2, 7, 8, 9]))))))
 .skip))
 (.seq
 (.reg 18 [oM 95 2, oM 96 7, oQ 97 (.bin .sub 95 96), oQ 98 (.bin .geq 97 (cI 2))] [0, 1, 2, 7, 8, 98])
 (.cond 98
 (.seq
 (.reg 19 [oM 99 7, oQ 100 (.bin .add 99 (cI 1)), oM 10 100] [0, 1, 2, 7, 8, 10])
 (.block 6
 (.loop
 (.seq
 (.seq
 (.reg 20 [oM 101 10, oM 102 2, oQ 103 (.bin .lss 101 102)] [0, 1, 2, 7, 8, 10, 103])
 (.cond 103
 .skip
 (.exit 6)))
 (.seq
 (.block 7
 (.seq
 (.seq
 (.dreg 22 [oM 106 0, oM 107 10, oQ 108 (.iaddr 1 106 107), oQ 109 (.load none 108), oM 110 0, oM 111 10, oQ 112 (.bin .sub 111 (cI 1)), oQ 113 (.iaddr 1 110 112), oQ 114 (.load none 113), oK 115 (.call 223 [109, 114]), oQ 116 (.not 115)] false [0, 1, 2, 7, 8, 10, 116])
 (.cond 116
 (.exit 6)
 .skip))
 (.dreg 23 [oM 117 0, oM 118 10, oM 119 0, oM 120 10, oQ 121 (.bin .sub 120 (cI 1)), oM 122 0, oM 123 10, oQ 124 (.bin .sub 123 (cI 1)), oQ 125 (.iaddr 1 122 124), oQ 126 (.load none 125), oM 127 0, oM 128 10, oQ 129 (.iaddr 1 127 128), oQ 130 (.load none 129), oQ 131 (.iaddr 1 117 118), oN (.store 1 131 126), oQ 132 (.iaddr 1 119 121), oN (.store 1 132 130)] false [0, 1, 2, 7, 8, 10])))
 (.reg 21 [oM 104 10, oQ 105 (.bin .add 104 (cI 1)), oM 10 105] [0, 1, 2, 7, 8, 10]))))))
 .skip))))))))
 (.reg 4 [oM 15 8, oQ 16 (.bin .add 15 (cI 1)), oM 8 16] [0, 1, 2, 7, 8]))))))
 (.seq
 (.reg 24 [oM 6 (cB false)] [6])
 .ret))))
theorem fok222 : FOK Tryz.prog 222 (133, ic222, [(.t 6)]) := fokA [2000000] Tryz.func222 (by kernel_rfl) (by kernel_rfl) (by kernel_rfl) (by kernel_rfl)
def ic223 : IC :=
 (.seq
 (.reg 0 [oM 4 (cB false)] [0, 1])
 (.seq
 (.reg 1 [oM 5 0, oK 6 (.call 195 [5]), oM 7 6, gQ 8 7 true (.mov 1), gK 9 7 true (.call 195 [8]), gQ 10 7 true (.not 9), oQ 11 (.pick 7 10 (cB false)), oM 12 11, gQ 13 12 false (.mov 0), gQ 14 12 false (.mov 1), gQ 15 12 false (.bin .lss 13 14), oQ 16 (.pick 12 (cB true) 15), oM 4 16] [4])
 .ret))
theorem fok223 : FOK Tryz.prog 223 (17, ic223, [(.t 4)]) := fokA [2000000] Tryz.func223 (by kernel_rfl) (by kernel_rfl) (by kernel_rfl) (by kernel_rfl)
def ic224 : IC :=
 (.seq
 (.reg 0 [oM 8 (cI 0)] [0, 1, 2, 3])
 (.seq
 (.dreg 1 [oM 11 0, oM 12 1, oM 13 0, oM 14 3, oM 15 0, oM 16 3, oQ 17 (.iaddr 1 15 16), oQ 18 (.load none 17), oM 19 0, oM 20 1, oQ 21 (.iaddr 1 19 20), oQ 22 (.load none 21), oQ 23 (.iaddr 1 11 12), oN (.store 1 23 18), oQ 24 (.iaddr 1 13 14), oN (.store 1 24 22)] false [0, 1, 2])
 (.seq
 (.reg 2 [oM 25 1, oQ 26 (.bin .add 25 (cI 1)), oM 27 2, oQ 28 (.bin .sub 27 (cI 1)), oM 9 26, oM 10 28] [0, 1, 9, 10])
 (.seq
 (.block 0
 (.loop
 (.block 1
 (.seq
 (.block 2
 (.loop
 (.seq
 (.seq
 (.dreg 3 [oM 29 9, oM 30 10, oQ 31 (.bin .leq 29 30), oM 32 31, gQ 33 32 true (.mov 0), gQ 34 32 true (.mov 1), gQ 35 32 true (.iaddr 1 33 34), gQ 36 32 true (.load none 35), gQ 37 32 true (.mov 0), gQ 38 32 true (.mov 9), gQ 39 32 true (.iaddr 1 37 38), gQ 40 32 true (.load none 39), gK 41 32 true (.call 223 [36, 40]), gQ 42 32 true (.not 41), oQ 43 (.pick 32 42 (cB false))] false [0, 1, 9, 10, 43])
 (.cond 43
 .skip
 (.exit 2)))
 (.block 3
 (.reg 4 [oM 44 9, oQ 45 (.bin .add 44 (cI 1)), oM 9 45] [0, 1, 9, 10])))))
 (.seq
 (.block 4
 (.loop
 (.seq
 (.seq
 (.dreg 5 [oM 46 9, oM 47 10, oQ 48 (.bin .leq 46 47), oM 49 48, gQ 50 49 true (.mov 0), gQ 51 49 true (.mov 1), gQ 52 49 true (.iaddr 1 50 51), gQ 53 49 true (.load none 52), gQ 54 49 true (.mov 0), gQ 55 49 true (.mov 10), gQ 56 49 true (.iaddr 1 54 55), gQ 57 49 true (.load none 56), gK 58 49 true (.call 223 [53, 57]), oQ 59 (.pick 49 58 (cB false))] false [0, 1, 9, 10, 59])
 (.cond 59
 .skip
 (.exit 4)))
 (.block 5
 (.reg 6 [oM 60 10, oQ 61 (.bin .sub 60 (cI 1)), oM 10 61] [0, 1, 9, 10])))))
 (.seq
 (.seq
 (.reg 7 [oM 62 9, oM 63 10, oQ 64 (.bin .gtr 62 63)] [0, 1, 9, 10, 64])
 (.cond 64
 (.exit 0)
 .skip))
 (.seq
 (.dreg 8 [oM 65 0, oM 66 9, oM 67 0, oM 68 10, oM 69 0, oM 70 10, oQ 71 (.iaddr 1 69 70), oQ 72 (.load none 71), oM 73 0, oM 74 9, oQ 75 (.iaddr 1 73 74), oQ 76 (.load none 75), oQ 77 (.iaddr 1 65 66), oN (.store 1 77 72), oQ 78 (.iaddr 1 67 68), oN (.store 1 78 76)] false [0, 1, 9, 10])
 (.seq
 (.reg 9 [oM 79 9, oQ 80 (.bin .add 79 (cI 1)), oM 9 80] [0, 1, 9, 10])
 (.reg 10 [oM 81 10, oQ 82 (.bin .sub 81 (cI 1)), oM 10 82] [0, 1, 9, 10])))))))))
 (.seq
 (.reg 11 [oM 83 9, oM 8 83] [8])
 .ret)))))
theorem fok224 : FOK Tryz.prog 224 (84, ic224, [(.t 8)]) := fokA [2000000] Tryz.func224 (by kernel_rfl) (by kernel_rfl) (by kernel_rfl) (by kernel_rfl)
def ic225 : IC :=
 (.seq
 (.reg 0 [oM 8 (cI 0), oM 9 (cB false)] [0, 1, 2, 3])
 (.seq
 (.dreg 1 [oM 12 0, oM 13 1, oM 14 0, oM 15 3, oM 16 0, oM 17 3, oQ 18 (.iaddr 1 16 17), oQ 19 (.load none 18), oM 20 0, oM 21 1, oQ 22 (.iaddr 1 20 21), oQ 23 (.load none 22), oQ 24 (.iaddr 1 12 13), oN (.store 1 24 19), oQ 25 (.iaddr 1 14 15), oN (.store 1 25 23)] false [0, 1, 2])
 (.seq
 (.reg 2 [oM 26 1, oQ 27 (.bin .add 26 (cI 1)), oM 28 2, oQ 29 (.bin .sub 28 (cI 1)), oM 10 27, oM 11 29] [0, 1, 10, 11])
 (.seq
 (.block 0
 (.loop
 (.seq
 (.seq
 (.dreg 3 [oM 30 10, oM 31 11, oQ 32 (.bin .leq 30 31), oM 33 32, gQ 34 33 true (.mov 0), gQ 35 33 true (.mov 10), gQ 36 33 true (.iaddr 1 34 35), gQ 37 33 true (.load none 36), gQ 38 33 true (.mov 0), gQ 39 33 true (.mov 1), gQ 40 33 true (.iaddr 1 38 39), gQ 41 33 true (.load none 40), gK 42 33 true (.call 223 [37, 41]), oQ 43 (.pick 33 42 (cB false))] false [0, 1, 10, 11, 43])
 (.cond 43
 .skip
 (.exit 0)))
 (.block 1
 (.reg 4 [oM 44 10, oQ 45 (.bin .add 44 (cI 1)), oM 10 45] [0, 1, 10, 11])))))
 (.seq
 (.block 2
 (.loop
 (.seq
 (.seq
 (.dreg 5 [oM 46 10, oM 47 11, oQ 48 (.bin .leq 46 47), oM 49 48, gQ 50 49 true (.mov 0), gQ 51 49 true (.mov 11), gQ 52 49 true (.iaddr 1 50 51), gQ 53 49 true (.load none 52), gQ 54 49 true (.mov 0), gQ 55 49 true (.mov 1), gQ 56 49 true (.iaddr 1 54 55), gQ 57 49 true (.load none 56), gK 58 49 true (.call 223 [53, 57]), gQ 59 49 true (.not 58), oQ 60 (.pick 49 59 (cB false))] false [0, 1, 10, 11, 60])
 (.cond 60
 .skip
 (.exit 2)))
 (.block 3
 (.reg 6 [oM 61 11, oQ 62 (.bin .sub 61 (cI 1)), oM 11 62] [0, 1, 10, 11])))))
 (.seq
 (.seq
 (.reg 7 [oM 63 10, oM 64 11, oQ 65 (.bin .gtr 63 64)] [0, 1, 10, 11, 65])
 (.cond 65
 (.seq
 (.dreg 8 [oM 66 0, oM 67 11, oM 68 0, oM 69 1, oM 70 0, oM 71 1, oQ 72 (.iaddr 1 70 71), oQ 73 (.load none 72), oM 74 0, oM 75 11, oQ 76 (.iaddr 1 74 75), oQ 77 (.load none 76), oQ 78 (.iaddr 1 66 67), oN (.store 1 78 73), oQ 79 (.iaddr 1 68 69), oN (.store 1 79 77)] false [11])
 (.seq
 (.reg 9 [oM 80 11, oM 8 80, oM 9 (cB true)] [8, 9])
 .ret))
 .skip))
 (.seq
 (.dreg 10 [oM 81 0, oM 82 10, oM 83 0, oM 84 11, oM 85 0, oM 86 11, oQ 87 (.iaddr 1 85 86), oQ 88 (.load none 87), oM 89 0, oM 90 10, oQ 91 (.iaddr 1 89 90), oQ 92 (.load none 91), oQ 93 (.iaddr 1 81 82), oN (.store 1 93 88), oQ 94 (.iaddr 1 83 84), oN (.store 1 94 92)] false [0, 1, 10, 11])
 (.seq
 (.reg 11 [oM 95 10, oQ 96 (.bin .add 95 (cI 1)), oM 10 96] [0, 1, 10, 11])
 (.seq
 (.reg 12 [oM 97 11, oQ 98 (.bin .sub 97 (cI 1)), oM 11 98] [0, 1, 10, 11])
 (.seq
 (.block 4
 (.loop
 (.block 5
 (.seq
 (.block 6
 (.loop
 (.seq
 (.seq
 (.dreg 13 [oM 99 10, oM 100 11, oQ 101 (.bin .leq 99 100), oM 102 101, gQ 103 102 true (.mov 0), gQ 104 102 true (.mov 10), gQ 105 102 true (.iaddr 1 103 104), gQ 106 102 true (.load none 105), gQ 107 102 true (.mov 0), gQ 108 102 true (.mov 1), gQ 109 102 true (.iaddr 1 107 108), gQ 110 102 true (.load none 109), gK 111 102 true (.call 223 [106, 110]), oQ 112 (.pick 102 111 (cB false))] false [0, 1, 10, 11, 112])
 (.cond 112
 .skip
 (.exit 6)))
 (.block 7
 (.reg 14 [oM 113 10, oQ 114 (.bin .add 113 (cI 1)), oM 10 114] [0, 1, 10, 11])))))
 (.seq
 (.block 8
 (.loop
 (.seq
 (.seq
 (.dreg 15 [oM 115 10, oM 116 11, oQ 117 (.bin .leq 115 116), oM 118 117, gQ 119 118 true (.mov 0), gQ 120 118 true (.mov 11), gQ 121 118 true (.iaddr 1 119 120), gQ 122 118 true (.load none 121), gQ 123 118 true (.mov 0), gQ 124 118 true (.mov 1), gQ 125 118 true (.iaddr 1 123 124), gQ 126 118 true (.load none 125), gK 127 118 true (.call 223 [122, 126]), gQ 128 118 true (.not 127), oQ 129 (.pick 118 128 (cB false))] false [0, 1, 10, 11, 129])
 (.cond 129
 .skip
 (.exit 8)))
 (.block 9
 (.reg 16 [oM 130 11, oQ 131 (.bin .sub 130 (cI 1)), oM 11 131] [0, 1, 10, 11])))))
 (.seq
 (.seq
 (.reg 17 [oM 132 10, oM 133 11, oQ 134 (.bin .gtr 132 133)] [0, 1, 10, 11, 134])
 (.cond 134
 (.exit 4)
 .skip))
 (.seq
 (.dreg 18 [oM 135 0, oM 136 10, oM 137 0, oM 138 11, oM 139 0, oM 140 11, oQ 141 (.iaddr 1 139 140), oQ 142 (.load none 141), oM 143 0, oM 144 10, oQ 145 (.iaddr 1 143 144), oQ 146 (.load none 145), oQ 147 (.iaddr 1 135 136), oN (.store 1 147 142), oQ 148 (.iaddr 1 137 138), oN (.store 1 148 146)] false [0, 1, 10, 11])
 (.seq
 (.reg 19 [oM 149 10, oQ 150 (.bin .add 149 (cI 1)), oM 10 150] [0, 1, 10, 11])
 (.reg 20 [oM 151 11, oQ 152 (.bin .sub 151 (cI 1)), oM 11 152] [0, 1, 10, 11])))))))))
 (.seq
 (.dreg 21 [oM 153 0, oM 154 11, oM 155 0, oM 156 1, oM 157 0, oM 158 1, oQ 159 (.iaddr 1 157 158), oQ 160 (.load none 159), oM 161 0, oM 162 11, oQ 163 (.iaddr 1 161 162), oQ 164 (.load none 163), oQ 165 (.iaddr 1 153 154), oN (.store 1 165 160), oQ 166 (.iaddr 1 155 156), oN (.store 1 166 164)] false [11])
 (.seq
 (.reg 22 [oM 167 11, oM 8 167, oM 9 (cB false)] [8, 9])
 .ret))))))))))))
theorem fok225 : FOK Tryz.prog 225 (168, ic225, [(.t 8), (.t 9)]) := fokA [2000000] Tryz.func225 (by kernel_rfl) (by kernel_rfl) (by kernel_rfl) (by kernel_rfl)
end Go.Id.Tryz
