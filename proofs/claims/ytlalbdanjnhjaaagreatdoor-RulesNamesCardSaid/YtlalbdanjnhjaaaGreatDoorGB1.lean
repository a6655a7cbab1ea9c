/- The compiled codes of functions, written by a program out of the given form. Conditions: none. -/
import Derived.Test.YtlalbdanjnhjaaaGreatDoorFwW
import Derived.Test.YtlalbdanjnhjaaaGreatDoorProg
set_option linter.all false
namespace Go.Id.Tryz
open Go Go.Id Go.Proofs
def allF1 : List Nat := List.range 345
def ic164 : IC :=
(.seq
 (.reg 0 [⟨(some 2), none, (.alloc [(.int .i64 0), (.int .i64 0), (.bool false), (.int .u8 0)])⟩] [0, 2])
 (.seq
  (.reg 1 [⟨(some 4), none, (.q (.bld [(.int .i64 0), (.int .i64 0), (.bool false), (.int .u8 0)] [⟨0, ⟨1, (.c (.int .i64 0))⟩⟩, ⟨1, ⟨1, (.c (.int .i64 0))⟩⟩, ⟨2, ⟨1, (.c (.bool true))⟩⟩, ⟨3, ⟨1, (.c (.int .u8 3))⟩⟩]))⟩, ⟨(some 5), none, (.q (.bld [(.int .i64 0), (.int .i64 0), (.bool false), (.int .u8 0)] [⟨0, ⟨1, (.c (.int .i64 2))⟩⟩, ⟨1, ⟨1, (.c (.int .i64 24))⟩⟩, ⟨2, ⟨1, (.c (.bool true))⟩⟩, ⟨3, ⟨1, (.c (.int .u8 3))⟩⟩]))⟩, ⟨(some 6), none, (.q (.bld [(.int .i64 0), (.int .i64 0), (.bool false), (.int .u8 0)] [⟨0, ⟨1, (.c (.int .i64 2))⟩⟩, ⟨1, ⟨1, (.c (.int .i64 24))⟩⟩, ⟨2, ⟨1, (.c (.bool true))⟩⟩, ⟨3, ⟨1, (.c (.int .u8 3))⟩⟩]))⟩, ⟨(some 7), none, (.q (.bld [(.int .i64 0), (.int .i64 0), (.bool false), (.int .u8 0)] [⟨0, ⟨1, (.c (.int .i64 2))⟩⟩, ⟨1, ⟨1, (.c (.int .i64 3))⟩⟩, ⟨2, ⟨1, (.c (.bool false))⟩⟩, ⟨3, ⟨1, (.c (.int .u8 1))⟩⟩]))⟩, ⟨(some 8), none, (.q (.bld [(.int .i64 0), (.int .i64 0), (.bool false), (.int .u8 0)] [⟨0, ⟨1, (.c (.int .i64 2))⟩⟩, ⟨1, ⟨1, (.c (.int .i64 3))⟩⟩, ⟨2, ⟨1, (.c (.bool false))⟩⟩, ⟨3, ⟨1, (.c (.int .u8 2))⟩⟩]))⟩, ⟨(some 9), none, (.q (.bld [(.int .i64 0), (.int .i64 0), (.bool false), (.int .u8 0)] [⟨0, ⟨1, (.c (.int .i64 2))⟩⟩, ⟨1, ⟨1, (.c (.int .i64 24))⟩⟩, ⟨2, ⟨1, (.c (.bool true))⟩⟩, ⟨3, ⟨1, (.c (.int .u8 3))⟩⟩]))⟩, ⟨(some 10), none, (.q (.bld [(.int .i64 0), (.int .i64 0), (.bool false), (.int .u8 0)] [⟨0, ⟨1, (.c (.int .i64 2))⟩⟩, ⟨1, ⟨1, (.c (.int .i64 2))⟩⟩, ⟨2, ⟨1, (.c (.bool true))⟩⟩, ⟨3, ⟨1, (.c (.int .u8 3))⟩⟩]))⟩, ⟨(some 11), none, (.q (.bld [(.int .i64 0), (.int .i64 0), (.bool false), (.int .u8 0), (.int .i64 0), (.int .i64 0), (.bool false), (.int .u8 0), (.int .i64 0), (.int .i64 0), (.bool false), (.int .u8 0), (.int .i64 0), (.int .i64 0), (.bool false), (.int .u8 0), (.int .i64 0), (.int .i64 0), (.bool false), (.int .u8 0), (.int .i64 0), (.int .i64 0), (.bool false), (.int .u8 0), (.int .i64 0), (.int .i64 0), (.bool false), (.int .u8 0), (.int .i64 0), (.int .i64 0), (.bool false), (.int .u8 0)] [⟨4, ⟨4, (.t 4)⟩⟩, ⟨8, ⟨4, (.t 5)⟩⟩, ⟨12, ⟨4, (.t 6)⟩⟩, ⟨16, ⟨4, (.t 7)⟩⟩, ⟨20, ⟨4, (.t 8)⟩⟩, ⟨24, ⟨4, (.t 9)⟩⟩, ⟨28, ⟨4, (.t 10)⟩⟩]))⟩, ⟨(some 3), none, (.alloc [(.int .i64 0), (.int .i64 0), (.bool false), (.int .u8 0), (.int .i64 0), (.int .i64 0), (.bool false), (.int .u8 0), (.int .i64 0), (.int .i64 0), (.bool false), (.int .u8 0), (.int .i64 0), (.int .i64 0), (.bool false), (.int .u8 0), (.int .i64 0), (.int .i64 0), (.bool false), (.int .u8 0), (.int .i64 0), (.int .i64 0), (.bool false), (.int .u8 0), (.int .i64 0), (.int .i64 0), (.bool false), (.int .u8 0), (.int .i64 0), (.int .i64 0), (.bool false), (.int .u8 0)])⟩, ⟨none, none, (.store 32 (.t 3) (.t 11))⟩] [0, 2, 3])
  (.seq
   (.seq
    (.reg 2 [⟨(some 12), none, (.q (.mov (.t 0)))⟩, ⟨(some 13), none, (.q (.conv .i64 (.t 12)))⟩, ⟨(some 14), none, (.q (.bin .geq (.t 13) (.c (.int .i64 8))))⟩] [0, 2, 3, 14])
    (.cond (.t 14)
     (.seq
      (.reg 3 [⟨(some 15), none, (.q (.bld [(.int .i64 0), (.int .i64 0), (.bool false), (.int .u8 0)] []))⟩, ⟨none, none, (.store 4 (.t 2) (.t 15))⟩] [2])
      .ret)
     .skip))
   (.seq
    (.reg 4 [⟨(some 16), none, (.q (.mov (.t 0)))⟩, ⟨(some 17), none, (.q (.aaddr 8 4 (.t 3) (.t 16)))⟩, ⟨(some 18), none, (.q (.load (some 4) (.t 17)))⟩, ⟨none, none, (.store 4 (.t 2) (.t 18))⟩] [2])
    .ret))))
theorem fok164 : FOK Tryz.prog 164 (19, ic164, [(.cell (some 4) 2)]) := .mk (pf := []) (an := [(0, [0, 2]), (1, [0, 2, 3]), (2, [0, 2, 3, 14]), (3, [2]), (4, [2])]) (by kernel_rfl) (fnOK_of Tryz.func164 (by kernel_rfl) (by kernel_rfl) (by kernel_rfl))
def ic165 : IC :=
 (.seq
 (.reg 0 [oK 4 (.boxt 1), oM 6 (cI 0)] [0, 2, 4])
 (.seq
 (.dreg 1 [oM 7 0, oM 8 0, oQ 9 (.nchk 8), oQ 10 (.faddr 0 9), oQ 11 (.load none 10), oQ 12 (.faddr 1 4), oQ 13 (.load (some 5) 12), oK 14 (.pcall 159 [11, 13]), oM 15 2, oK 16 (.pcall 217 [14, 15]), oK 17 (.call 216 [7, 16]), oM 6 17] false [6])
 .ret))
theorem fok165 : FOK Tryz.prog 165 (18, ic165, [(.t 6)]) := fokA ([1000004] ++ [159, 217]) Tryz.func165 (by kernel_rfl) (by kernel_rfl) (by kernel_rfl) (by kernel_rfl)
def ic166 : IC :=
 (.seq
 (.reg 0 [oK 4 (.boxt 1), oM 6 (cI 0)] [0, 2, 4])
 (.seq
 (.reg 1 [oM 7 0, oM 8 0, oQ 9 (.load (some 7) 4), oM 10 2, oK 11 (.call 219 [8, 9, 10]), oK 12 (.call 218 [7, 11]), oM 6 12] [6])
 .ret))
theorem fok166 : FOK Tryz.prog 166 (13, ic166, [(.t 6)]) := fokA [1000004] Tryz.func166 (by kernel_rfl) (by kernel_rfl) (by kernel_rfl) (by kernel_rfl)
def ic167 : IC :=
 (.seq
 (.reg 0 [oK 4 (.boxt 1), oM 6 (cI 0)] [0, 2, 4])
 (.seq
 (.reg 1 [oM 7 0, oM 8 0, oQ 9 (.load (some 7) 4), oM 10 2, oK 11 (.call 219 [8, 9, 10]), oK 12 (.call 220 [7, 11]), oM 6 12] [6])
 .ret))
theorem fok167 : FOK Tryz.prog 167 (13, ic167, [(.t 6)]) := fokA [1000004] Tryz.func167 (by kernel_rfl) (by kernel_rfl) (by kernel_rfl) (by kernel_rfl)
def ic168 : IC :=
 (.seq
 (.reg 0 [oK 4 (.boxt 1), oM 6 (cI 0)] [0, 2, 4])
 (.seq
 (.reg 1 [oM 8 0, oQ 9 (.load (some 7) 4), oM 10 2, oK 11 (.call 219 [8, 9, 10]), oM 7 11] [0, 7])
 (.seq
 (.seq
 (.reg 2 [oM 12 7, oQ 13 (.len 0 12), oQ 14 (.bin .eql 13 (cI 3))] [0, 7, 14])
 (.cond 14
 (.seq
 (.dreg 3 [oM 15 0, oM 16 7, oQ 17 (.iaddr 1 16 (cI 0)), oQ 18 (.load none 17), oM 19 7, oQ 20 (.iaddr 1 19 (cI 2)), oQ 21 (.load none 20), oM 22 7, oQ 23 (.iaddr 1 22 (cI 1)), oQ 24 (.load none 23), oK 25 (.call 221 [15, 18, 21, 24]), oM 6 25] false [6])
 .ret)
 .skip))
 (.seq
 (.dreg 4 [oM 26 0, oM 27 7, oQ 28 (.iaddr 1 27 (cI 0)), oQ 29 (.load none 28), oM 30 7, oQ 31 (.iaddr 1 30 (cI 1)), oQ 32 (.load none 31), oQ 33 (.neg 32), oK 34 (.bslt 1 2 [(zI 0)] [⟨0, ⟨1, 29⟩⟩, ⟨1, ⟨1, 33⟩⟩]), oK 35 (.call 220 [26, 34]), oM 6 35] false [6])
 .ret))))
theorem fok168 : FOK Tryz.prog 168 (36, ic168, [(.t 6)]) := fokA [1000004, 1000034] Tryz.func168 (by kernel_rfl) (by kernel_rfl) (by kernel_rfl) (by kernel_rfl)
def ic169 : IC :=
 (.seq
 (.reg 0 [oK 4 (.boxt 1), oM 6 (cI 0)] [0, 2, 4])
 (.seq
 (.reg 1 [oM 8 0, oQ 9 (.load (some 7) 4), oM 10 2, oK 11 (.call 219 [8, 9, 10]), oM 7 11] [0, 7])
 (.seq
 (.seq
 (.reg 2 [oM 12 7, oQ 13 (.len 0 12), oQ 14 (.bin .eql 13 (cI 3))] [0, 7, 14])
 (.cond 14
 (.seq
 (.dreg 3 [oM 15 0, oM 16 7, oQ 17 (.iaddr 1 16 (cI 2)), oQ 18 (.load none 17), oM 19 7, oQ 20 (.iaddr 1 19 (cI 0)), oQ 21 (.load none 20), oM 22 7, oQ 23 (.iaddr 1 22 (cI 1)), oQ 24 (.load none 23), oK 25 (.call 221 [15, 18, 21, 24]), oM 6 25] false [6])
 .ret)
 .skip))
 (.seq
 (.dreg 4 [oM 26 0, oM 27 7, oQ 28 (.iaddr 1 27 (cI 0)), oQ 29 (.load none 28), oM 30 7, oQ 31 (.iaddr 1 30 (cI 1)), oQ 32 (.load none 31), oQ 33 (.neg 32), oK 34 (.bslt 1 2 [(zI 0)] [⟨0, ⟨1, 29⟩⟩, ⟨1, ⟨1, 33⟩⟩]), oK 35 (.call 218 [26, 34]), oM 6 35] false [6])
 .ret))))
theorem fok169 : FOK Tryz.prog 169 (36, ic169, [(.t 6)]) := fokA [1000004, 1000034] Tryz.func169 (by kernel_rfl) (by kernel_rfl) (by kernel_rfl) (by kernel_rfl)
def ic170 : IC :=
 (.seq
 (.reg 0 [oK 4 (.boxt 1), oM 6 (cI 0)] [0, 2, 4])
 (.seq
 (.reg 1 [oM 7 (.c .nilslice)] [0, 2, 4, 7])
 (.seq
 (.seq
 (.reg 2 [oM 10 0, oQ 11 (.nchk 10), oQ 12 (.faddr 1 11), oQ 13 (.load none 12), oQ 14 (.len 0 13), oM 15 (cI 0)] [0, 2, 4, 7, 13, 14, 15])
 (.block 0
 (.loop
 (.seq
 (.reg 3 [oQ 16 (.bin .lss 15 14)] [0, 2, 4, 7, 13, 14, 15, 16])
 (.seq
 (.cond 16
 .skip
 (.exit 0))
 (.seq
 (.block 1
 (.seq
 (.reg 4 [oM 17 15, oQ 18 (.iaddr 15 13 15), oQ 19 (.load (some 15) 18), oK 9 (.alloc [(.str []), (zI 0), (.str []), (.str []), (zU 0), (.str []), .nilslice, .nilslice, .nilslice, .nilslice, .nilslice, .nilslice, .nilslice, .nilslice, .nilslice]), oM 8 17, oN (.store 15 9 19)] [0, 2, 4, 7, 8, 9, 13, 14, 15])
 (.seq
 (.reg 5 [oQ 20 (.load (some 15) 9), oQ 21 (.load (some 7) 4), oK 22 (.call 222 [20, 21])] [0, 2, 4, 7, 8, 13, 14, 15, 22])
 (.cond 22
 (.reg 6 [oM 23 7, oM 24 8, oK 25 (.bslt 1 1 [(zI 0)] [⟨0, ⟨1, 24⟩⟩]), oK 26 (.app 1 23 25), oM 7 26] [0, 2, 4, 7, 13, 14, 15])
 .skip))))
 (.reg 7 [oQ 27 (.bin .add 15 (cI 1)), oM 15 27] [0, 2, 4, 7, 13, 14, 15])))))))
 (.seq
 (.reg 8 [oM 28 0, oM 29 7, oM 30 2, oK 31 (.call 217 [29, 30]), oK 32 (.call 216 [28, 31]), oM 6 32] [6])
 .ret))))
theorem fok170 : FOK Tryz.prog 170 (33, ic170, [(.t 6)]) := fokA [1000004, 1000025] Tryz.func170 (by kernel_rfl) (by kernel_rfl) (by kernel_rfl) (by kernel_rfl)
def ic171 : IC :=
(.seq
 (.reg 0 [⟨(some 4), none, (.q (.mov (.c (.int .i64 0))))⟩] [0, 1])
 (.seq
  (.seq
   (.reg 1 [⟨(some 6), none, (.q (.mov (.t 0)))⟩, ⟨(some 7), none, (.q (.len 0 (.t 6)))⟩, ⟨(some 8), none, (.q (.mov (.c (.int .i64 0))))⟩] [0, 1, 7, 8])
   (.block 0
    (.loop
     (.seq
      (.reg 2 [⟨(some 9), none, (.q (.bin .lss (.t 8) (.t 7)))⟩] [0, 1, 7, 8, 9])
      (.seq
       (.cond (.t 9)
        .skip
        (.exit 0))
       (.seq
        (.block 1
         (.seq
          (.reg 3 [⟨(some 10), none, (.q (.mov (.t 8)))⟩, ⟨(some 5), none, (.q (.mov (.t 10)))⟩] [0, 1, 5, 7, 8])
          (.seq
           (.reg 4 [⟨(some 11), none, (.q (.mov (.t 1)))⟩, ⟨(some 12), none, (.q (.mov (.t 0)))⟩, ⟨(some 13), none, (.q (.mov (.t 5)))⟩, ⟨(some 14), none, (.q (.iaddr 1 (.t 12) (.t 13)))⟩, ⟨(some 15), none, (.q (.load none (.t 14)))⟩, ⟨(some 16), none, (.q (.bin .eql (.t 11) (.t 15)))⟩] [0, 1, 5, 7, 8, 16])
           (.cond (.t 16)
            (.seq
            (.reg 5 [⟨(some 17), none, (.q (.mov (.t 5)))⟩, ⟨(some 4), none, (.q (.mov (.t 17)))⟩] [4])
            .ret)
            .skip))))
        (.reg 6 [⟨(some 18), none, (.q (.bin .add (.t 8) (.c (.int .i64 1))))⟩, ⟨(some 8), none, (.q (.mov (.t 18)))⟩] [0, 1, 7, 8])))))))
  (.seq
   (.reg 7 [⟨(some 4), none, (.q (.mov (.c (.int .i64 (-1)))))⟩] [4])
   .ret)))
theorem fok171 : FOK Tryz.prog 171 (19, ic171, [(.t 4)]) := .mk (pf := []) (an := [(0, [0, 1]), (1, [0, 1, 7, 8]), (2, [0, 1, 7, 8, 9]), (3, [0, 1, 5, 7, 8]), (4, [0, 1, 5, 7, 8, 16]), (5, [4]), (6, [0, 1, 7, 8]), (7, [4])]) (by kernel_rfl) (fnOK_of Tryz.func171 (by kernel_rfl) (by kernel_rfl) (by kernel_rfl))
def ic172 : IC :=
 (.seq
 (.reg 0 [oM 4 (cI 0)] [0, 1])
 (.seq
 (.seq
 (.reg 1 [oM 5 0, oK 6 (.call 149 [5]), oQ 7 (.not 6), oM 8 7, gQ 9 8 false (.mov 1), gK 10 8 false (.call 149 [9]), gQ 11 8 false (.not 10), oQ 12 (.pick 8 (cB true) 11)] [0, 1, 12])
 (.cond 12
 (.seq
 (.reg 2 [oM 4 (cI 0)] [4])
 .ret)
 .skip))
 (.seq
 (.reg 3 [oK 13 (.call 223 []), oM 14 0, oQ 15 (.idx (some 5) 5 5 13 14), oM 16 1, oQ 17 (.idx none 5 1 15 16), oM 4 17] [4])
 .ret)))
theorem fok172 : FOK Tryz.prog 172 (18, ic172, [(.t 4)]) := fokA [] Tryz.func172 (by kernel_rfl) (by kernel_rfl) (by kernel_rfl) (by kernel_rfl)
def ic173 : IC :=
 (.seq
 (.reg 0 [oM 2 (cI 0)] [0])
 (.seq
 (.seq
 (.reg 1 [oM 6 0, oQ 7 (.len 0 6), oM 8 (cI 0)] [6, 7, 8])
 (.block 0
 (.loop
 (.seq
 (.reg 2 [oQ 9 (.bin .lss 8 7)] [6, 7, 8, 9])
 (.seq
 (.cond 9
 .skip
 (.exit 0))
 (.seq
 (.block 1
 (.seq
 (.reg 3 [oQ 10 (.iaddr 1 6 8), oQ 11 (.load none 10), oM 4 11] [4, 6, 7, 8])
 (.seq
 (.reg 4 [oM 12 4, oK 13 (.callv 12 []), oM 5 13] [5, 6, 7, 8])
 (.seq
 (.reg 5 [oM 14 5, oQ 15 (.bin .neq 14 (cI 0))] [5, 6, 7, 8, 15])
 (.cond 15
 (.seq
 (.reg 6 [oM 16 5, oM 2 16] [2])
 .ret)
 .skip)))))
 (.reg 7 [oQ 17 (.bin .add 8 (cI 1)), oM 8 17] [6, 7, 8])))))))
 (.seq
 (.reg 8 [oM 2 (cI 0)] [2])
 .ret)))
theorem fok173 : FOK Tryz.prog 173 (18, ic173, [(.t 2)]) := fokA [] Tryz.func173 (by kernel_rfl) (by kernel_rfl) (by kernel_rfl) (by kernel_rfl)
def ic174 : IC :=
 (.seq
 (.reg 0 [oM 2 (cI 0)] [0, 1])
 (.seq
 (.reg 1 [oQ 3 (.faddr 0 0), oQ 4 (.load none 3), oQ 5 (.faddr 0 1), oQ 6 (.load none 5), oK 7 (.call 175 [4, 6]), oM 2 7] [2])
 .ret))
theorem fok174 : FOK Tryz.prog 174 (8, ic174, [(.t 2)]) := fokA [] Tryz.func174 (by kernel_rfl) (by kernel_rfl) (by kernel_rfl) (by kernel_rfl)
def ic175 : IC :=
 (.seq
 (.reg 0 [oM 4 (cI 0)] [0, 1])
 (.seq
 (.reg 1 [oM 7 0, oK 8 (.call 224 [7]), oM 5 8] [0, 1, 5])
 (.seq
 (.reg 2 [oM 9 1, oK 10 (.call 224 [9]), oM 6 10] [0, 1, 5, 6])
 (.seq
 (.seq
 (.reg 3 [oM 11 5] [0, 1, 6, 11])
 (.cond 11
 (.seq
 (.seq
 (.reg 4 [oM 12 6] [12])
 (.cond 12
 (.seq
 (.reg 5 [oM 4 (cI 0)] [4])
 .ret)
 .skip))
 (.seq
 (.reg 6 [oM 4 (cI (-1))] [4])
 .ret))
 .skip))
 (.seq
 (.seq
 (.reg 7 [oM 13 6] [0, 1, 13])
 (.cond 13
 (.seq
 (.reg 8 [oM 4 (cI 1)] [4])
 .ret)
 .skip))
 (.seq
 (.seq
 (.reg 9 [oM 14 0, oM 15 1, oQ 16 (.bin .lss 14 15)] [0, 1, 16])
 (.cond 16
 (.seq
 (.reg 10 [oM 4 (cI (-1))] [4])
 .ret)
 .skip))
 (.seq
 (.seq
 (.reg 11 [oM 17 0, oM 18 1, oQ 19 (.bin .gtr 17 18)] [19])
 (.cond 19
 (.seq
 (.reg 12 [oM 4 (cI 1)] [4])
 .ret)
 .skip))
 (.seq
 (.reg 13 [oM 4 (cI 0)] [4])
 .ret))))))))
theorem fok175 : FOK Tryz.prog 175 (20, ic175, [(.t 4)]) := fokA [] Tryz.func175 (by kernel_rfl) (by kernel_rfl) (by kernel_rfl) (by kernel_rfl)
def ic176 : IC :=
 (.seq
 (.reg 0 [oM 2 (cI 0)] [0, 1])
 (.seq
 (.reg 1 [oQ 3 (.faddr 1 0), oQ 4 (.load none 3), oQ 5 (.faddr 1 1), oQ 6 (.load none 5), oK 7 (.call 177 [4, 6]), oM 2 7] [2])
 .ret))
theorem fok176 : FOK Tryz.prog 176 (8, ic176, [(.t 2)]) := fokA [] Tryz.func176 (by kernel_rfl) (by kernel_rfl) (by kernel_rfl) (by kernel_rfl)
def ic177 : IC :=
 (.seq
 (.reg 0 [oM 4 (cI 0)] [0, 1])
 (.seq
 (.reg 1 [oM 9 0, oK 10 (.call 225 [9]), oQ 11 (.bld [(zU 0), (.str [])] [⟨0, ⟨1, (.c (zU 2))⟩⟩]), oK 12 (.bslt 2 1 [(zU 0), (.str [])] [⟨0, ⟨2, 11⟩⟩]), oK 13 (.app 2 10 12), oM 14 1, oK 15 (.call 225 [14]), oQ 16 (.bld [(zU 0), (.str [])] [⟨0, ⟨1, (.c (zU 2))⟩⟩]), oK 17 (.bslt 2 1 [(zU 0), (.str [])] [⟨0, ⟨2, 16⟩⟩]), oK 18 (.app 2 15 17), oM 5 13, oM 6 18] [5, 6])
 (.seq
 (.seq
 (.reg 2 [oM 19 5, oQ 20 (.len 0 19), oM 21 6, oQ 22 (.len 0 21), oQ 23 (.mm false 20 22), oM 24 (cI 0)] [5, 6, 23, 24])
 (.block 0
 (.loop
 (.seq
 (.reg 3 [oQ 25 (.bin .lss 24 23)] [5, 6, 23, 24, 25])
 (.seq
 (.cond 25
 .skip
 (.exit 0))
 (.seq
 (.block 1
 (.seq
 (.reg 4 [oM 26 24, oM 7 26] [5, 6, 7, 23, 24])
 (.seq
 (.dreg 5 [oM 27 5, oM 28 7, oQ 29 (.iaddr 2 27 28), oQ 30 (.load (some 2) 29), oM 31 6, oM 32 7, oQ 33 (.iaddr 2 31 32), oQ 34 (.load (some 2) 33), oK 35 (.call 226 [30, 34]), oM 8 35] false [5, 6, 8, 23, 24])
 (.seq
 (.reg 6 [oM 36 8, oQ 37 (.bin .neq 36 (cI 0))] [5, 6, 8, 23, 24, 37])
 (.cond 37
 (.seq
 (.reg 7 [oM 38 8, oM 4 38] [4])
 .ret)
 .skip)))))
 (.reg 8 [oQ 39 (.bin .add 24 (cI 1)), oM 24 39] [5, 6, 23, 24])))))))
 (.seq
 (.reg 9 [oM 4 (cI 0)] [4])
 .ret))))
theorem fok177 : FOK Tryz.prog 177 (40, ic177, [(.t 4)]) := fokA [1000012, 1000017] Tryz.func177 (by kernel_rfl) (by kernel_rfl) (by kernel_rfl) (by kernel_rfl)
def ic178 : IC :=
 (.seq
 (.reg 0 [oM 2 (cI 0)] [0, 1])
 (.seq
 (.seq
 (.reg 1 [oQ 3 (.faddr 2 0), oQ 4 (.load none 3), oQ 5 (.bin .eql 4 (.c (.str []))), oM 6 5, gQ 7 6 false (.faddr 2 1), gQ 8 6 false (.load none 7), gQ 9 6 false (.bin .eql 8 (.c (.str []))), oQ 10 (.pick 6 (cB true) 9)] [0, 1, 10])
 (.cond 10
 (.seq
 (.reg 2 [oM 2 (cI 0)] [2])
 .ret)
 .skip))
 (.seq
 (.reg 3 [oQ 11 (.faddr 2 0), oQ 12 (.load none 11), oQ 13 (.faddr 2 1), oQ 14 (.load none 13), oK 15 (.call 177 [12, 14]), oM 2 15] [2])
 .ret)))
theorem fok178 : FOK Tryz.prog 178 (16, ic178, [(.t 2)]) := fokA [] Tryz.func178 (by kernel_rfl) (by kernel_rfl) (by kernel_rfl) (by kernel_rfl)
def ic179 : IC :=
 (.seq
 (.reg 0 [oK 3 (.boxt 1), oM 4 (cB false)] [0, 3])
 (.seq
 (.reg 1 [oM 5 0, oQ 6 (.load (some 2) 3), oK 7 (.call 227 [5, 6]), oQ 8 (.bin .geq 7 (cI 0)), oM 4 8] [4])
 .ret))
theorem fok179 : FOK Tryz.prog 179 (9, ic179, [(.t 4)]) := fokA [1000003] Tryz.func179 (by kernel_rfl) (by kernel_rfl) (by kernel_rfl) (by kernel_rfl)
def ic188 : IC :=
 (.seq
 (.reg 0 [oK 2 (.boxt 0), oK 3 (.boxt 1), oM 4 (cB false)] [2, 3])
 (.seq
 (.reg 1 [oQ 5 (.faddr 0 2), oQ 6 (.load none 5), oQ 7 (.faddr 0 3), oQ 8 (.load none 7), oQ 9 (.bin .eql 6 8), oM 10 9, gQ 11 10 true (.load (some 5) 2), gQ 12 10 true (.load (some 5) 3), gK 13 10 true (.call 234 [11, 12]), oQ 14 (.pick 10 13 (cB false)), oM 4 14] [4])
 .ret))
theorem fok188 : FOK Tryz.prog 188 (15, ic188, [(.t 4)]) := fokA [1000002, 1000003] Tryz.func188 (by kernel_rfl) (by kernel_rfl) (by kernel_rfl) (by kernel_rfl)
def ic189 : IC :=
 (.seq
 (.reg 0 [oK 1 (.boxt 0), oK 2 (.alloc [(.str []), (zU 0), (zI 0), (.str []), (.str [])])] [1, 2])
 (.seq
 (.reg 1 [oQ 3 (.faddr 0 1), oQ 4 (.load none 3), oQ 5 (.faddr 1 1), oQ 6 (.load (some 3) 5), oK 7 (.call 235 [4, 6]), oN (.store 5 2 7)] [2])
 .ret))
theorem fok189 : FOK Tryz.prog 189 (8, ic189, [(.cell (some 5) 2)]) := fokA [1000001] Tryz.func189 (by kernel_rfl) (by kernel_rfl) (by kernel_rfl) (by kernel_rfl)
def ic190 : IC :=
 (.seq
 (.reg 0 [oM 4 (cB false)] [0, 1])
 (.seq
 (.reg 1 [oM 5 0, oQ 6 (.isnil (.pointer 180) true 5), oM 7 6, gQ 8 7 true (.mov 1), gQ 9 7 true (.bin .geq 8 (cI 0)), oQ 10 (.pick 7 9 (cB false)), oM 11 10, gQ 12 11 true (.mov 1), gQ 13 11 true (.mov 0), gQ 14 11 true (.nchk 13), gQ 15 11 true (.faddr 0 14), gQ 16 11 true (.load none 15), gQ 17 11 true (.len 0 16), gQ 18 11 true (.bin .lss 12 17), oQ 19 (.pick 11 18 (cB false)), oM 4 19] [4])
 .ret))
theorem fok190 : FOK Tryz.prog 190 (20, ic190, [(.t 4)]) := fokA [] Tryz.func190 (by kernel_rfl) (by kernel_rfl) (by kernel_rfl) (by kernel_rfl)
def ic191 : IC :=
 (.seq
 (.reg 0 [oK 4 (.boxt 0), oM 6 (cB false)] [1, 2, 3, 4])
 (.seq
 (.dreg 1 [oM 7 1, oQ 8 (.load none 2), oQ 9 (.bin .neq 7 8), oM 10 9, gQ 11 10 true (.load (some 15) 4), gQ 12 10 true (.load none 3), gQ 13 10 true (.nchk 12), gQ 14 10 true (.faddr 0 13), gQ 15 10 true (.load none 14), gQ 16 10 true (.load none 2), gQ 17 10 true (.iaddr 15 15 16), gQ 18 10 true (.load (some 15) 17), gK 19 10 true (.call 192 [11, 18]), oQ 20 (.pick 10 19 (cB false)), oM 6 20] false [6])
 .ret))
theorem fok191 : FOK Tryz.prog 191 (21, ic191, [(.t 6)]) := fokA [1000004] Tryz.func191 (by kernel_rfl) (by kernel_rfl) (by kernel_rfl) (by kernel_rfl)
def ic192 : IC :=
 (.seq
 (.reg 0 [oK 2 (.boxt 0), oK 3 (.boxt 1), oM 4 (cB false)] [2, 3])
 (.seq
 (.reg 1 [oQ 5 (.faddr 9 2), oQ 6 (.load none 5), oQ 7 (.mkf 237 [] [3]), oK 8 (.call 236 [6, 7]), oM 4 8] [4])
 .ret))
theorem fok192 : FOK Tryz.prog 192 (9, ic192, [(.t 4)]) := fokA [1000002, 1000003] Tryz.func192 (by kernel_rfl) (by kernel_rfl) (by kernel_rfl) (by kernel_rfl)
def ic193 : IC :=
 (.seq
 (.reg 0 [oM 8 (cB true)] [0, 1, 2, 3, 8])
 (.seq
 (.reg 1 [oM 9 (cB true)] [0, 1, 2, 3, 8, 9])
 (.block 0
 (.loop
 (.block 1
 (.seq
 (.reg 2 [oM 19 2, oM 20 1, oQ 21 (.bin .sub 19 20), oM 10 21] [0, 1, 2, 3, 8, 9, 10])
 (.seq
 (.seq
 (.reg 3 [oM 22 10, oQ 23 (.bin .leq 22 (cI 12))] [0, 1, 2, 3, 8, 9, 10, 23])
 (.cond 23
 (.seq
 (.reg 4 [oM 24 0, oM 25 1, oM 26 2, oK 27 (.call 238 [24, 25, 26])] [])
 .ret)
 .skip))
 (.seq
 (.seq
 (.reg 5 [oM 28 3, oQ 29 (.bin .eql 28 (cI 0))] [0, 1, 2, 3, 8, 9, 10, 29])
 (.cond 29
 (.seq
 (.reg 6 [oM 30 0, oM 31 1, oM 32 2, oK 33 (.call 239 [30, 31, 32])] [])
 .ret)
 .skip))
 (.seq
 (.seq
 (.reg 7 [oM 34 8, oQ 35 (.not 34)] [0, 1, 2, 3, 8, 9, 10, 35])
 (.cond 35
 (.seq
 (.reg 8 [oM 36 0, oM 37 1, oM 38 2, oK 39 (.call 240 [36, 37, 38])] [0, 1, 2, 3, 8, 9, 10])
 (.reg 9 [oM 40 3, oQ 41 (.bin .sub 40 (cI 1)), oM 3 41] [0, 1, 2, 3, 8, 9, 10]))
 .skip))
 (.seq
 (.reg 10 [oM 43 0, oM 44 1, oM 45 2, oK 46 (.call 241 [43, 44, 45]), oM 42 46, oQ 47 (.ext 0 42), oQ 48 (.ext 1 42), oM 11 47, oM 12 48] [0, 1, 2, 3, 8, 9, 10, 11, 12])
 (.seq
 (.seq
 (.reg 11 [oM 49 12, oQ 50 (.bin .eql 49 (cI 2))] [0, 1, 2, 3, 8, 9, 10, 11, 12, 50])
 (.cond 50
 (.seq
 (.reg 12 [oM 51 0, oM 52 1, oM 53 2, oK 54 (.call 242 [51, 52, 53])] [0, 1, 2, 3, 8, 9, 10, 11])
 (.seq
 (.reg 13 [oM 55 2, oQ 56 (.bin .sub 55 (cI 1)), oM 57 11, oM 58 1, oQ 59 (.bin .sub 57 58), oQ 60 (.bin .sub 56 59), oM 11 60] [0, 1, 2, 3, 8, 9, 10, 11])
 (.reg 14 [oM 12 (cI 1)] [0, 1, 2, 3, 8, 9, 10, 11, 12])))
 .skip))
 (.seq
 (.seq
 (.reg 15 [oM 61 8, oM 62 61, gQ 63 62 true (.mov 9), oQ 64 (.pick 62 63 (cB false)), oM 65 64, gQ 66 65 true (.mov 12), gQ 67 65 true (.bin .eql 66 (cI 1)), oQ 68 (.pick 65 67 (cB false))] [0, 1, 2, 3, 8, 9, 10, 11, 68])
 (.cond 68
 (.seq
 (.reg 16 [oM 69 0, oM 70 1, oM 71 2, oK 72 (.call 243 [69, 70, 71])] [0, 1, 2, 3, 8, 9, 10, 11, 72])
 (.cond 72
 .ret
 .skip))
 .skip))
 (.seq
 (.seq
 (.dreg 17 [oM 73 1, oQ 74 (.bin .gtr 73 (cI 0)), oM 75 74, gQ 76 75 true (.mov 0), gQ 77 75 true (.mov 1), gQ 78 75 true (.bin .sub 77 (cI 1)), gQ 79 75 true (.iaddr 1 76 78), gQ 80 75 true (.load none 79), gQ 81 75 true (.mov 0), gQ 82 75 true (.mov 11), gQ 83 75 true (.iaddr 1 81 82), gQ 84 75 true (.load none 83), gK 85 75 true (.call 244 [80, 84]), gQ 86 75 true (.not 85), oQ 87 (.pick 75 86 (cB false))] false [0, 1, 2, 3, 8, 9, 10, 11, 87])
 (.cond 87
 (.seq
 (.reg 18 [oM 88 0, oM 89 1, oM 90 2, oM 91 11, oK 92 (.call 245 [88, 89, 90, 91]), oM 13 92] [0, 2, 3, 8, 9, 13])
 (.seq
 (.reg 19 [oM 93 13, oM 1 93] [0, 1, 2, 3, 8, 9])
 (.exit 1)))
 .skip))
 (.seq
 (.reg 20 [oM 95 0, oM 96 1, oM 97 2, oM 98 11, oK 99 (.call 246 [95, 96, 97, 98]), oM 94 99, oQ 100 (.ext 0 94), oQ 101 (.ext 1 94), oM 14 100, oM 15 101] [0, 1, 2, 3, 10, 14, 15])
 (.seq
 (.reg 21 [oM 102 15, oM 9 102] [0, 1, 2, 3, 9, 10, 14])
 (.seq
 (.reg 22 [oM 103 14, oM 104 1, oQ 105 (.bin .sub 103 104), oM 106 2, oM 107 14, oQ 108 (.bin .sub 106 107), oM 16 105, oM 17 108] [0, 1, 2, 3, 9, 10, 14, 16, 17])
 (.seq
 (.reg 23 [oM 109 10, oQ 110 (.bin .quo 109 (cI 8)), oM 18 110] [0, 1, 2, 3, 9, 14, 16, 17, 18])
 (.seq
 (.reg 24 [oM 111 16, oM 112 17, oQ 113 (.bin .lss 111 112)] [0, 1, 2, 3, 9, 14, 16, 17, 18, 113])
 (.cond 113
 (.seq
 (.reg 25 [oM 114 16, oM 115 18, oQ 116 (.bin .geq 114 115), oM 8 116] [0, 1, 2, 3, 8, 9, 14])
 (.seq
 (.reg 26 [oM 117 0, oM 118 1, oM 119 14, oM 120 3, oK 121 (.call 193 [117, 118, 119, 120])] [0, 2, 3, 8, 9, 14])
 (.reg 27 [oM 122 14, oQ 123 (.bin .add 122 (cI 1)), oM 1 123] [0, 1, 2, 3, 8, 9])))
 (.seq
 (.reg 28 [oM 124 17, oM 125 18, oQ 126 (.bin .geq 124 125), oM 8 126] [0, 1, 2, 3, 8, 9, 14])
 (.seq
 (.reg 29 [oM 127 0, oM 128 14, oQ 129 (.bin .add 128 (cI 1)), oM 130 2, oM 131 3, oK 132 (.call 193 [127, 129, 130, 131])] [0, 1, 3, 8, 9, 14])
 (.reg 30 [oM 133 14, oM 2 133] [0, 1, 2, 3, 8, 9]))))))))))))))))))))))
theorem fok193 : FOK Tryz.prog 193 (134, ic193, []) := fokA [] Tryz.func193 (by kernel_rfl) (by kernel_rfl) (by kernel_rfl) (by kernel_rfl)
def ic194 : IC :=
 (.seq
 (.reg 0 [oM 2 (cI 0)] [0])
 (.seq
 (.cond (cB false)
 (.seq
 (.reg 1 [oM 3 0, oQ 4 (.conv .u32 3), oK 5 (.call 247 [4]), oM 2 5] [2])
 .ret)
 .skip)
 (.seq
 (.reg 2 [oM 6 0, oK 7 (.call 248 [6]), oM 2 7] [2])
 .ret)))
theorem fok194 : FOK Tryz.prog 194 (8, ic194, [(.t 2)]) := fokA [] Tryz.func194 (by kernel_rfl) (by kernel_rfl) (by kernel_rfl) (by kernel_rfl)
def ic198 : IC :=
(.seq
 (.reg 0 [⟨(some 2), none, (.q (.mov (.c (.str []))))⟩] [0])
 (.seq
  (.seq
   (.reg 1 [⟨(some 3), none, (.q (.mov (.t 0)))⟩, ⟨(some 4), none, (.call 149 [(.t 3)])⟩, ⟨(some 5), none, (.q (.not (.t 4)))⟩] [0, 5])
   (.cond (.t 5)
    (.seq
     (.reg 2 [⟨(some 2), none, (.q (.mov (.c (.str []))))⟩] [2])
     .ret)
    .skip))
  (.seq
   (.reg 3 [⟨(some 6), none, (.call 250 [])⟩, ⟨(some 7), none, (.q (.mov (.t 0)))⟩, ⟨(some 8), none, (.q (.idx none 5 1 (.t 6) (.t 7)))⟩, ⟨(some 2), none, (.q (.mov (.t 8)))⟩] [2])
   .ret)))
theorem fok198 : FOK Tryz.prog 198 (9, ic198, [(.t 2)]) := .mk (pf := []) (an := [(0, [0]), (1, [0, 5]), (2, [2]), (3, [2])]) (by kernel_rfl) (fnOK_of Tryz.func198 (by kernel_rfl) (by kernel_rfl) (by kernel_rfl))
def ic199 : IC :=
(.seq
 (.reg 0 [⟨(some 5), none, (.boxt (.t 2))⟩, ⟨(some 6), none, (.q (.mov (.c (.bool false))))⟩] [0, 1, 5])
 (.seq
  (.reg 1 [⟨(some 7), none, (.q (.mov (.t 0)))⟩, ⟨(some 8), none, (.q (.len 0 (.t 7)))⟩, ⟨(some 9), none, (.q (.mov (.t 1)))⟩, ⟨(some 10), none, (.q (.bin .leq (.t 8) (.t 9)))⟩, ⟨(some 11), none, (.q (.mov (.t 10)))⟩, ⟨(some 12), (some ⟨11, true⟩), (.q (.mov (.t 0)))⟩, ⟨(some 13), (some ⟨11, true⟩), (.q (.mkf 251 [] [(.t 5)]))⟩, ⟨(some 14), (some ⟨11, true⟩), (.call 236 [(.t 12), (.t 13)])⟩, ⟨(some 15), (some ⟨11, true⟩), (.q (.not (.t 14)))⟩, ⟨(some 16), none, (.q (.pick (.t 11) (.t 15) (.c (.bool false))))⟩, ⟨(some 6), none, (.q (.mov (.t 16)))⟩] [6])
  .ret))
theorem fok199 : FOK Tryz.prog 199 (17, ic199, [(.t 6)]) := .mk (pf := [1000005]) (an := [(0, [0, 1, 5]), (1, [6])]) (by kernel_rfl) (fnOK_of Tryz.func199 (by kernel_rfl) (by kernel_rfl) (by kernel_rfl))
def ic200 : IC :=
(.seq
 (.reg 0 [⟨(some 5), none, (.boxt (.t 2))⟩, ⟨(some 6), none, (.q (.mov (.c (.bool false))))⟩] [0, 1, 5])
 (.seq
  (.reg 1 [⟨(some 7), none, (.q (.mov (.t 0)))⟩, ⟨(some 8), none, (.q (.len 0 (.t 7)))⟩, ⟨(some 9), none, (.q (.mov (.t 1)))⟩, ⟨(some 10), none, (.q (.bin .leq (.t 8) (.t 9)))⟩, ⟨(some 11), none, (.q (.mov (.t 10)))⟩, ⟨(some 12), (some ⟨11, true⟩), (.q (.mov (.t 0)))⟩, ⟨(some 13), (some ⟨11, true⟩), (.q (.mkf 253 [] [(.t 5)]))⟩, ⟨(some 14), (some ⟨11, true⟩), (.call 252 [(.t 12), (.t 13)])⟩, ⟨(some 15), (some ⟨11, true⟩), (.q (.not (.t 14)))⟩, ⟨(some 16), none, (.q (.pick (.t 11) (.t 15) (.c (.bool false))))⟩, ⟨(some 6), none, (.q (.mov (.t 16)))⟩] [6])
  .ret))
theorem fok200 : FOK Tryz.prog 200 (17, ic200, [(.t 6)]) := .mk (pf := [1000005]) (an := [(0, [0, 1, 5]), (1, [6])]) (by kernel_rfl) (fnOK_of Tryz.func200 (by kernel_rfl) (by kernel_rfl) (by kernel_rfl))
def ic201 : IC :=
(.seq
 (.reg 0 [⟨(some 1), none, (.boxt (.t 0))⟩, ⟨(some 2), none, (.q (.mov (.c .nilfunc)))⟩] [1])
 (.seq
  (.reg 1 [⟨(some 3), none, (.q (.mkf 254 [] [(.t 1)]))⟩, ⟨(some 2), none, (.q (.mov (.t 3)))⟩] [2])
  .ret))
theorem fok201 : FOK Tryz.prog 201 (4, ic201, [(.t 2)]) := .mk (pf := [1000001]) (an := [(0, [1]), (1, [2])]) (by kernel_rfl) (fnOK_of Tryz.func201 (by kernel_rfl) (by kernel_rfl) (by kernel_rfl))
def ic202 : IC :=
(.seq
 (.reg 0 [⟨(some 5), none, (.boxt (.t 2))⟩, ⟨(some 6), none, (.q (.mov (.c (.bool false))))⟩] [0, 1, 5])
 (.seq
  (.reg 1 [⟨(some 7), none, (.q (.mov (.t 0)))⟩, ⟨(some 8), none, (.q (.len 0 (.t 7)))⟩, ⟨(some 9), none, (.q (.mov (.t 1)))⟩, ⟨(some 10), none, (.q (.bin .leq (.t 8) (.t 9)))⟩, ⟨(some 11), none, (.q (.mov (.t 10)))⟩, ⟨(some 12), (some ⟨11, true⟩), (.q (.mov (.t 0)))⟩, ⟨(some 13), (some ⟨11, true⟩), (.q (.mkf 255 [] [(.t 5)]))⟩, ⟨(some 14), (some ⟨11, true⟩), (.call 229 [(.t 12), (.t 13)])⟩, ⟨(some 15), (some ⟨11, true⟩), (.q (.not (.t 14)))⟩, ⟨(some 16), none, (.q (.pick (.t 11) (.t 15) (.c (.bool false))))⟩, ⟨(some 6), none, (.q (.mov (.t 16)))⟩] [6])
  .ret))
theorem fok202 : FOK Tryz.prog 202 (17, ic202, [(.t 6)]) := .mk (pf := [1000005]) (an := [(0, [0, 1, 5]), (1, [6])]) (by kernel_rfl) (fnOK_of Tryz.func202 (by kernel_rfl) (by kernel_rfl) (by kernel_rfl))
def ic203 : IC :=
(.seq
 (.reg 0 [⟨(some 2), none, (.boxt (.t 0))⟩, ⟨(some 3), none, (.q (.mov (.c (.bool false))))⟩] [1, 2])
 (.seq
  (.reg 1 [⟨(some 4), none, (.q (.load (some 7) (.t 2)))⟩, ⟨(some 5), none, (.q (.load none (.t 1)))⟩, ⟨(some 6), none, (.call 104 [(.t 4), (.t 5)])⟩, ⟨(some 7), none, (.q (.bin .eql (.t 6) (.c (.int .i64 0))))⟩, ⟨(some 3), none, (.q (.mov (.t 7)))⟩] [3])
  .ret))
theorem fok203 : FOK Tryz.prog 203 (8, ic203, [(.t 3)]) := .mk (pf := [1000002]) (an := [(0, [1, 2]), (1, [3])]) (by kernel_rfl) (fnOK_of Tryz.func203 (by kernel_rfl) (by kernel_rfl) (by kernel_rfl))
def ic204 : IC :=
 (.seq
 (.reg 0 [oM 2 (cB false)] [0])
 (.seq
 (.seq
 (.reg 1 [oM 3 0, oQ 4 (.bin .geq 3 (.c (zU 97))), oM 5 4, gQ 6 5 true (.mov 0), gQ 7 5 true (.bin .leq 6 (.c (zU 122))), oQ 8 (.pick 5 7 (cB false)), oM 9 8, gQ 10 9 false (.mov 0), gQ 11 9 false (.bin .geq 10 (.c (zU 65))), gQ 12 9 false (.mov 11), gQ 13 12 true (.mov 0), gQ 14 12 true (.bin .leq 13 (.c (zU 90))), gQ 15 9 false (.pick 12 14 (cB false)), oQ 16 (.pick 9 (cB true) 15), oM 17 16, gQ 18 17 false (.mov 0), gQ 19 17 false (.bin .geq 18 (.c (zU 48))), gQ 20 17 false (.mov 19), gQ 21 20 true (.mov 0), gQ 22 20 true (.bin .leq 21 (.c (zU 57))), gQ 23 17 false (.pick 20 22 (cB false)), oQ 24 (.pick 17 (cB true) 23)] [0, 24])
 (.cond 24
 (.seq
 (.reg 2 [oM 2 (cB true)] [2])
 .ret)
 .skip))
 (.seq
 (.reg 3 [oM 25 0, oQ 26 (.bin .eql 25 (.c (zU 46))), oM 27 26, gQ 28 27 false (.mov 0), gQ 29 27 false (.bin .eql 28 (.c (zU 95))), oQ 30 (.pick 27 (cB true) 29), oM 31 30, gQ 32 31 false (.mov 0), gQ 33 31 false (.bin .eql 32 (.c (zU 43))), oQ 34 (.pick 31 (cB true) 33), oM 35 34, gQ 36 35 false (.mov 0), gQ 37 35 false (.bin .eql 36 (.c (zU 45))), oQ 38 (.pick 35 (cB true) 37), oM 39 38, gQ 40 39 false (.mov 0), gQ 41 39 false (.bin .eql 40 (.c (zU 47))), oQ 42 (.pick 39 (cB true) 41), oM 43 42, gQ 44 43 false (.mov 0), gQ 45 43 false (.bin .eql 44 (.c (zU 58))), oQ 46 (.pick 43 (cB true) 45), oM 47 46, gQ 48 47 false (.mov 0), gQ 49 47 false (.bin .eql 48 (.c (zU 64))), oQ 50 (.pick 47 (cB true) 49), oM 51 50, gQ 52 51 false (.mov 0), gQ 53 51 false (.bin .eql 52 (.c (zU 126))), oQ 54 (.pick 51 (cB true) 53), oM 55 54, gQ 56 55 false (.mov 0), gQ 57 55 false (.bin .eql 56 (.c (zU 94))), oQ 58 (.pick 55 (cB true) 57), oM 2 58] [2])
 .ret)))
theorem fok204 : FOK Tryz.prog 204 (59, ic204, [(.t 2)]) := fokA [] Tryz.func204 (by kernel_rfl) (by kernel_rfl) (by kernel_rfl) (by kernel_rfl)
def ic205 : IC :=
 (.seq
 (.reg 0 [oM 2 (cB false)] [0])
 (.seq
 (.seq
 (.reg 1 [oM 3 (cI 0)] [0, 3])
 (.block 0
 (.loop
 (.seq
 (.seq
 (.reg 2 [oM 7 3, oM 8 0, oQ 9 (.len 1 8), oQ 10 (.bin .lss 7 9)] [0, 3, 10])
 (.cond 10
 .skip
 (.exit 0)))
 (.seq
 (.block 1
 (.seq
 (.reg 4 [oM 13 0, oM 14 3, oQ 15 (.istr 13 14), oM 4 15] [0, 3, 4])
 (.seq
 (.reg 5 [oM 16 4, oQ 17 (.bin .geq 16 (.c (zU 97))), oM 18 17, gQ 19 18 true (.mov 4), gQ 20 18 true (.bin .leq 19 (.c (zU 122))), oQ 21 (.pick 18 20 (cB false)), oM 22 21, gQ 23 22 false (.mov 4), gQ 24 22 false (.bin .geq 23 (.c (zU 65))), gQ 25 22 false (.mov 24), gQ 26 25 true (.mov 4), gQ 27 25 true (.bin .leq 26 (.c (zU 90))), gQ 28 22 false (.pick 25 27 (cB false)), oQ 29 (.pick 22 (cB true) 28), oM 5 29] [0, 3, 4, 5])
 (.seq
 (.reg 6 [oM 30 4, oQ 31 (.bin .geq 30 (.c (zU 48))), oM 32 31, gQ 33 32 true (.mov 4), gQ 34 32 true (.bin .leq 33 (.c (zU 57))), oQ 35 (.pick 32 34 (cB false)), oM 6 35] [0, 3, 4, 5, 6])
 (.seq
 (.reg 7 [oM 36 5, oQ 37 (.not 36), oM 38 37, gQ 39 38 true (.mov 6), gQ 40 38 true (.not 39), oQ 41 (.pick 38 40 (cB false)), oM 42 41, gQ 43 42 true (.mov 4), gQ 44 42 true (.bin .neq 43 (.c (zU 46))), oQ 45 (.pick 42 44 (cB false)), oM 46 45, gQ 47 46 true (.mov 4), gQ 48 46 true (.bin .neq 47 (.c (zU 95))), oQ 49 (.pick 46 48 (cB false)), oM 50 49, gQ 51 50 true (.mov 4), gQ 52 50 true (.bin .neq 51 (.c (zU 43))), oQ 53 (.pick 50 52 (cB false)), oM 54 53, gQ 55 54 true (.mov 4), gQ 56 54 true (.bin .neq 55 (.c (zU 126))), oQ 57 (.pick 54 56 (cB false)), oM 58 57, gQ 59 58 true (.mov 4), gQ 60 58 true (.bin .neq 59 (.c (zU 94))), oQ 61 (.pick 58 60 (cB false))] [0, 3, 61])
 (.cond 61
 (.seq
 (.reg 8 [oM 2 (cB false)] [2])
 .ret)
 .skip))))))
 (.reg 3 [oM 11 3, oQ 12 (.bin .add 11 (cI 1)), oM 3 12] [0, 3]))))))
 (.seq
 (.reg 9 [oM 62 0, oQ 63 (.len 1 62), oQ 64 (.bin .geq 63 (cI 1)), oM 65 64, gQ 66 65 true (.mov 0), gQ 67 65 true (.len 1 66), gQ 68 65 true (.bin .leq 67 (cI 64)), oQ 69 (.pick 65 68 (cB false)), oM 2 69] [2])
 .ret)))
theorem fok205 : FOK Tryz.prog 205 (70, ic205, [(.t 2)]) := fokA [] Tryz.func205 (by kernel_rfl) (by kernel_rfl) (by kernel_rfl) (by kernel_rfl)
def ic208 : IC :=
(.seq
 (.reg 0 [⟨(some 4), none, (.q (.mov (.c (.int .i64 0))))⟩] [0, 1])
 (.seq
  (.reg 1 [⟨(some 5), none, (.q (.mov (.t 0)))⟩, ⟨(some 6), none, (.q (.mov (.t 1)))⟩, ⟨(some 7), none, (.call 259 [(.t 5), (.t 6)])⟩, ⟨(some 4), none, (.q (.mov (.t 7)))⟩] [4])
  .ret))
theorem fok208 : FOK Tryz.prog 208 (8, ic208, [(.t 4)]) := .mk (pf := []) (an := [(0, [0, 1]), (1, [4])]) (by kernel_rfl) (fnOK_of Tryz.func208 (by kernel_rfl) (by kernel_rfl) (by kernel_rfl))
def ic209 : IC :=
(.seq
 (.reg 0 [⟨(some 2), none, (.q (.mov (.c (.str []))))⟩] [0])
 (.seq
  (.seq
   (.reg 1 [⟨(some 5), none, (.q (.load none (.g 2)))⟩, ⟨(some 6), none, (.mrange (.t 5))⟩] [0, 6])
   (.block 0
    (.loop
     (.seq
      (.reg 2 [⟨(some 7), none, (.mnext (.t 6))⟩, ⟨(some 8), none, (.q (.ext 0 (.t 7)))⟩] [0, 6, 8])
      (.seq
       (.cond (.t 8)
        .skip
        (.exit 0))
       (.block 1
        (.seq
         (.reg 3 [⟨(some 9), none, (.ment (.t 6))⟩, ⟨(some 10), none, (.q (.ext 0 (.t 9)))⟩, ⟨(some 11), none, (.q (.ext 1 (.t 9)))⟩, ⟨(some 3), none, (.q (.mov (.t 10)))⟩, ⟨(some 4), none, (.q (.mov (.t 11)))⟩] [0, 3, 4, 6])
         (.seq
          (.reg 4 [⟨(some 12), none, (.q (.mov (.t 4)))⟩, ⟨(some 13), none, (.q (.mov (.t 0)))⟩, ⟨(some 14), none, (.q (.bin .eql (.t 12) (.t 13)))⟩] [0, 3, 6, 14])
          (.cond (.t 14)
           (.seq
            (.reg 5 [⟨(some 15), none, (.q (.mov (.t 3)))⟩, ⟨(some 2), none, (.q (.mov (.t 15)))⟩] [2])
            .ret)
           .skip)))))))))
  (.seq
   (.reg 6 [⟨(some 2), none, (.q (.mov (.c (.str []))))⟩] [2])
   .ret)))
theorem fok209 : FOK Tryz.prog 209 (16, ic209, [(.t 2)]) := .mk (pf := []) (an := [(0, [0]), (1, [0, 6]), (2, [0, 6, 8]), (3, [0, 3, 4, 6]), (4, [0, 3, 6, 14]), (5, [2]), (6, [2])]) (by kernel_rfl) (fnOK_of Tryz.func209 (by kernel_rfl) (by kernel_rfl) (by kernel_rfl))
def ic210 : IC :=
(.seq
 (.reg 0 [⟨(some 4), none, (.q (.mov (.c (.bool false))))⟩] [0, 1])
 (.seq
  (.reg 1 [⟨(some 5), none, (.q (.mov (.t 0)))⟩, ⟨(some 6), none, (.q (.mov (.t 1)))⟩, ⟨(some 7), none, (.call 260 [(.t 5), (.t 6)])⟩, ⟨(some 4), none, (.q (.mov (.t 7)))⟩] [4])
  .ret))
theorem fok210 : FOK Tryz.prog 210 (8, ic210, [(.t 4)]) := .mk (pf := []) (an := [(0, [0, 1]), (1, [4])]) (by kernel_rfl) (fnOK_of Tryz.func210 (by kernel_rfl) (by kernel_rfl) (by kernel_rfl))
def ic211 : IC :=
(.seq
 (.reg 0 [⟨(some 2), none, (.q (.mov (.c (.bool false))))⟩] [0])
 (.seq
  (.seq
   (.reg 1 [⟨(some 5), none, (.q (.mov (.t 0)))⟩, ⟨(some 6), none, (.q (.bin .eql (.t 5) (.c (.str []))))⟩, ⟨(some 7), none, (.q (.mov (.t 6)))⟩, ⟨(some 8), (some ⟨7, false⟩), (.q (.mov (.t 0)))⟩, ⟨(some 9), (some ⟨7, false⟩), (.q (.len 1 (.t 8)))⟩, ⟨(some 10), (some ⟨7, false⟩), (.q (.bin .gtr (.t 9) (.c (.int .i64 64))))⟩, ⟨(some 11), none, (.q (.pick (.t 7) (.c (.bool true)) (.t 10)))⟩] [0, 11])
   (.cond (.t 11)
    (.seq
     (.reg 2 [⟨(some 2), none, (.q (.mov (.c (.bool false))))⟩] [2])
     .ret)
    .skip))
  (.seq
   (.seq
    (.reg 3 [⟨(some 12), none, (.q (.mov (.t 0)))⟩, ⟨(some 13), none, (.q (.len 1 (.t 12)))⟩, ⟨(some 14), none, (.q (.mov (.c (.int .i64 0))))⟩] [0, 13, 14])
    (.block 0
     (.loop
      (.seq
       (.reg 4 [⟨(some 15), none, (.q (.bin .lss (.t 14) (.t 13)))⟩] [0, 13, 14, 15])
       (.seq
        (.cond (.t 15)
         .skip
         (.exit 0))
        (.seq
         (.block 1
          (.seq
           (.reg 5 [⟨(some 16), none, (.q (.mov (.t 14)))⟩, ⟨(some 3), none, (.q (.mov (.t 16)))⟩] [0, 3, 13, 14])
           (.seq
            (.reg 6 [⟨(some 17), none, (.q (.mov (.t 0)))⟩, ⟨(some 18), none, (.q (.mov (.t 3)))⟩, ⟨(some 19), none, (.q (.istr (.t 17) (.t 18)))⟩, ⟨(some 4), none, (.q (.mov (.t 19)))⟩] [0, 4, 13, 14])
            (.block 2
            (.seq
            (.seq
            (.reg 8 [⟨(some 21), none, (.q (.mov (.t 4)))⟩, ⟨(some 22), none, (.q (.bin .geq (.t 21) (.c (.int .u8 97))))⟩, ⟨(some 23), none, (.q (.mov (.t 22)))⟩, ⟨(some 24), (some ⟨23, true⟩), (.q (.mov (.t 4)))⟩, ⟨(some 25), (some ⟨23, true⟩), (.q (.bin .leq (.t 24) (.c (.int .u8 122))))⟩, ⟨(some 26), none, (.q (.pick (.t 23) (.t 25) (.c (.bool false))))⟩, ⟨(some 20), none, (.q (.mov (.t 26)))⟩] [0, 4, 13, 14, 20])
            (.cond (.t 20)
            .skip
            (.seq
            (.reg 9 [⟨(some 27), none, (.q (.mov (.t 4)))⟩, ⟨(some 28), none, (.q (.bin .geq (.t 27) (.c (.int .u8 65))))⟩, ⟨(some 29), none, (.q (.mov (.t 28)))⟩, ⟨(some 30), (some ⟨29, true⟩), (.q (.mov (.t 4)))⟩, ⟨(some 31), (some ⟨29, true⟩), (.q (.bin .leq (.t 30) (.c (.int .u8 90))))⟩, ⟨(some 32), none, (.q (.pick (.t 29) (.t 31) (.c (.bool false))))⟩, ⟨(some 20), none, (.q (.mov (.t 32)))⟩] [0, 4, 13, 14, 20])
            (.cond (.t 20)
            .skip
            (.seq
            (.reg 10 [⟨(some 33), none, (.q (.mov (.t 4)))⟩, ⟨(some 34), none, (.q (.bin .geq (.t 33) (.c (.int .u8 48))))⟩, ⟨(some 35), none, (.q (.mov (.t 34)))⟩, ⟨(some 36), (some ⟨35, true⟩), (.q (.mov (.t 4)))⟩, ⟨(some 37), (some ⟨35, true⟩), (.q (.bin .leq (.t 36) (.c (.int .u8 57))))⟩, ⟨(some 38), none, (.q (.pick (.t 35) (.t 37) (.c (.bool false))))⟩, ⟨(some 20), none, (.q (.mov (.t 38)))⟩] [0, 4, 13, 14, 20])
            (.cond (.t 20)
            .skip
            (.reg 11 [⟨(some 39), none, (.q (.mov (.t 4)))⟩, ⟨(some 40), none, (.call 208 [(.c (.str [46, 95, 43, 126, 94])), (.t 39)])⟩, ⟨(some 41), none, (.q (.bin .geq (.t 40) (.c (.int .i64 0))))⟩, ⟨(some 20), none, (.q (.mov (.t 41)))⟩] [0, 13, 14, 20])))))))
            (.cond (.t 20)
            .skip
            (.seq
            (.reg 7 [⟨(some 2), none, (.q (.mov (.c (.bool false))))⟩] [2])
            .ret)))))))
         (.reg 12 [⟨(some 42), none, (.q (.bin .add (.t 14) (.c (.int .i64 1))))⟩, ⟨(some 14), none, (.q (.mov (.t 42)))⟩] [0, 13, 14])))))))
   (.seq
    (.reg 13 [⟨(some 2), none, (.q (.mov (.c (.bool true))))⟩] [2])
    .ret))))
theorem fok211 : FOK Tryz.prog 211 (43, ic211, [(.t 2)]) := .mk (pf := []) (an := [(0, [0]), (1, [0, 11]), (2, [2]), (3, [0, 13, 14]), (4, [0, 13, 14, 15]), (5, [0, 3, 13, 14]), (6, [0, 4, 13, 14]), (7, [2]), (8, [0, 4, 13, 14, 20]), (9, [0, 4, 13, 14, 20]), (10, [0, 4, 13, 14, 20]), (11, [0, 13, 14, 20]), (12, [0, 13, 14]), (13, [2])]) (by kernel_rfl) (fnOK_of Tryz.func211 (by kernel_rfl) (by kernel_rfl) (by kernel_rfl))
def ic212 : IC :=
 (.seq
 (.reg 0 [oK 3 (.boxt 0), oM 5 (cB false)] [2, 3])
 (.seq
 (.reg 1 [oQ 6 (.load (some 15) 3), oQ 7 (.load (some 5) 2), oK 8 (.call 213 [6, 7]), oM 5 8] [5])
 .ret))
theorem fok212 : FOK Tryz.prog 212 (9, ic212, [(.t 5)]) := fokA [1000003] Tryz.func212 (by kernel_rfl) (by kernel_rfl) (by kernel_rfl) (by kernel_rfl)
def ic213 : IC :=
 (.seq
 (.reg 0 [oK 2 (.boxt 0), oK 3 (.boxt 1), oM 4 (cB false)] [2, 3])
 (.seq
 (.seq
 (.reg 1 [oQ 5 (.load (some 15) 2), oQ 6 (.load (some 5) 3), oK 7 (.call 131 [5, 6]), oM 8 7, gQ 9 8 false (.faddr 6 2), gQ 10 8 false (.load none 9), gQ 11 8 false (.mkf 261 [] [3]), gK 12 8 false (.call 236 [10, 11]), oQ 13 (.pick 8 (cB true) 12)] [2, 3, 13])
 (.cond 13
 (.seq
 (.reg 2 [oM 4 (cB true)] [4])
 .ret)
 .skip))
 (.seq
 (.reg 3 [oQ 14 (.faddr 1 3), oQ 15 (.load none 14), oQ 16 (.bin .eql 15 (.c (zU 0))), oM 17 16, gQ 18 17 true (.faddr 14 2), gQ 19 17 true (.load none 18), gQ 20 17 true (.faddr 0 3), gQ 21 17 true (.load none 20), gK 22 17 true (.call 262 [19, 21]), oQ 23 (.pick 17 22 (cB false)), oM 4 23] [4])
 .ret)))
theorem fok213 : FOK Tryz.prog 213 (24, ic213, [(.t 4)]) := fokA [1000002, 1000003] Tryz.func213 (by kernel_rfl) (by kernel_rfl) (by kernel_rfl) (by kernel_rfl)
def ic214 : IC :=
(.seq
 (.reg 0 [⟨(some 4), none, (.boxt (.t 0))⟩, ⟨(some 7), none, (.q (.mov (.c (.bool false))))⟩] [1, 2, 3, 4])
 (.seq
  (.seq
   (.reg 1 [⟨(some 10), none, (.q (.mov (.t 2)))⟩, ⟨(some 11), none, (.q (.load (some 7) (.t 4)))⟩, ⟨(some 12), none, (.q (.mov (.t 1)))⟩, ⟨(some 13), none, (.callv (.t 10) [(.t 11), (.t 12)])⟩, ⟨(some 14), none, (.q (.not (.t 13)))⟩] [1, 2, 3, 4, 14])
   (.cond (.t 14)
    (.seq
     (.reg 2 [⟨(some 7), none, (.q (.mov (.c (.bool false))))⟩] [7])
     .ret)
    .skip))
  (.seq
   (.reg 3 [⟨(some 15), none, (.q (.mov (.t 1)))⟩, ⟨(some 16), none, (.q (.mov (.t 15)))⟩, ⟨(some 17), (some ⟨16, false⟩), (.q (.faddr 0 (.t 4)))⟩, ⟨(some 18), (some ⟨16, false⟩), (.q (.load none (.t 17)))⟩, ⟨(some 19), (some ⟨16, false⟩), (.q (.bin .eql (.t 18) (.c (.int .u8 6))))⟩, ⟨(some 20), none, (.q (.pick (.t 16) (.c (.bool true)) (.t 19)))⟩, ⟨(some 21), none, (.q (.mov (.t 20)))⟩, ⟨(some 22), (some ⟨21, false⟩), (.q (.faddr 0 (.t 4)))⟩, ⟨(some 23), (some ⟨21, false⟩), (.q (.load none (.t 22)))⟩, ⟨(some 24), (some ⟨21, false⟩), (.q (.bin .eql (.t 23) (.c (.int .u8 7))))⟩, ⟨(some 25), none, (.q (.pick (.t 21) (.c (.bool true)) (.t 24)))⟩, ⟨(some 1), none, (.q (.mov (.t 25)))⟩] [1, 2, 3, 4])
   (.seq
    (.seq
     (.reg 4 [⟨(some 26), none, (.q (.faddr 6 (.t 4)))⟩, ⟨(some 27), none, (.q (.load none (.t 26)))⟩, ⟨(some 28), none, (.q (.len 0 (.t 27)))⟩, ⟨(some 29), none, (.q (.mov (.c (.int .i64 0))))⟩] [1, 2, 3, 27, 28, 29])
     (.block 0
      (.loop
       (.seq
        (.reg 5 [⟨(some 30), none, (.q (.bin .lss (.t 29) (.t 28)))⟩] [1, 2, 3, 27, 28, 29, 30])
        (.seq
         (.cond (.t 30)
          .skip
          (.exit 0))
         (.seq
          (.block 1
           (.seq
            (.reg 6 [⟨(some 31), none, (.q (.iaddr 7 (.t 27) (.t 29)))⟩, ⟨(some 32), none, (.q (.load (some 7) (.t 31)))⟩, ⟨(some 9), none, (.alloc [(.int .u8 0), (.str []), (.int .u8 0), (.int .i64 0), (.str []), (.str []), .nilslice])⟩, ⟨none, none, (.store 7 (.t 9) (.t 32))⟩] [1, 2, 3, 9, 27, 28, 29])
            (.seq
            (.reg 7 [⟨(some 33), none, (.q (.load none (.t 3)))⟩, ⟨(some 34), none, (.q (.load (some 7) (.t 9)))⟩, ⟨(some 35), none, (.q (.mov (.t 1)))⟩, ⟨(some 36), none, (.q (.mov (.t 2)))⟩, ⟨(some 37), none, (.callv (.t 33) [(.t 34), (.t 35), (.t 36)])⟩, ⟨(some 38), none, (.q (.not (.t 37)))⟩] [1, 2, 3, 27, 28, 29, 38])
            (.cond (.t 38)
            (.seq
            (.reg 8 [⟨(some 7), none, (.q (.mov (.c (.bool false))))⟩] [7])
            .ret)
            .skip))))
          (.reg 9 [⟨(some 39), none, (.q (.bin .add (.t 29) (.c (.int .i64 1))))⟩, ⟨(some 29), none, (.q (.mov (.t 39)))⟩] [1, 2, 3, 27, 28, 29])))))))
    (.seq
     (.reg 10 [⟨(some 7), none, (.q (.mov (.c (.bool true))))⟩] [7])
     .ret)))))
theorem fok214 : FOK Tryz.prog 214 (40, ic214, [(.t 7)]) := .mk (pf := [1000004]) (an := [(0, [1, 2, 3, 4]), (1, [1, 2, 3, 4, 14]), (2, [7]), (3, [1, 2, 3, 4]), (4, [1, 2, 3, 27, 28, 29]), (5, [1, 2, 3, 27, 28, 29, 30]), (6, [1, 2, 3, 9, 27, 28, 29]), (7, [1, 2, 3, 27, 28, 29, 38]), (8, [7]), (9, [1, 2, 3, 27, 28, 29]), (10, [7])]) (by kernel_rfl) (fnOK_of Tryz.func214 (by kernel_rfl) (by kernel_rfl) (by kernel_rfl))
def ic215 : IC :=
(.reg 0 [⟨(some 4), none, (.q (.load none (.t 1)))⟩, ⟨(some 5), none, (.q (.load (some 7) (.t 2)))⟩, ⟨(some 6), none, (.q (.mov (.t 0)))⟩, ⟨(some 7), none, (.callv (.t 4) [(.t 5), (.c (.bool false)), (.t 6)])⟩] [])
theorem fok215 : FOK Tryz.prog 215 (8, ic215, []) := .mk (pf := []) (an := []) (by kernel_rfl) (fnOK_of Tryz.func215 (by kernel_rfl) (by kernel_rfl) (by kernel_rfl))
def ic216 : IC :=
 (.seq
 (.reg 0 [oM 4 (cI 0)] [0, 1])
 (.seq
 (.seq
 (.reg 1 [oM 14 1, oQ 15 (.len 0 14), oQ 16 (.bin .eql 15 (cI 1))] [0, 1, 16])
 (.cond 16
 (.seq
 (.reg 2 [oM 17 1, oQ 18 (.iaddr 1 17 (cI 0)), oQ 19 (.load none 18), oQ 20 (.bin .add 19 (cI 1)), oM 4 20] [4])
 .ret)
 .skip))
 (.seq
 (.reg 3 [oM 5 (.c (.str []))] [0, 1, 5])
 (.seq
 (.seq
 (.reg 4 [oM 21 1, oQ 22 (.len 0 21), oM 23 (cI 0)] [0, 1, 5, 21, 22, 23])
 (.block 0
 (.loop
 (.seq
 (.reg 5 [oQ 24 (.bin .lss 23 22)] [0, 1, 5, 21, 22, 23, 24])
 (.seq
 (.cond 24
 .skip
 (.exit 0))
 (.seq
 (.block 1
 (.seq
 (.reg 6 [oQ 25 (.iaddr 1 21 23), oQ 26 (.load none 25), oM 7 26] [0, 1, 5, 7, 21, 22, 23])
 (.reg 7 [oM 27 5, oM 28 7, oK 29 (.call 263 [28]), oQ 30 (.bin .add 29 (.c (.str [32]))), oQ 31 (.bin .add 27 30), oM 5 31] [0, 1, 5, 21, 22, 23])))
 (.reg 8 [oQ 32 (.bin .add 23 (cI 1)), oM 23 32] [0, 1, 5, 21, 22, 23])))))))
 (.seq
 (.seq
 (.reg 9 [oM 34 0, oQ 35 (.nchk 34), oQ 36 (.faddr 4 35), oQ 37 (.load none 36), oM 38 5, oQ 39 (.lkp 2 (zI 0) true 37 38), oM 33 39, oQ 40 (.ext 0 33), oQ 41 (.ext 1 33), oM 8 40, oM 9 41] [0, 1, 5, 8, 9])
 (.seq
 (.reg 10 [oM 42 9] [0, 1, 5, 8, 42])
 (.cond 42
 (.seq
 (.reg 11 [oM 43 8, oM 4 43] [4])
 .ret)
 .skip)))
 (.seq
 (.reg 12 [oM 10 (.c .nilslice)] [0, 1, 5, 10])
 (.seq
 (.seq
 (.reg 13 [oM 44 1, oQ 45 (.len 0 44), oM 46 (cI 0)] [0, 5, 10, 44, 45, 46])
 (.block 2
 (.loop
 (.seq
 (.reg 14 [oQ 47 (.bin .lss 46 45)] [0, 5, 10, 44, 45, 46, 47])
 (.seq
 (.cond 47
 .skip
 (.exit 2))
 (.seq
 (.block 3
 (.seq
 (.reg 15 [oQ 48 (.iaddr 1 44 46), oQ 49 (.load none 48), oM 12 49] [0, 5, 10, 12, 44, 45, 46])
 (.reg 16 [oM 50 10, oM 51 12, oQ 52 (.bin .add 51 (cI 1)), oK 53 (.bslt 1 1 [(zI 0)] [⟨0, ⟨1, 52⟩⟩]), oK 54 (.app 1 50 53), oM 10 54] [0, 5, 10, 44, 45, 46])))
 (.reg 17 [oQ 55 (.bin .add 46 (cI 1)), oM 46 55] [0, 5, 10, 44, 45, 46])))))))
 (.seq
 (.reg 18 [oM 56 0, oM 57 10, oK 58 (.call 220 [56, 57]), oM 13 58] [0, 5, 13])
 (.seq
 (.reg 19 [oM 59 0, oQ 60 (.nchk 59), oQ 61 (.faddr 4 60), oQ 62 (.load none 61), oM 63 5, oM 64 13, oN (.mupd 2 62 63 64)] [13])
 (.seq
 (.reg 20 [oM 65 13, oM 4 65] [4])
 .ret))))))))))
theorem fok216 : FOK Tryz.prog 216 (66, ic216, [(.t 4)]) := fokA [1000053] Tryz.func216 (by kernel_rfl) (by kernel_rfl) (by kernel_rfl) (by kernel_rfl)
def ic217 : IC :=
 (.seq
 (.reg 0 [oK 3 (.boxt 1), oM 4 (.c .nilslice)] [0, 3])
 (.seq
 (.reg 1 [oM 5 0, oQ 6 (.mkf 264 [] [3]), oK 7 (.call 126 [5, 6]), oM 4 7] [4])
 .ret))
theorem fok217 : FOK Tryz.prog 217 (8, ic217, [(.t 4)]) := fokA [1000003] Tryz.func217 (by kernel_rfl) (by kernel_rfl) (by kernel_rfl) (by kernel_rfl)
def ic218 : IC :=
 (.seq
 (.reg 0 [oM 4 (cI 0)] [0, 1])
 (.seq
 (.reg 1 [oM 5 0, oM 6 1, oK 7 (.call 265 [6]), oK 8 (.call 220 [5, 7]), oQ 9 (.neg 8), oM 4 9] [4])
 .ret))
theorem fok218 : FOK Tryz.prog 218 (10, ic218, [(.t 4)]) := fokA [] Tryz.func218 (by kernel_rfl) (by kernel_rfl) (by kernel_rfl) (by kernel_rfl)
def ic219 : IC :=
 (.seq
 (.reg 0 [oK 4 (.boxt 1), oM 6 (.c .nilslice)] [0, 2, 4])
 (.seq
 (.reg 1 [oM 7 (.c .nilslice)] [0, 2, 4, 7])
 (.seq
 (.seq
 (.reg 2 [oQ 10 (.faddr 6 4), oQ 11 (.load none 10), oQ 12 (.len 0 11), oM 13 (cI 0)] [0, 2, 7, 11, 12, 13])
 (.block 0
 (.loop
 (.seq
 (.reg 3 [oQ 14 (.bin .lss 13 12)] [0, 2, 7, 11, 12, 13, 14])
 (.seq
 (.cond 14
 .skip
 (.exit 0))
 (.seq
 (.block 1
 (.seq
 (.reg 4 [oQ 15 (.iaddr 7 11 13), oQ 16 (.load (some 7) 15), oK 9 (.alloc [(zU 0), (.str []), (zU 0), (zI 0), (.str []), (.str []), .nilslice]), oN (.store 7 9 16)] [0, 2, 7, 9, 11, 12, 13])
 (.reg 5 [oM 17 7, oM 18 0, oQ 19 (.load (some 7) 9), oM 20 2, oK 21 (.call 106 [18, 19, 20]), oK 22 (.bslt 1 1 [(zI 0)] [⟨0, ⟨1, 21⟩⟩]), oK 23 (.app 1 17 22), oM 7 23] [0, 2, 7, 11, 12, 13])))
 (.reg 6 [oQ 24 (.bin .add 13 (cI 1)), oM 13 24] [0, 2, 7, 11, 12, 13])))))))
 (.seq
 (.reg 7 [oM 25 7, oM 6 25] [6])
 .ret))))
theorem fok219 : FOK Tryz.prog 219 (26, ic219, [(.t 6)]) := fokA [1000004, 1000022] Tryz.func219 (by kernel_rfl) (by kernel_rfl) (by kernel_rfl) (by kernel_rfl)
def ic220 : IC :=
 (.seq
 (.reg 0 [oM 4 (cI 0)] [0, 1])
 (.seq
 (.reg 1 [oM 9 0, oK 10 (.call 266 [9]), oM 5 10] [0, 1, 5])
 (.seq
 (.reg 2 [oM 11 5, oQ 12 (.neg 11), oK 13 (.bsl 1 1 [(zI 0)] [⟨0, ⟨1, 12⟩⟩]), oM 6 13] [0, 1, 5, 6])
 (.seq
 (.seq
 (.reg 3 [oM 14 1, oQ 15 (.len 0 14), oM 16 (cI 0)] [0, 5, 6, 14, 15, 16])
 (.block 0
 (.loop
 (.seq
 (.reg 4 [oQ 17 (.bin .lss 16 15)] [0, 5, 6, 14, 15, 16, 17])
 (.seq
 (.cond 17
 .skip
 (.exit 0))
 (.seq
 (.block 1
 (.seq
 (.reg 5 [oQ 18 (.iaddr 1 14 16), oQ 19 (.load none 18), oM 8 19] [0, 5, 6, 8, 14, 15, 16])
 (.seq
 (.reg 6 [oM 20 0, oM 21 0, oQ 22 (.nchk 21), oQ 23 (.faddr 3 22), oQ 24 (.load none 23), oM 25 8, oQ 26 (.neg 25), oM 27 5, oK 28 (.bslt 1 2 [(zI 0)] [⟨0, ⟨1, 26⟩⟩, ⟨1, ⟨1, 27⟩⟩]), oK 29 (.bslt 1 1 [.nilslice] [⟨0, ⟨1, 28⟩⟩]), oK 30 (.app 1 24 29), oQ 31 (.nchk 20), oQ 32 (.faddr 3 31), oN (.store 1 32 30)] [0, 5, 6, 8, 14, 15, 16])
 (.reg 7 [oM 33 6, oM 34 8, oK 35 (.bslt 1 1 [(zI 0)] [⟨0, ⟨1, 34⟩⟩]), oK 36 (.app 1 33 35), oM 6 36] [0, 5, 6, 14, 15, 16]))))
 (.reg 8 [oQ 37 (.bin .add 16 (cI 1)), oM 16 37] [0, 5, 6, 14, 15, 16])))))))
 (.seq
 (.reg 9 [oM 38 0, oM 39 0, oQ 40 (.nchk 39), oQ 41 (.faddr 3 40), oQ 42 (.load none 41), oM 43 6, oK 44 (.bslt 1 1 [.nilslice] [⟨0, ⟨1, 43⟩⟩]), oK 45 (.app 1 42 44), oQ 46 (.nchk 38), oQ 47 (.faddr 3 46), oN (.store 1 47 45)] [5])
 (.seq
 (.reg 10 [oM 48 5, oM 4 48] [4])
 .ret))))))
theorem fok220 : FOK Tryz.prog 220 (49, ic220, [(.t 4)]) := fokA [1000028, 1000029, 1000035, 1000044] Tryz.func220 (by kernel_rfl) (by kernel_rfl) (by kernel_rfl) (by kernel_rfl)
def ic221 : IC :=
 (.seq
 (.reg 0 [oM 8 (cI 0)] [0, 1, 2, 3])
 (.seq
 (.reg 1 [oM 12 0, oK 13 (.call 266 [12]), oM 9 13] [0, 1, 2, 3, 9])
 (.seq
 (.seq
 (.reg 2 [oM 14 3, oQ 15 (.neg 14), oM 16 1, oQ 17 (.neg 16), oM 18 9, oK 19 (.bslt 1 3 [(zI 0)] [⟨0, ⟨1, 15⟩⟩, ⟨1, ⟨1, 17⟩⟩, ⟨2, ⟨1, 18⟩⟩]), oM 20 3, oQ 21 (.neg 20), oM 22 1, oM 23 9, oQ 24 (.neg 23), oK 25 (.bslt 1 3 [(zI 0)] [⟨0, ⟨1, 21⟩⟩, ⟨1, ⟨1, 22⟩⟩, ⟨2, ⟨1, 24⟩⟩]), oM 26 3, oM 27 2, oQ 28 (.neg 27), oM 29 9, oK 30 (.bslt 1 3 [(zI 0)] [⟨0, ⟨1, 26⟩⟩, ⟨1, ⟨1, 28⟩⟩, ⟨2, ⟨1, 29⟩⟩]), oM 31 3, oM 32 2, oM 33 9, oQ 34 (.neg 33), oK 35 (.bslt 1 3 [(zI 0)] [⟨0, ⟨1, 31⟩⟩, ⟨1, ⟨1, 32⟩⟩, ⟨2, ⟨1, 34⟩⟩]), oK 36 (.bslt 1 4 [.nilslice] [⟨0, ⟨1, 19⟩⟩, ⟨1, ⟨1, 25⟩⟩, ⟨2, ⟨1, 30⟩⟩, ⟨3, ⟨1, 35⟩⟩]), oQ 37 (.len 0 36), oM 38 (cI 0)] [0, 9, 36, 37, 38])
 (.block 0
 (.loop
 (.seq
 (.reg 3 [oQ 39 (.bin .lss 38 37)] [0, 9, 36, 37, 38, 39])
 (.seq
 (.cond 39
 .skip
 (.exit 0))
 (.seq
 (.block 1
 (.seq
 (.reg 4 [oQ 40 (.iaddr 1 36 38), oQ 41 (.load none 40), oM 11 41] [0, 9, 11, 36, 37, 38])
 (.reg 5 [oM 42 0, oM 43 0, oQ 44 (.nchk 43), oQ 45 (.faddr 3 44), oQ 46 (.load none 45), oM 47 11, oK 48 (.bslt 1 1 [.nilslice] [⟨0, ⟨1, 47⟩⟩]), oK 49 (.app 1 46 48), oQ 50 (.nchk 42), oQ 51 (.faddr 3 50), oN (.store 1 51 49)] [0, 9, 36, 37, 38])))
 (.reg 6 [oQ 52 (.bin .add 38 (cI 1)), oM 38 52] [0, 9, 36, 37, 38])))))))
 (.seq
 (.reg 7 [oM 53 9, oM 8 53] [8])
 .ret))))
theorem fok221 : FOK Tryz.prog 221 (54, ic221, [(.t 8)]) := fokA [1000019, 1000025, 1000030, 1000035, 1000036, 1000048] Tryz.func221 (by kernel_rfl) (by kernel_rfl) (by kernel_rfl) (by kernel_rfl)
def ic222 : IC :=
 (.seq
 (.reg 0 [oK 2 (.boxt 0), oK 3 (.boxt 1), oM 4 (cB false)] [2, 3])
 (.seq
 (.reg 1 [oQ 7 (.mkf 267 [] [2]), oM 5 7] [2, 3, 5])
 (.seq
 (.reg 2 [oQ 8 (.mkf 268 [] [2]), oM 6 8] [2, 3, 5, 6])
 (.seq
 (.seq
 (.reg 3 [oQ 9 (.faddr 0 3), oQ 10 (.load none 9)] [2, 3, 5, 6, 10])
 (.block 0
 (.seq
 (.reg 4 [oQ 12 (.bin .eql 10 (.c (zU 1))), oM 11 12] [2, 3, 5, 6, 10, 11])
 (.cond 11
 (.seq
 (.reg 5 [oQ 13 (.load (some 15) 2), oQ 14 (.faddr 1 3), oQ 15 (.load (some 5) 14), oK 16 (.call 213 [13, 15]), oM 4 16] [4])
 .ret)
 (.seq
 (.reg 6 [oQ 18 (.bin .eql 10 (.c (zU 3))), oM 17 18] [3, 5, 6, 10, 17])
 (.cond 17
 (.seq
 (.reg 7 [oQ 19 (.faddr 6 3), oQ 20 (.load none 19), oM 21 5, oK 22 (.call 229 [20, 21]), oM 4 22] [4])
 .ret)
 (.seq
 (.reg 8 [oQ 24 (.bin .eql 10 (.c (zU 7))), oM 23 24] [3, 5, 6, 23])
 (.cond 23
 (.seq
 (.reg 9 [oM 25 5, oQ 26 (.faddr 6 3), oQ 27 (.load none 26), oQ 28 (.iaddr 7 27 (cI 0)), oQ 29 (.load (some 7) 28), oK 30 (.callv 25 [29]), oM 31 30, gQ 32 31 true (.mov 6), gQ 33 31 true (.faddr 6 3), gQ 34 31 true (.load none 33), gQ 35 31 true (.iaddr 7 34 (cI 1)), gQ 36 31 true (.load (some 7) 35), gK 37 31 true (.callv 32 [36]), oQ 38 (.pick 31 37 (cB false)), oM 4 38] [4])
 .ret)
 .skip))))))))
 (.seq
 (.reg 10 [oQ 39 (.faddr 6 3), oQ 40 (.load none 39), oM 41 6, oK 42 (.call 229 [40, 41]), oQ 43 (.not 42), oM 4 43] [4])
 .ret)))))
theorem fok222 : FOK Tryz.prog 222 (44, ic222, [(.t 4)]) := fokA [1000002, 1000003] Tryz.func222 (by kernel_rfl) (by kernel_rfl) (by kernel_rfl) (by kernel_rfl)
def ic223 : IC :=
 (.seq
 (.reg 0 [oK 0 (.alloc [(zI 0), (zI 0), (zI 0), (zI 0), (zI 0), (zI 0), (zI 0), (zI 0), (zI 0), (zI 0), (zI 0), (zI 0), (zI 0), (zI 0), (zI 0), (zI 0), (zI 0), (zI 0), (zI 0), (zI 0), (zI 0), (zI 0), (zI 0), (zI 0), (zI 0)])] [0])
 (.seq
 (.reg 1 [oQ 1 (.bld [(zI 0), (zI 0), (zI 0), (zI 0), (zI 0)] [⟨1, ⟨1, (cI 2)⟩⟩, ⟨2, ⟨1, (cI 1)⟩⟩, ⟨3, ⟨1, (cI 3)⟩⟩]), oQ 2 (.bld [(zI 0), (zI 0), (zI 0), (zI 0), (zI 0)] [⟨1, ⟨1, (cI 2)⟩⟩, ⟨3, ⟨1, (cI 1)⟩⟩]), oQ 3 (.bld [(zI 0), (zI 0), (zI 0), (zI 0), (zI 0)] [⟨1, ⟨1, (cI 2)⟩⟩, ⟨4, ⟨1, (cI 1)⟩⟩]), oQ 4 (.bld [(zI 0), (zI 0), (zI 0), (zI 0), (zI 0), (zI 0), (zI 0), (zI 0), (zI 0), (zI 0), (zI 0), (zI 0), (zI 0), (zI 0), (zI 0), (zI 0), (zI 0), (zI 0), (zI 0), (zI 0), (zI 0), (zI 0), (zI 0), (zI 0), (zI 0)] [⟨10, ⟨5, 1⟩⟩, ⟨15, ⟨5, 2⟩⟩, ⟨20, ⟨5, 3⟩⟩]), oN (.store 25 0 4)] [0])
 .ret))
theorem fok223 : FOK Tryz.prog 223 (5, ic223, [(.cell (some 25) 0)]) := fokA [] Tryz.func223 (by kernel_rfl) (by kernel_rfl) (by kernel_rfl) (by kernel_rfl)
def ic224 : IC :=
 (.seq
 (.reg 0 [oM 2 (cB false)] [0])
 (.seq
 (.reg 1 [oM 3 0, oM 4 0, oQ 5 (.bin .neq 3 4), oM 2 5] [2])
 .ret))
theorem fok224 : FOK Tryz.prog 224 (6, ic224, [(.t 2)]) := fokA [] Tryz.func224 (by kernel_rfl) (by kernel_rfl) (by kernel_rfl) (by kernel_rfl)
def ic225 : IC :=
 (.seq
 (.reg 0 [oM 2 (.c .nilslice)] [0, 2])
 (.seq
 (.reg 1 [oK 3 (.alloc [.nilslice])] [0, 2, 3])
 (.seq
 (.seq
 (.reg 2 [oM 5 0, oK 6 (.call 269 [5])] [2, 3, 6])
 (.block 0
 (.rfunc 6 [7]
 (.reg 3 [oK 4 (.alloc [(zU 0), (.str [])]), oN (.store 2 4 7)] [3, 4])
 (.block 1
 (.reg 4 [oQ 8 (.load none 3), oQ 9 (.load (some 2) 4), oK 10 (.bslt 2 1 [(zU 0), (.str [])] [⟨0, ⟨2, 9⟩⟩]), oK 11 (.app 2 8 10), oN (.store 1 3 11)] [])))))
 (.seq
 (.reg 5 [oQ 12 (.load none 3), oM 2 12] [2])
 .ret))))
theorem fok225 : FOK Tryz.prog 225 (13, ic225, [(.t 2)]) := fokA [1000010] Tryz.func225 (by kernel_rfl) (by kernel_rfl) (by kernel_rfl) (by kernel_rfl)
def ic226 : IC :=
 (.seq
 (.reg 0 [oK 2 (.boxt 0), oK 3 (.boxt 1), oM 4 (cI 0)] [2, 3])
 (.seq
 (.reg 1 [oM 5 (cI 0)] [2, 3, 5])
 (.seq
 (.seq
 (.reg 2 [oQ 6 (.faddr 0 2), oQ 7 (.load none 6), oQ 8 (.bin .eql 7 (.c (zU 5))), oM 9 8, gQ 10 9 true (.faddr 0 3), gQ 11 9 true (.load none 10), gQ 12 9 true (.bin .eql 11 (.c (zU 5))), oQ 13 (.pick 9 12 (cB false))] [2, 3, 5, 13])
 (.cond 13
 (.reg 3 [oQ 14 (.faddr 1 2), oQ 15 (.load none 14), oQ 16 (.len 1 15), oQ 17 (.faddr 1 3), oQ 18 (.load none 17), oQ 19 (.len 1 18), oK 20 (.call 175 [16, 19]), oM 5 20] [2, 3, 5])
 .skip))
 (.seq
 (.dreg 4 [oQ 21 (.faddr 0 2), oQ 22 (.load none 21), oQ 23 (.faddr 0 3), oQ 24 (.load none 23), oK 25 (.pcall 271 [22, 24]), oM 26 5, oQ 27 (.faddr 1 2), oQ 28 (.load none 27), oQ 29 (.faddr 1 3), oQ 30 (.load none 29), oK 31 (.pcall 272 [28, 30]), oK 32 (.bslt 1 3 [(zI 0)] [⟨0, ⟨1, 25⟩⟩, ⟨1, ⟨1, 26⟩⟩, ⟨2, ⟨1, 31⟩⟩]), oK 33 (.pcall 270 [32]), oM 4 33] false [4])
 .ret))))
theorem fok226 : FOK Tryz.prog 226 (34, ic226, [(.t 4)]) := fokA ([1000002, 1000003, 1000032] ++ [270, 271, 272]) Tryz.func226 (by kernel_rfl) (by kernel_rfl) (by kernel_rfl) (by kernel_rfl)
def ic227 : IC :=
 (.seq
 (.reg 0 [oK 3 (.boxt 1), oM 4 (cI 0)] [0, 3])
 (.seq
 (.seq
 (.reg 1 [oM 6 0, oQ 7 (.len 0 6), oM 8 (cI 0)] [0, 3, 7, 8])
 (.block 0
 (.loop
 (.seq
 (.reg 2 [oQ 9 (.bin .lss 8 7)] [0, 3, 7, 8, 9])
 (.seq
 (.cond 9
 .skip
 (.exit 0))
 (.seq
 (.block 1
 (.seq
 (.reg 3 [oM 10 8, oM 5 10] [0, 3, 5, 7, 8])
 (.seq
 (.dreg 4 [oQ 11 (.load (some 2) 3), oM 12 0, oM 13 5, oQ 14 (.iaddr 2 12 13), oQ 15 (.load (some 2) 14), oQ 16 (.eqs [1, 1] true false 11 15)] false [0, 3, 5, 7, 8, 16])
 (.cond 16
 (.seq
 (.reg 5 [oM 17 5, oM 4 17] [4])
 .ret)
 .skip))))
 (.reg 6 [oQ 18 (.bin .add 8 (cI 1)), oM 8 18] [0, 3, 7, 8])))))))
 (.seq
 (.reg 7 [oM 4 (cI (-1))] [4])
 .ret)))
theorem fok227 : FOK Tryz.prog 227 (19, ic227, [(.t 4)]) := fokA [1000003] Tryz.func227 (by kernel_rfl) (by kernel_rfl) (by kernel_rfl) (by kernel_rfl)
def ic229 : IC :=
(.seq
 (.reg 0 [⟨(some 4), none, (.q (.mov (.c (.bool false))))⟩] [0, 1])
 (.seq
  (.reg 1 [⟨(some 5), none, (.q (.mov (.t 0)))⟩, ⟨(some 6), none, (.q (.mov (.t 1)))⟩, ⟨(some 7), none, (.call 273 [(.t 5), (.t 6)])⟩, ⟨(some 8), none, (.q (.bin .geq (.t 7) (.c (.int .i64 0))))⟩, ⟨(some 4), none, (.q (.mov (.t 8)))⟩] [4])
  .ret))
theorem fok229 : FOK Tryz.prog 229 (9, ic229, [(.t 4)]) := .mk (pf := []) (an := [(0, [0, 1]), (1, [4])]) (by kernel_rfl) (fnOK_of Tryz.func229 (by kernel_rfl) (by kernel_rfl) (by kernel_rfl))
def ic234 : IC :=
 (.seq
 (.reg 0 [oK 2 (.boxt 0), oK 3 (.boxt 1), oM 4 (cB false)] [2, 3])
 (.seq
 (.seq
 (.reg 1 [oQ 6 (.faddr 1 2), oQ 7 (.load none 6), oQ 8 (.bin .and 7 (.c (zU 7))), oQ 9 (.bin .eql 8 (.c (zU 0))), oM 10 9, gQ 11 10 false (.faddr 1 3), gQ 12 10 false (.load none 11), gQ 13 10 false (.bin .and 12 (.c (zU 7))), gQ 14 10 false (.bin .eql 13 (.c (zU 0))), oQ 15 (.pick 10 (cB true) 14)] [2, 3, 15])
 (.cond 15
 (.seq
 (.reg 2 [oM 4 (cB true)] [4])
 .ret)
 .skip))
 (.seq
 (.reg 3 [oQ 16 (.faddr 2 2), oQ 17 (.load (some 3) 16), oQ 18 (.faddr 2 3), oQ 19 (.load (some 3) 18), oK 20 (.call 118 [17, 19]), oM 5 20] [2, 3, 5])
 (.seq
 (.seq
 (.reg 4 [oM 21 5, oQ 22 (.bin .eql 21 (cI 0))] [2, 3, 5, 22])
 (.cond 22
 (.seq
 (.reg 5 [oQ 23 (.faddr 1 2), oQ 24 (.load none 23), oQ 25 (.faddr 1 3), oQ 26 (.load none 25), oQ 27 (.bin .and 24 26), oQ 28 (.bin .and 27 (.c (zU 7))), oQ 29 (.bin .neq 28 (.c (zU 0))), oM 4 29] [4])
 .ret)
 .skip))
 (.seq
 (.dreg 6 [oQ 30 (.faddr 1 2), oQ 31 (.load none 30), oM 32 5, oQ 33 (.neg 32), oK 34 (.pcall 274 [33]), oQ 35 (.bin .and 31 34), oQ 36 (.bin .neq 35 (.c (zU 0))), oM 37 36, gQ 38 37 false (.faddr 1 3), gQ 39 37 false (.load none 38), gQ 40 37 false (.mov 5), gK 41 37 false (.pcall 274 [40]), gQ 42 37 false (.bin .and 39 41), gQ 43 37 false (.bin .neq 42 (.c (zU 0))), oQ 44 (.pick 37 (cB true) 43), oM 4 44] false [4])
 .ret)))))
theorem fok234 : FOK Tryz.prog 234 (45, ic234, [(.t 4)]) := fokA ([1000002, 1000003] ++ [274]) Tryz.func234 (by kernel_rfl) (by kernel_rfl) (by kernel_rfl) (by kernel_rfl)
def ic235 : IC :=
 (.seq
 (.reg 0 [oK 3 (.boxt 1), oK 4 (.alloc [(.str []), (zU 0), (zI 0), (.str []), (.str [])])] [0, 3, 4])
 (.seq
 (.reg 1 [oM 5 0, oQ 6 (.load (some 3) 3), oQ 7 (.bld [(.str []), (zU 0), (zI 0), (.str []), (.str [])] [⟨0, ⟨1, 5⟩⟩, ⟨1, ⟨1, (.c (zU 2))⟩⟩, ⟨2, ⟨3, 6⟩⟩]), oN (.store 5 4 7)] [4])
 .ret))
theorem fok235 : FOK Tryz.prog 235 (8, ic235, [(.cell (some 5) 4)]) := fokA [1000003] Tryz.func235 (by kernel_rfl) (by kernel_rfl) (by kernel_rfl) (by kernel_rfl)
def ic236 : IC :=
(.seq
 (.reg 0 [⟨(some 4), none, (.q (.mov (.c (.bool false))))⟩] [0, 1])
 (.seq
  (.reg 1 [⟨(some 5), none, (.q (.mov (.t 0)))⟩, ⟨(some 6), none, (.q (.mov (.t 1)))⟩, ⟨(some 7), none, (.call 275 [(.t 5), (.t 6)])⟩, ⟨(some 8), none, (.q (.bin .geq (.t 7) (.c (.int .i64 0))))⟩, ⟨(some 4), none, (.q (.mov (.t 8)))⟩] [4])
  .ret))
theorem fok236 : FOK Tryz.prog 236 (9, ic236, [(.t 4)]) := .mk (pf := []) (an := [(0, [0, 1]), (1, [4])]) (by kernel_rfl) (fnOK_of Tryz.func236 (by kernel_rfl) (by kernel_rfl) (by kernel_rfl))
def ic237 : IC :=
 (.seq
 (.reg 0 [oK 2 (.boxt 0), oM 3 (cB false)] [1, 2])
 (.seq
 (.reg 1 [oQ 4 (.load (some 15) 1), oQ 5 (.load (some 5) 2), oK 6 (.call 131 [4, 5]), oM 3 6] [3])
 .ret))
theorem fok237 : FOK Tryz.prog 237 (7, ic237, [(.t 3)]) := fokA [1000002] Tryz.func237 (by kernel_rfl) (by kernel_rfl) (by kernel_rfl) (by kernel_rfl)
def ic238 : IC :=
 (.seq
 (.reg 0 [oM 8 1, oQ 9 (.bin .add 8 (cI 1)), oM 6 9] [0, 1, 2, 6])
 (.block 0
 (.loop
 (.seq
 (.seq
 (.reg 1 [oM 10 6, oM 11 2, oQ 12 (.bin .lss 10 11)] [0, 1, 2, 6, 12])
 (.cond 12
 .skip
 (.exit 0)))
 (.seq
 (.block 1
 (.seq
 (.reg 3 [oM 15 6, oM 7 15] [0, 1, 2, 6, 7])
 (.block 2
 (.loop
 (.seq
 (.seq
 (.dreg 4 [oM 16 7, oM 17 1, oQ 18 (.bin .gtr 16 17), oM 19 18, gQ 20 19 true (.mov 0), gQ 21 19 true (.mov 7), gQ 22 19 true (.iaddr 1 20 21), gQ 23 19 true (.load none 22), gQ 24 19 true (.mov 0), gQ 25 19 true (.mov 7), gQ 26 19 true (.bin .sub 25 (cI 1)), gQ 27 19 true (.iaddr 1 24 26), gQ 28 19 true (.load none 27), gK 29 19 true (.call 244 [23, 28]), oQ 30 (.pick 19 29 (cB false))] false [0, 1, 2, 6, 7, 30])
 (.cond 30
 .skip
 (.exit 2)))
 (.seq
 (.block 3
 (.dreg 6 [oM 33 0, oM 34 7, oM 35 0, oM 36 7, oQ 37 (.bin .sub 36 (cI 1)), oM 38 0, oM 39 7, oQ 40 (.bin .sub 39 (cI 1)), oQ 41 (.iaddr 1 38 40), oQ 42 (.load none 41), oM 43 0, oM 44 7, oQ 45 (.iaddr 1 43 44), oQ 46 (.load none 45), oQ 47 (.iaddr 1 33 34), oN (.store 1 47 42), oQ 48 (.iaddr 1 35 37), oN (.store 1 48 46)] false [0, 1, 2, 6, 7]))
 (.reg 5 [oM 31 7, oQ 32 (.bin .sub 31 (cI 1)), oM 7 32] [0, 1, 2, 6, 7])))))))
 (.reg 2 [oM 13 6, oQ 14 (.bin .add 13 (cI 1)), oM 6 14] [0, 1, 2, 6]))))))
theorem fok238 : FOK Tryz.prog 238 (49, ic238, []) := fokA [] Tryz.func238 (by kernel_rfl) (by kernel_rfl) (by kernel_rfl) (by kernel_rfl)
def ic239 : IC :=
 (.seq
 (.reg 0 [oM 11 1, oM 6 11] [0, 1, 2, 6])
 (.seq
 (.reg 1 [oM 7 (cI 0)] [0, 1, 2, 6, 7])
 (.seq
 (.reg 2 [oM 12 2, oM 13 1, oQ 14 (.bin .sub 12 13), oM 8 14] [0, 6, 7, 8])
 (.seq
 (.seq
 (.reg 3 [oM 15 8, oQ 16 (.bin .sub 15 (cI 1)), oQ 17 (.bin .quo 16 (cI 2)), oM 9 17] [0, 6, 7, 8, 9])
 (.block 0
 (.loop
 (.seq
 (.seq
 (.reg 4 [oM 18 9, oQ 19 (.bin .geq 18 (cI 0))] [0, 6, 7, 8, 9, 19])
 (.cond 19
 .skip
 (.exit 0)))
 (.seq
 (.block 1
 (.reg 6 [oM 22 0, oM 23 9, oM 24 8, oM 25 6, oK 26 (.call 276 [22, 23, 24, 25])] [0, 6, 7, 8, 9]))
 (.reg 5 [oM 20 9, oQ 21 (.bin .sub 20 (cI 1)), oM 9 21] [0, 6, 7, 8, 9]))))))
 (.seq
 (.reg 7 [oM 27 8, oQ 28 (.bin .sub 27 (cI 1)), oM 10 28] [0, 6, 7, 10])
 (.block 2
 (.loop
 (.seq
 (.seq
 (.reg 8 [oM 29 10, oQ 30 (.bin .geq 29 (cI 0))] [0, 6, 7, 10, 30])
 (.cond 30
 .skip
 (.exit 2)))
 (.seq
 (.block 3
 (.seq
 (.dreg 10 [oM 33 0, oM 34 6, oM 35 0, oM 36 6, oM 37 10, oQ 38 (.bin .add 36 37), oM 39 0, oM 40 6, oM 41 10, oQ 42 (.bin .add 40 41), oQ 43 (.iaddr 1 39 42), oQ 44 (.load none 43), oM 45 0, oM 46 6, oQ 47 (.iaddr 1 45 46), oQ 48 (.load none 47), oQ 49 (.iaddr 1 33 34), oN (.store 1 49 44), oQ 50 (.iaddr 1 35 38), oN (.store 1 50 48)] false [0, 6, 7, 10])
 (.reg 11 [oM 51 0, oM 52 7, oM 53 10, oM 54 6, oK 55 (.call 276 [51, 52, 53, 54])] [0, 6, 7, 10])))
 (.reg 9 [oM 31 10, oQ 32 (.bin .sub 31 (cI 1)), oM 10 32] [0, 6, 7, 10]))))))))))
theorem fok239 : FOK Tryz.prog 239 (56, ic239, []) := fokA [] Tryz.func239 (by kernel_rfl) (by kernel_rfl) (by kernel_rfl) (by kernel_rfl)
def ic240 : IC :=
 (.seq
 (.reg 0 [oM 11 2, oM 12 1, oQ 13 (.bin .sub 11 12), oM 6 13] [0, 1, 6])
 (.seq
 (.reg 1 [oM 14 6, oQ 15 (.bin .geq 14 (cI 8))] [0, 1, 6, 15])
 (.cond 15
 (.seq
 (.reg 2 [oM 16 6, oQ 17 (.conv .u64 16), oK 7 (.alloc [(.int .u64 0)]), oN (.store 1 7 17)] [0, 1, 6, 7])
 (.seq
 (.reg 3 [oM 18 6, oK 19 (.call 277 [18]), oM 8 19] [0, 1, 6, 7, 8])
 (.seq
 (.reg 4 [oM 20 1, oM 21 6, oQ 22 (.bin .quo 21 (cI 4)), oQ 23 (.bin .mul 22 (cI 2)), oQ 24 (.bin .add 20 23), oQ 25 (.bin .sub 24 (cI 1)), oM 9 25] [0, 1, 6, 7, 8, 9])
 (.block 0
 (.loop
 (.seq
 (.seq
 (.reg 5 [oM 26 9, oM 27 1, oM 28 6, oQ 29 (.bin .quo 28 (cI 4)), oQ 30 (.bin .mul 29 (cI 2)), oQ 31 (.bin .add 27 30), oQ 32 (.bin .add 31 (cI 1)), oQ 33 (.bin .leq 26 32)] [0, 1, 6, 7, 8, 9, 33])
 (.cond 33
 .skip
 (.exit 0)))
 (.seq
 (.block 1
 (.seq
 (.reg 7 [oK 36 (.call 278 [7]), oM 37 8, oQ 38 (.bin .sub 37 (.c (.int .u64 1))), oQ 39 (.bin .and 36 38), oQ 40 (.conv .i64 39), oM 10 40] [0, 1, 6, 7, 8, 9, 10])
 (.seq
 (.seq
 (.reg 8 [oM 41 10, oM 42 6, oQ 43 (.bin .geq 41 42)] [0, 1, 6, 7, 8, 9, 10, 43])
 (.cond 43
 (.reg 9 [oM 44 10, oM 45 6, oQ 46 (.bin .sub 44 45), oM 10 46] [0, 1, 6, 7, 8, 9, 10])
 .skip))
 (.dreg 10 [oM 47 0, oM 48 9, oM 49 0, oM 50 1, oM 51 10, oQ 52 (.bin .add 50 51), oM 53 0, oM 54 1, oM 55 10, oQ 56 (.bin .add 54 55), oQ 57 (.iaddr 1 53 56), oQ 58 (.load none 57), oM 59 0, oM 60 9, oQ 61 (.iaddr 1 59 60), oQ 62 (.load none 61), oQ 63 (.iaddr 1 47 48), oN (.store 1 63 58), oQ 64 (.iaddr 1 49 52), oN (.store 1 64 62)] false [0, 1, 6, 7, 8, 9]))))
 (.reg 6 [oM 34 9, oQ 35 (.bin .add 34 (cI 1)), oM 9 35] [0, 1, 6, 7, 8, 9]))))))))
 .skip)))
theorem fok240 : FOK Tryz.prog 240 (65, ic240, []) := fokA [] Tryz.func240 (by kernel_rfl) (by kernel_rfl) (by kernel_rfl) (by kernel_rfl)
def ic241 : IC :=
 (.seq
 (.reg 0 [oM 6 (cI 0), oM 7 (cI 0)] [0, 1, 2])
 (.seq
 (.reg 1 [oM 13 2, oM 14 1, oQ 15 (.bin .sub 13 14), oM 8 15] [0, 1, 8])
 (.seq
 (.reg 2 [oK 9 (.alloc [(zI 0)])] [0, 1, 8, 9])
 (.seq
 (.reg 3 [oM 16 1, oM 17 8, oQ 18 (.bin .quo 17 (cI 4)), oQ 19 (.bin .mul 18 (cI 1)), oQ 20 (.bin .add 16 19), oM 10 20] [0, 1, 8, 9, 10])
 (.seq
 (.reg 4 [oM 21 1, oM 22 8, oQ 23 (.bin .quo 22 (cI 4)), oQ 24 (.bin .mul 23 (cI 2)), oQ 25 (.bin .add 21 24), oM 11 25] [0, 1, 8, 9, 10, 11])
 (.seq
 (.reg 5 [oM 26 1, oM 27 8, oQ 28 (.bin .quo 27 (cI 4)), oQ 29 (.bin .mul 28 (cI 3)), oQ 30 (.bin .add 26 29), oM 12 30] [0, 8, 9, 10, 11, 12])
 (.seq
 (.seq
 (.reg 6 [oM 31 8, oQ 32 (.bin .geq 31 (cI 8))] [0, 8, 9, 10, 11, 12, 32])
 (.cond 32
 (.seq
 (.seq
 (.reg 7 [oM 33 8, oQ 34 (.bin .geq 33 (cI 50))] [0, 9, 10, 11, 12, 34])
 (.cond 34
 (.seq
 (.reg 8 [oM 35 0, oM 36 10, oK 37 (.call 279 [35, 36, 9]), oM 10 37] [0, 9, 10, 11, 12])
 (.seq
 (.reg 9 [oM 38 0, oM 39 11, oK 40 (.call 279 [38, 39, 9]), oM 11 40] [0, 9, 10, 11, 12])
 (.reg 10 [oM 41 0, oM 42 12, oK 43 (.call 279 [41, 42, 9]), oM 12 43] [0, 9, 10, 11, 12])))
 .skip))
 (.reg 11 [oM 44 0, oM 45 10, oM 46 11, oM 47 12, oK 48 (.call 280 [44, 45, 46, 47, 9]), oM 11 48] [9, 11]))
 .skip))
 (.seq
 (.reg 12 [oQ 49 (.load none 9)] [11, 49])
 (.block 0
 (.seq
 (.reg 14 [oQ 52 (.bin .eql 49 (cI 0)), oM 51 52] [11, 49, 51])
 (.cond 51
 (.seq
 (.reg 15 [oM 53 11, oM 6 53, oM 7 (cI 1)] [6, 7])
 .ret)
 (.seq
 (.reg 16 [oQ 55 (.bin .eql 49 (cI 12)), oM 54 55] [11, 54])
 (.cond 54
 (.seq
 (.reg 17 [oM 56 11, oM 6 56, oM 7 (cI 2)] [6, 7])
 .ret)
 (.seq
 (.reg 13 [oM 50 11, oM 6 50, oM 7 (cI 0)] [6, 7])
 .ret))))))))))))))
theorem fok241 : FOK Tryz.prog 241 (57, ic241, [(.t 6), (.t 7)]) := fokA [] Tryz.func241 (by kernel_rfl) (by kernel_rfl) (by kernel_rfl) (by kernel_rfl)
def ic242 : IC :=
 (.seq
 (.reg 0 [oM 8 1, oM 6 8] [0, 2, 6])
 (.seq
 (.reg 1 [oM 9 2, oQ 10 (.bin .sub 9 (cI 1)), oM 7 10] [0, 6, 7])
 (.block 0
 (.loop
 (.seq
 (.seq
 (.reg 2 [oM 11 6, oM 12 7, oQ 13 (.bin .lss 11 12)] [0, 6, 7, 13])
 (.cond 13
 .skip
 (.exit 0)))
 (.block 1
 (.seq
 (.dreg 3 [oM 14 0, oM 15 6, oM 16 0, oM 17 7, oM 18 0, oM 19 7, oQ 20 (.iaddr 1 18 19), oQ 21 (.load none 20), oM 22 0, oM 23 6, oQ 24 (.iaddr 1 22 23), oQ 25 (.load none 24), oQ 26 (.iaddr 1 14 15), oN (.store 1 26 21), oQ 27 (.iaddr 1 16 17), oN (.store 1 27 25)] false [0, 6, 7])
 (.seq
 (.reg 4 [oM 28 6, oQ 29 (.bin .add 28 (cI 1)), oM 6 29] [0, 6, 7])
 (.reg 5 [oM 30 7, oQ 31 (.bin .sub 30 (cI 1)), oM 7 31] [0, 6, 7])))))))))
theorem fok242 : FOK Tryz.prog 242 (32, ic242, []) := fokA [] Tryz.func242 (by kernel_rfl) (by kernel_rfl) (by kernel_rfl) (by kernel_rfl)
def ic243 : IC :=
 (.seq
 (.reg 0 [oM 6 (cB false)] [0, 1, 2])
 (.seq
 (.reg 1 [oM 11 1, oQ 12 (.bin .add 11 (cI 1)), oM 7 12] [0, 1, 2, 7])
 (.seq
 (.seq
 (.reg 2 [oM 8 (cI 0)] [0, 1, 2, 7, 8])
 (.block 0
 (.loop
 (.seq
 (.seq
 (.reg 3 [oM 13 8, oQ 14 (.bin .lss 13 (cI 5))] [0, 1, 2, 7, 8, 14])
 (.cond 14
 .skip
 (.exit 0)))
 (.seq
 (.block 1
 (.seq
 (.block 2
 (.loop
 (.seq
 (.seq
 (.dreg 5 [oM 17 7, oM 18 2, oQ 19 (.bin .lss 17 18), oM 20 19, gQ 21 20 true (.mov 0), gQ 22 20 true (.mov 7), gQ 23 20 true (.iaddr 1 21 22), gQ 24 20 true (.load none 23), gQ 25 20 true (.mov 0), gQ 26 20 true (.mov 7), gQ 27 20 true (.bin .sub 26 (cI 1)), gQ 28 20 true (.iaddr 1 25 27), gQ 29 20 true (.load none 28), gK 30 20 true (.call 244 [24, 29]), gQ 31 20 true (.not 30), oQ 32 (.pick 20 31 (cB false))] false [0, 1, 2, 7, 8, 32])
 (.cond 32
 .skip
 (.exit 2)))
 (.block 3
 (.reg 6 [oM 33 7, oQ 34 (.bin .add 33 (cI 1)), oM 7 34] [0, 1, 2, 7, 8])))))
 (.seq
 (.seq
 (.reg 7 [oM 35 7, oM 36 2, oQ 37 (.bin .eql 35 36)] [0, 1, 2, 7, 8, 37])
 (.cond 37
 (.seq
 (.reg 8 [oM 6 (cB true)] [6])
 .ret)
 .skip))
 (.seq
 (.seq
 (.reg 9 [oM 38 2, oM 39 1, oQ 40 (.bin .sub 38 39), oQ 41 (.bin .lss 40 (cI 50))] [0, 1, 2, 7, 8, 41])
 (.cond 41
 (.seq
 (.reg 10 [oM 6 (cB false)] [6])
 .ret)
 .skip))
 (.seq
 (.dreg 11 [oM 42 0, oM 43 7, oM 44 0, oM 45 7, oQ 46 (.bin .sub 45 (cI 1)), oM 47 0, oM 48 7, oQ 49 (.bin .sub 48 (cI 1)), oQ 50 (.iaddr 1 47 49), oQ 51 (.load none 50), oM 52 0, oM 53 7, oQ 54 (.iaddr 1 52 53), oQ 55 (.load none 54), oQ 56 (.iaddr 1 42 43), oN (.store 1 56 51), oQ 57 (.iaddr 1 44 46), oN (.store 1 57 55)] false [0, 1, 2, 7, 8])
 (.seq
 (.seq
 (.reg 12 [oM 58 7, oM 59 1, oQ 60 (.bin .sub 58 59), oQ 61 (.bin .geq 60 (cI 2))] [0, 1, 2, 7, 8, 61])
 (.cond 61
 (.seq
 (.reg 13 [oM 62 7, oQ 63 (.bin .sub 62 (cI 1)), oM 9 63] [0, 1, 2, 7, 8, 9])
 (.block 4
 (.loop
 (.seq
 (.seq
 (.reg 14 [oM 64 9, oQ 65 (.bin .geq 64 (cI 1))] [0, 1, 2, 7, 8, 9, 65])
 (.cond 65
 .skip
 (.exit 4)))
 (.seq
 (.block 5
 (.seq
 (.seq
 (.dreg 16 [oM 68 0, oM 69 9, oQ 70 (.iaddr 1 68 69), oQ 71 (.load none 70), oM 72 0, oM 73 9, oQ 74 (.bin .sub 73 (cI 1)), oQ 75 (.iaddr 1 72 74), oQ 76 (.load none 75), oK 77 (.call 244 [71, 76]), oQ 78 (.not 77)] false [0, 1, 2, 7, 8, 9, 78])
 (.cond 78
 (.exit 4)
 .skip))
 (.dreg 17 [oM 79 0, oM 80 9, oM 81 0, oM 82 9, oQ 83 (.bin .sub 82 (cI 1)), oM 84 0, oM 85 9, oQ 86 (.bin .sub 85 (cI 1)), oQ 87 (.iaddr 1 84 86), oQ 88 (.load none 87), oM 89 0, oM 90 9, oQ 91 (.iaddr 1 89 90), oQ 92 (.load none 91), oQ 93 (.iaddr 1 79 80), oN (.store 1 93 88), oQ 94 (.iaddr 1 81 83), oN (.store 1 94 92)] false [0, 1, 2, 7, 8, 9])))
 (.reg 15 [oM 66 9, oQ 67 (.bin .sub 66 (cI 1)), oM 9 67] [0, 1, 2, 7, 8, 9]))))))
 .skip))
 (.seq
 (.reg 18 [oM 95 2, oM 96 7, oQ 97 (.bin .sub 95 96), oQ 98 (.bin .geq 97 (cI 2))] [0, 1, 2, 7, 8, 98])
 (.cond 98
 (.seq
 (.reg 19 [oM 99 7, oQ 100 (.bin .add 99 (cI 1)), oM 10 100] [0, 1, 2, 7, 8, 10])
 (.block 6
 (.loop
 (.seq
 (.seq
 (.reg 20 [oM 101 10, oM 102 2, oQ 103 (.bin .lss 101 102)] [0, 1, 2, 7, 8, 10, 103])
 (.cond 103
 .skip
 (.exit 6)))
 (.seq
 (.block 7
 (.seq
 (.seq
 (.dreg 22 [oM 106 0, oM 107 10, oQ 108 (.iaddr 1 106 107), oQ 109 (.load none 108), oM 110 0, oM 111 10, oQ 112 (.bin .sub 111 (cI 1)), oQ 113 (.iaddr 1 110 112), oQ 114 (.load none 113), oK 115 (.call 244 [109, 114]), oQ 116 (.not 115)] false [0, 1, 2, 7, 8, 10, 116])
 (.cond 116
 (.exit 6)
 .skip))
 (.dreg 23 [oM 117 0, oM 118 10, oM 119 0, oM 120 10, oQ 121 (.bin .sub 120 (cI 1)), oM 122 0, oM 123 10, oQ 124 (.bin .sub 123 (cI 1)), oQ 125 (.iaddr 1 122 124), oQ 126 (.load none 125), oM 127 0, oM 128 10, oQ 129 (.iaddr 1 127 128), oQ 130 (.load none 129), oQ 131 (.iaddr 1 117 118), oN (.store 1 131 126), oQ 132 (.iaddr 1 119 121), oN (.store 1 132 130)] false [0, 1, 2, 7, 8, 10])))
 (.reg 21 [oM 104 10, oQ 105 (.bin .add 104 (cI 1)), oM 10 105] [0, 1, 2, 7, 8, 10]))))))
 .skip))))))))
 (.reg 4 [oM 15 8, oQ 16 (.bin .add 15 (cI 1)), oM 8 16] [0, 1, 2, 7, 8]))))))
 (.seq
 (.reg 24 [oM 6 (cB false)] [6])
 .ret))))
theorem fok243 : FOK Tryz.prog 243 (133, ic243, [(.t 6)]) := fokA [] Tryz.func243 (by kernel_rfl) (by kernel_rfl) (by kernel_rfl) (by kernel_rfl)
def ic244 : IC :=
 (.seq
 (.reg 0 [oM 4 (cB false)] [0, 1])
 (.seq
 (.reg 1 [oM 5 0, oK 6 (.call 224 [5]), oM 7 6, gQ 8 7 true (.mov 1), gK 9 7 true (.call 224 [8]), gQ 10 7 true (.not 9), oQ 11 (.pick 7 10 (cB false)), oM 12 11, gQ 13 12 false (.mov 0), gQ 14 12 false (.mov 1), gQ 15 12 false (.bin .lss 13 14), oQ 16 (.pick 12 (cB true) 15), oM 4 16] [4])
 .ret))
theorem fok244 : FOK Tryz.prog 244 (17, ic244, [(.t 4)]) := fokA [] Tryz.func244 (by kernel_rfl) (by kernel_rfl) (by kernel_rfl) (by kernel_rfl)
def ic245 : IC :=
 (.seq
 (.reg 0 [oM 8 (cI 0)] [0, 1, 2, 3])
 (.seq
 (.dreg 1 [oM 11 0, oM 12 1, oM 13 0, oM 14 3, oM 15 0, oM 16 3, oQ 17 (.iaddr 1 15 16), oQ 18 (.load none 17), oM 19 0, oM 20 1, oQ 21 (.iaddr 1 19 20), oQ 22 (.load none 21), oQ 23 (.iaddr 1 11 12), oN (.store 1 23 18), oQ 24 (.iaddr 1 13 14), oN (.store 1 24 22)] false [0, 1, 2])
 (.seq
 (.reg 2 [oM 25 1, oQ 26 (.bin .add 25 (cI 1)), oM 27 2, oQ 28 (.bin .sub 27 (cI 1)), oM 9 26, oM 10 28] [0, 1, 9, 10])
 (.seq
 (.block 0
 (.loop
 (.block 1
 (.seq
 (.block 2
 (.loop
 (.seq
 (.seq
 (.dreg 3 [oM 29 9, oM 30 10, oQ 31 (.bin .leq 29 30), oM 32 31, gQ 33 32 true (.mov 0), gQ 34 32 true (.mov 1), gQ 35 32 true (.iaddr 1 33 34), gQ 36 32 true (.load none 35), gQ 37 32 true (.mov 0), gQ 38 32 true (.mov 9), gQ 39 32 true (.iaddr 1 37 38), gQ 40 32 true (.load none 39), gK 41 32 true (.call 244 [36, 40]), gQ 42 32 true (.not 41), oQ 43 (.pick 32 42 (cB false))] false [0, 1, 9, 10, 43])
 (.cond 43
 .skip
 (.exit 2)))
 (.block 3
 (.reg 4 [oM 44 9, oQ 45 (.bin .add 44 (cI 1)), oM 9 45] [0, 1, 9, 10])))))
 (.seq
 (.block 4
 (.loop
 (.seq
 (.seq
 (.dreg 5 [oM 46 9, oM 47 10, oQ 48 (.bin .leq 46 47), oM 49 48, gQ 50 49 true (.mov 0), gQ 51 49 true (.mov 1), gQ 52 49 true (.iaddr 1 50 51), gQ 53 49 true (.load none 52), gQ 54 49 true (.mov 0), gQ 55 49 true (.mov 10), gQ 56 49 true (.iaddr 1 54 55), gQ 57 49 true (.load none 56), gK 58 49 true (.call 244 [53, 57]), oQ 59 (.pick 49 58 (cB false))] false [0, 1, 9, 10, 59])
 (.cond 59
 .skip
 (.exit 4)))
 (.block 5
 (.reg 6 [oM 60 10, oQ 61 (.bin .sub 60 (cI 1)), oM 10 61] [0, 1, 9, 10])))))
 (.seq
 (.seq
 (.reg 7 [oM 62 9, oM 63 10, oQ 64 (.bin .gtr 62 63)] [0, 1, 9, 10, 64])
 (.cond 64
 (.exit 0)
 .skip))
 (.seq
 (.dreg 8 [oM 65 0, oM 66 9, oM 67 0, oM 68 10, oM 69 0, oM 70 10, oQ 71 (.iaddr 1 69 70), oQ 72 (.load none 71), oM 73 0, oM 74 9, oQ 75 (.iaddr 1 73 74), oQ 76 (.load none 75), oQ 77 (.iaddr 1 65 66), oN (.store 1 77 72), oQ 78 (.iaddr 1 67 68), oN (.store 1 78 76)] false [0, 1, 9, 10])
 (.seq
 (.reg 9 [oM 79 9, oQ 80 (.bin .add 79 (cI 1)), oM 9 80] [0, 1, 9, 10])
 (.reg 10 [oM 81 10, oQ 82 (.bin .sub 81 (cI 1)), oM 10 82] [0, 1, 9, 10])))))))))
 (.seq
 (.reg 11 [oM 83 9, oM 8 83] [8])
 .ret)))))
theorem fok245 : FOK Tryz.prog 245 (84, ic245, [(.t 8)]) := fokA [] Tryz.func245 (by kernel_rfl) (by kernel_rfl) (by kernel_rfl) (by kernel_rfl)
def ic246 : IC :=
 (.seq
 (.reg 0 [oM 8 (cI 0), oM 9 (cB false)] [0, 1, 2, 3])
 (.seq
 (.dreg 1 [oM 12 0, oM 13 1, oM 14 0, oM 15 3, oM 16 0, oM 17 3, oQ 18 (.iaddr 1 16 17), oQ 19 (.load none 18), oM 20 0, oM 21 1, oQ 22 (.iaddr 1 20 21), oQ 23 (.load none 22), oQ 24 (.iaddr 1 12 13), oN (.store 1 24 19), oQ 25 (.iaddr 1 14 15), oN (.store 1 25 23)] false [0, 1, 2])
 (.seq
 (.reg 2 [oM 26 1, oQ 27 (.bin .add 26 (cI 1)), oM 28 2, oQ 29 (.bin .sub 28 (cI 1)), oM 10 27, oM 11 29] [0, 1, 10, 11])
 (.seq
 (.block 0
 (.loop
 (.seq
 (.seq
 (.dreg 3 [oM 30 10, oM 31 11, oQ 32 (.bin .leq 30 31), oM 33 32, gQ 34 33 true (.mov 0), gQ 35 33 true (.mov 10), gQ 36 33 true (.iaddr 1 34 35), gQ 37 33 true (.load none 36), gQ 38 33 true (.mov 0), gQ 39 33 true (.mov 1), gQ 40 33 true (.iaddr 1 38 39), gQ 41 33 true (.load none 40), gK 42 33 true (.call 244 [37, 41]), oQ 43 (.pick 33 42 (cB false))] false [0, 1, 10, 11, 43])
 (.cond 43
 .skip
 (.exit 0)))
 (.block 1
 (.reg 4 [oM 44 10, oQ 45 (.bin .add 44 (cI 1)), oM 10 45] [0, 1, 10, 11])))))
 (.seq
 (.block 2
 (.loop
 (.seq
 (.seq
 (.dreg 5 [oM 46 10, oM 47 11, oQ 48 (.bin .leq 46 47), oM 49 48, gQ 50 49 true (.mov 0), gQ 51 49 true (.mov 11), gQ 52 49 true (.iaddr 1 50 51), gQ 53 49 true (.load none 52), gQ 54 49 true (.mov 0), gQ 55 49 true (.mov 1), gQ 56 49 true (.iaddr 1 54 55), gQ 57 49 true (.load none 56), gK 58 49 true (.call 244 [53, 57]), gQ 59 49 true (.not 58), oQ 60 (.pick 49 59 (cB false))] false [0, 1, 10, 11, 60])
 (.cond 60
 .skip
 (.exit 2)))
 (.block 3
 (.reg 6 [oM 61 11, oQ 62 (.bin .sub 61 (cI 1)), oM 11 62] [0, 1, 10, 11])))))
 (.seq
 (.seq
 (.reg 7 [oM 63 10, oM 64 11, oQ 65 (.bin .gtr 63 64)] [0, 1, 10, 11, 65])
 (.cond 65
 (.seq
 (.dreg 8 [oM 66 0, oM 67 11, oM 68 0, oM 69 1, oM 70 0, oM 71 1, oQ 72 (.iaddr 1 70 71), oQ 73 (.load none 72), oM 74 0, oM 75 11, oQ 76 (.iaddr 1 74 75), oQ 77 (.load none 76), oQ 78 (.iaddr 1 66 67), oN (.store 1 78 73), oQ 79 (.iaddr 1 68 69), oN (.store 1 79 77)] false [11])
 (.seq
 (.reg 9 [oM 80 11, oM 8 80, oM 9 (cB true)] [8, 9])
 .ret))
 .skip))
 (.seq
 (.dreg 10 [oM 81 0, oM 82 10, oM 83 0, oM 84 11, oM 85 0, oM 86 11, oQ 87 (.iaddr 1 85 86), oQ 88 (.load none 87), oM 89 0, oM 90 10, oQ 91 (.iaddr 1 89 90), oQ 92 (.load none 91), oQ 93 (.iaddr 1 81 82), oN (.store 1 93 88), oQ 94 (.iaddr 1 83 84), oN (.store 1 94 92)] false [0, 1, 10, 11])
 (.seq
 (.reg 11 [oM 95 10, oQ 96 (.bin .add 95 (cI 1)), oM 10 96] [0, 1, 10, 11])
 (.seq
 (.reg 12 [oM 97 11, oQ 98 (.bin .sub 97 (cI 1)), oM 11 98] [0, 1, 10, 11])
 (.seq
 (.block 4
 (.loop
 (.block 5
 (.seq
 (.block 6
 (.loop
 (.seq
 (.seq
 (.dreg 13 [oM 99 10, oM 100 11, oQ 101 (.bin .leq 99 100), oM 102 101, gQ 103 102 true (.mov 0), gQ 104 102 true (.mov 10), gQ 105 102 true (.iaddr 1 103 104), gQ 106 102 true (.load none 105), gQ 107 102 true (.mov 0), gQ 108 102 true (.mov 1), gQ 109 102 true (.iaddr 1 107 108), gQ 110 102 true (.load none 109), gK 111 102 true (.call 244 [106, 110]), oQ 112 (.pick 102 111 (cB false))] false [0, 1, 10, 11, 112])
 (.cond 112
 .skip
 (.exit 6)))
 (.block 7
 (.reg 14 [oM 113 10, oQ 114 (.bin .add 113 (cI 1)), oM 10 114] [0, 1, 10, 11])))))
 (.seq
 (.block 8
 (.loop
 (.seq
 (.seq
 (.dreg 15 [oM 115 10, oM 116 11, oQ 117 (.bin .leq 115 116), oM 118 117, gQ 119 118 true (.mov 0), gQ 120 118 true (.mov 11), gQ 121 118 true (.iaddr 1 119 120), gQ 122 118 true (.load none 121), gQ 123 118 true (.mov 0), gQ 124 118 true (.mov 1), gQ 125 118 true (.iaddr 1 123 124), gQ 126 118 true (.load none 125), gK 127 118 true (.call 244 [122, 126]), gQ 128 118 true (.not 127), oQ 129 (.pick 118 128 (cB false))] false [0, 1, 10, 11, 129])
 (.cond 129
 .skip
 (.exit 8)))
 (.block 9
 (.reg 16 [oM 130 11, oQ 131 (.bin .sub 130 (cI 1)), oM 11 131] [0, 1, 10, 11])))))
 (.seq
 (.seq
 (.reg 17 [oM 132 10, oM 133 11, oQ 134 (.bin .gtr 132 133)] [0, 1, 10, 11, 134])
 (.cond 134
 (.exit 4)
 .skip))
 (.seq
 (.dreg 18 [oM 135 0, oM 136 10, oM 137 0, oM 138 11, oM 139 0, oM 140 11, oQ 141 (.iaddr 1 139 140), oQ 142 (.load none 141), oM 143 0, oM 144 10, oQ 145 (.iaddr 1 143 144), oQ 146 (.load none 145), oQ 147 (.iaddr 1 135 136), oN (.store 1 147 142), oQ 148 (.iaddr 1 137 138), oN (.store 1 148 146)] false [0, 1, 10, 11])
 (.seq
 (.reg 19 [oM 149 10, oQ 150 (.bin .add 149 (cI 1)), oM 10 150] [0, 1, 10, 11])
 (.reg 20 [oM 151 11, oQ 152 (.bin .sub 151 (cI 1)), oM 11 152] [0, 1, 10, 11])))))))))
 (.seq
 (.dreg 21 [oM 153 0, oM 154 11, oM 155 0, oM 156 1, oM 157 0, oM 158 1, oQ 159 (.iaddr 1 157 158), oQ 160 (.load none 159), oM 161 0, oM 162 11, oQ 163 (.iaddr 1 161 162), oQ 164 (.load none 163), oQ 165 (.iaddr 1 153 154), oN (.store 1 165 160), oQ 166 (.iaddr 1 155 156), oN (.store 1 166 164)] false [11])
 (.seq
 (.reg 22 [oM 167 11, oM 8 167, oM 9 (cB false)] [8, 9])
 .ret))))))))))))
theorem fok246 : FOK Tryz.prog 246 (168, ic246, [(.t 8), (.t 9)]) := fokA [] Tryz.func246 (by kernel_rfl) (by kernel_rfl) (by kernel_rfl) (by kernel_rfl)
def ic247 : IC :=
 (.seq
 (.reg 0 [oM 2 (cI 0)] [0, 2])
 (.seq
 (.seq
 (.reg 1 [oM 3 0, oQ 4 (.bin .geq 3 (.c (.int .u32 65536)))] [0, 2, 4])
 (.cond 4
 (.seq
 (.reg 2 [oM 5 0, oQ 6 (.bin .shr 5 (.c (.int .u64 16))), oM 0 6] [0])
 (.reg 3 [oM 2 (cI 16)] [0, 2]))
 .skip))
 (.seq
 (.seq
 (.reg 4 [oM 7 0, oQ 8 (.bin .geq 7 (.c (.int .u32 256)))] [0, 2, 8])
 (.cond 8
 (.seq
 (.reg 5 [oM 9 0, oQ 10 (.bin .shr 9 (.c (.int .u64 8))), oM 0 10] [0, 2])
 (.reg 6 [oM 11 2, oQ 12 (.bin .add 11 (cI 8)), oM 2 12] [0, 2]))
 .skip))
 (.seq
 (.reg 7 [oM 13 2, oM 14 0, oQ 15 (.conv .u8 14), oQ 16 (.istr (.c (.str [0, 1, 2, 2, 3, 3, 3, 3, 4, 4, 4, 4, 4, 4, 4, 4, 5, 5, 5, 5, 5, 5, 5, 5, 5, 5, 5, 5, 5, 5, 5, 5, 6, 6, 6, 6, 6, 6, 6, 6, 6, 6, 6, 6, 6, 6, 6, 6, 6, 6, 6, 6, 6, 6, 6, 6, 6, 6, 6, 6, 6, 6, 6, 6, 7, 7, 7, 7, 7, 7, 7, 7, 7, 7, 7, 7, 7, 7, 7, 7, 7, 7, 7, 7, 7, 7, 7, 7, 7, 7, 7, 7, 7, 7, 7, 7, 7, 7, 7, 7, 7, 7, 7, 7, 7, 7, 7, 7, 7, 7, 7, 7, 7, 7, 7, 7, 7, 7, 7, 7, 7, 7, 7, 7, 7, 7, 7, 7, 8, 8, 8, 8, 8, 8, 8, 8, 8, 8, 8, 8, 8, 8, 8, 8, 8, 8, 8, 8, 8, 8, 8, 8, 8, 8, 8, 8, 8, 8, 8, 8, 8, 8, 8, 8, 8, 8, 8, 8, 8, 8, 8, 8, 8, 8, 8, 8, 8, 8, 8, 8, 8, 8, 8, 8, 8, 8, 8, 8, 8, 8, 8, 8, 8, 8, 8, 8, 8, 8, 8, 8, 8, 8, 8, 8, 8, 8, 8, 8, 8, 8, 8, 8, 8, 8, 8, 8, 8, 8, 8, 8, 8, 8, 8, 8, 8, 8, 8, 8, 8, 8, 8, 8, 8, 8, 8, 8, 8, 8, 8, 8, 8, 8, 8, 8, 8, 8, 8, 8, 8, 8, 8, 8, 8, 8, 8, 8])) 15), oQ 17 (.conv .i64 16), oQ 18 (.bin .add 13 17), oM 2 18] [2])
 .ret))))
theorem fok247 : FOK Tryz.prog 247 (19, ic247, [(.t 2)]) := fokA [] Tryz.func247 (by kernel_rfl) (by kernel_rfl) (by kernel_rfl) (by kernel_rfl)
def ic248 : IC :=
 (.seq
 (.reg 0 [oM 2 (cI 0)] [0, 2])
 (.seq
 (.seq
 (.reg 1 [oM 3 0, oQ 4 (.bin .geq 3 (.c (.int .u64 4294967296)))] [0, 2, 4])
 (.cond 4
 (.seq
 (.reg 2 [oM 5 0, oQ 6 (.bin .shr 5 (.c (.int .u64 32))), oM 0 6] [0])
 (.reg 3 [oM 2 (cI 32)] [0, 2]))
 .skip))
 (.seq
 (.seq
 (.reg 4 [oM 7 0, oQ 8 (.bin .geq 7 (.c (.int .u64 65536)))] [0, 2, 8])
 (.cond 8
 (.seq
 (.reg 5 [oM 9 0, oQ 10 (.bin .shr 9 (.c (.int .u64 16))), oM 0 10] [0, 2])
 (.reg 6 [oM 11 2, oQ 12 (.bin .add 11 (cI 16)), oM 2 12] [0, 2]))
 .skip))
 (.seq
 (.seq
 (.reg 7 [oM 13 0, oQ 14 (.bin .geq 13 (.c (.int .u64 256)))] [0, 2, 14])
 (.cond 14
 (.seq
 (.reg 8 [oM 15 0, oQ 16 (.bin .shr 15 (.c (.int .u64 8))), oM 0 16] [0, 2])
 (.reg 9 [oM 17 2, oQ 18 (.bin .add 17 (cI 8)), oM 2 18] [0, 2]))
 .skip))
 (.seq
 (.reg 10 [oM 19 2, oM 20 0, oQ 21 (.conv .u8 20), oQ 22 (.istr (.c (.str [0, 1, 2, 2, 3, 3, 3, 3, 4, 4, 4, 4, 4, 4, 4, 4, 5, 5, 5, 5, 5, 5, 5, 5, 5, 5, 5, 5, 5, 5, 5, 5, 6, 6, 6, 6, 6, 6, 6, 6, 6, 6, 6, 6, 6, 6, 6, 6, 6, 6, 6, 6, 6, 6, 6, 6, 6, 6, 6, 6, 6, 6, 6, 6, 7, 7, 7, 7, 7, 7, 7, 7, 7, 7, 7, 7, 7, 7, 7, 7, 7, 7, 7, 7, 7, 7, 7, 7, 7, 7, 7, 7, 7, 7, 7, 7, 7, 7, 7, 7, 7, 7, 7, 7, 7, 7, 7, 7, 7, 7, 7, 7, 7, 7, 7, 7, 7, 7, 7, 7, 7, 7, 7, 7, 7, 7, 7, 7, 8, 8, 8, 8, 8, 8, 8, 8, 8, 8, 8, 8, 8, 8, 8, 8, 8, 8, 8, 8, 8, 8, 8, 8, 8, 8, 8, 8, 8, 8, 8, 8, 8, 8, 8, 8, 8, 8, 8, 8, 8, 8, 8, 8, 8, 8, 8, 8, 8, 8, 8, 8, 8, 8, 8, 8, 8, 8, 8, 8, 8, 8, 8, 8, 8, 8, 8, 8, 8, 8, 8, 8, 8, 8, 8, 8, 8, 8, 8, 8, 8, 8, 8, 8, 8, 8, 8, 8, 8, 8, 8, 8, 8, 8, 8, 8, 8, 8, 8, 8, 8, 8, 8, 8, 8, 8, 8, 8, 8, 8, 8, 8, 8, 8, 8, 8, 8, 8, 8, 8, 8, 8, 8, 8, 8, 8, 8, 8])) 21), oQ 23 (.conv .i64 22), oQ 24 (.bin .add 19 23), oM 2 24] [2])
 .ret)))))
theorem fok248 : FOK Tryz.prog 248 (25, ic248, [(.t 2)]) := fokA [] Tryz.func248 (by kernel_rfl) (by kernel_rfl) (by kernel_rfl) (by kernel_rfl)
def ic250 : IC :=
(.seq
 (.reg 0 [⟨(some 0), none, (.alloc [(.str []), (.str []), (.str []), (.str []), (.str [])])⟩] [0])
 (.seq
  (.reg 1 [⟨(some 1), none, (.q (.bld [(.str []), (.str []), (.str []), (.str []), (.str [])] [⟨1, ⟨1, (.c (.str [110, 111, 97, 114, 99, 104]))⟩⟩, ⟨2, ⟨1, (.c (.str [120, 56, 54, 95, 54, 52]))⟩⟩, ⟨3, ⟨1, (.c (.str [105, 54, 56, 54]))⟩⟩, ⟨4, ⟨1, (.c (.str [97, 97, 114, 99, 104, 54, 52]))⟩⟩]))⟩, ⟨none, none, (.store 5 (.t 0) (.t 1))⟩] [0])
  .ret))
theorem fok250 : FOK Tryz.prog 250 (2, ic250, [(.cell (some 5) 0)]) := .mk (pf := []) (an := [(0, [0]), (1, [0])]) (by kernel_rfl) (fnOK_of Tryz.func250 (by kernel_rfl) (by kernel_rfl) (by kernel_rfl))
def ic251 : IC :=
(.seq
 (.reg 0 [⟨(some 2), none, (.boxt (.t 0))⟩, ⟨(some 3), none, (.q (.mov (.c (.bool false))))⟩] [1, 2])
 (.seq
  (.reg 1 [⟨(some 4), none, (.q (.load none (.t 1)))⟩, ⟨(some 5), none, (.q (.load (some 5) (.t 2)))⟩, ⟨(some 6), none, (.callv (.t 4) [(.t 5)])⟩, ⟨(some 7), none, (.q (.not (.t 6)))⟩, ⟨(some 3), none, (.q (.mov (.t 7)))⟩] [3])
  .ret))
theorem fok251 : FOK Tryz.prog 251 (8, ic251, [(.t 3)]) := .mk (pf := [1000002]) (an := [(0, [1, 2]), (1, [3])]) (by kernel_rfl) (fnOK_of Tryz.func251 (by kernel_rfl) (by kernel_rfl) (by kernel_rfl))
def ic252 : IC :=
(.seq
 (.reg 0 [⟨(some 4), none, (.q (.mov (.c (.bool false))))⟩] [0, 1])
 (.seq
  (.reg 1 [⟨(some 5), none, (.q (.mov (.t 0)))⟩, ⟨(some 6), none, (.q (.mov (.t 1)))⟩, ⟨(some 7), none, (.call 281 [(.t 5), (.t 6)])⟩, ⟨(some 8), none, (.q (.bin .geq (.t 7) (.c (.int .i64 0))))⟩, ⟨(some 4), none, (.q (.mov (.t 8)))⟩] [4])
  .ret))
theorem fok252 : FOK Tryz.prog 252 (9, ic252, [(.t 4)]) := .mk (pf := []) (an := [(0, [0, 1]), (1, [4])]) (by kernel_rfl) (fnOK_of Tryz.func252 (by kernel_rfl) (by kernel_rfl) (by kernel_rfl))
def ic253 : IC :=
(.seq
 (.reg 0 [⟨(some 3), none, (.q (.mov (.c (.bool false))))⟩] [0, 1])
 (.seq
  (.reg 1 [⟨(some 4), none, (.q (.load none (.t 1)))⟩, ⟨(some 5), none, (.q (.mov (.t 0)))⟩, ⟨(some 6), none, (.callv (.t 4) [(.t 5)])⟩, ⟨(some 7), none, (.q (.not (.t 6)))⟩, ⟨(some 3), none, (.q (.mov (.t 7)))⟩] [3])
  .ret))
theorem fok253 : FOK Tryz.prog 253 (8, ic253, [(.t 3)]) := .mk (pf := []) (an := [(0, [0, 1]), (1, [3])]) (by kernel_rfl) (fnOK_of Tryz.func253 (by kernel_rfl) (by kernel_rfl) (by kernel_rfl))
def ic254 : IC :=
(.reg 0 [⟨(some 3), none, (.q (.mov (.t 0)))⟩, ⟨(some 4), none, (.q (.faddr 7 (.t 1)))⟩, ⟨(some 5), none, (.q (.load none (.t 4)))⟩, ⟨(some 6), none, (.callv (.t 3) [(.c (.int .u8 1)), (.t 5)])⟩, ⟨(some 7), none, (.q (.mov (.t 6)))⟩, ⟨(some 8), (some ⟨7, true⟩), (.q (.mov (.t 0)))⟩, ⟨(some 9), (some ⟨7, true⟩), (.q (.faddr 8 (.t 1)))⟩, ⟨(some 10), (some ⟨7, true⟩), (.q (.load none (.t 9)))⟩, ⟨(some 11), (some ⟨7, true⟩), (.callv (.t 8) [(.c (.int .u8 2)), (.t 10)])⟩, ⟨(some 12), none, (.q (.pick (.t 7) (.t 11) (.c (.bool false))))⟩, ⟨(some 13), none, (.q (.mov (.t 12)))⟩, ⟨(some 14), (some ⟨13, true⟩), (.q (.mov (.t 0)))⟩, ⟨(some 15), (some ⟨13, true⟩), (.q (.faddr 10 (.t 1)))⟩, ⟨(some 16), (some ⟨13, true⟩), (.q (.load none (.t 15)))⟩, ⟨(some 17), (some ⟨13, true⟩), (.callv (.t 14) [(.c (.int .u8 1)), (.t 16)])⟩, ⟨(some 18), none, (.q (.pick (.t 13) (.t 17) (.c (.bool false))))⟩, ⟨(some 19), none, (.q (.mov (.t 18)))⟩, ⟨(some 20), (some ⟨19, true⟩), (.q (.mov (.t 0)))⟩, ⟨(some 21), (some ⟨19, true⟩), (.q (.faddr 11 (.t 1)))⟩, ⟨(some 22), (some ⟨19, true⟩), (.q (.load none (.t 21)))⟩, ⟨(some 23), (some ⟨19, true⟩), (.callv (.t 20) [(.c (.int .u8 3)), (.t 22)])⟩, ⟨(some 24), none, (.q (.pick (.t 19) (.t 23) (.c (.bool false))))⟩, ⟨(some 25), none, (.q (.mov (.t 24)))⟩, ⟨(some 26), (some ⟨25, true⟩), (.q (.mov (.t 0)))⟩, ⟨(some 27), (some ⟨25, true⟩), (.q (.faddr 12 (.t 1)))⟩, ⟨(some 28), (some ⟨25, true⟩), (.q (.load none (.t 27)))⟩, ⟨(some 29), (some ⟨25, true⟩), (.callv (.t 26) [(.c (.int .u8 1)), (.t 28)])⟩, ⟨(some 30), none, (.q (.pick (.t 25) (.t 29) (.c (.bool false))))⟩, ⟨(some 31), none, (.q (.mov (.t 30)))⟩, ⟨(some 32), (some ⟨31, true⟩), (.q (.mov (.t 0)))⟩, ⟨(some 33), (some ⟨31, true⟩), (.q (.faddr 13 (.t 1)))⟩, ⟨(some 34), (some ⟨31, true⟩), (.q (.load none (.t 33)))⟩, ⟨(some 35), (some ⟨31, true⟩), (.callv (.t 32) [(.c (.int .u8 3)), (.t 34)])⟩, ⟨(some 36), none, (.q (.pick (.t 31) (.t 35) (.c (.bool false))))⟩] [])
theorem fok254 : FOK Tryz.prog 254 (37, ic254, []) := .mk (pf := []) (an := []) (by kernel_rfl) (fnOK_of Tryz.func254 (by kernel_rfl) (by kernel_rfl) (by kernel_rfl))
def ic255 : IC :=
(.seq
 (.reg 0 [⟨(some 2), none, (.boxt (.t 0))⟩, ⟨(some 3), none, (.q (.mov (.c (.bool false))))⟩] [1, 2])
 (.seq
  (.reg 1 [⟨(some 4), none, (.q (.load none (.t 1)))⟩, ⟨(some 5), none, (.q (.load (some 7) (.t 2)))⟩, ⟨(some 6), none, (.callv (.t 4) [(.t 5)])⟩, ⟨(some 7), none, (.q (.not (.t 6)))⟩, ⟨(some 3), none, (.q (.mov (.t 7)))⟩] [3])
  .ret))
theorem fok255 : FOK Tryz.prog 255 (8, ic255, [(.t 3)]) := .mk (pf := [1000002]) (an := [(0, [1, 2]), (1, [3])]) (by kernel_rfl) (fnOK_of Tryz.func255 (by kernel_rfl) (by kernel_rfl) (by kernel_rfl))
def ic259 : IC :=
(.seq
 (.reg 0 [⟨(some 4), none, (.q (.mov (.c (.int .i64 0))))⟩] [0, 1])
 (.seq
  (.reg 1 [⟨(some 5), none, (.q (.mov (.t 0)))⟩, ⟨(some 6), none, (.q (.mov (.t 1)))⟩, ⟨(some 7), none, (.q (.ibs (.t 5) (.t 6)))⟩, ⟨(some 4), none, (.q (.mov (.t 7)))⟩] [4])
  .ret))
theorem fok259 : FOK Tryz.prog 259 (8, ic259, [(.t 4)]) := .mk (pf := []) (an := [(0, [0, 1]), (1, [4])]) (by kernel_rfl) (fnOK_of Tryz.func259 (by kernel_rfl) (by kernel_rfl) (by kernel_rfl))
def ic260 : IC :=
(.seq
 (.reg 0 [⟨(some 4), none, (.q (.mov (.c (.bool false))))⟩] [0, 1])
 (.seq
  (.reg 1 [⟨(some 5), none, (.q (.mov (.t 0)))⟩, ⟨(some 6), none, (.q (.len 1 (.t 5)))⟩, ⟨(some 7), none, (.q (.mov (.t 1)))⟩, ⟨(some 8), none, (.q (.len 1 (.t 7)))⟩, ⟨(some 9), none, (.q (.bin .geq (.t 6) (.t 8)))⟩, ⟨(some 10), none, (.q (.mov (.t 9)))⟩, ⟨(some 11), (some ⟨10, true⟩), (.q (.mov (.t 0)))⟩, ⟨(some 12), (some ⟨10, true⟩), (.q (.mov (.t 1)))⟩, ⟨(some 13), (some ⟨10, true⟩), (.q (.len 1 (.t 12)))⟩, ⟨(some 14), (some ⟨10, true⟩), (.q (.sstr (.t 11) none (some (.t 13))))⟩, ⟨(some 15), (some ⟨10, true⟩), (.q (.mov (.t 1)))⟩, ⟨(some 16), (some ⟨10, true⟩), (.q (.bin .eql (.t 14) (.t 15)))⟩, ⟨(some 17), none, (.q (.pick (.t 10) (.t 16) (.c (.bool false))))⟩, ⟨(some 4), none, (.q (.mov (.t 17)))⟩] [4])
  .ret))
theorem fok260 : FOK Tryz.prog 260 (18, ic260, [(.t 4)]) := .mk (pf := []) (an := [(0, [0, 1]), (1, [4])]) (by kernel_rfl) (fnOK_of Tryz.func260 (by kernel_rfl) (by kernel_rfl) (by kernel_rfl))
def ic261 : IC :=
 (.seq
 (.reg 0 [oK 2 (.boxt 0), oM 3 (cB false)] [1, 2])
 (.seq
 (.reg 1 [oQ 4 (.load (some 5) 2), oQ 5 (.load (some 5) 1), oK 6 (.call 188 [4, 5]), oM 3 6] [3])
 .ret))
theorem fok261 : FOK Tryz.prog 261 (7, ic261, [(.t 3)]) := fokA [1000002] Tryz.func261 (by kernel_rfl) (by kernel_rfl) (by kernel_rfl) (by kernel_rfl)
def ic262 : IC :=
 (.seq
 (.reg 0 [oM 4 (cB false)] [0, 1])
 (.seq
 (.reg 1 [oM 5 0, oM 6 1, oK 7 (.call 283 [5, 6]), oQ 8 (.bin .geq 7 (cI 0)), oM 4 8] [4])
 .ret))
theorem fok262 : FOK Tryz.prog 262 (9, ic262, [(.t 4)]) := fokA [] Tryz.func262 (by kernel_rfl) (by kernel_rfl) (by kernel_rfl) (by kernel_rfl)
def ic263 : IC :=
 (.seq
 (.reg 0 [oM 2 (.c (.str []))] [0])
 (.seq
 (.reg 1 [oM 3 0, oK 4 (.call 284 [3]), oM 2 4] [2])
 .ret))
theorem fok263 : FOK Tryz.prog 263 (5, ic263, [(.t 2)]) := fokA [] Tryz.func263 (by kernel_rfl) (by kernel_rfl) (by kernel_rfl) (by kernel_rfl)
def ic264 : IC :=
 (.seq
 (.reg 0 [oM 3 (cB false)] [0, 1])
 (.seq
 (.reg 1 [oM 4 0, oQ 5 (.load none 1), oQ 6 (.bin .eql 4 5), oM 3 6] [3])
 .ret))
theorem fok264 : FOK Tryz.prog 264 (7, ic264, [(.t 3)]) := fokA [] Tryz.func264 (by kernel_rfl) (by kernel_rfl) (by kernel_rfl) (by kernel_rfl)
def ic265 : IC :=
 (.seq
 (.reg 0 [oM 2 (.c .nilslice)] [0])
 (.seq
 (.reg 1 [oM 3 (.c .nilslice)] [0, 3])
 (.seq
 (.seq
 (.reg 2 [oM 6 0, oQ 7 (.len 0 6), oM 8 (cI 0)] [3, 6, 7, 8])
 (.block 0
 (.loop
 (.seq
 (.reg 3 [oQ 9 (.bin .lss 8 7)] [3, 6, 7, 8, 9])
 (.seq
 (.cond 9
 .skip
 (.exit 0))
 (.seq
 (.block 1
 (.seq
 (.reg 4 [oQ 10 (.iaddr 1 6 8), oQ 11 (.load none 10), oM 5 11] [3, 5, 6, 7, 8])
 (.reg 5 [oM 12 3, oM 13 5, oQ 14 (.neg 13), oK 15 (.bslt 1 1 [(zI 0)] [⟨0, ⟨1, 14⟩⟩]), oK 16 (.app 1 12 15), oM 3 16] [3, 6, 7, 8])))
 (.reg 6 [oQ 17 (.bin .add 8 (cI 1)), oM 8 17] [3, 6, 7, 8])))))))
 (.seq
 (.reg 7 [oM 18 3, oM 2 18] [2])
 .ret))))
theorem fok265 : FOK Tryz.prog 265 (19, ic265, [(.t 2)]) := fokA [1000015] Tryz.func265 (by kernel_rfl) (by kernel_rfl) (by kernel_rfl) (by kernel_rfl)
def ic266 : IC :=
 (.seq
 (.reg 0 [oM 2 (cI 0)] [0])
 (.seq
 (.reg 1 [oM 3 0, oQ 4 (.nchk 3), oQ 5 (.faddr 2 4), oQ 6 (.load none 5), oQ 7 (.bin .add 6 (cI 1)), oQ 8 (.nchk 3), oQ 9 (.faddr 2 8), oN (.store 1 9 7)] [0])
 (.seq
 (.dreg 2 [oM 10 0, oQ 11 (.nchk 10), oQ 12 (.faddr 1 11), oQ 13 (.load none 12), oQ 14 (.len 0 13), oM 15 0, oQ 16 (.nchk 15), oQ 17 (.faddr 2 16), oQ 18 (.load none 17), oQ 19 (.bin .add 14 18), oM 2 19] false [2])
 .ret)))
theorem fok266 : FOK Tryz.prog 266 (20, ic266, [(.t 2)]) := fokA [] Tryz.func266 (by kernel_rfl) (by kernel_rfl) (by kernel_rfl) (by kernel_rfl)
def ic267 : IC :=
 (.seq
 (.reg 0 [oK 2 (.boxt 0), oM 3 (cB false)] [1, 2])
 (.seq
 (.reg 1 [oQ 4 (.load (some 15) 1), oQ 5 (.load (some 7) 2), oK 6 (.call 222 [4, 5]), oM 3 6] [3])
 .ret))
theorem fok267 : FOK Tryz.prog 267 (7, ic267, [(.t 3)]) := fokA [1000002] Tryz.func267 (by kernel_rfl) (by kernel_rfl) (by kernel_rfl) (by kernel_rfl)
def ic268 : IC :=
 (.seq
 (.reg 0 [oK 2 (.boxt 0), oM 3 (cB false)] [1, 2])
 (.seq
 (.reg 1 [oQ 4 (.load (some 15) 1), oQ 5 (.load (some 7) 2), oK 6 (.call 222 [4, 5]), oQ 7 (.not 6), oM 3 7] [3])
 .ret))
theorem fok268 : FOK Tryz.prog 268 (8, ic268, [(.t 3)]) := fokA [1000002] Tryz.func268 (by kernel_rfl) (by kernel_rfl) (by kernel_rfl) (by kernel_rfl)
def ic269 : IC :=
 (.seq
 (.reg 0 [oK 1 (.boxt 0), oM 2 (.c .nilfunc)] [1])
 (.seq
 (.reg 1 [oQ 3 (.mkf 285 [] [1]), oM 2 3] [2])
 .ret))
theorem fok269 : FOK Tryz.prog 269 (4, ic269, [(.t 2)]) := fokA [1000001] Tryz.func269 (by kernel_rfl) (by kernel_rfl) (by kernel_rfl) (by kernel_rfl)
def ic270 : IC :=
 (.seq
 (.reg 0 [oM 2 (cI 0)] [0])
 (.seq
 (.reg 1 [oM 3 (cI 0)] [0, 3])
 (.seq
 (.seq
 (.reg 2 [oM 6 0, oQ 7 (.len 0 6), oM 8 (cI 0)] [3, 6, 7, 8])
 (.block 0
 (.loop
 (.seq
 (.reg 3 [oQ 9 (.bin .lss 8 7)] [3, 6, 7, 8, 9])
 (.seq
 (.cond 9
 .skip
 (.exit 0))
 (.seq
 (.block 1
 (.seq
 (.reg 4 [oQ 10 (.iaddr 1 6 8), oQ 11 (.load none 10), oM 5 11] [3, 5, 6, 7, 8])
 (.seq
 (.reg 5 [oM 12 5, oM 13 3, oQ 14 (.bin .neq 12 13)] [3, 5, 6, 7, 8, 14])
 (.cond 14
 (.seq
 (.reg 6 [oM 15 5, oM 2 15] [2])
 .ret)
 .skip))))
 (.reg 7 [oQ 16 (.bin .add 8 (cI 1)), oM 8 16] [3, 6, 7, 8])))))))
 (.seq
 (.reg 8 [oM 17 3, oM 2 17] [2])
 .ret))))
theorem fok270 : FOK Tryz.prog 270 (18, ic270, [(.t 2)]) := fokA [] Tryz.func270 (by kernel_rfl) (by kernel_rfl) (by kernel_rfl) (by kernel_rfl)
def ic271 : IC :=
 (.seq
 (.reg 0 [oM 4 (cI 0)] [0, 1])
 (.seq
 (.reg 1 [oM 7 0, oK 8 (.call 288 [7]), oM 5 8] [0, 1, 5])
 (.seq
 (.reg 2 [oM 9 1, oK 10 (.call 288 [9]), oM 6 10] [0, 1, 5, 6])
 (.seq
 (.seq
 (.reg 3 [oM 11 5] [0, 1, 6, 11])
 (.cond 11
 (.seq
 (.seq
 (.reg 4 [oM 12 6] [12])
 (.cond 12
 (.seq
 (.reg 5 [oM 4 (cI 0)] [4])
 .ret)
 .skip))
 (.seq
 (.reg 6 [oM 4 (cI (-1))] [4])
 .ret))
 .skip))
 (.seq
 (.seq
 (.reg 7 [oM 13 6] [0, 1, 13])
 (.cond 13
 (.seq
 (.reg 8 [oM 4 (cI 1)] [4])
 .ret)
 .skip))
 (.seq
 (.seq
 (.reg 9 [oM 14 0, oM 15 1, oQ 16 (.bin .lss 14 15)] [0, 1, 16])
 (.cond 16
 (.seq
 (.reg 10 [oM 4 (cI (-1))] [4])
 .ret)
 .skip))
 (.seq
 (.seq
 (.reg 11 [oM 17 0, oM 18 1, oQ 19 (.bin .gtr 17 18)] [19])
 (.cond 19
 (.seq
 (.reg 12 [oM 4 (cI 1)] [4])
 .ret)
 .skip))
 (.seq
 (.reg 13 [oM 4 (cI 0)] [4])
 .ret))))))))
theorem fok271 : FOK Tryz.prog 271 (20, ic271, [(.t 4)]) := fokA [] Tryz.func271 (by kernel_rfl) (by kernel_rfl) (by kernel_rfl) (by kernel_rfl)
def ic272 : IC :=
 (.seq
 (.reg 0 [oM 4 (cI 0)] [0, 1])
 (.seq
 (.reg 1 [oM 7 0, oK 8 (.call 289 [7]), oM 5 8] [0, 1, 5])
 (.seq
 (.reg 2 [oM 9 1, oK 10 (.call 289 [9]), oM 6 10] [0, 1, 5, 6])
 (.seq
 (.seq
 (.reg 3 [oM 11 5] [0, 1, 6, 11])
 (.cond 11
 (.seq
 (.seq
 (.reg 4 [oM 12 6] [12])
 (.cond 12
 (.seq
 (.reg 5 [oM 4 (cI 0)] [4])
 .ret)
 .skip))
 (.seq
 (.reg 6 [oM 4 (cI (-1))] [4])
 .ret))
 .skip))
 (.seq
 (.seq
 (.reg 7 [oM 13 6] [0, 1, 13])
 (.cond 13
 (.seq
 (.reg 8 [oM 4 (cI 1)] [4])
 .ret)
 .skip))
 (.seq
 (.seq
 (.reg 9 [oM 14 0, oM 15 1, oQ 16 (.bin .lss 14 15)] [0, 1, 16])
 (.cond 16
 (.seq
 (.reg 10 [oM 4 (cI (-1))] [4])
 .ret)
 .skip))
 (.seq
 (.seq
 (.reg 11 [oM 17 0, oM 18 1, oQ 19 (.bin .gtr 17 18)] [19])
 (.cond 19
 (.seq
 (.reg 12 [oM 4 (cI 1)] [4])
 .ret)
 .skip))
 (.seq
 (.reg 13 [oM 4 (cI 0)] [4])
 .ret))))))))
theorem fok272 : FOK Tryz.prog 272 (20, ic272, [(.t 4)]) := fokA [] Tryz.func272 (by kernel_rfl) (by kernel_rfl) (by kernel_rfl) (by kernel_rfl)
def ic273 : IC :=
(.seq
 (.reg 0 [⟨(some 4), none, (.q (.mov (.c (.int .i64 0))))⟩] [0, 1])
 (.seq
  (.seq
   (.reg 1 [⟨(some 6), none, (.q (.mov (.t 0)))⟩, ⟨(some 7), none, (.q (.len 0 (.t 6)))⟩, ⟨(some 8), none, (.q (.mov (.c (.int .i64 0))))⟩] [0, 1, 7, 8])
   (.block 0
    (.loop
     (.seq
      (.reg 2 [⟨(some 9), none, (.q (.bin .lss (.t 8) (.t 7)))⟩] [0, 1, 7, 8, 9])
      (.seq
       (.cond (.t 9)
        .skip
        (.exit 0))
       (.seq
        (.block 1
         (.seq
          (.reg 3 [⟨(some 10), none, (.q (.mov (.t 8)))⟩, ⟨(some 5), none, (.q (.mov (.t 10)))⟩] [0, 1, 5, 7, 8])
          (.seq
           (.reg 4 [⟨(some 11), none, (.q (.mov (.t 1)))⟩, ⟨(some 12), none, (.q (.mov (.t 0)))⟩, ⟨(some 13), none, (.q (.mov (.t 5)))⟩, ⟨(some 14), none, (.q (.iaddr 7 (.t 12) (.t 13)))⟩, ⟨(some 15), none, (.q (.load (some 7) (.t 14)))⟩, ⟨(some 16), none, (.callv (.t 11) [(.t 15)])⟩] [0, 1, 5, 7, 8, 16])
           (.cond (.t 16)
            (.seq
            (.reg 5 [⟨(some 17), none, (.q (.mov (.t 5)))⟩, ⟨(some 4), none, (.q (.mov (.t 17)))⟩] [4])
            .ret)
            .skip))))
        (.reg 6 [⟨(some 18), none, (.q (.bin .add (.t 8) (.c (.int .i64 1))))⟩, ⟨(some 8), none, (.q (.mov (.t 18)))⟩] [0, 1, 7, 8])))))))
  (.seq
   (.reg 7 [⟨(some 4), none, (.q (.mov (.c (.int .i64 (-1)))))⟩] [4])
   .ret)))
theorem fok273 : FOK Tryz.prog 273 (19, ic273, [(.t 4)]) := .mk (pf := []) (an := [(0, [0, 1]), (1, [0, 1, 7, 8]), (2, [0, 1, 7, 8, 9]), (3, [0, 1, 5, 7, 8]), (4, [0, 1, 5, 7, 8, 16]), (5, [4]), (6, [0, 1, 7, 8]), (7, [4])]) (by kernel_rfl) (fnOK_of Tryz.func273 (by kernel_rfl) (by kernel_rfl) (by kernel_rfl))
def ic274 : IC :=
 (.seq
 (.reg 0 [oM 2 (.c (zU 0))] [0])
 (.seq
 (.reg 1 [oQ 3 (.bld [(zU 0), (zU 0), (zU 0)] [⟨0, ⟨1, (.c (zU 1))⟩⟩, ⟨1, ⟨1, (.c (zU 2))⟩⟩, ⟨2, ⟨1, (.c (zU 4))⟩⟩]), oM 4 0, oQ 5 (.bin .add 4 (cI 1)), oQ 6 (.idx none 3 1 3 5), oM 2 6] [2])
 .ret))
theorem fok274 : FOK Tryz.prog 274 (7, ic274, [(.t 2)]) := fokA [] Tryz.func274 (by kernel_rfl) (by kernel_rfl) (by kernel_rfl) (by kernel_rfl)
def ic275 : IC :=
(.seq
 (.reg 0 [⟨(some 4), none, (.q (.mov (.c (.int .i64 0))))⟩] [0, 1])
 (.seq
  (.seq
   (.reg 1 [⟨(some 6), none, (.q (.mov (.t 0)))⟩, ⟨(some 7), none, (.q (.len 0 (.t 6)))⟩, ⟨(some 8), none, (.q (.mov (.c (.int .i64 0))))⟩] [0, 1, 7, 8])
   (.block 0
    (.loop
     (.seq
      (.reg 2 [⟨(some 9), none, (.q (.bin .lss (.t 8) (.t 7)))⟩] [0, 1, 7, 8, 9])
      (.seq
       (.cond (.t 9)
        .skip
        (.exit 0))
       (.seq
        (.block 1
         (.seq
          (.reg 3 [⟨(some 10), none, (.q (.mov (.t 8)))⟩, ⟨(some 5), none, (.q (.mov (.t 10)))⟩] [0, 1, 5, 7, 8])
          (.seq
           (.reg 4 [⟨(some 11), none, (.q (.mov (.t 1)))⟩, ⟨(some 12), none, (.q (.mov (.t 0)))⟩, ⟨(some 13), none, (.q (.mov (.t 5)))⟩, ⟨(some 14), none, (.q (.iaddr 5 (.t 12) (.t 13)))⟩, ⟨(some 15), none, (.q (.load (some 5) (.t 14)))⟩, ⟨(some 16), none, (.callv (.t 11) [(.t 15)])⟩] [0, 1, 5, 7, 8, 16])
           (.cond (.t 16)
            (.seq
            (.reg 5 [⟨(some 17), none, (.q (.mov (.t 5)))⟩, ⟨(some 4), none, (.q (.mov (.t 17)))⟩] [4])
            .ret)
            .skip))))
        (.reg 6 [⟨(some 18), none, (.q (.bin .add (.t 8) (.c (.int .i64 1))))⟩, ⟨(some 8), none, (.q (.mov (.t 18)))⟩] [0, 1, 7, 8])))))))
  (.seq
   (.reg 7 [⟨(some 4), none, (.q (.mov (.c (.int .i64 (-1)))))⟩] [4])
   .ret)))
theorem fok275 : FOK Tryz.prog 275 (19, ic275, [(.t 4)]) := .mk (pf := []) (an := [(0, [0, 1]), (1, [0, 1, 7, 8]), (2, [0, 1, 7, 8, 9]), (3, [0, 1, 5, 7, 8]), (4, [0, 1, 5, 7, 8, 16]), (5, [4]), (6, [0, 1, 7, 8]), (7, [4])]) (by kernel_rfl) (fnOK_of Tryz.func275 (by kernel_rfl) (by kernel_rfl) (by kernel_rfl))
def ic276 : IC :=
 (.seq
 (.reg 0 [oM 10 1, oM 8 10] [0, 2, 3, 8])
 (.block 0
 (.loop
 (.block 1
 (.seq
 (.reg 1 [oM 11 8, oQ 12 (.bin .mul (cI 2) 11), oQ 13 (.bin .add 12 (cI 1)), oM 9 13] [0, 2, 3, 8, 9])
 (.seq
 (.seq
 (.reg 2 [oM 14 9, oM 15 2, oQ 16 (.bin .geq 14 15)] [0, 2, 3, 8, 9, 16])
 (.cond 16
 (.exit 0)
 .skip))
 (.seq
 (.seq
 (.dreg 3 [oM 17 9, oQ 18 (.bin .add 17 (cI 1)), oM 19 2, oQ 20 (.bin .lss 18 19), oM 21 20, gQ 22 21 true (.mov 0), gQ 23 21 true (.mov 3), gQ 24 21 true (.mov 9), gQ 25 21 true (.bin .add 23 24), gQ 26 21 true (.iaddr 1 22 25), gQ 27 21 true (.load none 26), gQ 28 21 true (.mov 0), gQ 29 21 true (.mov 3), gQ 30 21 true (.mov 9), gQ 31 21 true (.bin .add 29 30), gQ 32 21 true (.bin .add 31 (cI 1)), gQ 33 21 true (.iaddr 1 28 32), gQ 34 21 true (.load none 33), gK 35 21 true (.call 244 [27, 34]), oQ 36 (.pick 21 35 (cB false))] false [0, 2, 3, 8, 9, 36])
 (.cond 36
 (.reg 4 [oM 37 9, oQ 38 (.bin .add 37 (cI 1)), oM 9 38] [0, 2, 3, 8, 9])
 .skip))
 (.seq
 (.seq
 (.dreg 5 [oM 39 0, oM 40 3, oM 41 8, oQ 42 (.bin .add 40 41), oQ 43 (.iaddr 1 39 42), oQ 44 (.load none 43), oM 45 0, oM 46 3, oM 47 9, oQ 48 (.bin .add 46 47), oQ 49 (.iaddr 1 45 48), oQ 50 (.load none 49), oK 51 (.call 244 [44, 50]), oQ 52 (.not 51)] false [0, 2, 3, 8, 9, 52])
 (.cond 52
 .ret
 .skip))
 (.seq
 (.dreg 6 [oM 53 0, oM 54 3, oM 55 8, oQ 56 (.bin .add 54 55), oM 57 0, oM 58 3, oM 59 9, oQ 60 (.bin .add 58 59), oM 61 0, oM 62 3, oM 63 9, oQ 64 (.bin .add 62 63), oQ 65 (.iaddr 1 61 64), oQ 66 (.load none 65), oM 67 0, oM 68 3, oM 69 8, oQ 70 (.bin .add 68 69), oQ 71 (.iaddr 1 67 70), oQ 72 (.load none 71), oQ 73 (.iaddr 1 53 56), oN (.store 1 73 66), oQ 74 (.iaddr 1 57 60), oN (.store 1 74 72)] false [0, 2, 3, 9])
 (.reg 7 [oM 75 9, oM 8 75] [0, 2, 3, 8]))))))))))
theorem fok276 : FOK Tryz.prog 276 (76, ic276, []) := fokA [] Tryz.func276 (by kernel_rfl) (by kernel_rfl) (by kernel_rfl) (by kernel_rfl)
def ic277 : IC :=
 (.seq
 (.reg 0 [oM 2 (.c (.int .u64 0))] [0])
 (.seq
 (.reg 1 [oM 3 0, oQ 4 (.conv .u64 3), oK 5 (.call 194 [4]), oQ 6 (.bin .shl (.c (.int .u64 1)) 5), oM 2 6] [2])
 .ret))
theorem fok277 : FOK Tryz.prog 277 (7, ic277, [(.t 2)]) := fokA [] Tryz.func277 (by kernel_rfl) (by kernel_rfl) (by kernel_rfl) (by kernel_rfl)
def ic278 : IC :=
 (.seq
 (.reg 0 [oM 2 (.c (.int .u64 0))] [0])
 (.seq
 (.dreg 1 [oM 3 0, oQ 4 (.nchk 3), oQ 5 (.load none 4), oM 6 0, oQ 7 (.nchk 6), oQ 8 (.load none 7), oQ 9 (.bin .shl 8 (.c (.int .u64 13))), oQ 10 (.bin .xor 5 9), oQ 11 (.nchk 3), oN (.store 1 11 10)] false [0])
 (.seq
 (.dreg 2 [oM 12 0, oQ 13 (.nchk 12), oQ 14 (.load none 13), oM 15 0, oQ 16 (.nchk 15), oQ 17 (.load none 16), oQ 18 (.bin .shr 17 (.c (.int .u64 7))), oQ 19 (.bin .xor 14 18), oQ 20 (.nchk 12), oN (.store 1 20 19)] false [0])
 (.seq
 (.dreg 3 [oM 21 0, oQ 22 (.nchk 21), oQ 23 (.load none 22), oM 24 0, oQ 25 (.nchk 24), oQ 26 (.load none 25), oQ 27 (.bin .shl 26 (.c (.int .u64 17))), oQ 28 (.bin .xor 23 27), oQ 29 (.nchk 21), oN (.store 1 29 28)] false [0])
 (.seq
 (.reg 4 [oM 30 0, oQ 31 (.nchk 30), oQ 32 (.load none 31), oM 2 32] [2])
 .ret)))))
theorem fok278 : FOK Tryz.prog 278 (33, ic278, [(.t 2)]) := fokA [] Tryz.func278 (by kernel_rfl) (by kernel_rfl) (by kernel_rfl) (by kernel_rfl)
def ic279 : IC :=
 (.seq
 (.reg 0 [oM 6 (cI 0)] [0, 1, 2])
 (.seq
 (.reg 1 [oM 7 0, oM 8 1, oQ 9 (.bin .sub 8 (cI 1)), oM 10 1, oM 11 1, oQ 12 (.bin .add 11 (cI 1)), oM 13 2, oK 14 (.call 280 [7, 9, 10, 12, 13]), oM 6 14] [6])
 .ret))
theorem fok279 : FOK Tryz.prog 279 (15, ic279, [(.t 6)]) := fokA [] Tryz.func279 (by kernel_rfl) (by kernel_rfl) (by kernel_rfl) (by kernel_rfl)
def ic280 : IC :=
 (.seq
 (.reg 0 [oM 10 (cI 0)] [0, 1, 2, 3, 4])
 (.seq
 (.reg 1 [oM 12 0, oM 13 1, oM 14 2, oM 15 4, oK 16 (.call 290 [12, 13, 14, 15]), oM 11 16, oQ 17 (.ext 0 11), oQ 18 (.ext 1 11), oM 1 17, oM 2 18] [0, 1, 2, 3, 4])
 (.seq
 (.reg 2 [oM 20 0, oM 21 2, oM 22 3, oM 23 4, oK 24 (.call 290 [20, 21, 22, 23]), oM 19 24, oQ 25 (.ext 0 19), oQ 26 (.ext 1 19), oM 2 25, oM 3 26] [0, 1, 2, 4])
 (.seq
 (.reg 3 [oM 28 0, oM 29 1, oM 30 2, oM 31 4, oK 32 (.call 290 [28, 29, 30, 31]), oM 27 32, oQ 33 (.ext 0 27), oQ 34 (.ext 1 27), oM 1 33, oM 2 34] [2])
 (.seq
 (.reg 4 [oM 35 2, oM 10 35] [10])
 .ret)))))
theorem fok280 : FOK Tryz.prog 280 (36, ic280, [(.t 10)]) := fokA [] Tryz.func280 (by kernel_rfl) (by kernel_rfl) (by kernel_rfl) (by kernel_rfl)
def ic281 : IC :=
(.seq
 (.reg 0 [⟨(some 4), none, (.q (.mov (.c (.int .i64 0))))⟩] [0, 1])
 (.seq
  (.seq
   (.reg 1 [⟨(some 6), none, (.q (.mov (.t 0)))⟩, ⟨(some 7), none, (.q (.len 0 (.t 6)))⟩, ⟨(some 8), none, (.q (.mov (.c (.int .i64 0))))⟩] [0, 1, 7, 8])
   (.block 0
    (.loop
     (.seq
      (.reg 2 [⟨(some 9), none, (.q (.bin .lss (.t 8) (.t 7)))⟩] [0, 1, 7, 8, 9])
      (.seq
       (.cond (.t 9)
        .skip
        (.exit 0))
       (.seq
        (.block 1
         (.seq
          (.reg 3 [⟨(some 10), none, (.q (.mov (.t 8)))⟩, ⟨(some 5), none, (.q (.mov (.t 10)))⟩] [0, 1, 5, 7, 8])
          (.seq
           (.reg 4 [⟨(some 11), none, (.q (.mov (.t 1)))⟩, ⟨(some 12), none, (.q (.mov (.t 0)))⟩, ⟨(some 13), none, (.q (.mov (.t 5)))⟩, ⟨(some 14), none, (.q (.iaddr 1 (.t 12) (.t 13)))⟩, ⟨(some 15), none, (.q (.load none (.t 14)))⟩, ⟨(some 16), none, (.callv (.t 11) [(.t 15)])⟩] [0, 1, 5, 7, 8, 16])
           (.cond (.t 16)
            (.seq
            (.reg 5 [⟨(some 17), none, (.q (.mov (.t 5)))⟩, ⟨(some 4), none, (.q (.mov (.t 17)))⟩] [4])
            .ret)
            .skip))))
        (.reg 6 [⟨(some 18), none, (.q (.bin .add (.t 8) (.c (.int .i64 1))))⟩, ⟨(some 8), none, (.q (.mov (.t 18)))⟩] [0, 1, 7, 8])))))))
  (.seq
   (.reg 7 [⟨(some 4), none, (.q (.mov (.c (.int .i64 (-1)))))⟩] [4])
   .ret)))
theorem fok281 : FOK Tryz.prog 281 (19, ic281, [(.t 4)]) := .mk (pf := []) (an := [(0, [0, 1]), (1, [0, 1, 7, 8]), (2, [0, 1, 7, 8, 9]), (3, [0, 1, 5, 7, 8]), (4, [0, 1, 5, 7, 8, 16]), (5, [4]), (6, [0, 1, 7, 8]), (7, [4])]) (by kernel_rfl) (fnOK_of Tryz.func281 (by kernel_rfl) (by kernel_rfl) (by kernel_rfl))
def ic283 : IC :=
 (.seq
 (.reg 0 [oM 4 (cI 0)] [0, 1])
 (.seq
 (.seq
 (.reg 1 [oM 6 0, oQ 7 (.len 0 6), oM 8 (cI 0)] [0, 1, 7, 8])
 (.block 0
 (.loop
 (.seq
 (.reg 2 [oQ 9 (.bin .lss 8 7)] [0, 1, 7, 8, 9])
 (.seq
 (.cond 9
 .skip
 (.exit 0))
 (.seq
 (.block 1
 (.seq
 (.reg 3 [oM 10 8, oM 5 10] [0, 1, 5, 7, 8])
 (.seq
 (.reg 4 [oM 11 1, oM 12 0, oM 13 5, oQ 14 (.iaddr 1 12 13), oQ 15 (.load none 14), oQ 16 (.bin .eql 11 15)] [0, 1, 5, 7, 8, 16])
 (.cond 16
 (.seq
 (.reg 5 [oM 17 5, oM 4 17] [4])
 .ret)
 .skip))))
 (.reg 6 [oQ 18 (.bin .add 8 (cI 1)), oM 8 18] [0, 1, 7, 8])))))))
 (.seq
 (.reg 7 [oM 4 (cI (-1))] [4])
 .ret)))
theorem fok283 : FOK Tryz.prog 283 (19, ic283, [(.t 4)]) := fokA [] Tryz.func283 (by kernel_rfl) (by kernel_rfl) (by kernel_rfl) (by kernel_rfl)
def ic284 : IC :=
 (.seq
 (.reg 0 [oM 2 (.c (.str []))] [0])
 (.seq
 (.reg 1 [oM 3 0, oK 4 (.call 291 [3, (cI 10)]), oM 2 4] [2])
 .ret))
theorem fok284 : FOK Tryz.prog 284 (5, ic284, [(.t 2)]) := fokA [] Tryz.func284 (by kernel_rfl) (by kernel_rfl) (by kernel_rfl) (by kernel_rfl)
def ic285 : IC :=
 (.seq
 (.reg 0 [oM 3 (cI 0)] [0, 1, 3])
 (.block 0
 (.loop
 (.seq
 (.seq
 (.reg 1 [oM 6 3, oQ 7 (.load none 1), oQ 8 (.len 1 7), oQ 9 (.bin .lss 6 8)] [0, 1, 3, 9])
 (.cond 9
 .skip
 (.exit 0)))
 (.block 1
 (.seq
 (.reg 2 [oQ 10 (.load none 1), oM 11 3, oQ 12 (.istr 10 11), oK 13 (.pcall 286 [12]), oQ 14 (.bld [(zU 0), (.str [])] [⟨0, ⟨1, 13⟩⟩]), oK 4 (.alloc [(zU 0), (.str [])]), oN (.store 2 4 14)] [0, 1, 3, 4])
 (.seq
 (.reg 3 [oM 15 3, oM 5 15] [0, 1, 3, 4, 5])
 (.seq
 (.seq
 (.reg 4 [oM 16 3, oQ 17 (.bin .add 16 (cI 1)), oM 3 17] [0, 1, 3, 4, 5])
 (.block 2
 (.loop
 (.seq
 (.seq
 (.dreg 5 [oQ 18 (.faddr 0 4), oQ 19 (.load none 18), oQ 20 (.bin .geq 19 (.c (zU 4))), oM 21 20, gQ 22 21 true (.mov 3), gQ 23 21 true (.load none 1), gQ 24 21 true (.len 1 23), gQ 25 21 true (.bin .lss 22 24), oQ 26 (.pick 21 25 (cB false)), oM 27 26, gQ 28 27 true (.load none 1), gQ 29 27 true (.mov 3), gQ 30 27 true (.istr 28 29), gK 31 27 true (.pcall 286 [30]), gQ 32 27 true (.faddr 0 4), gQ 33 27 true (.load none 32), gQ 34 27 true (.bin .eql 31 33), oQ 35 (.pick 27 34 (cB false))] false [0, 1, 3, 4, 5, 35])
 (.cond 35
 .skip
 (.exit 2)))
 (.seq
 (.block 3
 .skip)
 (.reg 6 [oM 36 3, oQ 37 (.bin .add 36 (cI 1)), oM 3 37] [0, 1, 3, 4, 5]))))))
 (.seq
 (.seq
 (.reg 7 [oQ 38 (.faddr 0 4), oQ 39 (.load none 38), oQ 40 (.bin .geq 39 (.c (zU 4)))] [0, 1, 3, 4, 5, 40])
 (.cond 40
 (.reg 8 [oQ 41 (.load none 1), oM 42 5, oM 43 3, oQ 44 (.sstr 41 (some 42) (some 43)), oQ 45 (.faddr 1 4), oN (.store 1 45 44)] [0, 1, 3, 4])
 .skip))
 (.seq
 (.seq
 (.reg 9 [oQ 46 (.faddr 0 4), oQ 47 (.load none 46), oQ 48 (.bin .eql 47 (.c (zU 5)))] [0, 1, 3, 4, 48])
 (.cond 48
 (.reg 10 [oQ 49 (.faddr 1 4), oQ 50 (.load none 49), oK 51 (.call 287 [50, (.c (.str [48]))]), oQ 52 (.faddr 1 4), oN (.store 1 52 51)] [0, 1, 3, 4])
 .skip))
 (.seq
 (.reg 11 [oQ 53 (.faddr 0 4), oQ 54 (.load none 53), oQ 55 (.bin .neq 54 (.c (zU 0))), oM 56 55, gQ 57 56 true (.mov 0), gQ 58 56 true (.load (some 2) 4), gK 59 56 true (.callv 57 [58]), gQ 60 56 true (.not 59), oQ 61 (.pick 56 60 (cB false))] [0, 1, 3, 61])
 (.cond 61
 .ret
 .skip))))))))))))
theorem fok285 : FOK Tryz.prog 285 (62, ic285, []) := fokA ([] ++ [286]) Tryz.func285 (by kernel_rfl) (by kernel_rfl) (by kernel_rfl) (by kernel_rfl)
def ic286 : IC :=
 (.seq
 (.reg 0 [oM 2 (.c (zU 0))] [0])
 (.seq
 (.block 0
 (.seq
 (.reg 1 [oM 4 0, oQ 5 (.bin .eql 4 (.c (zU 126))), oM 3 5] [0, 3])
 (.cond 3
 (.seq
 (.reg 2 [oM 2 (.c (zU 1))] [2])
 .ret)
 (.seq
 (.reg 3 [oM 7 0, oQ 8 (.bin .eql 7 (.c (zU 94))), oM 6 8] [0, 6])
 (.cond 6
 (.seq
 (.reg 4 [oM 2 (.c (zU 3))] [2])
 .ret)
 (.seq
 (.reg 5 [oM 10 0, oQ 11 (.bin .geq 10 (.c (zU 97))), oM 12 11, gQ 13 12 true (.mov 0), gQ 14 12 true (.bin .leq 13 (.c (zU 122))), oQ 15 (.pick 12 14 (cB false)), oM 16 15, gQ 17 16 false (.mov 0), gQ 18 16 false (.bin .geq 17 (.c (zU 65))), gQ 19 16 false (.mov 18), gQ 20 19 true (.mov 0), gQ 21 19 true (.bin .leq 20 (.c (zU 90))), gQ 22 16 false (.pick 19 21 (cB false)), oQ 23 (.pick 16 (cB true) 22), oM 9 23] [0, 9])
 (.cond 9
 (.seq
 (.reg 6 [oM 2 (.c (zU 4))] [2])
 .ret)
 (.seq
 (.reg 7 [oM 25 0, oQ 26 (.bin .geq 25 (.c (zU 48))), oM 27 26, gQ 28 27 true (.mov 0), gQ 29 27 true (.bin .leq 28 (.c (zU 57))), oQ 30 (.pick 27 29 (cB false)), oM 24 30] [24])
 (.cond 24
 (.seq
 (.reg 8 [oM 2 (.c (zU 5))] [2])
 .ret)
 .skip)))))))))
 (.seq
 (.reg 9 [oM 2 (.c (zU 0))] [2])
 .ret)))
theorem fok286 : FOK Tryz.prog 286 (31, ic286, [(.t 2)]) := fokA [] Tryz.func286 (by kernel_rfl) (by kernel_rfl) (by kernel_rfl) (by kernel_rfl)
def ic287 : IC :=
 (.seq
 (.reg 0 [oM 4 (.c (.str []))] [0, 1])
 (.seq
 (.seq
 (.reg 1 [oM 7 0, oQ 8 (.bin .eql 7 (.c (.str []))), oM 9 8, gQ 10 9 false (.mov 1), gQ 11 9 false (.bin .eql 10 (.c (.str []))), oQ 12 (.pick 9 (cB true) 11)] [0, 1, 12])
 (.cond 12
 (.seq
 (.reg 2 [oM 13 0, oM 4 13] [4])
 .ret)
 .skip))
 (.seq
 (.seq
 (.reg 3 [oM 14 1, oQ 15 (.len 1 14), oQ 16 (.bin .eql 15 (cI 1)), oM 17 16, gQ 18 17 true (.mov 1), gQ 19 17 true (.istr 18 (cI 0)), gQ 20 17 true (.bin .lss 19 (.c (zU 128))), oQ 21 (.pick 17 20 (cB false))] [0, 1, 21])
 (.cond 21
 (.seq
 (.reg 4 [oM 22 0, oM 23 1, oQ 24 (.istr 23 (cI 0)), oK 25 (.call 292 [22, 24]), oM 4 25] [4])
 .ret)
 .skip))
 (.seq
 (.seq
 (.reg 5 [oM 27 1, oK 28 (.call 293 [27]), oM 26 28, oQ 29 (.ext 0 26), oQ 30 (.ext 1 26), oK 5 (.alloc [(.bool false), (.bool false), (.bool false), (.bool false), (.bool false), (.bool false), (.bool false), (.bool false), (.bool false), (.bool false), (.bool false), (.bool false), (.bool false), (.bool false), (.bool false), (.bool false), (.bool false), (.bool false), (.bool false), (.bool false), (.bool false), (.bool false), (.bool false), (.bool false), (.bool false), (.bool false), (.bool false), (.bool false), (.bool false), (.bool false), (.bool false), (.bool false), (.bool false), (.bool false), (.bool false), (.bool false), (.bool false), (.bool false), (.bool false), (.bool false), (.bool false), (.bool false), (.bool false), (.bool false), (.bool false), (.bool false), (.bool false), (.bool false), (.bool false), (.bool false), (.bool false), (.bool false), (.bool false), (.bool false), (.bool false), (.bool false), (.bool false), (.bool false), (.bool false), (.bool false), (.bool false), (.bool false), (.bool false), (.bool false), (.bool false), (.bool false), (.bool false), (.bool false), (.bool false), (.bool false), (.bool false), (.bool false), (.bool false), (.bool false), (.bool false), (.bool false), (.bool false), (.bool false), (.bool false), (.bool false), (.bool false), (.bool false), (.bool false), (.bool false), (.bool false), (.bool false), (.bool false), (.bool false), (.bool false), (.bool false), (.bool false), (.bool false), (.bool false), (.bool false), (.bool false), (.bool false), (.bool false), (.bool false), (.bool false), (.bool false), (.bool false), (.bool false), (.bool false), (.bool false), (.bool false), (.bool false), (.bool false), (.bool false), (.bool false), (.bool false), (.bool false), (.bool false), (.bool false), (.bool false), (.bool false), (.bool false), (.bool false), (.bool false), (.bool false), (.bool false), (.bool false), (.bool false), (.bool false), (.bool false), (.bool false), (.bool false), (.bool false), (.bool false), (.bool false), (.bool false), (.bool false), (.bool false), (.bool false), (.bool false), (.bool false), (.bool false), (.bool false), (.bool false), (.bool false), (.bool false), (.bool false), (.bool false), (.bool false), (.bool false), (.bool false), (.bool false), (.bool false), (.bool false), (.bool false), (.bool false), (.bool false), (.bool false), (.bool false), (.bool false), (.bool false), (.bool false), (.bool false), (.bool false), (.bool false), (.bool false), (.bool false), (.bool false), (.bool false), (.bool false), (.bool false), (.bool false), (.bool false), (.bool false), (.bool false), (.bool false), (.bool false), (.bool false), (.bool false), (.bool false), (.bool false), (.bool false), (.bool false), (.bool false), (.bool false), (.bool false), (.bool false), (.bool false), (.bool false), (.bool false), (.bool false), (.bool false), (.bool false), (.bool false), (.bool false), (.bool false), (.bool false), (.bool false), (.bool false), (.bool false), (.bool false), (.bool false), (.bool false), (.bool false), (.bool false), (.bool false), (.bool false), (.bool false), (.bool false), (.bool false), (.bool false), (.bool false), (.bool false), (.bool false), (.bool false), (.bool false), (.bool false), (.bool false), (.bool false), (.bool false), (.bool false), (.bool false), (.bool false), (.bool false), (.bool false), (.bool false), (.bool false), (.bool false), (.bool false), (.bool false), (.bool false), (.bool false), (.bool false), (.bool false), (.bool false), (.bool false), (.bool false), (.bool false), (.bool false), (.bool false), (.bool false), (.bool false), (.bool false), (.bool false), (.bool false), (.bool false), (.bool false), (.bool false), (.bool false), (.bool false), (.bool false), (.bool false), (.bool false), (.bool false), (.bool false), (.bool false), (.bool false), (.bool false), (.bool false), (.bool false), (.bool false), (.bool false)]), oN (.store 256 5 29), oM 6 30] [0, 1, 5, 6])
 (.seq
 (.reg 6 [oM 31 6] [0, 1, 5, 31])
 (.cond 31
 (.seq
 (.reg 7 [oM 32 0, oK 33 (.call 294 [32, 5]), oM 4 33] [4])
 .ret)
 .skip)))
 (.seq
 (.reg 8 [oM 34 0, oM 35 1, oK 36 (.call 295 [34, 35]), oM 4 36] [4])
 .ret)))))
theorem fok287 : FOK Tryz.prog 287 (37, ic287, [(.t 4)]) := fokA [] Tryz.func287 (by kernel_rfl) (by kernel_rfl) (by kernel_rfl) (by kernel_rfl)
def ic288 : IC :=
 (.seq
 (.reg 0 [oM 2 (cB false)] [0])
 (.seq
 (.reg 1 [oM 3 0, oM 4 0, oQ 5 (.bin .neq 3 4), oM 2 5] [2])
 .ret))
theorem fok288 : FOK Tryz.prog 288 (6, ic288, [(.t 2)]) := fokA [] Tryz.func288 (by kernel_rfl) (by kernel_rfl) (by kernel_rfl) (by kernel_rfl)
def ic289 : IC :=
 (.seq
 (.reg 0 [oM 2 (cB false)] [0])
 (.seq
 (.reg 1 [oM 3 0, oM 4 0, oQ 5 (.bin .neq 3 4), oM 2 5] [2])
 .ret))
theorem fok289 : FOK Tryz.prog 289 (6, ic289, [(.t 2)]) := fokA [] Tryz.func289 (by kernel_rfl) (by kernel_rfl) (by kernel_rfl) (by kernel_rfl)
def ic290 : IC :=
 (.seq
 (.reg 0 [oM 8 (cI 0), oM 9 (cI 0)] [0, 1, 2, 3])
 (.seq
 (.seq
 (.dreg 1 [oM 10 0, oM 11 2, oQ 12 (.iaddr 1 10 11), oQ 13 (.load none 12), oM 14 0, oM 15 1, oQ 16 (.iaddr 1 14 15), oQ 17 (.load none 16), oK 18 (.call 244 [13, 17])] false [1, 2, 3, 18])
 (.cond 18
 (.seq
 (.reg 2 [oM 19 3, oQ 20 (.nchk 19), oQ 21 (.load none 20), oQ 22 (.bin .add 21 (cI 1)), oQ 23 (.nchk 19), oN (.store 1 23 22)] [1, 2])
 (.seq
 (.reg 3 [oM 24 2, oM 25 1, oM 8 24, oM 9 25] [8, 9])
 .ret))
 .skip))
 (.seq
 (.reg 4 [oM 26 1, oM 27 2, oM 8 26, oM 9 27] [8, 9])
 .ret)))
theorem fok290 : FOK Tryz.prog 290 (28, ic290, [(.t 8), (.t 9)]) := fokA [] Tryz.func290 (by kernel_rfl) (by kernel_rfl) (by kernel_rfl) (by kernel_rfl)
def ic291 : IC :=
 (.seq
 (.reg 0 [oM 4 (.c (.str []))] [0, 1])
 (.seq
 (.seq
 (.reg 1 [oM 10 1, oQ 11 (.bin .eql 10 (cI 10))] [0, 1, 11])
 (.cond 11
 (.seq
 (.seq
 (.reg 2 [oM 12 0, oQ 13 (.bin .leq (cI 0) 12), oM 14 13, gQ 15 14 true (.mov 0), gQ 16 14 true (.bin .lss 15 (cI 100)), oQ 17 (.pick 14 16 (cB false))] [0, 17])
 (.cond 17
 (.seq
 (.reg 3 [oM 18 0, oK 19 (.call 296 [18]), oM 4 19] [4])
 .ret)
 .skip))
 (.seq
 (.reg 4 [oK 5 (.alloc [(zU 0), (zU 0), (zU 0), (zU 0), (zU 0), (zU 0), (zU 0), (zU 0), (zU 0), (zU 0), (zU 0), (zU 0), (zU 0), (zU 0), (zU 0), (zU 0), (zU 0), (zU 0), (zU 0), (zU 0), (zU 0), (zU 0), (zU 0), (zU 0)])] [0, 5])
 (.seq
 (.reg 5 [oM 20 0, oQ 21 (.conv .u64 20), oM 6 21] [0, 5, 6])
 (.seq
 (.seq
 (.reg 6 [oM 22 0, oQ 23 (.bin .lss 22 (cI 0))] [0, 5, 6, 23])
 (.cond 23
 (.reg 7 [oM 24 6, oQ 25 (.neg 24), oM 6 25] [0, 5, 6])
 .skip))
 (.seq
 (.reg 8 [oM 26 6, oK 27 (.call 297 [26]), oM 7 27] [0, 5, 6, 7])
 (.seq
 (.reg 9 [oM 28 7, oQ 29 (.bin .add (cI 1) 28), oK 30 (.st .nev []), oM 31 6, oK 32 (.call 298 [30, 31])] [0, 5, 7])
 (.seq
 (.seq
 (.reg 10 [oM 33 0, oQ 34 (.bin .lss 33 (cI 0))] [5, 7, 34])
 (.cond 34
 (.seq
 (.reg 11 [oQ 35 (.aaddr 24 1 5 (cI 0)), oN (.store 1 35 (.c (zU 45)))] [7])
 (.seq
 (.reg 12 [oM 36 7, oQ 37 (.bin .add (cI 1) 36), oK 38 (.st .nev []), oK 39 (.st .nev []), oM 4 39] [4])
 .ret))
 .skip))
 (.seq
 (.reg 13 [oM 40 7, oQ 41 (.bin .add (cI 1) 40), oK 42 (.st .nev []), oK 43 (.st .nev []), oM 4 43] [4])
 .ret))))))))
 .skip))
 (.seq
 (.reg 14 [oM 45 0, oQ 46 (.conv .u64 45), oM 47 1, oM 48 0, oQ 49 (.bin .lss 48 (cI 0)), oK 50 (.call 299 [(.c .nilslice), 46, 47, 49, (cB false)]), oM 44 50, oQ 51 (.ext 0 44), oQ 52 (.ext 1 44), oM 8 51, oM 9 52] [9])
 (.seq
 (.reg 15 [oM 53 9, oM 4 53] [4])
 .ret))))
theorem fok291 : FOK Tryz.prog 291 (54, ic291, [(.t 4)]) := fokA [] Tryz.func291 (by kernel_rfl) (by kernel_rfl) (by kernel_rfl) (by kernel_rfl)
def ic292 : IC :=
 (.seq
 (.reg 0 [oM 4 (.c (.str []))] [0, 1])
 (.seq
 (.block 0
 (.loop
 (.seq
 (.seq
 (.reg 1 [oM 5 0, oQ 6 (.len 1 5), oQ 7 (.bin .gtr 6 (cI 0)), oM 8 7, gQ 9 8 true (.mov 0), gQ 10 8 true (.istr 9 (cI 0)), gQ 11 8 true (.mov 1), gQ 12 8 true (.bin .eql 10 11), oQ 13 (.pick 8 12 (cB false))] [0, 1, 13])
 (.cond 13
 .skip
 (.exit 0)))
 (.block 1
 (.reg 2 [oM 14 0, oQ 15 (.sstr 14 (some (cI 1)) none), oM 0 15] [0, 1])))))
 (.seq
 (.reg 3 [oM 16 0, oM 4 16] [4])
 .ret)))
theorem fok292 : FOK Tryz.prog 292 (17, ic292, [(.t 4)]) := fokA [] Tryz.func292 (by kernel_rfl) (by kernel_rfl) (by kernel_rfl) (by kernel_rfl)
def ic293 : IC :=
 (.seq
 (.reg 0 [oK 2 (.alloc [(.bool false), (.bool false), (.bool false), (.bool false), (.bool false), (.bool false), (.bool false), (.bool false), (.bool false), (.bool false), (.bool false), (.bool false), (.bool false), (.bool false), (.bool false), (.bool false), (.bool false), (.bool false), (.bool false), (.bool false), (.bool false), (.bool false), (.bool false), (.bool false), (.bool false), (.bool false), (.bool false), (.bool false), (.bool false), (.bool false), (.bool false), (.bool false), (.bool false), (.bool false), (.bool false), (.bool false), (.bool false), (.bool false), (.bool false), (.bool false), (.bool false), (.bool false), (.bool false), (.bool false), (.bool false), (.bool false), (.bool false), (.bool false), (.bool false), (.bool false), (.bool false), (.bool false), (.bool false), (.bool false), (.bool false), (.bool false), (.bool false), (.bool false), (.bool false), (.bool false), (.bool false), (.bool false), (.bool false), (.bool false), (.bool false), (.bool false), (.bool false), (.bool false), (.bool false), (.bool false), (.bool false), (.bool false), (.bool false), (.bool false), (.bool false), (.bool false), (.bool false), (.bool false), (.bool false), (.bool false), (.bool false), (.bool false), (.bool false), (.bool false), (.bool false), (.bool false), (.bool false), (.bool false), (.bool false), (.bool false), (.bool false), (.bool false), (.bool false), (.bool false), (.bool false), (.bool false), (.bool false), (.bool false), (.bool false), (.bool false), (.bool false), (.bool false), (.bool false), (.bool false), (.bool false), (.bool false), (.bool false), (.bool false), (.bool false), (.bool false), (.bool false), (.bool false), (.bool false), (.bool false), (.bool false), (.bool false), (.bool false), (.bool false), (.bool false), (.bool false), (.bool false), (.bool false), (.bool false), (.bool false), (.bool false), (.bool false), (.bool false), (.bool false), (.bool false), (.bool false), (.bool false), (.bool false), (.bool false), (.bool false), (.bool false), (.bool false), (.bool false), (.bool false), (.bool false), (.bool false), (.bool false), (.bool false), (.bool false), (.bool false), (.bool false), (.bool false), (.bool false), (.bool false), (.bool false), (.bool false), (.bool false), (.bool false), (.bool false), (.bool false), (.bool false), (.bool false), (.bool false), (.bool false), (.bool false), (.bool false), (.bool false), (.bool false), (.bool false), (.bool false), (.bool false), (.bool false), (.bool false), (.bool false), (.bool false), (.bool false), (.bool false), (.bool false), (.bool false), (.bool false), (.bool false), (.bool false), (.bool false), (.bool false), (.bool false), (.bool false), (.bool false), (.bool false), (.bool false), (.bool false), (.bool false), (.bool false), (.bool false), (.bool false), (.bool false), (.bool false), (.bool false), (.bool false), (.bool false), (.bool false), (.bool false), (.bool false), (.bool false), (.bool false), (.bool false), (.bool false), (.bool false), (.bool false), (.bool false), (.bool false), (.bool false), (.bool false), (.bool false), (.bool false), (.bool false), (.bool false), (.bool false), (.bool false), (.bool false), (.bool false), (.bool false), (.bool false), (.bool false), (.bool false), (.bool false), (.bool false), (.bool false), (.bool false), (.bool false), (.bool false), (.bool false), (.bool false), (.bool false), (.bool false), (.bool false), (.bool false), (.bool false), (.bool false), (.bool false), (.bool false), (.bool false), (.bool false), (.bool false), (.bool false), (.bool false), (.bool false), (.bool false), (.bool false), (.bool false), (.bool false), (.bool false), (.bool false), (.bool false), (.bool false), (.bool false), (.bool false), (.bool false), (.bool false), (.bool false), (.bool false), (.bool false), (.bool false)]), oM 3 (cB false)] [0, 2])
 (.seq
 (.seq
 (.reg 1 [oM 4 (cI 0)] [0, 2, 4])
 (.block 0
 (.loop
 (.seq
 (.seq
 (.reg 2 [oM 6 4, oM 7 0, oQ 8 (.len 1 7), oQ 9 (.bin .lss 6 8)] [0, 2, 4, 9])
 (.cond 9
 .skip
 (.exit 0)))
 (.seq
 (.block 1
 (.seq
 (.reg 4 [oM 12 0, oM 13 4, oQ 14 (.istr 12 13), oM 5 14] [0, 2, 4, 5])
 (.seq
 (.seq
 (.reg 5 [oM 15 5, oQ 16 (.bin .geq 15 (.c (zU 128)))] [0, 2, 4, 5, 16])
 (.cond 16
 (.seq
 (.reg 6 [oQ 17 (.load (some 256) 2), oN (.store 256 2 17), oM 3 (cB false)] [2, 3])
 .ret)
 .skip))
 (.reg 7 [oM 18 5, oQ 19 (.aaddr 256 1 2 18), oN (.store 1 19 (cB true))] [0, 2, 4]))))
 (.reg 3 [oM 10 4, oQ 11 (.bin .add 10 (cI 1)), oM 4 11] [0, 2, 4]))))))
 (.seq
 (.reg 8 [oQ 20 (.load (some 256) 2), oN (.store 256 2 20), oM 3 (cB true)] [2, 3])
 .ret)))
theorem fok293 : FOK Tryz.prog 293 (21, ic293, [(.cell (some 256) 2), (.t 3)]) := fokA [] Tryz.func293 (by kernel_rfl) (by kernel_rfl) (by kernel_rfl) (by kernel_rfl)
def ic294 : IC :=
 (.seq
 (.reg 0 [oM 4 (.c (.str []))] [0, 1])
 (.seq
 (.block 0
 (.loop
 (.seq
 (.seq
 (.reg 1 [oM 5 0, oQ 6 (.len 1 5), oQ 7 (.bin .gtr 6 (cI 0))] [0, 1, 7])
 (.cond 7
 .skip
 (.exit 0)))
 (.block 1
 (.seq
 (.seq
 (.reg 2 [oM 8 1, oM 9 0, oQ 10 (.istr 9 (cI 0)), oK 11 (.call 300 [8, 10]), oQ 12 (.not 11)] [0, 1, 12])
 (.cond 12
 (.exit 0)
 .skip))
 (.reg 3 [oM 13 0, oQ 14 (.sstr 13 (some (cI 1)) none), oM 0 14] [0, 1]))))))
 (.seq
 (.reg 4 [oM 15 0, oM 4 15] [4])
 .ret)))
theorem fok294 : FOK Tryz.prog 294 (16, ic294, [(.t 4)]) := fokA [] Tryz.func294 (by kernel_rfl) (by kernel_rfl) (by kernel_rfl) (by kernel_rfl)
def ic295 : IC :=
 (.seq
 (.reg 0 [oM 4 (.c (.str []))] [0, 1])
 (.seq
 (.block 0
 (.loop
 (.seq
 (.seq
 (.reg 1 [oM 7 0, oQ 8 (.len 1 7), oQ 9 (.bin .gtr 8 (cI 0))] [0, 1, 9])
 (.cond 9
 .skip
 (.exit 0)))
 (.block 1
 (.seq
 (.reg 2 [oM 11 0, oK 12 (.call 301 [11]), oM 10 12, oQ 13 (.ext 0 10), oQ 14 (.ext 1 10), oM 5 13, oM 6 14] [0, 1, 5, 6])
 (.seq
 (.seq
 (.reg 3 [oM 15 1, oM 16 5, oK 17 (.call 302 [15, 16]), oQ 18 (.not 17)] [0, 1, 6, 18])
 (.cond 18
 (.exit 0)
 .skip))
 (.reg 4 [oM 19 0, oM 20 6, oQ 21 (.sstr 19 (some 20) none), oM 0 21] [0, 1])))))))
 (.seq
 (.reg 5 [oM 22 0, oM 4 22] [4])
 .ret)))
theorem fok295 : FOK Tryz.prog 295 (23, ic295, [(.t 4)]) := fokA [] Tryz.func295 (by kernel_rfl) (by kernel_rfl) (by kernel_rfl) (by kernel_rfl)
def ic296 : IC :=
 (.seq
 (.reg 0 [oM 2 (.c (.str []))] [0])
 (.seq
 (.seq
 (.reg 1 [oM 3 0, oQ 4 (.bin .lss 3 (cI 10))] [0, 4])
 (.cond 4
 (.seq
 (.reg 2 [oM 5 0, oM 6 0, oQ 7 (.bin .add 6 (cI 1)), oQ 8 (.sstr (.c (.str [48, 49, 50, 51, 52, 53, 54, 55, 56, 57, 97, 98, 99, 100, 101, 102, 103, 104, 105, 106, 107, 108, 109, 110, 111, 112, 113, 114, 115, 116, 117, 118, 119, 120, 121, 122])) (some 5) (some 7)), oM 2 8] [2])
 .ret)
 .skip))
 (.seq
 (.reg 3 [oM 9 0, oQ 10 (.bin .mul 9 (cI 2)), oM 11 0, oQ 12 (.bin .mul 11 (cI 2)), oQ 13 (.bin .add 12 (cI 2)), oQ 14 (.sstr (.c (.str [48, 48, 48, 49, 48, 50, 48, 51, 48, 52, 48, 53, 48, 54, 48, 55, 48, 56, 48, 57, 49, 48, 49, 49, 49, 50, 49, 51, 49, 52, 49, 53, 49, 54, 49, 55, 49, 56, 49, 57, 50, 48, 50, 49, 50, 50, 50, 51, 50, 52, 50, 53, 50, 54, 50, 55, 50, 56, 50, 57, 51, 48, 51, 49, 51, 50, 51, 51, 51, 52, 51, 53, 51, 54, 51, 55, 51, 56, 51, 57, 52, 48, 52, 49, 52, 50, 52, 51, 52, 52, 52, 53, 52, 54, 52, 55, 52, 56, 52, 57, 53, 48, 53, 49, 53, 50, 53, 51, 53, 52, 53, 53, 53, 54, 53, 55, 53, 56, 53, 57, 54, 48, 54, 49, 54, 50, 54, 51, 54, 52, 54, 53, 54, 54, 54, 55, 54, 56, 54, 57, 55, 48, 55, 49, 55, 50, 55, 51, 55, 52, 55, 53, 55, 54, 55, 55, 55, 56, 55, 57, 56, 48, 56, 49, 56, 50, 56, 51, 56, 52, 56, 53, 56, 54, 56, 55, 56, 56, 56, 57, 57, 48, 57, 49, 57, 50, 57, 51, 57, 52, 57, 53, 57, 54, 57, 55, 57, 56, 57, 57])) (some 10) (some 13)), oM 2 14] [2])
 .ret)))
theorem fok296 : FOK Tryz.prog 296 (15, ic296, [(.t 2)]) := fokA [] Tryz.func296 (by kernel_rfl) (by kernel_rfl) (by kernel_rfl) (by kernel_rfl)
def ic297 : IC :=
 (.seq
 (.reg 0 [oM 2 (cI 0)] [0])
 (.seq
 (.reg 1 [oM 4 0, oK 5 (.call 248 [4]), oK 6 (.call 303 [5]), oM 3 6] [0, 3])
 (.seq
 (.reg 2 [oM 7 3, oM 8 0, oM 9 3, oQ 10 (.aaddr 20 1 (.g 4) 9), oQ 11 (.load none 10), oQ 12 (.bin .geq 8 11), oK 13 (.call 304 [12]), oQ 14 (.bin .add 7 13), oM 2 14] [2])
 .ret)))
theorem fok297 : FOK Tryz.prog 297 (15, ic297, [(.t 2)]) := fokA [] Tryz.func297 (by kernel_rfl) (by kernel_rfl) (by kernel_rfl) (by kernel_rfl)
def ic298 : IC :=
 (.seq
 (.reg 0 [oM 17 0, oQ 18 (.len 0 17), oM 4 18] [0, 1, 4])
 (.seq
 (.block 0
 (.loop
 (.seq
 (.seq
 (.reg 1 [oM 19 4, oQ 20 (.bin .geq 19 (cI 8))] [0, 1, 4, 20])
 (.cond 20
 .skip
 (.exit 0)))
 (.block 1
 (.seq
 (.reg 2 [oM 21 1, oQ 22 (.bin .rem 21 (.c (.int .u64 100000000))), oQ 23 (.conv .u32 22), oM 5 23] [0, 1, 4, 5])
 (.seq
 (.reg 3 [oM 24 1, oQ 25 (.bin .quo 24 (.c (.int .u64 100000000))), oM 1 25] [0, 1, 4, 5])
 (.seq
 (.reg 4 [oM 26 5, oQ 27 (.bin .quo 26 (.c (.int .u32 10000))), oM 28 5, oQ 29 (.bin .rem 28 (.c (.int .u32 10000))), oM 6 27, oM 7 29] [0, 1, 4, 6, 7])
 (.seq
 (.reg 5 [oM 30 7, oQ 31 (.bin .quo 30 (.c (.int .u32 100))), oQ 32 (.bin .mul 31 (.c (.int .u32 2))), oM 33 7, oQ 34 (.bin .rem 33 (.c (.int .u32 100))), oQ 35 (.bin .mul 34 (.c (.int .u32 2))), oM 8 32, oM 9 35] [0, 1, 4, 6, 8, 9])
 (.seq
 (.reg 6 [oM 36 6, oQ 37 (.bin .quo 36 (.c (.int .u32 100))), oQ 38 (.bin .mul 37 (.c (.int .u32 2))), oM 39 6, oQ 40 (.bin .rem 39 (.c (.int .u32 100))), oQ 41 (.bin .mul 40 (.c (.int .u32 2))), oM 10 38, oM 11 41] [0, 1, 4, 8, 9, 10, 11])
 (.seq
 (.dreg 7 [oM 42 0, oM 43 4, oQ 44 (.bin .sub 43 (cI 1)), oM 45 0, oM 46 4, oQ 47 (.bin .sub 46 (cI 2)), oM 48 9, oQ 49 (.bin .add 48 (.c (.int .u32 1))), oQ 50 (.istr (.c (.str [48, 48, 48, 49, 48, 50, 48, 51, 48, 52, 48, 53, 48, 54, 48, 55, 48, 56, 48, 57, 49, 48, 49, 49, 49, 50, 49, 51, 49, 52, 49, 53, 49, 54, 49, 55, 49, 56, 49, 57, 50, 48, 50, 49, 50, 50, 50, 51, 50, 52, 50, 53, 50, 54, 50, 55, 50, 56, 50, 57, 51, 48, 51, 49, 51, 50, 51, 51, 51, 52, 51, 53, 51, 54, 51, 55, 51, 56, 51, 57, 52, 48, 52, 49, 52, 50, 52, 51, 52, 52, 52, 53, 52, 54, 52, 55, 52, 56, 52, 57, 53, 48, 53, 49, 53, 50, 53, 51, 53, 52, 53, 53, 53, 54, 53, 55, 53, 56, 53, 57, 54, 48, 54, 49, 54, 50, 54, 51, 54, 52, 54, 53, 54, 54, 54, 55, 54, 56, 54, 57, 55, 48, 55, 49, 55, 50, 55, 51, 55, 52, 55, 53, 55, 54, 55, 55, 55, 56, 55, 57, 56, 48, 56, 49, 56, 50, 56, 51, 56, 52, 56, 53, 56, 54, 56, 55, 56, 56, 56, 57, 57, 48, 57, 49, 57, 50, 57, 51, 57, 52, 57, 53, 57, 54, 57, 55, 57, 56, 57, 57])) 49), oM 51 9, oQ 52 (.istr (.c (.str [48, 48, 48, 49, 48, 50, 48, 51, 48, 52, 48, 53, 48, 54, 48, 55, 48, 56, 48, 57, 49, 48, 49, 49, 49, 50, 49, 51, 49, 52, 49, 53, 49, 54, 49, 55, 49, 56, 49, 57, 50, 48, 50, 49, 50, 50, 50, 51, 50, 52, 50, 53, 50, 54, 50, 55, 50, 56, 50, 57, 51, 48, 51, 49, 51, 50, 51, 51, 51, 52, 51, 53, 51, 54, 51, 55, 51, 56, 51, 57, 52, 48, 52, 49, 52, 50, 52, 51, 52, 52, 52, 53, 52, 54, 52, 55, 52, 56, 52, 57, 53, 48, 53, 49, 53, 50, 53, 51, 53, 52, 53, 53, 53, 54, 53, 55, 53, 56, 53, 57, 54, 48, 54, 49, 54, 50, 54, 51, 54, 52, 54, 53, 54, 54, 54, 55, 54, 56, 54, 57, 55, 48, 55, 49, 55, 50, 55, 51, 55, 52, 55, 53, 55, 54, 55, 55, 55, 56, 55, 57, 56, 48, 56, 49, 56, 50, 56, 51, 56, 52, 56, 53, 56, 54, 56, 55, 56, 56, 56, 57, 57, 48, 57, 49, 57, 50, 57, 51, 57, 52, 57, 53, 57, 54, 57, 55, 57, 56, 57, 57])) 51), oQ 53 (.iaddr 1 42 44), oN (.store 1 53 50), oQ 54 (.iaddr 1 45 47), oN (.store 1 54 52)] false [0, 1, 4, 8, 10, 11])
 (.seq
 (.dreg 8 [oM 55 0, oM 56 4, oQ 57 (.bin .sub 56 (cI 3)), oM 58 0, oM 59 4, oQ 60 (.bin .sub 59 (cI 4)), oM 61 8, oQ 62 (.bin .add 61 (.c (.int .u32 1))), oQ 63 (.istr (.c (.str [48, 48, 48, 49, 48, 50, 48, 51, 48, 52, 48, 53, 48, 54, 48, 55, 48, 56, 48, 57, 49, 48, 49, 49, 49, 50, 49, 51, 49, 52, 49, 53, 49, 54, 49, 55, 49, 56, 49, 57, 50, 48, 50, 49, 50, 50, 50, 51, 50, 52, 50, 53, 50, 54, 50, 55, 50, 56, 50, 57, 51, 48, 51, 49, 51, 50, 51, 51, 51, 52, 51, 53, 51, 54, 51, 55, 51, 56, 51, 57, 52, 48, 52, 49, 52, 50, 52, 51, 52, 52, 52, 53, 52, 54, 52, 55, 52, 56, 52, 57, 53, 48, 53, 49, 53, 50, 53, 51, 53, 52, 53, 53, 53, 54, 53, 55, 53, 56, 53, 57, 54, 48, 54, 49, 54, 50, 54, 51, 54, 52, 54, 53, 54, 54, 54, 55, 54, 56, 54, 57, 55, 48, 55, 49, 55, 50, 55, 51, 55, 52, 55, 53, 55, 54, 55, 55, 55, 56, 55, 57, 56, 48, 56, 49, 56, 50, 56, 51, 56, 52, 56, 53, 56, 54, 56, 55, 56, 56, 56, 57, 57, 48, 57, 49, 57, 50, 57, 51, 57, 52, 57, 53, 57, 54, 57, 55, 57, 56, 57, 57])) 62), oM 64 8, oQ 65 (.istr (.c (.str [48, 48, 48, 49, 48, 50, 48, 51, 48, 52, 48, 53, 48, 54, 48, 55, 48, 56, 48, 57, 49, 48, 49, 49, 49, 50, 49, 51, 49, 52, 49, 53, 49, 54, 49, 55, 49, 56, 49, 57, 50, 48, 50, 49, 50, 50, 50, 51, 50, 52, 50, 53, 50, 54, 50, 55, 50, 56, 50, 57, 51, 48, 51, 49, 51, 50, 51, 51, 51, 52, 51, 53, 51, 54, 51, 55, 51, 56, 51, 57, 52, 48, 52, 49, 52, 50, 52, 51, 52, 52, 52, 53, 52, 54, 52, 55, 52, 56, 52, 57, 53, 48, 53, 49, 53, 50, 53, 51, 53, 52, 53, 53, 53, 54, 53, 55, 53, 56, 53, 57, 54, 48, 54, 49, 54, 50, 54, 51, 54, 52, 54, 53, 54, 54, 54, 55, 54, 56, 54, 57, 55, 48, 55, 49, 55, 50, 55, 51, 55, 52, 55, 53, 55, 54, 55, 55, 55, 56, 55, 57, 56, 48, 56, 49, 56, 50, 56, 51, 56, 52, 56, 53, 56, 54, 56, 55, 56, 56, 56, 57, 57, 48, 57, 49, 57, 50, 57, 51, 57, 52, 57, 53, 57, 54, 57, 55, 57, 56, 57, 57])) 64), oQ 66 (.iaddr 1 55 57), oN (.store 1 66 63), oQ 67 (.iaddr 1 58 60), oN (.store 1 67 65)] false [0, 1, 4, 10, 11])
 (.seq
 (.dreg 9 [oM 68 0, oM 69 4, oQ 70 (.bin .sub 69 (cI 5)), oM 71 0, oM 72 4, oQ 73 (.bin .sub 72 (cI 6)), oM 74 11, oQ 75 (.bin .add 74 (.c (.int .u32 1))), oQ 76 (.istr (.c (.str [48, 48, 48, 49, 48, 50, 48, 51, 48, 52, 48, 53, 48, 54, 48, 55, 48, 56, 48, 57, 49, 48, 49, 49, 49, 50, 49, 51, 49, 52, 49, 53, 49, 54, 49, 55, 49, 56, 49, 57, 50, 48, 50, 49, 50, 50, 50, 51, 50, 52, 50, 53, 50, 54, 50, 55, 50, 56, 50, 57, 51, 48, 51, 49, 51, 50, 51, 51, 51, 52, 51, 53, 51, 54, 51, 55, 51, 56, 51, 57, 52, 48, 52, 49, 52, 50, 52, 51, 52, 52, 52, 53, 52, 54, 52, 55, 52, 56, 52, 57, 53, 48, 53, 49, 53, 50, 53, 51, 53, 52, 53, 53, 53, 54, 53, 55, 53, 56, 53, 57, 54, 48, 54, 49, 54, 50, 54, 51, 54, 52, 54, 53, 54, 54, 54, 55, 54, 56, 54, 57, 55, 48, 55, 49, 55, 50, 55, 51, 55, 52, 55, 53, 55, 54, 55, 55, 55, 56, 55, 57, 56, 48, 56, 49, 56, 50, 56, 51, 56, 52, 56, 53, 56, 54, 56, 55, 56, 56, 56, 57, 57, 48, 57, 49, 57, 50, 57, 51, 57, 52, 57, 53, 57, 54, 57, 55, 57, 56, 57, 57])) 75), oM 77 11, oQ 78 (.istr (.c (.str [48, 48, 48, 49, 48, 50, 48, 51, 48, 52, 48, 53, 48, 54, 48, 55, 48, 56, 48, 57, 49, 48, 49, 49, 49, 50, 49, 51, 49, 52, 49, 53, 49, 54, 49, 55, 49, 56, 49, 57, 50, 48, 50, 49, 50, 50, 50, 51, 50, 52, 50, 53, 50, 54, 50, 55, 50, 56, 50, 57, 51, 48, 51, 49, 51, 50, 51, 51, 51, 52, 51, 53, 51, 54, 51, 55, 51, 56, 51, 57, 52, 48, 52, 49, 52, 50, 52, 51, 52, 52, 52, 53, 52, 54, 52, 55, 52, 56, 52, 57, 53, 48, 53, 49, 53, 50, 53, 51, 53, 52, 53, 53, 53, 54, 53, 55, 53, 56, 53, 57, 54, 48, 54, 49, 54, 50, 54, 51, 54, 52, 54, 53, 54, 54, 54, 55, 54, 56, 54, 57, 55, 48, 55, 49, 55, 50, 55, 51, 55, 52, 55, 53, 55, 54, 55, 55, 55, 56, 55, 57, 56, 48, 56, 49, 56, 50, 56, 51, 56, 52, 56, 53, 56, 54, 56, 55, 56, 56, 56, 57, 57, 48, 57, 49, 57, 50, 57, 51, 57, 52, 57, 53, 57, 54, 57, 55, 57, 56, 57, 57])) 77), oQ 79 (.iaddr 1 68 70), oN (.store 1 79 76), oQ 80 (.iaddr 1 71 73), oN (.store 1 80 78)] false [0, 1, 4, 10])
 (.seq
 (.dreg 10 [oM 81 0, oM 82 4, oQ 83 (.bin .sub 82 (cI 7)), oM 84 0, oM 85 4, oQ 86 (.bin .sub 85 (cI 8)), oM 87 10, oQ 88 (.bin .add 87 (.c (.int .u32 1))), oQ 89 (.istr (.c (.str [48, 48, 48, 49, 48, 50, 48, 51, 48, 52, 48, 53, 48, 54, 48, 55, 48, 56, 48, 57, 49, 48, 49, 49, 49, 50, 49, 51, 49, 52, 49, 53, 49, 54, 49, 55, 49, 56, 49, 57, 50, 48, 50, 49, 50, 50, 50, 51, 50, 52, 50, 53, 50, 54, 50, 55, 50, 56, 50, 57, 51, 48, 51, 49, 51, 50, 51, 51, 51, 52, 51, 53, 51, 54, 51, 55, 51, 56, 51, 57, 52, 48, 52, 49, 52, 50, 52, 51, 52, 52, 52, 53, 52, 54, 52, 55, 52, 56, 52, 57, 53, 48, 53, 49, 53, 50, 53, 51, 53, 52, 53, 53, 53, 54, 53, 55, 53, 56, 53, 57, 54, 48, 54, 49, 54, 50, 54, 51, 54, 52, 54, 53, 54, 54, 54, 55, 54, 56, 54, 57, 55, 48, 55, 49, 55, 50, 55, 51, 55, 52, 55, 53, 55, 54, 55, 55, 55, 56, 55, 57, 56, 48, 56, 49, 56, 50, 56, 51, 56, 52, 56, 53, 56, 54, 56, 55, 56, 56, 56, 57, 57, 48, 57, 49, 57, 50, 57, 51, 57, 52, 57, 53, 57, 54, 57, 55, 57, 56, 57, 57])) 88), oM 90 10, oQ 91 (.istr (.c (.str [48, 48, 48, 49, 48, 50, 48, 51, 48, 52, 48, 53, 48, 54, 48, 55, 48, 56, 48, 57, 49, 48, 49, 49, 49, 50, 49, 51, 49, 52, 49, 53, 49, 54, 49, 55, 49, 56, 49, 57, 50, 48, 50, 49, 50, 50, 50, 51, 50, 52, 50, 53, 50, 54, 50, 55, 50, 56, 50, 57, 51, 48, 51, 49, 51, 50, 51, 51, 51, 52, 51, 53, 51, 54, 51, 55, 51, 56, 51, 57, 52, 48, 52, 49, 52, 50, 52, 51, 52, 52, 52, 53, 52, 54, 52, 55, 52, 56, 52, 57, 53, 48, 53, 49, 53, 50, 53, 51, 53, 52, 53, 53, 53, 54, 53, 55, 53, 56, 53, 57, 54, 48, 54, 49, 54, 50, 54, 51, 54, 52, 54, 53, 54, 54, 54, 55, 54, 56, 54, 57, 55, 48, 55, 49, 55, 50, 55, 51, 55, 52, 55, 53, 55, 54, 55, 55, 55, 56, 55, 57, 56, 48, 56, 49, 56, 50, 56, 51, 56, 52, 56, 53, 56, 54, 56, 55, 56, 56, 56, 57, 57, 48, 57, 49, 57, 50, 57, 51, 57, 52, 57, 53, 57, 54, 57, 55, 57, 56, 57, 57])) 90), oQ 92 (.iaddr 1 81 83), oN (.store 1 92 89), oQ 93 (.iaddr 1 84 86), oN (.store 1 93 91)] false [0, 1, 4])
 (.reg 11 [oM 94 4, oQ 95 (.bin .sub 94 (cI 8)), oM 4 95] [0, 1, 4]))))))))))))))
 (.seq
 (.reg 12 [oM 96 1, oQ 97 (.conv .u32 96), oM 12 97] [0, 4, 12])
 (.seq
 (.seq
 (.reg 13 [oM 98 4, oQ 99 (.bin .geq 98 (cI 4))] [0, 4, 12, 99])
 (.cond 99
 (.seq
 (.reg 14 [oM 100 12, oQ 101 (.bin .rem 100 (.c (.int .u32 10000))), oM 13 101] [0, 4, 12, 13])
 (.seq
 (.reg 15 [oM 102 12, oQ 103 (.bin .quo 102 (.c (.int .u32 10000))), oM 12 103] [0, 4, 12, 13])
 (.seq
 (.reg 16 [oM 104 13, oQ 105 (.bin .quo 104 (.c (.int .u32 100))), oQ 106 (.bin .mul 105 (.c (.int .u32 2))), oM 107 13, oQ 108 (.bin .rem 107 (.c (.int .u32 100))), oQ 109 (.bin .mul 108 (.c (.int .u32 2))), oM 14 106, oM 15 109] [0, 4, 12, 14, 15])
 (.seq
 (.dreg 17 [oM 110 0, oM 111 4, oQ 112 (.bin .sub 111 (cI 1)), oM 113 0, oM 114 4, oQ 115 (.bin .sub 114 (cI 2)), oM 116 15, oQ 117 (.bin .add 116 (.c (.int .u32 1))), oQ 118 (.istr (.c (.str [48, 48, 48, 49, 48, 50, 48, 51, 48, 52, 48, 53, 48, 54, 48, 55, 48, 56, 48, 57, 49, 48, 49, 49, 49, 50, 49, 51, 49, 52, 49, 53, 49, 54, 49, 55, 49, 56, 49, 57, 50, 48, 50, 49, 50, 50, 50, 51, 50, 52, 50, 53, 50, 54, 50, 55, 50, 56, 50, 57, 51, 48, 51, 49, 51, 50, 51, 51, 51, 52, 51, 53, 51, 54, 51, 55, 51, 56, 51, 57, 52, 48, 52, 49, 52, 50, 52, 51, 52, 52, 52, 53, 52, 54, 52, 55, 52, 56, 52, 57, 53, 48, 53, 49, 53, 50, 53, 51, 53, 52, 53, 53, 53, 54, 53, 55, 53, 56, 53, 57, 54, 48, 54, 49, 54, 50, 54, 51, 54, 52, 54, 53, 54, 54, 54, 55, 54, 56, 54, 57, 55, 48, 55, 49, 55, 50, 55, 51, 55, 52, 55, 53, 55, 54, 55, 55, 55, 56, 55, 57, 56, 48, 56, 49, 56, 50, 56, 51, 56, 52, 56, 53, 56, 54, 56, 55, 56, 56, 56, 57, 57, 48, 57, 49, 57, 50, 57, 51, 57, 52, 57, 53, 57, 54, 57, 55, 57, 56, 57, 57])) 117), oM 119 15, oQ 120 (.istr (.c (.str [48, 48, 48, 49, 48, 50, 48, 51, 48, 52, 48, 53, 48, 54, 48, 55, 48, 56, 48, 57, 49, 48, 49, 49, 49, 50, 49, 51, 49, 52, 49, 53, 49, 54, 49, 55, 49, 56, 49, 57, 50, 48, 50, 49, 50, 50, 50, 51, 50, 52, 50, 53, 50, 54, 50, 55, 50, 56, 50, 57, 51, 48, 51, 49, 51, 50, 51, 51, 51, 52, 51, 53, 51, 54, 51, 55, 51, 56, 51, 57, 52, 48, 52, 49, 52, 50, 52, 51, 52, 52, 52, 53, 52, 54, 52, 55, 52, 56, 52, 57, 53, 48, 53, 49, 53, 50, 53, 51, 53, 52, 53, 53, 53, 54, 53, 55, 53, 56, 53, 57, 54, 48, 54, 49, 54, 50, 54, 51, 54, 52, 54, 53, 54, 54, 54, 55, 54, 56, 54, 57, 55, 48, 55, 49, 55, 50, 55, 51, 55, 52, 55, 53, 55, 54, 55, 55, 55, 56, 55, 57, 56, 48, 56, 49, 56, 50, 56, 51, 56, 52, 56, 53, 56, 54, 56, 55, 56, 56, 56, 57, 57, 48, 57, 49, 57, 50, 57, 51, 57, 52, 57, 53, 57, 54, 57, 55, 57, 56, 57, 57])) 119), oQ 121 (.iaddr 1 110 112), oN (.store 1 121 118), oQ 122 (.iaddr 1 113 115), oN (.store 1 122 120)] false [0, 4, 12, 14])
 (.seq
 (.dreg 18 [oM 123 0, oM 124 4, oQ 125 (.bin .sub 124 (cI 3)), oM 126 0, oM 127 4, oQ 128 (.bin .sub 127 (cI 4)), oM 129 14, oQ 130 (.bin .add 129 (.c (.int .u32 1))), oQ 131 (.istr (.c (.str [48, 48, 48, 49, 48, 50, 48, 51, 48, 52, 48, 53, 48, 54, 48, 55, 48, 56, 48, 57, 49, 48, 49, 49, 49, 50, 49, 51, 49, 52, 49, 53, 49, 54, 49, 55, 49, 56, 49, 57, 50, 48, 50, 49, 50, 50, 50, 51, 50, 52, 50, 53, 50, 54, 50, 55, 50, 56, 50, 57, 51, 48, 51, 49, 51, 50, 51, 51, 51, 52, 51, 53, 51, 54, 51, 55, 51, 56, 51, 57, 52, 48, 52, 49, 52, 50, 52, 51, 52, 52, 52, 53, 52, 54, 52, 55, 52, 56, 52, 57, 53, 48, 53, 49, 53, 50, 53, 51, 53, 52, 53, 53, 53, 54, 53, 55, 53, 56, 53, 57, 54, 48, 54, 49, 54, 50, 54, 51, 54, 52, 54, 53, 54, 54, 54, 55, 54, 56, 54, 57, 55, 48, 55, 49, 55, 50, 55, 51, 55, 52, 55, 53, 55, 54, 55, 55, 55, 56, 55, 57, 56, 48, 56, 49, 56, 50, 56, 51, 56, 52, 56, 53, 56, 54, 56, 55, 56, 56, 56, 57, 57, 48, 57, 49, 57, 50, 57, 51, 57, 52, 57, 53, 57, 54, 57, 55, 57, 56, 57, 57])) 130), oM 132 14, oQ 133 (.istr (.c (.str [48, 48, 48, 49, 48, 50, 48, 51, 48, 52, 48, 53, 48, 54, 48, 55, 48, 56, 48, 57, 49, 48, 49, 49, 49, 50, 49, 51, 49, 52, 49, 53, 49, 54, 49, 55, 49, 56, 49, 57, 50, 48, 50, 49, 50, 50, 50, 51, 50, 52, 50, 53, 50, 54, 50, 55, 50, 56, 50, 57, 51, 48, 51, 49, 51, 50, 51, 51, 51, 52, 51, 53, 51, 54, 51, 55, 51, 56, 51, 57, 52, 48, 52, 49, 52, 50, 52, 51, 52, 52, 52, 53, 52, 54, 52, 55, 52, 56, 52, 57, 53, 48, 53, 49, 53, 50, 53, 51, 53, 52, 53, 53, 53, 54, 53, 55, 53, 56, 53, 57, 54, 48, 54, 49, 54, 50, 54, 51, 54, 52, 54, 53, 54, 54, 54, 55, 54, 56, 54, 57, 55, 48, 55, 49, 55, 50, 55, 51, 55, 52, 55, 53, 55, 54, 55, 55, 55, 56, 55, 57, 56, 48, 56, 49, 56, 50, 56, 51, 56, 52, 56, 53, 56, 54, 56, 55, 56, 56, 56, 57, 57, 48, 57, 49, 57, 50, 57, 51, 57, 52, 57, 53, 57, 54, 57, 55, 57, 56, 57, 57])) 132), oQ 134 (.iaddr 1 123 125), oN (.store 1 134 131), oQ 135 (.iaddr 1 126 128), oN (.store 1 135 133)] false [0, 4, 12])
 (.reg 19 [oM 136 4, oQ 137 (.bin .sub 136 (cI 4)), oM 4 137] [0, 4, 12]))))))
 .skip))
 (.seq
 (.seq
 (.reg 20 [oM 138 4, oQ 139 (.bin .geq 138 (cI 2))] [0, 4, 12, 139])
 (.cond 139
 (.seq
 (.reg 21 [oM 140 12, oQ 141 (.bin .rem 140 (.c (.int .u32 100))), oQ 142 (.bin .mul 141 (.c (.int .u32 2))), oM 16 142] [0, 4, 12, 16])
 (.seq
 (.reg 22 [oM 143 12, oQ 144 (.bin .quo 143 (.c (.int .u32 100))), oM 12 144] [0, 4, 12, 16])
 (.seq
 (.dreg 23 [oM 145 0, oM 146 4, oQ 147 (.bin .sub 146 (cI 1)), oM 148 0, oM 149 4, oQ 150 (.bin .sub 149 (cI 2)), oM 151 16, oQ 152 (.bin .add 151 (.c (.int .u32 1))), oQ 153 (.istr (.c (.str [48, 48, 48, 49, 48, 50, 48, 51, 48, 52, 48, 53, 48, 54, 48, 55, 48, 56, 48, 57, 49, 48, 49, 49, 49, 50, 49, 51, 49, 52, 49, 53, 49, 54, 49, 55, 49, 56, 49, 57, 50, 48, 50, 49, 50, 50, 50, 51, 50, 52, 50, 53, 50, 54, 50, 55, 50, 56, 50, 57, 51, 48, 51, 49, 51, 50, 51, 51, 51, 52, 51, 53, 51, 54, 51, 55, 51, 56, 51, 57, 52, 48, 52, 49, 52, 50, 52, 51, 52, 52, 52, 53, 52, 54, 52, 55, 52, 56, 52, 57, 53, 48, 53, 49, 53, 50, 53, 51, 53, 52, 53, 53, 53, 54, 53, 55, 53, 56, 53, 57, 54, 48, 54, 49, 54, 50, 54, 51, 54, 52, 54, 53, 54, 54, 54, 55, 54, 56, 54, 57, 55, 48, 55, 49, 55, 50, 55, 51, 55, 52, 55, 53, 55, 54, 55, 55, 55, 56, 55, 57, 56, 48, 56, 49, 56, 50, 56, 51, 56, 52, 56, 53, 56, 54, 56, 55, 56, 56, 56, 57, 57, 48, 57, 49, 57, 50, 57, 51, 57, 52, 57, 53, 57, 54, 57, 55, 57, 56, 57, 57])) 152), oM 154 16, oQ 155 (.istr (.c (.str [48, 48, 48, 49, 48, 50, 48, 51, 48, 52, 48, 53, 48, 54, 48, 55, 48, 56, 48, 57, 49, 48, 49, 49, 49, 50, 49, 51, 49, 52, 49, 53, 49, 54, 49, 55, 49, 56, 49, 57, 50, 48, 50, 49, 50, 50, 50, 51, 50, 52, 50, 53, 50, 54, 50, 55, 50, 56, 50, 57, 51, 48, 51, 49, 51, 50, 51, 51, 51, 52, 51, 53, 51, 54, 51, 55, 51, 56, 51, 57, 52, 48, 52, 49, 52, 50, 52, 51, 52, 52, 52, 53, 52, 54, 52, 55, 52, 56, 52, 57, 53, 48, 53, 49, 53, 50, 53, 51, 53, 52, 53, 53, 53, 54, 53, 55, 53, 56, 53, 57, 54, 48, 54, 49, 54, 50, 54, 51, 54, 52, 54, 53, 54, 54, 54, 55, 54, 56, 54, 57, 55, 48, 55, 49, 55, 50, 55, 51, 55, 52, 55, 53, 55, 54, 55, 55, 55, 56, 55, 57, 56, 48, 56, 49, 56, 50, 56, 51, 56, 52, 56, 53, 56, 54, 56, 55, 56, 56, 56, 57, 57, 48, 57, 49, 57, 50, 57, 51, 57, 52, 57, 53, 57, 54, 57, 55, 57, 56, 57, 57])) 154), oQ 156 (.iaddr 1 145 147), oN (.store 1 156 153), oQ 157 (.iaddr 1 148 150), oN (.store 1 157 155)] false [0, 4, 12])
 (.reg 24 [oM 158 4, oQ 159 (.bin .sub 158 (cI 2)), oM 4 159] [0, 4, 12]))))
 .skip))
 (.seq
 (.reg 25 [oM 160 4, oQ 161 (.bin .gtr 160 (cI 0))] [0, 12, 161])
 (.cond 161
 (.reg 26 [oM 162 0, oM 163 12, oQ 164 (.bin .add (.c (.int .u32 48)) 163), oQ 165 (.conv .u8 164), oQ 166 (.iaddr 1 162 (cI 0)), oN (.store 1 166 165)] [])
 .skip)))))))
theorem fok298 : FOK Tryz.prog 298 (167, ic298, []) := fokA [] Tryz.func298 (by kernel_rfl) (by kernel_rfl) (by kernel_rfl) (by kernel_rfl)
def ic299 : IC :=
 (.seq
 (.reg 0 [oM 10 (.c .nilslice), oM 11 (.c (.str []))] [0, 1, 2, 3, 4, 10, 11])
 (.seq
 (.seq
 (.reg 1 [oM 19 2, oQ 20 (.bin .lss 19 (cI 2)), oM 21 20, gQ 22 21 false (.mov 2), gQ 23 21 false (.bin .eql 22 (cI 10)), oQ 24 (.pick 21 (cB true) 23), oM 25 24, gQ 26 25 false (.mov 2), gQ 27 25 false (.bin .gtr 26 (cI 36)), oQ 28 (.pick 25 (cB true) 27)] [0, 1, 2, 3, 4, 10, 11, 28])
 (.cond 28
 (.reg 2 [oK 29 (.st .nev []), oN (.st .nev [])] [0, 1, 2, 3, 4, 10, 11])
 .skip))
 (.seq
 (.reg 3 [oK 12 (.alloc [(zU 0), (zU 0), (zU 0), (zU 0), (zU 0), (zU 0), (zU 0), (zU 0), (zU 0), (zU 0), (zU 0), (zU 0), (zU 0), (zU 0), (zU 0), (zU 0), (zU 0), (zU 0), (zU 0), (zU 0), (zU 0), (zU 0), (zU 0), (zU 0), (zU 0), (zU 0), (zU 0), (zU 0), (zU 0), (zU 0), (zU 0), (zU 0), (zU 0), (zU 0), (zU 0), (zU 0), (zU 0), (zU 0), (zU 0), (zU 0), (zU 0), (zU 0), (zU 0), (zU 0), (zU 0), (zU 0), (zU 0), (zU 0), (zU 0), (zU 0), (zU 0), (zU 0), (zU 0), (zU 0), (zU 0), (zU 0), (zU 0), (zU 0), (zU 0), (zU 0), (zU 0), (zU 0), (zU 0), (zU 0), (zU 0)])] [0, 1, 2, 3, 4, 10, 11, 12])
 (.seq
 (.reg 4 [oM 13 (cI 65)] [0, 1, 2, 3, 4, 10, 11, 12, 13])
 (.seq
 (.seq
 (.reg 5 [oM 30 3] [0, 1, 2, 3, 4, 10, 11, 12, 13, 30])
 (.cond 30
 (.reg 6 [oM 31 1, oQ 32 (.neg 31), oM 1 32] [0, 1, 2, 3, 4, 10, 11, 12, 13])
 .skip))
 (.seq
 (.seq
 (.reg 7 [oM 33 2, oK 34 (.call 305 [33])] [0, 1, 2, 3, 4, 10, 11, 12, 13, 34])
 (.cond 34
 (.seq
 (.reg 8 [oM 35 2, oQ 36 (.conv .u64 35), oK 37 (.call 306 [36]), oQ 38 (.conv .u64 37), oM 14 38] [0, 1, 2, 3, 4, 10, 11, 12, 13, 14])
 (.seq
 (.reg 9 [oM 39 2, oQ 40 (.conv .u64 39), oM 15 40] [0, 1, 2, 3, 4, 10, 11, 12, 13, 14, 15])
 (.seq
 (.reg 10 [oM 41 2, oQ 42 (.conv .u64 41), oQ 43 (.bin .sub 42 (.c (.int .u64 1))), oM 16 43] [0, 1, 3, 4, 10, 11, 12, 13, 14, 15, 16])
 (.seq
 (.block 0
 (.loop
 (.seq
 (.seq
 (.reg 11 [oM 44 1, oM 45 15, oQ 46 (.bin .geq 44 45)] [0, 1, 3, 4, 10, 11, 12, 13, 14, 15, 16, 46])
 (.cond 46
 .skip
 (.exit 0)))
 (.block 1
 (.seq
 (.reg 12 [oM 47 13, oQ 48 (.bin .sub 47 (cI 1)), oM 13 48] [0, 1, 3, 4, 10, 11, 12, 13, 14, 15, 16])
 (.seq
 (.reg 13 [oM 49 13, oM 50 1, oM 51 16, oQ 52 (.bin .and 50 51), oQ 53 (.istr (.c (.str [48, 49, 50, 51, 52, 53, 54, 55, 56, 57, 97, 98, 99, 100, 101, 102, 103, 104, 105, 106, 107, 108, 109, 110, 111, 112, 113, 114, 115, 116, 117, 118, 119, 120, 121, 122])) 52), oQ 54 (.aaddr 65 1 12 49), oN (.store 1 54 53)] [0, 1, 3, 4, 10, 11, 12, 13, 14, 15, 16])
 (.reg 14 [oM 55 1, oM 56 14, oQ 57 (.bin .shr 55 56), oM 1 57] [0, 1, 3, 4, 10, 11, 12, 13, 14, 15, 16])))))))
 (.seq
 (.reg 15 [oM 58 13, oQ 59 (.bin .sub 58 (cI 1)), oM 13 59] [0, 1, 3, 4, 10, 11, 12, 13])
 (.reg 16 [oM 60 13, oM 61 1, oQ 62 (.istr (.c (.str [48, 49, 50, 51, 52, 53, 54, 55, 56, 57, 97, 98, 99, 100, 101, 102, 103, 104, 105, 106, 107, 108, 109, 110, 111, 112, 113, 114, 115, 116, 117, 118, 119, 120, 121, 122])) 61), oQ 63 (.aaddr 65 1 12 60), oN (.store 1 63 62)] [0, 3, 4, 10, 11, 12, 13]))))))
 (.seq
 (.reg 17 [oM 64 2, oQ 65 (.conv .u64 64), oM 17 65] [0, 1, 3, 4, 10, 11, 12, 13, 17])
 (.seq
 (.block 2
 (.loop
 (.seq
 (.seq
 (.reg 18 [oM 66 1, oM 67 17, oQ 68 (.bin .geq 66 67)] [0, 1, 3, 4, 10, 11, 12, 13, 17, 68])
 (.cond 68
 .skip
 (.exit 2)))
 (.block 3
 (.seq
 (.reg 19 [oM 69 13, oQ 70 (.bin .sub 69 (cI 1)), oM 13 70] [0, 1, 3, 4, 10, 11, 12, 13, 17])
 (.seq
 (.reg 20 [oM 71 1, oM 72 17, oQ 73 (.bin .quo 71 72), oM 18 73] [0, 1, 3, 4, 10, 11, 12, 13, 17, 18])
 (.seq
 (.reg 21 [oM 74 13, oM 75 1, oM 76 18, oM 77 17, oQ 78 (.bin .mul 76 77), oQ 79 (.bin .sub 75 78), oQ 80 (.istr (.c (.str [48, 49, 50, 51, 52, 53, 54, 55, 56, 57, 97, 98, 99, 100, 101, 102, 103, 104, 105, 106, 107, 108, 109, 110, 111, 112, 113, 114, 115, 116, 117, 118, 119, 120, 121, 122])) 79), oQ 81 (.aaddr 65 1 12 74), oN (.store 1 81 80)] [0, 3, 4, 10, 11, 12, 13, 17, 18])
 (.reg 22 [oM 82 18, oM 1 82] [0, 1, 3, 4, 10, 11, 12, 13, 17]))))))))
 (.seq
 (.reg 23 [oM 83 13, oQ 84 (.bin .sub 83 (cI 1)), oM 13 84] [0, 1, 3, 4, 10, 11, 12, 13])
 (.reg 24 [oM 85 13, oM 86 1, oQ 87 (.istr (.c (.str [48, 49, 50, 51, 52, 53, 54, 55, 56, 57, 97, 98, 99, 100, 101, 102, 103, 104, 105, 106, 107, 108, 109, 110, 111, 112, 113, 114, 115, 116, 117, 118, 119, 120, 121, 122])) 86), oQ 88 (.aaddr 65 1 12 85), oN (.store 1 88 87)] [0, 3, 4, 10, 11, 12, 13]))))))
 (.seq
 (.seq
 (.reg 25 [oM 89 3] [0, 4, 10, 11, 12, 13, 89])
 (.cond 89
 (.seq
 (.reg 26 [oM 90 13, oQ 91 (.bin .sub 90 (cI 1)), oM 13 91] [0, 4, 10, 11, 12, 13])
 (.reg 27 [oM 92 13, oQ 93 (.aaddr 65 1 12 92), oN (.store 1 93 (.c (zU 45)))] [0, 4, 10, 11, 13]))
 .skip))
 (.seq
 (.seq
 (.reg 28 [oM 94 4] [0, 10, 11, 13, 94])
 (.cond 94
 (.seq
 (.reg 29 [oM 95 0, oM 96 13, oK 97 (.st .nev []), oK 98 (.app 1 95 97), oM 10 98] [10, 11])
 .ret)
 .skip))
 (.seq
 (.reg 30 [oM 99 13, oK 100 (.st .nev []), oK 101 (.st .nev []), oM 11 101] [10, 11])
 .ret)))))))))
theorem fok299 : FOK Tryz.prog 299 (102, ic299, [(.t 10), (.t 11)]) := fokA [] Tryz.func299 (by kernel_rfl) (by kernel_rfl) (by kernel_rfl) (by kernel_rfl)
def ic300 : IC :=
 (.seq
 (.reg 0 [oM 4 (cB false)] [0, 1])
 (.seq
 (.reg 1 [oM 5 0, oM 6 1, oQ 7 (.nchk 5), oQ 8 (.aaddr 256 1 7 6), oQ 9 (.load none 8), oM 4 9] [4])
 .ret))
theorem fok300 : FOK Tryz.prog 300 (10, ic300, [(.t 4)]) := fokA [] Tryz.func300 (by kernel_rfl) (by kernel_rfl) (by kernel_rfl) (by kernel_rfl)
def ic301 : IC :=
 (.seq
 (.reg 0 [oM 2 (.c (.int .i32 0)), oM 3 (cI 0)] [0])
 (.seq
 (.seq
 (.reg 1 [oM 4 0, oQ 5 (.bin .neq 4 (.c (.str []))), oM 6 5, gQ 7 6 true (.mov 0), gQ 8 6 true (.istr 7 (cI 0)), gQ 9 6 true (.bin .lss 8 (.c (zU 128))), oQ 10 (.pick 6 9 (cB false))] [0, 10])
 (.cond 10
 (.seq
 (.reg 2 [oM 11 0, oQ 12 (.istr 11 (cI 0)), oQ 13 (.conv .i32 12), oM 2 13, oM 3 (cI 1)] [2, 3])
 .ret)
 (.reg 3 [oM 15 0, oK 16 (.call 307 [15]), oM 14 16, oQ 17 (.ext 0 14), oQ 18 (.ext 1 14), oM 2 17, oM 3 18] [2, 3])))
 .ret))
theorem fok301 : FOK Tryz.prog 301 (19, ic301, [(.t 2), (.t 3)]) := fokA [] Tryz.func301 (by kernel_rfl) (by kernel_rfl) (by kernel_rfl) (by kernel_rfl)
def ic302 : IC :=
 (.seq
 (.reg 0 [oM 4 (cB false)] [0, 1])
 (.seq
 (.reg 1 [oM 5 0, oM 6 1, oK 7 (.call 308 [5, 6]), oQ 8 (.bin .geq 7 (cI 0)), oM 4 8] [4])
 .ret))
theorem fok302 : FOK Tryz.prog 302 (9, ic302, [(.t 4)]) := fokA [] Tryz.func302 (by kernel_rfl) (by kernel_rfl) (by kernel_rfl) (by kernel_rfl)
def ic303 : IC :=
 (.seq
 (.reg 0 [oM 2 (cI 0)] [0])
 (.seq
 (.reg 1 [oM 3 0, oQ 4 (.bin .mul 3 (cI 78913)), oQ 5 (.bin .shr 4 (.c (.int .u64 18))), oM 2 5] [2])
 .ret))
theorem fok303 : FOK Tryz.prog 303 (6, ic303, [(.t 2)]) := fokA [] Tryz.func303 (by kernel_rfl) (by kernel_rfl) (by kernel_rfl) (by kernel_rfl)
def ic304 : IC :=
 (.seq
 (.reg 0 [oM 2 (cI 0)] [0])
 (.seq
 (.seq
 (.reg 1 [oM 3 0] [3])
 (.cond 3
 (.seq
 (.reg 2 [oM 2 (cI 1)] [2])
 .ret)
 .skip))
 (.seq
 (.reg 3 [oM 2 (cI 0)] [2])
 .ret)))
theorem fok304 : FOK Tryz.prog 304 (4, ic304, [(.t 2)]) := fokA [] Tryz.func304 (by kernel_rfl) (by kernel_rfl) (by kernel_rfl) (by kernel_rfl)
def ic305 : IC :=
 (.seq
 (.reg 0 [oM 2 (cB false)] [0])
 (.seq
 (.reg 1 [oM 3 0, oM 4 0, oQ 5 (.bin .sub 4 (cI 1)), oQ 6 (.bin .and 3 5), oQ 7 (.bin .eql 6 (cI 0)), oM 2 7] [2])
 .ret))
theorem fok305 : FOK Tryz.prog 305 (8, ic305, [(.t 2)]) := fokA [] Tryz.func305 (by kernel_rfl) (by kernel_rfl) (by kernel_rfl) (by kernel_rfl)
def ic306 : IC :=
 (.seq
 (.reg 0 [oM 2 (cI 0)] [0])
 (.seq
 (.cond (cB false)
 (.seq
 (.reg 1 [oM 3 0, oQ 4 (.conv .u32 3), oK 5 (.call 309 [4]), oM 2 5] [2])
 .ret)
 .skip)
 (.seq
 (.reg 2 [oM 6 0, oK 7 (.call 310 [6]), oM 2 7] [2])
 .ret)))
theorem fok306 : FOK Tryz.prog 306 (8, ic306, [(.t 2)]) := fokA [] Tryz.func306 (by kernel_rfl) (by kernel_rfl) (by kernel_rfl) (by kernel_rfl)
def ic307 : IC :=
 (.seq
 (.reg 0 [oM 2 (.c (.int .i32 0)), oM 3 (cI 0)] [0])
 (.seq
 (.reg 1 [oM 13 0, oQ 14 (.len 1 13), oM 4 14] [0, 4])
 (.seq
 (.seq
 (.reg 2 [oM 15 4, oQ 16 (.bin .lss 15 (cI 1))] [0, 4, 16])
 (.cond 16
 (.seq
 (.reg 3 [oM 2 (.c (.int .i32 65533)), oM 3 (cI 0)] [2, 3])
 .ret)
 .skip))
 (.seq
 (.reg 4 [oM 17 0, oQ 18 (.istr 17 (cI 0)), oM 5 18] [0, 4, 5])
 (.seq
 (.reg 5 [oM 19 5, oQ 20 (.aaddr 256 1 (.g 5) 19), oQ 21 (.load none 20), oM 6 21] [0, 4, 5, 6])
 (.seq
 (.seq
 (.reg 6 [oM 22 6, oQ 23 (.bin .geq 22 (.c (zU 240)))] [0, 4, 5, 6, 23])
 (.cond 23
 (.seq
 (.reg 7 [oM 24 6, oQ 25 (.conv .i32 24), oQ 26 (.bin .shl 25 (.c (.int .u64 31))), oQ 27 (.bin .shr 26 (.c (.int .u64 31))), oM 7 27] [0, 7])
 (.seq
 (.reg 8 [oM 28 0, oQ 29 (.istr 28 (cI 0)), oQ 30 (.conv .i32 29), oM 31 7, oQ 32 (.bin .andNot 30 31), oM 33 7, oQ 34 (.bin .and (.c (.int .i32 65533)) 33), oQ 35 (.bin .or 32 34), oM 2 35, oM 3 (cI 1)] [2, 3])
 .ret))
 .skip))
 (.seq
 (.reg 9 [oM 36 6, oQ 37 (.bin .and 36 (.c (zU 7))), oQ 38 (.conv .i64 37), oM 8 38] [0, 4, 5, 6, 8])
 (.seq
 (.reg 10 [oM 39 6, oQ 40 (.bin .shr 39 (.c (.int .u64 4))), oQ 41 (.aaddr 16 2 (.g 6) 40), oQ 42 (.load (some 2) 41), oK 9 (.alloc [(zU 0), (zU 0)]), oN (.store 2 9 42)] [0, 4, 5, 8, 9])
 (.seq
 (.seq
 (.reg 11 [oM 43 4, oM 44 8, oQ 45 (.bin .lss 43 44)] [0, 5, 8, 9, 45])
 (.cond 45
 (.seq
 (.reg 12 [oM 2 (.c (.int .i32 65533)), oM 3 (cI 1)] [2, 3])
 .ret)
 .skip))
 (.seq
 (.reg 13 [oM 46 0, oQ 47 (.istr 46 (cI 1)), oM 10 47] [0, 5, 8, 9, 10])
 (.seq
 (.seq
 (.reg 14 [oM 48 10, oQ 49 (.faddr 0 9), oQ 50 (.load none 49), oQ 51 (.bin .lss 48 50), oM 52 51, gQ 53 52 false (.faddr 1 9), gQ 54 52 false (.load none 53), gQ 55 52 false (.mov 10), gQ 56 52 false (.bin .lss 54 55), oQ 57 (.pick 52 (cB true) 56)] [0, 5, 8, 10, 57])
 (.cond 57
 (.seq
 (.reg 15 [oM 2 (.c (.int .i32 65533)), oM 3 (cI 1)] [2, 3])
 .ret)
 .skip))
 (.seq
 (.seq
 (.reg 16 [oM 58 8, oQ 59 (.bin .leq 58 (cI 2))] [0, 5, 8, 10, 59])
 (.cond 59
 (.seq
 (.reg 17 [oM 60 5, oQ 61 (.bin .and 60 (.c (zU 31))), oQ 62 (.conv .i32 61), oQ 63 (.bin .shl 62 (.c (.int .u64 6))), oM 64 10, oQ 65 (.bin .and 64 (.c (zU 63))), oQ 66 (.conv .i32 65), oQ 67 (.bin .or 63 66), oM 2 67, oM 3 (cI 2)] [2, 3])
 .ret)
 .skip))
 (.seq
 (.reg 18 [oM 68 0, oQ 69 (.istr 68 (cI 2)), oM 11 69] [0, 5, 8, 10, 11])
 (.seq
 (.seq
 (.reg 19 [oM 70 11, oQ 71 (.bin .lss 70 (.c (zU 128))), oM 72 71, gQ 73 72 false (.mov 11), gQ 74 72 false (.bin .lss (.c (zU 191)) 73), oQ 75 (.pick 72 (cB true) 74)] [0, 5, 8, 10, 11, 75])
 (.cond 75
 (.seq
 (.reg 20 [oM 2 (.c (.int .i32 65533)), oM 3 (cI 1)] [2, 3])
 .ret)
 .skip))
 (.seq
 (.seq
 (.reg 21 [oM 76 8, oQ 77 (.bin .leq 76 (cI 3))] [0, 5, 10, 11, 77])
 (.cond 77
 (.seq
 (.reg 22 [oM 78 5, oQ 79 (.bin .and 78 (.c (zU 15))), oQ 80 (.conv .i32 79), oQ 81 (.bin .shl 80 (.c (.int .u64 12))), oM 82 10, oQ 83 (.bin .and 82 (.c (zU 63))), oQ 84 (.conv .i32 83), oQ 85 (.bin .shl 84 (.c (.int .u64 6))), oQ 86 (.bin .or 81 85), oM 87 11, oQ 88 (.bin .and 87 (.c (zU 63))), oQ 89 (.conv .i32 88), oQ 90 (.bin .or 86 89), oM 2 90, oM 3 (cI 3)] [2, 3])
 .ret)
 .skip))
 (.seq
 (.reg 23 [oM 91 0, oQ 92 (.istr 91 (cI 3)), oM 12 92] [5, 10, 11, 12])
 (.seq
 (.seq
 (.reg 24 [oM 93 12, oQ 94 (.bin .lss 93 (.c (zU 128))), oM 95 94, gQ 96 95 false (.mov 12), gQ 97 95 false (.bin .lss (.c (zU 191)) 96), oQ 98 (.pick 95 (cB true) 97)] [5, 10, 11, 12, 98])
 (.cond 98
 (.seq
 (.reg 25 [oM 2 (.c (.int .i32 65533)), oM 3 (cI 1)] [2, 3])
 .ret)
 .skip))
 (.seq
 (.reg 26 [oM 99 5, oQ 100 (.bin .and 99 (.c (zU 7))), oQ 101 (.conv .i32 100), oQ 102 (.bin .shl 101 (.c (.int .u64 18))), oM 103 10, oQ 104 (.bin .and 103 (.c (zU 63))), oQ 105 (.conv .i32 104), oQ 106 (.bin .shl 105 (.c (.int .u64 12))), oQ 107 (.bin .or 102 106), oM 108 11, oQ 109 (.bin .and 108 (.c (zU 63))), oQ 110 (.conv .i32 109), oQ 111 (.bin .shl 110 (.c (.int .u64 6))), oQ 112 (.bin .or 107 111), oM 113 12, oQ 114 (.bin .and 113 (.c (zU 63))), oQ 115 (.conv .i32 114), oQ 116 (.bin .or 112 115), oM 2 116, oM 3 (cI 4)] [2, 3])
 .ret))))))))))))))))))
theorem fok307 : FOK Tryz.prog 307 (117, ic307, [(.t 2), (.t 3)]) := fokA [] Tryz.func307 (by kernel_rfl) (by kernel_rfl) (by kernel_rfl) (by kernel_rfl)
def ic308 : IC :=
 (.seq
 (.reg 0 [oM 4 (cI 0)] [0, 1])
 (.block 0
 (.seq
 (.reg 34 [oM 161 1, oQ 162 (.bin .leq (.c (.int .i32 0)) 161), oM 163 162, gQ 164 163 true (.mov 1), gQ 165 163 true (.bin .lss 164 (.c (.int .i32 128))), oQ 166 (.pick 163 165 (cB false)), oM 160 166] [0, 1, 160])
 (.cond 160
 (.seq
 (.reg 35 [oM 167 0, oM 168 1, oQ 169 (.conv .u8 168), oK 170 (.call 208 [167, 169]), oM 4 170] [4])
 .ret)
 (.seq
 (.reg 36 [oM 172 1, oQ 173 (.bin .eql 172 (.c (.int .i32 65533))), oM 171 173] [0, 1, 171])
 (.cond 171
 (.seq
 (.seq
 (.reg 37 [oM 174 0, oK 175 (.srange 174)] [175])
 (.block 9
 (.loop
 (.seq
 (.reg 38 [oK 176 (.snext 175), oQ 177 (.ext 0 176)] [175, 176, 177])
 (.seq
 (.cond 177
 .skip
 (.exit 9))
 (.block 10
 (.seq
 (.reg 39 [oQ 178 (.ext 1 176), oQ 179 (.ext 2 176), oM 5 178, oM 6 179] [5, 6, 175])
 (.seq
 (.reg 40 [oM 180 6, oQ 181 (.bin .eql 180 (.c (.int .i32 65533)))] [5, 175, 181])
 (.cond 181
 (.seq
 (.reg 41 [oM 182 5, oM 4 182] [4])
 .ret)
 .skip)))))))))
 (.seq
 (.reg 42 [oM 4 (cI (-1))] [4])
 .ret))
 (.seq
 (.reg 43 [oM 184 1, oK 185 (.call 311 [184]), oQ 186 (.not 185), oM 183 186] [183])
 (.cond 183
 (.seq
 (.reg 44 [oM 4 (cI (-1))] [4])
 .ret)
 (.reg 0 [oN (.st .nev [])] [])))))))))
theorem fok308 : FOK Tryz.prog 308 (187, ic308, [(.t 4)]) := fokA [] Tryz.func308 (by kernel_rfl) (by kernel_rfl) (by kernel_rfl) (by kernel_rfl)
def ic309 : IC :=
 (.seq
 (.reg 0 [oM 2 (cI 0)] [0])
 (.seq
 (.seq
 (.reg 1 [oM 3 0, oQ 4 (.bin .eql 3 (.c (.int .u32 0)))] [0, 4])
 (.cond 4
 (.seq
 (.reg 2 [oM 2 (cI 32)] [2])
 .ret)
 .skip))
 (.seq
 (.reg 3 [oM 5 0, oM 6 0, oQ 7 (.neg 6), oQ 8 (.bin .and 5 7), oQ 9 (.bin .mul 8 (.c (.int .u32 125613361))), oQ 10 (.bin .shr 9 (.c (.int .u64 27))), oQ 11 (.aaddr 32 1 (.g 7) 10), oQ 12 (.load none 11), oQ 13 (.conv .i64 12), oM 2 13] [2])
 .ret)))
theorem fok309 : FOK Tryz.prog 309 (14, ic309, [(.t 2)]) := fokA [] Tryz.func309 (by kernel_rfl) (by kernel_rfl) (by kernel_rfl) (by kernel_rfl)
def ic310 : IC :=
 (.seq
 (.reg 0 [oM 2 (cI 0)] [0])
 (.seq
 (.seq
 (.reg 1 [oM 3 0, oQ 4 (.bin .eql 3 (.c (.int .u64 0)))] [0, 4])
 (.cond 4
 (.seq
 (.reg 2 [oM 2 (cI 64)] [2])
 .ret)
 .skip))
 (.seq
 (.reg 3 [oM 5 0, oM 6 0, oQ 7 (.neg 6), oQ 8 (.bin .and 5 7), oQ 9 (.bin .mul 8 (.c (.int .u64 285870213051353865))), oQ 10 (.bin .shr 9 (.c (.int .u64 58))), oQ 11 (.aaddr 64 1 (.g 8) 10), oQ 12 (.load none 11), oQ 13 (.conv .i64 12), oM 2 13] [2])
 .ret)))
theorem fok310 : FOK Tryz.prog 310 (14, ic310, [(.t 2)]) := fokA [] Tryz.func310 (by kernel_rfl) (by kernel_rfl) (by kernel_rfl) (by kernel_rfl)
def ic311 : IC :=
 (.seq
 (.reg 0 [oM 2 (cB false)] [0])
 (.seq
 (.block 0
 (.seq
 (.reg 1 [oM 4 0, oQ 5 (.bin .leq (.c (.int .i32 0)) 4), oM 6 5, gQ 7 6 true (.mov 0), gQ 8 6 true (.bin .lss 7 (.c (.int .i32 55296))), oQ 9 (.pick 6 8 (cB false)), oM 3 9] [0, 3])
 (.cond 3
 (.seq
 (.reg 2 [oM 2 (cB true)] [2])
 .ret)
 (.seq
 (.reg 3 [oM 11 0, oQ 12 (.bin .lss (.c (.int .i32 57343)) 11), oM 13 12, gQ 14 13 true (.mov 0), gQ 15 13 true (.bin .leq 14 (.c (.int .i32 1114111))), oQ 16 (.pick 13 15 (cB false)), oM 10 16] [10])
 (.cond 10
 (.seq
 (.reg 4 [oM 2 (cB true)] [2])
 .ret)
 .skip)))))
 (.seq
 (.reg 5 [oM 2 (cB false)] [2])
 .ret)))
theorem fok311 : FOK Tryz.prog 311 (17, ic311, [(.t 2)]) := fokA [] Tryz.func311 (by kernel_rfl) (by kernel_rfl) (by kernel_rfl) (by kernel_rfl)
end Go.Id.Tryz
