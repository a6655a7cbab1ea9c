/- The compiled codes of functions, written by a program out of the given form. Conditions: none. -/
import Derived.Test.YtlalbdanjnhjaaaGreatDoorFwW
import Derived.Test.YtlalbdanjnhjaaaGreatDoorProg
set_option linter.all false
namespace Go.Id.Tryz
open Go Go.Id Go.Proofs
def allF1 : List Nat := List.range 345
def ic162 : IC :=
(.seq
 (.reg 0 [⟨(some 1), none, (.boxt (.t 0))⟩, ⟨(some 2), none, (.q (.mov (.c (.int .i64 0))))⟩] [1])
 (.seq
  (.seq
   (.reg 1 [⟨(some 6), none, (.q (.faddr 0 (.t 1)))⟩, ⟨(some 7), none, (.q (.load none (.t 6)))⟩, ⟨(some 8), none, (.q (.bin .eql (.t 7) (.c (.int .u8 1))))⟩] [1, 8])
   (.cond (.t 8)
    (.seq
     (.reg 2 [⟨(some 2), none, (.q (.mov (.c (.int .i64 0))))⟩] [2])
     .ret)
    .skip))
  (.seq
   (.reg 3 [⟨(some 3), none, (.q (.mov (.c (.int .i64 0))))⟩] [1, 3])
   (.seq
    (.seq
     (.reg 4 [⟨(some 9), none, (.q (.faddr 6 (.t 1)))⟩, ⟨(some 10), none, (.q (.load none (.t 9)))⟩, ⟨(some 11), none, (.q (.len 0 (.t 10)))⟩, ⟨(some 12), none, (.q (.mov (.c (.int .i64 0))))⟩] [3, 10, 11, 12])
     (.block 0
      (.loop
       (.seq
        (.reg 5 [⟨(some 13), none, (.q (.bin .lss (.t 12) (.t 11)))⟩] [3, 10, 11, 12, 13])
        (.seq
         (.cond (.t 13)
          .skip
          (.exit 0))
         (.seq
          (.block 1
           (.seq
            (.reg 6 [⟨(some 14), none, (.q (.iaddr 7 (.t 10) (.t 12)))⟩, ⟨(some 15), none, (.q (.load (some 7) (.t 14)))⟩, ⟨(some 5), none, (.alloc [(.int .u8 0), (.str []), (.int .u8 0), (.int .i64 0), (.str []), (.str []), .nilslice])⟩, ⟨none, none, (.store 7 (.t 5) (.t 15))⟩] [3, 5, 10, 11, 12])
            (.reg 7 [⟨(some 16), none, (.q (.mov (.t 3)))⟩, ⟨(some 17), none, (.q (.load (some 7) (.t 5)))⟩, ⟨(some 18), none, (.call 162 [(.t 17)])⟩, ⟨(some 19), none, (.q (.mm true (.t 16) (.t 18)))⟩, ⟨(some 3), none, (.q (.mov (.t 19)))⟩] [3, 10, 11, 12])))
          (.reg 8 [⟨(some 20), none, (.q (.bin .add (.t 12) (.c (.int .i64 1))))⟩, ⟨(some 12), none, (.q (.mov (.t 20)))⟩] [3, 10, 11, 12])))))))
    (.seq
     (.reg 9 [⟨(some 21), none, (.q (.mov (.t 3)))⟩, ⟨(some 22), none, (.q (.bin .add (.t 21) (.c (.int .i64 1))))⟩, ⟨(some 2), none, (.q (.mov (.t 22)))⟩] [2])
     .ret)))))
theorem fok162 : FOK Tryz.prog 162 (23, ic162, [(.t 2)]) := .mk (pf := [1000001]) (an := [(0, [1]), (1, [1, 8]), (2, [2]), (3, [1, 3]), (4, [3, 10, 11, 12]), (5, [3, 10, 11, 12, 13]), (6, [3, 5, 10, 11, 12]), (7, [3, 10, 11, 12]), (8, [3, 10, 11, 12]), (9, [2])]) (by kernel_rfl) (fnOK_of Tryz.func162 (by kernel_rfl) (by kernel_rfl) (by kernel_rfl))
def ic163 : IC :=
(.seq
 (.reg 0 [⟨(some 1), none, (.boxt (.t 0))⟩, ⟨(some 2), none, (.q (.mov (.c .nilfunc)))⟩] [1])
 (.seq
  (.reg 1 [⟨(some 3), none, (.alloc [.nilfunc])⟩] [1, 3])
  (.seq
   (.reg 2 [⟨(some 4), none, (.q (.mkf 214 [] [(.t 3)]))⟩, ⟨none, none, (.store 1 (.t 3) (.t 4))⟩] [1, 3])
   (.seq
    (.reg 3 [⟨(some 5), none, (.q (.mkf 215 [] [(.t 3), (.t 1)]))⟩, ⟨(some 2), none, (.q (.mov (.t 5)))⟩] [2])
    .ret))))
theorem fok163 : FOK Tryz.prog 163 (6, ic163, [(.t 2)]) := .mk (pf := [1000001]) (an := [(0, [1]), (1, [1, 3]), (2, [1, 3]), (3, [2])]) (by kernel_rfl) (fnOK_of Tryz.func163 (by kernel_rfl) (by kernel_rfl) (by kernel_rfl))
def ic164 : IC :=
(.seq
 (.reg 0 [⟨(some 2), none, (.alloc [(.int .i64 0), (.int .i64 0), (.bool false), (.int .u8 0)])⟩] [0, 2])
 (.seq
  (.reg 1 [⟨(some 4), none, (.q (.bld [(.int .i64 0), (.int .i64 0), (.bool false), (.int .u8 0)] [⟨0, ⟨1, (.c (.int .i64 0))⟩⟩, ⟨1, ⟨1, (.c (.int .i64 0))⟩⟩, ⟨2, ⟨1, (.c (.bool true))⟩⟩, ⟨3, ⟨1, (.c (.int .u8 3))⟩⟩]))⟩, ⟨(some 5), none, (.q (.bld [(.int .i64 0), (.int .i64 0), (.bool false), (.int .u8 0)] [⟨0, ⟨1, (.c (.int .i64 2))⟩⟩, ⟨1, ⟨1, (.c (.int .i64 24))⟩⟩, ⟨2, ⟨1, (.c (.bool true))⟩⟩, ⟨3, ⟨1, (.c (.int .u8 3))⟩⟩]))⟩, ⟨(some 6), none, (.q (.bld [(.int .i64 0), (.int .i64 0), (.bool false), (.int .u8 0)] [⟨0, ⟨1, (.c (.int .i64 2))⟩⟩, ⟨1, ⟨1, (.c (.int .i64 24))⟩⟩, ⟨2, ⟨1, (.c (.bool true))⟩⟩, ⟨3, ⟨1, (.c (.int .u8 3))⟩⟩]))⟩, ⟨(some 7), none, (.q (.bld [(.int .i64 0), (.int .i64 0), (.bool false), (.int .u8 0)] [⟨0, ⟨1, (.c (.int .i64 2))⟩⟩, ⟨1, ⟨1, (.c (.int .i64 3))⟩⟩, ⟨2, ⟨1, (.c (.bool false))⟩⟩, ⟨3, ⟨1, (.c (.int .u8 1))⟩⟩]))⟩, ⟨(some 8), none, (.q (.bld [(.int .i64 0), (.int .i64 0), (.bool false), (.int .u8 0)] [⟨0, ⟨1, (.c (.int .i64 2))⟩⟩, ⟨1, ⟨1, (.c (.int .i64 3))⟩⟩, ⟨2, ⟨1, (.c (.bool false))⟩⟩, ⟨3, ⟨1, (.c (.int .u8 2))⟩⟩]))⟩, ⟨(some 9), none, (.q (.bld [(.int .i64 0), (.int .i64 0), (.bool false), (.int .u8 0)] [⟨0, ⟨1, (.c (.int .i64 2))⟩⟩, ⟨1, ⟨1, (.c (.int .i64 24))⟩⟩, ⟨2, ⟨1, (.c (.bool true))⟩⟩, ⟨3, ⟨1, (.c (.int .u8 3))⟩⟩]))⟩, ⟨(some 10), none, (.q (.bld [(.int .i64 0), (.int .i64 0), (.bool false), (.int .u8 0)] [⟨0, ⟨1, (.c (.int .i64 2))⟩⟩, ⟨1, ⟨1, (.c (.int .i64 2))⟩⟩, ⟨2, ⟨1, (.c (.bool true))⟩⟩, ⟨3, ⟨1, (.c (.int .u8 3))⟩⟩]))⟩, ⟨(some 11), none, (.q (.bld [(.int .i64 0), (.int .i64 0), (.bool false), (.int .u8 0), (.int .i64 0), (.int .i64 0), (.bool false), (.int .u8 0), (.int .i64 0), (.int .i64 0), (.bool false), (.int .u8 0), (.int .i64 0), (.int .i64 0), (.bool false), (.int .u8 0), (.int .i64 0), (.int .i64 0), (.bool false), (.int .u8 0), (.int .i64 0), (.int .i64 0), (.bool false), (.int .u8 0), (.int .i64 0), (.int .i64 0), (.bool false), (.int .u8 0), (.int .i64 0), (.int .i64 0), (.bool false), (.int .u8 0)] [⟨4, ⟨4, (.t 4)⟩⟩, ⟨8, ⟨4, (.t 5)⟩⟩, ⟨12, ⟨4, (.t 6)⟩⟩, ⟨16, ⟨4, (.t 7)⟩⟩, ⟨20, ⟨4, (.t 8)⟩⟩, ⟨24, ⟨4, (.t 9)⟩⟩, ⟨28, ⟨4, (.t 10)⟩⟩]))⟩, ⟨(some 3), none, (.alloc [(.int .i64 0), (.int .i64 0), (.bool false), (.int .u8 0), (.int .i64 0), (.int .i64 0), (.bool false), (.int .u8 0), (.int .i64 0), (.int .i64 0), (.bool false), (.int .u8 0), (.int .i64 0), (.int .i64 0), (.bool false), (.int .u8 0), (.int .i64 0), (.int .i64 0), (.bool false), (.int .u8 0), (.int .i64 0), (.int .i64 0), (.bool false), (.int .u8 0), (.int .i64 0), (.int .i64 0), (.bool false), (.int .u8 0), (.int .i64 0), (.int .i64 0), (.bool false), (.int .u8 0)])⟩, ⟨none, none, (.store 32 (.t 3) (.t 11))⟩] [0, 2, 3])
  (.seq
   (.seq
    (.reg 2 [⟨(some 12), none, (.q (.mov (.t 0)))⟩, ⟨(some 13), none, (.q (.conv .i64 (.t 12)))⟩, ⟨(some 14), none, (.q (.bin .geq (.t 13) (.c (.int .i64 8))))⟩] [0, 2, 3, 14])
    (.cond (.t 14)
     (.seq
      (.reg 3 [⟨(some 15), none, (.q (.bld [(.int .i64 0), (.int .i64 0), (.bool false), (.int .u8 0)] []))⟩, ⟨none, none, (.store 4 (.t 2) (.t 15))⟩] [2])
      .ret)
     .skip))
   (.seq
    (.reg 4 [⟨(some 16), none, (.q (.mov (.t 0)))⟩, ⟨(some 17), none, (.q (.aaddr 8 4 (.t 3) (.t 16)))⟩, ⟨(some 18), none, (.q (.load (some 4) (.t 17)))⟩, ⟨none, none, (.store 4 (.t 2) (.t 18))⟩] [2])
    .ret))))
theorem fok164 : FOK Tryz.prog 164 (19, ic164, [(.cell (some 4) 2)]) := .mk (pf := []) (an := [(0, [0, 2]), (1, [0, 2, 3]), (2, [0, 2, 3, 14]), (3, [2]), (4, [2])]) (by kernel_rfl) (fnOK_of Tryz.func164 (by kernel_rfl) (by kernel_rfl) (by kernel_rfl))
def ic171 : IC :=
(.seq
 (.reg 0 [⟨(some 4), none, (.q (.mov (.c (.int .i64 0))))⟩] [0, 1])
 (.seq
  (.seq
   (.reg 1 [⟨(some 6), none, (.q (.mov (.t 0)))⟩, ⟨(some 7), none, (.q (.len 0 (.t 6)))⟩, ⟨(some 8), none, (.q (.mov (.c (.int .i64 0))))⟩] [0, 1, 7, 8])
   (.block 0
    (.loop
     (.seq
      (.reg 2 [⟨(some 9), none, (.q (.bin .lss (.t 8) (.t 7)))⟩] [0, 1, 7, 8, 9])
      (.seq
       (.cond (.t 9)
        .skip
        (.exit 0))
       (.seq
        (.block 1
         (.seq
          (.reg 3 [⟨(some 10), none, (.q (.mov (.t 8)))⟩, ⟨(some 5), none, (.q (.mov (.t 10)))⟩] [0, 1, 5, 7, 8])
          (.seq
           (.reg 4 [⟨(some 11), none, (.q (.mov (.t 1)))⟩, ⟨(some 12), none, (.q (.mov (.t 0)))⟩, ⟨(some 13), none, (.q (.mov (.t 5)))⟩, ⟨(some 14), none, (.q (.iaddr 1 (.t 12) (.t 13)))⟩, ⟨(some 15), none, (.q (.load none (.t 14)))⟩, ⟨(some 16), none, (.q (.bin .eql (.t 11) (.t 15)))⟩] [0, 1, 5, 7, 8, 16])
           (.cond (.t 16)
            (.seq
            (.reg 5 [⟨(some 17), none, (.q (.mov (.t 5)))⟩, ⟨(some 4), none, (.q (.mov (.t 17)))⟩] [4])
            .ret)
            .skip))))
        (.reg 6 [⟨(some 18), none, (.q (.bin .add (.t 8) (.c (.int .i64 1))))⟩, ⟨(some 8), none, (.q (.mov (.t 18)))⟩] [0, 1, 7, 8])))))))
  (.seq
   (.reg 7 [⟨(some 4), none, (.q (.mov (.c (.int .i64 (-1)))))⟩] [4])
   .ret)))
theorem fok171 : FOK Tryz.prog 171 (19, ic171, [(.t 4)]) := .mk (pf := []) (an := [(0, [0, 1]), (1, [0, 1, 7, 8]), (2, [0, 1, 7, 8, 9]), (3, [0, 1, 5, 7, 8]), (4, [0, 1, 5, 7, 8, 16]), (5, [4]), (6, [0, 1, 7, 8]), (7, [4])]) (by kernel_rfl) (fnOK_of Tryz.func171 (by kernel_rfl) (by kernel_rfl) (by kernel_rfl))
def ic172 : IC :=
 (.seq
 (.reg 0 [oM 4 (cI 0)] [0, 1])
 (.seq
 (.seq
 (.reg 1 [oM 5 0, oK 6 (.call 149 [5]), oQ 7 (.not 6), oM 8 7, gQ 9 8 false (.mov 1), gK 10 8 false (.call 149 [9]), gQ 11 8 false (.not 10), oQ 12 (.pick 8 (cB true) 11)] [0, 1, 12])
 (.cond 12
 (.seq
 (.reg 2 [oM 4 (cI 0)] [4])
 .ret)
 .skip))
 (.seq
 (.reg 3 [oK 13 (.call 223 []), oM 14 0, oQ 15 (.idx (some 5) 5 5 13 14), oM 16 1, oQ 17 (.idx none 5 1 15 16), oM 4 17] [4])
 .ret)))
theorem fok172 : FOK Tryz.prog 172 (18, ic172, [(.t 4)]) := fokA [] Tryz.func172 (by kernel_rfl) (by kernel_rfl) (by kernel_rfl) (by kernel_rfl)
def ic173 : IC :=
 (.seq
 (.reg 0 [oM 2 (cI 0)] [0])
 (.seq
 (.seq
 (.reg 1 [oM 6 0, oQ 7 (.len 0 6), oM 8 (cI 0)] [6, 7, 8])
 (.block 0
 (.loop
 (.seq
 (.reg 2 [oQ 9 (.bin .lss 8 7)] [6, 7, 8, 9])
 (.seq
 (.cond 9
 .skip
 (.exit 0))
 (.seq
 (.block 1
 (.seq
 (.reg 3 [oQ 10 (.iaddr 1 6 8), oQ 11 (.load none 10), oM 4 11] [4, 6, 7, 8])
 (.seq
 (.reg 4 [oM 12 4, oK 13 (.callv 12 []), oM 5 13] [5, 6, 7, 8])
 (.seq
 (.reg 5 [oM 14 5, oQ 15 (.bin .neq 14 (cI 0))] [5, 6, 7, 8, 15])
 (.cond 15
 (.seq
 (.reg 6 [oM 16 5, oM 2 16] [2])
 .ret)
 .skip)))))
 (.reg 7 [oQ 17 (.bin .add 8 (cI 1)), oM 8 17] [6, 7, 8])))))))
 (.seq
 (.reg 8 [oM 2 (cI 0)] [2])
 .ret)))
theorem fok173 : FOK Tryz.prog 173 (18, ic173, [(.t 2)]) := fokA [] Tryz.func173 (by kernel_rfl) (by kernel_rfl) (by kernel_rfl) (by kernel_rfl)
def ic174 : IC :=
 (.seq
 (.reg 0 [oM 2 (cI 0)] [0, 1])
 (.seq
 (.reg 1 [oQ 3 (.faddr 0 0), oQ 4 (.load none 3), oQ 5 (.faddr 0 1), oQ 6 (.load none 5), oK 7 (.call 175 [4, 6]), oM 2 7] [2])
 .ret))
theorem fok174 : FOK Tryz.prog 174 (8, ic174, [(.t 2)]) := fokA [] Tryz.func174 (by kernel_rfl) (by kernel_rfl) (by kernel_rfl) (by kernel_rfl)
def ic175 : IC :=
 (.seq
 (.reg 0 [oM 4 (cI 0)] [0, 1])
 (.seq
 (.reg 1 [oM 7 0, oK 8 (.call 224 [7]), oM 5 8] [0, 1, 5])
 (.seq
 (.reg 2 [oM 9 1, oK 10 (.call 224 [9]), oM 6 10] [0, 1, 5, 6])
 (.seq
 (.seq
 (.reg 3 [oM 11 5] [0, 1, 6, 11])
 (.cond 11
 (.seq
 (.seq
 (.reg 4 [oM 12 6] [12])
 (.cond 12
 (.seq
 (.reg 5 [oM 4 (cI 0)] [4])
 .ret)
 .skip))
 (.seq
 (.reg 6 [oM 4 (cI (-1))] [4])
 .ret))
 .skip))
 (.seq
 (.seq
 (.reg 7 [oM 13 6] [0, 1, 13])
 (.cond 13
 (.seq
 (.reg 8 [oM 4 (cI 1)] [4])
 .ret)
 .skip))
 (.seq
 (.seq
 (.reg 9 [oM 14 0, oM 15 1, oQ 16 (.bin .lss 14 15)] [0, 1, 16])
 (.cond 16
 (.seq
 (.reg 10 [oM 4 (cI (-1))] [4])
 .ret)
 .skip))
 (.seq
 (.seq
 (.reg 11 [oM 17 0, oM 18 1, oQ 19 (.bin .gtr 17 18)] [19])
 (.cond 19
 (.seq
 (.reg 12 [oM 4 (cI 1)] [4])
 .ret)
 .skip))
 (.seq
 (.reg 13 [oM 4 (cI 0)] [4])
 .ret))))))))
theorem fok175 : FOK Tryz.prog 175 (20, ic175, [(.t 4)]) := fokA [] Tryz.func175 (by kernel_rfl) (by kernel_rfl) (by kernel_rfl) (by kernel_rfl)
def ic176 : IC :=
 (.seq
 (.reg 0 [oM 2 (cI 0)] [0, 1])
 (.seq
 (.reg 1 [oQ 3 (.faddr 1 0), oQ 4 (.load none 3), oQ 5 (.faddr 1 1), oQ 6 (.load none 5), oK 7 (.call 177 [4, 6]), oM 2 7] [2])
 .ret))
theorem fok176 : FOK Tryz.prog 176 (8, ic176, [(.t 2)]) := fokA [] Tryz.func176 (by kernel_rfl) (by kernel_rfl) (by kernel_rfl) (by kernel_rfl)
def ic177 : IC :=
 (.seq
 (.reg 0 [oM 4 (cI 0)] [0, 1])
 (.seq
 (.reg 1 [oM 9 0, oK 10 (.call 225 [9]), oQ 11 (.bld [(zU 0), (.str [])] [⟨0, ⟨1, (.c (zU 2))⟩⟩]), oK 12 (.bslt 2 1 [(zU 0), (.str [])] [⟨0, ⟨2, 11⟩⟩]), oK 13 (.app 2 10 12), oM 14 1, oK 15 (.call 225 [14]), oQ 16 (.bld [(zU 0), (.str [])] [⟨0, ⟨1, (.c (zU 2))⟩⟩]), oK 17 (.bslt 2 1 [(zU 0), (.str [])] [⟨0, ⟨2, 16⟩⟩]), oK 18 (.app 2 15 17), oM 5 13, oM 6 18] [5, 6])
 (.seq
 (.seq
 (.reg 2 [oM 19 5, oQ 20 (.len 0 19), oM 21 6, oQ 22 (.len 0 21), oQ 23 (.mm false 20 22), oM 24 (cI 0)] [5, 6, 23, 24])
 (.block 0
 (.loop
 (.seq
 (.reg 3 [oQ 25 (.bin .lss 24 23)] [5, 6, 23, 24, 25])
 (.seq
 (.cond 25
 .skip
 (.exit 0))
 (.seq
 (.block 1
 (.seq
 (.reg 4 [oM 26 24, oM 7 26] [5, 6, 7, 23, 24])
 (.seq
 (.dreg 5 [oM 27 5, oM 28 7, oQ 29 (.iaddr 2 27 28), oQ 30 (.load (some 2) 29), oM 31 6, oM 32 7, oQ 33 (.iaddr 2 31 32), oQ 34 (.load (some 2) 33), oK 35 (.call 226 [30, 34]), oM 8 35] false [5, 6, 8, 23, 24])
 (.seq
 (.reg 6 [oM 36 8, oQ 37 (.bin .neq 36 (cI 0))] [5, 6, 8, 23, 24, 37])
 (.cond 37
 (.seq
 (.reg 7 [oM 38 8, oM 4 38] [4])
 .ret)
 .skip)))))
 (.reg 8 [oQ 39 (.bin .add 24 (cI 1)), oM 24 39] [5, 6, 23, 24])))))))
 (.seq
 (.reg 9 [oM 4 (cI 0)] [4])
 .ret))))
theorem fok177 : FOK Tryz.prog 177 (40, ic177, [(.t 4)]) := fokA [1000012, 1000017] Tryz.func177 (by kernel_rfl) (by kernel_rfl) (by kernel_rfl) (by kernel_rfl)
def ic178 : IC :=
 (.seq
 (.reg 0 [oM 2 (cI 0)] [0, 1])
 (.seq
 (.seq
 (.reg 1 [oQ 3 (.faddr 2 0), oQ 4 (.load none 3), oQ 5 (.bin .eql 4 (.c (.str []))), oM 6 5, gQ 7 6 false (.faddr 2 1), gQ 8 6 false (.load none 7), gQ 9 6 false (.bin .eql 8 (.c (.str []))), oQ 10 (.pick 6 (cB true) 9)] [0, 1, 10])
 (.cond 10
 (.seq
 (.reg 2 [oM 2 (cI 0)] [2])
 .ret)
 .skip))
 (.seq
 (.reg 3 [oQ 11 (.faddr 2 0), oQ 12 (.load none 11), oQ 13 (.faddr 2 1), oQ 14 (.load none 13), oK 15 (.call 177 [12, 14]), oM 2 15] [2])
 .ret)))
theorem fok178 : FOK Tryz.prog 178 (16, ic178, [(.t 2)]) := fokA [] Tryz.func178 (by kernel_rfl) (by kernel_rfl) (by kernel_rfl) (by kernel_rfl)
def ic179 : IC :=
 (.seq
 (.reg 0 [oK 3 (.boxt 1), oM 4 (cB false)] [0, 3])
 (.seq
 (.reg 1 [oM 5 0, oQ 6 (.load (some 2) 3), oK 7 (.call 227 [5, 6]), oQ 8 (.bin .geq 7 (cI 0)), oM 4 8] [4])
 .ret))
theorem fok179 : FOK Tryz.prog 179 (9, ic179, [(.t 4)]) := fokA [1000003] Tryz.func179 (by kernel_rfl) (by kernel_rfl) (by kernel_rfl) (by kernel_rfl)
def ic180 : IC :=
 (.seq
 (.reg 0 [oK 1 (.boxt 0), oM 2 (cI 0), oM 3 (cI 0), oM 4 (cB false)] [1, 3])
 (.seq
 (.seq
 (.reg 1 [oQ 10 (.faddr 0 1), oQ 11 (.load none 10), oQ 12 (.bin .eql 11 (.c (zU 1)))] [1, 3, 12])
 (.cond 12
 (.seq
 (.reg 2 [oQ 13 (.faddr 6 1), oQ 14 (.load none 13), oQ 15 (.len 0 14), oQ 16 (.bin .eql 15 (cI 0)), oM 17 16, gQ 18 17 true (.faddr 1 1), gQ 19 17 true (.load (some 5) 18), gK 20 17 true (.call 93 [19]), oQ 21 (.pick 17 20 (cB false)), oM 2 (cI 1), oM 3 (cI 0), oM 4 21] [2, 3, 4])
 .ret)
 .skip))
 (.seq
 (.dreg 3 [oQ 22 (.faddr 0 1), oQ 23 (.load none 22), oQ 24 (.bin .gtr 23 (.c (zU 1))), oM 25 24, gQ 26 25 true (.faddr 0 1), gQ 27 25 true (.load none 26), gQ 28 25 true (.bin .leq 27 (.c (zU 7))), oQ 29 (.pick 25 28 (cB false)), oM 30 29, gQ 31 30 true (.faddr 1 1), gQ 32 30 true (.load (some 5) 31), gQ 33 30 true (.bld [(.str []), (zU 0), (zI 0), (.str []), (.str [])] []), gQ 34 30 true (.eqs [2, 1, 1, 2, 2] true false 32 33), oQ 35 (.pick 30 34 (cB false)), oM 36 35, gQ 37 36 true (.faddr 6 1), gQ 38 36 true (.load none 37), gQ 39 36 true (.len 0 38), gQ 40 36 true (.bin .geq 39 (cI 2)), oQ 41 (.pick 36 40 (cB false)), oM 42 41, gQ 43 42 true (.faddr 6 1), gQ 44 42 true (.load none 43), gQ 45 42 true (.len 0 44), gQ 46 42 true (.faddr 0 1), gQ 47 42 true (.load none 46), gQ 48 42 true (.aaddr 8 2 (.g 1) 47), gQ 49 42 true (.faddr 1 48), gQ 50 42 true (.load none 49), gQ 51 42 true (.bin .leq 45 50), oQ 52 (.pick 42 51 (cB false)), oM 4 52] false [1, 3, 4])
 (.seq
 (.reg 4 [oM 2 (cI 1)] [1, 2, 3, 4])
 (.seq
 (.seq
 (.reg 5 [oQ 53 (.faddr 6 1), oQ 54 (.load none 53), oQ 55 (.len 0 54), oM 56 (cI 0)] [2, 3, 4, 54, 55, 56])
 (.block 0
 (.loop
 (.seq
 (.reg 6 [oQ 57 (.bin .lss 56 55)] [2, 3, 4, 54, 55, 56, 57])
 (.seq
 (.cond 57
 .skip
 (.exit 0))
 (.seq
 (.block 1
 (.seq
 (.reg 7 [oQ 58 (.iaddr 7 54 56), oQ 59 (.load (some 7) 58), oK 6 (.alloc [(zU 0), (.str []), (zU 0), (zI 0), (.str []), (.str []), .nilslice]), oN (.store 7 6 59)] [2, 3, 4, 6, 54, 55, 56])
 (.seq
 (.seq
 (.reg 8 [oM 60 4, oQ 61 (.not 60)] [2, 3, 4, 6, 54, 55, 56, 61])
 (.cond 61
 (.exit 0)
 .skip))
 (.seq
 (.reg 9 [oQ 63 (.load (some 7) 6), oK 64 (.call 180 [63]), oM 62 64, oQ 65 (.ext 0 62), oQ 66 (.ext 1 62), oQ 67 (.ext 2 62), oM 7 65, oM 8 66, oM 9 67] [2, 3, 7, 8, 9, 54, 55, 56])
 (.reg 10 [oM 68 2, oM 69 7, oQ 70 (.bin .add 68 69), oM 71 3, oM 72 8, oQ 73 (.mm true 71 72), oM 74 9, oM 2 70, oM 3 73, oM 4 74] [2, 3, 4, 54, 55, 56])))))
 (.reg 11 [oQ 75 (.bin .add 56 (cI 1)), oM 56 75] [2, 3, 4, 54, 55, 56])))))))
 (.seq
 (.reg 12 [oM 76 2, oM 77 3, oQ 78 (.bin .add 77 (cI 1)), oM 79 4, oM 2 76, oM 3 78, oM 4 79] [2, 3, 4])
 .ret))))))
theorem fok180 : FOK Tryz.prog 180 (80, ic180, [(.t 2), (.t 3), (.t 4)]) := fokA [1000001] Tryz.func180 (by kernel_rfl) (by kernel_rfl) (by kernel_rfl) (by kernel_rfl)
def ic181 : IC :=
 (.seq
 (.reg 0 [oK 2 (.boxt 0), oK 3 (.boxt 1), oM 4 (cB false)] [2, 3])
 (.seq
 (.oreg 1 [(0, oQ 5 (.faddr 0 2), 0), (1, oQ 6 (.load none 5), 0), (2, oQ 7 (.nchk 6), 0), (3, oQ 8 (.faddr 0 7), 0), (4, oQ 9 (.load none 8), 0), (5, oQ 10 (.faddr 1 3), 0), (6, oQ 11 (.load (some 5) 10), 0), (8, oQ 13 (.mkf 228 [] [2]), 0), (7, oK 12 (.call 159 [9, 11]), 0), (9, oK 14 (.call 80 [12, 13]), 0), (10, oM 4 14, 0)] [4])
 .ret))
theorem fok181 : FOK Tryz.prog 181 (15, ic181, [(.t 4)]) := fokA [1000002, 1000003] Tryz.func181 (by kernel_rfl) (by kernel_rfl) (by kernel_rfl) (by kernel_rfl)
def ic182 : IC :=
 (.seq
 (.reg 0 [oK 2 (.boxt 0), oK 3 (.boxt 1), oM 4 (cB false)] [2, 3])
 (.seq
 (.reg 1 [oQ 5 (.faddr 6 3), oQ 6 (.load none 5), oQ 7 (.mkf 230 [] [2]), oK 8 (.call 229 [6, 7]), oQ 9 (.not 8), oM 4 9] [4])
 .ret))
theorem fok182 : FOK Tryz.prog 182 (10, ic182, [(.t 4)]) := fokA [1000002, 1000003] Tryz.func182 (by kernel_rfl) (by kernel_rfl) (by kernel_rfl) (by kernel_rfl)
def ic183 : IC :=
 (.seq
 (.reg 0 [oK 2 (.boxt 0), oK 3 (.boxt 1), oM 4 (cB false)] [2, 3])
 (.seq
 (.reg 1 [oQ 5 (.faddr 6 3), oQ 6 (.load none 5), oQ 7 (.load (some 2) 2), oQ 8 (.mkf 125 [7] []), oK 9 (.call 229 [6, 8]), oM 4 9] [4])
 .ret))
theorem fok183 : FOK Tryz.prog 183 (10, ic183, [(.t 4)]) := fokA [1000002, 1000003] Tryz.func183 (by kernel_rfl) (by kernel_rfl) (by kernel_rfl) (by kernel_rfl)
def ic184 : IC :=
 (.seq
 (.reg 0 [oK 2 (.boxt 0), oK 3 (.boxt 1), oM 4 (cB false)] [2, 3])
 (.seq
 (.seq
 (.dreg 1 [oQ 5 (.load (some 2) 2), oQ 6 (.faddr 6 3), oQ 7 (.load none 6), oQ 8 (.iaddr 7 7 (cI 1)), oQ 9 (.load (some 7) 8), oK 10 (.call 125 [5, 9])] false [2, 3, 10])
 (.cond 10
 (.seq
 (.dreg 2 [oQ 11 (.load (some 2) 2), oQ 12 (.faddr 6 3), oQ 13 (.load none 12), oQ 14 (.iaddr 7 13 (cI 0)), oQ 15 (.load (some 7) 14), oK 16 (.call 125 [11, 15]), oM 4 16] false [4])
 .ret)
 .skip))
 (.seq
 (.dreg 3 [oQ 17 (.faddr 6 3), oQ 18 (.load none 17), oQ 19 (.len 0 18), oQ 20 (.bin .lss 19 (cI 3)), oM 21 20, gQ 22 21 false (.load (some 2) 2), gQ 23 21 false (.faddr 6 3), gQ 24 21 false (.load none 23), gQ 25 21 false (.iaddr 7 24 (cI 2)), gQ 26 21 false (.load (some 7) 25), gK 27 21 false (.call 125 [22, 26]), oQ 28 (.pick 21 (cB true) 27), oM 4 28] false [4])
 .ret)))
theorem fok184 : FOK Tryz.prog 184 (29, ic184, [(.t 4)]) := fokA [1000002, 1000003] Tryz.func184 (by kernel_rfl) (by kernel_rfl) (by kernel_rfl) (by kernel_rfl)
def ic185 : IC :=
 (.seq
 (.reg 0 [oK 2 (.boxt 0), oK 3 (.boxt 1), oM 4 (cB false)] [2, 3])
 (.seq
 (.seq
 (.dreg 1 [oQ 5 (.load (some 2) 2), oQ 6 (.faddr 6 3), oQ 7 (.load none 6), oQ 8 (.iaddr 7 7 (cI 1)), oQ 9 (.load (some 7) 8), oK 10 (.call 125 [5, 9])] false [2, 3, 10])
 (.cond 10
 (.seq
 (.dreg 2 [oQ 11 (.faddr 6 3), oQ 12 (.load none 11), oQ 13 (.len 0 12), oQ 14 (.bin .eql 13 (cI 3)), oM 15 14, gQ 16 15 true (.load (some 2) 2), gQ 17 15 true (.faddr 6 3), gQ 18 15 true (.load none 17), gQ 19 15 true (.iaddr 7 18 (cI 2)), gQ 20 15 true (.load (some 7) 19), gK 21 15 true (.call 125 [16, 20]), oQ 22 (.pick 15 21 (cB false)), oM 4 22] false [4])
 .ret)
 .skip))
 (.seq
 (.dreg 3 [oQ 23 (.load (some 2) 2), oQ 24 (.faddr 6 3), oQ 25 (.load none 24), oQ 26 (.iaddr 7 25 (cI 0)), oQ 27 (.load (some 7) 26), oK 28 (.call 125 [23, 27]), oM 4 28] false [4])
 .ret)))
theorem fok185 : FOK Tryz.prog 185 (29, ic185, [(.t 4)]) := fokA [1000002, 1000003] Tryz.func185 (by kernel_rfl) (by kernel_rfl) (by kernel_rfl) (by kernel_rfl)
def ic186 : IC :=
 (.seq
 (.reg 0 [oK 2 (.boxt 0), oK 3 (.boxt 1), oM 4 (cB false)] [2, 3])
 (.seq
 (.reg 1 [oQ 5 (.load (some 2) 2), oQ 6 (.mkf 232 [] [3]), oK 7 (.call 231 [5, 6]), oM 4 7] [4])
 .ret))
theorem fok186 : FOK Tryz.prog 186 (8, ic186, [(.t 4)]) := fokA [1000002, 1000003] Tryz.func186 (by kernel_rfl) (by kernel_rfl) (by kernel_rfl) (by kernel_rfl)
def ic187 : IC :=
 (.seq
 (.reg 0 [oK 2 (.boxt 0), oK 3 (.boxt 1), oM 4 (cB false)] [2, 3])
 (.seq
 (.reg 1 [oQ 5 (.load (some 2) 2), oQ 6 (.mkf 233 [] [3]), oK 7 (.call 231 [5, 6]), oM 4 7] [4])
 .ret))
theorem fok187 : FOK Tryz.prog 187 (8, ic187, [(.t 4)]) := fokA [1000002, 1000003] Tryz.func187 (by kernel_rfl) (by kernel_rfl) (by kernel_rfl) (by kernel_rfl)
def ic188 : IC :=
 (.seq
 (.reg 0 [oK 2 (.boxt 0), oK 3 (.boxt 1), oM 4 (cB false)] [2, 3])
 (.seq
 (.reg 1 [oQ 5 (.faddr 0 2), oQ 6 (.load none 5), oQ 7 (.faddr 0 3), oQ 8 (.load none 7), oQ 9 (.bin .eql 6 8), oM 10 9, gQ 11 10 true (.load (some 5) 2), gQ 12 10 true (.load (some 5) 3), gK 13 10 true (.call 234 [11, 12]), oQ 14 (.pick 10 13 (cB false)), oM 4 14] [4])
 .ret))
theorem fok188 : FOK Tryz.prog 188 (15, ic188, [(.t 4)]) := fokA [1000002, 1000003] Tryz.func188 (by kernel_rfl) (by kernel_rfl) (by kernel_rfl) (by kernel_rfl)
def ic189 : IC :=
 (.seq
 (.reg 0 [oK 1 (.boxt 0), oK 2 (.alloc [(.str []), (zU 0), (zI 0), (.str []), (.str [])])] [1, 2])
 (.seq
 (.reg 1 [oQ 3 (.faddr 0 1), oQ 4 (.load none 3), oQ 5 (.faddr 1 1), oQ 6 (.load (some 3) 5), oK 7 (.call 235 [4, 6]), oN (.store 5 2 7)] [2])
 .ret))
theorem fok189 : FOK Tryz.prog 189 (8, ic189, [(.cell (some 5) 2)]) := fokA [1000001] Tryz.func189 (by kernel_rfl) (by kernel_rfl) (by kernel_rfl) (by kernel_rfl)
def ic190 : IC :=
 (.seq
 (.reg 0 [oM 4 (cB false)] [0, 1])
 (.seq
 (.reg 1 [oM 5 0, oQ 6 (.isnil (.pointer 180) true 5), oM 7 6, gQ 8 7 true (.mov 1), gQ 9 7 true (.bin .geq 8 (cI 0)), oQ 10 (.pick 7 9 (cB false)), oM 11 10, gQ 12 11 true (.mov 1), gQ 13 11 true (.mov 0), gQ 14 11 true (.nchk 13), gQ 15 11 true (.faddr 0 14), gQ 16 11 true (.load none 15), gQ 17 11 true (.len 0 16), gQ 18 11 true (.bin .lss 12 17), oQ 19 (.pick 11 18 (cB false)), oM 4 19] [4])
 .ret))
theorem fok190 : FOK Tryz.prog 190 (20, ic190, [(.t 4)]) := fokA [] Tryz.func190 (by kernel_rfl) (by kernel_rfl) (by kernel_rfl) (by kernel_rfl)
def ic191 : IC :=
 (.seq
 (.reg 0 [oK 4 (.boxt 0), oM 6 (cB false)] [1, 2, 3, 4])
 (.seq
 (.dreg 1 [oM 7 1, oQ 8 (.load none 2), oQ 9 (.bin .neq 7 8), oM 10 9, gQ 11 10 true (.load (some 15) 4), gQ 12 10 true (.load none 3), gQ 13 10 true (.nchk 12), gQ 14 10 true (.faddr 0 13), gQ 15 10 true (.load none 14), gQ 16 10 true (.load none 2), gQ 17 10 true (.iaddr 15 15 16), gQ 18 10 true (.load (some 15) 17), gK 19 10 true (.call 192 [11, 18]), oQ 20 (.pick 10 19 (cB false)), oM 6 20] false [6])
 .ret))
theorem fok191 : FOK Tryz.prog 191 (21, ic191, [(.t 6)]) := fokA [1000004] Tryz.func191 (by kernel_rfl) (by kernel_rfl) (by kernel_rfl) (by kernel_rfl)
def ic192 : IC :=
 (.seq
 (.reg 0 [oK 2 (.boxt 0), oK 3 (.boxt 1), oM 4 (cB false)] [2, 3])
 (.seq
 (.reg 1 [oQ 5 (.faddr 9 2), oQ 6 (.load none 5), oQ 7 (.mkf 237 [] [3]), oK 8 (.call 236 [6, 7]), oM 4 8] [4])
 .ret))
theorem fok192 : FOK Tryz.prog 192 (9, ic192, [(.t 4)]) := fokA [1000002, 1000003] Tryz.func192 (by kernel_rfl) (by kernel_rfl) (by kernel_rfl) (by kernel_rfl)
def ic193 : IC :=
 (.seq
 (.reg 0 [oM 8 (cB true)] [0, 1, 2, 3, 8])
 (.seq
 (.reg 1 [oM 9 (cB true)] [0, 1, 2, 3, 8, 9])
 (.block 0
 (.loop
 (.block 1
 (.seq
 (.reg 2 [oM 19 2, oM 20 1, oQ 21 (.bin .sub 19 20), oM 10 21] [0, 1, 2, 3, 8, 9, 10])
 (.seq
 (.seq
 (.reg 3 [oM 22 10, oQ 23 (.bin .leq 22 (cI 12))] [0, 1, 2, 3, 8, 9, 10, 23])
 (.cond 23
 (.seq
 (.reg 4 [oM 24 0, oM 25 1, oM 26 2, oK 27 (.call 238 [24, 25, 26])] [])
 .ret)
 .skip))
 (.seq
 (.seq
 (.reg 5 [oM 28 3, oQ 29 (.bin .eql 28 (cI 0))] [0, 1, 2, 3, 8, 9, 10, 29])
 (.cond 29
 (.seq
 (.reg 6 [oM 30 0, oM 31 1, oM 32 2, oK 33 (.call 239 [30, 31, 32])] [])
 .ret)
 .skip))
 (.seq
 (.seq
 (.reg 7 [oM 34 8, oQ 35 (.not 34)] [0, 1, 2, 3, 8, 9, 10, 35])
 (.cond 35
 (.seq
 (.reg 8 [oM 36 0, oM 37 1, oM 38 2, oK 39 (.call 240 [36, 37, 38])] [0, 1, 2, 3, 8, 9, 10])
 (.reg 9 [oM 40 3, oQ 41 (.bin .sub 40 (cI 1)), oM 3 41] [0, 1, 2, 3, 8, 9, 10]))
 .skip))
 (.seq
 (.reg 10 [oM 43 0, oM 44 1, oM 45 2, oK 46 (.call 241 [43, 44, 45]), oM 42 46, oQ 47 (.ext 0 42), oQ 48 (.ext 1 42), oM 11 47, oM 12 48] [0, 1, 2, 3, 8, 9, 10, 11, 12])
 (.seq
 (.seq
 (.reg 11 [oM 49 12, oQ 50 (.bin .eql 49 (cI 2))] [0, 1, 2, 3, 8, 9, 10, 11, 12, 50])
 (.cond 50
 (.seq
 (.reg 12 [oM 51 0, oM 52 1, oM 53 2, oK 54 (.call 242 [51, 52, 53])] [0, 1, 2, 3, 8, 9, 10, 11])
 (.seq
 (.reg 13 [oM 55 2, oQ 56 (.bin .sub 55 (cI 1)), oM 57 11, oM 58 1, oQ 59 (.bin .sub 57 58), oQ 60 (.bin .sub 56 59), oM 11 60] [0, 1, 2, 3, 8, 9, 10, 11])
 (.reg 14 [oM 12 (cI 1)] [0, 1, 2, 3, 8, 9, 10, 11, 12])))
 .skip))
 (.seq
 (.seq
 (.reg 15 [oM 61 8, oM 62 61, gQ 63 62 true (.mov 9), oQ 64 (.pick 62 63 (cB false)), oM 65 64, gQ 66 65 true (.mov 12), gQ 67 65 true (.bin .eql 66 (cI 1)), oQ 68 (.pick 65 67 (cB false))] [0, 1, 2, 3, 8, 9, 10, 11, 68])
 (.cond 68
 (.seq
 (.reg 16 [oM 69 0, oM 70 1, oM 71 2, oK 72 (.call 243 [69, 70, 71])] [0, 1, 2, 3, 8, 9, 10, 11, 72])
 (.cond 72
 .ret
 .skip))
 .skip))
 (.seq
 (.seq
 (.dreg 17 [oM 73 1, oQ 74 (.bin .gtr 73 (cI 0)), oM 75 74, gQ 76 75 true (.mov 0), gQ 77 75 true (.mov 1), gQ 78 75 true (.bin .sub 77 (cI 1)), gQ 79 75 true (.iaddr 1 76 78), gQ 80 75 true (.load none 79), gQ 81 75 true (.mov 0), gQ 82 75 true (.mov 11), gQ 83 75 true (.iaddr 1 81 82), gQ 84 75 true (.load none 83), gK 85 75 true (.call 244 [80, 84]), gQ 86 75 true (.not 85), oQ 87 (.pick 75 86 (cB false))] false [0, 1, 2, 3, 8, 9, 10, 11, 87])
 (.cond 87
 (.seq
 (.reg 18 [oM 88 0, oM 89 1, oM 90 2, oM 91 11, oK 92 (.call 245 [88, 89, 90, 91]), oM 13 92] [0, 2, 3, 8, 9, 13])
 (.seq
 (.reg 19 [oM 93 13, oM 1 93] [0, 1, 2, 3, 8, 9])
 (.exit 1)))
 .skip))
 (.seq
 (.reg 20 [oM 95 0, oM 96 1, oM 97 2, oM 98 11, oK 99 (.call 246 [95, 96, 97, 98]), oM 94 99, oQ 100 (.ext 0 94), oQ 101 (.ext 1 94), oM 14 100, oM 15 101] [0, 1, 2, 3, 10, 14, 15])
 (.seq
 (.reg 21 [oM 102 15, oM 9 102] [0, 1, 2, 3, 9, 10, 14])
 (.seq
 (.reg 22 [oM 103 14, oM 104 1, oQ 105 (.bin .sub 103 104), oM 106 2, oM 107 14, oQ 108 (.bin .sub 106 107), oM 16 105, oM 17 108] [0, 1, 2, 3, 9, 10, 14, 16, 17])
 (.seq
 (.reg 23 [oM 109 10, oQ 110 (.bin .quo 109 (cI 8)), oM 18 110] [0, 1, 2, 3, 9, 14, 16, 17, 18])
 (.seq
 (.reg 24 [oM 111 16, oM 112 17, oQ 113 (.bin .lss 111 112)] [0, 1, 2, 3, 9, 14, 16, 17, 18, 113])
 (.cond 113
 (.seq
 (.reg 25 [oM 114 16, oM 115 18, oQ 116 (.bin .geq 114 115), oM 8 116] [0, 1, 2, 3, 8, 9, 14])
 (.seq
 (.reg 26 [oM 117 0, oM 118 1, oM 119 14, oM 120 3, oK 121 (.call 193 [117, 118, 119, 120])] [0, 2, 3, 8, 9, 14])
 (.reg 27 [oM 122 14, oQ 123 (.bin .add 122 (cI 1)), oM 1 123] [0, 1, 2, 3, 8, 9])))
 (.seq
 (.reg 28 [oM 124 17, oM 125 18, oQ 126 (.bin .geq 124 125), oM 8 126] [0, 1, 2, 3, 8, 9, 14])
 (.seq
 (.reg 29 [oM 127 0, oM 128 14, oQ 129 (.bin .add 128 (cI 1)), oM 130 2, oM 131 3, oK 132 (.call 193 [127, 129, 130, 131])] [0, 1, 3, 8, 9, 14])
 (.reg 30 [oM 133 14, oM 2 133] [0, 1, 2, 3, 8, 9]))))))))))))))))))))))
theorem fok193 : FOK Tryz.prog 193 (134, ic193, []) := fokA [] Tryz.func193 (by kernel_rfl) (by kernel_rfl) (by kernel_rfl) (by kernel_rfl)
def ic194 : IC :=
 (.seq
 (.reg 0 [oM 2 (cI 0)] [0])
 (.seq
 (.cond (cB false)
 (.seq
 (.reg 1 [oM 3 0, oQ 4 (.conv .u32 3), oK 5 (.call 247 [4]), oM 2 5] [2])
 .ret)
 .skip)
 (.seq
 (.reg 2 [oM 6 0, oK 7 (.call 248 [6]), oM 2 7] [2])
 .ret)))
theorem fok194 : FOK Tryz.prog 194 (8, ic194, [(.t 2)]) := fokA [] Tryz.func194 (by kernel_rfl) (by kernel_rfl) (by kernel_rfl) (by kernel_rfl)
def ic195 : IC :=
 (.seq
 (.reg 0 [oK 2 (.boxt 0), oM 4 (cB false)] [1, 2])
 (.seq
 (.reg 1 [oM 5 1, oQ 6 (.mkf 249 [] [2]), oK 7 (.call 80 [5, 6]), oM 4 7] [4])
 .ret))
theorem fok195 : FOK Tryz.prog 195 (8, ic195, [(.t 4)]) := fokA [1000002] Tryz.func195 (by kernel_rfl) (by kernel_rfl) (by kernel_rfl) (by kernel_rfl)
def ic196 : IC :=
 (.seq
 (.reg 0 [oM 4 (cB false)] [0, 1, 2])
 (.seq
 (.oreg 1 [(0, oQ 5 (.load none 1), 0), (1, oQ 6 (.load none 2), 0), (2, oM 7 0, 0), (3, oK 8 (.call 84 [6, 7]), 1), (4, oK 9 (.call 195 [5, 8]), 0), (5, oQ 10 (.not 9), 0), (6, oM 4 10, 0)] [4])
 .ret))
theorem fok196 : FOK Tryz.prog 196 (11, ic196, [(.t 4)]) := fokA [] Tryz.func196 (by kernel_rfl) (by kernel_rfl) (by kernel_rfl) (by kernel_rfl)
def ic197 : IC :=
 (.seq
 (.reg 0 [oM 4 (cB false)] [0, 1, 2])
 (.seq
 (.reg 1 [oQ 6 (.load none 1), oM 7 0, oK 8 (.call 103 [6, 7]), oM 5 8] [2, 5])
 (.seq
 (.reg 2 [oM 9 5, oQ 10 (.len 0 9), oQ 11 (.bin .gtr 10 (cI 0)), oM 12 11, gQ 13 12 true (.load none 2), gQ 14 12 true (.mov 5), gK 15 12 true (.call 195 [13, 14]), gQ 16 12 true (.not 15), oQ 17 (.pick 12 16 (cB false)), oM 4 17] [4])
 .ret)))
theorem fok197 : FOK Tryz.prog 197 (18, ic197, [(.t 4)]) := fokA [] Tryz.func197 (by kernel_rfl) (by kernel_rfl) (by kernel_rfl) (by kernel_rfl)
def ic198 : IC :=
(.seq
 (.reg 0 [⟨(some 2), none, (.q (.mov (.c (.str []))))⟩] [0])
 (.seq
  (.seq
   (.reg 1 [⟨(some 3), none, (.q (.mov (.t 0)))⟩, ⟨(some 4), none, (.call 149 [(.t 3)])⟩, ⟨(some 5), none, (.q (.not (.t 4)))⟩] [0, 5])
   (.cond (.t 5)
    (.seq
     (.reg 2 [⟨(some 2), none, (.q (.mov (.c (.str []))))⟩] [2])
     .ret)
    .skip))
  (.seq
   (.reg 3 [⟨(some 6), none, (.call 250 [])⟩, ⟨(some 7), none, (.q (.mov (.t 0)))⟩, ⟨(some 8), none, (.q (.idx none 5 1 (.t 6) (.t 7)))⟩, ⟨(some 2), none, (.q (.mov (.t 8)))⟩] [2])
   .ret)))
theorem fok198 : FOK Tryz.prog 198 (9, ic198, [(.t 2)]) := .mk (pf := []) (an := [(0, [0]), (1, [0, 5]), (2, [2]), (3, [2])]) (by kernel_rfl) (fnOK_of Tryz.func198 (by kernel_rfl) (by kernel_rfl) (by kernel_rfl))
def ic199 : IC :=
(.seq
 (.reg 0 [⟨(some 5), none, (.boxt (.t 2))⟩, ⟨(some 6), none, (.q (.mov (.c (.bool false))))⟩] [0, 1, 5])
 (.seq
  (.reg 1 [⟨(some 7), none, (.q (.mov (.t 0)))⟩, ⟨(some 8), none, (.q (.len 0 (.t 7)))⟩, ⟨(some 9), none, (.q (.mov (.t 1)))⟩, ⟨(some 10), none, (.q (.bin .leq (.t 8) (.t 9)))⟩, ⟨(some 11), none, (.q (.mov (.t 10)))⟩, ⟨(some 12), (some ⟨11, true⟩), (.q (.mov (.t 0)))⟩, ⟨(some 13), (some ⟨11, true⟩), (.q (.mkf 251 [] [(.t 5)]))⟩, ⟨(some 14), (some ⟨11, true⟩), (.call 236 [(.t 12), (.t 13)])⟩, ⟨(some 15), (some ⟨11, true⟩), (.q (.not (.t 14)))⟩, ⟨(some 16), none, (.q (.pick (.t 11) (.t 15) (.c (.bool false))))⟩, ⟨(some 6), none, (.q (.mov (.t 16)))⟩] [6])
  .ret))
theorem fok199 : FOK Tryz.prog 199 (17, ic199, [(.t 6)]) := .mk (pf := [1000005]) (an := [(0, [0, 1, 5]), (1, [6])]) (by kernel_rfl) (fnOK_of Tryz.func199 (by kernel_rfl) (by kernel_rfl) (by kernel_rfl))
def ic200 : IC :=
(.seq
 (.reg 0 [⟨(some 5), none, (.boxt (.t 2))⟩, ⟨(some 6), none, (.q (.mov (.c (.bool false))))⟩] [0, 1, 5])
 (.seq
  (.reg 1 [⟨(some 7), none, (.q (.mov (.t 0)))⟩, ⟨(some 8), none, (.q (.len 0 (.t 7)))⟩, ⟨(some 9), none, (.q (.mov (.t 1)))⟩, ⟨(some 10), none, (.q (.bin .leq (.t 8) (.t 9)))⟩, ⟨(some 11), none, (.q (.mov (.t 10)))⟩, ⟨(some 12), (some ⟨11, true⟩), (.q (.mov (.t 0)))⟩, ⟨(some 13), (some ⟨11, true⟩), (.q (.mkf 253 [] [(.t 5)]))⟩, ⟨(some 14), (some ⟨11, true⟩), (.call 252 [(.t 12), (.t 13)])⟩, ⟨(some 15), (some ⟨11, true⟩), (.q (.not (.t 14)))⟩, ⟨(some 16), none, (.q (.pick (.t 11) (.t 15) (.c (.bool false))))⟩, ⟨(some 6), none, (.q (.mov (.t 16)))⟩] [6])
  .ret))
theorem fok200 : FOK Tryz.prog 200 (17, ic200, [(.t 6)]) := .mk (pf := [1000005]) (an := [(0, [0, 1, 5]), (1, [6])]) (by kernel_rfl) (fnOK_of Tryz.func200 (by kernel_rfl) (by kernel_rfl) (by kernel_rfl))
def ic201 : IC :=
(.seq
 (.reg 0 [⟨(some 1), none, (.boxt (.t 0))⟩, ⟨(some 2), none, (.q (.mov (.c .nilfunc)))⟩] [1])
 (.seq
  (.reg 1 [⟨(some 3), none, (.q (.mkf 254 [] [(.t 1)]))⟩, ⟨(some 2), none, (.q (.mov (.t 3)))⟩] [2])
  .ret))
theorem fok201 : FOK Tryz.prog 201 (4, ic201, [(.t 2)]) := .mk (pf := [1000001]) (an := [(0, [1]), (1, [2])]) (by kernel_rfl) (fnOK_of Tryz.func201 (by kernel_rfl) (by kernel_rfl) (by kernel_rfl))
def ic202 : IC :=
(.seq
 (.reg 0 [⟨(some 5), none, (.boxt (.t 2))⟩, ⟨(some 6), none, (.q (.mov (.c (.bool false))))⟩] [0, 1, 5])
 (.seq
  (.reg 1 [⟨(some 7), none, (.q (.mov (.t 0)))⟩, ⟨(some 8), none, (.q (.len 0 (.t 7)))⟩, ⟨(some 9), none, (.q (.mov (.t 1)))⟩, ⟨(some 10), none, (.q (.bin .leq (.t 8) (.t 9)))⟩, ⟨(some 11), none, (.q (.mov (.t 10)))⟩, ⟨(some 12), (some ⟨11, true⟩), (.q (.mov (.t 0)))⟩, ⟨(some 13), (some ⟨11, true⟩), (.q (.mkf 255 [] [(.t 5)]))⟩, ⟨(some 14), (some ⟨11, true⟩), (.call 229 [(.t 12), (.t 13)])⟩, ⟨(some 15), (some ⟨11, true⟩), (.q (.not (.t 14)))⟩, ⟨(some 16), none, (.q (.pick (.t 11) (.t 15) (.c (.bool false))))⟩, ⟨(some 6), none, (.q (.mov (.t 16)))⟩] [6])
  .ret))
theorem fok202 : FOK Tryz.prog 202 (17, ic202, [(.t 6)]) := .mk (pf := [1000005]) (an := [(0, [0, 1, 5]), (1, [6])]) (by kernel_rfl) (fnOK_of Tryz.func202 (by kernel_rfl) (by kernel_rfl) (by kernel_rfl))
def ic203 : IC :=
(.seq
 (.reg 0 [⟨(some 2), none, (.boxt (.t 0))⟩, ⟨(some 3), none, (.q (.mov (.c (.bool false))))⟩] [1, 2])
 (.seq
  (.reg 1 [⟨(some 4), none, (.q (.load (some 7) (.t 2)))⟩, ⟨(some 5), none, (.q (.load none (.t 1)))⟩, ⟨(some 6), none, (.call 104 [(.t 4), (.t 5)])⟩, ⟨(some 7), none, (.q (.bin .eql (.t 6) (.c (.int .i64 0))))⟩, ⟨(some 3), none, (.q (.mov (.t 7)))⟩] [3])
  .ret))
theorem fok203 : FOK Tryz.prog 203 (8, ic203, [(.t 3)]) := .mk (pf := [1000002]) (an := [(0, [1, 2]), (1, [3])]) (by kernel_rfl) (fnOK_of Tryz.func203 (by kernel_rfl) (by kernel_rfl) (by kernel_rfl))
def ic204 : IC :=
 (.seq
 (.reg 0 [oM 2 (cB false)] [0])
 (.seq
 (.seq
 (.reg 1 [oM 3 0, oQ 4 (.bin .geq 3 (.c (zU 97))), oM 5 4, gQ 6 5 true (.mov 0), gQ 7 5 true (.bin .leq 6 (.c (zU 122))), oQ 8 (.pick 5 7 (cB false)), oM 9 8, gQ 10 9 false (.mov 0), gQ 11 9 false (.bin .geq 10 (.c (zU 65))), gQ 12 9 false (.mov 11), gQ 13 12 true (.mov 0), gQ 14 12 true (.bin .leq 13 (.c (zU 90))), gQ 15 9 false (.pick 12 14 (cB false)), oQ 16 (.pick 9 (cB true) 15), oM 17 16, gQ 18 17 false (.mov 0), gQ 19 17 false (.bin .geq 18 (.c (zU 48))), gQ 20 17 false (.mov 19), gQ 21 20 true (.mov 0), gQ 22 20 true (.bin .leq 21 (.c (zU 57))), gQ 23 17 false (.pick 20 22 (cB false)), oQ 24 (.pick 17 (cB true) 23)] [0, 24])
 (.cond 24
 (.seq
 (.reg 2 [oM 2 (cB true)] [2])
 .ret)
 .skip))
 (.seq
 (.reg 3 [oM 25 0, oQ 26 (.bin .eql 25 (.c (zU 46))), oM 27 26, gQ 28 27 false (.mov 0), gQ 29 27 false (.bin .eql 28 (.c (zU 95))), oQ 30 (.pick 27 (cB true) 29), oM 31 30, gQ 32 31 false (.mov 0), gQ 33 31 false (.bin .eql 32 (.c (zU 43))), oQ 34 (.pick 31 (cB true) 33), oM 35 34, gQ 36 35 false (.mov 0), gQ 37 35 false (.bin .eql 36 (.c (zU 45))), oQ 38 (.pick 35 (cB true) 37), oM 39 38, gQ 40 39 false (.mov 0), gQ 41 39 false (.bin .eql 40 (.c (zU 47))), oQ 42 (.pick 39 (cB true) 41), oM 43 42, gQ 44 43 false (.mov 0), gQ 45 43 false (.bin .eql 44 (.c (zU 58))), oQ 46 (.pick 43 (cB true) 45), oM 47 46, gQ 48 47 false (.mov 0), gQ 49 47 false (.bin .eql 48 (.c (zU 64))), oQ 50 (.pick 47 (cB true) 49), oM 51 50, gQ 52 51 false (.mov 0), gQ 53 51 false (.bin .eql 52 (.c (zU 126))), oQ 54 (.pick 51 (cB true) 53), oM 55 54, gQ 56 55 false (.mov 0), gQ 57 55 false (.bin .eql 56 (.c (zU 94))), oQ 58 (.pick 55 (cB true) 57), oM 2 58] [2])
 .ret)))
theorem fok204 : FOK Tryz.prog 204 (59, ic204, [(.t 2)]) := fokA [] Tryz.func204 (by kernel_rfl) (by kernel_rfl) (by kernel_rfl) (by kernel_rfl)
def ic205 : IC :=
 (.seq
 (.reg 0 [oM 2 (cB false)] [0])
 (.seq
 (.seq
 (.reg 1 [oM 3 (cI 0)] [0, 3])
 (.block 0
 (.loop
 (.seq
 (.seq
 (.reg 2 [oM 7 3, oM 8 0, oQ 9 (.len 1 8), oQ 10 (.bin .lss 7 9)] [0, 3, 10])
 (.cond 10
 .skip
 (.exit 0)))
 (.seq
 (.block 1
 (.seq
 (.reg 4 [oM 13 0, oM 14 3, oQ 15 (.istr 13 14), oM 4 15] [0, 3, 4])
 (.seq
 (.reg 5 [oM 16 4, oQ 17 (.bin .geq 16 (.c (zU 97))), oM 18 17, gQ 19 18 true (.mov 4), gQ 20 18 true (.bin .leq 19 (.c (zU 122))), oQ 21 (.pick 18 20 (cB false)), oM 22 21, gQ 23 22 false (.mov 4), gQ 24 22 false (.bin .geq 23 (.c (zU 65))), gQ 25 22 false (.mov 24), gQ 26 25 true (.mov 4), gQ 27 25 true (.bin .leq 26 (.c (zU 90))), gQ 28 22 false (.pick 25 27 (cB false)), oQ 29 (.pick 22 (cB true) 28), oM 5 29] [0, 3, 4, 5])
 (.seq
 (.reg 6 [oM 30 4, oQ 31 (.bin .geq 30 (.c (zU 48))), oM 32 31, gQ 33 32 true (.mov 4), gQ 34 32 true (.bin .leq 33 (.c (zU 57))), oQ 35 (.pick 32 34 (cB false)), oM 6 35] [0, 3, 4, 5, 6])
 (.seq
 (.reg 7 [oM 36 5, oQ 37 (.not 36), oM 38 37, gQ 39 38 true (.mov 6), gQ 40 38 true (.not 39), oQ 41 (.pick 38 40 (cB false)), oM 42 41, gQ 43 42 true (.mov 4), gQ 44 42 true (.bin .neq 43 (.c (zU 46))), oQ 45 (.pick 42 44 (cB false)), oM 46 45, gQ 47 46 true (.mov 4), gQ 48 46 true (.bin .neq 47 (.c (zU 95))), oQ 49 (.pick 46 48 (cB false)), oM 50 49, gQ 51 50 true (.mov 4), gQ 52 50 true (.bin .neq 51 (.c (zU 43))), oQ 53 (.pick 50 52 (cB false)), oM 54 53, gQ 55 54 true (.mov 4), gQ 56 54 true (.bin .neq 55 (.c (zU 126))), oQ 57 (.pick 54 56 (cB false)), oM 58 57, gQ 59 58 true (.mov 4), gQ 60 58 true (.bin .neq 59 (.c (zU 94))), oQ 61 (.pick 58 60 (cB false))] [0, 3, 61])
 (.cond 61
 (.seq
 (.reg 8 [oM 2 (cB false)] [2])
 .ret)
 .skip))))))
 (.reg 3 [oM 11 3, oQ 12 (.bin .add 11 (cI 1)), oM 3 12] [0, 3]))))))
 (.seq
 (.reg 9 [oM 62 0, oQ 63 (.len 1 62), oQ 64 (.bin .geq 63 (cI 1)), oM 65 64, gQ 66 65 true (.mov 0), gQ 67 65 true (.len 1 66), gQ 68 65 true (.bin .leq 67 (cI 64)), oQ 69 (.pick 65 68 (cB false)), oM 2 69] [2])
 .ret)))
theorem fok205 : FOK Tryz.prog 205 (70, ic205, [(.t 2)]) := fokA [] Tryz.func205 (by kernel_rfl) (by kernel_rfl) (by kernel_rfl) (by kernel_rfl)
def ic206 : IC :=
 (.seq
 (.reg 0 [oK 2 (.boxt 0), oM 4 (cI 0)] [1, 2])
 (.seq
 (.seq
 (.reg 1 [oM 5 1, oQ 6 (.bin .lss 5 (.c (zU 1))), oM 7 6, gQ 8 7 false (.mov 1), gQ 9 7 false (.bin .gtr 8 (.c (zU 3))), oQ 10 (.pick 7 (cB true) 9)] [1, 2, 10])
 (.cond 10
 (.seq
 (.reg 2 [oM 4 (cI 1)] [4])
 .ret)
 .skip))
 (.seq
 (.seq
 (.reg 3 [oQ 11 (.load (some 7) 2), oK 12 (.call 256 [11]), oQ 13 (.bin .gtr 12 (cI 24))] [1, 2, 13])
 (.cond 13
 (.seq
 (.reg 4 [oM 4 (cI 40)] [4])
 .ret)
 .skip))
 (.seq
 (.seq
 (.reg 5 [oQ 14 (.load (some 7) 2), oK 15 (.call 257 [14]), oQ 16 (.bin .gtr 15 (cI 8))] [1, 2, 16])
 (.cond 16
 (.seq
 (.reg 6 [oM 4 (cI 21)] [4])
 .ret)
 .skip))
 (.seq
 (.seq
 (.reg 7 [oQ 17 (.load (some 7) 2), oM 18 1, oK 19 (.call 258 [17, 18, (cB false)]), oQ 20 (.not 19)] [20])
 (.cond 20
 (.seq
 (.reg 8 [oM 4 (cI 4)] [4])
 .ret)
 .skip))
 (.seq
 (.reg 9 [oM 4 (cI 0)] [4])
 .ret))))))
theorem fok206 : FOK Tryz.prog 206 (21, ic206, [(.t 4)]) := fokA [1000002] Tryz.func206 (by kernel_rfl) (by kernel_rfl) (by kernel_rfl) (by kernel_rfl)
def ic207 : IC :=
(.seq
 (.reg 0 [⟨(some 1), none, (.boxt (.t 0))⟩, ⟨(some 2), none, (.alloc [(.int .u8 0), (.str []), (.int .u8 0), (.int .i64 0), (.str []), (.str []), .nilslice])⟩] [1, 2])
 (.seq
  (.reg 1 [⟨(some 5), none, (.q (.faddr 0 (.t 1)))⟩, ⟨(some 6), none, (.q (.load none (.t 5)))⟩, ⟨(some 7), none, (.q (.faddr 1 (.t 1)))⟩, ⟨(some 8), none, (.q (.load (some 5) (.t 7)))⟩, ⟨(some 9), none, (.q (.bld [(.int .u8 0), (.str []), (.int .u8 0), (.int .i64 0), (.str []), (.str []), .nilslice] [⟨0, ⟨1, (.t 6)⟩⟩, ⟨1, ⟨5, (.t 8)⟩⟩]))⟩, ⟨(some 3), none, (.alloc [(.int .u8 0), (.str []), (.int .u8 0), (.int .i64 0), (.str []), (.str []), .nilslice])⟩, ⟨none, none, (.store 7 (.t 3) (.t 9))⟩] [1, 2, 3])
  (.seq
   (.seq
    (.reg 2 [⟨(some 4), none, (.q (.mov (.c (.int .i64 0))))⟩] [1, 2, 3, 4])
    (.block 0
     (.loop
      (.seq
       (.seq
        (.reg 3 [⟨(some 10), none, (.q (.mov (.t 4)))⟩, ⟨(some 11), none, (.q (.faddr 6 (.t 1)))⟩, ⟨(some 12), none, (.q (.load none (.t 11)))⟩, ⟨(some 13), none, (.q (.len 0 (.t 12)))⟩, ⟨(some 14), none, (.q (.bin .lss (.t 10) (.t 13)))⟩] [1, 2, 3, 4, 14])
        (.cond (.t 14)
         .skip
         (.exit 0)))
       (.seq
        (.block 1
         (.dreg 5 [⟨(some 17), none, (.q (.faddr 6 (.t 3)))⟩, ⟨(some 18), none, (.q (.load none (.t 17)))⟩, ⟨(some 19), none, (.q (.faddr 6 (.t 1)))⟩, ⟨(some 20), none, (.q (.load none (.t 19)))⟩, ⟨(some 21), none, (.q (.mov (.t 4)))⟩, ⟨(some 22), none, (.q (.iaddr 7 (.t 20) (.t 21)))⟩, ⟨(some 23), none, (.q (.load (some 7) (.t 22)))⟩, ⟨(some 24), none, (.pcall 207 [(.t 23)])⟩, ⟨(some 25), none, (.bslt 7 1 [(.int .u8 0), (.str []), (.int .u8 0), (.int .i64 0), (.str []), (.str []), .nilslice] [⟨0, ⟨7, (.t 24)⟩⟩])⟩, ⟨(some 26), none, (.app 7 (.t 18) (.t 25))⟩, ⟨(some 27), none, (.q (.faddr 6 (.t 3)))⟩, ⟨none, none, (.store 1 (.t 27) (.t 26))⟩] true [1, 2, 3, 4]))
        (.reg 4 [⟨(some 15), none, (.q (.mov (.t 4)))⟩, ⟨(some 16), none, (.q (.bin .add (.t 15) (.c (.int .i64 1))))⟩, ⟨(some 4), none, (.q (.mov (.t 16)))⟩] [1, 2, 3, 4]))))))
   (.seq
    (.reg 6 [⟨(some 28), none, (.q (.load (some 7) (.t 3)))⟩, ⟨none, none, (.store 7 (.t 2) (.t 28))⟩] [2])
    .ret))))
theorem fok207 : FOK Tryz.prog 207 (29, ic207, [(.cell (some 7) 2)]) := .mk (pf := ([1000001, 1000025] ++ allF1)) (an := [(0, [1, 2]), (1, [1, 2, 3]), (2, [1, 2, 3, 4]), (3, [1, 2, 3, 4, 14]), (4, [1, 2, 3, 4]), (5, [1, 2, 3, 4]), (6, [2])]) (by kernel_rfl) (fnOK_of Tryz.func207 (by kernel_rfl) (by kernel_rfl) (by kernel_rfl))
def ic208 : IC :=
(.seq
 (.reg 0 [⟨(some 4), none, (.q (.mov (.c (.int .i64 0))))⟩] [0, 1])
 (.seq
  (.reg 1 [⟨(some 5), none, (.q (.mov (.t 0)))⟩, ⟨(some 6), none, (.q (.mov (.t 1)))⟩, ⟨(some 7), none, (.call 259 [(.t 5), (.t 6)])⟩, ⟨(some 4), none, (.q (.mov (.t 7)))⟩] [4])
  .ret))
theorem fok208 : FOK Tryz.prog 208 (8, ic208, [(.t 4)]) := .mk (pf := []) (an := [(0, [0, 1]), (1, [4])]) (by kernel_rfl) (fnOK_of Tryz.func208 (by kernel_rfl) (by kernel_rfl) (by kernel_rfl))
def ic209 : IC :=
(.seq
 (.reg 0 [⟨(some 2), none, (.q (.mov (.c (.str []))))⟩] [0])
 (.seq
  (.seq
   (.reg 1 [⟨(some 5), none, (.q (.load none (.g 2)))⟩, ⟨(some 6), none, (.mrange (.t 5))⟩] [0, 6])
   (.block 0
    (.loop
     (.seq
      (.reg 2 [⟨(some 7), none, (.mnext (.t 6))⟩, ⟨(some 8), none, (.q (.ext 0 (.t 7)))⟩] [0, 6, 8])
      (.seq
       (.cond (.t 8)
        .skip
        (.exit 0))
       (.block 1
        (.seq
         (.reg 3 [⟨(some 9), none, (.ment (.t 6))⟩, ⟨(some 10), none, (.q (.ext 0 (.t 9)))⟩, ⟨(some 11), none, (.q (.ext 1 (.t 9)))⟩, ⟨(some 3), none, (.q (.mov (.t 10)))⟩, ⟨(some 4), none, (.q (.mov (.t 11)))⟩] [0, 3, 4, 6])
         (.seq
          (.reg 4 [⟨(some 12), none, (.q (.mov (.t 4)))⟩, ⟨(some 13), none, (.q (.mov (.t 0)))⟩, ⟨(some 14), none, (.q (.bin .eql (.t 12) (.t 13)))⟩] [0, 3, 6, 14])
          (.cond (.t 14)
           (.seq
            (.reg 5 [⟨(some 15), none, (.q (.mov (.t 3)))⟩, ⟨(some 2), none, (.q (.mov (.t 15)))⟩] [2])
            .ret)
           .skip)))))))))
  (.seq
   (.reg 6 [⟨(some 2), none, (.q (.mov (.c (.str []))))⟩] [2])
   .ret)))
theorem fok209 : FOK Tryz.prog 209 (16, ic209, [(.t 2)]) := .mk (pf := []) (an := [(0, [0]), (1, [0, 6]), (2, [0, 6, 8]), (3, [0, 3, 4, 6]), (4, [0, 3, 6, 14]), (5, [2]), (6, [2])]) (by kernel_rfl) (fnOK_of Tryz.func209 (by kernel_rfl) (by kernel_rfl) (by kernel_rfl))
def ic210 : IC :=
(.seq
 (.reg 0 [⟨(some 4), none, (.q (.mov (.c (.bool false))))⟩] [0, 1])
 (.seq
  (.reg 1 [⟨(some 5), none, (.q (.mov (.t 0)))⟩, ⟨(some 6), none, (.q (.mov (.t 1)))⟩, ⟨(some 7), none, (.call 260 [(.t 5), (.t 6)])⟩, ⟨(some 4), none, (.q (.mov (.t 7)))⟩] [4])
  .ret))
theorem fok210 : FOK Tryz.prog 210 (8, ic210, [(.t 4)]) := .mk (pf := []) (an := [(0, [0, 1]), (1, [4])]) (by kernel_rfl) (fnOK_of Tryz.func210 (by kernel_rfl) (by kernel_rfl) (by kernel_rfl))
def ic211 : IC :=
(.seq
 (.reg 0 [⟨(some 2), none, (.q (.mov (.c (.bool false))))⟩] [0])
 (.seq
  (.seq
   (.reg 1 [⟨(some 5), none, (.q (.mov (.t 0)))⟩, ⟨(some 6), none, (.q (.bin .eql (.t 5) (.c (.str []))))⟩, ⟨(some 7), none, (.q (.mov (.t 6)))⟩, ⟨(some 8), (some ⟨7, false⟩), (.q (.mov (.t 0)))⟩, ⟨(some 9), (some ⟨7, false⟩), (.q (.len 1 (.t 8)))⟩, ⟨(some 10), (some ⟨7, false⟩), (.q (.bin .gtr (.t 9) (.c (.int .i64 64))))⟩, ⟨(some 11), none, (.q (.pick (.t 7) (.c (.bool true)) (.t 10)))⟩] [0, 11])
   (.cond (.t 11)
    (.seq
     (.reg 2 [⟨(some 2), none, (.q (.mov (.c (.bool false))))⟩] [2])
     .ret)
    .skip))
  (.seq
   (.seq
    (.reg 3 [⟨(some 12), none, (.q (.mov (.t 0)))⟩, ⟨(some 13), none, (.q (.len 1 (.t 12)))⟩, ⟨(some 14), none, (.q (.mov (.c (.int .i64 0))))⟩] [0, 13, 14])
    (.block 0
     (.loop
      (.seq
       (.reg 4 [⟨(some 15), none, (.q (.bin .lss (.t 14) (.t 13)))⟩] [0, 13, 14, 15])
       (.seq
        (.cond (.t 15)
         .skip
         (.exit 0))
        (.seq
         (.block 1
          (.seq
           (.reg 5 [⟨(some 16), none, (.q (.mov (.t 14)))⟩, ⟨(some 3), none, (.q (.mov (.t 16)))⟩] [0, 3, 13, 14])
           (.seq
            (.reg 6 [⟨(some 17), none, (.q (.mov (.t 0)))⟩, ⟨(some 18), none, (.q (.mov (.t 3)))⟩, ⟨(some 19), none, (.q (.istr (.t 17) (.t 18)))⟩, ⟨(some 4), none, (.q (.mov (.t 19)))⟩] [0, 4, 13, 14])
            (.block 2
            (.seq
            (.seq
            (.reg 8 [⟨(some 21), none, (.q (.mov (.t 4)))⟩, ⟨(some 22), none, (.q (.bin .geq (.t 21) (.c (.int .u8 97))))⟩, ⟨(some 23), none, (.q (.mov (.t 22)))⟩, ⟨(some 24), (some ⟨23, true⟩), (.q (.mov (.t 4)))⟩, ⟨(some 25), (some ⟨23, true⟩), (.q (.bin .leq (.t 24) (.c (.int .u8 122))))⟩, ⟨(some 26), none, (.q (.pick (.t 23) (.t 25) (.c (.bool false))))⟩, ⟨(some 20), none, (.q (.mov (.t 26)))⟩] [0, 4, 13, 14, 20])
            (.cond (.t 20)
            .skip
            (.seq
            (.reg 9 [⟨(some 27), none, (.q (.mov (.t 4)))⟩, ⟨(some 28), none, (.q (.bin .geq (.t 27) (.c (.int .u8 65))))⟩, ⟨(some 29), none, (.q (.mov (.t 28)))⟩, ⟨(some 30), (some ⟨29, true⟩), (.q (.mov (.t 4)))⟩, ⟨(some 31), (some ⟨29, true⟩), (.q (.bin .leq (.t 30) (.c (.int .u8 90))))⟩, ⟨(some 32), none, (.q (.pick (.t 29) (.t 31) (.c (.bool false))))⟩, ⟨(some 20), none, (.q (.mov (.t 32)))⟩] [0, 4, 13, 14, 20])
            (.cond (.t 20)
            .skip
            (.seq
            (.reg 10 [⟨(some 33), none, (.q (.mov (.t 4)))⟩, ⟨(some 34), none, (.q (.bin .geq (.t 33) (.c (.int .u8 48))))⟩, ⟨(some 35), none, (.q (.mov (.t 34)))⟩, ⟨(some 36), (some ⟨35, true⟩), (.q (.mov (.t 4)))⟩, ⟨(some 37), (some ⟨35, true⟩), (.q (.bin .leq (.t 36) (.c (.int .u8 57))))⟩, ⟨(some 38), none, (.q (.pick (.t 35) (.t 37) (.c (.bool false))))⟩, ⟨(some 20), none, (.q (.mov (.t 38)))⟩] [0, 4, 13, 14, 20])
            (.cond (.t 20)
            .skip
            (.reg 11 [⟨(some 39), none, (.q (.mov (.t 4)))⟩, ⟨(some 40), none, (.call 208 [(.c (.str [46, 95, 43, 126, 94])), (.t 39)])⟩, ⟨(some 41), none, (.q (.bin .geq (.t 40) (.c (.int .i64 0))))⟩, ⟨(some 20), none, (.q (.mov (.t 41)))⟩] [0, 13, 14, 20])))))))
            (.cond (.t 20)
            .skip
            (.seq
            (.reg 7 [⟨(some 2), none, (.q (.mov (.c (.bool false))))⟩] [2])
            .ret)))))))
         (.reg 12 [⟨(some 42), none, (.q (.bin .add (.t 14) (.c (.int .i64 1))))⟩, ⟨(some 14), none, (.q (.mov (.t 42)))⟩] [0, 13, 14])))))))
   (.seq
    (.reg 13 [⟨(some 2), none, (.q (.mov (.c (.bool true))))⟩] [2])
    .ret))))
theorem fok211 : FOK Tryz.prog 211 (43, ic211, [(.t 2)]) := .mk (pf := []) (an := [(0, [0]), (1, [0, 11]), (2, [2]), (3, [0, 13, 14]), (4, [0, 13, 14, 15]), (5, [0, 3, 13, 14]), (6, [0, 4, 13, 14]), (7, [2]), (8, [0, 4, 13, 14, 20]), (9, [0, 4, 13, 14, 20]), (10, [0, 4, 13, 14, 20]), (11, [0, 13, 14, 20]), (12, [0, 13, 14]), (13, [2])]) (by kernel_rfl) (fnOK_of Tryz.func211 (by kernel_rfl) (by kernel_rfl) (by kernel_rfl))
def ic212 : IC :=
 (.seq
 (.reg 0 [oK 3 (.boxt 0), oM 5 (cB false)] [2, 3])
 (.seq
 (.reg 1 [oQ 6 (.load (some 15) 3), oQ 7 (.load (some 5) 2), oK 8 (.call 213 [6, 7]), oM 5 8] [5])
 .ret))
theorem fok212 : FOK Tryz.prog 212 (9, ic212, [(.t 5)]) := fokA [1000003] Tryz.func212 (by kernel_rfl) (by kernel_rfl) (by kernel_rfl) (by kernel_rfl)
def ic213 : IC :=
 (.seq
 (.reg 0 [oK 2 (.boxt 0), oK 3 (.boxt 1), oM 4 (cB false)] [2, 3])
 (.seq
 (.seq
 (.reg 1 [oQ 5 (.load (some 15) 2), oQ 6 (.load (some 5) 3), oK 7 (.call 131 [5, 6]), oM 8 7, gQ 9 8 false (.faddr 6 2), gQ 10 8 false (.load none 9), gQ 11 8 false (.mkf 261 [] [3]), gK 12 8 false (.call 236 [10, 11]), oQ 13 (.pick 8 (cB true) 12)] [2, 3, 13])
 (.cond 13
 (.seq
 (.reg 2 [oM 4 (cB true)] [4])
 .ret)
 .skip))
 (.seq
 (.reg 3 [oQ 14 (.faddr 1 3), oQ 15 (.load none 14), oQ 16 (.bin .eql 15 (.c (zU 0))), oM 17 16, gQ 18 17 true (.faddr 14 2), gQ 19 17 true (.load none 18), gQ 20 17 true (.faddr 0 3), gQ 21 17 true (.load none 20), gK 22 17 true (.call 262 [19, 21]), oQ 23 (.pick 17 22 (cB false)), oM 4 23] [4])
 .ret)))
theorem fok213 : FOK Tryz.prog 213 (24, ic213, [(.t 4)]) := fokA [1000002, 1000003] Tryz.func213 (by kernel_rfl) (by kernel_rfl) (by kernel_rfl) (by kernel_rfl)
def ic214 : IC :=
(.seq
 (.reg 0 [⟨(some 4), none, (.boxt (.t 0))⟩, ⟨(some 7), none, (.q (.mov (.c (.bool false))))⟩] [1, 2, 3, 4])
 (.seq
  (.seq
   (.reg 1 [⟨(some 10), none, (.q (.mov (.t 2)))⟩, ⟨(some 11), none, (.q (.load (some 7) (.t 4)))⟩, ⟨(some 12), none, (.q (.mov (.t 1)))⟩, ⟨(some 13), none, (.callv (.t 10) [(.t 11), (.t 12)])⟩, ⟨(some 14), none, (.q (.not (.t 13)))⟩] [1, 2, 3, 4, 14])
   (.cond (.t 14)
    (.seq
     (.reg 2 [⟨(some 7), none, (.q (.mov (.c (.bool false))))⟩] [7])
     .ret)
    .skip))
  (.seq
   (.reg 3 [⟨(some 15), none, (.q (.mov (.t 1)))⟩, ⟨(some 16), none, (.q (.mov (.t 15)))⟩, ⟨(some 17), (some ⟨16, false⟩), (.q (.faddr 0 (.t 4)))⟩, ⟨(some 18), (some ⟨16, false⟩), (.q (.load none (.t 17)))⟩, ⟨(some 19), (some ⟨16, false⟩), (.q (.bin .eql (.t 18) (.c (.int .u8 6))))⟩, ⟨(some 20), none, (.q (.pick (.t 16) (.c (.bool true)) (.t 19)))⟩, ⟨(some 21), none, (.q (.mov (.t 20)))⟩, ⟨(some 22), (some ⟨21, false⟩), (.q (.faddr 0 (.t 4)))⟩, ⟨(some 23), (some ⟨21, false⟩), (.q (.load none (.t 22)))⟩, ⟨(some 24), (some ⟨21, false⟩), (.q (.bin .eql (.t 23) (.c (.int .u8 7))))⟩, ⟨(some 25), none, (.q (.pick (.t 21) (.c (.bool true)) (.t 24)))⟩, ⟨(some 1), none, (.q (.mov (.t 25)))⟩] [1, 2, 3, 4])
   (.seq
    (.seq
     (.reg 4 [⟨(some 26), none, (.q (.faddr 6 (.t 4)))⟩, ⟨(some 27), none, (.q (.load none (.t 26)))⟩, ⟨(some 28), none, (.q (.len 0 (.t 27)))⟩, ⟨(some 29), none, (.q (.mov (.c (.int .i64 0))))⟩] [1, 2, 3, 27, 28, 29])
     (.block 0
      (.loop
       (.seq
        (.reg 5 [⟨(some 30), none, (.q (.bin .lss (.t 29) (.t 28)))⟩] [1, 2, 3, 27, 28, 29, 30])
        (.seq
         (.cond (.t 30)
          .skip
          (.exit 0))
         (.seq
          (.block 1
           (.seq
            (.reg 6 [⟨(some 31), none, (.q (.iaddr 7 (.t 27) (.t 29)))⟩, ⟨(some 32), none, (.q (.load (some 7) (.t 31)))⟩, ⟨(some 9), none, (.alloc [(.int .u8 0), (.str []), (.int .u8 0), (.int .i64 0), (.str []), (.str []), .nilslice])⟩, ⟨none, none, (.store 7 (.t 9) (.t 32))⟩] [1, 2, 3, 9, 27, 28, 29])
            (.seq
            (.reg 7 [⟨(some 33), none, (.q (.load none (.t 3)))⟩, ⟨(some 34), none, (.q (.load (some 7) (.t 9)))⟩, ⟨(some 35), none, (.q (.mov (.t 1)))⟩, ⟨(some 36), none, (.q (.mov (.t 2)))⟩, ⟨(some 37), none, (.callv (.t 33) [(.t 34), (.t 35), (.t 36)])⟩, ⟨(some 38), none, (.q (.not (.t 37)))⟩] [1, 2, 3, 27, 28, 29, 38])
            (.cond (.t 38)
            (.seq
            (.reg 8 [⟨(some 7), none, (.q (.mov (.c (.bool false))))⟩] [7])
            .ret)
            .skip))))
          (.reg 9 [⟨(some 39), none, (.q (.bin .add (.t 29) (.c (.int .i64 1))))⟩, ⟨(some 29), none, (.q (.mov (.t 39)))⟩] [1, 2, 3, 27, 28, 29])))))))
    (.seq
     (.reg 10 [⟨(some 7), none, (.q (.mov (.c (.bool true))))⟩] [7])
     .ret)))))
theorem fok214 : FOK Tryz.prog 214 (40, ic214, [(.t 7)]) := .mk (pf := [1000004]) (an := [(0, [1, 2, 3, 4]), (1, [1, 2, 3, 4, 14]), (2, [7]), (3, [1, 2, 3, 4]), (4, [1, 2, 3, 27, 28, 29]), (5, [1, 2, 3, 27, 28, 29, 30]), (6, [1, 2, 3, 9, 27, 28, 29]), (7, [1, 2, 3, 27, 28, 29, 38]), (8, [7]), (9, [1, 2, 3, 27, 28, 29]), (10, [7])]) (by kernel_rfl) (fnOK_of Tryz.func214 (by kernel_rfl) (by kernel_rfl) (by kernel_rfl))
def ic215 : IC :=
(.reg 0 [⟨(some 4), none, (.q (.load none (.t 1)))⟩, ⟨(some 5), none, (.q (.load (some 7) (.t 2)))⟩, ⟨(some 6), none, (.q (.mov (.t 0)))⟩, ⟨(some 7), none, (.callv (.t 4) [(.t 5), (.c (.bool false)), (.t 6)])⟩] [])
theorem fok215 : FOK Tryz.prog 215 (8, ic215, []) := .mk (pf := []) (an := []) (by kernel_rfl) (fnOK_of Tryz.func215 (by kernel_rfl) (by kernel_rfl) (by kernel_rfl))
def ic223 : IC :=
 (.seq
 (.reg 0 [oK 0 (.alloc [(zI 0), (zI 0), (zI 0), (zI 0), (zI 0), (zI 0), (zI 0), (zI 0), (zI 0), (zI 0), (zI 0), (zI 0), (zI 0), (zI 0), (zI 0), (zI 0), (zI 0), (zI 0), (zI 0), (zI 0), (zI 0), (zI 0), (zI 0), (zI 0), (zI 0)])] [0])
 (.seq
 (.reg 1 [oQ 1 (.bld [(zI 0), (zI 0), (zI 0), (zI 0), (zI 0)] [⟨1, ⟨1, (cI 2)⟩⟩, ⟨2, ⟨1, (cI 1)⟩⟩, ⟨3, ⟨1, (cI 3)⟩⟩]), oQ 2 (.bld [(zI 0), (zI 0), (zI 0), (zI 0), (zI 0)] [⟨1, ⟨1, (cI 2)⟩⟩, ⟨3, ⟨1, (cI 1)⟩⟩]), oQ 3 (.bld [(zI 0), (zI 0), (zI 0), (zI 0), (zI 0)] [⟨1, ⟨1, (cI 2)⟩⟩, ⟨4, ⟨1, (cI 1)⟩⟩]), oQ 4 (.bld [(zI 0), (zI 0), (zI 0), (zI 0), (zI 0), (zI 0), (zI 0), (zI 0), (zI 0), (zI 0), (zI 0), (zI 0), (zI 0), (zI 0), (zI 0), (zI 0), (zI 0), (zI 0), (zI 0), (zI 0), (zI 0), (zI 0), (zI 0), (zI 0), (zI 0)] [⟨10, ⟨5, 1⟩⟩, ⟨15, ⟨5, 2⟩⟩, ⟨20, ⟨5, 3⟩⟩]), oN (.store 25 0 4)] [0])
 .ret))
theorem fok223 : FOK Tryz.prog 223 (5, ic223, [(.cell (some 25) 0)]) := fokA [] Tryz.func223 (by kernel_rfl) (by kernel_rfl) (by kernel_rfl) (by kernel_rfl)
def ic224 : IC :=
 (.seq
 (.reg 0 [oM 2 (cB false)] [0])
 (.seq
 (.reg 1 [oM 3 0, oM 4 0, oQ 5 (.bin .neq 3 4), oM 2 5] [2])
 .ret))
theorem fok224 : FOK Tryz.prog 224 (6, ic224, [(.t 2)]) := fokA [] Tryz.func224 (by kernel_rfl) (by kernel_rfl) (by kernel_rfl) (by kernel_rfl)
def ic225 : IC :=
 (.seq
 (.reg 0 [oM 2 (.c .nilslice)] [0, 2])
 (.seq
 (.reg 1 [oK 3 (.alloc [.nilslice])] [0, 2, 3])
 (.seq
 (.seq
 (.reg 2 [oM 5 0, oK 6 (.call 269 [5])] [2, 3, 6])
 (.block 0
 (.rfunc 6 [7]
 (.reg 3 [oK 4 (.alloc [(zU 0), (.str [])]), oN (.store 2 4 7)] [3, 4])
 (.block 1
 (.reg 4 [oQ 8 (.load none 3), oQ 9 (.load (some 2) 4), oK 10 (.bslt 2 1 [(zU 0), (.str [])] [⟨0, ⟨2, 9⟩⟩]), oK 11 (.app 2 8 10), oN (.store 1 3 11)] [])))))
 (.seq
 (.reg 5 [oQ 12 (.load none 3), oM 2 12] [2])
 .ret))))
theorem fok225 : FOK Tryz.prog 225 (13, ic225, [(.t 2)]) := fokA [1000010] Tryz.func225 (by kernel_rfl) (by kernel_rfl) (by kernel_rfl) (by kernel_rfl)
def ic226 : IC :=
 (.seq
 (.reg 0 [oK 2 (.boxt 0), oK 3 (.boxt 1), oM 4 (cI 0)] [2, 3])
 (.seq
 (.reg 1 [oM 5 (cI 0)] [2, 3, 5])
 (.seq
 (.seq
 (.reg 2 [oQ 6 (.faddr 0 2), oQ 7 (.load none 6), oQ 8 (.bin .eql 7 (.c (zU 5))), oM 9 8, gQ 10 9 true (.faddr 0 3), gQ 11 9 true (.load none 10), gQ 12 9 true (.bin .eql 11 (.c (zU 5))), oQ 13 (.pick 9 12 (cB false))] [2, 3, 5, 13])
 (.cond 13
 (.reg 3 [oQ 14 (.faddr 1 2), oQ 15 (.load none 14), oQ 16 (.len 1 15), oQ 17 (.faddr 1 3), oQ 18 (.load none 17), oQ 19 (.len 1 18), oK 20 (.call 175 [16, 19]), oM 5 20] [2, 3, 5])
 .skip))
 (.seq
 (.oreg 4 [(0, oQ 21 (.faddr 0 2), 0), (1, oQ 22 (.load none 21), 0), (2, oQ 23 (.faddr 0 3), 0), (3, oQ 24 (.load none 23), 0), (5, oM 26 5, 0), (6, oQ 27 (.faddr 1 2), 0), (7, oQ 28 (.load none 27), 0), (8, oQ 29 (.faddr 1 3), 0), (9, oQ 30 (.load none 29), 0), (4, oK 25 (.call 271 [22, 24]), 640), (10, oK 31 (.call 272 [28, 30]), 0), (11, oK 32 (.bslt 1 3 [(zI 0)] [⟨0, ⟨1, 25⟩⟩, ⟨1, ⟨1, 26⟩⟩, ⟨2, ⟨1, 31⟩⟩]), 0), (12, oK 33 (.call 270 [32]), 0), (13, oM 4 33, 0)] [4])
 .ret))))
theorem fok226 : FOK Tryz.prog 226 (34, ic226, [(.t 4)]) := fokA [1000002, 1000003, 1000032] Tryz.func226 (by kernel_rfl) (by kernel_rfl) (by kernel_rfl) (by kernel_rfl)
def ic227 : IC :=
 (.seq
 (.reg 0 [oK 3 (.boxt 1), oM 4 (cI 0)] [0, 3])
 (.seq
 (.seq
 (.reg 1 [oM 6 0, oQ 7 (.len 0 6), oM 8 (cI 0)] [0, 3, 7, 8])
 (.block 0
 (.loop
 (.seq
 (.reg 2 [oQ 9 (.bin .lss 8 7)] [0, 3, 7, 8, 9])
 (.seq
 (.cond 9
 .skip
 (.exit 0))
 (.seq
 (.block 1
 (.seq
 (.reg 3 [oM 10 8, oM 5 10] [0, 3, 5, 7, 8])
 (.seq
 (.dreg 4 [oQ 11 (.load (some 2) 3), oM 12 0, oM 13 5, oQ 14 (.iaddr 2 12 13), oQ 15 (.load (some 2) 14), oQ 16 (.eqs [1, 1] true false 11 15)] false [0, 3, 5, 7, 8, 16])
 (.cond 16
 (.seq
 (.reg 5 [oM 17 5, oM 4 17] [4])
 .ret)
 .skip))))
 (.reg 6 [oQ 18 (.bin .add 8 (cI 1)), oM 8 18] [0, 3, 7, 8])))))))
 (.seq
 (.reg 7 [oM 4 (cI (-1))] [4])
 .ret)))
theorem fok227 : FOK Tryz.prog 227 (19, ic227, [(.t 4)]) := fokA [1000003] Tryz.func227 (by kernel_rfl) (by kernel_rfl) (by kernel_rfl) (by kernel_rfl)
def ic228 : IC :=
 (.seq
 (.reg 0 [oM 3 (cB false)] [0, 1])
 (.seq
 (.reg 1 [oQ 4 (.faddr 1 1), oQ 5 (.load none 4), oM 6 0, oQ 7 (.iaddr 1 5 6), oQ 8 (.load none 7), oM 3 8] [3])
 .ret))
theorem fok228 : FOK Tryz.prog 228 (9, ic228, [(.t 3)]) := fokA [] Tryz.func228 (by kernel_rfl) (by kernel_rfl) (by kernel_rfl) (by kernel_rfl)
def ic229 : IC :=
(.seq
 (.reg 0 [⟨(some 4), none, (.q (.mov (.c (.bool false))))⟩] [0, 1])
 (.seq
  (.reg 1 [⟨(some 5), none, (.q (.mov (.t 0)))⟩, ⟨(some 6), none, (.q (.mov (.t 1)))⟩, ⟨(some 7), none, (.call 273 [(.t 5), (.t 6)])⟩, ⟨(some 8), none, (.q (.bin .geq (.t 7) (.c (.int .i64 0))))⟩, ⟨(some 4), none, (.q (.mov (.t 8)))⟩] [4])
  .ret))
theorem fok229 : FOK Tryz.prog 229 (9, ic229, [(.t 4)]) := .mk (pf := []) (an := [(0, [0, 1]), (1, [4])]) (by kernel_rfl) (fnOK_of Tryz.func229 (by kernel_rfl) (by kernel_rfl) (by kernel_rfl))
def ic230 : IC :=
 (.seq
 (.reg 0 [oK 2 (.boxt 0), oM 3 (cB false)] [1, 2])
 (.seq
 (.reg 1 [oQ 4 (.load (some 2) 1), oQ 5 (.load (some 7) 2), oK 6 (.call 125 [4, 5]), oQ 7 (.not 6), oM 3 7] [3])
 .ret))
theorem fok230 : FOK Tryz.prog 230 (8, ic230, [(.t 3)]) := fokA [1000002] Tryz.func230 (by kernel_rfl) (by kernel_rfl) (by kernel_rfl) (by kernel_rfl)
def ic231 : IC :=
 (.seq
 (.reg 0 [oK 2 (.boxt 0), oM 4 (cB false)] [1, 2])
 (.seq
 (.seq
 (.reg 1 [oQ 7 (.faddr 1 2), oQ 8 (.load none 7), oQ 9 (.len 0 8), oM 10 (cI 0)] [1, 2, 8, 9, 10])
 (.block 0
 (.loop
 (.seq
 (.reg 2 [oQ 11 (.bin .lss 10 9)] [1, 2, 8, 9, 10, 11])
 (.seq
 (.cond 11
 .skip
 (.exit 0))
 (.seq
 (.block 1
 (.seq
 (.reg 3 [oM 12 10, oQ 13 (.iaddr 1 8 10), oQ 14 (.load none 13), oM 5 12, oM 6 14] [1, 2, 5, 6, 8, 9, 10])
 (.seq
 (.reg 4 [oM 15 6, oM 16 15, gQ 17 16 true (.mov 1), gQ 18 16 true (.faddr 0 2), gQ 19 16 true (.load none 18), gQ 20 16 true (.mov 5), gK 21 16 true (.bsl 1 1 [(zI 0)] [⟨0, ⟨1, 20⟩⟩]), gK 22 16 true (.call 124 [19, 21]), gK 23 16 true (.callv 17 [22]), oQ 24 (.pick 16 23 (cB false))] [1, 2, 8, 9, 10, 24])
 (.cond 24
 (.seq
 (.reg 5 [oM 4 (cB true)] [4])
 .ret)
 .skip))))
 (.reg 6 [oQ 25 (.bin .add 10 (cI 1)), oM 10 25] [1, 2, 8, 9, 10])))))))
 (.seq
 (.reg 7 [oM 4 (cB false)] [4])
 .ret)))
theorem fok231 : FOK Tryz.prog 231 (26, ic231, [(.t 4)]) := fokA [1000002] Tryz.func231 (by kernel_rfl) (by kernel_rfl) (by kernel_rfl) (by kernel_rfl)
def ic232 : IC :=
 (.seq
 (.reg 0 [oK 2 (.boxt 0), oM 3 (cB false)] [1, 2])
 (.seq
 (.reg 1 [oQ 4 (.load (some 2) 2), oQ 5 (.load (some 7) 1), oK 6 (.call 182 [4, 5]), oM 3 6] [3])
 .ret))
theorem fok232 : FOK Tryz.prog 232 (7, ic232, [(.t 3)]) := fokA [1000002] Tryz.func232 (by kernel_rfl) (by kernel_rfl) (by kernel_rfl) (by kernel_rfl)
def ic233 : IC :=
 (.seq
 (.reg 0 [oK 2 (.boxt 0), oM 3 (cB false)] [1, 2])
 (.seq
 (.dreg 1 [oQ 4 (.load (some 2) 2), oQ 5 (.faddr 6 1), oQ 6 (.load none 5), oQ 7 (.iaddr 7 6 (cI 0)), oQ 8 (.load (some 7) 7), oK 9 (.call 125 [4, 8]), oM 10 9, gQ 11 10 true (.load (some 2) 2), gQ 12 10 true (.faddr 6 1), gQ 13 10 true (.load none 12), gQ 14 10 true (.iaddr 7 13 (cI 1)), gQ 15 10 true (.load (some 7) 14), gK 16 10 true (.call 125 [11, 15]), gQ 17 10 true (.not 16), oQ 18 (.pick 10 17 (cB false)), oM 3 18] false [3])
 .ret))
theorem fok233 : FOK Tryz.prog 233 (19, ic233, [(.t 3)]) := fokA [1000002] Tryz.func233 (by kernel_rfl) (by kernel_rfl) (by kernel_rfl) (by kernel_rfl)
def ic234 : IC :=
 (.seq
 (.reg 0 [oK 2 (.boxt 0), oK 3 (.boxt 1), oM 4 (cB false)] [2, 3])
 (.seq
 (.seq
 (.reg 1 [oQ 6 (.faddr 1 2), oQ 7 (.load none 6), oQ 8 (.bin .and 7 (.c (zU 7))), oQ 9 (.bin .eql 8 (.c (zU 0))), oM 10 9, gQ 11 10 false (.faddr 1 3), gQ 12 10 false (.load none 11), gQ 13 10 false (.bin .and 12 (.c (zU 7))), gQ 14 10 false (.bin .eql 13 (.c (zU 0))), oQ 15 (.pick 10 (cB true) 14)] [2, 3, 15])
 (.cond 15
 (.seq
 (.reg 2 [oM 4 (cB true)] [4])
 .ret)
 .skip))
 (.seq
 (.reg 3 [oQ 16 (.faddr 2 2), oQ 17 (.load (some 3) 16), oQ 18 (.faddr 2 3), oQ 19 (.load (some 3) 18), oK 20 (.call 118 [17, 19]), oM 5 20] [2, 3, 5])
 (.seq
 (.seq
 (.reg 4 [oM 21 5, oQ 22 (.bin .eql 21 (cI 0))] [2, 3, 5, 22])
 (.cond 22
 (.seq
 (.reg 5 [oQ 23 (.faddr 1 2), oQ 24 (.load none 23), oQ 25 (.faddr 1 3), oQ 26 (.load none 25), oQ 27 (.bin .and 24 26), oQ 28 (.bin .and 27 (.c (zU 7))), oQ 29 (.bin .neq 28 (.c (zU 0))), oM 4 29] [4])
 .ret)
 .skip))
 (.seq
 (.oreg 6 [(0, oQ 30 (.faddr 1 2), 0), (1, oQ 31 (.load none 30), 0), (2, oM 32 5, 0), (3, oQ 33 (.neg 32), 0), (4, oK 34 (.call 274 [33]), 2), (5, oQ 35 (.bin .and 31 34), 0), (6, oQ 36 (.bin .neq 35 (.c (zU 0))), 0), (7, oM 37 36, 0), (8, gQ 38 37 false (.faddr 1 3), 0), (9, gQ 39 37 false (.load none 38), 0), (10, gQ 40 37 false (.mov 5), 0), (11, gK 41 37 false (.call 274 [40]), 512), (12, gQ 42 37 false (.bin .and 39 41), 0), (13, gQ 43 37 false (.bin .neq 42 (.c (zU 0))), 0), (14, oQ 44 (.pick 37 (cB true) 43), 0), (15, oM 4 44, 0)] [4])
 .ret)))))
theorem fok234 : FOK Tryz.prog 234 (45, ic234, [(.t 4)]) := fokA [1000002, 1000003] Tryz.func234 (by kernel_rfl) (by kernel_rfl) (by kernel_rfl) (by kernel_rfl)
def ic235 : IC :=
 (.seq
 (.reg 0 [oK 3 (.boxt 1), oK 4 (.alloc [(.str []), (zU 0), (zI 0), (.str []), (.str [])])] [0, 3, 4])
 (.seq
 (.reg 1 [oM 5 0, oQ 6 (.load (some 3) 3), oQ 7 (.bld [(.str []), (zU 0), (zI 0), (.str []), (.str [])] [⟨0, ⟨1, 5⟩⟩, ⟨1, ⟨1, (.c (zU 2))⟩⟩, ⟨2, ⟨3, 6⟩⟩]), oN (.store 5 4 7)] [4])
 .ret))
theorem fok235 : FOK Tryz.prog 235 (8, ic235, [(.cell (some 5) 4)]) := fokA [1000003] Tryz.func235 (by kernel_rfl) (by kernel_rfl) (by kernel_rfl) (by kernel_rfl)
def ic236 : IC :=
(.seq
 (.reg 0 [⟨(some 4), none, (.q (.mov (.c (.bool false))))⟩] [0, 1])
 (.seq
  (.reg 1 [⟨(some 5), none, (.q (.mov (.t 0)))⟩, ⟨(some 6), none, (.q (.mov (.t 1)))⟩, ⟨(some 7), none, (.call 275 [(.t 5), (.t 6)])⟩, ⟨(some 8), none, (.q (.bin .geq (.t 7) (.c (.int .i64 0))))⟩, ⟨(some 4), none, (.q (.mov (.t 8)))⟩] [4])
  .ret))
theorem fok236 : FOK Tryz.prog 236 (9, ic236, [(.t 4)]) := .mk (pf := []) (an := [(0, [0, 1]), (1, [4])]) (by kernel_rfl) (fnOK_of Tryz.func236 (by kernel_rfl) (by kernel_rfl) (by kernel_rfl))
def ic237 : IC :=
 (.seq
 (.reg 0 [oK 2 (.boxt 0), oM 3 (cB false)] [1, 2])
 (.seq
 (.reg 1 [oQ 4 (.load (some 15) 1), oQ 5 (.load (some 5) 2), oK 6 (.call 131 [4, 5]), oM 3 6] [3])
 .ret))
theorem fok237 : FOK Tryz.prog 237 (7, ic237, [(.t 3)]) := fokA [1000002] Tryz.func237 (by kernel_rfl) (by kernel_rfl) (by kernel_rfl) (by kernel_rfl)
def ic238 : IC :=
 (.seq
 (.reg 0 [oM 8 1, oQ 9 (.bin .add 8 (cI 1)), oM 6 9] [0, 1, 2, 6])
 (.block 0
 (.loop
 (.seq
 (.seq
 (.reg 1 [oM 10 6, oM 11 2, oQ 12 (.bin .lss 10 11)] [0, 1, 2, 6, 12])
 (.cond 12
 .skip
 (.exit 0)))
 (.seq
 (.block 1
 (.seq
 (.reg 3 [oM 15 6, oM 7 15] [0, 1, 2, 6, 7])
 (.block 2
 (.loop
 (.seq
 (.seq
 (.dreg 4 [oM 16 7, oM 17 1, oQ 18 (.bin .gtr 16 17), oM 19 18, gQ 20 19 true (.mov 0), gQ 21 19 true (.mov 7), gQ 22 19 true (.iaddr 1 20 21), gQ 23 19 true (.load none 22), gQ 24 19 true (.mov 0), gQ 25 19 true (.mov 7), gQ 26 19 true (.bin .sub 25 (cI 1)), gQ 27 19 true (.iaddr 1 24 26), gQ 28 19 true (.load none 27), gK 29 19 true (.call 244 [23, 28]), oQ 30 (.pick 19 29 (cB false))] false [0, 1, 2, 6, 7, 30])
 (.cond 30
 .skip
 (.exit 2)))
 (.seq
 (.block 3
 (.dreg 6 [oM 33 0, oM 34 7, oM 35 0, oM 36 7, oQ 37 (.bin .sub 36 (cI 1)), oM 38 0, oM 39 7, oQ 40 (.bin .sub 39 (cI 1)), oQ 41 (.iaddr 1 38 40), oQ 42 (.load none 41), oM 43 0, oM 44 7, oQ 45 (.iaddr 1 43 44), oQ 46 (.load none 45), oQ 47 (.iaddr 1 33 34), oN (.store 1 47 42), oQ 48 (.iaddr 1 35 37), oN (.store 1 48 46)] false [0, 1, 2, 6, 7]))
 (.reg 5 [oM 31 7, oQ 32 (.bin .sub 31 (cI 1)), oM 7 32] [0, 1, 2, 6, 7])))))))
 (.reg 2 [oM 13 6, oQ 14 (.bin .add 13 (cI 1)), oM 6 14] [0, 1, 2, 6]))))))
theorem fok238 : FOK Tryz.prog 238 (49, ic238, []) := fokA [] Tryz.func238 (by kernel_rfl) (by kernel_rfl) (by kernel_rfl) (by kernel_rfl)
def ic239 : IC :=
 (.seq
 (.reg 0 [oM 11 1, oM 6 11] [0, 1, 2, 6])
 (.seq
 (.reg 1 [oM 7 (cI 0)] [0, 1, 2, 6, 7])
 (.seq
 (.reg 2 [oM 12 2, oM 13 1, oQ 14 (.bin .sub 12 13), oM 8 14] [0, 6, 7, 8])
 (.seq
 (.seq
 (.reg 3 [oM 15 8, oQ 16 (.bin .sub 15 (cI 1)), oQ 17 (.bin .quo 16 (cI 2)), oM 9 17] [0, 6, 7, 8, 9])
 (.block 0
 (.loop
 (.seq
 (.seq
 (.reg 4 [oM 18 9, oQ 19 (.bin .geq 18 (cI 0))] [0, 6, 7, 8, 9, 19])
 (.cond 19
 .skip
 (.exit 0)))
 (.seq
 (.block 1
 (.reg 6 [oM 22 0, oM 23 9, oM 24 8, oM 25 6, oK 26 (.call 276 [22, 23, 24, 25])] [0, 6, 7, 8, 9]))
 (.reg 5 [oM 20 9, oQ 21 (.bin .sub 20 (cI 1)), oM 9 21] [0, 6, 7, 8, 9]))))))
 (.seq
 (.reg 7 [oM 27 8, oQ 28 (.bin .sub 27 (cI 1)), oM 10 28] [0, 6, 7, 10])
 (.block 2
 (.loop
 (.seq
 (.seq
 (.reg 8 [oM 29 10, oQ 30 (.bin .geq 29 (cI 0))] [0, 6, 7, 10, 30])
 (.cond 30
 .skip
 (.exit 2)))
 (.seq
 (.block 3
 (.seq
 (.dreg 10 [oM 33 0, oM 34 6, oM 35 0, oM 36 6, oM 37 10, oQ 38 (.bin .add 36 37), oM 39 0, oM 40 6, oM 41 10, oQ 42 (.bin .add 40 41), oQ 43 (.iaddr 1 39 42), oQ 44 (.load none 43), oM 45 0, oM 46 6, oQ 47 (.iaddr 1 45 46), oQ 48 (.load none 47), oQ 49 (.iaddr 1 33 34), oN (.store 1 49 44), oQ 50 (.iaddr 1 35 38), oN (.store 1 50 48)] false [0, 6, 7, 10])
 (.reg 11 [oM 51 0, oM 52 7, oM 53 10, oM 54 6, oK 55 (.call 276 [51, 52, 53, 54])] [0, 6, 7, 10])))
 (.reg 9 [oM 31 10, oQ 32 (.bin .sub 31 (cI 1)), oM 10 32] [0, 6, 7, 10]))))))))))
theorem fok239 : FOK Tryz.prog 239 (56, ic239, []) := fokA [] Tryz.func239 (by kernel_rfl) (by kernel_rfl) (by kernel_rfl) (by kernel_rfl)
def ic240 : IC :=
 (.seq
 (.reg 0 [oM 11 2, oM 12 1, oQ 13 (.bin .sub 11 12), oM 6 13] [0, 1, 6])
 (.seq
 (.reg 1 [oM 14 6, oQ 15 (.bin .geq 14 (cI 8))] [0, 1, 6, 15])
 (.cond 15
 (.seq
 (.reg 2 [oM 16 6, oQ 17 (.conv .u64 16), oK 7 (.alloc [(.int .u64 0)]), oN (.store 1 7 17)] [0, 1, 6, 7])
 (.seq
 (.reg 3 [oM 18 6, oK 19 (.call 277 [18]), oM 8 19] [0, 1, 6, 7, 8])
 (.seq
 (.reg 4 [oM 20 1, oM 21 6, oQ 22 (.bin .quo 21 (cI 4)), oQ 23 (.bin .mul 22 (cI 2)), oQ 24 (.bin .add 20 23), oQ 25 (.bin .sub 24 (cI 1)), oM 9 25] [0, 1, 6, 7, 8, 9])
 (.block 0
 (.loop
 (.seq
 (.seq
 (.reg 5 [oM 26 9, oM 27 1, oM 28 6, oQ 29 (.bin .quo 28 (cI 4)), oQ 30 (.bin .mul 29 (cI 2)), oQ 31 (.bin .add 27 30), oQ 32 (.bin .add 31 (cI 1)), oQ 33 (.bin .leq 26 32)] [0, 1, 6, 7, 8, 9, 33])
 (.cond 33
 .skip
 (.exit 0)))
 (.seq
 (.block 1
 (.seq
 (.reg 7 [oK 36 (.call 278 [7]), oM 37 8, oQ 38 (.bin .sub 37 (.c (.int .u64 1))), oQ 39 (.bin .and 36 38), oQ 40 (.conv .i64 39), oM 10 40] [0, 1, 6, 7, 8, 9, 10])
 (.seq
 (.seq
 (.reg 8 [oM 41 10, oM 42 6, oQ 43 (.bin .geq 41 42)] [0, 1, 6, 7, 8, 9, 10, 43])
 (.cond 43
 (.reg 9 [oM 44 10, oM 45 6, oQ 46 (.bin .sub 44 45), oM 10 46] [0, 1, 6, 7, 8, 9, 10])
 .skip))
 (.dreg 10 [oM 47 0, oM 48 9, oM 49 0, oM 50 1, oM 51 10, oQ 52 (.bin .add 50 51), oM 53 0, oM 54 1, oM 55 10, oQ 56 (.bin .add 54 55), oQ 57 (.iaddr 1 53 56), oQ 58 (.load none 57), oM 59 0, oM 60 9, oQ 61 (.iaddr 1 59 60), oQ 62 (.load none 61), oQ 63 (.iaddr 1 47 48), oN (.store 1 63 58), oQ 64 (.iaddr 1 49 52), oN (.store 1 64 62)] false [0, 1, 6, 7, 8, 9]))))
 (.reg 6 [oM 34 9, oQ 35 (.bin .add 34 (cI 1)), oM 9 35] [0, 1, 6, 7, 8, 9]))))))))
 .skip)))
theorem fok240 : FOK Tryz.prog 240 (65, ic240, []) := fokA [] Tryz.func240 (by kernel_rfl) (by kernel_rfl) (by kernel_rfl) (by kernel_rfl)
def ic241 : IC :=
 (.seq
 (.reg 0 [oM 6 (cI 0), oM 7 (cI 0)] [0, 1, 2])
 (.seq
 (.reg 1 [oM 13 2, oM 14 1, oQ 15 (.bin .sub 13 14), oM 8 15] [0, 1, 8])
 (.seq
 (.reg 2 [oK 9 (.alloc [(zI 0)])] [0, 1, 8, 9])
 (.seq
 (.reg 3 [oM 16 1, oM 17 8, oQ 18 (.bin .quo 17 (cI 4)), oQ 19 (.bin .mul 18 (cI 1)), oQ 20 (.bin .add 16 19), oM 10 20] [0, 1, 8, 9, 10])
 (.seq
 (.reg 4 [oM 21 1, oM 22 8, oQ 23 (.bin .quo 22 (cI 4)), oQ 24 (.bin .mul 23 (cI 2)), oQ 25 (.bin .add 21 24), oM 11 25] [0, 1, 8, 9, 10, 11])
 (.seq
 (.reg 5 [oM 26 1, oM 27 8, oQ 28 (.bin .quo 27 (cI 4)), oQ 29 (.bin .mul 28 (cI 3)), oQ 30 (.bin .add 26 29), oM 12 30] [0, 8, 9, 10, 11, 12])
 (.seq
 (.seq
 (.reg 6 [oM 31 8, oQ 32 (.bin .geq 31 (cI 8))] [0, 8, 9, 10, 11, 12, 32])
 (.cond 32
 (.seq
 (.seq
 (.reg 7 [oM 33 8, oQ 34 (.bin .geq 33 (cI 50))] [0, 9, 10, 11, 12, 34])
 (.cond 34
 (.seq
 (.reg 8 [oM 35 0, oM 36 10, oK 37 (.call 279 [35, 36, 9]), oM 10 37] [0, 9, 10, 11, 12])
 (.seq
 (.reg 9 [oM 38 0, oM 39 11, oK 40 (.call 279 [38, 39, 9]), oM 11 40] [0, 9, 10, 11, 12])
 (.reg 10 [oM 41 0, oM 42 12, oK 43 (.call 279 [41, 42, 9]), oM 12 43] [0, 9, 10, 11, 12])))
 .skip))
 (.reg 11 [oM 44 0, oM 45 10, oM 46 11, oM 47 12, oK 48 (.call 280 [44, 45, 46, 47, 9]), oM 11 48] [9, 11]))
 .skip))
 (.seq
 (.reg 12 [oQ 49 (.load none 9)] [11, 49])
 (.block 0
 (.seq
 (.reg 14 [oQ 52 (.bin .eql 49 (cI 0)), oM 51 52] [11, 49, 51])
 (.cond 51
 (.seq
 (.reg 15 [oM 53 11, oM 6 53, oM 7 (cI 1)] [6, 7])
 .ret)
 (.seq
 (.reg 16 [oQ 55 (.bin .eql 49 (cI 12)), oM 54 55] [11, 54])
 (.cond 54
 (.seq
 (.reg 17 [oM 56 11, oM 6 56, oM 7 (cI 2)] [6, 7])
 .ret)
 (.seq
 (.reg 13 [oM 50 11, oM 6 50, oM 7 (cI 0)] [6, 7])
 .ret))))))))))))))
theorem fok241 : FOK Tryz.prog 241 (57, ic241, [(.t 6), (.t 7)]) := fokA [] Tryz.func241 (by kernel_rfl) (by kernel_rfl) (by kernel_rfl) (by kernel_rfl)
def ic242 : IC :=
 (.seq
 (.reg 0 [oM 8 1, oM 6 8] [0, 2, 6])
 (.seq
 (.reg 1 [oM 9 2, oQ 10 (.bin .sub 9 (cI 1)), oM 7 10] [0, 6, 7])
 (.block 0
 (.loop
 (.seq
 (.seq
 (.reg 2 [oM 11 6, oM 12 7, oQ 13 (.bin .lss 11 12)] [0, 6, 7, 13])
 (.cond 13
 .skip
 (.exit 0)))
 (.block 1
 (.seq
 (.dreg 3 [oM 14 0, oM 15 6, oM 16 0, oM 17 7, oM 18 0, oM 19 7, oQ 20 (.iaddr 1 18 19), oQ 21 (.load none 20), oM 22 0, oM 23 6, oQ 24 (.iaddr 1 22 23), oQ 25 (.load none 24), oQ 26 (.iaddr 1 14 15), oN (.store 1 26 21), oQ 27 (.iaddr 1 16 17), oN (.store 1 27 25)] false [0, 6, 7])
 (.seq
 (.reg 4 [oM 28 6, oQ 29 (.bin .add 28 (cI 1)), oM 6 29] [0, 6, 7])
 (.reg 5 [oM 30 7, oQ 31 (.bin .sub 30 (cI 1)), oM 7 31] [0, 6, 7])))))))))
theorem fok242 : FOK Tryz.prog 242 (32, ic242, []) := fokA [] Tryz.func242 (by kernel_rfl) (by kernel_rfl) (by kernel_rfl) (by kernel_rfl)
def ic243 : IC :=
 (.seq
 (.reg 0 [oM 6 (cB false)] [0, 1, 2])
 (.seq
 (.reg 1 [oM 11 1, oQ 12 (.bin .add 11 (cI 1)), oM 7 12] [0, 1, 2, 7])
 (.seq
 (.seq
 (.reg 2 [oM 8 (cI 0)] [0, 1, 2, 7, 8])
 (.block 0
 (.loop
 (.seq
 (.seq
 (.reg 3 [oM 13 8, oQ 14 (.bin .lss 13 (cI 5))] [0, 1, 2, 7, 8, 14])
 (.cond 14
 .skip
 (.exit 0)))
 (.seq
 (.block 1
 (.seq
 (.block 2
 (.loop
 (.seq
 (.seq
 (.dreg 5 [oM 17 7, oM 18 2, oQ 19 (.bin .lss 17 18), oM 20 19, gQ 21 20 true (.mov 0), gQ 22 20 true (.mov 7), gQ 23 20 true (.iaddr 1 21 22), gQ 24 20 true (.load none 23), gQ 25 20 true (.mov 0), gQ 26 20 true (.mov 7), gQ 27 20 true (.bin .sub 26 (cI 1)), gQ 28 20 true (.iaddr 1 25 27), gQ 29 20 true (.load none 28), gK 30 20 true (.call 244 [24, 29]), gQ 31 20 true (.not 30), oQ 32 (.pick 20 31 (cB false))] false [0, 1, 2, 7, 8, 32])
 (.cond 32
 .skip
 (.exit 2)))
 (.block 3
 (.reg 6 [oM 33 7, oQ 34 (.bin .add 33 (cI 1)), oM 7 34] [0, 1, 2, 7, 8])))))
 (.seq
 (.seq
 (.reg 7 [oM 35 7, oM 36 2, oQ 37 (.bin .eql 35 36)] [0, 1, 2, 7, 8, 37])
 (.cond 37
 (.seq
 (.reg 8 [oM 6 (cB true)] [6])
 .ret)
 .skip))
 (.seq
 (.seq
 (.reg 9 [oM 38 2, oM 39 1, oQ 40 (.bin .sub 38 39), oQ 41 (.bin .lss 40 (cI 50))] [0, 1, 2, 7, 8, 41])
 (.cond 41
 (.seq
 (.reg 10 [oM 6 (cB false)] [6])
 .ret)
 .skip))
 (.seq
 (.dreg 11 [oM 42 0, oM 43 7, oM 44 0, oM 45 7, oQ 46 (.bin .sub 45 (cI 1)), oM 47 0, oM 48 7, oQ 49 (.bin .sub 48 (cI 1)), oQ 50 (.iaddr 1 47 49), oQ 51 (.load none 50), oM 52 0, oM 53 7, oQ 54 (.iaddr 1 52 53), oQ 55 (.load none 54), oQ 56 (.iaddr 1 42 43), oN (.store 1 56 51), oQ 57 (.iaddr 1 44 46), oN (.store 1 57 55)] false [0, 1, 2, 7, 8])
 (.seq
 (.seq
 (.reg 12 [oM 58 7, oM 59 1, oQ 60 (.bin .sub 58 59), oQ 61 (.bin .geq 60 (cI 2))] [0, 1, 2, 7, 8, 61])
 (.cond 61
 (.seq
 (.reg 13 [oM 62 7, oQ 63 (.bin .sub 62 (cI 1)), oM 9 63] [0, 1, 2, 7, 8, 9])
 (.block 4
 (.loop
 (.seq
 (.seq
 (.reg 14 [oM 64 9, oQ 65 (.bin .geq 64 (cI 1))] [0, 1, 2, 7, 8, 9, 65])
 (.cond 65
 .skip
 (.exit 4)))
 (.seq
 (.block 5
 (.seq
 (.seq
 (.dreg 16 [oM 68 0, oM 69 9, oQ 70 (.iaddr 1 68 69), oQ 71 (.load none 70), oM 72 0, oM 73 9, oQ 74 (.bin .sub 73 (cI 1)), oQ 75 (.iaddr 1 72 74), oQ 76 (.load none 75), oK 77 (.call 244 [71, 76]), oQ 78 (.not 77)] false [0, 1, 2, 7, 8, 9, 78])
 (.cond 78
 (.exit 4)
 .skip))
 (.dreg 17 [oM 79 0, oM 80 9, oM 81 0, oM 82 9, oQ 83 (.bin .sub 82 (cI 1)), oM 84 0, oM 85 9, oQ 86 (.bin .sub 85 (cI 1)), oQ 87 (.iaddr 1 84 86), oQ 88 (.load none 87), oM 89 0, oM 90 9, oQ 91 (.iaddr 1 89 90), oQ 92 (.load none 91), oQ 93 (.iaddr 1 79 80), oN (.store 1 93 88), oQ 94 (.iaddr 1 81 83), oN (.store 1 94 92)] false [0, 1, 2, 7, 8, 9])))
 (.reg 15 [oM 66 9, oQ 67 (.bin .sub 66 (cI 1)), oM 9 67] [0, 1, 2, 7, 8, 9]))))))
 .skip))
 (.seq
 (.reg 18 [oM 95 2, oM 96 7, oQ 97 (.bin .sub 95 96), oQ 98 (.bin .geq 97 (cI 2))] [0, 1, 2, 7, 8, 98])
 (.cond 98
 (.seq
 (.reg 19 [oM 99 7, oQ 100 (.bin .add 99 (cI 1)), oM 10 100] [0, 1, 2, 7, 8, 10])
 (.block 6
 (.loop
 (.seq
 (.seq
 (.reg 20 [oM 101 10, oM 102 2, oQ 103 (.bin .lss 101 102)] [0, 1, 2, 7, 8, 10, 103])
 (.cond 103
 .skip
 (.exit 6)))
 (.seq
 (.block 7
 (.seq
 (.seq
 (.dreg 22 [oM 106 0, oM 107 10, oQ 108 (.iaddr 1 106 107), oQ 109 (.load none 108), oM 110 0, oM 111 10, oQ 112 (.bin .sub 111 (cI 1)), oQ 113 (.iaddr 1 110 112), oQ 114 (.load none 113), oK 115 (.call 244 [109, 114]), oQ 116 (.not 115)] false [0, 1, 2, 7, 8, 10, 116])
 (.cond 116
 (.exit 6)
 .skip))
 (.dreg 23 [oM 117 0, oM 118 10, oM 119 0, oM 120 10, oQ 121 (.bin .sub 120 (cI 1)), oM 122 0, oM 123 10, oQ 124 (.bin .sub 123 (cI 1)), oQ 125 (.iaddr 1 122 124), oQ 126 (.load none 125), oM 127 0, oM 128 10, oQ 129 (.iaddr 1 127 128), oQ 130 (.load none 129), oQ 131 (.iaddr 1 117 118), oN (.store 1 131 126), oQ 132 (.iaddr 1 119 121), oN (.store 1 132 130)] false [0, 1, 2, 7, 8, 10])))
 (.reg 21 [oM 104 10, oQ 105 (.bin .add 104 (cI 1)), oM 10 105] [0, 1, 2, 7, 8, 10]))))))
 .skip))))))))
 (.reg 4 [oM 15 8, oQ 16 (.bin .add 15 (cI 1)), oM 8 16] [0, 1, 2, 7, 8]))))))
 (.seq
 (.reg 24 [oM 6 (cB false)] [6])
 .ret))))
theorem fok243 : FOK Tryz.prog 243 (133, ic243, [(.t 6)]) := fokA [] Tryz.func243 (by kernel_rfl) (by kernel_rfl) (by kernel_rfl) (by kernel_rfl)
def ic244 : IC :=
 (.seq
 (.reg 0 [oM 4 (cB false)] [0, 1])
 (.seq
 (.reg 1 [oM 5 0, oK 6 (.call 224 [5]), oM 7 6, gQ 8 7 true (.mov 1), gK 9 7 true (.call 224 [8]), gQ 10 7 true (.not 9), oQ 11 (.pick 7 10 (cB false)), oM 12 11, gQ 13 12 false (.mov 0), gQ 14 12 false (.mov 1), gQ 15 12 false (.bin .lss 13 14), oQ 16 (.pick 12 (cB true) 15), oM 4 16] [4])
 .ret))
theorem fok244 : FOK Tryz.prog 244 (17, ic244, [(.t 4)]) := fokA [] Tryz.func244 (by kernel_rfl) (by kernel_rfl) (by kernel_rfl) (by kernel_rfl)
def ic245 : IC :=
 (.seq
 (.reg 0 [oM 8 (cI 0)] [0, 1, 2, 3])
 (.seq
 (.dreg 1 [oM 11 0, oM 12 1, oM 13 0, oM 14 3, oM 15 0, oM 16 3, oQ 17 (.iaddr 1 15 16), oQ 18 (.load none 17), oM 19 0, oM 20 1, oQ 21 (.iaddr 1 19 20), oQ 22 (.load none 21), oQ 23 (.iaddr 1 11 12), oN (.store 1 23 18), oQ 24 (.iaddr 1 13 14), oN (.store 1 24 22)] false [0, 1, 2])
 (.seq
 (.reg 2 [oM 25 1, oQ 26 (.bin .add 25 (cI 1)), oM 27 2, oQ 28 (.bin .sub 27 (cI 1)), oM 9 26, oM 10 28] [0, 1, 9, 10])
 (.seq
 (.block 0
 (.loop
 (.block 1
 (.seq
 (.block 2
 (.loop
 (.seq
 (.seq
 (.dreg 3 [oM 29 9, oM 30 10, oQ 31 (.bin .leq 29 30), oM 32 31, gQ 33 32 true (.mov 0), gQ 34 32 true (.mov 1), gQ 35 32 true (.iaddr 1 33 34), gQ 36 32 true (.load none 35), gQ 37 32 true (.mov 0), gQ 38 32 true (.mov 9), gQ 39 32 true (.iaddr 1 37 38), gQ 40 32 true (.load none 39), gK 41 32 true (.call 244 [36, 40]), gQ 42 32 true (.not 41), oQ 43 (.pick 32 42 (cB false))] false [0, 1, 9, 10, 43])
 (.cond 43
 .skip
 (.exit 2)))
 (.block 3
 (.reg 4 [oM 44 9, oQ 45 (.bin .add 44 (cI 1)), oM 9 45] [0, 1, 9, 10])))))
 (.seq
 (.block 4
 (.loop
 (.seq
 (.seq
 (.dreg 5 [oM 46 9, oM 47 10, oQ 48 (.bin .leq 46 47), oM 49 48, gQ 50 49 true (.mov 0), gQ 51 49 true (.mov 1), gQ 52 49 true (.iaddr 1 50 51), gQ 53 49 true (.load none 52), gQ 54 49 true (.mov 0), gQ 55 49 true (.mov 10), gQ 56 49 true (.iaddr 1 54 55), gQ 57 49 true (.load none 56), gK 58 49 true (.call 244 [53, 57]), oQ 59 (.pick 49 58 (cB false))] false [0, 1, 9, 10, 59])
 (.cond 59
 .skip
 (.exit 4)))
 (.block 5
 (.reg 6 [oM 60 10, oQ 61 (.bin .sub 60 (cI 1)), oM 10 61] [0, 1, 9, 10])))))
 (.seq
 (.seq
 (.reg 7 [oM 62 9, oM 63 10, oQ 64 (.bin .gtr 62 63)] [0, 1, 9, 10, 64])
 (.cond 64
 (.exit 0)
 .skip))
 (.seq
 (.dreg 8 [oM 65 0, oM 66 9, oM 67 0, oM 68 10, oM 69 0, oM 70 10, oQ 71 (.iaddr 1 69 70), oQ 72 (.load none 71), oM 73 0, oM 74 9, oQ 75 (.iaddr 1 73 74), oQ 76 (.load none 75), oQ 77 (.iaddr 1 65 66), oN (.store 1 77 72), oQ 78 (.iaddr 1 67 68), oN (.store 1 78 76)] false [0, 1, 9, 10])
 (.seq
 (.reg 9 [oM 79 9, oQ 80 (.bin .add 79 (cI 1)), oM 9 80] [0, 1, 9, 10])
 (.reg 10 [oM 81 10, oQ 82 (.bin .sub 81 (cI 1)), oM 10 82] [0, 1, 9, 10])))))))))
 (.seq
 (.reg 11 [oM 83 9, oM 8 83] [8])
 .ret)))))
theorem fok245 : FOK Tryz.prog 245 (84, ic245, [(.t 8)]) := fokA [] Tryz.func245 (by kernel_rfl) (by kernel_rfl) (by kernel_rfl) (by kernel_rfl)
def ic246 : IC :=
 (.seq
 (.reg 0 [oM 8 (cI 0), oM 9 (cB false)] [0, 1, 2, 3])
 (.seq
 (.dreg 1 [oM 12 0, oM 13 1, oM 14 0, oM 15 3, oM 16 0, oM 17 3, oQ 18 (.iaddr 1 16 17), oQ 19 (.load none 18), oM 20 0, oM 21 1, oQ 22 (.iaddr 1 20 21), oQ 23 (.load none 22), oQ 24 (.iaddr 1 12 13), oN (.store 1 24 19), oQ 25 (.iaddr 1 14 15), oN (.store 1 25 23)] false [0, 1, 2])
 (.seq
 (.reg 2 [oM 26 1, oQ 27 (.bin .add 26 (cI 1)), oM 28 2, oQ 29 (.bin .sub 28 (cI 1)), oM 10 27, oM 11 29] [0, 1, 10, 11])
 (.seq
 (.block 0
 (.loop
 (.seq
 (.seq
 (.dreg 3 [oM 30 10, oM 31 11, oQ 32 (.bin .leq 30 31), oM 33 32, gQ 34 33 true (.mov 0), gQ 35 33 true (.mov 10), gQ 36 33 true (.iaddr 1 34 35), gQ 37 33 true (.load none 36), gQ 38 33 true (.mov 0), gQ 39 33 true (.mov 1), gQ 40 33 true (.iaddr 1 38 39), gQ 41 33 true (.load none 40), gK 42 33 true (.call 244 [37, 41]), oQ 43 (.pick 33 42 (cB false))] false [0, 1, 10, 11, 43])
 (.cond 43
 .skip
 (.exit 0)))
 (.block 1
 (.reg 4 [oM 44 10, oQ 45 (.bin .add 44 (cI 1)), oM 10 45] [0, 1, 10, 11])))))
 (.seq
 (.block 2
 (.loop
 (.seq
 (.seq
 (.dreg 5 [oM 46 10, oM 47 11, oQ 48 (.bin .leq 46 47), oM 49 48, gQ 50 49 true (.mov 0), gQ 51 49 true (.mov 11), gQ 52 49 true (.iaddr 1 50 51), gQ 53 49 true (.load none 52), gQ 54 49 true (.mov 0), gQ 55 49 true (.mov 1), gQ 56 49 true (.iaddr 1 54 55), gQ 57 49 true (.load none 56), gK 58 49 true (.call 244 [53, 57]), gQ 59 49 true (.not 58), oQ 60 (.pick 49 59 (cB false))] false [0, 1, 10, 11, 60])
 (.cond 60
 .skip
 (.exit 2)))
 (.block 3
 (.reg 6 [oM 61 11, oQ 62 (.bin .sub 61 (cI 1)), oM 11 62] [0, 1, 10, 11])))))
 (.seq
 (.seq
 (.reg 7 [oM 63 10, oM 64 11, oQ 65 (.bin .gtr 63 64)] [0, 1, 10, 11, 65])
 (.cond 65
 (.seq
 (.dreg 8 [oM 66 0, oM 67 11, oM 68 0, oM 69 1, oM 70 0, oM 71 1, oQ 72 (.iaddr 1 70 71), oQ 73 (.load none 72), oM 74 0, oM 75 11, oQ 76 (.iaddr 1 74 75), oQ 77 (.load none 76), oQ 78 (.iaddr 1 66 67), oN (.store 1 78 73), oQ 79 (.iaddr 1 68 69), oN (.store 1 79 77)] false [11])
 (.seq
 (.reg 9 [oM 80 11, oM 8 80, oM 9 (cB true)] [8, 9])
 .ret))
 .skip))
 (.seq
 (.dreg 10 [oM 81 0, oM 82 10, oM 83 0, oM 84 11, oM 85 0, oM 86 11, oQ 87 (.iaddr 1 85 86), oQ 88 (.load none 87), oM 89 0, oM 90 10, oQ 91 (.iaddr 1 89 90), oQ 92 (.load none 91), oQ 93 (.iaddr 1 81 82), oN (.store 1 93 88), oQ 94 (.iaddr 1 83 84), oN (.store 1 94 92)] false [0, 1, 10, 11])
 (.seq
 (.reg 11 [oM 95 10, oQ 96 (.bin .add 95 (cI 1)), oM 10 96] [0, 1, 10, 11])
 (.seq
 (.reg 12 [oM 97 11, oQ 98 (.bin .sub 97 (cI 1)), oM 11 98] [0, 1, 10, 11])
 (.seq
 (.block 4
 (.loop
 (.block 5
 (.seq
 (.block 6
 (.loop
 (.seq
 (.seq
 (.dreg 13 [oM 99 10, oM 100 11, oQ 101 (.bin .leq 99 100), oM 102 101, gQ 103 102 true (.mov 0), gQ 104 102 true (.mov 10), gQ 105 102 true (.iaddr 1 103 104), gQ 106 102 true (.load none 105), gQ 107 102 true (.mov 0), gQ 108 102 true (.mov 1), gQ 109 102 true (.iaddr 1 107 108), gQ 110 102 true (.load none 109), gK 111 102 true (.call 244 [106, 110]), oQ 112 (.pick 102 111 (cB false))] false [0, 1, 10, 11, 112])
 (.cond 112
 .skip
 (.exit 6)))
 (.block 7
 (.reg 14 [oM 113 10, oQ 114 (.bin .add 113 (cI 1)), oM 10 114] [0, 1, 10, 11])))))
 (.seq
 (.block 8
 (.loop
 (.seq
 (.seq
 (.dreg 15 [oM 115 10, oM 116 11, oQ 117 (.bin .leq 115 116), oM 118 117, gQ 119 118 true (.mov 0), gQ 120 118 true (.mov 11), gQ 121 118 true (.iaddr 1 119 120), gQ 122 118 true (.load none 121), gQ 123 118 true (.mov 0), gQ 124 118 true (.mov 1), gQ 125 118 true (.iaddr 1 123 124), gQ 126 118 true (.load none 125), gK 127 118 true (.call 244 [122, 126]), gQ 128 118 true (.not 127), oQ 129 (.pick 118 128 (cB false))] false [0, 1, 10, 11, 129])
 (.cond 129
 .skip
 (.exit 8)))
 (.block 9
 (.reg 16 [oM 130 11, oQ 131 (.bin .sub 130 (cI 1)), oM 11 131] [0, 1, 10, 11])))))
 (.seq
 (.seq
 (.reg 17 [oM 132 10, oM 133 11, oQ 134 (.bin .gtr 132 133)] [0, 1, 10, 11, 134])
 (.cond 134
 (.exit 4)
 .skip))
 (.seq
 (.dreg 18 [oM 135 0, oM 136 10, oM 137 0, oM 138 11, oM 139 0, oM 140 11, oQ 141 (.iaddr 1 139 140), oQ 142 (.load none 141), oM 143 0, oM 144 10, oQ 145 (.iaddr 1 143 144), oQ 146 (.load none 145), oQ 147 (.iaddr 1 135 136), oN (.store 1 147 142), oQ 148 (.iaddr 1 137 138), oN (.store 1 148 146)] false [0, 1, 10, 11])
 (.seq
 (.reg 19 [oM 149 10, oQ 150 (.bin .add 149 (cI 1)), oM 10 150] [0, 1, 10, 11])
 (.reg 20 [oM 151 11, oQ 152 (.bin .sub 151 (cI 1)), oM 11 152] [0, 1, 10, 11])))))))))
 (.seq
 (.dreg 21 [oM 153 0, oM 154 11, oM 155 0, oM 156 1, oM 157 0, oM 158 1, oQ 159 (.iaddr 1 157 158), oQ 160 (.load none 159), oM 161 0, oM 162 11, oQ 163 (.iaddr 1 161 162), oQ 164 (.load none 163), oQ 165 (.iaddr 1 153 154), oN (.store 1 165 160), oQ 166 (.iaddr 1 155 156), oN (.store 1 166 164)] false [11])
 (.seq
 (.reg 22 [oM 167 11, oM 8 167, oM 9 (cB false)] [8, 9])
 .ret))))))))))))
theorem fok246 : FOK Tryz.prog 246 (168, ic246, [(.t 8), (.t 9)]) := fokA [] Tryz.func246 (by kernel_rfl) (by kernel_rfl) (by kernel_rfl) (by kernel_rfl)
def ic247 : IC :=
 (.seq
 (.reg 0 [oM 2 (cI 0)] [0, 2])
 (.seq
 (.seq
 (.reg 1 [oM 3 0, oQ 4 (.bin .geq 3 (.c (.int .u32 65536)))] [0, 2, 4])
 (.cond 4
 (.seq
 (.reg 2 [oM 5 0, oQ 6 (.bin .shr 5 (.c (.int .u64 16))), oM 0 6] [0])
 (.reg 3 [oM 2 (cI 16)] [0, 2]))
 .skip))
 (.seq
 (.seq
 (.reg 4 [oM 7 0, oQ 8 (.bin .geq 7 (.c (.int .u32 256)))] [0, 2, 8])
 (.cond 8
 (.seq
 (.reg 5 [oM 9 0, oQ 10 (.bin .shr 9 (.c (.int .u64 8))), oM 0 10] [0, 2])
 (.reg 6 [oM 11 2, oQ 12 (.bin .add 11 (cI 8)), oM 2 12] [0, 2]))
 .skip))
 (.seq
 (.reg 7 [oM 13 2, oM 14 0, oQ 15 (.conv .u8 14), oQ 16 (.istr (.c (.str [0, 1, 2, 2, 3, 3, 3, 3, 4, 4, 4, 4, 4, 4, 4, 4, 5, 5, 5, 5, 5, 5, 5, 5, 5, 5, 5, 5, 5, 5, 5, 5, 6, 6, 6, 6, 6, 6, 6, 6, 6, 6, 6, 6, 6, 6, 6, 6, 6, 6, 6, 6, 6, 6, 6, 6, 6, 6, 6, 6, 6, 6, 6, 6, 7, 7, 7, 7, 7, 7, 7, 7, 7, 7, 7, 7, 7, 7, 7, 7, 7, 7, 7, 7, 7, 7, 7, 7, 7, 7, 7, 7, 7, 7, 7, 7, 7, 7, 7, 7, 7, 7, 7, 7, 7, 7, 7, 7, 7, 7, 7, 7, 7, 7, 7, 7, 7, 7, 7, 7, 7, 7, 7, 7, 7, 7, 7, 7, 8, 8, 8, 8, 8, 8, 8, 8, 8, 8, 8, 8, 8, 8, 8, 8, 8, 8, 8, 8, 8, 8, 8, 8, 8, 8, 8, 8, 8, 8, 8, 8, 8, 8, 8, 8, 8, 8, 8, 8, 8, 8, 8, 8, 8, 8, 8, 8, 8, 8, 8, 8, 8, 8, 8, 8, 8, 8, 8, 8, 8, 8, 8, 8, 8, 8, 8, 8, 8, 8, 8, 8, 8, 8, 8, 8, 8, 8, 8, 8, 8, 8, 8, 8, 8, 8, 8, 8, 8, 8, 8, 8, 8, 8, 8, 8, 8, 8, 8, 8, 8, 8, 8, 8, 8, 8, 8, 8, 8, 8, 8, 8, 8, 8, 8, 8, 8, 8, 8, 8, 8, 8, 8, 8, 8, 8, 8, 8])) 15), oQ 17 (.conv .i64 16), oQ 18 (.bin .add 13 17), oM 2 18] [2])
 .ret))))
theorem fok247 : FOK Tryz.prog 247 (19, ic247, [(.t 2)]) := fokA [] Tryz.func247 (by kernel_rfl) (by kernel_rfl) (by kernel_rfl) (by kernel_rfl)
def ic248 : IC :=
 (.seq
 (.reg 0 [oM 2 (cI 0)] [0, 2])
 (.seq
 (.seq
 (.reg 1 [oM 3 0, oQ 4 (.bin .geq 3 (.c (.int .u64 4294967296)))] [0, 2, 4])
 (.cond 4
 (.seq
 (.reg 2 [oM 5 0, oQ 6 (.bin .shr 5 (.c (.int .u64 32))), oM 0 6] [0])
 (.reg 3 [oM 2 (cI 32)] [0, 2]))
 .skip))
 (.seq
 (.seq
 (.reg 4 [oM 7 0, oQ 8 (.bin .geq 7 (.c (.int .u64 65536)))] [0, 2, 8])
 (.cond 8
 (.seq
 (.reg 5 [oM 9 0, oQ 10 (.bin .shr 9 (.c (.int .u64 16))), oM 0 10] [0, 2])
 (.reg 6 [oM 11 2, oQ 12 (.bin .add 11 (cI 16)), oM 2 12] [0, 2]))
 .skip))
 (.seq
 (.seq
 (.reg 7 [oM 13 0, oQ 14 (.bin .geq 13 (.c (.int .u64 256)))] [0, 2, 14])
 (.cond 14
 (.seq
 (.reg 8 [oM 15 0, oQ 16 (.bin .shr 15 (.c (.int .u64 8))), oM 0 16] [0, 2])
 (.reg 9 [oM 17 2, oQ 18 (.bin .add 17 (cI 8)), oM 2 18] [0, 2]))
 .skip))
 (.seq
 (.reg 10 [oM 19 2, oM 20 0, oQ 21 (.conv .u8 20), oQ 22 (.istr (.c (.str [0, 1, 2, 2, 3, 3, 3, 3, 4, 4, 4, 4, 4, 4, 4, 4, 5, 5, 5, 5, 5, 5, 5, 5, 5, 5, 5, 5, 5, 5, 5, 5, 6, 6, 6, 6, 6, 6, 6, 6, 6, 6, 6, 6, 6, 6, 6, 6, 6, 6, 6, 6, 6, 6, 6, 6, 6, 6, 6, 6, 6, 6, 6, 6, 7, 7, 7, 7, 7, 7, 7, 7, 7, 7, 7, 7, 7, 7, 7, 7, 7, 7, 7, 7, 7, 7, 7, 7, 7, 7, 7, 7, 7, 7, 7, 7, 7, 7, 7, 7, 7, 7, 7, 7, 7, 7, 7, 7, 7, 7, 7, 7, 7, 7, 7, 7, 7, 7, 7, 7, 7, 7, 7, 7, 7, 7, 7, 7, 8, 8, 8, 8, 8, 8, 8, 8, 8, 8, 8, 8, 8, 8, 8, 8, 8, 8, 8, 8, 8, 8, 8, 8, 8, 8, 8, 8, 8, 8, 8, 8, 8, 8, 8, 8, 8, 8, 8, 8, 8, 8, 8, 8, 8, 8, 8, 8, 8, 8, 8, 8, 8, 8, 8, 8, 8, 8, 8, 8, 8, 8, 8, 8, 8, 8, 8, 8, 8, 8, 8, 8, 8, 8, 8, 8, 8, 8, 8, 8, 8, 8, 8, 8, 8, 8, 8, 8, 8, 8, 8, 8, 8, 8, 8, 8, 8, 8, 8, 8, 8, 8, 8, 8, 8, 8, 8, 8, 8, 8, 8, 8, 8, 8, 8, 8, 8, 8, 8, 8, 8, 8, 8, 8, 8, 8, 8, 8])) 21), oQ 23 (.conv .i64 22), oQ 24 (.bin .add 19 23), oM 2 24] [2])
 .ret)))))
theorem fok248 : FOK Tryz.prog 248 (25, ic248, [(.t 2)]) := fokA [] Tryz.func248 (by kernel_rfl) (by kernel_rfl) (by kernel_rfl) (by kernel_rfl)
def ic249 : IC :=
 (.seq
 (.reg 0 [oM 3 (cB false)] [0, 1])
 (.seq
 (.reg 1 [oQ 4 (.load none 1), oM 5 0, oK 6 (.call 110 [4, 5]), oM 3 6] [3])
 .ret))
theorem fok249 : FOK Tryz.prog 249 (7, ic249, [(.t 3)]) := fokA [] Tryz.func249 (by kernel_rfl) (by kernel_rfl) (by kernel_rfl) (by kernel_rfl)
def ic250 : IC :=
(.seq
 (.reg 0 [⟨(some 0), none, (.alloc [(.str []), (.str []), (.str []), (.str []), (.str [])])⟩] [0])
 (.seq
  (.reg 1 [⟨(some 1), none, (.q (.bld [(.str []), (.str []), (.str []), (.str []), (.str [])] [⟨1, ⟨1, (.c (.str [110, 111, 97, 114, 99, 104]))⟩⟩, ⟨2, ⟨1, (.c (.str [120, 56, 54, 95, 54, 52]))⟩⟩, ⟨3, ⟨1, (.c (.str [105, 54, 56, 54]))⟩⟩, ⟨4, ⟨1, (.c (.str [97, 97, 114, 99, 104, 54, 52]))⟩⟩]))⟩, ⟨none, none, (.store 5 (.t 0) (.t 1))⟩] [0])
  .ret))
theorem fok250 : FOK Tryz.prog 250 (2, ic250, [(.cell (some 5) 0)]) := .mk (pf := []) (an := [(0, [0]), (1, [0])]) (by kernel_rfl) (fnOK_of Tryz.func250 (by kernel_rfl) (by kernel_rfl) (by kernel_rfl))
def ic251 : IC :=
(.seq
 (.reg 0 [⟨(some 2), none, (.boxt (.t 0))⟩, ⟨(some 3), none, (.q (.mov (.c (.bool false))))⟩] [1, 2])
 (.seq
  (.reg 1 [⟨(some 4), none, (.q (.load none (.t 1)))⟩, ⟨(some 5), none, (.q (.load (some 5) (.t 2)))⟩, ⟨(some 6), none, (.callv (.t 4) [(.t 5)])⟩, ⟨(some 7), none, (.q (.not (.t 6)))⟩, ⟨(some 3), none, (.q (.mov (.t 7)))⟩] [3])
  .ret))
theorem fok251 : FOK Tryz.prog 251 (8, ic251, [(.t 3)]) := .mk (pf := [1000002]) (an := [(0, [1, 2]), (1, [3])]) (by kernel_rfl) (fnOK_of Tryz.func251 (by kernel_rfl) (by kernel_rfl) (by kernel_rfl))
def ic252 : IC :=
(.seq
 (.reg 0 [⟨(some 4), none, (.q (.mov (.c (.bool false))))⟩] [0, 1])
 (.seq
  (.reg 1 [⟨(some 5), none, (.q (.mov (.t 0)))⟩, ⟨(some 6), none, (.q (.mov (.t 1)))⟩, ⟨(some 7), none, (.call 281 [(.t 5), (.t 6)])⟩, ⟨(some 8), none, (.q (.bin .geq (.t 7) (.c (.int .i64 0))))⟩, ⟨(some 4), none, (.q (.mov (.t 8)))⟩] [4])
  .ret))
theorem fok252 : FOK Tryz.prog 252 (9, ic252, [(.t 4)]) := .mk (pf := []) (an := [(0, [0, 1]), (1, [4])]) (by kernel_rfl) (fnOK_of Tryz.func252 (by kernel_rfl) (by kernel_rfl) (by kernel_rfl))
def ic253 : IC :=
(.seq
 (.reg 0 [⟨(some 3), none, (.q (.mov (.c (.bool false))))⟩] [0, 1])
 (.seq
  (.reg 1 [⟨(some 4), none, (.q (.load none (.t 1)))⟩, ⟨(some 5), none, (.q (.mov (.t 0)))⟩, ⟨(some 6), none, (.callv (.t 4) [(.t 5)])⟩, ⟨(some 7), none, (.q (.not (.t 6)))⟩, ⟨(some 3), none, (.q (.mov (.t 7)))⟩] [3])
  .ret))
theorem fok253 : FOK Tryz.prog 253 (8, ic253, [(.t 3)]) := .mk (pf := []) (an := [(0, [0, 1]), (1, [3])]) (by kernel_rfl) (fnOK_of Tryz.func253 (by kernel_rfl) (by kernel_rfl) (by kernel_rfl))
def ic254 : IC :=
(.reg 0 [⟨(some 3), none, (.q (.mov (.t 0)))⟩, ⟨(some 4), none, (.q (.faddr 7 (.t 1)))⟩, ⟨(some 5), none, (.q (.load none (.t 4)))⟩, ⟨(some 6), none, (.callv (.t 3) [(.c (.int .u8 1)), (.t 5)])⟩, ⟨(some 7), none, (.q (.mov (.t 6)))⟩, ⟨(some 8), (some ⟨7, true⟩), (.q (.mov (.t 0)))⟩, ⟨(some 9), (some ⟨7, true⟩), (.q (.faddr 8 (.t 1)))⟩, ⟨(some 10), (some ⟨7, true⟩), (.q (.load none (.t 9)))⟩, ⟨(some 11), (some ⟨7, true⟩), (.callv (.t 8) [(.c (.int .u8 2)), (.t 10)])⟩, ⟨(some 12), none, (.q (.pick (.t 7) (.t 11) (.c (.bool false))))⟩, ⟨(some 13), none, (.q (.mov (.t 12)))⟩, ⟨(some 14), (some ⟨13, true⟩), (.q (.mov (.t 0)))⟩, ⟨(some 15), (some ⟨13, true⟩), (.q (.faddr 10 (.t 1)))⟩, ⟨(some 16), (some ⟨13, true⟩), (.q (.load none (.t 15)))⟩, ⟨(some 17), (some ⟨13, true⟩), (.callv (.t 14) [(.c (.int .u8 1)), (.t 16)])⟩, ⟨(some 18), none, (.q (.pick (.t 13) (.t 17) (.c (.bool false))))⟩, ⟨(some 19), none, (.q (.mov (.t 18)))⟩, ⟨(some 20), (some ⟨19, true⟩), (.q (.mov (.t 0)))⟩, ⟨(some 21), (some ⟨19, true⟩), (.q (.faddr 11 (.t 1)))⟩, ⟨(some 22), (some ⟨19, true⟩), (.q (.load none (.t 21)))⟩, ⟨(some 23), (some ⟨19, true⟩), (.callv (.t 20) [(.c (.int .u8 3)), (.t 22)])⟩, ⟨(some 24), none, (.q (.pick (.t 19) (.t 23) (.c (.bool false))))⟩, ⟨(some 25), none, (.q (.mov (.t 24)))⟩, ⟨(some 26), (some ⟨25, true⟩), (.q (.mov (.t 0)))⟩, ⟨(some 27), (some ⟨25, true⟩), (.q (.faddr 12 (.t 1)))⟩, ⟨(some 28), (some ⟨25, true⟩), (.q (.load none (.t 27)))⟩, ⟨(some 29), (some ⟨25, true⟩), (.callv (.t 26) [(.c (.int .u8 1)), (.t 28)])⟩, ⟨(some 30), none, (.q (.pick (.t 25) (.t 29) (.c (.bool false))))⟩, ⟨(some 31), none, (.q (.mov (.t 30)))⟩, ⟨(some 32), (some ⟨31, true⟩), (.q (.mov (.t 0)))⟩, ⟨(some 33), (some ⟨31, true⟩), (.q (.faddr 13 (.t 1)))⟩, ⟨(some 34), (some ⟨31, true⟩), (.q (.load none (.t 33)))⟩, ⟨(some 35), (some ⟨31, true⟩), (.callv (.t 32) [(.c (.int .u8 3)), (.t 34)])⟩, ⟨(some 36), none, (.q (.pick (.t 31) (.t 35) (.c (.bool false))))⟩] [])
theorem fok254 : FOK Tryz.prog 254 (37, ic254, []) := .mk (pf := []) (an := []) (by kernel_rfl) (fnOK_of Tryz.func254 (by kernel_rfl) (by kernel_rfl) (by kernel_rfl))
def ic255 : IC :=
(.seq
 (.reg 0 [⟨(some 2), none, (.boxt (.t 0))⟩, ⟨(some 3), none, (.q (.mov (.c (.bool false))))⟩] [1, 2])
 (.seq
  (.reg 1 [⟨(some 4), none, (.q (.load none (.t 1)))⟩, ⟨(some 5), none, (.q (.load (some 7) (.t 2)))⟩, ⟨(some 6), none, (.callv (.t 4) [(.t 5)])⟩, ⟨(some 7), none, (.q (.not (.t 6)))⟩, ⟨(some 3), none, (.q (.mov (.t 7)))⟩] [3])
  .ret))
theorem fok255 : FOK Tryz.prog 255 (8, ic255, [(.t 3)]) := .mk (pf := [1000002]) (an := [(0, [1, 2]), (1, [3])]) (by kernel_rfl) (fnOK_of Tryz.func255 (by kernel_rfl) (by kernel_rfl) (by kernel_rfl))
def ic256 : IC :=
 (.seq
 (.reg 0 [oK 1 (.boxt 0), oM 2 (cI 0)] [1])
 (.seq
 (.reg 1 [oM 3 (cI 1)] [1, 3])
 (.seq
 (.seq
 (.reg 2 [oM 4 (cI 0)] [1, 3, 4])
 (.block 0
 (.loop
 (.seq
 (.seq
 (.reg 3 [oM 5 4, oQ 6 (.faddr 6 1), oQ 7 (.load none 6), oQ 8 (.len 0 7), oQ 9 (.bin .lss 5 8)] [1, 3, 4, 9])
 (.cond 9
 .skip
 (.exit 0)))
 (.seq
 (.block 1
 (.reg 5 [oM 12 3, oQ 13 (.faddr 6 1), oQ 14 (.load none 13), oM 15 4, oQ 16 (.iaddr 7 14 15), oQ 17 (.load (some 7) 16), oK 18 (.call 256 [17]), oQ 19 (.bin .add 12 18), oM 3 19] [1, 3, 4]))
 (.reg 4 [oM 10 4, oQ 11 (.bin .add 10 (cI 1)), oM 4 11] [1, 3, 4]))))))
 (.seq
 (.reg 6 [oM 20 3, oM 2 20] [2])
 .ret))))
theorem fok256 : FOK Tryz.prog 256 (21, ic256, [(.t 2)]) := fokA [1000001] Tryz.func256 (by kernel_rfl) (by kernel_rfl) (by kernel_rfl) (by kernel_rfl)
def ic257 : IC :=
 (.seq
 (.reg 0 [oK 1 (.boxt 0), oM 2 (cI 0)] [1])
 (.seq
 (.seq
 (.reg 1 [oQ 6 (.faddr 0 1), oQ 7 (.load none 6), oQ 8 (.bin .eql 7 (.c (zU 1)))] [1, 8])
 (.cond 8
 (.seq
 (.reg 2 [oM 2 (cI 0)] [2])
 .ret)
 .skip))
 (.seq
 (.reg 3 [oM 3 (cI 0)] [1, 3])
 (.seq
 (.seq
 (.reg 4 [oM 4 (cI 0)] [1, 3, 4])
 (.block 0
 (.loop
 (.seq
 (.seq
 (.reg 5 [oM 9 4, oQ 10 (.faddr 6 1), oQ 11 (.load none 10), oQ 12 (.len 0 11), oQ 13 (.bin .lss 9 12)] [1, 3, 4, 13])
 (.cond 13
 .skip
 (.exit 0)))
 (.seq
 (.block 1
 (.seq
 (.reg 7 [oQ 16 (.faddr 6 1), oQ 17 (.load none 16), oM 18 4, oQ 19 (.iaddr 7 17 18), oQ 20 (.load (some 7) 19), oK 21 (.call 257 [20]), oM 5 21] [1, 3, 4, 5])
 (.seq
 (.reg 8 [oM 22 5, oM 23 3, oQ 24 (.bin .gtr 22 23)] [1, 3, 4, 5, 24])
 (.cond 24
 (.reg 9 [oM 25 5, oM 3 25] [1, 3, 4])
 .skip))))
 (.reg 6 [oM 14 4, oQ 15 (.bin .add 14 (cI 1)), oM 4 15] [1, 3, 4]))))))
 (.seq
 (.reg 10 [oM 26 3, oQ 27 (.bin .add 26 (cI 1)), oM 2 27] [2])
 .ret)))))
theorem fok257 : FOK Tryz.prog 257 (28, ic257, [(.t 2)]) := fokA [1000001] Tryz.func257 (by kernel_rfl) (by kernel_rfl) (by kernel_rfl) (by kernel_rfl)
def ic258 : IC :=
 (.seq
 (.reg 0 [oK 3 (.boxt 0), oM 6 (cB false)] [1, 2, 3])
 (.seq
 (.reg 1 [oQ 10 (.faddr 6 3), oQ 11 (.load none 10), oQ 12 (.len 0 11), oM 7 12] [1, 2, 3, 7])
 (.seq
 (.reg 2 [oM 8 (cB false)] [1, 2, 3, 7, 8])
 (.seq
 (.seq
 (.reg 3 [oQ 13 (.faddr 0 3), oQ 14 (.load none 13)] [1, 2, 3, 7, 8, 14])
 (.block 0
 (.seq
 (.reg 4 [oQ 16 (.bin .eql 14 (.c (zU 1))), oM 15 16] [1, 2, 3, 7, 8, 14, 15])
 (.cond 15
 (.seq
 (.reg 5 [oM 17 7, oQ 18 (.bin .eql 17 (cI 0)), oM 19 18, gQ 20 19 true (.faddr 1 3), gQ 21 19 true (.load (some 5) 20), gK 22 19 true (.call 99 [21]), oQ 23 (.pick 19 22 (cB false)), oM 6 23] [6])
 .ret)
 (.seq
 (.seq
 (.reg 6 [oQ 25 (.bin .eql 14 (.c (zU 2))), oM 24 25] [1, 2, 3, 7, 8, 14, 24])
 (.cond 24
 .skip
 (.reg 7 [oQ 26 (.bin .eql 14 (.c (zU 3))), oM 24 26] [1, 2, 3, 7, 8, 14, 24])))
 (.cond 24
 (.reg 8 [oM 27 7, oQ 28 (.bin .geq 27 (cI 2)), oM 8 28] [1, 2, 3, 7, 8])
 (.seq
 (.reg 9 [oQ 30 (.bin .eql 14 (.c (zU 6))), oM 29 30] [1, 2, 3, 7, 8, 14, 29])
 (.cond 29
 (.seq
 (.reg 10 [oM 31 7, oQ 32 (.bin .geq 31 (cI 2)), oM 8 32] [1, 3, 7, 8])
 (.reg 11 [oM 2 (cB true)] [1, 2, 3, 7, 8]))
 (.seq
 (.reg 12 [oQ 34 (.bin .eql 14 (.c (zU 7))), oM 33 34] [1, 2, 3, 7, 8, 14, 33])
 (.cond 33
 (.seq
 (.reg 13 [oM 35 7, oQ 36 (.bin .eql 35 (cI 2)), oM 8 36] [1, 3, 7, 8])
 (.reg 14 [oM 2 (cB true)] [1, 2, 3, 7, 8]))
 (.seq
 (.reg 15 [oQ 38 (.bin .eql 14 (.c (zU 4))), oM 37 38] [1, 2, 3, 7, 8, 14, 37])
 (.cond 37
 (.reg 16 [oM 39 7, oQ 40 (.bin .eql 39 (cI 2)), oM 41 40, gQ 42 41 false (.mov 7), gQ 43 41 false (.bin .eql 42 (cI 3)), oQ 44 (.pick 41 (cB true) 43), oM 45 44, gQ 46 45 true (.mov 2), gQ 47 45 true (.not 46), oQ 48 (.pick 45 47 (cB false)), oM 49 48, gQ 50 49 true (.mov 1), gQ 51 49 true (.bin .eql 50 (.c (zU 1))), oQ 52 (.pick 49 51 (cB false)), oM 8 52] [1, 2, 3, 7, 8])
 (.seq
 (.reg 17 [oQ 54 (.bin .eql 14 (.c (zU 5))), oM 53 54] [1, 2, 3, 7, 8, 53])
 (.cond 53
 (.reg 18 [oM 55 7, oQ 56 (.bin .eql 55 (cI 2)), oM 57 56, gQ 58 57 false (.mov 7), gQ 59 57 false (.bin .eql 58 (cI 3)), oQ 60 (.pick 57 (cB true) 59), oM 61 60, gQ 62 61 true (.mov 2), gQ 63 61 true (.not 62), oQ 64 (.pick 61 63 (cB false)), oM 65 64, gQ 66 65 true (.mov 1), gQ 67 65 true (.bin .leq 66 (.c (zU 2))), oQ 68 (.pick 65 67 (cB false)), oM 8 68] [1, 2, 3, 7, 8])
 .skip))))))))))))))
 (.seq
 (.seq
 (.reg 19 [oM 69 8, oQ 70 (.not 69), oM 71 70, gQ 72 71 false (.faddr 1 3), gQ 73 71 false (.load (some 5) 72), gQ 74 71 false (.bld [(.str []), (zU 0), (zI 0), (.str []), (.str [])] []), gQ 75 71 false (.eqs [2, 1, 1, 2, 2] true true 73 74), oQ 76 (.pick 71 (cB true) 75)] [1, 2, 3, 7, 76])
 (.cond 76
 (.seq
 (.reg 20 [oM 6 (cB false)] [6])
 .ret)
 .skip))
 (.seq
 (.seq
 (.reg 21 [oM 9 (cI 0)] [1, 2, 3, 7, 9])
 (.block 1
 (.loop
 (.seq
 (.seq
 (.reg 22 [oM 77 9, oM 78 7, oQ 79 (.bin .lss 77 78)] [1, 2, 3, 7, 9, 79])
 (.cond 79
 .skip
 (.exit 1)))
 (.seq
 (.block 2
 (.seq
 (.reg 24 [oQ 82 (.faddr 6 3), oQ 83 (.load none 82), oM 84 9, oQ 85 (.iaddr 7 83 84), oQ 86 (.load (some 7) 85), oM 87 1, oM 88 2, oK 89 (.call 258 [86, 87, 88]), oQ 90 (.not 89)] [1, 2, 3, 7, 9, 90])
 (.cond 90
 (.seq
 (.reg 25 [oM 6 (cB false)] [6])
 .ret)
 .skip)))
 (.reg 23 [oM 80 9, oQ 81 (.bin .add 80 (cI 1)), oM 9 81] [1, 2, 3, 7, 9]))))))
 (.seq
 (.reg 26 [oM 6 (cB true)] [6])
 .ret)))))))
theorem fok258 : FOK Tryz.prog 258 (91, ic258, [(.t 6)]) := fokA [1000003] Tryz.func258 (by kernel_rfl) (by kernel_rfl) (by kernel_rfl) (by kernel_rfl)
def ic259 : IC :=
(.seq
 (.reg 0 [⟨(some 4), none, (.q (.mov (.c (.int .i64 0))))⟩] [0, 1])
 (.seq
  (.reg 1 [⟨(some 5), none, (.q (.mov (.t 0)))⟩, ⟨(some 6), none, (.q (.mov (.t 1)))⟩, ⟨(some 7), none, (.q (.ibs (.t 5) (.t 6)))⟩, ⟨(some 4), none, (.q (.mov (.t 7)))⟩] [4])
  .ret))
theorem fok259 : FOK Tryz.prog 259 (8, ic259, [(.t 4)]) := .mk (pf := []) (an := [(0, [0, 1]), (1, [4])]) (by kernel_rfl) (fnOK_of Tryz.func259 (by kernel_rfl) (by kernel_rfl) (by kernel_rfl))
def ic260 : IC :=
(.seq
 (.reg 0 [⟨(some 4), none, (.q (.mov (.c (.bool false))))⟩] [0, 1])
 (.seq
  (.reg 1 [⟨(some 5), none, (.q (.mov (.t 0)))⟩, ⟨(some 6), none, (.q (.len 1 (.t 5)))⟩, ⟨(some 7), none, (.q (.mov (.t 1)))⟩, ⟨(some 8), none, (.q (.len 1 (.t 7)))⟩, ⟨(some 9), none, (.q (.bin .geq (.t 6) (.t 8)))⟩, ⟨(some 10), none, (.q (.mov (.t 9)))⟩, ⟨(some 11), (some ⟨10, true⟩), (.q (.mov (.t 0)))⟩, ⟨(some 12), (some ⟨10, true⟩), (.q (.mov (.t 1)))⟩, ⟨(some 13), (some ⟨10, true⟩), (.q (.len 1 (.t 12)))⟩, ⟨(some 14), (some ⟨10, true⟩), (.q (.sstr (.t 11) none (some (.t 13))))⟩, ⟨(some 15), (some ⟨10, true⟩), (.q (.mov (.t 1)))⟩, ⟨(some 16), (some ⟨10, true⟩), (.q (.bin .eql (.t 14) (.t 15)))⟩, ⟨(some 17), none, (.q (.pick (.t 10) (.t 16) (.c (.bool false))))⟩, ⟨(some 4), none, (.q (.mov (.t 17)))⟩] [4])
  .ret))
theorem fok260 : FOK Tryz.prog 260 (18, ic260, [(.t 4)]) := .mk (pf := []) (an := [(0, [0, 1]), (1, [4])]) (by kernel_rfl) (fnOK_of Tryz.func260 (by kernel_rfl) (by kernel_rfl) (by kernel_rfl))
def ic261 : IC :=
 (.seq
 (.reg 0 [oK 2 (.boxt 0), oM 3 (cB false)] [1, 2])
 (.seq
 (.reg 1 [oQ 4 (.load (some 5) 2), oQ 5 (.load (some 5) 1), oK 6 (.call 188 [4, 5]), oM 3 6] [3])
 .ret))
theorem fok261 : FOK Tryz.prog 261 (7, ic261, [(.t 3)]) := fokA [1000002] Tryz.func261 (by kernel_rfl) (by kernel_rfl) (by kernel_rfl) (by kernel_rfl)
def ic262 : IC :=
 (.seq
 (.reg 0 [oM 4 (cB false)] [0, 1])
 (.seq
 (.reg 1 [oM 5 0, oM 6 1, oK 7 (.call 283 [5, 6]), oQ 8 (.bin .geq 7 (cI 0)), oM 4 8] [4])
 .ret))
theorem fok262 : FOK Tryz.prog 262 (9, ic262, [(.t 4)]) := fokA [] Tryz.func262 (by kernel_rfl) (by kernel_rfl) (by kernel_rfl) (by kernel_rfl)
def ic269 : IC :=
 (.seq
 (.reg 0 [oK 1 (.boxt 0), oM 2 (.c .nilfunc)] [1])
 (.seq
 (.reg 1 [oQ 3 (.mkf 285 [] [1]), oM 2 3] [2])
 .ret))
theorem fok269 : FOK Tryz.prog 269 (4, ic269, [(.t 2)]) := fokA [1000001] Tryz.func269 (by kernel_rfl) (by kernel_rfl) (by kernel_rfl) (by kernel_rfl)
def ic270 : IC :=
 (.seq
 (.reg 0 [oM 2 (cI 0)] [0])
 (.seq
 (.reg 1 [oM 3 (cI 0)] [0, 3])
 (.seq
 (.seq
 (.reg 2 [oM 6 0, oQ 7 (.len 0 6), oM 8 (cI 0)] [3, 6, 7, 8])
 (.block 0
 (.loop
 (.seq
 (.reg 3 [oQ 9 (.bin .lss 8 7)] [3, 6, 7, 8, 9])
 (.seq
 (.cond 9
 .skip
 (.exit 0))
 (.seq
 (.block 1
 (.seq
 (.reg 4 [oQ 10 (.iaddr 1 6 8), oQ 11 (.load none 10), oM 5 11] [3, 5, 6, 7, 8])
 (.seq
 (.reg 5 [oM 12 5, oM 13 3, oQ 14 (.bin .neq 12 13)] [3, 5, 6, 7, 8, 14])
 (.cond 14
 (.seq
 (.reg 6 [oM 15 5, oM 2 15] [2])
 .ret)
 .skip))))
 (.reg 7 [oQ 16 (.bin .add 8 (cI 1)), oM 8 16] [3, 6, 7, 8])))))))
 (.seq
 (.reg 8 [oM 17 3, oM 2 17] [2])
 .ret))))
theorem fok270 : FOK Tryz.prog 270 (18, ic270, [(.t 2)]) := fokA [] Tryz.func270 (by kernel_rfl) (by kernel_rfl) (by kernel_rfl) (by kernel_rfl)
def ic271 : IC :=
 (.seq
 (.reg 0 [oM 4 (cI 0)] [0, 1])
 (.seq
 (.reg 1 [oM 7 0, oK 8 (.call 288 [7]), oM 5 8] [0, 1, 5])
 (.seq
 (.reg 2 [oM 9 1, oK 10 (.call 288 [9]), oM 6 10] [0, 1, 5, 6])
 (.seq
 (.seq
 (.reg 3 [oM 11 5] [0, 1, 6, 11])
 (.cond 11
 (.seq
 (.seq
 (.reg 4 [oM 12 6] [12])
 (.cond 12
 (.seq
 (.reg 5 [oM 4 (cI 0)] [4])
 .ret)
 .skip))
 (.seq
 (.reg 6 [oM 4 (cI (-1))] [4])
 .ret))
 .skip))
 (.seq
 (.seq
 (.reg 7 [oM 13 6] [0, 1, 13])
 (.cond 13
 (.seq
 (.reg 8 [oM 4 (cI 1)] [4])
 .ret)
 .skip))
 (.seq
 (.seq
 (.reg 9 [oM 14 0, oM 15 1, oQ 16 (.bin .lss 14 15)] [0, 1, 16])
 (.cond 16
 (.seq
 (.reg 10 [oM 4 (cI (-1))] [4])
 .ret)
 .skip))
 (.seq
 (.seq
 (.reg 11 [oM 17 0, oM 18 1, oQ 19 (.bin .gtr 17 18)] [19])
 (.cond 19
 (.seq
 (.reg 12 [oM 4 (cI 1)] [4])
 .ret)
 .skip))
 (.seq
 (.reg 13 [oM 4 (cI 0)] [4])
 .ret))))))))
theorem fok271 : FOK Tryz.prog 271 (20, ic271, [(.t 4)]) := fokA [] Tryz.func271 (by kernel_rfl) (by kernel_rfl) (by kernel_rfl) (by kernel_rfl)
def ic272 : IC :=
 (.seq
 (.reg 0 [oM 4 (cI 0)] [0, 1])
 (.seq
 (.reg 1 [oM 7 0, oK 8 (.call 289 [7]), oM 5 8] [0, 1, 5])
 (.seq
 (.reg 2 [oM 9 1, oK 10 (.call 289 [9]), oM 6 10] [0, 1, 5, 6])
 (.seq
 (.seq
 (.reg 3 [oM 11 5] [0, 1, 6, 11])
 (.cond 11
 (.seq
 (.seq
 (.reg 4 [oM 12 6] [12])
 (.cond 12
 (.seq
 (.reg 5 [oM 4 (cI 0)] [4])
 .ret)
 .skip))
 (.seq
 (.reg 6 [oM 4 (cI (-1))] [4])
 .ret))
 .skip))
 (.seq
 (.seq
 (.reg 7 [oM 13 6] [0, 1, 13])
 (.cond 13
 (.seq
 (.reg 8 [oM 4 (cI 1)] [4])
 .ret)
 .skip))
 (.seq
 (.seq
 (.reg 9 [oM 14 0, oM 15 1, oQ 16 (.bin .lss 14 15)] [0, 1, 16])
 (.cond 16
 (.seq
 (.reg 10 [oM 4 (cI (-1))] [4])
 .ret)
 .skip))
 (.seq
 (.seq
 (.reg 11 [oM 17 0, oM 18 1, oQ 19 (.bin .gtr 17 18)] [19])
 (.cond 19
 (.seq
 (.reg 12 [oM 4 (cI 1)] [4])
 .ret)
 .skip))
 (.seq
 (.reg 13 [oM 4 (cI 0)] [4])
 .ret))))))))
theorem fok272 : FOK Tryz.prog 272 (20, ic272, [(.t 4)]) := fokA [] Tryz.func272 (by kernel_rfl) (by kernel_rfl) (by kernel_rfl) (by kernel_rfl)
def ic273 : IC :=
(.seq
 (.reg 0 [⟨(some 4), none, (.q (.mov (.c (.int .i64 0))))⟩] [0, 1])
 (.seq
  (.seq
   (.reg 1 [⟨(some 6), none, (.q (.mov (.t 0)))⟩, ⟨(some 7), none, (.q (.len 0 (.t 6)))⟩, ⟨(some 8), none, (.q (.mov (.c (.int .i64 0))))⟩] [0, 1, 7, 8])
   (.block 0
    (.loop
     (.seq
      (.reg 2 [⟨(some 9), none, (.q (.bin .lss (.t 8) (.t 7)))⟩] [0, 1, 7, 8, 9])
      (.seq
       (.cond (.t 9)
        .skip
        (.exit 0))
       (.seq
        (.block 1
         (.seq
          (.reg 3 [⟨(some 10), none, (.q (.mov (.t 8)))⟩, ⟨(some 5), none, (.q (.mov (.t 10)))⟩] [0, 1, 5, 7, 8])
          (.seq
           (.reg 4 [⟨(some 11), none, (.q (.mov (.t 1)))⟩, ⟨(some 12), none, (.q (.mov (.t 0)))⟩, ⟨(some 13), none, (.q (.mov (.t 5)))⟩, ⟨(some 14), none, (.q (.iaddr 7 (.t 12) (.t 13)))⟩, ⟨(some 15), none, (.q (.load (some 7) (.t 14)))⟩, ⟨(some 16), none, (.callv (.t 11) [(.t 15)])⟩] [0, 1, 5, 7, 8, 16])
           (.cond (.t 16)
            (.seq
            (.reg 5 [⟨(some 17), none, (.q (.mov (.t 5)))⟩, ⟨(some 4), none, (.q (.mov (.t 17)))⟩] [4])
            .ret)
            .skip))))
        (.reg 6 [⟨(some 18), none, (.q (.bin .add (.t 8) (.c (.int .i64 1))))⟩, ⟨(some 8), none, (.q (.mov (.t 18)))⟩] [0, 1, 7, 8])))))))
  (.seq
   (.reg 7 [⟨(some 4), none, (.q (.mov (.c (.int .i64 (-1)))))⟩] [4])
   .ret)))
theorem fok273 : FOK Tryz.prog 273 (19, ic273, [(.t 4)]) := .mk (pf := []) (an := [(0, [0, 1]), (1, [0, 1, 7, 8]), (2, [0, 1, 7, 8, 9]), (3, [0, 1, 5, 7, 8]), (4, [0, 1, 5, 7, 8, 16]), (5, [4]), (6, [0, 1, 7, 8]), (7, [4])]) (by kernel_rfl) (fnOK_of Tryz.func273 (by kernel_rfl) (by kernel_rfl) (by kernel_rfl))
def ic274 : IC :=
 (.seq
 (.reg 0 [oM 2 (.c (zU 0))] [0])
 (.seq
 (.reg 1 [oQ 3 (.bld [(zU 0), (zU 0), (zU 0)] [⟨0, ⟨1, (.c (zU 1))⟩⟩, ⟨1, ⟨1, (.c (zU 2))⟩⟩, ⟨2, ⟨1, (.c (zU 4))⟩⟩]), oM 4 0, oQ 5 (.bin .add 4 (cI 1)), oQ 6 (.idx none 3 1 3 5), oM 2 6] [2])
 .ret))
theorem fok274 : FOK Tryz.prog 274 (7, ic274, [(.t 2)]) := fokA [] Tryz.func274 (by kernel_rfl) (by kernel_rfl) (by kernel_rfl) (by kernel_rfl)
def ic275 : IC :=
(.seq
 (.reg 0 [⟨(some 4), none, (.q (.mov (.c (.int .i64 0))))⟩] [0, 1])
 (.seq
  (.seq
   (.reg 1 [⟨(some 6), none, (.q (.mov (.t 0)))⟩, ⟨(some 7), none, (.q (.len 0 (.t 6)))⟩, ⟨(some 8), none, (.q (.mov (.c (.int .i64 0))))⟩] [0, 1, 7, 8])
   (.block 0
    (.loop
     (.seq
      (.reg 2 [⟨(some 9), none, (.q (.bin .lss (.t 8) (.t 7)))⟩] [0, 1, 7, 8, 9])
      (.seq
       (.cond (.t 9)
        .skip
        (.exit 0))
       (.seq
        (.block 1
         (.seq
          (.reg 3 [⟨(some 10), none, (.q (.mov (.t 8)))⟩, ⟨(some 5), none, (.q (.mov (.t 10)))⟩] [0, 1, 5, 7, 8])
          (.seq
           (.reg 4 [⟨(some 11), none, (.q (.mov (.t 1)))⟩, ⟨(some 12), none, (.q (.mov (.t 0)))⟩, ⟨(some 13), none, (.q (.mov (.t 5)))⟩, ⟨(some 14), none, (.q (.iaddr 5 (.t 12) (.t 13)))⟩, ⟨(some 15), none, (.q (.load (some 5) (.t 14)))⟩, ⟨(some 16), none, (.callv (.t 11) [(.t 15)])⟩] [0, 1, 5, 7, 8, 16])
           (.cond (.t 16)
            (.seq
            (.reg 5 [⟨(some 17), none, (.q (.mov (.t 5)))⟩, ⟨(some 4), none, (.q (.mov (.t 17)))⟩] [4])
            .ret)
            .skip))))
        (.reg 6 [⟨(some 18), none, (.q (.bin .add (.t 8) (.c (.int .i64 1))))⟩, ⟨(some 8), none, (.q (.mov (.t 18)))⟩] [0, 1, 7, 8])))))))
  (.seq
   (.reg 7 [⟨(some 4), none, (.q (.mov (.c (.int .i64 (-1)))))⟩] [4])
   .ret)))
theorem fok275 : FOK Tryz.prog 275 (19, ic275, [(.t 4)]) := .mk (pf := []) (an := [(0, [0, 1]), (1, [0, 1, 7, 8]), (2, [0, 1, 7, 8, 9]), (3, [0, 1, 5, 7, 8]), (4, [0, 1, 5, 7, 8, 16]), (5, [4]), (6, [0, 1, 7, 8]), (7, [4])]) (by kernel_rfl) (fnOK_of Tryz.func275 (by kernel_rfl) (by kernel_rfl) (by kernel_rfl))
def ic276 : IC :=
 (.seq
 (.reg 0 [oM 10 1, oM 8 10] [0, 2, 3, 8])
 (.block 0
 (.loop
 (.block 1
 (.seq
 (.reg 1 [oM 11 8, oQ 12 (.bin .mul (cI 2) 11), oQ 13 (.bin .add 12 (cI 1)), oM 9 13] [0, 2, 3, 8, 9])
 (.seq
 (.seq
 (.reg 2 [oM 14 9, oM 15 2, oQ 16 (.bin .geq 14 15)] [0, 2, 3, 8, 9, 16])
 (.cond 16
 (.exit 0)
 .skip))
 (.seq
 (.seq
 (.dreg 3 [oM 17 9, oQ 18 (.bin .add 17 (cI 1)), oM 19 2, oQ 20 (.bin .lss 18 19), oM 21 20, gQ 22 21 true (.mov 0), gQ 23 21 true (.mov 3), gQ 24 21 true (.mov 9), gQ 25 21 true (.bin .add 23 24), gQ 26 21 true (.iaddr 1 22 25), gQ 27 21 true (.load none 26), gQ 28 21 true (.mov 0), gQ 29 21 true (.mov 3), gQ 30 21 true (.mov 9), gQ 31 21 true (.bin .add 29 30), gQ 32 21 true (.bin .add 31 (cI 1)), gQ 33 21 true (.iaddr 1 28 32), gQ 34 21 true (.load none 33), gK 35 21 true (.call 244 [27, 34]), oQ 36 (.pick 21 35 (cB false))] false [0, 2, 3, 8, 9, 36])
 (.cond 36
 (.reg 4 [oM 37 9, oQ 38 (.bin .add 37 (cI 1)), oM 9 38] [0, 2, 3, 8, 9])
 .skip))
 (.seq
 (.seq
 (.dreg 5 [oM 39 0, oM 40 3, oM 41 8, oQ 42 (.bin .add 40 41), oQ 43 (.iaddr 1 39 42), oQ 44 (.load none 43), oM 45 0, oM 46 3, oM 47 9, oQ 48 (.bin .add 46 47), oQ 49 (.iaddr 1 45 48), oQ 50 (.load none 49), oK 51 (.call 244 [44, 50]), oQ 52 (.not 51)] false [0, 2, 3, 8, 9, 52])
 (.cond 52
 .ret
 .skip))
 (.seq
 (.dreg 6 [oM 53 0, oM 54 3, oM 55 8, oQ 56 (.bin .add 54 55), oM 57 0, oM 58 3, oM 59 9, oQ 60 (.bin .add 58 59), oM 61 0, oM 62 3, oM 63 9, oQ 64 (.bin .add 62 63), oQ 65 (.iaddr 1 61 64), oQ 66 (.load none 65), oM 67 0, oM 68 3, oM 69 8, oQ 70 (.bin .add 68 69), oQ 71 (.iaddr 1 67 70), oQ 72 (.load none 71), oQ 73 (.iaddr 1 53 56), oN (.store 1 73 66), oQ 74 (.iaddr 1 57 60), oN (.store 1 74 72)] false [0, 2, 3, 9])
 (.reg 7 [oM 75 9, oM 8 75] [0, 2, 3, 8]))))))))))
theorem fok276 : FOK Tryz.prog 276 (76, ic276, []) := fokA [] Tryz.func276 (by kernel_rfl) (by kernel_rfl) (by kernel_rfl) (by kernel_rfl)
def ic277 : IC :=
 (.seq
 (.reg 0 [oM 2 (.c (.int .u64 0))] [0])
 (.seq
 (.reg 1 [oM 3 0, oQ 4 (.conv .u64 3), oK 5 (.call 194 [4]), oQ 6 (.bin .shl (.c (.int .u64 1)) 5), oM 2 6] [2])
 .ret))
theorem fok277 : FOK Tryz.prog 277 (7, ic277, [(.t 2)]) := fokA [] Tryz.func277 (by kernel_rfl) (by kernel_rfl) (by kernel_rfl) (by kernel_rfl)
def ic278 : IC :=
 (.seq
 (.reg 0 [oM 2 (.c (.int .u64 0))] [0])
 (.seq
 (.dreg 1 [oM 3 0, oQ 4 (.nchk 3), oQ 5 (.load none 4), oM 6 0, oQ 7 (.nchk 6), oQ 8 (.load none 7), oQ 9 (.bin .shl 8 (.c (.int .u64 13))), oQ 10 (.bin .xor 5 9), oQ 11 (.nchk 3), oN (.store 1 11 10)] false [0])
 (.seq
 (.dreg 2 [oM 12 0, oQ 13 (.nchk 12), oQ 14 (.load none 13), oM 15 0, oQ 16 (.nchk 15), oQ 17 (.load none 16), oQ 18 (.bin .shr 17 (.c (.int .u64 7))), oQ 19 (.bin .xor 14 18), oQ 20 (.nchk 12), oN (.store 1 20 19)] false [0])
 (.seq
 (.dreg 3 [oM 21 0, oQ 22 (.nchk 21), oQ 23 (.load none 22), oM 24 0, oQ 25 (.nchk 24), oQ 26 (.load none 25), oQ 27 (.bin .shl 26 (.c (.int .u64 17))), oQ 28 (.bin .xor 23 27), oQ 29 (.nchk 21), oN (.store 1 29 28)] false [0])
 (.seq
 (.reg 4 [oM 30 0, oQ 31 (.nchk 30), oQ 32 (.load none 31), oM 2 32] [2])
 .ret)))))
theorem fok278 : FOK Tryz.prog 278 (33, ic278, [(.t 2)]) := fokA [] Tryz.func278 (by kernel_rfl) (by kernel_rfl) (by kernel_rfl) (by kernel_rfl)
def ic279 : IC :=
 (.seq
 (.reg 0 [oM 6 (cI 0)] [0, 1, 2])
 (.seq
 (.reg 1 [oM 7 0, oM 8 1, oQ 9 (.bin .sub 8 (cI 1)), oM 10 1, oM 11 1, oQ 12 (.bin .add 11 (cI 1)), oM 13 2, oK 14 (.call 280 [7, 9, 10, 12, 13]), oM 6 14] [6])
 .ret))
theorem fok279 : FOK Tryz.prog 279 (15, ic279, [(.t 6)]) := fokA [] Tryz.func279 (by kernel_rfl) (by kernel_rfl) (by kernel_rfl) (by kernel_rfl)
def ic280 : IC :=
 (.seq
 (.reg 0 [oM 10 (cI 0)] [0, 1, 2, 3, 4])
 (.seq
 (.reg 1 [oM 12 0, oM 13 1, oM 14 2, oM 15 4, oK 16 (.call 290 [12, 13, 14, 15]), oM 11 16, oQ 17 (.ext 0 11), oQ 18 (.ext 1 11), oM 1 17, oM 2 18] [0, 1, 2, 3, 4])
 (.seq
 (.reg 2 [oM 20 0, oM 21 2, oM 22 3, oM 23 4, oK 24 (.call 290 [20, 21, 22, 23]), oM 19 24, oQ 25 (.ext 0 19), oQ 26 (.ext 1 19), oM 2 25, oM 3 26] [0, 1, 2, 4])
 (.seq
 (.reg 3 [oM 28 0, oM 29 1, oM 30 2, oM 31 4, oK 32 (.call 290 [28, 29, 30, 31]), oM 27 32, oQ 33 (.ext 0 27), oQ 34 (.ext 1 27), oM 1 33, oM 2 34] [2])
 (.seq
 (.reg 4 [oM 35 2, oM 10 35] [10])
 .ret)))))
theorem fok280 : FOK Tryz.prog 280 (36, ic280, [(.t 10)]) := fokA [] Tryz.func280 (by kernel_rfl) (by kernel_rfl) (by kernel_rfl) (by kernel_rfl)
def ic281 : IC :=
(.seq
 (.reg 0 [⟨(some 4), none, (.q (.mov (.c (.int .i64 0))))⟩] [0, 1])
 (.seq
  (.seq
   (.reg 1 [⟨(some 6), none, (.q (.mov (.t 0)))⟩, ⟨(some 7), none, (.q (.len 0 (.t 6)))⟩, ⟨(some 8), none, (.q (.mov (.c (.int .i64 0))))⟩] [0, 1, 7, 8])
   (.block 0
    (.loop
     (.seq
      (.reg 2 [⟨(some 9), none, (.q (.bin .lss (.t 8) (.t 7)))⟩] [0, 1, 7, 8, 9])
      (.seq
       (.cond (.t 9)
        .skip
        (.exit 0))
       (.seq
        (.block 1
         (.seq
          (.reg 3 [⟨(some 10), none, (.q (.mov (.t 8)))⟩, ⟨(some 5), none, (.q (.mov (.t 10)))⟩] [0, 1, 5, 7, 8])
          (.seq
           (.reg 4 [⟨(some 11), none, (.q (.mov (.t 1)))⟩, ⟨(some 12), none, (.q (.mov (.t 0)))⟩, ⟨(some 13), none, (.q (.mov (.t 5)))⟩, ⟨(some 14), none, (.q (.iaddr 1 (.t 12) (.t 13)))⟩, ⟨(some 15), none, (.q (.load none (.t 14)))⟩, ⟨(some 16), none, (.callv (.t 11) [(.t 15)])⟩] [0, 1, 5, 7, 8, 16])
           (.cond (.t 16)
            (.seq
            (.reg 5 [⟨(some 17), none, (.q (.mov (.t 5)))⟩, ⟨(some 4), none, (.q (.mov (.t 17)))⟩] [4])
            .ret)
            .skip))))
        (.reg 6 [⟨(some 18), none, (.q (.bin .add (.t 8) (.c (.int .i64 1))))⟩, ⟨(some 8), none, (.q (.mov (.t 18)))⟩] [0, 1, 7, 8])))))))
  (.seq
   (.reg 7 [⟨(some 4), none, (.q (.mov (.c (.int .i64 (-1)))))⟩] [4])
   .ret)))
theorem fok281 : FOK Tryz.prog 281 (19, ic281, [(.t 4)]) := .mk (pf := []) (an := [(0, [0, 1]), (1, [0, 1, 7, 8]), (2, [0, 1, 7, 8, 9]), (3, [0, 1, 5, 7, 8]), (4, [0, 1, 5, 7, 8, 16]), (5, [4]), (6, [0, 1, 7, 8]), (7, [4])]) (by kernel_rfl) (fnOK_of Tryz.func281 (by kernel_rfl) (by kernel_rfl) (by kernel_rfl))
def ic283 : IC :=
 (.seq
 (.reg 0 [oM 4 (cI 0)] [0, 1])
 (.seq
 (.seq
 (.reg 1 [oM 6 0, oQ 7 (.len 0 6), oM 8 (cI 0)] [0, 1, 7, 8])
 (.block 0
 (.loop
 (.seq
 (.reg 2 [oQ 9 (.bin .lss 8 7)] [0, 1, 7, 8, 9])
 (.seq
 (.cond 9
 .skip
 (.exit 0))
 (.seq
 (.block 1
 (.seq
 (.reg 3 [oM 10 8, oM 5 10] [0, 1, 5, 7, 8])
 (.seq
 (.reg 4 [oM 11 1, oM 12 0, oM 13 5, oQ 14 (.iaddr 1 12 13), oQ 15 (.load none 14), oQ 16 (.bin .eql 11 15)] [0, 1, 5, 7, 8, 16])
 (.cond 16
 (.seq
 (.reg 5 [oM 17 5, oM 4 17] [4])
 .ret)
 .skip))))
 (.reg 6 [oQ 18 (.bin .add 8 (cI 1)), oM 8 18] [0, 1, 7, 8])))))))
 (.seq
 (.reg 7 [oM 4 (cI (-1))] [4])
 .ret)))
theorem fok283 : FOK Tryz.prog 283 (19, ic283, [(.t 4)]) := fokA [] Tryz.func283 (by kernel_rfl) (by kernel_rfl) (by kernel_rfl) (by kernel_rfl)
def ic285 : IC :=
 (.seq
 (.reg 0 [oM 3 (cI 0)] [0, 1, 3])
 (.block 0
 (.loop
 (.seq
 (.seq
 (.reg 1 [oM 6 3, oQ 7 (.load none 1), oQ 8 (.len 1 7), oQ 9 (.bin .lss 6 8)] [0, 1, 3, 9])
 (.cond 9
 .skip
 (.exit 0)))
 (.block 1
 (.seq
 (.reg 2 [oQ 10 (.load none 1), oM 11 3, oQ 12 (.istr 10 11), oK 13 (.call 286 [12]), oQ 14 (.bld [(zU 0), (.str [])] [⟨0, ⟨1, 13⟩⟩]), oK 4 (.alloc [(zU 0), (.str [])]), oN (.store 2 4 14)] [0, 1, 3, 4])
 (.seq
 (.reg 3 [oM 15 3, oM 5 15] [0, 1, 3, 4, 5])
 (.seq
 (.seq
 (.reg 4 [oM 16 3, oQ 17 (.bin .add 16 (cI 1)), oM 3 17] [0, 1, 3, 4, 5])
 (.block 2
 (.loop
 (.seq
 (.seq
 (.oreg 5 [(0, oQ 18 (.faddr 0 4), 0), (1, oQ 19 (.load none 18), 0), (2, oQ 20 (.bin .geq 19 (.c (zU 4))), 0), (3, oM 21 20, 0), (4, gQ 22 21 true (.mov 3), 0), (5, gQ 23 21 true (.load none 1), 0), (6, gQ 24 21 true (.len 1 23), 0), (7, gQ 25 21 true (.bin .lss 22 24), 0), (8, oQ 26 (.pick 21 25 (cB false)), 0), (9, oM 27 26, 0), (10, gQ 28 27 true (.load none 1), 0), (11, gQ 29 27 true (.mov 3), 0), (12, gQ 30 27 true (.istr 28 29), 0), (14, gQ 32 27 true (.faddr 0 4), 0), (15, gQ 33 27 true (.load none 32), 0), (13, gK 31 27 true (.call 286 [30]), 32768), (16, gQ 34 27 true (.bin .eql 31 33), 0), (17, oQ 35 (.pick 27 34 (cB false)), 0)] [0, 1, 3, 4, 5, 35])
 (.cond 35
 .skip
 (.exit 2)))
 (.seq
 (.block 3
 .skip)
 (.reg 6 [oM 36 3, oQ 37 (.bin .add 36 (cI 1)), oM 3 37] [0, 1, 3, 4, 5]))))))
 (.seq
 (.seq
 (.reg 7 [oQ 38 (.faddr 0 4), oQ 39 (.load none 38), oQ 40 (.bin .geq 39 (.c (zU 4)))] [0, 1, 3, 4, 5, 40])
 (.cond 40
 (.reg 8 [oQ 41 (.load none 1), oM 42 5, oM 43 3, oQ 44 (.sstr 41 (some 42) (some 43)), oQ 45 (.faddr 1 4), oN (.store 1 45 44)] [0, 1, 3, 4])
 .skip))
 (.seq
 (.seq
 (.reg 9 [oQ 46 (.faddr 0 4), oQ 47 (.load none 46), oQ 48 (.bin .eql 47 (.c (zU 5)))] [0, 1, 3, 4, 48])
 (.cond 48
 (.reg 10 [oQ 49 (.faddr 1 4), oQ 50 (.load none 49), oK 51 (.call 287 [50, (.c (.str [48]))]), oQ 52 (.faddr 1 4), oN (.store 1 52 51)] [0, 1, 3, 4])
 .skip))
 (.seq
 (.reg 11 [oQ 53 (.faddr 0 4), oQ 54 (.load none 53), oQ 55 (.bin .neq 54 (.c (zU 0))), oM 56 55, gQ 57 56 true (.mov 0), gQ 58 56 true (.load (some 2) 4), gK 59 56 true (.callv 57 [58]), gQ 60 56 true (.not 59), oQ 61 (.pick 56 60 (cB false))] [0, 1, 3, 61])
 (.cond 61
 .ret
 .skip))))))))))))
theorem fok285 : FOK Tryz.prog 285 (62, ic285, []) := fokA [] Tryz.func285 (by kernel_rfl) (by kernel_rfl) (by kernel_rfl) (by kernel_rfl)
def ic286 : IC :=
 (.seq
 (.reg 0 [oM 2 (.c (zU 0))] [0])
 (.seq
 (.block 0
 (.seq
 (.reg 1 [oM 4 0, oQ 5 (.bin .eql 4 (.c (zU 126))), oM 3 5] [0, 3])
 (.cond 3
 (.seq
 (.reg 2 [oM 2 (.c (zU 1))] [2])
 .ret)
 (.seq
 (.reg 3 [oM 7 0, oQ 8 (.bin .eql 7 (.c (zU 94))), oM 6 8] [0, 6])
 (.cond 6
 (.seq
 (.reg 4 [oM 2 (.c (zU 3))] [2])
 .ret)
 (.seq
 (.reg 5 [oM 10 0, oQ 11 (.bin .geq 10 (.c (zU 97))), oM 12 11, gQ 13 12 true (.mov 0), gQ 14 12 true (.bin .leq 13 (.c (zU 122))), oQ 15 (.pick 12 14 (cB false)), oM 16 15, gQ 17 16 false (.mov 0), gQ 18 16 false (.bin .geq 17 (.c (zU 65))), gQ 19 16 false (.mov 18), gQ 20 19 true (.mov 0), gQ 21 19 true (.bin .leq 20 (.c (zU 90))), gQ 22 16 false (.pick 19 21 (cB false)), oQ 23 (.pick 16 (cB true) 22), oM 9 23] [0, 9])
 (.cond 9
 (.seq
 (.reg 6 [oM 2 (.c (zU 4))] [2])
 .ret)
 (.seq
 (.reg 7 [oM 25 0, oQ 26 (.bin .geq 25 (.c (zU 48))), oM 27 26, gQ 28 27 true (.mov 0), gQ 29 27 true (.bin .leq 28 (.c (zU 57))), oQ 30 (.pick 27 29 (cB false)), oM 24 30] [24])
 (.cond 24
 (.seq
 (.reg 8 [oM 2 (.c (zU 5))] [2])
 .ret)
 .skip)))))))))
 (.seq
 (.reg 9 [oM 2 (.c (zU 0))] [2])
 .ret)))
theorem fok286 : FOK Tryz.prog 286 (31, ic286, [(.t 2)]) := fokA [] Tryz.func286 (by kernel_rfl) (by kernel_rfl) (by kernel_rfl) (by kernel_rfl)
def ic287 : IC :=
 (.seq
 (.reg 0 [oM 4 (.c (.str []))] [0, 1])
 (.seq
 (.seq
 (.reg 1 [oM 7 0, oQ 8 (.bin .eql 7 (.c (.str []))), oM 9 8, gQ 10 9 false (.mov 1), gQ 11 9 false (.bin .eql 10 (.c (.str []))), oQ 12 (.pick 9 (cB true) 11)] [0, 1, 12])
 (.cond 12
 (.seq
 (.reg 2 [oM 13 0, oM 4 13] [4])
 .ret)
 .skip))
 (.seq
 (.seq
 (.reg 3 [oM 14 1, oQ 15 (.len 1 14), oQ 16 (.bin .eql 15 (cI 1)), oM 17 16, gQ 18 17 true (.mov 1), gQ 19 17 true (.istr 18 (cI 0)), gQ 20 17 true (.bin .lss 19 (.c (zU 128))), oQ 21 (.pick 17 20 (cB false))] [0, 1, 21])
 (.cond 21
 (.seq
 (.reg 4 [oM 22 0, oM 23 1, oQ 24 (.istr 23 (cI 0)), oK 25 (.call 292 [22, 24]), oM 4 25] [4])
 .ret)
 .skip))
 (.seq
 (.seq
 (.reg 5 [oM 27 1, oK 28 (.call 293 [27]), oM 26 28, oQ 29 (.ext 0 26), oQ 30 (.ext 1 26), oK 5 (.alloc [(.bool false), (.bool false), (.bool false), (.bool false), (.bool false), (.bool false), (.bool false), (.bool false), (.bool false), (.bool false), (.bool false), (.bool false), (.bool false), (.bool false), (.bool false), (.bool false), (.bool false), (.bool false), (.bool false), (.bool false), (.bool false), (.bool false), (.bool false), (.bool false), (.bool false), (.bool false), (.bool false), (.bool false), (.bool false), (.bool false), (.bool false), (.bool false), (.bool false), (.bool false), (.bool false), (.bool false), (.bool false), (.bool false), (.bool false), (.bool false), (.bool false), (.bool false), (.bool false), (.bool false), (.bool false), (.bool false), (.bool false), (.bool false), (.bool false), (.bool false), (.bool false), (.bool false), (.bool false), (.bool false), (.bool false), (.bool false), (.bool false), (.bool false), (.bool false), (.bool false), (.bool false), (.bool false), (.bool false), (.bool false), (.bool false), (.bool false), (.bool false), (.bool false), (.bool false), (.bool false), (.bool false), (.bool false), (.bool false), (.bool false), (.bool false), (.bool false), (.bool false), (.bool false), (.bool false), (.bool false), (.bool false), (.bool false), (.bool false), (.bool false), (.bool false), (.bool false), (.bool false), (.bool false), (.bool false), (.bool false), (.bool false), (.bool false), (.bool false), (.bool false), (.bool false), (.bool false), (.bool false), (.bool false), (.bool false), (.bool false), (.bool false), (.bool false), (.bool false), (.bool false), (.bool false), (.bool false), (.bool false), (.bool false), (.bool false), (.bool false), (.bool false), (.bool false), (.bool false), (.bool false), (.bool false), (.bool false), (.bool false), (.bool false), (.bool false), (.bool false), (.bool false), (.bool false), (.bool false), (.bool false), (.bool false), (.bool false), (.bool false), (.bool false), (.bool false), (.bool false), (.bool false), (.bool false), (.bool false), (.bool false), (.bool false), (.bool false), (.bool false), (.bool false), (.bool false), (.bool false), (.bool false), (.bool false), (.bool false), (.bool false), (.bool false), (.bool false), (.bool false), (.bool false), (.bool false), (.bool false), (.bool false), (.bool false), (.bool false), (.bool false), (.bool false), (.bool false), (.bool false), (.bool false), (.bool false), (.bool false), (.bool false), (.bool false), (.bool false), (.bool false), (.bool false), (.bool false), (.bool false), (.bool false), (.bool false), (.bool false), (.bool false), (.bool false), (.bool false), (.bool false), (.bool false), (.bool false), (.bool false), (.bool false), (.bool false), (.bool false), (.bool false), (.bool false), (.bool false), (.bool false), (.bool false), (.bool false), (.bool false), (.bool false), (.bool false), (.bool false), (.bool false), (.bool false), (.bool false), (.bool false), (.bool false), (.bool false), (.bool false), (.bool false), (.bool false), (.bool false), (.bool false), (.bool false), (.bool false), (.bool false), (.bool false), (.bool false), (.bool false), (.bool false), (.bool false), (.bool false), (.bool false), (.bool false), (.bool false), (.bool false), (.bool false), (.bool false), (.bool false), (.bool false), (.bool false), (.bool false), (.bool false), (.bool false), (.bool false), (.bool false), (.bool false), (.bool false), (.bool false), (.bool false), (.bool false), (.bool false), (.bool false), (.bool false), (.bool false), (.bool false), (.bool false), (.bool false), (.bool false), (.bool false), (.bool false), (.bool false), (.bool false), (.bool false), (.bool false), (.bool false), (.bool false), (.bool false), (.bool false), (.bool false), (.bool false), (.bool false), (.bool false), (.bool false), (.bool false), (.bool false), (.bool false), (.bool false)]), oN (.store 256 5 29), oM 6 30] [0, 1, 5, 6])
 (.seq
 (.reg 6 [oM 31 6] [0, 1, 5, 31])
 (.cond 31
 (.seq
 (.reg 7 [oM 32 0, oK 33 (.call 294 [32, 5]), oM 4 33] [4])
 .ret)
 .skip)))
 (.seq
 (.reg 8 [oM 34 0, oM 35 1, oK 36 (.call 295 [34, 35]), oM 4 36] [4])
 .ret)))))
theorem fok287 : FOK Tryz.prog 287 (37, ic287, [(.t 4)]) := fokA [] Tryz.func287 (by kernel_rfl) (by kernel_rfl) (by kernel_rfl) (by kernel_rfl)
def ic288 : IC :=
 (.seq
 (.reg 0 [oM 2 (cB false)] [0])
 (.seq
 (.reg 1 [oM 3 0, oM 4 0, oQ 5 (.bin .neq 3 4), oM 2 5] [2])
 .ret))
theorem fok288 : FOK Tryz.prog 288 (6, ic288, [(.t 2)]) := fokA [] Tryz.func288 (by kernel_rfl) (by kernel_rfl) (by kernel_rfl) (by kernel_rfl)
def ic289 : IC :=
 (.seq
 (.reg 0 [oM 2 (cB false)] [0])
 (.seq
 (.reg 1 [oM 3 0, oM 4 0, oQ 5 (.bin .neq 3 4), oM 2 5] [2])
 .ret))
theorem fok289 : FOK Tryz.prog 289 (6, ic289, [(.t 2)]) := fokA [] Tryz.func289 (by kernel_rfl) (by kernel_rfl) (by kernel_rfl) (by kernel_rfl)
def ic290 : IC :=
 (.seq
 (.reg 0 [oM 8 (cI 0), oM 9 (cI 0)] [0, 1, 2, 3])
 (.seq
 (.seq
 (.dreg 1 [oM 10 0, oM 11 2, oQ 12 (.iaddr 1 10 11), oQ 13 (.load none 12), oM 14 0, oM 15 1, oQ 16 (.iaddr 1 14 15), oQ 17 (.load none 16), oK 18 (.call 244 [13, 17])] false [1, 2, 3, 18])
 (.cond 18
 (.seq
 (.reg 2 [oM 19 3, oQ 20 (.nchk 19), oQ 21 (.load none 20), oQ 22 (.bin .add 21 (cI 1)), oQ 23 (.nchk 19), oN (.store 1 23 22)] [1, 2])
 (.seq
 (.reg 3 [oM 24 2, oM 25 1, oM 8 24, oM 9 25] [8, 9])
 .ret))
 .skip))
 (.seq
 (.reg 4 [oM 26 1, oM 27 2, oM 8 26, oM 9 27] [8, 9])
 .ret)))
theorem fok290 : FOK Tryz.prog 290 (28, ic290, [(.t 8), (.t 9)]) := fokA [] Tryz.func290 (by kernel_rfl) (by kernel_rfl) (by kernel_rfl) (by kernel_rfl)
def ic292 : IC :=
 (.seq
 (.reg 0 [oM 4 (.c (.str []))] [0, 1])
 (.seq
 (.block 0
 (.loop
 (.seq
 (.seq
 (.reg 1 [oM 5 0, oQ 6 (.len 1 5), oQ 7 (.bin .gtr 6 (cI 0)), oM 8 7, gQ 9 8 true (.mov 0), gQ 10 8 true (.istr 9 (cI 0)), gQ 11 8 true (.mov 1), gQ 12 8 true (.bin .eql 10 11), oQ 13 (.pick 8 12 (cB false))] [0, 1, 13])
 (.cond 13
 .skip
 (.exit 0)))
 (.block 1
 (.reg 2 [oM 14 0, oQ 15 (.sstr 14 (some (cI 1)) none), oM 0 15] [0, 1])))))
 (.seq
 (.reg 3 [oM 16 0, oM 4 16] [4])
 .ret)))
theorem fok292 : FOK Tryz.prog 292 (17, ic292, [(.t 4)]) := fokA [] Tryz.func292 (by kernel_rfl) (by kernel_rfl) (by kernel_rfl) (by kernel_rfl)
def ic293 : IC :=
 (.seq
 (.reg 0 [oK 2 (.alloc [(.bool false), (.bool false), (.bool false), (.bool false), (.bool false), (.bool false), (.bool false), (.bool false), (.bool false), (.bool false), (.bool false), (.bool false), (.bool false), (.bool false), (.bool false), (.bool false), (.bool false), (.bool false), (.bool false), (.bool false), (.bool false), (.bool false), (.bool false), (.bool false), (.bool false), (.bool false), (.bool false), (.bool false), (.bool false), (.bool false), (.bool false), (.bool false), (.bool false), (.bool false), (.bool false), (.bool false), (.bool false), (.bool false), (.bool false), (.bool false), (.bool false), (.bool false), (.bool false), (.bool false), (.bool false), (.bool false), (.bool false), (.bool false), (.bool false), (.bool false), (.bool false), (.bool false), (.bool false), (.bool false), (.bool false), (.bool false), (.bool false), (.bool false), (.bool false), (.bool false), (.bool false), (.bool false), (.bool false), (.bool false), (.bool false), (.bool false), (.bool false), (.bool false), (.bool false), (.bool false), (.bool false), (.bool false), (.bool false), (.bool false), (.bool false), (.bool false), (.bool false), (.bool false), (.bool false), (.bool false), (.bool false), (.bool false), (.bool false), (.bool false), (.bool false), (.bool false), (.bool false), (.bool false), (.bool false), (.bool false), (.bool false), (.bool false), (.bool false), (.bool false), (.bool false), (.bool false), (.bool false), (.bool false), (.bool false), (.bool false), (.bool false), (.bool false), (.bool false), (.bool false), (.bool false), (.bool false), (.bool false), (.bool false), (.bool false), (.bool false), (.bool false), (.bool false), (.bool false), (.bool false), (.bool false), (.bool false), (.bool false), (.bool false), (.bool false), (.bool false), (.bool false), (.bool false), (.bool false), (.bool false), (.bool false), (.bool false), (.bool false), (.bool false), (.bool false), (.bool false), (.bool false), (.bool false), (.bool false), (.bool false), (.bool false), (.bool false), (.bool false), (.bool false), (.bool false), (.bool false), (.bool false), (.bool false), (.bool false), (.bool false), (.bool false), (.bool false), (.bool false), (.bool false), (.bool false), (.bool false), (.bool false), (.bool false), (.bool false), (.bool false), (.bool false), (.bool false), (.bool false), (.bool false), (.bool false), (.bool false), (.bool false), (.bool false), (.bool false), (.bool false), (.bool false), (.bool false), (.bool false), (.bool false), (.bool false), (.bool false), (.bool false), (.bool false), (.bool false), (.bool false), (.bool false), (.bool false), (.bool false), (.bool false), (.bool false), (.bool false), (.bool false), (.bool false), (.bool false), (.bool false), (.bool false), (.bool false), (.bool false), (.bool false), (.bool false), (.bool false), (.bool false), (.bool false), (.bool false), (.bool false), (.bool false), (.bool false), (.bool false), (.bool false), (.bool false), (.bool false), (.bool false), (.bool false), (.bool false), (.bool false), (.bool false), (.bool false), (.bool false), (.bool false), (.bool false), (.bool false), (.bool false), (.bool false), (.bool false), (.bool false), (.bool false), (.bool false), (.bool false), (.bool false), (.bool false), (.bool false), (.bool false), (.bool false), (.bool false), (.bool false), (.bool false), (.bool false), (.bool false), (.bool false), (.bool false), (.bool false), (.bool false), (.bool false), (.bool false), (.bool false), (.bool false), (.bool false), (.bool false), (.bool false), (.bool false), (.bool false), (.bool false), (.bool false), (.bool false), (.bool false), (.bool false), (.bool false), (.bool false), (.bool false), (.bool false), (.bool false), (.bool false), (.bool false), (.bool false), (.bool false), (.bool false), (.bool false)]), oM 3 (cB false)] [0, 2])
 (.seq
 (.seq
 (.reg 1 [oM 4 (cI 0)] [0, 2, 4])
 (.block 0
 (.loop
 (.seq
 (.seq
 (.reg 2 [oM 6 4, oM 7 0, oQ 8 (.len 1 7), oQ 9 (.bin .lss 6 8)] [0, 2, 4, 9])
 (.cond 9
 .skip
 (.exit 0)))
 (.seq
 (.block 1
 (.seq
 (.reg 4 [oM 12 0, oM 13 4, oQ 14 (.istr 12 13), oM 5 14] [0, 2, 4, 5])
 (.seq
 (.seq
 (.reg 5 [oM 15 5, oQ 16 (.bin .geq 15 (.c (zU 128)))] [0, 2, 4, 5, 16])
 (.cond 16
 (.seq
 (.reg 6 [oQ 17 (.load (some 256) 2), oN (.store 256 2 17), oM 3 (cB false)] [2, 3])
 .ret)
 .skip))
 (.reg 7 [oM 18 5, oQ 19 (.aaddr 256 1 2 18), oN (.store 1 19 (cB true))] [0, 2, 4]))))
 (.reg 3 [oM 10 4, oQ 11 (.bin .add 10 (cI 1)), oM 4 11] [0, 2, 4]))))))
 (.seq
 (.reg 8 [oQ 20 (.load (some 256) 2), oN (.store 256 2 20), oM 3 (cB true)] [2, 3])
 .ret)))
theorem fok293 : FOK Tryz.prog 293 (21, ic293, [(.cell (some 256) 2), (.t 3)]) := fokA [] Tryz.func293 (by kernel_rfl) (by kernel_rfl) (by kernel_rfl) (by kernel_rfl)
def ic294 : IC :=
 (.seq
 (.reg 0 [oM 4 (.c (.str []))] [0, 1])
 (.seq
 (.block 0
 (.loop
 (.seq
 (.seq
 (.reg 1 [oM 5 0, oQ 6 (.len 1 5), oQ 7 (.bin .gtr 6 (cI 0))] [0, 1, 7])
 (.cond 7
 .skip
 (.exit 0)))
 (.block 1
 (.seq
 (.seq
 (.reg 2 [oM 8 1, oM 9 0, oQ 10 (.istr 9 (cI 0)), oK 11 (.call 300 [8, 10]), oQ 12 (.not 11)] [0, 1, 12])
 (.cond 12
 (.exit 0)
 .skip))
 (.reg 3 [oM 13 0, oQ 14 (.sstr 13 (some (cI 1)) none), oM 0 14] [0, 1]))))))
 (.seq
 (.reg 4 [oM 15 0, oM 4 15] [4])
 .ret)))
theorem fok294 : FOK Tryz.prog 294 (16, ic294, [(.t 4)]) := fokA [] Tryz.func294 (by kernel_rfl) (by kernel_rfl) (by kernel_rfl) (by kernel_rfl)
def ic295 : IC :=
 (.seq
 (.reg 0 [oM 4 (.c (.str []))] [0, 1])
 (.seq
 (.block 0
 (.loop
 (.seq
 (.seq
 (.reg 1 [oM 7 0, oQ 8 (.len 1 7), oQ 9 (.bin .gtr 8 (cI 0))] [0, 1, 9])
 (.cond 9
 .skip
 (.exit 0)))
 (.block 1
 (.seq
 (.reg 2 [oM 11 0, oK 12 (.call 301 [11]), oM 10 12, oQ 13 (.ext 0 10), oQ 14 (.ext 1 10), oM 5 13, oM 6 14] [0, 1, 5, 6])
 (.seq
 (.seq
 (.reg 3 [oM 15 1, oM 16 5, oK 17 (.call 302 [15, 16]), oQ 18 (.not 17)] [0, 1, 6, 18])
 (.cond 18
 (.exit 0)
 .skip))
 (.reg 4 [oM 19 0, oM 20 6, oQ 21 (.sstr 19 (some 20) none), oM 0 21] [0, 1])))))))
 (.seq
 (.reg 5 [oM 22 0, oM 4 22] [4])
 .ret)))
theorem fok295 : FOK Tryz.prog 295 (23, ic295, [(.t 4)]) := fokA [] Tryz.func295 (by kernel_rfl) (by kernel_rfl) (by kernel_rfl) (by kernel_rfl)
def ic300 : IC :=
 (.seq
 (.reg 0 [oM 4 (cB false)] [0, 1])
 (.seq
 (.reg 1 [oM 5 0, oM 6 1, oQ 7 (.nchk 5), oQ 8 (.aaddr 256 1 7 6), oQ 9 (.load none 8), oM 4 9] [4])
 .ret))
theorem fok300 : FOK Tryz.prog 300 (10, ic300, [(.t 4)]) := fokA [] Tryz.func300 (by kernel_rfl) (by kernel_rfl) (by kernel_rfl) (by kernel_rfl)
def ic301 : IC :=
 (.seq
 (.reg 0 [oM 2 (.c (.int .i32 0)), oM 3 (cI 0)] [0])
 (.seq
 (.seq
 (.reg 1 [oM 4 0, oQ 5 (.bin .neq 4 (.c (.str []))), oM 6 5, gQ 7 6 true (.mov 0), gQ 8 6 true (.istr 7 (cI 0)), gQ 9 6 true (.bin .lss 8 (.c (zU 128))), oQ 10 (.pick 6 9 (cB false))] [0, 10])
 (.cond 10
 (.seq
 (.reg 2 [oM 11 0, oQ 12 (.istr 11 (cI 0)), oQ 13 (.conv .i32 12), oM 2 13, oM 3 (cI 1)] [2, 3])
 .ret)
 (.reg 3 [oM 15 0, oK 16 (.call 307 [15]), oM 14 16, oQ 17 (.ext 0 14), oQ 18 (.ext 1 14), oM 2 17, oM 3 18] [2, 3])))
 .ret))
theorem fok301 : FOK Tryz.prog 301 (19, ic301, [(.t 2), (.t 3)]) := fokA [] Tryz.func301 (by kernel_rfl) (by kernel_rfl) (by kernel_rfl) (by kernel_rfl)
def ic302 : IC :=
 (.seq
 (.reg 0 [oM 4 (cB false)] [0, 1])
 (.seq
 (.reg 1 [oM 5 0, oM 6 1, oK 7 (.call 308 [5, 6]), oQ 8 (.bin .geq 7 (cI 0)), oM 4 8] [4])
 .ret))
theorem fok302 : FOK Tryz.prog 302 (9, ic302, [(.t 4)]) := fokA [] Tryz.func302 (by kernel_rfl) (by kernel_rfl) (by kernel_rfl) (by kernel_rfl)
def ic307 : IC :=
 (.seq
 (.reg 0 [oM 2 (.c (.int .i32 0)), oM 3 (cI 0)] [0])
 (.seq
 (.reg 1 [oM 13 0, oQ 14 (.len 1 13), oM 4 14] [0, 4])
 (.seq
 (.seq
 (.reg 2 [oM 15 4, oQ 16 (.bin .lss 15 (cI 1))] [0, 4, 16])
 (.cond 16
 (.seq
 (.reg 3 [oM 2 (.c (.int .i32 65533)), oM 3 (cI 0)] [2, 3])
 .ret)
 .skip))
 (.seq
 (.reg 4 [oM 17 0, oQ 18 (.istr 17 (cI 0)), oM 5 18] [0, 4, 5])
 (.seq
 (.reg 5 [oM 19 5, oQ 20 (.aaddr 256 1 (.g 5) 19), oQ 21 (.load none 20), oM 6 21] [0, 4, 5, 6])
 (.seq
 (.seq
 (.reg 6 [oM 22 6, oQ 23 (.bin .geq 22 (.c (zU 240)))] [0, 4, 5, 6, 23])
 (.cond 23
 (.seq
 (.reg 7 [oM 24 6, oQ 25 (.conv .i32 24), oQ 26 (.bin .shl 25 (.c (.int .u64 31))), oQ 27 (.bin .shr 26 (.c (.int .u64 31))), oM 7 27] [0, 7])
 (.seq
 (.reg 8 [oM 28 0, oQ 29 (.istr 28 (cI 0)), oQ 30 (.conv .i32 29), oM 31 7, oQ 32 (.bin .andNot 30 31), oM 33 7, oQ 34 (.bin .and (.c (.int .i32 65533)) 33), oQ 35 (.bin .or 32 34), oM 2 35, oM 3 (cI 1)] [2, 3])
 .ret))
 .skip))
 (.seq
 (.reg 9 [oM 36 6, oQ 37 (.bin .and 36 (.c (zU 7))), oQ 38 (.conv .i64 37), oM 8 38] [0, 4, 5, 6, 8])
 (.seq
 (.reg 10 [oM 39 6, oQ 40 (.bin .shr 39 (.c (.int .u64 4))), oQ 41 (.aaddr 16 2 (.g 6) 40), oQ 42 (.load (some 2) 41), oK 9 (.alloc [(zU 0), (zU 0)]), oN (.store 2 9 42)] [0, 4, 5, 8, 9])
 (.seq
 (.seq
 (.reg 11 [oM 43 4, oM 44 8, oQ 45 (.bin .lss 43 44)] [0, 5, 8, 9, 45])
 (.cond 45
 (.seq
 (.reg 12 [oM 2 (.c (.int .i32 65533)), oM 3 (cI 1)] [2, 3])
 .ret)
 .skip))
 (.seq
 (.reg 13 [oM 46 0, oQ 47 (.istr 46 (cI 1)), oM 10 47] [0, 5, 8, 9, 10])
 (.seq
 (.seq
 (.reg 14 [oM 48 10, oQ 49 (.faddr 0 9), oQ 50 (.load none 49), oQ 51 (.bin .lss 48 50), oM 52 51, gQ 53 52 false (.faddr 1 9), gQ 54 52 false (.load none 53), gQ 55 52 false (.mov 10), gQ 56 52 false (.bin .lss 54 55), oQ 57 (.pick 52 (cB true) 56)] [0, 5, 8, 10, 57])
 (.cond 57
 (.seq
 (.reg 15 [oM 2 (.c (.int .i32 65533)), oM 3 (cI 1)] [2, 3])
 .ret)
 .skip))
 (.seq
 (.seq
 (.reg 16 [oM 58 8, oQ 59 (.bin .leq 58 (cI 2))] [0, 5, 8, 10, 59])
 (.cond 59
 (.seq
 (.reg 17 [oM 60 5, oQ 61 (.bin .and 60 (.c (zU 31))), oQ 62 (.conv .i32 61), oQ 63 (.bin .shl 62 (.c (.int .u64 6))), oM 64 10, oQ 65 (.bin .and 64 (.c (zU 63))), oQ 66 (.conv .i32 65), oQ 67 (.bin .or 63 66), oM 2 67, oM 3 (cI 2)] [2, 3])
 .ret)
 .skip))
 (.seq
 (.reg 18 [oM 68 0, oQ 69 (.istr 68 (cI 2)), oM 11 69] [0, 5, 8, 10, 11])
 (.seq
 (.seq
 (.reg 19 [oM 70 11, oQ 71 (.bin .lss 70 (.c (zU 128))), oM 72 71, gQ 73 72 false (.mov 11), gQ 74 72 false (.bin .lss (.c (zU 191)) 73), oQ 75 (.pick 72 (cB true) 74)] [0, 5, 8, 10, 11, 75])
 (.cond 75
 (.seq
 (.reg 20 [oM 2 (.c (.int .i32 65533)), oM 3 (cI 1)] [2, 3])
 .ret)
 .skip))
 (.seq
 (.seq
 (.reg 21 [oM 76 8, oQ 77 (.bin .leq 76 (cI 3))] [0, 5, 10, 11, 77])
 (.cond 77
 (.seq
 (.reg 22 [oM 78 5, oQ 79 (.bin .and 78 (.c (zU 15))), oQ 80 (.conv .i32 79), oQ 81 (.bin .shl 80 (.c (.int .u64 12))), oM 82 10, oQ 83 (.bin .and 82 (.c (zU 63))), oQ 84 (.conv .i32 83), oQ 85 (.bin .shl 84 (.c (.int .u64 6))), oQ 86 (.bin .or 81 85), oM 87 11, oQ 88 (.bin .and 87 (.c (zU 63))), oQ 89 (.conv .i32 88), oQ 90 (.bin .or 86 89), oM 2 90, oM 3 (cI 3)] [2, 3])
 .ret)
 .skip))
 (.seq
 (.reg 23 [oM 91 0, oQ 92 (.istr 91 (cI 3)), oM 12 92] [5, 10, 11, 12])
 (.seq
 (.seq
 (.reg 24 [oM 93 12, oQ 94 (.bin .lss 93 (.c (zU 128))), oM 95 94, gQ 96 95 false (.mov 12), gQ 97 95 false (.bin .lss (.c (zU 191)) 96), oQ 98 (.pick 95 (cB true) 97)] [5, 10, 11, 12, 98])
 (.cond 98
 (.seq
 (.reg 25 [oM 2 (.c (.int .i32 65533)), oM 3 (cI 1)] [2, 3])
 .ret)
 .skip))
 (.seq
 (.reg 26 [oM 99 5, oQ 100 (.bin .and 99 (.c (zU 7))), oQ 101 (.conv .i32 100), oQ 102 (.bin .shl 101 (.c (.int .u64 18))), oM 103 10, oQ 104 (.bin .and 103 (.c (zU 63))), oQ 105 (.conv .i32 104), oQ 106 (.bin .shl 105 (.c (.int .u64 12))), oQ 107 (.bin .or 102 106), oM 108 11, oQ 109 (.bin .and 108 (.c (zU 63))), oQ 110 (.conv .i32 109), oQ 111 (.bin .shl 110 (.c (.int .u64 6))), oQ 112 (.bin .or 107 111), oM 113 12, oQ 114 (.bin .and 113 (.c (zU 63))), oQ 115 (.conv .i32 114), oQ 116 (.bin .or 112 115), oM 2 116, oM 3 (cI 4)] [2, 3])
 .ret))))))))))))))))))
theorem fok307 : FOK Tryz.prog 307 (117, ic307, [(.t 2), (.t 3)]) := fokA [] Tryz.func307 (by kernel_rfl) (by kernel_rfl) (by kernel_rfl) (by kernel_rfl)
def ic308 : IC :=
 (.seq
 (.reg 0 [oM 4 (cI 0)] [0, 1])
 (.block 0
 (.seq
 (.reg 34 [oM 161 1, oQ 162 (.bin .leq (.c (.int .i32 0)) 161), oM 163 162, gQ 164 163 true (.mov 1), gQ 165 163 true (.bin .lss 164 (.c (.int .i32 128))), oQ 166 (.pick 163 165 (cB false)), oM 160 166] [0, 1, 160])
 (.cond 160
 (.seq
 (.reg 35 [oM 167 0, oM 168 1, oQ 169 (.conv .u8 168), oK 170 (.call 208 [167, 169]), oM 4 170] [4])
 .ret)
 (.seq
 (.reg 36 [oM 172 1, oQ 173 (.bin .eql 172 (.c (.int .i32 65533))), oM 171 173] [0, 1, 171])
 (.cond 171
 (.seq
 (.seq
 (.reg 37 [oM 174 0, oK 175 (.srange 174)] [175])
 (.block 9
 (.loop
 (.seq
 (.reg 38 [oK 176 (.snext 175), oQ 177 (.ext 0 176)] [175, 176, 177])
 (.seq
 (.cond 177
 .skip
 (.exit 9))
 (.block 10
 (.seq
 (.reg 39 [oQ 178 (.ext 1 176), oQ 179 (.ext 2 176), oM 5 178, oM 6 179] [5, 6, 175])
 (.seq
 (.reg 40 [oM 180 6, oQ 181 (.bin .eql 180 (.c (.int .i32 65533)))] [5, 175, 181])
 (.cond 181
 (.seq
 (.reg 41 [oM 182 5, oM 4 182] [4])
 .ret)
 .skip)))))))))
 (.seq
 (.reg 42 [oM 4 (cI (-1))] [4])
 .ret))
 (.seq
 (.reg 43 [oM 184 1, oK 185 (.call 311 [184]), oQ 186 (.not 185), oM 183 186] [183])
 (.cond 183
 (.seq
 (.reg 44 [oM 4 (cI (-1))] [4])
 .ret)
 (.reg 0 [oN (.st .nev [])] [])))))))))
theorem fok308 : FOK Tryz.prog 308 (187, ic308, [(.t 4)]) := fokA [] Tryz.func308 (by kernel_rfl) (by kernel_rfl) (by kernel_rfl) (by kernel_rfl)
def ic311 : IC :=
 (.seq
 (.reg 0 [oM 2 (cB false)] [0])
 (.seq
 (.block 0
 (.seq
 (.reg 1 [oM 4 0, oQ 5 (.bin .leq (.c (.int .i32 0)) 4), oM 6 5, gQ 7 6 true (.mov 0), gQ 8 6 true (.bin .lss 7 (.c (.int .i32 55296))), oQ 9 (.pick 6 8 (cB false)), oM 3 9] [0, 3])
 (.cond 3
 (.seq
 (.reg 2 [oM 2 (cB true)] [2])
 .ret)
 (.seq
 (.reg 3 [oM 11 0, oQ 12 (.bin .lss (.c (.int .i32 57343)) 11), oM 13 12, gQ 14 13 true (.mov 0), gQ 15 13 true (.bin .leq 14 (.c (.int .i32 1114111))), oQ 16 (.pick 13 15 (cB false)), oM 10 16] [10])
 (.cond 10
 (.seq
 (.reg 4 [oM 2 (cB true)] [2])
 .ret)
 .skip)))))
 (.seq
 (.reg 5 [oM 2 (cB false)] [2])
 .ret)))
theorem fok311 : FOK Tryz.prog 311 (17, ic311, [(.t 2)]) := fokA [] Tryz.func311 (by kernel_rfl) (by kernel_rfl) (by kernel_rfl) (by kernel_rfl)
end Go.Id.Tryz
