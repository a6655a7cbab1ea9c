/- The compiled codes of functions, written by a program out of the given form. Conditions: none. -/
import Derived.Test.YtiallonafbejaaaGreatDoorFwW
import Derived.Test.YtiallonafbejaaaGreatDoorProg
set_option linter.all false
namespace Go.Id.Tryz
open Go Go.Id Go.Proofs
def allF3 : List Nat := List.range 357
def ic226 : IC :=
 (.seq
 (.reg 0 [oM 2 (cI 0)] [0, 2])
 (.seq
 (.seq
 (.reg 1 [oM 3 0, oQ 4 (.bin .geq 3 (.c (.int .u32 65536)))] [0, 2, 4])
 (.cond 4
 (.seq
 (.reg 2 [oM 5 0, oQ 6 (.bin .shr 5 (.c (.int .u64 16))), oM 0 6] [0])
 (.reg 3 [oM 2 (cI 16)] [0, 2]))
 .skip))
 (.seq
 (.seq
 (.reg 4 [oM 7 0, oQ 8 (.bin .geq 7 (.c (.int .u32 256)))] [0, 2, 8])
 (.cond 8
 (.seq
 (.reg 5 [oM 9 0, oQ 10 (.bin .shr 9 (.c (.int .u64 8))), oM 0 10] [0, 2])
 (.reg 6 [oM 11 2, oQ 12 (.bin .add 11 (cI 8)), oM 2 12] [0, 2]))
 .skip))
 (.seq
 (.reg 7 [oM 13 2, oM 14 0, oQ 15 (.conv .u8 14), oQ 16 (.istr (.c (.str [0, 1, 2, 2, 3, 3, 3, 3, 4, 4, 4, 4, 4, 4, 4, 4, 5, 5, 5, 5, 5, 5, 5, 5, 5, 5, 5, 5, 5, 5, 5, 5, 6, 6, 6, 6, 6, 6, 6, 6, 6, 6, 6, 6, 6, 6, 6, 6, 6, 6, 6, 6, 6, 6, 6, 6, 6, 6, 6, 6, 6, 6, 6, 6, 7, 7, 7, 7, 7, 7, 7, 7, 7, 7, 7, 7, 7, 7, 7, 7, 7, 7, 7, 7, 7, 7, 7, 7, 7, 7, 7, 7, 7, 7, 7, 7, 7, 7, 7, 7, 7, 7, 7, 7, 7, 7, 7, 7, 7, 7, 7, 7, 7, 7, 7, 7, 7, 7, 7, 7, 7, 7, 7, 7, 7, 7, 7, 7, 8, 8, 8, 8, 8, 8, 8, 8, 8, 8, 8, 8, 8, 8, 8, 8, 8, 8, 8, 8, 8, 8, 8, 8, 8, 8, 8, 8, 8, 8, 8, 8, 8, 8, 8, 8, 8, 8, 8, 8, 8, 8, 8, 8, 8, 8, 8, 8, 8, 8, 8, 8, 8, 8, 8, 8, 8, 8, 8, 8, 8, 8, 8, 8, 8, 8, 8, 8, 8, 8, 8, 8, 8, 8, 8, 8, 8, 8, 8, 8, 8, 8, 8, 8, 8, 8, 8, 8, 8, 8, 8, 8, 8, 8, 8, 8, 8, 8, 8, 8, 8, 8, 8, 8, 8, 8, 8, 8, 8, 8, 8, 8, 8, 8, 8, 8, 8, 8, 8, 8, 8, 8, 8, 8, 8, 8, 8, 8])) 15), oQ 17 (.conv .i64 16), oQ 18 (.bin .add 13 17), oM 2 18] [2])
 .ret))))
theorem fok226 : FOK Tryz.prog 226 (19, ic226, [(.t 2)]) := fokA [2000000] Tryz.func226 (by kernel_rfl) (by kernel_rfl) (by kernel_rfl) (by kernel_rfl)
def ic227 : IC :=
 (.seq
 (.reg 0 [oM 2 (cI 0)] [0, 2])
 (.seq
 (.seq
 (.reg 1 [oM 3 0, oQ 4 (.bin .geq 3 (.c (.int .u64 4294967296)))] [0, 2, 4])
 (.cond 4
 (.seq
 (.reg 2 [oM 5 0, oQ 6 (.bin .shr 5 (.c (.int .u64 32))), oM 0 6] [0])
 (.reg 3 [oM 2 (cI 32)] [0, 2]))
 .skip))
 (.seq
 (.seq
 (.reg 4 [oM 7 0, oQ 8 (.bin .geq 7 (.c (.int .u64 65536)))] [0, 2, 8])
 (.cond 8
 (.seq
 (.reg 5 [oM 9 0, oQ 10 (.bin .shr 9 (.c (.int .u64 16))), oM 0 10] [0, 2])
 (.reg 6 [oM 11 2, oQ 12 (.bin .add 11 (cI 16)), oM 2 12] [0, 2]))
 .skip))
 (.seq
 (.seq
 (.reg 7 [oM 13 0, oQ 14 (.bin .geq 13 (.c (.int .u64 256)))] [0, 2, 14])
 (.cond 14
 (.seq
 (.reg 8 [oM 15 0, oQ 16 (.bin .shr 15 (.c (.int .u64 8))), oM 0 16] [0, 2])
 (.reg 9 [oM 17 2, oQ 18 (.bin .add 17 (cI 8)), oM 2 18] [0, 2]))
 .skip))
 (.seq
 (.reg 10 [oM 19 2, oM 20 0, oQ 21 (.conv .u8 20), oQ 22 (.istr (.c (.str [0, 1, 2, 2, 3, 3, 3, 3, 4, 4, 4, 4, 4, 4, 4, 4, 5, 5, 5, 5, 5, 5, 5, 5, 5, 5, 5, 5, 5, 5, 5, 5, 6, 6, 6, 6, 6, 6, 6, 6, 6, 6, 6, 6, 6, 6, 6, 6, 6, 6, 6, 6, 6, 6, 6, 6, 6, 6, 6, 6, 6, 6, 6, 6, 7, 7, 7, 7, 7, 7, 7, 7, 7, 7, 7, 7, 7, 7, 7, 7, 7, 7, 7, 7, 7, 7, 7, 7, 7, 7, 7, 7, 7, 7, 7, 7, 7, 7, 7, 7, 7, 7, 7, 7, 7, 7, 7, 7, 7, 7, 7, 7, 7, 7, 7, 7, 7, 7, 7, 7, 7, 7, 7, 7, 7, 7, 7, 7, 8, 8, 8, 8, 8, 8, 8, 8, 8, 8, 8, 8, 8, 8, 8, 8, 8, 8, 8, 8, 8, 8, 8, 8, 8, 8, 8, 8, 8, 8, 8, 8, 8, 8, 8, 8, 8, 8, 8, 8, 8, 8, 8, 8, 8, 8, 8, 8, 8, 8, 8, 8, 8, 8, 8, 8, 8, 8, 8, 8, 8, 8, 8, 8, 8, 8, 8, 8, 8, 8, 8, 8, 8, 8, 8, 8, 8, 8, 8, 8, 8, 8, 8, 8, 8, 8, 8, 8, 8, 8, 8, 8, 8, 8, 8, 8, 8, 8, 8, 8, 8, 8, 8, 8, 8, 8, 8, 8, 8, 8, 8, 8, 8, 8, 8, 8, 8, 8, 8, 8, 8, 8, 8, 8, 8, 8, 8, 8])) 21), oQ 23 (.conv .i64 22), oQ 24 (.bin .add 19 23), oM 2 24] [2])
 .ret)))))
theorem fok227 : FOK Tryz.prog 227 (25, ic227, [(.t 2)]) := fokA [2000000] Tryz.func227 (by kernel_rfl) (by kernel_rfl) (by kernel_rfl) (by kernel_rfl)
def ic228 : IC :=
 (.seq
 (.reg 0 [oM 2 (.c (zU 0))] [0])
 (.seq
 (.reg 1 [oQ 3 (.bld [(zU 0), (zU 0), (zU 0)] [⟨0, ⟨1, (.c (zU 1))⟩⟩, ⟨1, ⟨1, (.c (zU 2))⟩⟩, ⟨2, ⟨1, (.c (zU 4))⟩⟩]), oM 4 0, oQ 5 (.bin .add 4 (cI 1)), oQ 6 (.idx none 3 1 3 5), oM 2 6] [2])
 .ret))
theorem fok228 : FOK Tryz.prog 228 (7, ic228, [(.t 2)]) := fokA [2000000] Tryz.func228 (by kernel_rfl) (by kernel_rfl) (by kernel_rfl) (by kernel_rfl)
def ic230 : IC :=
(.seq
 (.reg 0 [⟨(some 2), none, (.q (.mov (.c (.bool false))))⟩] [0])
 (.seq
  (.reg 1 [⟨(some 3), none, (.q (.mov (.t 0)))⟩, ⟨(some 4), none, (.q (.bin .eql (.t 3) (.c (.int .u8 0))))⟩, ⟨(some 5), none, (.q (.mov (.t 4)))⟩, ⟨(some 6), (some ⟨5, false⟩), (.q (.mov (.t 0)))⟩, ⟨(some 7), (some ⟨5, false⟩), (.call 280 [(.t 6)])⟩, ⟨(some 8), (some ⟨5, false⟩), (.q (.bin .neq (.t 7) (.c (.str []))))⟩, ⟨(some 9), none, (.q (.pick (.t 5) (.c (.bool true)) (.t 8)))⟩, ⟨(some 2), none, (.q (.mov (.t 9)))⟩] [2])
  .ret))
theorem fok230 : FOK Tryz.prog 230 (10, ic230, [(.t 2)]) := .mk (pf := []) (an := [(0, [0]), (1, [2])]) (by kernel_rfl) (fnOK_of Tryz.func230 (by kernel_rfl) (by kernel_rfl) (by kernel_rfl))
def ic235 : IC :=
 (.seq
 (.reg 0 [oM 2 (.c .nilslice)] [0, 2])
 (.seq
 (.reg 1 [oK 3 (.alloc [.nilslice])] [0, 2, 3])
 (.seq
 (.seq
 (.reg 2 [oM 5 0, oK 6 (.call 281 [5])] [2, 3, 6])
 (.block 0
 (.rfunc 6 [7]
 (.reg 3 [oK 4 (.alloc [(zU 0), (.str [])]), oN (.store 2 4 7)] [3, 4])
 (.block 1
 (.reg 4 [oQ 8 (.load none 3), oQ 9 (.load (some 2) 4), oK 10 (.bslt 2 1 [(zU 0), (.str [])] [⟨0, ⟨2, 9⟩⟩]), oK 11 (.app 2 8 10), oN (.store 1 3 11)] [])))))
 (.seq
 (.reg 5 [oQ 12 (.load none 3), oM 2 12] [2])
 .ret))))
theorem fok235 : FOK Tryz.prog 235 (13, ic235, [(.t 2)]) := fokA [1000010, 2000000] Tryz.func235 (by kernel_rfl) (by kernel_rfl) (by kernel_rfl) (by kernel_rfl)
def ic236 : IC :=
 (.seq
 (.reg 0 [oK 2 (.boxt 0), oK 3 (.boxt 1), oM 4 (cI 0)] [2, 3])
 (.seq
 (.reg 1 [oM 5 (cI 0)] [2, 3, 5])
 (.seq
 (.seq
 (.reg 2 [oQ 6 (.faddr 0 2), oQ 7 (.load none 6), oQ 8 (.bin .eql 7 (.c (zU 5))), oM 9 8, gQ 10 9 true (.faddr 0 3), gQ 11 9 true (.load none 10), gQ 12 9 true (.bin .eql 11 (.c (zU 5))), oQ 13 (.pick 9 12 (cB false))] [2, 3, 5, 13])
 (.cond 13
 (.reg 3 [oQ 14 (.faddr 1 2), oQ 15 (.load none 14), oQ 16 (.len 1 15), oQ 17 (.faddr 1 3), oQ 18 (.load none 17), oQ 19 (.len 1 18), oK 20 (.call 126 [16, 19]), oM 5 20] [2, 3, 5])
 .skip))
 (.seq
 (.oreg 4 [(0, oQ 21 (.faddr 0 2), 0), (1, oQ 22 (.load none 21), 0), (2, oQ 23 (.faddr 0 3), 0), (3, oQ 24 (.load none 23), 0), (5, oM 26 5, 0), (6, oQ 27 (.faddr 1 2), 0), (7, oQ 28 (.load none 27), 0), (8, oQ 29 (.faddr 1 3), 0), (9, oQ 30 (.load none 29), 0), (4, oK 25 (.call 283 [22, 24]), 640), (10, oK 31 (.call 284 [28, 30]), 0), (11, oK 32 (.bslt 1 3 [(zI 0)] [⟨0, ⟨1, 25⟩⟩, ⟨1, ⟨1, 26⟩⟩, ⟨2, ⟨1, 31⟩⟩]), 0), (12, oK 33 (.call 282 [32]), 0), (13, oM 4 33, 0)] [4])
 .ret))))
theorem fok236 : FOK Tryz.prog 236 (34, ic236, [(.t 4)]) := fokA [1000002, 1000003, 1000032, 2000000] Tryz.func236 (by kernel_rfl) (by kernel_rfl) (by kernel_rfl) (by kernel_rfl)
def ic239 : IC :=
(.seq
 (.reg 0 [⟨(some 1), none, (.boxt (.t 0))⟩, ⟨(some 2), none, (.q (.mov (.c .nilfunc)))⟩] [1])
 (.seq
  (.reg 1 [⟨(some 3), none, (.alloc [.nilfunc])⟩] [1, 3])
  (.seq
   (.reg 2 [⟨(some 4), none, (.q (.mkf 285 [] [(.t 3)]))⟩, ⟨none, none, (.store 1 (.t 3) (.t 4))⟩] [1, 3])
   (.seq
    (.reg 3 [⟨(some 5), none, (.q (.mkf 286 [] [(.t 3), (.t 1)]))⟩, ⟨(some 2), none, (.q (.mov (.t 5)))⟩] [2])
    .ret))))
theorem fok239 : FOK Tryz.prog 239 (6, ic239, [(.t 2)]) := .mk (pf := [1000001]) (an := [(0, [1]), (1, [1, 3]), (2, [1, 3]), (3, [2])]) (by kernel_rfl) (fnOK_of Tryz.func239 (by kernel_rfl) (by kernel_rfl) (by kernel_rfl))
def ic240 : IC :=
(.seq
 (.reg 0 [⟨(some 4), none, (.q (.mov (.c (.int .i64 0))))⟩] [0, 1])
 (.seq
  (.seq
   (.reg 1 [⟨(some 6), none, (.q (.mov (.t 0)))⟩, ⟨(some 7), none, (.q (.len 0 (.t 6)))⟩, ⟨(some 8), none, (.q (.mov (.c (.int .i64 0))))⟩] [0, 1, 7, 8])
   (.block 0
    (.loop
     (.seq
      (.reg 2 [⟨(some 9), none, (.q (.bin .lss (.t 8) (.t 7)))⟩] [0, 1, 7, 8, 9])
      (.seq
       (.cond (.t 9)
        .skip
        (.exit 0))
       (.seq
        (.block 1
         (.seq
          (.reg 3 [⟨(some 10), none, (.q (.mov (.t 8)))⟩, ⟨(some 5), none, (.q (.mov (.t 10)))⟩] [0, 1, 5, 7, 8])
          (.seq
           (.reg 4 [⟨(some 11), none, (.q (.mov (.t 1)))⟩, ⟨(some 12), none, (.q (.mov (.t 0)))⟩, ⟨(some 13), none, (.q (.mov (.t 5)))⟩, ⟨(some 14), none, (.q (.iaddr 7 (.t 12) (.t 13)))⟩, ⟨(some 15), none, (.q (.load (some 7) (.t 14)))⟩, ⟨(some 16), none, (.callv (.t 11) [(.t 15)])⟩] [0, 1, 5, 7, 8, 16])
           (.cond (.t 16)
            (.seq
            (.reg 5 [⟨(some 17), none, (.q (.mov (.t 5)))⟩, ⟨(some 4), none, (.q (.mov (.t 17)))⟩] [4])
            .ret)
            .skip))))
        (.reg 6 [⟨(some 18), none, (.q (.bin .add (.t 8) (.c (.int .i64 1))))⟩, ⟨(some 8), none, (.q (.mov (.t 18)))⟩] [0, 1, 7, 8])))))))
  (.seq
   (.reg 7 [⟨(some 4), none, (.q (.mov (.c (.int .i64 (-1)))))⟩] [4])
   .ret)))
theorem fok240 : FOK Tryz.prog 240 (19, ic240, [(.t 4)]) := .mk (pf := []) (an := [(0, [0, 1]), (1, [0, 1, 7, 8]), (2, [0, 1, 7, 8, 9]), (3, [0, 1, 5, 7, 8]), (4, [0, 1, 5, 7, 8, 16]), (5, [4]), (6, [0, 1, 7, 8]), (7, [4])]) (by kernel_rfl) (fnOK_of Tryz.func240 (by kernel_rfl) (by kernel_rfl) (by kernel_rfl))
def ic244 : IC :=
 (.seq
 (.reg 0 [oM 10 1, oQ 11 (.bin .add 10 (cI 1)), oM 8 11] [0, 1, 2, 3, 8])
 (.block 0
 (.loop
 (.seq
 (.seq
 (.reg 1 [oM 12 8, oM 13 2, oQ 14 (.bin .lss 12 13)] [0, 1, 2, 3, 8, 14])
 (.cond 14
 .skip
 (.exit 0)))
 (.seq
 (.block 1
 (.seq
 (.reg 3 [oM 17 8, oM 9 17] [0, 1, 2, 3, 8, 9])
 (.block 2
 (.loop
 (.seq
 (.seq
 (.dreg 4 [oM 18 9, oM 19 1, oQ 20 (.bin .gtr 18 19), oM 21 20, gQ 22 21 true (.mov 3), gQ 23 21 true (.mov 0), gQ 24 21 true (.mov 9), gQ 25 21 true (.iaddr 1 23 24), gQ 26 21 true (.load none 25), gQ 27 21 true (.mov 0), gQ 28 21 true (.mov 9), gQ 29 21 true (.bin .sub 28 (cI 1)), gQ 30 21 true (.iaddr 1 27 29), gQ 31 21 true (.load none 30), gK 32 21 true (.callv 22 [26, 31]), gQ 33 21 true (.bin .lss 32 (cI 0)), oQ 34 (.pick 21 33 (cB false))] false [0, 1, 2, 3, 8, 9, 34])
 (.cond 34
 .skip
 (.exit 2)))
 (.seq
 (.block 3
 (.dreg 6 [oM 37 0, oM 38 9, oM 39 0, oM 40 9, oQ 41 (.bin .sub 40 (cI 1)), oM 42 0, oM 43 9, oQ 44 (.bin .sub 43 (cI 1)), oQ 45 (.iaddr 1 42 44), oQ 46 (.load none 45), oM 47 0, oM 48 9, oQ 49 (.iaddr 1 47 48), oQ 50 (.load none 49), oQ 51 (.iaddr 1 37 38), oN (.store 1 51 46), oQ 52 (.iaddr 1 39 41), oN (.store 1 52 50)] false [0, 1, 2, 3, 8, 9]))
 (.reg 5 [oM 35 9, oQ 36 (.bin .sub 35 (cI 1)), oM 9 36] [0, 1, 2, 3, 8, 9])))))))
 (.reg 2 [oM 15 8, oQ 16 (.bin .add 15 (cI 1)), oM 8 16] [0, 1, 2, 3, 8]))))))
theorem fok244 : FOK Tryz.prog 244 (53, ic244, []) := fokA [2000000] Tryz.func244 (by kernel_rfl) (by kernel_rfl) (by kernel_rfl) (by kernel_rfl)
def ic245 : IC :=
 (.seq
 (.reg 0 [oM 13 1, oM 8 13] [0, 1, 2, 3, 8])
 (.seq
 (.reg 1 [oM 9 (cI 0)] [0, 1, 2, 3, 8, 9])
 (.seq
 (.reg 2 [oM 14 2, oM 15 1, oQ 16 (.bin .sub 14 15), oM 10 16] [0, 3, 8, 9, 10])
 (.seq
 (.seq
 (.reg 3 [oM 17 10, oQ 18 (.bin .sub 17 (cI 1)), oQ 19 (.bin .quo 18 (cI 2)), oM 11 19] [0, 3, 8, 9, 10, 11])
 (.block 0
 (.loop
 (.seq
 (.seq
 (.reg 4 [oM 20 11, oQ 21 (.bin .geq 20 (cI 0))] [0, 3, 8, 9, 10, 11, 21])
 (.cond 21
 .skip
 (.exit 0)))
 (.seq
 (.block 1
 (.reg 6 [oM 24 0, oM 25 11, oM 26 10, oM 27 8, oM 28 3, oK 29 (.call 295 [24, 25, 26, 27, 28])] [0, 3, 8, 9, 10, 11]))
 (.reg 5 [oM 22 11, oQ 23 (.bin .sub 22 (cI 1)), oM 11 23] [0, 3, 8, 9, 10, 11]))))))
 (.seq
 (.reg 7 [oM 30 10, oQ 31 (.bin .sub 30 (cI 1)), oM 12 31] [0, 3, 8, 9, 12])
 (.block 2
 (.loop
 (.seq
 (.seq
 (.reg 8 [oM 32 12, oQ 33 (.bin .geq 32 (cI 0))] [0, 3, 8, 9, 12, 33])
 (.cond 33
 .skip
 (.exit 2)))
 (.seq
 (.block 3
 (.seq
 (.dreg 10 [oM 36 0, oM 37 8, oM 38 0, oM 39 8, oM 40 12, oQ 41 (.bin .add 39 40), oM 42 0, oM 43 8, oM 44 12, oQ 45 (.bin .add 43 44), oQ 46 (.iaddr 1 42 45), oQ 47 (.load none 46), oM 48 0, oM 49 8, oQ 50 (.iaddr 1 48 49), oQ 51 (.load none 50), oQ 52 (.iaddr 1 36 37), oN (.store 1 52 47), oQ 53 (.iaddr 1 38 41), oN (.store 1 53 51)] false [0, 3, 8, 9, 12])
 (.reg 11 [oM 54 0, oM 55 9, oM 56 12, oM 57 8, oM 58 3, oK 59 (.call 295 [54, 55, 56, 57, 58])] [0, 3, 8, 9, 12])))
 (.reg 9 [oM 34 12, oQ 35 (.bin .sub 34 (cI 1)), oM 12 35] [0, 3, 8, 9, 12]))))))))))
theorem fok245 : FOK Tryz.prog 245 (60, ic245, []) := fokA [2000000] Tryz.func245 (by kernel_rfl) (by kernel_rfl) (by kernel_rfl) (by kernel_rfl)
def ic246 : IC :=
 (.seq
 (.reg 0 [oM 13 2, oM 14 1, oQ 15 (.bin .sub 13 14), oM 8 15] [0, 1, 8])
 (.seq
 (.reg 1 [oM 16 8, oQ 17 (.bin .geq 16 (cI 8))] [0, 1, 8, 17])
 (.cond 17
 (.seq
 (.reg 2 [oM 18 8, oQ 19 (.conv .u64 18), oK 9 (.alloc [(.int .u64 0)]), oN (.store 1 9 19)] [0, 1, 8, 9])
 (.seq
 (.reg 3 [oM 20 8, oK 21 (.call 276 [20]), oM 10 21] [0, 1, 8, 9, 10])
 (.seq
 (.reg 4 [oM 22 1, oM 23 8, oQ 24 (.bin .quo 23 (cI 4)), oQ 25 (.bin .mul 24 (cI 2)), oQ 26 (.bin .add 22 25), oQ 27 (.bin .sub 26 (cI 1)), oM 11 27] [0, 1, 8, 9, 10, 11])
 (.block 0
 (.loop
 (.seq
 (.seq
 (.reg 5 [oM 28 11, oM 29 1, oM 30 8, oQ 31 (.bin .quo 30 (cI 4)), oQ 32 (.bin .mul 31 (cI 2)), oQ 33 (.bin .add 29 32), oQ 34 (.bin .add 33 (cI 1)), oQ 35 (.bin .leq 28 34)] [0, 1, 8, 9, 10, 11, 35])
 (.cond 35
 .skip
 (.exit 0)))
 (.seq
 (.block 1
 (.seq
 (.reg 7 [oK 38 (.call 277 [9]), oM 39 10, oQ 40 (.bin .sub 39 (.c (.int .u64 1))), oQ 41 (.bin .and 38 40), oQ 42 (.conv .i64 41), oM 12 42] [0, 1, 8, 9, 10, 11, 12])
 (.seq
 (.seq
 (.reg 8 [oM 43 12, oM 44 8, oQ 45 (.bin .geq 43 44)] [0, 1, 8, 9, 10, 11, 12, 45])
 (.cond 45
 (.reg 9 [oM 46 12, oM 47 8, oQ 48 (.bin .sub 46 47), oM 12 48] [0, 1, 8, 9, 10, 11, 12])
 .skip))
 (.dreg 10 [oM 49 0, oM 50 11, oM 51 0, oM 52 1, oM 53 12, oQ 54 (.bin .add 52 53), oM 55 0, oM 56 1, oM 57 12, oQ 58 (.bin .add 56 57), oQ 59 (.iaddr 1 55 58), oQ 60 (.load none 59), oM 61 0, oM 62 11, oQ 63 (.iaddr 1 61 62), oQ 64 (.load none 63), oQ 65 (.iaddr 1 49 50), oN (.store 1 65 60), oQ 66 (.iaddr 1 51 54), oN (.store 1 66 64)] false [0, 1, 8, 9, 10, 11]))))
 (.reg 6 [oM 36 11, oQ 37 (.bin .add 36 (cI 1)), oM 11 37] [0, 1, 8, 9, 10, 11]))))))))
 .skip)))
theorem fok246 : FOK Tryz.prog 246 (67, ic246, []) := fokA [2000000] Tryz.func246 (by kernel_rfl) (by kernel_rfl) (by kernel_rfl) (by kernel_rfl)
def ic247 : IC :=
 (.seq
 (.reg 0 [oM 8 (cI 0), oM 9 (cI 0)] [0, 1, 2, 3])
 (.seq
 (.reg 1 [oM 15 2, oM 16 1, oQ 17 (.bin .sub 15 16), oM 10 17] [0, 1, 3, 10])
 (.seq
 (.reg 2 [oK 11 (.alloc [(zI 0)])] [0, 1, 3, 10, 11])
 (.seq
 (.reg 3 [oM 18 1, oM 19 10, oQ 20 (.bin .quo 19 (cI 4)), oQ 21 (.bin .mul 20 (cI 1)), oQ 22 (.bin .add 18 21), oM 12 22] [0, 1, 3, 10, 11, 12])
 (.seq
 (.reg 4 [oM 23 1, oM 24 10, oQ 25 (.bin .quo 24 (cI 4)), oQ 26 (.bin .mul 25 (cI 2)), oQ 27 (.bin .add 23 26), oM 13 27] [0, 1, 3, 10, 11, 12, 13])
 (.seq
 (.reg 5 [oM 28 1, oM 29 10, oQ 30 (.bin .quo 29 (cI 4)), oQ 31 (.bin .mul 30 (cI 3)), oQ 32 (.bin .add 28 31), oM 14 32] [0, 3, 10, 11, 12, 13, 14])
 (.seq
 (.seq
 (.reg 6 [oM 33 10, oQ 34 (.bin .geq 33 (cI 8))] [0, 3, 10, 11, 12, 13, 14, 34])
 (.cond 34
 (.seq
 (.seq
 (.reg 7 [oM 35 10, oQ 36 (.bin .geq 35 (cI 50))] [0, 3, 11, 12, 13, 14, 36])
 (.cond 36
 (.seq
 (.reg 8 [oM 37 0, oM 38 12, oM 39 3, oK 40 (.call 296 [37, 38, 11, 39]), oM 12 40] [0, 3, 11, 12, 13, 14])
 (.seq
 (.reg 9 [oM 41 0, oM 42 13, oM 43 3, oK 44 (.call 296 [41, 42, 11, 43]), oM 13 44] [0, 3, 11, 12, 13, 14])
 (.reg 10 [oM 45 0, oM 46 14, oM 47 3, oK 48 (.call 296 [45, 46, 11, 47]), oM 14 48] [0, 3, 11, 12, 13, 14])))
 .skip))
 (.reg 11 [oM 49 0, oM 50 12, oM 51 13, oM 52 14, oM 53 3, oK 54 (.call 297 [49, 50, 51, 52, 11, 53]), oM 13 54] [11, 13]))
 .skip))
 (.seq
 (.reg 12 [oQ 55 (.load none 11)] [13, 55])
 (.block 0
 (.seq
 (.reg 14 [oQ 58 (.bin .eql 55 (cI 0)), oM 57 58] [13, 55, 57])
 (.cond 57
 (.seq
 (.reg 15 [oM 59 13, oM 8 59, oM 9 (cI 1)] [8, 9])
 .ret)
 (.seq
 (.reg 16 [oQ 61 (.bin .eql 55 (cI 12)), oM 60 61] [13, 60])
 (.cond 60
 (.seq
 (.reg 17 [oM 62 13, oM 8 62, oM 9 (cI 2)] [8, 9])
 .ret)
 (.seq
 (.reg 13 [oM 56 13, oM 8 56, oM 9 (cI 0)] [8, 9])
 .ret))))))))))))))
theorem fok247 : FOK Tryz.prog 247 (63, ic247, [(.t 8), (.t 9)]) := fokA [2000000] Tryz.func247 (by kernel_rfl) (by kernel_rfl) (by kernel_rfl) (by kernel_rfl)
def ic248 : IC :=
 (.seq
 (.reg 0 [oM 10 1, oM 8 10] [0, 2, 8])
 (.seq
 (.reg 1 [oM 11 2, oQ 12 (.bin .sub 11 (cI 1)), oM 9 12] [0, 8, 9])
 (.block 0
 (.loop
 (.seq
 (.seq
 (.reg 2 [oM 13 8, oM 14 9, oQ 15 (.bin .lss 13 14)] [0, 8, 9, 15])
 (.cond 15
 .skip
 (.exit 0)))
 (.block 1
 (.seq
 (.dreg 3 [oM 16 0, oM 17 8, oM 18 0, oM 19 9, oM 20 0, oM 21 9, oQ 22 (.iaddr 1 20 21), oQ 23 (.load none 22), oM 24 0, oM 25 8, oQ 26 (.iaddr 1 24 25), oQ 27 (.load none 26), oQ 28 (.iaddr 1 16 17), oN (.store 1 28 23), oQ 29 (.iaddr 1 18 19), oN (.store 1 29 27)] false [0, 8, 9])
 (.seq
 (.reg 4 [oM 30 8, oQ 31 (.bin .add 30 (cI 1)), oM 8 31] [0, 8, 9])
 (.reg 5 [oM 32 9, oQ 33 (.bin .sub 32 (cI 1)), oM 9 33] [0, 8, 9])))))))))
theorem fok248 : FOK Tryz.prog 248 (34, ic248, []) := fokA [2000000] Tryz.func248 (by kernel_rfl) (by kernel_rfl) (by kernel_rfl) (by kernel_rfl)
def ic249 : IC :=
 (.seq
 (.reg 0 [oM 8 (cB false)] [0, 1, 2, 3])
 (.seq
 (.reg 1 [oM 13 1, oQ 14 (.bin .add 13 (cI 1)), oM 9 14] [0, 1, 2, 3, 9])
 (.seq
 (.seq
 (.reg 2 [oM 10 (cI 0)] [0, 1, 2, 3, 9, 10])
 (.block 0
 (.loop
 (.seq
 (.seq
 (.reg 3 [oM 15 10, oQ 16 (.bin .lss 15 (cI 5))] [0, 1, 2, 3, 9, 10, 16])
 (.cond 16
 .skip
 (.exit 0)))
 (.seq
 (.block 1
 (.seq
 (.block 2
 (.loop
 (.seq
 (.seq
 (.dreg 5 [oM 19 9, oM 20 2, oQ 21 (.bin .lss 19 20), oM 22 21, gQ 23 22 true (.mov 3), gQ 24 22 true (.mov 0), gQ 25 22 true (.mov 9), gQ 26 22 true (.iaddr 1 24 25), gQ 27 22 true (.load none 26), gQ 28 22 true (.mov 0), gQ 29 22 true (.mov 9), gQ 30 22 true (.bin .sub 29 (cI 1)), gQ 31 22 true (.iaddr 1 28 30), gQ 32 22 true (.load none 31), gK 33 22 true (.callv 23 [27, 32]), gQ 34 22 true (.bin .lss 33 (cI 0)), gQ 35 22 true (.not 34), oQ 36 (.pick 22 35 (cB false))] false [0, 1, 2, 3, 9, 10, 36])
 (.cond 36
 .skip
 (.exit 2)))
 (.block 3
 (.reg 6 [oM 37 9, oQ 38 (.bin .add 37 (cI 1)), oM 9 38] [0, 1, 2, 3, 9, 10])))))
 (.seq
 (.seq
 (.reg 7 [oM 39 9, oM 40 2, oQ 41 (.bin .eql 39 40)] [0, 1, 2, 3, 9, 10, 41])
 (.cond 41
 (.seq
 (.reg 8 [oM 8 (cB true)] [8])
 .ret)
 .skip))
 (.seq
 (.seq
 (.reg 9 [oM 42 2, oM 43 1, oQ 44 (.bin .sub 42 43), oQ 45 (.bin .lss 44 (cI 50))] [0, 1, 2, 3, 9, 10, 45])
 (.cond 45
 (.seq
 (.reg 10 [oM 8 (cB false)] [8])
 .ret)
 .skip))
 (.seq
 (.dreg 11 [oM 46 0, oM 47 9, oM 48 0, oM 49 9, oQ 50 (.bin .sub 49 (cI 1)), oM 51 0, oM 52 9, oQ 53 (.bin .sub 52 (cI 1)), oQ 54 (.iaddr 1 51 53), oQ 55 (.load none 54), oM 56 0, oM 57 9, oQ 58 (.iaddr 1 56 57), oQ 59 (.load none 58), oQ 60 (.iaddr 1 46 47), oN (.store 1 60 55), oQ 61 (.iaddr 1 48 50), oN (.store 1 61 59)] false [0, 1, 2, 3, 9, 10])
 (.seq
 (.seq
 (.reg 12 [oM 62 9, oM 63 1, oQ 64 (.bin .sub 62 63), oQ 65 (.bin .geq 64 (cI 2))] [0, 1, 2, 3, 9, 10, 65])
 (.cond 65
 (.seq
 (.reg 13 [oM 66 9, oQ 67 (.bin .sub 66 (cI 1)), oM 11 67] [0, 1, 2, 3, 9, 10, 11])
 (.block 4
 (.loop
 (.seq
 (.seq
 (.reg 14 [oM 68 11, oQ 69 (.bin .geq 68 (cI 1))] [0, 1, 2, 3, 9, 10, 11, 69])
 (.cond 69
 .skip
 (.exit 4)))
 (.seq
 (.block 5
 (.seq
 (.seq
 (.dreg 16 [oM 72 3, oM 73 0, oM 74 11, oQ 75 (.iaddr 1 73 74), oQ 76 (.load none 75), oM 77 0, oM 78 11, oQ 79 (.bin .sub 78 (cI 1)), oQ 80 (.iaddr 1 77 79), oQ 81 (.load none 80), oK 82 (.callv 72 [76, 81]), oQ 83 (.bin .lss 82 (cI 0)), oQ 84 (.not 83)] false [0, 1, 2, 3, 9, 10, 11, 84])
 (.cond 84
 (.exit 4)
 .skip))
 (.dreg 17 [oM 85 0, oM 86 11, oM 87 0, oM 88 11, oQ 89 (.bin .sub 88 (cI 1)), oM 90 0, oM 91 11, oQ 92 (.bin .sub 91 (cI 1)), oQ 93 (.iaddr 1 90 92), oQ 94 (.load none 93), oM 95 0, oM 96 11, oQ 97 (.iaddr 1 95 96), oQ 98 (.load none 97), oQ 99 (.iaddr 1 85 86), oN (.store 1 99 94), oQ 100 (.iaddr 1 87 89), oN (.store 1 100 98)] false [0, 1, 2, 3, 9, 10, 11])))
 (.reg 15 [oM 70 11, oQ 71 (.bin .sub 70 (cI 1)), oM 11 71] [0, 1, 2, 3, 9, 10, 11]))))))
 .skip))
 (.seq
 (.reg 18 [oM 101 2, oM 102 9, oQ 103 (.bin .sub 101 102), oQ 104 (.bin .geq 103 (cI 2))] [0, 1, 2, 3, 9, 10, 104])
 (.cond 104
 (.seq
 (.reg 19 [oM 105 9, oQ 106 (.bin .add 105 (cI 1)), oM 12 106] [0, 1, 2, 3, 9, 10, 12])
 (.block 6
 (.loop
 (.seq
 (.seq
 (.reg 20 [oM 107 12, oM 108 2, oQ 109 (.bin .lss 107 108)] [0, 1, 2, 3, 9, 10, 12, 109])
 (.cond 109
 .skip
 (.exit 6)))
 (.seq
 (.block 7
 (.seq
 (.seq
 (.dreg 22 [oM 112 3, oM 113 0, oM 114 12, oQ 115 (.iaddr 1 113 114), oQ 116 (.load none 115), oM 117 0, oM 118 12, oQ 119 (.bin .sub 118 (cI 1)), oQ 120 (.iaddr 1 117 119), oQ 121 (.load none 120), oK 122 (.callv 112 [116, 121]), oQ 123 (.bin .lss 122 (cI 0)), oQ 124 (.not 123)] false [0, 1, 2, 3, 9, 10, 12, 124])
 (.cond 124
 (.exit 6)
 .skip))
 (.dreg 23 [oM 125 0, oM 126 12, oM 127 0, oM 128 12, oQ 129 (.bin .sub 128 (cI 1)), oM 130 0, oM 131 12, oQ 132 (.bin .sub 131 (cI 1)), oQ 133 (.iaddr 1 130 132), oQ 134 (.load none 133), oM 135 0, oM 136 12, oQ 137 (.iaddr 1 135 136), oQ 138 (.load none 137), oQ 139 (.iaddr 1 125 126), oN (.store 1 139 134), oQ 140 (.iaddr 1 127 129), oN (.store 1 140 138)] false [0, 1, 2, 3, 9, 10, 12])))
 (.reg 21 [oM 110 12, oQ 111 (.bin .add 110 (cI 1)), oM 12 111] [0, 1, 2, 3, 9, 10, 12]))))))
 .skip))))))))
 (.reg 4 [oM 17 10, oQ 18 (.bin .add 17 (cI 1)), oM 10 18] [0, 1, 2, 3, 9, 10]))))))
 (.seq
 (.reg 24 [oM 8 (cB false)] [8])
 .ret))))
theorem fok249 : FOK Tryz.prog 249 (141, ic249, [(.t 8)]) := fokA [2000000] Tryz.func249 (by kernel_rfl) (by kernel_rfl) (by kernel_rfl) (by kernel_rfl)
def ic250 : IC :=
 (.seq
 (.reg 0 [oM 10 (cI 0)] [0, 1, 2, 3, 4])
 (.seq
 (.dreg 1 [oM 13 0, oM 14 1, oM 15 0, oM 16 3, oM 17 0, oM 18 3, oQ 19 (.iaddr 1 17 18), oQ 20 (.load none 19), oM 21 0, oM 22 1, oQ 23 (.iaddr 1 21 22), oQ 24 (.load none 23), oQ 25 (.iaddr 1 13 14), oN (.store 1 25 20), oQ 26 (.iaddr 1 15 16), oN (.store 1 26 24)] false [0, 1, 2, 4])
 (.seq
 (.reg 2 [oM 27 1, oQ 28 (.bin .add 27 (cI 1)), oM 29 2, oQ 30 (.bin .sub 29 (cI 1)), oM 11 28, oM 12 30] [0, 1, 4, 11, 12])
 (.seq
 (.block 0
 (.loop
 (.block 1
 (.seq
 (.block 2
 (.loop
 (.seq
 (.seq
 (.dreg 3 [oM 31 11, oM 32 12, oQ 33 (.bin .leq 31 32), oM 34 33, gQ 35 34 true (.mov 4), gQ 36 34 true (.mov 0), gQ 37 34 true (.mov 1), gQ 38 34 true (.iaddr 1 36 37), gQ 39 34 true (.load none 38), gQ 40 34 true (.mov 0), gQ 41 34 true (.mov 11), gQ 42 34 true (.iaddr 1 40 41), gQ 43 34 true (.load none 42), gK 44 34 true (.callv 35 [39, 43]), gQ 45 34 true (.bin .lss 44 (cI 0)), gQ 46 34 true (.not 45), oQ 47 (.pick 34 46 (cB false))] false [0, 1, 4, 11, 12, 47])
 (.cond 47
 .skip
 (.exit 2)))
 (.block 3
 (.reg 4 [oM 48 11, oQ 49 (.bin .add 48 (cI 1)), oM 11 49] [0, 1, 4, 11, 12])))))
 (.seq
 (.block 4
 (.loop
 (.seq
 (.seq
 (.dreg 5 [oM 50 11, oM 51 12, oQ 52 (.bin .leq 50 51), oM 53 52, gQ 54 53 true (.mov 4), gQ 55 53 true (.mov 0), gQ 56 53 true (.mov 1), gQ 57 53 true (.iaddr 1 55 56), gQ 58 53 true (.load none 57), gQ 59 53 true (.mov 0), gQ 60 53 true (.mov 12), gQ 61 53 true (.iaddr 1 59 60), gQ 62 53 true (.load none 61), gK 63 53 true (.callv 54 [58, 62]), gQ 64 53 true (.bin .lss 63 (cI 0)), oQ 65 (.pick 53 64 (cB false))] false [0, 1, 4, 11, 12, 65])
 (.cond 65
 .skip
 (.exit 4)))
 (.block 5
 (.reg 6 [oM 66 12, oQ 67 (.bin .sub 66 (cI 1)), oM 12 67] [0, 1, 4, 11, 12])))))
 (.seq
 (.seq
 (.reg 7 [oM 68 11, oM 69 12, oQ 70 (.bin .gtr 68 69)] [0, 1, 4, 11, 12, 70])
 (.cond 70
 (.exit 0)
 .skip))
 (.seq
 (.dreg 8 [oM 71 0, oM 72 11, oM 73 0, oM 74 12, oM 75 0, oM 76 12, oQ 77 (.iaddr 1 75 76), oQ 78 (.load none 77), oM 79 0, oM 80 11, oQ 81 (.iaddr 1 79 80), oQ 82 (.load none 81), oQ 83 (.iaddr 1 71 72), oN (.store 1 83 78), oQ 84 (.iaddr 1 73 74), oN (.store 1 84 82)] false [0, 1, 4, 11, 12])
 (.seq
 (.reg 9 [oM 85 11, oQ 86 (.bin .add 85 (cI 1)), oM 11 86] [0, 1, 4, 11, 12])
 (.reg 10 [oM 87 12, oQ 88 (.bin .sub 87 (cI 1)), oM 12 88] [0, 1, 4, 11, 12])))))))))
 (.seq
 (.reg 11 [oM 89 11, oM 10 89] [10])
 .ret)))))
theorem fok250 : FOK Tryz.prog 250 (90, ic250, [(.t 10)]) := fokA [2000000] Tryz.func250 (by kernel_rfl) (by kernel_rfl) (by kernel_rfl) (by kernel_rfl)
def ic251 : IC :=
 (.seq
 (.reg 0 [oM 10 (cI 0), oM 11 (cB false)] [0, 1, 2, 3, 4])
 (.seq
 (.dreg 1 [oM 14 0, oM 15 1, oM 16 0, oM 17 3, oM 18 0, oM 19 3, oQ 20 (.iaddr 1 18 19), oQ 21 (.load none 20), oM 22 0, oM 23 1, oQ 24 (.iaddr 1 22 23), oQ 25 (.load none 24), oQ 26 (.iaddr 1 14 15), oN (.store 1 26 21), oQ 27 (.iaddr 1 16 17), oN (.store 1 27 25)] false [0, 1, 2, 4])
 (.seq
 (.reg 2 [oM 28 1, oQ 29 (.bin .add 28 (cI 1)), oM 30 2, oQ 31 (.bin .sub 30 (cI 1)), oM 12 29, oM 13 31] [0, 1, 4, 12, 13])
 (.seq
 (.block 0
 (.loop
 (.seq
 (.seq
 (.dreg 3 [oM 32 12, oM 33 13, oQ 34 (.bin .leq 32 33), oM 35 34, gQ 36 35 true (.mov 4), gQ 37 35 true (.mov 0), gQ 38 35 true (.mov 12), gQ 39 35 true (.iaddr 1 37 38), gQ 40 35 true (.load none 39), gQ 41 35 true (.mov 0), gQ 42 35 true (.mov 1), gQ 43 35 true (.iaddr 1 41 42), gQ 44 35 true (.load none 43), gK 45 35 true (.callv 36 [40, 44]), gQ 46 35 true (.bin .lss 45 (cI 0)), oQ 47 (.pick 35 46 (cB false))] false [0, 1, 4, 12, 13, 47])
 (.cond 47
 .skip
 (.exit 0)))
 (.block 1
 (.reg 4 [oM 48 12, oQ 49 (.bin .add 48 (cI 1)), oM 12 49] [0, 1, 4, 12, 13])))))
 (.seq
 (.block 2
 (.loop
 (.seq
 (.seq
 (.dreg 5 [oM 50 12, oM 51 13, oQ 52 (.bin .leq 50 51), oM 53 52, gQ 54 53 true (.mov 4), gQ 55 53 true (.mov 0), gQ 56 53 true (.mov 13), gQ 57 53 true (.iaddr 1 55 56), gQ 58 53 true (.load none 57), gQ 59 53 true (.mov 0), gQ 60 53 true (.mov 1), gQ 61 53 true (.iaddr 1 59 60), gQ 62 53 true (.load none 61), gK 63 53 true (.callv 54 [58, 62]), gQ 64 53 true (.bin .lss 63 (cI 0)), gQ 65 53 true (.not 64), oQ 66 (.pick 53 65 (cB false))] false [0, 1, 4, 12, 13, 66])
 (.cond 66
 .skip
 (.exit 2)))
 (.block 3
 (.reg 6 [oM 67 13, oQ 68 (.bin .sub 67 (cI 1)), oM 13 68] [0, 1, 4, 12, 13])))))
 (.seq
 (.seq
 (.reg 7 [oM 69 12, oM 70 13, oQ 71 (.bin .gtr 69 70)] [0, 1, 4, 12, 13, 71])
 (.cond 71
 (.seq
 (.dreg 8 [oM 72 0, oM 73 13, oM 74 0, oM 75 1, oM 76 0, oM 77 1, oQ 78 (.iaddr 1 76 77), oQ 79 (.load none 78), oM 80 0, oM 81 13, oQ 82 (.iaddr 1 80 81), oQ 83 (.load none 82), oQ 84 (.iaddr 1 72 73), oN (.store 1 84 79), oQ 85 (.iaddr 1 74 75), oN (.store 1 85 83)] false [13])
 (.seq
 (.reg 9 [oM 86 13, oM 10 86, oM 11 (cB true)] [10, 11])
 .ret))
 .skip))
 (.seq
 (.dreg 10 [oM 87 0, oM 88 12, oM 89 0, oM 90 13, oM 91 0, oM 92 13, oQ 93 (.iaddr 1 91 92), oQ 94 (.load none 93), oM 95 0, oM 96 12, oQ 97 (.iaddr 1 95 96), oQ 98 (.load none 97), oQ 99 (.iaddr 1 87 88), oN (.store 1 99 94), oQ 100 (.iaddr 1 89 90), oN (.store 1 100 98)] false [0, 1, 4, 12, 13])
 (.seq
 (.reg 11 [oM 101 12, oQ 102 (.bin .add 101 (cI 1)), oM 12 102] [0, 1, 4, 12, 13])
 (.seq
 (.reg 12 [oM 103 13, oQ 104 (.bin .sub 103 (cI 1)), oM 13 104] [0, 1, 4, 12, 13])
 (.seq
 (.block 4
 (.loop
 (.block 5
 (.seq
 (.block 6
 (.loop
 (.seq
 (.seq
 (.dreg 13 [oM 105 12, oM 106 13, oQ 107 (.bin .leq 105 106), oM 108 107, gQ 109 108 true (.mov 4), gQ 110 108 true (.mov 0), gQ 111 108 true (.mov 12), gQ 112 108 true (.iaddr 1 110 111), gQ 113 108 true (.load none 112), gQ 114 108 true (.mov 0), gQ 115 108 true (.mov 1), gQ 116 108 true (.iaddr 1 114 115), gQ 117 108 true (.load none 116), gK 118 108 true (.callv 109 [113, 117]), gQ 119 108 true (.bin .lss 118 (cI 0)), oQ 120 (.pick 108 119 (cB false))] false [0, 1, 4, 12, 13, 120])
 (.cond 120
 .skip
 (.exit 6)))
 (.block 7
 (.reg 14 [oM 121 12, oQ 122 (.bin .add 121 (cI 1)), oM 12 122] [0, 1, 4, 12, 13])))))
 (.seq
 (.block 8
 (.loop
 (.seq
 (.seq
 (.dreg 15 [oM 123 12, oM 124 13, oQ 125 (.bin .leq 123 124), oM 126 125, gQ 127 126 true (.mov 4), gQ 128 126 true (.mov 0), gQ 129 126 true (.mov 13), gQ 130 126 true (.iaddr 1 128 129), gQ 131 126 true (.load none 130), gQ 132 126 true (.mov 0), gQ 133 126 true (.mov 1), gQ 134 126 true (.iaddr 1 132 133), gQ 135 126 true (.load none 134), gK 136 126 true (.callv 127 [131, 135]), gQ 137 126 true (.bin .lss 136 (cI 0)), gQ 138 126 true (.not 137), oQ 139 (.pick 126 138 (cB false))] false [0, 1, 4, 12, 13, 139])
 (.cond 139
 .skip
 (.exit 8)))
 (.block 9
 (.reg 16 [oM 140 13, oQ 141 (.bin .sub 140 (cI 1)), oM 13 141] [0, 1, 4, 12, 13])))))
 (.seq
 (.seq
 (.reg 17 [oM 142 12, oM 143 13, oQ 144 (.bin .gtr 142 143)] [0, 1, 4, 12, 13, 144])
 (.cond 144
 (.exit 4)
 .skip))
 (.seq
 (.dreg 18 [oM 145 0, oM 146 12, oM 147 0, oM 148 13, oM 149 0, oM 150 13, oQ 151 (.iaddr 1 149 150), oQ 152 (.load none 151), oM 153 0, oM 154 12, oQ 155 (.iaddr 1 153 154), oQ 156 (.load none 155), oQ 157 (.iaddr 1 145 146), oN (.store 1 157 152), oQ 158 (.iaddr 1 147 148), oN (.store 1 158 156)] false [0, 1, 4, 12, 13])
 (.seq
 (.reg 19 [oM 159 12, oQ 160 (.bin .add 159 (cI 1)), oM 12 160] [0, 1, 4, 12, 13])
 (.reg 20 [oM 161 13, oQ 162 (.bin .sub 161 (cI 1)), oM 13 162] [0, 1, 4, 12, 13])))))))))
 (.seq
 (.dreg 21 [oM 163 0, oM 164 13, oM 165 0, oM 166 1, oM 167 0, oM 168 1, oQ 169 (.iaddr 1 167 168), oQ 170 (.load none 169), oM 171 0, oM 172 13, oQ 173 (.iaddr 1 171 172), oQ 174 (.load none 173), oQ 175 (.iaddr 1 163 164), oN (.store 1 175 170), oQ 176 (.iaddr 1 165 166), oN (.store 1 176 174)] false [13])
 (.seq
 (.reg 22 [oM 177 13, oM 10 177, oM 11 (cB false)] [10, 11])
 .ret))))))))))))
theorem fok251 : FOK Tryz.prog 251 (178, ic251, [(.t 10), (.t 11)]) := fokA [2000000] Tryz.func251 (by kernel_rfl) (by kernel_rfl) (by kernel_rfl) (by kernel_rfl)
def ic252 : IC :=
 (.seq
 (.reg 0 [oM 2 (.c .nilslice)] [0])
 (.seq
 (.reg 1 [oM 3 0, oK 4 (.call 298 [(.c .nilslice), 3]), oM 2 4] [2])
 .ret))
theorem fok252 : FOK Tryz.prog 252 (5, ic252, [(.t 2)]) := fokA [2000000] Tryz.func252 (by kernel_rfl) (by kernel_rfl) (by kernel_rfl) (by kernel_rfl)
def ic253 : IC :=
 (.seq
 (.reg 0 [oQ 5 (.load none 1), oQ 6 (.len 0 5), oM 7 (cI 0)] [0, 5, 6, 7])
 (.block 0
 (.loop
 (.seq
 (.reg 1 [oQ 8 (.bin .lss 7 6)] [0, 5, 6, 7, 8])
 (.seq
 (.cond 8
 .skip
 (.exit 0))
 (.seq
 (.block 1
 (.seq
 (.reg 2 [oQ 9 (.iaddr 1 5 7), oQ 10 (.load none 9), oM 4 10] [0, 4, 5, 6, 7])
 (.seq
 (.reg 3 [oM 11 0, oM 12 4, oK 13 (.callv 11 [12]), oQ 14 (.not 13)] [0, 5, 6, 7, 14])
 (.cond 14
 .ret
 .skip))))
 (.reg 4 [oQ 15 (.bin .add 7 (cI 1)), oM 7 15] [0, 5, 6, 7])))))))
theorem fok253 : FOK Tryz.prog 253 (16, ic253, []) := fokA [2000000] Tryz.func253 (by kernel_rfl) (by kernel_rfl) (by kernel_rfl) (by kernel_rfl)
def ic254 : IC :=
(.seq
 (.reg 0 [⟨(some 4), none, (.q (.mov (.c (.int .i64 0))))⟩] [0, 1])
 (.seq
  (.reg 1 [⟨(some 5), none, (.q (.mov (.t 0)))⟩, ⟨(some 6), none, (.q (.mov (.t 1)))⟩, ⟨(some 7), none, (.call 299 [(.t 5), (.t 6)])⟩, ⟨(some 4), none, (.q (.mov (.t 7)))⟩] [4])
  .ret))
theorem fok254 : FOK Tryz.prog 254 (8, ic254, [(.t 4)]) := .mk (pf := []) (an := [(0, [0, 1]), (1, [4])]) (by kernel_rfl) (fnOK_of Tryz.func254 (by kernel_rfl) (by kernel_rfl) (by kernel_rfl))
def ic255 : IC :=
(.seq
 (.reg 0 [⟨(some 4), none, (.q (.mov (.c (.bool false))))⟩] [0, 1])
 (.seq
  (.reg 1 [⟨(some 5), none, (.q (.mov (.t 0)))⟩, ⟨(some 6), none, (.q (.mov (.t 1)))⟩, ⟨(some 7), none, (.call 300 [(.t 5), (.t 6)])⟩, ⟨(some 4), none, (.q (.mov (.t 7)))⟩] [4])
  .ret))
theorem fok255 : FOK Tryz.prog 255 (8, ic255, [(.t 4)]) := .mk (pf := []) (an := [(0, [0, 1]), (1, [4])]) (by kernel_rfl) (fnOK_of Tryz.func255 (by kernel_rfl) (by kernel_rfl) (by kernel_rfl))
def ic256 : IC :=
(.seq
 (.reg 0 [⟨(some 2), none, (.q (.mov (.c (.bool false))))⟩] [0])
 (.seq
  (.seq
   (.reg 1 [⟨(some 5), none, (.q (.mov (.t 0)))⟩, ⟨(some 6), none, (.q (.bin .eql (.t 5) (.c (.str []))))⟩, ⟨(some 7), none, (.q (.mov (.t 6)))⟩, ⟨(some 8), (some ⟨7, false⟩), (.q (.mov (.t 0)))⟩, ⟨(some 9), (some ⟨7, false⟩), (.q (.len 1 (.t 8)))⟩, ⟨(some 10), (some ⟨7, false⟩), (.q (.bin .gtr (.t 9) (.c (.int .i64 64))))⟩, ⟨(some 11), none, (.q (.pick (.t 7) (.c (.bool true)) (.t 10)))⟩] [0, 11])
   (.cond (.t 11)
    (.seq
     (.reg 2 [⟨(some 2), none, (.q (.mov (.c (.bool false))))⟩] [2])
     .ret)
    .skip))
  (.seq
   (.seq
    (.reg 3 [⟨(some 12), none, (.q (.mov (.t 0)))⟩, ⟨(some 13), none, (.q (.len 1 (.t 12)))⟩, ⟨(some 14), none, (.q (.mov (.c (.int .i64 0))))⟩] [0, 13, 14])
    (.block 0
     (.loop
      (.seq
       (.reg 4 [⟨(some 15), none, (.q (.bin .lss (.t 14) (.t 13)))⟩] [0, 13, 14, 15])
       (.seq
        (.cond (.t 15)
         .skip
         (.exit 0))
        (.seq
         (.block 1
          (.seq
           (.reg 5 [⟨(some 16), none, (.q (.mov (.t 14)))⟩, ⟨(some 3), none, (.q (.mov (.t 16)))⟩] [0, 3, 13, 14])
           (.seq
            (.reg 6 [⟨(some 17), none, (.q (.mov (.t 0)))⟩, ⟨(some 18), none, (.q (.mov (.t 3)))⟩, ⟨(some 19), none, (.q (.istr (.t 17) (.t 18)))⟩, ⟨(some 4), none, (.q (.mov (.t 19)))⟩] [0, 4, 13, 14])
            (.block 2
            (.seq
            (.seq
            (.reg 8 [⟨(some 21), none, (.q (.mov (.t 4)))⟩, ⟨(some 22), none, (.q (.bin .geq (.t 21) (.c (.int .u8 97))))⟩, ⟨(some 23), none, (.q (.mov (.t 22)))⟩, ⟨(some 24), (some ⟨23, true⟩), (.q (.mov (.t 4)))⟩, ⟨(some 25), (some ⟨23, true⟩), (.q (.bin .leq (.t 24) (.c (.int .u8 122))))⟩, ⟨(some 26), none, (.q (.pick (.t 23) (.t 25) (.c (.bool false))))⟩, ⟨(some 20), none, (.q (.mov (.t 26)))⟩] [0, 4, 13, 14, 20])
            (.cond (.t 20)
            .skip
            (.seq
            (.reg 9 [⟨(some 27), none, (.q (.mov (.t 4)))⟩, ⟨(some 28), none, (.q (.bin .geq (.t 27) (.c (.int .u8 65))))⟩, ⟨(some 29), none, (.q (.mov (.t 28)))⟩, ⟨(some 30), (some ⟨29, true⟩), (.q (.mov (.t 4)))⟩, ⟨(some 31), (some ⟨29, true⟩), (.q (.bin .leq (.t 30) (.c (.int .u8 90))))⟩, ⟨(some 32), none, (.q (.pick (.t 29) (.t 31) (.c (.bool false))))⟩, ⟨(some 20), none, (.q (.mov (.t 32)))⟩] [0, 4, 13, 14, 20])
            (.cond (.t 20)
            .skip
            (.seq
            (.reg 10 [⟨(some 33), none, (.q (.mov (.t 4)))⟩, ⟨(some 34), none, (.q (.bin .geq (.t 33) (.c (.int .u8 48))))⟩, ⟨(some 35), none, (.q (.mov (.t 34)))⟩, ⟨(some 36), (some ⟨35, true⟩), (.q (.mov (.t 4)))⟩, ⟨(some 37), (some ⟨35, true⟩), (.q (.bin .leq (.t 36) (.c (.int .u8 57))))⟩, ⟨(some 38), none, (.q (.pick (.t 35) (.t 37) (.c (.bool false))))⟩, ⟨(some 20), none, (.q (.mov (.t 38)))⟩] [0, 4, 13, 14, 20])
            (.cond (.t 20)
            .skip
            (.reg 11 [⟨(some 39), none, (.q (.mov (.t 4)))⟩, ⟨(some 40), none, (.call 254 [(.c (.str [46, 95, 43, 126, 94])), (.t 39)])⟩, ⟨(some 41), none, (.q (.bin .geq (.t 40) (.c (.int .i64 0))))⟩, ⟨(some 20), none, (.q (.mov (.t 41)))⟩] [0, 13, 14, 20])))))))
            (.cond (.t 20)
            .skip
            (.seq
            (.reg 7 [⟨(some 2), none, (.q (.mov (.c (.bool false))))⟩] [2])
            .ret)))))))
         (.reg 12 [⟨(some 42), none, (.q (.bin .add (.t 14) (.c (.int .i64 1))))⟩, ⟨(some 14), none, (.q (.mov (.t 42)))⟩] [0, 13, 14])))))))
   (.seq
    (.reg 13 [⟨(some 2), none, (.q (.mov (.c (.bool true))))⟩] [2])
    .ret))))
theorem fok256 : FOK Tryz.prog 256 (43, ic256, [(.t 2)]) := .mk (pf := []) (an := [(0, [0]), (1, [0, 11]), (2, [2]), (3, [0, 13, 14]), (4, [0, 13, 14, 15]), (5, [0, 3, 13, 14]), (6, [0, 4, 13, 14]), (7, [2]), (8, [0, 4, 13, 14, 20]), (9, [0, 4, 13, 14, 20]), (10, [0, 4, 13, 14, 20]), (11, [0, 13, 14, 20]), (12, [0, 13, 14]), (13, [2])]) (by kernel_rfl) (fnOK_of Tryz.func256 (by kernel_rfl) (by kernel_rfl) (by kernel_rfl))
def ic257 : IC :=
(.seq
 (.reg 0 [⟨(some 0), none, (.alloc [(.str []), (.str []), (.str []), (.str []), (.str [])])⟩] [0])
 (.seq
  (.reg 1 [⟨(some 1), none, (.q (.bld [(.str []), (.str []), (.str []), (.str []), (.str [])] [⟨1, ⟨1, (.c (.str [110, 111, 97, 114, 99, 104]))⟩⟩, ⟨2, ⟨1, (.c (.str [120, 56, 54, 95, 54, 52]))⟩⟩, ⟨3, ⟨1, (.c (.str [105, 54, 56, 54]))⟩⟩, ⟨4, ⟨1, (.c (.str [97, 97, 114, 99, 104, 54, 52]))⟩⟩]))⟩, ⟨none, none, (.store 5 (.t 0) (.t 1))⟩] [0])
  .ret))
theorem fok257 : FOK Tryz.prog 257 (2, ic257, [(.cell (some 5) 0)]) := .mk (pf := []) (an := [(0, [0]), (1, [0])]) (by kernel_rfl) (fnOK_of Tryz.func257 (by kernel_rfl) (by kernel_rfl) (by kernel_rfl))
def ic258 : IC :=
(.seq
 (.reg 0 [⟨(some 2), none, (.boxt (.t 0))⟩, ⟨(some 3), none, (.q (.mov (.c (.bool false))))⟩] [1, 2])
 (.seq
  (.reg 1 [⟨(some 4), none, (.q (.load none (.t 1)))⟩, ⟨(some 5), none, (.q (.load (some 5) (.t 2)))⟩, ⟨(some 6), none, (.callv (.t 4) [(.t 5)])⟩, ⟨(some 7), none, (.q (.not (.t 6)))⟩, ⟨(some 3), none, (.q (.mov (.t 7)))⟩] [3])
  .ret))
theorem fok258 : FOK Tryz.prog 258 (8, ic258, [(.t 3)]) := .mk (pf := [1000002]) (an := [(0, [1, 2]), (1, [3])]) (by kernel_rfl) (fnOK_of Tryz.func258 (by kernel_rfl) (by kernel_rfl) (by kernel_rfl))
def ic259 : IC :=
(.seq
 (.reg 0 [⟨(some 4), none, (.q (.mov (.c (.bool false))))⟩] [0, 1])
 (.seq
  (.reg 1 [⟨(some 5), none, (.q (.mov (.t 0)))⟩, ⟨(some 6), none, (.q (.mov (.t 1)))⟩, ⟨(some 7), none, (.call 301 [(.t 5), (.t 6)])⟩, ⟨(some 8), none, (.q (.bin .geq (.t 7) (.c (.int .i64 0))))⟩, ⟨(some 4), none, (.q (.mov (.t 8)))⟩] [4])
  .ret))
theorem fok259 : FOK Tryz.prog 259 (9, ic259, [(.t 4)]) := .mk (pf := []) (an := [(0, [0, 1]), (1, [4])]) (by kernel_rfl) (fnOK_of Tryz.func259 (by kernel_rfl) (by kernel_rfl) (by kernel_rfl))
def ic260 : IC :=
(.seq
 (.reg 0 [⟨(some 3), none, (.q (.mov (.c (.bool false))))⟩] [0, 1])
 (.seq
  (.reg 1 [⟨(some 4), none, (.q (.load none (.t 1)))⟩, ⟨(some 5), none, (.q (.mov (.t 0)))⟩, ⟨(some 6), none, (.callv (.t 4) [(.t 5)])⟩, ⟨(some 7), none, (.q (.not (.t 6)))⟩, ⟨(some 3), none, (.q (.mov (.t 7)))⟩] [3])
  .ret))
theorem fok260 : FOK Tryz.prog 260 (8, ic260, [(.t 3)]) := .mk (pf := []) (an := [(0, [0, 1]), (1, [3])]) (by kernel_rfl) (fnOK_of Tryz.func260 (by kernel_rfl) (by kernel_rfl) (by kernel_rfl))
def ic261 : IC :=
(.reg 0 [⟨(some 3), none, (.q (.mov (.t 0)))⟩, ⟨(some 4), none, (.q (.faddr 7 (.t 1)))⟩, ⟨(some 5), none, (.q (.load none (.t 4)))⟩, ⟨(some 6), none, (.callv (.t 3) [(.c (.int .u8 1)), (.t 5)])⟩, ⟨(some 7), none, (.q (.mov (.t 6)))⟩, ⟨(some 8), (some ⟨7, true⟩), (.q (.mov (.t 0)))⟩, ⟨(some 9), (some ⟨7, true⟩), (.q (.faddr 8 (.t 1)))⟩, ⟨(some 10), (some ⟨7, true⟩), (.q (.load none (.t 9)))⟩, ⟨(some 11), (some ⟨7, true⟩), (.callv (.t 8) [(.c (.int .u8 2)), (.t 10)])⟩, ⟨(some 12), none, (.q (.pick (.t 7) (.t 11) (.c (.bool false))))⟩, ⟨(some 13), none, (.q (.mov (.t 12)))⟩, ⟨(some 14), (some ⟨13, true⟩), (.q (.mov (.t 0)))⟩, ⟨(some 15), (some ⟨13, true⟩), (.q (.faddr 10 (.t 1)))⟩, ⟨(some 16), (some ⟨13, true⟩), (.q (.load none (.t 15)))⟩, ⟨(some 17), (some ⟨13, true⟩), (.callv (.t 14) [(.c (.int .u8 1)), (.t 16)])⟩, ⟨(some 18), none, (.q (.pick (.t 13) (.t 17) (.c (.bool false))))⟩, ⟨(some 19), none, (.q (.mov (.t 18)))⟩, ⟨(some 20), (some ⟨19, true⟩), (.q (.mov (.t 0)))⟩, ⟨(some 21), (some ⟨19, true⟩), (.q (.faddr 11 (.t 1)))⟩, ⟨(some 22), (some ⟨19, true⟩), (.q (.load none (.t 21)))⟩, ⟨(some 23), (some ⟨19, true⟩), (.callv (.t 20) [(.c (.int .u8 3)), (.t 22)])⟩, ⟨(some 24), none, (.q (.pick (.t 19) (.t 23) (.c (.bool false))))⟩, ⟨(some 25), none, (.q (.mov (.t 24)))⟩, ⟨(some 26), (some ⟨25, true⟩), (.q (.mov (.t 0)))⟩, ⟨(some 27), (some ⟨25, true⟩), (.q (.faddr 12 (.t 1)))⟩, ⟨(some 28), (some ⟨25, true⟩), (.q (.load none (.t 27)))⟩, ⟨(some 29), (some ⟨25, true⟩), (.callv (.t 26) [(.c (.int .u8 1)), (.t 28)])⟩, ⟨(some 30), none, (.q (.pick (.t 25) (.t 29) (.c (.bool false))))⟩, ⟨(some 31), none, (.q (.mov (.t 30)))⟩, ⟨(some 32), (some ⟨31, true⟩), (.q (.mov (.t 0)))⟩, ⟨(some 33), (some ⟨31, true⟩), (.q (.faddr 13 (.t 1)))⟩, ⟨(some 34), (some ⟨31, true⟩), (.q (.load none (.t 33)))⟩, ⟨(some 35), (some ⟨31, true⟩), (.callv (.t 32) [(.c (.int .u8 3)), (.t 34)])⟩, ⟨(some 36), none, (.q (.pick (.t 31) (.t 35) (.c (.bool false))))⟩] [])
theorem fok261 : FOK Tryz.prog 261 (37, ic261, []) := .mk (pf := []) (an := []) (by kernel_rfl) (fnOK_of Tryz.func261 (by kernel_rfl) (by kernel_rfl) (by kernel_rfl))
def ic262 : IC :=
(.seq
 (.reg 0 [⟨(some 2), none, (.boxt (.t 0))⟩, ⟨(some 3), none, (.q (.mov (.c (.bool false))))⟩] [1, 2])
 (.seq
  (.reg 1 [⟨(some 4), none, (.q (.load none (.t 1)))⟩, ⟨(some 5), none, (.q (.load (some 7) (.t 2)))⟩, ⟨(some 6), none, (.callv (.t 4) [(.t 5)])⟩, ⟨(some 7), none, (.q (.not (.t 6)))⟩, ⟨(some 3), none, (.q (.mov (.t 7)))⟩] [3])
  .ret))
theorem fok262 : FOK Tryz.prog 262 (8, ic262, [(.t 3)]) := .mk (pf := [1000002]) (an := [(0, [1, 2]), (1, [3])]) (by kernel_rfl) (fnOK_of Tryz.func262 (by kernel_rfl) (by kernel_rfl) (by kernel_rfl))
def ic263 : IC :=
(.seq
 (.reg 0 [⟨(some 1), none, (.boxt (.t 0))⟩, ⟨(some 2), none, (.q (.mov (.c (.int .i64 0))))⟩] [1, 2])
 (.seq
  (.reg 1 [⟨(some 3), none, (.alloc [(.int .i64 0)])⟩, ⟨none, none, (.store 1 (.t 3) (.c (.int .i64 0)))⟩] [1, 2, 3])
  (.seq
   (.seq
    (.reg 2 [⟨(some 4), none, (.q (.load (some 7) (.t 1)))⟩, ⟨(some 5), none, (.call 239 [(.t 4)])⟩] [2, 3, 5])
    (.block 0
     (.rfunc (.t 5) [6, 7]
      .skip
      (.block 1
       (.reg 3 [⟨(some 8), none, (.q (.load none (.t 3)))⟩, ⟨(some 9), none, (.q (.bin .add (.t 8) (.c (.int .i64 1))))⟩, ⟨none, none, (.store 1 (.t 3) (.t 9))⟩] [])))))
   (.seq
    (.reg 4 [⟨(some 10), none, (.q (.load none (.t 3)))⟩, ⟨(some 2), none, (.q (.mov (.t 10)))⟩] [2])
    .ret))))
theorem fok263 : FOK Tryz.prog 263 (11, ic263, [(.t 2)]) := .mk (pf := [1000001]) (an := [(0, [1, 2]), (1, [1, 2, 3]), (2, [2, 3, 5]), (4, [2])]) (by kernel_rfl) (fnOK_of Tryz.func263 (by kernel_rfl) (by kernel_rfl) (by kernel_rfl))
def ic264 : IC :=
(.seq
 (.reg 0 [⟨(some 1), none, (.boxt (.t 0))⟩, ⟨(some 2), none, (.q (.mov (.c (.int .i64 0))))⟩] [1])
 (.seq
  (.seq
   (.reg 1 [⟨(some 6), none, (.q (.faddr 0 (.t 1)))⟩, ⟨(some 7), none, (.q (.load none (.t 6)))⟩, ⟨(some 8), none, (.q (.bin .eql (.t 7) (.c (.int .u8 1))))⟩] [1, 8])
   (.cond (.t 8)
    (.seq
     (.reg 2 [⟨(some 2), none, (.q (.mov (.c (.int .i64 0))))⟩] [2])
     .ret)
    .skip))
  (.seq
   (.reg 3 [⟨(some 3), none, (.q (.mov (.c (.int .i64 0))))⟩] [1, 3])
   (.seq
    (.seq
     (.reg 4 [⟨(some 9), none, (.q (.faddr 6 (.t 1)))⟩, ⟨(some 10), none, (.q (.load none (.t 9)))⟩, ⟨(some 11), none, (.q (.len 0 (.t 10)))⟩, ⟨(some 12), none, (.q (.mov (.c (.int .i64 0))))⟩] [3, 10, 11, 12])
     (.block 0
      (.loop
       (.seq
        (.reg 5 [⟨(some 13), none, (.q (.bin .lss (.t 12) (.t 11)))⟩] [3, 10, 11, 12, 13])
        (.seq
         (.cond (.t 13)
          .skip
          (.exit 0))
         (.seq
          (.block 1
           (.seq
            (.reg 6 [⟨(some 14), none, (.q (.iaddr 7 (.t 10) (.t 12)))⟩, ⟨(some 15), none, (.q (.load (some 7) (.t 14)))⟩, ⟨(some 5), none, (.alloc [(.int .u8 0), (.str []), (.int .u8 0), (.int .i64 0), (.str []), (.str []), .nilslice])⟩, ⟨none, none, (.store 7 (.t 5) (.t 15))⟩] [3, 5, 10, 11, 12])
            (.reg 7 [⟨(some 16), none, (.q (.mov (.t 3)))⟩, ⟨(some 17), none, (.q (.load (some 7) (.t 5)))⟩, ⟨(some 18), none, (.call 264 [(.t 17)])⟩, ⟨(some 19), none, (.q (.mm true (.t 16) (.t 18)))⟩, ⟨(some 3), none, (.q (.mov (.t 19)))⟩] [3, 10, 11, 12])))
          (.reg 8 [⟨(some 20), none, (.q (.bin .add (.t 12) (.c (.int .i64 1))))⟩, ⟨(some 12), none, (.q (.mov (.t 20)))⟩] [3, 10, 11, 12])))))))
    (.seq
     (.reg 9 [⟨(some 21), none, (.q (.mov (.t 3)))⟩, ⟨(some 22), none, (.q (.bin .add (.t 21) (.c (.int .i64 1))))⟩, ⟨(some 2), none, (.q (.mov (.t 22)))⟩] [2])
     .ret)))))
theorem fok264 : FOK Tryz.prog 264 (23, ic264, [(.t 2)]) := .mk (pf := [1000001]) (an := [(0, [1]), (1, [1, 8]), (2, [2]), (3, [1, 3]), (4, [3, 10, 11, 12]), (5, [3, 10, 11, 12, 13]), (6, [3, 5, 10, 11, 12]), (7, [3, 10, 11, 12]), (8, [3, 10, 11, 12]), (9, [2])]) (by kernel_rfl) (fnOK_of Tryz.func264 (by kernel_rfl) (by kernel_rfl) (by kernel_rfl))
def ic265 : IC :=
(.seq
 (.reg 0 [⟨(some 2), none, (.alloc [(.int .i64 0), (.int .i64 0), (.bool false), (.int .u8 0)])⟩] [0, 2])
 (.seq
  (.reg 1 [⟨(some 4), none, (.q (.bld [(.int .i64 0), (.int .i64 0), (.bool false), (.int .u8 0)] [⟨0, ⟨1, (.c (.int .i64 0))⟩⟩, ⟨1, ⟨1, (.c (.int .i64 0))⟩⟩, ⟨2, ⟨1, (.c (.bool true))⟩⟩, ⟨3, ⟨1, (.c (.int .u8 3))⟩⟩]))⟩, ⟨(some 5), none, (.q (.bld [(.int .i64 0), (.int .i64 0), (.bool false), (.int .u8 0)] [⟨0, ⟨1, (.c (.int .i64 2))⟩⟩, ⟨1, ⟨1, (.c (.int .i64 24))⟩⟩, ⟨2, ⟨1, (.c (.bool true))⟩⟩, ⟨3, ⟨1, (.c (.int .u8 3))⟩⟩]))⟩, ⟨(some 6), none, (.q (.bld [(.int .i64 0), (.int .i64 0), (.bool false), (.int .u8 0)] [⟨0, ⟨1, (.c (.int .i64 2))⟩⟩, ⟨1, ⟨1, (.c (.int .i64 24))⟩⟩, ⟨2, ⟨1, (.c (.bool true))⟩⟩, ⟨3, ⟨1, (.c (.int .u8 3))⟩⟩]))⟩, ⟨(some 7), none, (.q (.bld [(.int .i64 0), (.int .i64 0), (.bool false), (.int .u8 0)] [⟨0, ⟨1, (.c (.int .i64 2))⟩⟩, ⟨1, ⟨1, (.c (.int .i64 3))⟩⟩, ⟨2, ⟨1, (.c (.bool false))⟩⟩, ⟨3, ⟨1, (.c (.int .u8 1))⟩⟩]))⟩, ⟨(some 8), none, (.q (.bld [(.int .i64 0), (.int .i64 0), (.bool false), (.int .u8 0)] [⟨0, ⟨1, (.c (.int .i64 2))⟩⟩, ⟨1, ⟨1, (.c (.int .i64 3))⟩⟩, ⟨2, ⟨1, (.c (.bool false))⟩⟩, ⟨3, ⟨1, (.c (.int .u8 2))⟩⟩]))⟩, ⟨(some 9), none, (.q (.bld [(.int .i64 0), (.int .i64 0), (.bool false), (.int .u8 0)] [⟨0, ⟨1, (.c (.int .i64 2))⟩⟩, ⟨1, ⟨1, (.c (.int .i64 24))⟩⟩, ⟨2, ⟨1, (.c (.bool true))⟩⟩, ⟨3, ⟨1, (.c (.int .u8 3))⟩⟩]))⟩, ⟨(some 10), none, (.q (.bld [(.int .i64 0), (.int .i64 0), (.bool false), (.int .u8 0)] [⟨0, ⟨1, (.c (.int .i64 2))⟩⟩, ⟨1, ⟨1, (.c (.int .i64 2))⟩⟩, ⟨2, ⟨1, (.c (.bool true))⟩⟩, ⟨3, ⟨1, (.c (.int .u8 3))⟩⟩]))⟩, ⟨(some 11), none, (.q (.bld [(.int .i64 0), (.int .i64 0), (.bool false), (.int .u8 0), (.int .i64 0), (.int .i64 0), (.bool false), (.int .u8 0), (.int .i64 0), (.int .i64 0), (.bool false), (.int .u8 0), (.int .i64 0), (.int .i64 0), (.bool false), (.int .u8 0), (.int .i64 0), (.int .i64 0), (.bool false), (.int .u8 0), (.int .i64 0), (.int .i64 0), (.bool false), (.int .u8 0), (.int .i64 0), (.int .i64 0), (.bool false), (.int .u8 0), (.int .i64 0), (.int .i64 0), (.bool false), (.int .u8 0)] [⟨4, ⟨4, (.t 4)⟩⟩, ⟨8, ⟨4, (.t 5)⟩⟩, ⟨12, ⟨4, (.t 6)⟩⟩, ⟨16, ⟨4, (.t 7)⟩⟩, ⟨20, ⟨4, (.t 8)⟩⟩, ⟨24, ⟨4, (.t 9)⟩⟩, ⟨28, ⟨4, (.t 10)⟩⟩]))⟩, ⟨(some 3), none, (.alloc [(.int .i64 0), (.int .i64 0), (.bool false), (.int .u8 0), (.int .i64 0), (.int .i64 0), (.bool false), (.int .u8 0), (.int .i64 0), (.int .i64 0), (.bool false), (.int .u8 0), (.int .i64 0), (.int .i64 0), (.bool false), (.int .u8 0), (.int .i64 0), (.int .i64 0), (.bool false), (.int .u8 0), (.int .i64 0), (.int .i64 0), (.bool false), (.int .u8 0), (.int .i64 0), (.int .i64 0), (.bool false), (.int .u8 0), (.int .i64 0), (.int .i64 0), (.bool false), (.int .u8 0)])⟩, ⟨none, none, (.store 32 (.t 3) (.t 11))⟩] [0, 2, 3])
  (.seq
   (.seq
    (.reg 2 [⟨(some 12), none, (.q (.mov (.t 0)))⟩, ⟨(some 13), none, (.q (.conv .i64 (.t 12)))⟩, ⟨(some 14), none, (.q (.bin .geq (.t 13) (.c (.int .i64 8))))⟩] [0, 2, 3, 14])
    (.cond (.t 14)
     (.seq
      (.reg 3 [⟨(some 15), none, (.q (.bld [(.int .i64 0), (.int .i64 0), (.bool false), (.int .u8 0)] []))⟩, ⟨none, none, (.store 4 (.t 2) (.t 15))⟩] [2])
      .ret)
     .skip))
   (.seq
    (.reg 4 [⟨(some 16), none, (.q (.mov (.t 0)))⟩, ⟨(some 17), none, (.q (.aaddr 8 4 (.t 3) (.t 16)))⟩, ⟨(some 18), none, (.q (.load (some 4) (.t 17)))⟩, ⟨none, none, (.store 4 (.t 2) (.t 18))⟩] [2])
    .ret))))
theorem fok265 : FOK Tryz.prog 265 (19, ic265, [(.cell (some 4) 2)]) := .mk (pf := []) (an := [(0, [0, 2]), (1, [0, 2, 3]), (2, [0, 2, 3, 14]), (3, [2]), (4, [2])]) (by kernel_rfl) (fnOK_of Tryz.func265 (by kernel_rfl) (by kernel_rfl) (by kernel_rfl))
def ic275 : IC :=
 (.seq
 (.reg 0 [oM 10 1, oM 8 10] [0, 2, 3, 8])
 (.block 0
 (.loop
 (.block 1
 (.seq
 (.reg 1 [oM 11 8, oQ 12 (.bin .mul (cI 2) 11), oQ 13 (.bin .add 12 (cI 1)), oM 9 13] [0, 2, 3, 8, 9])
 (.seq
 (.seq
 (.reg 2 [oM 14 9, oM 15 2, oQ 16 (.bin .geq 14 15)] [0, 2, 3, 8, 9, 16])
 (.cond 16
 (.exit 0)
 .skip))
 (.seq
 (.seq
 (.dreg 3 [oM 17 9, oQ 18 (.bin .add 17 (cI 1)), oM 19 2, oQ 20 (.bin .lss 18 19), oM 21 20, gQ 22 21 true (.mov 0), gQ 23 21 true (.mov 3), gQ 24 21 true (.mov 9), gQ 25 21 true (.bin .add 23 24), gQ 26 21 true (.iaddr 1 22 25), gQ 27 21 true (.load none 26), gQ 28 21 true (.mov 0), gQ 29 21 true (.mov 3), gQ 30 21 true (.mov 9), gQ 31 21 true (.bin .add 29 30), gQ 32 21 true (.bin .add 31 (cI 1)), gQ 33 21 true (.iaddr 1 28 32), gQ 34 21 true (.load none 33), gK 35 21 true (.call 223 [27, 34]), oQ 36 (.pick 21 35 (cB false))] false [0, 2, 3, 8, 9, 36])
 (.cond 36
 (.reg 4 [oM 37 9, oQ 38 (.bin .add 37 (cI 1)), oM 9 38] [0, 2, 3, 8, 9])
 .skip))
 (.seq
 (.seq
 (.dreg 5 [oM 39 0, oM 40 3, oM 41 8, oQ 42 (.bin .add 40 41), oQ 43 (.iaddr 1 39 42), oQ 44 (.load none 43), oM 45 0, oM 46 3, oM 47 9, oQ 48 (.bin .add 46 47), oQ 49 (.iaddr 1 45 48), oQ 50 (.load none 49), oK 51 (.call 223 [44, 50]), oQ 52 (.not 51)] false [0, 2, 3, 8, 9, 52])
 (.cond 52
 .ret
 .skip))
 (.seq
 (.dreg 6 [oM 53 0, oM 54 3, oM 55 8, oQ 56 (.bin .add 54 55), oM 57 0, oM 58 3, oM 59 9, oQ 60 (.bin .add 58 59), oM 61 0, oM 62 3, oM 63 9, oQ 64 (.bin .add 62 63), oQ 65 (.iaddr 1 61 64), oQ 66 (.load none 65), oM 67 0, oM 68 3, oM 69 8, oQ 70 (.bin .add 68 69), oQ 71 (.iaddr 1 67 70), oQ 72 (.load none 71), oQ 73 (.iaddr 1 53 56), oN (.store 1 73 66), oQ 74 (.iaddr 1 57 60), oN (.store 1 74 72)] false [0, 2, 3, 9])
 (.reg 7 [oM 75 9, oM 8 75] [0, 2, 3, 8]))))))))))
theorem fok275 : FOK Tryz.prog 275 (76, ic275, []) := fokA [2000000] Tryz.func275 (by kernel_rfl) (by kernel_rfl) (by kernel_rfl) (by kernel_rfl)
def ic276 : IC :=
 (.seq
 (.reg 0 [oM 2 (.c (.int .u64 0))] [0])
 (.seq
 (.reg 1 [oM 3 0, oQ 4 (.conv .u64 3), oK 5 (.call 149 [4]), oQ 6 (.bin .shl (.c (.int .u64 1)) 5), oM 2 6] [2])
 .ret))
theorem fok276 : FOK Tryz.prog 276 (7, ic276, [(.t 2)]) := fokA [2000000] Tryz.func276 (by kernel_rfl) (by kernel_rfl) (by kernel_rfl) (by kernel_rfl)
def ic277 : IC :=
 (.seq
 (.reg 0 [oM 2 (.c (.int .u64 0))] [0])
 (.seq
 (.dreg 1 [oM 3 0, oQ 4 (.nchk 3), oQ 5 (.load none 4), oM 6 0, oQ 7 (.nchk 6), oQ 8 (.load none 7), oQ 9 (.bin .shl 8 (.c (.int .u64 13))), oQ 10 (.bin .xor 5 9), oQ 11 (.nchk 3), oN (.store 1 11 10)] false [0])
 (.seq
 (.dreg 2 [oM 12 0, oQ 13 (.nchk 12), oQ 14 (.load none 13), oM 15 0, oQ 16 (.nchk 15), oQ 17 (.load none 16), oQ 18 (.bin .shr 17 (.c (.int .u64 7))), oQ 19 (.bin .xor 14 18), oQ 20 (.nchk 12), oN (.store 1 20 19)] false [0])
 (.seq
 (.dreg 3 [oM 21 0, oQ 22 (.nchk 21), oQ 23 (.load none 22), oM 24 0, oQ 25 (.nchk 24), oQ 26 (.load none 25), oQ 27 (.bin .shl 26 (.c (.int .u64 17))), oQ 28 (.bin .xor 23 27), oQ 29 (.nchk 21), oN (.store 1 29 28)] false [0])
 (.seq
 (.reg 4 [oM 30 0, oQ 31 (.nchk 30), oQ 32 (.load none 31), oM 2 32] [2])
 .ret)))))
theorem fok277 : FOK Tryz.prog 277 (33, ic277, [(.t 2)]) := fokA [2000000] Tryz.func277 (by kernel_rfl) (by kernel_rfl) (by kernel_rfl) (by kernel_rfl)
def ic278 : IC :=
 (.seq
 (.reg 0 [oM 6 (cI 0)] [0, 1, 2])
 (.seq
 (.reg 1 [oM 7 0, oM 8 1, oQ 9 (.bin .sub 8 (cI 1)), oM 10 1, oM 11 1, oQ 12 (.bin .add 11 (cI 1)), oM 13 2, oK 14 (.call 279 [7, 9, 10, 12, 13]), oM 6 14] [6])
 .ret))
theorem fok278 : FOK Tryz.prog 278 (15, ic278, [(.t 6)]) := fokA [2000000] Tryz.func278 (by kernel_rfl) (by kernel_rfl) (by kernel_rfl) (by kernel_rfl)
def ic279 : IC :=
 (.seq
 (.reg 0 [oM 10 (cI 0)] [0, 1, 2, 3, 4])
 (.seq
 (.reg 1 [oM 12 0, oM 13 1, oM 14 2, oM 15 4, oK 16 (.call 306 [12, 13, 14, 15]), oM 11 16, oQ 17 (.ext 0 11), oQ 18 (.ext 1 11), oM 1 17, oM 2 18] [0, 1, 2, 3, 4])
 (.seq
 (.reg 2 [oM 20 0, oM 21 2, oM 22 3, oM 23 4, oK 24 (.call 306 [20, 21, 22, 23]), oM 19 24, oQ 25 (.ext 0 19), oQ 26 (.ext 1 19), oM 2 25, oM 3 26] [0, 1, 2, 4])
 (.seq
 (.reg 3 [oM 28 0, oM 29 1, oM 30 2, oM 31 4, oK 32 (.call 306 [28, 29, 30, 31]), oM 27 32, oQ 33 (.ext 0 27), oQ 34 (.ext 1 27), oM 1 33, oM 2 34] [2])
 (.seq
 (.reg 4 [oM 35 2, oM 10 35] [10])
 .ret)))))
theorem fok279 : FOK Tryz.prog 279 (36, ic279, [(.t 10)]) := fokA [2000000] Tryz.func279 (by kernel_rfl) (by kernel_rfl) (by kernel_rfl) (by kernel_rfl)
def ic280 : IC :=
(.seq
 (.reg 0 [⟨(some 2), none, (.q (.mov (.c (.str []))))⟩] [0])
 (.seq
  (.seq
   (.reg 1 [⟨(some 5), none, (.q (.load none (.g 1)))⟩, ⟨(some 6), none, (.mrange (.t 5))⟩] [0, 6])
   (.block 0
    (.loop
     (.seq
      (.reg 2 [⟨(some 7), none, (.mnext (.t 6))⟩, ⟨(some 8), none, (.q (.ext 0 (.t 7)))⟩] [0, 6, 8])
      (.seq
       (.cond (.t 8)
        .skip
        (.exit 0))
       (.block 1
        (.seq
         (.reg 3 [⟨(some 9), none, (.ment (.t 6))⟩, ⟨(some 10), none, (.q (.ext 0 (.t 9)))⟩, ⟨(some 11), none, (.q (.ext 1 (.t 9)))⟩, ⟨(some 3), none, (.q (.mov (.t 10)))⟩, ⟨(some 4), none, (.q (.mov (.t 11)))⟩] [0, 3, 4, 6])
         (.seq
          (.reg 4 [⟨(some 12), none, (.q (.mov (.t 4)))⟩, ⟨(some 13), none, (.q (.mov (.t 0)))⟩, ⟨(some 14), none, (.q (.bin .eql (.t 12) (.t 13)))⟩] [0, 3, 6, 14])
          (.cond (.t 14)
           (.seq
            (.reg 5 [⟨(some 15), none, (.q (.mov (.t 3)))⟩, ⟨(some 2), none, (.q (.mov (.t 15)))⟩] [2])
            .ret)
           .skip)))))))))
  (.seq
   (.reg 6 [⟨(some 2), none, (.q (.mov (.c (.str []))))⟩] [2])
   .ret)))
theorem fok280 : FOK Tryz.prog 280 (16, ic280, [(.t 2)]) := .mk (pf := []) (an := [(0, [0]), (1, [0, 6]), (2, [0, 6, 8]), (3, [0, 3, 4, 6]), (4, [0, 3, 6, 14]), (5, [2]), (6, [2])]) (by kernel_rfl) (fnOK_of Tryz.func280 (by kernel_rfl) (by kernel_rfl) (by kernel_rfl))
def ic281 : IC :=
 (.seq
 (.reg 0 [oK 1 (.boxt 0), oM 2 (.c .nilfunc)] [1])
 (.seq
 (.reg 1 [oQ 3 (.mkf 307 [] [1]), oM 2 3] [2])
 .ret))
theorem fok281 : FOK Tryz.prog 281 (4, ic281, [(.t 2)]) := fokA [1000001, 2000000] Tryz.func281 (by kernel_rfl) (by kernel_rfl) (by kernel_rfl) (by kernel_rfl)
def ic282 : IC :=
 (.seq
 (.reg 0 [oM 2 (cI 0)] [0])
 (.seq
 (.reg 1 [oM 3 (cI 0)] [0, 3])
 (.seq
 (.seq
 (.reg 2 [oM 6 0, oQ 7 (.len 0 6), oM 8 (cI 0)] [3, 6, 7, 8])
 (.block 0
 (.loop
 (.seq
 (.reg 3 [oQ 9 (.bin .lss 8 7)] [3, 6, 7, 8, 9])
 (.seq
 (.cond 9
 .skip
 (.exit 0))
 (.seq
 (.block 1
 (.seq
 (.reg 4 [oQ 10 (.iaddr 1 6 8), oQ 11 (.load none 10), oM 5 11] [3, 5, 6, 7, 8])
 (.seq
 (.reg 5 [oM 12 5, oM 13 3, oQ 14 (.bin .neq 12 13)] [3, 5, 6, 7, 8, 14])
 (.cond 14
 (.seq
 (.reg 6 [oM 15 5, oM 2 15] [2])
 .ret)
 .skip))))
 (.reg 7 [oQ 16 (.bin .add 8 (cI 1)), oM 8 16] [3, 6, 7, 8])))))))
 (.seq
 (.reg 8 [oM 17 3, oM 2 17] [2])
 .ret))))
theorem fok282 : FOK Tryz.prog 282 (18, ic282, [(.t 2)]) := fokA [2000000] Tryz.func282 (by kernel_rfl) (by kernel_rfl) (by kernel_rfl) (by kernel_rfl)
def ic283 : IC :=
 (.seq
 (.reg 0 [oM 4 (cI 0)] [0, 1])
 (.seq
 (.reg 1 [oM 7 0, oK 8 (.call 310 [7]), oM 5 8] [0, 1, 5])
 (.seq
 (.reg 2 [oM 9 1, oK 10 (.call 310 [9]), oM 6 10] [0, 1, 5, 6])
 (.seq
 (.seq
 (.reg 3 [oM 11 5] [0, 1, 6, 11])
 (.cond 11
 (.seq
 (.seq
 (.reg 4 [oM 12 6] [12])
 (.cond 12
 (.seq
 (.reg 5 [oM 4 (cI 0)] [4])
 .ret)
 .skip))
 (.seq
 (.reg 6 [oM 4 (cI (-1))] [4])
 .ret))
 .skip))
 (.seq
 (.seq
 (.reg 7 [oM 13 6] [0, 1, 13])
 (.cond 13
 (.seq
 (.reg 8 [oM 4 (cI 1)] [4])
 .ret)
 .skip))
 (.seq
 (.seq
 (.reg 9 [oM 14 0, oM 15 1, oQ 16 (.bin .lss 14 15)] [0, 1, 16])
 (.cond 16
 (.seq
 (.reg 10 [oM 4 (cI (-1))] [4])
 .ret)
 .skip))
 (.seq
 (.seq
 (.reg 11 [oM 17 0, oM 18 1, oQ 19 (.bin .gtr 17 18)] [19])
 (.cond 19
 (.seq
 (.reg 12 [oM 4 (cI 1)] [4])
 .ret)
 .skip))
 (.seq
 (.reg 13 [oM 4 (cI 0)] [4])
 .ret))))))))
theorem fok283 : FOK Tryz.prog 283 (20, ic283, [(.t 4)]) := fokA [2000000] Tryz.func283 (by kernel_rfl) (by kernel_rfl) (by kernel_rfl) (by kernel_rfl)
def ic284 : IC :=
 (.seq
 (.reg 0 [oM 4 (cI 0)] [0, 1])
 (.seq
 (.reg 1 [oM 7 0, oK 8 (.call 305 [7]), oM 5 8] [0, 1, 5])
 (.seq
 (.reg 2 [oM 9 1, oK 10 (.call 305 [9]), oM 6 10] [0, 1, 5, 6])
 (.seq
 (.seq
 (.reg 3 [oM 11 5] [0, 1, 6, 11])
 (.cond 11
 (.seq
 (.seq
 (.reg 4 [oM 12 6] [12])
 (.cond 12
 (.seq
 (.reg 5 [oM 4 (cI 0)] [4])
 .ret)
 .skip))
 (.seq
 (.reg 6 [oM 4 (cI (-1))] [4])
 .ret))
 .skip))
 (.seq
 (.seq
 (.reg 7 [oM 13 6] [0, 1, 13])
 (.cond 13
 (.seq
 (.reg 8 [oM 4 (cI 1)] [4])
 .ret)
 .skip))
 (.seq
 (.seq
 (.reg 9 [oM 14 0, oM 15 1, oQ 16 (.bin .lss 14 15)] [0, 1, 16])
 (.cond 16
 (.seq
 (.reg 10 [oM 4 (cI (-1))] [4])
 .ret)
 .skip))
 (.seq
 (.seq
 (.reg 11 [oM 17 0, oM 18 1, oQ 19 (.bin .gtr 17 18)] [19])
 (.cond 19
 (.seq
 (.reg 12 [oM 4 (cI 1)] [4])
 .ret)
 .skip))
 (.seq
 (.reg 13 [oM 4 (cI 0)] [4])
 .ret))))))))
theorem fok284 : FOK Tryz.prog 284 (20, ic284, [(.t 4)]) := fokA [2000000] Tryz.func284 (by kernel_rfl) (by kernel_rfl) (by kernel_rfl) (by kernel_rfl)
def ic285 : IC :=
(.seq
 (.reg 0 [⟨(some 4), none, (.boxt (.t 0))⟩, ⟨(some 7), none, (.q (.mov (.c (.bool false))))⟩] [1, 2, 3, 4])
 (.seq
  (.seq
   (.reg 1 [⟨(some 10), none, (.q (.mov (.t 2)))⟩, ⟨(some 11), none, (.q (.load (some 7) (.t 4)))⟩, ⟨(some 12), none, (.q (.mov (.t 1)))⟩, ⟨(some 13), none, (.callv (.t 10) [(.t 11), (.t 12)])⟩, ⟨(some 14), none, (.q (.not (.t 13)))⟩] [1, 2, 3, 4, 14])
   (.cond (.t 14)
    (.seq
     (.reg 2 [⟨(some 7), none, (.q (.mov (.c (.bool false))))⟩] [7])
     .ret)
    .skip))
  (.seq
   (.reg 3 [⟨(some 15), none, (.q (.mov (.t 1)))⟩, ⟨(some 16), none, (.q (.mov (.t 15)))⟩, ⟨(some 17), (some ⟨16, false⟩), (.q (.faddr 0 (.t 4)))⟩, ⟨(some 18), (some ⟨16, false⟩), (.q (.load none (.t 17)))⟩, ⟨(some 19), (some ⟨16, false⟩), (.q (.bin .eql (.t 18) (.c (.int .u8 6))))⟩, ⟨(some 20), none, (.q (.pick (.t 16) (.c (.bool true)) (.t 19)))⟩, ⟨(some 21), none, (.q (.mov (.t 20)))⟩, ⟨(some 22), (some ⟨21, false⟩), (.q (.faddr 0 (.t 4)))⟩, ⟨(some 23), (some ⟨21, false⟩), (.q (.load none (.t 22)))⟩, ⟨(some 24), (some ⟨21, false⟩), (.q (.bin .eql (.t 23) (.c (.int .u8 7))))⟩, ⟨(some 25), none, (.q (.pick (.t 21) (.c (.bool true)) (.t 24)))⟩, ⟨(some 1), none, (.q (.mov (.t 25)))⟩] [1, 2, 3, 4])
   (.seq
    (.seq
     (.reg 4 [⟨(some 26), none, (.q (.faddr 6 (.t 4)))⟩, ⟨(some 27), none, (.q (.load none (.t 26)))⟩, ⟨(some 28), none, (.q (.len 0 (.t 27)))⟩, ⟨(some 29), none, (.q (.mov (.c (.int .i64 0))))⟩] [1, 2, 3, 27, 28, 29])
     (.block 0
      (.loop
       (.seq
        (.reg 5 [⟨(some 30), none, (.q (.bin .lss (.t 29) (.t 28)))⟩] [1, 2, 3, 27, 28, 29, 30])
        (.seq
         (.cond (.t 30)
          .skip
          (.exit 0))
         (.seq
          (.block 1
           (.seq
            (.reg 6 [⟨(some 31), none, (.q (.iaddr 7 (.t 27) (.t 29)))⟩, ⟨(some 32), none, (.q (.load (some 7) (.t 31)))⟩, ⟨(some 9), none, (.alloc [(.int .u8 0), (.str []), (.int .u8 0), (.int .i64 0), (.str []), (.str []), .nilslice])⟩, ⟨none, none, (.store 7 (.t 9) (.t 32))⟩] [1, 2, 3, 9, 27, 28, 29])
            (.seq
            (.reg 7 [⟨(some 33), none, (.q (.load none (.t 3)))⟩, ⟨(some 34), none, (.q (.load (some 7) (.t 9)))⟩, ⟨(some 35), none, (.q (.mov (.t 1)))⟩, ⟨(some 36), none, (.q (.mov (.t 2)))⟩, ⟨(some 37), none, (.callv (.t 33) [(.t 34), (.t 35), (.t 36)])⟩, ⟨(some 38), none, (.q (.not (.t 37)))⟩] [1, 2, 3, 27, 28, 29, 38])
            (.cond (.t 38)
            (.seq
            (.reg 8 [⟨(some 7), none, (.q (.mov (.c (.bool false))))⟩] [7])
            .ret)
            .skip))))
          (.reg 9 [⟨(some 39), none, (.q (.bin .add (.t 29) (.c (.int .i64 1))))⟩, ⟨(some 29), none, (.q (.mov (.t 39)))⟩] [1, 2, 3, 27, 28, 29])))))))
    (.seq
     (.reg 10 [⟨(some 7), none, (.q (.mov (.c (.bool true))))⟩] [7])
     .ret)))))
theorem fok285 : FOK Tryz.prog 285 (40, ic285, [(.t 7)]) := .mk (pf := [1000004]) (an := [(0, [1, 2, 3, 4]), (1, [1, 2, 3, 4, 14]), (2, [7]), (3, [1, 2, 3, 4]), (4, [1, 2, 3, 27, 28, 29]), (5, [1, 2, 3, 27, 28, 29, 30]), (6, [1, 2, 3, 9, 27, 28, 29]), (7, [1, 2, 3, 27, 28, 29, 38]), (8, [7]), (9, [1, 2, 3, 27, 28, 29]), (10, [7])]) (by kernel_rfl) (fnOK_of Tryz.func285 (by kernel_rfl) (by kernel_rfl) (by kernel_rfl))
def ic286 : IC :=
(.reg 0 [⟨(some 4), none, (.q (.load none (.t 1)))⟩, ⟨(some 5), none, (.q (.load (some 7) (.t 2)))⟩, ⟨(some 6), none, (.q (.mov (.t 0)))⟩, ⟨(some 7), none, (.callv (.t 4) [(.t 5), (.c (.bool false)), (.t 6)])⟩] [])
theorem fok286 : FOK Tryz.prog 286 (8, ic286, []) := .mk (pf := []) (an := []) (by kernel_rfl) (fnOK_of Tryz.func286 (by kernel_rfl) (by kernel_rfl) (by kernel_rfl))
def ic295 : IC :=
 (.seq
 (.reg 0 [oM 12 1, oM 10 12] [0, 2, 3, 4, 10])
 (.block 0
 (.loop
 (.block 1
 (.seq
 (.reg 1 [oM 13 10, oQ 14 (.bin .mul (cI 2) 13), oQ 15 (.bin .add 14 (cI 1)), oM 11 15] [0, 2, 3, 4, 10, 11])
 (.seq
 (.seq
 (.reg 2 [oM 16 11, oM 17 2, oQ 18 (.bin .geq 16 17)] [0, 2, 3, 4, 10, 11, 18])
 (.cond 18
 (.exit 0)
 .skip))
 (.seq
 (.seq
 (.dreg 3 [oM 19 11, oQ 20 (.bin .add 19 (cI 1)), oM 21 2, oQ 22 (.bin .lss 20 21), oM 23 22, gQ 24 23 true (.mov 4), gQ 25 23 true (.mov 0), gQ 26 23 true (.mov 3), gQ 27 23 true (.mov 11), gQ 28 23 true (.bin .add 26 27), gQ 29 23 true (.iaddr 1 25 28), gQ 30 23 true (.load none 29), gQ 31 23 true (.mov 0), gQ 32 23 true (.mov 3), gQ 33 23 true (.mov 11), gQ 34 23 true (.bin .add 32 33), gQ 35 23 true (.bin .add 34 (cI 1)), gQ 36 23 true (.iaddr 1 31 35), gQ 37 23 true (.load none 36), gK 38 23 true (.callv 24 [30, 37]), gQ 39 23 true (.bin .lss 38 (cI 0)), oQ 40 (.pick 23 39 (cB false))] false [0, 2, 3, 4, 10, 11, 40])
 (.cond 40
 (.reg 4 [oM 41 11, oQ 42 (.bin .add 41 (cI 1)), oM 11 42] [0, 2, 3, 4, 10, 11])
 .skip))
 (.seq
 (.seq
 (.dreg 5 [oM 43 4, oM 44 0, oM 45 3, oM 46 10, oQ 47 (.bin .add 45 46), oQ 48 (.iaddr 1 44 47), oQ 49 (.load none 48), oM 50 0, oM 51 3, oM 52 11, oQ 53 (.bin .add 51 52), oQ 54 (.iaddr 1 50 53), oQ 55 (.load none 54), oK 56 (.callv 43 [49, 55]), oQ 57 (.bin .lss 56 (cI 0)), oQ 58 (.not 57)] false [0, 2, 3, 4, 10, 11, 58])
 (.cond 58
 .ret
 .skip))
 (.seq
 (.dreg 6 [oM 59 0, oM 60 3, oM 61 10, oQ 62 (.bin .add 60 61), oM 63 0, oM 64 3, oM 65 11, oQ 66 (.bin .add 64 65), oM 67 0, oM 68 3, oM 69 11, oQ 70 (.bin .add 68 69), oQ 71 (.iaddr 1 67 70), oQ 72 (.load none 71), oM 73 0, oM 74 3, oM 75 10, oQ 76 (.bin .add 74 75), oQ 77 (.iaddr 1 73 76), oQ 78 (.load none 77), oQ 79 (.iaddr 1 59 62), oN (.store 1 79 72), oQ 80 (.iaddr 1 63 66), oN (.store 1 80 78)] false [0, 2, 3, 4, 11])
 (.reg 7 [oM 81 11, oM 10 81] [0, 2, 3, 4, 10]))))))))))
theorem fok295 : FOK Tryz.prog 295 (82, ic295, []) := fokA [2000000] Tryz.func295 (by kernel_rfl) (by kernel_rfl) (by kernel_rfl) (by kernel_rfl)
def ic296 : IC :=
 (.seq
 (.reg 0 [oM 8 (cI 0)] [0, 1, 2, 3])
 (.seq
 (.reg 1 [oM 9 0, oM 10 1, oQ 11 (.bin .sub 10 (cI 1)), oM 12 1, oM 13 1, oQ 14 (.bin .add 13 (cI 1)), oM 15 2, oM 16 3, oK 17 (.call 297 [9, 11, 12, 14, 15, 16]), oM 8 17] [8])
 .ret))
theorem fok296 : FOK Tryz.prog 296 (18, ic296, [(.t 8)]) := fokA [2000000] Tryz.func296 (by kernel_rfl) (by kernel_rfl) (by kernel_rfl) (by kernel_rfl)
def ic297 : IC :=
 (.seq
 (.reg 0 [oM 12 (cI 0)] [0, 1, 2, 3, 4, 5])
 (.seq
 (.reg 1 [oM 14 0, oM 15 1, oM 16 2, oM 17 4, oM 18 5, oK 19 (.call 316 [14, 15, 16, 17, 18]), oM 13 19, oQ 20 (.ext 0 13), oQ 21 (.ext 1 13), oM 1 20, oM 2 21] [0, 1, 2, 3, 4, 5])
 (.seq
 (.reg 2 [oM 23 0, oM 24 2, oM 25 3, oM 26 4, oM 27 5, oK 28 (.call 316 [23, 24, 25, 26, 27]), oM 22 28, oQ 29 (.ext 0 22), oQ 30 (.ext 1 22), oM 2 29, oM 3 30] [0, 1, 2, 4, 5])
 (.seq
 (.reg 3 [oM 32 0, oM 33 1, oM 34 2, oM 35 4, oM 36 5, oK 37 (.call 316 [32, 33, 34, 35, 36]), oM 31 37, oQ 38 (.ext 0 31), oQ 39 (.ext 1 31), oM 1 38, oM 2 39] [2])
 (.seq
 (.reg 4 [oM 40 2, oM 12 40] [12])
 .ret)))))
theorem fok297 : FOK Tryz.prog 297 (41, ic297, [(.t 12)]) := fokA [2000000] Tryz.func297 (by kernel_rfl) (by kernel_rfl) (by kernel_rfl) (by kernel_rfl)
def ic298 : IC :=
 (.seq
 (.reg 0 [oK 2 (.box 0), oM 4 (.c .nilslice)] [1, 2, 4])
 (.seq
 (.seq
 (.reg 1 [oM 6 1] [2, 4, 6])
 (.block 0
 (.rfunc 6 [7]
 (.reg 2 [oM 5 7] [2, 5])
 (.block 1
 (.reg 3 [oQ 8 (.load none 2), oM 9 5, oK 10 (.bslt 1 1 [(zI 0)] [⟨0, ⟨1, 9⟩⟩]), oK 11 (.app 1 8 10), oN (.store 1 2 11)] [])))))
 (.seq
 (.reg 4 [oQ 12 (.load none 2), oM 4 12] [4])
 .ret)))
theorem fok298 : FOK Tryz.prog 298 (13, ic298, [(.t 4)]) := fokA [1000010, 2000000] Tryz.func298 (by kernel_rfl) (by kernel_rfl) (by kernel_rfl) (by kernel_rfl)
def ic299 : IC :=
(.seq
 (.reg 0 [⟨(some 4), none, (.q (.mov (.c (.int .i64 0))))⟩] [0, 1])
 (.seq
  (.reg 1 [⟨(some 5), none, (.q (.mov (.t 0)))⟩, ⟨(some 6), none, (.q (.mov (.t 1)))⟩, ⟨(some 7), none, (.q (.ibs (.t 5) (.t 6)))⟩, ⟨(some 4), none, (.q (.mov (.t 7)))⟩] [4])
  .ret))
theorem fok299 : FOK Tryz.prog 299 (8, ic299, [(.t 4)]) := .mk (pf := []) (an := [(0, [0, 1]), (1, [4])]) (by kernel_rfl) (fnOK_of Tryz.func299 (by kernel_rfl) (by kernel_rfl) (by kernel_rfl))
def ic300 : IC :=
(.seq
 (.reg 0 [⟨(some 4), none, (.q (.mov (.c (.bool false))))⟩] [0, 1])
 (.seq
  (.reg 1 [⟨(some 5), none, (.q (.mov (.t 0)))⟩, ⟨(some 6), none, (.q (.len 1 (.t 5)))⟩, ⟨(some 7), none, (.q (.mov (.t 1)))⟩, ⟨(some 8), none, (.q (.len 1 (.t 7)))⟩, ⟨(some 9), none, (.q (.bin .geq (.t 6) (.t 8)))⟩, ⟨(some 10), none, (.q (.mov (.t 9)))⟩, ⟨(some 11), (some ⟨10, true⟩), (.q (.mov (.t 0)))⟩, ⟨(some 12), (some ⟨10, true⟩), (.q (.mov (.t 1)))⟩, ⟨(some 13), (some ⟨10, true⟩), (.q (.len 1 (.t 12)))⟩, ⟨(some 14), (some ⟨10, true⟩), (.q (.sstr (.t 11) none (some (.t 13))))⟩, ⟨(some 15), (some ⟨10, true⟩), (.q (.mov (.t 1)))⟩, ⟨(some 16), (some ⟨10, true⟩), (.q (.bin .eql (.t 14) (.t 15)))⟩, ⟨(some 17), none, (.q (.pick (.t 10) (.t 16) (.c (.bool false))))⟩, ⟨(some 4), none, (.q (.mov (.t 17)))⟩] [4])
  .ret))
theorem fok300 : FOK Tryz.prog 300 (18, ic300, [(.t 4)]) := .mk (pf := []) (an := [(0, [0, 1]), (1, [4])]) (by kernel_rfl) (fnOK_of Tryz.func300 (by kernel_rfl) (by kernel_rfl) (by kernel_rfl))
def ic301 : IC :=
(.seq
 (.reg 0 [⟨(some 4), none, (.q (.mov (.c (.int .i64 0))))⟩] [0, 1])
 (.seq
  (.seq
   (.reg 1 [⟨(some 6), none, (.q (.mov (.t 0)))⟩, ⟨(some 7), none, (.q (.len 0 (.t 6)))⟩, ⟨(some 8), none, (.q (.mov (.c (.int .i64 0))))⟩] [0, 1, 7, 8])
   (.block 0
    (.loop
     (.seq
      (.reg 2 [⟨(some 9), none, (.q (.bin .lss (.t 8) (.t 7)))⟩] [0, 1, 7, 8, 9])
      (.seq
       (.cond (.t 9)
        .skip
        (.exit 0))
       (.seq
        (.block 1
         (.seq
          (.reg 3 [⟨(some 10), none, (.q (.mov (.t 8)))⟩, ⟨(some 5), none, (.q (.mov (.t 10)))⟩] [0, 1, 5, 7, 8])
          (.seq
           (.reg 4 [⟨(some 11), none, (.q (.mov (.t 1)))⟩, ⟨(some 12), none, (.q (.mov (.t 0)))⟩, ⟨(some 13), none, (.q (.mov (.t 5)))⟩, ⟨(some 14), none, (.q (.iaddr 1 (.t 12) (.t 13)))⟩, ⟨(some 15), none, (.q (.load none (.t 14)))⟩, ⟨(some 16), none, (.callv (.t 11) [(.t 15)])⟩] [0, 1, 5, 7, 8, 16])
           (.cond (.t 16)
            (.seq
            (.reg 5 [⟨(some 17), none, (.q (.mov (.t 5)))⟩, ⟨(some 4), none, (.q (.mov (.t 17)))⟩] [4])
            .ret)
            .skip))))
        (.reg 6 [⟨(some 18), none, (.q (.bin .add (.t 8) (.c (.int .i64 1))))⟩, ⟨(some 8), none, (.q (.mov (.t 18)))⟩] [0, 1, 7, 8])))))))
  (.seq
   (.reg 7 [⟨(some 4), none, (.q (.mov (.c (.int .i64 (-1)))))⟩] [4])
   .ret)))
theorem fok301 : FOK Tryz.prog 301 (19, ic301, [(.t 4)]) := .mk (pf := []) (an := [(0, [0, 1]), (1, [0, 1, 7, 8]), (2, [0, 1, 7, 8, 9]), (3, [0, 1, 5, 7, 8]), (4, [0, 1, 5, 7, 8, 16]), (5, [4]), (6, [0, 1, 7, 8]), (7, [4])]) (by kernel_rfl) (fnOK_of Tryz.func301 (by kernel_rfl) (by kernel_rfl) (by kernel_rfl))
def ic305 : IC :=
 (.seq
 (.reg 0 [oM 2 (cB false)] [0])
 (.seq
 (.reg 1 [oM 3 0, oM 4 0, oQ 5 (.bin .neq 3 4), oM 2 5] [2])
 .ret))
theorem fok305 : FOK Tryz.prog 305 (6, ic305, [(.t 2)]) := fokA [2000000] Tryz.func305 (by kernel_rfl) (by kernel_rfl) (by kernel_rfl) (by kernel_rfl)
def ic306 : IC :=
 (.seq
 (.reg 0 [oM 8 (cI 0), oM 9 (cI 0)] [0, 1, 2, 3])
 (.seq
 (.seq
 (.dreg 1 [oM 10 0, oM 11 2, oQ 12 (.iaddr 1 10 11), oQ 13 (.load none 12), oM 14 0, oM 15 1, oQ 16 (.iaddr 1 14 15), oQ 17 (.load none 16), oK 18 (.call 223 [13, 17])] false [1, 2, 3, 18])
 (.cond 18
 (.seq
 (.reg 2 [oM 19 3, oQ 20 (.nchk 19), oQ 21 (.load none 20), oQ 22 (.bin .add 21 (cI 1)), oQ 23 (.nchk 19), oN (.store 1 23 22)] [1, 2])
 (.seq
 (.reg 3 [oM 24 2, oM 25 1, oM 8 24, oM 9 25] [8, 9])
 .ret))
 .skip))
 (.seq
 (.reg 4 [oM 26 1, oM 27 2, oM 8 26, oM 9 27] [8, 9])
 .ret)))
theorem fok306 : FOK Tryz.prog 306 (28, ic306, [(.t 8), (.t 9)]) := fokA [2000000] Tryz.func306 (by kernel_rfl) (by kernel_rfl) (by kernel_rfl) (by kernel_rfl)
def ic307 : IC :=
 (.seq
 (.reg 0 [oM 3 (cI 0)] [0, 1, 3])
 (.block 0
 (.loop
 (.seq
 (.seq
 (.reg 1 [oM 6 3, oQ 7 (.load none 1), oQ 8 (.len 1 7), oQ 9 (.bin .lss 6 8)] [0, 1, 3, 9])
 (.cond 9
 .skip
 (.exit 0)))
 (.block 1
 (.seq
 (.reg 2 [oQ 10 (.load none 1), oM 11 3, oQ 12 (.istr 10 11), oK 13 (.call 308 [12]), oQ 14 (.bld [(zU 0), (.str [])] [⟨0, ⟨1, 13⟩⟩]), oK 4 (.alloc [(zU 0), (.str [])]), oN (.store 2 4 14)] [0, 1, 3, 4])
 (.seq
 (.reg 3 [oM 15 3, oM 5 15] [0, 1, 3, 4, 5])
 (.seq
 (.seq
 (.reg 4 [oM 16 3, oQ 17 (.bin .add 16 (cI 1)), oM 3 17] [0, 1, 3, 4, 5])
 (.block 2
 (.loop
 (.seq
 (.seq
 (.oreg 5 [(0, oQ 18 (.faddr 0 4), 0), (1, oQ 19 (.load none 18), 0), (2, oQ 20 (.bin .geq 19 (.c (zU 4))), 0), (3, oM 21 20, 0), (4, gQ 22 21 true (.mov 3), 0), (5, gQ 23 21 true (.load none 1), 0), (6, gQ 24 21 true (.len 1 23), 0), (7, gQ 25 21 true (.bin .lss 22 24), 0), (8, oQ 26 (.pick 21 25 (cB false)), 0), (9, oM 27 26, 0), (10, gQ 28 27 true (.load none 1), 0), (11, gQ 29 27 true (.mov 3), 0), (12, gQ 30 27 true (.istr 28 29), 0), (14, gQ 32 27 true (.faddr 0 4), 0), (15, gQ 33 27 true (.load none 32), 0), (13, gK 31 27 true (.call 308 [30]), 32768), (16, gQ 34 27 true (.bin .eql 31 33), 0), (17, oQ 35 (.pick 27 34 (cB false)), 0)] [0, 1, 3, 4, 5, 35])
 (.cond 35
 .skip
 (.exit 2)))
 (.seq
 (.block 3
 .skip)
 (.reg 6 [oM 36 3, oQ 37 (.bin .add 36 (cI 1)), oM 3 37] [0, 1, 3, 4, 5]))))))
 (.seq
 (.seq
 (.reg 7 [oQ 38 (.faddr 0 4), oQ 39 (.load none 38), oQ 40 (.bin .geq 39 (.c (zU 4)))] [0, 1, 3, 4, 5, 40])
 (.cond 40
 (.reg 8 [oQ 41 (.load none 1), oM 42 5, oM 43 3, oQ 44 (.sstr 41 (some 42) (some 43)), oQ 45 (.faddr 1 4), oN (.store 1 45 44)] [0, 1, 3, 4])
 .skip))
 (.seq
 (.seq
 (.reg 9 [oQ 46 (.faddr 0 4), oQ 47 (.load none 46), oQ 48 (.bin .eql 47 (.c (zU 5)))] [0, 1, 3, 4, 48])
 (.cond 48
 (.reg 10 [oQ 49 (.faddr 1 4), oQ 50 (.load none 49), oK 51 (.call 309 [50, (.c (.str [48]))]), oQ 52 (.faddr 1 4), oN (.store 1 52 51)] [0, 1, 3, 4])
 .skip))
 (.seq
 (.reg 11 [oQ 53 (.faddr 0 4), oQ 54 (.load none 53), oQ 55 (.bin .neq 54 (.c (zU 0))), oM 56 55, gQ 57 56 true (.mov 0), gQ 58 56 true (.load (some 2) 4), gK 59 56 true (.callv 57 [58]), gQ 60 56 true (.not 59), oQ 61 (.pick 56 60 (cB false))] [0, 1, 3, 61])
 (.cond 61
 .ret
 .skip))))))))))))
theorem fok307 : FOK Tryz.prog 307 (62, ic307, []) := fokA [2000000] Tryz.func307 (by kernel_rfl) (by kernel_rfl) (by kernel_rfl) (by kernel_rfl)
def ic308 : IC :=
 (.seq
 (.reg 0 [oM 2 (.c (zU 0))] [0])
 (.seq
 (.block 0
 (.seq
 (.reg 1 [oM 4 0, oQ 5 (.bin .eql 4 (.c (zU 126))), oM 3 5] [0, 3])
 (.cond 3
 (.seq
 (.reg 2 [oM 2 (.c (zU 1))] [2])
 .ret)
 (.seq
 (.reg 3 [oM 7 0, oQ 8 (.bin .eql 7 (.c (zU 94))), oM 6 8] [0, 6])
 (.cond 6
 (.seq
 (.reg 4 [oM 2 (.c (zU 3))] [2])
 .ret)
 (.seq
 (.reg 5 [oM 10 0, oQ 11 (.bin .geq 10 (.c (zU 97))), oM 12 11, gQ 13 12 true (.mov 0), gQ 14 12 true (.bin .leq 13 (.c (zU 122))), oQ 15 (.pick 12 14 (cB false)), oM 16 15, gQ 17 16 false (.mov 0), gQ 18 16 false (.bin .geq 17 (.c (zU 65))), gQ 19 16 false (.mov 18), gQ 20 19 true (.mov 0), gQ 21 19 true (.bin .leq 20 (.c (zU 90))), gQ 22 16 false (.pick 19 21 (cB false)), oQ 23 (.pick 16 (cB true) 22), oM 9 23] [0, 9])
 (.cond 9
 (.seq
 (.reg 6 [oM 2 (.c (zU 4))] [2])
 .ret)
 (.seq
 (.reg 7 [oM 25 0, oQ 26 (.bin .geq 25 (.c (zU 48))), oM 27 26, gQ 28 27 true (.mov 0), gQ 29 27 true (.bin .leq 28 (.c (zU 57))), oQ 30 (.pick 27 29 (cB false)), oM 24 30] [24])
 (.cond 24
 (.seq
 (.reg 8 [oM 2 (.c (zU 5))] [2])
 .ret)
 .skip)))))))))
 (.seq
 (.reg 9 [oM 2 (.c (zU 0))] [2])
 .ret)))
theorem fok308 : FOK Tryz.prog 308 (31, ic308, [(.t 2)]) := fokA [2000000] Tryz.func308 (by kernel_rfl) (by kernel_rfl) (by kernel_rfl) (by kernel_rfl)
def ic309 : IC :=
 (.seq
 (.reg 0 [oM 4 (.c (.str []))] [0, 1])
 (.seq
 (.seq
 (.reg 1 [oM 7 0, oQ 8 (.bin .eql 7 (.c (.str []))), oM 9 8, gQ 10 9 false (.mov 1), gQ 11 9 false (.bin .eql 10 (.c (.str []))), oQ 12 (.pick 9 (cB true) 11)] [0, 1, 12])
 (.cond 12
 (.seq
 (.reg 2 [oM 13 0, oM 4 13] [4])
 .ret)
 .skip))
 (.seq
 (.seq
 (.reg 3 [oM 14 1, oQ 15 (.len 1 14), oQ 16 (.bin .eql 15 (cI 1)), oM 17 16, gQ 18 17 true (.mov 1), gQ 19 17 true (.istr 18 (cI 0)), gQ 20 17 true (.bin .lss 19 (.c (zU 128))), oQ 21 (.pick 17 20 (cB false))] [0, 1, 21])
 (.cond 21
 (.seq
 (.reg 4 [oM 22 0, oM 23 1, oQ 24 (.istr 23 (cI 0)), oK 25 (.call 319 [22, 24]), oM 4 25] [4])
 .ret)
 .skip))
 (.seq
 (.seq
 (.reg 5 [oM 27 1, oK 28 (.call 320 [27]), oM 26 28, oQ 29 (.ext 0 26), oQ 30 (.ext 1 26), oK 5 (.alloc [(.bool false), (.bool false), (.bool false), (.bool false), (.bool false), (.bool false), (.bool false), (.bool false), (.bool false), (.bool false), (.bool false), (.bool false), (.bool false), (.bool false), (.bool false), (.bool false), (.bool false), (.bool false), (.bool false), (.bool false), (.bool false), (.bool false), (.bool false), (.bool false), (.bool false), (.bool false), (.bool false), (.bool false), (.bool false), (.bool false), (.bool false), (.bool false), (.bool false), (.bool false), (.bool false), (.bool false), (.bool false), (.bool false), (.bool false), (.bool false), (.bool false), (.bool false), (.bool false), (.bool false), (.bool false), (.bool false), (.bool false), (.bool false), (.bool false), (.bool false), (.bool false), (.bool false), (.bool false), (.bool false), (.bool false), (.bool false), (.bool false), (.bool false), (.bool false), (.bool false), (.bool false), (.bool false), (.bool false), (.bool false), (.bool false), (.bool false), (.bool false), (.bool false), (.bool false), (.bool false), (.bool false), (.bool false), (.bool false), (.bool false), (.bool false), (.bool false), (.bool false), (.bool false), (.bool false), (.bool false), (.bool false), (.bool false), (.bool false), (.bool false), (.bool false), (.bool false), (.bool false), (.bool false), (.bool false), (.bool false), (.bool false), (.bool false), (.bool false), (.bool false), (.bool false), (.bool false), (.bool false), (.bool false), (.bool false), (.bool false), (.bool false), (.bool false), (.bool false), (.bool false), (.bool false), (.bool false), (.bool false), (.bool false), (.bool false), (.bool false), (.bool false), (.bool false), (.bool false), (.bool false), (.bool false), (.bool false), (.bool false), (.bool false), (.bool false), (.bool false), (.bool false), (.bool false), (.bool false), (.bool false), (.bool false), (.bool false), (.bool false), (.bool false), (.bool false), (.bool false), (.bool false), (.bool false), (.bool false), (.bool false), (.bool false), (.bool false), (.bool false), (.bool false), (.bool false), (.bool false), (.bool false), (.bool false), (.bool false), (.bool false), (.bool false), (.bool false), (.bool false), (.bool false), (.bool false), (.bool false), (.bool false), (.bool false), (.bool false), (.bool false), (.bool false), (.bool false), (.bool false), (.bool false), (.bool false), (.bool false), (.bool false), (.bool false), (.bool false), (.bool false), (.bool false), (.bool false), (.bool false), (.bool false), (.bool false), (.bool false), (.bool false), (.bool false), (.bool false), (.bool false), (.bool false), (.bool false), (.bool false), (.bool false), (.bool false), (.bool false), (.bool false), (.bool false), (.bool false), (.bool false), (.bool false), (.bool false), (.bool false), (.bool false), (.bool false), (.bool false), (.bool false), (.bool false), (.bool false), (.bool false), (.bool false), (.bool false), (.bool false), (.bool false), (.bool false), (.bool false), (.bool false), (.bool false), (.bool false), (.bool false), (.bool false), (.bool false), (.bool false), (.bool false), (.bool false), (.bool false), (.bool false), (.bool false), (.bool false), (.bool false), (.bool false), (.bool false), (.bool false), (.bool false), (.bool false), (.bool false), (.bool false), (.bool false), (.bool false), (.bool false), (.bool false), (.bool false), (.bool false), (.bool false), (.bool false), (.bool false), (.bool false), (.bool false), (.bool false), (.bool false), (.bool false), (.bool false), (.bool false), (.bool false), (.bool false), (.bool false), (.bool false), (.bool false), (.bool false), (.bool false), (.bool false), (.bool false), (.bool false), (.bool false), (.bool false), (.bool false), (.bool false), (.bool false), (.bool false), (.bool false), (.bool false), (.bool false)]), oN (.store 256 5 29), oM 6 30] [0, 1, 5, 6])
 (.seq
 (.reg 6 [oM 31 6] [0, 1, 5, 31])
 (.cond 31
 (.seq
 (.reg 7 [oM 32 0, oK 33 (.call 321 [32, 5]), oM 4 33] [4])
 .ret)
 .skip)))
 (.seq
 (.reg 8 [oM 34 0, oM 35 1, oK 36 (.call 322 [34, 35]), oM 4 36] [4])
 .ret)))))
theorem fok309 : FOK Tryz.prog 309 (37, ic309, [(.t 4)]) := fokA [2000000] Tryz.func309 (by kernel_rfl) (by kernel_rfl) (by kernel_rfl) (by kernel_rfl)
def ic310 : IC :=
 (.seq
 (.reg 0 [oM 2 (cB false)] [0])
 (.seq
 (.reg 1 [oM 3 0, oM 4 0, oQ 5 (.bin .neq 3 4), oM 2 5] [2])
 .ret))
theorem fok310 : FOK Tryz.prog 310 (6, ic310, [(.t 2)]) := fokA [2000000] Tryz.func310 (by kernel_rfl) (by kernel_rfl) (by kernel_rfl) (by kernel_rfl)
end Go.Id.Tryz
