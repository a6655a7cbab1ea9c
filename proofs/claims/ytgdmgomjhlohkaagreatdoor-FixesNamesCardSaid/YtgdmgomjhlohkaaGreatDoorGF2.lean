/- The compiled codes of functions, written by a program out of the given form. Conditions: none. -/
import Derived.Test.YtgdmgomjhlohkaaGreatDoorFwW
import Derived.Test.YtgdmgomjhlohkaaGreatDoorProg
set_option linter.all false
namespace Go.Id.Tryz
open Go Go.Id Go.Proofs
def allF2 : List Nat := List.range 352
def ic146 : IC :=
 (.seq
 (.reg 0 [oM 4 (cB false)] [0, 1])
 (.seq
 (.reg 1 [oM 5 0, oK 6 (.call 69 [5]), oM 7 6, gQ 8 7 true (.mov 1), gK 9 7 true (.call 69 [8]), oQ 10 (.pick 7 9 (cB false)), oM 11 10, gQ 12 11 true (.mov 0), gQ 13 11 true (.mov 1), gQ 14 11 true (.bin .neq 12 13), oQ 15 (.pick 11 14 (cB false)), oM 4 15] [4])
 .ret))
theorem fok146 : FOK Tryz.prog 146 (16, ic146, [(.t 4)]) := fokA [2000000] Tryz.func146 (by kernel_rfl) (by kernel_rfl) (by kernel_rfl) (by kernel_rfl)
def ic147 : IC :=
 (.seq
 (.reg 0 [oK 2 (.boxt 0), oK 3 (.boxt 1), oM 4 (cI 0)] [2, 3])
 (.seq
 (.reg 1 [oQ 5 (.mkf 194 [] [2, 3]), oQ 6 (.mkf 196 [] [2, 3]), oQ 7 (.mkf 198 [] [2, 3]), oK 8 (.bslt 1 3 [.nilfunc] [⟨0, ⟨1, 5⟩⟩, ⟨1, ⟨1, 6⟩⟩, ⟨2, ⟨1, 7⟩⟩]), oK 9 (.call 193 [8]), oM 4 9] [4])
 .ret))
theorem fok147 : FOK Tryz.prog 147 (10, ic147, [(.t 4)]) := fokA [1000002, 1000003, 1000008, 2000000] Tryz.func147 (by kernel_rfl) (by kernel_rfl) (by kernel_rfl) (by kernel_rfl)
def ic148 : IC :=
 (.seq
 (.reg 0 [oM 4 (cB false)] [0, 1])
 (.seq
 (.reg 1 [oM 5 0, oM 6 1, oK 7 (.call 144 [5, 6]), oM 8 7, gQ 9 8 true (.mov 1), gQ 10 8 true (.mov 0), gQ 11 8 true (.nchk 10), gQ 12 8 true (.faddr 0 11), gQ 13 8 true (.load none 12), gK 14 8 true (.call 76 [13]), gQ 15 8 true (.bin .lss 9 14), oQ 16 (.pick 8 15 (cB false)), oM 4 16] [4])
 .ret))
theorem fok148 : FOK Tryz.prog 148 (17, ic148, [(.t 4)]) := fokA [2000000] Tryz.func148 (by kernel_rfl) (by kernel_rfl) (by kernel_rfl) (by kernel_rfl)
def ic149 : IC :=
 (.seq
 (.reg 0 [oM 6 (cB false)] [0, 1, 2])
 (.seq
 (.seq
 (.reg 1 [oM 9 0, oQ 10 (.nchk 9), oQ 11 (.faddr 2 10), oQ 12 (.faddr 2 11), oQ 13 (.load none 12), oQ 14 (.len 0 13), oM 15 (cI 0)] [0, 1, 2, 13, 14, 15])
 (.block 0
 (.loop
 (.seq
 (.reg 2 [oQ 16 (.bin .lss 15 14)] [0, 1, 2, 13, 14, 15, 16])
 (.seq
 (.cond 16
 .skip
 (.exit 0))
 (.seq
 (.block 1
 (.seq
 (.reg 3 [oM 17 15, oQ 18 (.iaddr 6 13 15), oQ 19 (.load (some 6) 18), oK 8 (.alloc [(zU 0), (.str []), (zU 0), (zI 0), (.str []), (.str [])]), oM 7 17, oN (.store 6 8 19)] [0, 1, 2, 7, 8, 13, 14, 15])
 (.seq
 (.oreg 4 [(0, oQ 20 (.faddr 0 8), 0), (1, oQ 21 (.load none 20), 0), (2, oM 22 1, 0), (3, oQ 23 (.bin .eql 21 22), 0), (4, oM 24 23, 0), (5, gQ 25 24 true (.mov 0), 0), (6, gQ 26 24 true (.mov 7), 0), (7, gK 27 24 true (.call 94 [25, 26]), 0), (8, gQ 28 24 true (.not 27), 0), (9, oQ 29 (.pick 24 28 (cB false)), 0), (10, oM 30 29, 0), (11, gQ 31 30 true (.mov 0), 0), (12, gQ 32 30 true (.nchk 31), 0), (13, gQ 33 30 true (.faddr 1 32), 0), (14, gQ 34 30 true (.load none 33), 0), (15, gQ 35 30 true (.faddr 1 8), 0), (16, gQ 36 30 true (.load (some 5) 35), 0), (18, gQ 38 30 true (.mov 2), 0), (17, gK 37 30 true (.call 98 [34, 36]), 0), (19, gK 39 30 true (.call 84 [37, 38]), 0), (20, oQ 40 (.pick 30 39 (cB false)), 0)] [0, 1, 2, 13, 14, 15, 40])
 (.cond 40
 (.seq
 (.reg 5 [oM 6 (cB true)] [6])
 .ret)
 .skip))))
 (.reg 6 [oQ 41 (.bin .add 15 (cI 1)), oM 15 41] [0, 1, 2, 13, 14, 15])))))))
 (.seq
 (.reg 7 [oM 6 (cB false)] [6])
 .ret)))
theorem fok149 : FOK Tryz.prog 149 (42, ic149, [(.t 6)]) := fokA [2000000] Tryz.func149 (by kernel_rfl) (by kernel_rfl) (by kernel_rfl) (by kernel_rfl)
def ic150 : IC :=
 (.seq
 (.reg 0 [oM 6 (cB false)] [0, 1, 2])
 (.seq
 (.reg 1 [oM 7 0, oQ 8 (.nchk 7), oQ 9 (.faddr 2 8), oQ 10 (.faddr 3 9), oQ 11 (.load none 10), oM 12 1, oM 13 2, oQ 14 (.bld [(zU 0), (zI 0)] [⟨0, ⟨1, 12⟩⟩, ⟨1, ⟨1, 13⟩⟩]), oK 15 (.call 199 [11, 14]), oM 6 15] [6])
 .ret))
theorem fok150 : FOK Tryz.prog 150 (16, ic150, [(.t 6)]) := fokA [2000000] Tryz.func150 (by kernel_rfl) (by kernel_rfl) (by kernel_rfl) (by kernel_rfl)
def ic151 : IC :=
 (.seq
 (.reg 0 [oM 4 (cB false)] [0, 1])
 (.seq
 (.reg 1 [oM 5 0, oQ 6 (.isnil (.pointer 167) true 5), oM 7 6, gQ 8 7 true (.mov 1), gQ 9 7 true (.bin .geq 8 (cI 0)), oQ 10 (.pick 7 9 (cB false)), oM 11 10, gQ 12 11 true (.mov 1), gQ 13 11 true (.mov 0), gQ 14 11 true (.nchk 13), gQ 15 11 true (.faddr 2 14), gQ 16 11 true (.faddr 2 15), gQ 17 11 true (.load none 16), gQ 18 11 true (.len 0 17), gQ 19 11 true (.bin .lss 12 18), oQ 20 (.pick 11 19 (cB false)), oM 4 20] [4])
 .ret))
theorem fok151 : FOK Tryz.prog 151 (21, ic151, [(.t 4)]) := fokA [2000000] Tryz.func151 (by kernel_rfl) (by kernel_rfl) (by kernel_rfl) (by kernel_rfl)
def ic152 : IC :=
(.seq
 (.reg 0 [⟨(some 2), none, (.boxt (.t 0))⟩, ⟨(some 3), none, (.boxt (.t 1))⟩, ⟨(some 4), none, (.alloc [(.int .i64 0)])⟩] [2, 3, 4])
 (.seq
  (.block 0
   (.seq
    (.reg 1 [⟨(some 9), none, (.q (.load none (.t 3)))⟩, ⟨(some 10), none, (.q (.bin .lss (.t 9) (.c (.int .u8 1))))⟩, ⟨(some 11), none, (.q (.mov (.t 10)))⟩, ⟨(some 12), (some ⟨11, false⟩), (.q (.load none (.t 3)))⟩, ⟨(some 13), (some ⟨11, false⟩), (.q (.bin .gtr (.t 12) (.c (.int .u8 3))))⟩, ⟨(some 14), none, (.q (.pick (.t 11) (.c (.bool true)) (.t 13)))⟩, ⟨(some 8), none, (.q (.mov (.t 14)))⟩] [2, 3, 4, 8])
    (.cond (.t 8)
     (.seq
      (.reg 2 [⟨none, none, (.store 1 (.t 4) (.c (.int .i64 1)))⟩] [4])
      .ret)
     (.seq
      (.reg 3 [⟨(some 16), none, (.q (.load (some 7) (.t 2)))⟩, ⟨(some 17), none, (.call 153 [(.t 16)])⟩, ⟨(some 18), none, (.q (.bin .gtr (.t 17) (.c (.int .i64 24))))⟩, ⟨(some 15), none, (.q (.mov (.t 18)))⟩] [2, 3, 4, 15])
      (.cond (.t 15)
       (.seq
        (.reg 4 [⟨none, none, (.store 1 (.t 4) (.c (.int .i64 40)))⟩] [4])
        .ret)
       (.seq
        (.reg 5 [⟨(some 20), none, (.q (.load (some 7) (.t 2)))⟩, ⟨(some 21), none, (.call 200 [(.t 20)])⟩, ⟨(some 22), none, (.q (.bin .gtr (.t 21) (.c (.int .i64 8))))⟩, ⟨(some 19), none, (.q (.mov (.t 22)))⟩] [2, 3, 4, 19])
        (.cond (.t 19)
         (.seq
          (.reg 6 [⟨none, none, (.store 1 (.t 4) (.c (.int .i64 21)))⟩] [4])
          .ret)
         .skip)))))))
  (.seq
   (.seq
    (.reg 7 [⟨(some 23), none, (.q (.load (some 7) (.t 2)))⟩, ⟨(some 24), none, (.call 201 [(.t 23)])⟩] [3, 4, 24])
    (.block 1
     (.rfunc (.t 24) [25, 26]
      (.seq
       (.reg 8 [⟨(some 5), none, (.alloc [(.int .u8 0), (.str []), (.int .u8 0), (.int .i64 0), (.str []), (.str []), .nilslice])⟩, ⟨none, none, (.store 7 (.t 5) (.t 25))⟩] [3, 4, 5, 26])
       (.reg 9 [⟨(some 6), none, (.q (.mov (.t 26)))⟩] [3, 4, 5, 6]))
      (.block 2
       (.seq
        (.reg 10 [⟨(some 27), none, (.q (.faddr 0 (.t 5)))⟩, ⟨(some 28), none, (.q (.load none (.t 27)))⟩, ⟨(some 29), none, (.call 202 [(.t 28)])⟩, ⟨(some 7), none, (.alloc [(.int .i64 0), (.int .i64 0), (.bool false), (.int .u8 0)])⟩, ⟨none, none, (.store 4 (.t 7) (.t 29))⟩] [3, 4, 5, 6, 7])
        (.block 3
         (.seq
          (.seq
           (.reg 11 [⟨(some 31), none, (.q (.faddr 3 (.t 7)))⟩, ⟨(some 32), none, (.q (.load none (.t 31)))⟩, ⟨(some 33), none, (.q (.load none (.t 3)))⟩, ⟨(some 34), none, (.q (.bin .lss (.t 32) (.t 33)))⟩, ⟨(some 30), none, (.q (.mov (.t 34)))⟩] [4, 5, 6, 7, 30])
           (.cond (.t 30)
            .skip
            (.seq
            (.reg 12 [⟨(some 35), none, (.q (.mov (.t 6)))⟩, ⟨(some 36), none, (.q (.mov (.t 35)))⟩, ⟨(some 37), (some ⟨36, true⟩), (.q (.faddr 2 (.t 7)))⟩, ⟨(some 38), (some ⟨36, true⟩), (.q (.load none (.t 37)))⟩, ⟨(some 39), (some ⟨36, true⟩), (.q (.not (.t 38)))⟩, ⟨(some 40), none, (.q (.pick (.t 36) (.t 39) (.c (.bool false))))⟩, ⟨(some 30), none, (.q (.mov (.t 40)))⟩] [4, 5, 7, 30])
            (.cond (.t 30)
            .skip
            (.seq
            (.reg 13 [⟨(some 41), none, (.q (.faddr 6 (.t 5)))⟩, ⟨(some 42), none, (.q (.load none (.t 41)))⟩, ⟨(some 43), none, (.q (.len 0 (.t 42)))⟩, ⟨(some 44), none, (.q (.faddr 0 (.t 7)))⟩, ⟨(some 45), none, (.q (.load none (.t 44)))⟩, ⟨(some 46), none, (.q (.bin .lss (.t 43) (.t 45)))⟩, ⟨(some 30), none, (.q (.mov (.t 46)))⟩] [4, 5, 7, 30])
            (.cond (.t 30)
            .skip
            (.reg 14 [⟨(some 47), none, (.q (.faddr 6 (.t 5)))⟩, ⟨(some 48), none, (.q (.load none (.t 47)))⟩, ⟨(some 49), none, (.q (.len 0 (.t 48)))⟩, ⟨(some 50), none, (.q (.faddr 1 (.t 7)))⟩, ⟨(some 51), none, (.q (.load none (.t 50)))⟩, ⟨(some 52), none, (.q (.bin .gtr (.t 49) (.t 51)))⟩, ⟨(some 30), none, (.q (.mov (.t 52)))⟩] [4, 5, 30])))))))
          (.cond (.t 30)
           (.seq
            (.reg 15 [⟨none, none, (.store 1 (.t 4) (.c (.int .i64 4)))⟩] [])
            .ret)
           (.seq
            (.seq
            (.reg 16 [⟨(some 54), none, (.q (.faddr 0 (.t 5)))⟩, ⟨(some 55), none, (.q (.load none (.t 54)))⟩, ⟨(some 56), none, (.q (.bin .eql (.t 55) (.c (.int .u8 1))))⟩, ⟨(some 57), none, (.q (.mov (.t 56)))⟩, ⟨(some 58), (some ⟨57, true⟩), (.q (.faddr 1 (.t 5)))⟩, ⟨(some 59), (some ⟨57, true⟩), (.q (.load (some 5) (.t 58)))⟩, ⟨(some 60), (some ⟨57, true⟩), (.call 72 [(.t 59)])⟩, ⟨(some 61), (some ⟨57, true⟩), (.q (.not (.t 60)))⟩, ⟨(some 62), none, (.q (.pick (.t 57) (.t 61) (.c (.bool false))))⟩, ⟨(some 53), none, (.q (.mov (.t 62)))⟩] [4, 5, 53])
            (.cond (.t 53)
            .skip
            (.reg 17 [⟨(some 63), none, (.q (.faddr 0 (.t 5)))⟩, ⟨(some 64), none, (.q (.load none (.t 63)))⟩, ⟨(some 65), none, (.q (.bin .neq (.t 64) (.c (.int .u8 1))))⟩, ⟨(some 66), none, (.q (.mov (.t 65)))⟩, ⟨(some 67), (some ⟨66, true⟩), (.q (.faddr 1 (.t 5)))⟩, ⟨(some 68), (some ⟨66, true⟩), (.q (.load (some 5) (.t 67)))⟩, ⟨(some 69), (some ⟨66, true⟩), (.q (.bld [(.str []), (.int .u8 0), (.int .i64 0), (.str []), (.str [])] []))⟩, ⟨(some 70), (some ⟨66, true⟩), (.q (.eqs [2, 1, 1, 2, 2] true true (.t 68) (.t 69)))⟩, ⟨(some 71), none, (.q (.pick (.t 66) (.t 70) (.c (.bool false))))⟩, ⟨(some 53), none, (.q (.mov (.t 71)))⟩] [4, 53])))
            (.cond (.t 53)
            (.seq
            (.reg 18 [⟨none, none, (.store 1 (.t 4) (.c (.int .i64 4)))⟩] [])
            .ret)
            .skip))))))))))
   (.seq
    (.reg 19 [⟨none, none, (.store 1 (.t 4) (.c (.int .i64 0)))⟩] [4])
    .ret))))
theorem fok152 : FOK Tryz.prog 152 (72, ic152, [(.cell none 4)]) := .mk (pf := [1000002, 1000003]) (an := [(0, [2, 3, 4]), (1, [2, 3, 4, 8]), (2, [4]), (3, [2, 3, 4, 15]), (4, [4]), (5, [2, 3, 4, 19]), (6, [4]), (7, [3, 4, 24]), (8, [3, 4, 5, 26]), (9, [3, 4, 5, 6]), (10, [3, 4, 5, 6, 7]), (11, [4, 5, 6, 7, 30]), (12, [4, 5, 7, 30]), (13, [4, 5, 7, 30]), (14, [4, 5, 30]), (16, [4, 5, 53]), (17, [4, 53]), (19, [4])]) (by kernel_rfl) (fnOK_of Tryz.func152 (by kernel_rfl) (by kernel_rfl) (by kernel_rfl))
def ic153 : IC :=
(.seq
 (.reg 0 [⟨(some 1), none, (.boxt (.t 0))⟩, ⟨(some 2), none, (.q (.mov (.c (.int .i64 0))))⟩] [1, 2])
 (.seq
  (.reg 1 [⟨(some 3), none, (.alloc [(.int .i64 0)])⟩, ⟨none, none, (.store 1 (.t 3) (.c (.int .i64 0)))⟩] [1, 2, 3])
  (.seq
   (.seq
    (.reg 2 [⟨(some 4), none, (.q (.load (some 7) (.t 1)))⟩, ⟨(some 5), none, (.call 201 [(.t 4)])⟩] [2, 3, 5])
    (.block 0
     (.rfunc (.t 5) [6, 7]
      .skip
      (.block 1
       (.reg 3 [⟨(some 8), none, (.q (.load none (.t 3)))⟩, ⟨(some 9), none, (.q (.bin .add (.t 8) (.c (.int .i64 1))))⟩, ⟨none, none, (.store 1 (.t 3) (.t 9))⟩] [])))))
   (.seq
    (.reg 4 [⟨(some 10), none, (.q (.load none (.t 3)))⟩, ⟨(some 2), none, (.q (.mov (.t 10)))⟩] [2])
    .ret))))
theorem fok153 : FOK Tryz.prog 153 (11, ic153, [(.t 2)]) := .mk (pf := [1000001]) (an := [(0, [1, 2]), (1, [1, 2, 3]), (2, [2, 3, 5]), (4, [2])]) (by kernel_rfl) (fnOK_of Tryz.func153 (by kernel_rfl) (by kernel_rfl) (by kernel_rfl))
def ic154 : IC :=
 (.seq
 (.reg 0 [oK 4 (.boxt 1), oM 6 (cI 0)] [0, 2, 4])
 (.seq
 (.reg 1 [oQ 8 (.bld [.nilfunc, .nilfunc, .nilfunc, .nilfunc, .nilfunc, .nilfunc, .nilfunc, .nilfunc] [⟨1, ⟨1, (.f 203)⟩⟩, ⟨2, ⟨1, (.f 204)⟩⟩, ⟨3, ⟨1, (.f 205)⟩⟩, ⟨4, ⟨1, (.f 206)⟩⟩, ⟨5, ⟨1, (.f 207)⟩⟩, ⟨6, ⟨1, (.f 208)⟩⟩, ⟨7, ⟨1, (.f 208)⟩⟩]), oK 7 (.alloc [.nilfunc, .nilfunc, .nilfunc, .nilfunc, .nilfunc, .nilfunc, .nilfunc, .nilfunc]), oN (.store 8 7 8)] [0, 2, 4, 7])
 (.seq
 (.dreg 2 [oQ 9 (.faddr 0 4), oQ 10 (.load none 9), oQ 11 (.aaddr 8 1 7 10), oQ 12 (.load none 11), oM 13 0, oQ 14 (.load (some 7) 4), oM 15 2, oK 16 (.callv 12 [13, 14, 15]), oM 6 16] false [6])
 .ret)))
theorem fok154 : FOK Tryz.prog 154 (17, ic154, [(.t 6)]) := fokA [1000004, 2000000] Tryz.func154 (by kernel_rfl) (by kernel_rfl) (by kernel_rfl) (by kernel_rfl)
def ic155 : IC :=
 (.seq
 (.reg 0 [oM 6 (.c .nilslice)] [0, 1, 2])
 (.seq
 (.reg 1 [oM 7 (.c .nilslice)] [0, 1, 2, 7])
 (.seq
 (.seq
 (.reg 2 [oM 10 1, oQ 11 (.len 0 10), oM 12 (cI 0)] [0, 2, 7, 10, 11, 12])
 (.block 0
 (.loop
 (.seq
 (.reg 3 [oQ 13 (.bin .lss 12 11)] [0, 2, 7, 10, 11, 12, 13])
 (.seq
 (.cond 13
 .skip
 (.exit 0))
 (.seq
 (.block 1
 (.seq
 (.reg 4 [oQ 14 (.iaddr 1 10 12), oQ 15 (.load none 14), oM 9 15] [0, 2, 7, 9, 10, 11, 12])
 (.seq
 (.reg 5 [oM 16 2, oM 17 0, oQ 18 (.nchk 17), oQ 19 (.faddr 0 18), oQ 20 (.load none 19), oM 21 9, oQ 22 (.iaddr 15 20 21), oQ 23 (.load (some 15) 22), oM 24 9, oK 25 (.callv 16 [23, 24])] [0, 2, 7, 9, 10, 11, 12, 25])
 (.cond 25
 (.reg 6 [oM 26 7, oM 27 9, oK 28 (.bslt 1 1 [(zI 0)] [⟨0, ⟨1, 27⟩⟩]), oK 29 (.app 1 26 28), oM 7 29] [0, 2, 7, 10, 11, 12])
 .skip))))
 (.reg 7 [oQ 30 (.bin .add 12 (cI 1)), oM 12 30] [0, 2, 7, 10, 11, 12])))))))
 (.seq
 (.reg 8 [oM 31 7, oM 6 31] [6])
 .ret))))
theorem fok155 : FOK Tryz.prog 155 (32, ic155, [(.t 6)]) := fokA [1000028, 2000000] Tryz.func155 (by kernel_rfl) (by kernel_rfl) (by kernel_rfl) (by kernel_rfl)
def ic156 : IC :=
 (.seq
 (.reg 0 [oK 3 (.boxt 0), oM 5 (cB false)] [2, 3])
 (.seq
 (.reg 1 [oQ 6 (.load (some 15) 3), oQ 7 (.load (some 5) 2), oK 8 (.call 157 [6, 7]), oM 5 8] [5])
 .ret))
theorem fok156 : FOK Tryz.prog 156 (9, ic156, [(.t 5)]) := fokA [1000003, 2000000] Tryz.func156 (by kernel_rfl) (by kernel_rfl) (by kernel_rfl) (by kernel_rfl)
def ic157 : IC :=
 (.seq
 (.reg 0 [oK 2 (.boxt 0), oK 3 (.boxt 1), oM 4 (cB false)] [2, 3])
 (.seq
 (.oreg 1 [(0, oQ 5 (.load (some 15) 2), 0), (2, oQ 7 (.load (some 5) 3), 0), (1, oK 6 (.call 210 [5]), 4), (3, oK 8 (.call 209 [6, 7]), 0), (4, oM 4 8, 0)] [4])
 .ret))
theorem fok157 : FOK Tryz.prog 157 (9, ic157, [(.t 4)]) := fokA [1000002, 1000003, 2000000] Tryz.func157 (by kernel_rfl) (by kernel_rfl) (by kernel_rfl) (by kernel_rfl)
def ic158 : IC :=
 (.seq
 (.reg 0 [oK 5 (.boxt 0), oM 6 (cB false)] [1, 2, 3, 4, 5])
 (.seq
 (.reg 1 [oQ 7 (.faddr 0 5), oQ 8 (.load none 7), oQ 9 (.faddr 0 1), oQ 10 (.load none 9), oQ 11 (.bin .eql 8 10), oM 12 11, gQ 13 12 true (.load none 2), gQ 14 12 true (.mov 13), gQ 15 14 false (.faddr 1 5), gQ 16 14 false (.load (some 3) 15), gQ 17 14 false (.faddr 1 1), gQ 18 14 false (.load (some 3) 17), gK 19 14 false (.call 147 [16, 18]), gQ 20 14 false (.bin .geq 19 (cI 0)), gQ 21 12 true (.pick 14 (cB true) 20), oQ 22 (.pick 12 21 (cB false)), oM 23 22, gQ 24 23 true (.load none 3), gQ 25 23 true (.mov 24), gQ 26 25 false (.faddr 4 5), gQ 27 25 false (.load none 26), gQ 28 25 false (.faddr 4 1), gQ 29 25 false (.load none 28), gK 30 25 false (.call 159 [27, 29]), gQ 31 23 true (.pick 25 (cB true) 30), oQ 32 (.pick 23 31 (cB false)), oM 33 32, gQ 34 33 true (.load none 4), gQ 35 33 true (.nchk 34), gQ 36 33 true (.faddr 2 35), gQ 37 33 true (.faddr 1 36), gQ 38 33 true (.load none 37), gQ 39 33 true (.mov 38), gQ 40 39 false (.faddr 5 5), gQ 41 39 false (.load none 40), gQ 42 39 false (.faddr 5 1), gQ 43 39 false (.load none 42), gQ 44 39 false (.bin .eql 41 43), gQ 45 33 true (.pick 39 (cB true) 44), oQ 46 (.pick 33 45 (cB false)), oM 6 46] [6])
 .ret))
theorem fok158 : FOK Tryz.prog 158 (47, ic158, [(.t 6)]) := fokA [1000005, 2000000] Tryz.func158 (by kernel_rfl) (by kernel_rfl) (by kernel_rfl) (by kernel_rfl)
def ic159 : IC :=
 (.seq
 (.reg 0 [oM 4 (cB false)] [0, 1])
 (.seq
 (.reg 1 [oM 5 0, oK 6 (.call 123 [5]), oM 7 6, gQ 8 7 true (.mov 1), gK 9 7 true (.call 123 [8]), oQ 10 (.pick 7 9 (cB false)), oM 11 10, gQ 12 11 true (.mov 0), gQ 13 11 true (.mov 1), gK 14 11 true (.call 146 [12, 13]), gQ 15 11 true (.not 14), oQ 16 (.pick 11 15 (cB false)), oM 4 16] [4])
 .ret))
theorem fok159 : FOK Tryz.prog 159 (17, ic159, [(.t 4)]) := fokA [2000000] Tryz.func159 (by kernel_rfl) (by kernel_rfl) (by kernel_rfl) (by kernel_rfl)
def ic160 : IC :=
 (.seq
 (.reg 0 [oK 2 (.boxt 0), oK 3 (.boxt 1), oM 4 (.c .nilslice)] [2, 3])
 (.seq
 (.seq
 (.reg 1 [oQ 5 (.load none 2), oQ 6 (.load none 3), oK 7 (.call 211 [5, 6]), oQ 8 (.not 7)] [2, 3, 8])
 (.cond 8
 (.seq
 (.reg 2 [oM 4 (.c .nilslice)] [4])
 .ret)
 .skip))
 (.seq
 (.dreg 3 [oQ 9 (.load none 2), oQ 10 (.load none 2), oQ 11 (.nchk 10), oQ 12 (.faddr 3 11), oQ 13 (.load none 12), oQ 14 (.load none 2), oQ 15 (.nchk 14), oQ 16 (.faddr 0 15), oQ 17 (.load none 16), oQ 18 (.load none 3), oQ 19 (.iaddr 15 17 18), oQ 20 (.faddr 0 19), oQ 21 (.load none 20), oQ 22 (.lkp 2 .nilslice false 13 21), oQ 23 (.mkf 212 [] [3, 2]), oK 24 (.call 155 [9, 22, 23]), oM 4 24] false [4])
 .ret)))
theorem fok160 : FOK Tryz.prog 160 (25, ic160, [(.t 4)]) := fokA [1000002, 1000003, 2000000] Tryz.func160 (by kernel_rfl) (by kernel_rfl) (by kernel_rfl) (by kernel_rfl)
def ic161 : IC :=
 (.seq
 (.reg 0 [oM 3 0, oQ 4 (.len 0 3), oM 2 4] [0, 2])
 (.reg 1 [oM 5 0, oM 6 2, oM 7 2, oQ 8 (.conv .u64 7), oK 9 (.call 215 [8]), oK 10 (.call 214 [5, (cI 0), 6, 9])] []))
theorem fok161 : FOK Tryz.prog 161 (11, ic161, []) := fokA [2000000] Tryz.func161 (by kernel_rfl) (by kernel_rfl) (by kernel_rfl) (by kernel_rfl)
def ic162 : IC :=
 (.seq
 (.reg 0 [oM 2 (.c .nilslice)] [0])
 (.seq
 (.seq
 (.reg 1 [oM 6 0, oQ 7 (.len 0 6), oQ 8 (.bin .lss 7 (cI 2))] [0, 8])
 (.cond 8
 (.seq
 (.reg 2 [oM 9 0, oM 2 9] [2])
 .ret)
 .skip))
 (.seq
 (.seq
 (.reg 3 [oM 3 (cI 1)] [0, 3])
 (.block 0
 (.loop
 (.seq
 (.seq
 (.reg 4 [oM 10 3, oM 11 0, oQ 12 (.len 0 11), oQ 13 (.bin .lss 10 12)] [0, 3, 13])
 (.cond 13
 .skip
 (.exit 0)))
 (.seq
 (.block 1
 (.seq
 (.dreg 6 [oM 16 0, oM 17 3, oQ 18 (.iaddr 1 16 17), oQ 19 (.load none 18), oM 20 0, oM 21 3, oQ 22 (.bin .sub 21 (cI 1)), oQ 23 (.iaddr 1 20 22), oQ 24 (.load none 23), oQ 25 (.bin .eql 19 24)] false [0, 3, 25])
 (.cond 25
 (.seq
 (.reg 7 [oM 26 0, oM 27 3, oQ 28 (.slc 1 26 (some 27) none), oM 4 28] [0, 3, 4])
 (.seq
 (.seq
 (.reg 8 [oM 5 (cI 1)] [0, 3, 4, 5])
 (.block 2
 (.loop
 (.seq
 (.seq
 (.reg 9 [oM 29 5, oM 30 4, oQ 31 (.len 0 30), oQ 32 (.bin .lss 29 31)] [0, 3, 4, 5, 32])
 (.cond 32
 .skip
 (.exit 2)))
 (.seq
 (.block 3
 (.seq
 (.dreg 11 [oM 35 4, oM 36 5, oQ 37 (.iaddr 1 35 36), oQ 38 (.load none 37), oM 39 4, oM 40 5, oQ 41 (.bin .sub 40 (cI 1)), oQ 42 (.iaddr 1 39 41), oQ 43 (.load none 42), oQ 44 (.bin .neq 38 43)] false [0, 3, 4, 5, 44])
 (.cond 44
 (.seq
 (.reg 12 [oM 45 0, oM 46 3, oM 47 4, oM 48 5, oQ 49 (.iaddr 1 47 48), oQ 50 (.load none 49), oQ 51 (.iaddr 1 45 46), oN (.store 1 51 50)] [0, 3, 4, 5])
 (.reg 13 [oM 52 3, oQ 53 (.bin .add 52 (cI 1)), oM 3 53] [0, 3, 4, 5]))
 .skip)))
 (.reg 10 [oM 33 5, oQ 34 (.bin .add 33 (cI 1)), oM 5 34] [0, 3, 4, 5]))))))
 (.seq
 (.reg 14 [oM 54 0, oM 55 3, oQ 56 (.slc 1 54 (some 55) none), oN (.clr 1 [(zI 0)] 56)] [0, 3])
 (.seq
 (.reg 15 [oM 57 0, oM 58 3, oQ 59 (.slc 1 57 none (some 58)), oM 2 59] [2])
 .ret))))
 .skip)))
 (.reg 5 [oM 14 3, oQ 15 (.bin .add 14 (cI 1)), oM 3 15] [0, 3]))))))
 (.seq
 (.reg 16 [oM 60 0, oM 2 60] [2])
 .ret))))
theorem fok162 : FOK Tryz.prog 162 (61, ic162, [(.t 2)]) := fokA [2000000] Tryz.func162 (by kernel_rfl) (by kernel_rfl) (by kernel_rfl) (by kernel_rfl)
def ic163 : IC :=
 (.seq
 (.reg 0 [oK 3 (.boxt 1), oM 4 (.c .nilslice)] [0, 3])
 (.seq
 (.seq
 (.reg 1 [oM 5 0, oQ 6 (.isnil (.pointer 218) false 5)] [0, 3, 6])
 (.cond 6
 (.seq
 (.reg 2 [oM 4 (.c .nilslice)] [4])
 .ret)
 .skip))
 (.seq
 (.dreg 3 [oM 7 0, oM 8 0, oQ 9 (.nchk 8), oQ 10 (.faddr 1 9), oQ 11 (.load none 10), oQ 12 (.faddr 0 3), oQ 13 (.load none 12), oQ 14 (.lkp 2 .nilslice false 11 13), oQ 15 (.mkf 216 [] [3]), oK 16 (.call 155 [7, 14, 15]), oM 4 16] false [4])
 .ret)))
theorem fok163 : FOK Tryz.prog 163 (17, ic163, [(.t 4)]) := fokA [1000003, 2000000] Tryz.func163 (by kernel_rfl) (by kernel_rfl) (by kernel_rfl) (by kernel_rfl)
def ic164 : IC :=
 (.seq
 (.reg 0 [oM 3 (cB false)] [0, 1])
 (.seq
 (.reg 1 [oQ 4 (.load none 1), oM 5 0, oK 6 (.call 148 [4, 5]), oQ 7 (.not 6), oM 3 7] [3])
 .ret))
theorem fok164 : FOK Tryz.prog 164 (8, ic164, [(.t 3)]) := fokA [2000000] Tryz.func164 (by kernel_rfl) (by kernel_rfl) (by kernel_rfl) (by kernel_rfl)
def ic165 : IC :=
 (.seq
 (.reg 0 [oM 3 (cB false)] [0, 1])
 (.seq
 (.reg 1 [oQ 4 (.load none 1), oM 5 0, oK 6 (.call 148 [4, 5]), oM 7 6, gQ 8 7 false (.load none 1), gQ 9 7 false (.mov 0), gK 10 7 false (.call 90 [8, 9]), gQ 11 7 false (.not 10), oQ 12 (.pick 7 (cB true) 11), oM 3 12] [3])
 .ret))
theorem fok165 : FOK Tryz.prog 165 (13, ic165, [(.t 3)]) := fokA [2000000] Tryz.func165 (by kernel_rfl) (by kernel_rfl) (by kernel_rfl) (by kernel_rfl)
def ic166 : IC :=
 (.seq
 (.reg 0 [oM 4 (.c .nilslice)] [0, 1])
 (.seq
 (.seq
 (.reg 1 [oM 9 1, oQ 10 (.bin .lss 9 (cI 0))] [0, 1, 10])
 (.cond 10
 (.reg 2 [oK 11 (.st .nev []), oN (.st .nev [])] [0, 1])
 .skip))
 (.seq
 (.reg 3 [oM 13 0, oQ 14 (.len 0 13), oQ 15 (.conv .u64 14), oM 16 1, oQ 17 (.conv .u64 16), oK 18 (.call 218 [15, 17]), oM 12 18, oQ 19 (.ext 0 12), oQ 20 (.ext 1 12), oM 5 19, oM 6 20] [0, 5, 6])
 (.seq
 (.seq
 (.reg 4 [oM 21 5, oQ 22 (.bin .gtr 21 (.c (.int .u64 0))), oM 23 22, gQ 24 23 false (.mov 6), gQ 25 23 false (.bin .gtr 24 (.c (.int .u64 9223372036854775807))), oQ 26 (.pick 23 (cB true) 25)] [0, 6, 26])
 (.cond 26
 (.reg 5 [oK 27 (.st .nev []), oN (.st .nev [])] [0, 6])
 .skip))
 (.seq
 (.reg 6 [oM 28 6, oQ 29 (.conv .i64 28), oK 30 (.mksl 3 [(zI 0), (zI 0), (zI 0)] 29), oM 7 30] [0, 7])
 (.seq
 (.reg 7 [oM 31 7, oM 32 0, oK 33 (.st (.cpy 3) [31, 32]), oM 8 33] [7, 8])
 (.seq
 (.block 0
 (.loop
 (.seq
 (.seq
 (.reg 8 [oM 34 8, oM 35 7, oQ 36 (.len 0 35), oQ 37 (.bin .lss 34 36)] [7, 8, 37])
 (.cond 37
 .skip
 (.exit 0)))
 (.block 1
 (.oreg 9 [(0, oM 38 8, 0), (1, oM 39 7, 0), (2, oM 40 8, 0), (3, oQ 41 (.slc 3 39 (some 40) none), 0), (4, oM 42 7, 0), (5, oM 43 8, 0), (6, oQ 44 (.slc 3 42 none (some 43)), 0), (7, oK 45 (.st (.cpy 3) [41, 44]), 0), (8, oQ 46 (.bin .add 38 45), 0), (9, oM 8 46, 0)] [7, 8])))))
 (.seq
 (.reg 10 [oM 47 7, oM 4 47] [4])
 .ret))))))))
theorem fok166 : FOK Tryz.prog 166 (48, ic166, [(.t 4)]) := fokA [2000000] Tryz.func166 (by kernel_rfl) (by kernel_rfl) (by kernel_rfl) (by kernel_rfl)
def ic167 : IC :=
 (.seq
 (.reg 0 [oM 3 (cB false)] [0, 1])
 (.seq
 (.reg 1 [oM 4 0, oQ 5 (.bin .eql 4 (cI 0)), oM 6 5, gQ 7 6 false (.mov 0), gQ 8 6 false (.load none 1), gQ 9 6 false (.nchk 8), gQ 10 6 false (.faddr 0 9), gQ 11 6 false (.faddr 0 10), gQ 12 6 false (.load none 11), gK 13 6 false (.call 107 [12]), gQ 14 6 false (.bin .gtr 7 13), oQ 15 (.pick 6 (cB true) 14), oM 16 15, gQ 17 16 false (.mov 0), gQ 18 16 false (.load none 1), gQ 19 16 false (.nchk 18), gQ 20 16 false (.faddr 0 19), gQ 21 16 false (.faddr 0 20), gQ 22 16 false (.load none 21), gK 23 16 false (.call 107 [22]), gQ 24 16 false (.neg 23), gQ 25 16 false (.bin .lss 17 24), oQ 26 (.pick 16 (cB true) 25), oM 3 26] [3])
 .ret))
theorem fok167 : FOK Tryz.prog 167 (27, ic167, [(.t 3)]) := fokA [2000000] Tryz.func167 (by kernel_rfl) (by kernel_rfl) (by kernel_rfl) (by kernel_rfl)
def ic168 : IC :=
 (.seq
 (.reg 0 [oM 4 (cB false)] [0, 1])
 (.seq
 (.reg 1 [oM 5 0, oM 6 1, oK 7 (.call 135 [5, 6]), oQ 8 (.bin .geq 7 (cI 0)), oM 4 8] [4])
 .ret))
theorem fok168 : FOK Tryz.prog 168 (9, ic168, [(.t 4)]) := fokA [2000000] Tryz.func168 (by kernel_rfl) (by kernel_rfl) (by kernel_rfl) (by kernel_rfl)
def ic169 : IC :=
(.seq
 (.reg 0 [⟨(some 2), none, (.q (.mov (.c .nilslice)))⟩] [0])
 (.seq
  (.seq
   (.reg 1 [⟨(some 3), none, (.q (.mov (.t 0)))⟩, ⟨(some 4), none, (.q (.isnil (.slice 3) false (.t 3)))⟩] [0, 4])
   (.cond (.t 4)
    (.seq
     (.reg 2 [⟨(some 2), none, (.q (.mov (.c .nilslice)))⟩] [2])
     .ret)
    .skip))
  (.seq
   (.reg 3 [⟨(some 5), none, (.bsl 1 0 [(.int .i64 0)] [])⟩, ⟨(some 6), none, (.q (.mov (.t 0)))⟩, ⟨(some 7), none, (.app 1 (.t 5) (.t 6))⟩, ⟨(some 2), none, (.q (.mov (.t 7)))⟩] [2])
   .ret)))
theorem fok169 : FOK Tryz.prog 169 (8, ic169, [(.t 2)]) := .mk (pf := []) (an := [(0, [0]), (1, [0, 4]), (2, [2]), (3, [2])]) (by kernel_rfl) (fnOK_of Tryz.func169 (by kernel_rfl) (by kernel_rfl) (by kernel_rfl))
def ic170 : IC :=
 (.seq
 (.reg 0 [oM 7 0, oQ 8 (.nchk 7), oQ 9 (.faddr 2 8), oQ 10 (.load none 9), oM 11 1, oQ 12 (.iaddr 1 10 11), oQ 13 (.load none 12), oM 4 13] [0, 1, 4])
 (.seq
 (.reg 1 [oM 14 4, oQ 15 (.len 0 14), oQ 16 (.mm false (cI 2) 15), oM 17 (cI 0)] [0, 1, 4, 16, 17])
 (.block 0
 (.loop
 (.seq
 (.reg 2 [oQ 18 (.bin .lss 17 16)] [0, 1, 4, 16, 17, 18])
 (.seq
 (.cond 18
 .skip
 (.exit 0))
 (.seq
 (.block 1
 (.seq
 (.reg 3 [oM 19 17, oM 5 19] [0, 1, 4, 5, 16, 17])
 (.seq
 (.seq
 (.reg 4 [oM 20 5, oQ 21 (.bin .add 20 (cI 1)), oM 6 21] [0, 1, 4, 5, 6, 16, 17])
 (.block 2
 (.loop
 (.seq
 (.seq
 (.reg 5 [oM 22 6, oM 23 4, oQ 24 (.len 0 23), oQ 25 (.bin .lss 22 24)] [0, 1, 4, 5, 6, 16, 17, 25])
 (.cond 25
 .skip
 (.exit 2)))
 (.seq
 (.block 3
 (.seq
 (.oreg 7 [(0, oM 28 0, 0), (1, oM 29 4, 0), (2, oM 30 6, 0), (3, oQ 31 (.iaddr 1 29 30), 0), (4, oQ 32 (.load none 31), 0), (6, oM 34 0, 0), (7, oM 35 4, 0), (8, oM 36 5, 0), (9, oQ 37 (.iaddr 1 35 36), 0), (10, oQ 38 (.load none 37), 0), (5, oK 33 (.call 219 [28, 32]), 1024), (11, oK 39 (.call 219 [34, 38]), 0), (12, oQ 40 (.bin .gtr 33 39), 0)] [0, 1, 4, 5, 6, 16, 17, 40])
 (.cond 40
 (.dreg 8 [oM 41 4, oM 42 5, oM 43 4, oM 44 6, oM 45 4, oM 46 6, oQ 47 (.iaddr 1 45 46), oQ 48 (.load none 47), oM 49 4, oM 50 5, oQ 51 (.iaddr 1 49 50), oQ 52 (.load none 51), oQ 53 (.iaddr 1 41 42), oN (.store 1 53 48), oQ 54 (.iaddr 1 43 44), oN (.store 1 54 52)] false [0, 1, 4, 5, 6, 16, 17])
 .skip)))
 (.reg 6 [oM 26 6, oQ 27 (.bin .add 26 (cI 1)), oM 6 27] [0, 1, 4, 5, 6, 16, 17]))))))
 (.oreg 9 [(0, oM 55 0, 0), (1, oQ 56 (.nchk 55), 0), (2, oQ 57 (.faddr 3 56), 0), (3, oQ 58 (.load none 57), 0), (4, oM 59 4, 0), (5, oM 60 5, 0), (6, oQ 61 (.iaddr 1 59 60), 0), (7, oQ 62 (.load none 61), 0), (8, oM 63 0, 0), (9, oQ 64 (.nchk 63), 0), (10, oQ 65 (.faddr 3 64), 0), (11, oQ 66 (.load none 65), 0), (12, oM 67 4, 0), (13, oM 68 5, 0), (14, oQ 69 (.iaddr 1 67 68), 0), (15, oQ 70 (.load none 69), 0), (16, oQ 71 (.lkp 1 .nilslice false 66 70), 0), (17, oM 72 1, 0), (18, oK 73 (.bslt 1 1 [(zI 0)] [⟨0, ⟨1, 72⟩⟩]), 0), (19, oK 74 (.app 1 71 73), 136), (20, oN (.mupd 1 58 62 74), 0)] [0, 1, 4, 16, 17]))))
 (.reg 10 [oQ 75 (.bin .add 17 (cI 1)), oM 17 75] [0, 1, 4, 16, 17]))))))))
theorem fok170 : FOK Tryz.prog 170 (76, ic170, []) := fokA [1000073, 2000000] Tryz.func170 (by kernel_rfl) (by kernel_rfl) (by kernel_rfl) (by kernel_rfl)
def ic171 : IC :=
 (.seq
 (.reg 0 [oK 2 (.boxt 0), oM 4 (cB false)] [1, 2])
 (.seq
 (.reg 1 [oQ 9 (.load none 2), oQ 10 (.nchk 9), oQ 11 (.faddr 2 10), oQ 12 (.load none 11), oM 13 1, oQ 14 (.iaddr 1 12 13), oQ 15 (.load none 14), oM 5 15] [1, 2, 5])
 (.seq
 (.seq
 (.reg 2 [oM 16 5, oQ 17 (.mkf 220 [] [2]), oK 18 (.call 168 [16, 17])] [1, 2, 5, 18])
 (.cond 18
 (.seq
 (.reg 3 [oM 4 (cB false)] [4])
 .ret)
 .skip))
 (.seq
 (.reg 4 [oM 6 (.c .nilslice)] [1, 2, 5, 6])
 (.seq
 (.seq
 (.reg 5 [oM 19 5, oQ 20 (.len 0 19), oM 21 (cI 0)] [1, 2, 6, 19, 20, 21])
 (.block 0
 (.loop
 (.seq
 (.reg 6 [oQ 22 (.bin .lss 21 20)] [1, 2, 6, 19, 20, 21, 22])
 (.seq
 (.cond 22
 .skip
 (.exit 0))
 (.seq
 (.block 1
 (.seq
 (.reg 7 [oQ 23 (.iaddr 1 19 21), oQ 24 (.load none 23), oM 8 24] [1, 2, 6, 8, 19, 20, 21])
 (.seq
 (.reg 8 [oQ 25 (.load none 2), oM 26 8, oK 27 (.call 63 [25, 26]), oQ 28 (.bin .eql 27 (cI 0))] [1, 2, 6, 8, 19, 20, 21, 28])
 (.cond 28
 (.reg 9 [oM 29 6, oM 30 8, oK 31 (.bslt 1 1 [(zI 0)] [⟨0, ⟨1, 30⟩⟩]), oK 32 (.app 1 29 31), oM 6 32] [1, 2, 6, 19, 20, 21])
 .skip))))
 (.reg 10 [oQ 33 (.bin .add 21 (cI 1)), oM 21 33] [1, 2, 6, 19, 20, 21])))))))
 (.seq
 (.seq
 (.reg 11 [oM 34 6, oQ 35 (.len 0 34)] [1, 2, 6, 35])
 (.block 2
 (.seq
 (.reg 12 [oQ 37 (.bin .eql 35 (cI 0)), oM 36 37] [1, 2, 6, 35, 36])
 (.cond 36
 (.seq
 (.reg 13 [oM 4 (cB true)] [4])
 .ret)
 (.seq
 (.reg 14 [oQ 39 (.bin .eql 35 (cI 1)), oM 38 39] [1, 2, 6, 38])
 (.cond 38
 (.dreg 15 [oQ 40 (.load none 2), oQ 41 (.nchk 40), oQ 42 (.faddr 0 41), oQ 43 (.faddr 0 42), oQ 44 (.load none 43), oM 45 6, oQ 46 (.iaddr 1 45 (cI 0)), oQ 47 (.load none 46), oM 48 1, oK 49 (.call 221 [44, 47, 48])] false [])
 .skip))))))
 (.seq
 (.reg 16 [oM 4 (cB false)] [4])
 .ret)))))))
theorem fok171 : FOK Tryz.prog 171 (50, ic171, [(.t 4)]) := fokA [1000002, 1000031, 2000000] Tryz.func171 (by kernel_rfl) (by kernel_rfl) (by kernel_rfl) (by kernel_rfl)
def ic172 : IC :=
 (.seq
 (.reg 0 [oK 2 (.boxt 0), oM 4 (cI 0)] [1, 2])
 (.seq
 (.reg 1 [oQ 11 (.load none 2), oQ 12 (.nchk 11), oQ 13 (.faddr 3 12), oQ 14 (.load none 13), oM 15 1, oQ 16 (.lkp 1 .nilslice false 14 15), oM 5 16] [1, 2, 5])
 (.seq
 (.reg 2 [oM 6 (.c .nilslice)] [1, 2, 5, 6])
 (.seq
 (.seq
 (.reg 3 [oM 17 5, oQ 18 (.len 0 17), oM 19 (cI 0)] [1, 2, 5, 6, 17, 18, 19])
 (.block 0
 (.loop
 (.seq
 (.reg 4 [oQ 20 (.bin .lss 19 18)] [1, 2, 5, 6, 17, 18, 19, 20])
 (.seq
 (.cond 20
 .skip
 (.exit 0))
 (.seq
 (.block 1
 (.seq
 (.reg 5 [oM 21 19, oQ 22 (.iaddr 1 17 19), oQ 23 (.load none 22), oM 7 21, oM 8 23] [1, 2, 5, 6, 7, 8, 17, 18, 19])
 (.seq
 (.reg 6 [oQ 24 (.load none 2), oQ 25 (.nchk 24), oQ 26 (.faddr 2 25), oQ 27 (.load none 26), oM 28 8, oQ 29 (.iaddr 1 27 28), oQ 30 (.load none 29), oM 9 30] [1, 2, 5, 6, 7, 8, 9, 17, 18, 19])
 (.seq
 (.seq
 (.reg 7 [oM 31 9, oQ 32 (.iaddr 1 31 (cI 0)), oQ 33 (.load none 32), oM 34 1, oQ 35 (.bin .eql 33 34), oM 36 35, gQ 37 36 true (.mov 9), gQ 38 36 true (.len 0 37), gQ 39 36 true (.bin .gtr 38 (cI 1)), oQ 40 (.pick 36 39 (cB false))] [1, 2, 5, 6, 7, 8, 9, 17, 18, 19, 40])
 (.cond 40
 (.dreg 8 [oM 41 9, oM 42 9, oM 43 9, oQ 44 (.iaddr 1 43 (cI 1)), oQ 45 (.load none 44), oM 46 9, oQ 47 (.iaddr 1 46 (cI 0)), oQ 48 (.load none 47), oQ 49 (.iaddr 1 41 (cI 0)), oN (.store 1 49 45), oQ 50 (.iaddr 1 42 (cI 1)), oN (.store 1 50 48)] false [1, 2, 5, 6, 7, 8, 9, 17, 18, 19])
 .skip))
 (.seq
 (.reg 9 [oM 10 (cI (-1))] [1, 2, 5, 6, 7, 8, 9, 10, 17, 18, 19])
 (.seq
 (.seq
 (.dreg 10 [oM 51 9, oQ 52 (.len 0 51), oQ 53 (.bin .gtr 52 (cI 1)), oM 54 53, gQ 55 54 true (.load none 2), gQ 56 54 true (.mov 9), gQ 57 54 true (.iaddr 1 56 (cI 0)), gQ 58 54 true (.load none 57), gK 59 54 true (.call 63 [55, 58]), gQ 60 54 true (.bin .neq 59 (cI 1)), oQ 61 (.pick 54 60 (cB false))] false [1, 2, 5, 6, 7, 8, 9, 10, 17, 18, 19, 61])
 (.cond 61
 (.reg 11 [oM 62 9, oQ 63 (.slc 1 62 (some (cI 2)) none), oQ 64 (.mkf 222 [] [2]), oK 65 (.call 135 [63, 64]), oM 10 65] [1, 2, 5, 6, 7, 8, 9, 10, 17, 18, 19])
 .skip))
 (.seq
 (.seq
 (.reg 12 [oM 66 10, oQ 67 (.bin .geq 66 (cI 0))] [1, 2, 5, 6, 7, 8, 9, 10, 17, 18, 19, 67])
 (.cond 67
 (.seq
 (.dreg 13 [oM 68 9, oM 69 9, oM 70 10, oQ 71 (.bin .add (cI 2) 70), oM 72 9, oM 73 10, oQ 74 (.bin .add (cI 2) 73), oQ 75 (.iaddr 1 72 74), oQ 76 (.load none 75), oM 77 9, oQ 78 (.iaddr 1 77 (cI 1)), oQ 79 (.load none 78), oQ 80 (.iaddr 1 68 (cI 1)), oN (.store 1 80 76), oQ 81 (.iaddr 1 69 71), oN (.store 1 81 79)] false [1, 2, 5, 6, 8, 9, 17, 18, 19])
 (.seq
 (.oreg 14 [(0, oQ 82 (.load none 2), 0), (1, oQ 83 (.nchk 82), 0), (2, oQ 84 (.faddr 3 83), 0), (3, oQ 85 (.load none 84), 0), (4, oM 86 9, 0), (5, oQ 87 (.iaddr 1 86 (cI 1)), 0), (6, oQ 88 (.load none 87), 0), (7, oQ 89 (.load none 2), 0), (8, oQ 90 (.nchk 89), 0), (9, oQ 91 (.faddr 3 90), 0), (10, oQ 92 (.load none 91), 0), (11, oM 93 9, 0), (12, oQ 94 (.iaddr 1 93 (cI 1)), 0), (13, oQ 95 (.load none 94), 0), (14, oQ 96 (.lkp 1 .nilslice false 92 95), 0), (15, oM 97 8, 0), (16, oK 98 (.bslt 1 1 [(zI 0)] [⟨0, ⟨1, 97⟩⟩]), 0), (17, oK 99 (.app 1 96 98), 73), (18, oN (.mupd 1 85 88 99), 0)] [1, 2, 5, 6, 17, 18, 19])
 (.exit 1)))
 .skip))
 (.seq
 (.reg 15 [oM 100 6, oM 101 8, oK 102 (.bslt 1 1 [(zI 0)] [⟨0, ⟨1, 101⟩⟩]), oK 103 (.app 1 100 102), oM 6 103] [1, 2, 5, 6, 7, 8, 17, 18, 19])
 (.seq
 (.reg 16 [oQ 104 (.load none 2), oM 105 8, oK 106 (.call 171 [104, 105])] [1, 2, 5, 6, 7, 8, 17, 18, 19, 106])
 (.cond 106
 (.seq
 (.oreg 17 [(0, oQ 107 (.load none 2), 0), (1, oQ 108 (.nchk 107), 0), (2, oQ 109 (.faddr 3 108), 0), (3, oQ 110 (.load none 109), 0), (4, oM 111 1, 0), (5, oM 112 6, 0), (6, oM 113 5, 0), (7, oM 114 7, 0), (8, oQ 115 (.bin .add 114 (cI 1)), 0), (9, oQ 116 (.slc 1 113 (some 115) none), 0), (10, oK 117 (.app 1 112 116), 9), (11, oN (.mupd 1 110 111 117), 0)] [8])
 (.seq
 (.reg 18 [oM 118 8, oM 4 118] [4])
 .ret))
 .skip))))))))))
 (.reg 19 [oQ 119 (.bin .add 19 (cI 1)), oM 19 119] [1, 2, 5, 6, 17, 18, 19])))))))
 (.seq
 (.reg 20 [oQ 120 (.load none 2), oQ 121 (.nchk 120), oQ 122 (.faddr 3 121), oQ 123 (.load none 122), oM 124 1, oM 125 6, oN (.mupd 1 123 124 125)] [])
 (.seq
 (.reg 21 [oM 4 (cI (-1))] [4])
 .ret))))))
theorem fok172 : FOK Tryz.prog 172 (126, ic172, [(.t 4)]) := fokA [1000002, 1000098, 1000102, 2000000] Tryz.func172 (by kernel_rfl) (by kernel_rfl) (by kernel_rfl) (by kernel_rfl)
def ic173 : IC :=
 (.seq
 (.reg 0 [oM 4 (cI 0)] [0, 1])
 (.seq
 (.seq
 (.reg 1 [oM 6 0, oM 7 1, oK 8 (.call 178 [6, 7]), oM 5 8] [0, 5])
 (.block 0
 (.seq
 (.reg 2 [oM 10 5, oQ 11 (.bin .lss 10 (cI 0)), oM 9 11] [0, 5, 9])
 (.cond 9
 (.seq
 (.reg 3 [oM 4 (cI 1)] [4])
 .ret)
 (.seq
 (.reg 4 [oM 13 0, oQ 14 (.nchk 13), oQ 15 (.faddr 0 14), oQ 16 (.load none 15), oM 17 5, oQ 18 (.iaddr 3 16 17), oQ 19 (.faddr 0 18), oQ 20 (.load none 19), oQ 21 (.bin .neq 20 (cI 0)), oM 12 21] [12])
 (.cond 12
 (.seq
 (.reg 5 [oM 4 (cI 7)] [4])
 .ret)
 .skip))))))
 (.seq
 (.reg 6 [oM 4 (cI 0)] [4])
 .ret)))
theorem fok173 : FOK Tryz.prog 173 (22, ic173, [(.t 4)]) := fokA [2000000] Tryz.func173 (by kernel_rfl) (by kernel_rfl) (by kernel_rfl) (by kernel_rfl)
def ic174 : IC :=
 (.seq
 (.reg 0 [oM 7 0, oQ 8 (.nchk 7), oQ 9 (.faddr 2 8), oQ 10 (.load none 9), oQ 11 (.len 0 10), oM 12 2, oQ 13 (.bld [(zI 0), (zI 0), (zI 0)] [⟨0, ⟨1, (cI 1)⟩⟩, ⟨1, ⟨1, 11⟩⟩, ⟨2, ⟨1, 12⟩⟩]), oK 6 (.alloc [(zI 0), (zI 0), (zI 0)]), oN (.store 3 6 13)] [0, 1, 6])
 (.seq
 (.seq
 (.reg 1 [oM 14 1, oQ 15 (.bin .lss 14 (cI 0))] [0, 1, 6, 15])
 (.cond 15
 (.reg 2 [oQ 16 (.faddr 0 6), oN (.store 1 16 (cI (-1)))] [0, 1, 6])
 .skip))
 (.seq
 (.oreg 3 [(0, oM 17 0, 0), (1, oQ 18 (.nchk 17), 0), (2, oQ 19 (.faddr 0 18), 0), (3, oQ 20 (.load none 19), 0), (4, oM 21 0, 0), (5, oM 22 1, 0), (7, oQ 24 (.load (some 3) 6), 0), (6, oK 23 (.call 178 [21, 22]), 136), (8, oQ 25 (.iaddr 3 20 23), 0), (9, oN (.store 3 25 24), 0)] [0, 1])
 (.reg 4 [oM 26 0, oM 27 0, oQ 28 (.nchk 27), oQ 29 (.faddr 1 28), oQ 30 (.load none 29), oM 31 1, oK 32 (.bslt 1 1 [(zI 0)] [⟨0, ⟨1, 31⟩⟩]), oK 33 (.app 1 30 32), oQ 34 (.nchk 26), oQ 35 (.faddr 1 34), oN (.store 1 35 33)] []))))
theorem fok174 : FOK Tryz.prog 174 (36, ic174, []) := fokA [1000032, 2000000] Tryz.func174 (by kernel_rfl) (by kernel_rfl) (by kernel_rfl) (by kernel_rfl)
def ic175 : IC :=
 (.seq
 (.reg 0 [oK 2 (.boxt 0), oM 4 (cB false)] [1, 2])
 (.seq
 (.reg 1 [oM 5 1, oQ 6 (.mkf 223 [] [2]), oK 7 (.call 168 [5, 6]), oQ 8 (.not 7), oM 4 8] [4])
 .ret))
theorem fok175 : FOK Tryz.prog 175 (9, ic175, [(.t 4)]) := fokA [1000002, 2000000] Tryz.func175 (by kernel_rfl) (by kernel_rfl) (by kernel_rfl) (by kernel_rfl)
def ic176 : IC :=
 (.seq
 (.reg 0 [oK 4 (.alloc [(zI 0), (zI 0), (zI 0)])] [0, 1, 4])
 (.seq
 (.seq
 (.reg 1 [oM 5 0, oQ 6 (.isnil (.pointer 252) false 5), oM 7 6, gQ 8 7 false (.mov 1), gQ 9 7 false (.bin .lss 8 (cI 0)), oQ 10 (.pick 7 (cB true) 9), oM 11 10, gQ 12 11 false (.mov 1), gQ 13 11 false (.mov 0), gQ 14 11 false (.nchk 13), gQ 15 11 false (.faddr 0 14), gQ 16 11 false (.load none 15), gQ 17 11 false (.len 0 16), gQ 18 11 false (.bin .geq 12 17), oQ 19 (.pick 11 (cB true) 18)] [0, 1, 4, 19])
 (.cond 19
 (.seq
 (.reg 2 [oQ 20 (.bld [(zI 0), (zI 0), (zI 0)] [⟨0, ⟨1, (cI 0)⟩⟩, ⟨1, ⟨1, (cI (-1))⟩⟩, ⟨2, ⟨1, (cI (-1))⟩⟩]), oN (.store 3 4 20)] [4])
 .ret)
 .skip))
 (.seq
 (.reg 3 [oM 21 0, oQ 22 (.nchk 21), oQ 23 (.faddr 0 22), oQ 24 (.load none 23), oM 25 1, oQ 26 (.iaddr 3 24 25), oQ 27 (.load (some 3) 26), oN (.store 3 4 27)] [4])
 .ret)))
theorem fok176 : FOK Tryz.prog 176 (28, ic176, [(.cell (some 3) 4)]) := fokA [2000000] Tryz.func176 (by kernel_rfl) (by kernel_rfl) (by kernel_rfl) (by kernel_rfl)
def ic177 : IC :=
 (.seq
 (.reg 0 [oM 2 (.c .nilslice)] [0])
 (.seq
 (.seq
 (.reg 1 [oM 3 0, oQ 4 (.isnil (.slice 250) false 3)] [0, 4])
 (.cond 4
 (.seq
 (.reg 2 [oM 2 (.c .nilslice)] [2])
 .ret)
 .skip))
 (.seq
 (.reg 3 [oK 5 (.bsl 3 0 [(zI 0), (zI 0), (zI 0)] []), oM 6 0, oK 7 (.app 3 5 6), oM 2 7] [2])
 .ret)))
theorem fok177 : FOK Tryz.prog 177 (8, ic177, [(.t 2)]) := fokA [2000000] Tryz.func177 (by kernel_rfl) (by kernel_rfl) (by kernel_rfl) (by kernel_rfl)
def ic178 : IC :=
 (.seq
 (.reg 0 [oM 4 (cI 0)] [0, 1])
 (.seq
 (.reg 1 [oM 6 1, oQ 7 (.bin .sub 6 (cI 1)), oM 5 7] [0, 1, 5])
 (.seq
 (.seq
 (.reg 2 [oM 8 1, oQ 9 (.bin .lss 8 (cI 0))] [0, 1, 5, 9])
 (.cond 9
 (.reg 3 [oM 10 1, oQ 11 (.bin .add 10 (cI 1)), oQ 12 (.neg 11), oM 5 12] [0, 1, 5])
 .skip))
 (.seq
 (.seq
 (.reg 4 [oM 13 1, oQ 14 (.bin .eql 13 (cI 0)), oM 15 14, gQ 16 15 false (.mov 5), gQ 17 15 false (.mov 0), gQ 18 15 false (.nchk 17), gQ 19 15 false (.faddr 0 18), gQ 20 15 false (.load none 19), gQ 21 15 false (.len 0 20), gQ 22 15 false (.bin .geq 16 21), oQ 23 (.pick 15 (cB true) 22)] [5, 23])
 (.cond 23
 (.seq
 (.reg 5 [oM 4 (cI (-1))] [4])
 .ret)
 .skip))
 (.seq
 (.reg 6 [oM 24 5, oM 4 24] [4])
 .ret)))))
theorem fok178 : FOK Tryz.prog 178 (25, ic178, [(.t 4)]) := fokA [2000000] Tryz.func178 (by kernel_rfl) (by kernel_rfl) (by kernel_rfl) (by kernel_rfl)
def ic179 : IC :=
(.seq
 (.reg 0 [⟨(some 2), none, (.q (.mov (.c (.str []))))⟩] [0])
 (.seq
  (.seq
   (.reg 1 [⟨(some 3), none, (.q (.mov (.t 0)))⟩, ⟨(some 4), none, (.call 123 [(.t 3)])⟩, ⟨(some 5), none, (.q (.not (.t 4)))⟩] [0, 5])
   (.cond (.t 5)
    (.seq
     (.reg 2 [⟨(some 2), none, (.q (.mov (.c (.str []))))⟩] [2])
     .ret)
    .skip))
  (.seq
   (.reg 3 [⟨(some 6), none, (.call 224 [])⟩, ⟨(some 7), none, (.q (.mov (.t 0)))⟩, ⟨(some 8), none, (.q (.idx none 5 1 (.t 6) (.t 7)))⟩, ⟨(some 2), none, (.q (.mov (.t 8)))⟩] [2])
   .ret)))
theorem fok179 : FOK Tryz.prog 179 (9, ic179, [(.t 2)]) := .mk (pf := []) (an := [(0, [0]), (1, [0, 5]), (2, [2]), (3, [2])]) (by kernel_rfl) (fnOK_of Tryz.func179 (by kernel_rfl) (by kernel_rfl) (by kernel_rfl))
def ic180 : IC :=
(.seq
 (.reg 0 [⟨(some 5), none, (.boxt (.t 2))⟩, ⟨(some 6), none, (.q (.mov (.c (.bool false))))⟩] [0, 1, 5])
 (.seq
  (.reg 1 [⟨(some 7), none, (.q (.mov (.t 0)))⟩, ⟨(some 8), none, (.q (.len 0 (.t 7)))⟩, ⟨(some 9), none, (.q (.mov (.t 1)))⟩, ⟨(some 10), none, (.q (.bin .leq (.t 8) (.t 9)))⟩, ⟨(some 11), none, (.q (.mov (.t 10)))⟩, ⟨(some 12), (some ⟨11, true⟩), (.q (.mov (.t 0)))⟩, ⟨(some 13), (some ⟨11, true⟩), (.q (.mkf 226 [] [(.t 5)]))⟩, ⟨(some 14), (some ⟨11, true⟩), (.call 225 [(.t 12), (.t 13)])⟩, ⟨(some 15), (some ⟨11, true⟩), (.q (.not (.t 14)))⟩, ⟨(some 16), none, (.q (.pick (.t 11) (.t 15) (.c (.bool false))))⟩, ⟨(some 6), none, (.q (.mov (.t 16)))⟩] [6])
  .ret))
theorem fok180 : FOK Tryz.prog 180 (17, ic180, [(.t 6)]) := .mk (pf := [1000005]) (an := [(0, [0, 1, 5]), (1, [6])]) (by kernel_rfl) (fnOK_of Tryz.func180 (by kernel_rfl) (by kernel_rfl) (by kernel_rfl))
def ic181 : IC :=
(.seq
 (.reg 0 [⟨(some 5), none, (.boxt (.t 2))⟩, ⟨(some 6), none, (.q (.mov (.c (.bool false))))⟩] [0, 1, 5])
 (.seq
  (.reg 1 [⟨(some 7), none, (.q (.mov (.t 0)))⟩, ⟨(some 8), none, (.q (.len 0 (.t 7)))⟩, ⟨(some 9), none, (.q (.mov (.t 1)))⟩, ⟨(some 10), none, (.q (.bin .leq (.t 8) (.t 9)))⟩, ⟨(some 11), none, (.q (.mov (.t 10)))⟩, ⟨(some 12), (some ⟨11, true⟩), (.q (.mov (.t 0)))⟩, ⟨(some 13), (some ⟨11, true⟩), (.q (.mkf 228 [] [(.t 5)]))⟩, ⟨(some 14), (some ⟨11, true⟩), (.call 227 [(.t 12), (.t 13)])⟩, ⟨(some 15), (some ⟨11, true⟩), (.q (.not (.t 14)))⟩, ⟨(some 16), none, (.q (.pick (.t 11) (.t 15) (.c (.bool false))))⟩, ⟨(some 6), none, (.q (.mov (.t 16)))⟩] [6])
  .ret))
theorem fok181 : FOK Tryz.prog 181 (17, ic181, [(.t 6)]) := .mk (pf := [1000005]) (an := [(0, [0, 1, 5]), (1, [6])]) (by kernel_rfl) (fnOK_of Tryz.func181 (by kernel_rfl) (by kernel_rfl) (by kernel_rfl))
def ic182 : IC :=
(.seq
 (.reg 0 [⟨(some 1), none, (.boxt (.t 0))⟩, ⟨(some 2), none, (.q (.mov (.c .nilfunc)))⟩] [1])
 (.seq
  (.reg 1 [⟨(some 3), none, (.q (.mkf 229 [] [(.t 1)]))⟩, ⟨(some 2), none, (.q (.mov (.t 3)))⟩] [2])
  .ret))
theorem fok182 : FOK Tryz.prog 182 (4, ic182, [(.t 2)]) := .mk (pf := [1000001]) (an := [(0, [1]), (1, [2])]) (by kernel_rfl) (fnOK_of Tryz.func182 (by kernel_rfl) (by kernel_rfl) (by kernel_rfl))
def ic183 : IC :=
(.seq
 (.reg 0 [⟨(some 5), none, (.boxt (.t 2))⟩, ⟨(some 6), none, (.q (.mov (.c (.bool false))))⟩] [0, 1, 5])
 (.seq
  (.reg 1 [⟨(some 7), none, (.q (.mov (.t 0)))⟩, ⟨(some 8), none, (.q (.len 0 (.t 7)))⟩, ⟨(some 9), none, (.q (.mov (.t 1)))⟩, ⟨(some 10), none, (.q (.bin .leq (.t 8) (.t 9)))⟩, ⟨(some 11), none, (.q (.mov (.t 10)))⟩, ⟨(some 12), (some ⟨11, true⟩), (.q (.mov (.t 0)))⟩, ⟨(some 13), (some ⟨11, true⟩), (.q (.mkf 231 [] [(.t 5)]))⟩, ⟨(some 14), (some ⟨11, true⟩), (.call 230 [(.t 12), (.t 13)])⟩, ⟨(some 15), (some ⟨11, true⟩), (.q (.not (.t 14)))⟩, ⟨(some 16), none, (.q (.pick (.t 11) (.t 15) (.c (.bool false))))⟩, ⟨(some 6), none, (.q (.mov (.t 16)))⟩] [6])
  .ret))
theorem fok183 : FOK Tryz.prog 183 (17, ic183, [(.t 6)]) := .mk (pf := [1000005]) (an := [(0, [0, 1, 5]), (1, [6])]) (by kernel_rfl) (fnOK_of Tryz.func183 (by kernel_rfl) (by kernel_rfl) (by kernel_rfl))
def ic184 : IC :=
(.seq
 (.reg 0 [⟨(some 2), none, (.boxt (.t 0))⟩, ⟨(some 3), none, (.q (.mov (.c (.bool false))))⟩] [1, 2])
 (.seq
  (.reg 1 [⟨(some 4), none, (.q (.load (some 7) (.t 2)))⟩, ⟨(some 5), none, (.q (.load none (.t 1)))⟩, ⟨(some 6), none, (.call 152 [(.t 4), (.t 5)])⟩, ⟨(some 7), none, (.q (.bin .eql (.t 6) (.c (.int .i64 0))))⟩, ⟨(some 3), none, (.q (.mov (.t 7)))⟩] [3])
  .ret))
theorem fok184 : FOK Tryz.prog 184 (8, ic184, [(.t 3)]) := .mk (pf := [1000002]) (an := [(0, [1, 2]), (1, [3])]) (by kernel_rfl) (fnOK_of Tryz.func184 (by kernel_rfl) (by kernel_rfl) (by kernel_rfl))
def ic185 : IC :=
(.seq
 (.reg 0 [⟨(some 4), none, (.q (.mov (.c (.int .i64 0))))⟩] [0, 1])
 (.seq
  (.reg 1 [⟨(some 5), none, (.q (.mov (.t 0)))⟩, ⟨(some 6), none, (.q (.mov (.t 1)))⟩, ⟨(some 7), none, (.call 232 [(.t 5), (.t 6)])⟩, ⟨(some 4), none, (.q (.mov (.t 7)))⟩] [4])
  .ret))
theorem fok185 : FOK Tryz.prog 185 (8, ic185, [(.t 4)]) := .mk (pf := []) (an := [(0, [0, 1]), (1, [4])]) (by kernel_rfl) (fnOK_of Tryz.func185 (by kernel_rfl) (by kernel_rfl) (by kernel_rfl))
def ic186 : IC :=
(.seq
 (.reg 0 [⟨(some 2), none, (.q (.mov (.c (.str []))))⟩] [0])
 (.seq
  (.seq
   (.reg 1 [⟨(some 5), none, (.q (.load none (.g 1)))⟩, ⟨(some 6), none, (.mrange (.t 5))⟩] [0, 6])
   (.block 0
    (.loop
     (.seq
      (.reg 2 [⟨(some 7), none, (.mnext (.t 6))⟩, ⟨(some 8), none, (.q (.ext 0 (.t 7)))⟩] [0, 6, 8])
      (.seq
       (.cond (.t 8)
        .skip
        (.exit 0))
       (.block 1
        (.seq
         (.reg 3 [⟨(some 9), none, (.ment (.t 6))⟩, ⟨(some 10), none, (.q (.ext 0 (.t 9)))⟩, ⟨(some 11), none, (.q (.ext 1 (.t 9)))⟩, ⟨(some 3), none, (.q (.mov (.t 10)))⟩, ⟨(some 4), none, (.q (.mov (.t 11)))⟩] [0, 3, 4, 6])
         (.seq
          (.reg 4 [⟨(some 12), none, (.q (.mov (.t 4)))⟩, ⟨(some 13), none, (.q (.mov (.t 0)))⟩, ⟨(some 14), none, (.q (.bin .eql (.t 12) (.t 13)))⟩] [0, 3, 6, 14])
          (.cond (.t 14)
           (.seq
            (.reg 5 [⟨(some 15), none, (.q (.mov (.t 3)))⟩, ⟨(some 2), none, (.q (.mov (.t 15)))⟩] [2])
            .ret)
           .skip)))))))))
  (.seq
   (.reg 6 [⟨(some 2), none, (.q (.mov (.c (.str []))))⟩] [2])
   .ret)))
theorem fok186 : FOK Tryz.prog 186 (16, ic186, [(.t 2)]) := .mk (pf := []) (an := [(0, [0]), (1, [0, 6]), (2, [0, 6, 8]), (3, [0, 3, 4, 6]), (4, [0, 3, 6, 14]), (5, [2]), (6, [2])]) (by kernel_rfl) (fnOK_of Tryz.func186 (by kernel_rfl) (by kernel_rfl) (by kernel_rfl))
def ic187 : IC :=
(.seq
 (.reg 0 [⟨(some 4), none, (.q (.mov (.c (.bool false))))⟩] [0, 1])
 (.seq
  (.reg 1 [⟨(some 5), none, (.q (.mov (.t 0)))⟩, ⟨(some 6), none, (.q (.mov (.t 1)))⟩, ⟨(some 7), none, (.call 233 [(.t 5), (.t 6)])⟩, ⟨(some 4), none, (.q (.mov (.t 7)))⟩] [4])
  .ret))
theorem fok187 : FOK Tryz.prog 187 (8, ic187, [(.t 4)]) := .mk (pf := []) (an := [(0, [0, 1]), (1, [4])]) (by kernel_rfl) (fnOK_of Tryz.func187 (by kernel_rfl) (by kernel_rfl) (by kernel_rfl))
def ic188 : IC :=
(.seq
 (.reg 0 [⟨(some 2), none, (.q (.mov (.c (.bool false))))⟩] [0])
 (.seq
  (.seq
   (.reg 1 [⟨(some 5), none, (.q (.mov (.t 0)))⟩, ⟨(some 6), none, (.q (.bin .eql (.t 5) (.c (.str []))))⟩, ⟨(some 7), none, (.q (.mov (.t 6)))⟩, ⟨(some 8), (some ⟨7, false⟩), (.q (.mov (.t 0)))⟩, ⟨(some 9), (some ⟨7, false⟩), (.q (.len 1 (.t 8)))⟩, ⟨(some 10), (some ⟨7, false⟩), (.q (.bin .gtr (.t 9) (.c (.int .i64 64))))⟩, ⟨(some 11), none, (.q (.pick (.t 7) (.c (.bool true)) (.t 10)))⟩] [0, 11])
   (.cond (.t 11)
    (.seq
     (.reg 2 [⟨(some 2), none, (.q (.mov (.c (.bool false))))⟩] [2])
     .ret)
    .skip))
  (.seq
   (.seq
    (.reg 3 [⟨(some 12), none, (.q (.mov (.t 0)))⟩, ⟨(some 13), none, (.q (.len 1 (.t 12)))⟩, ⟨(some 14), none, (.q (.mov (.c (.int .i64 0))))⟩] [0, 13, 14])
    (.block 0
     (.loop
      (.seq
       (.reg 4 [⟨(some 15), none, (.q (.bin .lss (.t 14) (.t 13)))⟩] [0, 13, 14, 15])
       (.seq
        (.cond (.t 15)
         .skip
         (.exit 0))
        (.seq
         (.block 1
          (.seq
           (.reg 5 [⟨(some 16), none, (.q (.mov (.t 14)))⟩, ⟨(some 3), none, (.q (.mov (.t 16)))⟩] [0, 3, 13, 14])
           (.seq
            (.reg 6 [⟨(some 17), none, (.q (.mov (.t 0)))⟩, ⟨(some 18), none, (.q (.mov (.t 3)))⟩, ⟨(some 19), none, (.q (.istr (.t 17) (.t 18)))⟩, ⟨(some 4), none, (.q (.mov (.t 19)))⟩] [0, 4, 13, 14])
            (.block 2
            (.seq
            (.seq
            (.reg 8 [⟨(some 21), none, (.q (.mov (.t 4)))⟩, ⟨(some 22), none, (.q (.bin .geq (.t 21) (.c (.int .u8 97))))⟩, ⟨(some 23), none, (.q (.mov (.t 22)))⟩, ⟨(some 24), (some ⟨23, true⟩), (.q (.mov (.t 4)))⟩, ⟨(some 25), (some ⟨23, true⟩), (.q (.bin .leq (.t 24) (.c (.int .u8 122))))⟩, ⟨(some 26), none, (.q (.pick (.t 23) (.t 25) (.c (.bool false))))⟩, ⟨(some 20), none, (.q (.mov (.t 26)))⟩] [0, 4, 13, 14, 20])
            (.cond (.t 20)
            .skip
            (.seq
            (.reg 9 [⟨(some 27), none, (.q (.mov (.t 4)))⟩, ⟨(some 28), none, (.q (.bin .geq (.t 27) (.c (.int .u8 65))))⟩, ⟨(some 29), none, (.q (.mov (.t 28)))⟩, ⟨(some 30), (some ⟨29, true⟩), (.q (.mov (.t 4)))⟩, ⟨(some 31), (some ⟨29, true⟩), (.q (.bin .leq (.t 30) (.c (.int .u8 90))))⟩, ⟨(some 32), none, (.q (.pick (.t 29) (.t 31) (.c (.bool false))))⟩, ⟨(some 20), none, (.q (.mov (.t 32)))⟩] [0, 4, 13, 14, 20])
            (.cond (.t 20)
            .skip
            (.seq
            (.reg 10 [⟨(some 33), none, (.q (.mov (.t 4)))⟩, ⟨(some 34), none, (.q (.bin .geq (.t 33) (.c (.int .u8 48))))⟩, ⟨(some 35), none, (.q (.mov (.t 34)))⟩, ⟨(some 36), (some ⟨35, true⟩), (.q (.mov (.t 4)))⟩, ⟨(some 37), (some ⟨35, true⟩), (.q (.bin .leq (.t 36) (.c (.int .u8 57))))⟩, ⟨(some 38), none, (.q (.pick (.t 35) (.t 37) (.c (.bool false))))⟩, ⟨(some 20), none, (.q (.mov (.t 38)))⟩] [0, 4, 13, 14, 20])
            (.cond (.t 20)
            .skip
            (.reg 11 [⟨(some 39), none, (.q (.mov (.t 4)))⟩, ⟨(some 40), none, (.call 185 [(.c (.str [46, 95, 43, 126, 94])), (.t 39)])⟩, ⟨(some 41), none, (.q (.bin .geq (.t 40) (.c (.int .i64 0))))⟩, ⟨(some 20), none, (.q (.mov (.t 41)))⟩] [0, 13, 14, 20])))))))
            (.cond (.t 20)
            .skip
            (.seq
            (.reg 7 [⟨(some 2), none, (.q (.mov (.c (.bool false))))⟩] [2])
            .ret)))))))
         (.reg 12 [⟨(some 42), none, (.q (.bin .add (.t 14) (.c (.int .i64 1))))⟩, ⟨(some 14), none, (.q (.mov (.t 42)))⟩] [0, 13, 14])))))))
   (.seq
    (.reg 13 [⟨(some 2), none, (.q (.mov (.c (.bool true))))⟩] [2])
    .ret))))
theorem fok188 : FOK Tryz.prog 188 (43, ic188, [(.t 2)]) := .mk (pf := []) (an := [(0, [0]), (1, [0, 11]), (2, [2]), (3, [0, 13, 14]), (4, [0, 13, 14, 15]), (5, [0, 3, 13, 14]), (6, [0, 4, 13, 14]), (7, [2]), (8, [0, 4, 13, 14, 20]), (9, [0, 4, 13, 14, 20]), (10, [0, 4, 13, 14, 20]), (11, [0, 13, 14, 20]), (12, [0, 13, 14]), (13, [2])]) (by kernel_rfl) (fnOK_of Tryz.func188 (by kernel_rfl) (by kernel_rfl) (by kernel_rfl))
def ic192 : IC :=
 (.seq
 (.reg 0 [oM 4 (cI 0)] [0, 1])
 (.seq
 (.seq
 (.reg 1 [oM 5 0, oK 6 (.call 123 [5]), oQ 7 (.not 6), oM 8 7, gQ 9 8 false (.mov 1), gK 10 8 false (.call 123 [9]), gQ 11 8 false (.not 10), oQ 12 (.pick 8 (cB true) 11)] [0, 1, 12])
 (.cond 12
 (.seq
 (.reg 2 [oM 4 (cI 0)] [4])
 .ret)
 .skip))
 (.seq
 (.reg 3 [oK 13 (.call 237 []), oM 14 0, oQ 15 (.idx (some 5) 5 5 13 14), oM 16 1, oQ 17 (.idx none 5 1 15 16), oM 4 17] [4])
 .ret)))
theorem fok192 : FOK Tryz.prog 192 (18, ic192, [(.t 4)]) := fokA [2000000] Tryz.func192 (by kernel_rfl) (by kernel_rfl) (by kernel_rfl) (by kernel_rfl)
def ic193 : IC :=
 (.seq
 (.reg 0 [oM 2 (cI 0)] [0])
 (.seq
 (.seq
 (.reg 1 [oM 6 0, oQ 7 (.len 0 6), oM 8 (cI 0)] [6, 7, 8])
 (.block 0
 (.loop
 (.seq
 (.reg 2 [oQ 9 (.bin .lss 8 7)] [6, 7, 8, 9])
 (.seq
 (.cond 9
 .skip
 (.exit 0))
 (.seq
 (.block 1
 (.seq
 (.reg 3 [oQ 10 (.iaddr 1 6 8), oQ 11 (.load none 10), oM 4 11] [4, 6, 7, 8])
 (.seq
 (.reg 4 [oM 12 4, oK 13 (.callv 12 []), oM 5 13] [5, 6, 7, 8])
 (.seq
 (.reg 5 [oM 14 5, oQ 15 (.bin .neq 14 (cI 0))] [5, 6, 7, 8, 15])
 (.cond 15
 (.seq
 (.reg 6 [oM 16 5, oM 2 16] [2])
 .ret)
 .skip)))))
 (.reg 7 [oQ 17 (.bin .add 8 (cI 1)), oM 8 17] [6, 7, 8])))))))
 (.seq
 (.reg 8 [oM 2 (cI 0)] [2])
 .ret)))
theorem fok193 : FOK Tryz.prog 193 (18, ic193, [(.t 2)]) := fokA [2000000] Tryz.func193 (by kernel_rfl) (by kernel_rfl) (by kernel_rfl) (by kernel_rfl)
def ic194 : IC :=
 (.seq
 (.reg 0 [oM 2 (cI 0)] [0, 1])
 (.seq
 (.reg 1 [oQ 3 (.faddr 0 0), oQ 4 (.load none 3), oQ 5 (.faddr 0 1), oQ 6 (.load none 5), oK 7 (.call 195 [4, 6]), oM 2 7] [2])
 .ret))
theorem fok194 : FOK Tryz.prog 194 (8, ic194, [(.t 2)]) := fokA [2000000] Tryz.func194 (by kernel_rfl) (by kernel_rfl) (by kernel_rfl) (by kernel_rfl)
def ic195 : IC :=
 (.seq
 (.reg 0 [oM 4 (cI 0)] [0, 1])
 (.seq
 (.reg 1 [oM 7 0, oK 8 (.call 238 [7]), oM 5 8] [0, 1, 5])
 (.seq
 (.reg 2 [oM 9 1, oK 10 (.call 238 [9]), oM 6 10] [0, 1, 5, 6])
 (.seq
 (.seq
 (.reg 3 [oM 11 5] [0, 1, 6, 11])
 (.cond 11
 (.seq
 (.seq
 (.reg 4 [oM 12 6] [12])
 (.cond 12
 (.seq
 (.reg 5 [oM 4 (cI 0)] [4])
 .ret)
 .skip))
 (.seq
 (.reg 6 [oM 4 (cI (-1))] [4])
 .ret))
 .skip))
 (.seq
 (.seq
 (.reg 7 [oM 13 6] [0, 1, 13])
 (.cond 13
 (.seq
 (.reg 8 [oM 4 (cI 1)] [4])
 .ret)
 .skip))
 (.seq
 (.seq
 (.reg 9 [oM 14 0, oM 15 1, oQ 16 (.bin .lss 14 15)] [0, 1, 16])
 (.cond 16
 (.seq
 (.reg 10 [oM 4 (cI (-1))] [4])
 .ret)
 .skip))
 (.seq
 (.seq
 (.reg 11 [oM 17 0, oM 18 1, oQ 19 (.bin .gtr 17 18)] [19])
 (.cond 19
 (.seq
 (.reg 12 [oM 4 (cI 1)] [4])
 .ret)
 .skip))
 (.seq
 (.reg 13 [oM 4 (cI 0)] [4])
 .ret))))))))
theorem fok195 : FOK Tryz.prog 195 (20, ic195, [(.t 4)]) := fokA [2000000] Tryz.func195 (by kernel_rfl) (by kernel_rfl) (by kernel_rfl) (by kernel_rfl)
def ic196 : IC :=
 (.seq
 (.reg 0 [oM 2 (cI 0)] [0, 1])
 (.seq
 (.reg 1 [oQ 3 (.faddr 1 0), oQ 4 (.load none 3), oQ 5 (.faddr 1 1), oQ 6 (.load none 5), oK 7 (.call 197 [4, 6]), oM 2 7] [2])
 .ret))
theorem fok196 : FOK Tryz.prog 196 (8, ic196, [(.t 2)]) := fokA [2000000] Tryz.func196 (by kernel_rfl) (by kernel_rfl) (by kernel_rfl) (by kernel_rfl)
def ic197 : IC :=
 (.seq
 (.reg 0 [oM 4 (cI 0)] [0, 1])
 (.seq
 (.reg 1 [oM 9 0, oK 10 (.call 239 [9]), oQ 11 (.bld [(zU 0), (.str [])] [⟨0, ⟨1, (.c (zU 2))⟩⟩]), oK 12 (.bslt 2 1 [(zU 0), (.str [])] [⟨0, ⟨2, 11⟩⟩]), oK 13 (.app 2 10 12), oM 14 1, oK 15 (.call 239 [14]), oQ 16 (.bld [(zU 0), (.str [])] [⟨0, ⟨1, (.c (zU 2))⟩⟩]), oK 17 (.bslt 2 1 [(zU 0), (.str [])] [⟨0, ⟨2, 16⟩⟩]), oK 18 (.app 2 15 17), oM 5 13, oM 6 18] [5, 6])
 (.seq
 (.seq
 (.reg 2 [oM 19 5, oQ 20 (.len 0 19), oM 21 6, oQ 22 (.len 0 21), oQ 23 (.mm false 20 22), oM 24 (cI 0)] [5, 6, 23, 24])
 (.block 0
 (.loop
 (.seq
 (.reg 3 [oQ 25 (.bin .lss 24 23)] [5, 6, 23, 24, 25])
 (.seq
 (.cond 25
 .skip
 (.exit 0))
 (.seq
 (.block 1
 (.seq
 (.reg 4 [oM 26 24, oM 7 26] [5, 6, 7, 23, 24])
 (.seq
 (.dreg 5 [oM 27 5, oM 28 7, oQ 29 (.iaddr 2 27 28), oQ 30 (.load (some 2) 29), oM 31 6, oM 32 7, oQ 33 (.iaddr 2 31 32), oQ 34 (.load (some 2) 33), oK 35 (.call 240 [30, 34]), oM 8 35] false [5, 6, 8, 23, 24])
 (.seq
 (.reg 6 [oM 36 8, oQ 37 (.bin .neq 36 (cI 0))] [5, 6, 8, 23, 24, 37])
 (.cond 37
 (.seq
 (.reg 7 [oM 38 8, oM 4 38] [4])
 .ret)
 .skip)))))
 (.reg 8 [oQ 39 (.bin .add 24 (cI 1)), oM 24 39] [5, 6, 23, 24])))))))
 (.seq
 (.reg 9 [oM 4 (cI 0)] [4])
 .ret))))
theorem fok197 : FOK Tryz.prog 197 (40, ic197, [(.t 4)]) := fokA [1000012, 1000017, 2000000] Tryz.func197 (by kernel_rfl) (by kernel_rfl) (by kernel_rfl) (by kernel_rfl)
def ic198 : IC :=
 (.seq
 (.reg 0 [oM 2 (cI 0)] [0, 1])
 (.seq
 (.seq
 (.reg 1 [oQ 3 (.faddr 2 0), oQ 4 (.load none 3), oQ 5 (.bin .eql 4 (.c (.str []))), oM 6 5, gQ 7 6 false (.faddr 2 1), gQ 8 6 false (.load none 7), gQ 9 6 false (.bin .eql 8 (.c (.str []))), oQ 10 (.pick 6 (cB true) 9)] [0, 1, 10])
 (.cond 10
 (.seq
 (.reg 2 [oM 2 (cI 0)] [2])
 .ret)
 .skip))
 (.seq
 (.reg 3 [oQ 11 (.faddr 2 0), oQ 12 (.load none 11), oQ 13 (.faddr 2 1), oQ 14 (.load none 13), oK 15 (.call 197 [12, 14]), oM 2 15] [2])
 .ret)))
theorem fok198 : FOK Tryz.prog 198 (16, ic198, [(.t 2)]) := fokA [2000000] Tryz.func198 (by kernel_rfl) (by kernel_rfl) (by kernel_rfl) (by kernel_rfl)
def ic199 : IC :=
 (.seq
 (.reg 0 [oK 3 (.boxt 1), oM 4 (cB false)] [0, 3])
 (.seq
 (.reg 1 [oM 5 0, oQ 6 (.load (some 2) 3), oK 7 (.call 241 [5, 6]), oQ 8 (.bin .geq 7 (cI 0)), oM 4 8] [4])
 .ret))
theorem fok199 : FOK Tryz.prog 199 (9, ic199, [(.t 4)]) := fokA [1000003, 2000000] Tryz.func199 (by kernel_rfl) (by kernel_rfl) (by kernel_rfl) (by kernel_rfl)
def ic200 : IC :=
(.seq
 (.reg 0 [⟨(some 1), none, (.boxt (.t 0))⟩, ⟨(some 2), none, (.q (.mov (.c (.int .i64 0))))⟩] [1])
 (.seq
  (.seq
   (.reg 1 [⟨(some 6), none, (.q (.faddr 0 (.t 1)))⟩, ⟨(some 7), none, (.q (.load none (.t 6)))⟩, ⟨(some 8), none, (.q (.bin .eql (.t 7) (.c (.int .u8 1))))⟩] [1, 8])
   (.cond (.t 8)
    (.seq
     (.reg 2 [⟨(some 2), none, (.q (.mov (.c (.int .i64 0))))⟩] [2])
     .ret)
    .skip))
  (.seq
   (.reg 3 [⟨(some 3), none, (.q (.mov (.c (.int .i64 0))))⟩] [1, 3])
   (.seq
    (.seq
     (.reg 4 [⟨(some 9), none, (.q (.faddr 6 (.t 1)))⟩, ⟨(some 10), none, (.q (.load none (.t 9)))⟩, ⟨(some 11), none, (.q (.len 0 (.t 10)))⟩, ⟨(some 12), none, (.q (.mov (.c (.int .i64 0))))⟩] [3, 10, 11, 12])
     (.block 0
      (.loop
       (.seq
        (.reg 5 [⟨(some 13), none, (.q (.bin .lss (.t 12) (.t 11)))⟩] [3, 10, 11, 12, 13])
        (.seq
         (.cond (.t 13)
          .skip
          (.exit 0))
         (.seq
          (.block 1
           (.seq
            (.reg 6 [⟨(some 14), none, (.q (.iaddr 7 (.t 10) (.t 12)))⟩, ⟨(some 15), none, (.q (.load (some 7) (.t 14)))⟩, ⟨(some 5), none, (.alloc [(.int .u8 0), (.str []), (.int .u8 0), (.int .i64 0), (.str []), (.str []), .nilslice])⟩, ⟨none, none, (.store 7 (.t 5) (.t 15))⟩] [3, 5, 10, 11, 12])
            (.reg 7 [⟨(some 16), none, (.q (.mov (.t 3)))⟩, ⟨(some 17), none, (.q (.load (some 7) (.t 5)))⟩, ⟨(some 18), none, (.call 200 [(.t 17)])⟩, ⟨(some 19), none, (.q (.mm true (.t 16) (.t 18)))⟩, ⟨(some 3), none, (.q (.mov (.t 19)))⟩] [3, 10, 11, 12])))
          (.reg 8 [⟨(some 20), none, (.q (.bin .add (.t 12) (.c (.int .i64 1))))⟩, ⟨(some 12), none, (.q (.mov (.t 20)))⟩] [3, 10, 11, 12])))))))
    (.seq
     (.reg 9 [⟨(some 21), none, (.q (.mov (.t 3)))⟩, ⟨(some 22), none, (.q (.bin .add (.t 21) (.c (.int .i64 1))))⟩, ⟨(some 2), none, (.q (.mov (.t 22)))⟩] [2])
     .ret)))))
theorem fok200 : FOK Tryz.prog 200 (23, ic200, [(.t 2)]) := .mk (pf := [1000001]) (an := [(0, [1]), (1, [1, 8]), (2, [2]), (3, [1, 3]), (4, [3, 10, 11, 12]), (5, [3, 10, 11, 12, 13]), (6, [3, 5, 10, 11, 12]), (7, [3, 10, 11, 12]), (8, [3, 10, 11, 12]), (9, [2])]) (by kernel_rfl) (fnOK_of Tryz.func200 (by kernel_rfl) (by kernel_rfl) (by kernel_rfl))
def ic201 : IC :=
(.seq
 (.reg 0 [⟨(some 1), none, (.boxt (.t 0))⟩, ⟨(some 2), none, (.q (.mov (.c .nilfunc)))⟩] [1])
 (.seq
  (.reg 1 [⟨(some 3), none, (.alloc [.nilfunc])⟩] [1, 3])
  (.seq
   (.reg 2 [⟨(some 4), none, (.q (.mkf 242 [] [(.t 3)]))⟩, ⟨none, none, (.store 1 (.t 3) (.t 4))⟩] [1, 3])
   (.seq
    (.reg 3 [⟨(some 5), none, (.q (.mkf 243 [] [(.t 3), (.t 1)]))⟩, ⟨(some 2), none, (.q (.mov (.t 5)))⟩] [2])
    .ret))))
theorem fok201 : FOK Tryz.prog 201 (6, ic201, [(.t 2)]) := .mk (pf := [1000001]) (an := [(0, [1]), (1, [1, 3]), (2, [1, 3]), (3, [2])]) (by kernel_rfl) (fnOK_of Tryz.func201 (by kernel_rfl) (by kernel_rfl) (by kernel_rfl))
def ic202 : IC :=
(.seq
 (.reg 0 [⟨(some 2), none, (.alloc [(.int .i64 0), (.int .i64 0), (.bool false), (.int .u8 0)])⟩] [0, 2])
 (.seq
  (.reg 1 [⟨(some 4), none, (.q (.bld [(.int .i64 0), (.int .i64 0), (.bool false), (.int .u8 0)] [⟨0, ⟨1, (.c (.int .i64 0))⟩⟩, ⟨1, ⟨1, (.c (.int .i64 0))⟩⟩, ⟨2, ⟨1, (.c (.bool true))⟩⟩, ⟨3, ⟨1, (.c (.int .u8 3))⟩⟩]))⟩, ⟨(some 5), none, (.q (.bld [(.int .i64 0), (.int .i64 0), (.bool false), (.int .u8 0)] [⟨0, ⟨1, (.c (.int .i64 2))⟩⟩, ⟨1, ⟨1, (.c (.int .i64 24))⟩⟩, ⟨2, ⟨1, (.c (.bool true))⟩⟩, ⟨3, ⟨1, (.c (.int .u8 3))⟩⟩]))⟩, ⟨(some 6), none, (.q (.bld [(.int .i64 0), (.int .i64 0), (.bool false), (.int .u8 0)] [⟨0, ⟨1, (.c (.int .i64 2))⟩⟩, ⟨1, ⟨1, (.c (.int .i64 24))⟩⟩, ⟨2, ⟨1, (.c (.bool true))⟩⟩, ⟨3, ⟨1, (.c (.int .u8 3))⟩⟩]))⟩, ⟨(some 7), none, (.q (.bld [(.int .i64 0), (.int .i64 0), (.bool false), (.int .u8 0)] [⟨0, ⟨1, (.c (.int .i64 2))⟩⟩, ⟨1, ⟨1, (.c (.int .i64 3))⟩⟩, ⟨2, ⟨1, (.c (.bool false))⟩⟩, ⟨3, ⟨1, (.c (.int .u8 1))⟩⟩]))⟩, ⟨(some 8), none, (.q (.bld [(.int .i64 0), (.int .i64 0), (.bool false), (.int .u8 0)] [⟨0, ⟨1, (.c (.int .i64 2))⟩⟩, ⟨1, ⟨1, (.c (.int .i64 3))⟩⟩, ⟨2, ⟨1, (.c (.bool false))⟩⟩, ⟨3, ⟨1, (.c (.int .u8 2))⟩⟩]))⟩, ⟨(some 9), none, (.q (.bld [(.int .i64 0), (.int .i64 0), (.bool false), (.int .u8 0)] [⟨0, ⟨1, (.c (.int .i64 2))⟩⟩, ⟨1, ⟨1, (.c (.int .i64 24))⟩⟩, ⟨2, ⟨1, (.c (.bool true))⟩⟩, ⟨3, ⟨1, (.c (.int .u8 3))⟩⟩]))⟩, ⟨(some 10), none, (.q (.bld [(.int .i64 0), (.int .i64 0), (.bool false), (.int .u8 0)] [⟨0, ⟨1, (.c (.int .i64 2))⟩⟩, ⟨1, ⟨1, (.c (.int .i64 2))⟩⟩, ⟨2, ⟨1, (.c (.bool true))⟩⟩, ⟨3, ⟨1, (.c (.int .u8 3))⟩⟩]))⟩, ⟨(some 11), none, (.q (.bld [(.int .i64 0), (.int .i64 0), (.bool false), (.int .u8 0), (.int .i64 0), (.int .i64 0), (.bool false), (.int .u8 0), (.int .i64 0), (.int .i64 0), (.bool false), (.int .u8 0), (.int .i64 0), (.int .i64 0), (.bool false), (.int .u8 0), (.int .i64 0), (.int .i64 0), (.bool false), (.int .u8 0), (.int .i64 0), (.int .i64 0), (.bool false), (.int .u8 0), (.int .i64 0), (.int .i64 0), (.bool false), (.int .u8 0), (.int .i64 0), (.int .i64 0), (.bool false), (.int .u8 0)] [⟨4, ⟨4, (.t 4)⟩⟩, ⟨8, ⟨4, (.t 5)⟩⟩, ⟨12, ⟨4, (.t 6)⟩⟩, ⟨16, ⟨4, (.t 7)⟩⟩, ⟨20, ⟨4, (.t 8)⟩⟩, ⟨24, ⟨4, (.t 9)⟩⟩, ⟨28, ⟨4, (.t 10)⟩⟩]))⟩, ⟨(some 3), none, (.alloc [(.int .i64 0), (.int .i64 0), (.bool false), (.int .u8 0), (.int .i64 0), (.int .i64 0), (.bool false), (.int .u8 0), (.int .i64 0), (.int .i64 0), (.bool false), (.int .u8 0), (.int .i64 0), (.int .i64 0), (.bool false), (.int .u8 0), (.int .i64 0), (.int .i64 0), (.bool false), (.int .u8 0), (.int .i64 0), (.int .i64 0), (.bool false), (.int .u8 0), (.int .i64 0), (.int .i64 0), (.bool false), (.int .u8 0), (.int .i64 0), (.int .i64 0), (.bool false), (.int .u8 0)])⟩, ⟨none, none, (.store 32 (.t 3) (.t 11))⟩] [0, 2, 3])
  (.seq
   (.seq
    (.reg 2 [⟨(some 12), none, (.q (.mov (.t 0)))⟩, ⟨(some 13), none, (.q (.conv .i64 (.t 12)))⟩, ⟨(some 14), none, (.q (.bin .geq (.t 13) (.c (.int .i64 8))))⟩] [0, 2, 3, 14])
    (.cond (.t 14)
     (.seq
      (.reg 3 [⟨(some 15), none, (.q (.bld [(.int .i64 0), (.int .i64 0), (.bool false), (.int .u8 0)] []))⟩, ⟨none, none, (.store 4 (.t 2) (.t 15))⟩] [2])
      .ret)
     .skip))
   (.seq
    (.reg 4 [⟨(some 16), none, (.q (.mov (.t 0)))⟩, ⟨(some 17), none, (.q (.aaddr 8 4 (.t 3) (.t 16)))⟩, ⟨(some 18), none, (.q (.load (some 4) (.t 17)))⟩, ⟨none, none, (.store 4 (.t 2) (.t 18))⟩] [2])
    .ret))))
theorem fok202 : FOK Tryz.prog 202 (19, ic202, [(.cell (some 4) 2)]) := .mk (pf := []) (an := [(0, [0, 2]), (1, [0, 2, 3]), (2, [0, 2, 3, 14]), (3, [2]), (4, [2])]) (by kernel_rfl) (fnOK_of Tryz.func202 (by kernel_rfl) (by kernel_rfl) (by kernel_rfl))
def ic203 : IC :=
 (.seq
 (.reg 0 [oK 4 (.boxt 1), oM 6 (cI 0)] [0, 2, 4])
 (.seq
 (.oreg 1 [(0, oM 7 0, 0), (1, oM 8 0, 0), (2, oQ 9 (.nchk 8), 0), (3, oQ 10 (.faddr 0 9), 0), (4, oQ 11 (.load none 10), 0), (5, oQ 12 (.faddr 1 4), 0), (6, oQ 13 (.load (some 5) 12), 0), (8, oM 15 2, 0), (7, oK 14 (.call 163 [11, 13]), 0), (9, oK 16 (.call 245 [14, 15]), 0), (10, oK 17 (.call 244 [7, 16]), 0), (11, oM 6 17, 0)] [6])
 .ret))
theorem fok203 : FOK Tryz.prog 203 (18, ic203, [(.t 6)]) := fokA [1000004, 2000000] Tryz.func203 (by kernel_rfl) (by kernel_rfl) (by kernel_rfl) (by kernel_rfl)
def ic204 : IC :=
 (.seq
 (.reg 0 [oK 4 (.boxt 1), oM 6 (cI 0)] [0, 2, 4])
 (.seq
 (.reg 1 [oM 7 0, oM 8 0, oQ 9 (.load (some 7) 4), oM 10 2, oK 11 (.call 247 [8, 9, 10]), oK 12 (.call 246 [7, 11]), oM 6 12] [6])
 .ret))
theorem fok204 : FOK Tryz.prog 204 (13, ic204, [(.t 6)]) := fokA [1000004, 2000000] Tryz.func204 (by kernel_rfl) (by kernel_rfl) (by kernel_rfl) (by kernel_rfl)
def ic205 : IC :=
 (.seq
 (.reg 0 [oK 4 (.boxt 1), oM 6 (cI 0)] [0, 2, 4])
 (.seq
 (.reg 1 [oM 7 0, oM 8 0, oQ 9 (.load (some 7) 4), oM 10 2, oK 11 (.call 247 [8, 9, 10]), oK 12 (.call 248 [7, 11]), oM 6 12] [6])
 .ret))
theorem fok205 : FOK Tryz.prog 205 (13, ic205, [(.t 6)]) := fokA [1000004, 2000000] Tryz.func205 (by kernel_rfl) (by kernel_rfl) (by kernel_rfl) (by kernel_rfl)
def ic206 : IC :=
 (.seq
 (.reg 0 [oK 4 (.boxt 1), oM 6 (cI 0)] [0, 2, 4])
 (.seq
 (.reg 1 [oM 8 0, oQ 9 (.load (some 7) 4), oM 10 2, oK 11 (.call 247 [8, 9, 10]), oM 7 11] [0, 7])
 (.seq
 (.seq
 (.reg 2 [oM 12 7, oQ 13 (.len 0 12), oQ 14 (.bin .eql 13 (cI 3))] [0, 7, 14])
 (.cond 14
 (.seq
 (.dreg 3 [oM 15 0, oM 16 7, oQ 17 (.iaddr 1 16 (cI 0)), oQ 18 (.load none 17), oM 19 7, oQ 20 (.iaddr 1 19 (cI 2)), oQ 21 (.load none 20), oM 22 7, oQ 23 (.iaddr 1 22 (cI 1)), oQ 24 (.load none 23), oK 25 (.call 249 [15, 18, 21, 24]), oM 6 25] false [6])
 .ret)
 .skip))
 (.seq
 (.dreg 4 [oM 26 0, oM 27 7, oQ 28 (.iaddr 1 27 (cI 0)), oQ 29 (.load none 28), oM 30 7, oQ 31 (.iaddr 1 30 (cI 1)), oQ 32 (.load none 31), oQ 33 (.neg 32), oK 34 (.bslt 1 2 [(zI 0)] [⟨0, ⟨1, 29⟩⟩, ⟨1, ⟨1, 33⟩⟩]), oK 35 (.call 248 [26, 34]), oM 6 35] false [6])
 .ret))))
theorem fok206 : FOK Tryz.prog 206 (36, ic206, [(.t 6)]) := fokA [1000004, 1000034, 2000000] Tryz.func206 (by kernel_rfl) (by kernel_rfl) (by kernel_rfl) (by kernel_rfl)
def ic207 : IC :=
 (.seq
 (.reg 0 [oK 4 (.boxt 1), oM 6 (cI 0)] [0, 2, 4])
 (.seq
 (.reg 1 [oM 8 0, oQ 9 (.load (some 7) 4), oM 10 2, oK 11 (.call 247 [8, 9, 10]), oM 7 11] [0, 7])
 (.seq
 (.seq
 (.reg 2 [oM 12 7, oQ 13 (.len 0 12), oQ 14 (.bin .eql 13 (cI 3))] [0, 7, 14])
 (.cond 14
 (.seq
 (.dreg 3 [oM 15 0, oM 16 7, oQ 17 (.iaddr 1 16 (cI 2)), oQ 18 (.load none 17), oM 19 7, oQ 20 (.iaddr 1 19 (cI 0)), oQ 21 (.load none 20), oM 22 7, oQ 23 (.iaddr 1 22 (cI 1)), oQ 24 (.load none 23), oK 25 (.call 249 [15, 18, 21, 24]), oM 6 25] false [6])
 .ret)
 .skip))
 (.seq
 (.dreg 4 [oM 26 0, oM 27 7, oQ 28 (.iaddr 1 27 (cI 0)), oQ 29 (.load none 28), oM 30 7, oQ 31 (.iaddr 1 30 (cI 1)), oQ 32 (.load none 31), oQ 33 (.neg 32), oK 34 (.bslt 1 2 [(zI 0)] [⟨0, ⟨1, 29⟩⟩, ⟨1, ⟨1, 33⟩⟩]), oK 35 (.call 246 [26, 34]), oM 6 35] false [6])
 .ret))))
theorem fok207 : FOK Tryz.prog 207 (36, ic207, [(.t 6)]) := fokA [1000004, 1000034, 2000000] Tryz.func207 (by kernel_rfl) (by kernel_rfl) (by kernel_rfl) (by kernel_rfl)
def ic208 : IC :=
 (.seq
 (.reg 0 [oK 4 (.boxt 1), oM 6 (cI 0)] [0, 2, 4])
 (.seq
 (.reg 1 [oM 7 (.c .nilslice)] [0, 2, 4, 7])
 (.seq
 (.seq
 (.reg 2 [oM 10 0, oQ 11 (.nchk 10), oQ 12 (.faddr 1 11), oQ 13 (.load none 12), oQ 14 (.len 0 13), oM 15 (cI 0)] [0, 2, 4, 7, 13, 14, 15])
 (.block 0
 (.loop
 (.seq
 (.reg 3 [oQ 16 (.bin .lss 15 14)] [0, 2, 4, 7, 13, 14, 15, 16])
 (.seq
 (.cond 16
 .skip
 (.exit 0))
 (.seq
 (.block 1
 (.seq
 (.reg 4 [oM 17 15, oQ 18 (.iaddr 15 13 15), oQ 19 (.load (some 15) 18), oK 9 (.alloc [(.str []), (zI 0), (.str []), (.str []), (zU 0), (.str []), .nilslice, .nilslice, .nilslice, .nilslice, .nilslice, .nilslice, .nilslice, .nilslice, .nilslice]), oM 8 17, oN (.store 15 9 19)] [0, 2, 4, 7, 8, 9, 13, 14, 15])
 (.seq
 (.reg 5 [oQ 20 (.load (some 15) 9), oQ 21 (.load (some 7) 4), oK 22 (.call 250 [20, 21])] [0, 2, 4, 7, 8, 13, 14, 15, 22])
 (.cond 22
 (.reg 6 [oM 23 7, oM 24 8, oK 25 (.bslt 1 1 [(zI 0)] [⟨0, ⟨1, 24⟩⟩]), oK 26 (.app 1 23 25), oM 7 26] [0, 2, 4, 7, 13, 14, 15])
 .skip))))
 (.reg 7 [oQ 27 (.bin .add 15 (cI 1)), oM 15 27] [0, 2, 4, 7, 13, 14, 15])))))))
 (.seq
 (.reg 8 [oM 28 0, oM 29 7, oM 30 2, oK 31 (.call 245 [29, 30]), oK 32 (.call 244 [28, 31]), oM 6 32] [6])
 .ret))))
theorem fok208 : FOK Tryz.prog 208 (33, ic208, [(.t 6)]) := fokA [1000004, 1000025, 2000000] Tryz.func208 (by kernel_rfl) (by kernel_rfl) (by kernel_rfl) (by kernel_rfl)
def ic209 : IC :=
 (.seq
 (.reg 0 [oK 2 (.boxt 0), oK 3 (.boxt 1), oM 4 (cB false)] [2, 3])
 (.seq
 (.reg 1 [oQ 5 (.faddr 0 2), oQ 6 (.load none 5), oQ 7 (.faddr 0 3), oQ 8 (.load none 7), oQ 9 (.bin .eql 6 8), oM 10 9, gQ 11 10 true (.load (some 5) 2), gQ 12 10 true (.load (some 5) 3), gK 13 10 true (.call 251 [11, 12]), oQ 14 (.pick 10 13 (cB false)), oM 4 14] [4])
 .ret))
theorem fok209 : FOK Tryz.prog 209 (15, ic209, [(.t 4)]) := fokA [1000002, 1000003, 2000000] Tryz.func209 (by kernel_rfl) (by kernel_rfl) (by kernel_rfl) (by kernel_rfl)
def ic210 : IC :=
 (.seq
 (.reg 0 [oK 1 (.boxt 0), oK 2 (.alloc [(.str []), (zU 0), (zI 0), (.str []), (.str [])])] [1, 2])
 (.seq
 (.reg 1 [oQ 3 (.faddr 0 1), oQ 4 (.load none 3), oQ 5 (.faddr 1 1), oQ 6 (.load (some 3) 5), oK 7 (.call 252 [4, 6]), oN (.store 5 2 7)] [2])
 .ret))
theorem fok210 : FOK Tryz.prog 210 (8, ic210, [(.cell (some 5) 2)]) := fokA [1000001, 2000000] Tryz.func210 (by kernel_rfl) (by kernel_rfl) (by kernel_rfl) (by kernel_rfl)
def ic211 : IC :=
 (.seq
 (.reg 0 [oM 4 (cB false)] [0, 1])
 (.seq
 (.reg 1 [oM 5 0, oQ 6 (.isnil (.pointer 218) true 5), oM 7 6, gQ 8 7 true (.mov 1), gQ 9 7 true (.bin .geq 8 (cI 0)), oQ 10 (.pick 7 9 (cB false)), oM 11 10, gQ 12 11 true (.mov 1), gQ 13 11 true (.mov 0), gQ 14 11 true (.nchk 13), gQ 15 11 true (.faddr 0 14), gQ 16 11 true (.load none 15), gQ 17 11 true (.len 0 16), gQ 18 11 true (.bin .lss 12 17), oQ 19 (.pick 11 18 (cB false)), oM 4 19] [4])
 .ret))
theorem fok211 : FOK Tryz.prog 211 (20, ic211, [(.t 4)]) := fokA [2000000] Tryz.func211 (by kernel_rfl) (by kernel_rfl) (by kernel_rfl) (by kernel_rfl)
def ic212 : IC :=
 (.seq
 (.reg 0 [oK 4 (.boxt 0), oM 6 (cB false)] [1, 2, 3, 4])
 (.seq
 (.dreg 1 [oM 7 1, oQ 8 (.load none 2), oQ 9 (.bin .neq 7 8), oM 10 9, gQ 11 10 true (.load (some 15) 4), gQ 12 10 true (.load none 3), gQ 13 10 true (.nchk 12), gQ 14 10 true (.faddr 0 13), gQ 15 10 true (.load none 14), gQ 16 10 true (.load none 2), gQ 17 10 true (.iaddr 15 15 16), gQ 18 10 true (.load (some 15) 17), gK 19 10 true (.call 213 [11, 18]), oQ 20 (.pick 10 19 (cB false)), oM 6 20] false [6])
 .ret))
theorem fok212 : FOK Tryz.prog 212 (21, ic212, [(.t 6)]) := fokA [1000004, 2000000] Tryz.func212 (by kernel_rfl) (by kernel_rfl) (by kernel_rfl) (by kernel_rfl)
def ic213 : IC :=
 (.seq
 (.reg 0 [oK 2 (.boxt 0), oK 3 (.boxt 1), oM 4 (cB false)] [2, 3])
 (.seq
 (.reg 1 [oQ 5 (.faddr 9 2), oQ 6 (.load none 5), oQ 7 (.mkf 253 [] [3]), oK 8 (.call 225 [6, 7]), oM 4 8] [4])
 .ret))
theorem fok213 : FOK Tryz.prog 213 (9, ic213, [(.t 4)]) := fokA [1000002, 1000003, 2000000] Tryz.func213 (by kernel_rfl) (by kernel_rfl) (by kernel_rfl) (by kernel_rfl)
def ic214 : IC :=
 (.seq
 (.reg 0 [oM 8 (cB true)] [0, 1, 2, 3, 8])
 (.seq
 (.reg 1 [oM 9 (cB true)] [0, 1, 2, 3, 8, 9])
 (.block 0
 (.loop
 (.block 1
 (.seq
 (.reg 2 [oM 19 2, oM 20 1, oQ 21 (.bin .sub 19 20), oM 10 21] [0, 1, 2, 3, 8, 9, 10])
 (.seq
 (.seq
 (.reg 3 [oM 22 10, oQ 23 (.bin .leq 22 (cI 12))] [0, 1, 2, 3, 8, 9, 10, 23])
 (.cond 23
 (.seq
 (.reg 4 [oM 24 0, oM 25 1, oM 26 2, oK 27 (.call 254 [24, 25, 26])] [])
 .ret)
 .skip))
 (.seq
 (.seq
 (.reg 5 [oM 28 3, oQ 29 (.bin .eql 28 (cI 0))] [0, 1, 2, 3, 8, 9, 10, 29])
 (.cond 29
 (.seq
 (.reg 6 [oM 30 0, oM 31 1, oM 32 2, oK 33 (.call 255 [30, 31, 32])] [])
 .ret)
 .skip))
 (.seq
 (.seq
 (.reg 7 [oM 34 8, oQ 35 (.not 34)] [0, 1, 2, 3, 8, 9, 10, 35])
 (.cond 35
 (.seq
 (.reg 8 [oM 36 0, oM 37 1, oM 38 2, oK 39 (.call 256 [36, 37, 38])] [0, 1, 2, 3, 8, 9, 10])
 (.reg 9 [oM 40 3, oQ 41 (.bin .sub 40 (cI 1)), oM 3 41] [0, 1, 2, 3, 8, 9, 10]))
 .skip))
 (.seq
 (.reg 10 [oM 43 0, oM 44 1, oM 45 2, oK 46 (.call 257 [43, 44, 45]), oM 42 46, oQ 47 (.ext 0 42), oQ 48 (.ext 1 42), oM 11 47, oM 12 48] [0, 1, 2, 3, 8, 9, 10, 11, 12])
 (.seq
 (.seq
 (.reg 11 [oM 49 12, oQ 50 (.bin .eql 49 (cI 2))] [0, 1, 2, 3, 8, 9, 10, 11, 12, 50])
 (.cond 50
 (.seq
 (.reg 12 [oM 51 0, oM 52 1, oM 53 2, oK 54 (.call 258 [51, 52, 53])] [0, 1, 2, 3, 8, 9, 10, 11])
 (.seq
 (.reg 13 [oM 55 2, oQ 56 (.bin .sub 55 (cI 1)), oM 57 11, oM 58 1, oQ 59 (.bin .sub 57 58), oQ 60 (.bin .sub 56 59), oM 11 60] [0, 1, 2, 3, 8, 9, 10, 11])
 (.reg 14 [oM 12 (cI 1)] [0, 1, 2, 3, 8, 9, 10, 11, 12])))
 .skip))
 (.seq
 (.seq
 (.reg 15 [oM 61 8, oM 62 61, gQ 63 62 true (.mov 9), oQ 64 (.pick 62 63 (cB false)), oM 65 64, gQ 66 65 true (.mov 12), gQ 67 65 true (.bin .eql 66 (cI 1)), oQ 68 (.pick 65 67 (cB false))] [0, 1, 2, 3, 8, 9, 10, 11, 68])
 (.cond 68
 (.seq
 (.reg 16 [oM 69 0, oM 70 1, oM 71 2, oK 72 (.call 259 [69, 70, 71])] [0, 1, 2, 3, 8, 9, 10, 11, 72])
 (.cond 72
 .ret
 .skip))
 .skip))
 (.seq
 (.seq
 (.dreg 17 [oM 73 1, oQ 74 (.bin .gtr 73 (cI 0)), oM 75 74, gQ 76 75 true (.mov 0), gQ 77 75 true (.mov 1), gQ 78 75 true (.bin .sub 77 (cI 1)), gQ 79 75 true (.iaddr 1 76 78), gQ 80 75 true (.load none 79), gQ 81 75 true (.mov 0), gQ 82 75 true (.mov 11), gQ 83 75 true (.iaddr 1 81 82), gQ 84 75 true (.load none 83), gK 85 75 true (.call 260 [80, 84]), gQ 86 75 true (.not 85), oQ 87 (.pick 75 86 (cB false))] false [0, 1, 2, 3, 8, 9, 10, 11, 87])
 (.cond 87
 (.seq
 (.reg 18 [oM 88 0, oM 89 1, oM 90 2, oM 91 11, oK 92 (.call 261 [88, 89, 90, 91]), oM 13 92] [0, 2, 3, 8, 9, 13])
 (.seq
 (.reg 19 [oM 93 13, oM 1 93] [0, 1, 2, 3, 8, 9])
 (.exit 1)))
 .skip))
 (.seq
 (.reg 20 [oM 95 0, oM 96 1, oM 97 2, oM 98 11, oK 99 (.call 262 [95, 96, 97, 98]), oM 94 99, oQ 100 (.ext 0 94), oQ 101 (.ext 1 94), oM 14 100, oM 15 101] [0, 1, 2, 3, 10, 14, 15])
 (.seq
 (.reg 21 [oM 102 15, oM 9 102] [0, 1, 2, 3, 9, 10, 14])
 (.seq
 (.reg 22 [oM 103 14, oM 104 1, oQ 105 (.bin .sub 103 104), oM 106 2, oM 107 14, oQ 108 (.bin .sub 106 107), oM 16 105, oM 17 108] [0, 1, 2, 3, 9, 10, 14, 16, 17])
 (.seq
 (.reg 23 [oM 109 10, oQ 110 (.bin .quo 109 (cI 8)), oM 18 110] [0, 1, 2, 3, 9, 14, 16, 17, 18])
 (.seq
 (.reg 24 [oM 111 16, oM 112 17, oQ 113 (.bin .lss 111 112)] [0, 1, 2, 3, 9, 14, 16, 17, 18, 113])
 (.cond 113
 (.seq
 (.reg 25 [oM 114 16, oM 115 18, oQ 116 (.bin .geq 114 115), oM 8 116] [0, 1, 2, 3, 8, 9, 14])
 (.seq
 (.reg 26 [oM 117 0, oM 118 1, oM 119 14, oM 120 3, oK 121 (.call 214 [117, 118, 119, 120])] [0, 2, 3, 8, 9, 14])
 (.reg 27 [oM 122 14, oQ 123 (.bin .add 122 (cI 1)), oM 1 123] [0, 1, 2, 3, 8, 9])))
 (.seq
 (.reg 28 [oM 124 17, oM 125 18, oQ 126 (.bin .geq 124 125), oM 8 126] [0, 1, 2, 3, 8, 9, 14])
 (.seq
 (.reg 29 [oM 127 0, oM 128 14, oQ 129 (.bin .add 128 (cI 1)), oM 130 2, oM 131 3, oK 132 (.call 214 [127, 129, 130, 131])] [0, 1, 3, 8, 9, 14])
 (.reg 30 [oM 133 14, oM 2 133] [0, 1, 2, 3, 8, 9]))))))))))))))))))))))
theorem fok214 : FOK Tryz.prog 214 (134, ic214, []) := fokA [2000000] Tryz.func214 (by kernel_rfl) (by kernel_rfl) (by kernel_rfl) (by kernel_rfl)
def ic215 : IC :=
 (.seq
 (.reg 0 [oM 2 (cI 0)] [0])
 (.seq
 (.cond (cB false)
 (.seq
 (.reg 1 [oM 3 0, oQ 4 (.conv .u32 3), oK 5 (.call 263 [4]), oM 2 5] [2])
 .ret)
 .skip)
 (.seq
 (.reg 2 [oM 6 0, oK 7 (.call 264 [6]), oM 2 7] [2])
 .ret)))
theorem fok215 : FOK Tryz.prog 215 (8, ic215, [(.t 2)]) := fokA [2000000] Tryz.func215 (by kernel_rfl) (by kernel_rfl) (by kernel_rfl) (by kernel_rfl)
def ic216 : IC :=
 (.seq
 (.reg 0 [oK 3 (.boxt 0), oM 5 (cB false)] [2, 3])
 (.seq
 (.reg 1 [oQ 6 (.load (some 15) 3), oQ 7 (.load (some 5) 2), oK 8 (.call 217 [6, 7]), oM 5 8] [5])
 .ret))
theorem fok216 : FOK Tryz.prog 216 (9, ic216, [(.t 5)]) := fokA [1000003, 2000000] Tryz.func216 (by kernel_rfl) (by kernel_rfl) (by kernel_rfl) (by kernel_rfl)
def ic217 : IC :=
 (.seq
 (.reg 0 [oK 2 (.boxt 0), oK 3 (.boxt 1), oM 4 (cB false)] [2, 3])
 (.seq
 (.seq
 (.reg 1 [oQ 5 (.load (some 15) 2), oQ 6 (.load (some 5) 3), oK 7 (.call 157 [5, 6]), oM 8 7, gQ 9 8 false (.faddr 6 2), gQ 10 8 false (.load none 9), gQ 11 8 false (.mkf 265 [] [3]), gK 12 8 false (.call 225 [10, 11]), oQ 13 (.pick 8 (cB true) 12)] [2, 3, 13])
 (.cond 13
 (.seq
 (.reg 2 [oM 4 (cB true)] [4])
 .ret)
 .skip))
 (.seq
 (.reg 3 [oQ 14 (.faddr 1 3), oQ 15 (.load none 14), oQ 16 (.bin .eql 15 (.c (zU 0))), oM 17 16, gQ 18 17 true (.faddr 14 2), gQ 19 17 true (.load none 18), gQ 20 17 true (.faddr 0 3), gQ 21 17 true (.load none 20), gK 22 17 true (.call 266 [19, 21]), oQ 23 (.pick 17 22 (cB false)), oM 4 23] [4])
 .ret)))
theorem fok217 : FOK Tryz.prog 217 (24, ic217, [(.t 4)]) := fokA [1000002, 1000003, 2000000] Tryz.func217 (by kernel_rfl) (by kernel_rfl) (by kernel_rfl) (by kernel_rfl)
def ic218 : IC :=
 (.seq
 (.reg 0 [oM 4 (.c (.int .u64 0)), oM 5 (.c (.int .u64 0))] [0, 1])
 (.seq
 (.cond (cB false)
 (.seq
 (.reg 1 [oM 11 0, oQ 12 (.conv .u32 11), oM 13 1, oQ 14 (.conv .u32 13), oK 15 (.call 267 [12, 14]), oM 10 15, oQ 16 (.ext 0 10), oQ 17 (.ext 1 10), oM 6 16, oM 7 17] [6, 7])
 (.seq
 (.reg 2 [oM 18 6, oQ 19 (.conv .u64 18), oM 20 7, oQ 21 (.conv .u64 20), oM 4 19, oM 5 21] [4, 5])
 .ret))
 .skip)
 (.seq
 (.reg 3 [oM 23 0, oM 24 1, oK 25 (.call 268 [23, 24]), oM 22 25, oQ 26 (.ext 0 22), oQ 27 (.ext 1 22), oM 8 26, oM 9 27] [8, 9])
 (.seq
 (.reg 4 [oM 28 8, oM 29 9, oM 4 28, oM 5 29] [4, 5])
 .ret))))
theorem fok218 : FOK Tryz.prog 218 (30, ic218, [(.t 4), (.t 5)]) := fokA [2000000] Tryz.func218 (by kernel_rfl) (by kernel_rfl) (by kernel_rfl) (by kernel_rfl)
def ic219 : IC :=
 (.seq
 (.reg 0 [oM 4 (cI 0)] [0, 1])
 (.seq
 (.seq
 (.reg 1 [oM 5 0, oM 6 1, oK 7 (.call 63 [5, 6]), oQ 8 (.bin .geq 7 (cI 0))] [0, 1, 8])
 (.cond 8
 (.seq
 (.reg 2 [oM 9 0, oQ 10 (.nchk 9), oQ 11 (.faddr 0 10), oQ 12 (.faddr 0 11), oQ 13 (.load none 12), oK 14 (.call 107 [13]), oQ 15 (.bin .add 14 (cI 1)), oM 4 15] [4])
 .ret)
 .skip))
 (.seq
 (.reg 3 [oM 16 0, oQ 17 (.nchk 16), oQ 18 (.faddr 0 17), oQ 19 (.faddr 0 18), oQ 20 (.load none 19), oM 21 1, oM 22 1, oQ 23 (.neg 22), oQ 24 (.mm true 21 23), oQ 25 (.bin .sub 24 (cI 1)), oK 26 (.call 115 [20, 25]), oM 4 26] [4])
 .ret)))
theorem fok219 : FOK Tryz.prog 219 (27, ic219, [(.t 4)]) := fokA [2000000] Tryz.func219 (by kernel_rfl) (by kernel_rfl) (by kernel_rfl) (by kernel_rfl)
def ic220 : IC :=
 (.seq
 (.reg 0 [oM 3 (cB false)] [0, 1])
 (.seq
 (.reg 1 [oQ 4 (.load none 1), oM 5 0, oK 6 (.call 63 [4, 5]), oQ 7 (.bin .eql 6 (cI 1)), oM 3 7] [3])
 .ret))
theorem fok220 : FOK Tryz.prog 220 (8, ic220, [(.t 3)]) := fokA [2000000] Tryz.func220 (by kernel_rfl) (by kernel_rfl) (by kernel_rfl) (by kernel_rfl)
def ic221 : IC :=
 (.seq
 (.reg 0 [oM 6 (cI 0)] [0, 1, 2])
 (.seq
 (.block 0
 (.seq
 (.reg 1 [oM 9 0, oQ 10 (.isnil (.pointer 252) false 9), oM 8 10] [0, 1, 2, 8])
 (.cond 8
 (.seq
 (.reg 2 [oM 6 (cI 2)] [6])
 .ret)
 (.seq
 (.reg 3 [oM 12 2, oQ 13 (.bin .lss 12 (cI 0)), oM 11 13] [0, 1, 2, 11])
 (.cond 11
 (.seq
 (.reg 4 [oM 6 (cI 1)] [6])
 .ret)
 .skip)))))
 (.seq
 (.seq
 (.reg 5 [oM 14 0, oM 15 1, oK 16 (.call 173 [14, 15]), oM 7 16] [0, 1, 2, 7])
 (.seq
 (.reg 6 [oM 17 7, oQ 18 (.bin .neq 17 (cI 0))] [0, 1, 2, 7, 18])
 (.cond 18
 (.seq
 (.reg 7 [oM 19 7, oM 6 19] [6])
 .ret)
 .skip)))
 (.seq
 (.reg 8 [oM 20 0, oM 21 1, oM 22 2, oK 23 (.call 174 [20, 21, 22])] [])
 (.seq
 (.reg 9 [oM 6 (cI 0)] [6])
 .ret)))))
theorem fok221 : FOK Tryz.prog 221 (24, ic221, [(.t 6)]) := fokA [2000000] Tryz.func221 (by kernel_rfl) (by kernel_rfl) (by kernel_rfl) (by kernel_rfl)
def ic222 : IC :=
 (.seq
 (.reg 0 [oM 3 (cB false)] [0, 1])
 (.seq
 (.reg 1 [oQ 4 (.load none 1), oM 5 0, oK 6 (.call 63 [4, 5]), oQ 7 (.bin .geq 6 (cI 0)), oM 3 7] [3])
 .ret))
theorem fok222 : FOK Tryz.prog 222 (8, ic222, [(.t 3)]) := fokA [2000000] Tryz.func222 (by kernel_rfl) (by kernel_rfl) (by kernel_rfl) (by kernel_rfl)
def ic223 : IC :=
 (.seq
 (.reg 0 [oM 3 (cB false)] [0, 1])
 (.seq
 (.reg 1 [oM 4 0, oQ 5 (.bin .eql 4 (cI 0)), oM 6 5, gQ 7 6 false (.mov 0), gQ 8 6 false (.load none 1), gQ 9 6 false (.nchk 8), gQ 10 6 false (.faddr 0 9), gQ 11 6 false (.load none 10), gK 12 6 false (.call 107 [11]), gQ 13 6 false (.bin .gtr 7 12), oQ 14 (.pick 6 (cB true) 13), oM 15 14, gQ 16 15 false (.mov 0), gQ 17 15 false (.load none 1), gQ 18 15 false (.nchk 17), gQ 19 15 false (.faddr 0 18), gQ 20 15 false (.load none 19), gK 21 15 false (.call 107 [20]), gQ 22 15 false (.neg 21), gQ 23 15 false (.bin .lss 16 22), oQ 24 (.pick 15 (cB true) 23), oM 3 24] [3])
 .ret))
theorem fok223 : FOK Tryz.prog 223 (25, ic223, [(.t 3)]) := fokA [2000000] Tryz.func223 (by kernel_rfl) (by kernel_rfl) (by kernel_rfl) (by kernel_rfl)
def ic224 : IC :=
(.seq
 (.reg 0 [⟨(some 0), none, (.alloc [(.str []), (.str []), (.str []), (.str []), (.str [])])⟩] [0])
 (.seq
  (.reg 1 [⟨(some 1), none, (.q (.bld [(.str []), (.str []), (.str []), (.str []), (.str [])] [⟨1, ⟨1, (.c (.str [110, 111, 97, 114, 99, 104]))⟩⟩, ⟨2, ⟨1, (.c (.str [120, 56, 54, 95, 54, 52]))⟩⟩, ⟨3, ⟨1, (.c (.str [105, 54, 56, 54]))⟩⟩, ⟨4, ⟨1, (.c (.str [97, 97, 114, 99, 104, 54, 52]))⟩⟩]))⟩, ⟨none, none, (.store 5 (.t 0) (.t 1))⟩] [0])
  .ret))
theorem fok224 : FOK Tryz.prog 224 (2, ic224, [(.cell (some 5) 0)]) := .mk (pf := []) (an := [(0, [0]), (1, [0])]) (by kernel_rfl) (fnOK_of Tryz.func224 (by kernel_rfl) (by kernel_rfl) (by kernel_rfl))
def ic225 : IC :=
(.seq
 (.reg 0 [⟨(some 4), none, (.q (.mov (.c (.bool false))))⟩] [0, 1])
 (.seq
  (.reg 1 [⟨(some 5), none, (.q (.mov (.t 0)))⟩, ⟨(some 6), none, (.q (.mov (.t 1)))⟩, ⟨(some 7), none, (.call 269 [(.t 5), (.t 6)])⟩, ⟨(some 8), none, (.q (.bin .geq (.t 7) (.c (.int .i64 0))))⟩, ⟨(some 4), none, (.q (.mov (.t 8)))⟩] [4])
  .ret))
theorem fok225 : FOK Tryz.prog 225 (9, ic225, [(.t 4)]) := .mk (pf := []) (an := [(0, [0, 1]), (1, [4])]) (by kernel_rfl) (fnOK_of Tryz.func225 (by kernel_rfl) (by kernel_rfl) (by kernel_rfl))
def ic226 : IC :=
(.seq
 (.reg 0 [⟨(some 2), none, (.boxt (.t 0))⟩, ⟨(some 3), none, (.q (.mov (.c (.bool false))))⟩] [1, 2])
 (.seq
  (.reg 1 [⟨(some 4), none, (.q (.load none (.t 1)))⟩, ⟨(some 5), none, (.q (.load (some 5) (.t 2)))⟩, ⟨(some 6), none, (.callv (.t 4) [(.t 5)])⟩, ⟨(some 7), none, (.q (.not (.t 6)))⟩, ⟨(some 3), none, (.q (.mov (.t 7)))⟩] [3])
  .ret))
theorem fok226 : FOK Tryz.prog 226 (8, ic226, [(.t 3)]) := .mk (pf := [1000002]) (an := [(0, [1, 2]), (1, [3])]) (by kernel_rfl) (fnOK_of Tryz.func226 (by kernel_rfl) (by kernel_rfl) (by kernel_rfl))
def ic227 : IC :=
(.seq
 (.reg 0 [⟨(some 4), none, (.q (.mov (.c (.bool false))))⟩] [0, 1])
 (.seq
  (.reg 1 [⟨(some 5), none, (.q (.mov (.t 0)))⟩, ⟨(some 6), none, (.q (.mov (.t 1)))⟩, ⟨(some 7), none, (.call 270 [(.t 5), (.t 6)])⟩, ⟨(some 8), none, (.q (.bin .geq (.t 7) (.c (.int .i64 0))))⟩, ⟨(some 4), none, (.q (.mov (.t 8)))⟩] [4])
  .ret))
theorem fok227 : FOK Tryz.prog 227 (9, ic227, [(.t 4)]) := .mk (pf := []) (an := [(0, [0, 1]), (1, [4])]) (by kernel_rfl) (fnOK_of Tryz.func227 (by kernel_rfl) (by kernel_rfl) (by kernel_rfl))
def ic228 : IC :=
(.seq
 (.reg 0 [⟨(some 3), none, (.q (.mov (.c (.bool false))))⟩] [0, 1])
 (.seq
  (.reg 1 [⟨(some 4), none, (.q (.load none (.t 1)))⟩, ⟨(some 5), none, (.q (.mov (.t 0)))⟩, ⟨(some 6), none, (.callv (.t 4) [(.t 5)])⟩, ⟨(some 7), none, (.q (.not (.t 6)))⟩, ⟨(some 3), none, (.q (.mov (.t 7)))⟩] [3])
  .ret))
theorem fok228 : FOK Tryz.prog 228 (8, ic228, [(.t 3)]) := .mk (pf := []) (an := [(0, [0, 1]), (1, [3])]) (by kernel_rfl) (fnOK_of Tryz.func228 (by kernel_rfl) (by kernel_rfl) (by kernel_rfl))
def ic229 : IC :=
(.reg 0 [⟨(some 3), none, (.q (.mov (.t 0)))⟩, ⟨(some 4), none, (.q (.faddr 7 (.t 1)))⟩, ⟨(some 5), none, (.q (.load none (.t 4)))⟩, ⟨(some 6), none, (.callv (.t 3) [(.c (.int .u8 1)), (.t 5)])⟩, ⟨(some 7), none, (.q (.mov (.t 6)))⟩, ⟨(some 8), (some ⟨7, true⟩), (.q (.mov (.t 0)))⟩, ⟨(some 9), (some ⟨7, true⟩), (.q (.faddr 8 (.t 1)))⟩, ⟨(some 10), (some ⟨7, true⟩), (.q (.load none (.t 9)))⟩, ⟨(some 11), (some ⟨7, true⟩), (.callv (.t 8) [(.c (.int .u8 2)), (.t 10)])⟩, ⟨(some 12), none, (.q (.pick (.t 7) (.t 11) (.c (.bool false))))⟩, ⟨(some 13), none, (.q (.mov (.t 12)))⟩, ⟨(some 14), (some ⟨13, true⟩), (.q (.mov (.t 0)))⟩, ⟨(some 15), (some ⟨13, true⟩), (.q (.faddr 10 (.t 1)))⟩, ⟨(some 16), (some ⟨13, true⟩), (.q (.load none (.t 15)))⟩, ⟨(some 17), (some ⟨13, true⟩), (.callv (.t 14) [(.c (.int .u8 1)), (.t 16)])⟩, ⟨(some 18), none, (.q (.pick (.t 13) (.t 17) (.c (.bool false))))⟩, ⟨(some 19), none, (.q (.mov (.t 18)))⟩, ⟨(some 20), (some ⟨19, true⟩), (.q (.mov (.t 0)))⟩, ⟨(some 21), (some ⟨19, true⟩), (.q (.faddr 11 (.t 1)))⟩, ⟨(some 22), (some ⟨19, true⟩), (.q (.load none (.t 21)))⟩, ⟨(some 23), (some ⟨19, true⟩), (.callv (.t 20) [(.c (.int .u8 3)), (.t 22)])⟩, ⟨(some 24), none, (.q (.pick (.t 19) (.t 23) (.c (.bool false))))⟩, ⟨(some 25), none, (.q (.mov (.t 24)))⟩, ⟨(some 26), (some ⟨25, true⟩), (.q (.mov (.t 0)))⟩, ⟨(some 27), (some ⟨25, true⟩), (.q (.faddr 12 (.t 1)))⟩, ⟨(some 28), (some ⟨25, true⟩), (.q (.load none (.t 27)))⟩, ⟨(some 29), (some ⟨25, true⟩), (.callv (.t 26) [(.c (.int .u8 1)), (.t 28)])⟩, ⟨(some 30), none, (.q (.pick (.t 25) (.t 29) (.c (.bool false))))⟩, ⟨(some 31), none, (.q (.mov (.t 30)))⟩, ⟨(some 32), (some ⟨31, true⟩), (.q (.mov (.t 0)))⟩, ⟨(some 33), (some ⟨31, true⟩), (.q (.faddr 13 (.t 1)))⟩, ⟨(some 34), (some ⟨31, true⟩), (.q (.load none (.t 33)))⟩, ⟨(some 35), (some ⟨31, true⟩), (.callv (.t 32) [(.c (.int .u8 3)), (.t 34)])⟩, ⟨(some 36), none, (.q (.pick (.t 31) (.t 35) (.c (.bool false))))⟩] [])
theorem fok229 : FOK Tryz.prog 229 (37, ic229, []) := .mk (pf := []) (an := []) (by kernel_rfl) (fnOK_of Tryz.func229 (by kernel_rfl) (by kernel_rfl) (by kernel_rfl))
def ic230 : IC :=
(.seq
 (.reg 0 [⟨(some 4), none, (.q (.mov (.c (.bool false))))⟩] [0, 1])
 (.seq
  (.reg 1 [⟨(some 5), none, (.q (.mov (.t 0)))⟩, ⟨(some 6), none, (.q (.mov (.t 1)))⟩, ⟨(some 7), none, (.call 271 [(.t 5), (.t 6)])⟩, ⟨(some 8), none, (.q (.bin .geq (.t 7) (.c (.int .i64 0))))⟩, ⟨(some 4), none, (.q (.mov (.t 8)))⟩] [4])
  .ret))
theorem fok230 : FOK Tryz.prog 230 (9, ic230, [(.t 4)]) := .mk (pf := []) (an := [(0, [0, 1]), (1, [4])]) (by kernel_rfl) (fnOK_of Tryz.func230 (by kernel_rfl) (by kernel_rfl) (by kernel_rfl))
def ic231 : IC :=
(.seq
 (.reg 0 [⟨(some 2), none, (.boxt (.t 0))⟩, ⟨(some 3), none, (.q (.mov (.c (.bool false))))⟩] [1, 2])
 (.seq
  (.reg 1 [⟨(some 4), none, (.q (.load none (.t 1)))⟩, ⟨(some 5), none, (.q (.load (some 7) (.t 2)))⟩, ⟨(some 6), none, (.callv (.t 4) [(.t 5)])⟩, ⟨(some 7), none, (.q (.not (.t 6)))⟩, ⟨(some 3), none, (.q (.mov (.t 7)))⟩] [3])
  .ret))
theorem fok231 : FOK Tryz.prog 231 (8, ic231, [(.t 3)]) := .mk (pf := [1000002]) (an := [(0, [1, 2]), (1, [3])]) (by kernel_rfl) (fnOK_of Tryz.func231 (by kernel_rfl) (by kernel_rfl) (by kernel_rfl))
def ic232 : IC :=
(.seq
 (.reg 0 [⟨(some 4), none, (.q (.mov (.c (.int .i64 0))))⟩] [0, 1])
 (.seq
  (.reg 1 [⟨(some 5), none, (.q (.mov (.t 0)))⟩, ⟨(some 6), none, (.q (.mov (.t 1)))⟩, ⟨(some 7), none, (.q (.ibs (.t 5) (.t 6)))⟩, ⟨(some 4), none, (.q (.mov (.t 7)))⟩] [4])
  .ret))
theorem fok232 : FOK Tryz.prog 232 (8, ic232, [(.t 4)]) := .mk (pf := []) (an := [(0, [0, 1]), (1, [4])]) (by kernel_rfl) (fnOK_of Tryz.func232 (by kernel_rfl) (by kernel_rfl) (by kernel_rfl))
def ic233 : IC :=
(.seq
 (.reg 0 [⟨(some 4), none, (.q (.mov (.c (.bool false))))⟩] [0, 1])
 (.seq
  (.reg 1 [⟨(some 5), none, (.q (.mov (.t 0)))⟩, ⟨(some 6), none, (.q (.len 1 (.t 5)))⟩, ⟨(some 7), none, (.q (.mov (.t 1)))⟩, ⟨(some 8), none, (.q (.len 1 (.t 7)))⟩, ⟨(some 9), none, (.q (.bin .geq (.t 6) (.t 8)))⟩, ⟨(some 10), none, (.q (.mov (.t 9)))⟩, ⟨(some 11), (some ⟨10, true⟩), (.q (.mov (.t 0)))⟩, ⟨(some 12), (some ⟨10, true⟩), (.q (.mov (.t 1)))⟩, ⟨(some 13), (some ⟨10, true⟩), (.q (.len 1 (.t 12)))⟩, ⟨(some 14), (some ⟨10, true⟩), (.q (.sstr (.t 11) none (some (.t 13))))⟩, ⟨(some 15), (some ⟨10, true⟩), (.q (.mov (.t 1)))⟩, ⟨(some 16), (some ⟨10, true⟩), (.q (.bin .eql (.t 14) (.t 15)))⟩, ⟨(some 17), none, (.q (.pick (.t 10) (.t 16) (.c (.bool false))))⟩, ⟨(some 4), none, (.q (.mov (.t 17)))⟩] [4])
  .ret))
theorem fok233 : FOK Tryz.prog 233 (18, ic233, [(.t 4)]) := .mk (pf := []) (an := [(0, [0, 1]), (1, [4])]) (by kernel_rfl) (fnOK_of Tryz.func233 (by kernel_rfl) (by kernel_rfl) (by kernel_rfl))
def ic237 : IC :=
 (.seq
 (.reg 0 [oK 0 (.alloc [(zI 0), (zI 0), (zI 0), (zI 0), (zI 0), (zI 0), (zI 0), (zI 0), (zI 0), (zI 0), (zI 0), (zI 0), (zI 0), (zI 0), (zI 0), (zI 0), (zI 0), (zI 0), (zI 0), (zI 0), (zI 0), (zI 0), (zI 0), (zI 0), (zI 0)])] [0])
 (.seq
 (.reg 1 [oQ 1 (.bld [(zI 0), (zI 0), (zI 0), (zI 0), (zI 0)] [⟨1, ⟨1, (cI 2)⟩⟩, ⟨2, ⟨1, (cI 1)⟩⟩, ⟨3, ⟨1, (cI 3)⟩⟩]), oQ 2 (.bld [(zI 0), (zI 0), (zI 0), (zI 0), (zI 0)] [⟨1, ⟨1, (cI 2)⟩⟩, ⟨3, ⟨1, (cI 1)⟩⟩]), oQ 3 (.bld [(zI 0), (zI 0), (zI 0), (zI 0), (zI 0)] [⟨1, ⟨1, (cI 2)⟩⟩, ⟨4, ⟨1, (cI 1)⟩⟩]), oQ 4 (.bld [(zI 0), (zI 0), (zI 0), (zI 0), (zI 0), (zI 0), (zI 0), (zI 0), (zI 0), (zI 0), (zI 0), (zI 0), (zI 0), (zI 0), (zI 0), (zI 0), (zI 0), (zI 0), (zI 0), (zI 0), (zI 0), (zI 0), (zI 0), (zI 0), (zI 0)] [⟨10, ⟨5, 1⟩⟩, ⟨15, ⟨5, 2⟩⟩, ⟨20, ⟨5, 3⟩⟩]), oN (.store 25 0 4)] [0])
 .ret))
theorem fok237 : FOK Tryz.prog 237 (5, ic237, [(.cell (some 25) 0)]) := fokA [2000000] Tryz.func237 (by kernel_rfl) (by kernel_rfl) (by kernel_rfl) (by kernel_rfl)
def ic238 : IC :=
 (.seq
 (.reg 0 [oM 2 (cB false)] [0])
 (.seq
 (.reg 1 [oM 3 0, oM 4 0, oQ 5 (.bin .neq 3 4), oM 2 5] [2])
 .ret))
theorem fok238 : FOK Tryz.prog 238 (6, ic238, [(.t 2)]) := fokA [2000000] Tryz.func238 (by kernel_rfl) (by kernel_rfl) (by kernel_rfl) (by kernel_rfl)
def ic239 : IC :=
 (.seq
 (.reg 0 [oM 2 (.c .nilslice)] [0, 2])
 (.seq
 (.reg 1 [oK 3 (.alloc [.nilslice])] [0, 2, 3])
 (.seq
 (.seq
 (.reg 2 [oM 5 0, oK 6 (.call 275 [5])] [2, 3, 6])
 (.block 0
 (.rfunc 6 [7]
 (.reg 3 [oK 4 (.alloc [(zU 0), (.str [])]), oN (.store 2 4 7)] [3, 4])
 (.block 1
 (.reg 4 [oQ 8 (.load none 3), oQ 9 (.load (some 2) 4), oK 10 (.bslt 2 1 [(zU 0), (.str [])] [⟨0, ⟨2, 9⟩⟩]), oK 11 (.app 2 8 10), oN (.store 1 3 11)] [])))))
 (.seq
 (.reg 5 [oQ 12 (.load none 3), oM 2 12] [2])
 .ret))))
theorem fok239 : FOK Tryz.prog 239 (13, ic239, [(.t 2)]) := fokA [1000010, 2000000] Tryz.func239 (by kernel_rfl) (by kernel_rfl) (by kernel_rfl) (by kernel_rfl)
def ic240 : IC :=
 (.seq
 (.reg 0 [oK 2 (.boxt 0), oK 3 (.boxt 1), oM 4 (cI 0)] [2, 3])
 (.seq
 (.reg 1 [oM 5 (cI 0)] [2, 3, 5])
 (.seq
 (.seq
 (.reg 2 [oQ 6 (.faddr 0 2), oQ 7 (.load none 6), oQ 8 (.bin .eql 7 (.c (zU 5))), oM 9 8, gQ 10 9 true (.faddr 0 3), gQ 11 9 true (.load none 10), gQ 12 9 true (.bin .eql 11 (.c (zU 5))), oQ 13 (.pick 9 12 (cB false))] [2, 3, 5, 13])
 (.cond 13
 (.reg 3 [oQ 14 (.faddr 1 2), oQ 15 (.load none 14), oQ 16 (.len 1 15), oQ 17 (.faddr 1 3), oQ 18 (.load none 17), oQ 19 (.len 1 18), oK 20 (.call 195 [16, 19]), oM 5 20] [2, 3, 5])
 .skip))
 (.seq
 (.oreg 4 [(0, oQ 21 (.faddr 0 2), 0), (1, oQ 22 (.load none 21), 0), (2, oQ 23 (.faddr 0 3), 0), (3, oQ 24 (.load none 23), 0), (5, oM 26 5, 0), (6, oQ 27 (.faddr 1 2), 0), (7, oQ 28 (.load none 27), 0), (8, oQ 29 (.faddr 1 3), 0), (9, oQ 30 (.load none 29), 0), (4, oK 25 (.call 277 [22, 24]), 640), (10, oK 31 (.call 278 [28, 30]), 0), (11, oK 32 (.bslt 1 3 [(zI 0)] [⟨0, ⟨1, 25⟩⟩, ⟨1, ⟨1, 26⟩⟩, ⟨2, ⟨1, 31⟩⟩]), 0), (12, oK 33 (.call 276 [32]), 0), (13, oM 4 33, 0)] [4])
 .ret))))
theorem fok240 : FOK Tryz.prog 240 (34, ic240, [(.t 4)]) := fokA [1000002, 1000003, 1000032, 2000000] Tryz.func240 (by kernel_rfl) (by kernel_rfl) (by kernel_rfl) (by kernel_rfl)
def ic241 : IC :=
 (.seq
 (.reg 0 [oK 3 (.boxt 1), oM 4 (cI 0)] [0, 3])
 (.seq
 (.seq
 (.reg 1 [oM 6 0, oQ 7 (.len 0 6), oM 8 (cI 0)] [0, 3, 7, 8])
 (.block 0
 (.loop
 (.seq
 (.reg 2 [oQ 9 (.bin .lss 8 7)] [0, 3, 7, 8, 9])
 (.seq
 (.cond 9
 .skip
 (.exit 0))
 (.seq
 (.block 1
 (.seq
 (.reg 3 [oM 10 8, oM 5 10] [0, 3, 5, 7, 8])
 (.seq
 (.dreg 4 [oQ 11 (.load (some 2) 3), oM 12 0, oM 13 5, oQ 14 (.iaddr 2 12 13), oQ 15 (.load (some 2) 14), oQ 16 (.eqs [1, 1] true false 11 15)] false [0, 3, 5, 7, 8, 16])
 (.cond 16
 (.seq
 (.reg 5 [oM 17 5, oM 4 17] [4])
 .ret)
 .skip))))
 (.reg 6 [oQ 18 (.bin .add 8 (cI 1)), oM 8 18] [0, 3, 7, 8])))))))
 (.seq
 (.reg 7 [oM 4 (cI (-1))] [4])
 .ret)))
theorem fok241 : FOK Tryz.prog 241 (19, ic241, [(.t 4)]) := fokA [1000003, 2000000] Tryz.func241 (by kernel_rfl) (by kernel_rfl) (by kernel_rfl) (by kernel_rfl)
def ic242 : IC :=
(.seq
 (.reg 0 [⟨(some 4), none, (.boxt (.t 0))⟩, ⟨(some 7), none, (.q (.mov (.c (.bool false))))⟩] [1, 2, 3, 4])
 (.seq
  (.seq
   (.reg 1 [⟨(some 10), none, (.q (.mov (.t 2)))⟩, ⟨(some 11), none, (.q (.load (some 7) (.t 4)))⟩, ⟨(some 12), none, (.q (.mov (.t 1)))⟩, ⟨(some 13), none, (.callv (.t 10) [(.t 11), (.t 12)])⟩, ⟨(some 14), none, (.q (.not (.t 13)))⟩] [1, 2, 3, 4, 14])
   (.cond (.t 14)
    (.seq
     (.reg 2 [⟨(some 7), none, (.q (.mov (.c (.bool false))))⟩] [7])
     .ret)
    .skip))
  (.seq
   (.reg 3 [⟨(some 15), none, (.q (.mov (.t 1)))⟩, ⟨(some 16), none, (.q (.mov (.t 15)))⟩, ⟨(some 17), (some ⟨16, false⟩), (.q (.faddr 0 (.t 4)))⟩, ⟨(some 18), (some ⟨16, false⟩), (.q (.load none (.t 17)))⟩, ⟨(some 19), (some ⟨16, false⟩), (.q (.bin .eql (.t 18) (.c (.int .u8 6))))⟩, ⟨(some 20), none, (.q (.pick (.t 16) (.c (.bool true)) (.t 19)))⟩, ⟨(some 21), none, (.q (.mov (.t 20)))⟩, ⟨(some 22), (some ⟨21, false⟩), (.q (.faddr 0 (.t 4)))⟩, ⟨(some 23), (some ⟨21, false⟩), (.q (.load none (.t 22)))⟩, ⟨(some 24), (some ⟨21, false⟩), (.q (.bin .eql (.t 23) (.c (.int .u8 7))))⟩, ⟨(some 25), none, (.q (.pick (.t 21) (.c (.bool true)) (.t 24)))⟩, ⟨(some 1), none, (.q (.mov (.t 25)))⟩] [1, 2, 3, 4])
   (.seq
    (.seq
     (.reg 4 [⟨(some 26), none, (.q (.faddr 6 (.t 4)))⟩, ⟨(some 27), none, (.q (.load none (.t 26)))⟩, ⟨(some 28), none, (.q (.len 0 (.t 27)))⟩, ⟨(some 29), none, (.q (.mov (.c (.int .i64 0))))⟩] [1, 2, 3, 27, 28, 29])
     (.block 0
      (.loop
       (.seq
        (.reg 5 [⟨(some 30), none, (.q (.bin .lss (.t 29) (.t 28)))⟩] [1, 2, 3, 27, 28, 29, 30])
        (.seq
         (.cond (.t 30)
          .skip
          (.exit 0))
         (.seq
          (.block 1
           (.seq
            (.reg 6 [⟨(some 31), none, (.q (.iaddr 7 (.t 27) (.t 29)))⟩, ⟨(some 32), none, (.q (.load (some 7) (.t 31)))⟩, ⟨(some 9), none, (.alloc [(.int .u8 0), (.str []), (.int .u8 0), (.int .i64 0), (.str []), (.str []), .nilslice])⟩, ⟨none, none, (.store 7 (.t 9) (.t 32))⟩] [1, 2, 3, 9, 27, 28, 29])
            (.seq
            (.reg 7 [⟨(some 33), none, (.q (.load none (.t 3)))⟩, ⟨(some 34), none, (.q (.load (some 7) (.t 9)))⟩, ⟨(some 35), none, (.q (.mov (.t 1)))⟩, ⟨(some 36), none, (.q (.mov (.t 2)))⟩, ⟨(some 37), none, (.callv (.t 33) [(.t 34), (.t 35), (.t 36)])⟩, ⟨(some 38), none, (.q (.not (.t 37)))⟩] [1, 2, 3, 27, 28, 29, 38])
            (.cond (.t 38)
            (.seq
            (.reg 8 [⟨(some 7), none, (.q (.mov (.c (.bool false))))⟩] [7])
            .ret)
            .skip))))
          (.reg 9 [⟨(some 39), none, (.q (.bin .add (.t 29) (.c (.int .i64 1))))⟩, ⟨(some 29), none, (.q (.mov (.t 39)))⟩] [1, 2, 3, 27, 28, 29])))))))
    (.seq
     (.reg 10 [⟨(some 7), none, (.q (.mov (.c (.bool true))))⟩] [7])
     .ret)))))
theorem fok242 : FOK Tryz.prog 242 (40, ic242, [(.t 7)]) := .mk (pf := [1000004]) (an := [(0, [1, 2, 3, 4]), (1, [1, 2, 3, 4, 14]), (2, [7]), (3, [1, 2, 3, 4]), (4, [1, 2, 3, 27, 28, 29]), (5, [1, 2, 3, 27, 28, 29, 30]), (6, [1, 2, 3, 9, 27, 28, 29]), (7, [1, 2, 3, 27, 28, 29, 38]), (8, [7]), (9, [1, 2, 3, 27, 28, 29]), (10, [7])]) (by kernel_rfl) (fnOK_of Tryz.func242 (by kernel_rfl) (by kernel_rfl) (by kernel_rfl))
def ic243 : IC :=
(.reg 0 [⟨(some 4), none, (.q (.load none (.t 1)))⟩, ⟨(some 5), none, (.q (.load (some 7) (.t 2)))⟩, ⟨(some 6), none, (.q (.mov (.t 0)))⟩, ⟨(some 7), none, (.callv (.t 4) [(.t 5), (.c (.bool false)), (.t 6)])⟩] [])
theorem fok243 : FOK Tryz.prog 243 (8, ic243, []) := .mk (pf := []) (an := []) (by kernel_rfl) (fnOK_of Tryz.func243 (by kernel_rfl) (by kernel_rfl) (by kernel_rfl))
def ic244 : IC :=
 (.seq
 (.reg 0 [oM 4 (cI 0)] [0, 1])
 (.seq
 (.seq
 (.reg 1 [oM 14 1, oQ 15 (.len 0 14), oQ 16 (.bin .eql 15 (cI 1))] [0, 1, 16])
 (.cond 16
 (.seq
 (.reg 2 [oM 17 1, oQ 18 (.iaddr 1 17 (cI 0)), oQ 19 (.load none 18), oQ 20 (.bin .add 19 (cI 1)), oM 4 20] [4])
 .ret)
 .skip))
 (.seq
 (.reg 3 [oM 5 (.c (.str []))] [0, 1, 5])
 (.seq
 (.seq
 (.reg 4 [oM 21 1, oQ 22 (.len 0 21), oM 23 (cI 0)] [0, 1, 5, 21, 22, 23])
 (.block 0
 (.loop
 (.seq
 (.reg 5 [oQ 24 (.bin .lss 23 22)] [0, 1, 5, 21, 22, 23, 24])
 (.seq
 (.cond 24
 .skip
 (.exit 0))
 (.seq
 (.block 1
 (.seq
 (.reg 6 [oQ 25 (.iaddr 1 21 23), oQ 26 (.load none 25), oM 7 26] [0, 1, 5, 7, 21, 22, 23])
 (.reg 7 [oM 27 5, oM 28 7, oK 29 (.call 279 [28]), oQ 30 (.bin .add 29 (.c (.str [32]))), oQ 31 (.bin .add 27 30), oM 5 31] [0, 1, 5, 21, 22, 23])))
 (.reg 8 [oQ 32 (.bin .add 23 (cI 1)), oM 23 32] [0, 1, 5, 21, 22, 23])))))))
 (.seq
 (.seq
 (.reg 9 [oM 34 0, oQ 35 (.nchk 34), oQ 36 (.faddr 4 35), oQ 37 (.load none 36), oM 38 5, oQ 39 (.lkp 2 (zI 0) true 37 38), oM 33 39, oQ 40 (.ext 0 33), oQ 41 (.ext 1 33), oM 8 40, oM 9 41] [0, 1, 5, 8, 9])
 (.seq
 (.reg 10 [oM 42 9] [0, 1, 5, 8, 42])
 (.cond 42
 (.seq
 (.reg 11 [oM 43 8, oM 4 43] [4])
 .ret)
 .skip)))
 (.seq
 (.reg 12 [oM 10 (.c .nilslice)] [0, 1, 5, 10])
 (.seq
 (.seq
 (.reg 13 [oM 44 1, oQ 45 (.len 0 44), oM 46 (cI 0)] [0, 5, 10, 44, 45, 46])
 (.block 2
 (.loop
 (.seq
 (.reg 14 [oQ 47 (.bin .lss 46 45)] [0, 5, 10, 44, 45, 46, 47])
 (.seq
 (.cond 47
 .skip
 (.exit 2))
 (.seq
 (.block 3
 (.seq
 (.reg 15 [oQ 48 (.iaddr 1 44 46), oQ 49 (.load none 48), oM 12 49] [0, 5, 10, 12, 44, 45, 46])
 (.reg 16 [oM 50 10, oM 51 12, oQ 52 (.bin .add 51 (cI 1)), oK 53 (.bslt 1 1 [(zI 0)] [⟨0, ⟨1, 52⟩⟩]), oK 54 (.app 1 50 53), oM 10 54] [0, 5, 10, 44, 45, 46])))
 (.reg 17 [oQ 55 (.bin .add 46 (cI 1)), oM 46 55] [0, 5, 10, 44, 45, 46])))))))
 (.seq
 (.reg 18 [oM 56 0, oM 57 10, oK 58 (.call 248 [56, 57]), oM 13 58] [0, 5, 13])
 (.seq
 (.reg 19 [oM 59 0, oQ 60 (.nchk 59), oQ 61 (.faddr 4 60), oQ 62 (.load none 61), oM 63 5, oM 64 13, oN (.mupd 2 62 63 64)] [13])
 (.seq
 (.reg 20 [oM 65 13, oM 4 65] [4])
 .ret))))))))))
theorem fok244 : FOK Tryz.prog 244 (66, ic244, [(.t 4)]) := fokA [1000053, 2000000] Tryz.func244 (by kernel_rfl) (by kernel_rfl) (by kernel_rfl) (by kernel_rfl)
def ic245 : IC :=
 (.seq
 (.reg 0 [oK 3 (.boxt 1), oM 4 (.c .nilslice)] [0, 3])
 (.seq
 (.reg 1 [oM 5 0, oQ 6 (.mkf 280 [] [3]), oK 7 (.call 85 [5, 6]), oM 4 7] [4])
 .ret))
theorem fok245 : FOK Tryz.prog 245 (8, ic245, [(.t 4)]) := fokA [1000003, 2000000] Tryz.func245 (by kernel_rfl) (by kernel_rfl) (by kernel_rfl) (by kernel_rfl)
def ic246 : IC :=
 (.seq
 (.reg 0 [oM 4 (cI 0)] [0, 1])
 (.seq
 (.reg 1 [oM 5 0, oM 6 1, oK 7 (.call 281 [6]), oK 8 (.call 248 [5, 7]), oQ 9 (.neg 8), oM 4 9] [4])
 .ret))
theorem fok246 : FOK Tryz.prog 246 (10, ic246, [(.t 4)]) := fokA [2000000] Tryz.func246 (by kernel_rfl) (by kernel_rfl) (by kernel_rfl) (by kernel_rfl)
def ic247 : IC :=
 (.seq
 (.reg 0 [oK 4 (.boxt 1), oM 6 (.c .nilslice)] [0, 2, 4])
 (.seq
 (.reg 1 [oM 7 (.c .nilslice)] [0, 2, 4, 7])
 (.seq
 (.seq
 (.reg 2 [oQ 10 (.faddr 6 4), oQ 11 (.load none 10), oQ 12 (.len 0 11), oM 13 (cI 0)] [0, 2, 7, 11, 12, 13])
 (.block 0
 (.loop
 (.seq
 (.reg 3 [oQ 14 (.bin .lss 13 12)] [0, 2, 7, 11, 12, 13, 14])
 (.seq
 (.cond 14
 .skip
 (.exit 0))
 (.seq
 (.block 1
 (.seq
 (.reg 4 [oQ 15 (.iaddr 7 11 13), oQ 16 (.load (some 7) 15), oK 9 (.alloc [(zU 0), (.str []), (zU 0), (zI 0), (.str []), (.str []), .nilslice]), oN (.store 7 9 16)] [0, 2, 7, 9, 11, 12, 13])
 (.reg 5 [oM 17 7, oM 18 0, oQ 19 (.load (some 7) 9), oM 20 2, oK 21 (.call 154 [18, 19, 20]), oK 22 (.bslt 1 1 [(zI 0)] [⟨0, ⟨1, 21⟩⟩]), oK 23 (.app 1 17 22), oM 7 23] [0, 2, 7, 11, 12, 13])))
 (.reg 6 [oQ 24 (.bin .add 13 (cI 1)), oM 13 24] [0, 2, 7, 11, 12, 13])))))))
 (.seq
 (.reg 7 [oM 25 7, oM 6 25] [6])
 .ret))))
theorem fok247 : FOK Tryz.prog 247 (26, ic247, [(.t 6)]) := fokA [1000004, 1000022, 2000000] Tryz.func247 (by kernel_rfl) (by kernel_rfl) (by kernel_rfl) (by kernel_rfl)
def ic248 : IC :=
 (.seq
 (.reg 0 [oM 4 (cI 0)] [0, 1])
 (.seq
 (.reg 1 [oM 9 0, oK 10 (.call 282 [9]), oM 5 10] [0, 1, 5])
 (.seq
 (.reg 2 [oM 11 5, oQ 12 (.neg 11), oK 13 (.bsl 1 1 [(zI 0)] [⟨0, ⟨1, 12⟩⟩]), oM 6 13] [0, 1, 5, 6])
 (.seq
 (.seq
 (.reg 3 [oM 14 1, oQ 15 (.len 0 14), oM 16 (cI 0)] [0, 5, 6, 14, 15, 16])
 (.block 0
 (.loop
 (.seq
 (.reg 4 [oQ 17 (.bin .lss 16 15)] [0, 5, 6, 14, 15, 16, 17])
 (.seq
 (.cond 17
 .skip
 (.exit 0))
 (.seq
 (.block 1
 (.seq
 (.reg 5 [oQ 18 (.iaddr 1 14 16), oQ 19 (.load none 18), oM 8 19] [0, 5, 6, 8, 14, 15, 16])
 (.seq
 (.reg 6 [oM 20 0, oM 21 0, oQ 22 (.nchk 21), oQ 23 (.faddr 3 22), oQ 24 (.load none 23), oM 25 8, oQ 26 (.neg 25), oM 27 5, oK 28 (.bslt 1 2 [(zI 0)] [⟨0, ⟨1, 26⟩⟩, ⟨1, ⟨1, 27⟩⟩]), oK 29 (.bslt 1 1 [.nilslice] [⟨0, ⟨1, 28⟩⟩]), oK 30 (.app 1 24 29), oQ 31 (.nchk 20), oQ 32 (.faddr 3 31), oN (.store 1 32 30)] [0, 5, 6, 8, 14, 15, 16])
 (.reg 7 [oM 33 6, oM 34 8, oK 35 (.bslt 1 1 [(zI 0)] [⟨0, ⟨1, 34⟩⟩]), oK 36 (.app 1 33 35), oM 6 36] [0, 5, 6, 14, 15, 16]))))
 (.reg 8 [oQ 37 (.bin .add 16 (cI 1)), oM 16 37] [0, 5, 6, 14, 15, 16])))))))
 (.seq
 (.reg 9 [oM 38 0, oM 39 0, oQ 40 (.nchk 39), oQ 41 (.faddr 3 40), oQ 42 (.load none 41), oM 43 6, oK 44 (.bslt 1 1 [.nilslice] [⟨0, ⟨1, 43⟩⟩]), oK 45 (.app 1 42 44), oQ 46 (.nchk 38), oQ 47 (.faddr 3 46), oN (.store 1 47 45)] [5])
 (.seq
 (.reg 10 [oM 48 5, oM 4 48] [4])
 .ret))))))
theorem fok248 : FOK Tryz.prog 248 (49, ic248, [(.t 4)]) := fokA [1000028, 1000029, 1000035, 1000044, 2000000] Tryz.func248 (by kernel_rfl) (by kernel_rfl) (by kernel_rfl) (by kernel_rfl)
def ic249 : IC :=
 (.seq
 (.reg 0 [oM 8 (cI 0)] [0, 1, 2, 3])
 (.seq
 (.reg 1 [oM 12 0, oK 13 (.call 282 [12]), oM 9 13] [0, 1, 2, 3, 9])
 (.seq
 (.seq
 (.reg 2 [oM 14 3, oQ 15 (.neg 14), oM 16 1, oQ 17 (.neg 16), oM 18 9, oK 19 (.bslt 1 3 [(zI 0)] [⟨0, ⟨1, 15⟩⟩, ⟨1, ⟨1, 17⟩⟩, ⟨2, ⟨1, 18⟩⟩]), oM 20 3, oQ 21 (.neg 20), oM 22 1, oM 23 9, oQ 24 (.neg 23), oK 25 (.bslt 1 3 [(zI 0)] [⟨0, ⟨1, 21⟩⟩, ⟨1, ⟨1, 22⟩⟩, ⟨2, ⟨1, 24⟩⟩]), oM 26 3, oM 27 2, oQ 28 (.neg 27), oM 29 9, oK 30 (.bslt 1 3 [(zI 0)] [⟨0, ⟨1, 26⟩⟩, ⟨1, ⟨1, 28⟩⟩, ⟨2, ⟨1, 29⟩⟩]), oM 31 3, oM 32 2, oM 33 9, oQ 34 (.neg 33), oK 35 (.bslt 1 3 [(zI 0)] [⟨0, ⟨1, 31⟩⟩, ⟨1, ⟨1, 32⟩⟩, ⟨2, ⟨1, 34⟩⟩]), oK 36 (.bslt 1 4 [.nilslice] [⟨0, ⟨1, 19⟩⟩, ⟨1, ⟨1, 25⟩⟩, ⟨2, ⟨1, 30⟩⟩, ⟨3, ⟨1, 35⟩⟩]), oQ 37 (.len 0 36), oM 38 (cI 0)] [0, 9, 36, 37, 38])
 (.block 0
 (.loop
 (.seq
 (.reg 3 [oQ 39 (.bin .lss 38 37)] [0, 9, 36, 37, 38, 39])
 (.seq
 (.cond 39
 .skip
 (.exit 0))
 (.seq
 (.block 1
 (.seq
 (.reg 4 [oQ 40 (.iaddr 1 36 38), oQ 41 (.load none 40), oM 11 41] [0, 9, 11, 36, 37, 38])
 (.reg 5 [oM 42 0, oM 43 0, oQ 44 (.nchk 43), oQ 45 (.faddr 3 44), oQ 46 (.load none 45), oM 47 11, oK 48 (.bslt 1 1 [.nilslice] [⟨0, ⟨1, 47⟩⟩]), oK 49 (.app 1 46 48), oQ 50 (.nchk 42), oQ 51 (.faddr 3 50), oN (.store 1 51 49)] [0, 9, 36, 37, 38])))
 (.reg 6 [oQ 52 (.bin .add 38 (cI 1)), oM 38 52] [0, 9, 36, 37, 38])))))))
 (.seq
 (.reg 7 [oM 53 9, oM 8 53] [8])
 .ret))))
theorem fok249 : FOK Tryz.prog 249 (54, ic249, [(.t 8)]) := fokA [1000019, 1000025, 1000030, 1000035, 1000036, 1000048, 2000000] Tryz.func249 (by kernel_rfl) (by kernel_rfl) (by kernel_rfl) (by kernel_rfl)
def ic250 : IC :=
 (.seq
 (.reg 0 [oK 2 (.boxt 0), oK 3 (.boxt 1), oM 4 (cB false)] [2, 3])
 (.seq
 (.reg 1 [oQ 7 (.mkf 283 [] [2]), oM 5 7] [2, 3, 5])
 (.seq
 (.reg 2 [oQ 8 (.mkf 284 [] [2]), oM 6 8] [2, 3, 5, 6])
 (.seq
 (.seq
 (.reg 3 [oQ 9 (.faddr 0 3), oQ 10 (.load none 9)] [2, 3, 5, 6, 10])
 (.block 0
 (.seq
 (.reg 4 [oQ 12 (.bin .eql 10 (.c (zU 1))), oM 11 12] [2, 3, 5, 6, 10, 11])
 (.cond 11
 (.seq
 (.reg 5 [oQ 13 (.load (some 15) 2), oQ 14 (.faddr 1 3), oQ 15 (.load (some 5) 14), oK 16 (.call 217 [13, 15]), oM 4 16] [4])
 .ret)
 (.seq
 (.reg 6 [oQ 18 (.bin .eql 10 (.c (zU 3))), oM 17 18] [3, 5, 6, 10, 17])
 (.cond 17
 (.seq
 (.reg 7 [oQ 19 (.faddr 6 3), oQ 20 (.load none 19), oM 21 5, oK 22 (.call 230 [20, 21]), oM 4 22] [4])
 .ret)
 (.seq
 (.reg 8 [oQ 24 (.bin .eql 10 (.c (zU 7))), oM 23 24] [3, 5, 6, 23])
 (.cond 23
 (.seq
 (.reg 9 [oM 25 5, oQ 26 (.faddr 6 3), oQ 27 (.load none 26), oQ 28 (.iaddr 7 27 (cI 0)), oQ 29 (.load (some 7) 28), oK 30 (.callv 25 [29]), oM 31 30, gQ 32 31 true (.mov 6), gQ 33 31 true (.faddr 6 3), gQ 34 31 true (.load none 33), gQ 35 31 true (.iaddr 7 34 (cI 1)), gQ 36 31 true (.load (some 7) 35), gK 37 31 true (.callv 32 [36]), oQ 38 (.pick 31 37 (cB false)), oM 4 38] [4])
 .ret)
 .skip))))))))
 (.seq
 (.reg 10 [oQ 39 (.faddr 6 3), oQ 40 (.load none 39), oM 41 6, oK 42 (.call 230 [40, 41]), oQ 43 (.not 42), oM 4 43] [4])
 .ret)))))
theorem fok250 : FOK Tryz.prog 250 (44, ic250, [(.t 4)]) := fokA [1000002, 1000003, 2000000] Tryz.func250 (by kernel_rfl) (by kernel_rfl) (by kernel_rfl) (by kernel_rfl)
def ic251 : IC :=
 (.seq
 (.reg 0 [oK 2 (.boxt 0), oK 3 (.boxt 1), oM 4 (cB false)] [2, 3])
 (.seq
 (.seq
 (.reg 1 [oQ 6 (.faddr 1 2), oQ 7 (.load none 6), oQ 8 (.bin .and 7 (.c (zU 7))), oQ 9 (.bin .eql 8 (.c (zU 0))), oM 10 9, gQ 11 10 false (.faddr 1 3), gQ 12 10 false (.load none 11), gQ 13 10 false (.bin .and 12 (.c (zU 7))), gQ 14 10 false (.bin .eql 13 (.c (zU 0))), oQ 15 (.pick 10 (cB true) 14)] [2, 3, 15])
 (.cond 15
 (.seq
 (.reg 2 [oM 4 (cB true)] [4])
 .ret)
 .skip))
 (.seq
 (.reg 3 [oQ 16 (.faddr 2 2), oQ 17 (.load (some 3) 16), oQ 18 (.faddr 2 3), oQ 19 (.load (some 3) 18), oK 20 (.call 147 [17, 19]), oM 5 20] [2, 3, 5])
 (.seq
 (.seq
 (.reg 4 [oM 21 5, oQ 22 (.bin .eql 21 (cI 0))] [2, 3, 5, 22])
 (.cond 22
 (.seq
 (.reg 5 [oQ 23 (.faddr 1 2), oQ 24 (.load none 23), oQ 25 (.faddr 1 3), oQ 26 (.load none 25), oQ 27 (.bin .and 24 26), oQ 28 (.bin .and 27 (.c (zU 7))), oQ 29 (.bin .neq 28 (.c (zU 0))), oM 4 29] [4])
 .ret)
 .skip))
 (.seq
 (.oreg 6 [(0, oQ 30 (.faddr 1 2), 0), (1, oQ 31 (.load none 30), 0), (2, oM 32 5, 0), (3, oQ 33 (.neg 32), 0), (4, oK 34 (.call 285 [33]), 2), (5, oQ 35 (.bin .and 31 34), 0), (6, oQ 36 (.bin .neq 35 (.c (zU 0))), 0), (7, oM 37 36, 0), (8, gQ 38 37 false (.faddr 1 3), 0), (9, gQ 39 37 false (.load none 38), 0), (10, gQ 40 37 false (.mov 5), 0), (11, gK 41 37 false (.call 285 [40]), 512), (12, gQ 42 37 false (.bin .and 39 41), 0), (13, gQ 43 37 false (.bin .neq 42 (.c (zU 0))), 0), (14, oQ 44 (.pick 37 (cB true) 43), 0), (15, oM 4 44, 0)] [4])
 .ret)))))
theorem fok251 : FOK Tryz.prog 251 (45, ic251, [(.t 4)]) := fokA [1000002, 1000003, 2000000] Tryz.func251 (by kernel_rfl) (by kernel_rfl) (by kernel_rfl) (by kernel_rfl)
def ic252 : IC :=
 (.seq
 (.reg 0 [oK 3 (.boxt 1), oK 4 (.alloc [(.str []), (zU 0), (zI 0), (.str []), (.str [])])] [0, 3, 4])
 (.seq
 (.reg 1 [oM 5 0, oQ 6 (.load (some 3) 3), oQ 7 (.bld [(.str []), (zU 0), (zI 0), (.str []), (.str [])] [⟨0, ⟨1, 5⟩⟩, ⟨1, ⟨1, (.c (zU 2))⟩⟩, ⟨2, ⟨3, 6⟩⟩]), oN (.store 5 4 7)] [4])
 .ret))
theorem fok252 : FOK Tryz.prog 252 (8, ic252, [(.cell (some 5) 4)]) := fokA [1000003, 2000000] Tryz.func252 (by kernel_rfl) (by kernel_rfl) (by kernel_rfl) (by kernel_rfl)
def ic253 : IC :=
 (.seq
 (.reg 0 [oK 2 (.boxt 0), oM 3 (cB false)] [1, 2])
 (.seq
 (.reg 1 [oQ 4 (.load (some 15) 1), oQ 5 (.load (some 5) 2), oK 6 (.call 157 [4, 5]), oM 3 6] [3])
 .ret))
theorem fok253 : FOK Tryz.prog 253 (7, ic253, [(.t 3)]) := fokA [1000002, 2000000] Tryz.func253 (by kernel_rfl) (by kernel_rfl) (by kernel_rfl) (by kernel_rfl)
end Go.Id.Tryz
