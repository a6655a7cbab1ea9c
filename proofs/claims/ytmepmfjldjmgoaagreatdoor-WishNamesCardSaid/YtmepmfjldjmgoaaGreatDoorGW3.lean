/- The compiled codes of functions, written by a program out of the given form. Conditions: none. -/
import Derived.Test.YtmepmfjldjmgoaaGreatDoorFwW
import Derived.Test.YtmepmfjldjmgoaaGreatDoorProg
set_option linter.all false
namespace Go.Id.Tryz
open Go Go.Id Go.Proofs
def allF3 : List Nat := List.range 412
def ic255 : IC :=
 (.seq
 (.reg 0 [oM 10 (cB true)] [0, 1, 2, 3, 4, 10])
 (.seq
 (.reg 1 [oM 11 (cB true)] [0, 1, 2, 3, 4, 10, 11])
 (.block 0
 (.loop
 (.block 1
 (.seq
 (.reg 2 [oM 21 2, oM 22 1, oQ 23 (.bin .sub 21 22), oM 12 23] [0, 1, 2, 3, 4, 10, 11, 12])
 (.seq
 (.seq
 (.reg 3 [oM 24 12, oQ 25 (.bin .leq 24 (cI 12))] [0, 1, 2, 3, 4, 10, 11, 12, 25])
 (.cond 25
 (.seq
 (.reg 4 [oM 26 0, oM 27 1, oM 28 2, oM 29 4, oK 30 (.call 314 [26, 27, 28, 29])] [])
 .ret)
 .skip))
 (.seq
 (.seq
 (.reg 5 [oM 31 3, oQ 32 (.bin .eql 31 (cI 0))] [0, 1, 2, 3, 4, 10, 11, 12, 32])
 (.cond 32
 (.seq
 (.reg 6 [oM 33 0, oM 34 1, oM 35 2, oM 36 4, oK 37 (.call 315 [33, 34, 35, 36])] [])
 .ret)
 .skip))
 (.seq
 (.seq
 (.reg 7 [oM 38 10, oQ 39 (.not 38)] [0, 1, 2, 3, 4, 10, 11, 12, 39])
 (.cond 39
 (.seq
 (.reg 8 [oM 40 0, oM 41 1, oM 42 2, oM 43 4, oK 44 (.call 316 [40, 41, 42, 43])] [0, 1, 2, 3, 4, 10, 11, 12])
 (.reg 9 [oM 45 3, oQ 46 (.bin .sub 45 (cI 1)), oM 3 46] [0, 1, 2, 3, 4, 10, 11, 12]))
 .skip))
 (.seq
 (.reg 10 [oM 48 0, oM 49 1, oM 50 2, oM 51 4, oK 52 (.call 317 [48, 49, 50, 51]), oM 47 52, oQ 53 (.ext 0 47), oQ 54 (.ext 1 47), oM 13 53, oM 14 54] [0, 1, 2, 3, 4, 10, 11, 12, 13, 14])
 (.seq
 (.seq
 (.reg 11 [oM 55 14, oQ 56 (.bin .eql 55 (cI 2))] [0, 1, 2, 3, 4, 10, 11, 12, 13, 14, 56])
 (.cond 56
 (.seq
 (.reg 12 [oM 57 0, oM 58 1, oM 59 2, oM 60 4, oK 61 (.call 318 [57, 58, 59, 60])] [0, 1, 2, 3, 4, 10, 11, 12, 13])
 (.seq
 (.reg 13 [oM 62 2, oQ 63 (.bin .sub 62 (cI 1)), oM 64 13, oM 65 1, oQ 66 (.bin .sub 64 65), oQ 67 (.bin .sub 63 66), oM 13 67] [0, 1, 2, 3, 4, 10, 11, 12, 13])
 (.reg 14 [oM 14 (cI 1)] [0, 1, 2, 3, 4, 10, 11, 12, 13, 14])))
 .skip))
 (.seq
 (.seq
 (.reg 15 [oM 68 10, oM 69 68, gQ 70 69 true (.mov 11), oQ 71 (.pick 69 70 (cB false)), oM 72 71, gQ 73 72 true (.mov 14), gQ 74 72 true (.bin .eql 73 (cI 1)), oQ 75 (.pick 72 74 (cB false))] [0, 1, 2, 3, 4, 10, 11, 12, 13, 75])
 (.cond 75
 (.seq
 (.reg 16 [oM 76 0, oM 77 1, oM 78 2, oM 79 4, oK 80 (.call 319 [76, 77, 78, 79])] [0, 1, 2, 3, 4, 10, 11, 12, 13, 80])
 (.cond 80
 .ret
 .skip))
 .skip))
 (.seq
 (.seq
 (.dreg 17 [oM 81 1, oQ 82 (.bin .gtr 81 (cI 0)), oM 83 82, gQ 84 83 true (.mov 4), gQ 85 83 true (.mov 0), gQ 86 83 true (.mov 1), gQ 87 83 true (.bin .sub 86 (cI 1)), gQ 88 83 true (.iaddr 1 85 87), gQ 89 83 true (.load none 88), gQ 90 83 true (.mov 0), gQ 91 83 true (.mov 13), gQ 92 83 true (.iaddr 1 90 91), gQ 93 83 true (.load none 92), gK 94 83 true (.callv 84 [89, 93]), gQ 95 83 true (.bin .lss 94 (cI 0)), gQ 96 83 true (.not 95), oQ 97 (.pick 83 96 (cB false))] false [0, 1, 2, 3, 4, 10, 11, 12, 13, 97])
 (.cond 97
 (.seq
 (.reg 18 [oM 98 0, oM 99 1, oM 100 2, oM 101 13, oM 102 4, oK 103 (.call 320 [98, 99, 100, 101, 102]), oM 15 103] [0, 2, 3, 4, 10, 11, 15])
 (.seq
 (.reg 19 [oM 104 15, oM 1 104] [0, 1, 2, 3, 4, 10, 11])
 (.exit 1)))
 .skip))
 (.seq
 (.reg 20 [oM 106 0, oM 107 1, oM 108 2, oM 109 13, oM 110 4, oK 111 (.call 321 [106, 107, 108, 109, 110]), oM 105 111, oQ 112 (.ext 0 105), oQ 113 (.ext 1 105), oM 16 112, oM 17 113] [0, 1, 2, 3, 4, 12, 16, 17])
 (.seq
 (.reg 21 [oM 114 17, oM 11 114] [0, 1, 2, 3, 4, 11, 12, 16])
 (.seq
 (.reg 22 [oM 115 16, oM 116 1, oQ 117 (.bin .sub 115 116), oM 118 2, oM 119 16, oQ 120 (.bin .sub 118 119), oM 18 117, oM 19 120] [0, 1, 2, 3, 4, 11, 12, 16, 18, 19])
 (.seq
 (.reg 23 [oM 121 12, oQ 122 (.bin .quo 121 (cI 8)), oM 20 122] [0, 1, 2, 3, 4, 11, 16, 18, 19, 20])
 (.seq
 (.reg 24 [oM 123 18, oM 124 19, oQ 125 (.bin .lss 123 124)] [0, 1, 2, 3, 4, 11, 16, 18, 19, 20, 125])
 (.cond 125
 (.seq
 (.reg 25 [oM 126 18, oM 127 20, oQ 128 (.bin .geq 126 127), oM 10 128] [0, 1, 2, 3, 4, 10, 11, 16])
 (.seq
 (.reg 26 [oM 129 0, oM 130 1, oM 131 16, oM 132 3, oM 133 4, oK 134 (.call 255 [129, 130, 131, 132, 133])] [0, 2, 3, 4, 10, 11, 16])
 (.reg 27 [oM 135 16, oQ 136 (.bin .add 135 (cI 1)), oM 1 136] [0, 1, 2, 3, 4, 10, 11])))
 (.seq
 (.reg 28 [oM 137 19, oM 138 20, oQ 139 (.bin .geq 137 138), oM 10 139] [0, 1, 2, 3, 4, 10, 11, 16])
 (.seq
 (.reg 29 [oM 140 0, oM 141 16, oQ 142 (.bin .add 141 (cI 1)), oM 143 2, oM 144 3, oM 145 4, oK 146 (.call 255 [140, 142, 143, 144, 145])] [0, 1, 3, 4, 10, 11, 16])
 (.reg 30 [oM 147 16, oM 2 147] [0, 1, 2, 3, 4, 10, 11]))))))))))))))))))))))
theorem fok255 : FOK Tryz.prog 255 (148, ic255, []) := fokA [2000000] Tryz.func255 (by kernel_rfl) (by kernel_rfl) (by kernel_rfl) (by kernel_rfl)
def ic256 : IC :=
 (.seq
 (.reg 0 [oM 2 (cI 0)] [0])
 (.seq
 (.seq
 (.reg 1 [oM 6 0, oQ 7 (.len 0 6), oM 8 (cI 0)] [6, 7, 8])
 (.block 0
 (.loop
 (.seq
 (.reg 2 [oQ 9 (.bin .lss 8 7)] [6, 7, 8, 9])
 (.seq
 (.cond 9
 .skip
 (.exit 0))
 (.seq
 (.block 1
 (.seq
 (.reg 3 [oQ 10 (.iaddr 1 6 8), oQ 11 (.load none 10), oM 4 11] [4, 6, 7, 8])
 (.seq
 (.reg 4 [oM 12 4, oK 13 (.callv 12 []), oM 5 13] [5, 6, 7, 8])
 (.seq
 (.reg 5 [oM 14 5, oQ 15 (.bin .neq 14 (cI 0))] [5, 6, 7, 8, 15])
 (.cond 15
 (.seq
 (.reg 6 [oM 16 5, oM 2 16] [2])
 .ret)
 .skip)))))
 (.reg 7 [oQ 17 (.bin .add 8 (cI 1)), oM 8 17] [6, 7, 8])))))))
 (.seq
 (.reg 8 [oM 2 (cI 0)] [2])
 .ret)))
theorem fok256 : FOK Tryz.prog 256 (18, ic256, [(.t 2)]) := fokA [2000000] Tryz.func256 (by kernel_rfl) (by kernel_rfl) (by kernel_rfl) (by kernel_rfl)
def ic257 : IC :=
 (.seq
 (.reg 0 [oM 3 (cI 0)] [0, 1, 2])
 (.seq
 (.oreg 1 [(0, oQ 4 (.load none 0), 0), (1, oQ 5 (.nchk 4), 0), (2, oQ 6 (.faddr 0 5), 0), (3, oQ 7 (.load none 6), 0), (4, oQ 8 (.load none 1), 0), (7, oQ 11 (.load none 0), 0), (8, oQ 12 (.nchk 11), 0), (9, oQ 13 (.faddr 0 12), 0), (10, oQ 14 (.load none 13), 0), (11, oQ 15 (.load none 2), 0), (5, oK 9 (.call 140 [7, 8]), 3200), (6, oK 10 (.call 183 [9]), 3200), (12, oK 16 (.call 140 [14, 15]), 0), (13, oK 17 (.call 183 [16]), 0), (14, oK 18 (.call 182 [10, 17]), 0), (15, oM 3 18, 0)] [3])
 .ret))
theorem fok257 : FOK Tryz.prog 257 (19, ic257, [(.t 3)]) := fokA [2000000] Tryz.func257 (by kernel_rfl) (by kernel_rfl) (by kernel_rfl) (by kernel_rfl)
def ic258 : IC :=
 (.seq
 (.reg 0 [oM 3 (cI 0)] [0, 1, 2])
 (.seq
 (.oreg 1 [(0, oQ 4 (.load none 0), 0), (1, oQ 5 (.nchk 4), 0), (2, oQ 6 (.faddr 2 5), 0), (3, oQ 7 (.load none 6), 0), (4, oQ 8 (.faddr 4 1), 0), (5, oQ 9 (.load none 8), 0), (7, oQ 11 (.load none 0), 0), (8, oQ 12 (.nchk 11), 0), (9, oQ 13 (.faddr 2 12), 0), (10, oQ 14 (.load none 13), 0), (11, oQ 15 (.faddr 4 2), 0), (12, oQ 16 (.load none 15), 0), (6, oK 10 (.call 259 [7, 9]), 5248), (13, oK 17 (.call 259 [14, 16]), 0), (14, oK 18 (.call 182 [10, 17]), 0), (15, oM 3 18, 0)] [3])
 .ret))
theorem fok258 : FOK Tryz.prog 258 (19, ic258, [(.t 3)]) := fokA [2000000] Tryz.func258 (by kernel_rfl) (by kernel_rfl) (by kernel_rfl) (by kernel_rfl)
def ic259 : IC :=
 (.seq
 (.reg 0 [oM 4 (cI 0)] [0, 1])
 (.seq
 (.seq
 (.reg 1 [oM 5 0, oK 6 (.call 67 [5]), oQ 7 (.not 6), oM 8 7, gQ 9 8 false (.mov 1), gK 10 8 false (.call 67 [9]), gQ 11 8 false (.not 10), oQ 12 (.pick 8 (cB true) 11)] [0, 1, 12])
 (.cond 12
 (.seq
 (.reg 2 [oM 4 (cI 0)] [4])
 .ret)
 .skip))
 (.seq
 (.reg 3 [oK 13 (.call 322 []), oM 14 0, oQ 15 (.idx (some 5) 5 5 13 14), oM 16 1, oQ 17 (.idx none 5 1 15 16), oM 4 17] [4])
 .ret)))
theorem fok259 : FOK Tryz.prog 259 (18, ic259, [(.t 4)]) := fokA [2000000] Tryz.func259 (by kernel_rfl) (by kernel_rfl) (by kernel_rfl) (by kernel_rfl)
def ic260 : IC :=
 (.seq
 (.reg 0 [oM 3 (cI 0)] [0, 1, 2])
 (.seq
 (.oreg 1 [(0, oQ 4 (.load none 0), 0), (1, oQ 5 (.nchk 4), 0), (2, oQ 6 (.faddr 1 5), 0), (3, oQ 7 (.load none 6), 0), (4, oQ 8 (.load none 1), 0), (6, oQ 10 (.load none 0), 0), (7, oQ 11 (.nchk 10), 0), (8, oQ 12 (.faddr 1 11), 0), (9, oQ 13 (.load none 12), 0), (10, oQ 14 (.load none 2), 0), (5, oK 9 (.call 261 [7, 8]), 1600), (11, oK 15 (.call 261 [13, 14]), 0), (12, oK 16 (.call 182 [9, 15]), 0), (13, oM 3 16, 0)] [3])
 .ret))
theorem fok260 : FOK Tryz.prog 260 (17, ic260, [(.t 3)]) := fokA [2000000] Tryz.func260 (by kernel_rfl) (by kernel_rfl) (by kernel_rfl) (by kernel_rfl)
def ic261 : IC :=
(.seq
 (.reg 0 [⟨(some 4), none, (.q (.mov (.c (.int .i64 0))))⟩] [0, 1])
 (.seq
  (.seq
   (.reg 1 [⟨(some 5), none, (.q (.mov (.t 0)))⟩, ⟨(some 6), none, (.q (.isnil (.pointer 86) false (.t 5)))⟩, ⟨(some 7), none, (.q (.mov (.t 6)))⟩, ⟨(some 8), (some ⟨7, false⟩), (.q (.mov (.t 0)))⟩, ⟨(some 9), (some ⟨7, false⟩), (.q (.nchk (.t 8)))⟩, ⟨(some 10), (some ⟨7, false⟩), (.q (.faddr 0 (.t 9)))⟩, ⟨(some 11), (some ⟨7, false⟩), (.q (.load none (.t 10)))⟩, ⟨(some 12), (some ⟨7, false⟩), (.q (.mov (.t 1)))⟩, ⟨(some 13), (some ⟨7, false⟩), (.call 78 [(.t 11), (.t 12)])⟩, ⟨(some 14), (some ⟨7, false⟩), (.q (.not (.t 13)))⟩, ⟨(some 15), none, (.q (.pick (.t 7) (.c (.bool true)) (.t 14)))⟩] [0, 1, 15])
   (.cond (.t 15)
    (.seq
     (.reg 2 [⟨(some 4), none, (.q (.mov (.c (.int .i64 0))))⟩] [4])
     .ret)
    .skip))
  (.seq
   (.reg 3 [⟨(some 16), none, (.q (.mov (.t 0)))⟩, ⟨(some 17), none, (.q (.nchk (.t 16)))⟩, ⟨(some 18), none, (.q (.faddr 0 (.t 17)))⟩, ⟨(some 19), none, (.q (.load none (.t 18)))⟩, ⟨(some 20), none, (.q (.mov (.t 1)))⟩, ⟨(some 21), none, (.q (.iaddr 17 (.t 19) (.t 20)))⟩, ⟨(some 22), none, (.q (.faddr 16 (.t 21)))⟩, ⟨(some 23), none, (.q (.load none (.t 22)))⟩, ⟨(some 4), none, (.q (.mov (.t 23)))⟩] [4])
   .ret)))
theorem fok261 : FOK Tryz.prog 261 (24, ic261, [(.t 4)]) := .mk (pf := []) (an := [(0, [0, 1]), (1, [0, 1, 15]), (2, [4]), (3, [4])]) (by kernel_rfl) (fnOK_of Tryz.func261 (by kernel_rfl) (by kernel_rfl) (by kernel_rfl))
def ic262 : IC :=
 (.seq
 (.reg 0 [oM 3 (cI 0)] [0, 1, 2])
 (.seq
 (.oreg 1 [(0, oQ 4 (.load none 0), 0), (1, oQ 5 (.nchk 4), 0), (2, oQ 6 (.faddr 4 5), 0), (3, oQ 7 (.load none 6), 0), (4, oQ 8 (.load none 1), 0), (5, oQ 9 (.iaddr 1 7 8), 0), (6, oQ 10 (.load none 9), 0), (8, oQ 12 (.load none 0), 0), (9, oQ 13 (.nchk 12), 0), (10, oQ 14 (.faddr 4 13), 0), (11, oQ 15 (.load none 14), 0), (12, oQ 16 (.load none 2), 0), (13, oQ 17 (.iaddr 1 15 16), 0), (14, oQ 18 (.load none 17), 0), (7, oK 11 (.call 183 [10]), 22784), (15, oK 19 (.call 183 [18]), 0), (16, oK 20 (.call 182 [11, 19]), 0), (17, oM 3 20, 0)] [3])
 .ret))
theorem fok262 : FOK Tryz.prog 262 (21, ic262, [(.t 3)]) := fokA [2000000] Tryz.func262 (by kernel_rfl) (by kernel_rfl) (by kernel_rfl) (by kernel_rfl)
def ic263 : IC :=
 (.seq
 (.reg 0 [oM 2 (cI 0)] [0, 1])
 (.seq
 (.reg 1 [oQ 3 (.faddr 1 0), oQ 4 (.load (some 3) 3), oQ 5 (.faddr 1 1), oQ 6 (.load (some 3) 5), oK 7 (.call 154 [4, 6]), oM 2 7] [2])
 .ret))
theorem fok263 : FOK Tryz.prog 263 (8, ic263, [(.t 2)]) := fokA [2000000] Tryz.func263 (by kernel_rfl) (by kernel_rfl) (by kernel_rfl) (by kernel_rfl)
def ic264 : IC :=
 (.seq
 (.reg 0 [oM 2 (cI 0)] [0, 1])
 (.seq
 (.reg 1 [oQ 3 (.load none 0), oQ 4 (.load none 1), oK 5 (.call 182 [3, 4]), oM 2 5] [2])
 .ret))
theorem fok264 : FOK Tryz.prog 264 (6, ic264, [(.t 2)]) := fokA [2000000] Tryz.func264 (by kernel_rfl) (by kernel_rfl) (by kernel_rfl) (by kernel_rfl)
def ic265 : IC :=
 (.seq
 (.reg 0 [oM 6 (cI 0)] [0, 1, 2, 3])
 (.seq
 (.seq
 (.reg 1 [oQ 10 (.load none 2), oQ 11 (.len 0 10), oM 12 (cI 0)] [0, 1, 3, 10, 11, 12])
 (.block 0
 (.loop
 (.seq
 (.reg 2 [oQ 13 (.bin .lss 12 11)] [0, 1, 3, 10, 11, 12, 13])
 (.seq
 (.cond 13
 .skip
 (.exit 0))
 (.seq
 (.block 1
 (.seq
 (.reg 3 [oQ 14 (.iaddr 1 10 12), oQ 15 (.load none 14), oM 8 15] [0, 1, 3, 8, 10, 11, 12])
 (.seq
 (.reg 4 [oM 16 8, oM 17 0, oM 18 1, oK 19 (.callv 16 [17, 18]), oM 9 19] [0, 1, 3, 9, 10, 11, 12])
 (.seq
 (.reg 5 [oM 20 9, oQ 21 (.bin .neq 20 (cI 0))] [0, 1, 3, 9, 10, 11, 12, 21])
 (.cond 21
 (.seq
 (.reg 6 [oM 22 9, oM 6 22] [6])
 .ret)
 .skip)))))
 (.reg 7 [oQ 23 (.bin .add 12 (cI 1)), oM 12 23] [0, 1, 3, 10, 11, 12])))))))
 (.seq
 (.reg 8 [oQ 24 (.load none 3), oM 25 0, oM 26 1, oK 27 (.call 178 [24, 25, 26]), oM 6 27] [6])
 .ret)))
theorem fok265 : FOK Tryz.prog 265 (28, ic265, [(.t 6)]) := fokA [2000000] Tryz.func265 (by kernel_rfl) (by kernel_rfl) (by kernel_rfl) (by kernel_rfl)
def ic266 : IC :=
 (.seq
 (.reg 0 [oM 6 (cI 0)] [0, 1, 2, 3])
 (.seq
 (.oreg 1 [(0, oQ 9 (.load none 2), 0), (1, oQ 10 (.nchk 9), 0), (2, oQ 11 (.faddr 3 10), 0), (3, oQ 12 (.load none 11), 0), (4, oM 13 0, 0), (5, oQ 14 (.iaddr 15 12 13), 0), (6, oQ 15 (.load (some 15) 14), 0), (7, oQ 16 (.load none 2), 0), (8, oQ 17 (.nchk 16), 0), (9, oQ 18 (.faddr 3 17), 0), (10, oQ 19 (.load none 18), 0), (11, oM 20 1, 0), (12, oQ 21 (.iaddr 15 19 20), 0), (13, oQ 22 (.load (some 15) 21), 0), (14, oK 7 (.alloc [(.str []), (zI 0), (.str []), (.str []), (zU 0), (.str []), .nilslice, .nilslice, .nilslice, .nilslice, .nilslice, .nilslice, .nilslice, .nilslice, .nilslice]), 0), (15, oK 8 (.alloc [(.str []), (zI 0), (.str []), (.str []), (zU 0), (.str []), .nilslice, .nilslice, .nilslice, .nilslice, .nilslice, .nilslice, .nilslice, .nilslice, .nilslice]), 0), (16, oN (.store 15 7 15), 9344), (17, oN (.store 15 8 22), 0)] [2, 3, 7, 8])
 (.seq
 (.reg 2 [oQ 23 (.mkf 267 [] [7, 2, 3, 8]), oQ 24 (.mkf 268 [] [8, 7]), oK 25 (.bslt 1 2 [.nilfunc] [⟨0, ⟨1, 23⟩⟩, ⟨1, ⟨1, 24⟩⟩]), oK 26 (.call 256 [25]), oM 6 26] [6])
 .ret)))
theorem fok266 : FOK Tryz.prog 266 (27, ic266, [(.t 6)]) := fokA [1000025, 2000000] Tryz.func266 (by kernel_rfl) (by kernel_rfl) (by kernel_rfl) (by kernel_rfl)
def ic267 : IC :=
 (.seq
 (.reg 0 [oM 4 (cI 0)] [0, 1, 2, 3])
 (.seq
 (.oreg 1 [(0, oQ 5 (.faddr 0 0), 0), (1, oQ 6 (.load none 5), 0), (2, oQ 7 (.load none 1), 0), (3, oQ 8 (.nchk 7), 0), (4, oQ 9 (.faddr 3 8), 0), (5, oQ 10 (.load none 9), 0), (6, oQ 11 (.load none 2), 0), (7, oQ 12 (.iaddr 15 10 11), 0), (8, oQ 13 (.faddr 0 12), 0), (9, oQ 14 (.load none 13), 0), (10, oQ 15 (.bin .eql 6 14), 0), (12, oQ 17 (.faddr 0 3), 0), (13, oQ 18 (.load none 17), 0), (14, oQ 19 (.load none 1), 0), (15, oQ 20 (.nchk 19), 0), (16, oQ 21 (.faddr 3 20), 0), (17, oQ 22 (.load none 21), 0), (18, oQ 23 (.load none 2), 0), (19, oQ 24 (.iaddr 15 22 23), 0), (20, oQ 25 (.faddr 0 24), 0), (21, oQ 26 (.load none 25), 0), (22, oQ 27 (.bin .eql 18 26), 0), (11, oK 16 (.call 183 [15]), 2514944), (23, oK 28 (.call 183 [27]), 0), (24, oK 29 (.call 182 [16, 28]), 0), (25, oM 4 29, 0)] [4])
 .ret))
theorem fok267 : FOK Tryz.prog 267 (30, ic267, [(.t 4)]) := fokA [2000000] Tryz.func267 (by kernel_rfl) (by kernel_rfl) (by kernel_rfl) (by kernel_rfl)
def ic268 : IC :=
 (.seq
 (.reg 0 [oM 2 (cI 0)] [0, 1])
 (.seq
 (.reg 1 [oQ 3 (.faddr 1 0), oQ 4 (.load (some 3) 3), oQ 5 (.faddr 1 1), oQ 6 (.load (some 3) 5), oK 7 (.call 154 [4, 6]), oM 2 7] [2])
 .ret))
theorem fok268 : FOK Tryz.prog 268 (8, ic268, [(.t 2)]) := fokA [2000000] Tryz.func268 (by kernel_rfl) (by kernel_rfl) (by kernel_rfl) (by kernel_rfl)
def ic269 : IC :=
 (.seq
 (.reg 0 [oM 2 (cB false)] [0])
 (.seq
 (.reg 1 [oM 3 0, oM 4 0, oQ 5 (.bin .neq 3 4), oM 2 5] [2])
 .ret))
theorem fok269 : FOK Tryz.prog 269 (6, ic269, [(.t 2)]) := fokA [2000000] Tryz.func269 (by kernel_rfl) (by kernel_rfl) (by kernel_rfl) (by kernel_rfl)
def ic270 : IC :=
 (.seq
 (.reg 0 [oM 2 (cB false)] [0])
 (.seq
 (.seq
 (.reg 1 [oM 3 0, oQ 4 (.bin .geq 3 (.c (zU 97))), oM 5 4, gQ 6 5 true (.mov 0), gQ 7 5 true (.bin .leq 6 (.c (zU 122))), oQ 8 (.pick 5 7 (cB false)), oM 9 8, gQ 10 9 false (.mov 0), gQ 11 9 false (.bin .geq 10 (.c (zU 65))), gQ 12 9 false (.mov 11), gQ 13 12 true (.mov 0), gQ 14 12 true (.bin .leq 13 (.c (zU 90))), gQ 15 9 false (.pick 12 14 (cB false)), oQ 16 (.pick 9 (cB true) 15), oM 17 16, gQ 18 17 false (.mov 0), gQ 19 17 false (.bin .geq 18 (.c (zU 48))), gQ 20 17 false (.mov 19), gQ 21 20 true (.mov 0), gQ 22 20 true (.bin .leq 21 (.c (zU 57))), gQ 23 17 false (.pick 20 22 (cB false)), oQ 24 (.pick 17 (cB true) 23)] [0, 24])
 (.cond 24
 (.seq
 (.reg 2 [oM 2 (cB true)] [2])
 .ret)
 .skip))
 (.seq
 (.reg 3 [oM 25 0, oQ 26 (.bin .eql 25 (.c (zU 46))), oM 27 26, gQ 28 27 false (.mov 0), gQ 29 27 false (.bin .eql 28 (.c (zU 95))), oQ 30 (.pick 27 (cB true) 29), oM 31 30, gQ 32 31 false (.mov 0), gQ 33 31 false (.bin .eql 32 (.c (zU 43))), oQ 34 (.pick 31 (cB true) 33), oM 35 34, gQ 36 35 false (.mov 0), gQ 37 35 false (.bin .eql 36 (.c (zU 45))), oQ 38 (.pick 35 (cB true) 37), oM 39 38, gQ 40 39 false (.mov 0), gQ 41 39 false (.bin .eql 40 (.c (zU 47))), oQ 42 (.pick 39 (cB true) 41), oM 43 42, gQ 44 43 false (.mov 0), gQ 45 43 false (.bin .eql 44 (.c (zU 58))), oQ 46 (.pick 43 (cB true) 45), oM 47 46, gQ 48 47 false (.mov 0), gQ 49 47 false (.bin .eql 48 (.c (zU 64))), oQ 50 (.pick 47 (cB true) 49), oM 51 50, gQ 52 51 false (.mov 0), gQ 53 51 false (.bin .eql 52 (.c (zU 126))), oQ 54 (.pick 51 (cB true) 53), oM 55 54, gQ 56 55 false (.mov 0), gQ 57 55 false (.bin .eql 56 (.c (zU 94))), oQ 58 (.pick 55 (cB true) 57), oM 2 58] [2])
 .ret)))
theorem fok270 : FOK Tryz.prog 270 (59, ic270, [(.t 2)]) := fokA [2000000] Tryz.func270 (by kernel_rfl) (by kernel_rfl) (by kernel_rfl) (by kernel_rfl)
def ic271 : IC :=
 (.seq
 (.reg 0 [oM 2 (cB false)] [0])
 (.seq
 (.seq
 (.reg 1 [oM 3 (cI 0)] [0, 3])
 (.block 0
 (.loop
 (.seq
 (.seq
 (.reg 2 [oM 7 3, oM 8 0, oQ 9 (.len 1 8), oQ 10 (.bin .lss 7 9)] [0, 3, 10])
 (.cond 10
 .skip
 (.exit 0)))
 (.seq
 (.block 1
 (.seq
 (.reg 4 [oM 13 0, oM 14 3, oQ 15 (.istr 13 14), oM 4 15] [0, 3, 4])
 (.seq
 (.reg 5 [oM 16 4, oQ 17 (.bin .geq 16 (.c (zU 97))), oM 18 17, gQ 19 18 true (.mov 4), gQ 20 18 true (.bin .leq 19 (.c (zU 122))), oQ 21 (.pick 18 20 (cB false)), oM 22 21, gQ 23 22 false (.mov 4), gQ 24 22 false (.bin .geq 23 (.c (zU 65))), gQ 25 22 false (.mov 24), gQ 26 25 true (.mov 4), gQ 27 25 true (.bin .leq 26 (.c (zU 90))), gQ 28 22 false (.pick 25 27 (cB false)), oQ 29 (.pick 22 (cB true) 28), oM 5 29] [0, 3, 4, 5])
 (.seq
 (.reg 6 [oM 30 4, oQ 31 (.bin .geq 30 (.c (zU 48))), oM 32 31, gQ 33 32 true (.mov 4), gQ 34 32 true (.bin .leq 33 (.c (zU 57))), oQ 35 (.pick 32 34 (cB false)), oM 6 35] [0, 3, 4, 5, 6])
 (.seq
 (.reg 7 [oM 36 5, oQ 37 (.not 36), oM 38 37, gQ 39 38 true (.mov 6), gQ 40 38 true (.not 39), oQ 41 (.pick 38 40 (cB false)), oM 42 41, gQ 43 42 true (.mov 4), gQ 44 42 true (.bin .neq 43 (.c (zU 46))), oQ 45 (.pick 42 44 (cB false)), oM 46 45, gQ 47 46 true (.mov 4), gQ 48 46 true (.bin .neq 47 (.c (zU 95))), oQ 49 (.pick 46 48 (cB false)), oM 50 49, gQ 51 50 true (.mov 4), gQ 52 50 true (.bin .neq 51 (.c (zU 43))), oQ 53 (.pick 50 52 (cB false)), oM 54 53, gQ 55 54 true (.mov 4), gQ 56 54 true (.bin .neq 55 (.c (zU 126))), oQ 57 (.pick 54 56 (cB false)), oM 58 57, gQ 59 58 true (.mov 4), gQ 60 58 true (.bin .neq 59 (.c (zU 94))), oQ 61 (.pick 58 60 (cB false))] [0, 3, 61])
 (.cond 61
 (.seq
 (.reg 8 [oM 2 (cB false)] [2])
 .ret)
 .skip))))))
 (.reg 3 [oM 11 3, oQ 12 (.bin .add 11 (cI 1)), oM 3 12] [0, 3]))))))
 (.seq
 (.reg 9 [oM 62 0, oQ 63 (.len 1 62), oQ 64 (.bin .geq 63 (cI 1)), oM 65 64, gQ 66 65 true (.mov 0), gQ 67 65 true (.len 1 66), gQ 68 65 true (.bin .leq 67 (cI 64)), oQ 69 (.pick 65 68 (cB false)), oM 2 69] [2])
 .ret)))
theorem fok271 : FOK Tryz.prog 271 (70, ic271, [(.t 2)]) := fokA [2000000] Tryz.func271 (by kernel_rfl) (by kernel_rfl) (by kernel_rfl) (by kernel_rfl)
def ic283 : IC :=
(.seq
 (.reg 0 [⟨(some 4), none, (.q (.mov (.c (.int .i64 0))))⟩] [0, 1])
 (.seq
  (.seq
   (.reg 1 [⟨(some 6), none, (.q (.mov (.t 0)))⟩, ⟨(some 7), none, (.q (.len 0 (.t 6)))⟩, ⟨(some 8), none, (.q (.mov (.c (.int .i64 0))))⟩] [0, 1, 7, 8])
   (.block 0
    (.loop
     (.seq
      (.reg 2 [⟨(some 9), none, (.q (.bin .lss (.t 8) (.t 7)))⟩] [0, 1, 7, 8, 9])
      (.seq
       (.cond (.t 9)
        .skip
        (.exit 0))
       (.seq
        (.block 1
         (.seq
          (.reg 3 [⟨(some 10), none, (.q (.mov (.t 8)))⟩, ⟨(some 5), none, (.q (.mov (.t 10)))⟩] [0, 1, 5, 7, 8])
          (.seq
           (.reg 4 [⟨(some 11), none, (.q (.mov (.t 1)))⟩, ⟨(some 12), none, (.q (.mov (.t 0)))⟩, ⟨(some 13), none, (.q (.mov (.t 5)))⟩, ⟨(some 14), none, (.q (.iaddr 1 (.t 12) (.t 13)))⟩, ⟨(some 15), none, (.q (.load none (.t 14)))⟩, ⟨(some 16), none, (.callv (.t 11) [(.t 15)])⟩] [0, 1, 5, 7, 8, 16])
           (.cond (.t 16)
            (.seq
            (.reg 5 [⟨(some 17), none, (.q (.mov (.t 5)))⟩, ⟨(some 4), none, (.q (.mov (.t 17)))⟩] [4])
            .ret)
            .skip))))
        (.reg 6 [⟨(some 18), none, (.q (.bin .add (.t 8) (.c (.int .i64 1))))⟩, ⟨(some 8), none, (.q (.mov (.t 18)))⟩] [0, 1, 7, 8])))))))
  (.seq
   (.reg 7 [⟨(some 4), none, (.q (.mov (.c (.int .i64 (-1)))))⟩] [4])
   .ret)))
theorem fok283 : FOK Tryz.prog 283 (19, ic283, [(.t 4)]) := .mk (pf := []) (an := [(0, [0, 1]), (1, [0, 1, 7, 8]), (2, [0, 1, 7, 8, 9]), (3, [0, 1, 5, 7, 8]), (4, [0, 1, 5, 7, 8, 16]), (5, [4]), (6, [0, 1, 7, 8]), (7, [4])]) (by kernel_rfl) (fnOK_of Tryz.func283 (by kernel_rfl) (by kernel_rfl) (by kernel_rfl))
def ic285 : IC :=
 (.seq
 (.reg 0 [oM 4 (cI 0)] [0, 1])
 (.seq
 (.seq
 (.reg 1 [oM 14 1, oQ 15 (.len 0 14), oQ 16 (.bin .eql 15 (cI 1))] [0, 1, 16])
 (.cond 16
 (.seq
 (.reg 2 [oM 17 1, oQ 18 (.iaddr 1 17 (cI 0)), oQ 19 (.load none 18), oQ 20 (.bin .add 19 (cI 1)), oM 4 20] [4])
 .ret)
 .skip))
 (.seq
 (.reg 3 [oM 5 (.c (.str []))] [0, 1, 5])
 (.seq
 (.seq
 (.reg 4 [oM 21 1, oQ 22 (.len 0 21), oM 23 (cI 0)] [0, 1, 5, 21, 22, 23])
 (.block 0
 (.loop
 (.seq
 (.reg 5 [oQ 24 (.bin .lss 23 22)] [0, 1, 5, 21, 22, 23, 24])
 (.seq
 (.cond 24
 .skip
 (.exit 0))
 (.seq
 (.block 1
 (.seq
 (.reg 6 [oQ 25 (.iaddr 1 21 23), oQ 26 (.load none 25), oM 7 26] [0, 1, 5, 7, 21, 22, 23])
 (.reg 7 [oM 27 5, oM 28 7, oK 29 (.call 329 [28]), oQ 30 (.bin .add 29 (.c (.str [32]))), oQ 31 (.bin .add 27 30), oM 5 31] [0, 1, 5, 21, 22, 23])))
 (.reg 8 [oQ 32 (.bin .add 23 (cI 1)), oM 23 32] [0, 1, 5, 21, 22, 23])))))))
 (.seq
 (.seq
 (.reg 9 [oM 34 0, oQ 35 (.nchk 34), oQ 36 (.faddr 4 35), oQ 37 (.load none 36), oM 38 5, oQ 39 (.lkp 2 (zI 0) true 37 38), oM 33 39, oQ 40 (.ext 0 33), oQ 41 (.ext 1 33), oM 8 40, oM 9 41] [0, 1, 5, 8, 9])
 (.seq
 (.reg 10 [oM 42 9] [0, 1, 5, 8, 42])
 (.cond 42
 (.seq
 (.reg 11 [oM 43 8, oM 4 43] [4])
 .ret)
 .skip)))
 (.seq
 (.reg 12 [oM 10 (.c .nilslice)] [0, 1, 5, 10])
 (.seq
 (.seq
 (.reg 13 [oM 44 1, oQ 45 (.len 0 44), oM 46 (cI 0)] [0, 5, 10, 44, 45, 46])
 (.block 2
 (.loop
 (.seq
 (.reg 14 [oQ 47 (.bin .lss 46 45)] [0, 5, 10, 44, 45, 46, 47])
 (.seq
 (.cond 47
 .skip
 (.exit 2))
 (.seq
 (.block 3
 (.seq
 (.reg 15 [oQ 48 (.iaddr 1 44 46), oQ 49 (.load none 48), oM 12 49] [0, 5, 10, 12, 44, 45, 46])
 (.reg 16 [oM 50 10, oM 51 12, oQ 52 (.bin .add 51 (cI 1)), oK 53 (.bslt 1 1 [(zI 0)] [⟨0, ⟨1, 52⟩⟩]), oK 54 (.app 1 50 53), oM 10 54] [0, 5, 10, 44, 45, 46])))
 (.reg 17 [oQ 55 (.bin .add 46 (cI 1)), oM 46 55] [0, 5, 10, 44, 45, 46])))))))
 (.seq
 (.reg 18 [oM 56 0, oM 57 10, oK 58 (.call 289 [56, 57]), oM 13 58] [0, 5, 13])
 (.seq
 (.reg 19 [oM 59 0, oQ 60 (.nchk 59), oQ 61 (.faddr 4 60), oQ 62 (.load none 61), oM 63 5, oM 64 13, oN (.mupd 2 62 63 64)] [13])
 (.seq
 (.reg 20 [oM 65 13, oM 4 65] [4])
 .ret))))))))))
theorem fok285 : FOK Tryz.prog 285 (66, ic285, [(.t 4)]) := fokA [1000053, 2000000] Tryz.func285 (by kernel_rfl) (by kernel_rfl) (by kernel_rfl) (by kernel_rfl)
def ic286 : IC :=
 (.seq
 (.reg 0 [oK 3 (.boxt 1), oM 4 (.c .nilslice)] [0, 3])
 (.seq
 (.reg 1 [oM 5 0, oQ 6 (.mkf 330 [] [3]), oK 7 (.call 161 [5, 6]), oM 4 7] [4])
 .ret))
theorem fok286 : FOK Tryz.prog 286 (8, ic286, [(.t 4)]) := fokA [1000003, 2000000] Tryz.func286 (by kernel_rfl) (by kernel_rfl) (by kernel_rfl) (by kernel_rfl)
def ic287 : IC :=
 (.seq
 (.reg 0 [oM 4 (cI 0)] [0, 1])
 (.seq
 (.reg 1 [oM 5 0, oM 6 1, oK 7 (.call 331 [6]), oK 8 (.call 289 [5, 7]), oQ 9 (.neg 8), oM 4 9] [4])
 .ret))
theorem fok287 : FOK Tryz.prog 287 (10, ic287, [(.t 4)]) := fokA [2000000] Tryz.func287 (by kernel_rfl) (by kernel_rfl) (by kernel_rfl) (by kernel_rfl)
def ic288 : IC :=
 (.seq
 (.reg 0 [oK 4 (.boxt 1), oM 6 (.c .nilslice)] [0, 2, 4])
 (.seq
 (.reg 1 [oM 7 (.c .nilslice)] [0, 2, 4, 7])
 (.seq
 (.seq
 (.reg 2 [oQ 10 (.faddr 6 4), oQ 11 (.load none 10), oQ 12 (.len 0 11), oM 13 (cI 0)] [0, 2, 7, 11, 12, 13])
 (.block 0
 (.loop
 (.seq
 (.reg 3 [oQ 14 (.bin .lss 13 12)] [0, 2, 7, 11, 12, 13, 14])
 (.seq
 (.cond 14
 .skip
 (.exit 0))
 (.seq
 (.block 1
 (.seq
 (.reg 4 [oQ 15 (.iaddr 7 11 13), oQ 16 (.load (some 7) 15), oK 9 (.alloc [(zU 0), (.str []), (zU 0), (zI 0), (.str []), (.str []), .nilslice]), oN (.store 7 9 16)] [0, 2, 7, 9, 11, 12, 13])
 (.reg 5 [oM 17 7, oM 18 0, oQ 19 (.load (some 7) 9), oM 20 2, oK 21 (.call 146 [18, 19, 20]), oK 22 (.bslt 1 1 [(zI 0)] [⟨0, ⟨1, 21⟩⟩]), oK 23 (.app 1 17 22), oM 7 23] [0, 2, 7, 11, 12, 13])))
 (.reg 6 [oQ 24 (.bin .add 13 (cI 1)), oM 13 24] [0, 2, 7, 11, 12, 13])))))))
 (.seq
 (.reg 7 [oM 25 7, oM 6 25] [6])
 .ret))))
theorem fok288 : FOK Tryz.prog 288 (26, ic288, [(.t 6)]) := fokA [1000004, 1000022, 2000000] Tryz.func288 (by kernel_rfl) (by kernel_rfl) (by kernel_rfl) (by kernel_rfl)
def ic289 : IC :=
 (.seq
 (.reg 0 [oM 4 (cI 0)] [0, 1])
 (.seq
 (.reg 1 [oM 9 0, oK 10 (.call 332 [9]), oM 5 10] [0, 1, 5])
 (.seq
 (.reg 2 [oM 11 5, oQ 12 (.neg 11), oK 13 (.bsl 1 1 [(zI 0)] [⟨0, ⟨1, 12⟩⟩]), oM 6 13] [0, 1, 5, 6])
 (.seq
 (.seq
 (.reg 3 [oM 14 1, oQ 15 (.len 0 14), oM 16 (cI 0)] [0, 5, 6, 14, 15, 16])
 (.block 0
 (.loop
 (.seq
 (.reg 4 [oQ 17 (.bin .lss 16 15)] [0, 5, 6, 14, 15, 16, 17])
 (.seq
 (.cond 17
 .skip
 (.exit 0))
 (.seq
 (.block 1
 (.seq
 (.reg 5 [oQ 18 (.iaddr 1 14 16), oQ 19 (.load none 18), oM 8 19] [0, 5, 6, 8, 14, 15, 16])
 (.seq
 (.reg 6 [oM 20 0, oM 21 0, oQ 22 (.nchk 21), oQ 23 (.faddr 3 22), oQ 24 (.load none 23), oM 25 8, oQ 26 (.neg 25), oM 27 5, oK 28 (.bslt 1 2 [(zI 0)] [⟨0, ⟨1, 26⟩⟩, ⟨1, ⟨1, 27⟩⟩]), oK 29 (.bslt 1 1 [.nilslice] [⟨0, ⟨1, 28⟩⟩]), oK 30 (.app 1 24 29), oQ 31 (.nchk 20), oQ 32 (.faddr 3 31), oN (.store 1 32 30)] [0, 5, 6, 8, 14, 15, 16])
 (.reg 7 [oM 33 6, oM 34 8, oK 35 (.bslt 1 1 [(zI 0)] [⟨0, ⟨1, 34⟩⟩]), oK 36 (.app 1 33 35), oM 6 36] [0, 5, 6, 14, 15, 16]))))
 (.reg 8 [oQ 37 (.bin .add 16 (cI 1)), oM 16 37] [0, 5, 6, 14, 15, 16])))))))
 (.seq
 (.reg 9 [oM 38 0, oM 39 0, oQ 40 (.nchk 39), oQ 41 (.faddr 3 40), oQ 42 (.load none 41), oM 43 6, oK 44 (.bslt 1 1 [.nilslice] [⟨0, ⟨1, 43⟩⟩]), oK 45 (.app 1 42 44), oQ 46 (.nchk 38), oQ 47 (.faddr 3 46), oN (.store 1 47 45)] [5])
 (.seq
 (.reg 10 [oM 48 5, oM 4 48] [4])
 .ret))))))
theorem fok289 : FOK Tryz.prog 289 (49, ic289, [(.t 4)]) := fokA [1000028, 1000029, 1000035, 1000044, 2000000] Tryz.func289 (by kernel_rfl) (by kernel_rfl) (by kernel_rfl) (by kernel_rfl)
def ic290 : IC :=
 (.seq
 (.reg 0 [oM 8 (cI 0)] [0, 1, 2, 3])
 (.seq
 (.reg 1 [oM 12 0, oK 13 (.call 332 [12]), oM 9 13] [0, 1, 2, 3, 9])
 (.seq
 (.seq
 (.reg 2 [oM 14 3, oQ 15 (.neg 14), oM 16 1, oQ 17 (.neg 16), oM 18 9, oK 19 (.bslt 1 3 [(zI 0)] [⟨0, ⟨1, 15⟩⟩, ⟨1, ⟨1, 17⟩⟩, ⟨2, ⟨1, 18⟩⟩]), oM 20 3, oQ 21 (.neg 20), oM 22 1, oM 23 9, oQ 24 (.neg 23), oK 25 (.bslt 1 3 [(zI 0)] [⟨0, ⟨1, 21⟩⟩, ⟨1, ⟨1, 22⟩⟩, ⟨2, ⟨1, 24⟩⟩]), oM 26 3, oM 27 2, oQ 28 (.neg 27), oM 29 9, oK 30 (.bslt 1 3 [(zI 0)] [⟨0, ⟨1, 26⟩⟩, ⟨1, ⟨1, 28⟩⟩, ⟨2, ⟨1, 29⟩⟩]), oM 31 3, oM 32 2, oM 33 9, oQ 34 (.neg 33), oK 35 (.bslt 1 3 [(zI 0)] [⟨0, ⟨1, 31⟩⟩, ⟨1, ⟨1, 32⟩⟩, ⟨2, ⟨1, 34⟩⟩]), oK 36 (.bslt 1 4 [.nilslice] [⟨0, ⟨1, 19⟩⟩, ⟨1, ⟨1, 25⟩⟩, ⟨2, ⟨1, 30⟩⟩, ⟨3, ⟨1, 35⟩⟩]), oQ 37 (.len 0 36), oM 38 (cI 0)] [0, 9, 36, 37, 38])
 (.block 0
 (.loop
 (.seq
 (.reg 3 [oQ 39 (.bin .lss 38 37)] [0, 9, 36, 37, 38, 39])
 (.seq
 (.cond 39
 .skip
 (.exit 0))
 (.seq
 (.block 1
 (.seq
 (.reg 4 [oQ 40 (.iaddr 1 36 38), oQ 41 (.load none 40), oM 11 41] [0, 9, 11, 36, 37, 38])
 (.reg 5 [oM 42 0, oM 43 0, oQ 44 (.nchk 43), oQ 45 (.faddr 3 44), oQ 46 (.load none 45), oM 47 11, oK 48 (.bslt 1 1 [.nilslice] [⟨0, ⟨1, 47⟩⟩]), oK 49 (.app 1 46 48), oQ 50 (.nchk 42), oQ 51 (.faddr 3 50), oN (.store 1 51 49)] [0, 9, 36, 37, 38])))
 (.reg 6 [oQ 52 (.bin .add 38 (cI 1)), oM 38 52] [0, 9, 36, 37, 38])))))))
 (.seq
 (.reg 7 [oM 53 9, oM 8 53] [8])
 .ret))))
theorem fok290 : FOK Tryz.prog 290 (54, ic290, [(.t 8)]) := fokA [1000019, 1000025, 1000030, 1000035, 1000036, 1000048, 2000000] Tryz.func290 (by kernel_rfl) (by kernel_rfl) (by kernel_rfl) (by kernel_rfl)
def ic291 : IC :=
 (.seq
 (.reg 0 [oK 2 (.boxt 0), oK 3 (.boxt 1), oM 4 (cB false)] [2, 3])
 (.seq
 (.reg 1 [oQ 7 (.mkf 333 [] [2]), oM 5 7] [2, 3, 5])
 (.seq
 (.reg 2 [oQ 8 (.mkf 334 [] [2]), oM 6 8] [2, 3, 5, 6])
 (.seq
 (.seq
 (.reg 3 [oQ 9 (.faddr 0 3), oQ 10 (.load none 9)] [2, 3, 5, 6, 10])
 (.block 0
 (.seq
 (.reg 4 [oQ 12 (.bin .eql 10 (.c (zU 1))), oM 11 12] [2, 3, 5, 6, 10, 11])
 (.cond 11
 (.seq
 (.reg 5 [oQ 13 (.load (some 15) 2), oQ 14 (.faddr 1 3), oQ 15 (.load (some 5) 14), oK 16 (.call 93 [13, 15]), oM 4 16] [4])
 .ret)
 (.seq
 (.reg 6 [oQ 18 (.bin .eql 10 (.c (zU 3))), oM 17 18] [3, 5, 6, 10, 17])
 (.cond 17
 (.seq
 (.reg 7 [oQ 19 (.faddr 6 3), oQ 20 (.load none 19), oM 21 5, oK 22 (.call 94 [20, 21]), oM 4 22] [4])
 .ret)
 (.seq
 (.reg 8 [oQ 24 (.bin .eql 10 (.c (zU 7))), oM 23 24] [3, 5, 6, 23])
 (.cond 23
 (.seq
 (.reg 9 [oM 25 5, oQ 26 (.faddr 6 3), oQ 27 (.load none 26), oQ 28 (.iaddr 7 27 (cI 0)), oQ 29 (.load (some 7) 28), oK 30 (.callv 25 [29]), oM 31 30, gQ 32 31 true (.mov 6), gQ 33 31 true (.faddr 6 3), gQ 34 31 true (.load none 33), gQ 35 31 true (.iaddr 7 34 (cI 1)), gQ 36 31 true (.load (some 7) 35), gK 37 31 true (.callv 32 [36]), oQ 38 (.pick 31 37 (cB false)), oM 4 38] [4])
 .ret)
 .skip))))))))
 (.seq
 (.reg 10 [oQ 39 (.faddr 6 3), oQ 40 (.load none 39), oM 41 6, oK 42 (.call 94 [40, 41]), oQ 43 (.not 42), oM 4 43] [4])
 .ret)))))
theorem fok291 : FOK Tryz.prog 291 (44, ic291, [(.t 4)]) := fokA [1000002, 1000003, 2000000] Tryz.func291 (by kernel_rfl) (by kernel_rfl) (by kernel_rfl) (by kernel_rfl)
def ic292 : IC :=
 (.seq
 (.reg 0 [oK 3 (.boxt 1), oK 4 (.alloc [(.str []), (zU 0), (zI 0), (.str []), (.str [])])] [0, 3, 4])
 (.seq
 (.reg 1 [oM 5 0, oQ 6 (.load (some 3) 3), oQ 7 (.bld [(.str []), (zU 0), (zI 0), (.str []), (.str [])] [⟨0, ⟨1, 5⟩⟩, ⟨1, ⟨1, (.c (zU 2))⟩⟩, ⟨2, ⟨3, 6⟩⟩]), oN (.store 5 4 7)] [4])
 .ret))
theorem fok292 : FOK Tryz.prog 292 (8, ic292, [(.cell (some 5) 4)]) := fokA [1000003, 2000000] Tryz.func292 (by kernel_rfl) (by kernel_rfl) (by kernel_rfl) (by kernel_rfl)
def ic293 : IC :=
 (.seq
 (.reg 0 [oK 3 (.boxt 1), oM 4 (cI 0)] [0, 3])
 (.seq
 (.seq
 (.reg 1 [oM 6 0, oQ 7 (.len 0 6), oM 8 (cI 0)] [0, 3, 7, 8])
 (.block 0
 (.loop
 (.seq
 (.reg 2 [oQ 9 (.bin .lss 8 7)] [0, 3, 7, 8, 9])
 (.seq
 (.cond 9
 .skip
 (.exit 0))
 (.seq
 (.block 1
 (.seq
 (.reg 3 [oM 10 8, oM 5 10] [0, 3, 5, 7, 8])
 (.seq
 (.dreg 4 [oQ 11 (.load (some 2) 3), oM 12 0, oM 13 5, oQ 14 (.iaddr 2 12 13), oQ 15 (.load (some 2) 14), oQ 16 (.eqs [1, 1] true false 11 15)] false [0, 3, 5, 7, 8, 16])
 (.cond 16
 (.seq
 (.reg 5 [oM 17 5, oM 4 17] [4])
 .ret)
 .skip))))
 (.reg 6 [oQ 18 (.bin .add 8 (cI 1)), oM 8 18] [0, 3, 7, 8])))))))
 (.seq
 (.reg 7 [oM 4 (cI (-1))] [4])
 .ret)))
theorem fok293 : FOK Tryz.prog 293 (19, ic293, [(.t 4)]) := fokA [1000003, 2000000] Tryz.func293 (by kernel_rfl) (by kernel_rfl) (by kernel_rfl) (by kernel_rfl)
def ic294 : IC :=
 (.seq
 (.reg 0 [oM 2 (.c .nilslice)] [0, 2])
 (.seq
 (.reg 1 [oK 3 (.alloc [.nilslice])] [0, 2, 3])
 (.seq
 (.seq
 (.reg 2 [oM 5 0, oK 6 (.call 335 [5])] [2, 3, 6])
 (.block 0
 (.rfunc 6 [7]
 (.reg 3 [oK 4 (.alloc [(zU 0), (.str [])]), oN (.store 2 4 7)] [3, 4])
 (.block 1
 (.reg 4 [oQ 8 (.load none 3), oQ 9 (.load (some 2) 4), oK 10 (.bslt 2 1 [(zU 0), (.str [])] [⟨0, ⟨2, 9⟩⟩]), oK 11 (.app 2 8 10), oN (.store 1 3 11)] [])))))
 (.seq
 (.reg 5 [oQ 12 (.load none 3), oM 2 12] [2])
 .ret))))
theorem fok294 : FOK Tryz.prog 294 (13, ic294, [(.t 2)]) := fokA [1000010, 2000000] Tryz.func294 (by kernel_rfl) (by kernel_rfl) (by kernel_rfl) (by kernel_rfl)
def ic295 : IC :=
 (.seq
 (.reg 0 [oK 2 (.boxt 0), oK 3 (.boxt 1), oM 4 (cI 0)] [2, 3])
 (.seq
 (.reg 1 [oM 5 (cI 0)] [2, 3, 5])
 (.seq
 (.seq
 (.reg 2 [oQ 6 (.faddr 0 2), oQ 7 (.load none 6), oQ 8 (.bin .eql 7 (.c (zU 5))), oM 9 8, gQ 10 9 true (.faddr 0 3), gQ 11 9 true (.load none 10), gQ 12 9 true (.bin .eql 11 (.c (zU 5))), oQ 13 (.pick 9 12 (cB false))] [2, 3, 5, 13])
 (.cond 13
 (.reg 3 [oQ 14 (.faddr 1 2), oQ 15 (.load none 14), oQ 16 (.len 1 15), oQ 17 (.faddr 1 3), oQ 18 (.load none 17), oQ 19 (.len 1 18), oK 20 (.call 182 [16, 19]), oM 5 20] [2, 3, 5])
 .skip))
 (.seq
 (.oreg 4 [(0, oQ 21 (.faddr 0 2), 0), (1, oQ 22 (.load none 21), 0), (2, oQ 23 (.faddr 0 3), 0), (3, oQ 24 (.load none 23), 0), (5, oM 26 5, 0), (6, oQ 27 (.faddr 1 2), 0), (7, oQ 28 (.load none 27), 0), (8, oQ 29 (.faddr 1 3), 0), (9, oQ 30 (.load none 29), 0), (4, oK 25 (.call 337 [22, 24]), 640), (10, oK 31 (.call 338 [28, 30]), 0), (11, oK 32 (.bslt 1 3 [(zI 0)] [⟨0, ⟨1, 25⟩⟩, ⟨1, ⟨1, 26⟩⟩, ⟨2, ⟨1, 31⟩⟩]), 0), (12, oK 33 (.call 336 [32]), 0), (13, oM 4 33, 0)] [4])
 .ret))))
theorem fok295 : FOK Tryz.prog 295 (34, ic295, [(.t 4)]) := fokA [1000002, 1000003, 1000032, 2000000] Tryz.func295 (by kernel_rfl) (by kernel_rfl) (by kernel_rfl) (by kernel_rfl)
def ic296 : IC :=
 (.seq
 (.reg 0 [oK 2 (.boxt 0), oM 3 (cB false)] [1, 2])
 (.seq
 (.reg 1 [oQ 4 (.load (some 15) 1), oQ 5 (.load (some 5) 2), oK 6 (.call 149 [4, 5]), oM 3 6] [3])
 .ret))
theorem fok296 : FOK Tryz.prog 296 (7, ic296, [(.t 3)]) := fokA [1000002, 2000000] Tryz.func296 (by kernel_rfl) (by kernel_rfl) (by kernel_rfl) (by kernel_rfl)
def ic297 : IC :=
 (.seq
 (.reg 0 [oM 8 1, oQ 9 (.bin .add 8 (cI 1)), oM 6 9] [0, 1, 2, 6])
 (.block 0
 (.loop
 (.seq
 (.seq
 (.reg 1 [oM 10 6, oM 11 2, oQ 12 (.bin .lss 10 11)] [0, 1, 2, 6, 12])
 (.cond 12
 .skip
 (.exit 0)))
 (.seq
 (.block 1
 (.seq
 (.reg 3 [oM 15 6, oM 7 15] [0, 1, 2, 6, 7])
 (.block 2
 (.loop
 (.seq
 (.seq
 (.dreg 4 [oM 16 7, oM 17 1, oQ 18 (.bin .gtr 16 17), oM 19 18, gQ 20 19 true (.mov 0), gQ 21 19 true (.mov 7), gQ 22 19 true (.iaddr 1 20 21), gQ 23 19 true (.load none 22), gQ 24 19 true (.mov 0), gQ 25 19 true (.mov 7), gQ 26 19 true (.bin .sub 25 (cI 1)), gQ 27 19 true (.iaddr 1 24 26), gQ 28 19 true (.load none 27), gK 29 19 true (.call 303 [23, 28]), oQ 30 (.pick 19 29 (cB false))] false [0, 1, 2, 6, 7, 30])
 (.cond 30
 .skip
 (.exit 2)))
 (.seq
 (.block 3
 (.dreg 6 [oM 33 0, oM 34 7, oM 35 0, oM 36 7, oQ 37 (.bin .sub 36 (cI 1)), oM 38 0, oM 39 7, oQ 40 (.bin .sub 39 (cI 1)), oQ 41 (.iaddr 1 38 40), oQ 42 (.load none 41), oM 43 0, oM 44 7, oQ 45 (.iaddr 1 43 44), oQ 46 (.load none 45), oQ 47 (.iaddr 1 33 34), oN (.store 1 47 42), oQ 48 (.iaddr 1 35 37), oN (.store 1 48 46)] false [0, 1, 2, 6, 7]))
 (.reg 5 [oM 31 7, oQ 32 (.bin .sub 31 (cI 1)), oM 7 32] [0, 1, 2, 6, 7])))))))
 (.reg 2 [oM 13 6, oQ 14 (.bin .add 13 (cI 1)), oM 6 14] [0, 1, 2, 6]))))))
theorem fok297 : FOK Tryz.prog 297 (49, ic297, []) := fokA [2000000] Tryz.func297 (by kernel_rfl) (by kernel_rfl) (by kernel_rfl) (by kernel_rfl)
def ic298 : IC :=
 (.seq
 (.reg 0 [oM 11 1, oM 6 11] [0, 1, 2, 6])
 (.seq
 (.reg 1 [oM 7 (cI 0)] [0, 1, 2, 6, 7])
 (.seq
 (.reg 2 [oM 12 2, oM 13 1, oQ 14 (.bin .sub 12 13), oM 8 14] [0, 6, 7, 8])
 (.seq
 (.seq
 (.reg 3 [oM 15 8, oQ 16 (.bin .sub 15 (cI 1)), oQ 17 (.bin .quo 16 (cI 2)), oM 9 17] [0, 6, 7, 8, 9])
 (.block 0
 (.loop
 (.seq
 (.seq
 (.reg 4 [oM 18 9, oQ 19 (.bin .geq 18 (cI 0))] [0, 6, 7, 8, 9, 19])
 (.cond 19
 .skip
 (.exit 0)))
 (.seq
 (.block 1
 (.reg 6 [oM 22 0, oM 23 9, oM 24 8, oM 25 6, oK 26 (.call 339 [22, 23, 24, 25])] [0, 6, 7, 8, 9]))
 (.reg 5 [oM 20 9, oQ 21 (.bin .sub 20 (cI 1)), oM 9 21] [0, 6, 7, 8, 9]))))))
 (.seq
 (.reg 7 [oM 27 8, oQ 28 (.bin .sub 27 (cI 1)), oM 10 28] [0, 6, 7, 10])
 (.block 2
 (.loop
 (.seq
 (.seq
 (.reg 8 [oM 29 10, oQ 30 (.bin .geq 29 (cI 0))] [0, 6, 7, 10, 30])
 (.cond 30
 .skip
 (.exit 2)))
 (.seq
 (.block 3
 (.seq
 (.dreg 10 [oM 33 0, oM 34 6, oM 35 0, oM 36 6, oM 37 10, oQ 38 (.bin .add 36 37), oM 39 0, oM 40 6, oM 41 10, oQ 42 (.bin .add 40 41), oQ 43 (.iaddr 1 39 42), oQ 44 (.load none 43), oM 45 0, oM 46 6, oQ 47 (.iaddr 1 45 46), oQ 48 (.load none 47), oQ 49 (.iaddr 1 33 34), oN (.store 1 49 44), oQ 50 (.iaddr 1 35 38), oN (.store 1 50 48)] false [0, 6, 7, 10])
 (.reg 11 [oM 51 0, oM 52 7, oM 53 10, oM 54 6, oK 55 (.call 339 [51, 52, 53, 54])] [0, 6, 7, 10])))
 (.reg 9 [oM 31 10, oQ 32 (.bin .sub 31 (cI 1)), oM 10 32] [0, 6, 7, 10]))))))))))
theorem fok298 : FOK Tryz.prog 298 (56, ic298, []) := fokA [2000000] Tryz.func298 (by kernel_rfl) (by kernel_rfl) (by kernel_rfl) (by kernel_rfl)
def ic299 : IC :=
 (.seq
 (.reg 0 [oM 11 2, oM 12 1, oQ 13 (.bin .sub 11 12), oM 6 13] [0, 1, 6])
 (.seq
 (.reg 1 [oM 14 6, oQ 15 (.bin .geq 14 (cI 8))] [0, 1, 6, 15])
 (.cond 15
 (.seq
 (.reg 2 [oM 16 6, oQ 17 (.conv .u64 16), oK 7 (.alloc [(.int .u64 0)]), oN (.store 1 7 17)] [0, 1, 6, 7])
 (.seq
 (.reg 3 [oM 18 6, oK 19 (.call 340 [18]), oM 8 19] [0, 1, 6, 7, 8])
 (.seq
 (.reg 4 [oM 20 1, oM 21 6, oQ 22 (.bin .quo 21 (cI 4)), oQ 23 (.bin .mul 22 (cI 2)), oQ 24 (.bin .add 20 23), oQ 25 (.bin .sub 24 (cI 1)), oM 9 25] [0, 1, 6, 7, 8, 9])
 (.block 0
 (.loop
 (.seq
 (.seq
 (.reg 5 [oM 26 9, oM 27 1, oM 28 6, oQ 29 (.bin .quo 28 (cI 4)), oQ 30 (.bin .mul 29 (cI 2)), oQ 31 (.bin .add 27 30), oQ 32 (.bin .add 31 (cI 1)), oQ 33 (.bin .leq 26 32)] [0, 1, 6, 7, 8, 9, 33])
 (.cond 33
 .skip
 (.exit 0)))
 (.seq
 (.block 1
 (.seq
 (.reg 7 [oK 36 (.call 341 [7]), oM 37 8, oQ 38 (.bin .sub 37 (.c (.int .u64 1))), oQ 39 (.bin .and 36 38), oQ 40 (.conv .i64 39), oM 10 40] [0, 1, 6, 7, 8, 9, 10])
 (.seq
 (.seq
 (.reg 8 [oM 41 10, oM 42 6, oQ 43 (.bin .geq 41 42)] [0, 1, 6, 7, 8, 9, 10, 43])
 (.cond 43
 (.reg 9 [oM 44 10, oM 45 6, oQ 46 (.bin .sub 44 45), oM 10 46] [0, 1, 6, 7, 8, 9, 10])
 .skip))
 (.dreg 10 [oM 47 0, oM 48 9, oM 49 0, oM 50 1, oM 51 10, oQ 52 (.bin .add 50 51), oM 53 0, oM 54 1, oM 55 10, oQ 56 (.bin .add 54 55), oQ 57 (.iaddr 1 53 56), oQ 58 (.load none 57), oM 59 0, oM 60 9, oQ 61 (.iaddr 1 59 60), oQ 62 (.load none 61), oQ 63 (.iaddr 1 47 48), oN (.store 1 63 58), oQ 64 (.iaddr 1 49 52), oN (.store 1 64 62)] false [0, 1, 6, 7, 8, 9]))))
 (.reg 6 [oM 34 9, oQ 35 (.bin .add 34 (cI 1)), oM 9 35] [0, 1, 6, 7, 8, 9]))))))))
 .skip)))
theorem fok299 : FOK Tryz.prog 299 (65, ic299, []) := fokA [2000000] Tryz.func299 (by kernel_rfl) (by kernel_rfl) (by kernel_rfl) (by kernel_rfl)
def ic300 : IC :=
 (.seq
 (.reg 0 [oM 6 (cI 0), oM 7 (cI 0)] [0, 1, 2])
 (.seq
 (.reg 1 [oM 13 2, oM 14 1, oQ 15 (.bin .sub 13 14), oM 8 15] [0, 1, 8])
 (.seq
 (.reg 2 [oK 9 (.alloc [(zI 0)])] [0, 1, 8, 9])
 (.seq
 (.reg 3 [oM 16 1, oM 17 8, oQ 18 (.bin .quo 17 (cI 4)), oQ 19 (.bin .mul 18 (cI 1)), oQ 20 (.bin .add 16 19), oM 10 20] [0, 1, 8, 9, 10])
 (.seq
 (.reg 4 [oM 21 1, oM 22 8, oQ 23 (.bin .quo 22 (cI 4)), oQ 24 (.bin .mul 23 (cI 2)), oQ 25 (.bin .add 21 24), oM 11 25] [0, 1, 8, 9, 10, 11])
 (.seq
 (.reg 5 [oM 26 1, oM 27 8, oQ 28 (.bin .quo 27 (cI 4)), oQ 29 (.bin .mul 28 (cI 3)), oQ 30 (.bin .add 26 29), oM 12 30] [0, 8, 9, 10, 11, 12])
 (.seq
 (.seq
 (.reg 6 [oM 31 8, oQ 32 (.bin .geq 31 (cI 8))] [0, 8, 9, 10, 11, 12, 32])
 (.cond 32
 (.seq
 (.seq
 (.reg 7 [oM 33 8, oQ 34 (.bin .geq 33 (cI 50))] [0, 9, 10, 11, 12, 34])
 (.cond 34
 (.seq
 (.reg 8 [oM 35 0, oM 36 10, oK 37 (.call 342 [35, 36, 9]), oM 10 37] [0, 9, 10, 11, 12])
 (.seq
 (.reg 9 [oM 38 0, oM 39 11, oK 40 (.call 342 [38, 39, 9]), oM 11 40] [0, 9, 10, 11, 12])
 (.reg 10 [oM 41 0, oM 42 12, oK 43 (.call 342 [41, 42, 9]), oM 12 43] [0, 9, 10, 11, 12])))
 .skip))
 (.reg 11 [oM 44 0, oM 45 10, oM 46 11, oM 47 12, oK 48 (.call 343 [44, 45, 46, 47, 9]), oM 11 48] [9, 11]))
 .skip))
 (.seq
 (.reg 12 [oQ 49 (.load none 9)] [11, 49])
 (.block 0
 (.seq
 (.reg 14 [oQ 52 (.bin .eql 49 (cI 0)), oM 51 52] [11, 49, 51])
 (.cond 51
 (.seq
 (.reg 15 [oM 53 11, oM 6 53, oM 7 (cI 1)] [6, 7])
 .ret)
 (.seq
 (.reg 16 [oQ 55 (.bin .eql 49 (cI 12)), oM 54 55] [11, 54])
 (.cond 54
 (.seq
 (.reg 17 [oM 56 11, oM 6 56, oM 7 (cI 2)] [6, 7])
 .ret)
 (.seq
 (.reg 13 [oM 50 11, oM 6 50, oM 7 (cI 0)] [6, 7])
 .ret))))))))))))))
theorem fok300 : FOK Tryz.prog 300 (57, ic300, [(.t 6), (.t 7)]) := fokA [2000000] Tryz.func300 (by kernel_rfl) (by kernel_rfl) (by kernel_rfl) (by kernel_rfl)
def ic301 : IC :=
 (.seq
 (.reg 0 [oM 8 1, oM 6 8] [0, 2, 6])
 (.seq
 (.reg 1 [oM 9 2, oQ 10 (.bin .sub 9 (cI 1)), oM 7 10] [0, 6, 7])
 (.block 0
 (.loop
 (.seq
 (.seq
 (.reg 2 [oM 11 6, oM 12 7, oQ 13 (.bin .lss 11 12)] [0, 6, 7, 13])
 (.cond 13
 .skip
 (.exit 0)))
 (.block 1
 (.seq
 (.dreg 3 [oM 14 0, oM 15 6, oM 16 0, oM 17 7, oM 18 0, oM 19 7, oQ 20 (.iaddr 1 18 19), oQ 21 (.load none 20), oM 22 0, oM 23 6, oQ 24 (.iaddr 1 22 23), oQ 25 (.load none 24), oQ 26 (.iaddr 1 14 15), oN (.store 1 26 21), oQ 27 (.iaddr 1 16 17), oN (.store 1 27 25)] false [0, 6, 7])
 (.seq
 (.reg 4 [oM 28 6, oQ 29 (.bin .add 28 (cI 1)), oM 6 29] [0, 6, 7])
 (.reg 5 [oM 30 7, oQ 31 (.bin .sub 30 (cI 1)), oM 7 31] [0, 6, 7])))))))))
theorem fok301 : FOK Tryz.prog 301 (32, ic301, []) := fokA [2000000] Tryz.func301 (by kernel_rfl) (by kernel_rfl) (by kernel_rfl) (by kernel_rfl)
def ic302 : IC :=
 (.seq
 (.reg 0 [oM 6 (cB false)] [0, 1, 2])
 (.seq
 (.reg 1 [oM 11 1, oQ 12 (.bin .add 11 (cI 1)), oM 7 12] [0, 1, 2, 7])
 (.seq
 (.seq
 (.reg 2 [oM 8 (cI 0)] [0, 1, 2, 7, 8])
 (.block 0
 (.loop
 (.seq
 (.seq
 (.reg 3 [oM 13 8, oQ 14 (.bin .lss 13 (cI 5))] [0, 1, 2, 7, 8, 14])
 (.cond 14
 .skip
 (.exit 0)))
 (.seq
 (.block 1
 (.seq
 (.block 2
 (.loop
 (.seq
 (.seq
 (.dreg 5 [oM 17 7, oM 18 2, oQ 19 (.bin .lss 17 18), oM 20 19, gQ 21 20 true (.mov 0), gQ 22 20 true (.mov 7), gQ 23 20 true (.iaddr 1 21 22), gQ 24 20 true (.load none 23), gQ 25 20 true (.mov 0), gQ 26 20 true (.mov 7), gQ 27 20 true (.bin .sub 26 (cI 1)), gQ 28 20 true (.iaddr 1 25 27), gQ 29 20 true (.load none 28), gK 30 20 true (.call 303 [24, 29]), gQ 31 20 true (.not 30), oQ 32 (.pick 20 31 (cB false))] false [0, 1, 2, 7, 8, 32])
 (.cond 32
 .skip
 (.exit 2)))
 (.block 3
 (.reg 6 [oM 33 7, oQ 34 (.bin .add 33 (cI 1)), oM 7 34] [0, 1, 2, 7, 8])))))
 (.seq
 (.seq
 (.reg 7 [oM 35 7, oM 36 2, oQ 37 (.bin .eql 35 36)] [0, 1, 2, 7, 8, 37])
 (.cond 37
 (.seq
 (.reg 8 [oM 6 (cB true)] [6])
 .ret)
 .skip))
 (.seq
 (.seq
 (.reg 9 [oM 38 2, oM 39 1, oQ 40 (.bin .sub 38 39), oQ 41 (.bin .lss 40 (cI 50))] [0, 1, 2, 7, 8, 41])
 (.cond 41
 (.seq
 (.reg 10 [oM 6 (cB false)] [6])
 .ret)
 .skip))
 (.seq
 (.dreg 11 [oM 42 0, oM 43 7, oM 44 0, oM 45 7, oQ 46 (.bin .sub 45 (cI 1)), oM 47 0, oM 48 7, oQ 49 (.bin .sub 48 (cI 1)), oQ 50 (.iaddr 1 47 49), oQ 51 (.load none 50), oM 52 0, oM 53 7, oQ 54 (.iaddr 1 52 53), oQ 55 (.load none 54), oQ 56 (.iaddr 1 42 43), oN (.store 1 56 51), oQ 57 (.iaddr 1 44 46), oN (.store 1 57 55)] false [0, 1, 2, 7, 8])
 (.seq
 (.seq
 (.reg 12 [oM 58 7, oM 59 1, oQ 60 (.bin .sub 58 59), oQ 61 (.bin .geq 60 (cI 2))] [0, 1, 2, 7, 8, 61])
 (.cond 61
 (.seq
 (.reg 13 [oM 62 7, oQ 63 (.bin .sub 62 (cI 1)), oM 9 63] [0, 1, 2, 7, 8, 9])
 (.block 4
 (.loop
 (.seq
 (.seq
 (.reg 14 [oM 64 9, oQ 65 (.bin .geq 64 (cI 1))] [0, 1, 2, 7, 8, 9, 65])
 (.cond 65
 .skip
 (.exit 4)))
 (.seq
 (.block 5
 (.seq
 (.seq
 (.dreg 16 [oM 68 0, oM 69 9, oQ 70 (.iaddr 1 68 69), oQ 71 (.load none 70), oM 72 0, oM 73 9, oQ 74 (.bin .sub 73 (cI 1)), oQ 75 (.iaddr 1 72 74), oQ 76 (.load none 75), oK 77 (.call 303 [71, 76]), oQ 78 (.not 77)] false [0, 1, 2, 7, 8, 9, 78])
 (.cond 78
 (.exit 4)
 .skip))
 (.dreg 17 [oM 79 0, oM 80 9, oM 81 0, oM 82 9, oQ 83 (.bin .sub 82 (cI 1)), oM 84 0, oM 85 9, oQ 86 (.bin .sub 85 (cI 1)), oQ 87 (.iaddr 1 84 86), oQ 88 (.load none 87), oM 89 0, oM 90 9, oQ 91 (.iaddr 1 89 90), oQ 92 (.load none 91), oQ 93 (.iaddr 1 79 80), oN (.store 1 93 88), oQ 94 (.iaddr 1 81 83), oN (.store 1 94 92)] false [0, 1, 2, 7, 8, 9])))
 (.reg 15 [oM 66 9, oQ 67 (.bin .sub 66 (cI 1)), oM 9 67] [0, 1, 2, 7, 8, 9]))))))
 .skip))
 (.seq
 (.reg 18 [oM 95 2, oM 96 7, oQ 97 (.bin .sub 95 96), oQ 98 (.bin .geq 97 (cI 2))] [0, 1, 2, 7, 8, 98])
 (.cond 98
 (.seq
 (.reg 19 [oM 99 7, oQ 100 (.bin .add 99 (cI 1)), oM 10 100] [0, 1, 2, 7, 8, 10])
 (.block 6
 (.loop
 (.seq
 (.seq
 (.reg 20 [oM 101 10, oM 102 2, oQ 103 (.bin .lss 101 102)] [0, 1, 2, 7, 8, 10, 103])
 (.cond 103
 .skip
 (.exit 6)))
 (.seq
 (.block 7
 (.seq
 (.seq
 (.dreg 22 [oM 106 0, oM 107 10, oQ 108 (.iaddr 1 106 107), oQ 109 (.load none 108), oM 110 0, oM 111 10, oQ 112 (.bin .sub 111 (cI 1)), oQ 113 (.iaddr 1 110 112), oQ 114 (.load none 113), oK 115 (.call 303 [109, 114]), oQ 116 (.not 115)] false [0, 1, 2, 7, 8, 10, 116])
 (.cond 116
 (.exit 6)
 .skip))
 (.dreg 23 [oM 117 0, oM 118 10, oM 119 0, oM 120 10, oQ 121 (.bin .sub 120 (cI 1)), oM 122 0, oM 123 10, oQ 124 (.bin .sub 123 (cI 1)), oQ 125 (.iaddr 1 122 124), oQ 126 (.load none 125), oM 127 0, oM 128 10, oQ 129 (.iaddr 1 127 128), oQ 130 (.load none 129), oQ 131 (.iaddr 1 117 118), oN (.store 1 131 126), oQ 132 (.iaddr 1 119 121), oN (.store 1 132 130)] false [0, 1, 2, 7, 8, 10])))
 (.reg 21 [oM 104 10, oQ 105 (.bin .add 104 (cI 1)), oM 10 105] [0, 1, 2, 7, 8, 10]))))))
 .skip))))))))
 (.reg 4 [oM 15 8, oQ 16 (.bin .add 15 (cI 1)), oM 8 16] [0, 1, 2, 7, 8]))))))
 (.seq
 (.reg 24 [oM 6 (cB false)] [6])
 .ret))))
theorem fok302 : FOK Tryz.prog 302 (133, ic302, [(.t 6)]) := fokA [2000000] Tryz.func302 (by kernel_rfl) (by kernel_rfl) (by kernel_rfl) (by kernel_rfl)
def ic303 : IC :=
 (.seq
 (.reg 0 [oM 4 (cB false)] [0, 1])
 (.seq
 (.reg 1 [oM 5 0, oK 6 (.call 269 [5]), oM 7 6, gQ 8 7 true (.mov 1), gK 9 7 true (.call 269 [8]), gQ 10 7 true (.not 9), oQ 11 (.pick 7 10 (cB false)), oM 12 11, gQ 13 12 false (.mov 0), gQ 14 12 false (.mov 1), gQ 15 12 false (.bin .lss 13 14), oQ 16 (.pick 12 (cB true) 15), oM 4 16] [4])
 .ret))
theorem fok303 : FOK Tryz.prog 303 (17, ic303, [(.t 4)]) := fokA [2000000] Tryz.func303 (by kernel_rfl) (by kernel_rfl) (by kernel_rfl) (by kernel_rfl)
def ic304 : IC :=
 (.seq
 (.reg 0 [oM 8 (cI 0)] [0, 1, 2, 3])
 (.seq
 (.dreg 1 [oM 11 0, oM 12 1, oM 13 0, oM 14 3, oM 15 0, oM 16 3, oQ 17 (.iaddr 1 15 16), oQ 18 (.load none 17), oM 19 0, oM 20 1, oQ 21 (.iaddr 1 19 20), oQ 22 (.load none 21), oQ 23 (.iaddr 1 11 12), oN (.store 1 23 18), oQ 24 (.iaddr 1 13 14), oN (.store 1 24 22)] false [0, 1, 2])
 (.seq
 (.reg 2 [oM 25 1, oQ 26 (.bin .add 25 (cI 1)), oM 27 2, oQ 28 (.bin .sub 27 (cI 1)), oM 9 26, oM 10 28] [0, 1, 9, 10])
 (.seq
 (.block 0
 (.loop
 (.block 1
 (.seq
 (.block 2
 (.loop
 (.seq
 (.seq
 (.dreg 3 [oM 29 9, oM 30 10, oQ 31 (.bin .leq 29 30), oM 32 31, gQ 33 32 true (.mov 0), gQ 34 32 true (.mov 1), gQ 35 32 true (.iaddr 1 33 34), gQ 36 32 true (.load none 35), gQ 37 32 true (.mov 0), gQ 38 32 true (.mov 9), gQ 39 32 true (.iaddr 1 37 38), gQ 40 32 true (.load none 39), gK 41 32 true (.call 303 [36, 40]), gQ 42 32 true (.not 41), oQ 43 (.pick 32 42 (cB false))] false [0, 1, 9, 10, 43])
 (.cond 43
 .skip
 (.exit 2)))
 (.block 3
 (.reg 4 [oM 44 9, oQ 45 (.bin .add 44 (cI 1)), oM 9 45] [0, 1, 9, 10])))))
 (.seq
 (.block 4
 (.loop
 (.seq
 (.seq
 (.dreg 5 [oM 46 9, oM 47 10, oQ 48 (.bin .leq 46 47), oM 49 48, gQ 50 49 true (.mov 0), gQ 51 49 true (.mov 1), gQ 52 49 true (.iaddr 1 50 51), gQ 53 49 true (.load none 52), gQ 54 49 true (.mov 0), gQ 55 49 true (.mov 10), gQ 56 49 true (.iaddr 1 54 55), gQ 57 49 true (.load none 56), gK 58 49 true (.call 303 [53, 57]), oQ 59 (.pick 49 58 (cB false))] false [0, 1, 9, 10, 59])
 (.cond 59
 .skip
 (.exit 4)))
 (.block 5
 (.reg 6 [oM 60 10, oQ 61 (.bin .sub 60 (cI 1)), oM 10 61] [0, 1, 9, 10])))))
 (.seq
 (.seq
 (.reg 7 [oM 62 9, oM 63 10, oQ 64 (.bin .gtr 62 63)] [0, 1, 9, 10, 64])
 (.cond 64
 (.exit 0)
 .skip))
 (.seq
 (.dreg 8 [oM 65 0, oM 66 9, oM 67 0, oM 68 10, oM 69 0, oM 70 10, oQ 71 (.iaddr 1 69 70), oQ 72 (.load none 71), oM 73 0, oM 74 9, oQ 75 (.iaddr 1 73 74), oQ 76 (.load none 75), oQ 77 (.iaddr 1 65 66), oN (.store 1 77 72), oQ 78 (.iaddr 1 67 68), oN (.store 1 78 76)] false [0, 1, 9, 10])
 (.seq
 (.reg 9 [oM 79 9, oQ 80 (.bin .add 79 (cI 1)), oM 9 80] [0, 1, 9, 10])
 (.reg 10 [oM 81 10, oQ 82 (.bin .sub 81 (cI 1)), oM 10 82] [0, 1, 9, 10])))))))))
 (.seq
 (.reg 11 [oM 83 9, oM 8 83] [8])
 .ret)))))
theorem fok304 : FOK Tryz.prog 304 (84, ic304, [(.t 8)]) := fokA [2000000] Tryz.func304 (by kernel_rfl) (by kernel_rfl) (by kernel_rfl) (by kernel_rfl)
def ic305 : IC :=
 (.seq
 (.reg 0 [oM 8 (cI 0), oM 9 (cB false)] [0, 1, 2, 3])
 (.seq
 (.dreg 1 [oM 12 0, oM 13 1, oM 14 0, oM 15 3, oM 16 0, oM 17 3, oQ 18 (.iaddr 1 16 17), oQ 19 (.load none 18), oM 20 0, oM 21 1, oQ 22 (.iaddr 1 20 21), oQ 23 (.load none 22), oQ 24 (.iaddr 1 12 13), oN (.store 1 24 19), oQ 25 (.iaddr 1 14 15), oN (.store 1 25 23)] false [0, 1, 2])
 (.seq
 (.reg 2 [oM 26 1, oQ 27 (.bin .add 26 (cI 1)), oM 28 2, oQ 29 (.bin .sub 28 (cI 1)), oM 10 27, oM 11 29] [0, 1, 10, 11])
 (.seq
 (.block 0
 (.loop
 (.seq
 (.seq
 (.dreg 3 [oM 30 10, oM 31 11, oQ 32 (.bin .leq 30 31), oM 33 32, gQ 34 33 true (.mov 0), gQ 35 33 true (.mov 10), gQ 36 33 true (.iaddr 1 34 35), gQ 37 33 true (.load none 36), gQ 38 33 true (.mov 0), gQ 39 33 true (.mov 1), gQ 40 33 true (.iaddr 1 38 39), gQ 41 33 true (.load none 40), gK 42 33 true (.call 303 [37, 41]), oQ 43 (.pick 33 42 (cB false))] false [0, 1, 10, 11, 43])
 (.cond 43
 .skip
 (.exit 0)))
 (.block 1
 (.reg 4 [oM 44 10, oQ 45 (.bin .add 44 (cI 1)), oM 10 45] [0, 1, 10, 11])))))
 (.seq
 (.block 2
 (.loop
 (.seq
 (.seq
 (.dreg 5 [oM 46 10, oM 47 11, oQ 48 (.bin .leq 46 47), oM 49 48, gQ 50 49 true (.mov 0), gQ 51 49 true (.mov 11), gQ 52 49 true (.iaddr 1 50 51), gQ 53 49 true (.load none 52), gQ 54 49 true (.mov 0), gQ 55 49 true (.mov 1), gQ 56 49 true (.iaddr 1 54 55), gQ 57 49 true (.load none 56), gK 58 49 true (.call 303 [53, 57]), gQ 59 49 true (.not 58), oQ 60 (.pick 49 59 (cB false))] false [0, 1, 10, 11, 60])
 (.cond 60
 .skip
 (.exit 2)))
 (.block 3
 (.reg 6 [oM 61 11, oQ 62 (.bin .sub 61 (cI 1)), oM 11 62] [0, 1, 10, 11])))))
 (.seq
 (.seq
 (.reg 7 [oM 63 10, oM 64 11, oQ 65 (.bin .gtr 63 64)] [0, 1, 10, 11, 65])
 (.cond 65
 (.seq
 (.dreg 8 [oM 66 0, oM 67 11, oM 68 0, oM 69 1, oM 70 0, oM 71 1, oQ 72 (.iaddr 1 70 71), oQ 73 (.load none 72), oM 74 0, oM 75 11, oQ 76 (.iaddr 1 74 75), oQ 77 (.load none 76), oQ 78 (.iaddr 1 66 67), oN (.store 1 78 73), oQ 79 (.iaddr 1 68 69), oN (.store 1 79 77)] false [11])
 (.seq
 (.reg 9 [oM 80 11, oM 8 80, oM 9 (cB true)] [8, 9])
 .ret))
 .skip))
 (.seq
 (.dreg 10 [oM 81 0, oM 82 10, oM 83 0, oM 84 11, oM 85 0, oM 86 11, oQ 87 (.iaddr 1 85 86), oQ 88 (.load none 87), oM 89 0, oM 90 10, oQ 91 (.iaddr 1 89 90), oQ 92 (.load none 91), oQ 93 (.iaddr 1 81 82), oN (.store 1 93 88), oQ 94 (.iaddr 1 83 84), oN (.store 1 94 92)] false [0, 1, 10, 11])
 (.seq
 (.reg 11 [oM 95 10, oQ 96 (.bin .add 95 (cI 1)), oM 10 96] [0, 1, 10, 11])
 (.seq
 (.reg 12 [oM 97 11, oQ 98 (.bin .sub 97 (cI 1)), oM 11 98] [0, 1, 10, 11])
 (.seq
 (.block 4
 (.loop
 (.block 5
 (.seq
 (.block 6
 (.loop
 (.seq
 (.seq
 (.dreg 13 [oM 99 10, oM 100 11, oQ 101 (.bin .leq 99 100), oM 102 101, gQ 103 102 true (.mov 0), gQ 104 102 true (.mov 10), gQ 105 102 true (.iaddr 1 103 104), gQ 106 102 true (.load none 105), gQ 107 102 true (.mov 0), gQ 108 102 true (.mov 1), gQ 109 102 true (.iaddr 1 107 108), gQ 110 102 true (.load none 109), gK 111 102 true (.call 303 [106, 110]), oQ 112 (.pick 102 111 (cB false))] false [0, 1, 10, 11, 112])
 (.cond 112
 .skip
 (.exit 6)))
 (.block 7
 (.reg 14 [oM 113 10, oQ 114 (.bin .add 113 (cI 1)), oM 10 114] [0, 1, 10, 11])))))
 (.seq
 (.block 8
 (.loop
 (.seq
 (.seq
 (.dreg 15 [oM 115 10, oM 116 11, oQ 117 (.bin .leq 115 116), oM 118 117, gQ 119 118 true (.mov 0), gQ 120 118 true (.mov 11), gQ 121 118 true (.iaddr 1 119 120), gQ 122 118 true (.load none 121), gQ 123 118 true (.mov 0), gQ 124 118 true (.mov 1), gQ 125 118 true (.iaddr 1 123 124), gQ 126 118 true (.load none 125), gK 127 118 true (.call 303 [122, 126]), gQ 128 118 true (.not 127), oQ 129 (.pick 118 128 (cB false))] false [0, 1, 10, 11, 129])
 (.cond 129
 .skip
 (.exit 8)))
 (.block 9
 (.reg 16 [oM 130 11, oQ 131 (.bin .sub 130 (cI 1)), oM 11 131] [0, 1, 10, 11])))))
 (.seq
 (.seq
 (.reg 17 [oM 132 10, oM 133 11, oQ 134 (.bin .gtr 132 133)] [0, 1, 10, 11, 134])
 (.cond 134
 (.exit 4)
 .skip))
 (.seq
 (.dreg 18 [oM 135 0, oM 136 10, oM 137 0, oM 138 11, oM 139 0, oM 140 11, oQ 141 (.iaddr 1 139 140), oQ 142 (.load none 141), oM 143 0, oM 144 10, oQ 145 (.iaddr 1 143 144), oQ 146 (.load none 145), oQ 147 (.iaddr 1 135 136), oN (.store 1 147 142), oQ 148 (.iaddr 1 137 138), oN (.store 1 148 146)] false [0, 1, 10, 11])
 (.seq
 (.reg 19 [oM 149 10, oQ 150 (.bin .add 149 (cI 1)), oM 10 150] [0, 1, 10, 11])
 (.reg 20 [oM 151 11, oQ 152 (.bin .sub 151 (cI 1)), oM 11 152] [0, 1, 10, 11])))))))))
 (.seq
 (.dreg 21 [oM 153 0, oM 154 11, oM 155 0, oM 156 1, oM 157 0, oM 158 1, oQ 159 (.iaddr 1 157 158), oQ 160 (.load none 159), oM 161 0, oM 162 11, oQ 163 (.iaddr 1 161 162), oQ 164 (.load none 163), oQ 165 (.iaddr 1 153 154), oN (.store 1 165 160), oQ 166 (.iaddr 1 155 156), oN (.store 1 166 164)] false [11])
 (.seq
 (.reg 22 [oM 167 11, oM 8 167, oM 9 (cB false)] [8, 9])
 .ret))))))))))))
theorem fok305 : FOK Tryz.prog 305 (168, ic305, [(.t 8), (.t 9)]) := fokA [2000000] Tryz.func305 (by kernel_rfl) (by kernel_rfl) (by kernel_rfl) (by kernel_rfl)
def ic306 : IC :=
 (.seq
 (.reg 0 [oM 2 (cI 0)] [0, 2])
 (.seq
 (.seq
 (.reg 1 [oM 3 0, oQ 4 (.bin .geq 3 (.c (.int .u32 65536)))] [0, 2, 4])
 (.cond 4
 (.seq
 (.reg 2 [oM 5 0, oQ 6 (.bin .shr 5 (.c (.int .u64 16))), oM 0 6] [0])
 (.reg 3 [oM 2 (cI 16)] [0, 2]))
 .skip))
 (.seq
 (.seq
 (.reg 4 [oM 7 0, oQ 8 (.bin .geq 7 (.c (.int .u32 256)))] [0, 2, 8])
 (.cond 8
 (.seq
 (.reg 5 [oM 9 0, oQ 10 (.bin .shr 9 (.c (.int .u64 8))), oM 0 10] [0, 2])
 (.reg 6 [oM 11 2, oQ 12 (.bin .add 11 (cI 8)), oM 2 12] [0, 2]))
 .skip))
 (.seq
 (.reg 7 [oM 13 2, oM 14 0, oQ 15 (.conv .u8 14), oQ 16 (.istr (.c (.str [0, 1, 2, 2, 3, 3, 3, 3, 4, 4, 4, 4, 4, 4, 4, 4, 5, 5, 5, 5, 5, 5, 5, 5, 5, 5, 5, 5, 5, 5, 5, 5, 6, 6, 6, 6, 6, 6, 6, 6, 6, 6, 6, 6, 6, 6, 6, 6, 6, 6, 6, 6, 6, 6, 6, 6, 6, 6, 6, 6, 6, 6, 6, 6, 7, 7, 7, 7, 7, 7, 7, 7, 7, 7, 7, 7, 7, 7, 7, 7, 7, 7, 7, 7, 7, 7, 7, 7, 7, 7, 7, 7, 7, 7, 7, 7, 7, 7, 7, 7, 7, 7, 7, 7, 7, 7, 7, 7, 7, 7, 7, 7, 7, 7, 7, 7, 7, 7, 7, 7, 7, 7, 7, 7, 7, 7, 7, 7, 8, 8, 8, 8, 8, 8, 8, 8, 8, 8, 8, 8, 8, 8, 8, 8, 8, 8, 8, 8, 8, 8, 8, 8, 8, 8, 8, 8, 8, 8, 8, 8, 8, 8, 8, 8, 8, 8, 8, 8, 8, 8, 8, 8, 8, 8, 8, 8, 8, 8, 8, 8, 8, 8, 8, 8, 8, 8, 8, 8, 8, 8, 8, 8, 8, 8, 8, 8, 8, 8, 8, 8, 8, 8, 8, 8, 8, 8, 8, 8, 8, 8, 8, 8, 8, 8, 8, 8, 8, 8, 8, 8, 8, 8, 8, 8, 8, 8, 8, 8, 8, 8, 8, 8, 8, 8, 8, 8, 8, 8, 8, 8, 8, 8, 8, 8, 8, 8, 8, 8, 8, 8, 8, 8, 8, 8, 8, 8])) 15), oQ 17 (.conv .i64 16), oQ 18 (.bin .add 13 17), oM 2 18] [2])
 .ret))))
theorem fok306 : FOK Tryz.prog 306 (19, ic306, [(.t 2)]) := fokA [2000000] Tryz.func306 (by kernel_rfl) (by kernel_rfl) (by kernel_rfl) (by kernel_rfl)
def ic307 : IC :=
 (.seq
 (.reg 0 [oM 2 (cI 0)] [0, 2])
 (.seq
 (.seq
 (.reg 1 [oM 3 0, oQ 4 (.bin .geq 3 (.c (.int .u64 4294967296)))] [0, 2, 4])
 (.cond 4
 (.seq
 (.reg 2 [oM 5 0, oQ 6 (.bin .shr 5 (.c (.int .u64 32))), oM 0 6] [0])
 (.reg 3 [oM 2 (cI 32)] [0, 2]))
 .skip))
 (.seq
 (.seq
 (.reg 4 [oM 7 0, oQ 8 (.bin .geq 7 (.c (.int .u64 65536)))] [0, 2, 8])
 (.cond 8
 (.seq
 (.reg 5 [oM 9 0, oQ 10 (.bin .shr 9 (.c (.int .u64 16))), oM 0 10] [0, 2])
 (.reg 6 [oM 11 2, oQ 12 (.bin .add 11 (cI 16)), oM 2 12] [0, 2]))
 .skip))
 (.seq
 (.seq
 (.reg 7 [oM 13 0, oQ 14 (.bin .geq 13 (.c (.int .u64 256)))] [0, 2, 14])
 (.cond 14
 (.seq
 (.reg 8 [oM 15 0, oQ 16 (.bin .shr 15 (.c (.int .u64 8))), oM 0 16] [0, 2])
 (.reg 9 [oM 17 2, oQ 18 (.bin .add 17 (cI 8)), oM 2 18] [0, 2]))
 .skip))
 (.seq
 (.reg 10 [oM 19 2, oM 20 0, oQ 21 (.conv .u8 20), oQ 22 (.istr (.c (.str [0, 1, 2, 2, 3, 3, 3, 3, 4, 4, 4, 4, 4, 4, 4, 4, 5, 5, 5, 5, 5, 5, 5, 5, 5, 5, 5, 5, 5, 5, 5, 5, 6, 6, 6, 6, 6, 6, 6, 6, 6, 6, 6, 6, 6, 6, 6, 6, 6, 6, 6, 6, 6, 6, 6, 6, 6, 6, 6, 6, 6, 6, 6, 6, 7, 7, 7, 7, 7, 7, 7, 7, 7, 7, 7, 7, 7, 7, 7, 7, 7, 7, 7, 7, 7, 7, 7, 7, 7, 7, 7, 7, 7, 7, 7, 7, 7, 7, 7, 7, 7, 7, 7, 7, 7, 7, 7, 7, 7, 7, 7, 7, 7, 7, 7, 7, 7, 7, 7, 7, 7, 7, 7, 7, 7, 7, 7, 7, 8, 8, 8, 8, 8, 8, 8, 8, 8, 8, 8, 8, 8, 8, 8, 8, 8, 8, 8, 8, 8, 8, 8, 8, 8, 8, 8, 8, 8, 8, 8, 8, 8, 8, 8, 8, 8, 8, 8, 8, 8, 8, 8, 8, 8, 8, 8, 8, 8, 8, 8, 8, 8, 8, 8, 8, 8, 8, 8, 8, 8, 8, 8, 8, 8, 8, 8, 8, 8, 8, 8, 8, 8, 8, 8, 8, 8, 8, 8, 8, 8, 8, 8, 8, 8, 8, 8, 8, 8, 8, 8, 8, 8, 8, 8, 8, 8, 8, 8, 8, 8, 8, 8, 8, 8, 8, 8, 8, 8, 8, 8, 8, 8, 8, 8, 8, 8, 8, 8, 8, 8, 8, 8, 8, 8, 8, 8, 8])) 21), oQ 23 (.conv .i64 22), oQ 24 (.bin .add 19 23), oM 2 24] [2])
 .ret)))))
theorem fok307 : FOK Tryz.prog 307 (25, ic307, [(.t 2)]) := fokA [2000000] Tryz.func307 (by kernel_rfl) (by kernel_rfl) (by kernel_rfl) (by kernel_rfl)
def ic308 : IC :=
 (.seq
 (.reg 0 [oM 2 (.c (zU 0))] [0])
 (.seq
 (.reg 1 [oQ 3 (.bld [(zU 0), (zU 0), (zU 0)] [⟨0, ⟨1, (.c (zU 1))⟩⟩, ⟨1, ⟨1, (.c (zU 2))⟩⟩, ⟨2, ⟨1, (.c (zU 4))⟩⟩]), oM 4 0, oQ 5 (.bin .add 4 (cI 1)), oQ 6 (.idx none 3 1 3 5), oM 2 6] [2])
 .ret))
theorem fok308 : FOK Tryz.prog 308 (7, ic308, [(.t 2)]) := fokA [2000000] Tryz.func308 (by kernel_rfl) (by kernel_rfl) (by kernel_rfl) (by kernel_rfl)
def ic309 : IC :=
 (.seq
 (.reg 0 [oM 3 (cB false)] [0, 1])
 (.seq
 (.reg 1 [oQ 4 (.faddr 1 1), oQ 5 (.load none 4), oM 6 0, oQ 7 (.iaddr 1 5 6), oQ 8 (.load none 7), oM 3 8] [3])
 .ret))
theorem fok309 : FOK Tryz.prog 309 (9, ic309, [(.t 3)]) := fokA [2000000] Tryz.func309 (by kernel_rfl) (by kernel_rfl) (by kernel_rfl) (by kernel_rfl)
def ic310 : IC :=
 (.seq
 (.reg 0 [oK 2 (.boxt 0), oM 3 (cB false)] [1, 2])
 (.seq
 (.reg 1 [oQ 4 (.load (some 2) 1), oQ 5 (.load (some 7) 2), oK 6 (.call 172 [4, 5]), oQ 7 (.not 6), oM 3 7] [3])
 .ret))
theorem fok310 : FOK Tryz.prog 310 (8, ic310, [(.t 3)]) := fokA [1000002, 2000000] Tryz.func310 (by kernel_rfl) (by kernel_rfl) (by kernel_rfl) (by kernel_rfl)
def ic311 : IC :=
 (.seq
 (.reg 0 [oK 2 (.boxt 0), oM 4 (cB false)] [1, 2])
 (.seq
 (.seq
 (.reg 1 [oQ 7 (.faddr 1 2), oQ 8 (.load none 7), oQ 9 (.len 0 8), oM 10 (cI 0)] [1, 2, 8, 9, 10])
 (.block 0
 (.loop
 (.seq
 (.reg 2 [oQ 11 (.bin .lss 10 9)] [1, 2, 8, 9, 10, 11])
 (.seq
 (.cond 11
 .skip
 (.exit 0))
 (.seq
 (.block 1
 (.seq
 (.reg 3 [oM 12 10, oQ 13 (.iaddr 1 8 10), oQ 14 (.load none 13), oM 5 12, oM 6 14] [1, 2, 5, 6, 8, 9, 10])
 (.seq
 (.reg 4 [oM 15 6, oM 16 15, gQ 17 16 true (.mov 1), gQ 18 16 true (.faddr 0 2), gQ 19 16 true (.load none 18), gQ 20 16 true (.mov 5), gK 21 16 true (.bsl 1 1 [(zI 0)] [⟨0, ⟨1, 20⟩⟩]), gK 22 16 true (.call 171 [19, 21]), gK 23 16 true (.callv 17 [22]), oQ 24 (.pick 16 23 (cB false))] [1, 2, 8, 9, 10, 24])
 (.cond 24
 (.seq
 (.reg 5 [oM 4 (cB true)] [4])
 .ret)
 .skip))))
 (.reg 6 [oQ 25 (.bin .add 10 (cI 1)), oM 10 25] [1, 2, 8, 9, 10])))))))
 (.seq
 (.reg 7 [oM 4 (cB false)] [4])
 .ret)))
theorem fok311 : FOK Tryz.prog 311 (26, ic311, [(.t 4)]) := fokA [1000002, 2000000] Tryz.func311 (by kernel_rfl) (by kernel_rfl) (by kernel_rfl) (by kernel_rfl)
def ic312 : IC :=
 (.seq
 (.reg 0 [oK 2 (.boxt 0), oM 3 (cB false)] [1, 2])
 (.seq
 (.reg 1 [oQ 4 (.load (some 2) 2), oQ 5 (.load (some 7) 1), oK 6 (.call 248 [4, 5]), oM 3 6] [3])
 .ret))
theorem fok312 : FOK Tryz.prog 312 (7, ic312, [(.t 3)]) := fokA [1000002, 2000000] Tryz.func312 (by kernel_rfl) (by kernel_rfl) (by kernel_rfl) (by kernel_rfl)
def ic313 : IC :=
 (.seq
 (.reg 0 [oK 2 (.boxt 0), oM 3 (cB false)] [1, 2])
 (.seq
 (.dreg 1 [oQ 4 (.load (some 2) 2), oQ 5 (.faddr 6 1), oQ 6 (.load none 5), oQ 7 (.iaddr 7 6 (cI 0)), oQ 8 (.load (some 7) 7), oK 9 (.call 172 [4, 8]), oM 10 9, gQ 11 10 true (.load (some 2) 2), gQ 12 10 true (.faddr 6 1), gQ 13 10 true (.load none 12), gQ 14 10 true (.iaddr 7 13 (cI 1)), gQ 15 10 true (.load (some 7) 14), gK 16 10 true (.call 172 [11, 15]), gQ 17 10 true (.not 16), oQ 18 (.pick 10 17 (cB false)), oM 3 18] false [3])
 .ret))
theorem fok313 : FOK Tryz.prog 313 (19, ic313, [(.t 3)]) := fokA [1000002, 2000000] Tryz.func313 (by kernel_rfl) (by kernel_rfl) (by kernel_rfl) (by kernel_rfl)
def ic314 : IC :=
 (.seq
 (.reg 0 [oM 10 1, oQ 11 (.bin .add 10 (cI 1)), oM 8 11] [0, 1, 2, 3, 8])
 (.block 0
 (.loop
 (.seq
 (.seq
 (.reg 1 [oM 12 8, oM 13 2, oQ 14 (.bin .lss 12 13)] [0, 1, 2, 3, 8, 14])
 (.cond 14
 .skip
 (.exit 0)))
 (.seq
 (.block 1
 (.seq
 (.reg 3 [oM 17 8, oM 9 17] [0, 1, 2, 3, 8, 9])
 (.block 2
 (.loop
 (.seq
 (.seq
 (.dreg 4 [oM 18 9, oM 19 1, oQ 20 (.bin .gtr 18 19), oM 21 20, gQ 22 21 true (.mov 3), gQ 23 21 true (.mov 0), gQ 24 21 true (.mov 9), gQ 25 21 true (.iaddr 1 23 24), gQ 26 21 true (.load none 25), gQ 27 21 true (.mov 0), gQ 28 21 true (.mov 9), gQ 29 21 true (.bin .sub 28 (cI 1)), gQ 30 21 true (.iaddr 1 27 29), gQ 31 21 true (.load none 30), gK 32 21 true (.callv 22 [26, 31]), gQ 33 21 true (.bin .lss 32 (cI 0)), oQ 34 (.pick 21 33 (cB false))] false [0, 1, 2, 3, 8, 9, 34])
 (.cond 34
 .skip
 (.exit 2)))
 (.seq
 (.block 3
 (.dreg 6 [oM 37 0, oM 38 9, oM 39 0, oM 40 9, oQ 41 (.bin .sub 40 (cI 1)), oM 42 0, oM 43 9, oQ 44 (.bin .sub 43 (cI 1)), oQ 45 (.iaddr 1 42 44), oQ 46 (.load none 45), oM 47 0, oM 48 9, oQ 49 (.iaddr 1 47 48), oQ 50 (.load none 49), oQ 51 (.iaddr 1 37 38), oN (.store 1 51 46), oQ 52 (.iaddr 1 39 41), oN (.store 1 52 50)] false [0, 1, 2, 3, 8, 9]))
 (.reg 5 [oM 35 9, oQ 36 (.bin .sub 35 (cI 1)), oM 9 36] [0, 1, 2, 3, 8, 9])))))))
 (.reg 2 [oM 15 8, oQ 16 (.bin .add 15 (cI 1)), oM 8 16] [0, 1, 2, 3, 8]))))))
theorem fok314 : FOK Tryz.prog 314 (53, ic314, []) := fokA [2000000] Tryz.func314 (by kernel_rfl) (by kernel_rfl) (by kernel_rfl) (by kernel_rfl)
def ic315 : IC :=
 (.seq
 (.reg 0 [oM 13 1, oM 8 13] [0, 1, 2, 3, 8])
 (.seq
 (.reg 1 [oM 9 (cI 0)] [0, 1, 2, 3, 8, 9])
 (.seq
 (.reg 2 [oM 14 2, oM 15 1, oQ 16 (.bin .sub 14 15), oM 10 16] [0, 3, 8, 9, 10])
 (.seq
 (.seq
 (.reg 3 [oM 17 10, oQ 18 (.bin .sub 17 (cI 1)), oQ 19 (.bin .quo 18 (cI 2)), oM 11 19] [0, 3, 8, 9, 10, 11])
 (.block 0
 (.loop
 (.seq
 (.seq
 (.reg 4 [oM 20 11, oQ 21 (.bin .geq 20 (cI 0))] [0, 3, 8, 9, 10, 11, 21])
 (.cond 21
 .skip
 (.exit 0)))
 (.seq
 (.block 1
 (.reg 6 [oM 24 0, oM 25 11, oM 26 10, oM 27 8, oM 28 3, oK 29 (.call 344 [24, 25, 26, 27, 28])] [0, 3, 8, 9, 10, 11]))
 (.reg 5 [oM 22 11, oQ 23 (.bin .sub 22 (cI 1)), oM 11 23] [0, 3, 8, 9, 10, 11]))))))
 (.seq
 (.reg 7 [oM 30 10, oQ 31 (.bin .sub 30 (cI 1)), oM 12 31] [0, 3, 8, 9, 12])
 (.block 2
 (.loop
 (.seq
 (.seq
 (.reg 8 [oM 32 12, oQ 33 (.bin .geq 32 (cI 0))] [0, 3, 8, 9, 12, 33])
 (.cond 33
 .skip
 (.exit 2)))
 (.seq
 (.block 3
 (.seq
 (.dreg 10 [oM 36 0, oM 37 8, oM 38 0, oM 39 8, oM 40 12, oQ 41 (.bin .add 39 40), oM 42 0, oM 43 8, oM 44 12, oQ 45 (.bin .add 43 44), oQ 46 (.iaddr 1 42 45), oQ 47 (.load none 46), oM 48 0, oM 49 8, oQ 50 (.iaddr 1 48 49), oQ 51 (.load none 50), oQ 52 (.iaddr 1 36 37), oN (.store 1 52 47), oQ 53 (.iaddr 1 38 41), oN (.store 1 53 51)] false [0, 3, 8, 9, 12])
 (.reg 11 [oM 54 0, oM 55 9, oM 56 12, oM 57 8, oM 58 3, oK 59 (.call 344 [54, 55, 56, 57, 58])] [0, 3, 8, 9, 12])))
 (.reg 9 [oM 34 12, oQ 35 (.bin .sub 34 (cI 1)), oM 12 35] [0, 3, 8, 9, 12]))))))))))
theorem fok315 : FOK Tryz.prog 315 (60, ic315, []) := fokA [2000000] Tryz.func315 (by kernel_rfl) (by kernel_rfl) (by kernel_rfl) (by kernel_rfl)
def ic316 : IC :=
 (.seq
 (.reg 0 [oM 13 2, oM 14 1, oQ 15 (.bin .sub 13 14), oM 8 15] [0, 1, 8])
 (.seq
 (.reg 1 [oM 16 8, oQ 17 (.bin .geq 16 (cI 8))] [0, 1, 8, 17])
 (.cond 17
 (.seq
 (.reg 2 [oM 18 8, oQ 19 (.conv .u64 18), oK 9 (.alloc [(.int .u64 0)]), oN (.store 1 9 19)] [0, 1, 8, 9])
 (.seq
 (.reg 3 [oM 20 8, oK 21 (.call 340 [20]), oM 10 21] [0, 1, 8, 9, 10])
 (.seq
 (.reg 4 [oM 22 1, oM 23 8, oQ 24 (.bin .quo 23 (cI 4)), oQ 25 (.bin .mul 24 (cI 2)), oQ 26 (.bin .add 22 25), oQ 27 (.bin .sub 26 (cI 1)), oM 11 27] [0, 1, 8, 9, 10, 11])
 (.block 0
 (.loop
 (.seq
 (.seq
 (.reg 5 [oM 28 11, oM 29 1, oM 30 8, oQ 31 (.bin .quo 30 (cI 4)), oQ 32 (.bin .mul 31 (cI 2)), oQ 33 (.bin .add 29 32), oQ 34 (.bin .add 33 (cI 1)), oQ 35 (.bin .leq 28 34)] [0, 1, 8, 9, 10, 11, 35])
 (.cond 35
 .skip
 (.exit 0)))
 (.seq
 (.block 1
 (.seq
 (.reg 7 [oK 38 (.call 341 [9]), oM 39 10, oQ 40 (.bin .sub 39 (.c (.int .u64 1))), oQ 41 (.bin .and 38 40), oQ 42 (.conv .i64 41), oM 12 42] [0, 1, 8, 9, 10, 11, 12])
 (.seq
 (.seq
 (.reg 8 [oM 43 12, oM 44 8, oQ 45 (.bin .geq 43 44)] [0, 1, 8, 9, 10, 11, 12, 45])
 (.cond 45
 (.reg 9 [oM 46 12, oM 47 8, oQ 48 (.bin .sub 46 47), oM 12 48] [0, 1, 8, 9, 10, 11, 12])
 .skip))
 (.dreg 10 [oM 49 0, oM 50 11, oM 51 0, oM 52 1, oM 53 12, oQ 54 (.bin .add 52 53), oM 55 0, oM 56 1, oM 57 12, oQ 58 (.bin .add 56 57), oQ 59 (.iaddr 1 55 58), oQ 60 (.load none 59), oM 61 0, oM 62 11, oQ 63 (.iaddr 1 61 62), oQ 64 (.load none 63), oQ 65 (.iaddr 1 49 50), oN (.store 1 65 60), oQ 66 (.iaddr 1 51 54), oN (.store 1 66 64)] false [0, 1, 8, 9, 10, 11]))))
 (.reg 6 [oM 36 11, oQ 37 (.bin .add 36 (cI 1)), oM 11 37] [0, 1, 8, 9, 10, 11]))))))))
 .skip)))
theorem fok316 : FOK Tryz.prog 316 (67, ic316, []) := fokA [2000000] Tryz.func316 (by kernel_rfl) (by kernel_rfl) (by kernel_rfl) (by kernel_rfl)
def ic317 : IC :=
 (.seq
 (.reg 0 [oM 8 (cI 0), oM 9 (cI 0)] [0, 1, 2, 3])
 (.seq
 (.reg 1 [oM 15 2, oM 16 1, oQ 17 (.bin .sub 15 16), oM 10 17] [0, 1, 3, 10])
 (.seq
 (.reg 2 [oK 11 (.alloc [(zI 0)])] [0, 1, 3, 10, 11])
 (.seq
 (.reg 3 [oM 18 1, oM 19 10, oQ 20 (.bin .quo 19 (cI 4)), oQ 21 (.bin .mul 20 (cI 1)), oQ 22 (.bin .add 18 21), oM 12 22] [0, 1, 3, 10, 11, 12])
 (.seq
 (.reg 4 [oM 23 1, oM 24 10, oQ 25 (.bin .quo 24 (cI 4)), oQ 26 (.bin .mul 25 (cI 2)), oQ 27 (.bin .add 23 26), oM 13 27] [0, 1, 3, 10, 11, 12, 13])
 (.seq
 (.reg 5 [oM 28 1, oM 29 10, oQ 30 (.bin .quo 29 (cI 4)), oQ 31 (.bin .mul 30 (cI 3)), oQ 32 (.bin .add 28 31), oM 14 32] [0, 3, 10, 11, 12, 13, 14])
 (.seq
 (.seq
 (.reg 6 [oM 33 10, oQ 34 (.bin .geq 33 (cI 8))] [0, 3, 10, 11, 12, 13, 14, 34])
 (.cond 34
 (.seq
 (.seq
 (.reg 7 [oM 35 10, oQ 36 (.bin .geq 35 (cI 50))] [0, 3, 11, 12, 13, 14, 36])
 (.cond 36
 (.seq
 (.reg 8 [oM 37 0, oM 38 12, oM 39 3, oK 40 (.call 345 [37, 38, 11, 39]), oM 12 40] [0, 3, 11, 12, 13, 14])
 (.seq
 (.reg 9 [oM 41 0, oM 42 13, oM 43 3, oK 44 (.call 345 [41, 42, 11, 43]), oM 13 44] [0, 3, 11, 12, 13, 14])
 (.reg 10 [oM 45 0, oM 46 14, oM 47 3, oK 48 (.call 345 [45, 46, 11, 47]), oM 14 48] [0, 3, 11, 12, 13, 14])))
 .skip))
 (.reg 11 [oM 49 0, oM 50 12, oM 51 13, oM 52 14, oM 53 3, oK 54 (.call 346 [49, 50, 51, 52, 11, 53]), oM 13 54] [11, 13]))
 .skip))
 (.seq
 (.reg 12 [oQ 55 (.load none 11)] [13, 55])
 (.block 0
 (.seq
 (.reg 14 [oQ 58 (.bin .eql 55 (cI 0)), oM 57 58] [13, 55, 57])
 (.cond 57
 (.seq
 (.reg 15 [oM 59 13, oM 8 59, oM 9 (cI 1)] [8, 9])
 .ret)
 (.seq
 (.reg 16 [oQ 61 (.bin .eql 55 (cI 12)), oM 60 61] [13, 60])
 (.cond 60
 (.seq
 (.reg 17 [oM 62 13, oM 8 62, oM 9 (cI 2)] [8, 9])
 .ret)
 (.seq
 (.reg 13 [oM 56 13, oM 8 56, oM 9 (cI 0)] [8, 9])
 .ret))))))))))))))
theorem fok317 : FOK Tryz.prog 317 (63, ic317, [(.t 8), (.t 9)]) := fokA [2000000] Tryz.func317 (by kernel_rfl) (by kernel_rfl) (by kernel_rfl) (by kernel_rfl)
def ic318 : IC :=
 (.seq
 (.reg 0 [oM 10 1, oM 8 10] [0, 2, 8])
 (.seq
 (.reg 1 [oM 11 2, oQ 12 (.bin .sub 11 (cI 1)), oM 9 12] [0, 8, 9])
 (.block 0
 (.loop
 (.seq
 (.seq
 (.reg 2 [oM 13 8, oM 14 9, oQ 15 (.bin .lss 13 14)] [0, 8, 9, 15])
 (.cond 15
 .skip
 (.exit 0)))
 (.block 1
 (.seq
 (.dreg 3 [oM 16 0, oM 17 8, oM 18 0, oM 19 9, oM 20 0, oM 21 9, oQ 22 (.iaddr 1 20 21), oQ 23 (.load none 22), oM 24 0, oM 25 8, oQ 26 (.iaddr 1 24 25), oQ 27 (.load none 26), oQ 28 (.iaddr 1 16 17), oN (.store 1 28 23), oQ 29 (.iaddr 1 18 19), oN (.store 1 29 27)] false [0, 8, 9])
 (.seq
 (.reg 4 [oM 30 8, oQ 31 (.bin .add 30 (cI 1)), oM 8 31] [0, 8, 9])
 (.reg 5 [oM 32 9, oQ 33 (.bin .sub 32 (cI 1)), oM 9 33] [0, 8, 9])))))))))
theorem fok318 : FOK Tryz.prog 318 (34, ic318, []) := fokA [2000000] Tryz.func318 (by kernel_rfl) (by kernel_rfl) (by kernel_rfl) (by kernel_rfl)
def ic319 : IC :=
 (.seq
 (.reg 0 [oM 8 (cB false)] [0, 1, 2, 3])
 (.seq
 (.reg 1 [oM 13 1, oQ 14 (.bin .add 13 (cI 1)), oM 9 14] [0, 1, 2, 3, 9])
 (.seq
 (.seq
 (.reg 2 [oM 10 (cI 0)] [0, 1, 2, 3, 9, 10])
 (.block 0
 (.loop
 (.seq
 (.seq
 (.reg 3 [oM 15 10, oQ 16 (.bin .lss 15 (cI 5))] [0, 1, 2, 3, 9, 10, 16])
 (.cond 16
 .skip
 (.exit 0)))
 (.seq
 (.block 1
 (.seq
 (.block 2
 (.loop
 (.seq
 (.seq
 (.dreg 5 [oM 19 9, oM 20 2, oQ 21 (.bin .lss 19 20), oM 22 21, gQ 23 22 true (.mov 3), gQ 24 22 true (.mov 0), gQ 25 22 true (.mov 9), gQ 26 22 true (.iaddr 1 24 25), gQ 27 22 true (.load none 26), gQ 28 22 true (.mov 0), gQ 29 22 true (.mov 9), gQ 30 22 true (.bin .sub 29 (cI 1)), gQ 31 22 true (.iaddr 1 28 30), gQ 32 22 true (.load none 31), gK 33 22 true (.callv 23 [27, 32]), gQ 34 22 true (.bin .lss 33 (cI 0)), gQ 35 22 true (.not 34), oQ 36 (.pick 22 35 (cB false))] false [0, 1, 2, 3, 9, 10, 36])
 (.cond 36
 .skip
 (.exit 2)))
 (.block 3
 (.reg 6 [oM 37 9, oQ 38 (.bin .add 37 (cI 1)), oM 9 38] [0, 1, 2, 3, 9, 10])))))
 (.seq
 (.seq
 (.reg 7 [oM 39 9, oM 40 2, oQ 41 (.bin .eql 39 40)] [0, 1, 2, 3, 9, 10, 41])
 (.cond 41
 (.seq
 (.reg 8 [oM 8 (cB true)] [8])
 .ret)
 .skip))
 (.seq
 (.seq
 (.reg 9 [oM 42 2, oM 43 1, oQ 44 (.bin .sub 42 43), oQ 45 (.bin .lss 44 (cI 50))] [0, 1, 2, 3, 9, 10, 45])
 (.cond 45
 (.seq
 (.reg 10 [oM 8 (cB false)] [8])
 .ret)
 .skip))
 (.seq
 (.dreg 11 [oM 46 0, oM 47 9, oM 48 0, oM 49 9, oQ 50 (.bin .sub 49 (cI 1)), oM 51 0, oM 52 9, oQ 53 (.bin .sub 52 (cI 1)), oQ 54 (.iaddr 1 51 53), oQ 55 (.load none 54), oM 56 0, oM 57 9, oQ 58 (.iaddr 1 56 57), oQ 59 (.load none 58), oQ 60 (.iaddr 1 46 47), oN (.store 1 60 55), oQ 61 (.iaddr 1 48 50), oN (.store 1 61 59)] false [0, 1, 2, 3, 9, 10])
 (.seq
 (.seq
 (.reg 12 [oM 62 9, oM 63 1, oQ 64 (.bin .sub 62 63), oQ 65 (.bin .geq 64 (cI 2))] [0, 1, 2, 3, 9, 10, 65])
 (.cond 65
 (.seq
 (.reg 13 [oM 66 9, oQ 67 (.bin .sub 66 (cI 1)), oM 11 67] [0, 1, 2, 3, 9, 10, 11])
 (.block 4
 (.loop
 (.seq
 (.seq
 (.reg 14 [oM 68 11, oQ 69 (.bin .geq 68 (cI 1))] [0, 1, 2, 3, 9, 10, 11, 69])
 (.cond 69
 .skip
 (.exit 4)))
 (.seq
 (.block 5
 (.seq
 (.seq
 (.dreg 16 [oM 72 3, oM 73 0, oM 74 11, oQ 75 (.iaddr 1 73 74), oQ 76 (.load none 75), oM 77 0, oM 78 11, oQ 79 (.bin .sub 78 (cI 1)), oQ 80 (.iaddr 1 77 79), oQ 81 (.load none 80), oK 82 (.callv 72 [76, 81]), oQ 83 (.bin .lss 82 (cI 0)), oQ 84 (.not 83)] false [0, 1, 2, 3, 9, 10, 11, 84])
 (.cond 84
 (.exit 4)
 .skip))
 (.dreg 17 [oM 85 0, oM 86 11, oM 87 0, oM 88 11, oQ 89 (.bin .sub 88 (cI 1)), oM 90 0, oM 91 11, oQ 92 (.bin .sub 91 (cI 1)), oQ 93 (.iaddr 1 90 92), oQ 94 (.load none 93), oM 95 0, oM 96 11, oQ 97 (.iaddr 1 95 96), oQ 98 (.load none 97), oQ 99 (.iaddr 1 85 86), oN (.store 1 99 94), oQ 100 (.iaddr 1 87 89), oN (.store 1 100 98)] false [0, 1, 2, 3, 9, 10, 11])))
 (.reg 15 [oM 70 11, oQ 71 (.bin .sub 70 (cI 1)), oM 11 71] [0, 1, 2, 3, 9, 10, 11]))))))
 .skip))
 (.seq
 (.reg 18 [oM 101 2, oM 102 9, oQ 103 (.bin .sub 101 102), oQ 104 (.bin .geq 103 (cI 2))] [0, 1, 2, 3, 9, 10, 104])
 (.cond 104
 (.seq
 (.reg 19 [oM 105 9, oQ 106 (.bin .add 105 (cI 1)), oM 12 106] [0, 1, 2, 3, 9, 10, 12])
 (.block 6
 (.loop
 (.seq
 (.seq
 (.reg 20 [oM 107 12, oM 108 2, oQ 109 (.bin .lss 107 108)] [0, 1, 2, 3, 9, 10, 12, 109])
 (.cond 109
 .skip
 (.exit 6)))
 (.seq
 (.block 7
 (.seq
 (.seq
 (.dreg 22 [oM 112 3, oM 113 0, oM 114 12, oQ 115 (.iaddr 1 113 114), oQ 116 (.load none 115), oM 117 0, oM 118 12, oQ 119 (.bin .sub 118 (cI 1)), oQ 120 (.iaddr 1 117 119), oQ 121 (.load none 120), oK 122 (.callv 112 [116, 121]), oQ 123 (.bin .lss 122 (cI 0)), oQ 124 (.not 123)] false [0, 1, 2, 3, 9, 10, 12, 124])
 (.cond 124
 (.exit 6)
 .skip))
 (.dreg 23 [oM 125 0, oM 126 12, oM 127 0, oM 128 12, oQ 129 (.bin .sub 128 (cI 1)), oM 130 0, oM 131 12, oQ 132 (.bin .sub 131 (cI 1)), oQ 133 (.iaddr 1 130 132), oQ 134 (.load none 133), oM 135 0, oM 136 12, oQ 137 (.iaddr 1 135 136), oQ 138 (.load none 137), oQ 139 (.iaddr 1 125 126), oN (.store 1 139 134), oQ 140 (.iaddr 1 127 129), oN (.store 1 140 138)] false [0, 1, 2, 3, 9, 10, 12])))
 (.reg 21 [oM 110 12, oQ 111 (.bin .add 110 (cI 1)), oM 12 111] [0, 1, 2, 3, 9, 10, 12]))))))
 .skip))))))))
 (.reg 4 [oM 17 10, oQ 18 (.bin .add 17 (cI 1)), oM 10 18] [0, 1, 2, 3, 9, 10]))))))
 (.seq
 (.reg 24 [oM 8 (cB false)] [8])
 .ret))))
theorem fok319 : FOK Tryz.prog 319 (141, ic319, [(.t 8)]) := fokA [2000000] Tryz.func319 (by kernel_rfl) (by kernel_rfl) (by kernel_rfl) (by kernel_rfl)
def ic320 : IC :=
 (.seq
 (.reg 0 [oM 10 (cI 0)] [0, 1, 2, 3, 4])
 (.seq
 (.dreg 1 [oM 13 0, oM 14 1, oM 15 0, oM 16 3, oM 17 0, oM 18 3, oQ 19 (.iaddr 1 17 18), oQ 20 (.load none 19), oM 21 0, oM 22 1, oQ 23 (.iaddr 1 21 22), oQ 24 (.load none 23), oQ 25 (.iaddr 1 13 14), oN (.store 1 25 20), oQ 26 (.iaddr 1 15 16), oN (.store 1 26 24)] false [0, 1, 2, 4])
 (.seq
 (.reg 2 [oM 27 1, oQ 28 (.bin .add 27 (cI 1)), oM 29 2, oQ 30 (.bin .sub 29 (cI 1)), oM 11 28, oM 12 30] [0, 1, 4, 11, 12])
 (.seq
 (.block 0
 (.loop
 (.block 1
 (.seq
 (.block 2
 (.loop
 (.seq
 (.seq
 (.dreg 3 [oM 31 11, oM 32 12, oQ 33 (.bin .leq 31 32), oM 34 33, gQ 35 34 true (.mov 4), gQ 36 34 true (.mov 0), gQ 37 34 true (.mov 1), gQ 38 34 true (.iaddr 1 36 37), gQ 39 34 true (.load none 38), gQ 40 34 true (.mov 0), gQ 41 34 true (.mov 11), gQ 42 34 true (.iaddr 1 40 41), gQ 43 34 true (.load none 42), gK 44 34 true (.callv 35 [39, 43]), gQ 45 34 true (.bin .lss 44 (cI 0)), gQ 46 34 true (.not 45), oQ 47 (.pick 34 46 (cB false))] false [0, 1, 4, 11, 12, 47])
 (.cond 47
 .skip
 (.exit 2)))
 (.block 3
 (.reg 4 [oM 48 11, oQ 49 (.bin .add 48 (cI 1)), oM 11 49] [0, 1, 4, 11, 12])))))
 (.seq
 (.block 4
 (.loop
 (.seq
 (.seq
 (.dreg 5 [oM 50 11, oM 51 12, oQ 52 (.bin .leq 50 51), oM 53 52, gQ 54 53 true (.mov 4), gQ 55 53 true (.mov 0), gQ 56 53 true (.mov 1), gQ 57 53 true (.iaddr 1 55 56), gQ 58 53 true (.load none 57), gQ 59 53 true (.mov 0), gQ 60 53 true (.mov 12), gQ 61 53 true (.iaddr 1 59 60), gQ 62 53 true (.load none 61), gK 63 53 true (.callv 54 [58, 62]), gQ 64 53 true (.bin .lss 63 (cI 0)), oQ 65 (.pick 53 64 (cB false))] false [0, 1, 4, 11, 12, 65])
 (.cond 65
 .skip
 (.exit 4)))
 (.block 5
 (.reg 6 [oM 66 12, oQ 67 (.bin .sub 66 (cI 1)), oM 12 67] [0, 1, 4, 11, 12])))))
 (.seq
 (.seq
 (.reg 7 [oM 68 11, oM 69 12, oQ 70 (.bin .gtr 68 69)] [0, 1, 4, 11, 12, 70])
 (.cond 70
 (.exit 0)
 .skip))
 (.seq
 (.dreg 8 [oM 71 0, oM 72 11, oM 73 0, oM 74 12, oM 75 0, oM 76 12, oQ 77 (.iaddr 1 75 76), oQ 78 (.load none 77), oM 79 0, oM 80 11, oQ 81 (.iaddr 1 79 80), oQ 82 (.load none 81), oQ 83 (.iaddr 1 71 72), oN (.store 1 83 78), oQ 84 (.iaddr 1 73 74), oN (.store 1 84 82)] false [0, 1, 4, 11, 12])
 (.seq
 (.reg 9 [oM 85 11, oQ 86 (.bin .add 85 (cI 1)), oM 11 86] [0, 1, 4, 11, 12])
 (.reg 10 [oM 87 12, oQ 88 (.bin .sub 87 (cI 1)), oM 12 88] [0, 1, 4, 11, 12])))))))))
 (.seq
 (.reg 11 [oM 89 11, oM 10 89] [10])
 .ret)))))
theorem fok320 : FOK Tryz.prog 320 (90, ic320, [(.t 10)]) := fokA [2000000] Tryz.func320 (by kernel_rfl) (by kernel_rfl) (by kernel_rfl) (by kernel_rfl)
def ic321 : IC :=
 (.seq
 (.reg 0 [oM 10 (cI 0), oM 11 (cB false)] [0, 1, 2, 3, 4])
 (.seq
 (.dreg 1 [oM 14 0, oM 15 1, oM 16 0, oM 17 3, oM 18 0, oM 19 3, oQ 20 (.iaddr 1 18 19), oQ 21 (.load none 20), oM 22 0, oM 23 1, oQ 24 (.iaddr 1 22 23), oQ 25 (.load none 24), oQ 26 (.iaddr 1 14 15), oN (.store 1 26 21), oQ 27 (.iaddr 1 16 17), oN (.store 1 27 25)] false [0, 1, 2, 4])
 (.seq
 (.reg 2 [oM 28 1, oQ 29 (.bin .add 28 (cI 1)), oM 30 2, oQ 31 (.bin .sub 30 (cI 1)), oM 12 29, oM 13 31] [0, 1, 4, 12, 13])
 (.seq
 (.block 0
 (.loop
 (.seq
 (.seq
 (.dreg 3 [oM 32 12, oM 33 13, oQ 34 (.bin .leq 32 33), oM 35 34, gQ 36 35 true (.mov 4), gQ 37 35 true (.mov 0), gQ 38 35 true (.mov 12), gQ 39 35 true (.iaddr 1 37 38), gQ 40 35 true (.load none 39), gQ 41 35 true (.mov 0), gQ 42 35 true (.mov 1), gQ 43 35 true (.iaddr 1 41 42), gQ 44 35 true (.load none 43), gK 45 35 true (.callv 36 [40, 44]), gQ 46 35 true (.bin .lss 45 (cI 0)), oQ 47 (.pick 35 46 (cB false))] false [0, 1, 4, 12, 13, 47])
 (.cond 47
 .skip
 (.exit 0)))
 (.block 1
 (.reg 4 [oM 48 12, oQ 49 (.bin .add 48 (cI 1)), oM 12 49] [0, 1, 4, 12, 13])))))
 (.seq
 (.block 2
 (.loop
 (.seq
 (.seq
 (.dreg 5 [oM 50 12, oM 51 13, oQ 52 (.bin .leq 50 51), oM 53 52, gQ 54 53 true (.mov 4), gQ 55 53 true (.mov 0), gQ 56 53 true (.mov 13), gQ 57 53 true (.iaddr 1 55 56), gQ 58 53 true (.load none 57), gQ 59 53 true (.mov 0), gQ 60 53 true (.mov 1), gQ 61 53 true (.iaddr 1 59 60), gQ 62 53 true (.load none 61), gK 63 53 true (.callv 54 [58, 62]), gQ 64 53 true (.bin .lss 63 (cI 0)), gQ 65 53 true (.not 64), oQ 66 (.pick 53 65 (cB false))] false [0, 1, 4, 12, 13, 66])
 (.cond 66
 .skip
 (.exit 2)))
 (.block 3
 (.reg 6 [oM 67 13, oQ 68 (.bin .sub 67 (cI 1)), oM 13 68] [0, 1, 4, 12, 13])))))
 (.seq
 (.seq
 (.reg 7 [oM 69 12, oM 70 13, oQ 71 (.bin .gtr 69 70)] [0, 1, 4, 12, 13, 71])
 (.cond 71
 (.seq
 (.dreg 8 [oM 72 0, oM 73 13, oM 74 0, oM 75 1, oM 76 0, oM 77 1, oQ 78 (.iaddr 1 76 77), oQ 79 (.load none 78), oM 80 0, oM 81 13, oQ 82 (.iaddr 1 80 81), oQ 83 (.load none 82), oQ 84 (.iaddr 1 72 73), oN (.store 1 84 79), oQ 85 (.iaddr 1 74 75), oN (.store 1 85 83)] false [13])
 (.seq
 (.reg 9 [oM 86 13, oM 10 86, oM 11 (cB true)] [10, 11])
 .ret))
 .skip))
 (.seq
 (.dreg 10 [oM 87 0, oM 88 12, oM 89 0, oM 90 13, oM 91 0, oM 92 13, oQ 93 (.iaddr 1 91 92), oQ 94 (.load none 93), oM 95 0, oM 96 12, oQ 97 (.iaddr 1 95 96), oQ 98 (.load none 97), oQ 99 (.iaddr 1 87 88), oN (.store 1 99 94), oQ 100 (.iaddr 1 89 90), oN (.store 1 100 98)] false [0, 1, 4, 12, 13])
 (.seq
 (.reg 11 [oM 101 12, oQ 102 (.bin .add 101 (cI 1)), oM 12 102] [0, 1, 4, 12, 13])
 (.seq
 (.reg 12 [oM 103 13, oQ 104 (.bin .sub 103 (cI 1)), oM 13 104] [0, 1, 4, 12, 13])
 (.seq
 (.block 4
 (.loop
 (.block 5
 (.seq
 (.block 6
 (.loop
 (.seq
 (.seq
 (.dreg 13 [oM 105 12, oM 106 13, oQ 107 (.bin .leq 105 106), oM 108 107, gQ 109 108 true (.mov 4), gQ 110 108 true (.mov 0), gQ 111 108 true (.mov 12), gQ 112 108 true (.iaddr 1 110 111), gQ 113 108 true (.load none 112), gQ 114 108 true (.mov 0), gQ 115 108 true (.mov 1), gQ 116 108 true (.iaddr 1 114 115), gQ 117 108 true (.load none 116), gK 118 108 true (.callv 109 [113, 117]), gQ 119 108 true (.bin .lss 118 (cI 0)), oQ 120 (.pick 108 119 (cB false))] false [0, 1, 4, 12, 13, 120])
 (.cond 120
 .skip
 (.exit 6)))
 (.block 7
 (.reg 14 [oM 121 12, oQ 122 (.bin .add 121 (cI 1)), oM 12 122] [0, 1, 4, 12, 13])))))
 (.seq
 (.block 8
 (.loop
 (.seq
 (.seq
 (.dreg 15 [oM 123 12, oM 124 13, oQ 125 (.bin .leq 123 124), oM 126 125, gQ 127 126 true (.mov 4), gQ 128 126 true (.mov 0), gQ 129 126 true (.mov 13), gQ 130 126 true (.iaddr 1 128 129), gQ 131 126 true (.load none 130), gQ 132 126 true (.mov 0), gQ 133 126 true (.mov 1), gQ 134 126 true (.iaddr 1 132 133), gQ 135 126 true (.load none 134), gK 136 126 true (.callv 127 [131, 135]), gQ 137 126 true (.bin .lss 136 (cI 0)), gQ 138 126 true (.not 137), oQ 139 (.pick 126 138 (cB false))] false [0, 1, 4, 12, 13, 139])
 (.cond 139
 .skip
 (.exit 8)))
 (.block 9
 (.reg 16 [oM 140 13, oQ 141 (.bin .sub 140 (cI 1)), oM 13 141] [0, 1, 4, 12, 13])))))
 (.seq
 (.seq
 (.reg 17 [oM 142 12, oM 143 13, oQ 144 (.bin .gtr 142 143)] [0, 1, 4, 12, 13, 144])
 (.cond 144
 (.exit 4)
 .skip))
 (.seq
 (.dreg 18 [oM 145 0, oM 146 12, oM 147 0, oM 148 13, oM 149 0, oM 150 13, oQ 151 (.iaddr 1 149 150), oQ 152 (.load none 151), oM 153 0, oM 154 12, oQ 155 (.iaddr 1 153 154), oQ 156 (.load none 155), oQ 157 (.iaddr 1 145 146), oN (.store 1 157 152), oQ 158 (.iaddr 1 147 148), oN (.store 1 158 156)] false [0, 1, 4, 12, 13])
 (.seq
 (.reg 19 [oM 159 12, oQ 160 (.bin .add 159 (cI 1)), oM 12 160] [0, 1, 4, 12, 13])
 (.reg 20 [oM 161 13, oQ 162 (.bin .sub 161 (cI 1)), oM 13 162] [0, 1, 4, 12, 13])))))))))
 (.seq
 (.dreg 21 [oM 163 0, oM 164 13, oM 165 0, oM 166 1, oM 167 0, oM 168 1, oQ 169 (.iaddr 1 167 168), oQ 170 (.load none 169), oM 171 0, oM 172 13, oQ 173 (.iaddr 1 171 172), oQ 174 (.load none 173), oQ 175 (.iaddr 1 163 164), oN (.store 1 175 170), oQ 176 (.iaddr 1 165 166), oN (.store 1 176 174)] false [13])
 (.seq
 (.reg 22 [oM 177 13, oM 10 177, oM 11 (cB false)] [10, 11])
 .ret))))))))))))
theorem fok321 : FOK Tryz.prog 321 (178, ic321, [(.t 10), (.t 11)]) := fokA [2000000] Tryz.func321 (by kernel_rfl) (by kernel_rfl) (by kernel_rfl) (by kernel_rfl)
def ic322 : IC :=
 (.seq
 (.reg 0 [oK 0 (.alloc [(zI 0), (zI 0), (zI 0), (zI 0), (zI 0), (zI 0), (zI 0), (zI 0), (zI 0), (zI 0), (zI 0), (zI 0), (zI 0), (zI 0), (zI 0), (zI 0), (zI 0), (zI 0), (zI 0), (zI 0), (zI 0), (zI 0), (zI 0), (zI 0), (zI 0)])] [0])
 (.seq
 (.reg 1 [oQ 1 (.bld [(zI 0), (zI 0), (zI 0), (zI 0), (zI 0)] [⟨1, ⟨1, (cI 2)⟩⟩, ⟨2, ⟨1, (cI 1)⟩⟩, ⟨3, ⟨1, (cI 3)⟩⟩]), oQ 2 (.bld [(zI 0), (zI 0), (zI 0), (zI 0), (zI 0)] [⟨1, ⟨1, (cI 2)⟩⟩, ⟨3, ⟨1, (cI 1)⟩⟩]), oQ 3 (.bld [(zI 0), (zI 0), (zI 0), (zI 0), (zI 0)] [⟨1, ⟨1, (cI 2)⟩⟩, ⟨4, ⟨1, (cI 1)⟩⟩]), oQ 4 (.bld [(zI 0), (zI 0), (zI 0), (zI 0), (zI 0), (zI 0), (zI 0), (zI 0), (zI 0), (zI 0), (zI 0), (zI 0), (zI 0), (zI 0), (zI 0), (zI 0), (zI 0), (zI 0), (zI 0), (zI 0), (zI 0), (zI 0), (zI 0), (zI 0), (zI 0)] [⟨10, ⟨5, 1⟩⟩, ⟨15, ⟨5, 2⟩⟩, ⟨20, ⟨5, 3⟩⟩]), oN (.store 25 0 4)] [0])
 .ret))
theorem fok322 : FOK Tryz.prog 322 (5, ic322, [(.cell (some 25) 0)]) := fokA [2000000] Tryz.func322 (by kernel_rfl) (by kernel_rfl) (by kernel_rfl) (by kernel_rfl)
def ic329 : IC :=
 (.seq
 (.reg 0 [oM 2 (.c (.str []))] [0])
 (.seq
 (.reg 1 [oM 3 0, oK 4 (.call 349 [3]), oM 2 4] [2])
 .ret))
theorem fok329 : FOK Tryz.prog 329 (5, ic329, [(.t 2)]) := fokA [2000000] Tryz.func329 (by kernel_rfl) (by kernel_rfl) (by kernel_rfl) (by kernel_rfl)
def ic330 : IC :=
 (.seq
 (.reg 0 [oM 3 (cB false)] [0, 1])
 (.seq
 (.reg 1 [oM 4 0, oQ 5 (.load none 1), oQ 6 (.bin .eql 4 5), oM 3 6] [3])
 .ret))
theorem fok330 : FOK Tryz.prog 330 (7, ic330, [(.t 3)]) := fokA [2000000] Tryz.func330 (by kernel_rfl) (by kernel_rfl) (by kernel_rfl) (by kernel_rfl)
def ic331 : IC :=
 (.seq
 (.reg 0 [oM 2 (.c .nilslice)] [0])
 (.seq
 (.reg 1 [oM 3 (.c .nilslice)] [0, 3])
 (.seq
 (.seq
 (.reg 2 [oM 6 0, oQ 7 (.len 0 6), oM 8 (cI 0)] [3, 6, 7, 8])
 (.block 0
 (.loop
 (.seq
 (.reg 3 [oQ 9 (.bin .lss 8 7)] [3, 6, 7, 8, 9])
 (.seq
 (.cond 9
 .skip
 (.exit 0))
 (.seq
 (.block 1
 (.seq
 (.reg 4 [oQ 10 (.iaddr 1 6 8), oQ 11 (.load none 10), oM 5 11] [3, 5, 6, 7, 8])
 (.reg 5 [oM 12 3, oM 13 5, oQ 14 (.neg 13), oK 15 (.bslt 1 1 [(zI 0)] [⟨0, ⟨1, 14⟩⟩]), oK 16 (.app 1 12 15), oM 3 16] [3, 6, 7, 8])))
 (.reg 6 [oQ 17 (.bin .add 8 (cI 1)), oM 8 17] [3, 6, 7, 8])))))))
 (.seq
 (.reg 7 [oM 18 3, oM 2 18] [2])
 .ret))))
theorem fok331 : FOK Tryz.prog 331 (19, ic331, [(.t 2)]) := fokA [1000015, 2000000] Tryz.func331 (by kernel_rfl) (by kernel_rfl) (by kernel_rfl) (by kernel_rfl)
def ic332 : IC :=
 (.seq
 (.reg 0 [oM 2 (cI 0)] [0])
 (.seq
 (.reg 1 [oM 3 0, oQ 4 (.nchk 3), oQ 5 (.faddr 2 4), oQ 6 (.load none 5), oQ 7 (.bin .add 6 (cI 1)), oQ 8 (.nchk 3), oQ 9 (.faddr 2 8), oN (.store 1 9 7)] [0])
 (.seq
 (.dreg 2 [oM 10 0, oQ 11 (.nchk 10), oQ 12 (.faddr 1 11), oQ 13 (.load none 12), oQ 14 (.len 0 13), oM 15 0, oQ 16 (.nchk 15), oQ 17 (.faddr 2 16), oQ 18 (.load none 17), oQ 19 (.bin .add 14 18), oM 2 19] false [2])
 .ret)))
theorem fok332 : FOK Tryz.prog 332 (20, ic332, [(.t 2)]) := fokA [2000000] Tryz.func332 (by kernel_rfl) (by kernel_rfl) (by kernel_rfl) (by kernel_rfl)
def ic333 : IC :=
 (.seq
 (.reg 0 [oK 2 (.boxt 0), oM 3 (cB false)] [1, 2])
 (.seq
 (.reg 1 [oQ 4 (.load (some 15) 1), oQ 5 (.load (some 7) 2), oK 6 (.call 291 [4, 5]), oM 3 6] [3])
 .ret))
theorem fok333 : FOK Tryz.prog 333 (7, ic333, [(.t 3)]) := fokA [1000002, 2000000] Tryz.func333 (by kernel_rfl) (by kernel_rfl) (by kernel_rfl) (by kernel_rfl)
def ic334 : IC :=
 (.seq
 (.reg 0 [oK 2 (.boxt 0), oM 3 (cB false)] [1, 2])
 (.seq
 (.reg 1 [oQ 4 (.load (some 15) 1), oQ 5 (.load (some 7) 2), oK 6 (.call 291 [4, 5]), oQ 7 (.not 6), oM 3 7] [3])
 .ret))
theorem fok334 : FOK Tryz.prog 334 (8, ic334, [(.t 3)]) := fokA [1000002, 2000000] Tryz.func334 (by kernel_rfl) (by kernel_rfl) (by kernel_rfl) (by kernel_rfl)
def ic335 : IC :=
 (.seq
 (.reg 0 [oK 1 (.boxt 0), oM 2 (.c .nilfunc)] [1])
 (.seq
 (.reg 1 [oQ 3 (.mkf 350 [] [1]), oM 2 3] [2])
 .ret))
theorem fok335 : FOK Tryz.prog 335 (4, ic335, [(.t 2)]) := fokA [1000001, 2000000] Tryz.func335 (by kernel_rfl) (by kernel_rfl) (by kernel_rfl) (by kernel_rfl)
def ic336 : IC :=
 (.seq
 (.reg 0 [oM 2 (cI 0)] [0])
 (.seq
 (.reg 1 [oM 3 (cI 0)] [0, 3])
 (.seq
 (.seq
 (.reg 2 [oM 6 0, oQ 7 (.len 0 6), oM 8 (cI 0)] [3, 6, 7, 8])
 (.block 0
 (.loop
 (.seq
 (.reg 3 [oQ 9 (.bin .lss 8 7)] [3, 6, 7, 8, 9])
 (.seq
 (.cond 9
 .skip
 (.exit 0))
 (.seq
 (.block 1
 (.seq
 (.reg 4 [oQ 10 (.iaddr 1 6 8), oQ 11 (.load none 10), oM 5 11] [3, 5, 6, 7, 8])
 (.seq
 (.reg 5 [oM 12 5, oM 13 3, oQ 14 (.bin .neq 12 13)] [3, 5, 6, 7, 8, 14])
 (.cond 14
 (.seq
 (.reg 6 [oM 15 5, oM 2 15] [2])
 .ret)
 .skip))))
 (.reg 7 [oQ 16 (.bin .add 8 (cI 1)), oM 8 16] [3, 6, 7, 8])))))))
 (.seq
 (.reg 8 [oM 17 3, oM 2 17] [2])
 .ret))))
theorem fok336 : FOK Tryz.prog 336 (18, ic336, [(.t 2)]) := fokA [2000000] Tryz.func336 (by kernel_rfl) (by kernel_rfl) (by kernel_rfl) (by kernel_rfl)
def ic337 : IC :=
 (.seq
 (.reg 0 [oM 4 (cI 0)] [0, 1])
 (.seq
 (.reg 1 [oM 7 0, oK 8 (.call 353 [7]), oM 5 8] [0, 1, 5])
 (.seq
 (.reg 2 [oM 9 1, oK 10 (.call 353 [9]), oM 6 10] [0, 1, 5, 6])
 (.seq
 (.seq
 (.reg 3 [oM 11 5] [0, 1, 6, 11])
 (.cond 11
 (.seq
 (.seq
 (.reg 4 [oM 12 6] [12])
 (.cond 12
 (.seq
 (.reg 5 [oM 4 (cI 0)] [4])
 .ret)
 .skip))
 (.seq
 (.reg 6 [oM 4 (cI (-1))] [4])
 .ret))
 .skip))
 (.seq
 (.seq
 (.reg 7 [oM 13 6] [0, 1, 13])
 (.cond 13
 (.seq
 (.reg 8 [oM 4 (cI 1)] [4])
 .ret)
 .skip))
 (.seq
 (.seq
 (.reg 9 [oM 14 0, oM 15 1, oQ 16 (.bin .lss 14 15)] [0, 1, 16])
 (.cond 16
 (.seq
 (.reg 10 [oM 4 (cI (-1))] [4])
 .ret)
 .skip))
 (.seq
 (.seq
 (.reg 11 [oM 17 0, oM 18 1, oQ 19 (.bin .gtr 17 18)] [19])
 (.cond 19
 (.seq
 (.reg 12 [oM 4 (cI 1)] [4])
 .ret)
 .skip))
 (.seq
 (.reg 13 [oM 4 (cI 0)] [4])
 .ret))))))))
theorem fok337 : FOK Tryz.prog 337 (20, ic337, [(.t 4)]) := fokA [2000000] Tryz.func337 (by kernel_rfl) (by kernel_rfl) (by kernel_rfl) (by kernel_rfl)
def ic338 : IC :=
 (.seq
 (.reg 0 [oM 4 (cI 0)] [0, 1])
 (.seq
 (.reg 1 [oM 7 0, oK 8 (.call 354 [7]), oM 5 8] [0, 1, 5])
 (.seq
 (.reg 2 [oM 9 1, oK 10 (.call 354 [9]), oM 6 10] [0, 1, 5, 6])
 (.seq
 (.seq
 (.reg 3 [oM 11 5] [0, 1, 6, 11])
 (.cond 11
 (.seq
 (.seq
 (.reg 4 [oM 12 6] [12])
 (.cond 12
 (.seq
 (.reg 5 [oM 4 (cI 0)] [4])
 .ret)
 .skip))
 (.seq
 (.reg 6 [oM 4 (cI (-1))] [4])
 .ret))
 .skip))
 (.seq
 (.seq
 (.reg 7 [oM 13 6] [0, 1, 13])
 (.cond 13
 (.seq
 (.reg 8 [oM 4 (cI 1)] [4])
 .ret)
 .skip))
 (.seq
 (.seq
 (.reg 9 [oM 14 0, oM 15 1, oQ 16 (.bin .lss 14 15)] [0, 1, 16])
 (.cond 16
 (.seq
 (.reg 10 [oM 4 (cI (-1))] [4])
 .ret)
 .skip))
 (.seq
 (.seq
 (.reg 11 [oM 17 0, oM 18 1, oQ 19 (.bin .gtr 17 18)] [19])
 (.cond 19
 (.seq
 (.reg 12 [oM 4 (cI 1)] [4])
 .ret)
 .skip))
 (.seq
 (.reg 13 [oM 4 (cI 0)] [4])
 .ret))))))))
theorem fok338 : FOK Tryz.prog 338 (20, ic338, [(.t 4)]) := fokA [2000000] Tryz.func338 (by kernel_rfl) (by kernel_rfl) (by kernel_rfl) (by kernel_rfl)
def ic339 : IC :=
 (.seq
 (.reg 0 [oM 10 1, oM 8 10] [0, 2, 3, 8])
 (.block 0
 (.loop
 (.block 1
 (.seq
 (.reg 1 [oM 11 8, oQ 12 (.bin .mul (cI 2) 11), oQ 13 (.bin .add 12 (cI 1)), oM 9 13] [0, 2, 3, 8, 9])
 (.seq
 (.seq
 (.reg 2 [oM 14 9, oM 15 2, oQ 16 (.bin .geq 14 15)] [0, 2, 3, 8, 9, 16])
 (.cond 16
 (.exit 0)
 .skip))
 (.seq
 (.seq
 (.dreg 3 [oM 17 9, oQ 18 (.bin .add 17 (cI 1)), oM 19 2, oQ 20 (.bin .lss 18 19), oM 21 20, gQ 22 21 true (.mov 0), gQ 23 21 true (.mov 3), gQ 24 21 true (.mov 9), gQ 25 21 true (.bin .add 23 24), gQ 26 21 true (.iaddr 1 22 25), gQ 27 21 true (.load none 26), gQ 28 21 true (.mov 0), gQ 29 21 true (.mov 3), gQ 30 21 true (.mov 9), gQ 31 21 true (.bin .add 29 30), gQ 32 21 true (.bin .add 31 (cI 1)), gQ 33 21 true (.iaddr 1 28 32), gQ 34 21 true (.load none 33), gK 35 21 true (.call 303 [27, 34]), oQ 36 (.pick 21 35 (cB false))] false [0, 2, 3, 8, 9, 36])
 (.cond 36
 (.reg 4 [oM 37 9, oQ 38 (.bin .add 37 (cI 1)), oM 9 38] [0, 2, 3, 8, 9])
 .skip))
 (.seq
 (.seq
 (.dreg 5 [oM 39 0, oM 40 3, oM 41 8, oQ 42 (.bin .add 40 41), oQ 43 (.iaddr 1 39 42), oQ 44 (.load none 43), oM 45 0, oM 46 3, oM 47 9, oQ 48 (.bin .add 46 47), oQ 49 (.iaddr 1 45 48), oQ 50 (.load none 49), oK 51 (.call 303 [44, 50]), oQ 52 (.not 51)] false [0, 2, 3, 8, 9, 52])
 (.cond 52
 .ret
 .skip))
 (.seq
 (.dreg 6 [oM 53 0, oM 54 3, oM 55 8, oQ 56 (.bin .add 54 55), oM 57 0, oM 58 3, oM 59 9, oQ 60 (.bin .add 58 59), oM 61 0, oM 62 3, oM 63 9, oQ 64 (.bin .add 62 63), oQ 65 (.iaddr 1 61 64), oQ 66 (.load none 65), oM 67 0, oM 68 3, oM 69 8, oQ 70 (.bin .add 68 69), oQ 71 (.iaddr 1 67 70), oQ 72 (.load none 71), oQ 73 (.iaddr 1 53 56), oN (.store 1 73 66), oQ 74 (.iaddr 1 57 60), oN (.store 1 74 72)] false [0, 2, 3, 9])
 (.reg 7 [oM 75 9, oM 8 75] [0, 2, 3, 8]))))))))))
theorem fok339 : FOK Tryz.prog 339 (76, ic339, []) := fokA [2000000] Tryz.func339 (by kernel_rfl) (by kernel_rfl) (by kernel_rfl) (by kernel_rfl)
def ic340 : IC :=
 (.seq
 (.reg 0 [oM 2 (.c (.int .u64 0))] [0])
 (.seq
 (.reg 1 [oM 3 0, oQ 4 (.conv .u64 3), oK 5 (.call 240 [4]), oQ 6 (.bin .shl (.c (.int .u64 1)) 5), oM 2 6] [2])
 .ret))
theorem fok340 : FOK Tryz.prog 340 (7, ic340, [(.t 2)]) := fokA [2000000] Tryz.func340 (by kernel_rfl) (by kernel_rfl) (by kernel_rfl) (by kernel_rfl)
def ic341 : IC :=
 (.seq
 (.reg 0 [oM 2 (.c (.int .u64 0))] [0])
 (.seq
 (.dreg 1 [oM 3 0, oQ 4 (.nchk 3), oQ 5 (.load none 4), oM 6 0, oQ 7 (.nchk 6), oQ 8 (.load none 7), oQ 9 (.bin .shl 8 (.c (.int .u64 13))), oQ 10 (.bin .xor 5 9), oQ 11 (.nchk 3), oN (.store 1 11 10)] false [0])
 (.seq
 (.dreg 2 [oM 12 0, oQ 13 (.nchk 12), oQ 14 (.load none 13), oM 15 0, oQ 16 (.nchk 15), oQ 17 (.load none 16), oQ 18 (.bin .shr 17 (.c (.int .u64 7))), oQ 19 (.bin .xor 14 18), oQ 20 (.nchk 12), oN (.store 1 20 19)] false [0])
 (.seq
 (.dreg 3 [oM 21 0, oQ 22 (.nchk 21), oQ 23 (.load none 22), oM 24 0, oQ 25 (.nchk 24), oQ 26 (.load none 25), oQ 27 (.bin .shl 26 (.c (.int .u64 17))), oQ 28 (.bin .xor 23 27), oQ 29 (.nchk 21), oN (.store 1 29 28)] false [0])
 (.seq
 (.reg 4 [oM 30 0, oQ 31 (.nchk 30), oQ 32 (.load none 31), oM 2 32] [2])
 .ret)))))
theorem fok341 : FOK Tryz.prog 341 (33, ic341, [(.t 2)]) := fokA [2000000] Tryz.func341 (by kernel_rfl) (by kernel_rfl) (by kernel_rfl) (by kernel_rfl)
def ic342 : IC :=
 (.seq
 (.reg 0 [oM 6 (cI 0)] [0, 1, 2])
 (.seq
 (.reg 1 [oM 7 0, oM 8 1, oQ 9 (.bin .sub 8 (cI 1)), oM 10 1, oM 11 1, oQ 12 (.bin .add 11 (cI 1)), oM 13 2, oK 14 (.call 343 [7, 9, 10, 12, 13]), oM 6 14] [6])
 .ret))
theorem fok342 : FOK Tryz.prog 342 (15, ic342, [(.t 6)]) := fokA [2000000] Tryz.func342 (by kernel_rfl) (by kernel_rfl) (by kernel_rfl) (by kernel_rfl)
def ic343 : IC :=
 (.seq
 (.reg 0 [oM 10 (cI 0)] [0, 1, 2, 3, 4])
 (.seq
 (.reg 1 [oM 12 0, oM 13 1, oM 14 2, oM 15 4, oK 16 (.call 355 [12, 13, 14, 15]), oM 11 16, oQ 17 (.ext 0 11), oQ 18 (.ext 1 11), oM 1 17, oM 2 18] [0, 1, 2, 3, 4])
 (.seq
 (.reg 2 [oM 20 0, oM 21 2, oM 22 3, oM 23 4, oK 24 (.call 355 [20, 21, 22, 23]), oM 19 24, oQ 25 (.ext 0 19), oQ 26 (.ext 1 19), oM 2 25, oM 3 26] [0, 1, 2, 4])
 (.seq
 (.reg 3 [oM 28 0, oM 29 1, oM 30 2, oM 31 4, oK 32 (.call 355 [28, 29, 30, 31]), oM 27 32, oQ 33 (.ext 0 27), oQ 34 (.ext 1 27), oM 1 33, oM 2 34] [2])
 (.seq
 (.reg 4 [oM 35 2, oM 10 35] [10])
 .ret)))))
theorem fok343 : FOK Tryz.prog 343 (36, ic343, [(.t 10)]) := fokA [2000000] Tryz.func343 (by kernel_rfl) (by kernel_rfl) (by kernel_rfl) (by kernel_rfl)
def ic344 : IC :=
 (.seq
 (.reg 0 [oM 12 1, oM 10 12] [0, 2, 3, 4, 10])
 (.block 0
 (.loop
 (.block 1
 (.seq
 (.reg 1 [oM 13 10, oQ 14 (.bin .mul (cI 2) 13), oQ 15 (.bin .add 14 (cI 1)), oM 11 15] [0, 2, 3, 4, 10, 11])
 (.seq
 (.seq
 (.reg 2 [oM 16 11, oM 17 2, oQ 18 (.bin .geq 16 17)] [0, 2, 3, 4, 10, 11, 18])
 (.cond 18
 (.exit 0)
 .skip))
 (.seq
 (.seq
 (.dreg 3 [oM 19 11, oQ 20 (.bin .add 19 (cI 1)), oM 21 2, oQ 22 (.bin .lss 20 21), oM 23 22, gQ 24 23 true (.mov 4), gQ 25 23 true (.mov 0), gQ 26 23 true (.mov 3), gQ 27 23 true (.mov 11), gQ 28 23 true (.bin .add 26 27), gQ 29 23 true (.iaddr 1 25 28), gQ 30 23 true (.load none 29), gQ 31 23 true (.mov 0), gQ 32 23 true (.mov 3), gQ 33 23 true (.mov 11), gQ 34 23 true (.bin .add 32 33), gQ 35 23 true (.bin .add 34 (cI 1)), gQ 36 23 true (.iaddr 1 31 35), gQ 37 23 true (.load none 36), gK 38 23 true (.callv 24 [30, 37]), gQ 39 23 true (.bin .lss 38 (cI 0)), oQ 40 (.pick 23 39 (cB false))] false [0, 2, 3, 4, 10, 11, 40])
 (.cond 40
 (.reg 4 [oM 41 11, oQ 42 (.bin .add 41 (cI 1)), oM 11 42] [0, 2, 3, 4, 10, 11])
 .skip))
 (.seq
 (.seq
 (.dreg 5 [oM 43 4, oM 44 0, oM 45 3, oM 46 10, oQ 47 (.bin .add 45 46), oQ 48 (.iaddr 1 44 47), oQ 49 (.load none 48), oM 50 0, oM 51 3, oM 52 11, oQ 53 (.bin .add 51 52), oQ 54 (.iaddr 1 50 53), oQ 55 (.load none 54), oK 56 (.callv 43 [49, 55]), oQ 57 (.bin .lss 56 (cI 0)), oQ 58 (.not 57)] false [0, 2, 3, 4, 10, 11, 58])
 (.cond 58
 .ret
 .skip))
 (.seq
 (.dreg 6 [oM 59 0, oM 60 3, oM 61 10, oQ 62 (.bin .add 60 61), oM 63 0, oM 64 3, oM 65 11, oQ 66 (.bin .add 64 65), oM 67 0, oM 68 3, oM 69 11, oQ 70 (.bin .add 68 69), oQ 71 (.iaddr 1 67 70), oQ 72 (.load none 71), oM 73 0, oM 74 3, oM 75 10, oQ 76 (.bin .add 74 75), oQ 77 (.iaddr 1 73 76), oQ 78 (.load none 77), oQ 79 (.iaddr 1 59 62), oN (.store 1 79 72), oQ 80 (.iaddr 1 63 66), oN (.store 1 80 78)] false [0, 2, 3, 4, 11])
 (.reg 7 [oM 81 11, oM 10 81] [0, 2, 3, 4, 10]))))))))))
theorem fok344 : FOK Tryz.prog 344 (82, ic344, []) := fokA [2000000] Tryz.func344 (by kernel_rfl) (by kernel_rfl) (by kernel_rfl) (by kernel_rfl)
def ic345 : IC :=
 (.seq
 (.reg 0 [oM 8 (cI 0)] [0, 1, 2, 3])
 (.seq
 (.reg 1 [oM 9 0, oM 10 1, oQ 11 (.bin .sub 10 (cI 1)), oM 12 1, oM 13 1, oQ 14 (.bin .add 13 (cI 1)), oM 15 2, oM 16 3, oK 17 (.call 346 [9, 11, 12, 14, 15, 16]), oM 8 17] [8])
 .ret))
theorem fok345 : FOK Tryz.prog 345 (18, ic345, [(.t 8)]) := fokA [2000000] Tryz.func345 (by kernel_rfl) (by kernel_rfl) (by kernel_rfl) (by kernel_rfl)
def ic346 : IC :=
 (.seq
 (.reg 0 [oM 12 (cI 0)] [0, 1, 2, 3, 4, 5])
 (.seq
 (.reg 1 [oM 14 0, oM 15 1, oM 16 2, oM 17 4, oM 18 5, oK 19 (.call 356 [14, 15, 16, 17, 18]), oM 13 19, oQ 20 (.ext 0 13), oQ 21 (.ext 1 13), oM 1 20, oM 2 21] [0, 1, 2, 3, 4, 5])
 (.seq
 (.reg 2 [oM 23 0, oM 24 2, oM 25 3, oM 26 4, oM 27 5, oK 28 (.call 356 [23, 24, 25, 26, 27]), oM 22 28, oQ 29 (.ext 0 22), oQ 30 (.ext 1 22), oM 2 29, oM 3 30] [0, 1, 2, 4, 5])
 (.seq
 (.reg 3 [oM 32 0, oM 33 1, oM 34 2, oM 35 4, oM 36 5, oK 37 (.call 356 [32, 33, 34, 35, 36]), oM 31 37, oQ 38 (.ext 0 31), oQ 39 (.ext 1 31), oM 1 38, oM 2 39] [2])
 (.seq
 (.reg 4 [oM 40 2, oM 12 40] [12])
 .ret)))))
theorem fok346 : FOK Tryz.prog 346 (41, ic346, [(.t 12)]) := fokA [2000000] Tryz.func346 (by kernel_rfl) (by kernel_rfl) (by kernel_rfl) (by kernel_rfl)
end Go.Id.Tryz
