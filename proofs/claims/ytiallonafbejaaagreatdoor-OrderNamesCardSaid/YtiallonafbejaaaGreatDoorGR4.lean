/- The compiled codes of functions, written by a program out of the given form. Conditions: none. -/
import Derived.Test.YtiallonafbejaaaGreatDoorFwW
import Derived.Test.YtiallonafbejaaaGreatDoorProg
set_option linter.all false
namespace Go.Id.Tryz
open Go Go.Id Go.Proofs
def allF4 : List Nat := List.range 357
def ic316 : IC :=
 (.seq
 (.reg 0 [oM 10 (cI 0), oM 11 (cI 0)] [0, 1, 2, 3, 4])
 (.seq
 (.seq
 (.dreg 1 [oM 12 4, oM 13 0, oM 14 2, oQ 15 (.iaddr 1 13 14), oQ 16 (.load none 15), oM 17 0, oM 18 1, oQ 19 (.iaddr 1 17 18), oQ 20 (.load none 19), oK 21 (.callv 12 [16, 20]), oQ 22 (.bin .lss 21 (cI 0))] false [1, 2, 3, 22])
 (.cond 22
 (.seq
 (.reg 2 [oM 23 3, oQ 24 (.nchk 23), oQ 25 (.load none 24), oQ 26 (.bin .add 25 (cI 1)), oQ 27 (.nchk 23), oN (.store 1 27 26)] [1, 2])
 (.seq
 (.reg 3 [oM 28 2, oM 29 1, oM 10 28, oM 11 29] [10, 11])
 .ret))
 .skip))
 (.seq
 (.reg 4 [oM 30 1, oM 31 2, oM 10 30, oM 11 31] [10, 11])
 .ret)))
theorem fok316 : FOK Tryz.prog 316 (32, ic316, [(.t 10), (.t 11)]) := fokA [2000000] Tryz.func316 (by kernel_rfl) (by kernel_rfl) (by kernel_rfl) (by kernel_rfl)
def ic319 : IC :=
 (.seq
 (.reg 0 [oM 4 (.c (.str []))] [0, 1])
 (.seq
 (.block 0
 (.loop
 (.seq
 (.seq
 (.reg 1 [oM 5 0, oQ 6 (.len 1 5), oQ 7 (.bin .gtr 6 (cI 0)), oM 8 7, gQ 9 8 true (.mov 0), gQ 10 8 true (.istr 9 (cI 0)), gQ 11 8 true (.mov 1), gQ 12 8 true (.bin .eql 10 11), oQ 13 (.pick 8 12 (cB false))] [0, 1, 13])
 (.cond 13
 .skip
 (.exit 0)))
 (.block 1
 (.reg 2 [oM 14 0, oQ 15 (.sstr 14 (some (cI 1)) none), oM 0 15] [0, 1])))))
 (.seq
 (.reg 3 [oM 16 0, oM 4 16] [4])
 .ret)))
theorem fok319 : FOK Tryz.prog 319 (17, ic319, [(.t 4)]) := fokA [2000000] Tryz.func319 (by kernel_rfl) (by kernel_rfl) (by kernel_rfl) (by kernel_rfl)
def ic320 : IC :=
 (.seq
 (.reg 0 [oK 2 (.alloc [(.bool false), (.bool false), (.bool false), (.bool false), (.bool false), (.bool false), (.bool false), (.bool false), (.bool false), (.bool false), (.bool false), (.bool false), (.bool false), (.bool false), (.bool false), (.bool false), (.bool false), (.bool false), (.bool false), (.bool false), (.bool false), (.bool false), (.bool false), (.bool false), (.bool false), (.bool false), (.bool false), (.bool false), (.bool false), (.bool false), (.bool false), (.bool false), (.bool false), (.bool false), (.bool false), (.bool false), (.bool false), (.bool false), (.bool false), (.bool false), (.bool false), (.bool false), (.bool false), (.bool false), (.bool false), (.bool false), (.bool false), (.bool false), (.bool false), (.bool false), (.bool false), (.bool false), (.bool false), (.bool false), (.bool false), (.bool false), (.bool false), (.bool false), (.bool false), (.bool false), (.bool false), (.bool false), (.bool false), (.bool false), (.bool false), (.bool false), (.bool false), (.bool false), (.bool false), (.bool false), (.bool false), (.bool false), (.bool false), (.bool false), (.bool false), (.bool false), (.bool false), (.bool false), (.bool false), (.bool false), (.bool false), (.bool false), (.bool false), (.bool false), (.bool false), (.bool false), (.bool false), (.bool false), (.bool false), (.bool false), (.bool false), (.bool false), (.bool false), (.bool false), (.bool false), (.bool false), (.bool false), (.bool false), (.bool false), (.bool false), (.bool false), (.bool false), (.bool false), (.bool false), (.bool false), (.bool false), (.bool false), (.bool false), (.bool false), (.bool false), (.bool false), (.bool false), (.bool false), (.bool false), (.bool false), (.bool false), (.bool false), (.bool false), (.bool false), (.bool false), (.bool false), (.bool false), (.bool false), (.bool false), (.bool false), (.bool false), (.bool false), (.bool false), (.bool false), (.bool false), (.bool false), (.bool false), (.bool false), (.bool false), (.bool false), (.bool false), (.bool false), (.bool false), (.bool false), (.bool false), (.bool false), (.bool false), (.bool false), (.bool false), (.bool false), (.bool false), (.bool false), (.bool false), (.bool false), (.bool false), (.bool false), (.bool false), (.bool false), (.bool false), (.bool false), (.bool false), (.bool false), (.bool false), (.bool false), (.bool false), (.bool false), (.bool false), (.bool false), (.bool false), (.bool false), (.bool false), (.bool false), (.bool false), (.bool false), (.bool false), (.bool false), (.bool false), (.bool false), (.bool false), (.bool false), (.bool false), (.bool false), (.bool false), (.bool false), (.bool false), (.bool false), (.bool false), (.bool false), (.bool false), (.bool false), (.bool false), (.bool false), (.bool false), (.bool false), (.bool false), (.bool false), (.bool false), (.bool false), (.bool false), (.bool false), (.bool false), (.bool false), (.bool false), (.bool false), (.bool false), (.bool false), (.bool false), (.bool false), (.bool false), (.bool false), (.bool false), (.bool false), (.bool false), (.bool false), (.bool false), (.bool false), (.bool false), (.bool false), (.bool false), (.bool false), (.bool false), (.bool false), (.bool false), (.bool false), (.bool false), (.bool false), (.bool false), (.bool false), (.bool false), (.bool false), (.bool false), (.bool false), (.bool false), (.bool false), (.bool false), (.bool false), (.bool false), (.bool false), (.bool false), (.bool false), (.bool false), (.bool false), (.bool false), (.bool false), (.bool false), (.bool false), (.bool false), (.bool false), (.bool false), (.bool false), (.bool false), (.bool false), (.bool false), (.bool false), (.bool false), (.bool false), (.bool false), (.bool false), (.bool false), (.bool false), (.bool false)]), oM 3 (cB false)] [0, 2])
 (.seq
 (.seq
 (.reg 1 [oM 4 (cI 0)] [0, 2, 4])
 (.block 0
 (.loop
 (.seq
 (.seq
 (.reg 2 [oM 6 4, oM 7 0, oQ 8 (.len 1 7), oQ 9 (.bin .lss 6 8)] [0, 2, 4, 9])
 (.cond 9
 .skip
 (.exit 0)))
 (.seq
 (.block 1
 (.seq
 (.reg 4 [oM 12 0, oM 13 4, oQ 14 (.istr 12 13), oM 5 14] [0, 2, 4, 5])
 (.seq
 (.seq
 (.reg 5 [oM 15 5, oQ 16 (.bin .geq 15 (.c (zU 128)))] [0, 2, 4, 5, 16])
 (.cond 16
 (.seq
 (.reg 6 [oQ 17 (.load (some 256) 2), oN (.store 256 2 17), oM 3 (cB false)] [2, 3])
 .ret)
 .skip))
 (.reg 7 [oM 18 5, oQ 19 (.aaddr 256 1 2 18), oN (.store 1 19 (cB true))] [0, 2, 4]))))
 (.reg 3 [oM 10 4, oQ 11 (.bin .add 10 (cI 1)), oM 4 11] [0, 2, 4]))))))
 (.seq
 (.reg 8 [oQ 20 (.load (some 256) 2), oN (.store 256 2 20), oM 3 (cB true)] [2, 3])
 .ret)))
theorem fok320 : FOK Tryz.prog 320 (21, ic320, [(.cell (some 256) 2), (.t 3)]) := fokA [2000000] Tryz.func320 (by kernel_rfl) (by kernel_rfl) (by kernel_rfl) (by kernel_rfl)
def ic321 : IC :=
 (.seq
 (.reg 0 [oM 4 (.c (.str []))] [0, 1])
 (.seq
 (.block 0
 (.loop
 (.seq
 (.seq
 (.reg 1 [oM 5 0, oQ 6 (.len 1 5), oQ 7 (.bin .gtr 6 (cI 0))] [0, 1, 7])
 (.cond 7
 .skip
 (.exit 0)))
 (.block 1
 (.seq
 (.seq
 (.reg 2 [oM 8 1, oM 9 0, oQ 10 (.istr 9 (cI 0)), oK 11 (.call 323 [8, 10]), oQ 12 (.not 11)] [0, 1, 12])
 (.cond 12
 (.exit 0)
 .skip))
 (.reg 3 [oM 13 0, oQ 14 (.sstr 13 (some (cI 1)) none), oM 0 14] [0, 1]))))))
 (.seq
 (.reg 4 [oM 15 0, oM 4 15] [4])
 .ret)))
theorem fok321 : FOK Tryz.prog 321 (16, ic321, [(.t 4)]) := fokA [2000000] Tryz.func321 (by kernel_rfl) (by kernel_rfl) (by kernel_rfl) (by kernel_rfl)
def ic322 : IC :=
 (.seq
 (.reg 0 [oM 4 (.c (.str []))] [0, 1])
 (.seq
 (.block 0
 (.loop
 (.seq
 (.seq
 (.reg 1 [oM 7 0, oQ 8 (.len 1 7), oQ 9 (.bin .gtr 8 (cI 0))] [0, 1, 9])
 (.cond 9
 .skip
 (.exit 0)))
 (.block 1
 (.seq
 (.reg 2 [oM 11 0, oK 12 (.call 324 [11]), oM 10 12, oQ 13 (.ext 0 10), oQ 14 (.ext 1 10), oM 5 13, oM 6 14] [0, 1, 5, 6])
 (.seq
 (.seq
 (.reg 3 [oM 15 1, oM 16 5, oK 17 (.call 325 [15, 16]), oQ 18 (.not 17)] [0, 1, 6, 18])
 (.cond 18
 (.exit 0)
 .skip))
 (.reg 4 [oM 19 0, oM 20 6, oQ 21 (.sstr 19 (some 20) none), oM 0 21] [0, 1])))))))
 (.seq
 (.reg 5 [oM 22 0, oM 4 22] [4])
 .ret)))
theorem fok322 : FOK Tryz.prog 322 (23, ic322, [(.t 4)]) := fokA [2000000] Tryz.func322 (by kernel_rfl) (by kernel_rfl) (by kernel_rfl) (by kernel_rfl)
def ic323 : IC :=
 (.seq
 (.reg 0 [oM 4 (cB false)] [0, 1])
 (.seq
 (.reg 1 [oM 5 0, oM 6 1, oQ 7 (.nchk 5), oQ 8 (.aaddr 256 1 7 6), oQ 9 (.load none 8), oM 4 9] [4])
 .ret))
theorem fok323 : FOK Tryz.prog 323 (10, ic323, [(.t 4)]) := fokA [2000000] Tryz.func323 (by kernel_rfl) (by kernel_rfl) (by kernel_rfl) (by kernel_rfl)
def ic324 : IC :=
 (.seq
 (.reg 0 [oM 2 (.c (.int .i32 0)), oM 3 (cI 0)] [0])
 (.seq
 (.seq
 (.reg 1 [oM 4 0, oQ 5 (.bin .neq 4 (.c (.str []))), oM 6 5, gQ 7 6 true (.mov 0), gQ 8 6 true (.istr 7 (cI 0)), gQ 9 6 true (.bin .lss 8 (.c (zU 128))), oQ 10 (.pick 6 9 (cB false))] [0, 10])
 (.cond 10
 (.seq
 (.reg 2 [oM 11 0, oQ 12 (.istr 11 (cI 0)), oQ 13 (.conv .i32 12), oM 2 13, oM 3 (cI 1)] [2, 3])
 .ret)
 (.reg 3 [oM 15 0, oK 16 (.call 326 [15]), oM 14 16, oQ 17 (.ext 0 14), oQ 18 (.ext 1 14), oM 2 17, oM 3 18] [2, 3])))
 .ret))
theorem fok324 : FOK Tryz.prog 324 (19, ic324, [(.t 2), (.t 3)]) := fokA [2000000] Tryz.func324 (by kernel_rfl) (by kernel_rfl) (by kernel_rfl) (by kernel_rfl)
def ic325 : IC :=
 (.seq
 (.reg 0 [oM 4 (cB false)] [0, 1])
 (.seq
 (.reg 1 [oM 5 0, oM 6 1, oK 7 (.call 327 [5, 6]), oQ 8 (.bin .geq 7 (cI 0)), oM 4 8] [4])
 .ret))
theorem fok325 : FOK Tryz.prog 325 (9, ic325, [(.t 4)]) := fokA [2000000] Tryz.func325 (by kernel_rfl) (by kernel_rfl) (by kernel_rfl) (by kernel_rfl)
def ic326 : IC :=
 (.seq
 (.reg 0 [oM 2 (.c (.int .i32 0)), oM 3 (cI 0)] [0])
 (.seq
 (.reg 1 [oM 13 0, oQ 14 (.len 1 13), oM 4 14] [0, 4])
 (.seq
 (.seq
 (.reg 2 [oM 15 4, oQ 16 (.bin .lss 15 (cI 1))] [0, 4, 16])
 (.cond 16
 (.seq
 (.reg 3 [oM 2 (.c (.int .i32 65533)), oM 3 (cI 0)] [2, 3])
 .ret)
 .skip))
 (.seq
 (.reg 4 [oM 17 0, oQ 18 (.istr 17 (cI 0)), oM 5 18] [0, 4, 5])
 (.seq
 (.reg 5 [oM 19 5, oQ 20 (.aaddr 256 1 (.g 4) 19), oQ 21 (.load none 20), oM 6 21] [0, 4, 5, 6])
 (.seq
 (.seq
 (.reg 6 [oM 22 6, oQ 23 (.bin .geq 22 (.c (zU 240)))] [0, 4, 5, 6, 23])
 (.cond 23
 (.seq
 (.reg 7 [oM 24 6, oQ 25 (.conv .i32 24), oQ 26 (.bin .shl 25 (.c (.int .u64 31))), oQ 27 (.bin .shr 26 (.c (.int .u64 31))), oM 7 27] [0, 7])
 (.seq
 (.reg 8 [oM 28 0, oQ 29 (.istr 28 (cI 0)), oQ 30 (.conv .i32 29), oM 31 7, oQ 32 (.bin .andNot 30 31), oM 33 7, oQ 34 (.bin .and (.c (.int .i32 65533)) 33), oQ 35 (.bin .or 32 34), oM 2 35, oM 3 (cI 1)] [2, 3])
 .ret))
 .skip))
 (.seq
 (.reg 9 [oM 36 6, oQ 37 (.bin .and 36 (.c (zU 7))), oQ 38 (.conv .i64 37), oM 8 38] [0, 4, 5, 6, 8])
 (.seq
 (.reg 10 [oM 39 6, oQ 40 (.bin .shr 39 (.c (.int .u64 4))), oQ 41 (.aaddr 16 2 (.g 5) 40), oQ 42 (.load (some 2) 41), oK 9 (.alloc [(zU 0), (zU 0)]), oN (.store 2 9 42)] [0, 4, 5, 8, 9])
 (.seq
 (.seq
 (.reg 11 [oM 43 4, oM 44 8, oQ 45 (.bin .lss 43 44)] [0, 5, 8, 9, 45])
 (.cond 45
 (.seq
 (.reg 12 [oM 2 (.c (.int .i32 65533)), oM 3 (cI 1)] [2, 3])
 .ret)
 .skip))
 (.seq
 (.reg 13 [oM 46 0, oQ 47 (.istr 46 (cI 1)), oM 10 47] [0, 5, 8, 9, 10])
 (.seq
 (.seq
 (.reg 14 [oM 48 10, oQ 49 (.faddr 0 9), oQ 50 (.load none 49), oQ 51 (.bin .lss 48 50), oM 52 51, gQ 53 52 false (.faddr 1 9), gQ 54 52 false (.load none 53), gQ 55 52 false (.mov 10), gQ 56 52 false (.bin .lss 54 55), oQ 57 (.pick 52 (cB true) 56)] [0, 5, 8, 10, 57])
 (.cond 57
 (.seq
 (.reg 15 [oM 2 (.c (.int .i32 65533)), oM 3 (cI 1)] [2, 3])
 .ret)
 .skip))
 (.seq
 (.seq
 (.reg 16 [oM 58 8, oQ 59 (.bin .leq 58 (cI 2))] [0, 5, 8, 10, 59])
 (.cond 59
 (.seq
 (.reg 17 [oM 60 5, oQ 61 (.bin .and 60 (.c (zU 31))), oQ 62 (.conv .i32 61), oQ 63 (.bin .shl 62 (.c (.int .u64 6))), oM 64 10, oQ 65 (.bin .and 64 (.c (zU 63))), oQ 66 (.conv .i32 65), oQ 67 (.bin .or 63 66), oM 2 67, oM 3 (cI 2)] [2, 3])
 .ret)
 .skip))
 (.seq
 (.reg 18 [oM 68 0, oQ 69 (.istr 68 (cI 2)), oM 11 69] [0, 5, 8, 10, 11])
 (.seq
 (.seq
 (.reg 19 [oM 70 11, oQ 71 (.bin .lss 70 (.c (zU 128))), oM 72 71, gQ 73 72 false (.mov 11), gQ 74 72 false (.bin .lss (.c (zU 191)) 73), oQ 75 (.pick 72 (cB true) 74)] [0, 5, 8, 10, 11, 75])
 (.cond 75
 (.seq
 (.reg 20 [oM 2 (.c (.int .i32 65533)), oM 3 (cI 1)] [2, 3])
 .ret)
 .skip))
 (.seq
 (.seq
 (.reg 21 [oM 76 8, oQ 77 (.bin .leq 76 (cI 3))] [0, 5, 10, 11, 77])
 (.cond 77
 (.seq
 (.reg 22 [oM 78 5, oQ 79 (.bin .and 78 (.c (zU 15))), oQ 80 (.conv .i32 79), oQ 81 (.bin .shl 80 (.c (.int .u64 12))), oM 82 10, oQ 83 (.bin .and 82 (.c (zU 63))), oQ 84 (.conv .i32 83), oQ 85 (.bin .shl 84 (.c (.int .u64 6))), oQ 86 (.bin .or 81 85), oM 87 11, oQ 88 (.bin .and 87 (.c (zU 63))), oQ 89 (.conv .i32 88), oQ 90 (.bin .or 86 89), oM 2 90, oM 3 (cI 3)] [2, 3])
 .ret)
 .skip))
 (.seq
 (.reg 23 [oM 91 0, oQ 92 (.istr 91 (cI 3)), oM 12 92] [5, 10, 11, 12])
 (.seq
 (.seq
 (.reg 24 [oM 93 12, oQ 94 (.bin .lss 93 (.c (zU 128))), oM 95 94, gQ 96 95 false (.mov 12), gQ 97 95 false (.bin .lss (.c (zU 191)) 96), oQ 98 (.pick 95 (cB true) 97)] [5, 10, 11, 12, 98])
 (.cond 98
 (.seq
 (.reg 25 [oM 2 (.c (.int .i32 65533)), oM 3 (cI 1)] [2, 3])
 .ret)
 .skip))
 (.seq
 (.reg 26 [oM 99 5, oQ 100 (.bin .and 99 (.c (zU 7))), oQ 101 (.conv .i32 100), oQ 102 (.bin .shl 101 (.c (.int .u64 18))), oM 103 10, oQ 104 (.bin .and 103 (.c (zU 63))), oQ 105 (.conv .i32 104), oQ 106 (.bin .shl 105 (.c (.int .u64 12))), oQ 107 (.bin .or 102 106), oM 108 11, oQ 109 (.bin .and 108 (.c (zU 63))), oQ 110 (.conv .i32 109), oQ 111 (.bin .shl 110 (.c (.int .u64 6))), oQ 112 (.bin .or 107 111), oM 113 12, oQ 114 (.bin .and 113 (.c (zU 63))), oQ 115 (.conv .i32 114), oQ 116 (.bin .or 112 115), oM 2 116, oM 3 (cI 4)] [2, 3])
 .ret))))))))))))))))))
theorem fok326 : FOK Tryz.prog 326 (117, ic326, [(.t 2), (.t 3)]) := fokA [2000000] Tryz.func326 (by kernel_rfl) (by kernel_rfl) (by kernel_rfl) (by kernel_rfl)
def ic327 : IC :=
 (.seq
 (.reg 0 [oM 4 (cI 0)] [0, 1])
 (.block 0
 (.seq
 (.reg 34 [oM 161 1, oQ 162 (.bin .leq (.c (.int .i32 0)) 161), oM 163 162, gQ 164 163 true (.mov 1), gQ 165 163 true (.bin .lss 164 (.c (.int .i32 128))), oQ 166 (.pick 163 165 (cB false)), oM 160 166] [0, 1, 160])
 (.cond 160
 (.seq
 (.reg 35 [oM 167 0, oM 168 1, oQ 169 (.conv .u8 168), oK 170 (.call 254 [167, 169]), oM 4 170] [4])
 .ret)
 (.seq
 (.reg 36 [oM 172 1, oQ 173 (.bin .eql 172 (.c (.int .i32 65533))), oM 171 173] [0, 1, 171])
 (.cond 171
 (.seq
 (.seq
 (.reg 37 [oM 174 0, oK 175 (.srange 174)] [175])
 (.block 9
 (.loop
 (.seq
 (.reg 38 [oK 176 (.snext 175), oQ 177 (.ext 0 176)] [175, 176, 177])
 (.seq
 (.cond 177
 .skip
 (.exit 9))
 (.block 10
 (.seq
 (.reg 39 [oQ 178 (.ext 1 176), oQ 179 (.ext 2 176), oM 5 178, oM 6 179] [5, 6, 175])
 (.seq
 (.reg 40 [oM 180 6, oQ 181 (.bin .eql 180 (.c (.int .i32 65533)))] [5, 175, 181])
 (.cond 181
 (.seq
 (.reg 41 [oM 182 5, oM 4 182] [4])
 .ret)
 .skip)))))))))
 (.seq
 (.reg 42 [oM 4 (cI (-1))] [4])
 .ret))
 (.seq
 (.reg 43 [oM 184 1, oK 185 (.call 328 [184]), oQ 186 (.not 185), oM 183 186] [0, 1, 183])
 (.cond 183
 (.seq
 (.reg 44 [oM 4 (cI (-1))] [4])
 .ret)
 (.scope
 (.seq
 (.reg 1 [oM 17 1, oK 18 (.st .nev []), oM 7 18] [0, 7])
 (.seq
 (.reg 2 [oM 19 7, oQ 20 (.len 1 19), oQ 21 (.bin .sub 20 (cI 1)), oM 8 21] [0, 7, 8])
 (.seq
 (.reg 3 [oM 22 8, oM 9 22] [0, 7, 8, 9])
 (.seq
 (.reg 4 [oM 10 (cI 0)] [0, 7, 8, 9])
 (.seq
 (.block 1
 (.loop
 (.seq
 (.seq
 (.reg 5 [oM 23 9, oM 24 0, oQ 25 (.len 1 24), oQ 26 (.bin .lss 23 25)] [0, 7, 8, 9, 26])
 (.cond 26
 .skip
 (.exit 1)))
 (.block 2
 (.scope
 (.seq
 (.seq
 (.dreg 6 [oM 27 0, oM 28 9, oQ 29 (.istr 27 28), oM 30 7, oM 31 8, oQ 32 (.istr 30 31), oQ 33 (.bin .neq 29 32)] false [0, 7, 8, 9, 33])
 (.cond 33
 (.seq
 (.dreg 7 [oM 34 0, oM 35 9, oQ 36 (.bin .add 35 (cI 1)), oQ 37 (.sstr 34 (some 36) none), oM 38 7, oM 39 8, oQ 40 (.istr 38 39), oK 41 (.call 254 [37, 40]), oM 11 41] false [0, 7, 8, 9, 11])
 (.seq
 (.seq
 (.reg 8 [oM 42 11, oQ 43 (.bin .lss 42 (cI 0))] [0, 7, 8, 9, 11, 43])
 (.cond 43
 (.seq
 (.reg 9 [oM 4 (cI (-1))] [4])
 .ret)
 .skip))
 (.reg 10 [oM 44 9, oM 45 11, oQ 46 (.bin .add 45 (cI 1)), oQ 47 (.bin .add 44 46), oM 9 47] [0, 7, 8, 9])))
 .skip))
 (.seq
 (.seq
 (.reg 11 [oM 12 (cI 1)] [0, 7, 8, 9, 12])
 (.block 3
 (.loop
 (.seq
 (.seq
 (.reg 12 [oM 48 12, oM 49 7, oQ 50 (.len 1 49), oQ 51 (.bin .lss 48 50)] [0, 7, 8, 9, 12, 51])
 (.cond 51
 .skip
 (.exit 3)))
 (.seq
 (.block 4
 (.seq
 (.dreg 14 [oM 54 0, oM 55 9, oM 56 12, oQ 57 (.bin .sub 55 56), oQ 58 (.istr 54 57), oM 59 7, oM 60 8, oM 61 12, oQ 62 (.bin .sub 60 61), oQ 63 (.istr 59 62), oQ 64 (.bin .neq 58 63)] false [0, 7, 8, 9, 12, 64])
 (.cond 64
 (.reg 0 [oN (.st .nev [])] [])
 .skip)))
 (.reg 13 [oM 52 12, oQ 53 (.bin .add 52 (cI 1)), oM 12 53] [0, 7, 8, 9, 12]))))))
 (.seq
 (.seq
 (.reg 15 [oM 65 9, oM 66 8, oQ 67 (.bin .sub 65 66), oM 4 67] [4])
 .ret)
 (.seq
 .skip
 (.seq
 (.reg 16 [oM 68 10, oQ 69 (.bin .add 68 (cI 1)), oM 10 69] [0, 7, 8, 9, 10])
 (.seq
 (.reg 17 [oM 70 9, oQ 71 (.bin .add 70 (cI 1)), oM 9 71] [0, 7, 8, 9, 10])
 (.seq
 (.reg 18 [oM 72 (cB true), gQ 73 72 true (.mov 10), gQ 74 72 true (.mov 9), gK 75 72 true (.call 329 [74]), gQ 76 72 true (.bin .gtr 73 75), oQ 77 (.pick 72 76 (cB false)), oM 78 77, gQ 79 78 true (.mov 9), gQ 80 78 true (.mov 0), gQ 81 78 true (.len 1 80), gQ 82 78 true (.bin .lss 79 81), oQ 83 (.pick 78 82 (cB false)), oM 84 83, gQ 85 84 false (.mov (cB false)), gQ 86 85 true (.mov 10), gQ 87 85 true (.mov 9), gQ 88 85 true (.bin .shr 87 (.c (.int .u64 4))), gQ 89 85 true (.bin .add (cI 4) 88), gQ 90 85 true (.bin .geq 86 89), gQ 91 84 false (.pick 85 90 (cB false)), gQ 92 84 false (.mov 91), gQ 93 92 true (.mov 9), gQ 94 92 true (.mov 0), gQ 95 92 true (.len 1 94), gQ 96 92 true (.bin .lss 93 95), gQ 97 84 false (.pick 92 96 (cB false)), oQ 98 (.pick 84 (cB true) 97)] [0, 7, 8, 9, 98])
 (.cond 98
 (.reg 0 [oN (.st .nev [])] [])
 .skip)))))))))))))
 (.seq
 (.seq
 (.reg 19 [oM 4 (cI (-1))] [4])
 .ret)
 (.seq
 .skip
 (.seq
 (.cond (cB true)
 (.seq
 (.reg 20 [oM 99 0, oM 100 9, oM 101 8, oQ 102 (.bin .sub 100 101), oQ 103 (.sstr 99 (some 102) none), oM 104 1, oK 105 (.st .nev []), oK 106 (.st .nev []), oM 13 106] [8, 9, 13])
 (.seq
 (.reg 21 [oM 107 13, oQ 108 (.bin .geq 107 (cI 0))] [8, 9, 13, 108])
 (.cond 108
 (.seq
 (.reg 22 [oM 109 9, oM 110 13, oQ 111 (.bin .add 109 110), oM 112 8, oQ 113 (.bin .sub 111 112), oM 4 113] [4])
 .ret)
 .skip)))
 (.scope
 (.seq
 (.reg 23 [oM 114 7, oM 115 8, oQ 116 (.istr 114 115), oM 14 116] [0, 7, 8, 9, 14])
 (.seq
 (.reg 24 [oM 117 7, oM 118 8, oQ 119 (.bin .sub 118 (cI 1)), oQ 120 (.istr 117 119), oM 15 120] [0, 7, 8, 9, 14, 15])
 (.seq
 .skip
 (.block 5
 (.loop
 (.seq
 (.seq
 (.reg 25 [oM 121 9, oM 122 0, oQ 123 (.len 1 122), oQ 124 (.bin .lss 121 123)] [0, 7, 8, 9, 14, 15, 124])
 (.cond 124
 .skip
 (.exit 5)))
 (.seq
 (.block 6
 (.seq
 (.reg 27 [oM 127 0, oM 128 9, oQ 129 (.istr 127 128), oM 130 14, oQ 131 (.bin .eql 129 130), oM 132 131, gQ 133 132 true (.mov 0), gQ 134 132 true (.mov 9), gQ 135 132 true (.bin .sub 134 (cI 1)), gQ 136 132 true (.istr 133 135), gQ 137 132 true (.mov 15), gQ 138 132 true (.bin .eql 136 137), oQ 139 (.pick 132 138 (cB false))] [0, 7, 8, 9, 14, 15, 139])
 (.cond 139
 (.seq
 (.seq
 (.reg 28 [oM 16 (cI 2)] [0, 7, 8, 9, 14, 15, 16])
 (.block 7
 (.loop
 (.seq
 (.seq
 (.reg 29 [oM 140 16, oM 141 7, oQ 142 (.len 1 141), oQ 143 (.bin .lss 140 142)] [0, 7, 8, 9, 14, 15, 16, 143])
 (.cond 143
 .skip
 (.exit 7)))
 (.seq
 (.block 8
 (.seq
 (.dreg 31 [oM 146 0, oM 147 9, oM 148 16, oQ 149 (.bin .sub 147 148), oQ 150 (.istr 146 149), oM 151 7, oM 152 8, oM 153 16, oQ 154 (.bin .sub 152 153), oQ 155 (.istr 151 154), oQ 156 (.bin .neq 150 155)] false [0, 7, 8, 9, 14, 15, 16, 156])
 (.cond 156
 (.exit 6)
 .skip)))
 (.reg 30 [oM 144 16, oQ 145 (.bin .add 144 (cI 1)), oM 16 145] [0, 7, 8, 9, 14, 15, 16]))))))
 (.seq
 (.reg 32 [oM 157 9, oM 158 8, oQ 159 (.bin .sub 157 158), oM 4 159] [4])
 .ret))
 .skip)))
 (.reg 26 [oM 125 9, oQ 126 (.bin .add 125 (cI 1)), oM 9 126] [0, 7, 8, 9, 14, 15]))))))))))
 (.seq
 (.reg 33 [oM 4 (cI (-1))] [4])
 .ret))))))))))))))))))
theorem fok327 : FOK Tryz.prog 327 (187, ic327, [(.t 4)]) := fokA [2000000] Tryz.func327 (by kernel_rfl) (by kernel_rfl) (by kernel_rfl) (by kernel_rfl)
def ic328 : IC :=
 (.seq
 (.reg 0 [oM 2 (cB false)] [0])
 (.seq
 (.block 0
 (.seq
 (.reg 1 [oM 4 0, oQ 5 (.bin .leq (.c (.int .i32 0)) 4), oM 6 5, gQ 7 6 true (.mov 0), gQ 8 6 true (.bin .lss 7 (.c (.int .i32 55296))), oQ 9 (.pick 6 8 (cB false)), oM 3 9] [0, 3])
 (.cond 3
 (.seq
 (.reg 2 [oM 2 (cB true)] [2])
 .ret)
 (.seq
 (.reg 3 [oM 11 0, oQ 12 (.bin .lss (.c (.int .i32 57343)) 11), oM 13 12, gQ 14 13 true (.mov 0), gQ 15 13 true (.bin .leq 14 (.c (.int .i32 1114111))), oQ 16 (.pick 13 15 (cB false)), oM 10 16] [10])
 (.cond 10
 (.seq
 (.reg 4 [oM 2 (cB true)] [2])
 .ret)
 .skip)))))
 (.seq
 (.reg 5 [oM 2 (cB false)] [2])
 .ret)))
theorem fok328 : FOK Tryz.prog 328 (17, ic328, [(.t 2)]) := fokA [2000000] Tryz.func328 (by kernel_rfl) (by kernel_rfl) (by kernel_rfl) (by kernel_rfl)
def ic329 : IC :=
 (.seq
 (.reg 0 [oM 2 (cI 0)] [0])
 (.seq
 (.reg 1 [oM 3 0, oQ 4 (.bin .add 3 (cI 16)), oQ 5 (.bin .quo 4 (cI 8)), oM 2 5] [2])
 .ret))
theorem fok329 : FOK Tryz.prog 329 (6, ic329, [(.t 2)]) := fokA [2000000] Tryz.func329 (by kernel_rfl) (by kernel_rfl) (by kernel_rfl) (by kernel_rfl)
end Go.Id.Tryz
