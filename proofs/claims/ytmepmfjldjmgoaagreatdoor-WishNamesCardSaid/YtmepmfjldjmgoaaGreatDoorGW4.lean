/- The compiled codes of functions, written by a program out of the given form. Conditions: none. -/
import Derived.Test.YtmepmfjldjmgoaaGreatDoorFwW
import Derived.Test.YtmepmfjldjmgoaaGreatDoorProg
set_option linter.all false
namespace Go.Id.Tryz
open Go Go.Id Go.Proofs
def allF4 : List Nat := List.range 412
def ic349 : IC :=
 (.seq
 (.reg 0 [oM 2 (.c (.str []))] [0])
 (.seq
 (.reg 1 [oM 3 0, oK 4 (.call 357 [3, (cI 10)]), oM 2 4] [2])
 .ret))
theorem fok349 : FOK Tryz.prog 349 (5, ic349, [(.t 2)]) := fokA [2000000] Tryz.func349 (by kernel_rfl) (by kernel_rfl) (by kernel_rfl) (by kernel_rfl)
def ic350 : IC :=
 (.seq
 (.reg 0 [oM 3 (cI 0)] [0, 1, 3])
 (.block 0
 (.loop
 (.seq
 (.seq
 (.reg 1 [oM 6 3, oQ 7 (.load none 1), oQ 8 (.len 1 7), oQ 9 (.bin .lss 6 8)] [0, 1, 3, 9])
 (.cond 9
 .skip
 (.exit 0)))
 (.block 1
 (.seq
 (.reg 2 [oQ 10 (.load none 1), oM 11 3, oQ 12 (.istr 10 11), oK 13 (.call 351 [12]), oQ 14 (.bld [(zU 0), (.str [])] [⟨0, ⟨1, 13⟩⟩]), oK 4 (.alloc [(zU 0), (.str [])]), oN (.store 2 4 14)] [0, 1, 3, 4])
 (.seq
 (.reg 3 [oM 15 3, oM 5 15] [0, 1, 3, 4, 5])
 (.seq
 (.seq
 (.reg 4 [oM 16 3, oQ 17 (.bin .add 16 (cI 1)), oM 3 17] [0, 1, 3, 4, 5])
 (.block 2
 (.loop
 (.seq
 (.seq
 (.oreg 5 [(0, oQ 18 (.faddr 0 4), 0), (1, oQ 19 (.load none 18), 0), (2, oQ 20 (.bin .geq 19 (.c (zU 4))), 0), (3, oM 21 20, 0), (4, gQ 22 21 true (.mov 3), 0), (5, gQ 23 21 true (.load none 1), 0), (6, gQ 24 21 true (.len 1 23), 0), (7, gQ 25 21 true (.bin .lss 22 24), 0), (8, oQ 26 (.pick 21 25 (cB false)), 0), (9, oM 27 26, 0), (10, gQ 28 27 true (.load none 1), 0), (11, gQ 29 27 true (.mov 3), 0), (12, gQ 30 27 true (.istr 28 29), 0), (14, gQ 32 27 true (.faddr 0 4), 0), (15, gQ 33 27 true (.load none 32), 0), (13, gK 31 27 true (.call 351 [30]), 32768), (16, gQ 34 27 true (.bin .eql 31 33), 0), (17, oQ 35 (.pick 27 34 (cB false)), 0)] [0, 1, 3, 4, 5, 35])
 (.cond 35
 .skip
 (.exit 2)))
 (.seq
 (.block 3
 .skip)
 (.reg 6 [oM 36 3, oQ 37 (.bin .add 36 (cI 1)), oM 3 37] [0, 1, 3, 4, 5]))))))
 (.seq
 (.seq
 (.reg 7 [oQ 38 (.faddr 0 4), oQ 39 (.load none 38), oQ 40 (.bin .geq 39 (.c (zU 4)))] [0, 1, 3, 4, 5, 40])
 (.cond 40
 (.reg 8 [oQ 41 (.load none 1), oM 42 5, oM 43 3, oQ 44 (.sstr 41 (some 42) (some 43)), oQ 45 (.faddr 1 4), oN (.store 1 45 44)] [0, 1, 3, 4])
 .skip))
 (.seq
 (.seq
 (.reg 9 [oQ 46 (.faddr 0 4), oQ 47 (.load none 46), oQ 48 (.bin .eql 47 (.c (zU 5)))] [0, 1, 3, 4, 48])
 (.cond 48
 (.reg 10 [oQ 49 (.faddr 1 4), oQ 50 (.load none 49), oK 51 (.call 352 [50, (.c (.str [48]))]), oQ 52 (.faddr 1 4), oN (.store 1 52 51)] [0, 1, 3, 4])
 .skip))
 (.seq
 (.reg 11 [oQ 53 (.faddr 0 4), oQ 54 (.load none 53), oQ 55 (.bin .neq 54 (.c (zU 0))), oM 56 55, gQ 57 56 true (.mov 0), gQ 58 56 true (.load (some 2) 4), gK 59 56 true (.callv 57 [58]), gQ 60 56 true (.not 59), oQ 61 (.pick 56 60 (cB false))] [0, 1, 3, 61])
 (.cond 61
 .ret
 .skip))))))))))))
theorem fok350 : FOK Tryz.prog 350 (62, ic350, []) := fokA [2000000] Tryz.func350 (by kernel_rfl) (by kernel_rfl) (by kernel_rfl) (by kernel_rfl)
def ic351 : IC :=
 (.seq
 (.reg 0 [oM 2 (.c (zU 0))] [0])
 (.seq
 (.block 0
 (.seq
 (.reg 1 [oM 4 0, oQ 5 (.bin .eql 4 (.c (zU 126))), oM 3 5] [0, 3])
 (.cond 3
 (.seq
 (.reg 2 [oM 2 (.c (zU 1))] [2])
 .ret)
 (.seq
 (.reg 3 [oM 7 0, oQ 8 (.bin .eql 7 (.c (zU 94))), oM 6 8] [0, 6])
 (.cond 6
 (.seq
 (.reg 4 [oM 2 (.c (zU 3))] [2])
 .ret)
 (.seq
 (.reg 5 [oM 10 0, oQ 11 (.bin .geq 10 (.c (zU 97))), oM 12 11, gQ 13 12 true (.mov 0), gQ 14 12 true (.bin .leq 13 (.c (zU 122))), oQ 15 (.pick 12 14 (cB false)), oM 16 15, gQ 17 16 false (.mov 0), gQ 18 16 false (.bin .geq 17 (.c (zU 65))), gQ 19 16 false (.mov 18), gQ 20 19 true (.mov 0), gQ 21 19 true (.bin .leq 20 (.c (zU 90))), gQ 22 16 false (.pick 19 21 (cB false)), oQ 23 (.pick 16 (cB true) 22), oM 9 23] [0, 9])
 (.cond 9
 (.seq
 (.reg 6 [oM 2 (.c (zU 4))] [2])
 .ret)
 (.seq
 (.reg 7 [oM 25 0, oQ 26 (.bin .geq 25 (.c (zU 48))), oM 27 26, gQ 28 27 true (.mov 0), gQ 29 27 true (.bin .leq 28 (.c (zU 57))), oQ 30 (.pick 27 29 (cB false)), oM 24 30] [24])
 (.cond 24
 (.seq
 (.reg 8 [oM 2 (.c (zU 5))] [2])
 .ret)
 .skip)))))))))
 (.seq
 (.reg 9 [oM 2 (.c (zU 0))] [2])
 .ret)))
theorem fok351 : FOK Tryz.prog 351 (31, ic351, [(.t 2)]) := fokA [2000000] Tryz.func351 (by kernel_rfl) (by kernel_rfl) (by kernel_rfl) (by kernel_rfl)
def ic352 : IC :=
 (.seq
 (.reg 0 [oM 4 (.c (.str []))] [0, 1])
 (.seq
 (.seq
 (.reg 1 [oM 7 0, oQ 8 (.bin .eql 7 (.c (.str []))), oM 9 8, gQ 10 9 false (.mov 1), gQ 11 9 false (.bin .eql 10 (.c (.str []))), oQ 12 (.pick 9 (cB true) 11)] [0, 1, 12])
 (.cond 12
 (.seq
 (.reg 2 [oM 13 0, oM 4 13] [4])
 .ret)
 .skip))
 (.seq
 (.seq
 (.reg 3 [oM 14 1, oQ 15 (.len 1 14), oQ 16 (.bin .eql 15 (cI 1)), oM 17 16, gQ 18 17 true (.mov 1), gQ 19 17 true (.istr 18 (cI 0)), gQ 20 17 true (.bin .lss 19 (.c (zU 128))), oQ 21 (.pick 17 20 (cB false))] [0, 1, 21])
 (.cond 21
 (.seq
 (.reg 4 [oM 22 0, oM 23 1, oQ 24 (.istr 23 (cI 0)), oK 25 (.call 358 [22, 24]), oM 4 25] [4])
 .ret)
 .skip))
 (.seq
 (.seq
 (.reg 5 [oM 27 1, oK 28 (.call 359 [27]), oM 26 28, oQ 29 (.ext 0 26), oQ 30 (.ext 1 26), oK 5 (.alloc [(.bool false), (.bool false), (.bool false), (.bool false), (.bool false), (.bool false), (.bool false), (.bool false), (.bool false), (.bool false), (.bool false), (.bool false), (.bool false), (.bool false), (.bool false), (.bool false), (.bool false), (.bool false), (.bool false), (.bool false), (.bool false), (.bool false), (.bool false), (.bool false), (.bool false), (.bool false), (.bool false), (.bool false), (.bool false), (.bool false), (.bool false), (.bool false), (.bool false), (.bool false), (.bool false), (.bool false), (.bool false), (.bool false), (.bool false), (.bool false), (.bool false), (.bool false), (.bool false), (.bool false), (.bool false), (.bool false), (.bool false), (.bool false), (.bool false), (.bool false), (.bool false), (.bool false), (.bool false), (.bool false), (.bool false), (.bool false), (.bool false), (.bool false), (.bool false), (.bool false), (.bool false), (.bool false), (.bool false), (.bool false), (.bool false), (.bool false), (.bool false), (.bool false), (.bool false), (.bool false), (.bool false), (.bool false), (.bool false), (.bool false), (.bool false), (.bool false), (.bool false), (.bool false), (.bool false), (.bool false), (.bool false), (.bool false), (.bool false), (.bool false), (.bool false), (.bool false), (.bool false), (.bool false), (.bool false), (.bool false), (.bool false), (.bool false), (.bool false), (.bool false), (.bool false), (.bool false), (.bool false), (.bool false), (.bool false), (.bool false), (.bool false), (.bool false), (.bool false), (.bool false), (.bool false), (.bool false), (.bool false), (.bool false), (.bool false), (.bool false), (.bool false), (.bool false), (.bool false), (.bool false), (.bool false), (.bool false), (.bool false), (.bool false), (.bool false), (.bool false), (.bool false), (.bool false), (.bool false), (.bool false), (.bool false), (.bool false), (.bool false), (.bool false), (.bool false), (.bool false), (.bool false), (.bool false), (.bool false), (.bool false), (.bool false), (.bool false), (.bool false), (.bool false), (.bool false), (.bool false), (.bool false), (.bool false), (.bool false), (.bool false), (.bool false), (.bool false), (.bool false), (.bool false), (.bool false), (.bool false), (.bool false), (.bool false), (.bool false), (.bool false), (.bool false), (.bool false), (.bool false), (.bool false), (.bool false), (.bool false), (.bool false), (.bool false), (.bool false), (.bool false), (.bool false), (.bool false), (.bool false), (.bool false), (.bool false), (.bool false), (.bool false), (.bool false), (.bool false), (.bool false), (.bool false), (.bool false), (.bool false), (.bool false), (.bool false), (.bool false), (.bool false), (.bool false), (.bool false), (.bool false), (.bool false), (.bool false), (.bool false), (.bool false), (.bool false), (.bool false), (.bool false), (.bool false), (.bool false), (.bool false), (.bool false), (.bool false), (.bool false), (.bool false), (.bool false), (.bool false), (.bool false), (.bool false), (.bool false), (.bool false), (.bool false), (.bool false), (.bool false), (.bool false), (.bool false), (.bool false), (.bool false), (.bool false), (.bool false), (.bool false), (.bool false), (.bool false), (.bool false), (.bool false), (.bool false), (.bool false), (.bool false), (.bool false), (.bool false), (.bool false), (.bool false), (.bool false), (.bool false), (.bool false), (.bool false), (.bool false), (.bool false), (.bool false), (.bool false), (.bool false), (.bool false), (.bool false), (.bool false), (.bool false), (.bool false), (.bool false), (.bool false), (.bool false), (.bool false), (.bool false), (.bool false), (.bool false), (.bool false), (.bool false), (.bool false), (.bool false), (.bool false), (.bool false), (.bool false), (.bool false), (.bool false), (.bool false)]), oN (.store 256 5 29), oM 6 30] [0, 1, 5, 6])
 (.seq
 (.reg 6 [oM 31 6] [0, 1, 5, 31])
 (.cond 31
 (.seq
 (.reg 7 [oM 32 0, oK 33 (.call 360 [32, 5]), oM 4 33] [4])
 .ret)
 .skip)))
 (.seq
 (.reg 8 [oM 34 0, oM 35 1, oK 36 (.call 361 [34, 35]), oM 4 36] [4])
 .ret)))))
theorem fok352 : FOK Tryz.prog 352 (37, ic352, [(.t 4)]) := fokA [2000000] Tryz.func352 (by kernel_rfl) (by kernel_rfl) (by kernel_rfl) (by kernel_rfl)
def ic353 : IC :=
 (.seq
 (.reg 0 [oM 2 (cB false)] [0])
 (.seq
 (.reg 1 [oM 3 0, oM 4 0, oQ 5 (.bin .neq 3 4), oM 2 5] [2])
 .ret))
theorem fok353 : FOK Tryz.prog 353 (6, ic353, [(.t 2)]) := fokA [2000000] Tryz.func353 (by kernel_rfl) (by kernel_rfl) (by kernel_rfl) (by kernel_rfl)
def ic354 : IC :=
 (.seq
 (.reg 0 [oM 2 (cB false)] [0])
 (.seq
 (.reg 1 [oM 3 0, oM 4 0, oQ 5 (.bin .neq 3 4), oM 2 5] [2])
 .ret))
theorem fok354 : FOK Tryz.prog 354 (6, ic354, [(.t 2)]) := fokA [2000000] Tryz.func354 (by kernel_rfl) (by kernel_rfl) (by kernel_rfl) (by kernel_rfl)
def ic355 : IC :=
 (.seq
 (.reg 0 [oM 8 (cI 0), oM 9 (cI 0)] [0, 1, 2, 3])
 (.seq
 (.seq
 (.dreg 1 [oM 10 0, oM 11 2, oQ 12 (.iaddr 1 10 11), oQ 13 (.load none 12), oM 14 0, oM 15 1, oQ 16 (.iaddr 1 14 15), oQ 17 (.load none 16), oK 18 (.call 303 [13, 17])] false [1, 2, 3, 18])
 (.cond 18
 (.seq
 (.reg 2 [oM 19 3, oQ 20 (.nchk 19), oQ 21 (.load none 20), oQ 22 (.bin .add 21 (cI 1)), oQ 23 (.nchk 19), oN (.store 1 23 22)] [1, 2])
 (.seq
 (.reg 3 [oM 24 2, oM 25 1, oM 8 24, oM 9 25] [8, 9])
 .ret))
 .skip))
 (.seq
 (.reg 4 [oM 26 1, oM 27 2, oM 8 26, oM 9 27] [8, 9])
 .ret)))
theorem fok355 : FOK Tryz.prog 355 (28, ic355, [(.t 8), (.t 9)]) := fokA [2000000] Tryz.func355 (by kernel_rfl) (by kernel_rfl) (by kernel_rfl) (by kernel_rfl)
def ic356 : IC :=
 (.seq
 (.reg 0 [oM 10 (cI 0), oM 11 (cI 0)] [0, 1, 2, 3, 4])
 (.seq
 (.seq
 (.dreg 1 [oM 12 4, oM 13 0, oM 14 2, oQ 15 (.iaddr 1 13 14), oQ 16 (.load none 15), oM 17 0, oM 18 1, oQ 19 (.iaddr 1 17 18), oQ 20 (.load none 19), oK 21 (.callv 12 [16, 20]), oQ 22 (.bin .lss 21 (cI 0))] false [1, 2, 3, 22])
 (.cond 22
 (.seq
 (.reg 2 [oM 23 3, oQ 24 (.nchk 23), oQ 25 (.load none 24), oQ 26 (.bin .add 25 (cI 1)), oQ 27 (.nchk 23), oN (.store 1 27 26)] [1, 2])
 (.seq
 (.reg 3 [oM 28 2, oM 29 1, oM 10 28, oM 11 29] [10, 11])
 .ret))
 .skip))
 (.seq
 (.reg 4 [oM 30 1, oM 31 2, oM 10 30, oM 11 31] [10, 11])
 .ret)))
theorem fok356 : FOK Tryz.prog 356 (32, ic356, [(.t 10), (.t 11)]) := fokA [2000000] Tryz.func356 (by kernel_rfl) (by kernel_rfl) (by kernel_rfl) (by kernel_rfl)
def ic357 : IC :=
 (.seq
 (.reg 0 [oM 4 (.c (.str []))] [0, 1])
 (.seq
 (.seq
 (.reg 1 [oM 10 1, oQ 11 (.bin .eql 10 (cI 10))] [0, 1, 11])
 (.cond 11
 (.seq
 (.seq
 (.reg 2 [oM 12 0, oQ 13 (.bin .leq (cI 0) 12), oM 14 13, gQ 15 14 true (.mov 0), gQ 16 14 true (.bin .lss 15 (cI 100)), oQ 17 (.pick 14 16 (cB false))] [0, 17])
 (.cond 17
 (.seq
 (.reg 3 [oM 18 0, oK 19 (.call 362 [18]), oM 4 19] [4])
 .ret)
 .skip))
 (.seq
 (.reg 4 [oK 5 (.alloc [(zU 0), (zU 0), (zU 0), (zU 0), (zU 0), (zU 0), (zU 0), (zU 0), (zU 0), (zU 0), (zU 0), (zU 0), (zU 0), (zU 0), (zU 0), (zU 0), (zU 0), (zU 0), (zU 0), (zU 0), (zU 0), (zU 0), (zU 0), (zU 0)])] [0, 5])
 (.seq
 (.reg 5 [oM 20 0, oQ 21 (.conv .u64 20), oM 6 21] [0, 5, 6])
 (.seq
 (.seq
 (.reg 6 [oM 22 0, oQ 23 (.bin .lss 22 (cI 0))] [0, 5, 6, 23])
 (.cond 23
 (.reg 7 [oM 24 6, oQ 25 (.neg 24), oM 6 25] [0, 5, 6])
 .skip))
 (.seq
 (.reg 8 [oM 26 6, oK 27 (.call 363 [26]), oM 7 27] [0, 5, 6, 7])
 (.seq
 (.reg 9 [oM 28 7, oQ 29 (.bin .add (cI 1) 28), oK 30 (.st .nev []), oM 31 6, oK 32 (.call 364 [30, 31])] [0, 5, 7])
 (.seq
 (.seq
 (.reg 10 [oM 33 0, oQ 34 (.bin .lss 33 (cI 0))] [5, 7, 34])
 (.cond 34
 (.seq
 (.reg 11 [oQ 35 (.aaddr 24 1 5 (cI 0)), oN (.store 1 35 (.c (zU 45)))] [7])
 (.seq
 (.reg 12 [oM 36 7, oQ 37 (.bin .add (cI 1) 36), oK 38 (.st .nev []), oK 39 (.st .nev []), oM 4 39] [4])
 .ret))
 .skip))
 (.seq
 (.reg 13 [oM 40 7, oQ 41 (.bin .add (cI 1) 40), oK 42 (.st .nev []), oK 43 (.st .nev []), oM 4 43] [4])
 .ret))))))))
 .skip))
 (.seq
 (.reg 14 [oM 45 0, oQ 46 (.conv .u64 45), oM 47 1, oM 48 0, oQ 49 (.bin .lss 48 (cI 0)), oK 50 (.call 365 [(.c .nilslice), 46, 47, 49, (cB false)]), oM 44 50, oQ 51 (.ext 0 44), oQ 52 (.ext 1 44), oM 8 51, oM 9 52] [9])
 (.seq
 (.reg 15 [oM 53 9, oM 4 53] [4])
 .ret))))
theorem fok357 : FOK Tryz.prog 357 (54, ic357, [(.t 4)]) := fokA [2000000] Tryz.func357 (by kernel_rfl) (by kernel_rfl) (by kernel_rfl) (by kernel_rfl)
def ic358 : IC :=
 (.seq
 (.reg 0 [oM 4 (.c (.str []))] [0, 1])
 (.seq
 (.block 0
 (.loop
 (.seq
 (.seq
 (.reg 1 [oM 5 0, oQ 6 (.len 1 5), oQ 7 (.bin .gtr 6 (cI 0)), oM 8 7, gQ 9 8 true (.mov 0), gQ 10 8 true (.istr 9 (cI 0)), gQ 11 8 true (.mov 1), gQ 12 8 true (.bin .eql 10 11), oQ 13 (.pick 8 12 (cB false))] [0, 1, 13])
 (.cond 13
 .skip
 (.exit 0)))
 (.block 1
 (.reg 2 [oM 14 0, oQ 15 (.sstr 14 (some (cI 1)) none), oM 0 15] [0, 1])))))
 (.seq
 (.reg 3 [oM 16 0, oM 4 16] [4])
 .ret)))
theorem fok358 : FOK Tryz.prog 358 (17, ic358, [(.t 4)]) := fokA [2000000] Tryz.func358 (by kernel_rfl) (by kernel_rfl) (by kernel_rfl) (by kernel_rfl)
def ic359 : IC :=
 (.seq
 (.reg 0 [oK 2 (.alloc [(.bool false), (.bool false), (.bool false), (.bool false), (.bool false), (.bool false), (.bool false), (.bool false), (.bool false), (.bool false), (.bool false), (.bool false), (.bool false), (.bool false), (.bool false), (.bool false), (.bool false), (.bool false), (.bool false), (.bool false), (.bool false), (.bool false), (.bool false), (.bool false), (.bool false), (.bool false), (.bool false), (.bool false), (.bool false), (.bool false), (.bool false), (.bool false), (.bool false), (.bool false), (.bool false), (.bool false), (.bool false), (.bool false), (.bool false), (.bool false), (.bool false), (.bool false), (.bool false), (.bool false), (.bool false), (.bool false), (.bool false), (.bool false), (.bool false), (.bool false), (.bool false), (.bool false), (.bool false), (.bool false), (.bool false), (.bool false), (.bool false), (.bool false), (.bool false), (.bool false), (.bool false), (.bool false), (.bool false), (.bool false), (.bool false), (.bool false), (.bool false), (.bool false), (.bool false), (.bool false), (.bool false), (.bool false), (.bool false), (.bool false), (.bool false), (.bool false), (.bool false), (.bool false), (.bool false), (.bool false), (.bool false), (.bool false), (.bool false), (.bool false), (.bool false), (.bool false), (.bool false), (.bool false), (.bool false), (.bool false), (.bool false), (.bool false), (.bool false), (.bool false), (.bool false), (.bool false), (.bool false), (.bool false), (.bool false), (.bool false), (.bool false), (.bool false), (.bool false), (.bool false), (.bool false), (.bool false), (.bool false), (.bool false), (.bool false), (.bool false), (.bool false), (.bool false), (.bool false), (.bool false), (.bool false), (.bool false), (.bool false), (.bool false), (.bool false), (.bool false), (.bool false), (.bool false), (.bool false), (.bool false), (.bool false), (.bool false), (.bool false), (.bool false), (.bool false), (.bool false), (.bool false), (.bool false), (.bool false), (.bool false), (.bool false), (.bool false), (.bool false), (.bool false), (.bool false), (.bool false), (.bool false), (.bool false), (.bool false), (.bool false), (.bool false), (.bool false), (.bool false), (.bool false), (.bool false), (.bool false), (.bool false), (.bool false), (.bool false), (.bool false), (.bool false), (.bool false), (.bool false), (.bool false), (.bool false), (.bool false), (.bool false), (.bool false), (.bool false), (.bool false), (.bool false), (.bool false), (.bool false), (.bool false), (.bool false), (.bool false), (.bool false), (.bool false), (.bool false), (.bool false), (.bool false), (.bool false), (.bool false), (.bool false), (.bool false), (.bool false), (.bool false), (.bool false), (.bool false), (.bool false), (.bool false), (.bool false), (.bool false), (.bool false), (.bool false), (.bool false), (.bool false), (.bool false), (.bool false), (.bool false), (.bool false), (.bool false), (.bool false), (.bool false), (.bool false), (.bool false), (.bool false), (.bool false), (.bool false), (.bool false), (.bool false), (.bool false), (.bool false), (.bool false), (.bool false), (.bool false), (.bool false), (.bool false), (.bool false), (.bool false), (.bool false), (.bool false), (.bool false), (.bool false), (.bool false), (.bool false), (.bool false), (.bool false), (.bool false), (.bool false), (.bool false), (.bool false), (.bool false), (.bool false), (.bool false), (.bool false), (.bool false), (.bool false), (.bool false), (.bool false), (.bool false), (.bool false), (.bool false), (.bool false), (.bool false), (.bool false), (.bool false), (.bool false), (.bool false), (.bool false), (.bool false), (.bool false), (.bool false), (.bool false), (.bool false), (.bool false), (.bool false), (.bool false), (.bool false), (.bool false), (.bool false), (.bool false)]), oM 3 (cB false)] [0, 2])
 (.seq
 (.seq
 (.reg 1 [oM 4 (cI 0)] [0, 2, 4])
 (.block 0
 (.loop
 (.seq
 (.seq
 (.reg 2 [oM 6 4, oM 7 0, oQ 8 (.len 1 7), oQ 9 (.bin .lss 6 8)] [0, 2, 4, 9])
 (.cond 9
 .skip
 (.exit 0)))
 (.seq
 (.block 1
 (.seq
 (.reg 4 [oM 12 0, oM 13 4, oQ 14 (.istr 12 13), oM 5 14] [0, 2, 4, 5])
 (.seq
 (.seq
 (.reg 5 [oM 15 5, oQ 16 (.bin .geq 15 (.c (zU 128)))] [0, 2, 4, 5, 16])
 (.cond 16
 (.seq
 (.reg 6 [oQ 17 (.load (some 256) 2), oN (.store 256 2 17), oM 3 (cB false)] [2, 3])
 .ret)
 .skip))
 (.reg 7 [oM 18 5, oQ 19 (.aaddr 256 1 2 18), oN (.store 1 19 (cB true))] [0, 2, 4]))))
 (.reg 3 [oM 10 4, oQ 11 (.bin .add 10 (cI 1)), oM 4 11] [0, 2, 4]))))))
 (.seq
 (.reg 8 [oQ 20 (.load (some 256) 2), oN (.store 256 2 20), oM 3 (cB true)] [2, 3])
 .ret)))
theorem fok359 : FOK Tryz.prog 359 (21, ic359, [(.cell (some 256) 2), (.t 3)]) := fokA [2000000] Tryz.func359 (by kernel_rfl) (by kernel_rfl) (by kernel_rfl) (by kernel_rfl)
def ic360 : IC :=
 (.seq
 (.reg 0 [oM 4 (.c (.str []))] [0, 1])
 (.seq
 (.block 0
 (.loop
 (.seq
 (.seq
 (.reg 1 [oM 5 0, oQ 6 (.len 1 5), oQ 7 (.bin .gtr 6 (cI 0))] [0, 1, 7])
 (.cond 7
 .skip
 (.exit 0)))
 (.block 1
 (.seq
 (.seq
 (.reg 2 [oM 8 1, oM 9 0, oQ 10 (.istr 9 (cI 0)), oK 11 (.call 366 [8, 10]), oQ 12 (.not 11)] [0, 1, 12])
 (.cond 12
 (.exit 0)
 .skip))
 (.reg 3 [oM 13 0, oQ 14 (.sstr 13 (some (cI 1)) none), oM 0 14] [0, 1]))))))
 (.seq
 (.reg 4 [oM 15 0, oM 4 15] [4])
 .ret)))
theorem fok360 : FOK Tryz.prog 360 (16, ic360, [(.t 4)]) := fokA [2000000] Tryz.func360 (by kernel_rfl) (by kernel_rfl) (by kernel_rfl) (by kernel_rfl)
def ic361 : IC :=
 (.seq
 (.reg 0 [oM 4 (.c (.str []))] [0, 1])
 (.seq
 (.block 0
 (.loop
 (.seq
 (.seq
 (.reg 1 [oM 7 0, oQ 8 (.len 1 7), oQ 9 (.bin .gtr 8 (cI 0))] [0, 1, 9])
 (.cond 9
 .skip
 (.exit 0)))
 (.block 1
 (.seq
 (.reg 2 [oM 11 0, oK 12 (.call 367 [11]), oM 10 12, oQ 13 (.ext 0 10), oQ 14 (.ext 1 10), oM 5 13, oM 6 14] [0, 1, 5, 6])
 (.seq
 (.seq
 (.reg 3 [oM 15 1, oM 16 5, oK 17 (.call 368 [15, 16]), oQ 18 (.not 17)] [0, 1, 6, 18])
 (.cond 18
 (.exit 0)
 .skip))
 (.reg 4 [oM 19 0, oM 20 6, oQ 21 (.sstr 19 (some 20) none), oM 0 21] [0, 1])))))))
 (.seq
 (.reg 5 [oM 22 0, oM 4 22] [4])
 .ret)))
theorem fok361 : FOK Tryz.prog 361 (23, ic361, [(.t 4)]) := fokA [2000000] Tryz.func361 (by kernel_rfl) (by kernel_rfl) (by kernel_rfl) (by kernel_rfl)
def ic362 : IC :=
 (.seq
 (.reg 0 [oM 2 (.c (.str []))] [0])
 (.seq
 (.seq
 (.reg 1 [oM 3 0, oQ 4 (.bin .lss 3 (cI 10))] [0, 4])
 (.cond 4
 (.seq
 (.reg 2 [oM 5 0, oM 6 0, oQ 7 (.bin .add 6 (cI 1)), oQ 8 (.sstr (.c (.str [48, 49, 50, 51, 52, 53, 54, 55, 56, 57, 97, 98, 99, 100, 101, 102, 103, 104, 105, 106, 107, 108, 109, 110, 111, 112, 113, 114, 115, 116, 117, 118, 119, 120, 121, 122])) (some 5) (some 7)), oM 2 8] [2])
 .ret)
 .skip))
 (.seq
 (.reg 3 [oM 9 0, oQ 10 (.bin .mul 9 (cI 2)), oM 11 0, oQ 12 (.bin .mul 11 (cI 2)), oQ 13 (.bin .add 12 (cI 2)), oQ 14 (.sstr (.c (.str [48, 48, 48, 49, 48, 50, 48, 51, 48, 52, 48, 53, 48, 54, 48, 55, 48, 56, 48, 57, 49, 48, 49, 49, 49, 50, 49, 51, 49, 52, 49, 53, 49, 54, 49, 55, 49, 56, 49, 57, 50, 48, 50, 49, 50, 50, 50, 51, 50, 52, 50, 53, 50, 54, 50, 55, 50, 56, 50, 57, 51, 48, 51, 49, 51, 50, 51, 51, 51, 52, 51, 53, 51, 54, 51, 55, 51, 56, 51, 57, 52, 48, 52, 49, 52, 50, 52, 51, 52, 52, 52, 53, 52, 54, 52, 55, 52, 56, 52, 57, 53, 48, 53, 49, 53, 50, 53, 51, 53, 52, 53, 53, 53, 54, 53, 55, 53, 56, 53, 57, 54, 48, 54, 49, 54, 50, 54, 51, 54, 52, 54, 53, 54, 54, 54, 55, 54, 56, 54, 57, 55, 48, 55, 49, 55, 50, 55, 51, 55, 52, 55, 53, 55, 54, 55, 55, 55, 56, 55, 57, 56, 48, 56, 49, 56, 50, 56, 51, 56, 52, 56, 53, 56, 54, 56, 55, 56, 56, 56, 57, 57, 48, 57, 49, 57, 50, 57, 51, 57, 52, 57, 53, 57, 54, 57, 55, 57, 56, 57, 57])) (some 10) (some 13)), oM 2 14] [2])
 .ret)))
theorem fok362 : FOK Tryz.prog 362 (15, ic362, [(.t 2)]) := fokA [2000000] Tryz.func362 (by kernel_rfl) (by kernel_rfl) (by kernel_rfl) (by kernel_rfl)
def ic363 : IC :=
 (.seq
 (.reg 0 [oM 2 (cI 0)] [0])
 (.seq
 (.reg 1 [oM 4 0, oK 5 (.call 307 [4]), oK 6 (.call 369 [5]), oM 3 6] [0, 3])
 (.seq
 (.reg 2 [oM 7 3, oM 8 0, oM 9 3, oQ 10 (.aaddr 20 1 (.g 4) 9), oQ 11 (.load none 10), oQ 12 (.bin .geq 8 11), oK 13 (.call 370 [12]), oQ 14 (.bin .add 7 13), oM 2 14] [2])
 .ret)))
theorem fok363 : FOK Tryz.prog 363 (15, ic363, [(.t 2)]) := fokA [2000000] Tryz.func363 (by kernel_rfl) (by kernel_rfl) (by kernel_rfl) (by kernel_rfl)
def ic364 : IC :=
 (.seq
 (.reg 0 [oM 17 0, oQ 18 (.len 0 17), oM 4 18] [0, 1, 4])
 (.seq
 (.block 0
 (.loop
 (.seq
 (.seq
 (.reg 1 [oM 19 4, oQ 20 (.bin .geq 19 (cI 8))] [0, 1, 4, 20])
 (.cond 20
 .skip
 (.exit 0)))
 (.block 1
 (.seq
 (.reg 2 [oM 21 1, oQ 22 (.bin .rem 21 (.c (.int .u64 100000000))), oQ 23 (.conv .u32 22), oM 5 23] [0, 1, 4, 5])
 (.seq
 (.reg 3 [oM 24 1, oQ 25 (.bin .quo 24 (.c (.int .u64 100000000))), oM 1 25] [0, 1, 4, 5])
 (.seq
 (.reg 4 [oM 26 5, oQ 27 (.bin .quo 26 (.c (.int .u32 10000))), oM 28 5, oQ 29 (.bin .rem 28 (.c (.int .u32 10000))), oM 6 27, oM 7 29] [0, 1, 4, 6, 7])
 (.seq
 (.reg 5 [oM 30 7, oQ 31 (.bin .quo 30 (.c (.int .u32 100))), oQ 32 (.bin .mul 31 (.c (.int .u32 2))), oM 33 7, oQ 34 (.bin .rem 33 (.c (.int .u32 100))), oQ 35 (.bin .mul 34 (.c (.int .u32 2))), oM 8 32, oM 9 35] [0, 1, 4, 6, 8, 9])
 (.seq
 (.reg 6 [oM 36 6, oQ 37 (.bin .quo 36 (.c (.int .u32 100))), oQ 38 (.bin .mul 37 (.c (.int .u32 2))), oM 39 6, oQ 40 (.bin .rem 39 (.c (.int .u32 100))), oQ 41 (.bin .mul 40 (.c (.int .u32 2))), oM 10 38, oM 11 41] [0, 1, 4, 8, 9, 10, 11])
 (.seq
 (.dreg 7 [oM 42 0, oM 43 4, oQ 44 (.bin .sub 43 (cI 1)), oM 45 0, oM 46 4, oQ 47 (.bin .sub 46 (cI 2)), oM 48 9, oQ 49 (.bin .add 48 (.c (.int .u32 1))), oQ 50 (.istr (.c (.str [48, 48, 48, 49, 48, 50, 48, 51, 48, 52, 48, 53, 48, 54, 48, 55, 48, 56, 48, 57, 49, 48, 49, 49, 49, 50, 49, 51, 49, 52, 49, 53, 49, 54, 49, 55, 49, 56, 49, 57, 50, 48, 50, 49, 50, 50, 50, 51, 50, 52, 50, 53, 50, 54, 50, 55, 50, 56, 50, 57, 51, 48, 51, 49, 51, 50, 51, 51, 51, 52, 51, 53, 51, 54, 51, 55, 51, 56, 51, 57, 52, 48, 52, 49, 52, 50, 52, 51, 52, 52, 52, 53, 52, 54, 52, 55, 52, 56, 52, 57, 53, 48, 53, 49, 53, 50, 53, 51, 53, 52, 53, 53, 53, 54, 53, 55, 53, 56, 53, 57, 54, 48, 54, 49, 54, 50, 54, 51, 54, 52, 54, 53, 54, 54, 54, 55, 54, 56, 54, 57, 55, 48, 55, 49, 55, 50, 55, 51, 55, 52, 55, 53, 55, 54, 55, 55, 55, 56, 55, 57, 56, 48, 56, 49, 56, 50, 56, 51, 56, 52, 56, 53, 56, 54, 56, 55, 56, 56, 56, 57, 57, 48, 57, 49, 57, 50, 57, 51, 57, 52, 57, 53, 57, 54, 57, 55, 57, 56, 57, 57])) 49), oM 51 9, oQ 52 (.istr (.c (.str [48, 48, 48, 49, 48, 50, 48, 51, 48, 52, 48, 53, 48, 54, 48, 55, 48, 56, 48, 57, 49, 48, 49, 49, 49, 50, 49, 51, 49, 52, 49, 53, 49, 54, 49, 55, 49, 56, 49, 57, 50, 48, 50, 49, 50, 50, 50, 51, 50, 52, 50, 53, 50, 54, 50, 55, 50, 56, 50, 57, 51, 48, 51, 49, 51, 50, 51, 51, 51, 52, 51, 53, 51, 54, 51, 55, 51, 56, 51, 57, 52, 48, 52, 49, 52, 50, 52, 51, 52, 52, 52, 53, 52, 54, 52, 55, 52, 56, 52, 57, 53, 48, 53, 49, 53, 50, 53, 51, 53, 52, 53, 53, 53, 54, 53, 55, 53, 56, 53, 57, 54, 48, 54, 49, 54, 50, 54, 51, 54, 52, 54, 53, 54, 54, 54, 55, 54, 56, 54, 57, 55, 48, 55, 49, 55, 50, 55, 51, 55, 52, 55, 53, 55, 54, 55, 55, 55, 56, 55, 57, 56, 48, 56, 49, 56, 50, 56, 51, 56, 52, 56, 53, 56, 54, 56, 55, 56, 56, 56, 57, 57, 48, 57, 49, 57, 50, 57, 51, 57, 52, 57, 53, 57, 54, 57, 55, 57, 56, 57, 57])) 51), oQ 53 (.iaddr 1 42 44), oN (.store 1 53 50), oQ 54 (.iaddr 1 45 47), oN (.store 1 54 52)] false [0, 1, 4, 8, 10, 11])
 (.seq
 (.dreg 8 [oM 55 0, oM 56 4, oQ 57 (.bin .sub 56 (cI 3)), oM 58 0, oM 59 4, oQ 60 (.bin .sub 59 (cI 4)), oM 61 8, oQ 62 (.bin .add 61 (.c (.int .u32 1))), oQ 63 (.istr (.c (.str [48, 48, 48, 49, 48, 50, 48, 51, 48, 52, 48, 53, 48, 54, 48, 55, 48, 56, 48, 57, 49, 48, 49, 49, 49, 50, 49, 51, 49, 52, 49, 53, 49, 54, 49, 55, 49, 56, 49, 57, 50, 48, 50, 49, 50, 50, 50, 51, 50, 52, 50, 53, 50, 54, 50, 55, 50, 56, 50, 57, 51, 48, 51, 49, 51, 50, 51, 51, 51, 52, 51, 53, 51, 54, 51, 55, 51, 56, 51, 57, 52, 48, 52, 49, 52, 50, 52, 51, 52, 52, 52, 53, 52, 54, 52, 55, 52, 56, 52, 57, 53, 48, 53, 49, 53, 50, 53, 51, 53, 52, 53, 53, 53, 54, 53, 55, 53, 56, 53, 57, 54, 48, 54, 49, 54, 50, 54, 51, 54, 52, 54, 53, 54, 54, 54, 55, 54, 56, 54, 57, 55, 48, 55, 49, 55, 50, 55, 51, 55, 52, 55, 53, 55, 54, 55, 55, 55, 56, 55, 57, 56, 48, 56, 49, 56, 50, 56, 51, 56, 52, 56, 53, 56, 54, 56, 55, 56, 56, 56, 57, 57, 48, 57, 49, 57, 50, 57, 51, 57, 52, 57, 53, 57, 54, 57, 55, 57, 56, 57, 57])) 62), oM 64 8, oQ 65 (.istr (.c (.str [48, 48, 48, 49, 48, 50, 48, 51, 48, 52, 48, 53, 48, 54, 48, 55, 48, 56, 48, 57, 49, 48, 49, 49, 49, 50, 49, 51, 49, 52, 49, 53, 49, 54, 49, 55, 49, 56, 49, 57, 50, 48, 50, 49, 50, 50, 50, 51, 50, 52, 50, 53, 50, 54, 50, 55, 50, 56, 50, 57, 51, 48, 51, 49, 51, 50, 51, 51, 51, 52, 51, 53, 51, 54, 51, 55, 51, 56, 51, 57, 52, 48, 52, 49, 52, 50, 52, 51, 52, 52, 52, 53, 52, 54, 52, 55, 52, 56, 52, 57, 53, 48, 53, 49, 53, 50, 53, 51, 53, 52, 53, 53, 53, 54, 53, 55, 53, 56, 53, 57, 54, 48, 54, 49, 54, 50, 54, 51, 54, 52, 54, 53, 54, 54, 54, 55, 54, 56, 54, 57, 55, 48, 55, 49, 55, 50, 55, 51, 55, 52, 55, 53, 55, 54, 55, 55, 55, 56, 55, 57, 56, 48, 56, 49, 56, 50, 56, 51, 56, 52, 56, 53, 56, 54, 56, 55, 56, 56, 56, 57, 57, 48, 57, 49, 57, 50, 57, 51, 57, 52, 57, 53, 57, 54, 57, 55, 57, 56, 57, 57])) 64), oQ 66 (.iaddr 1 55 57), oN (.store 1 66 63), oQ 67 (.iaddr 1 58 60), oN (.store 1 67 65)] false [0, 1, 4, 10, 11])
 (.seq
 (.dreg 9 [oM 68 0, oM 69 4, oQ 70 (.bin .sub 69 (cI 5)), oM 71 0, oM 72 4, oQ 73 (.bin .sub 72 (cI 6)), oM 74 11, oQ 75 (.bin .add 74 (.c (.int .u32 1))), oQ 76 (.istr (.c (.str [48, 48, 48, 49, 48, 50, 48, 51, 48, 52, 48, 53, 48, 54, 48, 55, 48, 56, 48, 57, 49, 48, 49, 49, 49, 50, 49, 51, 49, 52, 49, 53, 49, 54, 49, 55, 49, 56, 49, 57, 50, 48, 50, 49, 50, 50, 50, 51, 50, 52, 50, 53, 50, 54, 50, 55, 50, 56, 50, 57, 51, 48, 51, 49, 51, 50, 51, 51, 51, 52, 51, 53, 51, 54, 51, 55, 51, 56, 51, 57, 52, 48, 52, 49, 52, 50, 52, 51, 52, 52, 52, 53, 52, 54, 52, 55, 52, 56, 52, 57, 53, 48, 53, 49, 53, 50, 53, 51, 53, 52, 53, 53, 53, 54, 53, 55, 53, 56, 53, 57, 54, 48, 54, 49, 54, 50, 54, 51, 54, 52, 54, 53, 54, 54, 54, 55, 54, 56, 54, 57, 55, 48, 55, 49, 55, 50, 55, 51, 55, 52, 55, 53, 55, 54, 55, 55, 55, 56, 55, 57, 56, 48, 56, 49, 56, 50, 56, 51, 56, 52, 56, 53, 56, 54, 56, 55, 56, 56, 56, 57, 57, 48, 57, 49, 57, 50, 57, 51, 57, 52, 57, 53, 57, 54, 57, 55, 57, 56, 57, 57])) 75), oM 77 11, oQ 78 (.istr (.c (.str [48, 48, 48, 49, 48, 50, 48, 51, 48, 52, 48, 53, 48, 54, 48, 55, 48, 56, 48, 57, 49, 48, 49, 49, 49, 50, 49, 51, 49, 52, 49, 53, 49, 54, 49, 55, 49, 56, 49, 57, 50, 48, 50, 49, 50, 50, 50, 51, 50, 52, 50, 53, 50, 54, 50, 55, 50, 56, 50, 57, 51, 48, 51, 49, 51, 50, 51, 51, 51, 52, 51, 53, 51, 54, 51, 55, 51, 56, 51, 57, 52, 48, 52, 49, 52, 50, 52, 51, 52, 52, 52, 53, 52, 54, 52, 55, 52, 56, 52, 57, 53, 48, 53, 49, 53, 50, 53, 51, 53, 52, 53, 53, 53, 54, 53, 55, 53, 56, 53, 57, 54, 48, 54, 49, 54, 50, 54, 51, 54, 52, 54, 53, 54, 54, 54, 55, 54, 56, 54, 57, 55, 48, 55, 49, 55, 50, 55, 51, 55, 52, 55, 53, 55, 54, 55, 55, 55, 56, 55, 57, 56, 48, 56, 49, 56, 50, 56, 51, 56, 52, 56, 53, 56, 54, 56, 55, 56, 56, 56, 57, 57, 48, 57, 49, 57, 50, 57, 51, 57, 52, 57, 53, 57, 54, 57, 55, 57, 56, 57, 57])) 77), oQ 79 (.iaddr 1 68 70), oN (.store 1 79 76), oQ 80 (.iaddr 1 71 73), oN (.store 1 80 78)] false [0, 1, 4, 10])
 (.seq
 (.dreg 10 [oM 81 0, oM 82 4, oQ 83 (.bin .sub 82 (cI 7)), oM 84 0, oM 85 4, oQ 86 (.bin .sub 85 (cI 8)), oM 87 10, oQ 88 (.bin .add 87 (.c (.int .u32 1))), oQ 89 (.istr (.c (.str [48, 48, 48, 49, 48, 50, 48, 51, 48, 52, 48, 53, 48, 54, 48, 55, 48, 56, 48, 57, 49, 48, 49, 49, 49, 50, 49, 51, 49, 52, 49, 53, 49, 54, 49, 55, 49, 56, 49, 57, 50, 48, 50, 49, 50, 50, 50, 51, 50, 52, 50, 53, 50, 54, 50, 55, 50, 56, 50, 57, 51, 48, 51, 49, 51, 50, 51, 51, 51, 52, 51, 53, 51, 54, 51, 55, 51, 56, 51, 57, 52, 48, 52, 49, 52, 50, 52, 51, 52, 52, 52, 53, 52, 54, 52, 55, 52, 56, 52, 57, 53, 48, 53, 49, 53, 50, 53, 51, 53, 52, 53, 53, 53, 54, 53, 55, 53, 56, 53, 57, 54, 48, 54, 49, 54, 50, 54, 51, 54, 52, 54, 53, 54, 54, 54, 55, 54, 56, 54, 57, 55, 48, 55, 49, 55, 50, 55, 51, 55, 52, 55, 53, 55, 54, 55, 55, 55, 56, 55, 57, 56, 48, 56, 49, 56, 50, 56, 51, 56, 52, 56, 53, 56, 54, 56, 55, 56, 56, 56, 57, 57, 48, 57, 49, 57, 50, 57, 51, 57, 52, 57, 53, 57, 54, 57, 55, 57, 56, 57, 57])) 88), oM 90 10, oQ 91 (.istr (.c (.str [48, 48, 48, 49, 48, 50, 48, 51, 48, 52, 48, 53, 48, 54, 48, 55, 48, 56, 48, 57, 49, 48, 49, 49, 49, 50, 49, 51, 49, 52, 49, 53, 49, 54, 49, 55, 49, 56, 49, 57, 50, 48, 50, 49, 50, 50, 50, 51, 50, 52, 50, 53, 50, 54, 50, 55, 50, 56, 50, 57, 51, 48, 51, 49, 51, 50, 51, 51, 51, 52, 51, 53, 51, 54, 51, 55, 51, 56, 51, 57, 52, 48, 52, 49, 52, 50, 52, 51, 52, 52, 52, 53, 52, 54, 52, 55, 52, 56, 52, 57, 53, 48, 53, 49, 53, 50, 53, 51, 53, 52, 53, 53, 53, 54, 53, 55, 53, 56, 53, 57, 54, 48, 54, 49, 54, 50, 54, 51, 54, 52, 54, 53, 54, 54, 54, 55, 54, 56, 54, 57, 55, 48, 55, 49, 55, 50, 55, 51, 55, 52, 55, 53, 55, 54, 55, 55, 55, 56, 55, 57, 56, 48, 56, 49, 56, 50, 56, 51, 56, 52, 56, 53, 56, 54, 56, 55, 56, 56, 56, 57, 57, 48, 57, 49, 57, 50, 57, 51, 57, 52, 57, 53, 57, 54, 57, 55, 57, 56, 57, 57])) 90), oQ 92 (.iaddr 1 81 83), oN (.store 1 92 89), oQ 93 (.iaddr 1 84 86), oN (.store 1 93 91)] false [0, 1, 4])
 (.reg 11 [oM 94 4, oQ 95 (.bin .sub 94 (cI 8)), oM 4 95] [0, 1, 4]))))))))))))))
 (.seq
 (.reg 12 [oM 96 1, oQ 97 (.conv .u32 96), oM 12 97] [0, 4, 12])
 (.seq
 (.seq
 (.reg 13 [oM 98 4, oQ 99 (.bin .geq 98 (cI 4))] [0, 4, 12, 99])
 (.cond 99
 (.seq
 (.reg 14 [oM 100 12, oQ 101 (.bin .rem 100 (.c (.int .u32 10000))), oM 13 101] [0, 4, 12, 13])
 (.seq
 (.reg 15 [oM 102 12, oQ 103 (.bin .quo 102 (.c (.int .u32 10000))), oM 12 103] [0, 4, 12, 13])
 (.seq
 (.reg 16 [oM 104 13, oQ 105 (.bin .quo 104 (.c (.int .u32 100))), oQ 106 (.bin .mul 105 (.c (.int .u32 2))), oM 107 13, oQ 108 (.bin .rem 107 (.c (.int .u32 100))), oQ 109 (.bin .mul 108 (.c (.int .u32 2))), oM 14 106, oM 15 109] [0, 4, 12, 14, 15])
 (.seq
 (.dreg 17 [oM 110 0, oM 111 4, oQ 112 (.bin .sub 111 (cI 1)), oM 113 0, oM 114 4, oQ 115 (.bin .sub 114 (cI 2)), oM 116 15, oQ 117 (.bin .add 116 (.c (.int .u32 1))), oQ 118 (.istr (.c (.str [48, 48, 48, 49, 48, 50, 48, 51, 48, 52, 48, 53, 48, 54, 48, 55, 48, 56, 48, 57, 49, 48, 49, 49, 49, 50, 49, 51, 49, 52, 49, 53, 49, 54, 49, 55, 49, 56, 49, 57, 50, 48, 50, 49, 50, 50, 50, 51, 50, 52, 50, 53, 50, 54, 50, 55, 50, 56, 50, 57, 51, 48, 51, 49, 51, 50, 51, 51, 51, 52, 51, 53, 51, 54, 51, 55, 51, 56, 51, 57, 52, 48, 52, 49, 52, 50, 52, 51, 52, 52, 52, 53, 52, 54, 52, 55, 52, 56, 52, 57, 53, 48, 53, 49, 53, 50, 53, 51, 53, 52, 53, 53, 53, 54, 53, 55, 53, 56, 53, 57, 54, 48, 54, 49, 54, 50, 54, 51, 54, 52, 54, 53, 54, 54, 54, 55, 54, 56, 54, 57, 55, 48, 55, 49, 55, 50, 55, 51, 55, 52, 55, 53, 55, 54, 55, 55, 55, 56, 55, 57, 56, 48, 56, 49, 56, 50, 56, 51, 56, 52, 56, 53, 56, 54, 56, 55, 56, 56, 56, 57, 57, 48, 57, 49, 57, 50, 57, 51, 57, 52, 57, 53, 57, 54, 57, 55, 57, 56, 57, 57])) 117), oM 119 15, oQ 120 (.istr (.c (.str [48, 48, 48, 49, 48, 50, 48, 51, 48, 52, 48, 53, 48, 54, 48, 55, 48, 56, 48, 57, 49, 48, 49, 49, 49, 50, 49, 51, 49, 52, 49, 53, 49, 54, 49, 55, 49, 56, 49, 57, 50, 48, 50, 49, 50, 50, 50, 51, 50, 52, 50, 53, 50, 54, 50, 55, 50, 56, 50, 57, 51, 48, 51, 49, 51, 50, 51, 51, 51, 52, 51, 53, 51, 54, 51, 55, 51, 56, 51, 57, 52, 48, 52, 49, 52, 50, 52, 51, 52, 52, 52, 53, 52, 54, 52, 55, 52, 56, 52, 57, 53, 48, 53, 49, 53, 50, 53, 51, 53, 52, 53, 53, 53, 54, 53, 55, 53, 56, 53, 57, 54, 48, 54, 49, 54, 50, 54, 51, 54, 52, 54, 53, 54, 54, 54, 55, 54, 56, 54, 57, 55, 48, 55, 49, 55, 50, 55, 51, 55, 52, 55, 53, 55, 54, 55, 55, 55, 56, 55, 57, 56, 48, 56, 49, 56, 50, 56, 51, 56, 52, 56, 53, 56, 54, 56, 55, 56, 56, 56, 57, 57, 48, 57, 49, 57, 50, 57, 51, 57, 52, 57, 53, 57, 54, 57, 55, 57, 56, 57, 57])) 119), oQ 121 (.iaddr 1 110 112), oN (.store 1 121 118), oQ 122 (.iaddr 1 113 115), oN (.store 1 122 120)] false [0, 4, 12, 14])
 (.seq
 (.dreg 18 [oM 123 0, oM 124 4, oQ 125 (.bin .sub 124 (cI 3)), oM 126 0, oM 127 4, oQ 128 (.bin .sub 127 (cI 4)), oM 129 14, oQ 130 (.bin .add 129 (.c (.int .u32 1))), oQ 131 (.istr (.c (.str [48, 48, 48, 49, 48, 50, 48, 51, 48, 52, 48, 53, 48, 54, 48, 55, 48, 56, 48, 57, 49, 48, 49, 49, 49, 50, 49, 51, 49, 52, 49, 53, 49, 54, 49, 55, 49, 56, 49, 57, 50, 48, 50, 49, 50, 50, 50, 51, 50, 52, 50, 53, 50, 54, 50, 55, 50, 56, 50, 57, 51, 48, 51, 49, 51, 50, 51, 51, 51, 52, 51, 53, 51, 54, 51, 55, 51, 56, 51, 57, 52, 48, 52, 49, 52, 50, 52, 51, 52, 52, 52, 53, 52, 54, 52, 55, 52, 56, 52, 57, 53, 48, 53, 49, 53, 50, 53, 51, 53, 52, 53, 53, 53, 54, 53, 55, 53, 56, 53, 57, 54, 48, 54, 49, 54, 50, 54, 51, 54, 52, 54, 53, 54, 54, 54, 55, 54, 56, 54, 57, 55, 48, 55, 49, 55, 50, 55, 51, 55, 52, 55, 53, 55, 54, 55, 55, 55, 56, 55, 57, 56, 48, 56, 49, 56, 50, 56, 51, 56, 52, 56, 53, 56, 54, 56, 55, 56, 56, 56, 57, 57, 48, 57, 49, 57, 50, 57, 51, 57, 52, 57, 53, 57, 54, 57, 55, 57, 56, 57, 57])) 130), oM 132 14, oQ 133 (.istr (.c (.str [48, 48, 48, 49, 48, 50, 48, 51, 48, 52, 48, 53, 48, 54, 48, 55, 48, 56, 48, 57, 49, 48, 49, 49, 49, 50, 49, 51, 49, 52, 49, 53, 49, 54, 49, 55, 49, 56, 49, 57, 50, 48, 50, 49, 50, 50, 50, 51, 50, 52, 50, 53, 50, 54, 50, 55, 50, 56, 50, 57, 51, 48, 51, 49, 51, 50, 51, 51, 51, 52, 51, 53, 51, 54, 51, 55, 51, 56, 51, 57, 52, 48, 52, 49, 52, 50, 52, 51, 52, 52, 52, 53, 52, 54, 52, 55, 52, 56, 52, 57, 53, 48, 53, 49, 53, 50, 53, 51, 53, 52, 53, 53, 53, 54, 53, 55, 53, 56, 53, 57, 54, 48, 54, 49, 54, 50, 54, 51, 54, 52, 54, 53, 54, 54, 54, 55, 54, 56, 54, 57, 55, 48, 55, 49, 55, 50, 55, 51, 55, 52, 55, 53, 55, 54, 55, 55, 55, 56, 55, 57, 56, 48, 56, 49, 56, 50, 56, 51, 56, 52, 56, 53, 56, 54, 56, 55, 56, 56, 56, 57, 57, 48, 57, 49, 57, 50, 57, 51, 57, 52, 57, 53, 57, 54, 57, 55, 57, 56, 57, 57])) 132), oQ 134 (.iaddr 1 123 125), oN (.store 1 134 131), oQ 135 (.iaddr 1 126 128), oN (.store 1 135 133)] false [0, 4, 12])
 (.reg 19 [oM 136 4, oQ 137 (.bin .sub 136 (cI 4)), oM 4 137] [0, 4, 12]))))))
 .skip))
 (.seq
 (.seq
 (.reg 20 [oM 138 4, oQ 139 (.bin .geq 138 (cI 2))] [0, 4, 12, 139])
 (.cond 139
 (.seq
 (.reg 21 [oM 140 12, oQ 141 (.bin .rem 140 (.c (.int .u32 100))), oQ 142 (.bin .mul 141 (.c (.int .u32 2))), oM 16 142] [0, 4, 12, 16])
 (.seq
 (.reg 22 [oM 143 12, oQ 144 (.bin .quo 143 (.c (.int .u32 100))), oM 12 144] [0, 4, 12, 16])
 (.seq
 (.dreg 23 [oM 145 0, oM 146 4, oQ 147 (.bin .sub 146 (cI 1)), oM 148 0, oM 149 4, oQ 150 (.bin .sub 149 (cI 2)), oM 151 16, oQ 152 (.bin .add 151 (.c (.int .u32 1))), oQ 153 (.istr (.c (.str [48, 48, 48, 49, 48, 50, 48, 51, 48, 52, 48, 53, 48, 54, 48, 55, 48, 56, 48, 57, 49, 48, 49, 49, 49, 50, 49, 51, 49, 52, 49, 53, 49, 54, 49, 55, 49, 56, 49, 57, 50, 48, 50, 49, 50, 50, 50, 51, 50, 52, 50, 53, 50, 54, 50, 55, 50, 56, 50, 57, 51, 48, 51, 49, 51, 50, 51, 51, 51, 52, 51, 53, 51, 54, 51, 55, 51, 56, 51, 57, 52, 48, 52, 49, 52, 50, 52, 51, 52, 52, 52, 53, 52, 54, 52, 55, 52, 56, 52, 57, 53, 48, 53, 49, 53, 50, 53, 51, 53, 52, 53, 53, 53, 54, 53, 55, 53, 56, 53, 57, 54, 48, 54, 49, 54, 50, 54, 51, 54, 52, 54, 53, 54, 54, 54, 55, 54, 56, 54, 57, 55, 48, 55, 49, 55, 50, 55, 51, 55, 52, 55, 53, 55, 54, 55, 55, 55, 56, 55, 57, 56, 48, 56, 49, 56, 50, 56, 51, 56, 52, 56, 53, 56, 54, 56, 55, 56, 56, 56, 57, 57, 48, 57, 49, 57, 50, 57, 51, 57, 52, 57, 53, 57, 54, 57, 55, 57, 56, 57, 57])) 152), oM 154 16, oQ 155 (.istr (.c (.str [48, 48, 48, 49, 48, 50, 48, 51, 48, 52, 48, 53, 48, 54, 48, 55, 48, 56, 48, 57, 49, 48, 49, 49, 49, 50, 49, 51, 49, 52, 49, 53, 49, 54, 49, 55, 49, 56, 49, 57, 50, 48, 50, 49, 50, 50, 50, 51, 50, 52, 50, 53, 50, 54, 50, 55, 50, 56, 50, 57, 51, 48, 51, 49, 51, 50, 51, 51, 51, 52, 51, 53, 51, 54, 51, 55, 51, 56, 51, 57, 52, 48, 52, 49, 52, 50, 52, 51, 52, 52, 52, 53, 52, 54, 52, 55, 52, 56, 52, 57, 53, 48, 53, 49, 53, 50, 53, 51, 53, 52, 53, 53, 53, 54, 53, 55, 53, 56, 53, 57, 54, 48, 54, 49, 54, 50, 54, 51, 54, 52, 54, 53, 54, 54, 54, 55, 54, 56, 54, 57, 55, 48, 55, 49, 55, 50, 55, 51, 55, 52, 55, 53, 55, 54, 55, 55, 55, 56, 55, 57, 56, 48, 56, 49, 56, 50, 56, 51, 56, 52, 56, 53, 56, 54, 56, 55, 56, 56, 56, 57, 57, 48, 57, 49, 57, 50, 57, 51, 57, 52, 57, 53, 57, 54, 57, 55, 57, 56, 57, 57])) 154), oQ 156 (.iaddr 1 145 147), oN (.store 1 156 153), oQ 157 (.iaddr 1 148 150), oN (.store 1 157 155)] false [0, 4, 12])
 (.reg 24 [oM 158 4, oQ 159 (.bin .sub 158 (cI 2)), oM 4 159] [0, 4, 12]))))
 .skip))
 (.seq
 (.reg 25 [oM 160 4, oQ 161 (.bin .gtr 160 (cI 0))] [0, 12, 161])
 (.cond 161
 (.reg 26 [oM 162 0, oM 163 12, oQ 164 (.bin .add (.c (.int .u32 48)) 163), oQ 165 (.conv .u8 164), oQ 166 (.iaddr 1 162 (cI 0)), oN (.store 1 166 165)] [])
 .skip)))))))
theorem fok364 : FOK Tryz.prog 364 (167, ic364, []) := fokA [2000000] Tryz.func364 (by kernel_rfl) (by kernel_rfl) (by kernel_rfl) (by kernel_rfl)
def ic365 : IC :=
 (.seq
 (.reg 0 [oM 10 (.c .nilslice), oM 11 (.c (.str []))] [0, 1, 2, 3, 4, 10, 11])
 (.seq
 (.seq
 (.reg 1 [oM 19 2, oQ 20 (.bin .lss 19 (cI 2)), oM 21 20, gQ 22 21 false (.mov 2), gQ 23 21 false (.bin .eql 22 (cI 10)), oQ 24 (.pick 21 (cB true) 23), oM 25 24, gQ 26 25 false (.mov 2), gQ 27 25 false (.bin .gtr 26 (cI 36)), oQ 28 (.pick 25 (cB true) 27)] [0, 1, 2, 3, 4, 10, 11, 28])
 (.cond 28
 (.reg 2 [oK 29 (.st .nev []), oN (.st .nev [])] [0, 1, 2, 3, 4, 10, 11])
 .skip))
 (.seq
 (.reg 3 [oK 12 (.alloc [(zU 0), (zU 0), (zU 0), (zU 0), (zU 0), (zU 0), (zU 0), (zU 0), (zU 0), (zU 0), (zU 0), (zU 0), (zU 0), (zU 0), (zU 0), (zU 0), (zU 0), (zU 0), (zU 0), (zU 0), (zU 0), (zU 0), (zU 0), (zU 0), (zU 0), (zU 0), (zU 0), (zU 0), (zU 0), (zU 0), (zU 0), (zU 0), (zU 0), (zU 0), (zU 0), (zU 0), (zU 0), (zU 0), (zU 0), (zU 0), (zU 0), (zU 0), (zU 0), (zU 0), (zU 0), (zU 0), (zU 0), (zU 0), (zU 0), (zU 0), (zU 0), (zU 0), (zU 0), (zU 0), (zU 0), (zU 0), (zU 0), (zU 0), (zU 0), (zU 0), (zU 0), (zU 0), (zU 0), (zU 0), (zU 0)])] [0, 1, 2, 3, 4, 10, 11, 12])
 (.seq
 (.reg 4 [oM 13 (cI 65)] [0, 1, 2, 3, 4, 10, 11, 12, 13])
 (.seq
 (.seq
 (.reg 5 [oM 30 3] [0, 1, 2, 3, 4, 10, 11, 12, 13, 30])
 (.cond 30
 (.reg 6 [oM 31 1, oQ 32 (.neg 31), oM 1 32] [0, 1, 2, 3, 4, 10, 11, 12, 13])
 .skip))
 (.seq
 (.seq
 (.reg 7 [oM 33 2, oK 34 (.call 371 [33])] [0, 1, 2, 3, 4, 10, 11, 12, 13, 34])
 (.cond 34
 (.seq
 (.reg 8 [oM 35 2, oQ 36 (.conv .u64 35), oK 37 (.call 372 [36]), oQ 38 (.conv .u64 37), oM 14 38] [0, 1, 2, 3, 4, 10, 11, 12, 13, 14])
 (.seq
 (.reg 9 [oM 39 2, oQ 40 (.conv .u64 39), oM 15 40] [0, 1, 2, 3, 4, 10, 11, 12, 13, 14, 15])
 (.seq
 (.reg 10 [oM 41 2, oQ 42 (.conv .u64 41), oQ 43 (.bin .sub 42 (.c (.int .u64 1))), oM 16 43] [0, 1, 3, 4, 10, 11, 12, 13, 14, 15, 16])
 (.seq
 (.block 0
 (.loop
 (.seq
 (.seq
 (.reg 11 [oM 44 1, oM 45 15, oQ 46 (.bin .geq 44 45)] [0, 1, 3, 4, 10, 11, 12, 13, 14, 15, 16, 46])
 (.cond 46
 .skip
 (.exit 0)))
 (.block 1
 (.seq
 (.reg 12 [oM 47 13, oQ 48 (.bin .sub 47 (cI 1)), oM 13 48] [0, 1, 3, 4, 10, 11, 12, 13, 14, 15, 16])
 (.seq
 (.reg 13 [oM 49 13, oM 50 1, oM 51 16, oQ 52 (.bin .and 50 51), oQ 53 (.istr (.c (.str [48, 49, 50, 51, 52, 53, 54, 55, 56, 57, 97, 98, 99, 100, 101, 102, 103, 104, 105, 106, 107, 108, 109, 110, 111, 112, 113, 114, 115, 116, 117, 118, 119, 120, 121, 122])) 52), oQ 54 (.aaddr 65 1 12 49), oN (.store 1 54 53)] [0, 1, 3, 4, 10, 11, 12, 13, 14, 15, 16])
 (.reg 14 [oM 55 1, oM 56 14, oQ 57 (.bin .shr 55 56), oM 1 57] [0, 1, 3, 4, 10, 11, 12, 13, 14, 15, 16])))))))
 (.seq
 (.reg 15 [oM 58 13, oQ 59 (.bin .sub 58 (cI 1)), oM 13 59] [0, 1, 3, 4, 10, 11, 12, 13])
 (.reg 16 [oM 60 13, oM 61 1, oQ 62 (.istr (.c (.str [48, 49, 50, 51, 52, 53, 54, 55, 56, 57, 97, 98, 99, 100, 101, 102, 103, 104, 105, 106, 107, 108, 109, 110, 111, 112, 113, 114, 115, 116, 117, 118, 119, 120, 121, 122])) 61), oQ 63 (.aaddr 65 1 12 60), oN (.store 1 63 62)] [0, 3, 4, 10, 11, 12, 13]))))))
 (.seq
 (.reg 17 [oM 64 2, oQ 65 (.conv .u64 64), oM 17 65] [0, 1, 3, 4, 10, 11, 12, 13, 17])
 (.seq
 (.block 2
 (.loop
 (.seq
 (.seq
 (.reg 18 [oM 66 1, oM 67 17, oQ 68 (.bin .geq 66 67)] [0, 1, 3, 4, 10, 11, 12, 13, 17, 68])
 (.cond 68
 .skip
 (.exit 2)))
 (.block 3
 (.seq
 (.reg 19 [oM 69 13, oQ 70 (.bin .sub 69 (cI 1)), oM 13 70] [0, 1, 3, 4, 10, 11, 12, 13, 17])
 (.seq
 (.reg 20 [oM 71 1, oM 72 17, oQ 73 (.bin .quo 71 72), oM 18 73] [0, 1, 3, 4, 10, 11, 12, 13, 17, 18])
 (.seq
 (.reg 21 [oM 74 13, oM 75 1, oM 76 18, oM 77 17, oQ 78 (.bin .mul 76 77), oQ 79 (.bin .sub 75 78), oQ 80 (.istr (.c (.str [48, 49, 50, 51, 52, 53, 54, 55, 56, 57, 97, 98, 99, 100, 101, 102, 103, 104, 105, 106, 107, 108, 109, 110, 111, 112, 113, 114, 115, 116, 117, 118, 119, 120, 121, 122])) 79), oQ 81 (.aaddr 65 1 12 74), oN (.store 1 81 80)] [0, 3, 4, 10, 11, 12, 13, 17, 18])
 (.reg 22 [oM 82 18, oM 1 82] [0, 1, 3, 4, 10, 11, 12, 13, 17]))))))))
 (.seq
 (.reg 23 [oM 83 13, oQ 84 (.bin .sub 83 (cI 1)), oM 13 84] [0, 1, 3, 4, 10, 11, 12, 13])
 (.reg 24 [oM 85 13, oM 86 1, oQ 87 (.istr (.c (.str [48, 49, 50, 51, 52, 53, 54, 55, 56, 57, 97, 98, 99, 100, 101, 102, 103, 104, 105, 106, 107, 108, 109, 110, 111, 112, 113, 114, 115, 116, 117, 118, 119, 120, 121, 122])) 86), oQ 88 (.aaddr 65 1 12 85), oN (.store 1 88 87)] [0, 3, 4, 10, 11, 12, 13]))))))
 (.seq
 (.seq
 (.reg 25 [oM 89 3] [0, 4, 10, 11, 12, 13, 89])
 (.cond 89
 (.seq
 (.reg 26 [oM 90 13, oQ 91 (.bin .sub 90 (cI 1)), oM 13 91] [0, 4, 10, 11, 12, 13])
 (.reg 27 [oM 92 13, oQ 93 (.aaddr 65 1 12 92), oN (.store 1 93 (.c (zU 45)))] [0, 4, 10, 11, 13]))
 .skip))
 (.seq
 (.seq
 (.reg 28 [oM 94 4] [0, 10, 11, 13, 94])
 (.cond 94
 (.seq
 (.reg 29 [oM 95 0, oM 96 13, oK 97 (.st .nev []), oK 98 (.app 1 95 97), oM 10 98] [10, 11])
 .ret)
 .skip))
 (.seq
 (.reg 30 [oM 99 13, oK 100 (.st .nev []), oK 101 (.st .nev []), oM 11 101] [10, 11])
 .ret)))))))))
theorem fok365 : FOK Tryz.prog 365 (102, ic365, [(.t 10), (.t 11)]) := fokA [2000000] Tryz.func365 (by kernel_rfl) (by kernel_rfl) (by kernel_rfl) (by kernel_rfl)
def ic366 : IC :=
 (.seq
 (.reg 0 [oM 4 (cB false)] [0, 1])
 (.seq
 (.reg 1 [oM 5 0, oM 6 1, oQ 7 (.nchk 5), oQ 8 (.aaddr 256 1 7 6), oQ 9 (.load none 8), oM 4 9] [4])
 .ret))
theorem fok366 : FOK Tryz.prog 366 (10, ic366, [(.t 4)]) := fokA [2000000] Tryz.func366 (by kernel_rfl) (by kernel_rfl) (by kernel_rfl) (by kernel_rfl)
def ic367 : IC :=
 (.seq
 (.reg 0 [oM 2 (.c (.int .i32 0)), oM 3 (cI 0)] [0])
 (.seq
 (.seq
 (.reg 1 [oM 4 0, oQ 5 (.bin .neq 4 (.c (.str []))), oM 6 5, gQ 7 6 true (.mov 0), gQ 8 6 true (.istr 7 (cI 0)), gQ 9 6 true (.bin .lss 8 (.c (zU 128))), oQ 10 (.pick 6 9 (cB false))] [0, 10])
 (.cond 10
 (.seq
 (.reg 2 [oM 11 0, oQ 12 (.istr 11 (cI 0)), oQ 13 (.conv .i32 12), oM 2 13, oM 3 (cI 1)] [2, 3])
 .ret)
 (.reg 3 [oM 15 0, oK 16 (.call 373 [15]), oM 14 16, oQ 17 (.ext 0 14), oQ 18 (.ext 1 14), oM 2 17, oM 3 18] [2, 3])))
 .ret))
theorem fok367 : FOK Tryz.prog 367 (19, ic367, [(.t 2), (.t 3)]) := fokA [2000000] Tryz.func367 (by kernel_rfl) (by kernel_rfl) (by kernel_rfl) (by kernel_rfl)
def ic368 : IC :=
 (.seq
 (.reg 0 [oM 4 (cB false)] [0, 1])
 (.seq
 (.reg 1 [oM 5 0, oM 6 1, oK 7 (.call 374 [5, 6]), oQ 8 (.bin .geq 7 (cI 0)), oM 4 8] [4])
 .ret))
theorem fok368 : FOK Tryz.prog 368 (9, ic368, [(.t 4)]) := fokA [2000000] Tryz.func368 (by kernel_rfl) (by kernel_rfl) (by kernel_rfl) (by kernel_rfl)
def ic369 : IC :=
 (.seq
 (.reg 0 [oM 2 (cI 0)] [0])
 (.seq
 (.reg 1 [oM 3 0, oQ 4 (.bin .mul 3 (cI 78913)), oQ 5 (.bin .shr 4 (.c (.int .u64 18))), oM 2 5] [2])
 .ret))
theorem fok369 : FOK Tryz.prog 369 (6, ic369, [(.t 2)]) := fokA [2000000] Tryz.func369 (by kernel_rfl) (by kernel_rfl) (by kernel_rfl) (by kernel_rfl)
def ic370 : IC :=
 (.seq
 (.reg 0 [oM 2 (cI 0)] [0])
 (.seq
 (.seq
 (.reg 1 [oM 3 0] [3])
 (.cond 3
 (.seq
 (.reg 2 [oM 2 (cI 1)] [2])
 .ret)
 .skip))
 (.seq
 (.reg 3 [oM 2 (cI 0)] [2])
 .ret)))
theorem fok370 : FOK Tryz.prog 370 (4, ic370, [(.t 2)]) := fokA [2000000] Tryz.func370 (by kernel_rfl) (by kernel_rfl) (by kernel_rfl) (by kernel_rfl)
def ic371 : IC :=
 (.seq
 (.reg 0 [oM 2 (cB false)] [0])
 (.seq
 (.reg 1 [oM 3 0, oM 4 0, oQ 5 (.bin .sub 4 (cI 1)), oQ 6 (.bin .and 3 5), oQ 7 (.bin .eql 6 (cI 0)), oM 2 7] [2])
 .ret))
theorem fok371 : FOK Tryz.prog 371 (8, ic371, [(.t 2)]) := fokA [2000000] Tryz.func371 (by kernel_rfl) (by kernel_rfl) (by kernel_rfl) (by kernel_rfl)
def ic372 : IC :=
 (.seq
 (.reg 0 [oM 2 (cI 0)] [0])
 (.seq
 (.cond (cB false)
 (.seq
 (.reg 1 [oM 3 0, oQ 4 (.conv .u32 3), oK 5 (.call 375 [4]), oM 2 5] [2])
 .ret)
 .skip)
 (.seq
 (.reg 2 [oM 6 0, oK 7 (.call 376 [6]), oM 2 7] [2])
 .ret)))
theorem fok372 : FOK Tryz.prog 372 (8, ic372, [(.t 2)]) := fokA [2000000] Tryz.func372 (by kernel_rfl) (by kernel_rfl) (by kernel_rfl) (by kernel_rfl)
def ic373 : IC :=
 (.seq
 (.reg 0 [oM 2 (.c (.int .i32 0)), oM 3 (cI 0)] [0])
 (.seq
 (.reg 1 [oM 13 0, oQ 14 (.len 1 13), oM 4 14] [0, 4])
 (.seq
 (.seq
 (.reg 2 [oM 15 4, oQ 16 (.bin .lss 15 (cI 1))] [0, 4, 16])
 (.cond 16
 (.seq
 (.reg 3 [oM 2 (.c (.int .i32 65533)), oM 3 (cI 0)] [2, 3])
 .ret)
 .skip))
 (.seq
 (.reg 4 [oM 17 0, oQ 18 (.istr 17 (cI 0)), oM 5 18] [0, 4, 5])
 (.seq
 (.reg 5 [oM 19 5, oQ 20 (.aaddr 256 1 (.g 5) 19), oQ 21 (.load none 20), oM 6 21] [0, 4, 5, 6])
 (.seq
 (.seq
 (.reg 6 [oM 22 6, oQ 23 (.bin .geq 22 (.c (zU 240)))] [0, 4, 5, 6, 23])
 (.cond 23
 (.seq
 (.reg 7 [oM 24 6, oQ 25 (.conv .i32 24), oQ 26 (.bin .shl 25 (.c (.int .u64 31))), oQ 27 (.bin .shr 26 (.c (.int .u64 31))), oM 7 27] [0, 7])
 (.seq
 (.reg 8 [oM 28 0, oQ 29 (.istr 28 (cI 0)), oQ 30 (.conv .i32 29), oM 31 7, oQ 32 (.bin .andNot 30 31), oM 33 7, oQ 34 (.bin .and (.c (.int .i32 65533)) 33), oQ 35 (.bin .or 32 34), oM 2 35, oM 3 (cI 1)] [2, 3])
 .ret))
 .skip))
 (.seq
 (.reg 9 [oM 36 6, oQ 37 (.bin .and 36 (.c (zU 7))), oQ 38 (.conv .i64 37), oM 8 38] [0, 4, 5, 6, 8])
 (.seq
 (.reg 10 [oM 39 6, oQ 40 (.bin .shr 39 (.c (.int .u64 4))), oQ 41 (.aaddr 16 2 (.g 6) 40), oQ 42 (.load (some 2) 41), oK 9 (.alloc [(zU 0), (zU 0)]), oN (.store 2 9 42)] [0, 4, 5, 8, 9])
 (.seq
 (.seq
 (.reg 11 [oM 43 4, oM 44 8, oQ 45 (.bin .lss 43 44)] [0, 5, 8, 9, 45])
 (.cond 45
 (.seq
 (.reg 12 [oM 2 (.c (.int .i32 65533)), oM 3 (cI 1)] [2, 3])
 .ret)
 .skip))
 (.seq
 (.reg 13 [oM 46 0, oQ 47 (.istr 46 (cI 1)), oM 10 47] [0, 5, 8, 9, 10])
 (.seq
 (.seq
 (.reg 14 [oM 48 10, oQ 49 (.faddr 0 9), oQ 50 (.load none 49), oQ 51 (.bin .lss 48 50), oM 52 51, gQ 53 52 false (.faddr 1 9), gQ 54 52 false (.load none 53), gQ 55 52 false (.mov 10), gQ 56 52 false (.bin .lss 54 55), oQ 57 (.pick 52 (cB true) 56)] [0, 5, 8, 10, 57])
 (.cond 57
 (.seq
 (.reg 15 [oM 2 (.c (.int .i32 65533)), oM 3 (cI 1)] [2, 3])
 .ret)
 .skip))
 (.seq
 (.seq
 (.reg 16 [oM 58 8, oQ 59 (.bin .leq 58 (cI 2))] [0, 5, 8, 10, 59])
 (.cond 59
 (.seq
 (.reg 17 [oM 60 5, oQ 61 (.bin .and 60 (.c (zU 31))), oQ 62 (.conv .i32 61), oQ 63 (.bin .shl 62 (.c (.int .u64 6))), oM 64 10, oQ 65 (.bin .and 64 (.c (zU 63))), oQ 66 (.conv .i32 65), oQ 67 (.bin .or 63 66), oM 2 67, oM 3 (cI 2)] [2, 3])
 .ret)
 .skip))
 (.seq
 (.reg 18 [oM 68 0, oQ 69 (.istr 68 (cI 2)), oM 11 69] [0, 5, 8, 10, 11])
 (.seq
 (.seq
 (.reg 19 [oM 70 11, oQ 71 (.bin .lss 70 (.c (zU 128))), oM 72 71, gQ 73 72 false (.mov 11), gQ 74 72 false (.bin .lss (.c (zU 191)) 73), oQ 75 (.pick 72 (cB true) 74)] [0, 5, 8, 10, 11, 75])
 (.cond 75
 (.seq
 (.reg 20 [oM 2 (.c (.int .i32 65533)), oM 3 (cI 1)] [2, 3])
 .ret)
 .skip))
 (.seq
 (.seq
 (.reg 21 [oM 76 8, oQ 77 (.bin .leq 76 (cI 3))] [0, 5, 10, 11, 77])
 (.cond 77
 (.seq
 (.reg 22 [oM 78 5, oQ 79 (.bin .and 78 (.c (zU 15))), oQ 80 (.conv .i32 79), oQ 81 (.bin .shl 80 (.c (.int .u64 12))), oM 82 10, oQ 83 (.bin .and 82 (.c (zU 63))), oQ 84 (.conv .i32 83), oQ 85 (.bin .shl 84 (.c (.int .u64 6))), oQ 86 (.bin .or 81 85), oM 87 11, oQ 88 (.bin .and 87 (.c (zU 63))), oQ 89 (.conv .i32 88), oQ 90 (.bin .or 86 89), oM 2 90, oM 3 (cI 3)] [2, 3])
 .ret)
 .skip))
 (.seq
 (.reg 23 [oM 91 0, oQ 92 (.istr 91 (cI 3)), oM 12 92] [5, 10, 11, 12])
 (.seq
 (.seq
 (.reg 24 [oM 93 12, oQ 94 (.bin .lss 93 (.c (zU 128))), oM 95 94, gQ 96 95 false (.mov 12), gQ 97 95 false (.bin .lss (.c (zU 191)) 96), oQ 98 (.pick 95 (cB true) 97)] [5, 10, 11, 12, 98])
 (.cond 98
 (.seq
 (.reg 25 [oM 2 (.c (.int .i32 65533)), oM 3 (cI 1)] [2, 3])
 .ret)
 .skip))
 (.seq
 (.reg 26 [oM 99 5, oQ 100 (.bin .and 99 (.c (zU 7))), oQ 101 (.conv .i32 100), oQ 102 (.bin .shl 101 (.c (.int .u64 18))), oM 103 10, oQ 104 (.bin .and 103 (.c (zU 63))), oQ 105 (.conv .i32 104), oQ 106 (.bin .shl 105 (.c (.int .u64 12))), oQ 107 (.bin .or 102 106), oM 108 11, oQ 109 (.bin .and 108 (.c (zU 63))), oQ 110 (.conv .i32 109), oQ 111 (.bin .shl 110 (.c (.int .u64 6))), oQ 112 (.bin .or 107 111), oM 113 12, oQ 114 (.bin .and 113 (.c (zU 63))), oQ 115 (.conv .i32 114), oQ 116 (.bin .or 112 115), oM 2 116, oM 3 (cI 4)] [2, 3])
 .ret))))))))))))))))))
theorem fok373 : FOK Tryz.prog 373 (117, ic373, [(.t 2), (.t 3)]) := fokA [2000000] Tryz.func373 (by kernel_rfl) (by kernel_rfl) (by kernel_rfl) (by kernel_rfl)
def ic374 : IC :=
 (.seq
 (.reg 0 [oM 4 (cI 0)] [0, 1])
 (.block 0
 (.seq
 (.reg 34 [oM 161 1, oQ 162 (.bin .leq (.c (.int .i32 0)) 161), oM 163 162, gQ 164 163 true (.mov 1), gQ 165 163 true (.bin .lss 164 (.c (.int .i32 128))), oQ 166 (.pick 163 165 (cB false)), oM 160 166] [0, 1, 160])
 (.cond 160
 (.seq
 (.reg 35 [oM 167 0, oM 168 1, oQ 169 (.conv .u8 168), oK 170 (.call 135 [167, 169]), oM 4 170] [4])
 .ret)
 (.seq
 (.reg 36 [oM 172 1, oQ 173 (.bin .eql 172 (.c (.int .i32 65533))), oM 171 173] [0, 1, 171])
 (.cond 171
 (.seq
 (.seq
 (.reg 37 [oM 174 0, oK 175 (.srange 174)] [175])
 (.block 9
 (.loop
 (.seq
 (.reg 38 [oK 176 (.snext 175), oQ 177 (.ext 0 176)] [175, 176, 177])
 (.seq
 (.cond 177
 .skip
 (.exit 9))
 (.block 10
 (.seq
 (.reg 39 [oQ 178 (.ext 1 176), oQ 179 (.ext 2 176), oM 5 178, oM 6 179] [5, 6, 175])
 (.seq
 (.reg 40 [oM 180 6, oQ 181 (.bin .eql 180 (.c (.int .i32 65533)))] [5, 175, 181])
 (.cond 181
 (.seq
 (.reg 41 [oM 182 5, oM 4 182] [4])
 .ret)
 .skip)))))))))
 (.seq
 (.reg 42 [oM 4 (cI (-1))] [4])
 .ret))
 (.seq
 (.reg 43 [oM 184 1, oK 185 (.call 377 [184]), oQ 186 (.not 185), oM 183 186] [0, 1, 183])
 (.cond 183
 (.seq
 (.reg 44 [oM 4 (cI (-1))] [4])
 .ret)
 (.scope
 (.seq
 (.reg 1 [oM 17 1, oK 18 (.st .nev []), oM 7 18] [0, 7])
 (.seq
 (.reg 2 [oM 19 7, oQ 20 (.len 1 19), oQ 21 (.bin .sub 20 (cI 1)), oM 8 21] [0, 7, 8])
 (.seq
 (.reg 3 [oM 22 8, oM 9 22] [0, 7, 8, 9])
 (.seq
 (.reg 4 [oM 10 (cI 0)] [0, 7, 8, 9])
 (.seq
 (.block 1
 (.loop
 (.seq
 (.seq
 (.reg 5 [oM 23 9, oM 24 0, oQ 25 (.len 1 24), oQ 26 (.bin .lss 23 25)] [0, 7, 8, 9, 26])
 (.cond 26
 .skip
 (.exit 1)))
 (.block 2
 (.scope
 (.seq
 (.seq
 (.dreg 6 [oM 27 0, oM 28 9, oQ 29 (.istr 27 28), oM 30 7, oM 31 8, oQ 32 (.istr 30 31), oQ 33 (.bin .neq 29 32)] false [0, 7, 8, 9, 33])
 (.cond 33
 (.seq
 (.dreg 7 [oM 34 0, oM 35 9, oQ 36 (.bin .add 35 (cI 1)), oQ 37 (.sstr 34 (some 36) none), oM 38 7, oM 39 8, oQ 40 (.istr 38 39), oK 41 (.call 135 [37, 40]), oM 11 41] false [0, 7, 8, 9, 11])
 (.seq
 (.seq
 (.reg 8 [oM 42 11, oQ 43 (.bin .lss 42 (cI 0))] [0, 7, 8, 9, 11, 43])
 (.cond 43
 (.seq
 (.reg 9 [oM 4 (cI (-1))] [4])
 .ret)
 .skip))
 (.reg 10 [oM 44 9, oM 45 11, oQ 46 (.bin .add 45 (cI 1)), oQ 47 (.bin .add 44 46), oM 9 47] [0, 7, 8, 9])))
 .skip))
 (.seq
 (.seq
 (.reg 11 [oM 12 (cI 1)] [0, 7, 8, 9, 12])
 (.block 3
 (.loop
 (.seq
 (.seq
 (.reg 12 [oM 48 12, oM 49 7, oQ 50 (.len 1 49), oQ 51 (.bin .lss 48 50)] [0, 7, 8, 9, 12, 51])
 (.cond 51
 .skip
 (.exit 3)))
 (.seq
 (.block 4
 (.seq
 (.dreg 14 [oM 54 0, oM 55 9, oM 56 12, oQ 57 (.bin .sub 55 56), oQ 58 (.istr 54 57), oM 59 7, oM 60 8, oM 61 12, oQ 62 (.bin .sub 60 61), oQ 63 (.istr 59 62), oQ 64 (.bin .neq 58 63)] false [0, 7, 8, 9, 12, 64])
 (.cond 64
 (.reg 0 [oN (.st .nev [])] [])
 .skip)))
 (.reg 13 [oM 52 12, oQ 53 (.bin .add 52 (cI 1)), oM 12 53] [0, 7, 8, 9, 12]))))))
 (.seq
 (.seq
 (.reg 15 [oM 65 9, oM 66 8, oQ 67 (.bin .sub 65 66), oM 4 67] [4])
 .ret)
 (.seq
 .skip
 (.seq
 (.reg 16 [oM 68 10, oQ 69 (.bin .add 68 (cI 1)), oM 10 69] [0, 7, 8, 9, 10])
 (.seq
 (.reg 17 [oM 70 9, oQ 71 (.bin .add 70 (cI 1)), oM 9 71] [0, 7, 8, 9, 10])
 (.seq
 (.reg 18 [oM 72 (cB true), gQ 73 72 true (.mov 10), gQ 74 72 true (.mov 9), gK 75 72 true (.call 378 [74]), gQ 76 72 true (.bin .gtr 73 75), oQ 77 (.pick 72 76 (cB false)), oM 78 77, gQ 79 78 true (.mov 9), gQ 80 78 true (.mov 0), gQ 81 78 true (.len 1 80), gQ 82 78 true (.bin .lss 79 81), oQ 83 (.pick 78 82 (cB false)), oM 84 83, gQ 85 84 false (.mov (cB false)), gQ 86 85 true (.mov 10), gQ 87 85 true (.mov 9), gQ 88 85 true (.bin .shr 87 (.c (.int .u64 4))), gQ 89 85 true (.bin .add (cI 4) 88), gQ 90 85 true (.bin .geq 86 89), gQ 91 84 false (.pick 85 90 (cB false)), gQ 92 84 false (.mov 91), gQ 93 92 true (.mov 9), gQ 94 92 true (.mov 0), gQ 95 92 true (.len 1 94), gQ 96 92 true (.bin .lss 93 95), gQ 97 84 false (.pick 92 96 (cB false)), oQ 98 (.pick 84 (cB true) 97)] [0, 7, 8, 9, 98])
 (.cond 98
 (.reg 0 [oN (.st .nev [])] [])
 .skip)))))))))))))
 (.seq
 (.seq
 (.reg 19 [oM 4 (cI (-1))] [4])
 .ret)
 (.seq
 .skip
 (.seq
 (.cond (cB true)
 (.seq
 (.reg 20 [oM 99 0, oM 100 9, oM 101 8, oQ 102 (.bin .sub 100 101), oQ 103 (.sstr 99 (some 102) none), oM 104 1, oK 105 (.st .nev []), oK 106 (.st .nev []), oM 13 106] [8, 9, 13])
 (.seq
 (.reg 21 [oM 107 13, oQ 108 (.bin .geq 107 (cI 0))] [8, 9, 13, 108])
 (.cond 108
 (.seq
 (.reg 22 [oM 109 9, oM 110 13, oQ 111 (.bin .add 109 110), oM 112 8, oQ 113 (.bin .sub 111 112), oM 4 113] [4])
 .ret)
 .skip)))
 (.scope
 (.seq
 (.reg 23 [oM 114 7, oM 115 8, oQ 116 (.istr 114 115), oM 14 116] [0, 7, 8, 9, 14])
 (.seq
 (.reg 24 [oM 117 7, oM 118 8, oQ 119 (.bin .sub 118 (cI 1)), oQ 120 (.istr 117 119), oM 15 120] [0, 7, 8, 9, 14, 15])
 (.seq
 .skip
 (.block 5
 (.loop
 (.seq
 (.seq
 (.reg 25 [oM 121 9, oM 122 0, oQ 123 (.len 1 122), oQ 124 (.bin .lss 121 123)] [0, 7, 8, 9, 14, 15, 124])
 (.cond 124
 .skip
 (.exit 5)))
 (.seq
 (.block 6
 (.seq
 (.reg 27 [oM 127 0, oM 128 9, oQ 129 (.istr 127 128), oM 130 14, oQ 131 (.bin .eql 129 130), oM 132 131, gQ 133 132 true (.mov 0), gQ 134 132 true (.mov 9), gQ 135 132 true (.bin .sub 134 (cI 1)), gQ 136 132 true (.istr 133 135), gQ 137 132 true (.mov 15), gQ 138 132 true (.bin .eql 136 137), oQ 139 (.pick 132 138 (cB false))] [0, 7, 8, 9, 14, 15, 139])
 (.cond 139
 (.seq
 (.seq
 (.reg 28 [oM 16 (cI 2)] [0, 7, 8, 9, 14, 15, 16])
 (.block 7
 (.loop
 (.seq
 (.seq
 (.reg 29 [oM 140 16, oM 141 7, oQ 142 (.len 1 141), oQ 143 (.bin .lss 140 142)] [0, 7, 8, 9, 14, 15, 16, 143])
 (.cond 143
 .skip
 (.exit 7)))
 (.seq
 (.block 8
 (.seq
 (.dreg 31 [oM 146 0, oM 147 9, oM 148 16, oQ 149 (.bin .sub 147 148), oQ 150 (.istr 146 149), oM 151 7, oM 152 8, oM 153 16, oQ 154 (.bin .sub 152 153), oQ 155 (.istr 151 154), oQ 156 (.bin .neq 150 155)] false [0, 7, 8, 9, 14, 15, 16, 156])
 (.cond 156
 (.exit 6)
 .skip)))
 (.reg 30 [oM 144 16, oQ 145 (.bin .add 144 (cI 1)), oM 16 145] [0, 7, 8, 9, 14, 15, 16]))))))
 (.seq
 (.reg 32 [oM 157 9, oM 158 8, oQ 159 (.bin .sub 157 158), oM 4 159] [4])
 .ret))
 .skip)))
 (.reg 26 [oM 125 9, oQ 126 (.bin .add 125 (cI 1)), oM 9 126] [0, 7, 8, 9, 14, 15]))))))))))
 (.seq
 (.reg 33 [oM 4 (cI (-1))] [4])
 .ret))))))))))))))))))
theorem fok374 : FOK Tryz.prog 374 (187, ic374, [(.t 4)]) := fokA [2000000] Tryz.func374 (by kernel_rfl) (by kernel_rfl) (by kernel_rfl) (by kernel_rfl)
def ic375 : IC :=
 (.seq
 (.reg 0 [oM 2 (cI 0)] [0])
 (.seq
 (.seq
 (.reg 1 [oM 3 0, oQ 4 (.bin .eql 3 (.c (.int .u32 0)))] [0, 4])
 (.cond 4
 (.seq
 (.reg 2 [oM 2 (cI 32)] [2])
 .ret)
 .skip))
 (.seq
 (.reg 3 [oM 5 0, oM 6 0, oQ 7 (.neg 6), oQ 8 (.bin .and 5 7), oQ 9 (.bin .mul 8 (.c (.int .u32 125613361))), oQ 10 (.bin .shr 9 (.c (.int .u64 27))), oQ 11 (.aaddr 32 1 (.g 7) 10), oQ 12 (.load none 11), oQ 13 (.conv .i64 12), oM 2 13] [2])
 .ret)))
theorem fok375 : FOK Tryz.prog 375 (14, ic375, [(.t 2)]) := fokA [2000000] Tryz.func375 (by kernel_rfl) (by kernel_rfl) (by kernel_rfl) (by kernel_rfl)
def ic376 : IC :=
 (.seq
 (.reg 0 [oM 2 (cI 0)] [0])
 (.seq
 (.seq
 (.reg 1 [oM 3 0, oQ 4 (.bin .eql 3 (.c (.int .u64 0)))] [0, 4])
 (.cond 4
 (.seq
 (.reg 2 [oM 2 (cI 64)] [2])
 .ret)
 .skip))
 (.seq
 (.reg 3 [oM 5 0, oM 6 0, oQ 7 (.neg 6), oQ 8 (.bin .and 5 7), oQ 9 (.bin .mul 8 (.c (.int .u64 285870213051353865))), oQ 10 (.bin .shr 9 (.c (.int .u64 58))), oQ 11 (.aaddr 64 1 (.g 8) 10), oQ 12 (.load none 11), oQ 13 (.conv .i64 12), oM 2 13] [2])
 .ret)))
theorem fok376 : FOK Tryz.prog 376 (14, ic376, [(.t 2)]) := fokA [2000000] Tryz.func376 (by kernel_rfl) (by kernel_rfl) (by kernel_rfl) (by kernel_rfl)
def ic377 : IC :=
 (.seq
 (.reg 0 [oM 2 (cB false)] [0])
 (.seq
 (.block 0
 (.seq
 (.reg 1 [oM 4 0, oQ 5 (.bin .leq (.c (.int .i32 0)) 4), oM 6 5, gQ 7 6 true (.mov 0), gQ 8 6 true (.bin .lss 7 (.c (.int .i32 55296))), oQ 9 (.pick 6 8 (cB false)), oM 3 9] [0, 3])
 (.cond 3
 (.seq
 (.reg 2 [oM 2 (cB true)] [2])
 .ret)
 (.seq
 (.reg 3 [oM 11 0, oQ 12 (.bin .lss (.c (.int .i32 57343)) 11), oM 13 12, gQ 14 13 true (.mov 0), gQ 15 13 true (.bin .leq 14 (.c (.int .i32 1114111))), oQ 16 (.pick 13 15 (cB false)), oM 10 16] [10])
 (.cond 10
 (.seq
 (.reg 4 [oM 2 (cB true)] [2])
 .ret)
 .skip)))))
 (.seq
 (.reg 5 [oM 2 (cB false)] [2])
 .ret)))
theorem fok377 : FOK Tryz.prog 377 (17, ic377, [(.t 2)]) := fokA [2000000] Tryz.func377 (by kernel_rfl) (by kernel_rfl) (by kernel_rfl) (by kernel_rfl)
def ic378 : IC :=
 (.seq
 (.reg 0 [oM 2 (cI 0)] [0])
 (.seq
 (.reg 1 [oM 3 0, oQ 4 (.bin .add 3 (cI 16)), oQ 5 (.bin .quo 4 (cI 8)), oM 2 5] [2])
 .ret))
theorem fok378 : FOK Tryz.prog 378 (6, ic378, [(.t 2)]) := fokA [2000000] Tryz.func378 (by kernel_rfl) (by kernel_rfl) (by kernel_rfl) (by kernel_rfl)
end Go.Id.Tryz
