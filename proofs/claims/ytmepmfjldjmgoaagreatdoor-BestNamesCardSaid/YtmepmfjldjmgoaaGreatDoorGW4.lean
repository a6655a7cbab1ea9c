/- The compiled codes of functions, written by a program out of the given form. Conditions: none. -/
import Derived.Test.YtmepmfjldjmgoaaGreatDoorFwW
import Derived.Test.YtmepmfjldjmgoaaGreatDoorProg
set_option linter.all false
namespace Go.Id.Tryz
open Go Go.Id Go.Proofs
def allF4 : List Nat := List.range 412
def ic349 : IC :=
(.seq
(.reg 0 [oM 2 (.c (.str []))] [0])
(.seq
(.reg 1 [oM 3 0,oK 4 (.call 357 [3,(cI 10)]),oM 2 4] [2])
.ret))
theorem fok349 : FOK Tryz.prog 349 (5,ic349,[(.t 2)]) := fokA [2000000] Tryz.func349
def ic350 : IC :=
(.seq
(.reg 0 [oM 3 (cI 0)] [0,1,3])
(.block 0
(.loop
(.seq
(.seq
(.reg 1 [oM 6 3,oQ 7 (.load none 1),oQ 8 (.len 1 7),oQ 9 (.bin .lss 6 8)] [0,1,3,9])
(.cond 9
.skip
(.exit 0)))
(.block 1
(.seq
(.reg 2 [oQ 10 (.load none 1),oM 11 3,oQ 12 (.istr 10 11),oK 13 (.call 351 [12]),oQ 14 (.bld [(zU 0),(.str [])] [⟨0,⟨1,13⟩⟩]),oK 4 (.alloc [(zU 0),(.str [])]),oN (.store 2 4 14)] [0,1,3,4])
(.seq
(.reg 3 [oM 15 3,oM 5 15] [0,1,3,4,5])
(.seq
(.seq
(.reg 4 [oM 16 3,oQ 17 (.bin .add 16 (cI 1)),oM 3 17] [0,1,3,4,5])
(.block 2
(.loop
(.seq
(.seq
(.oreg 5 [(0,oQ 18 (.faddr 0 4),0),(1,oQ 19 (.load none 18),0),(2,oQ 20 (.bin .geq 19 (.c (zU 4))),0),(3,oM 21 20,0),(4,gQ 22 21 true (.mov 3),0),(5,gQ 23 21 true (.load none 1),0),(6,gQ 24 21 true (.len 1 23),0),(7,gQ 25 21 true (.bin .lss 22 24),0),(8,oQ 26 (.pick 21 25 (cB false)),0),(9,oM 27 26,0),(10,gQ 28 27 true (.load none 1),0),(11,gQ 29 27 true (.mov 3),0),(12,gQ 30 27 true (.istr 28 29),0),(14,gQ 32 27 true (.faddr 0 4),0),(15,gQ 33 27 true (.load none 32),0),(13,gK 31 27 true (.call 351 [30]),32768),(16,gQ 34 27 true (.bin .eql 31 33),0),(17,oQ 35 (.pick 27 34 (cB false)),0)] [0,1,3,4,5,35])
(.cond 35
.skip
(.exit 2)))
(.seq
(.block 3
.skip)
(.reg 6 [oM 36 3,oQ 37 (.bin .add 36 (cI 1)),oM 3 37] [0,1,3,4,5]))))))
(.seq
(.seq
(.reg 7 [oQ 38 (.faddr 0 4),oQ 39 (.load none 38),oQ 40 (.bin .geq 39 (.c (zU 4)))] [0,1,3,4,5,40])
(.cond 40
(.reg 8 [oQ 41 (.load none 1),oM 42 5,oM 43 3,oQ 44 (.sstr 41 (some 42) (some 43)),oQ 45 (.faddr 1 4),oN (.store 1 45 44)] [0,1,3,4])
.skip))
(.seq
(.seq
(.reg 9 [oQ 46 (.faddr 0 4),oQ 47 (.load none 46),oQ 48 (.bin .eql 47 (.c (zU 5)))] [0,1,3,4,48])
(.cond 48
(.reg 10 [oQ 49 (.faddr 1 4),oQ 50 (.load none 49),oK 51 (.call 352 [50,(.c (.str [48]))]),oQ 52 (.faddr 1 4),oN (.store 1 52 51)] [0,1,3,4])
.skip))
(.seq
(.reg 11 [oQ 53 (.faddr 0 4),oQ 54 (.load none 53),oQ 55 (.bin .neq 54 (.c (zU 0))),oM 56 55,gQ 57 56 true (.mov 0),gQ 58 56 true (.load (some 2) 4),gK 59 56 true (.callv 57 [58]),gQ 60 56 true (.not 59),oQ 61 (.pick 56 60 (cB false))] [0,1,3,61])
(.cond 61
.ret
.skip))))))))))))
theorem fok350 : FOK Tryz.prog 350 (62,ic350,[]) := fokA [2000000] Tryz.func350
def ic351 : IC :=
(.seq
(.reg 0 [oM 2 (.c (zU 0))] [0])
(.seq
(.block 0
(.seq
(.reg 1 [oM 4 0,oQ 5 (.bin .eql 4 (.c (zU 126))),oM 3 5] [0,3])
(.cond 3
(.seq
(.reg 2 [oM 2 (.c (zU 1))] [2])
.ret)
(.seq
(.reg 3 [oM 7 0,oQ 8 (.bin .eql 7 (.c (zU 94))),oM 6 8] [0,6])
(.cond 6
(.seq
(.reg 4 [oM 2 (.c (zU 3))] [2])
.ret)
(.seq
(.reg 5 [oM 10 0,oQ 11 (.bin .geq 10 (.c (zU 97))),oM 12 11,gQ 13 12 true (.mov 0),gQ 14 12 true (.bin .leq 13 (.c (zU 122))),oQ 15 (.pick 12 14 (cB false)),oM 16 15,gQ 17 16 false (.mov 0),gQ 18 16 false (.bin .geq 17 (.c (zU 65))),gQ 19 16 false (.mov 18),gQ 20 19 true (.mov 0),gQ 21 19 true (.bin .leq 20 (.c (zU 90))),gQ 22 16 false (.pick 19 21 (cB false)),oQ 23 (.pick 16 (cB true) 22),oM 9 23] [0,9])
(.cond 9
(.seq
(.reg 6 [oM 2 (.c (zU 4))] [2])
.ret)
(.seq
(.reg 7 [oM 25 0,oQ 26 (.bin .geq 25 (.c (zU 48))),oM 27 26,gQ 28 27 true (.mov 0),gQ 29 27 true (.bin .leq 28 (.c (zU 57))),oQ 30 (.pick 27 29 (cB false)),oM 24 30] [24])
(.cond 24
(.seq
(.reg 8 [oM 2 (.c (zU 5))] [2])
.ret)
.skip)))))))))
(.seq
(.reg 9 [oM 2 (.c (zU 0))] [2])
.ret)))
theorem fok351 : FOK Tryz.prog 351 (31,ic351,[(.t 2)]) := fokA [2000000] Tryz.func351
def ic352 : IC :=
(.seq
(.reg 0 [oM 4 (.c (.str []))] [0,1])
(.seq
(.seq
(.reg 1 [oM 7 0,oQ 8 (.bin .eql 7 (.c (.str []))),oM 9 8,gQ 10 9 false (.mov 1),gQ 11 9 false (.bin .eql 10 (.c (.str []))),oQ 12 (.pick 9 (cB true) 11)] [0,1,12])
(.cond 12
(.seq
(.reg 2 [oM 13 0,oM 4 13] [4])
.ret)
.skip))
(.seq
(.seq
(.reg 3 [oM 14 1,oQ 15 (.len 1 14),oQ 16 (.bin .eql 15 (cI 1)),oM 17 16,gQ 18 17 true (.mov 1),gQ 19 17 true (.istr 18 (cI 0)),gQ 20 17 true (.bin .lss 19 (.c (zU 128))),oQ 21 (.pick 17 20 (cB false))] [0,1,21])
(.cond 21
(.seq
(.reg 4 [oM 22 0,oM 23 1,oQ 24 (.istr 23 (cI 0)),oK 25 (.call 358 [22,24]),oM 4 25] [4])
.ret)
.skip))
(.seq
(.seq
(.reg 5 [oM 27 1,oK 28 (.call 359 [27]),oM 26 28,oQ 29 (.ext 0 26),oQ 30 (.ext 1 26),oK 5 (.alloc [(.bool false),(.bool false),(.bool false),(.bool false),(.bool false),(.bool false),(.bool false),(.bool false),(.bool false),(.bool false),(.bool false),(.bool false),(.bool false),(.bool false),(.bool false),(.bool false),(.bool false),(.bool false),(.bool false),(.bool false),(.bool false),(.bool false),(.bool false),(.bool false),(.bool false),(.bool false),(.bool false),(.bool false),(.bool false),(.bool false),(.bool false),(.bool false),(.bool false),(.bool false),(.bool false),(.bool false),(.bool false),(.bool false),(.bool false),(.bool false),(.bool false),(.bool false),(.bool false),(.bool false),(.bool false),(.bool false),(.bool false),(.bool false),(.bool false),(.bool false),(.bool false),(.bool false),(.bool false),(.bool false),(.bool false),(.bool false),(.bool false),(.bool false),(.bool false),(.bool false),(.bool false),(.bool false),(.bool false),(.bool false),(.bool false),(.bool false),(.bool false),(.bool false),(.bool false),(.bool false),(.bool false),(.bool false),(.bool false),(.bool false),(.bool false),(.bool false),(.bool false),(.bool false),(.bool false),(.bool false),(.bool false),(.bool false),(.bool false),(.bool false),(.bool false),(.bool false),(.bool false),(.bool false),(.bool false),(.bool false),(.bool false),(.bool false),(.bool false),(.bool false),(.bool false),(.bool false),(.bool false),(.bool false),(.bool false),(.bool false),(.bool false),(.bool false),(.bool false),(.bool false),(.bool false),(.bool false),(.bool false),(.bool false),(.bool false),(.bool false),(.bool false),(.bool false),(.bool false),(.bool false),(.bool false),(.bool false),(.bool false),(.bool false),(.bool false),(.bool false),(.bool false),(.bool false),(.bool false),(.bool false),(.bool false),(.bool false),(.bool false),(.bool false),(.bool false),(.bool false),(.bool false),(.bool false),(.bool false),(.bool false),(.bool false),(.bool false),(.bool false),(.bool false),(.bool false),(.bool false),(.bool false),(.bool false),(.bool false),(.bool false),(.bool false),(.bool false),(.bool false),(.bool false),(.bool false),(.bool false),(.bool false),(.bool false),(.bool false),(.bool false),(.bool false),(.bool false),(.bool false),(.bool false),(.bool false),(.bool false),(.bool false),(.bool false),(.bool false),(.bool false),(.bool false),(.bool false),(.bool false),(.bool false),(.bool false),(.bool false),(.bool false),(.bool false),(.bool false),(.bool false),(.bool false),(.bool false),(.bool false),(.bool false),(.bool false),(.bool false),(.bool false),(.bool false),(.bool false),(.bool false),(.bool false),(.bool false),(.bool false),(.bool false),(.bool false),(.bool false),(.bool false),(.bool false),(.bool false),(.bool false),(.bool false),(.bool false),(.bool false),(.bool false),(.bool false),(.bool false),(.bool false),(.bool false),(.bool false),(.bool false),(.bool false),(.bool false),(.bool false),(.bool false),(.bool false),(.bool false),(.bool false),(.bool false),(.bool false),(.bool false),(.bool false),(.bool false),(.bool false),(.bool false),(.bool false),(.bool false),(.bool false),(.bool false),(.bool false),(.bool false),(.bool false),(.bool false),(.bool false),(.bool false),(.bool false),(.bool false),(.bool false),(.bool false),(.bool false),(.bool false),(.bool false),(.bool false),(.bool false),(.bool false),(.bool false),(.bool false),(.bool false),(.bool false),(.bool false),(.bool false),(.bool false),(.bool false),(.bool false),(.bool false),(.bool false),(.bool false),(.bool false),(.bool false),(.bool false),(.bool false),(.bool false),(.bool false)]),oN (.store 256 5 29),oM 6 30] [0,1,5,6])
(.seq
(.reg 6 [oM 31 6] [0,1,5,31])
(.cond 31
(.seq
(.reg 7 [oM 32 0,oK 33 (.call 360 [32,5]),oM 4 33] [4])
.ret)
.skip)))
(.seq
(.reg 8 [oM 34 0,oM 35 1,oK 36 (.call 361 [34,35]),oM 4 36] [4])
.ret)))))
theorem fok352 : FOK Tryz.prog 352 (37,ic352,[(.t 4)]) := fokA [2000000] Tryz.func352
def ic353 : IC :=
(.seq
(.reg 0 [oM 2 (cB false)] [0])
(.seq
(.reg 1 [oM 3 0,oM 4 0,oQ 5 (.bin .neq 3 4),oM 2 5] [2])
.ret))
theorem fok353 : FOK Tryz.prog 353 (6,ic353,[(.t 2)]) := fokA [2000000] Tryz.func353
def ic354 : IC :=
(.seq
(.reg 0 [oM 2 (cB false)] [0])
(.seq
(.reg 1 [oM 3 0,oM 4 0,oQ 5 (.bin .neq 3 4),oM 2 5] [2])
.ret))
theorem fok354 : FOK Tryz.prog 354 (6,ic354,[(.t 2)]) := fokA [2000000] Tryz.func354
def ic357 : IC :=
(.seq
(.reg 0 [oM 4 (.c (.str []))] [0,1])
(.seq
(.seq
(.reg 1 [oM 10 1,oQ 11 (.bin .eql 10 (cI 10))] [0,1,11])
(.cond 11
(.seq
(.seq
(.reg 2 [oM 12 0,oQ 13 (.bin .leq (cI 0) 12),oM 14 13,gQ 15 14 true (.mov 0),gQ 16 14 true (.bin .lss 15 (cI 100)),oQ 17 (.pick 14 16 (cB false))] [0,17])
(.cond 17
(.seq
(.reg 3 [oM 18 0,oK 19 (.call 362 [18]),oM 4 19] [4])
.ret)
.skip))
(.seq
(.reg 4 [oK 5 (.alloc [(zU 0),(zU 0),(zU 0),(zU 0),(zU 0),(zU 0),(zU 0),(zU 0),(zU 0),(zU 0),(zU 0),(zU 0),(zU 0),(zU 0),(zU 0),(zU 0),(zU 0),(zU 0),(zU 0),(zU 0),(zU 0),(zU 0),(zU 0),(zU 0)])] [0,5])
(.seq
(.reg 5 [oM 20 0,oQ 21 (.conv .u64 20),oM 6 21] [0,5,6])
(.seq
(.seq
(.reg 6 [oM 22 0,oQ 23 (.bin .lss 22 (cI 0))] [0,5,6,23])
(.cond 23
(.reg 7 [oM 24 6,oQ 25 (.neg 24),oM 6 25] [0,5,6])
.skip))
(.seq
(.reg 8 [oM 26 6,oK 27 (.call 363 [26]),oM 7 27] [0,5,6,7])
(.seq
(.reg 9 [oM 28 7,oQ 29 (.bin .add (cI 1) 28),oK 30 (.st .nev []),oM 31 6,oK 32 (.call 364 [30,31])] [0,5,7])
(.seq
(.seq
(.reg 10 [oM 33 0,oQ 34 (.bin .lss 33 (cI 0))] [5,7,34])
(.cond 34
(.seq
(.reg 11 [oQ 35 (.aaddr 24 1 5 (cI 0)),oN (.store 1 35 (.c (zU 45)))] [7])
(.seq
(.reg 12 [oM 36 7,oQ 37 (.bin .add (cI 1) 36),oK 38 (.st .nev []),oK 39 (.st .nev []),oM 4 39] [4])
.ret))
.skip))
(.seq
(.reg 13 [oM 40 7,oQ 41 (.bin .add (cI 1) 40),oK 42 (.st .nev []),oK 43 (.st .nev []),oM 4 43] [4])
.ret))))))))
.skip))
(.seq
(.reg 14 [oM 45 0,oQ 46 (.conv .u64 45),oM 47 1,oM 48 0,oQ 49 (.bin .lss 48 (cI 0)),oK 50 (.call 365 [(.c .nilslice),46,47,49,(cB false)]),oM 44 50,oQ 51 (.ext 0 44),oQ 52 (.ext 1 44),oM 8 51,oM 9 52] [9])
(.seq
(.reg 15 [oM 53 9,oM 4 53] [4])
.ret))))
theorem fok357 : FOK Tryz.prog 357 (54,ic357,[(.t 4)]) := fokA [2000000] Tryz.func357
def ic358 : IC :=
(.seq
(.reg 0 [oM 4 (.c (.str []))] [0,1])
(.seq
(.block 0
(.loop
(.seq
(.seq
(.reg 1 [oM 5 0,oQ 6 (.len 1 5),oQ 7 (.bin .gtr 6 (cI 0)),oM 8 7,gQ 9 8 true (.mov 0),gQ 10 8 true (.istr 9 (cI 0)),gQ 11 8 true (.mov 1),gQ 12 8 true (.bin .eql 10 11),oQ 13 (.pick 8 12 (cB false))] [0,1,13])
(.cond 13
.skip
(.exit 0)))
(.block 1
(.reg 2 [oM 14 0,oQ 15 (.sstr 14 (some (cI 1)) none),oM 0 15] [0,1])))))
(.seq
(.reg 3 [oM 16 0,oM 4 16] [4])
.ret)))
theorem fok358 : FOK Tryz.prog 358 (17,ic358,[(.t 4)]) := fokA [2000000] Tryz.func358
def ic362 : IC :=
(.seq
(.reg 0 [oM 2 (.c (.str []))] [0])
(.seq
(.seq
(.reg 1 [oM 3 0,oQ 4 (.bin .lss 3 (cI 10))] [0,4])
(.cond 4
(.seq
(.reg 2 [oM 5 0,oM 6 0,oQ 7 (.bin .add 6 (cI 1)),oQ 8 (.sstr (.c (.str [48,49,50,51,52,53,54,55,56,57,97,98,99,100,101,102,103,104,105,106,107,108,109,110,111,112,113,114,115,116,117,118,119,120,121,122])) (some 5) (some 7)),oM 2 8] [2])
.ret)
.skip))
(.seq
(.reg 3 [oM 9 0,oQ 10 (.bin .mul 9 (cI 2)),oM 11 0,oQ 12 (.bin .mul 11 (cI 2)),oQ 13 (.bin .add 12 (cI 2)),oQ 14 (.sstr (.c (.str [48,48,48,49,48,50,48,51,48,52,48,53,48,54,48,55,48,56,48,57,49,48,49,49,49,50,49,51,49,52,49,53,49,54,49,55,49,56,49,57,50,48,50,49,50,50,50,51,50,52,50,53,50,54,50,55,50,56,50,57,51,48,51,49,51,50,51,51,51,52,51,53,51,54,51,55,51,56,51,57,52,48,52,49,52,50,52,51,52,52,52,53,52,54,52,55,52,56,52,57,53,48,53,49,53,50,53,51,53,52,53,53,53,54,53,55,53,56,53,57,54,48,54,49,54,50,54,51,54,52,54,53,54,54,54,55,54,56,54,57,55,48,55,49,55,50,55,51,55,52,55,53,55,54,55,55,55,56,55,57,56,48,56,49,56,50,56,51,56,52,56,53,56,54,56,55,56,56,56,57,57,48,57,49,57,50,57,51,57,52,57,53,57,54,57,55,57,56,57,57])) (some 10) (some 13)),oM 2 14] [2])
.ret)))
theorem fok362 : FOK Tryz.prog 362 (15,ic362,[(.t 2)]) := fokA [2000000] Tryz.func362
end Go.Id.Tryz
