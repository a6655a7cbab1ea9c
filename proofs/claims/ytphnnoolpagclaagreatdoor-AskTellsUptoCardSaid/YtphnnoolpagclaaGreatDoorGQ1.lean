/- The compiled codes of functions,written by a program out of the given form. Conditions: none. -/
import Derived.Test.YtphnnoolpagclaaGreatDoorFwZb
import Derived.Test.YtphnnoolpagclaaGreatDoorProg
set_option linter.all false
namespace Go.Id.Tryz
open Go Go.Id Go.Proofs
def hm7:List Nat:=List.range 249
def ic77:IC :=
(.seq
(.reg 0 [oK 3 (.ai8 T1),oM 4 (.c .aa1)] [0,3])
(.seq
(.reg 1 [oM 5 (.c .aa1)] [0,3,5])
(.seq
(.seq
(.reg 2 [oM 6 (cI 0)] [0,3,5,6])
(.block 0
(.loop
(.seq
(.seq
(.reg 3 [oM 7 T6,oM 8 T0,oQ 9 (.len 0 T8),oQ 10 (.bin .lss T7 T9)] [0,3,5,6,10])
(.cond T10
.skip
(.exit 0)))
(.seq
(.block 1
(.seq
(.ar4 5 [oM 13 T0,oM 14 T6,oQ 15 (.ac8 15 T13 T14),oQ 16 (.load (some 15) T15),oQ 17 (.load (some 5) T3),oK 18 (.call 105 [T16,T17])] false [0,3,5,6,18])
(.cond T18
(.reg 6 [oM 19 T5,oM 20 T6,oK 21 (.bb4 1 1 [(zI 0)] [⟨0,⟨1,T20⟩⟩]),oK 22 (.app 1 T19 T21),oM 5 T22] [0,3,5,6])
.skip)))
(.reg 4 [oM 11 T6,oQ 12 (.bin .add T11 (cI 1)),oM 6 T12] [0,3,5,6]))))))
(.seq
(.reg 7 [oM 23 T5,oM 4 T23] [4])
.ret))))
theorem fok77:FOK Tryz.prog 77 (24,ic77,[(.t 4)]):=af6 [1000003,1000021] Tryz.func77
def ic78:IC :=
(.seq
(.reg 0 [oM 6 (cB false)] [0,1,2])
(.seq
(.reg 1 [oM 7 T2,oM 8 T0,oM 9 T1,oK 10 (.call 29 [T8,T9]),oK 11 (.call 124 [T7,T10]),oM 6 T11] [6])
.ret))
theorem fok78:FOK Tryz.prog 78 (12,ic78,[(.t 6)]):=af6 [] Tryz.func78
def ic79:IC :=
(.seq
(.reg 0 [oM 6 (cB false)] [0,1,2])
(.seq
(.reg 1 [oM 7 T2,oM 8 T0,oM 9 T1,oK 10 (.call 29 [T8,T9]),oK 11 (.call 124 [T7,T10]),oQ 12 (.not T11),oM 6 T12] [6])
.ret))
theorem fok79:FOK Tryz.prog 79 (13,ic79,[(.t 6)]):=af6 [] Tryz.func79
def ic80:IC :=
(.seq
(.reg 0 [oK 3 (.ai8 T0),oK 5 (.ai8 T2),oM 6 (cB false)] [1,3,5])
(.seq
(.reg 1 [oQ 7 (.load none T3),oM 8 T1,oK 9 (.call 29 [T7,T8]),oQ 10 (.mkf 126 [] [T5,T3]),oK 11 (.call 125 [T9,T10]),oQ 12 (.not T11),oM 6 T12] [6])
.ret))
theorem fok80:FOK Tryz.prog 80 (13,ic80,[(.t 6)]):=af6 [1000003,1000005] Tryz.func80
def ic81:IC :=
(.seq
(.reg 0 [oK 3 (.ai8 T0),oK 5 (.ai8 T2),oM 6 (cB false)] [1,3,5])
(.seq
(.reg 1 [oQ 7 (.load none T3),oM 8 T1,oK 9 (.call 29 [T7,T8]),oQ 10 (.mkf 127 [] [T3,T5]),oK 11 (.call 125 [T9,T10]),oQ 12 (.not T11),oM 6 T12] [6])
.ret))
theorem fok81:FOK Tryz.prog 81 (13,ic81,[(.t 6)]):=af6 [1000003,1000005] Tryz.func81
def ic82:IC :=
(.seq
(.reg 0 [oM 4 (cB false)] [0,1])
(.seq
(.seq
(.reg 1 [oM 5 (cI 0)] [0,1,5])
(.block 0
(.loop
(.seq
(.seq
(.reg 2 [oM 7 T5,oM 8 T0,oQ 9 (.len 0 T8),oQ 10 (.bin .lss T7 T9)] [0,1,5,10])
(.cond T10
.skip
(.exit 0)))
(.seq
(.block 1
(.seq
(.reg 4 [oM 6 (cI 0)] [0,1,5,6])
(.block 2
(.loop
(.seq
(.seq
(.reg 5 [oM 13 T6,oM 14 T1,oQ 15 (.len 0 T14),oQ 16 (.bin .lss T13 T15)] [0,1,5,6,16])
(.cond T16
.skip
(.exit 2)))
(.seq
(.block 3
(.seq
(.ar4 7 [oM 19 T0,oM 20 T5,oQ 21 (.ac8 1 T19 T20),oQ 22 (.load none T21),oM 23 T1,oM 24 T6,oQ 25 (.ac8 1 T23 T24),oQ 26 (.load none T25),oQ 27 (.bin .eql T22 T26)] false [0,1,5,6,27])
(.cond T27
(.seq
(.reg 8 [oM 4 (cB true)] [4])
.ret)
.skip)))
(.reg 6 [oM 17 T6,oQ 18 (.bin .add T17 (cI 1)),oM 6 T18] [0,1,5,6])))))))
(.reg 3 [oM 11 T5,oQ 12 (.bin .add T11 (cI 1)),oM 5 T12] [0,1,5]))))))
(.seq
(.reg 9 [oM 4 (cB false)] [4])
.ret)))
theorem fok82:FOK Tryz.prog 82 (28,ic82,[(.t 4)]):=af6 [] Tryz.func82
def ic83:IC :=
(.seq
(.reg 0 [oM 4 (cI 0)] [0,1])
(.seq
(.reg 1 [oM 5 (cI 0)] [0,1,5])
(.seq
(.seq
(.reg 2 [oM 6 (cI 0)] [0,1,5,6])
(.block 0
(.loop
(.seq
(.seq
(.reg 3 [oM 7 T6,oM 8 T0,oQ 9 (.len 0 T8),oQ 10 (.bin .lss T7 T9),oM 11 T10,gQ 12 11 true (.mov T5),gQ 13 11 true (.mov T1),gQ 14 11 true (.bin .lss T12 T13),oQ 15 (.pick T11 T14 (cB false))] [0,1,5,6,15])
(.cond T15
.skip
(.exit 0)))
(.seq
(.block 1
(.reg 5 [oM 18 T5,oQ 19 (.bin .add T18 (cI 1)),oM 20 T0,oM 21 T6,oQ 22 (.ac8 7 T20 T21),oQ 23 (.aa6 6 T22),oQ 24 (.load none T23),oM 25 T1,oM 26 T5,oQ 27 (.bin .sub T25 T26),oK 28 (.call 83 [T24,T27]),oQ 29 (.bin .add T19 T28),oM 5 T29] [0,1,5,6]))
(.reg 4 [oM 16 T6,oQ 17 (.bin .add T16 (cI 1)),oM 6 T17] [0,1,5,6]))))))
(.seq
(.reg 6 [oM 30 T5,oM 4 T30] [4])
.ret))))
theorem fok83:FOK Tryz.prog 83 (31,ic83,[(.t 4)]):=af6 [] Tryz.func83
def ic84:IC :=
(.seq
(.reg 0 [oK 1 (.ai8 T0),oK 2 (.alloc [(.bool false)])] [1,2])
(.seq
(.block 0
(.seq
(.reg 1 [oQ 8 (.aa6 0 T1),oQ 9 (.load none T8),oK 10 (.call 88 [T9]),oQ 11 (.not T10),oM 12 T11,gQ 13 12 false (.aa6 0 T1),gQ 14 12 false (.load none T13),gK 15 12 false (.call 90 [T14]),oQ 16 (.pick T12 (cB true) T15),oM 17 T16,gQ 18 17 false (.aa6 1 T1),gQ 19 17 false (.load (some 3) T18),gK 20 17 false (.call 91 [T19,(cB false)]),gQ 21 17 false (.not T20),oQ 22 (.pick T17 (cB true) T21),oM 7 T22] [1,2,7])
(.cond T7
(.seq
(.reg 2 [oN (.store 1 T2 (cB false))] [2])
.ret)
(.seq
(.reg 3 [oQ 24 (.aa6 4 T1),oQ 25 (.load none T24),oK 26 (.call 128 [T25]),oQ 27 (.bin .eql T26 (.c (.str []))),oM 28 T27,gQ 29 28 false (.aa6 5 T1),gQ 30 28 false (.load none T29),gQ 31 28 false (.len 1 T30),gQ 32 28 false (.bin .gtr T31 (cI 64)),oQ 33 (.pick T28 (cB true) T32),oM 23 T33] [1,2,23])
(.cond T23
(.seq
(.reg 4 [oN (.store 1 T2 (cB false))] [2])
.ret)
(.seq
(.reg 5 [oQ 35 (.aa6 6 T1),oQ 36 (.load none T35),oK 37 (.call 129 [T36,(cI 32),(.f 38)]),oQ 38 (.not T37),oM 39 T38,gQ 40 39 false (.aa6 9 T1),gQ 41 39 false (.load none T40),gK 42 39 false (.call 129 [T41,(cI 32),(.f 38)]),gQ 43 39 false (.not T42),oQ 44 (.pick T39 (cB true) T43),oM 45 T44,gQ 46 45 false (.aa6 14 T1),gQ 47 45 false (.load none T46),gK 48 45 false (.call 130 [T47,(cI 32),(.f 90)]),gQ 49 45 false (.not T48),oQ 50 (.pick T45 (cB true) T49),oM 34 T50] [1,2,34])
(.cond T34
(.seq
(.reg 6 [oN (.store 1 T2 (cB false))] [2])
.ret)
.skip)))))))
(.seq
(.seq
(.reg 7 [oQ 51 (.aa6 14 T1),oQ 52 (.load none T51),oQ 53 (.len 0 T52),oM 54 (cI 0)] [1,2,52,53,54])
(.block 1
(.loop
(.seq
(.reg 8 [oQ 55 (.bin .lss T54 T53)] [1,2,52,53,54,55])
(.seq
(.cond T55
.skip
(.exit 1))
(.seq
(.block 2
(.seq
(.reg 9 [oM 56 T54,oQ 57 (.ac8 1 T52 T54),oQ 58 (.load none T57),oM 3 T56,oM 4 T58] [1,2,3,4,52,53,54])
(.seq
(.reg 10 [oM 59 T3,oQ 60 (.bin .gtr T59 (cI 0)),oM 61 T60,gQ 62 61 true (.aa6 14 T1),gQ 63 61 true (.load none T62),gQ 64 61 true (.mov T3),gQ 65 61 true (.bin .sub T64 (cI 1)),gQ 66 61 true (.ac8 1 T63 T65),gQ 67 61 true (.load none T66),gQ 68 61 true (.mov T4),gQ 69 61 true (.bin .geq T67 T68),oQ 70 (.pick T61 T69 (cB false))] [1,2,52,53,54,70])
(.cond T70
(.seq
(.reg 11 [oN (.store 1 T2 (cB false))] [2])
.ret)
.skip))))
(.reg 12 [oQ 71 (.bin .add T54 (cI 1)),oM 54 T71] [1,2,52,53,54])))))))
(.seq
(.seq
(.reg 13 [oQ 72 (.load (some 15) T1),oK 73 (.call 131 [T72])] [2,73])
(.block 3
(.bn4 T73 [74,75]
(.seq
(.reg 14 [oK 5 (.alloc [(zU 0)]),oN (.store 1 T5 T74)] [2,5,75])
(.reg 15 [oM 6 T75] [2,5,6]))
(.block 4
(.seq
(.reg 16 [oM 76 T6,oQ 77 (.mkf 133 [] [T5]),oK 78 (.call 132 [T76,(cI 32),T77]),oQ 79 (.not T78)] [2,79])
(.cond T79
(.seq
(.reg 17 [oN (.store 1 T2 (cB false))] [])
.ret)
.skip))))))
(.seq
(.reg 18 [oN (.store 1 T2 (cB true))] [2])
.ret)))))
theorem fok84:FOK Tryz.prog 84 (80,ic84,[(.cell none 2)]):=af6 [1000001] Tryz.func84
def ic85:IC :=
(.seq
(.reg 0 [oK 1 (.box T0),oK 2 (.alloc [(.str []),(zI 0),(.str []),(.str []),(zU 0),(.str []),.aa1,.aa1,.aa1,.aa1,.aa1,.aa1,.aa1,.aa1,.aa1])] [1,2])
(.seq
(.ar4 1 [oQ 7 (.aa6 6 T1),oQ 8 (.load none T7),oK 9 (.af1 135 [T8]),oQ 10 (.aa6 9 T1),oQ 11 (.load none T10),oK 12 (.af1 135 [T11]),oQ 13 (.aa6 14 T1),oQ 14 (.load none T13),oK 15 (.af1 136 [T14]),oQ 16 (.aa6 6 T1),oN (.store 1 T16 T9),oQ 17 (.aa6 9 T1),oN (.store 1 T17 T12),oQ 18 (.aa6 14 T1),oN (.store 1 T18 T15)] false [1,2])
(.seq
(.seq
(.reg 2 [oQ 19 (.aa6 7 T1),oQ 20 (.aa6 8 T1),oQ 21 (.aa6 10 T1),oQ 22 (.aa6 11 T1),oQ 23 (.aa6 12 T1),oQ 24 (.aa6 13 T1),oK 25 (.bb4 1 6 [.ac2] [⟨0,⟨1,T19⟩⟩,⟨1,⟨1,T20⟩⟩,⟨2,⟨1,T21⟩⟩,⟨3,⟨1,T22⟩⟩,⟨4,⟨1,T23⟩⟩,⟨5,⟨1,T24⟩⟩]),oQ 26 (.len 0 T25),oM 27 (cI 0)] [1,2,25,26,27])
(.block 0
(.loop
(.seq
(.reg 3 [oQ 28 (.bin .lss T27 T26)] [1,2,25,26,27,28])
(.seq
(.cond T28
.skip
(.exit 0))
(.seq
(.block 1
(.seq
(.reg 4 [oQ 29 (.ac8 1 T25 T27),oQ 30 (.load none T29),oM 4 T30] [1,2,4,25,26,27])
(.seq
(.reg 5 [oM 31 T4,oM 32 T4,oQ 33 (.ak4 T32),oQ 34 (.load none T33),oK 35 (.call 137 [T34]),oQ 36 (.ak4 T31),oN (.store 1 T36 T35)] [1,2,4,25,26,27])
(.seq
(.reg 6 [oM 37 T4,oQ 38 (.ak4 T37),oQ 39 (.load none T38),oQ 40 (.len 0 T39),oM 41 (cI 0)] [1,2,4,25,26,27,39,40,41])
(.block 2
(.loop
(.seq
(.reg 7 [oQ 42 (.bin .lss T41 T40)] [1,2,4,25,26,27,39,40,41,42])
(.seq
(.cond T42
.skip
(.exit 2))
(.seq
(.block 3
(.seq
(.reg 8 [oM 43 T41,oQ 44 (.ac8 7 T39 T41),oQ 45 (.load (some 7) T44),oK 6 (.alloc [(zU 0),(.str []),(zU 0),(zI 0),(.str []),(.str []),.aa1]),oM 5 T43,oN (.store 7 T6 T45)] [1,2,4,5,6,25,26,27,39,40,41])
(.ar4 9 [oM 46 T4,oQ 47 (.ak4 T46),oQ 48 (.load none T47),oM 49 T5,oQ 50 (.load (some 7) T6),oK 51 (.af1 138 [T50]),oQ 52 (.ac8 7 T48 T49),oN (.store 7 T52 T51)] false [1,2,4,25,26,27,39,40,41])))
(.reg 10 [oQ 53 (.bin .add T41 (cI 1)),oM 41 T53] [1,2,4,25,26,27,39,40,41]))))))))))
(.reg 11 [oQ 54 (.bin .add T27 (cI 1)),oM 27 T54] [1,2,25,26,27])))))))
(.seq
(.reg 12 [oQ 55 (.load (some 15) T1),oN (.store 15 T2 T55)] [2])
.ret))))
theorem fok85:FOK Tryz.prog 85 (56,ic85,[(.cell (some 15) 2)]):=af6 ([1000025]++List.filter (fun k=>k != 137) hm7) Tryz.func85
def ic86:IC :=
(.seq
(.reg 0 [oM 2 (cB false)] [0])
(.seq
(.reg 1 [oM 3 T0,oQ 4 (.bin .geq T3 (.c (zU 1))),oM 5 T4,gQ 6 5 true (.mov T0),gQ 7 5 true (.bin .leq T6 (.c (zU 4))),oQ 8 (.pick T5 T7 (cB false)),oM 2 T8] [2])
.ret))
theorem fok86:FOK Tryz.prog 86 (9,ic86,[(.t 2)]):=af6 [] Tryz.func86
def ic87:IC :=
(.seq
(.reg 0 [oM 4 (cI 0)] [0,1])
(.seq
(.seq
(.reg 1 [oM 6 T0,oQ 7 (.len 0 T6),oM 8 (cI 0)] [0,1,7,8])
(.block 0
(.loop
(.seq
(.reg 2 [oQ 9 (.bin .lss T8 T7)] [0,1,7,8,9])
(.seq
(.cond T9
.skip
(.exit 0))
(.seq
(.block 1
(.seq
(.reg 3 [oM 10 T8,oM 5 T10] [0,1,5,7,8])
(.seq
(.reg 4 [oM 11 T1,oM 12 T0,oM 13 T5,oQ 14 (.ac8 6 T12 T13),oQ 15 (.load (some 6) T14),oK 16 (.an1 T11 [T15])] [0,1,5,7,8,16])
(.cond T16
(.seq
(.reg 5 [oM 17 T5,oM 4 T17] [4])
.ret)
.skip))))
(.reg 6 [oQ 18 (.bin .add T8 (cI 1)),oM 8 T18] [0,1,7,8])))))))
(.seq
(.reg 7 [oM 4 (cI (-1))] [4])
.ret)))
theorem fok87:FOK Tryz.prog 87 (19,ic87,[(.t 4)]):=af6 [] Tryz.func87
def ic88:IC :=
(.seq
(.reg 0 [oM 2 (cB false)] [0])
(.seq
(.seq
(.reg 1 [oM 7 T0,oQ 8 (.len 1 T7),oQ 9 (.bin .lss T8 (cI 1)),oM 10 T9,gQ 11 10 false (.mov T0),gQ 12 10 false (.len 1 T11),gQ 13 10 false (.bin .gtr T12 (cI 64)),oQ 14 (.pick T10 (cB true) T13)] [0,14])
(.cond T14
(.seq
(.reg 2 [oM 2 (cB false)] [2])
.ret)
.skip))
(.seq
(.seq
(.reg 3 [oM 15 T0,oK 16 (.bg4 T15)] [0,16])
(.block 0
(.loop
(.seq
(.reg 4 [oK 17 (.cp8 T16),oQ 18 (.ext 0 T17)] [0,16,17,18])
(.seq
(.cond T18
.skip
(.exit 0))
(.block 1
(.seq
(.reg 5 [oQ 19 (.ext 2 T17),oM 4 T19] [0,4,16])
(.seq
(.reg 6 [oM 20 T4,oQ 21 (.bin .gtr T20 (.c (.int .i32 126))),oM 22 T21,gQ 23 22 false (.mov T4),gQ 24 22 false (.conv .u8 T23),gK 25 22 false (.call 139 [(.c (.str [97,98,99,100,101,102,103,104,105,106,107,108,109,110,111,112,113,114,115,116,117,118,119,120,121,122,65,66,67,68,69,70,71,72,73,74,75,76,77,78,79,80,81,82,83,84,85,86,87,88,89,90,48,49,50,51,52,53,54,55,56,57,46,95,43,45,47,58,64,126,94])),T24]),gQ 26 22 false (.bin .lss T25 (cI 0)),oQ 27 (.pick T22 (cB true) T26)] [0,16,27])
(.cond T27
(.seq
(.reg 7 [oM 2 (cB false)] [2])
.ret)
.skip)))))))))
(.seq
(.seq
(.reg 8 [oQ 28 (.load (some 7) (.g 0)),oM 29 (cI 0)] [0,28,29])
(.block 2
(.loop
(.seq
(.reg 9 [oQ 30 (.bin .lss T29 (cI 7))] [0,28,29,30])
(.seq
(.cond T30
.skip
(.exit 2))
(.seq
(.block 3
(.seq
(.reg 10 [oQ 31 (.idx none 7 1 T28 T29),oM 6 T31] [0,6,28,29])
(.seq
(.reg 11 [oM 32 T0,oM 33 T6,oQ 34 (.bin .eql T32 T33)] [0,28,29,34])
(.cond T34
(.seq
(.reg 12 [oM 2 (cB false)] [2])
.ret)
.skip))))
(.reg 13 [oQ 35 (.bin .add T29 (cI 1)),oM 29 T35] [0,28,29])))))))
(.seq
(.reg 14 [oM 2 (cB true)] [2])
.ret)))))
theorem fok88:FOK Tryz.prog 88 (36,ic88,[(.t 2)]):=af6 [] Tryz.func88
def ic89:IC :=
(.seq
(.reg 0 [oM 2 (cB false)] [0])
(.seq
(.reg 1 [oM 3 T0,oQ 4 (.bin .eql T3 (.c (zU 0))),oM 5 T4,gQ 6 5 false (.mov T0),gK 7 5 false (.call 140 [T6]),gQ 8 5 false (.bin .neq T7 (.c (.str []))),oQ 9 (.pick T5 (cB true) T8),oM 2 T9] [2])
.ret))
theorem fok89:FOK Tryz.prog 89 (10,ic89,[(.t 2)]):=af6 [] Tryz.func89
def ic90:IC :=
(.seq
(.reg 0 [oM 2 (cB false)] [0])
(.seq
(.reg 1 [oM 3 T0,oK 4 (.call 88 [T3]),oM 5 T4,gQ 6 5 true (.mov T0),gK 7 5 true (.call 141 [T6,(.c (.str [47]))]),oQ 8 (.pick T5 T7 (cB false)),oM 2 T8] [2])
.ret))
theorem fok90:FOK Tryz.prog 90 (9,ic90,[(.t 2)]):=af6 [] Tryz.func90
def ic91:IC :=
(.seq
(.reg 0 [oK 2 (.ai8 T0),oM 4 (cB false)] [1,2])
(.seq
(.reg 1 [oQ 5 (.aa6 0 T2),oQ 6 (.load none T5),oQ 7 (.bin .geq T6 (cI 0)),oM 8 T7,gQ 9 8 true (.aa6 0 T2),gQ 10 8 true (.load none T9),gQ 11 8 true (.bin .leq T10 (cI 2147483647)),oQ 12 (.pick T8 T11 (cB false)),oM 13 T12,gQ 14 13 true (.aa6 1 T2),gQ 15 13 true (.load none T14),gK 16 13 true (.call 142 [T15]),oQ 17 (.pick T13 T16 (cB false)),oM 18 T17,gQ 19 18 true (.aa6 2 T2),gQ 20 18 true (.load none T19),gK 21 18 true (.call 142 [T20]),gQ 22 18 true (.mov T21),gQ 23 22 false (.mov T1),gQ 24 22 false (.mov T23),gQ 25 24 true (.aa6 2 T2),gQ 26 24 true (.load none T25),gQ 27 24 true (.bin .eql T26 (.c (.str []))),gQ 28 22 false (.pick T24 T27 (cB false)),gQ 29 18 true (.pick T22 (cB true) T28),oQ 30 (.pick T18 T29 (cB false)),oM 4 T30] [4])
.ret))
theorem fok91:FOK Tryz.prog 91 (31,ic91,[(.t 4)]):=af6 [1000002] Tryz.func91
def ic92:IC :=
(.seq
(.reg 0 [oM 4 (cI 0)] [0,1])
(.seq
(.seq
(.reg 1 [oM 6 T0,oQ 7 (.len 0 T6),oM 8 (cI 0)] [0,1,7,8])
(.block 0
(.loop
(.seq
(.reg 2 [oQ 9 (.bin .lss T8 T7)] [0,1,7,8,9])
(.seq
(.cond T9
.skip
(.exit 0))
(.seq
(.block 1
(.seq
(.reg 3 [oM 10 T8,oM 5 T10] [0,1,5,7,8])
(.seq
(.reg 4 [oM 11 T1,oM 12 T0,oM 13 T5,oQ 14 (.ac8 2 T12 T13),oQ 15 (.load (some 2) T14),oK 16 (.an1 T11 [T15])] [0,1,5,7,8,16])
(.cond T16
(.seq
(.reg 5 [oM 17 T5,oM 4 T17] [4])
.ret)
.skip))))
(.reg 6 [oQ 18 (.bin .add T8 (cI 1)),oM 8 T18] [0,1,7,8])))))))
(.seq
(.reg 7 [oM 4 (cI (-1))] [4])
.ret)))
theorem fok92:FOK Tryz.prog 92 (19,ic92,[(.t 4)]):=af6 [] Tryz.func92
def ic93:IC :=
(.seq
(.reg 0 [oK 1 (.ai8 T0),oM 2 (.c .ah6)] [1])
(.seq
(.reg 1 [oK 8 .bp2,oQ 9 (.aa6 0 T1),oQ 10 (.load none T9),oQ 11 (.bld [] []),oN (.di9 2 T8 T10 T11),oM 12 T8,oM 3 T12] [1,3])
(.seq
(.seq
(.reg 2 [oQ 13 (.aa6 6 T1),oQ 14 (.load none T13),oQ 15 (.len 0 T14),oM 16 (cI 0)] [1,3,14,15,16])
(.block 0
(.loop
(.seq
(.reg 3 [oQ 17 (.bin .lss T16 T15)] [1,3,14,15,16,17])
(.seq
(.cond T17
.skip
(.exit 0))
(.seq
(.block 1
(.seq
(.reg 4 [oQ 18 (.ac8 5 T14 T16),oQ 19 (.load (some 5) T18),oK 5 (.alloc [(.str []),(zU 0),(zI 0),(.str []),(.str [])]),oN (.store 5 T5 T19)] [1,3,5,14,15,16])
(.reg 5 [oM 20 T3,oQ 21 (.aa6 0 T5),oQ 22 (.load none T21),oQ 23 (.bld [] []),oN (.di9 2 T20 T22 T23)] [1,3,14,15,16])))
(.reg 6 [oQ 24 (.bin .add T16 (cI 1)),oM 16 T24] [1,3,14,15,16])))))))
(.seq
(.seq
(.reg 7 [oQ 25 (.aa6 14 T1),oQ 26 (.load none T25),oQ 27 (.len 0 T26),oM 28 (cI 0)] [3,26,27,28])
(.block 2
(.loop
(.seq
(.reg 8 [oQ 29 (.bin .lss T28 T27)] [3,26,27,28,29])
(.seq
(.cond T29
.skip
(.exit 2))
(.seq
(.block 3
(.seq
(.reg 9 [oQ 30 (.ac8 1 T26 T28),oQ 31 (.load none T30),oM 7 T31] [3,7,26,27,28])
(.reg 10 [oM 32 T3,oM 33 T7,oQ 34 (.bld [] []),oN (.di9 2 T32 T33 T34)] [3,26,27,28])))
(.reg 11 [oQ 35 (.bin .add T28 (cI 1)),oM 28 T35] [3,26,27,28])))))))
(.seq
(.reg 12 [oM 36 T3,oM 2 T36] [2])
.ret)))))
theorem fok93:FOK Tryz.prog 93 (37,ic93,[(.t 2)]):=af6 [1000001] Tryz.func93
def ic94:IC :=
(.seq
(.reg 0 [oM 4 (cB false)] [0,1])
(.seq
(.reg 1 [oM 5 T0,oM 6 T1,oK 7 (.call 143 [T5,T6]),oQ 8 (.bin .geq T7 (cI 0)),oM 4 T8] [4])
.ret))
theorem fok94:FOK Tryz.prog 94 (9,ic94,[(.t 4)]):=af6 [] Tryz.func94
def ic95:IC :=
(.seq
(.reg 0 [oM 2 (.c .aa1)] [0])
(.seq
(.seq
(.reg 1 [oM 3 T0,oQ 4 (.aw3 (.slice 72) false T3)] [0,4])
(.cond T4
(.seq
(.reg 2 [oM 2 (.c .aa1)] [2])
.ret)
.skip))
(.seq
(.reg 3 [oK 5 (.bsl 6 0 [(zU 0),(.str []),(zU 0),(zI 0),(.str []),(.str [])] []),oM 6 T0,oK 7 (.app 6 T5 T6),oM 2 T7] [2])
.ret)))
theorem fok95:FOK Tryz.prog 95 (8,ic95,[(.t 2)]):=af6 [] Tryz.func95
def ic96:IC :=
(.seq
(.reg 0 [oM 2 (.c .aa1)] [0])
(.seq
(.seq
(.reg 1 [oM 3 T0,oQ 4 (.aw3 (.slice 77) false T3)] [0,4])
(.cond T4
(.seq
(.reg 2 [oM 2 (.c .aa1)] [2])
.ret)
.skip))
(.seq
(.reg 3 [oK 5 (.bsl 2 0 [(zU 0),(zI 0)] []),oM 6 T0,oK 7 (.app 2 T5 T6),oM 2 T7] [2])
.ret)))
theorem fok96:FOK Tryz.prog 96 (8,ic96,[(.t 2)]):=af6 [] Tryz.func96
def ic97:IC :=
(.seq
(.reg 0 [oM 4 (cB false)] [0,1])
(.seq
(.reg 1 [oM 5 T1,oQ 6 (.bin .geq T5 (cI 0)),oM 7 T6,gQ 8 7 true (.mov T1),gQ 9 7 true (.mov T0),gQ 10 7 true (.len 0 T9),gQ 11 7 true (.bin .lss T8 T10),oQ 12 (.pick T7 T11 (cB false)),oM 4 T12] [4])
.ret))
theorem fok97:FOK Tryz.prog 97 (13,ic97,[(.t 4)]):=af6 [] Tryz.func97
def ic98:IC :=
(.seq
(.reg 0 [oM 2 (cB false)] [0])
(.seq
(.seq
(.reg 1 [oM 4 T0,oQ 5 (.len 1 T4),oQ 6 (.bin .lss T5 (cI 1)),oM 7 T6,gQ 8 7 false (.mov T0),gQ 9 7 false (.len 1 T8),gQ 10 7 false (.bin .gtr T9 (cI 64)),oQ 11 (.pick T7 (cB true) T10),oM 12 T11,gQ 13 12 false (.mov T0),gQ 14 12 false (.bin .eql T13 (.c (.str [97,110,100]))),oQ 15 (.pick T12 (cB true) T14),oM 16 T15,gQ 17 16 false (.mov T0),gQ 18 16 false (.bin .eql T17 (.c (.str [111,114]))),oQ 19 (.pick T16 (cB true) T18),oM 20 T19,gQ 21 20 false (.mov T0),gQ 22 20 false (.bin .eql T21 (.c (.str [105,102]))),oQ 23 (.pick T20 (cB true) T22),oM 24 T23,gQ 25 24 false (.mov T0),gQ 26 24 false (.bin .eql T25 (.c (.str [101,108,115,101]))),oQ 27 (.pick T24 (cB true) T26),oM 28 T27,gQ 29 28 false (.mov T0),gQ 30 28 false (.bin .eql T29 (.c (.str [117,110,108,101,115,115]))),oQ 31 (.pick T28 (cB true) T30),oM 32 T31,gQ 33 32 false (.mov T0),gQ 34 32 false (.bin .eql T33 (.c (.str [119,105,116,104]))),oQ 35 (.pick T32 (cB true) T34),oM 36 T35,gQ 37 36 false (.mov T0),gQ 38 36 false (.bin .eql T37 (.c (.str [119,105,116,104,111,117,116]))),oQ 39 (.pick T36 (cB true) T38)] [0,39])
(.cond T39
(.seq
(.reg 2 [oM 2 (cB false)] [2])
.ret)
.skip))
(.seq
(.seq
(.reg 3 [oM 3 (cI 0)] [0,3])
(.block 0
(.loop
(.seq
(.seq
(.reg 4 [oM 40 T3,oM 41 T0,oQ 42 (.len 1 T41),oQ 43 (.bin .lss T40 T42)] [0,3,43])
(.cond T43
.skip
(.exit 0)))
(.seq
(.block 1
(.seq
(.reg 6 [oM 46 T0,oM 47 T3,oQ 48 (.dl2 T46 T47),oK 49 (.call 144 [T48]),oQ 50 (.not T49)] [0,3,50])
(.cond T50
(.seq
(.reg 7 [oM 2 (cB false)] [2])
.ret)
.skip)))
(.reg 5 [oM 44 T3,oQ 45 (.bin .add T44 (cI 1)),oM 3 T45] [0,3]))))))
(.seq
(.reg 8 [oM 2 (cB true)] [2])
.ret))))
theorem fok98:FOK Tryz.prog 98 (51,ic98,[(.t 2)]):=af6 [] Tryz.func98
def ic99:IC :=
(.seq
(.reg 0 [oM 2 (cB false)] [0])
(.seq
(.reg 1 [oM 3 T0,oQ 4 (.bin .eql T3 (.c (zU 0))),oM 5 T4,gQ 6 5 false (.mov T0),gQ 7 5 false (.bin .eql T6 (.c (zU 1))),oQ 8 (.pick T5 (cB true) T7),oM 9 T8,gQ 10 9 false (.mov T0),gQ 11 9 false (.bin .eql T10 (.c (zU 2))),oQ 12 (.pick T9 (cB true) T11),oM 13 T12,gQ 14 13 false (.mov T0),gQ 15 13 false (.bin .eql T14 (.c (zU 3))),oQ 16 (.pick T13 (cB true) T15),oM 17 T16,gQ 18 17 false (.mov T0),gQ 19 17 false (.bin .eql T18 (.c (zU 4))),oQ 20 (.pick T17 (cB true) T19),oM 21 T20,gQ 22 21 false (.mov T0),gQ 23 21 false (.bin .eql T22 (.c (zU 6))),oQ 24 (.pick T21 (cB true) T23),oM 2 T24] [2])
.ret))
theorem fok99:FOK Tryz.prog 99 (25,ic99,[(.t 2)]):=af6 [] Tryz.func99
def ic100:IC :=
(.seq
(.reg 0 [oM 2 (cB false)] [0])
(.seq
(.reg 1 [oM 3 T0,oK 4 (.call 98 [T3]),oM 5 T4,gQ 6 5 true (.mov T0),gQ 7 5 true (.dl2 T6 (cI 0)),gQ 8 5 true (.bin .eql T7 (.c (zU 47))),oQ 9 (.pick T5 T8 (cB false)),oM 2 T9] [2])
.ret))
theorem fok100:FOK Tryz.prog 100 (10,ic100,[(.t 2)]):=af6 [] Tryz.func100
def ic101:IC :=
(.seq
(.reg 0 [oK 2 (.ai8 T0),oM 4 (cB false)] [1,2])
(.seq
(.seq
(.reg 1 [oQ 5 (.aa6 0 T2),oQ 6 (.load none T5),oQ 7 (.bin .lss T6 (cI 0)),oM 8 T7,gQ 9 8 false (.aa6 0 T2),gQ 10 8 false (.load none T9),gQ 11 8 false (.bin .gtr T10 (cI 2147483647)),oQ 12 (.pick T8 (cB true) T11),oM 13 T12,gQ 14 13 false (.aa6 1 T2),gQ 15 13 false (.load none T14),gK 16 13 false (.call 145 [T15]),gQ 17 13 false (.not T16),oQ 18 (.pick T13 (cB true) T17)] [1,2,18])
(.cond T18
(.seq
(.reg 2 [oM 4 (cB false)] [4])
.ret)
.skip))
(.seq
(.seq
(.reg 3 [oQ 19 (.aa6 2 T2),oQ 20 (.load none T19),oQ 21 (.bin .eql T20 (.c (.str [])))] [1,2,21])
(.cond T21
(.seq
(.reg 4 [oM 22 T1,oM 4 T22] [4])
.ret)
.skip))
(.seq
(.reg 5 [oQ 23 (.aa6 2 T2),oQ 24 (.load none T23),oK 25 (.call 145 [T24]),oM 4 T25] [4])
.ret))))
theorem fok101:FOK Tryz.prog 101 (26,ic101,[(.t 4)]):=af6 [1000002] Tryz.func101
def ic102:IC :=
(.seq
(.reg 0 [oM 4 (cB false)] [0,1])
(.seq
(.reg 1 [oM 5 T0,oM 6 T1,oK 7 (.call 146 [T5,T6]),oQ 8 (.bin .geq T7 (cI 0)),oM 4 T8] [4])
.ret))
theorem fok102:FOK Tryz.prog 102 (9,ic102,[(.t 4)]):=af6 [] Tryz.func102
def ic103:IC :=
(.seq
(.reg 0 [oK 2 (.ai8 T0),oM 3 (cB false)] [1,2])
(.seq
(.reg 1 [oQ 4 (.load (some 15) T1),oQ 5 (.load (some 5) T2),oK 6 (.call 104 [T4,T5]),oM 3 T6] [3])
.ret))
theorem fok103:FOK Tryz.prog 103 (7,ic103,[(.t 3)]):=af6 [1000002] Tryz.func103
def ic104:IC :=
(.seq
(.reg 0 [oK 2 (.ai8 T0),oK 3 (.ai8 T1),oM 4 (cB false)] [2,3])
(.seq
(.ar4 1 [oQ 5 (.load (some 15) T2),oK 6 (.af1 148 [T5]),oQ 7 (.load (some 5) T3),oK 8 (.af1 147 [T6,T7]),oM 4 T8] false [4])
.ret))
theorem fok104:FOK Tryz.prog 104 (9,ic104,[(.t 4)]):=af6 ([1000002,1000003]++[147,148]) Tryz.func104 (by kernel_rfl) (by kernel_rfl) (by kernel_rfl) (by kernel_rfl)
def ic105:IC :=
(.seq
(.reg 0 [oK 2 (.ai8 T0),oK 3 (.ai8 T1),oM 4 (cB false)] [2,3])
(.seq
(.ar4 1 [oQ 5 (.aa6 0 T3),oQ 6 (.load none T5),oQ 7 (.aa6 0 T2),oQ 8 (.load none T7),oQ 9 (.bin .eql T6 T8),oM 10 T9,gQ 11 10 true (.load (some 15) T2),gK 12 10 true (.af1 150 [T11]),gQ 13 10 true (.load (some 5) T3),gK 14 10 true (.af1 149 [T12,T13]),oQ 15 (.pick T10 T14 (cB false)),oM 4 T15] false [4])
.ret))
theorem fok105:FOK Tryz.prog 105 (16,ic105,[(.t 4)]):=af6 ([1000002,1000003]++[149,150]) Tryz.func105 (by kernel_rfl) (by kernel_rfl) (by kernel_rfl) (by kernel_rfl)
def ic106:IC :=
(.seq
(.reg 0 [oM 4 (cI 0)] [0,1])
(.seq
(.seq
(.reg 1 [oM 5 T0,oK 6 (.call 86 [T5]),oQ 7 (.not T6),oM 8 T7,gQ 9 8 false (.mov T1),gK 10 8 false (.call 86 [T9]),gQ 11 8 false (.not T10),oQ 12 (.pick T8 (cB true) T11)] [0,1,12])
(.cond T12
(.seq
(.reg 2 [oM 4 (cI 0)] [4])
.ret)
.skip))
(.seq
(.reg 3 [oK 13 (.call 151 []),oM 14 T0,oQ 15 (.idx (some 5) 5 5 T13 T14),oM 16 T1,oQ 17 (.idx none 5 1 T15 T16),oM 4 T17] [4])
.ret)))
theorem fok106:FOK Tryz.prog 106 (18,ic106,[(.t 4)]):=af6 [] Tryz.func106
def ic107:IC :=
(.seq
(.reg 0 [oM 4 (cI 0)] [0,1])
(.seq
(.seq
(.reg 1 [oM 5 T0,oK 6 (.call 46 [T5]),oQ 7 (.not T6)] [0,1,7])
(.cond T7
(.seq
(.reg 2 [oM 4 (cI 0)] [4])
.ret)
.skip))
(.seq
(.seq
(.reg 3 [oM 8 T1,oM 9 T0,oQ 10 (.bin .eql T8 T9)] [0,1,10])
(.cond T10
(.seq
(.reg 4 [oM 4 (cI 1)] [4])
.ret)
.skip))
(.seq
(.seq
(.reg 5 [oM 11 T1,oQ 12 (.bin .eql T11 (.c (zU 1)))] [0,1,12])
(.cond T12
(.seq
(.reg 6 [oM 4 (cI 2)] [4])
.ret)
.skip))
(.seq
(.seq
(.reg 7 [oM 13 T0,oQ 14 (.bin .eql T13 (.c (zU 2))),oM 15 T14,gQ 16 15 true (.mov T1),gQ 17 15 true (.bin .eql T16 (.c (zU 3))),oQ 18 (.pick T15 T17 (cB false))] [18])
(.cond T18
(.seq
(.reg 8 [oM 4 (cI 3)] [4])
.ret)
.skip))
(.seq
(.reg 9 [oM 4 (cI 0)] [4])
.ret))))))
theorem fok107:FOK Tryz.prog 107 (19,ic107,[(.t 4)]):=af6 [] Tryz.func107
def ic108:IC :=
(.seq
(.reg 0 [oM 2 (cI 0)] [0])
(.seq
(.seq
(.reg 1 [oM 6 T0,oQ 7 (.len 0 T6),oM 8 (cI 0)] [6,7,8])
(.block 0
(.loop
(.seq
(.reg 2 [oQ 9 (.bin .lss T8 T7)] [6,7,8,9])
(.seq
(.cond T9
.skip
(.exit 0))
(.seq
(.block 1
(.seq
(.reg 3 [oQ 10 (.ac8 1 T6 T8),oQ 11 (.load none T10),oM 4 T11] [4,6,7,8])
(.seq
(.reg 4 [oM 12 T4,oK 13 (.an1 T12 []),oM 5 T13] [5,6,7,8])
(.seq
(.reg 5 [oM 14 T5,oQ 15 (.bin .neq T14 (cI 0))] [5,6,7,8,15])
(.cond T15
(.seq
(.reg 6 [oM 16 T5,oM 2 T16] [2])
.ret)
.skip)))))
(.reg 7 [oQ 17 (.bin .add T8 (cI 1)),oM 8 T17] [6,7,8])))))))
(.seq
(.reg 8 [oM 2 (cI 0)] [2])
.ret)))
theorem fok108:FOK Tryz.prog 108 (18,ic108,[(.t 2)]):=af6 [] Tryz.func108
def ic109:IC :=
(.seq
(.reg 0 [oM 2 (cI 0)] [0,1])
(.seq
(.reg 1 [oQ 3 (.aa6 0 T0),oQ 4 (.load none T3),oQ 5 (.aa6 0 T1),oQ 6 (.load none T5),oK 7 (.call 110 [T4,T6]),oM 2 T7] [2])
.ret))
theorem fok109:FOK Tryz.prog 109 (8,ic109,[(.t 2)]):=af6 [] Tryz.func109
def ic110:IC :=
(.seq
(.reg 0 [oM 4 (cI 0)] [0,1])
(.seq
(.reg 1 [oM 7 T0,oK 8 (.call 152 [T7]),oM 5 T8] [0,1,5])
(.seq
(.reg 2 [oM 9 T1,oK 10 (.call 152 [T9]),oM 6 T10] [0,1,5,6])
(.seq
(.seq
(.reg 3 [oM 11 T5] [0,1,6,11])
(.cond T11
(.seq
(.seq
(.reg 4 [oM 12 T6] [12])
(.cond T12
(.seq
(.reg 5 [oM 4 (cI 0)] [4])
.ret)
.skip))
(.seq
(.reg 6 [oM 4 (cI (-1))] [4])
.ret))
.skip))
(.seq
(.seq
(.reg 7 [oM 13 T6] [0,1,13])
(.cond T13
(.seq
(.reg 8 [oM 4 (cI 1)] [4])
.ret)
.skip))
(.seq
(.seq
(.reg 9 [oM 14 T0,oM 15 T1,oQ 16 (.bin .lss T14 T15)] [0,1,16])
(.cond T16
(.seq
(.reg 10 [oM 4 (cI (-1))] [4])
.ret)
.skip))
(.seq
(.seq
(.reg 11 [oM 17 T0,oM 18 T1,oQ 19 (.bin .gtr T17 T18)] [19])
(.cond T19
(.seq
(.reg 12 [oM 4 (cI 1)] [4])
.ret)
.skip))
(.seq
(.reg 13 [oM 4 (cI 0)] [4])
.ret))))))))
theorem fok110:FOK Tryz.prog 110 (20,ic110,[(.t 4)]):=af6 [] Tryz.func110
def ic111:IC :=
(.seq
(.reg 0 [oM 2 (cI 0)] [0,1])
(.seq
(.reg 1 [oQ 3 (.aa6 1 T0),oQ 4 (.load none T3),oQ 5 (.aa6 1 T1),oQ 6 (.load none T5),oK 7 (.call 112 [T4,T6]),oM 2 T7] [2])
.ret))
theorem fok111:FOK Tryz.prog 111 (8,ic111,[(.t 2)]):=af6 [] Tryz.func111
def ic112:IC :=
(.seq
(.reg 0 [oM 4 (cI 0)] [0,1])
(.seq
(.reg 1 [oM 9 T0,oK 10 (.call 153 [T9]),oQ 11 (.bld [(zU 0),(.str [])] [⟨0,⟨1,(.c (zU 2))⟩⟩]),oK 12 (.bb4 2 1 [(zU 0),(.str [])] [⟨0,⟨2,T11⟩⟩]),oK 13 (.app 2 T10 T12),oM 14 T1,oK 15 (.call 153 [T14]),oQ 16 (.bld [(zU 0),(.str [])] [⟨0,⟨1,(.c (zU 2))⟩⟩]),oK 17 (.bb4 2 1 [(zU 0),(.str [])] [⟨0,⟨2,T16⟩⟩]),oK 18 (.app 2 T15 T17),oM 5 T13,oM 6 T18] [5,6])
(.seq
(.seq
(.reg 2 [oM 19 T5,oQ 20 (.len 0 T19),oM 21 T6,oQ 22 (.len 0 T21),oQ 23 (.mm false T20 T22),oM 24 (cI 0)] [5,6,23,24])
(.block 0
(.loop
(.seq
(.reg 3 [oQ 25 (.bin .lss T24 T23)] [5,6,23,24,25])
(.seq
(.cond T25
.skip
(.exit 0))
(.seq
(.block 1
(.seq
(.reg 4 [oM 26 T24,oM 7 T26] [5,6,7,23,24])
(.seq
(.ar4 5 [oM 27 T5,oM 28 T7,oQ 29 (.ac8 2 T27 T28),oQ 30 (.load (some 2) T29),oM 31 T6,oM 32 T7,oQ 33 (.ac8 2 T31 T32),oQ 34 (.load (some 2) T33),oK 35 (.call 154 [T30,T34]),oM 8 T35] false [5,6,8,23,24])
(.seq
(.reg 6 [oM 36 T8,oQ 37 (.bin .neq T36 (cI 0))] [5,6,8,23,24,37])
(.cond T37
(.seq
(.reg 7 [oM 38 T8,oM 4 T38] [4])
.ret)
.skip)))))
(.reg 8 [oQ 39 (.bin .add T24 (cI 1)),oM 24 T39] [5,6,23,24])))))))
(.seq
(.reg 9 [oM 4 (cI 0)] [4])
.ret))))
theorem fok112:FOK Tryz.prog 112 (40,ic112,[(.t 4)]):=af6 [1000012,1000017] Tryz.func112
def ic113:IC :=
(.seq
(.reg 0 [oM 2 (cI 0)] [0,1])
(.seq
(.seq
(.reg 1 [oQ 3 (.aa6 2 T0),oQ 4 (.load none T3),oQ 5 (.bin .eql T4 (.c (.str []))),oM 6 T5,gQ 7 6 false (.aa6 2 T1),gQ 8 6 false (.load none T7),gQ 9 6 false (.bin .eql T8 (.c (.str []))),oQ 10 (.pick T6 (cB true) T9)] [0,1,10])
(.cond T10
(.seq
(.reg 2 [oM 2 (cI 0)] [2])
.ret)
.skip))
(.seq
(.reg 3 [oQ 11 (.aa6 2 T0),oQ 12 (.load none T11),oQ 13 (.aa6 2 T1),oQ 14 (.load none T13),oK 15 (.call 112 [T12,T14]),oM 2 T15] [2])
.ret)))
theorem fok113:FOK Tryz.prog 113 (16,ic113,[(.t 2)]):=af6 [] Tryz.func113
def ic114:IC :=
(.seq
(.reg 0 [oM 4 (cI 0)] [0,1])
(.seq
(.reg 1 [oM 8 T0,oK 9 (.call 155 [T8]),oM 10 T1,oK 11 (.call 155 [T10]),oM 5 T9,oM 6 T11] [5,6])
(.seq
(.seq
(.reg 2 [oM 7 (cI 0)] [5,6,7])
(.block 0
(.loop
(.seq
(.seq
(.reg 3 [oM 12 T7,oM 13 T5,oQ 14 (.len 0 T13),oQ 15 (.bin .lss T12 T14),oM 16 T15,gQ 17 16 false (.mov T7),gQ 18 16 false (.mov T6),gQ 19 16 false (.len 0 T18),gQ 20 16 false (.bin .lss T17 T19),oQ 21 (.pick T16 (cB true) T20)] [5,6,7,21])
(.cond T21
.skip
(.exit 0)))
(.seq
(.block 1
(.seq
(.seq
(.reg 5 [oM 24 T5,oM 25 T7,oK 26 (.call 157 [T24,T25]),oM 27 T6,oM 28 T7,oK 29 (.call 157 [T27,T28]),oK 30 (.call 156 [T26,T29])] [5,6,7,30])
(.cond T30
(.seq
(.reg 6 [oM 4 (cI (-1))] [4])
.ret)
.skip))
(.seq
(.reg 7 [oM 31 T6,oM 32 T7,oK 33 (.call 157 [T31,T32]),oM 34 T5,oM 35 T7,oK 36 (.call 157 [T34,T35]),oK 37 (.call 156 [T33,T36])] [5,6,7,37])
(.cond T37
(.seq
(.reg 8 [oM 4 (cI 1)] [4])
.ret)
.skip))))
(.reg 4 [oM 22 T7,oQ 23 (.bin .add T22 (cI 1)),oM 7 T23] [5,6,7]))))))
(.seq
(.reg 9 [oM 4 (cI 0)] [4])
.ret))))
theorem fok114:FOK Tryz.prog 114 (38,ic114,[(.t 4)]):=af6 [] Tryz.func114
def ic115:IC :=
(.seq
(.reg 0 [oK 3 (.ai8 T1),oM 4 (cB false)] [0,3])
(.seq
(.reg 1 [oM 5 T0,oQ 6 (.load (some 2) T3),oK 7 (.call 158 [T5,T6]),oQ 8 (.bin .geq T7 (cI 0)),oM 4 T8] [4])
.ret))
theorem fok115:FOK Tryz.prog 115 (9,ic115,[(.t 4)]):=af6 [1000003] Tryz.func115
def ic118:IC :=
(.seq
(.reg 0 [oM 4 (cB false)] [0,1])
(.seq
(.seq
(.reg 1 [oM 5 T0,oK 6 (.call 170 [T5]),oQ 7 (.bin .eql T6 (.c (.str []))),oM 8 T7,gQ 9 8 false (.mov T1),gK 10 8 false (.call 170 [T9]),gQ 11 8 false (.bin .eql T10 (.c (.str []))),oQ 12 (.pick T8 (cB true) T11)] [0,1,12])
(.cond T12
(.seq
(.reg 2 [oM 4 (cB false)] [4])
.ret)
.skip))
(.seq
(.reg 3 [oM 13 T0,oM 14 T1,oQ 15 (.bin .eql T13 T14),oM 16 T15,gQ 17 16 false (.mov T0),gQ 18 16 false (.bin .eql T17 (.c (zU 1))),oQ 19 (.pick T16 (cB true) T18),oM 20 T19,gQ 21 20 false (.mov T1),gQ 22 20 false (.bin .eql T21 (.c (zU 1))),oQ 23 (.pick T20 (cB true) T22),oM 4 T23] [4])
.ret)))
theorem fok118:FOK Tryz.prog 118 (24,ic118,[(.t 4)]):=af6 [] Tryz.func118
def ic119:IC :=
(.seq
(.reg 0 [oM 4 (cI 0)] [0,1])
(.seq
(.seq
(.reg 1 [oM 6 T0,oQ 7 (.len 0 T6),oM 8 (cI 0)] [0,1,7,8])
(.block 0
(.loop
(.seq
(.reg 2 [oQ 9 (.bin .lss T8 T7)] [0,1,7,8,9])
(.seq
(.cond T9
.skip
(.exit 0))
(.seq
(.block 1
(.seq
(.reg 3 [oM 10 T8,oM 5 T10] [0,1,5,7,8])
(.seq
(.reg 4 [oM 11 T1,oM 12 T0,oM 13 T5,oQ 14 (.ac8 1 T12 T13),oQ 15 (.load none T14),oK 16 (.an1 T11 [T15])] [0,1,5,7,8,16])
(.cond T16
(.seq
(.reg 5 [oM 17 T5,oM 4 T17] [4])
.ret)
.skip))))
(.reg 6 [oQ 18 (.bin .add T8 (cI 1)),oM 8 T18] [0,1,7,8])))))))
(.seq
(.reg 7 [oM 4 (cI (-1))] [4])
.ret)))
theorem fok119:FOK Tryz.prog 119 (19,ic119,[(.t 4)]):=af6 [] Tryz.func119
def ic120:IC :=
(.seq
(.reg 0 [oK 3 (.ai8 T0),oM 5 (cB false)] [2,3])
(.seq
(.reg 1 [oQ 6 (.load (some 15) T3),oQ 7 (.load (some 5) T2),oK 8 (.call 121 [T6,T7]),oM 5 T8] [5])
.ret))
theorem fok120:FOK Tryz.prog 120 (9,ic120,[(.t 5)]):=af6 [1000003] Tryz.func120
def ic121:IC :=
(.seq
(.reg 0 [oK 2 (.ai8 T0),oK 3 (.ai8 T1),oM 4 (cB false)] [2,3])
(.seq
(.seq
(.reg 1 [oQ 5 (.load (some 15) T2),oQ 6 (.load (some 5) T3),oK 7 (.call 104 [T5,T6]),oM 8 T7,gQ 9 8 false (.aa6 6 T2),gQ 10 8 false (.load none T9),gQ 11 8 false (.mkf 171 [] [T3]),gK 12 8 false (.call 102 [T10,T11]),oQ 13 (.pick T8 (cB true) T12)] [2,3,13])
(.cond T13
(.seq
(.reg 2 [oM 4 (cB true)] [4])
.ret)
.skip))
(.seq
(.reg 3 [oQ 14 (.aa6 1 T3),oQ 15 (.load none T14),oQ 16 (.bin .eql T15 (.c (zU 0))),oM 17 T16,gQ 18 17 true (.aa6 14 T2),gQ 19 17 true (.load none T18),gQ 20 17 true (.aa6 0 T3),gQ 21 17 true (.load none T20),gK 22 17 true (.call 172 [T19,T21]),oQ 23 (.pick T17 T22 (cB false)),oM 4 T23] [4])
.ret)))
theorem fok121:FOK Tryz.prog 121 (24,ic121,[(.t 4)]):=af6 [1000002,1000003] Tryz.func121
def ic122:IC :=
(.seq
(.reg 0 [oK 3 (.ai8 T0),oM 5 (cB false)] [2,3])
(.seq
(.reg 1 [oQ 6 (.load (some 15) T3),oQ 7 (.load (some 5) T2),oK 8 (.call 104 [T6,T7]),oM 5 T8] [5])
.ret))
theorem fok122:FOK Tryz.prog 122 (9,ic122,[(.t 5)]):=af6 [1000003] Tryz.func122
def ic123:IC :=
(.seq
(.reg 0 [oK 2 (.ai8 T0),oK 3 (.ai8 T1),oM 4 (cB false)] [2,3])
(.seq
(.seq
(.reg 1 [oQ 7 (.load (some 15) T2),oQ 8 (.load (some 5) T3),oK 9 (.call 105 [T7,T8])] [2,3,9])
(.cond T9
(.seq
(.reg 2 [oM 4 (cB true)] [4])
.ret)
.skip))
(.seq
(.seq
(.reg 3 [oM 5 (cI 0)] [2,3,5])
(.block 0
(.loop
(.seq
(.seq
(.reg 4 [oM 10 T5,oQ 11 (.aa6 6 T2),oQ 12 (.load none T11),oQ 13 (.len 0 T12),oQ 14 (.bin .lss T10 T13)] [2,3,5,14])
(.cond T14
.skip
(.exit 0)))
(.seq
(.block 1
(.seq
(.ar4 6 [oQ 17 (.aa6 6 T2),oQ 18 (.load none T17),oM 19 T5,oQ 20 (.ac8 5 T18 T19),oQ 21 (.aa6 0 T20),oQ 22 (.load none T21),oQ 23 (.aa6 0 T3),oQ 24 (.load none T23),oQ 25 (.bin .eql T22 T24),oM 26 T25,gQ 27 26 true (.aa6 6 T2),gQ 28 26 true (.load none T27),gQ 29 26 true (.mov T5),gQ 30 26 true (.ac8 5 T28 T29),gQ 31 26 true (.load (some 5) T30),gQ 32 26 true (.load (some 5) T3),gK 33 26 true (.call 149 [T31,T32]),oQ 34 (.pick T26 T33 (cB false))] false [2,3,5,34])
(.cond T34
(.seq
(.reg 7 [oM 4 (cB true)] [4])
.ret)
.skip)))
(.reg 5 [oM 15 T5,oQ 16 (.bin .add T15 (cI 1)),oM 5 T16] [2,3,5]))))))
(.seq
(.seq
(.reg 8 [oM 6 (cI 0)] [2,3,6])
(.block 2
(.loop
(.seq
(.seq
(.reg 9 [oM 35 T6,oQ 36 (.aa6 14 T2),oQ 37 (.load none T36),oQ 38 (.len 0 T37),oQ 39 (.bin .lss T35 T38)] [2,3,6,39])
(.cond T39
.skip
(.exit 2)))
(.seq
(.block 3
(.seq
(.ar4 11 [oQ 42 (.aa6 1 T3),oQ 43 (.load none T42),oQ 44 (.bin .eql T43 (.c (zU 0))),oM 45 T44,gQ 46 45 true (.aa6 14 T2),gQ 47 45 true (.load none T46),gQ 48 45 true (.mov T6),gQ 49 45 true (.ac8 1 T47 T48),gQ 50 45 true (.load none T49),gQ 51 45 true (.aa6 0 T3),gQ 52 45 true (.load none T51),gQ 53 45 true (.bin .eql T50 T52),oQ 54 (.pick T45 T53 (cB false))] false [2,3,6,54])
(.cond T54
(.seq
(.reg 12 [oM 4 (cB true)] [4])
.ret)
.skip)))
(.reg 10 [oM 40 T6,oQ 41 (.bin .add T40 (cI 1)),oM 6 T41] [2,3,6]))))))
(.seq
(.reg 13 [oM 4 (cB false)] [4])
.ret)))))
theorem fok123:FOK Tryz.prog 123 (55,ic123,[(.t 4)]):=af6 [1000002,1000003] Tryz.func123
def ic124:IC :=
(.seq
(.reg 0 [oK 2 (.ai8 T0),oM 4 (cB false)] [1,2])
(.seq
(.reg 1 [oM 5 T1,oQ 6 (.mkf 173 [] [T2]),oK 7 (.call 125 [T5,T6]),oM 4 T7] [4])
.ret))
theorem fok124:FOK Tryz.prog 124 (8,ic124,[(.t 4)]):=af6 [1000002] Tryz.func124
def ic125:IC :=
(.seq
(.reg 0 [oM 4 (cB false)] [0,1])
(.seq
(.reg 1 [oM 5 T0,oM 6 T1,oK 7 (.call 119 [T5,T6]),oQ 8 (.bin .geq T7 (cI 0)),oM 4 T8] [4])
.ret))
theorem fok125:FOK Tryz.prog 125 (9,ic125,[(.t 4)]):=af6 [] Tryz.func125
def ic126:IC :=
(.seq
(.reg 0 [oM 4 (cB false)] [0,1,2])
(.seq
(.ar4 1 [oQ 5 (.load none T1),oQ 6 (.load none T2),oM 7 T0,oK 8 (.af1 25 [T6,T7]),oK 9 (.af1 124 [T5,T8]),oQ 10 (.not T9),oM 4 T10] false [4])
.ret))
theorem fok126:FOK Tryz.prog 126 (11,ic126,[(.t 4)]):=af6 ([]++[25,124]) Tryz.func126 (by kernel_rfl) (by kernel_rfl) (by kernel_rfl) (by kernel_rfl)
def ic127:IC :=
(.seq
(.reg 0 [oM 4 (cB false)] [0,1,2])
(.seq
(.reg 1 [oQ 6 (.load none T1),oM 7 T0,oK 8 (.call 27 [T6,T7]),oM 5 T8] [2,5])
(.seq
(.reg 2 [oM 9 T5,oQ 10 (.len 0 T9),oQ 11 (.bin .gtr T10 (cI 0)),oM 12 T11,gQ 13 12 true (.load none T2),gQ 14 12 true (.mov T5),gK 15 12 true (.call 124 [T13,T14]),gQ 16 12 true (.not T15),oQ 17 (.pick T12 T16 (cB false)),oM 4 T17] [4])
.ret)))
theorem fok127:FOK Tryz.prog 127 (18,ic127,[(.t 4)]):=af6 [] Tryz.func127
def ic128:IC :=
(.seq
(.reg 0 [oM 2 (.c (.str []))] [0])
(.seq
(.seq
(.reg 1 [oM 3 T0,oK 4 (.call 86 [T3]),oQ 5 (.not T4)] [0,5])
(.cond T5
(.seq
(.reg 2 [oM 2 (.c (.str []))] [2])
.ret)
.skip))
(.seq
(.reg 3 [oK 6 (.call 174 []),oM 7 T0,oQ 8 (.idx none 5 1 T6 T7),oM 2 T8] [2])
.ret)))
theorem fok128:FOK Tryz.prog 128 (9,ic128,[(.t 2)]):=af6 [] Tryz.func128
def ic129:IC :=
(.seq
(.reg 0 [oK 5 (.ai8 T2),oM 6 (cB false)] [0,1,5])
(.seq
(.reg 1 [oM 7 T0,oQ 8 (.len 0 T7),oM 9 T1,oQ 10 (.bin .leq T8 T9),oM 11 T10,gQ 12 11 true (.mov T0),gQ 13 11 true (.mkf 175 [] [T5]),gK 14 11 true (.call 102 [T12,T13]),gQ 15 11 true (.not T14),oQ 16 (.pick T11 T15 (cB false)),oM 6 T16] [6])
.ret))
theorem fok129:FOK Tryz.prog 129 (17,ic129,[(.t 6)]):=af6 [1000005] Tryz.func129
def ic130:IC :=
(.seq
(.reg 0 [oK 5 (.ai8 T2),oM 6 (cB false)] [0,1,5])
(.seq
(.reg 1 [oM 7 T0,oQ 8 (.len 0 T7),oM 9 T1,oQ 10 (.bin .leq T8 T9),oM 11 T10,gQ 12 11 true (.mov T0),gQ 13 11 true (.mkf 177 [] [T5]),gK 14 11 true (.call 176 [T12,T13]),gQ 15 11 true (.not T14),oQ 16 (.pick T11 T15 (cB false)),oM 6 T16] [6])
.ret))
theorem fok130:FOK Tryz.prog 130 (17,ic130,[(.t 6)]):=af6 [1000005] Tryz.func130
def ic131:IC :=
(.seq
(.reg 0 [oK 1 (.ai8 T0),oM 2 (.c .ad4)] [1])
(.seq
(.reg 1 [oQ 3 (.mkf 178 [] [T1]),oM 2 T3] [2])
.ret))
theorem fok131:FOK Tryz.prog 131 (4,ic131,[(.t 2)]):=af6 [1000001] Tryz.func131
def ic132:IC :=
(.seq
(.reg 0 [oK 5 (.ai8 T2),oM 6 (cB false)] [0,1,5])
(.seq
(.reg 1 [oM 7 T0,oQ 8 (.len 0 T7),oM 9 T1,oQ 10 (.bin .leq T8 T9),oM 11 T10,gQ 12 11 true (.mov T0),gQ 13 11 true (.mkf 180 [] [T5]),gK 14 11 true (.call 179 [T12,T13]),gQ 15 11 true (.not T14),oQ 16 (.pick T11 T15 (cB false)),oM 6 T16] [6])
.ret))
theorem fok132:FOK Tryz.prog 132 (17,ic132,[(.t 6)]):=af6 [1000005] Tryz.func132
def ic133:IC :=
(.seq
(.reg 0 [oK 2 (.ai8 T0),oM 3 (cB false)] [1,2])
(.seq
(.reg 1 [oQ 4 (.load (some 7) T2),oQ 5 (.load none T1),oK 6 (.call 134 [T4,T5]),oQ 7 (.bin .eql T6 (cI 0)),oM 3 T7] [3])
.ret))
theorem fok133:FOK Tryz.prog 133 (8,ic133,[(.t 3)]):=af6 [1000002] Tryz.func133
def ic134:IC :=
(.seq
(.reg 0 [oK 2 (.ai8 T0),oK 3 (.ai8 T1),oK 4 (.alloc [(zI 0)])] [2,3,4])
(.seq
(.block 0
(.seq
(.reg 1 [oQ 9 (.load none T3),oQ 10 (.bin .lss T9 (.c (zU 1))),oM 11 T10,gQ 12 11 false (.load none T3),gQ 13 11 false (.bin .gtr T12 (.c (zU 3))),oQ 14 (.pick T11 (cB true) T13),oM 8 T14] [2,3,4,8])
(.cond T8
(.seq
(.reg 2 [oN (.store 1 T4 (cI 1))] [4])
.ret)
(.seq
(.reg 3 [oQ 16 (.load (some 7) T2),oK 17 (.call 181 [T16]),oQ 18 (.bin .gtr T17 (cI 24)),oM 15 T18] [2,3,4,15])
(.cond T15
(.seq
(.reg 4 [oN (.store 1 T4 (cI 40))] [4])
.ret)
(.seq
(.reg 5 [oQ 20 (.load (some 7) T2),oK 21 (.call 182 [T20]),oQ 22 (.bin .gtr T21 (cI 8)),oM 19 T22] [2,3,4,19])
(.cond T19
(.seq
(.reg 6 [oN (.store 1 T4 (cI 21))] [4])
.ret)
.skip)))))))
(.seq
(.seq
(.reg 7 [oQ 23 (.load (some 7) T2),oK 24 (.call 183 [T23])] [3,4,24])
(.block 1
(.bn4 T24 [25,26]
(.seq
(.reg 8 [oK 5 (.alloc [(zU 0),(.str []),(zU 0),(zI 0),(.str []),(.str []),.aa1]),oN (.store 7 T5 T25)] [3,4,5,26])
(.reg 9 [oM 6 T26] [3,4,5,6]))
(.block 2
(.seq
(.reg 10 [oQ 27 (.aa6 0 T5),oQ 28 (.load none T27),oK 29 (.call 184 [T28]),oK 7 (.alloc [(zI 0),(zI 0),(.bool false),(zU 0)]),oN (.store 4 T7 T29)] [3,4,5,6,7])
(.block 3
(.seq
(.seq
(.reg 11 [oQ 31 (.aa6 3 T7),oQ 32 (.load none T31),oQ 33 (.load none T3),oQ 34 (.bin .lss T32 T33),oM 30 T34] [4,5,6,7,30])
(.cond T30
.skip
(.seq
(.reg 12 [oM 35 T6,oM 36 T35,gQ 37 36 true (.aa6 2 T7),gQ 38 36 true (.load none T37),gQ 39 36 true (.not T38),oQ 40 (.pick T36 T39 (cB false)),oM 30 T40] [4,5,7,30])
(.cond T30
.skip
(.seq
(.reg 13 [oQ 41 (.aa6 6 T5),oQ 42 (.load none T41),oQ 43 (.len 0 T42),oQ 44 (.aa6 0 T7),oQ 45 (.load none T44),oQ 46 (.bin .lss T43 T45),oM 30 T46] [4,5,7,30])
(.cond T30
.skip
(.reg 14 [oQ 47 (.aa6 6 T5),oQ 48 (.load none T47),oQ 49 (.len 0 T48),oQ 50 (.aa6 1 T7),oQ 51 (.load none T50),oQ 52 (.bin .gtr T49 T51),oM 30 T52] [4,5,30])))))))
(.cond T30
(.seq
(.reg 15 [oN (.store 1 T4 (cI 4))] [])
.ret)
(.seq
(.seq
(.reg 16 [oQ 54 (.aa6 0 T5),oQ 55 (.load none T54),oQ 56 (.bin .eql T55 (.c (zU 1))),oM 57 T56,gQ 58 57 true (.aa6 1 T5),gQ 59 57 true (.load (some 5) T58),gK 60 57 true (.call 38 [T59]),gQ 61 57 true (.not T60),oQ 62 (.pick T57 T61 (cB false)),oM 53 T62] [4,5,53])
(.cond T53
.skip
(.reg 17 [oQ 63 (.aa6 0 T5),oQ 64 (.load none T63),oQ 65 (.bin .neq T64 (.c (zU 1))),oM 66 T65,gQ 67 66 true (.aa6 1 T5),gQ 68 66 true (.load (some 5) T67),gQ 69 66 true (.bld [(.str []),(zU 0),(zI 0),(.str []),(.str [])] []),gQ 70 66 true (.eqs [2,1,1,2,2] true true T68 T69),oQ 71 (.pick T66 T70 (cB false)),oM 53 T71] [4,53])))
(.cond T53
(.seq
(.reg 18 [oN (.store 1 T4 (cI 4))] [])
.ret)
.skip))))))))))
(.seq
(.reg 19 [oN (.store 1 T4 (cI 0))] [4])
.ret))))
theorem fok134:FOK Tryz.prog 134 (72,ic134,[(.cell none 4)]):=af6 [1000002,1000003] Tryz.func134
def ic135:IC :=
(.seq
(.reg 0 [oM 2 (.c .aa1)] [0])
(.seq
(.seq
(.reg 1 [oM 3 T0,oQ 4 (.aw3 (.slice 70) false T3)] [0,4])
(.cond T4
(.seq
(.reg 2 [oM 2 (.c .aa1)] [2])
.ret)
.skip))
(.seq
(.reg 3 [oK 5 (.bsl 5 0 [(.str []),(zU 0),(zI 0),(.str []),(.str [])] []),oM 6 T0,oK 7 (.app 5 T5 T6),oM 2 T7] [2])
.ret)))
theorem fok135:FOK Tryz.prog 135 (8,ic135,[(.t 2)]):=af6 [] Tryz.func135
def ic136:IC :=
(.seq
(.reg 0 [oM 2 (.c .aa1)] [0])
(.seq
(.seq
(.reg 1 [oM 3 T0,oQ 4 (.aw3 (.slice 9) false T3)] [0,4])
(.cond T4
(.seq
(.reg 2 [oM 2 (.c .aa1)] [2])
.ret)
.skip))
(.seq
(.reg 3 [oK 5 (.bsl 1 0 [(.str [])] []),oM 6 T0,oK 7 (.app 1 T5 T6),oM 2 T7] [2])
.ret)))
theorem fok136:FOK Tryz.prog 136 (8,ic136,[(.t 2)]):=af6 [] Tryz.func136
def ic137:IC :=
(.seq
(.reg 0 [oM 2 (.c .aa1)] [0])
(.seq
(.seq
(.reg 1 [oM 3 T0,oQ 4 (.aw3 (.slice 135) false T3)] [0,4])
(.cond T4
(.seq
(.reg 2 [oM 2 (.c .aa1)] [2])
.ret)
.skip))
(.seq
(.reg 3 [oK 5 (.bsl 7 0 [(zU 0),(.str []),(zU 0),(zI 0),(.str []),(.str []),.aa1] []),oM 6 T0,oK 7 (.app 7 T5 T6),oM 2 T7] [2])
.ret)))
theorem fok137:FOK Tryz.prog 137 (8,ic137,[(.t 2)]):=af6 [] Tryz.func137
def ic138:IC :=
(.seq
(.reg 0 [oK 1 (.ai8 T0),oK 2 (.alloc [(zU 0),(.str []),(zU 0),(zI 0),(.str []),(.str []),.aa1])] [1,2])
(.seq
(.reg 1 [oQ 6 (.aa6 0 T1),oQ 7 (.load none T6),oQ 8 (.aa6 1 T1),oQ 9 (.load (some 5) T8),oQ 10 (.bld [(zU 0),(.str []),(zU 0),(zI 0),(.str []),(.str []),.aa1] [⟨0,⟨1,T7⟩⟩,⟨1,⟨5,T9⟩⟩]),oK 3 (.alloc [(zU 0),(.str []),(zU 0),(zI 0),(.str []),(.str []),.aa1]),oN (.store 7 T3 T10)] [1,2,3])
(.seq
(.seq
(.reg 2 [oQ 11 (.aa6 6 T1),oQ 12 (.load none T11),oQ 13 (.len 0 T12),oM 14 (cI 0)] [2,3,12,13,14])
(.block 0
(.loop
(.seq
(.reg 3 [oQ 15 (.bin .lss T14 T13)] [2,3,12,13,14,15])
(.seq
(.cond T15
.skip
(.exit 0))
(.seq
(.block 1
(.seq
(.reg 4 [oQ 16 (.ac8 7 T12 T14),oQ 17 (.load (some 7) T16),oK 5 (.alloc [(zU 0),(.str []),(zU 0),(zI 0),(.str []),(.str []),.aa1]),oN (.store 7 T5 T17)] [2,3,5,12,13,14])
(.ar4 5 [oQ 18 (.aa6 6 T3),oQ 19 (.load none T18),oQ 20 (.load (some 7) T5),oK 21 (.af1 138 [T20]),oK 22 (.bb4 7 1 [(zU 0),(.str []),(zU 0),(zI 0),(.str []),(.str []),.aa1] [⟨0,⟨7,T21⟩⟩]),oK 23 (.app 7 T19 T22),oQ 24 (.aa6 6 T3),oN (.store 1 T24 T23)] true [2,3,12,13,14])))
(.reg 6 [oQ 25 (.bin .add T14 (cI 1)),oM 14 T25] [2,3,12,13,14])))))))
(.seq
(.reg 7 [oQ 26 (.load (some 7) T3),oN (.store 7 T2 T26)] [2])
.ret))))
theorem fok138:FOK Tryz.prog 138 (27,ic138,[(.cell (some 7) 2)]):=af6 ([1000001,1000022]++hm7) Tryz.func138
def ic139:IC :=
(.seq
(.reg 0 [oM 4 (cI 0)] [0,1])
(.seq
(.reg 1 [oM 5 T0,oM 6 T1,oK 7 (.call 185 [T5,T6]),oM 4 T7] [4])
.ret))
theorem fok139:FOK Tryz.prog 139 (8,ic139,[(.t 4)]):=af6 [] Tryz.func139
def ic140:IC :=
(.seq
(.reg 0 [oM 2 (.c (.str []))] [0])
(.seq
(.seq
(.reg 1 [oQ 5 (.load none (.g 1)),oK 6 (.bc2 T5)] [0,6])
(.block 0
(.loop
(.seq
(.reg 2 [oK 7 (.cg5 T6),oQ 8 (.ext 0 T7)] [0,6,8])
(.seq
(.cond T8
.skip
(.exit 0))
(.block 1
(.seq
(.reg 3 [oK 9 (.fc1 T6),oQ 10 (.ext 0 T9),oQ 11 (.ext 1 T9),oM 3 T10,oM 4 T11] [0,3,4,6])
(.seq
(.reg 4 [oM 12 T4,oM 13 T0,oQ 14 (.bin .eql T12 T13)] [0,3,6,14])
(.cond T14
(.seq
(.reg 5 [oM 15 T3,oM 2 T15] [2])
.ret)
.skip)))))))))
(.seq
(.reg 6 [oM 2 (.c (.str []))] [2])
.ret)))
theorem fok140:FOK Tryz.prog 140 (16,ic140,[(.t 2)]):=af6 [] Tryz.func140
def ic141:IC :=
(.seq
(.reg 0 [oM 4 (cB false)] [0,1])
(.seq
(.reg 1 [oM 5 T0,oM 6 T1,oK 7 (.call 186 [T5,T6]),oM 4 T7] [4])
.ret))
theorem fok141:FOK Tryz.prog 141 (8,ic141,[(.t 4)]):=af6 [] Tryz.func141
def ic142:IC :=
(.seq
(.reg 0 [oM 2 (cB false)] [0])
(.seq
(.seq
(.reg 1 [oM 5 T0,oQ 6 (.bin .eql T5 (.c (.str []))),oM 7 T6,gQ 8 7 false (.mov T0),gQ 9 7 false (.len 1 T8),gQ 10 7 false (.bin .gtr T9 (cI 64)),oQ 11 (.pick T7 (cB true) T10)] [0,11])
(.cond T11
(.seq
(.reg 2 [oM 2 (cB false)] [2])
.ret)
.skip))
(.seq
(.seq
(.reg 3 [oM 12 T0,oQ 13 (.len 1 T12),oM 14 (cI 0)] [0,13,14])
(.block 0
(.loop
(.seq
(.reg 4 [oQ 15 (.bin .lss T14 T13)] [0,13,14,15])
(.seq
(.cond T15
.skip
(.exit 0))
(.seq
(.block 1
(.seq
(.reg 5 [oM 16 T14,oM 3 T16] [0,3,13,14])
(.seq
(.reg 6 [oM 17 T0,oM 18 T3,oQ 19 (.dl2 T17 T18),oM 4 T19] [0,4,13,14])
(.block 2
(.seq
(.seq
(.reg 8 [oM 21 T4,oQ 22 (.bin .geq T21 (.c (zU 97))),oM 23 T22,gQ 24 23 true (.mov T4),gQ 25 23 true (.bin .leq T24 (.c (zU 122))),oQ 26 (.pick T23 T25 (cB false)),oM 20 T26] [0,4,13,14,20])
(.cond T20
.skip
(.seq
(.reg 9 [oM 27 T4,oQ 28 (.bin .geq T27 (.c (zU 65))),oM 29 T28,gQ 30 29 true (.mov T4),gQ 31 29 true (.bin .leq T30 (.c (zU 90))),oQ 32 (.pick T29 T31 (cB false)),oM 20 T32] [0,4,13,14,20])
(.cond T20
.skip
(.seq
(.reg 10 [oM 33 T4,oQ 34 (.bin .geq T33 (.c (zU 48))),oM 35 T34,gQ 36 35 true (.mov T4),gQ 37 35 true (.bin .leq T36 (.c (zU 57))),oQ 38 (.pick T35 T37 (cB false)),oM 20 T38] [0,4,13,14,20])
(.cond T20
.skip
(.reg 11 [oM 39 T4,oK 40 (.call 139 [(.c (.str [46,95,43,126,94])),T39]),oQ 41 (.bin .geq T40 (cI 0)),oM 20 T41] [0,13,14,20])))))))
(.cond T20
.skip
(.seq
(.reg 7 [oM 2 (cB false)] [2])
.ret)))))))
(.reg 12 [oQ 42 (.bin .add T14 (cI 1)),oM 14 T42] [0,13,14])))))))
(.seq
(.reg 13 [oM 2 (cB true)] [2])
.ret))))
theorem fok142:FOK Tryz.prog 142 (43,ic142,[(.t 2)]):=af6 [] Tryz.func142
def ic143:IC :=
(.seq
(.reg 0 [oM 4 (cI 0)] [0,1])
(.seq
(.seq
(.reg 1 [oM 6 T0,oQ 7 (.len 0 T6),oM 8 (cI 0)] [0,1,7,8])
(.block 0
(.loop
(.seq
(.reg 2 [oQ 9 (.bin .lss T8 T7)] [0,1,7,8,9])
(.seq
(.cond T9
.skip
(.exit 0))
(.seq
(.block 1
(.seq
(.reg 3 [oM 10 T8,oM 5 T10] [0,1,5,7,8])
(.seq
(.reg 4 [oM 11 T1,oM 12 T0,oM 13 T5,oQ 14 (.ac8 1 T12 T13),oQ 15 (.load none T14),oQ 16 (.bin .eql T11 T15)] [0,1,5,7,8,16])
(.cond T16
(.seq
(.reg 5 [oM 17 T5,oM 4 T17] [4])
.ret)
.skip))))
(.reg 6 [oQ 18 (.bin .add T8 (cI 1)),oM 8 T18] [0,1,7,8])))))))
(.seq
(.reg 7 [oM 4 (cI (-1))] [4])
.ret)))
theorem fok143:FOK Tryz.prog 143 (19,ic143,[(.t 4)]):=af6 [] Tryz.func143
def ic144:IC :=
(.seq
(.reg 0 [oM 2 (cB false)] [0])
(.seq
(.seq
(.reg 1 [oM 3 T0,oQ 4 (.bin .geq T3 (.c (zU 97))),oM 5 T4,gQ 6 5 true (.mov T0),gQ 7 5 true (.bin .leq T6 (.c (zU 122))),oQ 8 (.pick T5 T7 (cB false)),oM 9 T8,gQ 10 9 false (.mov T0),gQ 11 9 false (.bin .geq T10 (.c (zU 65))),gQ 12 9 false (.mov T11),gQ 13 12 true (.mov T0),gQ 14 12 true (.bin .leq T13 (.c (zU 90))),gQ 15 9 false (.pick T12 T14 (cB false)),oQ 16 (.pick T9 (cB true) T15),oM 17 T16,gQ 18 17 false (.mov T0),gQ 19 17 false (.bin .geq T18 (.c (zU 48))),gQ 20 17 false (.mov T19),gQ 21 20 true (.mov T0),gQ 22 20 true (.bin .leq T21 (.c (zU 57))),gQ 23 17 false (.pick T20 T22 (cB false)),oQ 24 (.pick T17 (cB true) T23)] [0,24])
(.cond T24
(.seq
(.reg 2 [oM 2 (cB true)] [2])
.ret)
.skip))
(.seq
(.reg 3 [oM 25 T0,oQ 26 (.bin .eql T25 (.c (zU 46))),oM 27 T26,gQ 28 27 false (.mov T0),gQ 29 27 false (.bin .eql T28 (.c (zU 95))),oQ 30 (.pick T27 (cB true) T29),oM 31 T30,gQ 32 31 false (.mov T0),gQ 33 31 false (.bin .eql T32 (.c (zU 43))),oQ 34 (.pick T31 (cB true) T33),oM 35 T34,gQ 36 35 false (.mov T0),gQ 37 35 false (.bin .eql T36 (.c (zU 45))),oQ 38 (.pick T35 (cB true) T37),oM 39 T38,gQ 40 39 false (.mov T0),gQ 41 39 false (.bin .eql T40 (.c (zU 47))),oQ 42 (.pick T39 (cB true) T41),oM 43 T42,gQ 44 43 false (.mov T0),gQ 45 43 false (.bin .eql T44 (.c (zU 58))),oQ 46 (.pick T43 (cB true) T45),oM 47 T46,gQ 48 47 false (.mov T0),gQ 49 47 false (.bin .eql T48 (.c (zU 64))),oQ 50 (.pick T47 (cB true) T49),oM 51 T50,gQ 52 51 false (.mov T0),gQ 53 51 false (.bin .eql T52 (.c (zU 126))),oQ 54 (.pick T51 (cB true) T53),oM 55 T54,gQ 56 55 false (.mov T0),gQ 57 55 false (.bin .eql T56 (.c (zU 94))),oQ 58 (.pick T55 (cB true) T57),oM 2 T58] [2])
.ret)))
theorem fok144:FOK Tryz.prog 144 (59,ic144,[(.t 2)]):=af6 [] Tryz.func144
def ic145:IC :=
(.seq
(.reg 0 [oM 2 (cB false)] [0])
(.seq
(.seq
(.reg 1 [oM 3 (cI 0)] [0,3])
(.block 0
(.loop
(.seq
(.seq
(.reg 2 [oM 7 T3,oM 8 T0,oQ 9 (.len 1 T8),oQ 10 (.bin .lss T7 T9)] [0,3,10])
(.cond T10
.skip
(.exit 0)))
(.seq
(.block 1
(.seq
(.reg 4 [oM 13 T0,oM 14 T3,oQ 15 (.dl2 T13 T14),oM 4 T15] [0,3,4])
(.seq
(.reg 5 [oM 16 T4,oQ 17 (.bin .geq T16 (.c (zU 97))),oM 18 T17,gQ 19 18 true (.mov T4),gQ 20 18 true (.bin .leq T19 (.c (zU 122))),oQ 21 (.pick T18 T20 (cB false)),oM 22 T21,gQ 23 22 false (.mov T4),gQ 24 22 false (.bin .geq T23 (.c (zU 65))),gQ 25 22 false (.mov T24),gQ 26 25 true (.mov T4),gQ 27 25 true (.bin .leq T26 (.c (zU 90))),gQ 28 22 false (.pick T25 T27 (cB false)),oQ 29 (.pick T22 (cB true) T28),oM 5 T29] [0,3,4,5])
(.seq
(.reg 6 [oM 30 T4,oQ 31 (.bin .geq T30 (.c (zU 48))),oM 32 T31,gQ 33 32 true (.mov T4),gQ 34 32 true (.bin .leq T33 (.c (zU 57))),oQ 35 (.pick T32 T34 (cB false)),oM 6 T35] [0,3,4,5,6])
(.seq
(.reg 7 [oM 36 T5,oQ 37 (.not T36),oM 38 T37,gQ 39 38 true (.mov T6),gQ 40 38 true (.not T39),oQ 41 (.pick T38 T40 (cB false)),oM 42 T41,gQ 43 42 true (.mov T4),gQ 44 42 true (.bin .neq T43 (.c (zU 46))),oQ 45 (.pick T42 T44 (cB false)),oM 46 T45,gQ 47 46 true (.mov T4),gQ 48 46 true (.bin .neq T47 (.c (zU 95))),oQ 49 (.pick T46 T48 (cB false)),oM 50 T49,gQ 51 50 true (.mov T4),gQ 52 50 true (.bin .neq T51 (.c (zU 43))),oQ 53 (.pick T50 T52 (cB false)),oM 54 T53,gQ 55 54 true (.mov T4),gQ 56 54 true (.bin .neq T55 (.c (zU 126))),oQ 57 (.pick T54 T56 (cB false)),oM 58 T57,gQ 59 58 true (.mov T4),gQ 60 58 true (.bin .neq T59 (.c (zU 94))),oQ 61 (.pick T58 T60 (cB false))] [0,3,61])
(.cond T61
(.seq
(.reg 8 [oM 2 (cB false)] [2])
.ret)
.skip))))))
(.reg 3 [oM 11 T3,oQ 12 (.bin .add T11 (cI 1)),oM 3 T12] [0,3]))))))
(.seq
(.reg 9 [oM 62 T0,oQ 63 (.len 1 T62),oQ 64 (.bin .geq T63 (cI 1)),oM 65 T64,gQ 66 65 true (.mov T0),gQ 67 65 true (.len 1 T66),gQ 68 65 true (.bin .leq T67 (cI 64)),oQ 69 (.pick T65 T68 (cB false)),oM 2 T69] [2])
.ret)))
theorem fok145:FOK Tryz.prog 145 (70,ic145,[(.t 2)]):=af6 [] Tryz.func145
def ic146:IC :=
(.seq
(.reg 0 [oM 4 (cI 0)] [0,1])
(.seq
(.seq
(.reg 1 [oM 6 T0,oQ 7 (.len 0 T6),oM 8 (cI 0)] [0,1,7,8])
(.block 0
(.loop
(.seq
(.reg 2 [oQ 9 (.bin .lss T8 T7)] [0,1,7,8,9])
(.seq
(.cond T9
.skip
(.exit 0))
(.seq
(.block 1
(.seq
(.reg 3 [oM 10 T8,oM 5 T10] [0,1,5,7,8])
(.seq
(.reg 4 [oM 11 T1,oM 12 T0,oM 13 T5,oQ 14 (.ac8 5 T12 T13),oQ 15 (.load (some 5) T14),oK 16 (.an1 T11 [T15])] [0,1,5,7,8,16])
(.cond T16
(.seq
(.reg 5 [oM 17 T5,oM 4 T17] [4])
.ret)
.skip))))
(.reg 6 [oQ 18 (.bin .add T8 (cI 1)),oM 8 T18] [0,1,7,8])))))))
(.seq
(.reg 7 [oM 4 (cI (-1))] [4])
.ret)))
theorem fok146:FOK Tryz.prog 146 (19,ic146,[(.t 4)]):=af6 [] Tryz.func146
def ic147:IC :=
(.seq
(.reg 0 [oK 2 (.ai8 T0),oK 3 (.ai8 T1),oM 4 (cB false)] [2,3])
(.seq
(.reg 1 [oQ 5 (.aa6 0 T2),oQ 6 (.load none T5),oQ 7 (.aa6 0 T3),oQ 8 (.load none T7),oQ 9 (.bin .eql T6 T8),oM 10 T9,gQ 11 10 true (.load (some 5) T2),gQ 12 10 true (.load (some 5) T3),gK 13 10 true (.call 187 [T11,T12]),oQ 14 (.pick T10 T13 (cB false)),oM 4 T14] [4])
.ret))
theorem fok147:FOK Tryz.prog 147 (15,ic147,[(.t 4)]):=af6 [1000002,1000003] Tryz.func147
def ic148:IC :=
(.seq
(.reg 0 [oK 1 (.ai8 T0),oK 2 (.alloc [(.str []),(zU 0),(zI 0),(.str []),(.str [])])] [1,2])
(.seq
(.reg 1 [oQ 3 (.aa6 0 T1),oQ 4 (.load none T3),oQ 5 (.aa6 1 T1),oQ 6 (.load (some 3) T5),oK 7 (.call 188 [T4,T6]),oN (.store 5 T2 T7)] [2])
.ret))
theorem fok148:FOK Tryz.prog 148 (8,ic148,[(.cell (some 5) 2)]):=af6 [1000001] Tryz.func148
def ic149:IC :=
(.seq
(.reg 0 [oK 2 (.ai8 T0),oK 3 (.ai8 T1),oM 4 (cB false)] [2,3])
(.seq
(.seq
(.reg 1 [oQ 6 (.aa6 1 T2),oQ 7 (.load none T6),oQ 8 (.bin .rem T7 (.c (zU 8))),oQ 9 (.bin .eql T8 (.c (zU 0))),oM 10 T9,gQ 11 10 false (.aa6 1 T3),gQ 12 10 false (.load none T11),gQ 13 10 false (.bin .rem T12 (.c (zU 8))),gQ 14 10 false (.bin .eql T13 (.c (zU 0))),oQ 15 (.pick T10 (cB true) T14)] [2,3,15])
(.cond T15
(.seq
(.reg 2 [oM 4 (cB true)] [4])
.ret)
.skip))
(.seq
(.reg 3 [oQ 16 (.aa6 2 T2),oQ 17 (.load (some 3) T16),oQ 18 (.aa6 2 T3),oQ 19 (.load (some 3) T18),oK 20 (.call 59 [T17,T19]),oM 5 T20] [2,3,5])
(.seq
(.seq
(.reg 4 [oM 21 T5,oQ 22 (.bin .lss T21 (cI 0))] [2,3,5,22])
(.cond T22
(.seq
(.reg 5 [oQ 23 (.aa6 1 T2),oQ 24 (.load none T23),oQ 25 (.bin .and T24 (.c (zU 4))),oQ 26 (.bin .neq T25 (.c (zU 0))),oM 27 T26,gQ 28 27 false (.aa6 1 T3),gQ 29 27 false (.load none T28),gQ 30 27 false (.bin .and T29 (.c (zU 1))),gQ 31 27 false (.bin .neq T30 (.c (zU 0))),oQ 32 (.pick T27 (cB true) T31),oM 4 T32] [4])
.ret)
.skip))
(.seq
(.seq
(.reg 6 [oM 33 T5,oQ 34 (.bin .gtr T33 (cI 0))] [2,3,34])
(.cond T34
(.seq
(.reg 7 [oQ 35 (.aa6 1 T2),oQ 36 (.load none T35),oQ 37 (.bin .and T36 (.c (zU 1))),oQ 38 (.bin .neq T37 (.c (zU 0))),oM 39 T38,gQ 40 39 false (.aa6 1 T3),gQ 41 39 false (.load none T40),gQ 42 39 false (.bin .and T41 (.c (zU 4))),gQ 43 39 false (.bin .neq T42 (.c (zU 0))),oQ 44 (.pick T39 (cB true) T43),oM 4 T44] [4])
.ret)
.skip))
(.seq
(.reg 8 [oQ 45 (.aa6 1 T2),oQ 46 (.load none T45),oQ 47 (.aa6 1 T3),oQ 48 (.load none T47),oQ 49 (.bin .and T46 T48),oQ 50 (.bin .and T49 (.c (zU 7))),oQ 51 (.bin .neq T50 (.c (zU 0))),oM 4 T51] [4])
.ret))))))
theorem fok149:FOK Tryz.prog 149 (52,ic149,[(.t 4)]):=af6 [1000002,1000003] Tryz.func149
def ic150:IC :=
(.seq
(.reg 0 [oK 1 (.ai8 T0),oK 2 (.alloc [(.str []),(zU 0),(zI 0),(.str []),(.str [])])] [1,2])
(.seq
(.reg 1 [oQ 3 (.aa6 0 T1),oQ 4 (.load none T3),oQ 5 (.aa6 1 T1),oQ 6 (.load (some 3) T5),oK 7 (.call 189 [T4,T6]),oN (.store 5 T2 T7)] [2])
.ret))
theorem fok150:FOK Tryz.prog 150 (8,ic150,[(.cell (some 5) 2)]):=af6 [1000001] Tryz.func150
def ic151:IC :=
(.seq
(.reg 0 [oK 0 (.alloc [(zI 0),(zI 0),(zI 0),(zI 0),(zI 0),(zI 0),(zI 0),(zI 0),(zI 0),(zI 0),(zI 0),(zI 0),(zI 0),(zI 0),(zI 0),(zI 0),(zI 0),(zI 0),(zI 0),(zI 0),(zI 0),(zI 0),(zI 0),(zI 0),(zI 0)])] [0])
(.seq
(.reg 1 [oQ 1 (.bld [(zI 0),(zI 0),(zI 0),(zI 0),(zI 0)] [⟨1,⟨1,(cI 2)⟩⟩,⟨2,⟨1,(cI 1)⟩⟩,⟨3,⟨1,(cI 3)⟩⟩]),oQ 2 (.bld [(zI 0),(zI 0),(zI 0),(zI 0),(zI 0)] [⟨1,⟨1,(cI 2)⟩⟩,⟨3,⟨1,(cI 1)⟩⟩]),oQ 3 (.bld [(zI 0),(zI 0),(zI 0),(zI 0),(zI 0)] [⟨1,⟨1,(cI 2)⟩⟩,⟨4,⟨1,(cI 1)⟩⟩]),oQ 4 (.bld [(zI 0),(zI 0),(zI 0),(zI 0),(zI 0),(zI 0),(zI 0),(zI 0),(zI 0),(zI 0),(zI 0),(zI 0),(zI 0),(zI 0),(zI 0),(zI 0),(zI 0),(zI 0),(zI 0),(zI 0),(zI 0),(zI 0),(zI 0),(zI 0),(zI 0)] [⟨10,⟨5,T1⟩⟩,⟨15,⟨5,T2⟩⟩,⟨20,⟨5,T3⟩⟩]),oN (.store 25 T0 T4)] [0])
.ret))
theorem fok151:FOK Tryz.prog 151 (5,ic151,[(.cell (some 25) 0)]):=af6 [] Tryz.func151
def ic152:IC :=
(.seq
(.reg 0 [oM 2 (cB false)] [0])
(.seq
(.reg 1 [oM 3 T0,oM 4 T0,oQ 5 (.bin .neq T3 T4),oM 2 T5] [2])
.ret))
theorem fok152:FOK Tryz.prog 152 (6,ic152,[(.t 2)]):=af6 [] Tryz.func152
def ic153:IC :=
(.seq
(.reg 0 [oM 2 (.c .aa1)] [0,2])
(.seq
(.reg 1 [oK 3 (.alloc [.aa1])] [0,2,3])
(.seq
(.seq
(.reg 2 [oM 5 T0,oK 6 (.call 190 [T5])] [2,3,6])
(.block 0
(.bn4 T6 [7]
(.reg 3 [oK 4 (.alloc [(zU 0),(.str [])]),oN (.store 2 T4 T7)] [3,4])
(.block 1
(.reg 4 [oQ 8 (.load none T3),oQ 9 (.load (some 2) T4),oK 10 (.bb4 2 1 [(zU 0),(.str [])] [⟨0,⟨2,T9⟩⟩]),oK 11 (.app 2 T8 T10),oN (.store 1 T3 T11)] [])))))
(.seq
(.reg 5 [oQ 12 (.load none T3),oM 2 T12] [2])
.ret))))
theorem fok153:FOK Tryz.prog 153 (13,ic153,[(.t 2)]):=af6 [1000010] Tryz.func153
def ic154:IC :=
(.seq
(.reg 0 [oK 2 (.ai8 T0),oK 3 (.ai8 T1),oM 4 (cI 0)] [2,3])
(.seq
(.reg 1 [oM 5 (cI 0)] [2,3,5])
(.seq
(.seq
(.reg 2 [oQ 6 (.aa6 0 T2),oQ 7 (.load none T6),oQ 8 (.bin .eql T7 (.c (zU 5))),oM 9 T8,gQ 10 9 true (.aa6 0 T3),gQ 11 9 true (.load none T10),gQ 12 9 true (.bin .eql T11 (.c (zU 5))),oQ 13 (.pick T9 T12 (cB false))] [2,3,5,13])
(.cond T13
(.reg 3 [oQ 14 (.aa6 1 T2),oQ 15 (.load none T14),oQ 16 (.len 1 T15),oQ 17 (.aa6 1 T3),oQ 18 (.load none T17),oQ 19 (.len 1 T18),oK 20 (.call 110 [T16,T19]),oM 5 T20] [2,3,5])
.skip))
(.seq
(.ar4 4 [oQ 21 (.aa6 0 T2),oQ 22 (.load none T21),oQ 23 (.aa6 0 T3),oQ 24 (.load none T23),oK 25 (.af1 192 [T22,T24]),oM 26 T5,oQ 27 (.aa6 1 T2),oQ 28 (.load none T27),oQ 29 (.aa6 1 T3),oQ 30 (.load none T29),oK 31 (.af1 193 [T28,T30]),oK 32 (.bb4 1 3 [(zI 0)] [⟨0,⟨1,T25⟩⟩,⟨1,⟨1,T26⟩⟩,⟨2,⟨1,T31⟩⟩]),oK 33 (.af1 191 [T32]),oM 4 T33] false [4])
.ret))))
theorem fok154:FOK Tryz.prog 154 (34,ic154,[(.t 4)]):=af6 ([1000002,1000003,1000032]++[191,192,193]) Tryz.func154 (by kernel_rfl) (by kernel_rfl) (by kernel_rfl) (by kernel_rfl)
def ic155:IC :=
(.seq
(.reg 0 [oM 2 (.c .aa1)] [0])
(.seq
(.reg 1 [oM 3 (.c .aa1)] [0,3])
(.seq
(.seq
(.reg 2 [oM 4 (cI 0)] [0,3,4])
(.block 0
(.loop
(.seq
(.seq
(.reg 3 [oM 7 T4,oM 8 T0,oQ 9 (.len 1 T8),oQ 10 (.bin .lss T7 T9)] [0,3,4,10])
(.cond T10
.skip
(.exit 0)))
(.block 1
(.seq
(.reg 4 [oM 11 T0,oM 12 T4,oQ 13 (.dl2 T11 T12),oK 14 (.call 194 [T13]),oM 5 T14] [0,3,4,5])
(.seq
(.seq
(.reg 5 [oM 15 T5,oQ 16 (.bin .eql T15 (.c (zU 0)))] [0,3,4,5,16])
(.cond T16
(.seq
(.reg 6 [oM 17 T4,oQ 18 (.bin .add T17 (cI 1)),oM 4 T18] [0,3,4])
(.exit 1))
.skip))
(.seq
(.seq
(.reg 7 [oM 19 T5,oQ 20 (.bin .lss T19 (.c (zU 4)))] [0,3,4,5,20])
(.cond T20
(.seq
(.reg 8 [oM 21 T3,oM 22 T5,oQ 23 (.bld [(zU 0),(.str [])] [⟨0,⟨1,T22⟩⟩]),oK 24 (.bb4 2 1 [(zU 0),(.str [])] [⟨0,⟨2,T23⟩⟩]),oK 25 (.app 2 T21 T24),oM 3 T25] [0,3,4])
(.seq
(.reg 9 [oM 26 T4,oQ 27 (.bin .add T26 (cI 1)),oM 4 T27] [0,3,4])
(.exit 1)))
.skip))
(.seq
(.reg 10 [oM 28 T4,oM 6 T28] [0,3,4,5,6])
(.seq
(.block 2
(.loop
(.seq
(.seq
(.reg 11 [oM 29 T6,oM 30 T0,oQ 31 (.len 1 T30),oQ 32 (.bin .lss T29 T31),oM 33 T32,gQ 34 33 true (.mov T0),gQ 35 33 true (.mov T6),gQ 36 33 true (.dl2 T34 T35),gK 37 33 true (.call 194 [T36]),gQ 38 33 true (.mov T5),gQ 39 33 true (.bin .eql T37 T38),oQ 40 (.pick T33 T39 (cB false))] [0,3,4,5,6,40])
(.cond T40
.skip
(.exit 2)))
(.block 3
(.reg 12 [oM 41 T6,oQ 42 (.bin .add T41 (cI 1)),oM 6 T42] [0,3,4,5,6])))))
(.seq
(.block 4
(.loop
(.seq
(.seq
(.reg 13 [oM 43 T5,oQ 44 (.bin .eql T43 (.c (zU 5))),oM 45 T44,gQ 46 45 true (.mov T4),gQ 47 45 true (.mov T6),gQ 48 45 true (.bin .lss T46 T47),oQ 49 (.pick T45 T48 (cB false)),oM 50 T49,gQ 51 50 true (.mov T0),gQ 52 50 true (.mov T4),gQ 53 50 true (.dl2 T51 T52),gQ 54 50 true (.bin .eql T53 (.c (zU 48))),oQ 55 (.pick T50 T54 (cB false))] [0,3,4,5,6,55])
(.cond T55
.skip
(.exit 4)))
(.block 5
(.reg 14 [oM 56 T4,oQ 57 (.bin .add T56 (cI 1)),oM 4 T57] [0,3,4,5,6])))))
(.seq
(.reg 15 [oM 58 T3,oM 59 T5,oM 60 T0,oM 61 T4,oM 62 T6,oQ 63 (.fv6 T60 (some T61) (some T62)),oQ 64 (.bld [(zU 0),(.str [])] [⟨0,⟨1,T59⟩⟩,⟨1,⟨1,T63⟩⟩]),oK 65 (.bb4 2 1 [(zU 0),(.str [])] [⟨0,⟨2,T64⟩⟩]),oK 66 (.app 2 T58 T65),oM 3 T66] [0,3,6])
(.reg 16 [oM 67 T6,oM 4 T67] [0,3,4])))))))))))))
(.seq
(.reg 17 [oM 68 T3,oM 2 T68] [2])
.ret))))
theorem fok155:FOK Tryz.prog 155 (69,ic155,[(.t 2)]):=af6 [1000024,1000065] Tryz.func155
def ic156:IC :=
(.seq
(.reg 0 [oK 2 (.ai8 T0),oK 3 (.ai8 T1),oM 4 (cB false)] [2,3])
(.seq
(.seq
(.reg 1 [oQ 5 (.aa6 0 T2),oQ 6 (.load none T5),oQ 7 (.aa6 0 T3),oQ 8 (.load none T7),oQ 9 (.bin .neq T6 T8)] [2,3,9])
(.cond T9
(.seq
(.reg 2 [oQ 10 (.aa6 0 T2),oQ 11 (.load none T10),oQ 12 (.aa6 0 T3),oQ 13 (.load none T12),oQ 14 (.bin .lss T11 T13),oM 4 T14] [4])
.ret)
.skip))
(.seq
(.seq
(.reg 3 [oQ 15 (.aa6 0 T2),oQ 16 (.load none T15),oQ 17 (.bin .eql T16 (.c (zU 5))),oM 18 T17,gQ 19 18 true (.aa6 1 T2),gQ 20 18 true (.load none T19),gQ 21 18 true (.len 1 T20),gQ 22 18 true (.aa6 1 T3),gQ 23 18 true (.load none T22),gQ 24 18 true (.len 1 T23),gQ 25 18 true (.bin .neq T21 T24),oQ 26 (.pick T18 T25 (cB false))] [2,3,26])
(.cond T26
(.seq
(.reg 4 [oQ 27 (.aa6 1 T2),oQ 28 (.load none T27),oQ 29 (.len 1 T28),oQ 30 (.aa6 1 T3),oQ 31 (.load none T30),oQ 32 (.len 1 T31),oQ 33 (.bin .lss T29 T32),oM 4 T33] [4])
.ret)
.skip))
(.seq
(.reg 5 [oQ 34 (.aa6 1 T2),oQ 35 (.load none T34),oQ 36 (.aa6 1 T3),oQ 37 (.load none T36),oQ 38 (.bin .lss T35 T37),oM 4 T38] [4])
.ret))))
theorem fok156:FOK Tryz.prog 156 (39,ic156,[(.t 4)]):=af6 [1000002,1000003] Tryz.func156
def ic157:IC :=
(.seq
(.reg 0 [oK 4 (.alloc [(zU 0),(.str [])])] [0,1,4])
(.seq
(.seq
(.reg 1 [oM 5 T1,oM 6 T0,oQ 7 (.len 0 T6),oQ 8 (.bin .geq T5 T7)] [0,1,4,8])
(.cond T8
(.seq
(.reg 2 [oQ 9 (.bld [(zU 0),(.str [])] [⟨0,⟨1,(.c (zU 2))⟩⟩]),oN (.store 2 T4 T9)] [4])
.ret)
.skip))
(.seq
(.reg 3 [oM 10 T0,oM 11 T1,oQ 12 (.ac8 2 T10 T11),oQ 13 (.load (some 2) T12),oN (.store 2 T4 T13)] [4])
.ret)))
theorem fok157:FOK Tryz.prog 157 (14,ic157,[(.cell (some 2) 4)]):=af6 [] Tryz.func157
def ic158:IC :=
(.seq
(.reg 0 [oK 3 (.ai8 T1),oM 4 (cI 0)] [0,3])
(.seq
(.seq
(.reg 1 [oM 6 T0,oQ 7 (.len 0 T6),oM 8 (cI 0)] [0,3,7,8])
(.block 0
(.loop
(.seq
(.reg 2 [oQ 9 (.bin .lss T8 T7)] [0,3,7,8,9])
(.seq
(.cond T9
.skip
(.exit 0))
(.seq
(.block 1
(.seq
(.reg 3 [oM 10 T8,oM 5 T10] [0,3,5,7,8])
(.seq
(.ar4 4 [oQ 11 (.load (some 2) T3),oM 12 T0,oM 13 T5,oQ 14 (.ac8 2 T12 T13),oQ 15 (.load (some 2) T14),oQ 16 (.eqs [1,1] true false T11 T15)] false [0,3,5,7,8,16])
(.cond T16
(.seq
(.reg 5 [oM 17 T5,oM 4 T17] [4])
.ret)
.skip))))
(.reg 6 [oQ 18 (.bin .add T8 (cI 1)),oM 8 T18] [0,3,7,8])))))))
(.seq
(.reg 7 [oM 4 (cI (-1))] [4])
.ret)))
theorem fok158:FOK Tryz.prog 158 (19,ic158,[(.t 4)]):=af6 [1000003] Tryz.func158
end Go.Id.Tryz
