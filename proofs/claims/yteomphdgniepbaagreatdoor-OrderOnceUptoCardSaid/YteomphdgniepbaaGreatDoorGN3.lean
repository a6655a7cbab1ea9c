/- The compiled codes of functions,written by a program out of the given form. Conditions: none. -/
import Derived.Test.YteomphdgniepbaaGreatDoorFwZb
import Derived.Test.YteomphdgniepbaaGreatDoorProg
set_option linter.all false
namespace Go.Id.Tryz
open Go Go.Id Go.Proofs
def iw7:List Nat:=List.range 375
def ic224:IC :=
(.seq
(.reg 0 [oM 13 T1,oM 8 T13] [0,1,2,3,8])
(.seq
(.reg 1 [oM 9 (cI 0)] [0,1,2,3,8,9])
(.seq
(.reg 2 [oM 14 T2,oM 15 T1,oQ 16 (.bin .sub T14 T15),oM 10 T16] [0,3,8,9,10])
(.seq
(.seq
(.reg 3 [oM 17 T10,oQ 18 (.bin .sub T17 (cI 1)),oQ 19 (.bin .quo T18 (cI 2)),oM 11 T19] [0,3,8,9,10,11])
(.block 0
(.loop
(.seq
(.seq
(.reg 4 [oM 20 T11,oQ 21 (.bin .geq T20 (cI 0))] [0,3,8,9,10,11,21])
(.cond T21
.skip
(.exit 0)))
(.seq
(.block 1
(.reg 6 [oM 24 T0,oM 25 T11,oM 26 T10,oM 27 T8,oM 28 T3,oK 29 (.call 290 [T24,T25,T26,T27,T28])] [0,3,8,9,10,11]))
(.reg 5 [oM 22 T11,oQ 23 (.bin .sub T22 (cI 1)),oM 11 T23] [0,3,8,9,10,11]))))))
(.seq
(.reg 7 [oM 30 T10,oQ 31 (.bin .sub T30 (cI 1)),oM 12 T31] [0,3,8,9,12])
(.block 2
(.loop
(.seq
(.seq
(.reg 8 [oM 32 T12,oQ 33 (.bin .geq T32 (cI 0))] [0,3,8,9,12,33])
(.cond T33
.skip
(.exit 2)))
(.seq
(.block 3
(.seq
(.am7 10 [oM 36 T0,oM 37 T8,oM 38 T0,oM 39 T8,oM 40 T12,oQ 41 (.bin .add T39 T40),oM 42 T0,oM 43 T8,oM 44 T12,oQ 45 (.bin .add T43 T44),oQ 46 (.ab5 1 T42 T45),oQ 47 (.load none T46),oM 48 T0,oM 49 T8,oQ 50 (.ab5 1 T48 T49),oQ 51 (.load none T50),oQ 52 (.ab5 1 T36 T37),oN (.store 1 T52 T47),oQ 53 (.ab5 1 T38 T41),oN (.store 1 T53 T51)] false [0,3,8,9,12])
(.reg 11 [oM 54 T0,oM 55 T9,oM 56 T12,oM 57 T8,oM 58 T3,oK 59 (.call 290 [T54,T55,T56,T57,T58])] [0,3,8,9,12])))
(.reg 9 [oM 34 T12,oQ 35 (.bin .sub T34 (cI 1)),oM 12 T35] [0,3,8,9,12]))))))))))
theorem fok224:FOK Tryz.prog 224 (60,ic224,[]):=aj5 [] Tryz.func224
def ic225:IC :=
(.seq
(.reg 0 [oM 13 T2,oM 14 T1,oQ 15 (.bin .sub T13 T14),oM 8 T15] [0,1,8])
(.seq
(.reg 1 [oM 16 T8,oQ 17 (.bin .geq T16 (cI 8))] [0,1,8,17])
(.cond T17
(.seq
(.reg 2 [oM 18 T8,oQ 19 (.conv .u64 T18),oK 9 (.alloc [(.int .u64 0)]),oN (.store 1 T9 T19)] [0,1,8,9])
(.seq
(.reg 3 [oM 20 T8,oK 21 (.call 291 [T20]),oM 10 T21] [0,1,8,9,10])
(.seq
(.reg 4 [oM 22 T1,oM 23 T8,oQ 24 (.bin .quo T23 (cI 4)),oQ 25 (.bin .mul T24 (cI 2)),oQ 26 (.bin .add T22 T25),oQ 27 (.bin .sub T26 (cI 1)),oM 11 T27] [0,1,8,9,10,11])
(.block 0
(.loop
(.seq
(.seq
(.reg 5 [oM 28 T11,oM 29 T1,oM 30 T8,oQ 31 (.bin .quo T30 (cI 4)),oQ 32 (.bin .mul T31 (cI 2)),oQ 33 (.bin .add T29 T32),oQ 34 (.bin .add T33 (cI 1)),oQ 35 (.bin .leq T28 T34)] [0,1,8,9,10,11,35])
(.cond T35
.skip
(.exit 0)))
(.seq
(.block 1
(.seq
(.reg 7 [oK 38 (.call 292 [T9]),oM 39 T10,oQ 40 (.bin .sub T39 (.c (.int .u64 1))),oQ 41 (.bin .and T38 T40),oQ 42 (.conv .i64 T41),oM 12 T42] [0,1,8,9,10,11,12])
(.seq
(.seq
(.reg 8 [oM 43 T12,oM 44 T8,oQ 45 (.bin .geq T43 T44)] [0,1,8,9,10,11,12,45])
(.cond T45
(.reg 9 [oM 46 T12,oM 47 T8,oQ 48 (.bin .sub T46 T47),oM 12 T48] [0,1,8,9,10,11,12])
.skip))
(.am7 10 [oM 49 T0,oM 50 T11,oM 51 T0,oM 52 T1,oM 53 T12,oQ 54 (.bin .add T52 T53),oM 55 T0,oM 56 T1,oM 57 T12,oQ 58 (.bin .add T56 T57),oQ 59 (.ab5 1 T55 T58),oQ 60 (.load none T59),oM 61 T0,oM 62 T11,oQ 63 (.ab5 1 T61 T62),oQ 64 (.load none T63),oQ 65 (.ab5 1 T49 T50),oN (.store 1 T65 T60),oQ 66 (.ab5 1 T51 T54),oN (.store 1 T66 T64)] false [0,1,8,9,10,11]))))
(.reg 6 [oM 36 T11,oQ 37 (.bin .add T36 (cI 1)),oM 11 T37] [0,1,8,9,10,11]))))))))
.skip)))
theorem fok225:FOK Tryz.prog 225 (67,ic225,[]):=aj5 [] Tryz.func225
def ic226:IC :=
(.seq
(.reg 0 [oM 8 (cI 0),oM 9 (cI 0)] [0,1,2,3])
(.seq
(.reg 1 [oM 15 T2,oM 16 T1,oQ 17 (.bin .sub T15 T16),oM 10 T17] [0,1,3,10])
(.seq
(.reg 2 [oK 11 (.alloc [(zI 0)])] [0,1,3,10,11])
(.seq
(.reg 3 [oM 18 T1,oM 19 T10,oQ 20 (.bin .quo T19 (cI 4)),oQ 21 (.bin .mul T20 (cI 1)),oQ 22 (.bin .add T18 T21),oM 12 T22] [0,1,3,10,11,12])
(.seq
(.reg 4 [oM 23 T1,oM 24 T10,oQ 25 (.bin .quo T24 (cI 4)),oQ 26 (.bin .mul T25 (cI 2)),oQ 27 (.bin .add T23 T26),oM 13 T27] [0,1,3,10,11,12,13])
(.seq
(.reg 5 [oM 28 T1,oM 29 T10,oQ 30 (.bin .quo T29 (cI 4)),oQ 31 (.bin .mul T30 (cI 3)),oQ 32 (.bin .add T28 T31),oM 14 T32] [0,3,10,11,12,13,14])
(.seq
(.seq
(.reg 6 [oM 33 T10,oQ 34 (.bin .geq T33 (cI 8))] [0,3,10,11,12,13,14,34])
(.cond T34
(.seq
(.seq
(.reg 7 [oM 35 T10,oQ 36 (.bin .geq T35 (cI 50))] [0,3,11,12,13,14,36])
(.cond T36
(.seq
(.reg 8 [oM 37 T0,oM 38 T12,oM 39 T3,oK 40 (.call 293 [T37,T38,T11,T39]),oM 12 T40] [0,3,11,12,13,14])
(.seq
(.reg 9 [oM 41 T0,oM 42 T13,oM 43 T3,oK 44 (.call 293 [T41,T42,T11,T43]),oM 13 T44] [0,3,11,12,13,14])
(.reg 10 [oM 45 T0,oM 46 T14,oM 47 T3,oK 48 (.call 293 [T45,T46,T11,T47]),oM 14 T48] [0,3,11,12,13,14])))
.skip))
(.reg 11 [oM 49 T0,oM 50 T12,oM 51 T13,oM 52 T14,oM 53 T3,oK 54 (.call 294 [T49,T50,T51,T52,T11,T53]),oM 13 T54] [11,13]))
.skip))
(.seq
(.reg 12 [oQ 55 (.load none T11)] [13,55])
(.block 0
(.seq
(.reg 14 [oQ 58 (.bin .eql T55 (cI 0)),oM 57 T58] [13,55,57])
(.cond T57
(.seq
(.reg 15 [oM 59 T13,oM 8 T59,oM 9 (cI 1)] [8,9])
.ret)
(.seq
(.reg 16 [oQ 61 (.bin .eql T55 (cI 12)),oM 60 T61] [13,60])
(.cond T60
(.seq
(.reg 17 [oM 62 T13,oM 8 T62,oM 9 (cI 2)] [8,9])
.ret)
(.seq
(.reg 13 [oM 56 T13,oM 8 T56,oM 9 (cI 0)] [8,9])
.ret))))))))))))))
theorem fok226:FOK Tryz.prog 226 (63,ic226,[(.t 8),(.t 9)]):=aj5 [] Tryz.func226
def ic227:IC :=
(.seq
(.reg 0 [oM 10 T1,oM 8 T10] [0,2,8])
(.seq
(.reg 1 [oM 11 T2,oQ 12 (.bin .sub T11 (cI 1)),oM 9 T12] [0,8,9])
(.block 0
(.loop
(.seq
(.seq
(.reg 2 [oM 13 T8,oM 14 T9,oQ 15 (.bin .lss T13 T14)] [0,8,9,15])
(.cond T15
.skip
(.exit 0)))
(.block 1
(.seq
(.am7 3 [oM 16 T0,oM 17 T8,oM 18 T0,oM 19 T9,oM 20 T0,oM 21 T9,oQ 22 (.ab5 1 T20 T21),oQ 23 (.load none T22),oM 24 T0,oM 25 T8,oQ 26 (.ab5 1 T24 T25),oQ 27 (.load none T26),oQ 28 (.ab5 1 T16 T17),oN (.store 1 T28 T23),oQ 29 (.ab5 1 T18 T19),oN (.store 1 T29 T27)] false [0,8,9])
(.seq
(.reg 4 [oM 30 T8,oQ 31 (.bin .add T30 (cI 1)),oM 8 T31] [0,8,9])
(.reg 5 [oM 32 T9,oQ 33 (.bin .sub T32 (cI 1)),oM 9 T33] [0,8,9])))))))))
theorem fok227:FOK Tryz.prog 227 (34,ic227,[]):=aj5 [] Tryz.func227
def ic228:IC :=
(.seq
(.reg 0 [oM 8 (cB false)] [0,1,2,3])
(.seq
(.reg 1 [oM 13 T1,oQ 14 (.bin .add T13 (cI 1)),oM 9 T14] [0,1,2,3,9])
(.seq
(.seq
(.reg 2 [oM 10 (cI 0)] [0,1,2,3,9,10])
(.block 0
(.loop
(.seq
(.seq
(.reg 3 [oM 15 T10,oQ 16 (.bin .lss T15 (cI 5))] [0,1,2,3,9,10,16])
(.cond T16
.skip
(.exit 0)))
(.seq
(.block 1
(.seq
(.block 2
(.loop
(.seq
(.seq
(.am7 5 [oM 19 T9,oM 20 T2,oQ 21 (.bin .lss T19 T20),oM 22 T21,gQ 23 22 true (.mov T3),gQ 24 22 true (.mov T0),gQ 25 22 true (.mov T9),gQ 26 22 true (.ab5 1 T24 T25),gQ 27 22 true (.load none T26),gQ 28 22 true (.mov T0),gQ 29 22 true (.mov T9),gQ 30 22 true (.bin .sub T29 (cI 1)),gQ 31 22 true (.ab5 1 T28 T30),gQ 32 22 true (.load none T31),gK 33 22 true (.aj1 T23 [T27,T32]),gQ 34 22 true (.bin .lss T33 (cI 0)),gQ 35 22 true (.not T34),oQ 36 (.pick T22 T35 (cB false))] false [0,1,2,3,9,10,36])
(.cond T36
.skip
(.exit 2)))
(.block 3
(.reg 6 [oM 37 T9,oQ 38 (.bin .add T37 (cI 1)),oM 9 T38] [0,1,2,3,9,10])))))
(.seq
(.seq
(.reg 7 [oM 39 T9,oM 40 T2,oQ 41 (.bin .eql T39 T40)] [0,1,2,3,9,10,41])
(.cond T41
(.seq
(.reg 8 [oM 8 (cB true)] [8])
.ret)
.skip))
(.seq
(.seq
(.reg 9 [oM 42 T2,oM 43 T1,oQ 44 (.bin .sub T42 T43),oQ 45 (.bin .lss T44 (cI 50))] [0,1,2,3,9,10,45])
(.cond T45
(.seq
(.reg 10 [oM 8 (cB false)] [8])
.ret)
.skip))
(.seq
(.am7 11 [oM 46 T0,oM 47 T9,oM 48 T0,oM 49 T9,oQ 50 (.bin .sub T49 (cI 1)),oM 51 T0,oM 52 T9,oQ 53 (.bin .sub T52 (cI 1)),oQ 54 (.ab5 1 T51 T53),oQ 55 (.load none T54),oM 56 T0,oM 57 T9,oQ 58 (.ab5 1 T56 T57),oQ 59 (.load none T58),oQ 60 (.ab5 1 T46 T47),oN (.store 1 T60 T55),oQ 61 (.ab5 1 T48 T50),oN (.store 1 T61 T59)] false [0,1,2,3,9,10])
(.seq
(.seq
(.reg 12 [oM 62 T9,oM 63 T1,oQ 64 (.bin .sub T62 T63),oQ 65 (.bin .geq T64 (cI 2))] [0,1,2,3,9,10,65])
(.cond T65
(.seq
(.reg 13 [oM 66 T9,oQ 67 (.bin .sub T66 (cI 1)),oM 11 T67] [0,1,2,3,9,10,11])
(.block 4
(.loop
(.seq
(.seq
(.reg 14 [oM 68 T11,oQ 69 (.bin .geq T68 (cI 1))] [0,1,2,3,9,10,11,69])
(.cond T69
.skip
(.exit 4)))
(.seq
(.block 5
(.seq
(.seq
(.am7 16 [oM 72 T3,oM 73 T0,oM 74 T11,oQ 75 (.ab5 1 T73 T74),oQ 76 (.load none T75),oM 77 T0,oM 78 T11,oQ 79 (.bin .sub T78 (cI 1)),oQ 80 (.ab5 1 T77 T79),oQ 81 (.load none T80),oK 82 (.aj1 T72 [T76,T81]),oQ 83 (.bin .lss T82 (cI 0)),oQ 84 (.not T83)] false [0,1,2,3,9,10,11,84])
(.cond T84
(.exit 4)
.skip))
(.am7 17 [oM 85 T0,oM 86 T11,oM 87 T0,oM 88 T11,oQ 89 (.bin .sub T88 (cI 1)),oM 90 T0,oM 91 T11,oQ 92 (.bin .sub T91 (cI 1)),oQ 93 (.ab5 1 T90 T92),oQ 94 (.load none T93),oM 95 T0,oM 96 T11,oQ 97 (.ab5 1 T95 T96),oQ 98 (.load none T97),oQ 99 (.ab5 1 T85 T86),oN (.store 1 T99 T94),oQ 100 (.ab5 1 T87 T89),oN (.store 1 T100 T98)] false [0,1,2,3,9,10,11])))
(.reg 15 [oM 70 T11,oQ 71 (.bin .sub T70 (cI 1)),oM 11 T71] [0,1,2,3,9,10,11]))))))
.skip))
(.seq
(.reg 18 [oM 101 T2,oM 102 T9,oQ 103 (.bin .sub T101 T102),oQ 104 (.bin .geq T103 (cI 2))] [0,1,2,3,9,10,104])
(.cond T104
(.seq
(.reg 19 [oM 105 T9,oQ 106 (.bin .add T105 (cI 1)),oM 12 T106] [0,1,2,3,9,10,12])
(.block 6
(.loop
(.seq
(.seq
(.reg 20 [oM 107 T12,oM 108 T2,oQ 109 (.bin .lss T107 T108)] [0,1,2,3,9,10,12,109])
(.cond T109
.skip
(.exit 6)))
(.seq
(.block 7
(.seq
(.seq
(.am7 22 [oM 112 T3,oM 113 T0,oM 114 T12,oQ 115 (.ab5 1 T113 T114),oQ 116 (.load none T115),oM 117 T0,oM 118 T12,oQ 119 (.bin .sub T118 (cI 1)),oQ 120 (.ab5 1 T117 T119),oQ 121 (.load none T120),oK 122 (.aj1 T112 [T116,T121]),oQ 123 (.bin .lss T122 (cI 0)),oQ 124 (.not T123)] false [0,1,2,3,9,10,12,124])
(.cond T124
(.exit 6)
.skip))
(.am7 23 [oM 125 T0,oM 126 T12,oM 127 T0,oM 128 T12,oQ 129 (.bin .sub T128 (cI 1)),oM 130 T0,oM 131 T12,oQ 132 (.bin .sub T131 (cI 1)),oQ 133 (.ab5 1 T130 T132),oQ 134 (.load none T133),oM 135 T0,oM 136 T12,oQ 137 (.ab5 1 T135 T136),oQ 138 (.load none T137),oQ 139 (.ab5 1 T125 T126),oN (.store 1 T139 T134),oQ 140 (.ab5 1 T127 T129),oN (.store 1 T140 T138)] false [0,1,2,3,9,10,12])))
(.reg 21 [oM 110 T12,oQ 111 (.bin .add T110 (cI 1)),oM 12 T111] [0,1,2,3,9,10,12]))))))
.skip))))))))
(.reg 4 [oM 17 T10,oQ 18 (.bin .add T17 (cI 1)),oM 10 T18] [0,1,2,3,9,10]))))))
(.seq
(.reg 24 [oM 8 (cB false)] [8])
.ret))))
theorem fok228:FOK Tryz.prog 228 (141,ic228,[(.t 8)]):=aj5 [] Tryz.func228
def ic229:IC :=
(.seq
(.reg 0 [oM 10 (cI 0)] [0,1,2,3,4])
(.seq
(.am7 1 [oM 13 T0,oM 14 T1,oM 15 T0,oM 16 T3,oM 17 T0,oM 18 T3,oQ 19 (.ab5 1 T17 T18),oQ 20 (.load none T19),oM 21 T0,oM 22 T1,oQ 23 (.ab5 1 T21 T22),oQ 24 (.load none T23),oQ 25 (.ab5 1 T13 T14),oN (.store 1 T25 T20),oQ 26 (.ab5 1 T15 T16),oN (.store 1 T26 T24)] false [0,1,2,4])
(.seq
(.reg 2 [oM 27 T1,oQ 28 (.bin .add T27 (cI 1)),oM 29 T2,oQ 30 (.bin .sub T29 (cI 1)),oM 11 T28,oM 12 T30] [0,1,4,11,12])
(.seq
(.block 0
(.loop
(.block 1
(.seq
(.block 2
(.loop
(.seq
(.seq
(.am7 3 [oM 31 T11,oM 32 T12,oQ 33 (.bin .leq T31 T32),oM 34 T33,gQ 35 34 true (.mov T4),gQ 36 34 true (.mov T0),gQ 37 34 true (.mov T1),gQ 38 34 true (.ab5 1 T36 T37),gQ 39 34 true (.load none T38),gQ 40 34 true (.mov T0),gQ 41 34 true (.mov T11),gQ 42 34 true (.ab5 1 T40 T41),gQ 43 34 true (.load none T42),gK 44 34 true (.aj1 T35 [T39,T43]),gQ 45 34 true (.bin .lss T44 (cI 0)),gQ 46 34 true (.not T45),oQ 47 (.pick T34 T46 (cB false))] false [0,1,4,11,12,47])
(.cond T47
.skip
(.exit 2)))
(.block 3
(.reg 4 [oM 48 T11,oQ 49 (.bin .add T48 (cI 1)),oM 11 T49] [0,1,4,11,12])))))
(.seq
(.block 4
(.loop
(.seq
(.seq
(.am7 5 [oM 50 T11,oM 51 T12,oQ 52 (.bin .leq T50 T51),oM 53 T52,gQ 54 53 true (.mov T4),gQ 55 53 true (.mov T0),gQ 56 53 true (.mov T1),gQ 57 53 true (.ab5 1 T55 T56),gQ 58 53 true (.load none T57),gQ 59 53 true (.mov T0),gQ 60 53 true (.mov T12),gQ 61 53 true (.ab5 1 T59 T60),gQ 62 53 true (.load none T61),gK 63 53 true (.aj1 T54 [T58,T62]),gQ 64 53 true (.bin .lss T63 (cI 0)),oQ 65 (.pick T53 T64 (cB false))] false [0,1,4,11,12,65])
(.cond T65
.skip
(.exit 4)))
(.block 5
(.reg 6 [oM 66 T12,oQ 67 (.bin .sub T66 (cI 1)),oM 12 T67] [0,1,4,11,12])))))
(.seq
(.seq
(.reg 7 [oM 68 T11,oM 69 T12,oQ 70 (.bin .gtr T68 T69)] [0,1,4,11,12,70])
(.cond T70
(.exit 0)
.skip))
(.seq
(.am7 8 [oM 71 T0,oM 72 T11,oM 73 T0,oM 74 T12,oM 75 T0,oM 76 T12,oQ 77 (.ab5 1 T75 T76),oQ 78 (.load none T77),oM 79 T0,oM 80 T11,oQ 81 (.ab5 1 T79 T80),oQ 82 (.load none T81),oQ 83 (.ab5 1 T71 T72),oN (.store 1 T83 T78),oQ 84 (.ab5 1 T73 T74),oN (.store 1 T84 T82)] false [0,1,4,11,12])
(.seq
(.reg 9 [oM 85 T11,oQ 86 (.bin .add T85 (cI 1)),oM 11 T86] [0,1,4,11,12])
(.reg 10 [oM 87 T12,oQ 88 (.bin .sub T87 (cI 1)),oM 12 T88] [0,1,4,11,12])))))))))
(.seq
(.reg 11 [oM 89 T11,oM 10 T89] [10])
.ret)))))
theorem fok229:FOK Tryz.prog 229 (90,ic229,[(.t 10)]):=aj5 [] Tryz.func229
def ic230:IC :=
(.seq
(.reg 0 [oM 10 (cI 0),oM 11 (cB false)] [0,1,2,3,4])
(.seq
(.am7 1 [oM 14 T0,oM 15 T1,oM 16 T0,oM 17 T3,oM 18 T0,oM 19 T3,oQ 20 (.ab5 1 T18 T19),oQ 21 (.load none T20),oM 22 T0,oM 23 T1,oQ 24 (.ab5 1 T22 T23),oQ 25 (.load none T24),oQ 26 (.ab5 1 T14 T15),oN (.store 1 T26 T21),oQ 27 (.ab5 1 T16 T17),oN (.store 1 T27 T25)] false [0,1,2,4])
(.seq
(.reg 2 [oM 28 T1,oQ 29 (.bin .add T28 (cI 1)),oM 30 T2,oQ 31 (.bin .sub T30 (cI 1)),oM 12 T29,oM 13 T31] [0,1,4,12,13])
(.seq
(.block 0
(.loop
(.seq
(.seq
(.am7 3 [oM 32 T12,oM 33 T13,oQ 34 (.bin .leq T32 T33),oM 35 T34,gQ 36 35 true (.mov T4),gQ 37 35 true (.mov T0),gQ 38 35 true (.mov T12),gQ 39 35 true (.ab5 1 T37 T38),gQ 40 35 true (.load none T39),gQ 41 35 true (.mov T0),gQ 42 35 true (.mov T1),gQ 43 35 true (.ab5 1 T41 T42),gQ 44 35 true (.load none T43),gK 45 35 true (.aj1 T36 [T40,T44]),gQ 46 35 true (.bin .lss T45 (cI 0)),oQ 47 (.pick T35 T46 (cB false))] false [0,1,4,12,13,47])
(.cond T47
.skip
(.exit 0)))
(.block 1
(.reg 4 [oM 48 T12,oQ 49 (.bin .add T48 (cI 1)),oM 12 T49] [0,1,4,12,13])))))
(.seq
(.block 2
(.loop
(.seq
(.seq
(.am7 5 [oM 50 T12,oM 51 T13,oQ 52 (.bin .leq T50 T51),oM 53 T52,gQ 54 53 true (.mov T4),gQ 55 53 true (.mov T0),gQ 56 53 true (.mov T13),gQ 57 53 true (.ab5 1 T55 T56),gQ 58 53 true (.load none T57),gQ 59 53 true (.mov T0),gQ 60 53 true (.mov T1),gQ 61 53 true (.ab5 1 T59 T60),gQ 62 53 true (.load none T61),gK 63 53 true (.aj1 T54 [T58,T62]),gQ 64 53 true (.bin .lss T63 (cI 0)),gQ 65 53 true (.not T64),oQ 66 (.pick T53 T65 (cB false))] false [0,1,4,12,13,66])
(.cond T66
.skip
(.exit 2)))
(.block 3
(.reg 6 [oM 67 T13,oQ 68 (.bin .sub T67 (cI 1)),oM 13 T68] [0,1,4,12,13])))))
(.seq
(.seq
(.reg 7 [oM 69 T12,oM 70 T13,oQ 71 (.bin .gtr T69 T70)] [0,1,4,12,13,71])
(.cond T71
(.seq
(.am7 8 [oM 72 T0,oM 73 T13,oM 74 T0,oM 75 T1,oM 76 T0,oM 77 T1,oQ 78 (.ab5 1 T76 T77),oQ 79 (.load none T78),oM 80 T0,oM 81 T13,oQ 82 (.ab5 1 T80 T81),oQ 83 (.load none T82),oQ 84 (.ab5 1 T72 T73),oN (.store 1 T84 T79),oQ 85 (.ab5 1 T74 T75),oN (.store 1 T85 T83)] false [13])
(.seq
(.reg 9 [oM 86 T13,oM 10 T86,oM 11 (cB true)] [10,11])
.ret))
.skip))
(.seq
(.am7 10 [oM 87 T0,oM 88 T12,oM 89 T0,oM 90 T13,oM 91 T0,oM 92 T13,oQ 93 (.ab5 1 T91 T92),oQ 94 (.load none T93),oM 95 T0,oM 96 T12,oQ 97 (.ab5 1 T95 T96),oQ 98 (.load none T97),oQ 99 (.ab5 1 T87 T88),oN (.store 1 T99 T94),oQ 100 (.ab5 1 T89 T90),oN (.store 1 T100 T98)] false [0,1,4,12,13])
(.seq
(.reg 11 [oM 101 T12,oQ 102 (.bin .add T101 (cI 1)),oM 12 T102] [0,1,4,12,13])
(.seq
(.reg 12 [oM 103 T13,oQ 104 (.bin .sub T103 (cI 1)),oM 13 T104] [0,1,4,12,13])
(.seq
(.block 4
(.loop
(.block 5
(.seq
(.block 6
(.loop
(.seq
(.seq
(.am7 13 [oM 105 T12,oM 106 T13,oQ 107 (.bin .leq T105 T106),oM 108 T107,gQ 109 108 true (.mov T4),gQ 110 108 true (.mov T0),gQ 111 108 true (.mov T12),gQ 112 108 true (.ab5 1 T110 T111),gQ 113 108 true (.load none T112),gQ 114 108 true (.mov T0),gQ 115 108 true (.mov T1),gQ 116 108 true (.ab5 1 T114 T115),gQ 117 108 true (.load none T116),gK 118 108 true (.aj1 T109 [T113,T117]),gQ 119 108 true (.bin .lss T118 (cI 0)),oQ 120 (.pick T108 T119 (cB false))] false [0,1,4,12,13,120])
(.cond T120
.skip
(.exit 6)))
(.block 7
(.reg 14 [oM 121 T12,oQ 122 (.bin .add T121 (cI 1)),oM 12 T122] [0,1,4,12,13])))))
(.seq
(.block 8
(.loop
(.seq
(.seq
(.am7 15 [oM 123 T12,oM 124 T13,oQ 125 (.bin .leq T123 T124),oM 126 T125,gQ 127 126 true (.mov T4),gQ 128 126 true (.mov T0),gQ 129 126 true (.mov T13),gQ 130 126 true (.ab5 1 T128 T129),gQ 131 126 true (.load none T130),gQ 132 126 true (.mov T0),gQ 133 126 true (.mov T1),gQ 134 126 true (.ab5 1 T132 T133),gQ 135 126 true (.load none T134),gK 136 126 true (.aj1 T127 [T131,T135]),gQ 137 126 true (.bin .lss T136 (cI 0)),gQ 138 126 true (.not T137),oQ 139 (.pick T126 T138 (cB false))] false [0,1,4,12,13,139])
(.cond T139
.skip
(.exit 8)))
(.block 9
(.reg 16 [oM 140 T13,oQ 141 (.bin .sub T140 (cI 1)),oM 13 T141] [0,1,4,12,13])))))
(.seq
(.seq
(.reg 17 [oM 142 T12,oM 143 T13,oQ 144 (.bin .gtr T142 T143)] [0,1,4,12,13,144])
(.cond T144
(.exit 4)
.skip))
(.seq
(.am7 18 [oM 145 T0,oM 146 T12,oM 147 T0,oM 148 T13,oM 149 T0,oM 150 T13,oQ 151 (.ab5 1 T149 T150),oQ 152 (.load none T151),oM 153 T0,oM 154 T12,oQ 155 (.ab5 1 T153 T154),oQ 156 (.load none T155),oQ 157 (.ab5 1 T145 T146),oN (.store 1 T157 T152),oQ 158 (.ab5 1 T147 T148),oN (.store 1 T158 T156)] false [0,1,4,12,13])
(.seq
(.reg 19 [oM 159 T12,oQ 160 (.bin .add T159 (cI 1)),oM 12 T160] [0,1,4,12,13])
(.reg 20 [oM 161 T13,oQ 162 (.bin .sub T161 (cI 1)),oM 13 T162] [0,1,4,12,13])))))))))
(.seq
(.am7 21 [oM 163 T0,oM 164 T13,oM 165 T0,oM 166 T1,oM 167 T0,oM 168 T1,oQ 169 (.ab5 1 T167 T168),oQ 170 (.load none T169),oM 171 T0,oM 172 T13,oQ 173 (.ab5 1 T171 T172),oQ 174 (.load none T173),oQ 175 (.ab5 1 T163 T164),oN (.store 1 T175 T170),oQ 176 (.ab5 1 T165 T166),oN (.store 1 T176 T174)] false [13])
(.seq
(.reg 22 [oM 177 T13,oM 10 T177,oM 11 (cB false)] [10,11])
.ret))))))))))))
theorem fok230:FOK Tryz.prog 230 (178,ic230,[(.t 10),(.t 11)]):=aj5 [] Tryz.func230
def ic232:IC :=
(.seq
(.reg 0 [oM 2 (cI 0)] [0,2])
(.seq
(.seq
(.reg 1 [oM 3 T0,oQ 4 (.bin .geq T3 (.c (.int .u64 4294967296)))] [0,2,4])
(.cond T4
(.seq
(.reg 2 [oM 5 T0,oQ 6 (.bin .shr T5 (.c (.int .u64 32))),oM 0 T6] [0])
(.reg 3 [oM 2 (cI 32)] [0,2]))
.skip))
(.seq
(.seq
(.reg 4 [oM 7 T0,oQ 8 (.bin .geq T7 (.c (.int .u64 65536)))] [0,2,8])
(.cond T8
(.seq
(.reg 5 [oM 9 T0,oQ 10 (.bin .shr T9 (.c (.int .u64 16))),oM 0 T10] [0,2])
(.reg 6 [oM 11 T2,oQ 12 (.bin .add T11 (cI 16)),oM 2 T12] [0,2]))
.skip))
(.seq
(.seq
(.reg 7 [oM 13 T0,oQ 14 (.bin .geq T13 (.c (.int .u64 256)))] [0,2,14])
(.cond T14
(.seq
(.reg 8 [oM 15 T0,oQ 16 (.bin .shr T15 (.c (.int .u64 8))),oM 0 T16] [0,2])
(.reg 9 [oM 17 T2,oQ 18 (.bin .add T17 (cI 8)),oM 2 T18] [0,2]))
.skip))
(.seq
(.reg 10 [oM 19 T2,oM 20 T0,oQ 21 (.conv .u8 T20),oQ 22 (.ez8 (.c (.str [0,1,2,2,3,3,3,3,4,4,4,4,4,4,4,4,5,5,5,5,5,5,5,5,5,5,5,5,5,5,5,5,6,6,6,6,6,6,6,6,6,6,6,6,6,6,6,6,6,6,6,6,6,6,6,6,6,6,6,6,6,6,6,6,7,7,7,7,7,7,7,7,7,7,7,7,7,7,7,7,7,7,7,7,7,7,7,7,7,7,7,7,7,7,7,7,7,7,7,7,7,7,7,7,7,7,7,7,7,7,7,7,7,7,7,7,7,7,7,7,7,7,7,7,7,7,7,7,8,8,8,8,8,8,8,8,8,8,8,8,8,8,8,8,8,8,8,8,8,8,8,8,8,8,8,8,8,8,8,8,8,8,8,8,8,8,8,8,8,8,8,8,8,8,8,8,8,8,8,8,8,8,8,8,8,8,8,8,8,8,8,8,8,8,8,8,8,8,8,8,8,8,8,8,8,8,8,8,8,8,8,8,8,8,8,8,8,8,8,8,8,8,8,8,8,8,8,8,8,8,8,8,8,8,8,8,8,8,8,8,8,8,8,8,8,8,8,8,8,8,8,8,8,8,8,8])) T21),oQ 23 (.conv .i64 T22),oQ 24 (.bin .add T19 T23),oM 2 T24] [2])
.ret)))))
theorem fok232:FOK Tryz.prog 232 (25,ic232,[(.t 2)]):=aj5 [] Tryz.func232
def ic233:IC :=
(.seq
(.reg 0 [⟨(some 2),none,(.q (.mov (.c (.str []))))⟩] [0])
(.seq
(.seq
(.reg 1 [⟨(some 3),none,(.q (.mov T0))⟩,⟨(some 4),none,(.call 189 [T3])⟩,⟨(some 5),none,(.q (.not T4))⟩] [0,5])
(.cond T5
(.seq
(.reg 2 [⟨(some 2),none,(.q (.mov (.c (.str []))))⟩] [2])
.ret)
.skip))
(.seq
(.reg 3 [⟨(some 6),none,(.call 295 [])⟩,⟨(some 7),none,(.q (.mov T0))⟩,⟨(some 8),none,(.q (.idx none 5 1 T6 T7))⟩,⟨(some 2),none,(.q (.mov T8))⟩] [2])
.ret)))
theorem fok233:FOK Tryz.prog 233 (9,ic233,[(.t 2)]):=.mk (pf:=[]) (an:=[(0,[0]),(1,[0,5]),(2,[2]),(3,[2])]) (by kernel_rfl) (ac3 Tryz.func233 (by kernel_rfl) (by kernel_rfl) (by kernel_rfl))
def ic234:IC :=
(.seq
(.reg 0 [⟨(some 5),none,(.an3 T2)⟩,⟨(some 6),none,(.q (.mov (.c (.bool false))))⟩] [0,1,5])
(.seq
(.reg 1 [⟨(some 7),none,(.q (.mov T0))⟩,⟨(some 8),none,(.q (.len 0 T7))⟩,⟨(some 9),none,(.q (.mov T1))⟩,⟨(some 10),none,(.q (.bin .leq T8 T9))⟩,⟨(some 11),none,(.q (.mov T10))⟩,⟨(some 12),(some ⟨11,true⟩),(.q (.mov T0))⟩,⟨(some 13),(some ⟨11,true⟩),(.q (.mkf 296 [] [T5]))⟩,⟨(some 14),(some ⟨11,true⟩),(.call 137 [T12,T13])⟩,⟨(some 15),(some ⟨11,true⟩),(.q (.not T14))⟩,⟨(some 16),none,(.q (.pick T11 T15 (.c (.bool false))))⟩,⟨(some 6),none,(.q (.mov T16))⟩] [6])
.ret))
theorem fok234:FOK Tryz.prog 234 (17,ic234,[(.t 6)]):=.mk (pf:=[1000005]) (an:=[(0,[0,1,5]),(1,[6])]) (by kernel_rfl) (ac3 Tryz.func234 (by kernel_rfl) (by kernel_rfl) (by kernel_rfl))
def ic235:IC :=
(.seq
(.reg 0 [⟨(some 5),none,(.an3 T2)⟩,⟨(some 6),none,(.q (.mov (.c (.bool false))))⟩] [0,1,5])
(.seq
(.reg 1 [⟨(some 7),none,(.q (.mov T0))⟩,⟨(some 8),none,(.q (.len 0 T7))⟩,⟨(some 9),none,(.q (.mov T1))⟩,⟨(some 10),none,(.q (.bin .leq T8 T9))⟩,⟨(some 11),none,(.q (.mov T10))⟩,⟨(some 12),(some ⟨11,true⟩),(.q (.mov T0))⟩,⟨(some 13),(some ⟨11,true⟩),(.q (.mkf 298 [] [T5]))⟩,⟨(some 14),(some ⟨11,true⟩),(.call 297 [T12,T13])⟩,⟨(some 15),(some ⟨11,true⟩),(.q (.not T14))⟩,⟨(some 16),none,(.q (.pick T11 T15 (.c (.bool false))))⟩,⟨(some 6),none,(.q (.mov T16))⟩] [6])
.ret))
theorem fok235:FOK Tryz.prog 235 (17,ic235,[(.t 6)]):=.mk (pf:=[1000005]) (an:=[(0,[0,1,5]),(1,[6])]) (by kernel_rfl) (ac3 Tryz.func235 (by kernel_rfl) (by kernel_rfl) (by kernel_rfl))
def ic236:IC :=
(.seq
(.reg 0 [⟨(some 1),none,(.an3 T0)⟩,⟨(some 2),none,(.q (.mov (.c .af2)))⟩] [1])
(.seq
(.reg 1 [⟨(some 3),none,(.q (.mkf 299 [] [T1]))⟩,⟨(some 2),none,(.q (.mov T3))⟩] [2])
.ret))
theorem fok236:FOK Tryz.prog 236 (4,ic236,[(.t 2)]):=.mk (pf:=[1000001]) (an:=[(0,[1]),(1,[2])]) (by kernel_rfl) (ac3 Tryz.func236 (by kernel_rfl) (by kernel_rfl) (by kernel_rfl))
def ic237:IC :=
(.seq
(.reg 0 [⟨(some 5),none,(.an3 T2)⟩,⟨(some 6),none,(.q (.mov (.c (.bool false))))⟩] [0,1,5])
(.seq
(.reg 1 [⟨(some 7),none,(.q (.mov T0))⟩,⟨(some 8),none,(.q (.len 0 T7))⟩,⟨(some 9),none,(.q (.mov T1))⟩,⟨(some 10),none,(.q (.bin .leq T8 T9))⟩,⟨(some 11),none,(.q (.mov T10))⟩,⟨(some 12),(some ⟨11,true⟩),(.q (.mov T0))⟩,⟨(some 13),(some ⟨11,true⟩),(.q (.mkf 300 [] [T5]))⟩,⟨(some 14),(some ⟨11,true⟩),(.call 140 [T12,T13])⟩,⟨(some 15),(some ⟨11,true⟩),(.q (.not T14))⟩,⟨(some 16),none,(.q (.pick T11 T15 (.c (.bool false))))⟩,⟨(some 6),none,(.q (.mov T16))⟩] [6])
.ret))
theorem fok237:FOK Tryz.prog 237 (17,ic237,[(.t 6)]):=.mk (pf:=[1000005]) (an:=[(0,[0,1,5]),(1,[6])]) (by kernel_rfl) (ac3 Tryz.func237 (by kernel_rfl) (by kernel_rfl) (by kernel_rfl))
def ic238:IC :=
(.seq
(.reg 0 [⟨(some 2),none,(.an3 T0)⟩,⟨(some 3),none,(.q (.mov (.c (.bool false))))⟩] [1,2])
(.seq
(.reg 1 [⟨(some 4),none,(.q (.load (some 7) T2))⟩,⟨(some 5),none,(.q (.load none T1))⟩,⟨(some 6),none,(.call 239 [T4,T5])⟩,⟨(some 7),none,(.q (.bin .eql T6 (.c (.int .i64 0))))⟩,⟨(some 3),none,(.q (.mov T7))⟩] [3])
.ret))
theorem fok238:FOK Tryz.prog 238 (8,ic238,[(.t 3)]):=.mk (pf:=[1000002]) (an:=[(0,[1,2]),(1,[3])]) (by kernel_rfl) (ac3 Tryz.func238 (by kernel_rfl) (by kernel_rfl) (by kernel_rfl))
def ic239:IC :=
(.seq
(.reg 0 [⟨(some 2),none,(.an3 T0)⟩,⟨(some 3),none,(.an3 T1)⟩,⟨(some 4),none,(.alloc [(.int .i64 0)])⟩] [2,3,4])
(.seq
(.block 0
(.seq
(.reg 1 [⟨(some 9),none,(.q (.load none T3))⟩,⟨(some 10),none,(.q (.bin .lss T9 (.c (.int .u8 1))))⟩,⟨(some 11),none,(.q (.mov T10))⟩,⟨(some 12),(some ⟨11,false⟩),(.q (.load none T3))⟩,⟨(some 13),(some ⟨11,false⟩),(.q (.bin .gtr T12 (.c (.int .u8 3))))⟩,⟨(some 14),none,(.q (.pick T11 (.c (.bool true)) T13))⟩,⟨(some 8),none,(.q (.mov T14))⟩] [2,3,4,8])
(.cond T8
(.seq
(.reg 2 [⟨none,none,(.store 1 T4 (.c (.int .i64 1)))⟩] [4])
.ret)
(.seq
(.reg 3 [⟨(some 16),none,(.q (.load (some 7) T2))⟩,⟨(some 17),none,(.call 301 [T16])⟩,⟨(some 18),none,(.q (.bin .gtr T17 (.c (.int .i64 24))))⟩,⟨(some 15),none,(.q (.mov T18))⟩] [2,3,4,15])
(.cond T15
(.seq
(.reg 4 [⟨none,none,(.store 1 T4 (.c (.int .i64 40)))⟩] [4])
.ret)
(.seq
(.reg 5 [⟨(some 20),none,(.q (.load (some 7) T2))⟩,⟨(some 21),none,(.call 302 [T20])⟩,⟨(some 22),none,(.q (.bin .gtr T21 (.c (.int .i64 8))))⟩,⟨(some 19),none,(.q (.mov T22))⟩] [2,3,4,19])
(.cond T19
(.seq
(.reg 6 [⟨none,none,(.store 1 T4 (.c (.int .i64 21)))⟩] [4])
.ret)
.skip)))))))
(.seq
(.seq
(.reg 7 [⟨(some 23),none,(.q (.load (some 7) T2))⟩,⟨(some 24),none,(.call 213 [T23])⟩] [3,4,24])
(.block 1
(.bd6 T24 [25,26]
(.seq
(.reg 8 [⟨(some 5),none,(.alloc [(.int .u8 0),(.str []),(.int .u8 0),(.int .i64 0),(.str []),(.str []),.aa1])⟩,⟨none,none,(.store 7 T5 T25)⟩] [3,4,5,26])
(.reg 9 [⟨(some 6),none,(.q (.mov T26))⟩] [3,4,5,6]))
(.block 2
(.seq
(.reg 10 [⟨(some 27),none,(.q (.ab2 0 T5))⟩,⟨(some 28),none,(.q (.load none T27))⟩,⟨(some 29),none,(.call 303 [T28])⟩,⟨(some 7),none,(.alloc [(.int .i64 0),(.int .i64 0),(.bool false),(.int .u8 0)])⟩,⟨none,none,(.store 4 T7 T29)⟩] [3,4,5,6,7])
(.block 3
(.seq
(.seq
(.reg 11 [⟨(some 31),none,(.q (.ab2 3 T7))⟩,⟨(some 32),none,(.q (.load none T31))⟩,⟨(some 33),none,(.q (.load none T3))⟩,⟨(some 34),none,(.q (.bin .lss T32 T33))⟩,⟨(some 30),none,(.q (.mov T34))⟩] [4,5,6,7,30])
(.cond T30
.skip
(.seq
(.reg 12 [⟨(some 35),none,(.q (.mov T6))⟩,⟨(some 36),none,(.q (.mov T35))⟩,⟨(some 37),(some ⟨36,true⟩),(.q (.ab2 2 T7))⟩,⟨(some 38),(some ⟨36,true⟩),(.q (.load none T37))⟩,⟨(some 39),(some ⟨36,true⟩),(.q (.not T38))⟩,⟨(some 40),none,(.q (.pick T36 T39 (.c (.bool false))))⟩,⟨(some 30),none,(.q (.mov T40))⟩] [4,5,7,30])
(.cond T30
.skip
(.seq
(.reg 13 [⟨(some 41),none,(.q (.ab2 6 T5))⟩,⟨(some 42),none,(.q (.load none T41))⟩,⟨(some 43),none,(.q (.len 0 T42))⟩,⟨(some 44),none,(.q (.ab2 0 T7))⟩,⟨(some 45),none,(.q (.load none T44))⟩,⟨(some 46),none,(.q (.bin .lss T43 T45))⟩,⟨(some 30),none,(.q (.mov T46))⟩] [4,5,7,30])
(.cond T30
.skip
(.reg 14 [⟨(some 47),none,(.q (.ab2 6 T5))⟩,⟨(some 48),none,(.q (.load none T47))⟩,⟨(some 49),none,(.q (.len 0 T48))⟩,⟨(some 50),none,(.q (.ab2 1 T7))⟩,⟨(some 51),none,(.q (.load none T50))⟩,⟨(some 52),none,(.q (.bin .gtr T49 T51))⟩,⟨(some 30),none,(.q (.mov T52))⟩] [4,5,30])))))))
(.cond T30
(.seq
(.reg 15 [⟨none,none,(.store 1 T4 (.c (.int .i64 4)))⟩] [])
.ret)
(.seq
(.seq
(.reg 16 [⟨(some 54),none,(.q (.ab2 0 T5))⟩,⟨(some 55),none,(.q (.load none T54))⟩,⟨(some 56),none,(.q (.bin .eql T55 (.c (.int .u8 1))))⟩,⟨(some 57),none,(.q (.mov T56))⟩,⟨(some 58),(some ⟨57,true⟩),(.q (.ab2 1 T5))⟩,⟨(some 59),(some ⟨57,true⟩),(.q (.load (some 5) T58))⟩,⟨(some 60),(some ⟨57,true⟩),(.call 127 [T59])⟩,⟨(some 61),(some ⟨57,true⟩),(.q (.not T60))⟩,⟨(some 62),none,(.q (.pick T57 T61 (.c (.bool false))))⟩,⟨(some 53),none,(.q (.mov T62))⟩] [4,5,53])
(.cond T53
.skip
(.reg 17 [⟨(some 63),none,(.q (.ab2 0 T5))⟩,⟨(some 64),none,(.q (.load none T63))⟩,⟨(some 65),none,(.q (.bin .neq T64 (.c (.int .u8 1))))⟩,⟨(some 66),none,(.q (.mov T65))⟩,⟨(some 67),(some ⟨66,true⟩),(.q (.ab2 1 T5))⟩,⟨(some 68),(some ⟨66,true⟩),(.q (.load (some 5) T67))⟩,⟨(some 69),(some ⟨66,true⟩),(.q (.bld [(.str []),(.int .u8 0),(.int .i64 0),(.str []),(.str [])] []))⟩,⟨(some 70),(some ⟨66,true⟩),(.q (.eqs [2,1,1,2,2] true true T68 T69))⟩,⟨(some 71),none,(.q (.pick T66 T70 (.c (.bool false))))⟩,⟨(some 53),none,(.q (.mov T71))⟩] [4,53])))
(.cond T53
(.seq
(.reg 18 [⟨none,none,(.store 1 T4 (.c (.int .i64 4)))⟩] [])
.ret)
.skip))))))))))
(.seq
(.reg 19 [⟨none,none,(.store 1 T4 (.c (.int .i64 0)))⟩] [4])
.ret))))
theorem fok239:FOK Tryz.prog 239 (72,ic239,[(.cell none 4)]):=.mk (pf:=[1000002,1000003]) (an:=[(0,[2,3,4]),(1,[2,3,4,8]),(2,[4]),(3,[2,3,4,15]),(4,[4]),(5,[2,3,4,19]),(6,[4]),(7,[3,4,24]),(8,[3,4,5,26]),(9,[3,4,5,6]),(10,[3,4,5,6,7]),(11,[4,5,6,7,30]),(12,[4,5,7,30]),(13,[4,5,7,30]),(14,[4,5,30]),(16,[4,5,53]),(17,[4,53]),(19,[4])]) (by kernel_rfl) (ac3 Tryz.func239 (by kernel_rfl) (by kernel_rfl) (by kernel_rfl))
def ic240:IC :=
(.seq
(.reg 0 [oM 2 (.c .aa1)] [0])
(.seq
(.reg 1 [oM 3 T0,oK 4 (.call 304 [(.c .aa1),T3]),oM 2 T4] [2])
.ret))
theorem fok240:FOK Tryz.prog 240 (5,ic240,[(.t 2)]):=aj5 [] Tryz.func240
def ic241:IC :=
(.seq
(.reg 0 [oQ 5 (.load none T1),oQ 6 (.len 0 T5),oM 7 (cI 0)] [0,5,6,7])
(.block 0
(.loop
(.seq
(.reg 1 [oQ 8 (.bin .lss T7 T6)] [0,5,6,7,8])
(.seq
(.cond T8
.skip
(.exit 0))
(.seq
(.block 1
(.seq
(.reg 2 [oQ 9 (.ab5 1 T5 T7),oQ 10 (.load none T9),oM 4 T10] [0,4,5,6,7])
(.seq
(.reg 3 [oM 11 T0,oM 12 T4,oK 13 (.aj1 T11 [T12]),oQ 14 (.not T13)] [0,5,6,7,14])
(.cond T14
.ret
.skip))))
(.reg 4 [oQ 15 (.bin .add T7 (cI 1)),oM 7 T15] [0,5,6,7])))))))
theorem fok241:FOK Tryz.prog 241 (16,ic241,[]):=aj5 [] Tryz.func241
def ic254:IC :=
(.seq
(.reg 0 [oK 1 (.an3 T0),oK 2 (.alloc [(.str []),(zU 0),(zI 0),(.str []),(.str [])])] [1,2])
(.seq
(.reg 1 [oQ 3 (.ab2 0 T1),oQ 4 (.load none T3),oQ 5 (.ab2 1 T1),oQ 6 (.load (some 3) T5),oK 7 (.call 309 [T4,T6]),oN (.store 5 T2 T7)] [2])
.ret))
theorem fok254:FOK Tryz.prog 254 (8,ic254,[(.cell (some 5) 2)]):=aj5 [1000001] Tryz.func254
def ic260:IC :=
(.seq
(.reg 0 [⟨(some 4),none,(.q (.mov (.c (.int .i64 0))))⟩] [0,1])
(.seq
(.seq
(.reg 1 [⟨(some 6),none,(.q (.mov T0))⟩,⟨(some 7),none,(.q (.len 0 T6))⟩,⟨(some 8),none,(.q (.mov (.c (.int .i64 0))))⟩] [0,1,7,8])
(.block 0
(.loop
(.seq
(.reg 2 [⟨(some 9),none,(.q (.bin .lss T8 T7))⟩] [0,1,7,8,9])
(.seq
(.cond T9
.skip
(.exit 0))
(.seq
(.block 1
(.seq
(.reg 3 [⟨(some 10),none,(.q (.mov T8))⟩,⟨(some 5),none,(.q (.mov T10))⟩] [0,1,5,7,8])
(.seq
(.reg 4 [⟨(some 11),none,(.q (.mov T1))⟩,⟨(some 12),none,(.q (.mov T0))⟩,⟨(some 13),none,(.q (.mov T5))⟩,⟨(some 14),none,(.q (.ab5 1 T12 T13))⟩,⟨(some 15),none,(.q (.load none T14))⟩,⟨(some 16),none,(.q (.bin .eql T11 T15))⟩] [0,1,5,7,8,16])
(.cond T16
(.seq
(.reg 5 [⟨(some 17),none,(.q (.mov T5))⟩,⟨(some 4),none,(.q (.mov T17))⟩] [4])
.ret)
.skip))))
(.reg 6 [⟨(some 18),none,(.q (.bin .add T8 (.c (.int .i64 1))))⟩,⟨(some 8),none,(.q (.mov T18))⟩] [0,1,7,8])))))))
(.seq
(.reg 7 [⟨(some 4),none,(.q (.mov (.c (.int .i64 (-1)))))⟩] [4])
.ret)))
theorem fok260:FOK Tryz.prog 260 (19,ic260,[(.t 4)]):=.mk (pf:=[]) (an:=[(0,[0,1]),(1,[0,1,7,8]),(2,[0,1,7,8,9]),(3,[0,1,5,7,8]),(4,[0,1,5,7,8,16]),(5,[4]),(6,[0,1,7,8]),(7,[4])]) (by kernel_rfl) (ac3 Tryz.func260 (by kernel_rfl) (by kernel_rfl) (by kernel_rfl))
def ic270:IC :=
(.seq
(.reg 0 [oK 1 (.an3 T0),oM 2 (.c .af2)] [1])
(.seq
(.reg 1 [oQ 3 (.mkf 314 [] [T1]),oM 2 T3] [2])
.ret))
theorem fok270:FOK Tryz.prog 270 (4,ic270,[(.t 2)]):=aj5 [1000001] Tryz.func270
def ic271:IC :=
(.seq
(.reg 0 [oM 2 (cI 0)] [0])
(.seq
(.reg 1 [oM 3 (cI 0)] [0,3])
(.seq
(.seq
(.reg 2 [oM 6 T0,oQ 7 (.len 0 T6),oM 8 (cI 0)] [3,6,7,8])
(.block 0
(.loop
(.seq
(.reg 3 [oQ 9 (.bin .lss T8 T7)] [3,6,7,8,9])
(.seq
(.cond T9
.skip
(.exit 0))
(.seq
(.block 1
(.seq
(.reg 4 [oQ 10 (.ab5 1 T6 T8),oQ 11 (.load none T10),oM 5 T11] [3,5,6,7,8])
(.seq
(.reg 5 [oM 12 T5,oM 13 T3,oQ 14 (.bin .neq T12 T13)] [3,5,6,7,8,14])
(.cond T14
(.seq
(.reg 6 [oM 15 T5,oM 2 T15] [2])
.ret)
.skip))))
(.reg 7 [oQ 16 (.bin .add T8 (cI 1)),oM 8 T16] [3,6,7,8])))))))
(.seq
(.reg 8 [oM 17 T3,oM 2 T17] [2])
.ret))))
theorem fok271:FOK Tryz.prog 271 (18,ic271,[(.t 2)]):=aj5 [] Tryz.func271
def ic272:IC :=
(.seq
(.reg 0 [oM 4 (cI 0)] [0,1])
(.seq
(.reg 1 [oM 7 T0,oK 8 (.call 317 [T7]),oM 5 T8] [0,1,5])
(.seq
(.reg 2 [oM 9 T1,oK 10 (.call 317 [T9]),oM 6 T10] [0,1,5,6])
(.seq
(.seq
(.reg 3 [oM 11 T5] [0,1,6,11])
(.cond T11
(.seq
(.seq
(.reg 4 [oM 12 T6] [12])
(.cond T12
(.seq
(.reg 5 [oM 4 (cI 0)] [4])
.ret)
.skip))
(.seq
(.reg 6 [oM 4 (cI (-1))] [4])
.ret))
.skip))
(.seq
(.seq
(.reg 7 [oM 13 T6] [0,1,13])
(.cond T13
(.seq
(.reg 8 [oM 4 (cI 1)] [4])
.ret)
.skip))
(.seq
(.seq
(.reg 9 [oM 14 T0,oM 15 T1,oQ 16 (.bin .lss T14 T15)] [0,1,16])
(.cond T16
(.seq
(.reg 10 [oM 4 (cI (-1))] [4])
.ret)
.skip))
(.seq
(.seq
(.reg 11 [oM 17 T0,oM 18 T1,oQ 19 (.bin .gtr T17 T18)] [19])
(.cond T19
(.seq
(.reg 12 [oM 4 (cI 1)] [4])
.ret)
.skip))
(.seq
(.reg 13 [oM 4 (cI 0)] [4])
.ret))))))))
theorem fok272:FOK Tryz.prog 272 (20,ic272,[(.t 4)]):=aj5 [] Tryz.func272
def ic273:IC :=
(.seq
(.reg 0 [oM 4 (cI 0)] [0,1])
(.seq
(.reg 1 [oM 7 T0,oK 8 (.call 318 [T7]),oM 5 T8] [0,1,5])
(.seq
(.reg 2 [oM 9 T1,oK 10 (.call 318 [T9]),oM 6 T10] [0,1,5,6])
(.seq
(.seq
(.reg 3 [oM 11 T5] [0,1,6,11])
(.cond T11
(.seq
(.seq
(.reg 4 [oM 12 T6] [12])
(.cond T12
(.seq
(.reg 5 [oM 4 (cI 0)] [4])
.ret)
.skip))
(.seq
(.reg 6 [oM 4 (cI (-1))] [4])
.ret))
.skip))
(.seq
(.seq
(.reg 7 [oM 13 T6] [0,1,13])
(.cond T13
(.seq
(.reg 8 [oM 4 (cI 1)] [4])
.ret)
.skip))
(.seq
(.seq
(.reg 9 [oM 14 T0,oM 15 T1,oQ 16 (.bin .lss T14 T15)] [0,1,16])
(.cond T16
(.seq
(.reg 10 [oM 4 (cI (-1))] [4])
.ret)
.skip))
(.seq
(.seq
(.reg 11 [oM 17 T0,oM 18 T1,oQ 19 (.bin .gtr T17 T18)] [19])
(.cond T19
(.seq
(.reg 12 [oM 4 (cI 1)] [4])
.ret)
.skip))
(.seq
(.reg 13 [oM 4 (cI 0)] [4])
.ret))))))))
theorem fok273:FOK Tryz.prog 273 (20,ic273,[(.t 4)]):=aj5 [] Tryz.func273
def ic274:IC :=
(.seq
(.reg 0 [⟨(some 4),none,(.q (.mov (.c (.int .i64 0))))⟩] [0,1])
(.seq
(.reg 1 [⟨(some 5),none,(.q (.mov T0))⟩,⟨(some 6),none,(.q (.mov T1))⟩,⟨(some 7),none,(.call 319 [T5,T6])⟩,⟨(some 4),none,(.q (.mov T7))⟩] [4])
.ret))
theorem fok274:FOK Tryz.prog 274 (8,ic274,[(.t 4)]):=.mk (pf:=[]) (an:=[(0,[0,1]),(1,[4])]) (by kernel_rfl) (ac3 Tryz.func274 (by kernel_rfl) (by kernel_rfl) (by kernel_rfl))
def ic275:IC :=
(.seq
(.reg 0 [⟨(some 2),none,(.q (.mov (.c (.str []))))⟩] [0])
(.seq
(.seq
(.reg 1 [⟨(some 5),none,(.q (.load none (.g 1)))⟩,⟨(some 6),none,(.aw6 T5)⟩] [0,6])
(.block 0
(.loop
(.seq
(.reg 2 [⟨(some 7),none,(.bw2 T6)⟩,⟨(some 8),none,(.q (.ext 0 T7))⟩] [0,6,8])
(.seq
(.cond T8
.skip
(.exit 0))
(.block 1
(.seq
(.reg 3 [⟨(some 9),none,(.em3 T6)⟩,⟨(some 10),none,(.q (.ext 0 T9))⟩,⟨(some 11),none,(.q (.ext 1 T9))⟩,⟨(some 3),none,(.q (.mov T10))⟩,⟨(some 4),none,(.q (.mov T11))⟩] [0,3,4,6])
(.seq
(.reg 4 [⟨(some 12),none,(.q (.mov T4))⟩,⟨(some 13),none,(.q (.mov T0))⟩,⟨(some 14),none,(.q (.bin .eql T12 T13))⟩] [0,3,6,14])
(.cond T14
(.seq
(.reg 5 [⟨(some 15),none,(.q (.mov T3))⟩,⟨(some 2),none,(.q (.mov T15))⟩] [2])
.ret)
.skip)))))))))
(.seq
(.reg 6 [⟨(some 2),none,(.q (.mov (.c (.str []))))⟩] [2])
.ret)))
theorem fok275:FOK Tryz.prog 275 (16,ic275,[(.t 2)]):=.mk (pf:=[]) (an:=[(0,[0]),(1,[0,6]),(2,[0,6,8]),(3,[0,3,4,6]),(4,[0,3,6,14]),(5,[2]),(6,[2])]) (by kernel_rfl) (ac3 Tryz.func275 (by kernel_rfl) (by kernel_rfl) (by kernel_rfl))
def ic276:IC :=
(.seq
(.reg 0 [⟨(some 4),none,(.q (.mov (.c (.bool false))))⟩] [0,1])
(.seq
(.reg 1 [⟨(some 5),none,(.q (.mov T0))⟩,⟨(some 6),none,(.q (.mov T1))⟩,⟨(some 7),none,(.call 320 [T5,T6])⟩,⟨(some 4),none,(.q (.mov T7))⟩] [4])
.ret))
theorem fok276:FOK Tryz.prog 276 (8,ic276,[(.t 4)]):=.mk (pf:=[]) (an:=[(0,[0,1]),(1,[4])]) (by kernel_rfl) (ac3 Tryz.func276 (by kernel_rfl) (by kernel_rfl) (by kernel_rfl))
def ic277:IC :=
(.seq
(.reg 0 [⟨(some 2),none,(.q (.mov (.c (.bool false))))⟩] [0])
(.seq
(.seq
(.reg 1 [⟨(some 5),none,(.q (.mov T0))⟩,⟨(some 6),none,(.q (.bin .eql T5 (.c (.str []))))⟩,⟨(some 7),none,(.q (.mov T6))⟩,⟨(some 8),(some ⟨7,false⟩),(.q (.mov T0))⟩,⟨(some 9),(some ⟨7,false⟩),(.q (.len 1 T8))⟩,⟨(some 10),(some ⟨7,false⟩),(.q (.bin .gtr T9 (.c (.int .i64 64))))⟩,⟨(some 11),none,(.q (.pick T7 (.c (.bool true)) T10))⟩] [0,11])
(.cond T11
(.seq
(.reg 2 [⟨(some 2),none,(.q (.mov (.c (.bool false))))⟩] [2])
.ret)
.skip))
(.seq
(.seq
(.reg 3 [⟨(some 12),none,(.q (.mov T0))⟩,⟨(some 13),none,(.q (.len 1 T12))⟩,⟨(some 14),none,(.q (.mov (.c (.int .i64 0))))⟩] [0,13,14])
(.block 0
(.loop
(.seq
(.reg 4 [⟨(some 15),none,(.q (.bin .lss T14 T13))⟩] [0,13,14,15])
(.seq
(.cond T15
.skip
(.exit 0))
(.seq
(.block 1
(.seq
(.reg 5 [⟨(some 16),none,(.q (.mov T14))⟩,⟨(some 3),none,(.q (.mov T16))⟩] [0,3,13,14])
(.seq
(.reg 6 [⟨(some 17),none,(.q (.mov T0))⟩,⟨(some 18),none,(.q (.mov T3))⟩,⟨(some 19),none,(.q (.ez8 T17 T18))⟩,⟨(some 4),none,(.q (.mov T19))⟩] [0,4,13,14])
(.block 2
(.seq
(.seq
(.reg 8 [⟨(some 21),none,(.q (.mov T4))⟩,⟨(some 22),none,(.q (.bin .geq T21 (.c (.int .u8 97))))⟩,⟨(some 23),none,(.q (.mov T22))⟩,⟨(some 24),(some ⟨23,true⟩),(.q (.mov T4))⟩,⟨(some 25),(some ⟨23,true⟩),(.q (.bin .leq T24 (.c (.int .u8 122))))⟩,⟨(some 26),none,(.q (.pick T23 T25 (.c (.bool false))))⟩,⟨(some 20),none,(.q (.mov T26))⟩] [0,4,13,14,20])
(.cond T20
.skip
(.seq
(.reg 9 [⟨(some 27),none,(.q (.mov T4))⟩,⟨(some 28),none,(.q (.bin .geq T27 (.c (.int .u8 65))))⟩,⟨(some 29),none,(.q (.mov T28))⟩,⟨(some 30),(some ⟨29,true⟩),(.q (.mov T4))⟩,⟨(some 31),(some ⟨29,true⟩),(.q (.bin .leq T30 (.c (.int .u8 90))))⟩,⟨(some 32),none,(.q (.pick T29 T31 (.c (.bool false))))⟩,⟨(some 20),none,(.q (.mov T32))⟩] [0,4,13,14,20])
(.cond T20
.skip
(.seq
(.reg 10 [⟨(some 33),none,(.q (.mov T4))⟩,⟨(some 34),none,(.q (.bin .geq T33 (.c (.int .u8 48))))⟩,⟨(some 35),none,(.q (.mov T34))⟩,⟨(some 36),(some ⟨35,true⟩),(.q (.mov T4))⟩,⟨(some 37),(some ⟨35,true⟩),(.q (.bin .leq T36 (.c (.int .u8 57))))⟩,⟨(some 38),none,(.q (.pick T35 T37 (.c (.bool false))))⟩,⟨(some 20),none,(.q (.mov T38))⟩] [0,4,13,14,20])
(.cond T20
.skip
(.reg 11 [⟨(some 39),none,(.q (.mov T4))⟩,⟨(some 40),none,(.call 274 [(.c (.str [46,95,43,126,94])),T39])⟩,⟨(some 41),none,(.q (.bin .geq T40 (.c (.int .i64 0))))⟩,⟨(some 20),none,(.q (.mov T41))⟩] [0,13,14,20])))))))
(.cond T20
.skip
(.seq
(.reg 7 [⟨(some 2),none,(.q (.mov (.c (.bool false))))⟩] [2])
.ret)))))))
(.reg 12 [⟨(some 42),none,(.q (.bin .add T14 (.c (.int .i64 1))))⟩,⟨(some 14),none,(.q (.mov T42))⟩] [0,13,14])))))))
(.seq
(.reg 13 [⟨(some 2),none,(.q (.mov (.c (.bool true))))⟩] [2])
.ret))))
theorem fok277:FOK Tryz.prog 277 (43,ic277,[(.t 2)]):=.mk (pf:=[]) (an:=[(0,[0]),(1,[0,11]),(2,[2]),(3,[0,13,14]),(4,[0,13,14,15]),(5,[0,3,13,14]),(6,[0,4,13,14]),(7,[2]),(8,[0,4,13,14,20]),(9,[0,4,13,14,20]),(10,[0,4,13,14,20]),(11,[0,13,14,20]),(12,[0,13,14]),(13,[2])]) (by kernel_rfl) (ac3 Tryz.func277 (by kernel_rfl) (by kernel_rfl) (by kernel_rfl))
def ic278:IC :=
(.seq
(.reg 0 [⟨(some 4),none,(.an3 T0)⟩,⟨(some 7),none,(.q (.mov (.c (.bool false))))⟩] [1,2,3,4])
(.seq
(.seq
(.reg 1 [⟨(some 10),none,(.q (.mov T2))⟩,⟨(some 11),none,(.q (.load (some 7) T4))⟩,⟨(some 12),none,(.q (.mov T1))⟩,⟨(some 13),none,(.aj1 T10 [T11,T12])⟩,⟨(some 14),none,(.q (.not T13))⟩] [1,2,3,4,14])
(.cond T14
(.seq
(.reg 2 [⟨(some 7),none,(.q (.mov (.c (.bool false))))⟩] [7])
.ret)
.skip))
(.seq
(.reg 3 [⟨(some 15),none,(.q (.mov T1))⟩,⟨(some 16),none,(.q (.mov T15))⟩,⟨(some 17),(some ⟨16,false⟩),(.q (.ab2 0 T4))⟩,⟨(some 18),(some ⟨16,false⟩),(.q (.load none T17))⟩,⟨(some 19),(some ⟨16,false⟩),(.q (.bin .eql T18 (.c (.int .u8 6))))⟩,⟨(some 20),none,(.q (.pick T16 (.c (.bool true)) T19))⟩,⟨(some 21),none,(.q (.mov T20))⟩,⟨(some 22),(some ⟨21,false⟩),(.q (.ab2 0 T4))⟩,⟨(some 23),(some ⟨21,false⟩),(.q (.load none T22))⟩,⟨(some 24),(some ⟨21,false⟩),(.q (.bin .eql T23 (.c (.int .u8 7))))⟩,⟨(some 25),none,(.q (.pick T21 (.c (.bool true)) T24))⟩,⟨(some 1),none,(.q (.mov T25))⟩] [1,2,3,4])
(.seq
(.seq
(.reg 4 [⟨(some 26),none,(.q (.ab2 6 T4))⟩,⟨(some 27),none,(.q (.load none T26))⟩,⟨(some 28),none,(.q (.len 0 T27))⟩,⟨(some 29),none,(.q (.mov (.c (.int .i64 0))))⟩] [1,2,3,27,28,29])
(.block 0
(.loop
(.seq
(.reg 5 [⟨(some 30),none,(.q (.bin .lss T29 T28))⟩] [1,2,3,27,28,29,30])
(.seq
(.cond T30
.skip
(.exit 0))
(.seq
(.block 1
(.seq
(.reg 6 [⟨(some 31),none,(.q (.ab5 7 T27 T29))⟩,⟨(some 32),none,(.q (.load (some 7) T31))⟩,⟨(some 9),none,(.alloc [(.int .u8 0),(.str []),(.int .u8 0),(.int .i64 0),(.str []),(.str []),.aa1])⟩,⟨none,none,(.store 7 T9 T32)⟩] [1,2,3,9,27,28,29])
(.seq
(.reg 7 [⟨(some 33),none,(.q (.load none T3))⟩,⟨(some 34),none,(.q (.load (some 7) T9))⟩,⟨(some 35),none,(.q (.mov T1))⟩,⟨(some 36),none,(.q (.mov T2))⟩,⟨(some 37),none,(.aj1 T33 [T34,T35,T36])⟩,⟨(some 38),none,(.q (.not T37))⟩] [1,2,3,27,28,29,38])
(.cond T38
(.seq
(.reg 8 [⟨(some 7),none,(.q (.mov (.c (.bool false))))⟩] [7])
.ret)
.skip))))
(.reg 9 [⟨(some 39),none,(.q (.bin .add T29 (.c (.int .i64 1))))⟩,⟨(some 29),none,(.q (.mov T39))⟩] [1,2,3,27,28,29])))))))
(.seq
(.reg 10 [⟨(some 7),none,(.q (.mov (.c (.bool true))))⟩] [7])
.ret)))))
theorem fok278:FOK Tryz.prog 278 (40,ic278,[(.t 7)]):=.mk (pf:=[1000004]) (an:=[(0,[1,2,3,4]),(1,[1,2,3,4,14]),(2,[7]),(3,[1,2,3,4]),(4,[1,2,3,27,28,29]),(5,[1,2,3,27,28,29,30]),(6,[1,2,3,9,27,28,29]),(7,[1,2,3,27,28,29,38]),(8,[7]),(9,[1,2,3,27,28,29]),(10,[7])]) (by kernel_rfl) (ac3 Tryz.func278 (by kernel_rfl) (by kernel_rfl) (by kernel_rfl))
def ic279:IC :=
(.reg 0 [⟨(some 4),none,(.q (.load none T1))⟩,⟨(some 5),none,(.q (.load (some 7) T2))⟩,⟨(some 6),none,(.q (.mov T0))⟩,⟨(some 7),none,(.aj1 T4 [T5,(.c (.bool false)),T6])⟩] [])
theorem fok279:FOK Tryz.prog 279 (8,ic279,[]):=.mk (pf:=[]) (an:=[]) (by kernel_rfl) (ac3 Tryz.func279 (by kernel_rfl) (by kernel_rfl) (by kernel_rfl))
def ic280:IC :=
(.seq
(.reg 0 [oK 2 (.an3 T0),oK 3 (.an3 T1),oM 4 (cB false)] [2,3])
(.seq
(.seq
(.reg 1 [oQ 6 (.ab2 1 T2),oQ 7 (.load none T6),oQ 8 (.bin .and T7 (.c (zU 7))),oQ 9 (.bin .eql T8 (.c (zU 0))),oM 10 T9,gQ 11 10 false (.ab2 1 T3),gQ 12 10 false (.load none T11),gQ 13 10 false (.bin .and T12 (.c (zU 7))),gQ 14 10 false (.bin .eql T13 (.c (zU 0))),oQ 15 (.pick T10 (cB true) T14)] [2,3,15])
(.cond T15
(.seq
(.reg 2 [oM 4 (cB true)] [4])
.ret)
.skip))
(.seq
(.reg 3 [oQ 16 (.ab2 2 T2),oQ 17 (.load (some 3) T16),oQ 18 (.ab2 2 T3),oQ 19 (.load (some 3) T18),oK 20 (.call 49 [T17,T19]),oM 5 T20] [2,3,5])
(.seq
(.seq
(.reg 4 [oM 21 T5,oQ 22 (.bin .eql T21 (cI 0))] [2,3,5,22])
(.cond T22
(.seq
(.reg 5 [oQ 23 (.ab2 1 T2),oQ 24 (.load none T23),oQ 25 (.ab2 1 T3),oQ 26 (.load none T25),oQ 27 (.bin .and T24 T26),oQ 28 (.bin .and T27 (.c (zU 7))),oQ 29 (.bin .neq T28 (.c (zU 0))),oM 4 T29] [4])
.ret)
.skip))
(.seq
(.am7 6 [oQ 30 (.ab2 1 T2),oQ 31 (.load none T30),oM 32 T5,oQ 33 (.neg T32),oK 34 (.ag6 321 [T33]),oQ 35 (.bin .and T31 T34),oQ 36 (.bin .neq T35 (.c (zU 0))),oM 37 T36,gQ 38 37 false (.ab2 1 T3),gQ 39 37 false (.load none T38),gQ 40 37 false (.mov T5),gK 41 37 false (.ag6 321 [T40]),gQ 42 37 false (.bin .and T39 T41),gQ 43 37 false (.bin .neq T42 (.c (zU 0))),oQ 44 (.pick T37 (cB true) T43),oM 4 T44] false [4])
.ret)))))
theorem fok280:FOK Tryz.prog 280 (45,ic280,[(.t 4)]):=aj5 ([1000002,1000003]++[321]) Tryz.func280 (by kernel_rfl) (by kernel_rfl) (by kernel_rfl) (by kernel_rfl)
def ic281:IC :=
(.seq
(.reg 0 [oM 4 (cI 0)] [0,1])
(.seq
(.seq
(.reg 1 [oM 6 T0,oQ 7 (.len 0 T6),oM 8 (cI 0)] [0,1,7,8])
(.block 0
(.loop
(.seq
(.reg 2 [oQ 9 (.bin .lss T8 T7)] [0,1,7,8,9])
(.seq
(.cond T9
.skip
(.exit 0))
(.seq
(.block 1
(.seq
(.reg 3 [oM 10 T8,oM 5 T10] [0,1,5,7,8])
(.seq
(.reg 4 [oM 11 T1,oM 12 T0,oM 13 T5,oQ 14 (.ab5 1 T12 T13),oQ 15 (.load none T14),oQ 16 (.bin .eql T11 T15)] [0,1,5,7,8,16])
(.cond T16
(.seq
(.reg 5 [oM 17 T5,oM 4 T17] [4])
.ret)
.skip))))
(.reg 6 [oQ 18 (.bin .add T8 (cI 1)),oM 8 T18] [0,1,7,8])))))))
(.seq
(.reg 7 [oM 4 (cI (-1))] [4])
.ret)))
theorem fok281:FOK Tryz.prog 281 (19,ic281,[(.t 4)]):=aj5 [] Tryz.func281
def ic290:IC :=
(.seq
(.reg 0 [oM 12 T1,oM 10 T12] [0,2,3,4,10])
(.block 0
(.loop
(.block 1
(.seq
(.reg 1 [oM 13 T10,oQ 14 (.bin .mul (cI 2) T13),oQ 15 (.bin .add T14 (cI 1)),oM 11 T15] [0,2,3,4,10,11])
(.seq
(.seq
(.reg 2 [oM 16 T11,oM 17 T2,oQ 18 (.bin .geq T16 T17)] [0,2,3,4,10,11,18])
(.cond T18
(.exit 0)
.skip))
(.seq
(.seq
(.am7 3 [oM 19 T11,oQ 20 (.bin .add T19 (cI 1)),oM 21 T2,oQ 22 (.bin .lss T20 T21),oM 23 T22,gQ 24 23 true (.mov T4),gQ 25 23 true (.mov T0),gQ 26 23 true (.mov T3),gQ 27 23 true (.mov T11),gQ 28 23 true (.bin .add T26 T27),gQ 29 23 true (.ab5 1 T25 T28),gQ 30 23 true (.load none T29),gQ 31 23 true (.mov T0),gQ 32 23 true (.mov T3),gQ 33 23 true (.mov T11),gQ 34 23 true (.bin .add T32 T33),gQ 35 23 true (.bin .add T34 (cI 1)),gQ 36 23 true (.ab5 1 T31 T35),gQ 37 23 true (.load none T36),gK 38 23 true (.aj1 T24 [T30,T37]),gQ 39 23 true (.bin .lss T38 (cI 0)),oQ 40 (.pick T23 T39 (cB false))] false [0,2,3,4,10,11,40])
(.cond T40
(.reg 4 [oM 41 T11,oQ 42 (.bin .add T41 (cI 1)),oM 11 T42] [0,2,3,4,10,11])
.skip))
(.seq
(.seq
(.am7 5 [oM 43 T4,oM 44 T0,oM 45 T3,oM 46 T10,oQ 47 (.bin .add T45 T46),oQ 48 (.ab5 1 T44 T47),oQ 49 (.load none T48),oM 50 T0,oM 51 T3,oM 52 T11,oQ 53 (.bin .add T51 T52),oQ 54 (.ab5 1 T50 T53),oQ 55 (.load none T54),oK 56 (.aj1 T43 [T49,T55]),oQ 57 (.bin .lss T56 (cI 0)),oQ 58 (.not T57)] false [0,2,3,4,10,11,58])
(.cond T58
.ret
.skip))
(.seq
(.am7 6 [oM 59 T0,oM 60 T3,oM 61 T10,oQ 62 (.bin .add T60 T61),oM 63 T0,oM 64 T3,oM 65 T11,oQ 66 (.bin .add T64 T65),oM 67 T0,oM 68 T3,oM 69 T11,oQ 70 (.bin .add T68 T69),oQ 71 (.ab5 1 T67 T70),oQ 72 (.load none T71),oM 73 T0,oM 74 T3,oM 75 T10,oQ 76 (.bin .add T74 T75),oQ 77 (.ab5 1 T73 T76),oQ 78 (.load none T77),oQ 79 (.ab5 1 T59 T62),oN (.store 1 T79 T72),oQ 80 (.ab5 1 T63 T66),oN (.store 1 T80 T78)] false [0,2,3,4,11])
(.reg 7 [oM 81 T11,oM 10 T81] [0,2,3,4,10]))))))))))
theorem fok290:FOK Tryz.prog 290 (82,ic290,[]):=aj5 [] Tryz.func290
def ic291:IC :=
(.seq
(.reg 0 [oM 2 (.c (.int .u64 0))] [0])
(.seq
(.reg 1 [oM 3 T0,oQ 4 (.conv .u64 T3),oK 5 (.call 154 [T4]),oQ 6 (.bin .shl (.c (.int .u64 1)) T5),oM 2 T6] [2])
.ret))
theorem fok291:FOK Tryz.prog 291 (7,ic291,[(.t 2)]):=aj5 [] Tryz.func291
def ic292:IC :=
(.seq
(.reg 0 [oM 2 (.c (.int .u64 0))] [0])
(.seq
(.am7 1 [oM 3 T0,oQ 4 (.bc9 T3),oQ 5 (.load none T4),oM 6 T0,oQ 7 (.bc9 T6),oQ 8 (.load none T7),oQ 9 (.bin .shl T8 (.c (.int .u64 13))),oQ 10 (.bin .xor T5 T9),oQ 11 (.bc9 T3),oN (.store 1 T11 T10)] false [0])
(.seq
(.am7 2 [oM 12 T0,oQ 13 (.bc9 T12),oQ 14 (.load none T13),oM 15 T0,oQ 16 (.bc9 T15),oQ 17 (.load none T16),oQ 18 (.bin .shr T17 (.c (.int .u64 7))),oQ 19 (.bin .xor T14 T18),oQ 20 (.bc9 T12),oN (.store 1 T20 T19)] false [0])
(.seq
(.am7 3 [oM 21 T0,oQ 22 (.bc9 T21),oQ 23 (.load none T22),oM 24 T0,oQ 25 (.bc9 T24),oQ 26 (.load none T25),oQ 27 (.bin .shl T26 (.c (.int .u64 17))),oQ 28 (.bin .xor T23 T27),oQ 29 (.bc9 T21),oN (.store 1 T29 T28)] false [0])
(.seq
(.reg 4 [oM 30 T0,oQ 31 (.bc9 T30),oQ 32 (.load none T31),oM 2 T32] [2])
.ret)))))
theorem fok292:FOK Tryz.prog 292 (33,ic292,[(.t 2)]):=aj5 [] Tryz.func292
def ic293:IC :=
(.seq
(.reg 0 [oM 8 (cI 0)] [0,1,2,3])
(.seq
(.reg 1 [oM 9 T0,oM 10 T1,oQ 11 (.bin .sub T10 (cI 1)),oM 12 T1,oM 13 T1,oQ 14 (.bin .add T13 (cI 1)),oM 15 T2,oM 16 T3,oK 17 (.call 294 [T9,T11,T12,T14,T15,T16]),oM 8 T17] [8])
.ret))
theorem fok293:FOK Tryz.prog 293 (18,ic293,[(.t 8)]):=aj5 [] Tryz.func293
def ic294:IC :=
(.seq
(.reg 0 [oM 12 (cI 0)] [0,1,2,3,4,5])
(.seq
(.reg 1 [oM 14 T0,oM 15 T1,oM 16 T2,oM 17 T4,oM 18 T5,oK 19 (.call 327 [T14,T15,T16,T17,T18]),oM 13 T19,oQ 20 (.ext 0 T13),oQ 21 (.ext 1 T13),oM 1 T20,oM 2 T21] [0,1,2,3,4,5])
(.seq
(.reg 2 [oM 23 T0,oM 24 T2,oM 25 T3,oM 26 T4,oM 27 T5,oK 28 (.call 327 [T23,T24,T25,T26,T27]),oM 22 T28,oQ 29 (.ext 0 T22),oQ 30 (.ext 1 T22),oM 2 T29,oM 3 T30] [0,1,2,4,5])
(.seq
(.reg 3 [oM 32 T0,oM 33 T1,oM 34 T2,oM 35 T4,oM 36 T5,oK 37 (.call 327 [T32,T33,T34,T35,T36]),oM 31 T37,oQ 38 (.ext 0 T31),oQ 39 (.ext 1 T31),oM 1 T38,oM 2 T39] [2])
(.seq
(.reg 4 [oM 40 T2,oM 12 T40] [12])
.ret)))))
theorem fok294:FOK Tryz.prog 294 (41,ic294,[(.t 12)]):=aj5 [] Tryz.func294
def ic295:IC :=
(.seq
(.reg 0 [⟨(some 0),none,(.alloc [(.str []),(.str []),(.str []),(.str []),(.str [])])⟩] [0])
(.seq
(.reg 1 [⟨(some 1),none,(.q (.bld [(.str []),(.str []),(.str []),(.str []),(.str [])] [⟨1,⟨1,(.c (.str [110,111,97,114,99,104]))⟩⟩,⟨2,⟨1,(.c (.str [120,56,54,95,54,52]))⟩⟩,⟨3,⟨1,(.c (.str [105,54,56,54]))⟩⟩,⟨4,⟨1,(.c (.str [97,97,114,99,104,54,52]))⟩⟩]))⟩,⟨none,none,(.store 5 T0 T1)⟩] [0])
.ret))
theorem fok295:FOK Tryz.prog 295 (2,ic295,[(.cell (some 5) 0)]):=.mk (pf:=[]) (an:=[(0,[0]),(1,[0])]) (by kernel_rfl) (ac3 Tryz.func295 (by kernel_rfl) (by kernel_rfl) (by kernel_rfl))
def ic296:IC :=
(.seq
(.reg 0 [⟨(some 2),none,(.an3 T0)⟩,⟨(some 3),none,(.q (.mov (.c (.bool false))))⟩] [1,2])
(.seq
(.reg 1 [⟨(some 4),none,(.q (.load none T1))⟩,⟨(some 5),none,(.q (.load (some 5) T2))⟩,⟨(some 6),none,(.aj1 T4 [T5])⟩,⟨(some 7),none,(.q (.not T6))⟩,⟨(some 3),none,(.q (.mov T7))⟩] [3])
.ret))
theorem fok296:FOK Tryz.prog 296 (8,ic296,[(.t 3)]):=.mk (pf:=[1000002]) (an:=[(0,[1,2]),(1,[3])]) (by kernel_rfl) (ac3 Tryz.func296 (by kernel_rfl) (by kernel_rfl) (by kernel_rfl))
def ic297:IC :=
(.seq
(.reg 0 [⟨(some 4),none,(.q (.mov (.c (.bool false))))⟩] [0,1])
(.seq
(.reg 1 [⟨(some 5),none,(.q (.mov T0))⟩,⟨(some 6),none,(.q (.mov T1))⟩,⟨(some 7),none,(.call 328 [T5,T6])⟩,⟨(some 8),none,(.q (.bin .geq T7 (.c (.int .i64 0))))⟩,⟨(some 4),none,(.q (.mov T8))⟩] [4])
.ret))
theorem fok297:FOK Tryz.prog 297 (9,ic297,[(.t 4)]):=.mk (pf:=[]) (an:=[(0,[0,1]),(1,[4])]) (by kernel_rfl) (ac3 Tryz.func297 (by kernel_rfl) (by kernel_rfl) (by kernel_rfl))
def ic298:IC :=
(.seq
(.reg 0 [⟨(some 3),none,(.q (.mov (.c (.bool false))))⟩] [0,1])
(.seq
(.reg 1 [⟨(some 4),none,(.q (.load none T1))⟩,⟨(some 5),none,(.q (.mov T0))⟩,⟨(some 6),none,(.aj1 T4 [T5])⟩,⟨(some 7),none,(.q (.not T6))⟩,⟨(some 3),none,(.q (.mov T7))⟩] [3])
.ret))
theorem fok298:FOK Tryz.prog 298 (8,ic298,[(.t 3)]):=.mk (pf:=[]) (an:=[(0,[0,1]),(1,[3])]) (by kernel_rfl) (ac3 Tryz.func298 (by kernel_rfl) (by kernel_rfl) (by kernel_rfl))
def ic299:IC :=
(.reg 0 [⟨(some 3),none,(.q (.mov T0))⟩,⟨(some 4),none,(.q (.ab2 7 T1))⟩,⟨(some 5),none,(.q (.load none T4))⟩,⟨(some 6),none,(.aj1 T3 [(.c (.int .u8 1)),T5])⟩,⟨(some 7),none,(.q (.mov T6))⟩,⟨(some 8),(some ⟨7,true⟩),(.q (.mov T0))⟩,⟨(some 9),(some ⟨7,true⟩),(.q (.ab2 8 T1))⟩,⟨(some 10),(some ⟨7,true⟩),(.q (.load none T9))⟩,⟨(some 11),(some ⟨7,true⟩),(.aj1 T8 [(.c (.int .u8 2)),T10])⟩,⟨(some 12),none,(.q (.pick T7 T11 (.c (.bool false))))⟩,⟨(some 13),none,(.q (.mov T12))⟩,⟨(some 14),(some ⟨13,true⟩),(.q (.mov T0))⟩,⟨(some 15),(some ⟨13,true⟩),(.q (.ab2 10 T1))⟩,⟨(some 16),(some ⟨13,true⟩),(.q (.load none T15))⟩,⟨(some 17),(some ⟨13,true⟩),(.aj1 T14 [(.c (.int .u8 1)),T16])⟩,⟨(some 18),none,(.q (.pick T13 T17 (.c (.bool false))))⟩,⟨(some 19),none,(.q (.mov T18))⟩,⟨(some 20),(some ⟨19,true⟩),(.q (.mov T0))⟩,⟨(some 21),(some ⟨19,true⟩),(.q (.ab2 11 T1))⟩,⟨(some 22),(some ⟨19,true⟩),(.q (.load none T21))⟩,⟨(some 23),(some ⟨19,true⟩),(.aj1 T20 [(.c (.int .u8 3)),T22])⟩,⟨(some 24),none,(.q (.pick T19 T23 (.c (.bool false))))⟩,⟨(some 25),none,(.q (.mov T24))⟩,⟨(some 26),(some ⟨25,true⟩),(.q (.mov T0))⟩,⟨(some 27),(some ⟨25,true⟩),(.q (.ab2 12 T1))⟩,⟨(some 28),(some ⟨25,true⟩),(.q (.load none T27))⟩,⟨(some 29),(some ⟨25,true⟩),(.aj1 T26 [(.c (.int .u8 1)),T28])⟩,⟨(some 30),none,(.q (.pick T25 T29 (.c (.bool false))))⟩,⟨(some 31),none,(.q (.mov T30))⟩,⟨(some 32),(some ⟨31,true⟩),(.q (.mov T0))⟩,⟨(some 33),(some ⟨31,true⟩),(.q (.ab2 13 T1))⟩,⟨(some 34),(some ⟨31,true⟩),(.q (.load none T33))⟩,⟨(some 35),(some ⟨31,true⟩),(.aj1 T32 [(.c (.int .u8 3)),T34])⟩,⟨(some 36),none,(.q (.pick T31 T35 (.c (.bool false))))⟩] [])
theorem fok299:FOK Tryz.prog 299 (37,ic299,[]):=.mk (pf:=[]) (an:=[]) (by kernel_rfl) (ac3 Tryz.func299 (by kernel_rfl) (by kernel_rfl) (by kernel_rfl))
def ic300:IC :=
(.seq
(.reg 0 [⟨(some 2),none,(.an3 T0)⟩,⟨(some 3),none,(.q (.mov (.c (.bool false))))⟩] [1,2])
(.seq
(.reg 1 [⟨(some 4),none,(.q (.load none T1))⟩,⟨(some 5),none,(.q (.load (some 7) T2))⟩,⟨(some 6),none,(.aj1 T4 [T5])⟩,⟨(some 7),none,(.q (.not T6))⟩,⟨(some 3),none,(.q (.mov T7))⟩] [3])
.ret))
theorem fok300:FOK Tryz.prog 300 (8,ic300,[(.t 3)]):=.mk (pf:=[1000002]) (an:=[(0,[1,2]),(1,[3])]) (by kernel_rfl) (ac3 Tryz.func300 (by kernel_rfl) (by kernel_rfl) (by kernel_rfl))
def ic301:IC :=
(.seq
(.reg 0 [⟨(some 1),none,(.an3 T0)⟩,⟨(some 2),none,(.q (.mov (.c (.int .i64 0))))⟩] [1,2])
(.seq
(.reg 1 [⟨(some 3),none,(.alloc [(.int .i64 0)])⟩,⟨none,none,(.store 1 T3 (.c (.int .i64 0)))⟩] [1,2,3])
(.seq
(.seq
(.reg 2 [⟨(some 4),none,(.q (.load (some 7) T1))⟩,⟨(some 5),none,(.call 213 [T4])⟩] [2,3,5])
(.block 0
(.bd6 T5 [6,7]
.skip
(.block 1
(.reg 3 [⟨(some 8),none,(.q (.load none T3))⟩,⟨(some 9),none,(.q (.bin .add T8 (.c (.int .i64 1))))⟩,⟨none,none,(.store 1 T3 T9)⟩] [])))))
(.seq
(.reg 4 [⟨(some 10),none,(.q (.load none T3))⟩,⟨(some 2),none,(.q (.mov T10))⟩] [2])
.ret))))
theorem fok301:FOK Tryz.prog 301 (11,ic301,[(.t 2)]):=.mk (pf:=[1000001]) (an:=[(0,[1,2]),(1,[1,2,3]),(2,[2,3,5]),(4,[2])]) (by kernel_rfl) (ac3 Tryz.func301 (by kernel_rfl) (by kernel_rfl) (by kernel_rfl))
end Go.Id.Tryz
