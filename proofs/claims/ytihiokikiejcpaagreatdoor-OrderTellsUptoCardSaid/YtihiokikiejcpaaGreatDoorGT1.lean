/- The compiled codes of functions,written by a program out of the given form. Conditions: none. -/
import Derived.Test.YtihiokikiejcpaaGreatDoorFwZb
import Derived.Test.YtihiokikiejcpaaGreatDoorProg
set_option linter.all false
namespace Go.Id.Tryz
open Go Go.Id Go.Proofs
def ja4:List Nat:=List.range 197
def ic68:IC :=
(.seq
(.reg 0 [oM 10 T1,oQ 11 (.bin .add T10 (cI 1)),oM 8 T11] [0,1,2,3,8])
(.block 0
(.loop
(.seq
(.seq
(.reg 1 [oM 12 T8,oM 13 T2,oQ 14 (.bin .lss T12 T13)] [0,1,2,3,8,14])
(.cond T14
.skip
(.exit 0)))
(.seq
(.block 1
(.seq
(.reg 3 [oM 17 T8,oM 9 T17] [0,1,2,3,8,9])
(.block 2
(.loop
(.seq
(.seq
(.an7 4 [oM 18 T9,oM 19 T1,oQ 20 (.bin .gtr T18 T19),oM 21 T20,gQ 22 21 true (.mov T3),gQ 23 21 true (.mov T0),gQ 24 21 true (.mov T9),gQ 25 21 true (.ab6 1 T23 T24),gQ 26 21 true (.load none T25),gQ 27 21 true (.mov T0),gQ 28 21 true (.mov T9),gQ 29 21 true (.bin .sub T28 (cI 1)),gQ 30 21 true (.ab6 1 T27 T29),gQ 31 21 true (.load none T30),gK 32 21 true (.aj3 T22 [T26,T31]),gQ 33 21 true (.bin .lss T32 (cI 0)),oQ 34 (.pick T21 T33 (cB false))] false [0,1,2,3,8,9,34])
(.cond T34
.skip
(.exit 2)))
(.seq
(.block 3
(.an7 6 [oM 37 T0,oM 38 T9,oM 39 T0,oM 40 T9,oQ 41 (.bin .sub T40 (cI 1)),oM 42 T0,oM 43 T9,oQ 44 (.bin .sub T43 (cI 1)),oQ 45 (.ab6 1 T42 T44),oQ 46 (.load none T45),oM 47 T0,oM 48 T9,oQ 49 (.ab6 1 T47 T48),oQ 50 (.load none T49),oQ 51 (.ab6 1 T37 T38),oN (.store 1 T51 T46),oQ 52 (.ab6 1 T39 T41),oN (.store 1 T52 T50)] false [0,1,2,3,8,9]))
(.reg 5 [oM 35 T9,oQ 36 (.bin .sub T35 (cI 1)),oM 9 T36] [0,1,2,3,8,9])))))))
(.reg 2 [oM 15 T8,oQ 16 (.bin .add T15 (cI 1)),oM 8 T16] [0,1,2,3,8]))))))
theorem fok68:FOK Tryz.prog 68 (53,ic68,[]):=ai3 [] Tryz.func68
def ic69:IC :=
(.seq
(.reg 0 [oM 13 T1,oM 8 T13] [0,1,2,3,8])
(.seq
(.reg 1 [oM 9 (cI 0)] [0,1,2,3,8,9])
(.seq
(.reg 2 [oM 14 T2,oM 15 T1,oQ 16 (.bin .sub T14 T15),oM 10 T16] [0,3,8,9,10])
(.seq
(.seq
(.reg 3 [oM 17 T10,oQ 18 (.bin .sub T17 (cI 1)),oQ 19 (.bin .quo T18 (cI 2)),oM 11 T19] [0,3,8,9,10,11])
(.block 0
(.loop
(.seq
(.seq
(.reg 4 [oM 20 T11,oQ 21 (.bin .geq T20 (cI 0))] [0,3,8,9,10,11,21])
(.cond T21
.skip
(.exit 0)))
(.seq
(.block 1
(.reg 6 [oM 24 T0,oM 25 T11,oM 26 T10,oM 27 T8,oM 28 T3,oK 29 (.call 105 [T24,T25,T26,T27,T28])] [0,3,8,9,10,11]))
(.reg 5 [oM 22 T11,oQ 23 (.bin .sub T22 (cI 1)),oM 11 T23] [0,3,8,9,10,11]))))))
(.seq
(.reg 7 [oM 30 T10,oQ 31 (.bin .sub T30 (cI 1)),oM 12 T31] [0,3,8,9,12])
(.block 2
(.loop
(.seq
(.seq
(.reg 8 [oM 32 T12,oQ 33 (.bin .geq T32 (cI 0))] [0,3,8,9,12,33])
(.cond T33
.skip
(.exit 2)))
(.seq
(.block 3
(.seq
(.an7 10 [oM 36 T0,oM 37 T8,oM 38 T0,oM 39 T8,oM 40 T12,oQ 41 (.bin .add T39 T40),oM 42 T0,oM 43 T8,oM 44 T12,oQ 45 (.bin .add T43 T44),oQ 46 (.ab6 1 T42 T45),oQ 47 (.load none T46),oM 48 T0,oM 49 T8,oQ 50 (.ab6 1 T48 T49),oQ 51 (.load none T50),oQ 52 (.ab6 1 T36 T37),oN (.store 1 T52 T47),oQ 53 (.ab6 1 T38 T41),oN (.store 1 T53 T51)] false [0,3,8,9,12])
(.reg 11 [oM 54 T0,oM 55 T9,oM 56 T12,oM 57 T8,oM 58 T3,oK 59 (.call 105 [T54,T55,T56,T57,T58])] [0,3,8,9,12])))
(.reg 9 [oM 34 T12,oQ 35 (.bin .sub T34 (cI 1)),oM 12 T35] [0,3,8,9,12]))))))))))
theorem fok69:FOK Tryz.prog 69 (60,ic69,[]):=ai3 [] Tryz.func69
def ic70:IC :=
(.seq
(.reg 0 [oM 13 T2,oM 14 T1,oQ 15 (.bin .sub T13 T14),oM 8 T15] [0,1,8])
(.seq
(.reg 1 [oM 16 T8,oQ 17 (.bin .geq T16 (cI 8))] [0,1,8,17])
(.cond T17
(.seq
(.reg 2 [oM 18 T8,oQ 19 (.conv .u64 T18),oK 9 (.alloc [(.int .u64 0)]),oN (.store 1 T9 T19)] [0,1,8,9])
(.seq
(.reg 3 [oM 20 T8,oK 21 (.call 106 [T20]),oM 10 T21] [0,1,8,9,10])
(.seq
(.reg 4 [oM 22 T1,oM 23 T8,oQ 24 (.bin .quo T23 (cI 4)),oQ 25 (.bin .mul T24 (cI 2)),oQ 26 (.bin .add T22 T25),oQ 27 (.bin .sub T26 (cI 1)),oM 11 T27] [0,1,8,9,10,11])
(.block 0
(.loop
(.seq
(.seq
(.reg 5 [oM 28 T11,oM 29 T1,oM 30 T8,oQ 31 (.bin .quo T30 (cI 4)),oQ 32 (.bin .mul T31 (cI 2)),oQ 33 (.bin .add T29 T32),oQ 34 (.bin .add T33 (cI 1)),oQ 35 (.bin .leq T28 T34)] [0,1,8,9,10,11,35])
(.cond T35
.skip
(.exit 0)))
(.seq
(.block 1
(.seq
(.reg 7 [oK 38 (.call 107 [T9]),oM 39 T10,oQ 40 (.bin .sub T39 (.c (.int .u64 1))),oQ 41 (.bin .and T38 T40),oQ 42 (.conv .i64 T41),oM 12 T42] [0,1,8,9,10,11,12])
(.seq
(.seq
(.reg 8 [oM 43 T12,oM 44 T8,oQ 45 (.bin .geq T43 T44)] [0,1,8,9,10,11,12,45])
(.cond T45
(.reg 9 [oM 46 T12,oM 47 T8,oQ 48 (.bin .sub T46 T47),oM 12 T48] [0,1,8,9,10,11,12])
.skip))
(.an7 10 [oM 49 T0,oM 50 T11,oM 51 T0,oM 52 T1,oM 53 T12,oQ 54 (.bin .add T52 T53),oM 55 T0,oM 56 T1,oM 57 T12,oQ 58 (.bin .add T56 T57),oQ 59 (.ab6 1 T55 T58),oQ 60 (.load none T59),oM 61 T0,oM 62 T11,oQ 63 (.ab6 1 T61 T62),oQ 64 (.load none T63),oQ 65 (.ab6 1 T49 T50),oN (.store 1 T65 T60),oQ 66 (.ab6 1 T51 T54),oN (.store 1 T66 T64)] false [0,1,8,9,10,11]))))
(.reg 6 [oM 36 T11,oQ 37 (.bin .add T36 (cI 1)),oM 11 T37] [0,1,8,9,10,11]))))))))
.skip)))
theorem fok70:FOK Tryz.prog 70 (67,ic70,[]):=ai3 [] Tryz.func70
def ic71:IC :=
(.seq
(.reg 0 [oM 8 (cI 0),oM 9 (cI 0)] [0,1,2,3])
(.seq
(.reg 1 [oM 15 T2,oM 16 T1,oQ 17 (.bin .sub T15 T16),oM 10 T17] [0,1,3,10])
(.seq
(.reg 2 [oK 11 (.alloc [(zI 0)])] [0,1,3,10,11])
(.seq
(.reg 3 [oM 18 T1,oM 19 T10,oQ 20 (.bin .quo T19 (cI 4)),oQ 21 (.bin .mul T20 (cI 1)),oQ 22 (.bin .add T18 T21),oM 12 T22] [0,1,3,10,11,12])
(.seq
(.reg 4 [oM 23 T1,oM 24 T10,oQ 25 (.bin .quo T24 (cI 4)),oQ 26 (.bin .mul T25 (cI 2)),oQ 27 (.bin .add T23 T26),oM 13 T27] [0,1,3,10,11,12,13])
(.seq
(.reg 5 [oM 28 T1,oM 29 T10,oQ 30 (.bin .quo T29 (cI 4)),oQ 31 (.bin .mul T30 (cI 3)),oQ 32 (.bin .add T28 T31),oM 14 T32] [0,3,10,11,12,13,14])
(.seq
(.seq
(.reg 6 [oM 33 T10,oQ 34 (.bin .geq T33 (cI 8))] [0,3,10,11,12,13,14,34])
(.cond T34
(.seq
(.seq
(.reg 7 [oM 35 T10,oQ 36 (.bin .geq T35 (cI 50))] [0,3,11,12,13,14,36])
(.cond T36
(.seq
(.reg 8 [oM 37 T0,oM 38 T12,oM 39 T3,oK 40 (.call 108 [T37,T38,T11,T39]),oM 12 T40] [0,3,11,12,13,14])
(.seq
(.reg 9 [oM 41 T0,oM 42 T13,oM 43 T3,oK 44 (.call 108 [T41,T42,T11,T43]),oM 13 T44] [0,3,11,12,13,14])
(.reg 10 [oM 45 T0,oM 46 T14,oM 47 T3,oK 48 (.call 108 [T45,T46,T11,T47]),oM 14 T48] [0,3,11,12,13,14])))
.skip))
(.reg 11 [oM 49 T0,oM 50 T12,oM 51 T13,oM 52 T14,oM 53 T3,oK 54 (.call 109 [T49,T50,T51,T52,T11,T53]),oM 13 T54] [11,13]))
.skip))
(.seq
(.reg 12 [oQ 55 (.load none T11)] [13,55])
(.block 0
(.seq
(.reg 14 [oQ 58 (.bin .eql T55 (cI 0)),oM 57 T58] [13,55,57])
(.cond T57
(.seq
(.reg 15 [oM 59 T13,oM 8 T59,oM 9 (cI 1)] [8,9])
.ret)
(.seq
(.reg 16 [oQ 61 (.bin .eql T55 (cI 12)),oM 60 T61] [13,60])
(.cond T60
(.seq
(.reg 17 [oM 62 T13,oM 8 T62,oM 9 (cI 2)] [8,9])
.ret)
(.seq
(.reg 13 [oM 56 T13,oM 8 T56,oM 9 (cI 0)] [8,9])
.ret))))))))))))))
theorem fok71:FOK Tryz.prog 71 (63,ic71,[(.t 8),(.t 9)]):=ai3 [] Tryz.func71
def ic72:IC :=
(.seq
(.reg 0 [oM 10 T1,oM 8 T10] [0,2,8])
(.seq
(.reg 1 [oM 11 T2,oQ 12 (.bin .sub T11 (cI 1)),oM 9 T12] [0,8,9])
(.block 0
(.loop
(.seq
(.seq
(.reg 2 [oM 13 T8,oM 14 T9,oQ 15 (.bin .lss T13 T14)] [0,8,9,15])
(.cond T15
.skip
(.exit 0)))
(.block 1
(.seq
(.an7 3 [oM 16 T0,oM 17 T8,oM 18 T0,oM 19 T9,oM 20 T0,oM 21 T9,oQ 22 (.ab6 1 T20 T21),oQ 23 (.load none T22),oM 24 T0,oM 25 T8,oQ 26 (.ab6 1 T24 T25),oQ 27 (.load none T26),oQ 28 (.ab6 1 T16 T17),oN (.store 1 T28 T23),oQ 29 (.ab6 1 T18 T19),oN (.store 1 T29 T27)] false [0,8,9])
(.seq
(.reg 4 [oM 30 T8,oQ 31 (.bin .add T30 (cI 1)),oM 8 T31] [0,8,9])
(.reg 5 [oM 32 T9,oQ 33 (.bin .sub T32 (cI 1)),oM 9 T33] [0,8,9])))))))))
theorem fok72:FOK Tryz.prog 72 (34,ic72,[]):=ai3 [] Tryz.func72
def ic73:IC :=
(.seq
(.reg 0 [oM 8 (cB false)] [0,1,2,3])
(.seq
(.reg 1 [oM 13 T1,oQ 14 (.bin .add T13 (cI 1)),oM 9 T14] [0,1,2,3,9])
(.seq
(.seq
(.reg 2 [oM 10 (cI 0)] [0,1,2,3,9,10])
(.block 0
(.loop
(.seq
(.seq
(.reg 3 [oM 15 T10,oQ 16 (.bin .lss T15 (cI 5))] [0,1,2,3,9,10,16])
(.cond T16
.skip
(.exit 0)))
(.seq
(.block 1
(.seq
(.block 2
(.loop
(.seq
(.seq
(.an7 5 [oM 19 T9,oM 20 T2,oQ 21 (.bin .lss T19 T20),oM 22 T21,gQ 23 22 true (.mov T3),gQ 24 22 true (.mov T0),gQ 25 22 true (.mov T9),gQ 26 22 true (.ab6 1 T24 T25),gQ 27 22 true (.load none T26),gQ 28 22 true (.mov T0),gQ 29 22 true (.mov T9),gQ 30 22 true (.bin .sub T29 (cI 1)),gQ 31 22 true (.ab6 1 T28 T30),gQ 32 22 true (.load none T31),gK 33 22 true (.aj3 T23 [T27,T32]),gQ 34 22 true (.bin .lss T33 (cI 0)),gQ 35 22 true (.not T34),oQ 36 (.pick T22 T35 (cB false))] false [0,1,2,3,9,10,36])
(.cond T36
.skip
(.exit 2)))
(.block 3
(.reg 6 [oM 37 T9,oQ 38 (.bin .add T37 (cI 1)),oM 9 T38] [0,1,2,3,9,10])))))
(.seq
(.seq
(.reg 7 [oM 39 T9,oM 40 T2,oQ 41 (.bin .eql T39 T40)] [0,1,2,3,9,10,41])
(.cond T41
(.seq
(.reg 8 [oM 8 (cB true)] [8])
.ret)
.skip))
(.seq
(.seq
(.reg 9 [oM 42 T2,oM 43 T1,oQ 44 (.bin .sub T42 T43),oQ 45 (.bin .lss T44 (cI 50))] [0,1,2,3,9,10,45])
(.cond T45
(.seq
(.reg 10 [oM 8 (cB false)] [8])
.ret)
.skip))
(.seq
(.an7 11 [oM 46 T0,oM 47 T9,oM 48 T0,oM 49 T9,oQ 50 (.bin .sub T49 (cI 1)),oM 51 T0,oM 52 T9,oQ 53 (.bin .sub T52 (cI 1)),oQ 54 (.ab6 1 T51 T53),oQ 55 (.load none T54),oM 56 T0,oM 57 T9,oQ 58 (.ab6 1 T56 T57),oQ 59 (.load none T58),oQ 60 (.ab6 1 T46 T47),oN (.store 1 T60 T55),oQ 61 (.ab6 1 T48 T50),oN (.store 1 T61 T59)] false [0,1,2,3,9,10])
(.seq
(.seq
(.reg 12 [oM 62 T9,oM 63 T1,oQ 64 (.bin .sub T62 T63),oQ 65 (.bin .geq T64 (cI 2))] [0,1,2,3,9,10,65])
(.cond T65
(.seq
(.reg 13 [oM 66 T9,oQ 67 (.bin .sub T66 (cI 1)),oM 11 T67] [0,1,2,3,9,10,11])
(.block 4
(.loop
(.seq
(.seq
(.reg 14 [oM 68 T11,oQ 69 (.bin .geq T68 (cI 1))] [0,1,2,3,9,10,11,69])
(.cond T69
.skip
(.exit 4)))
(.seq
(.block 5
(.seq
(.seq
(.an7 16 [oM 72 T3,oM 73 T0,oM 74 T11,oQ 75 (.ab6 1 T73 T74),oQ 76 (.load none T75),oM 77 T0,oM 78 T11,oQ 79 (.bin .sub T78 (cI 1)),oQ 80 (.ab6 1 T77 T79),oQ 81 (.load none T80),oK 82 (.aj3 T72 [T76,T81]),oQ 83 (.bin .lss T82 (cI 0)),oQ 84 (.not T83)] false [0,1,2,3,9,10,11,84])
(.cond T84
(.exit 4)
.skip))
(.an7 17 [oM 85 T0,oM 86 T11,oM 87 T0,oM 88 T11,oQ 89 (.bin .sub T88 (cI 1)),oM 90 T0,oM 91 T11,oQ 92 (.bin .sub T91 (cI 1)),oQ 93 (.ab6 1 T90 T92),oQ 94 (.load none T93),oM 95 T0,oM 96 T11,oQ 97 (.ab6 1 T95 T96),oQ 98 (.load none T97),oQ 99 (.ab6 1 T85 T86),oN (.store 1 T99 T94),oQ 100 (.ab6 1 T87 T89),oN (.store 1 T100 T98)] false [0,1,2,3,9,10,11])))
(.reg 15 [oM 70 T11,oQ 71 (.bin .sub T70 (cI 1)),oM 11 T71] [0,1,2,3,9,10,11]))))))
.skip))
(.seq
(.reg 18 [oM 101 T2,oM 102 T9,oQ 103 (.bin .sub T101 T102),oQ 104 (.bin .geq T103 (cI 2))] [0,1,2,3,9,10,104])
(.cond T104
(.seq
(.reg 19 [oM 105 T9,oQ 106 (.bin .add T105 (cI 1)),oM 12 T106] [0,1,2,3,9,10,12])
(.block 6
(.loop
(.seq
(.seq
(.reg 20 [oM 107 T12,oM 108 T2,oQ 109 (.bin .lss T107 T108)] [0,1,2,3,9,10,12,109])
(.cond T109
.skip
(.exit 6)))
(.seq
(.block 7
(.seq
(.seq
(.an7 22 [oM 112 T3,oM 113 T0,oM 114 T12,oQ 115 (.ab6 1 T113 T114),oQ 116 (.load none T115),oM 117 T0,oM 118 T12,oQ 119 (.bin .sub T118 (cI 1)),oQ 120 (.ab6 1 T117 T119),oQ 121 (.load none T120),oK 122 (.aj3 T112 [T116,T121]),oQ 123 (.bin .lss T122 (cI 0)),oQ 124 (.not T123)] false [0,1,2,3,9,10,12,124])
(.cond T124
(.exit 6)
.skip))
(.an7 23 [oM 125 T0,oM 126 T12,oM 127 T0,oM 128 T12,oQ 129 (.bin .sub T128 (cI 1)),oM 130 T0,oM 131 T12,oQ 132 (.bin .sub T131 (cI 1)),oQ 133 (.ab6 1 T130 T132),oQ 134 (.load none T133),oM 135 T0,oM 136 T12,oQ 137 (.ab6 1 T135 T136),oQ 138 (.load none T137),oQ 139 (.ab6 1 T125 T126),oN (.store 1 T139 T134),oQ 140 (.ab6 1 T127 T129),oN (.store 1 T140 T138)] false [0,1,2,3,9,10,12])))
(.reg 21 [oM 110 T12,oQ 111 (.bin .add T110 (cI 1)),oM 12 T111] [0,1,2,3,9,10,12]))))))
.skip))))))))
(.reg 4 [oM 17 T10,oQ 18 (.bin .add T17 (cI 1)),oM 10 T18] [0,1,2,3,9,10]))))))
(.seq
(.reg 24 [oM 8 (cB false)] [8])
.ret))))
theorem fok73:FOK Tryz.prog 73 (141,ic73,[(.t 8)]):=ai3 [] Tryz.func73
def ic74:IC :=
(.seq
(.reg 0 [oM 10 (cI 0)] [0,1,2,3,4])
(.seq
(.an7 1 [oM 13 T0,oM 14 T1,oM 15 T0,oM 16 T3,oM 17 T0,oM 18 T3,oQ 19 (.ab6 1 T17 T18),oQ 20 (.load none T19),oM 21 T0,oM 22 T1,oQ 23 (.ab6 1 T21 T22),oQ 24 (.load none T23),oQ 25 (.ab6 1 T13 T14),oN (.store 1 T25 T20),oQ 26 (.ab6 1 T15 T16),oN (.store 1 T26 T24)] false [0,1,2,4])
(.seq
(.reg 2 [oM 27 T1,oQ 28 (.bin .add T27 (cI 1)),oM 29 T2,oQ 30 (.bin .sub T29 (cI 1)),oM 11 T28,oM 12 T30] [0,1,4,11,12])
(.seq
(.block 0
(.loop
(.block 1
(.seq
(.block 2
(.loop
(.seq
(.seq
(.an7 3 [oM 31 T11,oM 32 T12,oQ 33 (.bin .leq T31 T32),oM 34 T33,gQ 35 34 true (.mov T4),gQ 36 34 true (.mov T0),gQ 37 34 true (.mov T1),gQ 38 34 true (.ab6 1 T36 T37),gQ 39 34 true (.load none T38),gQ 40 34 true (.mov T0),gQ 41 34 true (.mov T11),gQ 42 34 true (.ab6 1 T40 T41),gQ 43 34 true (.load none T42),gK 44 34 true (.aj3 T35 [T39,T43]),gQ 45 34 true (.bin .lss T44 (cI 0)),gQ 46 34 true (.not T45),oQ 47 (.pick T34 T46 (cB false))] false [0,1,4,11,12,47])
(.cond T47
.skip
(.exit 2)))
(.block 3
(.reg 4 [oM 48 T11,oQ 49 (.bin .add T48 (cI 1)),oM 11 T49] [0,1,4,11,12])))))
(.seq
(.block 4
(.loop
(.seq
(.seq
(.an7 5 [oM 50 T11,oM 51 T12,oQ 52 (.bin .leq T50 T51),oM 53 T52,gQ 54 53 true (.mov T4),gQ 55 53 true (.mov T0),gQ 56 53 true (.mov T1),gQ 57 53 true (.ab6 1 T55 T56),gQ 58 53 true (.load none T57),gQ 59 53 true (.mov T0),gQ 60 53 true (.mov T12),gQ 61 53 true (.ab6 1 T59 T60),gQ 62 53 true (.load none T61),gK 63 53 true (.aj3 T54 [T58,T62]),gQ 64 53 true (.bin .lss T63 (cI 0)),oQ 65 (.pick T53 T64 (cB false))] false [0,1,4,11,12,65])
(.cond T65
.skip
(.exit 4)))
(.block 5
(.reg 6 [oM 66 T12,oQ 67 (.bin .sub T66 (cI 1)),oM 12 T67] [0,1,4,11,12])))))
(.seq
(.seq
(.reg 7 [oM 68 T11,oM 69 T12,oQ 70 (.bin .gtr T68 T69)] [0,1,4,11,12,70])
(.cond T70
(.exit 0)
.skip))
(.seq
(.an7 8 [oM 71 T0,oM 72 T11,oM 73 T0,oM 74 T12,oM 75 T0,oM 76 T12,oQ 77 (.ab6 1 T75 T76),oQ 78 (.load none T77),oM 79 T0,oM 80 T11,oQ 81 (.ab6 1 T79 T80),oQ 82 (.load none T81),oQ 83 (.ab6 1 T71 T72),oN (.store 1 T83 T78),oQ 84 (.ab6 1 T73 T74),oN (.store 1 T84 T82)] false [0,1,4,11,12])
(.seq
(.reg 9 [oM 85 T11,oQ 86 (.bin .add T85 (cI 1)),oM 11 T86] [0,1,4,11,12])
(.reg 10 [oM 87 T12,oQ 88 (.bin .sub T87 (cI 1)),oM 12 T88] [0,1,4,11,12])))))))))
(.seq
(.reg 11 [oM 89 T11,oM 10 T89] [10])
.ret)))))
theorem fok74:FOK Tryz.prog 74 (90,ic74,[(.t 10)]):=ai3 [] Tryz.func74
def ic75:IC :=
(.seq
(.reg 0 [oM 10 (cI 0),oM 11 (cB false)] [0,1,2,3,4])
(.seq
(.an7 1 [oM 14 T0,oM 15 T1,oM 16 T0,oM 17 T3,oM 18 T0,oM 19 T3,oQ 20 (.ab6 1 T18 T19),oQ 21 (.load none T20),oM 22 T0,oM 23 T1,oQ 24 (.ab6 1 T22 T23),oQ 25 (.load none T24),oQ 26 (.ab6 1 T14 T15),oN (.store 1 T26 T21),oQ 27 (.ab6 1 T16 T17),oN (.store 1 T27 T25)] false [0,1,2,4])
(.seq
(.reg 2 [oM 28 T1,oQ 29 (.bin .add T28 (cI 1)),oM 30 T2,oQ 31 (.bin .sub T30 (cI 1)),oM 12 T29,oM 13 T31] [0,1,4,12,13])
(.seq
(.block 0
(.loop
(.seq
(.seq
(.an7 3 [oM 32 T12,oM 33 T13,oQ 34 (.bin .leq T32 T33),oM 35 T34,gQ 36 35 true (.mov T4),gQ 37 35 true (.mov T0),gQ 38 35 true (.mov T12),gQ 39 35 true (.ab6 1 T37 T38),gQ 40 35 true (.load none T39),gQ 41 35 true (.mov T0),gQ 42 35 true (.mov T1),gQ 43 35 true (.ab6 1 T41 T42),gQ 44 35 true (.load none T43),gK 45 35 true (.aj3 T36 [T40,T44]),gQ 46 35 true (.bin .lss T45 (cI 0)),oQ 47 (.pick T35 T46 (cB false))] false [0,1,4,12,13,47])
(.cond T47
.skip
(.exit 0)))
(.block 1
(.reg 4 [oM 48 T12,oQ 49 (.bin .add T48 (cI 1)),oM 12 T49] [0,1,4,12,13])))))
(.seq
(.block 2
(.loop
(.seq
(.seq
(.an7 5 [oM 50 T12,oM 51 T13,oQ 52 (.bin .leq T50 T51),oM 53 T52,gQ 54 53 true (.mov T4),gQ 55 53 true (.mov T0),gQ 56 53 true (.mov T13),gQ 57 53 true (.ab6 1 T55 T56),gQ 58 53 true (.load none T57),gQ 59 53 true (.mov T0),gQ 60 53 true (.mov T1),gQ 61 53 true (.ab6 1 T59 T60),gQ 62 53 true (.load none T61),gK 63 53 true (.aj3 T54 [T58,T62]),gQ 64 53 true (.bin .lss T63 (cI 0)),gQ 65 53 true (.not T64),oQ 66 (.pick T53 T65 (cB false))] false [0,1,4,12,13,66])
(.cond T66
.skip
(.exit 2)))
(.block 3
(.reg 6 [oM 67 T13,oQ 68 (.bin .sub T67 (cI 1)),oM 13 T68] [0,1,4,12,13])))))
(.seq
(.seq
(.reg 7 [oM 69 T12,oM 70 T13,oQ 71 (.bin .gtr T69 T70)] [0,1,4,12,13,71])
(.cond T71
(.seq
(.an7 8 [oM 72 T0,oM 73 T13,oM 74 T0,oM 75 T1,oM 76 T0,oM 77 T1,oQ 78 (.ab6 1 T76 T77),oQ 79 (.load none T78),oM 80 T0,oM 81 T13,oQ 82 (.ab6 1 T80 T81),oQ 83 (.load none T82),oQ 84 (.ab6 1 T72 T73),oN (.store 1 T84 T79),oQ 85 (.ab6 1 T74 T75),oN (.store 1 T85 T83)] false [13])
(.seq
(.reg 9 [oM 86 T13,oM 10 T86,oM 11 (cB true)] [10,11])
.ret))
.skip))
(.seq
(.an7 10 [oM 87 T0,oM 88 T12,oM 89 T0,oM 90 T13,oM 91 T0,oM 92 T13,oQ 93 (.ab6 1 T91 T92),oQ 94 (.load none T93),oM 95 T0,oM 96 T12,oQ 97 (.ab6 1 T95 T96),oQ 98 (.load none T97),oQ 99 (.ab6 1 T87 T88),oN (.store 1 T99 T94),oQ 100 (.ab6 1 T89 T90),oN (.store 1 T100 T98)] false [0,1,4,12,13])
(.seq
(.reg 11 [oM 101 T12,oQ 102 (.bin .add T101 (cI 1)),oM 12 T102] [0,1,4,12,13])
(.seq
(.reg 12 [oM 103 T13,oQ 104 (.bin .sub T103 (cI 1)),oM 13 T104] [0,1,4,12,13])
(.seq
(.block 4
(.loop
(.block 5
(.seq
(.block 6
(.loop
(.seq
(.seq
(.an7 13 [oM 105 T12,oM 106 T13,oQ 107 (.bin .leq T105 T106),oM 108 T107,gQ 109 108 true (.mov T4),gQ 110 108 true (.mov T0),gQ 111 108 true (.mov T12),gQ 112 108 true (.ab6 1 T110 T111),gQ 113 108 true (.load none T112),gQ 114 108 true (.mov T0),gQ 115 108 true (.mov T1),gQ 116 108 true (.ab6 1 T114 T115),gQ 117 108 true (.load none T116),gK 118 108 true (.aj3 T109 [T113,T117]),gQ 119 108 true (.bin .lss T118 (cI 0)),oQ 120 (.pick T108 T119 (cB false))] false [0,1,4,12,13,120])
(.cond T120
.skip
(.exit 6)))
(.block 7
(.reg 14 [oM 121 T12,oQ 122 (.bin .add T121 (cI 1)),oM 12 T122] [0,1,4,12,13])))))
(.seq
(.block 8
(.loop
(.seq
(.seq
(.an7 15 [oM 123 T12,oM 124 T13,oQ 125 (.bin .leq T123 T124),oM 126 T125,gQ 127 126 true (.mov T4),gQ 128 126 true (.mov T0),gQ 129 126 true (.mov T13),gQ 130 126 true (.ab6 1 T128 T129),gQ 131 126 true (.load none T130),gQ 132 126 true (.mov T0),gQ 133 126 true (.mov T1),gQ 134 126 true (.ab6 1 T132 T133),gQ 135 126 true (.load none T134),gK 136 126 true (.aj3 T127 [T131,T135]),gQ 137 126 true (.bin .lss T136 (cI 0)),gQ 138 126 true (.not T137),oQ 139 (.pick T126 T138 (cB false))] false [0,1,4,12,13,139])
(.cond T139
.skip
(.exit 8)))
(.block 9
(.reg 16 [oM 140 T13,oQ 141 (.bin .sub T140 (cI 1)),oM 13 T141] [0,1,4,12,13])))))
(.seq
(.seq
(.reg 17 [oM 142 T12,oM 143 T13,oQ 144 (.bin .gtr T142 T143)] [0,1,4,12,13,144])
(.cond T144
(.exit 4)
.skip))
(.seq
(.an7 18 [oM 145 T0,oM 146 T12,oM 147 T0,oM 148 T13,oM 149 T0,oM 150 T13,oQ 151 (.ab6 1 T149 T150),oQ 152 (.load none T151),oM 153 T0,oM 154 T12,oQ 155 (.ab6 1 T153 T154),oQ 156 (.load none T155),oQ 157 (.ab6 1 T145 T146),oN (.store 1 T157 T152),oQ 158 (.ab6 1 T147 T148),oN (.store 1 T158 T156)] false [0,1,4,12,13])
(.seq
(.reg 19 [oM 159 T12,oQ 160 (.bin .add T159 (cI 1)),oM 12 T160] [0,1,4,12,13])
(.reg 20 [oM 161 T13,oQ 162 (.bin .sub T161 (cI 1)),oM 13 T162] [0,1,4,12,13])))))))))
(.seq
(.an7 21 [oM 163 T0,oM 164 T13,oM 165 T0,oM 166 T1,oM 167 T0,oM 168 T1,oQ 169 (.ab6 1 T167 T168),oQ 170 (.load none T169),oM 171 T0,oM 172 T13,oQ 173 (.ab6 1 T171 T172),oQ 174 (.load none T173),oQ 175 (.ab6 1 T163 T164),oN (.store 1 T175 T170),oQ 176 (.ab6 1 T165 T166),oN (.store 1 T176 T174)] false [13])
(.seq
(.reg 22 [oM 177 T13,oM 10 T177,oM 11 (cB false)] [10,11])
.ret))))))))))))
theorem fok75:FOK Tryz.prog 75 (178,ic75,[(.t 10),(.t 11)]):=ai3 [] Tryz.func75
def ic77:IC :=
(.seq
(.reg 0 [oM 2 (cI 0)] [0,2])
(.seq
(.seq
(.reg 1 [oM 3 T0,oQ 4 (.bin .geq T3 (.c (.int .u64 4294967296)))] [0,2,4])
(.cond T4
(.seq
(.reg 2 [oM 5 T0,oQ 6 (.bin .shr T5 (.c (.int .u64 32))),oM 0 T6] [0])
(.reg 3 [oM 2 (cI 32)] [0,2]))
.skip))
(.seq
(.seq
(.reg 4 [oM 7 T0,oQ 8 (.bin .geq T7 (.c (.int .u64 65536)))] [0,2,8])
(.cond T8
(.seq
(.reg 5 [oM 9 T0,oQ 10 (.bin .shr T9 (.c (.int .u64 16))),oM 0 T10] [0,2])
(.reg 6 [oM 11 T2,oQ 12 (.bin .add T11 (cI 16)),oM 2 T12] [0,2]))
.skip))
(.seq
(.seq
(.reg 7 [oM 13 T0,oQ 14 (.bin .geq T13 (.c (.int .u64 256)))] [0,2,14])
(.cond T14
(.seq
(.reg 8 [oM 15 T0,oQ 16 (.bin .shr T15 (.c (.int .u64 8))),oM 0 T16] [0,2])
(.reg 9 [oM 17 T2,oQ 18 (.bin .add T17 (cI 8)),oM 2 T18] [0,2]))
.skip))
(.seq
(.reg 10 [oM 19 T2,oM 20 T0,oQ 21 (.conv .u8 T20),oQ 22 (.dv1 (.c (.str [0,1,2,2,3,3,3,3,4,4,4,4,4,4,4,4,5,5,5,5,5,5,5,5,5,5,5,5,5,5,5,5,6,6,6,6,6,6,6,6,6,6,6,6,6,6,6,6,6,6,6,6,6,6,6,6,6,6,6,6,6,6,6,6,7,7,7,7,7,7,7,7,7,7,7,7,7,7,7,7,7,7,7,7,7,7,7,7,7,7,7,7,7,7,7,7,7,7,7,7,7,7,7,7,7,7,7,7,7,7,7,7,7,7,7,7,7,7,7,7,7,7,7,7,7,7,7,7,8,8,8,8,8,8,8,8,8,8,8,8,8,8,8,8,8,8,8,8,8,8,8,8,8,8,8,8,8,8,8,8,8,8,8,8,8,8,8,8,8,8,8,8,8,8,8,8,8,8,8,8,8,8,8,8,8,8,8,8,8,8,8,8,8,8,8,8,8,8,8,8,8,8,8,8,8,8,8,8,8,8,8,8,8,8,8,8,8,8,8,8,8,8,8,8,8,8,8,8,8,8,8,8,8,8,8,8,8,8,8,8,8,8,8,8,8,8,8,8,8,8,8,8,8,8,8,8])) T21),oQ 23 (.conv .i64 T22),oQ 24 (.bin .add T19 T23),oM 2 T24] [2])
.ret)))))
theorem fok77:FOK Tryz.prog 77 (25,ic77,[(.t 2)]):=ai3 [] Tryz.func77
def ic78:IC :=
(.seq
(.reg 0 [oM 2 (.c .aa1)] [0])
(.seq
(.reg 1 [oM 3 T0,oK 4 (.call 110 [(.c .aa1),T3]),oM 2 T4] [2])
.ret))
theorem fok78:FOK Tryz.prog 78 (5,ic78,[(.t 2)]):=ai3 [] Tryz.func78
def ic79:IC :=
(.seq
(.reg 0 [oM 3 T0,oQ 4 (.len 0 T3),oM 2 T4] [0,2])
(.reg 1 [oM 5 T0,oM 6 T2,oM 7 T2,oQ 8 (.conv .u64 T7),oK 9 (.call 34 [T8]),oK 10 (.call 111 [T5,(cI 0),T6,T9])] []))
theorem fok79:FOK Tryz.prog 79 (11,ic79,[]):=ai3 [] Tryz.func79
def ic80:IC :=
(.seq
(.reg 0 [oQ 5 (.load none T1),oQ 6 (.len 0 T5),oM 7 (cI 0)] [0,5,6,7])
(.block 0
(.loop
(.seq
(.reg 1 [oQ 8 (.bin .lss T7 T6)] [0,5,6,7,8])
(.seq
(.cond T8
.skip
(.exit 0))
(.seq
(.block 1
(.seq
(.reg 2 [oQ 9 (.ab6 1 T5 T7),oQ 10 (.load none T9),oM 4 T10] [0,4,5,6,7])
(.seq
(.reg 3 [oM 11 T0,oM 12 T4,oK 13 (.aj3 T11 [T12]),oQ 14 (.not T13)] [0,5,6,7,14])
(.cond T14
.ret
.skip))))
(.reg 4 [oQ 15 (.bin .add T7 (cI 1)),oM 7 T15] [0,5,6,7])))))))
theorem fok80:FOK Tryz.prog 80 (16,ic80,[]):=ai3 [] Tryz.func80
def ic81:IC :=
(.seq
(.reg 0 [oM 8 (cB false)] [0,1,2,3])
(.seq
(.reg 1 [oM 14 T2,oK 15 (.bsl 1 1 [(zI 0)] [⟨0,⟨1,T14⟩⟩]),oM 9 T15] [0,1,3,9])
(.seq
(.seq
(.reg 2 [oM 10 (cI 0)] [0,1,3,9,10])
(.block 0
(.loop
(.seq
(.seq
(.reg 3 [oM 16 T10,oM 17 T9,oQ 18 (.len 0 T17),oQ 19 (.bin .lss T16 T18)] [0,1,3,9,10,19])
(.cond T19
.skip
(.exit 0)))
(.seq
(.block 1
(.seq
(.reg 5 [oM 11 (cI 0)] [0,1,3,9,10,11])
(.block 2
(.loop
(.seq
(.seq
(.reg 6 [oM 22 T11,oM 23 T1,oQ 24 (.len 0 T23),oQ 25 (.bin .lss T22 T24)] [0,1,3,9,10,11,25])
(.cond T25
.skip
(.exit 2)))
(.seq
(.block 3
(.seq
(.seq
(.an7 8 [oM 28 T0,oM 29 T9,oM 30 T10,oQ 31 (.ab6 1 T29 T30),oQ 32 (.load none T31),oM 33 T1,oM 34 T11,oQ 35 (.ab6 1 T33 T34),oQ 36 (.load none T35),oK 37 (.call 11 [T28,T32,T36]),oQ 38 (.not T37)] false [0,1,3,9,10,11,38])
(.cond T38
(.exit 3)
.skip))
(.seq
(.seq
(.reg 9 [oM 39 T1,oM 40 T11,oQ 41 (.ab6 1 T39 T40),oQ 42 (.load none T41),oM 43 T3,oQ 44 (.bin .eql T42 T43)] [0,1,3,9,10,11,44])
(.cond T44
(.seq
(.reg 10 [oM 8 (cB true)] [8])
.ret)
.skip))
(.seq
(.reg 11 [oM 12 (cB false)] [0,1,3,9,10,11,12])
(.seq
(.seq
(.reg 12 [oM 13 (cI 0)] [0,1,3,9,10,11,12,13])
(.block 4
(.loop
(.seq
(.seq
(.reg 13 [oM 45 T13,oM 46 T9,oQ 47 (.len 0 T46),oQ 48 (.bin .lss T45 T47)] [0,1,3,9,10,11,12,13,48])
(.cond T48
.skip
(.exit 4)))
(.seq
(.block 5
(.an7 15 [oM 51 T12,oM 52 T51,gQ 53 52 false (.mov T9),gQ 54 52 false (.mov T13),gQ 55 52 false (.ab6 1 T53 T54),gQ 56 52 false (.load none T55),gQ 57 52 false (.mov T1),gQ 58 52 false (.mov T11),gQ 59 52 false (.ab6 1 T57 T58),gQ 60 52 false (.load none T59),gQ 61 52 false (.bin .eql T56 T60),oQ 62 (.pick T52 (cB true) T61),oM 12 T62] false [0,1,3,9,10,11,12,13]))
(.reg 14 [oM 49 T13,oQ 50 (.bin .add T49 (cI 1)),oM 13 T50] [0,1,3,9,10,11,12,13]))))))
(.seq
(.reg 16 [oM 63 T12,oQ 64 (.not T63)] [0,1,3,9,10,11,64])
(.cond T64
(.reg 17 [oM 65 T9,oM 66 T1,oM 67 T11,oQ 68 (.ab6 1 T66 T67),oQ 69 (.load none T68),oK 70 (.aw2 1 1 [(zI 0)] [⟨0,⟨1,T69⟩⟩]),oK 71 (.app 1 T65 T70),oM 9 T71] [0,1,3,9,10,11])
.skip)))))))
(.reg 7 [oM 26 T11,oQ 27 (.bin .add T26 (cI 1)),oM 11 T27] [0,1,3,9,10,11])))))))
(.reg 4 [oM 20 T10,oQ 21 (.bin .add T20 (cI 1)),oM 10 T21] [0,1,3,9,10]))))))
(.seq
(.reg 18 [oM 8 (cB false)] [8])
.ret))))
theorem fok81:FOK Tryz.prog 81 (72,ic81,[(.t 8)]):=ai3 [1000070] Tryz.func81
def ic82:IC :=
(.seq
(.reg 0 [oM 4 (cI 0)] [0,1])
(.seq
(.seq
(.reg 1 [oM 6 T0,oQ 7 (.len 0 T6),oM 8 (cI 0)] [0,1,7,8])
(.block 0
(.loop
(.seq
(.reg 2 [oQ 9 (.bin .lss T8 T7)] [0,1,7,8,9])
(.seq
(.cond T9
.skip
(.exit 0))
(.seq
(.block 1
(.seq
(.reg 3 [oM 10 T8,oM 5 T10] [0,1,5,7,8])
(.seq
(.reg 4 [oM 11 T1,oM 12 T0,oM 13 T5,oQ 14 (.ab6 7 T12 T13),oQ 15 (.load (some 7) T14),oK 16 (.aj3 T11 [T15])] [0,1,5,7,8,16])
(.cond T16
(.seq
(.reg 5 [oM 17 T5,oM 4 T17] [4])
.ret)
.skip))))
(.reg 6 [oQ 18 (.bin .add T8 (cI 1)),oM 8 T18] [0,1,7,8])))))))
(.seq
(.reg 7 [oM 4 (cI (-1))] [4])
.ret)))
theorem fok82:FOK Tryz.prog 82 (19,ic82,[(.t 4)]):=ai3 [] Tryz.func82
def ic83:IC :=
(.seq
(.reg 0 [oM 4 (cI 0)] [0,1])
(.seq
(.seq
(.reg 1 [oM 6 T0,oQ 7 (.len 0 T6),oM 8 (cI 0)] [0,1,7,8])
(.block 0
(.loop
(.seq
(.reg 2 [oQ 9 (.bin .lss T8 T7)] [0,1,7,8,9])
(.seq
(.cond T9
.skip
(.exit 0))
(.seq
(.block 1
(.seq
(.reg 3 [oM 10 T8,oM 5 T10] [0,1,5,7,8])
(.seq
(.reg 4 [oM 11 T1,oM 12 T0,oM 13 T5,oQ 14 (.ab6 5 T12 T13),oQ 15 (.load (some 5) T14),oK 16 (.aj3 T11 [T15])] [0,1,5,7,8,16])
(.cond T16
(.seq
(.reg 5 [oM 17 T5,oM 4 T17] [4])
.ret)
.skip))))
(.reg 6 [oQ 18 (.bin .add T8 (cI 1)),oM 8 T18] [0,1,7,8])))))))
(.seq
(.reg 7 [oM 4 (cI (-1))] [4])
.ret)))
theorem fok83:FOK Tryz.prog 83 (19,ic83,[(.t 4)]):=ai3 [] Tryz.func83
def ic84:IC :=
(.seq
(.reg 0 [oK 1 (.ak7 T0),oM 2 (.c .af3)] [1])
(.seq
(.reg 1 [oK 3 (.alloc [.af3])] [1,3])
(.seq
(.reg 2 [oQ 4 (.mkf 112 [] [T3]),oN (.store 1 T3 T4)] [1,3])
(.seq
(.reg 3 [oQ 5 (.mkf 113 [] [T3,T1]),oM 2 T5] [2])
.ret))))
theorem fok84:FOK Tryz.prog 84 (6,ic84,[(.t 2)]):=ai3 [1000001] Tryz.func84
def ic85:IC :=
(.seq
(.reg 0 [oK 2 (.ak7 T0),oK 3 (.ak7 T1),oM 4 (cB false)] [2,3])
(.seq
(.an7 1 [oQ 5 (.load (some 15) T2),oK 6 (.ah5 114 [T5]),oQ 7 (.load (some 5) T3),oK 8 (.ah5 87 [T6,T7]),oM 4 T8] false [4])
.ret))
theorem fok85:FOK Tryz.prog 85 (9,ic85,[(.t 4)]):=ai3 ([1000002,1000003]++[87,114]) Tryz.func85 (by kernel_rfl) (by kernel_rfl) (by kernel_rfl) (by kernel_rfl)
def ic86:IC :=
(.seq
(.reg 0 [oK 2 (.ak7 T0),oM 3 (cB false)] [1,2])
(.seq
(.reg 1 [oQ 4 (.load (some 5) T2),oQ 5 (.load (some 5) T1),oK 6 (.call 87 [T4,T5]),oM 3 T6] [3])
.ret))
theorem fok86:FOK Tryz.prog 86 (7,ic86,[(.t 3)]):=ai3 [1000002] Tryz.func86
def ic87:IC :=
(.seq
(.reg 0 [oK 2 (.ak7 T0),oK 3 (.ak7 T1),oM 4 (cB false)] [2,3])
(.seq
(.reg 1 [oQ 5 (.ab1 0 T2),oQ 6 (.load none T5),oQ 7 (.ab1 0 T3),oQ 8 (.load none T7),oQ 9 (.bin .eql T6 T8),oM 10 T9,gQ 11 10 true (.load (some 5) T2),gQ 12 10 true (.load (some 5) T3),gK 13 10 true (.call 115 [T11,T12]),oQ 14 (.pick T10 T13 (cB false)),oM 4 T14] [4])
.ret))
theorem fok87:FOK Tryz.prog 87 (15,ic87,[(.t 4)]):=ai3 [1000002,1000003] Tryz.func87
def ic88:IC :=
(.seq
(.reg 0 [oM 4 (cB false)] [0,1])
(.seq
(.reg 1 [oM 5 T0,oM 6 T1,oK 7 (.call 116 [T5,T6]),oQ 8 (.bin .geq T7 (cI 0)),oM 4 T8] [4])
.ret))
theorem fok88:FOK Tryz.prog 88 (9,ic88,[(.t 4)]):=ai3 [] Tryz.func88
def ic89:IC :=
(.seq
(.reg 0 [oK 1 (.ak7 T0),oK 2 (.alloc [(.str []),(zU 0),(zI 0),(.str []),(.str [])])] [1,2])
(.seq
(.reg 1 [oQ 3 (.ab1 0 T1),oQ 4 (.load none T3),oQ 5 (.ab1 1 T1),oQ 6 (.load (some 3) T5),oK 7 (.call 117 [T4,T6]),oN (.store 5 T2 T7)] [2])
.ret))
theorem fok89:FOK Tryz.prog 89 (8,ic89,[(.cell (some 5) 2)]):=ai3 [1000001] Tryz.func89
def ic90:IC :=
(.seq
(.reg 0 [oK 2 (.ak7 T0),oK 3 (.ak7 T1),oM 4 (cI 0)] [2,3])
(.seq
(.seq
(.reg 1 [oQ 6 (.ab1 0 T2),oQ 7 (.load none T6),oQ 8 (.ab1 0 T3),oQ 9 (.load none T8),oQ 10 (.bin .lss T7 T9)] [2,3,10])
(.cond T10
(.seq
(.reg 2 [oM 4 (cI (-1))] [4])
.ret)
.skip))
(.seq
(.seq
(.reg 3 [oQ 11 (.ab1 0 T2),oQ 12 (.load none T11),oQ 13 (.ab1 0 T3),oQ 14 (.load none T13),oQ 15 (.bin .gtr T12 T14)] [2,3,15])
(.cond T15
(.seq
(.reg 4 [oM 4 (cI 1)] [4])
.ret)
.skip))
(.seq
(.reg 5 [oQ 16 (.ab1 1 T2),oQ 17 (.load none T16),oQ 18 (.ab1 1 T3),oQ 19 (.load none T18),oK 20 (.call 118 [T17,T19]),oM 5 T20] [2,3,5])
(.seq
(.seq
(.reg 6 [oM 21 T5,oQ 22 (.bin .neq T21 (cI 0)),oM 23 T22,gQ 24 23 false (.ab1 2 T2),gQ 25 23 false (.load none T24),gQ 26 23 false (.bin .eql T25 (.c (.str []))),oQ 27 (.pick T23 (cB true) T26),oM 28 T27,gQ 29 28 false (.ab1 2 T3),gQ 30 28 false (.load none T29),gQ 31 28 false (.bin .eql T30 (.c (.str []))),oQ 32 (.pick T28 (cB true) T31)] [2,3,5,32])
(.cond T32
(.seq
(.reg 7 [oM 33 T5,oM 4 T33] [4])
.ret)
.skip))
(.seq
(.reg 8 [oQ 34 (.ab1 2 T2),oQ 35 (.load none T34),oQ 36 (.ab1 2 T3),oQ 37 (.load none T36),oK 38 (.call 118 [T35,T37]),oM 4 T38] [4])
.ret))))))
theorem fok90:FOK Tryz.prog 90 (39,ic90,[(.t 4)]):=ai3 [1000002,1000003] Tryz.func90
def ic91:IC :=
(.seq
(.reg 0 [oM 4 (cI 0)] [0,1])
(.seq
(.reg 1 [oM 5 T0,oM 6 T1,oK 7 (.call 119 [T5,T6]),oM 4 T7] [4])
.ret))
theorem fok91:FOK Tryz.prog 91 (8,ic91,[(.t 4)]):=ai3 [] Tryz.func91
def ic92:IC :=
(.seq
(.reg 0 [oM 4 (cB false)] [0,1])
(.seq
(.reg 1 [oM 5 T0,oM 6 T1,oK 7 (.call 120 [T5,T6]),oM 4 T7] [4])
.ret))
theorem fok92:FOK Tryz.prog 92 (8,ic92,[(.t 4)]):=ai3 [] Tryz.func92
def ic93:IC :=
(.seq
(.reg 0 [oM 2 (cB false)] [0])
(.seq
(.seq
(.reg 1 [oM 5 T0,oQ 6 (.bin .eql T5 (.c (.str []))),oM 7 T6,gQ 8 7 false (.mov T0),gQ 9 7 false (.len 1 T8),gQ 10 7 false (.bin .gtr T9 (cI 64)),oQ 11 (.pick T7 (cB true) T10)] [0,11])
(.cond T11
(.seq
(.reg 2 [oM 2 (cB false)] [2])
.ret)
.skip))
(.seq
(.seq
(.reg 3 [oM 12 T0,oQ 13 (.len 1 T12),oM 14 (cI 0)] [0,13,14])
(.block 0
(.loop
(.seq
(.reg 4 [oQ 15 (.bin .lss T14 T13)] [0,13,14,15])
(.seq
(.cond T15
.skip
(.exit 0))
(.seq
(.block 1
(.seq
(.reg 5 [oM 16 T14,oM 3 T16] [0,3,13,14])
(.seq
(.reg 6 [oM 17 T0,oM 18 T3,oQ 19 (.dv1 T17 T18),oM 4 T19] [0,4,13,14])
(.block 2
(.seq
(.seq
(.reg 8 [oM 21 T4,oQ 22 (.bin .geq T21 (.c (zU 97))),oM 23 T22,gQ 24 23 true (.mov T4),gQ 25 23 true (.bin .leq T24 (.c (zU 122))),oQ 26 (.pick T23 T25 (cB false)),oM 20 T26] [0,4,13,14,20])
(.cond T20
.skip
(.seq
(.reg 9 [oM 27 T4,oQ 28 (.bin .geq T27 (.c (zU 65))),oM 29 T28,gQ 30 29 true (.mov T4),gQ 31 29 true (.bin .leq T30 (.c (zU 90))),oQ 32 (.pick T29 T31 (cB false)),oM 20 T32] [0,4,13,14,20])
(.cond T20
.skip
(.seq
(.reg 10 [oM 33 T4,oQ 34 (.bin .geq T33 (.c (zU 48))),oM 35 T34,gQ 36 35 true (.mov T4),gQ 37 35 true (.bin .leq T36 (.c (zU 57))),oQ 38 (.pick T35 T37 (cB false)),oM 20 T38] [0,4,13,14,20])
(.cond T20
.skip
(.reg 11 [oM 39 T4,oK 40 (.call 91 [(.c (.str [46,95,43,126,94])),T39]),oQ 41 (.bin .geq T40 (cI 0)),oM 20 T41] [0,13,14,20])))))))
(.cond T20
.skip
(.seq
(.reg 7 [oM 2 (cB false)] [2])
.ret)))))))
(.reg 12 [oQ 42 (.bin .add T14 (cI 1)),oM 14 T42] [0,13,14])))))))
(.seq
(.reg 13 [oM 2 (cB true)] [2])
.ret))))
theorem fok93:FOK Tryz.prog 93 (43,ic93,[(.t 2)]):=ai3 [] Tryz.func93
def ic94:IC :=
(.seq
(.reg 0 [oM 2 (cB false)] [0])
(.seq
(.reg 1 [oM 3 T0,oQ 4 (.bin .geq T3 (.c (zU 1))),oM 5 T4,gQ 6 5 true (.mov T0),gQ 7 5 true (.bin .leq T6 (.c (zU 4))),oQ 8 (.pick T5 T7 (cB false)),oM 2 T8] [2])
.ret))
theorem fok94:FOK Tryz.prog 94 (9,ic94,[(.t 2)]):=ai3 [] Tryz.func94
def ic95:IC :=
(.seq
(.reg 0 [oK 0 (.alloc [(.str []),(.str []),(.str []),(.str []),(.str [])])] [0])
(.seq
(.reg 1 [oQ 1 (.bld [(.str []),(.str []),(.str []),(.str []),(.str [])] [⟨1,⟨1,(.c (.str [110,111,97,114,99,104]))⟩⟩,⟨2,⟨1,(.c (.str [120,56,54,95,54,52]))⟩⟩,⟨3,⟨1,(.c (.str [105,54,56,54]))⟩⟩,⟨4,⟨1,(.c (.str [97,97,114,99,104,54,52]))⟩⟩]),oN (.store 5 T0 T1)] [0])
.ret))
theorem fok95:FOK Tryz.prog 95 (2,ic95,[(.cell (some 5) 0)]):=ai3 [] Tryz.func95
def ic96:IC :=
(.seq
(.reg 0 [oK 2 (.ak7 T0),oM 3 (cB false)] [1,2])
(.seq
(.reg 1 [oQ 4 (.load none T1),oQ 5 (.load (some 5) T2),oK 6 (.aj3 T4 [T5]),oQ 7 (.not T6),oM 3 T7] [3])
.ret))
theorem fok96:FOK Tryz.prog 96 (8,ic96,[(.t 3)]):=ai3 [1000002] Tryz.func96
def ic97:IC :=
(.seq
(.reg 0 [oM 2 (cB false)] [0])
(.seq
(.reg 1 [oM 3 T0,oQ 4 (.bin .eql T3 (.c (zU 0))),oM 5 T4,gQ 6 5 false (.mov T0),gK 7 5 false (.call 121 [T6]),gQ 8 5 false (.bin .neq T7 (.c (.str []))),oQ 9 (.pick T5 (cB true) T8),oM 2 T9] [2])
.ret))
theorem fok97:FOK Tryz.prog 97 (10,ic97,[(.t 2)]):=ai3 [] Tryz.func97
def ic98:IC :=
(.seq
(.reg 0 [oM 4 (cB false)] [0,1])
(.seq
(.reg 1 [oM 5 T0,oM 6 T1,oK 7 (.call 122 [T5,T6]),oQ 8 (.bin .geq T7 (cI 0)),oM 4 T8] [4])
.ret))
theorem fok98:FOK Tryz.prog 98 (9,ic98,[(.t 4)]):=ai3 [] Tryz.func98
def ic99:IC :=
(.seq
(.reg 0 [oM 3 (cB false)] [0,1])
(.seq
(.reg 1 [oQ 4 (.load none T1),oM 5 T0,oK 6 (.aj3 T4 [T5]),oQ 7 (.not T6),oM 3 T7] [3])
.ret))
theorem fok99:FOK Tryz.prog 99 (8,ic99,[(.t 3)]):=ai3 [] Tryz.func99
def ic100:IC :=
(.reg 0 [oM 3 T0,oQ 4 (.ab1 7 T1),oQ 5 (.load none T4),oK 6 (.aj3 T3 [(.c (zU 1)),T5]),oM 7 T6,gQ 8 7 true (.mov T0),gQ 9 7 true (.ab1 8 T1),gQ 10 7 true (.load none T9),gK 11 7 true (.aj3 T8 [(.c (zU 2)),T10]),oQ 12 (.pick T7 T11 (cB false)),oM 13 T12,gQ 14 13 true (.mov T0),gQ 15 13 true (.ab1 10 T1),gQ 16 13 true (.load none T15),gK 17 13 true (.aj3 T14 [(.c (zU 1)),T16]),oQ 18 (.pick T13 T17 (cB false)),oM 19 T18,gQ 20 19 true (.mov T0),gQ 21 19 true (.ab1 11 T1),gQ 22 19 true (.load none T21),gK 23 19 true (.aj3 T20 [(.c (zU 3)),T22]),oQ 24 (.pick T19 T23 (cB false)),oM 25 T24,gQ 26 25 true (.mov T0),gQ 27 25 true (.ab1 12 T1),gQ 28 25 true (.load none T27),gK 29 25 true (.aj3 T26 [(.c (zU 1)),T28]),oQ 30 (.pick T25 T29 (cB false)),oM 31 T30,gQ 32 31 true (.mov T0),gQ 33 31 true (.ab1 13 T1),gQ 34 31 true (.load none T33),gK 35 31 true (.aj3 T32 [(.c (zU 3)),T34]),oQ 36 (.pick T31 T35 (cB false))] [])
theorem fok100:FOK Tryz.prog 100 (37,ic100,[]):=ai3 [] Tryz.func100
def ic101:IC :=
(.seq
(.reg 0 [oK 2 (.ak7 T0),oM 3 (cB false)] [1,2])
(.seq
(.reg 1 [oQ 4 (.load none T1),oQ 5 (.load (some 7) T2),oK 6 (.aj3 T4 [T5]),oQ 7 (.not T6),oM 3 T7] [3])
.ret))
theorem fok101:FOK Tryz.prog 101 (8,ic101,[(.t 3)]):=ai3 [1000002] Tryz.func101
def ic102:IC :=
(.seq
(.reg 0 [oK 1 (.ak7 T0),oM 2 (cI 0)] [1,2])
(.seq
(.reg 1 [oK 3 (.alloc [(zI 0)]),oN (.store 1 T3 (cI 0))] [1,2,3])
(.seq
(.seq
(.reg 2 [oQ 4 (.load (some 7) T1),oK 5 (.call 84 [T4])] [2,3,5])
(.block 0
(.be8 T5 [6,7]
.skip
(.block 1
(.reg 3 [oQ 8 (.load none T3),oQ 9 (.bin .add T8 (cI 1)),oN (.store 1 T3 T9)] [])))))
(.seq
(.reg 4 [oQ 10 (.load none T3),oM 2 T10] [2])
.ret))))
theorem fok102:FOK Tryz.prog 102 (11,ic102,[(.t 2)]):=ai3 [1000001] Tryz.func102
def ic103:IC :=
(.seq
(.reg 0 [oK 1 (.ak7 T0),oM 2 (cI 0)] [1])
(.seq
(.seq
(.reg 1 [oQ 6 (.ab1 0 T1),oQ 7 (.load none T6),oQ 8 (.bin .eql T7 (.c (zU 1)))] [1,8])
(.cond T8
(.seq
(.reg 2 [oM 2 (cI 0)] [2])
.ret)
.skip))
(.seq
(.reg 3 [oM 3 (cI 0)] [1,3])
(.seq
(.seq
(.reg 4 [oQ 9 (.ab1 6 T1),oQ 10 (.load none T9),oQ 11 (.len 0 T10),oM 12 (cI 0)] [3,10,11,12])
(.block 0
(.loop
(.seq
(.reg 5 [oQ 13 (.bin .lss T12 T11)] [3,10,11,12,13])
(.seq
(.cond T13
.skip
(.exit 0))
(.seq
(.block 1
(.seq
(.reg 6 [oQ 14 (.ab6 7 T10 T12),oQ 15 (.load (some 7) T14),oK 5 (.alloc [(zU 0),(.str []),(zU 0),(zI 0),(.str []),(.str []),.aa1]),oN (.store 7 T5 T15)] [3,5,10,11,12])
(.reg 7 [oM 16 T3,oQ 17 (.load (some 7) T5),oK 18 (.call 103 [T17]),oQ 19 (.mm true T16 T18),oM 3 T19] [3,10,11,12])))
(.reg 8 [oQ 20 (.bin .add T12 (cI 1)),oM 12 T20] [3,10,11,12])))))))
(.seq
(.reg 9 [oM 21 T3,oQ 22 (.bin .add T21 (cI 1)),oM 2 T22] [2])
.ret)))))
theorem fok103:FOK Tryz.prog 103 (23,ic103,[(.t 2)]):=ai3 [1000001] Tryz.func103
def ic104:IC :=
(.seq
(.reg 0 [oK 2 (.alloc [(zI 0),(zI 0),(.bool false),(zU 0)])] [0,2])
(.seq
(.reg 1 [oQ 4 (.bld [(zI 0),(zI 0),(.bool false),(zU 0)] [⟨0,⟨1,(cI 0)⟩⟩,⟨1,⟨1,(cI 0)⟩⟩,⟨2,⟨1,(cB true)⟩⟩,⟨3,⟨1,(.c (zU 3))⟩⟩]),oQ 5 (.bld [(zI 0),(zI 0),(.bool false),(zU 0)] [⟨0,⟨1,(cI 2)⟩⟩,⟨1,⟨1,(cI 24)⟩⟩,⟨2,⟨1,(cB true)⟩⟩,⟨3,⟨1,(.c (zU 3))⟩⟩]),oQ 6 (.bld [(zI 0),(zI 0),(.bool false),(zU 0)] [⟨0,⟨1,(cI 2)⟩⟩,⟨1,⟨1,(cI 24)⟩⟩,⟨2,⟨1,(cB true)⟩⟩,⟨3,⟨1,(.c (zU 3))⟩⟩]),oQ 7 (.bld [(zI 0),(zI 0),(.bool false),(zU 0)] [⟨0,⟨1,(cI 2)⟩⟩,⟨1,⟨1,(cI 3)⟩⟩,⟨2,⟨1,(cB false)⟩⟩,⟨3,⟨1,(.c (zU 1))⟩⟩]),oQ 8 (.bld [(zI 0),(zI 0),(.bool false),(zU 0)] [⟨0,⟨1,(cI 2)⟩⟩,⟨1,⟨1,(cI 3)⟩⟩,⟨2,⟨1,(cB false)⟩⟩,⟨3,⟨1,(.c (zU 2))⟩⟩]),oQ 9 (.bld [(zI 0),(zI 0),(.bool false),(zU 0)] [⟨0,⟨1,(cI 2)⟩⟩,⟨1,⟨1,(cI 24)⟩⟩,⟨2,⟨1,(cB true)⟩⟩,⟨3,⟨1,(.c (zU 3))⟩⟩]),oQ 10 (.bld [(zI 0),(zI 0),(.bool false),(zU 0)] [⟨0,⟨1,(cI 2)⟩⟩,⟨1,⟨1,(cI 2)⟩⟩,⟨2,⟨1,(cB true)⟩⟩,⟨3,⟨1,(.c (zU 3))⟩⟩]),oQ 11 (.bld [(zI 0),(zI 0),(.bool false),(zU 0),(zI 0),(zI 0),(.bool false),(zU 0),(zI 0),(zI 0),(.bool false),(zU 0),(zI 0),(zI 0),(.bool false),(zU 0),(zI 0),(zI 0),(.bool false),(zU 0),(zI 0),(zI 0),(.bool false),(zU 0),(zI 0),(zI 0),(.bool false),(zU 0),(zI 0),(zI 0),(.bool false),(zU 0)] [⟨4,⟨4,T4⟩⟩,⟨8,⟨4,T5⟩⟩,⟨12,⟨4,T6⟩⟩,⟨16,⟨4,T7⟩⟩,⟨20,⟨4,T8⟩⟩,⟨24,⟨4,T9⟩⟩,⟨28,⟨4,T10⟩⟩]),oK 3 (.alloc [(zI 0),(zI 0),(.bool false),(zU 0),(zI 0),(zI 0),(.bool false),(zU 0),(zI 0),(zI 0),(.bool false),(zU 0),(zI 0),(zI 0),(.bool false),(zU 0),(zI 0),(zI 0),(.bool false),(zU 0),(zI 0),(zI 0),(.bool false),(zU 0),(zI 0),(zI 0),(.bool false),(zU 0),(zI 0),(zI 0),(.bool false),(zU 0)]),oN (.store 32 T3 T11)] [0,2,3])
(.seq
(.seq
(.reg 2 [oM 12 T0,oQ 13 (.conv .i64 T12),oQ 14 (.bin .geq T13 (cI 8))] [0,2,3,14])
(.cond T14
(.seq
(.reg 3 [oQ 15 (.bld [(zI 0),(zI 0),(.bool false),(zU 0)] []),oN (.store 4 T2 T15)] [2])
.ret)
.skip))
(.seq
(.reg 4 [oM 16 T0,oQ 17 (.az3 8 4 T3 T16),oQ 18 (.load (some 4) T17),oN (.store 4 T2 T18)] [2])
.ret))))
theorem fok104:FOK Tryz.prog 104 (19,ic104,[(.cell (some 4) 2)]):=ai3 [] Tryz.func104
def ic105:IC :=
(.seq
(.reg 0 [oM 12 T1,oM 10 T12] [0,2,3,4,10])
(.block 0
(.loop
(.block 1
(.seq
(.reg 1 [oM 13 T10,oQ 14 (.bin .mul (cI 2) T13),oQ 15 (.bin .add T14 (cI 1)),oM 11 T15] [0,2,3,4,10,11])
(.seq
(.seq
(.reg 2 [oM 16 T11,oM 17 T2,oQ 18 (.bin .geq T16 T17)] [0,2,3,4,10,11,18])
(.cond T18
(.exit 0)
.skip))
(.seq
(.seq
(.an7 3 [oM 19 T11,oQ 20 (.bin .add T19 (cI 1)),oM 21 T2,oQ 22 (.bin .lss T20 T21),oM 23 T22,gQ 24 23 true (.mov T4),gQ 25 23 true (.mov T0),gQ 26 23 true (.mov T3),gQ 27 23 true (.mov T11),gQ 28 23 true (.bin .add T26 T27),gQ 29 23 true (.ab6 1 T25 T28),gQ 30 23 true (.load none T29),gQ 31 23 true (.mov T0),gQ 32 23 true (.mov T3),gQ 33 23 true (.mov T11),gQ 34 23 true (.bin .add T32 T33),gQ 35 23 true (.bin .add T34 (cI 1)),gQ 36 23 true (.ab6 1 T31 T35),gQ 37 23 true (.load none T36),gK 38 23 true (.aj3 T24 [T30,T37]),gQ 39 23 true (.bin .lss T38 (cI 0)),oQ 40 (.pick T23 T39 (cB false))] false [0,2,3,4,10,11,40])
(.cond T40
(.reg 4 [oM 41 T11,oQ 42 (.bin .add T41 (cI 1)),oM 11 T42] [0,2,3,4,10,11])
.skip))
(.seq
(.seq
(.an7 5 [oM 43 T4,oM 44 T0,oM 45 T3,oM 46 T10,oQ 47 (.bin .add T45 T46),oQ 48 (.ab6 1 T44 T47),oQ 49 (.load none T48),oM 50 T0,oM 51 T3,oM 52 T11,oQ 53 (.bin .add T51 T52),oQ 54 (.ab6 1 T50 T53),oQ 55 (.load none T54),oK 56 (.aj3 T43 [T49,T55]),oQ 57 (.bin .lss T56 (cI 0)),oQ 58 (.not T57)] false [0,2,3,4,10,11,58])
(.cond T58
.ret
.skip))
(.seq
(.an7 6 [oM 59 T0,oM 60 T3,oM 61 T10,oQ 62 (.bin .add T60 T61),oM 63 T0,oM 64 T3,oM 65 T11,oQ 66 (.bin .add T64 T65),oM 67 T0,oM 68 T3,oM 69 T11,oQ 70 (.bin .add T68 T69),oQ 71 (.ab6 1 T67 T70),oQ 72 (.load none T71),oM 73 T0,oM 74 T3,oM 75 T10,oQ 76 (.bin .add T74 T75),oQ 77 (.ab6 1 T73 T76),oQ 78 (.load none T77),oQ 79 (.ab6 1 T59 T62),oN (.store 1 T79 T72),oQ 80 (.ab6 1 T63 T66),oN (.store 1 T80 T78)] false [0,2,3,4,11])
(.reg 7 [oM 81 T11,oM 10 T81] [0,2,3,4,10]))))))))))
theorem fok105:FOK Tryz.prog 105 (82,ic105,[]):=ai3 [] Tryz.func105
def ic106:IC :=
(.seq
(.reg 0 [oM 2 (.c (.int .u64 0))] [0])
(.seq
(.reg 1 [oM 3 T0,oQ 4 (.conv .u64 T3),oK 5 (.call 34 [T4]),oQ 6 (.bin .shl (.c (.int .u64 1)) T5),oM 2 T6] [2])
.ret))
theorem fok106:FOK Tryz.prog 106 (7,ic106,[(.t 2)]):=ai3 [] Tryz.func106
def ic107:IC :=
(.seq
(.reg 0 [oM 2 (.c (.int .u64 0))] [0])
(.seq
(.an7 1 [oM 3 T0,oQ 4 (.bq9 T3),oQ 5 (.load none T4),oM 6 T0,oQ 7 (.bq9 T6),oQ 8 (.load none T7),oQ 9 (.bin .shl T8 (.c (.int .u64 13))),oQ 10 (.bin .xor T5 T9),oQ 11 (.bq9 T3),oN (.store 1 T11 T10)] false [0])
(.seq
(.an7 2 [oM 12 T0,oQ 13 (.bq9 T12),oQ 14 (.load none T13),oM 15 T0,oQ 16 (.bq9 T15),oQ 17 (.load none T16),oQ 18 (.bin .shr T17 (.c (.int .u64 7))),oQ 19 (.bin .xor T14 T18),oQ 20 (.bq9 T12),oN (.store 1 T20 T19)] false [0])
(.seq
(.an7 3 [oM 21 T0,oQ 22 (.bq9 T21),oQ 23 (.load none T22),oM 24 T0,oQ 25 (.bq9 T24),oQ 26 (.load none T25),oQ 27 (.bin .shl T26 (.c (.int .u64 17))),oQ 28 (.bin .xor T23 T27),oQ 29 (.bq9 T21),oN (.store 1 T29 T28)] false [0])
(.seq
(.reg 4 [oM 30 T0,oQ 31 (.bq9 T30),oQ 32 (.load none T31),oM 2 T32] [2])
.ret)))))
theorem fok107:FOK Tryz.prog 107 (33,ic107,[(.t 2)]):=ai3 [] Tryz.func107
def ic108:IC :=
(.seq
(.reg 0 [oM 8 (cI 0)] [0,1,2,3])
(.seq
(.reg 1 [oM 9 T0,oM 10 T1,oQ 11 (.bin .sub T10 (cI 1)),oM 12 T1,oM 13 T1,oQ 14 (.bin .add T13 (cI 1)),oM 15 T2,oM 16 T3,oK 17 (.call 109 [T9,T11,T12,T14,T15,T16]),oM 8 T17] [8])
.ret))
theorem fok108:FOK Tryz.prog 108 (18,ic108,[(.t 8)]):=ai3 [] Tryz.func108
def ic109:IC :=
(.seq
(.reg 0 [oM 12 (cI 0)] [0,1,2,3,4,5])
(.seq
(.reg 1 [oM 14 T0,oM 15 T1,oM 16 T2,oM 17 T4,oM 18 T5,oK 19 (.call 123 [T14,T15,T16,T17,T18]),oM 13 T19,oQ 20 (.ext 0 T13),oQ 21 (.ext 1 T13),oM 1 T20,oM 2 T21] [0,1,2,3,4,5])
(.seq
(.reg 2 [oM 23 T0,oM 24 T2,oM 25 T3,oM 26 T4,oM 27 T5,oK 28 (.call 123 [T23,T24,T25,T26,T27]),oM 22 T28,oQ 29 (.ext 0 T22),oQ 30 (.ext 1 T22),oM 2 T29,oM 3 T30] [0,1,2,4,5])
(.seq
(.reg 3 [oM 32 T0,oM 33 T1,oM 34 T2,oM 35 T4,oM 36 T5,oK 37 (.call 123 [T32,T33,T34,T35,T36]),oM 31 T37,oQ 38 (.ext 0 T31),oQ 39 (.ext 1 T31),oM 1 T38,oM 2 T39] [2])
(.seq
(.reg 4 [oM 40 T2,oM 12 T40] [12])
.ret)))))
theorem fok109:FOK Tryz.prog 109 (41,ic109,[(.t 12)]):=ai3 [] Tryz.func109
def ic110:IC :=
(.seq
(.reg 0 [oK 2 (.box T0),oM 4 (.c .aa1)] [1,2,4])
(.seq
(.seq
(.reg 1 [oM 6 T1] [2,4,6])
(.block 0
(.be8 T6 [7]
(.reg 2 [oM 5 T7] [2,5])
(.block 1
(.reg 3 [oQ 8 (.load none T2),oM 9 T5,oK 10 (.aw2 1 1 [(zI 0)] [⟨0,⟨1,T9⟩⟩]),oK 11 (.app 1 T8 T10),oN (.store 1 T2 T11)] [])))))
(.seq
(.reg 4 [oQ 12 (.load none T2),oM 4 T12] [4])
.ret)))
theorem fok110:FOK Tryz.prog 110 (13,ic110,[(.t 4)]):=ai3 [1000010] Tryz.func110
def ic112:IC :=
(.seq
(.reg 0 [oK 4 (.ak7 T0),oM 7 (cB false)] [1,2,3,4])
(.seq
(.seq
(.reg 1 [oM 10 T2,oQ 11 (.load (some 7) T4),oM 12 T1,oK 13 (.aj3 T10 [T11,T12]),oQ 14 (.not T13)] [1,2,3,4,14])
(.cond T14
(.seq
(.reg 2 [oM 7 (cB false)] [7])
.ret)
.skip))
(.seq
(.reg 3 [oM 15 T1,oM 16 T15,gQ 17 16 false (.ab1 0 T4),gQ 18 16 false (.load none T17),gQ 19 16 false (.bin .eql T18 (.c (zU 6))),oQ 20 (.pick T16 (cB true) T19),oM 21 T20,gQ 22 21 false (.ab1 0 T4),gQ 23 21 false (.load none T22),gQ 24 21 false (.bin .eql T23 (.c (zU 7))),oQ 25 (.pick T21 (cB true) T24),oM 1 T25] [1,2,3,4])
(.seq
(.seq
(.reg 4 [oQ 26 (.ab1 6 T4),oQ 27 (.load none T26),oQ 28 (.len 0 T27),oM 29 (cI 0)] [1,2,3,27,28,29])
(.block 0
(.loop
(.seq
(.reg 5 [oQ 30 (.bin .lss T29 T28)] [1,2,3,27,28,29,30])
(.seq
(.cond T30
.skip
(.exit 0))
(.seq
(.block 1
(.seq
(.reg 6 [oQ 31 (.ab6 7 T27 T29),oQ 32 (.load (some 7) T31),oK 9 (.alloc [(zU 0),(.str []),(zU 0),(zI 0),(.str []),(.str []),.aa1]),oN (.store 7 T9 T32)] [1,2,3,9,27,28,29])
(.seq
(.reg 7 [oQ 33 (.load none T3),oQ 34 (.load (some 7) T9),oM 35 T1,oM 36 T2,oK 37 (.aj3 T33 [T34,T35,T36]),oQ 38 (.not T37)] [1,2,3,27,28,29,38])
(.cond T38
(.seq
(.reg 8 [oM 7 (cB false)] [7])
.ret)
.skip))))
(.reg 9 [oQ 39 (.bin .add T29 (cI 1)),oM 29 T39] [1,2,3,27,28,29])))))))
(.seq
(.reg 10 [oM 7 (cB true)] [7])
.ret)))))
theorem fok112:FOK Tryz.prog 112 (40,ic112,[(.t 7)]):=ai3 [1000004] Tryz.func112
def ic113:IC :=
(.reg 0 [oQ 4 (.load none T1),oQ 5 (.load (some 7) T2),oM 6 T0,oK 7 (.aj3 T4 [T5,(cB false),T6])] [])
theorem fok113:FOK Tryz.prog 113 (8,ic113,[]):=ai3 [] Tryz.func113
def ic114:IC :=
(.seq
(.reg 0 [oK 1 (.ak7 T0),oK 2 (.alloc [(.str []),(zU 0),(zI 0),(.str []),(.str [])])] [1,2])
(.seq
(.reg 1 [oQ 3 (.ab1 0 T1),oQ 4 (.load none T3),oQ 5 (.ab1 1 T1),oQ 6 (.load (some 3) T5),oK 7 (.call 133 [T4,T6]),oN (.store 5 T2 T7)] [2])
.ret))
theorem fok114:FOK Tryz.prog 114 (8,ic114,[(.cell (some 5) 2)]):=ai3 [1000001] Tryz.func114
def ic115:IC :=
(.seq
(.reg 0 [oK 2 (.ak7 T0),oK 3 (.ak7 T1),oM 4 (cB false)] [2,3])
(.seq
(.seq
(.reg 1 [oQ 6 (.ab1 1 T2),oQ 7 (.load none T6),oQ 8 (.bin .and T7 (.c (zU 7))),oQ 9 (.bin .eql T8 (.c (zU 0))),oM 10 T9,gQ 11 10 false (.ab1 1 T3),gQ 12 10 false (.load none T11),gQ 13 10 false (.bin .and T12 (.c (zU 7))),gQ 14 10 false (.bin .eql T13 (.c (zU 0))),oQ 15 (.pick T10 (cB true) T14)] [2,3,15])
(.cond T15
(.seq
(.reg 2 [oM 4 (cB true)] [4])
.ret)
.skip))
(.seq
(.reg 3 [oQ 16 (.ab1 2 T2),oQ 17 (.load (some 3) T16),oQ 18 (.ab1 2 T3),oQ 19 (.load (some 3) T18),oK 20 (.call 134 [T17,T19]),oM 5 T20] [2,3,5])
(.seq
(.seq
(.reg 4 [oM 21 T5,oQ 22 (.bin .eql T21 (cI 0))] [2,3,5,22])
(.cond T22
(.seq
(.reg 5 [oQ 23 (.ab1 1 T2),oQ 24 (.load none T23),oQ 25 (.ab1 1 T3),oQ 26 (.load none T25),oQ 27 (.bin .and T24 T26),oQ 28 (.bin .and T27 (.c (zU 7))),oQ 29 (.bin .neq T28 (.c (zU 0))),oM 4 T29] [4])
.ret)
.skip))
(.seq
(.an7 6 [oQ 30 (.ab1 1 T2),oQ 31 (.load none T30),oM 32 T5,oQ 33 (.neg T32),oK 34 (.ah5 135 [T33]),oQ 35 (.bin .and T31 T34),oQ 36 (.bin .neq T35 (.c (zU 0))),oM 37 T36,gQ 38 37 false (.ab1 1 T3),gQ 39 37 false (.load none T38),gQ 40 37 false (.mov T5),gK 41 37 false (.ah5 135 [T40]),gQ 42 37 false (.bin .and T39 T41),gQ 43 37 false (.bin .neq T42 (.c (zU 0))),oQ 44 (.pick T37 (cB true) T43),oM 4 T44] false [4])
.ret)))))
theorem fok115:FOK Tryz.prog 115 (45,ic115,[(.t 4)]):=ai3 ([1000002,1000003]++[135]) Tryz.func115 (by kernel_rfl) (by kernel_rfl) (by kernel_rfl) (by kernel_rfl)
def ic116:IC :=
(.seq
(.reg 0 [oM 4 (cI 0)] [0,1])
(.seq
(.seq
(.reg 1 [oM 6 T0,oQ 7 (.len 0 T6),oM 8 (cI 0)] [0,1,7,8])
(.block 0
(.loop
(.seq
(.reg 2 [oQ 9 (.bin .lss T8 T7)] [0,1,7,8,9])
(.seq
(.cond T9
.skip
(.exit 0))
(.seq
(.block 1
(.seq
(.reg 3 [oM 10 T8,oM 5 T10] [0,1,5,7,8])
(.seq
(.reg 4 [oM 11 T1,oM 12 T0,oM 13 T5,oQ 14 (.ab6 1 T12 T13),oQ 15 (.load none T14),oQ 16 (.bin .eql T11 T15)] [0,1,5,7,8,16])
(.cond T16
(.seq
(.reg 5 [oM 17 T5,oM 4 T17] [4])
.ret)
.skip))))
(.reg 6 [oQ 18 (.bin .add T8 (cI 1)),oM 8 T18] [0,1,7,8])))))))
(.seq
(.reg 7 [oM 4 (cI (-1))] [4])
.ret)))
theorem fok116:FOK Tryz.prog 116 (19,ic116,[(.t 4)]):=ai3 [] Tryz.func116
def ic117:IC :=
(.seq
(.reg 0 [oK 3 (.ak7 T1),oK 4 (.alloc [(.str []),(zU 0),(zI 0),(.str []),(.str [])])] [0,3,4])
(.seq
(.reg 1 [oM 5 T0,oQ 6 (.load (some 3) T3),oQ 7 (.bld [(.str []),(zU 0),(zI 0),(.str []),(.str [])] [⟨0,⟨1,T5⟩⟩,⟨1,⟨1,(.c (zU 2))⟩⟩,⟨2,⟨3,T6⟩⟩]),oN (.store 5 T4 T7)] [4])
.ret))
theorem fok117:FOK Tryz.prog 117 (8,ic117,[(.cell (some 5) 4)]):=ai3 [1000003] Tryz.func117
def ic118:IC :=
(.seq
(.reg 0 [oM 4 (cI 0)] [0,1])
(.seq
(.reg 1 [oM 8 T0,oK 9 (.call 136 [T8]),oM 10 T1,oK 11 (.call 136 [T10]),oM 5 T9,oM 6 T11] [5,6])
(.seq
(.seq
(.reg 2 [oM 7 (cI 0)] [5,6,7])
(.block 0
(.loop
(.seq
(.seq
(.reg 3 [oM 12 T7,oM 13 T5,oQ 14 (.len 0 T13),oQ 15 (.bin .lss T12 T14),oM 16 T15,gQ 17 16 false (.mov T7),gQ 18 16 false (.mov T6),gQ 19 16 false (.len 0 T18),gQ 20 16 false (.bin .lss T17 T19),oQ 21 (.pick T16 (cB true) T20)] [5,6,7,21])
(.cond T21
.skip
(.exit 0)))
(.seq
(.block 1
(.seq
(.seq
(.reg 5 [oM 24 T5,oM 25 T7,oK 26 (.call 138 [T24,T25]),oM 27 T6,oM 28 T7,oK 29 (.call 138 [T27,T28]),oK 30 (.call 137 [T26,T29])] [5,6,7,30])
(.cond T30
(.seq
(.reg 6 [oM 4 (cI (-1))] [4])
.ret)
.skip))
(.seq
(.reg 7 [oM 31 T6,oM 32 T7,oK 33 (.call 138 [T31,T32]),oM 34 T5,oM 35 T7,oK 36 (.call 138 [T34,T35]),oK 37 (.call 137 [T33,T36])] [5,6,7,37])
(.cond T37
(.seq
(.reg 8 [oM 4 (cI 1)] [4])
.ret)
.skip))))
(.reg 4 [oM 22 T7,oQ 23 (.bin .add T22 (cI 1)),oM 7 T23] [5,6,7]))))))
(.seq
(.reg 9 [oM 4 (cI 0)] [4])
.ret))))
theorem fok118:FOK Tryz.prog 118 (38,ic118,[(.t 4)]):=ai3 [] Tryz.func118
def ic119:IC :=
(.seq
(.reg 0 [oM 4 (cI 0)] [0,1])
(.seq
(.reg 1 [oM 5 T0,oM 6 T1,oQ 7 (.ibs T5 T6),oM 4 T7] [4])
.ret))
theorem fok119:FOK Tryz.prog 119 (8,ic119,[(.t 4)]):=ai3 [] Tryz.func119
def ic120:IC :=
(.seq
(.reg 0 [oM 4 (cB false)] [0,1])
(.seq
(.reg 1 [oM 5 T0,oQ 6 (.len 1 T5),oM 7 T1,oQ 8 (.len 1 T7),oQ 9 (.bin .geq T6 T8),oM 10 T9,gQ 11 10 true (.mov T0),gQ 12 10 true (.mov T1),gQ 13 10 true (.len 1 T12),gQ 14 10 true (.fz7 T11 none (some T13)),gQ 15 10 true (.mov T1),gQ 16 10 true (.bin .eql T14 T15),oQ 17 (.pick T10 T16 (cB false)),oM 4 T17] [4])
.ret))
theorem fok120:FOK Tryz.prog 120 (18,ic120,[(.t 4)]):=ai3 [] Tryz.func120
def ic121:IC :=
(.seq
(.reg 0 [oM 2 (.c (.str []))] [0])
(.seq
(.seq
(.reg 1 [oQ 5 (.load none (.g 1)),oK 6 (.ba7 T5)] [0,6])
(.block 0
(.loop
(.seq
(.reg 2 [oK 7 (.ch6 T6),oQ 8 (.ext 0 T7)] [0,6,8])
(.seq
(.cond T8
.skip
(.exit 0))
(.block 1
(.seq
(.reg 3 [oK 9 (.fc9 T6),oQ 10 (.ext 0 T9),oQ 11 (.ext 1 T9),oM 3 T10,oM 4 T11] [0,3,4,6])
(.seq
(.reg 4 [oM 12 T4,oM 13 T0,oQ 14 (.bin .eql T12 T13)] [0,3,6,14])
(.cond T14
(.seq
(.reg 5 [oM 15 T3,oM 2 T15] [2])
.ret)
.skip)))))))))
(.seq
(.reg 6 [oM 2 (.c (.str []))] [2])
.ret)))
theorem fok121:FOK Tryz.prog 121 (16,ic121,[(.t 2)]):=ai3 [] Tryz.func121
def ic122:IC :=
(.seq
(.reg 0 [oM 4 (cI 0)] [0,1])
(.seq
(.seq
(.reg 1 [oM 6 T0,oQ 7 (.len 0 T6),oM 8 (cI 0)] [0,1,7,8])
(.block 0
(.loop
(.seq
(.reg 2 [oQ 9 (.bin .lss T8 T7)] [0,1,7,8,9])
(.seq
(.cond T9
.skip
(.exit 0))
(.seq
(.block 1
(.seq
(.reg 3 [oM 10 T8,oM 5 T10] [0,1,5,7,8])
(.seq
(.reg 4 [oM 11 T1,oM 12 T0,oM 13 T5,oQ 14 (.ab6 1 T12 T13),oQ 15 (.load none T14),oK 16 (.aj3 T11 [T15])] [0,1,5,7,8,16])
(.cond T16
(.seq
(.reg 5 [oM 17 T5,oM 4 T17] [4])
.ret)
.skip))))
(.reg 6 [oQ 18 (.bin .add T8 (cI 1)),oM 8 T18] [0,1,7,8])))))))
(.seq
(.reg 7 [oM 4 (cI (-1))] [4])
.ret)))
theorem fok122:FOK Tryz.prog 122 (19,ic122,[(.t 4)]):=ai3 [] Tryz.func122
def ic123:IC :=
(.seq
(.reg 0 [oM 10 (cI 0),oM 11 (cI 0)] [0,1,2,3,4])
(.seq
(.seq
(.an7 1 [oM 12 T4,oM 13 T0,oM 14 T2,oQ 15 (.ab6 1 T13 T14),oQ 16 (.load none T15),oM 17 T0,oM 18 T1,oQ 19 (.ab6 1 T17 T18),oQ 20 (.load none T19),oK 21 (.aj3 T12 [T16,T20]),oQ 22 (.bin .lss T21 (cI 0))] false [1,2,3,22])
(.cond T22
(.seq
(.reg 2 [oM 23 T3,oQ 24 (.bq9 T23),oQ 25 (.load none T24),oQ 26 (.bin .add T25 (cI 1)),oQ 27 (.bq9 T23),oN (.store 1 T27 T26)] [1,2])
(.seq
(.reg 3 [oM 28 T2,oM 29 T1,oM 10 T28,oM 11 T29] [10,11])
.ret))
.skip))
(.seq
(.reg 4 [oM 30 T1,oM 31 T2,oM 10 T30,oM 11 T31] [10,11])
.ret)))
theorem fok123:FOK Tryz.prog 123 (32,ic123,[(.t 10),(.t 11)]):=ai3 [] Tryz.func123
def ic133:IC :=
(.seq
(.reg 0 [oK 3 (.ak7 T1),oK 4 (.alloc [(.str []),(zU 0),(zI 0),(.str []),(.str [])])] [0,3,4])
(.seq
(.reg 1 [oM 5 T0,oQ 6 (.load (some 3) T3),oQ 7 (.bld [(.str []),(zU 0),(zI 0),(.str []),(.str [])] [⟨0,⟨1,T5⟩⟩,⟨1,⟨1,(.c (zU 2))⟩⟩,⟨2,⟨3,T6⟩⟩]),oN (.store 5 T4 T7)] [4])
.ret))
theorem fok133:FOK Tryz.prog 133 (8,ic133,[(.cell (some 5) 4)]):=ai3 [1000003] Tryz.func133
def ic134:IC :=
(.seq
(.reg 0 [oK 2 (.ak7 T0),oK 3 (.ak7 T1),oM 4 (cI 0)] [2,3])
(.seq
(.reg 1 [oQ 5 (.mkf 144 [] [T2,T3]),oQ 6 (.mkf 145 [] [T2,T3]),oQ 7 (.mkf 147 [] [T2,T3]),oK 8 (.aw2 1 3 [.af3] [⟨0,⟨1,T5⟩⟩,⟨1,⟨1,T6⟩⟩,⟨2,⟨1,T7⟩⟩]),oK 9 (.call 143 [T8]),oM 4 T9] [4])
.ret))
theorem fok134:FOK Tryz.prog 134 (10,ic134,[(.t 4)]):=ai3 [1000002,1000003,1000008] Tryz.func134
def ic135:IC :=
(.seq
(.reg 0 [oM 2 (.c (zU 0))] [0])
(.seq
(.reg 1 [oQ 3 (.bld [(zU 0),(zU 0),(zU 0)] [⟨0,⟨1,(.c (zU 1))⟩⟩,⟨1,⟨1,(.c (zU 2))⟩⟩,⟨2,⟨1,(.c (zU 4))⟩⟩]),oM 4 T0,oQ 5 (.bin .add T4 (cI 1)),oQ 6 (.idx none 3 1 T3 T5),oM 2 T6] [2])
.ret))
theorem fok135:FOK Tryz.prog 135 (7,ic135,[(.t 2)]):=ai3 [] Tryz.func135
def ic136:IC :=
(.seq
(.reg 0 [oM 2 (.c .aa1)] [0])
(.seq
(.reg 1 [oM 3 (.c .aa1)] [0,3])
(.seq
(.seq
(.reg 2 [oM 4 (cI 0)] [0,3,4])
(.block 0
(.loop
(.seq
(.seq
(.reg 3 [oM 7 T4,oM 8 T0,oQ 9 (.len 1 T8),oQ 10 (.bin .lss T7 T9)] [0,3,4,10])
(.cond T10
.skip
(.exit 0)))
(.block 1
(.seq
(.reg 4 [oM 11 T0,oM 12 T4,oQ 13 (.dv1 T11 T12),oK 14 (.call 148 [T13]),oM 5 T14] [0,3,4,5])
(.seq
(.seq
(.reg 5 [oM 15 T5,oQ 16 (.bin .eql T15 (.c (zU 0)))] [0,3,4,5,16])
(.cond T16
(.seq
(.reg 6 [oM 17 T4,oQ 18 (.bin .add T17 (cI 1)),oM 4 T18] [0,3,4])
(.exit 1))
.skip))
(.seq
(.seq
(.reg 7 [oM 19 T5,oQ 20 (.bin .lss T19 (.c (zU 4)))] [0,3,4,5,20])
(.cond T20
(.seq
(.reg 8 [oM 21 T3,oM 22 T5,oQ 23 (.bld [(zU 0),(.str [])] [⟨0,⟨1,T22⟩⟩]),oK 24 (.aw2 2 1 [(zU 0),(.str [])] [⟨0,⟨2,T23⟩⟩]),oK 25 (.app 2 T21 T24),oM 3 T25] [0,3,4])
(.seq
(.reg 9 [oM 26 T4,oQ 27 (.bin .add T26 (cI 1)),oM 4 T27] [0,3,4])
(.exit 1)))
.skip))
(.seq
(.reg 10 [oM 28 T4,oM 6 T28] [0,3,4,5,6])
(.seq
(.block 2
(.loop
(.seq
(.seq
(.reg 11 [oM 29 T6,oM 30 T0,oQ 31 (.len 1 T30),oQ 32 (.bin .lss T29 T31),oM 33 T32,gQ 34 33 true (.mov T0),gQ 35 33 true (.mov T6),gQ 36 33 true (.dv1 T34 T35),gK 37 33 true (.call 148 [T36]),gQ 38 33 true (.mov T5),gQ 39 33 true (.bin .eql T37 T38),oQ 40 (.pick T33 T39 (cB false))] [0,3,4,5,6,40])
(.cond T40
.skip
(.exit 2)))
(.block 3
(.reg 12 [oM 41 T6,oQ 42 (.bin .add T41 (cI 1)),oM 6 T42] [0,3,4,5,6])))))
(.seq
(.block 4
(.loop
(.seq
(.seq
(.reg 13 [oM 43 T5,oQ 44 (.bin .eql T43 (.c (zU 5))),oM 45 T44,gQ 46 45 true (.mov T4),gQ 47 45 true (.mov T6),gQ 48 45 true (.bin .lss T46 T47),oQ 49 (.pick T45 T48 (cB false)),oM 50 T49,gQ 51 50 true (.mov T0),gQ 52 50 true (.mov T4),gQ 53 50 true (.dv1 T51 T52),gQ 54 50 true (.bin .eql T53 (.c (zU 48))),oQ 55 (.pick T50 T54 (cB false))] [0,3,4,5,6,55])
(.cond T55
.skip
(.exit 4)))
(.block 5
(.reg 14 [oM 56 T4,oQ 57 (.bin .add T56 (cI 1)),oM 4 T57] [0,3,4,5,6])))))
(.seq
(.reg 15 [oM 58 T3,oM 59 T5,oM 60 T0,oM 61 T4,oM 62 T6,oQ 63 (.fz7 T60 (some T61) (some T62)),oQ 64 (.bld [(zU 0),(.str [])] [⟨0,⟨1,T59⟩⟩,⟨1,⟨1,T63⟩⟩]),oK 65 (.aw2 2 1 [(zU 0),(.str [])] [⟨0,⟨2,T64⟩⟩]),oK 66 (.app 2 T58 T65),oM 3 T66] [0,3,6])
(.reg 16 [oM 67 T6,oM 4 T67] [0,3,4])))))))))))))
(.seq
(.reg 17 [oM 68 T3,oM 2 T68] [2])
.ret))))
theorem fok136:FOK Tryz.prog 136 (69,ic136,[(.t 2)]):=ai3 [1000024,1000065] Tryz.func136
def ic137:IC :=
(.seq
(.reg 0 [oK 2 (.ak7 T0),oK 3 (.ak7 T1),oM 4 (cB false)] [2,3])
(.seq
(.seq
(.reg 1 [oQ 5 (.ab1 0 T2),oQ 6 (.load none T5),oQ 7 (.ab1 0 T3),oQ 8 (.load none T7),oQ 9 (.bin .neq T6 T8)] [2,3,9])
(.cond T9
(.seq
(.reg 2 [oQ 10 (.ab1 0 T2),oQ 11 (.load none T10),oQ 12 (.ab1 0 T3),oQ 13 (.load none T12),oQ 14 (.bin .lss T11 T13),oM 4 T14] [4])
.ret)
.skip))
(.seq
(.seq
(.reg 3 [oQ 15 (.ab1 0 T2),oQ 16 (.load none T15),oQ 17 (.bin .eql T16 (.c (zU 5))),oM 18 T17,gQ 19 18 true (.ab1 1 T2),gQ 20 18 true (.load none T19),gQ 21 18 true (.len 1 T20),gQ 22 18 true (.ab1 1 T3),gQ 23 18 true (.load none T22),gQ 24 18 true (.len 1 T23),gQ 25 18 true (.bin .neq T21 T24),oQ 26 (.pick T18 T25 (cB false))] [2,3,26])
(.cond T26
(.seq
(.reg 4 [oQ 27 (.ab1 1 T2),oQ 28 (.load none T27),oQ 29 (.len 1 T28),oQ 30 (.ab1 1 T3),oQ 31 (.load none T30),oQ 32 (.len 1 T31),oQ 33 (.bin .lss T29 T32),oM 4 T33] [4])
.ret)
.skip))
(.seq
(.reg 5 [oQ 34 (.ab1 1 T2),oQ 35 (.load none T34),oQ 36 (.ab1 1 T3),oQ 37 (.load none T36),oQ 38 (.bin .lss T35 T37),oM 4 T38] [4])
.ret))))
theorem fok137:FOK Tryz.prog 137 (39,ic137,[(.t 4)]):=ai3 [1000002,1000003] Tryz.func137
def ic138:IC :=
(.seq
(.reg 0 [oK 4 (.alloc [(zU 0),(.str [])])] [0,1,4])
(.seq
(.seq
(.reg 1 [oM 5 T1,oM 6 T0,oQ 7 (.len 0 T6),oQ 8 (.bin .geq T5 T7)] [0,1,4,8])
(.cond T8
(.seq
(.reg 2 [oQ 9 (.bld [(zU 0),(.str [])] [⟨0,⟨1,(.c (zU 2))⟩⟩]),oN (.store 2 T4 T9)] [4])
.ret)
.skip))
(.seq
(.reg 3 [oM 10 T0,oM 11 T1,oQ 12 (.ab6 2 T10 T11),oQ 13 (.load (some 2) T12),oN (.store 2 T4 T13)] [4])
.ret)))
theorem fok138:FOK Tryz.prog 138 (14,ic138,[(.cell (some 2) 4)]):=ai3 [] Tryz.func138
end Go.Id.Tryz
