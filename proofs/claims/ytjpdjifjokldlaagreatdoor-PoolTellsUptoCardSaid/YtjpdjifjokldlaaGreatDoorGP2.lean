/- The compiled codes of functions,written by a program out of the given form. Conditions: none. -/
import Derived.Test.YtjpdjifjokldlaaGreatDoorFwZb
import Derived.Test.YtjpdjifjokldlaaGreatDoorProg
set_option linter.all false
namespace Go.Id.Tryz
open Go Go.Id Go.Proofs
def jh2:List Nat:=List.range 192
def ic122:IC :=
(.seq
(.reg 0 [oK 4 (.aj8 T0),oM 7 (cB false)] [1,2,3,4])
(.seq
(.seq
(.reg 1 [oM 10 T2,oQ 11 (.load (some 7) T4),oM 12 T1,oK 13 (.ap5 T10 [T11,T12]),oQ 14 (.not T13)] [1,2,3,4,14])
(.cond T14
(.seq
(.reg 2 [oM 7 (cB false)] [7])
.ret)
.skip))
(.seq
(.reg 3 [oM 15 T1,oM 16 T15,gQ 17 16 false (.aa7 0 T4),gQ 18 16 false (.load none T17),gQ 19 16 false (.bin .eql T18 (.c (zU 6))),oQ 20 (.pick T16 (cB true) T19),oM 21 T20,gQ 22 21 false (.aa7 0 T4),gQ 23 21 false (.load none T22),gQ 24 21 false (.bin .eql T23 (.c (zU 7))),oQ 25 (.pick T21 (cB true) T24),oM 1 T25] [1,2,3,4])
(.seq
(.seq
(.reg 4 [oQ 26 (.aa7 6 T4),oQ 27 (.load none T26),oQ 28 (.len 0 T27),oM 29 (cI 0)] [1,2,3,27,28,29])
(.block 0
(.loop
(.seq
(.reg 5 [oQ 30 (.bin .lss T29 T28)] [1,2,3,27,28,29,30])
(.seq
(.cond T30
.skip
(.exit 0))
(.seq
(.block 1
(.seq
(.reg 6 [oQ 31 (.ab5 7 T27 T29),oQ 32 (.load (some 7) T31),oK 9 (.alloc [(zU 0),(.str []),(zU 0),(zI 0),(.str []),(.str []),.aa1]),oN (.store 7 T9 T32)] [1,2,3,9,27,28,29])
(.seq
(.reg 7 [oQ 33 (.load none T3),oQ 34 (.load (some 7) T9),oM 35 T1,oM 36 T2,oK 37 (.ap5 T33 [T34,T35,T36]),oQ 38 (.not T37)] [1,2,3,27,28,29,38])
(.cond T38
(.seq
(.reg 8 [oM 7 (cB false)] [7])
.ret)
.skip))))
(.reg 9 [oQ 39 (.bin .add T29 (cI 1)),oM 29 T39] [1,2,3,27,28,29])))))))
(.seq
(.reg 10 [oM 7 (cB true)] [7])
.ret)))))
theorem fok122:FOK Tryz.prog 122 (40,ic122,[(.t 7)]):=ai1 [1000004] Tryz.func122
def ic123:IC :=
(.reg 0 [oQ 4 (.load none T1),oQ 5 (.load (some 7) T2),oM 6 T0,oK 7 (.ap5 T4 [T5,(cB false),T6])] [])
theorem fok123:FOK Tryz.prog 123 (8,ic123,[]):=ai1 [] Tryz.func123
def ic124:IC :=
(.seq
(.reg 0 [oM 10 T1,oM 8 T10] [0,2,3,8])
(.block 0
(.loop
(.block 1
(.seq
(.reg 1 [oM 11 T8,oQ 12 (.bin .mul (cI 2) T11),oQ 13 (.bin .add T12 (cI 1)),oM 9 T13] [0,2,3,8,9])
(.seq
(.seq
(.reg 2 [oM 14 T9,oM 15 T2,oQ 16 (.bin .geq T14 T15)] [0,2,3,8,9,16])
(.cond T16
(.exit 0)
.skip))
(.seq
(.seq
(.dreg 3 [oM 17 T9,oQ 18 (.bin .add T17 (cI 1)),oM 19 T2,oQ 20 (.bin .lss T18 T19),oM 21 T20,gQ 22 21 true (.mov T0),gQ 23 21 true (.mov T3),gQ 24 21 true (.mov T9),gQ 25 21 true (.bin .add T23 T24),gQ 26 21 true (.ab5 1 T22 T25),gQ 27 21 true (.load none T26),gQ 28 21 true (.mov T0),gQ 29 21 true (.mov T3),gQ 30 21 true (.mov T9),gQ 31 21 true (.bin .add T29 T30),gQ 32 21 true (.bin .add T31 (cI 1)),gQ 33 21 true (.ab5 1 T28 T32),gQ 34 21 true (.load none T33),gK 35 21 true (.call 108 [T27,T34]),oQ 36 (.pick T21 T35 (cB false))] false [0,2,3,8,9,36])
(.cond T36
(.reg 4 [oM 37 T9,oQ 38 (.bin .add T37 (cI 1)),oM 9 T38] [0,2,3,8,9])
.skip))
(.seq
(.seq
(.dreg 5 [oM 39 T0,oM 40 T3,oM 41 T8,oQ 42 (.bin .add T40 T41),oQ 43 (.ab5 1 T39 T42),oQ 44 (.load none T43),oM 45 T0,oM 46 T3,oM 47 T9,oQ 48 (.bin .add T46 T47),oQ 49 (.ab5 1 T45 T48),oQ 50 (.load none T49),oK 51 (.call 108 [T44,T50]),oQ 52 (.not T51)] false [0,2,3,8,9,52])
(.cond T52
.ret
.skip))
(.seq
(.dreg 6 [oM 53 T0,oM 54 T3,oM 55 T8,oQ 56 (.bin .add T54 T55),oM 57 T0,oM 58 T3,oM 59 T9,oQ 60 (.bin .add T58 T59),oM 61 T0,oM 62 T3,oM 63 T9,oQ 64 (.bin .add T62 T63),oQ 65 (.ab5 1 T61 T64),oQ 66 (.load none T65),oM 67 T0,oM 68 T3,oM 69 T8,oQ 70 (.bin .add T68 T69),oQ 71 (.ab5 1 T67 T70),oQ 72 (.load none T71),oQ 73 (.ab5 1 T53 T56),oN (.store 1 T73 T66),oQ 74 (.ab5 1 T57 T60),oN (.store 1 T74 T72)] false [0,2,3,9])
(.reg 7 [oM 75 T9,oM 8 T75] [0,2,3,8]))))))))))
theorem fok124:FOK Tryz.prog 124 (76,ic124,[]):=ai1 [] Tryz.func124
def ic125:IC :=
(.seq
(.reg 0 [oM 2 (.c (.int .u64 0))] [0])
(.seq
(.reg 1 [oM 3 T0,oQ 4 (.conv .u64 T3),oK 5 (.call 76 [T4]),oQ 6 (.bin .shl (.c (.int .u64 1)) T5),oM 2 T6] [2])
.ret))
theorem fok125:FOK Tryz.prog 125 (7,ic125,[(.t 2)]):=ai1 [] Tryz.func125
def ic126:IC :=
(.seq
(.reg 0 [oM 2 (.c (.int .u64 0))] [0])
(.seq
(.dreg 1 [oM 3 T0,oQ 4 (.am7 T3),oQ 5 (.load none T4),oM 6 T0,oQ 7 (.am7 T6),oQ 8 (.load none T7),oQ 9 (.bin .shl T8 (.c (.int .u64 13))),oQ 10 (.bin .xor T5 T9),oQ 11 (.am7 T3),oN (.store 1 T11 T10)] false [0])
(.seq
(.dreg 2 [oM 12 T0,oQ 13 (.am7 T12),oQ 14 (.load none T13),oM 15 T0,oQ 16 (.am7 T15),oQ 17 (.load none T16),oQ 18 (.bin .shr T17 (.c (.int .u64 7))),oQ 19 (.bin .xor T14 T18),oQ 20 (.am7 T12),oN (.store 1 T20 T19)] false [0])
(.seq
(.dreg 3 [oM 21 T0,oQ 22 (.am7 T21),oQ 23 (.load none T22),oM 24 T0,oQ 25 (.am7 T24),oQ 26 (.load none T25),oQ 27 (.bin .shl T26 (.c (.int .u64 17))),oQ 28 (.bin .xor T23 T27),oQ 29 (.am7 T21),oN (.store 1 T29 T28)] false [0])
(.seq
(.reg 4 [oM 30 T0,oQ 31 (.am7 T30),oQ 32 (.load none T31),oM 2 T32] [2])
.ret)))))
theorem fok126:FOK Tryz.prog 126 (33,ic126,[(.t 2)]):=ai1 [] Tryz.func126
def ic127:IC :=
(.seq
(.reg 0 [oM 6 (cI 0)] [0,1,2])
(.seq
(.reg 1 [oM 7 T0,oM 8 T1,oQ 9 (.bin .sub T8 (cI 1)),oM 10 T1,oM 11 T1,oQ 12 (.bin .add T11 (cI 1)),oM 13 T2,oK 14 (.call 128 [T7,T9,T10,T12,T13]),oM 6 T14] [6])
.ret))
theorem fok127:FOK Tryz.prog 127 (15,ic127,[(.t 6)]):=ai1 [] Tryz.func127
def ic128:IC :=
(.seq
(.reg 0 [oM 10 (cI 0)] [0,1,2,3,4])
(.seq
(.reg 1 [oM 12 T0,oM 13 T1,oM 14 T2,oM 15 T4,oK 16 (.call 134 [T12,T13,T14,T15]),oM 11 T16,oQ 17 (.ext 0 T11),oQ 18 (.ext 1 T11),oM 1 T17,oM 2 T18] [0,1,2,3,4])
(.seq
(.reg 2 [oM 20 T0,oM 21 T2,oM 22 T3,oM 23 T4,oK 24 (.call 134 [T20,T21,T22,T23]),oM 19 T24,oQ 25 (.ext 0 T19),oQ 26 (.ext 1 T19),oM 2 T25,oM 3 T26] [0,1,2,4])
(.seq
(.reg 3 [oM 28 T0,oM 29 T1,oM 30 T2,oM 31 T4,oK 32 (.call 134 [T28,T29,T30,T31]),oM 27 T32,oQ 33 (.ext 0 T27),oQ 34 (.ext 1 T27),oM 1 T33,oM 2 T34] [2])
(.seq
(.reg 4 [oM 35 T2,oM 10 T35] [10])
.ret)))))
theorem fok128:FOK Tryz.prog 128 (36,ic128,[(.t 10)]):=ai1 [] Tryz.func128
def ic129:IC :=
(.seq
(.reg 0 [oM 2 (cB false)] [0])
(.seq
(.reg 1 [oM 3 T0,oM 4 T0,oQ 5 (.bin .neq T3 T4),oM 2 T5] [2])
.ret))
theorem fok129:FOK Tryz.prog 129 (6,ic129,[(.t 2)]):=ai1 [] Tryz.func129
def ic130:IC :=
(.seq
(.reg 0 [oK 2 (.aj8 T0),oK 3 (.aj8 T1),oM 4 (cI 0)] [2,3])
(.seq
(.reg 1 [oQ 5 (.mkf 136 [] [T2,T3]),oQ 6 (.mkf 138 [] [T2,T3]),oQ 7 (.mkf 140 [] [T2,T3]),oK 8 (.as5 1 3 [.ae4] [⟨0,⟨1,T5⟩⟩,⟨1,⟨1,T6⟩⟩,⟨2,⟨1,T7⟩⟩]),oK 9 (.call 135 [T8]),oM 4 T9] [4])
.ret))
theorem fok130:FOK Tryz.prog 130 (10,ic130,[(.t 4)]):=ai1 [1000002,1000003,1000008] Tryz.func130
def ic131:IC :=
(.seq
(.reg 0 [oM 2 (.c (zU 0))] [0])
(.seq
(.reg 1 [oQ 3 (.bld [(zU 0),(zU 0),(zU 0)] [⟨0,⟨1,(.c (zU 1))⟩⟩,⟨1,⟨1,(.c (zU 2))⟩⟩,⟨2,⟨1,(.c (zU 4))⟩⟩]),oM 4 T0,oQ 5 (.bin .add T4 (cI 1)),oQ 6 (.idx none 3 1 T3 T5),oM 2 T6] [2])
.ret))
theorem fok131:FOK Tryz.prog 131 (7,ic131,[(.t 2)]):=ai1 [] Tryz.func131
def ic132:IC :=
(.seq
(.reg 0 [oM 4 (cI 0)] [0,1])
(.seq
(.reg 1 [oM 8 T0,oK 9 (.call 141 [T8]),oM 10 T1,oK 11 (.call 141 [T10]),oM 5 T9,oM 6 T11] [5,6])
(.seq
(.seq
(.reg 2 [oM 7 (cI 0)] [5,6,7])
(.block 0
(.loop
(.seq
(.seq
(.reg 3 [oM 12 T7,oM 13 T5,oQ 14 (.len 0 T13),oQ 15 (.bin .lss T12 T14),oM 16 T15,gQ 17 16 false (.mov T7),gQ 18 16 false (.mov T6),gQ 19 16 false (.len 0 T18),gQ 20 16 false (.bin .lss T17 T19),oQ 21 (.pick T16 (cB true) T20)] [5,6,7,21])
(.cond T21
.skip
(.exit 0)))
(.seq
(.block 1
(.seq
(.seq
(.reg 5 [oM 24 T5,oM 25 T7,oK 26 (.call 143 [T24,T25]),oM 27 T6,oM 28 T7,oK 29 (.call 143 [T27,T28]),oK 30 (.call 142 [T26,T29])] [5,6,7,30])
(.cond T30
(.seq
(.reg 6 [oM 4 (cI (-1))] [4])
.ret)
.skip))
(.seq
(.reg 7 [oM 31 T6,oM 32 T7,oK 33 (.call 143 [T31,T32]),oM 34 T5,oM 35 T7,oK 36 (.call 143 [T34,T35]),oK 37 (.call 142 [T33,T36])] [5,6,7,37])
(.cond T37
(.seq
(.reg 8 [oM 4 (cI 1)] [4])
.ret)
.skip))))
(.reg 4 [oM 22 T7,oQ 23 (.bin .add T22 (cI 1)),oM 7 T23] [5,6,7]))))))
(.seq
(.reg 9 [oM 4 (cI 0)] [4])
.ret))))
theorem fok132:FOK Tryz.prog 132 (38,ic132,[(.t 4)]):=ai1 [] Tryz.func132
def ic134:IC :=
(.seq
(.reg 0 [oM 8 (cI 0),oM 9 (cI 0)] [0,1,2,3])
(.seq
(.seq
(.dreg 1 [oM 10 T0,oM 11 T2,oQ 12 (.ab5 1 T10 T11),oQ 13 (.load none T12),oM 14 T0,oM 15 T1,oQ 16 (.ab5 1 T14 T15),oQ 17 (.load none T16),oK 18 (.call 108 [T13,T17])] false [1,2,3,18])
(.cond T18
(.seq
(.reg 2 [oM 19 T3,oQ 20 (.am7 T19),oQ 21 (.load none T20),oQ 22 (.bin .add T21 (cI 1)),oQ 23 (.am7 T19),oN (.store 1 T23 T22)] [1,2])
(.seq
(.reg 3 [oM 24 T2,oM 25 T1,oM 8 T24,oM 9 T25] [8,9])
.ret))
.skip))
(.seq
(.reg 4 [oM 26 T1,oM 27 T2,oM 8 T26,oM 9 T27] [8,9])
.ret)))
theorem fok134:FOK Tryz.prog 134 (28,ic134,[(.t 8),(.t 9)]):=ai1 [] Tryz.func134
def ic135:IC :=
(.seq
(.reg 0 [oM 2 (cI 0)] [0])
(.seq
(.seq
(.reg 1 [oM 6 T0,oQ 7 (.len 0 T6),oM 8 (cI 0)] [6,7,8])
(.block 0
(.loop
(.seq
(.reg 2 [oQ 9 (.bin .lss T8 T7)] [6,7,8,9])
(.seq
(.cond T9
.skip
(.exit 0))
(.seq
(.block 1
(.seq
(.reg 3 [oQ 10 (.ab5 1 T6 T8),oQ 11 (.load none T10),oM 4 T11] [4,6,7,8])
(.seq
(.reg 4 [oM 12 T4,oK 13 (.ap5 T12 []),oM 5 T13] [5,6,7,8])
(.seq
(.reg 5 [oM 14 T5,oQ 15 (.bin .neq T14 (cI 0))] [5,6,7,8,15])
(.cond T15
(.seq
(.reg 6 [oM 16 T5,oM 2 T16] [2])
.ret)
.skip)))))
(.reg 7 [oQ 17 (.bin .add T8 (cI 1)),oM 8 T17] [6,7,8])))))))
(.seq
(.reg 8 [oM 2 (cI 0)] [2])
.ret)))
theorem fok135:FOK Tryz.prog 135 (18,ic135,[(.t 2)]):=ai1 [] Tryz.func135
def ic136:IC :=
(.seq
(.reg 0 [oM 2 (cI 0)] [0,1])
(.seq
(.reg 1 [oQ 3 (.aa7 0 T0),oQ 4 (.load none T3),oQ 5 (.aa7 0 T1),oQ 6 (.load none T5),oK 7 (.call 137 [T4,T6]),oM 2 T7] [2])
.ret))
theorem fok136:FOK Tryz.prog 136 (8,ic136,[(.t 2)]):=ai1 [] Tryz.func136
def ic137:IC :=
(.seq
(.reg 0 [oM 4 (cI 0)] [0,1])
(.seq
(.reg 1 [oM 7 T0,oK 8 (.call 144 [T7]),oM 5 T8] [0,1,5])
(.seq
(.reg 2 [oM 9 T1,oK 10 (.call 144 [T9]),oM 6 T10] [0,1,5,6])
(.seq
(.seq
(.reg 3 [oM 11 T5] [0,1,6,11])
(.cond T11
(.seq
(.seq
(.reg 4 [oM 12 T6] [12])
(.cond T12
(.seq
(.reg 5 [oM 4 (cI 0)] [4])
.ret)
.skip))
(.seq
(.reg 6 [oM 4 (cI (-1))] [4])
.ret))
.skip))
(.seq
(.seq
(.reg 7 [oM 13 T6] [0,1,13])
(.cond T13
(.seq
(.reg 8 [oM 4 (cI 1)] [4])
.ret)
.skip))
(.seq
(.seq
(.reg 9 [oM 14 T0,oM 15 T1,oQ 16 (.bin .lss T14 T15)] [0,1,16])
(.cond T16
(.seq
(.reg 10 [oM 4 (cI (-1))] [4])
.ret)
.skip))
(.seq
(.seq
(.reg 11 [oM 17 T0,oM 18 T1,oQ 19 (.bin .gtr T17 T18)] [19])
(.cond T19
(.seq
(.reg 12 [oM 4 (cI 1)] [4])
.ret)
.skip))
(.seq
(.reg 13 [oM 4 (cI 0)] [4])
.ret))))))))
theorem fok137:FOK Tryz.prog 137 (20,ic137,[(.t 4)]):=ai1 [] Tryz.func137
def ic138:IC :=
(.seq
(.reg 0 [oM 2 (cI 0)] [0,1])
(.seq
(.reg 1 [oQ 3 (.aa7 1 T0),oQ 4 (.load none T3),oQ 5 (.aa7 1 T1),oQ 6 (.load none T5),oK 7 (.call 139 [T4,T6]),oM 2 T7] [2])
.ret))
theorem fok138:FOK Tryz.prog 138 (8,ic138,[(.t 2)]):=ai1 [] Tryz.func138
def ic139:IC :=
(.seq
(.reg 0 [oM 4 (cI 0)] [0,1])
(.seq
(.reg 1 [oM 9 T0,oK 10 (.call 145 [T9]),oQ 11 (.bld [(zU 0),(.str [])] [⟨0,⟨1,(.c (zU 2))⟩⟩]),oK 12 (.as5 2 1 [(zU 0),(.str [])] [⟨0,⟨2,T11⟩⟩]),oK 13 (.app 2 T10 T12),oM 14 T1,oK 15 (.call 145 [T14]),oQ 16 (.bld [(zU 0),(.str [])] [⟨0,⟨1,(.c (zU 2))⟩⟩]),oK 17 (.as5 2 1 [(zU 0),(.str [])] [⟨0,⟨2,T16⟩⟩]),oK 18 (.app 2 T15 T17),oM 5 T13,oM 6 T18] [5,6])
(.seq
(.seq
(.reg 2 [oM 19 T5,oQ 20 (.len 0 T19),oM 21 T6,oQ 22 (.len 0 T21),oQ 23 (.mm false T20 T22),oM 24 (cI 0)] [5,6,23,24])
(.block 0
(.loop
(.seq
(.reg 3 [oQ 25 (.bin .lss T24 T23)] [5,6,23,24,25])
(.seq
(.cond T25
.skip
(.exit 0))
(.seq
(.block 1
(.seq
(.reg 4 [oM 26 T24,oM 7 T26] [5,6,7,23,24])
(.seq
(.dreg 5 [oM 27 T5,oM 28 T7,oQ 29 (.ab5 2 T27 T28),oQ 30 (.load (some 2) T29),oM 31 T6,oM 32 T7,oQ 33 (.ab5 2 T31 T32),oQ 34 (.load (some 2) T33),oK 35 (.call 146 [T30,T34]),oM 8 T35] false [5,6,8,23,24])
(.seq
(.reg 6 [oM 36 T8,oQ 37 (.bin .neq T36 (cI 0))] [5,6,8,23,24,37])
(.cond T37
(.seq
(.reg 7 [oM 38 T8,oM 4 T38] [4])
.ret)
.skip)))))
(.reg 8 [oQ 39 (.bin .add T24 (cI 1)),oM 24 T39] [5,6,23,24])))))))
(.seq
(.reg 9 [oM 4 (cI 0)] [4])
.ret))))
theorem fok139:FOK Tryz.prog 139 (40,ic139,[(.t 4)]):=ai1 [1000012,1000017] Tryz.func139
def ic140:IC :=
(.seq
(.reg 0 [oM 2 (cI 0)] [0,1])
(.seq
(.seq
(.reg 1 [oQ 3 (.aa7 2 T0),oQ 4 (.load none T3),oQ 5 (.bin .eql T4 (.c (.str []))),oM 6 T5,gQ 7 6 false (.aa7 2 T1),gQ 8 6 false (.load none T7),gQ 9 6 false (.bin .eql T8 (.c (.str []))),oQ 10 (.pick T6 (cB true) T9)] [0,1,10])
(.cond T10
(.seq
(.reg 2 [oM 2 (cI 0)] [2])
.ret)
.skip))
(.seq
(.reg 3 [oQ 11 (.aa7 2 T0),oQ 12 (.load none T11),oQ 13 (.aa7 2 T1),oQ 14 (.load none T13),oK 15 (.call 139 [T12,T14]),oM 2 T15] [2])
.ret)))
theorem fok140:FOK Tryz.prog 140 (16,ic140,[(.t 2)]):=ai1 [] Tryz.func140
def ic141:IC :=
(.seq
(.reg 0 [oM 2 (.c .aa1)] [0])
(.seq
(.reg 1 [oM 3 (.c .aa1)] [0,3])
(.seq
(.seq
(.reg 2 [oM 4 (cI 0)] [0,3,4])
(.block 0
(.loop
(.seq
(.seq
(.reg 3 [oM 7 T4,oM 8 T0,oQ 9 (.len 1 T8),oQ 10 (.bin .lss T7 T9)] [0,3,4,10])
(.cond T10
.skip
(.exit 0)))
(.block 1
(.seq
(.reg 4 [oM 11 T0,oM 12 T4,oQ 13 (.ba9 T11 T12),oK 14 (.call 147 [T13]),oM 5 T14] [0,3,4,5])
(.seq
(.seq
(.reg 5 [oM 15 T5,oQ 16 (.bin .eql T15 (.c (zU 0)))] [0,3,4,5,16])
(.cond T16
(.seq
(.reg 6 [oM 17 T4,oQ 18 (.bin .add T17 (cI 1)),oM 4 T18] [0,3,4])
(.exit 1))
.skip))
(.seq
(.seq
(.reg 7 [oM 19 T5,oQ 20 (.bin .lss T19 (.c (zU 4)))] [0,3,4,5,20])
(.cond T20
(.seq
(.reg 8 [oM 21 T3,oM 22 T5,oQ 23 (.bld [(zU 0),(.str [])] [⟨0,⟨1,T22⟩⟩]),oK 24 (.as5 2 1 [(zU 0),(.str [])] [⟨0,⟨2,T23⟩⟩]),oK 25 (.app 2 T21 T24),oM 3 T25] [0,3,4])
(.seq
(.reg 9 [oM 26 T4,oQ 27 (.bin .add T26 (cI 1)),oM 4 T27] [0,3,4])
(.exit 1)))
.skip))
(.seq
(.reg 10 [oM 28 T4,oM 6 T28] [0,3,4,5,6])
(.seq
(.block 2
(.loop
(.seq
(.seq
(.reg 11 [oM 29 T6,oM 30 T0,oQ 31 (.len 1 T30),oQ 32 (.bin .lss T29 T31),oM 33 T32,gQ 34 33 true (.mov T0),gQ 35 33 true (.mov T6),gQ 36 33 true (.ba9 T34 T35),gK 37 33 true (.call 147 [T36]),gQ 38 33 true (.mov T5),gQ 39 33 true (.bin .eql T37 T38),oQ 40 (.pick T33 T39 (cB false))] [0,3,4,5,6,40])
(.cond T40
.skip
(.exit 2)))
(.block 3
(.reg 12 [oM 41 T6,oQ 42 (.bin .add T41 (cI 1)),oM 6 T42] [0,3,4,5,6])))))
(.seq
(.block 4
(.loop
(.seq
(.seq
(.reg 13 [oM 43 T5,oQ 44 (.bin .eql T43 (.c (zU 5))),oM 45 T44,gQ 46 45 true (.mov T4),gQ 47 45 true (.mov T6),gQ 48 45 true (.bin .lss T46 T47),oQ 49 (.pick T45 T48 (cB false)),oM 50 T49,gQ 51 50 true (.mov T0),gQ 52 50 true (.mov T4),gQ 53 50 true (.ba9 T51 T52),gQ 54 50 true (.bin .eql T53 (.c (zU 48))),oQ 55 (.pick T50 T54 (cB false))] [0,3,4,5,6,55])
(.cond T55
.skip
(.exit 4)))
(.block 5
(.reg 14 [oM 56 T4,oQ 57 (.bin .add T56 (cI 1)),oM 4 T57] [0,3,4,5,6])))))
(.seq
(.reg 15 [oM 58 T3,oM 59 T5,oM 60 T0,oM 61 T4,oM 62 T6,oQ 63 (.el1 T60 (some T61) (some T62)),oQ 64 (.bld [(zU 0),(.str [])] [⟨0,⟨1,T59⟩⟩,⟨1,⟨1,T63⟩⟩]),oK 65 (.as5 2 1 [(zU 0),(.str [])] [⟨0,⟨2,T64⟩⟩]),oK 66 (.app 2 T58 T65),oM 3 T66] [0,3,6])
(.reg 16 [oM 67 T6,oM 4 T67] [0,3,4])))))))))))))
(.seq
(.reg 17 [oM 68 T3,oM 2 T68] [2])
.ret))))
theorem fok141:FOK Tryz.prog 141 (69,ic141,[(.t 2)]):=ai1 [1000024,1000065] Tryz.func141
def ic142:IC :=
(.seq
(.reg 0 [oK 2 (.aj8 T0),oK 3 (.aj8 T1),oM 4 (cB false)] [2,3])
(.seq
(.seq
(.reg 1 [oQ 5 (.aa7 0 T2),oQ 6 (.load none T5),oQ 7 (.aa7 0 T3),oQ 8 (.load none T7),oQ 9 (.bin .neq T6 T8)] [2,3,9])
(.cond T9
(.seq
(.reg 2 [oQ 10 (.aa7 0 T2),oQ 11 (.load none T10),oQ 12 (.aa7 0 T3),oQ 13 (.load none T12),oQ 14 (.bin .lss T11 T13),oM 4 T14] [4])
.ret)
.skip))
(.seq
(.seq
(.reg 3 [oQ 15 (.aa7 0 T2),oQ 16 (.load none T15),oQ 17 (.bin .eql T16 (.c (zU 5))),oM 18 T17,gQ 19 18 true (.aa7 1 T2),gQ 20 18 true (.load none T19),gQ 21 18 true (.len 1 T20),gQ 22 18 true (.aa7 1 T3),gQ 23 18 true (.load none T22),gQ 24 18 true (.len 1 T23),gQ 25 18 true (.bin .neq T21 T24),oQ 26 (.pick T18 T25 (cB false))] [2,3,26])
(.cond T26
(.seq
(.reg 4 [oQ 27 (.aa7 1 T2),oQ 28 (.load none T27),oQ 29 (.len 1 T28),oQ 30 (.aa7 1 T3),oQ 31 (.load none T30),oQ 32 (.len 1 T31),oQ 33 (.bin .lss T29 T32),oM 4 T33] [4])
.ret)
.skip))
(.seq
(.reg 5 [oQ 34 (.aa7 1 T2),oQ 35 (.load none T34),oQ 36 (.aa7 1 T3),oQ 37 (.load none T36),oQ 38 (.bin .lss T35 T37),oM 4 T38] [4])
.ret))))
theorem fok142:FOK Tryz.prog 142 (39,ic142,[(.t 4)]):=ai1 [1000002,1000003] Tryz.func142
def ic143:IC :=
(.seq
(.reg 0 [oK 4 (.alloc [(zU 0),(.str [])])] [0,1,4])
(.seq
(.seq
(.reg 1 [oM 5 T1,oM 6 T0,oQ 7 (.len 0 T6),oQ 8 (.bin .geq T5 T7)] [0,1,4,8])
(.cond T8
(.seq
(.reg 2 [oQ 9 (.bld [(zU 0),(.str [])] [⟨0,⟨1,(.c (zU 2))⟩⟩]),oN (.store 2 T4 T9)] [4])
.ret)
.skip))
(.seq
(.reg 3 [oM 10 T0,oM 11 T1,oQ 12 (.ab5 2 T10 T11),oQ 13 (.load (some 2) T12),oN (.store 2 T4 T13)] [4])
.ret)))
theorem fok143:FOK Tryz.prog 143 (14,ic143,[(.cell (some 2) 4)]):=ai1 [] Tryz.func143
def ic144:IC :=
(.seq
(.reg 0 [oM 2 (cB false)] [0])
(.seq
(.reg 1 [oM 3 T0,oM 4 T0,oQ 5 (.bin .neq T3 T4),oM 2 T5] [2])
.ret))
theorem fok144:FOK Tryz.prog 144 (6,ic144,[(.t 2)]):=ai1 [] Tryz.func144
def ic145:IC :=
(.seq
(.reg 0 [oM 2 (.c .aa1)] [0,2])
(.seq
(.reg 1 [oK 3 (.alloc [.aa1])] [0,2,3])
(.seq
(.seq
(.reg 2 [oM 5 T0,oK 6 (.call 148 [T5])] [2,3,6])
(.block 0
(.rfunc T6 [7]
(.reg 3 [oK 4 (.alloc [(zU 0),(.str [])]),oN (.store 2 T4 T7)] [3,4])
(.block 1
(.reg 4 [oQ 8 (.load none T3),oQ 9 (.load (some 2) T4),oK 10 (.as5 2 1 [(zU 0),(.str [])] [⟨0,⟨2,T9⟩⟩]),oK 11 (.app 2 T8 T10),oN (.store 1 T3 T11)] [])))))
(.seq
(.reg 5 [oQ 12 (.load none T3),oM 2 T12] [2])
.ret))))
theorem fok145:FOK Tryz.prog 145 (13,ic145,[(.t 2)]):=ai1 [1000010] Tryz.func145
def ic146:IC :=
(.seq
(.reg 0 [oK 2 (.aj8 T0),oK 3 (.aj8 T1),oM 4 (cI 0)] [2,3])
(.seq
(.reg 1 [oM 5 (cI 0)] [2,3,5])
(.seq
(.seq
(.reg 2 [oQ 6 (.aa7 0 T2),oQ 7 (.load none T6),oQ 8 (.bin .eql T7 (.c (zU 5))),oM 9 T8,gQ 10 9 true (.aa7 0 T3),gQ 11 9 true (.load none T10),gQ 12 9 true (.bin .eql T11 (.c (zU 5))),oQ 13 (.pick T9 T12 (cB false))] [2,3,5,13])
(.cond T13
(.reg 3 [oQ 14 (.aa7 1 T2),oQ 15 (.load none T14),oQ 16 (.len 1 T15),oQ 17 (.aa7 1 T3),oQ 18 (.load none T17),oQ 19 (.len 1 T18),oK 20 (.call 137 [T16,T19]),oM 5 T20] [2,3,5])
.skip))
(.seq
(.dreg 4 [oQ 21 (.aa7 0 T2),oQ 22 (.load none T21),oQ 23 (.aa7 0 T3),oQ 24 (.load none T23),oK 25 (.ae7 150 [T22,T24]),oM 26 T5,oQ 27 (.aa7 1 T2),oQ 28 (.load none T27),oQ 29 (.aa7 1 T3),oQ 30 (.load none T29),oK 31 (.ae7 151 [T28,T30]),oK 32 (.as5 1 3 [(zI 0)] [⟨0,⟨1,T25⟩⟩,⟨1,⟨1,T26⟩⟩,⟨2,⟨1,T31⟩⟩]),oK 33 (.ae7 149 [T32]),oM 4 T33] false [4])
.ret))))
theorem fok146:FOK Tryz.prog 146 (34,ic146,[(.t 4)]):=ai1 ([1000002,1000003,1000032]++[149,150,151]) Tryz.func146 (by kernel_rfl) (by kernel_rfl) (by kernel_rfl) (by kernel_rfl)
def ic147:IC :=
(.seq
(.reg 0 [oM 2 (.c (zU 0))] [0])
(.seq
(.seq
(.reg 1 [oM 3 T0,oQ 4 (.bin .eql T3 (.c (zU 126)))] [0,4])
(.cond T4
(.seq
(.reg 2 [oM 2 (.c (zU 1))] [2])
.ret)
.skip))
(.seq
(.seq
(.reg 3 [oM 5 T0,oQ 6 (.bin .eql T5 (.c (zU 94)))] [0,6])
(.cond T6
(.seq
(.reg 4 [oM 2 (.c (zU 3))] [2])
.ret)
.skip))
(.seq
(.seq
(.reg 5 [oM 7 T0,oQ 8 (.bin .geq T7 (.c (zU 97))),oM 9 T8,gQ 10 9 true (.mov T0),gQ 11 9 true (.bin .leq T10 (.c (zU 122))),oQ 12 (.pick T9 T11 (cB false)),oM 13 T12,gQ 14 13 false (.mov T0),gQ 15 13 false (.bin .geq T14 (.c (zU 65))),gQ 16 13 false (.mov T15),gQ 17 16 true (.mov T0),gQ 18 16 true (.bin .leq T17 (.c (zU 90))),gQ 19 13 false (.pick T16 T18 (cB false)),oQ 20 (.pick T13 (cB true) T19)] [0,20])
(.cond T20
(.seq
(.reg 6 [oM 2 (.c (zU 4))] [2])
.ret)
.skip))
(.seq
(.seq
(.reg 7 [oM 21 T0,oQ 22 (.bin .geq T21 (.c (zU 48))),oM 23 T22,gQ 24 23 true (.mov T0),gQ 25 23 true (.bin .leq T24 (.c (zU 57))),oQ 26 (.pick T23 T25 (cB false))] [26])
(.cond T26
(.seq
(.reg 8 [oM 2 (.c (zU 5))] [2])
.ret)
.skip))
(.seq
(.reg 9 [oM 2 (.c (zU 0))] [2])
.ret))))))
theorem fok147:FOK Tryz.prog 147 (27,ic147,[(.t 2)]):=ai1 [] Tryz.func147
def ic148:IC :=
(.seq
(.reg 0 [oK 1 (.aj8 T0),oM 2 (.c .ae4)] [1])
(.seq
(.reg 1 [oQ 3 (.mkf 152 [] [T1]),oM 2 T3] [2])
.ret))
theorem fok148:FOK Tryz.prog 148 (4,ic148,[(.t 2)]):=ai1 [1000001] Tryz.func148
def ic149:IC :=
(.seq
(.reg 0 [oM 2 (cI 0)] [0])
(.seq
(.reg 1 [oM 3 (cI 0)] [0,3])
(.seq
(.seq
(.reg 2 [oM 6 T0,oQ 7 (.len 0 T6),oM 8 (cI 0)] [3,6,7,8])
(.block 0
(.loop
(.seq
(.reg 3 [oQ 9 (.bin .lss T8 T7)] [3,6,7,8,9])
(.seq
(.cond T9
.skip
(.exit 0))
(.seq
(.block 1
(.seq
(.reg 4 [oQ 10 (.ab5 1 T6 T8),oQ 11 (.load none T10),oM 5 T11] [3,5,6,7,8])
(.seq
(.reg 5 [oM 12 T5,oM 13 T3,oQ 14 (.bin .neq T12 T13)] [3,5,6,7,8,14])
(.cond T14
(.seq
(.reg 6 [oM 15 T5,oM 2 T15] [2])
.ret)
.skip))))
(.reg 7 [oQ 16 (.bin .add T8 (cI 1)),oM 8 T16] [3,6,7,8])))))))
(.seq
(.reg 8 [oM 17 T3,oM 2 T17] [2])
.ret))))
theorem fok149:FOK Tryz.prog 149 (18,ic149,[(.t 2)]):=ai1 [] Tryz.func149
def ic150:IC :=
(.seq
(.reg 0 [oM 4 (cI 0)] [0,1])
(.seq
(.reg 1 [oM 7 T0,oK 8 (.call 155 [T7]),oM 5 T8] [0,1,5])
(.seq
(.reg 2 [oM 9 T1,oK 10 (.call 155 [T9]),oM 6 T10] [0,1,5,6])
(.seq
(.seq
(.reg 3 [oM 11 T5] [0,1,6,11])
(.cond T11
(.seq
(.seq
(.reg 4 [oM 12 T6] [12])
(.cond T12
(.seq
(.reg 5 [oM 4 (cI 0)] [4])
.ret)
.skip))
(.seq
(.reg 6 [oM 4 (cI (-1))] [4])
.ret))
.skip))
(.seq
(.seq
(.reg 7 [oM 13 T6] [0,1,13])
(.cond T13
(.seq
(.reg 8 [oM 4 (cI 1)] [4])
.ret)
.skip))
(.seq
(.seq
(.reg 9 [oM 14 T0,oM 15 T1,oQ 16 (.bin .lss T14 T15)] [0,1,16])
(.cond T16
(.seq
(.reg 10 [oM 4 (cI (-1))] [4])
.ret)
.skip))
(.seq
(.seq
(.reg 11 [oM 17 T0,oM 18 T1,oQ 19 (.bin .gtr T17 T18)] [19])
(.cond T19
(.seq
(.reg 12 [oM 4 (cI 1)] [4])
.ret)
.skip))
(.seq
(.reg 13 [oM 4 (cI 0)] [4])
.ret))))))))
theorem fok150:FOK Tryz.prog 150 (20,ic150,[(.t 4)]):=ai1 [] Tryz.func150
def ic151:IC :=
(.seq
(.reg 0 [oM 4 (cI 0)] [0,1])
(.seq
(.reg 1 [oM 7 T0,oK 8 (.call 129 [T7]),oM 5 T8] [0,1,5])
(.seq
(.reg 2 [oM 9 T1,oK 10 (.call 129 [T9]),oM 6 T10] [0,1,5,6])
(.seq
(.seq
(.reg 3 [oM 11 T5] [0,1,6,11])
(.cond T11
(.seq
(.seq
(.reg 4 [oM 12 T6] [12])
(.cond T12
(.seq
(.reg 5 [oM 4 (cI 0)] [4])
.ret)
.skip))
(.seq
(.reg 6 [oM 4 (cI (-1))] [4])
.ret))
.skip))
(.seq
(.seq
(.reg 7 [oM 13 T6] [0,1,13])
(.cond T13
(.seq
(.reg 8 [oM 4 (cI 1)] [4])
.ret)
.skip))
(.seq
(.seq
(.reg 9 [oM 14 T0,oM 15 T1,oQ 16 (.bin .lss T14 T15)] [0,1,16])
(.cond T16
(.seq
(.reg 10 [oM 4 (cI (-1))] [4])
.ret)
.skip))
(.seq
(.seq
(.reg 11 [oM 17 T0,oM 18 T1,oQ 19 (.bin .gtr T17 T18)] [19])
(.cond T19
(.seq
(.reg 12 [oM 4 (cI 1)] [4])
.ret)
.skip))
(.seq
(.reg 13 [oM 4 (cI 0)] [4])
.ret))))))))
theorem fok151:FOK Tryz.prog 151 (20,ic151,[(.t 4)]):=ai1 [] Tryz.func151
def ic152:IC :=
(.seq
(.reg 0 [oM 3 (cI 0)] [0,1,3])
(.block 0
(.loop
(.seq
(.seq
(.reg 1 [oM 6 T3,oQ 7 (.load none T1),oQ 8 (.len 1 T7),oQ 9 (.bin .lss T6 T8)] [0,1,3,9])
(.cond T9
.skip
(.exit 0)))
(.block 1
(.seq
(.reg 2 [oQ 10 (.load none T1),oM 11 T3,oQ 12 (.ba9 T10 T11),oK 13 (.ae7 153 [T12]),oQ 14 (.bld [(zU 0),(.str [])] [⟨0,⟨1,T13⟩⟩]),oK 4 (.alloc [(zU 0),(.str [])]),oN (.store 2 T4 T14)] [0,1,3,4])
(.seq
(.reg 3 [oM 15 T3,oM 5 T15] [0,1,3,4,5])
(.seq
(.seq
(.reg 4 [oM 16 T3,oQ 17 (.bin .add T16 (cI 1)),oM 3 T17] [0,1,3,4,5])
(.block 2
(.loop
(.seq
(.seq
(.dreg 5 [oQ 18 (.aa7 0 T4),oQ 19 (.load none T18),oQ 20 (.bin .geq T19 (.c (zU 4))),oM 21 T20,gQ 22 21 true (.mov T3),gQ 23 21 true (.load none T1),gQ 24 21 true (.len 1 T23),gQ 25 21 true (.bin .lss T22 T24),oQ 26 (.pick T21 T25 (cB false)),oM 27 T26,gQ 28 27 true (.load none T1),gQ 29 27 true (.mov T3),gQ 30 27 true (.ba9 T28 T29),gK 31 27 true (.ae7 153 [T30]),gQ 32 27 true (.aa7 0 T4),gQ 33 27 true (.load none T32),gQ 34 27 true (.bin .eql T31 T33),oQ 35 (.pick T27 T34 (cB false))] false [0,1,3,4,5,35])
(.cond T35
.skip
(.exit 2)))
(.seq
(.block 3
.skip)
(.reg 6 [oM 36 T3,oQ 37 (.bin .add T36 (cI 1)),oM 3 T37] [0,1,3,4,5]))))))
(.seq
(.seq
(.reg 7 [oQ 38 (.aa7 0 T4),oQ 39 (.load none T38),oQ 40 (.bin .geq T39 (.c (zU 4)))] [0,1,3,4,5,40])
(.cond T40
(.reg 8 [oQ 41 (.load none T1),oM 42 T5,oM 43 T3,oQ 44 (.el1 T41 (some T42) (some T43)),oQ 45 (.aa7 1 T4),oN (.store 1 T45 T44)] [0,1,3,4])
.skip))
(.seq
(.seq
(.reg 9 [oQ 46 (.aa7 0 T4),oQ 47 (.load none T46),oQ 48 (.bin .eql T47 (.c (zU 5)))] [0,1,3,4,48])
(.cond T48
(.reg 10 [oQ 49 (.aa7 1 T4),oQ 50 (.load none T49),oK 51 (.call 154 [T50,(.c (.str [48]))]),oQ 52 (.aa7 1 T4),oN (.store 1 T52 T51)] [0,1,3,4])
.skip))
(.seq
(.reg 11 [oQ 53 (.aa7 0 T4),oQ 54 (.load none T53),oQ 55 (.bin .neq T54 (.c (zU 0))),oM 56 T55,gQ 57 56 true (.mov T0),gQ 58 56 true (.load (some 2) T4),gK 59 56 true (.ap5 T57 [T58]),gQ 60 56 true (.not T59),oQ 61 (.pick T56 T60 (cB false))] [0,1,3,61])
(.cond T61
.ret
.skip))))))))))))
theorem fok152:FOK Tryz.prog 152 (62,ic152,[]):=ai1 ([]++[153]) Tryz.func152 (by kernel_rfl) (by kernel_rfl) (by kernel_rfl) (by kernel_rfl)
def ic153:IC :=
(.seq
(.reg 0 [oM 2 (.c (zU 0))] [0])
(.seq
(.block 0
(.seq
(.reg 1 [oM 4 T0,oQ 5 (.bin .eql T4 (.c (zU 126))),oM 3 T5] [0,3])
(.cond T3
(.seq
(.reg 2 [oM 2 (.c (zU 1))] [2])
.ret)
(.seq
(.reg 3 [oM 7 T0,oQ 8 (.bin .eql T7 (.c (zU 94))),oM 6 T8] [0,6])
(.cond T6
(.seq
(.reg 4 [oM 2 (.c (zU 3))] [2])
.ret)
(.seq
(.reg 5 [oM 10 T0,oQ 11 (.bin .geq T10 (.c (zU 97))),oM 12 T11,gQ 13 12 true (.mov T0),gQ 14 12 true (.bin .leq T13 (.c (zU 122))),oQ 15 (.pick T12 T14 (cB false)),oM 16 T15,gQ 17 16 false (.mov T0),gQ 18 16 false (.bin .geq T17 (.c (zU 65))),gQ 19 16 false (.mov T18),gQ 20 19 true (.mov T0),gQ 21 19 true (.bin .leq T20 (.c (zU 90))),gQ 22 16 false (.pick T19 T21 (cB false)),oQ 23 (.pick T16 (cB true) T22),oM 9 T23] [0,9])
(.cond T9
(.seq
(.reg 6 [oM 2 (.c (zU 4))] [2])
.ret)
(.seq
(.reg 7 [oM 25 T0,oQ 26 (.bin .geq T25 (.c (zU 48))),oM 27 T26,gQ 28 27 true (.mov T0),gQ 29 27 true (.bin .leq T28 (.c (zU 57))),oQ 30 (.pick T27 T29 (cB false)),oM 24 T30] [24])
(.cond T24
(.seq
(.reg 8 [oM 2 (.c (zU 5))] [2])
.ret)
.skip)))))))))
(.seq
(.reg 9 [oM 2 (.c (zU 0))] [2])
.ret)))
theorem fok153:FOK Tryz.prog 153 (31,ic153,[(.t 2)]):=ai1 [] Tryz.func153
def ic154:IC :=
(.seq
(.reg 0 [oM 4 (.c (.str []))] [0,1])
(.seq
(.seq
(.reg 1 [oM 7 T0,oQ 8 (.bin .eql T7 (.c (.str []))),oM 9 T8,gQ 10 9 false (.mov T1),gQ 11 9 false (.bin .eql T10 (.c (.str []))),oQ 12 (.pick T9 (cB true) T11)] [0,1,12])
(.cond T12
(.seq
(.reg 2 [oM 13 T0,oM 4 T13] [4])
.ret)
.skip))
(.seq
(.seq
(.reg 3 [oM 14 T1,oQ 15 (.len 1 T14),oQ 16 (.bin .eql T15 (cI 1)),oM 17 T16,gQ 18 17 true (.mov T1),gQ 19 17 true (.ba9 T18 (cI 0)),gQ 20 17 true (.bin .lss T19 (.c (zU 128))),oQ 21 (.pick T17 T20 (cB false))] [0,1,21])
(.cond T21
(.seq
(.reg 4 [oM 22 T0,oM 23 T1,oQ 24 (.ba9 T23 (cI 0)),oK 25 (.call 156 [T22,T24]),oM 4 T25] [4])
.ret)
.skip))
(.seq
(.seq
(.reg 5 [oM 27 T1,oK 28 (.call 157 [T27]),oM 26 T28,oQ 29 (.ext 0 T26),oQ 30 (.ext 1 T26),oK 5 (.alloc [(.bool false),(.bool false),(.bool false),(.bool false),(.bool false),(.bool false),(.bool false),(.bool false),(.bool false),(.bool false),(.bool false),(.bool false),(.bool false),(.bool false),(.bool false),(.bool false),(.bool false),(.bool false),(.bool false),(.bool false),(.bool false),(.bool false),(.bool false),(.bool false),(.bool false),(.bool false),(.bool false),(.bool false),(.bool false),(.bool false),(.bool false),(.bool false),(.bool false),(.bool false),(.bool false),(.bool false),(.bool false),(.bool false),(.bool false),(.bool false),(.bool false),(.bool false),(.bool false),(.bool false),(.bool false),(.bool false),(.bool false),(.bool false),(.bool false),(.bool false),(.bool false),(.bool false),(.bool false),(.bool false),(.bool false),(.bool false),(.bool false),(.bool false),(.bool false),(.bool false),(.bool false),(.bool false),(.bool false),(.bool false),(.bool false),(.bool false),(.bool false),(.bool false),(.bool false),(.bool false),(.bool false),(.bool false),(.bool false),(.bool false),(.bool false),(.bool false),(.bool false),(.bool false),(.bool false),(.bool false),(.bool false),(.bool false),(.bool false),(.bool false),(.bool false),(.bool false),(.bool false),(.bool false),(.bool false),(.bool false),(.bool false),(.bool false),(.bool false),(.bool false),(.bool false),(.bool false),(.bool false),(.bool false),(.bool false),(.bool false),(.bool false),(.bool false),(.bool false),(.bool false),(.bool false),(.bool false),(.bool false),(.bool false),(.bool false),(.bool false),(.bool false),(.bool false),(.bool false),(.bool false),(.bool false),(.bool false),(.bool false),(.bool false),(.bool false),(.bool false),(.bool false),(.bool false),(.bool false),(.bool false),(.bool false),(.bool false),(.bool false),(.bool false),(.bool false),(.bool false),(.bool false),(.bool false),(.bool false),(.bool false),(.bool false),(.bool false),(.bool false),(.bool false),(.bool false),(.bool false),(.bool false),(.bool false),(.bool false),(.bool false),(.bool false),(.bool false),(.bool false),(.bool false),(.bool false),(.bool false),(.bool false),(.bool false),(.bool false),(.bool false),(.bool false),(.bool false),(.bool false),(.bool false),(.bool false),(.bool false),(.bool false),(.bool false),(.bool false),(.bool false),(.bool false),(.bool false),(.bool false),(.bool false),(.bool false),(.bool false),(.bool false),(.bool false),(.bool false),(.bool false),(.bool false),(.bool false),(.bool false),(.bool false),(.bool false),(.bool false),(.bool false),(.bool false),(.bool false),(.bool false),(.bool false),(.bool false),(.bool false),(.bool false),(.bool false),(.bool false),(.bool false),(.bool false),(.bool false),(.bool false),(.bool false),(.bool false),(.bool false),(.bool false),(.bool false),(.bool false),(.bool false),(.bool false),(.bool false),(.bool false),(.bool false),(.bool false),(.bool false),(.bool false),(.bool false),(.bool false),(.bool false),(.bool false),(.bool false),(.bool false),(.bool false),(.bool false),(.bool false),(.bool false),(.bool false),(.bool false),(.bool false),(.bool false),(.bool false),(.bool false),(.bool false),(.bool false),(.bool false),(.bool false),(.bool false),(.bool false),(.bool false),(.bool false),(.bool false),(.bool false),(.bool false),(.bool false),(.bool false),(.bool false),(.bool false),(.bool false),(.bool false),(.bool false),(.bool false),(.bool false),(.bool false),(.bool false),(.bool false),(.bool false),(.bool false),(.bool false),(.bool false),(.bool false),(.bool false),(.bool false),(.bool false),(.bool false)]),oN (.store 256 T5 T29),oM 6 T30] [0,1,5,6])
(.seq
(.reg 6 [oM 31 T6] [0,1,5,31])
(.cond T31
(.seq
(.reg 7 [oM 32 T0,oK 33 (.call 158 [T32,T5]),oM 4 T33] [4])
.ret)
.skip)))
(.seq
(.reg 8 [oM 34 T0,oM 35 T1,oK 36 (.call 159 [T34,T35]),oM 4 T36] [4])
.ret)))))
theorem fok154:FOK Tryz.prog 154 (37,ic154,[(.t 4)]):=ai1 [] Tryz.func154
def ic155:IC :=
(.seq
(.reg 0 [oM 2 (cB false)] [0])
(.seq
(.reg 1 [oM 3 T0,oM 4 T0,oQ 5 (.bin .neq T3 T4),oM 2 T5] [2])
.ret))
theorem fok155:FOK Tryz.prog 155 (6,ic155,[(.t 2)]):=ai1 [] Tryz.func155
def ic156:IC :=
(.seq
(.reg 0 [oM 4 (.c (.str []))] [0,1])
(.seq
(.block 0
(.loop
(.seq
(.seq
(.reg 1 [oM 5 T0,oQ 6 (.len 1 T5),oQ 7 (.bin .gtr T6 (cI 0)),oM 8 T7,gQ 9 8 true (.mov T0),gQ 10 8 true (.ba9 T9 (cI 0)),gQ 11 8 true (.mov T1),gQ 12 8 true (.bin .eql T10 T11),oQ 13 (.pick T8 T12 (cB false))] [0,1,13])
(.cond T13
.skip
(.exit 0)))
(.block 1
(.reg 2 [oM 14 T0,oQ 15 (.el1 T14 (some (cI 1)) none),oM 0 T15] [0,1])))))
(.seq
(.reg 3 [oM 16 T0,oM 4 T16] [4])
.ret)))
theorem fok156:FOK Tryz.prog 156 (17,ic156,[(.t 4)]):=ai1 [] Tryz.func156
def ic157:IC :=
(.seq
(.reg 0 [oK 2 (.alloc [(.bool false),(.bool false),(.bool false),(.bool false),(.bool false),(.bool false),(.bool false),(.bool false),(.bool false),(.bool false),(.bool false),(.bool false),(.bool false),(.bool false),(.bool false),(.bool false),(.bool false),(.bool false),(.bool false),(.bool false),(.bool false),(.bool false),(.bool false),(.bool false),(.bool false),(.bool false),(.bool false),(.bool false),(.bool false),(.bool false),(.bool false),(.bool false),(.bool false),(.bool false),(.bool false),(.bool false),(.bool false),(.bool false),(.bool false),(.bool false),(.bool false),(.bool false),(.bool false),(.bool false),(.bool false),(.bool false),(.bool false),(.bool false),(.bool false),(.bool false),(.bool false),(.bool false),(.bool false),(.bool false),(.bool false),(.bool false),(.bool false),(.bool false),(.bool false),(.bool false),(.bool false),(.bool false),(.bool false),(.bool false),(.bool false),(.bool false),(.bool false),(.bool false),(.bool false),(.bool false),(.bool false),(.bool false),(.bool false),(.bool false),(.bool false),(.bool false),(.bool false),(.bool false),(.bool false),(.bool false),(.bool false),(.bool false),(.bool false),(.bool false),(.bool false),(.bool false),(.bool false),(.bool false),(.bool false),(.bool false),(.bool false),(.bool false),(.bool false),(.bool false),(.bool false),(.bool false),(.bool false),(.bool false),(.bool false),(.bool false),(.bool false),(.bool false),(.bool false),(.bool false),(.bool false),(.bool false),(.bool false),(.bool false),(.bool false),(.bool false),(.bool false),(.bool false),(.bool false),(.bool false),(.bool false),(.bool false),(.bool false),(.bool false),(.bool false),(.bool false),(.bool false),(.bool false),(.bool false),(.bool false),(.bool false),(.bool false),(.bool false),(.bool false),(.bool false),(.bool false),(.bool false),(.bool false),(.bool false),(.bool false),(.bool false),(.bool false),(.bool false),(.bool false),(.bool false),(.bool false),(.bool false),(.bool false),(.bool false),(.bool false),(.bool false),(.bool false),(.bool false),(.bool false),(.bool false),(.bool false),(.bool false),(.bool false),(.bool false),(.bool false),(.bool false),(.bool false),(.bool false),(.bool false),(.bool false),(.bool false),(.bool false),(.bool false),(.bool false),(.bool false),(.bool false),(.bool false),(.bool false),(.bool false),(.bool false),(.bool false),(.bool false),(.bool false),(.bool false),(.bool false),(.bool false),(.bool false),(.bool false),(.bool false),(.bool false),(.bool false),(.bool false),(.bool false),(.bool false),(.bool false),(.bool false),(.bool false),(.bool false),(.bool false),(.bool false),(.bool false),(.bool false),(.bool false),(.bool false),(.bool false),(.bool false),(.bool false),(.bool false),(.bool false),(.bool false),(.bool false),(.bool false),(.bool false),(.bool false),(.bool false),(.bool false),(.bool false),(.bool false),(.bool false),(.bool false),(.bool false),(.bool false),(.bool false),(.bool false),(.bool false),(.bool false),(.bool false),(.bool false),(.bool false),(.bool false),(.bool false),(.bool false),(.bool false),(.bool false),(.bool false),(.bool false),(.bool false),(.bool false),(.bool false),(.bool false),(.bool false),(.bool false),(.bool false),(.bool false),(.bool false),(.bool false),(.bool false),(.bool false),(.bool false),(.bool false),(.bool false),(.bool false),(.bool false),(.bool false),(.bool false),(.bool false),(.bool false),(.bool false),(.bool false),(.bool false),(.bool false),(.bool false),(.bool false),(.bool false),(.bool false),(.bool false),(.bool false)]),oM 3 (cB false)] [0,2])
(.seq
(.seq
(.reg 1 [oM 4 (cI 0)] [0,2,4])
(.block 0
(.loop
(.seq
(.seq
(.reg 2 [oM 6 T4,oM 7 T0,oQ 8 (.len 1 T7),oQ 9 (.bin .lss T6 T8)] [0,2,4,9])
(.cond T9
.skip
(.exit 0)))
(.seq
(.block 1
(.seq
(.reg 4 [oM 12 T0,oM 13 T4,oQ 14 (.ba9 T12 T13),oM 5 T14] [0,2,4,5])
(.seq
(.seq
(.reg 5 [oM 15 T5,oQ 16 (.bin .geq T15 (.c (zU 128)))] [0,2,4,5,16])
(.cond T16
(.seq
(.reg 6 [oQ 17 (.load (some 256) T2),oN (.store 256 T2 T17),oM 3 (cB false)] [2,3])
.ret)
.skip))
(.reg 7 [oM 18 T5,oQ 19 (.cn1 256 1 T2 T18),oN (.store 1 T19 (cB true))] [0,2,4]))))
(.reg 3 [oM 10 T4,oQ 11 (.bin .add T10 (cI 1)),oM 4 T11] [0,2,4]))))))
(.seq
(.reg 8 [oQ 20 (.load (some 256) T2),oN (.store 256 T2 T20),oM 3 (cB true)] [2,3])
.ret)))
theorem fok157:FOK Tryz.prog 157 (21,ic157,[(.cell (some 256) 2),(.t 3)]):=ai1 [] Tryz.func157
def ic158:IC :=
(.seq
(.reg 0 [oM 4 (.c (.str []))] [0,1])
(.seq
(.block 0
(.loop
(.seq
(.seq
(.reg 1 [oM 5 T0,oQ 6 (.len 1 T5),oQ 7 (.bin .gtr T6 (cI 0))] [0,1,7])
(.cond T7
.skip
(.exit 0)))
(.block 1
(.seq
(.seq
(.reg 2 [oM 8 T1,oM 9 T0,oQ 10 (.ba9 T9 (cI 0)),oK 11 (.call 160 [T8,T10]),oQ 12 (.not T11)] [0,1,12])
(.cond T12
(.exit 0)
.skip))
(.reg 3 [oM 13 T0,oQ 14 (.el1 T13 (some (cI 1)) none),oM 0 T14] [0,1]))))))
(.seq
(.reg 4 [oM 15 T0,oM 4 T15] [4])
.ret)))
theorem fok158:FOK Tryz.prog 158 (16,ic158,[(.t 4)]):=ai1 [] Tryz.func158
def ic159:IC :=
(.seq
(.reg 0 [oM 4 (.c (.str []))] [0,1])
(.seq
(.block 0
(.loop
(.seq
(.seq
(.reg 1 [oM 7 T0,oQ 8 (.len 1 T7),oQ 9 (.bin .gtr T8 (cI 0))] [0,1,9])
(.cond T9
.skip
(.exit 0)))
(.block 1
(.seq
(.reg 2 [oM 11 T0,oK 12 (.call 161 [T11]),oM 10 T12,oQ 13 (.ext 0 T10),oQ 14 (.ext 1 T10),oM 5 T13,oM 6 T14] [0,1,5,6])
(.seq
(.seq
(.reg 3 [oM 15 T1,oM 16 T5,oK 17 (.call 162 [T15,T16]),oQ 18 (.not T17)] [0,1,6,18])
(.cond T18
(.exit 0)
.skip))
(.reg 4 [oM 19 T0,oM 20 T6,oQ 21 (.el1 T19 (some T20) none),oM 0 T21] [0,1])))))))
(.seq
(.reg 5 [oM 22 T0,oM 4 T22] [4])
.ret)))
theorem fok159:FOK Tryz.prog 159 (23,ic159,[(.t 4)]):=ai1 [] Tryz.func159
def ic160:IC :=
(.seq
(.reg 0 [oM 4 (cB false)] [0,1])
(.seq
(.reg 1 [oM 5 T0,oM 6 T1,oQ 7 (.am7 T5),oQ 8 (.cn1 256 1 T7 T6),oQ 9 (.load none T8),oM 4 T9] [4])
.ret))
theorem fok160:FOK Tryz.prog 160 (10,ic160,[(.t 4)]):=ai1 [] Tryz.func160
def ic161:IC :=
(.seq
(.reg 0 [oM 2 (.c (.int .i32 0)),oM 3 (cI 0)] [0])
(.seq
(.seq
(.reg 1 [oM 4 T0,oQ 5 (.bin .neq T4 (.c (.str []))),oM 6 T5,gQ 7 6 true (.mov T0),gQ 8 6 true (.ba9 T7 (cI 0)),gQ 9 6 true (.bin .lss T8 (.c (zU 128))),oQ 10 (.pick T6 T9 (cB false))] [0,10])
(.cond T10
(.seq
(.reg 2 [oM 11 T0,oQ 12 (.ba9 T11 (cI 0)),oQ 13 (.conv .i32 T12),oM 2 T13,oM 3 (cI 1)] [2,3])
.ret)
(.reg 3 [oM 15 T0,oK 16 (.call 163 [T15]),oM 14 T16,oQ 17 (.ext 0 T14),oQ 18 (.ext 1 T14),oM 2 T17,oM 3 T18] [2,3])))
.ret))
theorem fok161:FOK Tryz.prog 161 (19,ic161,[(.t 2),(.t 3)]):=ai1 [] Tryz.func161
def ic162:IC :=
(.seq
(.reg 0 [oM 4 (cB false)] [0,1])
(.seq
(.reg 1 [oM 5 T0,oM 6 T1,oK 7 (.call 164 [T5,T6]),oQ 8 (.bin .geq T7 (cI 0)),oM 4 T8] [4])
.ret))
theorem fok162:FOK Tryz.prog 162 (9,ic162,[(.t 4)]):=ai1 [] Tryz.func162
def ic163:IC :=
(.seq
(.reg 0 [oM 2 (.c (.int .i32 0)),oM 3 (cI 0)] [0])
(.seq
(.reg 1 [oM 13 T0,oQ 14 (.len 1 T13),oM 4 T14] [0,4])
(.seq
(.seq
(.reg 2 [oM 15 T4,oQ 16 (.bin .lss T15 (cI 1))] [0,4,16])
(.cond T16
(.seq
(.reg 3 [oM 2 (.c (.int .i32 65533)),oM 3 (cI 0)] [2,3])
.ret)
.skip))
(.seq
(.reg 4 [oM 17 T0,oQ 18 (.ba9 T17 (cI 0)),oM 5 T18] [0,4,5])
(.seq
(.reg 5 [oM 19 T5,oQ 20 (.cn1 256 1 (.g 3) T19),oQ 21 (.load none T20),oM 6 T21] [0,4,5,6])
(.seq
(.seq
(.reg 6 [oM 22 T6,oQ 23 (.bin .geq T22 (.c (zU 240)))] [0,4,5,6,23])
(.cond T23
(.seq
(.reg 7 [oM 24 T6,oQ 25 (.conv .i32 T24),oQ 26 (.bin .shl T25 (.c (.int .u64 31))),oQ 27 (.bin .shr T26 (.c (.int .u64 31))),oM 7 T27] [0,7])
(.seq
(.reg 8 [oM 28 T0,oQ 29 (.ba9 T28 (cI 0)),oQ 30 (.conv .i32 T29),oM 31 T7,oQ 32 (.bin .andNot T30 T31),oM 33 T7,oQ 34 (.bin .and (.c (.int .i32 65533)) T33),oQ 35 (.bin .or T32 T34),oM 2 T35,oM 3 (cI 1)] [2,3])
.ret))
.skip))
(.seq
(.reg 9 [oM 36 T6,oQ 37 (.bin .and T36 (.c (zU 7))),oQ 38 (.conv .i64 T37),oM 8 T38] [0,4,5,6,8])
(.seq
(.reg 10 [oM 39 T6,oQ 40 (.bin .shr T39 (.c (.int .u64 4))),oQ 41 (.cn1 16 2 (.g 4) T40),oQ 42 (.load (some 2) T41),oK 9 (.alloc [(zU 0),(zU 0)]),oN (.store 2 T9 T42)] [0,4,5,8,9])
(.seq
(.seq
(.reg 11 [oM 43 T4,oM 44 T8,oQ 45 (.bin .lss T43 T44)] [0,5,8,9,45])
(.cond T45
(.seq
(.reg 12 [oM 2 (.c (.int .i32 65533)),oM 3 (cI 1)] [2,3])
.ret)
.skip))
(.seq
(.reg 13 [oM 46 T0,oQ 47 (.ba9 T46 (cI 1)),oM 10 T47] [0,5,8,9,10])
(.seq
(.seq
(.reg 14 [oM 48 T10,oQ 49 (.aa7 0 T9),oQ 50 (.load none T49),oQ 51 (.bin .lss T48 T50),oM 52 T51,gQ 53 52 false (.aa7 1 T9),gQ 54 52 false (.load none T53),gQ 55 52 false (.mov T10),gQ 56 52 false (.bin .lss T54 T55),oQ 57 (.pick T52 (cB true) T56)] [0,5,8,10,57])
(.cond T57
(.seq
(.reg 15 [oM 2 (.c (.int .i32 65533)),oM 3 (cI 1)] [2,3])
.ret)
.skip))
(.seq
(.seq
(.reg 16 [oM 58 T8,oQ 59 (.bin .leq T58 (cI 2))] [0,5,8,10,59])
(.cond T59
(.seq
(.reg 17 [oM 60 T5,oQ 61 (.bin .and T60 (.c (zU 31))),oQ 62 (.conv .i32 T61),oQ 63 (.bin .shl T62 (.c (.int .u64 6))),oM 64 T10,oQ 65 (.bin .and T64 (.c (zU 63))),oQ 66 (.conv .i32 T65),oQ 67 (.bin .or T63 T66),oM 2 T67,oM 3 (cI 2)] [2,3])
.ret)
.skip))
(.seq
(.reg 18 [oM 68 T0,oQ 69 (.ba9 T68 (cI 2)),oM 11 T69] [0,5,8,10,11])
(.seq
(.seq
(.reg 19 [oM 70 T11,oQ 71 (.bin .lss T70 (.c (zU 128))),oM 72 T71,gQ 73 72 false (.mov T11),gQ 74 72 false (.bin .lss (.c (zU 191)) T73),oQ 75 (.pick T72 (cB true) T74)] [0,5,8,10,11,75])
(.cond T75
(.seq
(.reg 20 [oM 2 (.c (.int .i32 65533)),oM 3 (cI 1)] [2,3])
.ret)
.skip))
(.seq
(.seq
(.reg 21 [oM 76 T8,oQ 77 (.bin .leq T76 (cI 3))] [0,5,10,11,77])
(.cond T77
(.seq
(.reg 22 [oM 78 T5,oQ 79 (.bin .and T78 (.c (zU 15))),oQ 80 (.conv .i32 T79),oQ 81 (.bin .shl T80 (.c (.int .u64 12))),oM 82 T10,oQ 83 (.bin .and T82 (.c (zU 63))),oQ 84 (.conv .i32 T83),oQ 85 (.bin .shl T84 (.c (.int .u64 6))),oQ 86 (.bin .or T81 T85),oM 87 T11,oQ 88 (.bin .and T87 (.c (zU 63))),oQ 89 (.conv .i32 T88),oQ 90 (.bin .or T86 T89),oM 2 T90,oM 3 (cI 3)] [2,3])
.ret)
.skip))
(.seq
(.reg 23 [oM 91 T0,oQ 92 (.ba9 T91 (cI 3)),oM 12 T92] [5,10,11,12])
(.seq
(.seq
(.reg 24 [oM 93 T12,oQ 94 (.bin .lss T93 (.c (zU 128))),oM 95 T94,gQ 96 95 false (.mov T12),gQ 97 95 false (.bin .lss (.c (zU 191)) T96),oQ 98 (.pick T95 (cB true) T97)] [5,10,11,12,98])
(.cond T98
(.seq
(.reg 25 [oM 2 (.c (.int .i32 65533)),oM 3 (cI 1)] [2,3])
.ret)
.skip))
(.seq
(.reg 26 [oM 99 T5,oQ 100 (.bin .and T99 (.c (zU 7))),oQ 101 (.conv .i32 T100),oQ 102 (.bin .shl T101 (.c (.int .u64 18))),oM 103 T10,oQ 104 (.bin .and T103 (.c (zU 63))),oQ 105 (.conv .i32 T104),oQ 106 (.bin .shl T105 (.c (.int .u64 12))),oQ 107 (.bin .or T102 T106),oM 108 T11,oQ 109 (.bin .and T108 (.c (zU 63))),oQ 110 (.conv .i32 T109),oQ 111 (.bin .shl T110 (.c (.int .u64 6))),oQ 112 (.bin .or T107 T111),oM 113 T12,oQ 114 (.bin .and T113 (.c (zU 63))),oQ 115 (.conv .i32 T114),oQ 116 (.bin .or T112 T115),oM 2 T116,oM 3 (cI 4)] [2,3])
.ret))))))))))))))))))
theorem fok163:FOK Tryz.prog 163 (117,ic163,[(.t 2),(.t 3)]):=ai1 [] Tryz.func163
def ic164:IC :=
(.seq
(.reg 0 [oM 4 (cI 0)] [0,1])
(.block 0
(.seq
(.reg 34 [oM 161 T1,oQ 162 (.bin .leq (.c (.int .i32 0)) T161),oM 163 T162,gQ 164 163 true (.mov T1),gQ 165 163 true (.bin .lss T164 (.c (.int .i32 128))),oQ 166 (.pick T163 T165 (cB false)),oM 160 T166] [0,1,160])
(.cond T160
(.seq
(.reg 35 [oM 167 T0,oM 168 T1,oQ 169 (.conv .u8 T168),oK 170 (.call 82 [T167,T169]),oM 4 T170] [4])
.ret)
(.seq
(.reg 36 [oM 172 T1,oQ 173 (.bin .eql T172 (.c (.int .i32 65533))),oM 171 T173] [0,1,171])
(.cond T171
(.seq
(.seq
(.reg 37 [oM 174 T0,oK 175 (.aw5 T174)] [175])
(.block 9
(.loop
(.seq
(.reg 38 [oK 176 (.bq1 T175),oQ 177 (.ext 0 T176)] [175,176,177])
(.seq
(.cond T177
.skip
(.exit 9))
(.block 10
(.seq
(.reg 39 [oQ 178 (.ext 1 T176),oQ 179 (.ext 2 T176),oM 5 T178,oM 6 T179] [5,6,175])
(.seq
(.reg 40 [oM 180 T6,oQ 181 (.bin .eql T180 (.c (.int .i32 65533)))] [5,175,181])
(.cond T181
(.seq
(.reg 41 [oM 182 T5,oM 4 T182] [4])
.ret)
.skip)))))))))
(.seq
(.reg 42 [oM 4 (cI (-1))] [4])
.ret))
(.seq
(.reg 43 [oM 184 T1,oK 185 (.call 165 [T184]),oQ 186 (.not T185),oM 183 T186] [0,1,183])
(.cond T183
(.seq
(.reg 44 [oM 4 (cI (-1))] [4])
.ret)
(.scope
(.seq
(.reg 1 [oM 17 T1,oK 18 (.st .nev []),oM 7 T18] [0,7])
(.seq
(.reg 2 [oM 19 T7,oQ 20 (.len 1 T19),oQ 21 (.bin .sub T20 (cI 1)),oM 8 T21] [0,7,8])
(.seq
(.reg 3 [oM 22 T8,oM 9 T22] [0,7,8,9])
(.seq
(.reg 4 [oM 10 (cI 0)] [0,7,8,9])
(.seq
(.block 1
(.loop
(.seq
(.seq
(.reg 5 [oM 23 T9,oM 24 T0,oQ 25 (.len 1 T24),oQ 26 (.bin .lss T23 T25)] [0,7,8,9,26])
(.cond T26
.skip
(.exit 1)))
(.block 2
(.scope
(.seq
(.seq
(.dreg 6 [oM 27 T0,oM 28 T9,oQ 29 (.ba9 T27 T28),oM 30 T7,oM 31 T8,oQ 32 (.ba9 T30 T31),oQ 33 (.bin .neq T29 T32)] false [0,7,8,9,33])
(.cond T33
(.seq
(.dreg 7 [oM 34 T0,oM 35 T9,oQ 36 (.bin .add T35 (cI 1)),oQ 37 (.el1 T34 (some T36) none),oM 38 T7,oM 39 T8,oQ 40 (.ba9 T38 T39),oK 41 (.call 82 [T37,T40]),oM 11 T41] false [0,7,8,9,11])
(.seq
(.seq
(.reg 8 [oM 42 T11,oQ 43 (.bin .lss T42 (cI 0))] [0,7,8,9,11,43])
(.cond T43
(.seq
(.reg 9 [oM 4 (cI (-1))] [4])
.ret)
.skip))
(.reg 10 [oM 44 T9,oM 45 T11,oQ 46 (.bin .add T45 (cI 1)),oQ 47 (.bin .add T44 T46),oM 9 T47] [0,7,8,9])))
.skip))
(.seq
(.seq
(.reg 11 [oM 12 (cI 1)] [0,7,8,9,12])
(.block 3
(.loop
(.seq
(.seq
(.reg 12 [oM 48 T12,oM 49 T7,oQ 50 (.len 1 T49),oQ 51 (.bin .lss T48 T50)] [0,7,8,9,12,51])
(.cond T51
.skip
(.exit 3)))
(.seq
(.block 4
(.seq
(.dreg 14 [oM 54 T0,oM 55 T9,oM 56 T12,oQ 57 (.bin .sub T55 T56),oQ 58 (.ba9 T54 T57),oM 59 T7,oM 60 T8,oM 61 T12,oQ 62 (.bin .sub T60 T61),oQ 63 (.ba9 T59 T62),oQ 64 (.bin .neq T58 T63)] false [0,7,8,9,12,64])
(.cond T64
(.reg 0 [oN (.st .nev [])] [])
.skip)))
(.reg 13 [oM 52 T12,oQ 53 (.bin .add T52 (cI 1)),oM 12 T53] [0,7,8,9,12]))))))
(.seq
(.seq
(.reg 15 [oM 65 T9,oM 66 T8,oQ 67 (.bin .sub T65 T66),oM 4 T67] [4])
.ret)
(.seq
.skip
(.seq
(.reg 16 [oM 68 T10,oQ 69 (.bin .add T68 (cI 1)),oM 10 T69] [0,7,8,9,10])
(.seq
(.reg 17 [oM 70 T9,oQ 71 (.bin .add T70 (cI 1)),oM 9 T71] [0,7,8,9,10])
(.seq
(.reg 18 [oM 72 (cB true),gQ 73 72 true (.mov T10),gQ 74 72 true (.mov T9),gK 75 72 true (.call 166 [T74]),gQ 76 72 true (.bin .gtr T73 T75),oQ 77 (.pick T72 T76 (cB false)),oM 78 T77,gQ 79 78 true (.mov T9),gQ 80 78 true (.mov T0),gQ 81 78 true (.len 1 T80),gQ 82 78 true (.bin .lss T79 T81),oQ 83 (.pick T78 T82 (cB false)),oM 84 T83,gQ 85 84 false (.mov (cB false)),gQ 86 85 true (.mov T10),gQ 87 85 true (.mov T9),gQ 88 85 true (.bin .shr T87 (.c (.int .u64 4))),gQ 89 85 true (.bin .add (cI 4) T88),gQ 90 85 true (.bin .geq T86 T89),gQ 91 84 false (.pick T85 T90 (cB false)),gQ 92 84 false (.mov T91),gQ 93 92 true (.mov T9),gQ 94 92 true (.mov T0),gQ 95 92 true (.len 1 T94),gQ 96 92 true (.bin .lss T93 T95),gQ 97 84 false (.pick T92 T96 (cB false)),oQ 98 (.pick T84 (cB true) T97)] [0,7,8,9,98])
(.cond T98
(.reg 0 [oN (.st .nev [])] [])
.skip)))))))))))))
(.seq
(.seq
(.reg 19 [oM 4 (cI (-1))] [4])
.ret)
(.seq
.skip
(.seq
(.cond (cB true)
(.seq
(.reg 20 [oM 99 T0,oM 100 T9,oM 101 T8,oQ 102 (.bin .sub T100 T101),oQ 103 (.el1 T99 (some T102) none),oM 104 T1,oK 105 (.st .nev []),oK 106 (.st .nev []),oM 13 T106] [8,9,13])
(.seq
(.reg 21 [oM 107 T13,oQ 108 (.bin .geq T107 (cI 0))] [8,9,13,108])
(.cond T108
(.seq
(.reg 22 [oM 109 T9,oM 110 T13,oQ 111 (.bin .add T109 T110),oM 112 T8,oQ 113 (.bin .sub T111 T112),oM 4 T113] [4])
.ret)
.skip)))
(.scope
(.seq
(.reg 23 [oM 114 T7,oM 115 T8,oQ 116 (.ba9 T114 T115),oM 14 T116] [0,7,8,9,14])
(.seq
(.reg 24 [oM 117 T7,oM 118 T8,oQ 119 (.bin .sub T118 (cI 1)),oQ 120 (.ba9 T117 T119),oM 15 T120] [0,7,8,9,14,15])
(.seq
.skip
(.block 5
(.loop
(.seq
(.seq
(.reg 25 [oM 121 T9,oM 122 T0,oQ 123 (.len 1 T122),oQ 124 (.bin .lss T121 T123)] [0,7,8,9,14,15,124])
(.cond T124
.skip
(.exit 5)))
(.seq
(.block 6
(.seq
(.reg 27 [oM 127 T0,oM 128 T9,oQ 129 (.ba9 T127 T128),oM 130 T14,oQ 131 (.bin .eql T129 T130),oM 132 T131,gQ 133 132 true (.mov T0),gQ 134 132 true (.mov T9),gQ 135 132 true (.bin .sub T134 (cI 1)),gQ 136 132 true (.ba9 T133 T135),gQ 137 132 true (.mov T15),gQ 138 132 true (.bin .eql T136 T137),oQ 139 (.pick T132 T138 (cB false))] [0,7,8,9,14,15,139])
(.cond T139
(.seq
(.seq
(.reg 28 [oM 16 (cI 2)] [0,7,8,9,14,15,16])
(.block 7
(.loop
(.seq
(.seq
(.reg 29 [oM 140 T16,oM 141 T7,oQ 142 (.len 1 T141),oQ 143 (.bin .lss T140 T142)] [0,7,8,9,14,15,16,143])
(.cond T143
.skip
(.exit 7)))
(.seq
(.block 8
(.seq
(.dreg 31 [oM 146 T0,oM 147 T9,oM 148 T16,oQ 149 (.bin .sub T147 T148),oQ 150 (.ba9 T146 T149),oM 151 T7,oM 152 T8,oM 153 T16,oQ 154 (.bin .sub T152 T153),oQ 155 (.ba9 T151 T154),oQ 156 (.bin .neq T150 T155)] false [0,7,8,9,14,15,16,156])
(.cond T156
(.exit 6)
.skip)))
(.reg 30 [oM 144 T16,oQ 145 (.bin .add T144 (cI 1)),oM 16 T145] [0,7,8,9,14,15,16]))))))
(.seq
(.reg 32 [oM 157 T9,oM 158 T8,oQ 159 (.bin .sub T157 T158),oM 4 T159] [4])
.ret))
.skip)))
(.reg 26 [oM 125 T9,oQ 126 (.bin .add T125 (cI 1)),oM 9 T126] [0,7,8,9,14,15]))))))))))
(.seq
(.reg 33 [oM 4 (cI (-1))] [4])
.ret))))))))))))))))))
theorem fok164:FOK Tryz.prog 164 (187,ic164,[(.t 4)]):=ai1 [] Tryz.func164
def ic165:IC :=
(.seq
(.reg 0 [oM 2 (cB false)] [0])
(.seq
(.block 0
(.seq
(.reg 1 [oM 4 T0,oQ 5 (.bin .leq (.c (.int .i32 0)) T4),oM 6 T5,gQ 7 6 true (.mov T0),gQ 8 6 true (.bin .lss T7 (.c (.int .i32 55296))),oQ 9 (.pick T6 T8 (cB false)),oM 3 T9] [0,3])
(.cond T3
(.seq
(.reg 2 [oM 2 (cB true)] [2])
.ret)
(.seq
(.reg 3 [oM 11 T0,oQ 12 (.bin .lss (.c (.int .i32 57343)) T11),oM 13 T12,gQ 14 13 true (.mov T0),gQ 15 13 true (.bin .leq T14 (.c (.int .i32 1114111))),oQ 16 (.pick T13 T15 (cB false)),oM 10 T16] [10])
(.cond T10
(.seq
(.reg 4 [oM 2 (cB true)] [2])
.ret)
.skip)))))
(.seq
(.reg 5 [oM 2 (cB false)] [2])
.ret)))
theorem fok165:FOK Tryz.prog 165 (17,ic165,[(.t 2)]):=ai1 [] Tryz.func165
def ic166:IC :=
(.seq
(.reg 0 [oM 2 (cI 0)] [0])
(.seq
(.reg 1 [oM 3 T0,oQ 4 (.bin .add T3 (cI 16)),oQ 5 (.bin .quo T4 (cI 8)),oM 2 T5] [2])
.ret))
theorem fok166:FOK Tryz.prog 166 (6,ic166,[(.t 2)]):=ai1 [] Tryz.func166
end Go.Id.Tryz
