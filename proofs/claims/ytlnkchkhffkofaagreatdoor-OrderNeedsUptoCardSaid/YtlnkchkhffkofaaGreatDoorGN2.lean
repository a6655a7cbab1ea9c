/- The compiled codes of functions,written by a program out of the given form. Conditions: none. -/
import Derived.Test.YtlnkchkhffkofaaGreatDoorFwZb
import Derived.Test.YtlnkchkhffkofaaGreatDoorProg
set_option linter.all false
namespace Go.Id.Tryz
open Go Go.Id Go.Proofs
def jc3:List Nat:=List.range 292
def ic156:IC :=
(.seq
(.reg 0 [oM 10 (cI 0)] [0,1,2,3,4])
(.seq
(.an5 1 [oM 13 T0,oM 14 T1,oM 15 T0,oM 16 T3,oM 17 T0,oM 18 T3,oQ 19 (.ab5 1 T17 T18),oQ 20 (.load none T19),oM 21 T0,oM 22 T1,oQ 23 (.ab5 1 T21 T22),oQ 24 (.load none T23),oQ 25 (.ab5 1 T13 T14),oN (.store 1 T25 T20),oQ 26 (.ab5 1 T15 T16),oN (.store 1 T26 T24)] false [0,1,2,4])
(.seq
(.reg 2 [oM 27 T1,oQ 28 (.bin .add T27 (cI 1)),oM 29 T2,oQ 30 (.bin .sub T29 (cI 1)),oM 11 T28,oM 12 T30] [0,1,4,11,12])
(.seq
(.block 0
(.loop
(.block 1
(.seq
(.block 2
(.loop
(.seq
(.seq
(.an5 3 [oM 31 T11,oM 32 T12,oQ 33 (.bin .leq T31 T32),oM 34 T33,gQ 35 34 true (.mov T4),gQ 36 34 true (.mov T0),gQ 37 34 true (.mov T1),gQ 38 34 true (.ab5 1 T36 T37),gQ 39 34 true (.load none T38),gQ 40 34 true (.mov T0),gQ 41 34 true (.mov T11),gQ 42 34 true (.ab5 1 T40 T41),gQ 43 34 true (.load none T42),gK 44 34 true (.aj2 T35 [T39,T43]),gQ 45 34 true (.bin .lss T44 (cI 0)),gQ 46 34 true (.not T45),oQ 47 (.pick T34 T46 (cB false))] false [0,1,4,11,12,47])
(.cond T47
.skip
(.exit 2)))
(.block 3
(.reg 4 [oM 48 T11,oQ 49 (.bin .add T48 (cI 1)),oM 11 T49] [0,1,4,11,12])))))
(.seq
(.block 4
(.loop
(.seq
(.seq
(.an5 5 [oM 50 T11,oM 51 T12,oQ 52 (.bin .leq T50 T51),oM 53 T52,gQ 54 53 true (.mov T4),gQ 55 53 true (.mov T0),gQ 56 53 true (.mov T1),gQ 57 53 true (.ab5 1 T55 T56),gQ 58 53 true (.load none T57),gQ 59 53 true (.mov T0),gQ 60 53 true (.mov T12),gQ 61 53 true (.ab5 1 T59 T60),gQ 62 53 true (.load none T61),gK 63 53 true (.aj2 T54 [T58,T62]),gQ 64 53 true (.bin .lss T63 (cI 0)),oQ 65 (.pick T53 T64 (cB false))] false [0,1,4,11,12,65])
(.cond T65
.skip
(.exit 4)))
(.block 5
(.reg 6 [oM 66 T12,oQ 67 (.bin .sub T66 (cI 1)),oM 12 T67] [0,1,4,11,12])))))
(.seq
(.seq
(.reg 7 [oM 68 T11,oM 69 T12,oQ 70 (.bin .gtr T68 T69)] [0,1,4,11,12,70])
(.cond T70
(.exit 0)
.skip))
(.seq
(.an5 8 [oM 71 T0,oM 72 T11,oM 73 T0,oM 74 T12,oM 75 T0,oM 76 T12,oQ 77 (.ab5 1 T75 T76),oQ 78 (.load none T77),oM 79 T0,oM 80 T11,oQ 81 (.ab5 1 T79 T80),oQ 82 (.load none T81),oQ 83 (.ab5 1 T71 T72),oN (.store 1 T83 T78),oQ 84 (.ab5 1 T73 T74),oN (.store 1 T84 T82)] false [0,1,4,11,12])
(.seq
(.reg 9 [oM 85 T11,oQ 86 (.bin .add T85 (cI 1)),oM 11 T86] [0,1,4,11,12])
(.reg 10 [oM 87 T12,oQ 88 (.bin .sub T87 (cI 1)),oM 12 T88] [0,1,4,11,12])))))))))
(.seq
(.reg 11 [oM 89 T11,oM 10 T89] [10])
.ret)))))
theorem fok156:FOK Tryz.prog 156 (90,ic156,[(.t 10)]):=ak2 [] Tryz.func156
def ic157:IC :=
(.seq
(.reg 0 [oM 10 (cI 0),oM 11 (cB false)] [0,1,2,3,4])
(.seq
(.an5 1 [oM 14 T0,oM 15 T1,oM 16 T0,oM 17 T3,oM 18 T0,oM 19 T3,oQ 20 (.ab5 1 T18 T19),oQ 21 (.load none T20),oM 22 T0,oM 23 T1,oQ 24 (.ab5 1 T22 T23),oQ 25 (.load none T24),oQ 26 (.ab5 1 T14 T15),oN (.store 1 T26 T21),oQ 27 (.ab5 1 T16 T17),oN (.store 1 T27 T25)] false [0,1,2,4])
(.seq
(.reg 2 [oM 28 T1,oQ 29 (.bin .add T28 (cI 1)),oM 30 T2,oQ 31 (.bin .sub T30 (cI 1)),oM 12 T29,oM 13 T31] [0,1,4,12,13])
(.seq
(.block 0
(.loop
(.seq
(.seq
(.an5 3 [oM 32 T12,oM 33 T13,oQ 34 (.bin .leq T32 T33),oM 35 T34,gQ 36 35 true (.mov T4),gQ 37 35 true (.mov T0),gQ 38 35 true (.mov T12),gQ 39 35 true (.ab5 1 T37 T38),gQ 40 35 true (.load none T39),gQ 41 35 true (.mov T0),gQ 42 35 true (.mov T1),gQ 43 35 true (.ab5 1 T41 T42),gQ 44 35 true (.load none T43),gK 45 35 true (.aj2 T36 [T40,T44]),gQ 46 35 true (.bin .lss T45 (cI 0)),oQ 47 (.pick T35 T46 (cB false))] false [0,1,4,12,13,47])
(.cond T47
.skip
(.exit 0)))
(.block 1
(.reg 4 [oM 48 T12,oQ 49 (.bin .add T48 (cI 1)),oM 12 T49] [0,1,4,12,13])))))
(.seq
(.block 2
(.loop
(.seq
(.seq
(.an5 5 [oM 50 T12,oM 51 T13,oQ 52 (.bin .leq T50 T51),oM 53 T52,gQ 54 53 true (.mov T4),gQ 55 53 true (.mov T0),gQ 56 53 true (.mov T13),gQ 57 53 true (.ab5 1 T55 T56),gQ 58 53 true (.load none T57),gQ 59 53 true (.mov T0),gQ 60 53 true (.mov T1),gQ 61 53 true (.ab5 1 T59 T60),gQ 62 53 true (.load none T61),gK 63 53 true (.aj2 T54 [T58,T62]),gQ 64 53 true (.bin .lss T63 (cI 0)),gQ 65 53 true (.not T64),oQ 66 (.pick T53 T65 (cB false))] false [0,1,4,12,13,66])
(.cond T66
.skip
(.exit 2)))
(.block 3
(.reg 6 [oM 67 T13,oQ 68 (.bin .sub T67 (cI 1)),oM 13 T68] [0,1,4,12,13])))))
(.seq
(.seq
(.reg 7 [oM 69 T12,oM 70 T13,oQ 71 (.bin .gtr T69 T70)] [0,1,4,12,13,71])
(.cond T71
(.seq
(.an5 8 [oM 72 T0,oM 73 T13,oM 74 T0,oM 75 T1,oM 76 T0,oM 77 T1,oQ 78 (.ab5 1 T76 T77),oQ 79 (.load none T78),oM 80 T0,oM 81 T13,oQ 82 (.ab5 1 T80 T81),oQ 83 (.load none T82),oQ 84 (.ab5 1 T72 T73),oN (.store 1 T84 T79),oQ 85 (.ab5 1 T74 T75),oN (.store 1 T85 T83)] false [13])
(.seq
(.reg 9 [oM 86 T13,oM 10 T86,oM 11 (cB true)] [10,11])
.ret))
.skip))
(.seq
(.an5 10 [oM 87 T0,oM 88 T12,oM 89 T0,oM 90 T13,oM 91 T0,oM 92 T13,oQ 93 (.ab5 1 T91 T92),oQ 94 (.load none T93),oM 95 T0,oM 96 T12,oQ 97 (.ab5 1 T95 T96),oQ 98 (.load none T97),oQ 99 (.ab5 1 T87 T88),oN (.store 1 T99 T94),oQ 100 (.ab5 1 T89 T90),oN (.store 1 T100 T98)] false [0,1,4,12,13])
(.seq
(.reg 11 [oM 101 T12,oQ 102 (.bin .add T101 (cI 1)),oM 12 T102] [0,1,4,12,13])
(.seq
(.reg 12 [oM 103 T13,oQ 104 (.bin .sub T103 (cI 1)),oM 13 T104] [0,1,4,12,13])
(.seq
(.block 4
(.loop
(.block 5
(.seq
(.block 6
(.loop
(.seq
(.seq
(.an5 13 [oM 105 T12,oM 106 T13,oQ 107 (.bin .leq T105 T106),oM 108 T107,gQ 109 108 true (.mov T4),gQ 110 108 true (.mov T0),gQ 111 108 true (.mov T12),gQ 112 108 true (.ab5 1 T110 T111),gQ 113 108 true (.load none T112),gQ 114 108 true (.mov T0),gQ 115 108 true (.mov T1),gQ 116 108 true (.ab5 1 T114 T115),gQ 117 108 true (.load none T116),gK 118 108 true (.aj2 T109 [T113,T117]),gQ 119 108 true (.bin .lss T118 (cI 0)),oQ 120 (.pick T108 T119 (cB false))] false [0,1,4,12,13,120])
(.cond T120
.skip
(.exit 6)))
(.block 7
(.reg 14 [oM 121 T12,oQ 122 (.bin .add T121 (cI 1)),oM 12 T122] [0,1,4,12,13])))))
(.seq
(.block 8
(.loop
(.seq
(.seq
(.an5 15 [oM 123 T12,oM 124 T13,oQ 125 (.bin .leq T123 T124),oM 126 T125,gQ 127 126 true (.mov T4),gQ 128 126 true (.mov T0),gQ 129 126 true (.mov T13),gQ 130 126 true (.ab5 1 T128 T129),gQ 131 126 true (.load none T130),gQ 132 126 true (.mov T0),gQ 133 126 true (.mov T1),gQ 134 126 true (.ab5 1 T132 T133),gQ 135 126 true (.load none T134),gK 136 126 true (.aj2 T127 [T131,T135]),gQ 137 126 true (.bin .lss T136 (cI 0)),gQ 138 126 true (.not T137),oQ 139 (.pick T126 T138 (cB false))] false [0,1,4,12,13,139])
(.cond T139
.skip
(.exit 8)))
(.block 9
(.reg 16 [oM 140 T13,oQ 141 (.bin .sub T140 (cI 1)),oM 13 T141] [0,1,4,12,13])))))
(.seq
(.seq
(.reg 17 [oM 142 T12,oM 143 T13,oQ 144 (.bin .gtr T142 T143)] [0,1,4,12,13,144])
(.cond T144
(.exit 4)
.skip))
(.seq
(.an5 18 [oM 145 T0,oM 146 T12,oM 147 T0,oM 148 T13,oM 149 T0,oM 150 T13,oQ 151 (.ab5 1 T149 T150),oQ 152 (.load none T151),oM 153 T0,oM 154 T12,oQ 155 (.ab5 1 T153 T154),oQ 156 (.load none T155),oQ 157 (.ab5 1 T145 T146),oN (.store 1 T157 T152),oQ 158 (.ab5 1 T147 T148),oN (.store 1 T158 T156)] false [0,1,4,12,13])
(.seq
(.reg 19 [oM 159 T12,oQ 160 (.bin .add T159 (cI 1)),oM 12 T160] [0,1,4,12,13])
(.reg 20 [oM 161 T13,oQ 162 (.bin .sub T161 (cI 1)),oM 13 T162] [0,1,4,12,13])))))))))
(.seq
(.an5 21 [oM 163 T0,oM 164 T13,oM 165 T0,oM 166 T1,oM 167 T0,oM 168 T1,oQ 169 (.ab5 1 T167 T168),oQ 170 (.load none T169),oM 171 T0,oM 172 T13,oQ 173 (.ab5 1 T171 T172),oQ 174 (.load none T173),oQ 175 (.ab5 1 T163 T164),oN (.store 1 T175 T170),oQ 176 (.ab5 1 T165 T166),oN (.store 1 T176 T174)] false [13])
(.seq
(.reg 22 [oM 177 T13,oM 10 T177,oM 11 (cB false)] [10,11])
.ret))))))))))))
theorem fok157:FOK Tryz.prog 157 (178,ic157,[(.t 10),(.t 11)]):=ak2 [] Tryz.func157
def ic159:IC :=
(.seq
(.reg 0 [oM 2 (cI 0)] [0,2])
(.seq
(.seq
(.reg 1 [oM 3 T0,oQ 4 (.bin .geq T3 (.c (.int .u64 4294967296)))] [0,2,4])
(.cond T4
(.seq
(.reg 2 [oM 5 T0,oQ 6 (.bin .shr T5 (.c (.int .u64 32))),oM 0 T6] [0])
(.reg 3 [oM 2 (cI 32)] [0,2]))
.skip))
(.seq
(.seq
(.reg 4 [oM 7 T0,oQ 8 (.bin .geq T7 (.c (.int .u64 65536)))] [0,2,8])
(.cond T8
(.seq
(.reg 5 [oM 9 T0,oQ 10 (.bin .shr T9 (.c (.int .u64 16))),oM 0 T10] [0,2])
(.reg 6 [oM 11 T2,oQ 12 (.bin .add T11 (cI 16)),oM 2 T12] [0,2]))
.skip))
(.seq
(.seq
(.reg 7 [oM 13 T0,oQ 14 (.bin .geq T13 (.c (.int .u64 256)))] [0,2,14])
(.cond T14
(.seq
(.reg 8 [oM 15 T0,oQ 16 (.bin .shr T15 (.c (.int .u64 8))),oM 0 T16] [0,2])
(.reg 9 [oM 17 T2,oQ 18 (.bin .add T17 (cI 8)),oM 2 T18] [0,2]))
.skip))
(.seq
(.reg 10 [oM 19 T2,oM 20 T0,oQ 21 (.conv .u8 T20),oQ 22 (.fe8 (.c (.str [0,1,2,2,3,3,3,3,4,4,4,4,4,4,4,4,5,5,5,5,5,5,5,5,5,5,5,5,5,5,5,5,6,6,6,6,6,6,6,6,6,6,6,6,6,6,6,6,6,6,6,6,6,6,6,6,6,6,6,6,6,6,6,6,7,7,7,7,7,7,7,7,7,7,7,7,7,7,7,7,7,7,7,7,7,7,7,7,7,7,7,7,7,7,7,7,7,7,7,7,7,7,7,7,7,7,7,7,7,7,7,7,7,7,7,7,7,7,7,7,7,7,7,7,7,7,7,7,8,8,8,8,8,8,8,8,8,8,8,8,8,8,8,8,8,8,8,8,8,8,8,8,8,8,8,8,8,8,8,8,8,8,8,8,8,8,8,8,8,8,8,8,8,8,8,8,8,8,8,8,8,8,8,8,8,8,8,8,8,8,8,8,8,8,8,8,8,8,8,8,8,8,8,8,8,8,8,8,8,8,8,8,8,8,8,8,8,8,8,8,8,8,8,8,8,8,8,8,8,8,8,8,8,8,8,8,8,8,8,8,8,8,8,8,8,8,8,8,8,8,8,8,8,8,8,8])) T21),oQ 23 (.conv .i64 T22),oQ 24 (.bin .add T19 T23),oM 2 T24] [2])
.ret)))))
theorem fok159:FOK Tryz.prog 159 (25,ic159,[(.t 2)]):=ak2 [] Tryz.func159
def ic160:IC :=
(.seq
(.reg 0 [oM 2 (.c .aa1)] [0])
(.seq
(.reg 1 [oM 3 T0,oK 4 (.call 215 [(.c .aa1),T3]),oM 2 T4] [2])
.ret))
theorem fok160:FOK Tryz.prog 160 (5,ic160,[(.t 2)]):=ak2 [] Tryz.func160
def ic161:IC :=
(.seq
(.reg 0 [oQ 5 (.load none T1),oQ 6 (.len 0 T5),oM 7 (cI 0)] [0,5,6,7])
(.block 0
(.loop
(.seq
(.reg 1 [oQ 8 (.bin .lss T7 T6)] [0,5,6,7,8])
(.seq
(.cond T8
.skip
(.exit 0))
(.seq
(.block 1
(.seq
(.reg 2 [oQ 9 (.ab5 1 T5 T7),oQ 10 (.load none T9),oM 4 T10] [0,4,5,6,7])
(.seq
(.reg 3 [oM 11 T0,oM 12 T4,oK 13 (.aj2 T11 [T12]),oQ 14 (.not T13)] [0,5,6,7,14])
(.cond T14
.ret
.skip))))
(.reg 4 [oQ 15 (.bin .add T7 (cI 1)),oM 7 T15] [0,5,6,7])))))))
theorem fok161:FOK Tryz.prog 161 (16,ic161,[]):=ak2 [] Tryz.func161
def ic162:IC :=
(.seq
(.reg 0 [⟨(some 4),none,(.q (.mov (.c (.int .i64 0))))⟩] [0,1])
(.seq
(.seq
(.reg 1 [⟨(some 6),none,(.q (.mov T0))⟩,⟨(some 7),none,(.q (.len 0 T6))⟩,⟨(some 8),none,(.q (.mov (.c (.int .i64 0))))⟩] [0,1,7,8])
(.block 0
(.loop
(.seq
(.reg 2 [⟨(some 9),none,(.q (.bin .lss T8 T7))⟩] [0,1,7,8,9])
(.seq
(.cond T9
.skip
(.exit 0))
(.seq
(.block 1
(.seq
(.reg 3 [⟨(some 10),none,(.q (.mov T8))⟩,⟨(some 5),none,(.q (.mov T10))⟩] [0,1,5,7,8])
(.seq
(.reg 4 [⟨(some 11),none,(.q (.mov T1))⟩,⟨(some 12),none,(.q (.mov T0))⟩,⟨(some 13),none,(.q (.mov T5))⟩,⟨(some 14),none,(.q (.ab5 7 T12 T13))⟩,⟨(some 15),none,(.q (.load (some 7) T14))⟩,⟨(some 16),none,(.aj2 T11 [T15])⟩] [0,1,5,7,8,16])
(.cond T16
(.seq
(.reg 5 [⟨(some 17),none,(.q (.mov T5))⟩,⟨(some 4),none,(.q (.mov T17))⟩] [4])
.ret)
.skip))))
(.reg 6 [⟨(some 18),none,(.q (.bin .add T8 (.c (.int .i64 1))))⟩,⟨(some 8),none,(.q (.mov T18))⟩] [0,1,7,8])))))))
(.seq
(.reg 7 [⟨(some 4),none,(.q (.mov (.c (.int .i64 (-1)))))⟩] [4])
.ret)))
theorem fok162:FOK Tryz.prog 162 (19,ic162,[(.t 4)]):=.mk (pf:=[]) (an:=[(0,[0,1]),(1,[0,1,7,8]),(2,[0,1,7,8,9]),(3,[0,1,5,7,8]),(4,[0,1,5,7,8,16]),(5,[4]),(6,[0,1,7,8]),(7,[4])]) (by kernel_rfl) (ac3 Tryz.func162 (by kernel_rfl) (by kernel_rfl) (by kernel_rfl))
def ic163:IC :=
(.seq
(.reg 0 [⟨(some 4),none,(.q (.mov (.c (.int .i64 0))))⟩] [0,1])
(.seq
(.seq
(.reg 1 [⟨(some 6),none,(.q (.mov T0))⟩,⟨(some 7),none,(.q (.len 0 T6))⟩,⟨(some 8),none,(.q (.mov (.c (.int .i64 0))))⟩] [0,1,7,8])
(.block 0
(.loop
(.seq
(.reg 2 [⟨(some 9),none,(.q (.bin .lss T8 T7))⟩] [0,1,7,8,9])
(.seq
(.cond T9
.skip
(.exit 0))
(.seq
(.block 1
(.seq
(.reg 3 [⟨(some 10),none,(.q (.mov T8))⟩,⟨(some 5),none,(.q (.mov T10))⟩] [0,1,5,7,8])
(.seq
(.reg 4 [⟨(some 11),none,(.q (.mov T1))⟩,⟨(some 12),none,(.q (.mov T0))⟩,⟨(some 13),none,(.q (.mov T5))⟩,⟨(some 14),none,(.q (.ab5 5 T12 T13))⟩,⟨(some 15),none,(.q (.load (some 5) T14))⟩,⟨(some 16),none,(.aj2 T11 [T15])⟩] [0,1,5,7,8,16])
(.cond T16
(.seq
(.reg 5 [⟨(some 17),none,(.q (.mov T5))⟩,⟨(some 4),none,(.q (.mov T17))⟩] [4])
.ret)
.skip))))
(.reg 6 [⟨(some 18),none,(.q (.bin .add T8 (.c (.int .i64 1))))⟩,⟨(some 8),none,(.q (.mov T18))⟩] [0,1,7,8])))))))
(.seq
(.reg 7 [⟨(some 4),none,(.q (.mov (.c (.int .i64 (-1)))))⟩] [4])
.ret)))
theorem fok163:FOK Tryz.prog 163 (19,ic163,[(.t 4)]):=.mk (pf:=[]) (an:=[(0,[0,1]),(1,[0,1,7,8]),(2,[0,1,7,8,9]),(3,[0,1,5,7,8]),(4,[0,1,5,7,8,16]),(5,[4]),(6,[0,1,7,8]),(7,[4])]) (by kernel_rfl) (ac3 Tryz.func163 (by kernel_rfl) (by kernel_rfl) (by kernel_rfl))
def ic164:IC :=
(.seq
(.reg 0 [⟨(some 1),none,(.ao2 T0)⟩,⟨(some 2),none,(.q (.mov (.c .af5)))⟩] [1])
(.seq
(.reg 1 [⟨(some 3),none,(.alloc [.af5])⟩] [1,3])
(.seq
(.reg 2 [⟨(some 4),none,(.q (.mkf 216 [] [T3]))⟩,⟨none,none,(.store 1 T3 T4)⟩] [1,3])
(.seq
(.reg 3 [⟨(some 5),none,(.q (.mkf 217 [] [T3,T1]))⟩,⟨(some 2),none,(.q (.mov T5))⟩] [2])
.ret))))
theorem fok164:FOK Tryz.prog 164 (6,ic164,[(.t 2)]):=.mk (pf:=[1000001]) (an:=[(0,[1]),(1,[1,3]),(2,[1,3]),(3,[2])]) (by kernel_rfl) (ac3 Tryz.func164 (by kernel_rfl) (by kernel_rfl) (by kernel_rfl))
def ic165:IC :=
(.seq
(.reg 0 [oK 2 (.ao2 T0),oK 3 (.ao2 T1),oM 4 (cB false)] [2,3])
(.seq
(.an5 1 [oQ 5 (.load (some 15) T2),oK 6 (.ag4 218 [T5]),oQ 7 (.load (some 5) T3),oK 8 (.ag4 167 [T6,T7]),oM 4 T8] false [4])
.ret))
theorem fok165:FOK Tryz.prog 165 (9,ic165,[(.t 4)]):=ak2 ([1000002,1000003]++[167,218]) Tryz.func165 (by kernel_rfl) (by kernel_rfl) (by kernel_rfl) (by kernel_rfl)
def ic166:IC :=
(.seq
(.reg 0 [oK 2 (.ao2 T0),oM 3 (cB false)] [1,2])
(.seq
(.reg 1 [oQ 4 (.load (some 5) T2),oQ 5 (.load (some 5) T1),oK 6 (.call 167 [T4,T5]),oM 3 T6] [3])
.ret))
theorem fok166:FOK Tryz.prog 166 (7,ic166,[(.t 3)]):=ak2 [1000002] Tryz.func166
def ic167:IC :=
(.seq
(.reg 0 [oK 2 (.ao2 T0),oK 3 (.ao2 T1),oM 4 (cB false)] [2,3])
(.seq
(.reg 1 [oQ 5 (.ab3 0 T2),oQ 6 (.load none T5),oQ 7 (.ab3 0 T3),oQ 8 (.load none T7),oQ 9 (.bin .eql T6 T8),oM 10 T9,gQ 11 10 true (.load (some 5) T2),gQ 12 10 true (.load (some 5) T3),gK 13 10 true (.call 219 [T11,T12]),oQ 14 (.pick T10 T13 (cB false)),oM 4 T14] [4])
.ret))
theorem fok167:FOK Tryz.prog 167 (15,ic167,[(.t 4)]):=ak2 [1000002,1000003] Tryz.func167
def ic168:IC :=
(.seq
(.reg 0 [oM 4 (cB false)] [0,1])
(.seq
(.reg 1 [oM 5 T0,oM 6 T1,oK 7 (.call 220 [T5,T6]),oQ 8 (.bin .geq T7 (cI 0)),oM 4 T8] [4])
.ret))
theorem fok168:FOK Tryz.prog 168 (9,ic168,[(.t 4)]):=ak2 [] Tryz.func168
def ic170:IC :=
(.seq
(.reg 0 [⟨(some 2),none,(.q (.mov (.c (.bool false))))⟩] [0])
(.seq
(.reg 1 [⟨(some 3),none,(.q (.mov T0))⟩,⟨(some 4),none,(.q (.bin .eql T3 (.c (.int .u8 0))))⟩,⟨(some 5),none,(.q (.mov T4))⟩,⟨(some 6),(some ⟨5,false⟩),(.q (.mov T0))⟩,⟨(some 7),(some ⟨5,false⟩),(.call 221 [T6])⟩,⟨(some 8),(some ⟨5,false⟩),(.q (.bin .neq T7 (.c (.str []))))⟩,⟨(some 9),none,(.q (.pick T5 (.c (.bool true)) T8))⟩,⟨(some 2),none,(.q (.mov T9))⟩] [2])
.ret))
theorem fok170:FOK Tryz.prog 170 (10,ic170,[(.t 2)]):=.mk (pf:=[]) (an:=[(0,[0]),(1,[2])]) (by kernel_rfl) (ac3 Tryz.func170 (by kernel_rfl) (by kernel_rfl) (by kernel_rfl))
def ic172:IC :=
(.seq
(.reg 0 [⟨(some 1),none,(.ao2 T0)⟩,⟨(some 2),none,(.q (.mov (.c .ac9)))⟩] [1])
(.seq
(.reg 1 [⟨(some 8),none,.az2⟩,⟨(some 9),none,(.q (.ab3 0 T1))⟩,⟨(some 10),none,(.q (.load none T9))⟩,⟨(some 11),none,(.q (.bld [] []))⟩,⟨none,none,(.bx7 2 T8 T10 T11)⟩,⟨(some 12),none,(.q (.mov T8))⟩,⟨(some 3),none,(.q (.mov T12))⟩] [1,3])
(.seq
(.seq
(.reg 2 [⟨(some 13),none,(.q (.ab3 6 T1))⟩,⟨(some 14),none,(.q (.load none T13))⟩,⟨(some 15),none,(.q (.len 0 T14))⟩,⟨(some 16),none,(.q (.mov (.c (.int .i64 0))))⟩] [1,3,14,15,16])
(.block 0
(.loop
(.seq
(.reg 3 [⟨(some 17),none,(.q (.bin .lss T16 T15))⟩] [1,3,14,15,16,17])
(.seq
(.cond T17
.skip
(.exit 0))
(.seq
(.block 1
(.seq
(.reg 4 [⟨(some 18),none,(.q (.ab5 5 T14 T16))⟩,⟨(some 19),none,(.q (.load (some 5) T18))⟩,⟨(some 5),none,(.alloc [(.str []),(.int .u8 0),(.int .i64 0),(.str []),(.str [])])⟩,⟨none,none,(.store 5 T5 T19)⟩] [1,3,5,14,15,16])
(.reg 5 [⟨(some 20),none,(.q (.mov T3))⟩,⟨(some 21),none,(.q (.ab3 0 T5))⟩,⟨(some 22),none,(.q (.load none T21))⟩,⟨(some 23),none,(.q (.bld [] []))⟩,⟨none,none,(.bx7 2 T20 T22 T23)⟩] [1,3,14,15,16])))
(.reg 6 [⟨(some 24),none,(.q (.bin .add T16 (.c (.int .i64 1))))⟩,⟨(some 16),none,(.q (.mov T24))⟩] [1,3,14,15,16])))))))
(.seq
(.seq
(.reg 7 [⟨(some 25),none,(.q (.ab3 14 T1))⟩,⟨(some 26),none,(.q (.load none T25))⟩,⟨(some 27),none,(.q (.len 0 T26))⟩,⟨(some 28),none,(.q (.mov (.c (.int .i64 0))))⟩] [3,26,27,28])
(.block 2
(.loop
(.seq
(.reg 8 [⟨(some 29),none,(.q (.bin .lss T28 T27))⟩] [3,26,27,28,29])
(.seq
(.cond T29
.skip
(.exit 2))
(.seq
(.block 3
(.seq
(.reg 9 [⟨(some 30),none,(.q (.ab5 1 T26 T28))⟩,⟨(some 31),none,(.q (.load none T30))⟩,⟨(some 7),none,(.q (.mov T31))⟩] [3,7,26,27,28])
(.reg 10 [⟨(some 32),none,(.q (.mov T3))⟩,⟨(some 33),none,(.q (.mov T7))⟩,⟨(some 34),none,(.q (.bld [] []))⟩,⟨none,none,(.bx7 2 T32 T33 T34)⟩] [3,26,27,28])))
(.reg 11 [⟨(some 35),none,(.q (.bin .add T28 (.c (.int .i64 1))))⟩,⟨(some 28),none,(.q (.mov T35))⟩] [3,26,27,28])))))))
(.seq
(.reg 12 [⟨(some 36),none,(.q (.mov T3))⟩,⟨(some 2),none,(.q (.mov T36))⟩] [2])
.ret)))))
theorem fok172:FOK Tryz.prog 172 (37,ic172,[(.t 2)]):=.mk (pf:=[1000001]) (an:=[(0,[1]),(1,[1,3]),(2,[1,3,14,15,16]),(3,[1,3,14,15,16,17]),(4,[1,3,5,14,15,16]),(5,[1,3,14,15,16]),(6,[1,3,14,15,16]),(7,[3,26,27,28]),(8,[3,26,27,28,29]),(9,[3,7,26,27,28]),(10,[3,26,27,28]),(11,[3,26,27,28]),(12,[2])]) (by kernel_rfl) (ac3 Tryz.func172 (by kernel_rfl) (by kernel_rfl) (by kernel_rfl))
def ic180:IC :=
(.seq
(.reg 0 [⟨(some 4),none,(.q (.mov (.c (.int .i64 0))))⟩] [0,1])
(.seq
(.seq
(.reg 1 [⟨(some 6),none,(.q (.mov T0))⟩,⟨(some 7),none,(.q (.len 0 T6))⟩,⟨(some 8),none,(.q (.mov (.c (.int .i64 0))))⟩] [0,1,7,8])
(.block 0
(.loop
(.seq
(.reg 2 [⟨(some 9),none,(.q (.bin .lss T8 T7))⟩] [0,1,7,8,9])
(.seq
(.cond T9
.skip
(.exit 0))
(.seq
(.block 1
(.seq
(.reg 3 [⟨(some 10),none,(.q (.mov T8))⟩,⟨(some 5),none,(.q (.mov T10))⟩] [0,1,5,7,8])
(.seq
(.reg 4 [⟨(some 11),none,(.q (.mov T1))⟩,⟨(some 12),none,(.q (.mov T0))⟩,⟨(some 13),none,(.q (.mov T5))⟩,⟨(some 14),none,(.q (.ab5 1 T12 T13))⟩,⟨(some 15),none,(.q (.load none T14))⟩,⟨(some 16),none,(.q (.bin .eql T11 T15))⟩] [0,1,5,7,8,16])
(.cond T16
(.seq
(.reg 5 [⟨(some 17),none,(.q (.mov T5))⟩,⟨(some 4),none,(.q (.mov T17))⟩] [4])
.ret)
.skip))))
(.reg 6 [⟨(some 18),none,(.q (.bin .add T8 (.c (.int .i64 1))))⟩,⟨(some 8),none,(.q (.mov T18))⟩] [0,1,7,8])))))))
(.seq
(.reg 7 [⟨(some 4),none,(.q (.mov (.c (.int .i64 (-1)))))⟩] [4])
.ret)))
theorem fok180:FOK Tryz.prog 180 (19,ic180,[(.t 4)]):=.mk (pf:=[]) (an:=[(0,[0,1]),(1,[0,1,7,8]),(2,[0,1,7,8,9]),(3,[0,1,5,7,8]),(4,[0,1,5,7,8,16]),(5,[4]),(6,[0,1,7,8]),(7,[4])]) (by kernel_rfl) (ac3 Tryz.func180 (by kernel_rfl) (by kernel_rfl) (by kernel_rfl))
def ic192:IC :=
(.seq
(.reg 0 [oK 1 (.ao2 T0),oM 2 (.c .af5)] [1])
(.seq
(.reg 1 [oQ 3 (.mkf 233 [] [T1]),oM 2 T3] [2])
.ret))
theorem fok192:FOK Tryz.prog 192 (4,ic192,[(.t 2)]):=ak2 [1000001] Tryz.func192
def ic193:IC :=
(.seq
(.reg 0 [oM 2 (cI 0)] [0])
(.seq
(.reg 1 [oM 3 (cI 0)] [0,3])
(.seq
(.seq
(.reg 2 [oM 6 T0,oQ 7 (.len 0 T6),oM 8 (cI 0)] [3,6,7,8])
(.block 0
(.loop
(.seq
(.reg 3 [oQ 9 (.bin .lss T8 T7)] [3,6,7,8,9])
(.seq
(.cond T9
.skip
(.exit 0))
(.seq
(.block 1
(.seq
(.reg 4 [oQ 10 (.ab5 1 T6 T8),oQ 11 (.load none T10),oM 5 T11] [3,5,6,7,8])
(.seq
(.reg 5 [oM 12 T5,oM 13 T3,oQ 14 (.bin .neq T12 T13)] [3,5,6,7,8,14])
(.cond T14
(.seq
(.reg 6 [oM 15 T5,oM 2 T15] [2])
.ret)
.skip))))
(.reg 7 [oQ 16 (.bin .add T8 (cI 1)),oM 8 T16] [3,6,7,8])))))))
(.seq
(.reg 8 [oM 17 T3,oM 2 T17] [2])
.ret))))
theorem fok193:FOK Tryz.prog 193 (18,ic193,[(.t 2)]):=ak2 [] Tryz.func193
def ic194:IC :=
(.seq
(.reg 0 [oM 4 (cI 0)] [0,1])
(.seq
(.reg 1 [oM 7 T0,oK 8 (.call 236 [T7]),oM 5 T8] [0,1,5])
(.seq
(.reg 2 [oM 9 T1,oK 10 (.call 236 [T9]),oM 6 T10] [0,1,5,6])
(.seq
(.seq
(.reg 3 [oM 11 T5] [0,1,6,11])
(.cond T11
(.seq
(.seq
(.reg 4 [oM 12 T6] [12])
(.cond T12
(.seq
(.reg 5 [oM 4 (cI 0)] [4])
.ret)
.skip))
(.seq
(.reg 6 [oM 4 (cI (-1))] [4])
.ret))
.skip))
(.seq
(.seq
(.reg 7 [oM 13 T6] [0,1,13])
(.cond T13
(.seq
(.reg 8 [oM 4 (cI 1)] [4])
.ret)
.skip))
(.seq
(.seq
(.reg 9 [oM 14 T0,oM 15 T1,oQ 16 (.bin .lss T14 T15)] [0,1,16])
(.cond T16
(.seq
(.reg 10 [oM 4 (cI (-1))] [4])
.ret)
.skip))
(.seq
(.seq
(.reg 11 [oM 17 T0,oM 18 T1,oQ 19 (.bin .gtr T17 T18)] [19])
(.cond T19
(.seq
(.reg 12 [oM 4 (cI 1)] [4])
.ret)
.skip))
(.seq
(.reg 13 [oM 4 (cI 0)] [4])
.ret))))))))
theorem fok194:FOK Tryz.prog 194 (20,ic194,[(.t 4)]):=ak2 [] Tryz.func194
def ic195:IC :=
(.seq
(.reg 0 [oM 4 (cI 0)] [0,1])
(.seq
(.reg 1 [oM 7 T0,oK 8 (.call 237 [T7]),oM 5 T8] [0,1,5])
(.seq
(.reg 2 [oM 9 T1,oK 10 (.call 237 [T9]),oM 6 T10] [0,1,5,6])
(.seq
(.seq
(.reg 3 [oM 11 T5] [0,1,6,11])
(.cond T11
(.seq
(.seq
(.reg 4 [oM 12 T6] [12])
(.cond T12
(.seq
(.reg 5 [oM 4 (cI 0)] [4])
.ret)
.skip))
(.seq
(.reg 6 [oM 4 (cI (-1))] [4])
.ret))
.skip))
(.seq
(.seq
(.reg 7 [oM 13 T6] [0,1,13])
(.cond T13
(.seq
(.reg 8 [oM 4 (cI 1)] [4])
.ret)
.skip))
(.seq
(.seq
(.reg 9 [oM 14 T0,oM 15 T1,oQ 16 (.bin .lss T14 T15)] [0,1,16])
(.cond T16
(.seq
(.reg 10 [oM 4 (cI (-1))] [4])
.ret)
.skip))
(.seq
(.seq
(.reg 11 [oM 17 T0,oM 18 T1,oQ 19 (.bin .gtr T17 T18)] [19])
(.cond T19
(.seq
(.reg 12 [oM 4 (cI 1)] [4])
.ret)
.skip))
(.seq
(.reg 13 [oM 4 (cI 0)] [4])
.ret))))))))
theorem fok195:FOK Tryz.prog 195 (20,ic195,[(.t 4)]):=ak2 [] Tryz.func195
def ic198:IC :=
(.seq
(.reg 0 [⟨(some 4),none,(.q (.mov (.c (.int .i64 0))))⟩] [0,1])
(.seq
(.reg 1 [⟨(some 5),none,(.q (.mov T0))⟩,⟨(some 6),none,(.q (.mov T1))⟩,⟨(some 7),none,(.call 238 [T5,T6])⟩,⟨(some 4),none,(.q (.mov T7))⟩] [4])
.ret))
theorem fok198:FOK Tryz.prog 198 (8,ic198,[(.t 4)]):=.mk (pf:=[]) (an:=[(0,[0,1]),(1,[4])]) (by kernel_rfl) (ac3 Tryz.func198 (by kernel_rfl) (by kernel_rfl) (by kernel_rfl))
def ic199:IC :=
(.seq
(.reg 0 [⟨(some 4),none,(.q (.mov (.c (.bool false))))⟩] [0,1])
(.seq
(.reg 1 [⟨(some 5),none,(.q (.mov T0))⟩,⟨(some 6),none,(.q (.mov T1))⟩,⟨(some 7),none,(.call 239 [T5,T6])⟩,⟨(some 4),none,(.q (.mov T7))⟩] [4])
.ret))
theorem fok199:FOK Tryz.prog 199 (8,ic199,[(.t 4)]):=.mk (pf:=[]) (an:=[(0,[0,1]),(1,[4])]) (by kernel_rfl) (ac3 Tryz.func199 (by kernel_rfl) (by kernel_rfl) (by kernel_rfl))
def ic200:IC :=
(.seq
(.reg 0 [⟨(some 2),none,(.q (.mov (.c (.bool false))))⟩] [0])
(.seq
(.seq
(.reg 1 [⟨(some 5),none,(.q (.mov T0))⟩,⟨(some 6),none,(.q (.bin .eql T5 (.c (.str []))))⟩,⟨(some 7),none,(.q (.mov T6))⟩,⟨(some 8),(some ⟨7,false⟩),(.q (.mov T0))⟩,⟨(some 9),(some ⟨7,false⟩),(.q (.len 1 T8))⟩,⟨(some 10),(some ⟨7,false⟩),(.q (.bin .gtr T9 (.c (.int .i64 64))))⟩,⟨(some 11),none,(.q (.pick T7 (.c (.bool true)) T10))⟩] [0,11])
(.cond T11
(.seq
(.reg 2 [⟨(some 2),none,(.q (.mov (.c (.bool false))))⟩] [2])
.ret)
.skip))
(.seq
(.seq
(.reg 3 [⟨(some 12),none,(.q (.mov T0))⟩,⟨(some 13),none,(.q (.len 1 T12))⟩,⟨(some 14),none,(.q (.mov (.c (.int .i64 0))))⟩] [0,13,14])
(.block 0
(.loop
(.seq
(.reg 4 [⟨(some 15),none,(.q (.bin .lss T14 T13))⟩] [0,13,14,15])
(.seq
(.cond T15
.skip
(.exit 0))
(.seq
(.block 1
(.seq
(.reg 5 [⟨(some 16),none,(.q (.mov T14))⟩,⟨(some 3),none,(.q (.mov T16))⟩] [0,3,13,14])
(.seq
(.reg 6 [⟨(some 17),none,(.q (.mov T0))⟩,⟨(some 18),none,(.q (.mov T3))⟩,⟨(some 19),none,(.q (.fe8 T17 T18))⟩,⟨(some 4),none,(.q (.mov T19))⟩] [0,4,13,14])
(.block 2
(.seq
(.seq
(.reg 8 [⟨(some 21),none,(.q (.mov T4))⟩,⟨(some 22),none,(.q (.bin .geq T21 (.c (.int .u8 97))))⟩,⟨(some 23),none,(.q (.mov T22))⟩,⟨(some 24),(some ⟨23,true⟩),(.q (.mov T4))⟩,⟨(some 25),(some ⟨23,true⟩),(.q (.bin .leq T24 (.c (.int .u8 122))))⟩,⟨(some 26),none,(.q (.pick T23 T25 (.c (.bool false))))⟩,⟨(some 20),none,(.q (.mov T26))⟩] [0,4,13,14,20])
(.cond T20
.skip
(.seq
(.reg 9 [⟨(some 27),none,(.q (.mov T4))⟩,⟨(some 28),none,(.q (.bin .geq T27 (.c (.int .u8 65))))⟩,⟨(some 29),none,(.q (.mov T28))⟩,⟨(some 30),(some ⟨29,true⟩),(.q (.mov T4))⟩,⟨(some 31),(some ⟨29,true⟩),(.q (.bin .leq T30 (.c (.int .u8 90))))⟩,⟨(some 32),none,(.q (.pick T29 T31 (.c (.bool false))))⟩,⟨(some 20),none,(.q (.mov T32))⟩] [0,4,13,14,20])
(.cond T20
.skip
(.seq
(.reg 10 [⟨(some 33),none,(.q (.mov T4))⟩,⟨(some 34),none,(.q (.bin .geq T33 (.c (.int .u8 48))))⟩,⟨(some 35),none,(.q (.mov T34))⟩,⟨(some 36),(some ⟨35,true⟩),(.q (.mov T4))⟩,⟨(some 37),(some ⟨35,true⟩),(.q (.bin .leq T36 (.c (.int .u8 57))))⟩,⟨(some 38),none,(.q (.pick T35 T37 (.c (.bool false))))⟩,⟨(some 20),none,(.q (.mov T38))⟩] [0,4,13,14,20])
(.cond T20
.skip
(.reg 11 [⟨(some 39),none,(.q (.mov T4))⟩,⟨(some 40),none,(.call 198 [(.c (.str [46,95,43,126,94])),T39])⟩,⟨(some 41),none,(.q (.bin .geq T40 (.c (.int .i64 0))))⟩,⟨(some 20),none,(.q (.mov T41))⟩] [0,13,14,20])))))))
(.cond T20
.skip
(.seq
(.reg 7 [⟨(some 2),none,(.q (.mov (.c (.bool false))))⟩] [2])
.ret)))))))
(.reg 12 [⟨(some 42),none,(.q (.bin .add T14 (.c (.int .i64 1))))⟩,⟨(some 14),none,(.q (.mov T42))⟩] [0,13,14])))))))
(.seq
(.reg 13 [⟨(some 2),none,(.q (.mov (.c (.bool true))))⟩] [2])
.ret))))
theorem fok200:FOK Tryz.prog 200 (43,ic200,[(.t 2)]):=.mk (pf:=[]) (an:=[(0,[0]),(1,[0,11]),(2,[2]),(3,[0,13,14]),(4,[0,13,14,15]),(5,[0,3,13,14]),(6,[0,4,13,14]),(7,[2]),(8,[0,4,13,14,20]),(9,[0,4,13,14,20]),(10,[0,4,13,14,20]),(11,[0,13,14,20]),(12,[0,13,14]),(13,[2])]) (by kernel_rfl) (ac3 Tryz.func200 (by kernel_rfl) (by kernel_rfl) (by kernel_rfl))
def ic201:IC :=
(.seq
(.reg 0 [⟨(some 0),none,(.alloc [(.str []),(.str []),(.str []),(.str []),(.str [])])⟩] [0])
(.seq
(.reg 1 [⟨(some 1),none,(.q (.bld [(.str []),(.str []),(.str []),(.str []),(.str [])] [⟨1,⟨1,(.c (.str [110,111,97,114,99,104]))⟩⟩,⟨2,⟨1,(.c (.str [120,56,54,95,54,52]))⟩⟩,⟨3,⟨1,(.c (.str [105,54,56,54]))⟩⟩,⟨4,⟨1,(.c (.str [97,97,114,99,104,54,52]))⟩⟩]))⟩,⟨none,none,(.store 5 T0 T1)⟩] [0])
.ret))
theorem fok201:FOK Tryz.prog 201 (2,ic201,[(.cell (some 5) 0)]):=.mk (pf:=[]) (an:=[(0,[0]),(1,[0])]) (by kernel_rfl) (ac3 Tryz.func201 (by kernel_rfl) (by kernel_rfl) (by kernel_rfl))
def ic202:IC :=
(.seq
(.reg 0 [⟨(some 2),none,(.ao2 T0)⟩,⟨(some 3),none,(.q (.mov (.c (.bool false))))⟩] [1,2])
(.seq
(.reg 1 [⟨(some 4),none,(.q (.load none T1))⟩,⟨(some 5),none,(.q (.load (some 5) T2))⟩,⟨(some 6),none,(.aj2 T4 [T5])⟩,⟨(some 7),none,(.q (.not T6))⟩,⟨(some 3),none,(.q (.mov T7))⟩] [3])
.ret))
theorem fok202:FOK Tryz.prog 202 (8,ic202,[(.t 3)]):=.mk (pf:=[1000002]) (an:=[(0,[1,2]),(1,[3])]) (by kernel_rfl) (ac3 Tryz.func202 (by kernel_rfl) (by kernel_rfl) (by kernel_rfl))
def ic203:IC :=
(.seq
(.reg 0 [⟨(some 4),none,(.q (.mov (.c (.bool false))))⟩] [0,1])
(.seq
(.reg 1 [⟨(some 5),none,(.q (.mov T0))⟩,⟨(some 6),none,(.q (.mov T1))⟩,⟨(some 7),none,(.call 240 [T5,T6])⟩,⟨(some 8),none,(.q (.bin .geq T7 (.c (.int .i64 0))))⟩,⟨(some 4),none,(.q (.mov T8))⟩] [4])
.ret))
theorem fok203:FOK Tryz.prog 203 (9,ic203,[(.t 4)]):=.mk (pf:=[]) (an:=[(0,[0,1]),(1,[4])]) (by kernel_rfl) (ac3 Tryz.func203 (by kernel_rfl) (by kernel_rfl) (by kernel_rfl))
def ic204:IC :=
(.seq
(.reg 0 [⟨(some 3),none,(.q (.mov (.c (.bool false))))⟩] [0,1])
(.seq
(.reg 1 [⟨(some 4),none,(.q (.load none T1))⟩,⟨(some 5),none,(.q (.mov T0))⟩,⟨(some 6),none,(.aj2 T4 [T5])⟩,⟨(some 7),none,(.q (.not T6))⟩,⟨(some 3),none,(.q (.mov T7))⟩] [3])
.ret))
theorem fok204:FOK Tryz.prog 204 (8,ic204,[(.t 3)]):=.mk (pf:=[]) (an:=[(0,[0,1]),(1,[3])]) (by kernel_rfl) (ac3 Tryz.func204 (by kernel_rfl) (by kernel_rfl) (by kernel_rfl))
def ic205:IC :=
(.reg 0 [⟨(some 3),none,(.q (.mov T0))⟩,⟨(some 4),none,(.q (.ab3 7 T1))⟩,⟨(some 5),none,(.q (.load none T4))⟩,⟨(some 6),none,(.aj2 T3 [(.c (.int .u8 1)),T5])⟩,⟨(some 7),none,(.q (.mov T6))⟩,⟨(some 8),(some ⟨7,true⟩),(.q (.mov T0))⟩,⟨(some 9),(some ⟨7,true⟩),(.q (.ab3 8 T1))⟩,⟨(some 10),(some ⟨7,true⟩),(.q (.load none T9))⟩,⟨(some 11),(some ⟨7,true⟩),(.aj2 T8 [(.c (.int .u8 2)),T10])⟩,⟨(some 12),none,(.q (.pick T7 T11 (.c (.bool false))))⟩,⟨(some 13),none,(.q (.mov T12))⟩,⟨(some 14),(some ⟨13,true⟩),(.q (.mov T0))⟩,⟨(some 15),(some ⟨13,true⟩),(.q (.ab3 10 T1))⟩,⟨(some 16),(some ⟨13,true⟩),(.q (.load none T15))⟩,⟨(some 17),(some ⟨13,true⟩),(.aj2 T14 [(.c (.int .u8 1)),T16])⟩,⟨(some 18),none,(.q (.pick T13 T17 (.c (.bool false))))⟩,⟨(some 19),none,(.q (.mov T18))⟩,⟨(some 20),(some ⟨19,true⟩),(.q (.mov T0))⟩,⟨(some 21),(some ⟨19,true⟩),(.q (.ab3 11 T1))⟩,⟨(some 22),(some ⟨19,true⟩),(.q (.load none T21))⟩,⟨(some 23),(some ⟨19,true⟩),(.aj2 T20 [(.c (.int .u8 3)),T22])⟩,⟨(some 24),none,(.q (.pick T19 T23 (.c (.bool false))))⟩,⟨(some 25),none,(.q (.mov T24))⟩,⟨(some 26),(some ⟨25,true⟩),(.q (.mov T0))⟩,⟨(some 27),(some ⟨25,true⟩),(.q (.ab3 12 T1))⟩,⟨(some 28),(some ⟨25,true⟩),(.q (.load none T27))⟩,⟨(some 29),(some ⟨25,true⟩),(.aj2 T26 [(.c (.int .u8 1)),T28])⟩,⟨(some 30),none,(.q (.pick T25 T29 (.c (.bool false))))⟩,⟨(some 31),none,(.q (.mov T30))⟩,⟨(some 32),(some ⟨31,true⟩),(.q (.mov T0))⟩,⟨(some 33),(some ⟨31,true⟩),(.q (.ab3 13 T1))⟩,⟨(some 34),(some ⟨31,true⟩),(.q (.load none T33))⟩,⟨(some 35),(some ⟨31,true⟩),(.aj2 T32 [(.c (.int .u8 3)),T34])⟩,⟨(some 36),none,(.q (.pick T31 T35 (.c (.bool false))))⟩] [])
theorem fok205:FOK Tryz.prog 205 (37,ic205,[]):=.mk (pf:=[]) (an:=[]) (by kernel_rfl) (ac3 Tryz.func205 (by kernel_rfl) (by kernel_rfl) (by kernel_rfl))
def ic206:IC :=
(.seq
(.reg 0 [⟨(some 2),none,(.ao2 T0)⟩,⟨(some 3),none,(.q (.mov (.c (.bool false))))⟩] [1,2])
(.seq
(.reg 1 [⟨(some 4),none,(.q (.load none T1))⟩,⟨(some 5),none,(.q (.load (some 7) T2))⟩,⟨(some 6),none,(.aj2 T4 [T5])⟩,⟨(some 7),none,(.q (.not T6))⟩,⟨(some 3),none,(.q (.mov T7))⟩] [3])
.ret))
theorem fok206:FOK Tryz.prog 206 (8,ic206,[(.t 3)]):=.mk (pf:=[1000002]) (an:=[(0,[1,2]),(1,[3])]) (by kernel_rfl) (ac3 Tryz.func206 (by kernel_rfl) (by kernel_rfl) (by kernel_rfl))
def ic207:IC :=
(.seq
(.reg 0 [⟨(some 1),none,(.ao2 T0)⟩,⟨(some 2),none,(.q (.mov (.c (.int .i64 0))))⟩] [1,2])
(.seq
(.reg 1 [⟨(some 3),none,(.alloc [(.int .i64 0)])⟩,⟨none,none,(.store 1 T3 (.c (.int .i64 0)))⟩] [1,2,3])
(.seq
(.seq
(.reg 2 [⟨(some 4),none,(.q (.load (some 7) T1))⟩,⟨(some 5),none,(.call 164 [T4])⟩] [2,3,5])
(.block 0
(.be5 T5 [6,7]
.skip
(.block 1
(.reg 3 [⟨(some 8),none,(.q (.load none T3))⟩,⟨(some 9),none,(.q (.bin .add T8 (.c (.int .i64 1))))⟩,⟨none,none,(.store 1 T3 T9)⟩] [])))))
(.seq
(.reg 4 [⟨(some 10),none,(.q (.load none T3))⟩,⟨(some 2),none,(.q (.mov T10))⟩] [2])
.ret))))
theorem fok207:FOK Tryz.prog 207 (11,ic207,[(.t 2)]):=.mk (pf:=[1000001]) (an:=[(0,[1,2]),(1,[1,2,3]),(2,[2,3,5]),(4,[2])]) (by kernel_rfl) (ac3 Tryz.func207 (by kernel_rfl) (by kernel_rfl) (by kernel_rfl))
def ic208:IC :=
(.seq
(.reg 0 [⟨(some 1),none,(.ao2 T0)⟩,⟨(some 2),none,(.q (.mov (.c (.int .i64 0))))⟩] [1])
(.seq
(.seq
(.reg 1 [⟨(some 6),none,(.q (.ab3 0 T1))⟩,⟨(some 7),none,(.q (.load none T6))⟩,⟨(some 8),none,(.q (.bin .eql T7 (.c (.int .u8 1))))⟩] [1,8])
(.cond T8
(.seq
(.reg 2 [⟨(some 2),none,(.q (.mov (.c (.int .i64 0))))⟩] [2])
.ret)
.skip))
(.seq
(.reg 3 [⟨(some 3),none,(.q (.mov (.c (.int .i64 0))))⟩] [1,3])
(.seq
(.seq
(.reg 4 [⟨(some 9),none,(.q (.ab3 6 T1))⟩,⟨(some 10),none,(.q (.load none T9))⟩,⟨(some 11),none,(.q (.len 0 T10))⟩,⟨(some 12),none,(.q (.mov (.c (.int .i64 0))))⟩] [3,10,11,12])
(.block 0
(.loop
(.seq
(.reg 5 [⟨(some 13),none,(.q (.bin .lss T12 T11))⟩] [3,10,11,12,13])
(.seq
(.cond T13
.skip
(.exit 0))
(.seq
(.block 1
(.seq
(.reg 6 [⟨(some 14),none,(.q (.ab5 7 T10 T12))⟩,⟨(some 15),none,(.q (.load (some 7) T14))⟩,⟨(some 5),none,(.alloc [(.int .u8 0),(.str []),(.int .u8 0),(.int .i64 0),(.str []),(.str []),.aa1])⟩,⟨none,none,(.store 7 T5 T15)⟩] [3,5,10,11,12])
(.reg 7 [⟨(some 16),none,(.q (.mov T3))⟩,⟨(some 17),none,(.q (.load (some 7) T5))⟩,⟨(some 18),none,(.call 208 [T17])⟩,⟨(some 19),none,(.q (.mm true T16 T18))⟩,⟨(some 3),none,(.q (.mov T19))⟩] [3,10,11,12])))
(.reg 8 [⟨(some 20),none,(.q (.bin .add T12 (.c (.int .i64 1))))⟩,⟨(some 12),none,(.q (.mov T20))⟩] [3,10,11,12])))))))
(.seq
(.reg 9 [⟨(some 21),none,(.q (.mov T3))⟩,⟨(some 22),none,(.q (.bin .add T21 (.c (.int .i64 1))))⟩,⟨(some 2),none,(.q (.mov T22))⟩] [2])
.ret)))))
theorem fok208:FOK Tryz.prog 208 (23,ic208,[(.t 2)]):=.mk (pf:=[1000001]) (an:=[(0,[1]),(1,[1,8]),(2,[2]),(3,[1,3]),(4,[3,10,11,12]),(5,[3,10,11,12,13]),(6,[3,5,10,11,12]),(7,[3,10,11,12]),(8,[3,10,11,12]),(9,[2])]) (by kernel_rfl) (ac3 Tryz.func208 (by kernel_rfl) (by kernel_rfl) (by kernel_rfl))
def ic209:IC :=
(.seq
(.reg 0 [⟨(some 2),none,(.alloc [(.int .i64 0),(.int .i64 0),(.bool false),(.int .u8 0)])⟩] [0,2])
(.seq
(.reg 1 [⟨(some 4),none,(.q (.bld [(.int .i64 0),(.int .i64 0),(.bool false),(.int .u8 0)] [⟨0,⟨1,(.c (.int .i64 0))⟩⟩,⟨1,⟨1,(.c (.int .i64 0))⟩⟩,⟨2,⟨1,(.c (.bool true))⟩⟩,⟨3,⟨1,(.c (.int .u8 3))⟩⟩]))⟩,⟨(some 5),none,(.q (.bld [(.int .i64 0),(.int .i64 0),(.bool false),(.int .u8 0)] [⟨0,⟨1,(.c (.int .i64 2))⟩⟩,⟨1,⟨1,(.c (.int .i64 24))⟩⟩,⟨2,⟨1,(.c (.bool true))⟩⟩,⟨3,⟨1,(.c (.int .u8 3))⟩⟩]))⟩,⟨(some 6),none,(.q (.bld [(.int .i64 0),(.int .i64 0),(.bool false),(.int .u8 0)] [⟨0,⟨1,(.c (.int .i64 2))⟩⟩,⟨1,⟨1,(.c (.int .i64 24))⟩⟩,⟨2,⟨1,(.c (.bool true))⟩⟩,⟨3,⟨1,(.c (.int .u8 3))⟩⟩]))⟩,⟨(some 7),none,(.q (.bld [(.int .i64 0),(.int .i64 0),(.bool false),(.int .u8 0)] [⟨0,⟨1,(.c (.int .i64 2))⟩⟩,⟨1,⟨1,(.c (.int .i64 3))⟩⟩,⟨2,⟨1,(.c (.bool false))⟩⟩,⟨3,⟨1,(.c (.int .u8 1))⟩⟩]))⟩,⟨(some 8),none,(.q (.bld [(.int .i64 0),(.int .i64 0),(.bool false),(.int .u8 0)] [⟨0,⟨1,(.c (.int .i64 2))⟩⟩,⟨1,⟨1,(.c (.int .i64 3))⟩⟩,⟨2,⟨1,(.c (.bool false))⟩⟩,⟨3,⟨1,(.c (.int .u8 2))⟩⟩]))⟩,⟨(some 9),none,(.q (.bld [(.int .i64 0),(.int .i64 0),(.bool false),(.int .u8 0)] [⟨0,⟨1,(.c (.int .i64 2))⟩⟩,⟨1,⟨1,(.c (.int .i64 24))⟩⟩,⟨2,⟨1,(.c (.bool true))⟩⟩,⟨3,⟨1,(.c (.int .u8 3))⟩⟩]))⟩,⟨(some 10),none,(.q (.bld [(.int .i64 0),(.int .i64 0),(.bool false),(.int .u8 0)] [⟨0,⟨1,(.c (.int .i64 2))⟩⟩,⟨1,⟨1,(.c (.int .i64 2))⟩⟩,⟨2,⟨1,(.c (.bool true))⟩⟩,⟨3,⟨1,(.c (.int .u8 3))⟩⟩]))⟩,⟨(some 11),none,(.q (.bld [(.int .i64 0),(.int .i64 0),(.bool false),(.int .u8 0),(.int .i64 0),(.int .i64 0),(.bool false),(.int .u8 0),(.int .i64 0),(.int .i64 0),(.bool false),(.int .u8 0),(.int .i64 0),(.int .i64 0),(.bool false),(.int .u8 0),(.int .i64 0),(.int .i64 0),(.bool false),(.int .u8 0),(.int .i64 0),(.int .i64 0),(.bool false),(.int .u8 0),(.int .i64 0),(.int .i64 0),(.bool false),(.int .u8 0),(.int .i64 0),(.int .i64 0),(.bool false),(.int .u8 0)] [⟨4,⟨4,T4⟩⟩,⟨8,⟨4,T5⟩⟩,⟨12,⟨4,T6⟩⟩,⟨16,⟨4,T7⟩⟩,⟨20,⟨4,T8⟩⟩,⟨24,⟨4,T9⟩⟩,⟨28,⟨4,T10⟩⟩]))⟩,⟨(some 3),none,(.alloc [(.int .i64 0),(.int .i64 0),(.bool false),(.int .u8 0),(.int .i64 0),(.int .i64 0),(.bool false),(.int .u8 0),(.int .i64 0),(.int .i64 0),(.bool false),(.int .u8 0),(.int .i64 0),(.int .i64 0),(.bool false),(.int .u8 0),(.int .i64 0),(.int .i64 0),(.bool false),(.int .u8 0),(.int .i64 0),(.int .i64 0),(.bool false),(.int .u8 0),(.int .i64 0),(.int .i64 0),(.bool false),(.int .u8 0),(.int .i64 0),(.int .i64 0),(.bool false),(.int .u8 0)])⟩,⟨none,none,(.store 32 T3 T11)⟩] [0,2,3])
(.seq
(.seq
(.reg 2 [⟨(some 12),none,(.q (.mov T0))⟩,⟨(some 13),none,(.q (.conv .i64 T12))⟩,⟨(some 14),none,(.q (.bin .geq T13 (.c (.int .i64 8))))⟩] [0,2,3,14])
(.cond T14
(.seq
(.reg 3 [⟨(some 15),none,(.q (.bld [(.int .i64 0),(.int .i64 0),(.bool false),(.int .u8 0)] []))⟩,⟨none,none,(.store 4 T2 T15)⟩] [2])
.ret)
.skip))
(.seq
(.reg 4 [⟨(some 16),none,(.q (.mov T0))⟩,⟨(some 17),none,(.q (.ay8 8 4 T3 T16))⟩,⟨(some 18),none,(.q (.load (some 4) T17))⟩,⟨none,none,(.store 4 T2 T18)⟩] [2])
.ret))))
theorem fok209:FOK Tryz.prog 209 (19,ic209,[(.cell (some 4) 2)]):=.mk (pf:=[]) (an:=[(0,[0,2]),(1,[0,2,3]),(2,[0,2,3,14]),(3,[2]),(4,[2])]) (by kernel_rfl) (ac3 Tryz.func209 (by kernel_rfl) (by kernel_rfl) (by kernel_rfl))
def ic210:IC :=
(.seq
(.reg 0 [oM 12 T1,oM 10 T12] [0,2,3,4,10])
(.block 0
(.loop
(.block 1
(.seq
(.reg 1 [oM 13 T10,oQ 14 (.bin .mul (cI 2) T13),oQ 15 (.bin .add T14 (cI 1)),oM 11 T15] [0,2,3,4,10,11])
(.seq
(.seq
(.reg 2 [oM 16 T11,oM 17 T2,oQ 18 (.bin .geq T16 T17)] [0,2,3,4,10,11,18])
(.cond T18
(.exit 0)
.skip))
(.seq
(.seq
(.an5 3 [oM 19 T11,oQ 20 (.bin .add T19 (cI 1)),oM 21 T2,oQ 22 (.bin .lss T20 T21),oM 23 T22,gQ 24 23 true (.mov T4),gQ 25 23 true (.mov T0),gQ 26 23 true (.mov T3),gQ 27 23 true (.mov T11),gQ 28 23 true (.bin .add T26 T27),gQ 29 23 true (.ab5 1 T25 T28),gQ 30 23 true (.load none T29),gQ 31 23 true (.mov T0),gQ 32 23 true (.mov T3),gQ 33 23 true (.mov T11),gQ 34 23 true (.bin .add T32 T33),gQ 35 23 true (.bin .add T34 (cI 1)),gQ 36 23 true (.ab5 1 T31 T35),gQ 37 23 true (.load none T36),gK 38 23 true (.aj2 T24 [T30,T37]),gQ 39 23 true (.bin .lss T38 (cI 0)),oQ 40 (.pick T23 T39 (cB false))] false [0,2,3,4,10,11,40])
(.cond T40
(.reg 4 [oM 41 T11,oQ 42 (.bin .add T41 (cI 1)),oM 11 T42] [0,2,3,4,10,11])
.skip))
(.seq
(.seq
(.an5 5 [oM 43 T4,oM 44 T0,oM 45 T3,oM 46 T10,oQ 47 (.bin .add T45 T46),oQ 48 (.ab5 1 T44 T47),oQ 49 (.load none T48),oM 50 T0,oM 51 T3,oM 52 T11,oQ 53 (.bin .add T51 T52),oQ 54 (.ab5 1 T50 T53),oQ 55 (.load none T54),oK 56 (.aj2 T43 [T49,T55]),oQ 57 (.bin .lss T56 (cI 0)),oQ 58 (.not T57)] false [0,2,3,4,10,11,58])
(.cond T58
.ret
.skip))
(.seq
(.an5 6 [oM 59 T0,oM 60 T3,oM 61 T10,oQ 62 (.bin .add T60 T61),oM 63 T0,oM 64 T3,oM 65 T11,oQ 66 (.bin .add T64 T65),oM 67 T0,oM 68 T3,oM 69 T11,oQ 70 (.bin .add T68 T69),oQ 71 (.ab5 1 T67 T70),oQ 72 (.load none T71),oM 73 T0,oM 74 T3,oM 75 T10,oQ 76 (.bin .add T74 T75),oQ 77 (.ab5 1 T73 T76),oQ 78 (.load none T77),oQ 79 (.ab5 1 T59 T62),oN (.store 1 T79 T72),oQ 80 (.ab5 1 T63 T66),oN (.store 1 T80 T78)] false [0,2,3,4,11])
(.reg 7 [oM 81 T11,oM 10 T81] [0,2,3,4,10]))))))))))
theorem fok210:FOK Tryz.prog 210 (82,ic210,[]):=ak2 [] Tryz.func210
def ic211:IC :=
(.seq
(.reg 0 [oM 2 (.c (.int .u64 0))] [0])
(.seq
(.reg 1 [oM 3 T0,oQ 4 (.conv .u64 T3),oK 5 (.call 72 [T4]),oQ 6 (.bin .shl (.c (.int .u64 1)) T5),oM 2 T6] [2])
.ret))
theorem fok211:FOK Tryz.prog 211 (7,ic211,[(.t 2)]):=ak2 [] Tryz.func211
def ic212:IC :=
(.seq
(.reg 0 [oM 2 (.c (.int .u64 0))] [0])
(.seq
(.an5 1 [oM 3 T0,oQ 4 (.bd7 T3),oQ 5 (.load none T4),oM 6 T0,oQ 7 (.bd7 T6),oQ 8 (.load none T7),oQ 9 (.bin .shl T8 (.c (.int .u64 13))),oQ 10 (.bin .xor T5 T9),oQ 11 (.bd7 T3),oN (.store 1 T11 T10)] false [0])
(.seq
(.an5 2 [oM 12 T0,oQ 13 (.bd7 T12),oQ 14 (.load none T13),oM 15 T0,oQ 16 (.bd7 T15),oQ 17 (.load none T16),oQ 18 (.bin .shr T17 (.c (.int .u64 7))),oQ 19 (.bin .xor T14 T18),oQ 20 (.bd7 T12),oN (.store 1 T20 T19)] false [0])
(.seq
(.an5 3 [oM 21 T0,oQ 22 (.bd7 T21),oQ 23 (.load none T22),oM 24 T0,oQ 25 (.bd7 T24),oQ 26 (.load none T25),oQ 27 (.bin .shl T26 (.c (.int .u64 17))),oQ 28 (.bin .xor T23 T27),oQ 29 (.bd7 T21),oN (.store 1 T29 T28)] false [0])
(.seq
(.reg 4 [oM 30 T0,oQ 31 (.bd7 T30),oQ 32 (.load none T31),oM 2 T32] [2])
.ret)))))
theorem fok212:FOK Tryz.prog 212 (33,ic212,[(.t 2)]):=ak2 [] Tryz.func212
def ic213:IC :=
(.seq
(.reg 0 [oM 8 (cI 0)] [0,1,2,3])
(.seq
(.reg 1 [oM 9 T0,oM 10 T1,oQ 11 (.bin .sub T10 (cI 1)),oM 12 T1,oM 13 T1,oQ 14 (.bin .add T13 (cI 1)),oM 15 T2,oM 16 T3,oK 17 (.call 214 [T9,T11,T12,T14,T15,T16]),oM 8 T17] [8])
.ret))
theorem fok213:FOK Tryz.prog 213 (18,ic213,[(.t 8)]):=ak2 [] Tryz.func213
def ic214:IC :=
(.seq
(.reg 0 [oM 12 (cI 0)] [0,1,2,3,4,5])
(.seq
(.reg 1 [oM 14 T0,oM 15 T1,oM 16 T2,oM 17 T4,oM 18 T5,oK 19 (.call 241 [T14,T15,T16,T17,T18]),oM 13 T19,oQ 20 (.ext 0 T13),oQ 21 (.ext 1 T13),oM 1 T20,oM 2 T21] [0,1,2,3,4,5])
(.seq
(.reg 2 [oM 23 T0,oM 24 T2,oM 25 T3,oM 26 T4,oM 27 T5,oK 28 (.call 241 [T23,T24,T25,T26,T27]),oM 22 T28,oQ 29 (.ext 0 T22),oQ 30 (.ext 1 T22),oM 2 T29,oM 3 T30] [0,1,2,4,5])
(.seq
(.reg 3 [oM 32 T0,oM 33 T1,oM 34 T2,oM 35 T4,oM 36 T5,oK 37 (.call 241 [T32,T33,T34,T35,T36]),oM 31 T37,oQ 38 (.ext 0 T31),oQ 39 (.ext 1 T31),oM 1 T38,oM 2 T39] [2])
(.seq
(.reg 4 [oM 40 T2,oM 12 T40] [12])
.ret)))))
theorem fok214:FOK Tryz.prog 214 (41,ic214,[(.t 12)]):=ak2 [] Tryz.func214
def ic215:IC :=
(.seq
(.reg 0 [oK 2 (.box T0),oM 4 (.c .aa1)] [1,2,4])
(.seq
(.seq
(.reg 1 [oM 6 T1] [2,4,6])
(.block 0
(.be5 T6 [7]
(.reg 2 [oM 5 T7] [2,5])
(.block 1
(.reg 3 [oQ 8 (.load none T2),oM 9 T5,oK 10 (.ap7 1 1 [(zI 0)] [⟨0,⟨1,T9⟩⟩]),oK 11 (.app 1 T8 T10),oN (.store 1 T2 T11)] [])))))
(.seq
(.reg 4 [oQ 12 (.load none T2),oM 4 T12] [4])
.ret)))
theorem fok215:FOK Tryz.prog 215 (13,ic215,[(.t 4)]):=ak2 [1000010] Tryz.func215
def ic216:IC :=
(.seq
(.reg 0 [⟨(some 4),none,(.ao2 T0)⟩,⟨(some 7),none,(.q (.mov (.c (.bool false))))⟩] [1,2,3,4])
(.seq
(.seq
(.reg 1 [⟨(some 10),none,(.q (.mov T2))⟩,⟨(some 11),none,(.q (.load (some 7) T4))⟩,⟨(some 12),none,(.q (.mov T1))⟩,⟨(some 13),none,(.aj2 T10 [T11,T12])⟩,⟨(some 14),none,(.q (.not T13))⟩] [1,2,3,4,14])
(.cond T14
(.seq
(.reg 2 [⟨(some 7),none,(.q (.mov (.c (.bool false))))⟩] [7])
.ret)
.skip))
(.seq
(.reg 3 [⟨(some 15),none,(.q (.mov T1))⟩,⟨(some 16),none,(.q (.mov T15))⟩,⟨(some 17),(some ⟨16,false⟩),(.q (.ab3 0 T4))⟩,⟨(some 18),(some ⟨16,false⟩),(.q (.load none T17))⟩,⟨(some 19),(some ⟨16,false⟩),(.q (.bin .eql T18 (.c (.int .u8 6))))⟩,⟨(some 20),none,(.q (.pick T16 (.c (.bool true)) T19))⟩,⟨(some 21),none,(.q (.mov T20))⟩,⟨(some 22),(some ⟨21,false⟩),(.q (.ab3 0 T4))⟩,⟨(some 23),(some ⟨21,false⟩),(.q (.load none T22))⟩,⟨(some 24),(some ⟨21,false⟩),(.q (.bin .eql T23 (.c (.int .u8 7))))⟩,⟨(some 25),none,(.q (.pick T21 (.c (.bool true)) T24))⟩,⟨(some 1),none,(.q (.mov T25))⟩] [1,2,3,4])
(.seq
(.seq
(.reg 4 [⟨(some 26),none,(.q (.ab3 6 T4))⟩,⟨(some 27),none,(.q (.load none T26))⟩,⟨(some 28),none,(.q (.len 0 T27))⟩,⟨(some 29),none,(.q (.mov (.c (.int .i64 0))))⟩] [1,2,3,27,28,29])
(.block 0
(.loop
(.seq
(.reg 5 [⟨(some 30),none,(.q (.bin .lss T29 T28))⟩] [1,2,3,27,28,29,30])
(.seq
(.cond T30
.skip
(.exit 0))
(.seq
(.block 1
(.seq
(.reg 6 [⟨(some 31),none,(.q (.ab5 7 T27 T29))⟩,⟨(some 32),none,(.q (.load (some 7) T31))⟩,⟨(some 9),none,(.alloc [(.int .u8 0),(.str []),(.int .u8 0),(.int .i64 0),(.str []),(.str []),.aa1])⟩,⟨none,none,(.store 7 T9 T32)⟩] [1,2,3,9,27,28,29])
(.seq
(.reg 7 [⟨(some 33),none,(.q (.load none T3))⟩,⟨(some 34),none,(.q (.load (some 7) T9))⟩,⟨(some 35),none,(.q (.mov T1))⟩,⟨(some 36),none,(.q (.mov T2))⟩,⟨(some 37),none,(.aj2 T33 [T34,T35,T36])⟩,⟨(some 38),none,(.q (.not T37))⟩] [1,2,3,27,28,29,38])
(.cond T38
(.seq
(.reg 8 [⟨(some 7),none,(.q (.mov (.c (.bool false))))⟩] [7])
.ret)
.skip))))
(.reg 9 [⟨(some 39),none,(.q (.bin .add T29 (.c (.int .i64 1))))⟩,⟨(some 29),none,(.q (.mov T39))⟩] [1,2,3,27,28,29])))))))
(.seq
(.reg 10 [⟨(some 7),none,(.q (.mov (.c (.bool true))))⟩] [7])
.ret)))))
theorem fok216:FOK Tryz.prog 216 (40,ic216,[(.t 7)]):=.mk (pf:=[1000004]) (an:=[(0,[1,2,3,4]),(1,[1,2,3,4,14]),(2,[7]),(3,[1,2,3,4]),(4,[1,2,3,27,28,29]),(5,[1,2,3,27,28,29,30]),(6,[1,2,3,9,27,28,29]),(7,[1,2,3,27,28,29,38]),(8,[7]),(9,[1,2,3,27,28,29]),(10,[7])]) (by kernel_rfl) (ac3 Tryz.func216 (by kernel_rfl) (by kernel_rfl) (by kernel_rfl))
def ic217:IC :=
(.reg 0 [⟨(some 4),none,(.q (.load none T1))⟩,⟨(some 5),none,(.q (.load (some 7) T2))⟩,⟨(some 6),none,(.q (.mov T0))⟩,⟨(some 7),none,(.aj2 T4 [T5,(.c (.bool false)),T6])⟩] [])
theorem fok217:FOK Tryz.prog 217 (8,ic217,[]):=.mk (pf:=[]) (an:=[]) (by kernel_rfl) (ac3 Tryz.func217 (by kernel_rfl) (by kernel_rfl) (by kernel_rfl))
def ic218:IC :=
(.seq
(.reg 0 [oK 1 (.ao2 T0),oK 2 (.alloc [(.str []),(zU 0),(zI 0),(.str []),(.str [])])] [1,2])
(.seq
(.reg 1 [oQ 3 (.ab3 0 T1),oQ 4 (.load none T3),oQ 5 (.ab3 1 T1),oQ 6 (.load (some 3) T5),oK 7 (.call 242 [T4,T6]),oN (.store 5 T2 T7)] [2])
.ret))
theorem fok218:FOK Tryz.prog 218 (8,ic218,[(.cell (some 5) 2)]):=ak2 [1000001] Tryz.func218
def ic219:IC :=
(.seq
(.reg 0 [oK 2 (.ao2 T0),oK 3 (.ao2 T1),oM 4 (cB false)] [2,3])
(.seq
(.seq
(.reg 1 [oQ 6 (.ab3 1 T2),oQ 7 (.load none T6),oQ 8 (.bin .and T7 (.c (zU 7))),oQ 9 (.bin .eql T8 (.c (zU 0))),oM 10 T9,gQ 11 10 false (.ab3 1 T3),gQ 12 10 false (.load none T11),gQ 13 10 false (.bin .and T12 (.c (zU 7))),gQ 14 10 false (.bin .eql T13 (.c (zU 0))),oQ 15 (.pick T10 (cB true) T14)] [2,3,15])
(.cond T15
(.seq
(.reg 2 [oM 4 (cB true)] [4])
.ret)
.skip))
(.seq
(.reg 3 [oQ 16 (.ab3 2 T2),oQ 17 (.load (some 3) T16),oQ 18 (.ab3 2 T3),oQ 19 (.load (some 3) T18),oK 20 (.call 20 [T17,T19]),oM 5 T20] [2,3,5])
(.seq
(.seq
(.reg 4 [oM 21 T5,oQ 22 (.bin .eql T21 (cI 0))] [2,3,5,22])
(.cond T22
(.seq
(.reg 5 [oQ 23 (.ab3 1 T2),oQ 24 (.load none T23),oQ 25 (.ab3 1 T3),oQ 26 (.load none T25),oQ 27 (.bin .and T24 T26),oQ 28 (.bin .and T27 (.c (zU 7))),oQ 29 (.bin .neq T28 (.c (zU 0))),oM 4 T29] [4])
.ret)
.skip))
(.seq
(.an5 6 [oQ 30 (.ab3 1 T2),oQ 31 (.load none T30),oM 32 T5,oQ 33 (.neg T32),oK 34 (.ag4 243 [T33]),oQ 35 (.bin .and T31 T34),oQ 36 (.bin .neq T35 (.c (zU 0))),oM 37 T36,gQ 38 37 false (.ab3 1 T3),gQ 39 37 false (.load none T38),gQ 40 37 false (.mov T5),gK 41 37 false (.ag4 243 [T40]),gQ 42 37 false (.bin .and T39 T41),gQ 43 37 false (.bin .neq T42 (.c (zU 0))),oQ 44 (.pick T37 (cB true) T43),oM 4 T44] false [4])
.ret)))))
theorem fok219:FOK Tryz.prog 219 (45,ic219,[(.t 4)]):=ak2 ([1000002,1000003]++[243]) Tryz.func219 (by kernel_rfl) (by kernel_rfl) (by kernel_rfl) (by kernel_rfl)
def ic220:IC :=
(.seq
(.reg 0 [oM 4 (cI 0)] [0,1])
(.seq
(.seq
(.reg 1 [oM 6 T0,oQ 7 (.len 0 T6),oM 8 (cI 0)] [0,1,7,8])
(.block 0
(.loop
(.seq
(.reg 2 [oQ 9 (.bin .lss T8 T7)] [0,1,7,8,9])
(.seq
(.cond T9
.skip
(.exit 0))
(.seq
(.block 1
(.seq
(.reg 3 [oM 10 T8,oM 5 T10] [0,1,5,7,8])
(.seq
(.reg 4 [oM 11 T1,oM 12 T0,oM 13 T5,oQ 14 (.ab5 1 T12 T13),oQ 15 (.load none T14),oQ 16 (.bin .eql T11 T15)] [0,1,5,7,8,16])
(.cond T16
(.seq
(.reg 5 [oM 17 T5,oM 4 T17] [4])
.ret)
.skip))))
(.reg 6 [oQ 18 (.bin .add T8 (cI 1)),oM 8 T18] [0,1,7,8])))))))
(.seq
(.reg 7 [oM 4 (cI (-1))] [4])
.ret)))
theorem fok220:FOK Tryz.prog 220 (19,ic220,[(.t 4)]):=ak2 [] Tryz.func220
def ic221:IC :=
(.seq
(.reg 0 [⟨(some 2),none,(.q (.mov (.c (.str []))))⟩] [0])
(.seq
(.seq
(.reg 1 [⟨(some 5),none,(.q (.load none (.g 1)))⟩,⟨(some 6),none,(.ax9 T5)⟩] [0,6])
(.block 0
(.loop
(.seq
(.reg 2 [⟨(some 7),none,(.bx8 T6)⟩,⟨(some 8),none,(.q (.ext 0 T7))⟩] [0,6,8])
(.seq
(.cond T8
.skip
(.exit 0))
(.block 1
(.seq
(.reg 3 [⟨(some 9),none,(.eq2 T6)⟩,⟨(some 10),none,(.q (.ext 0 T9))⟩,⟨(some 11),none,(.q (.ext 1 T9))⟩,⟨(some 3),none,(.q (.mov T10))⟩,⟨(some 4),none,(.q (.mov T11))⟩] [0,3,4,6])
(.seq
(.reg 4 [⟨(some 12),none,(.q (.mov T4))⟩,⟨(some 13),none,(.q (.mov T0))⟩,⟨(some 14),none,(.q (.bin .eql T12 T13))⟩] [0,3,6,14])
(.cond T14
(.seq
(.reg 5 [⟨(some 15),none,(.q (.mov T3))⟩,⟨(some 2),none,(.q (.mov T15))⟩] [2])
.ret)
.skip)))))))))
(.seq
(.reg 6 [⟨(some 2),none,(.q (.mov (.c (.str []))))⟩] [2])
.ret)))
theorem fok221:FOK Tryz.prog 221 (16,ic221,[(.t 2)]):=.mk (pf:=[]) (an:=[(0,[0]),(1,[0,6]),(2,[0,6,8]),(3,[0,3,4,6]),(4,[0,3,6,14]),(5,[2]),(6,[2])]) (by kernel_rfl) (ac3 Tryz.func221 (by kernel_rfl) (by kernel_rfl) (by kernel_rfl))
def ic233:IC :=
(.seq
(.reg 0 [oM 3 (cI 0)] [0,1,3])
(.block 0
(.loop
(.seq
(.seq
(.reg 1 [oM 6 T3,oQ 7 (.load none T1),oQ 8 (.len 1 T7),oQ 9 (.bin .lss T6 T8)] [0,1,3,9])
(.cond T9
.skip
(.exit 0)))
(.block 1
(.seq
(.reg 2 [oQ 10 (.load none T1),oM 11 T3,oQ 12 (.fe8 T10 T11),oK 13 (.ag4 234 [T12]),oQ 14 (.bld [(zU 0),(.str [])] [⟨0,⟨1,T13⟩⟩]),oK 4 (.alloc [(zU 0),(.str [])]),oN (.store 2 T4 T14)] [0,1,3,4])
(.seq
(.reg 3 [oM 15 T3,oM 5 T15] [0,1,3,4,5])
(.seq
(.seq
(.reg 4 [oM 16 T3,oQ 17 (.bin .add T16 (cI 1)),oM 3 T17] [0,1,3,4,5])
(.block 2
(.loop
(.seq
(.seq
(.an5 5 [oQ 18 (.ab3 0 T4),oQ 19 (.load none T18),oQ 20 (.bin .geq T19 (.c (zU 4))),oM 21 T20,gQ 22 21 true (.mov T3),gQ 23 21 true (.load none T1),gQ 24 21 true (.len 1 T23),gQ 25 21 true (.bin .lss T22 T24),oQ 26 (.pick T21 T25 (cB false)),oM 27 T26,gQ 28 27 true (.load none T1),gQ 29 27 true (.mov T3),gQ 30 27 true (.fe8 T28 T29),gK 31 27 true (.ag4 234 [T30]),gQ 32 27 true (.ab3 0 T4),gQ 33 27 true (.load none T32),gQ 34 27 true (.bin .eql T31 T33),oQ 35 (.pick T27 T34 (cB false))] false [0,1,3,4,5,35])
(.cond T35
.skip
(.exit 2)))
(.seq
(.block 3
.skip)
(.reg 6 [oM 36 T3,oQ 37 (.bin .add T36 (cI 1)),oM 3 T37] [0,1,3,4,5]))))))
(.seq
(.seq
(.reg 7 [oQ 38 (.ab3 0 T4),oQ 39 (.load none T38),oQ 40 (.bin .geq T39 (.c (zU 4)))] [0,1,3,4,5,40])
(.cond T40
(.reg 8 [oQ 41 (.load none T1),oM 42 T5,oM 43 T3,oQ 44 (.gq9 T41 (some T42) (some T43)),oQ 45 (.ab3 1 T4),oN (.store 1 T45 T44)] [0,1,3,4])
.skip))
(.seq
(.seq
(.reg 9 [oQ 46 (.ab3 0 T4),oQ 47 (.load none T46),oQ 48 (.bin .eql T47 (.c (zU 5)))] [0,1,3,4,48])
(.cond T48
(.reg 10 [oQ 49 (.ab3 1 T4),oQ 50 (.load none T49),oK 51 (.call 235 [T50,(.c (.str [48]))]),oQ 52 (.ab3 1 T4),oN (.store 1 T52 T51)] [0,1,3,4])
.skip))
(.seq
(.reg 11 [oQ 53 (.ab3 0 T4),oQ 54 (.load none T53),oQ 55 (.bin .neq T54 (.c (zU 0))),oM 56 T55,gQ 57 56 true (.mov T0),gQ 58 56 true (.load (some 2) T4),gK 59 56 true (.aj2 T57 [T58]),gQ 60 56 true (.not T59),oQ 61 (.pick T56 T60 (cB false))] [0,1,3,61])
(.cond T61
.ret
.skip))))))))))))
theorem fok233:FOK Tryz.prog 233 (62,ic233,[]):=ak2 ([]++[234]) Tryz.func233 (by kernel_rfl) (by kernel_rfl) (by kernel_rfl) (by kernel_rfl)
def ic234:IC :=
(.seq
(.reg 0 [oM 2 (.c (zU 0))] [0])
(.seq
(.block 0
(.seq
(.reg 1 [oM 4 T0,oQ 5 (.bin .eql T4 (.c (zU 126))),oM 3 T5] [0,3])
(.cond T3
(.seq
(.reg 2 [oM 2 (.c (zU 1))] [2])
.ret)
(.seq
(.reg 3 [oM 7 T0,oQ 8 (.bin .eql T7 (.c (zU 94))),oM 6 T8] [0,6])
(.cond T6
(.seq
(.reg 4 [oM 2 (.c (zU 3))] [2])
.ret)
(.seq
(.reg 5 [oM 10 T0,oQ 11 (.bin .geq T10 (.c (zU 97))),oM 12 T11,gQ 13 12 true (.mov T0),gQ 14 12 true (.bin .leq T13 (.c (zU 122))),oQ 15 (.pick T12 T14 (cB false)),oM 16 T15,gQ 17 16 false (.mov T0),gQ 18 16 false (.bin .geq T17 (.c (zU 65))),gQ 19 16 false (.mov T18),gQ 20 19 true (.mov T0),gQ 21 19 true (.bin .leq T20 (.c (zU 90))),gQ 22 16 false (.pick T19 T21 (cB false)),oQ 23 (.pick T16 (cB true) T22),oM 9 T23] [0,9])
(.cond T9
(.seq
(.reg 6 [oM 2 (.c (zU 4))] [2])
.ret)
(.seq
(.reg 7 [oM 25 T0,oQ 26 (.bin .geq T25 (.c (zU 48))),oM 27 T26,gQ 28 27 true (.mov T0),gQ 29 27 true (.bin .leq T28 (.c (zU 57))),oQ 30 (.pick T27 T29 (cB false)),oM 24 T30] [24])
(.cond T24
(.seq
(.reg 8 [oM 2 (.c (zU 5))] [2])
.ret)
.skip)))))))))
(.seq
(.reg 9 [oM 2 (.c (zU 0))] [2])
.ret)))
theorem fok234:FOK Tryz.prog 234 (31,ic234,[(.t 2)]):=ak2 [] Tryz.func234
end Go.Id.Tryz
