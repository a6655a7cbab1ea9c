/- The compiled codes of functions,written by a program out of the given form. Conditions: none. -/
import Derived.Test.YtlnkchkhffkofaaGreatDoorFwZb
import Derived.Test.YtlnkchkhffkofaaGreatDoorProg
set_option linter.all false
namespace Go.Id.Tryz
open Go Go.Id Go.Proofs
def is3:List Nat:=List.range 292
def ic66:IC :=
(.seq
(.reg 0 [oM 4 (cB false)] [0,1])
(.seq
(.seq
(.reg 1 [oM 6 T0,oQ 7 (.len 0 T6),oM 8 T1,oQ 9 (.len 0 T8),oQ 10 (.bin .neq T7 T9)] [0,1,10])
(.cond T10
(.seq
(.reg 2 [oM 4 (cB false)] [4])
.ret)
.skip))
(.seq
(.seq
(.reg 3 [oM 5 (cI 0)] [0,1,5])
(.block 0
(.loop
(.seq
(.seq
(.reg 4 [oM 11 T5,oM 12 T0,oQ 13 (.len 0 T12),oQ 14 (.bin .lss T11 T13)] [0,1,5,14])
(.cond T14
.skip
(.exit 0)))
(.seq
(.block 1
(.seq
(.an5 6 [oM 17 T0,oM 18 T5,oQ 19 (.ab5 2 T17 T18),oQ 20 (.load (some 2) T19),oM 21 T1,oM 22 T5,oQ 23 (.ab5 2 T21 T22),oQ 24 (.load (some 2) T23),oQ 25 (.eqs [1,1] true true T20 T24)] false [0,1,5,25])
(.cond T25
(.seq
(.reg 7 [oM 4 (cB false)] [4])
.ret)
.skip)))
(.reg 5 [oM 15 T5,oQ 16 (.bin .add T15 (cI 1)),oM 5 T16] [0,1,5]))))))
(.seq
(.reg 8 [oM 4 (cB true)] [4])
.ret))))
theorem fok66:FOK Tryz.prog 66 (26,ic66,[(.t 4)]):=ak2 [] Tryz.func66
def ic67:IC :=
(.seq
(.reg 0 [oM 4 (cI 0)] [0,1])
(.seq
(.reg 1 [oM 5 (cI 0)] [0,1,5])
(.seq
(.seq
(.reg 2 [oM 6 (cI 0)] [0,1,5,6])
(.block 0
(.loop
(.seq
(.seq
(.reg 3 [oM 7 T6,oM 8 T0,oQ 9 (.len 0 T8),oQ 10 (.bin .lss T7 T9),oM 11 T10,gQ 12 11 true (.mov T5),gQ 13 11 true (.mov T1),gQ 14 11 true (.bin .lss T12 T13),oQ 15 (.pick T11 T14 (cB false))] [0,1,5,6,15])
(.cond T15
.skip
(.exit 0)))
(.seq
(.block 1
(.reg 5 [oM 18 T5,oQ 19 (.bin .add T18 (cI 1)),oM 20 T0,oM 21 T6,oQ 22 (.ab5 7 T20 T21),oQ 23 (.ab3 6 T22),oQ 24 (.load none T23),oM 25 T1,oM 26 T5,oQ 27 (.bin .sub T25 T26),oK 28 (.call 67 [T24,T27]),oQ 29 (.bin .add T19 T28),oM 5 T29] [0,1,5,6]))
(.reg 4 [oM 16 T6,oQ 17 (.bin .add T16 (cI 1)),oM 6 T17] [0,1,5,6]))))))
(.seq
(.reg 6 [oM 30 T5,oM 4 T30] [4])
.ret))))
theorem fok67:FOK Tryz.prog 67 (31,ic67,[(.t 4)]):=ak2 [] Tryz.func67
def ic68:IC :=
(.seq
(.reg 0 [⟨(some 1),none,(.ao2 T0)⟩,⟨(some 2),none,(.alloc [(.bool false)])⟩] [1,2])
(.seq
(.block 0
(.seq
(.reg 1 [⟨(some 8),none,(.q (.ab3 0 T1))⟩,⟨(some 9),none,(.q (.load none T8))⟩,⟨(some 10),none,(.call 140 [T9])⟩,⟨(some 11),none,(.q (.not T10))⟩,⟨(some 12),none,(.q (.mov T11))⟩,⟨(some 13),(some ⟨12,false⟩),(.q (.ab3 0 T1))⟩,⟨(some 14),(some ⟨12,false⟩),(.q (.load none T13))⟩,⟨(some 15),(some ⟨12,false⟩),(.call 141 [T14])⟩,⟨(some 16),none,(.q (.pick T12 (.c (.bool true)) T15))⟩,⟨(some 17),none,(.q (.mov T16))⟩,⟨(some 18),(some ⟨17,false⟩),(.q (.ab3 1 T1))⟩,⟨(some 19),(some ⟨17,false⟩),(.q (.load (some 3) T18))⟩,⟨(some 20),(some ⟨17,false⟩),(.call 142 [T19,(.c (.bool false))])⟩,⟨(some 21),(some ⟨17,false⟩),(.q (.not T20))⟩,⟨(some 22),none,(.q (.pick T17 (.c (.bool true)) T21))⟩,⟨(some 7),none,(.q (.mov T22))⟩] [1,2,7])
(.cond T7
(.seq
(.reg 2 [⟨none,none,(.store 1 T2 (.c (.bool false)))⟩] [2])
.ret)
(.seq
(.reg 3 [⟨(some 24),none,(.q (.ab3 4 T1))⟩,⟨(some 25),none,(.q (.load none T24))⟩,⟨(some 26),none,(.call 143 [T25])⟩,⟨(some 27),none,(.q (.bin .eql T26 (.c (.str []))))⟩,⟨(some 28),none,(.q (.mov T27))⟩,⟨(some 29),(some ⟨28,false⟩),(.q (.ab3 5 T1))⟩,⟨(some 30),(some ⟨28,false⟩),(.q (.load none T29))⟩,⟨(some 31),(some ⟨28,false⟩),(.q (.len 1 T30))⟩,⟨(some 32),(some ⟨28,false⟩),(.q (.bin .gtr T31 (.c (.int .i64 64))))⟩,⟨(some 33),none,(.q (.pick T28 (.c (.bool true)) T32))⟩,⟨(some 23),none,(.q (.mov T33))⟩] [1,2,23])
(.cond T23
(.seq
(.reg 4 [⟨none,none,(.store 1 T2 (.c (.bool false)))⟩] [2])
.ret)
(.seq
(.reg 5 [⟨(some 35),none,(.q (.ab3 6 T1))⟩,⟨(some 36),none,(.q (.load none T35))⟩,⟨(some 37),none,(.call 144 [T36,(.c (.int .i64 32)),(.f 95)])⟩,⟨(some 38),none,(.q (.not T37))⟩,⟨(some 39),none,(.q (.mov T38))⟩,⟨(some 40),(some ⟨39,false⟩),(.q (.ab3 9 T1))⟩,⟨(some 41),(some ⟨39,false⟩),(.q (.load none T40))⟩,⟨(some 42),(some ⟨39,false⟩),(.call 144 [T41,(.c (.int .i64 32)),(.f 95)])⟩,⟨(some 43),(some ⟨39,false⟩),(.q (.not T42))⟩,⟨(some 44),none,(.q (.pick T39 (.c (.bool true)) T43))⟩,⟨(some 45),none,(.q (.mov T44))⟩,⟨(some 46),(some ⟨45,false⟩),(.q (.ab3 14 T1))⟩,⟨(some 47),(some ⟨45,false⟩),(.q (.load none T46))⟩,⟨(some 48),(some ⟨45,false⟩),(.call 145 [T47,(.c (.int .i64 32)),(.f 141)])⟩,⟨(some 49),(some ⟨45,false⟩),(.q (.not T48))⟩,⟨(some 50),none,(.q (.pick T45 (.c (.bool true)) T49))⟩,⟨(some 34),none,(.q (.mov T50))⟩] [1,2,34])
(.cond T34
(.seq
(.reg 6 [⟨none,none,(.store 1 T2 (.c (.bool false)))⟩] [2])
.ret)
.skip)))))))
(.seq
(.seq
(.reg 7 [⟨(some 51),none,(.q (.ab3 14 T1))⟩,⟨(some 52),none,(.q (.load none T51))⟩,⟨(some 53),none,(.q (.len 0 T52))⟩,⟨(some 54),none,(.q (.mov (.c (.int .i64 0))))⟩] [1,2,52,53,54])
(.block 1
(.loop
(.seq
(.reg 8 [⟨(some 55),none,(.q (.bin .lss T54 T53))⟩] [1,2,52,53,54,55])
(.seq
(.cond T55
.skip
(.exit 1))
(.seq
(.block 2
(.seq
(.reg 9 [⟨(some 56),none,(.q (.mov T54))⟩,⟨(some 57),none,(.q (.ab5 1 T52 T54))⟩,⟨(some 58),none,(.q (.load none T57))⟩,⟨(some 3),none,(.q (.mov T56))⟩,⟨(some 4),none,(.q (.mov T58))⟩] [1,2,3,4,52,53,54])
(.seq
(.reg 10 [⟨(some 59),none,(.q (.mov T3))⟩,⟨(some 60),none,(.q (.bin .gtr T59 (.c (.int .i64 0))))⟩,⟨(some 61),none,(.q (.mov T60))⟩,⟨(some 62),(some ⟨61,true⟩),(.q (.ab3 14 T1))⟩,⟨(some 63),(some ⟨61,true⟩),(.q (.load none T62))⟩,⟨(some 64),(some ⟨61,true⟩),(.q (.mov T3))⟩,⟨(some 65),(some ⟨61,true⟩),(.q (.bin .sub T64 (.c (.int .i64 1))))⟩,⟨(some 66),(some ⟨61,true⟩),(.q (.ab5 1 T63 T65))⟩,⟨(some 67),(some ⟨61,true⟩),(.q (.load none T66))⟩,⟨(some 68),(some ⟨61,true⟩),(.q (.mov T4))⟩,⟨(some 69),(some ⟨61,true⟩),(.q (.bin .geq T67 T68))⟩,⟨(some 70),none,(.q (.pick T61 T69 (.c (.bool false))))⟩] [1,2,52,53,54,70])
(.cond T70
(.seq
(.reg 11 [⟨none,none,(.store 1 T2 (.c (.bool false)))⟩] [2])
.ret)
.skip))))
(.reg 12 [⟨(some 71),none,(.q (.bin .add T54 (.c (.int .i64 1))))⟩,⟨(some 54),none,(.q (.mov T71))⟩] [1,2,52,53,54])))))))
(.seq
(.seq
(.reg 13 [⟨(some 72),none,(.q (.load (some 15) T1))⟩,⟨(some 73),none,(.call 146 [T72])⟩] [2,73])
(.block 3
(.be5 T73 [74,75]
(.seq
(.reg 14 [⟨(some 5),none,(.alloc [(.int .u8 0)])⟩,⟨none,none,(.store 1 T5 T74)⟩] [2,5,75])
(.reg 15 [⟨(some 6),none,(.q (.mov T75))⟩] [2,5,6]))
(.block 4
(.seq
(.reg 16 [⟨(some 76),none,(.q (.mov T6))⟩,⟨(some 77),none,(.q (.mkf 148 [] [T5]))⟩,⟨(some 78),none,(.call 147 [T76,(.c (.int .i64 32)),T77])⟩,⟨(some 79),none,(.q (.not T78))⟩] [2,79])
(.cond T79
(.seq
(.reg 17 [⟨none,none,(.store 1 T2 (.c (.bool false)))⟩] [])
.ret)
.skip))))))
(.seq
(.reg 18 [⟨none,none,(.store 1 T2 (.c (.bool true)))⟩] [2])
.ret)))))
theorem fok68:FOK Tryz.prog 68 (80,ic68,[(.cell none 2)]):=.mk (pf:=[1000001]) (an:=[(0,[1,2]),(1,[1,2,7]),(2,[2]),(3,[1,2,23]),(4,[2]),(5,[1,2,34]),(6,[2]),(7,[1,2,52,53,54]),(8,[1,2,52,53,54,55]),(9,[1,2,3,4,52,53,54]),(10,[1,2,52,53,54,70]),(11,[2]),(12,[1,2,52,53,54]),(13,[2,73]),(14,[2,5,75]),(15,[2,5,6]),(16,[2,79]),(18,[2])]) (by kernel_rfl) (ac3 Tryz.func68 (by kernel_rfl) (by kernel_rfl) (by kernel_rfl))
def ic69:IC :=
(.seq
(.reg 0 [oK 2 (.box T0),oK 4 (.alloc [(.int .u64 0),(.int .u64 0),(.int .u64 0),(.int .u64 0)])] [1,2,4])
(.seq
(.an5 1 [oM 5 T1,oQ 6 (.bin .quo T5 (cI 64)),oQ 7 (.ay8 4 1 T2 T6),oQ 8 (.load none T7),oM 9 T1,oQ 10 (.bin .rem T9 (cI 64)),oQ 11 (.bin .shl (.c (.int .u64 1)) T10),oQ 12 (.bin .or T8 T11),oQ 13 (.ay8 4 1 T2 T6),oN (.store 1 T13 T12)] false [2,4])
(.seq
(.reg 2 [oQ 14 (.load (some 4) T2),oN (.store 4 T4 T14)] [4])
.ret)))
theorem fok69:FOK Tryz.prog 69 (15,ic69,[(.cell (some 4) 4)]):=ak2 [] Tryz.func69
def ic70:IC :=
(.seq
(.reg 0 [oK 2 (.box T0),oK 3 (.ao2 T1),oK 4 (.alloc [(.int .u64 0),(.int .u64 0),(.int .u64 0),(.int .u64 0)])] [2,3,4])
(.seq
(.seq
(.reg 1 [oM 6 (cI 0)] [2,3,4,6])
(.block 0
(.loop
(.seq
(.reg 2 [oQ 7 (.bin .lss T6 (cI 4))] [2,3,4,6,7])
(.seq
(.cond T7
.skip
(.exit 0))
(.seq
(.block 1
(.seq
(.reg 3 [oM 8 T6,oM 5 T8] [2,3,4,5,6])
(.an5 4 [oM 9 T5,oQ 10 (.ay8 4 1 T2 T9),oQ 11 (.load none T10),oM 12 T5,oQ 13 (.ay8 4 1 T3 T12),oQ 14 (.load none T13),oQ 15 (.bin .or T11 T14),oQ 16 (.ay8 4 1 T2 T9),oN (.store 1 T16 T15)] false [2,3,4,6])))
(.reg 5 [oQ 17 (.bin .add T6 (cI 1)),oM 6 T17] [2,3,4,6])))))))
(.seq
(.reg 6 [oQ 18 (.load (some 4) T2),oN (.store 4 T4 T18)] [4])
.ret)))
theorem fok70:FOK Tryz.prog 70 (19,ic70,[(.cell (some 4) 4)]):=ak2 [1000003] Tryz.func70
def ic71:IC :=
(.seq
(.reg 0 [oM 10 (cB true)] [0,1,2,3,4,10])
(.seq
(.reg 1 [oM 11 (cB true)] [0,1,2,3,4,10,11])
(.block 0
(.loop
(.block 1
(.seq
(.reg 2 [oM 21 T2,oM 22 T1,oQ 23 (.bin .sub T21 T22),oM 12 T23] [0,1,2,3,4,10,11,12])
(.seq
(.seq
(.reg 3 [oM 24 T12,oQ 25 (.bin .leq T24 (cI 12))] [0,1,2,3,4,10,11,12,25])
(.cond T25
(.seq
(.reg 4 [oM 26 T0,oM 27 T1,oM 28 T2,oM 29 T4,oK 30 (.call 150 [T26,T27,T28,T29])] [])
.ret)
.skip))
(.seq
(.seq
(.reg 5 [oM 31 T3,oQ 32 (.bin .eql T31 (cI 0))] [0,1,2,3,4,10,11,12,32])
(.cond T32
(.seq
(.reg 6 [oM 33 T0,oM 34 T1,oM 35 T2,oM 36 T4,oK 37 (.call 151 [T33,T34,T35,T36])] [])
.ret)
.skip))
(.seq
(.seq
(.reg 7 [oM 38 T10,oQ 39 (.not T38)] [0,1,2,3,4,10,11,12,39])
(.cond T39
(.seq
(.reg 8 [oM 40 T0,oM 41 T1,oM 42 T2,oM 43 T4,oK 44 (.call 152 [T40,T41,T42,T43])] [0,1,2,3,4,10,11,12])
(.reg 9 [oM 45 T3,oQ 46 (.bin .sub T45 (cI 1)),oM 3 T46] [0,1,2,3,4,10,11,12]))
.skip))
(.seq
(.reg 10 [oM 48 T0,oM 49 T1,oM 50 T2,oM 51 T4,oK 52 (.call 153 [T48,T49,T50,T51]),oM 47 T52,oQ 53 (.ext 0 T47),oQ 54 (.ext 1 T47),oM 13 T53,oM 14 T54] [0,1,2,3,4,10,11,12,13,14])
(.seq
(.seq
(.reg 11 [oM 55 T14,oQ 56 (.bin .eql T55 (cI 2))] [0,1,2,3,4,10,11,12,13,14,56])
(.cond T56
(.seq
(.reg 12 [oM 57 T0,oM 58 T1,oM 59 T2,oM 60 T4,oK 61 (.call 154 [T57,T58,T59,T60])] [0,1,2,3,4,10,11,12,13])
(.seq
(.reg 13 [oM 62 T2,oQ 63 (.bin .sub T62 (cI 1)),oM 64 T13,oM 65 T1,oQ 66 (.bin .sub T64 T65),oQ 67 (.bin .sub T63 T66),oM 13 T67] [0,1,2,3,4,10,11,12,13])
(.reg 14 [oM 14 (cI 1)] [0,1,2,3,4,10,11,12,13,14])))
.skip))
(.seq
(.seq
(.reg 15 [oM 68 T10,oM 69 T68,gQ 70 69 true (.mov T11),oQ 71 (.pick T69 T70 (cB false)),oM 72 T71,gQ 73 72 true (.mov T14),gQ 74 72 true (.bin .eql T73 (cI 1)),oQ 75 (.pick T72 T74 (cB false))] [0,1,2,3,4,10,11,12,13,75])
(.cond T75
(.seq
(.reg 16 [oM 76 T0,oM 77 T1,oM 78 T2,oM 79 T4,oK 80 (.call 155 [T76,T77,T78,T79])] [0,1,2,3,4,10,11,12,13,80])
(.cond T80
.ret
.skip))
.skip))
(.seq
(.seq
(.an5 17 [oM 81 T1,oQ 82 (.bin .gtr T81 (cI 0)),oM 83 T82,gQ 84 83 true (.mov T4),gQ 85 83 true (.mov T0),gQ 86 83 true (.mov T1),gQ 87 83 true (.bin .sub T86 (cI 1)),gQ 88 83 true (.ab5 1 T85 T87),gQ 89 83 true (.load none T88),gQ 90 83 true (.mov T0),gQ 91 83 true (.mov T13),gQ 92 83 true (.ab5 1 T90 T91),gQ 93 83 true (.load none T92),gK 94 83 true (.aj2 T84 [T89,T93]),gQ 95 83 true (.bin .lss T94 (cI 0)),gQ 96 83 true (.not T95),oQ 97 (.pick T83 T96 (cB false))] false [0,1,2,3,4,10,11,12,13,97])
(.cond T97
(.seq
(.reg 18 [oM 98 T0,oM 99 T1,oM 100 T2,oM 101 T13,oM 102 T4,oK 103 (.call 156 [T98,T99,T100,T101,T102]),oM 15 T103] [0,2,3,4,10,11,15])
(.seq
(.reg 19 [oM 104 T15,oM 1 T104] [0,1,2,3,4,10,11])
(.exit 1)))
.skip))
(.seq
(.reg 20 [oM 106 T0,oM 107 T1,oM 108 T2,oM 109 T13,oM 110 T4,oK 111 (.call 157 [T106,T107,T108,T109,T110]),oM 105 T111,oQ 112 (.ext 0 T105),oQ 113 (.ext 1 T105),oM 16 T112,oM 17 T113] [0,1,2,3,4,12,16,17])
(.seq
(.reg 21 [oM 114 T17,oM 11 T114] [0,1,2,3,4,11,12,16])
(.seq
(.reg 22 [oM 115 T16,oM 116 T1,oQ 117 (.bin .sub T115 T116),oM 118 T2,oM 119 T16,oQ 120 (.bin .sub T118 T119),oM 18 T117,oM 19 T120] [0,1,2,3,4,11,12,16,18,19])
(.seq
(.reg 23 [oM 121 T12,oQ 122 (.bin .quo T121 (cI 8)),oM 20 T122] [0,1,2,3,4,11,16,18,19,20])
(.seq
(.reg 24 [oM 123 T18,oM 124 T19,oQ 125 (.bin .lss T123 T124)] [0,1,2,3,4,11,16,18,19,20,125])
(.cond T125
(.seq
(.reg 25 [oM 126 T18,oM 127 T20,oQ 128 (.bin .geq T126 T127),oM 10 T128] [0,1,2,3,4,10,11,16])
(.seq
(.reg 26 [oM 129 T0,oM 130 T1,oM 131 T16,oM 132 T3,oM 133 T4,oK 134 (.call 71 [T129,T130,T131,T132,T133])] [0,2,3,4,10,11,16])
(.reg 27 [oM 135 T16,oQ 136 (.bin .add T135 (cI 1)),oM 1 T136] [0,1,2,3,4,10,11])))
(.seq
(.reg 28 [oM 137 T19,oM 138 T20,oQ 139 (.bin .geq T137 T138),oM 10 T139] [0,1,2,3,4,10,11,16])
(.seq
(.reg 29 [oM 140 T0,oM 141 T16,oQ 142 (.bin .add T141 (cI 1)),oM 143 T2,oM 144 T3,oM 145 T4,oK 146 (.call 71 [T140,T142,T143,T144,T145])] [0,1,3,4,10,11,16])
(.reg 30 [oM 147 T16,oM 2 T147] [0,1,2,3,4,10,11]))))))))))))))))))))))
theorem fok71:FOK Tryz.prog 71 (148,ic71,[]):=ak2 [] Tryz.func71
def ic72:IC :=
(.seq
(.reg 0 [oM 2 (cI 0)] [0])
(.seq
(.cond (cB false)
(.seq
(.reg 1 [oM 3 T0,oQ 4 (.conv .u32 T3),oK 5 (.call 158 [T4]),oM 2 T5] [2])
.ret)
.skip)
(.seq
(.reg 2 [oM 6 T0,oK 7 (.call 159 [T6]),oM 2 T7] [2])
.ret)))
theorem fok72:FOK Tryz.prog 72 (8,ic72,[(.t 2)]):=ak2 [] Tryz.func72
def ic73:IC :=
(.seq
(.reg 0 [oM 2 (cB false)] [0])
(.seq
(.reg 1 [oM 3 T0,oM 4 T0,oQ 5 (.bin .neq T3 T4),oM 2 T5] [2])
.ret))
theorem fok73:FOK Tryz.prog 73 (6,ic73,[(.t 2)]):=ak2 [] Tryz.func73
def ic74:IC :=
(.seq
(.reg 0 [oM 2 (.c .aa1)] [0])
(.seq
(.reg 1 [oM 4 T0,oK 5 (.call 160 [T4]),oM 3 T5] [3])
(.seq
(.reg 2 [oM 6 T3,oK 7 (.call 50 [T6])] [3])
(.seq
(.reg 3 [oM 8 T3,oM 2 T8] [2])
.ret))))
theorem fok74:FOK Tryz.prog 74 (9,ic74,[(.t 2)]):=ak2 [] Tryz.func74
def ic75:IC :=
(.seq
(.reg 0 [oK 1 (.ao2 T0),oM 2 (.c .af5)] [1])
(.seq
(.reg 1 [oQ 3 (.mkf 161 [] [T1]),oM 2 T3] [2])
.ret))
theorem fok75:FOK Tryz.prog 75 (4,ic75,[(.t 2)]):=ak2 [1000001] Tryz.func75
def ic76:IC :=
(.seq
(.reg 0 [oM 4 (cI 0)] [0,1])
(.seq
(.seq
(.reg 1 [oM 6 T0,oQ 7 (.len 0 T6),oM 8 (cI 0)] [0,1,7,8])
(.block 0
(.loop
(.seq
(.reg 2 [oQ 9 (.bin .lss T8 T7)] [0,1,7,8,9])
(.seq
(.cond T9
.skip
(.exit 0))
(.seq
(.block 1
(.seq
(.reg 3 [oM 10 T8,oM 5 T10] [0,1,5,7,8])
(.seq
(.reg 4 [oM 11 T1,oM 12 T0,oM 13 T5,oQ 14 (.ab5 1 T12 T13),oQ 15 (.load none T14),oK 16 (.aj2 T11 [T15])] [0,1,5,7,8,16])
(.cond T16
(.seq
(.reg 5 [oM 17 T5,oM 4 T17] [4])
.ret)
.skip))))
(.reg 6 [oQ 18 (.bin .add T8 (cI 1)),oM 8 T18] [0,1,7,8])))))))
(.seq
(.reg 7 [oM 4 (cI (-1))] [4])
.ret)))
theorem fok76:FOK Tryz.prog 76 (19,ic76,[(.t 4)]):=ak2 [] Tryz.func76
def ic77:IC :=
(.seq
(.reg 0 [oK 3 (.ao2 T0),oM 4 (cB false)] [1,2,3])
(.seq
(.reg 1 [oQ 5 (.load none T1),oQ 6 (.mkf 79 [] [T2,T3]),oK 7 (.call 78 [T5,T6]),oQ 8 (.not T7),oM 4 T8] [4])
.ret))
theorem fok77:FOK Tryz.prog 77 (9,ic77,[(.t 4)]):=ak2 [1000003] Tryz.func77
def ic78:IC :=
(.seq
(.reg 0 [oM 4 (cB false)] [0,1])
(.seq
(.reg 1 [oM 5 T0,oM 6 T1,oK 7 (.call 76 [T5,T6]),oQ 8 (.bin .geq T7 (cI 0)),oM 4 T8] [4])
.ret))
theorem fok78:FOK Tryz.prog 78 (9,ic78,[(.t 4)]):=ak2 [] Tryz.func78
def ic79:IC :=
(.seq
(.reg 0 [oM 4 (cB false)] [0,1,2])
(.seq
(.reg 1 [oQ 5 (.load none T1),oQ 6 (.load none T2),oM 7 T0,oK 8 (.aj2 T5 [T6,T7]),oM 4 T8] [4])
.ret))
theorem fok79:FOK Tryz.prog 79 (9,ic79,[(.t 4)]):=ak2 [] Tryz.func79
def ic81:IC :=
(.seq
(.reg 0 [⟨(some 4),none,(.q (.mov (.c (.bool false))))⟩] [0,1])
(.seq
(.reg 1 [⟨(some 5),none,(.q (.mov T0))⟩,⟨(some 6),none,(.q (.mov T1))⟩,⟨(some 7),none,(.call 162 [T5,T6])⟩,⟨(some 8),none,(.q (.bin .geq T7 (.c (.int .i64 0))))⟩,⟨(some 4),none,(.q (.mov T8))⟩] [4])
.ret))
theorem fok81:FOK Tryz.prog 81 (9,ic81,[(.t 4)]):=.mk (pf:=[]) (an:=[(0,[0,1]),(1,[4])]) (by kernel_rfl) (ac3 Tryz.func81 (by kernel_rfl) (by kernel_rfl) (by kernel_rfl))
def ic82:IC :=
(.seq
(.reg 0 [oK 2 (.ao2 T0),oM 3 (cB false)] [1,2])
(.seq
(.reg 1 [oQ 4 (.load (some 7) T2),oK 5 (.call 84 [T4]),oQ 6 (.mkf 85 [] [T1]),oK 7 (.call 83 [T5,T6]),oM 3 T7] [3])
.ret))
theorem fok82:FOK Tryz.prog 82 (8,ic82,[(.t 3)]):=ak2 [1000002] Tryz.func82
def ic83:IC :=
(.seq
(.reg 0 [⟨(some 4),none,(.q (.mov (.c (.bool false))))⟩] [0,1])
(.seq
(.reg 1 [⟨(some 5),none,(.q (.mov T0))⟩,⟨(some 6),none,(.q (.mov T1))⟩,⟨(some 7),none,(.call 163 [T5,T6])⟩,⟨(some 8),none,(.q (.bin .geq T7 (.c (.int .i64 0))))⟩,⟨(some 4),none,(.q (.mov T8))⟩] [4])
.ret))
theorem fok83:FOK Tryz.prog 83 (9,ic83,[(.t 4)]):=.mk (pf:=[]) (an:=[(0,[0,1]),(1,[4])]) (by kernel_rfl) (ac3 Tryz.func83 (by kernel_rfl) (by kernel_rfl) (by kernel_rfl))
def ic84:IC :=
(.seq
(.reg 0 [oK 1 (.ao2 T0),oM 2 (.c .aa1)] [1,2])
(.seq
(.reg 1 [oK 3 (.alloc [.aa1])] [1,2,3])
(.seq
(.seq
(.reg 2 [oQ 5 (.load (some 7) T1),oK 6 (.call 164 [T5])] [2,3,6])
(.block 0
(.be5 T6 [7,8]
(.reg 3 [oK 4 (.alloc [(zU 0),(.str []),(zU 0),(zI 0),(.str []),(.str []),.aa1]),oN (.store 7 T4 T7)] [3,4])
(.block 1
(.seq
(.reg 4 [oQ 9 (.ab3 0 T4),oQ 10 (.load none T9),oQ 11 (.bin .eql T10 (.c (zU 1)))] [3,4,11])
(.cond T11
(.reg 5 [oQ 12 (.load none T3),oQ 13 (.ab3 1 T4),oQ 14 (.load (some 5) T13),oK 15 (.ap7 5 1 [(.str []),(zU 0),(zI 0),(.str []),(.str [])] [⟨0,⟨5,T14⟩⟩]),oK 16 (.app 5 T12 T15),oN (.store 1 T3 T16)] [])
.skip))))))
(.seq
(.reg 6 [oQ 17 (.load none T3),oM 2 T17] [2])
.ret))))
theorem fok84:FOK Tryz.prog 84 (18,ic84,[(.t 2)]):=ak2 [1000001,1000015] Tryz.func84
def ic85:IC :=
(.seq
(.reg 0 [oK 2 (.ao2 T0),oM 3 (cB false)] [1,2])
(.seq
(.reg 1 [oQ 4 (.load (some 15) T1),oQ 5 (.load (some 5) T2),oK 6 (.call 86 [T4,T5]),oM 3 T6] [3])
.ret))
theorem fok85:FOK Tryz.prog 85 (7,ic85,[(.t 3)]):=ak2 [1000002] Tryz.func85
def ic86:IC :=
(.seq
(.reg 0 [oK 2 (.ao2 T0),oK 3 (.ao2 T1),oM 4 (cB false)] [2,3])
(.seq
(.seq
(.reg 1 [oQ 5 (.load (some 15) T2),oQ 6 (.load (some 5) T3),oK 7 (.call 165 [T5,T6]),oM 8 T7,gQ 9 8 false (.ab3 6 T2),gQ 10 8 false (.load none T9),gQ 11 8 false (.mkf 166 [] [T3]),gK 12 8 false (.call 83 [T10,T11]),oQ 13 (.pick T8 (cB true) T12)] [2,3,13])
(.cond T13
(.seq
(.reg 2 [oM 4 (cB true)] [4])
.ret)
.skip))
(.seq
(.reg 3 [oQ 14 (.ab3 1 T3),oQ 15 (.load none T14),oQ 16 (.bin .eql T15 (.c (zU 0))),oM 17 T16,gQ 18 17 true (.ab3 14 T2),gQ 19 17 true (.load none T18),gQ 20 17 true (.ab3 0 T3),gQ 21 17 true (.load none T20),gK 22 17 true (.call 168 [T19,T21]),oQ 23 (.pick T17 T22 (cB false)),oM 4 T23] [4])
.ret)))
theorem fok86:FOK Tryz.prog 86 (24,ic86,[(.t 4)]):=ak2 [1000002,1000003] Tryz.func86
def ic95:IC :=
(.seq
(.reg 0 [⟨(some 1),none,(.ao2 T0)⟩,⟨(some 2),none,(.q (.mov (.c (.bool false))))⟩] [1])
(.seq
(.block 0
(.seq
(.reg 1 [⟨(some 4),none,(.q (.ab3 0 T1))⟩,⟨(some 5),none,(.q (.load none T4))⟩,⟨(some 6),none,(.call 140 [T5])⟩,⟨(some 7),none,(.q (.not T6))⟩,⟨(some 8),none,(.q (.mov T7))⟩,⟨(some 9),(some ⟨8,false⟩),(.q (.ab3 1 T1))⟩,⟨(some 10),(some ⟨8,false⟩),(.q (.load none T9))⟩,⟨(some 11),(some ⟨8,false⟩),(.call 170 [T10])⟩,⟨(some 12),(some ⟨8,false⟩),(.q (.not T11))⟩,⟨(some 13),none,(.q (.pick T8 (.c (.bool true)) T12))⟩,⟨(some 3),none,(.q (.mov T13))⟩] [1,3])
(.cond T3
(.seq
(.reg 2 [⟨(some 2),none,(.q (.mov (.c (.bool false))))⟩] [2])
.ret)
(.seq
(.reg 3 [⟨(some 15),none,(.q (.ab3 1 T1))⟩,⟨(some 16),none,(.q (.load none T15))⟩,⟨(some 17),none,(.q (.bin .eql T16 (.c (.int .u8 0))))⟩,⟨(some 14),none,(.q (.mov T17))⟩] [1,14])
(.cond T14
(.seq
(.reg 4 [⟨(some 18),none,(.q (.ab3 2 T1))⟩,⟨(some 19),none,(.q (.load (some 3) T18))⟩,⟨(some 20),none,(.q (.bld [(.int .i64 0),(.str []),(.str [])] []))⟩,⟨(some 21),none,(.q (.eqs [1,2,2] true false T19 T20))⟩,⟨(some 2),none,(.q (.mov T21))⟩] [2])
.ret)
.skip)))))
(.seq
(.reg 5 [⟨(some 22),none,(.q (.ab3 0 T1))⟩,⟨(some 23),none,(.q (.load none T22))⟩,⟨(some 24),none,(.call 141 [T23])⟩,⟨(some 25),none,(.q (.not T24))⟩,⟨(some 26),none,(.q (.mov T25))⟩,⟨(some 27),(some ⟨26,true⟩),(.q (.ab3 2 T1))⟩,⟨(some 28),(some ⟨26,true⟩),(.q (.load (some 3) T27))⟩,⟨(some 29),(some ⟨26,true⟩),(.call 142 [T28,(.c (.bool true))])⟩,⟨(some 30),none,(.q (.pick T26 T29 (.c (.bool false))))⟩,⟨(some 2),none,(.q (.mov T30))⟩] [2])
.ret)))
theorem fok95:FOK Tryz.prog 95 (31,ic95,[(.t 2)]):=.mk (pf:=[1000001]) (an:=[(0,[1]),(1,[1,3]),(2,[2]),(3,[1,14]),(4,[2]),(5,[2])]) (by kernel_rfl) (ac3 Tryz.func95 (by kernel_rfl) (by kernel_rfl) (by kernel_rfl))
def ic100:IC :=
(.seq
(.reg 0 [⟨(some 2),none,(.q (.mov (.c .ae4)))⟩,⟨(some 3),none,(.q (.mov (.c (.int .i64 0))))⟩] [0])
(.seq
(.seq
(.reg 1 [⟨(some 11),none,(.q (.mov T0))⟩,⟨(some 12),none,(.q (.ch2 (.pointer 74) false T11))⟩] [0,12])
(.cond T12
(.seq
(.reg 2 [⟨(some 2),none,(.q (.mov (.c .ae4)))⟩,⟨(some 3),none,(.q (.mov (.c (.int .i64 2))))⟩] [2,3])
.ret)
.skip))
(.seq
(.reg 3 [⟨(some 13),none,.az2⟩,⟨(some 14),none,.az2⟩,⟨(some 15),none,.az2⟩,⟨(some 16),none,(.q (.bld [.aa1,.ac9,.ac9,.ac9] [⟨1,⟨1,T13⟩⟩,⟨2,⟨1,T14⟩⟩,⟨3,⟨1,T15⟩⟩]))⟩,⟨(some 17),none,(.box T16)⟩,⟨(some 4),none,(.q (.mov T17))⟩] [0,4])
(.seq
(.seq
(.reg 4 [⟨(some 18),none,(.q (.mov T0))⟩,⟨(some 19),none,(.call 28 [T18])⟩,⟨(some 20),none,(.q (.mov (.c (.int .i64 0))))⟩] [0,4,19,20])
(.block 0
(.loop
(.seq
(.reg 5 [⟨(some 21),none,(.q (.bin .lss T20 T19))⟩] [0,4,19,20,21])
(.seq
(.cond T21
.skip
(.exit 0))
(.seq
(.block 1
(.seq
(.reg 6 [⟨(some 22),none,(.q (.mov T20))⟩,⟨(some 5),none,(.q (.mov T22))⟩] [0,4,5,19,20])
(.seq
(.reg 7 [⟨(some 24),none,(.q (.mov T0))⟩,⟨(some 25),none,(.q (.mov T5))⟩,⟨(some 26),none,(.call 19 [T24,T25])⟩,⟨(some 23),none,(.q (.mov T26))⟩,⟨(some 27),none,(.q (.ext 0 T23))⟩,⟨(some 28),none,(.q (.ext 1 T23))⟩,⟨(some 6),none,(.alloc [(.str []),(.int .i64 0),(.str []),(.str []),(.int .u8 0),(.str []),.aa1,.aa1,.aa1,.aa1,.aa1,.aa1,.aa1,.aa1,.aa1])⟩,⟨none,none,(.store 15 T6 T27)⟩,⟨(some 7),none,(.q (.mov T28))⟩] [0,4,5,6,7,19,20])
(.seq
(.seq
(.reg 8 [⟨(some 29),none,(.q (.mov T7))⟩,⟨(some 30),none,(.q (.bin .neq T29 (.c (.int .i64 0))))⟩] [0,4,5,6,7,19,20,30])
(.cond T30
(.seq
(.reg 9 [⟨(some 31),none,(.q (.mov T7))⟩,⟨(some 2),none,(.q (.mov (.c .ae4)))⟩,⟨(some 3),none,(.q (.mov T31))⟩] [2,3])
.ret)
.skip))
(.seq
(.an5 10 [⟨(some 32),none,(.q (.mov T4))⟩,⟨(some 33),none,(.q (.mov T4))⟩,⟨(some 34),none,(.q (.bd7 T33))⟩,⟨(some 35),none,(.q (.ab3 0 T34))⟩,⟨(some 36),none,(.q (.load none T35))⟩,⟨(some 37),none,(.q (.load (some 15) T6))⟩,⟨(some 38),none,(.ap7 15 1 [(.str []),(.int .i64 0),(.str []),(.str []),(.int .u8 0),(.str []),.aa1,.aa1,.aa1,.aa1,.aa1,.aa1,.aa1,.aa1,.aa1] [⟨0,⟨15,T37⟩⟩])⟩,⟨(some 39),none,(.app 15 T36 T38)⟩,⟨(some 40),none,(.q (.bd7 T32))⟩,⟨(some 41),none,(.q (.ab3 0 T40))⟩,⟨none,none,(.store 1 T41 T39)⟩] true [0,4,5,6,19,20])
(.seq
(.an5 11 [⟨(some 42),none,(.q (.mov T4))⟩,⟨(some 43),none,(.q (.bd7 T42))⟩,⟨(some 44),none,(.q (.ab3 2 T43))⟩,⟨(some 45),none,(.q (.load none T44))⟩,⟨(some 46),none,(.q (.ab3 0 T6))⟩,⟨(some 47),none,(.q (.load none T46))⟩,⟨(some 48),none,(.q (.mov T4))⟩,⟨(some 49),none,(.q (.bd7 T48))⟩,⟨(some 50),none,(.q (.ab3 2 T49))⟩,⟨(some 51),none,(.q (.load none T50))⟩,⟨(some 52),none,(.q (.ab3 0 T6))⟩,⟨(some 53),none,(.q (.load none T52))⟩,⟨(some 54),none,(.q (.lkp 2 .aa1 false T51 T53))⟩,⟨(some 55),none,(.q (.mov T5))⟩,⟨(some 56),none,(.ap7 1 1 [(.int .i64 0)] [⟨0,⟨1,T55⟩⟩])⟩,⟨(some 57),none,(.app 1 T54 T56)⟩,⟨none,none,(.bx7 2 T45 T47 T57)⟩] true [0,4,5,6,19,20])
(.seq
(.seq
(.reg 12 [⟨(some 58),none,(.q (.load (some 15) T6))⟩,⟨(some 59),none,(.call 172 [T58])⟩,⟨(some 60),none,(.ax9 T59)⟩] [0,4,5,6,19,20,60])
(.block 2
(.loop
(.seq
(.reg 13 [⟨(some 61),none,(.bx8 T60)⟩,⟨(some 62),none,(.q (.ext 0 T61))⟩] [0,4,5,6,19,20,60,62])
(.seq
(.cond T62
.skip
(.exit 2))
(.block 3
(.seq
(.reg 14 [⟨(some 63),none,(.eq2 T60)⟩,⟨(some 64),none,(.q (.ext 0 T63))⟩,⟨(some 8),none,(.q (.mov T64))⟩] [0,4,5,6,8,19,20,60])
(.an5 15 [⟨(some 65),none,(.q (.mov T4))⟩,⟨(some 66),none,(.q (.bd7 T65))⟩,⟨(some 67),none,(.q (.ab3 1 T66))⟩,⟨(some 68),none,(.q (.load none T67))⟩,⟨(some 69),none,(.q (.mov T8))⟩,⟨(some 70),none,(.q (.mov T4))⟩,⟨(some 71),none,(.q (.bd7 T70))⟩,⟨(some 72),none,(.q (.ab3 1 T71))⟩,⟨(some 73),none,(.q (.load none T72))⟩,⟨(some 74),none,(.q (.mov T8))⟩,⟨(some 75),none,(.q (.lkp 2 .aa1 false T73 T74))⟩,⟨(some 76),none,(.q (.mov T5))⟩,⟨(some 77),none,(.ap7 1 1 [(.int .i64 0)] [⟨0,⟨1,T76⟩⟩])⟩,⟨(some 78),none,(.app 1 T75 T77)⟩,⟨none,none,(.bx7 2 T68 T69 T78)⟩] true [0,4,5,6,19,20,60]))))))))
(.seq
(.reg 16 [⟨(some 79),none,(.q (.ab3 9 T6))⟩,⟨(some 80),none,(.q (.load none T79))⟩,⟨(some 81),none,(.q (.len 0 T80))⟩,⟨(some 82),none,(.q (.mov (.c (.int .i64 0))))⟩] [0,4,5,19,20,80,81,82])
(.block 4
(.loop
(.seq
(.reg 17 [⟨(some 83),none,(.q (.bin .lss T82 T81))⟩] [0,4,5,19,20,80,81,82,83])
(.seq
(.cond T83
.skip
(.exit 4))
(.seq
(.block 5
(.seq
(.reg 18 [⟨(some 84),none,(.q (.ab5 5 T80 T82))⟩,⟨(some 85),none,(.q (.load (some 5) T84))⟩,⟨(some 10),none,(.alloc [(.str []),(.int .u8 0),(.int .i64 0),(.str []),(.str [])])⟩,⟨none,none,(.store 5 T10 T85)⟩] [0,4,5,10,19,20,80,81,82])
(.seq
(.an5 19 [⟨(some 86),none,(.q (.mov T4))⟩,⟨(some 87),none,(.q (.bd7 T86))⟩,⟨(some 88),none,(.q (.ab3 3 T87))⟩,⟨(some 89),none,(.q (.load none T88))⟩,⟨(some 90),none,(.q (.ab3 0 T10))⟩,⟨(some 91),none,(.q (.load none T90))⟩,⟨(some 92),none,(.q (.lkp 2 .aa1 false T89 T91))⟩,⟨(some 93),none,(.q (.mov T5))⟩,⟨(some 94),none,(.call 111 [T92,T93])⟩,⟨(some 95),none,(.q (.not T94))⟩] false [0,4,5,10,19,20,80,81,82,95])
(.cond T95
(.an5 20 [⟨(some 96),none,(.q (.mov T4))⟩,⟨(some 97),none,(.q (.bd7 T96))⟩,⟨(some 98),none,(.q (.ab3 3 T97))⟩,⟨(some 99),none,(.q (.load none T98))⟩,⟨(some 100),none,(.q (.ab3 0 T10))⟩,⟨(some 101),none,(.q (.load none T100))⟩,⟨(some 102),none,(.q (.mov T4))⟩,⟨(some 103),none,(.q (.bd7 T102))⟩,⟨(some 104),none,(.q (.ab3 3 T103))⟩,⟨(some 105),none,(.q (.load none T104))⟩,⟨(some 106),none,(.q (.ab3 0 T10))⟩,⟨(some 107),none,(.q (.load none T106))⟩,⟨(some 108),none,(.q (.lkp 2 .aa1 false T105 T107))⟩,⟨(some 109),none,(.q (.mov T5))⟩,⟨(some 110),none,(.ap7 1 1 [(.int .i64 0)] [⟨0,⟨1,T109⟩⟩])⟩,⟨(some 111),none,(.app 1 T108 T110)⟩,⟨none,none,(.bx7 2 T99 T101 T111)⟩] true [0,4,5,19,20,80,81,82])
.skip))))
(.reg 21 [⟨(some 112),none,(.q (.bin .add T82 (.c (.int .i64 1))))⟩,⟨(some 82),none,(.q (.mov T112))⟩] [0,4,5,19,20,80,81,82]))))))))))))))
(.reg 22 [⟨(some 113),none,(.q (.bin .add T20 (.c (.int .i64 1))))⟩,⟨(some 20),none,(.q (.mov T113))⟩] [0,4,19,20])))))))
(.seq
(.reg 23 [⟨(some 114),none,(.q (.mov T4))⟩,⟨(some 2),none,(.q (.mov T114))⟩,⟨(some 3),none,(.q (.mov (.c (.int .i64 0))))⟩] [2,3])
.ret)))))
theorem fok100:FOK Tryz.prog 100 (115,ic100,[(.t 2),(.t 3)]):=.mk (pf:=[1000038,1000056,1000077,1000110]) (an:=[(0,[0]),(1,[0,12]),(2,[2,3]),(3,[0,4]),(4,[0,4,19,20]),(5,[0,4,19,20,21]),(6,[0,4,5,19,20]),(7,[0,4,5,6,7,19,20]),(8,[0,4,5,6,7,19,20,30]),(9,[2,3]),(10,[0,4,5,6,19,20]),(11,[0,4,5,6,19,20]),(12,[0,4,5,6,19,20,60]),(13,[0,4,5,6,19,20,60,62]),(14,[0,4,5,6,8,19,20,60]),(15,[0,4,5,6,19,20,60]),(16,[0,4,5,19,20,80,81,82]),(17,[0,4,5,19,20,80,81,82,83]),(18,[0,4,5,10,19,20,80,81,82]),(19,[0,4,5,10,19,20,80,81,82,95]),(20,[0,4,5,19,20,80,81,82]),(21,[0,4,5,19,20,80,81,82]),(22,[0,4,19,20]),(23,[2,3])]) (by kernel_rfl) (ac3 Tryz.func100 (by kernel_rfl) (by kernel_rfl) (by kernel_rfl))
def ic111:IC :=
(.seq
(.reg 0 [⟨(some 4),none,(.q (.mov (.c (.bool false))))⟩] [0,1])
(.seq
(.reg 1 [⟨(some 5),none,(.q (.mov T0))⟩,⟨(some 6),none,(.q (.mov T1))⟩,⟨(some 7),none,(.call 180 [T5,T6])⟩,⟨(some 8),none,(.q (.bin .geq T7 (.c (.int .i64 0))))⟩,⟨(some 4),none,(.q (.mov T8))⟩] [4])
.ret))
theorem fok111:FOK Tryz.prog 111 (9,ic111,[(.t 4)]):=.mk (pf:=[]) (an:=[(0,[0,1]),(1,[4])]) (by kernel_rfl) (ac3 Tryz.func111 (by kernel_rfl) (by kernel_rfl) (by kernel_rfl))
def ic113:IC :=
(.seq
(.reg 0 [⟨(some 2),none,(.q (.mov (.c (.bool false))))⟩] [0])
(.seq
(.reg 1 [⟨(some 3),none,(.q (.mov T0))⟩,⟨(some 4),none,(.q (.bin .geq T3 (.c (.int .u8 1))))⟩,⟨(some 5),none,(.q (.mov T4))⟩,⟨(some 6),(some ⟨5,true⟩),(.q (.mov T0))⟩,⟨(some 7),(some ⟨5,true⟩),(.q (.bin .leq T6 (.c (.int .u8 4))))⟩,⟨(some 8),none,(.q (.pick T5 T7 (.c (.bool false))))⟩,⟨(some 2),none,(.q (.mov T8))⟩] [2])
.ret))
theorem fok113:FOK Tryz.prog 113 (9,ic113,[(.t 2)]):=.mk (pf:=[]) (an:=[(0,[0]),(1,[2])]) (by kernel_rfl) (ac3 Tryz.func113 (by kernel_rfl) (by kernel_rfl) (by kernel_rfl))
def ic125:IC :=
(.seq
(.reg 0 [⟨(some 2),none,(.q (.mov (.c .aa1)))⟩] [0])
(.seq
(.seq
(.reg 1 [⟨(some 3),none,(.q (.mov T0))⟩,⟨(some 4),none,(.q (.ch2 (.slice 117) false T3))⟩] [0,4])
(.cond T4
(.seq
(.reg 2 [⟨(some 2),none,(.q (.mov (.c .aa1)))⟩] [2])
.ret)
.skip))
(.seq
(.reg 3 [⟨(some 5),none,(.bsl 5 0 [(.str []),(.int .u8 0),(.int .i64 0),(.str []),(.str [])] [])⟩,⟨(some 6),none,(.q (.mov T0))⟩,⟨(some 7),none,(.app 5 T5 T6)⟩,⟨(some 2),none,(.q (.mov T7))⟩] [2])
.ret)))
theorem fok125:FOK Tryz.prog 125 (8,ic125,[(.t 2)]):=.mk (pf:=[]) (an:=[(0,[0]),(1,[0,4]),(2,[2]),(3,[2])]) (by kernel_rfl) (ac3 Tryz.func125 (by kernel_rfl) (by kernel_rfl) (by kernel_rfl))
def ic126:IC :=
(.seq
(.reg 0 [⟨(some 2),none,(.q (.mov (.c .aa1)))⟩] [0])
(.seq
(.seq
(.reg 1 [⟨(some 3),none,(.q (.mov T0))⟩,⟨(some 4),none,(.q (.ch2 (.slice 9) false T3))⟩] [0,4])
(.cond T4
(.seq
(.reg 2 [⟨(some 2),none,(.q (.mov (.c .aa1)))⟩] [2])
.ret)
.skip))
(.seq
(.reg 3 [⟨(some 5),none,(.bsl 1 0 [(.str [])] [])⟩,⟨(some 6),none,(.q (.mov T0))⟩,⟨(some 7),none,(.app 1 T5 T6)⟩,⟨(some 2),none,(.q (.mov T7))⟩] [2])
.ret)))
theorem fok126:FOK Tryz.prog 126 (8,ic126,[(.t 2)]):=.mk (pf:=[]) (an:=[(0,[0]),(1,[0,4]),(2,[2]),(3,[2])]) (by kernel_rfl) (ac3 Tryz.func126 (by kernel_rfl) (by kernel_rfl) (by kernel_rfl))
def ic127:IC :=
(.seq
(.reg 0 [⟨(some 2),none,(.q (.mov (.c .aa1)))⟩] [0])
(.seq
(.seq
(.reg 1 [⟨(some 3),none,(.q (.mov T0))⟩,⟨(some 4),none,(.q (.ch2 (.slice 119) false T3))⟩] [0,4])
(.cond T4
(.seq
(.reg 2 [⟨(some 2),none,(.q (.mov (.c .aa1)))⟩] [2])
.ret)
.skip))
(.seq
(.reg 3 [⟨(some 5),none,(.bsl 7 0 [(.int .u8 0),(.str []),(.int .u8 0),(.int .i64 0),(.str []),(.str []),.aa1] [])⟩,⟨(some 6),none,(.q (.mov T0))⟩,⟨(some 7),none,(.app 7 T5 T6)⟩,⟨(some 2),none,(.q (.mov T7))⟩] [2])
.ret)))
theorem fok127:FOK Tryz.prog 127 (8,ic127,[(.t 2)]):=.mk (pf:=[]) (an:=[(0,[0]),(1,[0,4]),(2,[2]),(3,[2])]) (by kernel_rfl) (ac3 Tryz.func127 (by kernel_rfl) (by kernel_rfl) (by kernel_rfl))
def ic128:IC :=
(.seq
(.reg 0 [⟨(some 1),none,(.ao2 T0)⟩,⟨(some 2),none,(.alloc [(.int .u8 0),(.str []),(.int .u8 0),(.int .i64 0),(.str []),(.str []),.aa1])⟩] [1,2])
(.seq
(.reg 1 [⟨(some 6),none,(.q (.ab3 0 T1))⟩,⟨(some 7),none,(.q (.load none T6))⟩,⟨(some 8),none,(.q (.ab3 1 T1))⟩,⟨(some 9),none,(.q (.load (some 5) T8))⟩,⟨(some 10),none,(.q (.bld [(.int .u8 0),(.str []),(.int .u8 0),(.int .i64 0),(.str []),(.str []),.aa1] [⟨0,⟨1,T7⟩⟩,⟨1,⟨5,T9⟩⟩]))⟩,⟨(some 3),none,(.alloc [(.int .u8 0),(.str []),(.int .u8 0),(.int .i64 0),(.str []),(.str []),.aa1])⟩,⟨none,none,(.store 7 T3 T10)⟩] [1,2,3])
(.seq
(.seq
(.reg 2 [⟨(some 11),none,(.q (.ab3 6 T1))⟩,⟨(some 12),none,(.q (.load none T11))⟩,⟨(some 13),none,(.q (.len 0 T12))⟩,⟨(some 14),none,(.q (.mov (.c (.int .i64 0))))⟩] [2,3,12,13,14])
(.block 0
(.loop
(.seq
(.reg 3 [⟨(some 15),none,(.q (.bin .lss T14 T13))⟩] [2,3,12,13,14,15])
(.seq
(.cond T15
.skip
(.exit 0))
(.seq
(.block 1
(.seq
(.reg 4 [⟨(some 16),none,(.q (.ab5 7 T12 T14))⟩,⟨(some 17),none,(.q (.load (some 7) T16))⟩,⟨(some 5),none,(.alloc [(.int .u8 0),(.str []),(.int .u8 0),(.int .i64 0),(.str []),(.str []),.aa1])⟩,⟨none,none,(.store 7 T5 T17)⟩] [2,3,5,12,13,14])
(.an5 5 [⟨(some 18),none,(.q (.ab3 6 T3))⟩,⟨(some 19),none,(.q (.load none T18))⟩,⟨(some 20),none,(.q (.load (some 7) T5))⟩,⟨(some 21),none,(.ag4 128 [T20])⟩,⟨(some 22),none,(.ap7 7 1 [(.int .u8 0),(.str []),(.int .u8 0),(.int .i64 0),(.str []),(.str []),.aa1] [⟨0,⟨7,T21⟩⟩])⟩,⟨(some 23),none,(.app 7 T19 T22)⟩,⟨(some 24),none,(.q (.ab3 6 T3))⟩,⟨none,none,(.store 1 T24 T23)⟩] true [2,3,12,13,14])))
(.reg 6 [⟨(some 25),none,(.q (.bin .add T14 (.c (.int .i64 1))))⟩,⟨(some 14),none,(.q (.mov T25))⟩] [2,3,12,13,14])))))))
(.seq
(.reg 7 [⟨(some 26),none,(.q (.load (some 7) T3))⟩,⟨none,none,(.store 7 T2 T26)⟩] [2])
.ret))))
theorem fok128:FOK Tryz.prog 128 (27,ic128,[(.cell (some 7) 2)]):=.mk (pf:=([1000001,1000022]++is3)) (an:=[(0,[1,2]),(1,[1,2,3]),(2,[2,3,12,13,14]),(3,[2,3,12,13,14,15]),(4,[2,3,5,12,13,14]),(5,[2,3,12,13,14]),(6,[2,3,12,13,14]),(7,[2])]) (by kernel_rfl) (ac3 Tryz.func128 (by kernel_rfl) (by kernel_rfl) (by kernel_rfl))
def ic129:IC :=
(.seq
(.reg 0 [oM 2 (.c .aa1)] [0,2])
(.seq
(.reg 1 [oK 3 (.alloc [.aa1])] [0,2,3])
(.seq
(.seq
(.reg 2 [oM 5 T0,oK 6 (.call 192 [T5])] [2,3,6])
(.block 0
(.be5 T6 [7]
(.reg 3 [oK 4 (.alloc [(zU 0),(.str [])]),oN (.store 2 T4 T7)] [3,4])
(.block 1
(.reg 4 [oQ 8 (.load none T3),oQ 9 (.load (some 2) T4),oK 10 (.ap7 2 1 [(zU 0),(.str [])] [⟨0,⟨2,T9⟩⟩]),oK 11 (.app 2 T8 T10),oN (.store 1 T3 T11)] [])))))
(.seq
(.reg 5 [oQ 12 (.load none T3),oM 2 T12] [2])
.ret))))
theorem fok129:FOK Tryz.prog 129 (13,ic129,[(.t 2)]):=ak2 [1000010] Tryz.func129
def ic130:IC :=
(.seq
(.reg 0 [oK 2 (.ao2 T0),oK 3 (.ao2 T1),oM 4 (cI 0)] [2,3])
(.seq
(.reg 1 [oM 5 (cI 0)] [2,3,5])
(.seq
(.seq
(.reg 2 [oQ 6 (.ab3 0 T2),oQ 7 (.load none T6),oQ 8 (.bin .eql T7 (.c (zU 5))),oM 9 T8,gQ 10 9 true (.ab3 0 T3),gQ 11 9 true (.load none T10),gQ 12 9 true (.bin .eql T11 (.c (zU 5))),oQ 13 (.pick T9 T12 (cB false))] [2,3,5,13])
(.cond T13
(.reg 3 [oQ 14 (.ab3 1 T2),oQ 15 (.load none T14),oQ 16 (.len 1 T15),oQ 17 (.ab3 1 T3),oQ 18 (.load none T17),oQ 19 (.len 1 T18),oK 20 (.call 32 [T16,T19]),oM 5 T20] [2,3,5])
.skip))
(.seq
(.an5 4 [oQ 21 (.ab3 0 T2),oQ 22 (.load none T21),oQ 23 (.ab3 0 T3),oQ 24 (.load none T23),oK 25 (.ag4 194 [T22,T24]),oM 26 T5,oQ 27 (.ab3 1 T2),oQ 28 (.load none T27),oQ 29 (.ab3 1 T3),oQ 30 (.load none T29),oK 31 (.ag4 195 [T28,T30]),oK 32 (.ap7 1 3 [(zI 0)] [⟨0,⟨1,T25⟩⟩,⟨1,⟨1,T26⟩⟩,⟨2,⟨1,T31⟩⟩]),oK 33 (.ag4 193 [T32]),oM 4 T33] false [4])
.ret))))
theorem fok130:FOK Tryz.prog 130 (34,ic130,[(.t 4)]):=ak2 ([1000002,1000003,1000032]++[193,194,195]) Tryz.func130 (by kernel_rfl) (by kernel_rfl) (by kernel_rfl) (by kernel_rfl)
def ic140:IC :=
(.seq
(.reg 0 [⟨(some 2),none,(.q (.mov (.c (.bool false))))⟩] [0])
(.seq
(.seq
(.reg 1 [⟨(some 7),none,(.q (.mov T0))⟩,⟨(some 8),none,(.q (.len 1 T7))⟩,⟨(some 9),none,(.q (.bin .lss T8 (.c (.int .i64 1))))⟩,⟨(some 10),none,(.q (.mov T9))⟩,⟨(some 11),(some ⟨10,false⟩),(.q (.mov T0))⟩,⟨(some 12),(some ⟨10,false⟩),(.q (.len 1 T11))⟩,⟨(some 13),(some ⟨10,false⟩),(.q (.bin .gtr T12 (.c (.int .i64 64))))⟩,⟨(some 14),none,(.q (.pick T10 (.c (.bool true)) T13))⟩] [0,14])
(.cond T14
(.seq
(.reg 2 [⟨(some 2),none,(.q (.mov (.c (.bool false))))⟩] [2])
.ret)
.skip))
(.seq
(.seq
(.reg 3 [⟨(some 15),none,(.q (.mov T0))⟩,⟨(some 16),none,(.bd8 T15)⟩] [0,16])
(.block 0
(.loop
(.seq
(.reg 4 [⟨(some 17),none,(.cn6 T16)⟩,⟨(some 18),none,(.q (.ext 0 T17))⟩] [0,16,17,18])
(.seq
(.cond T18
.skip
(.exit 0))
(.block 1
(.seq
(.reg 5 [⟨(some 19),none,(.q (.ext 2 T17))⟩,⟨(some 4),none,(.q (.mov T19))⟩] [0,4,16])
(.seq
(.reg 6 [⟨(some 20),none,(.q (.mov T4))⟩,⟨(some 21),none,(.q (.bin .gtr T20 (.c (.int .i32 126))))⟩,⟨(some 22),none,(.q (.mov T21))⟩,⟨(some 23),(some ⟨22,false⟩),(.q (.mov T4))⟩,⟨(some 24),(some ⟨22,false⟩),(.q (.conv .u8 T23))⟩,⟨(some 25),(some ⟨22,false⟩),(.call 198 [(.c (.str [97,98,99,100,101,102,103,104,105,106,107,108,109,110,111,112,113,114,115,116,117,118,119,120,121,122,65,66,67,68,69,70,71,72,73,74,75,76,77,78,79,80,81,82,83,84,85,86,87,88,89,90,48,49,50,51,52,53,54,55,56,57,46,95,43,45,47,58,64,126,94])),T24])⟩,⟨(some 26),(some ⟨22,false⟩),(.q (.bin .lss T25 (.c (.int .i64 0))))⟩,⟨(some 27),none,(.q (.pick T22 (.c (.bool true)) T26))⟩] [0,16,27])
(.cond T27
(.seq
(.reg 7 [⟨(some 2),none,(.q (.mov (.c (.bool false))))⟩] [2])
.ret)
.skip)))))))))
(.seq
(.seq
(.reg 8 [⟨(some 28),none,(.q (.load (some 7) (.g 0)))⟩,⟨(some 29),none,(.q (.mov (.c (.int .i64 0))))⟩] [0,28,29])
(.block 2
(.loop
(.seq
(.reg 9 [⟨(some 30),none,(.q (.bin .lss T29 (.c (.int .i64 7))))⟩] [0,28,29,30])
(.seq
(.cond T30
.skip
(.exit 2))
(.seq
(.block 3
(.seq
(.reg 10 [⟨(some 31),none,(.q (.idx none 7 1 T28 T29))⟩,⟨(some 6),none,(.q (.mov T31))⟩] [0,6,28,29])
(.seq
(.reg 11 [⟨(some 32),none,(.q (.mov T0))⟩,⟨(some 33),none,(.q (.mov T6))⟩,⟨(some 34),none,(.q (.bin .eql T32 T33))⟩] [0,28,29,34])
(.cond T34
(.seq
(.reg 12 [⟨(some 2),none,(.q (.mov (.c (.bool false))))⟩] [2])
.ret)
.skip))))
(.reg 13 [⟨(some 35),none,(.q (.bin .add T29 (.c (.int .i64 1))))⟩,⟨(some 29),none,(.q (.mov T35))⟩] [0,28,29])))))))
(.seq
(.reg 14 [⟨(some 2),none,(.q (.mov (.c (.bool true))))⟩] [2])
.ret)))))
theorem fok140:FOK Tryz.prog 140 (36,ic140,[(.t 2)]):=.mk (pf:=[]) (an:=[(0,[0]),(1,[0,14]),(2,[2]),(3,[0,16]),(4,[0,16,17,18]),(5,[0,4,16]),(6,[0,16,27]),(7,[2]),(8,[0,28,29]),(9,[0,28,29,30]),(10,[0,6,28,29]),(11,[0,28,29,34]),(12,[2]),(13,[0,28,29]),(14,[2])]) (by kernel_rfl) (ac3 Tryz.func140 (by kernel_rfl) (by kernel_rfl) (by kernel_rfl))
def ic141:IC :=
(.seq
(.reg 0 [⟨(some 2),none,(.q (.mov (.c (.bool false))))⟩] [0])
(.seq
(.reg 1 [⟨(some 3),none,(.q (.mov T0))⟩,⟨(some 4),none,(.call 140 [T3])⟩,⟨(some 5),none,(.q (.mov T4))⟩,⟨(some 6),(some ⟨5,true⟩),(.q (.mov T0))⟩,⟨(some 7),(some ⟨5,true⟩),(.call 199 [T6,(.c (.str [47]))])⟩,⟨(some 8),none,(.q (.pick T5 T7 (.c (.bool false))))⟩,⟨(some 2),none,(.q (.mov T8))⟩] [2])
.ret))
theorem fok141:FOK Tryz.prog 141 (9,ic141,[(.t 2)]):=.mk (pf:=[]) (an:=[(0,[0]),(1,[2])]) (by kernel_rfl) (ac3 Tryz.func141 (by kernel_rfl) (by kernel_rfl) (by kernel_rfl))
def ic142:IC :=
(.seq
(.reg 0 [⟨(some 2),none,(.ao2 T0)⟩,⟨(some 4),none,(.q (.mov (.c (.bool false))))⟩] [1,2])
(.seq
(.reg 1 [⟨(some 5),none,(.q (.ab3 0 T2))⟩,⟨(some 6),none,(.q (.load none T5))⟩,⟨(some 7),none,(.q (.bin .geq T6 (.c (.int .i64 0))))⟩,⟨(some 8),none,(.q (.mov T7))⟩,⟨(some 9),(some ⟨8,true⟩),(.q (.ab3 0 T2))⟩,⟨(some 10),(some ⟨8,true⟩),(.q (.load none T9))⟩,⟨(some 11),(some ⟨8,true⟩),(.q (.bin .leq T10 (.c (.int .i64 2147483647))))⟩,⟨(some 12),none,(.q (.pick T8 T11 (.c (.bool false))))⟩,⟨(some 13),none,(.q (.mov T12))⟩,⟨(some 14),(some ⟨13,true⟩),(.q (.ab3 1 T2))⟩,⟨(some 15),(some ⟨13,true⟩),(.q (.load none T14))⟩,⟨(some 16),(some ⟨13,true⟩),(.call 200 [T15])⟩,⟨(some 17),none,(.q (.pick T13 T16 (.c (.bool false))))⟩,⟨(some 18),none,(.q (.mov T17))⟩,⟨(some 19),(some ⟨18,true⟩),(.q (.ab3 2 T2))⟩,⟨(some 20),(some ⟨18,true⟩),(.q (.load none T19))⟩,⟨(some 21),(some ⟨18,true⟩),(.call 200 [T20])⟩,⟨(some 22),(some ⟨18,true⟩),(.q (.mov T21))⟩,⟨(some 23),(some ⟨22,false⟩),(.q (.mov T1))⟩,⟨(some 24),(some ⟨22,false⟩),(.q (.mov T23))⟩,⟨(some 25),(some ⟨24,true⟩),(.q (.ab3 2 T2))⟩,⟨(some 26),(some ⟨24,true⟩),(.q (.load none T25))⟩,⟨(some 27),(some ⟨24,true⟩),(.q (.bin .eql T26 (.c (.str []))))⟩,⟨(some 28),(some ⟨22,false⟩),(.q (.pick T24 T27 (.c (.bool false))))⟩,⟨(some 29),(some ⟨18,true⟩),(.q (.pick T22 (.c (.bool true)) T28))⟩,⟨(some 30),none,(.q (.pick T18 T29 (.c (.bool false))))⟩,⟨(some 4),none,(.q (.mov T30))⟩] [4])
.ret))
theorem fok142:FOK Tryz.prog 142 (31,ic142,[(.t 4)]):=.mk (pf:=[1000002]) (an:=[(0,[1,2]),(1,[4])]) (by kernel_rfl) (ac3 Tryz.func142 (by kernel_rfl) (by kernel_rfl) (by kernel_rfl))
def ic143:IC :=
(.seq
(.reg 0 [⟨(some 2),none,(.q (.mov (.c (.str []))))⟩] [0])
(.seq
(.seq
(.reg 1 [⟨(some 3),none,(.q (.mov T0))⟩,⟨(some 4),none,(.call 113 [T3])⟩,⟨(some 5),none,(.q (.not T4))⟩] [0,5])
(.cond T5
(.seq
(.reg 2 [⟨(some 2),none,(.q (.mov (.c (.str []))))⟩] [2])
.ret)
.skip))
(.seq
(.reg 3 [⟨(some 6),none,(.call 201 [])⟩,⟨(some 7),none,(.q (.mov T0))⟩,⟨(some 8),none,(.q (.idx none 5 1 T6 T7))⟩,⟨(some 2),none,(.q (.mov T8))⟩] [2])
.ret)))
theorem fok143:FOK Tryz.prog 143 (9,ic143,[(.t 2)]):=.mk (pf:=[]) (an:=[(0,[0]),(1,[0,5]),(2,[2]),(3,[2])]) (by kernel_rfl) (ac3 Tryz.func143 (by kernel_rfl) (by kernel_rfl) (by kernel_rfl))
def ic144:IC :=
(.seq
(.reg 0 [⟨(some 5),none,(.ao2 T2)⟩,⟨(some 6),none,(.q (.mov (.c (.bool false))))⟩] [0,1,5])
(.seq
(.reg 1 [⟨(some 7),none,(.q (.mov T0))⟩,⟨(some 8),none,(.q (.len 0 T7))⟩,⟨(some 9),none,(.q (.mov T1))⟩,⟨(some 10),none,(.q (.bin .leq T8 T9))⟩,⟨(some 11),none,(.q (.mov T10))⟩,⟨(some 12),(some ⟨11,true⟩),(.q (.mov T0))⟩,⟨(some 13),(some ⟨11,true⟩),(.q (.mkf 202 [] [T5]))⟩,⟨(some 14),(some ⟨11,true⟩),(.call 83 [T12,T13])⟩,⟨(some 15),(some ⟨11,true⟩),(.q (.not T14))⟩,⟨(some 16),none,(.q (.pick T11 T15 (.c (.bool false))))⟩,⟨(some 6),none,(.q (.mov T16))⟩] [6])
.ret))
theorem fok144:FOK Tryz.prog 144 (17,ic144,[(.t 6)]):=.mk (pf:=[1000005]) (an:=[(0,[0,1,5]),(1,[6])]) (by kernel_rfl) (ac3 Tryz.func144 (by kernel_rfl) (by kernel_rfl) (by kernel_rfl))
def ic145:IC :=
(.seq
(.reg 0 [⟨(some 5),none,(.ao2 T2)⟩,⟨(some 6),none,(.q (.mov (.c (.bool false))))⟩] [0,1,5])
(.seq
(.reg 1 [⟨(some 7),none,(.q (.mov T0))⟩,⟨(some 8),none,(.q (.len 0 T7))⟩,⟨(some 9),none,(.q (.mov T1))⟩,⟨(some 10),none,(.q (.bin .leq T8 T9))⟩,⟨(some 11),none,(.q (.mov T10))⟩,⟨(some 12),(some ⟨11,true⟩),(.q (.mov T0))⟩,⟨(some 13),(some ⟨11,true⟩),(.q (.mkf 204 [] [T5]))⟩,⟨(some 14),(some ⟨11,true⟩),(.call 203 [T12,T13])⟩,⟨(some 15),(some ⟨11,true⟩),(.q (.not T14))⟩,⟨(some 16),none,(.q (.pick T11 T15 (.c (.bool false))))⟩,⟨(some 6),none,(.q (.mov T16))⟩] [6])
.ret))
theorem fok145:FOK Tryz.prog 145 (17,ic145,[(.t 6)]):=.mk (pf:=[1000005]) (an:=[(0,[0,1,5]),(1,[6])]) (by kernel_rfl) (ac3 Tryz.func145 (by kernel_rfl) (by kernel_rfl) (by kernel_rfl))
def ic146:IC :=
(.seq
(.reg 0 [⟨(some 1),none,(.ao2 T0)⟩,⟨(some 2),none,(.q (.mov (.c .af5)))⟩] [1])
(.seq
(.reg 1 [⟨(some 3),none,(.q (.mkf 205 [] [T1]))⟩,⟨(some 2),none,(.q (.mov T3))⟩] [2])
.ret))
theorem fok146:FOK Tryz.prog 146 (4,ic146,[(.t 2)]):=.mk (pf:=[1000001]) (an:=[(0,[1]),(1,[2])]) (by kernel_rfl) (ac3 Tryz.func146 (by kernel_rfl) (by kernel_rfl) (by kernel_rfl))
def ic147:IC :=
(.seq
(.reg 0 [⟨(some 5),none,(.ao2 T2)⟩,⟨(some 6),none,(.q (.mov (.c (.bool false))))⟩] [0,1,5])
(.seq
(.reg 1 [⟨(some 7),none,(.q (.mov T0))⟩,⟨(some 8),none,(.q (.len 0 T7))⟩,⟨(some 9),none,(.q (.mov T1))⟩,⟨(some 10),none,(.q (.bin .leq T8 T9))⟩,⟨(some 11),none,(.q (.mov T10))⟩,⟨(some 12),(some ⟨11,true⟩),(.q (.mov T0))⟩,⟨(some 13),(some ⟨11,true⟩),(.q (.mkf 206 [] [T5]))⟩,⟨(some 14),(some ⟨11,true⟩),(.call 81 [T12,T13])⟩,⟨(some 15),(some ⟨11,true⟩),(.q (.not T14))⟩,⟨(some 16),none,(.q (.pick T11 T15 (.c (.bool false))))⟩,⟨(some 6),none,(.q (.mov T16))⟩] [6])
.ret))
theorem fok147:FOK Tryz.prog 147 (17,ic147,[(.t 6)]):=.mk (pf:=[1000005]) (an:=[(0,[0,1,5]),(1,[6])]) (by kernel_rfl) (ac3 Tryz.func147 (by kernel_rfl) (by kernel_rfl) (by kernel_rfl))
def ic148:IC :=
(.seq
(.reg 0 [⟨(some 2),none,(.ao2 T0)⟩,⟨(some 3),none,(.q (.mov (.c (.bool false))))⟩] [1,2])
(.seq
(.reg 1 [⟨(some 4),none,(.q (.load (some 7) T2))⟩,⟨(some 5),none,(.q (.load none T1))⟩,⟨(some 6),none,(.call 149 [T4,T5])⟩,⟨(some 7),none,(.q (.bin .eql T6 (.c (.int .i64 0))))⟩,⟨(some 3),none,(.q (.mov T7))⟩] [3])
.ret))
theorem fok148:FOK Tryz.prog 148 (8,ic148,[(.t 3)]):=.mk (pf:=[1000002]) (an:=[(0,[1,2]),(1,[3])]) (by kernel_rfl) (ac3 Tryz.func148 (by kernel_rfl) (by kernel_rfl) (by kernel_rfl))
def ic149:IC :=
(.seq
(.reg 0 [⟨(some 2),none,(.ao2 T0)⟩,⟨(some 3),none,(.ao2 T1)⟩,⟨(some 4),none,(.alloc [(.int .i64 0)])⟩] [2,3,4])
(.seq
(.block 0
(.seq
(.reg 1 [⟨(some 9),none,(.q (.load none T3))⟩,⟨(some 10),none,(.q (.bin .lss T9 (.c (.int .u8 1))))⟩,⟨(some 11),none,(.q (.mov T10))⟩,⟨(some 12),(some ⟨11,false⟩),(.q (.load none T3))⟩,⟨(some 13),(some ⟨11,false⟩),(.q (.bin .gtr T12 (.c (.int .u8 3))))⟩,⟨(some 14),none,(.q (.pick T11 (.c (.bool true)) T13))⟩,⟨(some 8),none,(.q (.mov T14))⟩] [2,3,4,8])
(.cond T8
(.seq
(.reg 2 [⟨none,none,(.store 1 T4 (.c (.int .i64 1)))⟩] [4])
.ret)
(.seq
(.reg 3 [⟨(some 16),none,(.q (.load (some 7) T2))⟩,⟨(some 17),none,(.call 207 [T16])⟩,⟨(some 18),none,(.q (.bin .gtr T17 (.c (.int .i64 24))))⟩,⟨(some 15),none,(.q (.mov T18))⟩] [2,3,4,15])
(.cond T15
(.seq
(.reg 4 [⟨none,none,(.store 1 T4 (.c (.int .i64 40)))⟩] [4])
.ret)
(.seq
(.reg 5 [⟨(some 20),none,(.q (.load (some 7) T2))⟩,⟨(some 21),none,(.call 208 [T20])⟩,⟨(some 22),none,(.q (.bin .gtr T21 (.c (.int .i64 8))))⟩,⟨(some 19),none,(.q (.mov T22))⟩] [2,3,4,19])
(.cond T19
(.seq
(.reg 6 [⟨none,none,(.store 1 T4 (.c (.int .i64 21)))⟩] [4])
.ret)
.skip)))))))
(.seq
(.seq
(.reg 7 [⟨(some 23),none,(.q (.load (some 7) T2))⟩,⟨(some 24),none,(.call 164 [T23])⟩] [3,4,24])
(.block 1
(.be5 T24 [25,26]
(.seq
(.reg 8 [⟨(some 5),none,(.alloc [(.int .u8 0),(.str []),(.int .u8 0),(.int .i64 0),(.str []),(.str []),.aa1])⟩,⟨none,none,(.store 7 T5 T25)⟩] [3,4,5,26])
(.reg 9 [⟨(some 6),none,(.q (.mov T26))⟩] [3,4,5,6]))
(.block 2
(.seq
(.reg 10 [⟨(some 27),none,(.q (.ab3 0 T5))⟩,⟨(some 28),none,(.q (.load none T27))⟩,⟨(some 29),none,(.call 209 [T28])⟩,⟨(some 7),none,(.alloc [(.int .i64 0),(.int .i64 0),(.bool false),(.int .u8 0)])⟩,⟨none,none,(.store 4 T7 T29)⟩] [3,4,5,6,7])
(.block 3
(.seq
(.seq
(.reg 11 [⟨(some 31),none,(.q (.ab3 3 T7))⟩,⟨(some 32),none,(.q (.load none T31))⟩,⟨(some 33),none,(.q (.load none T3))⟩,⟨(some 34),none,(.q (.bin .lss T32 T33))⟩,⟨(some 30),none,(.q (.mov T34))⟩] [4,5,6,7,30])
(.cond T30
.skip
(.seq
(.reg 12 [⟨(some 35),none,(.q (.mov T6))⟩,⟨(some 36),none,(.q (.mov T35))⟩,⟨(some 37),(some ⟨36,true⟩),(.q (.ab3 2 T7))⟩,⟨(some 38),(some ⟨36,true⟩),(.q (.load none T37))⟩,⟨(some 39),(some ⟨36,true⟩),(.q (.not T38))⟩,⟨(some 40),none,(.q (.pick T36 T39 (.c (.bool false))))⟩,⟨(some 30),none,(.q (.mov T40))⟩] [4,5,7,30])
(.cond T30
.skip
(.seq
(.reg 13 [⟨(some 41),none,(.q (.ab3 6 T5))⟩,⟨(some 42),none,(.q (.load none T41))⟩,⟨(some 43),none,(.q (.len 0 T42))⟩,⟨(some 44),none,(.q (.ab3 0 T7))⟩,⟨(some 45),none,(.q (.load none T44))⟩,⟨(some 46),none,(.q (.bin .lss T43 T45))⟩,⟨(some 30),none,(.q (.mov T46))⟩] [4,5,7,30])
(.cond T30
.skip
(.reg 14 [⟨(some 47),none,(.q (.ab3 6 T5))⟩,⟨(some 48),none,(.q (.load none T47))⟩,⟨(some 49),none,(.q (.len 0 T48))⟩,⟨(some 50),none,(.q (.ab3 1 T7))⟩,⟨(some 51),none,(.q (.load none T50))⟩,⟨(some 52),none,(.q (.bin .gtr T49 T51))⟩,⟨(some 30),none,(.q (.mov T52))⟩] [4,5,30])))))))
(.cond T30
(.seq
(.reg 15 [⟨none,none,(.store 1 T4 (.c (.int .i64 4)))⟩] [])
.ret)
(.seq
(.seq
(.reg 16 [⟨(some 54),none,(.q (.ab3 0 T5))⟩,⟨(some 55),none,(.q (.load none T54))⟩,⟨(some 56),none,(.q (.bin .eql T55 (.c (.int .u8 1))))⟩,⟨(some 57),none,(.q (.mov T56))⟩,⟨(some 58),(some ⟨57,true⟩),(.q (.ab3 1 T5))⟩,⟨(some 59),(some ⟨57,true⟩),(.q (.load (some 5) T58))⟩,⟨(some 60),(some ⟨57,true⟩),(.call 95 [T59])⟩,⟨(some 61),(some ⟨57,true⟩),(.q (.not T60))⟩,⟨(some 62),none,(.q (.pick T57 T61 (.c (.bool false))))⟩,⟨(some 53),none,(.q (.mov T62))⟩] [4,5,53])
(.cond T53
.skip
(.reg 17 [⟨(some 63),none,(.q (.ab3 0 T5))⟩,⟨(some 64),none,(.q (.load none T63))⟩,⟨(some 65),none,(.q (.bin .neq T64 (.c (.int .u8 1))))⟩,⟨(some 66),none,(.q (.mov T65))⟩,⟨(some 67),(some ⟨66,true⟩),(.q (.ab3 1 T5))⟩,⟨(some 68),(some ⟨66,true⟩),(.q (.load (some 5) T67))⟩,⟨(some 69),(some ⟨66,true⟩),(.q (.bld [(.str []),(.int .u8 0),(.int .i64 0),(.str []),(.str [])] []))⟩,⟨(some 70),(some ⟨66,true⟩),(.q (.eqs [2,1,1,2,2] true true T68 T69))⟩,⟨(some 71),none,(.q (.pick T66 T70 (.c (.bool false))))⟩,⟨(some 53),none,(.q (.mov T71))⟩] [4,53])))
(.cond T53
(.seq
(.reg 18 [⟨none,none,(.store 1 T4 (.c (.int .i64 4)))⟩] [])
.ret)
.skip))))))))))
(.seq
(.reg 19 [⟨none,none,(.store 1 T4 (.c (.int .i64 0)))⟩] [4])
.ret))))
theorem fok149:FOK Tryz.prog 149 (72,ic149,[(.cell none 4)]):=.mk (pf:=[1000002,1000003]) (an:=[(0,[2,3,4]),(1,[2,3,4,8]),(2,[4]),(3,[2,3,4,15]),(4,[4]),(5,[2,3,4,19]),(6,[4]),(7,[3,4,24]),(8,[3,4,5,26]),(9,[3,4,5,6]),(10,[3,4,5,6,7]),(11,[4,5,6,7,30]),(12,[4,5,7,30]),(13,[4,5,7,30]),(14,[4,5,30]),(16,[4,5,53]),(17,[4,53]),(19,[4])]) (by kernel_rfl) (ac3 Tryz.func149 (by kernel_rfl) (by kernel_rfl) (by kernel_rfl))
def ic150:IC :=
(.seq
(.reg 0 [oM 10 T1,oQ 11 (.bin .add T10 (cI 1)),oM 8 T11] [0,1,2,3,8])
(.block 0
(.loop
(.seq
(.seq
(.reg 1 [oM 12 T8,oM 13 T2,oQ 14 (.bin .lss T12 T13)] [0,1,2,3,8,14])
(.cond T14
.skip
(.exit 0)))
(.seq
(.block 1
(.seq
(.reg 3 [oM 17 T8,oM 9 T17] [0,1,2,3,8,9])
(.block 2
(.loop
(.seq
(.seq
(.an5 4 [oM 18 T9,oM 19 T1,oQ 20 (.bin .gtr T18 T19),oM 21 T20,gQ 22 21 true (.mov T3),gQ 23 21 true (.mov T0),gQ 24 21 true (.mov T9),gQ 25 21 true (.ab5 1 T23 T24),gQ 26 21 true (.load none T25),gQ 27 21 true (.mov T0),gQ 28 21 true (.mov T9),gQ 29 21 true (.bin .sub T28 (cI 1)),gQ 30 21 true (.ab5 1 T27 T29),gQ 31 21 true (.load none T30),gK 32 21 true (.aj2 T22 [T26,T31]),gQ 33 21 true (.bin .lss T32 (cI 0)),oQ 34 (.pick T21 T33 (cB false))] false [0,1,2,3,8,9,34])
(.cond T34
.skip
(.exit 2)))
(.seq
(.block 3
(.an5 6 [oM 37 T0,oM 38 T9,oM 39 T0,oM 40 T9,oQ 41 (.bin .sub T40 (cI 1)),oM 42 T0,oM 43 T9,oQ 44 (.bin .sub T43 (cI 1)),oQ 45 (.ab5 1 T42 T44),oQ 46 (.load none T45),oM 47 T0,oM 48 T9,oQ 49 (.ab5 1 T47 T48),oQ 50 (.load none T49),oQ 51 (.ab5 1 T37 T38),oN (.store 1 T51 T46),oQ 52 (.ab5 1 T39 T41),oN (.store 1 T52 T50)] false [0,1,2,3,8,9]))
(.reg 5 [oM 35 T9,oQ 36 (.bin .sub T35 (cI 1)),oM 9 T36] [0,1,2,3,8,9])))))))
(.reg 2 [oM 15 T8,oQ 16 (.bin .add T15 (cI 1)),oM 8 T16] [0,1,2,3,8]))))))
theorem fok150:FOK Tryz.prog 150 (53,ic150,[]):=ak2 [] Tryz.func150
def ic151:IC :=
(.seq
(.reg 0 [oM 13 T1,oM 8 T13] [0,1,2,3,8])
(.seq
(.reg 1 [oM 9 (cI 0)] [0,1,2,3,8,9])
(.seq
(.reg 2 [oM 14 T2,oM 15 T1,oQ 16 (.bin .sub T14 T15),oM 10 T16] [0,3,8,9,10])
(.seq
(.seq
(.reg 3 [oM 17 T10,oQ 18 (.bin .sub T17 (cI 1)),oQ 19 (.bin .quo T18 (cI 2)),oM 11 T19] [0,3,8,9,10,11])
(.block 0
(.loop
(.seq
(.seq
(.reg 4 [oM 20 T11,oQ 21 (.bin .geq T20 (cI 0))] [0,3,8,9,10,11,21])
(.cond T21
.skip
(.exit 0)))
(.seq
(.block 1
(.reg 6 [oM 24 T0,oM 25 T11,oM 26 T10,oM 27 T8,oM 28 T3,oK 29 (.call 210 [T24,T25,T26,T27,T28])] [0,3,8,9,10,11]))
(.reg 5 [oM 22 T11,oQ 23 (.bin .sub T22 (cI 1)),oM 11 T23] [0,3,8,9,10,11]))))))
(.seq
(.reg 7 [oM 30 T10,oQ 31 (.bin .sub T30 (cI 1)),oM 12 T31] [0,3,8,9,12])
(.block 2
(.loop
(.seq
(.seq
(.reg 8 [oM 32 T12,oQ 33 (.bin .geq T32 (cI 0))] [0,3,8,9,12,33])
(.cond T33
.skip
(.exit 2)))
(.seq
(.block 3
(.seq
(.an5 10 [oM 36 T0,oM 37 T8,oM 38 T0,oM 39 T8,oM 40 T12,oQ 41 (.bin .add T39 T40),oM 42 T0,oM 43 T8,oM 44 T12,oQ 45 (.bin .add T43 T44),oQ 46 (.ab5 1 T42 T45),oQ 47 (.load none T46),oM 48 T0,oM 49 T8,oQ 50 (.ab5 1 T48 T49),oQ 51 (.load none T50),oQ 52 (.ab5 1 T36 T37),oN (.store 1 T52 T47),oQ 53 (.ab5 1 T38 T41),oN (.store 1 T53 T51)] false [0,3,8,9,12])
(.reg 11 [oM 54 T0,oM 55 T9,oM 56 T12,oM 57 T8,oM 58 T3,oK 59 (.call 210 [T54,T55,T56,T57,T58])] [0,3,8,9,12])))
(.reg 9 [oM 34 T12,oQ 35 (.bin .sub T34 (cI 1)),oM 12 T35] [0,3,8,9,12]))))))))))
theorem fok151:FOK Tryz.prog 151 (60,ic151,[]):=ak2 [] Tryz.func151
def ic152:IC :=
(.seq
(.reg 0 [oM 13 T2,oM 14 T1,oQ 15 (.bin .sub T13 T14),oM 8 T15] [0,1,8])
(.seq
(.reg 1 [oM 16 T8,oQ 17 (.bin .geq T16 (cI 8))] [0,1,8,17])
(.cond T17
(.seq
(.reg 2 [oM 18 T8,oQ 19 (.conv .u64 T18),oK 9 (.alloc [(.int .u64 0)]),oN (.store 1 T9 T19)] [0,1,8,9])
(.seq
(.reg 3 [oM 20 T8,oK 21 (.call 211 [T20]),oM 10 T21] [0,1,8,9,10])
(.seq
(.reg 4 [oM 22 T1,oM 23 T8,oQ 24 (.bin .quo T23 (cI 4)),oQ 25 (.bin .mul T24 (cI 2)),oQ 26 (.bin .add T22 T25),oQ 27 (.bin .sub T26 (cI 1)),oM 11 T27] [0,1,8,9,10,11])
(.block 0
(.loop
(.seq
(.seq
(.reg 5 [oM 28 T11,oM 29 T1,oM 30 T8,oQ 31 (.bin .quo T30 (cI 4)),oQ 32 (.bin .mul T31 (cI 2)),oQ 33 (.bin .add T29 T32),oQ 34 (.bin .add T33 (cI 1)),oQ 35 (.bin .leq T28 T34)] [0,1,8,9,10,11,35])
(.cond T35
.skip
(.exit 0)))
(.seq
(.block 1
(.seq
(.reg 7 [oK 38 (.call 212 [T9]),oM 39 T10,oQ 40 (.bin .sub T39 (.c (.int .u64 1))),oQ 41 (.bin .and T38 T40),oQ 42 (.conv .i64 T41),oM 12 T42] [0,1,8,9,10,11,12])
(.seq
(.seq
(.reg 8 [oM 43 T12,oM 44 T8,oQ 45 (.bin .geq T43 T44)] [0,1,8,9,10,11,12,45])
(.cond T45
(.reg 9 [oM 46 T12,oM 47 T8,oQ 48 (.bin .sub T46 T47),oM 12 T48] [0,1,8,9,10,11,12])
.skip))
(.an5 10 [oM 49 T0,oM 50 T11,oM 51 T0,oM 52 T1,oM 53 T12,oQ 54 (.bin .add T52 T53),oM 55 T0,oM 56 T1,oM 57 T12,oQ 58 (.bin .add T56 T57),oQ 59 (.ab5 1 T55 T58),oQ 60 (.load none T59),oM 61 T0,oM 62 T11,oQ 63 (.ab5 1 T61 T62),oQ 64 (.load none T63),oQ 65 (.ab5 1 T49 T50),oN (.store 1 T65 T60),oQ 66 (.ab5 1 T51 T54),oN (.store 1 T66 T64)] false [0,1,8,9,10,11]))))
(.reg 6 [oM 36 T11,oQ 37 (.bin .add T36 (cI 1)),oM 11 T37] [0,1,8,9,10,11]))))))))
.skip)))
theorem fok152:FOK Tryz.prog 152 (67,ic152,[]):=ak2 [] Tryz.func152
def ic153:IC :=
(.seq
(.reg 0 [oM 8 (cI 0),oM 9 (cI 0)] [0,1,2,3])
(.seq
(.reg 1 [oM 15 T2,oM 16 T1,oQ 17 (.bin .sub T15 T16),oM 10 T17] [0,1,3,10])
(.seq
(.reg 2 [oK 11 (.alloc [(zI 0)])] [0,1,3,10,11])
(.seq
(.reg 3 [oM 18 T1,oM 19 T10,oQ 20 (.bin .quo T19 (cI 4)),oQ 21 (.bin .mul T20 (cI 1)),oQ 22 (.bin .add T18 T21),oM 12 T22] [0,1,3,10,11,12])
(.seq
(.reg 4 [oM 23 T1,oM 24 T10,oQ 25 (.bin .quo T24 (cI 4)),oQ 26 (.bin .mul T25 (cI 2)),oQ 27 (.bin .add T23 T26),oM 13 T27] [0,1,3,10,11,12,13])
(.seq
(.reg 5 [oM 28 T1,oM 29 T10,oQ 30 (.bin .quo T29 (cI 4)),oQ 31 (.bin .mul T30 (cI 3)),oQ 32 (.bin .add T28 T31),oM 14 T32] [0,3,10,11,12,13,14])
(.seq
(.seq
(.reg 6 [oM 33 T10,oQ 34 (.bin .geq T33 (cI 8))] [0,3,10,11,12,13,14,34])
(.cond T34
(.seq
(.seq
(.reg 7 [oM 35 T10,oQ 36 (.bin .geq T35 (cI 50))] [0,3,11,12,13,14,36])
(.cond T36
(.seq
(.reg 8 [oM 37 T0,oM 38 T12,oM 39 T3,oK 40 (.call 213 [T37,T38,T11,T39]),oM 12 T40] [0,3,11,12,13,14])
(.seq
(.reg 9 [oM 41 T0,oM 42 T13,oM 43 T3,oK 44 (.call 213 [T41,T42,T11,T43]),oM 13 T44] [0,3,11,12,13,14])
(.reg 10 [oM 45 T0,oM 46 T14,oM 47 T3,oK 48 (.call 213 [T45,T46,T11,T47]),oM 14 T48] [0,3,11,12,13,14])))
.skip))
(.reg 11 [oM 49 T0,oM 50 T12,oM 51 T13,oM 52 T14,oM 53 T3,oK 54 (.call 214 [T49,T50,T51,T52,T11,T53]),oM 13 T54] [11,13]))
.skip))
(.seq
(.reg 12 [oQ 55 (.load none T11)] [13,55])
(.block 0
(.seq
(.reg 14 [oQ 58 (.bin .eql T55 (cI 0)),oM 57 T58] [13,55,57])
(.cond T57
(.seq
(.reg 15 [oM 59 T13,oM 8 T59,oM 9 (cI 1)] [8,9])
.ret)
(.seq
(.reg 16 [oQ 61 (.bin .eql T55 (cI 12)),oM 60 T61] [13,60])
(.cond T60
(.seq
(.reg 17 [oM 62 T13,oM 8 T62,oM 9 (cI 2)] [8,9])
.ret)
(.seq
(.reg 13 [oM 56 T13,oM 8 T56,oM 9 (cI 0)] [8,9])
.ret))))))))))))))
theorem fok153:FOK Tryz.prog 153 (63,ic153,[(.t 8),(.t 9)]):=ak2 [] Tryz.func153
def ic154:IC :=
(.seq
(.reg 0 [oM 10 T1,oM 8 T10] [0,2,8])
(.seq
(.reg 1 [oM 11 T2,oQ 12 (.bin .sub T11 (cI 1)),oM 9 T12] [0,8,9])
(.block 0
(.loop
(.seq
(.seq
(.reg 2 [oM 13 T8,oM 14 T9,oQ 15 (.bin .lss T13 T14)] [0,8,9,15])
(.cond T15
.skip
(.exit 0)))
(.block 1
(.seq
(.an5 3 [oM 16 T0,oM 17 T8,oM 18 T0,oM 19 T9,oM 20 T0,oM 21 T9,oQ 22 (.ab5 1 T20 T21),oQ 23 (.load none T22),oM 24 T0,oM 25 T8,oQ 26 (.ab5 1 T24 T25),oQ 27 (.load none T26),oQ 28 (.ab5 1 T16 T17),oN (.store 1 T28 T23),oQ 29 (.ab5 1 T18 T19),oN (.store 1 T29 T27)] false [0,8,9])
(.seq
(.reg 4 [oM 30 T8,oQ 31 (.bin .add T30 (cI 1)),oM 8 T31] [0,8,9])
(.reg 5 [oM 32 T9,oQ 33 (.bin .sub T32 (cI 1)),oM 9 T33] [0,8,9])))))))))
theorem fok154:FOK Tryz.prog 154 (34,ic154,[]):=ak2 [] Tryz.func154
def ic155:IC :=
(.seq
(.reg 0 [oM 8 (cB false)] [0,1,2,3])
(.seq
(.reg 1 [oM 13 T1,oQ 14 (.bin .add T13 (cI 1)),oM 9 T14] [0,1,2,3,9])
(.seq
(.seq
(.reg 2 [oM 10 (cI 0)] [0,1,2,3,9,10])
(.block 0
(.loop
(.seq
(.seq
(.reg 3 [oM 15 T10,oQ 16 (.bin .lss T15 (cI 5))] [0,1,2,3,9,10,16])
(.cond T16
.skip
(.exit 0)))
(.seq
(.block 1
(.seq
(.block 2
(.loop
(.seq
(.seq
(.an5 5 [oM 19 T9,oM 20 T2,oQ 21 (.bin .lss T19 T20),oM 22 T21,gQ 23 22 true (.mov T3),gQ 24 22 true (.mov T0),gQ 25 22 true (.mov T9),gQ 26 22 true (.ab5 1 T24 T25),gQ 27 22 true (.load none T26),gQ 28 22 true (.mov T0),gQ 29 22 true (.mov T9),gQ 30 22 true (.bin .sub T29 (cI 1)),gQ 31 22 true (.ab5 1 T28 T30),gQ 32 22 true (.load none T31),gK 33 22 true (.aj2 T23 [T27,T32]),gQ 34 22 true (.bin .lss T33 (cI 0)),gQ 35 22 true (.not T34),oQ 36 (.pick T22 T35 (cB false))] false [0,1,2,3,9,10,36])
(.cond T36
.skip
(.exit 2)))
(.block 3
(.reg 6 [oM 37 T9,oQ 38 (.bin .add T37 (cI 1)),oM 9 T38] [0,1,2,3,9,10])))))
(.seq
(.seq
(.reg 7 [oM 39 T9,oM 40 T2,oQ 41 (.bin .eql T39 T40)] [0,1,2,3,9,10,41])
(.cond T41
(.seq
(.reg 8 [oM 8 (cB true)] [8])
.ret)
.skip))
(.seq
(.seq
(.reg 9 [oM 42 T2,oM 43 T1,oQ 44 (.bin .sub T42 T43),oQ 45 (.bin .lss T44 (cI 50))] [0,1,2,3,9,10,45])
(.cond T45
(.seq
(.reg 10 [oM 8 (cB false)] [8])
.ret)
.skip))
(.seq
(.an5 11 [oM 46 T0,oM 47 T9,oM 48 T0,oM 49 T9,oQ 50 (.bin .sub T49 (cI 1)),oM 51 T0,oM 52 T9,oQ 53 (.bin .sub T52 (cI 1)),oQ 54 (.ab5 1 T51 T53),oQ 55 (.load none T54),oM 56 T0,oM 57 T9,oQ 58 (.ab5 1 T56 T57),oQ 59 (.load none T58),oQ 60 (.ab5 1 T46 T47),oN (.store 1 T60 T55),oQ 61 (.ab5 1 T48 T50),oN (.store 1 T61 T59)] false [0,1,2,3,9,10])
(.seq
(.seq
(.reg 12 [oM 62 T9,oM 63 T1,oQ 64 (.bin .sub T62 T63),oQ 65 (.bin .geq T64 (cI 2))] [0,1,2,3,9,10,65])
(.cond T65
(.seq
(.reg 13 [oM 66 T9,oQ 67 (.bin .sub T66 (cI 1)),oM 11 T67] [0,1,2,3,9,10,11])
(.block 4
(.loop
(.seq
(.seq
(.reg 14 [oM 68 T11,oQ 69 (.bin .geq T68 (cI 1))] [0,1,2,3,9,10,11,69])
(.cond T69
.skip
(.exit 4)))
(.seq
(.block 5
(.seq
(.seq
(.an5 16 [oM 72 T3,oM 73 T0,oM 74 T11,oQ 75 (.ab5 1 T73 T74),oQ 76 (.load none T75),oM 77 T0,oM 78 T11,oQ 79 (.bin .sub T78 (cI 1)),oQ 80 (.ab5 1 T77 T79),oQ 81 (.load none T80),oK 82 (.aj2 T72 [T76,T81]),oQ 83 (.bin .lss T82 (cI 0)),oQ 84 (.not T83)] false [0,1,2,3,9,10,11,84])
(.cond T84
(.exit 4)
.skip))
(.an5 17 [oM 85 T0,oM 86 T11,oM 87 T0,oM 88 T11,oQ 89 (.bin .sub T88 (cI 1)),oM 90 T0,oM 91 T11,oQ 92 (.bin .sub T91 (cI 1)),oQ 93 (.ab5 1 T90 T92),oQ 94 (.load none T93),oM 95 T0,oM 96 T11,oQ 97 (.ab5 1 T95 T96),oQ 98 (.load none T97),oQ 99 (.ab5 1 T85 T86),oN (.store 1 T99 T94),oQ 100 (.ab5 1 T87 T89),oN (.store 1 T100 T98)] false [0,1,2,3,9,10,11])))
(.reg 15 [oM 70 T11,oQ 71 (.bin .sub T70 (cI 1)),oM 11 T71] [0,1,2,3,9,10,11]))))))
.skip))
(.seq
(.reg 18 [oM 101 T2,oM 102 T9,oQ 103 (.bin .sub T101 T102),oQ 104 (.bin .geq T103 (cI 2))] [0,1,2,3,9,10,104])
(.cond T104
(.seq
(.reg 19 [oM 105 T9,oQ 106 (.bin .add T105 (cI 1)),oM 12 T106] [0,1,2,3,9,10,12])
(.block 6
(.loop
(.seq
(.seq
(.reg 20 [oM 107 T12,oM 108 T2,oQ 109 (.bin .lss T107 T108)] [0,1,2,3,9,10,12,109])
(.cond T109
.skip
(.exit 6)))
(.seq
(.block 7
(.seq
(.seq
(.an5 22 [oM 112 T3,oM 113 T0,oM 114 T12,oQ 115 (.ab5 1 T113 T114),oQ 116 (.load none T115),oM 117 T0,oM 118 T12,oQ 119 (.bin .sub T118 (cI 1)),oQ 120 (.ab5 1 T117 T119),oQ 121 (.load none T120),oK 122 (.aj2 T112 [T116,T121]),oQ 123 (.bin .lss T122 (cI 0)),oQ 124 (.not T123)] false [0,1,2,3,9,10,12,124])
(.cond T124
(.exit 6)
.skip))
(.an5 23 [oM 125 T0,oM 126 T12,oM 127 T0,oM 128 T12,oQ 129 (.bin .sub T128 (cI 1)),oM 130 T0,oM 131 T12,oQ 132 (.bin .sub T131 (cI 1)),oQ 133 (.ab5 1 T130 T132),oQ 134 (.load none T133),oM 135 T0,oM 136 T12,oQ 137 (.ab5 1 T135 T136),oQ 138 (.load none T137),oQ 139 (.ab5 1 T125 T126),oN (.store 1 T139 T134),oQ 140 (.ab5 1 T127 T129),oN (.store 1 T140 T138)] false [0,1,2,3,9,10,12])))
(.reg 21 [oM 110 T12,oQ 111 (.bin .add T110 (cI 1)),oM 12 T111] [0,1,2,3,9,10,12]))))))
.skip))))))))
(.reg 4 [oM 17 T10,oQ 18 (.bin .add T17 (cI 1)),oM 10 T18] [0,1,2,3,9,10]))))))
(.seq
(.reg 24 [oM 8 (cB false)] [8])
.ret))))
theorem fok155:FOK Tryz.prog 155 (141,ic155,[(.t 8)]):=ak2 [] Tryz.func155
end Go.Id.Tryz
