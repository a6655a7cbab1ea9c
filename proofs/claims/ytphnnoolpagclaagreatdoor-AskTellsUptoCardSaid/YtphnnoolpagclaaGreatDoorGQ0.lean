/- The compiled codes of functions,written by a program out of the given form. Conditions: none. -/
import Derived.Test.YtphnnoolpagclaaGreatDoorFwZb
import Derived.Test.YtphnnoolpagclaaGreatDoorProg
set_option linter.all false
namespace Go.Id.Tryz
open Go Go.Id Go.Proofs
def ig7:List Nat:=List.range 249
def ic3:IC :=
(.seq
(.reg 0 [oK 8 (.ai8 T2),oM 12 (cB false)] [0,1,3,4,5,8])
(.seq
(.seq
(.reg 1 [oM 19 T0,oM 20 T1,oQ 21 (.load (some 5) T8),oK 22 (.call 4 [T19,T20,T21]),oM 23 T22,gQ 24 23 false (.mov T5),gQ 25 23 false (.len 0 T24),gQ 26 23 false (.bin .gtr T25 (cI 100)),oQ 27 (.pick T23 (cB true) T26)] [0,1,3,4,5,8,27])
(.cond T27
(.seq
(.reg 2 [oM 12 (cB true)] [12])
.ret)
.skip))
(.seq
(.reg 3 [oM 29 T0,oM 30 T1,oK 31 (.call 5 [T29,T30]),oM 28 T31,oQ 32 (.ext 0 T28),oQ 33 (.ext 1 T28),oM 13 T32,oM 14 T33] [0,1,3,4,5,8,13,14])
(.seq
(.seq
(.reg 4 [oM 34 T14,oQ 35 (.bin .neq T34 (cI 0))] [0,1,3,4,5,8,13,35])
(.cond T35
(.seq
(.reg 5 [oM 12 (cB true)] [12])
.ret)
.skip))
(.seq
(.reg 6 [oM 37 T13,oQ 38 (.load (some 5) T8),oK 39 (.call 6 [T37,T38]),oM 36 T39,oQ 40 (.ext 0 T36),oQ 41 (.ext 1 T36),oM 15 T40,oM 14 T41] [0,1,3,4,5,8,14,15])
(.seq
(.ar4 7 [oM 43 T0,oM 44 T1,oK 45 (.af1 8 [T43,T44]),oM 46 T1,oQ 47 (.len 0 T46),oQ 48 (.load (some 5) T8),oK 49 (.af1 7 [T45,T47,T48]),oM 42 T49,oQ 50 (.ext 0 T42),oQ 51 (.ext 1 T42),oM 16 T50,oM 17 T51] false [3,4,5,8,14,15,16,17])
(.seq
(.seq
(.reg 8 [oM 52 T14,oM 53 T17,oQ 54 (.bin .neq T52 T53),oM 55 T54,gQ 56 55 false (.mov T14),gQ 57 55 false (.bin .neq T56 (cI 0)),oQ 58 (.pick T55 (cB true) T57)] [3,4,5,8,14,15,16,17,58])
(.cond T58
(.seq
(.reg 9 [oM 59 T14,oM 60 T17,oQ 61 (.bin .eql T59 T60),oM 62 T61,gQ 63 62 true (.mov T15),gQ 64 62 true (.aw3 (.pointer 84) false T63),oQ 65 (.pick T62 T64 (cB false)),oM 12 T65] [12])
.ret)
.skip))
(.seq
(.reg 10 [oM 18 (.f 9)] [3,4,5,8,15,16,18])
(.seq
(.ar4 11 [oM 66 T15,oK 67 (.af1 11 [T66]),oQ 68 (.load (some 5) T8),oK 69 (.af1 10 [T67,T68]),oM 70 T69,gQ 71 70 true (.mov T15),gK 72 70 true (.af1 12 [T71]),gK 73 70 true (.af1 13 [T72]),gQ 74 70 true (.mov T16),gQ 75 70 true (.ak4 T74),gQ 76 70 true (.aa6 0 T75),gQ 77 70 true (.load none T76),gQ 78 70 true (.len 0 T77),gQ 79 70 true (.bin .eql T73 T78),oQ 80 (.pick T70 T79 (cB false)),oM 81 T80,gQ 82 81 true (.mov T18),gQ 83 81 true (.mov T15),gK 84 81 true (.af1 14 [T83]),gQ 85 81 true (.mov T3),gK 86 81 true (.af1 15 [T84,T85]),gQ 87 81 true (.mov T16),gQ 88 81 true (.ak4 T87),gQ 89 81 true (.aa6 0 T88),gQ 90 81 true (.load none T89),gQ 91 81 true (.mov T3),gK 92 81 true (.af1 16 [T90,T91]),gK 93 81 true (.an1 T82 [T86,T92]),oQ 94 (.pick T81 T93 (cB false)),oM 95 T94,gQ 96 95 true (.mov T15),gQ 97 95 true (.mov T3),gK 98 95 true (.af1 17 [T96,T97]),gQ 99 95 true (.mov T16),gQ 100 95 true (.mov T3),gK 101 95 true (.af1 18 [T99,T100]),gQ 102 95 true (.eqs [0] false false T98 T101),oQ 103 (.pick T95 T102 (cB false)),oM 104 T103,gQ 105 104 true (.mov T15),gQ 106 104 true (.mov T3),gQ 107 104 true (.mov T4),gK 108 104 true (.af1 19 [T105,T106,T107]),gQ 109 104 true (.mov T16),gQ 110 104 true (.mov T3),gQ 111 104 true (.mov T4),gK 112 104 true (.af1 20 [T109,T110,T111]),gQ 113 104 true (.eqs [0] false false T108 T112),oQ 114 (.pick T104 T113 (cB false)),oM 115 T114,gQ 116 115 true (.mov T15),gQ 117 115 true (.mov T3),gK 118 115 true (.af1 21 [T116,T117]),gQ 119 115 true (.mov T16),gQ 120 115 true (.mov T3),gK 121 115 true (.af1 22 [T119,T120]),gQ 122 115 true (.eqs [0] false false T118 T121),oQ 123 (.pick T115 T122 (cB false)),oM 124 T123,gQ 125 124 true (.mov T15),gQ 126 124 true (.mov T3),gK 127 124 true (.af1 23 [T125,T126]),gQ 128 124 true (.mov T16),gQ 129 124 true (.mov T3),gK 130 124 true (.af1 24 [T128,T129]),gQ 131 124 true (.eqs [0] false false T127 T130),oQ 132 (.pick T124 T131 (cB false)),oM 133 T132,gQ 134 133 true (.mov T18),gQ 135 133 true (.mov T15),gQ 136 133 true (.mov T3),gK 137 133 true (.af1 25 [T135,T136]),gQ 138 133 true (.mov T16),gQ 139 133 true (.mov T3),gK 140 133 true (.af1 26 [T138,T139]),gK 141 133 true (.an1 T134 [T137,T140]),oQ 142 (.pick T133 T141 (cB false)),oM 143 T142,gQ 144 143 true (.mov T18),gQ 145 143 true (.mov T15),gQ 146 143 true (.mov T3),gK 147 143 true (.af1 27 [T145,T146]),gQ 148 143 true (.mov T16),gQ 149 143 true (.mov T3),gK 150 143 true (.af1 28 [T148,T149]),gK 151 143 true (.an1 T144 [T147,T150]),oQ 152 (.pick T143 T151 (cB false)),oM 153 T152,gQ 154 153 true (.mov T18),gQ 155 153 true (.mov T15),gQ 156 153 true (.mov T3),gK 157 153 true (.af1 29 [T155,T156]),gQ 158 153 true (.mov T16),gQ 159 153 true (.mov T3),gK 160 153 true (.af1 30 [T158,T159]),gK 161 153 true (.an1 T154 [T157,T160]),oQ 162 (.pick T153 T161 (cB false)),oM 163 T162,gQ 164 163 true (.mov T15),gQ 165 163 true (.mov T3),gQ 166 163 true (.mov T5),gK 167 163 true (.af1 31 [T164,T165,T166]),gQ 168 163 true (.mov T16),gQ 169 163 true (.mov T3),gQ 170 163 true (.mov T5),gK 171 163 true (.af1 32 [T168,T169,T170]),gQ 172 163 true (.eqs [0] false false T167 T171),oQ 173 (.pick T163 T172 (cB false)),oM 12 T173] false [12])
.ret)))))))))
theorem fok3:FOK Tryz.prog 3 (174,ic3,[(.t 12)]):=af6 ([1000008]++[7,8,10,11,12,13,14,15,16,17,18,19,20,21,22,23,24,25,26,27,28,29,30,31,32]) Tryz.func3 (by kernel_rfl) (by kernel_rfl) (by kernel_rfl) (by kernel_rfl)
def ic4:IC :=
(.seq
(.reg 0 [oK 5 (.ai8 T2),oM 6 (cB false)] [0,1,5])
(.seq
(.reg 1 [oM 9 T1,oK 10 (.call 33 [T9,(cI 2000)]),oM 7 T10] [0,5,7])
(.seq
(.seq
(.reg 2 [oM 8 (cI 0)] [0,5,7,8])
(.block 0
(.loop
(.seq
(.seq
(.reg 3 [oM 11 T8,oM 12 T0,oQ 13 (.len 0 T12),oQ 14 (.bin .lss T11 T13),oM 15 T14,gQ 16 15 true (.mov T7),gQ 17 15 true (.bin .lss T16 (cI 2000)),oQ 18 (.pick T15 T17 (cB false))] [0,5,7,8,18])
(.cond T18
.skip
(.exit 0)))
(.seq
(.block 1
(.reg 5 [oM 21 T7,oQ 22 (.bin .add T21 (cI 1)),oM 23 T0,oM 24 T8,oQ 25 (.ac8 2 T23 T24),oQ 26 (.aa6 1 T25),oQ 27 (.load none T26),oK 28 (.call 33 [T27,(cI 2000)]),oQ 29 (.bin .add T22 T28),oM 7 T29] [0,5,7,8]))
(.reg 4 [oM 19 T8,oQ 20 (.bin .add T19 (cI 1)),oM 8 T20] [0,5,7,8]))))))
(.seq
(.reg 6 [oM 30 T7,oQ 31 (.bin .geq T30 (cI 2000)),oM 32 T31,gQ 33 32 false (.aa6 2 T5),gQ 34 32 false (.load none T33),gQ 35 32 false (.len 0 T34),gQ 36 32 false (.bin .gtr T35 (cI 100)),oQ 37 (.pick T32 (cB true) T36),oM 38 T37,gQ 39 38 false (.aa6 3 T5),gQ 40 38 false (.load none T39),gQ 41 38 false (.len 0 T40),gQ 42 38 false (.bin .gtr T41 (cI 100)),oQ 43 (.pick T38 (cB true) T42),oM 6 T43] [6])
.ret))))
theorem fok4:FOK Tryz.prog 4 (44,ic4,[(.t 6)]):=af6 [1000005] Tryz.func4
def ic5:IC :=
(.seq
(.reg 0 [oM 4 (.c .ac2),oM 5 (cI 0)] [0,1])
(.seq
(.reg 1 [oM 14 T1,oQ 15 (.len 0 T14),oM 6 T15] [0,1,6])
(.seq
(.seq
(.reg 2 [oM 16 T0,oQ 17 (.len 0 T16),oM 18 (cI 0)] [0,1,6,16,17,18])
(.block 0
(.loop
(.seq
(.reg 3 [oQ 19 (.bin .lss T18 T17)] [0,1,6,16,17,18,19])
(.seq
(.cond T19
.skip
(.exit 0))
(.seq
(.block 1
(.seq
(.reg 4 [oQ 20 (.ac8 2 T16 T18),oQ 21 (.load (some 2) T20),oK 8 (.alloc [(zI 0),.aa1]),oN (.store 2 T8 T21)] [0,1,6,8,16,17,18])
(.reg 5 [oM 22 T6,oQ 23 (.aa6 1 T8),oQ 24 (.load none T23),oQ 25 (.len 0 T24),oQ 26 (.bin .add T22 T25),oM 6 T26] [0,1,6,16,17,18])))
(.reg 6 [oQ 27 (.bin .add T18 (cI 1)),oM 18 T27] [0,1,6,16,17,18])))))))
(.seq
(.seq
(.reg 7 [oM 28 T0,oQ 29 (.len 0 T28),oQ 30 (.bin .gtr T29 (cI 16)),oM 31 T30,gQ 32 31 false (.mov T6),gQ 33 31 false (.bin .gtr T32 (cI 256)),oQ 34 (.pick T31 (cB true) T33)] [0,1,34])
(.cond T34
(.seq
(.reg 8 [oM 4 (.c .ac2),oM 5 (cI 40)] [4,5])
.ret)
.skip))
(.seq
(.reg 9 [oM 35 T1,oQ 36 (.len 0 T35),oK 37 .bp2,oQ 38 (.bld [.aa1,(zI 0),.ah6] [⟨1,⟨1,T36⟩⟩,⟨2,⟨1,T37⟩⟩]),oK 39 (.box T38),oM 9 T39] [0,1,9])
(.seq
(.seq
(.reg 10 [oM 40 T9,oM 41 T1,oK 42 (.call 34 [T40,T41,(cI (-1)),(cI 1025)]),oM 10 T42] [0,9,10])
(.seq
(.reg 11 [oM 43 T10,oQ 44 (.bin .neq T43 (cI 0))] [0,9,10,44])
(.cond T44
(.seq
(.reg 12 [oM 45 T10,oM 4 (.c .ac2),oM 5 T45] [4,5])
.ret)
.skip)))
(.seq
(.seq
(.reg 13 [oM 46 T0,oQ 47 (.len 0 T46),oM 48 (cI 0)] [9,46,47,48])
(.block 2
(.loop
(.seq
(.reg 14 [oQ 49 (.bin .lss T48 T47)] [9,46,47,48,49])
(.seq
(.cond T49
.skip
(.exit 2))
(.seq
(.block 3
(.seq
(.reg 15 [oM 50 T48,oQ 51 (.ac8 2 T46 T48),oQ 52 (.load (some 2) T51),oK 12 (.alloc [(zI 0),.aa1]),oM 11 T50,oN (.store 2 T12 T52)] [9,11,12,46,47,48])
(.seq
(.seq
(.reg 16 [oQ 53 (.aa6 0 T12),oQ 54 (.load none T53),oQ 55 (.bin .lss T54 (cI 0)),oM 56 T55,gQ 57 56 false (.aa6 0 T12),gQ 58 56 false (.load none T57),gQ 59 56 false (.bin .gtr T58 (cI 1024)),oQ 60 (.pick T56 (cB true) T59)] [9,11,12,46,47,48,60])
(.cond T60
(.seq
(.reg 17 [oM 4 (.c .ac2),oM 5 (cI 4)] [4,5])
.ret)
.skip))
(.seq
(.reg 18 [oM 61 T9,oQ 62 (.aa6 1 T12),oQ 63 (.load none T62),oM 64 T11,oQ 65 (.aa6 0 T12),oQ 66 (.load none T65),oK 67 (.call 34 [T61,T63,T64,T66]),oM 13 T67] [9,13,46,47,48])
(.seq
(.reg 19 [oM 68 T13,oQ 69 (.bin .neq T68 (cI 0))] [9,13,46,47,48,69])
(.cond T69
(.seq
(.reg 20 [oM 70 T13,oM 4 (.c .ac2),oM 5 T70] [4,5])
.ret)
.skip))))))
(.reg 21 [oQ 71 (.bin .add T48 (cI 1)),oM 48 T71] [9,46,47,48])))))))
(.seq
(.reg 22 [oM 72 T9,oM 4 T72,oM 5 (cI 0)] [4,5])
.ret))))))))
theorem fok5:FOK Tryz.prog 5 (73,ic5,[(.t 4),(.t 5)]):=af6 [] Tryz.func5
def ic6:IC :=
(.seq
(.reg 0 [oK 2 (.ai8 T0),oK 3 (.ai8 T1),oM 4 (.c .ac2),oM 5 (cI 0)] [2,3])
(.seq
(.block 0
(.seq
(.reg 1 [oQ 13 (.load none T2),oQ 14 (.aw3 (.pointer 63) false T13),oM 12 T14] [2,3,12])
(.cond T12
(.seq
(.reg 2 [oM 4 (.c .ac2),oM 5 (cI 2)] [4,5])
.ret)
(.seq
(.reg 3 [oQ 16 (.aa6 0 T3),oQ 17 (.load none T16),oK 18 (.call 35 [T17]),oQ 19 (.not T18),oM 20 T19,gQ 21 20 false (.aa6 4 T3),gQ 22 20 false (.load none T21),gQ 23 20 false (.bin .lss T22 (cI 0)),oQ 24 (.pick T20 (cB true) T23),oM 25 T24,gQ 26 25 false (.aa6 4 T3),gQ 27 25 false (.load none T26),gQ 28 25 false (.bin .gtr T27 (cI 1099511627776)),oQ 29 (.pick T25 (cB true) T28),oM 15 T29] [2,3,15])
(.cond T15
(.seq
(.reg 4 [oM 4 (.c .ac2),oM 5 (cI 1)] [4,5])
.ret)
(.seq
(.reg 5 [oQ 31 (.aa6 2 T3),oQ 32 (.load none T31),oQ 33 (.len 0 T32),oQ 34 (.bin .gtr T33 (cI 64)),oM 35 T34,gQ 36 35 false (.aa6 3 T3),gQ 37 35 false (.load none T36),gQ 38 35 false (.len 0 T37),gQ 39 35 false (.bin .gtr T38 (cI 64)),oQ 40 (.pick T35 (cB true) T39),oM 30 T40] [2,3,30])
(.cond T30
(.seq
(.reg 6 [oM 4 (.c .ac2),oM 5 (cI 40)] [4,5])
.ret)
(.seq
(.reg 7 [oQ 42 (.aa6 2 T3),oQ 43 (.load none T42),oK 44 (.call 36 [T43,(.f 37)]),oM 41 T44] [2,3,41])
(.cond T41
(.seq
(.reg 8 [oM 4 (.c .ac2),oM 5 (cI 4)] [4,5])
.ret)
(.seq
(.reg 9 [oQ 46 (.aa6 3 T3),oQ 47 (.load none T46),oQ 48 (.mkf 40 [] [T3,T2]),oK 49 (.call 39 [T47,T48]),oM 45 T49] [2,3,45])
(.cond T45
(.seq
(.reg 10 [oM 4 (.c .ac2),oM 5 (cI 5)] [4,5])
.ret)
.skip)))))))))))
(.seq
(.reg 11 [oQ 51 (.load none T2),oK 52 (.call 43 [T51]),oM 50 T52,oQ 53 (.ext 0 T50),oQ 54 (.ext 1 T50),oM 6 T53,oM 7 T54] [2,3,6,7])
(.seq
(.seq
(.reg 12 [oM 55 T7,oQ 56 (.bin .neq T55 (cI 0))] [2,3,6,7,56])
(.cond T56
(.seq
(.reg 13 [oM 57 T7,oM 4 (.c .ac2),oM 5 T57] [4,5])
.ret)
.skip))
(.seq
(.ar4 14 [oQ 58 (.load none T2),oM 59 T6,oQ 60 (.load (some 5) T3),oK 61 (.af1 44 [T60]),oQ 62 (.bld [.ac2,.ac2,(zU 0),(.bool false),.aa1,.aa1,(zI 0),.aa1] [⟨0,⟨1,T58⟩⟩,⟨1,⟨1,T59⟩⟩,⟨2,⟨5,T61⟩⟩]),oK 63 (.box T62),oM 8 T63] false [2,8])
(.seq
(.seq
(.reg 15 [oQ 64 (.load none T2),oK 65 (.call 13 [T64]),oM 66 (cI 0)] [2,8,65,66])
(.block 1
(.loop
(.seq
(.reg 16 [oQ 67 (.bin .lss T66 T65)] [2,8,65,66,67])
(.seq
(.cond T67
.skip
(.exit 1))
(.seq
(.block 2
(.seq
(.reg 17 [oM 68 T66,oM 9 T68] [2,8,9,65,66])
(.seq
(.reg 18 [oQ 70 (.load none T2),oM 71 T9,oK 72 (.call 45 [T70,T71]),oM 69 T72,oQ 73 (.ext 0 T69),oQ 74 (.ext 1 T69),oK 10 (.alloc [(.str []),(zI 0),(.str []),(.str []),(zU 0),(.str []),.aa1,.aa1,.aa1,.aa1,.aa1,.aa1,.aa1,.aa1,.aa1]),oN (.store 15 T10 T73),oM 11 T74] [2,8,10,11,65,66])
(.seq
(.seq
(.reg 19 [oM 75 T11,oQ 76 (.bin .neq T75 (cI 0))] [2,8,10,11,65,66,76])
(.cond T76
(.seq
(.reg 20 [oM 77 T11,oM 4 (.c .ac2),oM 5 T77] [4,5])
.ret)
.skip))
(.ar4 21 [oM 78 T8,oM 79 T8,oQ 80 (.ak4 T79),oQ 81 (.aa6 7 T80),oQ 82 (.load none T81),oQ 83 (.load (some 15) T10),oK 84 (.bb4 15 1 [(.str []),(zI 0),(.str []),(.str []),(zU 0),(.str []),.aa1,.aa1,.aa1,.aa1,.aa1,.aa1,.aa1,.aa1,.aa1] [⟨0,⟨15,T83⟩⟩]),oK 85 (.app 15 T82 T84),oQ 86 (.ak4 T78),oQ 87 (.aa6 7 T86),oN (.store 1 T87 T85)] true [2,8,65,66])))))
(.reg 22 [oQ 88 (.bin .add T66 (cI 1)),oM 66 T88] [2,8,65,66])))))))
(.seq
(.reg 23 [oM 89 T8,oM 4 T89,oM 5 (cI 0)] [4,5])
.ret)))))))
theorem fok6:FOK Tryz.prog 6 (90,ic6,[(.t 4),(.t 5)]):=af6 ([1000002,1000003,1000084]++[44]) Tryz.func6 (by kernel_rfl) (by kernel_rfl) (by kernel_rfl) (by kernel_rfl)
def ic7:IC :=
(.seq
(.reg 0 [oK 5 (.ai8 T2),oM 6 (.c .ac2),oM 7 (cI 0)] [0,1,5])
(.seq
(.seq
(.reg 1 [oQ 12 (.aa6 0 T5),oQ 13 (.load none T12),oK 14 (.call 46 [T13]),oQ 15 (.not T14),oM 16 T15,gQ 17 16 false (.aa6 4 T5),gQ 18 16 false (.load none T17),gQ 19 16 false (.bin .lss T18 (cI 0)),oQ 20 (.pick T16 (cB true) T19),oM 21 T20,gQ 22 21 false (.aa6 4 T5),gQ 23 21 false (.load none T22),gQ 24 21 false (.bin .gtr T23 (cI 1099511627776)),oQ 25 (.pick T21 (cB true) T24)] [0,1,5,25])
(.cond T25
(.seq
(.reg 2 [oM 6 (.c .ac2),oM 7 (cI 1)] [6,7])
.ret)
.skip))
(.seq
(.seq
(.reg 3 [oQ 26 (.aa6 2 T5),oQ 27 (.load none T26),oQ 28 (.len 0 T27),oQ 29 (.bin .gtr T28 (cI 64)),oM 30 T29,gQ 31 30 false (.aa6 3 T5),gQ 32 30 false (.load none T31),gQ 33 30 false (.len 0 T32),gQ 34 30 false (.bin .gtr T33 (cI 64)),oQ 35 (.pick T30 (cB true) T34)] [0,1,5,35])
(.cond T35
(.seq
(.reg 4 [oM 6 (.c .ac2),oM 7 (cI 40)] [6,7])
.ret)
.skip))
(.seq
(.seq
(.reg 5 [oM 8 (cI 0)] [0,1,5,8])
(.block 0
(.loop
(.seq
(.seq
(.reg 6 [oM 36 T8,oQ 37 (.aa6 2 T5),oQ 38 (.load none T37),oQ 39 (.len 0 T38),oQ 40 (.bin .lss T36 T39)] [0,1,5,8,40])
(.cond T40
.skip
(.exit 0)))
(.seq
(.block 1
(.seq
(.reg 8 [oQ 43 (.aa6 2 T5),oQ 44 (.load none T43),oM 45 T8,oQ 46 (.ac8 6 T44 T45),oQ 47 (.aa6 0 T46),oQ 48 (.load none T47),oQ 49 (.bin .lss T48 (.c (zU 1))),oM 50 T49,gQ 51 50 false (.aa6 2 T5),gQ 52 50 false (.load none T51),gQ 53 50 false (.mov T8),gQ 54 50 false (.ac8 6 T52 T53),gQ 55 50 false (.aa6 0 T54),gQ 56 50 false (.load none T55),gQ 57 50 false (.bin .gtr T56 (.c (zU 4))),oQ 58 (.pick T50 (cB true) T57),oM 59 T58,gQ 60 59 false (.aa6 2 T5),gQ 61 59 false (.load none T60),gQ 62 59 false (.mov T8),gQ 63 59 false (.ac8 6 T61 T62),gQ 64 59 false (.aa6 1 T63),gQ 65 59 false (.load (some 5) T64),gK 66 59 false (.call 47 [T65]),gQ 67 59 false (.not T66),oQ 68 (.pick T59 (cB true) T67)] [0,1,5,8,68])
(.cond T68
(.seq
(.reg 9 [oM 6 (.c .ac2),oM 7 (cI 4)] [6,7])
.ret)
.skip)))
(.reg 7 [oM 41 T8,oQ 42 (.bin .add T41 (cI 1)),oM 8 T42] [0,1,5,8]))))))
(.seq
(.seq
(.reg 10 [oM 9 (cI 0)] [0,1,5,9])
(.block 2
(.loop
(.seq
(.seq
(.reg 11 [oM 69 T9,oQ 70 (.aa6 3 T5),oQ 71 (.load none T70),oQ 72 (.len 0 T71),oQ 73 (.bin .lss T69 T72)] [0,1,5,9,73])
(.cond T73
.skip
(.exit 2)))
(.seq
(.block 3
(.seq
(.reg 13 [oQ 76 (.aa6 3 T5),oQ 77 (.load none T76),oM 78 T9,oQ 79 (.ac8 2 T77 T78),oQ 80 (.load (some 2) T79),oK 10 (.alloc [(zU 0),(zI 0)]),oN (.store 2 T10 T80)] [0,1,5,9,10])
(.seq
(.reg 14 [oQ 81 (.aa6 1 T10),oQ 82 (.load none T81),oQ 83 (.bin .geq T82 (cI 0)),oM 84 T83,gQ 85 84 true (.aa6 0 T10),gQ 86 84 true (.load none T85),gQ 87 84 true (.bin .eql T86 (.c (zU 1))),gQ 88 84 true (.mov T87),gQ 89 88 true (.aa6 1 T10),gQ 90 88 true (.load none T89),gQ 91 88 true (.aa6 2 T5),gQ 92 88 true (.load none T91),gQ 93 88 true (.len 0 T92),gQ 94 88 true (.bin .lss T90 T93),gQ 95 84 true (.pick T88 T94 (cB false)),gQ 96 84 true (.mov T95),gQ 97 96 false (.aa6 0 T10),gQ 98 96 false (.load none T97),gQ 99 96 false (.bin .gtr T98 (.c (zU 1))),gQ 100 96 false (.mov T99),gQ 101 100 true (.aa6 0 T10),gQ 102 100 true (.load none T101),gQ 103 100 true (.bin .leq T102 (.c (zU 4))),gQ 104 96 false (.pick T100 T103 (cB false)),gQ 105 96 false (.mov T104),gQ 106 105 true (.aa6 1 T10),gQ 107 105 true (.load none T106),gQ 108 105 true (.mov T1),gQ 109 105 true (.bin .lss T107 T108),gQ 110 96 false (.pick T105 T109 (cB false)),gQ 111 84 true (.pick T96 (cB true) T110),oQ 112 (.pick T84 T111 (cB false)),oM 11 T112] [0,1,5,9,11])
(.seq
(.reg 15 [oM 113 T11,oQ 114 (.not T113)] [0,1,5,9,114])
(.cond T114
(.seq
(.reg 16 [oM 6 (.c .ac2),oM 7 (cI 5)] [6,7])
.ret)
.skip)))))
(.reg 12 [oM 74 T9,oQ 75 (.bin .add T74 (cI 1)),oM 9 T75] [0,1,5,9]))))))
(.seq
(.reg 17 [oM 115 T0,oM 116 T1,oQ 117 (.load (some 5) T5),oQ 118 (.bld [.aa1,(zI 0),(zU 0),(.bool false),.aa1,.aa1,(zI 0)] [⟨0,⟨1,T115⟩⟩,⟨1,⟨1,T116⟩⟩,⟨2,⟨5,T117⟩⟩]),oK 119 (.ai8 T118),oM 6 T119,oM 7 (cI 0)] [6,7])
.ret))))))
theorem fok7:FOK Tryz.prog 7 (120,ic7,[(.t 6),(.t 7)]):=af6 [1000005,1000119] Tryz.func7
def ic8:IC :=
(.seq
(.reg 0 [oM 4 (.c .aa1)] [0,1])
(.seq
(.reg 1 [oK 7 (.bsl 15 0 [(.str []),(zI 0),(.str []),(.str []),(zU 0),(.str []),.aa1,.aa1,.aa1,.aa1,.aa1,.aa1,.aa1,.aa1,.aa1] []),oM 8 T1,oK 9 (.app 15 T7 T8),oM 5 T9] [0,5])
(.seq
(.seq
(.reg 2 [oM 6 (cI 0)] [0,5,6])
(.block 0
(.loop
(.seq
(.seq
(.reg 3 [oM 10 T6,oM 11 T0,oQ 12 (.len 0 T11),oQ 13 (.bin .lss T10 T12)] [0,5,6,13])
(.cond T13
.skip
(.exit 0)))
(.seq
(.block 1
(.reg 5 [oM 16 T5,oM 17 T0,oM 18 T6,oQ 19 (.ac8 2 T17 T18),oQ 20 (.aa6 1 T19),oQ 21 (.load none T20),oK 22 (.app 15 T16 T21),oM 5 T22] [0,5,6]))
(.reg 4 [oM 14 T6,oQ 15 (.bin .add T14 (cI 1)),oM 6 T15] [0,5,6]))))))
(.seq
(.reg 6 [oM 23 T5,oM 4 T23] [4])
.ret))))
theorem fok8:FOK Tryz.prog 8 (24,ic8,[(.t 4)]):=af6 [] Tryz.func8
def ic9:IC :=
(.seq
(.reg 0 [oM 4 (cB false)] [0,1])
(.seq
(.seq
(.reg 1 [oM 6 T0,oQ 7 (.len 0 T6),oM 8 T1,oQ 9 (.len 0 T8),oQ 10 (.bin .neq T7 T9)] [0,1,10])
(.cond T10
(.seq
(.reg 2 [oM 4 (cB false)] [4])
.ret)
.skip))
(.seq
(.seq
(.reg 3 [oM 5 (cI 0)] [0,1,5])
(.block 0
(.loop
(.seq
(.seq
(.reg 4 [oM 11 T5,oM 12 T0,oQ 13 (.len 0 T12),oQ 14 (.bin .lss T11 T13)] [0,1,5,14])
(.cond T14
.skip
(.exit 0)))
(.seq
(.block 1
(.seq
(.ar4 6 [oM 17 T0,oM 18 T5,oQ 19 (.ac8 1 T17 T18),oQ 20 (.load none T19),oM 21 T1,oM 22 T5,oQ 23 (.ac8 1 T21 T22),oQ 24 (.load none T23),oQ 25 (.bin .neq T20 T24)] false [0,1,5,25])
(.cond T25
(.seq
(.reg 7 [oM 4 (cB false)] [4])
.ret)
.skip)))
(.reg 5 [oM 15 T5,oQ 16 (.bin .add T15 (cI 1)),oM 5 T16] [0,1,5]))))))
(.seq
(.reg 8 [oM 4 (cB true)] [4])
.ret))))
theorem fok9:FOK Tryz.prog 9 (26,ic9,[(.t 4)]):=af6 [] Tryz.func9
def ic10:IC :=
(.seq
(.reg 0 [oK 2 (.ai8 T0),oK 3 (.ai8 T1),oM 4 (cB false)] [2,3])
(.seq
(.seq
(.reg 1 [oQ 7 (.aa6 0 T2),oQ 8 (.load none T7),oQ 9 (.aa6 0 T3),oQ 10 (.load none T9),oQ 11 (.bin .neq T8 T10),oM 12 T11,gQ 13 12 false (.aa6 1 T2),gQ 14 12 false (.load none T13),gQ 15 12 false (.aa6 1 T3),gQ 16 12 false (.load none T15),gQ 17 12 false (.eqs [0] false true T14 T16),oQ 18 (.pick T12 (cB true) T17),oM 19 T18,gQ 20 19 false (.aa6 4 T2),gQ 21 19 false (.load none T20),gQ 22 19 false (.aa6 4 T3),gQ 23 19 false (.load none T22),gQ 24 19 false (.bin .neq T21 T23),oQ 25 (.pick T19 (cB true) T24),oM 26 T25,gQ 27 26 false (.aa6 2 T2),gQ 28 26 false (.load none T27),gQ 29 26 false (.len 0 T28),gQ 30 26 false (.aa6 2 T3),gQ 31 26 false (.load none T30),gQ 32 26 false (.len 0 T31),gQ 33 26 false (.bin .neq T29 T32),oQ 34 (.pick T26 (cB true) T33),oM 35 T34,gQ 36 35 false (.aa6 3 T2),gQ 37 35 false (.load none T36),gQ 38 35 false (.len 0 T37),gQ 39 35 false (.aa6 3 T3),gQ 40 35 false (.load none T39),gQ 41 35 false (.len 0 T40),gQ 42 35 false (.bin .neq T38 T41),oQ 43 (.pick T35 (cB true) T42)] [2,3,43])
(.cond T43
(.seq
(.reg 2 [oM 4 (cB false)] [4])
.ret)
.skip))
(.seq
(.seq
(.reg 3 [oM 5 (cI 0)] [2,3,5])
(.block 0
(.loop
(.seq
(.seq
(.reg 4 [oM 44 T5,oQ 45 (.aa6 2 T2),oQ 46 (.load none T45),oQ 47 (.len 0 T46),oQ 48 (.bin .lss T44 T47)] [2,3,5,48])
(.cond T48
.skip
(.exit 0)))
(.seq
(.block 1
(.seq
(.ar4 6 [oQ 51 (.aa6 2 T2),oQ 52 (.load none T51),oM 53 T5,oQ 54 (.ac8 6 T52 T53),oQ 55 (.load (some 6) T54),oQ 56 (.aa6 2 T3),oQ 57 (.load none T56),oM 58 T5,oQ 59 (.ac8 6 T57 T58),oQ 60 (.load (some 6) T59),oQ 61 (.eqs [1,2,1,1,2,2] true true T55 T60)] false [2,3,5,61])
(.cond T61
(.seq
(.reg 7 [oM 4 (cB false)] [4])
.ret)
.skip)))
(.reg 5 [oM 49 T5,oQ 50 (.bin .add T49 (cI 1)),oM 5 T50] [2,3,5]))))))
(.seq
(.seq
(.reg 8 [oM 6 (cI 0)] [2,3,6])
(.block 2
(.loop
(.seq
(.seq
(.reg 9 [oM 62 T6,oQ 63 (.aa6 3 T2),oQ 64 (.load none T63),oQ 65 (.len 0 T64),oQ 66 (.bin .lss T62 T65)] [2,3,6,66])
(.cond T66
.skip
(.exit 2)))
(.seq
(.block 3
(.seq
(.ar4 11 [oQ 69 (.aa6 3 T2),oQ 70 (.load none T69),oM 71 T6,oQ 72 (.ac8 2 T70 T71),oQ 73 (.load (some 2) T72),oQ 74 (.aa6 3 T3),oQ 75 (.load none T74),oM 76 T6,oQ 77 (.ac8 2 T75 T76),oQ 78 (.load (some 2) T77),oQ 79 (.eqs [1,1] true true T73 T78)] false [2,3,6,79])
(.cond T79
(.seq
(.reg 12 [oM 4 (cB false)] [4])
.ret)
.skip)))
(.reg 10 [oM 67 T6,oQ 68 (.bin .add T67 (cI 1)),oM 6 T68] [2,3,6]))))))
(.seq
(.reg 13 [oM 4 (cB true)] [4])
.ret)))))
theorem fok10:FOK Tryz.prog 10 (80,ic10,[(.t 4)]):=af6 [1000002,1000003] Tryz.func10
def ic11:IC :=
(.seq
(.reg 0 [oK 2 (.alloc [(zU 0),(.bool false),.aa1,.aa1,(zI 0)])] [0,2])
(.seq
(.seq
(.reg 1 [oM 3 T0,oQ 4 (.aw3 (.pointer 84) false T3)] [0,2,4])
(.cond T4
(.seq
(.reg 2 [oQ 5 (.bld [(zU 0),(.bool false),.aa1,.aa1,(zI 0)] []),oN (.store 5 T2 T5)] [2])
.ret)
.skip))
(.seq
(.reg 3 [oM 6 T0,oQ 7 (.ak4 T6),oQ 8 (.aa6 2 T7),oQ 9 (.load (some 5) T8),oK 10 (.call 44 [T9]),oN (.store 5 T2 T10)] [2])
.ret)))
theorem fok11:FOK Tryz.prog 11 (11,ic11,[(.cell (some 5) 2)]):=af6 [] Tryz.func11
def ic12:IC :=
(.seq
(.reg 0 [oM 2 (.c .ac2)] [0])
(.seq
(.seq
(.reg 1 [oM 3 T0,oQ 4 (.aw3 (.pointer 84) false T3)] [0,4])
(.cond T4
(.seq
(.reg 2 [oM 2 (.c .ac2)] [2])
.ret)
.skip))
(.seq
(.reg 3 [oM 5 T0,oQ 6 (.ak4 T5),oQ 7 (.aa6 0 T6),oQ 8 (.load none T7),oM 2 T8] [2])
.ret)))
theorem fok12:FOK Tryz.prog 12 (9,ic12,[(.t 2)]):=af6 [] Tryz.func12
def ic13:IC :=
(.seq
(.reg 0 [oM 2 (cI 0)] [0])
(.seq
(.seq
(.reg 1 [oM 3 T0,oQ 4 (.aw3 (.pointer 63) false T3)] [0,4])
(.cond T4
(.seq
(.reg 2 [oM 2 (cI 0)] [2])
.ret)
.skip))
(.seq
(.reg 3 [oM 5 T0,oQ 6 (.ak4 T5),oQ 7 (.aa6 0 T6),oQ 8 (.load none T7),oQ 9 (.len 0 T8),oM 2 T9] [2])
.ret)))
theorem fok13:FOK Tryz.prog 13 (10,ic13,[(.t 2)]):=af6 [] Tryz.func13
def ic14:IC :=
(.seq
(.reg 0 [oM 2 (.c .ac2)] [0])
(.seq
(.seq
(.reg 1 [oM 3 T0,oQ 4 (.aw3 (.pointer 84) false T3)] [0,4])
(.cond T4
(.seq
(.reg 2 [oM 2 (.c .ac2)] [2])
.ret)
.skip))
(.seq
(.reg 3 [oM 5 T0,oQ 6 (.ak4 T5),oQ 7 (.aa6 1 T6),oQ 8 (.load none T7),oM 2 T8] [2])
.ret)))
theorem fok14:FOK Tryz.prog 14 (9,ic14,[(.t 2)]):=af6 [] Tryz.func14
def ic15:IC :=
(.seq
(.reg 0 [oK 2 (.ai8 T0),oK 3 (.ai8 T1),oM 4 (.c .aa1)] [2,3])
(.seq
(.seq
(.reg 1 [oQ 5 (.load none T2),oQ 6 (.load none T3),oK 7 (.call 48 [T5,T6]),oQ 8 (.not T7)] [2,3,8])
(.cond T8
(.seq
(.reg 2 [oM 4 (.c .aa1)] [4])
.ret)
.skip))
(.seq
(.ar4 3 [oQ 9 (.load none T2),oQ 10 (.load none T2),oQ 11 (.ak4 T10),oQ 12 (.aa6 3 T11),oQ 13 (.load none T12),oQ 14 (.load none T2),oQ 15 (.ak4 T14),oQ 16 (.aa6 0 T15),oQ 17 (.load none T16),oQ 18 (.load none T3),oQ 19 (.ac8 15 T17 T18),oQ 20 (.aa6 0 T19),oQ 21 (.load none T20),oQ 22 (.lkp 2 .aa1 false T13 T21),oQ 23 (.mkf 50 [] [T3,T2]),oK 24 (.call 49 [T9,T22,T23]),oM 4 T24] false [4])
.ret)))
theorem fok15:FOK Tryz.prog 15 (25,ic15,[(.t 4)]):=af6 [1000002,1000003] Tryz.func15
def ic16:IC :=
(.seq
(.reg 0 [oM 4 (.c .aa1)] [0,1])
(.seq
(.reg 1 [oM 5 (.c .aa1)] [0,1,5])
(.seq
(.seq
(.reg 2 [oM 6 (cI 0)] [0,1,5,6])
(.block 0
(.loop
(.seq
(.seq
(.reg 3 [oM 7 T6,oM 8 T0,oQ 9 (.len 0 T8),oQ 10 (.bin .lss T7 T9)] [0,1,5,6,10])
(.cond T10
.skip
(.exit 0)))
(.seq
(.block 1
(.seq
(.ar4 5 [oM 13 T1,oQ 14 (.bin .geq T13 (cI 0)),oM 15 T14,gQ 16 15 true (.mov T1),gQ 17 15 true (.mov T0),gQ 18 15 true (.len 0 T17),gQ 19 15 true (.bin .lss T16 T18),oQ 20 (.pick T15 T19 (cB false)),oM 21 T20,gQ 22 21 true (.mov T6),gQ 23 21 true (.mov T1),gQ 24 21 true (.bin .neq T22 T23),oQ 25 (.pick T21 T24 (cB false)),oM 26 T25,gQ 27 26 true (.mov T0),gQ 28 26 true (.mov T6),gQ 29 26 true (.ac8 15 T27 T28),gQ 30 26 true (.load (some 15) T29),gQ 31 26 true (.mov T0),gQ 32 26 true (.mov T1),gQ 33 26 true (.ac8 15 T31 T32),gQ 34 26 true (.load (some 15) T33),gK 35 26 true (.call 52 [T30,T34]),oQ 36 (.pick T26 T35 (cB false))] false [0,1,5,6,36])
(.cond T36
(.reg 6 [oM 37 T5,oM 38 T6,oK 39 (.bb4 1 1 [(zI 0)] [⟨0,⟨1,T38⟩⟩]),oK 40 (.app 1 T37 T39),oM 5 T40] [0,1,5,6])
.skip)))
(.reg 4 [oM 11 T6,oQ 12 (.bin .add T11 (cI 1)),oM 6 T12] [0,1,5,6]))))))
(.seq
(.reg 7 [oM 41 T5,oM 4 T41] [4])
.ret))))
theorem fok16:FOK Tryz.prog 16 (42,ic16,[(.t 4)]):=af6 [1000039] Tryz.func16
def ic17:IC :=
(.seq
(.reg 0 [oM 4 (cB false)] [0,1])
(.seq
(.ar4 1 [oM 5 T0,oM 6 T1,oK 7 (.call 53 [T5,T6]),oM 8 T7,gQ 9 8 true (.mov T0),gQ 10 8 true (.ak4 T9),gQ 11 8 true (.aa6 2 T10),gQ 12 8 true (.aa6 0 T11),gQ 13 8 true (.load none T12),gQ 14 8 true (.mov T0),gQ 15 8 true (.ak4 T14),gQ 16 8 true (.aa6 7 T15),gQ 17 8 true (.load none T16),gQ 18 8 true (.mov T1),gQ 19 8 true (.ac8 15 T17 T18),gQ 20 8 true (.aa6 4 T19),gQ 21 8 true (.load none T20),gK 22 8 true (.call 54 [T13,T21]),oQ 23 (.pick T8 T22 (cB false)),oM 4 T23] false [4])
.ret))
theorem fok17:FOK Tryz.prog 17 (24,ic17,[(.t 4)]):=af6 [] Tryz.func17
def ic18:IC :=
(.seq
(.reg 0 [oM 4 (cB false)] [0,1])
(.seq
(.ar4 1 [oM 5 T1,oQ 6 (.bin .geq T5 (cI 0)),oM 7 T6,gQ 8 7 true (.mov T1),gQ 9 7 true (.mov T0),gQ 10 7 true (.ak4 T9),gQ 11 7 true (.aa6 0 T10),gQ 12 7 true (.load none T11),gQ 13 7 true (.len 0 T12),gQ 14 7 true (.bin .lss T8 T13),oQ 15 (.pick T7 T14 (cB false)),oM 16 T15,gQ 17 16 true (.mov T0),gQ 18 16 true (.ak4 T17),gQ 19 16 true (.aa6 2 T18),gQ 20 16 true (.aa6 0 T19),gQ 21 16 true (.load none T20),gQ 22 16 true (.mov T0),gQ 23 16 true (.ak4 T22),gQ 24 16 true (.aa6 0 T23),gQ 25 16 true (.load none T24),gQ 26 16 true (.mov T1),gQ 27 16 true (.ac8 15 T25 T26),gQ 28 16 true (.aa6 4 T27),gQ 29 16 true (.load none T28),gK 30 16 true (.call 55 [T21,T29]),oQ 31 (.pick T16 T30 (cB false)),oM 4 T31] false [4])
.ret))
theorem fok18:FOK Tryz.prog 18 (32,ic18,[(.t 4)]):=af6 [] Tryz.func18
def ic19:IC :=
(.seq
(.reg 0 [oM 6 (cB false)] [0,1,2])
(.seq
(.seq
(.reg 1 [oM 9 T0,oM 10 T1,oK 11 (.call 53 [T9,T10]),oQ 12 (.not T11),oM 13 T12,gQ 14 13 false (.mov T0),gQ 15 13 false (.mov T2),gK 16 13 false (.call 53 [T14,T15]),gQ 17 13 false (.not T16),oQ 18 (.pick T13 (cB true) T17),oM 19 T18,gQ 20 19 false (.mov T1),gQ 21 19 false (.mov T2),gQ 22 19 false (.bin .eql T20 T21),oQ 23 (.pick T19 (cB true) T22)] [0,1,2,23])
(.cond T23
(.seq
(.reg 2 [oM 6 (cB false)] [6])
.ret)
.skip))
(.seq
(.ar4 3 [oM 24 T0,oQ 25 (.ak4 T24),oQ 26 (.aa6 7 T25),oQ 27 (.load none T26),oM 28 T1,oQ 29 (.ac8 15 T27 T28),oQ 30 (.load (some 15) T29),oM 31 T0,oQ 32 (.ak4 T31),oQ 33 (.aa6 7 T32),oQ 34 (.ldt none T33),oM 35 T2,oQ 36 (.ac8 15 T34 T35),oQ 37 (.ldt (some 15) T36),oK 7 (.alloc [(.str []),(zI 0),(.str []),(.str []),(zU 0),(.str []),.aa1,.aa1,.aa1,.aa1,.aa1,.aa1,.aa1,.aa1,.aa1]),oK 8 (.alloc [(.str []),(zI 0),(.str []),(.str []),(zU 0),(.str []),.aa1,.aa1,.aa1,.aa1,.aa1,.aa1,.aa1,.aa1,.aa1]),oN (.store 15 T7 T30),oN (.store 15 T8 T37)] false [7,8])
(.seq
(.reg 4 [oQ 38 (.aa6 0 T7),oQ 39 (.load none T38),oQ 40 (.aa6 0 T8),oQ 41 (.load none T40),oQ 42 (.bin .eql T39 T41),oM 43 T42,gQ 44 43 true (.aa6 4 T7),gQ 45 43 true (.load none T44),gQ 46 43 true (.aa6 4 T8),gQ 47 43 true (.load none T46),gK 48 43 true (.call 56 [T45,T47]),gQ 49 43 true (.mov T48),gQ 50 49 true (.aa6 1 T7),gQ 51 49 true (.load (some 3) T50),gQ 52 49 true (.aa6 1 T8),gQ 53 49 true (.load (some 3) T52),gK 54 49 true (.call 57 [T51,T53]),gQ 55 49 true (.bin .eql T54 (cI 0)),gQ 56 43 true (.pick T49 T55 (cB false)),gQ 57 43 true (.not T56),oQ 58 (.pick T43 T57 (cB false)),oM 6 T58] [6])
.ret))))
theorem fok19:FOK Tryz.prog 19 (59,ic19,[(.t 6)]):=af6 [1000034,1000037] Tryz.func19
def ic20:IC :=
(.seq
(.reg 0 [oM 6 (cB false)] [0,1,2])
(.seq
(.seq
(.reg 1 [oM 9 T1,oQ 10 (.bin .lss T9 (cI 0)),oM 11 T10,gQ 12 11 false (.mov T2),gQ 13 11 false (.bin .lss T12 (cI 0)),oQ 14 (.pick T11 (cB true) T13),oM 15 T14,gQ 16 15 false (.mov T1),gQ 17 15 false (.mov T0),gQ 18 15 false (.ak4 T17),gQ 19 15 false (.aa6 0 T18),gQ 20 15 false (.load none T19),gQ 21 15 false (.len 0 T20),gQ 22 15 false (.bin .geq T16 T21),oQ 23 (.pick T15 (cB true) T22),oM 24 T23,gQ 25 24 false (.mov T2),gQ 26 24 false (.mov T0),gQ 27 24 false (.ak4 T26),gQ 28 24 false (.aa6 0 T27),gQ 29 24 false (.load none T28),gQ 30 24 false (.len 0 T29),gQ 31 24 false (.bin .geq T25 T30),oQ 32 (.pick T24 (cB true) T31),oM 33 T32,gQ 34 33 false (.mov T1),gQ 35 33 false (.mov T2),gQ 36 33 false (.bin .eql T34 T35),oQ 37 (.pick T33 (cB true) T36)] [0,1,2,37])
(.cond T37
(.seq
(.reg 2 [oM 6 (cB false)] [6])
.ret)
.skip))
(.seq
(.ar4 3 [oM 38 T0,oQ 39 (.ak4 T38),oQ 40 (.aa6 0 T39),oQ 41 (.load none T40),oM 42 T1,oQ 43 (.ac8 15 T41 T42),oQ 44 (.load (some 15) T43),oM 45 T0,oQ 46 (.ak4 T45),oQ 47 (.aa6 0 T46),oQ 48 (.ldt none T47),oM 49 T2,oQ 50 (.ac8 15 T48 T49),oQ 51 (.ldt (some 15) T50),oK 7 (.alloc [(.str []),(zI 0),(.str []),(.str []),(zU 0),(.str []),.aa1,.aa1,.aa1,.aa1,.aa1,.aa1,.aa1,.aa1,.aa1]),oK 8 (.alloc [(.str []),(zI 0),(.str []),(.str []),(zU 0),(.str []),.aa1,.aa1,.aa1,.aa1,.aa1,.aa1,.aa1,.aa1,.aa1]),oN (.store 15 T7 T44),oN (.store 15 T8 T51)] false [7,8])
(.seq
(.seq
(.reg 4 [oQ 52 (.aa6 0 T7),oQ 53 (.load none T52),oQ 54 (.aa6 0 T8),oQ 55 (.load none T54),oQ 56 (.bin .neq T53 T55)] [7,8,56])
(.cond T56
(.seq
(.reg 5 [oM 6 (cB false)] [6])
.ret)
.skip))
(.seq
(.reg 6 [oQ 57 (.aa6 4 T7),oQ 58 (.load none T57),oQ 59 (.aa6 4 T8),oQ 60 (.load none T59),oK 61 (.call 58 [T58,T60]),oQ 62 (.not T61),oM 63 T62,gQ 64 63 false (.aa6 1 T7),gQ 65 63 false (.load (some 3) T64),gQ 66 63 false (.aa6 1 T8),gQ 67 63 false (.load (some 3) T66),gK 68 63 false (.call 59 [T65,T67]),gQ 69 63 false (.bin .neq T68 (cI 0)),oQ 70 (.pick T63 (cB true) T69),oM 6 T70] [6])
.ret)))))
theorem fok20:FOK Tryz.prog 20 (71,ic20,[(.t 6)]):=af6 [1000048,1000051] Tryz.func20
def ic21:IC :=
(.seq
(.reg 0 [oM 4 (cB false)] [0,1])
(.seq
(.reg 1 [oM 5 T0,oM 6 T1,oK 7 (.call 60 [T5,T6]),oM 8 T7,gQ 9 8 true (.mov T0),gQ 10 8 true (.mov T1),gK 11 8 true (.call 61 [T9,(.c (zU 1)),T10]),oQ 12 (.pick T8 T11 (cB false)),oM 4 T12] [4])
.ret))
theorem fok21:FOK Tryz.prog 21 (13,ic21,[(.t 4)]):=af6 [] Tryz.func21
def ic22:IC :=
(.seq
(.reg 0 [oM 4 (cB false)] [0,1])
(.seq
(.reg 1 [oM 5 T1,oQ 6 (.bin .geq T5 (cI 0)),oM 7 T6,gQ 8 7 true (.mov T1),gQ 9 7 true (.mov T0),gQ 10 7 true (.ak4 T9),gQ 11 7 true (.aa6 2 T10),gQ 12 7 true (.aa6 2 T11),gQ 13 7 true (.load none T12),gQ 14 7 true (.len 0 T13),gQ 15 7 true (.bin .lss T8 T14),oQ 16 (.pick T7 T15 (cB false)),oM 17 T16,gQ 18 17 true (.mov T0),gQ 19 17 true (.mov T1),gK 20 17 true (.call 62 [T18,(.c (zU 1)),T19]),oQ 21 (.pick T17 T20 (cB false)),oM 4 T21] [4])
.ret))
theorem fok22:FOK Tryz.prog 22 (22,ic22,[(.t 4)]):=af6 [] Tryz.func22
def ic23:IC :=
(.seq
(.reg 0 [oM 4 (cB false)] [0,1])
(.seq
(.reg 1 [oM 5 T0,oM 6 T1,oK 7 (.call 63 [T5,T6]),oM 8 T7,gQ 9 8 true (.mov T0),gQ 10 8 true (.mov T1),gK 11 8 true (.call 64 [T9,(.c (zU 2)),T10]),gQ 12 8 true (.mov T11),gQ 13 12 false (.mov T0),gQ 14 12 false (.mov T1),gK 15 12 false (.call 61 [T13,(.c (zU 2)),T14]),gQ 16 8 true (.pick T12 (cB true) T15),oQ 17 (.pick T8 T16 (cB false)),oM 4 T17] [4])
.ret))
theorem fok23:FOK Tryz.prog 23 (18,ic23,[(.t 4)]):=af6 [] Tryz.func23
def ic24:IC :=
(.seq
(.reg 0 [oM 4 (cB false)] [0,1])
(.seq
(.reg 1 [oM 5 T1,oQ 6 (.bin .geq T5 (cI 0)),oM 7 T6,gQ 8 7 true (.mov T1),gQ 9 7 true (.mov T0),gQ 10 7 true (.ak4 T9),gQ 11 7 true (.aa6 1 T10),gQ 12 7 true (.load none T11),gQ 13 7 true (.bin .lss T8 T12),oQ 14 (.pick T7 T13 (cB false)),oM 15 T14,gQ 16 15 true (.mov T0),gQ 17 15 true (.mov T1),gK 18 15 true (.call 65 [T16,(.c (zU 2)),T17]),gQ 19 15 true (.mov T18),gQ 20 19 false (.mov T0),gQ 21 19 false (.mov T1),gK 22 19 false (.call 62 [T20,(.c (zU 2)),T21]),gQ 23 15 true (.pick T19 (cB true) T22),oQ 24 (.pick T15 T23 (cB false)),oM 4 T24] [4])
.ret))
theorem fok24:FOK Tryz.prog 24 (25,ic24,[(.t 4)]):=af6 [] Tryz.func24
def ic25:IC :=
(.seq
(.reg 0 [oK 2 (.ai8 T0),oM 4 (.c .aa1)] [1,2])
(.seq
(.seq
(.reg 1 [oQ 12 (.load none T2),oM 13 T1,oK 14 (.call 63 [T12,T13]),oQ 15 (.not T14)] [1,2,15])
(.cond T15
(.seq
(.reg 2 [oM 4 (.c .aa1)] [4])
.ret)
.skip))
(.seq
(.reg 3 [oQ 16 (.load none T2),oQ 17 (.ak4 T16),oQ 18 (.aa6 7 T17),oQ 19 (.load none T18),oM 20 T1,oQ 21 (.ac8 15 T19 T20),oQ 22 (.load (some 15) T21),oK 5 (.alloc [(.str []),(zI 0),(.str []),(.str []),(zU 0),(.str []),.aa1,.aa1,.aa1,.aa1,.aa1,.aa1,.aa1,.aa1,.aa1]),oN (.store 15 T5 T22)] [1,2,5])
(.seq
(.reg 4 [oQ 23 (.load none T2),oM 24 T1,oK 25 (.call 61 [T23,(.c (zU 3)),T24]),oM 26 T25,gQ 27 26 false (.load none T2),gQ 28 26 false (.mov T1),gK 29 26 false (.call 64 [T27,(.c (zU 4)),T28]),oQ 30 (.pick T26 (cB true) T29),oK 6 (.alloc [(.bool false)]),oN (.store 1 T6 T30)] [1,2,5,6])
(.seq
(.reg 5 [oQ 31 (.load none T2),oM 32 T1,oK 33 (.call 61 [T31,(.c (zU 4)),T32]),oK 7 (.alloc [(.bool false)]),oN (.store 1 T7 T33)] [1,2,5,6,7])
(.seq
(.reg 6 [oQ 34 (.mkf 66 [] [T5,T6,T7,T2]),oM 8 T34] [1,2,8])
(.seq
(.reg 7 [oQ 35 (.load none T2),oQ 36 (.ak4 T35),oQ 37 (.aa6 1 T36),oQ 38 (.load none T37),oM 39 T1,oK 40 (.call 15 [T38,T39]),oM 9 T40] [1,2,8,9])
(.seq
(.seq
(.reg 8 [oQ 41 (.load none T2),oQ 42 (.ak4 T41),oQ 43 (.aa6 7 T42),oQ 44 (.load none T43),oQ 45 (.len 0 T44),oM 46 (cI 0)] [1,8,9,44,45,46])
(.block 0
(.loop
(.seq
(.reg 9 [oQ 47 (.bin .lss T46 T45)] [1,8,9,44,45,46,47])
(.seq
(.cond T47
.skip
(.exit 0))
(.seq
(.block 1
(.seq
(.reg 10 [oM 48 T46,oQ 49 (.ac8 15 T44 T46),oQ 50 (.load (some 15) T49),oK 11 (.alloc [(.str []),(zI 0),(.str []),(.str []),(zU 0),(.str []),.aa1,.aa1,.aa1,.aa1,.aa1,.aa1,.aa1,.aa1,.aa1]),oM 10 T48,oN (.store 15 T11 T50)] [1,8,9,10,11,44,45,46])
(.seq
(.reg 11 [oM 51 T10,oM 52 T1,oQ 53 (.bin .eql T51 T52),oM 54 T53,gQ 55 54 false (.mov T8),gQ 56 54 false (.load (some 15) T11),gK 57 54 false (.an1 T55 [T56]),oQ 58 (.pick T54 (cB true) T57)] [1,8,9,10,44,45,46,58])
(.cond T58
(.reg 12 [oM 59 T9,oM 60 T10,oK 61 (.bb4 1 1 [(zI 0)] [⟨0,⟨1,T60⟩⟩]),oK 62 (.app 1 T59 T61),oM 9 T62] [1,8,9,44,45,46])
.skip))))
(.reg 13 [oQ 63 (.bin .add T46 (cI 1)),oM 46 T63] [1,8,9,44,45,46])))))))
(.seq
(.reg 14 [oM 64 T9,oK 65 (.call 68 [T64])] [9])
(.seq
(.reg 15 [oM 66 T9,oK 67 (.call 69 [T66]),oM 4 T67] [4])
.ret))))))))))
theorem fok25:FOK Tryz.prog 25 (68,ic25,[(.t 4)]):=af6 [1000002,1000061] Tryz.func25
def ic26:IC :=
(.seq
(.reg 0 [oM 4 (.c .aa1)] [0,1])
(.seq
(.reg 1 [oM 5 (.c .aa1)] [0,1,5])
(.seq
(.seq
(.reg 2 [oM 6 (cI 0)] [0,1,5,6])
(.block 0
(.loop
(.seq
(.seq
(.reg 3 [oM 7 T6,oM 8 T0,oQ 9 (.ak4 T8),oQ 10 (.aa6 0 T9),oQ 11 (.load none T10),oQ 12 (.len 0 T11),oQ 13 (.bin .lss T7 T12)] [0,1,5,6,13])
(.cond T13
.skip
(.exit 0)))
(.seq
(.block 1
(.seq
(.reg 5 [oM 16 T1,oQ 17 (.bin .geq T16 (cI 0)),oM 18 T17,gQ 19 18 true (.mov T1),gQ 20 18 true (.mov T0),gQ 21 18 true (.ak4 T20),gQ 22 18 true (.aa6 1 T21),gQ 23 18 true (.load none T22),gQ 24 18 true (.bin .lss T19 T23),oQ 25 (.pick T18 T24 (cB false)),oM 26 T25,gQ 27 26 true (.mov T0),gQ 28 26 true (.mov T1),gQ 29 26 true (.mov T6),gK 30 26 true (.call 70 [T27,T28,T29]),oQ 31 (.pick T26 T30 (cB false))] [0,1,5,6,31])
(.cond T31
(.reg 6 [oM 32 T5,oM 33 T6,oK 34 (.bb4 1 1 [(zI 0)] [⟨0,⟨1,T33⟩⟩]),oK 35 (.app 1 T32 T34),oM 5 T35] [0,1,5,6])
.skip)))
(.reg 4 [oM 14 T6,oQ 15 (.bin .add T14 (cI 1)),oM 6 T15] [0,1,5,6]))))))
(.seq
(.reg 7 [oM 36 T5,oM 4 T36] [4])
.ret))))
theorem fok26:FOK Tryz.prog 26 (37,ic26,[(.t 4)]):=af6 [1000034] Tryz.func26
def ic27:IC :=
(.seq
(.reg 0 [oK 2 (.ai8 T0),oM 4 (.c .aa1)] [1,2])
(.seq
(.seq
(.reg 1 [oQ 5 (.load none T2),oM 6 T1,oK 7 (.call 63 [T5,T6]),oQ 8 (.not T7)] [1,2,8])
(.cond T8
(.seq
(.reg 2 [oM 4 (.c .aa1)] [4])
.ret)
.skip))
(.seq
(.reg 3 [oQ 9 (.load none T2),oM 10 T1,oK 11 (.call 25 [T9,T10]),oQ 12 (.mkf 72 [] [T2]),oK 13 (.call 71 [T11,T12]),oM 4 T13] [4])
.ret)))
theorem fok27:FOK Tryz.prog 27 (14,ic27,[(.t 4)]):=af6 [1000002] Tryz.func27
def ic28:IC :=
(.seq
(.reg 0 [oM 4 (.c .aa1)] [0,1])
(.seq
(.reg 1 [oM 5 (.c .aa1)] [0,1,5])
(.seq
(.reg 2 [oM 8 T0,oM 9 T1,oK 10 (.call 26 [T8,T9]),oM 6 T10] [0,5,6])
(.seq
(.seq
(.reg 3 [oM 7 (cI 0)] [0,5,6,7])
(.block 0
(.loop
(.seq
(.seq
(.reg 4 [oM 11 T7,oM 12 T6,oQ 13 (.len 0 T12),oQ 14 (.bin .lss T11 T13)] [0,5,6,7,14])
(.cond T14
.skip
(.exit 0)))
(.seq
(.block 1
(.seq
(.ar4 6 [oM 17 T6,oM 18 T7,oQ 19 (.ac8 1 T17 T18),oQ 20 (.load none T19),oM 21 T0,oQ 22 (.ak4 T21),oQ 23 (.aa6 1 T22),oQ 24 (.load none T23),oQ 25 (.bin .geq T20 T24),oM 26 T25,gQ 27 26 true (.mov T0),gQ 28 26 true (.mov T6),gQ 29 26 true (.mov T7),gQ 30 26 true (.ac8 1 T28 T29),gQ 31 26 true (.load none T30),gK 32 26 true (.call 18 [T27,T31]),oQ 33 (.pick T26 T32 (cB false))] false [0,5,6,7,33])
(.cond T33
(.reg 7 [oM 34 T5,oM 35 T6,oM 36 T7,oQ 37 (.ac8 1 T35 T36),oQ 38 (.load none T37),oK 39 (.bb4 1 1 [(zI 0)] [⟨0,⟨1,T38⟩⟩]),oK 40 (.app 1 T34 T39),oM 5 T40] [0,5,6,7])
.skip)))
(.reg 5 [oM 15 T7,oQ 16 (.bin .add T15 (cI 1)),oM 7 T16] [0,5,6,7]))))))
(.seq
(.reg 8 [oM 41 T5,oM 4 T41] [4])
.ret)))))
theorem fok28:FOK Tryz.prog 28 (42,ic28,[(.t 4)]):=af6 [1000039] Tryz.func28
def ic29:IC :=
(.seq
(.reg 0 [oK 2 (.ai8 T0),oM 4 (.c .aa1)] [1,2])
(.seq
(.seq
(.reg 1 [oQ 7 (.load none T2),oM 8 T1,oK 9 (.call 60 [T7,T8]),oQ 10 (.not T9)] [1,2,10])
(.cond T10
(.seq
(.reg 2 [oM 4 (.c .aa1)] [4])
.ret)
.skip))
(.seq
(.reg 3 [oQ 11 (.load none T2),oQ 12 (.ak4 T11),oQ 13 (.aa6 2 T12),oQ 14 (.aa6 2 T13),oQ 15 (.load none T14),oM 16 T1,oQ 17 (.ac8 6 T15 T16),oQ 18 (.load (some 6) T17),oK 5 (.alloc [(zU 0),(.str []),(zU 0),(zI 0),(.str []),(.str [])]),oN (.store 6 T5 T18)] [2,5])
(.seq
(.seq
(.reg 4 [oQ 19 (.aa6 0 T5),oQ 20 (.load none T19),oQ 21 (.bin .eql T20 (.c (zU 1)))] [2,5,21])
(.cond T21
(.seq
(.ar4 5 [oQ 22 (.load none T2),oQ 23 (.ak4 T22),oQ 24 (.aa6 1 T23),oQ 25 (.load none T24),oQ 26 (.aa6 1 T5),oQ 27 (.load (some 5) T26),oK 28 (.call 73 [T25,T27]),oM 4 T28] false [4])
.ret)
.skip))
(.seq
(.ar4 6 [oQ 29 (.load none T2),oQ 30 (.ak4 T29),oQ 31 (.aa6 1 T30),oQ 32 (.load none T31),oQ 33 (.aa6 1 T5),oQ 34 (.load (some 5) T33),oK 35 (.call 74 [T32,T34]),oM 6 T35] false [2,5,6])
(.seq
(.seq
(.reg 7 [oQ 36 (.aa6 0 T5),oQ 37 (.load none T36),oQ 38 (.bin .eql T37 (.c (zU 2)))] [2,6,38])
(.cond T38
(.seq
(.reg 8 [oM 39 T6,oM 4 T39] [4])
.ret)
.skip))
(.seq
(.reg 9 [oM 40 T6,oQ 41 (.mkf 75 [] [T2]),oK 42 (.call 71 [T40,T41]),oM 4 T42] [4])
.ret)))))))
theorem fok29:FOK Tryz.prog 29 (43,ic29,[(.t 4)]):=af6 [1000002] Tryz.func29
def ic30:IC :=
(.seq
(.reg 0 [oM 4 (.c .aa1)] [0,1])
(.seq
(.seq
(.reg 1 [oM 6 T1,oQ 7 (.bin .lss T6 (cI 0)),oM 8 T7,gQ 9 8 false (.mov T1),gQ 10 8 false (.mov T0),gQ 11 8 false (.ak4 T10),gQ 12 8 false (.aa6 2 T11),gQ 13 8 false (.aa6 2 T12),gQ 14 8 false (.load none T13),gQ 15 8 false (.len 0 T14),gQ 16 8 false (.bin .geq T9 T15),oQ 17 (.pick T8 (cB true) T16)] [0,1,17])
(.cond T17
(.seq
(.reg 2 [oM 4 (.c .aa1)] [4])
.ret)
.skip))
(.seq
(.reg 3 [oM 18 T0,oQ 19 (.ak4 T18),oQ 20 (.aa6 2 T19),oQ 21 (.aa6 2 T20),oQ 22 (.load none T21),oM 23 T1,oQ 24 (.ac8 6 T22 T23),oQ 25 (.load (some 6) T24),oK 5 (.alloc [(zU 0),(.str []),(zU 0),(zI 0),(.str []),(.str [])]),oN (.store 6 T5 T25)] [0,5])
(.seq
(.seq
(.reg 4 [oQ 26 (.aa6 0 T5),oQ 27 (.load none T26),oQ 28 (.bin .eql T27 (.c (zU 1)))] [0,5,28])
(.cond T28
(.seq
(.ar4 5 [oM 29 T0,oQ 30 (.ak4 T29),oQ 31 (.aa6 0 T30),oQ 32 (.load none T31),oQ 33 (.aa6 1 T5),oQ 34 (.load (some 5) T33),oK 35 (.call 76 [T32,T34]),oM 4 T35] false [4])
.ret)
.skip))
(.seq
(.seq
(.reg 6 [oQ 36 (.aa6 0 T5),oQ 37 (.load none T36),oQ 38 (.bin .eql T37 (.c (zU 2)))] [0,5,38])
(.cond T38
(.seq
(.ar4 7 [oM 39 T0,oQ 40 (.ak4 T39),oQ 41 (.aa6 0 T40),oQ 42 (.load none T41),oQ 43 (.aa6 1 T5),oQ 44 (.load (some 5) T43),oK 45 (.call 77 [T42,T44]),oM 4 T45] false [4])
.ret)
.skip))
(.seq
(.ar4 8 [oM 46 T0,oQ 47 (.ak4 T46),oQ 48 (.aa6 0 T47),oQ 49 (.load none T48),oM 50 T0,oQ 51 (.ak4 T50),oQ 52 (.aa6 1 T51),oQ 53 (.load none T52),oQ 54 (.slc 15 T49 none (some T53)),oQ 55 (.aa6 1 T5),oQ 56 (.load (some 5) T55),oK 57 (.call 77 [T54,T56]),oM 4 T57] false [4])
.ret))))))
theorem fok30:FOK Tryz.prog 30 (58,ic30,[(.t 4)]):=af6 [] Tryz.func30
def ic31:IC :=
(.seq
(.reg 0 [oM 6 (cB false)] [0,1,2])
(.seq
(.seq
(.reg 1 [oM 8 T0,oM 9 T1,oK 10 (.call 60 [T8,T9]),oQ 11 (.not T10)] [0,1,2,11])
(.cond T11
(.seq
(.reg 2 [oM 6 (cB true)] [6])
.ret)
.skip))
(.seq
(.reg 3 [oQ 12 (.bld [.ad4,.ad4,.ad4,.ad4,.ad4] [⟨1,⟨1,(.f 78)⟩⟩,⟨2,⟨1,(.f 79)⟩⟩,⟨3,⟨1,(.f 80)⟩⟩,⟨4,⟨1,(.f 81)⟩⟩]),oK 7 (.alloc [.ad4,.ad4,.ad4,.ad4,.ad4]),oN (.store 5 T7 T12)] [0,1,2,7])
(.seq
(.reg 4 [oM 13 T0,oQ 14 (.ak4 T13),oQ 15 (.aa6 2 T14),oQ 16 (.aa6 2 T15),oQ 17 (.load none T16),oM 18 T1,oQ 19 (.ac8 6 T17 T18),oQ 20 (.aa6 0 T19),oQ 21 (.load none T20),oQ 22 (.du2 5 1 T7 T21),oQ 23 (.load none T22),oM 24 T0,oM 25 T1,oM 26 T2,oK 27 (.an1 T23 [T24,T25,T26]),oM 6 T27] [6])
.ret))))
theorem fok31:FOK Tryz.prog 31 (28,ic31,[(.t 6)]):=af6 [] Tryz.func31
def ic32:IC :=
(.seq
(.reg 0 [oM 6 (cB false)] [0,1,2])
(.seq
(.seq
(.reg 1 [oM 11 T1,oQ 12 (.bin .lss T11 (cI 0)),oM 13 T12,gQ 14 13 false (.mov T1),gQ 15 13 false (.mov T0),gQ 16 13 false (.ak4 T15),gQ 17 13 false (.aa6 2 T16),gQ 18 13 false (.aa6 2 T17),gQ 19 13 false (.load none T18),gQ 20 13 false (.len 0 T19),gQ 21 13 false (.bin .geq T14 T20),oQ 22 (.pick T13 (cB true) T21)] [0,1,2,22])
(.cond T22
(.seq
(.reg 2 [oM 6 (cB true)] [6])
.ret)
.skip))
(.seq
(.reg 3 [oM 23 T0,oM 24 T1,oK 25 (.call 30 [T23,T24]),oM 7 T25] [0,1,2,7])
(.seq
(.seq
(.reg 4 [oM 26 T0,oQ 27 (.ak4 T26),oQ 28 (.aa6 2 T27),oQ 29 (.aa6 2 T28),oQ 30 (.load none T29),oM 31 T1,oQ 32 (.ac8 6 T30 T31),oQ 33 (.aa6 0 T32),oQ 34 (.load none T33)] [0,2,7,34])
(.block 0
(.seq
(.reg 5 [oQ 36 (.bin .eql T34 (.c (zU 1))),oM 35 T36] [0,2,7,34,35])
(.cond T35
(.seq
(.reg 6 [oM 37 T2,oM 38 T7,oK 39 (.call 82 [T37,T38]),oM 6 T39] [6])
.ret)
(.seq
(.reg 7 [oQ 41 (.bin .eql T34 (.c (zU 2))),oM 40 T41] [0,2,7,34,40])
(.cond T40
(.seq
(.reg 8 [oM 42 T2,oM 43 T7,oK 44 (.call 82 [T42,T43]),oQ 45 (.not T44),oM 6 T45] [6])
.ret)
(.seq
(.reg 9 [oQ 47 (.bin .eql T34 (.c (zU 3))),oM 46 T47] [0,2,7,46])
(.cond T46
(.seq
(.seq
(.reg 10 [oM 8 (cI 0)] [0,2,7,8])
(.block 1
(.loop
(.seq
(.seq
(.reg 11 [oM 48 T8,oM 49 T7,oQ 50 (.len 0 T49),oQ 51 (.bin .lss T48 T50)] [0,2,7,8,51])
(.cond T51
.skip
(.exit 1)))
(.seq
(.block 2
(.seq
(.reg 13 [oM 54 T2,oM 55 T0,oM 56 T7,oM 57 T8,oQ 58 (.ac8 1 T56 T57),oQ 59 (.load none T58),oK 60 (.call 26 [T55,T59]),oK 61 (.call 82 [T54,T60]),oQ 62 (.not T61)] [0,2,7,8,62])
(.cond T62
(.seq
(.reg 14 [oM 6 (cB false)] [6])
.ret)
.skip)))
(.reg 12 [oM 52 T8,oQ 53 (.bin .add T52 (cI 1)),oM 8 T53] [0,2,7,8]))))))
(.seq
(.reg 15 [oM 6 (cB true)] [6])
.ret))
.skip))))))))
(.seq
(.seq
(.reg 16 [oM 9 (cI 0)] [0,2,7,9])
(.block 3
(.loop
(.seq
(.seq
(.reg 17 [oM 63 T9,oM 64 T7,oQ 65 (.len 0 T64),oQ 66 (.bin .lss T63 T65)] [0,2,7,9,66])
(.cond T66
.skip
(.exit 3)))
(.seq
(.block 4
(.seq
(.reg 19 [oM 69 T0,oM 70 T7,oM 71 T9,oQ 72 (.ac8 1 T70 T71),oQ 73 (.load none T72),oK 74 (.call 28 [T69,T73]),oM 10 T74] [0,2,7,9,10])
(.seq
(.reg 20 [oM 75 T10,oQ 76 (.len 0 T75),oQ 77 (.bin .gtr T76 (cI 0)),oM 78 T77,gQ 79 78 true (.mov T2),gQ 80 78 true (.mov T10),gK 81 78 true (.call 82 [T79,T80]),gQ 82 78 true (.not T81),oQ 83 (.pick T78 T82 (cB false))] [0,2,7,9,83])
(.cond T83
(.seq
(.reg 21 [oM 6 (cB false)] [6])
.ret)
.skip))))
(.reg 18 [oM 67 T9,oQ 68 (.bin .add T67 (cI 1)),oM 9 T68] [0,2,7,9]))))))
(.seq
(.reg 22 [oM 6 (cB true)] [6])
.ret))))))
theorem fok32:FOK Tryz.prog 32 (84,ic32,[(.t 6)]):=af6 [] Tryz.func32
def ic33:IC :=
(.seq
(.reg 0 [oM 4 (cI 0)] [0,1])
(.seq
(.reg 1 [oM 5 (cI 0)] [0,1,5])
(.seq
(.seq
(.reg 2 [oM 6 (cI 0)] [0,1,5,6])
(.block 0
(.loop
(.seq
(.seq
(.reg 3 [oM 10 T6,oM 11 T0,oQ 12 (.len 0 T11),oQ 13 (.bin .lss T10 T12),oM 14 T13,gQ 15 14 true (.mov T5),gQ 16 14 true (.mov T1),gQ 17 14 true (.bin .lss T15 T16),oQ 18 (.pick T14 T17 (cB false))] [0,1,5,6,18])
(.cond T18
.skip
(.exit 0)))
(.seq
(.block 1
(.seq
(.reg 5 [oM 21 T0,oM 22 T6,oQ 23 (.ac8 15 T21 T22),oQ 24 (.load (some 15) T23),oK 7 (.alloc [(.str []),(zI 0),(.str []),(.str []),(zU 0),(.str []),.aa1,.aa1,.aa1,.aa1,.aa1,.aa1,.aa1,.aa1,.aa1]),oN (.store 15 T7 T24)] [0,1,5,6,7])
(.seq
(.reg 6 [oM 25 T5,oQ 26 (.bin .add T25 (cI 1)),oQ 27 (.aa6 6 T7),oQ 28 (.load none T27),oQ 29 (.len 0 T28),oQ 30 (.bin .add T26 T29),oQ 31 (.aa6 9 T7),oQ 32 (.load none T31),oQ 33 (.len 0 T32),oQ 34 (.bin .add T30 T33),oQ 35 (.aa6 14 T7),oQ 36 (.load none T35),oQ 37 (.len 0 T36),oQ 38 (.bin .add T34 T37),oM 5 T38] [0,1,5,6,7])
(.seq
(.reg 7 [oQ 39 (.aa6 7 T7),oQ 40 (.load none T39),oQ 41 (.aa6 8 T7),oQ 42 (.load none T41),oQ 43 (.aa6 10 T7),oQ 44 (.load none T43),oQ 45 (.aa6 11 T7),oQ 46 (.load none T45),oQ 47 (.aa6 12 T7),oQ 48 (.load none T47),oQ 49 (.aa6 13 T7),oQ 50 (.load none T49),oK 51 (.bb4 1 6 [.aa1] [⟨0,⟨1,T40⟩⟩,⟨1,⟨1,T42⟩⟩,⟨2,⟨1,T44⟩⟩,⟨3,⟨1,T46⟩⟩,⟨4,⟨1,T48⟩⟩,⟨5,⟨1,T50⟩⟩]),oQ 52 (.len 0 T51),oM 53 (cI 0)] [0,1,5,6,51,52,53])
(.block 2
(.loop
(.seq
(.reg 8 [oQ 54 (.bin .lss T53 T52)] [0,1,5,6,51,52,53,54])
(.seq
(.cond T54
.skip
(.exit 2))
(.seq
(.block 3
(.seq
(.reg 9 [oQ 55 (.ac8 1 T51 T53),oQ 56 (.load none T55),oM 9 T56] [0,1,5,6,9,51,52,53])
(.reg 10 [oM 57 T5,oM 58 T9,oM 59 T1,oK 60 (.call 83 [T58,T59]),oQ 61 (.bin .add T57 T60),oM 5 T61] [0,1,5,6,51,52,53])))
(.reg 11 [oQ 62 (.bin .add T53 (cI 1)),oM 53 T62] [0,1,5,6,51,52,53]))))))))))
(.reg 4 [oM 19 T6,oQ 20 (.bin .add T19 (cI 1)),oM 6 T20] [0,1,5,6]))))))
(.seq
(.reg 12 [oM 63 T5,oM 4 T63] [4])
.ret))))
theorem fok33:FOK Tryz.prog 33 (64,ic33,[(.t 4)]):=af6 [1000051] Tryz.func33
def ic34:IC :=
(.seq
(.reg 0 [oM 8 (cI 0)] [0,1,2,3])
(.seq
(.seq
(.reg 1 [oM 11 T1,oQ 12 (.len 0 T11),oM 13 (cI 0)] [0,2,3,11,12,13])
(.block 0
(.loop
(.seq
(.reg 2 [oQ 14 (.bin .lss T13 T12)] [0,2,3,11,12,13,14])
(.seq
(.cond T14
.skip
(.exit 0))
(.seq
(.block 1
(.seq
(.reg 3 [oQ 15 (.ac8 15 T11 T13),oQ 16 (.load (some 15) T15),oK 10 (.alloc [(.str []),(zI 0),(.str []),(.str []),(zU 0),(.str []),.aa1,.aa1,.aa1,.aa1,.aa1,.aa1,.aa1,.aa1,.aa1]),oN (.store 15 T10 T16)] [0,2,3,10,11,12,13])
(.seq
(.seq
(.reg 4 [oQ 17 (.load (some 15) T10),oK 18 (.af1 84 [T17]),oQ 19 (.not T18)] [0,2,3,10,11,12,13,19])
(.cond T19
(.seq
(.reg 5 [oM 8 (cI 4)] [8])
.ret)
.skip))
(.seq
(.ar4 6 [oM 20 T0,oQ 21 (.ak4 T20),oQ 22 (.aa6 2 T21),oQ 23 (.load none T22),oQ 24 (.aa6 0 T10),oQ 25 (.load none T24),oM 26 T0,oQ 27 (.ak4 T26),oQ 28 (.aa6 2 T27),oQ 29 (.load none T28),oQ 30 (.aa6 0 T10),oQ 31 (.load none T30),oQ 32 (.lkp 2 .aa1 false T29 T31),oM 33 T0,oQ 34 (.ak4 T33),oQ 35 (.aa6 0 T34),oQ 36 (.load none T35),oQ 37 (.len 0 T36),oK 38 (.bb4 1 1 [(zI 0)] [⟨0,⟨1,T37⟩⟩]),oK 39 (.app 1 T32 T38),oN (.di9 2 T23 T25 T39)] true [0,2,3,10,11,12,13])
(.ar4 7 [oM 40 T0,oM 41 T0,oQ 42 (.ak4 T41),oQ 43 (.aa6 0 T42),oQ 44 (.load none T43),oQ 45 (.load (some 15) T10),oK 46 (.af1 85 [T45]),oM 47 T2,oM 48 T3,oQ 49 (.bld [(.str []),(zI 0),(.str []),(.str []),(zU 0),(.str []),.aa1,.aa1,.aa1,.aa1,.aa1,.aa1,.aa1,.aa1,.aa1,(zI 0),(zI 0)] [⟨0,⟨15,T46⟩⟩,⟨15,⟨1,T47⟩⟩,⟨16,⟨1,T48⟩⟩]),oK 50 (.bb4 17 1 [(.str []),(zI 0),(.str []),(.str []),(zU 0),(.str []),.aa1,.aa1,.aa1,.aa1,.aa1,.aa1,.aa1,.aa1,.aa1,(zI 0),(zI 0)] [⟨0,⟨17,T49⟩⟩]),oK 51 (.app 17 T44 T50),oQ 52 (.ak4 T40),oQ 53 (.aa6 0 T52),oN (.store 1 T53 T51)] true [0,2,3,11,12,13])))))
(.reg 8 [oQ 54 (.bin .add T13 (cI 1)),oM 13 T54] [0,2,3,11,12,13])))))))
(.seq
(.reg 9 [oM 8 (cI 0)] [8])
.ret)))
theorem fok34:FOK Tryz.prog 34 (55,ic34,[(.t 8)]):=af6 ([1000038,1000050]++ig7) Tryz.func34
def ic35:IC :=
(.seq
(.reg 0 [oM 2 (cB false)] [0])
(.seq
(.reg 1 [oM 3 T0,oK 4 (.call 86 [T3]),oM 5 T4,gQ 6 5 true (.mov T0),gQ 7 5 true (.bin .neq T6 (.c (zU 1))),oQ 8 (.pick T5 T7 (cB false)),oM 2 T8] [2])
.ret))
theorem fok35:FOK Tryz.prog 35 (9,ic35,[(.t 2)]):=af6 [] Tryz.func35
def ic36:IC :=
(.seq
(.reg 0 [oM 4 (cB false)] [0,1])
(.seq
(.reg 1 [oM 5 T0,oM 6 T1,oK 7 (.call 87 [T5,T6]),oQ 8 (.bin .geq T7 (cI 0)),oM 4 T8] [4])
.ret))
theorem fok36:FOK Tryz.prog 36 (9,ic36,[(.t 4)]):=af6 [] Tryz.func36
def ic37:IC :=
(.seq
(.reg 0 [oK 1 (.ai8 T0),oM 2 (cB false)] [1])
(.seq
(.reg 1 [oQ 3 (.aa6 0 T1),oQ 4 (.load none T3),oQ 5 (.bin .lss T4 (.c (zU 1))),oM 6 T5,gQ 7 6 false (.aa6 0 T1),gQ 8 6 false (.load none T7),gQ 9 6 false (.bin .gtr T8 (.c (zU 4))),oQ 10 (.pick T6 (cB true) T9),oM 11 T10,gQ 12 11 false (.aa6 1 T1),gQ 13 11 false (.load (some 5) T12),gK 14 11 false (.call 38 [T13]),gQ 15 11 false (.not T14),oQ 16 (.pick T11 (cB true) T15),oM 2 T16] [2])
.ret))
theorem fok37:FOK Tryz.prog 37 (17,ic37,[(.t 2)]):=af6 [1000001] Tryz.func37
def ic38:IC :=
(.seq
(.reg 0 [oK 1 (.ai8 T0),oM 2 (cB false)] [1])
(.seq
(.block 0
(.seq
(.reg 1 [oQ 4 (.aa6 0 T1),oQ 5 (.load none T4),oK 6 (.call 88 [T5]),oQ 7 (.not T6),oM 8 T7,gQ 9 8 false (.aa6 1 T1),gQ 10 8 false (.load none T9),gK 11 8 false (.call 89 [T10]),gQ 12 8 false (.not T11),oQ 13 (.pick T8 (cB true) T12),oM 3 T13] [1,3])
(.cond T3
(.seq
(.reg 2 [oM 2 (cB false)] [2])
.ret)
(.seq
(.reg 3 [oQ 15 (.aa6 1 T1),oQ 16 (.load none T15),oQ 17 (.bin .eql T16 (.c (zU 0))),oM 14 T17] [1,14])
(.cond T14
(.seq
(.reg 4 [oQ 18 (.aa6 2 T1),oQ 19 (.load (some 3) T18),oQ 20 (.bld [(zI 0),(.str []),(.str [])] []),oQ 21 (.eqs [1,2,2] true false T19 T20),oM 2 T21] [2])
.ret)
.skip)))))
(.seq
(.reg 5 [oQ 22 (.aa6 0 T1),oQ 23 (.load none T22),oK 24 (.call 90 [T23]),oQ 25 (.not T24),oM 26 T25,gQ 27 26 true (.aa6 2 T1),gQ 28 26 true (.load (some 3) T27),gK 29 26 true (.call 91 [T28,(cB true)]),oQ 30 (.pick T26 T29 (cB false)),oM 2 T30] [2])
.ret)))
theorem fok38:FOK Tryz.prog 38 (31,ic38,[(.t 2)]):=af6 [1000001] Tryz.func38
def ic39:IC :=
(.seq
(.reg 0 [oM 4 (cB false)] [0,1])
(.seq
(.reg 1 [oM 5 T0,oM 6 T1,oK 7 (.call 92 [T5,T6]),oQ 8 (.bin .geq T7 (cI 0)),oM 4 T8] [4])
.ret))
theorem fok39:FOK Tryz.prog 39 (9,ic39,[(.t 4)]):=af6 [] Tryz.func39
def ic40:IC :=
(.seq
(.reg 0 [oK 3 (.ai8 T0),oM 4 (cB false)] [1,2,3])
(.seq
(.ar4 1 [oQ 5 (.load (some 2) T3),oQ 6 (.aa6 2 T1),oQ 7 (.load none T6),oQ 8 (.len 0 T7),oQ 9 (.load none T2),oK 10 (.af1 42 [T9]),oK 11 (.af1 41 [T5,T8,T10]),oQ 12 (.not T11),oM 4 T12] false [4])
.ret))
theorem fok40:FOK Tryz.prog 40 (13,ic40,[(.t 4)]):=af6 ([1000003]++[41,42]) Tryz.func40 (by kernel_rfl) (by kernel_rfl) (by kernel_rfl) (by kernel_rfl)
def ic41:IC :=
(.seq
(.reg 0 [oK 3 (.ai8 T0),oM 6 (cB false)] [1,2,3])
(.seq
(.reg 1 [oM 8 T2,oM 7 T8] [1,3,7])
(.seq
(.seq
(.reg 2 [oQ 9 (.aa6 0 T3),oQ 10 (.load none T9),oQ 11 (.bin .eql T10 (.c (zU 1)))] [1,3,7,11])
(.cond T11
(.reg 3 [oM 12 T1,oM 7 T12] [3,7])
.skip))
(.seq
(.reg 4 [oQ 13 (.aa6 0 T3),oQ 14 (.load none T13),oQ 15 (.bin .geq T14 (.c (zU 1))),oM 16 T15,gQ 17 16 true (.aa6 0 T3),gQ 18 16 true (.load none T17),gQ 19 16 true (.bin .leq T18 (.c (zU 4))),oQ 20 (.pick T16 T19 (cB false)),oM 21 T20,gQ 22 21 true (.aa6 1 T3),gQ 23 21 true (.load none T22),gQ 24 21 true (.bin .geq T23 (cI 0)),oQ 25 (.pick T21 T24 (cB false)),oM 26 T25,gQ 27 26 true (.aa6 1 T3),gQ 28 26 true (.load none T27),gQ 29 26 true (.mov T7),gQ 30 26 true (.bin .lss T28 T29),oQ 31 (.pick T26 T30 (cB false)),oM 6 T31] [6])
.ret))))
theorem fok41:FOK Tryz.prog 41 (32,ic41,[(.t 6)]):=af6 [1000003] Tryz.func41
def ic42:IC :=
(.seq
(.reg 0 [oM 2 (cI 0)] [0])
(.seq
(.seq
(.reg 1 [oM 3 T0,oQ 4 (.aw3 (.pointer 63) false T3)] [0,4])
(.cond T4
(.seq
(.reg 2 [oM 2 (cI 0)] [2])
.ret)
.skip))
(.seq
(.reg 3 [oM 5 T0,oQ 6 (.ak4 T5),oQ 7 (.aa6 1 T6),oQ 8 (.load none T7),oM 2 T8] [2])
.ret)))
theorem fok42:FOK Tryz.prog 42 (9,ic42,[(.t 2)]):=af6 [] Tryz.func42
def ic43:IC :=
(.seq
(.reg 0 [oM 2 (.c .ac2),oM 3 (cI 0)] [0])
(.seq
(.seq
(.reg 1 [oM 11 T0,oQ 12 (.aw3 (.pointer 63) false T11)] [0,12])
(.cond T12
(.seq
(.reg 2 [oM 2 (.c .ac2),oM 3 (cI 2)] [2,3])
.ret)
.skip))
(.seq
(.reg 3 [oK 13 .bp2,oK 14 .bp2,oK 15 .bp2,oQ 16 (.bld [.aa1,.ah6,.ah6,.ah6] [⟨1,⟨1,T13⟩⟩,⟨2,⟨1,T14⟩⟩,⟨3,⟨1,T15⟩⟩]),oK 17 (.box T16),oM 4 T17] [0,4])
(.seq
(.seq
(.reg 4 [oM 18 T0,oK 19 (.call 13 [T18]),oM 20 (cI 0)] [0,4,19,20])
(.block 0
(.loop
(.seq
(.reg 5 [oQ 21 (.bin .lss T20 T19)] [0,4,19,20,21])
(.seq
(.cond T21
.skip
(.exit 0))
(.seq
(.block 1
(.seq
(.reg 6 [oM 22 T20,oM 5 T22] [0,4,5,19,20])
(.seq
(.reg 7 [oM 24 T0,oM 25 T5,oK 26 (.call 45 [T24,T25]),oM 23 T26,oQ 27 (.ext 0 T23),oQ 28 (.ext 1 T23),oK 6 (.alloc [(.str []),(zI 0),(.str []),(.str []),(zU 0),(.str []),.aa1,.aa1,.aa1,.aa1,.aa1,.aa1,.aa1,.aa1,.aa1]),oN (.store 15 T6 T27),oM 7 T28] [0,4,5,6,7,19,20])
(.seq
(.seq
(.reg 8 [oM 29 T7,oQ 30 (.bin .neq T29 (cI 0))] [0,4,5,6,7,19,20,30])
(.cond T30
(.seq
(.reg 9 [oM 31 T7,oM 2 (.c .ac2),oM 3 T31] [2,3])
.ret)
.skip))
(.seq
(.ar4 10 [oM 32 T4,oM 33 T4,oQ 34 (.ak4 T33),oQ 35 (.aa6 0 T34),oQ 36 (.load none T35),oQ 37 (.load (some 15) T6),oK 38 (.bb4 15 1 [(.str []),(zI 0),(.str []),(.str []),(zU 0),(.str []),.aa1,.aa1,.aa1,.aa1,.aa1,.aa1,.aa1,.aa1,.aa1] [⟨0,⟨15,T37⟩⟩]),oK 39 (.app 15 T36 T38),oQ 40 (.ak4 T32),oQ 41 (.aa6 0 T40),oN (.store 1 T41 T39)] true [0,4,5,6,19,20])
(.seq
(.ar4 11 [oM 42 T4,oQ 43 (.ak4 T42),oQ 44 (.aa6 2 T43),oQ 45 (.load none T44),oQ 46 (.aa6 0 T6),oQ 47 (.load none T46),oM 48 T4,oQ 49 (.ak4 T48),oQ 50 (.aa6 2 T49),oQ 51 (.load none T50),oQ 52 (.aa6 0 T6),oQ 53 (.load none T52),oQ 54 (.lkp 2 .aa1 false T51 T53),oM 55 T5,oK 56 (.bb4 1 1 [(zI 0)] [⟨0,⟨1,T55⟩⟩]),oK 57 (.app 1 T54 T56),oN (.di9 2 T45 T47 T57)] true [0,4,5,6,19,20])
(.seq
(.seq
(.reg 12 [oQ 58 (.load (some 15) T6),oK 59 (.call 93 [T58]),oK 60 (.bc2 T59)] [0,4,5,6,19,20,60])
(.block 2
(.loop
(.seq
(.reg 13 [oK 61 (.cg5 T60),oQ 62 (.ext 0 T61)] [0,4,5,6,19,20,60,62])
(.seq
(.cond T62
.skip
(.exit 2))
(.block 3
(.seq
(.reg 14 [oK 63 (.fc1 T60),oQ 64 (.ext 0 T63),oM 8 T64] [0,4,5,6,8,19,20,60])
(.ar4 15 [oM 65 T4,oQ 66 (.ak4 T65),oQ 67 (.aa6 1 T66),oQ 68 (.load none T67),oM 69 T8,oM 70 T4,oQ 71 (.ak4 T70),oQ 72 (.aa6 1 T71),oQ 73 (.load none T72),oM 74 T8,oQ 75 (.lkp 2 .aa1 false T73 T74),oM 76 T5,oK 77 (.bb4 1 1 [(zI 0)] [⟨0,⟨1,T76⟩⟩]),oK 78 (.app 1 T75 T77),oN (.di9 2 T68 T69 T78)] true [0,4,5,6,19,20,60]))))))))
(.seq
(.reg 16 [oQ 79 (.aa6 9 T6),oQ 80 (.load none T79),oQ 81 (.len 0 T80),oM 82 (cI 0)] [0,4,5,19,20,80,81,82])
(.block 4
(.loop
(.seq
(.reg 17 [oQ 83 (.bin .lss T82 T81)] [0,4,5,19,20,80,81,82,83])
(.seq
(.cond T83
.skip
(.exit 4))
(.seq
(.block 5
(.seq
(.reg 18 [oQ 84 (.ac8 5 T80 T82),oQ 85 (.load (some 5) T84),oK 10 (.alloc [(.str []),(zU 0),(zI 0),(.str []),(.str [])]),oN (.store 5 T10 T85)] [0,4,5,10,19,20,80,81,82])
(.seq
(.ar4 19 [oM 86 T4,oQ 87 (.ak4 T86),oQ 88 (.aa6 3 T87),oQ 89 (.load none T88),oQ 90 (.aa6 0 T10),oQ 91 (.load none T90),oQ 92 (.lkp 2 .aa1 false T89 T91),oM 93 T5,oK 94 (.call 94 [T92,T93]),oQ 95 (.not T94)] false [0,4,5,10,19,20,80,81,82,95])
(.cond T95
(.ar4 20 [oM 96 T4,oQ 97 (.ak4 T96),oQ 98 (.aa6 3 T97),oQ 99 (.load none T98),oQ 100 (.aa6 0 T10),oQ 101 (.load none T100),oM 102 T4,oQ 103 (.ak4 T102),oQ 104 (.aa6 3 T103),oQ 105 (.load none T104),oQ 106 (.aa6 0 T10),oQ 107 (.load none T106),oQ 108 (.lkp 2 .aa1 false T105 T107),oM 109 T5,oK 110 (.bb4 1 1 [(zI 0)] [⟨0,⟨1,T109⟩⟩]),oK 111 (.app 1 T108 T110),oN (.di9 2 T99 T101 T111)] true [0,4,5,19,20,80,81,82])
.skip))))
(.reg 21 [oQ 112 (.bin .add T82 (cI 1)),oM 82 T112] [0,4,5,19,20,80,81,82]))))))))))))))
(.reg 22 [oQ 113 (.bin .add T20 (cI 1)),oM 20 T113] [0,4,19,20])))))))
(.seq
(.reg 23 [oM 114 T4,oM 2 T114,oM 3 (cI 0)] [2,3])
.ret)))))
theorem fok43:FOK Tryz.prog 43 (115,ic43,[(.t 2),(.t 3)]):=af6 [1000038,1000056,1000077,1000110] Tryz.func43
def ic44:IC :=
(.seq
(.reg 0 [oK 1 (.box T0),oK 2 (.alloc [(zU 0),(.bool false),.aa1,.aa1,(zI 0)])] [1,2])
(.seq
(.ar4 1 [oQ 3 (.aa6 2 T1),oQ 4 (.load none T3),oK 5 (.af1 95 [T4]),oQ 6 (.aa6 3 T1),oQ 7 (.load none T6),oK 8 (.af1 96 [T7]),oQ 9 (.aa6 2 T1),oN (.store 1 T9 T5),oQ 10 (.aa6 3 T1),oN (.store 1 T10 T8)] false [1,2])
(.seq
(.reg 2 [oQ 11 (.load (some 5) T1),oN (.store 5 T2 T11)] [2])
.ret)))
theorem fok44:FOK Tryz.prog 44 (12,ic44,[(.cell (some 5) 2)]):=af6 ([]++[95,96]) Tryz.func44 (by kernel_rfl) (by kernel_rfl) (by kernel_rfl) (by kernel_rfl)
def ic45:IC :=
(.seq
(.reg 0 [oK 4 (.alloc [(.str []),(zI 0),(.str []),(.str []),(zU 0),(.str []),.aa1,.aa1,.aa1,.aa1,.aa1,.aa1,.aa1,.aa1,.aa1]),oM 5 (cI 0)] [0,1,4])
(.seq
(.seq
(.reg 1 [oM 6 T0,oQ 7 (.aw3 (.pointer 63) false T6),oM 8 T7,gQ 9 8 false (.mov T0),gQ 10 8 false (.ak4 T9),gQ 11 8 false (.aa6 0 T10),gQ 12 8 false (.load none T11),gQ 13 8 false (.mov T1),gK 14 8 false (.call 97 [T12,T13]),gQ 15 8 false (.not T14),oQ 16 (.pick T8 (cB true) T15)] [0,1,4,16])
(.cond T16
(.seq
(.reg 2 [oQ 17 (.bld [(.str []),(zI 0),(.str []),(.str []),(zU 0),(.str []),.aa1,.aa1,.aa1,.aa1,.aa1,.aa1,.aa1,.aa1,.aa1] []),oN (.store 15 T4 T17),oM 5 (cI 5)] [4,5])
.ret)
.skip))
(.seq
(.reg 3 [oM 18 T0,oQ 19 (.ak4 T18),oQ 20 (.aa6 0 T19),oQ 21 (.load none T20),oM 22 T1,oQ 23 (.ac8 17 T21 T22),oQ 24 (.aa6 0 T23),oQ 25 (.load (some 15) T24),oK 26 (.call 85 [T25]),oN (.store 15 T4 T26),oM 5 (cI 0)] [4,5])
.ret)))
theorem fok45:FOK Tryz.prog 45 (27,ic45,[(.cell (some 15) 4),(.t 5)]):=af6 [] Tryz.func45
def ic46:IC :=
(.seq
(.reg 0 [oM 2 (cB false)] [0])
(.seq
(.reg 1 [oM 3 T0,oQ 4 (.bin .geq T3 (.c (zU 2))),oM 5 T4,gQ 6 5 true (.mov T0),gQ 7 5 true (.bin .leq T6 (.c (zU 4))),oQ 8 (.pick T5 T7 (cB false)),oM 2 T8] [2])
.ret))
theorem fok46:FOK Tryz.prog 46 (9,ic46,[(.t 2)]):=af6 [] Tryz.func46
def ic47:IC :=
(.seq
(.reg 0 [oK 1 (.ai8 T0),oM 2 (cB false)] [1])
(.seq
(.seq
(.reg 1 [oQ 3 (.aa6 0 T1),oQ 4 (.load none T3),oK 5 (.call 98 [T4]),oQ 6 (.not T5),oM 7 T6,gQ 8 7 false (.aa6 1 T1),gQ 9 7 false (.load none T8),gK 10 7 false (.call 99 [T9]),gQ 11 7 false (.not T10),oQ 12 (.pick T7 (cB true) T11)] [1,12])
(.cond T12
(.seq
(.reg 2 [oM 2 (cB false)] [2])
.ret)
.skip))
(.seq
(.seq
(.reg 3 [oQ 13 (.aa6 1 T1),oQ 14 (.load none T13),oQ 15 (.bin .eql T14 (.c (zU 0)))] [1,15])
(.cond T15
(.seq
(.reg 4 [oQ 16 (.aa6 2 T1),oQ 17 (.load (some 3) T16),oQ 18 (.bld [(zI 0),(.str []),(.str [])] []),oQ 19 (.eqs [1,2,2] true false T17 T18),oM 2 T19] [2])
.ret)
.skip))
(.seq
(.reg 5 [oQ 20 (.aa6 0 T1),oQ 21 (.load none T20),oK 22 (.call 100 [T21]),oQ 23 (.not T22),oM 24 T23,gQ 25 24 true (.aa6 2 T1),gQ 26 24 true (.load (some 3) T25),gK 27 24 true (.call 101 [T26,(cB true)]),oQ 28 (.pick T24 T27 (cB false)),oM 2 T28] [2])
.ret))))
theorem fok47:FOK Tryz.prog 47 (29,ic47,[(.t 2)]):=af6 [1000001] Tryz.func47
def ic48:IC :=
(.seq
(.reg 0 [oM 4 (cB false)] [0,1])
(.seq
(.reg 1 [oM 5 T0,oQ 6 (.aw3 (.pointer 94) true T5),oM 7 T6,gQ 8 7 true (.mov T1),gQ 9 7 true (.bin .geq T8 (cI 0)),oQ 10 (.pick T7 T9 (cB false)),oM 11 T10,gQ 12 11 true (.mov T1),gQ 13 11 true (.mov T0),gQ 14 11 true (.ak4 T13),gQ 15 11 true (.aa6 0 T14),gQ 16 11 true (.load none T15),gQ 17 11 true (.len 0 T16),gQ 18 11 true (.bin .lss T12 T17),oQ 19 (.pick T11 T18 (cB false)),oM 4 T19] [4])
.ret))
theorem fok48:FOK Tryz.prog 48 (20,ic48,[(.t 4)]):=af6 [] Tryz.func48
def ic49:IC :=
(.seq
(.reg 0 [oM 6 (.c .aa1)] [0,1,2])
(.seq
(.reg 1 [oM 7 (.c .aa1)] [0,1,2,7])
(.seq
(.seq
(.reg 2 [oM 10 T1,oQ 11 (.len 0 T10),oM 12 (cI 0)] [0,2,7,10,11,12])
(.block 0
(.loop
(.seq
(.reg 3 [oQ 13 (.bin .lss T12 T11)] [0,2,7,10,11,12,13])
(.seq
(.cond T13
.skip
(.exit 0))
(.seq
(.block 1
(.seq
(.reg 4 [oQ 14 (.ac8 1 T10 T12),oQ 15 (.load none T14),oM 9 T15] [0,2,7,9,10,11,12])
(.seq
(.reg 5 [oM 16 T2,oM 17 T0,oQ 18 (.ak4 T17),oQ 19 (.aa6 0 T18),oQ 20 (.load none T19),oM 21 T9,oQ 22 (.ac8 15 T20 T21),oQ 23 (.load (some 15) T22),oM 24 T9,oK 25 (.an1 T16 [T23,T24])] [0,2,7,9,10,11,12,25])
(.cond T25
(.reg 6 [oM 26 T7,oM 27 T9,oK 28 (.bb4 1 1 [(zI 0)] [⟨0,⟨1,T27⟩⟩]),oK 29 (.app 1 T26 T28),oM 7 T29] [0,2,7,10,11,12])
.skip))))
(.reg 7 [oQ 30 (.bin .add T12 (cI 1)),oM 12 T30] [0,2,7,10,11,12])))))))
(.seq
(.reg 8 [oM 31 T7,oM 6 T31] [6])
.ret))))
theorem fok49:FOK Tryz.prog 49 (32,ic49,[(.t 6)]):=af6 [1000028] Tryz.func49
def ic50:IC :=
(.seq
(.reg 0 [oK 4 (.ai8 T0),oM 6 (cB false)] [1,2,3,4])
(.seq
(.ar4 1 [oM 7 T1,oQ 8 (.load none T2),oQ 9 (.bin .neq T7 T8),oM 10 T9,gQ 11 10 true (.load (some 15) T4),gQ 12 10 true (.load none T3),gQ 13 10 true (.ak4 T12),gQ 14 10 true (.aa6 0 T13),gQ 15 10 true (.load none T14),gQ 16 10 true (.load none T2),gQ 17 10 true (.ac8 15 T15 T16),gQ 18 10 true (.load (some 15) T17),gK 19 10 true (.call 51 [T11,T18]),oQ 20 (.pick T10 T19 (cB false)),oM 6 T20] false [6])
.ret))
theorem fok50:FOK Tryz.prog 50 (21,ic50,[(.t 6)]):=af6 [1000004] Tryz.func50
def ic51:IC :=
(.seq
(.reg 0 [oK 2 (.ai8 T0),oK 3 (.ai8 T1),oM 4 (cB false)] [2,3])
(.seq
(.reg 1 [oQ 5 (.aa6 9 T2),oQ 6 (.load none T5),oQ 7 (.mkf 103 [] [T3]),oK 8 (.call 102 [T6,T7]),oM 4 T8] [4])
.ret))
theorem fok51:FOK Tryz.prog 51 (9,ic51,[(.t 4)]):=af6 [1000002,1000003] Tryz.func51
def ic52:IC :=
(.seq
(.reg 0 [oK 2 (.ai8 T0),oK 3 (.ai8 T1),oM 4 (cB false)] [2,3])
(.seq
(.seq
(.reg 1 [oM 5 (cI 0)] [2,3,5])
(.block 0
(.loop
(.seq
(.seq
(.reg 2 [oM 6 T5,oQ 7 (.aa6 9 T2),oQ 8 (.load none T7),oQ 9 (.len 0 T8),oQ 10 (.bin .lss T6 T9)] [2,3,5,10])
(.cond T10
.skip
(.exit 0)))
(.seq
(.block 1
(.seq
(.ar4 4 [oQ 13 (.load (some 15) T3),oQ 14 (.aa6 9 T2),oQ 15 (.load none T14),oM 16 T5,oQ 17 (.ac8 5 T15 T16),oQ 18 (.load (some 5) T17),oK 19 (.call 105 [T13,T18])] false [2,3,5,19])
(.cond T19
(.seq
(.reg 5 [oM 4 (cB true)] [4])
.ret)
.skip)))
(.reg 3 [oM 11 T5,oQ 12 (.bin .add T11 (cI 1)),oM 5 T12] [2,3,5]))))))
(.seq
(.reg 6 [oM 4 (cB false)] [4])
.ret)))
theorem fok52:FOK Tryz.prog 52 (20,ic52,[(.t 4)]):=af6 [1000002,1000003] Tryz.func52
def ic53:IC :=
(.seq
(.reg 0 [oM 4 (cB false)] [0,1])
(.seq
(.reg 1 [oM 5 T0,oQ 6 (.aw3 (.pointer 84) true T5),oM 7 T6,gQ 8 7 true (.mov T1),gQ 9 7 true (.bin .geq T8 (cI 0)),oQ 10 (.pick T7 T9 (cB false)),oM 11 T10,gQ 12 11 true (.mov T1),gQ 13 11 true (.mov T0),gQ 14 11 true (.ak4 T13),gQ 15 11 true (.aa6 7 T14),gQ 16 11 true (.load none T15),gQ 17 11 true (.len 0 T16),gQ 18 11 true (.bin .lss T12 T17),oQ 19 (.pick T11 T18 (cB false)),oM 4 T19] [4])
.ret))
theorem fok53:FOK Tryz.prog 53 (20,ic53,[(.t 4)]):=af6 [] Tryz.func53
def ic54:IC :=
(.seq
(.reg 0 [oM 4 (cB false)] [0,1])
(.seq
(.reg 1 [oM 5 T0,oM 6 T1,oK 7 (.call 106 [T5,T6]),oQ 8 (.bin .gtr T7 (cI 0)),oM 4 T8] [4])
.ret))
theorem fok54:FOK Tryz.prog 54 (9,ic54,[(.t 4)]):=af6 [] Tryz.func54
def ic55:IC :=
(.seq
(.reg 0 [oM 4 (cB false)] [0,1])
(.seq
(.reg 1 [oM 5 T0,oM 6 T1,oK 7 (.call 107 [T5,T6]),oQ 8 (.bin .neq T7 (cI 0)),oM 4 T8] [4])
.ret))
theorem fok55:FOK Tryz.prog 55 (9,ic55,[(.t 4)]):=af6 [] Tryz.func55
def ic56:IC :=
(.seq
(.reg 0 [oM 4 (cB false)] [0,1])
(.seq
(.reg 1 [oM 5 T0,oK 6 (.call 35 [T5]),oM 7 T6,gQ 8 7 true (.mov T1),gK 9 7 true (.call 35 [T8]),oQ 10 (.pick T7 T9 (cB false)),oM 11 T10,gQ 12 11 true (.mov T0),gQ 13 11 true (.mov T1),gQ 14 11 true (.bin .neq T12 T13),oQ 15 (.pick T11 T14 (cB false)),oM 4 T15] [4])
.ret))
theorem fok56:FOK Tryz.prog 56 (16,ic56,[(.t 4)]):=af6 [] Tryz.func56
def ic57:IC :=
(.seq
(.reg 0 [oK 2 (.ai8 T0),oK 3 (.ai8 T1),oM 4 (cI 0)] [2,3])
(.seq
(.reg 1 [oQ 5 (.mkf 109 [] [T2,T3]),oQ 6 (.mkf 111 [] [T2,T3]),oQ 7 (.mkf 113 [] [T2,T3]),oK 8 (.bb4 1 3 [.ad4] [⟨0,⟨1,T5⟩⟩,⟨1,⟨1,T6⟩⟩,⟨2,⟨1,T7⟩⟩]),oK 9 (.call 108 [T8]),oM 4 T9] [4])
.ret))
theorem fok57:FOK Tryz.prog 57 (10,ic57,[(.t 4)]):=af6 [1000002,1000003,1000008] Tryz.func57
def ic58:IC :=
(.seq
(.reg 0 [oM 4 (cB false)] [0,1])
(.seq
(.reg 1 [oM 5 T0,oM 6 T1,oQ 7 (.bin .neq T5 T6),oM 8 T7,gQ 9 8 true (.mov T0),gK 10 8 true (.call 46 [T9]),oQ 11 (.pick T8 T10 (cB false)),oM 12 T11,gQ 13 12 true (.mov T1),gK 14 12 true (.call 46 [T13]),oQ 15 (.pick T12 T14 (cB false)),oM 4 T15] [4])
.ret))
theorem fok58:FOK Tryz.prog 58 (16,ic58,[(.t 4)]):=af6 [] Tryz.func58
def ic59:IC :=
(.seq
(.reg 0 [oK 2 (.ai8 T0),oK 3 (.ai8 T1),oM 4 (cI 0)] [2,3])
(.seq
(.seq
(.reg 1 [oQ 6 (.aa6 0 T2),oQ 7 (.load none T6),oQ 8 (.aa6 0 T3),oQ 9 (.load none T8),oQ 10 (.bin .lss T7 T9)] [2,3,10])
(.cond T10
(.seq
(.reg 2 [oM 4 (cI (-1))] [4])
.ret)
.skip))
(.seq
(.seq
(.reg 3 [oQ 11 (.aa6 0 T2),oQ 12 (.load none T11),oQ 13 (.aa6 0 T3),oQ 14 (.load none T13),oQ 15 (.bin .gtr T12 T14)] [2,3,15])
(.cond T15
(.seq
(.reg 4 [oM 4 (cI 1)] [4])
.ret)
.skip))
(.seq
(.reg 5 [oQ 16 (.aa6 1 T2),oQ 17 (.load none T16),oQ 18 (.aa6 1 T3),oQ 19 (.load none T18),oK 20 (.call 114 [T17,T19]),oM 5 T20] [2,3,5])
(.seq
(.seq
(.reg 6 [oM 21 T5,oQ 22 (.bin .neq T21 (cI 0)),oM 23 T22,gQ 24 23 false (.aa6 2 T2),gQ 25 23 false (.load none T24),gQ 26 23 false (.bin .eql T25 (.c (.str []))),oQ 27 (.pick T23 (cB true) T26),oM 28 T27,gQ 29 28 false (.aa6 2 T3),gQ 30 28 false (.load none T29),gQ 31 28 false (.bin .eql T30 (.c (.str []))),oQ 32 (.pick T28 (cB true) T31)] [2,3,5,32])
(.cond T32
(.seq
(.reg 7 [oM 33 T5,oM 4 T33] [4])
.ret)
.skip))
(.seq
(.reg 8 [oQ 34 (.aa6 2 T2),oQ 35 (.load none T34),oQ 36 (.aa6 2 T3),oQ 37 (.load none T36),oK 38 (.call 114 [T35,T37]),oM 4 T38] [4])
.ret))))))
theorem fok59:FOK Tryz.prog 59 (39,ic59,[(.t 4)]):=af6 [1000002,1000003] Tryz.func59
def ic60:IC :=
(.seq
(.reg 0 [oM 4 (cB false)] [0,1])
(.seq
(.reg 1 [oM 5 T0,oQ 6 (.aw3 (.pointer 84) true T5),oM 7 T6,gQ 8 7 true (.mov T1),gQ 9 7 true (.bin .geq T8 (cI 0)),oQ 10 (.pick T7 T9 (cB false)),oM 11 T10,gQ 12 11 true (.mov T1),gQ 13 11 true (.mov T0),gQ 14 11 true (.ak4 T13),gQ 15 11 true (.aa6 2 T14),gQ 16 11 true (.aa6 2 T15),gQ 17 11 true (.load none T16),gQ 18 11 true (.len 0 T17),gQ 19 11 true (.bin .lss T12 T18),oQ 20 (.pick T11 T19 (cB false)),oM 4 T20] [4])
.ret))
theorem fok60:FOK Tryz.prog 60 (21,ic60,[(.t 4)]):=af6 [] Tryz.func60
def ic61:IC :=
(.seq
(.reg 0 [oM 6 (cB false)] [0,1,2])
(.seq
(.reg 1 [oM 7 T0,oQ 8 (.ak4 T7),oQ 9 (.aa6 2 T8),oQ 10 (.aa6 3 T9),oQ 11 (.load none T10),oM 12 T1,oM 13 T2,oQ 14 (.bld [(zU 0),(zI 0)] [⟨0,⟨1,T12⟩⟩,⟨1,⟨1,T13⟩⟩]),oK 15 (.call 115 [T11,T14]),oM 6 T15] [6])
.ret))
theorem fok61:FOK Tryz.prog 61 (16,ic61,[(.t 6)]):=af6 [] Tryz.func61
def ic62:IC :=
(.seq
(.reg 0 [oM 6 (cB false)] [0,1,2])
(.seq
(.seq
(.reg 1 [oM 7 (cI 0)] [0,1,2,7])
(.block 0
(.loop
(.seq
(.seq
(.reg 2 [oM 8 T7,oM 9 T0,oQ 10 (.ak4 T9),oQ 11 (.aa6 2 T10),oQ 12 (.aa6 3 T11),oQ 13 (.load none T12),oQ 14 (.len 0 T13),oQ 15 (.bin .lss T8 T14)] [0,1,2,7,15])
(.cond T15
.skip
(.exit 0)))
(.seq
(.block 1
(.seq
(.reg 4 [oM 18 T0,oQ 19 (.ak4 T18),oQ 20 (.aa6 2 T19),oQ 21 (.aa6 3 T20),oQ 22 (.load none T21),oM 23 T7,oQ 24 (.ac8 2 T22 T23),oQ 25 (.aa6 0 T24),oQ 26 (.load none T25),oM 27 T1,oQ 28 (.bin .eql T26 T27),oM 29 T28,gQ 30 29 true (.mov T0),gQ 31 29 true (.ak4 T30),gQ 32 29 true (.aa6 2 T31),gQ 33 29 true (.aa6 3 T32),gQ 34 29 true (.load none T33),gQ 35 29 true (.mov T7),gQ 36 29 true (.ac8 2 T34 T35),gQ 37 29 true (.aa6 1 T36),gQ 38 29 true (.load none T37),gQ 39 29 true (.mov T2),gQ 40 29 true (.bin .eql T38 T39),oQ 41 (.pick T29 T40 (cB false))] [0,1,2,7,41])
(.cond T41
(.seq
(.reg 5 [oM 6 (cB true)] [6])
.ret)
.skip)))
(.reg 3 [oM 16 T7,oQ 17 (.bin .add T16 (cI 1)),oM 7 T17] [0,1,2,7]))))))
(.seq
(.reg 6 [oM 6 (cB false)] [6])
.ret)))
theorem fok62:FOK Tryz.prog 62 (42,ic62,[(.t 6)]):=af6 [] Tryz.func62
def ic63:IC :=
(.seq
(.reg 0 [oM 4 (cB false)] [0,1])
(.seq
(.reg 1 [oM 5 T0,oM 6 T1,oK 7 (.call 53 [T5,T6]),oM 8 T7,gQ 9 8 true (.mov T1),gQ 10 8 true (.mov T0),gQ 11 8 true (.ak4 T10),gQ 12 8 true (.aa6 0 T11),gQ 13 8 true (.load none T12),gK 14 8 true (.call 42 [T13]),gQ 15 8 true (.bin .lss T9 T14),oQ 16 (.pick T8 T15 (cB false)),oM 4 T16] [4])
.ret))
theorem fok63:FOK Tryz.prog 63 (17,ic63,[(.t 4)]):=af6 [] Tryz.func63
def ic64:IC :=
(.seq
(.reg 0 [oM 6 (cB false)] [0,1,2])
(.seq
(.seq
(.reg 1 [oM 9 T0,oQ 10 (.ak4 T9),oQ 11 (.aa6 2 T10),oQ 12 (.aa6 2 T11),oQ 13 (.load none T12),oQ 14 (.len 0 T13),oM 15 (cI 0)] [0,1,2,13,14,15])
(.block 0
(.loop
(.seq
(.reg 2 [oQ 16 (.bin .lss T15 T14)] [0,1,2,13,14,15,16])
(.seq
(.cond T16
.skip
(.exit 0))
(.seq
(.block 1
(.seq
(.reg 3 [oM 17 T15,oQ 18 (.ac8 6 T13 T15),oQ 19 (.load (some 6) T18),oK 8 (.alloc [(zU 0),(.str []),(zU 0),(zI 0),(.str []),(.str [])]),oM 7 T17,oN (.store 6 T8 T19)] [0,1,2,7,8,13,14,15])
(.seq
(.ar4 4 [oQ 20 (.aa6 0 T8),oQ 21 (.load none T20),oM 22 T1,oQ 23 (.bin .eql T21 T22),oM 24 T23,gQ 25 24 true (.mov T0),gQ 26 24 true (.mov T7),gK 27 24 true (.af1 21 [T25,T26]),gQ 28 24 true (.not T27),oQ 29 (.pick T24 T28 (cB false)),oM 30 T29,gQ 31 30 true (.mov T0),gQ 32 30 true (.ak4 T31),gQ 33 30 true (.aa6 1 T32),gQ 34 30 true (.load none T33),gQ 35 30 true (.aa6 1 T8),gQ 36 30 true (.load (some 5) T35),gK 37 30 true (.af1 74 [T34,T36]),gQ 38 30 true (.mov T2),gK 39 30 true (.af1 94 [T37,T38]),oQ 40 (.pick T30 T39 (cB false))] false [0,1,2,13,14,15,40])
(.cond T40
(.seq
(.reg 5 [oM 6 (cB true)] [6])
.ret)
.skip))))
(.reg 6 [oQ 41 (.bin .add T15 (cI 1)),oM 15 T41] [0,1,2,13,14,15])))))))
(.seq
(.reg 7 [oM 6 (cB false)] [6])
.ret)))
theorem fok64:FOK Tryz.prog 64 (42,ic64,[(.t 6)]):=af6 ([]++[21,74,94]) Tryz.func64 (by kernel_rfl) (by kernel_rfl) (by kernel_rfl) (by kernel_rfl)
def ic65:IC :=
(.seq
(.reg 0 [oM 6 (cB false)] [0,1,2])
(.seq
(.seq
(.reg 1 [oM 7 (cI 0)] [0,1,2,7])
(.block 0
(.loop
(.seq
(.seq
(.reg 2 [oM 8 T7,oM 9 T0,oQ 10 (.ak4 T9),oQ 11 (.aa6 2 T10),oQ 12 (.aa6 2 T11),oQ 13 (.load none T12),oQ 14 (.len 0 T13),oQ 15 (.bin .lss T8 T14)] [0,1,2,7,15])
(.cond T15
.skip
(.exit 0)))
(.seq
(.block 1
(.seq
(.ar4 4 [oM 18 T0,oQ 19 (.ak4 T18),oQ 20 (.aa6 2 T19),oQ 21 (.aa6 2 T20),oQ 22 (.load none T21),oM 23 T7,oQ 24 (.ac8 6 T22 T23),oQ 25 (.aa6 0 T24),oQ 26 (.load none T25),oM 27 T1,oQ 28 (.bin .eql T26 T27),oM 29 T28,gQ 30 29 true (.mov T0),gQ 31 29 true (.mov T7),gK 32 29 true (.call 22 [T30,T31]),gQ 33 29 true (.not T32),oQ 34 (.pick T29 T33 (cB false)),oM 35 T34,gQ 36 35 true (.mov T0),gQ 37 35 true (.ak4 T36),gQ 38 35 true (.aa6 0 T37),gQ 39 35 true (.load none T38),gQ 40 35 true (.mov T2),gQ 41 35 true (.ac8 15 T39 T40),gQ 42 35 true (.load (some 15) T41),gQ 43 35 true (.mov T0),gQ 44 35 true (.ak4 T43),gQ 45 35 true (.aa6 2 T44),gQ 46 35 true (.aa6 2 T45),gQ 47 35 true (.load none T46),gQ 48 35 true (.mov T7),gQ 49 35 true (.ac8 6 T47 T48),gQ 50 35 true (.aa6 1 T49),gQ 51 35 true (.load (some 5) T50),gK 52 35 true (.call 105 [T42,T51]),oQ 53 (.pick T35 T52 (cB false))] false [0,1,2,7,53])
(.cond T53
(.seq
(.reg 5 [oM 6 (cB true)] [6])
.ret)
.skip)))
(.reg 3 [oM 16 T7,oQ 17 (.bin .add T16 (cI 1)),oM 7 T17] [0,1,2,7]))))))
(.seq
(.reg 6 [oM 6 (cB false)] [6])
.ret)))
theorem fok65:FOK Tryz.prog 65 (54,ic65,[(.t 6)]):=af6 [] Tryz.func65
def ic66:IC :=
(.seq
(.reg 0 [oK 5 (.ai8 T0),oM 6 (cB false)] [1,2,3,4,5])
(.seq
(.reg 1 [oQ 7 (.aa6 0 T5),oQ 8 (.load none T7),oQ 9 (.aa6 0 T1),oQ 10 (.load none T9),oQ 11 (.bin .eql T8 T10),oM 12 T11,gQ 13 12 true (.load none T2),gQ 14 12 true (.mov T13),gQ 15 14 false (.aa6 1 T5),gQ 16 14 false (.load (some 3) T15),gQ 17 14 false (.aa6 1 T1),gQ 18 14 false (.load (some 3) T17),gK 19 14 false (.call 57 [T16,T18]),gQ 20 14 false (.bin .geq T19 (cI 0)),gQ 21 12 true (.pick T14 (cB true) T20),oQ 22 (.pick T12 T21 (cB false)),oM 23 T22,gQ 24 23 true (.load none T3),gQ 25 23 true (.mov T24),gQ 26 25 false (.aa6 4 T5),gQ 27 25 false (.load none T26),gQ 28 25 false (.aa6 4 T1),gQ 29 25 false (.load none T28),gK 30 25 false (.call 67 [T27,T29]),gQ 31 23 true (.pick T25 (cB true) T30),oQ 32 (.pick T23 T31 (cB false)),oM 33 T32,gQ 34 33 true (.load none T4),gQ 35 33 true (.ak4 T34),gQ 36 33 true (.aa6 2 T35),gQ 37 33 true (.aa6 1 T36),gQ 38 33 true (.load none T37),gQ 39 33 true (.mov T38),gQ 40 39 false (.aa6 5 T5),gQ 41 39 false (.load none T40),gQ 42 39 false (.aa6 5 T1),gQ 43 39 false (.load none T42),gQ 44 39 false (.bin .eql T41 T43),gQ 45 33 true (.pick T39 (cB true) T44),oQ 46 (.pick T33 T45 (cB false)),oM 6 T46] [6])
.ret))
theorem fok66:FOK Tryz.prog 66 (47,ic66,[(.t 6)]):=af6 [1000005] Tryz.func66
def ic67:IC :=
(.seq
(.reg 0 [oM 4 (cB false)] [0,1])
(.seq
(.reg 1 [oM 5 T0,oK 6 (.call 86 [T5]),oM 7 T6,gQ 8 7 true (.mov T1),gK 9 7 true (.call 86 [T8]),oQ 10 (.pick T7 T9 (cB false)),oM 11 T10,gQ 12 11 true (.mov T0),gQ 13 11 true (.mov T1),gK 14 11 true (.call 56 [T12,T13]),gQ 15 11 true (.not T14),oQ 16 (.pick T11 T15 (cB false)),oM 4 T16] [4])
.ret))
theorem fok67:FOK Tryz.prog 67 (17,ic67,[(.t 4)]):=af6 [] Tryz.func67
def ic68:IC :=
(.seq
(.reg 0 [oM 3 T0,oQ 4 (.len 0 T3),oM 2 T4] [0,2])
(.reg 1 [oM 5 T0,oM 6 T2,oM 7 T2,oQ 8 (.conv .u64 T7),oK 9 (.call 117 [T8]),oK 10 (.call 116 [T5,(cI 0),T6,T9])] []))
theorem fok68:FOK Tryz.prog 68 (11,ic68,[]):=af6 [] Tryz.func68
def ic69:IC :=
(.seq
(.reg 0 [oM 2 (.c .aa1)] [0])
(.seq
(.seq
(.reg 1 [oM 6 T0,oQ 7 (.len 0 T6),oQ 8 (.bin .lss T7 (cI 2))] [0,8])
(.cond T8
(.seq
(.reg 2 [oM 9 T0,oM 2 T9] [2])
.ret)
.skip))
(.seq
(.seq
(.reg 3 [oM 3 (cI 1)] [0,3])
(.block 0
(.loop
(.seq
(.seq
(.reg 4 [oM 10 T3,oM 11 T0,oQ 12 (.len 0 T11),oQ 13 (.bin .lss T10 T12)] [0,3,13])
(.cond T13
.skip
(.exit 0)))
(.seq
(.block 1
(.seq
(.ar4 6 [oM 16 T0,oM 17 T3,oQ 18 (.ac8 1 T16 T17),oQ 19 (.load none T18),oM 20 T0,oM 21 T3,oQ 22 (.bin .sub T21 (cI 1)),oQ 23 (.ac8 1 T20 T22),oQ 24 (.load none T23),oQ 25 (.bin .eql T19 T24)] false [0,3,25])
(.cond T25
(.seq
(.reg 7 [oM 26 T0,oM 27 T3,oQ 28 (.slc 1 T26 (some T27) none),oM 4 T28] [0,3,4])
(.seq
(.seq
(.reg 8 [oM 5 (cI 1)] [0,3,4,5])
(.block 2
(.loop
(.seq
(.seq
(.reg 9 [oM 29 T5,oM 30 T4,oQ 31 (.len 0 T30),oQ 32 (.bin .lss T29 T31)] [0,3,4,5,32])
(.cond T32
.skip
(.exit 2)))
(.seq
(.block 3
(.seq
(.ar4 11 [oM 35 T4,oM 36 T5,oQ 37 (.ac8 1 T35 T36),oQ 38 (.load none T37),oM 39 T4,oM 40 T5,oQ 41 (.bin .sub T40 (cI 1)),oQ 42 (.ac8 1 T39 T41),oQ 43 (.load none T42),oQ 44 (.bin .neq T38 T43)] false [0,3,4,5,44])
(.cond T44
(.seq
(.reg 12 [oM 45 T0,oM 46 T3,oM 47 T4,oM 48 T5,oQ 49 (.ac8 1 T47 T48),oQ 50 (.load none T49),oQ 51 (.ac8 1 T45 T46),oN (.store 1 T51 T50)] [0,3,4,5])
(.reg 13 [oM 52 T3,oQ 53 (.bin .add T52 (cI 1)),oM 3 T53] [0,3,4,5]))
.skip)))
(.reg 10 [oM 33 T5,oQ 34 (.bin .add T33 (cI 1)),oM 5 T34] [0,3,4,5]))))))
(.seq
(.reg 14 [oM 54 T0,oM 55 T3,oQ 56 (.slc 1 T54 (some T55) none),oN (.clr 1 [(zI 0)] T56)] [0,3])
(.seq
(.reg 15 [oM 57 T0,oM 58 T3,oQ 59 (.slc 1 T57 none (some T58)),oM 2 T59] [2])
.ret))))
.skip)))
(.reg 5 [oM 14 T3,oQ 15 (.bin .add T14 (cI 1)),oM 3 T15] [0,3]))))))
(.seq
(.reg 16 [oM 60 T0,oM 2 T60] [2])
.ret))))
theorem fok69:FOK Tryz.prog 69 (61,ic69,[(.t 2)]):=af6 [] Tryz.func69
def ic70:IC :=
(.seq
(.reg 0 [oM 6 (cB false)] [0,1,2])
(.seq
(.ar4 1 [oM 10 T0,oQ 11 (.ak4 T10),oQ 12 (.aa6 0 T11),oQ 13 (.load none T12),oM 14 T1,oQ 15 (.ac8 15 T13 T14),oQ 16 (.load (some 15) T15),oM 17 T0,oQ 18 (.ak4 T17),oQ 19 (.aa6 0 T18),oQ 20 (.ldt none T19),oM 21 T2,oQ 22 (.ac8 15 T20 T21),oQ 23 (.ldt (some 15) T22),oK 7 (.alloc [(.str []),(zI 0),(.str []),(.str []),(zU 0),(.str []),.aa1,.aa1,.aa1,.aa1,.aa1,.aa1,.aa1,.aa1,.aa1]),oK 8 (.alloc [(.str []),(zI 0),(.str []),(.str []),(zU 0),(.str []),.aa1,.aa1,.aa1,.aa1,.aa1,.aa1,.aa1,.aa1,.aa1]),oN (.store 15 T7 T16),oN (.store 15 T8 T23)] false [0,1,2,7,8])
(.seq
(.seq
(.reg 2 [oM 24 T2,oM 25 T1,oQ 26 (.bin .eql T24 T25),oM 27 T26,gQ 28 27 false (.load (some 15) T8),gQ 29 27 false (.load (some 15) T7),gK 30 27 false (.call 52 [T28,T29]),oQ 31 (.pick T27 (cB true) T30)] [0,1,7,8,31])
(.cond T31
(.seq
(.reg 3 [oM 6 (cB true)] [6])
.ret)
.skip))
(.seq
(.seq
(.reg 4 [oQ 32 (.aa6 0 T8),oQ 33 (.load none T32),oQ 34 (.aa6 0 T7),oQ 35 (.load none T34),oQ 36 (.bin .neq T33 T35)] [0,1,7,8,36])
(.cond T36
(.seq
(.reg 5 [oM 6 (cB false)] [6])
.ret)
.skip))
(.seq
(.reg 6 [oM 37 T0,oM 38 T1,oK 39 (.call 62 [T37,(.c (zU 3)),T38]),oM 40 T39,gQ 41 40 false (.mov T0),gQ 42 40 false (.mov T1),gK 43 40 false (.call 65 [T41,(.c (zU 4)),T42]),oQ 44 (.pick T40 (cB true) T43),oM 9 T44] [0,1,7,8,9])
(.seq
(.seq
(.reg 7 [oQ 45 (.aa6 1 T8),oQ 46 (.load (some 3) T45),oQ 47 (.aa6 1 T7),oQ 48 (.load (some 3) T47),oK 49 (.call 59 [T46,T48]),oQ 50 (.bin .lss T49 (cI 0)),oM 51 T50,gQ 52 51 true (.mov T9),gQ 53 51 true (.not T52),oQ 54 (.pick T51 T53 (cB false))] [0,1,7,8,54])
(.cond T54
(.seq
(.reg 8 [oM 6 (cB false)] [6])
.ret)
.skip))
(.seq
(.seq
(.reg 9 [oQ 55 (.aa6 4 T8),oQ 56 (.load none T55),oQ 57 (.aa6 4 T7),oQ 58 (.load none T57),oK 59 (.call 118 [T56,T58]),oQ 60 (.not T59),oM 61 T60,gQ 62 61 true (.mov T0),gQ 63 61 true (.mov T1),gK 64 61 true (.call 62 [T62,(.c (zU 4)),T63]),gQ 65 61 true (.not T64),oQ 66 (.pick T61 T65 (cB false))] [0,7,8,66])
(.cond T66
(.seq
(.reg 10 [oM 6 (cB false)] [6])
.ret)
.skip))
(.seq
(.reg 11 [oQ 67 (.aa6 5 T8),oQ 68 (.load none T67),oQ 69 (.aa6 5 T7),oQ 70 (.load none T69),oQ 71 (.bin .eql T68 T70),oM 72 T71,gQ 73 72 false (.mov T0),gQ 74 72 false (.ak4 T73),gQ 75 72 false (.aa6 2 T74),gQ 76 72 false (.aa6 1 T75),gQ 77 72 false (.load none T76),oQ 78 (.pick T72 (cB true) T77),oM 6 T78] [6])
.ret))))))))
theorem fok70:FOK Tryz.prog 70 (79,ic70,[(.t 6)]):=af6 [1000020,1000023] Tryz.func70
def ic71:IC :=
(.seq
(.reg 0 [oM 4 (.c .aa1)] [0,1])
(.seq
(.reg 1 [oM 8 T0,oM 9 T1,oK 10 (.call 119 [T8,T9]),oM 5 T10] [0,1,5])
(.seq
(.seq
(.reg 2 [oM 11 T5,oQ 12 (.bin .eql T11 (cI (-1)))] [0,1,5,12])
(.cond T12
(.seq
(.reg 3 [oM 13 T0,oM 4 T13] [4])
.ret)
.skip))
(.seq
(.seq
(.reg 4 [oM 14 T5,oQ 15 (.bin .add T14 (cI 1)),oM 6 T15] [0,1,5,6])
(.block 0
(.loop
(.seq
(.seq
(.reg 5 [oM 16 T6,oM 17 T0,oQ 18 (.len 0 T17),oQ 19 (.bin .lss T16 T18)] [0,1,5,6,19])
(.cond T19
.skip
(.exit 0)))
(.seq
(.block 1
(.seq
(.reg 7 [oM 22 T0,oM 23 T6,oQ 24 (.ac8 1 T22 T23),oQ 25 (.load none T24),oM 7 T25] [0,1,5,6,7])
(.seq
(.reg 8 [oM 26 T1,oM 27 T7,oK 28 (.an1 T26 [T27]),oQ 29 (.not T28)] [0,1,5,6,7,29])
(.cond T29
(.seq
(.reg 9 [oM 30 T0,oM 31 T5,oM 32 T7,oQ 33 (.ac8 1 T30 T31),oN (.store 1 T33 T32)] [0,1,5,6])
(.reg 10 [oM 34 T5,oQ 35 (.bin .add T34 (cI 1)),oM 5 T35] [0,1,5,6]))
.skip))))
(.reg 6 [oM 20 T6,oQ 21 (.bin .add T20 (cI 1)),oM 6 T21] [0,1,5,6]))))))
(.seq
(.reg 11 [oM 36 T0,oM 37 T5,oQ 38 (.slc 1 T36 (some T37) none),oN (.clr 1 [(zI 0)] T38)] [0,5])
(.seq
(.reg 12 [oM 39 T0,oM 40 T5,oQ 41 (.slc 1 T39 none (some T40)),oM 4 T41] [4])
.ret))))))
theorem fok71:FOK Tryz.prog 71 (42,ic71,[(.t 4)]):=af6 [] Tryz.func71
def ic72:IC :=
(.seq
(.reg 0 [oM 3 (cB false)] [0,1])
(.seq
(.reg 1 [oQ 4 (.load none T1),oM 5 T0,oK 6 (.call 63 [T4,T5]),oM 7 T6,gQ 8 7 false (.load none T1),gQ 9 7 false (.mov T0),gK 10 7 false (.call 17 [T8,T9]),gQ 11 7 false (.not T10),oQ 12 (.pick T7 (cB true) T11),oM 3 T12] [3])
.ret))
theorem fok72:FOK Tryz.prog 72 (13,ic72,[(.t 3)]):=af6 [] Tryz.func72
def ic73:IC :=
(.seq
(.reg 0 [oK 3 (.ai8 T1),oM 4 (.c .aa1)] [0,3])
(.seq
(.seq
(.reg 1 [oM 5 T0,oQ 6 (.aw3 (.pointer 94) false T5)] [0,3,6])
(.cond T6
(.seq
(.reg 2 [oM 4 (.c .aa1)] [4])
.ret)
.skip))
(.seq
(.ar4 3 [oM 7 T0,oM 8 T0,oQ 9 (.ak4 T8),oQ 10 (.aa6 1 T9),oQ 11 (.load none T10),oQ 12 (.aa6 0 T3),oQ 13 (.load none T12),oQ 14 (.lkp 2 .aa1 false T11 T13),oQ 15 (.mkf 120 [] [T3]),oK 16 (.call 49 [T7,T14,T15]),oM 4 T16] false [4])
.ret)))
theorem fok73:FOK Tryz.prog 73 (17,ic73,[(.t 4)]):=af6 [1000003] Tryz.func73
def ic74:IC :=
(.seq
(.reg 0 [oK 3 (.ai8 T1),oM 4 (.c .aa1)] [0,3])
(.seq
(.seq
(.reg 1 [oM 5 T0,oQ 6 (.aw3 (.pointer 94) false T5)] [0,3,6])
(.cond T6
(.seq
(.reg 2 [oM 4 (.c .aa1)] [4])
.ret)
.skip))
(.seq
(.ar4 3 [oM 7 T0,oM 8 T0,oQ 9 (.ak4 T8),oQ 10 (.aa6 2 T9),oQ 11 (.load none T10),oQ 12 (.aa6 0 T3),oQ 13 (.load none T12),oQ 14 (.lkp 2 .aa1 false T11 T13),oQ 15 (.mkf 122 [] [T3]),oK 16 (.call 49 [T7,T14,T15]),oM 4 T16] false [4])
.ret)))
theorem fok74:FOK Tryz.prog 74 (17,ic74,[(.t 4)]):=af6 [1000003] Tryz.func74
def ic75:IC :=
(.seq
(.reg 0 [oM 3 (cB false)] [0,1])
(.seq
(.reg 1 [oQ 4 (.load none T1),oM 5 T0,oK 6 (.call 63 [T4,T5]),oQ 7 (.not T6),oM 3 T7] [3])
.ret))
theorem fok75:FOK Tryz.prog 75 (8,ic75,[(.t 3)]):=af6 [] Tryz.func75
def ic76:IC :=
(.seq
(.reg 0 [oK 3 (.ai8 T1),oM 4 (.c .aa1)] [0,3])
(.seq
(.reg 1 [oM 5 (.c .aa1)] [0,3,5])
(.seq
(.seq
(.reg 2 [oM 6 (cI 0)] [0,3,5,6])
(.block 0
(.loop
(.seq
(.seq
(.reg 3 [oM 7 T6,oM 8 T0,oQ 9 (.len 0 T8),oQ 10 (.bin .lss T7 T9)] [0,3,5,6,10])
(.cond T10
.skip
(.exit 0)))
(.seq
(.block 1
(.seq
(.ar4 5 [oM 13 T0,oM 14 T6,oQ 15 (.ac8 15 T13 T14),oQ 16 (.load (some 15) T15),oQ 17 (.load (some 5) T3),oK 18 (.call 123 [T16,T17])] false [0,3,5,6,18])
(.cond T18
(.reg 6 [oM 19 T5,oM 20 T6,oK 21 (.bb4 1 1 [(zI 0)] [⟨0,⟨1,T20⟩⟩]),oK 22 (.app 1 T19 T21),oM 5 T22] [0,3,5,6])
.skip)))
(.reg 4 [oM 11 T6,oQ 12 (.bin .add T11 (cI 1)),oM 6 T12] [0,3,5,6]))))))
(.seq
(.reg 7 [oM 23 T5,oM 4 T23] [4])
.ret))))
theorem fok76:FOK Tryz.prog 76 (24,ic76,[(.t 4)]):=af6 [1000003,1000021] Tryz.func76
end Go.Id.Tryz
