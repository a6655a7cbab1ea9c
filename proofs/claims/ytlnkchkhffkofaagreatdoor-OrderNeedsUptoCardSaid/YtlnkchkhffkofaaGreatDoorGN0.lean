/- The compiled codes of functions,written by a program out of the given form. Conditions: none. -/
import Derived.Test.YtlnkchkhffkofaaGreatDoorFwZb
import Derived.Test.YtlnkchkhffkofaaGreatDoorProg
set_option linter.all false
namespace Go.Id.Tryz
open Go Go.Id Go.Proofs
def he6:List Nat:=List.range 292
def ic3:IC :=
(.seq
(.reg 0 [oM 6 (cB false)] [0,1,2])
(.seq
(.seq
(.reg 1 [oK 20 (.call 5 []),oQ 21 (.not T20),oM 22 T21,gQ 23 22 false (.mov T0),gQ 24 22 false (.mov T1),gQ 25 22 false (.mov T2),gK 26 22 false (.call 6 [T23,T24,T25]),oQ 27 (.pick T22 (cB true) T26)] [0,1,2,27])
(.cond T27
(.seq
(.reg 2 [oK 28 (.call 5 []),oM 6 T28] [6])
.ret)
.skip))
(.seq
(.reg 3 [oM 30 T0,oM 31 T1,oK 32 (.call 7 [T30,T31]),oM 29 T32,oQ 33 (.ext 0 T29),oQ 34 (.ext 1 T29),oK 7 (.alloc [.ae4]),oN (.store 1 T7 T33),oM 8 T34] [2,7,8])
(.seq
(.seq
(.reg 4 [oM 35 T8,oQ 36 (.bin .neq T35 (cI 0))] [2,7,36])
(.cond T36
(.seq
(.reg 5 [oM 6 (cB true)] [6])
.ret)
.skip))
(.seq
(.reg 6 [oQ 38 (.load none T7),oM 39 T2,oK 40 (.call 8 [T38,T39]),oM 37 T40,oQ 41 (.ext 0 T37),oQ 42 (.ext 1 T37),oK 9 (.alloc [.aa1]),oN (.store 1 T9 T41),oM 8 T42] [7,8,9])
(.seq
(.seq
(.reg 7 [oM 43 T8,oQ 44 (.bin .neq T43 (cI 0))] [7,9,44])
(.cond T44
(.seq
(.reg 8 [oM 6 (cB true)] [6])
.ret)
.skip))
(.seq
(.reg 9 [oQ 45 (.load none T9),oQ 46 (.len 0 T45),oM 10 T46] [7,9,10])
(.seq
(.reg 10 [oM 47 T10,oK 48 (.cs9 1 [.aa1] T47),oK 11 (.alloc [.aa1]),oN (.store 1 T11 T48)] [7,9,10,11])
(.seq
(.seq
(.reg 11 [oM 12 (cI 0)] [7,9,10,11,12])
(.block 0
(.loop
(.seq
(.seq
(.reg 12 [oM 49 T12,oM 50 T10,oQ 51 (.bin .lss T49 T50)] [7,9,10,11,12,51])
(.cond T51
.skip
(.exit 0)))
(.seq
(.block 1
(.seq
(.an5 14 [oQ 54 (.load none T11),oM 55 T12,oM 56 T10,oK 57 (.cs9 1 [(.bool false)] T56),oQ 58 (.ab5 1 T54 T55),oN (.store 1 T58 T57)] false [7,9,10,11,12])
(.seq
(.reg 15 [oM 13 (cI 0)] [7,9,10,11,12,13])
(.block 2
(.loop
(.seq
(.seq
(.reg 16 [oM 59 T13,oM 60 T10,oQ 61 (.bin .lss T59 T60)] [7,9,10,11,12,13,61])
(.cond T61
.skip
(.exit 2)))
(.seq
(.block 3
(.an5 18 [oQ 64 (.load none T11),oM 65 T12,oQ 66 (.ab5 1 T64 T65),oQ 67 (.load none T66),oM 68 T13,oQ 69 (.load none T9),oM 70 T12,oQ 71 (.ab5 2 T69 T70),oQ 72 (.ab3 0 T71),oQ 73 (.load none T72),oK 74 (.ag4 9 [T73]),oQ 75 (.load none T9),oM 76 T13,oQ 77 (.ab5 2 T75 T76),oQ 78 (.ab3 0 T77),oQ 79 (.load none T78),oK 80 (.ag4 9 [T79]),oQ 81 (.bin .eql T74 T80),oM 82 T81,gQ 83 82 true (.load none T7),gQ 84 82 true (.load none T9),gQ 85 82 true (.mov T12),gQ 86 82 true (.ab5 2 T84 T85),gQ 87 82 true (.ab3 1 T86),gQ 88 82 true (.load none T87),gQ 89 82 true (.load none T9),gQ 90 82 true (.mov T13),gQ 91 82 true (.ab5 2 T89 T90),gQ 92 82 true (.ab3 1 T91),gQ 93 82 true (.load none T92),gK 94 82 true (.ag4 10 [T83,T88,T93]),oQ 95 (.pick T82 T94 (cB false)),oQ 96 (.ab5 1 T67 T68),oN (.store 1 T96 T95)] false [7,9,10,11,12,13]))
(.reg 17 [oM 62 T13,oQ 63 (.bin .add T62 (cI 1)),oM 13 T63] [7,9,10,11,12,13]))))))))
(.reg 13 [oM 52 T12,oQ 53 (.bin .add T52 (cI 1)),oM 12 T53] [7,9,10,11,12]))))))
(.seq
(.seq
(.reg 19 [oM 14 (cI 0)] [7,9,10,11,14])
(.block 4
(.loop
(.seq
(.seq
(.reg 20 [oM 97 T14,oM 98 T10,oQ 99 (.bin .lss T97 T98)] [7,9,10,11,14,99])
(.cond T99
.skip
(.exit 4)))
(.seq
(.block 5
(.seq
(.reg 22 [oM 15 (cI 0)] [7,9,10,11,14,15])
(.block 6
(.loop
(.seq
(.seq
(.reg 23 [oM 102 T15,oM 103 T10,oQ 104 (.bin .lss T102 T103)] [7,9,10,11,14,15,104])
(.cond T104
.skip
(.exit 6)))
(.seq
(.block 7
(.seq
(.reg 25 [oM 16 (cI 0)] [7,9,10,11,14,15,16])
(.block 8
(.loop
(.seq
(.seq
(.reg 26 [oM 107 T16,oM 108 T10,oQ 109 (.bin .lss T107 T108)] [7,9,10,11,14,15,16,109])
(.cond T109
.skip
(.exit 8)))
(.seq
(.block 9
(.an5 28 [oQ 112 (.load none T11),oM 113 T15,oQ 114 (.ab5 1 T112 T113),oQ 115 (.load none T114),oM 116 T16,oQ 117 (.load none T11),oM 118 T15,oQ 119 (.ab5 1 T117 T118),oQ 120 (.load none T119),oM 121 T16,oQ 122 (.ab5 1 T120 T121),oQ 123 (.load none T122),oM 124 T123,gQ 125 124 false (.load none T11),gQ 126 124 false (.mov T15),gQ 127 124 false (.ab5 1 T125 T126),gQ 128 124 false (.load none T127),gQ 129 124 false (.mov T14),gQ 130 124 false (.ab5 1 T128 T129),gQ 131 124 false (.load none T130),gQ 132 124 false (.mov T131),gQ 133 132 true (.load none T11),gQ 134 132 true (.mov T14),gQ 135 132 true (.ab5 1 T133 T134),gQ 136 132 true (.load none T135),gQ 137 132 true (.mov T16),gQ 138 132 true (.ab5 1 T136 T137),gQ 139 132 true (.load none T138),gQ 140 124 false (.pick T132 T139 (cB false)),oQ 141 (.pick T124 (cB true) T140),oQ 142 (.ab5 1 T115 T116),oN (.store 1 T142 T141)] false [7,9,10,11,14,15,16]))
(.reg 27 [oM 110 T16,oQ 111 (.bin .add T110 (cI 1)),oM 16 T111] [7,9,10,11,14,15,16])))))))
(.reg 24 [oM 105 T15,oQ 106 (.bin .add T105 (cI 1)),oM 15 T106] [7,9,10,11,14,15])))))))
(.reg 21 [oM 100 T14,oQ 101 (.bin .add T100 (cI 1)),oM 14 T101] [7,9,10,11,14]))))))
(.seq
(.reg 29 [oQ 143 (.mkf 11 [] [T9,T7,T11]),oM 17 T143] [9,10,17])
(.seq
(.seq
(.reg 30 [oM 18 (cI 0)] [9,10,17,18])
(.block 10
(.loop
(.seq
(.seq
(.reg 31 [oM 144 T18,oM 145 T10,oQ 146 (.bin .lss T144 T145)] [9,10,17,18,146])
(.cond T146
.skip
(.exit 10)))
(.seq
(.block 11
(.seq
(.seq
(.reg 33 [oQ 149 (.load none T9),oM 150 T18,oQ 151 (.ab5 2 T149 T150),oQ 152 (.ab3 0 T151),oQ 153 (.load none T152),oK 154 (.ag4 9 [T153]),oQ 155 (.bin .eql T154 (cI 1))] [9,10,17,18,155])
(.cond T155
(.exit 11)
.skip))
(.seq
(.seq
(.reg 34 [oM 156 T18,oQ 157 (.bin .add T156 (cI 1)),oM 19 T157] [9,10,17,18,19])
(.block 12
(.loop
(.seq
(.seq
(.reg 35 [oM 158 T19,oM 159 T10,oQ 160 (.bin .lss T158 T159)] [9,10,17,18,19,160])
(.cond T160
.skip
(.exit 12)))
(.seq
(.block 13
(.seq
(.reg 37 [oM 163 T17,oM 164 T18,oM 165 T19,oK 166 (.aj2 T163 [T164,T165])] [9,10,17,18,19,166])
(.cond T166
(.seq
(.reg 38 [oM 6 (cB false)] [6])
.ret)
.skip)))
(.reg 36 [oM 161 T19,oQ 162 (.bin .add T161 (cI 1)),oM 19 T162] [9,10,17,18,19]))))))
(.seq
(.an5 39 [oM 167 T18,oQ 168 (.bin .gtr T167 (cI 0)),oM 169 T168,gQ 170 169 true (.load none T9),gQ 171 169 true (.mov T18),gQ 172 169 true (.bin .sub T171 (cI 1)),gQ 173 169 true (.ab5 2 T170 T172),gQ 174 169 true (.ab3 0 T173),gQ 175 169 true (.load none T174),gK 176 169 true (.ag4 9 [T175]),gQ 177 169 true (.load none T9),gQ 178 169 true (.mov T18),gQ 179 169 true (.ab5 2 T177 T178),gQ 180 169 true (.ab3 0 T179),gQ 181 169 true (.load none T180),gK 182 169 true (.ag4 9 [T181]),gQ 183 169 true (.bin .eql T176 T182),oQ 184 (.pick T169 T183 (cB false)),oM 185 T184,gQ 186 185 true (.load none T9),gQ 187 185 true (.mov T18),gQ 188 185 true (.ab5 2 T186 T187),gQ 189 185 true (.ab3 1 T188),gQ 190 185 true (.load none T189),gQ 191 185 true (.load none T9),gQ 192 185 true (.mov T18),gQ 193 185 true (.bin .sub T192 (cI 1)),gQ 194 185 true (.ab5 2 T191 T193),gQ 195 185 true (.ab3 1 T194),gQ 196 185 true (.load none T195),gQ 197 185 true (.bin .lss T190 T196),oQ 198 (.pick T185 T197 (cB false)),oM 199 T198,gQ 200 199 true (.mov T17),gQ 201 199 true (.mov T18),gQ 202 199 true (.mov T18),gQ 203 199 true (.bin .sub T202 (cI 1)),gK 204 199 true (.aj2 T200 [T201,T203]),gQ 205 199 true (.not T204),oQ 206 (.pick T199 T205 (cB false))] false [9,10,17,18,206])
(.cond T206
(.seq
(.reg 40 [oM 6 (cB false)] [6])
.ret)
.skip)))))
(.reg 32 [oM 147 T18,oQ 148 (.bin .add T147 (cI 1)),oM 18 T148] [9,10,17,18]))))))
(.seq
(.reg 41 [oM 6 (cB true)] [6])
.ret)))))))))))))
theorem fok3:FOK Tryz.prog 3 (207,ic3,[(.t 6)]):=ak2 ([]++[9,10]) Tryz.func3 (by kernel_rfl) (by kernel_rfl) (by kernel_rfl) (by kernel_rfl)
def ic5:IC :=
(.seq
(.reg 0 [oM 0 (cB false)] [])
(.seq
(.reg 1 [oK 6 (.ap7 1 1 [(.str [])] [⟨0,⟨1,(.c (.str [98]))⟩⟩]),oK 7 (.call 23 [(.c (.str [97])),T6]),oK 8 (.ap7 1 1 [(.str [])] [⟨0,⟨1,(.c (.str [99]))⟩⟩]),oK 9 (.call 23 [(.c (.str [98])),T8]),oK 10 (.call 23 [(.c (.str [99])),(.c .aa1)]),oK 11 (.ap7 15 3 [(.str []),(zI 0),(.str []),(.str []),(zU 0),(.str []),.aa1,.aa1,.aa1,.aa1,.aa1,.aa1,.aa1,.aa1,.aa1] [⟨0,⟨15,T7⟩⟩,⟨15,⟨15,T9⟩⟩,⟨30,⟨15,T10⟩⟩]),oK 12 (.call 7 [(.c .aa1),T11]),oM 5 T12,oQ 13 (.ext 0 T5),oQ 14 (.ext 1 T5),oM 1 T13,oM 2 T14] [1,2])
(.seq
(.reg 2 [oK 16 (.ap7 1 1 [(.str [])] [⟨0,⟨1,(.c (.str [98]))⟩⟩]),oK 17 (.call 23 [(.c (.str [97])),T16]),oK 18 (.ap7 1 2 [(.str [])] [⟨0,⟨1,(.c (.str [97]))⟩⟩,⟨1,⟨1,(.c (.str [99]))⟩⟩]),oK 19 (.call 23 [(.c (.str [98])),T18]),oK 20 (.call 23 [(.c (.str [99])),(.c .aa1)]),oK 21 (.ap7 15 3 [(.str []),(zI 0),(.str []),(.str []),(zU 0),(.str []),.aa1,.aa1,.aa1,.aa1,.aa1,.aa1,.aa1,.aa1,.aa1] [⟨0,⟨15,T17⟩⟩,⟨15,⟨15,T19⟩⟩,⟨30,⟨15,T20⟩⟩]),oK 22 (.call 7 [(.c .aa1),T21]),oM 15 T22,oQ 23 (.ext 0 T15),oQ 24 (.ext 1 T15),oM 3 T23,oM 4 T24] [1,2,3,4])
(.seq
(.reg 3 [oM 25 T2,oQ 26 (.bin .eql T25 (cI 0)),oM 27 T26,gQ 28 27 true (.mov T4),gQ 29 27 true (.bin .eql T28 (cI 0)),oQ 30 (.pick T27 T29 (cB false)),oM 31 T30,gQ 32 31 true (.mov T1),gK 33 31 true (.ap7 1 3 [(zI 0)] [⟨0,⟨1,(cI 0)⟩⟩,⟨1,⟨1,(cI 1)⟩⟩,⟨2,⟨1,(cI 2)⟩⟩]),gK 34 31 true (.call 25 [(.c (zU 1)),T33]),gK 35 31 true (.ap7 1 3 [(zI 0)] [⟨0,⟨1,(cI 2)⟩⟩,⟨1,⟨1,(cI 1)⟩⟩,⟨2,⟨1,(cI 0)⟩⟩]),gK 36 31 true (.call 25 [(.c (zU 1)),T35]),gK 37 31 true (.call 24 [T32,T34,T36]),oQ 38 (.pick T31 T37 (cB false)),oM 39 T38,gQ 40 39 true (.mov T3),gK 41 39 true (.ap7 1 3 [(zI 0)] [⟨0,⟨1,(cI 0)⟩⟩,⟨1,⟨1,(cI 1)⟩⟩,⟨2,⟨1,(cI 2)⟩⟩]),gK 42 39 true (.call 25 [(.c (zU 1)),T41]),gK 43 39 true (.ap7 1 3 [(zI 0)] [⟨0,⟨1,(cI 0)⟩⟩,⟨1,⟨1,(cI 2)⟩⟩,⟨2,⟨1,(cI 1)⟩⟩]),gK 44 39 true (.call 25 [(.c (zU 1)),T43]),gK 45 39 true (.call 24 [T40,T42,T44]),oQ 46 (.pick T39 T45 (cB false)),oM 47 T46,gQ 48 47 true (.mov T1),gK 49 47 true (.ap7 1 3 [(zI 0)] [⟨0,⟨1,(cI 2)⟩⟩,⟨1,⟨1,(cI 1)⟩⟩,⟨2,⟨1,(cI 0)⟩⟩]),gK 50 47 true (.call 25 [(.c (zU 6)),T49]),gK 51 47 true (.ap7 1 3 [(zI 0)] [⟨0,⟨1,(cI 0)⟩⟩,⟨1,⟨1,(cI 1)⟩⟩,⟨2,⟨1,(cI 2)⟩⟩]),gK 52 47 true (.call 25 [(.c (zU 6)),T51]),gK 53 47 true (.call 24 [T48,T50,T52]),oQ 54 (.pick T47 T53 (cB false)),oM 55 T54,gQ 56 55 true (.mov T3),gK 57 55 true (.ap7 1 3 [(zI 0)] [⟨0,⟨1,(cI 2)⟩⟩,⟨1,⟨1,(cI 1)⟩⟩,⟨2,⟨1,(cI 0)⟩⟩]),gK 58 55 true (.call 25 [(.c (zU 6)),T57]),gK 59 55 true (.ap7 1 3 [(zI 0)] [⟨0,⟨1,(cI 0)⟩⟩,⟨1,⟨1,(cI 1)⟩⟩,⟨2,⟨1,(cI 2)⟩⟩]),gK 60 55 true (.call 25 [(.c (zU 6)),T59]),gK 61 55 true (.call 24 [T56,T58,T60]),oQ 62 (.pick T55 T61 (cB false)),oM 63 T62,gQ 64 63 true (.mov T1),gK 65 63 true (.call 10 [T64,(cI 0),(cI 1)]),oQ 66 (.pick T63 T65 (cB false)),oM 67 T66,gQ 68 67 true (.mov T1),gK 69 67 true (.call 10 [T68,(cI 0),(cI 2)]),gQ 70 67 true (.not T69),oQ 71 (.pick T67 T70 (cB false)),oM 0 T71] [0])
.ret))))
theorem fok5:FOK Tryz.prog 5 (72,ic5,[(.t 0)]):=ak2 [1000006,1000008,1000011,1000016,1000018,1000021,1000033,1000035,1000041,1000043,1000049,1000051,1000057,1000059] Tryz.func5
def ic6:IC :=
(.seq
(.reg 0 [oM 6 (cB false)] [0,1,2])
(.seq
(.reg 1 [oM 10 T1,oK 11 (.call 26 [T10,(cI 600)]),oM 7 T11] [0,1,2,7])
(.seq
(.reg 2 [oM 12 T1,oQ 13 (.len 0 T12),oM 8 T13] [0,2,7,8])
(.seq
(.seq
(.reg 3 [oM 9 (cI 0)] [0,2,7,8,9])
(.block 0
(.loop
(.seq
(.seq
(.reg 4 [oM 14 T9,oM 15 T0,oQ 16 (.len 0 T15),oQ 17 (.bin .lss T14 T16),oM 18 T17,gQ 19 18 true (.mov T7),gQ 20 18 true (.bin .lss T19 (cI 600)),oQ 21 (.pick T18 T20 (cB false))] [0,2,7,8,9,21])
(.cond T21
.skip
(.exit 0)))
(.seq
(.block 1
(.seq
(.reg 6 [oM 24 T7,oQ 25 (.bin .add T24 (cI 1)),oM 26 T0,oM 27 T9,oQ 28 (.ab5 2 T26 T27),oQ 29 (.ab3 1 T28),oQ 30 (.load none T29),oK 31 (.call 26 [T30,(cI 600)]),oQ 32 (.bin .add T25 T31),oM 7 T32] [0,2,7,8,9])
(.reg 7 [oM 33 T8,oM 34 T0,oM 35 T9,oQ 36 (.ab5 2 T34 T35),oQ 37 (.ab3 1 T36),oQ 38 (.load none T37),oQ 39 (.len 0 T38),oQ 40 (.bin .add T33 T39),oM 8 T40] [0,2,7,8,9])))
(.reg 5 [oM 22 T9,oQ 23 (.bin .add T22 (cI 1)),oM 9 T23] [0,2,7,8,9]))))))
(.seq
(.reg 8 [oM 41 T7,oQ 42 (.bin .geq T41 (cI 600)),oM 43 T42,gQ 44 43 false (.mov T8),gQ 45 43 false (.bin .gtr T44 (cI 24)),oQ 46 (.pick T43 (cB true) T45),oM 47 T46,gQ 48 47 false (.mov T2),gQ 49 47 false (.len 0 T48),gQ 50 47 false (.bin .gtr T49 (cI 60)),oQ 51 (.pick T47 (cB true) T50),oM 6 T51] [6])
.ret)))))
theorem fok6:FOK Tryz.prog 6 (52,ic6,[(.t 6)]):=ak2 [] Tryz.func6
def ic7:IC :=
(.seq
(.reg 0 [⟨(some 4),none,(.q (.mov (.c .ae4)))⟩,⟨(some 5),none,(.q (.mov (.c (.int .i64 0))))⟩] [0,1])
(.seq
(.reg 1 [⟨(some 14),none,(.q (.mov T1))⟩,⟨(some 15),none,(.q (.len 0 T14))⟩,⟨(some 6),none,(.q (.mov T15))⟩] [0,1,6])
(.seq
(.seq
(.reg 2 [⟨(some 16),none,(.q (.mov T0))⟩,⟨(some 17),none,(.q (.len 0 T16))⟩,⟨(some 18),none,(.q (.mov (.c (.int .i64 0))))⟩] [0,1,6,16,17,18])
(.block 0
(.loop
(.seq
(.reg 3 [⟨(some 19),none,(.q (.bin .lss T18 T17))⟩] [0,1,6,16,17,18,19])
(.seq
(.cond T19
.skip
(.exit 0))
(.seq
(.block 1
(.seq
(.reg 4 [⟨(some 20),none,(.q (.ab5 2 T16 T18))⟩,⟨(some 21),none,(.q (.load (some 2) T20))⟩,⟨(some 8),none,(.alloc [(.int .i64 0),.aa1])⟩,⟨none,none,(.store 2 T8 T21)⟩] [0,1,6,8,16,17,18])
(.reg 5 [⟨(some 22),none,(.q (.mov T6))⟩,⟨(some 23),none,(.q (.ab3 1 T8))⟩,⟨(some 24),none,(.q (.load none T23))⟩,⟨(some 25),none,(.q (.len 0 T24))⟩,⟨(some 26),none,(.q (.bin .add T22 T25))⟩,⟨(some 6),none,(.q (.mov T26))⟩] [0,1,6,16,17,18])))
(.reg 6 [⟨(some 27),none,(.q (.bin .add T18 (.c (.int .i64 1))))⟩,⟨(some 18),none,(.q (.mov T27))⟩] [0,1,6,16,17,18])))))))
(.seq
(.seq
(.reg 7 [⟨(some 28),none,(.q (.mov T0))⟩,⟨(some 29),none,(.q (.len 0 T28))⟩,⟨(some 30),none,(.q (.bin .gtr T29 (.c (.int .i64 16))))⟩,⟨(some 31),none,(.q (.mov T30))⟩,⟨(some 32),(some ⟨31,false⟩),(.q (.mov T6))⟩,⟨(some 33),(some ⟨31,false⟩),(.q (.bin .gtr T32 (.c (.int .i64 256))))⟩,⟨(some 34),none,(.q (.pick T31 (.c (.bool true)) T33))⟩] [0,1,34])
(.cond T34
(.seq
(.reg 8 [⟨(some 4),none,(.q (.mov (.c .ae4)))⟩,⟨(some 5),none,(.q (.mov (.c (.int .i64 40))))⟩] [4,5])
.ret)
.skip))
(.seq
(.reg 9 [⟨(some 35),none,(.q (.mov T1))⟩,⟨(some 36),none,(.q (.len 0 T35))⟩,⟨(some 37),none,.az2⟩,⟨(some 38),none,(.q (.bld [.aa1,(.int .i64 0),.ac9] [⟨1,⟨1,T36⟩⟩,⟨2,⟨1,T37⟩⟩]))⟩,⟨(some 39),none,(.box T38)⟩,⟨(some 9),none,(.q (.mov T39))⟩] [0,1,9])
(.seq
(.seq
(.reg 10 [⟨(some 40),none,(.q (.mov T9))⟩,⟨(some 41),none,(.q (.mov T1))⟩,⟨(some 42),none,(.call 27 [T40,T41,(.c (.int .i64 (-1))),(.c (.int .i64 1025))])⟩,⟨(some 10),none,(.q (.mov T42))⟩] [0,9,10])
(.seq
(.reg 11 [⟨(some 43),none,(.q (.mov T10))⟩,⟨(some 44),none,(.q (.bin .neq T43 (.c (.int .i64 0))))⟩] [0,9,10,44])
(.cond T44
(.seq
(.reg 12 [⟨(some 45),none,(.q (.mov T10))⟩,⟨(some 4),none,(.q (.mov (.c .ae4)))⟩,⟨(some 5),none,(.q (.mov T45))⟩] [4,5])
.ret)
.skip)))
(.seq
(.seq
(.reg 13 [⟨(some 46),none,(.q (.mov T0))⟩,⟨(some 47),none,(.q (.len 0 T46))⟩,⟨(some 48),none,(.q (.mov (.c (.int .i64 0))))⟩] [9,46,47,48])
(.block 2
(.loop
(.seq
(.reg 14 [⟨(some 49),none,(.q (.bin .lss T48 T47))⟩] [9,46,47,48,49])
(.seq
(.cond T49
.skip
(.exit 2))
(.seq
(.block 3
(.seq
(.reg 15 [⟨(some 50),none,(.q (.mov T48))⟩,⟨(some 51),none,(.q (.ab5 2 T46 T48))⟩,⟨(some 52),none,(.q (.load (some 2) T51))⟩,⟨(some 12),none,(.alloc [(.int .i64 0),.aa1])⟩,⟨(some 11),none,(.q (.mov T50))⟩,⟨none,none,(.store 2 T12 T52)⟩] [9,11,12,46,47,48])
(.seq
(.seq
(.reg 16 [⟨(some 53),none,(.q (.ab3 0 T12))⟩,⟨(some 54),none,(.q (.load none T53))⟩,⟨(some 55),none,(.q (.bin .lss T54 (.c (.int .i64 0))))⟩,⟨(some 56),none,(.q (.mov T55))⟩,⟨(some 57),(some ⟨56,false⟩),(.q (.ab3 0 T12))⟩,⟨(some 58),(some ⟨56,false⟩),(.q (.load none T57))⟩,⟨(some 59),(some ⟨56,false⟩),(.q (.bin .gtr T58 (.c (.int .i64 1024))))⟩,⟨(some 60),none,(.q (.pick T56 (.c (.bool true)) T59))⟩] [9,11,12,46,47,48,60])
(.cond T60
(.seq
(.reg 17 [⟨(some 4),none,(.q (.mov (.c .ae4)))⟩,⟨(some 5),none,(.q (.mov (.c (.int .i64 4))))⟩] [4,5])
.ret)
.skip))
(.seq
(.reg 18 [⟨(some 61),none,(.q (.mov T9))⟩,⟨(some 62),none,(.q (.ab3 1 T12))⟩,⟨(some 63),none,(.q (.load none T62))⟩,⟨(some 64),none,(.q (.mov T11))⟩,⟨(some 65),none,(.q (.ab3 0 T12))⟩,⟨(some 66),none,(.q (.load none T65))⟩,⟨(some 67),none,(.call 27 [T61,T63,T64,T66])⟩,⟨(some 13),none,(.q (.mov T67))⟩] [9,13,46,47,48])
(.seq
(.reg 19 [⟨(some 68),none,(.q (.mov T13))⟩,⟨(some 69),none,(.q (.bin .neq T68 (.c (.int .i64 0))))⟩] [9,13,46,47,48,69])
(.cond T69
(.seq
(.reg 20 [⟨(some 70),none,(.q (.mov T13))⟩,⟨(some 4),none,(.q (.mov (.c .ae4)))⟩,⟨(some 5),none,(.q (.mov T70))⟩] [4,5])
.ret)
.skip))))))
(.reg 21 [⟨(some 71),none,(.q (.bin .add T48 (.c (.int .i64 1))))⟩,⟨(some 48),none,(.q (.mov T71))⟩] [9,46,47,48])))))))
(.seq
(.reg 22 [⟨(some 72),none,(.q (.mov T9))⟩,⟨(some 4),none,(.q (.mov T72))⟩,⟨(some 5),none,(.q (.mov (.c (.int .i64 0))))⟩] [4,5])
.ret))))))))
theorem fok7:FOK Tryz.prog 7 (73,ic7,[(.t 4),(.t 5)]):=.mk (pf:=[]) (an:=[(0,[0,1]),(1,[0,1,6]),(2,[0,1,6,16,17,18]),(3,[0,1,6,16,17,18,19]),(4,[0,1,6,8,16,17,18]),(5,[0,1,6,16,17,18]),(6,[0,1,6,16,17,18]),(7,[0,1,34]),(8,[4,5]),(9,[0,1,9]),(10,[0,9,10]),(11,[0,9,10,44]),(12,[4,5]),(13,[9,46,47,48]),(14,[9,46,47,48,49]),(15,[9,11,12,46,47,48]),(16,[9,11,12,46,47,48,60]),(17,[4,5]),(18,[9,13,46,47,48]),(19,[9,13,46,47,48,69]),(20,[4,5]),(21,[9,46,47,48]),(22,[4,5])]) (by kernel_rfl) (ac3 Tryz.func7 (by kernel_rfl) (by kernel_rfl) (by kernel_rfl))
def ic8:IC :=
(.seq
(.reg 0 [oM 4 (.c .aa1),oM 5 (cI 0)] [0,1])
(.seq
(.seq
(.reg 1 [oM 20 T0,oQ 21 (.ch2 (.pointer 74) false T20)] [0,1,21])
(.cond T21
(.seq
(.reg 2 [oM 4 (.c .aa1),oM 5 (cI 2)] [4,5])
.ret)
.skip))
(.seq
(.reg 3 [oK 22 .az2,oM 6 T22] [0,1,6])
(.seq
(.reg 4 [oK 7 (.alloc [.aa1,.aa1,.aa1])] [0,1,6,7])
(.seq
(.seq
(.reg 5 [oM 23 T1,oQ 24 (.len 0 T23),oM 25 (cI 0)] [0,6,7,23,24,25])
(.block 0
(.loop
(.seq
(.reg 6 [oQ 26 (.bin .lss T25 T24)] [0,6,7,23,24,25,26])
(.seq
(.cond T26
.skip
(.exit 0))
(.seq
(.block 1
(.seq
(.reg 7 [oQ 27 (.ab5 2 T23 T25),oQ 28 (.load (some 2) T27),oK 9 (.alloc [(zU 0),(zI 0)]),oN (.store 2 T9 T28)] [0,6,7,9,23,24,25])
(.seq
(.seq
(.reg 8 [oM 30 T6,oQ 31 (.ab3 1 T9),oQ 32 (.load none T31),oQ 33 (.lkp 1 (zU 0) true T30 T32),oM 29 T33,oQ 34 (.ext 0 T29),oQ 35 (.ext 1 T29),oM 10 T34,oM 11 T35] [0,6,7,9,11,23,24,25])
(.seq
(.an5 9 [oM 36 T11,oM 37 T36,gQ 38 37 false (.ab3 0 T9),gQ 39 37 false (.load none T38),gQ 40 37 false (.bin .lss T39 (.c (zU 1))),oQ 41 (.pick T37 (cB true) T40),oM 42 T41,gQ 43 42 false (.ab3 0 T9),gQ 44 42 false (.load none T43),gQ 45 42 false (.bin .gtr T44 (.c (zU 8))),oQ 46 (.pick T42 (cB true) T45),oM 47 T46,gQ 48 47 false (.ab3 1 T9),gQ 49 47 false (.load none T48),gQ 50 47 false (.bin .lss T49 (cI 0)),oQ 51 (.pick T47 (cB true) T50),oM 52 T51,gQ 53 52 false (.ab3 1 T9),gQ 54 52 false (.load none T53),gQ 55 52 false (.mov T0),gK 56 52 false (.ag4 28 [T55]),gQ 57 52 false (.bin .geq T54 T56),oQ 58 (.pick T52 (cB true) T57)] false [0,6,7,9,23,24,25,58])
(.cond T58
(.seq
(.reg 10 [oM 4 (.c .aa1),oM 5 (cI 4)] [4,5])
.ret)
.skip)))
(.seq
(.reg 11 [oM 59 T6,oQ 60 (.ab3 1 T9),oQ 61 (.load none T60),oQ 62 (.ab3 0 T9),oQ 63 (.load none T62),oN (.bx7 1 T59 T61 T63)] [0,6,7,9,23,24,25])
(.seq
(.reg 12 [oQ 64 (.ab3 0 T9),oQ 65 (.load none T64),oK 66 (.call 29 [T65]),oM 12 T66] [0,6,7,9,12,23,24,25])
(.an5 13 [oM 67 T12,oM 68 T12,oQ 69 (.ay8 3 1 T7 T68),oQ 70 (.load none T69),oQ 71 (.ab3 1 T9),oQ 72 (.load none T71),oK 73 (.ap7 1 1 [(zI 0)] [⟨0,⟨1,T72⟩⟩]),oK 74 (.app 1 T70 T73),oQ 75 (.ay8 3 1 T7 T67),oN (.store 1 T75 T74)] true [0,6,7,23,24,25]))))))
(.reg 14 [oQ 76 (.bin .add T25 (cI 1)),oM 25 T76] [0,6,7,23,24,25])))))))
(.seq
(.an5 15 [oM 77 T0,oQ 78 (.ay8 3 1 T7 (cI 0)),oQ 79 (.load none T78),oK 80 (.ag4 30 [T77,T79]),oM 81 T0,oQ 82 (.ay8 3 1 T7 (cI 2)),oQ 83 (.load none T82),oK 84 (.ag4 30 [T81,T83]),oK 13 (.alloc [.ac9,.ac9]),oK 14 (.alloc [.ac9,.ac9]),oN (.store 2 T13 T80),oN (.store 2 T14 T84)] false [6,7,13,14])
(.seq
(.reg 16 [oQ 85 (.ay8 3 1 T7 (cI 1)),oQ 86 (.load none T85),oK 87 (.call 31 [T86,(.f 32)])] [6,7,13,14])
(.seq
(.reg 17 [oM 15 (.c .aa1)] [6,7,13,14,15])
(.seq
(.seq
(.an5 18 [oQ 88 (.ay8 3 1 T7 (cI 0)),oQ 89 (.load none T88),oQ 90 (.mkf 34 [] [T13]),oK 91 (.ag4 33 [T89,T90]),oQ 92 (.ay8 3 1 T7 (cI 1)),oQ 93 (.load none T92),oQ 94 (.ay8 3 1 T7 (cI 2)),oQ 95 (.load none T94),oQ 96 (.mkf 36 [] [T14]),oK 97 (.ag4 33 [T95,T96]),oK 98 (.ap7 1 3 [.aa1] [⟨0,⟨1,T91⟩⟩,⟨1,⟨1,T93⟩⟩,⟨2,⟨1,T97⟩⟩]),oQ 99 (.len 0 T98),oM 100 (cI 0)] false [6,15,98,99,100])
(.block 2
(.loop
(.seq
(.reg 19 [oQ 101 (.bin .lss T100 T99)] [6,15,98,99,100,101])
(.seq
(.cond T101
.skip
(.exit 2))
(.seq
(.block 3
(.seq
(.reg 20 [oQ 102 (.ab5 1 T98 T100),oQ 103 (.load none T102),oM 17 T103] [6,15,17,98,99,100])
(.seq
(.reg 21 [oM 104 T17,oQ 105 (.len 0 T104),oM 106 (cI 0)] [6,15,98,99,100,104,105,106])
(.block 4
(.loop
(.seq
(.reg 22 [oQ 107 (.bin .lss T106 T105)] [6,15,98,99,100,104,105,106,107])
(.seq
(.cond T107
.skip
(.exit 4))
(.seq
(.block 5
(.seq
(.reg 23 [oQ 108 (.ab5 1 T104 T106),oQ 109 (.load none T108),oM 19 T109] [6,15,19,98,99,100,104,105,106])
(.reg 24 [oM 110 T15,oM 111 T6,oM 112 T19,oQ 113 (.lkp 1 (zU 0) false T111 T112),oM 114 T19,oQ 115 (.bld [(zU 0),(zI 0)] [⟨0,⟨1,T113⟩⟩,⟨1,⟨1,T114⟩⟩]),oK 116 (.ap7 2 1 [(zU 0),(zI 0)] [⟨0,⟨2,T115⟩⟩]),oK 117 (.app 2 T110 T116),oM 15 T117] [6,15,98,99,100,104,105,106])))
(.reg 25 [oQ 118 (.bin .add T106 (cI 1)),oM 106 T118] [6,15,98,99,100,104,105,106])))))))))
(.reg 26 [oQ 119 (.bin .add T100 (cI 1)),oM 100 T119] [6,15,98,99,100])))))))
(.seq
(.reg 27 [oM 120 T15,oM 4 T120,oM 5 (cI 0)] [4,5])
.ret))))))))))
theorem fok8:FOK Tryz.prog 8 (121,ic8,[(.t 4),(.t 5)]):=ak2 ([1000073,1000098,1000116]++[28,30,33]) Tryz.func8 (by kernel_rfl) (by kernel_rfl) (by kernel_rfl) (by kernel_rfl)
def ic9:IC :=
(.seq
(.reg 0 [oM 2 (cI 0)] [0])
(.seq
(.block 0
(.seq
(.reg 1 [oM 4 T0,oQ 5 (.bin .eql T4 (.c (zU 6))),oM 3 T5] [0,3])
(.cond T3
(.seq
(.reg 2 [oM 2 (cI 2)] [2])
.ret)
(.seq
(.reg 3 [oM 7 T0,oQ 8 (.bin .eql T7 (.c (zU 7))),oM 9 T8,gQ 10 9 false (.mov T0),gQ 11 9 false (.bin .eql T10 (.c (zU 8))),oQ 12 (.pick T9 (cB true) T11),oM 6 T12] [6])
(.cond T6
(.seq
(.reg 4 [oM 2 (cI 1)] [2])
.ret)
.skip)))))
(.seq
(.reg 5 [oM 2 (cI 0)] [2])
.ret)))
theorem fok9:FOK Tryz.prog 9 (13,ic9,[(.t 2)]):=ak2 [] Tryz.func9
def ic10:IC :=
(.seq
(.reg 0 [oM 6 (cB false)] [0,1,2])
(.seq
(.reg 1 [oM 12 T0,oM 13 T1,oK 14 (.call 19 [T12,T13]),oM 11 T14,oQ 15 (.ext 0 T11),oQ 16 (.ext 1 T11),oK 7 (.alloc [(.str []),(zI 0),(.str []),(.str []),(zU 0),(.str []),.aa1,.aa1,.aa1,.aa1,.aa1,.aa1,.aa1,.aa1,.aa1]),oN (.store 15 T7 T15),oM 8 T16] [0,1,2,7,8])
(.seq
(.reg 2 [oM 18 T0,oM 19 T2,oK 20 (.call 19 [T18,T19]),oM 17 T20,oQ 21 (.ext 0 T17),oQ 22 (.ext 1 T17),oK 9 (.alloc [(.str []),(zI 0),(.str []),(.str []),(zU 0),(.str []),.aa1,.aa1,.aa1,.aa1,.aa1,.aa1,.aa1,.aa1,.aa1]),oN (.store 15 T9 T21),oM 10 T22] [1,2,7,8,9,10])
(.seq
(.reg 3 [oM 23 T8,oQ 24 (.bin .eql T23 (cI 0)),oM 25 T24,gQ 26 25 true (.mov T10),gQ 27 25 true (.bin .eql T26 (cI 0)),oQ 28 (.pick T25 T27 (cB false)),oM 29 T28,gQ 30 29 true (.mov T1),gQ 31 29 true (.mov T2),gQ 32 29 true (.bin .neq T30 T31),oQ 33 (.pick T29 T32 (cB false)),oM 34 T33,gQ 35 34 true (.load (some 15) T7),gQ 36 34 true (.load (some 15) T9),gK 37 34 true (.call 37 [T35,T36]),oQ 38 (.pick T34 T37 (cB false)),oM 6 T38] [6])
.ret))))
theorem fok10:FOK Tryz.prog 10 (39,ic10,[(.t 6)]):=ak2 [] Tryz.func10
def ic11:IC :=
(.seq
(.reg 0 [oM 7 (cB false)] [0,1,2,3,4])
(.seq
(.seq
(.reg 1 [oQ 8 (.load none T2),oM 9 T0,oQ 10 (.ab5 2 T8 T9),oQ 11 (.ab3 0 T10),oQ 12 (.load none T11),oK 13 (.ag4 9 [T12]),oQ 14 (.bin .eql T13 (cI 2))] [0,1,2,3,4,14])
(.cond T14
(.reg 2 [oM 15 T1,oM 16 T0,oM 0 T15,oM 1 T16] [0,1,2,3,4])
.skip))
(.seq
(.an5 3 [oQ 17 (.load none T2),oM 18 T0,oQ 19 (.ab5 2 T17 T18),oQ 20 (.ab3 0 T19),oQ 21 (.load none T20),oK 22 (.ag4 9 [T21]),oQ 23 (.load none T2),oM 24 T1,oQ 25 (.ab5 2 T23 T24),oQ 26 (.ab3 0 T25),oQ 27 (.load none T26),oK 28 (.ag4 9 [T27]),oQ 29 (.bin .eql T22 T28),oM 30 T29,gQ 31 30 true (.load none T3),gQ 32 30 true (.load none T2),gQ 33 30 true (.mov T0),gQ 34 30 true (.ab5 2 T32 T33),gQ 35 30 true (.ab3 1 T34),gQ 36 30 true (.load none T35),gQ 37 30 true (.load none T2),gQ 38 30 true (.mov T1),gQ 39 30 true (.ab5 2 T37 T38),gQ 40 30 true (.ab3 1 T39),gQ 41 30 true (.load none T40),gK 42 30 true (.ag4 10 [T31,T36,T41]),oQ 43 (.pick T30 T42 (cB false)),oM 44 T43,gQ 45 44 true (.load none T4),gQ 46 44 true (.mov T1),gQ 47 44 true (.ab5 1 T45 T46),gQ 48 44 true (.load none T47),gQ 49 44 true (.mov T0),gQ 50 44 true (.ab5 1 T48 T49),gQ 51 44 true (.load none T50),gQ 52 44 true (.not T51),oQ 53 (.pick T44 T52 (cB false)),oM 7 T53] false [7])
.ret)))
theorem fok11:FOK Tryz.prog 11 (54,ic11,[(.t 7)]):=ak2 ([]++[9,10]) Tryz.func11 (by kernel_rfl) (by kernel_rfl) (by kernel_rfl) (by kernel_rfl)
def ic19:IC :=
(.seq
(.reg 0 [⟨(some 4),none,(.alloc [(.str []),(.int .i64 0),(.str []),(.str []),(.int .u8 0),(.str []),.aa1,.aa1,.aa1,.aa1,.aa1,.aa1,.aa1,.aa1,.aa1])⟩,⟨(some 5),none,(.q (.mov (.c (.int .i64 0))))⟩] [0,1,4])
(.seq
(.seq
(.reg 1 [⟨(some 6),none,(.q (.mov T0))⟩,⟨(some 7),none,(.q (.ch2 (.pointer 74) false T6))⟩,⟨(some 8),none,(.q (.mov T7))⟩,⟨(some 9),(some ⟨8,false⟩),(.q (.mov T0))⟩,⟨(some 10),(some ⟨8,false⟩),(.q (.bd7 T9))⟩,⟨(some 11),(some ⟨8,false⟩),(.q (.ab3 0 T10))⟩,⟨(some 12),(some ⟨8,false⟩),(.q (.load none T11))⟩,⟨(some 13),(some ⟨8,false⟩),(.q (.mov T1))⟩,⟨(some 14),(some ⟨8,false⟩),(.call 57 [T12,T13])⟩,⟨(some 15),(some ⟨8,false⟩),(.q (.not T14))⟩,⟨(some 16),none,(.q (.pick T8 (.c (.bool true)) T15))⟩] [0,1,4,16])
(.cond T16
(.seq
(.reg 2 [⟨(some 17),none,(.q (.bld [(.str []),(.int .i64 0),(.str []),(.str []),(.int .u8 0),(.str []),.aa1,.aa1,.aa1,.aa1,.aa1,.aa1,.aa1,.aa1,.aa1] []))⟩,⟨none,none,(.store 15 T4 T17)⟩,⟨(some 5),none,(.q (.mov (.c (.int .i64 5))))⟩] [4,5])
.ret)
.skip))
(.seq
(.reg 3 [⟨(some 18),none,(.q (.mov T0))⟩,⟨(some 19),none,(.q (.bd7 T18))⟩,⟨(some 20),none,(.q (.ab3 0 T19))⟩,⟨(some 21),none,(.q (.load none T20))⟩,⟨(some 22),none,(.q (.mov T1))⟩,⟨(some 23),none,(.q (.ab5 17 T21 T22))⟩,⟨(some 24),none,(.q (.ab3 0 T23))⟩,⟨(some 25),none,(.q (.load (some 15) T24))⟩,⟨(some 26),none,(.call 58 [T25])⟩,⟨none,none,(.store 15 T4 T26)⟩,⟨(some 5),none,(.q (.mov (.c (.int .i64 0))))⟩] [4,5])
.ret)))
theorem fok19:FOK Tryz.prog 19 (27,ic19,[(.cell (some 15) 4),(.t 5)]):=.mk (pf:=[]) (an:=[(0,[0,1,4]),(1,[0,1,4,16]),(2,[4,5]),(3,[4,5])]) (by kernel_rfl) (ac3 Tryz.func19 (by kernel_rfl) (by kernel_rfl) (by kernel_rfl))
def ic20:IC :=
(.seq
(.reg 0 [oK 2 (.ao2 T0),oK 3 (.ao2 T1),oM 4 (cI 0)] [2,3])
(.seq
(.reg 1 [oQ 5 (.mkf 60 [] [T2,T3]),oQ 6 (.mkf 61 [] [T2,T3]),oQ 7 (.mkf 63 [] [T2,T3]),oK 8 (.ap7 1 3 [.af5] [⟨0,⟨1,T5⟩⟩,⟨1,⟨1,T6⟩⟩,⟨2,⟨1,T7⟩⟩]),oK 9 (.call 59 [T8]),oM 4 T9] [4])
.ret))
theorem fok20:FOK Tryz.prog 20 (10,ic20,[(.t 4)]):=ak2 [1000002,1000003,1000008] Tryz.func20
def ic23:IC :=
(.seq
(.reg 0 [oK 4 (.alloc [(.str []),(zI 0),(.str []),(.str []),(zU 0),(.str []),.aa1,.aa1,.aa1,.aa1,.aa1,.aa1,.aa1,.aa1,.aa1])] [0,1,4])
(.seq
(.reg 1 [oM 7 T0,oQ 8 (.bld [(zI 0),(.str []),(.str [])] [⟨1,⟨1,(.c (.str [49]))⟩⟩,⟨2,⟨1,(.c (.str [49]))⟩⟩]),oQ 9 (.bld [(.str []),(zI 0),(.str []),(.str []),(zU 0),(.str []),.aa1,.aa1,.aa1,.aa1,.aa1,.aa1,.aa1,.aa1,.aa1] [⟨0,⟨1,T7⟩⟩,⟨1,⟨3,T8⟩⟩,⟨4,⟨1,(.c (zU 1))⟩⟩]),oK 5 (.alloc [(.str []),(zI 0),(.str []),(.str []),(zU 0),(.str []),.aa1,.aa1,.aa1,.aa1,.aa1,.aa1,.aa1,.aa1,.aa1]),oN (.store 15 T5 T9)] [1,4,5])
(.seq
(.seq
(.reg 2 [oM 6 (cI 0)] [1,4,5,6])
(.block 0
(.loop
(.seq
(.seq
(.reg 3 [oM 10 T6,oM 11 T1,oQ 12 (.len 0 T11),oQ 13 (.bin .lss T10 T12)] [1,4,5,6,13])
(.cond T13
.skip
(.exit 0)))
(.seq
(.block 1
(.an5 5 [oQ 16 (.ab3 7 T5),oQ 17 (.load none T16),oM 18 T1,oM 19 T6,oQ 20 (.ab5 1 T18 T19),oQ 21 (.load none T20),oQ 22 (.bld [(.str []),(zU 0),(zI 0),(.str []),(.str [])] [⟨0,⟨1,T21⟩⟩]),oQ 23 (.bld [(zU 0),(.str []),(zU 0),(zI 0),(.str []),(.str []),.aa1] [⟨0,⟨1,(.c (zU 1))⟩⟩,⟨1,⟨5,T22⟩⟩]),oK 24 (.ap7 7 1 [(zU 0),(.str []),(zU 0),(zI 0),(.str []),(.str []),.aa1] [⟨0,⟨7,T23⟩⟩]),oK 25 (.app 7 T17 T24),oQ 26 (.ab3 7 T5),oN (.store 1 T26 T25)] true [1,4,5,6]))
(.reg 4 [oM 14 T6,oQ 15 (.bin .add T14 (cI 1)),oM 6 T15] [1,4,5,6]))))))
(.seq
(.reg 6 [oQ 27 (.load (some 15) T5),oN (.store 15 T4 T27)] [4])
.ret))))
theorem fok23:FOK Tryz.prog 23 (28,ic23,[(.cell (some 15) 4)]):=ak2 [1000024] Tryz.func23
def ic24:IC :=
(.seq
(.reg 0 [oM 6 (cB false)] [0,1,2])
(.seq
(.reg 1 [oM 10 T0,oM 11 T1,oK 12 (.call 8 [T10,T11]),oM 9 T12,oQ 13 (.ext 0 T9),oQ 14 (.ext 1 T9),oM 7 T13,oM 8 T14] [2,7,8])
(.seq
(.reg 2 [oM 15 T8,oQ 16 (.bin .eql T15 (cI 0)),oM 17 T16,gQ 18 17 true (.mov T7),gQ 19 17 true (.mov T2),gK 20 17 true (.call 66 [T18,T19]),oQ 21 (.pick T17 T20 (cB false)),oM 6 T21] [6])
.ret)))
theorem fok24:FOK Tryz.prog 24 (22,ic24,[(.t 6)]):=ak2 [] Tryz.func24
def ic25:IC :=
(.seq
(.reg 0 [oM 4 (.c .aa1)] [0,1])
(.seq
(.reg 1 [oM 5 (.c .aa1)] [0,1,5])
(.seq
(.seq
(.reg 2 [oM 6 (cI 0)] [0,1,5,6])
(.block 0
(.loop
(.seq
(.seq
(.reg 3 [oM 7 T6,oM 8 T1,oQ 9 (.len 0 T8),oQ 10 (.bin .lss T7 T9)] [0,1,5,6,10])
(.cond T10
.skip
(.exit 0)))
(.seq
(.block 1
(.reg 5 [oM 13 T5,oM 14 T0,oM 15 T1,oM 16 T6,oQ 17 (.ab5 1 T15 T16),oQ 18 (.load none T17),oQ 19 (.bld [(zU 0),(zI 0)] [⟨0,⟨1,T14⟩⟩,⟨1,⟨1,T18⟩⟩]),oK 20 (.ap7 2 1 [(zU 0),(zI 0)] [⟨0,⟨2,T19⟩⟩]),oK 21 (.app 2 T13 T20),oM 5 T21] [0,1,5,6]))
(.reg 4 [oM 11 T6,oQ 12 (.bin .add T11 (cI 1)),oM 6 T12] [0,1,5,6]))))))
(.seq
(.reg 6 [oM 22 T5,oM 4 T22] [4])
.ret))))
theorem fok25:FOK Tryz.prog 25 (23,ic25,[(.t 4)]):=ak2 [1000020] Tryz.func25
def ic26:IC :=
(.seq
(.reg 0 [oM 4 (cI 0)] [0,1])
(.seq
(.reg 1 [oM 5 (cI 0)] [0,1,5])
(.seq
(.seq
(.reg 2 [oM 6 (cI 0)] [0,1,5,6])
(.block 0
(.loop
(.seq
(.seq
(.reg 3 [oM 10 T6,oM 11 T0,oQ 12 (.len 0 T11),oQ 13 (.bin .lss T10 T12),oM 14 T13,gQ 15 14 true (.mov T5),gQ 16 14 true (.mov T1),gQ 17 14 true (.bin .lss T15 T16),oQ 18 (.pick T14 T17 (cB false))] [0,1,5,6,18])
(.cond T18
.skip
(.exit 0)))
(.seq
(.block 1
(.seq
(.reg 5 [oM 21 T0,oM 22 T6,oQ 23 (.ab5 15 T21 T22),oQ 24 (.load (some 15) T23),oK 7 (.alloc [(.str []),(zI 0),(.str []),(.str []),(zU 0),(.str []),.aa1,.aa1,.aa1,.aa1,.aa1,.aa1,.aa1,.aa1,.aa1]),oN (.store 15 T7 T24)] [0,1,5,6,7])
(.seq
(.reg 6 [oM 25 T5,oQ 26 (.bin .add T25 (cI 1)),oQ 27 (.ab3 6 T7),oQ 28 (.load none T27),oQ 29 (.len 0 T28),oQ 30 (.bin .add T26 T29),oQ 31 (.ab3 9 T7),oQ 32 (.load none T31),oQ 33 (.len 0 T32),oQ 34 (.bin .add T30 T33),oQ 35 (.ab3 14 T7),oQ 36 (.load none T35),oQ 37 (.len 0 T36),oQ 38 (.bin .add T34 T37),oM 5 T38] [0,1,5,6,7])
(.seq
(.reg 7 [oQ 39 (.ab3 7 T7),oQ 40 (.load none T39),oQ 41 (.ab3 8 T7),oQ 42 (.load none T41),oQ 43 (.ab3 10 T7),oQ 44 (.load none T43),oQ 45 (.ab3 11 T7),oQ 46 (.load none T45),oQ 47 (.ab3 12 T7),oQ 48 (.load none T47),oQ 49 (.ab3 13 T7),oQ 50 (.load none T49),oK 51 (.ap7 1 6 [.aa1] [⟨0,⟨1,T40⟩⟩,⟨1,⟨1,T42⟩⟩,⟨2,⟨1,T44⟩⟩,⟨3,⟨1,T46⟩⟩,⟨4,⟨1,T48⟩⟩,⟨5,⟨1,T50⟩⟩]),oQ 52 (.len 0 T51),oM 53 (cI 0)] [0,1,5,6,51,52,53])
(.block 2
(.loop
(.seq
(.reg 8 [oQ 54 (.bin .lss T53 T52)] [0,1,5,6,51,52,53,54])
(.seq
(.cond T54
.skip
(.exit 2))
(.seq
(.block 3
(.seq
(.reg 9 [oQ 55 (.ab5 1 T51 T53),oQ 56 (.load none T55),oM 9 T56] [0,1,5,6,9,51,52,53])
(.reg 10 [oM 57 T5,oM 58 T9,oM 59 T1,oK 60 (.call 67 [T58,T59]),oQ 61 (.bin .add T57 T60),oM 5 T61] [0,1,5,6,51,52,53])))
(.reg 11 [oQ 62 (.bin .add T53 (cI 1)),oM 53 T62] [0,1,5,6,51,52,53]))))))))))
(.reg 4 [oM 19 T6,oQ 20 (.bin .add T19 (cI 1)),oM 6 T20] [0,1,5,6]))))))
(.seq
(.reg 12 [oM 63 T5,oM 4 T63] [4])
.ret))))
theorem fok26:FOK Tryz.prog 26 (64,ic26,[(.t 4)]):=ak2 [1000051] Tryz.func26
def ic27:IC :=
(.seq
(.reg 0 [⟨(some 8),none,(.q (.mov (.c (.int .i64 0))))⟩] [0,1,2,3])
(.seq
(.seq
(.reg 1 [⟨(some 11),none,(.q (.mov T1))⟩,⟨(some 12),none,(.q (.len 0 T11))⟩,⟨(some 13),none,(.q (.mov (.c (.int .i64 0))))⟩] [0,2,3,11,12,13])
(.block 0
(.loop
(.seq
(.reg 2 [⟨(some 14),none,(.q (.bin .lss T13 T12))⟩] [0,2,3,11,12,13,14])
(.seq
(.cond T14
.skip
(.exit 0))
(.seq
(.block 1
(.seq
(.reg 3 [⟨(some 15),none,(.q (.ab5 15 T11 T13))⟩,⟨(some 16),none,(.q (.load (some 15) T15))⟩,⟨(some 10),none,(.alloc [(.str []),(.int .i64 0),(.str []),(.str []),(.int .u8 0),(.str []),.aa1,.aa1,.aa1,.aa1,.aa1,.aa1,.aa1,.aa1,.aa1])⟩,⟨none,none,(.store 15 T10 T16)⟩] [0,2,3,10,11,12,13])
(.seq
(.seq
(.reg 4 [⟨(some 17),none,(.q (.load (some 15) T10))⟩,⟨(some 18),none,(.ag4 68 [T17])⟩,⟨(some 19),none,(.q (.not T18))⟩] [0,2,3,10,11,12,13,19])
(.cond T19
(.seq
(.reg 5 [⟨(some 8),none,(.q (.mov (.c (.int .i64 4))))⟩] [8])
.ret)
.skip))
(.seq
(.an5 6 [⟨(some 20),none,(.q (.mov T0))⟩,⟨(some 21),none,(.q (.bd7 T20))⟩,⟨(some 22),none,(.q (.ab3 2 T21))⟩,⟨(some 23),none,(.q (.load none T22))⟩,⟨(some 24),none,(.q (.ab3 0 T10))⟩,⟨(some 25),none,(.q (.load none T24))⟩,⟨(some 26),none,(.q (.mov T0))⟩,⟨(some 27),none,(.q (.bd7 T26))⟩,⟨(some 28),none,(.q (.ab3 2 T27))⟩,⟨(some 29),none,(.q (.load none T28))⟩,⟨(some 30),none,(.q (.ab3 0 T10))⟩,⟨(some 31),none,(.q (.load none T30))⟩,⟨(some 32),none,(.q (.lkp 2 .aa1 false T29 T31))⟩,⟨(some 33),none,(.q (.mov T0))⟩,⟨(some 34),none,(.q (.bd7 T33))⟩,⟨(some 35),none,(.q (.ab3 0 T34))⟩,⟨(some 36),none,(.q (.load none T35))⟩,⟨(some 37),none,(.q (.len 0 T36))⟩,⟨(some 38),none,(.ap7 1 1 [(.int .i64 0)] [⟨0,⟨1,T37⟩⟩])⟩,⟨(some 39),none,(.app 1 T32 T38)⟩,⟨none,none,(.bx7 2 T23 T25 T39)⟩] true [0,2,3,10,11,12,13])
(.an5 7 [⟨(some 40),none,(.q (.mov T0))⟩,⟨(some 41),none,(.q (.mov T0))⟩,⟨(some 42),none,(.q (.bd7 T41))⟩,⟨(some 43),none,(.q (.ab3 0 T42))⟩,⟨(some 44),none,(.q (.load none T43))⟩,⟨(some 45),none,(.q (.load (some 15) T10))⟩,⟨(some 46),none,(.ag4 58 [T45])⟩,⟨(some 47),none,(.q (.mov T2))⟩,⟨(some 48),none,(.q (.mov T3))⟩,⟨(some 49),none,(.q (.bld [(.str []),(.int .i64 0),(.str []),(.str []),(.int .u8 0),(.str []),.aa1,.aa1,.aa1,.aa1,.aa1,.aa1,.aa1,.aa1,.aa1,(.int .i64 0),(.int .i64 0)] [⟨0,⟨15,T46⟩⟩,⟨15,⟨1,T47⟩⟩,⟨16,⟨1,T48⟩⟩]))⟩,⟨(some 50),none,(.ap7 17 1 [(.str []),(.int .i64 0),(.str []),(.str []),(.int .u8 0),(.str []),.aa1,.aa1,.aa1,.aa1,.aa1,.aa1,.aa1,.aa1,.aa1,(.int .i64 0),(.int .i64 0)] [⟨0,⟨17,T49⟩⟩])⟩,⟨(some 51),none,(.app 17 T44 T50)⟩,⟨(some 52),none,(.q (.bd7 T40))⟩,⟨(some 53),none,(.q (.ab3 0 T52))⟩,⟨none,none,(.store 1 T53 T51)⟩] true [0,2,3,11,12,13])))))
(.reg 8 [⟨(some 54),none,(.q (.bin .add T13 (.c (.int .i64 1))))⟩,⟨(some 13),none,(.q (.mov T54))⟩] [0,2,3,11,12,13])))))))
(.seq
(.reg 9 [⟨(some 8),none,(.q (.mov (.c (.int .i64 0))))⟩] [8])
.ret)))
theorem fok27:FOK Tryz.prog 27 (55,ic27,[(.t 8)]):=.mk (pf:=([1000038,1000050]++he6)) (an:=[(0,[0,1,2,3]),(1,[0,2,3,11,12,13]),(2,[0,2,3,11,12,13,14]),(3,[0,2,3,10,11,12,13]),(4,[0,2,3,10,11,12,13,19]),(5,[8]),(6,[0,2,3,10,11,12,13]),(7,[0,2,3,11,12,13]),(8,[0,2,3,11,12,13]),(9,[8])]) (by kernel_rfl) (ac3 Tryz.func27 (by kernel_rfl) (by kernel_rfl) (by kernel_rfl))
def ic28:IC :=
(.seq
(.reg 0 [⟨(some 2),none,(.q (.mov (.c (.int .i64 0))))⟩] [0])
(.seq
(.seq
(.reg 1 [⟨(some 3),none,(.q (.mov T0))⟩,⟨(some 4),none,(.q (.ch2 (.pointer 74) false T3))⟩] [0,4])
(.cond T4
(.seq
(.reg 2 [⟨(some 2),none,(.q (.mov (.c (.int .i64 0))))⟩] [2])
.ret)
.skip))
(.seq
(.reg 3 [⟨(some 5),none,(.q (.mov T0))⟩,⟨(some 6),none,(.q (.bd7 T5))⟩,⟨(some 7),none,(.q (.ab3 0 T6))⟩,⟨(some 8),none,(.q (.load none T7))⟩,⟨(some 9),none,(.q (.len 0 T8))⟩,⟨(some 2),none,(.q (.mov T9))⟩] [2])
.ret)))
theorem fok28:FOK Tryz.prog 28 (10,ic28,[(.t 2)]):=.mk (pf:=[]) (an:=[(0,[0]),(1,[0,4]),(2,[2]),(3,[2])]) (by kernel_rfl) (ac3 Tryz.func28 (by kernel_rfl) (by kernel_rfl) (by kernel_rfl))
def ic29:IC :=
(.seq
(.reg 0 [oM 2 (cI 0)] [0])
(.seq
(.seq
(.reg 1 [oM 3 T0] [3])
(.block 0
(.seq
(.seq
(.reg 2 [oQ 5 (.bin .eql T3 (.c (zU 7))),oM 4 T5] [3,4])
(.cond T4
.skip
(.reg 3 [oQ 6 (.bin .eql T3 (.c (zU 8))),oM 4 T6] [3,4])))
(.cond T4
(.seq
(.reg 4 [oM 2 (cI 1)] [2])
.ret)
(.seq
(.reg 5 [oQ 8 (.bin .eql T3 (.c (zU 6))),oM 7 T8] [7])
(.cond T7
(.seq
(.reg 6 [oM 2 (cI 2)] [2])
.ret)
.skip))))))
(.seq
(.reg 7 [oM 2 (cI 0)] [2])
.ret)))
theorem fok29:FOK Tryz.prog 29 (9,ic29,[(.t 2)]):=ak2 [] Tryz.func29
def ic30:IC :=
(.seq
(.reg 0 [oK 4 (.alloc [.ac9,.ac9])] [0,1,4])
(.seq
(.reg 1 [oK 17 .az2,oK 18 .az2,oQ 19 (.bld [.ac9,.ac9] [⟨0,⟨1,T17⟩⟩,⟨1,⟨1,T18⟩⟩]),oK 5 (.alloc [.ac9,.ac9]),oN (.store 2 T5 T19)] [0,1,4,5])
(.seq
(.seq
(.reg 2 [oM 20 T1,oQ 21 (.len 0 T20),oM 22 (cI 0)] [0,1,4,5,20,21,22])
(.block 0
(.loop
(.seq
(.reg 3 [oQ 23 (.bin .lss T22 T21)] [0,1,4,5,20,21,22,23])
(.seq
(.cond T23
.skip
(.exit 0))
(.seq
(.block 1
(.seq
(.reg 4 [oQ 24 (.ab5 1 T20 T22),oQ 25 (.load none T24),oM 7 T25] [0,1,4,5,7,20,21,22])
(.seq
(.reg 5 [oK 8 (.alloc [(.int .u64 0),(.int .u64 0),(.int .u64 0),(.int .u64 0)])] [0,1,4,5,7,8,20,21,22])
(.seq
(.seq
(.reg 6 [oM 26 T1,oQ 27 (.len 0 T26),oM 28 (cI 0)] [0,1,4,5,7,8,20,21,22,26,27,28])
(.block 2
(.loop
(.seq
(.reg 7 [oQ 29 (.bin .lss T28 T27)] [0,1,4,5,7,8,20,21,22,26,27,28,29])
(.seq
(.cond T29
.skip
(.exit 2))
(.seq
(.block 3
(.seq
(.reg 8 [oQ 30 (.ab5 1 T26 T28),oQ 31 (.load none T30),oM 10 T31] [0,1,4,5,7,8,10,20,21,22,26,27,28])
(.seq
(.reg 9 [oM 32 T0,oM 33 T7,oM 34 T10,oK 35 (.ag4 10 [T32,T33,T34])] [0,1,4,5,7,8,10,20,21,22,26,27,28,35])
(.cond T35
(.reg 10 [oQ 36 (.load (some 4) T8),oM 37 T10,oK 38 (.ag4 69 [T36,T37]),oN (.store 4 T8 T38)] [0,1,4,5,7,8,20,21,22,26,27,28])
.skip))))
(.reg 11 [oQ 39 (.bin .add T28 (cI 1)),oM 28 T39] [0,1,4,5,7,8,20,21,22,26,27,28])))))))
(.eo7 12 [(0,oQ 40 (.ab3 0 T5),0),(1,oQ 41 (.load none T40),0),(2,oM 42 T7,0),(3,oQ 43 (.ab3 1 T5),0),(4,oQ 44 (.ldt none T43),0),(5,oM 45 T7,0),(6,oQ 46 (.load (some 4) T8),0),(7,oQ 47 (.ldt (some 4) T8),0),(8,oN (.bx7 1 T41 T42 T46),0),(9,oN (.bx7 1 T44 T45 T47),0)] [0,1,4,5,20,21,22])))))
(.reg 13 [oQ 48 (.bin .add T22 (cI 1)),oM 22 T48] [0,1,4,5,20,21,22])))))))
(.seq
(.seq
(.reg 14 [oM 11 (cB true)] [1,4,5,11])
(.block 4
(.loop
(.seq
(.seq
(.reg 15 [oM 49 T11] [1,4,5,49])
(.cond T49
.skip
(.exit 4)))
(.block 5
(.seq
(.reg 16 [oM 11 (cB false)] [1,4,5,11])
(.seq
(.reg 17 [oM 50 T1,oQ 51 (.len 0 T50),oM 52 (cI 0)] [1,4,5,11,50,51,52])
(.block 6
(.loop
(.seq
(.reg 18 [oQ 53 (.bin .lss T52 T51)] [1,4,5,11,50,51,52,53])
(.seq
(.cond T53
.skip
(.exit 6))
(.seq
(.block 7
(.seq
(.reg 19 [oQ 54 (.ab5 1 T50 T52),oQ 55 (.load none T54),oM 13 T55] [1,4,5,11,13,50,51,52])
(.seq
(.reg 20 [oQ 56 (.ab3 1 T5),oQ 57 (.load none T56),oM 58 T13,oQ 59 (.lkp 1 (.agg [(.int .u64 0),(.int .u64 0),(.int .u64 0),(.int .u64 0)]) false T57 T58),oK 14 (.alloc [(.int .u64 0),(.int .u64 0),(.int .u64 0),(.int .u64 0)]),oN (.store 4 T14 T59)] [1,4,5,11,13,14,50,51,52])
(.seq
(.seq
(.reg 21 [oM 60 T1,oQ 61 (.len 0 T60),oM 62 (cI 0)] [1,4,5,11,13,14,50,51,52,60,61,62])
(.block 8
(.loop
(.seq
(.reg 22 [oQ 63 (.bin .lss T62 T61)] [1,4,5,11,13,14,50,51,52,60,61,62,63])
(.seq
(.cond T63
.skip
(.exit 8))
(.seq
(.block 9
(.seq
(.reg 23 [oQ 64 (.ab5 1 T60 T62),oQ 65 (.load none T64),oM 16 T65] [1,4,5,11,13,14,16,50,51,52,60,61,62])
(.seq
(.reg 24 [oQ 66 (.load (some 4) T14),oM 67 T16,oK 68 (.ag4 35 [T66,T67])] [1,4,5,11,13,14,16,50,51,52,60,61,62,68])
(.cond T68
(.reg 25 [oQ 69 (.load (some 4) T14),oQ 70 (.ab3 1 T5),oQ 71 (.load none T70),oM 72 T16,oQ 73 (.lkp 1 (.agg [(.int .u64 0),(.int .u64 0),(.int .u64 0),(.int .u64 0)]) false T71 T72),oK 74 (.ag4 70 [T69,T73]),oN (.store 4 T14 T74)] [1,4,5,11,13,14,50,51,52,60,61,62])
.skip))))
(.reg 26 [oQ 75 (.bin .add T62 (cI 1)),oM 62 T75] [1,4,5,11,13,14,50,51,52,60,61,62])))))))
(.seq
(.reg 27 [oQ 76 (.load (some 4) T14),oQ 77 (.ab3 1 T5),oQ 78 (.load none T77),oM 79 T13,oQ 80 (.lkp 1 (.agg [(.int .u64 0),(.int .u64 0),(.int .u64 0),(.int .u64 0)]) false T78 T79),oQ 81 (.eqs [1,1,1,1] true true T76 T80)] [1,4,5,11,13,14,50,51,52,81])
(.cond T81
(.seq
(.reg 28 [oQ 82 (.ab3 1 T5),oQ 83 (.load none T82),oM 84 T13,oQ 85 (.load (some 4) T14),oN (.bx7 1 T83 T84 T85)] [1,4,5,50,51,52])
(.reg 29 [oM 11 (cB true)] [1,4,5,11,50,51,52]))
.skip))))))
(.reg 30 [oQ 86 (.bin .add T52 (cI 1)),oM 52 T86] [1,4,5,11,50,51,52])))))))))))))
(.seq
(.reg 31 [oQ 87 (.load (some 2) T5),oN (.store 2 T4 T87)] [4])
.ret)))))
theorem fok30:FOK Tryz.prog 30 (88,ic30,[(.cell (some 2) 4)]):=ak2 ([1000044,1000047]++he6) Tryz.func30 (by kernel_rfl) (by kernel_rfl) (by kernel_rfl) (by kernel_rfl)
def ic31:IC :=
(.seq
(.reg 0 [oM 5 T0,oQ 6 (.len 0 T5),oM 4 T6] [0,1,4])
(.reg 1 [oM 7 T0,oM 8 T4,oM 9 T4,oQ 10 (.conv .u64 T9),oK 11 (.call 72 [T10]),oM 12 T1,oK 13 (.call 71 [T7,(cI 0),T8,T11,T12])] []))
theorem fok31:FOK Tryz.prog 31 (14,ic31,[]):=ak2 [] Tryz.func31
def ic32:IC :=
(.seq
(.reg 0 [oM 4 (cI 0)] [0,1])
(.seq
(.reg 1 [oM 7 T0,oK 8 (.call 73 [T7]),oM 5 T8] [0,1,5])
(.seq
(.reg 2 [oM 9 T1,oK 10 (.call 73 [T9]),oM 6 T10] [0,1,5,6])
(.seq
(.seq
(.reg 3 [oM 11 T5] [0,1,6,11])
(.cond T11
(.seq
(.seq
(.reg 4 [oM 12 T6] [12])
(.cond T12
(.seq
(.reg 5 [oM 4 (cI 0)] [4])
.ret)
.skip))
(.seq
(.reg 6 [oM 4 (cI (-1))] [4])
.ret))
.skip))
(.seq
(.seq
(.reg 7 [oM 13 T6] [0,1,13])
(.cond T13
(.seq
(.reg 8 [oM 4 (cI 1)] [4])
.ret)
.skip))
(.seq
(.seq
(.reg 9 [oM 14 T0,oM 15 T1,oQ 16 (.bin .lss T14 T15)] [0,1,16])
(.cond T16
(.seq
(.reg 10 [oM 4 (cI (-1))] [4])
.ret)
.skip))
(.seq
(.seq
(.reg 11 [oM 17 T0,oM 18 T1,oQ 19 (.bin .gtr T17 T18)] [19])
(.cond T19
(.seq
(.reg 12 [oM 4 (cI 1)] [4])
.ret)
.skip))
(.seq
(.reg 13 [oM 4 (cI 0)] [4])
.ret))))))))
theorem fok32:FOK Tryz.prog 32 (20,ic32,[(.t 4)]):=ak2 [] Tryz.func32
def ic33:IC :=
(.seq
(.reg 0 [oK 3 (.ao2 T1),oM 4 (.c .aa1)] [0,3])
(.seq
(.reg 1 [oM 8 T0,oK 9 (.call 75 [T8]),oK 10 (.call 74 [T9]),oK 5 (.alloc [.aa1]),oN (.store 1 T5 T10)] [3,5])
(.seq
(.reg 2 [oM 6 (.c .aa1)] [3,5,6])
(.seq
(.block 0
(.loop
(.seq
(.seq
(.reg 3 [oQ 11 (.load none T5),oQ 12 (.len 0 T11),oQ 13 (.bin .gtr T12 (cI 0))] [3,5,6,13])
(.cond T13
.skip
(.exit 0)))
(.block 1
(.seq
(.reg 4 [oQ 14 (.load none T5),oQ 15 (.mkf 77 [] [T5,T3]),oK 16 (.call 76 [T14,T15]),oM 7 T16] [3,5,6,7])
(.seq
(.reg 5 [oM 17 T7,oQ 18 (.mm true T17 (cI 0)),oM 7 T18] [3,5,6,7])
(.seq
(.reg 6 [oM 19 T6,oQ 20 (.load none T5),oM 21 T7,oQ 22 (.ab5 1 T20 T21),oQ 23 (.load none T22),oK 24 (.ap7 1 1 [(zI 0)] [⟨0,⟨1,T23⟩⟩]),oK 25 (.app 1 T19 T24),oM 6 T25] [3,5,6,7])
(.reg 7 [oQ 26 (.load none T5),oM 27 T7,oM 28 T7,oQ 29 (.bin .add T28 (cI 1)),oK 30 (.call 80 [T26,T27,T29]),oN (.store 1 T5 T30)] [3,5,6]))))))))
(.seq
(.reg 8 [oM 31 T6,oM 4 T31] [4])
.ret)))))
theorem fok33:FOK Tryz.prog 33 (32,ic33,[(.t 4)]):=ak2 [1000003,1000024] Tryz.func33
def ic34:IC :=
(.seq
(.reg 0 [oM 5 (cB false)] [0,1,2])
(.seq
(.reg 1 [oQ 6 (.ab3 0 T2),oQ 7 (.load none T6),oM 8 T0,oQ 9 (.lkp 1 (.agg [(.int .u64 0),(.int .u64 0),(.int .u64 0),(.int .u64 0)]) false T7 T8),oM 10 T1,oK 11 (.call 35 [T9,T10]),oM 12 T11,gQ 13 12 true (.ab3 1 T2),gQ 14 12 true (.load none T13),gQ 15 12 true (.mov T1),gQ 16 12 true (.lkp 1 (.agg [(.int .u64 0),(.int .u64 0),(.int .u64 0),(.int .u64 0)]) false T14 T15),gQ 17 12 true (.mov T0),gK 18 12 true (.call 35 [T16,T17]),gQ 19 12 true (.not T18),oQ 20 (.pick T12 T19 (cB false)),oM 5 T20] [5])
.ret))
theorem fok34:FOK Tryz.prog 34 (21,ic34,[(.t 5)]):=ak2 [] Tryz.func34
def ic35:IC :=
(.seq
(.reg 0 [oK 2 (.ao2 T0),oM 4 (cB false)] [1,2])
(.seq
(.reg 1 [oM 5 T1,oQ 6 (.bin .quo T5 (cI 64)),oQ 7 (.ay8 4 1 T2 T6),oQ 8 (.load none T7),oM 9 T1,oQ 10 (.bin .rem T9 (cI 64)),oQ 11 (.bin .shr T8 T10),oQ 12 (.bin .and T11 (.c (.int .u64 1))),oQ 13 (.bin .eql T12 (.c (.int .u64 1))),oM 4 T13] [4])
.ret))
theorem fok35:FOK Tryz.prog 35 (14,ic35,[(.t 4)]):=ak2 [1000002] Tryz.func35
def ic36:IC :=
(.seq
(.reg 0 [oM 5 (cB false)] [0,1,2])
(.seq
(.reg 1 [oQ 6 (.ab3 0 T2),oQ 7 (.load none T6),oM 8 T1,oQ 9 (.lkp 1 (.agg [(.int .u64 0),(.int .u64 0),(.int .u64 0),(.int .u64 0)]) false T7 T8),oM 10 T0,oK 11 (.call 35 [T9,T10]),oM 12 T11,gQ 13 12 true (.ab3 1 T2),gQ 14 12 true (.load none T13),gQ 15 12 true (.mov T0),gQ 16 12 true (.lkp 1 (.agg [(.int .u64 0),(.int .u64 0),(.int .u64 0),(.int .u64 0)]) false T14 T15),gQ 17 12 true (.mov T1),gK 18 12 true (.call 35 [T16,T17]),gQ 19 12 true (.not T18),oQ 20 (.pick T12 T19 (cB false)),oM 5 T20] [5])
.ret))
theorem fok36:FOK Tryz.prog 36 (21,ic36,[(.t 5)]):=ak2 [] Tryz.func36
def ic37:IC :=
(.seq
(.reg 0 [oK 2 (.ao2 T0),oK 3 (.ao2 T1),oM 4 (cB false)] [2,3])
(.seq
(.reg 1 [oQ 5 (.ab3 7 T2),oQ 6 (.load none T5),oQ 7 (.mkf 82 [] [T3]),oK 8 (.call 81 [T6,T7]),oM 4 T8] [4])
.ret))
theorem fok37:FOK Tryz.prog 37 (9,ic37,[(.t 4)]):=ak2 [1000002,1000003] Tryz.func37
def ic50:IC :=
(.seq
(.reg 0 [oM 3 T0,oQ 4 (.len 0 T3),oM 2 T4] [0,2])
(.reg 1 [oM 5 T0,oM 6 T2,oM 7 T2,oQ 8 (.conv .u64 T7),oK 9 (.call 72 [T8]),oK 10 (.call 119 [T5,(cI 0),T6,T9])] []))
theorem fok50:FOK Tryz.prog 50 (11,ic50,[]):=ak2 [] Tryz.func50
def ic57:IC :=
(.seq
(.reg 0 [⟨(some 4),none,(.q (.mov (.c (.bool false))))⟩] [0,1])
(.seq
(.reg 1 [⟨(some 5),none,(.q (.mov T1))⟩,⟨(some 6),none,(.q (.bin .geq T5 (.c (.int .i64 0))))⟩,⟨(some 7),none,(.q (.mov T6))⟩,⟨(some 8),(some ⟨7,true⟩),(.q (.mov T1))⟩,⟨(some 9),(some ⟨7,true⟩),(.q (.mov T0))⟩,⟨(some 10),(some ⟨7,true⟩),(.q (.len 0 T9))⟩,⟨(some 11),(some ⟨7,true⟩),(.q (.bin .lss T8 T10))⟩,⟨(some 12),none,(.q (.pick T7 T11 (.c (.bool false))))⟩,⟨(some 4),none,(.q (.mov T12))⟩] [4])
.ret))
theorem fok57:FOK Tryz.prog 57 (13,ic57,[(.t 4)]):=.mk (pf:=[]) (an:=[(0,[0,1]),(1,[4])]) (by kernel_rfl) (ac3 Tryz.func57 (by kernel_rfl) (by kernel_rfl) (by kernel_rfl))
def ic58:IC :=
(.seq
(.reg 0 [⟨(some 1),none,(.box T0)⟩,⟨(some 2),none,(.alloc [(.str []),(.int .i64 0),(.str []),(.str []),(.int .u8 0),(.str []),.aa1,.aa1,.aa1,.aa1,.aa1,.aa1,.aa1,.aa1,.aa1])⟩] [1,2])
(.seq
(.an5 1 [⟨(some 7),none,(.q (.ab3 6 T1))⟩,⟨(some 8),none,(.q (.load none T7))⟩,⟨(some 9),none,(.ag4 125 [T8])⟩,⟨(some 10),none,(.q (.ab3 9 T1))⟩,⟨(some 11),none,(.q (.load none T10))⟩,⟨(some 12),none,(.ag4 125 [T11])⟩,⟨(some 13),none,(.q (.ab3 14 T1))⟩,⟨(some 14),none,(.q (.load none T13))⟩,⟨(some 15),none,(.ag4 126 [T14])⟩,⟨(some 16),none,(.q (.ab3 6 T1))⟩,⟨none,none,(.store 1 T16 T9)⟩,⟨(some 17),none,(.q (.ab3 9 T1))⟩,⟨none,none,(.store 1 T17 T12)⟩,⟨(some 18),none,(.q (.ab3 14 T1))⟩,⟨none,none,(.store 1 T18 T15)⟩] false [1,2])
(.seq
(.seq
(.reg 2 [⟨(some 19),none,(.q (.ab3 7 T1))⟩,⟨(some 20),none,(.q (.ab3 8 T1))⟩,⟨(some 21),none,(.q (.ab3 10 T1))⟩,⟨(some 22),none,(.q (.ab3 11 T1))⟩,⟨(some 23),none,(.q (.ab3 12 T1))⟩,⟨(some 24),none,(.q (.ab3 13 T1))⟩,⟨(some 25),none,(.ap7 1 6 [.ae4] [⟨0,⟨1,T19⟩⟩,⟨1,⟨1,T20⟩⟩,⟨2,⟨1,T21⟩⟩,⟨3,⟨1,T22⟩⟩,⟨4,⟨1,T23⟩⟩,⟨5,⟨1,T24⟩⟩])⟩,⟨(some 26),none,(.q (.len 0 T25))⟩,⟨(some 27),none,(.q (.mov (.c (.int .i64 0))))⟩] [1,2,25,26,27])
(.block 0
(.loop
(.seq
(.reg 3 [⟨(some 28),none,(.q (.bin .lss T27 T26))⟩] [1,2,25,26,27,28])
(.seq
(.cond T28
.skip
(.exit 0))
(.seq
(.block 1
(.seq
(.reg 4 [⟨(some 29),none,(.q (.ab5 1 T25 T27))⟩,⟨(some 30),none,(.q (.load none T29))⟩,⟨(some 4),none,(.q (.mov T30))⟩] [1,2,4,25,26,27])
(.seq
(.reg 5 [⟨(some 31),none,(.q (.mov T4))⟩,⟨(some 32),none,(.q (.mov T4))⟩,⟨(some 33),none,(.q (.bd7 T32))⟩,⟨(some 34),none,(.q (.load none T33))⟩,⟨(some 35),none,(.call 127 [T34])⟩,⟨(some 36),none,(.q (.bd7 T31))⟩,⟨none,none,(.store 1 T36 T35)⟩] [1,2,4,25,26,27])
(.seq
(.reg 6 [⟨(some 37),none,(.q (.mov T4))⟩,⟨(some 38),none,(.q (.bd7 T37))⟩,⟨(some 39),none,(.q (.load none T38))⟩,⟨(some 40),none,(.q (.len 0 T39))⟩,⟨(some 41),none,(.q (.mov (.c (.int .i64 0))))⟩] [1,2,4,25,26,27,39,40,41])
(.block 2
(.loop
(.seq
(.reg 7 [⟨(some 42),none,(.q (.bin .lss T41 T40))⟩] [1,2,4,25,26,27,39,40,41,42])
(.seq
(.cond T42
.skip
(.exit 2))
(.seq
(.block 3
(.seq
(.reg 8 [⟨(some 43),none,(.q (.mov T41))⟩,⟨(some 44),none,(.q (.ab5 7 T39 T41))⟩,⟨(some 45),none,(.q (.load (some 7) T44))⟩,⟨(some 6),none,(.alloc [(.int .u8 0),(.str []),(.int .u8 0),(.int .i64 0),(.str []),(.str []),.aa1])⟩,⟨(some 5),none,(.q (.mov T43))⟩,⟨none,none,(.store 7 T6 T45)⟩] [1,2,4,5,6,25,26,27,39,40,41])
(.an5 9 [⟨(some 46),none,(.q (.mov T4))⟩,⟨(some 47),none,(.q (.bd7 T46))⟩,⟨(some 48),none,(.q (.load none T47))⟩,⟨(some 49),none,(.q (.mov T5))⟩,⟨(some 50),none,(.q (.load (some 7) T6))⟩,⟨(some 51),none,(.ag4 128 [T50])⟩,⟨(some 52),none,(.q (.ab5 7 T48 T49))⟩,⟨none,none,(.store 7 T52 T51)⟩] false [1,2,4,25,26,27,39,40,41])))
(.reg 10 [⟨(some 53),none,(.q (.bin .add T41 (.c (.int .i64 1))))⟩,⟨(some 41),none,(.q (.mov T53))⟩] [1,2,4,25,26,27,39,40,41]))))))))))
(.reg 11 [⟨(some 54),none,(.q (.bin .add T27 (.c (.int .i64 1))))⟩,⟨(some 27),none,(.q (.mov T54))⟩] [1,2,25,26,27])))))))
(.seq
(.reg 12 [⟨(some 55),none,(.q (.load (some 15) T1))⟩,⟨none,none,(.store 15 T2 T55)⟩] [2])
.ret))))
theorem fok58:FOK Tryz.prog 58 (56,ic58,[(.cell (some 15) 2)]):=.mk (pf:=([1000025]++List.filter (fun k=>k != 127) he6)) (an:=[(0,[1,2]),(1,[1,2]),(2,[1,2,25,26,27]),(3,[1,2,25,26,27,28]),(4,[1,2,4,25,26,27]),(5,[1,2,4,25,26,27]),(6,[1,2,4,25,26,27,39,40,41]),(7,[1,2,4,25,26,27,39,40,41,42]),(8,[1,2,4,5,6,25,26,27,39,40,41]),(9,[1,2,4,25,26,27,39,40,41]),(10,[1,2,4,25,26,27,39,40,41]),(11,[1,2,25,26,27]),(12,[2])]) (by kernel_rfl) (ac3 Tryz.func58 (by kernel_rfl) (by kernel_rfl) (by kernel_rfl))
def ic59:IC :=
(.seq
(.reg 0 [oM 2 (cI 0)] [0])
(.seq
(.seq
(.reg 1 [oM 6 T0,oQ 7 (.len 0 T6),oM 8 (cI 0)] [6,7,8])
(.block 0
(.loop
(.seq
(.reg 2 [oQ 9 (.bin .lss T8 T7)] [6,7,8,9])
(.seq
(.cond T9
.skip
(.exit 0))
(.seq
(.block 1
(.seq
(.reg 3 [oQ 10 (.ab5 1 T6 T8),oQ 11 (.load none T10),oM 4 T11] [4,6,7,8])
(.seq
(.reg 4 [oM 12 T4,oK 13 (.aj2 T12 []),oM 5 T13] [5,6,7,8])
(.seq
(.reg 5 [oM 14 T5,oQ 15 (.bin .neq T14 (cI 0))] [5,6,7,8,15])
(.cond T15
(.seq
(.reg 6 [oM 16 T5,oM 2 T16] [2])
.ret)
.skip)))))
(.reg 7 [oQ 17 (.bin .add T8 (cI 1)),oM 8 T17] [6,7,8])))))))
(.seq
(.reg 8 [oM 2 (cI 0)] [2])
.ret)))
theorem fok59:FOK Tryz.prog 59 (18,ic59,[(.t 2)]):=ak2 [] Tryz.func59
def ic60:IC :=
(.seq
(.reg 0 [oM 2 (cI 0)] [0,1])
(.seq
(.reg 1 [oQ 3 (.ab3 0 T0),oQ 4 (.load none T3),oQ 5 (.ab3 0 T1),oQ 6 (.load none T5),oK 7 (.call 32 [T4,T6]),oM 2 T7] [2])
.ret))
theorem fok60:FOK Tryz.prog 60 (8,ic60,[(.t 2)]):=ak2 [] Tryz.func60
def ic61:IC :=
(.seq
(.reg 0 [oM 2 (cI 0)] [0,1])
(.seq
(.reg 1 [oQ 3 (.ab3 1 T0),oQ 4 (.load none T3),oQ 5 (.ab3 1 T1),oQ 6 (.load none T5),oK 7 (.call 62 [T4,T6]),oM 2 T7] [2])
.ret))
theorem fok61:FOK Tryz.prog 61 (8,ic61,[(.t 2)]):=ak2 [] Tryz.func61
def ic62:IC :=
(.seq
(.reg 0 [oM 4 (cI 0)] [0,1])
(.seq
(.reg 1 [oM 9 T0,oK 10 (.call 129 [T9]),oQ 11 (.bld [(zU 0),(.str [])] [⟨0,⟨1,(.c (zU 2))⟩⟩]),oK 12 (.ap7 2 1 [(zU 0),(.str [])] [⟨0,⟨2,T11⟩⟩]),oK 13 (.app 2 T10 T12),oM 14 T1,oK 15 (.call 129 [T14]),oQ 16 (.bld [(zU 0),(.str [])] [⟨0,⟨1,(.c (zU 2))⟩⟩]),oK 17 (.ap7 2 1 [(zU 0),(.str [])] [⟨0,⟨2,T16⟩⟩]),oK 18 (.app 2 T15 T17),oM 5 T13,oM 6 T18] [5,6])
(.seq
(.seq
(.reg 2 [oM 19 T5,oQ 20 (.len 0 T19),oM 21 T6,oQ 22 (.len 0 T21),oQ 23 (.mm false T20 T22),oM 24 (cI 0)] [5,6,23,24])
(.block 0
(.loop
(.seq
(.reg 3 [oQ 25 (.bin .lss T24 T23)] [5,6,23,24,25])
(.seq
(.cond T25
.skip
(.exit 0))
(.seq
(.block 1
(.seq
(.reg 4 [oM 26 T24,oM 7 T26] [5,6,7,23,24])
(.seq
(.an5 5 [oM 27 T5,oM 28 T7,oQ 29 (.ab5 2 T27 T28),oQ 30 (.load (some 2) T29),oM 31 T6,oM 32 T7,oQ 33 (.ab5 2 T31 T32),oQ 34 (.load (some 2) T33),oK 35 (.call 130 [T30,T34]),oM 8 T35] false [5,6,8,23,24])
(.seq
(.reg 6 [oM 36 T8,oQ 37 (.bin .neq T36 (cI 0))] [5,6,8,23,24,37])
(.cond T37
(.seq
(.reg 7 [oM 38 T8,oM 4 T38] [4])
.ret)
.skip)))))
(.reg 8 [oQ 39 (.bin .add T24 (cI 1)),oM 24 T39] [5,6,23,24])))))))
(.seq
(.reg 9 [oM 4 (cI 0)] [4])
.ret))))
theorem fok62:FOK Tryz.prog 62 (40,ic62,[(.t 4)]):=ak2 [1000012,1000017] Tryz.func62
def ic63:IC :=
(.seq
(.reg 0 [oM 2 (cI 0)] [0,1])
(.seq
(.seq
(.reg 1 [oQ 3 (.ab3 2 T0),oQ 4 (.load none T3),oQ 5 (.bin .eql T4 (.c (.str []))),oM 6 T5,gQ 7 6 false (.ab3 2 T1),gQ 8 6 false (.load none T7),gQ 9 6 false (.bin .eql T8 (.c (.str []))),oQ 10 (.pick T6 (cB true) T9)] [0,1,10])
(.cond T10
(.seq
(.reg 2 [oM 2 (cI 0)] [2])
.ret)
.skip))
(.seq
(.reg 3 [oQ 11 (.ab3 2 T0),oQ 12 (.load none T11),oQ 13 (.ab3 2 T1),oQ 14 (.load none T13),oK 15 (.call 62 [T12,T14]),oM 2 T15] [2])
.ret)))
theorem fok63:FOK Tryz.prog 63 (16,ic63,[(.t 2)]):=ak2 [] Tryz.func63
end Go.Id.Tryz
