/- The compiled codes of functions,written by a program out of the given form. Conditions: none. -/
import Derived.Test.YteomphdgniepbaaGreatDoorFwZb
import Derived.Test.YteomphdgniepbaaGreatDoorProg
set_option linter.all false
namespace Go.Id.Tryz
open Go Go.Id Go.Proofs
def iw6:List Nat:=List.range 375
def ic4:IC :=
(.seq
(.reg 0 [oM 8 (cB false)] [0,1,2,3])
(.seq
(.seq
(.reg 1 [oK 18 (.call 19 []),oQ 19 (.not T18),oM 20 T19,gQ 21 20 false (.mov T0),gQ 22 20 false (.mov T1),gQ 23 20 false (.mov T2),gK 24 20 false (.call 20 [T21,T22,T23]),oQ 25 (.pick T20 (cB true) T24)] [0,1,2,3,25])
(.cond T25
(.seq
(.reg 2 [oK 26 (.call 19 []),oM 8 T26] [8])
.ret)
.skip))
(.seq
(.reg 3 [oM 28 T0,oM 29 T1,oK 30 (.call 21 [T28,T29]),oM 27 T30,oQ 31 (.ext 0 T27),oQ 32 (.ext 1 T27),oM 9 T31,oM 10 T32] [2,3,9,10])
(.seq
(.seq
(.reg 4 [oM 33 T10,oQ 34 (.bin .neq T33 (cI 0))] [2,3,9,34])
(.cond T34
(.seq
(.reg 5 [oM 8 (cB true)] [8])
.ret)
.skip))
(.seq
(.reg 6 [oM 36 T9,oM 37 T2,oK 38 (.call 22 [T36,T37]),oM 35 T38,oQ 39 (.ext 0 T35),oQ 40 (.ext 1 T35),oM 11 T39,oM 10 T40] [2,3,9,10,11])
(.seq
(.seq
(.reg 7 [oM 41 T10,oQ 42 (.bin .neq T41 (cI 0))] [2,3,9,11,42])
(.cond T42
(.seq
(.reg 8 [oM 43 T11,oQ 44 (.len 0 T43),oQ 45 (.bin .eql T44 (cI 0)),oM 8 T45] [8])
.ret)
.skip))
(.seq
(.seq
(.reg 9 [oM 46 T11,oQ 47 (.len 0 T46),oM 48 T2,oQ 49 (.len 0 T48),oQ 50 (.bin .neq T47 T49)] [2,3,9,11,50])
(.cond T50
(.seq
(.reg 10 [oM 8 (cB false)] [8])
.ret)
.skip))
(.seq
(.reg 11 [oM 12 (cB false)] [2,3,9,11,12])
(.seq
(.seq
(.reg 12 [oM 13 (cI 0)] [2,3,9,11,12,13])
(.block 0
(.loop
(.seq
(.seq
(.reg 13 [oM 51 T13,oM 52 T11,oQ 53 (.len 0 T52),oQ 54 (.bin .lss T51 T53)] [2,3,9,11,12,13,54])
(.cond T54
.skip
(.exit 0)))
(.seq
(.block 1
(.seq
(.reg 15 [oM 14 (cI 0)] [2,3,9,11,12,13,14])
(.seq
(.seq
(.reg 16 [oM 15 (cI 0)] [2,3,9,11,12,13,14,15])
(.block 2
(.loop
(.seq
(.seq
(.reg 17 [oM 57 T15,oM 58 T2,oQ 59 (.len 0 T58),oQ 60 (.bin .lss T57 T59)] [2,3,9,11,12,13,14,15,60])
(.cond T60
.skip
(.exit 2)))
(.seq
(.block 3
(.seq
(.seq
(.am7 19 [oM 63 T2,oM 64 T15,oQ 65 (.ab5 2 T63 T64),oQ 66 (.load (some 2) T65),oM 67 T11,oM 68 T13,oQ 69 (.ab5 2 T67 T68),oQ 70 (.load (some 2) T69),oQ 71 (.eqs [1,1] true false T66 T70)] false [2,3,9,11,12,13,14,15,71])
(.cond T71
(.reg 20 [oM 72 T14,oQ 73 (.bin .add T72 (cI 1)),oM 14 T73] [2,3,9,11,12,13,14,15])
.skip))
(.am7 21 [oM 74 T12,oM 75 T74,gQ 76 75 false (.mov T9),gQ 77 75 false (.mov T2),gQ 78 75 false (.mov T13),gQ 79 75 false (.ab5 2 T77 T78),gQ 80 75 false (.ab2 1 T79),gQ 81 75 false (.load none T80),gQ 82 75 false (.mov T2),gQ 83 75 false (.mov T15),gQ 84 75 false (.ab5 2 T82 T83),gQ 85 75 false (.ab2 1 T84),gQ 86 75 false (.load none T85),gK 87 75 false (.call 23 [T76,T81,T86]),oQ 88 (.pick T75 (cB true) T87),oM 12 T88] false [2,3,9,11,12,13,14,15])))
(.reg 18 [oM 61 T15,oQ 62 (.bin .add T61 (cI 1)),oM 15 T62] [2,3,9,11,12,13,14,15]))))))
(.seq
(.am7 22 [oM 89 T14,oQ 90 (.bin .neq T89 (cI 1)),oM 91 T90,gQ 92 91 false (.mov T13),gQ 93 91 false (.bin .gtr T92 (cI 0)),gQ 94 91 false (.mov T93),gQ 95 94 true (.mov T11),gQ 96 94 true (.mov T13),gQ 97 94 true (.ab5 2 T95 T96),gQ 98 94 true (.ab2 0 T97),gQ 99 94 true (.load none T98),gK 100 94 true (.ag6 24 [T99]),gQ 101 94 true (.mov T11),gQ 102 94 true (.mov T13),gQ 103 94 true (.bin .sub T102 (cI 1)),gQ 104 94 true (.ab5 2 T101 T103),gQ 105 94 true (.ab2 0 T104),gQ 106 94 true (.load none T105),gK 107 94 true (.ag6 24 [T106]),gQ 108 94 true (.bin .lss T100 T107),gQ 109 91 false (.pick T94 T108 (cB false)),oQ 110 (.pick T91 (cB true) T109),oM 111 T110,gQ 112 111 false (.mov T13),gQ 113 111 false (.bin .gtr T112 (cI 0)),gQ 114 111 false (.mov T113),gQ 115 114 true (.mov T11),gQ 116 114 true (.mov T13),gQ 117 114 true (.ab5 2 T115 T116),gQ 118 114 true (.ab2 0 T117),gQ 119 114 true (.load none T118),gK 120 114 true (.ag6 24 [T119]),gQ 121 114 true (.bin .eql T120 (cI 1)),gQ 122 111 false (.pick T114 T121 (cB false)),gQ 123 111 false (.mov T122),gQ 124 123 true (.mov T11),gQ 125 123 true (.mov T13),gQ 126 123 true (.bin .sub T125 (cI 1)),gQ 127 123 true (.ab5 2 T124 T126),gQ 128 123 true (.ab2 0 T127),gQ 129 123 true (.load none T128),gK 130 123 true (.ag6 24 [T129]),gQ 131 123 true (.bin .eql T130 (cI 1)),gQ 132 111 false (.pick T123 T131 (cB false)),gQ 133 111 false (.mov T132),gQ 134 133 true (.mov T11),gQ 135 133 true (.mov T13),gQ 136 133 true (.ab5 2 T134 T135),gQ 137 133 true (.ab2 1 T136),gQ 138 133 true (.load none T137),gQ 139 133 true (.mov T11),gQ 140 133 true (.mov T13),gQ 141 133 true (.bin .sub T140 (cI 1)),gQ 142 133 true (.ab5 2 T139 T141),gQ 143 133 true (.ab2 1 T142),gQ 144 133 true (.load none T143),gQ 145 133 true (.bin .leq T138 T144),gQ 146 111 false (.pick T133 T145 (cB false)),oQ 147 (.pick T111 (cB true) T146)] false [2,3,9,11,12,13,147])
(.cond T147
(.seq
(.reg 23 [oM 8 (cB false)] [8])
.ret)
.skip)))))
(.reg 14 [oM 55 T13,oQ 56 (.bin .add T55 (cI 1)),oM 13 T56] [2,3,9,11,12,13]))))))
(.seq
(.seq
(.reg 24 [oM 16 (cI 1)] [2,3,9,11,12,16])
(.block 4
(.loop
(.seq
(.seq
(.reg 25 [oM 148 T16,oM 149 T11,oQ 150 (.len 0 T149),oQ 151 (.bin .lss T148 T150),oM 152 T151,gQ 153 152 true (.mov T12),gQ 154 152 true (.not T153),oQ 155 (.pick T152 T154 (cB false))] [2,3,9,11,12,16,155])
(.cond T155
.skip
(.exit 4)))
(.seq
(.block 5
(.seq
(.am7 27 [oM 158 T11,oM 159 T16,oQ 160 (.ab5 2 T158 T159),oQ 161 (.ab2 0 T160),oQ 162 (.load none T161),oK 163 (.ag6 24 [T162]),oM 164 T11,oM 165 T16,oQ 166 (.bin .sub T165 (cI 1)),oQ 167 (.ab5 2 T164 T166),oQ 168 (.ab2 0 T167),oQ 169 (.load none T168),oK 170 (.ag6 24 [T169]),oQ 171 (.bin .eql T163 T170),oM 172 T171,gQ 173 172 true (.mov T11),gQ 174 172 true (.mov T16),gQ 175 172 true (.ab5 2 T173 T174),gQ 176 172 true (.ab2 1 T175),gQ 177 172 true (.load none T176),gQ 178 172 true (.mov T11),gQ 179 172 true (.mov T16),gQ 180 172 true (.bin .sub T179 (cI 1)),gQ 181 172 true (.ab5 2 T178 T180),gQ 182 172 true (.ab2 1 T181),gQ 183 172 true (.load none T182),gQ 184 172 true (.bin .leq T177 T183),oQ 185 (.pick T172 T184 (cB false))] false [2,3,9,11,12,16,185])
(.cond T185
(.seq
(.reg 28 [oM 8 (cB false)] [8])
.ret)
.skip)))
(.reg 26 [oM 156 T16,oQ 157 (.bin .add T156 (cI 1)),oM 16 T157] [2,3,9,11,12,16]))))))
(.seq
(.reg 29 [oM 186 T3,oQ 187 (.conv .u64 T186),oM 188 T2,oQ 189 (.len 0 T188),oQ 190 (.bin .add T189 (cI 1)),oQ 191 (.conv .u64 T190),oQ 192 (.bin .rem T187 T191),oQ 193 (.conv .i64 T192),oM 17 T193] [2,9,11,17])
(.seq
(.am7 30 [oM 194 T9,oK 195 (.bsl 2 0 [(zU 0),(zI 0)] []),oM 196 T2,oM 197 T17,oQ 198 (.slc 2 T196 (some T197) none),oK 199 (.app 2 T195 T198),oM 200 T2,oM 201 T17,oQ 202 (.slc 2 T200 none (some T201)),oK 203 (.app 2 T199 T202),oM 204 T11,oK 205 (.call 25 [T194,T203,T204]),oM 8 T205] true [8])
.ret))))))))))))
theorem fok4:FOK Tryz.prog 4 (206,ic4,[(.t 8)]):=aj5 ([]++[24]) Tryz.func4 (by kernel_rfl) (by kernel_rfl) (by kernel_rfl) (by kernel_rfl)
def ic15:IC :=
(.seq
(.reg 0 [⟨(some 2),none,(.q (.mov (.c (.int .i64 0))))⟩] [0])
(.seq
(.seq
(.reg 1 [⟨(some 3),none,(.q (.mov T0))⟩,⟨(some 4),none,(.q (.ce9 (.pointer 108) false T3))⟩] [0,4])
(.cond T4
(.seq
(.reg 2 [⟨(some 2),none,(.q (.mov (.c (.int .i64 0))))⟩] [2])
.ret)
.skip))
(.seq
(.reg 3 [⟨(some 5),none,(.q (.mov T0))⟩,⟨(some 6),none,(.q (.bc9 T5))⟩,⟨(some 7),none,(.q (.ab2 0 T6))⟩,⟨(some 8),none,(.q (.load none T7))⟩,⟨(some 9),none,(.q (.len 0 T8))⟩,⟨(some 2),none,(.q (.mov T9))⟩] [2])
.ret)))
theorem fok15:FOK Tryz.prog 15 (10,ic15,[(.t 2)]):=.mk (pf:=[]) (an:=[(0,[0]),(1,[0,4]),(2,[2]),(3,[2])]) (by kernel_rfl) (ac3 Tryz.func15 (by kernel_rfl) (by kernel_rfl) (by kernel_rfl))
def ic19:IC :=
(.seq
(.reg 0 [oM 0 (cB false)] [])
(.seq
(.reg 1 [oK 6 (.ao9 1 1 [(.str [])] [⟨0,⟨1,(.c (.str [98]))⟩⟩]),oK 7 (.call 63 [(.c (.str [97])),T6]),oK 8 (.ao9 1 1 [(.str [])] [⟨0,⟨1,(.c (.str [99]))⟩⟩]),oK 9 (.call 63 [(.c (.str [98])),T8]),oK 10 (.call 63 [(.c (.str [99])),(.c .aa1)]),oK 11 (.ao9 15 3 [(.str []),(zI 0),(.str []),(.str []),(zU 0),(.str []),.aa1,.aa1,.aa1,.aa1,.aa1,.aa1,.aa1,.aa1,.aa1] [⟨0,⟨15,T7⟩⟩,⟨15,⟨15,T9⟩⟩,⟨30,⟨15,T10⟩⟩]),oK 12 (.call 21 [(.c .aa1),T11]),oM 5 T12,oQ 13 (.ext 0 T5),oQ 14 (.ext 1 T5),oM 1 T13,oM 2 T14] [1,2])
(.seq
(.reg 2 [oK 16 (.ao9 1 1 [(.str [])] [⟨0,⟨1,(.c (.str [98]))⟩⟩]),oK 17 (.call 63 [(.c (.str [97])),T16]),oK 18 (.ao9 1 2 [(.str [])] [⟨0,⟨1,(.c (.str [97]))⟩⟩,⟨1,⟨1,(.c (.str [99]))⟩⟩]),oK 19 (.call 63 [(.c (.str [98])),T18]),oK 20 (.call 63 [(.c (.str [99])),(.c .aa1)]),oK 21 (.ao9 15 3 [(.str []),(zI 0),(.str []),(.str []),(zU 0),(.str []),.aa1,.aa1,.aa1,.aa1,.aa1,.aa1,.aa1,.aa1,.aa1] [⟨0,⟨15,T17⟩⟩,⟨15,⟨15,T19⟩⟩,⟨30,⟨15,T20⟩⟩]),oK 22 (.call 21 [(.c .aa1),T21]),oM 15 T22,oQ 23 (.ext 0 T15),oQ 24 (.ext 1 T15),oM 3 T23,oM 4 T24] [1,2,3,4])
(.seq
(.reg 3 [oM 25 T2,oQ 26 (.bin .eql T25 (cI 0)),oM 27 T26,gQ 28 27 true (.mov T4),gQ 29 27 true (.bin .eql T28 (cI 0)),oQ 30 (.pick T27 T29 (cB false)),oM 31 T30,gQ 32 31 true (.mov T1),gK 33 31 true (.ao9 1 3 [(zI 0)] [⟨0,⟨1,(cI 0)⟩⟩,⟨1,⟨1,(cI 1)⟩⟩,⟨2,⟨1,(cI 2)⟩⟩]),gK 34 31 true (.call 64 [(.c (zU 1)),T33]),gK 35 31 true (.ao9 1 3 [(zI 0)] [⟨0,⟨1,(cI 2)⟩⟩,⟨1,⟨1,(cI 1)⟩⟩,⟨2,⟨1,(cI 0)⟩⟩]),gK 36 31 true (.call 64 [(.c (zU 1)),T35]),gK 37 31 true (.call 25 [T32,T34,T36]),oQ 38 (.pick T31 T37 (cB false)),oM 39 T38,gQ 40 39 true (.mov T3),gK 41 39 true (.ao9 1 3 [(zI 0)] [⟨0,⟨1,(cI 0)⟩⟩,⟨1,⟨1,(cI 1)⟩⟩,⟨2,⟨1,(cI 2)⟩⟩]),gK 42 39 true (.call 64 [(.c (zU 1)),T41]),gK 43 39 true (.ao9 1 3 [(zI 0)] [⟨0,⟨1,(cI 0)⟩⟩,⟨1,⟨1,(cI 2)⟩⟩,⟨2,⟨1,(cI 1)⟩⟩]),gK 44 39 true (.call 64 [(.c (zU 1)),T43]),gK 45 39 true (.call 25 [T40,T42,T44]),oQ 46 (.pick T39 T45 (cB false)),oM 47 T46,gQ 48 47 true (.mov T1),gK 49 47 true (.ao9 1 3 [(zI 0)] [⟨0,⟨1,(cI 2)⟩⟩,⟨1,⟨1,(cI 1)⟩⟩,⟨2,⟨1,(cI 0)⟩⟩]),gK 50 47 true (.call 64 [(.c (zU 6)),T49]),gK 51 47 true (.ao9 1 3 [(zI 0)] [⟨0,⟨1,(cI 0)⟩⟩,⟨1,⟨1,(cI 1)⟩⟩,⟨2,⟨1,(cI 2)⟩⟩]),gK 52 47 true (.call 64 [(.c (zU 6)),T51]),gK 53 47 true (.call 25 [T48,T50,T52]),oQ 54 (.pick T47 T53 (cB false)),oM 55 T54,gQ 56 55 true (.mov T3),gK 57 55 true (.ao9 1 3 [(zI 0)] [⟨0,⟨1,(cI 2)⟩⟩,⟨1,⟨1,(cI 1)⟩⟩,⟨2,⟨1,(cI 0)⟩⟩]),gK 58 55 true (.call 64 [(.c (zU 6)),T57]),gK 59 55 true (.ao9 1 3 [(zI 0)] [⟨0,⟨1,(cI 0)⟩⟩,⟨1,⟨1,(cI 1)⟩⟩,⟨2,⟨1,(cI 2)⟩⟩]),gK 60 55 true (.call 64 [(.c (zU 6)),T59]),gK 61 55 true (.call 25 [T56,T58,T60]),oQ 62 (.pick T55 T61 (cB false)),oM 63 T62,gQ 64 63 true (.mov T1),gK 65 63 true (.call 23 [T64,(cI 0),(cI 1)]),oQ 66 (.pick T63 T65 (cB false)),oM 67 T66,gQ 68 67 true (.mov T1),gK 69 67 true (.call 23 [T68,(cI 0),(cI 2)]),gQ 70 67 true (.not T69),oQ 71 (.pick T67 T70 (cB false)),oM 0 T71] [0])
.ret))))
theorem fok19:FOK Tryz.prog 19 (72,ic19,[(.t 0)]):=aj5 [1000006,1000008,1000011,1000016,1000018,1000021,1000033,1000035,1000041,1000043,1000049,1000051,1000057,1000059] Tryz.func19
def ic20:IC :=
(.seq
(.reg 0 [oM 6 (cB false)] [0,1,2])
(.seq
(.reg 1 [oM 10 T1,oK 11 (.call 65 [T10,(cI 600)]),oM 7 T11] [0,1,2,7])
(.seq
(.reg 2 [oM 12 T1,oQ 13 (.len 0 T12),oM 8 T13] [0,2,7,8])
(.seq
(.seq
(.reg 3 [oM 9 (cI 0)] [0,2,7,8,9])
(.block 0
(.loop
(.seq
(.seq
(.reg 4 [oM 14 T9,oM 15 T0,oQ 16 (.len 0 T15),oQ 17 (.bin .lss T14 T16),oM 18 T17,gQ 19 18 true (.mov T7),gQ 20 18 true (.bin .lss T19 (cI 600)),oQ 21 (.pick T18 T20 (cB false))] [0,2,7,8,9,21])
(.cond T21
.skip
(.exit 0)))
(.seq
(.block 1
(.seq
(.reg 6 [oM 24 T7,oQ 25 (.bin .add T24 (cI 1)),oM 26 T0,oM 27 T9,oQ 28 (.ab5 2 T26 T27),oQ 29 (.ab2 1 T28),oQ 30 (.load none T29),oK 31 (.call 65 [T30,(cI 600)]),oQ 32 (.bin .add T25 T31),oM 7 T32] [0,2,7,8,9])
(.reg 7 [oM 33 T8,oM 34 T0,oM 35 T9,oQ 36 (.ab5 2 T34 T35),oQ 37 (.ab2 1 T36),oQ 38 (.load none T37),oQ 39 (.len 0 T38),oQ 40 (.bin .add T33 T39),oM 8 T40] [0,2,7,8,9])))
(.reg 5 [oM 22 T9,oQ 23 (.bin .add T22 (cI 1)),oM 9 T23] [0,2,7,8,9]))))))
(.seq
(.reg 8 [oM 41 T7,oQ 42 (.bin .geq T41 (cI 600)),oM 43 T42,gQ 44 43 false (.mov T8),gQ 45 43 false (.bin .gtr T44 (cI 24)),oQ 46 (.pick T43 (cB true) T45),oM 47 T46,gQ 48 47 false (.mov T2),gQ 49 47 false (.len 0 T48),gQ 50 47 false (.bin .gtr T49 (cI 60)),oQ 51 (.pick T47 (cB true) T50),oM 6 T51] [6])
.ret)))))
theorem fok20:FOK Tryz.prog 20 (52,ic20,[(.t 6)]):=aj5 [] Tryz.func20
def ic21:IC :=
(.seq
(.reg 0 [⟨(some 4),none,(.q (.mov (.c .ae5)))⟩,⟨(some 5),none,(.q (.mov (.c (.int .i64 0))))⟩] [0,1])
(.seq
(.reg 1 [⟨(some 14),none,(.q (.mov T1))⟩,⟨(some 15),none,(.q (.len 0 T14))⟩,⟨(some 6),none,(.q (.mov T15))⟩] [0,1,6])
(.seq
(.seq
(.reg 2 [⟨(some 16),none,(.q (.mov T0))⟩,⟨(some 17),none,(.q (.len 0 T16))⟩,⟨(some 18),none,(.q (.mov (.c (.int .i64 0))))⟩] [0,1,6,16,17,18])
(.block 0
(.loop
(.seq
(.reg 3 [⟨(some 19),none,(.q (.bin .lss T18 T17))⟩] [0,1,6,16,17,18,19])
(.seq
(.cond T19
.skip
(.exit 0))
(.seq
(.block 1
(.seq
(.reg 4 [⟨(some 20),none,(.q (.ab5 2 T16 T18))⟩,⟨(some 21),none,(.q (.load (some 2) T20))⟩,⟨(some 8),none,(.alloc [(.int .i64 0),.aa1])⟩,⟨none,none,(.store 2 T8 T21)⟩] [0,1,6,8,16,17,18])
(.reg 5 [⟨(some 22),none,(.q (.mov T6))⟩,⟨(some 23),none,(.q (.ab2 1 T8))⟩,⟨(some 24),none,(.q (.load none T23))⟩,⟨(some 25),none,(.q (.len 0 T24))⟩,⟨(some 26),none,(.q (.bin .add T22 T25))⟩,⟨(some 6),none,(.q (.mov T26))⟩] [0,1,6,16,17,18])))
(.reg 6 [⟨(some 27),none,(.q (.bin .add T18 (.c (.int .i64 1))))⟩,⟨(some 18),none,(.q (.mov T27))⟩] [0,1,6,16,17,18])))))))
(.seq
(.seq
(.reg 7 [⟨(some 28),none,(.q (.mov T0))⟩,⟨(some 29),none,(.q (.len 0 T28))⟩,⟨(some 30),none,(.q (.bin .gtr T29 (.c (.int .i64 16))))⟩,⟨(some 31),none,(.q (.mov T30))⟩,⟨(some 32),(some ⟨31,false⟩),(.q (.mov T6))⟩,⟨(some 33),(some ⟨31,false⟩),(.q (.bin .gtr T32 (.c (.int .i64 256))))⟩,⟨(some 34),none,(.q (.pick T31 (.c (.bool true)) T33))⟩] [0,1,34])
(.cond T34
(.seq
(.reg 8 [⟨(some 4),none,(.q (.mov (.c .ae5)))⟩,⟨(some 5),none,(.q (.mov (.c (.int .i64 40))))⟩] [4,5])
.ret)
.skip))
(.seq
(.reg 9 [⟨(some 35),none,(.q (.mov T1))⟩,⟨(some 36),none,(.q (.len 0 T35))⟩,⟨(some 37),none,.ay2⟩,⟨(some 38),none,(.q (.bld [.aa1,(.int .i64 0),.ac8] [⟨1,⟨1,T36⟩⟩,⟨2,⟨1,T37⟩⟩]))⟩,⟨(some 39),none,(.box T38)⟩,⟨(some 9),none,(.q (.mov T39))⟩] [0,1,9])
(.seq
(.seq
(.reg 10 [⟨(some 40),none,(.q (.mov T9))⟩,⟨(some 41),none,(.q (.mov T1))⟩,⟨(some 42),none,(.call 66 [T40,T41,(.c (.int .i64 (-1))),(.c (.int .i64 1025))])⟩,⟨(some 10),none,(.q (.mov T42))⟩] [0,9,10])
(.seq
(.reg 11 [⟨(some 43),none,(.q (.mov T10))⟩,⟨(some 44),none,(.q (.bin .neq T43 (.c (.int .i64 0))))⟩] [0,9,10,44])
(.cond T44
(.seq
(.reg 12 [⟨(some 45),none,(.q (.mov T10))⟩,⟨(some 4),none,(.q (.mov (.c .ae5)))⟩,⟨(some 5),none,(.q (.mov T45))⟩] [4,5])
.ret)
.skip)))
(.seq
(.seq
(.reg 13 [⟨(some 46),none,(.q (.mov T0))⟩,⟨(some 47),none,(.q (.len 0 T46))⟩,⟨(some 48),none,(.q (.mov (.c (.int .i64 0))))⟩] [9,46,47,48])
(.block 2
(.loop
(.seq
(.reg 14 [⟨(some 49),none,(.q (.bin .lss T48 T47))⟩] [9,46,47,48,49])
(.seq
(.cond T49
.skip
(.exit 2))
(.seq
(.block 3
(.seq
(.reg 15 [⟨(some 50),none,(.q (.mov T48))⟩,⟨(some 51),none,(.q (.ab5 2 T46 T48))⟩,⟨(some 52),none,(.q (.load (some 2) T51))⟩,⟨(some 12),none,(.alloc [(.int .i64 0),.aa1])⟩,⟨(some 11),none,(.q (.mov T50))⟩,⟨none,none,(.store 2 T12 T52)⟩] [9,11,12,46,47,48])
(.seq
(.seq
(.reg 16 [⟨(some 53),none,(.q (.ab2 0 T12))⟩,⟨(some 54),none,(.q (.load none T53))⟩,⟨(some 55),none,(.q (.bin .lss T54 (.c (.int .i64 0))))⟩,⟨(some 56),none,(.q (.mov T55))⟩,⟨(some 57),(some ⟨56,false⟩),(.q (.ab2 0 T12))⟩,⟨(some 58),(some ⟨56,false⟩),(.q (.load none T57))⟩,⟨(some 59),(some ⟨56,false⟩),(.q (.bin .gtr T58 (.c (.int .i64 1024))))⟩,⟨(some 60),none,(.q (.pick T56 (.c (.bool true)) T59))⟩] [9,11,12,46,47,48,60])
(.cond T60
(.seq
(.reg 17 [⟨(some 4),none,(.q (.mov (.c .ae5)))⟩,⟨(some 5),none,(.q (.mov (.c (.int .i64 4))))⟩] [4,5])
.ret)
.skip))
(.seq
(.reg 18 [⟨(some 61),none,(.q (.mov T9))⟩,⟨(some 62),none,(.q (.ab2 1 T12))⟩,⟨(some 63),none,(.q (.load none T62))⟩,⟨(some 64),none,(.q (.mov T11))⟩,⟨(some 65),none,(.q (.ab2 0 T12))⟩,⟨(some 66),none,(.q (.load none T65))⟩,⟨(some 67),none,(.call 66 [T61,T63,T64,T66])⟩,⟨(some 13),none,(.q (.mov T67))⟩] [9,13,46,47,48])
(.seq
(.reg 19 [⟨(some 68),none,(.q (.mov T13))⟩,⟨(some 69),none,(.q (.bin .neq T68 (.c (.int .i64 0))))⟩] [9,13,46,47,48,69])
(.cond T69
(.seq
(.reg 20 [⟨(some 70),none,(.q (.mov T13))⟩,⟨(some 4),none,(.q (.mov (.c .ae5)))⟩,⟨(some 5),none,(.q (.mov T70))⟩] [4,5])
.ret)
.skip))))))
(.reg 21 [⟨(some 71),none,(.q (.bin .add T48 (.c (.int .i64 1))))⟩,⟨(some 48),none,(.q (.mov T71))⟩] [9,46,47,48])))))))
(.seq
(.reg 22 [⟨(some 72),none,(.q (.mov T9))⟩,⟨(some 4),none,(.q (.mov T72))⟩,⟨(some 5),none,(.q (.mov (.c (.int .i64 0))))⟩] [4,5])
.ret))))))))
theorem fok21:FOK Tryz.prog 21 (73,ic21,[(.t 4),(.t 5)]):=.mk (pf:=[]) (an:=[(0,[0,1]),(1,[0,1,6]),(2,[0,1,6,16,17,18]),(3,[0,1,6,16,17,18,19]),(4,[0,1,6,8,16,17,18]),(5,[0,1,6,16,17,18]),(6,[0,1,6,16,17,18]),(7,[0,1,34]),(8,[4,5]),(9,[0,1,9]),(10,[0,9,10]),(11,[0,9,10,44]),(12,[4,5]),(13,[9,46,47,48]),(14,[9,46,47,48,49]),(15,[9,11,12,46,47,48]),(16,[9,11,12,46,47,48,60]),(17,[4,5]),(18,[9,13,46,47,48]),(19,[9,13,46,47,48,69]),(20,[4,5]),(21,[9,46,47,48]),(22,[4,5])]) (by kernel_rfl) (ac3 Tryz.func21 (by kernel_rfl) (by kernel_rfl) (by kernel_rfl))
def ic22:IC :=
(.seq
(.reg 0 [oM 4 (.c .aa1),oM 5 (cI 0)] [0,1])
(.seq
(.seq
(.reg 1 [oM 20 T0,oQ 21 (.ce9 (.pointer 108) false T20)] [0,1,21])
(.cond T21
(.seq
(.reg 2 [oM 4 (.c .aa1),oM 5 (cI 2)] [4,5])
.ret)
.skip))
(.seq
(.reg 3 [oK 22 .ay2,oM 6 T22] [0,1,6])
(.seq
(.reg 4 [oK 7 (.alloc [.aa1,.aa1,.aa1])] [0,1,6,7])
(.seq
(.seq
(.reg 5 [oM 23 T1,oQ 24 (.len 0 T23),oM 25 (cI 0)] [0,6,7,23,24,25])
(.block 0
(.loop
(.seq
(.reg 6 [oQ 26 (.bin .lss T25 T24)] [0,6,7,23,24,25,26])
(.seq
(.cond T26
.skip
(.exit 0))
(.seq
(.block 1
(.seq
(.reg 7 [oQ 27 (.ab5 2 T23 T25),oQ 28 (.load (some 2) T27),oK 9 (.alloc [(zU 0),(zI 0)]),oN (.store 2 T9 T28)] [0,6,7,9,23,24,25])
(.seq
(.seq
(.reg 8 [oM 30 T6,oQ 31 (.ab2 1 T9),oQ 32 (.load none T31),oQ 33 (.lkp 1 (zU 0) true T30 T32),oM 29 T33,oQ 34 (.ext 0 T29),oQ 35 (.ext 1 T29),oM 10 T34,oM 11 T35] [0,6,7,9,11,23,24,25])
(.seq
(.am7 9 [oM 36 T11,oM 37 T36,gQ 38 37 false (.ab2 0 T9),gQ 39 37 false (.load none T38),gQ 40 37 false (.bin .lss T39 (.c (zU 1))),oQ 41 (.pick T37 (cB true) T40),oM 42 T41,gQ 43 42 false (.ab2 0 T9),gQ 44 42 false (.load none T43),gQ 45 42 false (.bin .gtr T44 (.c (zU 8))),oQ 46 (.pick T42 (cB true) T45),oM 47 T46,gQ 48 47 false (.ab2 1 T9),gQ 49 47 false (.load none T48),gQ 50 47 false (.bin .lss T49 (cI 0)),oQ 51 (.pick T47 (cB true) T50),oM 52 T51,gQ 53 52 false (.ab2 1 T9),gQ 54 52 false (.load none T53),gQ 55 52 false (.mov T0),gK 56 52 false (.ag6 15 [T55]),gQ 57 52 false (.bin .geq T54 T56),oQ 58 (.pick T52 (cB true) T57)] false [0,6,7,9,23,24,25,58])
(.cond T58
(.seq
(.reg 10 [oM 4 (.c .aa1),oM 5 (cI 4)] [4,5])
.ret)
.skip)))
(.seq
(.reg 11 [oM 59 T6,oQ 60 (.ab2 1 T9),oQ 61 (.load none T60),oQ 62 (.ab2 0 T9),oQ 63 (.load none T62),oN (.bw1 1 T59 T61 T63)] [0,6,7,9,23,24,25])
(.seq
(.reg 12 [oQ 64 (.ab2 0 T9),oQ 65 (.load none T64),oK 66 (.call 67 [T65]),oM 12 T66] [0,6,7,9,12,23,24,25])
(.am7 13 [oM 67 T12,oM 68 T12,oQ 69 (.ax8 3 1 T7 T68),oQ 70 (.load none T69),oQ 71 (.ab2 1 T9),oQ 72 (.load none T71),oK 73 (.ao9 1 1 [(zI 0)] [⟨0,⟨1,T72⟩⟩]),oK 74 (.app 1 T70 T73),oQ 75 (.ax8 3 1 T7 T67),oN (.store 1 T75 T74)] true [0,6,7,23,24,25]))))))
(.reg 14 [oQ 76 (.bin .add T25 (cI 1)),oM 25 T76] [0,6,7,23,24,25])))))))
(.seq
(.am7 15 [oM 77 T0,oQ 78 (.ax8 3 1 T7 (cI 0)),oQ 79 (.load none T78),oK 80 (.ag6 68 [T77,T79]),oM 81 T0,oQ 82 (.ax8 3 1 T7 (cI 2)),oQ 83 (.load none T82),oK 84 (.ag6 68 [T81,T83]),oK 13 (.alloc [.ac8,.ac8]),oK 14 (.alloc [.ac8,.ac8]),oN (.store 2 T13 T80),oN (.store 2 T14 T84)] false [6,7,13,14])
(.seq
(.reg 16 [oQ 85 (.ax8 3 1 T7 (cI 1)),oQ 86 (.load none T85),oK 87 (.call 61 [T86,(.f 69)])] [6,7,13,14])
(.seq
(.reg 17 [oM 15 (.c .aa1)] [6,7,13,14,15])
(.seq
(.seq
(.am7 18 [oQ 88 (.ax8 3 1 T7 (cI 0)),oQ 89 (.load none T88),oQ 90 (.mkf 71 [] [T13]),oK 91 (.ag6 70 [T89,T90]),oQ 92 (.ax8 3 1 T7 (cI 1)),oQ 93 (.load none T92),oQ 94 (.ax8 3 1 T7 (cI 2)),oQ 95 (.load none T94),oQ 96 (.mkf 73 [] [T14]),oK 97 (.ag6 70 [T95,T96]),oK 98 (.ao9 1 3 [.aa1] [⟨0,⟨1,T91⟩⟩,⟨1,⟨1,T93⟩⟩,⟨2,⟨1,T97⟩⟩]),oQ 99 (.len 0 T98),oM 100 (cI 0)] false [6,15,98,99,100])
(.block 2
(.loop
(.seq
(.reg 19 [oQ 101 (.bin .lss T100 T99)] [6,15,98,99,100,101])
(.seq
(.cond T101
.skip
(.exit 2))
(.seq
(.block 3
(.seq
(.reg 20 [oQ 102 (.ab5 1 T98 T100),oQ 103 (.load none T102),oM 17 T103] [6,15,17,98,99,100])
(.seq
(.reg 21 [oM 104 T17,oQ 105 (.len 0 T104),oM 106 (cI 0)] [6,15,98,99,100,104,105,106])
(.block 4
(.loop
(.seq
(.reg 22 [oQ 107 (.bin .lss T106 T105)] [6,15,98,99,100,104,105,106,107])
(.seq
(.cond T107
.skip
(.exit 4))
(.seq
(.block 5
(.seq
(.reg 23 [oQ 108 (.ab5 1 T104 T106),oQ 109 (.load none T108),oM 19 T109] [6,15,19,98,99,100,104,105,106])
(.reg 24 [oM 110 T15,oM 111 T6,oM 112 T19,oQ 113 (.lkp 1 (zU 0) false T111 T112),oM 114 T19,oQ 115 (.bld [(zU 0),(zI 0)] [⟨0,⟨1,T113⟩⟩,⟨1,⟨1,T114⟩⟩]),oK 116 (.ao9 2 1 [(zU 0),(zI 0)] [⟨0,⟨2,T115⟩⟩]),oK 117 (.app 2 T110 T116),oM 15 T117] [6,15,98,99,100,104,105,106])))
(.reg 25 [oQ 118 (.bin .add T106 (cI 1)),oM 106 T118] [6,15,98,99,100,104,105,106])))))))))
(.reg 26 [oQ 119 (.bin .add T100 (cI 1)),oM 100 T119] [6,15,98,99,100])))))))
(.seq
(.reg 27 [oM 120 T15,oM 4 T120,oM 5 (cI 0)] [4,5])
.ret))))))))))
theorem fok22:FOK Tryz.prog 22 (121,ic22,[(.t 4),(.t 5)]):=aj5 ([1000073,1000098,1000116]++[15,68,70]) Tryz.func22 (by kernel_rfl) (by kernel_rfl) (by kernel_rfl) (by kernel_rfl)
def ic23:IC :=
(.seq
(.reg 0 [oM 6 (cB false)] [0,1,2])
(.seq
(.reg 1 [oM 12 T0,oM 13 T1,oK 14 (.call 48 [T12,T13]),oM 11 T14,oQ 15 (.ext 0 T11),oQ 16 (.ext 1 T11),oK 7 (.alloc [(.str []),(zI 0),(.str []),(.str []),(zU 0),(.str []),.aa1,.aa1,.aa1,.aa1,.aa1,.aa1,.aa1,.aa1,.aa1]),oN (.store 15 T7 T15),oM 8 T16] [0,1,2,7,8])
(.seq
(.reg 2 [oM 18 T0,oM 19 T2,oK 20 (.call 48 [T18,T19]),oM 17 T20,oQ 21 (.ext 0 T17),oQ 22 (.ext 1 T17),oK 9 (.alloc [(.str []),(zI 0),(.str []),(.str []),(zU 0),(.str []),.aa1,.aa1,.aa1,.aa1,.aa1,.aa1,.aa1,.aa1,.aa1]),oN (.store 15 T9 T21),oM 10 T22] [1,2,7,8,9,10])
(.seq
(.reg 3 [oM 23 T8,oQ 24 (.bin .eql T23 (cI 0)),oM 25 T24,gQ 26 25 true (.mov T10),gQ 27 25 true (.bin .eql T26 (cI 0)),oQ 28 (.pick T25 T27 (cB false)),oM 29 T28,gQ 30 29 true (.mov T1),gQ 31 29 true (.mov T2),gQ 32 29 true (.bin .neq T30 T31),oQ 33 (.pick T29 T32 (cB false)),oM 34 T33,gQ 35 34 true (.load (some 15) T7),gQ 36 34 true (.load (some 15) T9),gK 37 34 true (.call 74 [T35,T36]),oQ 38 (.pick T34 T37 (cB false)),oM 6 T38] [6])
.ret))))
theorem fok23:FOK Tryz.prog 23 (39,ic23,[(.t 6)]):=aj5 [] Tryz.func23
def ic24:IC :=
(.seq
(.reg 0 [oM 2 (cI 0)] [0])
(.seq
(.block 0
(.seq
(.reg 1 [oM 4 T0,oQ 5 (.bin .eql T4 (.c (zU 6))),oM 3 T5] [0,3])
(.cond T3
(.seq
(.reg 2 [oM 2 (cI 2)] [2])
.ret)
(.seq
(.reg 3 [oM 7 T0,oQ 8 (.bin .eql T7 (.c (zU 7))),oM 9 T8,gQ 10 9 false (.mov T0),gQ 11 9 false (.bin .eql T10 (.c (zU 8))),oQ 12 (.pick T9 (cB true) T11),oM 6 T12] [6])
(.cond T6
(.seq
(.reg 4 [oM 2 (cI 1)] [2])
.ret)
.skip)))))
(.seq
(.reg 5 [oM 2 (cI 0)] [2])
.ret)))
theorem fok24:FOK Tryz.prog 24 (13,ic24,[(.t 2)]):=aj5 [] Tryz.func24
def ic25:IC :=
(.seq
(.reg 0 [oM 6 (cB false)] [0,1,2])
(.seq
(.reg 1 [oM 10 T0,oM 11 T1,oK 12 (.call 22 [T10,T11]),oM 9 T12,oQ 13 (.ext 0 T9),oQ 14 (.ext 1 T9),oM 7 T13,oM 8 T14] [2,7,8])
(.seq
(.reg 2 [oM 15 T8,oQ 16 (.bin .eql T15 (cI 0)),oM 17 T16,gQ 18 17 true (.mov T7),gQ 19 17 true (.mov T2),gK 20 17 true (.call 75 [T18,T19]),oQ 21 (.pick T17 T20 (cB false)),oM 6 T21] [6])
.ret)))
theorem fok25:FOK Tryz.prog 25 (22,ic25,[(.t 6)]):=aj5 [] Tryz.func25
end Go.Id.Tryz
