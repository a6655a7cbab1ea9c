/- The compiled codes of functions,written by a program out of the given form. Conditions: none. -/
import Derived.Test.YteomphdgniepbaaGreatDoorFwYa
import Derived.Test.YteomphdgniepbaaGreatDoorProg
set_option linter.all false
namespace Go.Id.Tryz
open Go Go.Id Go.Proofs
def ja7:List Nat:=List.range 375
def ic3:IC :=
(.seq
(.reg 0 [oK 9 (.ai7 T2),oM 14 (cB false)] [0,1,3,4,5,6,9])
(.seq
(.seq
(.reg 1 [oK 29 (.call 11 []),oQ 30 (.not T29),oM 31 T30,gQ 32 31 false (.mov T0),gQ 33 31 false (.mov T1),gQ 34 31 false (.load (some 5) T9),gK 35 31 false (.call 12 [T32,T33,T34]),oQ 36 (.pick T31 (cB true) T35),oM 37 T36,gQ 38 37 false (.mov T6),gQ 39 37 false (.len 0 T38),gQ 40 37 false (.bin .gtr T39 (cI 60)),oQ 41 (.pick T37 (cB true) T40)] [0,1,3,4,5,6,9,41])
(.cond T41
(.seq
(.reg 2 [oK 42 (.call 11 []),oM 14 T42] [14])
.ret)
.skip))
(.seq
(.reg 3 [oM 44 T0,oM 45 T1,oQ 46 (.load (some 5) T9),oK 47 (.call 13 [T44,T45,T46]),oM 43 T47,oQ 48 (.ext 0 T43),oQ 49 (.ext 1 T43),oQ 50 (.ext 2 T43),oQ 51 (.ext 3 T43),oK 17 (.alloc [.ab6]),oM 15 T48,oM 16 T49,oN (.store 1 T17 T50),oM 18 T51] [3,4,5,6,15,17,18])
(.seq
(.seq
(.reg 4 [oM 52 T18,oQ 53 (.not T52)] [3,4,5,6,15,17,53])
(.cond T53
(.seq
(.reg 5 [oM 54 T15,oQ 55 (.au9 (.pointer 169) false T54),oM 14 T55] [14])
.ret)
.skip))
(.seq
(.reg 6 [oQ 56 (.mkf 14 [] [T17]),oM 19 T56] [3,4,5,6,15,19])
(.seq
(.seq
(.reg 7 [oM 57 T19,oM 58 T3,oK 59 (.ah6 T57 [T58]),oM 60 T59,gQ 61 60 true (.mov T19),gQ 62 60 true (.mov T4),gK 63 60 true (.ah6 T61 [T62]),oQ 64 (.pick T60 T63 (cB false)),oM 65 T64,gQ 66 65 true (.mov T3),gQ 67 65 true (.mov T4),gQ 68 65 true (.bin .neq T66 T67),oQ 69 (.pick T65 T68 (cB false)),oM 70 T15,oM 71 T3,oM 72 T4,oK 73 (.call 16 [T70,T71,T72]),oM 74 T15,oM 75 T4,oM 76 T3,oK 77 (.call 16 [T74,T75,T76]),oQ 78 (.eqs [0] false true T73 T77),oQ 79 (.eqs [0] false true T69 T78),oM 80 T79,gQ 81 80 false (.mov T15),gQ 82 80 false (.mov T3),gQ 83 80 false (.mov T4),gK 84 80 false (.call 16 [T81,T82,T83]),gQ 85 80 false (.mov T84),gQ 86 85 true (.mov T15),gQ 87 85 true (.mov T4),gQ 88 85 true (.mov T3),gK 89 85 true (.call 16 [T86,T87,T88]),gQ 90 80 false (.pick T85 T89 (cB false)),oQ 91 (.pick T80 (cB true) T90),oM 92 T91,gQ 93 92 false (.mov T15),gQ 94 92 false (.mov T3),gQ 95 92 false (.mov T4),gK 96 92 false (.call 16 [T93,T94,T95]),gQ 97 92 false (.mov T96),gQ 98 97 true (.mov T15),gQ 99 97 true (.mov T4),gQ 100 97 true (.mov T5),gK 101 97 true (.call 16 [T98,T99,T100]),gQ 102 92 false (.pick T97 T101 (cB false)),gQ 103 92 false (.mov T102),gQ 104 103 true (.mov T15),gQ 105 103 true (.mov T3),gQ 106 103 true (.mov T5),gK 107 103 true (.call 16 [T104,T105,T106]),gQ 108 103 true (.not T107),gQ 109 92 false (.pick T103 T108 (cB false)),oQ 110 (.pick T92 (cB true) T109)] [6,15,19,110])
(.cond T110
(.seq
(.reg 8 [oM 14 (cB false)] [14])
.ret)
.skip))
(.seq
(.reg 9 [oM 111 T15,oM 112 T6,oK 113 (.call 17 [T111,T112]),oM 20 T113] [6,15,19,20])
(.seq
(.reg 10 [oM 21 (cI 0)] [6,15,19,20,21])
(.seq
(.reg 11 [oM 22 (.c .aa1)] [6,15,19,20,21,22])
(.seq
(.seq
(.reg 12 [oM 114 T6,oQ 115 (.len 0 T114),oQ 116 (.bin .sub T115 (cI 1)),oM 23 T116] [6,15,19,20,21,22,23])
(.block 0
(.loop
(.seq
(.seq
(.reg 13 [oM 117 T23,oQ 118 (.bin .geq T117 (cI 0))] [6,15,19,20,21,22,23,118])
(.cond T118
.skip
(.exit 0)))
(.seq
(.block 1
(.seq
(.aj9 15 [oM 121 T22,oM 122 T6,oM 123 T23,oQ 124 (.ab2 1 T122 T123),oQ 125 (.load none T124),oM 126 T6,oM 127 T23,oQ 128 (.ab2 1 T126 T127),oQ 129 (.load none T128),oK 130 (.aw2 1 2 [(zI 0)] [⟨0,⟨1,T125⟩⟩,⟨1,⟨1,T129⟩⟩]),oK 131 (.app 1 T121 T130),oM 22 T131] true [6,15,19,20,21,22,23])
(.seq
(.reg 16 [oM 24 (cB false)] [6,15,19,20,21,22,23,24])
(.seq
(.seq
(.reg 17 [oM 25 (cI 0)] [6,15,19,20,21,22,23,24,25])
(.block 2
(.loop
(.seq
(.seq
(.reg 18 [oM 132 T25,oM 133 T23,oQ 134 (.bin .lss T132 T133)] [6,15,19,20,21,22,23,24,25,134])
(.cond T134
.skip
(.exit 2)))
(.seq
(.block 3
(.aj9 20 [oM 137 T24,oM 138 T137,gQ 139 138 false (.mov T6),gQ 140 138 false (.mov T25),gQ 141 138 false (.ab2 1 T139 T140),gQ 142 138 false (.load none T141),gQ 143 138 false (.mov T6),gQ 144 138 false (.mov T23),gQ 145 138 false (.ab2 1 T143 T144),gQ 146 138 false (.load none T145),gQ 147 138 false (.bin .eql T142 T146),oQ 148 (.pick T138 (cB true) T147),oM 24 T148] false [6,15,19,20,21,22,23,24,25]))
(.reg 19 [oM 135 T25,oQ 136 (.bin .add T135 (cI 1)),oM 25 T136] [6,15,19,20,21,22,23,24,25]))))))
(.seq
(.seq
(.reg 21 [oM 149 T19,oM 150 T6,oM 151 T23,oQ 152 (.ab2 1 T150 T151),oQ 153 (.load none T152),oK 154 (.ah6 T149 [T153]),oQ 155 (.not T154),oM 156 T155,gQ 157 156 false (.mov T24),oQ 158 (.pick T156 (cB true) T157)] [6,15,19,20,21,22,23,158])
(.cond T158
(.exit 1)
.skip))
(.seq
(.reg 22 [oM 159 T21,oQ 160 (.bin .add T159 (cI 1)),oM 21 T160] [6,15,19,20,21,22,23])
(.seq
(.reg 23 [oM 26 (cB false)] [6,15,19,20,21,22,23,26])
(.seq
(.seq
(.reg 24 [oM 27 (cI 0)] [6,15,19,20,21,22,23,26,27])
(.block 4
(.loop
(.seq
(.seq
(.reg 25 [oM 161 T27,oM 162 T20,oQ 163 (.len 0 T162),oQ 164 (.bin .lss T161 T163)] [6,15,19,20,21,22,23,26,27,164])
(.cond T164
.skip
(.exit 4)))
(.seq
(.block 5
(.aj9 27 [oM 167 T26,oM 168 T167,gQ 169 168 false (.mov T20),gQ 170 168 false (.mov T27),gQ 171 168 false (.ab2 1 T169 T170),gQ 172 168 false (.load none T171),gQ 173 168 false (.mov T6),gQ 174 168 false (.mov T23),gQ 175 168 false (.ab2 1 T173 T174),gQ 176 168 false (.load none T175),gQ 177 168 false (.bin .eql T172 T176),oQ 178 (.pick T168 (cB true) T177),oM 26 T178] false [6,15,19,20,21,22,23,26,27]))
(.reg 26 [oM 165 T27,oQ 166 (.bin .add T165 (cI 1)),oM 27 T166] [6,15,19,20,21,22,23,26,27]))))))
(.seq
(.reg 28 [oM 179 T26,oQ 180 (.not T179)] [6,15,19,20,21,22,23,180])
(.cond T180
(.seq
(.reg 29 [oM 14 (cB false)] [14])
.ret)
.skip))))))))))
(.reg 14 [oM 119 T23,oQ 120 (.bin .sub T119 (cI 1)),oM 23 T120] [6,15,19,20,21,22,23]))))))
(.seq
(.seq
(.reg 30 [oM 28 (cI 1)] [15,20,21,22,28])
(.block 6
(.loop
(.seq
(.seq
(.reg 31 [oM 181 T28,oM 182 T20,oQ 183 (.len 0 T182),oQ 184 (.bin .lss T181 T183)] [15,20,21,22,28,184])
(.cond T184
.skip
(.exit 6)))
(.seq
(.block 7
(.seq
(.aj9 33 [oM 187 T15,oM 188 T20,oM 189 T28,oQ 190 (.bin .sub T189 (cI 1)),oQ 191 (.ab2 1 T188 T190),oQ 192 (.load none T191),oM 193 T20,oM 194 T28,oQ 195 (.ab2 1 T193 T194),oQ 196 (.load none T195),oK 197 (.call 16 [T187,T192,T196]),oQ 198 (.not T197)] false [15,20,21,22,28,198])
(.cond T198
(.seq
(.reg 34 [oM 14 (cB false)] [14])
.ret)
.skip)))
(.reg 32 [oM 185 T28,oQ 186 (.bin .add T185 (cI 1)),oM 28 T186] [15,20,21,22,28]))))))
(.seq
(.reg 35 [oM 199 T21,oM 200 T20,oQ 201 (.len 0 T200),oQ 202 (.bin .eql T199 T201),oM 203 T202,gQ 204 203 true (.mov T15),gQ 205 203 true (.mov T22),gK 206 203 true (.call 17 [T204,T205]),gQ 207 203 true (.mov T20),gK 208 203 true (.call 18 [T206,T207]),oQ 209 (.pick T203 T208 (cB false)),oM 14 T209] [14])
.ret))))))))))))
theorem fok3:FOK Tryz.prog 3 (210,ic3,[(.t 14)]):=ag5 [1000009,1000130] Tryz.func3
def ic11:IC :=
(.seq
(.reg 0 [oM 0 (cB false)] [])
(.seq
(.reg 1 [oK 6 (.call 51 [(.c (.str [97])),(.c (.str [49]))]),oK 7 (.call 51 [(.c (.str [97])),(.c (.str [50]))]),oK 8 (.aw2 15 2 [(.str []),(zI 0),(.str []),(.str []),(zU 0),(.str []),.aa1,.aa1,.aa1,.aa1,.aa1,.aa1,.aa1,.aa1,.aa1] [⟨0,⟨15,T6⟩⟩,⟨15,⟨15,T7⟩⟩]),oQ 9 (.bld [(zI 0),.aa1] [⟨0,⟨1,(cI 1)⟩⟩,⟨1,⟨1,T8⟩⟩]),oK 10 (.call 51 [(.c (.str [97])),(.c (.str [49]))]),oK 11 (.aw2 15 1 [(.str []),(zI 0),(.str []),(.str []),(zU 0),(.str []),.aa1,.aa1,.aa1,.aa1,.aa1,.aa1,.aa1,.aa1,.aa1] [⟨0,⟨15,T10⟩⟩]),oQ 12 (.bld [(zI 0),.aa1] [⟨0,⟨1,(cI 9)⟩⟩,⟨1,⟨1,T11⟩⟩]),oK 13 (.aw2 2 2 [(zI 0),.aa1] [⟨0,⟨2,T9⟩⟩,⟨2,⟨2,T12⟩⟩]),oM 1 T13] [1])
(.seq
(.reg 2 [oM 15 T1,oK 16 (.call 51 [(.c (.str [122])),(.c (.str [48]))]),oK 17 (.aw2 15 1 [(.str []),(zI 0),(.str []),(.str []),(zU 0),(.str []),.aa1,.aa1,.aa1,.aa1,.aa1,.aa1,.aa1,.aa1,.aa1] [⟨0,⟨15,T16⟩⟩]),oQ 18 (.bld [(zU 0),(.bool false),.aa1,.aa1,(zI 0)] [⟨0,⟨1,(.c (zU 2))⟩⟩]),oK 19 (.call 13 [T15,T17,T18]),oM 14 T19,oQ 20 (.ext 0 T14),oQ 21 (.ext 1 T14),oQ 22 (.ext 2 T14),oQ 23 (.ext 3 T14),oM 2 T20,oM 3 T21,oM 4 T22,oM 5 T23] [2,5])
(.seq
(.reg 3 [oM 24 T5,oM 25 T24,gQ 26 25 true (.mov T2),gK 27 25 true (.call 16 [T26,(cI 2),(cI 1)]),oQ 28 (.pick T25 T27 (cB false)),oM 29 T28,gQ 30 29 true (.mov T2),gK 31 29 true (.call 16 [T30,(cI 1),(cI 2)]),gQ 32 29 true (.not T31),oQ 33 (.pick T29 T32 (cB false)),oM 34 T33,gQ 35 34 true (.mov T2),gK 36 34 true (.call 16 [T35,(cI 3),(cI 2)]),oQ 37 (.pick T34 T36 (cB false)),oM 38 T37,gQ 39 38 true (.mov T2),gK 40 38 true (.call 16 [T39,(cI 0),(cI 3)]),oQ 41 (.pick T38 T40 (cB false)),oM 42 T41,gQ 43 42 true (.mov T2),gK 44 42 true (.aw2 1 5 [(zI 0)] [⟨0,⟨1,(cI 1)⟩⟩,⟨1,⟨1,(cI 2)⟩⟩,⟨2,⟨1,(cI 3)⟩⟩,⟨3,⟨1,(cI 0)⟩⟩,⟨4,⟨1,(cI 1)⟩⟩]),gK 45 42 true (.call 17 [T43,T44]),gK 46 42 true (.aw2 1 4 [(zI 0)] [⟨0,⟨1,(cI 0)⟩⟩,⟨1,⟨1,(cI 3)⟩⟩,⟨2,⟨1,(cI 2)⟩⟩,⟨3,⟨1,(cI 1)⟩⟩]),gK 47 42 true (.call 52 [T45,T46]),oQ 48 (.pick T42 T47 (cB false)),oM 0 T48] [0])
.ret))))
theorem fok11:FOK Tryz.prog 11 (49,ic11,[(.t 0)]):=ag5 [1000008,1000011,1000013,1000017,1000044,1000046] Tryz.func11
def ic12:IC :=
(.seq
(.reg 0 [oK 5 (.ai7 T2),oM 6 (cB false)] [0,1,5])
(.seq
(.reg 1 [oM 10 T1,oK 11 (.call 53 [T10,(cI 800)]),oM 7 T11] [0,1,5,7])
(.seq
(.reg 2 [oM 12 T1,oQ 13 (.len 0 T12),oM 8 T13] [0,5,7,8])
(.seq
(.seq
(.reg 3 [oM 9 (cI 0)] [0,5,7,8,9])
(.block 0
(.loop
(.seq
(.seq
(.reg 4 [oM 14 T9,oM 15 T0,oQ 16 (.len 0 T15),oQ 17 (.bin .lss T14 T16),oM 18 T17,gQ 19 18 true (.mov T7),gQ 20 18 true (.bin .lss T19 (cI 800)),oQ 21 (.pick T18 T20 (cB false))] [0,5,7,8,9,21])
(.cond T21
.skip
(.exit 0)))
(.seq
(.block 1
(.seq
(.reg 6 [oM 24 T7,oQ 25 (.bin .add T24 (cI 1)),oM 26 T0,oM 27 T9,oQ 28 (.ab2 2 T26 T27),oQ 29 (.aa9 1 T28),oQ 30 (.load none T29),oK 31 (.call 53 [T30,(cI 800)]),oQ 32 (.bin .add T25 T31),oM 7 T32] [0,5,7,8,9])
(.reg 7 [oM 33 T8,oM 34 T0,oM 35 T9,oQ 36 (.ab2 2 T34 T35),oQ 37 (.aa9 1 T36),oQ 38 (.load none T37),oQ 39 (.len 0 T38),oQ 40 (.bin .add T33 T39),oM 8 T40] [0,5,7,8,9])))
(.reg 5 [oM 22 T9,oQ 23 (.bin .add T22 (cI 1)),oM 9 T23] [0,5,7,8,9]))))))
(.seq
(.reg 8 [oM 41 T7,oQ 42 (.bin .geq T41 (cI 800)),oM 43 T42,gQ 44 43 false (.mov T8),gQ 45 43 false (.bin .gtr T44 (cI 40)),oQ 46 (.pick T43 (cB true) T45),oM 47 T46,gQ 48 47 false (.aa9 2 T5),gQ 49 47 false (.load none T48),gQ 50 47 false (.len 0 T49),gQ 51 47 false (.bin .gtr T50 (cI 20)),oQ 52 (.pick T47 (cB true) T51),oM 53 T52,gQ 54 53 false (.aa9 3 T5),gQ 55 53 false (.load none T54),gQ 56 53 false (.len 0 T55),gQ 57 53 false (.bin .gtr T56 (cI 20)),oQ 58 (.pick T53 (cB true) T57),oM 6 T58] [6])
.ret)))))
theorem fok12:FOK Tryz.prog 12 (59,ic12,[(.t 6)]):=ag5 [1000005] Tryz.func12
def ic13:IC :=
(.seq
(.reg 0 [oK 5 (.ai7 T2),oM 6 (.c .ab6),oM 7 (.c .ab6),oM 8 (.c .ab6),oM 9 (cB false)] [0,1,5])
(.seq
(.reg 1 [oM 16 T0,oM 17 T1,oK 18 (.call 21 [T16,T17]),oM 15 T18,oQ 19 (.ext 0 T15),oQ 20 (.ext 1 T15),oM 10 T19,oM 11 T20] [5,10,11])
(.seq
(.seq
(.reg 2 [oM 21 T11,oQ 22 (.bin .neq T21 (cI 0))] [5,10,22])
(.cond T22
(.seq
(.reg 3 [oM 6 (.c .ab6),oM 7 (.c .ab6),oM 8 (.c .ab6),oM 9 (cB false)] [6,7,8,9])
.ret)
.skip))
(.seq
(.reg 4 [oM 24 T10,oQ 25 (.load (some 5) T5),oK 26 (.call 54 [T24,T25]),oM 23 T26,oQ 27 (.ext 0 T23),oQ 28 (.ext 1 T23),oM 12 T27,oM 11 T28] [10,11,12])
(.seq
(.seq
(.reg 5 [oM 29 T11,oQ 30 (.bin .neq T29 (cI 0))] [10,12,30])
(.cond T30
(.seq
(.reg 6 [oM 6 (.c .ab6),oM 7 (.c .ab6),oM 8 (.c .ab6),oM 9 (cB false)] [6,7,8,9])
.ret)
.skip))
(.seq
(.reg 7 [oM 32 T12,oK 33 (.call 55 [T32]),oM 31 T33,oQ 34 (.ext 0 T31),oQ 35 (.ext 1 T31),oM 13 T34,oM 14 T35] [10,12,13,14])
(.seq
(.reg 8 [oM 36 T13,oM 37 T12,oM 38 T10,oM 39 T14,oQ 40 (.bin .eql T39 (cI 0)),oM 41 T40,gQ 42 41 true (.mov T13),gQ 43 41 true (.au9 (.pointer 169) true T42),oQ 44 (.pick T41 T43 (cB false)),oM 6 T36,oM 7 T37,oM 8 T38,oM 9 T44] [6,7,8,9])
.ret)))))))
theorem fok13:FOK Tryz.prog 13 (45,ic13,[(.t 6),(.t 7),(.t 8),(.t 9)]):=ag5 [1000005] Tryz.func13
def ic14:IC :=
(.seq
(.reg 0 [oM 3 (cB false)] [0,1])
(.seq
(.reg 1 [oM 4 T0,oQ 5 (.bin .geq T4 (cI 0)),oM 6 T5,gQ 7 6 true (.mov T0),gQ 8 6 true (.load none T1),gK 9 6 true (.call 15 [T8]),gQ 10 6 true (.bin .lss T7 T9),oQ 11 (.pick T6 T10 (cB false)),oM 3 T11] [3])
.ret))
theorem fok14:FOK Tryz.prog 14 (12,ic14,[(.t 3)]):=ag5 [] Tryz.func14
def ic15:IC :=
(.seq
(.reg 0 [⟨(some 2),none,(.q (.mov (.c (.int .i64 0))))⟩] [0])
(.seq
(.seq
(.reg 1 [⟨(some 3),none,(.q (.mov T0))⟩,⟨(some 4),none,(.q (.au9 (.pointer 108) false T3))⟩] [0,4])
(.cond T4
(.seq
(.reg 2 [⟨(some 2),none,(.q (.mov (.c (.int .i64 0))))⟩] [2])
.ret)
.skip))
(.seq
(.reg 3 [⟨(some 5),none,(.q (.mov T0))⟩,⟨(some 6),none,(.q (.al8 T5))⟩,⟨(some 7),none,(.q (.aa9 0 T6))⟩,⟨(some 8),none,(.q (.load none T7))⟩,⟨(some 9),none,(.q (.len 0 T8))⟩,⟨(some 2),none,(.q (.mov T9))⟩] [2])
.ret)))
theorem fok15:FOK Tryz.prog 15 (10,ic15,[(.t 2)]):=.mk (pf:=[]) (an:=[(0,[0]),(1,[0,4]),(2,[2]),(3,[2])]) (by kernel_rfl) (ac5 Tryz.func15 (by kernel_rfl) (by kernel_rfl) (by kernel_rfl))
def ic16:IC :=
(.seq
(.reg 0 [oM 6 (cB false)] [0,1,2])
(.seq
(.reg 1 [oM 7 T0,oM 8 T1,oK 9 (.call 56 [T7,T8]),oM 10 T9,gQ 11 10 true (.mov T0),gQ 12 10 true (.mov T2),gK 13 10 true (.call 56 [T11,T12]),oQ 14 (.pick T10 T13 (cB false)),oM 15 T14,gQ 16 15 true (.mov T0),gQ 17 15 true (.mov T1),gQ 18 15 true (.mov T2),gK 19 15 true (.call 57 [T16,T17,T18]),gQ 20 15 true (.bin .lss T19 (cI 0)),oQ 21 (.pick T15 T20 (cB false)),oM 6 T21] [6])
.ret))
theorem fok16:FOK Tryz.prog 16 (22,ic16,[(.t 6)]):=ag5 [] Tryz.func16
def ic17:IC :=
(.seq
(.reg 0 [oK 2 (.ai7 T0),oM 4 (.c .aa1)] [1,2])
(.seq
(.reg 1 [oM 6 T1,oK 7 (.call 59 [T6]),oQ 8 (.mkf 60 [] [T2]),oK 9 (.call 58 [T7,T8]),oM 5 T9] [2,5])
(.seq
(.seq
(.reg 2 [oM 10 T5,oQ 11 (.len 0 T10),oQ 12 (.bin .eql T11 (cI 0))] [2,5,12])
(.cond T12
(.seq
(.reg 3 [oM 4 (.c .aa1)] [4])
.ret)
.skip))
(.seq
(.reg 4 [oM 13 T5,oQ 14 (.load none T2),oQ 15 (.mkf 57 [T14] []),oK 16 (.call 61 [T13,T15])] [5])
(.seq
(.reg 5 [oM 17 T5,oK 18 (.call 62 [T17]),oM 4 T18] [4])
.ret)))))
theorem fok17:FOK Tryz.prog 17 (19,ic17,[(.t 4)]):=ag5 [1000002] Tryz.func17
def ic18:IC :=
(.seq
(.reg 0 [oM 4 (cB false)] [0,1])
(.seq
(.seq
(.reg 1 [oM 6 T0,oQ 7 (.len 0 T6),oM 8 T1,oQ 9 (.len 0 T8),oQ 10 (.bin .neq T7 T9)] [0,1,10])
(.cond T10
(.seq
(.reg 2 [oM 4 (cB false)] [4])
.ret)
.skip))
(.seq
(.seq
(.reg 3 [oM 5 (cI 0)] [0,1,5])
(.block 0
(.loop
(.seq
(.seq
(.reg 4 [oM 11 T5,oM 12 T0,oQ 13 (.len 0 T12),oQ 14 (.bin .lss T11 T13)] [0,1,5,14])
(.cond T14
.skip
(.exit 0)))
(.seq
(.block 1
(.seq
(.aj9 6 [oM 17 T0,oM 18 T5,oQ 19 (.ab2 1 T17 T18),oQ 20 (.load none T19),oM 21 T1,oM 22 T5,oQ 23 (.ab2 1 T21 T22),oQ 24 (.load none T23),oQ 25 (.bin .neq T20 T24)] false [0,1,5,25])
(.cond T25
(.seq
(.reg 7 [oM 4 (cB false)] [4])
.ret)
.skip)))
(.reg 5 [oM 15 T5,oQ 16 (.bin .add T15 (cI 1)),oM 5 T16] [0,1,5]))))))
(.seq
(.reg 8 [oM 4 (cB true)] [4])
.ret))))
theorem fok18:FOK Tryz.prog 18 (26,ic18,[(.t 4)]):=ag5 [] Tryz.func18
def ic21:IC :=
(.seq
(.reg 0 [⟨(some 4),none,(.q (.mov (.c .ab6)))⟩,⟨(some 5),none,(.q (.mov (.c (.int .i64 0))))⟩] [0,1])
(.seq
(.reg 1 [⟨(some 14),none,(.q (.mov T1))⟩,⟨(some 15),none,(.q (.len 0 T14))⟩,⟨(some 6),none,(.q (.mov T15))⟩] [0,1,6])
(.seq
(.seq
(.reg 2 [⟨(some 16),none,(.q (.mov T0))⟩,⟨(some 17),none,(.q (.len 0 T16))⟩,⟨(some 18),none,(.q (.mov (.c (.int .i64 0))))⟩] [0,1,6,16,17,18])
(.block 0
(.loop
(.seq
(.reg 3 [⟨(some 19),none,(.q (.bin .lss T18 T17))⟩] [0,1,6,16,17,18,19])
(.seq
(.cond T19
.skip
(.exit 0))
(.seq
(.block 1
(.seq
(.reg 4 [⟨(some 20),none,(.q (.ab2 2 T16 T18))⟩,⟨(some 21),none,(.q (.load (some 2) T20))⟩,⟨(some 8),none,(.alloc [(.int .i64 0),.aa1])⟩,⟨none,none,(.store 2 T8 T21)⟩] [0,1,6,8,16,17,18])
(.reg 5 [⟨(some 22),none,(.q (.mov T6))⟩,⟨(some 23),none,(.q (.aa9 1 T8))⟩,⟨(some 24),none,(.q (.load none T23))⟩,⟨(some 25),none,(.q (.len 0 T24))⟩,⟨(some 26),none,(.q (.bin .add T22 T25))⟩,⟨(some 6),none,(.q (.mov T26))⟩] [0,1,6,16,17,18])))
(.reg 6 [⟨(some 27),none,(.q (.bin .add T18 (.c (.int .i64 1))))⟩,⟨(some 18),none,(.q (.mov T27))⟩] [0,1,6,16,17,18])))))))
(.seq
(.seq
(.reg 7 [⟨(some 28),none,(.q (.mov T0))⟩,⟨(some 29),none,(.q (.len 0 T28))⟩,⟨(some 30),none,(.q (.bin .gtr T29 (.c (.int .i64 16))))⟩,⟨(some 31),none,(.q (.mov T30))⟩,⟨(some 32),(some ⟨31,false⟩),(.q (.mov T6))⟩,⟨(some 33),(some ⟨31,false⟩),(.q (.bin .gtr T32 (.c (.int .i64 256))))⟩,⟨(some 34),none,(.q (.pick T31 (.c (.bool true)) T33))⟩] [0,1,34])
(.cond T34
(.seq
(.reg 8 [⟨(some 4),none,(.q (.mov (.c .ab6)))⟩,⟨(some 5),none,(.q (.mov (.c (.int .i64 40))))⟩] [4,5])
.ret)
.skip))
(.seq
(.reg 9 [⟨(some 35),none,(.q (.mov T1))⟩,⟨(some 36),none,(.q (.len 0 T35))⟩,⟨(some 37),none,.bp3⟩,⟨(some 38),none,(.q (.bld [.aa1,(.int .i64 0),.ag6] [⟨1,⟨1,T36⟩⟩,⟨2,⟨1,T37⟩⟩]))⟩,⟨(some 39),none,(.box T38)⟩,⟨(some 9),none,(.q (.mov T39))⟩] [0,1,9])
(.seq
(.seq
(.reg 10 [⟨(some 40),none,(.q (.mov T9))⟩,⟨(some 41),none,(.q (.mov T1))⟩,⟨(some 42),none,(.call 66 [T40,T41,(.c (.int .i64 (-1))),(.c (.int .i64 1025))])⟩,⟨(some 10),none,(.q (.mov T42))⟩] [0,9,10])
(.seq
(.reg 11 [⟨(some 43),none,(.q (.mov T10))⟩,⟨(some 44),none,(.q (.bin .neq T43 (.c (.int .i64 0))))⟩] [0,9,10,44])
(.cond T44
(.seq
(.reg 12 [⟨(some 45),none,(.q (.mov T10))⟩,⟨(some 4),none,(.q (.mov (.c .ab6)))⟩,⟨(some 5),none,(.q (.mov T45))⟩] [4,5])
.ret)
.skip)))
(.seq
(.seq
(.reg 13 [⟨(some 46),none,(.q (.mov T0))⟩,⟨(some 47),none,(.q (.len 0 T46))⟩,⟨(some 48),none,(.q (.mov (.c (.int .i64 0))))⟩] [9,46,47,48])
(.block 2
(.loop
(.seq
(.reg 14 [⟨(some 49),none,(.q (.bin .lss T48 T47))⟩] [9,46,47,48,49])
(.seq
(.cond T49
.skip
(.exit 2))
(.seq
(.block 3
(.seq
(.reg 15 [⟨(some 50),none,(.q (.mov T48))⟩,⟨(some 51),none,(.q (.ab2 2 T46 T48))⟩,⟨(some 52),none,(.q (.load (some 2) T51))⟩,⟨(some 12),none,(.alloc [(.int .i64 0),.aa1])⟩,⟨(some 11),none,(.q (.mov T50))⟩,⟨none,none,(.store 2 T12 T52)⟩] [9,11,12,46,47,48])
(.seq
(.seq
(.reg 16 [⟨(some 53),none,(.q (.aa9 0 T12))⟩,⟨(some 54),none,(.q (.load none T53))⟩,⟨(some 55),none,(.q (.bin .lss T54 (.c (.int .i64 0))))⟩,⟨(some 56),none,(.q (.mov T55))⟩,⟨(some 57),(some ⟨56,false⟩),(.q (.aa9 0 T12))⟩,⟨(some 58),(some ⟨56,false⟩),(.q (.load none T57))⟩,⟨(some 59),(some ⟨56,false⟩),(.q (.bin .gtr T58 (.c (.int .i64 1024))))⟩,⟨(some 60),none,(.q (.pick T56 (.c (.bool true)) T59))⟩] [9,11,12,46,47,48,60])
(.cond T60
(.seq
(.reg 17 [⟨(some 4),none,(.q (.mov (.c .ab6)))⟩,⟨(some 5),none,(.q (.mov (.c (.int .i64 4))))⟩] [4,5])
.ret)
.skip))
(.seq
(.reg 18 [⟨(some 61),none,(.q (.mov T9))⟩,⟨(some 62),none,(.q (.aa9 1 T12))⟩,⟨(some 63),none,(.q (.load none T62))⟩,⟨(some 64),none,(.q (.mov T11))⟩,⟨(some 65),none,(.q (.aa9 0 T12))⟩,⟨(some 66),none,(.q (.load none T65))⟩,⟨(some 67),none,(.call 66 [T61,T63,T64,T66])⟩,⟨(some 13),none,(.q (.mov T67))⟩] [9,13,46,47,48])
(.seq
(.reg 19 [⟨(some 68),none,(.q (.mov T13))⟩,⟨(some 69),none,(.q (.bin .neq T68 (.c (.int .i64 0))))⟩] [9,13,46,47,48,69])
(.cond T69
(.seq
(.reg 20 [⟨(some 70),none,(.q (.mov T13))⟩,⟨(some 4),none,(.q (.mov (.c .ab6)))⟩,⟨(some 5),none,(.q (.mov T70))⟩] [4,5])
.ret)
.skip))))))
(.reg 21 [⟨(some 71),none,(.q (.bin .add T48 (.c (.int .i64 1))))⟩,⟨(some 48),none,(.q (.mov T71))⟩] [9,46,47,48])))))))
(.seq
(.reg 22 [⟨(some 72),none,(.q (.mov T9))⟩,⟨(some 4),none,(.q (.mov T72))⟩,⟨(some 5),none,(.q (.mov (.c (.int .i64 0))))⟩] [4,5])
.ret))))))))
theorem fok21:FOK Tryz.prog 21 (73,ic21,[(.t 4),(.t 5)]):=.mk (pf:=[]) (an:=[(0,[0,1]),(1,[0,1,6]),(2,[0,1,6,16,17,18]),(3,[0,1,6,16,17,18,19]),(4,[0,1,6,8,16,17,18]),(5,[0,1,6,16,17,18]),(6,[0,1,6,16,17,18]),(7,[0,1,34]),(8,[4,5]),(9,[0,1,9]),(10,[0,9,10]),(11,[0,9,10,44]),(12,[4,5]),(13,[9,46,47,48]),(14,[9,46,47,48,49]),(15,[9,11,12,46,47,48]),(16,[9,11,12,46,47,48,60]),(17,[4,5]),(18,[9,13,46,47,48]),(19,[9,13,46,47,48,69]),(20,[4,5]),(21,[9,46,47,48]),(22,[4,5])]) (by kernel_rfl) (ac5 Tryz.func21 (by kernel_rfl) (by kernel_rfl) (by kernel_rfl))
def ic37:IC :=
(.seq
(.reg 0 [oM 2 (.c .ab6)] [0])
(.seq
(.seq
(.reg 1 [oM 3 T0,oQ 4 (.au9 (.pointer 157) false T3)] [0,4])
(.cond T4
(.seq
(.reg 2 [oM 2 (.c .ab6)] [2])
.ret)
.skip))
(.seq
(.reg 3 [oM 5 T0,oQ 6 (.al8 T5),oQ 7 (.aa9 0 T6),oQ 8 (.load none T7),oM 2 T8] [2])
.ret)))
theorem fok37:FOK Tryz.prog 37 (9,ic37,[(.t 2)]):=ag5 [] Tryz.func37
def ic39:IC :=
(.seq
(.reg 0 [oM 4 (cB false)] [0,1])
(.seq
(.aj9 1 [oM 5 T0,oM 6 T1,oK 7 (.call 95 [T5,T6]),oM 8 T7,gQ 9 8 true (.mov T0),gQ 10 8 true (.al8 T9),gQ 11 8 true (.aa9 2 T10),gQ 12 8 true (.aa9 0 T11),gQ 13 8 true (.load none T12),gQ 14 8 true (.mov T0),gQ 15 8 true (.al8 T14),gQ 16 8 true (.aa9 7 T15),gQ 17 8 true (.load none T16),gQ 18 8 true (.mov T1),gQ 19 8 true (.ab2 15 T17 T18),gQ 20 8 true (.aa9 4 T19),gQ 21 8 true (.load none T20),gK 22 8 true (.call 96 [T13,T21]),oQ 23 (.pick T8 T22 (cB false)),oM 4 T23] false [4])
.ret))
theorem fok39:FOK Tryz.prog 39 (24,ic39,[(.t 4)]):=ag5 [] Tryz.func39
end Go.Id.Tryz
