/- The compiled codes of functions,written by a program out of the given form. Conditions: none. -/
import Derived.Test.YtlnkchkhffkofaaGreatDoorFwZb
import Derived.Test.YtlnkchkhffkofaaGreatDoorProg
set_option linter.all false
namespace Go.Id.Tryz
open Go Go.Id Go.Proofs
def ij7:List Nat:=List.range 292
def ic4:IC :=
(.seq
(.reg 0 [oK 6 (.ai2 T2),oM 8 (cB false)] [0,1,3,6])
(.seq
(.seq
(.reg 1 [oK 29 (.call 12 []),oQ 30 (.not T29),oM 31 T30,gQ 32 31 false (.mov T0),gQ 33 31 false (.mov T1),gQ 34 31 false (.load (some 5) T6),gK 35 31 false (.call 13 [T32,T33,T34]),oQ 36 (.pick T31 (cB true) T35)] [0,1,3,6,36])
(.cond T36
(.seq
(.reg 2 [oK 37 (.call 12 []),oM 8 T37] [8])
.ret)
.skip))
(.seq
(.reg 3 [oM 39 T0,oM 40 T1,oQ 41 (.load (some 5) T6),oK 42 (.call 14 [T39,T40,T41]),oM 38 T42,oQ 43 (.ext 0 T38),oQ 44 (.ext 1 T38),oQ 45 (.ext 2 T38),oQ 46 (.ext 3 T38),oM 9 T43,oM 10 T44,oM 11 T45,oM 12 T46] [3,9,10,11,12])
(.seq
(.seq
(.reg 4 [oM 47 T12,oQ 48 (.not T47)] [3,9,10,11,48])
(.cond T48
(.seq
(.reg 5 [oM 49 T9,oQ 50 (.as4 (.pointer 110) false T49),oM 8 T50] [8])
.ret)
.skip))
(.seq
(.reg 6 [oM 51 T10,oM 52 T3,oK 53 (.call 15 [T51,T52]),oM 13 T53] [3,9,11,13])
(.seq
(.reg 7 [oM 54 T9,oM 55 T3,oK 56 (.call 16 [T54,T55]),oM 57 T9,oM 58 T3,oK 59 (.call 17 [T57,T58]),oM 60 T9,oM 61 T3,oK 62 (.call 18 [T60,T61]),oM 14 T56,oM 15 T59,oM 16 T62] [3,9,11,13,14,15,16])
(.seq
(.seq
(.reg 8 [oM 63 T14,oM 64 T15,oM 65 T16,oK 66 (.ax1 1 3 [.aa1] [⟨0,⟨1,T63⟩⟩,⟨1,⟨1,T64⟩⟩,⟨2,⟨1,T65⟩⟩]),oQ 67 (.len 0 T66),oM 68 (cI 0)] [3,9,11,13,14,15,16,66,67,68])
(.block 0
(.loop
(.seq
(.reg 9 [oQ 69 (.bin .lss T68 T67)] [3,9,11,13,14,15,16,66,67,68,69])
(.seq
(.cond T69
.skip
(.exit 0))
(.seq
(.block 1
(.seq
(.reg 10 [oQ 70 (.ab3 1 T66 T68),oQ 71 (.load none T70),oM 18 T71] [3,9,11,13,14,15,16,18,66,67,68])
(.seq
(.seq
(.reg 11 [oM 72 T18,oQ 73 (.len 0 T72),oM 74 T13,oQ 75 (.len 0 T74),oQ 76 (.bin .neq T73 T75)] [3,9,11,13,14,15,16,18,66,67,68,76])
(.cond T76
(.seq
(.reg 12 [oM 8 (cB false)] [8])
.ret)
.skip))
(.seq
(.reg 13 [oM 19 (cI 0)] [3,9,11,13,14,15,16,18,19,66,67,68])
(.block 2
(.loop
(.seq
(.seq
(.reg 14 [oM 77 T19,oM 78 T13,oQ 79 (.len 0 T78),oQ 80 (.bin .lss T77 T79)] [3,9,11,13,14,15,16,18,19,66,67,68,80])
(.cond T80
.skip
(.exit 2)))
(.seq
(.block 3
(.seq
(.reg 16 [oM 20 (cI 0)] [3,9,11,13,14,15,16,18,19,20,66,67,68])
(.seq
(.seq
(.reg 17 [oM 21 (cI 0)] [3,9,11,13,14,15,16,18,19,20,21,66,67,68])
(.block 4
(.loop
(.seq
(.seq
(.reg 18 [oM 83 T21,oM 84 T18,oQ 85 (.len 0 T84),oQ 86 (.bin .lss T83 T85)] [3,9,11,13,14,15,16,18,19,20,21,66,67,68,86])
(.cond T86
.skip
(.exit 4)))
(.seq
(.block 5
(.seq
(.ak2 20 [oM 89 T18,oM 90 T21,oQ 91 (.ab3 1 T89 T90),oQ 92 (.load none T91),oM 93 T13,oM 94 T19,oQ 95 (.ab3 1 T93 T94),oQ 96 (.load none T95),oQ 97 (.bin .eql T92 T96)] false [3,9,11,13,14,15,16,18,19,20,21,66,67,68,97])
(.cond T97
(.reg 21 [oM 98 T20,oQ 99 (.bin .add T98 (cI 1)),oM 20 T99] [3,9,11,13,14,15,16,18,19,20,21,66,67,68])
.skip)))
(.reg 19 [oM 87 T21,oQ 88 (.bin .add T87 (cI 1)),oM 21 T88] [3,9,11,13,14,15,16,18,19,20,21,66,67,68]))))))
(.seq
(.reg 22 [oM 100 T20,oQ 101 (.bin .neq T100 (cI 1))] [3,9,11,13,14,15,16,18,19,66,67,68,101])
(.cond T101
(.seq
(.reg 23 [oM 8 (cB false)] [8])
.ret)
.skip)))))
(.reg 15 [oM 81 T19,oQ 82 (.bin .add T81 (cI 1)),oM 19 T82] [3,9,11,13,14,15,16,18,19,66,67,68])))))))))
(.reg 24 [oQ 102 (.bin .add T68 (cI 1)),oM 68 T102] [3,9,11,13,14,15,16,66,67,68])))))))
(.seq
(.seq
(.reg 25 [oM 103 T13,oQ 104 (.len 0 T103),oQ 105 (.bin .eql T104 (cI 0))] [3,9,11,13,14,15,16,105])
(.cond T105
(.seq
(.reg 26 [oM 8 (cB true)] [8])
.ret)
.skip))
(.seq
(.seq
(.reg 27 [oM 106 T14,oQ 107 (.ab3 1 T106 (cI 0)),oQ 108 (.load none T107),oM 109 T3,oQ 110 (.bin .neq T108 T109)] [3,9,11,13,14,15,16,110])
(.cond T110
(.seq
(.reg 28 [oM 8 (cB false)] [8])
.ret)
.skip))
(.seq
(.reg 29 [oM 112 T11,oM 113 T3,oK 114 (.call 19 [T112,T113]),oM 111 T114,oQ 115 (.ext 0 T111),oQ 116 (.ext 1 T111),oK 22 (.alloc [(.str []),(zI 0),(.str []),(.str []),(zU 0),(.str []),.aa1,.aa1,.aa1,.aa1,.aa1,.aa1,.aa1,.aa1,.aa1]),oN (.store 15 T22 T115),oM 23 T116] [9,11,13,14,15,16,22,23])
(.seq
(.seq
(.reg 30 [oM 117 T23,oQ 118 (.bin .neq T117 (cI 0))] [9,11,13,14,15,16,22,118])
(.cond T118
(.seq
(.reg 31 [oM 8 (cB false)] [8])
.ret)
.skip))
(.seq
(.seq
(.reg 32 [oM 24 (cI 1)] [9,11,13,14,15,16,22,24])
(.block 6
(.loop
(.seq
(.seq
(.reg 33 [oM 119 T24,oM 120 T13,oQ 121 (.len 0 T120),oQ 122 (.bin .lss T119 T121)] [9,11,13,14,15,16,22,24,122])
(.cond T122
.skip
(.exit 6)))
(.seq
(.block 7
(.seq
(.reg 35 [oM 126 T11,oM 127 T15,oM 128 T24,oQ 129 (.bin .sub T128 (cI 1)),oQ 130 (.ab3 1 T127 T129),oQ 131 (.load none T130),oK 132 (.call 19 [T126,T131]),oM 125 T132,oQ 133 (.ext 0 T125),oQ 134 (.ext 1 T125),oK 25 (.alloc [(.str []),(zI 0),(.str []),(.str []),(zU 0),(.str []),.aa1,.aa1,.aa1,.aa1,.aa1,.aa1,.aa1,.aa1,.aa1]),oN (.store 15 T25 T133),oM 26 T134] [9,11,13,14,15,16,22,24,25,26])
(.seq
(.reg 36 [oM 136 T11,oM 137 T15,oM 138 T24,oQ 139 (.ab3 1 T137 T138),oQ 140 (.load none T139),oK 141 (.call 19 [T136,T140]),oM 135 T141,oQ 142 (.ext 0 T135),oQ 143 (.ext 1 T135),oK 27 (.alloc [(.str []),(zI 0),(.str []),(.str []),(zU 0),(.str []),.aa1,.aa1,.aa1,.aa1,.aa1,.aa1,.aa1,.aa1,.aa1]),oN (.store 15 T27 T142),oM 28 T143] [9,11,13,14,15,16,22,24,25,26,27,28])
(.seq
(.ak2 37 [oM 144 T26,oQ 145 (.bin .neq T144 (cI 0)),oM 146 T145,gQ 147 146 false (.mov T28),gQ 148 146 false (.bin .neq T147 (cI 0)),oQ 149 (.pick T146 (cB true) T148),oM 150 T149,gQ 151 150 false (.aa7 0 T27),gQ 152 150 false (.load none T151),gQ 153 150 false (.aa7 0 T22),gQ 154 150 false (.load none T153),gQ 155 150 false (.bin .eql T152 T154),gQ 156 150 false (.mov T155),gQ 157 156 true (.aa7 0 T25),gQ 158 156 true (.load none T157),gQ 159 156 true (.aa7 0 T22),gQ 160 156 true (.load none T159),gQ 161 156 true (.bin .neq T158 T160),gQ 162 156 true (.mov T161),gQ 163 162 false (.aa7 1 T25),gQ 164 162 false (.load (some 3) T163),gQ 165 162 false (.aa7 1 T27),gQ 166 162 false (.load (some 3) T165),gK 167 162 false (.call 20 [T164,T166]),gQ 168 162 false (.bin .lss T167 (cI 0)),gQ 169 156 true (.pick T162 (cB true) T168),gQ 170 150 false (.pick T156 T169 (cB false)),oQ 171 (.pick T150 (cB true) T170),oM 172 T171,gQ 173 172 false (.mov T11),gQ 174 172 false (.mov T16),gQ 175 172 false (.mov T24),gQ 176 172 false (.ab3 1 T174 T175),gQ 177 172 false (.load none T176),gK 178 172 false (.call 21 [T173,T177]),gQ 179 172 false (.bin .geq T178 (cI 0)),gQ 180 172 false (.mov T179),gQ 181 180 true (.mov T11),gQ 182 180 true (.mov T16),gQ 183 180 true (.mov T24),gQ 184 180 true (.bin .sub T183 (cI 1)),gQ 185 180 true (.ab3 1 T182 T184),gQ 186 180 true (.load none T185),gK 187 180 true (.call 21 [T181,T186]),gQ 188 180 true (.bin .lss T187 (cI 0)),gQ 189 172 false (.pick T180 T188 (cB false)),oQ 190 (.pick T172 (cB true) T189),oM 191 T190,gQ 192 191 false (.mov T24),gQ 193 191 false (.bin .gtr T192 (cI 1)),gQ 194 191 false (.mov T193),gQ 195 194 true (.mov T9),gQ 196 194 true (.mov T14),gQ 197 194 true (.mov T24),gQ 198 194 true (.bin .sub T197 (cI 1)),gQ 199 194 true (.ab3 1 T196 T198),gQ 200 194 true (.load none T199),gQ 201 194 true (.mov T14),gQ 202 194 true (.mov T24),gQ 203 194 true (.ab3 1 T201 T202),gQ 204 194 true (.load none T203),gK 205 194 true (.call 22 [T195,T200,T204]),gQ 206 194 true (.not T205),gQ 207 191 false (.pick T194 T206 (cB false)),oQ 208 (.pick T191 (cB true) T207)] false [9,11,13,14,15,16,22,24,208])
(.cond T208
(.seq
(.reg 38 [oM 8 (cB false)] [8])
.ret)
.skip)))))
(.reg 34 [oM 123 T24,oQ 124 (.bin .add T123 (cI 1)),oM 24 T124] [9,11,13,14,15,16,22,24]))))))
(.seq
(.reg 39 [oM 8 (cB true)] [8])
.ret)))))))))))))
theorem fok4:FOK Tryz.prog 4 (209,ic4,[(.t 8)]):=af2 [1000006,1000066] Tryz.func4
def ic7:IC :=
(.seq
(.reg 0 [oM 4 (.c .ab7),oM 5 (.c (.int .i64 0))] [0,1])
(.seq
(.reg 1 [oM 14 T1,oQ 15 (.len 0 T14),oM 6 T15] [0,1,6])
(.seq
(.seq
(.reg 2 [oM 16 T0,oQ 17 (.len 0 T16),oM 18 (.c (.int .i64 0))] [0,1,6,16,17,18])
(.block 0
(.loop
(.seq
(.reg 3 [oQ 19 (.bin .lss T18 T17)] [0,1,6,16,17,18,19])
(.seq
(.cond T19
.skip
(.exit 0))
(.seq
(.block 1
(.seq
(.reg 4 [oQ 20 (.ab3 2 T16 T18),oQ 21 (.load (some 2) T20),oK 8 (.alloc [(.int .i64 0),.aa1]),oN (.store 2 T8 T21)] [0,1,6,8,16,17,18])
(.reg 5 [oM 22 T6,oQ 23 (.aa7 1 T8),oQ 24 (.load none T23),oQ 25 (.len 0 T24),oQ 26 (.bin .add T22 T25),oM 6 T26] [0,1,6,16,17,18])))
(.reg 6 [oQ 27 (.bin .add T18 (.c (.int .i64 1))),oM 18 T27] [0,1,6,16,17,18])))))))
(.seq
(.seq
(.reg 7 [oM 28 T0,oQ 29 (.len 0 T28),oQ 30 (.bin .gtr T29 (.c (.int .i64 16))),oM 31 T30,⟨(some 32),(some ⟨31,false⟩),(.q (.mov T6))⟩,⟨(some 33),(some ⟨31,false⟩),(.q (.bin .gtr T32 (.c (.int .i64 256))))⟩,oQ 34 (.pick T31 (.c (.bool true)) T33)] [0,1,34])
(.cond T34
(.seq
(.reg 8 [oM 4 (.c .ab7),oM 5 (.c (.int .i64 40))] [4,5])
.ret)
.skip))
(.seq
(.reg 9 [oM 35 T1,oQ 36 (.len 0 T35),oK 37 .br8,oQ 38 (.bld [.aa1,(.int .i64 0),.ah9] [⟨1,⟨1,T36⟩⟩,⟨2,⟨1,T37⟩⟩]),oK 39 (.box T38),oM 9 T39] [0,1,9])
(.seq
(.seq
(.reg 10 [oM 40 T9,oM 41 T1,oK 42 (.call 27 [T40,T41,(.c (.int .i64 (-1))),(.c (.int .i64 1025))]),oM 10 T42] [0,9,10])
(.seq
(.reg 11 [oM 43 T10,oQ 44 (.bin .neq T43 (.c (.int .i64 0)))] [0,9,10,44])
(.cond T44
(.seq
(.reg 12 [oM 45 T10,oM 4 (.c .ab7),oM 5 T45] [4,5])
.ret)
.skip)))
(.seq
(.seq
(.reg 13 [oM 46 T0,oQ 47 (.len 0 T46),oM 48 (.c (.int .i64 0))] [9,46,47,48])
(.block 2
(.loop
(.seq
(.reg 14 [oQ 49 (.bin .lss T48 T47)] [9,46,47,48,49])
(.seq
(.cond T49
.skip
(.exit 2))
(.seq
(.block 3
(.seq
(.reg 15 [oM 50 T48,oQ 51 (.ab3 2 T46 T48),oQ 52 (.load (some 2) T51),oK 12 (.alloc [(.int .i64 0),.aa1]),oM 11 T50,oN (.store 2 T12 T52)] [9,11,12,46,47,48])
(.seq
(.seq
(.reg 16 [oQ 53 (.aa7 0 T12),oQ 54 (.load none T53),oQ 55 (.bin .lss T54 (.c (.int .i64 0))),oM 56 T55,⟨(some 57),(some ⟨56,false⟩),(.q (.aa7 0 T12))⟩,⟨(some 58),(some ⟨56,false⟩),(.q (.load none T57))⟩,⟨(some 59),(some ⟨56,false⟩),(.q (.bin .gtr T58 (.c (.int .i64 1024))))⟩,oQ 60 (.pick T56 (.c (.bool true)) T59)] [9,11,12,46,47,48,60])
(.cond T60
(.seq
(.reg 17 [oM 4 (.c .ab7),oM 5 (.c (.int .i64 4))] [4,5])
.ret)
.skip))
(.seq
(.reg 18 [oM 61 T9,oQ 62 (.aa7 1 T12),oQ 63 (.load none T62),oM 64 T11,oQ 65 (.aa7 0 T12),oQ 66 (.load none T65),oK 67 (.call 27 [T61,T63,T64,T66]),oM 13 T67] [9,13,46,47,48])
(.seq
(.reg 19 [oM 68 T13,oQ 69 (.bin .neq T68 (.c (.int .i64 0)))] [9,13,46,47,48,69])
(.cond T69
(.seq
(.reg 20 [oM 70 T13,oM 4 (.c .ab7),oM 5 T70] [4,5])
.ret)
.skip))))))
(.reg 21 [oQ 71 (.bin .add T48 (.c (.int .i64 1))),oM 48 T71] [9,46,47,48])))))))
(.seq
(.reg 22 [oM 72 T9,oM 4 T72,oM 5 (.c (.int .i64 0))] [4,5])
.ret))))))))
theorem fok7:FOK Tryz.prog 7 (73,ic7,[(.t 4),(.t 5)]):=.mk (pf:=[]) (an:=[(0,[0,1]),(1,[0,1,6]),(2,[0,1,6,16,17,18]),(3,[0,1,6,16,17,18,19]),(4,[0,1,6,8,16,17,18]),(5,[0,1,6,16,17,18]),(6,[0,1,6,16,17,18]),(7,[0,1,34]),(8,[4,5]),(9,[0,1,9]),(10,[0,9,10]),(11,[0,9,10,44]),(12,[4,5]),(13,[9,46,47,48]),(14,[9,46,47,48,49]),(15,[9,11,12,46,47,48]),(16,[9,11,12,46,47,48,60]),(17,[4,5]),(18,[9,13,46,47,48]),(19,[9,13,46,47,48,69]),(20,[4,5]),(21,[9,46,47,48]),(22,[4,5])]) (by kernel_rfl) (ac4 Tryz.func7 (by kernel_rfl) (by kernel_rfl) (by kernel_rfl))
def ic12:IC :=
(.seq
(.reg 0 [oM 0 (cB false)] [])
(.seq
(.reg 1 [oK 6 (.call 38 [(.c (.str [97])),(.c (.str [49]))]),oK 7 (.call 38 [(.c (.str [97])),(.c (.str [50]))]),oK 8 (.ax1 15 2 [(.str []),(zI 0),(.str []),(.str []),(zU 0),(.str []),.aa1,.aa1,.aa1,.aa1,.aa1,.aa1,.aa1,.aa1,.aa1] [⟨0,⟨15,T6⟩⟩,⟨15,⟨15,T7⟩⟩]),oQ 9 (.bld [(zI 0),.aa1] [⟨0,⟨1,(cI 1)⟩⟩,⟨1,⟨1,T8⟩⟩]),oK 10 (.call 38 [(.c (.str [97])),(.c (.str [49]))]),oK 11 (.ax1 15 1 [(.str []),(zI 0),(.str []),(.str []),(zU 0),(.str []),.aa1,.aa1,.aa1,.aa1,.aa1,.aa1,.aa1,.aa1,.aa1] [⟨0,⟨15,T10⟩⟩]),oQ 12 (.bld [(zI 0),.aa1] [⟨0,⟨1,(cI 9)⟩⟩,⟨1,⟨1,T11⟩⟩]),oK 13 (.ax1 2 2 [(zI 0),.aa1] [⟨0,⟨2,T9⟩⟩,⟨2,⟨2,T12⟩⟩]),oM 1 T13] [1])
(.seq
(.reg 2 [oM 15 T1,oK 16 (.call 38 [(.c (.str [122])),(.c (.str [48]))]),oK 17 (.ax1 15 1 [(.str []),(zI 0),(.str []),(.str []),(zU 0),(.str []),.aa1,.aa1,.aa1,.aa1,.aa1,.aa1,.aa1,.aa1,.aa1] [⟨0,⟨15,T16⟩⟩]),oQ 18 (.bld [(zU 0),(.bool false),.aa1,.aa1,(zI 0)] [⟨0,⟨1,(.c (zU 2))⟩⟩]),oK 19 (.call 14 [T15,T17,T18]),oM 14 T19,oQ 20 (.ext 0 T14),oQ 21 (.ext 1 T14),oQ 22 (.ext 2 T14),oQ 23 (.ext 3 T14),oM 2 T20,oM 3 T21,oM 4 T22,oM 5 T23] [2,5])
(.seq
(.reg 3 [oM 24 T5,oM 25 T24,gQ 26 25 true (.mov T2),gK 27 25 true (.call 22 [T26,(cI 2),(cI 1)]),oQ 28 (.pick T25 T27 (cB false)),oM 29 T28,gQ 30 29 true (.mov T2),gK 31 29 true (.call 22 [T30,(cI 1),(cI 2)]),gQ 32 29 true (.not T31),oQ 33 (.pick T29 T32 (cB false)),oM 34 T33,gQ 35 34 true (.mov T2),gK 36 34 true (.call 22 [T35,(cI 3),(cI 2)]),oQ 37 (.pick T34 T36 (cB false)),oM 38 T37,gQ 39 38 true (.mov T2),gK 40 38 true (.call 22 [T39,(cI 0),(cI 3)]),oQ 41 (.pick T38 T40 (cB false)),oM 42 T41,gQ 43 42 true (.mov T2),gK 44 42 true (.ax1 1 5 [(zI 0)] [⟨0,⟨1,(cI 1)⟩⟩,⟨1,⟨1,(cI 2)⟩⟩,⟨2,⟨1,(cI 3)⟩⟩,⟨3,⟨1,(cI 0)⟩⟩,⟨4,⟨1,(cI 1)⟩⟩]),gK 45 42 true (.call 40 [T43,T44]),gK 46 42 true (.ax1 1 4 [(zI 0)] [⟨0,⟨1,(cI 0)⟩⟩,⟨1,⟨1,(cI 3)⟩⟩,⟨2,⟨1,(cI 2)⟩⟩,⟨3,⟨1,(cI 1)⟩⟩]),gK 47 42 true (.call 39 [T45,T46]),oQ 48 (.pick T42 T47 (cB false)),oM 0 T48] [0])
.ret))))
theorem fok12:FOK Tryz.prog 12 (49,ic12,[(.t 0)]):=af2 [1000008,1000011,1000013,1000017,1000044,1000046] Tryz.func12
def ic13:IC :=
(.seq
(.reg 0 [oK 5 (.ai2 T2),oM 6 (cB false)] [0,1,5])
(.seq
(.reg 1 [oM 10 T1,oK 11 (.call 41 [T10,(cI 800)]),oM 7 T11] [0,1,5,7])
(.seq
(.reg 2 [oM 12 T1,oQ 13 (.len 0 T12),oM 8 T13] [0,5,7,8])
(.seq
(.seq
(.reg 3 [oM 9 (cI 0)] [0,5,7,8,9])
(.block 0
(.loop
(.seq
(.seq
(.reg 4 [oM 14 T9,oM 15 T0,oQ 16 (.len 0 T15),oQ 17 (.bin .lss T14 T16),oM 18 T17,gQ 19 18 true (.mov T7),gQ 20 18 true (.bin .lss T19 (cI 800)),oQ 21 (.pick T18 T20 (cB false))] [0,5,7,8,9,21])
(.cond T21
.skip
(.exit 0)))
(.seq
(.block 1
(.seq
(.reg 6 [oM 24 T7,oQ 25 (.bin .add T24 (cI 1)),oM 26 T0,oM 27 T9,oQ 28 (.ab3 2 T26 T27),oQ 29 (.aa7 1 T28),oQ 30 (.load none T29),oK 31 (.call 41 [T30,(cI 800)]),oQ 32 (.bin .add T25 T31),oM 7 T32] [0,5,7,8,9])
(.reg 7 [oM 33 T8,oM 34 T0,oM 35 T9,oQ 36 (.ab3 2 T34 T35),oQ 37 (.aa7 1 T36),oQ 38 (.load none T37),oQ 39 (.len 0 T38),oQ 40 (.bin .add T33 T39),oM 8 T40] [0,5,7,8,9])))
(.reg 5 [oM 22 T9,oQ 23 (.bin .add T22 (cI 1)),oM 9 T23] [0,5,7,8,9]))))))
(.seq
(.reg 8 [oM 41 T7,oQ 42 (.bin .geq T41 (cI 800)),oM 43 T42,gQ 44 43 false (.mov T8),gQ 45 43 false (.bin .gtr T44 (cI 40)),oQ 46 (.pick T43 (cB true) T45),oM 47 T46,gQ 48 47 false (.aa7 2 T5),gQ 49 47 false (.load none T48),gQ 50 47 false (.len 0 T49),gQ 51 47 false (.bin .gtr T50 (cI 20)),oQ 52 (.pick T47 (cB true) T51),oM 53 T52,gQ 54 53 false (.aa7 3 T5),gQ 55 53 false (.load none T54),gQ 56 53 false (.len 0 T55),gQ 57 53 false (.bin .gtr T56 (cI 20)),oQ 58 (.pick T53 (cB true) T57),oM 6 T58] [6])
.ret)))))
theorem fok13:FOK Tryz.prog 13 (59,ic13,[(.t 6)]):=af2 [1000005] Tryz.func13
def ic14:IC :=
(.seq
(.reg 0 [oK 5 (.ai2 T2),oM 6 (.c .ab7),oM 7 (.c .ab7),oM 8 (.c .ab7),oM 9 (cB false)] [0,1,5])
(.seq
(.reg 1 [oM 16 T0,oM 17 T1,oK 18 (.call 7 [T16,T17]),oM 15 T18,oQ 19 (.ext 0 T15),oQ 20 (.ext 1 T15),oM 10 T19,oM 11 T20] [5,10,11])
(.seq
(.seq
(.reg 2 [oM 21 T11,oQ 22 (.bin .neq T21 (cI 0))] [5,10,22])
(.cond T22
(.seq
(.reg 3 [oM 6 (.c .ab7),oM 7 (.c .ab7),oM 8 (.c .ab7),oM 9 (cB false)] [6,7,8,9])
.ret)
.skip))
(.seq
(.reg 4 [oM 24 T10,oQ 25 (.load (some 5) T5),oK 26 (.call 42 [T24,T25]),oM 23 T26,oQ 27 (.ext 0 T23),oQ 28 (.ext 1 T23),oM 12 T27,oM 11 T28] [10,11,12])
(.seq
(.seq
(.reg 5 [oM 29 T11,oQ 30 (.bin .neq T29 (cI 0))] [10,12,30])
(.cond T30
(.seq
(.reg 6 [oM 6 (.c .ab7),oM 7 (.c .ab7),oM 8 (.c .ab7),oM 9 (cB false)] [6,7,8,9])
.ret)
.skip))
(.seq
(.reg 7 [oM 32 T12,oK 33 (.call 43 [T32]),oM 31 T33,oQ 34 (.ext 0 T31),oQ 35 (.ext 1 T31),oM 13 T34,oM 14 T35] [10,12,13,14])
(.seq
(.reg 8 [oM 36 T13,oM 37 T12,oM 38 T10,oM 39 T14,oQ 40 (.bin .eql T39 (cI 0)),oM 41 T40,gQ 42 41 true (.mov T13),gQ 43 41 true (.as4 (.pointer 110) true T42),oQ 44 (.pick T41 T43 (cB false)),oM 6 T36,oM 7 T37,oM 8 T38,oM 9 T44] [6,7,8,9])
.ret)))))))
theorem fok14:FOK Tryz.prog 14 (45,ic14,[(.t 6),(.t 7),(.t 8),(.t 9)]):=af2 [1000005] Tryz.func14
def ic15:IC :=
(.seq
(.reg 0 [oK 2 (.ai2 T0),oM 4 (.c .aa1)] [1,2])
(.seq
(.seq
(.reg 1 [oQ 12 (.load none T2),oM 13 T1,oK 14 (.call 44 [T12,T13]),oQ 15 (.not T14)] [1,2,15])
(.cond T15
(.seq
(.reg 2 [oM 4 (.c .aa1)] [4])
.ret)
.skip))
(.seq
(.reg 3 [oQ 16 (.load none T2),oQ 17 (.aj3 T16),oQ 18 (.aa7 7 T17),oQ 19 (.load none T18),oM 20 T1,oQ 21 (.ab3 15 T19 T20),oQ 22 (.load (some 15) T21),oK 5 (.alloc [(.str []),(zI 0),(.str []),(.str []),(zU 0),(.str []),.aa1,.aa1,.aa1,.aa1,.aa1,.aa1,.aa1,.aa1,.aa1]),oN (.store 15 T5 T22)] [1,2,5])
(.seq
(.reg 4 [oQ 23 (.load none T2),oM 24 T1,oK 25 (.call 45 [T23,(.c (zU 3)),T24]),oM 26 T25,gQ 27 26 false (.load none T2),gQ 28 26 false (.mov T1),gK 29 26 false (.call 46 [T27,(.c (zU 4)),T28]),oQ 30 (.pick T26 (cB true) T29),oK 6 (.alloc [(.bool false)]),oN (.store 1 T6 T30)] [1,2,5,6])
(.seq
(.reg 5 [oQ 31 (.load none T2),oM 32 T1,oK 33 (.call 45 [T31,(.c (zU 4)),T32]),oK 7 (.alloc [(.bool false)]),oN (.store 1 T7 T33)] [1,2,5,6,7])
(.seq
(.reg 6 [oQ 34 (.mkf 47 [] [T5,T6,T7,T2]),oM 8 T34] [1,2,8])
(.seq
(.reg 7 [oQ 35 (.load none T2),oQ 36 (.aj3 T35),oQ 37 (.aa7 1 T36),oQ 38 (.load none T37),oM 39 T1,oK 40 (.call 49 [T38,T39]),oM 9 T40] [1,2,8,9])
(.seq
(.seq
(.reg 8 [oQ 41 (.load none T2),oQ 42 (.aj3 T41),oQ 43 (.aa7 7 T42),oQ 44 (.load none T43),oQ 45 (.len 0 T44),oM 46 (cI 0)] [1,8,9,44,45,46])
(.block 0
(.loop
(.seq
(.reg 9 [oQ 47 (.bin .lss T46 T45)] [1,8,9,44,45,46,47])
(.seq
(.cond T47
.skip
(.exit 0))
(.seq
(.block 1
(.seq
(.reg 10 [oM 48 T46,oQ 49 (.ab3 15 T44 T46),oQ 50 (.load (some 15) T49),oK 11 (.alloc [(.str []),(zI 0),(.str []),(.str []),(zU 0),(.str []),.aa1,.aa1,.aa1,.aa1,.aa1,.aa1,.aa1,.aa1,.aa1]),oM 10 T48,oN (.store 15 T11 T50)] [1,8,9,10,11,44,45,46])
(.seq
(.reg 11 [oM 51 T10,oM 52 T1,oQ 53 (.bin .eql T51 T52),oM 54 T53,gQ 55 54 false (.mov T8),gQ 56 54 false (.load (some 15) T11),gK 57 54 false (.aj1 T55 [T56]),oQ 58 (.pick T54 (cB true) T57)] [1,8,9,10,44,45,46,58])
(.cond T58
(.reg 12 [oM 59 T9,oM 60 T10,oK 61 (.ax1 1 1 [(zI 0)] [⟨0,⟨1,T60⟩⟩]),oK 62 (.app 1 T59 T61),oM 9 T62] [1,8,9,44,45,46])
.skip))))
(.reg 13 [oQ 63 (.bin .add T46 (cI 1)),oM 46 T63] [1,8,9,44,45,46])))))))
(.seq
(.reg 14 [oM 64 T9,oK 65 (.call 50 [T64])] [9])
(.seq
(.reg 15 [oM 66 T9,oK 67 (.call 51 [T66]),oM 4 T67] [4])
.ret))))))))))
theorem fok15:FOK Tryz.prog 15 (68,ic15,[(.t 4)]):=af2 [1000002,1000061] Tryz.func15
def ic16:IC :=
(.seq
(.reg 0 [oK 3 (.ai2 T1),oM 4 (.c .aa1)] [0,3])
(.seq
(.reg 1 [oM 5 T0,oQ 6 (.load none T3),oQ 7 (.mkf 53 [] [T3]),oK 8 (.ax1 1 1 [.ac6] [⟨0,⟨1,T7⟩⟩]),oK 9 (.call 52 [T5,T6,T8]),oM 4 T9] [4])
.ret))
theorem fok16:FOK Tryz.prog 16 (10,ic16,[(.t 4)]):=af2 [1000003,1000008] Tryz.func16
def ic17:IC :=
(.seq
(.reg 0 [oM 4 (.c .aa1)] [0,1])
(.seq
(.reg 1 [oM 5 T0,oM 6 T1,oM 7 T0,oM 8 T1,oK 9 (.call 55 [T7,T8]),oK 10 (.ax1 1 1 [.ac6] [⟨0,⟨1,T9⟩⟩]),oK 11 (.call 52 [T5,T6,T10]),oM 4 T11] [4])
.ret))
theorem fok17:FOK Tryz.prog 17 (12,ic17,[(.t 4)]):=af2 [1000010] Tryz.func17
def ic18:IC :=
(.seq
(.reg 0 [oK 2 (.ai2 T0),oM 4 (.c .aa1)] [1,2])
(.seq
(.ak2 1 [oQ 5 (.load none T2),oM 6 T1,oQ 7 (.mkf 56 [] [T2]),oQ 8 (.load none T2),oM 9 T1,oK 10 (.ae6 55 [T8,T9]),oK 11 (.ax1 1 2 [.ac6] [⟨0,⟨1,T7⟩⟩,⟨1,⟨1,T10⟩⟩]),oK 12 (.ae6 52 [T5,T6,T11]),oM 4 T12] false [4])
.ret))
theorem fok18:FOK Tryz.prog 18 (13,ic18,[(.t 4)]):=af2 ([1000002,1000011]++[52,55]) Tryz.func18 (by kernel_rfl) (by kernel_rfl) (by kernel_rfl) (by kernel_rfl)
def ic19:IC :=
(.seq
(.reg 0 [oK 4 (.alloc [(.str []),(.int .i64 0),(.str []),(.str []),(.int .u8 0),(.str []),.aa1,.aa1,.aa1,.aa1,.aa1,.aa1,.aa1,.aa1,.aa1]),oM 5 (.c (.int .i64 0))] [0,1,4])
(.seq
(.seq
(.reg 1 [oM 6 T0,oQ 7 (.as4 (.pointer 74) false T6),oM 8 T7,⟨(some 9),(some ⟨8,false⟩),(.q (.mov T0))⟩,⟨(some 10),(some ⟨8,false⟩),(.q (.aj3 T9))⟩,⟨(some 11),(some ⟨8,false⟩),(.q (.aa7 0 T10))⟩,⟨(some 12),(some ⟨8,false⟩),(.q (.load none T11))⟩,⟨(some 13),(some ⟨8,false⟩),(.q (.mov T1))⟩,⟨(some 14),(some ⟨8,false⟩),(.call 57 [T12,T13])⟩,⟨(some 15),(some ⟨8,false⟩),(.q (.not T14))⟩,oQ 16 (.pick T8 (.c (.bool true)) T15)] [0,1,4,16])
(.cond T16
(.seq
(.reg 2 [oQ 17 (.bld [(.str []),(.int .i64 0),(.str []),(.str []),(.int .u8 0),(.str []),.aa1,.aa1,.aa1,.aa1,.aa1,.aa1,.aa1,.aa1,.aa1] []),oN (.store 15 T4 T17),oM 5 (.c (.int .i64 5))] [4,5])
.ret)
.skip))
(.seq
(.reg 3 [oM 18 T0,oQ 19 (.aj3 T18),oQ 20 (.aa7 0 T19),oQ 21 (.load none T20),oM 22 T1,oQ 23 (.ab3 17 T21 T22),oQ 24 (.aa7 0 T23),oQ 25 (.load (some 15) T24),oK 26 (.call 58 [T25]),oN (.store 15 T4 T26),oM 5 (.c (.int .i64 0))] [4,5])
.ret)))
theorem fok19:FOK Tryz.prog 19 (27,ic19,[(.cell (some 15) 4),(.t 5)]):=.mk (pf:=[]) (an:=[(0,[0,1,4]),(1,[0,1,4,16]),(2,[4,5]),(3,[4,5])]) (by kernel_rfl) (ac4 Tryz.func19 (by kernel_rfl) (by kernel_rfl) (by kernel_rfl))
def ic20:IC :=
(.seq
(.reg 0 [oK 2 (.ai2 T0),oK 3 (.ai2 T1),oM 4 (cI 0)] [2,3])
(.seq
(.reg 1 [oQ 5 (.mkf 60 [] [T2,T3]),oQ 6 (.mkf 61 [] [T2,T3]),oQ 7 (.mkf 63 [] [T2,T3]),oK 8 (.ax1 1 3 [.ac6] [⟨0,⟨1,T5⟩⟩,⟨1,⟨1,T6⟩⟩,⟨2,⟨1,T7⟩⟩]),oK 9 (.call 59 [T8]),oM 4 T9] [4])
.ret))
theorem fok20:FOK Tryz.prog 20 (10,ic20,[(.t 4)]):=af2 [1000002,1000003,1000008] Tryz.func20
def ic21:IC :=
(.seq
(.reg 0 [oM 4 (.c (.int .i64 0))] [0,1])
(.seq
(.seq
(.reg 1 [oM 5 T0,oQ 6 (.as4 (.pointer 74) false T5),oM 7 T6,⟨(some 8),(some ⟨7,false⟩),(.q (.mov T0))⟩,⟨(some 9),(some ⟨7,false⟩),(.q (.aj3 T8))⟩,⟨(some 10),(some ⟨7,false⟩),(.q (.aa7 0 T9))⟩,⟨(some 11),(some ⟨7,false⟩),(.q (.load none T10))⟩,⟨(some 12),(some ⟨7,false⟩),(.q (.mov T1))⟩,⟨(some 13),(some ⟨7,false⟩),(.call 57 [T11,T12])⟩,⟨(some 14),(some ⟨7,false⟩),(.q (.not T13))⟩,oQ 15 (.pick T7 (.c (.bool true)) T14)] [0,1,15])
(.cond T15
(.seq
(.reg 2 [oM 4 (.c (.int .i64 (-1)))] [4])
.ret)
.skip))
(.seq
(.reg 3 [oM 16 T0,oQ 17 (.aj3 T16),oQ 18 (.aa7 0 T17),oQ 19 (.load none T18),oM 20 T1,oQ 21 (.ab3 17 T19 T20),oQ 22 (.aa7 15 T21),oQ 23 (.load none T22),oM 4 T23] [4])
.ret)))
theorem fok21:FOK Tryz.prog 21 (24,ic21,[(.t 4)]):=.mk (pf:=[]) (an:=[(0,[0,1]),(1,[0,1,15]),(2,[4]),(3,[4])]) (by kernel_rfl) (ac4 Tryz.func21 (by kernel_rfl) (by kernel_rfl) (by kernel_rfl))
def ic22:IC :=
(.seq
(.reg 0 [oM 6 (cB false)] [0,1,2])
(.seq
(.reg 1 [oM 7 T0,oM 8 T1,oK 9 (.call 64 [T7,T8]),oM 10 T9,gQ 11 10 true (.mov T0),gQ 12 10 true (.mov T2),gK 13 10 true (.call 64 [T11,T12]),oQ 14 (.pick T10 T13 (cB false)),oM 15 T14,gQ 16 15 true (.mov T0),gQ 17 15 true (.mov T1),gQ 18 15 true (.mov T2),gK 19 15 true (.call 65 [T16,T17,T18]),gQ 20 15 true (.bin .lss T19 (cI 0)),oQ 21 (.pick T15 T20 (cB false)),oM 6 T21] [6])
.ret))
theorem fok22:FOK Tryz.prog 22 (22,ic22,[(.t 6)]):=af2 [] Tryz.func22
def ic27:IC :=
(.seq
(.reg 0 [oM 8 (.c (.int .i64 0))] [0,1,2,3])
(.seq
(.seq
(.reg 1 [oM 11 T1,oQ 12 (.len 0 T11),oM 13 (.c (.int .i64 0))] [0,2,3,11,12,13])
(.block 0
(.loop
(.seq
(.reg 2 [oQ 14 (.bin .lss T13 T12)] [0,2,3,11,12,13,14])
(.seq
(.cond T14
.skip
(.exit 0))
(.seq
(.block 1
(.seq
(.reg 3 [oQ 15 (.ab3 15 T11 T13),oQ 16 (.load (some 15) T15),oK 10 (.alloc [(.str []),(.int .i64 0),(.str []),(.str []),(.int .u8 0),(.str []),.aa1,.aa1,.aa1,.aa1,.aa1,.aa1,.aa1,.aa1,.aa1]),oN (.store 15 T10 T16)] [0,2,3,10,11,12,13])
(.seq
(.seq
(.reg 4 [oQ 17 (.load (some 15) T10),oK 18 (.ae6 68 [T17]),oQ 19 (.not T18)] [0,2,3,10,11,12,13,19])
(.cond T19
(.seq
(.reg 5 [oM 8 (.c (.int .i64 4))] [8])
.ret)
.skip))
(.seq
(.ak2 6 [oM 20 T0,oQ 21 (.aj3 T20),oQ 22 (.aa7 2 T21),oQ 23 (.load none T22),oQ 24 (.aa7 0 T10),oQ 25 (.load none T24),oM 26 T0,oQ 27 (.aj3 T26),oQ 28 (.aa7 2 T27),oQ 29 (.load none T28),oQ 30 (.aa7 0 T10),oQ 31 (.load none T30),oQ 32 (.lkp 2 .aa1 false T29 T31),oM 33 T0,oQ 34 (.aj3 T33),oQ 35 (.aa7 0 T34),oQ 36 (.load none T35),oQ 37 (.len 0 T36),oK 38 (.ax1 1 1 [(.int .i64 0)] [⟨0,⟨1,T37⟩⟩]),oK 39 (.app 1 T32 T38),oN (.dp1 2 T23 T25 T39)] true [0,2,3,10,11,12,13])
(.ak2 7 [oM 40 T0,oM 41 T0,oQ 42 (.aj3 T41),oQ 43 (.aa7 0 T42),oQ 44 (.load none T43),oQ 45 (.load (some 15) T10),oK 46 (.ae6 58 [T45]),oM 47 T2,oM 48 T3,oQ 49 (.bld [(.str []),(.int .i64 0),(.str []),(.str []),(.int .u8 0),(.str []),.aa1,.aa1,.aa1,.aa1,.aa1,.aa1,.aa1,.aa1,.aa1,(.int .i64 0),(.int .i64 0)] [⟨0,⟨15,T46⟩⟩,⟨15,⟨1,T47⟩⟩,⟨16,⟨1,T48⟩⟩]),oK 50 (.ax1 17 1 [(.str []),(.int .i64 0),(.str []),(.str []),(.int .u8 0),(.str []),.aa1,.aa1,.aa1,.aa1,.aa1,.aa1,.aa1,.aa1,.aa1,(.int .i64 0),(.int .i64 0)] [⟨0,⟨17,T49⟩⟩]),oK 51 (.app 17 T44 T50),oQ 52 (.aj3 T40),oQ 53 (.aa7 0 T52),oN (.store 1 T53 T51)] true [0,2,3,11,12,13])))))
(.reg 8 [oQ 54 (.bin .add T13 (.c (.int .i64 1))),oM 13 T54] [0,2,3,11,12,13])))))))
(.seq
(.reg 9 [oM 8 (.c (.int .i64 0))] [8])
.ret)))
theorem fok27:FOK Tryz.prog 27 (55,ic27,[(.t 8)]):=.mk (pf:=([1000038,1000050]++ij7)) (an:=[(0,[0,1,2,3]),(1,[0,2,3,11,12,13]),(2,[0,2,3,11,12,13,14]),(3,[0,2,3,10,11,12,13]),(4,[0,2,3,10,11,12,13,19]),(5,[8]),(6,[0,2,3,10,11,12,13]),(7,[0,2,3,11,12,13]),(8,[0,2,3,11,12,13]),(9,[8])]) (by kernel_rfl) (ac4 Tryz.func27 (by kernel_rfl) (by kernel_rfl) (by kernel_rfl))
def ic28:IC :=
(.seq
(.reg 0 [oM 2 (.c (.int .i64 0))] [0])
(.seq
(.seq
(.reg 1 [oM 3 T0,oQ 4 (.as4 (.pointer 74) false T3)] [0,4])
(.cond T4
(.seq
(.reg 2 [oM 2 (.c (.int .i64 0))] [2])
.ret)
.skip))
(.seq
(.reg 3 [oM 5 T0,oQ 6 (.aj3 T5),oQ 7 (.aa7 0 T6),oQ 8 (.load none T7),oQ 9 (.len 0 T8),oM 2 T9] [2])
.ret)))
theorem fok28:FOK Tryz.prog 28 (10,ic28,[(.t 2)]):=.mk (pf:=[]) (an:=[(0,[0]),(1,[0,4]),(2,[2]),(3,[2])]) (by kernel_rfl) (ac4 Tryz.func28 (by kernel_rfl) (by kernel_rfl) (by kernel_rfl))
def ic31:IC :=
(.seq
(.reg 0 [oM 5 T0,oQ 6 (.len 0 T5),oM 4 T6] [0,1,4])
(.reg 1 [oM 7 T0,oM 8 T4,oM 9 T4,oQ 10 (.conv .u64 T9),oK 11 (.call 72 [T10]),oM 12 T1,oK 13 (.call 71 [T7,(cI 0),T8,T11,T12])] []))
theorem fok31:FOK Tryz.prog 31 (14,ic31,[]):=af2 [] Tryz.func31
def ic32:IC :=
(.seq
(.reg 0 [oM 4 (cI 0)] [0,1])
(.seq
(.reg 1 [oM 7 T0,oK 8 (.call 73 [T7]),oM 5 T8] [0,1,5])
(.seq
(.reg 2 [oM 9 T1,oK 10 (.call 73 [T9]),oM 6 T10] [0,1,5,6])
(.seq
(.seq
(.reg 3 [oM 11 T5] [0,1,6,11])
(.cond T11
(.seq
(.seq
(.reg 4 [oM 12 T6] [12])
(.cond T12
(.seq
(.reg 5 [oM 4 (cI 0)] [4])
.ret)
.skip))
(.seq
(.reg 6 [oM 4 (cI (-1))] [4])
.ret))
.skip))
(.seq
(.seq
(.reg 7 [oM 13 T6] [0,1,13])
(.cond T13
(.seq
(.reg 8 [oM 4 (cI 1)] [4])
.ret)
.skip))
(.seq
(.seq
(.reg 9 [oM 14 T0,oM 15 T1,oQ 16 (.bin .lss T14 T15)] [0,1,16])
(.cond T16
(.seq
(.reg 10 [oM 4 (cI (-1))] [4])
.ret)
.skip))
(.seq
(.seq
(.reg 11 [oM 17 T0,oM 18 T1,oQ 19 (.bin .gtr T17 T18)] [19])
(.cond T19
(.seq
(.reg 12 [oM 4 (cI 1)] [4])
.ret)
.skip))
(.seq
(.reg 13 [oM 4 (cI 0)] [4])
.ret))))))))
theorem fok32:FOK Tryz.prog 32 (20,ic32,[(.t 4)]):=af2 [] Tryz.func32
def ic38:IC :=
(.seq
(.reg 0 [oK 4 (.alloc [(.str []),(zI 0),(.str []),(.str []),(zU 0),(.str []),.aa1,.aa1,.aa1,.aa1,.aa1,.aa1,.aa1,.aa1,.aa1])] [0,1,4])
(.seq
(.reg 1 [oM 5 T0,oM 6 T1,oQ 7 (.bld [(zI 0),(.str []),(.str [])] [⟨1,⟨1,T6⟩⟩,⟨2,⟨1,(.c (.str [49]))⟩⟩]),oQ 8 (.bld [(.str []),(zI 0),(.str []),(.str []),(zU 0),(.str []),.aa1,.aa1,.aa1,.aa1,.aa1,.aa1,.aa1,.aa1,.aa1] [⟨0,⟨1,T5⟩⟩,⟨1,⟨3,T7⟩⟩,⟨4,⟨1,(.c (zU 2))⟩⟩]),oN (.store 15 T4 T8)] [4])
.ret))
theorem fok38:FOK Tryz.prog 38 (9,ic38,[(.cell (some 15) 4)]):=af2 [] Tryz.func38
def ic39:IC :=
(.seq
(.reg 0 [oM 4 (cB false)] [0,1])
(.seq
(.reg 1 [oM 5 T0,oM 6 T1,oK 7 (.call 87 [T5,T6]),oM 4 T7] [4])
.ret))
theorem fok39:FOK Tryz.prog 39 (8,ic39,[(.t 4)]):=af2 [] Tryz.func39
def ic40:IC :=
(.seq
(.reg 0 [oK 2 (.ai2 T0),oM 4 (.c .aa1)] [1,2])
(.seq
(.reg 1 [oM 6 T1,oK 7 (.call 89 [T6]),oQ 8 (.mkf 90 [] [T2]),oK 9 (.call 88 [T7,T8]),oM 5 T9] [2,5])
(.seq
(.seq
(.reg 2 [oM 10 T5,oQ 11 (.len 0 T10),oQ 12 (.bin .eql T11 (cI 0))] [2,5,12])
(.cond T12
(.seq
(.reg 3 [oM 4 (.c .aa1)] [4])
.ret)
.skip))
(.seq
(.reg 4 [oM 13 T5,oQ 14 (.load none T2),oQ 15 (.mkf 65 [T14] []),oK 16 (.call 31 [T13,T15])] [5])
(.seq
(.reg 5 [oM 17 T5,oK 18 (.call 51 [T17]),oM 4 T18] [4])
.ret)))))
theorem fok40:FOK Tryz.prog 40 (19,ic40,[(.t 4)]):=af2 [1000002] Tryz.func40
def ic41:IC :=
(.seq
(.reg 0 [oM 4 (cI 0)] [0,1])
(.seq
(.reg 1 [oM 5 (cI 0)] [0,1,5])
(.seq
(.seq
(.reg 2 [oM 6 (cI 0)] [0,1,5,6])
(.block 0
(.loop
(.seq
(.seq
(.reg 3 [oM 10 T6,oM 11 T0,oQ 12 (.len 0 T11),oQ 13 (.bin .lss T10 T12),oM 14 T13,gQ 15 14 true (.mov T5),gQ 16 14 true (.mov T1),gQ 17 14 true (.bin .lss T15 T16),oQ 18 (.pick T14 T17 (cB false))] [0,1,5,6,18])
(.cond T18
.skip
(.exit 0)))
(.seq
(.block 1
(.seq
(.reg 5 [oM 21 T0,oM 22 T6,oQ 23 (.ab3 15 T21 T22),oQ 24 (.load (some 15) T23),oK 7 (.alloc [(.str []),(zI 0),(.str []),(.str []),(zU 0),(.str []),.aa1,.aa1,.aa1,.aa1,.aa1,.aa1,.aa1,.aa1,.aa1]),oN (.store 15 T7 T24)] [0,1,5,6,7])
(.seq
(.reg 6 [oM 25 T5,oQ 26 (.bin .add T25 (cI 1)),oQ 27 (.aa7 6 T7),oQ 28 (.load none T27),oQ 29 (.len 0 T28),oQ 30 (.bin .add T26 T29),oQ 31 (.aa7 9 T7),oQ 32 (.load none T31),oQ 33 (.len 0 T32),oQ 34 (.bin .add T30 T33),oQ 35 (.aa7 14 T7),oQ 36 (.load none T35),oQ 37 (.len 0 T36),oQ 38 (.bin .add T34 T37),oM 5 T38] [0,1,5,6,7])
(.seq
(.reg 7 [oQ 39 (.aa7 7 T7),oQ 40 (.load none T39),oQ 41 (.aa7 8 T7),oQ 42 (.load none T41),oQ 43 (.aa7 10 T7),oQ 44 (.load none T43),oQ 45 (.aa7 11 T7),oQ 46 (.load none T45),oQ 47 (.aa7 12 T7),oQ 48 (.load none T47),oQ 49 (.aa7 13 T7),oQ 50 (.load none T49),oK 51 (.ax1 1 6 [.aa1] [⟨0,⟨1,T40⟩⟩,⟨1,⟨1,T42⟩⟩,⟨2,⟨1,T44⟩⟩,⟨3,⟨1,T46⟩⟩,⟨4,⟨1,T48⟩⟩,⟨5,⟨1,T50⟩⟩]),oQ 52 (.len 0 T51),oM 53 (cI 0)] [0,1,5,6,51,52,53])
(.block 2
(.loop
(.seq
(.reg 8 [oQ 54 (.bin .lss T53 T52)] [0,1,5,6,51,52,53,54])
(.seq
(.cond T54
.skip
(.exit 2))
(.seq
(.block 3
(.seq
(.reg 9 [oQ 55 (.ab3 1 T51 T53),oQ 56 (.load none T55),oM 9 T56] [0,1,5,6,9,51,52,53])
(.reg 10 [oM 57 T5,oM 58 T9,oM 59 T1,oK 60 (.call 91 [T58,T59]),oQ 61 (.bin .add T57 T60),oM 5 T61] [0,1,5,6,51,52,53])))
(.reg 11 [oQ 62 (.bin .add T53 (cI 1)),oM 53 T62] [0,1,5,6,51,52,53]))))))))))
(.reg 4 [oM 19 T6,oQ 20 (.bin .add T19 (cI 1)),oM 6 T20] [0,1,5,6]))))))
(.seq
(.reg 12 [oM 63 T5,oM 4 T63] [4])
.ret))))
theorem fok41:FOK Tryz.prog 41 (64,ic41,[(.t 4)]):=af2 [1000051] Tryz.func41
def ic42:IC :=
(.seq
(.reg 0 [oK 2 (.ai2 T0),oK 3 (.ai2 T1),oM 4 (.c .ab7),oM 5 (cI 0)] [2,3])
(.seq
(.block 0
(.seq
(.reg 1 [oQ 13 (.load none T2),oQ 14 (.as4 (.pointer 74) false T13),oM 12 T14] [2,3,12])
(.cond T12
(.seq
(.reg 2 [oM 4 (.c .ab7),oM 5 (cI 2)] [4,5])
.ret)
(.seq
(.reg 3 [oQ 16 (.aa7 0 T3),oQ 17 (.load none T16),oK 18 (.call 92 [T17]),oQ 19 (.not T18),oM 20 T19,gQ 21 20 false (.aa7 4 T3),gQ 22 20 false (.load none T21),gQ 23 20 false (.bin .lss T22 (cI 0)),oQ 24 (.pick T20 (cB true) T23),oM 25 T24,gQ 26 25 false (.aa7 4 T3),gQ 27 25 false (.load none T26),gQ 28 25 false (.bin .gtr T27 (cI 1099511627776)),oQ 29 (.pick T25 (cB true) T28),oM 15 T29] [2,3,15])
(.cond T15
(.seq
(.reg 4 [oM 4 (.c .ab7),oM 5 (cI 1)] [4,5])
.ret)
(.seq
(.reg 5 [oQ 31 (.aa7 2 T3),oQ 32 (.load none T31),oQ 33 (.len 0 T32),oQ 34 (.bin .gtr T33 (cI 64)),oM 35 T34,gQ 36 35 false (.aa7 3 T3),gQ 37 35 false (.load none T36),gQ 38 35 false (.len 0 T37),gQ 39 35 false (.bin .gtr T38 (cI 64)),oQ 40 (.pick T35 (cB true) T39),oM 30 T40] [2,3,30])
(.cond T30
(.seq
(.reg 6 [oM 4 (.c .ab7),oM 5 (cI 40)] [4,5])
.ret)
(.seq
(.reg 7 [oQ 42 (.aa7 2 T3),oQ 43 (.load none T42),oK 44 (.call 93 [T43,(.f 94)]),oM 41 T44] [2,3,41])
(.cond T41
(.seq
(.reg 8 [oM 4 (.c .ab7),oM 5 (cI 4)] [4,5])
.ret)
(.seq
(.reg 9 [oQ 46 (.aa7 3 T3),oQ 47 (.load none T46),oQ 48 (.mkf 97 [] [T3,T2]),oK 49 (.call 96 [T47,T48]),oM 45 T49] [2,3,45])
(.cond T45
(.seq
(.reg 10 [oM 4 (.c .ab7),oM 5 (cI 5)] [4,5])
.ret)
.skip)))))))))))
(.seq
(.reg 11 [oQ 51 (.load none T2),oK 52 (.call 100 [T51]),oM 50 T52,oQ 53 (.ext 0 T50),oQ 54 (.ext 1 T50),oM 6 T53,oM 7 T54] [2,3,6,7])
(.seq
(.seq
(.reg 12 [oM 55 T7,oQ 56 (.bin .neq T55 (cI 0))] [2,3,6,7,56])
(.cond T56
(.seq
(.reg 13 [oM 57 T7,oM 4 (.c .ab7),oM 5 T57] [4,5])
.ret)
.skip))
(.seq
(.ak2 14 [oQ 58 (.load none T2),oM 59 T6,oQ 60 (.load (some 5) T3),oK 61 (.ae6 101 [T60]),oQ 62 (.bld [.ab7,.ab7,(zU 0),(.bool false),.aa1,.aa1,(zI 0),.aa1] [⟨0,⟨1,T58⟩⟩,⟨1,⟨1,T59⟩⟩,⟨2,⟨5,T61⟩⟩]),oK 63 (.box T62),oM 8 T63] false [2,8])
(.seq
(.seq
(.reg 15 [oQ 64 (.load none T2),oK 65 (.call 28 [T64]),oM 66 (cI 0)] [2,8,65,66])
(.block 1
(.loop
(.seq
(.reg 16 [oQ 67 (.bin .lss T66 T65)] [2,8,65,66,67])
(.seq
(.cond T67
.skip
(.exit 1))
(.seq
(.block 2
(.seq
(.reg 17 [oM 68 T66,oM 9 T68] [2,8,9,65,66])
(.seq
(.reg 18 [oQ 70 (.load none T2),oM 71 T9,oK 72 (.call 19 [T70,T71]),oM 69 T72,oQ 73 (.ext 0 T69),oQ 74 (.ext 1 T69),oK 10 (.alloc [(.str []),(zI 0),(.str []),(.str []),(zU 0),(.str []),.aa1,.aa1,.aa1,.aa1,.aa1,.aa1,.aa1,.aa1,.aa1]),oN (.store 15 T10 T73),oM 11 T74] [2,8,10,11,65,66])
(.seq
(.seq
(.reg 19 [oM 75 T11,oQ 76 (.bin .neq T75 (cI 0))] [2,8,10,11,65,66,76])
(.cond T76
(.seq
(.reg 20 [oM 77 T11,oM 4 (.c .ab7),oM 5 T77] [4,5])
.ret)
.skip))
(.ak2 21 [oM 78 T8,oM 79 T8,oQ 80 (.aj3 T79),oQ 81 (.aa7 7 T80),oQ 82 (.load none T81),oQ 83 (.load (some 15) T10),oK 84 (.ax1 15 1 [(.str []),(zI 0),(.str []),(.str []),(zU 0),(.str []),.aa1,.aa1,.aa1,.aa1,.aa1,.aa1,.aa1,.aa1,.aa1] [⟨0,⟨15,T83⟩⟩]),oK 85 (.app 15 T82 T84),oQ 86 (.aj3 T78),oQ 87 (.aa7 7 T86),oN (.store 1 T87 T85)] true [2,8,65,66])))))
(.reg 22 [oQ 88 (.bin .add T66 (cI 1)),oM 66 T88] [2,8,65,66])))))))
(.seq
(.reg 23 [oM 89 T8,oM 4 T89,oM 5 (cI 0)] [4,5])
.ret)))))))
theorem fok42:FOK Tryz.prog 42 (90,ic42,[(.t 4),(.t 5)]):=af2 ([1000002,1000003,1000084]++[101]) Tryz.func42 (by kernel_rfl) (by kernel_rfl) (by kernel_rfl) (by kernel_rfl)
def ic43:IC :=
(.seq
(.reg 0 [oM 2 (.c .ab7),oM 3 (cI 0)] [0])
(.seq
(.seq
(.reg 1 [oM 20 T0,oQ 21 (.as4 (.pointer 101) false T20)] [0,21])
(.cond T21
(.seq
(.reg 2 [oM 2 (.c .ab7),oM 3 (cI 2)] [2,3])
.ret)
.skip))
(.seq
(.reg 3 [oM 22 T0,oM 23 T0,oK 24 (.call 102 [T23]),oM 25 T0,oK 26 (.call 103 [T25]),oQ 27 (.fld none 0 T26),oQ 28 (.bld [.ab7,.ab7,(zU 0),.aa1,.aa1] [⟨0,⟨1,T22⟩⟩,⟨1,⟨1,T24⟩⟩,⟨2,⟨1,T27⟩⟩]),oK 29 (.box T28),oM 4 T29] [4])
(.seq
(.seq
(.reg 4 [oM 30 T4,oQ 31 (.aj3 T30),oQ 32 (.aa7 1 T31),oQ 33 (.load none T32),oK 34 (.call 28 [T33]),oM 35 (cI 0)] [4,34,35])
(.block 0
(.loop
(.seq
(.reg 5 [oQ 36 (.bin .lss T35 T34)] [4,34,35,36])
(.seq
(.cond T36
.skip
(.exit 0))
(.seq
(.block 1
(.seq
(.reg 6 [oM 37 T35,oM 5 T37] [4,5,34,35])
(.seq
(.reg 7 [oM 39 T4,oQ 40 (.aj3 T39),oQ 41 (.aa7 1 T40),oQ 42 (.load none T41),oM 43 T5,oK 44 (.call 19 [T42,T43]),oM 38 T44,oQ 45 (.ext 0 T38),oQ 46 (.ext 1 T38),oK 6 (.alloc [(.str []),(zI 0),(.str []),(.str []),(zU 0),(.str []),.aa1,.aa1,.aa1,.aa1,.aa1,.aa1,.aa1,.aa1,.aa1]),oN (.store 15 T6 T45),oM 7 T46] [4,6,7,34,35])
(.seq
(.seq
(.reg 8 [oM 47 T7,oQ 48 (.bin .neq T47 (cI 0))] [4,6,7,34,35,48])
(.cond T48
(.seq
(.reg 9 [oM 49 T7,oM 2 (.c .ab7),oM 3 T49] [2,3])
.ret)
.skip))
(.ak2 10 [oM 50 T4,oM 51 T4,oQ 52 (.aj3 T51),oQ 53 (.aa7 3 T52),oQ 54 (.load none T53),oQ 55 (.load (some 15) T6),oK 56 (.ax1 15 1 [(.str []),(zI 0),(.str []),(.str []),(zU 0),(.str []),.aa1,.aa1,.aa1,.aa1,.aa1,.aa1,.aa1,.aa1,.aa1] [⟨0,⟨15,T55⟩⟩]),oK 57 (.app 15 T54 T56),oQ 58 (.aj3 T50),oQ 59 (.aa7 3 T58),oN (.store 1 T59 T57)] true [4,34,35])))))
(.reg 11 [oQ 60 (.bin .add T35 (cI 1)),oM 35 T60] [4,34,35])))))))
(.seq
(.reg 12 [oM 62 T4,oQ 63 (.aj3 T62),oQ 64 (.aa7 1 T63),oQ 65 (.load none T64),oK 66 (.call 104 [T65]),oM 61 T66,oQ 67 (.ext 0 T61),oQ 68 (.ext 1 T61),oK 8 (.alloc [.ab7]),oN (.store 1 T8 T67),oM 9 T68] [4,8,9])
(.seq
(.seq
(.reg 13 [oM 69 T9,oQ 70 (.bin .neq T69 (cI 0))] [4,8,9,70])
(.cond T70
(.seq
(.reg 14 [oM 71 T9,oM 2 (.c .ab7),oM 3 T71] [2,3])
.ret)
.skip))
(.seq
(.reg 15 [oK 10 (.alloc [.aa1])] [4,8,10])
(.seq
(.reg 16 [oM 11 (.c .aa1)] [4,8,10,11])
(.seq
(.seq
(.ak2 17 [oM 72 T4,oQ 73 (.aj3 T72),oQ 74 (.aa7 3 T73),oQ 75 (.load none T74),oM 76 T4,oQ 77 (.aj3 T76),oQ 78 (.aa7 1 T77),oQ 79 (.load none T78),oK 80 (.ae6 99 [T79]),oQ 81 (.slc 15 T75 none (some T80)),oQ 82 (.len 0 T81),oM 83 (cI 0)] false [4,8,10,11,81,82,83])
(.block 2
(.loop
(.seq
(.reg 18 [oQ 84 (.bin .lss T83 T82)] [4,8,10,11,81,82,83,84])
(.seq
(.cond T84
.skip
(.exit 2))
(.seq
(.block 3
(.seq
(.reg 19 [oM 85 T83,oQ 86 (.ab3 15 T81 T83),oQ 87 (.load (some 15) T86),oK 13 (.alloc [(.str []),(zI 0),(.str []),(.str []),(zU 0),(.str []),.aa1,.aa1,.aa1,.aa1,.aa1,.aa1,.aa1,.aa1,.aa1]),oM 12 T85,oN (.store 15 T13 T87)] [4,8,10,11,12,13,81,82,83])
(.seq
(.reg 20 [oQ 88 (.load none T10),oM 89 T12,oK 90 (.ax1 1 1 [(zI 0)] [⟨0,⟨1,T89⟩⟩]),oK 91 (.app 1 T88 T90),oN (.store 1 T10 T91)] [4,8,10,11,13,81,82,83])
(.seq
(.reg 21 [oQ 92 (.aa7 12 T13),oQ 93 (.load none T92),oQ 94 (.len 0 T93),oM 95 (cI 0)] [4,8,10,11,81,82,83,93,94,95])
(.block 4
(.loop
(.seq
(.reg 22 [oQ 96 (.bin .lss T95 T94)] [4,8,10,11,81,82,83,93,94,95,96])
(.seq
(.cond T96
.skip
(.exit 4))
(.seq
(.block 5
(.seq
(.reg 23 [oQ 97 (.ab3 7 T93 T95),oQ 98 (.load (some 7) T97),oK 15 (.alloc [(zU 0),(.str []),(zU 0),(zI 0),(.str []),(.str []),.aa1]),oN (.store 7 T15 T98)] [4,8,10,11,15,81,82,83,93,94,95])
(.reg 24 [oM 99 T11,oQ 100 (.load (some 7) T15),oK 101 (.call 84 [T100]),oK 102 (.app 5 T99 T101),oM 11 T102] [4,8,10,11,81,82,83,93,94,95])))
(.reg 25 [oQ 103 (.bin .add T95 (cI 1)),oM 95 T103] [4,8,10,11,81,82,83,93,94,95]))))))))))
(.reg 26 [oQ 104 (.bin .add T83 (cI 1)),oM 83 T104] [4,8,10,11,81,82,83])))))))
(.seq
(.seq
(.reg 27 [oM 105 T4,oQ 106 (.aj3 T105),oQ 107 (.aa7 3 T106),oQ 108 (.load none T107),oQ 109 (.len 0 T108),oM 110 (cI 0)] [4,8,10,11,108,109,110])
(.block 6
(.loop
(.seq
(.reg 28 [oQ 111 (.bin .lss T110 T109)] [4,8,10,11,108,109,110,111])
(.seq
(.cond T111
.skip
(.exit 6))
(.seq
(.block 7
(.seq
(.reg 29 [oQ 112 (.ab3 15 T108 T110),oQ 113 (.load (some 15) T112),oK 17 (.alloc [(.str []),(zI 0),(.str []),(.str []),(zU 0),(.str []),.aa1,.aa1,.aa1,.aa1,.aa1,.aa1,.aa1,.aa1,.aa1]),oN (.store 15 T17 T113)] [4,8,10,11,17,108,109,110])
(.seq
(.reg 30 [oM 114 T11,oQ 115 (.mkf 105 [] [T17]),oK 116 (.call 83 [T114,T115]),oM 18 T116] [4,8,10,11,17,18,108,109,110])
(.seq
(.reg 31 [oQ 117 (.aa7 13 T17),oQ 118 (.load none T117),oQ 119 (.mkf 106 [] [T8,T10]),oK 120 (.call 81 [T118,T119]),oM 19 T120] [4,8,10,11,18,19,108,109,110])
(.reg 32 [oM 121 T4,oM 122 T4,oQ 123 (.aj3 T122),oQ 124 (.aa7 4 T123),oQ 125 (.load none T124),oM 126 T18,oM 127 T126,gQ 128 127 false (.mov T19),oQ 129 (.pick T127 (cB true) T128),oK 130 (.ax1 1 1 [(.bool false)] [⟨0,⟨1,T129⟩⟩]),oK 131 (.app 1 T125 T130),oQ 132 (.aj3 T121),oQ 133 (.aa7 4 T132),oN (.store 1 T133 T131)] [4,8,10,11,108,109,110])))))
(.reg 33 [oQ 134 (.bin .add T110 (cI 1)),oM 110 T134] [4,8,10,11,108,109,110])))))))
(.seq
(.reg 34 [oM 135 T4,oM 2 T135,oM 3 (cI 0)] [2,3])
.ret)))))))))))
theorem fok43:FOK Tryz.prog 43 (136,ic43,[(.t 2),(.t 3)]):=af2 ([1000056,1000090,1000130]++[99]) Tryz.func43 (by kernel_rfl) (by kernel_rfl) (by kernel_rfl) (by kernel_rfl)
def ic44:IC :=
(.seq
(.reg 0 [oM 4 (cB false)] [0,1])
(.seq
(.reg 1 [oM 5 T0,oM 6 T1,oK 7 (.call 108 [T5,T6]),oM 8 T7,gQ 9 8 true (.mov T1),gQ 10 8 true (.mov T0),gQ 11 8 true (.aj3 T10),gQ 12 8 true (.aa7 0 T11),gQ 13 8 true (.load none T12),gK 14 8 true (.call 99 [T13]),gQ 15 8 true (.bin .lss T9 T14),oQ 16 (.pick T8 T15 (cB false)),oM 4 T16] [4])
.ret))
theorem fok44:FOK Tryz.prog 44 (17,ic44,[(.t 4)]):=af2 [] Tryz.func44
def ic45:IC :=
(.seq
(.reg 0 [oM 6 (cB false)] [0,1,2])
(.seq
(.reg 1 [oM 7 T0,oQ 8 (.aj3 T7),oQ 9 (.aa7 2 T8),oQ 10 (.aa7 3 T9),oQ 11 (.load none T10),oM 12 T1,oM 13 T2,oQ 14 (.bld [(zU 0),(zI 0)] [⟨0,⟨1,T12⟩⟩,⟨1,⟨1,T13⟩⟩]),oK 15 (.call 109 [T11,T14]),oM 6 T15] [6])
.ret))
theorem fok45:FOK Tryz.prog 45 (16,ic45,[(.t 6)]):=af2 [] Tryz.func45
def ic46:IC :=
(.seq
(.reg 0 [oM 6 (cB false)] [0,1,2])
(.seq
(.seq
(.reg 1 [oM 9 T0,oQ 10 (.aj3 T9),oQ 11 (.aa7 2 T10),oQ 12 (.aa7 2 T11),oQ 13 (.load none T12),oQ 14 (.len 0 T13),oM 15 (cI 0)] [0,1,2,13,14,15])
(.block 0
(.loop
(.seq
(.reg 2 [oQ 16 (.bin .lss T15 T14)] [0,1,2,13,14,15,16])
(.seq
(.cond T16
.skip
(.exit 0))
(.seq
(.block 1
(.seq
(.reg 3 [oM 17 T15,oQ 18 (.ab3 6 T13 T15),oQ 19 (.load (some 6) T18),oK 8 (.alloc [(zU 0),(.str []),(zU 0),(zI 0),(.str []),(.str [])]),oM 7 T17,oN (.store 6 T8 T19)] [0,1,2,7,8,13,14,15])
(.seq
(.ak2 4 [oQ 20 (.aa7 0 T8),oQ 21 (.load none T20),oM 22 T1,oQ 23 (.bin .eql T21 T22),oM 24 T23,gQ 25 24 true (.mov T0),gQ 26 24 true (.mov T7),gK 27 24 true (.ae6 110 [T25,T26]),gQ 28 24 true (.not T27),oQ 29 (.pick T24 T28 (cB false)),oM 30 T29,gQ 31 30 true (.mov T0),gQ 32 30 true (.aj3 T31),gQ 33 30 true (.aa7 1 T32),gQ 34 30 true (.load none T33),gQ 35 30 true (.aa7 1 T8),gQ 36 30 true (.load (some 5) T35),gK 37 30 true (.ae6 112 [T34,T36]),gQ 38 30 true (.mov T2),gK 39 30 true (.ae6 111 [T37,T38]),oQ 40 (.pick T30 T39 (cB false))] false [0,1,2,13,14,15,40])
(.cond T40
(.seq
(.reg 5 [oM 6 (cB true)] [6])
.ret)
.skip))))
(.reg 6 [oQ 41 (.bin .add T15 (cI 1)),oM 15 T41] [0,1,2,13,14,15])))))))
(.seq
(.reg 7 [oM 6 (cB false)] [6])
.ret)))
theorem fok46:FOK Tryz.prog 46 (42,ic46,[(.t 6)]):=af2 ([]++[110,111,112]) Tryz.func46 (by kernel_rfl) (by kernel_rfl) (by kernel_rfl) (by kernel_rfl)
def ic47:IC :=
(.seq
(.reg 0 [oK 5 (.ai2 T0),oM 6 (cB false)] [1,2,3,4,5])
(.seq
(.reg 1 [oQ 7 (.aa7 0 T5),oQ 8 (.load none T7),oQ 9 (.aa7 0 T1),oQ 10 (.load none T9),oQ 11 (.bin .eql T8 T10),oM 12 T11,gQ 13 12 true (.load none T2),gQ 14 12 true (.mov T13),gQ 15 14 false (.aa7 1 T5),gQ 16 14 false (.load (some 3) T15),gQ 17 14 false (.aa7 1 T1),gQ 18 14 false (.load (some 3) T17),gK 19 14 false (.call 20 [T16,T18]),gQ 20 14 false (.bin .geq T19 (cI 0)),gQ 21 12 true (.pick T14 (cB true) T20),oQ 22 (.pick T12 T21 (cB false)),oM 23 T22,gQ 24 23 true (.load none T3),gQ 25 23 true (.mov T24),gQ 26 25 false (.aa7 4 T5),gQ 27 25 false (.load none T26),gQ 28 25 false (.aa7 4 T1),gQ 29 25 false (.load none T28),gK 30 25 false (.call 48 [T27,T29]),gQ 31 23 true (.pick T25 (cB true) T30),oQ 32 (.pick T23 T31 (cB false)),oM 33 T32,gQ 34 33 true (.load none T4),gQ 35 33 true (.aj3 T34),gQ 36 33 true (.aa7 2 T35),gQ 37 33 true (.aa7 1 T36),gQ 38 33 true (.load none T37),gQ 39 33 true (.mov T38),gQ 40 39 false (.aa7 5 T5),gQ 41 39 false (.load none T40),gQ 42 39 false (.aa7 5 T1),gQ 43 39 false (.load none T42),gQ 44 39 false (.bin .eql T41 T43),gQ 45 33 true (.pick T39 (cB true) T44),oQ 46 (.pick T33 T45 (cB false)),oM 6 T46] [6])
.ret))
theorem fok47:FOK Tryz.prog 47 (47,ic47,[(.t 6)]):=af2 [1000005] Tryz.func47
def ic48:IC :=
(.seq
(.reg 0 [oM 4 (cB false)] [0,1])
(.seq
(.reg 1 [oM 5 T0,oK 6 (.call 113 [T5]),oM 7 T6,gQ 8 7 true (.mov T1),gK 9 7 true (.call 113 [T8]),oQ 10 (.pick T7 T9 (cB false)),oM 11 T10,gQ 12 11 true (.mov T0),gQ 13 11 true (.mov T1),gK 14 11 true (.call 114 [T12,T13]),gQ 15 11 true (.not T14),oQ 16 (.pick T11 T15 (cB false)),oM 4 T16] [4])
.ret))
theorem fok48:FOK Tryz.prog 48 (17,ic48,[(.t 4)]):=af2 [] Tryz.func48
def ic49:IC :=
(.seq
(.reg 0 [oK 2 (.ai2 T0),oK 3 (.ai2 T1),oM 4 (.c .aa1)] [2,3])
(.seq
(.seq
(.reg 1 [oQ 5 (.load none T2),oQ 6 (.load none T3),oK 7 (.call 115 [T5,T6]),oQ 8 (.not T7)] [2,3,8])
(.cond T8
(.seq
(.reg 2 [oM 4 (.c .aa1)] [4])
.ret)
.skip))
(.seq
(.ak2 3 [oQ 9 (.load none T2),oQ 10 (.load none T2),oQ 11 (.aj3 T10),oQ 12 (.aa7 3 T11),oQ 13 (.load none T12),oQ 14 (.load none T2),oQ 15 (.aj3 T14),oQ 16 (.aa7 0 T15),oQ 17 (.load none T16),oQ 18 (.load none T3),oQ 19 (.ab3 15 T17 T18),oQ 20 (.aa7 0 T19),oQ 21 (.load none T20),oQ 22 (.lkp 2 .aa1 false T13 T21),oQ 23 (.mkf 117 [] [T3,T2]),oK 24 (.call 116 [T9,T22,T23]),oM 4 T24] false [4])
.ret)))
theorem fok49:FOK Tryz.prog 49 (25,ic49,[(.t 4)]):=af2 [1000002,1000003] Tryz.func49
def ic50:IC :=
(.seq
(.reg 0 [oM 3 T0,oQ 4 (.len 0 T3),oM 2 T4] [0,2])
(.reg 1 [oM 5 T0,oM 6 T2,oM 7 T2,oQ 8 (.conv .u64 T7),oK 9 (.call 72 [T8]),oK 10 (.call 119 [T5,(cI 0),T6,T9])] []))
theorem fok50:FOK Tryz.prog 50 (11,ic50,[]):=af2 [] Tryz.func50
def ic51:IC :=
(.seq
(.reg 0 [oM 2 (.c .aa1)] [0])
(.seq
(.seq
(.reg 1 [oM 6 T0,oQ 7 (.len 0 T6),oQ 8 (.bin .lss T7 (cI 2))] [0,8])
(.cond T8
(.seq
(.reg 2 [oM 9 T0,oM 2 T9] [2])
.ret)
.skip))
(.seq
(.seq
(.reg 3 [oM 3 (cI 1)] [0,3])
(.block 0
(.loop
(.seq
(.seq
(.reg 4 [oM 10 T3,oM 11 T0,oQ 12 (.len 0 T11),oQ 13 (.bin .lss T10 T12)] [0,3,13])
(.cond T13
.skip
(.exit 0)))
(.seq
(.block 1
(.seq
(.ak2 6 [oM 16 T0,oM 17 T3,oQ 18 (.ab3 1 T16 T17),oQ 19 (.load none T18),oM 20 T0,oM 21 T3,oQ 22 (.bin .sub T21 (cI 1)),oQ 23 (.ab3 1 T20 T22),oQ 24 (.load none T23),oQ 25 (.bin .eql T19 T24)] false [0,3,25])
(.cond T25
(.seq
(.reg 7 [oM 26 T0,oM 27 T3,oQ 28 (.slc 1 T26 (some T27) none),oM 4 T28] [0,3,4])
(.seq
(.seq
(.reg 8 [oM 5 (cI 1)] [0,3,4,5])
(.block 2
(.loop
(.seq
(.seq
(.reg 9 [oM 29 T5,oM 30 T4,oQ 31 (.len 0 T30),oQ 32 (.bin .lss T29 T31)] [0,3,4,5,32])
(.cond T32
.skip
(.exit 2)))
(.seq
(.block 3
(.seq
(.ak2 11 [oM 35 T4,oM 36 T5,oQ 37 (.ab3 1 T35 T36),oQ 38 (.load none T37),oM 39 T4,oM 40 T5,oQ 41 (.bin .sub T40 (cI 1)),oQ 42 (.ab3 1 T39 T41),oQ 43 (.load none T42),oQ 44 (.bin .neq T38 T43)] false [0,3,4,5,44])
(.cond T44
(.seq
(.reg 12 [oM 45 T0,oM 46 T3,oM 47 T4,oM 48 T5,oQ 49 (.ab3 1 T47 T48),oQ 50 (.load none T49),oQ 51 (.ab3 1 T45 T46),oN (.store 1 T51 T50)] [0,3,4,5])
(.reg 13 [oM 52 T3,oQ 53 (.bin .add T52 (cI 1)),oM 3 T53] [0,3,4,5]))
.skip)))
(.reg 10 [oM 33 T5,oQ 34 (.bin .add T33 (cI 1)),oM 5 T34] [0,3,4,5]))))))
(.seq
(.reg 14 [oM 54 T0,oM 55 T3,oQ 56 (.slc 1 T54 (some T55) none),oN (.clr 1 [(zI 0)] T56)] [0,3])
(.seq
(.reg 15 [oM 57 T0,oM 58 T3,oQ 59 (.slc 1 T57 none (some T58)),oM 2 T59] [2])
.ret))))
.skip)))
(.reg 5 [oM 14 T3,oQ 15 (.bin .add T14 (cI 1)),oM 3 T15] [0,3]))))))
(.seq
(.reg 16 [oM 60 T0,oM 2 T60] [2])
.ret))))
theorem fok51:FOK Tryz.prog 51 (61,ic51,[(.t 2)]):=af2 [] Tryz.func51
def ic52:IC :=
(.seq
(.reg 0 [oK 3 (.ai2 T0),oK 5 (.ai2 T2),oM 6 (.c .aa1)] [1,3,5])
(.seq
(.seq
(.reg 1 [oQ 8 (.load none T3),oM 9 T1,oK 10 (.call 64 [T8,T9]),oQ 11 (.not T10)] [1,3,5,11])
(.cond T11
(.seq
(.reg 2 [oM 6 (.c .aa1)] [6])
.ret)
.skip))
(.seq
(.reg 3 [oQ 12 (.load none T3),oQ 13 (.aj3 T12),oQ 14 (.aa7 0 T13),oQ 15 (.load none T14),oM 16 T1,oK 17 (.call 15 [T15,T16]),oM 7 T17] [3,5,7])
(.seq
(.reg 4 [oM 18 T7,oQ 19 (.mkf 120 [] [T5,T3]),oK 20 (.call 31 [T18,T19])] [7])
(.seq
(.reg 5 [oM 21 T7,oM 6 T21] [6])
.ret)))))
theorem fok52:FOK Tryz.prog 52 (22,ic52,[(.t 6)]):=af2 [1000003,1000005] Tryz.func52
def ic53:IC :=
(.seq
(.reg 0 [oM 5 (cI 0)] [0,1,2])
(.seq
(.ak2 1 [oM 6 T0,oQ 7 (.load none T2),oQ 8 (.bin .eql T6 T7),oK 9 (.ae6 54 [T8]),oM 10 T1,oQ 11 (.load none T2),oQ 12 (.bin .eql T10 T11),oK 13 (.ae6 54 [T12]),oK 14 (.ae6 32 [T9,T13]),oM 5 T14] false [5])
.ret))
theorem fok53:FOK Tryz.prog 53 (15,ic53,[(.t 5)]):=af2 ([]++[32,54]) Tryz.func53 (by kernel_rfl) (by kernel_rfl) (by kernel_rfl) (by kernel_rfl)
def ic54:IC :=
(.seq
(.reg 0 [oM 2 (cI 0)] [0])
(.seq
(.seq
(.reg 1 [oM 3 T0] [3])
(.cond T3
(.seq
(.reg 2 [oM 2 (cI 0)] [2])
.ret)
.skip))
(.seq
(.reg 3 [oM 2 (cI 1)] [2])
.ret)))
theorem fok54:FOK Tryz.prog 54 (4,ic54,[(.t 2)]):=af2 [] Tryz.func54
def ic55:IC :=
(.seq
(.reg 0 [oK 2 (.ai2 T0),oK 3 (.ai2 T1),oM 4 (.c .ac6)] [2,3])
(.seq
(.reg 1 [oQ 5 (.mkf 121 [] [T2,T3]),oM 4 T5] [4])
.ret))
theorem fok55:FOK Tryz.prog 55 (6,ic55,[(.t 4)]):=af2 [1000002,1000003] Tryz.func55
def ic56:IC :=
(.seq
(.reg 0 [oM 5 (cI 0)] [0,1,2])
(.seq
(.ak2 1 [oQ 6 (.load none T2),oQ 7 (.aj3 T6),oQ 8 (.aa7 1 T7),oQ 9 (.load none T8),oM 10 T0,oK 11 (.ae6 21 [T9,T10]),oQ 12 (.bin .geq T11 (cI 0)),oK 13 (.ae6 54 [T12]),oQ 14 (.load none T2),oQ 15 (.aj3 T14),oQ 16 (.aa7 1 T15),oQ 17 (.load none T16),oM 18 T1,oK 19 (.ae6 21 [T17,T18]),oQ 20 (.bin .geq T19 (cI 0)),oK 21 (.ae6 54 [T20]),oK 22 (.ae6 32 [T13,T21]),oM 5 T22] false [5])
.ret))
theorem fok56:FOK Tryz.prog 56 (23,ic56,[(.t 5)]):=af2 ([]++[21,32,54]) Tryz.func56 (by kernel_rfl) (by kernel_rfl) (by kernel_rfl) (by kernel_rfl)
def ic57:IC :=
(.seq
(.reg 0 [oM 4 (.c (.bool false))] [0,1])
(.seq
(.reg 1 [oM 5 T1,oQ 6 (.bin .geq T5 (.c (.int .i64 0))),oM 7 T6,⟨(some 8),(some ⟨7,true⟩),(.q (.mov T1))⟩,⟨(some 9),(some ⟨7,true⟩),(.q (.mov T0))⟩,⟨(some 10),(some ⟨7,true⟩),(.q (.len 0 T9))⟩,⟨(some 11),(some ⟨7,true⟩),(.q (.bin .lss T8 T10))⟩,oQ 12 (.pick T7 T11 (.c (.bool false))),oM 4 T12] [4])
.ret))
theorem fok57:FOK Tryz.prog 57 (13,ic57,[(.t 4)]):=.mk (pf:=[]) (an:=[(0,[0,1]),(1,[4])]) (by kernel_rfl) (ac4 Tryz.func57 (by kernel_rfl) (by kernel_rfl) (by kernel_rfl))
def ic58:IC :=
(.seq
(.reg 0 [oK 1 (.box T0),oK 2 (.alloc [(.str []),(.int .i64 0),(.str []),(.str []),(.int .u8 0),(.str []),.aa1,.aa1,.aa1,.aa1,.aa1,.aa1,.aa1,.aa1,.aa1])] [1,2])
(.seq
(.ak2 1 [oQ 7 (.aa7 6 T1),oQ 8 (.load none T7),oK 9 (.ae6 125 [T8]),oQ 10 (.aa7 9 T1),oQ 11 (.load none T10),oK 12 (.ae6 125 [T11]),oQ 13 (.aa7 14 T1),oQ 14 (.load none T13),oK 15 (.ae6 126 [T14]),oQ 16 (.aa7 6 T1),oN (.store 1 T16 T9),oQ 17 (.aa7 9 T1),oN (.store 1 T17 T12),oQ 18 (.aa7 14 T1),oN (.store 1 T18 T15)] false [1,2])
(.seq
(.seq
(.reg 2 [oQ 19 (.aa7 7 T1),oQ 20 (.aa7 8 T1),oQ 21 (.aa7 10 T1),oQ 22 (.aa7 11 T1),oQ 23 (.aa7 12 T1),oQ 24 (.aa7 13 T1),oK 25 (.ax1 1 6 [.ab7] [⟨0,⟨1,T19⟩⟩,⟨1,⟨1,T20⟩⟩,⟨2,⟨1,T21⟩⟩,⟨3,⟨1,T22⟩⟩,⟨4,⟨1,T23⟩⟩,⟨5,⟨1,T24⟩⟩]),oQ 26 (.len 0 T25),oM 27 (.c (.int .i64 0))] [1,2,25,26,27])
(.block 0
(.loop
(.seq
(.reg 3 [oQ 28 (.bin .lss T27 T26)] [1,2,25,26,27,28])
(.seq
(.cond T28
.skip
(.exit 0))
(.seq
(.block 1
(.seq
(.reg 4 [oQ 29 (.ab3 1 T25 T27),oQ 30 (.load none T29),oM 4 T30] [1,2,4,25,26,27])
(.seq
(.reg 5 [oM 31 T4,oM 32 T4,oQ 33 (.aj3 T32),oQ 34 (.load none T33),oK 35 (.call 127 [T34]),oQ 36 (.aj3 T31),oN (.store 1 T36 T35)] [1,2,4,25,26,27])
(.seq
(.reg 6 [oM 37 T4,oQ 38 (.aj3 T37),oQ 39 (.load none T38),oQ 40 (.len 0 T39),oM 41 (.c (.int .i64 0))] [1,2,4,25,26,27,39,40,41])
(.block 2
(.loop
(.seq
(.reg 7 [oQ 42 (.bin .lss T41 T40)] [1,2,4,25,26,27,39,40,41,42])
(.seq
(.cond T42
.skip
(.exit 2))
(.seq
(.block 3
(.seq
(.reg 8 [oM 43 T41,oQ 44 (.ab3 7 T39 T41),oQ 45 (.load (some 7) T44),oK 6 (.alloc [(.int .u8 0),(.str []),(.int .u8 0),(.int .i64 0),(.str []),(.str []),.aa1]),oM 5 T43,oN (.store 7 T6 T45)] [1,2,4,5,6,25,26,27,39,40,41])
(.ak2 9 [oM 46 T4,oQ 47 (.aj3 T46),oQ 48 (.load none T47),oM 49 T5,oQ 50 (.load (some 7) T6),oK 51 (.ae6 128 [T50]),oQ 52 (.ab3 7 T48 T49),oN (.store 7 T52 T51)] false [1,2,4,25,26,27,39,40,41])))
(.reg 10 [oQ 53 (.bin .add T41 (.c (.int .i64 1))),oM 41 T53] [1,2,4,25,26,27,39,40,41]))))))))))
(.reg 11 [oQ 54 (.bin .add T27 (.c (.int .i64 1))),oM 27 T54] [1,2,25,26,27])))))))
(.seq
(.reg 12 [oQ 55 (.load (some 15) T1),oN (.store 15 T2 T55)] [2])
.ret))))
theorem fok58:FOK Tryz.prog 58 (56,ic58,[(.cell (some 15) 2)]):=.mk (pf:=([1000025]++List.filter (fun k=>k != 127) ij7)) (an:=[(0,[1,2]),(1,[1,2]),(2,[1,2,25,26,27]),(3,[1,2,25,26,27,28]),(4,[1,2,4,25,26,27]),(5,[1,2,4,25,26,27]),(6,[1,2,4,25,26,27,39,40,41]),(7,[1,2,4,25,26,27,39,40,41,42]),(8,[1,2,4,5,6,25,26,27,39,40,41]),(9,[1,2,4,25,26,27,39,40,41]),(10,[1,2,4,25,26,27,39,40,41]),(11,[1,2,25,26,27]),(12,[2])]) (by kernel_rfl) (ac4 Tryz.func58 (by kernel_rfl) (by kernel_rfl) (by kernel_rfl))
def ic59:IC :=
(.seq
(.reg 0 [oM 2 (cI 0)] [0])
(.seq
(.seq
(.reg 1 [oM 6 T0,oQ 7 (.len 0 T6),oM 8 (cI 0)] [6,7,8])
(.block 0
(.loop
(.seq
(.reg 2 [oQ 9 (.bin .lss T8 T7)] [6,7,8,9])
(.seq
(.cond T9
.skip
(.exit 0))
(.seq
(.block 1
(.seq
(.reg 3 [oQ 10 (.ab3 1 T6 T8),oQ 11 (.load none T10),oM 4 T11] [4,6,7,8])
(.seq
(.reg 4 [oM 12 T4,oK 13 (.aj1 T12 []),oM 5 T13] [5,6,7,8])
(.seq
(.reg 5 [oM 14 T5,oQ 15 (.bin .neq T14 (cI 0))] [5,6,7,8,15])
(.cond T15
(.seq
(.reg 6 [oM 16 T5,oM 2 T16] [2])
.ret)
.skip)))))
(.reg 7 [oQ 17 (.bin .add T8 (cI 1)),oM 8 T17] [6,7,8])))))))
(.seq
(.reg 8 [oM 2 (cI 0)] [2])
.ret)))
theorem fok59:FOK Tryz.prog 59 (18,ic59,[(.t 2)]):=af2 [] Tryz.func59
def ic60:IC :=
(.seq
(.reg 0 [oM 2 (cI 0)] [0,1])
(.seq
(.reg 1 [oQ 3 (.aa7 0 T0),oQ 4 (.load none T3),oQ 5 (.aa7 0 T1),oQ 6 (.load none T5),oK 7 (.call 32 [T4,T6]),oM 2 T7] [2])
.ret))
theorem fok60:FOK Tryz.prog 60 (8,ic60,[(.t 2)]):=af2 [] Tryz.func60
def ic61:IC :=
(.seq
(.reg 0 [oM 2 (cI 0)] [0,1])
(.seq
(.reg 1 [oQ 3 (.aa7 1 T0),oQ 4 (.load none T3),oQ 5 (.aa7 1 T1),oQ 6 (.load none T5),oK 7 (.call 62 [T4,T6]),oM 2 T7] [2])
.ret))
theorem fok61:FOK Tryz.prog 61 (8,ic61,[(.t 2)]):=af2 [] Tryz.func61
def ic62:IC :=
(.seq
(.reg 0 [oM 4 (cI 0)] [0,1])
(.seq
(.reg 1 [oM 9 T0,oK 10 (.call 129 [T9]),oQ 11 (.bld [(zU 0),(.str [])] [⟨0,⟨1,(.c (zU 2))⟩⟩]),oK 12 (.ax1 2 1 [(zU 0),(.str [])] [⟨0,⟨2,T11⟩⟩]),oK 13 (.app 2 T10 T12),oM 14 T1,oK 15 (.call 129 [T14]),oQ 16 (.bld [(zU 0),(.str [])] [⟨0,⟨1,(.c (zU 2))⟩⟩]),oK 17 (.ax1 2 1 [(zU 0),(.str [])] [⟨0,⟨2,T16⟩⟩]),oK 18 (.app 2 T15 T17),oM 5 T13,oM 6 T18] [5,6])
(.seq
(.seq
(.reg 2 [oM 19 T5,oQ 20 (.len 0 T19),oM 21 T6,oQ 22 (.len 0 T21),oQ 23 (.mm false T20 T22),oM 24 (cI 0)] [5,6,23,24])
(.block 0
(.loop
(.seq
(.reg 3 [oQ 25 (.bin .lss T24 T23)] [5,6,23,24,25])
(.seq
(.cond T25
.skip
(.exit 0))
(.seq
(.block 1
(.seq
(.reg 4 [oM 26 T24,oM 7 T26] [5,6,7,23,24])
(.seq
(.ak2 5 [oM 27 T5,oM 28 T7,oQ 29 (.ab3 2 T27 T28),oQ 30 (.load (some 2) T29),oM 31 T6,oM 32 T7,oQ 33 (.ab3 2 T31 T32),oQ 34 (.load (some 2) T33),oK 35 (.call 130 [T30,T34]),oM 8 T35] false [5,6,8,23,24])
(.seq
(.reg 6 [oM 36 T8,oQ 37 (.bin .neq T36 (cI 0))] [5,6,8,23,24,37])
(.cond T37
(.seq
(.reg 7 [oM 38 T8,oM 4 T38] [4])
.ret)
.skip)))))
(.reg 8 [oQ 39 (.bin .add T24 (cI 1)),oM 24 T39] [5,6,23,24])))))))
(.seq
(.reg 9 [oM 4 (cI 0)] [4])
.ret))))
theorem fok62:FOK Tryz.prog 62 (40,ic62,[(.t 4)]):=af2 [1000012,1000017] Tryz.func62
def ic63:IC :=
(.seq
(.reg 0 [oM 2 (cI 0)] [0,1])
(.seq
(.seq
(.reg 1 [oQ 3 (.aa7 2 T0),oQ 4 (.load none T3),oQ 5 (.bin .eql T4 (.c (.str []))),oM 6 T5,gQ 7 6 false (.aa7 2 T1),gQ 8 6 false (.load none T7),gQ 9 6 false (.bin .eql T8 (.c (.str []))),oQ 10 (.pick T6 (cB true) T9)] [0,1,10])
(.cond T10
(.seq
(.reg 2 [oM 2 (cI 0)] [2])
.ret)
.skip))
(.seq
(.reg 3 [oQ 11 (.aa7 2 T0),oQ 12 (.load none T11),oQ 13 (.aa7 2 T1),oQ 14 (.load none T13),oK 15 (.call 62 [T12,T14]),oM 2 T15] [2])
.ret)))
theorem fok63:FOK Tryz.prog 63 (16,ic63,[(.t 2)]):=af2 [] Tryz.func63
end Go.Id.Tryz
