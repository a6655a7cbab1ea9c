/- The compiled codes of functions,written by a program out of the given form. Conditions: none. -/
import Derived.Test.YtjpdjifjokldlaaGreatDoorFwZb
import Derived.Test.YtjpdjifjokldlaaGreatDoorProg
set_option linter.all false
namespace Go.Id.Tryz
open Go Go.Id Go.Proofs
def hi6:List Nat:=List.range 192
def ic3:IC :=
(.seq
(.reg 0 [oM 10 (cB false)] [0,1,2,3,4])
(.seq
(.seq
(.reg 1 [oM 19 T0,oM 20 T1,oK 21 (.call 4 [T19,T20]),oM 22 T21,gQ 23 22 false (.mov T4),gQ 24 22 false (.len 1 T23),gQ 25 22 false (.bin .gtr T24 (cI 1000)),oQ 26 (.pick T22 (cB true) T25)] [0,1,2,3,4,26])
(.cond T26
(.seq
(.reg 2 [oK 27 (.call 5 []),oM 10 T27] [10])
.ret)
.skip))
(.seq
(.reg 3 [oM 29 T0,oM 30 T1,oK 31 (.call 6 [T29,T30]),oM 28 T31,oQ 32 (.ext 0 T28),oQ 33 (.ext 1 T28),oM 11 T32,oM 12 T33] [0,1,2,3,4,11,12])
(.seq
(.reg 4 [oM 35 T0,oM 36 T1,oK 37 (.call 7 [T35,T36]),oM 34 T37,oQ 38 (.ext 0 T34),oQ 39 (.ext 1 T34),oM 13 T38,oM 14 T39] [2,3,4,11,12,13,14])
(.seq
(.seq
(.reg 5 [oM 40 T12,oM 41 T14,oQ 42 (.bin .neq T40 T41),oM 43 T42,gQ 44 43 false (.mov T11),gQ 45 43 false (.bc9 (.pointer 63) false T44),gQ 46 43 false (.mov T12),gQ 47 43 false (.bin .neq T46 (cI 0)),gQ 48 43 false (.eqs [0] false true T45 T47),oQ 49 (.pick T43 (cB true) T48)] [2,3,4,11,12,13,49])
(.cond T49
(.seq
(.reg 6 [oM 10 (cB false)] [10])
.ret)
.skip))
(.seq
(.seq
(.reg 7 [oM 50 T12,oQ 51 (.bin .neq T50 (cI 0))] [2,3,4,11,13,51])
(.cond T51
(.seq
(.reg 8 [oK 52 (.call 5 []),oM 10 T52] [10])
.ret)
.skip))
(.seq
(.seq
(.dreg 9 [oM 53 T11,oK 54 (.ae7 8 [T53]),oM 55 T13,oQ 56 (.am7 T55),oQ 57 (.aa7 0 T56),oQ 58 (.load none T57),oQ 59 (.len 0 T58),oQ 60 (.bin .neq T54 T59),oM 61 T60,gQ 62 61 false (.mov T11),gK 63 61 false (.ae7 9 [T62]),gQ 64 61 false (.mov T13),gQ 65 61 false (.am7 T64),gQ 66 61 false (.aa7 1 T65),gQ 67 61 false (.load none T66),gQ 68 61 false (.bin .neq T63 T67),oQ 69 (.pick T61 (cB true) T68),oM 70 T69,gQ 71 70 false (.mov T11),gQ 72 70 false (.mov T4),gK 73 70 false (.ae7 11 [T71,T72]),gQ 74 70 false (.mov T13),gQ 75 70 false (.mov T4),gK 76 70 false (.ae7 12 [T74,T75]),gK 77 70 false (.ae7 10 [T73,T76]),gQ 78 70 false (.not T77),oQ 79 (.pick T70 (cB true) T78),oM 80 T79,gQ 81 80 false (.mov T11),gK 82 80 false (.ae7 14 [T81]),gQ 83 80 false (.mov T13),gK 84 80 false (.ae7 15 [T83]),gK 85 80 false (.ae7 13 [T82,T84]),gQ 86 80 false (.not T85),oQ 87 (.pick T80 (cB true) T86),oM 88 T87,gQ 89 88 false (.mov T11),gQ 90 88 false (.mov T2),gQ 91 88 false (.mov T3),gK 92 88 false (.ae7 16 [T89,T90,T91]),gQ 93 88 false (.mov T13),gQ 94 88 false (.mov T2),gQ 95 88 false (.mov T3),gK 96 88 false (.ae7 17 [T93,T94,T95]),gQ 97 88 false (.eqs [0] false true T92 T96),oQ 98 (.pick T88 (cB true) T97)] false [2,3,11,13,98])
(.cond T98
(.seq
(.reg 10 [oM 10 (cB false)] [10])
.ret)
.skip))
(.seq
(.seq
(.reg 11 [oM 15 (cI (-1))] [2,3,11,13,15])
(.block 0
(.loop
(.seq
(.seq
(.reg 12 [oM 99 T15,oM 100 T13,oQ 101 (.am7 T100),oQ 102 (.aa7 0 T101),oQ 103 (.load none T102),oQ 104 (.len 0 T103),oQ 105 (.bin .leq T99 T104)] [2,3,11,13,15,105])
(.cond T105
.skip
(.exit 0)))
(.seq
(.block 1
(.seq
(.reg 14 [oM 109 T11,oM 110 T15,oK 111 (.call 18 [T109,T110]),oM 108 T111,oQ 112 (.ext 0 T108),oQ 113 (.ext 1 T108),oK 16 (.alloc [(.str []),(zI 0),(.str []),(.str []),(zU 0),(.str []),.aa1,.aa1,.aa1,.aa1,.aa1,.aa1,.aa1,.aa1,.aa1]),oN (.store 15 T16 T112),oM 17 T113] [2,3,11,13,15,16,17])
(.seq
(.seq
(.reg 15 [oM 114 T13,oM 115 T15,oK 116 (.call 19 [T114,T115]),oQ 117 (.not T116)] [2,3,11,13,15,16,17,117])
(.cond T117
(.seq
(.seq
(.reg 16 [oM 118 T17,oQ 119 (.bin .neq T118 (cI 5)),oM 120 T119,gQ 121 120 false (.load (some 15) T16),gQ 122 120 false (.bld [(.str []),(zI 0),(.str []),(.str []),(zU 0),(.str []),.aa1,.aa1,.aa1,.aa1,.aa1,.aa1,.aa1,.aa1,.aa1] []),gK 123 120 false (.ae7 20 [T121,T122]),gQ 124 120 false (.not T123),oQ 125 (.pick T120 (cB true) T124),oM 126 T125,gQ 127 126 false (.mov T11),gQ 128 126 false (.mov T15),gK 129 126 false (.ae7 21 [T127,T128]),gQ 130 126 false (.bin .neq T129 (cI (-1))),oQ 131 (.pick T126 (cB true) T130),oM 132 T131,gQ 133 132 false (.mov T11),gQ 134 132 false (.mov T15),gK 135 132 false (.ae7 22 [T133,T134]),gQ 136 132 false (.bin .neq T135 (cI 0)),oQ 137 (.pick T132 (cB true) T136)] [2,3,11,13,15,137])
(.cond T137
(.seq
(.reg 17 [oM 10 (cB false)] [10])
.ret)
.skip))
(.exit 1))
.skip))
(.seq
(.dreg 18 [oM 138 T17,oQ 139 (.bin .neq T138 (cI 0)),oM 140 T139,gQ 141 140 false (.load (some 15) T16),gQ 142 140 false (.mov T13),gQ 143 140 false (.am7 T142),gQ 144 140 false (.aa7 0 T143),gQ 145 140 false (.load none T144),gQ 146 140 false (.mov T15),gQ 147 140 false (.ab5 15 T145 T146),gQ 148 140 false (.load (some 15) T147),gK 149 140 false (.ae7 20 [T141,T148]),gQ 150 140 false (.not T149),oQ 151 (.pick T140 (cB true) T150),oM 152 T151,gQ 153 152 false (.mov T11),gQ 154 152 false (.mov T15),gK 155 152 false (.ae7 21 [T153,T154]),gQ 156 152 false (.mov T13),gQ 157 152 false (.am7 T156),gQ 158 152 false (.aa7 2 T157),gQ 159 152 false (.load none T158),gQ 160 152 false (.mov T15),gQ 161 152 false (.ab5 1 T159 T160),gQ 162 152 false (.load none T161),gQ 163 152 false (.bin .neq T155 T162),oQ 164 (.pick T152 (cB true) T163),oM 165 T164,gQ 166 165 false (.mov T11),gQ 167 165 false (.mov T15),gK 168 165 false (.ae7 22 [T166,T167]),gQ 169 165 false (.mov T13),gQ 170 165 false (.am7 T169),gQ 171 165 false (.aa7 3 T170),gQ 172 165 false (.load none T171),gQ 173 165 false (.mov T15),gQ 174 165 false (.ab5 1 T172 T173),gQ 175 165 false (.load none T174),gQ 176 165 false (.bin .neq T168 T175),oQ 177 (.pick T165 (cB true) T176),oM 178 T177,gQ 179 178 false (.mov T11),gQ 180 178 false (.mov T15),gQ 181 178 false (.mov T3),gK 182 178 false (.ae7 16 [T179,T180,T181]),gQ 183 178 false (.mov T13),gQ 184 178 false (.mov T15),gQ 185 178 false (.mov T3),gK 186 178 false (.ae7 17 [T183,T184,T185]),gQ 187 178 false (.eqs [0] false true T182 T186),oQ 188 (.pick T178 (cB true) T187)] false [2,3,11,13,15,188])
(.cond T188
(.seq
(.reg 19 [oM 10 (cB false)] [10])
.ret)
.skip)))))
(.reg 13 [oM 106 T15,oQ 107 (.bin .add T106 (cI 1)),oM 15 T107] [2,3,11,13,15]))))))
(.seq
(.reg 20 [oM 190 T11,oM 191 T2,oK 192 (.call 18 [T190,T191]),oM 189 T192,oQ 193 (.ext 0 T189),oQ 194 (.ext 1 T189),oK 18 (.alloc [(.str []),(zI 0),(.str []),(.str []),(zU 0),(.str []),.aa1,.aa1,.aa1,.aa1,.aa1,.aa1,.aa1,.aa1,.aa1]),oN (.store 15 T18 T193),oM 12 T194] [2,12,13,18])
(.seq
(.reg 21 [oM 195 T12,oQ 196 (.bin .eql T195 (cI 0)),oM 197 T13,oM 198 T2,oK 199 (.call 19 [T197,T198]),oQ 200 (.eqs [0] false false T196 T199),oM 201 T200,gQ 202 201 true (.mov T12),gQ 203 201 true (.bin .eql T202 (cI 0)),gQ 204 201 true (.mov T203),gQ 205 204 false (.load (some 15) T18),gQ 206 204 false (.bld [(.str []),(zI 0),(.str []),(.str []),(zU 0),(.str []),.aa1,.aa1,.aa1,.aa1,.aa1,.aa1,.aa1,.aa1,.aa1] []),gK 207 204 false (.ae7 20 [T205,T206]),gQ 208 201 true (.pick T204 (cB true) T207),oQ 209 (.pick T201 T208 (cB false)),oM 210 T209,gK 211 210 true (.call 5 []),oQ 212 (.pick T210 T211 (cB false)),oM 10 T212] [10])
.ret))))))))))
theorem fok3:FOK Tryz.prog 3 (213,ic3,[(.t 10)]):=ai1 ([]++[8,9,10,11,12,13,14,15,16,17,20,21,22]) Tryz.func3 (by kernel_rfl) (by kernel_rfl) (by kernel_rfl) (by kernel_rfl)
def ic4:IC :=
(.seq
(.reg 0 [oM 4 (cB false)] [0,1])
(.seq
(.seq
(.reg 1 [oM 9 T0,oQ 10 (.len 0 T9),oQ 11 (.bin .gtr T10 (cI 30)),oM 12 T11,gQ 13 12 false (.mov T1),gQ 14 12 false (.len 0 T13),gQ 15 12 false (.bin .gtr T14 (cI 40)),oQ 16 (.pick T12 (cB true) T15)] [0,1,16])
(.cond T16
(.seq
(.reg 2 [oM 4 (cB true)] [4])
.ret)
.skip))
(.seq
(.reg 3 [oM 17 T1,oQ 18 (.len 0 T17),oM 5 T18] [0,1,5])
(.seq
(.seq
(.reg 4 [oM 6 (cI 0)] [0,1,5,6])
(.block 0
(.loop
(.seq
(.seq
(.reg 5 [oM 19 T6,oM 20 T1,oQ 21 (.len 0 T20),oQ 22 (.bin .lss T19 T21)] [0,1,5,6,22])
(.cond T22
.skip
(.exit 0)))
(.seq
(.block 1
(.seq
(.reg 7 [oM 25 T1,oM 26 T6,oQ 27 (.ab5 15 T25 T26),oQ 28 (.load (some 15) T27),oK 29 (.call 23 [T28])] [0,1,5,6,29])
(.cond T29
(.seq
(.reg 8 [oM 4 (cB true)] [4])
.ret)
.skip)))
(.reg 6 [oM 23 T6,oQ 24 (.bin .add T23 (cI 1)),oM 6 T24] [0,1,5,6]))))))
(.seq
(.seq
(.reg 9 [oM 7 (cI 0)] [0,5,7])
(.block 2
(.loop
(.seq
(.seq
(.reg 10 [oM 30 T7,oM 31 T0,oQ 32 (.len 0 T31),oQ 33 (.bin .lss T30 T32)] [0,5,7,33])
(.cond T33
.skip
(.exit 2)))
(.seq
(.block 3
(.seq
(.reg 12 [oM 36 T5,oM 37 T0,oM 38 T7,oQ 39 (.ab5 2 T37 T38),oQ 40 (.aa7 1 T39),oQ 41 (.load none T40),oQ 42 (.len 0 T41),oQ 43 (.bin .add T36 T42),oM 5 T43] [0,5,7])
(.seq
(.seq
(.reg 13 [oM 44 T5,oQ 45 (.bin .gtr T44 (cI 80))] [0,5,7,45])
(.cond T45
(.seq
(.reg 14 [oM 4 (cB true)] [4])
.ret)
.skip))
(.seq
(.reg 15 [oM 8 (cI 0)] [0,5,7,8])
(.block 4
(.loop
(.seq
(.seq
(.reg 16 [oM 46 T8,oM 47 T0,oM 48 T7,oQ 49 (.ab5 2 T47 T48),oQ 50 (.aa7 1 T49),oQ 51 (.load none T50),oQ 52 (.len 0 T51),oQ 53 (.bin .lss T46 T52)] [0,5,7,8,53])
(.cond T53
.skip
(.exit 4)))
(.seq
(.block 5
(.seq
(.reg 18 [oM 56 T0,oM 57 T7,oQ 58 (.ab5 2 T56 T57),oQ 59 (.aa7 1 T58),oQ 60 (.load none T59),oM 61 T8,oQ 62 (.ab5 15 T60 T61),oQ 63 (.load (some 15) T62),oK 64 (.call 23 [T63])] [0,5,7,8,64])
(.cond T64
(.seq
(.reg 19 [oM 4 (cB true)] [4])
.ret)
.skip)))
(.reg 17 [oM 54 T8,oQ 55 (.bin .add T54 (cI 1)),oM 8 T55] [0,5,7,8])))))))))
(.reg 11 [oM 34 T7,oQ 35 (.bin .add T34 (cI 1)),oM 7 T35] [0,5,7]))))))
(.seq
(.reg 20 [oM 4 (cB false)] [4])
.ret))))))
theorem fok4:FOK Tryz.prog 4 (65,ic4,[(.t 4)]):=ai1 [] Tryz.func4
def ic5:IC :=
(.seq
(.reg 0 [oM 0 (cB false)] [])
(.seq
(.reg 1 [oK 6 (.call 24 [(.c (.str [98]))]),oK 7 (.call 24 [(.c (.str [99]))]),oK 8 (.as5 15 2 [(.str []),(zI 0),(.str []),(.str []),(zU 0),(.str []),.aa1,.aa1,.aa1,.aa1,.aa1,.aa1,.aa1,.aa1,.aa1] [⟨0,⟨15,T6⟩⟩,⟨15,⟨15,T7⟩⟩]),oQ 9 (.bld [(zI 0),.aa1] [⟨0,⟨1,(cI 5)⟩⟩,⟨1,⟨1,T8⟩⟩]),oK 10 (.call 24 [(.c (.str [97]))]),oK 11 (.as5 15 1 [(.str []),(zI 0),(.str []),(.str []),(zU 0),(.str []),.aa1,.aa1,.aa1,.aa1,.aa1,.aa1,.aa1,.aa1,.aa1] [⟨0,⟨15,T10⟩⟩]),oQ 12 (.bld [(zI 0),.aa1] [⟨0,⟨1,(cI 7)⟩⟩,⟨1,⟨1,T11⟩⟩]),oK 13 (.as5 2 2 [(zI 0),.aa1] [⟨0,⟨2,T9⟩⟩,⟨2,⟨2,T12⟩⟩]),oK 14 (.call 24 [(.c (.str [97]))]),oK 15 (.as5 15 1 [(.str []),(zI 0),(.str []),(.str []),(zU 0),(.str []),.aa1,.aa1,.aa1,.aa1,.aa1,.aa1,.aa1,.aa1,.aa1] [⟨0,⟨15,T14⟩⟩]),oK 16 (.call 6 [T13,T15]),oM 5 T16,oQ 17 (.ext 0 T5),oQ 18 (.ext 1 T5),oM 1 T17,oM 2 T18] [1,2])
(.seq
(.seq
(.reg 2 [oM 19 T2,oQ 20 (.bin .neq T19 (cI 0))] [1,20])
(.cond T20
(.seq
(.reg 3 [oM 0 (cB false)] [0])
.ret)
.skip))
(.seq
(.reg 4 [oM 22 T1,oK 23 (.call 18 [T22,(cI 2)]),oM 21 T23,oQ 24 (.ext 0 T21),oQ 25 (.ext 1 T21),oK 3 (.alloc [(.str []),(zI 0),(.str []),(.str []),(zU 0),(.str []),.aa1,.aa1,.aa1,.aa1,.aa1,.aa1,.aa1,.aa1,.aa1]),oN (.store 15 T3 T24),oM 4 T25] [1,3,4])
(.seq
(.reg 5 [oM 26 T1,oK 27 (.call 8 [T26]),oQ 28 (.bin .eql T27 (cI 4)),oM 29 T28,gQ 30 29 true (.mov T1),gK 31 29 true (.call 9 [T30]),gQ 32 29 true (.bin .eql T31 (cI 1)),oQ 33 (.pick T29 T32 (cB false)),oM 34 T33,gQ 35 34 true (.mov T4),gQ 36 34 true (.bin .eql T35 (cI 0)),oQ 37 (.pick T34 T36 (cB false)),oM 38 T37,gQ 39 38 true (.aa7 0 T3),gQ 40 38 true (.load none T39),gQ 41 38 true (.bin .eql T40 (.c (.str [99]))),oQ 42 (.pick T38 T41 (cB false)),oM 43 T42,gQ 44 43 true (.mov T1),gK 45 43 true (.call 21 [T44,(cI 2)]),gQ 46 43 true (.bin .eql T45 (cI 0)),oQ 47 (.pick T43 T46 (cB false)),oM 48 T47,gQ 49 48 true (.mov T1),gK 50 48 true (.call 22 [T49,(cI 2)]),gQ 51 48 true (.bin .eql T50 (cI 5)),oQ 52 (.pick T48 T51 (cB false)),oM 53 T52,gQ 54 53 true (.mov T1),gK 55 53 true (.call 22 [T54,(cI 0)]),gQ 56 53 true (.bin .eql T55 (cI 1025)),oQ 57 (.pick T53 T56 (cB false)),oM 58 T57,gQ 59 58 true (.mov T1),gK 60 58 true (.call 11 [T59,(.c (.str [97]))]),gK 61 58 true (.as5 1 2 [(zI 0)] [⟨0,⟨1,(cI 0)⟩⟩,⟨1,⟨1,(cI 3)⟩⟩]),gK 62 58 true (.call 10 [T60,T61]),oQ 63 (.pick T58 T62 (cB false)),oM 0 T63] [0])
.ret)))))
theorem fok5:FOK Tryz.prog 5 (64,ic5,[(.t 0)]):=ai1 [1000008,1000011,1000013,1000015,1000061] Tryz.func5
def ic6:IC :=
(.seq
(.reg 0 [oM 4 (.c .ad5),oM 5 (cI 0)] [0,1])
(.seq
(.reg 1 [oM 14 T1,oQ 15 (.len 0 T14),oM 6 T15] [0,1,6])
(.seq
(.seq
(.reg 2 [oM 16 T0,oQ 17 (.len 0 T16),oM 18 (cI 0)] [0,1,6,16,17,18])
(.block 0
(.loop
(.seq
(.reg 3 [oQ 19 (.bin .lss T18 T17)] [0,1,6,16,17,18,19])
(.seq
(.cond T19
.skip
(.exit 0))
(.seq
(.block 1
(.seq
(.reg 4 [oQ 20 (.ab5 2 T16 T18),oQ 21 (.load (some 2) T20),oK 8 (.alloc [(zI 0),.aa1]),oN (.store 2 T8 T21)] [0,1,6,8,16,17,18])
(.reg 5 [oM 22 T6,oQ 23 (.aa7 1 T8),oQ 24 (.load none T23),oQ 25 (.len 0 T24),oQ 26 (.bin .add T22 T25),oM 6 T26] [0,1,6,16,17,18])))
(.reg 6 [oQ 27 (.bin .add T18 (cI 1)),oM 18 T27] [0,1,6,16,17,18])))))))
(.seq
(.seq
(.reg 7 [oM 28 T0,oQ 29 (.len 0 T28),oQ 30 (.bin .gtr T29 (cI 16)),oM 31 T30,gQ 32 31 false (.mov T6),gQ 33 31 false (.bin .gtr T32 (cI 256)),oQ 34 (.pick T31 (cB true) T33)] [0,1,34])
(.cond T34
(.seq
(.reg 8 [oM 4 (.c .ad5),oM 5 (cI 40)] [4,5])
.ret)
.skip))
(.seq
(.reg 9 [oM 35 T1,oQ 36 (.len 0 T35),oK 37 .bp9,oQ 38 (.bld [.aa1,(zI 0),.ag2] [⟨1,⟨1,T36⟩⟩,⟨2,⟨1,T37⟩⟩]),oK 39 (.box T38),oM 9 T39] [0,1,9])
(.seq
(.seq
(.reg 10 [oM 40 T9,oM 41 T1,oK 42 (.call 25 [T40,T41,(cI (-1)),(cI 1025)]),oM 10 T42] [0,9,10])
(.seq
(.reg 11 [oM 43 T10,oQ 44 (.bin .neq T43 (cI 0))] [0,9,10,44])
(.cond T44
(.seq
(.reg 12 [oM 45 T10,oM 4 (.c .ad5),oM 5 T45] [4,5])
.ret)
.skip)))
(.seq
(.seq
(.reg 13 [oM 46 T0,oQ 47 (.len 0 T46),oM 48 (cI 0)] [9,46,47,48])
(.block 2
(.loop
(.seq
(.reg 14 [oQ 49 (.bin .lss T48 T47)] [9,46,47,48,49])
(.seq
(.cond T49
.skip
(.exit 2))
(.seq
(.block 3
(.seq
(.reg 15 [oM 50 T48,oQ 51 (.ab5 2 T46 T48),oQ 52 (.load (some 2) T51),oK 12 (.alloc [(zI 0),.aa1]),oM 11 T50,oN (.store 2 T12 T52)] [9,11,12,46,47,48])
(.seq
(.seq
(.reg 16 [oQ 53 (.aa7 0 T12),oQ 54 (.load none T53),oQ 55 (.bin .lss T54 (cI 0)),oM 56 T55,gQ 57 56 false (.aa7 0 T12),gQ 58 56 false (.load none T57),gQ 59 56 false (.bin .gtr T58 (cI 1024)),oQ 60 (.pick T56 (cB true) T59)] [9,11,12,46,47,48,60])
(.cond T60
(.seq
(.reg 17 [oM 4 (.c .ad5),oM 5 (cI 4)] [4,5])
.ret)
.skip))
(.seq
(.reg 18 [oM 61 T9,oQ 62 (.aa7 1 T12),oQ 63 (.load none T62),oM 64 T11,oQ 65 (.aa7 0 T12),oQ 66 (.load none T65),oK 67 (.call 25 [T61,T63,T64,T66]),oM 13 T67] [9,13,46,47,48])
(.seq
(.reg 19 [oM 68 T13,oQ 69 (.bin .neq T68 (cI 0))] [9,13,46,47,48,69])
(.cond T69
(.seq
(.reg 20 [oM 70 T13,oM 4 (.c .ad5),oM 5 T70] [4,5])
.ret)
.skip))))))
(.reg 21 [oQ 71 (.bin .add T48 (cI 1)),oM 48 T71] [9,46,47,48])))))))
(.seq
(.reg 22 [oM 72 T9,oM 4 T72,oM 5 (cI 0)] [4,5])
.ret))))))))
theorem fok6:FOK Tryz.prog 6 (73,ic6,[(.t 4),(.t 5)]):=ai1 [] Tryz.func6
def ic7:IC :=
(.seq
(.reg 0 [oM 4 (.c .ad5),oM 5 (cI 0)] [0,1])
(.seq
(.reg 1 [oM 12 T1,oQ 13 (.len 0 T12),oM 6 T13] [0,1,6])
(.seq
(.seq
(.reg 2 [oM 7 (cI 0)] [0,1,6,7])
(.block 0
(.loop
(.seq
(.seq
(.reg 3 [oM 14 T7,oM 15 T0,oQ 16 (.len 0 T15),oQ 17 (.bin .lss T14 T16)] [0,1,6,7,17])
(.cond T17
.skip
(.exit 0)))
(.seq
(.block 1
(.reg 5 [oM 20 T6,oM 21 T0,oM 22 T7,oQ 23 (.ab5 2 T21 T22),oQ 24 (.aa7 1 T23),oQ 25 (.load none T24),oQ 26 (.len 0 T25),oQ 27 (.bin .add T20 T26),oM 6 T27] [0,1,6,7]))
(.reg 4 [oM 18 T7,oQ 19 (.bin .add T18 (cI 1)),oM 7 T19] [0,1,6,7]))))))
(.seq
(.seq
(.reg 6 [oM 28 T0,oQ 29 (.len 0 T28),oQ 30 (.bin .gtr T29 (cI 16)),oM 31 T30,gQ 32 31 false (.mov T6),gQ 33 31 false (.bin .gtr T32 (cI 256)),oQ 34 (.pick T31 (cB true) T33)] [0,1,34])
(.cond T34
(.seq
(.reg 7 [oM 4 (.c .ad5),oM 5 (cI 40)] [4,5])
.ret)
.skip))
(.seq
(.reg 8 [oM 35 T1,oQ 36 (.len 0 T35),oQ 37 (.bld [.aa1,(zI 0),.aa1,.aa1] [⟨1,⟨1,T36⟩⟩]),oK 38 (.box T37),oM 8 T38] [0,1,8])
(.seq
(.seq
(.reg 9 [oM 9 (cI 0)] [0,1,8,9])
(.block 2
(.loop
(.seq
(.seq
(.reg 10 [oM 39 T9,oM 40 T1,oQ 41 (.len 0 T40),oQ 42 (.bin .lss T39 T41)] [0,1,8,9,42])
(.cond T42
.skip
(.exit 2)))
(.seq
(.block 3
(.seq
(.seq
(.reg 12 [oM 45 T1,oM 46 T9,oQ 47 (.ab5 15 T45 T46),oQ 48 (.load (some 15) T47),oK 49 (.call 26 [T48]),oQ 50 (.not T49)] [0,1,8,9,50])
(.cond T50
(.seq
(.reg 13 [oM 4 (.c .ad5),oM 5 (cI 4)] [4,5])
.ret)
.skip))
(.dreg 14 [oM 51 T8,oM 52 T8,oM 53 T8,oM 54 T8,oQ 55 (.am7 T54),oQ 56 (.aa7 0 T55),oQ 57 (.load none T56),oM 58 T1,oM 59 T9,oQ 60 (.ab5 15 T58 T59),oQ 61 (.load (some 15) T60),oK 62 (.ae7 27 [T61]),oK 63 (.as5 15 1 [(.str []),(zI 0),(.str []),(.str []),(zU 0),(.str []),.aa1,.aa1,.aa1,.aa1,.aa1,.aa1,.aa1,.aa1,.aa1] [⟨0,⟨15,T62⟩⟩]),oK 64 (.app 15 T57 T63),oM 65 T8,oQ 66 (.am7 T65),oQ 67 (.aa7 2 T66),oQ 68 (.load none T67),oK 69 (.as5 1 1 [(zI 0)] [⟨0,⟨1,(cI (-1))⟩⟩]),oK 70 (.app 1 T68 T69),oM 71 T8,oQ 72 (.am7 T71),oQ 73 (.aa7 3 T72),oQ 74 (.load none T73),oK 75 (.as5 1 1 [(zI 0)] [⟨0,⟨1,(cI 1025)⟩⟩]),oK 76 (.app 1 T74 T75),oQ 77 (.am7 T51),oQ 78 (.aa7 0 T77),oN (.store 1 T78 T64),oQ 79 (.am7 T52),oQ 80 (.aa7 2 T79),oN (.store 1 T80 T70),oQ 81 (.am7 T53),oQ 82 (.aa7 3 T81),oN (.store 1 T82 T76)] true [0,1,8,9])))
(.reg 11 [oM 43 T9,oQ 44 (.bin .add T43 (cI 1)),oM 9 T44] [0,1,8,9]))))))
(.seq
(.seq
(.reg 15 [oM 10 (cI 0)] [0,8,10])
(.block 4
(.loop
(.seq
(.seq
(.reg 16 [oM 83 T10,oM 84 T0,oQ 85 (.len 0 T84),oQ 86 (.bin .lss T83 T85)] [0,8,10,86])
(.cond T86
.skip
(.exit 4)))
(.seq
(.block 5
(.seq
(.seq
(.reg 18 [oM 89 T0,oM 90 T10,oQ 91 (.ab5 2 T89 T90),oQ 92 (.aa7 0 T91),oQ 93 (.load none T92),oQ 94 (.bin .lss T93 (cI 0)),oM 95 T94,gQ 96 95 false (.mov T0),gQ 97 95 false (.mov T10),gQ 98 95 false (.ab5 2 T96 T97),gQ 99 95 false (.aa7 0 T98),gQ 100 95 false (.load none T99),gQ 101 95 false (.bin .gtr T100 (cI 1024)),oQ 102 (.pick T95 (cB true) T101)] [0,8,10,102])
(.cond T102
(.seq
(.reg 19 [oM 4 (.c .ad5),oM 5 (cI 4)] [4,5])
.ret)
.skip))
(.seq
(.reg 20 [oM 11 (cI 0)] [0,8,10,11])
(.block 6
(.loop
(.seq
(.seq
(.reg 21 [oM 103 T11,oM 104 T0,oM 105 T10,oQ 106 (.ab5 2 T104 T105),oQ 107 (.aa7 1 T106),oQ 108 (.load none T107),oQ 109 (.len 0 T108),oQ 110 (.bin .lss T103 T109)] [0,8,10,11,110])
(.cond T110
.skip
(.exit 6)))
(.seq
(.block 7
(.seq
(.seq
(.reg 23 [oM 113 T0,oM 114 T10,oQ 115 (.ab5 2 T113 T114),oQ 116 (.aa7 1 T115),oQ 117 (.load none T116),oM 118 T11,oQ 119 (.ab5 15 T117 T118),oQ 120 (.load (some 15) T119),oK 121 (.call 26 [T120]),oQ 122 (.not T121)] [0,8,10,11,122])
(.cond T122
(.seq
(.reg 24 [oM 4 (.c .ad5),oM 5 (cI 4)] [4,5])
.ret)
.skip))
(.dreg 25 [oM 123 T8,oM 124 T8,oM 125 T8,oM 126 T8,oQ 127 (.am7 T126),oQ 128 (.aa7 0 T127),oQ 129 (.load none T128),oM 130 T0,oM 131 T10,oQ 132 (.ab5 2 T130 T131),oQ 133 (.aa7 1 T132),oQ 134 (.load none T133),oM 135 T11,oQ 136 (.ab5 15 T134 T135),oQ 137 (.load (some 15) T136),oK 138 (.ae7 27 [T137]),oK 139 (.as5 15 1 [(.str []),(zI 0),(.str []),(.str []),(zU 0),(.str []),.aa1,.aa1,.aa1,.aa1,.aa1,.aa1,.aa1,.aa1,.aa1] [⟨0,⟨15,T138⟩⟩]),oK 140 (.app 15 T129 T139),oM 141 T8,oQ 142 (.am7 T141),oQ 143 (.aa7 2 T142),oQ 144 (.load none T143),oM 145 T10,oK 146 (.as5 1 1 [(zI 0)] [⟨0,⟨1,T145⟩⟩]),oK 147 (.app 1 T144 T146),oM 148 T8,oQ 149 (.am7 T148),oQ 150 (.aa7 3 T149),oQ 151 (.load none T150),oM 152 T0,oM 153 T10,oQ 154 (.ab5 2 T152 T153),oQ 155 (.aa7 0 T154),oQ 156 (.load none T155),oK 157 (.as5 1 1 [(zI 0)] [⟨0,⟨1,T156⟩⟩]),oK 158 (.app 1 T151 T157),oQ 159 (.am7 T123),oQ 160 (.aa7 0 T159),oN (.store 1 T160 T140),oQ 161 (.am7 T124),oQ 162 (.aa7 2 T161),oN (.store 1 T162 T147),oQ 163 (.am7 T125),oQ 164 (.aa7 3 T163),oN (.store 1 T164 T158)] true [0,8,10,11])))
(.reg 22 [oM 111 T11,oQ 112 (.bin .add T111 (cI 1)),oM 11 T112] [0,8,10,11]))))))))
(.reg 17 [oM 87 T10,oQ 88 (.bin .add T87 (cI 1)),oM 10 T88] [0,8,10]))))))
(.seq
(.reg 26 [oM 165 T8,oM 4 T165,oM 5 (cI 0)] [4,5])
.ret))))))))
theorem fok7:FOK Tryz.prog 7 (166,ic7,[(.t 4),(.t 5)]):=ai1 ([1000063,1000069,1000075,1000139,1000146,1000157]++[27]) Tryz.func7 (by kernel_rfl) (by kernel_rfl) (by kernel_rfl) (by kernel_rfl)
def ic8:IC :=
(.seq
(.reg 0 [oM 2 (cI 0)] [0])
(.seq
(.seq
(.reg 1 [oM 3 T0,oQ 4 (.bc9 (.pointer 63) false T3)] [0,4])
(.cond T4
(.seq
(.reg 2 [oM 2 (cI 0)] [2])
.ret)
.skip))
(.seq
(.reg 3 [oM 5 T0,oQ 6 (.am7 T5),oQ 7 (.aa7 0 T6),oQ 8 (.load none T7),oQ 9 (.len 0 T8),oM 2 T9] [2])
.ret)))
theorem fok8:FOK Tryz.prog 8 (10,ic8,[(.t 2)]):=ai1 [] Tryz.func8
def ic9:IC :=
(.seq
(.reg 0 [oM 2 (cI 0)] [0])
(.seq
(.seq
(.reg 1 [oM 3 T0,oQ 4 (.bc9 (.pointer 63) false T3)] [0,4])
(.cond T4
(.seq
(.reg 2 [oM 2 (cI 0)] [2])
.ret)
.skip))
(.seq
(.reg 3 [oM 5 T0,oQ 6 (.am7 T5),oQ 7 (.aa7 1 T6),oQ 8 (.load none T7),oM 2 T8] [2])
.ret)))
theorem fok9:FOK Tryz.prog 9 (9,ic9,[(.t 2)]):=ai1 [] Tryz.func9
def ic10:IC :=
(.seq
(.reg 0 [oM 4 (cB false)] [0,1])
(.seq
(.seq
(.reg 1 [oM 6 T0,oQ 7 (.len 0 T6),oM 8 T1,oQ 9 (.len 0 T8),oQ 10 (.bin .neq T7 T9)] [0,1,10])
(.cond T10
(.seq
(.reg 2 [oM 4 (cB false)] [4])
.ret)
.skip))
(.seq
(.seq
(.reg 3 [oM 5 (cI 0)] [0,1,5])
(.block 0
(.loop
(.seq
(.seq
(.reg 4 [oM 11 T5,oM 12 T0,oQ 13 (.len 0 T12),oQ 14 (.bin .lss T11 T13)] [0,1,5,14])
(.cond T14
.skip
(.exit 0)))
(.seq
(.block 1
(.seq
(.dreg 6 [oM 17 T0,oM 18 T5,oQ 19 (.ab5 1 T17 T18),oQ 20 (.load none T19),oM 21 T1,oM 22 T5,oQ 23 (.ab5 1 T21 T22),oQ 24 (.load none T23),oQ 25 (.bin .neq T20 T24)] false [0,1,5,25])
(.cond T25
(.seq
(.reg 7 [oM 4 (cB false)] [4])
.ret)
.skip)))
(.reg 5 [oM 15 T5,oQ 16 (.bin .add T15 (cI 1)),oM 5 T16] [0,1,5]))))))
(.seq
(.reg 8 [oM 4 (cB true)] [4])
.ret))))
theorem fok10:FOK Tryz.prog 10 (26,ic10,[(.t 4)]):=ai1 [] Tryz.func10
def ic11:IC :=
(.seq
(.reg 0 [oM 4 (.c .aa1)] [0,1])
(.seq
(.seq
(.reg 1 [oM 5 T0,oQ 6 (.bc9 (.pointer 63) false T5)] [0,1,6])
(.cond T6
(.seq
(.reg 2 [oM 4 (.c .aa1)] [4])
.ret)
.skip))
(.seq
(.reg 3 [oM 7 T0,oQ 8 (.am7 T7),oQ 9 (.aa7 2 T8),oQ 10 (.load none T9),oM 11 T1,oQ 12 (.lkp 2 .aa1 false T10 T11),oK 13 (.call 28 [T12]),oM 4 T13] [4])
.ret)))
theorem fok11:FOK Tryz.prog 11 (14,ic11,[(.t 4)]):=ai1 [] Tryz.func11
def ic12:IC :=
(.seq
(.reg 0 [oM 4 (.c .aa1)] [0,1])
(.seq
(.reg 1 [oM 5 (.c .aa1)] [0,1,5])
(.seq
(.seq
(.reg 2 [oM 6 (cI 0)] [0,1,5,6])
(.block 0
(.loop
(.seq
(.seq
(.reg 3 [oM 7 T6,oM 8 T0,oQ 9 (.am7 T8),oQ 10 (.aa7 0 T9),oQ 11 (.load none T10),oQ 12 (.len 0 T11),oQ 13 (.bin .lss T7 T12)] [0,1,5,6,13])
(.cond T13
.skip
(.exit 0)))
(.seq
(.block 1
(.seq
(.reg 5 [oM 16 T0,oQ 17 (.am7 T16),oQ 18 (.aa7 0 T17),oQ 19 (.load none T18),oM 20 T6,oQ 21 (.ab5 15 T19 T20),oQ 22 (.aa7 0 T21),oQ 23 (.load none T22),oM 24 T1,oQ 25 (.bin .eql T23 T24)] [0,1,5,6,25])
(.cond T25
(.reg 6 [oM 26 T5,oM 27 T6,oK 28 (.as5 1 1 [(zI 0)] [⟨0,⟨1,T27⟩⟩]),oK 29 (.app 1 T26 T28),oM 5 T29] [0,1,5,6])
.skip)))
(.reg 4 [oM 14 T6,oQ 15 (.bin .add T14 (cI 1)),oM 6 T15] [0,1,5,6]))))))
(.seq
(.reg 7 [oM 30 T5,oM 4 T30] [4])
.ret))))
theorem fok12:FOK Tryz.prog 12 (31,ic12,[(.t 4)]):=ai1 [1000028] Tryz.func12
def ic13:IC :=
(.seq
(.reg 0 [oM 4 (cB false)] [0,1])
(.seq
(.seq
(.reg 1 [oM 6 T0,oQ 7 (.len 0 T6),oM 8 T1,oQ 9 (.len 0 T8),oQ 10 (.bin .neq T7 T9)] [0,1,10])
(.cond T10
(.seq
(.reg 2 [oM 4 (cB false)] [4])
.ret)
.skip))
(.seq
(.seq
(.reg 3 [oM 5 (cI 0)] [0,1,5])
(.block 0
(.loop
(.seq
(.seq
(.reg 4 [oM 11 T5,oM 12 T0,oQ 13 (.len 0 T12),oQ 14 (.bin .lss T11 T13)] [0,1,5,14])
(.cond T14
.skip
(.exit 0)))
(.seq
(.block 1
(.seq
(.dreg 6 [oM 17 T0,oM 18 T5,oQ 19 (.ab5 1 T17 T18),oQ 20 (.load none T19),oM 21 T1,oM 22 T5,oQ 23 (.ab5 1 T21 T22),oQ 24 (.load none T23),oQ 25 (.bin .neq T20 T24)] false [0,1,5,25])
(.cond T25
(.seq
(.reg 7 [oM 4 (cB false)] [4])
.ret)
.skip)))
(.reg 5 [oM 15 T5,oQ 16 (.bin .add T15 (cI 1)),oM 5 T16] [0,1,5]))))))
(.seq
(.reg 8 [oM 4 (cB true)] [4])
.ret))))
theorem fok13:FOK Tryz.prog 13 (26,ic13,[(.t 4)]):=ai1 [] Tryz.func13
def ic14:IC :=
(.seq
(.reg 0 [oM 2 (.c .aa1)] [0])
(.seq
(.seq
(.reg 1 [oM 3 T0,oQ 4 (.bc9 (.pointer 63) false T3)] [0,4])
(.cond T4
(.seq
(.reg 2 [oM 2 (.c .aa1)] [2])
.ret)
.skip))
(.seq
(.reg 3 [oM 5 T0,oQ 6 (.am7 T5),oQ 7 (.aa7 2 T6),oQ 8 (.load none T7),oK 9 (.call 30 [T8]),oK 10 (.call 29 [T9]),oM 2 T10] [2])
.ret)))
theorem fok14:FOK Tryz.prog 14 (11,ic14,[(.t 2)]):=ai1 [] Tryz.func14
def ic15:IC :=
(.seq
(.reg 0 [oM 2 (.c .aa1)] [0])
(.seq
(.reg 1 [oM 3 (.c .aa1)] [0,3])
(.seq
(.seq
(.reg 2 [oM 4 (cI 0)] [0,3,4])
(.block 0
(.loop
(.seq
(.seq
(.reg 3 [oM 6 T4,oM 7 T0,oQ 8 (.am7 T7),oQ 9 (.aa7 0 T8),oQ 10 (.load none T9),oQ 11 (.len 0 T10),oQ 12 (.bin .lss T6 T11)] [0,3,4,12])
(.cond T12
.skip
(.exit 0)))
(.seq
(.block 1
(.seq
(.reg 5 [oM 5 (cI 0)] [0,3,4,5])
(.seq
(.block 2
(.loop
(.seq
(.seq
(.dreg 6 [oM 15 T5,oM 16 T3,oQ 17 (.len 0 T16),oQ 18 (.bin .lss T15 T17),oM 19 T18,gQ 20 19 true (.mov T3),gQ 21 19 true (.mov T5),gQ 22 19 true (.ab5 1 T20 T21),gQ 23 19 true (.load none T22),gQ 24 19 true (.mov T0),gQ 25 19 true (.am7 T24),gQ 26 19 true (.aa7 0 T25),gQ 27 19 true (.load none T26),gQ 28 19 true (.mov T4),gQ 29 19 true (.ab5 15 T27 T28),gQ 30 19 true (.aa7 0 T29),gQ 31 19 true (.load none T30),gQ 32 19 true (.bin .lss T23 T31),oQ 33 (.pick T19 T32 (cB false))] false [0,3,4,5,33])
(.cond T33
.skip
(.exit 2)))
(.block 3
(.reg 7 [oM 34 T5,oQ 35 (.bin .add T34 (cI 1)),oM 5 T35] [0,3,4,5])))))
(.seq
(.seq
(.dreg 8 [oM 36 T5,oM 37 T3,oQ 38 (.len 0 T37),oQ 39 (.bin .lss T36 T38),oM 40 T39,gQ 41 40 true (.mov T3),gQ 42 40 true (.mov T5),gQ 43 40 true (.ab5 1 T41 T42),gQ 44 40 true (.load none T43),gQ 45 40 true (.mov T0),gQ 46 40 true (.am7 T45),gQ 47 40 true (.aa7 0 T46),gQ 48 40 true (.load none T47),gQ 49 40 true (.mov T4),gQ 50 40 true (.ab5 15 T48 T49),gQ 51 40 true (.aa7 0 T50),gQ 52 40 true (.load none T51),gQ 53 40 true (.bin .eql T44 T52),oQ 54 (.pick T40 T53 (cB false))] false [0,3,4,5,54])
(.cond T54
(.exit 1)
.skip))
(.dreg 9 [oK 55 (.bsl 1 0 [(.str [])] []),oM 56 T3,oM 57 T5,oQ 58 (.slc 1 T56 none (some T57)),oK 59 (.app 1 T55 T58),oM 60 T0,oQ 61 (.am7 T60),oQ 62 (.aa7 0 T61),oQ 63 (.load none T62),oM 64 T4,oQ 65 (.ab5 15 T63 T64),oQ 66 (.aa7 0 T65),oQ 67 (.load none T66),oK 68 (.as5 1 1 [(.str [])] [⟨0,⟨1,T67⟩⟩]),oK 69 (.app 1 T59 T68),oM 70 T3,oM 71 T5,oQ 72 (.slc 1 T70 (some T71) none),oK 73 (.app 1 T69 T72),oM 3 T73] true [0,3,4])))))
(.reg 4 [oM 13 T4,oQ 14 (.bin .add T13 (cI 1)),oM 4 T14] [0,3,4]))))))
(.seq
(.reg 10 [oM 74 T3,oM 2 T74] [2])
.ret))))
theorem fok15:FOK Tryz.prog 15 (75,ic15,[(.t 2)]):=ai1 [1000068] Tryz.func15
def ic16:IC :=
(.seq
(.reg 0 [oM 6 (cB false)] [0,1,2])
(.seq
(.dreg 1 [oM 7 T0,oQ 8 (.bc9 (.pointer 63) true T7),oM 9 T8,gQ 10 9 true (.mov T0),gQ 11 9 true (.am7 T10),gQ 12 9 true (.aa7 0 T11),gQ 13 9 true (.load none T12),gQ 14 9 true (.mov T1),gK 15 9 true (.call 31 [T13,T14]),oQ 16 (.pick T9 T15 (cB false)),oM 17 T16,gQ 18 17 true (.mov T0),gQ 19 17 true (.am7 T18),gQ 20 17 true (.aa7 0 T19),gQ 21 17 true (.load none T20),gQ 22 17 true (.mov T2),gK 23 17 true (.call 31 [T21,T22]),oQ 24 (.pick T17 T23 (cB false)),oM 25 T24,gQ 26 25 true (.mov T1),gQ 27 25 true (.mov T2),gQ 28 25 true (.bin .neq T26 T27),oQ 29 (.pick T25 T28 (cB false)),oM 30 T29,gQ 31 30 true (.mov T0),gQ 32 30 true (.am7 T31),gQ 33 30 true (.aa7 0 T32),gQ 34 30 true (.load none T33),gQ 35 30 true (.mov T1),gQ 36 30 true (.ab5 17 T34 T35),gQ 37 30 true (.aa7 0 T36),gQ 38 30 true (.load (some 15) T37),gQ 39 30 true (.mov T0),gQ 40 30 true (.am7 T39),gQ 41 30 true (.aa7 0 T40),gQ 42 30 true (.load none T41),gQ 43 30 true (.mov T2),gQ 44 30 true (.ab5 17 T42 T43),gQ 45 30 true (.aa7 0 T44),gQ 46 30 true (.load (some 15) T45),gK 47 30 true (.call 32 [T38,T46]),oQ 48 (.pick T30 T47 (cB false)),oM 6 T48] false [6])
.ret))
theorem fok16:FOK Tryz.prog 16 (49,ic16,[(.t 6)]):=ai1 [] Tryz.func16
def ic17:IC :=
(.seq
(.reg 0 [oM 6 (cB false)] [0,1,2])
(.seq
(.dreg 1 [oM 7 T0,oM 8 T1,oK 9 (.call 19 [T7,T8]),oM 10 T9,gQ 11 10 true (.mov T0),gQ 12 10 true (.mov T2),gK 13 10 true (.call 19 [T11,T12]),oQ 14 (.pick T10 T13 (cB false)),oM 15 T14,gQ 16 15 true (.mov T1),gQ 17 15 true (.mov T2),gQ 18 15 true (.bin .neq T16 T17),oQ 19 (.pick T15 T18 (cB false)),oM 20 T19,gQ 21 20 true (.mov T0),gQ 22 20 true (.am7 T21),gQ 23 20 true (.aa7 0 T22),gQ 24 20 true (.load none T23),gQ 25 20 true (.mov T1),gQ 26 20 true (.ab5 15 T24 T25),gQ 27 20 true (.load (some 15) T26),gQ 28 20 true (.mov T0),gQ 29 20 true (.am7 T28),gQ 30 20 true (.aa7 0 T29),gQ 31 20 true (.load none T30),gQ 32 20 true (.mov T2),gQ 33 20 true (.ab5 15 T31 T32),gQ 34 20 true (.load (some 15) T33),gK 35 20 true (.call 33 [T27,T34]),oQ 36 (.pick T20 T35 (cB false)),oM 6 T36] false [6])
.ret))
theorem fok17:FOK Tryz.prog 17 (37,ic17,[(.t 6)]):=ai1 [] Tryz.func17
def ic18:IC :=
(.seq
(.reg 0 [oK 4 (.alloc [(.str []),(zI 0),(.str []),(.str []),(zU 0),(.str []),.aa1,.aa1,.aa1,.aa1,.aa1,.aa1,.aa1,.aa1,.aa1]),oM 5 (cI 0)] [0,1,4])
(.seq
(.seq
(.reg 1 [oM 6 T0,oQ 7 (.bc9 (.pointer 63) false T6),oM 8 T7,gQ 9 8 false (.mov T0),gQ 10 8 false (.am7 T9),gQ 11 8 false (.aa7 0 T10),gQ 12 8 false (.load none T11),gQ 13 8 false (.mov T1),gK 14 8 false (.call 31 [T12,T13]),gQ 15 8 false (.not T14),oQ 16 (.pick T8 (cB true) T15)] [0,1,4,16])
(.cond T16
(.seq
(.reg 2 [oQ 17 (.bld [(.str []),(zI 0),(.str []),(.str []),(zU 0),(.str []),.aa1,.aa1,.aa1,.aa1,.aa1,.aa1,.aa1,.aa1,.aa1] []),oN (.store 15 T4 T17),oM 5 (cI 5)] [4,5])
.ret)
.skip))
(.seq
(.reg 3 [oM 18 T0,oQ 19 (.am7 T18),oQ 20 (.aa7 0 T19),oQ 21 (.load none T20),oM 22 T1,oQ 23 (.ab5 17 T21 T22),oQ 24 (.aa7 0 T23),oQ 25 (.load (some 15) T24),oK 26 (.call 34 [T25]),oN (.store 15 T4 T26),oM 5 (cI 0)] [4,5])
.ret)))
theorem fok18:FOK Tryz.prog 18 (27,ic18,[(.cell (some 15) 4),(.t 5)]):=ai1 [] Tryz.func18
def ic19:IC :=
(.seq
(.reg 0 [oM 4 (cB false)] [0,1])
(.seq
(.reg 1 [oM 5 T1,oQ 6 (.bin .geq T5 (cI 0)),oM 7 T6,gQ 8 7 true (.mov T1),gQ 9 7 true (.mov T0),gQ 10 7 true (.am7 T9),gQ 11 7 true (.aa7 0 T10),gQ 12 7 true (.load none T11),gQ 13 7 true (.len 0 T12),gQ 14 7 true (.bin .lss T8 T13),oQ 15 (.pick T7 T14 (cB false)),oM 4 T15] [4])
.ret))
theorem fok19:FOK Tryz.prog 19 (16,ic19,[(.t 4)]):=ai1 [] Tryz.func19
def ic20:IC :=
(.seq
(.reg 0 [oK 2 (.aj8 T0),oK 3 (.aj8 T1),oM 4 (cB false)] [2,3])
(.seq
(.reg 1 [oQ 5 (.aa7 0 T2),oQ 6 (.load none T5),oQ 7 (.aa7 0 T3),oQ 8 (.load none T7),oQ 9 (.bin .eql T6 T8),oM 10 T9,gQ 11 10 true (.aa7 1 T2),gQ 12 10 true (.load (some 3) T11),gQ 13 10 true (.aa7 1 T3),gQ 14 10 true (.load (some 3) T13),gQ 15 10 true (.eqs [1,2,2] true false T12 T14),oQ 16 (.pick T10 T15 (cB false)),oM 17 T16,gQ 18 17 true (.aa7 4 T2),gQ 19 17 true (.load none T18),gQ 20 17 true (.aa7 4 T3),gQ 21 17 true (.load none T20),gQ 22 17 true (.bin .eql T19 T21),oQ 23 (.pick T17 T22 (cB false)),oM 24 T23,gQ 25 24 true (.aa7 5 T2),gQ 26 24 true (.load none T25),gQ 27 24 true (.aa7 5 T3),gQ 28 24 true (.load none T27),gQ 29 24 true (.bin .eql T26 T28),oQ 30 (.pick T24 T29 (cB false)),oM 31 T30,gQ 32 31 true (.aa7 6 T2),gQ 33 31 true (.load none T32),gQ 34 31 true (.aa7 6 T3),gQ 35 31 true (.load none T34),gK 36 31 true (.call 35 [T33,T35]),oQ 37 (.pick T31 T36 (cB false)),oM 38 T37,gQ 39 38 true (.aa7 7 T2),gQ 40 38 true (.load none T39),gQ 41 38 true (.aa7 7 T3),gQ 42 38 true (.load none T41),gK 43 38 true (.call 36 [T40,T42]),oQ 44 (.pick T38 T43 (cB false)),oM 45 T44,gQ 46 45 true (.aa7 8 T2),gQ 47 45 true (.load none T46),gQ 48 45 true (.aa7 8 T3),gQ 49 45 true (.load none T48),gK 50 45 true (.call 36 [T47,T49]),oQ 51 (.pick T45 T50 (cB false)),oM 52 T51,gQ 53 52 true (.aa7 9 T2),gQ 54 52 true (.load none T53),gQ 55 52 true (.aa7 9 T3),gQ 56 52 true (.load none T55),gK 57 52 true (.call 35 [T54,T56]),oQ 58 (.pick T52 T57 (cB false)),oM 59 T58,gQ 60 59 true (.aa7 10 T2),gQ 61 59 true (.load none T60),gQ 62 59 true (.aa7 10 T3),gQ 63 59 true (.load none T62),gK 64 59 true (.call 36 [T61,T63]),oQ 65 (.pick T59 T64 (cB false)),oM 66 T65,gQ 67 66 true (.aa7 11 T2),gQ 68 66 true (.load none T67),gQ 69 66 true (.aa7 11 T3),gQ 70 66 true (.load none T69),gK 71 66 true (.call 36 [T68,T70]),oQ 72 (.pick T66 T71 (cB false)),oM 73 T72,gQ 74 73 true (.aa7 12 T2),gQ 75 73 true (.load none T74),gQ 76 73 true (.aa7 12 T3),gQ 77 73 true (.load none T76),gK 78 73 true (.call 36 [T75,T77]),oQ 79 (.pick T73 T78 (cB false)),oM 80 T79,gQ 81 80 true (.aa7 13 T2),gQ 82 80 true (.load none T81),gQ 83 80 true (.aa7 13 T3),gQ 84 80 true (.load none T83),gK 85 80 true (.call 36 [T82,T84]),oQ 86 (.pick T80 T85 (cB false)),oM 87 T86,gQ 88 87 true (.aa7 14 T2),gQ 89 87 true (.load none T88),gQ 90 87 true (.aa7 14 T3),gQ 91 87 true (.load none T90),gK 92 87 true (.call 13 [T89,T91]),oQ 93 (.pick T87 T92 (cB false)),oM 4 T93] [4])
.ret))
theorem fok20:FOK Tryz.prog 20 (94,ic20,[(.t 4)]):=ai1 [1000002,1000003] Tryz.func20
def ic21:IC :=
(.seq
(.reg 0 [oM 4 (cI 0)] [0,1])
(.seq
(.seq
(.reg 1 [oM 5 T0,oQ 6 (.bc9 (.pointer 63) false T5),oM 7 T6,gQ 8 7 false (.mov T0),gQ 9 7 false (.am7 T8),gQ 10 7 false (.aa7 0 T9),gQ 11 7 false (.load none T10),gQ 12 7 false (.mov T1),gK 13 7 false (.call 31 [T11,T12]),gQ 14 7 false (.not T13),oQ 15 (.pick T7 (cB true) T14)] [0,1,15])
(.cond T15
(.seq
(.reg 2 [oM 4 (cI (-1))] [4])
.ret)
.skip))
(.seq
(.reg 3 [oM 16 T0,oQ 17 (.am7 T16),oQ 18 (.aa7 0 T17),oQ 19 (.load none T18),oM 20 T1,oQ 21 (.ab5 17 T19 T20),oQ 22 (.aa7 15 T21),oQ 23 (.load none T22),oM 4 T23] [4])
.ret)))
theorem fok21:FOK Tryz.prog 21 (24,ic21,[(.t 4)]):=ai1 [] Tryz.func21
def ic22:IC :=
(.seq
(.reg 0 [oM 4 (cI 0)] [0,1])
(.seq
(.seq
(.reg 1 [oM 5 T0,oQ 6 (.bc9 (.pointer 63) false T5),oM 7 T6,gQ 8 7 false (.mov T0),gQ 9 7 false (.am7 T8),gQ 10 7 false (.aa7 0 T9),gQ 11 7 false (.load none T10),gQ 12 7 false (.mov T1),gK 13 7 false (.call 31 [T11,T12]),gQ 14 7 false (.not T13),oQ 15 (.pick T7 (cB true) T14)] [0,1,15])
(.cond T15
(.seq
(.reg 2 [oM 4 (cI 0)] [4])
.ret)
.skip))
(.seq
(.reg 3 [oM 16 T0,oQ 17 (.am7 T16),oQ 18 (.aa7 0 T17),oQ 19 (.load none T18),oM 20 T1,oQ 21 (.ab5 17 T19 T20),oQ 22 (.aa7 16 T21),oQ 23 (.load none T22),oM 4 T23] [4])
.ret)))
theorem fok22:FOK Tryz.prog 22 (24,ic22,[(.t 4)]):=ai1 [] Tryz.func22
def ic23:IC :=
(.seq
(.reg 0 [oK 1 (.aj8 T0),oM 2 (cB false)] [1])
(.seq
(.seq
(.reg 1 [oQ 8 (.aa7 6 T1),oQ 9 (.load none T8),oQ 10 (.len 0 T9),oQ 11 (.bin .gtr T10 (cI 100)),oM 12 T11,gQ 13 12 false (.aa7 9 T1),gQ 14 12 false (.load none T13),gQ 15 12 false (.len 0 T14),gQ 16 12 false (.bin .gtr T15 (cI 100)),oQ 17 (.pick T12 (cB true) T16),oM 18 T17,gQ 19 18 false (.aa7 14 T1),gQ 20 18 false (.load none T19),gQ 21 18 false (.len 0 T20),gQ 22 18 false (.bin .gtr T21 (cI 100)),oQ 23 (.pick T18 (cB true) T22),oM 24 T23,gQ 25 24 false (.aa7 0 T1),gQ 26 24 false (.load none T25),gQ 27 24 false (.len 1 T26),gQ 28 24 false (.bin .gtr T27 (cI 1000)),oQ 29 (.pick T24 (cB true) T28),oM 30 T29,gQ 31 30 false (.aa7 5 T1),gQ 32 30 false (.load none T31),gQ 33 30 false (.len 1 T32),gQ 34 30 false (.bin .gtr T33 (cI 1000)),oQ 35 (.pick T30 (cB true) T34),oM 36 T35,gQ 37 36 false (.aa7 1 T1),gQ 38 36 false (.aa7 1 T37),gQ 39 36 false (.load none T38),gQ 40 36 false (.len 1 T39),gQ 41 36 false (.bin .gtr T40 (cI 1000)),oQ 42 (.pick T36 (cB true) T41),oM 43 T42,gQ 44 43 false (.aa7 1 T1),gQ 45 43 false (.aa7 2 T44),gQ 46 43 false (.load none T45),gQ 47 43 false (.len 1 T46),gQ 48 43 false (.bin .gtr T47 (cI 1000)),oQ 49 (.pick T43 (cB true) T48)] [1,49])
(.cond T49
(.seq
(.reg 2 [oM 2 (cB true)] [2])
.ret)
.skip))
(.seq
(.reg 3 [oM 3 (cI 0)] [1,3])
(.seq
(.seq
(.reg 4 [oQ 50 (.aa7 7 T1),oQ 51 (.load none T50),oQ 52 (.aa7 8 T1),oQ 53 (.load none T52),oQ 54 (.aa7 10 T1),oQ 55 (.load none T54),oQ 56 (.aa7 11 T1),oQ 57 (.load none T56),oQ 58 (.aa7 12 T1),oQ 59 (.load none T58),oQ 60 (.aa7 13 T1),oQ 61 (.load none T60),oK 62 (.as5 1 6 [.aa1] [⟨0,⟨1,T51⟩⟩,⟨1,⟨1,T53⟩⟩,⟨2,⟨1,T55⟩⟩,⟨3,⟨1,T57⟩⟩,⟨4,⟨1,T59⟩⟩,⟨5,⟨1,T61⟩⟩]),oQ 63 (.len 0 T62),oM 64 (cI 0)] [3,62,63,64])
(.block 0
(.loop
(.seq
(.reg 5 [oQ 65 (.bin .lss T64 T63)] [3,62,63,64,65])
(.seq
(.cond T65
.skip
(.exit 0))
(.seq
(.block 1
(.seq
(.reg 6 [oQ 66 (.ab5 1 T62 T64),oQ 67 (.load none T66),oM 5 T67] [3,5,62,63,64])
(.seq
(.reg 7 [oM 69 T5,oK 70 (.call 37 [T69,(cI 0)]),oM 68 T70,oQ 71 (.ext 0 T68),oQ 72 (.ext 1 T68),oM 6 T71,oM 7 T72] [3,6,7,62,63,64])
(.seq
(.reg 8 [oM 73 T3,oM 74 T6,oQ 75 (.bin .add T73 T74),oM 3 T75] [3,7,62,63,64])
(.seq
(.reg 9 [oM 76 T7,oM 77 T76,gQ 78 77 false (.mov T3),gQ 79 77 false (.bin .gtr T78 (cI 2000)),oQ 80 (.pick T77 (cB true) T79)] [3,62,63,64,80])
(.cond T80
(.seq
(.reg 10 [oM 2 (cB true)] [2])
.ret)
.skip))))))
(.reg 11 [oQ 81 (.bin .add T64 (cI 1)),oM 64 T81] [3,62,63,64])))))))
(.seq
(.reg 12 [oM 2 (cB false)] [2])
.ret)))))
theorem fok23:FOK Tryz.prog 23 (82,ic23,[(.t 2)]):=ai1 [1000001,1000062] Tryz.func23
def ic24:IC :=
(.seq
(.reg 0 [oK 2 (.alloc [(.str []),(zI 0),(.str []),(.str []),(zU 0),(.str []),.aa1,.aa1,.aa1,.aa1,.aa1,.aa1,.aa1,.aa1,.aa1])] [0,2])
(.seq
(.reg 1 [oM 3 T0,oQ 4 (.bld [(zI 0),(.str []),(.str [])] [⟨1,⟨1,(.c (.str [49]))⟩⟩,⟨2,⟨1,(.c (.str [49]))⟩⟩]),oQ 5 (.bld [(.str []),(zI 0),(.str []),(.str []),(zU 0),(.str []),.aa1,.aa1,.aa1,.aa1,.aa1,.aa1,.aa1,.aa1,.aa1] [⟨0,⟨1,T3⟩⟩,⟨1,⟨3,T4⟩⟩,⟨4,⟨1,(.c (zU 1))⟩⟩]),oN (.store 15 T2 T5)] [2])
.ret))
theorem fok24:FOK Tryz.prog 24 (6,ic24,[(.cell (some 15) 2)]):=ai1 [] Tryz.func24
def ic25:IC :=
(.seq
(.reg 0 [oM 8 (cI 0)] [0,1,2,3])
(.seq
(.seq
(.reg 1 [oM 11 T1,oQ 12 (.len 0 T11),oM 13 (cI 0)] [0,2,3,11,12,13])
(.block 0
(.loop
(.seq
(.reg 2 [oQ 14 (.bin .lss T13 T12)] [0,2,3,11,12,13,14])
(.seq
(.cond T14
.skip
(.exit 0))
(.seq
(.block 1
(.seq
(.reg 3 [oQ 15 (.ab5 15 T11 T13),oQ 16 (.load (some 15) T15),oK 10 (.alloc [(.str []),(zI 0),(.str []),(.str []),(zU 0),(.str []),.aa1,.aa1,.aa1,.aa1,.aa1,.aa1,.aa1,.aa1,.aa1]),oN (.store 15 T10 T16)] [0,2,3,10,11,12,13])
(.seq
(.seq
(.reg 4 [oQ 17 (.load (some 15) T10),oK 18 (.ae7 38 [T17]),oQ 19 (.not T18)] [0,2,3,10,11,12,13,19])
(.cond T19
(.seq
(.reg 5 [oM 8 (cI 4)] [8])
.ret)
.skip))
(.seq
(.dreg 6 [oM 20 T0,oQ 21 (.am7 T20),oQ 22 (.aa7 2 T21),oQ 23 (.load none T22),oQ 24 (.aa7 0 T10),oQ 25 (.load none T24),oM 26 T0,oQ 27 (.am7 T26),oQ 28 (.aa7 2 T27),oQ 29 (.load none T28),oQ 30 (.aa7 0 T10),oQ 31 (.load none T30),oQ 32 (.lkp 2 .aa1 false T29 T31),oM 33 T0,oQ 34 (.am7 T33),oQ 35 (.aa7 0 T34),oQ 36 (.load none T35),oQ 37 (.len 0 T36),oK 38 (.as5 1 1 [(zI 0)] [⟨0,⟨1,T37⟩⟩]),oK 39 (.app 1 T32 T38),oN (.dv3 2 T23 T25 T39)] true [0,2,3,10,11,12,13])
(.dreg 7 [oM 40 T0,oM 41 T0,oQ 42 (.am7 T41),oQ 43 (.aa7 0 T42),oQ 44 (.load none T43),oQ 45 (.load (some 15) T10),oK 46 (.ae7 34 [T45]),oM 47 T2,oM 48 T3,oQ 49 (.bld [(.str []),(zI 0),(.str []),(.str []),(zU 0),(.str []),.aa1,.aa1,.aa1,.aa1,.aa1,.aa1,.aa1,.aa1,.aa1,(zI 0),(zI 0)] [⟨0,⟨15,T46⟩⟩,⟨15,⟨1,T47⟩⟩,⟨16,⟨1,T48⟩⟩]),oK 50 (.as5 17 1 [(.str []),(zI 0),(.str []),(.str []),(zU 0),(.str []),.aa1,.aa1,.aa1,.aa1,.aa1,.aa1,.aa1,.aa1,.aa1,(zI 0),(zI 0)] [⟨0,⟨17,T49⟩⟩]),oK 51 (.app 17 T44 T50),oQ 52 (.am7 T40),oQ 53 (.aa7 0 T52),oN (.store 1 T53 T51)] true [0,2,3,11,12,13])))))
(.reg 8 [oQ 54 (.bin .add T13 (cI 1)),oM 13 T54] [0,2,3,11,12,13])))))))
(.seq
(.reg 9 [oM 8 (cI 0)] [8])
.ret)))
theorem fok25:FOK Tryz.prog 25 (55,ic25,[(.t 8)]):=ai1 ([1000038,1000050]++hi6) Tryz.func25
def ic26:IC :=
(.seq
(.reg 0 [oK 1 (.aj8 T0),oM 2 (cB false)] [1])
(.seq
(.seq
(.reg 1 [oQ 4 (.aa7 0 T1),oQ 5 (.load none T4),oK 6 (.call 39 [T5]),oQ 7 (.not T6),oM 8 T7,gQ 9 8 false (.aa7 0 T1),gQ 10 8 false (.load none T9),gK 11 8 false (.call 40 [T10]),oQ 12 (.pick T8 (cB true) T11),oM 13 T12,gQ 14 13 false (.aa7 1 T1),gQ 15 13 false (.load (some 3) T14),gK 16 13 false (.call 41 [T15,(cB false)]),gQ 17 13 false (.not T16),oQ 18 (.pick T13 (cB true) T17),oM 19 T18,gQ 20 19 false (.aa7 4 T1),gQ 21 19 false (.load none T20),gK 22 19 false (.call 42 [T21]),gQ 23 19 false (.bin .eql T22 (.c (.str []))),oQ 24 (.pick T19 (cB true) T23),oM 25 T24,gQ 26 25 false (.aa7 5 T1),gQ 27 25 false (.load none T26),gQ 28 25 false (.len 1 T27),gQ 29 25 false (.bin .gtr T28 (cI 64)),oQ 30 (.pick T25 (cB true) T29),oM 31 T30,gQ 32 31 false (.aa7 14 T1),gQ 33 31 false (.load none T32),gQ 34 31 false (.len 0 T33),gQ 35 31 false (.bin .gtr T34 (cI 32)),oQ 36 (.pick T31 (cB true) T35)] [1,36])
(.cond T36
(.seq
(.reg 2 [oM 2 (cB false)] [2])
.ret)
.skip))
(.seq
(.seq
(.reg 3 [oM 3 (cI 0)] [1,3])
(.block 0
(.loop
(.seq
(.seq
(.reg 4 [oM 37 T3,oQ 38 (.aa7 14 T1),oQ 39 (.load none T38),oQ 40 (.len 0 T39),oQ 41 (.bin .lss T37 T40)] [1,3,41])
(.cond T41
.skip
(.exit 0)))
(.seq
(.block 1
(.seq
(.dreg 6 [oQ 44 (.aa7 14 T1),oQ 45 (.load none T44),oM 46 T3,oQ 47 (.ab5 1 T45 T46),oQ 48 (.load none T47),oK 49 (.call 40 [T48]),oQ 50 (.not T49),oM 51 T50,gQ 52 51 false (.mov T3),gQ 53 51 false (.bin .gtr T52 (cI 0)),gQ 54 51 false (.mov T53),gQ 55 54 true (.aa7 14 T1),gQ 56 54 true (.load none T55),gQ 57 54 true (.mov T3),gQ 58 54 true (.bin .sub T57 (cI 1)),gQ 59 54 true (.ab5 1 T56 T58),gQ 60 54 true (.load none T59),gQ 61 54 true (.aa7 14 T1),gQ 62 54 true (.load none T61),gQ 63 54 true (.mov T3),gQ 64 54 true (.ab5 1 T62 T63),gQ 65 54 true (.load none T64),gQ 66 54 true (.bin .geq T60 T65),gQ 67 51 false (.pick T54 T66 (cB false)),oQ 68 (.pick T51 (cB true) T67)] false [1,3,68])
(.cond T68
(.seq
(.reg 7 [oM 2 (cB false)] [2])
.ret)
.skip)))
(.reg 5 [oM 42 T3,oQ 43 (.bin .add T42 (cI 1)),oM 3 T43] [1,3]))))))
(.seq
(.reg 8 [oQ 69 (.aa7 6 T1),oQ 70 (.load none T69),oK 71 (.call 43 [T70]),oM 72 T71,gQ 73 72 true (.aa7 9 T1),gQ 74 72 true (.load none T73),gK 75 72 true (.call 43 [T74]),oQ 76 (.pick T72 T75 (cB false)),oM 77 T76,gQ 78 77 true (.aa7 7 T1),gQ 79 77 true (.load none T78),gK 80 77 true (.call 44 [T79,(.c (zU 1))]),oQ 81 (.pick T77 T80 (cB false)),oM 82 T81,gQ 83 82 true (.aa7 10 T1),gQ 84 82 true (.load none T83),gK 85 82 true (.call 44 [T84,(.c (zU 1))]),oQ 86 (.pick T82 T85 (cB false)),oM 87 T86,gQ 88 87 true (.aa7 12 T1),gQ 89 87 true (.load none T88),gK 90 87 true (.call 44 [T89,(.c (zU 1))]),oQ 91 (.pick T87 T90 (cB false)),oM 92 T91,gQ 93 92 true (.aa7 8 T1),gQ 94 92 true (.load none T93),gK 95 92 true (.call 44 [T94,(.c (zU 2))]),oQ 96 (.pick T92 T95 (cB false)),oM 97 T96,gQ 98 97 true (.aa7 11 T1),gQ 99 97 true (.load none T98),gK 100 97 true (.call 44 [T99,(.c (zU 3))]),oQ 101 (.pick T97 T100 (cB false)),oM 102 T101,gQ 103 102 true (.aa7 13 T1),gQ 104 102 true (.load none T103),gK 105 102 true (.call 44 [T104,(.c (zU 3))]),oQ 106 (.pick T102 T105 (cB false)),oM 2 T106] [2])
.ret))))
theorem fok26:FOK Tryz.prog 26 (107,ic26,[(.t 2)]):=ai1 [1000001] Tryz.func26
def ic27:IC :=
(.seq
(.reg 0 [oK 1 (.aj8 T0),oK 2 (.alloc [(.str []),(zI 0),(.str []),(.str []),(zU 0),(.str []),.aa1,.aa1,.aa1,.aa1,.aa1,.aa1,.aa1,.aa1,.aa1])] [1,2])
(.seq
(.dreg 1 [oQ 3 (.aa7 0 T1),oQ 4 (.load none T3),oQ 5 (.aa7 1 T1),oQ 6 (.load (some 3) T5),oQ 7 (.aa7 4 T1),oQ 8 (.load none T7),oQ 9 (.aa7 5 T1),oQ 10 (.load none T9),oK 11 (.bsl 5 0 [(.str []),(zU 0),(zI 0),(.str []),(.str [])] []),oQ 12 (.aa7 6 T1),oQ 13 (.load none T12),oK 14 (.app 5 T11 T13),oQ 15 (.aa7 7 T1),oQ 16 (.load none T15),oK 17 (.ae7 45 [T16]),oQ 18 (.aa7 8 T1),oQ 19 (.load none T18),oK 20 (.ae7 45 [T19]),oK 21 (.bsl 5 0 [(.str []),(zU 0),(zI 0),(.str []),(.str [])] []),oQ 22 (.aa7 9 T1),oQ 23 (.load none T22),oK 24 (.app 5 T21 T23),oQ 25 (.aa7 10 T1),oQ 26 (.load none T25),oK 27 (.ae7 45 [T26]),oQ 28 (.aa7 11 T1),oQ 29 (.load none T28),oK 30 (.ae7 45 [T29]),oQ 31 (.aa7 12 T1),oQ 32 (.load none T31),oK 33 (.ae7 45 [T32]),oQ 34 (.aa7 13 T1),oQ 35 (.load none T34),oK 36 (.ae7 45 [T35]),oK 37 (.bsl 1 0 [(.str [])] []),oQ 38 (.aa7 14 T1),oQ 39 (.load none T38),oK 40 (.app 1 T37 T39),oQ 41 (.bld [(.str []),(zI 0),(.str []),(.str []),(zU 0),(.str []),.aa1,.aa1,.aa1,.aa1,.aa1,.aa1,.aa1,.aa1,.aa1] [⟨0,⟨1,T4⟩⟩,⟨1,⟨3,T6⟩⟩,⟨4,⟨1,T8⟩⟩,⟨5,⟨1,T10⟩⟩,⟨6,⟨1,T14⟩⟩,⟨7,⟨1,T17⟩⟩,⟨8,⟨1,T20⟩⟩,⟨9,⟨1,T24⟩⟩,⟨10,⟨1,T27⟩⟩,⟨11,⟨1,T30⟩⟩,⟨12,⟨1,T33⟩⟩,⟨13,⟨1,T36⟩⟩,⟨14,⟨1,T40⟩⟩]),oN (.store 15 T2 T41)] true [2])
.ret))
theorem fok27:FOK Tryz.prog 27 (42,ic27,[(.cell (some 15) 2)]):=ai1 ([1000001]++hi6) Tryz.func27
def ic28:IC :=
(.seq
(.reg 0 [oM 2 (.c .aa1)] [0])
(.seq
(.seq
(.reg 1 [oM 3 T0,oQ 4 (.bc9 (.slice 3) false T3)] [0,4])
(.cond T4
(.seq
(.reg 2 [oM 2 (.c .aa1)] [2])
.ret)
.skip))
(.seq
(.reg 3 [oK 5 (.bsl 1 0 [(zI 0)] []),oM 6 T0,oK 7 (.app 1 T5 T6),oM 2 T7] [2])
.ret)))
theorem fok28:FOK Tryz.prog 28 (8,ic28,[(.t 2)]):=ai1 [] Tryz.func28
def ic29:IC :=
(.seq
(.reg 0 [oM 2 (.c .aa1)] [0])
(.seq
(.reg 1 [oM 4 T0,oK 5 (.call 46 [T4]),oM 3 T5] [3])
(.seq
(.reg 2 [oM 6 T3,oK 7 (.call 47 [T6])] [3])
(.seq
(.reg 3 [oM 8 T3,oM 2 T8] [2])
.ret))))
theorem fok29:FOK Tryz.prog 29 (9,ic29,[(.t 2)]):=ai1 [] Tryz.func29
def ic30:IC :=
(.seq
(.reg 0 [oK 1 (.aj8 T0),oM 2 (.c .ae4)] [1])
(.seq
(.reg 1 [oQ 3 (.mkf 48 [] [T1]),oM 2 T3] [2])
.ret))
theorem fok30:FOK Tryz.prog 30 (4,ic30,[(.t 2)]):=ai1 [1000001] Tryz.func30
def ic31:IC :=
(.seq
(.reg 0 [oM 4 (cB false)] [0,1])
(.seq
(.reg 1 [oM 5 T1,oQ 6 (.bin .geq T5 (cI 0)),oM 7 T6,gQ 8 7 true (.mov T1),gQ 9 7 true (.mov T0),gQ 10 7 true (.len 0 T9),gQ 11 7 true (.bin .lss T8 T10),oQ 12 (.pick T7 T11 (cB false)),oM 4 T12] [4])
.ret))
theorem fok31:FOK Tryz.prog 31 (13,ic31,[(.t 4)]):=ai1 [] Tryz.func31
def ic32:IC :=
(.seq
(.reg 0 [oK 2 (.aj8 T0),oK 3 (.aj8 T1),oM 4 (cB false)] [2,3])
(.seq
(.reg 1 [oQ 5 (.aa7 9 T2),oQ 6 (.load none T5),oQ 7 (.mkf 50 [] [T3]),oK 8 (.call 49 [T6,T7]),oM 4 T8] [4])
.ret))
theorem fok32:FOK Tryz.prog 32 (9,ic32,[(.t 4)]):=ai1 [1000002,1000003] Tryz.func32
def ic33:IC :=
(.seq
(.reg 0 [oK 2 (.aj8 T0),oK 3 (.aj8 T1),oM 4 (cB false)] [2,3])
(.seq
(.seq
(.reg 1 [oM 5 (cI 0)] [2,3,5])
(.block 0
(.loop
(.seq
(.seq
(.reg 2 [oM 6 T5,oQ 7 (.aa7 9 T2),oQ 8 (.load none T7),oQ 9 (.len 0 T8),oQ 10 (.bin .lss T6 T9)] [2,3,5,10])
(.cond T10
.skip
(.exit 0)))
(.seq
(.block 1
(.seq
(.dreg 4 [oQ 13 (.load (some 15) T3),oQ 14 (.aa7 9 T2),oQ 15 (.load none T14),oM 16 T5,oQ 17 (.ab5 5 T15 T16),oQ 18 (.load (some 5) T17),oK 19 (.call 52 [T13,T18])] false [2,3,5,19])
(.cond T19
(.seq
(.reg 5 [oM 4 (cB true)] [4])
.ret)
.skip)))
(.reg 3 [oM 11 T5,oQ 12 (.bin .add T11 (cI 1)),oM 5 T12] [2,3,5]))))))
(.seq
(.reg 6 [oM 4 (cB false)] [4])
.ret)))
theorem fok33:FOK Tryz.prog 33 (20,ic33,[(.t 4)]):=ai1 [1000002,1000003] Tryz.func33
def ic34:IC :=
(.seq
(.reg 0 [oK 1 (.box T0),oK 2 (.alloc [(.str []),(zI 0),(.str []),(.str []),(zU 0),(.str []),.aa1,.aa1,.aa1,.aa1,.aa1,.aa1,.aa1,.aa1,.aa1])] [1,2])
(.seq
(.dreg 1 [oQ 7 (.aa7 6 T1),oQ 8 (.load none T7),oK 9 (.ae7 53 [T8]),oQ 10 (.aa7 9 T1),oQ 11 (.load none T10),oK 12 (.ae7 53 [T11]),oQ 13 (.aa7 14 T1),oQ 14 (.load none T13),oK 15 (.ae7 54 [T14]),oQ 16 (.aa7 6 T1),oN (.store 1 T16 T9),oQ 17 (.aa7 9 T1),oN (.store 1 T17 T12),oQ 18 (.aa7 14 T1),oN (.store 1 T18 T15)] false [1,2])
(.seq
(.seq
(.reg 2 [oQ 19 (.aa7 7 T1),oQ 20 (.aa7 8 T1),oQ 21 (.aa7 10 T1),oQ 22 (.aa7 11 T1),oQ 23 (.aa7 12 T1),oQ 24 (.aa7 13 T1),oK 25 (.as5 1 6 [.ad5] [⟨0,⟨1,T19⟩⟩,⟨1,⟨1,T20⟩⟩,⟨2,⟨1,T21⟩⟩,⟨3,⟨1,T22⟩⟩,⟨4,⟨1,T23⟩⟩,⟨5,⟨1,T24⟩⟩]),oQ 26 (.len 0 T25),oM 27 (cI 0)] [1,2,25,26,27])
(.block 0
(.loop
(.seq
(.reg 3 [oQ 28 (.bin .lss T27 T26)] [1,2,25,26,27,28])
(.seq
(.cond T28
.skip
(.exit 0))
(.seq
(.block 1
(.seq
(.reg 4 [oQ 29 (.ab5 1 T25 T27),oQ 30 (.load none T29),oM 4 T30] [1,2,4,25,26,27])
(.seq
(.reg 5 [oM 31 T4,oM 32 T4,oQ 33 (.am7 T32),oQ 34 (.load none T33),oK 35 (.call 55 [T34]),oQ 36 (.am7 T31),oN (.store 1 T36 T35)] [1,2,4,25,26,27])
(.seq
(.reg 6 [oM 37 T4,oQ 38 (.am7 T37),oQ 39 (.load none T38),oQ 40 (.len 0 T39),oM 41 (cI 0)] [1,2,4,25,26,27,39,40,41])
(.block 2
(.loop
(.seq
(.reg 7 [oQ 42 (.bin .lss T41 T40)] [1,2,4,25,26,27,39,40,41,42])
(.seq
(.cond T42
.skip
(.exit 2))
(.seq
(.block 3
(.seq
(.reg 8 [oM 43 T41,oQ 44 (.ab5 7 T39 T41),oQ 45 (.load (some 7) T44),oK 6 (.alloc [(zU 0),(.str []),(zU 0),(zI 0),(.str []),(.str []),.aa1]),oM 5 T43,oN (.store 7 T6 T45)] [1,2,4,5,6,25,26,27,39,40,41])
(.dreg 9 [oM 46 T4,oQ 47 (.am7 T46),oQ 48 (.load none T47),oM 49 T5,oQ 50 (.load (some 7) T6),oK 51 (.ae7 56 [T50]),oQ 52 (.ab5 7 T48 T49),oN (.store 7 T52 T51)] false [1,2,4,25,26,27,39,40,41])))
(.reg 10 [oQ 53 (.bin .add T41 (cI 1)),oM 41 T53] [1,2,4,25,26,27,39,40,41]))))))))))
(.reg 11 [oQ 54 (.bin .add T27 (cI 1)),oM 27 T54] [1,2,25,26,27])))))))
(.seq
(.reg 12 [oQ 55 (.load (some 15) T1),oN (.store 15 T2 T55)] [2])
.ret))))
theorem fok34:FOK Tryz.prog 34 (56,ic34,[(.cell (some 15) 2)]):=ai1 ([1000025]++List.filter (fun k=>k != 55) hi6) Tryz.func34
def ic35:IC :=
(.seq
(.reg 0 [oM 4 (cB false)] [0,1])
(.seq
(.seq
(.reg 1 [oM 6 T0,oQ 7 (.len 0 T6),oM 8 T1,oQ 9 (.len 0 T8),oQ 10 (.bin .neq T7 T9)] [0,1,10])
(.cond T10
(.seq
(.reg 2 [oM 4 (cB false)] [4])
.ret)
.skip))
(.seq
(.seq
(.reg 3 [oM 5 (cI 0)] [0,1,5])
(.block 0
(.loop
(.seq
(.seq
(.reg 4 [oM 11 T5,oM 12 T0,oQ 13 (.len 0 T12),oQ 14 (.bin .lss T11 T13)] [0,1,5,14])
(.cond T14
.skip
(.exit 0)))
(.seq
(.block 1
(.seq
(.dreg 6 [oM 17 T0,oM 18 T5,oQ 19 (.ab5 5 T17 T18),oQ 20 (.load (some 5) T19),oM 21 T1,oM 22 T5,oQ 23 (.ab5 5 T21 T22),oQ 24 (.load (some 5) T23),oQ 25 (.eqs [2,1,1,2,2] true true T20 T24)] false [0,1,5,25])
(.cond T25
(.seq
(.reg 7 [oM 4 (cB false)] [4])
.ret)
.skip)))
(.reg 5 [oM 15 T5,oQ 16 (.bin .add T15 (cI 1)),oM 5 T16] [0,1,5]))))))
(.seq
(.reg 8 [oM 4 (cB true)] [4])
.ret))))
theorem fok35:FOK Tryz.prog 35 (26,ic35,[(.t 4)]):=ai1 [] Tryz.func35
def ic36:IC :=
(.seq
(.reg 0 [oM 4 (cB false)] [0,1])
(.seq
(.seq
(.reg 1 [oM 6 T0,oQ 7 (.len 0 T6),oM 8 T1,oQ 9 (.len 0 T8),oQ 10 (.bin .neq T7 T9)] [0,1,10])
(.cond T10
(.seq
(.reg 2 [oM 4 (cB false)] [4])
.ret)
.skip))
(.seq
(.seq
(.reg 3 [oM 5 (cI 0)] [0,1,5])
(.block 0
(.loop
(.seq
(.seq
(.reg 4 [oM 11 T5,oM 12 T0,oQ 13 (.len 0 T12),oQ 14 (.bin .lss T11 T13)] [0,1,5,14])
(.cond T14
.skip
(.exit 0)))
(.seq
(.block 1
(.seq
(.dreg 6 [oM 17 T0,oM 18 T5,oQ 19 (.ab5 7 T17 T18),oQ 20 (.load (some 7) T19),oM 21 T1,oM 22 T5,oQ 23 (.ab5 7 T21 T22),oQ 24 (.load (some 7) T23),oK 25 (.call 57 [T20,T24]),oQ 26 (.not T25)] false [0,1,5,26])
(.cond T26
(.seq
(.reg 7 [oM 4 (cB false)] [4])
.ret)
.skip)))
(.reg 5 [oM 15 T5,oQ 16 (.bin .add T15 (cI 1)),oM 5 T16] [0,1,5]))))))
(.seq
(.reg 8 [oM 4 (cB true)] [4])
.ret))))
theorem fok36:FOK Tryz.prog 36 (27,ic36,[(.t 4)]):=ai1 [] Tryz.func36
def ic37:IC :=
(.seq
(.reg 0 [oM 4 (cI 0),oM 5 (cB false)] [0,1])
(.seq
(.seq
(.reg 1 [oM 10 T1,oQ 11 (.bin .gtr T10 (cI 20)),oM 12 T11,gQ 13 12 false (.mov T0),gQ 14 12 false (.len 0 T13),gQ 15 12 false (.bin .gtr T14 (cI 100)),oQ 16 (.pick T12 (cB true) T15)] [0,1,16])
(.cond T16
(.seq
(.reg 2 [oM 4 (cI 0),oM 5 (cB true)] [4,5])
.ret)
.skip))
(.seq
(.reg 3 [oM 6 (cI 0)] [0,1,6])
(.seq
(.seq
(.reg 4 [oM 7 (cI 0)] [0,1,6,7])
(.block 0
(.loop
(.seq
(.seq
(.reg 5 [oM 17 T7,oM 18 T0,oQ 19 (.len 0 T18),oQ 20 (.bin .lss T17 T19)] [0,1,6,7,20])
(.cond T20
.skip
(.exit 0)))
(.seq
(.block 1
(.seq
(.seq
(.dreg 7 [oM 23 T0,oM 24 T7,oQ 25 (.ab5 7 T23 T24),oQ 26 (.aa7 1 T25),oQ 27 (.aa7 0 T26),oQ 28 (.load none T27),oQ 29 (.len 1 T28),oM 30 T0,oM 31 T7,oQ 32 (.ab5 7 T30 T31),oQ 33 (.aa7 1 T32),oQ 34 (.aa7 2 T33),oQ 35 (.aa7 1 T34),oQ 36 (.load none T35),oQ 37 (.len 1 T36),oQ 38 (.bin .add T29 T37),oQ 39 (.bin .gtr T38 (cI 500)),oM 40 T39,gQ 41 40 false (.mov T0),gQ 42 40 false (.mov T7),gQ 43 40 false (.ab5 7 T41 T42),gQ 44 40 false (.aa7 1 T43),gQ 45 40 false (.aa7 2 T44),gQ 46 40 false (.aa7 2 T45),gQ 47 40 false (.load none T46),gQ 48 40 false (.len 1 T47),gQ 49 40 false (.bin .gtr T48 (cI 500)),oQ 50 (.pick T40 (cB true) T49)] false [0,1,6,7,50])
(.cond T50
(.seq
(.reg 8 [oM 4 (cI 0),oM 5 (cB true)] [4,5])
.ret)
.skip))
(.seq
(.reg 9 [oM 52 T0,oM 53 T7,oQ 54 (.ab5 7 T52 T53),oQ 55 (.aa7 6 T54),oQ 56 (.load none T55),oM 57 T1,oQ 58 (.bin .add T57 (cI 1)),oK 59 (.call 37 [T56,T58]),oM 51 T59,oQ 60 (.ext 0 T51),oQ 61 (.ext 1 T51),oM 8 T60,oM 9 T61] [0,1,6,7,8,9])
(.seq
(.reg 10 [oM 62 T6,oQ 63 (.bin .add T62 (cI 1)),oM 64 T8,oQ 65 (.bin .add T63 T64),oM 6 T65] [0,1,6,7,9])
(.seq
(.reg 11 [oM 66 T9,oM 67 T66,gQ 68 67 false (.mov T6),gQ 69 67 false (.bin .gtr T68 (cI 2000)),oQ 70 (.pick T67 (cB true) T69)] [0,1,6,7,70])
(.cond T70
(.seq
(.reg 12 [oM 4 (cI 0),oM 5 (cB true)] [4,5])
.ret)
.skip))))))
(.reg 6 [oM 21 T7,oQ 22 (.bin .add T21 (cI 1)),oM 7 T22] [0,1,6,7]))))))
(.seq
(.reg 13 [oM 71 T6,oM 4 T71,oM 5 (cB false)] [4,5])
.ret)))))
theorem fok37:FOK Tryz.prog 37 (72,ic37,[(.t 4),(.t 5)]):=ai1 [] Tryz.func37
def ic38:IC :=
(.seq
(.reg 0 [oK 1 (.aj8 T0),oK 2 (.alloc [(.bool false)])] [1,2])
(.seq
(.block 0
(.seq
(.reg 1 [oQ 8 (.aa7 0 T1),oQ 9 (.load none T8),oK 10 (.call 58 [T9]),oQ 11 (.not T10),oM 12 T11,gQ 13 12 false (.aa7 0 T1),gQ 14 12 false (.load none T13),gK 15 12 false (.call 59 [T14]),oQ 16 (.pick T12 (cB true) T15),oM 17 T16,gQ 18 17 false (.aa7 1 T1),gQ 19 17 false (.load (some 3) T18),gK 20 17 false (.call 60 [T19,(cB false)]),gQ 21 17 false (.not T20),oQ 22 (.pick T17 (cB true) T21),oM 7 T22] [1,2,7])
(.cond T7
(.seq
(.reg 2 [oN (.store 1 T2 (cB false))] [2])
.ret)
(.seq
(.reg 3 [oQ 24 (.aa7 4 T1),oQ 25 (.load none T24),oK 26 (.call 61 [T25]),oQ 27 (.bin .eql T26 (.c (.str []))),oM 28 T27,gQ 29 28 false (.aa7 5 T1),gQ 30 28 false (.load none T29),gQ 31 28 false (.len 1 T30),gQ 32 28 false (.bin .gtr T31 (cI 64)),oQ 33 (.pick T28 (cB true) T32),oM 23 T33] [1,2,23])
(.cond T23
(.seq
(.reg 4 [oN (.store 1 T2 (cB false))] [2])
.ret)
(.seq
(.reg 5 [oQ 35 (.aa7 6 T1),oQ 36 (.load none T35),oK 37 (.call 62 [T36,(cI 32),(.f 63)]),oQ 38 (.not T37),oM 39 T38,gQ 40 39 false (.aa7 9 T1),gQ 41 39 false (.load none T40),gK 42 39 false (.call 62 [T41,(cI 32),(.f 63)]),gQ 43 39 false (.not T42),oQ 44 (.pick T39 (cB true) T43),oM 45 T44,gQ 46 45 false (.aa7 14 T1),gQ 47 45 false (.load none T46),gK 48 45 false (.call 64 [T47,(cI 32),(.f 59)]),gQ 49 45 false (.not T48),oQ 50 (.pick T45 (cB true) T49),oM 34 T50] [1,2,34])
(.cond T34
(.seq
(.reg 6 [oN (.store 1 T2 (cB false))] [2])
.ret)
.skip)))))))
(.seq
(.seq
(.reg 7 [oQ 51 (.aa7 14 T1),oQ 52 (.load none T51),oQ 53 (.len 0 T52),oM 54 (cI 0)] [1,2,52,53,54])
(.block 1
(.loop
(.seq
(.reg 8 [oQ 55 (.bin .lss T54 T53)] [1,2,52,53,54,55])
(.seq
(.cond T55
.skip
(.exit 1))
(.seq
(.block 2
(.seq
(.reg 9 [oM 56 T54,oQ 57 (.ab5 1 T52 T54),oQ 58 (.load none T57),oM 3 T56,oM 4 T58] [1,2,3,4,52,53,54])
(.seq
(.reg 10 [oM 59 T3,oQ 60 (.bin .gtr T59 (cI 0)),oM 61 T60,gQ 62 61 true (.aa7 14 T1),gQ 63 61 true (.load none T62),gQ 64 61 true (.mov T3),gQ 65 61 true (.bin .sub T64 (cI 1)),gQ 66 61 true (.ab5 1 T63 T65),gQ 67 61 true (.load none T66),gQ 68 61 true (.mov T4),gQ 69 61 true (.bin .geq T67 T68),oQ 70 (.pick T61 T69 (cB false))] [1,2,52,53,54,70])
(.cond T70
(.seq
(.reg 11 [oN (.store 1 T2 (cB false))] [2])
.ret)
.skip))))
(.reg 12 [oQ 71 (.bin .add T54 (cI 1)),oM 54 T71] [1,2,52,53,54])))))))
(.seq
(.seq
(.reg 13 [oQ 72 (.load (some 15) T1),oK 73 (.call 65 [T72])] [2,73])
(.block 3
(.rfunc T73 [74,75]
(.seq
(.reg 14 [oK 5 (.alloc [(zU 0)]),oN (.store 1 T5 T74)] [2,5,75])
(.reg 15 [oM 6 T75] [2,5,6]))
(.block 4
(.seq
(.reg 16 [oM 76 T6,oQ 77 (.mkf 67 [] [T5]),oK 78 (.call 66 [T76,(cI 32),T77]),oQ 79 (.not T78)] [2,79])
(.cond T79
(.seq
(.reg 17 [oN (.store 1 T2 (cB false))] [])
.ret)
.skip))))))
(.seq
(.reg 18 [oN (.store 1 T2 (cB true))] [2])
.ret)))))
theorem fok38:FOK Tryz.prog 38 (80,ic38,[(.cell none 2)]):=ai1 [1000001] Tryz.func38
def ic39:IC :=
(.seq
(.reg 0 [oM 2 (cB false)] [0])
(.seq
(.seq
(.reg 1 [oM 4 T0,oQ 5 (.len 1 T4),oQ 6 (.bin .lss T5 (cI 1)),oM 7 T6,gQ 8 7 false (.mov T0),gQ 9 7 false (.len 1 T8),gQ 10 7 false (.bin .gtr T9 (cI 64)),oQ 11 (.pick T7 (cB true) T10),oM 12 T11,gQ 13 12 false (.mov T0),gQ 14 12 false (.bin .eql T13 (.c (.str [97,110,100]))),oQ 15 (.pick T12 (cB true) T14),oM 16 T15,gQ 17 16 false (.mov T0),gQ 18 16 false (.bin .eql T17 (.c (.str [111,114]))),oQ 19 (.pick T16 (cB true) T18),oM 20 T19,gQ 21 20 false (.mov T0),gQ 22 20 false (.bin .eql T21 (.c (.str [105,102]))),oQ 23 (.pick T20 (cB true) T22),oM 24 T23,gQ 25 24 false (.mov T0),gQ 26 24 false (.bin .eql T25 (.c (.str [101,108,115,101]))),oQ 27 (.pick T24 (cB true) T26),oM 28 T27,gQ 29 28 false (.mov T0),gQ 30 28 false (.bin .eql T29 (.c (.str [117,110,108,101,115,115]))),oQ 31 (.pick T28 (cB true) T30),oM 32 T31,gQ 33 32 false (.mov T0),gQ 34 32 false (.bin .eql T33 (.c (.str [119,105,116,104]))),oQ 35 (.pick T32 (cB true) T34),oM 36 T35,gQ 37 36 false (.mov T0),gQ 38 36 false (.bin .eql T37 (.c (.str [119,105,116,104,111,117,116]))),oQ 39 (.pick T36 (cB true) T38)] [0,39])
(.cond T39
(.seq
(.reg 2 [oM 2 (cB false)] [2])
.ret)
.skip))
(.seq
(.seq
(.reg 3 [oM 3 (cI 0)] [0,3])
(.block 0
(.loop
(.seq
(.seq
(.reg 4 [oM 40 T3,oM 41 T0,oQ 42 (.len 1 T41),oQ 43 (.bin .lss T40 T42)] [0,3,43])
(.cond T43
.skip
(.exit 0)))
(.seq
(.block 1
(.seq
(.reg 6 [oM 46 T0,oM 47 T3,oQ 48 (.ba9 T46 T47),oK 49 (.call 69 [T48]),oQ 50 (.not T49)] [0,3,50])
(.cond T50
(.seq
(.reg 7 [oM 2 (cB false)] [2])
.ret)
.skip)))
(.reg 5 [oM 44 T3,oQ 45 (.bin .add T44 (cI 1)),oM 3 T45] [0,3]))))))
(.seq
(.reg 8 [oM 2 (cB true)] [2])
.ret))))
theorem fok39:FOK Tryz.prog 39 (51,ic39,[(.t 2)]):=ai1 [] Tryz.func39
def ic40:IC :=
(.seq
(.reg 0 [oM 2 (cB false)] [0])
(.seq
(.reg 1 [oM 3 T0,oK 4 (.call 39 [T3]),oM 5 T4,gQ 6 5 true (.mov T0),gQ 7 5 true (.ba9 T6 (cI 0)),gQ 8 5 true (.bin .eql T7 (.c (zU 47))),oQ 9 (.pick T5 T8 (cB false)),oM 2 T9] [2])
.ret))
theorem fok40:FOK Tryz.prog 40 (10,ic40,[(.t 2)]):=ai1 [] Tryz.func40
def ic41:IC :=
(.seq
(.reg 0 [oK 2 (.aj8 T0),oM 4 (cB false)] [1,2])
(.seq
(.seq
(.reg 1 [oQ 5 (.aa7 0 T2),oQ 6 (.load none T5),oQ 7 (.bin .lss T6 (cI 0)),oM 8 T7,gQ 9 8 false (.aa7 0 T2),gQ 10 8 false (.load none T9),gQ 11 8 false (.bin .gtr T10 (cI 2147483647)),oQ 12 (.pick T8 (cB true) T11),oM 13 T12,gQ 14 13 false (.aa7 1 T2),gQ 15 13 false (.load none T14),gK 16 13 false (.call 70 [T15]),gQ 17 13 false (.not T16),oQ 18 (.pick T13 (cB true) T17)] [1,2,18])
(.cond T18
(.seq
(.reg 2 [oM 4 (cB false)] [4])
.ret)
.skip))
(.seq
(.seq
(.reg 3 [oQ 19 (.aa7 2 T2),oQ 20 (.load none T19),oQ 21 (.bin .eql T20 (.c (.str [])))] [1,2,21])
(.cond T21
(.seq
(.reg 4 [oM 22 T1,oM 4 T22] [4])
.ret)
.skip))
(.seq
(.reg 5 [oQ 23 (.aa7 2 T2),oQ 24 (.load none T23),oK 25 (.call 70 [T24]),oM 4 T25] [4])
.ret))))
theorem fok41:FOK Tryz.prog 41 (26,ic41,[(.t 4)]):=ai1 [1000002] Tryz.func41
def ic42:IC :=
(.seq
(.reg 0 [oM 2 (.c (.str []))] [0])
(.seq
(.seq
(.reg 1 [oM 3 T0] [3])
(.block 0
(.seq
(.reg 2 [oQ 5 (.bin .eql T3 (.c (zU 1))),oM 4 T5] [3,4])
(.cond T4
(.seq
(.reg 3 [oM 2 (.c (.str [110,111,97,114,99,104]))] [2])
.ret)
(.seq
(.reg 4 [oQ 7 (.bin .eql T3 (.c (zU 2))),oM 6 T7] [3,6])
(.cond T6
(.seq
(.reg 5 [oM 2 (.c (.str [120,56,54,95,54,52]))] [2])
.ret)
(.seq
(.reg 6 [oQ 9 (.bin .eql T3 (.c (zU 3))),oM 8 T9] [3,8])
(.cond T8
(.seq
(.reg 7 [oM 2 (.c (.str [105,54,56,54]))] [2])
.ret)
(.seq
(.reg 8 [oQ 11 (.bin .eql T3 (.c (zU 4))),oM 10 T11] [10])
(.cond T10
(.seq
(.reg 9 [oM 2 (.c (.str [97,97,114,99,104,54,52]))] [2])
.ret)
.skip))))))))))
(.seq
(.reg 10 [oM 2 (.c (.str []))] [2])
.ret)))
theorem fok42:FOK Tryz.prog 42 (12,ic42,[(.t 2)]):=ai1 [] Tryz.func42
def ic43:IC :=
(.seq
(.reg 0 [oM 2 (cB false)] [0])
(.seq
(.seq
(.reg 1 [oM 4 T0,oQ 5 (.len 0 T4),oQ 6 (.bin .gtr T5 (cI 32))] [0,6])
(.cond T6
(.seq
(.reg 2 [oM 2 (cB false)] [2])
.ret)
.skip))
(.seq
(.seq
(.reg 3 [oM 3 (cI 0)] [0,3])
(.block 0
(.loop
(.seq
(.seq
(.reg 4 [oM 7 T3,oM 8 T0,oQ 9 (.len 0 T8),oQ 10 (.bin .lss T7 T9)] [0,3,10])
(.cond T10
.skip
(.exit 0)))
(.seq
(.block 1
(.seq
(.reg 6 [oM 13 T0,oM 14 T3,oQ 15 (.ab5 5 T13 T14),oQ 16 (.load (some 5) T15),oK 17 (.call 71 [T16]),oQ 18 (.not T17)] [0,3,18])
(.cond T18
(.seq
(.reg 7 [oM 2 (cB false)] [2])
.ret)
.skip)))
(.reg 5 [oM 11 T3,oQ 12 (.bin .add T11 (cI 1)),oM 3 T12] [0,3]))))))
(.seq
(.reg 8 [oM 2 (cB true)] [2])
.ret))))
theorem fok43:FOK Tryz.prog 43 (19,ic43,[(.t 2)]):=ai1 [] Tryz.func43
def ic44:IC :=
(.seq
(.reg 0 [oM 4 (cB false)] [0,1])
(.seq
(.seq
(.reg 1 [oM 6 T0,oQ 7 (.len 0 T6),oQ 8 (.bin .gtr T7 (cI 32))] [0,1,8])
(.cond T8
(.seq
(.reg 2 [oM 4 (cB false)] [4])
.ret)
.skip))
(.seq
(.seq
(.reg 3 [oM 5 (cI 0)] [0,1,5])
(.block 0
(.loop
(.seq
(.seq
(.reg 4 [oM 9 T5,oM 10 T0,oQ 11 (.len 0 T10),oQ 12 (.bin .lss T9 T11)] [0,1,5,12])
(.cond T12
.skip
(.exit 0)))
(.seq
(.block 1
(.seq
(.reg 6 [oM 15 T0,oM 16 T5,oQ 17 (.ab5 7 T15 T16),oQ 18 (.load (some 7) T17),oM 19 T1,oK 20 (.call 72 [T18,T19]),oQ 21 (.bin .neq T20 (cI 0))] [0,1,5,21])
(.cond T21
(.seq
(.reg 7 [oM 4 (cB false)] [4])
.ret)
.skip)))
(.reg 5 [oM 13 T5,oQ 14 (.bin .add T13 (cI 1)),oM 5 T14] [0,1,5]))))))
(.seq
(.reg 8 [oM 4 (cB true)] [4])
.ret))))
theorem fok44:FOK Tryz.prog 44 (22,ic44,[(.t 4)]):=ai1 [] Tryz.func44
def ic45:IC :=
(.seq
(.reg 0 [oM 2 (.c .aa1)] [0])
(.seq
(.reg 1 [oM 3 (.c .aa1)] [0,3])
(.seq
(.seq
(.reg 2 [oM 4 (cI 0)] [0,3,4])
(.block 0
(.loop
(.seq
(.seq
(.reg 3 [oM 5 T4,oM 6 T0,oQ 7 (.len 0 T6),oQ 8 (.bin .lss T5 T7)] [0,3,4,8])
(.cond T8
.skip
(.exit 0)))
(.seq
(.block 1
(.reg 5 [oM 11 T3,oM 12 T0,oM 13 T4,oQ 14 (.ab5 7 T12 T13),oQ 15 (.load (some 7) T14),oK 16 (.call 73 [T15]),oK 17 (.as5 7 1 [(zU 0),(.str []),(zU 0),(zI 0),(.str []),(.str []),.aa1] [⟨0,⟨7,T16⟩⟩]),oK 18 (.app 7 T11 T17),oM 3 T18] [0,3,4]))
(.reg 4 [oM 9 T4,oQ 10 (.bin .add T9 (cI 1)),oM 4 T10] [0,3,4]))))))
(.seq
(.reg 6 [oM 19 T3,oM 2 T19] [2])
.ret))))
theorem fok45:FOK Tryz.prog 45 (20,ic45,[(.t 2)]):=ai1 [1000017] Tryz.func45
def ic46:IC :=
(.seq
(.reg 0 [oM 2 (.c .aa1)] [0])
(.seq
(.reg 1 [oM 3 T0,oK 4 (.call 74 [(.c .aa1),T3]),oM 2 T4] [2])
.ret))
theorem fok46:FOK Tryz.prog 46 (5,ic46,[(.t 2)]):=ai1 [] Tryz.func46
def ic47:IC :=
(.seq
(.reg 0 [oM 3 T0,oQ 4 (.len 0 T3),oM 2 T4] [0,2])
(.reg 1 [oM 5 T0,oM 6 T2,oM 7 T2,oQ 8 (.conv .u64 T7),oK 9 (.call 76 [T8]),oK 10 (.call 75 [T5,(cI 0),T6,T9])] []))
theorem fok47:FOK Tryz.prog 47 (11,ic47,[]):=ai1 [] Tryz.func47
def ic48:IC :=
(.seq
(.reg 0 [oQ 4 (.load none T1),oK 5 (.at7 T4)] [0,5])
(.block 0
(.loop
(.seq
(.reg 1 [oK 6 (.bm7 T5),oQ 7 (.ext 0 T6)] [0,5,7])
(.seq
(.cond T7
.skip
(.exit 0))
(.block 1
(.seq
(.reg 2 [oK 8 (.dv4 T5),oQ 9 (.ext 0 T8),oM 3 T9] [0,3,5])
(.seq
(.reg 3 [oM 10 T0,oM 11 T3,oK 12 (.ap5 T10 [T11]),oQ 13 (.not T12)] [0,5,13])
(.cond T13
.ret
.skip)))))))))
theorem fok48:FOK Tryz.prog 48 (14,ic48,[]):=ai1 [] Tryz.func48
def ic49:IC :=
(.seq
(.reg 0 [oM 4 (cB false)] [0,1])
(.seq
(.reg 1 [oM 5 T0,oM 6 T1,oK 7 (.call 77 [T5,T6]),oQ 8 (.bin .geq T7 (cI 0)),oM 4 T8] [4])
.ret))
theorem fok49:FOK Tryz.prog 49 (9,ic49,[(.t 4)]):=ai1 [] Tryz.func49
def ic50:IC :=
(.seq
(.reg 0 [oK 2 (.aj8 T0),oM 3 (cB false)] [1,2])
(.seq
(.reg 1 [oQ 4 (.load (some 15) T1),oQ 5 (.load (some 5) T2),oK 6 (.call 51 [T4,T5]),oM 3 T6] [3])
.ret))
theorem fok50:FOK Tryz.prog 50 (7,ic50,[(.t 3)]):=ai1 [1000002] Tryz.func50
def ic51:IC :=
(.seq
(.reg 0 [oK 2 (.aj8 T0),oK 3 (.aj8 T1),oM 4 (cB false)] [2,3])
(.seq
(.dreg 1 [oQ 5 (.load (some 15) T2),oK 6 (.ae7 79 [T5]),oQ 7 (.load (some 5) T3),oK 8 (.ae7 78 [T6,T7]),oM 4 T8] false [4])
.ret))
theorem fok51:FOK Tryz.prog 51 (9,ic51,[(.t 4)]):=ai1 ([1000002,1000003]++[78,79]) Tryz.func51 (by kernel_rfl) (by kernel_rfl) (by kernel_rfl) (by kernel_rfl)
def ic52:IC :=
(.seq
(.reg 0 [oK 2 (.aj8 T0),oK 3 (.aj8 T1),oM 4 (cB false)] [2,3])
(.seq
(.dreg 1 [oQ 5 (.aa7 0 T3),oQ 6 (.load none T5),oQ 7 (.aa7 0 T2),oQ 8 (.load none T7),oQ 9 (.bin .eql T6 T8),oM 10 T9,gQ 11 10 true (.load (some 15) T2),gK 12 10 true (.ae7 81 [T11]),gQ 13 10 true (.load (some 5) T3),gK 14 10 true (.ae7 80 [T12,T13]),oQ 15 (.pick T10 T14 (cB false)),oM 4 T15] false [4])
.ret))
theorem fok52:FOK Tryz.prog 52 (16,ic52,[(.t 4)]):=ai1 ([1000002,1000003]++[80,81]) Tryz.func52 (by kernel_rfl) (by kernel_rfl) (by kernel_rfl) (by kernel_rfl)
def ic53:IC :=
(.seq
(.reg 0 [oM 2 (.c .aa1)] [0])
(.seq
(.seq
(.reg 1 [oM 3 T0,oQ 4 (.bc9 (.slice 87) false T3)] [0,4])
(.cond T4
(.seq
(.reg 2 [oM 2 (.c .aa1)] [2])
.ret)
.skip))
(.seq
(.reg 3 [oK 5 (.bsl 5 0 [(.str []),(zU 0),(zI 0),(.str []),(.str [])] []),oM 6 T0,oK 7 (.app 5 T5 T6),oM 2 T7] [2])
.ret)))
theorem fok53:FOK Tryz.prog 53 (8,ic53,[(.t 2)]):=ai1 [] Tryz.func53
end Go.Id.Tryz
