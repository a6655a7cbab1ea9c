/- The compiled codes of functions,written by a program out of the given form. Conditions: none. -/
import Derived.Test.YtiallonafbejaaaGreatDoorFwYa
import Derived.Test.YtiallonafbejaaaGreatDoorProg
set_option linter.all false
namespace Go.Id.Tryz
open Go Go.Id Go.Proofs
def allF0 : List Nat:=List.range 357
def ic3 : IC :=
(.seq
(.reg 0 [oM 4 (cB false)] [0,1])
(.seq
(.seq
(.reg 1 [oM 20 (.t 0),oM 21 (.t 1),oK 22 (.call 13 [(.t 20),(.t 21)]),oM 23 (.t 22),gK 24 23 false (.call 14 []),gQ 25 23 false (.not (.t 24)),oQ 26 (.pick (.t 23) (cB true) (.t 25))] [0,1,26])
(.cond (.t 26)
(.seq
(.reg 2 [oK 27 (.call 14 []),oM 4 (.t 27)] [4])
.ret)
.skip))
(.seq
(.reg 3 [oM 29 (.t 0),oM 30 (.t 1),oK 31 (.call 15 [(.t 29),(.t 30)]),oM 28 (.t 31),oQ 32 (.ext 0 (.t 28)),oQ 33 (.ext 1 (.t 28)),oM 5 (.t 32),oM 6 (.t 33)] [5,6])
(.seq
(.seq
(.reg 4 [oM 34 (.t 6),oQ 35 (.bin .neq (.t 34) (cI 0))] [5,35])
(.cond (.t 35)
(.seq
(.reg 5 [oM 4 (cB true)] [4])
.ret)
.skip))
(.seq
(.reg 6 [oM 36 (.t 5),oK 37 (.call 16 [(.t 36)]),oM 7 (.t 37)] [5,7])
(.seq
(.seq
(.reg 7 [oM 38 (.t 5),oK 39 (.call 17 [(.t 38)]),oQ 40 (.bin .lss (.t 39) (cI 0)),oM 41 (.t 40),gQ 42 41 false (.mov (.t 5)),gK 43 41 false (.call 17 [(.t 42)]),gQ 44 41 false (.bin .gtr (.t 43) (cI 1048576)),oQ 45 (.pick (.t 41) (cB true) (.t 44))] [5,7,45])
(.cond (.t 45)
(.seq
(.reg 8 [oM 4 (cB false)] [4])
.ret)
.skip))
(.seq
(.reg 9 [oM 46 (.t 5),oK 47 (.call 17 [(.t 46)]),oK 48 (.mksl 1 [(zI 0)] (.t 47)),oM 8 (.t 48)] [5,7,8])
(.seq
(.seq
(.reg 10 [oM 9 (cI 0)] [5,7,8,9])
(.block 0
(.loop
(.seq
(.seq
(.reg 11 [oM 49 (.t 9),oM 50 (.t 7),oQ 51 (.len 0 (.t 50)),oQ 52 (.bin .lss (.t 49) (.t 51))] [5,7,8,9,52])
(.cond (.t 52)
.skip
(.exit 0)))
(.seq
(.block 1
(.seq
(.seq
(.dreg 13 [oM 55 (.t 9),oQ 56 (.bin .gtr (.t 55) (cI 0)),oM 57 (.t 56),gQ 58 57 true (.mov (.t 7)),gQ 59 57 true (.mov (.t 9)),gQ 60 57 true (.bin .sub (.t 59) (cI 1)),gQ 61 57 true (.iaddr 1 (.t 58) (.t 60)),gQ 62 57 true (.load none (.t 61)),gQ 63 57 true (.mov (.t 7)),gQ 64 57 true (.mov (.t 9)),gQ 65 57 true (.iaddr 1 (.t 63) (.t 64)),gQ 66 57 true (.load none (.t 65)),gQ 67 57 true (.bin .geq (.t 62) (.t 66)),oQ 68 (.pick (.t 57) (.t 67) (cB false))] false [5,7,8,9,68])
(.cond (.t 68)
(.seq
(.reg 14 [oM 4 (cB false)] [4])
.ret)
.skip))
(.seq
(.reg 15 [oM 69 (.t 5),oM 70 (.t 7),oM 71 (.t 9),oQ 72 (.iaddr 1 (.t 70) (.t 71)),oQ 73 (.load none (.t 72)),oK 74 (.call 18 [(.t 69),(.t 73)]),oM 10 (.t 74)] [5,7,8,9,10])
(.seq
(.seq
(.reg 16 [oM 75 (.t 10),oQ 76 (.len 0 (.t 75)),oQ 77 (.bin .eql (.t 76) (cI 0))] [5,7,8,9,10,77])
(.cond (.t 77)
(.seq
(.reg 17 [oM 4 (cB false)] [4])
.ret)
.skip))
(.seq
(.reg 18 [oM 11 (cI 0)] [5,7,8,9,10,11])
(.block 2
(.loop
(.seq
(.seq
(.reg 19 [oM 78 (.t 11),oM 79 (.t 10),oQ 80 (.len 0 (.t 79)),oQ 81 (.bin .lss (.t 78) (.t 80))] [5,7,8,9,10,11,81])
(.cond (.t 81)
.skip
(.exit 2)))
(.seq
(.block 3
(.seq
(.reg 21 [oM 85 (.t 5),oM 86 (.t 10),oM 87 (.t 11),oQ 88 (.iaddr 1 (.t 86) (.t 87)),oQ 89 (.load none (.t 88)),oK 90 (.call 19 [(.t 85),(.t 89)]),oM 84 (.t 90),oQ 91 (.ext 0 (.t 84)),oQ 92 (.ext 1 (.t 84)),oK 12 (.alloc [(.str []),(zI 0),(.str []),(.str []),(zU 0),(.str []),.nilslice,.nilslice,.nilslice,.nilslice,.nilslice,.nilslice,.nilslice,.nilslice,.nilslice]),oN (.store 15 (.t 12) (.t 91)),oM 13 (.t 92)] [5,7,8,9,10,11,12,13])
(.seq
(.seq
(.dreg 22 [oM 93 (.t 13),oQ 94 (.bin .neq (.t 93) (cI 0)),oM 95 (.t 94),gQ 96 95 false (.mov (.t 10)),gQ 97 95 false (.mov (.t 11)),gQ 98 95 false (.iaddr 1 (.t 96) (.t 97)),gQ 99 95 false (.load none (.t 98)),gQ 100 95 false (.bin .lss (.t 99) (cI 0)),oQ 101 (.pick (.t 95) (cB true) (.t 100)),oM 102 (.t 101),gQ 103 102 false (.mov (.t 10)),gQ 104 102 false (.mov (.t 11)),gQ 105 102 false (.iaddr 1 (.t 103) (.t 104)),gQ 106 102 false (.load none (.t 105)),gQ 107 102 false (.mov (.t 8)),gQ 108 102 false (.len 0 (.t 107)),gQ 109 102 false (.bin .geq (.t 106) (.t 108)),oQ 110 (.pick (.t 102) (cB true) (.t 109)),oM 111 (.t 110),gQ 112 111 false (.faddr 0 (.t 12)),gQ 113 111 false (.load none (.t 112)),gQ 114 111 false (.mov (.t 7)),gQ 115 111 false (.mov (.t 9)),gQ 116 111 false (.iaddr 1 (.t 114) (.t 115)),gQ 117 111 false (.load none (.t 116)),gQ 118 111 false (.bin .neq (.t 113) (.t 117)),oQ 119 (.pick (.t 111) (cB true) (.t 118)),oM 120 (.t 119),gQ 121 120 false (.mov (.t 11)),gQ 122 120 false (.bin .gtr (.t 121) (cI 0)),gQ 123 120 false (.mov (.t 122)),gQ 124 123 true (.mov (.t 10)),gQ 125 123 true (.mov (.t 11)),gQ 126 123 true (.bin .sub (.t 125) (cI 1)),gQ 127 123 true (.iaddr 1 (.t 124) (.t 126)),gQ 128 123 true (.load none (.t 127)),gQ 129 123 true (.mov (.t 10)),gQ 130 123 true (.mov (.t 11)),gQ 131 123 true (.iaddr 1 (.t 129) (.t 130)),gQ 132 123 true (.load none (.t 131)),gQ 133 123 true (.bin .geq (.t 128) (.t 132)),gQ 134 120 false (.pick (.t 123) (.t 133) (cB false)),oQ 135 (.pick (.t 120) (cB true) (.t 134))] false [5,7,8,9,10,11,135])
(.cond (.t 135)
(.seq
(.reg 23 [oM 4 (cB false)] [4])
.ret)
.skip))
(.reg 24 [oM 136 (.t 8),oM 137 (.t 10),oM 138 (.t 11),oQ 139 (.iaddr 1 (.t 137) (.t 138)),oQ 140 (.load none (.t 139)),oQ 141 (.iaddr 1 (.t 136) (.t 140)),oQ 142 (.load none (.t 141)),oQ 143 (.bin .add (.t 142) (cI 1)),oQ 144 (.iaddr 1 (.t 136) (.t 140)),oN (.store 1 (.t 144) (.t 143))] [5,7,8,9,10,11]))))
(.reg 20 [oM 82 (.t 11),oQ 83 (.bin .add (.t 82) (cI 1)),oM 11 (.t 83)] [5,7,8,9,10,11]))))))))))
(.reg 12 [oM 53 (.t 9),oQ 54 (.bin .add (.t 53) (cI 1)),oM 9 (.t 54)] [5,7,8,9]))))))
(.seq
(.seq
(.reg 25 [oM 14 (cI 0)] [5,8,14])
(.block 4
(.loop
(.seq
(.seq
(.reg 26 [oM 145 (.t 14),oM 146 (.t 8),oQ 147 (.len 0 (.t 146)),oQ 148 (.bin .lss (.t 145) (.t 147))] [5,8,14,148])
(.cond (.t 148)
.skip
(.exit 4)))
(.seq
(.block 5
(.seq
(.seq
(.reg 28 [oM 151 (.t 8),oM 152 (.t 14),oQ 153 (.iaddr 1 (.t 151) (.t 152)),oQ 154 (.load none (.t 153)),oQ 155 (.bin .neq (.t 154) (cI 1))] [5,8,14,155])
(.cond (.t 155)
(.seq
(.reg 29 [oM 4 (cB false)] [4])
.ret)
.skip))
(.seq
(.reg 30 [oM 157 (.t 5),oM 158 (.t 14),oK 159 (.call 19 [(.t 157),(.t 158)]),oM 156 (.t 159),oQ 160 (.ext 0 (.t 156)),oQ 161 (.ext 1 (.t 156)),oK 15 (.alloc [(.str []),(zI 0),(.str []),(.str []),(zU 0),(.str []),.nilslice,.nilslice,.nilslice,.nilslice,.nilslice,.nilslice,.nilslice,.nilslice,.nilslice]),oN (.store 15 (.t 15) (.t 160)),oM 16 (.t 161)] [5,8,14,15,16])
(.seq
(.reg 31 [oM 17 (cI 0)] [5,8,14,15,16,17])
(.block 6
(.loop
(.seq
(.seq
(.reg 32 [oM 162 (.t 17),oM 163 (.t 8),oQ 164 (.len 0 (.t 163)),oQ 165 (.bin .lss (.t 162) (.t 164))] [5,8,14,15,16,17,165])
(.cond (.t 165)
.skip
(.exit 6)))
(.seq
(.block 7
(.seq
(.reg 34 [oM 169 (.t 5),oM 170 (.t 17),oK 171 (.call 19 [(.t 169),(.t 170)]),oM 168 (.t 171),oQ 172 (.ext 0 (.t 168)),oQ 173 (.ext 1 (.t 168)),oK 18 (.alloc [(.str []),(zI 0),(.str []),(.str []),(zU 0),(.str []),.nilslice,.nilslice,.nilslice,.nilslice,.nilslice,.nilslice,.nilslice,.nilslice,.nilslice]),oN (.store 15 (.t 18) (.t 172)),oM 19 (.t 173)] [5,8,14,15,16,17,18,19])
(.seq
(.reg 35 [oM 174 (.t 16),oQ 175 (.bin .neq (.t 174) (cI 0)),oM 176 (.t 175),gQ 177 176 false (.mov (.t 19)),gQ 178 176 false (.bin .neq (.t 177) (cI 0)),oQ 179 (.pick (.t 176) (cB true) (.t 178)),oM 180 (.t 179),gQ 181 180 false (.mov (.t 5)),gQ 182 180 false (.mov (.t 14)),gQ 183 180 false (.mov (.t 17)),gK 184 180 false (.call 20 [(.t 181),(.t 182),(.t 183)]),gQ 185 180 false (.mov (.t 14)),gQ 186 180 false (.mov (.t 17)),gQ 187 180 false (.bin .neq (.t 185) (.t 186)),gQ 188 180 false (.mov (.t 187)),gQ 189 188 true (.load (some 15) (.t 15)),gQ 190 188 true (.load (some 15) (.t 18)),gK 191 188 true (.call 21 [(.t 189),(.t 190)]),gQ 192 180 false (.pick (.t 188) (.t 191) (cB false)),gQ 193 180 false (.eqs [0] false true (.t 184) (.t 192)),oQ 194 (.pick (.t 180) (cB true) (.t 193))] [5,8,14,15,16,17,194])
(.cond (.t 194)
(.seq
(.reg 36 [oM 4 (cB false)] [4])
.ret)
.skip))))
(.reg 33 [oM 166 (.t 17),oQ 167 (.bin .add (.t 166) (cI 1)),oM 17 (.t 167)] [5,8,14,15,16,17])))))))))
(.reg 27 [oM 149 (.t 14),oQ 150 (.bin .add (.t 149) (cI 1)),oM 14 (.t 150)] [5,8,14]))))))
(.seq
(.reg 37 [oM 4 (cB true)] [4])
.ret))))))))))
theorem fok3 : FOK Tryz.prog 3 (195,ic3,[(.t 4)]):=fokA [] Tryz.func3
def ic13 : IC :=
(.seq
(.reg 0 [⟨(some 4),none,(.q (.mov (.c (.bool false))))⟩] [0,1])
(.seq
(.seq
(.reg 1 [⟨(some 9),none,(.q (.mov (.t 0)))⟩,⟨(some 10),none,(.q (.len 0 (.t 9)))⟩,⟨(some 11),none,(.q (.bin .gtr (.t 10) (.c (.int .i64 30))))⟩,⟨(some 12),none,(.q (.mov (.t 11)))⟩,⟨(some 13),(some ⟨12,false⟩),(.q (.mov (.t 1)))⟩,⟨(some 14),(some ⟨12,false⟩),(.q (.len 0 (.t 13)))⟩,⟨(some 15),(some ⟨12,false⟩),(.q (.bin .gtr (.t 14) (.c (.int .i64 40))))⟩,⟨(some 16),none,(.q (.pick (.t 12) (.c (.bool true)) (.t 15)))⟩] [0,1,16])
(.cond (.t 16)
(.seq
(.reg 2 [⟨(some 4),none,(.q (.mov (.c (.bool true))))⟩] [4])
.ret)
.skip))
(.seq
(.reg 3 [⟨(some 17),none,(.q (.mov (.t 1)))⟩,⟨(some 18),none,(.q (.len 0 (.t 17)))⟩,⟨(some 5),none,(.q (.mov (.t 18)))⟩] [0,1,5])
(.seq
(.seq
(.reg 4 [⟨(some 6),none,(.q (.mov (.c (.int .i64 0))))⟩] [0,1,5,6])
(.block 0
(.loop
(.seq
(.seq
(.reg 5 [⟨(some 19),none,(.q (.mov (.t 6)))⟩,⟨(some 20),none,(.q (.mov (.t 1)))⟩,⟨(some 21),none,(.q (.len 0 (.t 20)))⟩,⟨(some 22),none,(.q (.bin .lss (.t 19) (.t 21)))⟩] [0,1,5,6,22])
(.cond (.t 22)
.skip
(.exit 0)))
(.seq
(.block 1
(.seq
(.reg 7 [⟨(some 25),none,(.q (.mov (.t 1)))⟩,⟨(some 26),none,(.q (.mov (.t 6)))⟩,⟨(some 27),none,(.q (.iaddr 15 (.t 25) (.t 26)))⟩,⟨(some 28),none,(.q (.load (some 15) (.t 27)))⟩,⟨(some 29),none,(.call 64 [(.t 28)])⟩] [0,1,5,6,29])
(.cond (.t 29)
(.seq
(.reg 8 [⟨(some 4),none,(.q (.mov (.c (.bool true))))⟩] [4])
.ret)
.skip)))
(.reg 6 [⟨(some 23),none,(.q (.mov (.t 6)))⟩,⟨(some 24),none,(.q (.bin .add (.t 23) (.c (.int .i64 1))))⟩,⟨(some 6),none,(.q (.mov (.t 24)))⟩] [0,1,5,6]))))))
(.seq
(.seq
(.reg 9 [⟨(some 7),none,(.q (.mov (.c (.int .i64 0))))⟩] [0,5,7])
(.block 2
(.loop
(.seq
(.seq
(.reg 10 [⟨(some 30),none,(.q (.mov (.t 7)))⟩,⟨(some 31),none,(.q (.mov (.t 0)))⟩,⟨(some 32),none,(.q (.len 0 (.t 31)))⟩,⟨(some 33),none,(.q (.bin .lss (.t 30) (.t 32)))⟩] [0,5,7,33])
(.cond (.t 33)
.skip
(.exit 2)))
(.seq
(.block 3
(.seq
(.reg 12 [⟨(some 36),none,(.q (.mov (.t 5)))⟩,⟨(some 37),none,(.q (.mov (.t 0)))⟩,⟨(some 38),none,(.q (.mov (.t 7)))⟩,⟨(some 39),none,(.q (.iaddr 2 (.t 37) (.t 38)))⟩,⟨(some 40),none,(.q (.faddr 1 (.t 39)))⟩,⟨(some 41),none,(.q (.load none (.t 40)))⟩,⟨(some 42),none,(.q (.len 0 (.t 41)))⟩,⟨(some 43),none,(.q (.bin .add (.t 36) (.t 42)))⟩,⟨(some 5),none,(.q (.mov (.t 43)))⟩] [0,5,7])
(.seq
(.seq
(.reg 13 [⟨(some 44),none,(.q (.mov (.t 5)))⟩,⟨(some 45),none,(.q (.bin .gtr (.t 44) (.c (.int .i64 80))))⟩] [0,5,7,45])
(.cond (.t 45)
(.seq
(.reg 14 [⟨(some 4),none,(.q (.mov (.c (.bool true))))⟩] [4])
.ret)
.skip))
(.seq
(.reg 15 [⟨(some 8),none,(.q (.mov (.c (.int .i64 0))))⟩] [0,5,7,8])
(.block 4
(.loop
(.seq
(.seq
(.reg 16 [⟨(some 46),none,(.q (.mov (.t 8)))⟩,⟨(some 47),none,(.q (.mov (.t 0)))⟩,⟨(some 48),none,(.q (.mov (.t 7)))⟩,⟨(some 49),none,(.q (.iaddr 2 (.t 47) (.t 48)))⟩,⟨(some 50),none,(.q (.faddr 1 (.t 49)))⟩,⟨(some 51),none,(.q (.load none (.t 50)))⟩,⟨(some 52),none,(.q (.len 0 (.t 51)))⟩,⟨(some 53),none,(.q (.bin .lss (.t 46) (.t 52)))⟩] [0,5,7,8,53])
(.cond (.t 53)
.skip
(.exit 4)))
(.seq
(.block 5
(.seq
(.reg 18 [⟨(some 56),none,(.q (.mov (.t 0)))⟩,⟨(some 57),none,(.q (.mov (.t 7)))⟩,⟨(some 58),none,(.q (.iaddr 2 (.t 56) (.t 57)))⟩,⟨(some 59),none,(.q (.faddr 1 (.t 58)))⟩,⟨(some 60),none,(.q (.load none (.t 59)))⟩,⟨(some 61),none,(.q (.mov (.t 8)))⟩,⟨(some 62),none,(.q (.iaddr 15 (.t 60) (.t 61)))⟩,⟨(some 63),none,(.q (.load (some 15) (.t 62)))⟩,⟨(some 64),none,(.call 64 [(.t 63)])⟩] [0,5,7,8,64])
(.cond (.t 64)
(.seq
(.reg 19 [⟨(some 4),none,(.q (.mov (.c (.bool true))))⟩] [4])
.ret)
.skip)))
(.reg 17 [⟨(some 54),none,(.q (.mov (.t 8)))⟩,⟨(some 55),none,(.q (.bin .add (.t 54) (.c (.int .i64 1))))⟩,⟨(some 8),none,(.q (.mov (.t 55)))⟩] [0,5,7,8])))))))))
(.reg 11 [⟨(some 34),none,(.q (.mov (.t 7)))⟩,⟨(some 35),none,(.q (.bin .add (.t 34) (.c (.int .i64 1))))⟩,⟨(some 7),none,(.q (.mov (.t 35)))⟩] [0,5,7]))))))
(.seq
(.reg 20 [⟨(some 4),none,(.q (.mov (.c (.bool false))))⟩] [4])
.ret))))))
theorem fok13 : FOK Tryz.prog 13 (65,ic13,[(.t 4)]):=.mk (pf:=[]) (an:=[(0,[0,1]),(1,[0,1,16]),(2,[4]),(3,[0,1,5]),(4,[0,1,5,6]),(5,[0,1,5,6,22]),(6,[0,1,5,6]),(7,[0,1,5,6,29]),(8,[4]),(9,[0,5,7]),(10,[0,5,7,33]),(11,[0,5,7]),(12,[0,5,7]),(13,[0,5,7,45]),(14,[4]),(15,[0,5,7,8]),(16,[0,5,7,8,53]),(17,[0,5,7,8]),(18,[0,5,7,8,64]),(19,[4]),(20,[4])]) (by kernel_rfl) (fnOK_of Tryz.func13 (by kernel_rfl) (by kernel_rfl) (by kernel_rfl))
def ic14 : IC :=
(.seq
(.reg 0 [⟨(some 0),none,(.q (.mov (.c (.bool false))))⟩] [])
(.seq
(.reg 1 [⟨(some 6),none,(.call 65 [(.c (.str [98]))])⟩,⟨(some 7),none,(.call 65 [(.c (.str [99]))])⟩,⟨(some 8),none,(.bslt 15 2 [(.str []),(.int .i64 0),(.str []),(.str []),(.int .u8 0),(.str []),.nilslice,.nilslice,.nilslice,.nilslice,.nilslice,.nilslice,.nilslice,.nilslice,.nilslice] [⟨0,⟨15,(.t 6)⟩⟩,⟨15,⟨15,(.t 7)⟩⟩])⟩,⟨(some 9),none,(.q (.bld [(.int .i64 0),.nilslice] [⟨0,⟨1,(.c (.int .i64 5))⟩⟩,⟨1,⟨1,(.t 8)⟩⟩]))⟩,⟨(some 10),none,(.call 65 [(.c (.str [97]))])⟩,⟨(some 11),none,(.bslt 15 1 [(.str []),(.int .i64 0),(.str []),(.str []),(.int .u8 0),(.str []),.nilslice,.nilslice,.nilslice,.nilslice,.nilslice,.nilslice,.nilslice,.nilslice,.nilslice] [⟨0,⟨15,(.t 10)⟩⟩])⟩,⟨(some 12),none,(.q (.bld [(.int .i64 0),.nilslice] [⟨0,⟨1,(.c (.int .i64 7))⟩⟩,⟨1,⟨1,(.t 11)⟩⟩]))⟩,⟨(some 13),none,(.bslt 2 2 [(.int .i64 0),.nilslice] [⟨0,⟨2,(.t 9)⟩⟩,⟨2,⟨2,(.t 12)⟩⟩])⟩,⟨(some 14),none,(.call 65 [(.c (.str [97]))])⟩,⟨(some 15),none,(.bslt 15 1 [(.str []),(.int .i64 0),(.str []),(.str []),(.int .u8 0),(.str []),.nilslice,.nilslice,.nilslice,.nilslice,.nilslice,.nilslice,.nilslice,.nilslice,.nilslice] [⟨0,⟨15,(.t 14)⟩⟩])⟩,⟨(some 16),none,(.call 15 [(.t 13),(.t 15)])⟩,⟨(some 5),none,(.q (.mov (.t 16)))⟩,⟨(some 17),none,(.q (.ext 0 (.t 5)))⟩,⟨(some 18),none,(.q (.ext 1 (.t 5)))⟩,⟨(some 1),none,(.q (.mov (.t 17)))⟩,⟨(some 2),none,(.q (.mov (.t 18)))⟩] [1,2])
(.seq
(.seq
(.reg 2 [⟨(some 19),none,(.q (.mov (.t 2)))⟩,⟨(some 20),none,(.q (.bin .neq (.t 19) (.c (.int .i64 0))))⟩] [1,20])
(.cond (.t 20)
(.seq
(.reg 3 [⟨(some 0),none,(.q (.mov (.c (.bool false))))⟩] [0])
.ret)
.skip))
(.seq
(.reg 4 [⟨(some 22),none,(.q (.mov (.t 1)))⟩,⟨(some 23),none,(.call 19 [(.t 22),(.c (.int .i64 2))])⟩,⟨(some 21),none,(.q (.mov (.t 23)))⟩,⟨(some 24),none,(.q (.ext 0 (.t 21)))⟩,⟨(some 25),none,(.q (.ext 1 (.t 21)))⟩,⟨(some 3),none,(.alloc [(.str []),(.int .i64 0),(.str []),(.str []),(.int .u8 0),(.str []),.nilslice,.nilslice,.nilslice,.nilslice,.nilslice,.nilslice,.nilslice,.nilslice,.nilslice])⟩,⟨none,none,(.store 15 (.t 3) (.t 24))⟩,⟨(some 4),none,(.q (.mov (.t 25)))⟩] [1,3,4])
(.seq
(.reg 5 [⟨(some 26),none,(.q (.mov (.t 1)))⟩,⟨(some 27),none,(.call 17 [(.t 26)])⟩,⟨(some 28),none,(.q (.bin .eql (.t 27) (.c (.int .i64 4))))⟩,⟨(some 29),none,(.q (.mov (.t 28)))⟩,⟨(some 30),(some ⟨29,true⟩),(.q (.mov (.t 1)))⟩,⟨(some 31),(some ⟨29,true⟩),(.call 66 [(.t 30)])⟩,⟨(some 32),(some ⟨29,true⟩),(.q (.bin .eql (.t 31) (.c (.int .i64 1))))⟩,⟨(some 33),none,(.q (.pick (.t 29) (.t 32) (.c (.bool false))))⟩,⟨(some 34),none,(.q (.mov (.t 33)))⟩,⟨(some 35),(some ⟨34,true⟩),(.q (.mov (.t 4)))⟩,⟨(some 36),(some ⟨34,true⟩),(.q (.bin .eql (.t 35) (.c (.int .i64 0))))⟩,⟨(some 37),none,(.q (.pick (.t 34) (.t 36) (.c (.bool false))))⟩,⟨(some 38),none,(.q (.mov (.t 37)))⟩,⟨(some 39),(some ⟨38,true⟩),(.q (.faddr 0 (.t 3)))⟩,⟨(some 40),(some ⟨38,true⟩),(.q (.load none (.t 39)))⟩,⟨(some 41),(some ⟨38,true⟩),(.q (.bin .eql (.t 40) (.c (.str [99]))))⟩,⟨(some 42),none,(.q (.pick (.t 38) (.t 41) (.c (.bool false))))⟩,⟨(some 43),none,(.q (.mov (.t 42)))⟩,⟨(some 44),(some ⟨43,true⟩),(.q (.mov (.t 1)))⟩,⟨(some 45),(some ⟨43,true⟩),(.call 55 [(.t 44),(.c (.int .i64 2))])⟩,⟨(some 46),(some ⟨43,true⟩),(.q (.bin .eql (.t 45) (.c (.int .i64 0))))⟩,⟨(some 47),none,(.q (.pick (.t 43) (.t 46) (.c (.bool false))))⟩,⟨(some 48),none,(.q (.mov (.t 47)))⟩,⟨(some 49),(some ⟨48,true⟩),(.q (.mov (.t 1)))⟩,⟨(some 50),(some ⟨48,true⟩),(.call 67 [(.t 49),(.c (.int .i64 2))])⟩,⟨(some 51),(some ⟨48,true⟩),(.q (.bin .eql (.t 50) (.c (.int .i64 5))))⟩,⟨(some 52),none,(.q (.pick (.t 48) (.t 51) (.c (.bool false))))⟩,⟨(some 53),none,(.q (.mov (.t 52)))⟩,⟨(some 54),(some ⟨53,true⟩),(.q (.mov (.t 1)))⟩,⟨(some 55),(some ⟨53,true⟩),(.call 67 [(.t 54),(.c (.int .i64 0))])⟩,⟨(some 56),(some ⟨53,true⟩),(.q (.bin .eql (.t 55) (.c (.int .i64 1025))))⟩,⟨(some 57),none,(.q (.pick (.t 53) (.t 56) (.c (.bool false))))⟩,⟨(some 58),none,(.q (.mov (.t 57)))⟩,⟨(some 59),(some ⟨58,true⟩),(.q (.mov (.t 1)))⟩,⟨(some 60),(some ⟨58,true⟩),(.call 18 [(.t 59),(.c (.str [97]))])⟩,⟨(some 61),(some ⟨58,true⟩),(.bslt 1 2 [(.int .i64 0)] [⟨0,⟨1,(.c (.int .i64 0))⟩⟩,⟨1,⟨1,(.c (.int .i64 3))⟩⟩])⟩,⟨(some 62),(some ⟨58,true⟩),(.call 68 [(.t 60),(.t 61)])⟩,⟨(some 63),none,(.q (.pick (.t 58) (.t 62) (.c (.bool false))))⟩,⟨(some 0),none,(.q (.mov (.t 63)))⟩] [0])
.ret)))))
theorem fok14 : FOK Tryz.prog 14 (64,ic14,[(.t 0)]):=.mk (pf:=[1000008,1000011,1000013,1000015,1000061]) (an:=[(1,[1,2]),(2,[1,20]),(3,[0]),(4,[1,3,4]),(5,[0])]) (by kernel_rfl) (fnOK_of Tryz.func14 (by kernel_rfl) (by kernel_rfl) (by kernel_rfl))
def ic15 : IC :=
(.seq
(.reg 0 [⟨(some 4),none,(.q (.mov (.c .nilptr)))⟩,⟨(some 5),none,(.q (.mov (.c (.int .i64 0))))⟩] [0,1])
(.seq
(.reg 1 [⟨(some 14),none,(.q (.mov (.t 1)))⟩,⟨(some 15),none,(.q (.len 0 (.t 14)))⟩,⟨(some 6),none,(.q (.mov (.t 15)))⟩] [0,1,6])
(.seq
(.seq
(.reg 2 [⟨(some 16),none,(.q (.mov (.t 0)))⟩,⟨(some 17),none,(.q (.len 0 (.t 16)))⟩,⟨(some 18),none,(.q (.mov (.c (.int .i64 0))))⟩] [0,1,6,16,17,18])
(.block 0
(.loop
(.seq
(.reg 3 [⟨(some 19),none,(.q (.bin .lss (.t 18) (.t 17)))⟩] [0,1,6,16,17,18,19])
(.seq
(.cond (.t 19)
.skip
(.exit 0))
(.seq
(.block 1
(.seq
(.reg 4 [⟨(some 20),none,(.q (.iaddr 2 (.t 16) (.t 18)))⟩,⟨(some 21),none,(.q (.load (some 2) (.t 20)))⟩,⟨(some 8),none,(.alloc [(.int .i64 0),.nilslice])⟩,⟨none,none,(.store 2 (.t 8) (.t 21))⟩] [0,1,6,8,16,17,18])
(.reg 5 [⟨(some 22),none,(.q (.mov (.t 6)))⟩,⟨(some 23),none,(.q (.faddr 1 (.t 8)))⟩,⟨(some 24),none,(.q (.load none (.t 23)))⟩,⟨(some 25),none,(.q (.len 0 (.t 24)))⟩,⟨(some 26),none,(.q (.bin .add (.t 22) (.t 25)))⟩,⟨(some 6),none,(.q (.mov (.t 26)))⟩] [0,1,6,16,17,18])))
(.reg 6 [⟨(some 27),none,(.q (.bin .add (.t 18) (.c (.int .i64 1))))⟩,⟨(some 18),none,(.q (.mov (.t 27)))⟩] [0,1,6,16,17,18])))))))
(.seq
(.seq
(.reg 7 [⟨(some 28),none,(.q (.mov (.t 0)))⟩,⟨(some 29),none,(.q (.len 0 (.t 28)))⟩,⟨(some 30),none,(.q (.bin .gtr (.t 29) (.c (.int .i64 16))))⟩,⟨(some 31),none,(.q (.mov (.t 30)))⟩,⟨(some 32),(some ⟨31,false⟩),(.q (.mov (.t 6)))⟩,⟨(some 33),(some ⟨31,false⟩),(.q (.bin .gtr (.t 32) (.c (.int .i64 256))))⟩,⟨(some 34),none,(.q (.pick (.t 31) (.c (.bool true)) (.t 33)))⟩] [0,1,34])
(.cond (.t 34)
(.seq
(.reg 8 [⟨(some 4),none,(.q (.mov (.c .nilptr)))⟩,⟨(some 5),none,(.q (.mov (.c (.int .i64 40))))⟩] [4,5])
.ret)
.skip))
(.seq
(.reg 9 [⟨(some 35),none,(.q (.mov (.t 1)))⟩,⟨(some 36),none,(.q (.len 0 (.t 35)))⟩,⟨(some 37),none,.mkmap⟩,⟨(some 38),none,(.q (.bld [.nilslice,(.int .i64 0),.nilmap] [⟨1,⟨1,(.t 36)⟩⟩,⟨2,⟨1,(.t 37)⟩⟩]))⟩,⟨(some 39),none,(.box (.t 38))⟩,⟨(some 9),none,(.q (.mov (.t 39)))⟩] [0,1,9])
(.seq
(.seq
(.reg 10 [⟨(some 40),none,(.q (.mov (.t 9)))⟩,⟨(some 41),none,(.q (.mov (.t 1)))⟩,⟨(some 42),none,(.call 69 [(.t 40),(.t 41),(.c (.int .i64 (-1))),(.c (.int .i64 1025))])⟩,⟨(some 10),none,(.q (.mov (.t 42)))⟩] [0,9,10])
(.seq
(.reg 11 [⟨(some 43),none,(.q (.mov (.t 10)))⟩,⟨(some 44),none,(.q (.bin .neq (.t 43) (.c (.int .i64 0))))⟩] [0,9,10,44])
(.cond (.t 44)
(.seq
(.reg 12 [⟨(some 45),none,(.q (.mov (.t 10)))⟩,⟨(some 4),none,(.q (.mov (.c .nilptr)))⟩,⟨(some 5),none,(.q (.mov (.t 45)))⟩] [4,5])
.ret)
.skip)))
(.seq
(.seq
(.reg 13 [⟨(some 46),none,(.q (.mov (.t 0)))⟩,⟨(some 47),none,(.q (.len 0 (.t 46)))⟩,⟨(some 48),none,(.q (.mov (.c (.int .i64 0))))⟩] [9,46,47,48])
(.block 2
(.loop
(.seq
(.reg 14 [⟨(some 49),none,(.q (.bin .lss (.t 48) (.t 47)))⟩] [9,46,47,48,49])
(.seq
(.cond (.t 49)
.skip
(.exit 2))
(.seq
(.block 3
(.seq
(.reg 15 [⟨(some 50),none,(.q (.mov (.t 48)))⟩,⟨(some 51),none,(.q (.iaddr 2 (.t 46) (.t 48)))⟩,⟨(some 52),none,(.q (.load (some 2) (.t 51)))⟩,⟨(some 12),none,(.alloc [(.int .i64 0),.nilslice])⟩,⟨(some 11),none,(.q (.mov (.t 50)))⟩,⟨none,none,(.store 2 (.t 12) (.t 52))⟩] [9,11,12,46,47,48])
(.seq
(.seq
(.reg 16 [⟨(some 53),none,(.q (.faddr 0 (.t 12)))⟩,⟨(some 54),none,(.q (.load none (.t 53)))⟩,⟨(some 55),none,(.q (.bin .lss (.t 54) (.c (.int .i64 0))))⟩,⟨(some 56),none,(.q (.mov (.t 55)))⟩,⟨(some 57),(some ⟨56,false⟩),(.q (.faddr 0 (.t 12)))⟩,⟨(some 58),(some ⟨56,false⟩),(.q (.load none (.t 57)))⟩,⟨(some 59),(some ⟨56,false⟩),(.q (.bin .gtr (.t 58) (.c (.int .i64 1024))))⟩,⟨(some 60),none,(.q (.pick (.t 56) (.c (.bool true)) (.t 59)))⟩] [9,11,12,46,47,48,60])
(.cond (.t 60)
(.seq
(.reg 17 [⟨(some 4),none,(.q (.mov (.c .nilptr)))⟩,⟨(some 5),none,(.q (.mov (.c (.int .i64 4))))⟩] [4,5])
.ret)
.skip))
(.seq
(.reg 18 [⟨(some 61),none,(.q (.mov (.t 9)))⟩,⟨(some 62),none,(.q (.faddr 1 (.t 12)))⟩,⟨(some 63),none,(.q (.load none (.t 62)))⟩,⟨(some 64),none,(.q (.mov (.t 11)))⟩,⟨(some 65),none,(.q (.faddr 0 (.t 12)))⟩,⟨(some 66),none,(.q (.load none (.t 65)))⟩,⟨(some 67),none,(.call 69 [(.t 61),(.t 63),(.t 64),(.t 66)])⟩,⟨(some 13),none,(.q (.mov (.t 67)))⟩] [9,13,46,47,48])
(.seq
(.reg 19 [⟨(some 68),none,(.q (.mov (.t 13)))⟩,⟨(some 69),none,(.q (.bin .neq (.t 68) (.c (.int .i64 0))))⟩] [9,13,46,47,48,69])
(.cond (.t 69)
(.seq
(.reg 20 [⟨(some 70),none,(.q (.mov (.t 13)))⟩,⟨(some 4),none,(.q (.mov (.c .nilptr)))⟩,⟨(some 5),none,(.q (.mov (.t 70)))⟩] [4,5])
.ret)
.skip))))))
(.reg 21 [⟨(some 71),none,(.q (.bin .add (.t 48) (.c (.int .i64 1))))⟩,⟨(some 48),none,(.q (.mov (.t 71)))⟩] [9,46,47,48])))))))
(.seq
(.reg 22 [⟨(some 72),none,(.q (.mov (.t 9)))⟩,⟨(some 4),none,(.q (.mov (.t 72)))⟩,⟨(some 5),none,(.q (.mov (.c (.int .i64 0))))⟩] [4,5])
.ret))))))))
theorem fok15 : FOK Tryz.prog 15 (73,ic15,[(.t 4),(.t 5)]):=.mk (pf:=[]) (an:=[(0,[0,1]),(1,[0,1,6]),(2,[0,1,6,16,17,18]),(3,[0,1,6,16,17,18,19]),(4,[0,1,6,8,16,17,18]),(5,[0,1,6,16,17,18]),(6,[0,1,6,16,17,18]),(7,[0,1,34]),(8,[4,5]),(9,[0,1,9]),(10,[0,9,10]),(11,[0,9,10,44]),(12,[4,5]),(13,[9,46,47,48]),(14,[9,46,47,48,49]),(15,[9,11,12,46,47,48]),(16,[9,11,12,46,47,48,60]),(17,[4,5]),(18,[9,13,46,47,48]),(19,[9,13,46,47,48,69]),(20,[4,5]),(21,[9,46,47,48]),(22,[4,5])]) (by kernel_rfl) (fnOK_of Tryz.func15 (by kernel_rfl) (by kernel_rfl) (by kernel_rfl))
def ic16 : IC :=
(.seq
(.reg 0 [⟨(some 2),none,(.q (.mov (.c .nilslice)))⟩] [0])
(.seq
(.seq
(.reg 1 [⟨(some 3),none,(.q (.mov (.t 0)))⟩,⟨(some 4),none,(.q (.isnil (.pointer 105) false (.t 3)))⟩] [0,4])
(.cond (.t 4)
(.seq
(.reg 2 [⟨(some 2),none,(.q (.mov (.c .nilslice)))⟩] [2])
.ret)
.skip))
(.seq
(.reg 3 [⟨(some 5),none,(.q (.mov (.t 0)))⟩,⟨(some 6),none,(.q (.nchk (.t 5)))⟩,⟨(some 7),none,(.q (.faddr 2 (.t 6)))⟩,⟨(some 8),none,(.q (.load none (.t 7)))⟩,⟨(some 9),none,(.call 71 [(.t 8)])⟩,⟨(some 10),none,(.call 70 [(.t 9)])⟩,⟨(some 2),none,(.q (.mov (.t 10)))⟩] [2])
.ret)))
theorem fok16 : FOK Tryz.prog 16 (11,ic16,[(.t 2)]):=.mk (pf:=[]) (an:=[(0,[0]),(1,[0,4]),(2,[2]),(3,[2])]) (by kernel_rfl) (fnOK_of Tryz.func16 (by kernel_rfl) (by kernel_rfl) (by kernel_rfl))
def ic17 : IC :=
(.seq
(.reg 0 [⟨(some 2),none,(.q (.mov (.c (.int .i64 0))))⟩] [0])
(.seq
(.seq
(.reg 1 [⟨(some 3),none,(.q (.mov (.t 0)))⟩,⟨(some 4),none,(.q (.isnil (.pointer 105) false (.t 3)))⟩] [0,4])
(.cond (.t 4)
(.seq
(.reg 2 [⟨(some 2),none,(.q (.mov (.c (.int .i64 0))))⟩] [2])
.ret)
.skip))
(.seq
(.reg 3 [⟨(some 5),none,(.q (.mov (.t 0)))⟩,⟨(some 6),none,(.q (.nchk (.t 5)))⟩,⟨(some 7),none,(.q (.faddr 0 (.t 6)))⟩,⟨(some 8),none,(.q (.load none (.t 7)))⟩,⟨(some 9),none,(.q (.len 0 (.t 8)))⟩,⟨(some 2),none,(.q (.mov (.t 9)))⟩] [2])
.ret)))
theorem fok17 : FOK Tryz.prog 17 (10,ic17,[(.t 2)]):=.mk (pf:=[]) (an:=[(0,[0]),(1,[0,4]),(2,[2]),(3,[2])]) (by kernel_rfl) (fnOK_of Tryz.func17 (by kernel_rfl) (by kernel_rfl) (by kernel_rfl))
def ic18 : IC :=
(.seq
(.reg 0 [⟨(some 4),none,(.q (.mov (.c .nilslice)))⟩] [0,1])
(.seq
(.seq
(.reg 1 [⟨(some 5),none,(.q (.mov (.t 0)))⟩,⟨(some 6),none,(.q (.isnil (.pointer 105) false (.t 5)))⟩] [0,1,6])
(.cond (.t 6)
(.seq
(.reg 2 [⟨(some 4),none,(.q (.mov (.c .nilslice)))⟩] [4])
.ret)
.skip))
(.seq
(.reg 3 [⟨(some 7),none,(.q (.mov (.t 0)))⟩,⟨(some 8),none,(.q (.nchk (.t 7)))⟩,⟨(some 9),none,(.q (.faddr 2 (.t 8)))⟩,⟨(some 10),none,(.q (.load none (.t 9)))⟩,⟨(some 11),none,(.q (.mov (.t 1)))⟩,⟨(some 12),none,(.q (.lkp 2 .nilslice false (.t 10) (.t 11)))⟩,⟨(some 13),none,(.call 72 [(.t 12)])⟩,⟨(some 4),none,(.q (.mov (.t 13)))⟩] [4])
.ret)))
theorem fok18 : FOK Tryz.prog 18 (14,ic18,[(.t 4)]):=.mk (pf:=[]) (an:=[(0,[0,1]),(1,[0,1,6]),(2,[4]),(3,[4])]) (by kernel_rfl) (fnOK_of Tryz.func18 (by kernel_rfl) (by kernel_rfl) (by kernel_rfl))
def ic19 : IC :=
(.seq
(.reg 0 [⟨(some 4),none,(.alloc [(.str []),(.int .i64 0),(.str []),(.str []),(.int .u8 0),(.str []),.nilslice,.nilslice,.nilslice,.nilslice,.nilslice,.nilslice,.nilslice,.nilslice,.nilslice])⟩,⟨(some 5),none,(.q (.mov (.c (.int .i64 0))))⟩] [0,1,4])
(.seq
(.seq
(.reg 1 [⟨(some 6),none,(.q (.mov (.t 0)))⟩,⟨(some 7),none,(.q (.isnil (.pointer 105) false (.t 6)))⟩,⟨(some 8),none,(.q (.mov (.t 7)))⟩,⟨(some 9),(some ⟨8,false⟩),(.q (.mov (.t 0)))⟩,⟨(some 10),(some ⟨8,false⟩),(.q (.nchk (.t 9)))⟩,⟨(some 11),(some ⟨8,false⟩),(.q (.faddr 0 (.t 10)))⟩,⟨(some 12),(some ⟨8,false⟩),(.q (.load none (.t 11)))⟩,⟨(some 13),(some ⟨8,false⟩),(.q (.mov (.t 1)))⟩,⟨(some 14),(some ⟨8,false⟩),(.call 73 [(.t 12),(.t 13)])⟩,⟨(some 15),(some ⟨8,false⟩),(.q (.not (.t 14)))⟩,⟨(some 16),none,(.q (.pick (.t 8) (.c (.bool true)) (.t 15)))⟩] [0,1,4,16])
(.cond (.t 16)
(.seq
(.reg 2 [⟨(some 17),none,(.q (.bld [(.str []),(.int .i64 0),(.str []),(.str []),(.int .u8 0),(.str []),.nilslice,.nilslice,.nilslice,.nilslice,.nilslice,.nilslice,.nilslice,.nilslice,.nilslice] []))⟩,⟨none,none,(.store 15 (.t 4) (.t 17))⟩,⟨(some 5),none,(.q (.mov (.c (.int .i64 5))))⟩] [4,5])
.ret)
.skip))
(.seq
(.reg 3 [⟨(some 18),none,(.q (.mov (.t 0)))⟩,⟨(some 19),none,(.q (.nchk (.t 18)))⟩,⟨(some 20),none,(.q (.faddr 0 (.t 19)))⟩,⟨(some 21),none,(.q (.load none (.t 20)))⟩,⟨(some 22),none,(.q (.mov (.t 1)))⟩,⟨(some 23),none,(.q (.iaddr 17 (.t 21) (.t 22)))⟩,⟨(some 24),none,(.q (.faddr 0 (.t 23)))⟩,⟨(some 25),none,(.q (.load (some 15) (.t 24)))⟩,⟨(some 26),none,(.call 74 [(.t 25)])⟩,⟨none,none,(.store 15 (.t 4) (.t 26))⟩,⟨(some 5),none,(.q (.mov (.c (.int .i64 0))))⟩] [4,5])
.ret)))
theorem fok19 : FOK Tryz.prog 19 (27,ic19,[(.cell (some 15) 4),(.t 5)]):=.mk (pf:=[]) (an:=[(0,[0,1,4]),(1,[0,1,4,16]),(2,[4,5]),(3,[4,5])]) (by kernel_rfl) (fnOK_of Tryz.func19 (by kernel_rfl) (by kernel_rfl) (by kernel_rfl))
def ic20 : IC :=
(.seq
(.reg 0 [oM 6 (cB false)] [0,1,2])
(.seq
(.dreg 1 [oM 7 (.t 0),oQ 8 (.isnil (.pointer 105) true (.t 7)),oM 9 (.t 8),gQ 10 9 true (.mov (.t 0)),gQ 11 9 true (.nchk (.t 10)),gQ 12 9 true (.faddr 0 (.t 11)),gQ 13 9 true (.load none (.t 12)),gQ 14 9 true (.mov (.t 1)),gK 15 9 true (.call 73 [(.t 13),(.t 14)]),oQ 16 (.pick (.t 9) (.t 15) (cB false)),oM 17 (.t 16),gQ 18 17 true (.mov (.t 0)),gQ 19 17 true (.nchk (.t 18)),gQ 20 17 true (.faddr 0 (.t 19)),gQ 21 17 true (.load none (.t 20)),gQ 22 17 true (.mov (.t 2)),gK 23 17 true (.call 73 [(.t 21),(.t 22)]),oQ 24 (.pick (.t 17) (.t 23) (cB false)),oM 25 (.t 24),gQ 26 25 true (.mov (.t 1)),gQ 27 25 true (.mov (.t 2)),gQ 28 25 true (.bin .neq (.t 26) (.t 27)),oQ 29 (.pick (.t 25) (.t 28) (cB false)),oM 30 (.t 29),gQ 31 30 true (.mov (.t 0)),gQ 32 30 true (.nchk (.t 31)),gQ 33 30 true (.faddr 0 (.t 32)),gQ 34 30 true (.load none (.t 33)),gQ 35 30 true (.mov (.t 1)),gQ 36 30 true (.iaddr 17 (.t 34) (.t 35)),gQ 37 30 true (.faddr 0 (.t 36)),gQ 38 30 true (.load (some 15) (.t 37)),gQ 39 30 true (.mov (.t 0)),gQ 40 30 true (.nchk (.t 39)),gQ 41 30 true (.faddr 0 (.t 40)),gQ 42 30 true (.load none (.t 41)),gQ 43 30 true (.mov (.t 2)),gQ 44 30 true (.iaddr 17 (.t 42) (.t 43)),gQ 45 30 true (.faddr 0 (.t 44)),gQ 46 30 true (.load (some 15) (.t 45)),gK 47 30 true (.call 21 [(.t 38),(.t 46)]),oQ 48 (.pick (.t 30) (.t 47) (cB false)),oM 6 (.t 48)] false [6])
.ret))
theorem fok20 : FOK Tryz.prog 20 (49,ic20,[(.t 6)]):=fokA [] Tryz.func20
def ic21 : IC :=
(.seq
(.reg 0 [oK 2 (.boxt (.t 0)),oK 3 (.boxt (.t 1)),oM 4 (cB false)] [2,3])
(.seq
(.reg 1 [oQ 5 (.faddr 9 (.t 2)),oQ 6 (.load none (.t 5)),oQ 7 (.mkf 76 [] [(.t 3)]),oK 8 (.call 75 [(.t 6),(.t 7)]),oM 4 (.t 8)] [4])
.ret))
theorem fok21 : FOK Tryz.prog 21 (9,ic21,[(.t 4)]):=fokA [1000002,1000003] Tryz.func21
def ic32 : IC :=
(.seq
(.reg 0 [oK 2 (.boxt (.t 0)),oK 3 (.boxt (.t 1)),oM 4 (cB false)] [2,3])
(.seq
(.dreg 1 [oQ 5 (.load (some 15) (.t 2)),oK 6 (.pcall 92 [(.t 5)]),oQ 7 (.load (some 5) (.t 3)),oK 8 (.pcall 90 [(.t 6),(.t 7)]),oM 4 (.t 8)] false [4])
.ret))
theorem fok32 : FOK Tryz.prog 32 (9,ic32,[(.t 4)]):=fokA ([1000002,1000003] ++ [90,92]) Tryz.func32 (by kernel_rfl) (by kernel_rfl) (by kernel_rfl) (by kernel_rfl)
end Go.Id.Tryz
