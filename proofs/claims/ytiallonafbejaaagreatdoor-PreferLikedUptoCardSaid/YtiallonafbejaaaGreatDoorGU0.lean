/- The compiled codes of functions,written by a program out of the given form. Conditions: none. -/
import Derived.Test.YtiallonafbejaaaGreatDoorFwYa
import Derived.Test.YtiallonafbejaaaGreatDoorProg
set_option linter.all false
namespace Go.Id.Tryz
open Go Go.Id Go.Proofs
def ie4:List Nat:=List.range 357
def ic10:IC :=
(.seq
(.reg 0 [oK 7 (.boxt (.t 2)),oM 10 (cB false)] [0,1,3,4,7])
(.seq
(.seq
(.reg 1 [oK 34 (.pcall 47 []),oQ 35 (.not (.t 34)),oM 36 (.t 35),gQ 37 36 false (.mov (.t 0)),gQ 38 36 false (.mov (.t 1)),gQ 39 36 false (.load (some 5) (.t 7)),gK 40 36 false (.pcall 48 [(.t 37),(.t 38),(.t 39)]),oQ 41 (.pick (.t 36) (cB true) (.t 40))] [0,1,3,4,7,41])
(.cond (.t 41)
(.seq
(.reg 2 [oK 42 (.pcall 47 []),oM 10 (.t 42)] [10])
.ret)
.skip))
(.seq
(.reg 3 [oM 44 (.t 0),oM 45 (.t 1),oQ 46 (.load (some 5) (.t 7)),oK 47 (.pcall 49 [(.t 44),(.t 45),(.t 46)]),oM 43 (.t 47),oQ 48 (.ext 0 (.t 43)),oQ 49 (.ext 1 (.t 43)),oQ 50 (.ext 2 (.t 43)),oQ 51 (.ext 3 (.t 43)),oM 11 (.t 48),oM 12 (.t 49),oM 13 (.t 50),oM 14 (.t 51)] [0,1,3,4,7,11,13,14])
(.seq
(.seq
(.reg 4 [oM 52 (.t 14),oQ 53 (.not (.t 52))] [0,1,3,4,7,11,13,53])
(.cond (.t 53)
(.seq
(.reg 5 [oM 54 (.t 11),oQ 55 (.isnil (.pointer 148) false (.t 54)),oM 10 (.t 55)] [10])
.ret)
.skip))
(.seq
(.reg 6 [oM 15 (.f 53)] [0,1,3,4,7,11,13,15])
(.seq
(.reg 7 [oM 16 (.c .nilslice),oM 17 (.c .nilslice)] [0,1,3,4,7,11,13,15,16,17])
(.seq
(.seq
(.reg 8 [oM 18 (cI 0)] [0,1,3,4,7,11,13,15,16,17,18])
(.block 0
(.loop
(.seq
(.seq
(.reg 9 [oM 56 (.t 18),oM 57 (.t 0),oQ 58 (.len 0 (.t 57)),oQ 59 (.bin .lss (.t 56) (.t 58))] [0,1,3,4,7,11,13,15,16,17,18,59])
(.cond (.t 59)
.skip
(.exit 0)))
(.seq
(.block 1
(.seq
(.oreg 11 [(0,oM 62 (.t 16),0),(1,oM 63 (.t 0),0),(2,oM 64 (.t 18),0),(3,oQ 65 (.iaddr 2 (.t 63) (.t 64)),0),(4,oQ 66 (.faddr 0 (.t 65)),0),(5,oQ 67 (.ldt none (.t 66)),0),(6,oM 68 (.t 15),0),(7,oM 69 (.t 0),0),(8,oM 70 (.t 18),0),(9,oQ 71 (.iaddr 2 (.t 69) (.t 70)),0),(10,oQ 72 (.faddr 1 (.t 71)),0),(11,oQ 73 (.load none (.t 72)),0),(12,oK 74 (.callv (.t 68) [(.t 73)]),0),(13,oQ 75 (.bld [(zI 0),.nilslice] [⟨0,⟨1,(.t 67)⟩⟩,⟨1,⟨1,(.t 74)⟩⟩]),0),(14,oK 76 (.bslt 2 1 [(zI 0),.nilslice] [⟨0,⟨2,(.t 75)⟩⟩]),0),(15,oK 77 (.app 2 (.t 62) (.t 76)),0),(16,oM 16 (.t 77),0)] [0,1,3,4,7,11,13,15,16,17,18])
(.seq
(.reg 12 [oK 78 (.bsl 15 0 [(.str []),(zI 0),(.str []),(.str []),(zU 0),(.str []),.nilslice,.nilslice,.nilslice,.nilslice,.nilslice,.nilslice,.nilslice,.nilslice,.nilslice] []),oM 79 (.t 0),oM 80 (.t 18),oQ 81 (.iaddr 2 (.t 79) (.t 80)),oQ 82 (.faddr 1 (.t 81)),oQ 83 (.load none (.t 82)),oK 84 (.app 15 (.t 78) (.t 83)),oM 19 (.t 84)] [0,1,3,4,7,11,13,15,16,17,18,19])
(.seq
(.seq
(.reg 13 [oM 20 (cI 0)] [0,1,3,4,7,11,13,15,16,17,18,19,20])
(.block 2
(.loop
(.seq
(.seq
(.reg 14 [oM 85 (.t 20),oM 86 (.t 19),oQ 87 (.len 0 (.t 86)),oQ 88 (.bin .lss (.t 85) (.t 87))] [0,1,3,4,7,11,13,15,16,17,18,19,20,88])
(.cond (.t 88)
.skip
(.exit 2)))
(.seq
(.block 3
(.reg 16 [oM 91 (.t 19),oM 92 (.t 20),oQ 93 (.iaddr 15 (.t 91) (.t 92)),oQ 94 (.faddr 5 (.t 93)),oN (.store 1 (.t 94) (.c (.str [111,116,104,101,114])))] [0,1,3,4,7,11,13,15,16,17,18,19,20]))
(.reg 15 [oM 89 (.t 20),oQ 90 (.bin .add (.t 89) (cI 1)),oM 20 (.t 90)] [0,1,3,4,7,11,13,15,16,17,18,19,20]))))))
(.reg 17 [oM 95 (.t 17),oM 96 (.t 0),oM 97 (.t 18),oQ 98 (.iaddr 2 (.t 96) (.t 97)),oQ 99 (.faddr 0 (.t 98)),oQ 100 (.load none (.t 99)),oM 101 (.t 19),oQ 102 (.bld [(zI 0),.nilslice] [⟨0,⟨1,(.t 100)⟩⟩,⟨1,⟨1,(.t 101)⟩⟩]),oK 103 (.bslt 2 1 [(zI 0),.nilslice] [⟨0,⟨2,(.t 102)⟩⟩]),oK 104 (.app 2 (.t 95) (.t 103)),oM 17 (.t 104)] [0,1,3,4,7,11,13,15,16,17,18])))))
(.reg 10 [oM 60 (.t 18),oQ 61 (.bin .add (.t 60) (cI 1)),oM 18 (.t 61)] [0,1,3,4,7,11,13,15,16,17,18]))))))
(.seq
(.reg 18 [oQ 105 (.faddr 0 (.t 7)),oQ 106 (.load none (.t 105)),oQ 107 (.bld [(zU 0),(.bool false),.nilslice,.nilslice,(zI 0)] [⟨0,⟨1,(.t 106)⟩⟩]),oK 21 (.alloc [(zU 0),(.bool false),.nilslice,.nilslice,(zI 0)]),oN (.store 5 (.t 21) (.t 107))] [1,3,4,11,13,15,16,17,21])
(.seq
(.oreg 19 [(0,oM 109 (.t 16),0),(1,oM 110 (.t 15),0),(2,oM 111 (.t 1),0),(4,oQ 113 (.ldt (some 5) (.t 21)),0),(3,oK 112 (.callv (.t 110) [(.t 111)]),0),(5,oK 114 (.pcall 49 [(.t 109),(.t 112),(.t 113)]),0),(6,oM 108 (.t 114),0),(7,oQ 115 (.ext 0 (.t 108)),0),(8,oQ 116 (.ext 1 (.t 108)),0),(9,oQ 117 (.ext 2 (.t 108)),0),(10,oQ 118 (.ext 3 (.t 108)),0),(11,oM 22 (.t 115),0),(12,oM 23 (.t 116),0),(13,oM 24 (.t 117),0),(14,oM 25 (.t 118),0)] [1,3,4,11,13,17,21,22,25])
(.seq
(.reg 20 [oM 120 (.t 17),oM 121 (.t 1),oQ 122 (.load (some 5) (.t 21)),oK 123 (.pcall 49 [(.t 120),(.t 121),(.t 122)]),oM 119 (.t 123),oQ 124 (.ext 0 (.t 119)),oQ 125 (.ext 1 (.t 119)),oQ 126 (.ext 2 (.t 119)),oQ 127 (.ext 3 (.t 119)),oM 26 (.t 124),oM 27 (.t 125),oM 28 (.t 126),oM 29 (.t 127)] [3,4,11,13,22,25,26,29])
(.seq
(.seq
(.reg 21 [oM 128 (.t 25),oQ 129 (.not (.t 128)),oM 130 (.t 129),gQ 131 130 false (.mov (.t 29)),gQ 132 130 false (.not (.t 131)),oQ 133 (.pick (.t 130) (cB true) (.t 132)),oM 134 (.t 133),gQ 135 134 false (.mov (.t 22)),gQ 136 134 false (.mov (.t 3)),gK 137 134 false (.pcall 54 [(.t 135),(.t 136)]),oQ 138 (.pick (.t 134) (cB true) (.t 137)),oM 139 (.t 138),gQ 140 139 false (.mov (.t 22)),gQ 141 139 false (.mov (.t 4)),gK 142 139 false (.pcall 54 [(.t 140),(.t 141)]),oQ 143 (.pick (.t 139) (cB true) (.t 142)),oM 144 (.t 143),gQ 145 144 false (.mov (.t 26)),gQ 146 144 false (.mov (.t 3)),gQ 147 144 false (.mov (.t 4)),gK 148 144 false (.pcall 51 [(.t 145),(.t 146),(.t 147)]),gQ 149 144 false (.mov (.t 11)),gQ 150 144 false (.mov (.t 3)),gQ 151 144 false (.mov (.t 4)),gK 152 144 false (.pcall 51 [(.t 149),(.t 150),(.t 151)]),gQ 153 144 false (.eqs [0] false true (.t 148) (.t 152)),oQ 154 (.pick (.t 144) (cB true) (.t 153)),oM 155 (.t 154),gQ 156 155 false (.mov (.t 26)),gQ 157 155 false (.mov (.t 3)),gK 158 155 false (.pcall 54 [(.t 156),(.t 157)]),gQ 159 155 false (.mov (.t 11)),gQ 160 155 false (.mov (.t 3)),gK 161 155 false (.pcall 54 [(.t 159),(.t 160)]),gQ 162 155 false (.eqs [0] false true (.t 158) (.t 161)),oQ 163 (.pick (.t 155) (cB true) (.t 162))] [3,4,11,13,163])
(.cond (.t 163)
(.seq
(.reg 22 [oM 10 (cB false)] [10])
.ret)
.skip))
(.seq
(.reg 23 [oM 165 (.t 13),oM 166 (.t 3),oK 167 (.pcall 19 [(.t 165),(.t 166)]),oM 164 (.t 167),oQ 168 (.ext 0 (.t 164)),oQ 169 (.ext 1 (.t 164)),oK 30 (.alloc [(.str []),(zI 0),(.str []),(.str []),(zU 0),(.str []),.nilslice,.nilslice,.nilslice,.nilslice,.nilslice,.nilslice,.nilslice,.nilslice,.nilslice]),oN (.store 15 (.t 30) (.t 168)),oM 31 (.t 169)] [3,4,11,13,30,31])
(.seq
(.reg 24 [oM 171 (.t 13),oM 172 (.t 4),oK 173 (.pcall 19 [(.t 171),(.t 172)]),oM 170 (.t 173),oQ 174 (.ext 0 (.t 170)),oQ 175 (.ext 1 (.t 170)),oK 32 (.alloc [(.str []),(zI 0),(.str []),(.str []),(zU 0),(.str []),.nilslice,.nilslice,.nilslice,.nilslice,.nilslice,.nilslice,.nilslice,.nilslice,.nilslice]),oN (.store 15 (.t 32) (.t 174)),oM 33 (.t 175)] [3,4,11,13,30,31,32,33])
(.seq
(.reg 25 [oM 176 (.t 31),oQ 177 (.bin .neq (.t 176) (cI 0)),oM 178 (.t 177),gQ 179 178 false (.mov (.t 33)),gQ 180 178 false (.bin .neq (.t 179) (cI 0)),oQ 181 (.pick (.t 178) (cB true) (.t 180)),oM 182 (.t 181),gQ 183 182 false (.mov (.t 13)),gQ 184 182 false (.mov (.t 3)),gK 185 182 false (.pcall 55 [(.t 183),(.t 184)]),gQ 186 182 false (.bin .geq (.t 185) (cI 0)),oQ 187 (.pick (.t 182) (cB true) (.t 186)),oM 188 (.t 187),gQ 189 188 false (.mov (.t 13)),gQ 190 188 false (.mov (.t 4)),gK 191 188 false (.pcall 55 [(.t 189),(.t 190)]),gQ 192 188 false (.bin .lss (.t 191) (cI 0)),oQ 193 (.pick (.t 188) (cB true) (.t 192)),oM 194 (.t 193),gQ 195 194 false (.faddr 4 (.t 30)),gQ 196 194 false (.load none (.t 195)),gQ 197 194 false (.faddr 4 (.t 32)),gQ 198 194 false (.load none (.t 197)),gQ 199 194 false (.bin .neq (.t 196) (.t 198)),oQ 200 (.pick (.t 194) (cB true) (.t 199)),oM 201 (.t 200),gQ 202 201 false (.mov (.t 11)),gQ 203 201 false (.mov (.t 3)),gQ 204 201 false (.mov (.t 4)),gK 205 201 false (.pcall 51 [(.t 202),(.t 203),(.t 204)]),oQ 206 (.pick (.t 201) (cB true) (.t 205)),oM 10 (.t 206)] [10])
.ret))))))))))))))
theorem fok10:FOK Tryz.prog 10 (207,ic10,[(.t 10)]):=fokA ([1000007,1000067,1000076,1000103,1000113]++ie4) Tryz.func10 (by kernel_rfl) (by kernel_rfl) (by kernel_rfl) (by kernel_rfl)
def ic15:IC :=
(.seq
(.reg 0 [⟨(some 4),none,(.q (.mov (.c .nilptr)))⟩,⟨(some 5),none,(.q (.mov (.c (.int .i64 0))))⟩] [0,1])
(.seq
(.reg 1 [⟨(some 14),none,(.q (.mov (.t 1)))⟩,⟨(some 15),none,(.q (.len 0 (.t 14)))⟩,⟨(some 6),none,(.q (.mov (.t 15)))⟩] [0,1,6])
(.seq
(.seq
(.reg 2 [⟨(some 16),none,(.q (.mov (.t 0)))⟩,⟨(some 17),none,(.q (.len 0 (.t 16)))⟩,⟨(some 18),none,(.q (.mov (.c (.int .i64 0))))⟩] [0,1,6,16,17,18])
(.block 0
(.loop
(.seq
(.reg 3 [⟨(some 19),none,(.q (.bin .lss (.t 18) (.t 17)))⟩] [0,1,6,16,17,18,19])
(.seq
(.cond (.t 19)
.skip
(.exit 0))
(.seq
(.block 1
(.seq
(.reg 4 [⟨(some 20),none,(.q (.iaddr 2 (.t 16) (.t 18)))⟩,⟨(some 21),none,(.q (.load (some 2) (.t 20)))⟩,⟨(some 8),none,(.alloc [(.int .i64 0),.nilslice])⟩,⟨none,none,(.store 2 (.t 8) (.t 21))⟩] [0,1,6,8,16,17,18])
(.reg 5 [⟨(some 22),none,(.q (.mov (.t 6)))⟩,⟨(some 23),none,(.q (.faddr 1 (.t 8)))⟩,⟨(some 24),none,(.q (.load none (.t 23)))⟩,⟨(some 25),none,(.q (.len 0 (.t 24)))⟩,⟨(some 26),none,(.q (.bin .add (.t 22) (.t 25)))⟩,⟨(some 6),none,(.q (.mov (.t 26)))⟩] [0,1,6,16,17,18])))
(.reg 6 [⟨(some 27),none,(.q (.bin .add (.t 18) (.c (.int .i64 1))))⟩,⟨(some 18),none,(.q (.mov (.t 27)))⟩] [0,1,6,16,17,18])))))))
(.seq
(.seq
(.reg 7 [⟨(some 28),none,(.q (.mov (.t 0)))⟩,⟨(some 29),none,(.q (.len 0 (.t 28)))⟩,⟨(some 30),none,(.q (.bin .gtr (.t 29) (.c (.int .i64 16))))⟩,⟨(some 31),none,(.q (.mov (.t 30)))⟩,⟨(some 32),(some ⟨31,false⟩),(.q (.mov (.t 6)))⟩,⟨(some 33),(some ⟨31,false⟩),(.q (.bin .gtr (.t 32) (.c (.int .i64 256))))⟩,⟨(some 34),none,(.q (.pick (.t 31) (.c (.bool true)) (.t 33)))⟩] [0,1,34])
(.cond (.t 34)
(.seq
(.reg 8 [⟨(some 4),none,(.q (.mov (.c .nilptr)))⟩,⟨(some 5),none,(.q (.mov (.c (.int .i64 40))))⟩] [4,5])
.ret)
.skip))
(.seq
(.reg 9 [⟨(some 35),none,(.q (.mov (.t 1)))⟩,⟨(some 36),none,(.q (.len 0 (.t 35)))⟩,⟨(some 37),none,.mkmap⟩,⟨(some 38),none,(.q (.bld [.nilslice,(.int .i64 0),.nilmap] [⟨1,⟨1,(.t 36)⟩⟩,⟨2,⟨1,(.t 37)⟩⟩]))⟩,⟨(some 39),none,(.box (.t 38))⟩,⟨(some 9),none,(.q (.mov (.t 39)))⟩] [0,1,9])
(.seq
(.seq
(.reg 10 [⟨(some 40),none,(.q (.mov (.t 9)))⟩,⟨(some 41),none,(.q (.mov (.t 1)))⟩,⟨(some 42),none,(.call 69 [(.t 40),(.t 41),(.c (.int .i64 (-1))),(.c (.int .i64 1025))])⟩,⟨(some 10),none,(.q (.mov (.t 42)))⟩] [0,9,10])
(.seq
(.reg 11 [⟨(some 43),none,(.q (.mov (.t 10)))⟩,⟨(some 44),none,(.q (.bin .neq (.t 43) (.c (.int .i64 0))))⟩] [0,9,10,44])
(.cond (.t 44)
(.seq
(.reg 12 [⟨(some 45),none,(.q (.mov (.t 10)))⟩,⟨(some 4),none,(.q (.mov (.c .nilptr)))⟩,⟨(some 5),none,(.q (.mov (.t 45)))⟩] [4,5])
.ret)
.skip)))
(.seq
(.seq
(.reg 13 [⟨(some 46),none,(.q (.mov (.t 0)))⟩,⟨(some 47),none,(.q (.len 0 (.t 46)))⟩,⟨(some 48),none,(.q (.mov (.c (.int .i64 0))))⟩] [9,46,47,48])
(.block 2
(.loop
(.seq
(.reg 14 [⟨(some 49),none,(.q (.bin .lss (.t 48) (.t 47)))⟩] [9,46,47,48,49])
(.seq
(.cond (.t 49)
.skip
(.exit 2))
(.seq
(.block 3
(.seq
(.reg 15 [⟨(some 50),none,(.q (.mov (.t 48)))⟩,⟨(some 51),none,(.q (.iaddr 2 (.t 46) (.t 48)))⟩,⟨(some 52),none,(.q (.load (some 2) (.t 51)))⟩,⟨(some 12),none,(.alloc [(.int .i64 0),.nilslice])⟩,⟨(some 11),none,(.q (.mov (.t 50)))⟩,⟨none,none,(.store 2 (.t 12) (.t 52))⟩] [9,11,12,46,47,48])
(.seq
(.seq
(.reg 16 [⟨(some 53),none,(.q (.faddr 0 (.t 12)))⟩,⟨(some 54),none,(.q (.load none (.t 53)))⟩,⟨(some 55),none,(.q (.bin .lss (.t 54) (.c (.int .i64 0))))⟩,⟨(some 56),none,(.q (.mov (.t 55)))⟩,⟨(some 57),(some ⟨56,false⟩),(.q (.faddr 0 (.t 12)))⟩,⟨(some 58),(some ⟨56,false⟩),(.q (.load none (.t 57)))⟩,⟨(some 59),(some ⟨56,false⟩),(.q (.bin .gtr (.t 58) (.c (.int .i64 1024))))⟩,⟨(some 60),none,(.q (.pick (.t 56) (.c (.bool true)) (.t 59)))⟩] [9,11,12,46,47,48,60])
(.cond (.t 60)
(.seq
(.reg 17 [⟨(some 4),none,(.q (.mov (.c .nilptr)))⟩,⟨(some 5),none,(.q (.mov (.c (.int .i64 4))))⟩] [4,5])
.ret)
.skip))
(.seq
(.reg 18 [⟨(some 61),none,(.q (.mov (.t 9)))⟩,⟨(some 62),none,(.q (.faddr 1 (.t 12)))⟩,⟨(some 63),none,(.q (.load none (.t 62)))⟩,⟨(some 64),none,(.q (.mov (.t 11)))⟩,⟨(some 65),none,(.q (.faddr 0 (.t 12)))⟩,⟨(some 66),none,(.q (.load none (.t 65)))⟩,⟨(some 67),none,(.call 69 [(.t 61),(.t 63),(.t 64),(.t 66)])⟩,⟨(some 13),none,(.q (.mov (.t 67)))⟩] [9,13,46,47,48])
(.seq
(.reg 19 [⟨(some 68),none,(.q (.mov (.t 13)))⟩,⟨(some 69),none,(.q (.bin .neq (.t 68) (.c (.int .i64 0))))⟩] [9,13,46,47,48,69])
(.cond (.t 69)
(.seq
(.reg 20 [⟨(some 70),none,(.q (.mov (.t 13)))⟩,⟨(some 4),none,(.q (.mov (.c .nilptr)))⟩,⟨(some 5),none,(.q (.mov (.t 70)))⟩] [4,5])
.ret)
.skip))))))
(.reg 21 [⟨(some 71),none,(.q (.bin .add (.t 48) (.c (.int .i64 1))))⟩,⟨(some 48),none,(.q (.mov (.t 71)))⟩] [9,46,47,48])))))))
(.seq
(.reg 22 [⟨(some 72),none,(.q (.mov (.t 9)))⟩,⟨(some 4),none,(.q (.mov (.t 72)))⟩,⟨(some 5),none,(.q (.mov (.c (.int .i64 0))))⟩] [4,5])
.ret))))))))
theorem fok15:FOK Tryz.prog 15 (73,ic15,[(.t 4),(.t 5)]):=.mk (pf:=[]) (an:=[(0,[0,1]),(1,[0,1,6]),(2,[0,1,6,16,17,18]),(3,[0,1,6,16,17,18,19]),(4,[0,1,6,8,16,17,18]),(5,[0,1,6,16,17,18]),(6,[0,1,6,16,17,18]),(7,[0,1,34]),(8,[4,5]),(9,[0,1,9]),(10,[0,9,10]),(11,[0,9,10,44]),(12,[4,5]),(13,[9,46,47,48]),(14,[9,46,47,48,49]),(15,[9,11,12,46,47,48]),(16,[9,11,12,46,47,48,60]),(17,[4,5]),(18,[9,13,46,47,48]),(19,[9,13,46,47,48,69]),(20,[4,5]),(21,[9,46,47,48]),(22,[4,5])]) (by kernel_rfl) (ab3 Tryz.func15 (by kernel_rfl) (by kernel_rfl) (by kernel_rfl))
def ic17:IC :=
(.seq
(.reg 0 [⟨(some 2),none,(.q (.mov (.c (.int .i64 0))))⟩] [0])
(.seq
(.seq
(.reg 1 [⟨(some 3),none,(.q (.mov (.t 0)))⟩,⟨(some 4),none,(.q (.isnil (.pointer 105) false (.t 3)))⟩] [0,4])
(.cond (.t 4)
(.seq
(.reg 2 [⟨(some 2),none,(.q (.mov (.c (.int .i64 0))))⟩] [2])
.ret)
.skip))
(.seq
(.reg 3 [⟨(some 5),none,(.q (.mov (.t 0)))⟩,⟨(some 6),none,(.q (.nchk (.t 5)))⟩,⟨(some 7),none,(.q (.faddr 0 (.t 6)))⟩,⟨(some 8),none,(.q (.load none (.t 7)))⟩,⟨(some 9),none,(.q (.len 0 (.t 8)))⟩,⟨(some 2),none,(.q (.mov (.t 9)))⟩] [2])
.ret)))
theorem fok17:FOK Tryz.prog 17 (10,ic17,[(.t 2)]):=.mk (pf:=[]) (an:=[(0,[0]),(1,[0,4]),(2,[2]),(3,[2])]) (by kernel_rfl) (ab3 Tryz.func17 (by kernel_rfl) (by kernel_rfl) (by kernel_rfl))
def ic19:IC :=
(.seq
(.reg 0 [⟨(some 4),none,(.alloc [(.str []),(.int .i64 0),(.str []),(.str []),(.int .u8 0),(.str []),.nilslice,.nilslice,.nilslice,.nilslice,.nilslice,.nilslice,.nilslice,.nilslice,.nilslice])⟩,⟨(some 5),none,(.q (.mov (.c (.int .i64 0))))⟩] [0,1,4])
(.seq
(.seq
(.reg 1 [⟨(some 6),none,(.q (.mov (.t 0)))⟩,⟨(some 7),none,(.q (.isnil (.pointer 105) false (.t 6)))⟩,⟨(some 8),none,(.q (.mov (.t 7)))⟩,⟨(some 9),(some ⟨8,false⟩),(.q (.mov (.t 0)))⟩,⟨(some 10),(some ⟨8,false⟩),(.q (.nchk (.t 9)))⟩,⟨(some 11),(some ⟨8,false⟩),(.q (.faddr 0 (.t 10)))⟩,⟨(some 12),(some ⟨8,false⟩),(.q (.load none (.t 11)))⟩,⟨(some 13),(some ⟨8,false⟩),(.q (.mov (.t 1)))⟩,⟨(some 14),(some ⟨8,false⟩),(.call 73 [(.t 12),(.t 13)])⟩,⟨(some 15),(some ⟨8,false⟩),(.q (.not (.t 14)))⟩,⟨(some 16),none,(.q (.pick (.t 8) (.c (.bool true)) (.t 15)))⟩] [0,1,4,16])
(.cond (.t 16)
(.seq
(.reg 2 [⟨(some 17),none,(.q (.bld [(.str []),(.int .i64 0),(.str []),(.str []),(.int .u8 0),(.str []),.nilslice,.nilslice,.nilslice,.nilslice,.nilslice,.nilslice,.nilslice,.nilslice,.nilslice] []))⟩,⟨none,none,(.store 15 (.t 4) (.t 17))⟩,⟨(some 5),none,(.q (.mov (.c (.int .i64 5))))⟩] [4,5])
.ret)
.skip))
(.seq
(.reg 3 [⟨(some 18),none,(.q (.mov (.t 0)))⟩,⟨(some 19),none,(.q (.nchk (.t 18)))⟩,⟨(some 20),none,(.q (.faddr 0 (.t 19)))⟩,⟨(some 21),none,(.q (.load none (.t 20)))⟩,⟨(some 22),none,(.q (.mov (.t 1)))⟩,⟨(some 23),none,(.q (.iaddr 17 (.t 21) (.t 22)))⟩,⟨(some 24),none,(.q (.faddr 0 (.t 23)))⟩,⟨(some 25),none,(.q (.load (some 15) (.t 24)))⟩,⟨(some 26),none,(.call 74 [(.t 25)])⟩,⟨none,none,(.store 15 (.t 4) (.t 26))⟩,⟨(some 5),none,(.q (.mov (.c (.int .i64 0))))⟩] [4,5])
.ret)))
theorem fok19:FOK Tryz.prog 19 (27,ic19,[(.cell (some 15) 4),(.t 5)]):=.mk (pf:=[]) (an:=[(0,[0,1,4]),(1,[0,1,4,16]),(2,[4,5]),(3,[4,5])]) (by kernel_rfl) (ab3 Tryz.func19 (by kernel_rfl) (by kernel_rfl) (by kernel_rfl))
def ic28:IC :=
(.seq
(.reg 0 [oK 3 (.boxt (.t 1)),oM 4 (.c .nilslice)] [0,3])
(.seq
(.seq
(.reg 1 [oM 5 (.t 0),oQ 6 (.isnil (.pointer 122) false (.t 5))] [0,3,6])
(.cond (.t 6)
(.seq
(.reg 2 [oM 4 (.c .nilslice)] [4])
.ret)
.skip))
(.seq
(.dreg 3 [oM 7 (.t 0),oM 8 (.t 0),oQ 9 (.nchk (.t 8)),oQ 10 (.faddr 1 (.t 9)),oQ 11 (.load none (.t 10)),oQ 12 (.faddr 0 (.t 3)),oQ 13 (.load none (.t 12)),oQ 14 (.lkp 2 .nilslice false (.t 11) (.t 13)),oQ 15 (.mkf 87 [] [(.t 3)]),oK 16 (.call 82 [(.t 7),(.t 14),(.t 15)]),oM 4 (.t 16)] false [4])
.ret)))
theorem fok28:FOK Tryz.prog 28 (17,ic28,[(.t 4)]):=fokA [1000003] Tryz.func28
def ic31:IC :=
(.seq
(.reg 0 [oK 2 (.boxt (.t 0)),oK 3 (.boxt (.t 1)),oM 4 (cB false)] [2,3])
(.seq
(.seq
(.reg 1 [oQ 5 (.load (some 15) (.t 2)),oQ 6 (.load (some 5) (.t 3)),oK 7 (.call 32 [(.t 5),(.t 6)]),oM 8 (.t 7),gQ 9 8 false (.faddr 6 (.t 2)),gQ 10 8 false (.load none (.t 9)),gQ 11 8 false (.mkf 89 [] [(.t 3)]),gK 12 8 false (.call 75 [(.t 10),(.t 11)]),oQ 13 (.pick (.t 8) (cB true) (.t 12))] [2,3,13])
(.cond (.t 13)
(.seq
(.reg 2 [oM 4 (cB true)] [4])
.ret)
.skip))
(.seq
(.reg 3 [oQ 14 (.faddr 1 (.t 3)),oQ 15 (.load none (.t 14)),oQ 16 (.bin .eql (.t 15) (.c (zU 0))),oM 17 (.t 16),gQ 18 17 true (.faddr 14 (.t 2)),gQ 19 17 true (.load none (.t 18)),gQ 20 17 true (.faddr 0 (.t 3)),gQ 21 17 true (.load none (.t 20)),gK 22 17 true (.call 91 [(.t 19),(.t 21)]),oQ 23 (.pick (.t 17) (.t 22) (cB false)),oM 4 (.t 23)] [4])
.ret)))
theorem fok31:FOK Tryz.prog 31 (24,ic31,[(.t 4)]):=fokA [1000002,1000003] Tryz.func31
def ic32:IC :=
(.seq
(.reg 0 [oK 2 (.boxt (.t 0)),oK 3 (.boxt (.t 1)),oM 4 (cB false)] [2,3])
(.seq
(.dreg 1 [oQ 5 (.load (some 15) (.t 2)),oK 6 (.pcall 92 [(.t 5)]),oQ 7 (.load (some 5) (.t 3)),oK 8 (.pcall 90 [(.t 6),(.t 7)]),oM 4 (.t 8)] false [4])
.ret))
theorem fok32:FOK Tryz.prog 32 (9,ic32,[(.t 4)]):=fokA ([1000002,1000003]++[90,92]) Tryz.func32 (by kernel_rfl) (by kernel_rfl) (by kernel_rfl) (by kernel_rfl)
def ic37:IC :=
(.seq
(.reg 0 [oM 4 (cB false)] [0,1])
(.seq
(.seq
(.reg 1 [oM 6 (.t 0),oQ 7 (.len 0 (.t 6)),oM 8 (.t 1),oQ 9 (.len 0 (.t 8)),oQ 10 (.bin .neq (.t 7) (.t 9))] [0,1,10])
(.cond (.t 10)
(.seq
(.reg 2 [oM 4 (cB false)] [4])
.ret)
.skip))
(.seq
(.seq
(.reg 3 [oM 5 (cI 0)] [0,1,5])
(.block 0
(.loop
(.seq
(.seq
(.reg 4 [oM 11 (.t 5),oM 12 (.t 0),oQ 13 (.len 0 (.t 12)),oQ 14 (.bin .lss (.t 11) (.t 13))] [0,1,5,14])
(.cond (.t 14)
.skip
(.exit 0)))
(.seq
(.block 1
(.seq
(.dreg 6 [oM 17 (.t 0),oM 18 (.t 5),oQ 19 (.iaddr 1 (.t 17) (.t 18)),oQ 20 (.load none (.t 19)),oM 21 (.t 1),oM 22 (.t 5),oQ 23 (.iaddr 1 (.t 21) (.t 22)),oQ 24 (.load none (.t 23)),oQ 25 (.bin .neq (.t 20) (.t 24))] false [0,1,5,25])
(.cond (.t 25)
(.seq
(.reg 7 [oM 4 (cB false)] [4])
.ret)
.skip)))
(.reg 5 [oM 15 (.t 5),oQ 16 (.bin .add (.t 15) (cI 1)),oM 5 (.t 16)] [0,1,5]))))))
(.seq
(.reg 8 [oM 4 (cB true)] [4])
.ret))))
theorem fok37:FOK Tryz.prog 37 (26,ic37,[(.t 4)]):=fokA [] Tryz.func37
end Go.Id.Tryz
