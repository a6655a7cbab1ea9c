/- The compiled codes of functions, written by a program out of the given form. Conditions: none. -/
import Derived.Test.YtiallonafbejaaaGreatDoorFwYa
import Derived.Test.YtiallonafbejaaaGreatDoorProg
set_option linter.all false
namespace Go.Id.Tryz
open Go Go.Id Go.Proofs
def allF0 : List Nat := List.range 357
def ic5 : IC :=
(.seq
(.reg 0 [oK 5 (.boxt (.t 2)),oM 6 (cB false)] [0,1,5])
(.seq
(.seq
(.reg 1 [oK 19 (.call 22 []),oQ 20 (.not (.t 19)),oM 21 (.t 20),gQ 22 21 false (.mov (.t 0)),gQ 23 21 false (.mov (.t 1)),gK 24 21 false (.call 23 [(.t 22),(.t 23)]),oQ 25 (.pick (.t 21) (cB true) (.t 24))] [0,1,5,25])
(.cond (.t 25)
(.seq
(.reg 2 [oK 26 (.call 22 []),oM 6 (.t 26)] [6])
.ret)
.skip))
(.seq
(.reg 3 [oM 28 (.t 0),oM 29 (.t 1),oK 30 (.call 24 [(.t 28),(.t 29)]),oM 27 (.t 30),oQ 31 (.ext 0 (.t 27)),oQ 32 (.ext 1 (.t 27)),oQ 33 (.ext 2 (.t 27)),oM 7 (.t 31),oM 8 (.t 32),oM 9 (.t 33)] [5,7,8,9])
(.seq
(.seq
(.reg 4 [oM 34 (.t 9),oQ 35 (.not (.t 34))] [5,7,8,35])
(.cond (.t 35)
(.seq
(.reg 5 [oM 36 (.t 7),oQ 37 (.isnil (.pointer 122) false (.t 36)),oM 6 (.t 37)] [6])
.ret)
.skip))
(.seq
(.dreg 6 [oM 38 (.t 7),oQ 39 (.load (some 5) (.t 5)),oK 40 (.pcall 28 [(.t 38),(.t 39)]),oM 41 (.t 7),oQ 42 (.load (some 5) (.t 5)),oK 43 (.pcall 29 [(.t 41),(.t 42)]),oM 10 (.t 40),oM 11 (.t 43)] false [5,7,8,10,11])
(.seq
(.dreg 7 [oM 44 (.t 7),oQ 45 (.faddr 0 (.t 5)),oQ 46 (.load none (.t 45)),oK 47 (.pcall 30 [(.t 46),(.c (zU 0)),(.c (.str []))]),oK 48 (.pcall 28 [(.t 44),(.t 47)]),oM 49 (.t 7),oQ 50 (.faddr 0 (.t 5)),oQ 51 (.load none (.t 50)),oK 52 (.pcall 30 [(.t 51),(.c (zU 0)),(.c (.str []))]),oK 53 (.pcall 29 [(.t 49),(.t 52)]),oM 12 (.t 48),oM 13 (.t 53)] false [5,8,10,11,12,13])
(.seq
(.seq
(.reg 8 [oM 14 (cI 1)] [5,8,10,11,12,13,14])
(.block 0
(.loop
(.seq
(.seq
(.reg 9 [oM 54 (.t 14),oM 55 (.t 10),oQ 56 (.len 0 (.t 55)),oQ 57 (.bin .lss (.t 54) (.t 56))] [5,8,10,11,12,13,14,57])
(.cond (.t 57)
.skip
(.exit 0)))
(.seq
(.block 1
(.seq
(.dreg 11 [oM 60 (.t 10),oM 61 (.t 14),oQ 62 (.iaddr 1 (.t 60) (.t 61)),oQ 63 (.load none (.t 62)),oM 64 (.t 10),oM 65 (.t 14),oQ 66 (.bin .sub (.t 65) (cI 1)),oQ 67 (.iaddr 1 (.t 64) (.t 66)),oQ 68 (.load none (.t 67)),oQ 69 (.bin .leq (.t 63) (.t 68))] false [5,8,10,11,12,13,14,69])
(.cond (.t 69)
(.seq
(.reg 12 [oM 6 (cB false)] [6])
.ret)
.skip)))
(.reg 10 [oM 58 (.t 14),oQ 59 (.bin .add (.t 58) (cI 1)),oM 14 (.t 59)] [5,8,10,11,12,13,14]))))))
(.seq
(.reg 13 [oM 15 (cI 0)] [5,8,10,11,12,13,15])
(.seq
(.seq
(.reg 14 [oM 16 (cI 0)] [5,8,10,11,12,13,15,16])
(.block 2
(.loop
(.seq
(.seq
(.reg 15 [oM 70 (.t 16),oM 71 (.t 8),oK 72 (.call 17 [(.t 71)]),oQ 73 (.bin .lss (.t 70) (.t 72))] [5,8,10,11,12,13,15,16,73])
(.cond (.t 73)
.skip
(.exit 2)))
(.seq
(.block 3
(.seq
(.reg 17 [oM 77 (.t 8),oM 78 (.t 16),oK 79 (.call 19 [(.t 77),(.t 78)]),oM 76 (.t 79),oQ 80 (.ext 0 (.t 76)),oQ 81 (.ext 1 (.t 76)),oK 17 (.alloc [(.str []),(zI 0),(.str []),(.str []),(zU 0),(.str []),.nilslice,.nilslice,.nilslice,.nilslice,.nilslice,.nilslice,.nilslice,.nilslice,.nilslice]),oN (.store 15 (.t 17) (.t 80)),oM 18 (.t 81)] [5,8,10,11,12,13,15,16,17,18])
(.seq
(.seq
(.dreg 18 [oM 82 (.t 18),oQ 83 (.bin .neq (.t 82) (cI 0)),oM 84 (.t 83),gQ 85 84 false (.mov (.t 10)),gQ 86 84 false (.mov (.t 16)),gK 87 84 false (.pcall 27 [(.t 85),(.t 86)]),gQ 88 84 false (.load (some 15) (.t 17)),gQ 89 84 false (.load (some 5) (.t 5)),gK 90 84 false (.pcall 31 [(.t 88),(.t 89)]),gQ 91 84 false (.eqs [0] false true (.t 87) (.t 90)),oQ 92 (.pick (.t 84) (cB true) (.t 91)),oM 93 (.t 92),gQ 94 93 false (.mov (.t 11)),gQ 95 93 false (.mov (.t 16)),gK 96 93 false (.pcall 27 [(.t 94),(.t 95)]),gQ 97 93 false (.load (some 15) (.t 17)),gQ 98 93 false (.load (some 5) (.t 5)),gK 99 93 false (.pcall 32 [(.t 97),(.t 98)]),gQ 100 93 false (.eqs [0] false true (.t 96) (.t 99)),oQ 101 (.pick (.t 93) (cB true) (.t 100)),oM 102 (.t 101),gQ 103 102 false (.mov (.t 11)),gQ 104 102 false (.mov (.t 16)),gK 105 102 false (.pcall 27 [(.t 103),(.t 104)]),gQ 106 102 false (.mov (.t 105)),gQ 107 106 true (.mov (.t 10)),gQ 108 106 true (.mov (.t 16)),gK 109 106 true (.pcall 27 [(.t 107),(.t 108)]),gQ 110 106 true (.not (.t 109)),gQ 111 102 false (.pick (.t 106) (.t 110) (cB false)),oQ 112 (.pick (.t 102) (cB true) (.t 111)),oM 113 (.t 112),gQ 114 113 false (.mov (.t 10)),gQ 115 113 false (.mov (.t 16)),gK 116 113 false (.pcall 27 [(.t 114),(.t 115)]),gQ 117 113 false (.mov (.t 116)),gQ 118 117 true (.mov (.t 12)),gQ 119 117 true (.mov (.t 16)),gK 120 117 true (.pcall 27 [(.t 118),(.t 119)]),gQ 121 117 true (.not (.t 120)),gQ 122 113 false (.pick (.t 117) (.t 121) (cB false)),oQ 123 (.pick (.t 113) (cB true) (.t 122)),oM 124 (.t 123),gQ 125 124 false (.mov (.t 11)),gQ 126 124 false (.mov (.t 16)),gK 127 124 false (.pcall 27 [(.t 125),(.t 126)]),gQ 128 124 false (.mov (.t 127)),gQ 129 128 true (.mov (.t 13)),gQ 130 128 true (.mov (.t 16)),gK 131 128 true (.pcall 27 [(.t 129),(.t 130)]),gQ 132 128 true (.not (.t 131)),gQ 133 124 false (.pick (.t 128) (.t 132) (cB false)),oQ 134 (.pick (.t 124) (cB true) (.t 133))] false [5,8,10,11,12,13,15,16,134])
(.cond (.t 134)
(.seq
(.reg 19 [oM 6 (cB false)] [6])
.ret)
.skip))
(.seq
(.reg 20 [oM 135 (.t 10),oM 136 (.t 16),oK 137 (.pcall 27 [(.t 135),(.t 136)])] [5,8,10,11,12,13,15,16,137])
(.cond (.t 137)
(.reg 21 [oM 138 (.t 15),oQ 139 (.bin .add (.t 138) (cI 1)),oM 15 (.t 139)] [5,8,10,11,12,13,15,16])
.skip)))))
(.reg 16 [oM 74 (.t 16),oQ 75 (.bin .add (.t 74) (cI 1)),oM 16 (.t 75)] [5,8,10,11,12,13,15,16]))))))
(.seq
(.reg 22 [oM 140 (.t 15),oM 141 (.t 10),oQ 142 (.len 0 (.t 141)),oQ 143 (.bin .eql (.t 140) (.t 142)),oM 6 (.t 143)] [6])
.ret))))))))))
theorem fok5 : FOK Tryz.prog 5 (144,ic5,[(.t 6)]) := fokA ([1000005] ++ [27,28,29,30,31,32]) Tryz.func5 (by kernel_rfl) (by kernel_rfl) (by kernel_rfl) (by kernel_rfl)
def ic15 : IC :=
(.seq
(.reg 0 [⟨(some 4),none,(.q (.mov (.c .nilptr)))⟩,⟨(some 5),none,(.q (.mov (.c (.int .i64 0))))⟩] [0,1])
(.seq
(.reg 1 [⟨(some 14),none,(.q (.mov (.t 1)))⟩,⟨(some 15),none,(.q (.len 0 (.t 14)))⟩,⟨(some 6),none,(.q (.mov (.t 15)))⟩] [0,1,6])
(.seq
(.seq
(.reg 2 [⟨(some 16),none,(.q (.mov (.t 0)))⟩,⟨(some 17),none,(.q (.len 0 (.t 16)))⟩,⟨(some 18),none,(.q (.mov (.c (.int .i64 0))))⟩] [0,1,6,16,17,18])
(.block 0
(.loop
(.seq
(.reg 3 [⟨(some 19),none,(.q (.bin .lss (.t 18) (.t 17)))⟩] [0,1,6,16,17,18,19])
(.seq
(.cond (.t 19)
.skip
(.exit 0))
(.seq
(.block 1
(.seq
(.reg 4 [⟨(some 20),none,(.q (.iaddr 2 (.t 16) (.t 18)))⟩,⟨(some 21),none,(.q (.load (some 2) (.t 20)))⟩,⟨(some 8),none,(.alloc [(.int .i64 0),.nilslice])⟩,⟨none,none,(.store 2 (.t 8) (.t 21))⟩] [0,1,6,8,16,17,18])
(.reg 5 [⟨(some 22),none,(.q (.mov (.t 6)))⟩,⟨(some 23),none,(.q (.faddr 1 (.t 8)))⟩,⟨(some 24),none,(.q (.load none (.t 23)))⟩,⟨(some 25),none,(.q (.len 0 (.t 24)))⟩,⟨(some 26),none,(.q (.bin .add (.t 22) (.t 25)))⟩,⟨(some 6),none,(.q (.mov (.t 26)))⟩] [0,1,6,16,17,18])))
(.reg 6 [⟨(some 27),none,(.q (.bin .add (.t 18) (.c (.int .i64 1))))⟩,⟨(some 18),none,(.q (.mov (.t 27)))⟩] [0,1,6,16,17,18])))))))
(.seq
(.seq
(.reg 7 [⟨(some 28),none,(.q (.mov (.t 0)))⟩,⟨(some 29),none,(.q (.len 0 (.t 28)))⟩,⟨(some 30),none,(.q (.bin .gtr (.t 29) (.c (.int .i64 16))))⟩,⟨(some 31),none,(.q (.mov (.t 30)))⟩,⟨(some 32),(some ⟨31,false⟩),(.q (.mov (.t 6)))⟩,⟨(some 33),(some ⟨31,false⟩),(.q (.bin .gtr (.t 32) (.c (.int .i64 256))))⟩,⟨(some 34),none,(.q (.pick (.t 31) (.c (.bool true)) (.t 33)))⟩] [0,1,34])
(.cond (.t 34)
(.seq
(.reg 8 [⟨(some 4),none,(.q (.mov (.c .nilptr)))⟩,⟨(some 5),none,(.q (.mov (.c (.int .i64 40))))⟩] [4,5])
.ret)
.skip))
(.seq
(.reg 9 [⟨(some 35),none,(.q (.mov (.t 1)))⟩,⟨(some 36),none,(.q (.len 0 (.t 35)))⟩,⟨(some 37),none,.mkmap⟩,⟨(some 38),none,(.q (.bld [.nilslice,(.int .i64 0),.nilmap] [⟨1,⟨1,(.t 36)⟩⟩,⟨2,⟨1,(.t 37)⟩⟩]))⟩,⟨(some 39),none,(.box (.t 38))⟩,⟨(some 9),none,(.q (.mov (.t 39)))⟩] [0,1,9])
(.seq
(.seq
(.reg 10 [⟨(some 40),none,(.q (.mov (.t 9)))⟩,⟨(some 41),none,(.q (.mov (.t 1)))⟩,⟨(some 42),none,(.call 69 [(.t 40),(.t 41),(.c (.int .i64 (-1))),(.c (.int .i64 1025))])⟩,⟨(some 10),none,(.q (.mov (.t 42)))⟩] [0,9,10])
(.seq
(.reg 11 [⟨(some 43),none,(.q (.mov (.t 10)))⟩,⟨(some 44),none,(.q (.bin .neq (.t 43) (.c (.int .i64 0))))⟩] [0,9,10,44])
(.cond (.t 44)
(.seq
(.reg 12 [⟨(some 45),none,(.q (.mov (.t 10)))⟩,⟨(some 4),none,(.q (.mov (.c .nilptr)))⟩,⟨(some 5),none,(.q (.mov (.t 45)))⟩] [4,5])
.ret)
.skip)))
(.seq
(.seq
(.reg 13 [⟨(some 46),none,(.q (.mov (.t 0)))⟩,⟨(some 47),none,(.q (.len 0 (.t 46)))⟩,⟨(some 48),none,(.q (.mov (.c (.int .i64 0))))⟩] [9,46,47,48])
(.block 2
(.loop
(.seq
(.reg 14 [⟨(some 49),none,(.q (.bin .lss (.t 48) (.t 47)))⟩] [9,46,47,48,49])
(.seq
(.cond (.t 49)
.skip
(.exit 2))
(.seq
(.block 3
(.seq
(.reg 15 [⟨(some 50),none,(.q (.mov (.t 48)))⟩,⟨(some 51),none,(.q (.iaddr 2 (.t 46) (.t 48)))⟩,⟨(some 52),none,(.q (.load (some 2) (.t 51)))⟩,⟨(some 12),none,(.alloc [(.int .i64 0),.nilslice])⟩,⟨(some 11),none,(.q (.mov (.t 50)))⟩,⟨none,none,(.store 2 (.t 12) (.t 52))⟩] [9,11,12,46,47,48])
(.seq
(.seq
(.reg 16 [⟨(some 53),none,(.q (.faddr 0 (.t 12)))⟩,⟨(some 54),none,(.q (.load none (.t 53)))⟩,⟨(some 55),none,(.q (.bin .lss (.t 54) (.c (.int .i64 0))))⟩,⟨(some 56),none,(.q (.mov (.t 55)))⟩,⟨(some 57),(some ⟨56,false⟩),(.q (.faddr 0 (.t 12)))⟩,⟨(some 58),(some ⟨56,false⟩),(.q (.load none (.t 57)))⟩,⟨(some 59),(some ⟨56,false⟩),(.q (.bin .gtr (.t 58) (.c (.int .i64 1024))))⟩,⟨(some 60),none,(.q (.pick (.t 56) (.c (.bool true)) (.t 59)))⟩] [9,11,12,46,47,48,60])
(.cond (.t 60)
(.seq
(.reg 17 [⟨(some 4),none,(.q (.mov (.c .nilptr)))⟩,⟨(some 5),none,(.q (.mov (.c (.int .i64 4))))⟩] [4,5])
.ret)
.skip))
(.seq
(.reg 18 [⟨(some 61),none,(.q (.mov (.t 9)))⟩,⟨(some 62),none,(.q (.faddr 1 (.t 12)))⟩,⟨(some 63),none,(.q (.load none (.t 62)))⟩,⟨(some 64),none,(.q (.mov (.t 11)))⟩,⟨(some 65),none,(.q (.faddr 0 (.t 12)))⟩,⟨(some 66),none,(.q (.load none (.t 65)))⟩,⟨(some 67),none,(.call 69 [(.t 61),(.t 63),(.t 64),(.t 66)])⟩,⟨(some 13),none,(.q (.mov (.t 67)))⟩] [9,13,46,47,48])
(.seq
(.reg 19 [⟨(some 68),none,(.q (.mov (.t 13)))⟩,⟨(some 69),none,(.q (.bin .neq (.t 68) (.c (.int .i64 0))))⟩] [9,13,46,47,48,69])
(.cond (.t 69)
(.seq
(.reg 20 [⟨(some 70),none,(.q (.mov (.t 13)))⟩,⟨(some 4),none,(.q (.mov (.c .nilptr)))⟩,⟨(some 5),none,(.q (.mov (.t 70)))⟩] [4,5])
.ret)
.skip))))))
(.reg 21 [⟨(some 71),none,(.q (.bin .add (.t 48) (.c (.int .i64 1))))⟩,⟨(some 48),none,(.q (.mov (.t 71)))⟩] [9,46,47,48])))))))
(.seq
(.reg 22 [⟨(some 72),none,(.q (.mov (.t 9)))⟩,⟨(some 4),none,(.q (.mov (.t 72)))⟩,⟨(some 5),none,(.q (.mov (.c (.int .i64 0))))⟩] [4,5])
.ret))))))))
theorem fok15 : FOK Tryz.prog 15 (73,ic15,[(.t 4),(.t 5)]) := .mk (pf := []) (an := [(0,[0,1]),(1,[0,1,6]),(2,[0,1,6,16,17,18]),(3,[0,1,6,16,17,18,19]),(4,[0,1,6,8,16,17,18]),(5,[0,1,6,16,17,18]),(6,[0,1,6,16,17,18]),(7,[0,1,34]),(8,[4,5]),(9,[0,1,9]),(10,[0,9,10]),(11,[0,9,10,44]),(12,[4,5]),(13,[9,46,47,48]),(14,[9,46,47,48,49]),(15,[9,11,12,46,47,48]),(16,[9,11,12,46,47,48,60]),(17,[4,5]),(18,[9,13,46,47,48]),(19,[9,13,46,47,48,69]),(20,[4,5]),(21,[9,46,47,48]),(22,[4,5])]) (by kernel_rfl) (fnOK_of Tryz.func15 (by kernel_rfl) (by kernel_rfl) (by kernel_rfl))
def ic17 : IC :=
(.seq
(.reg 0 [⟨(some 2),none,(.q (.mov (.c (.int .i64 0))))⟩] [0])
(.seq
(.seq
(.reg 1 [⟨(some 3),none,(.q (.mov (.t 0)))⟩,⟨(some 4),none,(.q (.isnil (.pointer 105) false (.t 3)))⟩] [0,4])
(.cond (.t 4)
(.seq
(.reg 2 [⟨(some 2),none,(.q (.mov (.c (.int .i64 0))))⟩] [2])
.ret)
.skip))
(.seq
(.reg 3 [⟨(some 5),none,(.q (.mov (.t 0)))⟩,⟨(some 6),none,(.q (.nchk (.t 5)))⟩,⟨(some 7),none,(.q (.faddr 0 (.t 6)))⟩,⟨(some 8),none,(.q (.load none (.t 7)))⟩,⟨(some 9),none,(.q (.len 0 (.t 8)))⟩,⟨(some 2),none,(.q (.mov (.t 9)))⟩] [2])
.ret)))
theorem fok17 : FOK Tryz.prog 17 (10,ic17,[(.t 2)]) := .mk (pf := []) (an := [(0,[0]),(1,[0,4]),(2,[2]),(3,[2])]) (by kernel_rfl) (fnOK_of Tryz.func17 (by kernel_rfl) (by kernel_rfl) (by kernel_rfl))
def ic19 : IC :=
(.seq
(.reg 0 [⟨(some 4),none,(.alloc [(.str []),(.int .i64 0),(.str []),(.str []),(.int .u8 0),(.str []),.nilslice,.nilslice,.nilslice,.nilslice,.nilslice,.nilslice,.nilslice,.nilslice,.nilslice])⟩,⟨(some 5),none,(.q (.mov (.c (.int .i64 0))))⟩] [0,1,4])
(.seq
(.seq
(.reg 1 [⟨(some 6),none,(.q (.mov (.t 0)))⟩,⟨(some 7),none,(.q (.isnil (.pointer 105) false (.t 6)))⟩,⟨(some 8),none,(.q (.mov (.t 7)))⟩,⟨(some 9),(some ⟨8,false⟩),(.q (.mov (.t 0)))⟩,⟨(some 10),(some ⟨8,false⟩),(.q (.nchk (.t 9)))⟩,⟨(some 11),(some ⟨8,false⟩),(.q (.faddr 0 (.t 10)))⟩,⟨(some 12),(some ⟨8,false⟩),(.q (.load none (.t 11)))⟩,⟨(some 13),(some ⟨8,false⟩),(.q (.mov (.t 1)))⟩,⟨(some 14),(some ⟨8,false⟩),(.call 73 [(.t 12),(.t 13)])⟩,⟨(some 15),(some ⟨8,false⟩),(.q (.not (.t 14)))⟩,⟨(some 16),none,(.q (.pick (.t 8) (.c (.bool true)) (.t 15)))⟩] [0,1,4,16])
(.cond (.t 16)
(.seq
(.reg 2 [⟨(some 17),none,(.q (.bld [(.str []),(.int .i64 0),(.str []),(.str []),(.int .u8 0),(.str []),.nilslice,.nilslice,.nilslice,.nilslice,.nilslice,.nilslice,.nilslice,.nilslice,.nilslice] []))⟩,⟨none,none,(.store 15 (.t 4) (.t 17))⟩,⟨(some 5),none,(.q (.mov (.c (.int .i64 5))))⟩] [4,5])
.ret)
.skip))
(.seq
(.reg 3 [⟨(some 18),none,(.q (.mov (.t 0)))⟩,⟨(some 19),none,(.q (.nchk (.t 18)))⟩,⟨(some 20),none,(.q (.faddr 0 (.t 19)))⟩,⟨(some 21),none,(.q (.load none (.t 20)))⟩,⟨(some 22),none,(.q (.mov (.t 1)))⟩,⟨(some 23),none,(.q (.iaddr 17 (.t 21) (.t 22)))⟩,⟨(some 24),none,(.q (.faddr 0 (.t 23)))⟩,⟨(some 25),none,(.q (.load (some 15) (.t 24)))⟩,⟨(some 26),none,(.call 74 [(.t 25)])⟩,⟨none,none,(.store 15 (.t 4) (.t 26))⟩,⟨(some 5),none,(.q (.mov (.c (.int .i64 0))))⟩] [4,5])
.ret)))
theorem fok19 : FOK Tryz.prog 19 (27,ic19,[(.cell (some 15) 4),(.t 5)]) := .mk (pf := []) (an := [(0,[0,1,4]),(1,[0,1,4,16]),(2,[4,5]),(3,[4,5])]) (by kernel_rfl) (fnOK_of Tryz.func19 (by kernel_rfl) (by kernel_rfl) (by kernel_rfl))
def ic21 : IC :=
(.seq
(.reg 0 [oK 2 (.boxt (.t 0)),oK 3 (.boxt (.t 1)),oM 4 (cB false)] [2,3])
(.seq
(.reg 1 [oQ 5 (.faddr 9 (.t 2)),oQ 6 (.load none (.t 5)),oQ 7 (.mkf 76 [] [(.t 3)]),oK 8 (.call 75 [(.t 6),(.t 7)]),oM 4 (.t 8)] [4])
.ret))
theorem fok21 : FOK Tryz.prog 21 (9,ic21,[(.t 4)]) := fokA [1000002,1000003] Tryz.func21
def ic22 : IC :=
(.seq
(.reg 0 [oM 0 (cB false)] [])
(.seq
(.reg 1 [oK 5 (.call 77 []),oK 6 (.call 24 [(.c .nilslice),(.t 5)]),oM 4 (.t 6),oQ 7 (.ext 0 (.t 4)),oQ 8 (.ext 1 (.t 4)),oQ 9 (.ext 2 (.t 4)),oM 1 (.t 7),oM 2 (.t 8),oM 3 (.t 9)] [1,3])
(.seq
(.reg 2 [oM 10 (.t 3),oM 11 (.t 10),gQ 12 11 true (.mov (.t 1)),gK 13 11 true (.call 30 [(.c (.str [97])),(.c (zU 0)),(.c (.str []))]),gK 14 11 true (.call 28 [(.t 12),(.t 13)]),gK 15 11 true (.bslt 1 2 [(zI 0)] [⟨0,⟨1,(cI 0)⟩⟩,⟨1,⟨1,(cI 1)⟩⟩]),gK 16 11 true (.call 78 [(.t 14),(.t 15)]),oQ 17 (.pick (.t 11) (.t 16) (cB false)),oM 18 (.t 17),gQ 19 18 true (.mov (.t 1)),gK 20 18 true (.call 30 [(.c (.str [97])),(.c (zU 4)),(.c (.str [49]))]),gK 21 18 true (.call 28 [(.t 19),(.t 20)]),gK 22 18 true (.bslt 1 1 [(zI 0)] [⟨0,⟨1,(cI 1)⟩⟩]),gK 23 18 true (.call 78 [(.t 21),(.t 22)]),oQ 24 (.pick (.t 18) (.t 23) (cB false)),oM 25 (.t 24),gQ 26 25 true (.mov (.t 1)),gK 27 25 true (.call 30 [(.c (.str [97])),(.c (zU 6)),(.c (.str [49]))]),gK 28 25 true (.call 28 [(.t 26),(.t 27)]),gK 29 25 true (.bslt 1 2 [(zI 0)] [⟨0,⟨1,(cI 0)⟩⟩,⟨1,⟨1,(cI 1)⟩⟩]),gK 30 25 true (.call 78 [(.t 28),(.t 29)]),oQ 31 (.pick (.t 25) (.t 30) (cB false)),oM 32 (.t 31),gQ 33 32 true (.mov (.t 1)),gK 34 32 true (.call 30 [(.c (.str [47,102])),(.c (zU 0)),(.c (.str []))]),gK 35 32 true (.call 28 [(.t 33),(.t 34)]),gK 36 32 true (.bslt 1 1 [(zI 0)] [⟨0,⟨1,(cI 2)⟩⟩]),gK 37 32 true (.call 78 [(.t 35),(.t 36)]),oQ 38 (.pick (.t 32) (.t 37) (cB false)),oM 39 (.t 38),gQ 40 39 true (.mov (.t 1)),gK 41 39 true (.call 25 [(.t 40),(cI 1)]),gK 42 39 true (.bslt 1 1 [(zI 0)] [⟨0,⟨1,(cI 0)⟩⟩]),gK 43 39 true (.call 78 [(.t 41),(.t 42)]),oQ 44 (.pick (.t 39) (.t 43) (cB false)),oM 45 (.t 44),gQ 46 45 true (.mov (.t 1)),gK 47 45 true (.call 26 [(.t 46),(cI 0)]),gK 48 45 true (.bslt 1 1 [(zI 0)] [⟨0,⟨1,(cI 1)⟩⟩]),gK 49 45 true (.call 78 [(.t 47),(.t 48)]),oQ 50 (.pick (.t 45) (.t 49) (cB false)),oM 0 (.t 50)] [0])
.ret)))
theorem fok22 : FOK Tryz.prog 22 (51,ic22,[(.t 0)]) := fokA [1000015,1000022,1000029,1000036,1000042,1000048] Tryz.func22
def ic23 : IC :=
(.seq
(.reg 0 [oM 4 (cB false)] [0,1])
(.seq
(.reg 1 [oM 7 (.t 1),oK 8 (.call 79 [(.t 7),(cI 3000)]),oM 5 (.t 8)] [0,5])
(.seq
(.seq
(.reg 2 [oM 6 (cI 0)] [0,5,6])
(.block 0
(.loop
(.seq
(.seq
(.reg 3 [oM 9 (.t 6),oM 10 (.t 0),oQ 11 (.len 0 (.t 10)),oQ 12 (.bin .lss (.t 9) (.t 11)),oM 13 (.t 12),gQ 14 13 true (.mov (.t 5)),gQ 15 13 true (.bin .lss (.t 14) (cI 3000)),oQ 16 (.pick (.t 13) (.t 15) (cB false))] [0,5,6,16])
(.cond (.t 16)
.skip
(.exit 0)))
(.seq
(.block 1
(.reg 5 [oM 19 (.t 5),oQ 20 (.bin .add (.t 19) (cI 1)),oM 21 (.t 0),oM 22 (.t 6),oQ 23 (.iaddr 2 (.t 21) (.t 22)),oQ 24 (.faddr 1 (.t 23)),oQ 25 (.load none (.t 24)),oK 26 (.call 79 [(.t 25),(cI 3000)]),oQ 27 (.bin .add (.t 20) (.t 26)),oM 5 (.t 27)] [0,5,6]))
(.reg 4 [oM 17 (.t 6),oQ 18 (.bin .add (.t 17) (cI 1)),oM 6 (.t 18)] [0,5,6]))))))
(.seq
(.reg 6 [oM 28 (.t 5),oQ 29 (.bin .geq (.t 28) (cI 3000)),oM 4 (.t 29)] [4])
.ret))))
theorem fok23 : FOK Tryz.prog 23 (30,ic23,[(.t 4)]) := fokA [] Tryz.func23
def ic24 : IC :=
(.seq
(.reg 0 [oM 4 (.c .nilptr),oM 5 (.c .nilptr),oM 6 (cB false)] [0,1])
(.seq
(.reg 1 [oM 12 (.t 0),oM 13 (.t 1),oK 14 (.call 15 [(.t 12),(.t 13)]),oM 11 (.t 14),oQ 15 (.ext 0 (.t 11)),oQ 16 (.ext 1 (.t 11)),oM 7 (.t 15),oM 8 (.t 16)] [7,8])
(.seq
(.seq
(.reg 2 [oM 17 (.t 8),oQ 18 (.bin .neq (.t 17) (cI 0))] [7,18])
(.cond (.t 18)
(.seq
(.reg 3 [oM 4 (.c .nilptr),oM 5 (.c .nilptr),oM 6 (cB false)] [4,5,6])
.ret)
.skip))
(.seq
(.reg 4 [oM 20 (.t 7),oK 21 (.call 80 [(.t 20)]),oM 19 (.t 21),oQ 22 (.ext 0 (.t 19)),oQ 23 (.ext 1 (.t 19)),oM 9 (.t 22),oM 10 (.t 23)] [7,9,10])
(.seq
(.reg 5 [oM 24 (.t 9),oM 25 (.t 7),oM 26 (.t 10),oQ 27 (.bin .eql (.t 26) (cI 0)),oM 28 (.t 27),gQ 29 28 true (.mov (.t 9)),gQ 30 28 true (.isnil (.pointer 122) true (.t 29)),oQ 31 (.pick (.t 28) (.t 30) (cB false)),oM 4 (.t 24),oM 5 (.t 25),oM 6 (.t 31)] [4,5,6])
.ret)))))
theorem fok24 : FOK Tryz.prog 24 (32,ic24,[(.t 4),(.t 5),(.t 6)]) := fokA [] Tryz.func24
def ic25 : IC :=
(.seq
(.reg 0 [oK 3 (.boxt (.t 1)),oM 4 (.c .nilslice)] [0,3])
(.seq
(.seq
(.reg 1 [oM 8 (.t 0),oQ 9 (.load none (.t 3)),oK 10 (.call 81 [(.t 8),(.t 9)]),oQ 11 (.not (.t 10))] [0,3,11])
(.cond (.t 11)
(.seq
(.reg 2 [oM 4 (.c .nilslice)] [4])
.ret)
.skip))
(.seq
(.reg 3 [oM 5 (.c .nilslice)] [0,3,5])
(.seq
(.seq
(.dreg 4 [oM 12 (.t 0),oQ 13 (.nchk (.t 12)),oQ 14 (.faddr 0 (.t 13)),oQ 15 (.load none (.t 14)),oQ 16 (.load none (.t 3)),oQ 17 (.iaddr 15 (.t 15) (.t 16)),oQ 18 (.faddr 9 (.t 17)),oQ 19 (.load none (.t 18)),oQ 20 (.len 0 (.t 19)),oM 21 (cI 0)] false [0,3,5,19,20,21])
(.block 0
(.loop
(.seq
(.reg 5 [oQ 22 (.bin .lss (.t 21) (.t 20))] [0,3,5,19,20,21,22])
(.seq
(.cond (.t 22)
.skip
(.exit 0))
(.seq
(.block 1
(.seq
(.reg 6 [oQ 23 (.iaddr 5 (.t 19) (.t 21)),oQ 24 (.load (some 5) (.t 23)),oK 7 (.alloc [(.str []),(zU 0),(zI 0),(.str []),(.str [])]),oN (.store 5 (.t 7) (.t 24))] [0,3,5,7,19,20,21])
(.dreg 7 [oM 25 (.t 5),oM 26 (.t 0),oM 27 (.t 0),oQ 28 (.nchk (.t 27)),oQ 29 (.faddr 2 (.t 28)),oQ 30 (.load none (.t 29)),oQ 31 (.faddr 0 (.t 7)),oQ 32 (.load none (.t 31)),oQ 33 (.lkp 2 .nilslice false (.t 30) (.t 32)),oQ 34 (.mkf 83 [] [(.t 3),(.t 7)]),oK 35 (.pcall 82 [(.t 26),(.t 33),(.t 34)]),oK 36 (.app 1 (.t 25) (.t 35)),oM 5 (.t 36)] true [0,3,5,19,20,21])))
(.reg 8 [oQ 37 (.bin .add (.t 21) (cI 1)),oM 21 (.t 37)] [0,3,5,19,20,21])))))))
(.seq
(.reg 9 [oM 38 (.t 5),oK 39 (.call 84 [(.t 38)])] [5])
(.seq
(.reg 10 [oM 40 (.t 5),oK 41 (.call 85 [(.t 40)]),oM 4 (.t 41)] [4])
.ret))))))
theorem fok25 : FOK Tryz.prog 25 (42,ic25,[(.t 4)]) := fokA ([1000003] ++ [82]) Tryz.func25 (by kernel_rfl) (by kernel_rfl) (by kernel_rfl) (by kernel_rfl)
def ic26 : IC :=
(.seq
(.reg 0 [oK 2 (.boxt (.t 0)),oK 3 (.boxt (.t 1)),oM 4 (.c .nilslice)] [2,3])
(.seq
(.seq
(.reg 1 [oQ 5 (.load none (.t 2)),oQ 6 (.load none (.t 3)),oK 7 (.call 81 [(.t 5),(.t 6)]),oQ 8 (.not (.t 7))] [2,3,8])
(.cond (.t 8)
(.seq
(.reg 2 [oM 4 (.c .nilslice)] [4])
.ret)
.skip))
(.seq
(.dreg 3 [oQ 9 (.load none (.t 2)),oQ 10 (.load none (.t 2)),oQ 11 (.nchk (.t 10)),oQ 12 (.faddr 3 (.t 11)),oQ 13 (.load none (.t 12)),oQ 14 (.load none (.t 2)),oQ 15 (.nchk (.t 14)),oQ 16 (.faddr 0 (.t 15)),oQ 17 (.load none (.t 16)),oQ 18 (.load none (.t 3)),oQ 19 (.iaddr 15 (.t 17) (.t 18)),oQ 20 (.faddr 0 (.t 19)),oQ 21 (.load none (.t 20)),oQ 22 (.lkp 2 .nilslice false (.t 13) (.t 21)),oQ 23 (.mkf 86 [] [(.t 3),(.t 2)]),oK 24 (.call 82 [(.t 9),(.t 22),(.t 23)]),oM 4 (.t 24)] false [4])
.ret)))
theorem fok26 : FOK Tryz.prog 26 (25,ic26,[(.t 4)]) := fokA [1000002,1000003] Tryz.func26
def ic27 : IC :=
(.seq
(.reg 0 [oM 4 (cB false)] [0,1])
(.seq
(.seq
(.reg 1 [oM 5 (cI 0)] [0,1,5])
(.block 0
(.loop
(.seq
(.seq
(.reg 2 [oM 6 (.t 5),oM 7 (.t 0),oQ 8 (.len 0 (.t 7)),oQ 9 (.bin .lss (.t 6) (.t 8))] [0,1,5,9])
(.cond (.t 9)
.skip
(.exit 0)))
(.seq
(.block 1
(.seq
(.reg 4 [oM 12 (.t 0),oM 13 (.t 5),oQ 14 (.iaddr 1 (.t 12) (.t 13)),oQ 15 (.load none (.t 14)),oM 16 (.t 1),oQ 17 (.bin .eql (.t 15) (.t 16))] [0,1,5,17])
(.cond (.t 17)
(.seq
(.reg 5 [oM 4 (cB true)] [4])
.ret)
.skip)))
(.reg 3 [oM 10 (.t 5),oQ 11 (.bin .add (.t 10) (cI 1)),oM 5 (.t 11)] [0,1,5]))))))
(.seq
(.reg 6 [oM 4 (cB false)] [4])
.ret)))
theorem fok27 : FOK Tryz.prog 27 (18,ic27,[(.t 4)]) := fokA [] Tryz.func27
def ic28 : IC :=
(.seq
(.reg 0 [oK 3 (.boxt (.t 1)),oM 4 (.c .nilslice)] [0,3])
(.seq
(.seq
(.reg 1 [oM 5 (.t 0),oQ 6 (.isnil (.pointer 122) false (.t 5))] [0,3,6])
(.cond (.t 6)
(.seq
(.reg 2 [oM 4 (.c .nilslice)] [4])
.ret)
.skip))
(.seq
(.dreg 3 [oM 7 (.t 0),oM 8 (.t 0),oQ 9 (.nchk (.t 8)),oQ 10 (.faddr 1 (.t 9)),oQ 11 (.load none (.t 10)),oQ 12 (.faddr 0 (.t 3)),oQ 13 (.load none (.t 12)),oQ 14 (.lkp 2 .nilslice false (.t 11) (.t 13)),oQ 15 (.mkf 87 [] [(.t 3)]),oK 16 (.call 82 [(.t 7),(.t 14),(.t 15)]),oM 4 (.t 16)] false [4])
.ret)))
theorem fok28 : FOK Tryz.prog 28 (17,ic28,[(.t 4)]) := fokA [1000003] Tryz.func28
def ic29 : IC :=
(.seq
(.reg 0 [oK 3 (.boxt (.t 1)),oM 4 (.c .nilslice)] [0,3])
(.seq
(.seq
(.reg 1 [oM 5 (.t 0),oQ 6 (.isnil (.pointer 122) false (.t 5))] [0,3,6])
(.cond (.t 6)
(.seq
(.reg 2 [oM 4 (.c .nilslice)] [4])
.ret)
.skip))
(.seq
(.dreg 3 [oM 7 (.t 0),oM 8 (.t 0),oQ 9 (.nchk (.t 8)),oQ 10 (.faddr 2 (.t 9)),oQ 11 (.load none (.t 10)),oQ 12 (.faddr 0 (.t 3)),oQ 13 (.load none (.t 12)),oQ 14 (.lkp 2 .nilslice false (.t 11) (.t 13)),oQ 15 (.mkf 88 [] [(.t 3)]),oK 16 (.call 82 [(.t 7),(.t 14),(.t 15)]),oM 4 (.t 16)] false [4])
.ret)))
theorem fok29 : FOK Tryz.prog 29 (17,ic29,[(.t 4)]) := fokA [1000003] Tryz.func29
def ic30 : IC :=
(.seq
(.reg 0 [oK 6 (.alloc [(.str []),(zU 0),(zI 0),(.str []),(.str [])])] [0,1,2,6])
(.seq
(.seq
(.reg 1 [oM 7 (.t 1),oQ 8 (.bin .eql (.t 7) (.c (zU 0)))] [0,1,2,6,8])
(.cond (.t 8)
(.seq
(.reg 2 [oM 9 (.t 0),oQ 10 (.bld [(.str []),(zU 0),(zI 0),(.str []),(.str [])] [⟨0,⟨1,(.t 9)⟩⟩]),oN (.store 5 (.t 6) (.t 10))] [6])
.ret)
.skip))
(.seq
(.reg 3 [oM 11 (.t 0),oM 12 (.t 1),oM 13 (.t 2),oQ 14 (.bld [(zI 0),(.str []),(.str [])] [⟨1,⟨1,(.t 13)⟩⟩]),oQ 15 (.bld [(.str []),(zU 0),(zI 0),(.str []),(.str [])] [⟨0,⟨1,(.t 11)⟩⟩,⟨1,⟨1,(.t 12)⟩⟩,⟨2,⟨3,(.t 14)⟩⟩]),oN (.store 5 (.t 6) (.t 15))] [6])
.ret)))
theorem fok30 : FOK Tryz.prog 30 (16,ic30,[(.cell (some 5) 6)]) := fokA [] Tryz.func30
def ic31 : IC :=
(.seq
(.reg 0 [oK 2 (.boxt (.t 0)),oK 3 (.boxt (.t 1)),oM 4 (cB false)] [2,3])
(.seq
(.seq
(.reg 1 [oQ 5 (.load (some 15) (.t 2)),oQ 6 (.load (some 5) (.t 3)),oK 7 (.call 32 [(.t 5),(.t 6)]),oM 8 (.t 7),gQ 9 8 false (.faddr 6 (.t 2)),gQ 10 8 false (.load none (.t 9)),gQ 11 8 false (.mkf 89 [] [(.t 3)]),gK 12 8 false (.call 75 [(.t 10),(.t 11)]),oQ 13 (.pick (.t 8) (cB true) (.t 12))] [2,3,13])
(.cond (.t 13)
(.seq
(.reg 2 [oM 4 (cB true)] [4])
.ret)
.skip))
(.seq
(.reg 3 [oQ 14 (.faddr 1 (.t 3)),oQ 15 (.load none (.t 14)),oQ 16 (.bin .eql (.t 15) (.c (zU 0))),oM 17 (.t 16),gQ 18 17 true (.faddr 14 (.t 2)),gQ 19 17 true (.load none (.t 18)),gQ 20 17 true (.faddr 0 (.t 3)),gQ 21 17 true (.load none (.t 20)),gK 22 17 true (.call 91 [(.t 19),(.t 21)]),oQ 23 (.pick (.t 17) (.t 22) (cB false)),oM 4 (.t 23)] [4])
.ret)))
theorem fok31 : FOK Tryz.prog 31 (24,ic31,[(.t 4)]) := fokA [1000002,1000003] Tryz.func31
def ic32 : IC :=
(.seq
(.reg 0 [oK 2 (.boxt (.t 0)),oK 3 (.boxt (.t 1)),oM 4 (cB false)] [2,3])
(.seq
(.dreg 1 [oQ 5 (.load (some 15) (.t 2)),oK 6 (.pcall 92 [(.t 5)]),oQ 7 (.load (some 5) (.t 3)),oK 8 (.pcall 90 [(.t 6),(.t 7)]),oM 4 (.t 8)] false [4])
.ret))
theorem fok32 : FOK Tryz.prog 32 (9,ic32,[(.t 4)]) := fokA ([1000002,1000003] ++ [90,92]) Tryz.func32 (by kernel_rfl) (by kernel_rfl) (by kernel_rfl) (by kernel_rfl)
def ic37 : IC :=
(.seq
(.reg 0 [oM 4 (cB false)] [0,1])
(.seq
(.seq
(.reg 1 [oM 6 (.t 0),oQ 7 (.len 0 (.t 6)),oM 8 (.t 1),oQ 9 (.len 0 (.t 8)),oQ 10 (.bin .neq (.t 7) (.t 9))] [0,1,10])
(.cond (.t 10)
(.seq
(.reg 2 [oM 4 (cB false)] [4])
.ret)
.skip))
(.seq
(.seq
(.reg 3 [oM 5 (cI 0)] [0,1,5])
(.block 0
(.loop
(.seq
(.seq
(.reg 4 [oM 11 (.t 5),oM 12 (.t 0),oQ 13 (.len 0 (.t 12)),oQ 14 (.bin .lss (.t 11) (.t 13))] [0,1,5,14])
(.cond (.t 14)
.skip
(.exit 0)))
(.seq
(.block 1
(.seq
(.dreg 6 [oM 17 (.t 0),oM 18 (.t 5),oQ 19 (.iaddr 1 (.t 17) (.t 18)),oQ 20 (.load none (.t 19)),oM 21 (.t 1),oM 22 (.t 5),oQ 23 (.iaddr 1 (.t 21) (.t 22)),oQ 24 (.load none (.t 23)),oQ 25 (.bin .neq (.t 20) (.t 24))] false [0,1,5,25])
(.cond (.t 25)
(.seq
(.reg 7 [oM 4 (cB false)] [4])
.ret)
.skip)))
(.reg 5 [oM 15 (.t 5),oQ 16 (.bin .add (.t 15) (cI 1)),oM 5 (.t 16)] [0,1,5]))))))
(.seq
(.reg 8 [oM 4 (cB true)] [4])
.ret))))
theorem fok37 : FOK Tryz.prog 37 (26,ic37,[(.t 4)]) := fokA [] Tryz.func37
end Go.Id.Tryz
