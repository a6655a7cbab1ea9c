/- The compiled codes of functions,written by a program out of the given form. Conditions: none. -/
import Derived.Test.YtiallonafbejaaaGreatDoorFwYa
import Derived.Test.YtiallonafbejaaaGreatDoorProg
set_option linter.all false
namespace Go.Id.Tryz
open Go Go.Id Go.Proofs
def allF0 : List Nat:=List.range 357
def ic6 : IC :=
(.seq
(.reg 0 [oK 6 (.boxt (.t 2)),oK 7 (.boxt (.t 3)),oM 8 (cB false)] [0,1,6,7])
(.seq
(.seq
(.reg 1 [oK 18 (.call 33 []),oQ 19 (.not (.t 18)),oM 20 (.t 19),gQ 21 20 false (.mov (.t 0)),gQ 22 20 false (.mov (.t 1)),gQ 23 20 false (.load (some 5) (.t 6)),gK 24 20 false (.call 34 [(.t 21),(.t 22),(.t 23)]),oQ 25 (.pick (.t 20) (cB true) (.t 24))] [0,1,6,7,25])
(.cond (.t 25)
(.seq
(.reg 2 [oK 26 (.call 33 []),oM 8 (.t 26)] [8])
.ret)
.skip))
(.seq
(.reg 3 [oM 28 (.t 0),oM 29 (.t 1),oQ 30 (.load (some 5) (.t 6)),oK 31 (.call 35 [(.t 28),(.t 29),(.t 30)]),oM 27 (.t 31),oQ 32 (.ext 0 (.t 27)),oQ 33 (.ext 1 (.t 27)),oQ 34 (.ext 2 (.t 27)),oM 9 (.t 32),oM 10 (.t 33),oM 11 (.t 34)] [0,1,6,7,9,10,11])
(.seq
(.reg 4 [oQ 35 (.load (some 5) (.t 6)),oK 12 (.alloc [(zU 0),(.bool false),.nilslice,.nilslice,(zI 0)]),oN (.store 5 (.t 12) (.t 35))] [0,1,6,7,9,10,11,12])
(.seq
(.dreg 5 [oK 36 (.bsl 2 0 [(zU 0),(zI 0)] []),oQ 37 (.faddr 3 (.t 6)),oQ 38 (.load none (.t 37)),oK 39 (.app 2 (.t 36) (.t 38)),oQ 40 (.load (some 2) (.t 7)),oK 41 (.bslt 2 1 [(zU 0),(zI 0)] [⟨0,⟨2,(.t 40)⟩⟩]),oK 42 (.app 2 (.t 39) (.t 41)),oQ 43 (.faddr 3 (.t 12)),oN (.store 1 (.t 43) (.t 42))] true [0,1,6,7,9,10,11,12])
(.seq
(.reg 6 [oM 45 (.t 0),oM 46 (.t 1),oQ 47 (.load (some 5) (.t 12)),oK 48 (.call 35 [(.t 45),(.t 46),(.t 47)]),oM 44 (.t 48),oQ 49 (.ext 0 (.t 44)),oQ 50 (.ext 1 (.t 44)),oQ 51 (.ext 2 (.t 44)),oM 13 (.t 49),oM 14 (.t 50),oM 15 (.t 51)] [6,7,9,10,11,13,15])
(.seq
(.seq
(.reg 7 [oM 52 (.t 11),oQ 53 (.not (.t 52)),oM 54 (.t 53),gQ 55 54 false (.mov (.t 15)),gQ 56 54 false (.not (.t 55)),oQ 57 (.pick (.t 54) (cB true) (.t 56))] [6,7,9,10,13,57])
(.cond (.t 57)
(.seq
(.reg 8 [oM 58 (.t 9),oQ 59 (.isnil (.pointer 136) false (.t 58)),oM 60 (.t 59),gQ 61 60 false (.mov (.t 13)),gQ 62 60 false (.isnil (.pointer 136) false (.t 61)),oQ 63 (.pick (.t 60) (cB true) (.t 62)),oM 8 (.t 63)] [8])
.ret)
.skip))
(.seq
(.seq
(.reg 9 [oM 16 (cI 0)] [6,7,9,10,13,16])
(.block 0
(.loop
(.seq
(.seq
(.reg 10 [oM 64 (.t 16),oQ 65 (.faddr 2 (.t 6)),oQ 66 (.load none (.t 65)),oQ 67 (.len 0 (.t 66)),oQ 68 (.bin .lss (.t 64) (.t 67))] [6,7,9,10,13,16,68])
(.cond (.t 68)
.skip
(.exit 0)))
(.seq
(.block 1
(.seq
(.reg 12 [oM 71 (.t 13),oM 72 (.t 16),oK 73 (.call 36 [(.t 71),(.t 72)]),oM 74 (.t 9),oM 75 (.t 16),oK 76 (.call 36 [(.t 74),(.t 75)]),oM 77 (.t 76),gQ 78 77 false (.load (some 2) (.t 7)),gQ 79 77 false (.mov (.t 16)),gQ 80 77 false (.bld [(zU 0),(zI 0)] [⟨0,⟨1,(.c (zU 1))⟩⟩,⟨1,⟨1,(.t 79)⟩⟩]),gQ 81 77 false (.eqs [1,1] true false (.t 78) (.t 80)),oQ 82 (.pick (.t 77) (cB true) (.t 81)),oQ 83 (.eqs [0] false true (.t 73) (.t 82)),oM 84 (.t 83),gQ 85 84 false (.mov (.t 9)),gQ 86 84 false (.mov (.t 16)),gK 87 84 false (.call 38 [(.t 85),(.t 86)]),gQ 88 84 false (.mov (.t 13)),gQ 89 84 false (.mov (.t 16)),gK 90 84 false (.call 38 [(.t 88),(.t 89)]),gK 91 84 false (.call 37 [(.t 87),(.t 90)]),gQ 92 84 false (.not (.t 91)),oQ 93 (.pick (.t 84) (cB true) (.t 92))] [6,7,9,10,13,16,93])
(.cond (.t 93)
(.seq
(.reg 13 [oM 8 (cB false)] [8])
.ret)
.skip)))
(.reg 11 [oM 69 (.t 16),oQ 70 (.bin .add (.t 69) (cI 1)),oM 16 (.t 70)] [6,7,9,10,13,16]))))))
(.seq
(.seq
(.reg 14 [oQ 94 (.faddr 0 (.t 7)),oQ 95 (.load none (.t 94)),oQ 96 (.bin .eql (.t 95) (.c (zU 1)))] [7,9,10,13,96])
(.cond (.t 96)
(.seq
(.reg 15 [oM 8 (cB true)] [8])
.ret)
.skip))
(.seq
(.seq
(.reg 16 [oM 17 (cI 0)] [7,9,10,13,17])
(.block 2
(.loop
(.seq
(.seq
(.reg 17 [oM 97 (.t 17),oM 98 (.t 10),oK 99 (.call 17 [(.t 98)]),oQ 100 (.bin .lss (.t 97) (.t 99))] [7,9,10,13,17,100])
(.cond (.t 100)
.skip
(.exit 2)))
(.seq
(.block 3
(.seq
(.reg 19 [oM 103 (.t 9),oM 104 (.t 17),oK 105 (.call 40 [(.t 103),(.t 104)]),oM 106 (.t 13),oM 107 (.t 17),oK 108 (.call 40 [(.t 106),(.t 107)]),oK 109 (.call 39 [(.t 105),(.t 108)]),oQ 110 (.not (.t 109)),oM 111 (.t 110),gQ 112 111 false (.mov (.t 9)),gQ 113 111 false (.mov (.t 17)),gK 114 111 false (.call 41 [(.t 112),(.t 113)]),gQ 115 111 false (.mov (.t 114)),gQ 116 115 true (.mov (.t 13)),gQ 117 115 true (.mov (.t 17)),gK 118 115 true (.call 41 [(.t 116),(.t 117)]),gQ 119 115 true (.not (.t 118)),gQ 120 111 false (.pick (.t 115) (.t 119) (cB false)),oQ 121 (.pick (.t 111) (cB true) (.t 120)),oM 122 (.t 121),gQ 123 122 false (.mov (.t 17)),gQ 124 122 false (.faddr 1 (.t 7)),gQ 125 122 false (.load none (.t 124)),gQ 126 122 false (.bin .neq (.t 123) (.t 125)),gQ 127 122 false (.mov (.t 126)),gQ 128 127 true (.mov (.t 13)),gQ 129 127 true (.mov (.t 17)),gK 130 127 true (.call 41 [(.t 128),(.t 129)]),gQ 131 127 true (.mov (.t 9)),gQ 132 127 true (.mov (.t 17)),gK 133 127 true (.call 41 [(.t 131),(.t 132)]),gQ 134 127 true (.eqs [0] false true (.t 130) (.t 133)),gQ 135 127 true (.mov (.t 134)),gQ 136 135 false (.mov (.t 13)),gQ 137 135 false (.mov (.t 17)),gK 138 135 false (.call 40 [(.t 136),(.t 137)]),gQ 139 135 false (.len 0 (.t 138)),gQ 140 135 false (.mov (.t 9)),gQ 141 135 false (.mov (.t 17)),gK 142 135 false (.call 40 [(.t 140),(.t 141)]),gQ 143 135 false (.len 0 (.t 142)),gQ 144 135 false (.bin .neq (.t 139) (.t 143)),gQ 145 127 true (.pick (.t 135) (cB true) (.t 144)),gQ 146 122 false (.pick (.t 127) (.t 145) (cB false)),oQ 147 (.pick (.t 122) (cB true) (.t 146))] [7,9,10,13,17,147])
(.cond (.t 147)
(.seq
(.reg 20 [oM 8 (cB false)] [8])
.ret)
.skip)))
(.reg 18 [oM 101 (.t 17),oQ 102 (.bin .add (.t 101) (cI 1)),oM 17 (.t 102)] [7,9,10,13,17]))))))
(.seq
(.reg 21 [oQ 148 (.faddr 0 (.t 7)),oQ 149 (.load none (.t 148)),oQ 150 (.bin .neq (.t 149) (.c (zU 2))),oM 151 (.t 150),gQ 152 151 false (.mov (.t 13)),gQ 153 151 false (.faddr 1 (.t 7)),gQ 154 151 false (.load none (.t 153)),gK 155 151 false (.call 41 [(.t 152),(.t 154)]),oQ 156 (.pick (.t 151) (cB true) (.t 155)),oM 8 (.t 156)] [8])
.ret)))))))))))
theorem fok6 : FOK Tryz.prog 6 (157,ic6,[(.t 8)]):=fokA [1000006,1000007,1000041] Tryz.func6
def ic15 : IC :=
(.seq
(.reg 0 [⟨(some 4),none,(.q (.mov (.c .nilptr)))⟩,⟨(some 5),none,(.q (.mov (.c (.int .i64 0))))⟩] [0,1])
(.seq
(.reg 1 [⟨(some 14),none,(.q (.mov (.t 1)))⟩,⟨(some 15),none,(.q (.len 0 (.t 14)))⟩,⟨(some 6),none,(.q (.mov (.t 15)))⟩] [0,1,6])
(.seq
(.seq
(.reg 2 [⟨(some 16),none,(.q (.mov (.t 0)))⟩,⟨(some 17),none,(.q (.len 0 (.t 16)))⟩,⟨(some 18),none,(.q (.mov (.c (.int .i64 0))))⟩] [0,1,6,16,17,18])
(.block 0
(.loop
(.seq
(.reg 3 [⟨(some 19),none,(.q (.bin .lss (.t 18) (.t 17)))⟩] [0,1,6,16,17,18,19])
(.seq
(.cond (.t 19)
.skip
(.exit 0))
(.seq
(.block 1
(.seq
(.reg 4 [⟨(some 20),none,(.q (.iaddr 2 (.t 16) (.t 18)))⟩,⟨(some 21),none,(.q (.load (some 2) (.t 20)))⟩,⟨(some 8),none,(.alloc [(.int .i64 0),.nilslice])⟩,⟨none,none,(.store 2 (.t 8) (.t 21))⟩] [0,1,6,8,16,17,18])
(.reg 5 [⟨(some 22),none,(.q (.mov (.t 6)))⟩,⟨(some 23),none,(.q (.faddr 1 (.t 8)))⟩,⟨(some 24),none,(.q (.load none (.t 23)))⟩,⟨(some 25),none,(.q (.len 0 (.t 24)))⟩,⟨(some 26),none,(.q (.bin .add (.t 22) (.t 25)))⟩,⟨(some 6),none,(.q (.mov (.t 26)))⟩] [0,1,6,16,17,18])))
(.reg 6 [⟨(some 27),none,(.q (.bin .add (.t 18) (.c (.int .i64 1))))⟩,⟨(some 18),none,(.q (.mov (.t 27)))⟩] [0,1,6,16,17,18])))))))
(.seq
(.seq
(.reg 7 [⟨(some 28),none,(.q (.mov (.t 0)))⟩,⟨(some 29),none,(.q (.len 0 (.t 28)))⟩,⟨(some 30),none,(.q (.bin .gtr (.t 29) (.c (.int .i64 16))))⟩,⟨(some 31),none,(.q (.mov (.t 30)))⟩,⟨(some 32),(some ⟨31,false⟩),(.q (.mov (.t 6)))⟩,⟨(some 33),(some ⟨31,false⟩),(.q (.bin .gtr (.t 32) (.c (.int .i64 256))))⟩,⟨(some 34),none,(.q (.pick (.t 31) (.c (.bool true)) (.t 33)))⟩] [0,1,34])
(.cond (.t 34)
(.seq
(.reg 8 [⟨(some 4),none,(.q (.mov (.c .nilptr)))⟩,⟨(some 5),none,(.q (.mov (.c (.int .i64 40))))⟩] [4,5])
.ret)
.skip))
(.seq
(.reg 9 [⟨(some 35),none,(.q (.mov (.t 1)))⟩,⟨(some 36),none,(.q (.len 0 (.t 35)))⟩,⟨(some 37),none,.mkmap⟩,⟨(some 38),none,(.q (.bld [.nilslice,(.int .i64 0),.nilmap] [⟨1,⟨1,(.t 36)⟩⟩,⟨2,⟨1,(.t 37)⟩⟩]))⟩,⟨(some 39),none,(.box (.t 38))⟩,⟨(some 9),none,(.q (.mov (.t 39)))⟩] [0,1,9])
(.seq
(.seq
(.reg 10 [⟨(some 40),none,(.q (.mov (.t 9)))⟩,⟨(some 41),none,(.q (.mov (.t 1)))⟩,⟨(some 42),none,(.call 69 [(.t 40),(.t 41),(.c (.int .i64 (-1))),(.c (.int .i64 1025))])⟩,⟨(some 10),none,(.q (.mov (.t 42)))⟩] [0,9,10])
(.seq
(.reg 11 [⟨(some 43),none,(.q (.mov (.t 10)))⟩,⟨(some 44),none,(.q (.bin .neq (.t 43) (.c (.int .i64 0))))⟩] [0,9,10,44])
(.cond (.t 44)
(.seq
(.reg 12 [⟨(some 45),none,(.q (.mov (.t 10)))⟩,⟨(some 4),none,(.q (.mov (.c .nilptr)))⟩,⟨(some 5),none,(.q (.mov (.t 45)))⟩] [4,5])
.ret)
.skip)))
(.seq
(.seq
(.reg 13 [⟨(some 46),none,(.q (.mov (.t 0)))⟩,⟨(some 47),none,(.q (.len 0 (.t 46)))⟩,⟨(some 48),none,(.q (.mov (.c (.int .i64 0))))⟩] [9,46,47,48])
(.block 2
(.loop
(.seq
(.reg 14 [⟨(some 49),none,(.q (.bin .lss (.t 48) (.t 47)))⟩] [9,46,47,48,49])
(.seq
(.cond (.t 49)
.skip
(.exit 2))
(.seq
(.block 3
(.seq
(.reg 15 [⟨(some 50),none,(.q (.mov (.t 48)))⟩,⟨(some 51),none,(.q (.iaddr 2 (.t 46) (.t 48)))⟩,⟨(some 52),none,(.q (.load (some 2) (.t 51)))⟩,⟨(some 12),none,(.alloc [(.int .i64 0),.nilslice])⟩,⟨(some 11),none,(.q (.mov (.t 50)))⟩,⟨none,none,(.store 2 (.t 12) (.t 52))⟩] [9,11,12,46,47,48])
(.seq
(.seq
(.reg 16 [⟨(some 53),none,(.q (.faddr 0 (.t 12)))⟩,⟨(some 54),none,(.q (.load none (.t 53)))⟩,⟨(some 55),none,(.q (.bin .lss (.t 54) (.c (.int .i64 0))))⟩,⟨(some 56),none,(.q (.mov (.t 55)))⟩,⟨(some 57),(some ⟨56,false⟩),(.q (.faddr 0 (.t 12)))⟩,⟨(some 58),(some ⟨56,false⟩),(.q (.load none (.t 57)))⟩,⟨(some 59),(some ⟨56,false⟩),(.q (.bin .gtr (.t 58) (.c (.int .i64 1024))))⟩,⟨(some 60),none,(.q (.pick (.t 56) (.c (.bool true)) (.t 59)))⟩] [9,11,12,46,47,48,60])
(.cond (.t 60)
(.seq
(.reg 17 [⟨(some 4),none,(.q (.mov (.c .nilptr)))⟩,⟨(some 5),none,(.q (.mov (.c (.int .i64 4))))⟩] [4,5])
.ret)
.skip))
(.seq
(.reg 18 [⟨(some 61),none,(.q (.mov (.t 9)))⟩,⟨(some 62),none,(.q (.faddr 1 (.t 12)))⟩,⟨(some 63),none,(.q (.load none (.t 62)))⟩,⟨(some 64),none,(.q (.mov (.t 11)))⟩,⟨(some 65),none,(.q (.faddr 0 (.t 12)))⟩,⟨(some 66),none,(.q (.load none (.t 65)))⟩,⟨(some 67),none,(.call 69 [(.t 61),(.t 63),(.t 64),(.t 66)])⟩,⟨(some 13),none,(.q (.mov (.t 67)))⟩] [9,13,46,47,48])
(.seq
(.reg 19 [⟨(some 68),none,(.q (.mov (.t 13)))⟩,⟨(some 69),none,(.q (.bin .neq (.t 68) (.c (.int .i64 0))))⟩] [9,13,46,47,48,69])
(.cond (.t 69)
(.seq
(.reg 20 [⟨(some 70),none,(.q (.mov (.t 13)))⟩,⟨(some 4),none,(.q (.mov (.c .nilptr)))⟩,⟨(some 5),none,(.q (.mov (.t 70)))⟩] [4,5])
.ret)
.skip))))))
(.reg 21 [⟨(some 71),none,(.q (.bin .add (.t 48) (.c (.int .i64 1))))⟩,⟨(some 48),none,(.q (.mov (.t 71)))⟩] [9,46,47,48])))))))
(.seq
(.reg 22 [⟨(some 72),none,(.q (.mov (.t 9)))⟩,⟨(some 4),none,(.q (.mov (.t 72)))⟩,⟨(some 5),none,(.q (.mov (.c (.int .i64 0))))⟩] [4,5])
.ret))))))))
theorem fok15 : FOK Tryz.prog 15 (73,ic15,[(.t 4),(.t 5)]):=.mk (pf:=[]) (an:=[(0,[0,1]),(1,[0,1,6]),(2,[0,1,6,16,17,18]),(3,[0,1,6,16,17,18,19]),(4,[0,1,6,8,16,17,18]),(5,[0,1,6,16,17,18]),(6,[0,1,6,16,17,18]),(7,[0,1,34]),(8,[4,5]),(9,[0,1,9]),(10,[0,9,10]),(11,[0,9,10,44]),(12,[4,5]),(13,[9,46,47,48]),(14,[9,46,47,48,49]),(15,[9,11,12,46,47,48]),(16,[9,11,12,46,47,48,60]),(17,[4,5]),(18,[9,13,46,47,48]),(19,[9,13,46,47,48,69]),(20,[4,5]),(21,[9,46,47,48]),(22,[4,5])]) (by kernel_rfl) (fnOK_of Tryz.func15 (by kernel_rfl) (by kernel_rfl) (by kernel_rfl))
def ic17 : IC :=
(.seq
(.reg 0 [⟨(some 2),none,(.q (.mov (.c (.int .i64 0))))⟩] [0])
(.seq
(.seq
(.reg 1 [⟨(some 3),none,(.q (.mov (.t 0)))⟩,⟨(some 4),none,(.q (.isnil (.pointer 105) false (.t 3)))⟩] [0,4])
(.cond (.t 4)
(.seq
(.reg 2 [⟨(some 2),none,(.q (.mov (.c (.int .i64 0))))⟩] [2])
.ret)
.skip))
(.seq
(.reg 3 [⟨(some 5),none,(.q (.mov (.t 0)))⟩,⟨(some 6),none,(.q (.nchk (.t 5)))⟩,⟨(some 7),none,(.q (.faddr 0 (.t 6)))⟩,⟨(some 8),none,(.q (.load none (.t 7)))⟩,⟨(some 9),none,(.q (.len 0 (.t 8)))⟩,⟨(some 2),none,(.q (.mov (.t 9)))⟩] [2])
.ret)))
theorem fok17 : FOK Tryz.prog 17 (10,ic17,[(.t 2)]):=.mk (pf:=[]) (an:=[(0,[0]),(1,[0,4]),(2,[2]),(3,[2])]) (by kernel_rfl) (fnOK_of Tryz.func17 (by kernel_rfl) (by kernel_rfl) (by kernel_rfl))
def ic19 : IC :=
(.seq
(.reg 0 [⟨(some 4),none,(.alloc [(.str []),(.int .i64 0),(.str []),(.str []),(.int .u8 0),(.str []),.nilslice,.nilslice,.nilslice,.nilslice,.nilslice,.nilslice,.nilslice,.nilslice,.nilslice])⟩,⟨(some 5),none,(.q (.mov (.c (.int .i64 0))))⟩] [0,1,4])
(.seq
(.seq
(.reg 1 [⟨(some 6),none,(.q (.mov (.t 0)))⟩,⟨(some 7),none,(.q (.isnil (.pointer 105) false (.t 6)))⟩,⟨(some 8),none,(.q (.mov (.t 7)))⟩,⟨(some 9),(some ⟨8,false⟩),(.q (.mov (.t 0)))⟩,⟨(some 10),(some ⟨8,false⟩),(.q (.nchk (.t 9)))⟩,⟨(some 11),(some ⟨8,false⟩),(.q (.faddr 0 (.t 10)))⟩,⟨(some 12),(some ⟨8,false⟩),(.q (.load none (.t 11)))⟩,⟨(some 13),(some ⟨8,false⟩),(.q (.mov (.t 1)))⟩,⟨(some 14),(some ⟨8,false⟩),(.call 73 [(.t 12),(.t 13)])⟩,⟨(some 15),(some ⟨8,false⟩),(.q (.not (.t 14)))⟩,⟨(some 16),none,(.q (.pick (.t 8) (.c (.bool true)) (.t 15)))⟩] [0,1,4,16])
(.cond (.t 16)
(.seq
(.reg 2 [⟨(some 17),none,(.q (.bld [(.str []),(.int .i64 0),(.str []),(.str []),(.int .u8 0),(.str []),.nilslice,.nilslice,.nilslice,.nilslice,.nilslice,.nilslice,.nilslice,.nilslice,.nilslice] []))⟩,⟨none,none,(.store 15 (.t 4) (.t 17))⟩,⟨(some 5),none,(.q (.mov (.c (.int .i64 5))))⟩] [4,5])
.ret)
.skip))
(.seq
(.reg 3 [⟨(some 18),none,(.q (.mov (.t 0)))⟩,⟨(some 19),none,(.q (.nchk (.t 18)))⟩,⟨(some 20),none,(.q (.faddr 0 (.t 19)))⟩,⟨(some 21),none,(.q (.load none (.t 20)))⟩,⟨(some 22),none,(.q (.mov (.t 1)))⟩,⟨(some 23),none,(.q (.iaddr 17 (.t 21) (.t 22)))⟩,⟨(some 24),none,(.q (.faddr 0 (.t 23)))⟩,⟨(some 25),none,(.q (.load (some 15) (.t 24)))⟩,⟨(some 26),none,(.call 74 [(.t 25)])⟩,⟨none,none,(.store 15 (.t 4) (.t 26))⟩,⟨(some 5),none,(.q (.mov (.c (.int .i64 0))))⟩] [4,5])
.ret)))
theorem fok19 : FOK Tryz.prog 19 (27,ic19,[(.cell (some 15) 4),(.t 5)]):=.mk (pf:=[]) (an:=[(0,[0,1,4]),(1,[0,1,4,16]),(2,[4,5]),(3,[4,5])]) (by kernel_rfl) (fnOK_of Tryz.func19 (by kernel_rfl) (by kernel_rfl) (by kernel_rfl))
def ic21 : IC :=
(.seq
(.reg 0 [oK 2 (.boxt (.t 0)),oK 3 (.boxt (.t 1)),oM 4 (cB false)] [2,3])
(.seq
(.reg 1 [oQ 5 (.faddr 9 (.t 2)),oQ 6 (.load none (.t 5)),oQ 7 (.mkf 76 [] [(.t 3)]),oK 8 (.call 75 [(.t 6),(.t 7)]),oM 4 (.t 8)] [4])
.ret))
theorem fok21 : FOK Tryz.prog 21 (9,ic21,[(.t 4)]):=fokA [1000002,1000003] Tryz.func21
def ic26 : IC :=
(.seq
(.reg 0 [oK 2 (.boxt (.t 0)),oK 3 (.boxt (.t 1)),oM 4 (.c .nilslice)] [2,3])
(.seq
(.seq
(.reg 1 [oQ 5 (.load none (.t 2)),oQ 6 (.load none (.t 3)),oK 7 (.call 81 [(.t 5),(.t 6)]),oQ 8 (.not (.t 7))] [2,3,8])
(.cond (.t 8)
(.seq
(.reg 2 [oM 4 (.c .nilslice)] [4])
.ret)
.skip))
(.seq
(.dreg 3 [oQ 9 (.load none (.t 2)),oQ 10 (.load none (.t 2)),oQ 11 (.nchk (.t 10)),oQ 12 (.faddr 3 (.t 11)),oQ 13 (.load none (.t 12)),oQ 14 (.load none (.t 2)),oQ 15 (.nchk (.t 14)),oQ 16 (.faddr 0 (.t 15)),oQ 17 (.load none (.t 16)),oQ 18 (.load none (.t 3)),oQ 19 (.iaddr 15 (.t 17) (.t 18)),oQ 20 (.faddr 0 (.t 19)),oQ 21 (.load none (.t 20)),oQ 22 (.lkp 2 .nilslice false (.t 13) (.t 21)),oQ 23 (.mkf 86 [] [(.t 3),(.t 2)]),oK 24 (.call 82 [(.t 9),(.t 22),(.t 23)]),oM 4 (.t 24)] false [4])
.ret)))
theorem fok26 : FOK Tryz.prog 26 (25,ic26,[(.t 4)]):=fokA [1000002,1000003] Tryz.func26
def ic28 : IC :=
(.seq
(.reg 0 [oK 3 (.boxt (.t 1)),oM 4 (.c .nilslice)] [0,3])
(.seq
(.seq
(.reg 1 [oM 5 (.t 0),oQ 6 (.isnil (.pointer 122) false (.t 5))] [0,3,6])
(.cond (.t 6)
(.seq
(.reg 2 [oM 4 (.c .nilslice)] [4])
.ret)
.skip))
(.seq
(.dreg 3 [oM 7 (.t 0),oM 8 (.t 0),oQ 9 (.nchk (.t 8)),oQ 10 (.faddr 1 (.t 9)),oQ 11 (.load none (.t 10)),oQ 12 (.faddr 0 (.t 3)),oQ 13 (.load none (.t 12)),oQ 14 (.lkp 2 .nilslice false (.t 11) (.t 13)),oQ 15 (.mkf 87 [] [(.t 3)]),oK 16 (.call 82 [(.t 7),(.t 14),(.t 15)]),oM 4 (.t 16)] false [4])
.ret)))
theorem fok28 : FOK Tryz.prog 28 (17,ic28,[(.t 4)]):=fokA [1000003] Tryz.func28
def ic29 : IC :=
(.seq
(.reg 0 [oK 3 (.boxt (.t 1)),oM 4 (.c .nilslice)] [0,3])
(.seq
(.seq
(.reg 1 [oM 5 (.t 0),oQ 6 (.isnil (.pointer 122) false (.t 5))] [0,3,6])
(.cond (.t 6)
(.seq
(.reg 2 [oM 4 (.c .nilslice)] [4])
.ret)
.skip))
(.seq
(.dreg 3 [oM 7 (.t 0),oM 8 (.t 0),oQ 9 (.nchk (.t 8)),oQ 10 (.faddr 2 (.t 9)),oQ 11 (.load none (.t 10)),oQ 12 (.faddr 0 (.t 3)),oQ 13 (.load none (.t 12)),oQ 14 (.lkp 2 .nilslice false (.t 11) (.t 13)),oQ 15 (.mkf 88 [] [(.t 3)]),oK 16 (.call 82 [(.t 7),(.t 14),(.t 15)]),oM 4 (.t 16)] false [4])
.ret)))
theorem fok29 : FOK Tryz.prog 29 (17,ic29,[(.t 4)]):=fokA [1000003] Tryz.func29
def ic31 : IC :=
(.seq
(.reg 0 [oK 2 (.boxt (.t 0)),oK 3 (.boxt (.t 1)),oM 4 (cB false)] [2,3])
(.seq
(.seq
(.reg 1 [oQ 5 (.load (some 15) (.t 2)),oQ 6 (.load (some 5) (.t 3)),oK 7 (.call 32 [(.t 5),(.t 6)]),oM 8 (.t 7),gQ 9 8 false (.faddr 6 (.t 2)),gQ 10 8 false (.load none (.t 9)),gQ 11 8 false (.mkf 89 [] [(.t 3)]),gK 12 8 false (.call 75 [(.t 10),(.t 11)]),oQ 13 (.pick (.t 8) (cB true) (.t 12))] [2,3,13])
(.cond (.t 13)
(.seq
(.reg 2 [oM 4 (cB true)] [4])
.ret)
.skip))
(.seq
(.reg 3 [oQ 14 (.faddr 1 (.t 3)),oQ 15 (.load none (.t 14)),oQ 16 (.bin .eql (.t 15) (.c (zU 0))),oM 17 (.t 16),gQ 18 17 true (.faddr 14 (.t 2)),gQ 19 17 true (.load none (.t 18)),gQ 20 17 true (.faddr 0 (.t 3)),gQ 21 17 true (.load none (.t 20)),gK 22 17 true (.call 91 [(.t 19),(.t 21)]),oQ 23 (.pick (.t 17) (.t 22) (cB false)),oM 4 (.t 23)] [4])
.ret)))
theorem fok31 : FOK Tryz.prog 31 (24,ic31,[(.t 4)]):=fokA [1000002,1000003] Tryz.func31
def ic32 : IC :=
(.seq
(.reg 0 [oK 2 (.boxt (.t 0)),oK 3 (.boxt (.t 1)),oM 4 (cB false)] [2,3])
(.seq
(.dreg 1 [oQ 5 (.load (some 15) (.t 2)),oK 6 (.pcall 92 [(.t 5)]),oQ 7 (.load (some 5) (.t 3)),oK 8 (.pcall 90 [(.t 6),(.t 7)]),oM 4 (.t 8)] false [4])
.ret))
theorem fok32 : FOK Tryz.prog 32 (9,ic32,[(.t 4)]):=fokA ([1000002,1000003] ++ [90,92]) Tryz.func32 (by kernel_rfl) (by kernel_rfl) (by kernel_rfl) (by kernel_rfl)
def ic33 : IC :=
(.seq
(.reg 0 [oM 0 (cB false)] [])
(.seq
(.reg 1 [oK 12 (.pcall 93 [(.c (.str [97])),(.c (.str [50]))]),oK 13 (.bslt 15 1 [(.str []),(zI 0),(.str []),(.str []),(zU 0),(.str []),.nilslice,.nilslice,.nilslice,.nilslice,.nilslice,.nilslice,.nilslice,.nilslice,.nilslice] [⟨0,⟨15,(.t 12)⟩⟩]),oM 1 (.t 13)] [1])
(.seq
(.reg 2 [oK 15 (.call 94 []),oM 16 (.t 1),oK 17 (.pcall 95 [(.c .nilslice),(.c .nilslice)]),oK 18 (.pcall 35 [(.t 15),(.t 16),(.t 17)]),oM 14 (.t 18),oQ 19 (.ext 0 (.t 14)),oQ 20 (.ext 1 (.t 14)),oQ 21 (.ext 2 (.t 14)),oM 2 (.t 19),oM 3 (.t 20),oM 4 (.t 21)] [1,2,4])
(.seq
(.reg 3 [oK 23 (.call 94 []),oM 24 (.t 1),oQ 25 (.bld [(zU 0),(zI 0)] [⟨0,⟨1,(.c (zU 3))⟩⟩]),oK 26 (.bslt 2 1 [(zU 0),(zI 0)] [⟨0,⟨2,(.t 25)⟩⟩]),oK 27 (.pcall 95 [(.c .nilslice),(.t 26)]),oK 28 (.pcall 35 [(.t 23),(.t 24),(.t 27)]),oM 22 (.t 28),oQ 29 (.ext 0 (.t 22)),oQ 30 (.ext 1 (.t 22)),oQ 31 (.ext 2 (.t 22)),oM 5 (.t 29),oM 6 (.t 30),oM 7 (.t 31)] [2,4,5,7])
(.seq
(.reg 4 [oK 32 (.pcall 93 [(.c (.str [97])),(.c (.str [49]))]),oK 8 (.alloc [(.str []),(zI 0),(.str []),(.str []),(zU 0),(.str []),.nilslice,.nilslice,.nilslice,.nilslice,.nilslice,.nilslice,.nilslice,.nilslice,.nilslice]),oN (.store 15 (.t 8) (.t 32))] [2,4,5,7,8])
(.seq
(.reg 5 [oQ 33 (.faddr 4 (.t 8)),oN (.store 1 (.t 33) (.c (zU 3)))] [2,4,5,7,8])
(.seq
(.dreg 6 [oK 35 (.pcall 93 [(.c (.str [97])),(.c (.str [49]))]),oQ 36 (.load (some 15) (.t 8)),oK 37 (.pcall 93 [(.c (.str [97])),(.c (.str [50]))]),oK 38 (.bslt 15 3 [(.str []),(zI 0),(.str []),(.str []),(zU 0),(.str []),.nilslice,.nilslice,.nilslice,.nilslice,.nilslice,.nilslice,.nilslice,.nilslice,.nilslice] [⟨0,⟨15,(.t 35)⟩⟩,⟨15,⟨15,(.t 36)⟩⟩,⟨30,⟨15,(.t 37)⟩⟩]),oQ 39 (.bld [(zI 0),.nilslice] [⟨1,⟨1,(.t 38)⟩⟩]),oK 40 (.bslt 2 1 [(zI 0),.nilslice] [⟨0,⟨2,(.t 39)⟩⟩]),oK 41 (.pcall 95 [(.c .nilslice),(.c .nilslice)]),oK 42 (.pcall 35 [(.t 40),(.c .nilslice),(.t 41)]),oM 34 (.t 42),oQ 43 (.ext 0 (.t 34)),oQ 44 (.ext 1 (.t 34)),oQ 45 (.ext 2 (.t 34)),oM 9 (.t 43),oM 10 (.t 44),oM 11 (.t 45)] false [2,4,5,7,9,11])
(.seq
(.reg 7 [oM 46 (.t 4),oM 47 (.t 46),gQ 48 47 true (.mov (.t 7)),oQ 49 (.pick (.t 47) (.t 48) (cB false)),oM 50 (.t 49),gQ 51 50 true (.mov (.t 11)),oQ 52 (.pick (.t 50) (.t 51) (cB false)),oM 53 (.t 52),gQ 54 53 true (.mov (.t 2)),gK 55 53 true (.call 40 [(.t 54),(cI 0)]),gK 56 53 true (.bslt 1 3 [(zI 0)] [⟨0,⟨1,(cI 0)⟩⟩,⟨1,⟨1,(cI 2)⟩⟩,⟨2,⟨1,(cI 3)⟩⟩]),gK 57 53 true (.call 96 [(.t 55),(.t 56)]),oQ 58 (.pick (.t 53) (.t 57) (cB false)),oM 59 (.t 58),gQ 60 59 true (.mov (.t 5)),gK 61 59 true (.call 40 [(.t 60),(cI 0)]),gK 62 59 true (.bslt 1 4 [(zI 0)] [⟨0,⟨1,(cI 0)⟩⟩,⟨1,⟨1,(cI 1)⟩⟩,⟨2,⟨1,(cI 2)⟩⟩,⟨3,⟨1,(cI 3)⟩⟩]),gK 63 59 true (.call 96 [(.t 61),(.t 62)]),oQ 64 (.pick (.t 59) (.t 63) (cB false)),oM 65 (.t 64),gQ 66 65 true (.mov (.t 9)),gK 67 65 true (.call 45 [(.t 66),(cI 0),(cI 1)]),gQ 68 65 true (.not (.t 67)),oQ 69 (.pick (.t 65) (.t 68) (cB false)),oM 70 (.t 69),gQ 71 70 true (.mov (.t 9)),gK 72 70 true (.call 45 [(.t 71),(cI 0),(cI 2)]),oQ 73 (.pick (.t 70) (.t 72) (cB false)),oM 74 (.t 73),gQ 75 74 true (.mov (.t 9)),gK 76 74 true (.call 45 [(.t 75),(cI 1),(cI 2)]),oQ 77 (.pick (.t 74) (.t 76) (cB false)),oM 0 (.t 77)] [0])
.ret))))))))
theorem fok33 : FOK Tryz.prog 33 (78,ic33,[(.t 0)]):=fokA ([1000013,1000026,1000038,1000040,1000056,1000062] ++ [35,93,95]) Tryz.func33 (by kernel_rfl) (by kernel_rfl) (by kernel_rfl) (by kernel_rfl)
def ic34 : IC :=
(.seq
(.reg 0 [oK 5 (.boxt (.t 2)),oM 6 (cB false)] [0,1,5])
(.seq
(.reg 1 [oM 9 (.t 1),oK 10 (.call 97 [(.t 9),(cI 2000)]),oM 7 (.t 10)] [0,5,7])
(.seq
(.seq
(.reg 2 [oM 8 (cI 0)] [0,5,7,8])
(.block 0
(.loop
(.seq
(.seq
(.reg 3 [oM 11 (.t 8),oM 12 (.t 0),oQ 13 (.len 0 (.t 12)),oQ 14 (.bin .lss (.t 11) (.t 13)),oM 15 (.t 14),gQ 16 15 true (.mov (.t 7)),gQ 17 15 true (.bin .lss (.t 16) (cI 2000)),oQ 18 (.pick (.t 15) (.t 17) (cB false))] [0,5,7,8,18])
(.cond (.t 18)
.skip
(.exit 0)))
(.seq
(.block 1
(.reg 5 [oM 21 (.t 7),oQ 22 (.bin .add (.t 21) (cI 1)),oM 23 (.t 0),oM 24 (.t 8),oQ 25 (.iaddr 2 (.t 23) (.t 24)),oQ 26 (.faddr 1 (.t 25)),oQ 27 (.load none (.t 26)),oK 28 (.call 97 [(.t 27),(cI 2000)]),oQ 29 (.bin .add (.t 22) (.t 28)),oM 7 (.t 29)] [0,5,7,8]))
(.reg 4 [oM 19 (.t 8),oQ 20 (.bin .add (.t 19) (cI 1)),oM 8 (.t 20)] [0,5,7,8]))))))
(.seq
(.reg 6 [oM 30 (.t 7),oQ 31 (.bin .geq (.t 30) (cI 2000)),oM 32 (.t 31),gQ 33 32 false (.faddr 2 (.t 5)),gQ 34 32 false (.load none (.t 33)),gQ 35 32 false (.len 0 (.t 34)),gQ 36 32 false (.bin .gtr (.t 35) (cI 100)),oQ 37 (.pick (.t 32) (cB true) (.t 36)),oM 38 (.t 37),gQ 39 38 false (.faddr 3 (.t 5)),gQ 40 38 false (.load none (.t 39)),gQ 41 38 false (.len 0 (.t 40)),gQ 42 38 false (.bin .gtr (.t 41) (cI 100)),oQ 43 (.pick (.t 38) (cB true) (.t 42)),oM 6 (.t 43)] [6])
.ret))))
theorem fok34 : FOK Tryz.prog 34 (44,ic34,[(.t 6)]):=fokA [1000005] Tryz.func34
def ic35 : IC :=
(.seq
(.reg 0 [oK 5 (.boxt (.t 2)),oM 6 (.c .nilptr),oM 7 (.c .nilptr),oM 8 (cB false)] [0,1,5])
(.seq
(.reg 1 [oM 14 (.t 0),oM 15 (.t 1),oK 16 (.call 15 [(.t 14),(.t 15)]),oM 13 (.t 16),oQ 17 (.ext 0 (.t 13)),oQ 18 (.ext 1 (.t 13)),oM 9 (.t 17),oM 10 (.t 18)] [5,9,10])
(.seq
(.seq
(.reg 2 [oM 19 (.t 10),oQ 20 (.bin .neq (.t 19) (cI 0))] [5,9,20])
(.cond (.t 20)
(.seq
(.reg 3 [oM 6 (.c .nilptr),oM 7 (.c .nilptr),oM 8 (cB false)] [6,7,8])
.ret)
.skip))
(.seq
(.reg 4 [oM 22 (.t 9),oQ 23 (.load (some 5) (.t 5)),oK 24 (.call 98 [(.t 22),(.t 23)]),oM 21 (.t 24),oQ 25 (.ext 0 (.t 21)),oQ 26 (.ext 1 (.t 21)),oM 11 (.t 25),oM 12 (.t 26)] [9,11,12])
(.seq
(.reg 5 [oM 27 (.t 11),oM 28 (.t 9),oM 29 (.t 12),oQ 30 (.bin .eql (.t 29) (cI 0)),oM 31 (.t 30),gQ 32 31 true (.mov (.t 11)),gQ 33 31 true (.isnil (.pointer 136) true (.t 32)),oQ 34 (.pick (.t 31) (.t 33) (cB false)),oM 6 (.t 27),oM 7 (.t 28),oM 8 (.t 34)] [6,7,8])
.ret)))))
theorem fok35 : FOK Tryz.prog 35 (35,ic35,[(.t 6),(.t 7),(.t 8)]):=fokA [1000005] Tryz.func35
def ic36 : IC :=
(.seq
(.reg 0 [oM 4 (cB false)] [0,1])
(.seq
(.reg 1 [oM 5 (.t 0),oM 6 (.t 1),oK 7 (.call 99 [(.t 5),(.t 6)]),oM 8 (.t 7),gQ 9 8 true (.mov (.t 0)),gQ 10 8 true (.mov (.t 1)),gK 11 8 true (.call 100 [(.t 9),(.c (zU 1)),(.t 10)]),oQ 12 (.pick (.t 8) (.t 11) (cB false)),oM 4 (.t 12)] [4])
.ret))
theorem fok36 : FOK Tryz.prog 36 (13,ic36,[(.t 4)]):=fokA [] Tryz.func36
def ic37 : IC :=
(.seq
(.reg 0 [oM 4 (cB false)] [0,1])
(.seq
(.seq
(.reg 1 [oM 6 (.t 0),oQ 7 (.len 0 (.t 6)),oM 8 (.t 1),oQ 9 (.len 0 (.t 8)),oQ 10 (.bin .neq (.t 7) (.t 9))] [0,1,10])
(.cond (.t 10)
(.seq
(.reg 2 [oM 4 (cB false)] [4])
.ret)
.skip))
(.seq
(.seq
(.reg 3 [oM 5 (cI 0)] [0,1,5])
(.block 0
(.loop
(.seq
(.seq
(.reg 4 [oM 11 (.t 5),oM 12 (.t 0),oQ 13 (.len 0 (.t 12)),oQ 14 (.bin .lss (.t 11) (.t 13))] [0,1,5,14])
(.cond (.t 14)
.skip
(.exit 0)))
(.seq
(.block 1
(.seq
(.dreg 6 [oM 17 (.t 0),oM 18 (.t 5),oQ 19 (.iaddr 1 (.t 17) (.t 18)),oQ 20 (.load none (.t 19)),oM 21 (.t 1),oM 22 (.t 5),oQ 23 (.iaddr 1 (.t 21) (.t 22)),oQ 24 (.load none (.t 23)),oQ 25 (.bin .neq (.t 20) (.t 24))] false [0,1,5,25])
(.cond (.t 25)
(.seq
(.reg 7 [oM 4 (cB false)] [4])
.ret)
.skip)))
(.reg 5 [oM 15 (.t 5),oQ 16 (.bin .add (.t 15) (cI 1)),oM 5 (.t 16)] [0,1,5]))))))
(.seq
(.reg 8 [oM 4 (cB true)] [4])
.ret))))
theorem fok37 : FOK Tryz.prog 37 (26,ic37,[(.t 4)]):=fokA [] Tryz.func37
def ic38 : IC :=
(.seq
(.reg 0 [oK 2 (.boxt (.t 0)),oM 4 (.c .nilslice)] [1,2])
(.seq
(.seq
(.reg 1 [oQ 7 (.load none (.t 2)),oM 8 (.t 1),oK 9 (.call 99 [(.t 7),(.t 8)]),oQ 10 (.not (.t 9))] [1,2,10])
(.cond (.t 10)
(.seq
(.reg 2 [oM 4 (.c .nilslice)] [4])
.ret)
.skip))
(.seq
(.reg 3 [oQ 11 (.load none (.t 2)),oQ 12 (.nchk (.t 11)),oQ 13 (.faddr 2 (.t 12)),oQ 14 (.faddr 2 (.t 13)),oQ 15 (.load none (.t 14)),oM 16 (.t 1),oQ 17 (.iaddr 6 (.t 15) (.t 16)),oQ 18 (.load (some 6) (.t 17)),oK 5 (.alloc [(zU 0),(.str []),(zU 0),(zI 0),(.str []),(.str [])]),oN (.store 6 (.t 5) (.t 18))] [2,5])
(.seq
(.seq
(.reg 4 [oQ 19 (.faddr 0 (.t 5)),oQ 20 (.load none (.t 19)),oQ 21 (.bin .eql (.t 20) (.c (zU 1)))] [2,5,21])
(.cond (.t 21)
(.seq
(.dreg 5 [oQ 22 (.load none (.t 2)),oQ 23 (.nchk (.t 22)),oQ 24 (.faddr 1 (.t 23)),oQ 25 (.load none (.t 24)),oQ 26 (.faddr 1 (.t 5)),oQ 27 (.load (some 5) (.t 26)),oK 28 (.call 28 [(.t 25),(.t 27)]),oM 4 (.t 28)] false [4])
.ret)
.skip))
(.seq
(.dreg 6 [oQ 29 (.load none (.t 2)),oQ 30 (.nchk (.t 29)),oQ 31 (.faddr 1 (.t 30)),oQ 32 (.load none (.t 31)),oQ 33 (.faddr 1 (.t 5)),oQ 34 (.load (some 5) (.t 33)),oK 35 (.call 29 [(.t 32),(.t 34)]),oM 6 (.t 35)] false [2,5,6])
(.seq
(.seq
(.reg 7 [oQ 36 (.faddr 0 (.t 5)),oQ 37 (.load none (.t 36)),oQ 38 (.bin .eql (.t 37) (.c (zU 2)))] [2,6,38])
(.cond (.t 38)
(.seq
(.reg 8 [oM 39 (.t 6),oM 4 (.t 39)] [4])
.ret)
.skip))
(.seq
(.reg 9 [oM 40 (.t 6),oQ 41 (.mkf 102 [] [(.t 2)]),oK 42 (.call 101 [(.t 40),(.t 41)]),oM 4 (.t 42)] [4])
.ret)))))))
theorem fok38 : FOK Tryz.prog 38 (43,ic38,[(.t 4)]):=fokA [1000002] Tryz.func38
def ic39 : IC :=
(.seq
(.reg 0 [oM 4 (cB false)] [0,1])
(.seq
(.seq
(.reg 1 [oM 5 (cI 0)] [0,1,5])
(.block 0
(.loop
(.seq
(.seq
(.reg 2 [oM 6 (.t 5),oM 7 (.t 0),oQ 8 (.len 0 (.t 7)),oQ 9 (.bin .lss (.t 6) (.t 8))] [0,1,5,9])
(.cond (.t 9)
.skip
(.exit 0)))
(.seq
(.block 1
(.seq
(.dreg 4 [oM 12 (.t 1),oM 13 (.t 0),oM 14 (.t 5),oQ 15 (.iaddr 1 (.t 13) (.t 14)),oQ 16 (.load none (.t 15)),oK 17 (.call 43 [(.t 12),(.t 16)]),oQ 18 (.not (.t 17)),oM 19 (.t 18),gQ 20 19 false (.mov (.t 5)),gQ 21 19 false (.bin .gtr (.t 20) (cI 0)),gQ 22 19 false (.mov (.t 21)),gQ 23 22 true (.mov (.t 0)),gQ 24 22 true (.mov (.t 5)),gQ 25 22 true (.iaddr 1 (.t 23) (.t 24)),gQ 26 22 true (.load none (.t 25)),gQ 27 22 true (.mov (.t 0)),gQ 28 22 true (.mov (.t 5)),gQ 29 22 true (.bin .sub (.t 28) (cI 1)),gQ 30 22 true (.iaddr 1 (.t 27) (.t 29)),gQ 31 22 true (.load none (.t 30)),gQ 32 22 true (.bin .leq (.t 26) (.t 31)),gQ 33 19 false (.pick (.t 22) (.t 32) (cB false)),oQ 34 (.pick (.t 19) (cB true) (.t 33))] false [0,1,5,34])
(.cond (.t 34)
(.seq
(.reg 5 [oM 4 (cB false)] [4])
.ret)
.skip)))
(.reg 3 [oM 10 (.t 5),oQ 11 (.bin .add (.t 10) (cI 1)),oM 5 (.t 11)] [0,1,5]))))))
(.seq
(.reg 6 [oM 4 (cB true)] [4])
.ret)))
theorem fok39 : FOK Tryz.prog 39 (35,ic39,[(.t 4)]):=fokA [] Tryz.func39
def ic40 : IC :=
(.seq
(.reg 0 [oK 2 (.boxt (.t 0)),oM 4 (.c .nilslice)] [1,2])
(.seq
(.seq
(.reg 1 [oQ 12 (.load none (.t 2)),oM 13 (.t 1),oK 14 (.call 103 [(.t 12),(.t 13)]),oQ 15 (.not (.t 14))] [1,2,15])
(.cond (.t 15)
(.seq
(.reg 2 [oM 4 (.c .nilslice)] [4])
.ret)
.skip))
(.seq
(.reg 3 [oQ 16 (.load none (.t 2)),oQ 17 (.nchk (.t 16)),oQ 18 (.faddr 7 (.t 17)),oQ 19 (.load none (.t 18)),oM 20 (.t 1),oQ 21 (.iaddr 15 (.t 19) (.t 20)),oQ 22 (.load (some 15) (.t 21)),oK 5 (.alloc [(.str []),(zI 0),(.str []),(.str []),(zU 0),(.str []),.nilslice,.nilslice,.nilslice,.nilslice,.nilslice,.nilslice,.nilslice,.nilslice,.nilslice]),oN (.store 15 (.t 5) (.t 22))] [1,2,5])
(.seq
(.reg 4 [oQ 23 (.load none (.t 2)),oM 24 (.t 1),oK 25 (.call 100 [(.t 23),(.c (zU 3)),(.t 24)]),oM 26 (.t 25),gQ 27 26 false (.load none (.t 2)),gQ 28 26 false (.mov (.t 1)),gK 29 26 false (.call 104 [(.t 27),(.c (zU 4)),(.t 28)]),oQ 30 (.pick (.t 26) (cB true) (.t 29)),oK 6 (.alloc [(.bool false)]),oN (.store 1 (.t 6) (.t 30))] [1,2,5,6])
(.seq
(.reg 5 [oQ 31 (.load none (.t 2)),oM 32 (.t 1),oK 33 (.call 100 [(.t 31),(.c (zU 4)),(.t 32)]),oK 7 (.alloc [(.bool false)]),oN (.store 1 (.t 7) (.t 33))] [1,2,5,6,7])
(.seq
(.reg 6 [oQ 34 (.mkf 105 [] [(.t 5),(.t 6),(.t 7),(.t 2)]),oM 8 (.t 34)] [1,2,8])
(.seq
(.reg 7 [oQ 35 (.load none (.t 2)),oQ 36 (.nchk (.t 35)),oQ 37 (.faddr 1 (.t 36)),oQ 38 (.load none (.t 37)),oM 39 (.t 1),oK 40 (.call 26 [(.t 38),(.t 39)]),oM 9 (.t 40)] [1,2,8,9])
(.seq
(.seq
(.reg 8 [oQ 41 (.load none (.t 2)),oQ 42 (.nchk (.t 41)),oQ 43 (.faddr 7 (.t 42)),oQ 44 (.load none (.t 43)),oQ 45 (.len 0 (.t 44)),oM 46 (cI 0)] [1,8,9,44,45,46])
(.block 0
(.loop
(.seq
(.reg 9 [oQ 47 (.bin .lss (.t 46) (.t 45))] [1,8,9,44,45,46,47])
(.seq
(.cond (.t 47)
.skip
(.exit 0))
(.seq
(.block 1
(.seq
(.reg 10 [oM 48 (.t 46),oQ 49 (.iaddr 15 (.t 44) (.t 46)),oQ 50 (.load (some 15) (.t 49)),oK 11 (.alloc [(.str []),(zI 0),(.str []),(.str []),(zU 0),(.str []),.nilslice,.nilslice,.nilslice,.nilslice,.nilslice,.nilslice,.nilslice,.nilslice,.nilslice]),oM 10 (.t 48),oN (.store 15 (.t 11) (.t 50))] [1,8,9,10,11,44,45,46])
(.seq
(.reg 11 [oM 51 (.t 10),oM 52 (.t 1),oQ 53 (.bin .eql (.t 51) (.t 52)),oM 54 (.t 53),gQ 55 54 false (.mov (.t 8)),gQ 56 54 false (.load (some 15) (.t 11)),gK 57 54 false (.callv (.t 55) [(.t 56)]),oQ 58 (.pick (.t 54) (cB true) (.t 57))] [1,8,9,10,44,45,46,58])
(.cond (.t 58)
(.reg 12 [oM 59 (.t 9),oM 60 (.t 10),oK 61 (.bslt 1 1 [(zI 0)] [⟨0,⟨1,(.t 60)⟩⟩]),oK 62 (.app 1 (.t 59) (.t 61)),oM 9 (.t 62)] [1,8,9,44,45,46])
.skip))))
(.reg 13 [oQ 63 (.bin .add (.t 46) (cI 1)),oM 46 (.t 63)] [1,8,9,44,45,46])))))))
(.seq
(.reg 14 [oM 64 (.t 9),oK 65 (.call 84 [(.t 64)])] [9])
(.seq
(.reg 15 [oM 66 (.t 9),oK 67 (.call 85 [(.t 66)]),oM 4 (.t 67)] [4])
.ret))))))))))
theorem fok40 : FOK Tryz.prog 40 (68,ic40,[(.t 4)]):=fokA [1000002,1000061] Tryz.func40
def ic41 : IC :=
(.seq
(.reg 0 [oM 4 (cB false)] [0,1])
(.seq
(.reg 1 [oM 5 (.t 0),oM 6 (.t 1),oK 7 (.call 103 [(.t 5),(.t 6)]),oM 8 (.t 7),gQ 9 8 true (.mov (.t 0)),gQ 10 8 true (.mov (.t 1)),gK 11 8 true (.call 104 [(.t 9),(.c (zU 2)),(.t 10)]),gQ 12 8 true (.mov (.t 11)),gQ 13 12 false (.mov (.t 0)),gQ 14 12 false (.mov (.t 1)),gK 15 12 false (.call 100 [(.t 13),(.c (zU 2)),(.t 14)]),gQ 16 8 true (.pick (.t 12) (cB true) (.t 15)),oQ 17 (.pick (.t 8) (.t 16) (cB false)),oM 4 (.t 17)] [4])
.ret))
theorem fok41 : FOK Tryz.prog 41 (18,ic41,[(.t 4)]):=fokA [] Tryz.func41
def ic43 : IC :=
(.seq
(.reg 0 [oM 4 (cB false)] [0,1])
(.seq
(.seq
(.reg 1 [oM 5 (cI 0)] [0,1,5])
(.block 0
(.loop
(.seq
(.seq
(.reg 2 [oM 6 (.t 5),oM 7 (.t 0),oQ 8 (.len 0 (.t 7)),oQ 9 (.bin .lss (.t 6) (.t 8))] [0,1,5,9])
(.cond (.t 9)
.skip
(.exit 0)))
(.seq
(.block 1
(.seq
(.reg 4 [oM 12 (.t 0),oM 13 (.t 5),oQ 14 (.iaddr 1 (.t 12) (.t 13)),oQ 15 (.load none (.t 14)),oM 16 (.t 1),oQ 17 (.bin .eql (.t 15) (.t 16))] [0,1,5,17])
(.cond (.t 17)
(.seq
(.reg 5 [oM 4 (cB true)] [4])
.ret)
.skip)))
(.reg 3 [oM 10 (.t 5),oQ 11 (.bin .add (.t 10) (cI 1)),oM 5 (.t 11)] [0,1,5]))))))
(.seq
(.reg 6 [oM 4 (cB false)] [4])
.ret)))
theorem fok43 : FOK Tryz.prog 43 (18,ic43,[(.t 4)]):=fokA [] Tryz.func43
end Go.Id.Tryz
