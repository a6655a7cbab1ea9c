/- The compiled codes of functions,written by a program out of the given form. Conditions: none. -/
import Derived.Test.YteomphdgniepbaaGreatDoorFwZb
import Derived.Test.YteomphdgniepbaaGreatDoorProg
set_option linter.all false
namespace Go.Id.Tryz
open Go Go.Id Go.Proofs
def im8:List Nat:=List.range 375
def ic132:IC :=
(.seq
(.reg 0 [⟨(some 2),none,(.q (.mov (.c .ae5)))⟩,⟨(some 3),none,(.q (.mov (.c (.int .i64 0))))⟩] [0])
(.seq
(.seq
(.reg 1 [⟨(some 11),none,(.q (.mov T0))⟩,⟨(some 12),none,(.q (.ce9 (.pointer 108) false T11))⟩] [0,12])
(.cond T12
(.seq
(.reg 2 [⟨(some 2),none,(.q (.mov (.c .ae5)))⟩,⟨(some 3),none,(.q (.mov (.c (.int .i64 2))))⟩] [2,3])
.ret)
.skip))
(.seq
(.reg 3 [⟨(some 13),none,.ay2⟩,⟨(some 14),none,.ay2⟩,⟨(some 15),none,.ay2⟩,⟨(some 16),none,(.q (.bld [.aa1,.ac8,.ac8,.ac8] [⟨1,⟨1,T13⟩⟩,⟨2,⟨1,T14⟩⟩,⟨3,⟨1,T15⟩⟩]))⟩,⟨(some 17),none,(.box T16)⟩,⟨(some 4),none,(.q (.mov T17))⟩] [0,4])
(.seq
(.seq
(.reg 4 [⟨(some 18),none,(.q (.mov T0))⟩,⟨(some 19),none,(.call 15 [T18])⟩,⟨(some 20),none,(.q (.mov (.c (.int .i64 0))))⟩] [0,4,19,20])
(.block 0
(.loop
(.seq
(.reg 5 [⟨(some 21),none,(.q (.bin .lss T20 T19))⟩] [0,4,19,20,21])
(.seq
(.cond T21
.skip
(.exit 0))
(.seq
(.block 1
(.seq
(.reg 6 [⟨(some 22),none,(.q (.mov T20))⟩,⟨(some 5),none,(.q (.mov T22))⟩] [0,4,5,19,20])
(.seq
(.reg 7 [⟨(some 24),none,(.q (.mov T0))⟩,⟨(some 25),none,(.q (.mov T5))⟩,⟨(some 26),none,(.call 48 [T24,T25])⟩,⟨(some 23),none,(.q (.mov T26))⟩,⟨(some 27),none,(.q (.ext 0 T23))⟩,⟨(some 28),none,(.q (.ext 1 T23))⟩,⟨(some 6),none,(.alloc [(.str []),(.int .i64 0),(.str []),(.str []),(.int .u8 0),(.str []),.aa1,.aa1,.aa1,.aa1,.aa1,.aa1,.aa1,.aa1,.aa1])⟩,⟨none,none,(.store 15 T6 T27)⟩,⟨(some 7),none,(.q (.mov T28))⟩] [0,4,5,6,7,19,20])
(.seq
(.seq
(.reg 8 [⟨(some 29),none,(.q (.mov T7))⟩,⟨(some 30),none,(.q (.bin .neq T29 (.c (.int .i64 0))))⟩] [0,4,5,6,7,19,20,30])
(.cond T30
(.seq
(.reg 9 [⟨(some 31),none,(.q (.mov T7))⟩,⟨(some 2),none,(.q (.mov (.c .ae5)))⟩,⟨(some 3),none,(.q (.mov T31))⟩] [2,3])
.ret)
.skip))
(.seq
(.am7 10 [⟨(some 32),none,(.q (.mov T4))⟩,⟨(some 33),none,(.q (.mov T4))⟩,⟨(some 34),none,(.q (.bc9 T33))⟩,⟨(some 35),none,(.q (.ab2 0 T34))⟩,⟨(some 36),none,(.q (.load none T35))⟩,⟨(some 37),none,(.q (.load (some 15) T6))⟩,⟨(some 38),none,(.ao9 15 1 [(.str []),(.int .i64 0),(.str []),(.str []),(.int .u8 0),(.str []),.aa1,.aa1,.aa1,.aa1,.aa1,.aa1,.aa1,.aa1,.aa1] [⟨0,⟨15,T37⟩⟩])⟩,⟨(some 39),none,(.app 15 T36 T38)⟩,⟨(some 40),none,(.q (.bc9 T32))⟩,⟨(some 41),none,(.q (.ab2 0 T40))⟩,⟨none,none,(.store 1 T41 T39)⟩] true [0,4,5,6,19,20])
(.seq
(.am7 11 [⟨(some 42),none,(.q (.mov T4))⟩,⟨(some 43),none,(.q (.bc9 T42))⟩,⟨(some 44),none,(.q (.ab2 2 T43))⟩,⟨(some 45),none,(.q (.load none T44))⟩,⟨(some 46),none,(.q (.ab2 0 T6))⟩,⟨(some 47),none,(.q (.load none T46))⟩,⟨(some 48),none,(.q (.mov T4))⟩,⟨(some 49),none,(.q (.bc9 T48))⟩,⟨(some 50),none,(.q (.ab2 2 T49))⟩,⟨(some 51),none,(.q (.load none T50))⟩,⟨(some 52),none,(.q (.ab2 0 T6))⟩,⟨(some 53),none,(.q (.load none T52))⟩,⟨(some 54),none,(.q (.lkp 2 .aa1 false T51 T53))⟩,⟨(some 55),none,(.q (.mov T5))⟩,⟨(some 56),none,(.ao9 1 1 [(.int .i64 0)] [⟨0,⟨1,T55⟩⟩])⟩,⟨(some 57),none,(.app 1 T54 T56)⟩,⟨none,none,(.bw1 2 T45 T47 T57)⟩] true [0,4,5,6,19,20])
(.seq
(.seq
(.reg 12 [⟨(some 58),none,(.q (.load (some 15) T6))⟩,⟨(some 59),none,(.call 210 [T58])⟩,⟨(some 60),none,(.aw6 T59)⟩] [0,4,5,6,19,20,60])
(.block 2
(.loop
(.seq
(.reg 13 [⟨(some 61),none,(.bw2 T60)⟩,⟨(some 62),none,(.q (.ext 0 T61))⟩] [0,4,5,6,19,20,60,62])
(.seq
(.cond T62
.skip
(.exit 2))
(.block 3
(.seq
(.reg 14 [⟨(some 63),none,(.em3 T60)⟩,⟨(some 64),none,(.q (.ext 0 T63))⟩,⟨(some 8),none,(.q (.mov T64))⟩] [0,4,5,6,8,19,20,60])
(.am7 15 [⟨(some 65),none,(.q (.mov T4))⟩,⟨(some 66),none,(.q (.bc9 T65))⟩,⟨(some 67),none,(.q (.ab2 1 T66))⟩,⟨(some 68),none,(.q (.load none T67))⟩,⟨(some 69),none,(.q (.mov T8))⟩,⟨(some 70),none,(.q (.mov T4))⟩,⟨(some 71),none,(.q (.bc9 T70))⟩,⟨(some 72),none,(.q (.ab2 1 T71))⟩,⟨(some 73),none,(.q (.load none T72))⟩,⟨(some 74),none,(.q (.mov T8))⟩,⟨(some 75),none,(.q (.lkp 2 .aa1 false T73 T74))⟩,⟨(some 76),none,(.q (.mov T5))⟩,⟨(some 77),none,(.ao9 1 1 [(.int .i64 0)] [⟨0,⟨1,T76⟩⟩])⟩,⟨(some 78),none,(.app 1 T75 T77)⟩,⟨none,none,(.bw1 2 T68 T69 T78)⟩] true [0,4,5,6,19,20,60]))))))))
(.seq
(.reg 16 [⟨(some 79),none,(.q (.ab2 9 T6))⟩,⟨(some 80),none,(.q (.load none T79))⟩,⟨(some 81),none,(.q (.len 0 T80))⟩,⟨(some 82),none,(.q (.mov (.c (.int .i64 0))))⟩] [0,4,5,19,20,80,81,82])
(.block 4
(.loop
(.seq
(.reg 17 [⟨(some 83),none,(.q (.bin .lss T82 T81))⟩] [0,4,5,19,20,80,81,82,83])
(.seq
(.cond T83
.skip
(.exit 4))
(.seq
(.block 5
(.seq
(.reg 18 [⟨(some 84),none,(.q (.ab5 5 T80 T82))⟩,⟨(some 85),none,(.q (.load (some 5) T84))⟩,⟨(some 10),none,(.alloc [(.str []),(.int .u8 0),(.int .i64 0),(.str []),(.str [])])⟩,⟨none,none,(.store 5 T10 T85)⟩] [0,4,5,10,19,20,80,81,82])
(.seq
(.am7 19 [⟨(some 86),none,(.q (.mov T4))⟩,⟨(some 87),none,(.q (.bc9 T86))⟩,⟨(some 88),none,(.q (.ab2 3 T87))⟩,⟨(some 89),none,(.q (.load none T88))⟩,⟨(some 90),none,(.q (.ab2 0 T10))⟩,⟨(some 91),none,(.q (.load none T90))⟩,⟨(some 92),none,(.q (.lkp 2 .aa1 false T89 T91))⟩,⟨(some 93),none,(.q (.mov T5))⟩,⟨(some 94),none,(.call 188 [T92,T93])⟩,⟨(some 95),none,(.q (.not T94))⟩] false [0,4,5,10,19,20,80,81,82,95])
(.cond T95
(.am7 20 [⟨(some 96),none,(.q (.mov T4))⟩,⟨(some 97),none,(.q (.bc9 T96))⟩,⟨(some 98),none,(.q (.ab2 3 T97))⟩,⟨(some 99),none,(.q (.load none T98))⟩,⟨(some 100),none,(.q (.ab2 0 T10))⟩,⟨(some 101),none,(.q (.load none T100))⟩,⟨(some 102),none,(.q (.mov T4))⟩,⟨(some 103),none,(.q (.bc9 T102))⟩,⟨(some 104),none,(.q (.ab2 3 T103))⟩,⟨(some 105),none,(.q (.load none T104))⟩,⟨(some 106),none,(.q (.ab2 0 T10))⟩,⟨(some 107),none,(.q (.load none T106))⟩,⟨(some 108),none,(.q (.lkp 2 .aa1 false T105 T107))⟩,⟨(some 109),none,(.q (.mov T5))⟩,⟨(some 110),none,(.ao9 1 1 [(.int .i64 0)] [⟨0,⟨1,T109⟩⟩])⟩,⟨(some 111),none,(.app 1 T108 T110)⟩,⟨none,none,(.bw1 2 T99 T101 T111)⟩] true [0,4,5,19,20,80,81,82])
.skip))))
(.reg 21 [⟨(some 112),none,(.q (.bin .add T82 (.c (.int .i64 1))))⟩,⟨(some 82),none,(.q (.mov T112))⟩] [0,4,5,19,20,80,81,82]))))))))))))))
(.reg 22 [⟨(some 113),none,(.q (.bin .add T20 (.c (.int .i64 1))))⟩,⟨(some 20),none,(.q (.mov T113))⟩] [0,4,19,20])))))))
(.seq
(.reg 23 [⟨(some 114),none,(.q (.mov T4))⟩,⟨(some 2),none,(.q (.mov T114))⟩,⟨(some 3),none,(.q (.mov (.c (.int .i64 0))))⟩] [2,3])
.ret)))))
theorem fok132:FOK Tryz.prog 132 (115,ic132,[(.t 2),(.t 3)]):=.mk (pf:=[1000038,1000056,1000077,1000110]) (an:=[(0,[0]),(1,[0,12]),(2,[2,3]),(3,[0,4]),(4,[0,4,19,20]),(5,[0,4,19,20,21]),(6,[0,4,5,19,20]),(7,[0,4,5,6,7,19,20]),(8,[0,4,5,6,7,19,20,30]),(9,[2,3]),(10,[0,4,5,6,19,20]),(11,[0,4,5,6,19,20]),(12,[0,4,5,6,19,20,60]),(13,[0,4,5,6,19,20,60,62]),(14,[0,4,5,6,8,19,20,60]),(15,[0,4,5,6,19,20,60]),(16,[0,4,5,19,20,80,81,82]),(17,[0,4,5,19,20,80,81,82,83]),(18,[0,4,5,10,19,20,80,81,82]),(19,[0,4,5,10,19,20,80,81,82,95]),(20,[0,4,5,19,20,80,81,82]),(21,[0,4,5,19,20,80,81,82]),(22,[0,4,19,20]),(23,[2,3])]) (by kernel_rfl) (ac3 Tryz.func132 (by kernel_rfl) (by kernel_rfl) (by kernel_rfl))
def ic136:IC :=
(.seq
(.reg 0 [oK 1 (.an3 T0),oM 2 (.c .aa1)] [1,2])
(.seq
(.reg 1 [oK 3 (.alloc [.aa1])] [1,2,3])
(.seq
(.seq
(.reg 2 [oQ 5 (.load (some 7) T1),oK 6 (.call 213 [T5])] [2,3,6])
(.block 0
(.bd6 T6 [7,8]
(.reg 3 [oK 4 (.alloc [(zU 0),(.str []),(zU 0),(zI 0),(.str []),(.str []),.aa1]),oN (.store 7 T4 T7)] [3,4])
(.block 1
(.seq
(.reg 4 [oQ 9 (.ab2 0 T4),oQ 10 (.load none T9),oQ 11 (.bin .eql T10 (.c (zU 1)))] [3,4,11])
(.cond T11
(.reg 5 [oQ 12 (.load none T3),oQ 13 (.ab2 1 T4),oQ 14 (.load (some 5) T13),oK 15 (.ao9 5 1 [(.str []),(zU 0),(zI 0),(.str []),(.str [])] [⟨0,⟨5,T14⟩⟩]),oK 16 (.app 5 T12 T15),oN (.store 1 T3 T16)] [])
.skip))))))
(.seq
(.reg 6 [oQ 17 (.load none T3),oM 2 T17] [2])
.ret))))
theorem fok136:FOK Tryz.prog 136 (18,ic136,[(.t 2)]):=aj5 [1000001,1000015] Tryz.func136
def ic137:IC :=
(.seq
(.reg 0 [⟨(some 4),none,(.q (.mov (.c (.bool false))))⟩] [0,1])
(.seq
(.reg 1 [⟨(some 5),none,(.q (.mov T0))⟩,⟨(some 6),none,(.q (.mov T1))⟩,⟨(some 7),none,(.call 214 [T5,T6])⟩,⟨(some 8),none,(.q (.bin .geq T7 (.c (.int .i64 0))))⟩,⟨(some 4),none,(.q (.mov T8))⟩] [4])
.ret))
theorem fok137:FOK Tryz.prog 137 (9,ic137,[(.t 4)]):=.mk (pf:=[]) (an:=[(0,[0,1]),(1,[4])]) (by kernel_rfl) (ac3 Tryz.func137 (by kernel_rfl) (by kernel_rfl) (by kernel_rfl))
def ic139:IC :=
(.seq
(.reg 0 [oK 2 (.an3 T0),oK 3 (.an3 T1),oM 4 (cB false)] [2,3])
(.seq
(.seq
(.reg 1 [oQ 5 (.load (some 15) T2),oQ 6 (.load (some 5) T3),oK 7 (.call 181 [T5,T6]),oM 8 T7,gQ 9 8 false (.ab2 6 T2),gQ 10 8 false (.load none T9),gQ 11 8 false (.mkf 215 [] [T3]),gK 12 8 false (.call 137 [T10,T11]),oQ 13 (.pick T8 (cB true) T12)] [2,3,13])
(.cond T13
(.seq
(.reg 2 [oM 4 (cB true)] [4])
.ret)
.skip))
(.seq
(.reg 3 [oQ 14 (.ab2 1 T3),oQ 15 (.load none T14),oQ 16 (.bin .eql T15 (.c (zU 0))),oM 17 T16,gQ 18 17 true (.ab2 14 T2),gQ 19 17 true (.load none T18),gQ 20 17 true (.ab2 0 T3),gQ 21 17 true (.load none T20),gK 22 17 true (.call 217 [T19,T21]),oQ 23 (.pick T17 T22 (cB false)),oM 4 T23] [4])
.ret)))
theorem fok139:FOK Tryz.prog 139 (24,ic139,[(.t 4)]):=aj5 [1000002,1000003] Tryz.func139
def ic140:IC :=
(.seq
(.reg 0 [⟨(some 4),none,(.q (.mov (.c (.bool false))))⟩] [0,1])
(.seq
(.reg 1 [⟨(some 5),none,(.q (.mov T0))⟩,⟨(some 6),none,(.q (.mov T1))⟩,⟨(some 7),none,(.call 218 [T5,T6])⟩,⟨(some 8),none,(.q (.bin .geq T7 (.c (.int .i64 0))))⟩,⟨(some 4),none,(.q (.mov T8))⟩] [4])
.ret))
theorem fok140:FOK Tryz.prog 140 (9,ic140,[(.t 4)]):=.mk (pf:=[]) (an:=[(0,[0,1]),(1,[4])]) (by kernel_rfl) (ac3 Tryz.func140 (by kernel_rfl) (by kernel_rfl) (by kernel_rfl))
def ic152:IC :=
(.seq
(.reg 0 [oM 4 (cI 0)] [0,1])
(.seq
(.seq
(.reg 1 [oM 6 T0,oQ 7 (.len 0 T6),oM 8 (cI 0)] [0,1,7,8])
(.block 0
(.loop
(.seq
(.reg 2 [oQ 9 (.bin .lss T8 T7)] [0,1,7,8,9])
(.seq
(.cond T9
.skip
(.exit 0))
(.seq
(.block 1
(.seq
(.reg 3 [oM 10 T8,oM 5 T10] [0,1,5,7,8])
(.seq
(.reg 4 [oM 11 T1,oM 12 T0,oM 13 T5,oQ 14 (.ab5 1 T12 T13),oQ 15 (.load none T14),oK 16 (.aj1 T11 [T15])] [0,1,5,7,8,16])
(.cond T16
(.seq
(.reg 5 [oM 17 T5,oM 4 T17] [4])
.ret)
.skip))))
(.reg 6 [oQ 18 (.bin .add T8 (cI 1)),oM 8 T18] [0,1,7,8])))))))
(.seq
(.reg 7 [oM 4 (cI (-1))] [4])
.ret)))
theorem fok152:FOK Tryz.prog 152 (19,ic152,[(.t 4)]):=aj5 [] Tryz.func152
def ic153:IC :=
(.seq
(.reg 0 [oM 10 (cB true)] [0,1,2,3,4,10])
(.seq
(.reg 1 [oM 11 (cB true)] [0,1,2,3,4,10,11])
(.block 0
(.loop
(.block 1
(.seq
(.reg 2 [oM 21 T2,oM 22 T1,oQ 23 (.bin .sub T21 T22),oM 12 T23] [0,1,2,3,4,10,11,12])
(.seq
(.seq
(.reg 3 [oM 24 T12,oQ 25 (.bin .leq T24 (cI 12))] [0,1,2,3,4,10,11,12,25])
(.cond T25
(.seq
(.reg 4 [oM 26 T0,oM 27 T1,oM 28 T2,oM 29 T4,oK 30 (.call 223 [T26,T27,T28,T29])] [])
.ret)
.skip))
(.seq
(.seq
(.reg 5 [oM 31 T3,oQ 32 (.bin .eql T31 (cI 0))] [0,1,2,3,4,10,11,12,32])
(.cond T32
(.seq
(.reg 6 [oM 33 T0,oM 34 T1,oM 35 T2,oM 36 T4,oK 37 (.call 224 [T33,T34,T35,T36])] [])
.ret)
.skip))
(.seq
(.seq
(.reg 7 [oM 38 T10,oQ 39 (.not T38)] [0,1,2,3,4,10,11,12,39])
(.cond T39
(.seq
(.reg 8 [oM 40 T0,oM 41 T1,oM 42 T2,oM 43 T4,oK 44 (.call 225 [T40,T41,T42,T43])] [0,1,2,3,4,10,11,12])
(.reg 9 [oM 45 T3,oQ 46 (.bin .sub T45 (cI 1)),oM 3 T46] [0,1,2,3,4,10,11,12]))
.skip))
(.seq
(.reg 10 [oM 48 T0,oM 49 T1,oM 50 T2,oM 51 T4,oK 52 (.call 226 [T48,T49,T50,T51]),oM 47 T52,oQ 53 (.ext 0 T47),oQ 54 (.ext 1 T47),oM 13 T53,oM 14 T54] [0,1,2,3,4,10,11,12,13,14])
(.seq
(.seq
(.reg 11 [oM 55 T14,oQ 56 (.bin .eql T55 (cI 2))] [0,1,2,3,4,10,11,12,13,14,56])
(.cond T56
(.seq
(.reg 12 [oM 57 T0,oM 58 T1,oM 59 T2,oM 60 T4,oK 61 (.call 227 [T57,T58,T59,T60])] [0,1,2,3,4,10,11,12,13])
(.seq
(.reg 13 [oM 62 T2,oQ 63 (.bin .sub T62 (cI 1)),oM 64 T13,oM 65 T1,oQ 66 (.bin .sub T64 T65),oQ 67 (.bin .sub T63 T66),oM 13 T67] [0,1,2,3,4,10,11,12,13])
(.reg 14 [oM 14 (cI 1)] [0,1,2,3,4,10,11,12,13,14])))
.skip))
(.seq
(.seq
(.reg 15 [oM 68 T10,oM 69 T68,gQ 70 69 true (.mov T11),oQ 71 (.pick T69 T70 (cB false)),oM 72 T71,gQ 73 72 true (.mov T14),gQ 74 72 true (.bin .eql T73 (cI 1)),oQ 75 (.pick T72 T74 (cB false))] [0,1,2,3,4,10,11,12,13,75])
(.cond T75
(.seq
(.reg 16 [oM 76 T0,oM 77 T1,oM 78 T2,oM 79 T4,oK 80 (.call 228 [T76,T77,T78,T79])] [0,1,2,3,4,10,11,12,13,80])
(.cond T80
.ret
.skip))
.skip))
(.seq
(.seq
(.am7 17 [oM 81 T1,oQ 82 (.bin .gtr T81 (cI 0)),oM 83 T82,gQ 84 83 true (.mov T4),gQ 85 83 true (.mov T0),gQ 86 83 true (.mov T1),gQ 87 83 true (.bin .sub T86 (cI 1)),gQ 88 83 true (.ab5 1 T85 T87),gQ 89 83 true (.load none T88),gQ 90 83 true (.mov T0),gQ 91 83 true (.mov T13),gQ 92 83 true (.ab5 1 T90 T91),gQ 93 83 true (.load none T92),gK 94 83 true (.aj1 T84 [T89,T93]),gQ 95 83 true (.bin .lss T94 (cI 0)),gQ 96 83 true (.not T95),oQ 97 (.pick T83 T96 (cB false))] false [0,1,2,3,4,10,11,12,13,97])
(.cond T97
(.seq
(.reg 18 [oM 98 T0,oM 99 T1,oM 100 T2,oM 101 T13,oM 102 T4,oK 103 (.call 229 [T98,T99,T100,T101,T102]),oM 15 T103] [0,2,3,4,10,11,15])
(.seq
(.reg 19 [oM 104 T15,oM 1 T104] [0,1,2,3,4,10,11])
(.exit 1)))
.skip))
(.seq
(.reg 20 [oM 106 T0,oM 107 T1,oM 108 T2,oM 109 T13,oM 110 T4,oK 111 (.call 230 [T106,T107,T108,T109,T110]),oM 105 T111,oQ 112 (.ext 0 T105),oQ 113 (.ext 1 T105),oM 16 T112,oM 17 T113] [0,1,2,3,4,12,16,17])
(.seq
(.reg 21 [oM 114 T17,oM 11 T114] [0,1,2,3,4,11,12,16])
(.seq
(.reg 22 [oM 115 T16,oM 116 T1,oQ 117 (.bin .sub T115 T116),oM 118 T2,oM 119 T16,oQ 120 (.bin .sub T118 T119),oM 18 T117,oM 19 T120] [0,1,2,3,4,11,12,16,18,19])
(.seq
(.reg 23 [oM 121 T12,oQ 122 (.bin .quo T121 (cI 8)),oM 20 T122] [0,1,2,3,4,11,16,18,19,20])
(.seq
(.reg 24 [oM 123 T18,oM 124 T19,oQ 125 (.bin .lss T123 T124)] [0,1,2,3,4,11,16,18,19,20,125])
(.cond T125
(.seq
(.reg 25 [oM 126 T18,oM 127 T20,oQ 128 (.bin .geq T126 T127),oM 10 T128] [0,1,2,3,4,10,11,16])
(.seq
(.reg 26 [oM 129 T0,oM 130 T1,oM 131 T16,oM 132 T3,oM 133 T4,oK 134 (.call 153 [T129,T130,T131,T132,T133])] [0,2,3,4,10,11,16])
(.reg 27 [oM 135 T16,oQ 136 (.bin .add T135 (cI 1)),oM 1 T136] [0,1,2,3,4,10,11])))
(.seq
(.reg 28 [oM 137 T19,oM 138 T20,oQ 139 (.bin .geq T137 T138),oM 10 T139] [0,1,2,3,4,10,11,16])
(.seq
(.reg 29 [oM 140 T0,oM 141 T16,oQ 142 (.bin .add T141 (cI 1)),oM 143 T2,oM 144 T3,oM 145 T4,oK 146 (.call 153 [T140,T142,T143,T144,T145])] [0,1,3,4,10,11,16])
(.reg 30 [oM 147 T16,oM 2 T147] [0,1,2,3,4,10,11]))))))))))))))))))))))
theorem fok153:FOK Tryz.prog 153 (148,ic153,[]):=aj5 [] Tryz.func153
def ic154:IC :=
(.seq
(.reg 0 [oM 2 (cI 0)] [0])
(.seq
(.cond (cB false)
(.seq
(.reg 1 [oM 3 T0,oQ 4 (.conv .u32 T3),oK 5 (.call 231 [T4]),oM 2 T5] [2])
.ret)
.skip)
(.seq
(.reg 2 [oM 6 T0,oK 7 (.call 232 [T6]),oM 2 T7] [2])
.ret)))
theorem fok154:FOK Tryz.prog 154 (8,ic154,[(.t 2)]):=aj5 [] Tryz.func154
def ic155:IC :=
(.seq
(.reg 0 [oM 4 (cI 0)] [0,1])
(.seq
(.reg 1 [oM 5 (cI 0)] [0,1,5])
(.seq
(.seq
(.reg 2 [oM 6 (cI 0)] [0,1,5,6])
(.block 0
(.loop
(.seq
(.seq
(.reg 3 [oM 7 T6,oM 8 T0,oQ 9 (.len 0 T8),oQ 10 (.bin .lss T7 T9),oM 11 T10,gQ 12 11 true (.mov T5),gQ 13 11 true (.mov T1),gQ 14 11 true (.bin .lss T12 T13),oQ 15 (.pick T11 T14 (cB false))] [0,1,5,6,15])
(.cond T15
.skip
(.exit 0)))
(.seq
(.block 1
(.reg 5 [oM 18 T5,oQ 19 (.bin .add T18 (cI 1)),oM 20 T0,oM 21 T6,oQ 22 (.ab5 7 T20 T21),oQ 23 (.ab2 6 T22),oQ 24 (.load none T23),oM 25 T1,oM 26 T5,oQ 27 (.bin .sub T25 T26),oK 28 (.call 155 [T24,T27]),oQ 29 (.bin .add T19 T28),oM 5 T29] [0,1,5,6]))
(.reg 4 [oM 16 T6,oQ 17 (.bin .add T16 (cI 1)),oM 6 T17] [0,1,5,6]))))))
(.seq
(.reg 6 [oM 30 T5,oM 4 T30] [4])
.ret))))
theorem fok155:FOK Tryz.prog 155 (31,ic155,[(.t 4)]):=aj5 [] Tryz.func155
def ic156:IC :=
(.seq
(.reg 0 [⟨(some 1),none,(.an3 T0)⟩,⟨(some 2),none,(.alloc [(.bool false)])⟩] [1,2])
(.seq
(.block 0
(.seq
(.reg 1 [⟨(some 8),none,(.q (.ab2 0 T1))⟩,⟨(some 9),none,(.q (.load none T8))⟩,⟨(some 10),none,(.call 205 [T9])⟩,⟨(some 11),none,(.q (.not T10))⟩,⟨(some 12),none,(.q (.mov T11))⟩,⟨(some 13),(some ⟨12,false⟩),(.q (.ab2 0 T1))⟩,⟨(some 14),(some ⟨12,false⟩),(.q (.load none T13))⟩,⟨(some 15),(some ⟨12,false⟩),(.call 207 [T14])⟩,⟨(some 16),none,(.q (.pick T12 (.c (.bool true)) T15))⟩,⟨(some 17),none,(.q (.mov T16))⟩,⟨(some 18),(some ⟨17,false⟩),(.q (.ab2 1 T1))⟩,⟨(some 19),(some ⟨17,false⟩),(.q (.load (some 3) T18))⟩,⟨(some 20),(some ⟨17,false⟩),(.call 208 [T19,(.c (.bool false))])⟩,⟨(some 21),(some ⟨17,false⟩),(.q (.not T20))⟩,⟨(some 22),none,(.q (.pick T17 (.c (.bool true)) T21))⟩,⟨(some 7),none,(.q (.mov T22))⟩] [1,2,7])
(.cond T7
(.seq
(.reg 2 [⟨none,none,(.store 1 T2 (.c (.bool false)))⟩] [2])
.ret)
(.seq
(.reg 3 [⟨(some 24),none,(.q (.ab2 4 T1))⟩,⟨(some 25),none,(.q (.load none T24))⟩,⟨(some 26),none,(.call 233 [T25])⟩,⟨(some 27),none,(.q (.bin .eql T26 (.c (.str []))))⟩,⟨(some 28),none,(.q (.mov T27))⟩,⟨(some 29),(some ⟨28,false⟩),(.q (.ab2 5 T1))⟩,⟨(some 30),(some ⟨28,false⟩),(.q (.load none T29))⟩,⟨(some 31),(some ⟨28,false⟩),(.q (.len 1 T30))⟩,⟨(some 32),(some ⟨28,false⟩),(.q (.bin .gtr T31 (.c (.int .i64 64))))⟩,⟨(some 33),none,(.q (.pick T28 (.c (.bool true)) T32))⟩,⟨(some 23),none,(.q (.mov T33))⟩] [1,2,23])
(.cond T23
(.seq
(.reg 4 [⟨none,none,(.store 1 T2 (.c (.bool false)))⟩] [2])
.ret)
(.seq
(.reg 5 [⟨(some 35),none,(.q (.ab2 6 T1))⟩,⟨(some 36),none,(.q (.load none T35))⟩,⟨(some 37),none,(.call 234 [T36,(.c (.int .i64 32)),(.f 127)])⟩,⟨(some 38),none,(.q (.not T37))⟩,⟨(some 39),none,(.q (.mov T38))⟩,⟨(some 40),(some ⟨39,false⟩),(.q (.ab2 9 T1))⟩,⟨(some 41),(some ⟨39,false⟩),(.q (.load none T40))⟩,⟨(some 42),(some ⟨39,false⟩),(.call 234 [T41,(.c (.int .i64 32)),(.f 127)])⟩,⟨(some 43),(some ⟨39,false⟩),(.q (.not T42))⟩,⟨(some 44),none,(.q (.pick T39 (.c (.bool true)) T43))⟩,⟨(some 45),none,(.q (.mov T44))⟩,⟨(some 46),(some ⟨45,false⟩),(.q (.ab2 14 T1))⟩,⟨(some 47),(some ⟨45,false⟩),(.q (.load none T46))⟩,⟨(some 48),(some ⟨45,false⟩),(.call 235 [T47,(.c (.int .i64 32)),(.f 207)])⟩,⟨(some 49),(some ⟨45,false⟩),(.q (.not T48))⟩,⟨(some 50),none,(.q (.pick T45 (.c (.bool true)) T49))⟩,⟨(some 34),none,(.q (.mov T50))⟩] [1,2,34])
(.cond T34
(.seq
(.reg 6 [⟨none,none,(.store 1 T2 (.c (.bool false)))⟩] [2])
.ret)
.skip)))))))
(.seq
(.seq
(.reg 7 [⟨(some 51),none,(.q (.ab2 14 T1))⟩,⟨(some 52),none,(.q (.load none T51))⟩,⟨(some 53),none,(.q (.len 0 T52))⟩,⟨(some 54),none,(.q (.mov (.c (.int .i64 0))))⟩] [1,2,52,53,54])
(.block 1
(.loop
(.seq
(.reg 8 [⟨(some 55),none,(.q (.bin .lss T54 T53))⟩] [1,2,52,53,54,55])
(.seq
(.cond T55
.skip
(.exit 1))
(.seq
(.block 2
(.seq
(.reg 9 [⟨(some 56),none,(.q (.mov T54))⟩,⟨(some 57),none,(.q (.ab5 1 T52 T54))⟩,⟨(some 58),none,(.q (.load none T57))⟩,⟨(some 3),none,(.q (.mov T56))⟩,⟨(some 4),none,(.q (.mov T58))⟩] [1,2,3,4,52,53,54])
(.seq
(.reg 10 [⟨(some 59),none,(.q (.mov T3))⟩,⟨(some 60),none,(.q (.bin .gtr T59 (.c (.int .i64 0))))⟩,⟨(some 61),none,(.q (.mov T60))⟩,⟨(some 62),(some ⟨61,true⟩),(.q (.ab2 14 T1))⟩,⟨(some 63),(some ⟨61,true⟩),(.q (.load none T62))⟩,⟨(some 64),(some ⟨61,true⟩),(.q (.mov T3))⟩,⟨(some 65),(some ⟨61,true⟩),(.q (.bin .sub T64 (.c (.int .i64 1))))⟩,⟨(some 66),(some ⟨61,true⟩),(.q (.ab5 1 T63 T65))⟩,⟨(some 67),(some ⟨61,true⟩),(.q (.load none T66))⟩,⟨(some 68),(some ⟨61,true⟩),(.q (.mov T4))⟩,⟨(some 69),(some ⟨61,true⟩),(.q (.bin .geq T67 T68))⟩,⟨(some 70),none,(.q (.pick T61 T69 (.c (.bool false))))⟩] [1,2,52,53,54,70])
(.cond T70
(.seq
(.reg 11 [⟨none,none,(.store 1 T2 (.c (.bool false)))⟩] [2])
.ret)
.skip))))
(.reg 12 [⟨(some 71),none,(.q (.bin .add T54 (.c (.int .i64 1))))⟩,⟨(some 54),none,(.q (.mov T71))⟩] [1,2,52,53,54])))))))
(.seq
(.seq
(.reg 13 [⟨(some 72),none,(.q (.load (some 15) T1))⟩,⟨(some 73),none,(.call 236 [T72])⟩] [2,73])
(.block 3
(.bd6 T73 [74,75]
(.seq
(.reg 14 [⟨(some 5),none,(.alloc [(.int .u8 0)])⟩,⟨none,none,(.store 1 T5 T74)⟩] [2,5,75])
(.reg 15 [⟨(some 6),none,(.q (.mov T75))⟩] [2,5,6]))
(.block 4
(.seq
(.reg 16 [⟨(some 76),none,(.q (.mov T6))⟩,⟨(some 77),none,(.q (.mkf 238 [] [T5]))⟩,⟨(some 78),none,(.call 237 [T76,(.c (.int .i64 32)),T77])⟩,⟨(some 79),none,(.q (.not T78))⟩] [2,79])
(.cond T79
(.seq
(.reg 17 [⟨none,none,(.store 1 T2 (.c (.bool false)))⟩] [])
.ret)
.skip))))))
(.seq
(.reg 18 [⟨none,none,(.store 1 T2 (.c (.bool true)))⟩] [2])
.ret)))))
theorem fok156:FOK Tryz.prog 156 (80,ic156,[(.cell none 2)]):=.mk (pf:=[1000001]) (an:=[(0,[1,2]),(1,[1,2,7]),(2,[2]),(3,[1,2,23]),(4,[2]),(5,[1,2,34]),(6,[2]),(7,[1,2,52,53,54]),(8,[1,2,52,53,54,55]),(9,[1,2,3,4,52,53,54]),(10,[1,2,52,53,54,70]),(11,[2]),(12,[1,2,52,53,54]),(13,[2,73]),(14,[2,5,75]),(15,[2,5,6]),(16,[2,79]),(18,[2])]) (by kernel_rfl) (ac3 Tryz.func156 (by kernel_rfl) (by kernel_rfl) (by kernel_rfl))
def ic157:IC :=
(.seq
(.reg 0 [oK 2 (.box T0),oK 4 (.alloc [(.int .u64 0),(.int .u64 0),(.int .u64 0),(.int .u64 0)])] [1,2,4])
(.seq
(.am7 1 [oM 5 T1,oQ 6 (.bin .quo T5 (cI 64)),oQ 7 (.ax8 4 1 T2 T6),oQ 8 (.load none T7),oM 9 T1,oQ 10 (.bin .rem T9 (cI 64)),oQ 11 (.bin .shl (.c (.int .u64 1)) T10),oQ 12 (.bin .or T8 T11),oQ 13 (.ax8 4 1 T2 T6),oN (.store 1 T13 T12)] false [2,4])
(.seq
(.reg 2 [oQ 14 (.load (some 4) T2),oN (.store 4 T4 T14)] [4])
.ret)))
theorem fok157:FOK Tryz.prog 157 (15,ic157,[(.cell (some 4) 4)]):=aj5 [] Tryz.func157
def ic158:IC :=
(.seq
(.reg 0 [oK 2 (.box T0),oK 3 (.an3 T1),oK 4 (.alloc [(.int .u64 0),(.int .u64 0),(.int .u64 0),(.int .u64 0)])] [2,3,4])
(.seq
(.seq
(.reg 1 [oM 6 (cI 0)] [2,3,4,6])
(.block 0
(.loop
(.seq
(.reg 2 [oQ 7 (.bin .lss T6 (cI 4))] [2,3,4,6,7])
(.seq
(.cond T7
.skip
(.exit 0))
(.seq
(.block 1
(.seq
(.reg 3 [oM 8 T6,oM 5 T8] [2,3,4,5,6])
(.am7 4 [oM 9 T5,oQ 10 (.ax8 4 1 T2 T9),oQ 11 (.load none T10),oM 12 T5,oQ 13 (.ax8 4 1 T3 T12),oQ 14 (.load none T13),oQ 15 (.bin .or T11 T14),oQ 16 (.ax8 4 1 T2 T9),oN (.store 1 T16 T15)] false [2,3,4,6])))
(.reg 5 [oQ 17 (.bin .add T6 (cI 1)),oM 6 T17] [2,3,4,6])))))))
(.seq
(.reg 6 [oQ 18 (.load (some 4) T2),oN (.store 4 T4 T18)] [4])
.ret)))
theorem fok158:FOK Tryz.prog 158 (19,ic158,[(.cell (some 4) 4)]):=aj5 [1000003] Tryz.func158
def ic159:IC :=
(.seq
(.reg 0 [oM 2 (cB false)] [0])
(.seq
(.reg 1 [oM 3 T0,oM 4 T0,oQ 5 (.bin .neq T3 T4),oM 2 T5] [2])
.ret))
theorem fok159:FOK Tryz.prog 159 (6,ic159,[(.t 2)]):=aj5 [] Tryz.func159
def ic160:IC :=
(.seq
(.reg 0 [oM 2 (.c .aa1)] [0])
(.seq
(.reg 1 [oM 4 T0,oK 5 (.call 240 [T4]),oM 3 T5] [3])
(.seq
(.reg 2 [oM 6 T3,oK 7 (.call 111 [T6])] [3])
(.seq
(.reg 3 [oM 8 T3,oM 2 T8] [2])
.ret))))
theorem fok160:FOK Tryz.prog 160 (9,ic160,[(.t 2)]):=aj5 [] Tryz.func160
def ic161:IC :=
(.seq
(.reg 0 [oK 1 (.an3 T0),oM 2 (.c .af2)] [1])
(.seq
(.reg 1 [oQ 3 (.mkf 241 [] [T1]),oM 2 T3] [2])
.ret))
theorem fok161:FOK Tryz.prog 161 (4,ic161,[(.t 2)]):=aj5 [1000001] Tryz.func161
def ic162:IC :=
(.seq
(.reg 0 [oK 3 (.an3 T0),oM 4 (cB false)] [1,2,3])
(.seq
(.reg 1 [oQ 5 (.load none T1),oQ 6 (.mkf 164 [] [T2,T3]),oK 7 (.call 163 [T5,T6]),oQ 8 (.not T7),oM 4 T8] [4])
.ret))
theorem fok162:FOK Tryz.prog 162 (9,ic162,[(.t 4)]):=aj5 [1000003] Tryz.func162
def ic163:IC :=
(.seq
(.reg 0 [oM 4 (cB false)] [0,1])
(.seq
(.reg 1 [oM 5 T0,oM 6 T1,oK 7 (.call 152 [T5,T6]),oQ 8 (.bin .geq T7 (cI 0)),oM 4 T8] [4])
.ret))
theorem fok163:FOK Tryz.prog 163 (9,ic163,[(.t 4)]):=aj5 [] Tryz.func163
def ic164:IC :=
(.seq
(.reg 0 [oM 4 (cB false)] [0,1,2])
(.seq
(.reg 1 [oQ 5 (.load none T1),oQ 6 (.load none T2),oM 7 T0,oK 8 (.aj1 T5 [T6,T7]),oM 4 T8] [4])
.ret))
theorem fok164:FOK Tryz.prog 164 (9,ic164,[(.t 4)]):=aj5 [] Tryz.func164
def ic166:IC :=
(.seq
(.reg 0 [oK 2 (.an3 T0),oM 3 (cB false)] [1,2])
(.seq
(.reg 1 [oQ 4 (.load (some 7) T2),oK 5 (.call 136 [T4]),oQ 6 (.mkf 167 [] [T1]),oK 7 (.call 137 [T5,T6]),oM 3 T7] [3])
.ret))
theorem fok166:FOK Tryz.prog 166 (8,ic166,[(.t 3)]):=aj5 [1000002] Tryz.func166
def ic167:IC :=
(.seq
(.reg 0 [oK 2 (.an3 T0),oM 3 (cB false)] [1,2])
(.seq
(.reg 1 [oQ 4 (.load (some 15) T1),oQ 5 (.load (some 5) T2),oK 6 (.call 139 [T4,T5]),oM 3 T6] [3])
.ret))
theorem fok167:FOK Tryz.prog 167 (7,ic167,[(.t 3)]):=aj5 [1000002] Tryz.func167
def ic181:IC :=
(.seq
(.reg 0 [oK 2 (.an3 T0),oK 3 (.an3 T1),oM 4 (cB false)] [2,3])
(.seq
(.am7 1 [oQ 5 (.load (some 15) T2),oK 6 (.ag6 254 [T5]),oQ 7 (.load (some 5) T3),oK 8 (.ag6 216 [T6,T7]),oM 4 T8] false [4])
.ret))
theorem fok181:FOK Tryz.prog 181 (9,ic181,[(.t 4)]):=aj5 ([1000002,1000003]++[216,254]) Tryz.func181 (by kernel_rfl) (by kernel_rfl) (by kernel_rfl) (by kernel_rfl)
def ic188:IC :=
(.seq
(.reg 0 [⟨(some 4),none,(.q (.mov (.c (.bool false))))⟩] [0,1])
(.seq
(.reg 1 [⟨(some 5),none,(.q (.mov T0))⟩,⟨(some 6),none,(.q (.mov T1))⟩,⟨(some 7),none,(.call 260 [T5,T6])⟩,⟨(some 8),none,(.q (.bin .geq T7 (.c (.int .i64 0))))⟩,⟨(some 4),none,(.q (.mov T8))⟩] [4])
.ret))
theorem fok188:FOK Tryz.prog 188 (9,ic188,[(.t 4)]):=.mk (pf:=[]) (an:=[(0,[0,1]),(1,[4])]) (by kernel_rfl) (ac3 Tryz.func188 (by kernel_rfl) (by kernel_rfl) (by kernel_rfl))
def ic189:IC :=
(.seq
(.reg 0 [⟨(some 2),none,(.q (.mov (.c (.bool false))))⟩] [0])
(.seq
(.reg 1 [⟨(some 3),none,(.q (.mov T0))⟩,⟨(some 4),none,(.q (.bin .geq T3 (.c (.int .u8 1))))⟩,⟨(some 5),none,(.q (.mov T4))⟩,⟨(some 6),(some ⟨5,true⟩),(.q (.mov T0))⟩,⟨(some 7),(some ⟨5,true⟩),(.q (.bin .leq T6 (.c (.int .u8 4))))⟩,⟨(some 8),none,(.q (.pick T5 T7 (.c (.bool false))))⟩,⟨(some 2),none,(.q (.mov T8))⟩] [2])
.ret))
theorem fok189:FOK Tryz.prog 189 (9,ic189,[(.t 2)]):=.mk (pf:=[]) (an:=[(0,[0]),(1,[2])]) (by kernel_rfl) (ac3 Tryz.func189 (by kernel_rfl) (by kernel_rfl) (by kernel_rfl))
def ic198:IC :=
(.seq
(.reg 0 [⟨(some 2),none,(.q (.mov (.c .aa1)))⟩] [0])
(.seq
(.seq
(.reg 1 [⟨(some 3),none,(.q (.mov T0))⟩,⟨(some 4),none,(.q (.ce9 (.slice 70) false T3))⟩] [0,4])
(.cond T4
(.seq
(.reg 2 [⟨(some 2),none,(.q (.mov (.c .aa1)))⟩] [2])
.ret)
.skip))
(.seq
(.reg 3 [⟨(some 5),none,(.bsl 5 0 [(.str []),(.int .u8 0),(.int .i64 0),(.str []),(.str [])] [])⟩,⟨(some 6),none,(.q (.mov T0))⟩,⟨(some 7),none,(.app 5 T5 T6)⟩,⟨(some 2),none,(.q (.mov T7))⟩] [2])
.ret)))
theorem fok198:FOK Tryz.prog 198 (8,ic198,[(.t 2)]):=.mk (pf:=[]) (an:=[(0,[0]),(1,[0,4]),(2,[2]),(3,[2])]) (by kernel_rfl) (ac3 Tryz.func198 (by kernel_rfl) (by kernel_rfl) (by kernel_rfl))
def ic199:IC :=
(.seq
(.reg 0 [⟨(some 2),none,(.q (.mov (.c .aa1)))⟩] [0])
(.seq
(.seq
(.reg 1 [⟨(some 3),none,(.q (.mov T0))⟩,⟨(some 4),none,(.q (.ce9 (.slice 9) false T3))⟩] [0,4])
(.cond T4
(.seq
(.reg 2 [⟨(some 2),none,(.q (.mov (.c .aa1)))⟩] [2])
.ret)
.skip))
(.seq
(.reg 3 [⟨(some 5),none,(.bsl 1 0 [(.str [])] [])⟩,⟨(some 6),none,(.q (.mov T0))⟩,⟨(some 7),none,(.app 1 T5 T6)⟩,⟨(some 2),none,(.q (.mov T7))⟩] [2])
.ret)))
theorem fok199:FOK Tryz.prog 199 (8,ic199,[(.t 2)]):=.mk (pf:=[]) (an:=[(0,[0]),(1,[0,4]),(2,[2]),(3,[2])]) (by kernel_rfl) (ac3 Tryz.func199 (by kernel_rfl) (by kernel_rfl) (by kernel_rfl))
def ic200:IC :=
(.seq
(.reg 0 [⟨(some 2),none,(.q (.mov (.c .aa1)))⟩] [0])
(.seq
(.seq
(.reg 1 [⟨(some 3),none,(.q (.mov T0))⟩,⟨(some 4),none,(.q (.ce9 (.slice 130) false T3))⟩] [0,4])
(.cond T4
(.seq
(.reg 2 [⟨(some 2),none,(.q (.mov (.c .aa1)))⟩] [2])
.ret)
.skip))
(.seq
(.reg 3 [⟨(some 5),none,(.bsl 7 0 [(.int .u8 0),(.str []),(.int .u8 0),(.int .i64 0),(.str []),(.str []),.aa1] [])⟩,⟨(some 6),none,(.q (.mov T0))⟩,⟨(some 7),none,(.app 7 T5 T6)⟩,⟨(some 2),none,(.q (.mov T7))⟩] [2])
.ret)))
theorem fok200:FOK Tryz.prog 200 (8,ic200,[(.t 2)]):=.mk (pf:=[]) (an:=[(0,[0]),(1,[0,4]),(2,[2]),(3,[2])]) (by kernel_rfl) (ac3 Tryz.func200 (by kernel_rfl) (by kernel_rfl) (by kernel_rfl))
def ic201:IC :=
(.seq
(.reg 0 [⟨(some 1),none,(.an3 T0)⟩,⟨(some 2),none,(.alloc [(.int .u8 0),(.str []),(.int .u8 0),(.int .i64 0),(.str []),(.str []),.aa1])⟩] [1,2])
(.seq
(.reg 1 [⟨(some 6),none,(.q (.ab2 0 T1))⟩,⟨(some 7),none,(.q (.load none T6))⟩,⟨(some 8),none,(.q (.ab2 1 T1))⟩,⟨(some 9),none,(.q (.load (some 5) T8))⟩,⟨(some 10),none,(.q (.bld [(.int .u8 0),(.str []),(.int .u8 0),(.int .i64 0),(.str []),(.str []),.aa1] [⟨0,⟨1,T7⟩⟩,⟨1,⟨5,T9⟩⟩]))⟩,⟨(some 3),none,(.alloc [(.int .u8 0),(.str []),(.int .u8 0),(.int .i64 0),(.str []),(.str []),.aa1])⟩,⟨none,none,(.store 7 T3 T10)⟩] [1,2,3])
(.seq
(.seq
(.reg 2 [⟨(some 11),none,(.q (.ab2 6 T1))⟩,⟨(some 12),none,(.q (.load none T11))⟩,⟨(some 13),none,(.q (.len 0 T12))⟩,⟨(some 14),none,(.q (.mov (.c (.int .i64 0))))⟩] [2,3,12,13,14])
(.block 0
(.loop
(.seq
(.reg 3 [⟨(some 15),none,(.q (.bin .lss T14 T13))⟩] [2,3,12,13,14,15])
(.seq
(.cond T15
.skip
(.exit 0))
(.seq
(.block 1
(.seq
(.reg 4 [⟨(some 16),none,(.q (.ab5 7 T12 T14))⟩,⟨(some 17),none,(.q (.load (some 7) T16))⟩,⟨(some 5),none,(.alloc [(.int .u8 0),(.str []),(.int .u8 0),(.int .i64 0),(.str []),(.str []),.aa1])⟩,⟨none,none,(.store 7 T5 T17)⟩] [2,3,5,12,13,14])
(.am7 5 [⟨(some 18),none,(.q (.ab2 6 T3))⟩,⟨(some 19),none,(.q (.load none T18))⟩,⟨(some 20),none,(.q (.load (some 7) T5))⟩,⟨(some 21),none,(.ag6 201 [T20])⟩,⟨(some 22),none,(.ao9 7 1 [(.int .u8 0),(.str []),(.int .u8 0),(.int .i64 0),(.str []),(.str []),.aa1] [⟨0,⟨7,T21⟩⟩])⟩,⟨(some 23),none,(.app 7 T19 T22)⟩,⟨(some 24),none,(.q (.ab2 6 T3))⟩,⟨none,none,(.store 1 T24 T23)⟩] true [2,3,12,13,14])))
(.reg 6 [⟨(some 25),none,(.q (.bin .add T14 (.c (.int .i64 1))))⟩,⟨(some 14),none,(.q (.mov T25))⟩] [2,3,12,13,14])))))))
(.seq
(.reg 7 [⟨(some 26),none,(.q (.load (some 7) T3))⟩,⟨none,none,(.store 7 T2 T26)⟩] [2])
.ret))))
theorem fok201:FOK Tryz.prog 201 (27,ic201,[(.cell (some 7) 2)]):=.mk (pf:=([1000001,1000022]++im8)) (an:=[(0,[1,2]),(1,[1,2,3]),(2,[2,3,12,13,14]),(3,[2,3,12,13,14,15]),(4,[2,3,5,12,13,14]),(5,[2,3,12,13,14]),(6,[2,3,12,13,14]),(7,[2])]) (by kernel_rfl) (ac3 Tryz.func201 (by kernel_rfl) (by kernel_rfl) (by kernel_rfl))
def ic202:IC :=
(.seq
(.reg 0 [oM 2 (.c .aa1)] [0,2])
(.seq
(.reg 1 [oK 3 (.alloc [.aa1])] [0,2,3])
(.seq
(.seq
(.reg 2 [oM 5 T0,oK 6 (.call 270 [T5])] [2,3,6])
(.block 0
(.bd6 T6 [7]
(.reg 3 [oK 4 (.alloc [(zU 0),(.str [])]),oN (.store 2 T4 T7)] [3,4])
(.block 1
(.reg 4 [oQ 8 (.load none T3),oQ 9 (.load (some 2) T4),oK 10 (.ao9 2 1 [(zU 0),(.str [])] [⟨0,⟨2,T9⟩⟩]),oK 11 (.app 2 T8 T10),oN (.store 1 T3 T11)] [])))))
(.seq
(.reg 5 [oQ 12 (.load none T3),oM 2 T12] [2])
.ret))))
theorem fok202:FOK Tryz.prog 202 (13,ic202,[(.t 2)]):=aj5 [1000010] Tryz.func202
def ic203:IC :=
(.seq
(.reg 0 [oK 2 (.an3 T0),oK 3 (.an3 T1),oM 4 (cI 0)] [2,3])
(.seq
(.reg 1 [oM 5 (cI 0)] [2,3,5])
(.seq
(.seq
(.reg 2 [oQ 6 (.ab2 0 T2),oQ 7 (.load none T6),oQ 8 (.bin .eql T7 (.c (zU 5))),oM 9 T8,gQ 10 9 true (.ab2 0 T3),gQ 11 9 true (.load none T10),gQ 12 9 true (.bin .eql T11 (.c (zU 5))),oQ 13 (.pick T9 T12 (cB false))] [2,3,5,13])
(.cond T13
(.reg 3 [oQ 14 (.ab2 1 T2),oQ 15 (.load none T14),oQ 16 (.len 1 T15),oQ 17 (.ab2 1 T3),oQ 18 (.load none T17),oQ 19 (.len 1 T18),oK 20 (.call 69 [T16,T19]),oM 5 T20] [2,3,5])
.skip))
(.seq
(.am7 4 [oQ 21 (.ab2 0 T2),oQ 22 (.load none T21),oQ 23 (.ab2 0 T3),oQ 24 (.load none T23),oK 25 (.ag6 272 [T22,T24]),oM 26 T5,oQ 27 (.ab2 1 T2),oQ 28 (.load none T27),oQ 29 (.ab2 1 T3),oQ 30 (.load none T29),oK 31 (.ag6 273 [T28,T30]),oK 32 (.ao9 1 3 [(zI 0)] [⟨0,⟨1,T25⟩⟩,⟨1,⟨1,T26⟩⟩,⟨2,⟨1,T31⟩⟩]),oK 33 (.ag6 271 [T32]),oM 4 T33] false [4])
.ret))))
theorem fok203:FOK Tryz.prog 203 (34,ic203,[(.t 4)]):=aj5 ([1000002,1000003,1000032]++[271,272,273]) Tryz.func203 (by kernel_rfl) (by kernel_rfl) (by kernel_rfl) (by kernel_rfl)
def ic205:IC :=
(.seq
(.reg 0 [⟨(some 2),none,(.q (.mov (.c (.bool false))))⟩] [0])
(.seq
(.seq
(.reg 1 [⟨(some 7),none,(.q (.mov T0))⟩,⟨(some 8),none,(.q (.len 1 T7))⟩,⟨(some 9),none,(.q (.bin .lss T8 (.c (.int .i64 1))))⟩,⟨(some 10),none,(.q (.mov T9))⟩,⟨(some 11),(some ⟨10,false⟩),(.q (.mov T0))⟩,⟨(some 12),(some ⟨10,false⟩),(.q (.len 1 T11))⟩,⟨(some 13),(some ⟨10,false⟩),(.q (.bin .gtr T12 (.c (.int .i64 64))))⟩,⟨(some 14),none,(.q (.pick T10 (.c (.bool true)) T13))⟩] [0,14])
(.cond T14
(.seq
(.reg 2 [⟨(some 2),none,(.q (.mov (.c (.bool false))))⟩] [2])
.ret)
.skip))
(.seq
(.seq
(.reg 3 [⟨(some 15),none,(.q (.mov T0))⟩,⟨(some 16),none,(.bd1 T15)⟩] [0,16])
(.block 0
(.loop
(.seq
(.reg 4 [⟨(some 17),none,(.cl9 T16)⟩,⟨(some 18),none,(.q (.ext 0 T17))⟩] [0,16,17,18])
(.seq
(.cond T18
.skip
(.exit 0))
(.block 1
(.seq
(.reg 5 [⟨(some 19),none,(.q (.ext 2 T17))⟩,⟨(some 4),none,(.q (.mov T19))⟩] [0,4,16])
(.seq
(.reg 6 [⟨(some 20),none,(.q (.mov T4))⟩,⟨(some 21),none,(.q (.bin .gtr T20 (.c (.int .i32 126))))⟩,⟨(some 22),none,(.q (.mov T21))⟩,⟨(some 23),(some ⟨22,false⟩),(.q (.mov T4))⟩,⟨(some 24),(some ⟨22,false⟩),(.q (.conv .u8 T23))⟩,⟨(some 25),(some ⟨22,false⟩),(.call 274 [(.c (.str [97,98,99,100,101,102,103,104,105,106,107,108,109,110,111,112,113,114,115,116,117,118,119,120,121,122,65,66,67,68,69,70,71,72,73,74,75,76,77,78,79,80,81,82,83,84,85,86,87,88,89,90,48,49,50,51,52,53,54,55,56,57,46,95,43,45,47,58,64,126,94])),T24])⟩,⟨(some 26),(some ⟨22,false⟩),(.q (.bin .lss T25 (.c (.int .i64 0))))⟩,⟨(some 27),none,(.q (.pick T22 (.c (.bool true)) T26))⟩] [0,16,27])
(.cond T27
(.seq
(.reg 7 [⟨(some 2),none,(.q (.mov (.c (.bool false))))⟩] [2])
.ret)
.skip)))))))))
(.seq
(.seq
(.reg 8 [⟨(some 28),none,(.q (.load (some 7) (.g 0)))⟩,⟨(some 29),none,(.q (.mov (.c (.int .i64 0))))⟩] [0,28,29])
(.block 2
(.loop
(.seq
(.reg 9 [⟨(some 30),none,(.q (.bin .lss T29 (.c (.int .i64 7))))⟩] [0,28,29,30])
(.seq
(.cond T30
.skip
(.exit 2))
(.seq
(.block 3
(.seq
(.reg 10 [⟨(some 31),none,(.q (.idx none 7 1 T28 T29))⟩,⟨(some 6),none,(.q (.mov T31))⟩] [0,6,28,29])
(.seq
(.reg 11 [⟨(some 32),none,(.q (.mov T0))⟩,⟨(some 33),none,(.q (.mov T6))⟩,⟨(some 34),none,(.q (.bin .eql T32 T33))⟩] [0,28,29,34])
(.cond T34
(.seq
(.reg 12 [⟨(some 2),none,(.q (.mov (.c (.bool false))))⟩] [2])
.ret)
.skip))))
(.reg 13 [⟨(some 35),none,(.q (.bin .add T29 (.c (.int .i64 1))))⟩,⟨(some 29),none,(.q (.mov T35))⟩] [0,28,29])))))))
(.seq
(.reg 14 [⟨(some 2),none,(.q (.mov (.c (.bool true))))⟩] [2])
.ret)))))
theorem fok205:FOK Tryz.prog 205 (36,ic205,[(.t 2)]):=.mk (pf:=[]) (an:=[(0,[0]),(1,[0,14]),(2,[2]),(3,[0,16]),(4,[0,16,17,18]),(5,[0,4,16]),(6,[0,16,27]),(7,[2]),(8,[0,28,29]),(9,[0,28,29,30]),(10,[0,6,28,29]),(11,[0,28,29,34]),(12,[2]),(13,[0,28,29]),(14,[2])]) (by kernel_rfl) (ac3 Tryz.func205 (by kernel_rfl) (by kernel_rfl) (by kernel_rfl))
def ic206:IC :=
(.seq
(.reg 0 [⟨(some 2),none,(.q (.mov (.c (.bool false))))⟩] [0])
(.seq
(.reg 1 [⟨(some 3),none,(.q (.mov T0))⟩,⟨(some 4),none,(.q (.bin .eql T3 (.c (.int .u8 0))))⟩,⟨(some 5),none,(.q (.mov T4))⟩,⟨(some 6),(some ⟨5,false⟩),(.q (.mov T0))⟩,⟨(some 7),(some ⟨5,false⟩),(.call 275 [T6])⟩,⟨(some 8),(some ⟨5,false⟩),(.q (.bin .neq T7 (.c (.str []))))⟩,⟨(some 9),none,(.q (.pick T5 (.c (.bool true)) T8))⟩,⟨(some 2),none,(.q (.mov T9))⟩] [2])
.ret))
theorem fok206:FOK Tryz.prog 206 (10,ic206,[(.t 2)]):=.mk (pf:=[]) (an:=[(0,[0]),(1,[2])]) (by kernel_rfl) (ac3 Tryz.func206 (by kernel_rfl) (by kernel_rfl) (by kernel_rfl))
def ic207:IC :=
(.seq
(.reg 0 [⟨(some 2),none,(.q (.mov (.c (.bool false))))⟩] [0])
(.seq
(.reg 1 [⟨(some 3),none,(.q (.mov T0))⟩,⟨(some 4),none,(.call 205 [T3])⟩,⟨(some 5),none,(.q (.mov T4))⟩,⟨(some 6),(some ⟨5,true⟩),(.q (.mov T0))⟩,⟨(some 7),(some ⟨5,true⟩),(.call 276 [T6,(.c (.str [47]))])⟩,⟨(some 8),none,(.q (.pick T5 T7 (.c (.bool false))))⟩,⟨(some 2),none,(.q (.mov T8))⟩] [2])
.ret))
theorem fok207:FOK Tryz.prog 207 (9,ic207,[(.t 2)]):=.mk (pf:=[]) (an:=[(0,[0]),(1,[2])]) (by kernel_rfl) (ac3 Tryz.func207 (by kernel_rfl) (by kernel_rfl) (by kernel_rfl))
def ic208:IC :=
(.seq
(.reg 0 [⟨(some 2),none,(.an3 T0)⟩,⟨(some 4),none,(.q (.mov (.c (.bool false))))⟩] [1,2])
(.seq
(.reg 1 [⟨(some 5),none,(.q (.ab2 0 T2))⟩,⟨(some 6),none,(.q (.load none T5))⟩,⟨(some 7),none,(.q (.bin .geq T6 (.c (.int .i64 0))))⟩,⟨(some 8),none,(.q (.mov T7))⟩,⟨(some 9),(some ⟨8,true⟩),(.q (.ab2 0 T2))⟩,⟨(some 10),(some ⟨8,true⟩),(.q (.load none T9))⟩,⟨(some 11),(some ⟨8,true⟩),(.q (.bin .leq T10 (.c (.int .i64 2147483647))))⟩,⟨(some 12),none,(.q (.pick T8 T11 (.c (.bool false))))⟩,⟨(some 13),none,(.q (.mov T12))⟩,⟨(some 14),(some ⟨13,true⟩),(.q (.ab2 1 T2))⟩,⟨(some 15),(some ⟨13,true⟩),(.q (.load none T14))⟩,⟨(some 16),(some ⟨13,true⟩),(.call 277 [T15])⟩,⟨(some 17),none,(.q (.pick T13 T16 (.c (.bool false))))⟩,⟨(some 18),none,(.q (.mov T17))⟩,⟨(some 19),(some ⟨18,true⟩),(.q (.ab2 2 T2))⟩,⟨(some 20),(some ⟨18,true⟩),(.q (.load none T19))⟩,⟨(some 21),(some ⟨18,true⟩),(.call 277 [T20])⟩,⟨(some 22),(some ⟨18,true⟩),(.q (.mov T21))⟩,⟨(some 23),(some ⟨22,false⟩),(.q (.mov T1))⟩,⟨(some 24),(some ⟨22,false⟩),(.q (.mov T23))⟩,⟨(some 25),(some ⟨24,true⟩),(.q (.ab2 2 T2))⟩,⟨(some 26),(some ⟨24,true⟩),(.q (.load none T25))⟩,⟨(some 27),(some ⟨24,true⟩),(.q (.bin .eql T26 (.c (.str []))))⟩,⟨(some 28),(some ⟨22,false⟩),(.q (.pick T24 T27 (.c (.bool false))))⟩,⟨(some 29),(some ⟨18,true⟩),(.q (.pick T22 (.c (.bool true)) T28))⟩,⟨(some 30),none,(.q (.pick T18 T29 (.c (.bool false))))⟩,⟨(some 4),none,(.q (.mov T30))⟩] [4])
.ret))
theorem fok208:FOK Tryz.prog 208 (31,ic208,[(.t 4)]):=.mk (pf:=[1000002]) (an:=[(0,[1,2]),(1,[4])]) (by kernel_rfl) (ac3 Tryz.func208 (by kernel_rfl) (by kernel_rfl) (by kernel_rfl))
def ic210:IC :=
(.seq
(.reg 0 [⟨(some 1),none,(.an3 T0)⟩,⟨(some 2),none,(.q (.mov (.c .ac8)))⟩] [1])
(.seq
(.reg 1 [⟨(some 8),none,.ay2⟩,⟨(some 9),none,(.q (.ab2 0 T1))⟩,⟨(some 10),none,(.q (.load none T9))⟩,⟨(some 11),none,(.q (.bld [] []))⟩,⟨none,none,(.bw1 2 T8 T10 T11)⟩,⟨(some 12),none,(.q (.mov T8))⟩,⟨(some 3),none,(.q (.mov T12))⟩] [1,3])
(.seq
(.seq
(.reg 2 [⟨(some 13),none,(.q (.ab2 6 T1))⟩,⟨(some 14),none,(.q (.load none T13))⟩,⟨(some 15),none,(.q (.len 0 T14))⟩,⟨(some 16),none,(.q (.mov (.c (.int .i64 0))))⟩] [1,3,14,15,16])
(.block 0
(.loop
(.seq
(.reg 3 [⟨(some 17),none,(.q (.bin .lss T16 T15))⟩] [1,3,14,15,16,17])
(.seq
(.cond T17
.skip
(.exit 0))
(.seq
(.block 1
(.seq
(.reg 4 [⟨(some 18),none,(.q (.ab5 5 T14 T16))⟩,⟨(some 19),none,(.q (.load (some 5) T18))⟩,⟨(some 5),none,(.alloc [(.str []),(.int .u8 0),(.int .i64 0),(.str []),(.str [])])⟩,⟨none,none,(.store 5 T5 T19)⟩] [1,3,5,14,15,16])
(.reg 5 [⟨(some 20),none,(.q (.mov T3))⟩,⟨(some 21),none,(.q (.ab2 0 T5))⟩,⟨(some 22),none,(.q (.load none T21))⟩,⟨(some 23),none,(.q (.bld [] []))⟩,⟨none,none,(.bw1 2 T20 T22 T23)⟩] [1,3,14,15,16])))
(.reg 6 [⟨(some 24),none,(.q (.bin .add T16 (.c (.int .i64 1))))⟩,⟨(some 16),none,(.q (.mov T24))⟩] [1,3,14,15,16])))))))
(.seq
(.seq
(.reg 7 [⟨(some 25),none,(.q (.ab2 14 T1))⟩,⟨(some 26),none,(.q (.load none T25))⟩,⟨(some 27),none,(.q (.len 0 T26))⟩,⟨(some 28),none,(.q (.mov (.c (.int .i64 0))))⟩] [3,26,27,28])
(.block 2
(.loop
(.seq
(.reg 8 [⟨(some 29),none,(.q (.bin .lss T28 T27))⟩] [3,26,27,28,29])
(.seq
(.cond T29
.skip
(.exit 2))
(.seq
(.block 3
(.seq
(.reg 9 [⟨(some 30),none,(.q (.ab5 1 T26 T28))⟩,⟨(some 31),none,(.q (.load none T30))⟩,⟨(some 7),none,(.q (.mov T31))⟩] [3,7,26,27,28])
(.reg 10 [⟨(some 32),none,(.q (.mov T3))⟩,⟨(some 33),none,(.q (.mov T7))⟩,⟨(some 34),none,(.q (.bld [] []))⟩,⟨none,none,(.bw1 2 T32 T33 T34)⟩] [3,26,27,28])))
(.reg 11 [⟨(some 35),none,(.q (.bin .add T28 (.c (.int .i64 1))))⟩,⟨(some 28),none,(.q (.mov T35))⟩] [3,26,27,28])))))))
(.seq
(.reg 12 [⟨(some 36),none,(.q (.mov T3))⟩,⟨(some 2),none,(.q (.mov T36))⟩] [2])
.ret)))))
theorem fok210:FOK Tryz.prog 210 (37,ic210,[(.t 2)]):=.mk (pf:=[1000001]) (an:=[(0,[1]),(1,[1,3]),(2,[1,3,14,15,16]),(3,[1,3,14,15,16,17]),(4,[1,3,5,14,15,16]),(5,[1,3,14,15,16]),(6,[1,3,14,15,16]),(7,[3,26,27,28]),(8,[3,26,27,28,29]),(9,[3,7,26,27,28]),(10,[3,26,27,28]),(11,[3,26,27,28]),(12,[2])]) (by kernel_rfl) (ac3 Tryz.func210 (by kernel_rfl) (by kernel_rfl) (by kernel_rfl))
def ic213:IC :=
(.seq
(.reg 0 [⟨(some 1),none,(.an3 T0)⟩,⟨(some 2),none,(.q (.mov (.c .af2)))⟩] [1])
(.seq
(.reg 1 [⟨(some 3),none,(.alloc [.af2])⟩] [1,3])
(.seq
(.reg 2 [⟨(some 4),none,(.q (.mkf 278 [] [T3]))⟩,⟨none,none,(.store 1 T3 T4)⟩] [1,3])
(.seq
(.reg 3 [⟨(some 5),none,(.q (.mkf 279 [] [T3,T1]))⟩,⟨(some 2),none,(.q (.mov T5))⟩] [2])
.ret))))
theorem fok213:FOK Tryz.prog 213 (6,ic213,[(.t 2)]):=.mk (pf:=[1000001]) (an:=[(0,[1]),(1,[1,3]),(2,[1,3]),(3,[2])]) (by kernel_rfl) (ac3 Tryz.func213 (by kernel_rfl) (by kernel_rfl) (by kernel_rfl))
def ic214:IC :=
(.seq
(.reg 0 [⟨(some 4),none,(.q (.mov (.c (.int .i64 0))))⟩] [0,1])
(.seq
(.seq
(.reg 1 [⟨(some 6),none,(.q (.mov T0))⟩,⟨(some 7),none,(.q (.len 0 T6))⟩,⟨(some 8),none,(.q (.mov (.c (.int .i64 0))))⟩] [0,1,7,8])
(.block 0
(.loop
(.seq
(.reg 2 [⟨(some 9),none,(.q (.bin .lss T8 T7))⟩] [0,1,7,8,9])
(.seq
(.cond T9
.skip
(.exit 0))
(.seq
(.block 1
(.seq
(.reg 3 [⟨(some 10),none,(.q (.mov T8))⟩,⟨(some 5),none,(.q (.mov T10))⟩] [0,1,5,7,8])
(.seq
(.reg 4 [⟨(some 11),none,(.q (.mov T1))⟩,⟨(some 12),none,(.q (.mov T0))⟩,⟨(some 13),none,(.q (.mov T5))⟩,⟨(some 14),none,(.q (.ab5 5 T12 T13))⟩,⟨(some 15),none,(.q (.load (some 5) T14))⟩,⟨(some 16),none,(.aj1 T11 [T15])⟩] [0,1,5,7,8,16])
(.cond T16
(.seq
(.reg 5 [⟨(some 17),none,(.q (.mov T5))⟩,⟨(some 4),none,(.q (.mov T17))⟩] [4])
.ret)
.skip))))
(.reg 6 [⟨(some 18),none,(.q (.bin .add T8 (.c (.int .i64 1))))⟩,⟨(some 8),none,(.q (.mov T18))⟩] [0,1,7,8])))))))
(.seq
(.reg 7 [⟨(some 4),none,(.q (.mov (.c (.int .i64 (-1)))))⟩] [4])
.ret)))
theorem fok214:FOK Tryz.prog 214 (19,ic214,[(.t 4)]):=.mk (pf:=[]) (an:=[(0,[0,1]),(1,[0,1,7,8]),(2,[0,1,7,8,9]),(3,[0,1,5,7,8]),(4,[0,1,5,7,8,16]),(5,[4]),(6,[0,1,7,8]),(7,[4])]) (by kernel_rfl) (ac3 Tryz.func214 (by kernel_rfl) (by kernel_rfl) (by kernel_rfl))
def ic215:IC :=
(.seq
(.reg 0 [oK 2 (.an3 T0),oM 3 (cB false)] [1,2])
(.seq
(.reg 1 [oQ 4 (.load (some 5) T2),oQ 5 (.load (some 5) T1),oK 6 (.call 216 [T4,T5]),oM 3 T6] [3])
.ret))
theorem fok215:FOK Tryz.prog 215 (7,ic215,[(.t 3)]):=aj5 [1000002] Tryz.func215
def ic216:IC :=
(.seq
(.reg 0 [oK 2 (.an3 T0),oK 3 (.an3 T1),oM 4 (cB false)] [2,3])
(.seq
(.reg 1 [oQ 5 (.ab2 0 T2),oQ 6 (.load none T5),oQ 7 (.ab2 0 T3),oQ 8 (.load none T7),oQ 9 (.bin .eql T6 T8),oM 10 T9,gQ 11 10 true (.load (some 5) T2),gQ 12 10 true (.load (some 5) T3),gK 13 10 true (.call 280 [T11,T12]),oQ 14 (.pick T10 T13 (cB false)),oM 4 T14] [4])
.ret))
theorem fok216:FOK Tryz.prog 216 (15,ic216,[(.t 4)]):=aj5 [1000002,1000003] Tryz.func216
def ic217:IC :=
(.seq
(.reg 0 [oM 4 (cB false)] [0,1])
(.seq
(.reg 1 [oM 5 T0,oM 6 T1,oK 7 (.call 281 [T5,T6]),oQ 8 (.bin .geq T7 (cI 0)),oM 4 T8] [4])
.ret))
theorem fok217:FOK Tryz.prog 217 (9,ic217,[(.t 4)]):=aj5 [] Tryz.func217
def ic218:IC :=
(.seq
(.reg 0 [⟨(some 4),none,(.q (.mov (.c (.int .i64 0))))⟩] [0,1])
(.seq
(.seq
(.reg 1 [⟨(some 6),none,(.q (.mov T0))⟩,⟨(some 7),none,(.q (.len 0 T6))⟩,⟨(some 8),none,(.q (.mov (.c (.int .i64 0))))⟩] [0,1,7,8])
(.block 0
(.loop
(.seq
(.reg 2 [⟨(some 9),none,(.q (.bin .lss T8 T7))⟩] [0,1,7,8,9])
(.seq
(.cond T9
.skip
(.exit 0))
(.seq
(.block 1
(.seq
(.reg 3 [⟨(some 10),none,(.q (.mov T8))⟩,⟨(some 5),none,(.q (.mov T10))⟩] [0,1,5,7,8])
(.seq
(.reg 4 [⟨(some 11),none,(.q (.mov T1))⟩,⟨(some 12),none,(.q (.mov T0))⟩,⟨(some 13),none,(.q (.mov T5))⟩,⟨(some 14),none,(.q (.ab5 7 T12 T13))⟩,⟨(some 15),none,(.q (.load (some 7) T14))⟩,⟨(some 16),none,(.aj1 T11 [T15])⟩] [0,1,5,7,8,16])
(.cond T16
(.seq
(.reg 5 [⟨(some 17),none,(.q (.mov T5))⟩,⟨(some 4),none,(.q (.mov T17))⟩] [4])
.ret)
.skip))))
(.reg 6 [⟨(some 18),none,(.q (.bin .add T8 (.c (.int .i64 1))))⟩,⟨(some 8),none,(.q (.mov T18))⟩] [0,1,7,8])))))))
(.seq
(.reg 7 [⟨(some 4),none,(.q (.mov (.c (.int .i64 (-1)))))⟩] [4])
.ret)))
theorem fok218:FOK Tryz.prog 218 (19,ic218,[(.t 4)]):=.mk (pf:=[]) (an:=[(0,[0,1]),(1,[0,1,7,8]),(2,[0,1,7,8,9]),(3,[0,1,5,7,8]),(4,[0,1,5,7,8,16]),(5,[4]),(6,[0,1,7,8]),(7,[4])]) (by kernel_rfl) (ac3 Tryz.func218 (by kernel_rfl) (by kernel_rfl) (by kernel_rfl))
def ic223:IC :=
(.seq
(.reg 0 [oM 10 T1,oQ 11 (.bin .add T10 (cI 1)),oM 8 T11] [0,1,2,3,8])
(.block 0
(.loop
(.seq
(.seq
(.reg 1 [oM 12 T8,oM 13 T2,oQ 14 (.bin .lss T12 T13)] [0,1,2,3,8,14])
(.cond T14
.skip
(.exit 0)))
(.seq
(.block 1
(.seq
(.reg 3 [oM 17 T8,oM 9 T17] [0,1,2,3,8,9])
(.block 2
(.loop
(.seq
(.seq
(.am7 4 [oM 18 T9,oM 19 T1,oQ 20 (.bin .gtr T18 T19),oM 21 T20,gQ 22 21 true (.mov T3),gQ 23 21 true (.mov T0),gQ 24 21 true (.mov T9),gQ 25 21 true (.ab5 1 T23 T24),gQ 26 21 true (.load none T25),gQ 27 21 true (.mov T0),gQ 28 21 true (.mov T9),gQ 29 21 true (.bin .sub T28 (cI 1)),gQ 30 21 true (.ab5 1 T27 T29),gQ 31 21 true (.load none T30),gK 32 21 true (.aj1 T22 [T26,T31]),gQ 33 21 true (.bin .lss T32 (cI 0)),oQ 34 (.pick T21 T33 (cB false))] false [0,1,2,3,8,9,34])
(.cond T34
.skip
(.exit 2)))
(.seq
(.block 3
(.am7 6 [oM 37 T0,oM 38 T9,oM 39 T0,oM 40 T9,oQ 41 (.bin .sub T40 (cI 1)),oM 42 T0,oM 43 T9,oQ 44 (.bin .sub T43 (cI 1)),oQ 45 (.ab5 1 T42 T44),oQ 46 (.load none T45),oM 47 T0,oM 48 T9,oQ 49 (.ab5 1 T47 T48),oQ 50 (.load none T49),oQ 51 (.ab5 1 T37 T38),oN (.store 1 T51 T46),oQ 52 (.ab5 1 T39 T41),oN (.store 1 T52 T50)] false [0,1,2,3,8,9]))
(.reg 5 [oM 35 T9,oQ 36 (.bin .sub T35 (cI 1)),oM 9 T36] [0,1,2,3,8,9])))))))
(.reg 2 [oM 15 T8,oQ 16 (.bin .add T15 (cI 1)),oM 8 T16] [0,1,2,3,8]))))))
theorem fok223:FOK Tryz.prog 223 (53,ic223,[]):=aj5 [] Tryz.func223
end Go.Id.Tryz
