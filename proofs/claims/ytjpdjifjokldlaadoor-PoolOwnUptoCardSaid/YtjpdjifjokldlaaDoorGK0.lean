/- The compiled codes of functions,written by a program out of the given form. Conditions: none. -/
import Derived.Test.YtjpdjifjokldlaaDoorFwTf
import Derived.Test.YtjpdjifjokldlaaDoorProg
set_option linter.all false
namespace Go.Id.Tryd
open Go Go.Id Go.Proofs
def fd2:List Nat:=List.range 120
def ic3:IC :=
(.seq
(.reg 0 [⟨(some 4),none,(.q (.mov (.c (.bool false))))⟩] [0,1])
(.seq
(.seq
(.reg 1 [⟨(some 23),none,(.q (.mov T0))⟩,⟨(some 24),none,(.q (.mov T1))⟩,⟨(some 25),none,(.call 4 [T23,T24])⟩,⟨(some 26),none,(.q (.mov T25))⟩,⟨(some 27),(some ⟨26,false⟩),(.call 5 [])⟩,⟨(some 28),(some ⟨26,false⟩),(.q (.not T27))⟩,⟨(some 29),none,(.q (.pick T26 (.c (.bool true)) T28))⟩] [0,1,29])
(.cond T29
(.seq
(.reg 2 [⟨(some 30),none,(.call 5 [])⟩,⟨(some 4),none,(.q (.mov T30))⟩] [4])
.ret)
.skip))
(.seq
(.reg 3 [⟨(some 5),none,(.q (.mov (.c .aa1)))⟩] [0,1,5])
(.seq
(.reg 4 [⟨(some 6),none,(.q (.mov (.c .aa1)))⟩] [0,1,5,6])
(.seq
(.seq
(.reg 5 [⟨(some 7),none,(.q (.mov (.c (.int .i64 0))))⟩] [0,1,5,6,7])
(.block 0
(.loop
(.seq
(.seq
(.reg 6 [⟨(some 31),none,(.q (.mov T7))⟩,⟨(some 32),none,(.q (.mov T1))⟩,⟨(some 33),none,(.q (.len 0 T32))⟩,⟨(some 34),none,(.q (.bin .lss T31 T33))⟩] [0,1,5,6,7,34])
(.cond T34
.skip
(.exit 0)))
(.seq
(.block 1
(.seq
(.reg 8 [⟨(some 37),none,(.q (.mov T5))⟩,⟨(some 38),none,(.q (.mov T1))⟩,⟨(some 39),none,(.q (.mov T7))⟩,⟨(some 40),none,(.q (.ab5 15 T38 T39))⟩,⟨(some 41),none,(.q (.load (some 15) T40))⟩,⟨(some 42),none,(.call 6 [T41])⟩,⟨(some 43),none,(.av2 15 1 [(.str []),(.int .i64 0),(.str []),(.str []),(.int .u8 0),(.str []),.aa1,.aa1,.aa1,.aa1,.aa1,.aa1,.aa1,.aa1,.aa1] [⟨0,⟨15,T42⟩⟩])⟩,⟨(some 44),none,(.app 15 T37 T43)⟩,⟨(some 5),none,(.q (.mov T44))⟩] [0,1,5,6,7])
(.reg 9 [⟨(some 45),none,(.q (.mov T6))⟩,⟨(some 46),none,(.q (.mov T1))⟩,⟨(some 47),none,(.q (.mov T7))⟩,⟨(some 48),none,(.q (.ab5 15 T46 T47))⟩,⟨(some 49),none,(.q (.load (some 15) T48))⟩,⟨(some 50),none,(.call 6 [T49])⟩,⟨(some 51),none,(.av2 15 1 [(.str []),(.int .i64 0),(.str []),(.str []),(.int .u8 0),(.str []),.aa1,.aa1,.aa1,.aa1,.aa1,.aa1,.aa1,.aa1,.aa1] [⟨0,⟨15,T50⟩⟩])⟩,⟨(some 52),none,(.app 15 T45 T51)⟩,⟨(some 6),none,(.q (.mov T52))⟩] [0,1,5,6,7])))
(.reg 7 [⟨(some 35),none,(.q (.mov T7))⟩,⟨(some 36),none,(.q (.bin .add T35 (.c (.int .i64 1))))⟩,⟨(some 7),none,(.q (.mov T36))⟩] [0,1,5,6,7]))))))
(.seq
(.reg 10 [⟨(some 54),none,(.q (.mov T0))⟩,⟨(some 55),none,(.q (.mov T5))⟩,⟨(some 56),none,(.call 7 [T54,T55])⟩,⟨(some 53),none,(.q (.mov T56))⟩,⟨(some 57),none,(.q (.ext 0 T53))⟩,⟨(some 58),none,(.q (.ext 1 T53))⟩,⟨(some 8),none,(.q (.mov T57))⟩,⟨(some 9),none,(.q (.mov T58))⟩] [5,6,8,9])
(.seq
(.seq
(.reg 11 [⟨(some 59),none,(.q (.mov T9))⟩,⟨(some 60),none,(.q (.bin .neq T59 (.c (.int .i64 0))))⟩] [5,6,8,60])
(.cond T60
(.seq
(.reg 12 [⟨(some 4),none,(.q (.mov (.c (.bool true))))⟩] [4])
.ret)
.skip))
(.seq
(.seq
(.reg 13 [⟨(some 10),none,(.q (.mov (.c (.int .i64 0))))⟩] [5,6,8,10])
(.block 2
(.loop
(.seq
(.seq
(.reg 14 [⟨(some 61),none,(.q (.mov T10))⟩,⟨(some 62),none,(.q (.mov T5))⟩,⟨(some 63),none,(.q (.len 0 T62))⟩,⟨(some 64),none,(.q (.bin .lss T61 T63))⟩] [5,6,8,10,64])
(.cond T64
.skip
(.exit 2)))
(.seq
(.block 3
(.seq
(.seq
(.reg 16 [⟨(some 11),none,(.q (.mov (.c (.int .i64 0))))⟩] [5,6,8,10,11])
(.block 4
(.loop
(.seq
(.seq
(.reg 17 [⟨(some 67),none,(.q (.mov T11))⟩,⟨(some 68),none,(.q (.mov T5))⟩,⟨(some 69),none,(.q (.mov T10))⟩,⟨(some 70),none,(.q (.ab5 15 T68 T69))⟩,⟨(some 71),none,(.q (.aa9 6 T70))⟩,⟨(some 72),none,(.q (.load none T71))⟩,⟨(some 73),none,(.q (.len 0 T72))⟩,⟨(some 74),none,(.q (.bin .lss T67 T73))⟩] [5,6,8,10,11,74])
(.cond T74
.skip
(.exit 4)))
(.seq
(.block 5
(.reg 19 [⟨(some 77),none,(.q (.mov T5))⟩,⟨(some 78),none,(.q (.mov T10))⟩,⟨(some 79),none,(.q (.ab5 15 T77 T78))⟩,⟨(some 80),none,(.q (.aa9 6 T79))⟩,⟨(some 81),none,(.q (.load none T80))⟩,⟨(some 82),none,(.q (.mov T11))⟩,⟨(some 83),none,(.q (.ab5 5 T81 T82))⟩,⟨(some 84),none,(.q (.aa9 0 T83))⟩,⟨none,none,(.store 1 T84 (.c (.str [63])))⟩] [5,6,8,10,11]))
(.reg 18 [⟨(some 75),none,(.q (.mov T11))⟩,⟨(some 76),none,(.q (.bin .add T75 (.c (.int .i64 1))))⟩,⟨(some 11),none,(.q (.mov T76))⟩] [5,6,8,10,11]))))))
(.seq
(.seq
(.reg 20 [⟨(some 12),none,(.q (.mov (.c (.int .i64 0))))⟩] [5,6,8,10,12])
(.block 6
(.loop
(.seq
(.seq
(.reg 21 [⟨(some 85),none,(.q (.mov T12))⟩,⟨(some 86),none,(.q (.mov T5))⟩,⟨(some 87),none,(.q (.mov T10))⟩,⟨(some 88),none,(.q (.ab5 15 T86 T87))⟩,⟨(some 89),none,(.q (.aa9 7 T88))⟩,⟨(some 90),none,(.q (.load none T89))⟩,⟨(some 91),none,(.q (.len 0 T90))⟩,⟨(some 92),none,(.q (.bin .lss T85 T91))⟩] [5,6,8,10,12,92])
(.cond T92
.skip
(.exit 6)))
(.seq
(.block 7
(.reg 23 [⟨(some 95),none,(.q (.mov T5))⟩,⟨(some 96),none,(.q (.mov T10))⟩,⟨(some 97),none,(.q (.ab5 15 T95 T96))⟩,⟨(some 98),none,(.q (.aa9 7 T97))⟩,⟨(some 99),none,(.q (.load none T98))⟩,⟨(some 100),none,(.q (.mov T12))⟩,⟨(some 101),none,(.q (.ab5 7 T99 T100))⟩,⟨(some 102),none,(.q (.aa9 0 T101))⟩,⟨none,none,(.store 1 T102 (.c (.int .u8 77)))⟩] [5,6,8,10,12]))
(.reg 22 [⟨(some 93),none,(.q (.mov T12))⟩,⟨(some 94),none,(.q (.bin .add T93 (.c (.int .i64 1))))⟩,⟨(some 12),none,(.q (.mov T94))⟩] [5,6,8,10,12]))))))
(.reg 24 [⟨(some 103),none,(.q (.mov T5))⟩,⟨(some 104),none,(.q (.mov T10))⟩,⟨(some 105),none,(.q (.ab5 15 T103 T104))⟩,⟨(some 106),none,(.q (.aa9 0 T105))⟩,⟨none,none,(.store 1 T106 (.c (.str [63])))⟩] [5,6,8,10]))))
(.reg 15 [⟨(some 65),none,(.q (.mov T10))⟩,⟨(some 66),none,(.q (.bin .add T65 (.c (.int .i64 1))))⟩,⟨(some 10),none,(.q (.mov T66))⟩] [5,6,8,10]))))))
(.seq
(.seq
(.reg 25 [⟨(some 13),none,(.q (.mov (.c (.int .i64 0))))⟩] [6,8,13])
(.block 8
(.loop
(.seq
(.seq
(.reg 26 [⟨(some 107),none,(.q (.mov T13))⟩,⟨(some 108),none,(.q (.bin .lss T107 (.c (.int .i64 2))))⟩] [6,8,13,108])
(.cond T108
.skip
(.exit 8)))
(.seq
(.block 9
(.seq
(.seq
(.reg 28 [⟨(some 14),none,(.q (.mov (.c (.int .i64 0))))⟩] [6,8,13,14])
(.block 10
(.loop
(.seq
(.seq
(.reg 29 [⟨(some 111),none,(.q (.mov T14))⟩,⟨(some 112),none,(.q (.mov T6))⟩,⟨(some 113),none,(.q (.len 0 T112))⟩,⟨(some 114),none,(.q (.bin .lss T111 T113))⟩] [6,8,13,14,114])
(.cond T114
.skip
(.exit 10)))
(.seq
(.block 11
(.seq
(.reg 31 [⟨(some 118),none,(.q (.mov T8))⟩,⟨(some 119),none,(.q (.mov T14))⟩,⟨(some 120),none,(.call 8 [T118,T119])⟩,⟨(some 117),none,(.q (.mov T120))⟩,⟨(some 121),none,(.q (.ext 0 T117))⟩,⟨(some 122),none,(.q (.ext 1 T117))⟩,⟨(some 15),none,(.alloc [(.str []),(.int .i64 0),(.str []),(.str []),(.int .u8 0),(.str []),.aa1,.aa1,.aa1,.aa1,.aa1,.aa1,.aa1,.aa1,.aa1])⟩,⟨none,none,(.store 15 T15 T121)⟩,⟨(some 16),none,(.q (.mov T122))⟩] [6,8,13,14,15,16])
(.seq
(.seq
(.dreg 32 [⟨(some 123),none,(.q (.mov T16))⟩,⟨(some 124),none,(.q (.bin .neq T123 (.c (.int .i64 0))))⟩,⟨(some 125),none,(.q (.mov T124))⟩,⟨(some 126),(some ⟨125,false⟩),(.q (.load (some 15) T15))⟩,⟨(some 127),(some ⟨125,false⟩),(.q (.mov T6))⟩,⟨(some 128),(some ⟨125,false⟩),(.q (.mov T14))⟩,⟨(some 129),(some ⟨125,false⟩),(.q (.ab5 15 T127 T128))⟩,⟨(some 130),(some ⟨125,false⟩),(.q (.load (some 15) T129))⟩,⟨(some 131),(some ⟨125,false⟩),(.call 9 [T126,T130])⟩,⟨(some 132),(some ⟨125,false⟩),(.q (.not T131))⟩,⟨(some 133),none,(.q (.pick T125 (.c (.bool true)) T132))⟩] false [6,8,13,14,15,133])
(.cond T133
(.seq
(.reg 33 [⟨(some 4),none,(.q (.mov (.c (.bool false))))⟩] [4])
.ret)
.skip))
(.seq
(.seq
(.reg 34 [⟨(some 17),none,(.q (.mov (.c (.int .i64 0))))⟩] [6,8,13,14,15,17])
(.block 12
(.loop
(.seq
(.seq
(.reg 35 [⟨(some 134),none,(.q (.mov T17))⟩,⟨(some 135),none,(.q (.aa9 6 T15))⟩,⟨(some 136),none,(.q (.load none T135))⟩,⟨(some 137),none,(.q (.len 0 T136))⟩,⟨(some 138),none,(.q (.bin .lss T134 T137))⟩] [6,8,13,14,15,17,138])
(.cond T138
.skip
(.exit 12)))
(.seq
(.block 13
(.reg 37 [⟨(some 141),none,(.q (.aa9 6 T15))⟩,⟨(some 142),none,(.q (.load none T141))⟩,⟨(some 143),none,(.q (.mov T17))⟩,⟨(some 144),none,(.q (.ab5 5 T142 T143))⟩,⟨(some 145),none,(.q (.aa9 0 T144))⟩,⟨none,none,(.store 1 T145 (.c (.str [63])))⟩] [6,8,13,14,15,17]))
(.reg 36 [⟨(some 139),none,(.q (.mov T17))⟩,⟨(some 140),none,(.q (.bin .add T139 (.c (.int .i64 1))))⟩,⟨(some 17),none,(.q (.mov T140))⟩] [6,8,13,14,15,17]))))))
(.seq
(.seq
(.reg 38 [⟨(some 18),none,(.q (.mov (.c (.int .i64 0))))⟩] [6,8,13,14,15,18])
(.block 14
(.loop
(.seq
(.seq
(.reg 39 [⟨(some 146),none,(.q (.mov T18))⟩,⟨(some 147),none,(.q (.aa9 7 T15))⟩,⟨(some 148),none,(.q (.load none T147))⟩,⟨(some 149),none,(.q (.len 0 T148))⟩,⟨(some 150),none,(.q (.bin .lss T146 T149))⟩] [6,8,13,14,15,18,150])
(.cond T150
.skip
(.exit 14)))
(.seq
(.block 15
(.reg 41 [⟨(some 153),none,(.q (.aa9 7 T15))⟩,⟨(some 154),none,(.q (.load none T153))⟩,⟨(some 155),none,(.q (.mov T18))⟩,⟨(some 156),none,(.q (.ab5 7 T154 T155))⟩,⟨(some 157),none,(.q (.aa9 0 T156))⟩,⟨none,none,(.store 1 T157 (.c (.int .u8 77)))⟩] [6,8,13,14,15,18]))
(.reg 40 [⟨(some 151),none,(.q (.mov T18))⟩,⟨(some 152),none,(.q (.bin .add T151 (.c (.int .i64 1))))⟩,⟨(some 18),none,(.q (.mov T152))⟩] [6,8,13,14,15,18]))))))
(.seq
(.seq
(.reg 42 [⟨(some 19),none,(.q (.mov (.c (.int .i64 0))))⟩] [6,8,13,14,15,19])
(.block 16
(.loop
(.seq
(.seq
(.reg 43 [⟨(some 158),none,(.q (.mov T19))⟩,⟨(some 159),none,(.q (.aa9 14 T15))⟩,⟨(some 160),none,(.q (.load none T159))⟩,⟨(some 161),none,(.q (.len 0 T160))⟩,⟨(some 162),none,(.q (.bin .lss T158 T161))⟩] [6,8,13,14,15,19,162])
(.cond T162
.skip
(.exit 16)))
(.seq
(.block 17
(.reg 45 [⟨(some 165),none,(.q (.aa9 14 T15))⟩,⟨(some 166),none,(.q (.load none T165))⟩,⟨(some 167),none,(.q (.mov T19))⟩,⟨(some 168),none,(.q (.ab5 1 T166 T167))⟩,⟨none,none,(.store 1 T168 (.c (.str [63])))⟩] [6,8,13,14,15,19]))
(.reg 44 [⟨(some 163),none,(.q (.mov T19))⟩,⟨(some 164),none,(.q (.bin .add T163 (.c (.int .i64 1))))⟩,⟨(some 19),none,(.q (.mov T164))⟩] [6,8,13,14,15,19]))))))
(.seq
(.reg 46 [⟨(some 169),none,(.q (.mov T8))⟩,⟨(some 170),none,(.q (.mov T6))⟩,⟨(some 171),none,(.q (.mov T14))⟩,⟨(some 172),none,(.q (.ab5 15 T170 T171))⟩,⟨(some 173),none,(.q (.aa9 0 T172))⟩,⟨(some 174),none,(.q (.load none T173))⟩,⟨(some 175),none,(.call 10 [T169,T174])⟩,⟨(some 20),none,(.q (.mov T175))⟩] [6,8,13,14,20])
(.seq
(.seq
(.reg 47 [⟨(some 176),none,(.q (.mov T20))⟩,⟨(some 177),none,(.q (.len 0 T176))⟩,⟨(some 178),none,(.q (.bin .eql T177 (.c (.int .i64 0))))⟩,⟨(some 179),none,(.q (.mov T178))⟩,⟨(some 180),(some ⟨179,false⟩),(.q (.mov T20))⟩,⟨(some 181),(some ⟨179,false⟩),(.q (.ab5 1 T180 (.c (.int .i64 0))))⟩,⟨(some 182),(some ⟨179,false⟩),(.q (.load none T181))⟩,⟨(some 183),(some ⟨179,false⟩),(.q (.bin .lss T182 (.c (.int .i64 0))))⟩,⟨(some 184),none,(.q (.pick T179 (.c (.bool true)) T183))⟩] [6,8,13,14,20,184])
(.cond T184
(.seq
(.reg 48 [⟨(some 4),none,(.q (.mov (.c (.bool false))))⟩] [4])
.ret)
.skip))
(.reg 49 [⟨(some 185),none,(.q (.mov T20))⟩,⟨(some 186),none,(.q (.ab5 1 T185 (.c (.int .i64 0))))⟩,⟨none,none,(.store 1 T186 (.c (.int .i64 (-7))))⟩] [6,8,13,14])))))))))
(.reg 30 [⟨(some 115),none,(.q (.mov T14))⟩,⟨(some 116),none,(.q (.bin .add T115 (.c (.int .i64 1))))⟩,⟨(some 14),none,(.q (.mov T116))⟩] [6,8,13,14]))))))
(.seq
(.reg 50 [⟨(some 187),none,(.q (.mov T8))⟩,⟨(some 188),none,(.call 11 [T187])⟩,⟨(some 21),none,(.q (.mov T188))⟩] [6,8,13,21])
(.seq
(.reg 51 [⟨(some 22),none,(.q (.mov (.c (.int .i64 0))))⟩] [6,8,13,21,22])
(.block 18
(.loop
(.seq
(.seq
(.reg 52 [⟨(some 189),none,(.q (.mov T22))⟩,⟨(some 190),none,(.q (.mov T21))⟩,⟨(some 191),none,(.q (.len 0 T190))⟩,⟨(some 192),none,(.q (.bin .lss T189 T191))⟩] [6,8,13,21,22,192])
(.cond T192
.skip
(.exit 18)))
(.seq
(.block 19
(.reg 54 [⟨(some 195),none,(.q (.mov T21))⟩,⟨(some 196),none,(.q (.mov T22))⟩,⟨(some 197),none,(.q (.ab5 1 T195 T196))⟩,⟨none,none,(.store 1 T197 (.c (.str [63])))⟩] [6,8,13,21,22]))
(.reg 53 [⟨(some 193),none,(.q (.mov T22))⟩,⟨(some 194),none,(.q (.bin .add T193 (.c (.int .i64 1))))⟩,⟨(some 22),none,(.q (.mov T194))⟩] [6,8,13,21,22])))))))))
(.reg 27 [⟨(some 109),none,(.q (.mov T13))⟩,⟨(some 110),none,(.q (.bin .add T109 (.c (.int .i64 1))))⟩,⟨(some 13),none,(.q (.mov T110))⟩] [6,8,13]))))))
(.seq
(.reg 55 [⟨(some 4),none,(.q (.mov (.c (.bool true))))⟩] [4])
.ret))))))))))
theorem fok3:FOK Tryd.prog 3 (198,ic3,[(.t 4)]):=.mk (pf:=[1000043,1000051]) (an:=[(0,[0,1]),(1,[0,1,29]),(2,[4]),(3,[0,1,5]),(4,[0,1,5,6]),(5,[0,1,5,6,7]),(6,[0,1,5,6,7,34]),(7,[0,1,5,6,7]),(8,[0,1,5,6,7]),(9,[0,1,5,6,7]),(10,[5,6,8,9]),(11,[5,6,8,60]),(12,[4]),(13,[5,6,8,10]),(14,[5,6,8,10,64]),(15,[5,6,8,10]),(16,[5,6,8,10,11]),(17,[5,6,8,10,11,74]),(18,[5,6,8,10,11]),(19,[5,6,8,10,11]),(20,[5,6,8,10,12]),(21,[5,6,8,10,12,92]),(22,[5,6,8,10,12]),(23,[5,6,8,10,12]),(24,[5,6,8,10]),(25,[6,8,13]),(26,[6,8,13,108]),(27,[6,8,13]),(28,[6,8,13,14]),(29,[6,8,13,14,114]),(30,[6,8,13,14]),(31,[6,8,13,14,15,16]),(32,[6,8,13,14,15,133]),(33,[4]),(34,[6,8,13,14,15,17]),(35,[6,8,13,14,15,17,138]),(36,[6,8,13,14,15,17]),(37,[6,8,13,14,15,17]),(38,[6,8,13,14,15,18]),(39,[6,8,13,14,15,18,150]),(40,[6,8,13,14,15,18]),(41,[6,8,13,14,15,18]),(42,[6,8,13,14,15,19]),(43,[6,8,13,14,15,19,162]),(44,[6,8,13,14,15,19]),(45,[6,8,13,14,15,19]),(46,[6,8,13,14,20]),(47,[6,8,13,14,20,184]),(48,[4]),(49,[6,8,13,14]),(50,[6,8,13,21]),(51,[6,8,13,21,22]),(52,[6,8,13,21,22,192]),(53,[6,8,13,21,22]),(54,[6,8,13,21,22]),(55,[4])]) (by kernel_rfl) (ab6 Tryd.func3 (by kernel_rfl) (by kernel_rfl) (by kernel_rfl))
def ic4:IC :=
(.seq
(.reg 0 [⟨(some 4),none,(.q (.mov (.c (.bool false))))⟩] [0,1])
(.seq
(.seq
(.reg 1 [⟨(some 9),none,(.q (.mov T0))⟩,⟨(some 10),none,(.q (.len 0 T9))⟩,⟨(some 11),none,(.q (.bin .gtr T10 (.c (.int .i64 30))))⟩,⟨(some 12),none,(.q (.mov T11))⟩,⟨(some 13),(some ⟨12,false⟩),(.q (.mov T1))⟩,⟨(some 14),(some ⟨12,false⟩),(.q (.len 0 T13))⟩,⟨(some 15),(some ⟨12,false⟩),(.q (.bin .gtr T14 (.c (.int .i64 40))))⟩,⟨(some 16),none,(.q (.pick T12 (.c (.bool true)) T15))⟩] [0,1,16])
(.cond T16
(.seq
(.reg 2 [⟨(some 4),none,(.q (.mov (.c (.bool true))))⟩] [4])
.ret)
.skip))
(.seq
(.reg 3 [⟨(some 17),none,(.q (.mov T1))⟩,⟨(some 18),none,(.q (.len 0 T17))⟩,⟨(some 5),none,(.q (.mov T18))⟩] [0,1,5])
(.seq
(.seq
(.reg 4 [⟨(some 6),none,(.q (.mov (.c (.int .i64 0))))⟩] [0,1,5,6])
(.block 0
(.loop
(.seq
(.seq
(.reg 5 [⟨(some 19),none,(.q (.mov T6))⟩,⟨(some 20),none,(.q (.mov T1))⟩,⟨(some 21),none,(.q (.len 0 T20))⟩,⟨(some 22),none,(.q (.bin .lss T19 T21))⟩] [0,1,5,6,22])
(.cond T22
.skip
(.exit 0)))
(.seq
(.block 1
(.seq
(.reg 7 [⟨(some 25),none,(.q (.mov T1))⟩,⟨(some 26),none,(.q (.mov T6))⟩,⟨(some 27),none,(.q (.ab5 15 T25 T26))⟩,⟨(some 28),none,(.q (.load (some 15) T27))⟩,⟨(some 29),none,(.call 12 [T28])⟩] [0,1,5,6,29])
(.cond T29
(.seq
(.reg 8 [⟨(some 4),none,(.q (.mov (.c (.bool true))))⟩] [4])
.ret)
.skip)))
(.reg 6 [⟨(some 23),none,(.q (.mov T6))⟩,⟨(some 24),none,(.q (.bin .add T23 (.c (.int .i64 1))))⟩,⟨(some 6),none,(.q (.mov T24))⟩] [0,1,5,6]))))))
(.seq
(.seq
(.reg 9 [⟨(some 7),none,(.q (.mov (.c (.int .i64 0))))⟩] [0,5,7])
(.block 2
(.loop
(.seq
(.seq
(.reg 10 [⟨(some 30),none,(.q (.mov T7))⟩,⟨(some 31),none,(.q (.mov T0))⟩,⟨(some 32),none,(.q (.len 0 T31))⟩,⟨(some 33),none,(.q (.bin .lss T30 T32))⟩] [0,5,7,33])
(.cond T33
.skip
(.exit 2)))
(.seq
(.block 3
(.seq
(.reg 12 [⟨(some 36),none,(.q (.mov T5))⟩,⟨(some 37),none,(.q (.mov T0))⟩,⟨(some 38),none,(.q (.mov T7))⟩,⟨(some 39),none,(.q (.ab5 2 T37 T38))⟩,⟨(some 40),none,(.q (.aa9 1 T39))⟩,⟨(some 41),none,(.q (.load none T40))⟩,⟨(some 42),none,(.q (.len 0 T41))⟩,⟨(some 43),none,(.q (.bin .add T36 T42))⟩,⟨(some 5),none,(.q (.mov T43))⟩] [0,5,7])
(.seq
(.seq
(.reg 13 [⟨(some 44),none,(.q (.mov T5))⟩,⟨(some 45),none,(.q (.bin .gtr T44 (.c (.int .i64 80))))⟩] [0,5,7,45])
(.cond T45
(.seq
(.reg 14 [⟨(some 4),none,(.q (.mov (.c (.bool true))))⟩] [4])
.ret)
.skip))
(.seq
(.reg 15 [⟨(some 8),none,(.q (.mov (.c (.int .i64 0))))⟩] [0,5,7,8])
(.block 4
(.loop
(.seq
(.seq
(.reg 16 [⟨(some 46),none,(.q (.mov T8))⟩,⟨(some 47),none,(.q (.mov T0))⟩,⟨(some 48),none,(.q (.mov T7))⟩,⟨(some 49),none,(.q (.ab5 2 T47 T48))⟩,⟨(some 50),none,(.q (.aa9 1 T49))⟩,⟨(some 51),none,(.q (.load none T50))⟩,⟨(some 52),none,(.q (.len 0 T51))⟩,⟨(some 53),none,(.q (.bin .lss T46 T52))⟩] [0,5,7,8,53])
(.cond T53
.skip
(.exit 4)))
(.seq
(.block 5
(.seq
(.reg 18 [⟨(some 56),none,(.q (.mov T0))⟩,⟨(some 57),none,(.q (.mov T7))⟩,⟨(some 58),none,(.q (.ab5 2 T56 T57))⟩,⟨(some 59),none,(.q (.aa9 1 T58))⟩,⟨(some 60),none,(.q (.load none T59))⟩,⟨(some 61),none,(.q (.mov T8))⟩,⟨(some 62),none,(.q (.ab5 15 T60 T61))⟩,⟨(some 63),none,(.q (.load (some 15) T62))⟩,⟨(some 64),none,(.call 12 [T63])⟩] [0,5,7,8,64])
(.cond T64
(.seq
(.reg 19 [⟨(some 4),none,(.q (.mov (.c (.bool true))))⟩] [4])
.ret)
.skip)))
(.reg 17 [⟨(some 54),none,(.q (.mov T8))⟩,⟨(some 55),none,(.q (.bin .add T54 (.c (.int .i64 1))))⟩,⟨(some 8),none,(.q (.mov T55))⟩] [0,5,7,8])))))))))
(.reg 11 [⟨(some 34),none,(.q (.mov T7))⟩,⟨(some 35),none,(.q (.bin .add T34 (.c (.int .i64 1))))⟩,⟨(some 7),none,(.q (.mov T35))⟩] [0,5,7]))))))
(.seq
(.reg 20 [⟨(some 4),none,(.q (.mov (.c (.bool false))))⟩] [4])
.ret))))))
theorem fok4:FOK Tryd.prog 4 (65,ic4,[(.t 4)]):=.mk (pf:=[]) (an:=[(0,[0,1]),(1,[0,1,16]),(2,[4]),(3,[0,1,5]),(4,[0,1,5,6]),(5,[0,1,5,6,22]),(6,[0,1,5,6]),(7,[0,1,5,6,29]),(8,[4]),(9,[0,5,7]),(10,[0,5,7,33]),(11,[0,5,7]),(12,[0,5,7]),(13,[0,5,7,45]),(14,[4]),(15,[0,5,7,8]),(16,[0,5,7,8,53]),(17,[0,5,7,8]),(18,[0,5,7,8,64]),(19,[4]),(20,[4])]) (by kernel_rfl) (ab6 Tryd.func4 (by kernel_rfl) (by kernel_rfl) (by kernel_rfl))
def ic5:IC :=
(.seq
(.reg 0 [⟨(some 0),none,(.q (.mov (.c (.bool false))))⟩] [])
(.seq
(.reg 1 [⟨(some 6),none,(.call 13 [(.c (.str [98]))])⟩,⟨(some 7),none,(.call 13 [(.c (.str [99]))])⟩,⟨(some 8),none,(.av2 15 2 [(.str []),(.int .i64 0),(.str []),(.str []),(.int .u8 0),(.str []),.aa1,.aa1,.aa1,.aa1,.aa1,.aa1,.aa1,.aa1,.aa1] [⟨0,⟨15,T6⟩⟩,⟨15,⟨15,T7⟩⟩])⟩,⟨(some 9),none,(.q (.bld [(.int .i64 0),.aa1] [⟨0,⟨1,(.c (.int .i64 5))⟩⟩,⟨1,⟨1,T8⟩⟩]))⟩,⟨(some 10),none,(.call 13 [(.c (.str [97]))])⟩,⟨(some 11),none,(.av2 15 1 [(.str []),(.int .i64 0),(.str []),(.str []),(.int .u8 0),(.str []),.aa1,.aa1,.aa1,.aa1,.aa1,.aa1,.aa1,.aa1,.aa1] [⟨0,⟨15,T10⟩⟩])⟩,⟨(some 12),none,(.q (.bld [(.int .i64 0),.aa1] [⟨0,⟨1,(.c (.int .i64 7))⟩⟩,⟨1,⟨1,T11⟩⟩]))⟩,⟨(some 13),none,(.av2 2 2 [(.int .i64 0),.aa1] [⟨0,⟨2,T9⟩⟩,⟨2,⟨2,T12⟩⟩])⟩,⟨(some 14),none,(.call 13 [(.c (.str [97]))])⟩,⟨(some 15),none,(.av2 15 1 [(.str []),(.int .i64 0),(.str []),(.str []),(.int .u8 0),(.str []),.aa1,.aa1,.aa1,.aa1,.aa1,.aa1,.aa1,.aa1,.aa1] [⟨0,⟨15,T14⟩⟩])⟩,⟨(some 16),none,(.call 7 [T13,T15])⟩,⟨(some 5),none,(.q (.mov T16))⟩,⟨(some 17),none,(.q (.ext 0 T5))⟩,⟨(some 18),none,(.q (.ext 1 T5))⟩,⟨(some 1),none,(.q (.mov T17))⟩,⟨(some 2),none,(.q (.mov T18))⟩] [1,2])
(.seq
(.seq
(.reg 2 [⟨(some 19),none,(.q (.mov T2))⟩,⟨(some 20),none,(.q (.bin .neq T19 (.c (.int .i64 0))))⟩] [1,20])
(.cond T20
(.seq
(.reg 3 [⟨(some 0),none,(.q (.mov (.c (.bool false))))⟩] [0])
.ret)
.skip))
(.seq
(.reg 4 [⟨(some 22),none,(.q (.mov T1))⟩,⟨(some 23),none,(.call 8 [T22,(.c (.int .i64 2))])⟩,⟨(some 21),none,(.q (.mov T23))⟩,⟨(some 24),none,(.q (.ext 0 T21))⟩,⟨(some 25),none,(.q (.ext 1 T21))⟩,⟨(some 3),none,(.alloc [(.str []),(.int .i64 0),(.str []),(.str []),(.int .u8 0),(.str []),.aa1,.aa1,.aa1,.aa1,.aa1,.aa1,.aa1,.aa1,.aa1])⟩,⟨none,none,(.store 15 T3 T24)⟩,⟨(some 4),none,(.q (.mov T25))⟩] [1,3,4])
(.seq
(.reg 5 [⟨(some 26),none,(.q (.mov T1))⟩,⟨(some 27),none,(.call 14 [T26])⟩,⟨(some 28),none,(.q (.bin .eql T27 (.c (.int .i64 4))))⟩,⟨(some 29),none,(.q (.mov T28))⟩,⟨(some 30),(some ⟨29,true⟩),(.q (.mov T1))⟩,⟨(some 31),(some ⟨29,true⟩),(.call 15 [T30])⟩,⟨(some 32),(some ⟨29,true⟩),(.q (.bin .eql T31 (.c (.int .i64 1))))⟩,⟨(some 33),none,(.q (.pick T29 T32 (.c (.bool false))))⟩,⟨(some 34),none,(.q (.mov T33))⟩,⟨(some 35),(some ⟨34,true⟩),(.q (.mov T4))⟩,⟨(some 36),(some ⟨34,true⟩),(.q (.bin .eql T35 (.c (.int .i64 0))))⟩,⟨(some 37),none,(.q (.pick T34 T36 (.c (.bool false))))⟩,⟨(some 38),none,(.q (.mov T37))⟩,⟨(some 39),(some ⟨38,true⟩),(.q (.aa9 0 T3))⟩,⟨(some 40),(some ⟨38,true⟩),(.q (.load none T39))⟩,⟨(some 41),(some ⟨38,true⟩),(.q (.bin .eql T40 (.c (.str [99]))))⟩,⟨(some 42),none,(.q (.pick T38 T41 (.c (.bool false))))⟩,⟨(some 43),none,(.q (.mov T42))⟩,⟨(some 44),(some ⟨43,true⟩),(.q (.mov T1))⟩,⟨(some 45),(some ⟨43,true⟩),(.call 16 [T44,(.c (.int .i64 2))])⟩,⟨(some 46),(some ⟨43,true⟩),(.q (.bin .eql T45 (.c (.int .i64 0))))⟩,⟨(some 47),none,(.q (.pick T43 T46 (.c (.bool false))))⟩,⟨(some 48),none,(.q (.mov T47))⟩,⟨(some 49),(some ⟨48,true⟩),(.q (.mov T1))⟩,⟨(some 50),(some ⟨48,true⟩),(.call 17 [T49,(.c (.int .i64 2))])⟩,⟨(some 51),(some ⟨48,true⟩),(.q (.bin .eql T50 (.c (.int .i64 5))))⟩,⟨(some 52),none,(.q (.pick T48 T51 (.c (.bool false))))⟩,⟨(some 53),none,(.q (.mov T52))⟩,⟨(some 54),(some ⟨53,true⟩),(.q (.mov T1))⟩,⟨(some 55),(some ⟨53,true⟩),(.call 17 [T54,(.c (.int .i64 0))])⟩,⟨(some 56),(some ⟨53,true⟩),(.q (.bin .eql T55 (.c (.int .i64 1025))))⟩,⟨(some 57),none,(.q (.pick T53 T56 (.c (.bool false))))⟩,⟨(some 58),none,(.q (.mov T57))⟩,⟨(some 59),(some ⟨58,true⟩),(.q (.mov T1))⟩,⟨(some 60),(some ⟨58,true⟩),(.call 10 [T59,(.c (.str [97]))])⟩,⟨(some 61),(some ⟨58,true⟩),(.av2 1 2 [(.int .i64 0)] [⟨0,⟨1,(.c (.int .i64 0))⟩⟩,⟨1,⟨1,(.c (.int .i64 3))⟩⟩])⟩,⟨(some 62),(some ⟨58,true⟩),(.call 18 [T60,T61])⟩,⟨(some 63),none,(.q (.pick T58 T62 (.c (.bool false))))⟩,⟨(some 0),none,(.q (.mov T63))⟩] [0])
.ret)))))
theorem fok5:FOK Tryd.prog 5 (64,ic5,[(.t 0)]):=.mk (pf:=[1000008,1000011,1000013,1000015,1000061]) (an:=[(1,[1,2]),(2,[1,20]),(3,[0]),(4,[1,3,4]),(5,[0])]) (by kernel_rfl) (ab6 Tryd.func5 (by kernel_rfl) (by kernel_rfl) (by kernel_rfl))
def ic6:IC :=
(.seq
(.reg 0 [⟨(some 1),none,(.ar7 T0)⟩,⟨(some 2),none,(.alloc [(.str []),(.int .i64 0),(.str []),(.str []),(.int .u8 0),(.str []),.aa1,.aa1,.aa1,.aa1,.aa1,.aa1,.aa1,.aa1,.aa1])⟩] [1,2])
(.seq
(.dreg 1 [⟨(some 3),none,(.q (.aa9 0 T1))⟩,⟨(some 4),none,(.q (.load none T3))⟩,⟨(some 5),none,(.q (.aa9 1 T1))⟩,⟨(some 6),none,(.q (.load (some 3) T5))⟩,⟨(some 7),none,(.q (.aa9 4 T1))⟩,⟨(some 8),none,(.q (.load none T7))⟩,⟨(some 9),none,(.q (.aa9 5 T1))⟩,⟨(some 10),none,(.q (.load none T9))⟩,⟨(some 11),none,(.bsl 5 0 [(.str []),(.int .u8 0),(.int .i64 0),(.str []),(.str [])] [])⟩,⟨(some 12),none,(.q (.aa9 6 T1))⟩,⟨(some 13),none,(.q (.load none T12))⟩,⟨(some 14),none,(.app 5 T11 T13)⟩,⟨(some 15),none,(.q (.aa9 7 T1))⟩,⟨(some 16),none,(.q (.load none T15))⟩,⟨(some 17),none,(.aj4 19 [T16])⟩,⟨(some 18),none,(.q (.aa9 8 T1))⟩,⟨(some 19),none,(.q (.load none T18))⟩,⟨(some 20),none,(.aj4 19 [T19])⟩,⟨(some 21),none,(.bsl 5 0 [(.str []),(.int .u8 0),(.int .i64 0),(.str []),(.str [])] [])⟩,⟨(some 22),none,(.q (.aa9 9 T1))⟩,⟨(some 23),none,(.q (.load none T22))⟩,⟨(some 24),none,(.app 5 T21 T23)⟩,⟨(some 25),none,(.q (.aa9 10 T1))⟩,⟨(some 26),none,(.q (.load none T25))⟩,⟨(some 27),none,(.aj4 19 [T26])⟩,⟨(some 28),none,(.q (.aa9 11 T1))⟩,⟨(some 29),none,(.q (.load none T28))⟩,⟨(some 30),none,(.aj4 19 [T29])⟩,⟨(some 31),none,(.q (.aa9 12 T1))⟩,⟨(some 32),none,(.q (.load none T31))⟩,⟨(some 33),none,(.aj4 19 [T32])⟩,⟨(some 34),none,(.q (.aa9 13 T1))⟩,⟨(some 35),none,(.q (.load none T34))⟩,⟨(some 36),none,(.aj4 19 [T35])⟩,⟨(some 37),none,(.bsl 1 0 [(.str [])] [])⟩,⟨(some 38),none,(.q (.aa9 14 T1))⟩,⟨(some 39),none,(.q (.load none T38))⟩,⟨(some 40),none,(.app 1 T37 T39)⟩,⟨(some 41),none,(.q (.bld [(.str []),(.int .i64 0),(.str []),(.str []),(.int .u8 0),(.str []),.aa1,.aa1,.aa1,.aa1,.aa1,.aa1,.aa1,.aa1,.aa1] [⟨0,⟨1,T4⟩⟩,⟨1,⟨3,T6⟩⟩,⟨4,⟨1,T8⟩⟩,⟨5,⟨1,T10⟩⟩,⟨6,⟨1,T14⟩⟩,⟨7,⟨1,T17⟩⟩,⟨8,⟨1,T20⟩⟩,⟨9,⟨1,T24⟩⟩,⟨10,⟨1,T27⟩⟩,⟨11,⟨1,T30⟩⟩,⟨12,⟨1,T33⟩⟩,⟨13,⟨1,T36⟩⟩,⟨14,⟨1,T40⟩⟩]))⟩,⟨none,none,(.store 15 T2 T41)⟩] true [2])
.ret))
theorem fok6:FOK Tryd.prog 6 (42,ic6,[(.cell (some 15) 2)]):=.mk (pf:=([1000001]++fd2)) (an:=[(0,[1,2]),(1,[2])]) (by kernel_rfl) (ab6 Tryd.func6 (by kernel_rfl) (by kernel_rfl) (by kernel_rfl))
def ic7:IC :=
(.seq
(.reg 0 [⟨(some 4),none,(.q (.mov (.c .ad3)))⟩,⟨(some 5),none,(.q (.mov (.c (.int .i64 0))))⟩] [0,1])
(.seq
(.reg 1 [⟨(some 14),none,(.q (.mov T1))⟩,⟨(some 15),none,(.q (.len 0 T14))⟩,⟨(some 6),none,(.q (.mov T15))⟩] [0,1,6])
(.seq
(.seq
(.reg 2 [⟨(some 16),none,(.q (.mov T0))⟩,⟨(some 17),none,(.q (.len 0 T16))⟩,⟨(some 18),none,(.q (.mov (.c (.int .i64 0))))⟩] [0,1,6,16,17,18])
(.block 0
(.loop
(.seq
(.reg 3 [⟨(some 19),none,(.q (.bin .lss T18 T17))⟩] [0,1,6,16,17,18,19])
(.seq
(.cond T19
.skip
(.exit 0))
(.seq
(.block 1
(.seq
(.reg 4 [⟨(some 20),none,(.q (.ab5 2 T16 T18))⟩,⟨(some 21),none,(.q (.load (some 2) T20))⟩,⟨(some 8),none,(.alloc [(.int .i64 0),.aa1])⟩,⟨none,none,(.store 2 T8 T21)⟩] [0,1,6,8,16,17,18])
(.reg 5 [⟨(some 22),none,(.q (.mov T6))⟩,⟨(some 23),none,(.q (.aa9 1 T8))⟩,⟨(some 24),none,(.q (.load none T23))⟩,⟨(some 25),none,(.q (.len 0 T24))⟩,⟨(some 26),none,(.q (.bin .add T22 T25))⟩,⟨(some 6),none,(.q (.mov T26))⟩] [0,1,6,16,17,18])))
(.reg 6 [⟨(some 27),none,(.q (.bin .add T18 (.c (.int .i64 1))))⟩,⟨(some 18),none,(.q (.mov T27))⟩] [0,1,6,16,17,18])))))))
(.seq
(.seq
(.reg 7 [⟨(some 28),none,(.q (.mov T0))⟩,⟨(some 29),none,(.q (.len 0 T28))⟩,⟨(some 30),none,(.q (.bin .gtr T29 (.c (.int .i64 16))))⟩,⟨(some 31),none,(.q (.mov T30))⟩,⟨(some 32),(some ⟨31,false⟩),(.q (.mov T6))⟩,⟨(some 33),(some ⟨31,false⟩),(.q (.bin .gtr T32 (.c (.int .i64 256))))⟩,⟨(some 34),none,(.q (.pick T31 (.c (.bool true)) T33))⟩] [0,1,34])
(.cond T34
(.seq
(.reg 8 [⟨(some 4),none,(.q (.mov (.c .ad3)))⟩,⟨(some 5),none,(.q (.mov (.c (.int .i64 40))))⟩] [4,5])
.ret)
.skip))
(.seq
(.reg 9 [⟨(some 35),none,(.q (.mov T1))⟩,⟨(some 36),none,(.q (.len 0 T35))⟩,⟨(some 37),none,.bm5⟩,⟨(some 38),none,(.q (.bld [.aa1,(.int .i64 0),.af9] [⟨1,⟨1,T36⟩⟩,⟨2,⟨1,T37⟩⟩]))⟩,⟨(some 39),none,(.box T38)⟩,⟨(some 9),none,(.q (.mov T39))⟩] [0,1,9])
(.seq
(.seq
(.reg 10 [⟨(some 40),none,(.q (.mov T9))⟩,⟨(some 41),none,(.q (.mov T1))⟩,⟨(some 42),none,(.call 20 [T40,T41,(.c (.int .i64 (-1))),(.c (.int .i64 1025))])⟩,⟨(some 10),none,(.q (.mov T42))⟩] [0,9,10])
(.seq
(.reg 11 [⟨(some 43),none,(.q (.mov T10))⟩,⟨(some 44),none,(.q (.bin .neq T43 (.c (.int .i64 0))))⟩] [0,9,10,44])
(.cond T44
(.seq
(.reg 12 [⟨(some 45),none,(.q (.mov T10))⟩,⟨(some 4),none,(.q (.mov (.c .ad3)))⟩,⟨(some 5),none,(.q (.mov T45))⟩] [4,5])
.ret)
.skip)))
(.seq
(.seq
(.reg 13 [⟨(some 46),none,(.q (.mov T0))⟩,⟨(some 47),none,(.q (.len 0 T46))⟩,⟨(some 48),none,(.q (.mov (.c (.int .i64 0))))⟩] [9,46,47,48])
(.block 2
(.loop
(.seq
(.reg 14 [⟨(some 49),none,(.q (.bin .lss T48 T47))⟩] [9,46,47,48,49])
(.seq
(.cond T49
.skip
(.exit 2))
(.seq
(.block 3
(.seq
(.reg 15 [⟨(some 50),none,(.q (.mov T48))⟩,⟨(some 51),none,(.q (.ab5 2 T46 T48))⟩,⟨(some 52),none,(.q (.load (some 2) T51))⟩,⟨(some 12),none,(.alloc [(.int .i64 0),.aa1])⟩,⟨(some 11),none,(.q (.mov T50))⟩,⟨none,none,(.store 2 T12 T52)⟩] [9,11,12,46,47,48])
(.seq
(.seq
(.reg 16 [⟨(some 53),none,(.q (.aa9 0 T12))⟩,⟨(some 54),none,(.q (.load none T53))⟩,⟨(some 55),none,(.q (.bin .lss T54 (.c (.int .i64 0))))⟩,⟨(some 56),none,(.q (.mov T55))⟩,⟨(some 57),(some ⟨56,false⟩),(.q (.aa9 0 T12))⟩,⟨(some 58),(some ⟨56,false⟩),(.q (.load none T57))⟩,⟨(some 59),(some ⟨56,false⟩),(.q (.bin .gtr T58 (.c (.int .i64 1024))))⟩,⟨(some 60),none,(.q (.pick T56 (.c (.bool true)) T59))⟩] [9,11,12,46,47,48,60])
(.cond T60
(.seq
(.reg 17 [⟨(some 4),none,(.q (.mov (.c .ad3)))⟩,⟨(some 5),none,(.q (.mov (.c (.int .i64 4))))⟩] [4,5])
.ret)
.skip))
(.seq
(.reg 18 [⟨(some 61),none,(.q (.mov T9))⟩,⟨(some 62),none,(.q (.aa9 1 T12))⟩,⟨(some 63),none,(.q (.load none T62))⟩,⟨(some 64),none,(.q (.mov T11))⟩,⟨(some 65),none,(.q (.aa9 0 T12))⟩,⟨(some 66),none,(.q (.load none T65))⟩,⟨(some 67),none,(.call 20 [T61,T63,T64,T66])⟩,⟨(some 13),none,(.q (.mov T67))⟩] [9,13,46,47,48])
(.seq
(.reg 19 [⟨(some 68),none,(.q (.mov T13))⟩,⟨(some 69),none,(.q (.bin .neq T68 (.c (.int .i64 0))))⟩] [9,13,46,47,48,69])
(.cond T69
(.seq
(.reg 20 [⟨(some 70),none,(.q (.mov T13))⟩,⟨(some 4),none,(.q (.mov (.c .ad3)))⟩,⟨(some 5),none,(.q (.mov T70))⟩] [4,5])
.ret)
.skip))))))
(.reg 21 [⟨(some 71),none,(.q (.bin .add T48 (.c (.int .i64 1))))⟩,⟨(some 48),none,(.q (.mov T71))⟩] [9,46,47,48])))))))
(.seq
(.reg 22 [⟨(some 72),none,(.q (.mov T9))⟩,⟨(some 4),none,(.q (.mov T72))⟩,⟨(some 5),none,(.q (.mov (.c (.int .i64 0))))⟩] [4,5])
.ret))))))))
theorem fok7:FOK Tryd.prog 7 (73,ic7,[(.t 4),(.t 5)]):=.mk (pf:=[]) (an:=[(0,[0,1]),(1,[0,1,6]),(2,[0,1,6,16,17,18]),(3,[0,1,6,16,17,18,19]),(4,[0,1,6,8,16,17,18]),(5,[0,1,6,16,17,18]),(6,[0,1,6,16,17,18]),(7,[0,1,34]),(8,[4,5]),(9,[0,1,9]),(10,[0,9,10]),(11,[0,9,10,44]),(12,[4,5]),(13,[9,46,47,48]),(14,[9,46,47,48,49]),(15,[9,11,12,46,47,48]),(16,[9,11,12,46,47,48,60]),(17,[4,5]),(18,[9,13,46,47,48]),(19,[9,13,46,47,48,69]),(20,[4,5]),(21,[9,46,47,48]),(22,[4,5])]) (by kernel_rfl) (ab6 Tryd.func7 (by kernel_rfl) (by kernel_rfl) (by kernel_rfl))
def ic8:IC :=
(.seq
(.reg 0 [⟨(some 4),none,(.alloc [(.str []),(.int .i64 0),(.str []),(.str []),(.int .u8 0),(.str []),.aa1,.aa1,.aa1,.aa1,.aa1,.aa1,.aa1,.aa1,.aa1])⟩,⟨(some 5),none,(.q (.mov (.c (.int .i64 0))))⟩] [0,1,4])
(.seq
(.seq
(.reg 1 [⟨(some 6),none,(.q (.mov T0))⟩,⟨(some 7),none,(.q (.bg7 (.pointer 60) false T6))⟩,⟨(some 8),none,(.q (.mov T7))⟩,⟨(some 9),(some ⟨8,false⟩),(.q (.mov T0))⟩,⟨(some 10),(some ⟨8,false⟩),(.q (.au1 T9))⟩,⟨(some 11),(some ⟨8,false⟩),(.q (.aa9 0 T10))⟩,⟨(some 12),(some ⟨8,false⟩),(.q (.load none T11))⟩,⟨(some 13),(some ⟨8,false⟩),(.q (.mov T1))⟩,⟨(some 14),(some ⟨8,false⟩),(.call 21 [T12,T13])⟩,⟨(some 15),(some ⟨8,false⟩),(.q (.not T14))⟩,⟨(some 16),none,(.q (.pick T8 (.c (.bool true)) T15))⟩] [0,1,4,16])
(.cond T16
(.seq
(.reg 2 [⟨(some 17),none,(.q (.bld [(.str []),(.int .i64 0),(.str []),(.str []),(.int .u8 0),(.str []),.aa1,.aa1,.aa1,.aa1,.aa1,.aa1,.aa1,.aa1,.aa1] []))⟩,⟨none,none,(.store 15 T4 T17)⟩,⟨(some 5),none,(.q (.mov (.c (.int .i64 5))))⟩] [4,5])
.ret)
.skip))
(.seq
(.reg 3 [⟨(some 18),none,(.q (.mov T0))⟩,⟨(some 19),none,(.q (.au1 T18))⟩,⟨(some 20),none,(.q (.aa9 0 T19))⟩,⟨(some 21),none,(.q (.load none T20))⟩,⟨(some 22),none,(.q (.mov T1))⟩,⟨(some 23),none,(.q (.ab5 17 T21 T22))⟩,⟨(some 24),none,(.q (.aa9 0 T23))⟩,⟨(some 25),none,(.q (.load (some 15) T24))⟩,⟨(some 26),none,(.call 22 [T25])⟩,⟨none,none,(.store 15 T4 T26)⟩,⟨(some 5),none,(.q (.mov (.c (.int .i64 0))))⟩] [4,5])
.ret)))
theorem fok8:FOK Tryd.prog 8 (27,ic8,[(.cell (some 15) 4),(.t 5)]):=.mk (pf:=[]) (an:=[(0,[0,1,4]),(1,[0,1,4,16]),(2,[4,5]),(3,[4,5])]) (by kernel_rfl) (ab6 Tryd.func8 (by kernel_rfl) (by kernel_rfl) (by kernel_rfl))
def ic9:IC :=
(.seq
(.reg 0 [⟨(some 2),none,(.ar7 T0)⟩,⟨(some 3),none,(.ar7 T1)⟩,⟨(some 4),none,(.q (.mov (.c (.bool false))))⟩] [2,3])
(.seq
(.reg 1 [⟨(some 5),none,(.q (.aa9 0 T2))⟩,⟨(some 6),none,(.q (.load none T5))⟩,⟨(some 7),none,(.q (.aa9 0 T3))⟩,⟨(some 8),none,(.q (.load none T7))⟩,⟨(some 9),none,(.q (.bin .eql T6 T8))⟩,⟨(some 10),none,(.q (.mov T9))⟩,⟨(some 11),(some ⟨10,true⟩),(.q (.aa9 1 T2))⟩,⟨(some 12),(some ⟨10,true⟩),(.q (.load (some 3) T11))⟩,⟨(some 13),(some ⟨10,true⟩),(.q (.aa9 1 T3))⟩,⟨(some 14),(some ⟨10,true⟩),(.q (.load (some 3) T13))⟩,⟨(some 15),(some ⟨10,true⟩),(.q (.eqs [1,2,2] true false T12 T14))⟩,⟨(some 16),none,(.q (.pick T10 T15 (.c (.bool false))))⟩,⟨(some 17),none,(.q (.mov T16))⟩,⟨(some 18),(some ⟨17,true⟩),(.q (.aa9 4 T2))⟩,⟨(some 19),(some ⟨17,true⟩),(.q (.load none T18))⟩,⟨(some 20),(some ⟨17,true⟩),(.q (.aa9 4 T3))⟩,⟨(some 21),(some ⟨17,true⟩),(.q (.load none T20))⟩,⟨(some 22),(some ⟨17,true⟩),(.q (.bin .eql T19 T21))⟩,⟨(some 23),none,(.q (.pick T17 T22 (.c (.bool false))))⟩,⟨(some 24),none,(.q (.mov T23))⟩,⟨(some 25),(some ⟨24,true⟩),(.q (.aa9 5 T2))⟩,⟨(some 26),(some ⟨24,true⟩),(.q (.load none T25))⟩,⟨(some 27),(some ⟨24,true⟩),(.q (.aa9 5 T3))⟩,⟨(some 28),(some ⟨24,true⟩),(.q (.load none T27))⟩,⟨(some 29),(some ⟨24,true⟩),(.q (.bin .eql T26 T28))⟩,⟨(some 30),none,(.q (.pick T24 T29 (.c (.bool false))))⟩,⟨(some 31),none,(.q (.mov T30))⟩,⟨(some 32),(some ⟨31,true⟩),(.q (.aa9 6 T2))⟩,⟨(some 33),(some ⟨31,true⟩),(.q (.load none T32))⟩,⟨(some 34),(some ⟨31,true⟩),(.q (.aa9 6 T3))⟩,⟨(some 35),(some ⟨31,true⟩),(.q (.load none T34))⟩,⟨(some 36),(some ⟨31,true⟩),(.call 23 [T33,T35])⟩,⟨(some 37),none,(.q (.pick T31 T36 (.c (.bool false))))⟩,⟨(some 38),none,(.q (.mov T37))⟩,⟨(some 39),(some ⟨38,true⟩),(.q (.aa9 7 T2))⟩,⟨(some 40),(some ⟨38,true⟩),(.q (.load none T39))⟩,⟨(some 41),(some ⟨38,true⟩),(.q (.aa9 7 T3))⟩,⟨(some 42),(some ⟨38,true⟩),(.q (.load none T41))⟩,⟨(some 43),(some ⟨38,true⟩),(.call 24 [T40,T42])⟩,⟨(some 44),none,(.q (.pick T38 T43 (.c (.bool false))))⟩,⟨(some 45),none,(.q (.mov T44))⟩,⟨(some 46),(some ⟨45,true⟩),(.q (.aa9 8 T2))⟩,⟨(some 47),(some ⟨45,true⟩),(.q (.load none T46))⟩,⟨(some 48),(some ⟨45,true⟩),(.q (.aa9 8 T3))⟩,⟨(some 49),(some ⟨45,true⟩),(.q (.load none T48))⟩,⟨(some 50),(some ⟨45,true⟩),(.call 24 [T47,T49])⟩,⟨(some 51),none,(.q (.pick T45 T50 (.c (.bool false))))⟩,⟨(some 52),none,(.q (.mov T51))⟩,⟨(some 53),(some ⟨52,true⟩),(.q (.aa9 9 T2))⟩,⟨(some 54),(some ⟨52,true⟩),(.q (.load none T53))⟩,⟨(some 55),(some ⟨52,true⟩),(.q (.aa9 9 T3))⟩,⟨(some 56),(some ⟨52,true⟩),(.q (.load none T55))⟩,⟨(some 57),(some ⟨52,true⟩),(.call 23 [T54,T56])⟩,⟨(some 58),none,(.q (.pick T52 T57 (.c (.bool false))))⟩,⟨(some 59),none,(.q (.mov T58))⟩,⟨(some 60),(some ⟨59,true⟩),(.q (.aa9 10 T2))⟩,⟨(some 61),(some ⟨59,true⟩),(.q (.load none T60))⟩,⟨(some 62),(some ⟨59,true⟩),(.q (.aa9 10 T3))⟩,⟨(some 63),(some ⟨59,true⟩),(.q (.load none T62))⟩,⟨(some 64),(some ⟨59,true⟩),(.call 24 [T61,T63])⟩,⟨(some 65),none,(.q (.pick T59 T64 (.c (.bool false))))⟩,⟨(some 66),none,(.q (.mov T65))⟩,⟨(some 67),(some ⟨66,true⟩),(.q (.aa9 11 T2))⟩,⟨(some 68),(some ⟨66,true⟩),(.q (.load none T67))⟩,⟨(some 69),(some ⟨66,true⟩),(.q (.aa9 11 T3))⟩,⟨(some 70),(some ⟨66,true⟩),(.q (.load none T69))⟩,⟨(some 71),(some ⟨66,true⟩),(.call 24 [T68,T70])⟩,⟨(some 72),none,(.q (.pick T66 T71 (.c (.bool false))))⟩,⟨(some 73),none,(.q (.mov T72))⟩,⟨(some 74),(some ⟨73,true⟩),(.q (.aa9 12 T2))⟩,⟨(some 75),(some ⟨73,true⟩),(.q (.load none T74))⟩,⟨(some 76),(some ⟨73,true⟩),(.q (.aa9 12 T3))⟩,⟨(some 77),(some ⟨73,true⟩),(.q (.load none T76))⟩,⟨(some 78),(some ⟨73,true⟩),(.call 24 [T75,T77])⟩,⟨(some 79),none,(.q (.pick T73 T78 (.c (.bool false))))⟩,⟨(some 80),none,(.q (.mov T79))⟩,⟨(some 81),(some ⟨80,true⟩),(.q (.aa9 13 T2))⟩,⟨(some 82),(some ⟨80,true⟩),(.q (.load none T81))⟩,⟨(some 83),(some ⟨80,true⟩),(.q (.aa9 13 T3))⟩,⟨(some 84),(some ⟨80,true⟩),(.q (.load none T83))⟩,⟨(some 85),(some ⟨80,true⟩),(.call 24 [T82,T84])⟩,⟨(some 86),none,(.q (.pick T80 T85 (.c (.bool false))))⟩,⟨(some 87),none,(.q (.mov T86))⟩,⟨(some 88),(some ⟨87,true⟩),(.q (.aa9 14 T2))⟩,⟨(some 89),(some ⟨87,true⟩),(.q (.load none T88))⟩,⟨(some 90),(some ⟨87,true⟩),(.q (.aa9 14 T3))⟩,⟨(some 91),(some ⟨87,true⟩),(.q (.load none T90))⟩,⟨(some 92),(some ⟨87,true⟩),(.call 25 [T89,T91])⟩,⟨(some 93),none,(.q (.pick T87 T92 (.c (.bool false))))⟩,⟨(some 4),none,(.q (.mov T93))⟩] [4])
.ret))
theorem fok9:FOK Tryd.prog 9 (94,ic9,[(.t 4)]):=.mk (pf:=[1000002,1000003]) (an:=[(0,[2,3]),(1,[4])]) (by kernel_rfl) (ab6 Tryd.func9 (by kernel_rfl) (by kernel_rfl) (by kernel_rfl))
def ic10:IC :=
(.seq
(.reg 0 [⟨(some 4),none,(.q (.mov (.c .aa1)))⟩] [0,1])
(.seq
(.seq
(.reg 1 [⟨(some 5),none,(.q (.mov T0))⟩,⟨(some 6),none,(.q (.bg7 (.pointer 60) false T5))⟩] [0,1,6])
(.cond T6
(.seq
(.reg 2 [⟨(some 4),none,(.q (.mov (.c .aa1)))⟩] [4])
.ret)
.skip))
(.seq
(.reg 3 [⟨(some 7),none,(.q (.mov T0))⟩,⟨(some 8),none,(.q (.au1 T7))⟩,⟨(some 9),none,(.q (.aa9 2 T8))⟩,⟨(some 10),none,(.q (.load none T9))⟩,⟨(some 11),none,(.q (.mov T1))⟩,⟨(some 12),none,(.q (.lkp 2 .aa1 false T10 T11))⟩,⟨(some 13),none,(.call 26 [T12])⟩,⟨(some 4),none,(.q (.mov T13))⟩] [4])
.ret)))
theorem fok10:FOK Tryd.prog 10 (14,ic10,[(.t 4)]):=.mk (pf:=[]) (an:=[(0,[0,1]),(1,[0,1,6]),(2,[4]),(3,[4])]) (by kernel_rfl) (ab6 Tryd.func10 (by kernel_rfl) (by kernel_rfl) (by kernel_rfl))
def ic11:IC :=
(.seq
(.reg 0 [⟨(some 2),none,(.q (.mov (.c .aa1)))⟩] [0])
(.seq
(.seq
(.reg 1 [⟨(some 3),none,(.q (.mov T0))⟩,⟨(some 4),none,(.q (.bg7 (.pointer 60) false T3))⟩] [0,4])
(.cond T4
(.seq
(.reg 2 [⟨(some 2),none,(.q (.mov (.c .aa1)))⟩] [2])
.ret)
.skip))
(.seq
(.reg 3 [⟨(some 5),none,(.q (.mov T0))⟩,⟨(some 6),none,(.q (.au1 T5))⟩,⟨(some 7),none,(.q (.aa9 2 T6))⟩,⟨(some 8),none,(.q (.load none T7))⟩,⟨(some 9),none,(.call 28 [T8])⟩,⟨(some 10),none,(.call 27 [T9])⟩,⟨(some 2),none,(.q (.mov T10))⟩] [2])
.ret)))
theorem fok11:FOK Tryd.prog 11 (11,ic11,[(.t 2)]):=.mk (pf:=[]) (an:=[(0,[0]),(1,[0,4]),(2,[2]),(3,[2])]) (by kernel_rfl) (ab6 Tryd.func11 (by kernel_rfl) (by kernel_rfl) (by kernel_rfl))
def ic12:IC :=
(.seq
(.reg 0 [⟨(some 1),none,(.ar7 T0)⟩,⟨(some 2),none,(.q (.mov (.c (.bool false))))⟩] [1])
(.seq
(.seq
(.reg 1 [⟨(some 8),none,(.q (.aa9 6 T1))⟩,⟨(some 9),none,(.q (.load none T8))⟩,⟨(some 10),none,(.q (.len 0 T9))⟩,⟨(some 11),none,(.q (.bin .gtr T10 (.c (.int .i64 100))))⟩,⟨(some 12),none,(.q (.mov T11))⟩,⟨(some 13),(some ⟨12,false⟩),(.q (.aa9 9 T1))⟩,⟨(some 14),(some ⟨12,false⟩),(.q (.load none T13))⟩,⟨(some 15),(some ⟨12,false⟩),(.q (.len 0 T14))⟩,⟨(some 16),(some ⟨12,false⟩),(.q (.bin .gtr T15 (.c (.int .i64 100))))⟩,⟨(some 17),none,(.q (.pick T12 (.c (.bool true)) T16))⟩,⟨(some 18),none,(.q (.mov T17))⟩,⟨(some 19),(some ⟨18,false⟩),(.q (.aa9 14 T1))⟩,⟨(some 20),(some ⟨18,false⟩),(.q (.load none T19))⟩,⟨(some 21),(some ⟨18,false⟩),(.q (.len 0 T20))⟩,⟨(some 22),(some ⟨18,false⟩),(.q (.bin .gtr T21 (.c (.int .i64 100))))⟩,⟨(some 23),none,(.q (.pick T18 (.c (.bool true)) T22))⟩,⟨(some 24),none,(.q (.mov T23))⟩,⟨(some 25),(some ⟨24,false⟩),(.q (.aa9 0 T1))⟩,⟨(some 26),(some ⟨24,false⟩),(.q (.load none T25))⟩,⟨(some 27),(some ⟨24,false⟩),(.q (.len 1 T26))⟩,⟨(some 28),(some ⟨24,false⟩),(.q (.bin .gtr T27 (.c (.int .i64 1000))))⟩,⟨(some 29),none,(.q (.pick T24 (.c (.bool true)) T28))⟩,⟨(some 30),none,(.q (.mov T29))⟩,⟨(some 31),(some ⟨30,false⟩),(.q (.aa9 5 T1))⟩,⟨(some 32),(some ⟨30,false⟩),(.q (.load none T31))⟩,⟨(some 33),(some ⟨30,false⟩),(.q (.len 1 T32))⟩,⟨(some 34),(some ⟨30,false⟩),(.q (.bin .gtr T33 (.c (.int .i64 1000))))⟩,⟨(some 35),none,(.q (.pick T30 (.c (.bool true)) T34))⟩,⟨(some 36),none,(.q (.mov T35))⟩,⟨(some 37),(some ⟨36,false⟩),(.q (.aa9 1 T1))⟩,⟨(some 38),(some ⟨36,false⟩),(.q (.aa9 1 T37))⟩,⟨(some 39),(some ⟨36,false⟩),(.q (.load none T38))⟩,⟨(some 40),(some ⟨36,false⟩),(.q (.len 1 T39))⟩,⟨(some 41),(some ⟨36,false⟩),(.q (.bin .gtr T40 (.c (.int .i64 1000))))⟩,⟨(some 42),none,(.q (.pick T36 (.c (.bool true)) T41))⟩,⟨(some 43),none,(.q (.mov T42))⟩,⟨(some 44),(some ⟨43,false⟩),(.q (.aa9 1 T1))⟩,⟨(some 45),(some ⟨43,false⟩),(.q (.aa9 2 T44))⟩,⟨(some 46),(some ⟨43,false⟩),(.q (.load none T45))⟩,⟨(some 47),(some ⟨43,false⟩),(.q (.len 1 T46))⟩,⟨(some 48),(some ⟨43,false⟩),(.q (.bin .gtr T47 (.c (.int .i64 1000))))⟩,⟨(some 49),none,(.q (.pick T43 (.c (.bool true)) T48))⟩] [1,49])
(.cond T49
(.seq
(.reg 2 [⟨(some 2),none,(.q (.mov (.c (.bool true))))⟩] [2])
.ret)
.skip))
(.seq
(.reg 3 [⟨(some 3),none,(.q (.mov (.c (.int .i64 0))))⟩] [1,3])
(.seq
(.seq
(.reg 4 [⟨(some 50),none,(.q (.aa9 7 T1))⟩,⟨(some 51),none,(.q (.load none T50))⟩,⟨(some 52),none,(.q (.aa9 8 T1))⟩,⟨(some 53),none,(.q (.load none T52))⟩,⟨(some 54),none,(.q (.aa9 10 T1))⟩,⟨(some 55),none,(.q (.load none T54))⟩,⟨(some 56),none,(.q (.aa9 11 T1))⟩,⟨(some 57),none,(.q (.load none T56))⟩,⟨(some 58),none,(.q (.aa9 12 T1))⟩,⟨(some 59),none,(.q (.load none T58))⟩,⟨(some 60),none,(.q (.aa9 13 T1))⟩,⟨(some 61),none,(.q (.load none T60))⟩,⟨(some 62),none,(.av2 1 6 [.aa1] [⟨0,⟨1,T51⟩⟩,⟨1,⟨1,T53⟩⟩,⟨2,⟨1,T55⟩⟩,⟨3,⟨1,T57⟩⟩,⟨4,⟨1,T59⟩⟩,⟨5,⟨1,T61⟩⟩])⟩,⟨(some 63),none,(.q (.len 0 T62))⟩,⟨(some 64),none,(.q (.mov (.c (.int .i64 0))))⟩] [3,62,63,64])
(.block 0
(.loop
(.seq
(.reg 5 [⟨(some 65),none,(.q (.bin .lss T64 T63))⟩] [3,62,63,64,65])
(.seq
(.cond T65
.skip
(.exit 0))
(.seq
(.block 1
(.seq
(.reg 6 [⟨(some 66),none,(.q (.ab5 1 T62 T64))⟩,⟨(some 67),none,(.q (.load none T66))⟩,⟨(some 5),none,(.q (.mov T67))⟩] [3,5,62,63,64])
(.seq
(.reg 7 [⟨(some 69),none,(.q (.mov T5))⟩,⟨(some 70),none,(.call 29 [T69,(.c (.int .i64 0))])⟩,⟨(some 68),none,(.q (.mov T70))⟩,⟨(some 71),none,(.q (.ext 0 T68))⟩,⟨(some 72),none,(.q (.ext 1 T68))⟩,⟨(some 6),none,(.q (.mov T71))⟩,⟨(some 7),none,(.q (.mov T72))⟩] [3,6,7,62,63,64])
(.seq
(.reg 8 [⟨(some 73),none,(.q (.mov T3))⟩,⟨(some 74),none,(.q (.mov T6))⟩,⟨(some 75),none,(.q (.bin .add T73 T74))⟩,⟨(some 3),none,(.q (.mov T75))⟩] [3,7,62,63,64])
(.seq
(.reg 9 [⟨(some 76),none,(.q (.mov T7))⟩,⟨(some 77),none,(.q (.mov T76))⟩,⟨(some 78),(some ⟨77,false⟩),(.q (.mov T3))⟩,⟨(some 79),(some ⟨77,false⟩),(.q (.bin .gtr T78 (.c (.int .i64 2000))))⟩,⟨(some 80),none,(.q (.pick T77 (.c (.bool true)) T79))⟩] [3,62,63,64,80])
(.cond T80
(.seq
(.reg 10 [⟨(some 2),none,(.q (.mov (.c (.bool true))))⟩] [2])
.ret)
.skip))))))
(.reg 11 [⟨(some 81),none,(.q (.bin .add T64 (.c (.int .i64 1))))⟩,⟨(some 64),none,(.q (.mov T81))⟩] [3,62,63,64])))))))
(.seq
(.reg 12 [⟨(some 2),none,(.q (.mov (.c (.bool false))))⟩] [2])
.ret)))))
theorem fok12:FOK Tryd.prog 12 (82,ic12,[(.t 2)]):=.mk (pf:=[1000001,1000062]) (an:=[(0,[1]),(1,[1,49]),(2,[2]),(3,[1,3]),(4,[3,62,63,64]),(5,[3,62,63,64,65]),(6,[3,5,62,63,64]),(7,[3,6,7,62,63,64]),(8,[3,7,62,63,64]),(9,[3,62,63,64,80]),(10,[2]),(11,[3,62,63,64]),(12,[2])]) (by kernel_rfl) (ab6 Tryd.func12 (by kernel_rfl) (by kernel_rfl) (by kernel_rfl))
def ic13:IC :=
(.seq
(.reg 0 [oK 2 (.alloc [(.str []),(zI 0),(.str []),(.str []),(zU 0),(.str []),.aa1,.aa1,.aa1,.aa1,.aa1,.aa1,.aa1,.aa1,.aa1])] [0,2])
(.seq
(.reg 1 [oM 3 T0,oQ 4 (.bld [(zI 0),(.str []),(.str [])] [⟨1,⟨1,(.c (.str [49]))⟩⟩,⟨2,⟨1,(.c (.str [49]))⟩⟩]),oQ 5 (.bld [(.str []),(zI 0),(.str []),(.str []),(zU 0),(.str []),.aa1,.aa1,.aa1,.aa1,.aa1,.aa1,.aa1,.aa1,.aa1] [⟨0,⟨1,T3⟩⟩,⟨1,⟨3,T4⟩⟩,⟨4,⟨1,(.c (zU 1))⟩⟩]),oN (.store 15 T2 T5)] [2])
.ret))
theorem fok13:FOK Tryd.prog 13 (6,ic13,[(.cell (some 15) 2)]):=bk2 [] Tryd.func13
def ic14:IC :=
(.seq
(.reg 0 [⟨(some 2),none,(.q (.mov (.c (.int .i64 0))))⟩] [0])
(.seq
(.seq
(.reg 1 [⟨(some 3),none,(.q (.mov T0))⟩,⟨(some 4),none,(.q (.bg7 (.pointer 60) false T3))⟩] [0,4])
(.cond T4
(.seq
(.reg 2 [⟨(some 2),none,(.q (.mov (.c (.int .i64 0))))⟩] [2])
.ret)
.skip))
(.seq
(.reg 3 [⟨(some 5),none,(.q (.mov T0))⟩,⟨(some 6),none,(.q (.au1 T5))⟩,⟨(some 7),none,(.q (.aa9 0 T6))⟩,⟨(some 8),none,(.q (.load none T7))⟩,⟨(some 9),none,(.q (.len 0 T8))⟩,⟨(some 2),none,(.q (.mov T9))⟩] [2])
.ret)))
theorem fok14:FOK Tryd.prog 14 (10,ic14,[(.t 2)]):=.mk (pf:=[]) (an:=[(0,[0]),(1,[0,4]),(2,[2]),(3,[2])]) (by kernel_rfl) (ab6 Tryd.func14 (by kernel_rfl) (by kernel_rfl) (by kernel_rfl))
def ic15:IC :=
(.seq
(.reg 0 [⟨(some 2),none,(.q (.mov (.c (.int .i64 0))))⟩] [0])
(.seq
(.seq
(.reg 1 [⟨(some 3),none,(.q (.mov T0))⟩,⟨(some 4),none,(.q (.bg7 (.pointer 60) false T3))⟩] [0,4])
(.cond T4
(.seq
(.reg 2 [⟨(some 2),none,(.q (.mov (.c (.int .i64 0))))⟩] [2])
.ret)
.skip))
(.seq
(.reg 3 [⟨(some 5),none,(.q (.mov T0))⟩,⟨(some 6),none,(.q (.au1 T5))⟩,⟨(some 7),none,(.q (.aa9 1 T6))⟩,⟨(some 8),none,(.q (.load none T7))⟩,⟨(some 2),none,(.q (.mov T8))⟩] [2])
.ret)))
theorem fok15:FOK Tryd.prog 15 (9,ic15,[(.t 2)]):=.mk (pf:=[]) (an:=[(0,[0]),(1,[0,4]),(2,[2]),(3,[2])]) (by kernel_rfl) (ab6 Tryd.func15 (by kernel_rfl) (by kernel_rfl) (by kernel_rfl))
def ic16:IC :=
(.seq
(.reg 0 [⟨(some 4),none,(.q (.mov (.c (.int .i64 0))))⟩] [0,1])
(.seq
(.seq
(.reg 1 [⟨(some 5),none,(.q (.mov T0))⟩,⟨(some 6),none,(.q (.bg7 (.pointer 60) false T5))⟩,⟨(some 7),none,(.q (.mov T6))⟩,⟨(some 8),(some ⟨7,false⟩),(.q (.mov T0))⟩,⟨(some 9),(some ⟨7,false⟩),(.q (.au1 T8))⟩,⟨(some 10),(some ⟨7,false⟩),(.q (.aa9 0 T9))⟩,⟨(some 11),(some ⟨7,false⟩),(.q (.load none T10))⟩,⟨(some 12),(some ⟨7,false⟩),(.q (.mov T1))⟩,⟨(some 13),(some ⟨7,false⟩),(.call 21 [T11,T12])⟩,⟨(some 14),(some ⟨7,false⟩),(.q (.not T13))⟩,⟨(some 15),none,(.q (.pick T7 (.c (.bool true)) T14))⟩] [0,1,15])
(.cond T15
(.seq
(.reg 2 [⟨(some 4),none,(.q (.mov (.c (.int .i64 (-1)))))⟩] [4])
.ret)
.skip))
(.seq
(.reg 3 [⟨(some 16),none,(.q (.mov T0))⟩,⟨(some 17),none,(.q (.au1 T16))⟩,⟨(some 18),none,(.q (.aa9 0 T17))⟩,⟨(some 19),none,(.q (.load none T18))⟩,⟨(some 20),none,(.q (.mov T1))⟩,⟨(some 21),none,(.q (.ab5 17 T19 T20))⟩,⟨(some 22),none,(.q (.aa9 15 T21))⟩,⟨(some 23),none,(.q (.load none T22))⟩,⟨(some 4),none,(.q (.mov T23))⟩] [4])
.ret)))
theorem fok16:FOK Tryd.prog 16 (24,ic16,[(.t 4)]):=.mk (pf:=[]) (an:=[(0,[0,1]),(1,[0,1,15]),(2,[4]),(3,[4])]) (by kernel_rfl) (ab6 Tryd.func16 (by kernel_rfl) (by kernel_rfl) (by kernel_rfl))
def ic17:IC :=
(.seq
(.reg 0 [⟨(some 4),none,(.q (.mov (.c (.int .i64 0))))⟩] [0,1])
(.seq
(.seq
(.reg 1 [⟨(some 5),none,(.q (.mov T0))⟩,⟨(some 6),none,(.q (.bg7 (.pointer 60) false T5))⟩,⟨(some 7),none,(.q (.mov T6))⟩,⟨(some 8),(some ⟨7,false⟩),(.q (.mov T0))⟩,⟨(some 9),(some ⟨7,false⟩),(.q (.au1 T8))⟩,⟨(some 10),(some ⟨7,false⟩),(.q (.aa9 0 T9))⟩,⟨(some 11),(some ⟨7,false⟩),(.q (.load none T10))⟩,⟨(some 12),(some ⟨7,false⟩),(.q (.mov T1))⟩,⟨(some 13),(some ⟨7,false⟩),(.call 21 [T11,T12])⟩,⟨(some 14),(some ⟨7,false⟩),(.q (.not T13))⟩,⟨(some 15),none,(.q (.pick T7 (.c (.bool true)) T14))⟩] [0,1,15])
(.cond T15
(.seq
(.reg 2 [⟨(some 4),none,(.q (.mov (.c (.int .i64 0))))⟩] [4])
.ret)
.skip))
(.seq
(.reg 3 [⟨(some 16),none,(.q (.mov T0))⟩,⟨(some 17),none,(.q (.au1 T16))⟩,⟨(some 18),none,(.q (.aa9 0 T17))⟩,⟨(some 19),none,(.q (.load none T18))⟩,⟨(some 20),none,(.q (.mov T1))⟩,⟨(some 21),none,(.q (.ab5 17 T19 T20))⟩,⟨(some 22),none,(.q (.aa9 16 T21))⟩,⟨(some 23),none,(.q (.load none T22))⟩,⟨(some 4),none,(.q (.mov T23))⟩] [4])
.ret)))
theorem fok17:FOK Tryd.prog 17 (24,ic17,[(.t 4)]):=.mk (pf:=[]) (an:=[(0,[0,1]),(1,[0,1,15]),(2,[4]),(3,[4])]) (by kernel_rfl) (ab6 Tryd.func17 (by kernel_rfl) (by kernel_rfl) (by kernel_rfl))
def ic18:IC :=
(.seq
(.reg 0 [⟨(some 4),none,(.q (.mov (.c (.bool false))))⟩] [0,1])
(.seq
(.seq
(.reg 1 [⟨(some 6),none,(.q (.mov T0))⟩,⟨(some 7),none,(.q (.len 0 T6))⟩,⟨(some 8),none,(.q (.mov T1))⟩,⟨(some 9),none,(.q (.len 0 T8))⟩,⟨(some 10),none,(.q (.bin .neq T7 T9))⟩] [0,1,10])
(.cond T10
(.seq
(.reg 2 [⟨(some 4),none,(.q (.mov (.c (.bool false))))⟩] [4])
.ret)
.skip))
(.seq
(.seq
(.reg 3 [⟨(some 5),none,(.q (.mov (.c (.int .i64 0))))⟩] [0,1,5])
(.block 0
(.loop
(.seq
(.seq
(.reg 4 [⟨(some 11),none,(.q (.mov T5))⟩,⟨(some 12),none,(.q (.mov T0))⟩,⟨(some 13),none,(.q (.len 0 T12))⟩,⟨(some 14),none,(.q (.bin .lss T11 T13))⟩] [0,1,5,14])
(.cond T14
.skip
(.exit 0)))
(.seq
(.block 1
(.seq
(.dreg 6 [⟨(some 17),none,(.q (.mov T0))⟩,⟨(some 18),none,(.q (.mov T5))⟩,⟨(some 19),none,(.q (.ab5 1 T17 T18))⟩,⟨(some 20),none,(.q (.load none T19))⟩,⟨(some 21),none,(.q (.mov T1))⟩,⟨(some 22),none,(.q (.mov T5))⟩,⟨(some 23),none,(.q (.ab5 1 T21 T22))⟩,⟨(some 24),none,(.q (.load none T23))⟩,⟨(some 25),none,(.q (.bin .neq T20 T24))⟩] false [0,1,5,25])
(.cond T25
(.seq
(.reg 7 [⟨(some 4),none,(.q (.mov (.c (.bool false))))⟩] [4])
.ret)
.skip)))
(.reg 5 [⟨(some 15),none,(.q (.mov T5))⟩,⟨(some 16),none,(.q (.bin .add T15 (.c (.int .i64 1))))⟩,⟨(some 5),none,(.q (.mov T16))⟩] [0,1,5]))))))
(.seq
(.reg 8 [⟨(some 4),none,(.q (.mov (.c (.bool true))))⟩] [4])
.ret))))
theorem fok18:FOK Tryd.prog 18 (26,ic18,[(.t 4)]):=.mk (pf:=[]) (an:=[(0,[0,1]),(1,[0,1,10]),(2,[4]),(3,[0,1,5]),(4,[0,1,5,14]),(5,[0,1,5]),(6,[0,1,5,25]),(7,[4]),(8,[4])]) (by kernel_rfl) (ab6 Tryd.func18 (by kernel_rfl) (by kernel_rfl) (by kernel_rfl))
def ic19:IC :=
(.seq
(.reg 0 [⟨(some 2),none,(.q (.mov (.c .aa1)))⟩] [0])
(.seq
(.reg 1 [⟨(some 3),none,(.q (.mov (.c .aa1)))⟩] [0,3])
(.seq
(.seq
(.reg 2 [⟨(some 4),none,(.q (.mov (.c (.int .i64 0))))⟩] [0,3,4])
(.block 0
(.loop
(.seq
(.seq
(.reg 3 [⟨(some 5),none,(.q (.mov T4))⟩,⟨(some 6),none,(.q (.mov T0))⟩,⟨(some 7),none,(.q (.len 0 T6))⟩,⟨(some 8),none,(.q (.bin .lss T5 T7))⟩] [0,3,4,8])
(.cond T8
.skip
(.exit 0)))
(.seq
(.block 1
(.reg 5 [⟨(some 11),none,(.q (.mov T3))⟩,⟨(some 12),none,(.q (.mov T0))⟩,⟨(some 13),none,(.q (.mov T4))⟩,⟨(some 14),none,(.q (.ab5 7 T12 T13))⟩,⟨(some 15),none,(.q (.load (some 7) T14))⟩,⟨(some 16),none,(.call 30 [T15])⟩,⟨(some 17),none,(.av2 7 1 [(.int .u8 0),(.str []),(.int .u8 0),(.int .i64 0),(.str []),(.str []),.aa1] [⟨0,⟨7,T16⟩⟩])⟩,⟨(some 18),none,(.app 7 T11 T17)⟩,⟨(some 3),none,(.q (.mov T18))⟩] [0,3,4]))
(.reg 4 [⟨(some 9),none,(.q (.mov T4))⟩,⟨(some 10),none,(.q (.bin .add T9 (.c (.int .i64 1))))⟩,⟨(some 4),none,(.q (.mov T10))⟩] [0,3,4]))))))
(.seq
(.reg 6 [⟨(some 19),none,(.q (.mov T3))⟩,⟨(some 2),none,(.q (.mov T19))⟩] [2])
.ret))))
theorem fok19:FOK Tryd.prog 19 (20,ic19,[(.t 2)]):=.mk (pf:=[1000017]) (an:=[(0,[0]),(1,[0,3]),(2,[0,3,4]),(3,[0,3,4,8]),(4,[0,3,4]),(5,[0,3,4]),(6,[2])]) (by kernel_rfl) (ab6 Tryd.func19 (by kernel_rfl) (by kernel_rfl) (by kernel_rfl))
def ic20:IC :=
(.seq
(.reg 0 [⟨(some 8),none,(.q (.mov (.c (.int .i64 0))))⟩] [0,1,2,3])
(.seq
(.seq
(.reg 1 [⟨(some 11),none,(.q (.mov T1))⟩,⟨(some 12),none,(.q (.len 0 T11))⟩,⟨(some 13),none,(.q (.mov (.c (.int .i64 0))))⟩] [0,2,3,11,12,13])
(.block 0
(.loop
(.seq
(.reg 2 [⟨(some 14),none,(.q (.bin .lss T13 T12))⟩] [0,2,3,11,12,13,14])
(.seq
(.cond T14
.skip
(.exit 0))
(.seq
(.block 1
(.seq
(.reg 3 [⟨(some 15),none,(.q (.ab5 15 T11 T13))⟩,⟨(some 16),none,(.q (.load (some 15) T15))⟩,⟨(some 10),none,(.alloc [(.str []),(.int .i64 0),(.str []),(.str []),(.int .u8 0),(.str []),.aa1,.aa1,.aa1,.aa1,.aa1,.aa1,.aa1,.aa1,.aa1])⟩,⟨none,none,(.store 15 T10 T16)⟩] [0,2,3,10,11,12,13])
(.seq
(.seq
(.reg 4 [⟨(some 17),none,(.q (.load (some 15) T10))⟩,⟨(some 18),none,(.aj4 31 [T17])⟩,⟨(some 19),none,(.q (.not T18))⟩] [0,2,3,10,11,12,13,19])
(.cond T19
(.seq
(.reg 5 [⟨(some 8),none,(.q (.mov (.c (.int .i64 4))))⟩] [8])
.ret)
.skip))
(.seq
(.dreg 6 [⟨(some 20),none,(.q (.mov T0))⟩,⟨(some 21),none,(.q (.au1 T20))⟩,⟨(some 22),none,(.q (.aa9 2 T21))⟩,⟨(some 23),none,(.q (.load none T22))⟩,⟨(some 24),none,(.q (.aa9 0 T10))⟩,⟨(some 25),none,(.q (.load none T24))⟩,⟨(some 26),none,(.q (.mov T0))⟩,⟨(some 27),none,(.q (.au1 T26))⟩,⟨(some 28),none,(.q (.aa9 2 T27))⟩,⟨(some 29),none,(.q (.load none T28))⟩,⟨(some 30),none,(.q (.aa9 0 T10))⟩,⟨(some 31),none,(.q (.load none T30))⟩,⟨(some 32),none,(.q (.lkp 2 .aa1 false T29 T31))⟩,⟨(some 33),none,(.q (.mov T0))⟩,⟨(some 34),none,(.q (.au1 T33))⟩,⟨(some 35),none,(.q (.aa9 0 T34))⟩,⟨(some 36),none,(.q (.load none T35))⟩,⟨(some 37),none,(.q (.len 0 T36))⟩,⟨(some 38),none,(.av2 1 1 [(.int .i64 0)] [⟨0,⟨1,T37⟩⟩])⟩,⟨(some 39),none,(.app 1 T32 T38)⟩,⟨none,none,(.de4 2 T23 T25 T39)⟩] true [0,2,3,10,11,12,13])
(.dreg 7 [⟨(some 40),none,(.q (.mov T0))⟩,⟨(some 41),none,(.q (.mov T0))⟩,⟨(some 42),none,(.q (.au1 T41))⟩,⟨(some 43),none,(.q (.aa9 0 T42))⟩,⟨(some 44),none,(.q (.load none T43))⟩,⟨(some 45),none,(.q (.load (some 15) T10))⟩,⟨(some 46),none,(.aj4 22 [T45])⟩,⟨(some 47),none,(.q (.mov T2))⟩,⟨(some 48),none,(.q (.mov T3))⟩,⟨(some 49),none,(.q (.bld [(.str []),(.int .i64 0),(.str []),(.str []),(.int .u8 0),(.str []),.aa1,.aa1,.aa1,.aa1,.aa1,.aa1,.aa1,.aa1,.aa1,(.int .i64 0),(.int .i64 0)] [⟨0,⟨15,T46⟩⟩,⟨15,⟨1,T47⟩⟩,⟨16,⟨1,T48⟩⟩]))⟩,⟨(some 50),none,(.av2 17 1 [(.str []),(.int .i64 0),(.str []),(.str []),(.int .u8 0),(.str []),.aa1,.aa1,.aa1,.aa1,.aa1,.aa1,.aa1,.aa1,.aa1,(.int .i64 0),(.int .i64 0)] [⟨0,⟨17,T49⟩⟩])⟩,⟨(some 51),none,(.app 17 T44 T50)⟩,⟨(some 52),none,(.q (.au1 T40))⟩,⟨(some 53),none,(.q (.aa9 0 T52))⟩,⟨none,none,(.store 1 T53 T51)⟩] true [0,2,3,11,12,13])))))
(.reg 8 [⟨(some 54),none,(.q (.bin .add T13 (.c (.int .i64 1))))⟩,⟨(some 13),none,(.q (.mov T54))⟩] [0,2,3,11,12,13])))))))
(.seq
(.reg 9 [⟨(some 8),none,(.q (.mov (.c (.int .i64 0))))⟩] [8])
.ret)))
theorem fok20:FOK Tryd.prog 20 (55,ic20,[(.t 8)]):=.mk (pf:=([1000038,1000050]++fd2)) (an:=[(0,[0,1,2,3]),(1,[0,2,3,11,12,13]),(2,[0,2,3,11,12,13,14]),(3,[0,2,3,10,11,12,13]),(4,[0,2,3,10,11,12,13,19]),(5,[8]),(6,[0,2,3,10,11,12,13]),(7,[0,2,3,11,12,13]),(8,[0,2,3,11,12,13]),(9,[8])]) (by kernel_rfl) (ab6 Tryd.func20 (by kernel_rfl) (by kernel_rfl) (by kernel_rfl))
def ic21:IC :=
(.seq
(.reg 0 [⟨(some 4),none,(.q (.mov (.c (.bool false))))⟩] [0,1])
(.seq
(.reg 1 [⟨(some 5),none,(.q (.mov T1))⟩,⟨(some 6),none,(.q (.bin .geq T5 (.c (.int .i64 0))))⟩,⟨(some 7),none,(.q (.mov T6))⟩,⟨(some 8),(some ⟨7,true⟩),(.q (.mov T1))⟩,⟨(some 9),(some ⟨7,true⟩),(.q (.mov T0))⟩,⟨(some 10),(some ⟨7,true⟩),(.q (.len 0 T9))⟩,⟨(some 11),(some ⟨7,true⟩),(.q (.bin .lss T8 T10))⟩,⟨(some 12),none,(.q (.pick T7 T11 (.c (.bool false))))⟩,⟨(some 4),none,(.q (.mov T12))⟩] [4])
.ret))
theorem fok21:FOK Tryd.prog 21 (13,ic21,[(.t 4)]):=.mk (pf:=[]) (an:=[(0,[0,1]),(1,[4])]) (by kernel_rfl) (ab6 Tryd.func21 (by kernel_rfl) (by kernel_rfl) (by kernel_rfl))
def ic22:IC :=
(.seq
(.reg 0 [⟨(some 1),none,(.box T0)⟩,⟨(some 2),none,(.alloc [(.str []),(.int .i64 0),(.str []),(.str []),(.int .u8 0),(.str []),.aa1,.aa1,.aa1,.aa1,.aa1,.aa1,.aa1,.aa1,.aa1])⟩] [1,2])
(.seq
(.dreg 1 [⟨(some 7),none,(.q (.aa9 6 T1))⟩,⟨(some 8),none,(.q (.load none T7))⟩,⟨(some 9),none,(.aj4 32 [T8])⟩,⟨(some 10),none,(.q (.aa9 9 T1))⟩,⟨(some 11),none,(.q (.load none T10))⟩,⟨(some 12),none,(.aj4 32 [T11])⟩,⟨(some 13),none,(.q (.aa9 14 T1))⟩,⟨(some 14),none,(.q (.load none T13))⟩,⟨(some 15),none,(.aj4 33 [T14])⟩,⟨(some 16),none,(.q (.aa9 6 T1))⟩,⟨none,none,(.store 1 T16 T9)⟩,⟨(some 17),none,(.q (.aa9 9 T1))⟩,⟨none,none,(.store 1 T17 T12)⟩,⟨(some 18),none,(.q (.aa9 14 T1))⟩,⟨none,none,(.store 1 T18 T15)⟩] false [1,2])
(.seq
(.seq
(.reg 2 [⟨(some 19),none,(.q (.aa9 7 T1))⟩,⟨(some 20),none,(.q (.aa9 8 T1))⟩,⟨(some 21),none,(.q (.aa9 10 T1))⟩,⟨(some 22),none,(.q (.aa9 11 T1))⟩,⟨(some 23),none,(.q (.aa9 12 T1))⟩,⟨(some 24),none,(.q (.aa9 13 T1))⟩,⟨(some 25),none,(.av2 1 6 [.ad3] [⟨0,⟨1,T19⟩⟩,⟨1,⟨1,T20⟩⟩,⟨2,⟨1,T21⟩⟩,⟨3,⟨1,T22⟩⟩,⟨4,⟨1,T23⟩⟩,⟨5,⟨1,T24⟩⟩])⟩,⟨(some 26),none,(.q (.len 0 T25))⟩,⟨(some 27),none,(.q (.mov (.c (.int .i64 0))))⟩] [1,2,25,26,27])
(.block 0
(.loop
(.seq
(.reg 3 [⟨(some 28),none,(.q (.bin .lss T27 T26))⟩] [1,2,25,26,27,28])
(.seq
(.cond T28
.skip
(.exit 0))
(.seq
(.block 1
(.seq
(.reg 4 [⟨(some 29),none,(.q (.ab5 1 T25 T27))⟩,⟨(some 30),none,(.q (.load none T29))⟩,⟨(some 4),none,(.q (.mov T30))⟩] [1,2,4,25,26,27])
(.seq
(.reg 5 [⟨(some 31),none,(.q (.mov T4))⟩,⟨(some 32),none,(.q (.mov T4))⟩,⟨(some 33),none,(.q (.au1 T32))⟩,⟨(some 34),none,(.q (.load none T33))⟩,⟨(some 35),none,(.call 34 [T34])⟩,⟨(some 36),none,(.q (.au1 T31))⟩,⟨none,none,(.store 1 T36 T35)⟩] [1,2,4,25,26,27])
(.seq
(.reg 6 [⟨(some 37),none,(.q (.mov T4))⟩,⟨(some 38),none,(.q (.au1 T37))⟩,⟨(some 39),none,(.q (.load none T38))⟩,⟨(some 40),none,(.q (.len 0 T39))⟩,⟨(some 41),none,(.q (.mov (.c (.int .i64 0))))⟩] [1,2,4,25,26,27,39,40,41])
(.block 2
(.loop
(.seq
(.reg 7 [⟨(some 42),none,(.q (.bin .lss T41 T40))⟩] [1,2,4,25,26,27,39,40,41,42])
(.seq
(.cond T42
.skip
(.exit 2))
(.seq
(.block 3
(.seq
(.reg 8 [⟨(some 43),none,(.q (.mov T41))⟩,⟨(some 44),none,(.q (.ab5 7 T39 T41))⟩,⟨(some 45),none,(.q (.load (some 7) T44))⟩,⟨(some 6),none,(.alloc [(.int .u8 0),(.str []),(.int .u8 0),(.int .i64 0),(.str []),(.str []),.aa1])⟩,⟨(some 5),none,(.q (.mov T43))⟩,⟨none,none,(.store 7 T6 T45)⟩] [1,2,4,5,6,25,26,27,39,40,41])
(.dreg 9 [⟨(some 46),none,(.q (.mov T4))⟩,⟨(some 47),none,(.q (.au1 T46))⟩,⟨(some 48),none,(.q (.load none T47))⟩,⟨(some 49),none,(.q (.mov T5))⟩,⟨(some 50),none,(.q (.load (some 7) T6))⟩,⟨(some 51),none,(.aj4 35 [T50])⟩,⟨(some 52),none,(.q (.ab5 7 T48 T49))⟩,⟨none,none,(.store 7 T52 T51)⟩] false [1,2,4,25,26,27,39,40,41])))
(.reg 10 [⟨(some 53),none,(.q (.bin .add T41 (.c (.int .i64 1))))⟩,⟨(some 41),none,(.q (.mov T53))⟩] [1,2,4,25,26,27,39,40,41]))))))))))
(.reg 11 [⟨(some 54),none,(.q (.bin .add T27 (.c (.int .i64 1))))⟩,⟨(some 27),none,(.q (.mov T54))⟩] [1,2,25,26,27])))))))
(.seq
(.reg 12 [⟨(some 55),none,(.q (.load (some 15) T1))⟩,⟨none,none,(.store 15 T2 T55)⟩] [2])
.ret))))
theorem fok22:FOK Tryd.prog 22 (56,ic22,[(.cell (some 15) 2)]):=.mk (pf:=([1000025]++List.filter (fun k=>k != 34) fd2)) (an:=[(0,[1,2]),(1,[1,2]),(2,[1,2,25,26,27]),(3,[1,2,25,26,27,28]),(4,[1,2,4,25,26,27]),(5,[1,2,4,25,26,27]),(6,[1,2,4,25,26,27,39,40,41]),(7,[1,2,4,25,26,27,39,40,41,42]),(8,[1,2,4,5,6,25,26,27,39,40,41]),(9,[1,2,4,25,26,27,39,40,41]),(10,[1,2,4,25,26,27,39,40,41]),(11,[1,2,25,26,27]),(12,[2])]) (by kernel_rfl) (ab6 Tryd.func22 (by kernel_rfl) (by kernel_rfl) (by kernel_rfl))
def ic23:IC :=
(.seq
(.reg 0 [⟨(some 4),none,(.q (.mov (.c (.bool false))))⟩] [0,1])
(.seq
(.seq
(.reg 1 [⟨(some 6),none,(.q (.mov T0))⟩,⟨(some 7),none,(.q (.len 0 T6))⟩,⟨(some 8),none,(.q (.mov T1))⟩,⟨(some 9),none,(.q (.len 0 T8))⟩,⟨(some 10),none,(.q (.bin .neq T7 T9))⟩] [0,1,10])
(.cond T10
(.seq
(.reg 2 [⟨(some 4),none,(.q (.mov (.c (.bool false))))⟩] [4])
.ret)
.skip))
(.seq
(.seq
(.reg 3 [⟨(some 5),none,(.q (.mov (.c (.int .i64 0))))⟩] [0,1,5])
(.block 0
(.loop
(.seq
(.seq
(.reg 4 [⟨(some 11),none,(.q (.mov T5))⟩,⟨(some 12),none,(.q (.mov T0))⟩,⟨(some 13),none,(.q (.len 0 T12))⟩,⟨(some 14),none,(.q (.bin .lss T11 T13))⟩] [0,1,5,14])
(.cond T14
.skip
(.exit 0)))
(.seq
(.block 1
(.seq
(.dreg 6 [⟨(some 17),none,(.q (.mov T0))⟩,⟨(some 18),none,(.q (.mov T5))⟩,⟨(some 19),none,(.q (.ab5 5 T17 T18))⟩,⟨(some 20),none,(.q (.load (some 5) T19))⟩,⟨(some 21),none,(.q (.mov T1))⟩,⟨(some 22),none,(.q (.mov T5))⟩,⟨(some 23),none,(.q (.ab5 5 T21 T22))⟩,⟨(some 24),none,(.q (.load (some 5) T23))⟩,⟨(some 25),none,(.q (.eqs [2,1,1,2,2] true true T20 T24))⟩] false [0,1,5,25])
(.cond T25
(.seq
(.reg 7 [⟨(some 4),none,(.q (.mov (.c (.bool false))))⟩] [4])
.ret)
.skip)))
(.reg 5 [⟨(some 15),none,(.q (.mov T5))⟩,⟨(some 16),none,(.q (.bin .add T15 (.c (.int .i64 1))))⟩,⟨(some 5),none,(.q (.mov T16))⟩] [0,1,5]))))))
(.seq
(.reg 8 [⟨(some 4),none,(.q (.mov (.c (.bool true))))⟩] [4])
.ret))))
theorem fok23:FOK Tryd.prog 23 (26,ic23,[(.t 4)]):=.mk (pf:=[]) (an:=[(0,[0,1]),(1,[0,1,10]),(2,[4]),(3,[0,1,5]),(4,[0,1,5,14]),(5,[0,1,5]),(6,[0,1,5,25]),(7,[4]),(8,[4])]) (by kernel_rfl) (ab6 Tryd.func23 (by kernel_rfl) (by kernel_rfl) (by kernel_rfl))
def ic24:IC :=
(.seq
(.reg 0 [⟨(some 4),none,(.q (.mov (.c (.bool false))))⟩] [0,1])
(.seq
(.seq
(.reg 1 [⟨(some 6),none,(.q (.mov T0))⟩,⟨(some 7),none,(.q (.len 0 T6))⟩,⟨(some 8),none,(.q (.mov T1))⟩,⟨(some 9),none,(.q (.len 0 T8))⟩,⟨(some 10),none,(.q (.bin .neq T7 T9))⟩] [0,1,10])
(.cond T10
(.seq
(.reg 2 [⟨(some 4),none,(.q (.mov (.c (.bool false))))⟩] [4])
.ret)
.skip))
(.seq
(.seq
(.reg 3 [⟨(some 5),none,(.q (.mov (.c (.int .i64 0))))⟩] [0,1,5])
(.block 0
(.loop
(.seq
(.seq
(.reg 4 [⟨(some 11),none,(.q (.mov T5))⟩,⟨(some 12),none,(.q (.mov T0))⟩,⟨(some 13),none,(.q (.len 0 T12))⟩,⟨(some 14),none,(.q (.bin .lss T11 T13))⟩] [0,1,5,14])
(.cond T14
.skip
(.exit 0)))
(.seq
(.block 1
(.seq
(.dreg 6 [⟨(some 17),none,(.q (.mov T0))⟩,⟨(some 18),none,(.q (.mov T5))⟩,⟨(some 19),none,(.q (.ab5 7 T17 T18))⟩,⟨(some 20),none,(.q (.load (some 7) T19))⟩,⟨(some 21),none,(.q (.mov T1))⟩,⟨(some 22),none,(.q (.mov T5))⟩,⟨(some 23),none,(.q (.ab5 7 T21 T22))⟩,⟨(some 24),none,(.q (.load (some 7) T23))⟩,⟨(some 25),none,(.call 36 [T20,T24])⟩,⟨(some 26),none,(.q (.not T25))⟩] false [0,1,5,26])
(.cond T26
(.seq
(.reg 7 [⟨(some 4),none,(.q (.mov (.c (.bool false))))⟩] [4])
.ret)
.skip)))
(.reg 5 [⟨(some 15),none,(.q (.mov T5))⟩,⟨(some 16),none,(.q (.bin .add T15 (.c (.int .i64 1))))⟩,⟨(some 5),none,(.q (.mov T16))⟩] [0,1,5]))))))
(.seq
(.reg 8 [⟨(some 4),none,(.q (.mov (.c (.bool true))))⟩] [4])
.ret))))
theorem fok24:FOK Tryd.prog 24 (27,ic24,[(.t 4)]):=.mk (pf:=[]) (an:=[(0,[0,1]),(1,[0,1,10]),(2,[4]),(3,[0,1,5]),(4,[0,1,5,14]),(5,[0,1,5]),(6,[0,1,5,26]),(7,[4]),(8,[4])]) (by kernel_rfl) (ab6 Tryd.func24 (by kernel_rfl) (by kernel_rfl) (by kernel_rfl))
def ic25:IC :=
(.seq
(.reg 0 [⟨(some 4),none,(.q (.mov (.c (.bool false))))⟩] [0,1])
(.seq
(.seq
(.reg 1 [⟨(some 6),none,(.q (.mov T0))⟩,⟨(some 7),none,(.q (.len 0 T6))⟩,⟨(some 8),none,(.q (.mov T1))⟩,⟨(some 9),none,(.q (.len 0 T8))⟩,⟨(some 10),none,(.q (.bin .neq T7 T9))⟩] [0,1,10])
(.cond T10
(.seq
(.reg 2 [⟨(some 4),none,(.q (.mov (.c (.bool false))))⟩] [4])
.ret)
.skip))
(.seq
(.seq
(.reg 3 [⟨(some 5),none,(.q (.mov (.c (.int .i64 0))))⟩] [0,1,5])
(.block 0
(.loop
(.seq
(.seq
(.reg 4 [⟨(some 11),none,(.q (.mov T5))⟩,⟨(some 12),none,(.q (.mov T0))⟩,⟨(some 13),none,(.q (.len 0 T12))⟩,⟨(some 14),none,(.q (.bin .lss T11 T13))⟩] [0,1,5,14])
(.cond T14
.skip
(.exit 0)))
(.seq
(.block 1
(.seq
(.dreg 6 [⟨(some 17),none,(.q (.mov T0))⟩,⟨(some 18),none,(.q (.mov T5))⟩,⟨(some 19),none,(.q (.ab5 1 T17 T18))⟩,⟨(some 20),none,(.q (.load none T19))⟩,⟨(some 21),none,(.q (.mov T1))⟩,⟨(some 22),none,(.q (.mov T5))⟩,⟨(some 23),none,(.q (.ab5 1 T21 T22))⟩,⟨(some 24),none,(.q (.load none T23))⟩,⟨(some 25),none,(.q (.bin .neq T20 T24))⟩] false [0,1,5,25])
(.cond T25
(.seq
(.reg 7 [⟨(some 4),none,(.q (.mov (.c (.bool false))))⟩] [4])
.ret)
.skip)))
(.reg 5 [⟨(some 15),none,(.q (.mov T5))⟩,⟨(some 16),none,(.q (.bin .add T15 (.c (.int .i64 1))))⟩,⟨(some 5),none,(.q (.mov T16))⟩] [0,1,5]))))))
(.seq
(.reg 8 [⟨(some 4),none,(.q (.mov (.c (.bool true))))⟩] [4])
.ret))))
theorem fok25:FOK Tryd.prog 25 (26,ic25,[(.t 4)]):=.mk (pf:=[]) (an:=[(0,[0,1]),(1,[0,1,10]),(2,[4]),(3,[0,1,5]),(4,[0,1,5,14]),(5,[0,1,5]),(6,[0,1,5,25]),(7,[4]),(8,[4])]) (by kernel_rfl) (ab6 Tryd.func25 (by kernel_rfl) (by kernel_rfl) (by kernel_rfl))
def ic26:IC :=
(.seq
(.reg 0 [⟨(some 2),none,(.q (.mov (.c .aa1)))⟩] [0])
(.seq
(.seq
(.reg 1 [⟨(some 3),none,(.q (.mov T0))⟩,⟨(some 4),none,(.q (.bg7 (.slice 3) false T3))⟩] [0,4])
(.cond T4
(.seq
(.reg 2 [⟨(some 2),none,(.q (.mov (.c .aa1)))⟩] [2])
.ret)
.skip))
(.seq
(.reg 3 [⟨(some 5),none,(.bsl 1 0 [(.int .i64 0)] [])⟩,⟨(some 6),none,(.q (.mov T0))⟩,⟨(some 7),none,(.app 1 T5 T6)⟩,⟨(some 2),none,(.q (.mov T7))⟩] [2])
.ret)))
theorem fok26:FOK Tryd.prog 26 (8,ic26,[(.t 2)]):=.mk (pf:=[]) (an:=[(0,[0]),(1,[0,4]),(2,[2]),(3,[2])]) (by kernel_rfl) (ab6 Tryd.func26 (by kernel_rfl) (by kernel_rfl) (by kernel_rfl))
def ic27:IC :=
(.seq
(.reg 0 [oM 2 (.c .aa1)] [0])
(.seq
(.reg 1 [oM 4 T0,oK 5 (.call 37 [T4]),oM 3 T5] [3])
(.seq
(.reg 2 [oM 6 T3,oK 7 (.call 38 [T6])] [3])
(.seq
(.reg 3 [oM 8 T3,oM 2 T8] [2])
.ret))))
theorem fok27:FOK Tryd.prog 27 (9,ic27,[(.t 2)]):=bk2 [] Tryd.func27
def ic28:IC :=
(.seq
(.reg 0 [oK 1 (.ar7 T0),oM 2 (.c .ae6)] [1])
(.seq
(.reg 1 [oQ 3 (.mkf 39 [] [T1]),oM 2 T3] [2])
.ret))
theorem fok28:FOK Tryd.prog 28 (4,ic28,[(.t 2)]):=bk2 [1000001] Tryd.func28
def ic29:IC :=
(.seq
(.reg 0 [⟨(some 4),none,(.q (.mov (.c (.int .i64 0))))⟩,⟨(some 5),none,(.q (.mov (.c (.bool false))))⟩] [0,1])
(.seq
(.seq
(.reg 1 [⟨(some 10),none,(.q (.mov T1))⟩,⟨(some 11),none,(.q (.bin .gtr T10 (.c (.int .i64 20))))⟩,⟨(some 12),none,(.q (.mov T11))⟩,⟨(some 13),(some ⟨12,false⟩),(.q (.mov T0))⟩,⟨(some 14),(some ⟨12,false⟩),(.q (.len 0 T13))⟩,⟨(some 15),(some ⟨12,false⟩),(.q (.bin .gtr T14 (.c (.int .i64 100))))⟩,⟨(some 16),none,(.q (.pick T12 (.c (.bool true)) T15))⟩] [0,1,16])
(.cond T16
(.seq
(.reg 2 [⟨(some 4),none,(.q (.mov (.c (.int .i64 0))))⟩,⟨(some 5),none,(.q (.mov (.c (.bool true))))⟩] [4,5])
.ret)
.skip))
(.seq
(.reg 3 [⟨(some 6),none,(.q (.mov (.c (.int .i64 0))))⟩] [0,1,6])
(.seq
(.seq
(.reg 4 [⟨(some 7),none,(.q (.mov (.c (.int .i64 0))))⟩] [0,1,6,7])
(.block 0
(.loop
(.seq
(.seq
(.reg 5 [⟨(some 17),none,(.q (.mov T7))⟩,⟨(some 18),none,(.q (.mov T0))⟩,⟨(some 19),none,(.q (.len 0 T18))⟩,⟨(some 20),none,(.q (.bin .lss T17 T19))⟩] [0,1,6,7,20])
(.cond T20
.skip
(.exit 0)))
(.seq
(.block 1
(.seq
(.seq
(.dreg 7 [⟨(some 23),none,(.q (.mov T0))⟩,⟨(some 24),none,(.q (.mov T7))⟩,⟨(some 25),none,(.q (.ab5 7 T23 T24))⟩,⟨(some 26),none,(.q (.aa9 1 T25))⟩,⟨(some 27),none,(.q (.aa9 0 T26))⟩,⟨(some 28),none,(.q (.load none T27))⟩,⟨(some 29),none,(.q (.len 1 T28))⟩,⟨(some 30),none,(.q (.mov T0))⟩,⟨(some 31),none,(.q (.mov T7))⟩,⟨(some 32),none,(.q (.ab5 7 T30 T31))⟩,⟨(some 33),none,(.q (.aa9 1 T32))⟩,⟨(some 34),none,(.q (.aa9 2 T33))⟩,⟨(some 35),none,(.q (.aa9 1 T34))⟩,⟨(some 36),none,(.q (.load none T35))⟩,⟨(some 37),none,(.q (.len 1 T36))⟩,⟨(some 38),none,(.q (.bin .add T29 T37))⟩,⟨(some 39),none,(.q (.bin .gtr T38 (.c (.int .i64 500))))⟩,⟨(some 40),none,(.q (.mov T39))⟩,⟨(some 41),(some ⟨40,false⟩),(.q (.mov T0))⟩,⟨(some 42),(some ⟨40,false⟩),(.q (.mov T7))⟩,⟨(some 43),(some ⟨40,false⟩),(.q (.ab5 7 T41 T42))⟩,⟨(some 44),(some ⟨40,false⟩),(.q (.aa9 1 T43))⟩,⟨(some 45),(some ⟨40,false⟩),(.q (.aa9 2 T44))⟩,⟨(some 46),(some ⟨40,false⟩),(.q (.aa9 2 T45))⟩,⟨(some 47),(some ⟨40,false⟩),(.q (.load none T46))⟩,⟨(some 48),(some ⟨40,false⟩),(.q (.len 1 T47))⟩,⟨(some 49),(some ⟨40,false⟩),(.q (.bin .gtr T48 (.c (.int .i64 500))))⟩,⟨(some 50),none,(.q (.pick T40 (.c (.bool true)) T49))⟩] false [0,1,6,7,50])
(.cond T50
(.seq
(.reg 8 [⟨(some 4),none,(.q (.mov (.c (.int .i64 0))))⟩,⟨(some 5),none,(.q (.mov (.c (.bool true))))⟩] [4,5])
.ret)
.skip))
(.seq
(.reg 9 [⟨(some 52),none,(.q (.mov T0))⟩,⟨(some 53),none,(.q (.mov T7))⟩,⟨(some 54),none,(.q (.ab5 7 T52 T53))⟩,⟨(some 55),none,(.q (.aa9 6 T54))⟩,⟨(some 56),none,(.q (.load none T55))⟩,⟨(some 57),none,(.q (.mov T1))⟩,⟨(some 58),none,(.q (.bin .add T57 (.c (.int .i64 1))))⟩,⟨(some 59),none,(.call 29 [T56,T58])⟩,⟨(some 51),none,(.q (.mov T59))⟩,⟨(some 60),none,(.q (.ext 0 T51))⟩,⟨(some 61),none,(.q (.ext 1 T51))⟩,⟨(some 8),none,(.q (.mov T60))⟩,⟨(some 9),none,(.q (.mov T61))⟩] [0,1,6,7,8,9])
(.seq
(.reg 10 [⟨(some 62),none,(.q (.mov T6))⟩,⟨(some 63),none,(.q (.bin .add T62 (.c (.int .i64 1))))⟩,⟨(some 64),none,(.q (.mov T8))⟩,⟨(some 65),none,(.q (.bin .add T63 T64))⟩,⟨(some 6),none,(.q (.mov T65))⟩] [0,1,6,7,9])
(.seq
(.reg 11 [⟨(some 66),none,(.q (.mov T9))⟩,⟨(some 67),none,(.q (.mov T66))⟩,⟨(some 68),(some ⟨67,false⟩),(.q (.mov T6))⟩,⟨(some 69),(some ⟨67,false⟩),(.q (.bin .gtr T68 (.c (.int .i64 2000))))⟩,⟨(some 70),none,(.q (.pick T67 (.c (.bool true)) T69))⟩] [0,1,6,7,70])
(.cond T70
(.seq
(.reg 12 [⟨(some 4),none,(.q (.mov (.c (.int .i64 0))))⟩,⟨(some 5),none,(.q (.mov (.c (.bool true))))⟩] [4,5])
.ret)
.skip))))))
(.reg 6 [⟨(some 21),none,(.q (.mov T7))⟩,⟨(some 22),none,(.q (.bin .add T21 (.c (.int .i64 1))))⟩,⟨(some 7),none,(.q (.mov T22))⟩] [0,1,6,7]))))))
(.seq
(.reg 13 [⟨(some 71),none,(.q (.mov T6))⟩,⟨(some 4),none,(.q (.mov T71))⟩,⟨(some 5),none,(.q (.mov (.c (.bool false))))⟩] [4,5])
.ret)))))
theorem fok29:FOK Tryd.prog 29 (72,ic29,[(.t 4),(.t 5)]):=.mk (pf:=[]) (an:=[(0,[0,1]),(1,[0,1,16]),(2,[4,5]),(3,[0,1,6]),(4,[0,1,6,7]),(5,[0,1,6,7,20]),(6,[0,1,6,7]),(7,[0,1,6,7,50]),(8,[4,5]),(9,[0,1,6,7,8,9]),(10,[0,1,6,7,9]),(11,[0,1,6,7,70]),(12,[4,5]),(13,[4,5])]) (by kernel_rfl) (ab6 Tryd.func29 (by kernel_rfl) (by kernel_rfl) (by kernel_rfl))
def ic30:IC :=
(.seq
(.reg 0 [⟨(some 1),none,(.ar7 T0)⟩,⟨(some 2),none,(.alloc [(.int .u8 0),(.str []),(.int .u8 0),(.int .i64 0),(.str []),(.str []),.aa1])⟩] [1,2])
(.seq
(.reg 1 [⟨(some 5),none,(.q (.aa9 0 T1))⟩,⟨(some 6),none,(.q (.load none T5))⟩,⟨(some 7),none,(.q (.aa9 1 T1))⟩,⟨(some 8),none,(.q (.load (some 5) T7))⟩,⟨(some 9),none,(.q (.bld [(.int .u8 0),(.str []),(.int .u8 0),(.int .i64 0),(.str []),(.str []),.aa1] [⟨0,⟨1,T6⟩⟩,⟨1,⟨5,T8⟩⟩]))⟩,⟨(some 3),none,(.alloc [(.int .u8 0),(.str []),(.int .u8 0),(.int .i64 0),(.str []),(.str []),.aa1])⟩,⟨none,none,(.store 7 T3 T9)⟩] [1,2,3])
(.seq
(.seq
(.reg 2 [⟨(some 4),none,(.q (.mov (.c (.int .i64 0))))⟩] [1,2,3,4])
(.block 0
(.loop
(.seq
(.seq
(.reg 3 [⟨(some 10),none,(.q (.mov T4))⟩,⟨(some 11),none,(.q (.aa9 6 T1))⟩,⟨(some 12),none,(.q (.load none T11))⟩,⟨(some 13),none,(.q (.len 0 T12))⟩,⟨(some 14),none,(.q (.bin .lss T10 T13))⟩] [1,2,3,4,14])
(.cond T14
.skip
(.exit 0)))
(.seq
(.block 1
(.dreg 5 [⟨(some 17),none,(.q (.aa9 6 T3))⟩,⟨(some 18),none,(.q (.load none T17))⟩,⟨(some 19),none,(.q (.aa9 6 T1))⟩,⟨(some 20),none,(.q (.load none T19))⟩,⟨(some 21),none,(.q (.mov T4))⟩,⟨(some 22),none,(.q (.ab5 7 T20 T21))⟩,⟨(some 23),none,(.q (.load (some 7) T22))⟩,⟨(some 24),none,(.aj4 30 [T23])⟩,⟨(some 25),none,(.av2 7 1 [(.int .u8 0),(.str []),(.int .u8 0),(.int .i64 0),(.str []),(.str []),.aa1] [⟨0,⟨7,T24⟩⟩])⟩,⟨(some 26),none,(.app 7 T18 T25)⟩,⟨(some 27),none,(.q (.aa9 6 T3))⟩,⟨none,none,(.store 1 T27 T26)⟩] true [1,2,3,4]))
(.reg 4 [⟨(some 15),none,(.q (.mov T4))⟩,⟨(some 16),none,(.q (.bin .add T15 (.c (.int .i64 1))))⟩,⟨(some 4),none,(.q (.mov T16))⟩] [1,2,3,4]))))))
(.seq
(.reg 6 [⟨(some 28),none,(.q (.load (some 7) T3))⟩,⟨none,none,(.store 7 T2 T28)⟩] [2])
.ret))))
theorem fok30:FOK Tryd.prog 30 (29,ic30,[(.cell (some 7) 2)]):=.mk (pf:=([1000001,1000025]++fd2)) (an:=[(0,[1,2]),(1,[1,2,3]),(2,[1,2,3,4]),(3,[1,2,3,4,14]),(4,[1,2,3,4]),(5,[1,2,3,4]),(6,[2])]) (by kernel_rfl) (ab6 Tryd.func30 (by kernel_rfl) (by kernel_rfl) (by kernel_rfl))
def ic31:IC :=
(.seq
(.reg 0 [⟨(some 1),none,(.ar7 T0)⟩,⟨(some 2),none,(.alloc [(.bool false)])⟩] [1,2])
(.seq
(.block 0
(.seq
(.reg 1 [⟨(some 8),none,(.q (.aa9 0 T1))⟩,⟨(some 9),none,(.q (.load none T8))⟩,⟨(some 10),none,(.call 40 [T9])⟩,⟨(some 11),none,(.q (.not T10))⟩,⟨(some 12),none,(.q (.mov T11))⟩,⟨(some 13),(some ⟨12,false⟩),(.q (.aa9 0 T1))⟩,⟨(some 14),(some ⟨12,false⟩),(.q (.load none T13))⟩,⟨(some 15),(some ⟨12,false⟩),(.call 41 [T14])⟩,⟨(some 16),none,(.q (.pick T12 (.c (.bool true)) T15))⟩,⟨(some 17),none,(.q (.mov T16))⟩,⟨(some 18),(some ⟨17,false⟩),(.q (.aa9 1 T1))⟩,⟨(some 19),(some ⟨17,false⟩),(.q (.load (some 3) T18))⟩,⟨(some 20),(some ⟨17,false⟩),(.call 42 [T19,(.c (.bool false))])⟩,⟨(some 21),(some ⟨17,false⟩),(.q (.not T20))⟩,⟨(some 22),none,(.q (.pick T17 (.c (.bool true)) T21))⟩,⟨(some 7),none,(.q (.mov T22))⟩] [1,2,7])
(.cond T7
(.seq
(.reg 2 [⟨none,none,(.store 1 T2 (.c (.bool false)))⟩] [2])
.ret)
(.seq
(.reg 3 [⟨(some 24),none,(.q (.aa9 4 T1))⟩,⟨(some 25),none,(.q (.load none T24))⟩,⟨(some 26),none,(.call 43 [T25])⟩,⟨(some 27),none,(.q (.bin .eql T26 (.c (.str []))))⟩,⟨(some 28),none,(.q (.mov T27))⟩,⟨(some 29),(some ⟨28,false⟩),(.q (.aa9 5 T1))⟩,⟨(some 30),(some ⟨28,false⟩),(.q (.load none T29))⟩,⟨(some 31),(some ⟨28,false⟩),(.q (.len 1 T30))⟩,⟨(some 32),(some ⟨28,false⟩),(.q (.bin .gtr T31 (.c (.int .i64 64))))⟩,⟨(some 33),none,(.q (.pick T28 (.c (.bool true)) T32))⟩,⟨(some 23),none,(.q (.mov T33))⟩] [1,2,23])
(.cond T23
(.seq
(.reg 4 [⟨none,none,(.store 1 T2 (.c (.bool false)))⟩] [2])
.ret)
(.seq
(.reg 5 [⟨(some 35),none,(.q (.aa9 6 T1))⟩,⟨(some 36),none,(.q (.load none T35))⟩,⟨(some 37),none,(.call 44 [T36,(.c (.int .i64 32)),(.f 45)])⟩,⟨(some 38),none,(.q (.not T37))⟩,⟨(some 39),none,(.q (.mov T38))⟩,⟨(some 40),(some ⟨39,false⟩),(.q (.aa9 9 T1))⟩,⟨(some 41),(some ⟨39,false⟩),(.q (.load none T40))⟩,⟨(some 42),(some ⟨39,false⟩),(.call 44 [T41,(.c (.int .i64 32)),(.f 45)])⟩,⟨(some 43),(some ⟨39,false⟩),(.q (.not T42))⟩,⟨(some 44),none,(.q (.pick T39 (.c (.bool true)) T43))⟩,⟨(some 45),none,(.q (.mov T44))⟩,⟨(some 46),(some ⟨45,false⟩),(.q (.aa9 14 T1))⟩,⟨(some 47),(some ⟨45,false⟩),(.q (.load none T46))⟩,⟨(some 48),(some ⟨45,false⟩),(.call 46 [T47,(.c (.int .i64 32)),(.f 41)])⟩,⟨(some 49),(some ⟨45,false⟩),(.q (.not T48))⟩,⟨(some 50),none,(.q (.pick T45 (.c (.bool true)) T49))⟩,⟨(some 34),none,(.q (.mov T50))⟩] [1,2,34])
(.cond T34
(.seq
(.reg 6 [⟨none,none,(.store 1 T2 (.c (.bool false)))⟩] [2])
.ret)
.skip)))))))
(.seq
(.seq
(.reg 7 [⟨(some 51),none,(.q (.aa9 14 T1))⟩,⟨(some 52),none,(.q (.load none T51))⟩,⟨(some 53),none,(.q (.len 0 T52))⟩,⟨(some 54),none,(.q (.mov (.c (.int .i64 0))))⟩] [1,2,52,53,54])
(.block 1
(.loop
(.seq
(.reg 8 [⟨(some 55),none,(.q (.bin .lss T54 T53))⟩] [1,2,52,53,54,55])
(.seq
(.cond T55
.skip
(.exit 1))
(.seq
(.block 2
(.seq
(.reg 9 [⟨(some 56),none,(.q (.mov T54))⟩,⟨(some 57),none,(.q (.ab5 1 T52 T54))⟩,⟨(some 58),none,(.q (.load none T57))⟩,⟨(some 3),none,(.q (.mov T56))⟩,⟨(some 4),none,(.q (.mov T58))⟩] [1,2,3,4,52,53,54])
(.seq
(.reg 10 [⟨(some 59),none,(.q (.mov T3))⟩,⟨(some 60),none,(.q (.bin .gtr T59 (.c (.int .i64 0))))⟩,⟨(some 61),none,(.q (.mov T60))⟩,⟨(some 62),(some ⟨61,true⟩),(.q (.aa9 14 T1))⟩,⟨(some 63),(some ⟨61,true⟩),(.q (.load none T62))⟩,⟨(some 64),(some ⟨61,true⟩),(.q (.mov T3))⟩,⟨(some 65),(some ⟨61,true⟩),(.q (.bin .sub T64 (.c (.int .i64 1))))⟩,⟨(some 66),(some ⟨61,true⟩),(.q (.ab5 1 T63 T65))⟩,⟨(some 67),(some ⟨61,true⟩),(.q (.load none T66))⟩,⟨(some 68),(some ⟨61,true⟩),(.q (.mov T4))⟩,⟨(some 69),(some ⟨61,true⟩),(.q (.bin .geq T67 T68))⟩,⟨(some 70),none,(.q (.pick T61 T69 (.c (.bool false))))⟩] [1,2,52,53,54,70])
(.cond T70
(.seq
(.reg 11 [⟨none,none,(.store 1 T2 (.c (.bool false)))⟩] [2])
.ret)
.skip))))
(.reg 12 [⟨(some 71),none,(.q (.bin .add T54 (.c (.int .i64 1))))⟩,⟨(some 54),none,(.q (.mov T71))⟩] [1,2,52,53,54])))))))
(.seq
(.seq
(.reg 13 [⟨(some 72),none,(.q (.load (some 15) T1))⟩,⟨(some 73),none,(.call 47 [T72])⟩] [2,73])
(.block 3
(.rfunc T73 [74,75]
(.seq
(.reg 14 [⟨(some 5),none,(.alloc [(.int .u8 0)])⟩,⟨none,none,(.store 1 T5 T74)⟩] [2,5,75])
(.reg 15 [⟨(some 6),none,(.q (.mov T75))⟩] [2,5,6]))
(.block 4
(.seq
(.reg 16 [⟨(some 76),none,(.q (.mov T6))⟩,⟨(some 77),none,(.q (.mkf 49 [] [T5]))⟩,⟨(some 78),none,(.call 48 [T76,(.c (.int .i64 32)),T77])⟩,⟨(some 79),none,(.q (.not T78))⟩] [2,79])
(.cond T79
(.seq
(.reg 17 [⟨none,none,(.store 1 T2 (.c (.bool false)))⟩] [])
.ret)
.skip))))))
(.seq
(.reg 18 [⟨none,none,(.store 1 T2 (.c (.bool true)))⟩] [2])
.ret)))))
theorem fok31:FOK Tryd.prog 31 (80,ic31,[(.cell none 2)]):=.mk (pf:=[1000001]) (an:=[(0,[1,2]),(1,[1,2,7]),(2,[2]),(3,[1,2,23]),(4,[2]),(5,[1,2,34]),(6,[2]),(7,[1,2,52,53,54]),(8,[1,2,52,53,54,55]),(9,[1,2,3,4,52,53,54]),(10,[1,2,52,53,54,70]),(11,[2]),(12,[1,2,52,53,54]),(13,[2,73]),(14,[2,5,75]),(15,[2,5,6]),(16,[2,79]),(18,[2])]) (by kernel_rfl) (ab6 Tryd.func31 (by kernel_rfl) (by kernel_rfl) (by kernel_rfl))
def ic32:IC :=
(.seq
(.reg 0 [⟨(some 2),none,(.q (.mov (.c .aa1)))⟩] [0])
(.seq
(.seq
(.reg 1 [⟨(some 3),none,(.q (.mov T0))⟩,⟨(some 4),none,(.q (.bg7 (.slice 39) false T3))⟩] [0,4])
(.cond T4
(.seq
(.reg 2 [⟨(some 2),none,(.q (.mov (.c .aa1)))⟩] [2])
.ret)
.skip))
(.seq
(.reg 3 [⟨(some 5),none,(.bsl 5 0 [(.str []),(.int .u8 0),(.int .i64 0),(.str []),(.str [])] [])⟩,⟨(some 6),none,(.q (.mov T0))⟩,⟨(some 7),none,(.app 5 T5 T6)⟩,⟨(some 2),none,(.q (.mov T7))⟩] [2])
.ret)))
theorem fok32:FOK Tryd.prog 32 (8,ic32,[(.t 2)]):=.mk (pf:=[]) (an:=[(0,[0]),(1,[0,4]),(2,[2]),(3,[2])]) (by kernel_rfl) (ab6 Tryd.func32 (by kernel_rfl) (by kernel_rfl) (by kernel_rfl))
def ic33:IC :=
(.seq
(.reg 0 [⟨(some 2),none,(.q (.mov (.c .aa1)))⟩] [0])
(.seq
(.seq
(.reg 1 [⟨(some 3),none,(.q (.mov T0))⟩,⟨(some 4),none,(.q (.bg7 (.slice 9) false T3))⟩] [0,4])
(.cond T4
(.seq
(.reg 2 [⟨(some 2),none,(.q (.mov (.c .aa1)))⟩] [2])
.ret)
.skip))
(.seq
(.reg 3 [⟨(some 5),none,(.bsl 1 0 [(.str [])] [])⟩,⟨(some 6),none,(.q (.mov T0))⟩,⟨(some 7),none,(.app 1 T5 T6)⟩,⟨(some 2),none,(.q (.mov T7))⟩] [2])
.ret)))
theorem fok33:FOK Tryd.prog 33 (8,ic33,[(.t 2)]):=.mk (pf:=[]) (an:=[(0,[0]),(1,[0,4]),(2,[2]),(3,[2])]) (by kernel_rfl) (ab6 Tryd.func33 (by kernel_rfl) (by kernel_rfl) (by kernel_rfl))
def ic34:IC :=
(.seq
(.reg 0 [⟨(some 2),none,(.q (.mov (.c .aa1)))⟩] [0])
(.seq
(.seq
(.reg 1 [⟨(some 3),none,(.q (.mov T0))⟩,⟨(some 4),none,(.q (.bg7 (.slice 41) false T3))⟩] [0,4])
(.cond T4
(.seq
(.reg 2 [⟨(some 2),none,(.q (.mov (.c .aa1)))⟩] [2])
.ret)
.skip))
(.seq
(.reg 3 [⟨(some 5),none,(.bsl 7 0 [(.int .u8 0),(.str []),(.int .u8 0),(.int .i64 0),(.str []),(.str []),.aa1] [])⟩,⟨(some 6),none,(.q (.mov T0))⟩,⟨(some 7),none,(.app 7 T5 T6)⟩,⟨(some 2),none,(.q (.mov T7))⟩] [2])
.ret)))
theorem fok34:FOK Tryd.prog 34 (8,ic34,[(.t 2)]):=.mk (pf:=[]) (an:=[(0,[0]),(1,[0,4]),(2,[2]),(3,[2])]) (by kernel_rfl) (ab6 Tryd.func34 (by kernel_rfl) (by kernel_rfl) (by kernel_rfl))
def ic35:IC :=
(.seq
(.reg 0 [⟨(some 1),none,(.ar7 T0)⟩,⟨(some 2),none,(.alloc [(.int .u8 0),(.str []),(.int .u8 0),(.int .i64 0),(.str []),(.str []),.aa1])⟩] [1,2])
(.seq
(.reg 1 [⟨(some 6),none,(.q (.aa9 0 T1))⟩,⟨(some 7),none,(.q (.load none T6))⟩,⟨(some 8),none,(.q (.aa9 1 T1))⟩,⟨(some 9),none,(.q (.load (some 5) T8))⟩,⟨(some 10),none,(.q (.bld [(.int .u8 0),(.str []),(.int .u8 0),(.int .i64 0),(.str []),(.str []),.aa1] [⟨0,⟨1,T7⟩⟩,⟨1,⟨5,T9⟩⟩]))⟩,⟨(some 3),none,(.alloc [(.int .u8 0),(.str []),(.int .u8 0),(.int .i64 0),(.str []),(.str []),.aa1])⟩,⟨none,none,(.store 7 T3 T10)⟩] [1,2,3])
(.seq
(.seq
(.reg 2 [⟨(some 11),none,(.q (.aa9 6 T1))⟩,⟨(some 12),none,(.q (.load none T11))⟩,⟨(some 13),none,(.q (.len 0 T12))⟩,⟨(some 14),none,(.q (.mov (.c (.int .i64 0))))⟩] [2,3,12,13,14])
(.block 0
(.loop
(.seq
(.reg 3 [⟨(some 15),none,(.q (.bin .lss T14 T13))⟩] [2,3,12,13,14,15])
(.seq
(.cond T15
.skip
(.exit 0))
(.seq
(.block 1
(.seq
(.reg 4 [⟨(some 16),none,(.q (.ab5 7 T12 T14))⟩,⟨(some 17),none,(.q (.load (some 7) T16))⟩,⟨(some 5),none,(.alloc [(.int .u8 0),(.str []),(.int .u8 0),(.int .i64 0),(.str []),(.str []),.aa1])⟩,⟨none,none,(.store 7 T5 T17)⟩] [2,3,5,12,13,14])
(.dreg 5 [⟨(some 18),none,(.q (.aa9 6 T3))⟩,⟨(some 19),none,(.q (.load none T18))⟩,⟨(some 20),none,(.q (.load (some 7) T5))⟩,⟨(some 21),none,(.aj4 35 [T20])⟩,⟨(some 22),none,(.av2 7 1 [(.int .u8 0),(.str []),(.int .u8 0),(.int .i64 0),(.str []),(.str []),.aa1] [⟨0,⟨7,T21⟩⟩])⟩,⟨(some 23),none,(.app 7 T19 T22)⟩,⟨(some 24),none,(.q (.aa9 6 T3))⟩,⟨none,none,(.store 1 T24 T23)⟩] true [2,3,12,13,14])))
(.reg 6 [⟨(some 25),none,(.q (.bin .add T14 (.c (.int .i64 1))))⟩,⟨(some 14),none,(.q (.mov T25))⟩] [2,3,12,13,14])))))))
(.seq
(.reg 7 [⟨(some 26),none,(.q (.load (some 7) T3))⟩,⟨none,none,(.store 7 T2 T26)⟩] [2])
.ret))))
theorem fok35:FOK Tryd.prog 35 (27,ic35,[(.cell (some 7) 2)]):=.mk (pf:=([1000001,1000022]++fd2)) (an:=[(0,[1,2]),(1,[1,2,3]),(2,[2,3,12,13,14]),(3,[2,3,12,13,14,15]),(4,[2,3,5,12,13,14]),(5,[2,3,12,13,14]),(6,[2,3,12,13,14]),(7,[2])]) (by kernel_rfl) (ab6 Tryd.func35 (by kernel_rfl) (by kernel_rfl) (by kernel_rfl))
def ic36:IC :=
(.seq
(.reg 0 [⟨(some 2),none,(.ar7 T0)⟩,⟨(some 3),none,(.ar7 T1)⟩,⟨(some 4),none,(.q (.mov (.c (.bool false))))⟩] [2,3])
(.seq
(.seq
(.reg 1 [⟨(some 6),none,(.q (.aa9 0 T2))⟩,⟨(some 7),none,(.q (.load none T6))⟩,⟨(some 8),none,(.q (.aa9 0 T3))⟩,⟨(some 9),none,(.q (.load none T8))⟩,⟨(some 10),none,(.q (.bin .neq T7 T9))⟩,⟨(some 11),none,(.q (.mov T10))⟩,⟨(some 12),(some ⟨11,false⟩),(.q (.aa9 1 T2))⟩,⟨(some 13),(some ⟨11,false⟩),(.q (.load (some 5) T12))⟩,⟨(some 14),(some ⟨11,false⟩),(.q (.aa9 1 T3))⟩,⟨(some 15),(some ⟨11,false⟩),(.q (.load (some 5) T14))⟩,⟨(some 16),(some ⟨11,false⟩),(.q (.eqs [2,1,1,2,2] true true T13 T15))⟩,⟨(some 17),none,(.q (.pick T11 (.c (.bool true)) T16))⟩,⟨(some 18),none,(.q (.mov T17))⟩,⟨(some 19),(some ⟨18,false⟩),(.q (.aa9 6 T2))⟩,⟨(some 20),(some ⟨18,false⟩),(.q (.load none T19))⟩,⟨(some 21),(some ⟨18,false⟩),(.q (.len 0 T20))⟩,⟨(some 22),(some ⟨18,false⟩),(.q (.aa9 6 T3))⟩,⟨(some 23),(some ⟨18,false⟩),(.q (.load none T22))⟩,⟨(some 24),(some ⟨18,false⟩),(.q (.len 0 T23))⟩,⟨(some 25),(some ⟨18,false⟩),(.q (.bin .neq T21 T24))⟩,⟨(some 26),none,(.q (.pick T18 (.c (.bool true)) T25))⟩] [2,3,26])
(.cond T26
(.seq
(.reg 2 [⟨(some 4),none,(.q (.mov (.c (.bool false))))⟩] [4])
.ret)
.skip))
(.seq
(.seq
(.reg 3 [⟨(some 5),none,(.q (.mov (.c (.int .i64 0))))⟩] [2,3,5])
(.block 0
(.loop
(.seq
(.seq
(.reg 4 [⟨(some 27),none,(.q (.mov T5))⟩,⟨(some 28),none,(.q (.aa9 6 T2))⟩,⟨(some 29),none,(.q (.load none T28))⟩,⟨(some 30),none,(.q (.len 0 T29))⟩,⟨(some 31),none,(.q (.bin .lss T27 T30))⟩] [2,3,5,31])
(.cond T31
.skip
(.exit 0)))
(.seq
(.block 1
(.seq
(.dreg 6 [⟨(some 34),none,(.q (.aa9 6 T2))⟩,⟨(some 35),none,(.q (.load none T34))⟩,⟨(some 36),none,(.q (.mov T5))⟩,⟨(some 37),none,(.q (.ab5 7 T35 T36))⟩,⟨(some 38),none,(.q (.load (some 7) T37))⟩,⟨(some 39),none,(.q (.aa9 6 T3))⟩,⟨(some 40),none,(.q (.load none T39))⟩,⟨(some 41),none,(.q (.mov T5))⟩,⟨(some 42),none,(.q (.ab5 7 T40 T41))⟩,⟨(some 43),none,(.q (.load (some 7) T42))⟩,⟨(some 44),none,(.call 36 [T38,T43])⟩,⟨(some 45),none,(.q (.not T44))⟩] false [2,3,5,45])
(.cond T45
(.seq
(.reg 7 [⟨(some 4),none,(.q (.mov (.c (.bool false))))⟩] [4])
.ret)
.skip)))
(.reg 5 [⟨(some 32),none,(.q (.mov T5))⟩,⟨(some 33),none,(.q (.bin .add T32 (.c (.int .i64 1))))⟩,⟨(some 5),none,(.q (.mov T33))⟩] [2,3,5]))))))
(.seq
(.reg 8 [⟨(some 4),none,(.q (.mov (.c (.bool true))))⟩] [4])
.ret))))
theorem fok36:FOK Tryd.prog 36 (46,ic36,[(.t 4)]):=.mk (pf:=[1000002,1000003]) (an:=[(0,[2,3]),(1,[2,3,26]),(2,[4]),(3,[2,3,5]),(4,[2,3,5,31]),(5,[2,3,5]),(6,[2,3,5,45]),(7,[4]),(8,[4])]) (by kernel_rfl) (ab6 Tryd.func36 (by kernel_rfl) (by kernel_rfl) (by kernel_rfl))
def ic37:IC :=
(.seq
(.reg 0 [oM 2 (.c .aa1)] [0])
(.seq
(.reg 1 [oM 3 T0,oK 4 (.call 51 [(.c .aa1),T3]),oM 2 T4] [2])
.ret))
theorem fok37:FOK Tryd.prog 37 (5,ic37,[(.t 2)]):=bk2 [] Tryd.func37
def ic38:IC :=
(.seq
(.reg 0 [oM 3 T0,oQ 4 (.len 0 T3),oM 2 T4] [0,2])
(.reg 1 [oM 5 T0,oM 6 T2,oM 7 T2,oQ 8 (.conv .u64 T7),oK 9 (.call 53 [T8]),oK 10 (.call 52 [T5,(cI 0),T6,T9])] []))
theorem fok38:FOK Tryd.prog 38 (11,ic38,[]):=bk2 [] Tryd.func38
def ic39:IC :=
(.seq
(.reg 0 [oQ 4 (.load none T1),oK 5 (.aq9 T4)] [0,5])
(.block 0
(.loop
(.seq
(.reg 1 [oK 6 (.bj2 T5),oQ 7 (.ext 0 T6)] [0,5,7])
(.seq
(.cond T7
.skip
(.exit 0))
(.block 1
(.seq
(.reg 2 [oK 8 (.dn5 T5),oQ 9 (.ext 0 T8),oM 3 T9] [0,3,5])
(.seq
(.reg 3 [oM 10 T0,oM 11 T3,oK 12 (.an7 T10 [T11]),oQ 13 (.not T12)] [0,5,13])
(.cond T13
.ret
.skip)))))))))
theorem fok39:FOK Tryd.prog 39 (14,ic39,[]):=bk2 [] Tryd.func39
def ic40:IC :=
(.seq
(.reg 0 [⟨(some 2),none,(.q (.mov (.c (.bool false))))⟩] [0])
(.seq
(.seq
(.reg 1 [⟨(some 7),none,(.q (.mov T0))⟩,⟨(some 8),none,(.q (.len 1 T7))⟩,⟨(some 9),none,(.q (.bin .lss T8 (.c (.int .i64 1))))⟩,⟨(some 10),none,(.q (.mov T9))⟩,⟨(some 11),(some ⟨10,false⟩),(.q (.mov T0))⟩,⟨(some 12),(some ⟨10,false⟩),(.q (.len 1 T11))⟩,⟨(some 13),(some ⟨10,false⟩),(.q (.bin .gtr T12 (.c (.int .i64 64))))⟩,⟨(some 14),none,(.q (.pick T10 (.c (.bool true)) T13))⟩] [0,14])
(.cond T14
(.seq
(.reg 2 [⟨(some 2),none,(.q (.mov (.c (.bool false))))⟩] [2])
.ret)
.skip))
(.seq
(.seq
(.reg 3 [⟨(some 15),none,(.q (.mov T0))⟩,⟨(some 16),none,(.av1 T15)⟩] [0,16])
(.block 0
(.loop
(.seq
(.reg 4 [⟨(some 17),none,(.bq6 T16)⟩,⟨(some 18),none,(.q (.ext 0 T17))⟩] [0,16,17,18])
(.seq
(.cond T18
.skip
(.exit 0))
(.block 1
(.seq
(.reg 5 [⟨(some 19),none,(.q (.ext 2 T17))⟩,⟨(some 4),none,(.q (.mov T19))⟩] [0,4,16])
(.seq
(.reg 6 [⟨(some 20),none,(.q (.mov T4))⟩,⟨(some 21),none,(.q (.bin .gtr T20 (.c (.int .i32 126))))⟩,⟨(some 22),none,(.q (.mov T21))⟩,⟨(some 23),(some ⟨22,false⟩),(.q (.mov T4))⟩,⟨(some 24),(some ⟨22,false⟩),(.q (.conv .u8 T23))⟩,⟨(some 25),(some ⟨22,false⟩),(.call 54 [(.c (.str [97,98,99,100,101,102,103,104,105,106,107,108,109,110,111,112,113,114,115,116,117,118,119,120,121,122,65,66,67,68,69,70,71,72,73,74,75,76,77,78,79,80,81,82,83,84,85,86,87,88,89,90,48,49,50,51,52,53,54,55,56,57,46,95,43,45,47,58,64,126,94])),T24])⟩,⟨(some 26),(some ⟨22,false⟩),(.q (.bin .lss T25 (.c (.int .i64 0))))⟩,⟨(some 27),none,(.q (.pick T22 (.c (.bool true)) T26))⟩] [0,16,27])
(.cond T27
(.seq
(.reg 7 [⟨(some 2),none,(.q (.mov (.c (.bool false))))⟩] [2])
.ret)
.skip)))))))))
(.seq
(.seq
(.reg 8 [⟨(some 28),none,(.q (.load (some 7) (.g 0)))⟩,⟨(some 29),none,(.q (.mov (.c (.int .i64 0))))⟩] [0,28,29])
(.block 2
(.loop
(.seq
(.reg 9 [⟨(some 30),none,(.q (.bin .lss T29 (.c (.int .i64 7))))⟩] [0,28,29,30])
(.seq
(.cond T30
.skip
(.exit 2))
(.seq
(.block 3
(.seq
(.reg 10 [⟨(some 31),none,(.q (.idx none 7 1 T28 T29))⟩,⟨(some 6),none,(.q (.mov T31))⟩] [0,6,28,29])
(.seq
(.reg 11 [⟨(some 32),none,(.q (.mov T0))⟩,⟨(some 33),none,(.q (.mov T6))⟩,⟨(some 34),none,(.q (.bin .eql T32 T33))⟩] [0,28,29,34])
(.cond T34
(.seq
(.reg 12 [⟨(some 2),none,(.q (.mov (.c (.bool false))))⟩] [2])
.ret)
.skip))))
(.reg 13 [⟨(some 35),none,(.q (.bin .add T29 (.c (.int .i64 1))))⟩,⟨(some 29),none,(.q (.mov T35))⟩] [0,28,29])))))))
(.seq
(.reg 14 [⟨(some 2),none,(.q (.mov (.c (.bool true))))⟩] [2])
.ret)))))
theorem fok40:FOK Tryd.prog 40 (36,ic40,[(.t 2)]):=.mk (pf:=[]) (an:=[(0,[0]),(1,[0,14]),(2,[2]),(3,[0,16]),(4,[0,16,17,18]),(5,[0,4,16]),(6,[0,16,27]),(7,[2]),(8,[0,28,29]),(9,[0,28,29,30]),(10,[0,6,28,29]),(11,[0,28,29,34]),(12,[2]),(13,[0,28,29]),(14,[2])]) (by kernel_rfl) (ab6 Tryd.func40 (by kernel_rfl) (by kernel_rfl) (by kernel_rfl))
def ic41:IC :=
(.seq
(.reg 0 [⟨(some 2),none,(.q (.mov (.c (.bool false))))⟩] [0])
(.seq
(.reg 1 [⟨(some 3),none,(.q (.mov T0))⟩,⟨(some 4),none,(.call 40 [T3])⟩,⟨(some 5),none,(.q (.mov T4))⟩,⟨(some 6),(some ⟨5,true⟩),(.q (.mov T0))⟩,⟨(some 7),(some ⟨5,true⟩),(.call 55 [T6,(.c (.str [47]))])⟩,⟨(some 8),none,(.q (.pick T5 T7 (.c (.bool false))))⟩,⟨(some 2),none,(.q (.mov T8))⟩] [2])
.ret))
theorem fok41:FOK Tryd.prog 41 (9,ic41,[(.t 2)]):=.mk (pf:=[]) (an:=[(0,[0]),(1,[2])]) (by kernel_rfl) (ab6 Tryd.func41 (by kernel_rfl) (by kernel_rfl) (by kernel_rfl))
def ic42:IC :=
(.seq
(.reg 0 [⟨(some 2),none,(.ar7 T0)⟩,⟨(some 4),none,(.q (.mov (.c (.bool false))))⟩] [1,2])
(.seq
(.reg 1 [⟨(some 5),none,(.q (.aa9 0 T2))⟩,⟨(some 6),none,(.q (.load none T5))⟩,⟨(some 7),none,(.q (.bin .geq T6 (.c (.int .i64 0))))⟩,⟨(some 8),none,(.q (.mov T7))⟩,⟨(some 9),(some ⟨8,true⟩),(.q (.aa9 0 T2))⟩,⟨(some 10),(some ⟨8,true⟩),(.q (.load none T9))⟩,⟨(some 11),(some ⟨8,true⟩),(.q (.bin .leq T10 (.c (.int .i64 2147483647))))⟩,⟨(some 12),none,(.q (.pick T8 T11 (.c (.bool false))))⟩,⟨(some 13),none,(.q (.mov T12))⟩,⟨(some 14),(some ⟨13,true⟩),(.q (.aa9 1 T2))⟩,⟨(some 15),(some ⟨13,true⟩),(.q (.load none T14))⟩,⟨(some 16),(some ⟨13,true⟩),(.call 56 [T15])⟩,⟨(some 17),none,(.q (.pick T13 T16 (.c (.bool false))))⟩,⟨(some 18),none,(.q (.mov T17))⟩,⟨(some 19),(some ⟨18,true⟩),(.q (.aa9 2 T2))⟩,⟨(some 20),(some ⟨18,true⟩),(.q (.load none T19))⟩,⟨(some 21),(some ⟨18,true⟩),(.call 56 [T20])⟩,⟨(some 22),(some ⟨18,true⟩),(.q (.mov T21))⟩,⟨(some 23),(some ⟨22,false⟩),(.q (.mov T1))⟩,⟨(some 24),(some ⟨22,false⟩),(.q (.mov T23))⟩,⟨(some 25),(some ⟨24,true⟩),(.q (.aa9 2 T2))⟩,⟨(some 26),(some ⟨24,true⟩),(.q (.load none T25))⟩,⟨(some 27),(some ⟨24,true⟩),(.q (.bin .eql T26 (.c (.str []))))⟩,⟨(some 28),(some ⟨22,false⟩),(.q (.pick T24 T27 (.c (.bool false))))⟩,⟨(some 29),(some ⟨18,true⟩),(.q (.pick T22 (.c (.bool true)) T28))⟩,⟨(some 30),none,(.q (.pick T18 T29 (.c (.bool false))))⟩,⟨(some 4),none,(.q (.mov T30))⟩] [4])
.ret))
theorem fok42:FOK Tryd.prog 42 (31,ic42,[(.t 4)]):=.mk (pf:=[1000002]) (an:=[(0,[1,2]),(1,[4])]) (by kernel_rfl) (ab6 Tryd.func42 (by kernel_rfl) (by kernel_rfl) (by kernel_rfl))
def ic43:IC :=
(.seq
(.reg 0 [⟨(some 2),none,(.q (.mov (.c (.str []))))⟩] [0])
(.seq
(.seq
(.reg 1 [⟨(some 3),none,(.q (.mov T0))⟩,⟨(some 4),none,(.call 57 [T3])⟩,⟨(some 5),none,(.q (.not T4))⟩] [0,5])
(.cond T5
(.seq
(.reg 2 [⟨(some 2),none,(.q (.mov (.c (.str []))))⟩] [2])
.ret)
.skip))
(.seq
(.reg 3 [⟨(some 6),none,(.call 58 [])⟩,⟨(some 7),none,(.q (.mov T0))⟩,⟨(some 8),none,(.q (.idx none 5 1 T6 T7))⟩,⟨(some 2),none,(.q (.mov T8))⟩] [2])
.ret)))
theorem fok43:FOK Tryd.prog 43 (9,ic43,[(.t 2)]):=.mk (pf:=[]) (an:=[(0,[0]),(1,[0,5]),(2,[2]),(3,[2])]) (by kernel_rfl) (ab6 Tryd.func43 (by kernel_rfl) (by kernel_rfl) (by kernel_rfl))
def ic44:IC :=
(.seq
(.reg 0 [⟨(some 5),none,(.ar7 T2)⟩,⟨(some 6),none,(.q (.mov (.c (.bool false))))⟩] [0,1,5])
(.seq
(.reg 1 [⟨(some 7),none,(.q (.mov T0))⟩,⟨(some 8),none,(.q (.len 0 T7))⟩,⟨(some 9),none,(.q (.mov T1))⟩,⟨(some 10),none,(.q (.bin .leq T8 T9))⟩,⟨(some 11),none,(.q (.mov T10))⟩,⟨(some 12),(some ⟨11,true⟩),(.q (.mov T0))⟩,⟨(some 13),(some ⟨11,true⟩),(.q (.mkf 60 [] [T5]))⟩,⟨(some 14),(some ⟨11,true⟩),(.call 59 [T12,T13])⟩,⟨(some 15),(some ⟨11,true⟩),(.q (.not T14))⟩,⟨(some 16),none,(.q (.pick T11 T15 (.c (.bool false))))⟩,⟨(some 6),none,(.q (.mov T16))⟩] [6])
.ret))
theorem fok44:FOK Tryd.prog 44 (17,ic44,[(.t 6)]):=.mk (pf:=[1000005]) (an:=[(0,[0,1,5]),(1,[6])]) (by kernel_rfl) (ab6 Tryd.func44 (by kernel_rfl) (by kernel_rfl) (by kernel_rfl))
end Go.Id.Tryd
