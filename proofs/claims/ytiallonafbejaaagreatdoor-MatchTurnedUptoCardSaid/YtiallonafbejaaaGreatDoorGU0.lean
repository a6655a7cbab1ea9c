/- The compiled codes of functions,written by a program out of the given form. Conditions: none. -/
import Derived.Test.YtiallonafbejaaaGreatDoorFwYa
import Derived.Test.YtiallonafbejaaaGreatDoorProg
set_option linter.all false
namespace Go.Id.Tryz
open Go Go.Id Go.Proofs
def allF0 : List Nat:=List.range 357
def ic4 : IC :=
(.seq
(.reg 0 [oM 4 (cB false)] [0,1])
(.seq
(.seq
(.reg 1 [oK 13 (.call 22 []),oQ 14 (.not (.t 13)),oM 15 (.t 14),gQ 16 15 false (.mov (.t 0)),gQ 17 15 false (.mov (.t 1)),gK 18 15 false (.call 23 [(.t 16),(.t 17)]),oQ 19 (.pick (.t 15) (cB true) (.t 18))] [0,1,19])
(.cond (.t 19)
(.seq
(.reg 2 [oK 20 (.call 22 []),oM 4 (.t 20)] [4])
.ret)
.skip))
(.seq
(.reg 3 [oM 22 (.t 0),oM 23 (.t 1),oK 24 (.call 24 [(.t 22),(.t 23)]),oM 21 (.t 24),oQ 25 (.ext 0 (.t 21)),oQ 26 (.ext 1 (.t 21)),oQ 27 (.ext 2 (.t 21)),oM 5 (.t 25),oM 6 (.t 26),oM 7 (.t 27)] [5,6,7])
(.seq
(.seq
(.reg 4 [oM 28 (.t 7),oQ 29 (.not (.t 28))] [5,6,29])
(.cond (.t 29)
(.seq
(.reg 5 [oM 30 (.t 5),oQ 31 (.isnil (.pointer 122) false (.t 30)),oM 4 (.t 31)] [4])
.ret)
.skip))
(.seq
(.seq
(.reg 6 [oM 8 (cI 0)] [5,6,8])
(.block 0
(.loop
(.seq
(.seq
(.reg 7 [oM 32 (.t 8),oM 33 (.t 6),oK 34 (.pcall 17 [(.t 33)]),oQ 35 (.bin .lss (.t 32) (.t 34))] [5,6,8,35])
(.cond (.t 35)
.skip
(.exit 0)))
(.seq
(.block 1
(.seq
(.reg 9 [oM 38 (.t 5),oM 39 (.t 8),oK 40 (.pcall 25 [(.t 38),(.t 39)]),oM 41 (.t 5),oM 42 (.t 8),oK 43 (.pcall 26 [(.t 41),(.t 42)]),oM 9 (.t 40),oM 10 (.t 43)] [5,6,8,9,10])
(.seq
(.seq
(.reg 10 [oM 44 (.t 9),oM 45 (.t 8),oK 46 (.pcall 27 [(.t 44),(.t 45)]),oM 47 (.t 46),gQ 48 47 false (.mov (.t 10)),gQ 49 47 false (.mov (.t 8)),gK 50 47 false (.pcall 27 [(.t 48),(.t 49)]),oQ 51 (.pick (.t 47) (cB true) (.t 50))] [5,6,8,9,10,51])
(.cond (.t 51)
(.seq
(.reg 11 [oM 4 (cB false)] [4])
.ret)
.skip))
(.seq
(.seq
(.reg 12 [oM 11 (cI 0)] [5,6,8,9,10,11])
(.block 2
(.loop
(.seq
(.seq
(.reg 13 [oM 52 (.t 11),oM 53 (.t 9),oQ 54 (.len 0 (.t 53)),oQ 55 (.bin .lss (.t 52) (.t 54))] [5,6,8,9,10,11,55])
(.cond (.t 55)
.skip
(.exit 2)))
(.seq
(.block 3
(.seq
(.dreg 15 [oM 58 (.t 11),oQ 59 (.bin .gtr (.t 58) (cI 0)),oM 60 (.t 59),gQ 61 60 true (.mov (.t 9)),gQ 62 60 true (.mov (.t 11)),gQ 63 60 true (.iaddr 1 (.t 61) (.t 62)),gQ 64 60 true (.load none (.t 63)),gQ 65 60 true (.mov (.t 9)),gQ 66 60 true (.mov (.t 11)),gQ 67 60 true (.bin .sub (.t 66) (cI 1)),gQ 68 60 true (.iaddr 1 (.t 65) (.t 67)),gQ 69 60 true (.load none (.t 68)),gQ 70 60 true (.bin .leq (.t 64) (.t 69)),oQ 71 (.pick (.t 60) (.t 70) (cB false)),oM 72 (.t 71),gQ 73 72 false (.mov (.t 9)),gQ 74 72 false (.mov (.t 11)),gQ 75 72 false (.iaddr 1 (.t 73) (.t 74)),gQ 76 72 false (.load none (.t 75)),gQ 77 72 false (.bin .lss (.t 76) (cI 0)),oQ 78 (.pick (.t 72) (cB true) (.t 77)),oM 79 (.t 78),gQ 80 79 false (.mov (.t 9)),gQ 81 79 false (.mov (.t 11)),gQ 82 79 false (.iaddr 1 (.t 80) (.t 81)),gQ 83 79 false (.load none (.t 82)),gQ 84 79 false (.mov (.t 6)),gK 85 79 false (.pcall 17 [(.t 84)]),gQ 86 79 false (.bin .geq (.t 83) (.t 85)),oQ 87 (.pick (.t 79) (cB true) (.t 86)),oM 88 (.t 87),gQ 89 88 false (.mov (.t 5)),gQ 90 88 false (.mov (.t 9)),gQ 91 88 false (.mov (.t 11)),gQ 92 88 false (.iaddr 1 (.t 90) (.t 91)),gQ 93 88 false (.load none (.t 92)),gK 94 88 false (.pcall 26 [(.t 89),(.t 93)]),gQ 95 88 false (.mov (.t 8)),gK 96 88 false (.pcall 27 [(.t 94),(.t 95)]),gQ 97 88 false (.not (.t 96)),oQ 98 (.pick (.t 88) (cB true) (.t 97)),oM 99 (.t 98),gQ 100 99 false (.mov (.t 6)),gQ 101 99 false (.mov (.t 8)),gQ 102 99 false (.mov (.t 9)),gQ 103 99 false (.mov (.t 11)),gQ 104 99 false (.iaddr 1 (.t 102) (.t 103)),gQ 105 99 false (.load none (.t 104)),gK 106 99 false (.pcall 20 [(.t 100),(.t 101),(.t 105)]),gQ 107 99 false (.not (.t 106)),oQ 108 (.pick (.t 99) (cB true) (.t 107))] false [5,6,8,9,10,11,108])
(.cond (.t 108)
(.seq
(.reg 16 [oM 4 (cB false)] [4])
.ret)
.skip)))
(.reg 14 [oM 56 (.t 11),oQ 57 (.bin .add (.t 56) (cI 1)),oM 11 (.t 57)] [5,6,8,9,10,11]))))))
(.seq
(.reg 17 [oM 12 (cI 0)] [5,6,8,10,12])
(.block 4
(.loop
(.seq
(.seq
(.reg 18 [oM 109 (.t 12),oM 110 (.t 10),oQ 111 (.len 0 (.t 110)),oQ 112 (.bin .lss (.t 109) (.t 111))] [5,6,8,10,12,112])
(.cond (.t 112)
.skip
(.exit 4)))
(.seq
(.block 5
(.seq
(.dreg 20 [oM 115 (.t 12),oQ 116 (.bin .gtr (.t 115) (cI 0)),oM 117 (.t 116),gQ 118 117 true (.mov (.t 10)),gQ 119 117 true (.mov (.t 12)),gQ 120 117 true (.iaddr 1 (.t 118) (.t 119)),gQ 121 117 true (.load none (.t 120)),gQ 122 117 true (.mov (.t 10)),gQ 123 117 true (.mov (.t 12)),gQ 124 117 true (.bin .sub (.t 123) (cI 1)),gQ 125 117 true (.iaddr 1 (.t 122) (.t 124)),gQ 126 117 true (.load none (.t 125)),gQ 127 117 true (.bin .leq (.t 121) (.t 126)),oQ 128 (.pick (.t 117) (.t 127) (cB false)),oM 129 (.t 128),gQ 130 129 false (.mov (.t 10)),gQ 131 129 false (.mov (.t 12)),gQ 132 129 false (.iaddr 1 (.t 130) (.t 131)),gQ 133 129 false (.load none (.t 132)),gQ 134 129 false (.bin .lss (.t 133) (cI 0)),oQ 135 (.pick (.t 129) (cB true) (.t 134)),oM 136 (.t 135),gQ 137 136 false (.mov (.t 10)),gQ 138 136 false (.mov (.t 12)),gQ 139 136 false (.iaddr 1 (.t 137) (.t 138)),gQ 140 136 false (.load none (.t 139)),gQ 141 136 false (.mov (.t 6)),gK 142 136 false (.pcall 17 [(.t 141)]),gQ 143 136 false (.bin .geq (.t 140) (.t 142)),oQ 144 (.pick (.t 136) (cB true) (.t 143)),oM 145 (.t 144),gQ 146 145 false (.mov (.t 5)),gQ 147 145 false (.mov (.t 10)),gQ 148 145 false (.mov (.t 12)),gQ 149 145 false (.iaddr 1 (.t 147) (.t 148)),gQ 150 145 false (.load none (.t 149)),gK 151 145 false (.pcall 25 [(.t 146),(.t 150)]),gQ 152 145 false (.mov (.t 8)),gK 153 145 false (.pcall 27 [(.t 151),(.t 152)]),gQ 154 145 false (.not (.t 153)),oQ 155 (.pick (.t 145) (cB true) (.t 154))] false [5,6,8,10,12,155])
(.cond (.t 155)
(.seq
(.reg 21 [oM 4 (cB false)] [4])
.ret)
.skip)))
(.reg 19 [oM 113 (.t 12),oQ 114 (.bin .add (.t 113) (cI 1)),oM 12 (.t 114)] [5,6,8,10,12]))))))))))
(.reg 8 [oM 36 (.t 8),oQ 37 (.bin .add (.t 36) (cI 1)),oM 8 (.t 37)] [5,6,8]))))))
(.seq
(.reg 22 [oM 4 (cB true)] [4])
.ret))))))
theorem fok4 : FOK Tryz.prog 4 (156,ic4,[(.t 4)]):=fokA ([] ++ [17,20,25,26,27]) Tryz.func4 (by kernel_rfl) (by kernel_rfl) (by kernel_rfl) (by kernel_rfl)
def ic15 : IC :=
(.seq
(.reg 0 [⟨(some 4),none,(.q (.mov (.c .nilptr)))⟩,⟨(some 5),none,(.q (.mov (.c (.int .i64 0))))⟩] [0,1])
(.seq
(.reg 1 [⟨(some 14),none,(.q (.mov (.t 1)))⟩,⟨(some 15),none,(.q (.len 0 (.t 14)))⟩,⟨(some 6),none,(.q (.mov (.t 15)))⟩] [0,1,6])
(.seq
(.seq
(.reg 2 [⟨(some 16),none,(.q (.mov (.t 0)))⟩,⟨(some 17),none,(.q (.len 0 (.t 16)))⟩,⟨(some 18),none,(.q (.mov (.c (.int .i64 0))))⟩] [0,1,6,16,17,18])
(.block 0
(.loop
(.seq
(.reg 3 [⟨(some 19),none,(.q (.bin .lss (.t 18) (.t 17)))⟩] [0,1,6,16,17,18,19])
(.seq
(.cond (.t 19)
.skip
(.exit 0))
(.seq
(.block 1
(.seq
(.reg 4 [⟨(some 20),none,(.q (.iaddr 2 (.t 16) (.t 18)))⟩,⟨(some 21),none,(.q (.load (some 2) (.t 20)))⟩,⟨(some 8),none,(.alloc [(.int .i64 0),.nilslice])⟩,⟨none,none,(.store 2 (.t 8) (.t 21))⟩] [0,1,6,8,16,17,18])
(.reg 5 [⟨(some 22),none,(.q (.mov (.t 6)))⟩,⟨(some 23),none,(.q (.faddr 1 (.t 8)))⟩,⟨(some 24),none,(.q (.load none (.t 23)))⟩,⟨(some 25),none,(.q (.len 0 (.t 24)))⟩,⟨(some 26),none,(.q (.bin .add (.t 22) (.t 25)))⟩,⟨(some 6),none,(.q (.mov (.t 26)))⟩] [0,1,6,16,17,18])))
(.reg 6 [⟨(some 27),none,(.q (.bin .add (.t 18) (.c (.int .i64 1))))⟩,⟨(some 18),none,(.q (.mov (.t 27)))⟩] [0,1,6,16,17,18])))))))
(.seq
(.seq
(.reg 7 [⟨(some 28),none,(.q (.mov (.t 0)))⟩,⟨(some 29),none,(.q (.len 0 (.t 28)))⟩,⟨(some 30),none,(.q (.bin .gtr (.t 29) (.c (.int .i64 16))))⟩,⟨(some 31),none,(.q (.mov (.t 30)))⟩,⟨(some 32),(some ⟨31,false⟩),(.q (.mov (.t 6)))⟩,⟨(some 33),(some ⟨31,false⟩),(.q (.bin .gtr (.t 32) (.c (.int .i64 256))))⟩,⟨(some 34),none,(.q (.pick (.t 31) (.c (.bool true)) (.t 33)))⟩] [0,1,34])
(.cond (.t 34)
(.seq
(.reg 8 [⟨(some 4),none,(.q (.mov (.c .nilptr)))⟩,⟨(some 5),none,(.q (.mov (.c (.int .i64 40))))⟩] [4,5])
.ret)
.skip))
(.seq
(.reg 9 [⟨(some 35),none,(.q (.mov (.t 1)))⟩,⟨(some 36),none,(.q (.len 0 (.t 35)))⟩,⟨(some 37),none,.mkmap⟩,⟨(some 38),none,(.q (.bld [.nilslice,(.int .i64 0),.nilmap] [⟨1,⟨1,(.t 36)⟩⟩,⟨2,⟨1,(.t 37)⟩⟩]))⟩,⟨(some 39),none,(.box (.t 38))⟩,⟨(some 9),none,(.q (.mov (.t 39)))⟩] [0,1,9])
(.seq
(.seq
(.reg 10 [⟨(some 40),none,(.q (.mov (.t 9)))⟩,⟨(some 41),none,(.q (.mov (.t 1)))⟩,⟨(some 42),none,(.call 69 [(.t 40),(.t 41),(.c (.int .i64 (-1))),(.c (.int .i64 1025))])⟩,⟨(some 10),none,(.q (.mov (.t 42)))⟩] [0,9,10])
(.seq
(.reg 11 [⟨(some 43),none,(.q (.mov (.t 10)))⟩,⟨(some 44),none,(.q (.bin .neq (.t 43) (.c (.int .i64 0))))⟩] [0,9,10,44])
(.cond (.t 44)
(.seq
(.reg 12 [⟨(some 45),none,(.q (.mov (.t 10)))⟩,⟨(some 4),none,(.q (.mov (.c .nilptr)))⟩,⟨(some 5),none,(.q (.mov (.t 45)))⟩] [4,5])
.ret)
.skip)))
(.seq
(.seq
(.reg 13 [⟨(some 46),none,(.q (.mov (.t 0)))⟩,⟨(some 47),none,(.q (.len 0 (.t 46)))⟩,⟨(some 48),none,(.q (.mov (.c (.int .i64 0))))⟩] [9,46,47,48])
(.block 2
(.loop
(.seq
(.reg 14 [⟨(some 49),none,(.q (.bin .lss (.t 48) (.t 47)))⟩] [9,46,47,48,49])
(.seq
(.cond (.t 49)
.skip
(.exit 2))
(.seq
(.block 3
(.seq
(.reg 15 [⟨(some 50),none,(.q (.mov (.t 48)))⟩,⟨(some 51),none,(.q (.iaddr 2 (.t 46) (.t 48)))⟩,⟨(some 52),none,(.q (.load (some 2) (.t 51)))⟩,⟨(some 12),none,(.alloc [(.int .i64 0),.nilslice])⟩,⟨(some 11),none,(.q (.mov (.t 50)))⟩,⟨none,none,(.store 2 (.t 12) (.t 52))⟩] [9,11,12,46,47,48])
(.seq
(.seq
(.reg 16 [⟨(some 53),none,(.q (.faddr 0 (.t 12)))⟩,⟨(some 54),none,(.q (.load none (.t 53)))⟩,⟨(some 55),none,(.q (.bin .lss (.t 54) (.c (.int .i64 0))))⟩,⟨(some 56),none,(.q (.mov (.t 55)))⟩,⟨(some 57),(some ⟨56,false⟩),(.q (.faddr 0 (.t 12)))⟩,⟨(some 58),(some ⟨56,false⟩),(.q (.load none (.t 57)))⟩,⟨(some 59),(some ⟨56,false⟩),(.q (.bin .gtr (.t 58) (.c (.int .i64 1024))))⟩,⟨(some 60),none,(.q (.pick (.t 56) (.c (.bool true)) (.t 59)))⟩] [9,11,12,46,47,48,60])
(.cond (.t 60)
(.seq
(.reg 17 [⟨(some 4),none,(.q (.mov (.c .nilptr)))⟩,⟨(some 5),none,(.q (.mov (.c (.int .i64 4))))⟩] [4,5])
.ret)
.skip))
(.seq
(.reg 18 [⟨(some 61),none,(.q (.mov (.t 9)))⟩,⟨(some 62),none,(.q (.faddr 1 (.t 12)))⟩,⟨(some 63),none,(.q (.load none (.t 62)))⟩,⟨(some 64),none,(.q (.mov (.t 11)))⟩,⟨(some 65),none,(.q (.faddr 0 (.t 12)))⟩,⟨(some 66),none,(.q (.load none (.t 65)))⟩,⟨(some 67),none,(.call 69 [(.t 61),(.t 63),(.t 64),(.t 66)])⟩,⟨(some 13),none,(.q (.mov (.t 67)))⟩] [9,13,46,47,48])
(.seq
(.reg 19 [⟨(some 68),none,(.q (.mov (.t 13)))⟩,⟨(some 69),none,(.q (.bin .neq (.t 68) (.c (.int .i64 0))))⟩] [9,13,46,47,48,69])
(.cond (.t 69)
(.seq
(.reg 20 [⟨(some 70),none,(.q (.mov (.t 13)))⟩,⟨(some 4),none,(.q (.mov (.c .nilptr)))⟩,⟨(some 5),none,(.q (.mov (.t 70)))⟩] [4,5])
.ret)
.skip))))))
(.reg 21 [⟨(some 71),none,(.q (.bin .add (.t 48) (.c (.int .i64 1))))⟩,⟨(some 48),none,(.q (.mov (.t 71)))⟩] [9,46,47,48])))))))
(.seq
(.reg 22 [⟨(some 72),none,(.q (.mov (.t 9)))⟩,⟨(some 4),none,(.q (.mov (.t 72)))⟩,⟨(some 5),none,(.q (.mov (.c (.int .i64 0))))⟩] [4,5])
.ret))))))))
theorem fok15 : FOK Tryz.prog 15 (73,ic15,[(.t 4),(.t 5)]):=.mk (pf:=[]) (an:=[(0,[0,1]),(1,[0,1,6]),(2,[0,1,6,16,17,18]),(3,[0,1,6,16,17,18,19]),(4,[0,1,6,8,16,17,18]),(5,[0,1,6,16,17,18]),(6,[0,1,6,16,17,18]),(7,[0,1,34]),(8,[4,5]),(9,[0,1,9]),(10,[0,9,10]),(11,[0,9,10,44]),(12,[4,5]),(13,[9,46,47,48]),(14,[9,46,47,48,49]),(15,[9,11,12,46,47,48]),(16,[9,11,12,46,47,48,60]),(17,[4,5]),(18,[9,13,46,47,48]),(19,[9,13,46,47,48,69]),(20,[4,5]),(21,[9,46,47,48]),(22,[4,5])]) (by kernel_rfl) (fnOK_of Tryz.func15 (by kernel_rfl) (by kernel_rfl) (by kernel_rfl))
def ic17 : IC :=
(.seq
(.reg 0 [⟨(some 2),none,(.q (.mov (.c (.int .i64 0))))⟩] [0])
(.seq
(.seq
(.reg 1 [⟨(some 3),none,(.q (.mov (.t 0)))⟩,⟨(some 4),none,(.q (.isnil (.pointer 105) false (.t 3)))⟩] [0,4])
(.cond (.t 4)
(.seq
(.reg 2 [⟨(some 2),none,(.q (.mov (.c (.int .i64 0))))⟩] [2])
.ret)
.skip))
(.seq
(.reg 3 [⟨(some 5),none,(.q (.mov (.t 0)))⟩,⟨(some 6),none,(.q (.nchk (.t 5)))⟩,⟨(some 7),none,(.q (.faddr 0 (.t 6)))⟩,⟨(some 8),none,(.q (.load none (.t 7)))⟩,⟨(some 9),none,(.q (.len 0 (.t 8)))⟩,⟨(some 2),none,(.q (.mov (.t 9)))⟩] [2])
.ret)))
theorem fok17 : FOK Tryz.prog 17 (10,ic17,[(.t 2)]):=.mk (pf:=[]) (an:=[(0,[0]),(1,[0,4]),(2,[2]),(3,[2])]) (by kernel_rfl) (fnOK_of Tryz.func17 (by kernel_rfl) (by kernel_rfl) (by kernel_rfl))
def ic19 : IC :=
(.seq
(.reg 0 [⟨(some 4),none,(.alloc [(.str []),(.int .i64 0),(.str []),(.str []),(.int .u8 0),(.str []),.nilslice,.nilslice,.nilslice,.nilslice,.nilslice,.nilslice,.nilslice,.nilslice,.nilslice])⟩,⟨(some 5),none,(.q (.mov (.c (.int .i64 0))))⟩] [0,1,4])
(.seq
(.seq
(.reg 1 [⟨(some 6),none,(.q (.mov (.t 0)))⟩,⟨(some 7),none,(.q (.isnil (.pointer 105) false (.t 6)))⟩,⟨(some 8),none,(.q (.mov (.t 7)))⟩,⟨(some 9),(some ⟨8,false⟩),(.q (.mov (.t 0)))⟩,⟨(some 10),(some ⟨8,false⟩),(.q (.nchk (.t 9)))⟩,⟨(some 11),(some ⟨8,false⟩),(.q (.faddr 0 (.t 10)))⟩,⟨(some 12),(some ⟨8,false⟩),(.q (.load none (.t 11)))⟩,⟨(some 13),(some ⟨8,false⟩),(.q (.mov (.t 1)))⟩,⟨(some 14),(some ⟨8,false⟩),(.call 73 [(.t 12),(.t 13)])⟩,⟨(some 15),(some ⟨8,false⟩),(.q (.not (.t 14)))⟩,⟨(some 16),none,(.q (.pick (.t 8) (.c (.bool true)) (.t 15)))⟩] [0,1,4,16])
(.cond (.t 16)
(.seq
(.reg 2 [⟨(some 17),none,(.q (.bld [(.str []),(.int .i64 0),(.str []),(.str []),(.int .u8 0),(.str []),.nilslice,.nilslice,.nilslice,.nilslice,.nilslice,.nilslice,.nilslice,.nilslice,.nilslice] []))⟩,⟨none,none,(.store 15 (.t 4) (.t 17))⟩,⟨(some 5),none,(.q (.mov (.c (.int .i64 5))))⟩] [4,5])
.ret)
.skip))
(.seq
(.reg 3 [⟨(some 18),none,(.q (.mov (.t 0)))⟩,⟨(some 19),none,(.q (.nchk (.t 18)))⟩,⟨(some 20),none,(.q (.faddr 0 (.t 19)))⟩,⟨(some 21),none,(.q (.load none (.t 20)))⟩,⟨(some 22),none,(.q (.mov (.t 1)))⟩,⟨(some 23),none,(.q (.iaddr 17 (.t 21) (.t 22)))⟩,⟨(some 24),none,(.q (.faddr 0 (.t 23)))⟩,⟨(some 25),none,(.q (.load (some 15) (.t 24)))⟩,⟨(some 26),none,(.call 74 [(.t 25)])⟩,⟨none,none,(.store 15 (.t 4) (.t 26))⟩,⟨(some 5),none,(.q (.mov (.c (.int .i64 0))))⟩] [4,5])
.ret)))
theorem fok19 : FOK Tryz.prog 19 (27,ic19,[(.cell (some 15) 4),(.t 5)]):=.mk (pf:=[]) (an:=[(0,[0,1,4]),(1,[0,1,4,16]),(2,[4,5]),(3,[4,5])]) (by kernel_rfl) (fnOK_of Tryz.func19 (by kernel_rfl) (by kernel_rfl) (by kernel_rfl))
def ic20 : IC :=
(.seq
(.reg 0 [oM 6 (cB false)] [0,1,2])
(.seq
(.dreg 1 [oM 7 (.t 0),oQ 8 (.isnil (.pointer 105) true (.t 7)),oM 9 (.t 8),gQ 10 9 true (.mov (.t 0)),gQ 11 9 true (.nchk (.t 10)),gQ 12 9 true (.faddr 0 (.t 11)),gQ 13 9 true (.load none (.t 12)),gQ 14 9 true (.mov (.t 1)),gK 15 9 true (.call 73 [(.t 13),(.t 14)]),oQ 16 (.pick (.t 9) (.t 15) (cB false)),oM 17 (.t 16),gQ 18 17 true (.mov (.t 0)),gQ 19 17 true (.nchk (.t 18)),gQ 20 17 true (.faddr 0 (.t 19)),gQ 21 17 true (.load none (.t 20)),gQ 22 17 true (.mov (.t 2)),gK 23 17 true (.call 73 [(.t 21),(.t 22)]),oQ 24 (.pick (.t 17) (.t 23) (cB false)),oM 25 (.t 24),gQ 26 25 true (.mov (.t 1)),gQ 27 25 true (.mov (.t 2)),gQ 28 25 true (.bin .neq (.t 26) (.t 27)),oQ 29 (.pick (.t 25) (.t 28) (cB false)),oM 30 (.t 29),gQ 31 30 true (.mov (.t 0)),gQ 32 30 true (.nchk (.t 31)),gQ 33 30 true (.faddr 0 (.t 32)),gQ 34 30 true (.load none (.t 33)),gQ 35 30 true (.mov (.t 1)),gQ 36 30 true (.iaddr 17 (.t 34) (.t 35)),gQ 37 30 true (.faddr 0 (.t 36)),gQ 38 30 true (.load (some 15) (.t 37)),gQ 39 30 true (.mov (.t 0)),gQ 40 30 true (.nchk (.t 39)),gQ 41 30 true (.faddr 0 (.t 40)),gQ 42 30 true (.load none (.t 41)),gQ 43 30 true (.mov (.t 2)),gQ 44 30 true (.iaddr 17 (.t 42) (.t 43)),gQ 45 30 true (.faddr 0 (.t 44)),gQ 46 30 true (.load (some 15) (.t 45)),gK 47 30 true (.call 21 [(.t 38),(.t 46)]),oQ 48 (.pick (.t 30) (.t 47) (cB false)),oM 6 (.t 48)] false [6])
.ret))
theorem fok20 : FOK Tryz.prog 20 (49,ic20,[(.t 6)]):=fokA [] Tryz.func20
def ic21 : IC :=
(.seq
(.reg 0 [oK 2 (.boxt (.t 0)),oK 3 (.boxt (.t 1)),oM 4 (cB false)] [2,3])
(.seq
(.reg 1 [oQ 5 (.faddr 9 (.t 2)),oQ 6 (.load none (.t 5)),oQ 7 (.mkf 76 [] [(.t 3)]),oK 8 (.call 75 [(.t 6),(.t 7)]),oM 4 (.t 8)] [4])
.ret))
theorem fok21 : FOK Tryz.prog 21 (9,ic21,[(.t 4)]):=fokA [1000002,1000003] Tryz.func21
def ic22 : IC :=
(.seq
(.reg 0 [oM 0 (cB false)] [])
(.seq
(.reg 1 [oK 5 (.call 77 []),oK 6 (.call 24 [(.c .nilslice),(.t 5)]),oM 4 (.t 6),oQ 7 (.ext 0 (.t 4)),oQ 8 (.ext 1 (.t 4)),oQ 9 (.ext 2 (.t 4)),oM 1 (.t 7),oM 2 (.t 8),oM 3 (.t 9)] [1,3])
(.seq
(.reg 2 [oM 10 (.t 3),oM 11 (.t 10),gQ 12 11 true (.mov (.t 1)),gK 13 11 true (.call 30 [(.c (.str [97])),(.c (zU 0)),(.c (.str []))]),gK 14 11 true (.call 28 [(.t 12),(.t 13)]),gK 15 11 true (.bslt 1 2 [(zI 0)] [⟨0,⟨1,(cI 0)⟩⟩,⟨1,⟨1,(cI 1)⟩⟩]),gK 16 11 true (.call 78 [(.t 14),(.t 15)]),oQ 17 (.pick (.t 11) (.t 16) (cB false)),oM 18 (.t 17),gQ 19 18 true (.mov (.t 1)),gK 20 18 true (.call 30 [(.c (.str [97])),(.c (zU 4)),(.c (.str [49]))]),gK 21 18 true (.call 28 [(.t 19),(.t 20)]),gK 22 18 true (.bslt 1 1 [(zI 0)] [⟨0,⟨1,(cI 1)⟩⟩]),gK 23 18 true (.call 78 [(.t 21),(.t 22)]),oQ 24 (.pick (.t 18) (.t 23) (cB false)),oM 25 (.t 24),gQ 26 25 true (.mov (.t 1)),gK 27 25 true (.call 30 [(.c (.str [97])),(.c (zU 6)),(.c (.str [49]))]),gK 28 25 true (.call 28 [(.t 26),(.t 27)]),gK 29 25 true (.bslt 1 2 [(zI 0)] [⟨0,⟨1,(cI 0)⟩⟩,⟨1,⟨1,(cI 1)⟩⟩]),gK 30 25 true (.call 78 [(.t 28),(.t 29)]),oQ 31 (.pick (.t 25) (.t 30) (cB false)),oM 32 (.t 31),gQ 33 32 true (.mov (.t 1)),gK 34 32 true (.call 30 [(.c (.str [47,102])),(.c (zU 0)),(.c (.str []))]),gK 35 32 true (.call 28 [(.t 33),(.t 34)]),gK 36 32 true (.bslt 1 1 [(zI 0)] [⟨0,⟨1,(cI 2)⟩⟩]),gK 37 32 true (.call 78 [(.t 35),(.t 36)]),oQ 38 (.pick (.t 32) (.t 37) (cB false)),oM 39 (.t 38),gQ 40 39 true (.mov (.t 1)),gK 41 39 true (.call 25 [(.t 40),(cI 1)]),gK 42 39 true (.bslt 1 1 [(zI 0)] [⟨0,⟨1,(cI 0)⟩⟩]),gK 43 39 true (.call 78 [(.t 41),(.t 42)]),oQ 44 (.pick (.t 39) (.t 43) (cB false)),oM 45 (.t 44),gQ 46 45 true (.mov (.t 1)),gK 47 45 true (.call 26 [(.t 46),(cI 0)]),gK 48 45 true (.bslt 1 1 [(zI 0)] [⟨0,⟨1,(cI 1)⟩⟩]),gK 49 45 true (.call 78 [(.t 47),(.t 48)]),oQ 50 (.pick (.t 45) (.t 49) (cB false)),oM 0 (.t 50)] [0])
.ret)))
theorem fok22 : FOK Tryz.prog 22 (51,ic22,[(.t 0)]):=fokA [1000015,1000022,1000029,1000036,1000042,1000048] Tryz.func22
def ic23 : IC :=
(.seq
(.reg 0 [oM 4 (cB false)] [0,1])
(.seq
(.reg 1 [oM 7 (.t 1),oK 8 (.call 79 [(.t 7),(cI 3000)]),oM 5 (.t 8)] [0,5])
(.seq
(.seq
(.reg 2 [oM 6 (cI 0)] [0,5,6])
(.block 0
(.loop
(.seq
(.seq
(.reg 3 [oM 9 (.t 6),oM 10 (.t 0),oQ 11 (.len 0 (.t 10)),oQ 12 (.bin .lss (.t 9) (.t 11)),oM 13 (.t 12),gQ 14 13 true (.mov (.t 5)),gQ 15 13 true (.bin .lss (.t 14) (cI 3000)),oQ 16 (.pick (.t 13) (.t 15) (cB false))] [0,5,6,16])
(.cond (.t 16)
.skip
(.exit 0)))
(.seq
(.block 1
(.reg 5 [oM 19 (.t 5),oQ 20 (.bin .add (.t 19) (cI 1)),oM 21 (.t 0),oM 22 (.t 6),oQ 23 (.iaddr 2 (.t 21) (.t 22)),oQ 24 (.faddr 1 (.t 23)),oQ 25 (.load none (.t 24)),oK 26 (.call 79 [(.t 25),(cI 3000)]),oQ 27 (.bin .add (.t 20) (.t 26)),oM 5 (.t 27)] [0,5,6]))
(.reg 4 [oM 17 (.t 6),oQ 18 (.bin .add (.t 17) (cI 1)),oM 6 (.t 18)] [0,5,6]))))))
(.seq
(.reg 6 [oM 28 (.t 5),oQ 29 (.bin .geq (.t 28) (cI 3000)),oM 4 (.t 29)] [4])
.ret))))
theorem fok23 : FOK Tryz.prog 23 (30,ic23,[(.t 4)]):=fokA [] Tryz.func23
def ic24 : IC :=
(.seq
(.reg 0 [oM 4 (.c .nilptr),oM 5 (.c .nilptr),oM 6 (cB false)] [0,1])
(.seq
(.reg 1 [oM 12 (.t 0),oM 13 (.t 1),oK 14 (.call 15 [(.t 12),(.t 13)]),oM 11 (.t 14),oQ 15 (.ext 0 (.t 11)),oQ 16 (.ext 1 (.t 11)),oM 7 (.t 15),oM 8 (.t 16)] [7,8])
(.seq
(.seq
(.reg 2 [oM 17 (.t 8),oQ 18 (.bin .neq (.t 17) (cI 0))] [7,18])
(.cond (.t 18)
(.seq
(.reg 3 [oM 4 (.c .nilptr),oM 5 (.c .nilptr),oM 6 (cB false)] [4,5,6])
.ret)
.skip))
(.seq
(.reg 4 [oM 20 (.t 7),oK 21 (.call 80 [(.t 20)]),oM 19 (.t 21),oQ 22 (.ext 0 (.t 19)),oQ 23 (.ext 1 (.t 19)),oM 9 (.t 22),oM 10 (.t 23)] [7,9,10])
(.seq
(.reg 5 [oM 24 (.t 9),oM 25 (.t 7),oM 26 (.t 10),oQ 27 (.bin .eql (.t 26) (cI 0)),oM 28 (.t 27),gQ 29 28 true (.mov (.t 9)),gQ 30 28 true (.isnil (.pointer 122) true (.t 29)),oQ 31 (.pick (.t 28) (.t 30) (cB false)),oM 4 (.t 24),oM 5 (.t 25),oM 6 (.t 31)] [4,5,6])
.ret)))))
theorem fok24 : FOK Tryz.prog 24 (32,ic24,[(.t 4),(.t 5),(.t 6)]):=fokA [] Tryz.func24
def ic25 : IC :=
(.seq
(.reg 0 [oK 3 (.boxt (.t 1)),oM 4 (.c .nilslice)] [0,3])
(.seq
(.seq
(.reg 1 [oM 8 (.t 0),oQ 9 (.load none (.t 3)),oK 10 (.call 81 [(.t 8),(.t 9)]),oQ 11 (.not (.t 10))] [0,3,11])
(.cond (.t 11)
(.seq
(.reg 2 [oM 4 (.c .nilslice)] [4])
.ret)
.skip))
(.seq
(.reg 3 [oM 5 (.c .nilslice)] [0,3,5])
(.seq
(.seq
(.dreg 4 [oM 12 (.t 0),oQ 13 (.nchk (.t 12)),oQ 14 (.faddr 0 (.t 13)),oQ 15 (.load none (.t 14)),oQ 16 (.load none (.t 3)),oQ 17 (.iaddr 15 (.t 15) (.t 16)),oQ 18 (.faddr 9 (.t 17)),oQ 19 (.load none (.t 18)),oQ 20 (.len 0 (.t 19)),oM 21 (cI 0)] false [0,3,5,19,20,21])
(.block 0
(.loop
(.seq
(.reg 5 [oQ 22 (.bin .lss (.t 21) (.t 20))] [0,3,5,19,20,21,22])
(.seq
(.cond (.t 22)
.skip
(.exit 0))
(.seq
(.block 1
(.seq
(.reg 6 [oQ 23 (.iaddr 5 (.t 19) (.t 21)),oQ 24 (.load (some 5) (.t 23)),oK 7 (.alloc [(.str []),(zU 0),(zI 0),(.str []),(.str [])]),oN (.store 5 (.t 7) (.t 24))] [0,3,5,7,19,20,21])
(.dreg 7 [oM 25 (.t 5),oM 26 (.t 0),oM 27 (.t 0),oQ 28 (.nchk (.t 27)),oQ 29 (.faddr 2 (.t 28)),oQ 30 (.load none (.t 29)),oQ 31 (.faddr 0 (.t 7)),oQ 32 (.load none (.t 31)),oQ 33 (.lkp 2 .nilslice false (.t 30) (.t 32)),oQ 34 (.mkf 83 [] [(.t 3),(.t 7)]),oK 35 (.pcall 82 [(.t 26),(.t 33),(.t 34)]),oK 36 (.app 1 (.t 25) (.t 35)),oM 5 (.t 36)] true [0,3,5,19,20,21])))
(.reg 8 [oQ 37 (.bin .add (.t 21) (cI 1)),oM 21 (.t 37)] [0,3,5,19,20,21])))))))
(.seq
(.reg 9 [oM 38 (.t 5),oK 39 (.call 84 [(.t 38)])] [5])
(.seq
(.reg 10 [oM 40 (.t 5),oK 41 (.call 85 [(.t 40)]),oM 4 (.t 41)] [4])
.ret))))))
theorem fok25 : FOK Tryz.prog 25 (42,ic25,[(.t 4)]):=fokA ([1000003] ++ [82]) Tryz.func25 (by kernel_rfl) (by kernel_rfl) (by kernel_rfl) (by kernel_rfl)
def ic26 : IC :=
(.seq
(.reg 0 [oK 2 (.boxt (.t 0)),oK 3 (.boxt (.t 1)),oM 4 (.c .nilslice)] [2,3])
(.seq
(.seq
(.reg 1 [oQ 5 (.load none (.t 2)),oQ 6 (.load none (.t 3)),oK 7 (.call 81 [(.t 5),(.t 6)]),oQ 8 (.not (.t 7))] [2,3,8])
(.cond (.t 8)
(.seq
(.reg 2 [oM 4 (.c .nilslice)] [4])
.ret)
.skip))
(.seq
(.dreg 3 [oQ 9 (.load none (.t 2)),oQ 10 (.load none (.t 2)),oQ 11 (.nchk (.t 10)),oQ 12 (.faddr 3 (.t 11)),oQ 13 (.load none (.t 12)),oQ 14 (.load none (.t 2)),oQ 15 (.nchk (.t 14)),oQ 16 (.faddr 0 (.t 15)),oQ 17 (.load none (.t 16)),oQ 18 (.load none (.t 3)),oQ 19 (.iaddr 15 (.t 17) (.t 18)),oQ 20 (.faddr 0 (.t 19)),oQ 21 (.load none (.t 20)),oQ 22 (.lkp 2 .nilslice false (.t 13) (.t 21)),oQ 23 (.mkf 86 [] [(.t 3),(.t 2)]),oK 24 (.call 82 [(.t 9),(.t 22),(.t 23)]),oM 4 (.t 24)] false [4])
.ret)))
theorem fok26 : FOK Tryz.prog 26 (25,ic26,[(.t 4)]):=fokA [1000002,1000003] Tryz.func26
def ic27 : IC :=
(.seq
(.reg 0 [oM 4 (cB false)] [0,1])
(.seq
(.seq
(.reg 1 [oM 5 (cI 0)] [0,1,5])
(.block 0
(.loop
(.seq
(.seq
(.reg 2 [oM 6 (.t 5),oM 7 (.t 0),oQ 8 (.len 0 (.t 7)),oQ 9 (.bin .lss (.t 6) (.t 8))] [0,1,5,9])
(.cond (.t 9)
.skip
(.exit 0)))
(.seq
(.block 1
(.seq
(.reg 4 [oM 12 (.t 0),oM 13 (.t 5),oQ 14 (.iaddr 1 (.t 12) (.t 13)),oQ 15 (.load none (.t 14)),oM 16 (.t 1),oQ 17 (.bin .eql (.t 15) (.t 16))] [0,1,5,17])
(.cond (.t 17)
(.seq
(.reg 5 [oM 4 (cB true)] [4])
.ret)
.skip)))
(.reg 3 [oM 10 (.t 5),oQ 11 (.bin .add (.t 10) (cI 1)),oM 5 (.t 11)] [0,1,5]))))))
(.seq
(.reg 6 [oM 4 (cB false)] [4])
.ret)))
theorem fok27 : FOK Tryz.prog 27 (18,ic27,[(.t 4)]):=fokA [] Tryz.func27
def ic28 : IC :=
(.seq
(.reg 0 [oK 3 (.boxt (.t 1)),oM 4 (.c .nilslice)] [0,3])
(.seq
(.seq
(.reg 1 [oM 5 (.t 0),oQ 6 (.isnil (.pointer 122) false (.t 5))] [0,3,6])
(.cond (.t 6)
(.seq
(.reg 2 [oM 4 (.c .nilslice)] [4])
.ret)
.skip))
(.seq
(.dreg 3 [oM 7 (.t 0),oM 8 (.t 0),oQ 9 (.nchk (.t 8)),oQ 10 (.faddr 1 (.t 9)),oQ 11 (.load none (.t 10)),oQ 12 (.faddr 0 (.t 3)),oQ 13 (.load none (.t 12)),oQ 14 (.lkp 2 .nilslice false (.t 11) (.t 13)),oQ 15 (.mkf 87 [] [(.t 3)]),oK 16 (.call 82 [(.t 7),(.t 14),(.t 15)]),oM 4 (.t 16)] false [4])
.ret)))
theorem fok28 : FOK Tryz.prog 28 (17,ic28,[(.t 4)]):=fokA [1000003] Tryz.func28
def ic30 : IC :=
(.seq
(.reg 0 [oK 6 (.alloc [(.str []),(zU 0),(zI 0),(.str []),(.str [])])] [0,1,2,6])
(.seq
(.seq
(.reg 1 [oM 7 (.t 1),oQ 8 (.bin .eql (.t 7) (.c (zU 0)))] [0,1,2,6,8])
(.cond (.t 8)
(.seq
(.reg 2 [oM 9 (.t 0),oQ 10 (.bld [(.str []),(zU 0),(zI 0),(.str []),(.str [])] [⟨0,⟨1,(.t 9)⟩⟩]),oN (.store 5 (.t 6) (.t 10))] [6])
.ret)
.skip))
(.seq
(.reg 3 [oM 11 (.t 0),oM 12 (.t 1),oM 13 (.t 2),oQ 14 (.bld [(zI 0),(.str []),(.str [])] [⟨1,⟨1,(.t 13)⟩⟩]),oQ 15 (.bld [(.str []),(zU 0),(zI 0),(.str []),(.str [])] [⟨0,⟨1,(.t 11)⟩⟩,⟨1,⟨1,(.t 12)⟩⟩,⟨2,⟨3,(.t 14)⟩⟩]),oN (.store 5 (.t 6) (.t 15))] [6])
.ret)))
theorem fok30 : FOK Tryz.prog 30 (16,ic30,[(.cell (some 5) 6)]):=fokA [] Tryz.func30
def ic31 : IC :=
(.seq
(.reg 0 [oK 2 (.boxt (.t 0)),oK 3 (.boxt (.t 1)),oM 4 (cB false)] [2,3])
(.seq
(.seq
(.reg 1 [oQ 5 (.load (some 15) (.t 2)),oQ 6 (.load (some 5) (.t 3)),oK 7 (.call 32 [(.t 5),(.t 6)]),oM 8 (.t 7),gQ 9 8 false (.faddr 6 (.t 2)),gQ 10 8 false (.load none (.t 9)),gQ 11 8 false (.mkf 89 [] [(.t 3)]),gK 12 8 false (.call 75 [(.t 10),(.t 11)]),oQ 13 (.pick (.t 8) (cB true) (.t 12))] [2,3,13])
(.cond (.t 13)
(.seq
(.reg 2 [oM 4 (cB true)] [4])
.ret)
.skip))
(.seq
(.reg 3 [oQ 14 (.faddr 1 (.t 3)),oQ 15 (.load none (.t 14)),oQ 16 (.bin .eql (.t 15) (.c (zU 0))),oM 17 (.t 16),gQ 18 17 true (.faddr 14 (.t 2)),gQ 19 17 true (.load none (.t 18)),gQ 20 17 true (.faddr 0 (.t 3)),gQ 21 17 true (.load none (.t 20)),gK 22 17 true (.call 91 [(.t 19),(.t 21)]),oQ 23 (.pick (.t 17) (.t 22) (cB false)),oM 4 (.t 23)] [4])
.ret)))
theorem fok31 : FOK Tryz.prog 31 (24,ic31,[(.t 4)]):=fokA [1000002,1000003] Tryz.func31
def ic32 : IC :=
(.seq
(.reg 0 [oK 2 (.boxt (.t 0)),oK 3 (.boxt (.t 1)),oM 4 (cB false)] [2,3])
(.seq
(.dreg 1 [oQ 5 (.load (some 15) (.t 2)),oK 6 (.pcall 92 [(.t 5)]),oQ 7 (.load (some 5) (.t 3)),oK 8 (.pcall 90 [(.t 6),(.t 7)]),oM 4 (.t 8)] false [4])
.ret))
theorem fok32 : FOK Tryz.prog 32 (9,ic32,[(.t 4)]):=fokA ([1000002,1000003] ++ [90,92]) Tryz.func32 (by kernel_rfl) (by kernel_rfl) (by kernel_rfl) (by kernel_rfl)
def ic37 : IC :=
(.seq
(.reg 0 [oM 4 (cB false)] [0,1])
(.seq
(.seq
(.reg 1 [oM 6 (.t 0),oQ 7 (.len 0 (.t 6)),oM 8 (.t 1),oQ 9 (.len 0 (.t 8)),oQ 10 (.bin .neq (.t 7) (.t 9))] [0,1,10])
(.cond (.t 10)
(.seq
(.reg 2 [oM 4 (cB false)] [4])
.ret)
.skip))
(.seq
(.seq
(.reg 3 [oM 5 (cI 0)] [0,1,5])
(.block 0
(.loop
(.seq
(.seq
(.reg 4 [oM 11 (.t 5),oM 12 (.t 0),oQ 13 (.len 0 (.t 12)),oQ 14 (.bin .lss (.t 11) (.t 13))] [0,1,5,14])
(.cond (.t 14)
.skip
(.exit 0)))
(.seq
(.block 1
(.seq
(.dreg 6 [oM 17 (.t 0),oM 18 (.t 5),oQ 19 (.iaddr 1 (.t 17) (.t 18)),oQ 20 (.load none (.t 19)),oM 21 (.t 1),oM 22 (.t 5),oQ 23 (.iaddr 1 (.t 21) (.t 22)),oQ 24 (.load none (.t 23)),oQ 25 (.bin .neq (.t 20) (.t 24))] false [0,1,5,25])
(.cond (.t 25)
(.seq
(.reg 7 [oM 4 (cB false)] [4])
.ret)
.skip)))
(.reg 5 [oM 15 (.t 5),oQ 16 (.bin .add (.t 15) (cI 1)),oM 5 (.t 16)] [0,1,5]))))))
(.seq
(.reg 8 [oM 4 (cB true)] [4])
.ret))))
theorem fok37 : FOK Tryz.prog 37 (26,ic37,[(.t 4)]):=fokA [] Tryz.func37
end Go.Id.Tryz
