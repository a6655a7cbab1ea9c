/- The compiled codes of functions,written by a program out of the given form. Conditions: none. -/
import Derived.Test.YtiallonafbejaaaGreatDoorFwYa
import Derived.Test.YtiallonafbejaaaGreatDoorProg
set_option linter.all false
namespace Go.Id.Tryz
open Go Go.Id Go.Proofs
def allF0 : List Nat:=List.range 357
def ic8 : IC :=
(.seq
(.reg 0 [oK 7 (.boxt (.t 2)),oM 10 (cB false)] [0,1,3,4,7])
(.seq
(.seq
(.reg 1 [oK 20 (.call 33 []),oQ 21 (.not (.t 20)),oM 22 (.t 21),gQ 23 22 false (.mov (.t 0)),gQ 24 22 false (.mov (.t 1)),gQ 25 22 false (.load (some 5) (.t 7)),gK 26 22 false (.call 34 [(.t 23),(.t 24),(.t 25)]),oQ 27 (.pick (.t 22) (cB true) (.t 26)),oM 28 (.t 27),gQ 29 28 false (.mov (.t 3)),gQ 30 28 false (.len 0 (.t 29)),gQ 31 28 false (.bin .gtr (.t 30) (cI 50)),oQ 32 (.pick (.t 28) (cB true) (.t 31)),oM 33 (.t 32),gQ 34 33 false (.mov (.t 4)),gQ 35 33 false (.len 0 (.t 34)),gQ 36 33 false (.bin .gtr (.t 35) (cI 50)),oQ 37 (.pick (.t 33) (cB true) (.t 36))] [0,1,3,4,7,37])
(.cond (.t 37)
(.seq
(.reg 2 [oK 38 (.call 33 []),oM 10 (.t 38)] [10])
.ret)
.skip))
(.seq
(.reg 3 [oM 40 (.t 0),oM 41 (.t 1),oQ 42 (.load (some 5) (.t 7)),oK 43 (.call 35 [(.t 40),(.t 41),(.t 42)]),oM 39 (.t 43),oQ 44 (.ext 0 (.t 39)),oQ 45 (.ext 1 (.t 39)),oQ 46 (.ext 2 (.t 39)),oM 11 (.t 44),oM 12 (.t 45),oM 13 (.t 46)] [3,4,7,11,13])
(.seq
(.seq
(.reg 4 [oM 47 (.t 13),oQ 48 (.not (.t 47))] [3,4,7,11,48])
(.cond (.t 48)
(.seq
(.reg 5 [oM 49 (.t 11),oQ 50 (.isnil (.pointer 136) false (.t 49)),oM 10 (.t 50)] [10])
.ret)
.skip))
(.seq
(.reg 6 [oK 51 (.bsl 1 0 [(zI 0)] []),oM 52 (.t 3),oK 53 (.app 1 (.t 51) (.t 52)),oM 54 (.t 4),oK 55 (.app 1 (.t 53) (.t 54)),oM 14 (.t 55)] [3,7,11,14])
(.seq
(.reg 7 [oM 15 (.c .nilslice)] [3,7,11,14,15])
(.seq
(.seq
(.reg 8 [oM 56 (.t 3),oQ 57 (.len 0 (.t 56)),oQ 58 (.bin .sub (.t 57) (cI 1)),oM 16 (.t 58)] [3,7,11,14,15,16])
(.block 0
(.loop
(.seq
(.seq
(.reg 9 [oM 59 (.t 16),oQ 60 (.bin .geq (.t 59) (cI 0))] [3,7,11,14,15,16,60])
(.cond (.t 60)
.skip
(.exit 0)))
(.seq
(.block 1
(.dreg 11 [oM 63 (.t 15),oM 64 (.t 3),oM 65 (.t 16),oQ 66 (.iaddr 1 (.t 64) (.t 65)),oQ 67 (.load none (.t 66)),oM 68 (.t 3),oM 69 (.t 16),oQ 70 (.iaddr 1 (.t 68) (.t 69)),oQ 71 (.load none (.t 70)),oK 72 (.bslt 1 3 [(zI 0)] [⟨0,⟨1,(.t 67)⟩⟩,⟨1,⟨1,(.t 71)⟩⟩,⟨2,⟨1,(cI (-3))⟩⟩]),oK 73 (.app 1 (.t 63) (.t 72)),oM 15 (.t 73)] true [3,7,11,14,15,16]))
(.reg 10 [oM 61 (.t 16),oQ 62 (.bin .sub (.t 61) (cI 1)),oM 16 (.t 62)] [3,7,11,14,15,16]))))))
(.seq
(.seq
(.reg 12 [oM 17 (cI 0)] [3,7,11,14,15,17])
(.block 2
(.loop
(.seq
(.seq
(.reg 13 [oM 74 (.t 17),oQ 75 (.faddr 2 (.t 7)),oQ 76 (.load none (.t 75)),oQ 77 (.len 0 (.t 76)),oQ 78 (.bin .lss (.t 74) (.t 77))] [3,7,11,14,15,17,78])
(.cond (.t 78)
.skip
(.exit 2)))
(.seq
(.block 3
(.seq
(.reg 15 [oM 81 (.t 11),oM 82 (.t 17),oM 83 (.t 3),oK 84 (.call 46 [(.t 81),(.t 82),(.t 83)]),oM 85 (.t 11),oM 86 (.t 17),oM 87 (.t 14),oK 88 (.call 46 [(.t 85),(.t 86),(.t 87)]),oM 18 (.t 84),oM 19 (.t 88)] [3,7,11,14,15,17,18,19])
(.seq
(.seq
(.reg 16 [oQ 89 (.faddr 2 (.t 7)),oQ 90 (.load none (.t 89)),oM 91 (.t 17),oQ 92 (.iaddr 6 (.t 90) (.t 91)),oQ 93 (.faddr 0 (.t 92)),oQ 94 (.load none (.t 93)),oQ 95 (.bin .eql (.t 94) (.c (zU 2)))] [3,7,11,14,15,17,18,19,95])
(.cond (.t 95)
(.reg 17 [oM 96 (.t 19),oM 97 (.t 18),oM 18 (.t 96),oM 19 (.t 97)] [3,7,11,14,15,17,18,19])
.skip))
(.seq
(.reg 18 [oM 98 (.t 18),oM 99 (.t 98),gQ 100 99 true (.mov (.t 19)),gQ 101 99 true (.not (.t 100)),oQ 102 (.pick (.t 99) (.t 101) (cB false)),oM 103 (.t 102),gQ 104 103 false (.mov (.t 11)),gQ 105 103 false (.mov (.t 17)),gQ 106 103 false (.mov (.t 15)),gK 107 103 false (.call 46 [(.t 104),(.t 105),(.t 106)]),gQ 108 103 false (.mov (.t 11)),gQ 109 103 false (.mov (.t 17)),gQ 110 103 false (.mov (.t 3)),gK 111 103 false (.call 46 [(.t 108),(.t 109),(.t 110)]),gQ 112 103 false (.eqs [0] false true (.t 107) (.t 111)),oQ 113 (.pick (.t 103) (cB true) (.t 112))] [3,7,11,14,15,17,113])
(.cond (.t 113)
(.seq
(.reg 19 [oM 10 (cB false)] [10])
.ret)
.skip)))))
(.reg 14 [oM 79 (.t 17),oQ 80 (.bin .add (.t 79) (cI 1)),oM 17 (.t 80)] [3,7,11,14,15,17]))))))
(.seq
(.reg 20 [oM 10 (cB true)] [10])
.ret)))))))))
theorem fok8 : FOK Tryz.prog 8 (114,ic8,[(.t 10)]):=fokA [1000007,1000072] Tryz.func8
def ic15 : IC :=
(.seq
(.reg 0 [⟨(some 4),none,(.q (.mov (.c .nilptr)))⟩,⟨(some 5),none,(.q (.mov (.c (.int .i64 0))))⟩] [0,1])
(.seq
(.reg 1 [⟨(some 14),none,(.q (.mov (.t 1)))⟩,⟨(some 15),none,(.q (.len 0 (.t 14)))⟩,⟨(some 6),none,(.q (.mov (.t 15)))⟩] [0,1,6])
(.seq
(.seq
(.reg 2 [⟨(some 16),none,(.q (.mov (.t 0)))⟩,⟨(some 17),none,(.q (.len 0 (.t 16)))⟩,⟨(some 18),none,(.q (.mov (.c (.int .i64 0))))⟩] [0,1,6,16,17,18])
(.block 0
(.loop
(.seq
(.reg 3 [⟨(some 19),none,(.q (.bin .lss (.t 18) (.t 17)))⟩] [0,1,6,16,17,18,19])
(.seq
(.cond (.t 19)
.skip
(.exit 0))
(.seq
(.block 1
(.seq
(.reg 4 [⟨(some 20),none,(.q (.iaddr 2 (.t 16) (.t 18)))⟩,⟨(some 21),none,(.q (.load (some 2) (.t 20)))⟩,⟨(some 8),none,(.alloc [(.int .i64 0),.nilslice])⟩,⟨none,none,(.store 2 (.t 8) (.t 21))⟩] [0,1,6,8,16,17,18])
(.reg 5 [⟨(some 22),none,(.q (.mov (.t 6)))⟩,⟨(some 23),none,(.q (.faddr 1 (.t 8)))⟩,⟨(some 24),none,(.q (.load none (.t 23)))⟩,⟨(some 25),none,(.q (.len 0 (.t 24)))⟩,⟨(some 26),none,(.q (.bin .add (.t 22) (.t 25)))⟩,⟨(some 6),none,(.q (.mov (.t 26)))⟩] [0,1,6,16,17,18])))
(.reg 6 [⟨(some 27),none,(.q (.bin .add (.t 18) (.c (.int .i64 1))))⟩,⟨(some 18),none,(.q (.mov (.t 27)))⟩] [0,1,6,16,17,18])))))))
(.seq
(.seq
(.reg 7 [⟨(some 28),none,(.q (.mov (.t 0)))⟩,⟨(some 29),none,(.q (.len 0 (.t 28)))⟩,⟨(some 30),none,(.q (.bin .gtr (.t 29) (.c (.int .i64 16))))⟩,⟨(some 31),none,(.q (.mov (.t 30)))⟩,⟨(some 32),(some ⟨31,false⟩),(.q (.mov (.t 6)))⟩,⟨(some 33),(some ⟨31,false⟩),(.q (.bin .gtr (.t 32) (.c (.int .i64 256))))⟩,⟨(some 34),none,(.q (.pick (.t 31) (.c (.bool true)) (.t 33)))⟩] [0,1,34])
(.cond (.t 34)
(.seq
(.reg 8 [⟨(some 4),none,(.q (.mov (.c .nilptr)))⟩,⟨(some 5),none,(.q (.mov (.c (.int .i64 40))))⟩] [4,5])
.ret)
.skip))
(.seq
(.reg 9 [⟨(some 35),none,(.q (.mov (.t 1)))⟩,⟨(some 36),none,(.q (.len 0 (.t 35)))⟩,⟨(some 37),none,.mkmap⟩,⟨(some 38),none,(.q (.bld [.nilslice,(.int .i64 0),.nilmap] [⟨1,⟨1,(.t 36)⟩⟩,⟨2,⟨1,(.t 37)⟩⟩]))⟩,⟨(some 39),none,(.box (.t 38))⟩,⟨(some 9),none,(.q (.mov (.t 39)))⟩] [0,1,9])
(.seq
(.seq
(.reg 10 [⟨(some 40),none,(.q (.mov (.t 9)))⟩,⟨(some 41),none,(.q (.mov (.t 1)))⟩,⟨(some 42),none,(.call 69 [(.t 40),(.t 41),(.c (.int .i64 (-1))),(.c (.int .i64 1025))])⟩,⟨(some 10),none,(.q (.mov (.t 42)))⟩] [0,9,10])
(.seq
(.reg 11 [⟨(some 43),none,(.q (.mov (.t 10)))⟩,⟨(some 44),none,(.q (.bin .neq (.t 43) (.c (.int .i64 0))))⟩] [0,9,10,44])
(.cond (.t 44)
(.seq
(.reg 12 [⟨(some 45),none,(.q (.mov (.t 10)))⟩,⟨(some 4),none,(.q (.mov (.c .nilptr)))⟩,⟨(some 5),none,(.q (.mov (.t 45)))⟩] [4,5])
.ret)
.skip)))
(.seq
(.seq
(.reg 13 [⟨(some 46),none,(.q (.mov (.t 0)))⟩,⟨(some 47),none,(.q (.len 0 (.t 46)))⟩,⟨(some 48),none,(.q (.mov (.c (.int .i64 0))))⟩] [9,46,47,48])
(.block 2
(.loop
(.seq
(.reg 14 [⟨(some 49),none,(.q (.bin .lss (.t 48) (.t 47)))⟩] [9,46,47,48,49])
(.seq
(.cond (.t 49)
.skip
(.exit 2))
(.seq
(.block 3
(.seq
(.reg 15 [⟨(some 50),none,(.q (.mov (.t 48)))⟩,⟨(some 51),none,(.q (.iaddr 2 (.t 46) (.t 48)))⟩,⟨(some 52),none,(.q (.load (some 2) (.t 51)))⟩,⟨(some 12),none,(.alloc [(.int .i64 0),.nilslice])⟩,⟨(some 11),none,(.q (.mov (.t 50)))⟩,⟨none,none,(.store 2 (.t 12) (.t 52))⟩] [9,11,12,46,47,48])
(.seq
(.seq
(.reg 16 [⟨(some 53),none,(.q (.faddr 0 (.t 12)))⟩,⟨(some 54),none,(.q (.load none (.t 53)))⟩,⟨(some 55),none,(.q (.bin .lss (.t 54) (.c (.int .i64 0))))⟩,⟨(some 56),none,(.q (.mov (.t 55)))⟩,⟨(some 57),(some ⟨56,false⟩),(.q (.faddr 0 (.t 12)))⟩,⟨(some 58),(some ⟨56,false⟩),(.q (.load none (.t 57)))⟩,⟨(some 59),(some ⟨56,false⟩),(.q (.bin .gtr (.t 58) (.c (.int .i64 1024))))⟩,⟨(some 60),none,(.q (.pick (.t 56) (.c (.bool true)) (.t 59)))⟩] [9,11,12,46,47,48,60])
(.cond (.t 60)
(.seq
(.reg 17 [⟨(some 4),none,(.q (.mov (.c .nilptr)))⟩,⟨(some 5),none,(.q (.mov (.c (.int .i64 4))))⟩] [4,5])
.ret)
.skip))
(.seq
(.reg 18 [⟨(some 61),none,(.q (.mov (.t 9)))⟩,⟨(some 62),none,(.q (.faddr 1 (.t 12)))⟩,⟨(some 63),none,(.q (.load none (.t 62)))⟩,⟨(some 64),none,(.q (.mov (.t 11)))⟩,⟨(some 65),none,(.q (.faddr 0 (.t 12)))⟩,⟨(some 66),none,(.q (.load none (.t 65)))⟩,⟨(some 67),none,(.call 69 [(.t 61),(.t 63),(.t 64),(.t 66)])⟩,⟨(some 13),none,(.q (.mov (.t 67)))⟩] [9,13,46,47,48])
(.seq
(.reg 19 [⟨(some 68),none,(.q (.mov (.t 13)))⟩,⟨(some 69),none,(.q (.bin .neq (.t 68) (.c (.int .i64 0))))⟩] [9,13,46,47,48,69])
(.cond (.t 69)
(.seq
(.reg 20 [⟨(some 70),none,(.q (.mov (.t 13)))⟩,⟨(some 4),none,(.q (.mov (.c .nilptr)))⟩,⟨(some 5),none,(.q (.mov (.t 70)))⟩] [4,5])
.ret)
.skip))))))
(.reg 21 [⟨(some 71),none,(.q (.bin .add (.t 48) (.c (.int .i64 1))))⟩,⟨(some 48),none,(.q (.mov (.t 71)))⟩] [9,46,47,48])))))))
(.seq
(.reg 22 [⟨(some 72),none,(.q (.mov (.t 9)))⟩,⟨(some 4),none,(.q (.mov (.t 72)))⟩,⟨(some 5),none,(.q (.mov (.c (.int .i64 0))))⟩] [4,5])
.ret))))))))
theorem fok15 : FOK Tryz.prog 15 (73,ic15,[(.t 4),(.t 5)]):=.mk (pf:=[]) (an:=[(0,[0,1]),(1,[0,1,6]),(2,[0,1,6,16,17,18]),(3,[0,1,6,16,17,18,19]),(4,[0,1,6,8,16,17,18]),(5,[0,1,6,16,17,18]),(6,[0,1,6,16,17,18]),(7,[0,1,34]),(8,[4,5]),(9,[0,1,9]),(10,[0,9,10]),(11,[0,9,10,44]),(12,[4,5]),(13,[9,46,47,48]),(14,[9,46,47,48,49]),(15,[9,11,12,46,47,48]),(16,[9,11,12,46,47,48,60]),(17,[4,5]),(18,[9,13,46,47,48]),(19,[9,13,46,47,48,69]),(20,[4,5]),(21,[9,46,47,48]),(22,[4,5])]) (by kernel_rfl) (fnOK_of Tryz.func15 (by kernel_rfl) (by kernel_rfl) (by kernel_rfl))
def ic17 : IC :=
(.seq
(.reg 0 [⟨(some 2),none,(.q (.mov (.c (.int .i64 0))))⟩] [0])
(.seq
(.seq
(.reg 1 [⟨(some 3),none,(.q (.mov (.t 0)))⟩,⟨(some 4),none,(.q (.isnil (.pointer 105) false (.t 3)))⟩] [0,4])
(.cond (.t 4)
(.seq
(.reg 2 [⟨(some 2),none,(.q (.mov (.c (.int .i64 0))))⟩] [2])
.ret)
.skip))
(.seq
(.reg 3 [⟨(some 5),none,(.q (.mov (.t 0)))⟩,⟨(some 6),none,(.q (.nchk (.t 5)))⟩,⟨(some 7),none,(.q (.faddr 0 (.t 6)))⟩,⟨(some 8),none,(.q (.load none (.t 7)))⟩,⟨(some 9),none,(.q (.len 0 (.t 8)))⟩,⟨(some 2),none,(.q (.mov (.t 9)))⟩] [2])
.ret)))
theorem fok17 : FOK Tryz.prog 17 (10,ic17,[(.t 2)]):=.mk (pf:=[]) (an:=[(0,[0]),(1,[0,4]),(2,[2]),(3,[2])]) (by kernel_rfl) (fnOK_of Tryz.func17 (by kernel_rfl) (by kernel_rfl) (by kernel_rfl))
def ic19 : IC :=
(.seq
(.reg 0 [⟨(some 4),none,(.alloc [(.str []),(.int .i64 0),(.str []),(.str []),(.int .u8 0),(.str []),.nilslice,.nilslice,.nilslice,.nilslice,.nilslice,.nilslice,.nilslice,.nilslice,.nilslice])⟩,⟨(some 5),none,(.q (.mov (.c (.int .i64 0))))⟩] [0,1,4])
(.seq
(.seq
(.reg 1 [⟨(some 6),none,(.q (.mov (.t 0)))⟩,⟨(some 7),none,(.q (.isnil (.pointer 105) false (.t 6)))⟩,⟨(some 8),none,(.q (.mov (.t 7)))⟩,⟨(some 9),(some ⟨8,false⟩),(.q (.mov (.t 0)))⟩,⟨(some 10),(some ⟨8,false⟩),(.q (.nchk (.t 9)))⟩,⟨(some 11),(some ⟨8,false⟩),(.q (.faddr 0 (.t 10)))⟩,⟨(some 12),(some ⟨8,false⟩),(.q (.load none (.t 11)))⟩,⟨(some 13),(some ⟨8,false⟩),(.q (.mov (.t 1)))⟩,⟨(some 14),(some ⟨8,false⟩),(.call 73 [(.t 12),(.t 13)])⟩,⟨(some 15),(some ⟨8,false⟩),(.q (.not (.t 14)))⟩,⟨(some 16),none,(.q (.pick (.t 8) (.c (.bool true)) (.t 15)))⟩] [0,1,4,16])
(.cond (.t 16)
(.seq
(.reg 2 [⟨(some 17),none,(.q (.bld [(.str []),(.int .i64 0),(.str []),(.str []),(.int .u8 0),(.str []),.nilslice,.nilslice,.nilslice,.nilslice,.nilslice,.nilslice,.nilslice,.nilslice,.nilslice] []))⟩,⟨none,none,(.store 15 (.t 4) (.t 17))⟩,⟨(some 5),none,(.q (.mov (.c (.int .i64 5))))⟩] [4,5])
.ret)
.skip))
(.seq
(.reg 3 [⟨(some 18),none,(.q (.mov (.t 0)))⟩,⟨(some 19),none,(.q (.nchk (.t 18)))⟩,⟨(some 20),none,(.q (.faddr 0 (.t 19)))⟩,⟨(some 21),none,(.q (.load none (.t 20)))⟩,⟨(some 22),none,(.q (.mov (.t 1)))⟩,⟨(some 23),none,(.q (.iaddr 17 (.t 21) (.t 22)))⟩,⟨(some 24),none,(.q (.faddr 0 (.t 23)))⟩,⟨(some 25),none,(.q (.load (some 15) (.t 24)))⟩,⟨(some 26),none,(.call 74 [(.t 25)])⟩,⟨none,none,(.store 15 (.t 4) (.t 26))⟩,⟨(some 5),none,(.q (.mov (.c (.int .i64 0))))⟩] [4,5])
.ret)))
theorem fok19 : FOK Tryz.prog 19 (27,ic19,[(.cell (some 15) 4),(.t 5)]):=.mk (pf:=[]) (an:=[(0,[0,1,4]),(1,[0,1,4,16]),(2,[4,5]),(3,[4,5])]) (by kernel_rfl) (fnOK_of Tryz.func19 (by kernel_rfl) (by kernel_rfl) (by kernel_rfl))
def ic21 : IC :=
(.seq
(.reg 0 [oK 2 (.boxt (.t 0)),oK 3 (.boxt (.t 1)),oM 4 (cB false)] [2,3])
(.seq
(.reg 1 [oQ 5 (.faddr 9 (.t 2)),oQ 6 (.load none (.t 5)),oQ 7 (.mkf 76 [] [(.t 3)]),oK 8 (.call 75 [(.t 6),(.t 7)]),oM 4 (.t 8)] [4])
.ret))
theorem fok21 : FOK Tryz.prog 21 (9,ic21,[(.t 4)]):=fokA [1000002,1000003] Tryz.func21
def ic26 : IC :=
(.seq
(.reg 0 [oK 2 (.boxt (.t 0)),oK 3 (.boxt (.t 1)),oM 4 (.c .nilslice)] [2,3])
(.seq
(.seq
(.reg 1 [oQ 5 (.load none (.t 2)),oQ 6 (.load none (.t 3)),oK 7 (.call 81 [(.t 5),(.t 6)]),oQ 8 (.not (.t 7))] [2,3,8])
(.cond (.t 8)
(.seq
(.reg 2 [oM 4 (.c .nilslice)] [4])
.ret)
.skip))
(.seq
(.dreg 3 [oQ 9 (.load none (.t 2)),oQ 10 (.load none (.t 2)),oQ 11 (.nchk (.t 10)),oQ 12 (.faddr 3 (.t 11)),oQ 13 (.load none (.t 12)),oQ 14 (.load none (.t 2)),oQ 15 (.nchk (.t 14)),oQ 16 (.faddr 0 (.t 15)),oQ 17 (.load none (.t 16)),oQ 18 (.load none (.t 3)),oQ 19 (.iaddr 15 (.t 17) (.t 18)),oQ 20 (.faddr 0 (.t 19)),oQ 21 (.load none (.t 20)),oQ 22 (.lkp 2 .nilslice false (.t 13) (.t 21)),oQ 23 (.mkf 86 [] [(.t 3),(.t 2)]),oK 24 (.call 82 [(.t 9),(.t 22),(.t 23)]),oM 4 (.t 24)] false [4])
.ret)))
theorem fok26 : FOK Tryz.prog 26 (25,ic26,[(.t 4)]):=fokA [1000002,1000003] Tryz.func26
def ic28 : IC :=
(.seq
(.reg 0 [oK 3 (.boxt (.t 1)),oM 4 (.c .nilslice)] [0,3])
(.seq
(.seq
(.reg 1 [oM 5 (.t 0),oQ 6 (.isnil (.pointer 122) false (.t 5))] [0,3,6])
(.cond (.t 6)
(.seq
(.reg 2 [oM 4 (.c .nilslice)] [4])
.ret)
.skip))
(.seq
(.dreg 3 [oM 7 (.t 0),oM 8 (.t 0),oQ 9 (.nchk (.t 8)),oQ 10 (.faddr 1 (.t 9)),oQ 11 (.load none (.t 10)),oQ 12 (.faddr 0 (.t 3)),oQ 13 (.load none (.t 12)),oQ 14 (.lkp 2 .nilslice false (.t 11) (.t 13)),oQ 15 (.mkf 87 [] [(.t 3)]),oK 16 (.call 82 [(.t 7),(.t 14),(.t 15)]),oM 4 (.t 16)] false [4])
.ret)))
theorem fok28 : FOK Tryz.prog 28 (17,ic28,[(.t 4)]):=fokA [1000003] Tryz.func28
def ic29 : IC :=
(.seq
(.reg 0 [oK 3 (.boxt (.t 1)),oM 4 (.c .nilslice)] [0,3])
(.seq
(.seq
(.reg 1 [oM 5 (.t 0),oQ 6 (.isnil (.pointer 122) false (.t 5))] [0,3,6])
(.cond (.t 6)
(.seq
(.reg 2 [oM 4 (.c .nilslice)] [4])
.ret)
.skip))
(.seq
(.dreg 3 [oM 7 (.t 0),oM 8 (.t 0),oQ 9 (.nchk (.t 8)),oQ 10 (.faddr 2 (.t 9)),oQ 11 (.load none (.t 10)),oQ 12 (.faddr 0 (.t 3)),oQ 13 (.load none (.t 12)),oQ 14 (.lkp 2 .nilslice false (.t 11) (.t 13)),oQ 15 (.mkf 88 [] [(.t 3)]),oK 16 (.call 82 [(.t 7),(.t 14),(.t 15)]),oM 4 (.t 16)] false [4])
.ret)))
theorem fok29 : FOK Tryz.prog 29 (17,ic29,[(.t 4)]):=fokA [1000003] Tryz.func29
def ic31 : IC :=
(.seq
(.reg 0 [oK 2 (.boxt (.t 0)),oK 3 (.boxt (.t 1)),oM 4 (cB false)] [2,3])
(.seq
(.seq
(.reg 1 [oQ 5 (.load (some 15) (.t 2)),oQ 6 (.load (some 5) (.t 3)),oK 7 (.call 32 [(.t 5),(.t 6)]),oM 8 (.t 7),gQ 9 8 false (.faddr 6 (.t 2)),gQ 10 8 false (.load none (.t 9)),gQ 11 8 false (.mkf 89 [] [(.t 3)]),gK 12 8 false (.call 75 [(.t 10),(.t 11)]),oQ 13 (.pick (.t 8) (cB true) (.t 12))] [2,3,13])
(.cond (.t 13)
(.seq
(.reg 2 [oM 4 (cB true)] [4])
.ret)
.skip))
(.seq
(.reg 3 [oQ 14 (.faddr 1 (.t 3)),oQ 15 (.load none (.t 14)),oQ 16 (.bin .eql (.t 15) (.c (zU 0))),oM 17 (.t 16),gQ 18 17 true (.faddr 14 (.t 2)),gQ 19 17 true (.load none (.t 18)),gQ 20 17 true (.faddr 0 (.t 3)),gQ 21 17 true (.load none (.t 20)),gK 22 17 true (.call 91 [(.t 19),(.t 21)]),oQ 23 (.pick (.t 17) (.t 22) (cB false)),oM 4 (.t 23)] [4])
.ret)))
theorem fok31 : FOK Tryz.prog 31 (24,ic31,[(.t 4)]):=fokA [1000002,1000003] Tryz.func31
def ic32 : IC :=
(.seq
(.reg 0 [oK 2 (.boxt (.t 0)),oK 3 (.boxt (.t 1)),oM 4 (cB false)] [2,3])
(.seq
(.dreg 1 [oQ 5 (.load (some 15) (.t 2)),oK 6 (.pcall 92 [(.t 5)]),oQ 7 (.load (some 5) (.t 3)),oK 8 (.pcall 90 [(.t 6),(.t 7)]),oM 4 (.t 8)] false [4])
.ret))
theorem fok32 : FOK Tryz.prog 32 (9,ic32,[(.t 4)]):=fokA ([1000002,1000003] ++ [90,92]) Tryz.func32 (by kernel_rfl) (by kernel_rfl) (by kernel_rfl) (by kernel_rfl)
def ic33 : IC :=
(.seq
(.reg 0 [oM 0 (cB false)] [])
(.seq
(.reg 1 [oK 12 (.pcall 93 [(.c (.str [97])),(.c (.str [50]))]),oK 13 (.bslt 15 1 [(.str []),(zI 0),(.str []),(.str []),(zU 0),(.str []),.nilslice,.nilslice,.nilslice,.nilslice,.nilslice,.nilslice,.nilslice,.nilslice,.nilslice] [⟨0,⟨15,(.t 12)⟩⟩]),oM 1 (.t 13)] [1])
(.seq
(.reg 2 [oK 15 (.call 94 []),oM 16 (.t 1),oK 17 (.pcall 95 [(.c .nilslice),(.c .nilslice)]),oK 18 (.pcall 35 [(.t 15),(.t 16),(.t 17)]),oM 14 (.t 18),oQ 19 (.ext 0 (.t 14)),oQ 20 (.ext 1 (.t 14)),oQ 21 (.ext 2 (.t 14)),oM 2 (.t 19),oM 3 (.t 20),oM 4 (.t 21)] [1,2,4])
(.seq
(.reg 3 [oK 23 (.call 94 []),oM 24 (.t 1),oQ 25 (.bld [(zU 0),(zI 0)] [⟨0,⟨1,(.c (zU 3))⟩⟩]),oK 26 (.bslt 2 1 [(zU 0),(zI 0)] [⟨0,⟨2,(.t 25)⟩⟩]),oK 27 (.pcall 95 [(.c .nilslice),(.t 26)]),oK 28 (.pcall 35 [(.t 23),(.t 24),(.t 27)]),oM 22 (.t 28),oQ 29 (.ext 0 (.t 22)),oQ 30 (.ext 1 (.t 22)),oQ 31 (.ext 2 (.t 22)),oM 5 (.t 29),oM 6 (.t 30),oM 7 (.t 31)] [2,4,5,7])
(.seq
(.reg 4 [oK 32 (.pcall 93 [(.c (.str [97])),(.c (.str [49]))]),oK 8 (.alloc [(.str []),(zI 0),(.str []),(.str []),(zU 0),(.str []),.nilslice,.nilslice,.nilslice,.nilslice,.nilslice,.nilslice,.nilslice,.nilslice,.nilslice]),oN (.store 15 (.t 8) (.t 32))] [2,4,5,7,8])
(.seq
(.reg 5 [oQ 33 (.faddr 4 (.t 8)),oN (.store 1 (.t 33) (.c (zU 3)))] [2,4,5,7,8])
(.seq
(.dreg 6 [oK 35 (.pcall 93 [(.c (.str [97])),(.c (.str [49]))]),oQ 36 (.load (some 15) (.t 8)),oK 37 (.pcall 93 [(.c (.str [97])),(.c (.str [50]))]),oK 38 (.bslt 15 3 [(.str []),(zI 0),(.str []),(.str []),(zU 0),(.str []),.nilslice,.nilslice,.nilslice,.nilslice,.nilslice,.nilslice,.nilslice,.nilslice,.nilslice] [⟨0,⟨15,(.t 35)⟩⟩,⟨15,⟨15,(.t 36)⟩⟩,⟨30,⟨15,(.t 37)⟩⟩]),oQ 39 (.bld [(zI 0),.nilslice] [⟨1,⟨1,(.t 38)⟩⟩]),oK 40 (.bslt 2 1 [(zI 0),.nilslice] [⟨0,⟨2,(.t 39)⟩⟩]),oK 41 (.pcall 95 [(.c .nilslice),(.c .nilslice)]),oK 42 (.pcall 35 [(.t 40),(.c .nilslice),(.t 41)]),oM 34 (.t 42),oQ 43 (.ext 0 (.t 34)),oQ 44 (.ext 1 (.t 34)),oQ 45 (.ext 2 (.t 34)),oM 9 (.t 43),oM 10 (.t 44),oM 11 (.t 45)] false [2,4,5,7,9,11])
(.seq
(.reg 7 [oM 46 (.t 4),oM 47 (.t 46),gQ 48 47 true (.mov (.t 7)),oQ 49 (.pick (.t 47) (.t 48) (cB false)),oM 50 (.t 49),gQ 51 50 true (.mov (.t 11)),oQ 52 (.pick (.t 50) (.t 51) (cB false)),oM 53 (.t 52),gQ 54 53 true (.mov (.t 2)),gK 55 53 true (.call 40 [(.t 54),(cI 0)]),gK 56 53 true (.bslt 1 3 [(zI 0)] [⟨0,⟨1,(cI 0)⟩⟩,⟨1,⟨1,(cI 2)⟩⟩,⟨2,⟨1,(cI 3)⟩⟩]),gK 57 53 true (.call 96 [(.t 55),(.t 56)]),oQ 58 (.pick (.t 53) (.t 57) (cB false)),oM 59 (.t 58),gQ 60 59 true (.mov (.t 5)),gK 61 59 true (.call 40 [(.t 60),(cI 0)]),gK 62 59 true (.bslt 1 4 [(zI 0)] [⟨0,⟨1,(cI 0)⟩⟩,⟨1,⟨1,(cI 1)⟩⟩,⟨2,⟨1,(cI 2)⟩⟩,⟨3,⟨1,(cI 3)⟩⟩]),gK 63 59 true (.call 96 [(.t 61),(.t 62)]),oQ 64 (.pick (.t 59) (.t 63) (cB false)),oM 65 (.t 64),gQ 66 65 true (.mov (.t 9)),gK 67 65 true (.call 45 [(.t 66),(cI 0),(cI 1)]),gQ 68 65 true (.not (.t 67)),oQ 69 (.pick (.t 65) (.t 68) (cB false)),oM 70 (.t 69),gQ 71 70 true (.mov (.t 9)),gK 72 70 true (.call 45 [(.t 71),(cI 0),(cI 2)]),oQ 73 (.pick (.t 70) (.t 72) (cB false)),oM 74 (.t 73),gQ 75 74 true (.mov (.t 9)),gK 76 74 true (.call 45 [(.t 75),(cI 1),(cI 2)]),oQ 77 (.pick (.t 74) (.t 76) (cB false)),oM 0 (.t 77)] [0])
.ret))))))))
theorem fok33 : FOK Tryz.prog 33 (78,ic33,[(.t 0)]):=fokA ([1000013,1000026,1000038,1000040,1000056,1000062] ++ [35,93,95]) Tryz.func33 (by kernel_rfl) (by kernel_rfl) (by kernel_rfl) (by kernel_rfl)
def ic34 : IC :=
(.seq
(.reg 0 [oK 5 (.boxt (.t 2)),oM 6 (cB false)] [0,1,5])
(.seq
(.reg 1 [oM 9 (.t 1),oK 10 (.call 97 [(.t 9),(cI 2000)]),oM 7 (.t 10)] [0,5,7])
(.seq
(.seq
(.reg 2 [oM 8 (cI 0)] [0,5,7,8])
(.block 0
(.loop
(.seq
(.seq
(.reg 3 [oM 11 (.t 8),oM 12 (.t 0),oQ 13 (.len 0 (.t 12)),oQ 14 (.bin .lss (.t 11) (.t 13)),oM 15 (.t 14),gQ 16 15 true (.mov (.t 7)),gQ 17 15 true (.bin .lss (.t 16) (cI 2000)),oQ 18 (.pick (.t 15) (.t 17) (cB false))] [0,5,7,8,18])
(.cond (.t 18)
.skip
(.exit 0)))
(.seq
(.block 1
(.reg 5 [oM 21 (.t 7),oQ 22 (.bin .add (.t 21) (cI 1)),oM 23 (.t 0),oM 24 (.t 8),oQ 25 (.iaddr 2 (.t 23) (.t 24)),oQ 26 (.faddr 1 (.t 25)),oQ 27 (.load none (.t 26)),oK 28 (.call 97 [(.t 27),(cI 2000)]),oQ 29 (.bin .add (.t 22) (.t 28)),oM 7 (.t 29)] [0,5,7,8]))
(.reg 4 [oM 19 (.t 8),oQ 20 (.bin .add (.t 19) (cI 1)),oM 8 (.t 20)] [0,5,7,8]))))))
(.seq
(.reg 6 [oM 30 (.t 7),oQ 31 (.bin .geq (.t 30) (cI 2000)),oM 32 (.t 31),gQ 33 32 false (.faddr 2 (.t 5)),gQ 34 32 false (.load none (.t 33)),gQ 35 32 false (.len 0 (.t 34)),gQ 36 32 false (.bin .gtr (.t 35) (cI 100)),oQ 37 (.pick (.t 32) (cB true) (.t 36)),oM 38 (.t 37),gQ 39 38 false (.faddr 3 (.t 5)),gQ 40 38 false (.load none (.t 39)),gQ 41 38 false (.len 0 (.t 40)),gQ 42 38 false (.bin .gtr (.t 41) (cI 100)),oQ 43 (.pick (.t 38) (cB true) (.t 42)),oM 6 (.t 43)] [6])
.ret))))
theorem fok34 : FOK Tryz.prog 34 (44,ic34,[(.t 6)]):=fokA [1000005] Tryz.func34
def ic35 : IC :=
(.seq
(.reg 0 [oK 5 (.boxt (.t 2)),oM 6 (.c .nilptr),oM 7 (.c .nilptr),oM 8 (cB false)] [0,1,5])
(.seq
(.reg 1 [oM 14 (.t 0),oM 15 (.t 1),oK 16 (.call 15 [(.t 14),(.t 15)]),oM 13 (.t 16),oQ 17 (.ext 0 (.t 13)),oQ 18 (.ext 1 (.t 13)),oM 9 (.t 17),oM 10 (.t 18)] [5,9,10])
(.seq
(.seq
(.reg 2 [oM 19 (.t 10),oQ 20 (.bin .neq (.t 19) (cI 0))] [5,9,20])
(.cond (.t 20)
(.seq
(.reg 3 [oM 6 (.c .nilptr),oM 7 (.c .nilptr),oM 8 (cB false)] [6,7,8])
.ret)
.skip))
(.seq
(.reg 4 [oM 22 (.t 9),oQ 23 (.load (some 5) (.t 5)),oK 24 (.call 98 [(.t 22),(.t 23)]),oM 21 (.t 24),oQ 25 (.ext 0 (.t 21)),oQ 26 (.ext 1 (.t 21)),oM 11 (.t 25),oM 12 (.t 26)] [9,11,12])
(.seq
(.reg 5 [oM 27 (.t 11),oM 28 (.t 9),oM 29 (.t 12),oQ 30 (.bin .eql (.t 29) (cI 0)),oM 31 (.t 30),gQ 32 31 true (.mov (.t 11)),gQ 33 31 true (.isnil (.pointer 136) true (.t 32)),oQ 34 (.pick (.t 31) (.t 33) (cB false)),oM 6 (.t 27),oM 7 (.t 28),oM 8 (.t 34)] [6,7,8])
.ret)))))
theorem fok35 : FOK Tryz.prog 35 (35,ic35,[(.t 6),(.t 7),(.t 8)]):=fokA [1000005] Tryz.func35
def ic36 : IC :=
(.seq
(.reg 0 [oM 4 (cB false)] [0,1])
(.seq
(.reg 1 [oM 5 (.t 0),oM 6 (.t 1),oK 7 (.call 99 [(.t 5),(.t 6)]),oM 8 (.t 7),gQ 9 8 true (.mov (.t 0)),gQ 10 8 true (.mov (.t 1)),gK 11 8 true (.call 100 [(.t 9),(.c (zU 1)),(.t 10)]),oQ 12 (.pick (.t 8) (.t 11) (cB false)),oM 4 (.t 12)] [4])
.ret))
theorem fok36 : FOK Tryz.prog 36 (13,ic36,[(.t 4)]):=fokA [] Tryz.func36
def ic37 : IC :=
(.seq
(.reg 0 [oM 4 (cB false)] [0,1])
(.seq
(.seq
(.reg 1 [oM 6 (.t 0),oQ 7 (.len 0 (.t 6)),oM 8 (.t 1),oQ 9 (.len 0 (.t 8)),oQ 10 (.bin .neq (.t 7) (.t 9))] [0,1,10])
(.cond (.t 10)
(.seq
(.reg 2 [oM 4 (cB false)] [4])
.ret)
.skip))
(.seq
(.seq
(.reg 3 [oM 5 (cI 0)] [0,1,5])
(.block 0
(.loop
(.seq
(.seq
(.reg 4 [oM 11 (.t 5),oM 12 (.t 0),oQ 13 (.len 0 (.t 12)),oQ 14 (.bin .lss (.t 11) (.t 13))] [0,1,5,14])
(.cond (.t 14)
.skip
(.exit 0)))
(.seq
(.block 1
(.seq
(.dreg 6 [oM 17 (.t 0),oM 18 (.t 5),oQ 19 (.iaddr 1 (.t 17) (.t 18)),oQ 20 (.load none (.t 19)),oM 21 (.t 1),oM 22 (.t 5),oQ 23 (.iaddr 1 (.t 21) (.t 22)),oQ 24 (.load none (.t 23)),oQ 25 (.bin .neq (.t 20) (.t 24))] false [0,1,5,25])
(.cond (.t 25)
(.seq
(.reg 7 [oM 4 (cB false)] [4])
.ret)
.skip)))
(.reg 5 [oM 15 (.t 5),oQ 16 (.bin .add (.t 15) (cI 1)),oM 5 (.t 16)] [0,1,5]))))))
(.seq
(.reg 8 [oM 4 (cB true)] [4])
.ret))))
theorem fok37 : FOK Tryz.prog 37 (26,ic37,[(.t 4)]):=fokA [] Tryz.func37
def ic38 : IC :=
(.seq
(.reg 0 [oK 2 (.boxt (.t 0)),oM 4 (.c .nilslice)] [1,2])
(.seq
(.seq
(.reg 1 [oQ 7 (.load none (.t 2)),oM 8 (.t 1),oK 9 (.call 99 [(.t 7),(.t 8)]),oQ 10 (.not (.t 9))] [1,2,10])
(.cond (.t 10)
(.seq
(.reg 2 [oM 4 (.c .nilslice)] [4])
.ret)
.skip))
(.seq
(.reg 3 [oQ 11 (.load none (.t 2)),oQ 12 (.nchk (.t 11)),oQ 13 (.faddr 2 (.t 12)),oQ 14 (.faddr 2 (.t 13)),oQ 15 (.load none (.t 14)),oM 16 (.t 1),oQ 17 (.iaddr 6 (.t 15) (.t 16)),oQ 18 (.load (some 6) (.t 17)),oK 5 (.alloc [(zU 0),(.str []),(zU 0),(zI 0),(.str []),(.str [])]),oN (.store 6 (.t 5) (.t 18))] [2,5])
(.seq
(.seq
(.reg 4 [oQ 19 (.faddr 0 (.t 5)),oQ 20 (.load none (.t 19)),oQ 21 (.bin .eql (.t 20) (.c (zU 1)))] [2,5,21])
(.cond (.t 21)
(.seq
(.dreg 5 [oQ 22 (.load none (.t 2)),oQ 23 (.nchk (.t 22)),oQ 24 (.faddr 1 (.t 23)),oQ 25 (.load none (.t 24)),oQ 26 (.faddr 1 (.t 5)),oQ 27 (.load (some 5) (.t 26)),oK 28 (.call 28 [(.t 25),(.t 27)]),oM 4 (.t 28)] false [4])
.ret)
.skip))
(.seq
(.dreg 6 [oQ 29 (.load none (.t 2)),oQ 30 (.nchk (.t 29)),oQ 31 (.faddr 1 (.t 30)),oQ 32 (.load none (.t 31)),oQ 33 (.faddr 1 (.t 5)),oQ 34 (.load (some 5) (.t 33)),oK 35 (.call 29 [(.t 32),(.t 34)]),oM 6 (.t 35)] false [2,5,6])
(.seq
(.seq
(.reg 7 [oQ 36 (.faddr 0 (.t 5)),oQ 37 (.load none (.t 36)),oQ 38 (.bin .eql (.t 37) (.c (zU 2)))] [2,6,38])
(.cond (.t 38)
(.seq
(.reg 8 [oM 39 (.t 6),oM 4 (.t 39)] [4])
.ret)
.skip))
(.seq
(.reg 9 [oM 40 (.t 6),oQ 41 (.mkf 102 [] [(.t 2)]),oK 42 (.call 101 [(.t 40),(.t 41)]),oM 4 (.t 42)] [4])
.ret)))))))
theorem fok38 : FOK Tryz.prog 38 (43,ic38,[(.t 4)]):=fokA [1000002] Tryz.func38
def ic40 : IC :=
(.seq
(.reg 0 [oK 2 (.boxt (.t 0)),oM 4 (.c .nilslice)] [1,2])
(.seq
(.seq
(.reg 1 [oQ 12 (.load none (.t 2)),oM 13 (.t 1),oK 14 (.call 103 [(.t 12),(.t 13)]),oQ 15 (.not (.t 14))] [1,2,15])
(.cond (.t 15)
(.seq
(.reg 2 [oM 4 (.c .nilslice)] [4])
.ret)
.skip))
(.seq
(.reg 3 [oQ 16 (.load none (.t 2)),oQ 17 (.nchk (.t 16)),oQ 18 (.faddr 7 (.t 17)),oQ 19 (.load none (.t 18)),oM 20 (.t 1),oQ 21 (.iaddr 15 (.t 19) (.t 20)),oQ 22 (.load (some 15) (.t 21)),oK 5 (.alloc [(.str []),(zI 0),(.str []),(.str []),(zU 0),(.str []),.nilslice,.nilslice,.nilslice,.nilslice,.nilslice,.nilslice,.nilslice,.nilslice,.nilslice]),oN (.store 15 (.t 5) (.t 22))] [1,2,5])
(.seq
(.reg 4 [oQ 23 (.load none (.t 2)),oM 24 (.t 1),oK 25 (.call 100 [(.t 23),(.c (zU 3)),(.t 24)]),oM 26 (.t 25),gQ 27 26 false (.load none (.t 2)),gQ 28 26 false (.mov (.t 1)),gK 29 26 false (.call 104 [(.t 27),(.c (zU 4)),(.t 28)]),oQ 30 (.pick (.t 26) (cB true) (.t 29)),oK 6 (.alloc [(.bool false)]),oN (.store 1 (.t 6) (.t 30))] [1,2,5,6])
(.seq
(.reg 5 [oQ 31 (.load none (.t 2)),oM 32 (.t 1),oK 33 (.call 100 [(.t 31),(.c (zU 4)),(.t 32)]),oK 7 (.alloc [(.bool false)]),oN (.store 1 (.t 7) (.t 33))] [1,2,5,6,7])
(.seq
(.reg 6 [oQ 34 (.mkf 105 [] [(.t 5),(.t 6),(.t 7),(.t 2)]),oM 8 (.t 34)] [1,2,8])
(.seq
(.reg 7 [oQ 35 (.load none (.t 2)),oQ 36 (.nchk (.t 35)),oQ 37 (.faddr 1 (.t 36)),oQ 38 (.load none (.t 37)),oM 39 (.t 1),oK 40 (.call 26 [(.t 38),(.t 39)]),oM 9 (.t 40)] [1,2,8,9])
(.seq
(.seq
(.reg 8 [oQ 41 (.load none (.t 2)),oQ 42 (.nchk (.t 41)),oQ 43 (.faddr 7 (.t 42)),oQ 44 (.load none (.t 43)),oQ 45 (.len 0 (.t 44)),oM 46 (cI 0)] [1,8,9,44,45,46])
(.block 0
(.loop
(.seq
(.reg 9 [oQ 47 (.bin .lss (.t 46) (.t 45))] [1,8,9,44,45,46,47])
(.seq
(.cond (.t 47)
.skip
(.exit 0))
(.seq
(.block 1
(.seq
(.reg 10 [oM 48 (.t 46),oQ 49 (.iaddr 15 (.t 44) (.t 46)),oQ 50 (.load (some 15) (.t 49)),oK 11 (.alloc [(.str []),(zI 0),(.str []),(.str []),(zU 0),(.str []),.nilslice,.nilslice,.nilslice,.nilslice,.nilslice,.nilslice,.nilslice,.nilslice,.nilslice]),oM 10 (.t 48),oN (.store 15 (.t 11) (.t 50))] [1,8,9,10,11,44,45,46])
(.seq
(.reg 11 [oM 51 (.t 10),oM 52 (.t 1),oQ 53 (.bin .eql (.t 51) (.t 52)),oM 54 (.t 53),gQ 55 54 false (.mov (.t 8)),gQ 56 54 false (.load (some 15) (.t 11)),gK 57 54 false (.callv (.t 55) [(.t 56)]),oQ 58 (.pick (.t 54) (cB true) (.t 57))] [1,8,9,10,44,45,46,58])
(.cond (.t 58)
(.reg 12 [oM 59 (.t 9),oM 60 (.t 10),oK 61 (.bslt 1 1 [(zI 0)] [⟨0,⟨1,(.t 60)⟩⟩]),oK 62 (.app 1 (.t 59) (.t 61)),oM 9 (.t 62)] [1,8,9,44,45,46])
.skip))))
(.reg 13 [oQ 63 (.bin .add (.t 46) (cI 1)),oM 46 (.t 63)] [1,8,9,44,45,46])))))))
(.seq
(.reg 14 [oM 64 (.t 9),oK 65 (.call 84 [(.t 64)])] [9])
(.seq
(.reg 15 [oM 66 (.t 9),oK 67 (.call 85 [(.t 66)]),oM 4 (.t 67)] [4])
.ret))))))))))
theorem fok40 : FOK Tryz.prog 40 (68,ic40,[(.t 4)]):=fokA [1000002,1000061] Tryz.func40
def ic42 : IC :=
(.seq
(.reg 0 [oK 2 (.boxt (.t 0)),oM 4 (.c .nilslice)] [1,2])
(.seq
(.seq
(.reg 1 [oQ 5 (.load none (.t 2)),oM 6 (.t 1),oK 7 (.call 103 [(.t 5),(.t 6)]),oQ 8 (.not (.t 7))] [1,2,8])
(.cond (.t 8)
(.seq
(.reg 2 [oM 4 (.c .nilslice)] [4])
.ret)
.skip))
(.seq
(.reg 3 [oQ 9 (.load none (.t 2)),oM 10 (.t 1),oK 11 (.call 40 [(.t 9),(.t 10)]),oQ 12 (.mkf 108 [] [(.t 2)]),oK 13 (.call 101 [(.t 11),(.t 12)]),oM 4 (.t 13)] [4])
.ret)))
theorem fok42 : FOK Tryz.prog 42 (14,ic42,[(.t 4)]):=fokA [1000002] Tryz.func42
end Go.Id.Tryz
