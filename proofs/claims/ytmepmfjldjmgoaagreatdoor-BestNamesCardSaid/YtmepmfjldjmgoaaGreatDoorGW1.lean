/- The compiled codes of functions, written by a program out of the given form. Conditions: none. -/
import Derived.Test.YtmepmfjldjmgoaaGreatDoorFwW
import Derived.Test.YtmepmfjldjmgoaaGreatDoorProg
set_option linter.all false
namespace Go.Id.Tryz
open Go Go.Id Go.Proofs
def allF1 : List Nat := List.range 412
def ic53 : IC :=
(.seq
(.reg 0 [oM 2 (cI 0)] [0])
(.seq
(.dreg 1 [oM 8 0,oQ 9 (.nchk 8),oQ 10 (.faddr 2 9),oQ 11 (.load none 10),oM 12 0,oQ 13 (.nchk 12),oQ 14 (.faddr 5 13),oQ 15 (.load none 14),oK 16 (.call 99 [11,15]),oM 3 16] false [0,3])
(.seq
(.reg 2 [oM 17 3,oK 18 (.call 106 [17])] [0,3])
(.seq
(.seq
(.reg 3 [oM 19 3,oQ 20 (.len 0 19),oM 21 (cI 0)] [0,19,20,21])
(.block 0
(.loop
(.seq
(.reg 4 [oQ 22 (.bin .lss 21 20)] [0,19,20,21,22])
(.seq
(.cond 22
.skip
(.exit 0))
(.seq
(.block 1
(.seq
(.reg 5 [oQ 23 (.iaddr 1 19 21),oQ 24 (.load none 23),oM 5 24] [0,5,19,20,21])
(.reg 6 [oM 25 0,oM 26 0,oQ 27 (.nchk 26),oQ 28 (.faddr 6 27),oQ 29 (.load none 28),oM 30 5,oM 31 5,oQ 32 (.bin .add 31 (cI 1)),oQ 33 (.neg 32),oK 34 (.bslt 1 1 [(zI 0)] [⟨0,⟨1,33⟩⟩]),oK 35 (.bslt 1 1 [.nilslice] [⟨0,⟨1,34⟩⟩]),oK 36 (.bslt 1 1 [.nilslice] [⟨0,⟨1,35⟩⟩]),oQ 37 (.bld [(zU 0),(zI 0),.nilslice] [⟨0,⟨1,(.c (zU 5))⟩⟩,⟨1,⟨1,30⟩⟩,⟨2,⟨1,36⟩⟩]),oK 38 (.bslt 3 1 [(zU 0),(zI 0),.nilslice] [⟨0,⟨3,37⟩⟩]),oK 39 (.app 3 29 38),oQ 40 (.nchk 25),oQ 41 (.faddr 6 40),oN (.store 1 41 39)] [0,19,20,21])))
(.reg 7 [oQ 42 (.bin .add 21 (cI 1)),oM 21 42] [0,19,20,21])))))))
(.seq
(.seq
(.reg 8 [oM 43 0,oQ 44 (.nchk 43),oQ 45 (.faddr 4 44),oQ 46 (.load none 45),oQ 47 (.len 0 46),oM 48 (cI 0)] [0,46,47,48])
(.block 2
(.loop
(.seq
(.reg 9 [oQ 49 (.bin .lss 48 47)] [0,46,47,48,49])
(.seq
(.cond 49
.skip
(.exit 2))
(.seq
(.block 3
(.seq
(.reg 10 [oQ 50 (.iaddr 1 46 48),oQ 51 (.load none 50),oM 7 51] [0,7,46,47,48])
(.reg 11 [oM 52 0,oM 53 7,oM 54 7,oK 55 (.bslt 1 1 [(zI 0)] [⟨0,⟨1,54⟩⟩]),oK 56 (.call 98 [52,(.c (zU 6)),53,55])] [0,46,47,48])))
(.reg 12 [oQ 57 (.bin .add 48 (cI 1)),oM 48 57] [0,46,47,48])))))))
(.seq
(.reg 13 [oM 2 (cI 0)] [2])
.ret))))))
theorem fok53 : FOK Tryz.prog 53 (58,ic53,[(.t 2)]) := fokA [1000034,1000035,1000036,1000038,1000055,2000000] Tryz.func53
def ic56 : IC :=
(.seq
(.reg 0 [oM 2 (.c .nilptr),oM 3 (.c .nilslice),oM 4 (cI 0)] [0])
(.seq
(.reg 1 [oM 9 0,oK 10 (.call 8 [9]),oM 8 10,oQ 11 (.ext 0 8),oQ 12 (.ext 1 8),oM 5 11,oM 6 12] [0,5,6])
(.seq
(.seq
(.reg 2 [oM 13 6,oQ 14 (.bin .neq 13 (cI 0))] [0,5,6,14])
(.cond 14
(.seq
(.reg 3 [oM 15 6,oM 2 (.c .nilptr),oM 3 (.c .nilslice),oM 4 15] [2,3,4])
.ret)
.skip))
(.seq
(.reg 4 [oM 17 0,oM 18 5,oK 19 (.call 9 [17,18]),oM 16 19,oQ 20 (.ext 0 16),oQ 21 (.ext 1 16),oM 7 20,oM 6 21] [5,6,7])
(.seq
(.reg 5 [oM 22 5,oM 23 7,oM 24 6,oM 2 22,oM 3 23,oM 4 24] [2,3,4])
.ret)))))
theorem fok56 : FOK Tryz.prog 56 (25,ic56,[(.t 2),(.t 3),(.t 4)]) := fokA [2000000] Tryz.func56
def ic57 : IC :=
(.seq
(.reg 0 [oM 2 (.c .nilslice)] [0])
(.seq
(.seq
(.reg 1 [oM 6 0,oQ 7 (.isnil (.pointer 114) false 6)] [0,7])
(.cond 7
(.seq
(.reg 2 [oM 2 (.c .nilslice)] [2])
.ret)
.skip))
(.seq
(.reg 3 [oM 8 0,oK 9 (.call 109 [8]),oM 3 9] [0,3])
(.seq
(.seq
(.reg 4 [oM 10 0,oQ 11 (.nchk 10),oQ 12 (.faddr 4 11),oQ 13 (.load none 12),oQ 14 (.len 0 13),oM 15 (cI 0)] [3,13,14,15])
(.block 0
(.loop
(.seq
(.reg 5 [oQ 16 (.bin .lss 15 14)] [3,13,14,15,16])
(.seq
(.cond 16
.skip
(.exit 0))
(.seq
(.block 1
(.seq
(.reg 6 [oQ 17 (.iaddr 1 13 15),oQ 18 (.load none 17),oM 5 18] [3,5,13,14,15])
(.reg 7 [oM 19 3,oM 20 5,oK 21 (.call 110 [20]),oK 22 (.app 1 19 21),oM 3 22] [3,13,14,15])))
(.reg 8 [oQ 23 (.bin .add 15 (cI 1)),oM 15 23] [3,13,14,15])))))))
(.seq
(.reg 9 [oM 24 3,oM 2 24] [2])
.ret)))))
theorem fok57 : FOK Tryz.prog 57 (25,ic57,[(.t 2)]) := fokA [2000000] Tryz.func57
def ic58 : IC :=
(.seq
(.reg 0 [oK 6 (.alloc [(.bool false),.nilslice,(zI 0),.nilslice,.nilslice]),oM 7 (cI 0)] [0,1,2,3,4,6])
(.seq
(.oreg 1 [(0,oQ 11 (.load none 1),0),(2,oQ 13 (.load none 2),0),(3,oQ 14 (.load none 2),0),(4,oQ 15 (.len 0 14),0),(5,oQ 16 (.load none 2),0),(6,oQ 17 (.len 0 16),0),(7,oQ 18 (.clp 1 13 (cI 0) 15 17),0),(8,oM 19 0,0),(10,oQ 21 (.load none 3),0),(11,oQ 22 (.faddr 3 4),0),(12,oQ 23 (.load none 22),0),(13,oQ 24 (.bin .sub 21 23),0),(1,oK 12 (.call 60 [11]),5164),(9,oK 20 (.app 1 18 19),5120),(14,oK 25 (.call 59 [12,20,24]),0),(15,oM 10 25,0),(16,oQ 26 (.ext 0 10),0),(17,oQ 27 (.ext 1 10),0),(18,oK 8 (.alloc [(.bool false),.nilslice,(zI 0),.nilslice,.nilslice]),0),(19,oN (.store 5 8 26),0),(20,oM 9 27,0)] [4,6,8,9])
(.seq
(.reg 2 [oQ 28 (.faddr 3 4),oQ 29 (.load none 28),oQ 30 (.faddr 2 8),oQ 31 (.load none 30),oQ 32 (.bin .add 29 31),oQ 33 (.faddr 3 4),oN (.store 1 33 32)] [6,8,9])
(.seq
(.reg 3 [oQ 34 (.load (some 5) 8),oM 35 9,oN (.store 5 6 34),oM 7 35] [6,7])
.ret))))
theorem fok58 : FOK Tryz.prog 58 (36,ic58,[(.cell (some 5) 6),(.t 7)]) := fokA [2000000] Tryz.func58
def ic59 : IC :=
(.seq
(.reg 0 [oK 6 (.alloc [(.bool false),.nilslice,(zI 0),.nilslice,.nilslice]),oM 7 (cI 0)] [0,1,2,6])
(.scope
(.seq
(.reg 1 [oM 26 0,oK 27 (.call 111 [26]),oM 25 27,oQ 28 (.ext 0 25),oQ 29 (.ext 1 25),oM 8 28,oM 9 29] [0,1,2,6,8,9])
(.seq
(.seq
(.reg 2 [oM 30 9,oQ 31 (.bin .neq 30 (cI 0)),oM 32 31,gQ 33 32 false (.mov 2),gQ 34 32 false (.bin .lss 33 (cI 0)),oQ 35 (.pick 32 (cB true) 34),oM 36 35,gQ 37 36 false (.mov 2),gQ 38 36 false (.bin .gtr 37 (cI 1099511627776)),oQ 39 (.pick 36 (cB true) 38)] [0,1,2,6,8,39])
(.cond 39
(.seq
(.reg 3 [oQ 40 (.bld [(.bool false),.nilslice,(zI 0),.nilslice,.nilslice] []),oN (.store 5 6 40),oM 7 (cI 1)] [6,7])
.ret)
.skip))
(.seq
(.reg 4 [oM 41 8,oM 42 0,oQ 43 (.bld [.nilptr,(zI 0),.nilslice,(zI 0)] [⟨0,⟨1,41⟩⟩,⟨1,⟨1,42⟩⟩]),oK 44 (.box 43),oM 10 44] [0,1,2,6,8,10])
(.seq
(.seq
(.reg 5 [oM 45 1,oQ 46 (.len 0 45),oM 47 (cI 0)] [0,2,6,8,10,45,46,47])
(.block 0
(.loop
(.seq
(.reg 6 [oQ 48 (.bin .lss 47 46)] [0,2,6,8,10,45,46,47,48])
(.seq
(.cond 48
.skip
(.exit 0))
(.seq
(.block 1
(.seq
(.reg 7 [oQ 49 (.iaddr 1 45 47),oQ 50 (.load none 49),oM 12 50] [0,2,6,8,10,12,45,46,47])
(.seq
(.reg 8 [oM 51 10,oM 52 12,oK 53 (.call 112 [51,52]),oM 13 53] [0,2,6,8,10,13,45,46,47])
(.seq
(.reg 9 [oM 54 13,oQ 55 (.bin .neq 54 (cI 0))] [0,2,6,8,10,13,45,46,47,55])
(.cond 55
(.seq
(.reg 10 [oQ 56 (.bld [(.bool false),.nilslice,(zI 0),.nilslice,.nilslice] []),oM 57 13,oN (.store 5 6 56),oM 7 57] [6,7])
.ret)
.skip)))))
(.reg 11 [oQ 58 (.bin .add 47 (cI 1)),oM 47 58] [0,2,6,8,10,45,46,47])))))))
(.seq
(.reg 12 [oK 14 (.alloc [(.bool false),.nilslice,(zI 0),.nilslice,.nilslice])] [0,2,6,8,10,14])
(.seq
.skip
(.seq
(.block 2
(.loop
(.block 3
(.seq
(.reg 13 [oM 60 10,oK 61 (.call 113 [60]),oM 59 61,oQ 62 (.ext 0 59),oQ 63 (.ext 1 59),oM 15 62,oM 16 63] [0,2,6,8,10,14,15,16])
(.seq
(.seq
(.reg 14 [oM 64 15,oQ 65 (.bin .eql 64 (cI 2))] [0,2,6,8,10,14,15,16,65])
(.cond 65
(.exit 2)
.skip))
(.seq
(.seq
(.reg 15 [oQ 66 (.faddr 2 14),oQ 67 (.load none 66),oM 68 2,oQ 69 (.bin .eql 67 68)] [0,2,6,8,10,14,15,16,69])
(.cond 69
(.seq
(.reg 16 [oQ 70 (.bld [(.bool false),.nilslice,(zI 0),.nilslice,.nilslice] []),oN (.store 5 6 70),oM 7 (cI 44)] [6,7])
.ret)
.skip))
(.seq
(.reg 17 [oQ 71 (.faddr 2 14),oQ 72 (.load none 71),oQ 73 (.bin .add 72 (cI 1)),oQ 74 (.faddr 2 14),oN (.store 1 74 73)] [0,2,6,8,10,14,15,16])
(.seq
(.seq
(.reg 18 [oM 75 15,oQ 76 (.bin .eql 75 (cI 1))] [0,2,6,8,10,14,16,76])
(.cond 76
(.seq
(.seq
(.reg 19 [oM 77 8,oM 78 16,oQ 79 (.bin .add 78 (cI 1)),oQ 80 (.neg 79),oK 81 (.call 114 [77,80]),oM 17 81] [0,2,6,8,10,14,17])
(.seq
(.reg 20 [oM 82 17,oQ 83 (.bin .neq 82 (cI 0))] [0,2,6,8,10,14,17,83])
(.cond 83
(.seq
(.reg 21 [oQ 84 (.bld [(.bool false),.nilslice,(zI 0),.nilslice,.nilslice] []),oM 85 17,oN (.store 5 6 84),oM 7 85] [6,7])
.ret)
.skip)))
(.exit 3))
.skip))
(.seq
(.oreg 22 [(0,oM 87 8,0),(2,oM 89 10,0),(3,oQ 90 (.nchk 89),0),(4,oQ 91 (.faddr 2 90),0),(5,oQ 92 (.load none 91),0),(6,oM 93 16,0),(1,oK 88 (.call 116 [87]),32),(7,oK 94 (.call 115 [88,92,93]),0),(8,oM 86 94,0),(9,oQ 95 (.ext 0 86),0),(10,oQ 96 (.ext 1 86),0),(11,oQ 97 (.ext 2 86),0),(12,oQ 98 (.ext 3 86),0),(13,oM 18 95,0),(14,oM 19 96,0),(15,oM 20 97,0),(16,oM 21 98,0)] [0,2,6,8,10,14,18,19,20,21])
(.seq
(.block 4
(.seq
(.reg 23 [oM 100 21,oQ 101 (.bin .neq 100 (cI 0)),oM 99 101] [0,2,6,8,10,14,18,19,20,21,99])
(.cond 99
(.seq
(.reg 24 [oQ 102 (.bld [(.bool false),.nilslice,(zI 0),.nilslice,.nilslice] []),oM 103 21,oN (.store 5 6 102),oM 7 103] [6,7])
.ret)
(.seq
(.reg 25 [oM 105 19,oQ 106 (.bin .lss 105 (cI 0)),oM 104 106] [0,2,6,8,10,14,18,19,20,104])
(.cond 104
(.seq
(.reg 26 [oM 107 20,oQ 108 (.faddr 4 14),oN (.store 1 108 107)] [6,14])
(.seq
(.reg 27 [oQ 109 (.load (some 5) 14),oN (.store 5 6 109),oM 7 (cI 0)] [6,7])
.ret))
.skip)))))
(.seq
(.reg 28 [oQ 110 (.faddr 3 14),oQ 111 (.load none 110),oM 112 20,oK 113 (.bslt 1 1 [.nilslice] [⟨0,⟨1,112⟩⟩]),oK 114 (.app 1 111 113),oQ 115 (.faddr 3 14),oN (.store 1 115 114)] [0,2,6,8,10,14,18,19])
(.seq
(.seq
(.reg 29 [oM 116 8,oM 117 19,oK 118 (.call 117 [116,117]),oM 22 118] [0,2,6,8,10,14,18,22])
(.seq
(.reg 30 [oM 119 22,oQ 120 (.bin .neq 119 (cI 0))] [0,2,6,8,10,14,18,22,120])
(.cond 120
(.seq
(.reg 31 [oQ 121 (.bld [(.bool false),.nilslice,(zI 0),.nilslice,.nilslice] []),oM 122 22,oN (.store 5 6 121),oM 7 122] [6,7])
.ret)
.skip)))
(.seq
(.reg 32 [oM 123 10,oQ 124 (.nchk 123),oQ 125 (.faddr 3 124),oN (.store 1 125 (cI 0))] [0,2,6,8,10,14,18])
(.seq
(.reg 33 [oM 126 10,oM 127 18,oK 128 (.call 112 [126,127]),oM 23 128] [0,2,6,8,10,14,23])
(.seq
(.reg 34 [oM 129 23,oQ 130 (.bin .neq 129 (cI 0))] [0,2,6,8,10,14,23,130])
(.cond 130
(.seq
(.reg 35 [oQ 131 (.bld [(.bool false),.nilslice,(zI 0),.nilslice,.nilslice] []),oM 132 23,oN (.store 5 6 131),oM 7 132] [6,7])
.ret)
.skip))))))))))))))))
(.seq
(.dreg 36 [oM 133 0,oK 134 (.mksl 1 [(.bool false)] 133),oQ 135 (.faddr 0 14),oN (.store 1 135 (cB true)),oQ 136 (.faddr 1 14),oN (.store 1 136 134)] false [0,6,8,14])
(.seq
(.seq
(.reg 37 [oM 137 0,oM 138 (cI 0)] [6,8,14,137,138])
(.block 5
(.loop
(.seq
(.reg 38 [oQ 139 (.bin .lss 138 137)] [6,8,14,137,138,139])
(.seq
(.cond 139
.skip
(.exit 5))
(.seq
(.block 6
(.seq
(.reg 39 [oM 140 138,oM 24 140] [6,8,14,24,137,138])
(.oreg 40 [(0,oQ 141 (.faddr 1 14),0),(1,oQ 142 (.load none 141),0),(2,oM 143 24,0),(3,oM 144 8,0),(4,oM 145 24,0),(5,oQ 146 (.bin .add 145 (cI 1)),0),(6,oK 147 (.call 118 [144,146]),2),(7,oQ 148 (.bin .eql 147 (cI 1)),0),(8,oQ 149 (.iaddr 1 142 143),0),(9,oN (.store 1 149 148),0)] [6,8,14,137,138])))
(.reg 41 [oQ 150 (.bin .add 138 (cI 1)),oM 138 150] [6,8,14,137,138])))))))
(.seq
(.reg 42 [oQ 151 (.load (some 5) 14),oN (.store 5 6 151),oM 7 (cI 0)] [6,7])
.ret))))))))))))
theorem fok59 : FOK Tryz.prog 59 (152,ic59,[(.cell (some 5) 6),(.t 7)]) := fokA [1000113,2000000] Tryz.func59
def ic60 : IC :=
(.seq
(.reg 0 [oM 2 (cI 0)] [0])
(.seq
(.seq
(.reg 1 [oM 3 0,oQ 4 (.isnil (.pointer 114) false 3)] [0,4])
(.cond 4
(.seq
(.reg 2 [oM 2 (cI 0)] [2])
.ret)
.skip))
(.seq
(.reg 3 [oM 5 0,oQ 6 (.nchk 5),oQ 7 (.faddr 2 6),oQ 8 (.load none 7),oK 9 (.call 119 [8]),oM 2 9] [2])
.ret)))
theorem fok60 : FOK Tryz.prog 60 (10,ic60,[(.t 2)]) := fokA [2000000] Tryz.func60
def ic61 : IC :=
(.seq
(.reg 0 [oK 2 (.boxt 0),oM 4 (cB false)] [1,2])
(.seq
(.reg 1 [oQ 6 (.mkf 120 [] [2]),oK 5 (.alloc [.nilfunc]),oN (.store 1 5 6)] [1,5])
(.seq
(.reg 2 [oM 7 1,oQ 8 (.mkf 122 [] [5]),oK 9 (.call 121 [7,8]),oQ 10 (.not 9),oM 4 10] [4])
.ret)))
theorem fok61 : FOK Tryz.prog 61 (11,ic61,[(.t 4)]) := fokA [1000002,2000000] Tryz.func61
def ic62 : IC :=
(.seq
(.reg 0 [oM 4 (.c .nilslice)] [0,1])
(.seq
(.seq
(.reg 1 [oM 7 0,oQ 8 (.isnil (.pointer 114) false 7)] [0,1,8])
(.cond 8
(.seq
(.reg 2 [oM 4 (.c .nilslice)] [4])
.ret)
.skip))
(.seq
(.reg 3 [oM 5 (.c .nilslice)] [0,1,5])
(.seq
(.seq
(.reg 4 [oM 9 1,oQ 10 (.len 0 9),oM 11 0,oQ 12 (.nchk 11),oQ 13 (.faddr 0 12),oQ 14 (.load none 13),oK 15 (.call 39 [14]),oK 16 (.call 35 [15]),oQ 17 (.mm false 10 16),oM 18 (cI 0)] [1,5,17,18])
(.block 0
(.loop
(.seq
(.reg 5 [oQ 19 (.bin .lss 18 17)] [1,5,17,18,19])
(.seq
(.cond 19
.skip
(.exit 0))
(.seq
(.block 1
(.seq
(.reg 6 [oM 20 18,oM 6 20] [1,5,6,17,18])
(.seq
(.reg 7 [oM 21 1,oM 22 6,oQ 23 (.iaddr 1 21 22),oQ 24 (.load none 23)] [1,5,6,17,18,24])
(.cond 24
(.reg 8 [oM 25 5,oM 26 6,oK 27 (.bslt 1 1 [(zI 0)] [⟨0,⟨1,26⟩⟩]),oK 28 (.app 1 25 27),oM 5 28] [1,5,17,18])
.skip))))
(.reg 9 [oQ 29 (.bin .add 18 (cI 1)),oM 18 29] [1,5,17,18])))))))
(.seq
(.reg 10 [oM 30 5,oM 4 30] [4])
.ret)))))
theorem fok62 : FOK Tryz.prog 62 (31,ic62,[(.t 4)]) := fokA [1000027,2000000] Tryz.func62
def ic64 : IC :=
(.seq
(.reg 0 [oM 4 (cB false)] [0,1])
(.seq
(.seq
(.reg 1 [oM 6 0,oQ 7 (.len 0 6),oM 8 1,oQ 9 (.len 0 8),oQ 10 (.bin .neq 7 9)] [0,1,10])
(.cond 10
(.seq
(.reg 2 [oM 4 (cB false)] [4])
.ret)
.skip))
(.seq
(.seq
(.reg 3 [oM 5 (cI 0)] [0,1,5])
(.block 0
(.loop
(.seq
(.seq
(.reg 4 [oM 11 5,oM 12 0,oQ 13 (.len 0 12),oQ 14 (.bin .lss 11 13)] [0,1,5,14])
(.cond 14
.skip
(.exit 0)))
(.seq
(.block 1
(.seq
(.dreg 6 [oM 17 0,oM 18 5,oQ 19 (.iaddr 1 17 18),oQ 20 (.load none 19),oM 21 1,oM 22 5,oQ 23 (.iaddr 1 21 22),oQ 24 (.load none 23),oQ 25 (.bin .neq 20 24)] false [0,1,5,25])
(.cond 25
(.seq
(.reg 7 [oM 4 (cB false)] [4])
.ret)
.skip)))
(.reg 5 [oM 15 5,oQ 16 (.bin .add 15 (cI 1)),oM 5 16] [0,1,5]))))))
(.seq
(.reg 8 [oM 4 (cB true)] [4])
.ret))))
theorem fok64 : FOK Tryz.prog 64 (26,ic64,[(.t 4)]) := fokA [2000000] Tryz.func64
def ic65 : IC :=
(.seq
(.reg 0 [⟨(some 1),none,(.boxt (.t 0))⟩,⟨(some 2),none,(.alloc [(.bool false)])⟩] [1,2])
(.seq
(.block 0
(.seq
(.reg 1 [⟨(some 8),none,(.q (.faddr 0 (.t 1)))⟩,⟨(some 9),none,(.q (.load none (.t 8)))⟩,⟨(some 10),none,(.call 69 [(.t 9)])⟩,⟨(some 11),none,(.q (.not (.t 10)))⟩,⟨(some 12),none,(.q (.mov (.t 11)))⟩,⟨(some 13),(some ⟨12,false⟩),(.q (.faddr 0 (.t 1)))⟩,⟨(some 14),(some ⟨12,false⟩),(.q (.load none (.t 13)))⟩,⟨(some 15),(some ⟨12,false⟩),(.call 71 [(.t 14)])⟩,⟨(some 16),none,(.q (.pick (.t 12) (.c (.bool true)) (.t 15)))⟩,⟨(some 17),none,(.q (.mov (.t 16)))⟩,⟨(some 18),(some ⟨17,false⟩),(.q (.faddr 1 (.t 1)))⟩,⟨(some 19),(some ⟨17,false⟩),(.q (.load (some 3) (.t 18)))⟩,⟨(some 20),(some ⟨17,false⟩),(.call 72 [(.t 19),(.c (.bool false))])⟩,⟨(some 21),(some ⟨17,false⟩),(.q (.not (.t 20)))⟩,⟨(some 22),none,(.q (.pick (.t 17) (.c (.bool true)) (.t 21)))⟩,⟨(some 7),none,(.q (.mov (.t 22)))⟩] [1,2,7])
(.cond (.t 7)
(.seq
(.reg 2 [⟨none,none,(.store 1 (.t 2) (.c (.bool false)))⟩] [2])
.ret)
(.seq
(.reg 3 [⟨(some 24),none,(.q (.faddr 4 (.t 1)))⟩,⟨(some 25),none,(.q (.load none (.t 24)))⟩,⟨(some 26),none,(.call 124 [(.t 25)])⟩,⟨(some 27),none,(.q (.bin .eql (.t 26) (.c (.str []))))⟩,⟨(some 28),none,(.q (.mov (.t 27)))⟩,⟨(some 29),(some ⟨28,false⟩),(.q (.faddr 5 (.t 1)))⟩,⟨(some 30),(some ⟨28,false⟩),(.q (.load none (.t 29)))⟩,⟨(some 31),(some ⟨28,false⟩),(.q (.len 1 (.t 30)))⟩,⟨(some 32),(some ⟨28,false⟩),(.q (.bin .gtr (.t 31) (.c (.int .i64 64))))⟩,⟨(some 33),none,(.q (.pick (.t 28) (.c (.bool true)) (.t 32)))⟩,⟨(some 23),none,(.q (.mov (.t 33)))⟩] [1,2,23])
(.cond (.t 23)
(.seq
(.reg 4 [⟨none,none,(.store 1 (.t 2) (.c (.bool false)))⟩] [2])
.ret)
(.seq
(.reg 5 [⟨(some 35),none,(.q (.faddr 6 (.t 1)))⟩,⟨(some 36),none,(.q (.load none (.t 35)))⟩,⟨(some 37),none,(.call 125 [(.t 36),(.c (.int .i64 32)),(.f 28)])⟩,⟨(some 38),none,(.q (.not (.t 37)))⟩,⟨(some 39),none,(.q (.mov (.t 38)))⟩,⟨(some 40),(some ⟨39,false⟩),(.q (.faddr 9 (.t 1)))⟩,⟨(some 41),(some ⟨39,false⟩),(.q (.load none (.t 40)))⟩,⟨(some 42),(some ⟨39,false⟩),(.call 125 [(.t 41),(.c (.int .i64 32)),(.f 28)])⟩,⟨(some 43),(some ⟨39,false⟩),(.q (.not (.t 42)))⟩,⟨(some 44),none,(.q (.pick (.t 39) (.c (.bool true)) (.t 43)))⟩,⟨(some 45),none,(.q (.mov (.t 44)))⟩,⟨(some 46),(some ⟨45,false⟩),(.q (.faddr 14 (.t 1)))⟩,⟨(some 47),(some ⟨45,false⟩),(.q (.load none (.t 46)))⟩,⟨(some 48),(some ⟨45,false⟩),(.call 126 [(.t 47),(.c (.int .i64 32)),(.f 71)])⟩,⟨(some 49),(some ⟨45,false⟩),(.q (.not (.t 48)))⟩,⟨(some 50),none,(.q (.pick (.t 45) (.c (.bool true)) (.t 49)))⟩,⟨(some 34),none,(.q (.mov (.t 50)))⟩] [1,2,34])
(.cond (.t 34)
(.seq
(.reg 6 [⟨none,none,(.store 1 (.t 2) (.c (.bool false)))⟩] [2])
.ret)
.skip)))))))
(.seq
(.seq
(.reg 7 [⟨(some 51),none,(.q (.faddr 14 (.t 1)))⟩,⟨(some 52),none,(.q (.load none (.t 51)))⟩,⟨(some 53),none,(.q (.len 0 (.t 52)))⟩,⟨(some 54),none,(.q (.mov (.c (.int .i64 0))))⟩] [1,2,52,53,54])
(.block 1
(.loop
(.seq
(.reg 8 [⟨(some 55),none,(.q (.bin .lss (.t 54) (.t 53)))⟩] [1,2,52,53,54,55])
(.seq
(.cond (.t 55)
.skip
(.exit 1))
(.seq
(.block 2
(.seq
(.reg 9 [⟨(some 56),none,(.q (.mov (.t 54)))⟩,⟨(some 57),none,(.q (.iaddr 1 (.t 52) (.t 54)))⟩,⟨(some 58),none,(.q (.load none (.t 57)))⟩,⟨(some 3),none,(.q (.mov (.t 56)))⟩,⟨(some 4),none,(.q (.mov (.t 58)))⟩] [1,2,3,4,52,53,54])
(.seq
(.reg 10 [⟨(some 59),none,(.q (.mov (.t 3)))⟩,⟨(some 60),none,(.q (.bin .gtr (.t 59) (.c (.int .i64 0))))⟩,⟨(some 61),none,(.q (.mov (.t 60)))⟩,⟨(some 62),(some ⟨61,true⟩),(.q (.faddr 14 (.t 1)))⟩,⟨(some 63),(some ⟨61,true⟩),(.q (.load none (.t 62)))⟩,⟨(some 64),(some ⟨61,true⟩),(.q (.mov (.t 3)))⟩,⟨(some 65),(some ⟨61,true⟩),(.q (.bin .sub (.t 64) (.c (.int .i64 1))))⟩,⟨(some 66),(some ⟨61,true⟩),(.q (.iaddr 1 (.t 63) (.t 65)))⟩,⟨(some 67),(some ⟨61,true⟩),(.q (.load none (.t 66)))⟩,⟨(some 68),(some ⟨61,true⟩),(.q (.mov (.t 4)))⟩,⟨(some 69),(some ⟨61,true⟩),(.q (.bin .geq (.t 67) (.t 68)))⟩,⟨(some 70),none,(.q (.pick (.t 61) (.t 69) (.c (.bool false))))⟩] [1,2,52,53,54,70])
(.cond (.t 70)
(.seq
(.reg 11 [⟨none,none,(.store 1 (.t 2) (.c (.bool false)))⟩] [2])
.ret)
.skip))))
(.reg 12 [⟨(some 71),none,(.q (.bin .add (.t 54) (.c (.int .i64 1))))⟩,⟨(some 54),none,(.q (.mov (.t 71)))⟩] [1,2,52,53,54])))))))
(.seq
(.seq
(.reg 13 [⟨(some 72),none,(.q (.load (some 15) (.t 1)))⟩,⟨(some 73),none,(.call 127 [(.t 72)])⟩] [2,73])
(.block 3
(.rfunc (.t 73) [74,75]
(.seq
(.reg 14 [⟨(some 5),none,(.alloc [(.int .u8 0)])⟩,⟨none,none,(.store 1 (.t 5) (.t 74))⟩] [2,5,75])
(.reg 15 [⟨(some 6),none,(.q (.mov (.t 75)))⟩] [2,5,6]))
(.block 4
(.seq
(.reg 16 [⟨(some 76),none,(.q (.mov (.t 6)))⟩,⟨(some 77),none,(.q (.mkf 129 [] [(.t 5)]))⟩,⟨(some 78),none,(.call 128 [(.t 76),(.c (.int .i64 32)),(.t 77)])⟩,⟨(some 79),none,(.q (.not (.t 78)))⟩] [2,79])
(.cond (.t 79)
(.seq
(.reg 17 [⟨none,none,(.store 1 (.t 2) (.c (.bool false)))⟩] [])
.ret)
.skip))))))
(.seq
(.reg 18 [⟨none,none,(.store 1 (.t 2) (.c (.bool true)))⟩] [2])
.ret)))))
theorem fok65 : FOK Tryz.prog 65 (80,ic65,[(.cell none 2)]) := .mk (pf := [1000001]) (an := [(0,[1,2]),(1,[1,2,7]),(2,[2]),(3,[1,2,23]),(4,[2]),(5,[1,2,34]),(6,[2]),(7,[1,2,52,53,54]),(8,[1,2,52,53,54,55]),(9,[1,2,3,4,52,53,54]),(10,[1,2,52,53,54,70]),(11,[2]),(12,[1,2,52,53,54]),(13,[2,73]),(14,[2,5,75]),(15,[2,5,6]),(16,[2,79]),(18,[2])]) (by kernel_rfl) (fnOK_of Tryz.func65 (by kernel_rfl) (by kernel_rfl) (by kernel_rfl))
def ic66 : IC :=
(.seq
(.reg 0 [⟨(some 1),none,(.box (.t 0))⟩,⟨(some 2),none,(.alloc [(.str []),(.int .i64 0),(.str []),(.str []),(.int .u8 0),(.str []),.nilslice,.nilslice,.nilslice,.nilslice,.nilslice,.nilslice,.nilslice,.nilslice,.nilslice])⟩] [1,2])
(.seq
(.dreg 1 [⟨(some 7),none,(.q (.faddr 6 (.t 1)))⟩,⟨(some 8),none,(.q (.load none (.t 7)))⟩,⟨(some 9),none,(.pcall 131 [(.t 8)])⟩,⟨(some 10),none,(.q (.faddr 9 (.t 1)))⟩,⟨(some 11),none,(.q (.load none (.t 10)))⟩,⟨(some 12),none,(.pcall 131 [(.t 11)])⟩,⟨(some 13),none,(.q (.faddr 14 (.t 1)))⟩,⟨(some 14),none,(.q (.load none (.t 13)))⟩,⟨(some 15),none,(.pcall 132 [(.t 14)])⟩,⟨(some 16),none,(.q (.faddr 6 (.t 1)))⟩,⟨none,none,(.store 1 (.t 16) (.t 9))⟩,⟨(some 17),none,(.q (.faddr 9 (.t 1)))⟩,⟨none,none,(.store 1 (.t 17) (.t 12))⟩,⟨(some 18),none,(.q (.faddr 14 (.t 1)))⟩,⟨none,none,(.store 1 (.t 18) (.t 15))⟩] false [1,2])
(.seq
(.seq
(.reg 2 [⟨(some 19),none,(.q (.faddr 7 (.t 1)))⟩,⟨(some 20),none,(.q (.faddr 8 (.t 1)))⟩,⟨(some 21),none,(.q (.faddr 10 (.t 1)))⟩,⟨(some 22),none,(.q (.faddr 11 (.t 1)))⟩,⟨(some 23),none,(.q (.faddr 12 (.t 1)))⟩,⟨(some 24),none,(.q (.faddr 13 (.t 1)))⟩,⟨(some 25),none,(.bslt 1 6 [.nilptr] [⟨0,⟨1,(.t 19)⟩⟩,⟨1,⟨1,(.t 20)⟩⟩,⟨2,⟨1,(.t 21)⟩⟩,⟨3,⟨1,(.t 22)⟩⟩,⟨4,⟨1,(.t 23)⟩⟩,⟨5,⟨1,(.t 24)⟩⟩])⟩,⟨(some 26),none,(.q (.len 0 (.t 25)))⟩,⟨(some 27),none,(.q (.mov (.c (.int .i64 0))))⟩] [1,2,25,26,27])
(.block 0
(.loop
(.seq
(.reg 3 [⟨(some 28),none,(.q (.bin .lss (.t 27) (.t 26)))⟩] [1,2,25,26,27,28])
(.seq
(.cond (.t 28)
.skip
(.exit 0))
(.seq
(.block 1
(.seq
(.reg 4 [⟨(some 29),none,(.q (.iaddr 1 (.t 25) (.t 27)))⟩,⟨(some 30),none,(.q (.load none (.t 29)))⟩,⟨(some 4),none,(.q (.mov (.t 30)))⟩] [1,2,4,25,26,27])
(.seq
(.reg 5 [⟨(some 31),none,(.q (.mov (.t 4)))⟩,⟨(some 32),none,(.q (.mov (.t 4)))⟩,⟨(some 33),none,(.q (.nchk (.t 32)))⟩,⟨(some 34),none,(.q (.load none (.t 33)))⟩,⟨(some 35),none,(.call 133 [(.t 34)])⟩,⟨(some 36),none,(.q (.nchk (.t 31)))⟩,⟨none,none,(.store 1 (.t 36) (.t 35))⟩] [1,2,4,25,26,27])
(.seq
(.reg 6 [⟨(some 37),none,(.q (.mov (.t 4)))⟩,⟨(some 38),none,(.q (.nchk (.t 37)))⟩,⟨(some 39),none,(.q (.load none (.t 38)))⟩,⟨(some 40),none,(.q (.len 0 (.t 39)))⟩,⟨(some 41),none,(.q (.mov (.c (.int .i64 0))))⟩] [1,2,4,25,26,27,39,40,41])
(.block 2
(.loop
(.seq
(.reg 7 [⟨(some 42),none,(.q (.bin .lss (.t 41) (.t 40)))⟩] [1,2,4,25,26,27,39,40,41,42])
(.seq
(.cond (.t 42)
.skip
(.exit 2))
(.seq
(.block 3
(.seq
(.reg 8 [⟨(some 43),none,(.q (.mov (.t 41)))⟩,⟨(some 44),none,(.q (.iaddr 7 (.t 39) (.t 41)))⟩,⟨(some 45),none,(.q (.load (some 7) (.t 44)))⟩,⟨(some 6),none,(.alloc [(.int .u8 0),(.str []),(.int .u8 0),(.int .i64 0),(.str []),(.str []),.nilslice])⟩,⟨(some 5),none,(.q (.mov (.t 43)))⟩,⟨none,none,(.store 7 (.t 6) (.t 45))⟩] [1,2,4,5,6,25,26,27,39,40,41])
(.dreg 9 [⟨(some 46),none,(.q (.mov (.t 4)))⟩,⟨(some 47),none,(.q (.nchk (.t 46)))⟩,⟨(some 48),none,(.q (.load none (.t 47)))⟩,⟨(some 49),none,(.q (.mov (.t 5)))⟩,⟨(some 50),none,(.q (.load (some 7) (.t 6)))⟩,⟨(some 51),none,(.pcall 134 [(.t 50)])⟩,⟨(some 52),none,(.q (.iaddr 7 (.t 48) (.t 49)))⟩,⟨none,none,(.store 7 (.t 52) (.t 51))⟩] false [1,2,4,25,26,27,39,40,41])))
(.reg 10 [⟨(some 53),none,(.q (.bin .add (.t 41) (.c (.int .i64 1))))⟩,⟨(some 41),none,(.q (.mov (.t 53)))⟩] [1,2,4,25,26,27,39,40,41]))))))))))
(.reg 11 [⟨(some 54),none,(.q (.bin .add (.t 27) (.c (.int .i64 1))))⟩,⟨(some 27),none,(.q (.mov (.t 54)))⟩] [1,2,25,26,27])))))))
(.seq
(.reg 12 [⟨(some 55),none,(.q (.load (some 15) (.t 1)))⟩,⟨none,none,(.store 15 (.t 2) (.t 55))⟩] [2])
.ret))))
theorem fok66 : FOK Tryz.prog 66 (56,ic66,[(.cell (some 15) 2)]) := .mk (pf := ([1000025] ++ List.filter (fun k => k != 133) allF1)) (an := [(0,[1,2]),(1,[1,2]),(2,[1,2,25,26,27]),(3,[1,2,25,26,27,28]),(4,[1,2,4,25,26,27]),(5,[1,2,4,25,26,27]),(6,[1,2,4,25,26,27,39,40,41]),(7,[1,2,4,25,26,27,39,40,41,42]),(8,[1,2,4,5,6,25,26,27,39,40,41]),(9,[1,2,4,25,26,27,39,40,41]),(10,[1,2,4,25,26,27,39,40,41]),(11,[1,2,25,26,27]),(12,[2])]) (by kernel_rfl) (fnOK_of Tryz.func66 (by kernel_rfl) (by kernel_rfl) (by kernel_rfl))
def ic67 : IC :=
(.seq
(.reg 0 [⟨(some 2),none,(.q (.mov (.c (.bool false))))⟩] [0])
(.seq
(.reg 1 [⟨(some 3),none,(.q (.mov (.t 0)))⟩,⟨(some 4),none,(.q (.bin .geq (.t 3) (.c (.int .u8 1))))⟩,⟨(some 5),none,(.q (.mov (.t 4)))⟩,⟨(some 6),(some ⟨5,true⟩),(.q (.mov (.t 0)))⟩,⟨(some 7),(some ⟨5,true⟩),(.q (.bin .leq (.t 6) (.c (.int .u8 4))))⟩,⟨(some 8),none,(.q (.pick (.t 5) (.t 7) (.c (.bool false))))⟩,⟨(some 2),none,(.q (.mov (.t 8)))⟩] [2])
.ret))
theorem fok67 : FOK Tryz.prog 67 (9,ic67,[(.t 2)]) := .mk (pf := []) (an := [(0,[0]),(1,[2])]) (by kernel_rfl) (fnOK_of Tryz.func67 (by kernel_rfl) (by kernel_rfl) (by kernel_rfl))
def ic68 : IC :=
(.seq
(.reg 0 [oM 4 (cI 0)] [0,1])
(.seq
(.seq
(.reg 1 [oM 6 0,oQ 7 (.len 0 6),oM 8 (cI 0)] [0,1,7,8])
(.block 0
(.loop
(.seq
(.reg 2 [oQ 9 (.bin .lss 8 7)] [0,1,7,8,9])
(.seq
(.cond 9
.skip
(.exit 0))
(.seq
(.block 1
(.seq
(.reg 3 [oM 10 8,oM 5 10] [0,1,5,7,8])
(.seq
(.reg 4 [oM 11 1,oM 12 0,oM 13 5,oQ 14 (.iaddr 6 12 13),oQ 15 (.load (some 6) 14),oK 16 (.callv 11 [15])] [0,1,5,7,8,16])
(.cond 16
(.seq
(.reg 5 [oM 17 5,oM 4 17] [4])
.ret)
.skip))))
(.reg 6 [oQ 18 (.bin .add 8 (cI 1)),oM 8 18] [0,1,7,8])))))))
(.seq
(.reg 7 [oM 4 (cI (-1))] [4])
.ret)))
theorem fok68 : FOK Tryz.prog 68 (19,ic68,[(.t 4)]) := fokA [2000000] Tryz.func68
def ic69 : IC :=
(.seq
(.reg 0 [⟨(some 2),none,(.q (.mov (.c (.bool false))))⟩] [0])
(.seq
(.seq
(.reg 1 [⟨(some 7),none,(.q (.mov (.t 0)))⟩,⟨(some 8),none,(.q (.len 1 (.t 7)))⟩,⟨(some 9),none,(.q (.bin .lss (.t 8) (.c (.int .i64 1))))⟩,⟨(some 10),none,(.q (.mov (.t 9)))⟩,⟨(some 11),(some ⟨10,false⟩),(.q (.mov (.t 0)))⟩,⟨(some 12),(some ⟨10,false⟩),(.q (.len 1 (.t 11)))⟩,⟨(some 13),(some ⟨10,false⟩),(.q (.bin .gtr (.t 12) (.c (.int .i64 64))))⟩,⟨(some 14),none,(.q (.pick (.t 10) (.c (.bool true)) (.t 13)))⟩] [0,14])
(.cond (.t 14)
(.seq
(.reg 2 [⟨(some 2),none,(.q (.mov (.c (.bool false))))⟩] [2])
.ret)
.skip))
(.seq
(.seq
(.reg 3 [⟨(some 15),none,(.q (.mov (.t 0)))⟩,⟨(some 16),none,(.srange (.t 15))⟩] [0,16])
(.block 0
(.loop
(.seq
(.reg 4 [⟨(some 17),none,(.snext (.t 16))⟩,⟨(some 18),none,(.q (.ext 0 (.t 17)))⟩] [0,16,17,18])
(.seq
(.cond (.t 18)
.skip
(.exit 0))
(.block 1
(.seq
(.reg 5 [⟨(some 19),none,(.q (.ext 2 (.t 17)))⟩,⟨(some 4),none,(.q (.mov (.t 19)))⟩] [0,4,16])
(.seq
(.reg 6 [⟨(some 20),none,(.q (.mov (.t 4)))⟩,⟨(some 21),none,(.q (.bin .gtr (.t 20) (.c (.int .i32 126))))⟩,⟨(some 22),none,(.q (.mov (.t 21)))⟩,⟨(some 23),(some ⟨22,false⟩),(.q (.mov (.t 4)))⟩,⟨(some 24),(some ⟨22,false⟩),(.q (.conv .u8 (.t 23)))⟩,⟨(some 25),(some ⟨22,false⟩),(.call 135 [(.c (.str [97,98,99,100,101,102,103,104,105,106,107,108,109,110,111,112,113,114,115,116,117,118,119,120,121,122,65,66,67,68,69,70,71,72,73,74,75,76,77,78,79,80,81,82,83,84,85,86,87,88,89,90,48,49,50,51,52,53,54,55,56,57,46,95,43,45,47,58,64,126,94])),(.t 24)])⟩,⟨(some 26),(some ⟨22,false⟩),(.q (.bin .lss (.t 25) (.c (.int .i64 0))))⟩,⟨(some 27),none,(.q (.pick (.t 22) (.c (.bool true)) (.t 26)))⟩] [0,16,27])
(.cond (.t 27)
(.seq
(.reg 7 [⟨(some 2),none,(.q (.mov (.c (.bool false))))⟩] [2])
.ret)
.skip)))))))))
(.seq
(.seq
(.reg 8 [⟨(some 28),none,(.q (.load (some 7) (.g 0)))⟩,⟨(some 29),none,(.q (.mov (.c (.int .i64 0))))⟩] [0,28,29])
(.block 2
(.loop
(.seq
(.reg 9 [⟨(some 30),none,(.q (.bin .lss (.t 29) (.c (.int .i64 7))))⟩] [0,28,29,30])
(.seq
(.cond (.t 30)
.skip
(.exit 2))
(.seq
(.block 3
(.seq
(.reg 10 [⟨(some 31),none,(.q (.idx none 7 1 (.t 28) (.t 29)))⟩,⟨(some 6),none,(.q (.mov (.t 31)))⟩] [0,6,28,29])
(.seq
(.reg 11 [⟨(some 32),none,(.q (.mov (.t 0)))⟩,⟨(some 33),none,(.q (.mov (.t 6)))⟩,⟨(some 34),none,(.q (.bin .eql (.t 32) (.t 33)))⟩] [0,28,29,34])
(.cond (.t 34)
(.seq
(.reg 12 [⟨(some 2),none,(.q (.mov (.c (.bool false))))⟩] [2])
.ret)
.skip))))
(.reg 13 [⟨(some 35),none,(.q (.bin .add (.t 29) (.c (.int .i64 1))))⟩,⟨(some 29),none,(.q (.mov (.t 35)))⟩] [0,28,29])))))))
(.seq
(.reg 14 [⟨(some 2),none,(.q (.mov (.c (.bool true))))⟩] [2])
.ret)))))
theorem fok69 : FOK Tryz.prog 69 (36,ic69,[(.t 2)]) := .mk (pf := []) (an := [(0,[0]),(1,[0,14]),(2,[2]),(3,[0,16]),(4,[0,16,17,18]),(5,[0,4,16]),(6,[0,16,27]),(7,[2]),(8,[0,28,29]),(9,[0,28,29,30]),(10,[0,6,28,29]),(11,[0,28,29,34]),(12,[2]),(13,[0,28,29]),(14,[2])]) (by kernel_rfl) (fnOK_of Tryz.func69 (by kernel_rfl) (by kernel_rfl) (by kernel_rfl))
def ic70 : IC :=
(.seq
(.reg 0 [⟨(some 2),none,(.q (.mov (.c (.bool false))))⟩] [0])
(.seq
(.reg 1 [⟨(some 3),none,(.q (.mov (.t 0)))⟩,⟨(some 4),none,(.q (.bin .eql (.t 3) (.c (.int .u8 0))))⟩,⟨(some 5),none,(.q (.mov (.t 4)))⟩,⟨(some 6),(some ⟨5,false⟩),(.q (.mov (.t 0)))⟩,⟨(some 7),(some ⟨5,false⟩),(.call 136 [(.t 6)])⟩,⟨(some 8),(some ⟨5,false⟩),(.q (.bin .neq (.t 7) (.c (.str []))))⟩,⟨(some 9),none,(.q (.pick (.t 5) (.c (.bool true)) (.t 8)))⟩,⟨(some 2),none,(.q (.mov (.t 9)))⟩] [2])
.ret))
theorem fok70 : FOK Tryz.prog 70 (10,ic70,[(.t 2)]) := .mk (pf := []) (an := [(0,[0]),(1,[2])]) (by kernel_rfl) (fnOK_of Tryz.func70 (by kernel_rfl) (by kernel_rfl) (by kernel_rfl))
def ic71 : IC :=
(.seq
(.reg 0 [⟨(some 2),none,(.q (.mov (.c (.bool false))))⟩] [0])
(.seq
(.reg 1 [⟨(some 3),none,(.q (.mov (.t 0)))⟩,⟨(some 4),none,(.call 69 [(.t 3)])⟩,⟨(some 5),none,(.q (.mov (.t 4)))⟩,⟨(some 6),(some ⟨5,true⟩),(.q (.mov (.t 0)))⟩,⟨(some 7),(some ⟨5,true⟩),(.call 137 [(.t 6),(.c (.str [47]))])⟩,⟨(some 8),none,(.q (.pick (.t 5) (.t 7) (.c (.bool false))))⟩,⟨(some 2),none,(.q (.mov (.t 8)))⟩] [2])
.ret))
theorem fok71 : FOK Tryz.prog 71 (9,ic71,[(.t 2)]) := .mk (pf := []) (an := [(0,[0]),(1,[2])]) (by kernel_rfl) (fnOK_of Tryz.func71 (by kernel_rfl) (by kernel_rfl) (by kernel_rfl))
def ic72 : IC :=
(.seq
(.reg 0 [⟨(some 2),none,(.boxt (.t 0))⟩,⟨(some 4),none,(.q (.mov (.c (.bool false))))⟩] [1,2])
(.seq
(.reg 1 [⟨(some 5),none,(.q (.faddr 0 (.t 2)))⟩,⟨(some 6),none,(.q (.load none (.t 5)))⟩,⟨(some 7),none,(.q (.bin .geq (.t 6) (.c (.int .i64 0))))⟩,⟨(some 8),none,(.q (.mov (.t 7)))⟩,⟨(some 9),(some ⟨8,true⟩),(.q (.faddr 0 (.t 2)))⟩,⟨(some 10),(some ⟨8,true⟩),(.q (.load none (.t 9)))⟩,⟨(some 11),(some ⟨8,true⟩),(.q (.bin .leq (.t 10) (.c (.int .i64 2147483647))))⟩,⟨(some 12),none,(.q (.pick (.t 8) (.t 11) (.c (.bool false))))⟩,⟨(some 13),none,(.q (.mov (.t 12)))⟩,⟨(some 14),(some ⟨13,true⟩),(.q (.faddr 1 (.t 2)))⟩,⟨(some 15),(some ⟨13,true⟩),(.q (.load none (.t 14)))⟩,⟨(some 16),(some ⟨13,true⟩),(.call 138 [(.t 15)])⟩,⟨(some 17),none,(.q (.pick (.t 13) (.t 16) (.c (.bool false))))⟩,⟨(some 18),none,(.q (.mov (.t 17)))⟩,⟨(some 19),(some ⟨18,true⟩),(.q (.faddr 2 (.t 2)))⟩,⟨(some 20),(some ⟨18,true⟩),(.q (.load none (.t 19)))⟩,⟨(some 21),(some ⟨18,true⟩),(.call 138 [(.t 20)])⟩,⟨(some 22),(some ⟨18,true⟩),(.q (.mov (.t 21)))⟩,⟨(some 23),(some ⟨22,false⟩),(.q (.mov (.t 1)))⟩,⟨(some 24),(some ⟨22,false⟩),(.q (.mov (.t 23)))⟩,⟨(some 25),(some ⟨24,true⟩),(.q (.faddr 2 (.t 2)))⟩,⟨(some 26),(some ⟨24,true⟩),(.q (.load none (.t 25)))⟩,⟨(some 27),(some ⟨24,true⟩),(.q (.bin .eql (.t 26) (.c (.str []))))⟩,⟨(some 28),(some ⟨22,false⟩),(.q (.pick (.t 24) (.t 27) (.c (.bool false))))⟩,⟨(some 29),(some ⟨18,true⟩),(.q (.pick (.t 22) (.c (.bool true)) (.t 28)))⟩,⟨(some 30),none,(.q (.pick (.t 18) (.t 29) (.c (.bool false))))⟩,⟨(some 4),none,(.q (.mov (.t 30)))⟩] [4])
.ret))
theorem fok72 : FOK Tryz.prog 72 (31,ic72,[(.t 4)]) := .mk (pf := [1000002]) (an := [(0,[1,2]),(1,[4])]) (by kernel_rfl) (fnOK_of Tryz.func72 (by kernel_rfl) (by kernel_rfl) (by kernel_rfl))
def ic73 : IC :=
(.seq
(.reg 0 [oM 4 (cI 0)] [0,1])
(.seq
(.seq
(.reg 1 [oM 6 0,oQ 7 (.len 0 6),oM 8 (cI 0)] [0,1,7,8])
(.block 0
(.loop
(.seq
(.reg 2 [oQ 9 (.bin .lss 8 7)] [0,1,7,8,9])
(.seq
(.cond 9
.skip
(.exit 0))
(.seq
(.block 1
(.seq
(.reg 3 [oM 10 8,oM 5 10] [0,1,5,7,8])
(.seq
(.reg 4 [oM 11 1,oM 12 0,oM 13 5,oQ 14 (.iaddr 2 12 13),oQ 15 (.load (some 2) 14),oK 16 (.callv 11 [15])] [0,1,5,7,8,16])
(.cond 16
(.seq
(.reg 5 [oM 17 5,oM 4 17] [4])
.ret)
.skip))))
(.reg 6 [oQ 18 (.bin .add 8 (cI 1)),oM 8 18] [0,1,7,8])))))))
(.seq
(.reg 7 [oM 4 (cI (-1))] [4])
.ret)))
theorem fok73 : FOK Tryz.prog 73 (19,ic73,[(.t 4)]) := fokA [2000000] Tryz.func73
def ic74 : IC :=
(.seq
(.reg 0 [⟨(some 1),none,(.boxt (.t 0))⟩,⟨(some 2),none,(.q (.mov (.c .nilmap)))⟩] [1])
(.seq
(.reg 1 [⟨(some 8),none,.mkmap⟩,⟨(some 9),none,(.q (.faddr 0 (.t 1)))⟩,⟨(some 10),none,(.q (.load none (.t 9)))⟩,⟨(some 11),none,(.q (.bld [] []))⟩,⟨none,none,(.mupd 2 (.t 8) (.t 10) (.t 11))⟩,⟨(some 12),none,(.q (.mov (.t 8)))⟩,⟨(some 3),none,(.q (.mov (.t 12)))⟩] [1,3])
(.seq
(.seq
(.reg 2 [⟨(some 13),none,(.q (.faddr 6 (.t 1)))⟩,⟨(some 14),none,(.q (.load none (.t 13)))⟩,⟨(some 15),none,(.q (.len 0 (.t 14)))⟩,⟨(some 16),none,(.q (.mov (.c (.int .i64 0))))⟩] [1,3,14,15,16])
(.block 0
(.loop
(.seq
(.reg 3 [⟨(some 17),none,(.q (.bin .lss (.t 16) (.t 15)))⟩] [1,3,14,15,16,17])
(.seq
(.cond (.t 17)
.skip
(.exit 0))
(.seq
(.block 1
(.seq
(.reg 4 [⟨(some 18),none,(.q (.iaddr 5 (.t 14) (.t 16)))⟩,⟨(some 19),none,(.q (.load (some 5) (.t 18)))⟩,⟨(some 5),none,(.alloc [(.str []),(.int .u8 0),(.int .i64 0),(.str []),(.str [])])⟩,⟨none,none,(.store 5 (.t 5) (.t 19))⟩] [1,3,5,14,15,16])
(.reg 5 [⟨(some 20),none,(.q (.mov (.t 3)))⟩,⟨(some 21),none,(.q (.faddr 0 (.t 5)))⟩,⟨(some 22),none,(.q (.load none (.t 21)))⟩,⟨(some 23),none,(.q (.bld [] []))⟩,⟨none,none,(.mupd 2 (.t 20) (.t 22) (.t 23))⟩] [1,3,14,15,16])))
(.reg 6 [⟨(some 24),none,(.q (.bin .add (.t 16) (.c (.int .i64 1))))⟩,⟨(some 16),none,(.q (.mov (.t 24)))⟩] [1,3,14,15,16])))))))
(.seq
(.seq
(.reg 7 [⟨(some 25),none,(.q (.faddr 14 (.t 1)))⟩,⟨(some 26),none,(.q (.load none (.t 25)))⟩,⟨(some 27),none,(.q (.len 0 (.t 26)))⟩,⟨(some 28),none,(.q (.mov (.c (.int .i64 0))))⟩] [3,26,27,28])
(.block 2
(.loop
(.seq
(.reg 8 [⟨(some 29),none,(.q (.bin .lss (.t 28) (.t 27)))⟩] [3,26,27,28,29])
(.seq
(.cond (.t 29)
.skip
(.exit 2))
(.seq
(.block 3
(.seq
(.reg 9 [⟨(some 30),none,(.q (.iaddr 1 (.t 26) (.t 28)))⟩,⟨(some 31),none,(.q (.load none (.t 30)))⟩,⟨(some 7),none,(.q (.mov (.t 31)))⟩] [3,7,26,27,28])
(.reg 10 [⟨(some 32),none,(.q (.mov (.t 3)))⟩,⟨(some 33),none,(.q (.mov (.t 7)))⟩,⟨(some 34),none,(.q (.bld [] []))⟩,⟨none,none,(.mupd 2 (.t 32) (.t 33) (.t 34))⟩] [3,26,27,28])))
(.reg 11 [⟨(some 35),none,(.q (.bin .add (.t 28) (.c (.int .i64 1))))⟩,⟨(some 28),none,(.q (.mov (.t 35)))⟩] [3,26,27,28])))))))
(.seq
(.reg 12 [⟨(some 36),none,(.q (.mov (.t 3)))⟩,⟨(some 2),none,(.q (.mov (.t 36)))⟩] [2])
.ret)))))
theorem fok74 : FOK Tryz.prog 74 (37,ic74,[(.t 2)]) := .mk (pf := [1000001]) (an := [(0,[1]),(1,[1,3]),(2,[1,3,14,15,16]),(3,[1,3,14,15,16,17]),(4,[1,3,5,14,15,16]),(5,[1,3,14,15,16]),(6,[1,3,14,15,16]),(7,[3,26,27,28]),(8,[3,26,27,28,29]),(9,[3,7,26,27,28]),(10,[3,26,27,28]),(11,[3,26,27,28]),(12,[2])]) (by kernel_rfl) (fnOK_of Tryz.func74 (by kernel_rfl) (by kernel_rfl) (by kernel_rfl))
def ic75 : IC :=
(.seq
(.reg 0 [⟨(some 4),none,(.q (.mov (.c (.bool false))))⟩] [0,1])
(.seq
(.reg 1 [⟨(some 5),none,(.q (.mov (.t 0)))⟩,⟨(some 6),none,(.q (.mov (.t 1)))⟩,⟨(some 7),none,(.call 139 [(.t 5),(.t 6)])⟩,⟨(some 8),none,(.q (.bin .geq (.t 7) (.c (.int .i64 0))))⟩,⟨(some 4),none,(.q (.mov (.t 8)))⟩] [4])
.ret))
theorem fok75 : FOK Tryz.prog 75 (9,ic75,[(.t 4)]) := .mk (pf := []) (an := [(0,[0,1]),(1,[4])]) (by kernel_rfl) (fnOK_of Tryz.func75 (by kernel_rfl) (by kernel_rfl) (by kernel_rfl))
def ic76 : IC :=
(.seq
(.reg 0 [oM 2 (.c .nilslice)] [0])
(.seq
(.seq
(.reg 1 [oM 3 0,oQ 4 (.isnil (.slice 58) false 3)] [0,4])
(.cond 4
(.seq
(.reg 2 [oM 2 (.c .nilslice)] [2])
.ret)
.skip))
(.seq
(.reg 3 [oK 5 (.bsl 6 0 [(zU 0),(.str []),(zU 0),(zI 0),(.str []),(.str [])] []),oM 6 0,oK 7 (.app 6 5 6),oM 2 7] [2])
.ret)))
theorem fok76 : FOK Tryz.prog 76 (8,ic76,[(.t 2)]) := fokA [2000000] Tryz.func76
def ic77 : IC :=
(.seq
(.reg 0 [oM 2 (.c .nilslice)] [0])
(.seq
(.seq
(.reg 1 [oM 3 0,oQ 4 (.isnil (.slice 66) false 3)] [0,4])
(.cond 4
(.seq
(.reg 2 [oM 2 (.c .nilslice)] [2])
.ret)
.skip))
(.seq
(.reg 3 [oK 5 (.bsl 2 0 [(zU 0),(zI 0)] []),oM 6 0,oK 7 (.app 2 5 6),oM 2 7] [2])
.ret)))
theorem fok77 : FOK Tryz.prog 77 (8,ic77,[(.t 2)]) := fokA [2000000] Tryz.func77
def ic78 : IC :=
(.seq
(.reg 0 [⟨(some 4),none,(.q (.mov (.c (.bool false))))⟩] [0,1])
(.seq
(.reg 1 [⟨(some 5),none,(.q (.mov (.t 1)))⟩,⟨(some 6),none,(.q (.bin .geq (.t 5) (.c (.int .i64 0))))⟩,⟨(some 7),none,(.q (.mov (.t 6)))⟩,⟨(some 8),(some ⟨7,true⟩),(.q (.mov (.t 1)))⟩,⟨(some 9),(some ⟨7,true⟩),(.q (.mov (.t 0)))⟩,⟨(some 10),(some ⟨7,true⟩),(.q (.len 0 (.t 9)))⟩,⟨(some 11),(some ⟨7,true⟩),(.q (.bin .lss (.t 8) (.t 10)))⟩,⟨(some 12),none,(.q (.pick (.t 7) (.t 11) (.c (.bool false))))⟩,⟨(some 4),none,(.q (.mov (.t 12)))⟩] [4])
.ret))
theorem fok78 : FOK Tryz.prog 78 (13,ic78,[(.t 4)]) := .mk (pf := []) (an := [(0,[0,1]),(1,[4])]) (by kernel_rfl) (fnOK_of Tryz.func78 (by kernel_rfl) (by kernel_rfl) (by kernel_rfl))
def ic79 : IC :=
(.seq
(.seq
(.reg 0 [oM 11 0,oQ 12 (.nchk 11),oQ 13 (.faddr 2 12),oQ 14 (.load none 13),oQ 15 (.len 0 14),oM 16 (cI 0)] [0,14,15,16])
(.block 0
(.loop
(.seq
(.reg 1 [oQ 17 (.bin .lss 16 15)] [0,14,15,16,17])
(.seq
(.cond 17
.skip
(.exit 0))
(.seq
(.block 1
(.seq
(.reg 2 [oM 18 16,oQ 19 (.iaddr 15 14 16),oQ 20 (.load (some 15) 19),oK 3 (.alloc [(.str []),(zI 0),(.str []),(.str []),(zU 0),(.str []),.nilslice,.nilslice,.nilslice,.nilslice,.nilslice,.nilslice,.nilslice,.nilslice,.nilslice]),oM 2 18,oN (.store 15 3 20)] [0,2,3,14,15,16])
(.seq
(.seq
(.reg 3 [oM 21 0,oQ 22 (.nchk 21),oQ 23 (.faddr 0 22),oQ 24 (.load none 23),oM 25 2,oK 26 (.call 140 [24,25]),oQ 27 (.not 26)] [0,2,3,14,15,16,27])
(.cond 27
(.reg 4 [oM 28 0,oM 29 2,oK 30 (.call 141 [28,(.c (zU 1)),29,(cI 0)])] [0,2,3,14,15,16])
.skip))
(.seq
(.reg 5 [oQ 31 (.faddr 7 3),oQ 32 (.load none 31),oQ 33 (.len 0 32),oQ 34 (.bld [(zU 0),(zI 0)] [⟨0,⟨1,(.c (zU 2))⟩⟩,⟨1,⟨1,33⟩⟩]),oQ 35 (.faddr 8 3),oQ 36 (.load none 35),oQ 37 (.len 0 36),oQ 38 (.bld [(zU 0),(zI 0)] [⟨0,⟨1,(.c (zU 3))⟩⟩,⟨1,⟨1,37⟩⟩]),oQ 39 (.faddr 9 3),oQ 40 (.load none 39),oQ 41 (.len 0 40),oQ 42 (.bld [(zU 0),(zI 0)] [⟨0,⟨1,(.c (zU 4))⟩⟩,⟨1,⟨1,41⟩⟩]),oQ 43 (.bld [(zU 0),(zI 0),(zU 0),(zI 0),(zU 0),(zI 0)] [⟨0,⟨2,34⟩⟩,⟨2,⟨2,38⟩⟩,⟨4,⟨2,42⟩⟩]),oM 44 (cI 0)] [0,2,14,15,16,43,44])
(.block 2
(.loop
(.seq
(.reg 6 [oQ 45 (.bin .lss 44 (cI 3))] [0,2,14,15,16,43,44,45])
(.seq
(.cond 45
.skip
(.exit 2))
(.seq
(.block 3
(.seq
(.reg 7 [oQ 46 (.idx (some 2) 3 2 43 44),oK 5 (.alloc [(zU 0),(zI 0)]),oN (.store 2 5 46)] [0,2,5,14,15,16,43,44])
(.seq
(.reg 8 [oQ 47 (.faddr 1 5),oQ 48 (.load none 47),oM 49 (cI 0)] [0,2,5,14,15,16,43,44,48,49])
(.block 4
(.loop
(.seq
(.reg 9 [oQ 50 (.bin .lss 49 48)] [0,2,5,14,15,16,43,44,48,49,50])
(.seq
(.cond 50
.skip
(.exit 4))
(.seq
(.block 5
(.seq
(.reg 10 [oM 51 49,oM 6 51] [0,2,5,6,14,15,16,43,44,48,49])
(.reg 11 [oM 52 0,oQ 53 (.faddr 0 5),oQ 54 (.load none 53),oM 55 2,oM 56 6,oK 57 (.call 141 [52,54,55,56])] [0,2,5,14,15,16,43,44,48,49])))
(.reg 12 [oQ 58 (.bin .add 49 (cI 1)),oM 49 58] [0,2,5,14,15,16,43,44,48,49])))))))))
(.reg 13 [oQ 59 (.bin .add 44 (cI 1)),oM 44 59] [0,2,14,15,16,43,44]))))))))))
(.reg 14 [oQ 60 (.bin .add 16 (cI 1)),oM 16 60] [0,14,15,16])))))))
(.seq
(.seq
(.reg 15 [oM 61 0,oQ 62 (.nchk 61),oQ 63 (.faddr 2 62),oQ 64 (.load none 63),oQ 65 (.len 0 64),oM 66 (cI 0)] [0,65,66])
(.block 6
(.loop
(.seq
(.reg 16 [oQ 67 (.bin .lss 66 65)] [0,65,66,67])
(.seq
(.cond 67
.skip
(.exit 6))
(.seq
(.block 7
(.seq
(.reg 17 [oM 68 66,oM 7 68] [0,7,65,66])
(.seq
(.reg 18 [oM 69 7,oQ 70 (.bin .add 69 (cI 1)),oM 8 70] [0,7,8,65,66])
(.block 8
(.loop
(.seq
(.seq
(.reg 19 [oM 71 8,oM 72 0,oQ 73 (.nchk 72),oQ 74 (.faddr 2 73),oQ 75 (.load none 74),oQ 76 (.len 0 75),oQ 77 (.bin .lss 71 76)] [0,7,8,65,66,77])
(.cond 77
.skip
(.exit 8)))
(.seq
(.block 9
(.seq
(.reg 21 [oM 80 0,oQ 81 (.nchk 80),oQ 82 (.faddr 0 81),oQ 83 (.load none 82),oM 84 7,oM 85 8,oK 86 (.call 142 [83,84,85])] [0,7,8,65,66,86])
(.cond 86
(.reg 22 [oM 87 0,oM 88 7,oM 89 8,oK 90 (.call 141 [87,(.c (zU 5)),88,89])] [0,7,8,65,66])
.skip)))
(.reg 20 [oM 78 8,oQ 79 (.bin .add 78 (cI 1)),oM 8 79] [0,7,8,65,66]))))))))
(.reg 23 [oQ 91 (.bin .add 66 (cI 1)),oM 66 91] [0,65,66])))))))
(.seq
(.seq
(.reg 24 [oM 92 0,oQ 93 (.nchk 92),oQ 94 (.faddr 0 93),oQ 95 (.load none 94),oK 96 (.call 39 [95]),oK 97 (.call 32 [96]),oM 98 (cI 0)] [0,97,98])
(.block 10
(.loop
(.seq
(.reg 25 [oQ 99 (.bin .lss 98 97)] [0,97,98,99])
(.seq
(.cond 99
.skip
(.exit 10))
(.seq
(.block 11
(.seq
(.reg 26 [oM 100 98,oM 9 100] [0,9,97,98])
(.seq
(.reg 27 [oM 101 0,oQ 102 (.nchk 101),oQ 103 (.faddr 0 102),oQ 104 (.load none 103),oM 105 9,oK 106 (.call 143 [104,105]),oQ 107 (.not 106)] [0,9,97,98,107])
(.cond 107
(.reg 28 [oM 108 0,oM 109 9,oK 110 (.call 141 [108,(.c (zU 6)),109,(cI 0)])] [0,97,98])
.skip))))
(.reg 29 [oQ 111 (.bin .add 98 (cI 1)),oM 98 111] [0,97,98])))))))
(.seq
(.reg 30 [oM 112 0,oQ 113 (.nchk 112),oQ 114 (.faddr 0 113),oQ 115 (.load none 114),oK 116 (.call 87 [115]),oQ 117 (.fld none 2 116),oQ 118 (.len 0 117),oM 119 (cI 0)] [0,118,119])
(.block 12
(.loop
(.seq
(.reg 31 [oQ 120 (.bin .lss 119 118)] [0,118,119,120])
(.seq
(.cond 120
.skip
(.exit 12))
(.seq
(.block 13
(.seq
(.reg 32 [oM 121 119,oM 10 121] [0,10,118,119])
(.seq
(.reg 33 [oM 122 0,oQ 123 (.nchk 122),oQ 124 (.faddr 0 123),oQ 125 (.load none 124),oM 126 10,oK 127 (.call 144 [125,126]),oQ 128 (.not 127)] [0,10,118,119,128])
(.cond 128
(.reg 34 [oM 129 0,oM 130 10,oK 131 (.call 141 [129,(.c (zU 7)),130,(cI 0)])] [0,118,119])
.skip))))
(.reg 35 [oQ 132 (.bin .add 119 (cI 1)),oM 119 132] [0,118,119]))))))))))
theorem fok79 : FOK Tryz.prog 79 (133,ic79,[]) := fokA [2000000] Tryz.func79
def ic80 : IC :=
(.seq
(.reg 0 [oM 2 (.c .nilslice)] [0])
(.seq
(.seq
(.reg 1 [oM 3 0,oQ 4 (.isnil (.slice 118) false 3)] [0,4])
(.cond 4
(.seq
(.reg 2 [oM 2 (.c .nilslice)] [2])
.ret)
.skip))
(.seq
(.reg 3 [oK 5 (.bsl 3 0 [(zU 0),(zI 0),(zI 0)] []),oM 6 0,oK 7 (.app 3 5 6),oM 2 7] [2])
.ret)))
theorem fok80 : FOK Tryz.prog 80 (8,ic80,[(.t 2)]) := fokA [2000000] Tryz.func80
def ic81 : IC :=
(.seq
(.reg 0 [oM 2 (.c .nilslice)] [0])
(.seq
(.reg 1 [oM 3 (.c .nilslice)] [0,3])
(.seq
(.seq
(.reg 2 [oM 6 0,oQ 7 (.len 0 6),oM 8 (cI 0)] [3,6,7,8])
(.block 0
(.loop
(.seq
(.reg 3 [oQ 9 (.bin .lss 8 7)] [3,6,7,8,9])
(.seq
(.cond 9
.skip
(.exit 0))
(.seq
(.block 1
(.seq
(.reg 4 [oQ 10 (.iaddr 1 6 8),oQ 11 (.load none 10),oM 5 11] [3,5,6,7,8])
(.reg 5 [oM 12 3,oM 13 5,oQ 14 (.bin .add 13 (cI 1)),oQ 15 (.neg 14),oK 16 (.bslt 1 1 [(zI 0)] [⟨0,⟨1,15⟩⟩]),oK 17 (.app 1 12 16),oM 3 17] [3,6,7,8])))
(.reg 6 [oQ 18 (.bin .add 8 (cI 1)),oM 8 18] [3,6,7,8])))))))
(.seq
(.reg 7 [oM 19 3,oM 2 19] [2])
.ret))))
theorem fok81 : FOK Tryz.prog 81 (20,ic81,[(.t 2)]) := fokA [1000016,2000000] Tryz.func81
def ic82 : IC :=
(.seq
(.reg 0 [oK 4 (.boxt 1),oM 6 (cI 0),oM 7 (cI 0)] [0,2,4])
(.seq
(.block 0
(.seq
(.reg 1 [oM 9 0,oQ 10 (.isnil (.pointer 168) false 9),oM 8 10] [0,2,4,8])
(.cond 8
(.seq
(.reg 2 [oM 6 (cI 0),oM 7 (cI 2)] [6,7])
.ret)
(.seq
(.reg 3 [oQ 12 (.load (some 7) 4),oK 13 (.call 130 [12,(.c (zU 1))]),oQ 14 (.bin .neq 13 (cI 0)),oM 11 14] [0,2,4,11])
(.cond 11
(.seq
(.reg 4 [oM 6 (cI 0),oM 7 (cI 4)] [6,7])
.ret)
(.seq
(.oreg 5 [(0,oM 16 0,0),(1,oQ 17 (.nchk 16),0),(2,oQ 18 (.faddr 2 17),0),(3,oQ 19 (.load none 18),0),(4,oQ 20 (.load (some 7) 4),0),(5,oK 21 (.call 145 [20]),8),(6,oQ 22 (.bin .add 19 21),0),(7,oQ 23 (.bin .gtr 22 (cI 1048576)),0),(8,oM 15 23,0)] [0,2,4,15])
(.cond 15
(.seq
(.reg 6 [oM 6 (cI 0),oM 7 (cI 40)] [6,7])
.ret)
.skip)))))))
(.seq
(.reg 7 [oM 24 0,oQ 25 (.load (some 7) 4),oM 26 2,oK 27 (.call 146 [24,25,26]),oM 6 27,oM 7 (cI 0)] [6,7])
.ret)))
theorem fok82 : FOK Tryz.prog 82 (28,ic82,[(.t 6),(.t 7)]) := fokA [1000004,2000000] Tryz.func82
def ic84 : IC :=
(.seq
(.reg 0 [oK 3 (.boxt 1),oM 4 (.c .nilslice)] [0,3])
(.seq
(.seq
(.reg 1 [oM 5 0,oQ 6 (.isnil (.pointer 156) false 5)] [0,3,6])
(.cond 6
(.seq
(.reg 2 [oM 4 (.c .nilslice)] [4])
.ret)
.skip))
(.seq
(.dreg 3 [oM 7 0,oM 8 0,oQ 9 (.nchk 8),oQ 10 (.faddr 2 9),oQ 11 (.load none 10),oQ 12 (.faddr 0 3),oQ 13 (.load none 12),oQ 14 (.lkp 2 .nilslice false 11 13),oQ 15 (.mkf 148 [] [3]),oK 16 (.call 147 [7,14,15]),oM 4 16] false [4])
.ret)))
theorem fok84 : FOK Tryz.prog 84 (17,ic84,[(.t 4)]) := fokA [1000003,2000000] Tryz.func84
def ic85 : IC :=
(.seq
(.reg 0 [oM 2 (.c .nilslice)] [0])
(.seq
(.reg 1 [oK 6 (.bsl 1 0 [(zI 0)] []),oM 3 6] [0,3])
(.seq
(.seq
(.reg 2 [oM 7 0,oQ 8 (.len 0 7),oM 9 (cI 0)] [3,7,8,9])
(.block 0
(.loop
(.seq
(.reg 3 [oQ 10 (.bin .lss 9 8)] [3,7,8,9,10])
(.seq
(.cond 10
.skip
(.exit 0))
(.seq
(.block 1
(.seq
(.reg 4 [oQ 11 (.iaddr 1 7 9),oQ 12 (.load none 11),oM 5 12] [3,5,7,8,9])
(.reg 5 [oM 13 3,oM 14 5,oQ 15 (.bin .add 14 (cI 1)),oK 16 (.bslt 1 1 [(zI 0)] [⟨0,⟨1,15⟩⟩]),oK 17 (.app 1 13 16),oM 3 17] [3,7,8,9])))
(.reg 6 [oQ 18 (.bin .add 9 (cI 1)),oM 9 18] [3,7,8,9])))))))
(.seq
(.reg 7 [oM 19 3,oM 2 19] [2])
.ret))))
theorem fok85 : FOK Tryz.prog 85 (20,ic85,[(.t 2)]) := fokA [1000016,2000000] Tryz.func85
def ic86 : IC :=
(.seq
(.reg 0 [oK 2 (.boxt 0),oM 4 (.c .nilslice)] [1,2])
(.seq
(.seq
(.reg 1 [oQ 12 (.load none 2),oM 13 1,oK 14 (.call 150 [12,13]),oQ 15 (.not 14)] [1,2,15])
(.cond 15
(.seq
(.reg 2 [oM 4 (.c .nilslice)] [4])
.ret)
.skip))
(.seq
(.reg 3 [oQ 16 (.load none 2),oQ 17 (.nchk 16),oQ 18 (.faddr 7 17),oQ 19 (.load none 18),oM 20 1,oQ 21 (.iaddr 15 19 20),oQ 22 (.load (some 15) 21),oK 5 (.alloc [(.str []),(zI 0),(.str []),(.str []),(zU 0),(.str []),.nilslice,.nilslice,.nilslice,.nilslice,.nilslice,.nilslice,.nilslice,.nilslice,.nilslice]),oN (.store 15 5 22)] [1,2,5])
(.seq
(.reg 4 [oQ 23 (.load none 2),oM 24 1,oK 25 (.call 151 [23,(.c (zU 3)),24]),oM 26 25,gQ 27 26 false (.load none 2),gQ 28 26 false (.mov 1),gK 29 26 false (.call 152 [27,(.c (zU 4)),28]),oQ 30 (.pick 26 (cB true) 29),oK 6 (.alloc [(.bool false)]),oN (.store 1 6 30)] [1,2,5,6])
(.seq
(.reg 5 [oQ 31 (.load none 2),oM 32 1,oK 33 (.call 151 [31,(.c (zU 4)),32]),oK 7 (.alloc [(.bool false)]),oN (.store 1 7 33)] [1,2,5,6,7])
(.seq
(.reg 6 [oQ 34 (.mkf 153 [] [5,6,7,2]),oM 8 34] [1,2,8])
(.seq
(.reg 7 [oQ 35 (.load none 2),oQ 36 (.nchk 35),oQ 37 (.faddr 1 36),oQ 38 (.load none 37),oM 39 1,oK 40 (.call 156 [38,39]),oM 9 40] [1,2,8,9])
(.seq
(.seq
(.reg 8 [oQ 41 (.load none 2),oQ 42 (.nchk 41),oQ 43 (.faddr 7 42),oQ 44 (.load none 43),oQ 45 (.len 0 44),oM 46 (cI 0)] [1,8,9,44,45,46])
(.block 0
(.loop
(.seq
(.reg 9 [oQ 47 (.bin .lss 46 45)] [1,8,9,44,45,46,47])
(.seq
(.cond 47
.skip
(.exit 0))
(.seq
(.block 1
(.seq
(.reg 10 [oM 48 46,oQ 49 (.iaddr 15 44 46),oQ 50 (.load (some 15) 49),oK 11 (.alloc [(.str []),(zI 0),(.str []),(.str []),(zU 0),(.str []),.nilslice,.nilslice,.nilslice,.nilslice,.nilslice,.nilslice,.nilslice,.nilslice,.nilslice]),oM 10 48,oN (.store 15 11 50)] [1,8,9,10,11,44,45,46])
(.seq
(.reg 11 [oM 51 10,oM 52 1,oQ 53 (.bin .eql 51 52),oM 54 53,gQ 55 54 false (.mov 8),gQ 56 54 false (.load (some 15) 11),gK 57 54 false (.callv 55 [56]),oQ 58 (.pick 54 (cB true) 57)] [1,8,9,10,44,45,46,58])
(.cond 58
(.reg 12 [oM 59 9,oM 60 10,oK 61 (.bslt 1 1 [(zI 0)] [⟨0,⟨1,60⟩⟩]),oK 62 (.app 1 59 61),oM 9 62] [1,8,9,44,45,46])
.skip))))
(.reg 13 [oQ 63 (.bin .add 46 (cI 1)),oM 46 63] [1,8,9,44,45,46])))))))
(.seq
(.reg 14 [oM 64 9,oK 65 (.call 157 [64])] [9])
(.seq
(.reg 15 [oM 66 9,oK 67 (.call 158 [66]),oM 4 67] [4])
.ret))))))))))
theorem fok86 : FOK Tryz.prog 86 (68,ic86,[(.t 4)]) := fokA [1000002,1000061,2000000] Tryz.func86
def ic87 : IC :=
(.seq
(.reg 0 [oK 2 (.alloc [(zU 0),(.bool false),.nilslice,.nilslice,(zI 0)])] [0,2])
(.seq
(.seq
(.reg 1 [oM 3 0,oQ 4 (.isnil (.pointer 101) false 3)] [0,2,4])
(.cond 4
(.seq
(.reg 2 [oQ 5 (.bld [(zU 0),(.bool false),.nilslice,.nilslice,(zI 0)] []),oN (.store 5 2 5)] [2])
.ret)
.skip))
(.seq
(.reg 3 [oM 6 0,oQ 7 (.nchk 6),oQ 8 (.faddr 2 7),oQ 9 (.load (some 5) 8),oK 10 (.call 34 [9]),oN (.store 5 2 10)] [2])
.ret)))
theorem fok87 : FOK Tryz.prog 87 (11,ic87,[(.cell (some 5) 2)]) := fokA [2000000] Tryz.func87
def ic88 : IC :=
(.seq
(.reg 0 [oK 2 (.boxt 0),oM 4 (.c .nilslice)] [1,2])
(.seq
(.seq
(.reg 1 [oQ 7 (.load none 2),oM 8 1,oK 9 (.call 159 [7,8]),oQ 10 (.not 9)] [1,2,10])
(.cond 10
(.seq
(.reg 2 [oM 4 (.c .nilslice)] [4])
.ret)
.skip))
(.seq
(.reg 3 [oQ 11 (.load none 2),oQ 12 (.nchk 11),oQ 13 (.faddr 2 12),oQ 14 (.faddr 2 13),oQ 15 (.load none 14),oM 16 1,oQ 17 (.iaddr 6 15 16),oQ 18 (.load (some 6) 17),oK 5 (.alloc [(zU 0),(.str []),(zU 0),(zI 0),(.str []),(.str [])]),oN (.store 6 5 18)] [2,5])
(.seq
(.seq
(.reg 4 [oQ 19 (.faddr 0 5),oQ 20 (.load none 19),oQ 21 (.bin .eql 20 (.c (zU 1)))] [2,5,21])
(.cond 21
(.seq
(.dreg 5 [oQ 22 (.load none 2),oQ 23 (.nchk 22),oQ 24 (.faddr 1 23),oQ 25 (.load none 24),oQ 26 (.faddr 1 5),oQ 27 (.load (some 5) 26),oK 28 (.call 160 [25,27]),oM 4 28] false [4])
.ret)
.skip))
(.seq
(.dreg 6 [oQ 29 (.load none 2),oQ 30 (.nchk 29),oQ 31 (.faddr 1 30),oQ 32 (.load none 31),oQ 33 (.faddr 1 5),oQ 34 (.load (some 5) 33),oK 35 (.call 84 [32,34]),oM 6 35] false [2,5,6])
(.seq
(.seq
(.reg 7 [oQ 36 (.faddr 0 5),oQ 37 (.load none 36),oQ 38 (.bin .eql 37 (.c (zU 2)))] [2,6,38])
(.cond 38
(.seq
(.reg 8 [oM 39 6,oM 4 39] [4])
.ret)
.skip))
(.seq
(.reg 9 [oM 40 6,oQ 41 (.mkf 162 [] [2]),oK 42 (.call 161 [40,41]),oM 4 42] [4])
.ret)))))))
theorem fok88 : FOK Tryz.prog 88 (43,ic88,[(.t 4)]) := fokA [1000002,2000000] Tryz.func88
def ic91 : IC :=
(.seq
(.reg 0 [⟨(some 4),none,(.q (.mov (.c (.bool false))))⟩] [0,1])
(.seq
(.reg 1 [⟨(some 5),none,(.q (.mov (.t 0)))⟩,⟨(some 6),none,(.q (.mov (.t 1)))⟩,⟨(some 7),none,(.call 165 [(.t 5),(.t 6)])⟩,⟨(some 8),none,(.q (.bin .geq (.t 7) (.c (.int .i64 0))))⟩,⟨(some 4),none,(.q (.mov (.t 8)))⟩] [4])
.ret))
theorem fok91 : FOK Tryz.prog 91 (9,ic91,[(.t 4)]) := .mk (pf := []) (an := [(0,[0,1]),(1,[4])]) (by kernel_rfl) (fnOK_of Tryz.func91 (by kernel_rfl) (by kernel_rfl) (by kernel_rfl))
def ic93 : IC :=
(.seq
(.reg 0 [oK 2 (.boxt 0),oK 3 (.boxt 1),oM 4 (cB false)] [2,3])
(.seq
(.seq
(.reg 1 [oQ 5 (.load (some 15) 2),oQ 6 (.load (some 5) 3),oK 7 (.call 149 [5,6]),oM 8 7,gQ 9 8 false (.faddr 6 2),gQ 10 8 false (.load none 9),gQ 11 8 false (.mkf 166 [] [3]),gK 12 8 false (.call 91 [10,11]),oQ 13 (.pick 8 (cB true) 12)] [2,3,13])
(.cond 13
(.seq
(.reg 2 [oM 4 (cB true)] [4])
.ret)
.skip))
(.seq
(.reg 3 [oQ 14 (.faddr 1 3),oQ 15 (.load none 14),oQ 16 (.bin .eql 15 (.c (zU 0))),oM 17 16,gQ 18 17 true (.faddr 14 2),gQ 19 17 true (.load none 18),gQ 20 17 true (.faddr 0 3),gQ 21 17 true (.load none 20),gK 22 17 true (.call 168 [19,21]),oQ 23 (.pick 17 22 (cB false)),oM 4 23] [4])
.ret)))
theorem fok93 : FOK Tryz.prog 93 (24,ic93,[(.t 4)]) := fokA [1000002,1000003,2000000] Tryz.func93
def ic94 : IC :=
(.seq
(.reg 0 [⟨(some 4),none,(.q (.mov (.c (.bool false))))⟩] [0,1])
(.seq
(.reg 1 [⟨(some 5),none,(.q (.mov (.t 0)))⟩,⟨(some 6),none,(.q (.mov (.t 1)))⟩,⟨(some 7),none,(.call 169 [(.t 5),(.t 6)])⟩,⟨(some 8),none,(.q (.bin .geq (.t 7) (.c (.int .i64 0))))⟩,⟨(some 4),none,(.q (.mov (.t 8)))⟩] [4])
.ret))
theorem fok94 : FOK Tryz.prog 94 (9,ic94,[(.t 4)]) := .mk (pf := []) (an := [(0,[0,1]),(1,[4])]) (by kernel_rfl) (fnOK_of Tryz.func94 (by kernel_rfl) (by kernel_rfl) (by kernel_rfl))
def ic96 : IC :=
(.seq
(.reg 0 [oK 5 (.boxt 2),oM 6 (cB false)] [0,1,5])
(.seq
(.oreg 1 [(0,oM 7 0,0),(1,oQ 8 (.isnil (.pointer 187) true 7),0),(2,oM 9 8,0),(3,gQ 10 9 true (.load (some 7) 5),0),(4,gK 11 9 true (.call 170 [10]),0),(5,oQ 12 (.pick 9 11 (cB false)),0),(6,oM 13 12,0),(7,gQ 14 13 true (.mov 0),0),(8,gQ 15 13 true (.mov 1),0),(10,gQ 17 13 true (.load (some 7) 5),0),(9,gK 16 13 true (.call 171 [14,15]),1024),(11,gK 18 13 true (.call 172 [16,17]),0),(12,oQ 19 (.pick 13 18 (cB false)),0),(13,oM 6 19,0)] [6])
.ret))
theorem fok96 : FOK Tryz.prog 96 (20,ic96,[(.t 6)]) := fokA [1000005,2000000] Tryz.func96
def ic97 : IC :=
(.seq
(.reg 0 [oM 4 (.c .nilslice)] [0,1])
(.seq
(.reg 1 [oM 5 (.c .nilslice)] [0,1,5])
(.seq
(.seq
(.reg 2 [oM 8 0,oQ 9 (.nchk 8),oQ 10 (.faddr 0 9),oQ 11 (.load none 10),oK 12 (.call 87 [11]),oQ 13 (.fld none 2 12),oQ 14 (.len 0 13),oM 15 (cI 0)] [0,1,5,13,14,15])
(.block 0
(.loop
(.seq
(.reg 3 [oQ 16 (.bin .lss 15 14)] [0,1,5,13,14,15,16])
(.seq
(.cond 16
.skip
(.exit 0))
(.seq
(.block 1
(.seq
(.reg 4 [oM 17 15,oQ 18 (.iaddr 6 13 15),oQ 19 (.load (some 6) 18),oK 7 (.alloc [(zU 0),(.str []),(zU 0),(zI 0),(.str []),(.str [])]),oM 6 17,oN (.store 6 7 19)] [0,1,5,6,7,13,14,15])
(.seq
(.reg 5 [oM 20 1,oQ 21 (.faddr 0 7),oQ 22 (.load none 21),oK 23 (.call 173 [20,22]),oM 24 23,gQ 25 24 true (.mov 0),gQ 26 24 true (.nchk 25),gQ 27 24 true (.faddr 0 26),gQ 28 24 true (.load none 27),gQ 29 24 true (.mov 6),gK 30 24 true (.call 144 [28,29]),gQ 31 24 true (.not 30),oQ 32 (.pick 24 31 (cB false))] [0,1,5,6,13,14,15,32])
(.cond 32
(.reg 6 [oM 33 5,oM 34 6,oK 35 (.bslt 1 1 [(zI 0)] [⟨0,⟨1,34⟩⟩]),oK 36 (.app 1 33 35),oM 5 36] [0,1,5,13,14,15])
.skip))))
(.reg 7 [oQ 37 (.bin .add 15 (cI 1)),oM 15 37] [0,1,5,13,14,15])))))))
(.seq
(.reg 8 [oM 38 5,oM 4 38] [4])
.ret))))
theorem fok97 : FOK Tryz.prog 97 (39,ic97,[(.t 4)]) := fokA [1000035,2000000] Tryz.func97
def ic98 : IC :=
(.seq
(.reg 0 [oM 11 1,oM 12 2,oQ 13 (.bld [(zU 0),(zI 0),.nilslice] [⟨0,⟨1,11⟩⟩,⟨1,⟨1,12⟩⟩]),oK 8 (.alloc [(zU 0),(zI 0),.nilslice]),oN (.store 3 8 13)] [0,3,8])
(.seq
(.seq
(.reg 1 [oM 14 3,oQ 15 (.len 0 14),oM 16 (cI 0)] [0,8,14,15,16])
(.block 0
(.loop
(.seq
(.reg 2 [oQ 17 (.bin .lss 16 15)] [0,8,14,15,16,17])
(.seq
(.cond 17
.skip
(.exit 0))
(.seq
(.block 1
(.seq
(.reg 3 [oQ 18 (.iaddr 1 14 16),oQ 19 (.load none 18),oM 10 19] [0,8,10,14,15,16])
(.reg 4 [oQ 20 (.faddr 2 8),oQ 21 (.load none 20),oM 22 10,oQ 23 (.bin .add 22 (cI 1)),oK 24 (.bslt 1 1 [(zI 0)] [⟨0,⟨1,23⟩⟩]),oK 25 (.bslt 1 1 [.nilslice] [⟨0,⟨1,24⟩⟩]),oK 26 (.bslt 1 1 [.nilslice] [⟨0,⟨1,25⟩⟩]),oK 27 (.app 1 21 26),oQ 28 (.faddr 2 8),oN (.store 1 28 27)] [0,8,14,15,16])))
(.reg 5 [oQ 29 (.bin .add 16 (cI 1)),oM 16 29] [0,8,14,15,16])))))))
(.oreg 6 [(0,oM 30 0,0),(1,oM 31 0,0),(2,oQ 32 (.nchk 31),0),(3,oQ 33 (.faddr 6 32),0),(4,oQ 34 (.load none 33),0),(5,oQ 35 (.load (some 3) 8),0),(6,oK 36 (.bslt 3 1 [(zU 0),(zI 0),.nilslice] [⟨0,⟨3,35⟩⟩]),0),(7,oK 37 (.app 3 34 36),0),(8,oQ 38 (.nchk 30),0),(9,oQ 39 (.faddr 6 38),0),(10,oN (.store 1 39 37),0)] [])))
theorem fok98 : FOK Tryz.prog 98 (40,ic98,[]) := fokA [1000024,1000025,1000026,1000036,2000000] Tryz.func98
def ic99 : IC :=
(.seq
(.reg 0 [oK 2 (.boxt 0),oM 4 (.c .nilslice)] [1,2])
(.seq
(.reg 1 [oM 6 1,oK 7 (.call 174 [6]),oQ 8 (.mkf 175 [] [2]),oK 9 (.call 161 [7,8]),oM 5 9] [2,5])
(.seq
(.seq
(.reg 2 [oM 10 5,oQ 11 (.len 0 10),oQ 12 (.bin .eql 11 (cI 0))] [2,5,12])
(.cond 12
(.seq
(.reg 3 [oM 4 (.c .nilslice)] [4])
.ret)
.skip))
(.seq
(.reg 4 [oM 13 5,oQ 14 (.load none 2),oQ 15 (.mkf 178 [14] []),oK 16 (.call 177 [13,15])] [5])
(.seq
(.reg 5 [oM 17 5,oK 18 (.call 158 [17]),oM 4 18] [4])
.ret)))))
theorem fok99 : FOK Tryz.prog 99 (19,ic99,[(.t 4)]) := fokA [1000002,2000000] Tryz.func99
def ic100 : IC :=
(.seq
(.reg 0 [oM 4 (.c .nilslice)] [0,1])
(.seq
(.reg 1 [oM 5 0,oM 6 1,oM 7 0,oM 8 1,oK 9 (.call 180 [7,8]),oK 10 (.bslt 1 1 [.nilfunc] [⟨0,⟨1,9⟩⟩]),oK 11 (.call 179 [5,6,10]),oM 4 11] [4])
.ret))
theorem fok100 : FOK Tryz.prog 100 (12,ic100,[(.t 4)]) := fokA [1000010,2000000] Tryz.func100
def ic102 : IC :=
(.seq
(.reg 0 [oK 3 (.boxt 1),oM 4 (.c .nilslice)] [0,3])
(.seq
(.reg 1 [oM 5 0,oQ 6 (.load none 3),oQ 7 (.mkf 185 [] [3]),oK 8 (.bslt 1 1 [.nilfunc] [⟨0,⟨1,7⟩⟩]),oK 9 (.call 179 [5,6,8]),oM 4 9] [4])
.ret))
theorem fok102 : FOK Tryz.prog 102 (10,ic102,[(.t 4)]) := fokA [1000003,1000008,2000000] Tryz.func102
def ic103 : IC :=
(.seq
(.reg 0 [oK 6 (.boxt 2),oM 8 (cI 0)] [0,1,3,6])
(.seq
(.dreg 1 [oM 12 0,oQ 13 (.nchk 12),oQ 14 (.faddr 1 13),oQ 15 (.load none 14),oQ 16 (.load (some 7) 6),oK 17 (.call 186 [15,16]),oM 11 17,oQ 18 (.ext 0 11),oQ 19 (.ext 1 11),oM 9 18,oM 10 19] false [0,1,3,9,10])
(.seq
(.seq
(.reg 2 [oM 20 10,oQ 21 (.bin .eql 20 (cI 0))] [0,1,3,9,10,21])
(.cond 21
(.oreg 3 [(0,oM 22 0,0),(1,oM 23 0,0),(2,oQ 24 (.nchk 23),0),(3,oQ 25 (.faddr 6 24),0),(4,oQ 26 (.load none 25),0),(5,oM 27 1,0),(6,oM 28 3,0),(7,oM 29 9,0),(8,oK 30 (.callv 28 [29]),16),(9,oK 31 (.bslt 1 1 [.nilslice] [⟨0,⟨1,30⟩⟩]),0),(10,oK 32 (.bslt 1 1 [.nilslice] [⟨0,⟨1,31⟩⟩]),0),(11,oQ 33 (.bld [(zU 0),(zI 0),.nilslice] [⟨0,⟨1,(.c (zU 4))⟩⟩,⟨1,⟨1,27⟩⟩,⟨2,⟨1,32⟩⟩]),0),(12,oK 34 (.bslt 3 1 [(zU 0),(zI 0),.nilslice] [⟨0,⟨3,33⟩⟩]),0),(13,oK 35 (.app 3 26 34),0),(14,oQ 36 (.nchk 22),0),(15,oQ 37 (.faddr 6 36),0),(16,oN (.store 1 37 35),0)] [10])
.skip))
(.seq
(.reg 4 [oM 38 10,oM 8 38] [8])
.ret))))
theorem fok103 : FOK Tryz.prog 103 (39,ic103,[(.t 8)]) := fokA [1000006,1000031,1000032,1000034,2000000] Tryz.func103
def ic104 : IC :=
(.seq
(.reg 0 [oM 3 (.c .nilslice)] [0,1])
(.seq
(.reg 1 [oQ 4 (.load none 1),oQ 5 (.bin .add 4 (cI 1)),oQ 6 (.neg 5),oM 7 0,oK 8 (.bslt 1 2 [(zI 0)] [⟨0,⟨1,6⟩⟩,⟨1,⟨1,7⟩⟩]),oM 3 8] [3])
.ret))
theorem fok104 : FOK Tryz.prog 104 (9,ic104,[(.t 3)]) := fokA [1000008,2000000] Tryz.func104
def ic105 : IC :=
(.seq
(.reg 0 [oM 3 (.c .nilslice)] [0,1])
(.seq
(.reg 1 [oM 4 0,oQ 5 (.neg 4),oQ 6 (.load none 1),oQ 7 (.bin .add 6 (cI 1)),oK 8 (.bslt 1 2 [(zI 0)] [⟨0,⟨1,5⟩⟩,⟨1,⟨1,7⟩⟩]),oM 3 8] [3])
.ret))
theorem fok105 : FOK Tryz.prog 105 (9,ic105,[(.t 3)]) := fokA [1000008,2000000] Tryz.func105
def ic106 : IC :=
(.seq
(.reg 0 [oM 4 0,oQ 5 (.len 0 4),oQ 6 (.bin .sub 5 (cI 1)),oM 2 (cI 0),oM 3 6] [0,2,3])
(.block 0
(.loop
(.seq
(.seq
(.reg 1 [oM 7 2,oM 8 3,oQ 9 (.bin .lss 7 8)] [0,2,3,9])
(.cond 9
.skip
(.exit 0)))
(.seq
(.block 1
(.dreg 3 [oM 14 0,oM 15 2,oM 16 0,oM 17 3,oM 18 0,oM 19 3,oQ 20 (.iaddr 1 18 19),oQ 21 (.load none 20),oM 22 0,oM 23 2,oQ 24 (.iaddr 1 22 23),oQ 25 (.load none 24),oQ 26 (.iaddr 1 14 15),oN (.store 1 26 21),oQ 27 (.iaddr 1 16 17),oN (.store 1 27 25)] false [0,2,3]))
(.reg 2 [oM 10 2,oQ 11 (.bin .add 10 (cI 1)),oM 12 3,oQ 13 (.bin .sub 12 (cI 1)),oM 2 11,oM 3 13] [0,2,3]))))))
theorem fok106 : FOK Tryz.prog 106 (28,ic106,[]) := fokA [2000000] Tryz.func106
def ic109 : IC :=
(.seq
(.reg 0 [oM 2 (.c .nilslice)] [0])
(.seq
(.seq
(.reg 1 [oM 3 0,oQ 4 (.isnil (.pointer 114) false 3)] [0,4])
(.cond 4
(.seq
(.reg 2 [oM 2 (.c .nilslice)] [2])
.ret)
.skip))
(.seq
(.reg 3 [oM 5 0,oQ 6 (.nchk 5),oQ 7 (.faddr 2 6),oQ 8 (.load none 7),oK 9 (.call 191 [8]),oM 2 9] [2])
.ret)))
theorem fok109 : FOK Tryz.prog 109 (10,ic109,[(.t 2)]) := fokA [2000000] Tryz.func109
def ic110 : IC :=
(.seq
(.reg 0 [oM 2 (.c .nilslice)] [0])
(.seq
(.reg 1 [oM 3 (.c .nilslice)] [0,3])
(.seq
(.seq
(.reg 2 [oM 6 0,oQ 7 (.len 0 6),oM 8 (cI 0)] [3,6,7,8])
(.block 0
(.loop
(.seq
(.reg 3 [oQ 9 (.bin .lss 8 7)] [3,6,7,8,9])
(.seq
(.cond 9
.skip
(.exit 0))
(.seq
(.block 1
(.seq
(.reg 4 [oQ 10 (.iaddr 1 6 8),oQ 11 (.load none 10),oM 5 11] [3,5,6,7,8])
(.reg 5 [oM 12 3,oM 13 5,oK 14 (.call 174 [13]),oK 15 (.bslt 1 1 [.nilslice] [⟨0,⟨1,14⟩⟩]),oK 16 (.app 1 12 15),oM 3 16] [3,6,7,8])))
(.reg 6 [oQ 17 (.bin .add 8 (cI 1)),oM 8 17] [3,6,7,8])))))))
(.seq
(.reg 7 [oM 18 3,oM 2 18] [2])
.ret))))
theorem fok110 : FOK Tryz.prog 110 (19,ic110,[(.t 2)]) := fokA [1000015,2000000] Tryz.func110
def ic111 : IC :=
(.seq
(.reg 0 [oM 2 (.c .nilptr),oM 3 (cI 0)] [0])
(.seq
(.reg 1 [oM 7 0,oK 8 (.call 192 [7]),oM 6 8,oQ 9 (.ext 0 6),oQ 10 (.ext 1 6),oM 4 9,oM 5 10] [4,5])
(.seq
(.seq
(.reg 2 [oM 11 5,oQ 12 (.bin .neq 11 (cI 0))] [4,5,12])
(.cond 12
(.seq
(.reg 3 [oM 13 5,oM 2 (.c .nilptr),oM 3 13] [2,3])
.ret)
.skip))
(.seq
(.reg 4 [oM 14 4,oQ 15 (.bld [.nilptr] [⟨0,⟨1,14⟩⟩]),oK 16 .mkmap,oQ 17 (.bld [.nilptr,.nilslice,.nilslice,.nilmap,(zI 0),.nilslice] [⟨0,⟨1,15⟩⟩,⟨3,⟨1,16⟩⟩]),oK 18 (.box 17),oM 2 18,oM 3 (cI 0)] [2,3])
.ret))))
theorem fok111 : FOK Tryz.prog 111 (19,ic111,[(.t 2),(.t 3)]) := fokA [2000000] Tryz.func111
def ic112 : IC :=
(.seq
(.reg 0 [oM 4 (cI 0)] [0,1])
(.seq
(.reg 1 [oM 8 0,oQ 9 (.nchk 8),oQ 10 (.faddr 0 9),oQ 11 (.load none 10),oM 12 1,oK 13 (.call 193 [11,12]),oM 7 13,oQ 14 (.ext 0 7),oQ 15 (.ext 1 7),oM 5 14,oM 6 15] [0,1,6])
(.seq
(.reg 2 [oM 16 0,oM 17 0,oQ 18 (.nchk 17),oQ 19 (.faddr 2 18),oQ 20 (.load none 19),oM 21 1,oK 22 (.bslt 1 1 [.nilslice] [⟨0,⟨1,21⟩⟩]),oK 23 (.app 1 20 22),oQ 24 (.nchk 16),oQ 25 (.faddr 2 24),oN (.store 1 25 23)] [6])
(.seq
(.reg 3 [oM 26 6,oM 4 26] [4])
.ret))))
theorem fok112 : FOK Tryz.prog 112 (27,ic112,[(.t 4)]) := fokA [1000022,2000000] Tryz.func112
def ic113 : IC :=
(.seq
(.reg 0 [oM 2 (cI 0),oM 3 (cI 0)] [0])
(.seq
(.seq
(.reg 1 [oM 5 0,oQ 6 (.nchk 5),oQ 7 (.faddr 0 6),oQ 8 (.load none 7),oK 9 (.call 194 [8]),oM 4 9] [0,4])
(.seq
(.reg 2 [oM 10 4,oQ 11 (.bin .geq 10 (cI 0))] [0,4,11])
(.cond 11
(.seq
(.reg 3 [oM 12 4,oM 2 (cI 0),oM 3 12] [2,3])
.ret)
.skip)))
(.seq
(.block 0
(.loop
(.seq
(.seq
(.dreg 4 [oM 13 0,oQ 14 (.nchk 13),oQ 15 (.faddr 3 14),oQ 16 (.load none 15),oM 17 0,oQ 18 (.nchk 17),oQ 19 (.faddr 1 18),oQ 20 (.load none 19),oQ 21 (.bin .lss 16 20)] false [0,21])
(.cond 21
.skip
(.exit 0)))
(.seq
(.block 1
(.seq
(.dreg 6 [oM 29 0,oQ 30 (.nchk 29),oQ 31 (.faddr 0 30),oQ 32 (.load none 31),oM 33 0,oQ 34 (.nchk 33),oQ 35 (.faddr 3 34),oQ 36 (.load none 35),oQ 37 (.bin .add 36 (cI 1)),oK 38 (.call 118 [32,37]),oQ 39 (.bin .eql 38 (cI 0))] false [0,39])
(.cond 39
(.seq
(.dreg 7 [oM 40 0,oQ 41 (.nchk 40),oQ 42 (.faddr 3 41),oQ 43 (.load none 42),oM 2 (cI 1),oM 3 43] false [2,3])
.ret)
.skip)))
(.reg 5 [oM 22 0,oQ 23 (.nchk 22),oQ 24 (.faddr 3 23),oQ 25 (.load none 24),oQ 26 (.bin .add 25 (cI 1)),oQ 27 (.nchk 22),oQ 28 (.faddr 3 27),oN (.store 1 28 26)] [0])))))
(.seq
(.reg 8 [oM 2 (cI 2),oM 3 (cI 0)] [2,3])
.ret))))
theorem fok113 : FOK Tryz.prog 113 (44,ic113,[(.t 2),(.t 3)]) := fokA [2000000] Tryz.func113
def ic114 : IC :=
(.seq
(.reg 0 [oM 4 (cI 0)] [0,1])
(.seq
(.seq
(.reg 1 [oM 5 0,oQ 6 (.isnil (.pointer 266) false 5)] [0,1,6])
(.cond 6
(.seq
(.reg 2 [oM 4 (cI 2)] [4])
.ret)
.skip))
(.seq
(.reg 3 [oM 7 0,oQ 8 (.nchk 7),oQ 9 (.faddr 0 8),oQ 10 (.faddr 0 9),oQ 11 (.load none 10),oM 12 1,oK 13 (.call 195 [11,12]),oM 4 13] [4])
.ret)))
theorem fok114 : FOK Tryz.prog 114 (14,ic114,[(.t 4)]) := fokA [2000000] Tryz.func114
def ic115 : IC :=
(.seq
(.reg 0 [oM 6 (.c .nilslice),oM 7 (cI 0),oM 8 (.c .nilslice),oM 9 (cI 0)] [0,1,2,6,7])
(.seq
(.block 0
(.seq
(.reg 1 [oM 26 0,oQ 27 (.isnil (.pointer 310) false 26),oM 25 27] [0,1,2,6,7,25])
(.cond 25
(.seq
(.reg 2 [oM 6 (.c .nilslice),oM 7 (cI 0),oM 8 (.c .nilslice),oM 9 (cI 2)] [6,7,8,9])
.ret)
(.seq
(.reg 3 [oM 29 2,oQ 30 (.bin .lss 29 (cI 0)),oM 31 30,gQ 32 31 false (.mov 2),gQ 33 31 false (.mov 1),gQ 34 31 false (.len 0 33),gQ 35 31 false (.bin .geq 32 34),oQ 36 (.pick 31 (cB true) 35),oM 28 36] [0,1,2,6,7,28])
(.cond 28
(.seq
(.reg 4 [oM 6 (.c .nilslice),oM 7 (cI 0),oM 8 (.c .nilslice),oM 9 (cI 1)] [6,7,8,9])
.ret)
.skip)))))
(.seq
(.reg 5 [oM 37 0,oM 38 1,oM 39 0,oK 40 (.call 196 [39]),oK 41 (.mksl 1 [(zI 0)] 40),oK 42 .mkmap,oQ 43 (.bld [.nilptr,.nilslice,.nilslice,.nilmap] [⟨0,⟨1,37⟩⟩,⟨1,⟨1,38⟩⟩,⟨2,⟨1,41⟩⟩,⟨3,⟨1,42⟩⟩]),oK 44 (.box 43),oM 10 44] [0,1,2,6,7,10])
(.seq
(.seq
(.reg 6 [oM 45 0,oK 46 (.call 197 [45]),oM 47 (cI 0)] [0,1,2,6,7,10,46,47])
(.block 1
(.loop
(.seq
(.reg 7 [oQ 48 (.bin .lss 47 46)] [0,1,2,6,7,10,46,47,48])
(.seq
(.cond 48
.skip
(.exit 1))
(.seq
(.block 2
(.seq
(.reg 8 [oM 49 47,oM 11 49] [0,1,2,6,7,10,11,46,47])
(.oreg 9 [(0,oM 50 10,0),(1,oQ 51 (.nchk 50),0),(2,oQ 52 (.faddr 2 51),0),(3,oQ 53 (.load none 52),0),(4,oM 54 0,0),(5,oM 55 11,0),(8,oM 58 11,0),(6,oK 56 (.call 199 [54,55]),8),(7,oK 57 (.call 198 [56]),8),(9,oQ 59 (.iaddr 1 53 57),0),(10,oN (.store 1 59 58),0)] [0,1,2,6,7,10,46,47])))
(.reg 10 [oQ 60 (.bin .add 47 (cI 1)),oM 47 60] [0,1,2,6,7,10,46,47])))))))
(.seq
(.seq
(.oreg 11 [(0,oM 61 10,0),(1,oM 62 1,0),(2,oM 63 2,0),(3,oQ 64 (.iaddr 1 62 63),0),(4,oQ 65 (.load none 64),0),(5,oM 66 0,0),(6,oK 67 (.call 197 [66]),16),(7,oK 68 (.call 200 [61,65,(cI 0),67]),0),(8,oM 12 68,0)] [0,1,2,6,7,10,12])
(.seq
(.reg 12 [oM 69 12,oQ 70 (.bin .neq 69 (cI 0))] [0,1,2,6,7,10,12,70])
(.cond 70
(.seq
(.reg 13 [oM 71 12,oM 6 (.c .nilslice),oM 7 (cI 0),oM 8 (.c .nilslice),oM 9 71] [6,7,8,9])
.ret)
.skip)))
(.seq
(.seq
(.reg 14 [oM 73 10,oK 74 (.call 201 [73]),oM 72 74,oQ 75 (.ext 0 72),oQ 76 (.ext 1 72),oM 13 75,oM 14 76] [0,1,2,6,7,10,14])
(.seq
(.reg 15 [oM 77 14,oQ 78 (.bin .eql 77 (cI 0)),oM 79 78,gQ 80 79 true (.mov 0),gK 81 79 true (.call 202 [80]),gQ 82 79 true (.bin .gtr 81 (cI 0)),oQ 83 (.pick 79 82 (cB false))] [0,1,2,6,7,10,83])
(.cond 83
(.seq
(.reg 16 [oM 6 (.c .nilslice),oM 7 (cI 0),oM 8 (.c .nilslice),oM 9 (cI 7)] [6,7,8,9])
.ret)
.skip)))
(.seq
(.reg 17 [oM 84 2,oK 85 (.bsl 1 1 [(zI 0)] [⟨0,⟨1,84⟩⟩]),oM 8 85] [0,1,6,7,8,10])
(.seq
(.block 3
(.loop
(.block 4
(.seq
(.reg 18 [oM 87 10,oK 88 (.call 201 [87]),oM 86 88,oQ 89 (.ext 0 86),oQ 90 (.ext 1 86),oM 15 89,oM 16 90] [0,1,6,7,8,10,15,16])
(.seq
(.seq
(.reg 19 [oM 91 16,oQ 92 (.bin .eql 91 (cI 0)),oM 93 92,gQ 94 93 true (.mov 0),gK 95 93 true (.call 202 [94]),gQ 96 93 true (.bin .eql 95 (cI 0)),oQ 97 (.pick 93 96 (cB false))] [0,1,6,7,8,10,15,16,97])
(.cond 97
(.seq
(.reg 20 [oM 98 8,oM 6 (.c .nilslice),oM 7 (cI (-1)),oM 8 98,oM 9 (cI 0)] [6,7,8,9])
.ret)
.skip))
(.seq
(.seq
(.reg 21 [oM 99 16,oQ 100 (.bin .eql 99 (cI 1)),oM 101 100,gQ 102 101 true (.mov 0),gK 103 101 true (.call 202 [102]),gQ 104 101 true (.bin .gtr 103 (cI 0)),oQ 105 (.pick 101 104 (cB false))] [0,1,6,7,8,10,15,105])
(.cond 105
(.exit 3)
.skip))
(.seq
(.reg 22 [oM 106 0,oM 107 15,oK 108 (.call 199 [106,107]),oM 17 108] [0,1,6,7,8,10,15,17])
(.seq
(.reg 23 [oM 109 0,oM 110 17,oK 111 (.call 198 [110]),oK 112 (.call 203 [109,111]),oM 18 112] [0,1,6,7,8,10,15,17,18])
(.seq
(.seq
(.reg 24 [oM 113 18,oQ 114 (.bin .lss 113 (cI 0)),oM 115 114,gQ 116 115 false (.mov 18),gQ 117 115 false (.mov 1),gQ 118 115 false (.len 0 117),gQ 119 115 false (.bin .geq 116 118),oQ 120 (.pick 115 (cB true) 119)] [0,1,6,7,8,10,15,17,18,120])
(.cond 120
(.seq
(.reg 25 [oM 6 (.c .nilslice),oM 7 (cI 0),oM 8 (.c .nilslice),oM 9 (cI 7)] [6,7,8,9])
.ret)
.skip))
(.seq
(.reg 26 [oM 121 10,oQ 122 (.nchk 121),oQ 123 (.faddr 3 122),oQ 124 (.load none 123),oM 125 15,oN (.st (.mdel 1) [124,125])] [0,1,6,7,8,10,15,17,18])
(.seq
(.seq
(.reg 27 [oM 126 10,oM 127 1,oM 128 18,oQ 129 (.iaddr 1 127 128),oQ 130 (.load none 129),oM 131 17,oM 132 15,oK 133 (.call 200 [126,130,131,132]),oM 19 133] [0,1,6,7,8,10,18,19])
(.seq
(.reg 28 [oM 134 19,oQ 135 (.bin .neq 134 (cI 0))] [0,1,6,7,8,10,18,19,135])
(.cond 135
(.seq
(.reg 29 [oM 136 19,oM 6 (.c .nilslice),oM 7 (cI 0),oM 8 (.c .nilslice),oM 9 136] [6,7,8,9])
.ret)
.skip)))
(.reg 30 [oM 137 8,oM 138 18,oK 139 (.bslt 1 1 [(zI 0)] [⟨0,⟨1,138⟩⟩]),oK 140 (.app 1 137 139),oM 8 140] [0,1,6,7,8,10]))))))))))))
(.seq
(.seq
(.reg 31 [oM 141 0,oK 142 (.call 197 [141]),oM 143 (cI 0)] [0,6,7,8,10,142,143])
(.block 5
(.loop
(.seq
(.reg 32 [oQ 144 (.bin .lss 143 142)] [0,6,7,8,10,142,143,144])
(.seq
(.cond 144
.skip
(.exit 5))
(.seq
(.block 6
(.seq
(.reg 33 [oM 145 143,oM 20 145] [0,6,7,8,10,20,142,143])
(.seq
(.oreg 34 [(0,oM 147 10,0),(1,oQ 148 (.nchk 147),0),(2,oQ 149 (.faddr 3 148),0),(3,oQ 150 (.load none 149),0),(4,oM 151 0,0),(7,oM 154 20,0),(5,oK 152 (.call 197 [151]),8),(6,oQ 153 (.bin .sub 152 (cI 1)),0),(8,oQ 155 (.bin .sub 153 154),0),(9,oQ 156 (.lkp 1 (zI 0) true 150 155),0),(10,oM 146 156,0),(11,oQ 157 (.ext 0 146),0),(12,oQ 158 (.ext 1 146),0),(13,oM 21 157,0),(14,oM 22 158,0)] [0,6,7,8,10,21,22,142,143])
(.seq
(.reg 35 [oM 159 22] [0,6,7,8,10,21,142,143,159])
(.cond 159
(.reg 36 [oM 160 6,oM 161 21,oK 162 (.bslt 1 1 [(zI 0)] [⟨0,⟨1,161⟩⟩]),oK 163 (.app 1 160 162),oM 6 163] [0,6,7,8,10,142,143])
.skip)))))
(.reg 37 [oQ 164 (.bin .add 143 (cI 1)),oM 143 164] [0,6,7,8,10,142,143])))))))
(.seq
(.seq
(.reg 38 [oM 165 6,oQ 166 (.slc 1 165 (some (cI 1)) none),oQ 167 (.len 0 166),oM 168 (cI 0)] [0,6,7,8,166,167,168])
(.block 7
(.loop
(.seq
(.reg 39 [oQ 169 (.bin .lss 168 167)] [0,6,7,8,166,167,168,169])
(.seq
(.cond 169
.skip
(.exit 7))
(.seq
(.block 8
(.seq
(.reg 40 [oQ 170 (.iaddr 1 166 168),oQ 171 (.load none 170),oM 24 171] [0,6,7,8,24,166,167,168])
(.reg 41 [oM 172 7,oM 173 0,oM 174 24,oK 175 (.call 198 [174]),oK 176 (.call 204 [173,175]),oQ 177 (.mm true 172 176),oM 7 177] [0,6,7,8,166,167,168])))
(.reg 42 [oQ 178 (.bin .add 168 (cI 1)),oM 168 178] [0,6,7,8,166,167,168])))))))
(.seq
(.reg 43 [oM 179 6,oM 180 7,oM 181 8,oM 6 179,oM 7 180,oM 8 181,oM 9 (cI 0)] [6,7,8,9])
.ret)))))))))))
theorem fok115 : FOK Tryz.prog 115 (182,ic115,[(.t 6),(.t 7),(.t 8),(.t 9)]) := fokA [1000139,1000162,2000000] Tryz.func115
def ic116 : IC :=
(.seq
(.reg 0 [oM 2 (.c .nilptr)] [0])
(.seq
(.seq
(.reg 1 [oM 3 0,oQ 4 (.isnil (.pointer 266) false 3)] [0,4])
(.cond 4
(.seq
(.reg 2 [oM 2 (.c .nilptr)] [2])
.ret)
.skip))
(.seq
(.reg 3 [oM 5 0,oQ 6 (.nchk 5),oQ 7 (.faddr 0 6),oQ 8 (.faddr 0 7),oQ 9 (.load none 8),oK 10 (.call 205 [9]),oM 2 10] [2])
.ret)))
theorem fok116 : FOK Tryz.prog 116 (11,ic116,[(.t 2)]) := fokA [2000000] Tryz.func116
def ic118 : IC :=
(.seq
(.reg 0 [oM 4 (cI 0)] [0,1])
(.seq
(.seq
(.reg 1 [oM 5 0,oQ 6 (.isnil (.pointer 266) false 5)] [0,1,6])
(.cond 6
(.seq
(.reg 2 [oM 4 (cI 0)] [4])
.ret)
.skip))
(.seq
(.reg 3 [oM 7 0,oQ 8 (.nchk 7),oQ 9 (.faddr 0 8),oQ 10 (.faddr 0 9),oQ 11 (.load none 10),oM 12 1,oK 13 (.call 207 [11,12]),oM 4 13] [4])
.ret)))
theorem fok118 : FOK Tryz.prog 118 (14,ic118,[(.t 4)]) := fokA [2000000] Tryz.func118
def ic119 : IC :=
(.seq
(.reg 0 [oM 2 (cI 0)] [0])
(.seq
(.seq
(.reg 1 [oM 3 0,oQ 4 (.isnil (.pointer 168) false 3)] [0,4])
(.cond 4
(.seq
(.reg 2 [oM 2 (cI 0)] [2])
.ret)
.skip))
(.seq
(.dreg 3 [oM 5 0,oQ 6 (.nchk 5),oQ 7 (.faddr 1 6),oQ 8 (.load none 7),oQ 9 (.len 0 8),oM 10 0,oQ 11 (.nchk 10),oQ 12 (.faddr 2 11),oQ 13 (.load none 12),oQ 14 (.bin .add 9 13),oM 2 14] false [2])
.ret)))
theorem fok119 : FOK Tryz.prog 119 (15,ic119,[(.t 2)]) := fokA [2000000] Tryz.func119
def ic120 : IC :=
(.seq
(.reg 0 [oM 3 (cB false)] [0,1])
(.seq
(.reg 1 [oQ 5 (.load none 1),oQ 6 (.len 0 5),oM 4 6] [0,1,4])
(.seq
(.reg 2 [oM 7 0,oQ 8 (.bin .geq 7 (cI 1)),oM 9 8,gQ 10 9 true (.mov 0),gQ 11 9 true (.mov 4),gQ 12 9 true (.bin .leq 10 11),oQ 13 (.pick 9 12 (cB false)),oM 14 13,gQ 15 14 true (.load none 1),gQ 16 14 true (.mov 0),gQ 17 14 true (.bin .sub 16 (cI 1)),gQ 18 14 true (.iaddr 1 15 17),gQ 19 14 true (.load none 18),oQ 20 (.pick 14 19 (cB false)),oM 21 20,gQ 22 21 false (.mov 0),gQ 23 21 false (.bin .leq 22 (cI (-1))),gQ 24 21 false (.mov 23),gQ 25 24 true (.mov 0),gQ 26 24 true (.mov 4),gQ 27 24 true (.neg 26),gQ 28 24 true (.bin .geq 25 27),gQ 29 21 false (.pick 24 28 (cB false)),gQ 30 21 false (.mov 29),gQ 31 30 true (.load none 1),gQ 32 30 true (.mov 0),gQ 33 30 true (.neg 32),gQ 34 30 true (.bin .sub 33 (cI 1)),gQ 35 30 true (.iaddr 1 31 34),gQ 36 30 true (.load none 35),gQ 37 30 true (.not 36),gQ 38 21 false (.pick 30 37 (cB false)),oQ 39 (.pick 21 (cB true) 38),oM 3 39] [3])
.ret)))
theorem fok120 : FOK Tryz.prog 120 (40,ic120,[(.t 3)]) := fokA [2000000] Tryz.func120
def ic121 : IC :=
(.seq
(.reg 0 [oM 4 (cB false)] [0,1])
(.seq
(.reg 1 [oM 5 0,oM 6 1,oK 7 (.call 208 [5,6]),oQ 8 (.bin .geq 7 (cI 0)),oM 4 8] [4])
.ret))
theorem fok121 : FOK Tryz.prog 121 (9,ic121,[(.t 4)]) := fokA [2000000] Tryz.func121
def ic122 : IC :=
(.seq
(.reg 0 [oM 3 (cB false)] [0,1])
(.seq
(.reg 1 [oM 4 0,oQ 5 (.load none 1),oK 6 (.call 123 [4,5]),oQ 7 (.not 6),oM 3 7] [3])
.ret))
theorem fok122 : FOK Tryz.prog 122 (8,ic122,[(.t 3)]) := fokA [2000000] Tryz.func122
def ic123 : IC :=
(.seq
(.reg 0 [oM 4 (cB false)] [0,1])
(.seq
(.reg 1 [oM 5 0,oM 6 1,oK 7 (.call 209 [5,6]),oQ 8 (.bin .geq 7 (cI 0)),oM 4 8] [4])
.ret))
theorem fok123 : FOK Tryz.prog 123 (9,ic123,[(.t 4)]) := fokA [2000000] Tryz.func123
def ic124 : IC :=
(.seq
(.reg 0 [⟨(some 2),none,(.q (.mov (.c (.str []))))⟩] [0])
(.seq
(.seq
(.reg 1 [⟨(some 3),none,(.q (.mov (.t 0)))⟩,⟨(some 4),none,(.call 67 [(.t 3)])⟩,⟨(some 5),none,(.q (.not (.t 4)))⟩] [0,5])
(.cond (.t 5)
(.seq
(.reg 2 [⟨(some 2),none,(.q (.mov (.c (.str []))))⟩] [2])
.ret)
.skip))
(.seq
(.reg 3 [⟨(some 6),none,(.call 210 [])⟩,⟨(some 7),none,(.q (.mov (.t 0)))⟩,⟨(some 8),none,(.q (.idx none 5 1 (.t 6) (.t 7)))⟩,⟨(some 2),none,(.q (.mov (.t 8)))⟩] [2])
.ret)))
theorem fok124 : FOK Tryz.prog 124 (9,ic124,[(.t 2)]) := .mk (pf := []) (an := [(0,[0]),(1,[0,5]),(2,[2]),(3,[2])]) (by kernel_rfl) (fnOK_of Tryz.func124 (by kernel_rfl) (by kernel_rfl) (by kernel_rfl))
def ic125 : IC :=
(.seq
(.reg 0 [⟨(some 5),none,(.boxt (.t 2))⟩,⟨(some 6),none,(.q (.mov (.c (.bool false))))⟩] [0,1,5])
(.seq
(.reg 1 [⟨(some 7),none,(.q (.mov (.t 0)))⟩,⟨(some 8),none,(.q (.len 0 (.t 7)))⟩,⟨(some 9),none,(.q (.mov (.t 1)))⟩,⟨(some 10),none,(.q (.bin .leq (.t 8) (.t 9)))⟩,⟨(some 11),none,(.q (.mov (.t 10)))⟩,⟨(some 12),(some ⟨11,true⟩),(.q (.mov (.t 0)))⟩,⟨(some 13),(some ⟨11,true⟩),(.q (.mkf 211 [] [(.t 5)]))⟩,⟨(some 14),(some ⟨11,true⟩),(.call 91 [(.t 12),(.t 13)])⟩,⟨(some 15),(some ⟨11,true⟩),(.q (.not (.t 14)))⟩,⟨(some 16),none,(.q (.pick (.t 11) (.t 15) (.c (.bool false))))⟩,⟨(some 6),none,(.q (.mov (.t 16)))⟩] [6])
.ret))
theorem fok125 : FOK Tryz.prog 125 (17,ic125,[(.t 6)]) := .mk (pf := [1000005]) (an := [(0,[0,1,5]),(1,[6])]) (by kernel_rfl) (fnOK_of Tryz.func125 (by kernel_rfl) (by kernel_rfl) (by kernel_rfl))
def ic126 : IC :=
(.seq
(.reg 0 [⟨(some 5),none,(.boxt (.t 2))⟩,⟨(some 6),none,(.q (.mov (.c (.bool false))))⟩] [0,1,5])
(.seq
(.reg 1 [⟨(some 7),none,(.q (.mov (.t 0)))⟩,⟨(some 8),none,(.q (.len 0 (.t 7)))⟩,⟨(some 9),none,(.q (.mov (.t 1)))⟩,⟨(some 10),none,(.q (.bin .leq (.t 8) (.t 9)))⟩,⟨(some 11),none,(.q (.mov (.t 10)))⟩,⟨(some 12),(some ⟨11,true⟩),(.q (.mov (.t 0)))⟩,⟨(some 13),(some ⟨11,true⟩),(.q (.mkf 213 [] [(.t 5)]))⟩,⟨(some 14),(some ⟨11,true⟩),(.call 212 [(.t 12),(.t 13)])⟩,⟨(some 15),(some ⟨11,true⟩),(.q (.not (.t 14)))⟩,⟨(some 16),none,(.q (.pick (.t 11) (.t 15) (.c (.bool false))))⟩,⟨(some 6),none,(.q (.mov (.t 16)))⟩] [6])
.ret))
theorem fok126 : FOK Tryz.prog 126 (17,ic126,[(.t 6)]) := .mk (pf := [1000005]) (an := [(0,[0,1,5]),(1,[6])]) (by kernel_rfl) (fnOK_of Tryz.func126 (by kernel_rfl) (by kernel_rfl) (by kernel_rfl))
def ic127 : IC :=
(.seq
(.reg 0 [⟨(some 1),none,(.boxt (.t 0))⟩,⟨(some 2),none,(.q (.mov (.c .nilfunc)))⟩] [1])
(.seq
(.reg 1 [⟨(some 3),none,(.q (.mkf 214 [] [(.t 1)]))⟩,⟨(some 2),none,(.q (.mov (.t 3)))⟩] [2])
.ret))
theorem fok127 : FOK Tryz.prog 127 (4,ic127,[(.t 2)]) := .mk (pf := [1000001]) (an := [(0,[1]),(1,[2])]) (by kernel_rfl) (fnOK_of Tryz.func127 (by kernel_rfl) (by kernel_rfl) (by kernel_rfl))
def ic128 : IC :=
(.seq
(.reg 0 [⟨(some 5),none,(.boxt (.t 2))⟩,⟨(some 6),none,(.q (.mov (.c (.bool false))))⟩] [0,1,5])
(.seq
(.reg 1 [⟨(some 7),none,(.q (.mov (.t 0)))⟩,⟨(some 8),none,(.q (.len 0 (.t 7)))⟩,⟨(some 9),none,(.q (.mov (.t 1)))⟩,⟨(some 10),none,(.q (.bin .leq (.t 8) (.t 9)))⟩,⟨(some 11),none,(.q (.mov (.t 10)))⟩,⟨(some 12),(some ⟨11,true⟩),(.q (.mov (.t 0)))⟩,⟨(some 13),(some ⟨11,true⟩),(.q (.mkf 215 [] [(.t 5)]))⟩,⟨(some 14),(some ⟨11,true⟩),(.call 94 [(.t 12),(.t 13)])⟩,⟨(some 15),(some ⟨11,true⟩),(.q (.not (.t 14)))⟩,⟨(some 16),none,(.q (.pick (.t 11) (.t 15) (.c (.bool false))))⟩,⟨(some 6),none,(.q (.mov (.t 16)))⟩] [6])
.ret))
theorem fok128 : FOK Tryz.prog 128 (17,ic128,[(.t 6)]) := .mk (pf := [1000005]) (an := [(0,[0,1,5]),(1,[6])]) (by kernel_rfl) (fnOK_of Tryz.func128 (by kernel_rfl) (by kernel_rfl) (by kernel_rfl))
def ic129 : IC :=
(.seq
(.reg 0 [⟨(some 2),none,(.boxt (.t 0))⟩,⟨(some 3),none,(.q (.mov (.c (.bool false))))⟩] [1,2])
(.seq
(.reg 1 [⟨(some 4),none,(.q (.load (some 7) (.t 2)))⟩,⟨(some 5),none,(.q (.load none (.t 1)))⟩,⟨(some 6),none,(.call 130 [(.t 4),(.t 5)])⟩,⟨(some 7),none,(.q (.bin .eql (.t 6) (.c (.int .i64 0))))⟩,⟨(some 3),none,(.q (.mov (.t 7)))⟩] [3])
.ret))
theorem fok129 : FOK Tryz.prog 129 (8,ic129,[(.t 3)]) := .mk (pf := [1000002]) (an := [(0,[1,2]),(1,[3])]) (by kernel_rfl) (fnOK_of Tryz.func129 (by kernel_rfl) (by kernel_rfl) (by kernel_rfl))
def ic130 : IC :=
(.seq
(.reg 0 [⟨(some 2),none,(.boxt (.t 0))⟩,⟨(some 3),none,(.boxt (.t 1))⟩,⟨(some 4),none,(.alloc [(.int .i64 0)])⟩] [2,3,4])
(.seq
(.block 0
(.seq
(.reg 1 [⟨(some 9),none,(.q (.load none (.t 3)))⟩,⟨(some 10),none,(.q (.bin .lss (.t 9) (.c (.int .u8 1))))⟩,⟨(some 11),none,(.q (.mov (.t 10)))⟩,⟨(some 12),(some ⟨11,false⟩),(.q (.load none (.t 3)))⟩,⟨(some 13),(some ⟨11,false⟩),(.q (.bin .gtr (.t 12) (.c (.int .u8 3))))⟩,⟨(some 14),none,(.q (.pick (.t 11) (.c (.bool true)) (.t 13)))⟩,⟨(some 8),none,(.q (.mov (.t 14)))⟩] [2,3,4,8])
(.cond (.t 8)
(.seq
(.reg 2 [⟨none,none,(.store 1 (.t 4) (.c (.int .i64 1)))⟩] [4])
.ret)
(.seq
(.reg 3 [⟨(some 16),none,(.q (.load (some 7) (.t 2)))⟩,⟨(some 17),none,(.call 145 [(.t 16)])⟩,⟨(some 18),none,(.q (.bin .gtr (.t 17) (.c (.int .i64 24))))⟩,⟨(some 15),none,(.q (.mov (.t 18)))⟩] [2,3,4,15])
(.cond (.t 15)
(.seq
(.reg 4 [⟨none,none,(.store 1 (.t 4) (.c (.int .i64 40)))⟩] [4])
.ret)
(.seq
(.reg 5 [⟨(some 20),none,(.q (.load (some 7) (.t 2)))⟩,⟨(some 21),none,(.call 216 [(.t 20)])⟩,⟨(some 22),none,(.q (.bin .gtr (.t 21) (.c (.int .i64 8))))⟩,⟨(some 19),none,(.q (.mov (.t 22)))⟩] [2,3,4,19])
(.cond (.t 19)
(.seq
(.reg 6 [⟨none,none,(.store 1 (.t 4) (.c (.int .i64 21)))⟩] [4])
.ret)
.skip)))))))
(.seq
(.seq
(.reg 7 [⟨(some 23),none,(.q (.load (some 7) (.t 2)))⟩,⟨(some 24),none,(.call 164 [(.t 23)])⟩] [3,4,24])
(.block 1
(.rfunc (.t 24) [25,26]
(.seq
(.reg 8 [⟨(some 5),none,(.alloc [(.int .u8 0),(.str []),(.int .u8 0),(.int .i64 0),(.str []),(.str []),.nilslice])⟩,⟨none,none,(.store 7 (.t 5) (.t 25))⟩] [3,4,5,26])
(.reg 9 [⟨(some 6),none,(.q (.mov (.t 26)))⟩] [3,4,5,6]))
(.block 2
(.seq
(.reg 10 [⟨(some 27),none,(.q (.faddr 0 (.t 5)))⟩,⟨(some 28),none,(.q (.load none (.t 27)))⟩,⟨(some 29),none,(.call 217 [(.t 28)])⟩,⟨(some 7),none,(.alloc [(.int .i64 0),(.int .i64 0),(.bool false),(.int .u8 0)])⟩,⟨none,none,(.store 4 (.t 7) (.t 29))⟩] [3,4,5,6,7])
(.block 3
(.seq
(.seq
(.reg 11 [⟨(some 31),none,(.q (.faddr 3 (.t 7)))⟩,⟨(some 32),none,(.q (.load none (.t 31)))⟩,⟨(some 33),none,(.q (.load none (.t 3)))⟩,⟨(some 34),none,(.q (.bin .lss (.t 32) (.t 33)))⟩,⟨(some 30),none,(.q (.mov (.t 34)))⟩] [4,5,6,7,30])
(.cond (.t 30)
.skip
(.seq
(.reg 12 [⟨(some 35),none,(.q (.mov (.t 6)))⟩,⟨(some 36),none,(.q (.mov (.t 35)))⟩,⟨(some 37),(some ⟨36,true⟩),(.q (.faddr 2 (.t 7)))⟩,⟨(some 38),(some ⟨36,true⟩),(.q (.load none (.t 37)))⟩,⟨(some 39),(some ⟨36,true⟩),(.q (.not (.t 38)))⟩,⟨(some 40),none,(.q (.pick (.t 36) (.t 39) (.c (.bool false))))⟩,⟨(some 30),none,(.q (.mov (.t 40)))⟩] [4,5,7,30])
(.cond (.t 30)
.skip
(.seq
(.reg 13 [⟨(some 41),none,(.q (.faddr 6 (.t 5)))⟩,⟨(some 42),none,(.q (.load none (.t 41)))⟩,⟨(some 43),none,(.q (.len 0 (.t 42)))⟩,⟨(some 44),none,(.q (.faddr 0 (.t 7)))⟩,⟨(some 45),none,(.q (.load none (.t 44)))⟩,⟨(some 46),none,(.q (.bin .lss (.t 43) (.t 45)))⟩,⟨(some 30),none,(.q (.mov (.t 46)))⟩] [4,5,7,30])
(.cond (.t 30)
.skip
(.reg 14 [⟨(some 47),none,(.q (.faddr 6 (.t 5)))⟩,⟨(some 48),none,(.q (.load none (.t 47)))⟩,⟨(some 49),none,(.q (.len 0 (.t 48)))⟩,⟨(some 50),none,(.q (.faddr 1 (.t 7)))⟩,⟨(some 51),none,(.q (.load none (.t 50)))⟩,⟨(some 52),none,(.q (.bin .gtr (.t 49) (.t 51)))⟩,⟨(some 30),none,(.q (.mov (.t 52)))⟩] [4,5,30])))))))
(.cond (.t 30)
(.seq
(.reg 15 [⟨none,none,(.store 1 (.t 4) (.c (.int .i64 4)))⟩] [])
.ret)
(.seq
(.seq
(.reg 16 [⟨(some 54),none,(.q (.faddr 0 (.t 5)))⟩,⟨(some 55),none,(.q (.load none (.t 54)))⟩,⟨(some 56),none,(.q (.bin .eql (.t 55) (.c (.int .u8 1))))⟩,⟨(some 57),none,(.q (.mov (.t 56)))⟩,⟨(some 58),(some ⟨57,true⟩),(.q (.faddr 1 (.t 5)))⟩,⟨(some 59),(some ⟨57,true⟩),(.q (.load (some 5) (.t 58)))⟩,⟨(some 60),(some ⟨57,true⟩),(.call 28 [(.t 59)])⟩,⟨(some 61),(some ⟨57,true⟩),(.q (.not (.t 60)))⟩,⟨(some 62),none,(.q (.pick (.t 57) (.t 61) (.c (.bool false))))⟩,⟨(some 53),none,(.q (.mov (.t 62)))⟩] [4,5,53])
(.cond (.t 53)
.skip
(.reg 17 [⟨(some 63),none,(.q (.faddr 0 (.t 5)))⟩,⟨(some 64),none,(.q (.load none (.t 63)))⟩,⟨(some 65),none,(.q (.bin .neq (.t 64) (.c (.int .u8 1))))⟩,⟨(some 66),none,(.q (.mov (.t 65)))⟩,⟨(some 67),(some ⟨66,true⟩),(.q (.faddr 1 (.t 5)))⟩,⟨(some 68),(some ⟨66,true⟩),(.q (.load (some 5) (.t 67)))⟩,⟨(some 69),(some ⟨66,true⟩),(.q (.bld [(.str []),(.int .u8 0),(.int .i64 0),(.str []),(.str [])] []))⟩,⟨(some 70),(some ⟨66,true⟩),(.q (.eqs [2,1,1,2,2] true true (.t 68) (.t 69)))⟩,⟨(some 71),none,(.q (.pick (.t 66) (.t 70) (.c (.bool false))))⟩,⟨(some 53),none,(.q (.mov (.t 71)))⟩] [4,53])))
(.cond (.t 53)
(.seq
(.reg 18 [⟨none,none,(.store 1 (.t 4) (.c (.int .i64 4)))⟩] [])
.ret)
.skip))))))))))
(.seq
(.reg 19 [⟨none,none,(.store 1 (.t 4) (.c (.int .i64 0)))⟩] [4])
.ret))))
theorem fok130 : FOK Tryz.prog 130 (72,ic130,[(.cell none 4)]) := .mk (pf := [1000002,1000003]) (an := [(0,[2,3,4]),(1,[2,3,4,8]),(2,[4]),(3,[2,3,4,15]),(4,[4]),(5,[2,3,4,19]),(6,[4]),(7,[3,4,24]),(8,[3,4,5,26]),(9,[3,4,5,6]),(10,[3,4,5,6,7]),(11,[4,5,6,7,30]),(12,[4,5,7,30]),(13,[4,5,7,30]),(14,[4,5,30]),(16,[4,5,53]),(17,[4,53]),(19,[4])]) (by kernel_rfl) (fnOK_of Tryz.func130 (by kernel_rfl) (by kernel_rfl) (by kernel_rfl))
def ic131 : IC :=
(.seq
(.reg 0 [⟨(some 2),none,(.q (.mov (.c .nilslice)))⟩] [0])
(.seq
(.seq
(.reg 1 [⟨(some 3),none,(.q (.mov (.t 0)))⟩,⟨(some 4),none,(.q (.isnil (.slice 53) false (.t 3)))⟩] [0,4])
(.cond (.t 4)
(.seq
(.reg 2 [⟨(some 2),none,(.q (.mov (.c .nilslice)))⟩] [2])
.ret)
.skip))
(.seq
(.reg 3 [⟨(some 5),none,(.bsl 5 0 [(.str []),(.int .u8 0),(.int .i64 0),(.str []),(.str [])] [])⟩,⟨(some 6),none,(.q (.mov (.t 0)))⟩,⟨(some 7),none,(.app 5 (.t 5) (.t 6))⟩,⟨(some 2),none,(.q (.mov (.t 7)))⟩] [2])
.ret)))
theorem fok131 : FOK Tryz.prog 131 (8,ic131,[(.t 2)]) := .mk (pf := []) (an := [(0,[0]),(1,[0,4]),(2,[2]),(3,[2])]) (by kernel_rfl) (fnOK_of Tryz.func131 (by kernel_rfl) (by kernel_rfl) (by kernel_rfl))
def ic132 : IC :=
(.seq
(.reg 0 [⟨(some 2),none,(.q (.mov (.c .nilslice)))⟩] [0])
(.seq
(.seq
(.reg 1 [⟨(some 3),none,(.q (.mov (.t 0)))⟩,⟨(some 4),none,(.q (.isnil (.slice 9) false (.t 3)))⟩] [0,4])
(.cond (.t 4)
(.seq
(.reg 2 [⟨(some 2),none,(.q (.mov (.c .nilslice)))⟩] [2])
.ret)
.skip))
(.seq
(.reg 3 [⟨(some 5),none,(.bsl 1 0 [(.str [])] [])⟩,⟨(some 6),none,(.q (.mov (.t 0)))⟩,⟨(some 7),none,(.app 1 (.t 5) (.t 6))⟩,⟨(some 2),none,(.q (.mov (.t 7)))⟩] [2])
.ret)))
theorem fok132 : FOK Tryz.prog 132 (8,ic132,[(.t 2)]) := .mk (pf := []) (an := [(0,[0]),(1,[0,4]),(2,[2]),(3,[2])]) (by kernel_rfl) (fnOK_of Tryz.func132 (by kernel_rfl) (by kernel_rfl) (by kernel_rfl))
def ic133 : IC :=
(.seq
(.reg 0 [⟨(some 2),none,(.q (.mov (.c .nilslice)))⟩] [0])
(.seq
(.seq
(.reg 1 [⟨(some 3),none,(.q (.mov (.t 0)))⟩,⟨(some 4),none,(.q (.isnil (.slice 55) false (.t 3)))⟩] [0,4])
(.cond (.t 4)
(.seq
(.reg 2 [⟨(some 2),none,(.q (.mov (.c .nilslice)))⟩] [2])
.ret)
.skip))
(.seq
(.reg 3 [⟨(some 5),none,(.bsl 7 0 [(.int .u8 0),(.str []),(.int .u8 0),(.int .i64 0),(.str []),(.str []),.nilslice] [])⟩,⟨(some 6),none,(.q (.mov (.t 0)))⟩,⟨(some 7),none,(.app 7 (.t 5) (.t 6))⟩,⟨(some 2),none,(.q (.mov (.t 7)))⟩] [2])
.ret)))
theorem fok133 : FOK Tryz.prog 133 (8,ic133,[(.t 2)]) := .mk (pf := []) (an := [(0,[0]),(1,[0,4]),(2,[2]),(3,[2])]) (by kernel_rfl) (fnOK_of Tryz.func133 (by kernel_rfl) (by kernel_rfl) (by kernel_rfl))
def ic134 : IC :=
(.seq
(.reg 0 [⟨(some 1),none,(.boxt (.t 0))⟩,⟨(some 2),none,(.alloc [(.int .u8 0),(.str []),(.int .u8 0),(.int .i64 0),(.str []),(.str []),.nilslice])⟩] [1,2])
(.seq
(.reg 1 [⟨(some 6),none,(.q (.faddr 0 (.t 1)))⟩,⟨(some 7),none,(.q (.load none (.t 6)))⟩,⟨(some 8),none,(.q (.faddr 1 (.t 1)))⟩,⟨(some 9),none,(.q (.load (some 5) (.t 8)))⟩,⟨(some 10),none,(.q (.bld [(.int .u8 0),(.str []),(.int .u8 0),(.int .i64 0),(.str []),(.str []),.nilslice] [⟨0,⟨1,(.t 7)⟩⟩,⟨1,⟨5,(.t 9)⟩⟩]))⟩,⟨(some 3),none,(.alloc [(.int .u8 0),(.str []),(.int .u8 0),(.int .i64 0),(.str []),(.str []),.nilslice])⟩,⟨none,none,(.store 7 (.t 3) (.t 10))⟩] [1,2,3])
(.seq
(.seq
(.reg 2 [⟨(some 11),none,(.q (.faddr 6 (.t 1)))⟩,⟨(some 12),none,(.q (.load none (.t 11)))⟩,⟨(some 13),none,(.q (.len 0 (.t 12)))⟩,⟨(some 14),none,(.q (.mov (.c (.int .i64 0))))⟩] [2,3,12,13,14])
(.block 0
(.loop
(.seq
(.reg 3 [⟨(some 15),none,(.q (.bin .lss (.t 14) (.t 13)))⟩] [2,3,12,13,14,15])
(.seq
(.cond (.t 15)
.skip
(.exit 0))
(.seq
(.block 1
(.seq
(.reg 4 [⟨(some 16),none,(.q (.iaddr 7 (.t 12) (.t 14)))⟩,⟨(some 17),none,(.q (.load (some 7) (.t 16)))⟩,⟨(some 5),none,(.alloc [(.int .u8 0),(.str []),(.int .u8 0),(.int .i64 0),(.str []),(.str []),.nilslice])⟩,⟨none,none,(.store 7 (.t 5) (.t 17))⟩] [2,3,5,12,13,14])
(.dreg 5 [⟨(some 18),none,(.q (.faddr 6 (.t 3)))⟩,⟨(some 19),none,(.q (.load none (.t 18)))⟩,⟨(some 20),none,(.q (.load (some 7) (.t 5)))⟩,⟨(some 21),none,(.pcall 134 [(.t 20)])⟩,⟨(some 22),none,(.bslt 7 1 [(.int .u8 0),(.str []),(.int .u8 0),(.int .i64 0),(.str []),(.str []),.nilslice] [⟨0,⟨7,(.t 21)⟩⟩])⟩,⟨(some 23),none,(.app 7 (.t 19) (.t 22))⟩,⟨(some 24),none,(.q (.faddr 6 (.t 3)))⟩,⟨none,none,(.store 1 (.t 24) (.t 23))⟩] true [2,3,12,13,14])))
(.reg 6 [⟨(some 25),none,(.q (.bin .add (.t 14) (.c (.int .i64 1))))⟩,⟨(some 14),none,(.q (.mov (.t 25)))⟩] [2,3,12,13,14])))))))
(.seq
(.reg 7 [⟨(some 26),none,(.q (.load (some 7) (.t 3)))⟩,⟨none,none,(.store 7 (.t 2) (.t 26))⟩] [2])
.ret))))
theorem fok134 : FOK Tryz.prog 134 (27,ic134,[(.cell (some 7) 2)]) := .mk (pf := ([1000001,1000022] ++ allF1)) (an := [(0,[1,2]),(1,[1,2,3]),(2,[2,3,12,13,14]),(3,[2,3,12,13,14,15]),(4,[2,3,5,12,13,14]),(5,[2,3,12,13,14]),(6,[2,3,12,13,14]),(7,[2])]) (by kernel_rfl) (fnOK_of Tryz.func134 (by kernel_rfl) (by kernel_rfl) (by kernel_rfl))
def ic135 : IC :=
(.seq
(.reg 0 [⟨(some 4),none,(.q (.mov (.c (.int .i64 0))))⟩] [0,1])
(.seq
(.reg 1 [⟨(some 5),none,(.q (.mov (.t 0)))⟩,⟨(some 6),none,(.q (.mov (.t 1)))⟩,⟨(some 7),none,(.call 218 [(.t 5),(.t 6)])⟩,⟨(some 4),none,(.q (.mov (.t 7)))⟩] [4])
.ret))
theorem fok135 : FOK Tryz.prog 135 (8,ic135,[(.t 4)]) := .mk (pf := []) (an := [(0,[0,1]),(1,[4])]) (by kernel_rfl) (fnOK_of Tryz.func135 (by kernel_rfl) (by kernel_rfl) (by kernel_rfl))
def ic136 : IC :=
(.seq
(.reg 0 [⟨(some 2),none,(.q (.mov (.c (.str []))))⟩] [0])
(.seq
(.seq
(.reg 1 [⟨(some 5),none,(.q (.load none (.g 1)))⟩,⟨(some 6),none,(.mrange (.t 5))⟩] [0,6])
(.block 0
(.loop
(.seq
(.reg 2 [⟨(some 7),none,(.mnext (.t 6))⟩,⟨(some 8),none,(.q (.ext 0 (.t 7)))⟩] [0,6,8])
(.seq
(.cond (.t 8)
.skip
(.exit 0))
(.block 1
(.seq
(.reg 3 [⟨(some 9),none,(.ment (.t 6))⟩,⟨(some 10),none,(.q (.ext 0 (.t 9)))⟩,⟨(some 11),none,(.q (.ext 1 (.t 9)))⟩,⟨(some 3),none,(.q (.mov (.t 10)))⟩,⟨(some 4),none,(.q (.mov (.t 11)))⟩] [0,3,4,6])
(.seq
(.reg 4 [⟨(some 12),none,(.q (.mov (.t 4)))⟩,⟨(some 13),none,(.q (.mov (.t 0)))⟩,⟨(some 14),none,(.q (.bin .eql (.t 12) (.t 13)))⟩] [0,3,6,14])
(.cond (.t 14)
(.seq
(.reg 5 [⟨(some 15),none,(.q (.mov (.t 3)))⟩,⟨(some 2),none,(.q (.mov (.t 15)))⟩] [2])
.ret)
.skip)))))))))
(.seq
(.reg 6 [⟨(some 2),none,(.q (.mov (.c (.str []))))⟩] [2])
.ret)))
theorem fok136 : FOK Tryz.prog 136 (16,ic136,[(.t 2)]) := .mk (pf := []) (an := [(0,[0]),(1,[0,6]),(2,[0,6,8]),(3,[0,3,4,6]),(4,[0,3,6,14]),(5,[2]),(6,[2])]) (by kernel_rfl) (fnOK_of Tryz.func136 (by kernel_rfl) (by kernel_rfl) (by kernel_rfl))
def ic137 : IC :=
(.seq
(.reg 0 [⟨(some 4),none,(.q (.mov (.c (.bool false))))⟩] [0,1])
(.seq
(.reg 1 [⟨(some 5),none,(.q (.mov (.t 0)))⟩,⟨(some 6),none,(.q (.mov (.t 1)))⟩,⟨(some 7),none,(.call 219 [(.t 5),(.t 6)])⟩,⟨(some 4),none,(.q (.mov (.t 7)))⟩] [4])
.ret))
theorem fok137 : FOK Tryz.prog 137 (8,ic137,[(.t 4)]) := .mk (pf := []) (an := [(0,[0,1]),(1,[4])]) (by kernel_rfl) (fnOK_of Tryz.func137 (by kernel_rfl) (by kernel_rfl) (by kernel_rfl))
end Go.Id.Tryz
