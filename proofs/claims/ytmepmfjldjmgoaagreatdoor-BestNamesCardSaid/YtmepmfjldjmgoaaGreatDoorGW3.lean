/- The compiled codes of functions, written by a program out of the given form. Conditions: none. -/
import Derived.Test.YtmepmfjldjmgoaaGreatDoorFwW
import Derived.Test.YtmepmfjldjmgoaaGreatDoorProg
set_option linter.all false
namespace Go.Id.Tryz
open Go Go.Id Go.Proofs
def allF3 : List Nat := List.range 412
def ic255 : IC :=
(.seq
(.reg 0 [oM 10 (cB true)] [0,1,2,3,4,10])
(.seq
(.reg 1 [oM 11 (cB true)] [0,1,2,3,4,10,11])
(.block 0
(.loop
(.block 1
(.seq
(.reg 2 [oM 21 2,oM 22 1,oQ 23 (.bin .sub 21 22),oM 12 23] [0,1,2,3,4,10,11,12])
(.seq
(.seq
(.reg 3 [oM 24 12,oQ 25 (.bin .leq 24 (cI 12))] [0,1,2,3,4,10,11,12,25])
(.cond 25
(.seq
(.reg 4 [oM 26 0,oM 27 1,oM 28 2,oM 29 4,oK 30 (.call 314 [26,27,28,29])] [])
.ret)
.skip))
(.seq
(.seq
(.reg 5 [oM 31 3,oQ 32 (.bin .eql 31 (cI 0))] [0,1,2,3,4,10,11,12,32])
(.cond 32
(.seq
(.reg 6 [oM 33 0,oM 34 1,oM 35 2,oM 36 4,oK 37 (.call 315 [33,34,35,36])] [])
.ret)
.skip))
(.seq
(.seq
(.reg 7 [oM 38 10,oQ 39 (.not 38)] [0,1,2,3,4,10,11,12,39])
(.cond 39
(.seq
(.reg 8 [oM 40 0,oM 41 1,oM 42 2,oM 43 4,oK 44 (.call 316 [40,41,42,43])] [0,1,2,3,4,10,11,12])
(.reg 9 [oM 45 3,oQ 46 (.bin .sub 45 (cI 1)),oM 3 46] [0,1,2,3,4,10,11,12]))
.skip))
(.seq
(.reg 10 [oM 48 0,oM 49 1,oM 50 2,oM 51 4,oK 52 (.call 317 [48,49,50,51]),oM 47 52,oQ 53 (.ext 0 47),oQ 54 (.ext 1 47),oM 13 53,oM 14 54] [0,1,2,3,4,10,11,12,13,14])
(.seq
(.seq
(.reg 11 [oM 55 14,oQ 56 (.bin .eql 55 (cI 2))] [0,1,2,3,4,10,11,12,13,14,56])
(.cond 56
(.seq
(.reg 12 [oM 57 0,oM 58 1,oM 59 2,oM 60 4,oK 61 (.call 318 [57,58,59,60])] [0,1,2,3,4,10,11,12,13])
(.seq
(.reg 13 [oM 62 2,oQ 63 (.bin .sub 62 (cI 1)),oM 64 13,oM 65 1,oQ 66 (.bin .sub 64 65),oQ 67 (.bin .sub 63 66),oM 13 67] [0,1,2,3,4,10,11,12,13])
(.reg 14 [oM 14 (cI 1)] [0,1,2,3,4,10,11,12,13,14])))
.skip))
(.seq
(.seq
(.reg 15 [oM 68 10,oM 69 68,gQ 70 69 true (.mov 11),oQ 71 (.pick 69 70 (cB false)),oM 72 71,gQ 73 72 true (.mov 14),gQ 74 72 true (.bin .eql 73 (cI 1)),oQ 75 (.pick 72 74 (cB false))] [0,1,2,3,4,10,11,12,13,75])
(.cond 75
(.seq
(.reg 16 [oM 76 0,oM 77 1,oM 78 2,oM 79 4,oK 80 (.call 319 [76,77,78,79])] [0,1,2,3,4,10,11,12,13,80])
(.cond 80
.ret
.skip))
.skip))
(.seq
(.seq
(.dreg 17 [oM 81 1,oQ 82 (.bin .gtr 81 (cI 0)),oM 83 82,gQ 84 83 true (.mov 4),gQ 85 83 true (.mov 0),gQ 86 83 true (.mov 1),gQ 87 83 true (.bin .sub 86 (cI 1)),gQ 88 83 true (.iaddr 1 85 87),gQ 89 83 true (.load none 88),gQ 90 83 true (.mov 0),gQ 91 83 true (.mov 13),gQ 92 83 true (.iaddr 1 90 91),gQ 93 83 true (.load none 92),gK 94 83 true (.callv 84 [89,93]),gQ 95 83 true (.bin .lss 94 (cI 0)),gQ 96 83 true (.not 95),oQ 97 (.pick 83 96 (cB false))] false [0,1,2,3,4,10,11,12,13,97])
(.cond 97
(.seq
(.reg 18 [oM 98 0,oM 99 1,oM 100 2,oM 101 13,oM 102 4,oK 103 (.call 320 [98,99,100,101,102]),oM 15 103] [0,2,3,4,10,11,15])
(.seq
(.reg 19 [oM 104 15,oM 1 104] [0,1,2,3,4,10,11])
(.exit 1)))
.skip))
(.seq
(.reg 20 [oM 106 0,oM 107 1,oM 108 2,oM 109 13,oM 110 4,oK 111 (.call 321 [106,107,108,109,110]),oM 105 111,oQ 112 (.ext 0 105),oQ 113 (.ext 1 105),oM 16 112,oM 17 113] [0,1,2,3,4,12,16,17])
(.seq
(.reg 21 [oM 114 17,oM 11 114] [0,1,2,3,4,11,12,16])
(.seq
(.reg 22 [oM 115 16,oM 116 1,oQ 117 (.bin .sub 115 116),oM 118 2,oM 119 16,oQ 120 (.bin .sub 118 119),oM 18 117,oM 19 120] [0,1,2,3,4,11,12,16,18,19])
(.seq
(.reg 23 [oM 121 12,oQ 122 (.bin .quo 121 (cI 8)),oM 20 122] [0,1,2,3,4,11,16,18,19,20])
(.seq
(.reg 24 [oM 123 18,oM 124 19,oQ 125 (.bin .lss 123 124)] [0,1,2,3,4,11,16,18,19,20,125])
(.cond 125
(.seq
(.reg 25 [oM 126 18,oM 127 20,oQ 128 (.bin .geq 126 127),oM 10 128] [0,1,2,3,4,10,11,16])
(.seq
(.reg 26 [oM 129 0,oM 130 1,oM 131 16,oM 132 3,oM 133 4,oK 134 (.call 255 [129,130,131,132,133])] [0,2,3,4,10,11,16])
(.reg 27 [oM 135 16,oQ 136 (.bin .add 135 (cI 1)),oM 1 136] [0,1,2,3,4,10,11])))
(.seq
(.reg 28 [oM 137 19,oM 138 20,oQ 139 (.bin .geq 137 138),oM 10 139] [0,1,2,3,4,10,11,16])
(.seq
(.reg 29 [oM 140 0,oM 141 16,oQ 142 (.bin .add 141 (cI 1)),oM 143 2,oM 144 3,oM 145 4,oK 146 (.call 255 [140,142,143,144,145])] [0,1,3,4,10,11,16])
(.reg 30 [oM 147 16,oM 2 147] [0,1,2,3,4,10,11]))))))))))))))))))))))
theorem fok255 : FOK Tryz.prog 255 (148,ic255,[]) := fokA [2000000] Tryz.func255
def ic256 : IC :=
(.seq
(.reg 0 [oM 2 (cI 0)] [0])
(.seq
(.seq
(.reg 1 [oM 6 0,oQ 7 (.len 0 6),oM 8 (cI 0)] [6,7,8])
(.block 0
(.loop
(.seq
(.reg 2 [oQ 9 (.bin .lss 8 7)] [6,7,8,9])
(.seq
(.cond 9
.skip
(.exit 0))
(.seq
(.block 1
(.seq
(.reg 3 [oQ 10 (.iaddr 1 6 8),oQ 11 (.load none 10),oM 4 11] [4,6,7,8])
(.seq
(.reg 4 [oM 12 4,oK 13 (.callv 12 []),oM 5 13] [5,6,7,8])
(.seq
(.reg 5 [oM 14 5,oQ 15 (.bin .neq 14 (cI 0))] [5,6,7,8,15])
(.cond 15
(.seq
(.reg 6 [oM 16 5,oM 2 16] [2])
.ret)
.skip)))))
(.reg 7 [oQ 17 (.bin .add 8 (cI 1)),oM 8 17] [6,7,8])))))))
(.seq
(.reg 8 [oM 2 (cI 0)] [2])
.ret)))
theorem fok256 : FOK Tryz.prog 256 (18,ic256,[(.t 2)]) := fokA [2000000] Tryz.func256
def ic257 : IC :=
(.seq
(.reg 0 [oM 3 (cI 0)] [0,1,2])
(.seq
(.oreg 1 [(0,oQ 4 (.load none 0),0),(1,oQ 5 (.nchk 4),0),(2,oQ 6 (.faddr 0 5),0),(3,oQ 7 (.load none 6),0),(4,oQ 8 (.load none 1),0),(7,oQ 11 (.load none 0),0),(8,oQ 12 (.nchk 11),0),(9,oQ 13 (.faddr 0 12),0),(10,oQ 14 (.load none 13),0),(11,oQ 15 (.load none 2),0),(5,oK 9 (.call 140 [7,8]),3200),(6,oK 10 (.call 183 [9]),3200),(12,oK 16 (.call 140 [14,15]),0),(13,oK 17 (.call 183 [16]),0),(14,oK 18 (.call 182 [10,17]),0),(15,oM 3 18,0)] [3])
.ret))
theorem fok257 : FOK Tryz.prog 257 (19,ic257,[(.t 3)]) := fokA [2000000] Tryz.func257
def ic258 : IC :=
(.seq
(.reg 0 [oM 3 (cI 0)] [0,1,2])
(.seq
(.oreg 1 [(0,oQ 4 (.load none 0),0),(1,oQ 5 (.nchk 4),0),(2,oQ 6 (.faddr 2 5),0),(3,oQ 7 (.load none 6),0),(4,oQ 8 (.faddr 4 1),0),(5,oQ 9 (.load none 8),0),(7,oQ 11 (.load none 0),0),(8,oQ 12 (.nchk 11),0),(9,oQ 13 (.faddr 2 12),0),(10,oQ 14 (.load none 13),0),(11,oQ 15 (.faddr 4 2),0),(12,oQ 16 (.load none 15),0),(6,oK 10 (.call 259 [7,9]),5248),(13,oK 17 (.call 259 [14,16]),0),(14,oK 18 (.call 182 [10,17]),0),(15,oM 3 18,0)] [3])
.ret))
theorem fok258 : FOK Tryz.prog 258 (19,ic258,[(.t 3)]) := fokA [2000000] Tryz.func258
def ic259 : IC :=
(.seq
(.reg 0 [oM 4 (cI 0)] [0,1])
(.seq
(.seq
(.reg 1 [oM 5 0,oK 6 (.call 67 [5]),oQ 7 (.not 6),oM 8 7,gQ 9 8 false (.mov 1),gK 10 8 false (.call 67 [9]),gQ 11 8 false (.not 10),oQ 12 (.pick 8 (cB true) 11)] [0,1,12])
(.cond 12
(.seq
(.reg 2 [oM 4 (cI 0)] [4])
.ret)
.skip))
(.seq
(.reg 3 [oK 13 (.call 322 []),oM 14 0,oQ 15 (.idx (some 5) 5 5 13 14),oM 16 1,oQ 17 (.idx none 5 1 15 16),oM 4 17] [4])
.ret)))
theorem fok259 : FOK Tryz.prog 259 (18,ic259,[(.t 4)]) := fokA [2000000] Tryz.func259
def ic260 : IC :=
(.seq
(.reg 0 [oM 3 (cI 0)] [0,1,2])
(.seq
(.oreg 1 [(0,oQ 4 (.load none 0),0),(1,oQ 5 (.nchk 4),0),(2,oQ 6 (.faddr 1 5),0),(3,oQ 7 (.load none 6),0),(4,oQ 8 (.load none 1),0),(6,oQ 10 (.load none 0),0),(7,oQ 11 (.nchk 10),0),(8,oQ 12 (.faddr 1 11),0),(9,oQ 13 (.load none 12),0),(10,oQ 14 (.load none 2),0),(5,oK 9 (.call 261 [7,8]),1600),(11,oK 15 (.call 261 [13,14]),0),(12,oK 16 (.call 182 [9,15]),0),(13,oM 3 16,0)] [3])
.ret))
theorem fok260 : FOK Tryz.prog 260 (17,ic260,[(.t 3)]) := fokA [2000000] Tryz.func260
def ic261 : IC :=
(.seq
(.reg 0 [⟨(some 4),none,(.q (.mov (.c (.int .i64 0))))⟩] [0,1])
(.seq
(.seq
(.reg 1 [⟨(some 5),none,(.q (.mov (.t 0)))⟩,⟨(some 6),none,(.q (.isnil (.pointer 86) false (.t 5)))⟩,⟨(some 7),none,(.q (.mov (.t 6)))⟩,⟨(some 8),(some ⟨7,false⟩),(.q (.mov (.t 0)))⟩,⟨(some 9),(some ⟨7,false⟩),(.q (.nchk (.t 8)))⟩,⟨(some 10),(some ⟨7,false⟩),(.q (.faddr 0 (.t 9)))⟩,⟨(some 11),(some ⟨7,false⟩),(.q (.load none (.t 10)))⟩,⟨(some 12),(some ⟨7,false⟩),(.q (.mov (.t 1)))⟩,⟨(some 13),(some ⟨7,false⟩),(.call 78 [(.t 11),(.t 12)])⟩,⟨(some 14),(some ⟨7,false⟩),(.q (.not (.t 13)))⟩,⟨(some 15),none,(.q (.pick (.t 7) (.c (.bool true)) (.t 14)))⟩] [0,1,15])
(.cond (.t 15)
(.seq
(.reg 2 [⟨(some 4),none,(.q (.mov (.c (.int .i64 0))))⟩] [4])
.ret)
.skip))
(.seq
(.reg 3 [⟨(some 16),none,(.q (.mov (.t 0)))⟩,⟨(some 17),none,(.q (.nchk (.t 16)))⟩,⟨(some 18),none,(.q (.faddr 0 (.t 17)))⟩,⟨(some 19),none,(.q (.load none (.t 18)))⟩,⟨(some 20),none,(.q (.mov (.t 1)))⟩,⟨(some 21),none,(.q (.iaddr 17 (.t 19) (.t 20)))⟩,⟨(some 22),none,(.q (.faddr 16 (.t 21)))⟩,⟨(some 23),none,(.q (.load none (.t 22)))⟩,⟨(some 4),none,(.q (.mov (.t 23)))⟩] [4])
.ret)))
theorem fok261 : FOK Tryz.prog 261 (24,ic261,[(.t 4)]) := .mk (pf := []) (an := [(0,[0,1]),(1,[0,1,15]),(2,[4]),(3,[4])]) (by kernel_rfl) (fnOK_of Tryz.func261 (by kernel_rfl) (by kernel_rfl) (by kernel_rfl))
def ic262 : IC :=
(.seq
(.reg 0 [oM 3 (cI 0)] [0,1,2])
(.seq
(.oreg 1 [(0,oQ 4 (.load none 0),0),(1,oQ 5 (.nchk 4),0),(2,oQ 6 (.faddr 4 5),0),(3,oQ 7 (.load none 6),0),(4,oQ 8 (.load none 1),0),(5,oQ 9 (.iaddr 1 7 8),0),(6,oQ 10 (.load none 9),0),(8,oQ 12 (.load none 0),0),(9,oQ 13 (.nchk 12),0),(10,oQ 14 (.faddr 4 13),0),(11,oQ 15 (.load none 14),0),(12,oQ 16 (.load none 2),0),(13,oQ 17 (.iaddr 1 15 16),0),(14,oQ 18 (.load none 17),0),(7,oK 11 (.call 183 [10]),22784),(15,oK 19 (.call 183 [18]),0),(16,oK 20 (.call 182 [11,19]),0),(17,oM 3 20,0)] [3])
.ret))
theorem fok262 : FOK Tryz.prog 262 (21,ic262,[(.t 3)]) := fokA [2000000] Tryz.func262
def ic263 : IC :=
(.seq
(.reg 0 [oM 2 (cI 0)] [0,1])
(.seq
(.reg 1 [oQ 3 (.faddr 1 0),oQ 4 (.load (some 3) 3),oQ 5 (.faddr 1 1),oQ 6 (.load (some 3) 5),oK 7 (.call 154 [4,6]),oM 2 7] [2])
.ret))
theorem fok263 : FOK Tryz.prog 263 (8,ic263,[(.t 2)]) := fokA [2000000] Tryz.func263
def ic264 : IC :=
(.seq
(.reg 0 [oM 2 (cI 0)] [0,1])
(.seq
(.reg 1 [oQ 3 (.load none 0),oQ 4 (.load none 1),oK 5 (.call 182 [3,4]),oM 2 5] [2])
.ret))
theorem fok264 : FOK Tryz.prog 264 (6,ic264,[(.t 2)]) := fokA [2000000] Tryz.func264
def ic265 : IC :=
(.seq
(.reg 0 [oM 6 (cI 0)] [0,1,2,3])
(.seq
(.seq
(.reg 1 [oQ 10 (.load none 2),oQ 11 (.len 0 10),oM 12 (cI 0)] [0,1,3,10,11,12])
(.block 0
(.loop
(.seq
(.reg 2 [oQ 13 (.bin .lss 12 11)] [0,1,3,10,11,12,13])
(.seq
(.cond 13
.skip
(.exit 0))
(.seq
(.block 1
(.seq
(.reg 3 [oQ 14 (.iaddr 1 10 12),oQ 15 (.load none 14),oM 8 15] [0,1,3,8,10,11,12])
(.seq
(.reg 4 [oM 16 8,oM 17 0,oM 18 1,oK 19 (.callv 16 [17,18]),oM 9 19] [0,1,3,9,10,11,12])
(.seq
(.reg 5 [oM 20 9,oQ 21 (.bin .neq 20 (cI 0))] [0,1,3,9,10,11,12,21])
(.cond 21
(.seq
(.reg 6 [oM 22 9,oM 6 22] [6])
.ret)
.skip)))))
(.reg 7 [oQ 23 (.bin .add 12 (cI 1)),oM 12 23] [0,1,3,10,11,12])))))))
(.seq
(.reg 8 [oQ 24 (.load none 3),oM 25 0,oM 26 1,oK 27 (.call 178 [24,25,26]),oM 6 27] [6])
.ret)))
theorem fok265 : FOK Tryz.prog 265 (28,ic265,[(.t 6)]) := fokA [2000000] Tryz.func265
def ic266 : IC :=
(.seq
(.reg 0 [oM 6 (cI 0)] [0,1,2,3])
(.seq
(.oreg 1 [(0,oQ 9 (.load none 2),0),(1,oQ 10 (.nchk 9),0),(2,oQ 11 (.faddr 3 10),0),(3,oQ 12 (.load none 11),0),(4,oM 13 0,0),(5,oQ 14 (.iaddr 15 12 13),0),(6,oQ 15 (.load (some 15) 14),0),(7,oQ 16 (.load none 2),0),(8,oQ 17 (.nchk 16),0),(9,oQ 18 (.faddr 3 17),0),(10,oQ 19 (.load none 18),0),(11,oM 20 1,0),(12,oQ 21 (.iaddr 15 19 20),0),(13,oQ 22 (.load (some 15) 21),0),(14,oK 7 (.alloc [(.str []),(zI 0),(.str []),(.str []),(zU 0),(.str []),.nilslice,.nilslice,.nilslice,.nilslice,.nilslice,.nilslice,.nilslice,.nilslice,.nilslice]),0),(15,oK 8 (.alloc [(.str []),(zI 0),(.str []),(.str []),(zU 0),(.str []),.nilslice,.nilslice,.nilslice,.nilslice,.nilslice,.nilslice,.nilslice,.nilslice,.nilslice]),0),(16,oN (.store 15 7 15),9344),(17,oN (.store 15 8 22),0)] [2,3,7,8])
(.seq
(.reg 2 [oQ 23 (.mkf 267 [] [7,2,3,8]),oQ 24 (.mkf 268 [] [8,7]),oK 25 (.bslt 1 2 [.nilfunc] [⟨0,⟨1,23⟩⟩,⟨1,⟨1,24⟩⟩]),oK 26 (.call 256 [25]),oM 6 26] [6])
.ret)))
theorem fok266 : FOK Tryz.prog 266 (27,ic266,[(.t 6)]) := fokA [1000025,2000000] Tryz.func266
def ic267 : IC :=
(.seq
(.reg 0 [oM 4 (cI 0)] [0,1,2,3])
(.seq
(.oreg 1 [(0,oQ 5 (.faddr 0 0),0),(1,oQ 6 (.load none 5),0),(2,oQ 7 (.load none 1),0),(3,oQ 8 (.nchk 7),0),(4,oQ 9 (.faddr 3 8),0),(5,oQ 10 (.load none 9),0),(6,oQ 11 (.load none 2),0),(7,oQ 12 (.iaddr 15 10 11),0),(8,oQ 13 (.faddr 0 12),0),(9,oQ 14 (.load none 13),0),(10,oQ 15 (.bin .eql 6 14),0),(12,oQ 17 (.faddr 0 3),0),(13,oQ 18 (.load none 17),0),(14,oQ 19 (.load none 1),0),(15,oQ 20 (.nchk 19),0),(16,oQ 21 (.faddr 3 20),0),(17,oQ 22 (.load none 21),0),(18,oQ 23 (.load none 2),0),(19,oQ 24 (.iaddr 15 22 23),0),(20,oQ 25 (.faddr 0 24),0),(21,oQ 26 (.load none 25),0),(22,oQ 27 (.bin .eql 18 26),0),(11,oK 16 (.call 183 [15]),2514944),(23,oK 28 (.call 183 [27]),0),(24,oK 29 (.call 182 [16,28]),0),(25,oM 4 29,0)] [4])
.ret))
theorem fok267 : FOK Tryz.prog 267 (30,ic267,[(.t 4)]) := fokA [2000000] Tryz.func267
def ic268 : IC :=
(.seq
(.reg 0 [oM 2 (cI 0)] [0,1])
(.seq
(.reg 1 [oQ 3 (.faddr 1 0),oQ 4 (.load (some 3) 3),oQ 5 (.faddr 1 1),oQ 6 (.load (some 3) 5),oK 7 (.call 154 [4,6]),oM 2 7] [2])
.ret))
theorem fok268 : FOK Tryz.prog 268 (8,ic268,[(.t 2)]) := fokA [2000000] Tryz.func268
def ic269 : IC :=
(.seq
(.reg 0 [oM 2 (cB false)] [0])
(.seq
(.reg 1 [oM 3 0,oM 4 0,oQ 5 (.bin .neq 3 4),oM 2 5] [2])
.ret))
theorem fok269 : FOK Tryz.prog 269 (6,ic269,[(.t 2)]) := fokA [2000000] Tryz.func269
def ic272 : IC :=
(.seq
(.reg 0 [oM 4 (.c .nilslice)] [0,1])
(.seq
(.seq
(.reg 1 [oM 9 1,oQ 10 (.bin .lss 9 (cI 0))] [0,1,10])
(.cond 10
(.reg 2 [oK 11 (.st .nev []),oN (.st .nev [])] [0,1])
.skip))
(.seq
(.reg 3 [oM 13 0,oQ 14 (.len 0 13),oQ 15 (.conv .u64 14),oM 16 1,oQ 17 (.conv .u64 16),oK 18 (.call 323 [15,17]),oM 12 18,oQ 19 (.ext 0 12),oQ 20 (.ext 1 12),oM 5 19,oM 6 20] [0,5,6])
(.seq
(.seq
(.reg 4 [oM 21 5,oQ 22 (.bin .gtr 21 (.c (.int .u64 0))),oM 23 22,gQ 24 23 false (.mov 6),gQ 25 23 false (.bin .gtr 24 (.c (.int .u64 9223372036854775807))),oQ 26 (.pick 23 (cB true) 25)] [0,6,26])
(.cond 26
(.reg 5 [oK 27 (.st .nev []),oN (.st .nev [])] [0,6])
.skip))
(.seq
(.reg 6 [oM 28 6,oQ 29 (.conv .i64 28),oK 30 (.mksl 3 [(zI 0),(zI 0),(zI 0)] 29),oM 7 30] [0,7])
(.seq
(.reg 7 [oM 31 7,oM 32 0,oK 33 (.st (.cpy 3) [31,32]),oM 8 33] [7,8])
(.seq
(.block 0
(.loop
(.seq
(.seq
(.reg 8 [oM 34 8,oM 35 7,oQ 36 (.len 0 35),oQ 37 (.bin .lss 34 36)] [7,8,37])
(.cond 37
.skip
(.exit 0)))
(.block 1
(.oreg 9 [(0,oM 38 8,0),(1,oM 39 7,0),(2,oM 40 8,0),(3,oQ 41 (.slc 3 39 (some 40) none),0),(4,oM 42 7,0),(5,oM 43 8,0),(6,oQ 44 (.slc 3 42 none (some 43)),0),(7,oK 45 (.st (.cpy 3) [41,44]),0),(8,oQ 46 (.bin .add 38 45),0),(9,oM 8 46,0)] [7,8])))))
(.seq
(.reg 10 [oM 47 7,oM 4 47] [4])
.ret))))))))
theorem fok272 : FOK Tryz.prog 272 (48,ic272,[(.t 4)]) := fokA [2000000] Tryz.func272
def ic273 : IC :=
(.seq
(.reg 0 [oM 3 (cB false)] [0,1])
(.seq
(.reg 1 [oM 4 0,oQ 5 (.bin .eql 4 (cI 0)),oM 6 5,gQ 7 6 false (.mov 0),gQ 8 6 false (.load none 1),gQ 9 6 false (.nchk 8),gQ 10 6 false (.faddr 0 9),gQ 11 6 false (.faddr 0 10),gQ 12 6 false (.load none 11),gK 13 6 false (.call 196 [12]),gQ 14 6 false (.bin .gtr 7 13),oQ 15 (.pick 6 (cB true) 14),oM 16 15,gQ 17 16 false (.mov 0),gQ 18 16 false (.load none 1),gQ 19 16 false (.nchk 18),gQ 20 16 false (.faddr 0 19),gQ 21 16 false (.faddr 0 20),gQ 22 16 false (.load none 21),gK 23 16 false (.call 196 [22]),gQ 24 16 false (.neg 23),gQ 25 16 false (.bin .lss 17 24),oQ 26 (.pick 16 (cB true) 25),oM 3 26] [3])
.ret))
theorem fok273 : FOK Tryz.prog 273 (27,ic273,[(.t 3)]) := fokA [2000000] Tryz.func273
def ic274 : IC :=
(.seq
(.reg 0 [oM 7 0,oQ 8 (.nchk 7),oQ 9 (.faddr 2 8),oQ 10 (.load none 9),oM 11 1,oQ 12 (.iaddr 1 10 11),oQ 13 (.load none 12),oM 4 13] [0,1,4])
(.seq
(.reg 1 [oM 14 4,oQ 15 (.len 0 14),oQ 16 (.mm false (cI 2) 15),oM 17 (cI 0)] [0,1,4,16,17])
(.block 0
(.loop
(.seq
(.reg 2 [oQ 18 (.bin .lss 17 16)] [0,1,4,16,17,18])
(.seq
(.cond 18
.skip
(.exit 0))
(.seq
(.block 1
(.seq
(.reg 3 [oM 19 17,oM 5 19] [0,1,4,5,16,17])
(.seq
(.seq
(.reg 4 [oM 20 5,oQ 21 (.bin .add 20 (cI 1)),oM 6 21] [0,1,4,5,6,16,17])
(.block 2
(.loop
(.seq
(.seq
(.reg 5 [oM 22 6,oM 23 4,oQ 24 (.len 0 23),oQ 25 (.bin .lss 22 24)] [0,1,4,5,6,16,17,25])
(.cond 25
.skip
(.exit 2)))
(.seq
(.block 3
(.seq
(.oreg 7 [(0,oM 28 0,0),(1,oM 29 4,0),(2,oM 30 6,0),(3,oQ 31 (.iaddr 1 29 30),0),(4,oQ 32 (.load none 31),0),(6,oM 34 0,0),(7,oM 35 4,0),(8,oM 36 5,0),(9,oQ 37 (.iaddr 1 35 36),0),(10,oQ 38 (.load none 37),0),(5,oK 33 (.call 324 [28,32]),1024),(11,oK 39 (.call 324 [34,38]),0),(12,oQ 40 (.bin .gtr 33 39),0)] [0,1,4,5,6,16,17,40])
(.cond 40
(.dreg 8 [oM 41 4,oM 42 5,oM 43 4,oM 44 6,oM 45 4,oM 46 6,oQ 47 (.iaddr 1 45 46),oQ 48 (.load none 47),oM 49 4,oM 50 5,oQ 51 (.iaddr 1 49 50),oQ 52 (.load none 51),oQ 53 (.iaddr 1 41 42),oN (.store 1 53 48),oQ 54 (.iaddr 1 43 44),oN (.store 1 54 52)] false [0,1,4,5,6,16,17])
.skip)))
(.reg 6 [oM 26 6,oQ 27 (.bin .add 26 (cI 1)),oM 6 27] [0,1,4,5,6,16,17]))))))
(.oreg 9 [(0,oM 55 0,0),(1,oQ 56 (.nchk 55),0),(2,oQ 57 (.faddr 3 56),0),(3,oQ 58 (.load none 57),0),(4,oM 59 4,0),(5,oM 60 5,0),(6,oQ 61 (.iaddr 1 59 60),0),(7,oQ 62 (.load none 61),0),(8,oM 63 0,0),(9,oQ 64 (.nchk 63),0),(10,oQ 65 (.faddr 3 64),0),(11,oQ 66 (.load none 65),0),(12,oM 67 4,0),(13,oM 68 5,0),(14,oQ 69 (.iaddr 1 67 68),0),(15,oQ 70 (.load none 69),0),(16,oQ 71 (.lkp 1 .nilslice false 66 70),0),(17,oM 72 1,0),(18,oK 73 (.bslt 1 1 [(zI 0)] [⟨0,⟨1,72⟩⟩]),0),(19,oK 74 (.app 1 71 73),136),(20,oN (.mupd 1 58 62 74),0)] [0,1,4,16,17]))))
(.reg 10 [oQ 75 (.bin .add 17 (cI 1)),oM 17 75] [0,1,4,16,17]))))))))
theorem fok274 : FOK Tryz.prog 274 (76,ic274,[]) := fokA [1000073,2000000] Tryz.func274
def ic275 : IC :=
(.seq
(.reg 0 [oK 2 (.boxt 0),oM 4 (cB false)] [1,2])
(.seq
(.reg 1 [oQ 9 (.load none 2),oQ 10 (.nchk 9),oQ 11 (.faddr 2 10),oQ 12 (.load none 11),oM 13 1,oQ 14 (.iaddr 1 12 13),oQ 15 (.load none 14),oM 5 15] [1,2,5])
(.seq
(.seq
(.reg 2 [oM 16 5,oQ 17 (.mkf 325 [] [2]),oK 18 (.call 123 [16,17])] [1,2,5,18])
(.cond 18
(.seq
(.reg 3 [oM 4 (cB false)] [4])
.ret)
.skip))
(.seq
(.reg 4 [oM 6 (.c .nilslice)] [1,2,5,6])
(.seq
(.seq
(.reg 5 [oM 19 5,oQ 20 (.len 0 19),oM 21 (cI 0)] [1,2,6,19,20,21])
(.block 0
(.loop
(.seq
(.reg 6 [oQ 22 (.bin .lss 21 20)] [1,2,6,19,20,21,22])
(.seq
(.cond 22
.skip
(.exit 0))
(.seq
(.block 1
(.seq
(.reg 7 [oQ 23 (.iaddr 1 19 21),oQ 24 (.load none 23),oM 8 24] [1,2,6,8,19,20,21])
(.seq
(.reg 8 [oQ 25 (.load none 2),oM 26 8,oK 27 (.call 118 [25,26]),oQ 28 (.bin .eql 27 (cI 0))] [1,2,6,8,19,20,21,28])
(.cond 28
(.reg 9 [oM 29 6,oM 30 8,oK 31 (.bslt 1 1 [(zI 0)] [⟨0,⟨1,30⟩⟩]),oK 32 (.app 1 29 31),oM 6 32] [1,2,6,19,20,21])
.skip))))
(.reg 10 [oQ 33 (.bin .add 21 (cI 1)),oM 21 33] [1,2,6,19,20,21])))))))
(.seq
(.seq
(.reg 11 [oM 34 6,oQ 35 (.len 0 34)] [1,2,6,35])
(.block 2
(.seq
(.reg 12 [oQ 37 (.bin .eql 35 (cI 0)),oM 36 37] [1,2,6,35,36])
(.cond 36
(.seq
(.reg 13 [oM 4 (cB true)] [4])
.ret)
(.seq
(.reg 14 [oQ 39 (.bin .eql 35 (cI 1)),oM 38 39] [1,2,6,38])
(.cond 38
(.dreg 15 [oQ 40 (.load none 2),oQ 41 (.nchk 40),oQ 42 (.faddr 0 41),oQ 43 (.faddr 0 42),oQ 44 (.load none 43),oM 45 6,oQ 46 (.iaddr 1 45 (cI 0)),oQ 47 (.load none 46),oM 48 1,oK 49 (.call 326 [44,47,48])] false [])
.skip))))))
(.seq
(.reg 16 [oM 4 (cB false)] [4])
.ret)))))))
theorem fok275 : FOK Tryz.prog 275 (50,ic275,[(.t 4)]) := fokA [1000002,1000031,2000000] Tryz.func275
def ic276 : IC :=
(.seq
(.reg 0 [oK 2 (.boxt 0),oM 4 (cI 0)] [1,2])
(.seq
(.reg 1 [oQ 11 (.load none 2),oQ 12 (.nchk 11),oQ 13 (.faddr 3 12),oQ 14 (.load none 13),oM 15 1,oQ 16 (.lkp 1 .nilslice false 14 15),oM 5 16] [1,2,5])
(.seq
(.reg 2 [oM 6 (.c .nilslice)] [1,2,5,6])
(.seq
(.seq
(.reg 3 [oM 17 5,oQ 18 (.len 0 17),oM 19 (cI 0)] [1,2,5,6,17,18,19])
(.block 0
(.loop
(.seq
(.reg 4 [oQ 20 (.bin .lss 19 18)] [1,2,5,6,17,18,19,20])
(.seq
(.cond 20
.skip
(.exit 0))
(.seq
(.block 1
(.seq
(.reg 5 [oM 21 19,oQ 22 (.iaddr 1 17 19),oQ 23 (.load none 22),oM 7 21,oM 8 23] [1,2,5,6,7,8,17,18,19])
(.seq
(.reg 6 [oQ 24 (.load none 2),oQ 25 (.nchk 24),oQ 26 (.faddr 2 25),oQ 27 (.load none 26),oM 28 8,oQ 29 (.iaddr 1 27 28),oQ 30 (.load none 29),oM 9 30] [1,2,5,6,7,8,9,17,18,19])
(.seq
(.seq
(.reg 7 [oM 31 9,oQ 32 (.iaddr 1 31 (cI 0)),oQ 33 (.load none 32),oM 34 1,oQ 35 (.bin .eql 33 34),oM 36 35,gQ 37 36 true (.mov 9),gQ 38 36 true (.len 0 37),gQ 39 36 true (.bin .gtr 38 (cI 1)),oQ 40 (.pick 36 39 (cB false))] [1,2,5,6,7,8,9,17,18,19,40])
(.cond 40
(.dreg 8 [oM 41 9,oM 42 9,oM 43 9,oQ 44 (.iaddr 1 43 (cI 1)),oQ 45 (.load none 44),oM 46 9,oQ 47 (.iaddr 1 46 (cI 0)),oQ 48 (.load none 47),oQ 49 (.iaddr 1 41 (cI 0)),oN (.store 1 49 45),oQ 50 (.iaddr 1 42 (cI 1)),oN (.store 1 50 48)] false [1,2,5,6,7,8,9,17,18,19])
.skip))
(.seq
(.reg 9 [oM 10 (cI (-1))] [1,2,5,6,7,8,9,10,17,18,19])
(.seq
(.seq
(.dreg 10 [oM 51 9,oQ 52 (.len 0 51),oQ 53 (.bin .gtr 52 (cI 1)),oM 54 53,gQ 55 54 true (.load none 2),gQ 56 54 true (.mov 9),gQ 57 54 true (.iaddr 1 56 (cI 0)),gQ 58 54 true (.load none 57),gK 59 54 true (.call 118 [55,58]),gQ 60 54 true (.bin .neq 59 (cI 1)),oQ 61 (.pick 54 60 (cB false))] false [1,2,5,6,7,8,9,10,17,18,19,61])
(.cond 61
(.reg 11 [oM 62 9,oQ 63 (.slc 1 62 (some (cI 2)) none),oQ 64 (.mkf 327 [] [2]),oK 65 (.call 209 [63,64]),oM 10 65] [1,2,5,6,7,8,9,10,17,18,19])
.skip))
(.seq
(.seq
(.reg 12 [oM 66 10,oQ 67 (.bin .geq 66 (cI 0))] [1,2,5,6,7,8,9,10,17,18,19,67])
(.cond 67
(.seq
(.dreg 13 [oM 68 9,oM 69 9,oM 70 10,oQ 71 (.bin .add (cI 2) 70),oM 72 9,oM 73 10,oQ 74 (.bin .add (cI 2) 73),oQ 75 (.iaddr 1 72 74),oQ 76 (.load none 75),oM 77 9,oQ 78 (.iaddr 1 77 (cI 1)),oQ 79 (.load none 78),oQ 80 (.iaddr 1 68 (cI 1)),oN (.store 1 80 76),oQ 81 (.iaddr 1 69 71),oN (.store 1 81 79)] false [1,2,5,6,8,9,17,18,19])
(.seq
(.oreg 14 [(0,oQ 82 (.load none 2),0),(1,oQ 83 (.nchk 82),0),(2,oQ 84 (.faddr 3 83),0),(3,oQ 85 (.load none 84),0),(4,oM 86 9,0),(5,oQ 87 (.iaddr 1 86 (cI 1)),0),(6,oQ 88 (.load none 87),0),(7,oQ 89 (.load none 2),0),(8,oQ 90 (.nchk 89),0),(9,oQ 91 (.faddr 3 90),0),(10,oQ 92 (.load none 91),0),(11,oM 93 9,0),(12,oQ 94 (.iaddr 1 93 (cI 1)),0),(13,oQ 95 (.load none 94),0),(14,oQ 96 (.lkp 1 .nilslice false 92 95),0),(15,oM 97 8,0),(16,oK 98 (.bslt 1 1 [(zI 0)] [⟨0,⟨1,97⟩⟩]),0),(17,oK 99 (.app 1 96 98),73),(18,oN (.mupd 1 85 88 99),0)] [1,2,5,6,17,18,19])
(.exit 1)))
.skip))
(.seq
(.reg 15 [oM 100 6,oM 101 8,oK 102 (.bslt 1 1 [(zI 0)] [⟨0,⟨1,101⟩⟩]),oK 103 (.app 1 100 102),oM 6 103] [1,2,5,6,7,8,17,18,19])
(.seq
(.reg 16 [oQ 104 (.load none 2),oM 105 8,oK 106 (.call 275 [104,105])] [1,2,5,6,7,8,17,18,19,106])
(.cond 106
(.seq
(.oreg 17 [(0,oQ 107 (.load none 2),0),(1,oQ 108 (.nchk 107),0),(2,oQ 109 (.faddr 3 108),0),(3,oQ 110 (.load none 109),0),(4,oM 111 1,0),(5,oM 112 6,0),(6,oM 113 5,0),(7,oM 114 7,0),(8,oQ 115 (.bin .add 114 (cI 1)),0),(9,oQ 116 (.slc 1 113 (some 115) none),0),(10,oK 117 (.app 1 112 116),9),(11,oN (.mupd 1 110 111 117),0)] [8])
(.seq
(.reg 18 [oM 118 8,oM 4 118] [4])
.ret))
.skip))))))))))
(.reg 19 [oQ 119 (.bin .add 19 (cI 1)),oM 19 119] [1,2,5,6,17,18,19])))))))
(.seq
(.reg 20 [oQ 120 (.load none 2),oQ 121 (.nchk 120),oQ 122 (.faddr 3 121),oQ 123 (.load none 122),oM 124 1,oM 125 6,oN (.mupd 1 123 124 125)] [])
(.seq
(.reg 21 [oM 4 (cI (-1))] [4])
.ret))))))
theorem fok276 : FOK Tryz.prog 276 (126,ic276,[(.t 4)]) := fokA [1000002,1000098,1000102,2000000] Tryz.func276
def ic277 : IC :=
(.seq
(.reg 0 [oM 4 (cI 0)] [0,1])
(.seq
(.seq
(.reg 1 [oM 6 0,oM 7 1,oK 8 (.call 282 [6,7]),oM 5 8] [0,5])
(.block 0
(.seq
(.reg 2 [oM 10 5,oQ 11 (.bin .lss 10 (cI 0)),oM 9 11] [0,5,9])
(.cond 9
(.seq
(.reg 3 [oM 4 (cI 1)] [4])
.ret)
(.seq
(.reg 4 [oM 13 0,oQ 14 (.nchk 13),oQ 15 (.faddr 0 14),oQ 16 (.load none 15),oM 17 5,oQ 18 (.iaddr 3 16 17),oQ 19 (.faddr 0 18),oQ 20 (.load none 19),oQ 21 (.bin .neq 20 (cI 0)),oM 12 21] [12])
(.cond 12
(.seq
(.reg 5 [oM 4 (cI 7)] [4])
.ret)
.skip))))))
(.seq
(.reg 6 [oM 4 (cI 0)] [4])
.ret)))
theorem fok277 : FOK Tryz.prog 277 (22,ic277,[(.t 4)]) := fokA [2000000] Tryz.func277
def ic278 : IC :=
(.seq
(.reg 0 [oM 7 0,oQ 8 (.nchk 7),oQ 9 (.faddr 2 8),oQ 10 (.load none 9),oQ 11 (.len 0 10),oM 12 2,oQ 13 (.bld [(zI 0),(zI 0),(zI 0)] [⟨0,⟨1,(cI 1)⟩⟩,⟨1,⟨1,11⟩⟩,⟨2,⟨1,12⟩⟩]),oK 6 (.alloc [(zI 0),(zI 0),(zI 0)]),oN (.store 3 6 13)] [0,1,6])
(.seq
(.seq
(.reg 1 [oM 14 1,oQ 15 (.bin .lss 14 (cI 0))] [0,1,6,15])
(.cond 15
(.reg 2 [oQ 16 (.faddr 0 6),oN (.store 1 16 (cI (-1)))] [0,1,6])
.skip))
(.seq
(.oreg 3 [(0,oM 17 0,0),(1,oQ 18 (.nchk 17),0),(2,oQ 19 (.faddr 0 18),0),(3,oQ 20 (.load none 19),0),(4,oM 21 0,0),(5,oM 22 1,0),(7,oQ 24 (.load (some 3) 6),0),(6,oK 23 (.call 282 [21,22]),136),(8,oQ 25 (.iaddr 3 20 23),0),(9,oN (.store 3 25 24),0)] [0,1])
(.reg 4 [oM 26 0,oM 27 0,oQ 28 (.nchk 27),oQ 29 (.faddr 1 28),oQ 30 (.load none 29),oM 31 1,oK 32 (.bslt 1 1 [(zI 0)] [⟨0,⟨1,31⟩⟩]),oK 33 (.app 1 30 32),oQ 34 (.nchk 26),oQ 35 (.faddr 1 34),oN (.store 1 35 33)] []))))
theorem fok278 : FOK Tryz.prog 278 (36,ic278,[]) := fokA [1000032,2000000] Tryz.func278
def ic279 : IC :=
(.seq
(.reg 0 [oK 2 (.boxt 0),oM 4 (cB false)] [1,2])
(.seq
(.reg 1 [oM 5 1,oQ 6 (.mkf 328 [] [2]),oK 7 (.call 123 [5,6]),oQ 8 (.not 7),oM 4 8] [4])
.ret))
theorem fok279 : FOK Tryz.prog 279 (9,ic279,[(.t 4)]) := fokA [1000002,2000000] Tryz.func279
def ic280 : IC :=
(.seq
(.reg 0 [oK 4 (.alloc [(zI 0),(zI 0),(zI 0)])] [0,1,4])
(.seq
(.seq
(.reg 1 [oM 5 0,oQ 6 (.isnil (.pointer 310) false 5),oM 7 6,gQ 8 7 false (.mov 1),gQ 9 7 false (.bin .lss 8 (cI 0)),oQ 10 (.pick 7 (cB true) 9),oM 11 10,gQ 12 11 false (.mov 1),gQ 13 11 false (.mov 0),gQ 14 11 false (.nchk 13),gQ 15 11 false (.faddr 0 14),gQ 16 11 false (.load none 15),gQ 17 11 false (.len 0 16),gQ 18 11 false (.bin .geq 12 17),oQ 19 (.pick 11 (cB true) 18)] [0,1,4,19])
(.cond 19
(.seq
(.reg 2 [oQ 20 (.bld [(zI 0),(zI 0),(zI 0)] [⟨0,⟨1,(cI 0)⟩⟩,⟨1,⟨1,(cI (-1))⟩⟩,⟨2,⟨1,(cI (-1))⟩⟩]),oN (.store 3 4 20)] [4])
.ret)
.skip))
(.seq
(.reg 3 [oM 21 0,oQ 22 (.nchk 21),oQ 23 (.faddr 0 22),oQ 24 (.load none 23),oM 25 1,oQ 26 (.iaddr 3 24 25),oQ 27 (.load (some 3) 26),oN (.store 3 4 27)] [4])
.ret)))
theorem fok280 : FOK Tryz.prog 280 (28,ic280,[(.cell (some 3) 4)]) := fokA [2000000] Tryz.func280
def ic281 : IC :=
(.seq
(.reg 0 [oM 2 (.c .nilslice)] [0])
(.seq
(.seq
(.reg 1 [oM 3 0,oQ 4 (.isnil (.slice 308) false 3)] [0,4])
(.cond 4
(.seq
(.reg 2 [oM 2 (.c .nilslice)] [2])
.ret)
.skip))
(.seq
(.reg 3 [oK 5 (.bsl 3 0 [(zI 0),(zI 0),(zI 0)] []),oM 6 0,oK 7 (.app 3 5 6),oM 2 7] [2])
.ret)))
theorem fok281 : FOK Tryz.prog 281 (8,ic281,[(.t 2)]) := fokA [2000000] Tryz.func281
def ic282 : IC :=
(.seq
(.reg 0 [oM 4 (cI 0)] [0,1])
(.seq
(.reg 1 [oM 6 1,oQ 7 (.bin .sub 6 (cI 1)),oM 5 7] [0,1,5])
(.seq
(.seq
(.reg 2 [oM 8 1,oQ 9 (.bin .lss 8 (cI 0))] [0,1,5,9])
(.cond 9
(.reg 3 [oM 10 1,oQ 11 (.bin .add 10 (cI 1)),oQ 12 (.neg 11),oM 5 12] [0,1,5])
.skip))
(.seq
(.seq
(.reg 4 [oM 13 1,oQ 14 (.bin .eql 13 (cI 0)),oM 15 14,gQ 16 15 false (.mov 5),gQ 17 15 false (.mov 0),gQ 18 15 false (.nchk 17),gQ 19 15 false (.faddr 0 18),gQ 20 15 false (.load none 19),gQ 21 15 false (.len 0 20),gQ 22 15 false (.bin .geq 16 21),oQ 23 (.pick 15 (cB true) 22)] [5,23])
(.cond 23
(.seq
(.reg 5 [oM 4 (cI (-1))] [4])
.ret)
.skip))
(.seq
(.reg 6 [oM 24 5,oM 4 24] [4])
.ret)))))
theorem fok282 : FOK Tryz.prog 282 (25,ic282,[(.t 4)]) := fokA [2000000] Tryz.func282
def ic283 : IC :=
(.seq
(.reg 0 [⟨(some 4),none,(.q (.mov (.c (.int .i64 0))))⟩] [0,1])
(.seq
(.seq
(.reg 1 [⟨(some 6),none,(.q (.mov (.t 0)))⟩,⟨(some 7),none,(.q (.len 0 (.t 6)))⟩,⟨(some 8),none,(.q (.mov (.c (.int .i64 0))))⟩] [0,1,7,8])
(.block 0
(.loop
(.seq
(.reg 2 [⟨(some 9),none,(.q (.bin .lss (.t 8) (.t 7)))⟩] [0,1,7,8,9])
(.seq
(.cond (.t 9)
.skip
(.exit 0))
(.seq
(.block 1
(.seq
(.reg 3 [⟨(some 10),none,(.q (.mov (.t 8)))⟩,⟨(some 5),none,(.q (.mov (.t 10)))⟩] [0,1,5,7,8])
(.seq
(.reg 4 [⟨(some 11),none,(.q (.mov (.t 1)))⟩,⟨(some 12),none,(.q (.mov (.t 0)))⟩,⟨(some 13),none,(.q (.mov (.t 5)))⟩,⟨(some 14),none,(.q (.iaddr 1 (.t 12) (.t 13)))⟩,⟨(some 15),none,(.q (.load none (.t 14)))⟩,⟨(some 16),none,(.callv (.t 11) [(.t 15)])⟩] [0,1,5,7,8,16])
(.cond (.t 16)
(.seq
(.reg 5 [⟨(some 17),none,(.q (.mov (.t 5)))⟩,⟨(some 4),none,(.q (.mov (.t 17)))⟩] [4])
.ret)
.skip))))
(.reg 6 [⟨(some 18),none,(.q (.bin .add (.t 8) (.c (.int .i64 1))))⟩,⟨(some 8),none,(.q (.mov (.t 18)))⟩] [0,1,7,8])))))))
(.seq
(.reg 7 [⟨(some 4),none,(.q (.mov (.c (.int .i64 (-1)))))⟩] [4])
.ret)))
theorem fok283 : FOK Tryz.prog 283 (19,ic283,[(.t 4)]) := .mk (pf := []) (an := [(0,[0,1]),(1,[0,1,7,8]),(2,[0,1,7,8,9]),(3,[0,1,5,7,8]),(4,[0,1,5,7,8,16]),(5,[4]),(6,[0,1,7,8]),(7,[4])]) (by kernel_rfl) (fnOK_of Tryz.func283 (by kernel_rfl) (by kernel_rfl) (by kernel_rfl))
def ic285 : IC :=
(.seq
(.reg 0 [oM 4 (cI 0)] [0,1])
(.seq
(.seq
(.reg 1 [oM 14 1,oQ 15 (.len 0 14),oQ 16 (.bin .eql 15 (cI 1))] [0,1,16])
(.cond 16
(.seq
(.reg 2 [oM 17 1,oQ 18 (.iaddr 1 17 (cI 0)),oQ 19 (.load none 18),oQ 20 (.bin .add 19 (cI 1)),oM 4 20] [4])
.ret)
.skip))
(.seq
(.reg 3 [oM 5 (.c (.str []))] [0,1,5])
(.seq
(.seq
(.reg 4 [oM 21 1,oQ 22 (.len 0 21),oM 23 (cI 0)] [0,1,5,21,22,23])
(.block 0
(.loop
(.seq
(.reg 5 [oQ 24 (.bin .lss 23 22)] [0,1,5,21,22,23,24])
(.seq
(.cond 24
.skip
(.exit 0))
(.seq
(.block 1
(.seq
(.reg 6 [oQ 25 (.iaddr 1 21 23),oQ 26 (.load none 25),oM 7 26] [0,1,5,7,21,22,23])
(.reg 7 [oM 27 5,oM 28 7,oK 29 (.call 329 [28]),oQ 30 (.bin .add 29 (.c (.str [32]))),oQ 31 (.bin .add 27 30),oM 5 31] [0,1,5,21,22,23])))
(.reg 8 [oQ 32 (.bin .add 23 (cI 1)),oM 23 32] [0,1,5,21,22,23])))))))
(.seq
(.seq
(.reg 9 [oM 34 0,oQ 35 (.nchk 34),oQ 36 (.faddr 4 35),oQ 37 (.load none 36),oM 38 5,oQ 39 (.lkp 2 (zI 0) true 37 38),oM 33 39,oQ 40 (.ext 0 33),oQ 41 (.ext 1 33),oM 8 40,oM 9 41] [0,1,5,8,9])
(.seq
(.reg 10 [oM 42 9] [0,1,5,8,42])
(.cond 42
(.seq
(.reg 11 [oM 43 8,oM 4 43] [4])
.ret)
.skip)))
(.seq
(.reg 12 [oM 10 (.c .nilslice)] [0,1,5,10])
(.seq
(.seq
(.reg 13 [oM 44 1,oQ 45 (.len 0 44),oM 46 (cI 0)] [0,5,10,44,45,46])
(.block 2
(.loop
(.seq
(.reg 14 [oQ 47 (.bin .lss 46 45)] [0,5,10,44,45,46,47])
(.seq
(.cond 47
.skip
(.exit 2))
(.seq
(.block 3
(.seq
(.reg 15 [oQ 48 (.iaddr 1 44 46),oQ 49 (.load none 48),oM 12 49] [0,5,10,12,44,45,46])
(.reg 16 [oM 50 10,oM 51 12,oQ 52 (.bin .add 51 (cI 1)),oK 53 (.bslt 1 1 [(zI 0)] [⟨0,⟨1,52⟩⟩]),oK 54 (.app 1 50 53),oM 10 54] [0,5,10,44,45,46])))
(.reg 17 [oQ 55 (.bin .add 46 (cI 1)),oM 46 55] [0,5,10,44,45,46])))))))
(.seq
(.reg 18 [oM 56 0,oM 57 10,oK 58 (.call 289 [56,57]),oM 13 58] [0,5,13])
(.seq
(.reg 19 [oM 59 0,oQ 60 (.nchk 59),oQ 61 (.faddr 4 60),oQ 62 (.load none 61),oM 63 5,oM 64 13,oN (.mupd 2 62 63 64)] [13])
(.seq
(.reg 20 [oM 65 13,oM 4 65] [4])
.ret))))))))))
theorem fok285 : FOK Tryz.prog 285 (66,ic285,[(.t 4)]) := fokA [1000053,2000000] Tryz.func285
def ic286 : IC :=
(.seq
(.reg 0 [oK 3 (.boxt 1),oM 4 (.c .nilslice)] [0,3])
(.seq
(.reg 1 [oM 5 0,oQ 6 (.mkf 330 [] [3]),oK 7 (.call 161 [5,6]),oM 4 7] [4])
.ret))
theorem fok286 : FOK Tryz.prog 286 (8,ic286,[(.t 4)]) := fokA [1000003,2000000] Tryz.func286
def ic289 : IC :=
(.seq
(.reg 0 [oM 4 (cI 0)] [0,1])
(.seq
(.reg 1 [oM 9 0,oK 10 (.call 332 [9]),oM 5 10] [0,1,5])
(.seq
(.reg 2 [oM 11 5,oQ 12 (.neg 11),oK 13 (.bsl 1 1 [(zI 0)] [⟨0,⟨1,12⟩⟩]),oM 6 13] [0,1,5,6])
(.seq
(.seq
(.reg 3 [oM 14 1,oQ 15 (.len 0 14),oM 16 (cI 0)] [0,5,6,14,15,16])
(.block 0
(.loop
(.seq
(.reg 4 [oQ 17 (.bin .lss 16 15)] [0,5,6,14,15,16,17])
(.seq
(.cond 17
.skip
(.exit 0))
(.seq
(.block 1
(.seq
(.reg 5 [oQ 18 (.iaddr 1 14 16),oQ 19 (.load none 18),oM 8 19] [0,5,6,8,14,15,16])
(.seq
(.reg 6 [oM 20 0,oM 21 0,oQ 22 (.nchk 21),oQ 23 (.faddr 3 22),oQ 24 (.load none 23),oM 25 8,oQ 26 (.neg 25),oM 27 5,oK 28 (.bslt 1 2 [(zI 0)] [⟨0,⟨1,26⟩⟩,⟨1,⟨1,27⟩⟩]),oK 29 (.bslt 1 1 [.nilslice] [⟨0,⟨1,28⟩⟩]),oK 30 (.app 1 24 29),oQ 31 (.nchk 20),oQ 32 (.faddr 3 31),oN (.store 1 32 30)] [0,5,6,8,14,15,16])
(.reg 7 [oM 33 6,oM 34 8,oK 35 (.bslt 1 1 [(zI 0)] [⟨0,⟨1,34⟩⟩]),oK 36 (.app 1 33 35),oM 6 36] [0,5,6,14,15,16]))))
(.reg 8 [oQ 37 (.bin .add 16 (cI 1)),oM 16 37] [0,5,6,14,15,16])))))))
(.seq
(.reg 9 [oM 38 0,oM 39 0,oQ 40 (.nchk 39),oQ 41 (.faddr 3 40),oQ 42 (.load none 41),oM 43 6,oK 44 (.bslt 1 1 [.nilslice] [⟨0,⟨1,43⟩⟩]),oK 45 (.app 1 42 44),oQ 46 (.nchk 38),oQ 47 (.faddr 3 46),oN (.store 1 47 45)] [5])
(.seq
(.reg 10 [oM 48 5,oM 4 48] [4])
.ret))))))
theorem fok289 : FOK Tryz.prog 289 (49,ic289,[(.t 4)]) := fokA [1000028,1000029,1000035,1000044,2000000] Tryz.func289
def ic292 : IC :=
(.seq
(.reg 0 [oK 3 (.boxt 1),oK 4 (.alloc [(.str []),(zU 0),(zI 0),(.str []),(.str [])])] [0,3,4])
(.seq
(.reg 1 [oM 5 0,oQ 6 (.load (some 3) 3),oQ 7 (.bld [(.str []),(zU 0),(zI 0),(.str []),(.str [])] [⟨0,⟨1,5⟩⟩,⟨1,⟨1,(.c (zU 2))⟩⟩,⟨2,⟨3,6⟩⟩]),oN (.store 5 4 7)] [4])
.ret))
theorem fok292 : FOK Tryz.prog 292 (8,ic292,[(.cell (some 5) 4)]) := fokA [1000003,2000000] Tryz.func292
def ic293 : IC :=
(.seq
(.reg 0 [oK 3 (.boxt 1),oM 4 (cI 0)] [0,3])
(.seq
(.seq
(.reg 1 [oM 6 0,oQ 7 (.len 0 6),oM 8 (cI 0)] [0,3,7,8])
(.block 0
(.loop
(.seq
(.reg 2 [oQ 9 (.bin .lss 8 7)] [0,3,7,8,9])
(.seq
(.cond 9
.skip
(.exit 0))
(.seq
(.block 1
(.seq
(.reg 3 [oM 10 8,oM 5 10] [0,3,5,7,8])
(.seq
(.dreg 4 [oQ 11 (.load (some 2) 3),oM 12 0,oM 13 5,oQ 14 (.iaddr 2 12 13),oQ 15 (.load (some 2) 14),oQ 16 (.eqs [1,1] true false 11 15)] false [0,3,5,7,8,16])
(.cond 16
(.seq
(.reg 5 [oM 17 5,oM 4 17] [4])
.ret)
.skip))))
(.reg 6 [oQ 18 (.bin .add 8 (cI 1)),oM 8 18] [0,3,7,8])))))))
(.seq
(.reg 7 [oM 4 (cI (-1))] [4])
.ret)))
theorem fok293 : FOK Tryz.prog 293 (19,ic293,[(.t 4)]) := fokA [1000003,2000000] Tryz.func293
def ic294 : IC :=
(.seq
(.reg 0 [oM 2 (.c .nilslice)] [0,2])
(.seq
(.reg 1 [oK 3 (.alloc [.nilslice])] [0,2,3])
(.seq
(.seq
(.reg 2 [oM 5 0,oK 6 (.call 335 [5])] [2,3,6])
(.block 0
(.rfunc 6 [7]
(.reg 3 [oK 4 (.alloc [(zU 0),(.str [])]),oN (.store 2 4 7)] [3,4])
(.block 1
(.reg 4 [oQ 8 (.load none 3),oQ 9 (.load (some 2) 4),oK 10 (.bslt 2 1 [(zU 0),(.str [])] [⟨0,⟨2,9⟩⟩]),oK 11 (.app 2 8 10),oN (.store 1 3 11)] [])))))
(.seq
(.reg 5 [oQ 12 (.load none 3),oM 2 12] [2])
.ret))))
theorem fok294 : FOK Tryz.prog 294 (13,ic294,[(.t 2)]) := fokA [1000010,2000000] Tryz.func294
def ic295 : IC :=
(.seq
(.reg 0 [oK 2 (.boxt 0),oK 3 (.boxt 1),oM 4 (cI 0)] [2,3])
(.seq
(.reg 1 [oM 5 (cI 0)] [2,3,5])
(.seq
(.seq
(.reg 2 [oQ 6 (.faddr 0 2),oQ 7 (.load none 6),oQ 8 (.bin .eql 7 (.c (zU 5))),oM 9 8,gQ 10 9 true (.faddr 0 3),gQ 11 9 true (.load none 10),gQ 12 9 true (.bin .eql 11 (.c (zU 5))),oQ 13 (.pick 9 12 (cB false))] [2,3,5,13])
(.cond 13
(.reg 3 [oQ 14 (.faddr 1 2),oQ 15 (.load none 14),oQ 16 (.len 1 15),oQ 17 (.faddr 1 3),oQ 18 (.load none 17),oQ 19 (.len 1 18),oK 20 (.call 182 [16,19]),oM 5 20] [2,3,5])
.skip))
(.seq
(.oreg 4 [(0,oQ 21 (.faddr 0 2),0),(1,oQ 22 (.load none 21),0),(2,oQ 23 (.faddr 0 3),0),(3,oQ 24 (.load none 23),0),(5,oM 26 5,0),(6,oQ 27 (.faddr 1 2),0),(7,oQ 28 (.load none 27),0),(8,oQ 29 (.faddr 1 3),0),(9,oQ 30 (.load none 29),0),(4,oK 25 (.call 337 [22,24]),640),(10,oK 31 (.call 338 [28,30]),0),(11,oK 32 (.bslt 1 3 [(zI 0)] [⟨0,⟨1,25⟩⟩,⟨1,⟨1,26⟩⟩,⟨2,⟨1,31⟩⟩]),0),(12,oK 33 (.call 336 [32]),0),(13,oM 4 33,0)] [4])
.ret))))
theorem fok295 : FOK Tryz.prog 295 (34,ic295,[(.t 4)]) := fokA [1000002,1000003,1000032,2000000] Tryz.func295
def ic297 : IC :=
(.seq
(.reg 0 [oM 8 1,oQ 9 (.bin .add 8 (cI 1)),oM 6 9] [0,1,2,6])
(.block 0
(.loop
(.seq
(.seq
(.reg 1 [oM 10 6,oM 11 2,oQ 12 (.bin .lss 10 11)] [0,1,2,6,12])
(.cond 12
.skip
(.exit 0)))
(.seq
(.block 1
(.seq
(.reg 3 [oM 15 6,oM 7 15] [0,1,2,6,7])
(.block 2
(.loop
(.seq
(.seq
(.dreg 4 [oM 16 7,oM 17 1,oQ 18 (.bin .gtr 16 17),oM 19 18,gQ 20 19 true (.mov 0),gQ 21 19 true (.mov 7),gQ 22 19 true (.iaddr 1 20 21),gQ 23 19 true (.load none 22),gQ 24 19 true (.mov 0),gQ 25 19 true (.mov 7),gQ 26 19 true (.bin .sub 25 (cI 1)),gQ 27 19 true (.iaddr 1 24 26),gQ 28 19 true (.load none 27),gK 29 19 true (.call 303 [23,28]),oQ 30 (.pick 19 29 (cB false))] false [0,1,2,6,7,30])
(.cond 30
.skip
(.exit 2)))
(.seq
(.block 3
(.dreg 6 [oM 33 0,oM 34 7,oM 35 0,oM 36 7,oQ 37 (.bin .sub 36 (cI 1)),oM 38 0,oM 39 7,oQ 40 (.bin .sub 39 (cI 1)),oQ 41 (.iaddr 1 38 40),oQ 42 (.load none 41),oM 43 0,oM 44 7,oQ 45 (.iaddr 1 43 44),oQ 46 (.load none 45),oQ 47 (.iaddr 1 33 34),oN (.store 1 47 42),oQ 48 (.iaddr 1 35 37),oN (.store 1 48 46)] false [0,1,2,6,7]))
(.reg 5 [oM 31 7,oQ 32 (.bin .sub 31 (cI 1)),oM 7 32] [0,1,2,6,7])))))))
(.reg 2 [oM 13 6,oQ 14 (.bin .add 13 (cI 1)),oM 6 14] [0,1,2,6]))))))
theorem fok297 : FOK Tryz.prog 297 (49,ic297,[]) := fokA [2000000] Tryz.func297
def ic303 : IC :=
(.seq
(.reg 0 [oM 4 (cB false)] [0,1])
(.seq
(.reg 1 [oM 5 0,oK 6 (.call 269 [5]),oM 7 6,gQ 8 7 true (.mov 1),gK 9 7 true (.call 269 [8]),gQ 10 7 true (.not 9),oQ 11 (.pick 7 10 (cB false)),oM 12 11,gQ 13 12 false (.mov 0),gQ 14 12 false (.mov 1),gQ 15 12 false (.bin .lss 13 14),oQ 16 (.pick 12 (cB true) 15),oM 4 16] [4])
.ret))
theorem fok303 : FOK Tryz.prog 303 (17,ic303,[(.t 4)]) := fokA [2000000] Tryz.func303
def ic307 : IC :=
(.seq
(.reg 0 [oM 2 (cI 0)] [0,2])
(.seq
(.seq
(.reg 1 [oM 3 0,oQ 4 (.bin .geq 3 (.c (.int .u64 4294967296)))] [0,2,4])
(.cond 4
(.seq
(.reg 2 [oM 5 0,oQ 6 (.bin .shr 5 (.c (.int .u64 32))),oM 0 6] [0])
(.reg 3 [oM 2 (cI 32)] [0,2]))
.skip))
(.seq
(.seq
(.reg 4 [oM 7 0,oQ 8 (.bin .geq 7 (.c (.int .u64 65536)))] [0,2,8])
(.cond 8
(.seq
(.reg 5 [oM 9 0,oQ 10 (.bin .shr 9 (.c (.int .u64 16))),oM 0 10] [0,2])
(.reg 6 [oM 11 2,oQ 12 (.bin .add 11 (cI 16)),oM 2 12] [0,2]))
.skip))
(.seq
(.seq
(.reg 7 [oM 13 0,oQ 14 (.bin .geq 13 (.c (.int .u64 256)))] [0,2,14])
(.cond 14
(.seq
(.reg 8 [oM 15 0,oQ 16 (.bin .shr 15 (.c (.int .u64 8))),oM 0 16] [0,2])
(.reg 9 [oM 17 2,oQ 18 (.bin .add 17 (cI 8)),oM 2 18] [0,2]))
.skip))
(.seq
(.reg 10 [oM 19 2,oM 20 0,oQ 21 (.conv .u8 20),oQ 22 (.istr (.c (.str [0,1,2,2,3,3,3,3,4,4,4,4,4,4,4,4,5,5,5,5,5,5,5,5,5,5,5,5,5,5,5,5,6,6,6,6,6,6,6,6,6,6,6,6,6,6,6,6,6,6,6,6,6,6,6,6,6,6,6,6,6,6,6,6,7,7,7,7,7,7,7,7,7,7,7,7,7,7,7,7,7,7,7,7,7,7,7,7,7,7,7,7,7,7,7,7,7,7,7,7,7,7,7,7,7,7,7,7,7,7,7,7,7,7,7,7,7,7,7,7,7,7,7,7,7,7,7,7,8,8,8,8,8,8,8,8,8,8,8,8,8,8,8,8,8,8,8,8,8,8,8,8,8,8,8,8,8,8,8,8,8,8,8,8,8,8,8,8,8,8,8,8,8,8,8,8,8,8,8,8,8,8,8,8,8,8,8,8,8,8,8,8,8,8,8,8,8,8,8,8,8,8,8,8,8,8,8,8,8,8,8,8,8,8,8,8,8,8,8,8,8,8,8,8,8,8,8,8,8,8,8,8,8,8,8,8,8,8,8,8,8,8,8,8,8,8,8,8,8,8,8,8,8,8,8,8])) 21),oQ 23 (.conv .i64 22),oQ 24 (.bin .add 19 23),oM 2 24] [2])
.ret)))))
theorem fok307 : FOK Tryz.prog 307 (25,ic307,[(.t 2)]) := fokA [2000000] Tryz.func307
def ic308 : IC :=
(.seq
(.reg 0 [oM 2 (.c (zU 0))] [0])
(.seq
(.reg 1 [oQ 3 (.bld [(zU 0),(zU 0),(zU 0)] [⟨0,⟨1,(.c (zU 1))⟩⟩,⟨1,⟨1,(.c (zU 2))⟩⟩,⟨2,⟨1,(.c (zU 4))⟩⟩]),oM 4 0,oQ 5 (.bin .add 4 (cI 1)),oQ 6 (.idx none 3 1 3 5),oM 2 6] [2])
.ret))
theorem fok308 : FOK Tryz.prog 308 (7,ic308,[(.t 2)]) := fokA [2000000] Tryz.func308
def ic309 : IC :=
(.seq
(.reg 0 [oM 3 (cB false)] [0,1])
(.seq
(.reg 1 [oQ 4 (.faddr 1 1),oQ 5 (.load none 4),oM 6 0,oQ 7 (.iaddr 1 5 6),oQ 8 (.load none 7),oM 3 8] [3])
.ret))
theorem fok309 : FOK Tryz.prog 309 (9,ic309,[(.t 3)]) := fokA [2000000] Tryz.func309
def ic314 : IC :=
(.seq
(.reg 0 [oM 10 1,oQ 11 (.bin .add 10 (cI 1)),oM 8 11] [0,1,2,3,8])
(.block 0
(.loop
(.seq
(.seq
(.reg 1 [oM 12 8,oM 13 2,oQ 14 (.bin .lss 12 13)] [0,1,2,3,8,14])
(.cond 14
.skip
(.exit 0)))
(.seq
(.block 1
(.seq
(.reg 3 [oM 17 8,oM 9 17] [0,1,2,3,8,9])
(.block 2
(.loop
(.seq
(.seq
(.dreg 4 [oM 18 9,oM 19 1,oQ 20 (.bin .gtr 18 19),oM 21 20,gQ 22 21 true (.mov 3),gQ 23 21 true (.mov 0),gQ 24 21 true (.mov 9),gQ 25 21 true (.iaddr 1 23 24),gQ 26 21 true (.load none 25),gQ 27 21 true (.mov 0),gQ 28 21 true (.mov 9),gQ 29 21 true (.bin .sub 28 (cI 1)),gQ 30 21 true (.iaddr 1 27 29),gQ 31 21 true (.load none 30),gK 32 21 true (.callv 22 [26,31]),gQ 33 21 true (.bin .lss 32 (cI 0)),oQ 34 (.pick 21 33 (cB false))] false [0,1,2,3,8,9,34])
(.cond 34
.skip
(.exit 2)))
(.seq
(.block 3
(.dreg 6 [oM 37 0,oM 38 9,oM 39 0,oM 40 9,oQ 41 (.bin .sub 40 (cI 1)),oM 42 0,oM 43 9,oQ 44 (.bin .sub 43 (cI 1)),oQ 45 (.iaddr 1 42 44),oQ 46 (.load none 45),oM 47 0,oM 48 9,oQ 49 (.iaddr 1 47 48),oQ 50 (.load none 49),oQ 51 (.iaddr 1 37 38),oN (.store 1 51 46),oQ 52 (.iaddr 1 39 41),oN (.store 1 52 50)] false [0,1,2,3,8,9]))
(.reg 5 [oM 35 9,oQ 36 (.bin .sub 35 (cI 1)),oM 9 36] [0,1,2,3,8,9])))))))
(.reg 2 [oM 15 8,oQ 16 (.bin .add 15 (cI 1)),oM 8 16] [0,1,2,3,8]))))))
theorem fok314 : FOK Tryz.prog 314 (53,ic314,[]) := fokA [2000000] Tryz.func314
def ic322 : IC :=
(.seq
(.reg 0 [oK 0 (.alloc [(zI 0),(zI 0),(zI 0),(zI 0),(zI 0),(zI 0),(zI 0),(zI 0),(zI 0),(zI 0),(zI 0),(zI 0),(zI 0),(zI 0),(zI 0),(zI 0),(zI 0),(zI 0),(zI 0),(zI 0),(zI 0),(zI 0),(zI 0),(zI 0),(zI 0)])] [0])
(.seq
(.reg 1 [oQ 1 (.bld [(zI 0),(zI 0),(zI 0),(zI 0),(zI 0)] [⟨1,⟨1,(cI 2)⟩⟩,⟨2,⟨1,(cI 1)⟩⟩,⟨3,⟨1,(cI 3)⟩⟩]),oQ 2 (.bld [(zI 0),(zI 0),(zI 0),(zI 0),(zI 0)] [⟨1,⟨1,(cI 2)⟩⟩,⟨3,⟨1,(cI 1)⟩⟩]),oQ 3 (.bld [(zI 0),(zI 0),(zI 0),(zI 0),(zI 0)] [⟨1,⟨1,(cI 2)⟩⟩,⟨4,⟨1,(cI 1)⟩⟩]),oQ 4 (.bld [(zI 0),(zI 0),(zI 0),(zI 0),(zI 0),(zI 0),(zI 0),(zI 0),(zI 0),(zI 0),(zI 0),(zI 0),(zI 0),(zI 0),(zI 0),(zI 0),(zI 0),(zI 0),(zI 0),(zI 0),(zI 0),(zI 0),(zI 0),(zI 0),(zI 0)] [⟨10,⟨5,1⟩⟩,⟨15,⟨5,2⟩⟩,⟨20,⟨5,3⟩⟩]),oN (.store 25 0 4)] [0])
.ret))
theorem fok322 : FOK Tryz.prog 322 (5,ic322,[(.cell (some 25) 0)]) := fokA [2000000] Tryz.func322
def ic323 : IC :=
(.seq
(.reg 0 [oM 4 (.c (.int .u64 0)),oM 5 (.c (.int .u64 0))] [0,1])
(.seq
(.cond (cB false)
(.seq
(.reg 1 [oM 11 0,oQ 12 (.conv .u32 11),oM 13 1,oQ 14 (.conv .u32 13),oK 15 (.call 347 [12,14]),oM 10 15,oQ 16 (.ext 0 10),oQ 17 (.ext 1 10),oM 6 16,oM 7 17] [6,7])
(.seq
(.reg 2 [oM 18 6,oQ 19 (.conv .u64 18),oM 20 7,oQ 21 (.conv .u64 20),oM 4 19,oM 5 21] [4,5])
.ret))
.skip)
(.seq
(.reg 3 [oM 23 0,oM 24 1,oK 25 (.call 348 [23,24]),oM 22 25,oQ 26 (.ext 0 22),oQ 27 (.ext 1 22),oM 8 26,oM 9 27] [8,9])
(.seq
(.reg 4 [oM 28 8,oM 29 9,oM 4 28,oM 5 29] [4,5])
.ret))))
theorem fok323 : FOK Tryz.prog 323 (30,ic323,[(.t 4),(.t 5)]) := fokA [2000000] Tryz.func323
def ic324 : IC :=
(.seq
(.reg 0 [oM 4 (cI 0)] [0,1])
(.seq
(.seq
(.reg 1 [oM 5 0,oM 6 1,oK 7 (.call 118 [5,6]),oQ 8 (.bin .geq 7 (cI 0))] [0,1,8])
(.cond 8
(.seq
(.reg 2 [oM 9 0,oQ 10 (.nchk 9),oQ 11 (.faddr 0 10),oQ 12 (.faddr 0 11),oQ 13 (.load none 12),oK 14 (.call 196 [13]),oQ 15 (.bin .add 14 (cI 1)),oM 4 15] [4])
.ret)
.skip))
(.seq
(.reg 3 [oM 16 0,oQ 17 (.nchk 16),oQ 18 (.faddr 0 17),oQ 19 (.faddr 0 18),oQ 20 (.load none 19),oM 21 1,oM 22 1,oQ 23 (.neg 22),oQ 24 (.mm true 21 23),oQ 25 (.bin .sub 24 (cI 1)),oK 26 (.call 204 [20,25]),oM 4 26] [4])
.ret)))
theorem fok324 : FOK Tryz.prog 324 (27,ic324,[(.t 4)]) := fokA [2000000] Tryz.func324
def ic325 : IC :=
(.seq
(.reg 0 [oM 3 (cB false)] [0,1])
(.seq
(.reg 1 [oQ 4 (.load none 1),oM 5 0,oK 6 (.call 118 [4,5]),oQ 7 (.bin .eql 6 (cI 1)),oM 3 7] [3])
.ret))
theorem fok325 : FOK Tryz.prog 325 (8,ic325,[(.t 3)]) := fokA [2000000] Tryz.func325
def ic326 : IC :=
(.seq
(.reg 0 [oM 6 (cI 0)] [0,1,2])
(.seq
(.block 0
(.seq
(.reg 1 [oM 9 0,oQ 10 (.isnil (.pointer 310) false 9),oM 8 10] [0,1,2,8])
(.cond 8
(.seq
(.reg 2 [oM 6 (cI 2)] [6])
.ret)
(.seq
(.reg 3 [oM 12 2,oQ 13 (.bin .lss 12 (cI 0)),oM 11 13] [0,1,2,11])
(.cond 11
(.seq
(.reg 4 [oM 6 (cI 1)] [6])
.ret)
.skip)))))
(.seq
(.seq
(.reg 5 [oM 14 0,oM 15 1,oK 16 (.call 277 [14,15]),oM 7 16] [0,1,2,7])
(.seq
(.reg 6 [oM 17 7,oQ 18 (.bin .neq 17 (cI 0))] [0,1,2,7,18])
(.cond 18
(.seq
(.reg 7 [oM 19 7,oM 6 19] [6])
.ret)
.skip)))
(.seq
(.reg 8 [oM 20 0,oM 21 1,oM 22 2,oK 23 (.call 278 [20,21,22])] [])
(.seq
(.reg 9 [oM 6 (cI 0)] [6])
.ret)))))
theorem fok326 : FOK Tryz.prog 326 (24,ic326,[(.t 6)]) := fokA [2000000] Tryz.func326
def ic327 : IC :=
(.seq
(.reg 0 [oM 3 (cB false)] [0,1])
(.seq
(.reg 1 [oQ 4 (.load none 1),oM 5 0,oK 6 (.call 118 [4,5]),oQ 7 (.bin .geq 6 (cI 0)),oM 3 7] [3])
.ret))
theorem fok327 : FOK Tryz.prog 327 (8,ic327,[(.t 3)]) := fokA [2000000] Tryz.func327
def ic328 : IC :=
(.seq
(.reg 0 [oM 3 (cB false)] [0,1])
(.seq
(.reg 1 [oM 4 0,oQ 5 (.bin .eql 4 (cI 0)),oM 6 5,gQ 7 6 false (.mov 0),gQ 8 6 false (.load none 1),gQ 9 6 false (.nchk 8),gQ 10 6 false (.faddr 0 9),gQ 11 6 false (.load none 10),gK 12 6 false (.call 196 [11]),gQ 13 6 false (.bin .gtr 7 12),oQ 14 (.pick 6 (cB true) 13),oM 15 14,gQ 16 15 false (.mov 0),gQ 17 15 false (.load none 1),gQ 18 15 false (.nchk 17),gQ 19 15 false (.faddr 0 18),gQ 20 15 false (.load none 19),gK 21 15 false (.call 196 [20]),gQ 22 15 false (.neg 21),gQ 23 15 false (.bin .lss 16 22),oQ 24 (.pick 15 (cB true) 23),oM 3 24] [3])
.ret))
theorem fok328 : FOK Tryz.prog 328 (25,ic328,[(.t 3)]) := fokA [2000000] Tryz.func328
def ic329 : IC :=
(.seq
(.reg 0 [oM 2 (.c (.str []))] [0])
(.seq
(.reg 1 [oM 3 0,oK 4 (.call 349 [3]),oM 2 4] [2])
.ret))
theorem fok329 : FOK Tryz.prog 329 (5,ic329,[(.t 2)]) := fokA [2000000] Tryz.func329
def ic330 : IC :=
(.seq
(.reg 0 [oM 3 (cB false)] [0,1])
(.seq
(.reg 1 [oM 4 0,oQ 5 (.load none 1),oQ 6 (.bin .eql 4 5),oM 3 6] [3])
.ret))
theorem fok330 : FOK Tryz.prog 330 (7,ic330,[(.t 3)]) := fokA [2000000] Tryz.func330
def ic332 : IC :=
(.seq
(.reg 0 [oM 2 (cI 0)] [0])
(.seq
(.reg 1 [oM 3 0,oQ 4 (.nchk 3),oQ 5 (.faddr 2 4),oQ 6 (.load none 5),oQ 7 (.bin .add 6 (cI 1)),oQ 8 (.nchk 3),oQ 9 (.faddr 2 8),oN (.store 1 9 7)] [0])
(.seq
(.dreg 2 [oM 10 0,oQ 11 (.nchk 10),oQ 12 (.faddr 1 11),oQ 13 (.load none 12),oQ 14 (.len 0 13),oM 15 0,oQ 16 (.nchk 15),oQ 17 (.faddr 2 16),oQ 18 (.load none 17),oQ 19 (.bin .add 14 18),oM 2 19] false [2])
.ret)))
theorem fok332 : FOK Tryz.prog 332 (20,ic332,[(.t 2)]) := fokA [2000000] Tryz.func332
def ic335 : IC :=
(.seq
(.reg 0 [oK 1 (.boxt 0),oM 2 (.c .nilfunc)] [1])
(.seq
(.reg 1 [oQ 3 (.mkf 350 [] [1]),oM 2 3] [2])
.ret))
theorem fok335 : FOK Tryz.prog 335 (4,ic335,[(.t 2)]) := fokA [1000001,2000000] Tryz.func335
def ic336 : IC :=
(.seq
(.reg 0 [oM 2 (cI 0)] [0])
(.seq
(.reg 1 [oM 3 (cI 0)] [0,3])
(.seq
(.seq
(.reg 2 [oM 6 0,oQ 7 (.len 0 6),oM 8 (cI 0)] [3,6,7,8])
(.block 0
(.loop
(.seq
(.reg 3 [oQ 9 (.bin .lss 8 7)] [3,6,7,8,9])
(.seq
(.cond 9
.skip
(.exit 0))
(.seq
(.block 1
(.seq
(.reg 4 [oQ 10 (.iaddr 1 6 8),oQ 11 (.load none 10),oM 5 11] [3,5,6,7,8])
(.seq
(.reg 5 [oM 12 5,oM 13 3,oQ 14 (.bin .neq 12 13)] [3,5,6,7,8,14])
(.cond 14
(.seq
(.reg 6 [oM 15 5,oM 2 15] [2])
.ret)
.skip))))
(.reg 7 [oQ 16 (.bin .add 8 (cI 1)),oM 8 16] [3,6,7,8])))))))
(.seq
(.reg 8 [oM 17 3,oM 2 17] [2])
.ret))))
theorem fok336 : FOK Tryz.prog 336 (18,ic336,[(.t 2)]) := fokA [2000000] Tryz.func336
def ic337 : IC :=
(.seq
(.reg 0 [oM 4 (cI 0)] [0,1])
(.seq
(.reg 1 [oM 7 0,oK 8 (.call 353 [7]),oM 5 8] [0,1,5])
(.seq
(.reg 2 [oM 9 1,oK 10 (.call 353 [9]),oM 6 10] [0,1,5,6])
(.seq
(.seq
(.reg 3 [oM 11 5] [0,1,6,11])
(.cond 11
(.seq
(.seq
(.reg 4 [oM 12 6] [12])
(.cond 12
(.seq
(.reg 5 [oM 4 (cI 0)] [4])
.ret)
.skip))
(.seq
(.reg 6 [oM 4 (cI (-1))] [4])
.ret))
.skip))
(.seq
(.seq
(.reg 7 [oM 13 6] [0,1,13])
(.cond 13
(.seq
(.reg 8 [oM 4 (cI 1)] [4])
.ret)
.skip))
(.seq
(.seq
(.reg 9 [oM 14 0,oM 15 1,oQ 16 (.bin .lss 14 15)] [0,1,16])
(.cond 16
(.seq
(.reg 10 [oM 4 (cI (-1))] [4])
.ret)
.skip))
(.seq
(.seq
(.reg 11 [oM 17 0,oM 18 1,oQ 19 (.bin .gtr 17 18)] [19])
(.cond 19
(.seq
(.reg 12 [oM 4 (cI 1)] [4])
.ret)
.skip))
(.seq
(.reg 13 [oM 4 (cI 0)] [4])
.ret))))))))
theorem fok337 : FOK Tryz.prog 337 (20,ic337,[(.t 4)]) := fokA [2000000] Tryz.func337
def ic338 : IC :=
(.seq
(.reg 0 [oM 4 (cI 0)] [0,1])
(.seq
(.reg 1 [oM 7 0,oK 8 (.call 354 [7]),oM 5 8] [0,1,5])
(.seq
(.reg 2 [oM 9 1,oK 10 (.call 354 [9]),oM 6 10] [0,1,5,6])
(.seq
(.seq
(.reg 3 [oM 11 5] [0,1,6,11])
(.cond 11
(.seq
(.seq
(.reg 4 [oM 12 6] [12])
(.cond 12
(.seq
(.reg 5 [oM 4 (cI 0)] [4])
.ret)
.skip))
(.seq
(.reg 6 [oM 4 (cI (-1))] [4])
.ret))
.skip))
(.seq
(.seq
(.reg 7 [oM 13 6] [0,1,13])
(.cond 13
(.seq
(.reg 8 [oM 4 (cI 1)] [4])
.ret)
.skip))
(.seq
(.seq
(.reg 9 [oM 14 0,oM 15 1,oQ 16 (.bin .lss 14 15)] [0,1,16])
(.cond 16
(.seq
(.reg 10 [oM 4 (cI (-1))] [4])
.ret)
.skip))
(.seq
(.seq
(.reg 11 [oM 17 0,oM 18 1,oQ 19 (.bin .gtr 17 18)] [19])
(.cond 19
(.seq
(.reg 12 [oM 4 (cI 1)] [4])
.ret)
.skip))
(.seq
(.reg 13 [oM 4 (cI 0)] [4])
.ret))))))))
theorem fok338 : FOK Tryz.prog 338 (20,ic338,[(.t 4)]) := fokA [2000000] Tryz.func338
def ic348 : IC :=
(.seq
(.reg 0 [oM 4 (.c (.int .u64 0)),oM 5 (.c (.int .u64 0))] [0,1])
(.seq
(.reg 1 [oM 14 0,oQ 15 (.bin .and 14 (.c (.int .u64 4294967295))),oM 6 15] [0,1,6])
(.seq
(.reg 2 [oM 16 0,oQ 17 (.bin .shr 16 (.c (.int .u64 32))),oM 7 17] [0,1,6,7])
(.seq
(.reg 3 [oM 18 1,oQ 19 (.bin .and 18 (.c (.int .u64 4294967295))),oM 8 19] [0,1,6,7,8])
(.seq
(.reg 4 [oM 20 1,oQ 21 (.bin .shr 20 (.c (.int .u64 32))),oM 9 21] [0,1,6,7,8,9])
(.seq
(.reg 5 [oM 22 6,oM 23 8,oQ 24 (.bin .mul 22 23),oM 10 24] [0,1,6,7,8,9,10])
(.seq
(.reg 6 [oM 25 7,oM 26 8,oQ 27 (.bin .mul 25 26),oM 28 10,oQ 29 (.bin .shr 28 (.c (.int .u64 32))),oQ 30 (.bin .add 27 29),oM 11 30] [0,1,6,7,9,11])
(.seq
(.reg 7 [oM 31 11,oQ 32 (.bin .and 31 (.c (.int .u64 4294967295))),oM 12 32] [0,1,6,7,9,11,12])
(.seq
(.reg 8 [oM 33 11,oQ 34 (.bin .shr 33 (.c (.int .u64 32))),oM 13 34] [0,1,6,7,9,12,13])
(.seq
(.reg 9 [oM 35 12,oM 36 6,oM 37 9,oQ 38 (.bin .mul 36 37),oQ 39 (.bin .add 35 38),oM 12 39] [0,1,7,9,12,13])
(.seq
(.reg 10 [oM 40 7,oM 41 9,oQ 42 (.bin .mul 40 41),oM 43 13,oQ 44 (.bin .add 42 43),oM 45 12,oQ 46 (.bin .shr 45 (.c (.int .u64 32))),oQ 47 (.bin .add 44 46),oM 4 47] [0,1,4])
(.seq
(.reg 11 [oM 48 0,oM 49 1,oQ 50 (.bin .mul 48 49),oM 5 50] [4,5])
.ret))))))))))))
theorem fok348 : FOK Tryz.prog 348 (51,ic348,[(.t 4),(.t 5)]) := fokA [2000000] Tryz.func348
end Go.Id.Tryz
