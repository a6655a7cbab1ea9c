/- The compiled codes of functions, written by a program out of the given form. Conditions: none. -/
import Derived.Test.YtmepmfjldjmgoaaGreatDoorFwW
import Derived.Test.YtmepmfjldjmgoaaGreatDoorProg
set_option linter.all false
namespace Go.Id.Tryz
open Go Go.Id Go.Proofs
def allF2 : List Nat := List.range 412
def ic138 : IC :=
(.seq
(.reg 0 [⟨(some 2),none,(.q (.mov (.c (.bool false))))⟩] [0])
(.seq
(.seq
(.reg 1 [⟨(some 5),none,(.q (.mov (.t 0)))⟩,⟨(some 6),none,(.q (.bin .eql (.t 5) (.c (.str []))))⟩,⟨(some 7),none,(.q (.mov (.t 6)))⟩,⟨(some 8),(some ⟨7,false⟩),(.q (.mov (.t 0)))⟩,⟨(some 9),(some ⟨7,false⟩),(.q (.len 1 (.t 8)))⟩,⟨(some 10),(some ⟨7,false⟩),(.q (.bin .gtr (.t 9) (.c (.int .i64 64))))⟩,⟨(some 11),none,(.q (.pick (.t 7) (.c (.bool true)) (.t 10)))⟩] [0,11])
(.cond (.t 11)
(.seq
(.reg 2 [⟨(some 2),none,(.q (.mov (.c (.bool false))))⟩] [2])
.ret)
.skip))
(.seq
(.seq
(.reg 3 [⟨(some 12),none,(.q (.mov (.t 0)))⟩,⟨(some 13),none,(.q (.len 1 (.t 12)))⟩,⟨(some 14),none,(.q (.mov (.c (.int .i64 0))))⟩] [0,13,14])
(.block 0
(.loop
(.seq
(.reg 4 [⟨(some 15),none,(.q (.bin .lss (.t 14) (.t 13)))⟩] [0,13,14,15])
(.seq
(.cond (.t 15)
.skip
(.exit 0))
(.seq
(.block 1
(.seq
(.reg 5 [⟨(some 16),none,(.q (.mov (.t 14)))⟩,⟨(some 3),none,(.q (.mov (.t 16)))⟩] [0,3,13,14])
(.seq
(.reg 6 [⟨(some 17),none,(.q (.mov (.t 0)))⟩,⟨(some 18),none,(.q (.mov (.t 3)))⟩,⟨(some 19),none,(.q (.istr (.t 17) (.t 18)))⟩,⟨(some 4),none,(.q (.mov (.t 19)))⟩] [0,4,13,14])
(.block 2
(.seq
(.seq
(.reg 8 [⟨(some 21),none,(.q (.mov (.t 4)))⟩,⟨(some 22),none,(.q (.bin .geq (.t 21) (.c (.int .u8 97))))⟩,⟨(some 23),none,(.q (.mov (.t 22)))⟩,⟨(some 24),(some ⟨23,true⟩),(.q (.mov (.t 4)))⟩,⟨(some 25),(some ⟨23,true⟩),(.q (.bin .leq (.t 24) (.c (.int .u8 122))))⟩,⟨(some 26),none,(.q (.pick (.t 23) (.t 25) (.c (.bool false))))⟩,⟨(some 20),none,(.q (.mov (.t 26)))⟩] [0,4,13,14,20])
(.cond (.t 20)
.skip
(.seq
(.reg 9 [⟨(some 27),none,(.q (.mov (.t 4)))⟩,⟨(some 28),none,(.q (.bin .geq (.t 27) (.c (.int .u8 65))))⟩,⟨(some 29),none,(.q (.mov (.t 28)))⟩,⟨(some 30),(some ⟨29,true⟩),(.q (.mov (.t 4)))⟩,⟨(some 31),(some ⟨29,true⟩),(.q (.bin .leq (.t 30) (.c (.int .u8 90))))⟩,⟨(some 32),none,(.q (.pick (.t 29) (.t 31) (.c (.bool false))))⟩,⟨(some 20),none,(.q (.mov (.t 32)))⟩] [0,4,13,14,20])
(.cond (.t 20)
.skip
(.seq
(.reg 10 [⟨(some 33),none,(.q (.mov (.t 4)))⟩,⟨(some 34),none,(.q (.bin .geq (.t 33) (.c (.int .u8 48))))⟩,⟨(some 35),none,(.q (.mov (.t 34)))⟩,⟨(some 36),(some ⟨35,true⟩),(.q (.mov (.t 4)))⟩,⟨(some 37),(some ⟨35,true⟩),(.q (.bin .leq (.t 36) (.c (.int .u8 57))))⟩,⟨(some 38),none,(.q (.pick (.t 35) (.t 37) (.c (.bool false))))⟩,⟨(some 20),none,(.q (.mov (.t 38)))⟩] [0,4,13,14,20])
(.cond (.t 20)
.skip
(.reg 11 [⟨(some 39),none,(.q (.mov (.t 4)))⟩,⟨(some 40),none,(.call 135 [(.c (.str [46,95,43,126,94])),(.t 39)])⟩,⟨(some 41),none,(.q (.bin .geq (.t 40) (.c (.int .i64 0))))⟩,⟨(some 20),none,(.q (.mov (.t 41)))⟩] [0,13,14,20])))))))
(.cond (.t 20)
.skip
(.seq
(.reg 7 [⟨(some 2),none,(.q (.mov (.c (.bool false))))⟩] [2])
.ret)))))))
(.reg 12 [⟨(some 42),none,(.q (.bin .add (.t 14) (.c (.int .i64 1))))⟩,⟨(some 14),none,(.q (.mov (.t 42)))⟩] [0,13,14])))))))
(.seq
(.reg 13 [⟨(some 2),none,(.q (.mov (.c (.bool true))))⟩] [2])
.ret))))
theorem fok138 : FOK Tryz.prog 138 (43,ic138,[(.t 2)]) := .mk (pf := []) (an := [(0,[0]),(1,[0,11]),(2,[2]),(3,[0,13,14]),(4,[0,13,14,15]),(5,[0,3,13,14]),(6,[0,4,13,14]),(7,[2]),(8,[0,4,13,14,20]),(9,[0,4,13,14,20]),(10,[0,4,13,14,20]),(11,[0,13,14,20]),(12,[0,13,14]),(13,[2])]) (by kernel_rfl) (fnOK_of Tryz.func138 (by kernel_rfl) (by kernel_rfl) (by kernel_rfl))
def ic139 : IC :=
(.seq
(.reg 0 [⟨(some 4),none,(.q (.mov (.c (.int .i64 0))))⟩] [0,1])
(.seq
(.seq
(.reg 1 [⟨(some 6),none,(.q (.mov (.t 0)))⟩,⟨(some 7),none,(.q (.len 0 (.t 6)))⟩,⟨(some 8),none,(.q (.mov (.c (.int .i64 0))))⟩] [0,1,7,8])
(.block 0
(.loop
(.seq
(.reg 2 [⟨(some 9),none,(.q (.bin .lss (.t 8) (.t 7)))⟩] [0,1,7,8,9])
(.seq
(.cond (.t 9)
.skip
(.exit 0))
(.seq
(.block 1
(.seq
(.reg 3 [⟨(some 10),none,(.q (.mov (.t 8)))⟩,⟨(some 5),none,(.q (.mov (.t 10)))⟩] [0,1,5,7,8])
(.seq
(.reg 4 [⟨(some 11),none,(.q (.mov (.t 1)))⟩,⟨(some 12),none,(.q (.mov (.t 0)))⟩,⟨(some 13),none,(.q (.mov (.t 5)))⟩,⟨(some 14),none,(.q (.iaddr 1 (.t 12) (.t 13)))⟩,⟨(some 15),none,(.q (.load none (.t 14)))⟩,⟨(some 16),none,(.q (.bin .eql (.t 11) (.t 15)))⟩] [0,1,5,7,8,16])
(.cond (.t 16)
(.seq
(.reg 5 [⟨(some 17),none,(.q (.mov (.t 5)))⟩,⟨(some 4),none,(.q (.mov (.t 17)))⟩] [4])
.ret)
.skip))))
(.reg 6 [⟨(some 18),none,(.q (.bin .add (.t 8) (.c (.int .i64 1))))⟩,⟨(some 8),none,(.q (.mov (.t 18)))⟩] [0,1,7,8])))))))
(.seq
(.reg 7 [⟨(some 4),none,(.q (.mov (.c (.int .i64 (-1)))))⟩] [4])
.ret)))
theorem fok139 : FOK Tryz.prog 139 (19,ic139,[(.t 4)]) := .mk (pf := []) (an := [(0,[0,1]),(1,[0,1,7,8]),(2,[0,1,7,8,9]),(3,[0,1,5,7,8]),(4,[0,1,5,7,8,16]),(5,[4]),(6,[0,1,7,8]),(7,[4])]) (by kernel_rfl) (fnOK_of Tryz.func139 (by kernel_rfl) (by kernel_rfl) (by kernel_rfl))
def ic140 : IC :=
(.seq
(.reg 0 [oM 4 (cB false)] [0,1])
(.seq
(.dreg 1 [oM 5 0,oM 6 1,oK 7 (.call 220 [5,6]),oM 8 7,gQ 9 8 true (.mov 0),gQ 10 8 true (.nchk 9),gQ 11 8 true (.faddr 2 10),gQ 12 8 true (.faddr 0 11),gQ 13 8 true (.load none 12),gQ 14 8 true (.mov 0),gQ 15 8 true (.nchk 14),gQ 16 8 true (.faddr 7 15),gQ 17 8 true (.load none 16),gQ 18 8 true (.mov 1),gQ 19 8 true (.iaddr 15 17 18),gQ 20 8 true (.faddr 4 19),gQ 21 8 true (.load none 20),gK 22 8 true (.call 221 [13,21]),oQ 23 (.pick 8 22 (cB false)),oM 4 23] false [4])
.ret))
theorem fok140 : FOK Tryz.prog 140 (24,ic140,[(.t 4)]) := fokA [2000000] Tryz.func140
def ic141 : IC :=
(.seq
(.reg 0 [oM 9 1,oM 10 2,oM 11 3,oQ 12 (.bld [(zU 0),(zI 0),(zI 0)] [⟨0,⟨1,9⟩⟩,⟨1,⟨1,10⟩⟩,⟨2,⟨1,11⟩⟩]),oK 8 (.alloc [(zU 0),(zI 0),(zI 0)]),oN (.store 3 8 12)] [0,8])
(.seq
(.oreg 1 [(0,oM 13 0,0),(1,oM 14 0,0),(2,oQ 15 (.nchk 14),0),(3,oQ 16 (.faddr 3 15),0),(4,oQ 17 (.load none 16),0),(5,oQ 18 (.load (some 3) 8),0),(6,oK 19 (.bslt 3 1 [(zU 0),(zI 0),(zI 0)] [⟨0,⟨3,18⟩⟩]),0),(7,oK 20 (.app 3 17 19),0),(8,oQ 21 (.nchk 13),0),(9,oQ 22 (.faddr 3 21),0),(10,oN (.store 1 22 20),0)] [0,8])
(.dreg 2 [oM 23 0,oQ 24 (.nchk 23),oQ 25 (.faddr 4 24),oQ 26 (.load none 25),oQ 27 (.load (some 3) 8),oQ 28 (.bld [] []),oN (.mupd 6 26 27 28)] false [])))
theorem fok141 : FOK Tryz.prog 141 (29,ic141,[]) := fokA [1000019,2000000] Tryz.func141
def ic142 : IC :=
(.seq
(.reg 0 [oM 6 (cB false)] [0,1,2])
(.seq
(.seq
(.reg 1 [oM 9 0,oM 10 1,oK 11 (.call 220 [9,10]),oQ 12 (.not 11),oM 13 12,gQ 14 13 false (.mov 0),gQ 15 13 false (.mov 2),gK 16 13 false (.call 220 [14,15]),gQ 17 13 false (.not 16),oQ 18 (.pick 13 (cB true) 17),oM 19 18,gQ 20 19 false (.mov 1),gQ 21 19 false (.mov 2),gQ 22 19 false (.bin .eql 20 21),oQ 23 (.pick 19 (cB true) 22)] [0,1,2,23])
(.cond 23
(.seq
(.reg 2 [oM 6 (cB false)] [6])
.ret)
.skip))
(.seq
(.oreg 3 [(0,oM 24 0,0),(1,oQ 25 (.nchk 24),0),(2,oQ 26 (.faddr 7 25),0),(3,oQ 27 (.load none 26),0),(4,oM 28 1,0),(5,oQ 29 (.iaddr 15 27 28),0),(6,oQ 30 (.load (some 15) 29),0),(7,oM 31 0,0),(8,oQ 32 (.nchk 31),0),(9,oQ 33 (.faddr 7 32),0),(10,oQ 34 (.load none 33),0),(11,oM 35 2,0),(12,oQ 36 (.iaddr 15 34 35),0),(13,oQ 37 (.load (some 15) 36),0),(14,oK 7 (.alloc [(.str []),(zI 0),(.str []),(.str []),(zU 0),(.str []),.nilslice,.nilslice,.nilslice,.nilslice,.nilslice,.nilslice,.nilslice,.nilslice,.nilslice]),0),(15,oK 8 (.alloc [(.str []),(zI 0),(.str []),(.str []),(zU 0),(.str []),.nilslice,.nilslice,.nilslice,.nilslice,.nilslice,.nilslice,.nilslice,.nilslice,.nilslice]),0),(16,oN (.store 15 7 30),9216),(17,oN (.store 15 8 37),0)] [7,8])
(.seq
(.reg 4 [oQ 38 (.faddr 0 7),oQ 39 (.load none 38),oQ 40 (.faddr 0 8),oQ 41 (.load none 40),oQ 42 (.bin .eql 39 41),oM 43 42,gQ 44 43 true (.faddr 4 7),gQ 45 43 true (.load none 44),gQ 46 43 true (.faddr 4 8),gQ 47 43 true (.load none 46),gK 48 43 true (.call 222 [45,47]),gQ 49 43 true (.mov 48),gQ 50 49 true (.faddr 1 7),gQ 51 49 true (.load (some 3) 50),gQ 52 49 true (.faddr 1 8),gQ 53 49 true (.load (some 3) 52),gK 54 49 true (.call 154 [51,53]),gQ 55 49 true (.bin .eql 54 (cI 0)),gQ 56 43 true (.pick 49 55 (cB false)),gQ 57 43 true (.not 56),oQ 58 (.pick 43 57 (cB false)),oM 6 58] [6])
.ret))))
theorem fok142 : FOK Tryz.prog 142 (59,ic142,[(.t 6)]) := fokA [2000000] Tryz.func142
def ic143 : IC :=
(.seq
(.reg 0 [oM 4 (cB false)] [0,1])
(.seq
(.reg 1 [oM 5 0,oM 6 1,oK 7 (.call 150 [5,6]),oM 8 7,gQ 9 8 true (.mov 0),gQ 10 8 true (.mov 1),gK 11 8 true (.call 152 [9,(.c (zU 2)),10]),gQ 12 8 true (.mov 11),gQ 13 12 false (.mov 0),gQ 14 12 false (.mov 1),gK 15 12 false (.call 151 [13,(.c (zU 2)),14]),gQ 16 8 true (.pick 12 (cB true) 15),oQ 17 (.pick 8 16 (cB false)),oM 4 17] [4])
.ret))
theorem fok143 : FOK Tryz.prog 143 (18,ic143,[(.t 4)]) := fokA [2000000] Tryz.func143
def ic144 : IC :=
(.seq
(.reg 0 [oM 4 (cB false)] [0,1])
(.seq
(.reg 1 [oM 5 0,oM 6 1,oK 7 (.call 159 [5,6]),oM 8 7,gQ 9 8 true (.mov 0),gQ 10 8 true (.mov 1),gK 11 8 true (.call 151 [9,(.c (zU 1)),10]),oQ 12 (.pick 8 11 (cB false)),oM 4 12] [4])
.ret))
theorem fok144 : FOK Tryz.prog 144 (13,ic144,[(.t 4)]) := fokA [2000000] Tryz.func144
def ic145 : IC :=
(.seq
(.reg 0 [⟨(some 1),none,(.boxt (.t 0))⟩,⟨(some 2),none,(.q (.mov (.c (.int .i64 0))))⟩] [1,2])
(.seq
(.reg 1 [⟨(some 3),none,(.alloc [(.int .i64 0)])⟩,⟨none,none,(.store 1 (.t 3) (.c (.int .i64 0)))⟩] [1,2,3])
(.seq
(.seq
(.reg 2 [⟨(some 4),none,(.q (.load (some 7) (.t 1)))⟩,⟨(some 5),none,(.call 164 [(.t 4)])⟩] [2,3,5])
(.block 0
(.rfunc (.t 5) [6,7]
.skip
(.block 1
(.reg 3 [⟨(some 8),none,(.q (.load none (.t 3)))⟩,⟨(some 9),none,(.q (.bin .add (.t 8) (.c (.int .i64 1))))⟩,⟨none,none,(.store 1 (.t 3) (.t 9))⟩] [])))))
(.seq
(.reg 4 [⟨(some 10),none,(.q (.load none (.t 3)))⟩,⟨(some 2),none,(.q (.mov (.t 10)))⟩] [2])
.ret))))
theorem fok145 : FOK Tryz.prog 145 (11,ic145,[(.t 2)]) := .mk (pf := [1000001]) (an := [(0,[1,2]),(1,[1,2,3]),(2,[2,3,5]),(4,[2])]) (by kernel_rfl) (fnOK_of Tryz.func145 (by kernel_rfl) (by kernel_rfl) (by kernel_rfl))
def ic146 : IC :=
(.seq
(.reg 0 [oK 4 (.boxt 1),oM 6 (cI 0)] [0,2,4])
(.seq
(.reg 1 [oQ 8 (.bld [.nilfunc,.nilfunc,.nilfunc,.nilfunc,.nilfunc,.nilfunc,.nilfunc,.nilfunc] [⟨1,⟨1,(.f 223)⟩⟩,⟨2,⟨1,(.f 224)⟩⟩,⟨3,⟨1,(.f 225)⟩⟩,⟨4,⟨1,(.f 226)⟩⟩,⟨5,⟨1,(.f 227)⟩⟩,⟨6,⟨1,(.f 228)⟩⟩,⟨7,⟨1,(.f 228)⟩⟩]),oK 7 (.alloc [.nilfunc,.nilfunc,.nilfunc,.nilfunc,.nilfunc,.nilfunc,.nilfunc,.nilfunc]),oN (.store 8 7 8)] [0,2,4,7])
(.seq
(.dreg 2 [oQ 9 (.faddr 0 4),oQ 10 (.load none 9),oQ 11 (.aaddr 8 1 7 10),oQ 12 (.load none 11),oM 13 0,oQ 14 (.load (some 7) 4),oM 15 2,oK 16 (.callv 12 [13,14,15]),oM 6 16] false [6])
.ret)))
theorem fok146 : FOK Tryz.prog 146 (17,ic146,[(.t 6)]) := fokA [1000004,2000000] Tryz.func146
def ic147 : IC :=
(.seq
(.reg 0 [oM 6 (.c .nilslice)] [0,1,2])
(.seq
(.reg 1 [oM 7 (.c .nilslice)] [0,1,2,7])
(.seq
(.seq
(.reg 2 [oM 10 1,oQ 11 (.len 0 10),oM 12 (cI 0)] [0,2,7,10,11,12])
(.block 0
(.loop
(.seq
(.reg 3 [oQ 13 (.bin .lss 12 11)] [0,2,7,10,11,12,13])
(.seq
(.cond 13
.skip
(.exit 0))
(.seq
(.block 1
(.seq
(.reg 4 [oQ 14 (.iaddr 1 10 12),oQ 15 (.load none 14),oM 9 15] [0,2,7,9,10,11,12])
(.seq
(.reg 5 [oM 16 2,oM 17 0,oQ 18 (.nchk 17),oQ 19 (.faddr 0 18),oQ 20 (.load none 19),oM 21 9,oQ 22 (.iaddr 15 20 21),oQ 23 (.load (some 15) 22),oM 24 9,oK 25 (.callv 16 [23,24])] [0,2,7,9,10,11,12,25])
(.cond 25
(.reg 6 [oM 26 7,oM 27 9,oK 28 (.bslt 1 1 [(zI 0)] [⟨0,⟨1,27⟩⟩]),oK 29 (.app 1 26 28),oM 7 29] [0,2,7,10,11,12])
.skip))))
(.reg 7 [oQ 30 (.bin .add 12 (cI 1)),oM 12 30] [0,2,7,10,11,12])))))))
(.seq
(.reg 8 [oM 31 7,oM 6 31] [6])
.ret))))
theorem fok147 : FOK Tryz.prog 147 (32,ic147,[(.t 6)]) := fokA [1000028,2000000] Tryz.func147
def ic148 : IC :=
(.seq
(.reg 0 [oK 3 (.boxt 0),oM 5 (cB false)] [2,3])
(.seq
(.reg 1 [oQ 6 (.load (some 15) 3),oQ 7 (.load (some 5) 2),oK 8 (.call 149 [6,7]),oM 5 8] [5])
.ret))
theorem fok148 : FOK Tryz.prog 148 (9,ic148,[(.t 5)]) := fokA [1000003,2000000] Tryz.func148
def ic149 : IC :=
(.seq
(.reg 0 [oK 2 (.boxt 0),oK 3 (.boxt 1),oM 4 (cB false)] [2,3])
(.seq
(.oreg 1 [(0,oQ 5 (.load (some 15) 2),0),(2,oQ 7 (.load (some 5) 3),0),(1,oK 6 (.call 229 [5]),4),(3,oK 8 (.call 167 [6,7]),0),(4,oM 4 8,0)] [4])
.ret))
theorem fok149 : FOK Tryz.prog 149 (9,ic149,[(.t 4)]) := fokA [1000002,1000003,2000000] Tryz.func149
def ic150 : IC :=
(.seq
(.reg 0 [oM 4 (cB false)] [0,1])
(.seq
(.reg 1 [oM 5 0,oM 6 1,oK 7 (.call 220 [5,6]),oM 8 7,gQ 9 8 true (.mov 1),gQ 10 8 true (.mov 0),gQ 11 8 true (.nchk 10),gQ 12 8 true (.faddr 0 11),gQ 13 8 true (.load none 12),gK 14 8 true (.call 32 [13]),gQ 15 8 true (.bin .lss 9 14),oQ 16 (.pick 8 15 (cB false)),oM 4 16] [4])
.ret))
theorem fok150 : FOK Tryz.prog 150 (17,ic150,[(.t 4)]) := fokA [2000000] Tryz.func150
def ic151 : IC :=
(.seq
(.reg 0 [oM 6 (cB false)] [0,1,2])
(.seq
(.reg 1 [oM 7 0,oQ 8 (.nchk 7),oQ 9 (.faddr 2 8),oQ 10 (.faddr 3 9),oQ 11 (.load none 10),oM 12 1,oM 13 2,oQ 14 (.bld [(zU 0),(zI 0)] [⟨0,⟨1,12⟩⟩,⟨1,⟨1,13⟩⟩]),oK 15 (.call 230 [11,14]),oM 6 15] [6])
.ret))
theorem fok151 : FOK Tryz.prog 151 (16,ic151,[(.t 6)]) := fokA [2000000] Tryz.func151
def ic152 : IC :=
(.seq
(.reg 0 [oM 6 (cB false)] [0,1,2])
(.seq
(.seq
(.reg 1 [oM 9 0,oQ 10 (.nchk 9),oQ 11 (.faddr 2 10),oQ 12 (.faddr 2 11),oQ 13 (.load none 12),oQ 14 (.len 0 13),oM 15 (cI 0)] [0,1,2,13,14,15])
(.block 0
(.loop
(.seq
(.reg 2 [oQ 16 (.bin .lss 15 14)] [0,1,2,13,14,15,16])
(.seq
(.cond 16
.skip
(.exit 0))
(.seq
(.block 1
(.seq
(.reg 3 [oM 17 15,oQ 18 (.iaddr 6 13 15),oQ 19 (.load (some 6) 18),oK 8 (.alloc [(zU 0),(.str []),(zU 0),(zI 0),(.str []),(.str [])]),oM 7 17,oN (.store 6 8 19)] [0,1,2,7,8,13,14,15])
(.seq
(.oreg 4 [(0,oQ 20 (.faddr 0 8),0),(1,oQ 21 (.load none 20),0),(2,oM 22 1,0),(3,oQ 23 (.bin .eql 21 22),0),(4,oM 24 23,0),(5,gQ 25 24 true (.mov 0),0),(6,gQ 26 24 true (.mov 7),0),(7,gK 27 24 true (.call 144 [25,26]),0),(8,gQ 28 24 true (.not 27),0),(9,oQ 29 (.pick 24 28 (cB false)),0),(10,oM 30 29,0),(11,gQ 31 30 true (.mov 0),0),(12,gQ 32 30 true (.nchk 31),0),(13,gQ 33 30 true (.faddr 1 32),0),(14,gQ 34 30 true (.load none 33),0),(15,gQ 35 30 true (.faddr 1 8),0),(16,gQ 36 30 true (.load (some 5) 35),0),(18,gQ 38 30 true (.mov 2),0),(17,gK 37 30 true (.call 84 [34,36]),0),(19,gK 39 30 true (.call 75 [37,38]),0),(20,oQ 40 (.pick 30 39 (cB false)),0)] [0,1,2,13,14,15,40])
(.cond 40
(.seq
(.reg 5 [oM 6 (cB true)] [6])
.ret)
.skip))))
(.reg 6 [oQ 41 (.bin .add 15 (cI 1)),oM 15 41] [0,1,2,13,14,15])))))))
(.seq
(.reg 7 [oM 6 (cB false)] [6])
.ret)))
theorem fok152 : FOK Tryz.prog 152 (42,ic152,[(.t 6)]) := fokA [2000000] Tryz.func152
def ic153 : IC :=
(.seq
(.reg 0 [oK 5 (.boxt 0),oM 6 (cB false)] [1,2,3,4,5])
(.seq
(.reg 1 [oQ 7 (.faddr 0 5),oQ 8 (.load none 7),oQ 9 (.faddr 0 1),oQ 10 (.load none 9),oQ 11 (.bin .eql 8 10),oM 12 11,gQ 13 12 true (.load none 2),gQ 14 12 true (.mov 13),gQ 15 14 false (.faddr 1 5),gQ 16 14 false (.load (some 3) 15),gQ 17 14 false (.faddr 1 1),gQ 18 14 false (.load (some 3) 17),gK 19 14 false (.call 154 [16,18]),gQ 20 14 false (.bin .geq 19 (cI 0)),gQ 21 12 true (.pick 14 (cB true) 20),oQ 22 (.pick 12 21 (cB false)),oM 23 22,gQ 24 23 true (.load none 3),gQ 25 23 true (.mov 24),gQ 26 25 false (.faddr 4 5),gQ 27 25 false (.load none 26),gQ 28 25 false (.faddr 4 1),gQ 29 25 false (.load none 28),gK 30 25 false (.call 155 [27,29]),gQ 31 23 true (.pick 25 (cB true) 30),oQ 32 (.pick 23 31 (cB false)),oM 33 32,gQ 34 33 true (.load none 4),gQ 35 33 true (.nchk 34),gQ 36 33 true (.faddr 2 35),gQ 37 33 true (.faddr 1 36),gQ 38 33 true (.load none 37),gQ 39 33 true (.mov 38),gQ 40 39 false (.faddr 5 5),gQ 41 39 false (.load none 40),gQ 42 39 false (.faddr 5 1),gQ 43 39 false (.load none 42),gQ 44 39 false (.bin .eql 41 43),gQ 45 33 true (.pick 39 (cB true) 44),oQ 46 (.pick 33 45 (cB false)),oM 6 46] [6])
.ret))
theorem fok153 : FOK Tryz.prog 153 (47,ic153,[(.t 6)]) := fokA [1000005,2000000] Tryz.func153
def ic154 : IC :=
(.seq
(.reg 0 [oK 2 (.boxt 0),oK 3 (.boxt 1),oM 4 (cI 0)] [2,3])
(.seq
(.reg 1 [oQ 5 (.mkf 232 [] [2,3]),oQ 6 (.mkf 233 [] [2,3]),oQ 7 (.mkf 235 [] [2,3]),oK 8 (.bslt 1 3 [.nilfunc] [⟨0,⟨1,5⟩⟩,⟨1,⟨1,6⟩⟩,⟨2,⟨1,7⟩⟩]),oK 9 (.call 231 [8]),oM 4 9] [4])
.ret))
theorem fok154 : FOK Tryz.prog 154 (10,ic154,[(.t 4)]) := fokA [1000002,1000003,1000008,2000000] Tryz.func154
def ic155 : IC :=
(.seq
(.reg 0 [oM 4 (cB false)] [0,1])
(.seq
(.reg 1 [oM 5 0,oK 6 (.call 67 [5]),oM 7 6,gQ 8 7 true (.mov 1),gK 9 7 true (.call 67 [8]),oQ 10 (.pick 7 9 (cB false)),oM 11 10,gQ 12 11 true (.mov 0),gQ 13 11 true (.mov 1),gK 14 11 true (.call 222 [12,13]),gQ 15 11 true (.not 14),oQ 16 (.pick 11 15 (cB false)),oM 4 16] [4])
.ret))
theorem fok155 : FOK Tryz.prog 155 (17,ic155,[(.t 4)]) := fokA [2000000] Tryz.func155
def ic156 : IC :=
(.seq
(.reg 0 [oK 2 (.boxt 0),oK 3 (.boxt 1),oM 4 (.c .nilslice)] [2,3])
(.seq
(.seq
(.reg 1 [oQ 5 (.load none 2),oQ 6 (.load none 3),oK 7 (.call 236 [5,6]),oQ 8 (.not 7)] [2,3,8])
(.cond 8
(.seq
(.reg 2 [oM 4 (.c .nilslice)] [4])
.ret)
.skip))
(.seq
(.dreg 3 [oQ 9 (.load none 2),oQ 10 (.load none 2),oQ 11 (.nchk 10),oQ 12 (.faddr 3 11),oQ 13 (.load none 12),oQ 14 (.load none 2),oQ 15 (.nchk 14),oQ 16 (.faddr 0 15),oQ 17 (.load none 16),oQ 18 (.load none 3),oQ 19 (.iaddr 15 17 18),oQ 20 (.faddr 0 19),oQ 21 (.load none 20),oQ 22 (.lkp 2 .nilslice false 13 21),oQ 23 (.mkf 237 [] [3,2]),oK 24 (.call 147 [9,22,23]),oM 4 24] false [4])
.ret)))
theorem fok156 : FOK Tryz.prog 156 (25,ic156,[(.t 4)]) := fokA [1000002,1000003,2000000] Tryz.func156
def ic157 : IC :=
(.seq
(.reg 0 [oM 3 0,oQ 4 (.len 0 3),oM 2 4] [0,2])
(.reg 1 [oM 5 0,oM 6 2,oM 7 2,oQ 8 (.conv .u64 7),oK 9 (.call 240 [8]),oK 10 (.call 239 [5,(cI 0),6,9])] []))
theorem fok157 : FOK Tryz.prog 157 (11,ic157,[]) := fokA [2000000] Tryz.func157
def ic158 : IC :=
(.seq
(.reg 0 [oM 2 (.c .nilslice)] [0])
(.seq
(.seq
(.reg 1 [oM 6 0,oQ 7 (.len 0 6),oQ 8 (.bin .lss 7 (cI 2))] [0,8])
(.cond 8
(.seq
(.reg 2 [oM 9 0,oM 2 9] [2])
.ret)
.skip))
(.seq
(.seq
(.reg 3 [oM 3 (cI 1)] [0,3])
(.block 0
(.loop
(.seq
(.seq
(.reg 4 [oM 10 3,oM 11 0,oQ 12 (.len 0 11),oQ 13 (.bin .lss 10 12)] [0,3,13])
(.cond 13
.skip
(.exit 0)))
(.seq
(.block 1
(.seq
(.dreg 6 [oM 16 0,oM 17 3,oQ 18 (.iaddr 1 16 17),oQ 19 (.load none 18),oM 20 0,oM 21 3,oQ 22 (.bin .sub 21 (cI 1)),oQ 23 (.iaddr 1 20 22),oQ 24 (.load none 23),oQ 25 (.bin .eql 19 24)] false [0,3,25])
(.cond 25
(.seq
(.reg 7 [oM 26 0,oM 27 3,oQ 28 (.slc 1 26 (some 27) none),oM 4 28] [0,3,4])
(.seq
(.seq
(.reg 8 [oM 5 (cI 1)] [0,3,4,5])
(.block 2
(.loop
(.seq
(.seq
(.reg 9 [oM 29 5,oM 30 4,oQ 31 (.len 0 30),oQ 32 (.bin .lss 29 31)] [0,3,4,5,32])
(.cond 32
.skip
(.exit 2)))
(.seq
(.block 3
(.seq
(.dreg 11 [oM 35 4,oM 36 5,oQ 37 (.iaddr 1 35 36),oQ 38 (.load none 37),oM 39 4,oM 40 5,oQ 41 (.bin .sub 40 (cI 1)),oQ 42 (.iaddr 1 39 41),oQ 43 (.load none 42),oQ 44 (.bin .neq 38 43)] false [0,3,4,5,44])
(.cond 44
(.seq
(.reg 12 [oM 45 0,oM 46 3,oM 47 4,oM 48 5,oQ 49 (.iaddr 1 47 48),oQ 50 (.load none 49),oQ 51 (.iaddr 1 45 46),oN (.store 1 51 50)] [0,3,4,5])
(.reg 13 [oM 52 3,oQ 53 (.bin .add 52 (cI 1)),oM 3 53] [0,3,4,5]))
.skip)))
(.reg 10 [oM 33 5,oQ 34 (.bin .add 33 (cI 1)),oM 5 34] [0,3,4,5]))))))
(.seq
(.reg 14 [oM 54 0,oM 55 3,oQ 56 (.slc 1 54 (some 55) none),oN (.clr 1 [(zI 0)] 56)] [0,3])
(.seq
(.reg 15 [oM 57 0,oM 58 3,oQ 59 (.slc 1 57 none (some 58)),oM 2 59] [2])
.ret))))
.skip)))
(.reg 5 [oM 14 3,oQ 15 (.bin .add 14 (cI 1)),oM 3 15] [0,3]))))))
(.seq
(.reg 16 [oM 60 0,oM 2 60] [2])
.ret))))
theorem fok158 : FOK Tryz.prog 158 (61,ic158,[(.t 2)]) := fokA [2000000] Tryz.func158
def ic159 : IC :=
(.seq
(.reg 0 [oM 4 (cB false)] [0,1])
(.seq
(.reg 1 [oM 5 0,oQ 6 (.isnil (.pointer 101) true 5),oM 7 6,gQ 8 7 true (.mov 1),gQ 9 7 true (.bin .geq 8 (cI 0)),oQ 10 (.pick 7 9 (cB false)),oM 11 10,gQ 12 11 true (.mov 1),gQ 13 11 true (.mov 0),gQ 14 11 true (.nchk 13),gQ 15 11 true (.faddr 2 14),gQ 16 11 true (.faddr 2 15),gQ 17 11 true (.load none 16),gQ 18 11 true (.len 0 17),gQ 19 11 true (.bin .lss 12 18),oQ 20 (.pick 11 19 (cB false)),oM 4 20] [4])
.ret))
theorem fok159 : FOK Tryz.prog 159 (21,ic159,[(.t 4)]) := fokA [2000000] Tryz.func159
def ic160 : IC :=
(.seq
(.reg 0 [oK 3 (.boxt 1),oM 4 (.c .nilslice)] [0,3])
(.seq
(.seq
(.reg 1 [oM 5 0,oQ 6 (.isnil (.pointer 156) false 5)] [0,3,6])
(.cond 6
(.seq
(.reg 2 [oM 4 (.c .nilslice)] [4])
.ret)
.skip))
(.seq
(.dreg 3 [oM 7 0,oM 8 0,oQ 9 (.nchk 8),oQ 10 (.faddr 1 9),oQ 11 (.load none 10),oQ 12 (.faddr 0 3),oQ 13 (.load none 12),oQ 14 (.lkp 2 .nilslice false 11 13),oQ 15 (.mkf 241 [] [3]),oK 16 (.call 147 [7,14,15]),oM 4 16] false [4])
.ret)))
theorem fok160 : FOK Tryz.prog 160 (17,ic160,[(.t 4)]) := fokA [1000003,2000000] Tryz.func160
def ic161 : IC :=
(.seq
(.reg 0 [oM 4 (.c .nilslice)] [0,1])
(.seq
(.reg 1 [oM 8 0,oM 9 1,oK 10 (.call 209 [8,9]),oM 5 10] [0,1,5])
(.seq
(.seq
(.reg 2 [oM 11 5,oQ 12 (.bin .eql 11 (cI (-1)))] [0,1,5,12])
(.cond 12
(.seq
(.reg 3 [oM 13 0,oM 4 13] [4])
.ret)
.skip))
(.seq
(.seq
(.reg 4 [oM 14 5,oQ 15 (.bin .add 14 (cI 1)),oM 6 15] [0,1,5,6])
(.block 0
(.loop
(.seq
(.seq
(.reg 5 [oM 16 6,oM 17 0,oQ 18 (.len 0 17),oQ 19 (.bin .lss 16 18)] [0,1,5,6,19])
(.cond 19
.skip
(.exit 0)))
(.seq
(.block 1
(.seq
(.reg 7 [oM 22 0,oM 23 6,oQ 24 (.iaddr 1 22 23),oQ 25 (.load none 24),oM 7 25] [0,1,5,6,7])
(.seq
(.reg 8 [oM 26 1,oM 27 7,oK 28 (.callv 26 [27]),oQ 29 (.not 28)] [0,1,5,6,7,29])
(.cond 29
(.seq
(.reg 9 [oM 30 0,oM 31 5,oM 32 7,oQ 33 (.iaddr 1 30 31),oN (.store 1 33 32)] [0,1,5,6])
(.reg 10 [oM 34 5,oQ 35 (.bin .add 34 (cI 1)),oM 5 35] [0,1,5,6]))
.skip))))
(.reg 6 [oM 20 6,oQ 21 (.bin .add 20 (cI 1)),oM 6 21] [0,1,5,6]))))))
(.seq
(.reg 11 [oM 36 0,oM 37 5,oQ 38 (.slc 1 36 (some 37) none),oN (.clr 1 [(zI 0)] 38)] [0,5])
(.seq
(.reg 12 [oM 39 0,oM 40 5,oQ 41 (.slc 1 39 none (some 40)),oM 4 41] [4])
.ret))))))
theorem fok161 : FOK Tryz.prog 161 (42,ic161,[(.t 4)]) := fokA [2000000] Tryz.func161
def ic162 : IC :=
(.seq
(.reg 0 [oM 3 (cB false)] [0,1])
(.seq
(.reg 1 [oQ 4 (.load none 1),oM 5 0,oK 6 (.call 150 [4,5]),oQ 7 (.not 6),oM 3 7] [3])
.ret))
theorem fok162 : FOK Tryz.prog 162 (8,ic162,[(.t 3)]) := fokA [2000000] Tryz.func162
def ic164 : IC :=
(.seq
(.reg 0 [⟨(some 1),none,(.boxt (.t 0))⟩,⟨(some 2),none,(.q (.mov (.c .nilfunc)))⟩] [1])
(.seq
(.reg 1 [⟨(some 3),none,(.alloc [.nilfunc])⟩] [1,3])
(.seq
(.reg 2 [⟨(some 4),none,(.q (.mkf 242 [] [(.t 3)]))⟩,⟨none,none,(.store 1 (.t 3) (.t 4))⟩] [1,3])
(.seq
(.reg 3 [⟨(some 5),none,(.q (.mkf 243 [] [(.t 3),(.t 1)]))⟩,⟨(some 2),none,(.q (.mov (.t 5)))⟩] [2])
.ret))))
theorem fok164 : FOK Tryz.prog 164 (6,ic164,[(.t 2)]) := .mk (pf := [1000001]) (an := [(0,[1]),(1,[1,3]),(2,[1,3]),(3,[2])]) (by kernel_rfl) (fnOK_of Tryz.func164 (by kernel_rfl) (by kernel_rfl) (by kernel_rfl))
def ic165 : IC :=
(.seq
(.reg 0 [⟨(some 4),none,(.q (.mov (.c (.int .i64 0))))⟩] [0,1])
(.seq
(.seq
(.reg 1 [⟨(some 6),none,(.q (.mov (.t 0)))⟩,⟨(some 7),none,(.q (.len 0 (.t 6)))⟩,⟨(some 8),none,(.q (.mov (.c (.int .i64 0))))⟩] [0,1,7,8])
(.block 0
(.loop
(.seq
(.reg 2 [⟨(some 9),none,(.q (.bin .lss (.t 8) (.t 7)))⟩] [0,1,7,8,9])
(.seq
(.cond (.t 9)
.skip
(.exit 0))
(.seq
(.block 1
(.seq
(.reg 3 [⟨(some 10),none,(.q (.mov (.t 8)))⟩,⟨(some 5),none,(.q (.mov (.t 10)))⟩] [0,1,5,7,8])
(.seq
(.reg 4 [⟨(some 11),none,(.q (.mov (.t 1)))⟩,⟨(some 12),none,(.q (.mov (.t 0)))⟩,⟨(some 13),none,(.q (.mov (.t 5)))⟩,⟨(some 14),none,(.q (.iaddr 5 (.t 12) (.t 13)))⟩,⟨(some 15),none,(.q (.load (some 5) (.t 14)))⟩,⟨(some 16),none,(.callv (.t 11) [(.t 15)])⟩] [0,1,5,7,8,16])
(.cond (.t 16)
(.seq
(.reg 5 [⟨(some 17),none,(.q (.mov (.t 5)))⟩,⟨(some 4),none,(.q (.mov (.t 17)))⟩] [4])
.ret)
.skip))))
(.reg 6 [⟨(some 18),none,(.q (.bin .add (.t 8) (.c (.int .i64 1))))⟩,⟨(some 8),none,(.q (.mov (.t 18)))⟩] [0,1,7,8])))))))
(.seq
(.reg 7 [⟨(some 4),none,(.q (.mov (.c (.int .i64 (-1)))))⟩] [4])
.ret)))
theorem fok165 : FOK Tryz.prog 165 (19,ic165,[(.t 4)]) := .mk (pf := []) (an := [(0,[0,1]),(1,[0,1,7,8]),(2,[0,1,7,8,9]),(3,[0,1,5,7,8]),(4,[0,1,5,7,8,16]),(5,[4]),(6,[0,1,7,8]),(7,[4])]) (by kernel_rfl) (fnOK_of Tryz.func165 (by kernel_rfl) (by kernel_rfl) (by kernel_rfl))
def ic167 : IC :=
(.seq
(.reg 0 [oK 2 (.boxt 0),oK 3 (.boxt 1),oM 4 (cB false)] [2,3])
(.seq
(.reg 1 [oQ 5 (.faddr 0 2),oQ 6 (.load none 5),oQ 7 (.faddr 0 3),oQ 8 (.load none 7),oQ 9 (.bin .eql 6 8),oM 10 9,gQ 11 10 true (.load (some 5) 2),gQ 12 10 true (.load (some 5) 3),gK 13 10 true (.call 244 [11,12]),oQ 14 (.pick 10 13 (cB false)),oM 4 14] [4])
.ret))
theorem fok167 : FOK Tryz.prog 167 (15,ic167,[(.t 4)]) := fokA [1000002,1000003,2000000] Tryz.func167
def ic169 : IC :=
(.seq
(.reg 0 [⟨(some 4),none,(.q (.mov (.c (.int .i64 0))))⟩] [0,1])
(.seq
(.seq
(.reg 1 [⟨(some 6),none,(.q (.mov (.t 0)))⟩,⟨(some 7),none,(.q (.len 0 (.t 6)))⟩,⟨(some 8),none,(.q (.mov (.c (.int .i64 0))))⟩] [0,1,7,8])
(.block 0
(.loop
(.seq
(.reg 2 [⟨(some 9),none,(.q (.bin .lss (.t 8) (.t 7)))⟩] [0,1,7,8,9])
(.seq
(.cond (.t 9)
.skip
(.exit 0))
(.seq
(.block 1
(.seq
(.reg 3 [⟨(some 10),none,(.q (.mov (.t 8)))⟩,⟨(some 5),none,(.q (.mov (.t 10)))⟩] [0,1,5,7,8])
(.seq
(.reg 4 [⟨(some 11),none,(.q (.mov (.t 1)))⟩,⟨(some 12),none,(.q (.mov (.t 0)))⟩,⟨(some 13),none,(.q (.mov (.t 5)))⟩,⟨(some 14),none,(.q (.iaddr 7 (.t 12) (.t 13)))⟩,⟨(some 15),none,(.q (.load (some 7) (.t 14)))⟩,⟨(some 16),none,(.callv (.t 11) [(.t 15)])⟩] [0,1,5,7,8,16])
(.cond (.t 16)
(.seq
(.reg 5 [⟨(some 17),none,(.q (.mov (.t 5)))⟩,⟨(some 4),none,(.q (.mov (.t 17)))⟩] [4])
.ret)
.skip))))
(.reg 6 [⟨(some 18),none,(.q (.bin .add (.t 8) (.c (.int .i64 1))))⟩,⟨(some 8),none,(.q (.mov (.t 18)))⟩] [0,1,7,8])))))))
(.seq
(.reg 7 [⟨(some 4),none,(.q (.mov (.c (.int .i64 (-1)))))⟩] [4])
.ret)))
theorem fok169 : FOK Tryz.prog 169 (19,ic169,[(.t 4)]) := .mk (pf := []) (an := [(0,[0,1]),(1,[0,1,7,8]),(2,[0,1,7,8,9]),(3,[0,1,5,7,8]),(4,[0,1,5,7,8,16]),(5,[4]),(6,[0,1,7,8]),(7,[4])]) (by kernel_rfl) (fnOK_of Tryz.func169 (by kernel_rfl) (by kernel_rfl) (by kernel_rfl))
def ic170 : IC :=
(.seq
(.reg 0 [oK 1 (.boxt 0),oM 2 (cB false)] [1])
(.seq
(.reg 1 [oQ 7 (.load (some 7) 1),oK 8 (.call 246 [7]),oM 6 8,oQ 9 (.ext 0 6),oQ 10 (.ext 1 6),oQ 11 (.ext 2 6),oM 3 9,oM 4 10,oM 5 11] [3,4,5])
(.seq
(.reg 2 [oM 12 5,oM 13 12,gQ 14 13 true (.mov 3),gQ 15 13 true (.bin .leq 14 (cI 24)),oQ 16 (.pick 13 15 (cB false)),oM 17 16,gQ 18 17 true (.mov 4),gQ 19 17 true (.bin .leq 18 (cI 8)),oQ 20 (.pick 17 19 (cB false)),oM 2 20] [2])
.ret)))
theorem fok170 : FOK Tryz.prog 170 (21,ic170,[(.t 2)]) := fokA [1000001,2000000] Tryz.func170
def ic171 : IC :=
(.seq
(.reg 0 [oK 4 (.alloc [.nilptr,.nilslice])] [0,1,4])
(.seq
(.reg 1 [oM 8 0,oM 9 0,oQ 10 (.nchk 9),oQ 11 (.faddr 1 10),oQ 12 (.load none 11),oK 13 (.mksl 1 [(.bool false)] 12),oQ 14 (.bld [.nilptr,.nilslice] [⟨0,⟨1,8⟩⟩,⟨1,⟨1,13⟩⟩]),oK 5 (.alloc [.nilptr,.nilslice]),oN (.store 2 5 14)] [0,1,4,5])
(.seq
(.seq
(.reg 2 [oM 15 1,oQ 16 (.len 0 15),oM 17 (cI 0)] [0,4,5,15,16,17])
(.block 0
(.loop
(.seq
(.reg 3 [oQ 18 (.bin .lss 17 16)] [0,4,5,15,16,17,18])
(.seq
(.cond 18
.skip
(.exit 0))
(.seq
(.block 1
(.seq
(.reg 4 [oQ 19 (.iaddr 1 15 17),oQ 20 (.load none 19),oM 7 20] [0,4,5,7,15,16,17])
(.seq
(.reg 5 [oM 21 7,oQ 22 (.bin .geq 21 (cI 0)),oM 23 22,gQ 24 23 true (.mov 7),gQ 25 23 true (.mov 0),gQ 26 23 true (.nchk 25),gQ 27 23 true (.faddr 1 26),gQ 28 23 true (.load none 27),gQ 29 23 true (.bin .lss 24 28),oQ 30 (.pick 23 29 (cB false))] [0,4,5,7,15,16,17,30])
(.cond 30
(.reg 6 [oQ 31 (.faddr 1 5),oQ 32 (.load none 31),oM 33 7,oQ 34 (.iaddr 1 32 33),oN (.store 1 34 (cB true))] [0,4,5,15,16,17])
.skip))))
(.reg 7 [oQ 35 (.bin .add 17 (cI 1)),oM 17 35] [0,4,5,15,16,17])))))))
(.seq
(.reg 8 [oQ 36 (.load (some 2) 5),oN (.store 2 4 36)] [4])
.ret))))
theorem fok171 : FOK Tryz.prog 171 (37,ic171,[(.cell (some 2) 4)]) := fokA [2000000] Tryz.func171
def ic172 : IC :=
(.seq
(.reg 0 [oK 2 (.boxt 0),oK 3 (.boxt 1),oM 4 (cB false)] [2,3])
(.seq
(.reg 1 [oQ 6 (.bld [.nilfunc,.nilfunc,.nilfunc,.nilfunc,.nilfunc,.nilfunc,.nilfunc,.nilfunc] [⟨1,⟨1,(.f 247)⟩⟩,⟨2,⟨1,(.f 248)⟩⟩,⟨3,⟨1,(.f 249)⟩⟩,⟨4,⟨1,(.f 250)⟩⟩,⟨5,⟨1,(.f 251)⟩⟩,⟨6,⟨1,(.f 252)⟩⟩,⟨7,⟨1,(.f 253)⟩⟩]),oK 5 (.alloc [.nilfunc,.nilfunc,.nilfunc,.nilfunc,.nilfunc,.nilfunc,.nilfunc,.nilfunc]),oN (.store 8 5 6)] [2,3,5])
(.seq
(.dreg 2 [oQ 7 (.faddr 0 3),oQ 8 (.load none 7),oQ 9 (.aaddr 8 1 5 8),oQ 10 (.load none 9),oQ 11 (.load (some 2) 2),oQ 12 (.load (some 7) 3),oK 13 (.callv 10 [11,12]),oM 4 13] false [4])
.ret)))
theorem fok172 : FOK Tryz.prog 172 (14,ic172,[(.t 4)]) := fokA [1000002,1000003,2000000] Tryz.func172
def ic173 : IC :=
(.seq
(.reg 0 [oM 4 (cB false)] [0,1])
(.seq
(.reg 1 [oM 5 0,oM 6 1,oK 7 (.call 254 [5,6]),oQ 8 (.bin .geq 7 (cI 0)),oM 4 8] [4])
.ret))
theorem fok173 : FOK Tryz.prog 173 (9,ic173,[(.t 4)]) := fokA [2000000] Tryz.func173
def ic174 : IC :=
(.seq
(.reg 0 [⟨(some 2),none,(.q (.mov (.c .nilslice)))⟩] [0])
(.seq
(.seq
(.reg 1 [⟨(some 3),none,(.q (.mov (.t 0)))⟩,⟨(some 4),none,(.q (.isnil (.slice 3) false (.t 3)))⟩] [0,4])
(.cond (.t 4)
(.seq
(.reg 2 [⟨(some 2),none,(.q (.mov (.c .nilslice)))⟩] [2])
.ret)
.skip))
(.seq
(.reg 3 [⟨(some 5),none,(.bsl 1 0 [(.int .i64 0)] [])⟩,⟨(some 6),none,(.q (.mov (.t 0)))⟩,⟨(some 7),none,(.app 1 (.t 5) (.t 6))⟩,⟨(some 2),none,(.q (.mov (.t 7)))⟩] [2])
.ret)))
theorem fok174 : FOK Tryz.prog 174 (8,ic174,[(.t 2)]) := .mk (pf := []) (an := [(0,[0]),(1,[0,4]),(2,[2]),(3,[2])]) (by kernel_rfl) (fnOK_of Tryz.func174 (by kernel_rfl) (by kernel_rfl) (by kernel_rfl))
def ic175 : IC :=
(.seq
(.reg 0 [oM 3 (cB false)] [0,1])
(.seq
(.reg 1 [oQ 4 (.load none 1),oM 5 0,oK 6 (.call 176 [4,5]),oQ 7 (.not 6),oM 3 7] [3])
.ret))
theorem fok175 : FOK Tryz.prog 175 (8,ic175,[(.t 3)]) := fokA [2000000] Tryz.func175
def ic176 : IC :=
(.seq
(.reg 0 [oM 4 (cB false)] [0,1])
(.seq
(.reg 1 [oM 5 0,oQ 6 (.isnil (.pointer 179) true 5),oM 7 6,gQ 8 7 true (.mov 1),gQ 9 7 true (.bin .geq 8 (cI 0)),oQ 10 (.pick 7 9 (cB false)),oM 11 10,gQ 12 11 true (.mov 1),gQ 13 11 true (.mov 0),gQ 14 11 true (.nchk 13),gQ 15 11 true (.faddr 3 14),gQ 16 11 true (.load none 15),gQ 17 11 true (.len 0 16),gQ 18 11 true (.bin .lss 12 17),oQ 19 (.pick 11 18 (cB false)),oM 4 19] [4])
.ret))
theorem fok176 : FOK Tryz.prog 176 (20,ic176,[(.t 4)]) := fokA [2000000] Tryz.func176
def ic177 : IC :=
(.seq
(.reg 0 [oM 5 0,oQ 6 (.len 0 5),oM 4 6] [0,1,4])
(.reg 1 [oM 7 0,oM 8 4,oM 9 4,oQ 10 (.conv .u64 9),oK 11 (.call 240 [10]),oM 12 1,oK 13 (.call 255 [7,(cI 0),8,11,12])] []))
theorem fok177 : FOK Tryz.prog 177 (14,ic177,[]) := fokA [2000000] Tryz.func177
def ic178 : IC :=
(.seq
(.reg 0 [oK 3 (.boxt 0),oK 4 (.boxt 1),oK 5 (.boxt 2),oM 6 (cI 0)] [3,4,5])
(.seq
(.oreg 1 [(0,oQ 9 (.load none 3),0),(1,oQ 10 (.nchk 9),0),(2,oQ 11 (.faddr 3 10),0),(3,oQ 12 (.load none 11),0),(4,oQ 13 (.load none 4),0),(5,oQ 14 (.iaddr 15 12 13),0),(6,oQ 15 (.load (some 15) 14),0),(7,oQ 16 (.load none 3),0),(8,oQ 17 (.nchk 16),0),(9,oQ 18 (.faddr 3 17),0),(10,oQ 19 (.load none 18),0),(11,oQ 20 (.load none 5),0),(12,oQ 21 (.iaddr 15 19 20),0),(13,oQ 22 (.load (some 15) 21),0),(14,oK 7 (.alloc [(.str []),(zI 0),(.str []),(.str []),(zU 0),(.str []),.nilslice,.nilslice,.nilslice,.nilslice,.nilslice,.nilslice,.nilslice,.nilslice,.nilslice]),0),(15,oK 8 (.alloc [(.str []),(zI 0),(.str []),(.str []),(zU 0),(.str []),.nilslice,.nilslice,.nilslice,.nilslice,.nilslice,.nilslice,.nilslice,.nilslice,.nilslice]),0),(16,oN (.store 15 7 15),11392),(17,oN (.store 15 8 22),0)] [3,4,5,7,8])
(.seq
(.reg 2 [oQ 23 (.mkf 257 [] [3,4,5]),oQ 24 (.mkf 258 [] [3,7,8]),oQ 25 (.mkf 260 [] [3,5,4]),oQ 26 (.mkf 262 [] [3,4,5]),oQ 27 (.mkf 263 [] [8,7]),oQ 28 (.mkf 264 [] [4,5]),oK 29 (.bslt 1 6 [.nilfunc] [⟨0,⟨1,23⟩⟩,⟨1,⟨1,24⟩⟩,⟨2,⟨1,25⟩⟩,⟨3,⟨1,26⟩⟩,⟨4,⟨1,27⟩⟩,⟨5,⟨1,28⟩⟩]),oK 30 (.call 256 [29]),oM 6 30] [6])
.ret)))
theorem fok178 : FOK Tryz.prog 178 (31,ic178,[(.t 6)]) := fokA [1000003,1000004,1000005,1000029,2000000] Tryz.func178
def ic179 : IC :=
(.seq
(.reg 0 [oK 3 (.boxt 0),oK 5 (.boxt 2),oM 6 (.c .nilslice)] [1,3,5])
(.seq
(.seq
(.reg 1 [oQ 8 (.load none 3),oM 9 1,oK 10 (.call 176 [8,9]),oQ 11 (.not 10)] [1,3,5,11])
(.cond 11
(.seq
(.reg 2 [oM 6 (.c .nilslice)] [6])
.ret)
.skip))
(.seq
(.reg 3 [oQ 12 (.load none 3),oQ 13 (.nchk 12),oQ 14 (.faddr 0 13),oQ 15 (.load none 14),oM 16 1,oK 17 (.call 86 [15,16]),oM 7 17] [3,5,7])
(.seq
(.reg 4 [oM 18 7,oQ 19 (.mkf 265 [] [5,3]),oK 20 (.call 177 [18,19])] [7])
(.seq
(.reg 5 [oM 21 7,oM 6 21] [6])
.ret)))))
theorem fok179 : FOK Tryz.prog 179 (22,ic179,[(.t 6)]) := fokA [1000003,1000005,2000000] Tryz.func179
def ic180 : IC :=
(.seq
(.reg 0 [oK 2 (.boxt 0),oK 3 (.boxt 1),oM 4 (.c .nilfunc)] [2,3])
(.seq
(.reg 1 [oQ 5 (.mkf 266 [] [2,3]),oM 4 5] [4])
.ret))
theorem fok180 : FOK Tryz.prog 180 (6,ic180,[(.t 4)]) := fokA [1000002,1000003,2000000] Tryz.func180
def ic182 : IC :=
(.seq
(.reg 0 [oM 4 (cI 0)] [0,1])
(.seq
(.reg 1 [oM 7 0,oK 8 (.call 269 [7]),oM 5 8] [0,1,5])
(.seq
(.reg 2 [oM 9 1,oK 10 (.call 269 [9]),oM 6 10] [0,1,5,6])
(.seq
(.seq
(.reg 3 [oM 11 5] [0,1,6,11])
(.cond 11
(.seq
(.seq
(.reg 4 [oM 12 6] [12])
(.cond 12
(.seq
(.reg 5 [oM 4 (cI 0)] [4])
.ret)
.skip))
(.seq
(.reg 6 [oM 4 (cI (-1))] [4])
.ret))
.skip))
(.seq
(.seq
(.reg 7 [oM 13 6] [0,1,13])
(.cond 13
(.seq
(.reg 8 [oM 4 (cI 1)] [4])
.ret)
.skip))
(.seq
(.seq
(.reg 9 [oM 14 0,oM 15 1,oQ 16 (.bin .lss 14 15)] [0,1,16])
(.cond 16
(.seq
(.reg 10 [oM 4 (cI (-1))] [4])
.ret)
.skip))
(.seq
(.seq
(.reg 11 [oM 17 0,oM 18 1,oQ 19 (.bin .gtr 17 18)] [19])
(.cond 19
(.seq
(.reg 12 [oM 4 (cI 1)] [4])
.ret)
.skip))
(.seq
(.reg 13 [oM 4 (cI 0)] [4])
.ret))))))))
theorem fok182 : FOK Tryz.prog 182 (20,ic182,[(.t 4)]) := fokA [2000000] Tryz.func182
def ic183 : IC :=
(.seq
(.reg 0 [oM 2 (cI 0)] [0])
(.seq
(.seq
(.reg 1 [oM 3 0] [3])
(.cond 3
(.seq
(.reg 2 [oM 2 (cI 0)] [2])
.ret)
.skip))
(.seq
(.reg 3 [oM 2 (cI 1)] [2])
.ret)))
theorem fok183 : FOK Tryz.prog 183 (4,ic183,[(.t 2)]) := fokA [2000000] Tryz.func183
def ic185 : IC :=
(.seq
(.reg 0 [oM 5 (cI 0)] [0,1,2])
(.seq
(.oreg 1 [(0,oM 6 0,0),(1,oQ 7 (.load none 2),0),(2,oQ 8 (.bin .eql 6 7),0),(4,oM 10 1,0),(5,oQ 11 (.load none 2),0),(6,oQ 12 (.bin .eql 10 11),0),(3,oK 9 (.call 183 [8]),32),(7,oK 13 (.call 183 [12]),0),(8,oK 14 (.call 182 [9,13]),0),(9,oM 5 14,0)] [5])
.ret))
theorem fok185 : FOK Tryz.prog 185 (15,ic185,[(.t 5)]) := fokA [2000000] Tryz.func185
def ic186 : IC :=
(.seq
(.reg 0 [oK 3 (.boxt 1),oM 4 (cI 0),oM 5 (cI 0)] [0,3])
(.seq
(.seq
(.reg 1 [oM 6 0,oQ 7 (.isnil (.pointer 114) false 6)] [0,3,7])
(.cond 7
(.seq
(.reg 2 [oM 4 (cI 0),oM 5 (cI 2)] [4,5])
.ret)
.skip))
(.seq
(.dreg 3 [oM 8 0,oQ 9 (.nchk 8),oQ 10 (.faddr 2 9),oQ 11 (.load none 10),oQ 12 (.load (some 7) 3),oK 13 (.call 82 [11,12,(cI (-1))]),oQ 14 (.ext 0 13),oQ 15 (.ext 1 13),oM 4 14,oM 5 15] false [4,5])
.ret)))
theorem fok186 : FOK Tryz.prog 186 (16,ic186,[(.t 4),(.t 5)]) := fokA [1000003,2000000] Tryz.func186
def ic191 : IC :=
(.seq
(.reg 0 [oM 2 (.c .nilslice)] [0])
(.seq
(.seq
(.reg 1 [oM 6 0,oQ 7 (.isnil (.pointer 168) false 6)] [0,7])
(.cond 7
(.seq
(.reg 2 [oM 2 (.c .nilslice)] [2])
.ret)
.skip))
(.seq
(.reg 3 [oM 3 (.c .nilslice)] [0,3])
(.seq
(.seq
(.reg 4 [oM 8 0,oQ 9 (.nchk 8),oQ 10 (.faddr 3 9),oQ 11 (.load none 10),oQ 12 (.len 0 11),oM 13 (cI 0)] [3,11,12,13])
(.block 0
(.loop
(.seq
(.reg 5 [oQ 14 (.bin .lss 13 12)] [3,11,12,13,14])
(.seq
(.cond 14
.skip
(.exit 0))
(.seq
(.block 1
(.seq
(.reg 6 [oQ 15 (.iaddr 1 11 13),oQ 16 (.load none 15),oM 5 16] [3,5,11,12,13])
(.reg 7 [oM 17 3,oM 18 5,oK 19 (.call 174 [18]),oK 20 (.bslt 1 1 [.nilslice] [⟨0,⟨1,19⟩⟩]),oK 21 (.app 1 17 20),oM 3 21] [3,11,12,13])))
(.reg 8 [oQ 22 (.bin .add 13 (cI 1)),oM 13 22] [3,11,12,13])))))))
(.seq
(.reg 9 [oM 23 3,oM 2 23] [2])
.ret)))))
theorem fok191 : FOK Tryz.prog 191 (24,ic191,[(.t 2)]) := fokA [1000020,2000000] Tryz.func191
def ic192 : IC :=
(.seq
(.reg 0 [oM 2 (.c .nilptr),oM 3 (cI 0)] [0])
(.seq
(.seq
(.reg 1 [oM 4 0,oQ 5 (.bin .lss 4 (cI 0)),oM 6 5,gQ 7 6 false (.mov 0),gQ 8 6 false (.bin .gtr 7 (cI 2097152)),oQ 9 (.pick 6 (cB true) 8)] [0,9])
(.cond 9
(.seq
(.reg 2 [oM 2 (.c .nilptr),oM 3 (cI 1)] [2,3])
.ret)
.skip))
(.seq
(.reg 3 [oQ 10 (.bld [(zI 0),(zI 0),(zI 0)] [⟨0,⟨1,(cI 0)⟩⟩,⟨1,⟨1,(cI (-1))⟩⟩,⟨2,⟨1,(cI (-1))⟩⟩]),oK 11 (.bsl 3 1 [(zI 0),(zI 0),(zI 0)] [⟨0,⟨3,10⟩⟩]),oM 12 0,oK 13 (.call 272 [11,12]),oQ 14 (.bld [.nilslice,.nilslice,.nilslice] [⟨0,⟨1,13⟩⟩]),oK 15 (.box 14),oM 2 15,oM 3 (cI 0)] [2,3])
.ret)))
theorem fok192 : FOK Tryz.prog 192 (16,ic192,[(.t 2),(.t 3)]) := fokA [2000000] Tryz.func192
def ic193 : IC :=
(.seq
(.reg 0 [oK 2 (.boxt 0),oM 4 (cI 0),oM 5 (cI 0)] [1,2])
(.seq
(.seq
(.reg 1 [oQ 11 (.load none 2),oQ 12 (.isnil (.pointer 266) false 11)] [1,2,12])
(.cond 12
(.seq
(.reg 2 [oM 4 (cI 0),oM 5 (cI 2)] [4,5])
.ret)
.skip))
(.seq
(.reg 3 [oQ 13 (.mkf 273 [] [2]),oM 6 13] [1,2,6])
(.seq
(.seq
(.reg 4 [oM 14 1,oM 15 6,oK 16 (.call 123 [14,15])] [1,2,16])
(.cond 16
(.seq
(.reg 5 [oM 4 (cI 0),oM 5 (cI 1)] [4,5])
.ret)
.skip))
(.seq
(.reg 6 [oM 7 (.c .nilslice)] [1,2,7])
(.seq
(.seq
(.reg 7 [oM 17 1,oQ 18 (.len 0 17),oM 19 (cI 0)] [1,2,7,17,18,19])
(.block 0
(.loop
(.seq
(.reg 8 [oQ 20 (.bin .lss 19 18)] [1,2,7,17,18,19,20])
(.seq
(.cond 20
.skip
(.exit 0))
(.seq
(.block 1
(.seq
(.reg 9 [oQ 21 (.iaddr 1 17 19),oQ 22 (.load none 21),oM 9 22] [1,2,7,9,17,18,19])
(.seq
(.reg 10 [oM 23 7,oM 24 9,oK 25 (.call 75 [23,24]),oQ 26 (.not 25)] [1,2,7,9,17,18,19,26])
(.cond 26
(.reg 11 [oM 27 7,oM 28 9,oK 29 (.bslt 1 1 [(zI 0)] [⟨0,⟨1,28⟩⟩]),oK 30 (.app 1 27 29),oM 7 30] [1,2,7,17,18,19])
.skip))))
(.reg 12 [oQ 31 (.bin .add 19 (cI 1)),oM 19 31] [1,2,7,17,18,19])))))))
(.seq
(.reg 13 [oQ 32 (.load none 2),oQ 33 (.nchk 32),oQ 34 (.faddr 1 33),oQ 35 (.load none 34),oQ 36 (.len 0 35),oM 10 36] [1,2,7,10])
(.seq
(.oreg 14 [(0,oQ 37 (.load none 2),0),(1,oQ 38 (.load none 2),0),(2,oQ 39 (.nchk 38),0),(3,oQ 40 (.faddr 1 39),0),(4,oQ 41 (.load none 40),0),(5,oM 42 1,0),(6,oK 43 (.call 174 [42]),19),(7,oK 44 (.bslt 1 1 [.nilslice] [⟨0,⟨1,43⟩⟩]),0),(8,oK 45 (.app 1 41 44),1),(9,oQ 46 (.nchk 37),0),(10,oQ 47 (.faddr 1 46),0),(11,oN (.store 1 47 45),0)] [2,7,10])
(.seq
(.oreg 15 [(0,oQ 48 (.load none 2),0),(1,oQ 49 (.load none 2),0),(2,oQ 50 (.nchk 49),0),(3,oQ 51 (.faddr 2 50),0),(4,oQ 52 (.load none 51),0),(5,oM 53 7,0),(6,oK 54 (.bslt 1 1 [.nilslice] [⟨0,⟨1,53⟩⟩]),0),(7,oK 55 (.app 1 52 54),1),(8,oQ 56 (.nchk 48),0),(9,oQ 57 (.faddr 2 56),0),(10,oN (.store 1 57 55),0)] [2,10])
(.seq
(.reg 16 [oQ 58 (.load none 2),oM 59 10,oK 60 (.call 274 [58,59])] [2,10])
(.seq
(.oreg 17 [(0,oQ 61 (.load none 2),0),(1,oQ 62 (.load none 2),0),(2,oQ 63 (.nchk 62),0),(3,oQ 64 (.faddr 5 63),0),(4,oQ 65 (.load none 64),0),(5,oM 66 10,0),(6,oK 67 (.bslt 1 1 [(zI 0)] [⟨0,⟨1,66⟩⟩]),0),(7,oK 68 (.app 1 65 67),1),(8,oQ 69 (.nchk 61),0),(9,oQ 70 (.faddr 5 69),0),(10,oN (.store 1 70 68),0)] [10])
(.seq
(.reg 18 [oM 71 10,oM 4 71,oM 5 (cI 0)] [4,5])
.ret))))))))))))
theorem fok193 : FOK Tryz.prog 193 (72,ic193,[(.t 4),(.t 5)]) := fokA [1000002,1000029,1000044,1000054,1000067,2000000] Tryz.func193
def ic194 : IC :=
(.seq
(.reg 0 [oM 2 (cI 0)] [0])
(.seq
(.seq
(.reg 1 [oM 5 0,oQ 6 (.isnil (.pointer 266) false 5)] [0,6])
(.cond 6
(.seq
(.reg 2 [oM 2 (cI (-1))] [2])
.ret)
.skip))
(.seq
(.block 0
(.loop
(.seq
(.seq
(.reg 3 [oM 7 0,oQ 8 (.nchk 7),oQ 9 (.faddr 5 8),oQ 10 (.load none 9),oQ 11 (.len 0 10),oQ 12 (.bin .gtr 11 (cI 0))] [0,12])
(.cond 12
.skip
(.exit 0)))
(.block 1
(.seq
(.seq
(.reg 4 [oM 13 0,oQ 14 (.nchk 13),oQ 15 (.faddr 5 14),oQ 16 (.load none 15),oQ 17 (.iaddr 1 16 (cI 0)),oQ 18 (.load none 17),oM 3 18] [0,3])
(.seq
(.reg 5 [oM 19 0,oM 20 3,oK 21 (.call 275 [19,20])] [0,3,21])
(.cond 21
(.seq
(.reg 6 [oM 22 3,oM 2 22] [2])
.ret)
.skip)))
(.reg 7 [oM 23 0,oM 24 0,oQ 25 (.nchk 24),oQ 26 (.faddr 5 25),oQ 27 (.load none 26),oQ 28 (.slc 1 27 (some (cI 1)) none),oQ 29 (.nchk 23),oQ 30 (.faddr 5 29),oN (.store 1 30 28)] [0]))))))
(.seq
(.block 2
(.loop
(.seq
(.seq
(.oreg 8 [(0,oM 31 0,0),(1,oQ 32 (.nchk 31),0),(2,oQ 33 (.faddr 4 32),0),(3,oQ 34 (.load none 33),0),(4,oM 35 0,0),(5,oQ 36 (.nchk 35),0),(6,oQ 37 (.faddr 0 36),0),(7,oQ 38 (.faddr 0 37),0),(8,oQ 39 (.load none 38),0),(9,oK 40 (.call 197 [39]),8),(10,oQ 41 (.bin .lss 34 40),0)] [0,41])
(.cond 41
.skip
(.exit 2)))
(.block 3
(.seq
(.seq
(.oreg 9 [(0,oM 42 0,0),(1,oM 43 0,0),(2,oQ 44 (.nchk 43),0),(3,oQ 45 (.faddr 0 44),0),(4,oQ 46 (.faddr 0 45),0),(5,oQ 47 (.load none 46),0),(6,oM 48 0,0),(7,oQ 49 (.nchk 48),0),(8,oQ 50 (.faddr 4 49),0),(9,oQ 51 (.load none 50),0),(10,oK 52 (.call 199 [47,51]),0),(11,oQ 53 (.neg 52),0),(12,oK 54 (.call 276 [42,53]),0),(13,oM 4 54,0)] [0,4])
(.seq
(.reg 10 [oM 55 4,oQ 56 (.bin .geq 55 (cI 0))] [0,4,56])
(.cond 56
(.seq
(.reg 11 [oM 57 4,oM 2 57] [2])
.ret)
.skip)))
(.reg 12 [oM 58 0,oQ 59 (.nchk 58),oQ 60 (.faddr 4 59),oQ 61 (.load none 60),oQ 62 (.bin .add 61 (cI 1)),oQ 63 (.nchk 58),oQ 64 (.faddr 4 63),oN (.store 1 64 62)] [0]))))))
(.seq
(.reg 13 [oM 2 (cI (-1))] [2])
.ret)))))
theorem fok194 : FOK Tryz.prog 194 (65,ic194,[(.t 2)]) := fokA [2000000] Tryz.func194
def ic195 : IC :=
(.seq
(.reg 0 [oM 4 (cI 0)] [0,1])
(.seq
(.seq
(.reg 1 [oM 6 0,oQ 7 (.isnil (.pointer 310) false 6)] [0,1,7])
(.cond 7
(.seq
(.reg 2 [oM 4 (cI 2)] [4])
.ret)
.skip))
(.seq
(.seq
(.reg 3 [oM 8 0,oM 9 1,oK 10 (.call 277 [8,9]),oM 5 10] [0,1,5])
(.seq
(.reg 4 [oM 11 5,oQ 12 (.bin .neq 11 (cI 0))] [0,1,5,12])
(.cond 12
(.seq
(.reg 5 [oM 13 5,oM 4 13] [4])
.ret)
.skip)))
(.seq
(.oreg 6 [(0,oM 14 0,0),(1,oM 15 0,0),(2,oQ 16 (.nchk 15),0),(3,oQ 17 (.faddr 2 16),0),(4,oQ 18 (.load none 17),0),(5,oM 19 0,0),(6,oQ 20 (.nchk 19),0),(7,oQ 21 (.faddr 1 20),0),(8,oQ 22 (.load none 21),0),(9,oQ 23 (.len 0 22),0),(10,oK 24 (.bslt 1 1 [(zI 0)] [⟨0,⟨1,23⟩⟩]),0),(11,oK 25 (.app 1 18 24),0),(12,oQ 26 (.nchk 14),0),(13,oQ 27 (.faddr 2 26),0),(14,oN (.store 1 27 25),0)] [0,1])
(.seq
(.reg 7 [oM 28 0,oM 29 1,oK 30 (.call 278 [28,29,(cI (-1))])] [])
(.seq
(.reg 8 [oM 4 (cI 0)] [4])
.ret))))))
theorem fok195 : FOK Tryz.prog 195 (31,ic195,[(.t 4)]) := fokA [1000024,2000000] Tryz.func195
def ic196 : IC :=
(.seq
(.reg 0 [oM 2 (cI 0)] [0])
(.seq
(.seq
(.reg 1 [oM 3 0,oQ 4 (.isnil (.pointer 310) false 3)] [0,4])
(.cond 4
(.seq
(.reg 2 [oM 2 (cI 0)] [2])
.ret)
.skip))
(.seq
(.reg 3 [oM 5 0,oQ 6 (.nchk 5),oQ 7 (.faddr 0 6),oQ 8 (.load none 7),oQ 9 (.len 0 8),oM 2 9] [2])
.ret)))
theorem fok196 : FOK Tryz.prog 196 (10,ic196,[(.t 2)]) := fokA [2000000] Tryz.func196
def ic197 : IC :=
(.seq
(.reg 0 [oM 2 (cI 0)] [0])
(.seq
(.seq
(.reg 1 [oM 3 0,oQ 4 (.isnil (.pointer 310) false 3)] [0,4])
(.cond 4
(.seq
(.reg 2 [oM 2 (cI 0)] [2])
.ret)
.skip))
(.seq
(.reg 3 [oM 5 0,oQ 6 (.nchk 5),oQ 7 (.faddr 1 6),oQ 8 (.load none 7),oQ 9 (.len 0 8),oM 2 9] [2])
.ret)))
theorem fok197 : FOK Tryz.prog 197 (10,ic197,[(.t 2)]) := fokA [2000000] Tryz.func197
def ic198 : IC :=
(.seq
(.reg 0 [oM 2 (cI 0)] [0])
(.seq
(.seq
(.reg 1 [oM 3 0,oQ 4 (.bin .lss 3 (cI 0))] [0,4])
(.cond 4
(.seq
(.reg 2 [oM 5 0,oQ 6 (.neg 5),oQ 7 (.bin .sub 6 (cI 1)),oM 2 7] [2])
.ret)
.skip))
(.seq
(.reg 3 [oM 8 0,oQ 9 (.bin .sub 8 (cI 1)),oM 2 9] [2])
.ret)))
theorem fok198 : FOK Tryz.prog 198 (10,ic198,[(.t 2)]) := fokA [2000000] Tryz.func198
def ic199 : IC :=
(.seq
(.reg 0 [oM 4 (cI 0)] [0,1])
(.seq
(.seq
(.reg 1 [oM 5 1,oQ 6 (.bin .lss 5 (cI 0)),oM 7 6,gQ 8 7 false (.mov 1),gQ 9 7 false (.mov 0),gK 10 7 false (.call 197 [9]),gQ 11 7 false (.bin .geq 8 10),oQ 12 (.pick 7 (cB true) 11)] [0,1,12])
(.cond 12
(.seq
(.reg 2 [oM 4 (cI 0)] [4])
.ret)
.skip))
(.seq
(.reg 3 [oM 13 0,oQ 14 (.nchk 13),oQ 15 (.faddr 1 14),oQ 16 (.load none 15),oM 17 1,oQ 18 (.iaddr 1 16 17),oQ 19 (.load none 18),oM 4 19] [4])
.ret)))
theorem fok199 : FOK Tryz.prog 199 (20,ic199,[(.t 4)]) := fokA [2000000] Tryz.func199
def ic200 : IC :=
(.seq
(.reg 0 [oM 8 (cI 0)] [0,1,2,3])
(.seq
(.seq
(.reg 1 [oM 14 0,oM 15 1,oK 16 (.call 279 [14,15]),oQ 17 (.not 16)] [0,1,2,3,17])
(.cond 17
(.seq
(.reg 2 [oM 8 (cI 1)] [8])
.ret)
.skip))
(.seq
(.seq
(.reg 3 [oM 18 2,oQ 19 (.bin .neq 18 (cI 0)),oM 20 19,gQ 21 20 true (.mov 1),gQ 22 20 true (.mov 2),gK 23 20 true (.call 75 [21,22]),gQ 24 20 true (.not 23),oQ 25 (.pick 20 24 (cB false))] [0,1,2,3,25])
(.cond 25
(.seq
(.reg 4 [oM 8 (cI 7)] [8])
.ret)
.skip))
(.seq
(.seq
(.reg 5 [oM 26 1,oQ 27 (.len 0 26),oM 28 (cI 0)] [0,1,2,3,26,27,28])
(.block 0
(.loop
(.seq
(.reg 6 [oQ 29 (.bin .lss 28 27)] [0,1,2,3,26,27,28,29])
(.seq
(.cond 29
.skip
(.exit 0))
(.seq
(.block 1
(.seq
(.reg 7 [oQ 30 (.iaddr 1 26 28),oQ 31 (.load none 30),oM 10 31] [0,1,2,3,10,26,27,28])
(.seq
(.seq
(.reg 8 [oM 32 10,oM 33 2,oQ 34 (.bin .eql 32 33)] [0,1,2,3,10,26,27,28,34])
(.cond 34
(.exit 1)
.skip))
(.seq
(.oreg 9 [(0,oM 35 0,0),(1,oQ 36 (.nchk 35),0),(2,oQ 37 (.faddr 2 36),0),(3,oQ 38 (.load none 37),0),(4,oM 39 10,0),(5,oK 40 (.call 198 [39]),8),(6,oQ 41 (.iaddr 1 38 40),0),(7,oQ 42 (.load none 41),0),(8,oM 11 42,0)] [0,1,2,3,10,11,26,27,28])
(.seq
(.reg 10 [oM 43 0,oQ 44 (.nchk 43),oQ 45 (.faddr 0 44),oQ 46 (.load none 45),oM 47 10,oK 48 (.call 207 [46,47]),oQ 49 (.bin .neq 48 (cI (-1))),oM 50 49,gQ 51 50 false (.mov 11),gQ 52 50 false (.mov 3),gQ 53 50 false (.bin .geq 51 52),oQ 54 (.pick 50 (cB true) 53)] [0,1,2,3,26,27,28,54])
(.cond 54
(.seq
(.reg 11 [oM 8 (cI 7)] [8])
.ret)
.skip))))))
(.reg 12 [oQ 55 (.bin .add 28 (cI 1)),oM 28 55] [0,1,2,3,26,27,28])))))))
(.seq
(.seq
(.reg 13 [oM 56 1,oQ 57 (.len 0 56),oM 58 (cI 0)] [0,2,56,57,58])
(.block 2
(.loop
(.seq
(.reg 14 [oQ 59 (.bin .lss 58 57)] [0,2,56,57,58,59])
(.seq
(.cond 59
.skip
(.exit 2))
(.seq
(.block 3
(.seq
(.reg 15 [oQ 60 (.iaddr 1 56 58),oQ 61 (.load none 60),oM 13 61] [0,2,13,56,57,58])
(.seq
(.reg 16 [oM 62 13,oM 63 2,oQ 64 (.bin .neq 62 63)] [0,2,13,56,57,58,64])
(.cond 64
(.oreg 17 [(0,oM 65 0,0),(1,oQ 66 (.nchk 65),0),(2,oQ 67 (.faddr 3 66),0),(3,oQ 68 (.load none 67),0),(4,oM 69 0,0),(5,oQ 70 (.nchk 69),0),(6,oQ 71 (.faddr 2 70),0),(7,oQ 72 (.load none 71),0),(8,oM 73 13,0),(12,oM 77 13,0),(9,oK 74 (.call 198 [73]),136),(10,oQ 75 (.iaddr 1 72 74),0),(11,oQ 76 (.load none 75),0),(13,oN (.mupd 1 68 76 77),0)] [0,2,56,57,58])
.skip))))
(.reg 18 [oQ 78 (.bin .add 58 (cI 1)),oM 58 78] [0,2,56,57,58])))))))
(.seq
(.reg 19 [oM 8 (cI 0)] [8])
.ret))))))
theorem fok200 : FOK Tryz.prog 200 (79,ic200,[(.t 8)]) := fokA [2000000] Tryz.func200
def ic201 : IC :=
(.seq
(.reg 0 [oM 2 (cI 0),oM 3 (cI 0)] [0,3])
(.seq
(.reg 1 [oM 2 (cI (-1))] [0,2,3])
(.seq
(.seq
(.reg 2 [oM 6 0,oQ 7 (.nchk 6),oQ 8 (.faddr 3 7),oQ 9 (.load none 8),oK 10 (.mrange 9)] [0,2,3,10])
(.block 0
(.loop
(.seq
(.reg 3 [oK 11 (.mnext 10),oQ 12 (.ext 0 11)] [0,2,3,10,12])
(.seq
(.cond 12
.skip
(.exit 0))
(.block 1
(.seq
(.reg 4 [oK 13 (.ment 10),oQ 14 (.ext 0 13),oQ 15 (.ext 1 13),oM 4 14,oM 5 15] [0,2,3,4,5,10])
(.seq
(.reg 5 [oM 16 2,oM 17 4,oQ 18 (.mm true 16 17),oM 2 18] [0,2,3,5,10])
(.seq
(.oreg 6 [(0,oM 19 0,0),(1,oQ 20 (.nchk 19),0),(2,oQ 21 (.faddr 0 20),0),(3,oQ 22 (.load none 21),0),(4,oM 23 5,0),(7,oM 26 0,0),(8,oQ 27 (.nchk 26),0),(9,oQ 28 (.faddr 0 27),0),(10,oQ 29 (.load none 28),0),(5,oK 24 (.call 198 [23]),1032),(6,oK 25 (.call 204 [22,24]),1024),(11,oK 30 (.call 202 [29]),0),(12,oQ 31 (.bin .eql 25 30),0)] [0,2,3,10,31])
(.cond 31
(.reg 7 [oM 32 3,oQ 33 (.bin .add 32 (cI 1)),oM 3 33] [0,2,3,10])
.skip))))))))))
(.seq
(.reg 8 [oM 34 2,oM 35 3,oM 2 34,oM 3 35] [2,3])
.ret))))
theorem fok201 : FOK Tryz.prog 201 (36,ic201,[(.t 2),(.t 3)]) := fokA [2000000] Tryz.func201
def ic202 : IC :=
(.seq
(.reg 0 [oM 2 (cI 0)] [0])
(.seq
(.seq
(.reg 1 [oM 3 0,oQ 4 (.isnil (.pointer 310) false 3)] [0,4])
(.cond 4
(.seq
(.reg 2 [oM 2 (cI 0)] [2])
.ret)
.skip))
(.seq
(.reg 3 [oM 5 0,oQ 6 (.nchk 5),oQ 7 (.faddr 2 6),oQ 8 (.load none 7),oQ 9 (.len 0 8),oM 2 9] [2])
.ret)))
theorem fok202 : FOK Tryz.prog 202 (10,ic202,[(.t 2)]) := fokA [2000000] Tryz.func202
def ic203 : IC :=
(.seq
(.reg 0 [oM 4 (cI 0)] [0,1])
(.seq
(.reg 1 [oM 5 0,oM 6 1,oK 7 (.call 280 [5,6]),oQ 8 (.fld none 2 7),oM 4 8] [4])
.ret))
theorem fok203 : FOK Tryz.prog 203 (9,ic203,[(.t 4)]) := fokA [2000000] Tryz.func203
def ic204 : IC :=
(.seq
(.reg 0 [oM 4 (cI 0)] [0,1])
(.seq
(.reg 1 [oM 5 0,oM 6 1,oK 7 (.call 280 [5,6]),oQ 8 (.fld none 1 7),oM 4 8] [4])
.ret))
theorem fok204 : FOK Tryz.prog 204 (9,ic204,[(.t 4)]) := fokA [2000000] Tryz.func204
def ic205 : IC :=
(.seq
(.reg 0 [oM 2 (.c .nilptr)] [0])
(.seq
(.seq
(.reg 1 [oM 3 0,oQ 4 (.isnil (.pointer 310) false 3)] [0,4])
(.cond 4
(.seq
(.reg 2 [oM 2 (.c .nilptr)] [2])
.ret)
.skip))
(.seq
(.oreg 3 [(0,oM 5 0,0),(1,oQ 6 (.nchk 5),0),(2,oQ 7 (.faddr 0 6),0),(3,oQ 8 (.load none 7),0),(5,oM 10 0,0),(6,oQ 11 (.nchk 10),0),(7,oQ 12 (.faddr 1 11),0),(8,oQ 13 (.load none 12),0),(10,oM 15 0,0),(11,oQ 16 (.nchk 15),0),(12,oQ 17 (.faddr 2 16),0),(13,oQ 18 (.load none 17),0),(4,oK 9 (.call 281 [8]),8448),(9,oK 14 (.call 174 [13]),8192),(14,oK 19 (.call 174 [18]),0),(15,oQ 20 (.bld [.nilslice,.nilslice,.nilslice] [⟨0,⟨1,9⟩⟩,⟨1,⟨1,14⟩⟩,⟨2,⟨1,19⟩⟩]),0),(16,oK 21 (.boxt 20),0),(17,oM 2 21,0)] [2])
.ret)))
theorem fok205 : FOK Tryz.prog 205 (22,ic205,[(.t 2)]) := fokA [1000021,2000000] Tryz.func205
def ic207 : IC :=
(.seq
(.reg 0 [oM 4 (cI 0)] [0,1])
(.seq
(.seq
(.reg 1 [oM 6 0,oQ 7 (.isnil (.pointer 310) false 6)] [0,1,7])
(.cond 7
(.seq
(.reg 2 [oM 4 (cI 0)] [4])
.ret)
.skip))
(.seq
(.reg 3 [oM 8 0,oM 9 1,oK 10 (.call 282 [8,9]),oM 5 10] [0,1,5])
(.seq
(.block 0
(.seq
(.reg 4 [oM 12 5,oQ 13 (.bin .lss 12 (cI 0)),oM 11 13] [0,1,5,11])
(.cond 11
(.seq
(.reg 5 [oM 4 (cI 0)] [4])
.ret)
(.seq
(.reg 6 [oM 15 1,oQ 16 (.bin .lss 15 (cI 0)),oM 14 16] [0,5,14])
(.cond 14
(.seq
(.reg 7 [oM 17 0,oQ 18 (.nchk 17),oQ 19 (.faddr 0 18),oQ 20 (.load none 19),oM 21 5,oQ 22 (.iaddr 3 20 21),oQ 23 (.faddr 0 22),oQ 24 (.load none 23),oQ 25 (.neg 24),oM 4 25] [4])
.ret)
.skip)))))
(.seq
(.reg 8 [oM 26 0,oQ 27 (.nchk 26),oQ 28 (.faddr 0 27),oQ 29 (.load none 28),oM 30 5,oQ 31 (.iaddr 3 29 30),oQ 32 (.faddr 0 31),oQ 33 (.load none 32),oM 4 33] [4])
.ret)))))
theorem fok207 : FOK Tryz.prog 207 (34,ic207,[(.t 4)]) := fokA [2000000] Tryz.func207
def ic208 : IC :=
(.seq
(.reg 0 [oM 4 (cI 0)] [0,1])
(.seq
(.seq
(.reg 1 [oM 6 0,oQ 7 (.len 0 6),oM 8 (cI 0)] [0,1,7,8])
(.block 0
(.loop
(.seq
(.reg 2 [oQ 9 (.bin .lss 8 7)] [0,1,7,8,9])
(.seq
(.cond 9
.skip
(.exit 0))
(.seq
(.block 1
(.seq
(.reg 3 [oM 10 8,oM 5 10] [0,1,5,7,8])
(.seq
(.reg 4 [oM 11 1,oM 12 0,oM 13 5,oQ 14 (.iaddr 1 12 13),oQ 15 (.load none 14),oK 16 (.callv 11 [15])] [0,1,5,7,8,16])
(.cond 16
(.seq
(.reg 5 [oM 17 5,oM 4 17] [4])
.ret)
.skip))))
(.reg 6 [oQ 18 (.bin .add 8 (cI 1)),oM 8 18] [0,1,7,8])))))))
(.seq
(.reg 7 [oM 4 (cI (-1))] [4])
.ret)))
theorem fok208 : FOK Tryz.prog 208 (19,ic208,[(.t 4)]) := fokA [2000000] Tryz.func208
def ic209 : IC :=
(.seq
(.reg 0 [oM 4 (cI 0)] [0,1])
(.seq
(.seq
(.reg 1 [oM 6 0,oQ 7 (.len 0 6),oM 8 (cI 0)] [0,1,7,8])
(.block 0
(.loop
(.seq
(.reg 2 [oQ 9 (.bin .lss 8 7)] [0,1,7,8,9])
(.seq
(.cond 9
.skip
(.exit 0))
(.seq
(.block 1
(.seq
(.reg 3 [oM 10 8,oM 5 10] [0,1,5,7,8])
(.seq
(.reg 4 [oM 11 1,oM 12 0,oM 13 5,oQ 14 (.iaddr 1 12 13),oQ 15 (.load none 14),oK 16 (.callv 11 [15])] [0,1,5,7,8,16])
(.cond 16
(.seq
(.reg 5 [oM 17 5,oM 4 17] [4])
.ret)
.skip))))
(.reg 6 [oQ 18 (.bin .add 8 (cI 1)),oM 8 18] [0,1,7,8])))))))
(.seq
(.reg 7 [oM 4 (cI (-1))] [4])
.ret)))
theorem fok209 : FOK Tryz.prog 209 (19,ic209,[(.t 4)]) := fokA [2000000] Tryz.func209
def ic210 : IC :=
(.seq
(.reg 0 [⟨(some 0),none,(.alloc [(.str []),(.str []),(.str []),(.str []),(.str [])])⟩] [0])
(.seq
(.reg 1 [⟨(some 1),none,(.q (.bld [(.str []),(.str []),(.str []),(.str []),(.str [])] [⟨1,⟨1,(.c (.str [110,111,97,114,99,104]))⟩⟩,⟨2,⟨1,(.c (.str [120,56,54,95,54,52]))⟩⟩,⟨3,⟨1,(.c (.str [105,54,56,54]))⟩⟩,⟨4,⟨1,(.c (.str [97,97,114,99,104,54,52]))⟩⟩]))⟩,⟨none,none,(.store 5 (.t 0) (.t 1))⟩] [0])
.ret))
theorem fok210 : FOK Tryz.prog 210 (2,ic210,[(.cell (some 5) 0)]) := .mk (pf := []) (an := [(0,[0]),(1,[0])]) (by kernel_rfl) (fnOK_of Tryz.func210 (by kernel_rfl) (by kernel_rfl) (by kernel_rfl))
def ic212 : IC :=
(.seq
(.reg 0 [⟨(some 4),none,(.q (.mov (.c (.bool false))))⟩] [0,1])
(.seq
(.reg 1 [⟨(some 5),none,(.q (.mov (.t 0)))⟩,⟨(some 6),none,(.q (.mov (.t 1)))⟩,⟨(some 7),none,(.call 283 [(.t 5),(.t 6)])⟩,⟨(some 8),none,(.q (.bin .geq (.t 7) (.c (.int .i64 0))))⟩,⟨(some 4),none,(.q (.mov (.t 8)))⟩] [4])
.ret))
theorem fok212 : FOK Tryz.prog 212 (9,ic212,[(.t 4)]) := .mk (pf := []) (an := [(0,[0,1]),(1,[4])]) (by kernel_rfl) (fnOK_of Tryz.func212 (by kernel_rfl) (by kernel_rfl) (by kernel_rfl))
def ic214 : IC :=
(.reg 0 [⟨(some 3),none,(.q (.mov (.t 0)))⟩,⟨(some 4),none,(.q (.faddr 7 (.t 1)))⟩,⟨(some 5),none,(.q (.load none (.t 4)))⟩,⟨(some 6),none,(.callv (.t 3) [(.c (.int .u8 1)),(.t 5)])⟩,⟨(some 7),none,(.q (.mov (.t 6)))⟩,⟨(some 8),(some ⟨7,true⟩),(.q (.mov (.t 0)))⟩,⟨(some 9),(some ⟨7,true⟩),(.q (.faddr 8 (.t 1)))⟩,⟨(some 10),(some ⟨7,true⟩),(.q (.load none (.t 9)))⟩,⟨(some 11),(some ⟨7,true⟩),(.callv (.t 8) [(.c (.int .u8 2)),(.t 10)])⟩,⟨(some 12),none,(.q (.pick (.t 7) (.t 11) (.c (.bool false))))⟩,⟨(some 13),none,(.q (.mov (.t 12)))⟩,⟨(some 14),(some ⟨13,true⟩),(.q (.mov (.t 0)))⟩,⟨(some 15),(some ⟨13,true⟩),(.q (.faddr 10 (.t 1)))⟩,⟨(some 16),(some ⟨13,true⟩),(.q (.load none (.t 15)))⟩,⟨(some 17),(some ⟨13,true⟩),(.callv (.t 14) [(.c (.int .u8 1)),(.t 16)])⟩,⟨(some 18),none,(.q (.pick (.t 13) (.t 17) (.c (.bool false))))⟩,⟨(some 19),none,(.q (.mov (.t 18)))⟩,⟨(some 20),(some ⟨19,true⟩),(.q (.mov (.t 0)))⟩,⟨(some 21),(some ⟨19,true⟩),(.q (.faddr 11 (.t 1)))⟩,⟨(some 22),(some ⟨19,true⟩),(.q (.load none (.t 21)))⟩,⟨(some 23),(some ⟨19,true⟩),(.callv (.t 20) [(.c (.int .u8 3)),(.t 22)])⟩,⟨(some 24),none,(.q (.pick (.t 19) (.t 23) (.c (.bool false))))⟩,⟨(some 25),none,(.q (.mov (.t 24)))⟩,⟨(some 26),(some ⟨25,true⟩),(.q (.mov (.t 0)))⟩,⟨(some 27),(some ⟨25,true⟩),(.q (.faddr 12 (.t 1)))⟩,⟨(some 28),(some ⟨25,true⟩),(.q (.load none (.t 27)))⟩,⟨(some 29),(some ⟨25,true⟩),(.callv (.t 26) [(.c (.int .u8 1)),(.t 28)])⟩,⟨(some 30),none,(.q (.pick (.t 25) (.t 29) (.c (.bool false))))⟩,⟨(some 31),none,(.q (.mov (.t 30)))⟩,⟨(some 32),(some ⟨31,true⟩),(.q (.mov (.t 0)))⟩,⟨(some 33),(some ⟨31,true⟩),(.q (.faddr 13 (.t 1)))⟩,⟨(some 34),(some ⟨31,true⟩),(.q (.load none (.t 33)))⟩,⟨(some 35),(some ⟨31,true⟩),(.callv (.t 32) [(.c (.int .u8 3)),(.t 34)])⟩,⟨(some 36),none,(.q (.pick (.t 31) (.t 35) (.c (.bool false))))⟩] [])
theorem fok214 : FOK Tryz.prog 214 (37,ic214,[]) := .mk (pf := []) (an := []) (by kernel_rfl) (fnOK_of Tryz.func214 (by kernel_rfl) (by kernel_rfl) (by kernel_rfl))
def ic215 : IC :=
(.seq
(.reg 0 [⟨(some 2),none,(.boxt (.t 0))⟩,⟨(some 3),none,(.q (.mov (.c (.bool false))))⟩] [1,2])
(.seq
(.reg 1 [⟨(some 4),none,(.q (.load none (.t 1)))⟩,⟨(some 5),none,(.q (.load (some 7) (.t 2)))⟩,⟨(some 6),none,(.callv (.t 4) [(.t 5)])⟩,⟨(some 7),none,(.q (.not (.t 6)))⟩,⟨(some 3),none,(.q (.mov (.t 7)))⟩] [3])
.ret))
theorem fok215 : FOK Tryz.prog 215 (8,ic215,[(.t 3)]) := .mk (pf := [1000002]) (an := [(0,[1,2]),(1,[3])]) (by kernel_rfl) (fnOK_of Tryz.func215 (by kernel_rfl) (by kernel_rfl) (by kernel_rfl))
def ic216 : IC :=
(.seq
(.reg 0 [⟨(some 1),none,(.boxt (.t 0))⟩,⟨(some 2),none,(.q (.mov (.c (.int .i64 0))))⟩] [1])
(.seq
(.seq
(.reg 1 [⟨(some 6),none,(.q (.faddr 0 (.t 1)))⟩,⟨(some 7),none,(.q (.load none (.t 6)))⟩,⟨(some 8),none,(.q (.bin .eql (.t 7) (.c (.int .u8 1))))⟩] [1,8])
(.cond (.t 8)
(.seq
(.reg 2 [⟨(some 2),none,(.q (.mov (.c (.int .i64 0))))⟩] [2])
.ret)
.skip))
(.seq
(.reg 3 [⟨(some 3),none,(.q (.mov (.c (.int .i64 0))))⟩] [1,3])
(.seq
(.seq
(.reg 4 [⟨(some 9),none,(.q (.faddr 6 (.t 1)))⟩,⟨(some 10),none,(.q (.load none (.t 9)))⟩,⟨(some 11),none,(.q (.len 0 (.t 10)))⟩,⟨(some 12),none,(.q (.mov (.c (.int .i64 0))))⟩] [3,10,11,12])
(.block 0
(.loop
(.seq
(.reg 5 [⟨(some 13),none,(.q (.bin .lss (.t 12) (.t 11)))⟩] [3,10,11,12,13])
(.seq
(.cond (.t 13)
.skip
(.exit 0))
(.seq
(.block 1
(.seq
(.reg 6 [⟨(some 14),none,(.q (.iaddr 7 (.t 10) (.t 12)))⟩,⟨(some 15),none,(.q (.load (some 7) (.t 14)))⟩,⟨(some 5),none,(.alloc [(.int .u8 0),(.str []),(.int .u8 0),(.int .i64 0),(.str []),(.str []),.nilslice])⟩,⟨none,none,(.store 7 (.t 5) (.t 15))⟩] [3,5,10,11,12])
(.reg 7 [⟨(some 16),none,(.q (.mov (.t 3)))⟩,⟨(some 17),none,(.q (.load (some 7) (.t 5)))⟩,⟨(some 18),none,(.call 216 [(.t 17)])⟩,⟨(some 19),none,(.q (.mm true (.t 16) (.t 18)))⟩,⟨(some 3),none,(.q (.mov (.t 19)))⟩] [3,10,11,12])))
(.reg 8 [⟨(some 20),none,(.q (.bin .add (.t 12) (.c (.int .i64 1))))⟩,⟨(some 12),none,(.q (.mov (.t 20)))⟩] [3,10,11,12])))))))
(.seq
(.reg 9 [⟨(some 21),none,(.q (.mov (.t 3)))⟩,⟨(some 22),none,(.q (.bin .add (.t 21) (.c (.int .i64 1))))⟩,⟨(some 2),none,(.q (.mov (.t 22)))⟩] [2])
.ret)))))
theorem fok216 : FOK Tryz.prog 216 (23,ic216,[(.t 2)]) := .mk (pf := [1000001]) (an := [(0,[1]),(1,[1,8]),(2,[2]),(3,[1,3]),(4,[3,10,11,12]),(5,[3,10,11,12,13]),(6,[3,5,10,11,12]),(7,[3,10,11,12]),(8,[3,10,11,12]),(9,[2])]) (by kernel_rfl) (fnOK_of Tryz.func216 (by kernel_rfl) (by kernel_rfl) (by kernel_rfl))
def ic217 : IC :=
(.seq
(.reg 0 [⟨(some 2),none,(.alloc [(.int .i64 0),(.int .i64 0),(.bool false),(.int .u8 0)])⟩] [0,2])
(.seq
(.reg 1 [⟨(some 4),none,(.q (.bld [(.int .i64 0),(.int .i64 0),(.bool false),(.int .u8 0)] [⟨0,⟨1,(.c (.int .i64 0))⟩⟩,⟨1,⟨1,(.c (.int .i64 0))⟩⟩,⟨2,⟨1,(.c (.bool true))⟩⟩,⟨3,⟨1,(.c (.int .u8 3))⟩⟩]))⟩,⟨(some 5),none,(.q (.bld [(.int .i64 0),(.int .i64 0),(.bool false),(.int .u8 0)] [⟨0,⟨1,(.c (.int .i64 2))⟩⟩,⟨1,⟨1,(.c (.int .i64 24))⟩⟩,⟨2,⟨1,(.c (.bool true))⟩⟩,⟨3,⟨1,(.c (.int .u8 3))⟩⟩]))⟩,⟨(some 6),none,(.q (.bld [(.int .i64 0),(.int .i64 0),(.bool false),(.int .u8 0)] [⟨0,⟨1,(.c (.int .i64 2))⟩⟩,⟨1,⟨1,(.c (.int .i64 24))⟩⟩,⟨2,⟨1,(.c (.bool true))⟩⟩,⟨3,⟨1,(.c (.int .u8 3))⟩⟩]))⟩,⟨(some 7),none,(.q (.bld [(.int .i64 0),(.int .i64 0),(.bool false),(.int .u8 0)] [⟨0,⟨1,(.c (.int .i64 2))⟩⟩,⟨1,⟨1,(.c (.int .i64 3))⟩⟩,⟨2,⟨1,(.c (.bool false))⟩⟩,⟨3,⟨1,(.c (.int .u8 1))⟩⟩]))⟩,⟨(some 8),none,(.q (.bld [(.int .i64 0),(.int .i64 0),(.bool false),(.int .u8 0)] [⟨0,⟨1,(.c (.int .i64 2))⟩⟩,⟨1,⟨1,(.c (.int .i64 3))⟩⟩,⟨2,⟨1,(.c (.bool false))⟩⟩,⟨3,⟨1,(.c (.int .u8 2))⟩⟩]))⟩,⟨(some 9),none,(.q (.bld [(.int .i64 0),(.int .i64 0),(.bool false),(.int .u8 0)] [⟨0,⟨1,(.c (.int .i64 2))⟩⟩,⟨1,⟨1,(.c (.int .i64 24))⟩⟩,⟨2,⟨1,(.c (.bool true))⟩⟩,⟨3,⟨1,(.c (.int .u8 3))⟩⟩]))⟩,⟨(some 10),none,(.q (.bld [(.int .i64 0),(.int .i64 0),(.bool false),(.int .u8 0)] [⟨0,⟨1,(.c (.int .i64 2))⟩⟩,⟨1,⟨1,(.c (.int .i64 2))⟩⟩,⟨2,⟨1,(.c (.bool true))⟩⟩,⟨3,⟨1,(.c (.int .u8 3))⟩⟩]))⟩,⟨(some 11),none,(.q (.bld [(.int .i64 0),(.int .i64 0),(.bool false),(.int .u8 0),(.int .i64 0),(.int .i64 0),(.bool false),(.int .u8 0),(.int .i64 0),(.int .i64 0),(.bool false),(.int .u8 0),(.int .i64 0),(.int .i64 0),(.bool false),(.int .u8 0),(.int .i64 0),(.int .i64 0),(.bool false),(.int .u8 0),(.int .i64 0),(.int .i64 0),(.bool false),(.int .u8 0),(.int .i64 0),(.int .i64 0),(.bool false),(.int .u8 0),(.int .i64 0),(.int .i64 0),(.bool false),(.int .u8 0)] [⟨4,⟨4,(.t 4)⟩⟩,⟨8,⟨4,(.t 5)⟩⟩,⟨12,⟨4,(.t 6)⟩⟩,⟨16,⟨4,(.t 7)⟩⟩,⟨20,⟨4,(.t 8)⟩⟩,⟨24,⟨4,(.t 9)⟩⟩,⟨28,⟨4,(.t 10)⟩⟩]))⟩,⟨(some 3),none,(.alloc [(.int .i64 0),(.int .i64 0),(.bool false),(.int .u8 0),(.int .i64 0),(.int .i64 0),(.bool false),(.int .u8 0),(.int .i64 0),(.int .i64 0),(.bool false),(.int .u8 0),(.int .i64 0),(.int .i64 0),(.bool false),(.int .u8 0),(.int .i64 0),(.int .i64 0),(.bool false),(.int .u8 0),(.int .i64 0),(.int .i64 0),(.bool false),(.int .u8 0),(.int .i64 0),(.int .i64 0),(.bool false),(.int .u8 0),(.int .i64 0),(.int .i64 0),(.bool false),(.int .u8 0)])⟩,⟨none,none,(.store 32 (.t 3) (.t 11))⟩] [0,2,3])
(.seq
(.seq
(.reg 2 [⟨(some 12),none,(.q (.mov (.t 0)))⟩,⟨(some 13),none,(.q (.conv .i64 (.t 12)))⟩,⟨(some 14),none,(.q (.bin .geq (.t 13) (.c (.int .i64 8))))⟩] [0,2,3,14])
(.cond (.t 14)
(.seq
(.reg 3 [⟨(some 15),none,(.q (.bld [(.int .i64 0),(.int .i64 0),(.bool false),(.int .u8 0)] []))⟩,⟨none,none,(.store 4 (.t 2) (.t 15))⟩] [2])
.ret)
.skip))
(.seq
(.reg 4 [⟨(some 16),none,(.q (.mov (.t 0)))⟩,⟨(some 17),none,(.q (.aaddr 8 4 (.t 3) (.t 16)))⟩,⟨(some 18),none,(.q (.load (some 4) (.t 17)))⟩,⟨none,none,(.store 4 (.t 2) (.t 18))⟩] [2])
.ret))))
theorem fok217 : FOK Tryz.prog 217 (19,ic217,[(.cell (some 4) 2)]) := .mk (pf := []) (an := [(0,[0,2]),(1,[0,2,3]),(2,[0,2,3,14]),(3,[2]),(4,[2])]) (by kernel_rfl) (fnOK_of Tryz.func217 (by kernel_rfl) (by kernel_rfl) (by kernel_rfl))
def ic218 : IC :=
(.seq
(.reg 0 [⟨(some 4),none,(.q (.mov (.c (.int .i64 0))))⟩] [0,1])
(.seq
(.reg 1 [⟨(some 5),none,(.q (.mov (.t 0)))⟩,⟨(some 6),none,(.q (.mov (.t 1)))⟩,⟨(some 7),none,(.q (.ibs (.t 5) (.t 6)))⟩,⟨(some 4),none,(.q (.mov (.t 7)))⟩] [4])
.ret))
theorem fok218 : FOK Tryz.prog 218 (8,ic218,[(.t 4)]) := .mk (pf := []) (an := [(0,[0,1]),(1,[4])]) (by kernel_rfl) (fnOK_of Tryz.func218 (by kernel_rfl) (by kernel_rfl) (by kernel_rfl))
def ic219 : IC :=
(.seq
(.reg 0 [⟨(some 4),none,(.q (.mov (.c (.bool false))))⟩] [0,1])
(.seq
(.reg 1 [⟨(some 5),none,(.q (.mov (.t 0)))⟩,⟨(some 6),none,(.q (.len 1 (.t 5)))⟩,⟨(some 7),none,(.q (.mov (.t 1)))⟩,⟨(some 8),none,(.q (.len 1 (.t 7)))⟩,⟨(some 9),none,(.q (.bin .geq (.t 6) (.t 8)))⟩,⟨(some 10),none,(.q (.mov (.t 9)))⟩,⟨(some 11),(some ⟨10,true⟩),(.q (.mov (.t 0)))⟩,⟨(some 12),(some ⟨10,true⟩),(.q (.mov (.t 1)))⟩,⟨(some 13),(some ⟨10,true⟩),(.q (.len 1 (.t 12)))⟩,⟨(some 14),(some ⟨10,true⟩),(.q (.sstr (.t 11) none (some (.t 13))))⟩,⟨(some 15),(some ⟨10,true⟩),(.q (.mov (.t 1)))⟩,⟨(some 16),(some ⟨10,true⟩),(.q (.bin .eql (.t 14) (.t 15)))⟩,⟨(some 17),none,(.q (.pick (.t 10) (.t 16) (.c (.bool false))))⟩,⟨(some 4),none,(.q (.mov (.t 17)))⟩] [4])
.ret))
theorem fok219 : FOK Tryz.prog 219 (18,ic219,[(.t 4)]) := .mk (pf := []) (an := [(0,[0,1]),(1,[4])]) (by kernel_rfl) (fnOK_of Tryz.func219 (by kernel_rfl) (by kernel_rfl) (by kernel_rfl))
def ic220 : IC :=
(.seq
(.reg 0 [oM 4 (cB false)] [0,1])
(.seq
(.reg 1 [oM 5 0,oQ 6 (.isnil (.pointer 101) true 5),oM 7 6,gQ 8 7 true (.mov 1),gQ 9 7 true (.bin .geq 8 (cI 0)),oQ 10 (.pick 7 9 (cB false)),oM 11 10,gQ 12 11 true (.mov 1),gQ 13 11 true (.mov 0),gQ 14 11 true (.nchk 13),gQ 15 11 true (.faddr 7 14),gQ 16 11 true (.load none 15),gQ 17 11 true (.len 0 16),gQ 18 11 true (.bin .lss 12 17),oQ 19 (.pick 11 18 (cB false)),oM 4 19] [4])
.ret))
theorem fok220 : FOK Tryz.prog 220 (20,ic220,[(.t 4)]) := fokA [2000000] Tryz.func220
def ic221 : IC :=
(.seq
(.reg 0 [oM 4 (cB false)] [0,1])
(.seq
(.reg 1 [oM 5 0,oM 6 1,oK 7 (.call 259 [5,6]),oQ 8 (.bin .gtr 7 (cI 0)),oM 4 8] [4])
.ret))
theorem fok221 : FOK Tryz.prog 221 (9,ic221,[(.t 4)]) := fokA [2000000] Tryz.func221
def ic222 : IC :=
(.seq
(.reg 0 [oM 4 (cB false)] [0,1])
(.seq
(.reg 1 [oM 5 0,oK 6 (.call 25 [5]),oM 7 6,gQ 8 7 true (.mov 1),gK 9 7 true (.call 25 [8]),oQ 10 (.pick 7 9 (cB false)),oM 11 10,gQ 12 11 true (.mov 0),gQ 13 11 true (.mov 1),gQ 14 11 true (.bin .neq 12 13),oQ 15 (.pick 11 14 (cB false)),oM 4 15] [4])
.ret))
theorem fok222 : FOK Tryz.prog 222 (16,ic222,[(.t 4)]) := fokA [2000000] Tryz.func222
def ic223 : IC :=
(.seq
(.reg 0 [oK 4 (.boxt 1),oM 6 (cI 0)] [0,2,4])
(.seq
(.oreg 1 [(0,oM 7 0,0),(1,oM 8 0,0),(2,oQ 9 (.nchk 8),0),(3,oQ 10 (.faddr 0 9),0),(4,oQ 11 (.load none 10),0),(5,oQ 12 (.faddr 1 4),0),(6,oQ 13 (.load (some 5) 12),0),(8,oM 15 2,0),(7,oK 14 (.call 160 [11,13]),0),(9,oK 16 (.call 286 [14,15]),0),(10,oK 17 (.call 285 [7,16]),0),(11,oM 6 17,0)] [6])
.ret))
theorem fok223 : FOK Tryz.prog 223 (18,ic223,[(.t 6)]) := fokA [1000004,2000000] Tryz.func223
def ic229 : IC :=
(.seq
(.reg 0 [oK 1 (.boxt 0),oK 2 (.alloc [(.str []),(zU 0),(zI 0),(.str []),(.str [])])] [1,2])
(.seq
(.reg 1 [oQ 3 (.faddr 0 1),oQ 4 (.load none 3),oQ 5 (.faddr 1 1),oQ 6 (.load (some 3) 5),oK 7 (.call 292 [4,6]),oN (.store 5 2 7)] [2])
.ret))
theorem fok229 : FOK Tryz.prog 229 (8,ic229,[(.cell (some 5) 2)]) := fokA [1000001,2000000] Tryz.func229
def ic230 : IC :=
(.seq
(.reg 0 [oK 3 (.boxt 1),oM 4 (cB false)] [0,3])
(.seq
(.reg 1 [oM 5 0,oQ 6 (.load (some 2) 3),oK 7 (.call 293 [5,6]),oQ 8 (.bin .geq 7 (cI 0)),oM 4 8] [4])
.ret))
theorem fok230 : FOK Tryz.prog 230 (9,ic230,[(.t 4)]) := fokA [1000003,2000000] Tryz.func230
def ic231 : IC :=
(.seq
(.reg 0 [oM 2 (cI 0)] [0])
(.seq
(.seq
(.reg 1 [oM 6 0,oQ 7 (.len 0 6),oM 8 (cI 0)] [6,7,8])
(.block 0
(.loop
(.seq
(.reg 2 [oQ 9 (.bin .lss 8 7)] [6,7,8,9])
(.seq
(.cond 9
.skip
(.exit 0))
(.seq
(.block 1
(.seq
(.reg 3 [oQ 10 (.iaddr 1 6 8),oQ 11 (.load none 10),oM 4 11] [4,6,7,8])
(.seq
(.reg 4 [oM 12 4,oK 13 (.callv 12 []),oM 5 13] [5,6,7,8])
(.seq
(.reg 5 [oM 14 5,oQ 15 (.bin .neq 14 (cI 0))] [5,6,7,8,15])
(.cond 15
(.seq
(.reg 6 [oM 16 5,oM 2 16] [2])
.ret)
.skip)))))
(.reg 7 [oQ 17 (.bin .add 8 (cI 1)),oM 8 17] [6,7,8])))))))
(.seq
(.reg 8 [oM 2 (cI 0)] [2])
.ret)))
theorem fok231 : FOK Tryz.prog 231 (18,ic231,[(.t 2)]) := fokA [2000000] Tryz.func231
def ic232 : IC :=
(.seq
(.reg 0 [oM 2 (cI 0)] [0,1])
(.seq
(.reg 1 [oQ 3 (.faddr 0 0),oQ 4 (.load none 3),oQ 5 (.faddr 0 1),oQ 6 (.load none 5),oK 7 (.call 182 [4,6]),oM 2 7] [2])
.ret))
theorem fok232 : FOK Tryz.prog 232 (8,ic232,[(.t 2)]) := fokA [2000000] Tryz.func232
def ic233 : IC :=
(.seq
(.reg 0 [oM 2 (cI 0)] [0,1])
(.seq
(.reg 1 [oQ 3 (.faddr 1 0),oQ 4 (.load none 3),oQ 5 (.faddr 1 1),oQ 6 (.load none 5),oK 7 (.call 234 [4,6]),oM 2 7] [2])
.ret))
theorem fok233 : FOK Tryz.prog 233 (8,ic233,[(.t 2)]) := fokA [2000000] Tryz.func233
def ic234 : IC :=
(.seq
(.reg 0 [oM 4 (cI 0)] [0,1])
(.seq
(.reg 1 [oM 9 0,oK 10 (.call 294 [9]),oQ 11 (.bld [(zU 0),(.str [])] [⟨0,⟨1,(.c (zU 2))⟩⟩]),oK 12 (.bslt 2 1 [(zU 0),(.str [])] [⟨0,⟨2,11⟩⟩]),oK 13 (.app 2 10 12),oM 14 1,oK 15 (.call 294 [14]),oQ 16 (.bld [(zU 0),(.str [])] [⟨0,⟨1,(.c (zU 2))⟩⟩]),oK 17 (.bslt 2 1 [(zU 0),(.str [])] [⟨0,⟨2,16⟩⟩]),oK 18 (.app 2 15 17),oM 5 13,oM 6 18] [5,6])
(.seq
(.seq
(.reg 2 [oM 19 5,oQ 20 (.len 0 19),oM 21 6,oQ 22 (.len 0 21),oQ 23 (.mm false 20 22),oM 24 (cI 0)] [5,6,23,24])
(.block 0
(.loop
(.seq
(.reg 3 [oQ 25 (.bin .lss 24 23)] [5,6,23,24,25])
(.seq
(.cond 25
.skip
(.exit 0))
(.seq
(.block 1
(.seq
(.reg 4 [oM 26 24,oM 7 26] [5,6,7,23,24])
(.seq
(.dreg 5 [oM 27 5,oM 28 7,oQ 29 (.iaddr 2 27 28),oQ 30 (.load (some 2) 29),oM 31 6,oM 32 7,oQ 33 (.iaddr 2 31 32),oQ 34 (.load (some 2) 33),oK 35 (.call 295 [30,34]),oM 8 35] false [5,6,8,23,24])
(.seq
(.reg 6 [oM 36 8,oQ 37 (.bin .neq 36 (cI 0))] [5,6,8,23,24,37])
(.cond 37
(.seq
(.reg 7 [oM 38 8,oM 4 38] [4])
.ret)
.skip)))))
(.reg 8 [oQ 39 (.bin .add 24 (cI 1)),oM 24 39] [5,6,23,24])))))))
(.seq
(.reg 9 [oM 4 (cI 0)] [4])
.ret))))
theorem fok234 : FOK Tryz.prog 234 (40,ic234,[(.t 4)]) := fokA [1000012,1000017,2000000] Tryz.func234
def ic235 : IC :=
(.seq
(.reg 0 [oM 2 (cI 0)] [0,1])
(.seq
(.seq
(.reg 1 [oQ 3 (.faddr 2 0),oQ 4 (.load none 3),oQ 5 (.bin .eql 4 (.c (.str []))),oM 6 5,gQ 7 6 false (.faddr 2 1),gQ 8 6 false (.load none 7),gQ 9 6 false (.bin .eql 8 (.c (.str []))),oQ 10 (.pick 6 (cB true) 9)] [0,1,10])
(.cond 10
(.seq
(.reg 2 [oM 2 (cI 0)] [2])
.ret)
.skip))
(.seq
(.reg 3 [oQ 11 (.faddr 2 0),oQ 12 (.load none 11),oQ 13 (.faddr 2 1),oQ 14 (.load none 13),oK 15 (.call 234 [12,14]),oM 2 15] [2])
.ret)))
theorem fok235 : FOK Tryz.prog 235 (16,ic235,[(.t 2)]) := fokA [2000000] Tryz.func235
def ic236 : IC :=
(.seq
(.reg 0 [oM 4 (cB false)] [0,1])
(.seq
(.reg 1 [oM 5 0,oQ 6 (.isnil (.pointer 156) true 5),oM 7 6,gQ 8 7 true (.mov 1),gQ 9 7 true (.bin .geq 8 (cI 0)),oQ 10 (.pick 7 9 (cB false)),oM 11 10,gQ 12 11 true (.mov 1),gQ 13 11 true (.mov 0),gQ 14 11 true (.nchk 13),gQ 15 11 true (.faddr 0 14),gQ 16 11 true (.load none 15),gQ 17 11 true (.len 0 16),gQ 18 11 true (.bin .lss 12 17),oQ 19 (.pick 11 18 (cB false)),oM 4 19] [4])
.ret))
theorem fok236 : FOK Tryz.prog 236 (20,ic236,[(.t 4)]) := fokA [2000000] Tryz.func236
def ic239 : IC :=
(.seq
(.reg 0 [oM 8 (cB true)] [0,1,2,3,8])
(.seq
(.reg 1 [oM 9 (cB true)] [0,1,2,3,8,9])
(.block 0
(.loop
(.block 1
(.seq
(.reg 2 [oM 19 2,oM 20 1,oQ 21 (.bin .sub 19 20),oM 10 21] [0,1,2,3,8,9,10])
(.seq
(.seq
(.reg 3 [oM 22 10,oQ 23 (.bin .leq 22 (cI 12))] [0,1,2,3,8,9,10,23])
(.cond 23
(.seq
(.reg 4 [oM 24 0,oM 25 1,oM 26 2,oK 27 (.call 297 [24,25,26])] [])
.ret)
.skip))
(.seq
(.seq
(.reg 5 [oM 28 3,oQ 29 (.bin .eql 28 (cI 0))] [0,1,2,3,8,9,10,29])
(.cond 29
(.seq
(.reg 6 [oM 30 0,oM 31 1,oM 32 2,oK 33 (.call 298 [30,31,32])] [])
.ret)
.skip))
(.seq
(.seq
(.reg 7 [oM 34 8,oQ 35 (.not 34)] [0,1,2,3,8,9,10,35])
(.cond 35
(.seq
(.reg 8 [oM 36 0,oM 37 1,oM 38 2,oK 39 (.call 299 [36,37,38])] [0,1,2,3,8,9,10])
(.reg 9 [oM 40 3,oQ 41 (.bin .sub 40 (cI 1)),oM 3 41] [0,1,2,3,8,9,10]))
.skip))
(.seq
(.reg 10 [oM 43 0,oM 44 1,oM 45 2,oK 46 (.call 300 [43,44,45]),oM 42 46,oQ 47 (.ext 0 42),oQ 48 (.ext 1 42),oM 11 47,oM 12 48] [0,1,2,3,8,9,10,11,12])
(.seq
(.seq
(.reg 11 [oM 49 12,oQ 50 (.bin .eql 49 (cI 2))] [0,1,2,3,8,9,10,11,12,50])
(.cond 50
(.seq
(.reg 12 [oM 51 0,oM 52 1,oM 53 2,oK 54 (.call 301 [51,52,53])] [0,1,2,3,8,9,10,11])
(.seq
(.reg 13 [oM 55 2,oQ 56 (.bin .sub 55 (cI 1)),oM 57 11,oM 58 1,oQ 59 (.bin .sub 57 58),oQ 60 (.bin .sub 56 59),oM 11 60] [0,1,2,3,8,9,10,11])
(.reg 14 [oM 12 (cI 1)] [0,1,2,3,8,9,10,11,12])))
.skip))
(.seq
(.seq
(.reg 15 [oM 61 8,oM 62 61,gQ 63 62 true (.mov 9),oQ 64 (.pick 62 63 (cB false)),oM 65 64,gQ 66 65 true (.mov 12),gQ 67 65 true (.bin .eql 66 (cI 1)),oQ 68 (.pick 65 67 (cB false))] [0,1,2,3,8,9,10,11,68])
(.cond 68
(.seq
(.reg 16 [oM 69 0,oM 70 1,oM 71 2,oK 72 (.call 302 [69,70,71])] [0,1,2,3,8,9,10,11,72])
(.cond 72
.ret
.skip))
.skip))
(.seq
(.seq
(.dreg 17 [oM 73 1,oQ 74 (.bin .gtr 73 (cI 0)),oM 75 74,gQ 76 75 true (.mov 0),gQ 77 75 true (.mov 1),gQ 78 75 true (.bin .sub 77 (cI 1)),gQ 79 75 true (.iaddr 1 76 78),gQ 80 75 true (.load none 79),gQ 81 75 true (.mov 0),gQ 82 75 true (.mov 11),gQ 83 75 true (.iaddr 1 81 82),gQ 84 75 true (.load none 83),gK 85 75 true (.call 303 [80,84]),gQ 86 75 true (.not 85),oQ 87 (.pick 75 86 (cB false))] false [0,1,2,3,8,9,10,11,87])
(.cond 87
(.seq
(.reg 18 [oM 88 0,oM 89 1,oM 90 2,oM 91 11,oK 92 (.call 304 [88,89,90,91]),oM 13 92] [0,2,3,8,9,13])
(.seq
(.reg 19 [oM 93 13,oM 1 93] [0,1,2,3,8,9])
(.exit 1)))
.skip))
(.seq
(.reg 20 [oM 95 0,oM 96 1,oM 97 2,oM 98 11,oK 99 (.call 305 [95,96,97,98]),oM 94 99,oQ 100 (.ext 0 94),oQ 101 (.ext 1 94),oM 14 100,oM 15 101] [0,1,2,3,10,14,15])
(.seq
(.reg 21 [oM 102 15,oM 9 102] [0,1,2,3,9,10,14])
(.seq
(.reg 22 [oM 103 14,oM 104 1,oQ 105 (.bin .sub 103 104),oM 106 2,oM 107 14,oQ 108 (.bin .sub 106 107),oM 16 105,oM 17 108] [0,1,2,3,9,10,14,16,17])
(.seq
(.reg 23 [oM 109 10,oQ 110 (.bin .quo 109 (cI 8)),oM 18 110] [0,1,2,3,9,14,16,17,18])
(.seq
(.reg 24 [oM 111 16,oM 112 17,oQ 113 (.bin .lss 111 112)] [0,1,2,3,9,14,16,17,18,113])
(.cond 113
(.seq
(.reg 25 [oM 114 16,oM 115 18,oQ 116 (.bin .geq 114 115),oM 8 116] [0,1,2,3,8,9,14])
(.seq
(.reg 26 [oM 117 0,oM 118 1,oM 119 14,oM 120 3,oK 121 (.call 239 [117,118,119,120])] [0,2,3,8,9,14])
(.reg 27 [oM 122 14,oQ 123 (.bin .add 122 (cI 1)),oM 1 123] [0,1,2,3,8,9])))
(.seq
(.reg 28 [oM 124 17,oM 125 18,oQ 126 (.bin .geq 124 125),oM 8 126] [0,1,2,3,8,9,14])
(.seq
(.reg 29 [oM 127 0,oM 128 14,oQ 129 (.bin .add 128 (cI 1)),oM 130 2,oM 131 3,oK 132 (.call 239 [127,129,130,131])] [0,1,3,8,9,14])
(.reg 30 [oM 133 14,oM 2 133] [0,1,2,3,8,9]))))))))))))))))))))))
theorem fok239 : FOK Tryz.prog 239 (134,ic239,[]) := fokA [2000000] Tryz.func239
def ic240 : IC :=
(.seq
(.reg 0 [oM 2 (cI 0)] [0])
(.seq
(.cond (cB false)
(.seq
(.reg 1 [oM 3 0,oQ 4 (.conv .u32 3),oK 5 (.call 306 [4]),oM 2 5] [2])
.ret)
.skip)
(.seq
(.reg 2 [oM 6 0,oK 7 (.call 307 [6]),oM 2 7] [2])
.ret)))
theorem fok240 : FOK Tryz.prog 240 (8,ic240,[(.t 2)]) := fokA [2000000] Tryz.func240
def ic241 : IC :=
(.seq
(.reg 0 [oK 3 (.boxt 0),oM 5 (cB false)] [2,3])
(.seq
(.reg 1 [oQ 6 (.load (some 15) 3),oQ 7 (.load (some 5) 2),oK 8 (.call 93 [6,7]),oM 5 8] [5])
.ret))
theorem fok241 : FOK Tryz.prog 241 (9,ic241,[(.t 5)]) := fokA [1000003,2000000] Tryz.func241
def ic242 : IC :=
(.seq
(.reg 0 [⟨(some 4),none,(.boxt (.t 0))⟩,⟨(some 7),none,(.q (.mov (.c (.bool false))))⟩] [1,2,3,4])
(.seq
(.seq
(.reg 1 [⟨(some 10),none,(.q (.mov (.t 2)))⟩,⟨(some 11),none,(.q (.load (some 7) (.t 4)))⟩,⟨(some 12),none,(.q (.mov (.t 1)))⟩,⟨(some 13),none,(.callv (.t 10) [(.t 11),(.t 12)])⟩,⟨(some 14),none,(.q (.not (.t 13)))⟩] [1,2,3,4,14])
(.cond (.t 14)
(.seq
(.reg 2 [⟨(some 7),none,(.q (.mov (.c (.bool false))))⟩] [7])
.ret)
.skip))
(.seq
(.reg 3 [⟨(some 15),none,(.q (.mov (.t 1)))⟩,⟨(some 16),none,(.q (.mov (.t 15)))⟩,⟨(some 17),(some ⟨16,false⟩),(.q (.faddr 0 (.t 4)))⟩,⟨(some 18),(some ⟨16,false⟩),(.q (.load none (.t 17)))⟩,⟨(some 19),(some ⟨16,false⟩),(.q (.bin .eql (.t 18) (.c (.int .u8 6))))⟩,⟨(some 20),none,(.q (.pick (.t 16) (.c (.bool true)) (.t 19)))⟩,⟨(some 21),none,(.q (.mov (.t 20)))⟩,⟨(some 22),(some ⟨21,false⟩),(.q (.faddr 0 (.t 4)))⟩,⟨(some 23),(some ⟨21,false⟩),(.q (.load none (.t 22)))⟩,⟨(some 24),(some ⟨21,false⟩),(.q (.bin .eql (.t 23) (.c (.int .u8 7))))⟩,⟨(some 25),none,(.q (.pick (.t 21) (.c (.bool true)) (.t 24)))⟩,⟨(some 1),none,(.q (.mov (.t 25)))⟩] [1,2,3,4])
(.seq
(.seq
(.reg 4 [⟨(some 26),none,(.q (.faddr 6 (.t 4)))⟩,⟨(some 27),none,(.q (.load none (.t 26)))⟩,⟨(some 28),none,(.q (.len 0 (.t 27)))⟩,⟨(some 29),none,(.q (.mov (.c (.int .i64 0))))⟩] [1,2,3,27,28,29])
(.block 0
(.loop
(.seq
(.reg 5 [⟨(some 30),none,(.q (.bin .lss (.t 29) (.t 28)))⟩] [1,2,3,27,28,29,30])
(.seq
(.cond (.t 30)
.skip
(.exit 0))
(.seq
(.block 1
(.seq
(.reg 6 [⟨(some 31),none,(.q (.iaddr 7 (.t 27) (.t 29)))⟩,⟨(some 32),none,(.q (.load (some 7) (.t 31)))⟩,⟨(some 9),none,(.alloc [(.int .u8 0),(.str []),(.int .u8 0),(.int .i64 0),(.str []),(.str []),.nilslice])⟩,⟨none,none,(.store 7 (.t 9) (.t 32))⟩] [1,2,3,9,27,28,29])
(.seq
(.reg 7 [⟨(some 33),none,(.q (.load none (.t 3)))⟩,⟨(some 34),none,(.q (.load (some 7) (.t 9)))⟩,⟨(some 35),none,(.q (.mov (.t 1)))⟩,⟨(some 36),none,(.q (.mov (.t 2)))⟩,⟨(some 37),none,(.callv (.t 33) [(.t 34),(.t 35),(.t 36)])⟩,⟨(some 38),none,(.q (.not (.t 37)))⟩] [1,2,3,27,28,29,38])
(.cond (.t 38)
(.seq
(.reg 8 [⟨(some 7),none,(.q (.mov (.c (.bool false))))⟩] [7])
.ret)
.skip))))
(.reg 9 [⟨(some 39),none,(.q (.bin .add (.t 29) (.c (.int .i64 1))))⟩,⟨(some 29),none,(.q (.mov (.t 39)))⟩] [1,2,3,27,28,29])))))))
(.seq
(.reg 10 [⟨(some 7),none,(.q (.mov (.c (.bool true))))⟩] [7])
.ret)))))
theorem fok242 : FOK Tryz.prog 242 (40,ic242,[(.t 7)]) := .mk (pf := [1000004]) (an := [(0,[1,2,3,4]),(1,[1,2,3,4,14]),(2,[7]),(3,[1,2,3,4]),(4,[1,2,3,27,28,29]),(5,[1,2,3,27,28,29,30]),(6,[1,2,3,9,27,28,29]),(7,[1,2,3,27,28,29,38]),(8,[7]),(9,[1,2,3,27,28,29]),(10,[7])]) (by kernel_rfl) (fnOK_of Tryz.func242 (by kernel_rfl) (by kernel_rfl) (by kernel_rfl))
def ic243 : IC :=
(.reg 0 [⟨(some 4),none,(.q (.load none (.t 1)))⟩,⟨(some 5),none,(.q (.load (some 7) (.t 2)))⟩,⟨(some 6),none,(.q (.mov (.t 0)))⟩,⟨(some 7),none,(.callv (.t 4) [(.t 5),(.c (.bool false)),(.t 6)])⟩] [])
theorem fok243 : FOK Tryz.prog 243 (8,ic243,[]) := .mk (pf := []) (an := []) (by kernel_rfl) (fnOK_of Tryz.func243 (by kernel_rfl) (by kernel_rfl) (by kernel_rfl))
def ic244 : IC :=
(.seq
(.reg 0 [oK 2 (.boxt 0),oK 3 (.boxt 1),oM 4 (cB false)] [2,3])
(.seq
(.seq
(.reg 1 [oQ 6 (.faddr 1 2),oQ 7 (.load none 6),oQ 8 (.bin .and 7 (.c (zU 7))),oQ 9 (.bin .eql 8 (.c (zU 0))),oM 10 9,gQ 11 10 false (.faddr 1 3),gQ 12 10 false (.load none 11),gQ 13 10 false (.bin .and 12 (.c (zU 7))),gQ 14 10 false (.bin .eql 13 (.c (zU 0))),oQ 15 (.pick 10 (cB true) 14)] [2,3,15])
(.cond 15
(.seq
(.reg 2 [oM 4 (cB true)] [4])
.ret)
.skip))
(.seq
(.reg 3 [oQ 16 (.faddr 2 2),oQ 17 (.load (some 3) 16),oQ 18 (.faddr 2 3),oQ 19 (.load (some 3) 18),oK 20 (.call 154 [17,19]),oM 5 20] [2,3,5])
(.seq
(.seq
(.reg 4 [oM 21 5,oQ 22 (.bin .eql 21 (cI 0))] [2,3,5,22])
(.cond 22
(.seq
(.reg 5 [oQ 23 (.faddr 1 2),oQ 24 (.load none 23),oQ 25 (.faddr 1 3),oQ 26 (.load none 25),oQ 27 (.bin .and 24 26),oQ 28 (.bin .and 27 (.c (zU 7))),oQ 29 (.bin .neq 28 (.c (zU 0))),oM 4 29] [4])
.ret)
.skip))
(.seq
(.oreg 6 [(0,oQ 30 (.faddr 1 2),0),(1,oQ 31 (.load none 30),0),(2,oM 32 5,0),(3,oQ 33 (.neg 32),0),(4,oK 34 (.call 308 [33]),2),(5,oQ 35 (.bin .and 31 34),0),(6,oQ 36 (.bin .neq 35 (.c (zU 0))),0),(7,oM 37 36,0),(8,gQ 38 37 false (.faddr 1 3),0),(9,gQ 39 37 false (.load none 38),0),(10,gQ 40 37 false (.mov 5),0),(11,gK 41 37 false (.call 308 [40]),512),(12,gQ 42 37 false (.bin .and 39 41),0),(13,gQ 43 37 false (.bin .neq 42 (.c (zU 0))),0),(14,oQ 44 (.pick 37 (cB true) 43),0),(15,oM 4 44,0)] [4])
.ret)))))
theorem fok244 : FOK Tryz.prog 244 (45,ic244,[(.t 4)]) := fokA [1000002,1000003,2000000] Tryz.func244
def ic246 : IC :=
(.seq
(.reg 0 [oK 1 (.boxt 0),oM 2 (cI 0),oM 3 (cI 0),oM 4 (cB false)] [1,3])
(.seq
(.seq
(.reg 1 [oQ 10 (.faddr 0 1),oQ 11 (.load none 10),oQ 12 (.bin .eql 11 (.c (zU 1)))] [1,3,12])
(.cond 12
(.seq
(.reg 2 [oQ 13 (.faddr 6 1),oQ 14 (.load none 13),oQ 15 (.len 0 14),oQ 16 (.bin .eql 15 (cI 0)),oM 17 16,gQ 18 17 true (.faddr 1 1),gQ 19 17 true (.load (some 5) 18),gK 20 17 true (.call 28 [19]),oQ 21 (.pick 17 20 (cB false)),oM 2 (cI 1),oM 3 (cI 0),oM 4 21] [2,3,4])
.ret)
.skip))
(.seq
(.dreg 3 [oQ 22 (.faddr 0 1),oQ 23 (.load none 22),oQ 24 (.bin .gtr 23 (.c (zU 1))),oM 25 24,gQ 26 25 true (.faddr 0 1),gQ 27 25 true (.load none 26),gQ 28 25 true (.bin .leq 27 (.c (zU 7))),oQ 29 (.pick 25 28 (cB false)),oM 30 29,gQ 31 30 true (.faddr 1 1),gQ 32 30 true (.load (some 5) 31),gQ 33 30 true (.bld [(.str []),(zU 0),(zI 0),(.str []),(.str [])] []),gQ 34 30 true (.eqs [2,1,1,2,2] true false 32 33),oQ 35 (.pick 30 34 (cB false)),oM 36 35,gQ 37 36 true (.faddr 6 1),gQ 38 36 true (.load none 37),gQ 39 36 true (.len 0 38),gQ 40 36 true (.bin .geq 39 (cI 2)),oQ 41 (.pick 36 40 (cB false)),oM 42 41,gQ 43 42 true (.faddr 6 1),gQ 44 42 true (.load none 43),gQ 45 42 true (.len 0 44),gQ 46 42 true (.faddr 0 1),gQ 47 42 true (.load none 46),gQ 48 42 true (.aaddr 8 2 (.g 2) 47),gQ 49 42 true (.faddr 1 48),gQ 50 42 true (.load none 49),gQ 51 42 true (.bin .leq 45 50),oQ 52 (.pick 42 51 (cB false)),oM 4 52] false [1,3,4])
(.seq
(.reg 4 [oM 2 (cI 1)] [1,2,3,4])
(.seq
(.seq
(.reg 5 [oQ 53 (.faddr 6 1),oQ 54 (.load none 53),oQ 55 (.len 0 54),oM 56 (cI 0)] [2,3,4,54,55,56])
(.block 0
(.loop
(.seq
(.reg 6 [oQ 57 (.bin .lss 56 55)] [2,3,4,54,55,56,57])
(.seq
(.cond 57
.skip
(.exit 0))
(.seq
(.block 1
(.seq
(.reg 7 [oQ 58 (.iaddr 7 54 56),oQ 59 (.load (some 7) 58),oK 6 (.alloc [(zU 0),(.str []),(zU 0),(zI 0),(.str []),(.str []),.nilslice]),oN (.store 7 6 59)] [2,3,4,6,54,55,56])
(.seq
(.seq
(.reg 8 [oM 60 4,oQ 61 (.not 60)] [2,3,4,6,54,55,56,61])
(.cond 61
(.exit 0)
.skip))
(.seq
(.reg 9 [oQ 63 (.load (some 7) 6),oK 64 (.call 246 [63]),oM 62 64,oQ 65 (.ext 0 62),oQ 66 (.ext 1 62),oQ 67 (.ext 2 62),oM 7 65,oM 8 66,oM 9 67] [2,3,7,8,9,54,55,56])
(.reg 10 [oM 68 2,oM 69 7,oQ 70 (.bin .add 68 69),oM 71 3,oM 72 8,oQ 73 (.mm true 71 72),oM 74 9,oM 2 70,oM 3 73,oM 4 74] [2,3,4,54,55,56])))))
(.reg 11 [oQ 75 (.bin .add 56 (cI 1)),oM 56 75] [2,3,4,54,55,56])))))))
(.seq
(.reg 12 [oM 76 2,oM 77 3,oQ 78 (.bin .add 77 (cI 1)),oM 79 4,oM 2 76,oM 3 78,oM 4 79] [2,3,4])
.ret))))))
theorem fok246 : FOK Tryz.prog 246 (80,ic246,[(.t 2),(.t 3),(.t 4)]) := fokA [1000001,2000000] Tryz.func246
def ic247 : IC :=
(.seq
(.reg 0 [oK 2 (.boxt 0),oK 3 (.boxt 1),oM 4 (cB false)] [2,3])
(.seq
(.oreg 1 [(0,oQ 5 (.faddr 0 2),0),(1,oQ 6 (.load none 5),0),(2,oQ 7 (.nchk 6),0),(3,oQ 8 (.faddr 0 7),0),(4,oQ 9 (.load none 8),0),(5,oQ 10 (.faddr 1 3),0),(6,oQ 11 (.load (some 5) 10),0),(8,oQ 13 (.mkf 309 [] [2]),0),(7,oK 12 (.call 160 [9,11]),0),(9,oK 14 (.call 123 [12,13]),0),(10,oM 4 14,0)] [4])
.ret))
theorem fok247 : FOK Tryz.prog 247 (15,ic247,[(.t 4)]) := fokA [1000002,1000003,2000000] Tryz.func247
def ic254 : IC :=
(.seq
(.reg 0 [oM 4 (cI 0)] [0,1])
(.seq
(.seq
(.reg 1 [oM 6 0,oQ 7 (.len 0 6),oM 8 (cI 0)] [0,1,7,8])
(.block 0
(.loop
(.seq
(.reg 2 [oQ 9 (.bin .lss 8 7)] [0,1,7,8,9])
(.seq
(.cond 9
.skip
(.exit 0))
(.seq
(.block 1
(.seq
(.reg 3 [oM 10 8,oM 5 10] [0,1,5,7,8])
(.seq
(.reg 4 [oM 11 1,oM 12 0,oM 13 5,oQ 14 (.iaddr 1 12 13),oQ 15 (.load none 14),oQ 16 (.bin .eql 11 15)] [0,1,5,7,8,16])
(.cond 16
(.seq
(.reg 5 [oM 17 5,oM 4 17] [4])
.ret)
.skip))))
(.reg 6 [oQ 18 (.bin .add 8 (cI 1)),oM 8 18] [0,1,7,8])))))))
(.seq
(.reg 7 [oM 4 (cI (-1))] [4])
.ret)))
theorem fok254 : FOK Tryz.prog 254 (19,ic254,[(.t 4)]) := fokA [2000000] Tryz.func254
end Go.Id.Tryz
