/- The compiled codes of functions,written by a program out of the given form. Conditions: none. -/
import Derived.Test.YtiallonafbejaaaGreatDoorFwYa
import Derived.Test.YtiallonafbejaaaGreatDoorProg
set_option linter.all false
namespace Go.Id.Tryz
open Go Go.Id Go.Proofs
def allF3 : List Nat:=List.range 357
def ic226 : IC :=
(.seq
(.reg 0 [oM 2 (cI 0)] [0,2])
(.seq
(.seq
(.reg 1 [oM 3 (.t 0),oQ 4 (.bin .geq (.t 3) (.c (.int .u32 65536)))] [0,2,4])
(.cond (.t 4)
(.seq
(.reg 2 [oM 5 (.t 0),oQ 6 (.bin .shr (.t 5) (.c (.int .u64 16))),oM 0 (.t 6)] [0])
(.reg 3 [oM 2 (cI 16)] [0,2]))
.skip))
(.seq
(.seq
(.reg 4 [oM 7 (.t 0),oQ 8 (.bin .geq (.t 7) (.c (.int .u32 256)))] [0,2,8])
(.cond (.t 8)
(.seq
(.reg 5 [oM 9 (.t 0),oQ 10 (.bin .shr (.t 9) (.c (.int .u64 8))),oM 0 (.t 10)] [0,2])
(.reg 6 [oM 11 (.t 2),oQ 12 (.bin .add (.t 11) (cI 8)),oM 2 (.t 12)] [0,2]))
.skip))
(.seq
(.reg 7 [oM 13 (.t 2),oM 14 (.t 0),oQ 15 (.conv .u8 (.t 14)),oQ 16 (.istr (.c (.str [0,1,2,2,3,3,3,3,4,4,4,4,4,4,4,4,5,5,5,5,5,5,5,5,5,5,5,5,5,5,5,5,6,6,6,6,6,6,6,6,6,6,6,6,6,6,6,6,6,6,6,6,6,6,6,6,6,6,6,6,6,6,6,6,7,7,7,7,7,7,7,7,7,7,7,7,7,7,7,7,7,7,7,7,7,7,7,7,7,7,7,7,7,7,7,7,7,7,7,7,7,7,7,7,7,7,7,7,7,7,7,7,7,7,7,7,7,7,7,7,7,7,7,7,7,7,7,7,8,8,8,8,8,8,8,8,8,8,8,8,8,8,8,8,8,8,8,8,8,8,8,8,8,8,8,8,8,8,8,8,8,8,8,8,8,8,8,8,8,8,8,8,8,8,8,8,8,8,8,8,8,8,8,8,8,8,8,8,8,8,8,8,8,8,8,8,8,8,8,8,8,8,8,8,8,8,8,8,8,8,8,8,8,8,8,8,8,8,8,8,8,8,8,8,8,8,8,8,8,8,8,8,8,8,8,8,8,8,8,8,8,8,8,8,8,8,8,8,8,8,8,8,8,8,8,8])) (.t 15)),oQ 17 (.conv .i64 (.t 16)),oQ 18 (.bin .add (.t 13) (.t 17)),oM 2 (.t 18)] [2])
.ret))))
theorem fok226 : FOK Tryz.prog 226 (19,ic226,[(.t 2)]):=fokA [] Tryz.func226
def ic227 : IC :=
(.seq
(.reg 0 [oM 2 (cI 0)] [0,2])
(.seq
(.seq
(.reg 1 [oM 3 (.t 0),oQ 4 (.bin .geq (.t 3) (.c (.int .u64 4294967296)))] [0,2,4])
(.cond (.t 4)
(.seq
(.reg 2 [oM 5 (.t 0),oQ 6 (.bin .shr (.t 5) (.c (.int .u64 32))),oM 0 (.t 6)] [0])
(.reg 3 [oM 2 (cI 32)] [0,2]))
.skip))
(.seq
(.seq
(.reg 4 [oM 7 (.t 0),oQ 8 (.bin .geq (.t 7) (.c (.int .u64 65536)))] [0,2,8])
(.cond (.t 8)
(.seq
(.reg 5 [oM 9 (.t 0),oQ 10 (.bin .shr (.t 9) (.c (.int .u64 16))),oM 0 (.t 10)] [0,2])
(.reg 6 [oM 11 (.t 2),oQ 12 (.bin .add (.t 11) (cI 16)),oM 2 (.t 12)] [0,2]))
.skip))
(.seq
(.seq
(.reg 7 [oM 13 (.t 0),oQ 14 (.bin .geq (.t 13) (.c (.int .u64 256)))] [0,2,14])
(.cond (.t 14)
(.seq
(.reg 8 [oM 15 (.t 0),oQ 16 (.bin .shr (.t 15) (.c (.int .u64 8))),oM 0 (.t 16)] [0,2])
(.reg 9 [oM 17 (.t 2),oQ 18 (.bin .add (.t 17) (cI 8)),oM 2 (.t 18)] [0,2]))
.skip))
(.seq
(.reg 10 [oM 19 (.t 2),oM 20 (.t 0),oQ 21 (.conv .u8 (.t 20)),oQ 22 (.istr (.c (.str [0,1,2,2,3,3,3,3,4,4,4,4,4,4,4,4,5,5,5,5,5,5,5,5,5,5,5,5,5,5,5,5,6,6,6,6,6,6,6,6,6,6,6,6,6,6,6,6,6,6,6,6,6,6,6,6,6,6,6,6,6,6,6,6,7,7,7,7,7,7,7,7,7,7,7,7,7,7,7,7,7,7,7,7,7,7,7,7,7,7,7,7,7,7,7,7,7,7,7,7,7,7,7,7,7,7,7,7,7,7,7,7,7,7,7,7,7,7,7,7,7,7,7,7,7,7,7,7,8,8,8,8,8,8,8,8,8,8,8,8,8,8,8,8,8,8,8,8,8,8,8,8,8,8,8,8,8,8,8,8,8,8,8,8,8,8,8,8,8,8,8,8,8,8,8,8,8,8,8,8,8,8,8,8,8,8,8,8,8,8,8,8,8,8,8,8,8,8,8,8,8,8,8,8,8,8,8,8,8,8,8,8,8,8,8,8,8,8,8,8,8,8,8,8,8,8,8,8,8,8,8,8,8,8,8,8,8,8,8,8,8,8,8,8,8,8,8,8,8,8,8,8,8,8,8,8])) (.t 21)),oQ 23 (.conv .i64 (.t 22)),oQ 24 (.bin .add (.t 19) (.t 23)),oM 2 (.t 24)] [2])
.ret)))))
theorem fok227 : FOK Tryz.prog 227 (25,ic227,[(.t 2)]):=fokA [] Tryz.func227
def ic228 : IC :=
(.seq
(.reg 0 [oM 2 (.c (zU 0))] [0])
(.seq
(.reg 1 [oQ 3 (.bld [(zU 0),(zU 0),(zU 0)] [⟨0,⟨1,(.c (zU 1))⟩⟩,⟨1,⟨1,(.c (zU 2))⟩⟩,⟨2,⟨1,(.c (zU 4))⟩⟩]),oM 4 (.t 0),oQ 5 (.bin .add (.t 4) (cI 1)),oQ 6 (.idx none 3 1 (.t 3) (.t 5)),oM 2 (.t 6)] [2])
.ret))
theorem fok228 : FOK Tryz.prog 228 (7,ic228,[(.t 2)]):=fokA [] Tryz.func228
def ic230 : IC :=
(.seq
(.reg 0 [⟨(some 2),none,(.q (.mov (.c (.bool false))))⟩] [0])
(.seq
(.reg 1 [⟨(some 3),none,(.q (.mov (.t 0)))⟩,⟨(some 4),none,(.q (.bin .eql (.t 3) (.c (.int .u8 0))))⟩,⟨(some 5),none,(.q (.mov (.t 4)))⟩,⟨(some 6),(some ⟨5,false⟩),(.q (.mov (.t 0)))⟩,⟨(some 7),(some ⟨5,false⟩),(.call 280 [(.t 6)])⟩,⟨(some 8),(some ⟨5,false⟩),(.q (.bin .neq (.t 7) (.c (.str []))))⟩,⟨(some 9),none,(.q (.pick (.t 5) (.c (.bool true)) (.t 8)))⟩,⟨(some 2),none,(.q (.mov (.t 9)))⟩] [2])
.ret))
theorem fok230 : FOK Tryz.prog 230 (10,ic230,[(.t 2)]):=.mk (pf:=[]) (an:=[(0,[0]),(1,[2])]) (by kernel_rfl) (fnOK_of Tryz.func230 (by kernel_rfl) (by kernel_rfl) (by kernel_rfl))
def ic235 : IC :=
(.seq
(.reg 0 [oM 2 (.c .nilslice)] [0,2])
(.seq
(.reg 1 [oK 3 (.alloc [.nilslice])] [0,2,3])
(.seq
(.seq
(.reg 2 [oM 5 (.t 0),oK 6 (.call 281 [(.t 5)])] [2,3,6])
(.block 0
(.rfunc (.t 6) [7]
(.reg 3 [oK 4 (.alloc [(zU 0),(.str [])]),oN (.store 2 (.t 4) (.t 7))] [3,4])
(.block 1
(.reg 4 [oQ 8 (.load none (.t 3)),oQ 9 (.load (some 2) (.t 4)),oK 10 (.bslt 2 1 [(zU 0),(.str [])] [⟨0,⟨2,(.t 9)⟩⟩]),oK 11 (.app 2 (.t 8) (.t 10)),oN (.store 1 (.t 3) (.t 11))] [])))))
(.seq
(.reg 5 [oQ 12 (.load none (.t 3)),oM 2 (.t 12)] [2])
.ret))))
theorem fok235 : FOK Tryz.prog 235 (13,ic235,[(.t 2)]):=fokA [1000010] Tryz.func235
def ic236 : IC :=
(.seq
(.reg 0 [oK 2 (.boxt (.t 0)),oK 3 (.boxt (.t 1)),oM 4 (cI 0)] [2,3])
(.seq
(.reg 1 [oM 5 (cI 0)] [2,3,5])
(.seq
(.seq
(.reg 2 [oQ 6 (.faddr 0 (.t 2)),oQ 7 (.load none (.t 6)),oQ 8 (.bin .eql (.t 7) (.c (zU 5))),oM 9 (.t 8),gQ 10 9 true (.faddr 0 (.t 3)),gQ 11 9 true (.load none (.t 10)),gQ 12 9 true (.bin .eql (.t 11) (.c (zU 5))),oQ 13 (.pick (.t 9) (.t 12) (cB false))] [2,3,5,13])
(.cond (.t 13)
(.reg 3 [oQ 14 (.faddr 1 (.t 2)),oQ 15 (.load none (.t 14)),oQ 16 (.len 1 (.t 15)),oQ 17 (.faddr 1 (.t 3)),oQ 18 (.load none (.t 17)),oQ 19 (.len 1 (.t 18)),oK 20 (.call 126 [(.t 16),(.t 19)]),oM 5 (.t 20)] [2,3,5])
.skip))
(.seq
(.dreg 4 [oQ 21 (.faddr 0 (.t 2)),oQ 22 (.load none (.t 21)),oQ 23 (.faddr 0 (.t 3)),oQ 24 (.load none (.t 23)),oK 25 (.pcall 283 [(.t 22),(.t 24)]),oM 26 (.t 5),oQ 27 (.faddr 1 (.t 2)),oQ 28 (.load none (.t 27)),oQ 29 (.faddr 1 (.t 3)),oQ 30 (.load none (.t 29)),oK 31 (.pcall 284 [(.t 28),(.t 30)]),oK 32 (.bslt 1 3 [(zI 0)] [⟨0,⟨1,(.t 25)⟩⟩,⟨1,⟨1,(.t 26)⟩⟩,⟨2,⟨1,(.t 31)⟩⟩]),oK 33 (.pcall 282 [(.t 32)]),oM 4 (.t 33)] false [4])
.ret))))
theorem fok236 : FOK Tryz.prog 236 (34,ic236,[(.t 4)]):=fokA ([1000002,1000003,1000032] ++ [282,283,284]) Tryz.func236 (by kernel_rfl) (by kernel_rfl) (by kernel_rfl) (by kernel_rfl)
def ic239 : IC :=
(.seq
(.reg 0 [⟨(some 1),none,(.boxt (.t 0))⟩,⟨(some 2),none,(.q (.mov (.c .nilfunc)))⟩] [1])
(.seq
(.reg 1 [⟨(some 3),none,(.alloc [.nilfunc])⟩] [1,3])
(.seq
(.reg 2 [⟨(some 4),none,(.q (.mkf 285 [] [(.t 3)]))⟩,⟨none,none,(.store 1 (.t 3) (.t 4))⟩] [1,3])
(.seq
(.reg 3 [⟨(some 5),none,(.q (.mkf 286 [] [(.t 3),(.t 1)]))⟩,⟨(some 2),none,(.q (.mov (.t 5)))⟩] [2])
.ret))))
theorem fok239 : FOK Tryz.prog 239 (6,ic239,[(.t 2)]):=.mk (pf:=[1000001]) (an:=[(0,[1]),(1,[1,3]),(2,[1,3]),(3,[2])]) (by kernel_rfl) (fnOK_of Tryz.func239 (by kernel_rfl) (by kernel_rfl) (by kernel_rfl))
def ic240 : IC :=
(.seq
(.reg 0 [⟨(some 4),none,(.q (.mov (.c (.int .i64 0))))⟩] [0,1])
(.seq
(.seq
(.reg 1 [⟨(some 6),none,(.q (.mov (.t 0)))⟩,⟨(some 7),none,(.q (.len 0 (.t 6)))⟩,⟨(some 8),none,(.q (.mov (.c (.int .i64 0))))⟩] [0,1,7,8])
(.block 0
(.loop
(.seq
(.reg 2 [⟨(some 9),none,(.q (.bin .lss (.t 8) (.t 7)))⟩] [0,1,7,8,9])
(.seq
(.cond (.t 9)
.skip
(.exit 0))
(.seq
(.block 1
(.seq
(.reg 3 [⟨(some 10),none,(.q (.mov (.t 8)))⟩,⟨(some 5),none,(.q (.mov (.t 10)))⟩] [0,1,5,7,8])
(.seq
(.reg 4 [⟨(some 11),none,(.q (.mov (.t 1)))⟩,⟨(some 12),none,(.q (.mov (.t 0)))⟩,⟨(some 13),none,(.q (.mov (.t 5)))⟩,⟨(some 14),none,(.q (.iaddr 7 (.t 12) (.t 13)))⟩,⟨(some 15),none,(.q (.load (some 7) (.t 14)))⟩,⟨(some 16),none,(.callv (.t 11) [(.t 15)])⟩] [0,1,5,7,8,16])
(.cond (.t 16)
(.seq
(.reg 5 [⟨(some 17),none,(.q (.mov (.t 5)))⟩,⟨(some 4),none,(.q (.mov (.t 17)))⟩] [4])
.ret)
.skip))))
(.reg 6 [⟨(some 18),none,(.q (.bin .add (.t 8) (.c (.int .i64 1))))⟩,⟨(some 8),none,(.q (.mov (.t 18)))⟩] [0,1,7,8])))))))
(.seq
(.reg 7 [⟨(some 4),none,(.q (.mov (.c (.int .i64 (-1)))))⟩] [4])
.ret)))
theorem fok240 : FOK Tryz.prog 240 (19,ic240,[(.t 4)]):=.mk (pf:=[]) (an:=[(0,[0,1]),(1,[0,1,7,8]),(2,[0,1,7,8,9]),(3,[0,1,5,7,8]),(4,[0,1,5,7,8,16]),(5,[4]),(6,[0,1,7,8]),(7,[4])]) (by kernel_rfl) (fnOK_of Tryz.func240 (by kernel_rfl) (by kernel_rfl) (by kernel_rfl))
def ic254 : IC :=
(.seq
(.reg 0 [⟨(some 4),none,(.q (.mov (.c (.int .i64 0))))⟩] [0,1])
(.seq
(.reg 1 [⟨(some 5),none,(.q (.mov (.t 0)))⟩,⟨(some 6),none,(.q (.mov (.t 1)))⟩,⟨(some 7),none,(.call 299 [(.t 5),(.t 6)])⟩,⟨(some 4),none,(.q (.mov (.t 7)))⟩] [4])
.ret))
theorem fok254 : FOK Tryz.prog 254 (8,ic254,[(.t 4)]):=.mk (pf:=[]) (an:=[(0,[0,1]),(1,[4])]) (by kernel_rfl) (fnOK_of Tryz.func254 (by kernel_rfl) (by kernel_rfl) (by kernel_rfl))
def ic255 : IC :=
(.seq
(.reg 0 [⟨(some 4),none,(.q (.mov (.c (.bool false))))⟩] [0,1])
(.seq
(.reg 1 [⟨(some 5),none,(.q (.mov (.t 0)))⟩,⟨(some 6),none,(.q (.mov (.t 1)))⟩,⟨(some 7),none,(.call 300 [(.t 5),(.t 6)])⟩,⟨(some 4),none,(.q (.mov (.t 7)))⟩] [4])
.ret))
theorem fok255 : FOK Tryz.prog 255 (8,ic255,[(.t 4)]):=.mk (pf:=[]) (an:=[(0,[0,1]),(1,[4])]) (by kernel_rfl) (fnOK_of Tryz.func255 (by kernel_rfl) (by kernel_rfl) (by kernel_rfl))
def ic256 : IC :=
(.seq
(.reg 0 [⟨(some 2),none,(.q (.mov (.c (.bool false))))⟩] [0])
(.seq
(.seq
(.reg 1 [⟨(some 5),none,(.q (.mov (.t 0)))⟩,⟨(some 6),none,(.q (.bin .eql (.t 5) (.c (.str []))))⟩,⟨(some 7),none,(.q (.mov (.t 6)))⟩,⟨(some 8),(some ⟨7,false⟩),(.q (.mov (.t 0)))⟩,⟨(some 9),(some ⟨7,false⟩),(.q (.len 1 (.t 8)))⟩,⟨(some 10),(some ⟨7,false⟩),(.q (.bin .gtr (.t 9) (.c (.int .i64 64))))⟩,⟨(some 11),none,(.q (.pick (.t 7) (.c (.bool true)) (.t 10)))⟩] [0,11])
(.cond (.t 11)
(.seq
(.reg 2 [⟨(some 2),none,(.q (.mov (.c (.bool false))))⟩] [2])
.ret)
.skip))
(.seq
(.seq
(.reg 3 [⟨(some 12),none,(.q (.mov (.t 0)))⟩,⟨(some 13),none,(.q (.len 1 (.t 12)))⟩,⟨(some 14),none,(.q (.mov (.c (.int .i64 0))))⟩] [0,13,14])
(.block 0
(.loop
(.seq
(.reg 4 [⟨(some 15),none,(.q (.bin .lss (.t 14) (.t 13)))⟩] [0,13,14,15])
(.seq
(.cond (.t 15)
.skip
(.exit 0))
(.seq
(.block 1
(.seq
(.reg 5 [⟨(some 16),none,(.q (.mov (.t 14)))⟩,⟨(some 3),none,(.q (.mov (.t 16)))⟩] [0,3,13,14])
(.seq
(.reg 6 [⟨(some 17),none,(.q (.mov (.t 0)))⟩,⟨(some 18),none,(.q (.mov (.t 3)))⟩,⟨(some 19),none,(.q (.istr (.t 17) (.t 18)))⟩,⟨(some 4),none,(.q (.mov (.t 19)))⟩] [0,4,13,14])
(.block 2
(.seq
(.seq
(.reg 8 [⟨(some 21),none,(.q (.mov (.t 4)))⟩,⟨(some 22),none,(.q (.bin .geq (.t 21) (.c (.int .u8 97))))⟩,⟨(some 23),none,(.q (.mov (.t 22)))⟩,⟨(some 24),(some ⟨23,true⟩),(.q (.mov (.t 4)))⟩,⟨(some 25),(some ⟨23,true⟩),(.q (.bin .leq (.t 24) (.c (.int .u8 122))))⟩,⟨(some 26),none,(.q (.pick (.t 23) (.t 25) (.c (.bool false))))⟩,⟨(some 20),none,(.q (.mov (.t 26)))⟩] [0,4,13,14,20])
(.cond (.t 20)
.skip
(.seq
(.reg 9 [⟨(some 27),none,(.q (.mov (.t 4)))⟩,⟨(some 28),none,(.q (.bin .geq (.t 27) (.c (.int .u8 65))))⟩,⟨(some 29),none,(.q (.mov (.t 28)))⟩,⟨(some 30),(some ⟨29,true⟩),(.q (.mov (.t 4)))⟩,⟨(some 31),(some ⟨29,true⟩),(.q (.bin .leq (.t 30) (.c (.int .u8 90))))⟩,⟨(some 32),none,(.q (.pick (.t 29) (.t 31) (.c (.bool false))))⟩,⟨(some 20),none,(.q (.mov (.t 32)))⟩] [0,4,13,14,20])
(.cond (.t 20)
.skip
(.seq
(.reg 10 [⟨(some 33),none,(.q (.mov (.t 4)))⟩,⟨(some 34),none,(.q (.bin .geq (.t 33) (.c (.int .u8 48))))⟩,⟨(some 35),none,(.q (.mov (.t 34)))⟩,⟨(some 36),(some ⟨35,true⟩),(.q (.mov (.t 4)))⟩,⟨(some 37),(some ⟨35,true⟩),(.q (.bin .leq (.t 36) (.c (.int .u8 57))))⟩,⟨(some 38),none,(.q (.pick (.t 35) (.t 37) (.c (.bool false))))⟩,⟨(some 20),none,(.q (.mov (.t 38)))⟩] [0,4,13,14,20])
(.cond (.t 20)
.skip
(.reg 11 [⟨(some 39),none,(.q (.mov (.t 4)))⟩,⟨(some 40),none,(.call 254 [(.c (.str [46,95,43,126,94])),(.t 39)])⟩,⟨(some 41),none,(.q (.bin .geq (.t 40) (.c (.int .i64 0))))⟩,⟨(some 20),none,(.q (.mov (.t 41)))⟩] [0,13,14,20])))))))
(.cond (.t 20)
.skip
(.seq
(.reg 7 [⟨(some 2),none,(.q (.mov (.c (.bool false))))⟩] [2])
.ret)))))))
(.reg 12 [⟨(some 42),none,(.q (.bin .add (.t 14) (.c (.int .i64 1))))⟩,⟨(some 14),none,(.q (.mov (.t 42)))⟩] [0,13,14])))))))
(.seq
(.reg 13 [⟨(some 2),none,(.q (.mov (.c (.bool true))))⟩] [2])
.ret))))
theorem fok256 : FOK Tryz.prog 256 (43,ic256,[(.t 2)]):=.mk (pf:=[]) (an:=[(0,[0]),(1,[0,11]),(2,[2]),(3,[0,13,14]),(4,[0,13,14,15]),(5,[0,3,13,14]),(6,[0,4,13,14]),(7,[2]),(8,[0,4,13,14,20]),(9,[0,4,13,14,20]),(10,[0,4,13,14,20]),(11,[0,13,14,20]),(12,[0,13,14]),(13,[2])]) (by kernel_rfl) (fnOK_of Tryz.func256 (by kernel_rfl) (by kernel_rfl) (by kernel_rfl))
def ic257 : IC :=
(.seq
(.reg 0 [⟨(some 0),none,(.alloc [(.str []),(.str []),(.str []),(.str []),(.str [])])⟩] [0])
(.seq
(.reg 1 [⟨(some 1),none,(.q (.bld [(.str []),(.str []),(.str []),(.str []),(.str [])] [⟨1,⟨1,(.c (.str [110,111,97,114,99,104]))⟩⟩,⟨2,⟨1,(.c (.str [120,56,54,95,54,52]))⟩⟩,⟨3,⟨1,(.c (.str [105,54,56,54]))⟩⟩,⟨4,⟨1,(.c (.str [97,97,114,99,104,54,52]))⟩⟩]))⟩,⟨none,none,(.store 5 (.t 0) (.t 1))⟩] [0])
.ret))
theorem fok257 : FOK Tryz.prog 257 (2,ic257,[(.cell (some 5) 0)]):=.mk (pf:=[]) (an:=[(0,[0]),(1,[0])]) (by kernel_rfl) (fnOK_of Tryz.func257 (by kernel_rfl) (by kernel_rfl) (by kernel_rfl))
def ic258 : IC :=
(.seq
(.reg 0 [⟨(some 2),none,(.boxt (.t 0))⟩,⟨(some 3),none,(.q (.mov (.c (.bool false))))⟩] [1,2])
(.seq
(.reg 1 [⟨(some 4),none,(.q (.load none (.t 1)))⟩,⟨(some 5),none,(.q (.load (some 5) (.t 2)))⟩,⟨(some 6),none,(.callv (.t 4) [(.t 5)])⟩,⟨(some 7),none,(.q (.not (.t 6)))⟩,⟨(some 3),none,(.q (.mov (.t 7)))⟩] [3])
.ret))
theorem fok258 : FOK Tryz.prog 258 (8,ic258,[(.t 3)]):=.mk (pf:=[1000002]) (an:=[(0,[1,2]),(1,[3])]) (by kernel_rfl) (fnOK_of Tryz.func258 (by kernel_rfl) (by kernel_rfl) (by kernel_rfl))
def ic259 : IC :=
(.seq
(.reg 0 [⟨(some 4),none,(.q (.mov (.c (.bool false))))⟩] [0,1])
(.seq
(.reg 1 [⟨(some 5),none,(.q (.mov (.t 0)))⟩,⟨(some 6),none,(.q (.mov (.t 1)))⟩,⟨(some 7),none,(.call 301 [(.t 5),(.t 6)])⟩,⟨(some 8),none,(.q (.bin .geq (.t 7) (.c (.int .i64 0))))⟩,⟨(some 4),none,(.q (.mov (.t 8)))⟩] [4])
.ret))
theorem fok259 : FOK Tryz.prog 259 (9,ic259,[(.t 4)]):=.mk (pf:=[]) (an:=[(0,[0,1]),(1,[4])]) (by kernel_rfl) (fnOK_of Tryz.func259 (by kernel_rfl) (by kernel_rfl) (by kernel_rfl))
def ic260 : IC :=
(.seq
(.reg 0 [⟨(some 3),none,(.q (.mov (.c (.bool false))))⟩] [0,1])
(.seq
(.reg 1 [⟨(some 4),none,(.q (.load none (.t 1)))⟩,⟨(some 5),none,(.q (.mov (.t 0)))⟩,⟨(some 6),none,(.callv (.t 4) [(.t 5)])⟩,⟨(some 7),none,(.q (.not (.t 6)))⟩,⟨(some 3),none,(.q (.mov (.t 7)))⟩] [3])
.ret))
theorem fok260 : FOK Tryz.prog 260 (8,ic260,[(.t 3)]):=.mk (pf:=[]) (an:=[(0,[0,1]),(1,[3])]) (by kernel_rfl) (fnOK_of Tryz.func260 (by kernel_rfl) (by kernel_rfl) (by kernel_rfl))
def ic261 : IC :=
(.reg 0 [⟨(some 3),none,(.q (.mov (.t 0)))⟩,⟨(some 4),none,(.q (.faddr 7 (.t 1)))⟩,⟨(some 5),none,(.q (.load none (.t 4)))⟩,⟨(some 6),none,(.callv (.t 3) [(.c (.int .u8 1)),(.t 5)])⟩,⟨(some 7),none,(.q (.mov (.t 6)))⟩,⟨(some 8),(some ⟨7,true⟩),(.q (.mov (.t 0)))⟩,⟨(some 9),(some ⟨7,true⟩),(.q (.faddr 8 (.t 1)))⟩,⟨(some 10),(some ⟨7,true⟩),(.q (.load none (.t 9)))⟩,⟨(some 11),(some ⟨7,true⟩),(.callv (.t 8) [(.c (.int .u8 2)),(.t 10)])⟩,⟨(some 12),none,(.q (.pick (.t 7) (.t 11) (.c (.bool false))))⟩,⟨(some 13),none,(.q (.mov (.t 12)))⟩,⟨(some 14),(some ⟨13,true⟩),(.q (.mov (.t 0)))⟩,⟨(some 15),(some ⟨13,true⟩),(.q (.faddr 10 (.t 1)))⟩,⟨(some 16),(some ⟨13,true⟩),(.q (.load none (.t 15)))⟩,⟨(some 17),(some ⟨13,true⟩),(.callv (.t 14) [(.c (.int .u8 1)),(.t 16)])⟩,⟨(some 18),none,(.q (.pick (.t 13) (.t 17) (.c (.bool false))))⟩,⟨(some 19),none,(.q (.mov (.t 18)))⟩,⟨(some 20),(some ⟨19,true⟩),(.q (.mov (.t 0)))⟩,⟨(some 21),(some ⟨19,true⟩),(.q (.faddr 11 (.t 1)))⟩,⟨(some 22),(some ⟨19,true⟩),(.q (.load none (.t 21)))⟩,⟨(some 23),(some ⟨19,true⟩),(.callv (.t 20) [(.c (.int .u8 3)),(.t 22)])⟩,⟨(some 24),none,(.q (.pick (.t 19) (.t 23) (.c (.bool false))))⟩,⟨(some 25),none,(.q (.mov (.t 24)))⟩,⟨(some 26),(some ⟨25,true⟩),(.q (.mov (.t 0)))⟩,⟨(some 27),(some ⟨25,true⟩),(.q (.faddr 12 (.t 1)))⟩,⟨(some 28),(some ⟨25,true⟩),(.q (.load none (.t 27)))⟩,⟨(some 29),(some ⟨25,true⟩),(.callv (.t 26) [(.c (.int .u8 1)),(.t 28)])⟩,⟨(some 30),none,(.q (.pick (.t 25) (.t 29) (.c (.bool false))))⟩,⟨(some 31),none,(.q (.mov (.t 30)))⟩,⟨(some 32),(some ⟨31,true⟩),(.q (.mov (.t 0)))⟩,⟨(some 33),(some ⟨31,true⟩),(.q (.faddr 13 (.t 1)))⟩,⟨(some 34),(some ⟨31,true⟩),(.q (.load none (.t 33)))⟩,⟨(some 35),(some ⟨31,true⟩),(.callv (.t 32) [(.c (.int .u8 3)),(.t 34)])⟩,⟨(some 36),none,(.q (.pick (.t 31) (.t 35) (.c (.bool false))))⟩] [])
theorem fok261 : FOK Tryz.prog 261 (37,ic261,[]):=.mk (pf:=[]) (an:=[]) (by kernel_rfl) (fnOK_of Tryz.func261 (by kernel_rfl) (by kernel_rfl) (by kernel_rfl))
def ic262 : IC :=
(.seq
(.reg 0 [⟨(some 2),none,(.boxt (.t 0))⟩,⟨(some 3),none,(.q (.mov (.c (.bool false))))⟩] [1,2])
(.seq
(.reg 1 [⟨(some 4),none,(.q (.load none (.t 1)))⟩,⟨(some 5),none,(.q (.load (some 7) (.t 2)))⟩,⟨(some 6),none,(.callv (.t 4) [(.t 5)])⟩,⟨(some 7),none,(.q (.not (.t 6)))⟩,⟨(some 3),none,(.q (.mov (.t 7)))⟩] [3])
.ret))
theorem fok262 : FOK Tryz.prog 262 (8,ic262,[(.t 3)]):=.mk (pf:=[1000002]) (an:=[(0,[1,2]),(1,[3])]) (by kernel_rfl) (fnOK_of Tryz.func262 (by kernel_rfl) (by kernel_rfl) (by kernel_rfl))
def ic263 : IC :=
(.seq
(.reg 0 [⟨(some 1),none,(.boxt (.t 0))⟩,⟨(some 2),none,(.q (.mov (.c (.int .i64 0))))⟩] [1,2])
(.seq
(.reg 1 [⟨(some 3),none,(.alloc [(.int .i64 0)])⟩,⟨none,none,(.store 1 (.t 3) (.c (.int .i64 0)))⟩] [1,2,3])
(.seq
(.seq
(.reg 2 [⟨(some 4),none,(.q (.load (some 7) (.t 1)))⟩,⟨(some 5),none,(.call 239 [(.t 4)])⟩] [2,3,5])
(.block 0
(.rfunc (.t 5) [6,7]
.skip
(.block 1
(.reg 3 [⟨(some 8),none,(.q (.load none (.t 3)))⟩,⟨(some 9),none,(.q (.bin .add (.t 8) (.c (.int .i64 1))))⟩,⟨none,none,(.store 1 (.t 3) (.t 9))⟩] [])))))
(.seq
(.reg 4 [⟨(some 10),none,(.q (.load none (.t 3)))⟩,⟨(some 2),none,(.q (.mov (.t 10)))⟩] [2])
.ret))))
theorem fok263 : FOK Tryz.prog 263 (11,ic263,[(.t 2)]):=.mk (pf:=[1000001]) (an:=[(0,[1,2]),(1,[1,2,3]),(2,[2,3,5]),(4,[2])]) (by kernel_rfl) (fnOK_of Tryz.func263 (by kernel_rfl) (by kernel_rfl) (by kernel_rfl))
def ic264 : IC :=
(.seq
(.reg 0 [⟨(some 1),none,(.boxt (.t 0))⟩,⟨(some 2),none,(.q (.mov (.c (.int .i64 0))))⟩] [1])
(.seq
(.seq
(.reg 1 [⟨(some 6),none,(.q (.faddr 0 (.t 1)))⟩,⟨(some 7),none,(.q (.load none (.t 6)))⟩,⟨(some 8),none,(.q (.bin .eql (.t 7) (.c (.int .u8 1))))⟩] [1,8])
(.cond (.t 8)
(.seq
(.reg 2 [⟨(some 2),none,(.q (.mov (.c (.int .i64 0))))⟩] [2])
.ret)
.skip))
(.seq
(.reg 3 [⟨(some 3),none,(.q (.mov (.c (.int .i64 0))))⟩] [1,3])
(.seq
(.seq
(.reg 4 [⟨(some 9),none,(.q (.faddr 6 (.t 1)))⟩,⟨(some 10),none,(.q (.load none (.t 9)))⟩,⟨(some 11),none,(.q (.len 0 (.t 10)))⟩,⟨(some 12),none,(.q (.mov (.c (.int .i64 0))))⟩] [3,10,11,12])
(.block 0
(.loop
(.seq
(.reg 5 [⟨(some 13),none,(.q (.bin .lss (.t 12) (.t 11)))⟩] [3,10,11,12,13])
(.seq
(.cond (.t 13)
.skip
(.exit 0))
(.seq
(.block 1
(.seq
(.reg 6 [⟨(some 14),none,(.q (.iaddr 7 (.t 10) (.t 12)))⟩,⟨(some 15),none,(.q (.load (some 7) (.t 14)))⟩,⟨(some 5),none,(.alloc [(.int .u8 0),(.str []),(.int .u8 0),(.int .i64 0),(.str []),(.str []),.nilslice])⟩,⟨none,none,(.store 7 (.t 5) (.t 15))⟩] [3,5,10,11,12])
(.reg 7 [⟨(some 16),none,(.q (.mov (.t 3)))⟩,⟨(some 17),none,(.q (.load (some 7) (.t 5)))⟩,⟨(some 18),none,(.call 264 [(.t 17)])⟩,⟨(some 19),none,(.q (.mm true (.t 16) (.t 18)))⟩,⟨(some 3),none,(.q (.mov (.t 19)))⟩] [3,10,11,12])))
(.reg 8 [⟨(some 20),none,(.q (.bin .add (.t 12) (.c (.int .i64 1))))⟩,⟨(some 12),none,(.q (.mov (.t 20)))⟩] [3,10,11,12])))))))
(.seq
(.reg 9 [⟨(some 21),none,(.q (.mov (.t 3)))⟩,⟨(some 22),none,(.q (.bin .add (.t 21) (.c (.int .i64 1))))⟩,⟨(some 2),none,(.q (.mov (.t 22)))⟩] [2])
.ret)))))
theorem fok264 : FOK Tryz.prog 264 (23,ic264,[(.t 2)]):=.mk (pf:=[1000001]) (an:=[(0,[1]),(1,[1,8]),(2,[2]),(3,[1,3]),(4,[3,10,11,12]),(5,[3,10,11,12,13]),(6,[3,5,10,11,12]),(7,[3,10,11,12]),(8,[3,10,11,12]),(9,[2])]) (by kernel_rfl) (fnOK_of Tryz.func264 (by kernel_rfl) (by kernel_rfl) (by kernel_rfl))
def ic265 : IC :=
(.seq
(.reg 0 [⟨(some 2),none,(.alloc [(.int .i64 0),(.int .i64 0),(.bool false),(.int .u8 0)])⟩] [0,2])
(.seq
(.reg 1 [⟨(some 4),none,(.q (.bld [(.int .i64 0),(.int .i64 0),(.bool false),(.int .u8 0)] [⟨0,⟨1,(.c (.int .i64 0))⟩⟩,⟨1,⟨1,(.c (.int .i64 0))⟩⟩,⟨2,⟨1,(.c (.bool true))⟩⟩,⟨3,⟨1,(.c (.int .u8 3))⟩⟩]))⟩,⟨(some 5),none,(.q (.bld [(.int .i64 0),(.int .i64 0),(.bool false),(.int .u8 0)] [⟨0,⟨1,(.c (.int .i64 2))⟩⟩,⟨1,⟨1,(.c (.int .i64 24))⟩⟩,⟨2,⟨1,(.c (.bool true))⟩⟩,⟨3,⟨1,(.c (.int .u8 3))⟩⟩]))⟩,⟨(some 6),none,(.q (.bld [(.int .i64 0),(.int .i64 0),(.bool false),(.int .u8 0)] [⟨0,⟨1,(.c (.int .i64 2))⟩⟩,⟨1,⟨1,(.c (.int .i64 24))⟩⟩,⟨2,⟨1,(.c (.bool true))⟩⟩,⟨3,⟨1,(.c (.int .u8 3))⟩⟩]))⟩,⟨(some 7),none,(.q (.bld [(.int .i64 0),(.int .i64 0),(.bool false),(.int .u8 0)] [⟨0,⟨1,(.c (.int .i64 2))⟩⟩,⟨1,⟨1,(.c (.int .i64 3))⟩⟩,⟨2,⟨1,(.c (.bool false))⟩⟩,⟨3,⟨1,(.c (.int .u8 1))⟩⟩]))⟩,⟨(some 8),none,(.q (.bld [(.int .i64 0),(.int .i64 0),(.bool false),(.int .u8 0)] [⟨0,⟨1,(.c (.int .i64 2))⟩⟩,⟨1,⟨1,(.c (.int .i64 3))⟩⟩,⟨2,⟨1,(.c (.bool false))⟩⟩,⟨3,⟨1,(.c (.int .u8 2))⟩⟩]))⟩,⟨(some 9),none,(.q (.bld [(.int .i64 0),(.int .i64 0),(.bool false),(.int .u8 0)] [⟨0,⟨1,(.c (.int .i64 2))⟩⟩,⟨1,⟨1,(.c (.int .i64 24))⟩⟩,⟨2,⟨1,(.c (.bool true))⟩⟩,⟨3,⟨1,(.c (.int .u8 3))⟩⟩]))⟩,⟨(some 10),none,(.q (.bld [(.int .i64 0),(.int .i64 0),(.bool false),(.int .u8 0)] [⟨0,⟨1,(.c (.int .i64 2))⟩⟩,⟨1,⟨1,(.c (.int .i64 2))⟩⟩,⟨2,⟨1,(.c (.bool true))⟩⟩,⟨3,⟨1,(.c (.int .u8 3))⟩⟩]))⟩,⟨(some 11),none,(.q (.bld [(.int .i64 0),(.int .i64 0),(.bool false),(.int .u8 0),(.int .i64 0),(.int .i64 0),(.bool false),(.int .u8 0),(.int .i64 0),(.int .i64 0),(.bool false),(.int .u8 0),(.int .i64 0),(.int .i64 0),(.bool false),(.int .u8 0),(.int .i64 0),(.int .i64 0),(.bool false),(.int .u8 0),(.int .i64 0),(.int .i64 0),(.bool false),(.int .u8 0),(.int .i64 0),(.int .i64 0),(.bool false),(.int .u8 0),(.int .i64 0),(.int .i64 0),(.bool false),(.int .u8 0)] [⟨4,⟨4,(.t 4)⟩⟩,⟨8,⟨4,(.t 5)⟩⟩,⟨12,⟨4,(.t 6)⟩⟩,⟨16,⟨4,(.t 7)⟩⟩,⟨20,⟨4,(.t 8)⟩⟩,⟨24,⟨4,(.t 9)⟩⟩,⟨28,⟨4,(.t 10)⟩⟩]))⟩,⟨(some 3),none,(.alloc [(.int .i64 0),(.int .i64 0),(.bool false),(.int .u8 0),(.int .i64 0),(.int .i64 0),(.bool false),(.int .u8 0),(.int .i64 0),(.int .i64 0),(.bool false),(.int .u8 0),(.int .i64 0),(.int .i64 0),(.bool false),(.int .u8 0),(.int .i64 0),(.int .i64 0),(.bool false),(.int .u8 0),(.int .i64 0),(.int .i64 0),(.bool false),(.int .u8 0),(.int .i64 0),(.int .i64 0),(.bool false),(.int .u8 0),(.int .i64 0),(.int .i64 0),(.bool false),(.int .u8 0)])⟩,⟨none,none,(.store 32 (.t 3) (.t 11))⟩] [0,2,3])
(.seq
(.seq
(.reg 2 [⟨(some 12),none,(.q (.mov (.t 0)))⟩,⟨(some 13),none,(.q (.conv .i64 (.t 12)))⟩,⟨(some 14),none,(.q (.bin .geq (.t 13) (.c (.int .i64 8))))⟩] [0,2,3,14])
(.cond (.t 14)
(.seq
(.reg 3 [⟨(some 15),none,(.q (.bld [(.int .i64 0),(.int .i64 0),(.bool false),(.int .u8 0)] []))⟩,⟨none,none,(.store 4 (.t 2) (.t 15))⟩] [2])
.ret)
.skip))
(.seq
(.reg 4 [⟨(some 16),none,(.q (.mov (.t 0)))⟩,⟨(some 17),none,(.q (.aaddr 8 4 (.t 3) (.t 16)))⟩,⟨(some 18),none,(.q (.load (some 4) (.t 17)))⟩,⟨none,none,(.store 4 (.t 2) (.t 18))⟩] [2])
.ret))))
theorem fok265 : FOK Tryz.prog 265 (19,ic265,[(.cell (some 4) 2)]):=.mk (pf:=[]) (an:=[(0,[0,2]),(1,[0,2,3]),(2,[0,2,3,14]),(3,[2]),(4,[2])]) (by kernel_rfl) (fnOK_of Tryz.func265 (by kernel_rfl) (by kernel_rfl) (by kernel_rfl))
def ic266 : IC :=
(.seq
(.reg 0 [oM 8 (.t 1),oQ 9 (.bin .add (.t 8) (cI 1)),oM 6 (.t 9)] [0,1,2,6])
(.block 0
(.loop
(.seq
(.seq
(.reg 1 [oM 10 (.t 6),oM 11 (.t 2),oQ 12 (.bin .lss (.t 10) (.t 11))] [0,1,2,6,12])
(.cond (.t 12)
.skip
(.exit 0)))
(.seq
(.block 1
(.seq
(.reg 3 [oM 15 (.t 6),oM 7 (.t 15)] [0,1,2,6,7])
(.block 2
(.loop
(.seq
(.seq
(.dreg 4 [oM 16 (.t 7),oM 17 (.t 1),oQ 18 (.bin .gtr (.t 16) (.t 17)),oM 19 (.t 18),gQ 20 19 true (.mov (.t 0)),gQ 21 19 true (.mov (.t 7)),gQ 22 19 true (.iaddr 1 (.t 20) (.t 21)),gQ 23 19 true (.load none (.t 22)),gQ 24 19 true (.mov (.t 0)),gQ 25 19 true (.mov (.t 7)),gQ 26 19 true (.bin .sub (.t 25) (cI 1)),gQ 27 19 true (.iaddr 1 (.t 24) (.t 26)),gQ 28 19 true (.load none (.t 27)),gK 29 19 true (.call 272 [(.t 23),(.t 28)]),oQ 30 (.pick (.t 19) (.t 29) (cB false))] false [0,1,2,6,7,30])
(.cond (.t 30)
.skip
(.exit 2)))
(.seq
(.block 3
(.dreg 6 [oM 33 (.t 0),oM 34 (.t 7),oM 35 (.t 0),oM 36 (.t 7),oQ 37 (.bin .sub (.t 36) (cI 1)),oM 38 (.t 0),oM 39 (.t 7),oQ 40 (.bin .sub (.t 39) (cI 1)),oQ 41 (.iaddr 1 (.t 38) (.t 40)),oQ 42 (.load none (.t 41)),oM 43 (.t 0),oM 44 (.t 7),oQ 45 (.iaddr 1 (.t 43) (.t 44)),oQ 46 (.load none (.t 45)),oQ 47 (.iaddr 1 (.t 33) (.t 34)),oN (.store 1 (.t 47) (.t 42)),oQ 48 (.iaddr 1 (.t 35) (.t 37)),oN (.store 1 (.t 48) (.t 46))] false [0,1,2,6,7]))
(.reg 5 [oM 31 (.t 7),oQ 32 (.bin .sub (.t 31) (cI 1)),oM 7 (.t 32)] [0,1,2,6,7])))))))
(.reg 2 [oM 13 (.t 6),oQ 14 (.bin .add (.t 13) (cI 1)),oM 6 (.t 14)] [0,1,2,6]))))))
theorem fok266 : FOK Tryz.prog 266 (49,ic266,[]):=fokA [] Tryz.func266
def ic267 : IC :=
(.seq
(.reg 0 [oM 11 (.t 1),oM 6 (.t 11)] [0,1,2,6])
(.seq
(.reg 1 [oM 7 (cI 0)] [0,1,2,6,7])
(.seq
(.reg 2 [oM 12 (.t 2),oM 13 (.t 1),oQ 14 (.bin .sub (.t 12) (.t 13)),oM 8 (.t 14)] [0,6,7,8])
(.seq
(.seq
(.reg 3 [oM 15 (.t 8),oQ 16 (.bin .sub (.t 15) (cI 1)),oQ 17 (.bin .quo (.t 16) (cI 2)),oM 9 (.t 17)] [0,6,7,8,9])
(.block 0
(.loop
(.seq
(.seq
(.reg 4 [oM 18 (.t 9),oQ 19 (.bin .geq (.t 18) (cI 0))] [0,6,7,8,9,19])
(.cond (.t 19)
.skip
(.exit 0)))
(.seq
(.block 1
(.reg 6 [oM 22 (.t 0),oM 23 (.t 9),oM 24 (.t 8),oM 25 (.t 6),oK 26 (.call 302 [(.t 22),(.t 23),(.t 24),(.t 25)])] [0,6,7,8,9]))
(.reg 5 [oM 20 (.t 9),oQ 21 (.bin .sub (.t 20) (cI 1)),oM 9 (.t 21)] [0,6,7,8,9]))))))
(.seq
(.reg 7 [oM 27 (.t 8),oQ 28 (.bin .sub (.t 27) (cI 1)),oM 10 (.t 28)] [0,6,7,10])
(.block 2
(.loop
(.seq
(.seq
(.reg 8 [oM 29 (.t 10),oQ 30 (.bin .geq (.t 29) (cI 0))] [0,6,7,10,30])
(.cond (.t 30)
.skip
(.exit 2)))
(.seq
(.block 3
(.seq
(.dreg 10 [oM 33 (.t 0),oM 34 (.t 6),oM 35 (.t 0),oM 36 (.t 6),oM 37 (.t 10),oQ 38 (.bin .add (.t 36) (.t 37)),oM 39 (.t 0),oM 40 (.t 6),oM 41 (.t 10),oQ 42 (.bin .add (.t 40) (.t 41)),oQ 43 (.iaddr 1 (.t 39) (.t 42)),oQ 44 (.load none (.t 43)),oM 45 (.t 0),oM 46 (.t 6),oQ 47 (.iaddr 1 (.t 45) (.t 46)),oQ 48 (.load none (.t 47)),oQ 49 (.iaddr 1 (.t 33) (.t 34)),oN (.store 1 (.t 49) (.t 44)),oQ 50 (.iaddr 1 (.t 35) (.t 38)),oN (.store 1 (.t 50) (.t 48))] false [0,6,7,10])
(.reg 11 [oM 51 (.t 0),oM 52 (.t 7),oM 53 (.t 10),oM 54 (.t 6),oK 55 (.call 302 [(.t 51),(.t 52),(.t 53),(.t 54)])] [0,6,7,10])))
(.reg 9 [oM 31 (.t 10),oQ 32 (.bin .sub (.t 31) (cI 1)),oM 10 (.t 32)] [0,6,7,10]))))))))))
theorem fok267 : FOK Tryz.prog 267 (56,ic267,[]):=fokA [] Tryz.func267
def ic268 : IC :=
(.seq
(.reg 0 [oM 11 (.t 2),oM 12 (.t 1),oQ 13 (.bin .sub (.t 11) (.t 12)),oM 6 (.t 13)] [0,1,6])
(.seq
(.reg 1 [oM 14 (.t 6),oQ 15 (.bin .geq (.t 14) (cI 8))] [0,1,6,15])
(.cond (.t 15)
(.seq
(.reg 2 [oM 16 (.t 6),oQ 17 (.conv .u64 (.t 16)),oK 7 (.alloc [(.int .u64 0)]),oN (.store 1 (.t 7) (.t 17))] [0,1,6,7])
(.seq
(.reg 3 [oM 18 (.t 6),oK 19 (.call 276 [(.t 18)]),oM 8 (.t 19)] [0,1,6,7,8])
(.seq
(.reg 4 [oM 20 (.t 1),oM 21 (.t 6),oQ 22 (.bin .quo (.t 21) (cI 4)),oQ 23 (.bin .mul (.t 22) (cI 2)),oQ 24 (.bin .add (.t 20) (.t 23)),oQ 25 (.bin .sub (.t 24) (cI 1)),oM 9 (.t 25)] [0,1,6,7,8,9])
(.block 0
(.loop
(.seq
(.seq
(.reg 5 [oM 26 (.t 9),oM 27 (.t 1),oM 28 (.t 6),oQ 29 (.bin .quo (.t 28) (cI 4)),oQ 30 (.bin .mul (.t 29) (cI 2)),oQ 31 (.bin .add (.t 27) (.t 30)),oQ 32 (.bin .add (.t 31) (cI 1)),oQ 33 (.bin .leq (.t 26) (.t 32))] [0,1,6,7,8,9,33])
(.cond (.t 33)
.skip
(.exit 0)))
(.seq
(.block 1
(.seq
(.reg 7 [oK 36 (.call 277 [(.t 7)]),oM 37 (.t 8),oQ 38 (.bin .sub (.t 37) (.c (.int .u64 1))),oQ 39 (.bin .and (.t 36) (.t 38)),oQ 40 (.conv .i64 (.t 39)),oM 10 (.t 40)] [0,1,6,7,8,9,10])
(.seq
(.seq
(.reg 8 [oM 41 (.t 10),oM 42 (.t 6),oQ 43 (.bin .geq (.t 41) (.t 42))] [0,1,6,7,8,9,10,43])
(.cond (.t 43)
(.reg 9 [oM 44 (.t 10),oM 45 (.t 6),oQ 46 (.bin .sub (.t 44) (.t 45)),oM 10 (.t 46)] [0,1,6,7,8,9,10])
.skip))
(.dreg 10 [oM 47 (.t 0),oM 48 (.t 9),oM 49 (.t 0),oM 50 (.t 1),oM 51 (.t 10),oQ 52 (.bin .add (.t 50) (.t 51)),oM 53 (.t 0),oM 54 (.t 1),oM 55 (.t 10),oQ 56 (.bin .add (.t 54) (.t 55)),oQ 57 (.iaddr 1 (.t 53) (.t 56)),oQ 58 (.load none (.t 57)),oM 59 (.t 0),oM 60 (.t 9),oQ 61 (.iaddr 1 (.t 59) (.t 60)),oQ 62 (.load none (.t 61)),oQ 63 (.iaddr 1 (.t 47) (.t 48)),oN (.store 1 (.t 63) (.t 58)),oQ 64 (.iaddr 1 (.t 49) (.t 52)),oN (.store 1 (.t 64) (.t 62))] false [0,1,6,7,8,9]))))
(.reg 6 [oM 34 (.t 9),oQ 35 (.bin .add (.t 34) (cI 1)),oM 9 (.t 35)] [0,1,6,7,8,9]))))))))
.skip)))
theorem fok268 : FOK Tryz.prog 268 (65,ic268,[]):=fokA [] Tryz.func268
def ic269 : IC :=
(.seq
(.reg 0 [oM 6 (cI 0),oM 7 (cI 0)] [0,1,2])
(.seq
(.reg 1 [oM 13 (.t 2),oM 14 (.t 1),oQ 15 (.bin .sub (.t 13) (.t 14)),oM 8 (.t 15)] [0,1,8])
(.seq
(.reg 2 [oK 9 (.alloc [(zI 0)])] [0,1,8,9])
(.seq
(.reg 3 [oM 16 (.t 1),oM 17 (.t 8),oQ 18 (.bin .quo (.t 17) (cI 4)),oQ 19 (.bin .mul (.t 18) (cI 1)),oQ 20 (.bin .add (.t 16) (.t 19)),oM 10 (.t 20)] [0,1,8,9,10])
(.seq
(.reg 4 [oM 21 (.t 1),oM 22 (.t 8),oQ 23 (.bin .quo (.t 22) (cI 4)),oQ 24 (.bin .mul (.t 23) (cI 2)),oQ 25 (.bin .add (.t 21) (.t 24)),oM 11 (.t 25)] [0,1,8,9,10,11])
(.seq
(.reg 5 [oM 26 (.t 1),oM 27 (.t 8),oQ 28 (.bin .quo (.t 27) (cI 4)),oQ 29 (.bin .mul (.t 28) (cI 3)),oQ 30 (.bin .add (.t 26) (.t 29)),oM 12 (.t 30)] [0,8,9,10,11,12])
(.seq
(.seq
(.reg 6 [oM 31 (.t 8),oQ 32 (.bin .geq (.t 31) (cI 8))] [0,8,9,10,11,12,32])
(.cond (.t 32)
(.seq
(.seq
(.reg 7 [oM 33 (.t 8),oQ 34 (.bin .geq (.t 33) (cI 50))] [0,9,10,11,12,34])
(.cond (.t 34)
(.seq
(.reg 8 [oM 35 (.t 0),oM 36 (.t 10),oK 37 (.call 303 [(.t 35),(.t 36),(.t 9)]),oM 10 (.t 37)] [0,9,10,11,12])
(.seq
(.reg 9 [oM 38 (.t 0),oM 39 (.t 11),oK 40 (.call 303 [(.t 38),(.t 39),(.t 9)]),oM 11 (.t 40)] [0,9,10,11,12])
(.reg 10 [oM 41 (.t 0),oM 42 (.t 12),oK 43 (.call 303 [(.t 41),(.t 42),(.t 9)]),oM 12 (.t 43)] [0,9,10,11,12])))
.skip))
(.reg 11 [oM 44 (.t 0),oM 45 (.t 10),oM 46 (.t 11),oM 47 (.t 12),oK 48 (.call 304 [(.t 44),(.t 45),(.t 46),(.t 47),(.t 9)]),oM 11 (.t 48)] [9,11]))
.skip))
(.seq
(.reg 12 [oQ 49 (.load none (.t 9))] [11,49])
(.block 0
(.seq
(.reg 14 [oQ 52 (.bin .eql (.t 49) (cI 0)),oM 51 (.t 52)] [11,49,51])
(.cond (.t 51)
(.seq
(.reg 15 [oM 53 (.t 11),oM 6 (.t 53),oM 7 (cI 1)] [6,7])
.ret)
(.seq
(.reg 16 [oQ 55 (.bin .eql (.t 49) (cI 12)),oM 54 (.t 55)] [11,54])
(.cond (.t 54)
(.seq
(.reg 17 [oM 56 (.t 11),oM 6 (.t 56),oM 7 (cI 2)] [6,7])
.ret)
(.seq
(.reg 13 [oM 50 (.t 11),oM 6 (.t 50),oM 7 (cI 0)] [6,7])
.ret))))))))))))))
theorem fok269 : FOK Tryz.prog 269 (57,ic269,[(.t 6),(.t 7)]):=fokA [] Tryz.func269
def ic270 : IC :=
(.seq
(.reg 0 [oM 8 (.t 1),oM 6 (.t 8)] [0,2,6])
(.seq
(.reg 1 [oM 9 (.t 2),oQ 10 (.bin .sub (.t 9) (cI 1)),oM 7 (.t 10)] [0,6,7])
(.block 0
(.loop
(.seq
(.seq
(.reg 2 [oM 11 (.t 6),oM 12 (.t 7),oQ 13 (.bin .lss (.t 11) (.t 12))] [0,6,7,13])
(.cond (.t 13)
.skip
(.exit 0)))
(.block 1
(.seq
(.dreg 3 [oM 14 (.t 0),oM 15 (.t 6),oM 16 (.t 0),oM 17 (.t 7),oM 18 (.t 0),oM 19 (.t 7),oQ 20 (.iaddr 1 (.t 18) (.t 19)),oQ 21 (.load none (.t 20)),oM 22 (.t 0),oM 23 (.t 6),oQ 24 (.iaddr 1 (.t 22) (.t 23)),oQ 25 (.load none (.t 24)),oQ 26 (.iaddr 1 (.t 14) (.t 15)),oN (.store 1 (.t 26) (.t 21)),oQ 27 (.iaddr 1 (.t 16) (.t 17)),oN (.store 1 (.t 27) (.t 25))] false [0,6,7])
(.seq
(.reg 4 [oM 28 (.t 6),oQ 29 (.bin .add (.t 28) (cI 1)),oM 6 (.t 29)] [0,6,7])
(.reg 5 [oM 30 (.t 7),oQ 31 (.bin .sub (.t 30) (cI 1)),oM 7 (.t 31)] [0,6,7])))))))))
theorem fok270 : FOK Tryz.prog 270 (32,ic270,[]):=fokA [] Tryz.func270
def ic271 : IC :=
(.seq
(.reg 0 [oM 6 (cB false)] [0,1,2])
(.seq
(.reg 1 [oM 11 (.t 1),oQ 12 (.bin .add (.t 11) (cI 1)),oM 7 (.t 12)] [0,1,2,7])
(.seq
(.seq
(.reg 2 [oM 8 (cI 0)] [0,1,2,7,8])
(.block 0
(.loop
(.seq
(.seq
(.reg 3 [oM 13 (.t 8),oQ 14 (.bin .lss (.t 13) (cI 5))] [0,1,2,7,8,14])
(.cond (.t 14)
.skip
(.exit 0)))
(.seq
(.block 1
(.seq
(.block 2
(.loop
(.seq
(.seq
(.dreg 5 [oM 17 (.t 7),oM 18 (.t 2),oQ 19 (.bin .lss (.t 17) (.t 18)),oM 20 (.t 19),gQ 21 20 true (.mov (.t 0)),gQ 22 20 true (.mov (.t 7)),gQ 23 20 true (.iaddr 1 (.t 21) (.t 22)),gQ 24 20 true (.load none (.t 23)),gQ 25 20 true (.mov (.t 0)),gQ 26 20 true (.mov (.t 7)),gQ 27 20 true (.bin .sub (.t 26) (cI 1)),gQ 28 20 true (.iaddr 1 (.t 25) (.t 27)),gQ 29 20 true (.load none (.t 28)),gK 30 20 true (.call 272 [(.t 24),(.t 29)]),gQ 31 20 true (.not (.t 30)),oQ 32 (.pick (.t 20) (.t 31) (cB false))] false [0,1,2,7,8,32])
(.cond (.t 32)
.skip
(.exit 2)))
(.block 3
(.reg 6 [oM 33 (.t 7),oQ 34 (.bin .add (.t 33) (cI 1)),oM 7 (.t 34)] [0,1,2,7,8])))))
(.seq
(.seq
(.reg 7 [oM 35 (.t 7),oM 36 (.t 2),oQ 37 (.bin .eql (.t 35) (.t 36))] [0,1,2,7,8,37])
(.cond (.t 37)
(.seq
(.reg 8 [oM 6 (cB true)] [6])
.ret)
.skip))
(.seq
(.seq
(.reg 9 [oM 38 (.t 2),oM 39 (.t 1),oQ 40 (.bin .sub (.t 38) (.t 39)),oQ 41 (.bin .lss (.t 40) (cI 50))] [0,1,2,7,8,41])
(.cond (.t 41)
(.seq
(.reg 10 [oM 6 (cB false)] [6])
.ret)
.skip))
(.seq
(.dreg 11 [oM 42 (.t 0),oM 43 (.t 7),oM 44 (.t 0),oM 45 (.t 7),oQ 46 (.bin .sub (.t 45) (cI 1)),oM 47 (.t 0),oM 48 (.t 7),oQ 49 (.bin .sub (.t 48) (cI 1)),oQ 50 (.iaddr 1 (.t 47) (.t 49)),oQ 51 (.load none (.t 50)),oM 52 (.t 0),oM 53 (.t 7),oQ 54 (.iaddr 1 (.t 52) (.t 53)),oQ 55 (.load none (.t 54)),oQ 56 (.iaddr 1 (.t 42) (.t 43)),oN (.store 1 (.t 56) (.t 51)),oQ 57 (.iaddr 1 (.t 44) (.t 46)),oN (.store 1 (.t 57) (.t 55))] false [0,1,2,7,8])
(.seq
(.seq
(.reg 12 [oM 58 (.t 7),oM 59 (.t 1),oQ 60 (.bin .sub (.t 58) (.t 59)),oQ 61 (.bin .geq (.t 60) (cI 2))] [0,1,2,7,8,61])
(.cond (.t 61)
(.seq
(.reg 13 [oM 62 (.t 7),oQ 63 (.bin .sub (.t 62) (cI 1)),oM 9 (.t 63)] [0,1,2,7,8,9])
(.block 4
(.loop
(.seq
(.seq
(.reg 14 [oM 64 (.t 9),oQ 65 (.bin .geq (.t 64) (cI 1))] [0,1,2,7,8,9,65])
(.cond (.t 65)
.skip
(.exit 4)))
(.seq
(.block 5
(.seq
(.seq
(.dreg 16 [oM 68 (.t 0),oM 69 (.t 9),oQ 70 (.iaddr 1 (.t 68) (.t 69)),oQ 71 (.load none (.t 70)),oM 72 (.t 0),oM 73 (.t 9),oQ 74 (.bin .sub (.t 73) (cI 1)),oQ 75 (.iaddr 1 (.t 72) (.t 74)),oQ 76 (.load none (.t 75)),oK 77 (.call 272 [(.t 71),(.t 76)]),oQ 78 (.not (.t 77))] false [0,1,2,7,8,9,78])
(.cond (.t 78)
(.exit 4)
.skip))
(.dreg 17 [oM 79 (.t 0),oM 80 (.t 9),oM 81 (.t 0),oM 82 (.t 9),oQ 83 (.bin .sub (.t 82) (cI 1)),oM 84 (.t 0),oM 85 (.t 9),oQ 86 (.bin .sub (.t 85) (cI 1)),oQ 87 (.iaddr 1 (.t 84) (.t 86)),oQ 88 (.load none (.t 87)),oM 89 (.t 0),oM 90 (.t 9),oQ 91 (.iaddr 1 (.t 89) (.t 90)),oQ 92 (.load none (.t 91)),oQ 93 (.iaddr 1 (.t 79) (.t 80)),oN (.store 1 (.t 93) (.t 88)),oQ 94 (.iaddr 1 (.t 81) (.t 83)),oN (.store 1 (.t 94) (.t 92))] false [0,1,2,7,8,9])))
(.reg 15 [oM 66 (.t 9),oQ 67 (.bin .sub (.t 66) (cI 1)),oM 9 (.t 67)] [0,1,2,7,8,9]))))))
.skip))
(.seq
(.reg 18 [oM 95 (.t 2),oM 96 (.t 7),oQ 97 (.bin .sub (.t 95) (.t 96)),oQ 98 (.bin .geq (.t 97) (cI 2))] [0,1,2,7,8,98])
(.cond (.t 98)
(.seq
(.reg 19 [oM 99 (.t 7),oQ 100 (.bin .add (.t 99) (cI 1)),oM 10 (.t 100)] [0,1,2,7,8,10])
(.block 6
(.loop
(.seq
(.seq
(.reg 20 [oM 101 (.t 10),oM 102 (.t 2),oQ 103 (.bin .lss (.t 101) (.t 102))] [0,1,2,7,8,10,103])
(.cond (.t 103)
.skip
(.exit 6)))
(.seq
(.block 7
(.seq
(.seq
(.dreg 22 [oM 106 (.t 0),oM 107 (.t 10),oQ 108 (.iaddr 1 (.t 106) (.t 107)),oQ 109 (.load none (.t 108)),oM 110 (.t 0),oM 111 (.t 10),oQ 112 (.bin .sub (.t 111) (cI 1)),oQ 113 (.iaddr 1 (.t 110) (.t 112)),oQ 114 (.load none (.t 113)),oK 115 (.call 272 [(.t 109),(.t 114)]),oQ 116 (.not (.t 115))] false [0,1,2,7,8,10,116])
(.cond (.t 116)
(.exit 6)
.skip))
(.dreg 23 [oM 117 (.t 0),oM 118 (.t 10),oM 119 (.t 0),oM 120 (.t 10),oQ 121 (.bin .sub (.t 120) (cI 1)),oM 122 (.t 0),oM 123 (.t 10),oQ 124 (.bin .sub (.t 123) (cI 1)),oQ 125 (.iaddr 1 (.t 122) (.t 124)),oQ 126 (.load none (.t 125)),oM 127 (.t 0),oM 128 (.t 10),oQ 129 (.iaddr 1 (.t 127) (.t 128)),oQ 130 (.load none (.t 129)),oQ 131 (.iaddr 1 (.t 117) (.t 118)),oN (.store 1 (.t 131) (.t 126)),oQ 132 (.iaddr 1 (.t 119) (.t 121)),oN (.store 1 (.t 132) (.t 130))] false [0,1,2,7,8,10])))
(.reg 21 [oM 104 (.t 10),oQ 105 (.bin .add (.t 104) (cI 1)),oM 10 (.t 105)] [0,1,2,7,8,10]))))))
.skip))))))))
(.reg 4 [oM 15 (.t 8),oQ 16 (.bin .add (.t 15) (cI 1)),oM 8 (.t 16)] [0,1,2,7,8]))))))
(.seq
(.reg 24 [oM 6 (cB false)] [6])
.ret))))
theorem fok271 : FOK Tryz.prog 271 (133,ic271,[(.t 6)]):=fokA [] Tryz.func271
def ic272 : IC :=
(.seq
(.reg 0 [oM 4 (cB false)] [0,1])
(.seq
(.reg 1 [oM 5 (.t 0),oK 6 (.call 305 [(.t 5)]),oM 7 (.t 6),gQ 8 7 true (.mov (.t 1)),gK 9 7 true (.call 305 [(.t 8)]),gQ 10 7 true (.not (.t 9)),oQ 11 (.pick (.t 7) (.t 10) (cB false)),oM 12 (.t 11),gQ 13 12 false (.mov (.t 0)),gQ 14 12 false (.mov (.t 1)),gQ 15 12 false (.bin .lss (.t 13) (.t 14)),oQ 16 (.pick (.t 12) (cB true) (.t 15)),oM 4 (.t 16)] [4])
.ret))
theorem fok272 : FOK Tryz.prog 272 (17,ic272,[(.t 4)]):=fokA [] Tryz.func272
def ic273 : IC :=
(.seq
(.reg 0 [oM 8 (cI 0)] [0,1,2,3])
(.seq
(.dreg 1 [oM 11 (.t 0),oM 12 (.t 1),oM 13 (.t 0),oM 14 (.t 3),oM 15 (.t 0),oM 16 (.t 3),oQ 17 (.iaddr 1 (.t 15) (.t 16)),oQ 18 (.load none (.t 17)),oM 19 (.t 0),oM 20 (.t 1),oQ 21 (.iaddr 1 (.t 19) (.t 20)),oQ 22 (.load none (.t 21)),oQ 23 (.iaddr 1 (.t 11) (.t 12)),oN (.store 1 (.t 23) (.t 18)),oQ 24 (.iaddr 1 (.t 13) (.t 14)),oN (.store 1 (.t 24) (.t 22))] false [0,1,2])
(.seq
(.reg 2 [oM 25 (.t 1),oQ 26 (.bin .add (.t 25) (cI 1)),oM 27 (.t 2),oQ 28 (.bin .sub (.t 27) (cI 1)),oM 9 (.t 26),oM 10 (.t 28)] [0,1,9,10])
(.seq
(.block 0
(.loop
(.block 1
(.seq
(.block 2
(.loop
(.seq
(.seq
(.dreg 3 [oM 29 (.t 9),oM 30 (.t 10),oQ 31 (.bin .leq (.t 29) (.t 30)),oM 32 (.t 31),gQ 33 32 true (.mov (.t 0)),gQ 34 32 true (.mov (.t 1)),gQ 35 32 true (.iaddr 1 (.t 33) (.t 34)),gQ 36 32 true (.load none (.t 35)),gQ 37 32 true (.mov (.t 0)),gQ 38 32 true (.mov (.t 9)),gQ 39 32 true (.iaddr 1 (.t 37) (.t 38)),gQ 40 32 true (.load none (.t 39)),gK 41 32 true (.call 272 [(.t 36),(.t 40)]),gQ 42 32 true (.not (.t 41)),oQ 43 (.pick (.t 32) (.t 42) (cB false))] false [0,1,9,10,43])
(.cond (.t 43)
.skip
(.exit 2)))
(.block 3
(.reg 4 [oM 44 (.t 9),oQ 45 (.bin .add (.t 44) (cI 1)),oM 9 (.t 45)] [0,1,9,10])))))
(.seq
(.block 4
(.loop
(.seq
(.seq
(.dreg 5 [oM 46 (.t 9),oM 47 (.t 10),oQ 48 (.bin .leq (.t 46) (.t 47)),oM 49 (.t 48),gQ 50 49 true (.mov (.t 0)),gQ 51 49 true (.mov (.t 1)),gQ 52 49 true (.iaddr 1 (.t 50) (.t 51)),gQ 53 49 true (.load none (.t 52)),gQ 54 49 true (.mov (.t 0)),gQ 55 49 true (.mov (.t 10)),gQ 56 49 true (.iaddr 1 (.t 54) (.t 55)),gQ 57 49 true (.load none (.t 56)),gK 58 49 true (.call 272 [(.t 53),(.t 57)]),oQ 59 (.pick (.t 49) (.t 58) (cB false))] false [0,1,9,10,59])
(.cond (.t 59)
.skip
(.exit 4)))
(.block 5
(.reg 6 [oM 60 (.t 10),oQ 61 (.bin .sub (.t 60) (cI 1)),oM 10 (.t 61)] [0,1,9,10])))))
(.seq
(.seq
(.reg 7 [oM 62 (.t 9),oM 63 (.t 10),oQ 64 (.bin .gtr (.t 62) (.t 63))] [0,1,9,10,64])
(.cond (.t 64)
(.exit 0)
.skip))
(.seq
(.dreg 8 [oM 65 (.t 0),oM 66 (.t 9),oM 67 (.t 0),oM 68 (.t 10),oM 69 (.t 0),oM 70 (.t 10),oQ 71 (.iaddr 1 (.t 69) (.t 70)),oQ 72 (.load none (.t 71)),oM 73 (.t 0),oM 74 (.t 9),oQ 75 (.iaddr 1 (.t 73) (.t 74)),oQ 76 (.load none (.t 75)),oQ 77 (.iaddr 1 (.t 65) (.t 66)),oN (.store 1 (.t 77) (.t 72)),oQ 78 (.iaddr 1 (.t 67) (.t 68)),oN (.store 1 (.t 78) (.t 76))] false [0,1,9,10])
(.seq
(.reg 9 [oM 79 (.t 9),oQ 80 (.bin .add (.t 79) (cI 1)),oM 9 (.t 80)] [0,1,9,10])
(.reg 10 [oM 81 (.t 10),oQ 82 (.bin .sub (.t 81) (cI 1)),oM 10 (.t 82)] [0,1,9,10])))))))))
(.seq
(.reg 11 [oM 83 (.t 9),oM 8 (.t 83)] [8])
.ret)))))
theorem fok273 : FOK Tryz.prog 273 (84,ic273,[(.t 8)]):=fokA [] Tryz.func273
def ic274 : IC :=
(.seq
(.reg 0 [oM 8 (cI 0),oM 9 (cB false)] [0,1,2,3])
(.seq
(.dreg 1 [oM 12 (.t 0),oM 13 (.t 1),oM 14 (.t 0),oM 15 (.t 3),oM 16 (.t 0),oM 17 (.t 3),oQ 18 (.iaddr 1 (.t 16) (.t 17)),oQ 19 (.load none (.t 18)),oM 20 (.t 0),oM 21 (.t 1),oQ 22 (.iaddr 1 (.t 20) (.t 21)),oQ 23 (.load none (.t 22)),oQ 24 (.iaddr 1 (.t 12) (.t 13)),oN (.store 1 (.t 24) (.t 19)),oQ 25 (.iaddr 1 (.t 14) (.t 15)),oN (.store 1 (.t 25) (.t 23))] false [0,1,2])
(.seq
(.reg 2 [oM 26 (.t 1),oQ 27 (.bin .add (.t 26) (cI 1)),oM 28 (.t 2),oQ 29 (.bin .sub (.t 28) (cI 1)),oM 10 (.t 27),oM 11 (.t 29)] [0,1,10,11])
(.seq
(.block 0
(.loop
(.seq
(.seq
(.dreg 3 [oM 30 (.t 10),oM 31 (.t 11),oQ 32 (.bin .leq (.t 30) (.t 31)),oM 33 (.t 32),gQ 34 33 true (.mov (.t 0)),gQ 35 33 true (.mov (.t 10)),gQ 36 33 true (.iaddr 1 (.t 34) (.t 35)),gQ 37 33 true (.load none (.t 36)),gQ 38 33 true (.mov (.t 0)),gQ 39 33 true (.mov (.t 1)),gQ 40 33 true (.iaddr 1 (.t 38) (.t 39)),gQ 41 33 true (.load none (.t 40)),gK 42 33 true (.call 272 [(.t 37),(.t 41)]),oQ 43 (.pick (.t 33) (.t 42) (cB false))] false [0,1,10,11,43])
(.cond (.t 43)
.skip
(.exit 0)))
(.block 1
(.reg 4 [oM 44 (.t 10),oQ 45 (.bin .add (.t 44) (cI 1)),oM 10 (.t 45)] [0,1,10,11])))))
(.seq
(.block 2
(.loop
(.seq
(.seq
(.dreg 5 [oM 46 (.t 10),oM 47 (.t 11),oQ 48 (.bin .leq (.t 46) (.t 47)),oM 49 (.t 48),gQ 50 49 true (.mov (.t 0)),gQ 51 49 true (.mov (.t 11)),gQ 52 49 true (.iaddr 1 (.t 50) (.t 51)),gQ 53 49 true (.load none (.t 52)),gQ 54 49 true (.mov (.t 0)),gQ 55 49 true (.mov (.t 1)),gQ 56 49 true (.iaddr 1 (.t 54) (.t 55)),gQ 57 49 true (.load none (.t 56)),gK 58 49 true (.call 272 [(.t 53),(.t 57)]),gQ 59 49 true (.not (.t 58)),oQ 60 (.pick (.t 49) (.t 59) (cB false))] false [0,1,10,11,60])
(.cond (.t 60)
.skip
(.exit 2)))
(.block 3
(.reg 6 [oM 61 (.t 11),oQ 62 (.bin .sub (.t 61) (cI 1)),oM 11 (.t 62)] [0,1,10,11])))))
(.seq
(.seq
(.reg 7 [oM 63 (.t 10),oM 64 (.t 11),oQ 65 (.bin .gtr (.t 63) (.t 64))] [0,1,10,11,65])
(.cond (.t 65)
(.seq
(.dreg 8 [oM 66 (.t 0),oM 67 (.t 11),oM 68 (.t 0),oM 69 (.t 1),oM 70 (.t 0),oM 71 (.t 1),oQ 72 (.iaddr 1 (.t 70) (.t 71)),oQ 73 (.load none (.t 72)),oM 74 (.t 0),oM 75 (.t 11),oQ 76 (.iaddr 1 (.t 74) (.t 75)),oQ 77 (.load none (.t 76)),oQ 78 (.iaddr 1 (.t 66) (.t 67)),oN (.store 1 (.t 78) (.t 73)),oQ 79 (.iaddr 1 (.t 68) (.t 69)),oN (.store 1 (.t 79) (.t 77))] false [11])
(.seq
(.reg 9 [oM 80 (.t 11),oM 8 (.t 80),oM 9 (cB true)] [8,9])
.ret))
.skip))
(.seq
(.dreg 10 [oM 81 (.t 0),oM 82 (.t 10),oM 83 (.t 0),oM 84 (.t 11),oM 85 (.t 0),oM 86 (.t 11),oQ 87 (.iaddr 1 (.t 85) (.t 86)),oQ 88 (.load none (.t 87)),oM 89 (.t 0),oM 90 (.t 10),oQ 91 (.iaddr 1 (.t 89) (.t 90)),oQ 92 (.load none (.t 91)),oQ 93 (.iaddr 1 (.t 81) (.t 82)),oN (.store 1 (.t 93) (.t 88)),oQ 94 (.iaddr 1 (.t 83) (.t 84)),oN (.store 1 (.t 94) (.t 92))] false [0,1,10,11])
(.seq
(.reg 11 [oM 95 (.t 10),oQ 96 (.bin .add (.t 95) (cI 1)),oM 10 (.t 96)] [0,1,10,11])
(.seq
(.reg 12 [oM 97 (.t 11),oQ 98 (.bin .sub (.t 97) (cI 1)),oM 11 (.t 98)] [0,1,10,11])
(.seq
(.block 4
(.loop
(.block 5
(.seq
(.block 6
(.loop
(.seq
(.seq
(.dreg 13 [oM 99 (.t 10),oM 100 (.t 11),oQ 101 (.bin .leq (.t 99) (.t 100)),oM 102 (.t 101),gQ 103 102 true (.mov (.t 0)),gQ 104 102 true (.mov (.t 10)),gQ 105 102 true (.iaddr 1 (.t 103) (.t 104)),gQ 106 102 true (.load none (.t 105)),gQ 107 102 true (.mov (.t 0)),gQ 108 102 true (.mov (.t 1)),gQ 109 102 true (.iaddr 1 (.t 107) (.t 108)),gQ 110 102 true (.load none (.t 109)),gK 111 102 true (.call 272 [(.t 106),(.t 110)]),oQ 112 (.pick (.t 102) (.t 111) (cB false))] false [0,1,10,11,112])
(.cond (.t 112)
.skip
(.exit 6)))
(.block 7
(.reg 14 [oM 113 (.t 10),oQ 114 (.bin .add (.t 113) (cI 1)),oM 10 (.t 114)] [0,1,10,11])))))
(.seq
(.block 8
(.loop
(.seq
(.seq
(.dreg 15 [oM 115 (.t 10),oM 116 (.t 11),oQ 117 (.bin .leq (.t 115) (.t 116)),oM 118 (.t 117),gQ 119 118 true (.mov (.t 0)),gQ 120 118 true (.mov (.t 11)),gQ 121 118 true (.iaddr 1 (.t 119) (.t 120)),gQ 122 118 true (.load none (.t 121)),gQ 123 118 true (.mov (.t 0)),gQ 124 118 true (.mov (.t 1)),gQ 125 118 true (.iaddr 1 (.t 123) (.t 124)),gQ 126 118 true (.load none (.t 125)),gK 127 118 true (.call 272 [(.t 122),(.t 126)]),gQ 128 118 true (.not (.t 127)),oQ 129 (.pick (.t 118) (.t 128) (cB false))] false [0,1,10,11,129])
(.cond (.t 129)
.skip
(.exit 8)))
(.block 9
(.reg 16 [oM 130 (.t 11),oQ 131 (.bin .sub (.t 130) (cI 1)),oM 11 (.t 131)] [0,1,10,11])))))
(.seq
(.seq
(.reg 17 [oM 132 (.t 10),oM 133 (.t 11),oQ 134 (.bin .gtr (.t 132) (.t 133))] [0,1,10,11,134])
(.cond (.t 134)
(.exit 4)
.skip))
(.seq
(.dreg 18 [oM 135 (.t 0),oM 136 (.t 10),oM 137 (.t 0),oM 138 (.t 11),oM 139 (.t 0),oM 140 (.t 11),oQ 141 (.iaddr 1 (.t 139) (.t 140)),oQ 142 (.load none (.t 141)),oM 143 (.t 0),oM 144 (.t 10),oQ 145 (.iaddr 1 (.t 143) (.t 144)),oQ 146 (.load none (.t 145)),oQ 147 (.iaddr 1 (.t 135) (.t 136)),oN (.store 1 (.t 147) (.t 142)),oQ 148 (.iaddr 1 (.t 137) (.t 138)),oN (.store 1 (.t 148) (.t 146))] false [0,1,10,11])
(.seq
(.reg 19 [oM 149 (.t 10),oQ 150 (.bin .add (.t 149) (cI 1)),oM 10 (.t 150)] [0,1,10,11])
(.reg 20 [oM 151 (.t 11),oQ 152 (.bin .sub (.t 151) (cI 1)),oM 11 (.t 152)] [0,1,10,11])))))))))
(.seq
(.dreg 21 [oM 153 (.t 0),oM 154 (.t 11),oM 155 (.t 0),oM 156 (.t 1),oM 157 (.t 0),oM 158 (.t 1),oQ 159 (.iaddr 1 (.t 157) (.t 158)),oQ 160 (.load none (.t 159)),oM 161 (.t 0),oM 162 (.t 11),oQ 163 (.iaddr 1 (.t 161) (.t 162)),oQ 164 (.load none (.t 163)),oQ 165 (.iaddr 1 (.t 153) (.t 154)),oN (.store 1 (.t 165) (.t 160)),oQ 166 (.iaddr 1 (.t 155) (.t 156)),oN (.store 1 (.t 166) (.t 164))] false [11])
(.seq
(.reg 22 [oM 167 (.t 11),oM 8 (.t 167),oM 9 (cB false)] [8,9])
.ret))))))))))))
theorem fok274 : FOK Tryz.prog 274 (168,ic274,[(.t 8),(.t 9)]):=fokA [] Tryz.func274
def ic276 : IC :=
(.seq
(.reg 0 [oM 2 (.c (.int .u64 0))] [0])
(.seq
(.reg 1 [oM 3 (.t 0),oQ 4 (.conv .u64 (.t 3)),oK 5 (.call 149 [(.t 4)]),oQ 6 (.bin .shl (.c (.int .u64 1)) (.t 5)),oM 2 (.t 6)] [2])
.ret))
theorem fok276 : FOK Tryz.prog 276 (7,ic276,[(.t 2)]):=fokA [] Tryz.func276
def ic277 : IC :=
(.seq
(.reg 0 [oM 2 (.c (.int .u64 0))] [0])
(.seq
(.dreg 1 [oM 3 (.t 0),oQ 4 (.nchk (.t 3)),oQ 5 (.load none (.t 4)),oM 6 (.t 0),oQ 7 (.nchk (.t 6)),oQ 8 (.load none (.t 7)),oQ 9 (.bin .shl (.t 8) (.c (.int .u64 13))),oQ 10 (.bin .xor (.t 5) (.t 9)),oQ 11 (.nchk (.t 3)),oN (.store 1 (.t 11) (.t 10))] false [0])
(.seq
(.dreg 2 [oM 12 (.t 0),oQ 13 (.nchk (.t 12)),oQ 14 (.load none (.t 13)),oM 15 (.t 0),oQ 16 (.nchk (.t 15)),oQ 17 (.load none (.t 16)),oQ 18 (.bin .shr (.t 17) (.c (.int .u64 7))),oQ 19 (.bin .xor (.t 14) (.t 18)),oQ 20 (.nchk (.t 12)),oN (.store 1 (.t 20) (.t 19))] false [0])
(.seq
(.dreg 3 [oM 21 (.t 0),oQ 22 (.nchk (.t 21)),oQ 23 (.load none (.t 22)),oM 24 (.t 0),oQ 25 (.nchk (.t 24)),oQ 26 (.load none (.t 25)),oQ 27 (.bin .shl (.t 26) (.c (.int .u64 17))),oQ 28 (.bin .xor (.t 23) (.t 27)),oQ 29 (.nchk (.t 21)),oN (.store 1 (.t 29) (.t 28))] false [0])
(.seq
(.reg 4 [oM 30 (.t 0),oQ 31 (.nchk (.t 30)),oQ 32 (.load none (.t 31)),oM 2 (.t 32)] [2])
.ret)))))
theorem fok277 : FOK Tryz.prog 277 (33,ic277,[(.t 2)]):=fokA [] Tryz.func277
def ic280 : IC :=
(.seq
(.reg 0 [⟨(some 2),none,(.q (.mov (.c (.str []))))⟩] [0])
(.seq
(.seq
(.reg 1 [⟨(some 5),none,(.q (.load none (.g 1)))⟩,⟨(some 6),none,(.mrange (.t 5))⟩] [0,6])
(.block 0
(.loop
(.seq
(.reg 2 [⟨(some 7),none,(.mnext (.t 6))⟩,⟨(some 8),none,(.q (.ext 0 (.t 7)))⟩] [0,6,8])
(.seq
(.cond (.t 8)
.skip
(.exit 0))
(.block 1
(.seq
(.reg 3 [⟨(some 9),none,(.ment (.t 6))⟩,⟨(some 10),none,(.q (.ext 0 (.t 9)))⟩,⟨(some 11),none,(.q (.ext 1 (.t 9)))⟩,⟨(some 3),none,(.q (.mov (.t 10)))⟩,⟨(some 4),none,(.q (.mov (.t 11)))⟩] [0,3,4,6])
(.seq
(.reg 4 [⟨(some 12),none,(.q (.mov (.t 4)))⟩,⟨(some 13),none,(.q (.mov (.t 0)))⟩,⟨(some 14),none,(.q (.bin .eql (.t 12) (.t 13)))⟩] [0,3,6,14])
(.cond (.t 14)
(.seq
(.reg 5 [⟨(some 15),none,(.q (.mov (.t 3)))⟩,⟨(some 2),none,(.q (.mov (.t 15)))⟩] [2])
.ret)
.skip)))))))))
(.seq
(.reg 6 [⟨(some 2),none,(.q (.mov (.c (.str []))))⟩] [2])
.ret)))
theorem fok280 : FOK Tryz.prog 280 (16,ic280,[(.t 2)]):=.mk (pf:=[]) (an:=[(0,[0]),(1,[0,6]),(2,[0,6,8]),(3,[0,3,4,6]),(4,[0,3,6,14]),(5,[2]),(6,[2])]) (by kernel_rfl) (fnOK_of Tryz.func280 (by kernel_rfl) (by kernel_rfl) (by kernel_rfl))
def ic281 : IC :=
(.seq
(.reg 0 [oK 1 (.boxt (.t 0)),oM 2 (.c .nilfunc)] [1])
(.seq
(.reg 1 [oQ 3 (.mkf 307 [] [(.t 1)]),oM 2 (.t 3)] [2])
.ret))
theorem fok281 : FOK Tryz.prog 281 (4,ic281,[(.t 2)]):=fokA [1000001] Tryz.func281
def ic282 : IC :=
(.seq
(.reg 0 [oM 2 (cI 0)] [0])
(.seq
(.reg 1 [oM 3 (cI 0)] [0,3])
(.seq
(.seq
(.reg 2 [oM 6 (.t 0),oQ 7 (.len 0 (.t 6)),oM 8 (cI 0)] [3,6,7,8])
(.block 0
(.loop
(.seq
(.reg 3 [oQ 9 (.bin .lss (.t 8) (.t 7))] [3,6,7,8,9])
(.seq
(.cond (.t 9)
.skip
(.exit 0))
(.seq
(.block 1
(.seq
(.reg 4 [oQ 10 (.iaddr 1 (.t 6) (.t 8)),oQ 11 (.load none (.t 10)),oM 5 (.t 11)] [3,5,6,7,8])
(.seq
(.reg 5 [oM 12 (.t 5),oM 13 (.t 3),oQ 14 (.bin .neq (.t 12) (.t 13))] [3,5,6,7,8,14])
(.cond (.t 14)
(.seq
(.reg 6 [oM 15 (.t 5),oM 2 (.t 15)] [2])
.ret)
.skip))))
(.reg 7 [oQ 16 (.bin .add (.t 8) (cI 1)),oM 8 (.t 16)] [3,6,7,8])))))))
(.seq
(.reg 8 [oM 17 (.t 3),oM 2 (.t 17)] [2])
.ret))))
theorem fok282 : FOK Tryz.prog 282 (18,ic282,[(.t 2)]):=fokA [] Tryz.func282
def ic283 : IC :=
(.seq
(.reg 0 [oM 4 (cI 0)] [0,1])
(.seq
(.reg 1 [oM 7 (.t 0),oK 8 (.call 310 [(.t 7)]),oM 5 (.t 8)] [0,1,5])
(.seq
(.reg 2 [oM 9 (.t 1),oK 10 (.call 310 [(.t 9)]),oM 6 (.t 10)] [0,1,5,6])
(.seq
(.seq
(.reg 3 [oM 11 (.t 5)] [0,1,6,11])
(.cond (.t 11)
(.seq
(.seq
(.reg 4 [oM 12 (.t 6)] [12])
(.cond (.t 12)
(.seq
(.reg 5 [oM 4 (cI 0)] [4])
.ret)
.skip))
(.seq
(.reg 6 [oM 4 (cI (-1))] [4])
.ret))
.skip))
(.seq
(.seq
(.reg 7 [oM 13 (.t 6)] [0,1,13])
(.cond (.t 13)
(.seq
(.reg 8 [oM 4 (cI 1)] [4])
.ret)
.skip))
(.seq
(.seq
(.reg 9 [oM 14 (.t 0),oM 15 (.t 1),oQ 16 (.bin .lss (.t 14) (.t 15))] [0,1,16])
(.cond (.t 16)
(.seq
(.reg 10 [oM 4 (cI (-1))] [4])
.ret)
.skip))
(.seq
(.seq
(.reg 11 [oM 17 (.t 0),oM 18 (.t 1),oQ 19 (.bin .gtr (.t 17) (.t 18))] [19])
(.cond (.t 19)
(.seq
(.reg 12 [oM 4 (cI 1)] [4])
.ret)
.skip))
(.seq
(.reg 13 [oM 4 (cI 0)] [4])
.ret))))))))
theorem fok283 : FOK Tryz.prog 283 (20,ic283,[(.t 4)]):=fokA [] Tryz.func283
end Go.Id.Tryz
