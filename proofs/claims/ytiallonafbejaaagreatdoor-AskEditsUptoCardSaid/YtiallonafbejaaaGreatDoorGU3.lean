/- The compiled codes of functions,written by a program out of the given form. Conditions: none. -/
import Derived.Test.YtiallonafbejaaaGreatDoorFwYa
import Derived.Test.YtiallonafbejaaaGreatDoorProg
set_option linter.all false
namespace Go.Id.Tryz
open Go Go.Id Go.Proofs
def allF3 : List Nat:=List.range 357
def ic228 : IC :=
(.seq
(.reg 0 [oM 2 (.c (zU 0))] [0])
(.seq
(.reg 1 [oQ 3 (.bld [(zU 0),(zU 0),(zU 0)] [⟨0,⟨1,(.c (zU 1))⟩⟩,⟨1,⟨1,(.c (zU 2))⟩⟩,⟨2,⟨1,(.c (zU 4))⟩⟩]),oM 4 (.t 0),oQ 5 (.bin .add (.t 4) (cI 1)),oQ 6 (.idx none 3 1 (.t 3) (.t 5)),oM 2 (.t 6)] [2])
.ret))
theorem fok228 : FOK Tryz.prog 228 (7,ic228,[(.t 2)]):=fokA [] Tryz.func228
def ic229 : IC :=
(.seq
(.reg 0 [oM 4 (cI 0)] [0,1])
(.seq
(.seq
(.reg 1 [oM 6 (.t 0),oQ 7 (.len 0 (.t 6)),oM 8 (cI 0)] [0,1,7,8])
(.block 0
(.loop
(.seq
(.reg 2 [oQ 9 (.bin .lss (.t 8) (.t 7))] [0,1,7,8,9])
(.seq
(.cond (.t 9)
.skip
(.exit 0))
(.seq
(.block 1
(.seq
(.reg 3 [oM 10 (.t 8),oM 5 (.t 10)] [0,1,5,7,8])
(.seq
(.reg 4 [oM 11 (.t 1),oM 12 (.t 0),oM 13 (.t 5),oQ 14 (.iaddr 6 (.t 12) (.t 13)),oQ 15 (.load (some 6) (.t 14)),oK 16 (.callv (.t 11) [(.t 15)])] [0,1,5,7,8,16])
(.cond (.t 16)
(.seq
(.reg 5 [oM 17 (.t 5),oM 4 (.t 17)] [4])
.ret)
.skip))))
(.reg 6 [oQ 18 (.bin .add (.t 8) (cI 1)),oM 8 (.t 18)] [0,1,7,8])))))))
(.seq
(.reg 7 [oM 4 (cI (-1))] [4])
.ret)))
theorem fok229 : FOK Tryz.prog 229 (19,ic229,[(.t 4)]):=fokA [] Tryz.func229
def ic230 : IC :=
(.seq
(.reg 0 [⟨(some 2),none,(.q (.mov (.c (.bool false))))⟩] [0])
(.seq
(.reg 1 [⟨(some 3),none,(.q (.mov (.t 0)))⟩,⟨(some 4),none,(.q (.bin .eql (.t 3) (.c (.int .u8 0))))⟩,⟨(some 5),none,(.q (.mov (.t 4)))⟩,⟨(some 6),(some ⟨5,false⟩),(.q (.mov (.t 0)))⟩,⟨(some 7),(some ⟨5,false⟩),(.call 280 [(.t 6)])⟩,⟨(some 8),(some ⟨5,false⟩),(.q (.bin .neq (.t 7) (.c (.str []))))⟩,⟨(some 9),none,(.q (.pick (.t 5) (.c (.bool true)) (.t 8)))⟩,⟨(some 2),none,(.q (.mov (.t 9)))⟩] [2])
.ret))
theorem fok230 : FOK Tryz.prog 230 (10,ic230,[(.t 2)]):=.mk (pf:=[]) (an:=[(0,[0]),(1,[2])]) (by kernel_rfl) (fnOK_of Tryz.func230 (by kernel_rfl) (by kernel_rfl) (by kernel_rfl))
def ic231 : IC :=
(.seq
(.reg 0 [oM 4 (cI 0)] [0,1])
(.seq
(.seq
(.reg 1 [oM 6 (.t 0),oQ 7 (.len 0 (.t 6)),oM 8 (cI 0)] [0,1,7,8])
(.block 0
(.loop
(.seq
(.reg 2 [oQ 9 (.bin .lss (.t 8) (.t 7))] [0,1,7,8,9])
(.seq
(.cond (.t 9)
.skip
(.exit 0))
(.seq
(.block 1
(.seq
(.reg 3 [oM 10 (.t 8),oM 5 (.t 10)] [0,1,5,7,8])
(.seq
(.reg 4 [oM 11 (.t 1),oM 12 (.t 0),oM 13 (.t 5),oQ 14 (.iaddr 2 (.t 12) (.t 13)),oQ 15 (.load (some 2) (.t 14)),oK 16 (.callv (.t 11) [(.t 15)])] [0,1,5,7,8,16])
(.cond (.t 16)
(.seq
(.reg 5 [oM 17 (.t 5),oM 4 (.t 17)] [4])
.ret)
.skip))))
(.reg 6 [oQ 18 (.bin .add (.t 8) (cI 1)),oM 8 (.t 18)] [0,1,7,8])))))))
(.seq
(.reg 7 [oM 4 (cI (-1))] [4])
.ret)))
theorem fok231 : FOK Tryz.prog 231 (19,ic231,[(.t 4)]):=fokA [] Tryz.func231
def ic232 : IC :=
(.seq
(.reg 0 [oM 2 (.c .nilslice)] [0])
(.seq
(.seq
(.reg 1 [oM 3 (.t 0),oQ 4 (.isnil (.slice 70) false (.t 3))] [0,4])
(.cond (.t 4)
(.seq
(.reg 2 [oM 2 (.c .nilslice)] [2])
.ret)
.skip))
(.seq
(.reg 3 [oK 5 (.bsl 6 0 [(zU 0),(.str []),(zU 0),(zI 0),(.str []),(.str [])] []),oM 6 (.t 0),oK 7 (.app 6 (.t 5) (.t 6)),oM 2 (.t 7)] [2])
.ret)))
theorem fok232 : FOK Tryz.prog 232 (8,ic232,[(.t 2)]):=fokA [] Tryz.func232
def ic233 : IC :=
(.seq
(.reg 0 [oM 2 (.c .nilslice)] [0])
(.seq
(.seq
(.reg 1 [oM 3 (.t 0),oQ 4 (.isnil (.slice 61) false (.t 3))] [0,4])
(.cond (.t 4)
(.seq
(.reg 2 [oM 2 (.c .nilslice)] [2])
.ret)
.skip))
(.seq
(.reg 3 [oK 5 (.bsl 2 0 [(zU 0),(zI 0)] []),oM 6 (.t 0),oK 7 (.app 2 (.t 5) (.t 6)),oM 2 (.t 7)] [2])
.ret)))
theorem fok233 : FOK Tryz.prog 233 (8,ic233,[(.t 2)]):=fokA [] Tryz.func233
def ic234 : IC :=
(.seq
(.reg 0 [oK 3 (.boxt (.t 1)),oM 4 (cI 0)] [0,3])
(.seq
(.seq
(.reg 1 [oM 6 (.t 0),oQ 7 (.len 0 (.t 6)),oM 8 (cI 0)] [0,3,7,8])
(.block 0
(.loop
(.seq
(.reg 2 [oQ 9 (.bin .lss (.t 8) (.t 7))] [0,3,7,8,9])
(.seq
(.cond (.t 9)
.skip
(.exit 0))
(.seq
(.block 1
(.seq
(.reg 3 [oM 10 (.t 8),oM 5 (.t 10)] [0,3,5,7,8])
(.seq
(.dreg 4 [oQ 11 (.load (some 2) (.t 3)),oM 12 (.t 0),oM 13 (.t 5),oQ 14 (.iaddr 2 (.t 12) (.t 13)),oQ 15 (.load (some 2) (.t 14)),oQ 16 (.eqs [1,1] true false (.t 11) (.t 15))] false [0,3,5,7,8,16])
(.cond (.t 16)
(.seq
(.reg 5 [oM 17 (.t 5),oM 4 (.t 17)] [4])
.ret)
.skip))))
(.reg 6 [oQ 18 (.bin .add (.t 8) (cI 1)),oM 8 (.t 18)] [0,3,7,8])))))))
(.seq
(.reg 7 [oM 4 (cI (-1))] [4])
.ret)))
theorem fok234 : FOK Tryz.prog 234 (19,ic234,[(.t 4)]):=fokA [1000003] Tryz.func234
def ic235 : IC :=
(.seq
(.reg 0 [oM 2 (.c .nilslice)] [0,2])
(.seq
(.reg 1 [oK 3 (.alloc [.nilslice])] [0,2,3])
(.seq
(.seq
(.reg 2 [oM 5 (.t 0),oK 6 (.call 281 [(.t 5)])] [2,3,6])
(.block 0
(.rfunc (.t 6) [7]
(.reg 3 [oK 4 (.alloc [(zU 0),(.str [])]),oN (.store 2 (.t 4) (.t 7))] [3,4])
(.block 1
(.reg 4 [oQ 8 (.load none (.t 3)),oQ 9 (.load (some 2) (.t 4)),oK 10 (.bslt 2 1 [(zU 0),(.str [])] [⟨0,⟨2,(.t 9)⟩⟩]),oK 11 (.app 2 (.t 8) (.t 10)),oN (.store 1 (.t 3) (.t 11))] [])))))
(.seq
(.reg 5 [oQ 12 (.load none (.t 3)),oM 2 (.t 12)] [2])
.ret))))
theorem fok235 : FOK Tryz.prog 235 (13,ic235,[(.t 2)]):=fokA [1000010] Tryz.func235
def ic236 : IC :=
(.seq
(.reg 0 [oK 2 (.boxt (.t 0)),oK 3 (.boxt (.t 1)),oM 4 (cI 0)] [2,3])
(.seq
(.reg 1 [oM 5 (cI 0)] [2,3,5])
(.seq
(.seq
(.reg 2 [oQ 6 (.faddr 0 (.t 2)),oQ 7 (.load none (.t 6)),oQ 8 (.bin .eql (.t 7) (.c (zU 5))),oM 9 (.t 8),gQ 10 9 true (.faddr 0 (.t 3)),gQ 11 9 true (.load none (.t 10)),gQ 12 9 true (.bin .eql (.t 11) (.c (zU 5))),oQ 13 (.pick (.t 9) (.t 12) (cB false))] [2,3,5,13])
(.cond (.t 13)
(.reg 3 [oQ 14 (.faddr 1 (.t 2)),oQ 15 (.load none (.t 14)),oQ 16 (.len 1 (.t 15)),oQ 17 (.faddr 1 (.t 3)),oQ 18 (.load none (.t 17)),oQ 19 (.len 1 (.t 18)),oK 20 (.call 126 [(.t 16),(.t 19)]),oM 5 (.t 20)] [2,3,5])
.skip))
(.seq
(.dreg 4 [oQ 21 (.faddr 0 (.t 2)),oQ 22 (.load none (.t 21)),oQ 23 (.faddr 0 (.t 3)),oQ 24 (.load none (.t 23)),oK 25 (.pcall 283 [(.t 22),(.t 24)]),oM 26 (.t 5),oQ 27 (.faddr 1 (.t 2)),oQ 28 (.load none (.t 27)),oQ 29 (.faddr 1 (.t 3)),oQ 30 (.load none (.t 29)),oK 31 (.pcall 284 [(.t 28),(.t 30)]),oK 32 (.bslt 1 3 [(zI 0)] [⟨0,⟨1,(.t 25)⟩⟩,⟨1,⟨1,(.t 26)⟩⟩,⟨2,⟨1,(.t 31)⟩⟩]),oK 33 (.pcall 282 [(.t 32)]),oM 4 (.t 33)] false [4])
.ret))))
theorem fok236 : FOK Tryz.prog 236 (34,ic236,[(.t 4)]):=fokA ([1000002,1000003,1000032] ++ [282,283,284]) Tryz.func236 (by kernel_rfl) (by kernel_rfl) (by kernel_rfl) (by kernel_rfl)
def ic239 : IC :=
(.seq
(.reg 0 [⟨(some 1),none,(.boxt (.t 0))⟩,⟨(some 2),none,(.q (.mov (.c .nilfunc)))⟩] [1])
(.seq
(.reg 1 [⟨(some 3),none,(.alloc [.nilfunc])⟩] [1,3])
(.seq
(.reg 2 [⟨(some 4),none,(.q (.mkf 285 [] [(.t 3)]))⟩,⟨none,none,(.store 1 (.t 3) (.t 4))⟩] [1,3])
(.seq
(.reg 3 [⟨(some 5),none,(.q (.mkf 286 [] [(.t 3),(.t 1)]))⟩,⟨(some 2),none,(.q (.mov (.t 5)))⟩] [2])
.ret))))
theorem fok239 : FOK Tryz.prog 239 (6,ic239,[(.t 2)]):=.mk (pf:=[1000001]) (an:=[(0,[1]),(1,[1,3]),(2,[1,3]),(3,[2])]) (by kernel_rfl) (fnOK_of Tryz.func239 (by kernel_rfl) (by kernel_rfl) (by kernel_rfl))
def ic240 : IC :=
(.seq
(.reg 0 [⟨(some 4),none,(.q (.mov (.c (.int .i64 0))))⟩] [0,1])
(.seq
(.seq
(.reg 1 [⟨(some 6),none,(.q (.mov (.t 0)))⟩,⟨(some 7),none,(.q (.len 0 (.t 6)))⟩,⟨(some 8),none,(.q (.mov (.c (.int .i64 0))))⟩] [0,1,7,8])
(.block 0
(.loop
(.seq
(.reg 2 [⟨(some 9),none,(.q (.bin .lss (.t 8) (.t 7)))⟩] [0,1,7,8,9])
(.seq
(.cond (.t 9)
.skip
(.exit 0))
(.seq
(.block 1
(.seq
(.reg 3 [⟨(some 10),none,(.q (.mov (.t 8)))⟩,⟨(some 5),none,(.q (.mov (.t 10)))⟩] [0,1,5,7,8])
(.seq
(.reg 4 [⟨(some 11),none,(.q (.mov (.t 1)))⟩,⟨(some 12),none,(.q (.mov (.t 0)))⟩,⟨(some 13),none,(.q (.mov (.t 5)))⟩,⟨(some 14),none,(.q (.iaddr 7 (.t 12) (.t 13)))⟩,⟨(some 15),none,(.q (.load (some 7) (.t 14)))⟩,⟨(some 16),none,(.callv (.t 11) [(.t 15)])⟩] [0,1,5,7,8,16])
(.cond (.t 16)
(.seq
(.reg 5 [⟨(some 17),none,(.q (.mov (.t 5)))⟩,⟨(some 4),none,(.q (.mov (.t 17)))⟩] [4])
.ret)
.skip))))
(.reg 6 [⟨(some 18),none,(.q (.bin .add (.t 8) (.c (.int .i64 1))))⟩,⟨(some 8),none,(.q (.mov (.t 18)))⟩] [0,1,7,8])))))))
(.seq
(.reg 7 [⟨(some 4),none,(.q (.mov (.c (.int .i64 (-1)))))⟩] [4])
.ret)))
theorem fok240 : FOK Tryz.prog 240 (19,ic240,[(.t 4)]):=.mk (pf:=[]) (an:=[(0,[0,1]),(1,[0,1,7,8]),(2,[0,1,7,8,9]),(3,[0,1,5,7,8]),(4,[0,1,5,7,8,16]),(5,[4]),(6,[0,1,7,8]),(7,[4])]) (by kernel_rfl) (fnOK_of Tryz.func240 (by kernel_rfl) (by kernel_rfl) (by kernel_rfl))
def ic254 : IC :=
(.seq
(.reg 0 [⟨(some 4),none,(.q (.mov (.c (.int .i64 0))))⟩] [0,1])
(.seq
(.reg 1 [⟨(some 5),none,(.q (.mov (.t 0)))⟩,⟨(some 6),none,(.q (.mov (.t 1)))⟩,⟨(some 7),none,(.call 299 [(.t 5),(.t 6)])⟩,⟨(some 4),none,(.q (.mov (.t 7)))⟩] [4])
.ret))
theorem fok254 : FOK Tryz.prog 254 (8,ic254,[(.t 4)]):=.mk (pf:=[]) (an:=[(0,[0,1]),(1,[4])]) (by kernel_rfl) (fnOK_of Tryz.func254 (by kernel_rfl) (by kernel_rfl) (by kernel_rfl))
def ic255 : IC :=
(.seq
(.reg 0 [⟨(some 4),none,(.q (.mov (.c (.bool false))))⟩] [0,1])
(.seq
(.reg 1 [⟨(some 5),none,(.q (.mov (.t 0)))⟩,⟨(some 6),none,(.q (.mov (.t 1)))⟩,⟨(some 7),none,(.call 300 [(.t 5),(.t 6)])⟩,⟨(some 4),none,(.q (.mov (.t 7)))⟩] [4])
.ret))
theorem fok255 : FOK Tryz.prog 255 (8,ic255,[(.t 4)]):=.mk (pf:=[]) (an:=[(0,[0,1]),(1,[4])]) (by kernel_rfl) (fnOK_of Tryz.func255 (by kernel_rfl) (by kernel_rfl) (by kernel_rfl))
def ic256 : IC :=
(.seq
(.reg 0 [⟨(some 2),none,(.q (.mov (.c (.bool false))))⟩] [0])
(.seq
(.seq
(.reg 1 [⟨(some 5),none,(.q (.mov (.t 0)))⟩,⟨(some 6),none,(.q (.bin .eql (.t 5) (.c (.str []))))⟩,⟨(some 7),none,(.q (.mov (.t 6)))⟩,⟨(some 8),(some ⟨7,false⟩),(.q (.mov (.t 0)))⟩,⟨(some 9),(some ⟨7,false⟩),(.q (.len 1 (.t 8)))⟩,⟨(some 10),(some ⟨7,false⟩),(.q (.bin .gtr (.t 9) (.c (.int .i64 64))))⟩,⟨(some 11),none,(.q (.pick (.t 7) (.c (.bool true)) (.t 10)))⟩] [0,11])
(.cond (.t 11)
(.seq
(.reg 2 [⟨(some 2),none,(.q (.mov (.c (.bool false))))⟩] [2])
.ret)
.skip))
(.seq
(.seq
(.reg 3 [⟨(some 12),none,(.q (.mov (.t 0)))⟩,⟨(some 13),none,(.q (.len 1 (.t 12)))⟩,⟨(some 14),none,(.q (.mov (.c (.int .i64 0))))⟩] [0,13,14])
(.block 0
(.loop
(.seq
(.reg 4 [⟨(some 15),none,(.q (.bin .lss (.t 14) (.t 13)))⟩] [0,13,14,15])
(.seq
(.cond (.t 15)
.skip
(.exit 0))
(.seq
(.block 1
(.seq
(.reg 5 [⟨(some 16),none,(.q (.mov (.t 14)))⟩,⟨(some 3),none,(.q (.mov (.t 16)))⟩] [0,3,13,14])
(.seq
(.reg 6 [⟨(some 17),none,(.q (.mov (.t 0)))⟩,⟨(some 18),none,(.q (.mov (.t 3)))⟩,⟨(some 19),none,(.q (.istr (.t 17) (.t 18)))⟩,⟨(some 4),none,(.q (.mov (.t 19)))⟩] [0,4,13,14])
(.block 2
(.seq
(.seq
(.reg 8 [⟨(some 21),none,(.q (.mov (.t 4)))⟩,⟨(some 22),none,(.q (.bin .geq (.t 21) (.c (.int .u8 97))))⟩,⟨(some 23),none,(.q (.mov (.t 22)))⟩,⟨(some 24),(some ⟨23,true⟩),(.q (.mov (.t 4)))⟩,⟨(some 25),(some ⟨23,true⟩),(.q (.bin .leq (.t 24) (.c (.int .u8 122))))⟩,⟨(some 26),none,(.q (.pick (.t 23) (.t 25) (.c (.bool false))))⟩,⟨(some 20),none,(.q (.mov (.t 26)))⟩] [0,4,13,14,20])
(.cond (.t 20)
.skip
(.seq
(.reg 9 [⟨(some 27),none,(.q (.mov (.t 4)))⟩,⟨(some 28),none,(.q (.bin .geq (.t 27) (.c (.int .u8 65))))⟩,⟨(some 29),none,(.q (.mov (.t 28)))⟩,⟨(some 30),(some ⟨29,true⟩),(.q (.mov (.t 4)))⟩,⟨(some 31),(some ⟨29,true⟩),(.q (.bin .leq (.t 30) (.c (.int .u8 90))))⟩,⟨(some 32),none,(.q (.pick (.t 29) (.t 31) (.c (.bool false))))⟩,⟨(some 20),none,(.q (.mov (.t 32)))⟩] [0,4,13,14,20])
(.cond (.t 20)
.skip
(.seq
(.reg 10 [⟨(some 33),none,(.q (.mov (.t 4)))⟩,⟨(some 34),none,(.q (.bin .geq (.t 33) (.c (.int .u8 48))))⟩,⟨(some 35),none,(.q (.mov (.t 34)))⟩,⟨(some 36),(some ⟨35,true⟩),(.q (.mov (.t 4)))⟩,⟨(some 37),(some ⟨35,true⟩),(.q (.bin .leq (.t 36) (.c (.int .u8 57))))⟩,⟨(some 38),none,(.q (.pick (.t 35) (.t 37) (.c (.bool false))))⟩,⟨(some 20),none,(.q (.mov (.t 38)))⟩] [0,4,13,14,20])
(.cond (.t 20)
.skip
(.reg 11 [⟨(some 39),none,(.q (.mov (.t 4)))⟩,⟨(some 40),none,(.call 254 [(.c (.str [46,95,43,126,94])),(.t 39)])⟩,⟨(some 41),none,(.q (.bin .geq (.t 40) (.c (.int .i64 0))))⟩,⟨(some 20),none,(.q (.mov (.t 41)))⟩] [0,13,14,20])))))))
(.cond (.t 20)
.skip
(.seq
(.reg 7 [⟨(some 2),none,(.q (.mov (.c (.bool false))))⟩] [2])
.ret)))))))
(.reg 12 [⟨(some 42),none,(.q (.bin .add (.t 14) (.c (.int .i64 1))))⟩,⟨(some 14),none,(.q (.mov (.t 42)))⟩] [0,13,14])))))))
(.seq
(.reg 13 [⟨(some 2),none,(.q (.mov (.c (.bool true))))⟩] [2])
.ret))))
theorem fok256 : FOK Tryz.prog 256 (43,ic256,[(.t 2)]):=.mk (pf:=[]) (an:=[(0,[0]),(1,[0,11]),(2,[2]),(3,[0,13,14]),(4,[0,13,14,15]),(5,[0,3,13,14]),(6,[0,4,13,14]),(7,[2]),(8,[0,4,13,14,20]),(9,[0,4,13,14,20]),(10,[0,4,13,14,20]),(11,[0,13,14,20]),(12,[0,13,14]),(13,[2])]) (by kernel_rfl) (fnOK_of Tryz.func256 (by kernel_rfl) (by kernel_rfl) (by kernel_rfl))
def ic257 : IC :=
(.seq
(.reg 0 [⟨(some 0),none,(.alloc [(.str []),(.str []),(.str []),(.str []),(.str [])])⟩] [0])
(.seq
(.reg 1 [⟨(some 1),none,(.q (.bld [(.str []),(.str []),(.str []),(.str []),(.str [])] [⟨1,⟨1,(.c (.str [110,111,97,114,99,104]))⟩⟩,⟨2,⟨1,(.c (.str [120,56,54,95,54,52]))⟩⟩,⟨3,⟨1,(.c (.str [105,54,56,54]))⟩⟩,⟨4,⟨1,(.c (.str [97,97,114,99,104,54,52]))⟩⟩]))⟩,⟨none,none,(.store 5 (.t 0) (.t 1))⟩] [0])
.ret))
theorem fok257 : FOK Tryz.prog 257 (2,ic257,[(.cell (some 5) 0)]):=.mk (pf:=[]) (an:=[(0,[0]),(1,[0])]) (by kernel_rfl) (fnOK_of Tryz.func257 (by kernel_rfl) (by kernel_rfl) (by kernel_rfl))
def ic258 : IC :=
(.seq
(.reg 0 [⟨(some 2),none,(.boxt (.t 0))⟩,⟨(some 3),none,(.q (.mov (.c (.bool false))))⟩] [1,2])
(.seq
(.reg 1 [⟨(some 4),none,(.q (.load none (.t 1)))⟩,⟨(some 5),none,(.q (.load (some 5) (.t 2)))⟩,⟨(some 6),none,(.callv (.t 4) [(.t 5)])⟩,⟨(some 7),none,(.q (.not (.t 6)))⟩,⟨(some 3),none,(.q (.mov (.t 7)))⟩] [3])
.ret))
theorem fok258 : FOK Tryz.prog 258 (8,ic258,[(.t 3)]):=.mk (pf:=[1000002]) (an:=[(0,[1,2]),(1,[3])]) (by kernel_rfl) (fnOK_of Tryz.func258 (by kernel_rfl) (by kernel_rfl) (by kernel_rfl))
def ic259 : IC :=
(.seq
(.reg 0 [⟨(some 4),none,(.q (.mov (.c (.bool false))))⟩] [0,1])
(.seq
(.reg 1 [⟨(some 5),none,(.q (.mov (.t 0)))⟩,⟨(some 6),none,(.q (.mov (.t 1)))⟩,⟨(some 7),none,(.call 301 [(.t 5),(.t 6)])⟩,⟨(some 8),none,(.q (.bin .geq (.t 7) (.c (.int .i64 0))))⟩,⟨(some 4),none,(.q (.mov (.t 8)))⟩] [4])
.ret))
theorem fok259 : FOK Tryz.prog 259 (9,ic259,[(.t 4)]):=.mk (pf:=[]) (an:=[(0,[0,1]),(1,[4])]) (by kernel_rfl) (fnOK_of Tryz.func259 (by kernel_rfl) (by kernel_rfl) (by kernel_rfl))
def ic260 : IC :=
(.seq
(.reg 0 [⟨(some 3),none,(.q (.mov (.c (.bool false))))⟩] [0,1])
(.seq
(.reg 1 [⟨(some 4),none,(.q (.load none (.t 1)))⟩,⟨(some 5),none,(.q (.mov (.t 0)))⟩,⟨(some 6),none,(.callv (.t 4) [(.t 5)])⟩,⟨(some 7),none,(.q (.not (.t 6)))⟩,⟨(some 3),none,(.q (.mov (.t 7)))⟩] [3])
.ret))
theorem fok260 : FOK Tryz.prog 260 (8,ic260,[(.t 3)]):=.mk (pf:=[]) (an:=[(0,[0,1]),(1,[3])]) (by kernel_rfl) (fnOK_of Tryz.func260 (by kernel_rfl) (by kernel_rfl) (by kernel_rfl))
def ic261 : IC :=
(.reg 0 [⟨(some 3),none,(.q (.mov (.t 0)))⟩,⟨(some 4),none,(.q (.faddr 7 (.t 1)))⟩,⟨(some 5),none,(.q (.load none (.t 4)))⟩,⟨(some 6),none,(.callv (.t 3) [(.c (.int .u8 1)),(.t 5)])⟩,⟨(some 7),none,(.q (.mov (.t 6)))⟩,⟨(some 8),(some ⟨7,true⟩),(.q (.mov (.t 0)))⟩,⟨(some 9),(some ⟨7,true⟩),(.q (.faddr 8 (.t 1)))⟩,⟨(some 10),(some ⟨7,true⟩),(.q (.load none (.t 9)))⟩,⟨(some 11),(some ⟨7,true⟩),(.callv (.t 8) [(.c (.int .u8 2)),(.t 10)])⟩,⟨(some 12),none,(.q (.pick (.t 7) (.t 11) (.c (.bool false))))⟩,⟨(some 13),none,(.q (.mov (.t 12)))⟩,⟨(some 14),(some ⟨13,true⟩),(.q (.mov (.t 0)))⟩,⟨(some 15),(some ⟨13,true⟩),(.q (.faddr 10 (.t 1)))⟩,⟨(some 16),(some ⟨13,true⟩),(.q (.load none (.t 15)))⟩,⟨(some 17),(some ⟨13,true⟩),(.callv (.t 14) [(.c (.int .u8 1)),(.t 16)])⟩,⟨(some 18),none,(.q (.pick (.t 13) (.t 17) (.c (.bool false))))⟩,⟨(some 19),none,(.q (.mov (.t 18)))⟩,⟨(some 20),(some ⟨19,true⟩),(.q (.mov (.t 0)))⟩,⟨(some 21),(some ⟨19,true⟩),(.q (.faddr 11 (.t 1)))⟩,⟨(some 22),(some ⟨19,true⟩),(.q (.load none (.t 21)))⟩,⟨(some 23),(some ⟨19,true⟩),(.callv (.t 20) [(.c (.int .u8 3)),(.t 22)])⟩,⟨(some 24),none,(.q (.pick (.t 19) (.t 23) (.c (.bool false))))⟩,⟨(some 25),none,(.q (.mov (.t 24)))⟩,⟨(some 26),(some ⟨25,true⟩),(.q (.mov (.t 0)))⟩,⟨(some 27),(some ⟨25,true⟩),(.q (.faddr 12 (.t 1)))⟩,⟨(some 28),(some ⟨25,true⟩),(.q (.load none (.t 27)))⟩,⟨(some 29),(some ⟨25,true⟩),(.callv (.t 26) [(.c (.int .u8 1)),(.t 28)])⟩,⟨(some 30),none,(.q (.pick (.t 25) (.t 29) (.c (.bool false))))⟩,⟨(some 31),none,(.q (.mov (.t 30)))⟩,⟨(some 32),(some ⟨31,true⟩),(.q (.mov (.t 0)))⟩,⟨(some 33),(some ⟨31,true⟩),(.q (.faddr 13 (.t 1)))⟩,⟨(some 34),(some ⟨31,true⟩),(.q (.load none (.t 33)))⟩,⟨(some 35),(some ⟨31,true⟩),(.callv (.t 32) [(.c (.int .u8 3)),(.t 34)])⟩,⟨(some 36),none,(.q (.pick (.t 31) (.t 35) (.c (.bool false))))⟩] [])
theorem fok261 : FOK Tryz.prog 261 (37,ic261,[]):=.mk (pf:=[]) (an:=[]) (by kernel_rfl) (fnOK_of Tryz.func261 (by kernel_rfl) (by kernel_rfl) (by kernel_rfl))
def ic262 : IC :=
(.seq
(.reg 0 [⟨(some 2),none,(.boxt (.t 0))⟩,⟨(some 3),none,(.q (.mov (.c (.bool false))))⟩] [1,2])
(.seq
(.reg 1 [⟨(some 4),none,(.q (.load none (.t 1)))⟩,⟨(some 5),none,(.q (.load (some 7) (.t 2)))⟩,⟨(some 6),none,(.callv (.t 4) [(.t 5)])⟩,⟨(some 7),none,(.q (.not (.t 6)))⟩,⟨(some 3),none,(.q (.mov (.t 7)))⟩] [3])
.ret))
theorem fok262 : FOK Tryz.prog 262 (8,ic262,[(.t 3)]):=.mk (pf:=[1000002]) (an:=[(0,[1,2]),(1,[3])]) (by kernel_rfl) (fnOK_of Tryz.func262 (by kernel_rfl) (by kernel_rfl) (by kernel_rfl))
def ic263 : IC :=
(.seq
(.reg 0 [⟨(some 1),none,(.boxt (.t 0))⟩,⟨(some 2),none,(.q (.mov (.c (.int .i64 0))))⟩] [1,2])
(.seq
(.reg 1 [⟨(some 3),none,(.alloc [(.int .i64 0)])⟩,⟨none,none,(.store 1 (.t 3) (.c (.int .i64 0)))⟩] [1,2,3])
(.seq
(.seq
(.reg 2 [⟨(some 4),none,(.q (.load (some 7) (.t 1)))⟩,⟨(some 5),none,(.call 239 [(.t 4)])⟩] [2,3,5])
(.block 0
(.rfunc (.t 5) [6,7]
.skip
(.block 1
(.reg 3 [⟨(some 8),none,(.q (.load none (.t 3)))⟩,⟨(some 9),none,(.q (.bin .add (.t 8) (.c (.int .i64 1))))⟩,⟨none,none,(.store 1 (.t 3) (.t 9))⟩] [])))))
(.seq
(.reg 4 [⟨(some 10),none,(.q (.load none (.t 3)))⟩,⟨(some 2),none,(.q (.mov (.t 10)))⟩] [2])
.ret))))
theorem fok263 : FOK Tryz.prog 263 (11,ic263,[(.t 2)]):=.mk (pf:=[1000001]) (an:=[(0,[1,2]),(1,[1,2,3]),(2,[2,3,5]),(4,[2])]) (by kernel_rfl) (fnOK_of Tryz.func263 (by kernel_rfl) (by kernel_rfl) (by kernel_rfl))
def ic264 : IC :=
(.seq
(.reg 0 [⟨(some 1),none,(.boxt (.t 0))⟩,⟨(some 2),none,(.q (.mov (.c (.int .i64 0))))⟩] [1])
(.seq
(.seq
(.reg 1 [⟨(some 6),none,(.q (.faddr 0 (.t 1)))⟩,⟨(some 7),none,(.q (.load none (.t 6)))⟩,⟨(some 8),none,(.q (.bin .eql (.t 7) (.c (.int .u8 1))))⟩] [1,8])
(.cond (.t 8)
(.seq
(.reg 2 [⟨(some 2),none,(.q (.mov (.c (.int .i64 0))))⟩] [2])
.ret)
.skip))
(.seq
(.reg 3 [⟨(some 3),none,(.q (.mov (.c (.int .i64 0))))⟩] [1,3])
(.seq
(.seq
(.reg 4 [⟨(some 9),none,(.q (.faddr 6 (.t 1)))⟩,⟨(some 10),none,(.q (.load none (.t 9)))⟩,⟨(some 11),none,(.q (.len 0 (.t 10)))⟩,⟨(some 12),none,(.q (.mov (.c (.int .i64 0))))⟩] [3,10,11,12])
(.block 0
(.loop
(.seq
(.reg 5 [⟨(some 13),none,(.q (.bin .lss (.t 12) (.t 11)))⟩] [3,10,11,12,13])
(.seq
(.cond (.t 13)
.skip
(.exit 0))
(.seq
(.block 1
(.seq
(.reg 6 [⟨(some 14),none,(.q (.iaddr 7 (.t 10) (.t 12)))⟩,⟨(some 15),none,(.q (.load (some 7) (.t 14)))⟩,⟨(some 5),none,(.alloc [(.int .u8 0),(.str []),(.int .u8 0),(.int .i64 0),(.str []),(.str []),.nilslice])⟩,⟨none,none,(.store 7 (.t 5) (.t 15))⟩] [3,5,10,11,12])
(.reg 7 [⟨(some 16),none,(.q (.mov (.t 3)))⟩,⟨(some 17),none,(.q (.load (some 7) (.t 5)))⟩,⟨(some 18),none,(.call 264 [(.t 17)])⟩,⟨(some 19),none,(.q (.mm true (.t 16) (.t 18)))⟩,⟨(some 3),none,(.q (.mov (.t 19)))⟩] [3,10,11,12])))
(.reg 8 [⟨(some 20),none,(.q (.bin .add (.t 12) (.c (.int .i64 1))))⟩,⟨(some 12),none,(.q (.mov (.t 20)))⟩] [3,10,11,12])))))))
(.seq
(.reg 9 [⟨(some 21),none,(.q (.mov (.t 3)))⟩,⟨(some 22),none,(.q (.bin .add (.t 21) (.c (.int .i64 1))))⟩,⟨(some 2),none,(.q (.mov (.t 22)))⟩] [2])
.ret)))))
theorem fok264 : FOK Tryz.prog 264 (23,ic264,[(.t 2)]):=.mk (pf:=[1000001]) (an:=[(0,[1]),(1,[1,8]),(2,[2]),(3,[1,3]),(4,[3,10,11,12]),(5,[3,10,11,12,13]),(6,[3,5,10,11,12]),(7,[3,10,11,12]),(8,[3,10,11,12]),(9,[2])]) (by kernel_rfl) (fnOK_of Tryz.func264 (by kernel_rfl) (by kernel_rfl) (by kernel_rfl))
def ic265 : IC :=
(.seq
(.reg 0 [⟨(some 2),none,(.alloc [(.int .i64 0),(.int .i64 0),(.bool false),(.int .u8 0)])⟩] [0,2])
(.seq
(.reg 1 [⟨(some 4),none,(.q (.bld [(.int .i64 0),(.int .i64 0),(.bool false),(.int .u8 0)] [⟨0,⟨1,(.c (.int .i64 0))⟩⟩,⟨1,⟨1,(.c (.int .i64 0))⟩⟩,⟨2,⟨1,(.c (.bool true))⟩⟩,⟨3,⟨1,(.c (.int .u8 3))⟩⟩]))⟩,⟨(some 5),none,(.q (.bld [(.int .i64 0),(.int .i64 0),(.bool false),(.int .u8 0)] [⟨0,⟨1,(.c (.int .i64 2))⟩⟩,⟨1,⟨1,(.c (.int .i64 24))⟩⟩,⟨2,⟨1,(.c (.bool true))⟩⟩,⟨3,⟨1,(.c (.int .u8 3))⟩⟩]))⟩,⟨(some 6),none,(.q (.bld [(.int .i64 0),(.int .i64 0),(.bool false),(.int .u8 0)] [⟨0,⟨1,(.c (.int .i64 2))⟩⟩,⟨1,⟨1,(.c (.int .i64 24))⟩⟩,⟨2,⟨1,(.c (.bool true))⟩⟩,⟨3,⟨1,(.c (.int .u8 3))⟩⟩]))⟩,⟨(some 7),none,(.q (.bld [(.int .i64 0),(.int .i64 0),(.bool false),(.int .u8 0)] [⟨0,⟨1,(.c (.int .i64 2))⟩⟩,⟨1,⟨1,(.c (.int .i64 3))⟩⟩,⟨2,⟨1,(.c (.bool false))⟩⟩,⟨3,⟨1,(.c (.int .u8 1))⟩⟩]))⟩,⟨(some 8),none,(.q (.bld [(.int .i64 0),(.int .i64 0),(.bool false),(.int .u8 0)] [⟨0,⟨1,(.c (.int .i64 2))⟩⟩,⟨1,⟨1,(.c (.int .i64 3))⟩⟩,⟨2,⟨1,(.c (.bool false))⟩⟩,⟨3,⟨1,(.c (.int .u8 2))⟩⟩]))⟩,⟨(some 9),none,(.q (.bld [(.int .i64 0),(.int .i64 0),(.bool false),(.int .u8 0)] [⟨0,⟨1,(.c (.int .i64 2))⟩⟩,⟨1,⟨1,(.c (.int .i64 24))⟩⟩,⟨2,⟨1,(.c (.bool true))⟩⟩,⟨3,⟨1,(.c (.int .u8 3))⟩⟩]))⟩,⟨(some 10),none,(.q (.bld [(.int .i64 0),(.int .i64 0),(.bool false),(.int .u8 0)] [⟨0,⟨1,(.c (.int .i64 2))⟩⟩,⟨1,⟨1,(.c (.int .i64 2))⟩⟩,⟨2,⟨1,(.c (.bool true))⟩⟩,⟨3,⟨1,(.c (.int .u8 3))⟩⟩]))⟩,⟨(some 11),none,(.q (.bld [(.int .i64 0),(.int .i64 0),(.bool false),(.int .u8 0),(.int .i64 0),(.int .i64 0),(.bool false),(.int .u8 0),(.int .i64 0),(.int .i64 0),(.bool false),(.int .u8 0),(.int .i64 0),(.int .i64 0),(.bool false),(.int .u8 0),(.int .i64 0),(.int .i64 0),(.bool false),(.int .u8 0),(.int .i64 0),(.int .i64 0),(.bool false),(.int .u8 0),(.int .i64 0),(.int .i64 0),(.bool false),(.int .u8 0),(.int .i64 0),(.int .i64 0),(.bool false),(.int .u8 0)] [⟨4,⟨4,(.t 4)⟩⟩,⟨8,⟨4,(.t 5)⟩⟩,⟨12,⟨4,(.t 6)⟩⟩,⟨16,⟨4,(.t 7)⟩⟩,⟨20,⟨4,(.t 8)⟩⟩,⟨24,⟨4,(.t 9)⟩⟩,⟨28,⟨4,(.t 10)⟩⟩]))⟩,⟨(some 3),none,(.alloc [(.int .i64 0),(.int .i64 0),(.bool false),(.int .u8 0),(.int .i64 0),(.int .i64 0),(.bool false),(.int .u8 0),(.int .i64 0),(.int .i64 0),(.bool false),(.int .u8 0),(.int .i64 0),(.int .i64 0),(.bool false),(.int .u8 0),(.int .i64 0),(.int .i64 0),(.bool false),(.int .u8 0),(.int .i64 0),(.int .i64 0),(.bool false),(.int .u8 0),(.int .i64 0),(.int .i64 0),(.bool false),(.int .u8 0),(.int .i64 0),(.int .i64 0),(.bool false),(.int .u8 0)])⟩,⟨none,none,(.store 32 (.t 3) (.t 11))⟩] [0,2,3])
(.seq
(.seq
(.reg 2 [⟨(some 12),none,(.q (.mov (.t 0)))⟩,⟨(some 13),none,(.q (.conv .i64 (.t 12)))⟩,⟨(some 14),none,(.q (.bin .geq (.t 13) (.c (.int .i64 8))))⟩] [0,2,3,14])
(.cond (.t 14)
(.seq
(.reg 3 [⟨(some 15),none,(.q (.bld [(.int .i64 0),(.int .i64 0),(.bool false),(.int .u8 0)] []))⟩,⟨none,none,(.store 4 (.t 2) (.t 15))⟩] [2])
.ret)
.skip))
(.seq
(.reg 4 [⟨(some 16),none,(.q (.mov (.t 0)))⟩,⟨(some 17),none,(.q (.aaddr 8 4 (.t 3) (.t 16)))⟩,⟨(some 18),none,(.q (.load (some 4) (.t 17)))⟩,⟨none,none,(.store 4 (.t 2) (.t 18))⟩] [2])
.ret))))
theorem fok265 : FOK Tryz.prog 265 (19,ic265,[(.cell (some 4) 2)]):=.mk (pf:=[]) (an:=[(0,[0,2]),(1,[0,2,3]),(2,[0,2,3,14]),(3,[2]),(4,[2])]) (by kernel_rfl) (fnOK_of Tryz.func265 (by kernel_rfl) (by kernel_rfl) (by kernel_rfl))
def ic280 : IC :=
(.seq
(.reg 0 [⟨(some 2),none,(.q (.mov (.c (.str []))))⟩] [0])
(.seq
(.seq
(.reg 1 [⟨(some 5),none,(.q (.load none (.g 1)))⟩,⟨(some 6),none,(.mrange (.t 5))⟩] [0,6])
(.block 0
(.loop
(.seq
(.reg 2 [⟨(some 7),none,(.mnext (.t 6))⟩,⟨(some 8),none,(.q (.ext 0 (.t 7)))⟩] [0,6,8])
(.seq
(.cond (.t 8)
.skip
(.exit 0))
(.block 1
(.seq
(.reg 3 [⟨(some 9),none,(.ment (.t 6))⟩,⟨(some 10),none,(.q (.ext 0 (.t 9)))⟩,⟨(some 11),none,(.q (.ext 1 (.t 9)))⟩,⟨(some 3),none,(.q (.mov (.t 10)))⟩,⟨(some 4),none,(.q (.mov (.t 11)))⟩] [0,3,4,6])
(.seq
(.reg 4 [⟨(some 12),none,(.q (.mov (.t 4)))⟩,⟨(some 13),none,(.q (.mov (.t 0)))⟩,⟨(some 14),none,(.q (.bin .eql (.t 12) (.t 13)))⟩] [0,3,6,14])
(.cond (.t 14)
(.seq
(.reg 5 [⟨(some 15),none,(.q (.mov (.t 3)))⟩,⟨(some 2),none,(.q (.mov (.t 15)))⟩] [2])
.ret)
.skip)))))))))
(.seq
(.reg 6 [⟨(some 2),none,(.q (.mov (.c (.str []))))⟩] [2])
.ret)))
theorem fok280 : FOK Tryz.prog 280 (16,ic280,[(.t 2)]):=.mk (pf:=[]) (an:=[(0,[0]),(1,[0,6]),(2,[0,6,8]),(3,[0,3,4,6]),(4,[0,3,6,14]),(5,[2]),(6,[2])]) (by kernel_rfl) (fnOK_of Tryz.func280 (by kernel_rfl) (by kernel_rfl) (by kernel_rfl))
def ic281 : IC :=
(.seq
(.reg 0 [oK 1 (.boxt (.t 0)),oM 2 (.c .nilfunc)] [1])
(.seq
(.reg 1 [oQ 3 (.mkf 307 [] [(.t 1)]),oM 2 (.t 3)] [2])
.ret))
theorem fok281 : FOK Tryz.prog 281 (4,ic281,[(.t 2)]):=fokA [1000001] Tryz.func281
def ic282 : IC :=
(.seq
(.reg 0 [oM 2 (cI 0)] [0])
(.seq
(.reg 1 [oM 3 (cI 0)] [0,3])
(.seq
(.seq
(.reg 2 [oM 6 (.t 0),oQ 7 (.len 0 (.t 6)),oM 8 (cI 0)] [3,6,7,8])
(.block 0
(.loop
(.seq
(.reg 3 [oQ 9 (.bin .lss (.t 8) (.t 7))] [3,6,7,8,9])
(.seq
(.cond (.t 9)
.skip
(.exit 0))
(.seq
(.block 1
(.seq
(.reg 4 [oQ 10 (.iaddr 1 (.t 6) (.t 8)),oQ 11 (.load none (.t 10)),oM 5 (.t 11)] [3,5,6,7,8])
(.seq
(.reg 5 [oM 12 (.t 5),oM 13 (.t 3),oQ 14 (.bin .neq (.t 12) (.t 13))] [3,5,6,7,8,14])
(.cond (.t 14)
(.seq
(.reg 6 [oM 15 (.t 5),oM 2 (.t 15)] [2])
.ret)
.skip))))
(.reg 7 [oQ 16 (.bin .add (.t 8) (cI 1)),oM 8 (.t 16)] [3,6,7,8])))))))
(.seq
(.reg 8 [oM 17 (.t 3),oM 2 (.t 17)] [2])
.ret))))
theorem fok282 : FOK Tryz.prog 282 (18,ic282,[(.t 2)]):=fokA [] Tryz.func282
def ic283 : IC :=
(.seq
(.reg 0 [oM 4 (cI 0)] [0,1])
(.seq
(.reg 1 [oM 7 (.t 0),oK 8 (.call 310 [(.t 7)]),oM 5 (.t 8)] [0,1,5])
(.seq
(.reg 2 [oM 9 (.t 1),oK 10 (.call 310 [(.t 9)]),oM 6 (.t 10)] [0,1,5,6])
(.seq
(.seq
(.reg 3 [oM 11 (.t 5)] [0,1,6,11])
(.cond (.t 11)
(.seq
(.seq
(.reg 4 [oM 12 (.t 6)] [12])
(.cond (.t 12)
(.seq
(.reg 5 [oM 4 (cI 0)] [4])
.ret)
.skip))
(.seq
(.reg 6 [oM 4 (cI (-1))] [4])
.ret))
.skip))
(.seq
(.seq
(.reg 7 [oM 13 (.t 6)] [0,1,13])
(.cond (.t 13)
(.seq
(.reg 8 [oM 4 (cI 1)] [4])
.ret)
.skip))
(.seq
(.seq
(.reg 9 [oM 14 (.t 0),oM 15 (.t 1),oQ 16 (.bin .lss (.t 14) (.t 15))] [0,1,16])
(.cond (.t 16)
(.seq
(.reg 10 [oM 4 (cI (-1))] [4])
.ret)
.skip))
(.seq
(.seq
(.reg 11 [oM 17 (.t 0),oM 18 (.t 1),oQ 19 (.bin .gtr (.t 17) (.t 18))] [19])
(.cond (.t 19)
(.seq
(.reg 12 [oM 4 (cI 1)] [4])
.ret)
.skip))
(.seq
(.reg 13 [oM 4 (cI 0)] [4])
.ret))))))))
theorem fok283 : FOK Tryz.prog 283 (20,ic283,[(.t 4)]):=fokA [] Tryz.func283
end Go.Id.Tryz
