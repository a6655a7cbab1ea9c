/- The compiled codes of functions,written by a program out of the given form. Conditions: none. -/
import Derived.Test.YtiallonafbejaaaGreatDoorFwYa
import Derived.Test.YtiallonafbejaaaGreatDoorProg
set_option linter.all false
namespace Go.Id.Tryz
open Go Go.Id Go.Proofs
def im5:List Nat:=List.range 357
def ic213:IC :=
(.seq
(.reg 0 [⟨(some 2),none,(.boxt (.t 0))⟩,⟨(some 3),none,(.boxt (.t 1))⟩,⟨(some 4),none,(.alloc [(.int .i64 0)])⟩] [2,3,4])
(.seq
(.block 0
(.seq
(.reg 1 [⟨(some 9),none,(.q (.load none (.t 3)))⟩,⟨(some 10),none,(.q (.bin .lss (.t 9) (.c (.int .u8 1))))⟩,⟨(some 11),none,(.q (.mov (.t 10)))⟩,⟨(some 12),(some ⟨11,false⟩),(.q (.load none (.t 3)))⟩,⟨(some 13),(some ⟨11,false⟩),(.q (.bin .gtr (.t 12) (.c (.int .u8 3))))⟩,⟨(some 14),none,(.q (.pick (.t 11) (.c (.bool true)) (.t 13)))⟩,⟨(some 8),none,(.q (.mov (.t 14)))⟩] [2,3,4,8])
(.cond (.t 8)
(.seq
(.reg 2 [⟨none,none,(.store 1 (.t 4) (.c (.int .i64 1)))⟩] [4])
.ret)
(.seq
(.reg 3 [⟨(some 16),none,(.q (.load (some 7) (.t 2)))⟩,⟨(some 17),none,(.call 263 [(.t 16)])⟩,⟨(some 18),none,(.q (.bin .gtr (.t 17) (.c (.int .i64 24))))⟩,⟨(some 15),none,(.q (.mov (.t 18)))⟩] [2,3,4,15])
(.cond (.t 15)
(.seq
(.reg 4 [⟨none,none,(.store 1 (.t 4) (.c (.int .i64 40)))⟩] [4])
.ret)
(.seq
(.reg 5 [⟨(some 20),none,(.q (.load (some 7) (.t 2)))⟩,⟨(some 21),none,(.call 264 [(.t 20)])⟩,⟨(some 22),none,(.q (.bin .gtr (.t 21) (.c (.int .i64 8))))⟩,⟨(some 19),none,(.q (.mov (.t 22)))⟩] [2,3,4,19])
(.cond (.t 19)
(.seq
(.reg 6 [⟨none,none,(.store 1 (.t 4) (.c (.int .i64 21)))⟩] [4])
.ret)
.skip)))))))
(.seq
(.seq
(.reg 7 [⟨(some 23),none,(.q (.load (some 7) (.t 2)))⟩,⟨(some 24),none,(.call 239 [(.t 23)])⟩] [3,4,24])
(.block 1
(.rfunc (.t 24) [25,26]
(.seq
(.reg 8 [⟨(some 5),none,(.alloc [(.int .u8 0),(.str []),(.int .u8 0),(.int .i64 0),(.str []),(.str []),.nilslice])⟩,⟨none,none,(.store 7 (.t 5) (.t 25))⟩] [3,4,5,26])
(.reg 9 [⟨(some 6),none,(.q (.mov (.t 26)))⟩] [3,4,5,6]))
(.block 2
(.seq
(.reg 10 [⟨(some 27),none,(.q (.faddr 0 (.t 5)))⟩,⟨(some 28),none,(.q (.load none (.t 27)))⟩,⟨(some 29),none,(.call 265 [(.t 28)])⟩,⟨(some 7),none,(.alloc [(.int .i64 0),(.int .i64 0),(.bool false),(.int .u8 0)])⟩,⟨none,none,(.store 4 (.t 7) (.t 29))⟩] [3,4,5,6,7])
(.block 3
(.seq
(.seq
(.reg 11 [⟨(some 31),none,(.q (.faddr 3 (.t 7)))⟩,⟨(some 32),none,(.q (.load none (.t 31)))⟩,⟨(some 33),none,(.q (.load none (.t 3)))⟩,⟨(some 34),none,(.q (.bin .lss (.t 32) (.t 33)))⟩,⟨(some 30),none,(.q (.mov (.t 34)))⟩] [4,5,6,7,30])
(.cond (.t 30)
.skip
(.seq
(.reg 12 [⟨(some 35),none,(.q (.mov (.t 6)))⟩,⟨(some 36),none,(.q (.mov (.t 35)))⟩,⟨(some 37),(some ⟨36,true⟩),(.q (.faddr 2 (.t 7)))⟩,⟨(some 38),(some ⟨36,true⟩),(.q (.load none (.t 37)))⟩,⟨(some 39),(some ⟨36,true⟩),(.q (.not (.t 38)))⟩,⟨(some 40),none,(.q (.pick (.t 36) (.t 39) (.c (.bool false))))⟩,⟨(some 30),none,(.q (.mov (.t 40)))⟩] [4,5,7,30])
(.cond (.t 30)
.skip
(.seq
(.reg 13 [⟨(some 41),none,(.q (.faddr 6 (.t 5)))⟩,⟨(some 42),none,(.q (.load none (.t 41)))⟩,⟨(some 43),none,(.q (.len 0 (.t 42)))⟩,⟨(some 44),none,(.q (.faddr 0 (.t 7)))⟩,⟨(some 45),none,(.q (.load none (.t 44)))⟩,⟨(some 46),none,(.q (.bin .lss (.t 43) (.t 45)))⟩,⟨(some 30),none,(.q (.mov (.t 46)))⟩] [4,5,7,30])
(.cond (.t 30)
.skip
(.reg 14 [⟨(some 47),none,(.q (.faddr 6 (.t 5)))⟩,⟨(some 48),none,(.q (.load none (.t 47)))⟩,⟨(some 49),none,(.q (.len 0 (.t 48)))⟩,⟨(some 50),none,(.q (.faddr 1 (.t 7)))⟩,⟨(some 51),none,(.q (.load none (.t 50)))⟩,⟨(some 52),none,(.q (.bin .gtr (.t 49) (.t 51)))⟩,⟨(some 30),none,(.q (.mov (.t 52)))⟩] [4,5,30])))))))
(.cond (.t 30)
(.seq
(.reg 15 [⟨none,none,(.store 1 (.t 4) (.c (.int .i64 4)))⟩] [])
.ret)
(.seq
(.seq
(.reg 16 [⟨(some 54),none,(.q (.faddr 0 (.t 5)))⟩,⟨(some 55),none,(.q (.load none (.t 54)))⟩,⟨(some 56),none,(.q (.bin .eql (.t 55) (.c (.int .u8 1))))⟩,⟨(some 57),none,(.q (.mov (.t 56)))⟩,⟨(some 58),(some ⟨57,true⟩),(.q (.faddr 1 (.t 5)))⟩,⟨(some 59),(some ⟨57,true⟩),(.q (.load (some 5) (.t 58)))⟩,⟨(some 60),(some ⟨57,true⟩),(.call 157 [(.t 59)])⟩,⟨(some 61),(some ⟨57,true⟩),(.q (.not (.t 60)))⟩,⟨(some 62),none,(.q (.pick (.t 57) (.t 61) (.c (.bool false))))⟩,⟨(some 53),none,(.q (.mov (.t 62)))⟩] [4,5,53])
(.cond (.t 53)
.skip
(.reg 17 [⟨(some 63),none,(.q (.faddr 0 (.t 5)))⟩,⟨(some 64),none,(.q (.load none (.t 63)))⟩,⟨(some 65),none,(.q (.bin .neq (.t 64) (.c (.int .u8 1))))⟩,⟨(some 66),none,(.q (.mov (.t 65)))⟩,⟨(some 67),(some ⟨66,true⟩),(.q (.faddr 1 (.t 5)))⟩,⟨(some 68),(some ⟨66,true⟩),(.q (.load (some 5) (.t 67)))⟩,⟨(some 69),(some ⟨66,true⟩),(.q (.bld [(.str []),(.int .u8 0),(.int .i64 0),(.str []),(.str [])] []))⟩,⟨(some 70),(some ⟨66,true⟩),(.q (.eqs [2,1,1,2,2] true true (.t 68) (.t 69)))⟩,⟨(some 71),none,(.q (.pick (.t 66) (.t 70) (.c (.bool false))))⟩,⟨(some 53),none,(.q (.mov (.t 71)))⟩] [4,53])))
(.cond (.t 53)
(.seq
(.reg 18 [⟨none,none,(.store 1 (.t 4) (.c (.int .i64 4)))⟩] [])
.ret)
.skip))))))))))
(.seq
(.reg 19 [⟨none,none,(.store 1 (.t 4) (.c (.int .i64 0)))⟩] [4])
.ret))))
theorem fok213:FOK Tryz.prog 213 (72,ic213,[(.cell none 4)]):=.mk (pf:=[1000002,1000003]) (an:=[(0,[2,3,4]),(1,[2,3,4,8]),(2,[4]),(3,[2,3,4,15]),(4,[4]),(5,[2,3,4,19]),(6,[4]),(7,[3,4,24]),(8,[3,4,5,26]),(9,[3,4,5,6]),(10,[3,4,5,6,7]),(11,[4,5,6,7,30]),(12,[4,5,7,30]),(13,[4,5,7,30]),(14,[4,5,30]),(16,[4,5,53]),(17,[4,53]),(19,[4])]) (by kernel_rfl) (ab3 Tryz.func213 (by kernel_rfl) (by kernel_rfl) (by kernel_rfl))
def ic216:IC :=
(.seq
(.reg 0 [⟨(some 4),none,(.q (.mov (.c (.int .i64 0))))⟩] [0,1])
(.seq
(.seq
(.reg 1 [⟨(some 6),none,(.q (.mov (.t 0)))⟩,⟨(some 7),none,(.q (.len 0 (.t 6)))⟩,⟨(some 8),none,(.q (.mov (.c (.int .i64 0))))⟩] [0,1,7,8])
(.block 0
(.loop
(.seq
(.reg 2 [⟨(some 9),none,(.q (.bin .lss (.t 8) (.t 7)))⟩] [0,1,7,8,9])
(.seq
(.cond (.t 9)
.skip
(.exit 0))
(.seq
(.block 1
(.seq
(.reg 3 [⟨(some 10),none,(.q (.mov (.t 8)))⟩,⟨(some 5),none,(.q (.mov (.t 10)))⟩] [0,1,5,7,8])
(.seq
(.reg 4 [⟨(some 11),none,(.q (.mov (.t 1)))⟩,⟨(some 12),none,(.q (.mov (.t 0)))⟩,⟨(some 13),none,(.q (.mov (.t 5)))⟩,⟨(some 14),none,(.q (.iaddr 1 (.t 12) (.t 13)))⟩,⟨(some 15),none,(.q (.load none (.t 14)))⟩,⟨(some 16),none,(.q (.bin .eql (.t 11) (.t 15)))⟩] [0,1,5,7,8,16])
(.cond (.t 16)
(.seq
(.reg 5 [⟨(some 17),none,(.q (.mov (.t 5)))⟩,⟨(some 4),none,(.q (.mov (.t 17)))⟩] [4])
.ret)
.skip))))
(.reg 6 [⟨(some 18),none,(.q (.bin .add (.t 8) (.c (.int .i64 1))))⟩,⟨(some 8),none,(.q (.mov (.t 18)))⟩] [0,1,7,8])))))))
(.seq
(.reg 7 [⟨(some 4),none,(.q (.mov (.c (.int .i64 (-1)))))⟩] [4])
.ret)))
theorem fok216:FOK Tryz.prog 216 (19,ic216,[(.t 4)]):=.mk (pf:=[]) (an:=[(0,[0,1]),(1,[0,1,7,8]),(2,[0,1,7,8,9]),(3,[0,1,5,7,8]),(4,[0,1,5,7,8,16]),(5,[4]),(6,[0,1,7,8]),(7,[4])]) (by kernel_rfl) (ab3 Tryz.func216 (by kernel_rfl) (by kernel_rfl) (by kernel_rfl))
def ic227:IC :=
(.seq
(.reg 0 [oM 2 (cI 0)] [0,2])
(.seq
(.seq
(.reg 1 [oM 3 (.t 0),oQ 4 (.bin .geq (.t 3) (.c (.int .u64 4294967296)))] [0,2,4])
(.cond (.t 4)
(.seq
(.reg 2 [oM 5 (.t 0),oQ 6 (.bin .shr (.t 5) (.c (.int .u64 32))),oM 0 (.t 6)] [0])
(.reg 3 [oM 2 (cI 32)] [0,2]))
.skip))
(.seq
(.seq
(.reg 4 [oM 7 (.t 0),oQ 8 (.bin .geq (.t 7) (.c (.int .u64 65536)))] [0,2,8])
(.cond (.t 8)
(.seq
(.reg 5 [oM 9 (.t 0),oQ 10 (.bin .shr (.t 9) (.c (.int .u64 16))),oM 0 (.t 10)] [0,2])
(.reg 6 [oM 11 (.t 2),oQ 12 (.bin .add (.t 11) (cI 16)),oM 2 (.t 12)] [0,2]))
.skip))
(.seq
(.seq
(.reg 7 [oM 13 (.t 0),oQ 14 (.bin .geq (.t 13) (.c (.int .u64 256)))] [0,2,14])
(.cond (.t 14)
(.seq
(.reg 8 [oM 15 (.t 0),oQ 16 (.bin .shr (.t 15) (.c (.int .u64 8))),oM 0 (.t 16)] [0,2])
(.reg 9 [oM 17 (.t 2),oQ 18 (.bin .add (.t 17) (cI 8)),oM 2 (.t 18)] [0,2]))
.skip))
(.seq
(.reg 10 [oM 19 (.t 2),oM 20 (.t 0),oQ 21 (.conv .u8 (.t 20)),oQ 22 (.istr (.c (.str [0,1,2,2,3,3,3,3,4,4,4,4,4,4,4,4,5,5,5,5,5,5,5,5,5,5,5,5,5,5,5,5,6,6,6,6,6,6,6,6,6,6,6,6,6,6,6,6,6,6,6,6,6,6,6,6,6,6,6,6,6,6,6,6,7,7,7,7,7,7,7,7,7,7,7,7,7,7,7,7,7,7,7,7,7,7,7,7,7,7,7,7,7,7,7,7,7,7,7,7,7,7,7,7,7,7,7,7,7,7,7,7,7,7,7,7,7,7,7,7,7,7,7,7,7,7,7,7,8,8,8,8,8,8,8,8,8,8,8,8,8,8,8,8,8,8,8,8,8,8,8,8,8,8,8,8,8,8,8,8,8,8,8,8,8,8,8,8,8,8,8,8,8,8,8,8,8,8,8,8,8,8,8,8,8,8,8,8,8,8,8,8,8,8,8,8,8,8,8,8,8,8,8,8,8,8,8,8,8,8,8,8,8,8,8,8,8,8,8,8,8,8,8,8,8,8,8,8,8,8,8,8,8,8,8,8,8,8,8,8,8,8,8,8,8,8,8,8,8,8,8,8,8,8,8,8])) (.t 21)),oQ 23 (.conv .i64 (.t 22)),oQ 24 (.bin .add (.t 19) (.t 23)),oM 2 (.t 24)] [2])
.ret)))))
theorem fok227:FOK Tryz.prog 227 (25,ic227,[(.t 2)]):=fokA [] Tryz.func227
def ic228:IC :=
(.seq
(.reg 0 [oM 2 (.c (zU 0))] [0])
(.seq
(.reg 1 [oQ 3 (.bld [(zU 0),(zU 0),(zU 0)] [⟨0,⟨1,(.c (zU 1))⟩⟩,⟨1,⟨1,(.c (zU 2))⟩⟩,⟨2,⟨1,(.c (zU 4))⟩⟩]),oM 4 (.t 0),oQ 5 (.bin .add (.t 4) (cI 1)),oQ 6 (.idx none 3 1 (.t 3) (.t 5)),oM 2 (.t 6)] [2])
.ret))
theorem fok228:FOK Tryz.prog 228 (7,ic228,[(.t 2)]):=fokA [] Tryz.func228
def ic229:IC :=
(.seq
(.reg 0 [oM 4 (cI 0)] [0,1])
(.seq
(.seq
(.reg 1 [oM 6 (.t 0),oQ 7 (.len 0 (.t 6)),oM 8 (cI 0)] [0,1,7,8])
(.block 0
(.loop
(.seq
(.reg 2 [oQ 9 (.bin .lss (.t 8) (.t 7))] [0,1,7,8,9])
(.seq
(.cond (.t 9)
.skip
(.exit 0))
(.seq
(.block 1
(.seq
(.reg 3 [oM 10 (.t 8),oM 5 (.t 10)] [0,1,5,7,8])
(.seq
(.reg 4 [oM 11 (.t 1),oM 12 (.t 0),oM 13 (.t 5),oQ 14 (.iaddr 6 (.t 12) (.t 13)),oQ 15 (.load (some 6) (.t 14)),oK 16 (.callv (.t 11) [(.t 15)])] [0,1,5,7,8,16])
(.cond (.t 16)
(.seq
(.reg 5 [oM 17 (.t 5),oM 4 (.t 17)] [4])
.ret)
.skip))))
(.reg 6 [oQ 18 (.bin .add (.t 8) (cI 1)),oM 8 (.t 18)] [0,1,7,8])))))))
(.seq
(.reg 7 [oM 4 (cI (-1))] [4])
.ret)))
theorem fok229:FOK Tryz.prog 229 (19,ic229,[(.t 4)]):=fokA [] Tryz.func229
def ic230:IC :=
(.seq
(.reg 0 [⟨(some 2),none,(.q (.mov (.c (.bool false))))⟩] [0])
(.seq
(.reg 1 [⟨(some 3),none,(.q (.mov (.t 0)))⟩,⟨(some 4),none,(.q (.bin .eql (.t 3) (.c (.int .u8 0))))⟩,⟨(some 5),none,(.q (.mov (.t 4)))⟩,⟨(some 6),(some ⟨5,false⟩),(.q (.mov (.t 0)))⟩,⟨(some 7),(some ⟨5,false⟩),(.call 280 [(.t 6)])⟩,⟨(some 8),(some ⟨5,false⟩),(.q (.bin .neq (.t 7) (.c (.str []))))⟩,⟨(some 9),none,(.q (.pick (.t 5) (.c (.bool true)) (.t 8)))⟩,⟨(some 2),none,(.q (.mov (.t 9)))⟩] [2])
.ret))
theorem fok230:FOK Tryz.prog 230 (10,ic230,[(.t 2)]):=.mk (pf:=[]) (an:=[(0,[0]),(1,[2])]) (by kernel_rfl) (ab3 Tryz.func230 (by kernel_rfl) (by kernel_rfl) (by kernel_rfl))
def ic231:IC :=
(.seq
(.reg 0 [oM 4 (cI 0)] [0,1])
(.seq
(.seq
(.reg 1 [oM 6 (.t 0),oQ 7 (.len 0 (.t 6)),oM 8 (cI 0)] [0,1,7,8])
(.block 0
(.loop
(.seq
(.reg 2 [oQ 9 (.bin .lss (.t 8) (.t 7))] [0,1,7,8,9])
(.seq
(.cond (.t 9)
.skip
(.exit 0))
(.seq
(.block 1
(.seq
(.reg 3 [oM 10 (.t 8),oM 5 (.t 10)] [0,1,5,7,8])
(.seq
(.reg 4 [oM 11 (.t 1),oM 12 (.t 0),oM 13 (.t 5),oQ 14 (.iaddr 2 (.t 12) (.t 13)),oQ 15 (.load (some 2) (.t 14)),oK 16 (.callv (.t 11) [(.t 15)])] [0,1,5,7,8,16])
(.cond (.t 16)
(.seq
(.reg 5 [oM 17 (.t 5),oM 4 (.t 17)] [4])
.ret)
.skip))))
(.reg 6 [oQ 18 (.bin .add (.t 8) (cI 1)),oM 8 (.t 18)] [0,1,7,8])))))))
(.seq
(.reg 7 [oM 4 (cI (-1))] [4])
.ret)))
theorem fok231:FOK Tryz.prog 231 (19,ic231,[(.t 4)]):=fokA [] Tryz.func231
def ic232:IC :=
(.seq
(.reg 0 [oM 2 (.c .nilslice)] [0])
(.seq
(.seq
(.reg 1 [oM 3 (.t 0),oQ 4 (.isnil (.slice 70) false (.t 3))] [0,4])
(.cond (.t 4)
(.seq
(.reg 2 [oM 2 (.c .nilslice)] [2])
.ret)
.skip))
(.seq
(.reg 3 [oK 5 (.bsl 6 0 [(zU 0),(.str []),(zU 0),(zI 0),(.str []),(.str [])] []),oM 6 (.t 0),oK 7 (.app 6 (.t 5) (.t 6)),oM 2 (.t 7)] [2])
.ret)))
theorem fok232:FOK Tryz.prog 232 (8,ic232,[(.t 2)]):=fokA [] Tryz.func232
def ic233:IC :=
(.seq
(.reg 0 [oM 2 (.c .nilslice)] [0])
(.seq
(.seq
(.reg 1 [oM 3 (.t 0),oQ 4 (.isnil (.slice 61) false (.t 3))] [0,4])
(.cond (.t 4)
(.seq
(.reg 2 [oM 2 (.c .nilslice)] [2])
.ret)
.skip))
(.seq
(.reg 3 [oK 5 (.bsl 2 0 [(zU 0),(zI 0)] []),oM 6 (.t 0),oK 7 (.app 2 (.t 5) (.t 6)),oM 2 (.t 7)] [2])
.ret)))
theorem fok233:FOK Tryz.prog 233 (8,ic233,[(.t 2)]):=fokA [] Tryz.func233
def ic235:IC :=
(.seq
(.reg 0 [oM 2 (.c .nilslice)] [0,2])
(.seq
(.reg 1 [oK 3 (.alloc [.nilslice])] [0,2,3])
(.seq
(.seq
(.reg 2 [oM 5 (.t 0),oK 6 (.call 281 [(.t 5)])] [2,3,6])
(.block 0
(.rfunc (.t 6) [7]
(.reg 3 [oK 4 (.alloc [(zU 0),(.str [])]),oN (.store 2 (.t 4) (.t 7))] [3,4])
(.block 1
(.reg 4 [oQ 8 (.load none (.t 3)),oQ 9 (.load (some 2) (.t 4)),oK 10 (.bslt 2 1 [(zU 0),(.str [])] [⟨0,⟨2,(.t 9)⟩⟩]),oK 11 (.app 2 (.t 8) (.t 10)),oN (.store 1 (.t 3) (.t 11))] [])))))
(.seq
(.reg 5 [oQ 12 (.load none (.t 3)),oM 2 (.t 12)] [2])
.ret))))
theorem fok235:FOK Tryz.prog 235 (13,ic235,[(.t 2)]):=fokA [1000010] Tryz.func235
def ic236:IC :=
(.seq
(.reg 0 [oK 2 (.boxt (.t 0)),oK 3 (.boxt (.t 1)),oM 4 (cI 0)] [2,3])
(.seq
(.reg 1 [oM 5 (cI 0)] [2,3,5])
(.seq
(.seq
(.reg 2 [oQ 6 (.faddr 0 (.t 2)),oQ 7 (.load none (.t 6)),oQ 8 (.bin .eql (.t 7) (.c (zU 5))),oM 9 (.t 8),gQ 10 9 true (.faddr 0 (.t 3)),gQ 11 9 true (.load none (.t 10)),gQ 12 9 true (.bin .eql (.t 11) (.c (zU 5))),oQ 13 (.pick (.t 9) (.t 12) (cB false))] [2,3,5,13])
(.cond (.t 13)
(.reg 3 [oQ 14 (.faddr 1 (.t 2)),oQ 15 (.load none (.t 14)),oQ 16 (.len 1 (.t 15)),oQ 17 (.faddr 1 (.t 3)),oQ 18 (.load none (.t 17)),oQ 19 (.len 1 (.t 18)),oK 20 (.call 126 [(.t 16),(.t 19)]),oM 5 (.t 20)] [2,3,5])
.skip))
(.seq
(.dreg 4 [oQ 21 (.faddr 0 (.t 2)),oQ 22 (.load none (.t 21)),oQ 23 (.faddr 0 (.t 3)),oQ 24 (.load none (.t 23)),oK 25 (.pcall 283 [(.t 22),(.t 24)]),oM 26 (.t 5),oQ 27 (.faddr 1 (.t 2)),oQ 28 (.load none (.t 27)),oQ 29 (.faddr 1 (.t 3)),oQ 30 (.load none (.t 29)),oK 31 (.pcall 284 [(.t 28),(.t 30)]),oK 32 (.bslt 1 3 [(zI 0)] [⟨0,⟨1,(.t 25)⟩⟩,⟨1,⟨1,(.t 26)⟩⟩,⟨2,⟨1,(.t 31)⟩⟩]),oK 33 (.pcall 282 [(.t 32)]),oM 4 (.t 33)] false [4])
.ret))))
theorem fok236:FOK Tryz.prog 236 (34,ic236,[(.t 4)]):=fokA ([1000002,1000003,1000032]++[282,283,284]) Tryz.func236 (by kernel_rfl) (by kernel_rfl) (by kernel_rfl) (by kernel_rfl)
def ic237:IC :=
(.seq
(.reg 0 [oK 0 (.alloc [(zI 0),(zI 0),(zI 0),(zI 0),(zI 0),(zI 0),(zI 0),(zI 0),(zI 0),(zI 0),(zI 0),(zI 0),(zI 0),(zI 0),(zI 0),(zI 0),(zI 0),(zI 0),(zI 0),(zI 0),(zI 0),(zI 0),(zI 0),(zI 0),(zI 0)])] [0])
(.seq
(.reg 1 [oQ 1 (.bld [(zI 0),(zI 0),(zI 0),(zI 0),(zI 0)] [⟨1,⟨1,(cI 2)⟩⟩,⟨2,⟨1,(cI 1)⟩⟩,⟨3,⟨1,(cI 3)⟩⟩]),oQ 2 (.bld [(zI 0),(zI 0),(zI 0),(zI 0),(zI 0)] [⟨1,⟨1,(cI 2)⟩⟩,⟨3,⟨1,(cI 1)⟩⟩]),oQ 3 (.bld [(zI 0),(zI 0),(zI 0),(zI 0),(zI 0)] [⟨1,⟨1,(cI 2)⟩⟩,⟨4,⟨1,(cI 1)⟩⟩]),oQ 4 (.bld [(zI 0),(zI 0),(zI 0),(zI 0),(zI 0),(zI 0),(zI 0),(zI 0),(zI 0),(zI 0),(zI 0),(zI 0),(zI 0),(zI 0),(zI 0),(zI 0),(zI 0),(zI 0),(zI 0),(zI 0),(zI 0),(zI 0),(zI 0),(zI 0),(zI 0)] [⟨10,⟨5,(.t 1)⟩⟩,⟨15,⟨5,(.t 2)⟩⟩,⟨20,⟨5,(.t 3)⟩⟩]),oN (.store 25 (.t 0) (.t 4))] [0])
.ret))
theorem fok237:FOK Tryz.prog 237 (5,ic237,[(.cell (some 25) 0)]):=fokA [] Tryz.func237
def ic239:IC :=
(.seq
(.reg 0 [⟨(some 1),none,(.boxt (.t 0))⟩,⟨(some 2),none,(.q (.mov (.c .nilfunc)))⟩] [1])
(.seq
(.reg 1 [⟨(some 3),none,(.alloc [.nilfunc])⟩] [1,3])
(.seq
(.reg 2 [⟨(some 4),none,(.q (.mkf 285 [] [(.t 3)]))⟩,⟨none,none,(.store 1 (.t 3) (.t 4))⟩] [1,3])
(.seq
(.reg 3 [⟨(some 5),none,(.q (.mkf 286 [] [(.t 3),(.t 1)]))⟩,⟨(some 2),none,(.q (.mov (.t 5)))⟩] [2])
.ret))))
theorem fok239:FOK Tryz.prog 239 (6,ic239,[(.t 2)]):=.mk (pf:=[1000001]) (an:=[(0,[1]),(1,[1,3]),(2,[1,3]),(3,[2])]) (by kernel_rfl) (ab3 Tryz.func239 (by kernel_rfl) (by kernel_rfl) (by kernel_rfl))
def ic240:IC :=
(.seq
(.reg 0 [⟨(some 4),none,(.q (.mov (.c (.int .i64 0))))⟩] [0,1])
(.seq
(.seq
(.reg 1 [⟨(some 6),none,(.q (.mov (.t 0)))⟩,⟨(some 7),none,(.q (.len 0 (.t 6)))⟩,⟨(some 8),none,(.q (.mov (.c (.int .i64 0))))⟩] [0,1,7,8])
(.block 0
(.loop
(.seq
(.reg 2 [⟨(some 9),none,(.q (.bin .lss (.t 8) (.t 7)))⟩] [0,1,7,8,9])
(.seq
(.cond (.t 9)
.skip
(.exit 0))
(.seq
(.block 1
(.seq
(.reg 3 [⟨(some 10),none,(.q (.mov (.t 8)))⟩,⟨(some 5),none,(.q (.mov (.t 10)))⟩] [0,1,5,7,8])
(.seq
(.reg 4 [⟨(some 11),none,(.q (.mov (.t 1)))⟩,⟨(some 12),none,(.q (.mov (.t 0)))⟩,⟨(some 13),none,(.q (.mov (.t 5)))⟩,⟨(some 14),none,(.q (.iaddr 7 (.t 12) (.t 13)))⟩,⟨(some 15),none,(.q (.load (some 7) (.t 14)))⟩,⟨(some 16),none,(.callv (.t 11) [(.t 15)])⟩] [0,1,5,7,8,16])
(.cond (.t 16)
(.seq
(.reg 5 [⟨(some 17),none,(.q (.mov (.t 5)))⟩,⟨(some 4),none,(.q (.mov (.t 17)))⟩] [4])
.ret)
.skip))))
(.reg 6 [⟨(some 18),none,(.q (.bin .add (.t 8) (.c (.int .i64 1))))⟩,⟨(some 8),none,(.q (.mov (.t 18)))⟩] [0,1,7,8])))))))
(.seq
(.reg 7 [⟨(some 4),none,(.q (.mov (.c (.int .i64 (-1)))))⟩] [4])
.ret)))
theorem fok240:FOK Tryz.prog 240 (19,ic240,[(.t 4)]):=.mk (pf:=[]) (an:=[(0,[0,1]),(1,[0,1,7,8]),(2,[0,1,7,8,9]),(3,[0,1,5,7,8]),(4,[0,1,5,7,8,16]),(5,[4]),(6,[0,1,7,8]),(7,[4])]) (by kernel_rfl) (ab3 Tryz.func240 (by kernel_rfl) (by kernel_rfl) (by kernel_rfl))
def ic241:IC :=
(.seq
(.reg 0 [oK 1 (.boxt (.t 0)),oM 2 (cB false)] [1])
(.seq
(.reg 1 [oQ 7 (.load (some 7) (.t 1)),oK 8 (.call 287 [(.t 7)]),oM 6 (.t 8),oQ 9 (.ext 0 (.t 6)),oQ 10 (.ext 1 (.t 6)),oQ 11 (.ext 2 (.t 6)),oM 3 (.t 9),oM 4 (.t 10),oM 5 (.t 11)] [3,4,5])
(.seq
(.reg 2 [oM 12 (.t 5),oM 13 (.t 12),gQ 14 13 true (.mov (.t 3)),gQ 15 13 true (.bin .leq (.t 14) (cI 24)),oQ 16 (.pick (.t 13) (.t 15) (cB false)),oM 17 (.t 16),gQ 18 17 true (.mov (.t 4)),gQ 19 17 true (.bin .leq (.t 18) (cI 8)),oQ 20 (.pick (.t 17) (.t 19) (cB false)),oM 2 (.t 20)] [2])
.ret)))
theorem fok241:FOK Tryz.prog 241 (21,ic241,[(.t 2)]):=fokA [1000001] Tryz.func241
def ic242:IC :=
(.seq
(.reg 0 [oK 4 (.alloc [.nilptr,.nilslice])] [0,1,4])
(.seq
(.reg 1 [oM 8 (.t 0),oM 9 (.t 0),oQ 10 (.nchk (.t 9)),oQ 11 (.faddr 1 (.t 10)),oQ 12 (.load none (.t 11)),oK 13 (.mksl 1 [(.bool false)] (.t 12)),oQ 14 (.bld [.nilptr,.nilslice] [⟨0,⟨1,(.t 8)⟩⟩,⟨1,⟨1,(.t 13)⟩⟩]),oK 5 (.alloc [.nilptr,.nilslice]),oN (.store 2 (.t 5) (.t 14))] [0,1,4,5])
(.seq
(.seq
(.reg 2 [oM 15 (.t 1),oQ 16 (.len 0 (.t 15)),oM 17 (cI 0)] [0,4,5,15,16,17])
(.block 0
(.loop
(.seq
(.reg 3 [oQ 18 (.bin .lss (.t 17) (.t 16))] [0,4,5,15,16,17,18])
(.seq
(.cond (.t 18)
.skip
(.exit 0))
(.seq
(.block 1
(.seq
(.reg 4 [oQ 19 (.iaddr 1 (.t 15) (.t 17)),oQ 20 (.load none (.t 19)),oM 7 (.t 20)] [0,4,5,7,15,16,17])
(.seq
(.reg 5 [oM 21 (.t 7),oQ 22 (.bin .geq (.t 21) (cI 0)),oM 23 (.t 22),gQ 24 23 true (.mov (.t 7)),gQ 25 23 true (.mov (.t 0)),gQ 26 23 true (.nchk (.t 25)),gQ 27 23 true (.faddr 1 (.t 26)),gQ 28 23 true (.load none (.t 27)),gQ 29 23 true (.bin .lss (.t 24) (.t 28)),oQ 30 (.pick (.t 23) (.t 29) (cB false))] [0,4,5,7,15,16,17,30])
(.cond (.t 30)
(.reg 6 [oQ 31 (.faddr 1 (.t 5)),oQ 32 (.load none (.t 31)),oM 33 (.t 7),oQ 34 (.iaddr 1 (.t 32) (.t 33)),oN (.store 1 (.t 34) (cB true))] [0,4,5,15,16,17])
.skip))))
(.reg 7 [oQ 35 (.bin .add (.t 17) (cI 1)),oM 17 (.t 35)] [0,4,5,15,16,17])))))))
(.seq
(.reg 8 [oQ 36 (.load (some 2) (.t 5)),oN (.store 2 (.t 4) (.t 36))] [4])
.ret))))
theorem fok242:FOK Tryz.prog 242 (37,ic242,[(.cell (some 2) 4)]):=fokA [] Tryz.func242
def ic243:IC :=
(.seq
(.reg 0 [oK 2 (.boxt (.t 0)),oK 3 (.boxt (.t 1)),oM 4 (cB false)] [2,3])
(.seq
(.reg 1 [oQ 6 (.bld [.nilfunc,.nilfunc,.nilfunc,.nilfunc,.nilfunc,.nilfunc,.nilfunc,.nilfunc] [⟨1,⟨1,(.f 288)⟩⟩,⟨2,⟨1,(.f 289)⟩⟩,⟨3,⟨1,(.f 290)⟩⟩,⟨4,⟨1,(.f 291)⟩⟩,⟨5,⟨1,(.f 292)⟩⟩,⟨6,⟨1,(.f 293)⟩⟩,⟨7,⟨1,(.f 294)⟩⟩]),oK 5 (.alloc [.nilfunc,.nilfunc,.nilfunc,.nilfunc,.nilfunc,.nilfunc,.nilfunc,.nilfunc]),oN (.store 8 (.t 5) (.t 6))] [2,3,5])
(.seq
(.dreg 2 [oQ 7 (.faddr 0 (.t 3)),oQ 8 (.load none (.t 7)),oQ 9 (.aaddr 8 1 (.t 5) (.t 8)),oQ 10 (.load none (.t 9)),oQ 11 (.load (some 2) (.t 2)),oQ 12 (.load (some 7) (.t 3)),oK 13 (.callv (.t 10) [(.t 11),(.t 12)]),oM 4 (.t 13)] false [4])
.ret)))
theorem fok243:FOK Tryz.prog 243 (14,ic243,[(.t 4)]):=fokA [1000002,1000003] Tryz.func243
def ic244:IC :=
(.seq
(.reg 0 [oM 10 (.t 1),oQ 11 (.bin .add (.t 10) (cI 1)),oM 8 (.t 11)] [0,1,2,3,8])
(.block 0
(.loop
(.seq
(.seq
(.reg 1 [oM 12 (.t 8),oM 13 (.t 2),oQ 14 (.bin .lss (.t 12) (.t 13))] [0,1,2,3,8,14])
(.cond (.t 14)
.skip
(.exit 0)))
(.seq
(.block 1
(.seq
(.reg 3 [oM 17 (.t 8),oM 9 (.t 17)] [0,1,2,3,8,9])
(.block 2
(.loop
(.seq
(.seq
(.dreg 4 [oM 18 (.t 9),oM 19 (.t 1),oQ 20 (.bin .gtr (.t 18) (.t 19)),oM 21 (.t 20),gQ 22 21 true (.mov (.t 3)),gQ 23 21 true (.mov (.t 0)),gQ 24 21 true (.mov (.t 9)),gQ 25 21 true (.iaddr 1 (.t 23) (.t 24)),gQ 26 21 true (.load none (.t 25)),gQ 27 21 true (.mov (.t 0)),gQ 28 21 true (.mov (.t 9)),gQ 29 21 true (.bin .sub (.t 28) (cI 1)),gQ 30 21 true (.iaddr 1 (.t 27) (.t 29)),gQ 31 21 true (.load none (.t 30)),gK 32 21 true (.callv (.t 22) [(.t 26),(.t 31)]),gQ 33 21 true (.bin .lss (.t 32) (cI 0)),oQ 34 (.pick (.t 21) (.t 33) (cB false))] false [0,1,2,3,8,9,34])
(.cond (.t 34)
.skip
(.exit 2)))
(.seq
(.block 3
(.dreg 6 [oM 37 (.t 0),oM 38 (.t 9),oM 39 (.t 0),oM 40 (.t 9),oQ 41 (.bin .sub (.t 40) (cI 1)),oM 42 (.t 0),oM 43 (.t 9),oQ 44 (.bin .sub (.t 43) (cI 1)),oQ 45 (.iaddr 1 (.t 42) (.t 44)),oQ 46 (.load none (.t 45)),oM 47 (.t 0),oM 48 (.t 9),oQ 49 (.iaddr 1 (.t 47) (.t 48)),oQ 50 (.load none (.t 49)),oQ 51 (.iaddr 1 (.t 37) (.t 38)),oN (.store 1 (.t 51) (.t 46)),oQ 52 (.iaddr 1 (.t 39) (.t 41)),oN (.store 1 (.t 52) (.t 50))] false [0,1,2,3,8,9]))
(.reg 5 [oM 35 (.t 9),oQ 36 (.bin .sub (.t 35) (cI 1)),oM 9 (.t 36)] [0,1,2,3,8,9])))))))
(.reg 2 [oM 15 (.t 8),oQ 16 (.bin .add (.t 15) (cI 1)),oM 8 (.t 16)] [0,1,2,3,8]))))))
theorem fok244:FOK Tryz.prog 244 (53,ic244,[]):=fokA [] Tryz.func244
def ic254:IC :=
(.seq
(.reg 0 [⟨(some 4),none,(.q (.mov (.c (.int .i64 0))))⟩] [0,1])
(.seq
(.reg 1 [⟨(some 5),none,(.q (.mov (.t 0)))⟩,⟨(some 6),none,(.q (.mov (.t 1)))⟩,⟨(some 7),none,(.call 299 [(.t 5),(.t 6)])⟩,⟨(some 4),none,(.q (.mov (.t 7)))⟩] [4])
.ret))
theorem fok254:FOK Tryz.prog 254 (8,ic254,[(.t 4)]):=.mk (pf:=[]) (an:=[(0,[0,1]),(1,[4])]) (by kernel_rfl) (ab3 Tryz.func254 (by kernel_rfl) (by kernel_rfl) (by kernel_rfl))
def ic255:IC :=
(.seq
(.reg 0 [⟨(some 4),none,(.q (.mov (.c (.bool false))))⟩] [0,1])
(.seq
(.reg 1 [⟨(some 5),none,(.q (.mov (.t 0)))⟩,⟨(some 6),none,(.q (.mov (.t 1)))⟩,⟨(some 7),none,(.call 300 [(.t 5),(.t 6)])⟩,⟨(some 4),none,(.q (.mov (.t 7)))⟩] [4])
.ret))
theorem fok255:FOK Tryz.prog 255 (8,ic255,[(.t 4)]):=.mk (pf:=[]) (an:=[(0,[0,1]),(1,[4])]) (by kernel_rfl) (ab3 Tryz.func255 (by kernel_rfl) (by kernel_rfl) (by kernel_rfl))
def ic256:IC :=
(.seq
(.reg 0 [⟨(some 2),none,(.q (.mov (.c (.bool false))))⟩] [0])
(.seq
(.seq
(.reg 1 [⟨(some 5),none,(.q (.mov (.t 0)))⟩,⟨(some 6),none,(.q (.bin .eql (.t 5) (.c (.str []))))⟩,⟨(some 7),none,(.q (.mov (.t 6)))⟩,⟨(some 8),(some ⟨7,false⟩),(.q (.mov (.t 0)))⟩,⟨(some 9),(some ⟨7,false⟩),(.q (.len 1 (.t 8)))⟩,⟨(some 10),(some ⟨7,false⟩),(.q (.bin .gtr (.t 9) (.c (.int .i64 64))))⟩,⟨(some 11),none,(.q (.pick (.t 7) (.c (.bool true)) (.t 10)))⟩] [0,11])
(.cond (.t 11)
(.seq
(.reg 2 [⟨(some 2),none,(.q (.mov (.c (.bool false))))⟩] [2])
.ret)
.skip))
(.seq
(.seq
(.reg 3 [⟨(some 12),none,(.q (.mov (.t 0)))⟩,⟨(some 13),none,(.q (.len 1 (.t 12)))⟩,⟨(some 14),none,(.q (.mov (.c (.int .i64 0))))⟩] [0,13,14])
(.block 0
(.loop
(.seq
(.reg 4 [⟨(some 15),none,(.q (.bin .lss (.t 14) (.t 13)))⟩] [0,13,14,15])
(.seq
(.cond (.t 15)
.skip
(.exit 0))
(.seq
(.block 1
(.seq
(.reg 5 [⟨(some 16),none,(.q (.mov (.t 14)))⟩,⟨(some 3),none,(.q (.mov (.t 16)))⟩] [0,3,13,14])
(.seq
(.reg 6 [⟨(some 17),none,(.q (.mov (.t 0)))⟩,⟨(some 18),none,(.q (.mov (.t 3)))⟩,⟨(some 19),none,(.q (.istr (.t 17) (.t 18)))⟩,⟨(some 4),none,(.q (.mov (.t 19)))⟩] [0,4,13,14])
(.block 2
(.seq
(.seq
(.reg 8 [⟨(some 21),none,(.q (.mov (.t 4)))⟩,⟨(some 22),none,(.q (.bin .geq (.t 21) (.c (.int .u8 97))))⟩,⟨(some 23),none,(.q (.mov (.t 22)))⟩,⟨(some 24),(some ⟨23,true⟩),(.q (.mov (.t 4)))⟩,⟨(some 25),(some ⟨23,true⟩),(.q (.bin .leq (.t 24) (.c (.int .u8 122))))⟩,⟨(some 26),none,(.q (.pick (.t 23) (.t 25) (.c (.bool false))))⟩,⟨(some 20),none,(.q (.mov (.t 26)))⟩] [0,4,13,14,20])
(.cond (.t 20)
.skip
(.seq
(.reg 9 [⟨(some 27),none,(.q (.mov (.t 4)))⟩,⟨(some 28),none,(.q (.bin .geq (.t 27) (.c (.int .u8 65))))⟩,⟨(some 29),none,(.q (.mov (.t 28)))⟩,⟨(some 30),(some ⟨29,true⟩),(.q (.mov (.t 4)))⟩,⟨(some 31),(some ⟨29,true⟩),(.q (.bin .leq (.t 30) (.c (.int .u8 90))))⟩,⟨(some 32),none,(.q (.pick (.t 29) (.t 31) (.c (.bool false))))⟩,⟨(some 20),none,(.q (.mov (.t 32)))⟩] [0,4,13,14,20])
(.cond (.t 20)
.skip
(.seq
(.reg 10 [⟨(some 33),none,(.q (.mov (.t 4)))⟩,⟨(some 34),none,(.q (.bin .geq (.t 33) (.c (.int .u8 48))))⟩,⟨(some 35),none,(.q (.mov (.t 34)))⟩,⟨(some 36),(some ⟨35,true⟩),(.q (.mov (.t 4)))⟩,⟨(some 37),(some ⟨35,true⟩),(.q (.bin .leq (.t 36) (.c (.int .u8 57))))⟩,⟨(some 38),none,(.q (.pick (.t 35) (.t 37) (.c (.bool false))))⟩,⟨(some 20),none,(.q (.mov (.t 38)))⟩] [0,4,13,14,20])
(.cond (.t 20)
.skip
(.reg 11 [⟨(some 39),none,(.q (.mov (.t 4)))⟩,⟨(some 40),none,(.call 254 [(.c (.str [46,95,43,126,94])),(.t 39)])⟩,⟨(some 41),none,(.q (.bin .geq (.t 40) (.c (.int .i64 0))))⟩,⟨(some 20),none,(.q (.mov (.t 41)))⟩] [0,13,14,20])))))))
(.cond (.t 20)
.skip
(.seq
(.reg 7 [⟨(some 2),none,(.q (.mov (.c (.bool false))))⟩] [2])
.ret)))))))
(.reg 12 [⟨(some 42),none,(.q (.bin .add (.t 14) (.c (.int .i64 1))))⟩,⟨(some 14),none,(.q (.mov (.t 42)))⟩] [0,13,14])))))))
(.seq
(.reg 13 [⟨(some 2),none,(.q (.mov (.c (.bool true))))⟩] [2])
.ret))))
theorem fok256:FOK Tryz.prog 256 (43,ic256,[(.t 2)]):=.mk (pf:=[]) (an:=[(0,[0]),(1,[0,11]),(2,[2]),(3,[0,13,14]),(4,[0,13,14,15]),(5,[0,3,13,14]),(6,[0,4,13,14]),(7,[2]),(8,[0,4,13,14,20]),(9,[0,4,13,14,20]),(10,[0,4,13,14,20]),(11,[0,13,14,20]),(12,[0,13,14]),(13,[2])]) (by kernel_rfl) (ab3 Tryz.func256 (by kernel_rfl) (by kernel_rfl) (by kernel_rfl))
def ic257:IC :=
(.seq
(.reg 0 [⟨(some 0),none,(.alloc [(.str []),(.str []),(.str []),(.str []),(.str [])])⟩] [0])
(.seq
(.reg 1 [⟨(some 1),none,(.q (.bld [(.str []),(.str []),(.str []),(.str []),(.str [])] [⟨1,⟨1,(.c (.str [110,111,97,114,99,104]))⟩⟩,⟨2,⟨1,(.c (.str [120,56,54,95,54,52]))⟩⟩,⟨3,⟨1,(.c (.str [105,54,56,54]))⟩⟩,⟨4,⟨1,(.c (.str [97,97,114,99,104,54,52]))⟩⟩]))⟩,⟨none,none,(.store 5 (.t 0) (.t 1))⟩] [0])
.ret))
theorem fok257:FOK Tryz.prog 257 (2,ic257,[(.cell (some 5) 0)]):=.mk (pf:=[]) (an:=[(0,[0]),(1,[0])]) (by kernel_rfl) (ab3 Tryz.func257 (by kernel_rfl) (by kernel_rfl) (by kernel_rfl))
def ic258:IC :=
(.seq
(.reg 0 [⟨(some 2),none,(.boxt (.t 0))⟩,⟨(some 3),none,(.q (.mov (.c (.bool false))))⟩] [1,2])
(.seq
(.reg 1 [⟨(some 4),none,(.q (.load none (.t 1)))⟩,⟨(some 5),none,(.q (.load (some 5) (.t 2)))⟩,⟨(some 6),none,(.callv (.t 4) [(.t 5)])⟩,⟨(some 7),none,(.q (.not (.t 6)))⟩,⟨(some 3),none,(.q (.mov (.t 7)))⟩] [3])
.ret))
theorem fok258:FOK Tryz.prog 258 (8,ic258,[(.t 3)]):=.mk (pf:=[1000002]) (an:=[(0,[1,2]),(1,[3])]) (by kernel_rfl) (ab3 Tryz.func258 (by kernel_rfl) (by kernel_rfl) (by kernel_rfl))
def ic259:IC :=
(.seq
(.reg 0 [⟨(some 4),none,(.q (.mov (.c (.bool false))))⟩] [0,1])
(.seq
(.reg 1 [⟨(some 5),none,(.q (.mov (.t 0)))⟩,⟨(some 6),none,(.q (.mov (.t 1)))⟩,⟨(some 7),none,(.call 301 [(.t 5),(.t 6)])⟩,⟨(some 8),none,(.q (.bin .geq (.t 7) (.c (.int .i64 0))))⟩,⟨(some 4),none,(.q (.mov (.t 8)))⟩] [4])
.ret))
theorem fok259:FOK Tryz.prog 259 (9,ic259,[(.t 4)]):=.mk (pf:=[]) (an:=[(0,[0,1]),(1,[4])]) (by kernel_rfl) (ab3 Tryz.func259 (by kernel_rfl) (by kernel_rfl) (by kernel_rfl))
def ic260:IC :=
(.seq
(.reg 0 [⟨(some 3),none,(.q (.mov (.c (.bool false))))⟩] [0,1])
(.seq
(.reg 1 [⟨(some 4),none,(.q (.load none (.t 1)))⟩,⟨(some 5),none,(.q (.mov (.t 0)))⟩,⟨(some 6),none,(.callv (.t 4) [(.t 5)])⟩,⟨(some 7),none,(.q (.not (.t 6)))⟩,⟨(some 3),none,(.q (.mov (.t 7)))⟩] [3])
.ret))
theorem fok260:FOK Tryz.prog 260 (8,ic260,[(.t 3)]):=.mk (pf:=[]) (an:=[(0,[0,1]),(1,[3])]) (by kernel_rfl) (ab3 Tryz.func260 (by kernel_rfl) (by kernel_rfl) (by kernel_rfl))
def ic261:IC :=
(.reg 0 [⟨(some 3),none,(.q (.mov (.t 0)))⟩,⟨(some 4),none,(.q (.faddr 7 (.t 1)))⟩,⟨(some 5),none,(.q (.load none (.t 4)))⟩,⟨(some 6),none,(.callv (.t 3) [(.c (.int .u8 1)),(.t 5)])⟩,⟨(some 7),none,(.q (.mov (.t 6)))⟩,⟨(some 8),(some ⟨7,true⟩),(.q (.mov (.t 0)))⟩,⟨(some 9),(some ⟨7,true⟩),(.q (.faddr 8 (.t 1)))⟩,⟨(some 10),(some ⟨7,true⟩),(.q (.load none (.t 9)))⟩,⟨(some 11),(some ⟨7,true⟩),(.callv (.t 8) [(.c (.int .u8 2)),(.t 10)])⟩,⟨(some 12),none,(.q (.pick (.t 7) (.t 11) (.c (.bool false))))⟩,⟨(some 13),none,(.q (.mov (.t 12)))⟩,⟨(some 14),(some ⟨13,true⟩),(.q (.mov (.t 0)))⟩,⟨(some 15),(some ⟨13,true⟩),(.q (.faddr 10 (.t 1)))⟩,⟨(some 16),(some ⟨13,true⟩),(.q (.load none (.t 15)))⟩,⟨(some 17),(some ⟨13,true⟩),(.callv (.t 14) [(.c (.int .u8 1)),(.t 16)])⟩,⟨(some 18),none,(.q (.pick (.t 13) (.t 17) (.c (.bool false))))⟩,⟨(some 19),none,(.q (.mov (.t 18)))⟩,⟨(some 20),(some ⟨19,true⟩),(.q (.mov (.t 0)))⟩,⟨(some 21),(some ⟨19,true⟩),(.q (.faddr 11 (.t 1)))⟩,⟨(some 22),(some ⟨19,true⟩),(.q (.load none (.t 21)))⟩,⟨(some 23),(some ⟨19,true⟩),(.callv (.t 20) [(.c (.int .u8 3)),(.t 22)])⟩,⟨(some 24),none,(.q (.pick (.t 19) (.t 23) (.c (.bool false))))⟩,⟨(some 25),none,(.q (.mov (.t 24)))⟩,⟨(some 26),(some ⟨25,true⟩),(.q (.mov (.t 0)))⟩,⟨(some 27),(some ⟨25,true⟩),(.q (.faddr 12 (.t 1)))⟩,⟨(some 28),(some ⟨25,true⟩),(.q (.load none (.t 27)))⟩,⟨(some 29),(some ⟨25,true⟩),(.callv (.t 26) [(.c (.int .u8 1)),(.t 28)])⟩,⟨(some 30),none,(.q (.pick (.t 25) (.t 29) (.c (.bool false))))⟩,⟨(some 31),none,(.q (.mov (.t 30)))⟩,⟨(some 32),(some ⟨31,true⟩),(.q (.mov (.t 0)))⟩,⟨(some 33),(some ⟨31,true⟩),(.q (.faddr 13 (.t 1)))⟩,⟨(some 34),(some ⟨31,true⟩),(.q (.load none (.t 33)))⟩,⟨(some 35),(some ⟨31,true⟩),(.callv (.t 32) [(.c (.int .u8 3)),(.t 34)])⟩,⟨(some 36),none,(.q (.pick (.t 31) (.t 35) (.c (.bool false))))⟩] [])
theorem fok261:FOK Tryz.prog 261 (37,ic261,[]):=.mk (pf:=[]) (an:=[]) (by kernel_rfl) (ab3 Tryz.func261 (by kernel_rfl) (by kernel_rfl) (by kernel_rfl))
def ic262:IC :=
(.seq
(.reg 0 [⟨(some 2),none,(.boxt (.t 0))⟩,⟨(some 3),none,(.q (.mov (.c (.bool false))))⟩] [1,2])
(.seq
(.reg 1 [⟨(some 4),none,(.q (.load none (.t 1)))⟩,⟨(some 5),none,(.q (.load (some 7) (.t 2)))⟩,⟨(some 6),none,(.callv (.t 4) [(.t 5)])⟩,⟨(some 7),none,(.q (.not (.t 6)))⟩,⟨(some 3),none,(.q (.mov (.t 7)))⟩] [3])
.ret))
theorem fok262:FOK Tryz.prog 262 (8,ic262,[(.t 3)]):=.mk (pf:=[1000002]) (an:=[(0,[1,2]),(1,[3])]) (by kernel_rfl) (ab3 Tryz.func262 (by kernel_rfl) (by kernel_rfl) (by kernel_rfl))
def ic263:IC :=
(.seq
(.reg 0 [⟨(some 1),none,(.boxt (.t 0))⟩,⟨(some 2),none,(.q (.mov (.c (.int .i64 0))))⟩] [1,2])
(.seq
(.reg 1 [⟨(some 3),none,(.alloc [(.int .i64 0)])⟩,⟨none,none,(.store 1 (.t 3) (.c (.int .i64 0)))⟩] [1,2,3])
(.seq
(.seq
(.reg 2 [⟨(some 4),none,(.q (.load (some 7) (.t 1)))⟩,⟨(some 5),none,(.call 239 [(.t 4)])⟩] [2,3,5])
(.block 0
(.rfunc (.t 5) [6,7]
.skip
(.block 1
(.reg 3 [⟨(some 8),none,(.q (.load none (.t 3)))⟩,⟨(some 9),none,(.q (.bin .add (.t 8) (.c (.int .i64 1))))⟩,⟨none,none,(.store 1 (.t 3) (.t 9))⟩] [])))))
(.seq
(.reg 4 [⟨(some 10),none,(.q (.load none (.t 3)))⟩,⟨(some 2),none,(.q (.mov (.t 10)))⟩] [2])
.ret))))
theorem fok263:FOK Tryz.prog 263 (11,ic263,[(.t 2)]):=.mk (pf:=[1000001]) (an:=[(0,[1,2]),(1,[1,2,3]),(2,[2,3,5]),(4,[2])]) (by kernel_rfl) (ab3 Tryz.func263 (by kernel_rfl) (by kernel_rfl) (by kernel_rfl))
def ic264:IC :=
(.seq
(.reg 0 [⟨(some 1),none,(.boxt (.t 0))⟩,⟨(some 2),none,(.q (.mov (.c (.int .i64 0))))⟩] [1])
(.seq
(.seq
(.reg 1 [⟨(some 6),none,(.q (.faddr 0 (.t 1)))⟩,⟨(some 7),none,(.q (.load none (.t 6)))⟩,⟨(some 8),none,(.q (.bin .eql (.t 7) (.c (.int .u8 1))))⟩] [1,8])
(.cond (.t 8)
(.seq
(.reg 2 [⟨(some 2),none,(.q (.mov (.c (.int .i64 0))))⟩] [2])
.ret)
.skip))
(.seq
(.reg 3 [⟨(some 3),none,(.q (.mov (.c (.int .i64 0))))⟩] [1,3])
(.seq
(.seq
(.reg 4 [⟨(some 9),none,(.q (.faddr 6 (.t 1)))⟩,⟨(some 10),none,(.q (.load none (.t 9)))⟩,⟨(some 11),none,(.q (.len 0 (.t 10)))⟩,⟨(some 12),none,(.q (.mov (.c (.int .i64 0))))⟩] [3,10,11,12])
(.block 0
(.loop
(.seq
(.reg 5 [⟨(some 13),none,(.q (.bin .lss (.t 12) (.t 11)))⟩] [3,10,11,12,13])
(.seq
(.cond (.t 13)
.skip
(.exit 0))
(.seq
(.block 1
(.seq
(.reg 6 [⟨(some 14),none,(.q (.iaddr 7 (.t 10) (.t 12)))⟩,⟨(some 15),none,(.q (.load (some 7) (.t 14)))⟩,⟨(some 5),none,(.alloc [(.int .u8 0),(.str []),(.int .u8 0),(.int .i64 0),(.str []),(.str []),.nilslice])⟩,⟨none,none,(.store 7 (.t 5) (.t 15))⟩] [3,5,10,11,12])
(.reg 7 [⟨(some 16),none,(.q (.mov (.t 3)))⟩,⟨(some 17),none,(.q (.load (some 7) (.t 5)))⟩,⟨(some 18),none,(.call 264 [(.t 17)])⟩,⟨(some 19),none,(.q (.mm true (.t 16) (.t 18)))⟩,⟨(some 3),none,(.q (.mov (.t 19)))⟩] [3,10,11,12])))
(.reg 8 [⟨(some 20),none,(.q (.bin .add (.t 12) (.c (.int .i64 1))))⟩,⟨(some 12),none,(.q (.mov (.t 20)))⟩] [3,10,11,12])))))))
(.seq
(.reg 9 [⟨(some 21),none,(.q (.mov (.t 3)))⟩,⟨(some 22),none,(.q (.bin .add (.t 21) (.c (.int .i64 1))))⟩,⟨(some 2),none,(.q (.mov (.t 22)))⟩] [2])
.ret)))))
theorem fok264:FOK Tryz.prog 264 (23,ic264,[(.t 2)]):=.mk (pf:=[1000001]) (an:=[(0,[1]),(1,[1,8]),(2,[2]),(3,[1,3]),(4,[3,10,11,12]),(5,[3,10,11,12,13]),(6,[3,5,10,11,12]),(7,[3,10,11,12]),(8,[3,10,11,12]),(9,[2])]) (by kernel_rfl) (ab3 Tryz.func264 (by kernel_rfl) (by kernel_rfl) (by kernel_rfl))
def ic265:IC :=
(.seq
(.reg 0 [⟨(some 2),none,(.alloc [(.int .i64 0),(.int .i64 0),(.bool false),(.int .u8 0)])⟩] [0,2])
(.seq
(.reg 1 [⟨(some 4),none,(.q (.bld [(.int .i64 0),(.int .i64 0),(.bool false),(.int .u8 0)] [⟨0,⟨1,(.c (.int .i64 0))⟩⟩,⟨1,⟨1,(.c (.int .i64 0))⟩⟩,⟨2,⟨1,(.c (.bool true))⟩⟩,⟨3,⟨1,(.c (.int .u8 3))⟩⟩]))⟩,⟨(some 5),none,(.q (.bld [(.int .i64 0),(.int .i64 0),(.bool false),(.int .u8 0)] [⟨0,⟨1,(.c (.int .i64 2))⟩⟩,⟨1,⟨1,(.c (.int .i64 24))⟩⟩,⟨2,⟨1,(.c (.bool true))⟩⟩,⟨3,⟨1,(.c (.int .u8 3))⟩⟩]))⟩,⟨(some 6),none,(.q (.bld [(.int .i64 0),(.int .i64 0),(.bool false),(.int .u8 0)] [⟨0,⟨1,(.c (.int .i64 2))⟩⟩,⟨1,⟨1,(.c (.int .i64 24))⟩⟩,⟨2,⟨1,(.c (.bool true))⟩⟩,⟨3,⟨1,(.c (.int .u8 3))⟩⟩]))⟩,⟨(some 7),none,(.q (.bld [(.int .i64 0),(.int .i64 0),(.bool false),(.int .u8 0)] [⟨0,⟨1,(.c (.int .i64 2))⟩⟩,⟨1,⟨1,(.c (.int .i64 3))⟩⟩,⟨2,⟨1,(.c (.bool false))⟩⟩,⟨3,⟨1,(.c (.int .u8 1))⟩⟩]))⟩,⟨(some 8),none,(.q (.bld [(.int .i64 0),(.int .i64 0),(.bool false),(.int .u8 0)] [⟨0,⟨1,(.c (.int .i64 2))⟩⟩,⟨1,⟨1,(.c (.int .i64 3))⟩⟩,⟨2,⟨1,(.c (.bool false))⟩⟩,⟨3,⟨1,(.c (.int .u8 2))⟩⟩]))⟩,⟨(some 9),none,(.q (.bld [(.int .i64 0),(.int .i64 0),(.bool false),(.int .u8 0)] [⟨0,⟨1,(.c (.int .i64 2))⟩⟩,⟨1,⟨1,(.c (.int .i64 24))⟩⟩,⟨2,⟨1,(.c (.bool true))⟩⟩,⟨3,⟨1,(.c (.int .u8 3))⟩⟩]))⟩,⟨(some 10),none,(.q (.bld [(.int .i64 0),(.int .i64 0),(.bool false),(.int .u8 0)] [⟨0,⟨1,(.c (.int .i64 2))⟩⟩,⟨1,⟨1,(.c (.int .i64 2))⟩⟩,⟨2,⟨1,(.c (.bool true))⟩⟩,⟨3,⟨1,(.c (.int .u8 3))⟩⟩]))⟩,⟨(some 11),none,(.q (.bld [(.int .i64 0),(.int .i64 0),(.bool false),(.int .u8 0),(.int .i64 0),(.int .i64 0),(.bool false),(.int .u8 0),(.int .i64 0),(.int .i64 0),(.bool false),(.int .u8 0),(.int .i64 0),(.int .i64 0),(.bool false),(.int .u8 0),(.int .i64 0),(.int .i64 0),(.bool false),(.int .u8 0),(.int .i64 0),(.int .i64 0),(.bool false),(.int .u8 0),(.int .i64 0),(.int .i64 0),(.bool false),(.int .u8 0),(.int .i64 0),(.int .i64 0),(.bool false),(.int .u8 0)] [⟨4,⟨4,(.t 4)⟩⟩,⟨8,⟨4,(.t 5)⟩⟩,⟨12,⟨4,(.t 6)⟩⟩,⟨16,⟨4,(.t 7)⟩⟩,⟨20,⟨4,(.t 8)⟩⟩,⟨24,⟨4,(.t 9)⟩⟩,⟨28,⟨4,(.t 10)⟩⟩]))⟩,⟨(some 3),none,(.alloc [(.int .i64 0),(.int .i64 0),(.bool false),(.int .u8 0),(.int .i64 0),(.int .i64 0),(.bool false),(.int .u8 0),(.int .i64 0),(.int .i64 0),(.bool false),(.int .u8 0),(.int .i64 0),(.int .i64 0),(.bool false),(.int .u8 0),(.int .i64 0),(.int .i64 0),(.bool false),(.int .u8 0),(.int .i64 0),(.int .i64 0),(.bool false),(.int .u8 0),(.int .i64 0),(.int .i64 0),(.bool false),(.int .u8 0),(.int .i64 0),(.int .i64 0),(.bool false),(.int .u8 0)])⟩,⟨none,none,(.store 32 (.t 3) (.t 11))⟩] [0,2,3])
(.seq
(.seq
(.reg 2 [⟨(some 12),none,(.q (.mov (.t 0)))⟩,⟨(some 13),none,(.q (.conv .i64 (.t 12)))⟩,⟨(some 14),none,(.q (.bin .geq (.t 13) (.c (.int .i64 8))))⟩] [0,2,3,14])
(.cond (.t 14)
(.seq
(.reg 3 [⟨(some 15),none,(.q (.bld [(.int .i64 0),(.int .i64 0),(.bool false),(.int .u8 0)] []))⟩,⟨none,none,(.store 4 (.t 2) (.t 15))⟩] [2])
.ret)
.skip))
(.seq
(.reg 4 [⟨(some 16),none,(.q (.mov (.t 0)))⟩,⟨(some 17),none,(.q (.aaddr 8 4 (.t 3) (.t 16)))⟩,⟨(some 18),none,(.q (.load (some 4) (.t 17)))⟩,⟨none,none,(.store 4 (.t 2) (.t 18))⟩] [2])
.ret))))
theorem fok265:FOK Tryz.prog 265 (19,ic265,[(.cell (some 4) 2)]):=.mk (pf:=[]) (an:=[(0,[0,2]),(1,[0,2,3]),(2,[0,2,3,14]),(3,[2]),(4,[2])]) (by kernel_rfl) (ab3 Tryz.func265 (by kernel_rfl) (by kernel_rfl) (by kernel_rfl))
end Go.Id.Tryz
