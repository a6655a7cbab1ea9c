/- The compiled codes of functions,written by a program out of the given form. Conditions: none. -/
import Derived.Test.YtiallonafbejaaaGreatDoorFwYa
import Derived.Test.YtiallonafbejaaaGreatDoorProg
set_option linter.all false
namespace Go.Id.Tryz
open Go Go.Id Go.Proofs
def im6:List Nat:=List.range 357
def ic280:IC :=
(.seq
(.reg 0 [⟨(some 2),none,(.q (.mov (.c (.str []))))⟩] [0])
(.seq
(.seq
(.reg 1 [⟨(some 5),none,(.q (.load none (.g 1)))⟩,⟨(some 6),none,(.mrange (.t 5))⟩] [0,6])
(.block 0
(.loop
(.seq
(.reg 2 [⟨(some 7),none,(.mnext (.t 6))⟩,⟨(some 8),none,(.q (.ext 0 (.t 7)))⟩] [0,6,8])
(.seq
(.cond (.t 8)
.skip
(.exit 0))
(.block 1
(.seq
(.reg 3 [⟨(some 9),none,(.ment (.t 6))⟩,⟨(some 10),none,(.q (.ext 0 (.t 9)))⟩,⟨(some 11),none,(.q (.ext 1 (.t 9)))⟩,⟨(some 3),none,(.q (.mov (.t 10)))⟩,⟨(some 4),none,(.q (.mov (.t 11)))⟩] [0,3,4,6])
(.seq
(.reg 4 [⟨(some 12),none,(.q (.mov (.t 4)))⟩,⟨(some 13),none,(.q (.mov (.t 0)))⟩,⟨(some 14),none,(.q (.bin .eql (.t 12) (.t 13)))⟩] [0,3,6,14])
(.cond (.t 14)
(.seq
(.reg 5 [⟨(some 15),none,(.q (.mov (.t 3)))⟩,⟨(some 2),none,(.q (.mov (.t 15)))⟩] [2])
.ret)
.skip)))))))))
(.seq
(.reg 6 [⟨(some 2),none,(.q (.mov (.c (.str []))))⟩] [2])
.ret)))
theorem fok280:FOK Tryz.prog 280 (16,ic280,[(.t 2)]):=.mk (pf:=[]) (an:=[(0,[0]),(1,[0,6]),(2,[0,6,8]),(3,[0,3,4,6]),(4,[0,3,6,14]),(5,[2]),(6,[2])]) (by kernel_rfl) (ab3 Tryz.func280 (by kernel_rfl) (by kernel_rfl) (by kernel_rfl))
def ic281:IC :=
(.seq
(.reg 0 [oK 1 (.boxt (.t 0)),oM 2 (.c .nilfunc)] [1])
(.seq
(.reg 1 [oQ 3 (.mkf 307 [] [(.t 1)]),oM 2 (.t 3)] [2])
.ret))
theorem fok281:FOK Tryz.prog 281 (4,ic281,[(.t 2)]):=fokA [1000001] Tryz.func281
def ic282:IC :=
(.seq
(.reg 0 [oM 2 (cI 0)] [0])
(.seq
(.reg 1 [oM 3 (cI 0)] [0,3])
(.seq
(.seq
(.reg 2 [oM 6 (.t 0),oQ 7 (.len 0 (.t 6)),oM 8 (cI 0)] [3,6,7,8])
(.block 0
(.loop
(.seq
(.reg 3 [oQ 9 (.bin .lss (.t 8) (.t 7))] [3,6,7,8,9])
(.seq
(.cond (.t 9)
.skip
(.exit 0))
(.seq
(.block 1
(.seq
(.reg 4 [oQ 10 (.iaddr 1 (.t 6) (.t 8)),oQ 11 (.load none (.t 10)),oM 5 (.t 11)] [3,5,6,7,8])
(.seq
(.reg 5 [oM 12 (.t 5),oM 13 (.t 3),oQ 14 (.bin .neq (.t 12) (.t 13))] [3,5,6,7,8,14])
(.cond (.t 14)
(.seq
(.reg 6 [oM 15 (.t 5),oM 2 (.t 15)] [2])
.ret)
.skip))))
(.reg 7 [oQ 16 (.bin .add (.t 8) (cI 1)),oM 8 (.t 16)] [3,6,7,8])))))))
(.seq
(.reg 8 [oM 17 (.t 3),oM 2 (.t 17)] [2])
.ret))))
theorem fok282:FOK Tryz.prog 282 (18,ic282,[(.t 2)]):=fokA [] Tryz.func282
def ic283:IC :=
(.seq
(.reg 0 [oM 4 (cI 0)] [0,1])
(.seq
(.reg 1 [oM 7 (.t 0),oK 8 (.call 310 [(.t 7)]),oM 5 (.t 8)] [0,1,5])
(.seq
(.reg 2 [oM 9 (.t 1),oK 10 (.call 310 [(.t 9)]),oM 6 (.t 10)] [0,1,5,6])
(.seq
(.seq
(.reg 3 [oM 11 (.t 5)] [0,1,6,11])
(.cond (.t 11)
(.seq
(.seq
(.reg 4 [oM 12 (.t 6)] [12])
(.cond (.t 12)
(.seq
(.reg 5 [oM 4 (cI 0)] [4])
.ret)
.skip))
(.seq
(.reg 6 [oM 4 (cI (-1))] [4])
.ret))
.skip))
(.seq
(.seq
(.reg 7 [oM 13 (.t 6)] [0,1,13])
(.cond (.t 13)
(.seq
(.reg 8 [oM 4 (cI 1)] [4])
.ret)
.skip))
(.seq
(.seq
(.reg 9 [oM 14 (.t 0),oM 15 (.t 1),oQ 16 (.bin .lss (.t 14) (.t 15))] [0,1,16])
(.cond (.t 16)
(.seq
(.reg 10 [oM 4 (cI (-1))] [4])
.ret)
.skip))
(.seq
(.seq
(.reg 11 [oM 17 (.t 0),oM 18 (.t 1),oQ 19 (.bin .gtr (.t 17) (.t 18))] [19])
(.cond (.t 19)
(.seq
(.reg 12 [oM 4 (cI 1)] [4])
.ret)
.skip))
(.seq
(.reg 13 [oM 4 (cI 0)] [4])
.ret))))))))
theorem fok283:FOK Tryz.prog 283 (20,ic283,[(.t 4)]):=fokA [] Tryz.func283
def ic284:IC :=
(.seq
(.reg 0 [oM 4 (cI 0)] [0,1])
(.seq
(.reg 1 [oM 7 (.t 0),oK 8 (.call 305 [(.t 7)]),oM 5 (.t 8)] [0,1,5])
(.seq
(.reg 2 [oM 9 (.t 1),oK 10 (.call 305 [(.t 9)]),oM 6 (.t 10)] [0,1,5,6])
(.seq
(.seq
(.reg 3 [oM 11 (.t 5)] [0,1,6,11])
(.cond (.t 11)
(.seq
(.seq
(.reg 4 [oM 12 (.t 6)] [12])
(.cond (.t 12)
(.seq
(.reg 5 [oM 4 (cI 0)] [4])
.ret)
.skip))
(.seq
(.reg 6 [oM 4 (cI (-1))] [4])
.ret))
.skip))
(.seq
(.seq
(.reg 7 [oM 13 (.t 6)] [0,1,13])
(.cond (.t 13)
(.seq
(.reg 8 [oM 4 (cI 1)] [4])
.ret)
.skip))
(.seq
(.seq
(.reg 9 [oM 14 (.t 0),oM 15 (.t 1),oQ 16 (.bin .lss (.t 14) (.t 15))] [0,1,16])
(.cond (.t 16)
(.seq
(.reg 10 [oM 4 (cI (-1))] [4])
.ret)
.skip))
(.seq
(.seq
(.reg 11 [oM 17 (.t 0),oM 18 (.t 1),oQ 19 (.bin .gtr (.t 17) (.t 18))] [19])
(.cond (.t 19)
(.seq
(.reg 12 [oM 4 (cI 1)] [4])
.ret)
.skip))
(.seq
(.reg 13 [oM 4 (cI 0)] [4])
.ret))))))))
theorem fok284:FOK Tryz.prog 284 (20,ic284,[(.t 4)]):=fokA [] Tryz.func284
def ic285:IC :=
(.seq
(.reg 0 [⟨(some 4),none,(.boxt (.t 0))⟩,⟨(some 7),none,(.q (.mov (.c (.bool false))))⟩] [1,2,3,4])
(.seq
(.seq
(.reg 1 [⟨(some 10),none,(.q (.mov (.t 2)))⟩,⟨(some 11),none,(.q (.load (some 7) (.t 4)))⟩,⟨(some 12),none,(.q (.mov (.t 1)))⟩,⟨(some 13),none,(.callv (.t 10) [(.t 11),(.t 12)])⟩,⟨(some 14),none,(.q (.not (.t 13)))⟩] [1,2,3,4,14])
(.cond (.t 14)
(.seq
(.reg 2 [⟨(some 7),none,(.q (.mov (.c (.bool false))))⟩] [7])
.ret)
.skip))
(.seq
(.reg 3 [⟨(some 15),none,(.q (.mov (.t 1)))⟩,⟨(some 16),none,(.q (.mov (.t 15)))⟩,⟨(some 17),(some ⟨16,false⟩),(.q (.faddr 0 (.t 4)))⟩,⟨(some 18),(some ⟨16,false⟩),(.q (.load none (.t 17)))⟩,⟨(some 19),(some ⟨16,false⟩),(.q (.bin .eql (.t 18) (.c (.int .u8 6))))⟩,⟨(some 20),none,(.q (.pick (.t 16) (.c (.bool true)) (.t 19)))⟩,⟨(some 21),none,(.q (.mov (.t 20)))⟩,⟨(some 22),(some ⟨21,false⟩),(.q (.faddr 0 (.t 4)))⟩,⟨(some 23),(some ⟨21,false⟩),(.q (.load none (.t 22)))⟩,⟨(some 24),(some ⟨21,false⟩),(.q (.bin .eql (.t 23) (.c (.int .u8 7))))⟩,⟨(some 25),none,(.q (.pick (.t 21) (.c (.bool true)) (.t 24)))⟩,⟨(some 1),none,(.q (.mov (.t 25)))⟩] [1,2,3,4])
(.seq
(.seq
(.reg 4 [⟨(some 26),none,(.q (.faddr 6 (.t 4)))⟩,⟨(some 27),none,(.q (.load none (.t 26)))⟩,⟨(some 28),none,(.q (.len 0 (.t 27)))⟩,⟨(some 29),none,(.q (.mov (.c (.int .i64 0))))⟩] [1,2,3,27,28,29])
(.block 0
(.loop
(.seq
(.reg 5 [⟨(some 30),none,(.q (.bin .lss (.t 29) (.t 28)))⟩] [1,2,3,27,28,29,30])
(.seq
(.cond (.t 30)
.skip
(.exit 0))
(.seq
(.block 1
(.seq
(.reg 6 [⟨(some 31),none,(.q (.iaddr 7 (.t 27) (.t 29)))⟩,⟨(some 32),none,(.q (.load (some 7) (.t 31)))⟩,⟨(some 9),none,(.alloc [(.int .u8 0),(.str []),(.int .u8 0),(.int .i64 0),(.str []),(.str []),.nilslice])⟩,⟨none,none,(.store 7 (.t 9) (.t 32))⟩] [1,2,3,9,27,28,29])
(.seq
(.reg 7 [⟨(some 33),none,(.q (.load none (.t 3)))⟩,⟨(some 34),none,(.q (.load (some 7) (.t 9)))⟩,⟨(some 35),none,(.q (.mov (.t 1)))⟩,⟨(some 36),none,(.q (.mov (.t 2)))⟩,⟨(some 37),none,(.callv (.t 33) [(.t 34),(.t 35),(.t 36)])⟩,⟨(some 38),none,(.q (.not (.t 37)))⟩] [1,2,3,27,28,29,38])
(.cond (.t 38)
(.seq
(.reg 8 [⟨(some 7),none,(.q (.mov (.c (.bool false))))⟩] [7])
.ret)
.skip))))
(.reg 9 [⟨(some 39),none,(.q (.bin .add (.t 29) (.c (.int .i64 1))))⟩,⟨(some 29),none,(.q (.mov (.t 39)))⟩] [1,2,3,27,28,29])))))))
(.seq
(.reg 10 [⟨(some 7),none,(.q (.mov (.c (.bool true))))⟩] [7])
.ret)))))
theorem fok285:FOK Tryz.prog 285 (40,ic285,[(.t 7)]):=.mk (pf:=[1000004]) (an:=[(0,[1,2,3,4]),(1,[1,2,3,4,14]),(2,[7]),(3,[1,2,3,4]),(4,[1,2,3,27,28,29]),(5,[1,2,3,27,28,29,30]),(6,[1,2,3,9,27,28,29]),(7,[1,2,3,27,28,29,38]),(8,[7]),(9,[1,2,3,27,28,29]),(10,[7])]) (by kernel_rfl) (ab3 Tryz.func285 (by kernel_rfl) (by kernel_rfl) (by kernel_rfl))
def ic286:IC :=
(.reg 0 [⟨(some 4),none,(.q (.load none (.t 1)))⟩,⟨(some 5),none,(.q (.load (some 7) (.t 2)))⟩,⟨(some 6),none,(.q (.mov (.t 0)))⟩,⟨(some 7),none,(.callv (.t 4) [(.t 5),(.c (.bool false)),(.t 6)])⟩] [])
theorem fok286:FOK Tryz.prog 286 (8,ic286,[]):=.mk (pf:=[]) (an:=[]) (by kernel_rfl) (ab3 Tryz.func286 (by kernel_rfl) (by kernel_rfl) (by kernel_rfl))
def ic287:IC :=
(.seq
(.reg 0 [oK 1 (.boxt (.t 0)),oM 2 (cI 0),oM 3 (cI 0),oM 4 (cB false)] [1,3])
(.seq
(.seq
(.reg 1 [oQ 10 (.faddr 0 (.t 1)),oQ 11 (.load none (.t 10)),oQ 12 (.bin .eql (.t 11) (.c (zU 1)))] [1,3,12])
(.cond (.t 12)
(.seq
(.reg 2 [oQ 13 (.faddr 6 (.t 1)),oQ 14 (.load none (.t 13)),oQ 15 (.len 0 (.t 14)),oQ 16 (.bin .eql (.t 15) (cI 0)),oM 17 (.t 16),gQ 18 17 true (.faddr 1 (.t 1)),gQ 19 17 true (.load (some 5) (.t 18)),gK 20 17 true (.call 157 [(.t 19)]),oQ 21 (.pick (.t 17) (.t 20) (cB false)),oM 2 (cI 1),oM 3 (cI 0),oM 4 (.t 21)] [2,3,4])
.ret)
.skip))
(.seq
(.dreg 3 [oQ 22 (.faddr 0 (.t 1)),oQ 23 (.load none (.t 22)),oQ 24 (.bin .gtr (.t 23) (.c (zU 1))),oM 25 (.t 24),gQ 26 25 true (.faddr 0 (.t 1)),gQ 27 25 true (.load none (.t 26)),gQ 28 25 true (.bin .leq (.t 27) (.c (zU 7))),oQ 29 (.pick (.t 25) (.t 28) (cB false)),oM 30 (.t 29),gQ 31 30 true (.faddr 1 (.t 1)),gQ 32 30 true (.load (some 5) (.t 31)),gQ 33 30 true (.bld [(.str []),(zU 0),(zI 0),(.str []),(.str [])] []),gQ 34 30 true (.eqs [2,1,1,2,2] true false (.t 32) (.t 33)),oQ 35 (.pick (.t 30) (.t 34) (cB false)),oM 36 (.t 35),gQ 37 36 true (.faddr 6 (.t 1)),gQ 38 36 true (.load none (.t 37)),gQ 39 36 true (.len 0 (.t 38)),gQ 40 36 true (.bin .geq (.t 39) (cI 2)),oQ 41 (.pick (.t 36) (.t 40) (cB false)),oM 42 (.t 41),gQ 43 42 true (.faddr 6 (.t 1)),gQ 44 42 true (.load none (.t 43)),gQ 45 42 true (.len 0 (.t 44)),gQ 46 42 true (.faddr 0 (.t 1)),gQ 47 42 true (.load none (.t 46)),gQ 48 42 true (.aaddr 8 2 (.g 2) (.t 47)),gQ 49 42 true (.faddr 1 (.t 48)),gQ 50 42 true (.load none (.t 49)),gQ 51 42 true (.bin .leq (.t 45) (.t 50)),oQ 52 (.pick (.t 42) (.t 51) (cB false)),oM 4 (.t 52)] false [1,3,4])
(.seq
(.reg 4 [oM 2 (cI 1)] [1,2,3,4])
(.seq
(.seq
(.reg 5 [oQ 53 (.faddr 6 (.t 1)),oQ 54 (.load none (.t 53)),oQ 55 (.len 0 (.t 54)),oM 56 (cI 0)] [2,3,4,54,55,56])
(.block 0
(.loop
(.seq
(.reg 6 [oQ 57 (.bin .lss (.t 56) (.t 55))] [2,3,4,54,55,56,57])
(.seq
(.cond (.t 57)
.skip
(.exit 0))
(.seq
(.block 1
(.seq
(.reg 7 [oQ 58 (.iaddr 7 (.t 54) (.t 56)),oQ 59 (.load (some 7) (.t 58)),oK 6 (.alloc [(zU 0),(.str []),(zU 0),(zI 0),(.str []),(.str []),.nilslice]),oN (.store 7 (.t 6) (.t 59))] [2,3,4,6,54,55,56])
(.seq
(.seq
(.reg 8 [oM 60 (.t 4),oQ 61 (.not (.t 60))] [2,3,4,6,54,55,56,61])
(.cond (.t 61)
(.exit 0)
.skip))
(.seq
(.reg 9 [oQ 63 (.load (some 7) (.t 6)),oK 64 (.call 287 [(.t 63)]),oM 62 (.t 64),oQ 65 (.ext 0 (.t 62)),oQ 66 (.ext 1 (.t 62)),oQ 67 (.ext 2 (.t 62)),oM 7 (.t 65),oM 8 (.t 66),oM 9 (.t 67)] [2,3,7,8,9,54,55,56])
(.reg 10 [oM 68 (.t 2),oM 69 (.t 7),oQ 70 (.bin .add (.t 68) (.t 69)),oM 71 (.t 3),oM 72 (.t 8),oQ 73 (.mm true (.t 71) (.t 72)),oM 74 (.t 9),oM 2 (.t 70),oM 3 (.t 73),oM 4 (.t 74)] [2,3,4,54,55,56])))))
(.reg 11 [oQ 75 (.bin .add (.t 56) (cI 1)),oM 56 (.t 75)] [2,3,4,54,55,56])))))))
(.seq
(.reg 12 [oM 76 (.t 2),oM 77 (.t 3),oQ 78 (.bin .add (.t 77) (cI 1)),oM 79 (.t 4),oM 2 (.t 76),oM 3 (.t 78),oM 4 (.t 79)] [2,3,4])
.ret))))))
theorem fok287:FOK Tryz.prog 287 (80,ic287,[(.t 2),(.t 3),(.t 4)]):=fokA [1000001] Tryz.func287
def ic288:IC :=
(.seq
(.reg 0 [oK 2 (.boxt (.t 0)),oK 3 (.boxt (.t 1)),oM 4 (cB false)] [2,3])
(.seq
(.dreg 1 [oQ 5 (.faddr 0 (.t 2)),oQ 6 (.load none (.t 5)),oQ 7 (.nchk (.t 6)),oQ 8 (.faddr 0 (.t 7)),oQ 9 (.load none (.t 8)),oQ 10 (.faddr 1 (.t 3)),oQ 11 (.load (some 5) (.t 10)),oK 12 (.pcall 28 [(.t 9),(.t 11)]),oQ 13 (.mkf 311 [] [(.t 2)]),oK 14 (.pcall 172 [(.t 12),(.t 13)]),oM 4 (.t 14)] false [4])
.ret))
theorem fok288:FOK Tryz.prog 288 (15,ic288,[(.t 4)]):=fokA ([1000002,1000003]++[28,172]) Tryz.func288 (by kernel_rfl) (by kernel_rfl) (by kernel_rfl) (by kernel_rfl)
def ic289:IC :=
(.seq
(.reg 0 [oK 2 (.boxt (.t 0)),oK 3 (.boxt (.t 1)),oM 4 (cB false)] [2,3])
(.seq
(.reg 1 [oQ 5 (.faddr 6 (.t 3)),oQ 6 (.load none (.t 5)),oQ 7 (.mkf 312 [] [(.t 2)]),oK 8 (.call 181 [(.t 6),(.t 7)]),oQ 9 (.not (.t 8)),oM 4 (.t 9)] [4])
.ret))
theorem fok289:FOK Tryz.prog 289 (10,ic289,[(.t 4)]):=fokA [1000002,1000003] Tryz.func289
def ic290:IC :=
(.seq
(.reg 0 [oK 2 (.boxt (.t 0)),oK 3 (.boxt (.t 1)),oM 4 (cB false)] [2,3])
(.seq
(.reg 1 [oQ 5 (.faddr 6 (.t 3)),oQ 6 (.load none (.t 5)),oQ 7 (.load (some 2) (.t 2)),oQ 8 (.mkf 243 [(.t 7)] []),oK 9 (.call 181 [(.t 6),(.t 8)]),oM 4 (.t 9)] [4])
.ret))
theorem fok290:FOK Tryz.prog 290 (10,ic290,[(.t 4)]):=fokA [1000002,1000003] Tryz.func290
def ic291:IC :=
(.seq
(.reg 0 [oK 2 (.boxt (.t 0)),oK 3 (.boxt (.t 1)),oM 4 (cB false)] [2,3])
(.seq
(.seq
(.dreg 1 [oQ 5 (.load (some 2) (.t 2)),oQ 6 (.faddr 6 (.t 3)),oQ 7 (.load none (.t 6)),oQ 8 (.iaddr 7 (.t 7) (cI 1)),oQ 9 (.load (some 7) (.t 8)),oK 10 (.call 243 [(.t 5),(.t 9)])] false [2,3,10])
(.cond (.t 10)
(.seq
(.dreg 2 [oQ 11 (.load (some 2) (.t 2)),oQ 12 (.faddr 6 (.t 3)),oQ 13 (.load none (.t 12)),oQ 14 (.iaddr 7 (.t 13) (cI 0)),oQ 15 (.load (some 7) (.t 14)),oK 16 (.call 243 [(.t 11),(.t 15)]),oM 4 (.t 16)] false [4])
.ret)
.skip))
(.seq
(.dreg 3 [oQ 17 (.faddr 6 (.t 3)),oQ 18 (.load none (.t 17)),oQ 19 (.len 0 (.t 18)),oQ 20 (.bin .lss (.t 19) (cI 3)),oM 21 (.t 20),gQ 22 21 false (.load (some 2) (.t 2)),gQ 23 21 false (.faddr 6 (.t 3)),gQ 24 21 false (.load none (.t 23)),gQ 25 21 false (.iaddr 7 (.t 24) (cI 2)),gQ 26 21 false (.load (some 7) (.t 25)),gK 27 21 false (.call 243 [(.t 22),(.t 26)]),oQ 28 (.pick (.t 21) (cB true) (.t 27)),oM 4 (.t 28)] false [4])
.ret)))
theorem fok291:FOK Tryz.prog 291 (29,ic291,[(.t 4)]):=fokA [1000002,1000003] Tryz.func291
def ic292:IC :=
(.seq
(.reg 0 [oK 2 (.boxt (.t 0)),oK 3 (.boxt (.t 1)),oM 4 (cB false)] [2,3])
(.seq
(.seq
(.dreg 1 [oQ 5 (.load (some 2) (.t 2)),oQ 6 (.faddr 6 (.t 3)),oQ 7 (.load none (.t 6)),oQ 8 (.iaddr 7 (.t 7) (cI 1)),oQ 9 (.load (some 7) (.t 8)),oK 10 (.call 243 [(.t 5),(.t 9)])] false [2,3,10])
(.cond (.t 10)
(.seq
(.dreg 2 [oQ 11 (.faddr 6 (.t 3)),oQ 12 (.load none (.t 11)),oQ 13 (.len 0 (.t 12)),oQ 14 (.bin .eql (.t 13) (cI 3)),oM 15 (.t 14),gQ 16 15 true (.load (some 2) (.t 2)),gQ 17 15 true (.faddr 6 (.t 3)),gQ 18 15 true (.load none (.t 17)),gQ 19 15 true (.iaddr 7 (.t 18) (cI 2)),gQ 20 15 true (.load (some 7) (.t 19)),gK 21 15 true (.call 243 [(.t 16),(.t 20)]),oQ 22 (.pick (.t 15) (.t 21) (cB false)),oM 4 (.t 22)] false [4])
.ret)
.skip))
(.seq
(.dreg 3 [oQ 23 (.load (some 2) (.t 2)),oQ 24 (.faddr 6 (.t 3)),oQ 25 (.load none (.t 24)),oQ 26 (.iaddr 7 (.t 25) (cI 0)),oQ 27 (.load (some 7) (.t 26)),oK 28 (.call 243 [(.t 23),(.t 27)]),oM 4 (.t 28)] false [4])
.ret)))
theorem fok292:FOK Tryz.prog 292 (29,ic292,[(.t 4)]):=fokA [1000002,1000003] Tryz.func292
def ic293:IC :=
(.seq
(.reg 0 [oK 2 (.boxt (.t 0)),oK 3 (.boxt (.t 1)),oM 4 (cB false)] [2,3])
(.seq
(.reg 1 [oQ 5 (.load (some 2) (.t 2)),oQ 6 (.mkf 314 [] [(.t 3)]),oK 7 (.call 313 [(.t 5),(.t 6)]),oM 4 (.t 7)] [4])
.ret))
theorem fok293:FOK Tryz.prog 293 (8,ic293,[(.t 4)]):=fokA [1000002,1000003] Tryz.func293
def ic294:IC :=
(.seq
(.reg 0 [oK 2 (.boxt (.t 0)),oK 3 (.boxt (.t 1)),oM 4 (cB false)] [2,3])
(.seq
(.reg 1 [oQ 5 (.load (some 2) (.t 2)),oQ 6 (.mkf 315 [] [(.t 3)]),oK 7 (.call 313 [(.t 5),(.t 6)]),oM 4 (.t 7)] [4])
.ret))
theorem fok294:FOK Tryz.prog 294 (8,ic294,[(.t 4)]):=fokA [1000002,1000003] Tryz.func294
def ic299:IC :=
(.seq
(.reg 0 [⟨(some 4),none,(.q (.mov (.c (.int .i64 0))))⟩] [0,1])
(.seq
(.reg 1 [⟨(some 5),none,(.q (.mov (.t 0)))⟩,⟨(some 6),none,(.q (.mov (.t 1)))⟩,⟨(some 7),none,(.q (.ibs (.t 5) (.t 6)))⟩,⟨(some 4),none,(.q (.mov (.t 7)))⟩] [4])
.ret))
theorem fok299:FOK Tryz.prog 299 (8,ic299,[(.t 4)]):=.mk (pf:=[]) (an:=[(0,[0,1]),(1,[4])]) (by kernel_rfl) (ab3 Tryz.func299 (by kernel_rfl) (by kernel_rfl) (by kernel_rfl))
def ic300:IC :=
(.seq
(.reg 0 [⟨(some 4),none,(.q (.mov (.c (.bool false))))⟩] [0,1])
(.seq
(.reg 1 [⟨(some 5),none,(.q (.mov (.t 0)))⟩,⟨(some 6),none,(.q (.len 1 (.t 5)))⟩,⟨(some 7),none,(.q (.mov (.t 1)))⟩,⟨(some 8),none,(.q (.len 1 (.t 7)))⟩,⟨(some 9),none,(.q (.bin .geq (.t 6) (.t 8)))⟩,⟨(some 10),none,(.q (.mov (.t 9)))⟩,⟨(some 11),(some ⟨10,true⟩),(.q (.mov (.t 0)))⟩,⟨(some 12),(some ⟨10,true⟩),(.q (.mov (.t 1)))⟩,⟨(some 13),(some ⟨10,true⟩),(.q (.len 1 (.t 12)))⟩,⟨(some 14),(some ⟨10,true⟩),(.q (.sstr (.t 11) none (some (.t 13))))⟩,⟨(some 15),(some ⟨10,true⟩),(.q (.mov (.t 1)))⟩,⟨(some 16),(some ⟨10,true⟩),(.q (.bin .eql (.t 14) (.t 15)))⟩,⟨(some 17),none,(.q (.pick (.t 10) (.t 16) (.c (.bool false))))⟩,⟨(some 4),none,(.q (.mov (.t 17)))⟩] [4])
.ret))
theorem fok300:FOK Tryz.prog 300 (18,ic300,[(.t 4)]):=.mk (pf:=[]) (an:=[(0,[0,1]),(1,[4])]) (by kernel_rfl) (ab3 Tryz.func300 (by kernel_rfl) (by kernel_rfl) (by kernel_rfl))
def ic301:IC :=
(.seq
(.reg 0 [⟨(some 4),none,(.q (.mov (.c (.int .i64 0))))⟩] [0,1])
(.seq
(.seq
(.reg 1 [⟨(some 6),none,(.q (.mov (.t 0)))⟩,⟨(some 7),none,(.q (.len 0 (.t 6)))⟩,⟨(some 8),none,(.q (.mov (.c (.int .i64 0))))⟩] [0,1,7,8])
(.block 0
(.loop
(.seq
(.reg 2 [⟨(some 9),none,(.q (.bin .lss (.t 8) (.t 7)))⟩] [0,1,7,8,9])
(.seq
(.cond (.t 9)
.skip
(.exit 0))
(.seq
(.block 1
(.seq
(.reg 3 [⟨(some 10),none,(.q (.mov (.t 8)))⟩,⟨(some 5),none,(.q (.mov (.t 10)))⟩] [0,1,5,7,8])
(.seq
(.reg 4 [⟨(some 11),none,(.q (.mov (.t 1)))⟩,⟨(some 12),none,(.q (.mov (.t 0)))⟩,⟨(some 13),none,(.q (.mov (.t 5)))⟩,⟨(some 14),none,(.q (.iaddr 1 (.t 12) (.t 13)))⟩,⟨(some 15),none,(.q (.load none (.t 14)))⟩,⟨(some 16),none,(.callv (.t 11) [(.t 15)])⟩] [0,1,5,7,8,16])
(.cond (.t 16)
(.seq
(.reg 5 [⟨(some 17),none,(.q (.mov (.t 5)))⟩,⟨(some 4),none,(.q (.mov (.t 17)))⟩] [4])
.ret)
.skip))))
(.reg 6 [⟨(some 18),none,(.q (.bin .add (.t 8) (.c (.int .i64 1))))⟩,⟨(some 8),none,(.q (.mov (.t 18)))⟩] [0,1,7,8])))))))
(.seq
(.reg 7 [⟨(some 4),none,(.q (.mov (.c (.int .i64 (-1)))))⟩] [4])
.ret)))
theorem fok301:FOK Tryz.prog 301 (19,ic301,[(.t 4)]):=.mk (pf:=[]) (an:=[(0,[0,1]),(1,[0,1,7,8]),(2,[0,1,7,8,9]),(3,[0,1,5,7,8]),(4,[0,1,5,7,8,16]),(5,[4]),(6,[0,1,7,8]),(7,[4])]) (by kernel_rfl) (ab3 Tryz.func301 (by kernel_rfl) (by kernel_rfl) (by kernel_rfl))
def ic305:IC :=
(.seq
(.reg 0 [oM 2 (cB false)] [0])
(.seq
(.reg 1 [oM 3 (.t 0),oM 4 (.t 0),oQ 5 (.bin .neq (.t 3) (.t 4)),oM 2 (.t 5)] [2])
.ret))
theorem fok305:FOK Tryz.prog 305 (6,ic305,[(.t 2)]):=fokA [] Tryz.func305
def ic307:IC :=
(.seq
(.reg 0 [oM 3 (cI 0)] [0,1,3])
(.block 0
(.loop
(.seq
(.seq
(.reg 1 [oM 6 (.t 3),oQ 7 (.load none (.t 1)),oQ 8 (.len 1 (.t 7)),oQ 9 (.bin .lss (.t 6) (.t 8))] [0,1,3,9])
(.cond (.t 9)
.skip
(.exit 0)))
(.block 1
(.seq
(.reg 2 [oQ 10 (.load none (.t 1)),oM 11 (.t 3),oQ 12 (.istr (.t 10) (.t 11)),oK 13 (.pcall 308 [(.t 12)]),oQ 14 (.bld [(zU 0),(.str [])] [⟨0,⟨1,(.t 13)⟩⟩]),oK 4 (.alloc [(zU 0),(.str [])]),oN (.store 2 (.t 4) (.t 14))] [0,1,3,4])
(.seq
(.reg 3 [oM 15 (.t 3),oM 5 (.t 15)] [0,1,3,4,5])
(.seq
(.seq
(.reg 4 [oM 16 (.t 3),oQ 17 (.bin .add (.t 16) (cI 1)),oM 3 (.t 17)] [0,1,3,4,5])
(.block 2
(.loop
(.seq
(.seq
(.dreg 5 [oQ 18 (.faddr 0 (.t 4)),oQ 19 (.load none (.t 18)),oQ 20 (.bin .geq (.t 19) (.c (zU 4))),oM 21 (.t 20),gQ 22 21 true (.mov (.t 3)),gQ 23 21 true (.load none (.t 1)),gQ 24 21 true (.len 1 (.t 23)),gQ 25 21 true (.bin .lss (.t 22) (.t 24)),oQ 26 (.pick (.t 21) (.t 25) (cB false)),oM 27 (.t 26),gQ 28 27 true (.load none (.t 1)),gQ 29 27 true (.mov (.t 3)),gQ 30 27 true (.istr (.t 28) (.t 29)),gK 31 27 true (.pcall 308 [(.t 30)]),gQ 32 27 true (.faddr 0 (.t 4)),gQ 33 27 true (.load none (.t 32)),gQ 34 27 true (.bin .eql (.t 31) (.t 33)),oQ 35 (.pick (.t 27) (.t 34) (cB false))] false [0,1,3,4,5,35])
(.cond (.t 35)
.skip
(.exit 2)))
(.seq
(.block 3
.skip)
(.reg 6 [oM 36 (.t 3),oQ 37 (.bin .add (.t 36) (cI 1)),oM 3 (.t 37)] [0,1,3,4,5]))))))
(.seq
(.seq
(.reg 7 [oQ 38 (.faddr 0 (.t 4)),oQ 39 (.load none (.t 38)),oQ 40 (.bin .geq (.t 39) (.c (zU 4)))] [0,1,3,4,5,40])
(.cond (.t 40)
(.reg 8 [oQ 41 (.load none (.t 1)),oM 42 (.t 5),oM 43 (.t 3),oQ 44 (.sstr (.t 41) (some (.t 42)) (some (.t 43))),oQ 45 (.faddr 1 (.t 4)),oN (.store 1 (.t 45) (.t 44))] [0,1,3,4])
.skip))
(.seq
(.seq
(.reg 9 [oQ 46 (.faddr 0 (.t 4)),oQ 47 (.load none (.t 46)),oQ 48 (.bin .eql (.t 47) (.c (zU 5)))] [0,1,3,4,48])
(.cond (.t 48)
(.reg 10 [oQ 49 (.faddr 1 (.t 4)),oQ 50 (.load none (.t 49)),oK 51 (.call 309 [(.t 50),(.c (.str [48]))]),oQ 52 (.faddr 1 (.t 4)),oN (.store 1 (.t 52) (.t 51))] [0,1,3,4])
.skip))
(.seq
(.reg 11 [oQ 53 (.faddr 0 (.t 4)),oQ 54 (.load none (.t 53)),oQ 55 (.bin .neq (.t 54) (.c (zU 0))),oM 56 (.t 55),gQ 57 56 true (.mov (.t 0)),gQ 58 56 true (.load (some 2) (.t 4)),gK 59 56 true (.callv (.t 57) [(.t 58)]),gQ 60 56 true (.not (.t 59)),oQ 61 (.pick (.t 56) (.t 60) (cB false))] [0,1,3,61])
(.cond (.t 61)
.ret
.skip))))))))))))
theorem fok307:FOK Tryz.prog 307 (62,ic307,[]):=fokA ([]++[308]) Tryz.func307 (by kernel_rfl) (by kernel_rfl) (by kernel_rfl) (by kernel_rfl)
def ic308:IC :=
(.seq
(.reg 0 [oM 2 (.c (zU 0))] [0])
(.seq
(.block 0
(.seq
(.reg 1 [oM 4 (.t 0),oQ 5 (.bin .eql (.t 4) (.c (zU 126))),oM 3 (.t 5)] [0,3])
(.cond (.t 3)
(.seq
(.reg 2 [oM 2 (.c (zU 1))] [2])
.ret)
(.seq
(.reg 3 [oM 7 (.t 0),oQ 8 (.bin .eql (.t 7) (.c (zU 94))),oM 6 (.t 8)] [0,6])
(.cond (.t 6)
(.seq
(.reg 4 [oM 2 (.c (zU 3))] [2])
.ret)
(.seq
(.reg 5 [oM 10 (.t 0),oQ 11 (.bin .geq (.t 10) (.c (zU 97))),oM 12 (.t 11),gQ 13 12 true (.mov (.t 0)),gQ 14 12 true (.bin .leq (.t 13) (.c (zU 122))),oQ 15 (.pick (.t 12) (.t 14) (cB false)),oM 16 (.t 15),gQ 17 16 false (.mov (.t 0)),gQ 18 16 false (.bin .geq (.t 17) (.c (zU 65))),gQ 19 16 false (.mov (.t 18)),gQ 20 19 true (.mov (.t 0)),gQ 21 19 true (.bin .leq (.t 20) (.c (zU 90))),gQ 22 16 false (.pick (.t 19) (.t 21) (cB false)),oQ 23 (.pick (.t 16) (cB true) (.t 22)),oM 9 (.t 23)] [0,9])
(.cond (.t 9)
(.seq
(.reg 6 [oM 2 (.c (zU 4))] [2])
.ret)
(.seq
(.reg 7 [oM 25 (.t 0),oQ 26 (.bin .geq (.t 25) (.c (zU 48))),oM 27 (.t 26),gQ 28 27 true (.mov (.t 0)),gQ 29 27 true (.bin .leq (.t 28) (.c (zU 57))),oQ 30 (.pick (.t 27) (.t 29) (cB false)),oM 24 (.t 30)] [24])
(.cond (.t 24)
(.seq
(.reg 8 [oM 2 (.c (zU 5))] [2])
.ret)
.skip)))))))))
(.seq
(.reg 9 [oM 2 (.c (zU 0))] [2])
.ret)))
theorem fok308:FOK Tryz.prog 308 (31,ic308,[(.t 2)]):=fokA [] Tryz.func308
def ic309:IC :=
(.seq
(.reg 0 [oM 4 (.c (.str []))] [0,1])
(.seq
(.seq
(.reg 1 [oM 7 (.t 0),oQ 8 (.bin .eql (.t 7) (.c (.str []))),oM 9 (.t 8),gQ 10 9 false (.mov (.t 1)),gQ 11 9 false (.bin .eql (.t 10) (.c (.str []))),oQ 12 (.pick (.t 9) (cB true) (.t 11))] [0,1,12])
(.cond (.t 12)
(.seq
(.reg 2 [oM 13 (.t 0),oM 4 (.t 13)] [4])
.ret)
.skip))
(.seq
(.seq
(.reg 3 [oM 14 (.t 1),oQ 15 (.len 1 (.t 14)),oQ 16 (.bin .eql (.t 15) (cI 1)),oM 17 (.t 16),gQ 18 17 true (.mov (.t 1)),gQ 19 17 true (.istr (.t 18) (cI 0)),gQ 20 17 true (.bin .lss (.t 19) (.c (zU 128))),oQ 21 (.pick (.t 17) (.t 20) (cB false))] [0,1,21])
(.cond (.t 21)
(.seq
(.reg 4 [oM 22 (.t 0),oM 23 (.t 1),oQ 24 (.istr (.t 23) (cI 0)),oK 25 (.call 319 [(.t 22),(.t 24)]),oM 4 (.t 25)] [4])
.ret)
.skip))
(.seq
(.seq
(.reg 5 [oM 27 (.t 1),oK 28 (.call 320 [(.t 27)]),oM 26 (.t 28),oQ 29 (.ext 0 (.t 26)),oQ 30 (.ext 1 (.t 26)),oK 5 (.alloc [(.bool false),(.bool false),(.bool false),(.bool false),(.bool false),(.bool false),(.bool false),(.bool false),(.bool false),(.bool false),(.bool false),(.bool false),(.bool false),(.bool false),(.bool false),(.bool false),(.bool false),(.bool false),(.bool false),(.bool false),(.bool false),(.bool false),(.bool false),(.bool false),(.bool false),(.bool false),(.bool false),(.bool false),(.bool false),(.bool false),(.bool false),(.bool false),(.bool false),(.bool false),(.bool false),(.bool false),(.bool false),(.bool false),(.bool false),(.bool false),(.bool false),(.bool false),(.bool false),(.bool false),(.bool false),(.bool false),(.bool false),(.bool false),(.bool false),(.bool false),(.bool false),(.bool false),(.bool false),(.bool false),(.bool false),(.bool false),(.bool false),(.bool false),(.bool false),(.bool false),(.bool false),(.bool false),(.bool false),(.bool false),(.bool false),(.bool false),(.bool false),(.bool false),(.bool false),(.bool false),(.bool false),(.bool false),(.bool false),(.bool false),(.bool false),(.bool false),(.bool false),(.bool false),(.bool false),(.bool false),(.bool false),(.bool false),(.bool false),(.bool false),(.bool false),(.bool false),(.bool false),(.bool false),(.bool false),(.bool false),(.bool false),(.bool false),(.bool false),(.bool false),(.bool false),(.bool false),(.bool false),(.bool false),(.bool false),(.bool false),(.bool false),(.bool false),(.bool false),(.bool false),(.bool false),(.bool false),(.bool false),(.bool false),(.bool false),(.bool false),(.bool false),(.bool false),(.bool false),(.bool false),(.bool false),(.bool false),(.bool false),(.bool false),(.bool false),(.bool false),(.bool false),(.bool false),(.bool false),(.bool false),(.bool false),(.bool false),(.bool false),(.bool false),(.bool false),(.bool false),(.bool false),(.bool false),(.bool false),(.bool false),(.bool false),(.bool false),(.bool false),(.bool false),(.bool false),(.bool false),(.bool false),(.bool false),(.bool false),(.bool false),(.bool false),(.bool false),(.bool false),(.bool false),(.bool false),(.bool false),(.bool false),(.bool false),(.bool false),(.bool false),(.bool false),(.bool false),(.bool false),(.bool false),(.bool false),(.bool false),(.bool false),(.bool false),(.bool false),(.bool false),(.bool false),(.bool false),(.bool false),(.bool false),(.bool false),(.bool false),(.bool false),(.bool false),(.bool false),(.bool false),(.bool false),(.bool false),(.bool false),(.bool false),(.bool false),(.bool false),(.bool false),(.bool false),(.bool false),(.bool false),(.bool false),(.bool false),(.bool false),(.bool false),(.bool false),(.bool false),(.bool false),(.bool false),(.bool false),(.bool false),(.bool false),(.bool false),(.bool false),(.bool false),(.bool false),(.bool false),(.bool false),(.bool false),(.bool false),(.bool false),(.bool false),(.bool false),(.bool false),(.bool false),(.bool false),(.bool false),(.bool false),(.bool false),(.bool false),(.bool false),(.bool false),(.bool false),(.bool false),(.bool false),(.bool false),(.bool false),(.bool false),(.bool false),(.bool false),(.bool false),(.bool false),(.bool false),(.bool false),(.bool false),(.bool false),(.bool false),(.bool false),(.bool false),(.bool false),(.bool false),(.bool false),(.bool false),(.bool false),(.bool false),(.bool false),(.bool false),(.bool false),(.bool false),(.bool false),(.bool false),(.bool false),(.bool false),(.bool false),(.bool false),(.bool false),(.bool false),(.bool false),(.bool false),(.bool false),(.bool false),(.bool false),(.bool false)]),oN (.store 256 (.t 5) (.t 29)),oM 6 (.t 30)] [0,1,5,6])
(.seq
(.reg 6 [oM 31 (.t 6)] [0,1,5,31])
(.cond (.t 31)
(.seq
(.reg 7 [oM 32 (.t 0),oK 33 (.call 321 [(.t 32),(.t 5)]),oM 4 (.t 33)] [4])
.ret)
.skip)))
(.seq
(.reg 8 [oM 34 (.t 0),oM 35 (.t 1),oK 36 (.call 322 [(.t 34),(.t 35)]),oM 4 (.t 36)] [4])
.ret)))))
theorem fok309:FOK Tryz.prog 309 (37,ic309,[(.t 4)]):=fokA [] Tryz.func309
def ic310:IC :=
(.seq
(.reg 0 [oM 2 (cB false)] [0])
(.seq
(.reg 1 [oM 3 (.t 0),oM 4 (.t 0),oQ 5 (.bin .neq (.t 3) (.t 4)),oM 2 (.t 5)] [2])
.ret))
theorem fok310:FOK Tryz.prog 310 (6,ic310,[(.t 2)]):=fokA [] Tryz.func310
def ic311:IC :=
(.seq
(.reg 0 [oM 3 (cB false)] [0,1])
(.seq
(.reg 1 [oQ 4 (.faddr 1 (.t 1)),oQ 5 (.load none (.t 4)),oM 6 (.t 0),oQ 7 (.iaddr 1 (.t 5) (.t 6)),oQ 8 (.load none (.t 7)),oM 3 (.t 8)] [3])
.ret))
theorem fok311:FOK Tryz.prog 311 (9,ic311,[(.t 3)]):=fokA [] Tryz.func311
def ic312:IC :=
(.seq
(.reg 0 [oK 2 (.boxt (.t 0)),oM 3 (cB false)] [1,2])
(.seq
(.reg 1 [oQ 4 (.load (some 2) (.t 1)),oQ 5 (.load (some 7) (.t 2)),oK 6 (.call 243 [(.t 4),(.t 5)]),oQ 7 (.not (.t 6)),oM 3 (.t 7)] [3])
.ret))
theorem fok312:FOK Tryz.prog 312 (8,ic312,[(.t 3)]):=fokA [1000002] Tryz.func312
def ic313:IC :=
(.seq
(.reg 0 [oK 2 (.boxt (.t 0)),oM 4 (cB false)] [1,2])
(.seq
(.seq
(.reg 1 [oQ 7 (.faddr 1 (.t 2)),oQ 8 (.load none (.t 7)),oQ 9 (.len 0 (.t 8)),oM 10 (cI 0)] [1,2,8,9,10])
(.block 0
(.loop
(.seq
(.reg 2 [oQ 11 (.bin .lss (.t 10) (.t 9))] [1,2,8,9,10,11])
(.seq
(.cond (.t 11)
.skip
(.exit 0))
(.seq
(.block 1
(.seq
(.reg 3 [oM 12 (.t 10),oQ 13 (.iaddr 1 (.t 8) (.t 10)),oQ 14 (.load none (.t 13)),oM 5 (.t 12),oM 6 (.t 14)] [1,2,5,6,8,9,10])
(.seq
(.reg 4 [oM 15 (.t 6),oM 16 (.t 15),gQ 17 16 true (.mov (.t 1)),gQ 18 16 true (.faddr 0 (.t 2)),gQ 19 16 true (.load none (.t 18)),gQ 20 16 true (.mov (.t 5)),gK 21 16 true (.bsl 1 1 [(zI 0)] [⟨0,⟨1,(.t 20)⟩⟩]),gK 22 16 true (.call 242 [(.t 19),(.t 21)]),gK 23 16 true (.callv (.t 17) [(.t 22)]),oQ 24 (.pick (.t 16) (.t 23) (cB false))] [1,2,8,9,10,24])
(.cond (.t 24)
(.seq
(.reg 5 [oM 4 (cB true)] [4])
.ret)
.skip))))
(.reg 6 [oQ 25 (.bin .add (.t 10) (cI 1)),oM 10 (.t 25)] [1,2,8,9,10])))))))
(.seq
(.reg 7 [oM 4 (cB false)] [4])
.ret)))
theorem fok313:FOK Tryz.prog 313 (26,ic313,[(.t 4)]):=fokA [1000002] Tryz.func313
def ic314:IC :=
(.seq
(.reg 0 [oK 2 (.boxt (.t 0)),oM 3 (cB false)] [1,2])
(.seq
(.reg 1 [oQ 4 (.load (some 2) (.t 2)),oQ 5 (.load (some 7) (.t 1)),oK 6 (.call 289 [(.t 4),(.t 5)]),oM 3 (.t 6)] [3])
.ret))
theorem fok314:FOK Tryz.prog 314 (7,ic314,[(.t 3)]):=fokA [1000002] Tryz.func314
def ic315:IC :=
(.seq
(.reg 0 [oK 2 (.boxt (.t 0)),oM 3 (cB false)] [1,2])
(.seq
(.dreg 1 [oQ 4 (.load (some 2) (.t 2)),oQ 5 (.faddr 6 (.t 1)),oQ 6 (.load none (.t 5)),oQ 7 (.iaddr 7 (.t 6) (cI 0)),oQ 8 (.load (some 7) (.t 7)),oK 9 (.call 243 [(.t 4),(.t 8)]),oM 10 (.t 9),gQ 11 10 true (.load (some 2) (.t 2)),gQ 12 10 true (.faddr 6 (.t 1)),gQ 13 10 true (.load none (.t 12)),gQ 14 10 true (.iaddr 7 (.t 13) (cI 1)),gQ 15 10 true (.load (some 7) (.t 14)),gK 16 10 true (.call 243 [(.t 11),(.t 15)]),gQ 17 10 true (.not (.t 16)),oQ 18 (.pick (.t 10) (.t 17) (cB false)),oM 3 (.t 18)] false [3])
.ret))
theorem fok315:FOK Tryz.prog 315 (19,ic315,[(.t 3)]):=fokA [1000002] Tryz.func315
def ic319:IC :=
(.seq
(.reg 0 [oM 4 (.c (.str []))] [0,1])
(.seq
(.block 0
(.loop
(.seq
(.seq
(.reg 1 [oM 5 (.t 0),oQ 6 (.len 1 (.t 5)),oQ 7 (.bin .gtr (.t 6) (cI 0)),oM 8 (.t 7),gQ 9 8 true (.mov (.t 0)),gQ 10 8 true (.istr (.t 9) (cI 0)),gQ 11 8 true (.mov (.t 1)),gQ 12 8 true (.bin .eql (.t 10) (.t 11)),oQ 13 (.pick (.t 8) (.t 12) (cB false))] [0,1,13])
(.cond (.t 13)
.skip
(.exit 0)))
(.block 1
(.reg 2 [oM 14 (.t 0),oQ 15 (.sstr (.t 14) (some (cI 1)) none),oM 0 (.t 15)] [0,1])))))
(.seq
(.reg 3 [oM 16 (.t 0),oM 4 (.t 16)] [4])
.ret)))
theorem fok319:FOK Tryz.prog 319 (17,ic319,[(.t 4)]):=fokA [] Tryz.func319
end Go.Id.Tryz
