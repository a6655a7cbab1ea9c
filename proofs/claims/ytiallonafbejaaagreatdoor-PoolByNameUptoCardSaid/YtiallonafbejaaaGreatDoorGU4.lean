/- The compiled codes of functions,written by a program out of the given form. Conditions: none. -/
import Derived.Test.YtiallonafbejaaaGreatDoorFwYa
import Derived.Test.YtiallonafbejaaaGreatDoorProg
set_option linter.all false
namespace Go.Id.Tryz
open Go Go.Id Go.Proofs
def allF4 : List Nat:=List.range 357
def ic284 : IC :=
(.seq
(.reg 0 [oM 4 (cI 0)] [0,1])
(.seq
(.reg 1 [oM 7 (.t 0),oK 8 (.call 305 [(.t 7)]),oM 5 (.t 8)] [0,1,5])
(.seq
(.reg 2 [oM 9 (.t 1),oK 10 (.call 305 [(.t 9)]),oM 6 (.t 10)] [0,1,5,6])
(.seq
(.seq
(.reg 3 [oM 11 (.t 5)] [0,1,6,11])
(.cond (.t 11)
(.seq
(.seq
(.reg 4 [oM 12 (.t 6)] [12])
(.cond (.t 12)
(.seq
(.reg 5 [oM 4 (cI 0)] [4])
.ret)
.skip))
(.seq
(.reg 6 [oM 4 (cI (-1))] [4])
.ret))
.skip))
(.seq
(.seq
(.reg 7 [oM 13 (.t 6)] [0,1,13])
(.cond (.t 13)
(.seq
(.reg 8 [oM 4 (cI 1)] [4])
.ret)
.skip))
(.seq
(.seq
(.reg 9 [oM 14 (.t 0),oM 15 (.t 1),oQ 16 (.bin .lss (.t 14) (.t 15))] [0,1,16])
(.cond (.t 16)
(.seq
(.reg 10 [oM 4 (cI (-1))] [4])
.ret)
.skip))
(.seq
(.seq
(.reg 11 [oM 17 (.t 0),oM 18 (.t 1),oQ 19 (.bin .gtr (.t 17) (.t 18))] [19])
(.cond (.t 19)
(.seq
(.reg 12 [oM 4 (cI 1)] [4])
.ret)
.skip))
(.seq
(.reg 13 [oM 4 (cI 0)] [4])
.ret))))))))
theorem fok284 : FOK Tryz.prog 284 (20,ic284,[(.t 4)]):=fokA [] Tryz.func284
def ic285 : IC :=
(.seq
(.reg 0 [⟨(some 4),none,(.boxt (.t 0))⟩,⟨(some 7),none,(.q (.mov (.c (.bool false))))⟩] [1,2,3,4])
(.seq
(.seq
(.reg 1 [⟨(some 10),none,(.q (.mov (.t 2)))⟩,⟨(some 11),none,(.q (.load (some 7) (.t 4)))⟩,⟨(some 12),none,(.q (.mov (.t 1)))⟩,⟨(some 13),none,(.callv (.t 10) [(.t 11),(.t 12)])⟩,⟨(some 14),none,(.q (.not (.t 13)))⟩] [1,2,3,4,14])
(.cond (.t 14)
(.seq
(.reg 2 [⟨(some 7),none,(.q (.mov (.c (.bool false))))⟩] [7])
.ret)
.skip))
(.seq
(.reg 3 [⟨(some 15),none,(.q (.mov (.t 1)))⟩,⟨(some 16),none,(.q (.mov (.t 15)))⟩,⟨(some 17),(some ⟨16,false⟩),(.q (.faddr 0 (.t 4)))⟩,⟨(some 18),(some ⟨16,false⟩),(.q (.load none (.t 17)))⟩,⟨(some 19),(some ⟨16,false⟩),(.q (.bin .eql (.t 18) (.c (.int .u8 6))))⟩,⟨(some 20),none,(.q (.pick (.t 16) (.c (.bool true)) (.t 19)))⟩,⟨(some 21),none,(.q (.mov (.t 20)))⟩,⟨(some 22),(some ⟨21,false⟩),(.q (.faddr 0 (.t 4)))⟩,⟨(some 23),(some ⟨21,false⟩),(.q (.load none (.t 22)))⟩,⟨(some 24),(some ⟨21,false⟩),(.q (.bin .eql (.t 23) (.c (.int .u8 7))))⟩,⟨(some 25),none,(.q (.pick (.t 21) (.c (.bool true)) (.t 24)))⟩,⟨(some 1),none,(.q (.mov (.t 25)))⟩] [1,2,3,4])
(.seq
(.seq
(.reg 4 [⟨(some 26),none,(.q (.faddr 6 (.t 4)))⟩,⟨(some 27),none,(.q (.load none (.t 26)))⟩,⟨(some 28),none,(.q (.len 0 (.t 27)))⟩,⟨(some 29),none,(.q (.mov (.c (.int .i64 0))))⟩] [1,2,3,27,28,29])
(.block 0
(.loop
(.seq
(.reg 5 [⟨(some 30),none,(.q (.bin .lss (.t 29) (.t 28)))⟩] [1,2,3,27,28,29,30])
(.seq
(.cond (.t 30)
.skip
(.exit 0))
(.seq
(.block 1
(.seq
(.reg 6 [⟨(some 31),none,(.q (.iaddr 7 (.t 27) (.t 29)))⟩,⟨(some 32),none,(.q (.load (some 7) (.t 31)))⟩,⟨(some 9),none,(.alloc [(.int .u8 0),(.str []),(.int .u8 0),(.int .i64 0),(.str []),(.str []),.nilslice])⟩,⟨none,none,(.store 7 (.t 9) (.t 32))⟩] [1,2,3,9,27,28,29])
(.seq
(.reg 7 [⟨(some 33),none,(.q (.load none (.t 3)))⟩,⟨(some 34),none,(.q (.load (some 7) (.t 9)))⟩,⟨(some 35),none,(.q (.mov (.t 1)))⟩,⟨(some 36),none,(.q (.mov (.t 2)))⟩,⟨(some 37),none,(.callv (.t 33) [(.t 34),(.t 35),(.t 36)])⟩,⟨(some 38),none,(.q (.not (.t 37)))⟩] [1,2,3,27,28,29,38])
(.cond (.t 38)
(.seq
(.reg 8 [⟨(some 7),none,(.q (.mov (.c (.bool false))))⟩] [7])
.ret)
.skip))))
(.reg 9 [⟨(some 39),none,(.q (.bin .add (.t 29) (.c (.int .i64 1))))⟩,⟨(some 29),none,(.q (.mov (.t 39)))⟩] [1,2,3,27,28,29])))))))
(.seq
(.reg 10 [⟨(some 7),none,(.q (.mov (.c (.bool true))))⟩] [7])
.ret)))))
theorem fok285 : FOK Tryz.prog 285 (40,ic285,[(.t 7)]):=.mk (pf:=[1000004]) (an:=[(0,[1,2,3,4]),(1,[1,2,3,4,14]),(2,[7]),(3,[1,2,3,4]),(4,[1,2,3,27,28,29]),(5,[1,2,3,27,28,29,30]),(6,[1,2,3,9,27,28,29]),(7,[1,2,3,27,28,29,38]),(8,[7]),(9,[1,2,3,27,28,29]),(10,[7])]) (by kernel_rfl) (fnOK_of Tryz.func285 (by kernel_rfl) (by kernel_rfl) (by kernel_rfl))
def ic286 : IC :=
(.reg 0 [⟨(some 4),none,(.q (.load none (.t 1)))⟩,⟨(some 5),none,(.q (.load (some 7) (.t 2)))⟩,⟨(some 6),none,(.q (.mov (.t 0)))⟩,⟨(some 7),none,(.callv (.t 4) [(.t 5),(.c (.bool false)),(.t 6)])⟩] [])
theorem fok286 : FOK Tryz.prog 286 (8,ic286,[]):=.mk (pf:=[]) (an:=[]) (by kernel_rfl) (fnOK_of Tryz.func286 (by kernel_rfl) (by kernel_rfl) (by kernel_rfl))
def ic299 : IC :=
(.seq
(.reg 0 [⟨(some 4),none,(.q (.mov (.c (.int .i64 0))))⟩] [0,1])
(.seq
(.reg 1 [⟨(some 5),none,(.q (.mov (.t 0)))⟩,⟨(some 6),none,(.q (.mov (.t 1)))⟩,⟨(some 7),none,(.q (.ibs (.t 5) (.t 6)))⟩,⟨(some 4),none,(.q (.mov (.t 7)))⟩] [4])
.ret))
theorem fok299 : FOK Tryz.prog 299 (8,ic299,[(.t 4)]):=.mk (pf:=[]) (an:=[(0,[0,1]),(1,[4])]) (by kernel_rfl) (fnOK_of Tryz.func299 (by kernel_rfl) (by kernel_rfl) (by kernel_rfl))
def ic300 : IC :=
(.seq
(.reg 0 [⟨(some 4),none,(.q (.mov (.c (.bool false))))⟩] [0,1])
(.seq
(.reg 1 [⟨(some 5),none,(.q (.mov (.t 0)))⟩,⟨(some 6),none,(.q (.len 1 (.t 5)))⟩,⟨(some 7),none,(.q (.mov (.t 1)))⟩,⟨(some 8),none,(.q (.len 1 (.t 7)))⟩,⟨(some 9),none,(.q (.bin .geq (.t 6) (.t 8)))⟩,⟨(some 10),none,(.q (.mov (.t 9)))⟩,⟨(some 11),(some ⟨10,true⟩),(.q (.mov (.t 0)))⟩,⟨(some 12),(some ⟨10,true⟩),(.q (.mov (.t 1)))⟩,⟨(some 13),(some ⟨10,true⟩),(.q (.len 1 (.t 12)))⟩,⟨(some 14),(some ⟨10,true⟩),(.q (.sstr (.t 11) none (some (.t 13))))⟩,⟨(some 15),(some ⟨10,true⟩),(.q (.mov (.t 1)))⟩,⟨(some 16),(some ⟨10,true⟩),(.q (.bin .eql (.t 14) (.t 15)))⟩,⟨(some 17),none,(.q (.pick (.t 10) (.t 16) (.c (.bool false))))⟩,⟨(some 4),none,(.q (.mov (.t 17)))⟩] [4])
.ret))
theorem fok300 : FOK Tryz.prog 300 (18,ic300,[(.t 4)]):=.mk (pf:=[]) (an:=[(0,[0,1]),(1,[4])]) (by kernel_rfl) (fnOK_of Tryz.func300 (by kernel_rfl) (by kernel_rfl) (by kernel_rfl))
def ic301 : IC :=
(.seq
(.reg 0 [⟨(some 4),none,(.q (.mov (.c (.int .i64 0))))⟩] [0,1])
(.seq
(.seq
(.reg 1 [⟨(some 6),none,(.q (.mov (.t 0)))⟩,⟨(some 7),none,(.q (.len 0 (.t 6)))⟩,⟨(some 8),none,(.q (.mov (.c (.int .i64 0))))⟩] [0,1,7,8])
(.block 0
(.loop
(.seq
(.reg 2 [⟨(some 9),none,(.q (.bin .lss (.t 8) (.t 7)))⟩] [0,1,7,8,9])
(.seq
(.cond (.t 9)
.skip
(.exit 0))
(.seq
(.block 1
(.seq
(.reg 3 [⟨(some 10),none,(.q (.mov (.t 8)))⟩,⟨(some 5),none,(.q (.mov (.t 10)))⟩] [0,1,5,7,8])
(.seq
(.reg 4 [⟨(some 11),none,(.q (.mov (.t 1)))⟩,⟨(some 12),none,(.q (.mov (.t 0)))⟩,⟨(some 13),none,(.q (.mov (.t 5)))⟩,⟨(some 14),none,(.q (.iaddr 1 (.t 12) (.t 13)))⟩,⟨(some 15),none,(.q (.load none (.t 14)))⟩,⟨(some 16),none,(.callv (.t 11) [(.t 15)])⟩] [0,1,5,7,8,16])
(.cond (.t 16)
(.seq
(.reg 5 [⟨(some 17),none,(.q (.mov (.t 5)))⟩,⟨(some 4),none,(.q (.mov (.t 17)))⟩] [4])
.ret)
.skip))))
(.reg 6 [⟨(some 18),none,(.q (.bin .add (.t 8) (.c (.int .i64 1))))⟩,⟨(some 8),none,(.q (.mov (.t 18)))⟩] [0,1,7,8])))))))
(.seq
(.reg 7 [⟨(some 4),none,(.q (.mov (.c (.int .i64 (-1)))))⟩] [4])
.ret)))
theorem fok301 : FOK Tryz.prog 301 (19,ic301,[(.t 4)]):=.mk (pf:=[]) (an:=[(0,[0,1]),(1,[0,1,7,8]),(2,[0,1,7,8,9]),(3,[0,1,5,7,8]),(4,[0,1,5,7,8,16]),(5,[4]),(6,[0,1,7,8]),(7,[4])]) (by kernel_rfl) (fnOK_of Tryz.func301 (by kernel_rfl) (by kernel_rfl) (by kernel_rfl))
def ic302 : IC :=
(.seq
(.reg 0 [oM 10 (.t 1),oM 8 (.t 10)] [0,2,3,8])
(.block 0
(.loop
(.block 1
(.seq
(.reg 1 [oM 11 (.t 8),oQ 12 (.bin .mul (cI 2) (.t 11)),oQ 13 (.bin .add (.t 12) (cI 1)),oM 9 (.t 13)] [0,2,3,8,9])
(.seq
(.seq
(.reg 2 [oM 14 (.t 9),oM 15 (.t 2),oQ 16 (.bin .geq (.t 14) (.t 15))] [0,2,3,8,9,16])
(.cond (.t 16)
(.exit 0)
.skip))
(.seq
(.seq
(.dreg 3 [oM 17 (.t 9),oQ 18 (.bin .add (.t 17) (cI 1)),oM 19 (.t 2),oQ 20 (.bin .lss (.t 18) (.t 19)),oM 21 (.t 20),gQ 22 21 true (.mov (.t 0)),gQ 23 21 true (.mov (.t 3)),gQ 24 21 true (.mov (.t 9)),gQ 25 21 true (.bin .add (.t 23) (.t 24)),gQ 26 21 true (.iaddr 1 (.t 22) (.t 25)),gQ 27 21 true (.load none (.t 26)),gQ 28 21 true (.mov (.t 0)),gQ 29 21 true (.mov (.t 3)),gQ 30 21 true (.mov (.t 9)),gQ 31 21 true (.bin .add (.t 29) (.t 30)),gQ 32 21 true (.bin .add (.t 31) (cI 1)),gQ 33 21 true (.iaddr 1 (.t 28) (.t 32)),gQ 34 21 true (.load none (.t 33)),gK 35 21 true (.call 272 [(.t 27),(.t 34)]),oQ 36 (.pick (.t 21) (.t 35) (cB false))] false [0,2,3,8,9,36])
(.cond (.t 36)
(.reg 4 [oM 37 (.t 9),oQ 38 (.bin .add (.t 37) (cI 1)),oM 9 (.t 38)] [0,2,3,8,9])
.skip))
(.seq
(.seq
(.dreg 5 [oM 39 (.t 0),oM 40 (.t 3),oM 41 (.t 8),oQ 42 (.bin .add (.t 40) (.t 41)),oQ 43 (.iaddr 1 (.t 39) (.t 42)),oQ 44 (.load none (.t 43)),oM 45 (.t 0),oM 46 (.t 3),oM 47 (.t 9),oQ 48 (.bin .add (.t 46) (.t 47)),oQ 49 (.iaddr 1 (.t 45) (.t 48)),oQ 50 (.load none (.t 49)),oK 51 (.call 272 [(.t 44),(.t 50)]),oQ 52 (.not (.t 51))] false [0,2,3,8,9,52])
(.cond (.t 52)
.ret
.skip))
(.seq
(.dreg 6 [oM 53 (.t 0),oM 54 (.t 3),oM 55 (.t 8),oQ 56 (.bin .add (.t 54) (.t 55)),oM 57 (.t 0),oM 58 (.t 3),oM 59 (.t 9),oQ 60 (.bin .add (.t 58) (.t 59)),oM 61 (.t 0),oM 62 (.t 3),oM 63 (.t 9),oQ 64 (.bin .add (.t 62) (.t 63)),oQ 65 (.iaddr 1 (.t 61) (.t 64)),oQ 66 (.load none (.t 65)),oM 67 (.t 0),oM 68 (.t 3),oM 69 (.t 8),oQ 70 (.bin .add (.t 68) (.t 69)),oQ 71 (.iaddr 1 (.t 67) (.t 70)),oQ 72 (.load none (.t 71)),oQ 73 (.iaddr 1 (.t 53) (.t 56)),oN (.store 1 (.t 73) (.t 66)),oQ 74 (.iaddr 1 (.t 57) (.t 60)),oN (.store 1 (.t 74) (.t 72))] false [0,2,3,9])
(.reg 7 [oM 75 (.t 9),oM 8 (.t 75)] [0,2,3,8]))))))))))
theorem fok302 : FOK Tryz.prog 302 (76,ic302,[]):=fokA [] Tryz.func302
def ic303 : IC :=
(.seq
(.reg 0 [oM 6 (cI 0)] [0,1,2])
(.seq
(.reg 1 [oM 7 (.t 0),oM 8 (.t 1),oQ 9 (.bin .sub (.t 8) (cI 1)),oM 10 (.t 1),oM 11 (.t 1),oQ 12 (.bin .add (.t 11) (cI 1)),oM 13 (.t 2),oK 14 (.call 304 [(.t 7),(.t 9),(.t 10),(.t 12),(.t 13)]),oM 6 (.t 14)] [6])
.ret))
theorem fok303 : FOK Tryz.prog 303 (15,ic303,[(.t 6)]):=fokA [] Tryz.func303
def ic304 : IC :=
(.seq
(.reg 0 [oM 10 (cI 0)] [0,1,2,3,4])
(.seq
(.reg 1 [oM 12 (.t 0),oM 13 (.t 1),oM 14 (.t 2),oM 15 (.t 4),oK 16 (.call 318 [(.t 12),(.t 13),(.t 14),(.t 15)]),oM 11 (.t 16),oQ 17 (.ext 0 (.t 11)),oQ 18 (.ext 1 (.t 11)),oM 1 (.t 17),oM 2 (.t 18)] [0,1,2,3,4])
(.seq
(.reg 2 [oM 20 (.t 0),oM 21 (.t 2),oM 22 (.t 3),oM 23 (.t 4),oK 24 (.call 318 [(.t 20),(.t 21),(.t 22),(.t 23)]),oM 19 (.t 24),oQ 25 (.ext 0 (.t 19)),oQ 26 (.ext 1 (.t 19)),oM 2 (.t 25),oM 3 (.t 26)] [0,1,2,4])
(.seq
(.reg 3 [oM 28 (.t 0),oM 29 (.t 1),oM 30 (.t 2),oM 31 (.t 4),oK 32 (.call 318 [(.t 28),(.t 29),(.t 30),(.t 31)]),oM 27 (.t 32),oQ 33 (.ext 0 (.t 27)),oQ 34 (.ext 1 (.t 27)),oM 1 (.t 33),oM 2 (.t 34)] [2])
(.seq
(.reg 4 [oM 35 (.t 2),oM 10 (.t 35)] [10])
.ret)))))
theorem fok304 : FOK Tryz.prog 304 (36,ic304,[(.t 10)]):=fokA [] Tryz.func304
def ic305 : IC :=
(.seq
(.reg 0 [oM 2 (cB false)] [0])
(.seq
(.reg 1 [oM 3 (.t 0),oM 4 (.t 0),oQ 5 (.bin .neq (.t 3) (.t 4)),oM 2 (.t 5)] [2])
.ret))
theorem fok305 : FOK Tryz.prog 305 (6,ic305,[(.t 2)]):=fokA [] Tryz.func305
def ic307 : IC :=
(.seq
(.reg 0 [oM 3 (cI 0)] [0,1,3])
(.block 0
(.loop
(.seq
(.seq
(.reg 1 [oM 6 (.t 3),oQ 7 (.load none (.t 1)),oQ 8 (.len 1 (.t 7)),oQ 9 (.bin .lss (.t 6) (.t 8))] [0,1,3,9])
(.cond (.t 9)
.skip
(.exit 0)))
(.block 1
(.seq
(.reg 2 [oQ 10 (.load none (.t 1)),oM 11 (.t 3),oQ 12 (.istr (.t 10) (.t 11)),oK 13 (.pcall 308 [(.t 12)]),oQ 14 (.bld [(zU 0),(.str [])] [⟨0,⟨1,(.t 13)⟩⟩]),oK 4 (.alloc [(zU 0),(.str [])]),oN (.store 2 (.t 4) (.t 14))] [0,1,3,4])
(.seq
(.reg 3 [oM 15 (.t 3),oM 5 (.t 15)] [0,1,3,4,5])
(.seq
(.seq
(.reg 4 [oM 16 (.t 3),oQ 17 (.bin .add (.t 16) (cI 1)),oM 3 (.t 17)] [0,1,3,4,5])
(.block 2
(.loop
(.seq
(.seq
(.dreg 5 [oQ 18 (.faddr 0 (.t 4)),oQ 19 (.load none (.t 18)),oQ 20 (.bin .geq (.t 19) (.c (zU 4))),oM 21 (.t 20),gQ 22 21 true (.mov (.t 3)),gQ 23 21 true (.load none (.t 1)),gQ 24 21 true (.len 1 (.t 23)),gQ 25 21 true (.bin .lss (.t 22) (.t 24)),oQ 26 (.pick (.t 21) (.t 25) (cB false)),oM 27 (.t 26),gQ 28 27 true (.load none (.t 1)),gQ 29 27 true (.mov (.t 3)),gQ 30 27 true (.istr (.t 28) (.t 29)),gK 31 27 true (.pcall 308 [(.t 30)]),gQ 32 27 true (.faddr 0 (.t 4)),gQ 33 27 true (.load none (.t 32)),gQ 34 27 true (.bin .eql (.t 31) (.t 33)),oQ 35 (.pick (.t 27) (.t 34) (cB false))] false [0,1,3,4,5,35])
(.cond (.t 35)
.skip
(.exit 2)))
(.seq
(.block 3
.skip)
(.reg 6 [oM 36 (.t 3),oQ 37 (.bin .add (.t 36) (cI 1)),oM 3 (.t 37)] [0,1,3,4,5]))))))
(.seq
(.seq
(.reg 7 [oQ 38 (.faddr 0 (.t 4)),oQ 39 (.load none (.t 38)),oQ 40 (.bin .geq (.t 39) (.c (zU 4)))] [0,1,3,4,5,40])
(.cond (.t 40)
(.reg 8 [oQ 41 (.load none (.t 1)),oM 42 (.t 5),oM 43 (.t 3),oQ 44 (.sstr (.t 41) (some (.t 42)) (some (.t 43))),oQ 45 (.faddr 1 (.t 4)),oN (.store 1 (.t 45) (.t 44))] [0,1,3,4])
.skip))
(.seq
(.seq
(.reg 9 [oQ 46 (.faddr 0 (.t 4)),oQ 47 (.load none (.t 46)),oQ 48 (.bin .eql (.t 47) (.c (zU 5)))] [0,1,3,4,48])
(.cond (.t 48)
(.reg 10 [oQ 49 (.faddr 1 (.t 4)),oQ 50 (.load none (.t 49)),oK 51 (.call 309 [(.t 50),(.c (.str [48]))]),oQ 52 (.faddr 1 (.t 4)),oN (.store 1 (.t 52) (.t 51))] [0,1,3,4])
.skip))
(.seq
(.reg 11 [oQ 53 (.faddr 0 (.t 4)),oQ 54 (.load none (.t 53)),oQ 55 (.bin .neq (.t 54) (.c (zU 0))),oM 56 (.t 55),gQ 57 56 true (.mov (.t 0)),gQ 58 56 true (.load (some 2) (.t 4)),gK 59 56 true (.callv (.t 57) [(.t 58)]),gQ 60 56 true (.not (.t 59)),oQ 61 (.pick (.t 56) (.t 60) (cB false))] [0,1,3,61])
(.cond (.t 61)
.ret
.skip))))))))))))
theorem fok307 : FOK Tryz.prog 307 (62,ic307,[]):=fokA ([] ++ [308]) Tryz.func307 (by kernel_rfl) (by kernel_rfl) (by kernel_rfl) (by kernel_rfl)
def ic308 : IC :=
(.seq
(.reg 0 [oM 2 (.c (zU 0))] [0])
(.seq
(.block 0
(.seq
(.reg 1 [oM 4 (.t 0),oQ 5 (.bin .eql (.t 4) (.c (zU 126))),oM 3 (.t 5)] [0,3])
(.cond (.t 3)
(.seq
(.reg 2 [oM 2 (.c (zU 1))] [2])
.ret)
(.seq
(.reg 3 [oM 7 (.t 0),oQ 8 (.bin .eql (.t 7) (.c (zU 94))),oM 6 (.t 8)] [0,6])
(.cond (.t 6)
(.seq
(.reg 4 [oM 2 (.c (zU 3))] [2])
.ret)
(.seq
(.reg 5 [oM 10 (.t 0),oQ 11 (.bin .geq (.t 10) (.c (zU 97))),oM 12 (.t 11),gQ 13 12 true (.mov (.t 0)),gQ 14 12 true (.bin .leq (.t 13) (.c (zU 122))),oQ 15 (.pick (.t 12) (.t 14) (cB false)),oM 16 (.t 15),gQ 17 16 false (.mov (.t 0)),gQ 18 16 false (.bin .geq (.t 17) (.c (zU 65))),gQ 19 16 false (.mov (.t 18)),gQ 20 19 true (.mov (.t 0)),gQ 21 19 true (.bin .leq (.t 20) (.c (zU 90))),gQ 22 16 false (.pick (.t 19) (.t 21) (cB false)),oQ 23 (.pick (.t 16) (cB true) (.t 22)),oM 9 (.t 23)] [0,9])
(.cond (.t 9)
(.seq
(.reg 6 [oM 2 (.c (zU 4))] [2])
.ret)
(.seq
(.reg 7 [oM 25 (.t 0),oQ 26 (.bin .geq (.t 25) (.c (zU 48))),oM 27 (.t 26),gQ 28 27 true (.mov (.t 0)),gQ 29 27 true (.bin .leq (.t 28) (.c (zU 57))),oQ 30 (.pick (.t 27) (.t 29) (cB false)),oM 24 (.t 30)] [24])
(.cond (.t 24)
(.seq
(.reg 8 [oM 2 (.c (zU 5))] [2])
.ret)
.skip)))))))))
(.seq
(.reg 9 [oM 2 (.c (zU 0))] [2])
.ret)))
theorem fok308 : FOK Tryz.prog 308 (31,ic308,[(.t 2)]):=fokA [] Tryz.func308
def ic309 : IC :=
(.seq
(.reg 0 [oM 4 (.c (.str []))] [0,1])
(.seq
(.seq
(.reg 1 [oM 7 (.t 0),oQ 8 (.bin .eql (.t 7) (.c (.str []))),oM 9 (.t 8),gQ 10 9 false (.mov (.t 1)),gQ 11 9 false (.bin .eql (.t 10) (.c (.str []))),oQ 12 (.pick (.t 9) (cB true) (.t 11))] [0,1,12])
(.cond (.t 12)
(.seq
(.reg 2 [oM 13 (.t 0),oM 4 (.t 13)] [4])
.ret)
.skip))
(.seq
(.seq
(.reg 3 [oM 14 (.t 1),oQ 15 (.len 1 (.t 14)),oQ 16 (.bin .eql (.t 15) (cI 1)),oM 17 (.t 16),gQ 18 17 true (.mov (.t 1)),gQ 19 17 true (.istr (.t 18) (cI 0)),gQ 20 17 true (.bin .lss (.t 19) (.c (zU 128))),oQ 21 (.pick (.t 17) (.t 20) (cB false))] [0,1,21])
(.cond (.t 21)
(.seq
(.reg 4 [oM 22 (.t 0),oM 23 (.t 1),oQ 24 (.istr (.t 23) (cI 0)),oK 25 (.call 319 [(.t 22),(.t 24)]),oM 4 (.t 25)] [4])
.ret)
.skip))
(.seq
(.seq
(.reg 5 [oM 27 (.t 1),oK 28 (.call 320 [(.t 27)]),oM 26 (.t 28),oQ 29 (.ext 0 (.t 26)),oQ 30 (.ext 1 (.t 26)),oK 5 (.alloc [(.bool false),(.bool false),(.bool false),(.bool false),(.bool false),(.bool false),(.bool false),(.bool false),(.bool false),(.bool false),(.bool false),(.bool false),(.bool false),(.bool false),(.bool false),(.bool false),(.bool false),(.bool false),(.bool false),(.bool false),(.bool false),(.bool false),(.bool false),(.bool false),(.bool false),(.bool false),(.bool false),(.bool false),(.bool false),(.bool false),(.bool false),(.bool false),(.bool false),(.bool false),(.bool false),(.bool false),(.bool false),(.bool false),(.bool false),(.bool false),(.bool false),(.bool false),(.bool false),(.bool false),(.bool false),(.bool false),(.bool false),(.bool false),(.bool false),(.bool false),(.bool false),(.bool false),(.bool false),(.bool false),(.bool false),(.bool false),(.bool false),(.bool false),(.bool false),(.bool false),(.bool false),(.bool false),(.bool false),(.bool false),(.bool false),(.bool false),(.bool false),(.bool false),(.bool false),(.bool false),(.bool false),(.bool false),(.bool false),(.bool false),(.bool false),(.bool false),(.bool false),(.bool false),(.bool false),(.bool false),(.bool false),(.bool false),(.bool false),(.bool false),(.bool false),(.bool false),(.bool false),(.bool false),(.bool false),(.bool false),(.bool false),(.bool false),(.bool false),(.bool false),(.bool false),(.bool false),(.bool false),(.bool false),(.bool false),(.bool false),(.bool false),(.bool false),(.bool false),(.bool false),(.bool false),(.bool false),(.bool false),(.bool false),(.bool false),(.bool false),(.bool false),(.bool false),(.bool false),(.bool false),(.bool false),(.bool false),(.bool false),(.bool false),(.bool false),(.bool false),(.bool false),(.bool false),(.bool false),(.bool false),(.bool false),(.bool false),(.bool false),(.bool false),(.bool false),(.bool false),(.bool false),(.bool false),(.bool false),(.bool false),(.bool false),(.bool false),(.bool false),(.bool false),(.bool false),(.bool false),(.bool false),(.bool false),(.bool false),(.bool false),(.bool false),(.bool false),(.bool false),(.bool false),(.bool false),(.bool false),(.bool false),(.bool false),(.bool false),(.bool false),(.bool false),(.bool false),(.bool false),(.bool false),(.bool false),(.bool false),(.bool false),(.bool false),(.bool false),(.bool false),(.bool false),(.bool false),(.bool false),(.bool false),(.bool false),(.bool false),(.bool false),(.bool false),(.bool false),(.bool false),(.bool false),(.bool false),(.bool false),(.bool false),(.bool false),(.bool false),(.bool false),(.bool false),(.bool false),(.bool false),(.bool false),(.bool false),(.bool false),(.bool false),(.bool false),(.bool false),(.bool false),(.bool false),(.bool false),(.bool false),(.bool false),(.bool false),(.bool false),(.bool false),(.bool false),(.bool false),(.bool false),(.bool false),(.bool false),(.bool false),(.bool false),(.bool false),(.bool false),(.bool false),(.bool false),(.bool false),(.bool false),(.bool false),(.bool false),(.bool false),(.bool false),(.bool false),(.bool false),(.bool false),(.bool false),(.bool false),(.bool false),(.bool false),(.bool false),(.bool false),(.bool false),(.bool false),(.bool false),(.bool false),(.bool false),(.bool false),(.bool false),(.bool false),(.bool false),(.bool false),(.bool false),(.bool false),(.bool false),(.bool false),(.bool false),(.bool false),(.bool false),(.bool false),(.bool false),(.bool false),(.bool false),(.bool false),(.bool false),(.bool false),(.bool false),(.bool false),(.bool false),(.bool false),(.bool false),(.bool false),(.bool false),(.bool false)]),oN (.store 256 (.t 5) (.t 29)),oM 6 (.t 30)] [0,1,5,6])
(.seq
(.reg 6 [oM 31 (.t 6)] [0,1,5,31])
(.cond (.t 31)
(.seq
(.reg 7 [oM 32 (.t 0),oK 33 (.call 321 [(.t 32),(.t 5)]),oM 4 (.t 33)] [4])
.ret)
.skip)))
(.seq
(.reg 8 [oM 34 (.t 0),oM 35 (.t 1),oK 36 (.call 322 [(.t 34),(.t 35)]),oM 4 (.t 36)] [4])
.ret)))))
theorem fok309 : FOK Tryz.prog 309 (37,ic309,[(.t 4)]):=fokA [] Tryz.func309
def ic310 : IC :=
(.seq
(.reg 0 [oM 2 (cB false)] [0])
(.seq
(.reg 1 [oM 3 (.t 0),oM 4 (.t 0),oQ 5 (.bin .neq (.t 3) (.t 4)),oM 2 (.t 5)] [2])
.ret))
theorem fok310 : FOK Tryz.prog 310 (6,ic310,[(.t 2)]):=fokA [] Tryz.func310
def ic318 : IC :=
(.seq
(.reg 0 [oM 8 (cI 0),oM 9 (cI 0)] [0,1,2,3])
(.seq
(.seq
(.dreg 1 [oM 10 (.t 0),oM 11 (.t 2),oQ 12 (.iaddr 1 (.t 10) (.t 11)),oQ 13 (.load none (.t 12)),oM 14 (.t 0),oM 15 (.t 1),oQ 16 (.iaddr 1 (.t 14) (.t 15)),oQ 17 (.load none (.t 16)),oK 18 (.call 272 [(.t 13),(.t 17)])] false [1,2,3,18])
(.cond (.t 18)
(.seq
(.reg 2 [oM 19 (.t 3),oQ 20 (.nchk (.t 19)),oQ 21 (.load none (.t 20)),oQ 22 (.bin .add (.t 21) (cI 1)),oQ 23 (.nchk (.t 19)),oN (.store 1 (.t 23) (.t 22))] [1,2])
(.seq
(.reg 3 [oM 24 (.t 2),oM 25 (.t 1),oM 8 (.t 24),oM 9 (.t 25)] [8,9])
.ret))
.skip))
(.seq
(.reg 4 [oM 26 (.t 1),oM 27 (.t 2),oM 8 (.t 26),oM 9 (.t 27)] [8,9])
.ret)))
theorem fok318 : FOK Tryz.prog 318 (28,ic318,[(.t 8),(.t 9)]):=fokA [] Tryz.func318
def ic319 : IC :=
(.seq
(.reg 0 [oM 4 (.c (.str []))] [0,1])
(.seq
(.block 0
(.loop
(.seq
(.seq
(.reg 1 [oM 5 (.t 0),oQ 6 (.len 1 (.t 5)),oQ 7 (.bin .gtr (.t 6) (cI 0)),oM 8 (.t 7),gQ 9 8 true (.mov (.t 0)),gQ 10 8 true (.istr (.t 9) (cI 0)),gQ 11 8 true (.mov (.t 1)),gQ 12 8 true (.bin .eql (.t 10) (.t 11)),oQ 13 (.pick (.t 8) (.t 12) (cB false))] [0,1,13])
(.cond (.t 13)
.skip
(.exit 0)))
(.block 1
(.reg 2 [oM 14 (.t 0),oQ 15 (.sstr (.t 14) (some (cI 1)) none),oM 0 (.t 15)] [0,1])))))
(.seq
(.reg 3 [oM 16 (.t 0),oM 4 (.t 16)] [4])
.ret)))
theorem fok319 : FOK Tryz.prog 319 (17,ic319,[(.t 4)]):=fokA [] Tryz.func319
def ic320 : IC :=
(.seq
(.reg 0 [oK 2 (.alloc [(.bool false),(.bool false),(.bool false),(.bool false),(.bool false),(.bool false),(.bool false),(.bool false),(.bool false),(.bool false),(.bool false),(.bool false),(.bool false),(.bool false),(.bool false),(.bool false),(.bool false),(.bool false),(.bool false),(.bool false),(.bool false),(.bool false),(.bool false),(.bool false),(.bool false),(.bool false),(.bool false),(.bool false),(.bool false),(.bool false),(.bool false),(.bool false),(.bool false),(.bool false),(.bool false),(.bool false),(.bool false),(.bool false),(.bool false),(.bool false),(.bool false),(.bool false),(.bool false),(.bool false),(.bool false),(.bool false),(.bool false),(.bool false),(.bool false),(.bool false),(.bool false),(.bool false),(.bool false),(.bool false),(.bool false),(.bool false),(.bool false),(.bool false),(.bool false),(.bool false),(.bool false),(.bool false),(.bool false),(.bool false),(.bool false),(.bool false),(.bool false),(.bool false),(.bool false),(.bool false),(.bool false),(.bool false),(.bool false),(.bool false),(.bool false),(.bool false),(.bool false),(.bool false),(.bool false),(.bool false),(.bool false),(.bool false),(.bool false),(.bool false),(.bool false),(.bool false),(.bool false),(.bool false),(.bool false),(.bool false),(.bool false),(.bool false),(.bool false),(.bool false),(.bool false),(.bool false),(.bool false),(.bool false),(.bool false),(.bool false),(.bool false),(.bool false),(.bool false),(.bool false),(.bool false),(.bool false),(.bool false),(.bool false),(.bool false),(.bool false),(.bool false),(.bool false),(.bool false),(.bool false),(.bool false),(.bool false),(.bool false),(.bool false),(.bool false),(.bool false),(.bool false),(.bool false),(.bool false),(.bool false),(.bool false),(.bool false),(.bool false),(.bool false),(.bool false),(.bool false),(.bool false),(.bool false),(.bool false),(.bool false),(.bool false),(.bool false),(.bool false),(.bool false),(.bool false),(.bool false),(.bool false),(.bool false),(.bool false),(.bool false),(.bool false),(.bool false),(.bool false),(.bool false),(.bool false),(.bool false),(.bool false),(.bool false),(.bool false),(.bool false),(.bool false),(.bool false),(.bool false),(.bool false),(.bool false),(.bool false),(.bool false),(.bool false),(.bool false),(.bool false),(.bool false),(.bool false),(.bool false),(.bool false),(.bool false),(.bool false),(.bool false),(.bool false),(.bool false),(.bool false),(.bool false),(.bool false),(.bool false),(.bool false),(.bool false),(.bool false),(.bool false),(.bool false),(.bool false),(.bool false),(.bool false),(.bool false),(.bool false),(.bool false),(.bool false),(.bool false),(.bool false),(.bool false),(.bool false),(.bool false),(.bool false),(.bool false),(.bool false),(.bool false),(.bool false),(.bool false),(.bool false),(.bool false),(.bool false),(.bool false),(.bool false),(.bool false),(.bool false),(.bool false),(.bool false),(.bool false),(.bool false),(.bool false),(.bool false),(.bool false),(.bool false),(.bool false),(.bool false),(.bool false),(.bool false),(.bool false),(.bool false),(.bool false),(.bool false),(.bool false),(.bool false),(.bool false),(.bool false),(.bool false),(.bool false),(.bool false),(.bool false),(.bool false),(.bool false),(.bool false),(.bool false),(.bool false),(.bool false),(.bool false),(.bool false),(.bool false),(.bool false),(.bool false),(.bool false),(.bool false),(.bool false),(.bool false),(.bool false),(.bool false),(.bool false),(.bool false),(.bool false),(.bool false),(.bool false),(.bool false),(.bool false),(.bool false)]),oM 3 (cB false)] [0,2])
(.seq
(.seq
(.reg 1 [oM 4 (cI 0)] [0,2,4])
(.block 0
(.loop
(.seq
(.seq
(.reg 2 [oM 6 (.t 4),oM 7 (.t 0),oQ 8 (.len 1 (.t 7)),oQ 9 (.bin .lss (.t 6) (.t 8))] [0,2,4,9])
(.cond (.t 9)
.skip
(.exit 0)))
(.seq
(.block 1
(.seq
(.reg 4 [oM 12 (.t 0),oM 13 (.t 4),oQ 14 (.istr (.t 12) (.t 13)),oM 5 (.t 14)] [0,2,4,5])
(.seq
(.seq
(.reg 5 [oM 15 (.t 5),oQ 16 (.bin .geq (.t 15) (.c (zU 128)))] [0,2,4,5,16])
(.cond (.t 16)
(.seq
(.reg 6 [oQ 17 (.load (some 256) (.t 2)),oN (.store 256 (.t 2) (.t 17)),oM 3 (cB false)] [2,3])
.ret)
.skip))
(.reg 7 [oM 18 (.t 5),oQ 19 (.aaddr 256 1 (.t 2) (.t 18)),oN (.store 1 (.t 19) (cB true))] [0,2,4]))))
(.reg 3 [oM 10 (.t 4),oQ 11 (.bin .add (.t 10) (cI 1)),oM 4 (.t 11)] [0,2,4]))))))
(.seq
(.reg 8 [oQ 20 (.load (some 256) (.t 2)),oN (.store 256 (.t 2) (.t 20)),oM 3 (cB true)] [2,3])
.ret)))
theorem fok320 : FOK Tryz.prog 320 (21,ic320,[(.cell (some 256) 2),(.t 3)]):=fokA [] Tryz.func320
def ic321 : IC :=
(.seq
(.reg 0 [oM 4 (.c (.str []))] [0,1])
(.seq
(.block 0
(.loop
(.seq
(.seq
(.reg 1 [oM 5 (.t 0),oQ 6 (.len 1 (.t 5)),oQ 7 (.bin .gtr (.t 6) (cI 0))] [0,1,7])
(.cond (.t 7)
.skip
(.exit 0)))
(.block 1
(.seq
(.seq
(.reg 2 [oM 8 (.t 1),oM 9 (.t 0),oQ 10 (.istr (.t 9) (cI 0)),oK 11 (.call 323 [(.t 8),(.t 10)]),oQ 12 (.not (.t 11))] [0,1,12])
(.cond (.t 12)
(.exit 0)
.skip))
(.reg 3 [oM 13 (.t 0),oQ 14 (.sstr (.t 13) (some (cI 1)) none),oM 0 (.t 14)] [0,1]))))))
(.seq
(.reg 4 [oM 15 (.t 0),oM 4 (.t 15)] [4])
.ret)))
theorem fok321 : FOK Tryz.prog 321 (16,ic321,[(.t 4)]):=fokA [] Tryz.func321
def ic322 : IC :=
(.seq
(.reg 0 [oM 4 (.c (.str []))] [0,1])
(.seq
(.block 0
(.loop
(.seq
(.seq
(.reg 1 [oM 7 (.t 0),oQ 8 (.len 1 (.t 7)),oQ 9 (.bin .gtr (.t 8) (cI 0))] [0,1,9])
(.cond (.t 9)
.skip
(.exit 0)))
(.block 1
(.seq
(.reg 2 [oM 11 (.t 0),oK 12 (.call 324 [(.t 11)]),oM 10 (.t 12),oQ 13 (.ext 0 (.t 10)),oQ 14 (.ext 1 (.t 10)),oM 5 (.t 13),oM 6 (.t 14)] [0,1,5,6])
(.seq
(.seq
(.reg 3 [oM 15 (.t 1),oM 16 (.t 5),oK 17 (.call 325 [(.t 15),(.t 16)]),oQ 18 (.not (.t 17))] [0,1,6,18])
(.cond (.t 18)
(.exit 0)
.skip))
(.reg 4 [oM 19 (.t 0),oM 20 (.t 6),oQ 21 (.sstr (.t 19) (some (.t 20)) none),oM 0 (.t 21)] [0,1])))))))
(.seq
(.reg 5 [oM 22 (.t 0),oM 4 (.t 22)] [4])
.ret)))
theorem fok322 : FOK Tryz.prog 322 (23,ic322,[(.t 4)]):=fokA [] Tryz.func322
def ic323 : IC :=
(.seq
(.reg 0 [oM 4 (cB false)] [0,1])
(.seq
(.reg 1 [oM 5 (.t 0),oM 6 (.t 1),oQ 7 (.nchk (.t 5)),oQ 8 (.aaddr 256 1 (.t 7) (.t 6)),oQ 9 (.load none (.t 8)),oM 4 (.t 9)] [4])
.ret))
theorem fok323 : FOK Tryz.prog 323 (10,ic323,[(.t 4)]):=fokA [] Tryz.func323
def ic324 : IC :=
(.seq
(.reg 0 [oM 2 (.c (.int .i32 0)),oM 3 (cI 0)] [0])
(.seq
(.seq
(.reg 1 [oM 4 (.t 0),oQ 5 (.bin .neq (.t 4) (.c (.str []))),oM 6 (.t 5),gQ 7 6 true (.mov (.t 0)),gQ 8 6 true (.istr (.t 7) (cI 0)),gQ 9 6 true (.bin .lss (.t 8) (.c (zU 128))),oQ 10 (.pick (.t 6) (.t 9) (cB false))] [0,10])
(.cond (.t 10)
(.seq
(.reg 2 [oM 11 (.t 0),oQ 12 (.istr (.t 11) (cI 0)),oQ 13 (.conv .i32 (.t 12)),oM 2 (.t 13),oM 3 (cI 1)] [2,3])
.ret)
(.reg 3 [oM 15 (.t 0),oK 16 (.call 326 [(.t 15)]),oM 14 (.t 16),oQ 17 (.ext 0 (.t 14)),oQ 18 (.ext 1 (.t 14)),oM 2 (.t 17),oM 3 (.t 18)] [2,3])))
.ret))
theorem fok324 : FOK Tryz.prog 324 (19,ic324,[(.t 2),(.t 3)]):=fokA [] Tryz.func324
def ic325 : IC :=
(.seq
(.reg 0 [oM 4 (cB false)] [0,1])
(.seq
(.reg 1 [oM 5 (.t 0),oM 6 (.t 1),oK 7 (.call 327 [(.t 5),(.t 6)]),oQ 8 (.bin .geq (.t 7) (cI 0)),oM 4 (.t 8)] [4])
.ret))
theorem fok325 : FOK Tryz.prog 325 (9,ic325,[(.t 4)]):=fokA [] Tryz.func325
def ic326 : IC :=
(.seq
(.reg 0 [oM 2 (.c (.int .i32 0)),oM 3 (cI 0)] [0])
(.seq
(.reg 1 [oM 13 (.t 0),oQ 14 (.len 1 (.t 13)),oM 4 (.t 14)] [0,4])
(.seq
(.seq
(.reg 2 [oM 15 (.t 4),oQ 16 (.bin .lss (.t 15) (cI 1))] [0,4,16])
(.cond (.t 16)
(.seq
(.reg 3 [oM 2 (.c (.int .i32 65533)),oM 3 (cI 0)] [2,3])
.ret)
.skip))
(.seq
(.reg 4 [oM 17 (.t 0),oQ 18 (.istr (.t 17) (cI 0)),oM 5 (.t 18)] [0,4,5])
(.seq
(.reg 5 [oM 19 (.t 5),oQ 20 (.aaddr 256 1 (.g 4) (.t 19)),oQ 21 (.load none (.t 20)),oM 6 (.t 21)] [0,4,5,6])
(.seq
(.seq
(.reg 6 [oM 22 (.t 6),oQ 23 (.bin .geq (.t 22) (.c (zU 240)))] [0,4,5,6,23])
(.cond (.t 23)
(.seq
(.reg 7 [oM 24 (.t 6),oQ 25 (.conv .i32 (.t 24)),oQ 26 (.bin .shl (.t 25) (.c (.int .u64 31))),oQ 27 (.bin .shr (.t 26) (.c (.int .u64 31))),oM 7 (.t 27)] [0,7])
(.seq
(.reg 8 [oM 28 (.t 0),oQ 29 (.istr (.t 28) (cI 0)),oQ 30 (.conv .i32 (.t 29)),oM 31 (.t 7),oQ 32 (.bin .andNot (.t 30) (.t 31)),oM 33 (.t 7),oQ 34 (.bin .and (.c (.int .i32 65533)) (.t 33)),oQ 35 (.bin .or (.t 32) (.t 34)),oM 2 (.t 35),oM 3 (cI 1)] [2,3])
.ret))
.skip))
(.seq
(.reg 9 [oM 36 (.t 6),oQ 37 (.bin .and (.t 36) (.c (zU 7))),oQ 38 (.conv .i64 (.t 37)),oM 8 (.t 38)] [0,4,5,6,8])
(.seq
(.reg 10 [oM 39 (.t 6),oQ 40 (.bin .shr (.t 39) (.c (.int .u64 4))),oQ 41 (.aaddr 16 2 (.g 5) (.t 40)),oQ 42 (.load (some 2) (.t 41)),oK 9 (.alloc [(zU 0),(zU 0)]),oN (.store 2 (.t 9) (.t 42))] [0,4,5,8,9])
(.seq
(.seq
(.reg 11 [oM 43 (.t 4),oM 44 (.t 8),oQ 45 (.bin .lss (.t 43) (.t 44))] [0,5,8,9,45])
(.cond (.t 45)
(.seq
(.reg 12 [oM 2 (.c (.int .i32 65533)),oM 3 (cI 1)] [2,3])
.ret)
.skip))
(.seq
(.reg 13 [oM 46 (.t 0),oQ 47 (.istr (.t 46) (cI 1)),oM 10 (.t 47)] [0,5,8,9,10])
(.seq
(.seq
(.reg 14 [oM 48 (.t 10),oQ 49 (.faddr 0 (.t 9)),oQ 50 (.load none (.t 49)),oQ 51 (.bin .lss (.t 48) (.t 50)),oM 52 (.t 51),gQ 53 52 false (.faddr 1 (.t 9)),gQ 54 52 false (.load none (.t 53)),gQ 55 52 false (.mov (.t 10)),gQ 56 52 false (.bin .lss (.t 54) (.t 55)),oQ 57 (.pick (.t 52) (cB true) (.t 56))] [0,5,8,10,57])
(.cond (.t 57)
(.seq
(.reg 15 [oM 2 (.c (.int .i32 65533)),oM 3 (cI 1)] [2,3])
.ret)
.skip))
(.seq
(.seq
(.reg 16 [oM 58 (.t 8),oQ 59 (.bin .leq (.t 58) (cI 2))] [0,5,8,10,59])
(.cond (.t 59)
(.seq
(.reg 17 [oM 60 (.t 5),oQ 61 (.bin .and (.t 60) (.c (zU 31))),oQ 62 (.conv .i32 (.t 61)),oQ 63 (.bin .shl (.t 62) (.c (.int .u64 6))),oM 64 (.t 10),oQ 65 (.bin .and (.t 64) (.c (zU 63))),oQ 66 (.conv .i32 (.t 65)),oQ 67 (.bin .or (.t 63) (.t 66)),oM 2 (.t 67),oM 3 (cI 2)] [2,3])
.ret)
.skip))
(.seq
(.reg 18 [oM 68 (.t 0),oQ 69 (.istr (.t 68) (cI 2)),oM 11 (.t 69)] [0,5,8,10,11])
(.seq
(.seq
(.reg 19 [oM 70 (.t 11),oQ 71 (.bin .lss (.t 70) (.c (zU 128))),oM 72 (.t 71),gQ 73 72 false (.mov (.t 11)),gQ 74 72 false (.bin .lss (.c (zU 191)) (.t 73)),oQ 75 (.pick (.t 72) (cB true) (.t 74))] [0,5,8,10,11,75])
(.cond (.t 75)
(.seq
(.reg 20 [oM 2 (.c (.int .i32 65533)),oM 3 (cI 1)] [2,3])
.ret)
.skip))
(.seq
(.seq
(.reg 21 [oM 76 (.t 8),oQ 77 (.bin .leq (.t 76) (cI 3))] [0,5,10,11,77])
(.cond (.t 77)
(.seq
(.reg 22 [oM 78 (.t 5),oQ 79 (.bin .and (.t 78) (.c (zU 15))),oQ 80 (.conv .i32 (.t 79)),oQ 81 (.bin .shl (.t 80) (.c (.int .u64 12))),oM 82 (.t 10),oQ 83 (.bin .and (.t 82) (.c (zU 63))),oQ 84 (.conv .i32 (.t 83)),oQ 85 (.bin .shl (.t 84) (.c (.int .u64 6))),oQ 86 (.bin .or (.t 81) (.t 85)),oM 87 (.t 11),oQ 88 (.bin .and (.t 87) (.c (zU 63))),oQ 89 (.conv .i32 (.t 88)),oQ 90 (.bin .or (.t 86) (.t 89)),oM 2 (.t 90),oM 3 (cI 3)] [2,3])
.ret)
.skip))
(.seq
(.reg 23 [oM 91 (.t 0),oQ 92 (.istr (.t 91) (cI 3)),oM 12 (.t 92)] [5,10,11,12])
(.seq
(.seq
(.reg 24 [oM 93 (.t 12),oQ 94 (.bin .lss (.t 93) (.c (zU 128))),oM 95 (.t 94),gQ 96 95 false (.mov (.t 12)),gQ 97 95 false (.bin .lss (.c (zU 191)) (.t 96)),oQ 98 (.pick (.t 95) (cB true) (.t 97))] [5,10,11,12,98])
(.cond (.t 98)
(.seq
(.reg 25 [oM 2 (.c (.int .i32 65533)),oM 3 (cI 1)] [2,3])
.ret)
.skip))
(.seq
(.reg 26 [oM 99 (.t 5),oQ 100 (.bin .and (.t 99) (.c (zU 7))),oQ 101 (.conv .i32 (.t 100)),oQ 102 (.bin .shl (.t 101) (.c (.int .u64 18))),oM 103 (.t 10),oQ 104 (.bin .and (.t 103) (.c (zU 63))),oQ 105 (.conv .i32 (.t 104)),oQ 106 (.bin .shl (.t 105) (.c (.int .u64 12))),oQ 107 (.bin .or (.t 102) (.t 106)),oM 108 (.t 11),oQ 109 (.bin .and (.t 108) (.c (zU 63))),oQ 110 (.conv .i32 (.t 109)),oQ 111 (.bin .shl (.t 110) (.c (.int .u64 6))),oQ 112 (.bin .or (.t 107) (.t 111)),oM 113 (.t 12),oQ 114 (.bin .and (.t 113) (.c (zU 63))),oQ 115 (.conv .i32 (.t 114)),oQ 116 (.bin .or (.t 112) (.t 115)),oM 2 (.t 116),oM 3 (cI 4)] [2,3])
.ret))))))))))))))))))
theorem fok326 : FOK Tryz.prog 326 (117,ic326,[(.t 2),(.t 3)]):=fokA [] Tryz.func326
def ic327 : IC :=
(.seq
(.reg 0 [oM 4 (cI 0)] [0,1])
(.block 0
(.seq
(.reg 34 [oM 161 (.t 1),oQ 162 (.bin .leq (.c (.int .i32 0)) (.t 161)),oM 163 (.t 162),gQ 164 163 true (.mov (.t 1)),gQ 165 163 true (.bin .lss (.t 164) (.c (.int .i32 128))),oQ 166 (.pick (.t 163) (.t 165) (cB false)),oM 160 (.t 166)] [0,1,160])
(.cond (.t 160)
(.seq
(.reg 35 [oM 167 (.t 0),oM 168 (.t 1),oQ 169 (.conv .u8 (.t 168)),oK 170 (.call 254 [(.t 167),(.t 169)]),oM 4 (.t 170)] [4])
.ret)
(.seq
(.reg 36 [oM 172 (.t 1),oQ 173 (.bin .eql (.t 172) (.c (.int .i32 65533))),oM 171 (.t 173)] [0,1,171])
(.cond (.t 171)
(.seq
(.seq
(.reg 37 [oM 174 (.t 0),oK 175 (.srange (.t 174))] [175])
(.block 9
(.loop
(.seq
(.reg 38 [oK 176 (.snext (.t 175)),oQ 177 (.ext 0 (.t 176))] [175,176,177])
(.seq
(.cond (.t 177)
.skip
(.exit 9))
(.block 10
(.seq
(.reg 39 [oQ 178 (.ext 1 (.t 176)),oQ 179 (.ext 2 (.t 176)),oM 5 (.t 178),oM 6 (.t 179)] [5,6,175])
(.seq
(.reg 40 [oM 180 (.t 6),oQ 181 (.bin .eql (.t 180) (.c (.int .i32 65533)))] [5,175,181])
(.cond (.t 181)
(.seq
(.reg 41 [oM 182 (.t 5),oM 4 (.t 182)] [4])
.ret)
.skip)))))))))
(.seq
(.reg 42 [oM 4 (cI (-1))] [4])
.ret))
(.seq
(.reg 43 [oM 184 (.t 1),oK 185 (.call 328 [(.t 184)]),oQ 186 (.not (.t 185)),oM 183 (.t 186)] [0,1,183])
(.cond (.t 183)
(.seq
(.reg 44 [oM 4 (cI (-1))] [4])
.ret)
(.scope
(.seq
(.reg 1 [oM 17 (.t 1),oK 18 (.st .nev []),oM 7 (.t 18)] [0,7])
(.seq
(.reg 2 [oM 19 (.t 7),oQ 20 (.len 1 (.t 19)),oQ 21 (.bin .sub (.t 20) (cI 1)),oM 8 (.t 21)] [0,7,8])
(.seq
(.reg 3 [oM 22 (.t 8),oM 9 (.t 22)] [0,7,8,9])
(.seq
(.reg 4 [oM 10 (cI 0)] [0,7,8,9])
(.seq
(.block 1
(.loop
(.seq
(.seq
(.reg 5 [oM 23 (.t 9),oM 24 (.t 0),oQ 25 (.len 1 (.t 24)),oQ 26 (.bin .lss (.t 23) (.t 25))] [0,7,8,9,26])
(.cond (.t 26)
.skip
(.exit 1)))
(.block 2
(.scope
(.seq
(.seq
(.dreg 6 [oM 27 (.t 0),oM 28 (.t 9),oQ 29 (.istr (.t 27) (.t 28)),oM 30 (.t 7),oM 31 (.t 8),oQ 32 (.istr (.t 30) (.t 31)),oQ 33 (.bin .neq (.t 29) (.t 32))] false [0,7,8,9,33])
(.cond (.t 33)
(.seq
(.dreg 7 [oM 34 (.t 0),oM 35 (.t 9),oQ 36 (.bin .add (.t 35) (cI 1)),oQ 37 (.sstr (.t 34) (some (.t 36)) none),oM 38 (.t 7),oM 39 (.t 8),oQ 40 (.istr (.t 38) (.t 39)),oK 41 (.call 254 [(.t 37),(.t 40)]),oM 11 (.t 41)] false [0,7,8,9,11])
(.seq
(.seq
(.reg 8 [oM 42 (.t 11),oQ 43 (.bin .lss (.t 42) (cI 0))] [0,7,8,9,11,43])
(.cond (.t 43)
(.seq
(.reg 9 [oM 4 (cI (-1))] [4])
.ret)
.skip))
(.reg 10 [oM 44 (.t 9),oM 45 (.t 11),oQ 46 (.bin .add (.t 45) (cI 1)),oQ 47 (.bin .add (.t 44) (.t 46)),oM 9 (.t 47)] [0,7,8,9])))
.skip))
(.seq
(.seq
(.reg 11 [oM 12 (cI 1)] [0,7,8,9,12])
(.block 3
(.loop
(.seq
(.seq
(.reg 12 [oM 48 (.t 12),oM 49 (.t 7),oQ 50 (.len 1 (.t 49)),oQ 51 (.bin .lss (.t 48) (.t 50))] [0,7,8,9,12,51])
(.cond (.t 51)
.skip
(.exit 3)))
(.seq
(.block 4
(.seq
(.dreg 14 [oM 54 (.t 0),oM 55 (.t 9),oM 56 (.t 12),oQ 57 (.bin .sub (.t 55) (.t 56)),oQ 58 (.istr (.t 54) (.t 57)),oM 59 (.t 7),oM 60 (.t 8),oM 61 (.t 12),oQ 62 (.bin .sub (.t 60) (.t 61)),oQ 63 (.istr (.t 59) (.t 62)),oQ 64 (.bin .neq (.t 58) (.t 63))] false [0,7,8,9,12,64])
(.cond (.t 64)
(.reg 0 [oN (.st .nev [])] [])
.skip)))
(.reg 13 [oM 52 (.t 12),oQ 53 (.bin .add (.t 52) (cI 1)),oM 12 (.t 53)] [0,7,8,9,12]))))))
(.seq
(.seq
(.reg 15 [oM 65 (.t 9),oM 66 (.t 8),oQ 67 (.bin .sub (.t 65) (.t 66)),oM 4 (.t 67)] [4])
.ret)
(.seq
.skip
(.seq
(.reg 16 [oM 68 (.t 10),oQ 69 (.bin .add (.t 68) (cI 1)),oM 10 (.t 69)] [0,7,8,9,10])
(.seq
(.reg 17 [oM 70 (.t 9),oQ 71 (.bin .add (.t 70) (cI 1)),oM 9 (.t 71)] [0,7,8,9,10])
(.seq
(.reg 18 [oM 72 (cB true),gQ 73 72 true (.mov (.t 10)),gQ 74 72 true (.mov (.t 9)),gK 75 72 true (.call 329 [(.t 74)]),gQ 76 72 true (.bin .gtr (.t 73) (.t 75)),oQ 77 (.pick (.t 72) (.t 76) (cB false)),oM 78 (.t 77),gQ 79 78 true (.mov (.t 9)),gQ 80 78 true (.mov (.t 0)),gQ 81 78 true (.len 1 (.t 80)),gQ 82 78 true (.bin .lss (.t 79) (.t 81)),oQ 83 (.pick (.t 78) (.t 82) (cB false)),oM 84 (.t 83),gQ 85 84 false (.mov (cB false)),gQ 86 85 true (.mov (.t 10)),gQ 87 85 true (.mov (.t 9)),gQ 88 85 true (.bin .shr (.t 87) (.c (.int .u64 4))),gQ 89 85 true (.bin .add (cI 4) (.t 88)),gQ 90 85 true (.bin .geq (.t 86) (.t 89)),gQ 91 84 false (.pick (.t 85) (.t 90) (cB false)),gQ 92 84 false (.mov (.t 91)),gQ 93 92 true (.mov (.t 9)),gQ 94 92 true (.mov (.t 0)),gQ 95 92 true (.len 1 (.t 94)),gQ 96 92 true (.bin .lss (.t 93) (.t 95)),gQ 97 84 false (.pick (.t 92) (.t 96) (cB false)),oQ 98 (.pick (.t 84) (cB true) (.t 97))] [0,7,8,9,98])
(.cond (.t 98)
(.reg 0 [oN (.st .nev [])] [])
.skip)))))))))))))
(.seq
(.seq
(.reg 19 [oM 4 (cI (-1))] [4])
.ret)
(.seq
.skip
(.seq
(.cond (cB true)
(.seq
(.reg 20 [oM 99 (.t 0),oM 100 (.t 9),oM 101 (.t 8),oQ 102 (.bin .sub (.t 100) (.t 101)),oQ 103 (.sstr (.t 99) (some (.t 102)) none),oM 104 (.t 1),oK 105 (.st .nev []),oK 106 (.st .nev []),oM 13 (.t 106)] [8,9,13])
(.seq
(.reg 21 [oM 107 (.t 13),oQ 108 (.bin .geq (.t 107) (cI 0))] [8,9,13,108])
(.cond (.t 108)
(.seq
(.reg 22 [oM 109 (.t 9),oM 110 (.t 13),oQ 111 (.bin .add (.t 109) (.t 110)),oM 112 (.t 8),oQ 113 (.bin .sub (.t 111) (.t 112)),oM 4 (.t 113)] [4])
.ret)
.skip)))
(.scope
(.seq
(.reg 23 [oM 114 (.t 7),oM 115 (.t 8),oQ 116 (.istr (.t 114) (.t 115)),oM 14 (.t 116)] [0,7,8,9,14])
(.seq
(.reg 24 [oM 117 (.t 7),oM 118 (.t 8),oQ 119 (.bin .sub (.t 118) (cI 1)),oQ 120 (.istr (.t 117) (.t 119)),oM 15 (.t 120)] [0,7,8,9,14,15])
(.seq
.skip
(.block 5
(.loop
(.seq
(.seq
(.reg 25 [oM 121 (.t 9),oM 122 (.t 0),oQ 123 (.len 1 (.t 122)),oQ 124 (.bin .lss (.t 121) (.t 123))] [0,7,8,9,14,15,124])
(.cond (.t 124)
.skip
(.exit 5)))
(.seq
(.block 6
(.seq
(.reg 27 [oM 127 (.t 0),oM 128 (.t 9),oQ 129 (.istr (.t 127) (.t 128)),oM 130 (.t 14),oQ 131 (.bin .eql (.t 129) (.t 130)),oM 132 (.t 131),gQ 133 132 true (.mov (.t 0)),gQ 134 132 true (.mov (.t 9)),gQ 135 132 true (.bin .sub (.t 134) (cI 1)),gQ 136 132 true (.istr (.t 133) (.t 135)),gQ 137 132 true (.mov (.t 15)),gQ 138 132 true (.bin .eql (.t 136) (.t 137)),oQ 139 (.pick (.t 132) (.t 138) (cB false))] [0,7,8,9,14,15,139])
(.cond (.t 139)
(.seq
(.seq
(.reg 28 [oM 16 (cI 2)] [0,7,8,9,14,15,16])
(.block 7
(.loop
(.seq
(.seq
(.reg 29 [oM 140 (.t 16),oM 141 (.t 7),oQ 142 (.len 1 (.t 141)),oQ 143 (.bin .lss (.t 140) (.t 142))] [0,7,8,9,14,15,16,143])
(.cond (.t 143)
.skip
(.exit 7)))
(.seq
(.block 8
(.seq
(.dreg 31 [oM 146 (.t 0),oM 147 (.t 9),oM 148 (.t 16),oQ 149 (.bin .sub (.t 147) (.t 148)),oQ 150 (.istr (.t 146) (.t 149)),oM 151 (.t 7),oM 152 (.t 8),oM 153 (.t 16),oQ 154 (.bin .sub (.t 152) (.t 153)),oQ 155 (.istr (.t 151) (.t 154)),oQ 156 (.bin .neq (.t 150) (.t 155))] false [0,7,8,9,14,15,16,156])
(.cond (.t 156)
(.exit 6)
.skip)))
(.reg 30 [oM 144 (.t 16),oQ 145 (.bin .add (.t 144) (cI 1)),oM 16 (.t 145)] [0,7,8,9,14,15,16]))))))
(.seq
(.reg 32 [oM 157 (.t 9),oM 158 (.t 8),oQ 159 (.bin .sub (.t 157) (.t 158)),oM 4 (.t 159)] [4])
.ret))
.skip)))
(.reg 26 [oM 125 (.t 9),oQ 126 (.bin .add (.t 125) (cI 1)),oM 9 (.t 126)] [0,7,8,9,14,15]))))))))))
(.seq
(.reg 33 [oM 4 (cI (-1))] [4])
.ret))))))))))))))))))
theorem fok327 : FOK Tryz.prog 327 (187,ic327,[(.t 4)]):=fokA [] Tryz.func327
def ic328 : IC :=
(.seq
(.reg 0 [oM 2 (cB false)] [0])
(.seq
(.block 0
(.seq
(.reg 1 [oM 4 (.t 0),oQ 5 (.bin .leq (.c (.int .i32 0)) (.t 4)),oM 6 (.t 5),gQ 7 6 true (.mov (.t 0)),gQ 8 6 true (.bin .lss (.t 7) (.c (.int .i32 55296))),oQ 9 (.pick (.t 6) (.t 8) (cB false)),oM 3 (.t 9)] [0,3])
(.cond (.t 3)
(.seq
(.reg 2 [oM 2 (cB true)] [2])
.ret)
(.seq
(.reg 3 [oM 11 (.t 0),oQ 12 (.bin .lss (.c (.int .i32 57343)) (.t 11)),oM 13 (.t 12),gQ 14 13 true (.mov (.t 0)),gQ 15 13 true (.bin .leq (.t 14) (.c (.int .i32 1114111))),oQ 16 (.pick (.t 13) (.t 15) (cB false)),oM 10 (.t 16)] [10])
(.cond (.t 10)
(.seq
(.reg 4 [oM 2 (cB true)] [2])
.ret)
.skip)))))
(.seq
(.reg 5 [oM 2 (cB false)] [2])
.ret)))
theorem fok328 : FOK Tryz.prog 328 (17,ic328,[(.t 2)]):=fokA [] Tryz.func328
def ic329 : IC :=
(.seq
(.reg 0 [oM 2 (cI 0)] [0])
(.seq
(.reg 1 [oM 3 (.t 0),oQ 4 (.bin .add (.t 3) (cI 16)),oQ 5 (.bin .quo (.t 4) (cI 8)),oM 2 (.t 5)] [2])
.ret))
theorem fok329 : FOK Tryz.prog 329 (6,ic329,[(.t 2)]):=fokA [] Tryz.func329
end Go.Id.Tryz
