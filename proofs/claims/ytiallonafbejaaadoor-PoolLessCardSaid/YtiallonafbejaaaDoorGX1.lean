/- The compiled codes of functions,written by a program out of the given form. Conditions: none. -/
import Derived.Test.YtiallonafbejaaaDoorFwYa
import Derived.Test.YtiallonafbejaaaDoorProg
set_option linter.all false
namespace Go.Id.Tryd
open Go Go.Id Go.Proofs
def allF1 : List Nat:=List.range 121
def ic41 : IC :=
(.seq
(.reg 0 [⟨(some 2),none,(.q (.mov (.c (.bool false))))⟩] [0])
(.seq
(.seq
(.reg 1 [⟨(some 7),none,(.q (.mov (.t 0)))⟩,⟨(some 8),none,(.q (.len 1 (.t 7)))⟩,⟨(some 9),none,(.q (.bin .lss (.t 8) (.c (.int .i64 1))))⟩,⟨(some 10),none,(.q (.mov (.t 9)))⟩,⟨(some 11),(some ⟨10,false⟩),(.q (.mov (.t 0)))⟩,⟨(some 12),(some ⟨10,false⟩),(.q (.len 1 (.t 11)))⟩,⟨(some 13),(some ⟨10,false⟩),(.q (.bin .gtr (.t 12) (.c (.int .i64 64))))⟩,⟨(some 14),none,(.q (.pick (.t 10) (.c (.bool true)) (.t 13)))⟩] [0,14])
(.cond (.t 14)
(.seq
(.reg 2 [⟨(some 2),none,(.q (.mov (.c (.bool false))))⟩] [2])
.ret)
.skip))
(.seq
(.seq
(.reg 3 [⟨(some 15),none,(.q (.mov (.t 0)))⟩,⟨(some 16),none,(.srange (.t 15))⟩] [0,16])
(.block 0
(.loop
(.seq
(.reg 4 [⟨(some 17),none,(.snext (.t 16))⟩,⟨(some 18),none,(.q (.ext 0 (.t 17)))⟩] [0,16,17,18])
(.seq
(.cond (.t 18)
.skip
(.exit 0))
(.block 1
(.seq
(.reg 5 [⟨(some 19),none,(.q (.ext 2 (.t 17)))⟩,⟨(some 4),none,(.q (.mov (.t 19)))⟩] [0,4,16])
(.seq
(.reg 6 [⟨(some 20),none,(.q (.mov (.t 4)))⟩,⟨(some 21),none,(.q (.bin .gtr (.t 20) (.c (.int .i32 126))))⟩,⟨(some 22),none,(.q (.mov (.t 21)))⟩,⟨(some 23),(some ⟨22,false⟩),(.q (.mov (.t 4)))⟩,⟨(some 24),(some ⟨22,false⟩),(.q (.conv .u8 (.t 23)))⟩,⟨(some 25),(some ⟨22,false⟩),(.call 55 [(.c (.str [97,98,99,100,101,102,103,104,105,106,107,108,109,110,111,112,113,114,115,116,117,118,119,120,121,122,65,66,67,68,69,70,71,72,73,74,75,76,77,78,79,80,81,82,83,84,85,86,87,88,89,90,48,49,50,51,52,53,54,55,56,57,46,95,43,45,47,58,64,126,94])),(.t 24)])⟩,⟨(some 26),(some ⟨22,false⟩),(.q (.bin .lss (.t 25) (.c (.int .i64 0))))⟩,⟨(some 27),none,(.q (.pick (.t 22) (.c (.bool true)) (.t 26)))⟩] [0,16,27])
(.cond (.t 27)
(.seq
(.reg 7 [⟨(some 2),none,(.q (.mov (.c (.bool false))))⟩] [2])
.ret)
.skip)))))))))
(.seq
(.seq
(.reg 8 [⟨(some 28),none,(.q (.load (some 7) (.g 0)))⟩,⟨(some 29),none,(.q (.mov (.c (.int .i64 0))))⟩] [0,28,29])
(.block 2
(.loop
(.seq
(.reg 9 [⟨(some 30),none,(.q (.bin .lss (.t 29) (.c (.int .i64 7))))⟩] [0,28,29,30])
(.seq
(.cond (.t 30)
.skip
(.exit 2))
(.seq
(.block 3
(.seq
(.reg 10 [⟨(some 31),none,(.q (.idx none 7 1 (.t 28) (.t 29)))⟩,⟨(some 6),none,(.q (.mov (.t 31)))⟩] [0,6,28,29])
(.seq
(.reg 11 [⟨(some 32),none,(.q (.mov (.t 0)))⟩,⟨(some 33),none,(.q (.mov (.t 6)))⟩,⟨(some 34),none,(.q (.bin .eql (.t 32) (.t 33)))⟩] [0,28,29,34])
(.cond (.t 34)
(.seq
(.reg 12 [⟨(some 2),none,(.q (.mov (.c (.bool false))))⟩] [2])
.ret)
.skip))))
(.reg 13 [⟨(some 35),none,(.q (.bin .add (.t 29) (.c (.int .i64 1))))⟩,⟨(some 29),none,(.q (.mov (.t 35)))⟩] [0,28,29])))))))
(.seq
(.reg 14 [⟨(some 2),none,(.q (.mov (.c (.bool true))))⟩] [2])
.ret)))))
theorem fok41 : FOK Tryd.prog 41 (36,ic41,[(.t 2)]):=.mk (pf:=[]) (an:=[(0,[0]),(1,[0,14]),(2,[2]),(3,[0,16]),(4,[0,16,17,18]),(5,[0,4,16]),(6,[0,16,27]),(7,[2]),(8,[0,28,29]),(9,[0,28,29,30]),(10,[0,6,28,29]),(11,[0,28,29,34]),(12,[2]),(13,[0,28,29]),(14,[2])]) (by kernel_rfl) (fnOK_of Tryd.func41 (by kernel_rfl) (by kernel_rfl) (by kernel_rfl))
def ic42 : IC :=
(.seq
(.reg 0 [⟨(some 2),none,(.q (.mov (.c (.bool false))))⟩] [0])
(.seq
(.reg 1 [⟨(some 3),none,(.q (.mov (.t 0)))⟩,⟨(some 4),none,(.call 41 [(.t 3)])⟩,⟨(some 5),none,(.q (.mov (.t 4)))⟩,⟨(some 6),(some ⟨5,true⟩),(.q (.mov (.t 0)))⟩,⟨(some 7),(some ⟨5,true⟩),(.call 56 [(.t 6),(.c (.str [47]))])⟩,⟨(some 8),none,(.q (.pick (.t 5) (.t 7) (.c (.bool false))))⟩,⟨(some 2),none,(.q (.mov (.t 8)))⟩] [2])
.ret))
theorem fok42 : FOK Tryd.prog 42 (9,ic42,[(.t 2)]):=.mk (pf:=[]) (an:=[(0,[0]),(1,[2])]) (by kernel_rfl) (fnOK_of Tryd.func42 (by kernel_rfl) (by kernel_rfl) (by kernel_rfl))
def ic43 : IC :=
(.seq
(.reg 0 [⟨(some 2),none,(.boxt (.t 0))⟩,⟨(some 4),none,(.q (.mov (.c (.bool false))))⟩] [1,2])
(.seq
(.reg 1 [⟨(some 5),none,(.q (.faddr 0 (.t 2)))⟩,⟨(some 6),none,(.q (.load none (.t 5)))⟩,⟨(some 7),none,(.q (.bin .geq (.t 6) (.c (.int .i64 0))))⟩,⟨(some 8),none,(.q (.mov (.t 7)))⟩,⟨(some 9),(some ⟨8,true⟩),(.q (.faddr 0 (.t 2)))⟩,⟨(some 10),(some ⟨8,true⟩),(.q (.load none (.t 9)))⟩,⟨(some 11),(some ⟨8,true⟩),(.q (.bin .leq (.t 10) (.c (.int .i64 2147483647))))⟩,⟨(some 12),none,(.q (.pick (.t 8) (.t 11) (.c (.bool false))))⟩,⟨(some 13),none,(.q (.mov (.t 12)))⟩,⟨(some 14),(some ⟨13,true⟩),(.q (.faddr 1 (.t 2)))⟩,⟨(some 15),(some ⟨13,true⟩),(.q (.load none (.t 14)))⟩,⟨(some 16),(some ⟨13,true⟩),(.call 57 [(.t 15)])⟩,⟨(some 17),none,(.q (.pick (.t 13) (.t 16) (.c (.bool false))))⟩,⟨(some 18),none,(.q (.mov (.t 17)))⟩,⟨(some 19),(some ⟨18,true⟩),(.q (.faddr 2 (.t 2)))⟩,⟨(some 20),(some ⟨18,true⟩),(.q (.load none (.t 19)))⟩,⟨(some 21),(some ⟨18,true⟩),(.call 57 [(.t 20)])⟩,⟨(some 22),(some ⟨18,true⟩),(.q (.mov (.t 21)))⟩,⟨(some 23),(some ⟨22,false⟩),(.q (.mov (.t 1)))⟩,⟨(some 24),(some ⟨22,false⟩),(.q (.mov (.t 23)))⟩,⟨(some 25),(some ⟨24,true⟩),(.q (.faddr 2 (.t 2)))⟩,⟨(some 26),(some ⟨24,true⟩),(.q (.load none (.t 25)))⟩,⟨(some 27),(some ⟨24,true⟩),(.q (.bin .eql (.t 26) (.c (.str []))))⟩,⟨(some 28),(some ⟨22,false⟩),(.q (.pick (.t 24) (.t 27) (.c (.bool false))))⟩,⟨(some 29),(some ⟨18,true⟩),(.q (.pick (.t 22) (.c (.bool true)) (.t 28)))⟩,⟨(some 30),none,(.q (.pick (.t 18) (.t 29) (.c (.bool false))))⟩,⟨(some 4),none,(.q (.mov (.t 30)))⟩] [4])
.ret))
theorem fok43 : FOK Tryd.prog 43 (31,ic43,[(.t 4)]):=.mk (pf:=[1000002]) (an:=[(0,[1,2]),(1,[4])]) (by kernel_rfl) (fnOK_of Tryd.func43 (by kernel_rfl) (by kernel_rfl) (by kernel_rfl))
def ic44 : IC :=
(.seq
(.reg 0 [⟨(some 2),none,(.q (.mov (.c (.str []))))⟩] [0])
(.seq
(.seq
(.reg 1 [⟨(some 3),none,(.q (.mov (.t 0)))⟩,⟨(some 4),none,(.call 58 [(.t 3)])⟩,⟨(some 5),none,(.q (.not (.t 4)))⟩] [0,5])
(.cond (.t 5)
(.seq
(.reg 2 [⟨(some 2),none,(.q (.mov (.c (.str []))))⟩] [2])
.ret)
.skip))
(.seq
(.reg 3 [⟨(some 6),none,(.call 59 [])⟩,⟨(some 7),none,(.q (.mov (.t 0)))⟩,⟨(some 8),none,(.q (.idx none 5 1 (.t 6) (.t 7)))⟩,⟨(some 2),none,(.q (.mov (.t 8)))⟩] [2])
.ret)))
theorem fok44 : FOK Tryd.prog 44 (9,ic44,[(.t 2)]):=.mk (pf:=[]) (an:=[(0,[0]),(1,[0,5]),(2,[2]),(3,[2])]) (by kernel_rfl) (fnOK_of Tryd.func44 (by kernel_rfl) (by kernel_rfl) (by kernel_rfl))
def ic45 : IC :=
(.seq
(.reg 0 [⟨(some 5),none,(.boxt (.t 2))⟩,⟨(some 6),none,(.q (.mov (.c (.bool false))))⟩] [0,1,5])
(.seq
(.reg 1 [⟨(some 7),none,(.q (.mov (.t 0)))⟩,⟨(some 8),none,(.q (.len 0 (.t 7)))⟩,⟨(some 9),none,(.q (.mov (.t 1)))⟩,⟨(some 10),none,(.q (.bin .leq (.t 8) (.t 9)))⟩,⟨(some 11),none,(.q (.mov (.t 10)))⟩,⟨(some 12),(some ⟨11,true⟩),(.q (.mov (.t 0)))⟩,⟨(some 13),(some ⟨11,true⟩),(.q (.mkf 61 [] [(.t 5)]))⟩,⟨(some 14),(some ⟨11,true⟩),(.call 60 [(.t 12),(.t 13)])⟩,⟨(some 15),(some ⟨11,true⟩),(.q (.not (.t 14)))⟩,⟨(some 16),none,(.q (.pick (.t 11) (.t 15) (.c (.bool false))))⟩,⟨(some 6),none,(.q (.mov (.t 16)))⟩] [6])
.ret))
theorem fok45 : FOK Tryd.prog 45 (17,ic45,[(.t 6)]):=.mk (pf:=[1000005]) (an:=[(0,[0,1,5]),(1,[6])]) (by kernel_rfl) (fnOK_of Tryd.func45 (by kernel_rfl) (by kernel_rfl) (by kernel_rfl))
def ic46 : IC :=
(.seq
(.reg 0 [⟨(some 1),none,(.boxt (.t 0))⟩,⟨(some 2),none,(.q (.mov (.c (.bool false))))⟩] [1])
(.seq
(.block 0
(.seq
(.reg 1 [⟨(some 4),none,(.q (.faddr 0 (.t 1)))⟩,⟨(some 5),none,(.q (.load none (.t 4)))⟩,⟨(some 6),none,(.call 41 [(.t 5)])⟩,⟨(some 7),none,(.q (.not (.t 6)))⟩,⟨(some 8),none,(.q (.mov (.t 7)))⟩,⟨(some 9),(some ⟨8,false⟩),(.q (.faddr 1 (.t 1)))⟩,⟨(some 10),(some ⟨8,false⟩),(.q (.load none (.t 9)))⟩,⟨(some 11),(some ⟨8,false⟩),(.call 62 [(.t 10)])⟩,⟨(some 12),(some ⟨8,false⟩),(.q (.not (.t 11)))⟩,⟨(some 13),none,(.q (.pick (.t 8) (.c (.bool true)) (.t 12)))⟩,⟨(some 3),none,(.q (.mov (.t 13)))⟩] [1,3])
(.cond (.t 3)
(.seq
(.reg 2 [⟨(some 2),none,(.q (.mov (.c (.bool false))))⟩] [2])
.ret)
(.seq
(.reg 3 [⟨(some 15),none,(.q (.faddr 1 (.t 1)))⟩,⟨(some 16),none,(.q (.load none (.t 15)))⟩,⟨(some 17),none,(.q (.bin .eql (.t 16) (.c (.int .u8 0))))⟩,⟨(some 14),none,(.q (.mov (.t 17)))⟩] [1,14])
(.cond (.t 14)
(.seq
(.reg 4 [⟨(some 18),none,(.q (.faddr 2 (.t 1)))⟩,⟨(some 19),none,(.q (.load (some 3) (.t 18)))⟩,⟨(some 20),none,(.q (.bld [(.int .i64 0),(.str []),(.str [])] []))⟩,⟨(some 21),none,(.q (.eqs [1,2,2] true false (.t 19) (.t 20)))⟩,⟨(some 2),none,(.q (.mov (.t 21)))⟩] [2])
.ret)
.skip)))))
(.seq
(.reg 5 [⟨(some 22),none,(.q (.faddr 0 (.t 1)))⟩,⟨(some 23),none,(.q (.load none (.t 22)))⟩,⟨(some 24),none,(.call 42 [(.t 23)])⟩,⟨(some 25),none,(.q (.not (.t 24)))⟩,⟨(some 26),none,(.q (.mov (.t 25)))⟩,⟨(some 27),(some ⟨26,true⟩),(.q (.faddr 2 (.t 1)))⟩,⟨(some 28),(some ⟨26,true⟩),(.q (.load (some 3) (.t 27)))⟩,⟨(some 29),(some ⟨26,true⟩),(.call 43 [(.t 28),(.c (.bool true))])⟩,⟨(some 30),none,(.q (.pick (.t 26) (.t 29) (.c (.bool false))))⟩,⟨(some 2),none,(.q (.mov (.t 30)))⟩] [2])
.ret)))
theorem fok46 : FOK Tryd.prog 46 (31,ic46,[(.t 2)]):=.mk (pf:=[1000001]) (an:=[(0,[1]),(1,[1,3]),(2,[2]),(3,[1,14]),(4,[2]),(5,[2])]) (by kernel_rfl) (fnOK_of Tryd.func46 (by kernel_rfl) (by kernel_rfl) (by kernel_rfl))
def ic47 : IC :=
(.seq
(.reg 0 [⟨(some 5),none,(.boxt (.t 2))⟩,⟨(some 6),none,(.q (.mov (.c (.bool false))))⟩] [0,1,5])
(.seq
(.reg 1 [⟨(some 7),none,(.q (.mov (.t 0)))⟩,⟨(some 8),none,(.q (.len 0 (.t 7)))⟩,⟨(some 9),none,(.q (.mov (.t 1)))⟩,⟨(some 10),none,(.q (.bin .leq (.t 8) (.t 9)))⟩,⟨(some 11),none,(.q (.mov (.t 10)))⟩,⟨(some 12),(some ⟨11,true⟩),(.q (.mov (.t 0)))⟩,⟨(some 13),(some ⟨11,true⟩),(.q (.mkf 64 [] [(.t 5)]))⟩,⟨(some 14),(some ⟨11,true⟩),(.call 63 [(.t 12),(.t 13)])⟩,⟨(some 15),(some ⟨11,true⟩),(.q (.not (.t 14)))⟩,⟨(some 16),none,(.q (.pick (.t 11) (.t 15) (.c (.bool false))))⟩,⟨(some 6),none,(.q (.mov (.t 16)))⟩] [6])
.ret))
theorem fok47 : FOK Tryd.prog 47 (17,ic47,[(.t 6)]):=.mk (pf:=[1000005]) (an:=[(0,[0,1,5]),(1,[6])]) (by kernel_rfl) (fnOK_of Tryd.func47 (by kernel_rfl) (by kernel_rfl) (by kernel_rfl))
def ic48 : IC :=
(.seq
(.reg 0 [⟨(some 1),none,(.boxt (.t 0))⟩,⟨(some 2),none,(.q (.mov (.c .nilfunc)))⟩] [1])
(.seq
(.reg 1 [⟨(some 3),none,(.q (.mkf 65 [] [(.t 1)]))⟩,⟨(some 2),none,(.q (.mov (.t 3)))⟩] [2])
.ret))
theorem fok48 : FOK Tryd.prog 48 (4,ic48,[(.t 2)]):=.mk (pf:=[1000001]) (an:=[(0,[1]),(1,[2])]) (by kernel_rfl) (fnOK_of Tryd.func48 (by kernel_rfl) (by kernel_rfl) (by kernel_rfl))
def ic49 : IC :=
(.seq
(.reg 0 [⟨(some 5),none,(.boxt (.t 2))⟩,⟨(some 6),none,(.q (.mov (.c (.bool false))))⟩] [0,1,5])
(.seq
(.reg 1 [⟨(some 7),none,(.q (.mov (.t 0)))⟩,⟨(some 8),none,(.q (.len 0 (.t 7)))⟩,⟨(some 9),none,(.q (.mov (.t 1)))⟩,⟨(some 10),none,(.q (.bin .leq (.t 8) (.t 9)))⟩,⟨(some 11),none,(.q (.mov (.t 10)))⟩,⟨(some 12),(some ⟨11,true⟩),(.q (.mov (.t 0)))⟩,⟨(some 13),(some ⟨11,true⟩),(.q (.mkf 67 [] [(.t 5)]))⟩,⟨(some 14),(some ⟨11,true⟩),(.call 66 [(.t 12),(.t 13)])⟩,⟨(some 15),(some ⟨11,true⟩),(.q (.not (.t 14)))⟩,⟨(some 16),none,(.q (.pick (.t 11) (.t 15) (.c (.bool false))))⟩,⟨(some 6),none,(.q (.mov (.t 16)))⟩] [6])
.ret))
theorem fok49 : FOK Tryd.prog 49 (17,ic49,[(.t 6)]):=.mk (pf:=[1000005]) (an:=[(0,[0,1,5]),(1,[6])]) (by kernel_rfl) (fnOK_of Tryd.func49 (by kernel_rfl) (by kernel_rfl) (by kernel_rfl))
def ic50 : IC :=
(.seq
(.reg 0 [⟨(some 2),none,(.boxt (.t 0))⟩,⟨(some 3),none,(.q (.mov (.c (.bool false))))⟩] [1,2])
(.seq
(.reg 1 [⟨(some 4),none,(.q (.load (some 7) (.t 2)))⟩,⟨(some 5),none,(.q (.load none (.t 1)))⟩,⟨(some 6),none,(.call 51 [(.t 4),(.t 5)])⟩,⟨(some 7),none,(.q (.bin .eql (.t 6) (.c (.int .i64 0))))⟩,⟨(some 3),none,(.q (.mov (.t 7)))⟩] [3])
.ret))
theorem fok50 : FOK Tryd.prog 50 (8,ic50,[(.t 3)]):=.mk (pf:=[1000002]) (an:=[(0,[1,2]),(1,[3])]) (by kernel_rfl) (fnOK_of Tryd.func50 (by kernel_rfl) (by kernel_rfl) (by kernel_rfl))
def ic51 : IC :=
(.seq
(.reg 0 [⟨(some 2),none,(.boxt (.t 0))⟩,⟨(some 3),none,(.boxt (.t 1))⟩,⟨(some 4),none,(.alloc [(.int .i64 0)])⟩] [2,3,4])
(.seq
(.block 0
(.seq
(.reg 1 [⟨(some 9),none,(.q (.load none (.t 3)))⟩,⟨(some 10),none,(.q (.bin .lss (.t 9) (.c (.int .u8 1))))⟩,⟨(some 11),none,(.q (.mov (.t 10)))⟩,⟨(some 12),(some ⟨11,false⟩),(.q (.load none (.t 3)))⟩,⟨(some 13),(some ⟨11,false⟩),(.q (.bin .gtr (.t 12) (.c (.int .u8 3))))⟩,⟨(some 14),none,(.q (.pick (.t 11) (.c (.bool true)) (.t 13)))⟩,⟨(some 8),none,(.q (.mov (.t 14)))⟩] [2,3,4,8])
(.cond (.t 8)
(.seq
(.reg 2 [⟨none,none,(.store 1 (.t 4) (.c (.int .i64 1)))⟩] [4])
.ret)
(.seq
(.reg 3 [⟨(some 16),none,(.q (.load (some 7) (.t 2)))⟩,⟨(some 17),none,(.call 68 [(.t 16)])⟩,⟨(some 18),none,(.q (.bin .gtr (.t 17) (.c (.int .i64 24))))⟩,⟨(some 15),none,(.q (.mov (.t 18)))⟩] [2,3,4,15])
(.cond (.t 15)
(.seq
(.reg 4 [⟨none,none,(.store 1 (.t 4) (.c (.int .i64 40)))⟩] [4])
.ret)
(.seq
(.reg 5 [⟨(some 20),none,(.q (.load (some 7) (.t 2)))⟩,⟨(some 21),none,(.call 69 [(.t 20)])⟩,⟨(some 22),none,(.q (.bin .gtr (.t 21) (.c (.int .i64 8))))⟩,⟨(some 19),none,(.q (.mov (.t 22)))⟩] [2,3,4,19])
(.cond (.t 19)
(.seq
(.reg 6 [⟨none,none,(.store 1 (.t 4) (.c (.int .i64 21)))⟩] [4])
.ret)
.skip)))))))
(.seq
(.seq
(.reg 7 [⟨(some 23),none,(.q (.load (some 7) (.t 2)))⟩,⟨(some 24),none,(.call 70 [(.t 23)])⟩] [3,4,24])
(.block 1
(.rfunc (.t 24) [25,26]
(.seq
(.reg 8 [⟨(some 5),none,(.alloc [(.int .u8 0),(.str []),(.int .u8 0),(.int .i64 0),(.str []),(.str []),.nilslice])⟩,⟨none,none,(.store 7 (.t 5) (.t 25))⟩] [3,4,5,26])
(.reg 9 [⟨(some 6),none,(.q (.mov (.t 26)))⟩] [3,4,5,6]))
(.block 2
(.seq
(.reg 10 [⟨(some 27),none,(.q (.faddr 0 (.t 5)))⟩,⟨(some 28),none,(.q (.load none (.t 27)))⟩,⟨(some 29),none,(.call 71 [(.t 28)])⟩,⟨(some 7),none,(.alloc [(.int .i64 0),(.int .i64 0),(.bool false),(.int .u8 0)])⟩,⟨none,none,(.store 4 (.t 7) (.t 29))⟩] [3,4,5,6,7])
(.block 3
(.seq
(.seq
(.reg 11 [⟨(some 31),none,(.q (.faddr 3 (.t 7)))⟩,⟨(some 32),none,(.q (.load none (.t 31)))⟩,⟨(some 33),none,(.q (.load none (.t 3)))⟩,⟨(some 34),none,(.q (.bin .lss (.t 32) (.t 33)))⟩,⟨(some 30),none,(.q (.mov (.t 34)))⟩] [4,5,6,7,30])
(.cond (.t 30)
.skip
(.seq
(.reg 12 [⟨(some 35),none,(.q (.mov (.t 6)))⟩,⟨(some 36),none,(.q (.mov (.t 35)))⟩,⟨(some 37),(some ⟨36,true⟩),(.q (.faddr 2 (.t 7)))⟩,⟨(some 38),(some ⟨36,true⟩),(.q (.load none (.t 37)))⟩,⟨(some 39),(some ⟨36,true⟩),(.q (.not (.t 38)))⟩,⟨(some 40),none,(.q (.pick (.t 36) (.t 39) (.c (.bool false))))⟩,⟨(some 30),none,(.q (.mov (.t 40)))⟩] [4,5,7,30])
(.cond (.t 30)
.skip
(.seq
(.reg 13 [⟨(some 41),none,(.q (.faddr 6 (.t 5)))⟩,⟨(some 42),none,(.q (.load none (.t 41)))⟩,⟨(some 43),none,(.q (.len 0 (.t 42)))⟩,⟨(some 44),none,(.q (.faddr 0 (.t 7)))⟩,⟨(some 45),none,(.q (.load none (.t 44)))⟩,⟨(some 46),none,(.q (.bin .lss (.t 43) (.t 45)))⟩,⟨(some 30),none,(.q (.mov (.t 46)))⟩] [4,5,7,30])
(.cond (.t 30)
.skip
(.reg 14 [⟨(some 47),none,(.q (.faddr 6 (.t 5)))⟩,⟨(some 48),none,(.q (.load none (.t 47)))⟩,⟨(some 49),none,(.q (.len 0 (.t 48)))⟩,⟨(some 50),none,(.q (.faddr 1 (.t 7)))⟩,⟨(some 51),none,(.q (.load none (.t 50)))⟩,⟨(some 52),none,(.q (.bin .gtr (.t 49) (.t 51)))⟩,⟨(some 30),none,(.q (.mov (.t 52)))⟩] [4,5,30])))))))
(.cond (.t 30)
(.seq
(.reg 15 [⟨none,none,(.store 1 (.t 4) (.c (.int .i64 4)))⟩] [])
.ret)
(.seq
(.seq
(.reg 16 [⟨(some 54),none,(.q (.faddr 0 (.t 5)))⟩,⟨(some 55),none,(.q (.load none (.t 54)))⟩,⟨(some 56),none,(.q (.bin .eql (.t 55) (.c (.int .u8 1))))⟩,⟨(some 57),none,(.q (.mov (.t 56)))⟩,⟨(some 58),(some ⟨57,true⟩),(.q (.faddr 1 (.t 5)))⟩,⟨(some 59),(some ⟨57,true⟩),(.q (.load (some 5) (.t 58)))⟩,⟨(some 60),(some ⟨57,true⟩),(.call 46 [(.t 59)])⟩,⟨(some 61),(some ⟨57,true⟩),(.q (.not (.t 60)))⟩,⟨(some 62),none,(.q (.pick (.t 57) (.t 61) (.c (.bool false))))⟩,⟨(some 53),none,(.q (.mov (.t 62)))⟩] [4,5,53])
(.cond (.t 53)
.skip
(.reg 17 [⟨(some 63),none,(.q (.faddr 0 (.t 5)))⟩,⟨(some 64),none,(.q (.load none (.t 63)))⟩,⟨(some 65),none,(.q (.bin .neq (.t 64) (.c (.int .u8 1))))⟩,⟨(some 66),none,(.q (.mov (.t 65)))⟩,⟨(some 67),(some ⟨66,true⟩),(.q (.faddr 1 (.t 5)))⟩,⟨(some 68),(some ⟨66,true⟩),(.q (.load (some 5) (.t 67)))⟩,⟨(some 69),(some ⟨66,true⟩),(.q (.bld [(.str []),(.int .u8 0),(.int .i64 0),(.str []),(.str [])] []))⟩,⟨(some 70),(some ⟨66,true⟩),(.q (.eqs [2,1,1,2,2] true true (.t 68) (.t 69)))⟩,⟨(some 71),none,(.q (.pick (.t 66) (.t 70) (.c (.bool false))))⟩,⟨(some 53),none,(.q (.mov (.t 71)))⟩] [4,53])))
(.cond (.t 53)
(.seq
(.reg 18 [⟨none,none,(.store 1 (.t 4) (.c (.int .i64 4)))⟩] [])
.ret)
.skip))))))))))
(.seq
(.reg 19 [⟨none,none,(.store 1 (.t 4) (.c (.int .i64 0)))⟩] [4])
.ret))))
theorem fok51 : FOK Tryd.prog 51 (72,ic51,[(.cell none 4)]):=.mk (pf:=[1000002,1000003]) (an:=[(0,[2,3,4]),(1,[2,3,4,8]),(2,[4]),(3,[2,3,4,15]),(4,[4]),(5,[2,3,4,19]),(6,[4]),(7,[3,4,24]),(8,[3,4,5,26]),(9,[3,4,5,6]),(10,[3,4,5,6,7]),(11,[4,5,6,7,30]),(12,[4,5,7,30]),(13,[4,5,7,30]),(14,[4,5,30]),(16,[4,5,53]),(17,[4,53]),(19,[4])]) (by kernel_rfl) (fnOK_of Tryd.func51 (by kernel_rfl) (by kernel_rfl) (by kernel_rfl))
def ic55 : IC :=
(.seq
(.reg 0 [⟨(some 4),none,(.q (.mov (.c (.int .i64 0))))⟩] [0,1])
(.seq
(.reg 1 [⟨(some 5),none,(.q (.mov (.t 0)))⟩,⟨(some 6),none,(.q (.mov (.t 1)))⟩,⟨(some 7),none,(.call 83 [(.t 5),(.t 6)])⟩,⟨(some 4),none,(.q (.mov (.t 7)))⟩] [4])
.ret))
theorem fok55 : FOK Tryd.prog 55 (8,ic55,[(.t 4)]):=.mk (pf:=[]) (an:=[(0,[0,1]),(1,[4])]) (by kernel_rfl) (fnOK_of Tryd.func55 (by kernel_rfl) (by kernel_rfl) (by kernel_rfl))
def ic56 : IC :=
(.seq
(.reg 0 [⟨(some 4),none,(.q (.mov (.c (.bool false))))⟩] [0,1])
(.seq
(.reg 1 [⟨(some 5),none,(.q (.mov (.t 0)))⟩,⟨(some 6),none,(.q (.mov (.t 1)))⟩,⟨(some 7),none,(.call 84 [(.t 5),(.t 6)])⟩,⟨(some 4),none,(.q (.mov (.t 7)))⟩] [4])
.ret))
theorem fok56 : FOK Tryd.prog 56 (8,ic56,[(.t 4)]):=.mk (pf:=[]) (an:=[(0,[0,1]),(1,[4])]) (by kernel_rfl) (fnOK_of Tryd.func56 (by kernel_rfl) (by kernel_rfl) (by kernel_rfl))
def ic57 : IC :=
(.seq
(.reg 0 [⟨(some 2),none,(.q (.mov (.c (.bool false))))⟩] [0])
(.seq
(.seq
(.reg 1 [⟨(some 5),none,(.q (.mov (.t 0)))⟩,⟨(some 6),none,(.q (.bin .eql (.t 5) (.c (.str []))))⟩,⟨(some 7),none,(.q (.mov (.t 6)))⟩,⟨(some 8),(some ⟨7,false⟩),(.q (.mov (.t 0)))⟩,⟨(some 9),(some ⟨7,false⟩),(.q (.len 1 (.t 8)))⟩,⟨(some 10),(some ⟨7,false⟩),(.q (.bin .gtr (.t 9) (.c (.int .i64 64))))⟩,⟨(some 11),none,(.q (.pick (.t 7) (.c (.bool true)) (.t 10)))⟩] [0,11])
(.cond (.t 11)
(.seq
(.reg 2 [⟨(some 2),none,(.q (.mov (.c (.bool false))))⟩] [2])
.ret)
.skip))
(.seq
(.seq
(.reg 3 [⟨(some 12),none,(.q (.mov (.t 0)))⟩,⟨(some 13),none,(.q (.len 1 (.t 12)))⟩,⟨(some 14),none,(.q (.mov (.c (.int .i64 0))))⟩] [0,13,14])
(.block 0
(.loop
(.seq
(.reg 4 [⟨(some 15),none,(.q (.bin .lss (.t 14) (.t 13)))⟩] [0,13,14,15])
(.seq
(.cond (.t 15)
.skip
(.exit 0))
(.seq
(.block 1
(.seq
(.reg 5 [⟨(some 16),none,(.q (.mov (.t 14)))⟩,⟨(some 3),none,(.q (.mov (.t 16)))⟩] [0,3,13,14])
(.seq
(.reg 6 [⟨(some 17),none,(.q (.mov (.t 0)))⟩,⟨(some 18),none,(.q (.mov (.t 3)))⟩,⟨(some 19),none,(.q (.istr (.t 17) (.t 18)))⟩,⟨(some 4),none,(.q (.mov (.t 19)))⟩] [0,4,13,14])
(.block 2
(.seq
(.seq
(.reg 8 [⟨(some 21),none,(.q (.mov (.t 4)))⟩,⟨(some 22),none,(.q (.bin .geq (.t 21) (.c (.int .u8 97))))⟩,⟨(some 23),none,(.q (.mov (.t 22)))⟩,⟨(some 24),(some ⟨23,true⟩),(.q (.mov (.t 4)))⟩,⟨(some 25),(some ⟨23,true⟩),(.q (.bin .leq (.t 24) (.c (.int .u8 122))))⟩,⟨(some 26),none,(.q (.pick (.t 23) (.t 25) (.c (.bool false))))⟩,⟨(some 20),none,(.q (.mov (.t 26)))⟩] [0,4,13,14,20])
(.cond (.t 20)
.skip
(.seq
(.reg 9 [⟨(some 27),none,(.q (.mov (.t 4)))⟩,⟨(some 28),none,(.q (.bin .geq (.t 27) (.c (.int .u8 65))))⟩,⟨(some 29),none,(.q (.mov (.t 28)))⟩,⟨(some 30),(some ⟨29,true⟩),(.q (.mov (.t 4)))⟩,⟨(some 31),(some ⟨29,true⟩),(.q (.bin .leq (.t 30) (.c (.int .u8 90))))⟩,⟨(some 32),none,(.q (.pick (.t 29) (.t 31) (.c (.bool false))))⟩,⟨(some 20),none,(.q (.mov (.t 32)))⟩] [0,4,13,14,20])
(.cond (.t 20)
.skip
(.seq
(.reg 10 [⟨(some 33),none,(.q (.mov (.t 4)))⟩,⟨(some 34),none,(.q (.bin .geq (.t 33) (.c (.int .u8 48))))⟩,⟨(some 35),none,(.q (.mov (.t 34)))⟩,⟨(some 36),(some ⟨35,true⟩),(.q (.mov (.t 4)))⟩,⟨(some 37),(some ⟨35,true⟩),(.q (.bin .leq (.t 36) (.c (.int .u8 57))))⟩,⟨(some 38),none,(.q (.pick (.t 35) (.t 37) (.c (.bool false))))⟩,⟨(some 20),none,(.q (.mov (.t 38)))⟩] [0,4,13,14,20])
(.cond (.t 20)
.skip
(.reg 11 [⟨(some 39),none,(.q (.mov (.t 4)))⟩,⟨(some 40),none,(.call 55 [(.c (.str [46,95,43,126,94])),(.t 39)])⟩,⟨(some 41),none,(.q (.bin .geq (.t 40) (.c (.int .i64 0))))⟩,⟨(some 20),none,(.q (.mov (.t 41)))⟩] [0,13,14,20])))))))
(.cond (.t 20)
.skip
(.seq
(.reg 7 [⟨(some 2),none,(.q (.mov (.c (.bool false))))⟩] [2])
.ret)))))))
(.reg 12 [⟨(some 42),none,(.q (.bin .add (.t 14) (.c (.int .i64 1))))⟩,⟨(some 14),none,(.q (.mov (.t 42)))⟩] [0,13,14])))))))
(.seq
(.reg 13 [⟨(some 2),none,(.q (.mov (.c (.bool true))))⟩] [2])
.ret))))
theorem fok57 : FOK Tryd.prog 57 (43,ic57,[(.t 2)]):=.mk (pf:=[]) (an:=[(0,[0]),(1,[0,11]),(2,[2]),(3,[0,13,14]),(4,[0,13,14,15]),(5,[0,3,13,14]),(6,[0,4,13,14]),(7,[2]),(8,[0,4,13,14,20]),(9,[0,4,13,14,20]),(10,[0,4,13,14,20]),(11,[0,13,14,20]),(12,[0,13,14]),(13,[2])]) (by kernel_rfl) (fnOK_of Tryd.func57 (by kernel_rfl) (by kernel_rfl) (by kernel_rfl))
def ic58 : IC :=
(.seq
(.reg 0 [⟨(some 2),none,(.q (.mov (.c (.bool false))))⟩] [0])
(.seq
(.reg 1 [⟨(some 3),none,(.q (.mov (.t 0)))⟩,⟨(some 4),none,(.q (.bin .geq (.t 3) (.c (.int .u8 1))))⟩,⟨(some 5),none,(.q (.mov (.t 4)))⟩,⟨(some 6),(some ⟨5,true⟩),(.q (.mov (.t 0)))⟩,⟨(some 7),(some ⟨5,true⟩),(.q (.bin .leq (.t 6) (.c (.int .u8 4))))⟩,⟨(some 8),none,(.q (.pick (.t 5) (.t 7) (.c (.bool false))))⟩,⟨(some 2),none,(.q (.mov (.t 8)))⟩] [2])
.ret))
theorem fok58 : FOK Tryd.prog 58 (9,ic58,[(.t 2)]):=.mk (pf:=[]) (an:=[(0,[0]),(1,[2])]) (by kernel_rfl) (fnOK_of Tryd.func58 (by kernel_rfl) (by kernel_rfl) (by kernel_rfl))
def ic59 : IC :=
(.seq
(.reg 0 [⟨(some 0),none,(.alloc [(.str []),(.str []),(.str []),(.str []),(.str [])])⟩] [0])
(.seq
(.reg 1 [⟨(some 1),none,(.q (.bld [(.str []),(.str []),(.str []),(.str []),(.str [])] [⟨1,⟨1,(.c (.str [110,111,97,114,99,104]))⟩⟩,⟨2,⟨1,(.c (.str [120,56,54,95,54,52]))⟩⟩,⟨3,⟨1,(.c (.str [105,54,56,54]))⟩⟩,⟨4,⟨1,(.c (.str [97,97,114,99,104,54,52]))⟩⟩]))⟩,⟨none,none,(.store 5 (.t 0) (.t 1))⟩] [0])
.ret))
theorem fok59 : FOK Tryd.prog 59 (2,ic59,[(.cell (some 5) 0)]):=.mk (pf:=[]) (an:=[(0,[0]),(1,[0])]) (by kernel_rfl) (fnOK_of Tryd.func59 (by kernel_rfl) (by kernel_rfl) (by kernel_rfl))
def ic60 : IC :=
(.seq
(.reg 0 [⟨(some 4),none,(.q (.mov (.c (.bool false))))⟩] [0,1])
(.seq
(.reg 1 [⟨(some 5),none,(.q (.mov (.t 0)))⟩,⟨(some 6),none,(.q (.mov (.t 1)))⟩,⟨(some 7),none,(.call 85 [(.t 5),(.t 6)])⟩,⟨(some 8),none,(.q (.bin .geq (.t 7) (.c (.int .i64 0))))⟩,⟨(some 4),none,(.q (.mov (.t 8)))⟩] [4])
.ret))
theorem fok60 : FOK Tryd.prog 60 (9,ic60,[(.t 4)]):=.mk (pf:=[]) (an:=[(0,[0,1]),(1,[4])]) (by kernel_rfl) (fnOK_of Tryd.func60 (by kernel_rfl) (by kernel_rfl) (by kernel_rfl))
def ic61 : IC :=
(.seq
(.reg 0 [⟨(some 2),none,(.boxt (.t 0))⟩,⟨(some 3),none,(.q (.mov (.c (.bool false))))⟩] [1,2])
(.seq
(.reg 1 [⟨(some 4),none,(.q (.load none (.t 1)))⟩,⟨(some 5),none,(.q (.load (some 5) (.t 2)))⟩,⟨(some 6),none,(.callv (.t 4) [(.t 5)])⟩,⟨(some 7),none,(.q (.not (.t 6)))⟩,⟨(some 3),none,(.q (.mov (.t 7)))⟩] [3])
.ret))
theorem fok61 : FOK Tryd.prog 61 (8,ic61,[(.t 3)]):=.mk (pf:=[1000002]) (an:=[(0,[1,2]),(1,[3])]) (by kernel_rfl) (fnOK_of Tryd.func61 (by kernel_rfl) (by kernel_rfl) (by kernel_rfl))
def ic62 : IC :=
(.seq
(.reg 0 [⟨(some 2),none,(.q (.mov (.c (.bool false))))⟩] [0])
(.seq
(.reg 1 [⟨(some 3),none,(.q (.mov (.t 0)))⟩,⟨(some 4),none,(.q (.bin .eql (.t 3) (.c (.int .u8 0))))⟩,⟨(some 5),none,(.q (.mov (.t 4)))⟩,⟨(some 6),(some ⟨5,false⟩),(.q (.mov (.t 0)))⟩,⟨(some 7),(some ⟨5,false⟩),(.call 86 [(.t 6)])⟩,⟨(some 8),(some ⟨5,false⟩),(.q (.bin .neq (.t 7) (.c (.str []))))⟩,⟨(some 9),none,(.q (.pick (.t 5) (.c (.bool true)) (.t 8)))⟩,⟨(some 2),none,(.q (.mov (.t 9)))⟩] [2])
.ret))
theorem fok62 : FOK Tryd.prog 62 (10,ic62,[(.t 2)]):=.mk (pf:=[]) (an:=[(0,[0]),(1,[2])]) (by kernel_rfl) (fnOK_of Tryd.func62 (by kernel_rfl) (by kernel_rfl) (by kernel_rfl))
def ic63 : IC :=
(.seq
(.reg 0 [⟨(some 4),none,(.q (.mov (.c (.bool false))))⟩] [0,1])
(.seq
(.reg 1 [⟨(some 5),none,(.q (.mov (.t 0)))⟩,⟨(some 6),none,(.q (.mov (.t 1)))⟩,⟨(some 7),none,(.call 87 [(.t 5),(.t 6)])⟩,⟨(some 8),none,(.q (.bin .geq (.t 7) (.c (.int .i64 0))))⟩,⟨(some 4),none,(.q (.mov (.t 8)))⟩] [4])
.ret))
theorem fok63 : FOK Tryd.prog 63 (9,ic63,[(.t 4)]):=.mk (pf:=[]) (an:=[(0,[0,1]),(1,[4])]) (by kernel_rfl) (fnOK_of Tryd.func63 (by kernel_rfl) (by kernel_rfl) (by kernel_rfl))
def ic64 : IC :=
(.seq
(.reg 0 [⟨(some 3),none,(.q (.mov (.c (.bool false))))⟩] [0,1])
(.seq
(.reg 1 [⟨(some 4),none,(.q (.load none (.t 1)))⟩,⟨(some 5),none,(.q (.mov (.t 0)))⟩,⟨(some 6),none,(.callv (.t 4) [(.t 5)])⟩,⟨(some 7),none,(.q (.not (.t 6)))⟩,⟨(some 3),none,(.q (.mov (.t 7)))⟩] [3])
.ret))
theorem fok64 : FOK Tryd.prog 64 (8,ic64,[(.t 3)]):=.mk (pf:=[]) (an:=[(0,[0,1]),(1,[3])]) (by kernel_rfl) (fnOK_of Tryd.func64 (by kernel_rfl) (by kernel_rfl) (by kernel_rfl))
def ic65 : IC :=
(.reg 0 [⟨(some 3),none,(.q (.mov (.t 0)))⟩,⟨(some 4),none,(.q (.faddr 7 (.t 1)))⟩,⟨(some 5),none,(.q (.load none (.t 4)))⟩,⟨(some 6),none,(.callv (.t 3) [(.c (.int .u8 1)),(.t 5)])⟩,⟨(some 7),none,(.q (.mov (.t 6)))⟩,⟨(some 8),(some ⟨7,true⟩),(.q (.mov (.t 0)))⟩,⟨(some 9),(some ⟨7,true⟩),(.q (.faddr 8 (.t 1)))⟩,⟨(some 10),(some ⟨7,true⟩),(.q (.load none (.t 9)))⟩,⟨(some 11),(some ⟨7,true⟩),(.callv (.t 8) [(.c (.int .u8 2)),(.t 10)])⟩,⟨(some 12),none,(.q (.pick (.t 7) (.t 11) (.c (.bool false))))⟩,⟨(some 13),none,(.q (.mov (.t 12)))⟩,⟨(some 14),(some ⟨13,true⟩),(.q (.mov (.t 0)))⟩,⟨(some 15),(some ⟨13,true⟩),(.q (.faddr 10 (.t 1)))⟩,⟨(some 16),(some ⟨13,true⟩),(.q (.load none (.t 15)))⟩,⟨(some 17),(some ⟨13,true⟩),(.callv (.t 14) [(.c (.int .u8 1)),(.t 16)])⟩,⟨(some 18),none,(.q (.pick (.t 13) (.t 17) (.c (.bool false))))⟩,⟨(some 19),none,(.q (.mov (.t 18)))⟩,⟨(some 20),(some ⟨19,true⟩),(.q (.mov (.t 0)))⟩,⟨(some 21),(some ⟨19,true⟩),(.q (.faddr 11 (.t 1)))⟩,⟨(some 22),(some ⟨19,true⟩),(.q (.load none (.t 21)))⟩,⟨(some 23),(some ⟨19,true⟩),(.callv (.t 20) [(.c (.int .u8 3)),(.t 22)])⟩,⟨(some 24),none,(.q (.pick (.t 19) (.t 23) (.c (.bool false))))⟩,⟨(some 25),none,(.q (.mov (.t 24)))⟩,⟨(some 26),(some ⟨25,true⟩),(.q (.mov (.t 0)))⟩,⟨(some 27),(some ⟨25,true⟩),(.q (.faddr 12 (.t 1)))⟩,⟨(some 28),(some ⟨25,true⟩),(.q (.load none (.t 27)))⟩,⟨(some 29),(some ⟨25,true⟩),(.callv (.t 26) [(.c (.int .u8 1)),(.t 28)])⟩,⟨(some 30),none,(.q (.pick (.t 25) (.t 29) (.c (.bool false))))⟩,⟨(some 31),none,(.q (.mov (.t 30)))⟩,⟨(some 32),(some ⟨31,true⟩),(.q (.mov (.t 0)))⟩,⟨(some 33),(some ⟨31,true⟩),(.q (.faddr 13 (.t 1)))⟩,⟨(some 34),(some ⟨31,true⟩),(.q (.load none (.t 33)))⟩,⟨(some 35),(some ⟨31,true⟩),(.callv (.t 32) [(.c (.int .u8 3)),(.t 34)])⟩,⟨(some 36),none,(.q (.pick (.t 31) (.t 35) (.c (.bool false))))⟩] [])
theorem fok65 : FOK Tryd.prog 65 (37,ic65,[]):=.mk (pf:=[]) (an:=[]) (by kernel_rfl) (fnOK_of Tryd.func65 (by kernel_rfl) (by kernel_rfl) (by kernel_rfl))
def ic66 : IC :=
(.seq
(.reg 0 [⟨(some 4),none,(.q (.mov (.c (.bool false))))⟩] [0,1])
(.seq
(.reg 1 [⟨(some 5),none,(.q (.mov (.t 0)))⟩,⟨(some 6),none,(.q (.mov (.t 1)))⟩,⟨(some 7),none,(.call 88 [(.t 5),(.t 6)])⟩,⟨(some 8),none,(.q (.bin .geq (.t 7) (.c (.int .i64 0))))⟩,⟨(some 4),none,(.q (.mov (.t 8)))⟩] [4])
.ret))
theorem fok66 : FOK Tryd.prog 66 (9,ic66,[(.t 4)]):=.mk (pf:=[]) (an:=[(0,[0,1]),(1,[4])]) (by kernel_rfl) (fnOK_of Tryd.func66 (by kernel_rfl) (by kernel_rfl) (by kernel_rfl))
def ic67 : IC :=
(.seq
(.reg 0 [⟨(some 2),none,(.boxt (.t 0))⟩,⟨(some 3),none,(.q (.mov (.c (.bool false))))⟩] [1,2])
(.seq
(.reg 1 [⟨(some 4),none,(.q (.load none (.t 1)))⟩,⟨(some 5),none,(.q (.load (some 7) (.t 2)))⟩,⟨(some 6),none,(.callv (.t 4) [(.t 5)])⟩,⟨(some 7),none,(.q (.not (.t 6)))⟩,⟨(some 3),none,(.q (.mov (.t 7)))⟩] [3])
.ret))
theorem fok67 : FOK Tryd.prog 67 (8,ic67,[(.t 3)]):=.mk (pf:=[1000002]) (an:=[(0,[1,2]),(1,[3])]) (by kernel_rfl) (fnOK_of Tryd.func67 (by kernel_rfl) (by kernel_rfl) (by kernel_rfl))
def ic68 : IC :=
(.seq
(.reg 0 [⟨(some 1),none,(.boxt (.t 0))⟩,⟨(some 2),none,(.q (.mov (.c (.int .i64 0))))⟩] [1,2])
(.seq
(.reg 1 [⟨(some 3),none,(.alloc [(.int .i64 0)])⟩,⟨none,none,(.store 1 (.t 3) (.c (.int .i64 0)))⟩] [1,2,3])
(.seq
(.seq
(.reg 2 [⟨(some 4),none,(.q (.load (some 7) (.t 1)))⟩,⟨(some 5),none,(.call 70 [(.t 4)])⟩] [2,3,5])
(.block 0
(.rfunc (.t 5) [6,7]
.skip
(.block 1
(.reg 3 [⟨(some 8),none,(.q (.load none (.t 3)))⟩,⟨(some 9),none,(.q (.bin .add (.t 8) (.c (.int .i64 1))))⟩,⟨none,none,(.store 1 (.t 3) (.t 9))⟩] [])))))
(.seq
(.reg 4 [⟨(some 10),none,(.q (.load none (.t 3)))⟩,⟨(some 2),none,(.q (.mov (.t 10)))⟩] [2])
.ret))))
theorem fok68 : FOK Tryd.prog 68 (11,ic68,[(.t 2)]):=.mk (pf:=[1000001]) (an:=[(0,[1,2]),(1,[1,2,3]),(2,[2,3,5]),(4,[2])]) (by kernel_rfl) (fnOK_of Tryd.func68 (by kernel_rfl) (by kernel_rfl) (by kernel_rfl))
def ic69 : IC :=
(.seq
(.reg 0 [⟨(some 1),none,(.boxt (.t 0))⟩,⟨(some 2),none,(.q (.mov (.c (.int .i64 0))))⟩] [1])
(.seq
(.seq
(.reg 1 [⟨(some 6),none,(.q (.faddr 0 (.t 1)))⟩,⟨(some 7),none,(.q (.load none (.t 6)))⟩,⟨(some 8),none,(.q (.bin .eql (.t 7) (.c (.int .u8 1))))⟩] [1,8])
(.cond (.t 8)
(.seq
(.reg 2 [⟨(some 2),none,(.q (.mov (.c (.int .i64 0))))⟩] [2])
.ret)
.skip))
(.seq
(.reg 3 [⟨(some 3),none,(.q (.mov (.c (.int .i64 0))))⟩] [1,3])
(.seq
(.seq
(.reg 4 [⟨(some 9),none,(.q (.faddr 6 (.t 1)))⟩,⟨(some 10),none,(.q (.load none (.t 9)))⟩,⟨(some 11),none,(.q (.len 0 (.t 10)))⟩,⟨(some 12),none,(.q (.mov (.c (.int .i64 0))))⟩] [3,10,11,12])
(.block 0
(.loop
(.seq
(.reg 5 [⟨(some 13),none,(.q (.bin .lss (.t 12) (.t 11)))⟩] [3,10,11,12,13])
(.seq
(.cond (.t 13)
.skip
(.exit 0))
(.seq
(.block 1
(.seq
(.reg 6 [⟨(some 14),none,(.q (.iaddr 7 (.t 10) (.t 12)))⟩,⟨(some 15),none,(.q (.load (some 7) (.t 14)))⟩,⟨(some 5),none,(.alloc [(.int .u8 0),(.str []),(.int .u8 0),(.int .i64 0),(.str []),(.str []),.nilslice])⟩,⟨none,none,(.store 7 (.t 5) (.t 15))⟩] [3,5,10,11,12])
(.reg 7 [⟨(some 16),none,(.q (.mov (.t 3)))⟩,⟨(some 17),none,(.q (.load (some 7) (.t 5)))⟩,⟨(some 18),none,(.call 69 [(.t 17)])⟩,⟨(some 19),none,(.q (.mm true (.t 16) (.t 18)))⟩,⟨(some 3),none,(.q (.mov (.t 19)))⟩] [3,10,11,12])))
(.reg 8 [⟨(some 20),none,(.q (.bin .add (.t 12) (.c (.int .i64 1))))⟩,⟨(some 12),none,(.q (.mov (.t 20)))⟩] [3,10,11,12])))))))
(.seq
(.reg 9 [⟨(some 21),none,(.q (.mov (.t 3)))⟩,⟨(some 22),none,(.q (.bin .add (.t 21) (.c (.int .i64 1))))⟩,⟨(some 2),none,(.q (.mov (.t 22)))⟩] [2])
.ret)))))
theorem fok69 : FOK Tryd.prog 69 (23,ic69,[(.t 2)]):=.mk (pf:=[1000001]) (an:=[(0,[1]),(1,[1,8]),(2,[2]),(3,[1,3]),(4,[3,10,11,12]),(5,[3,10,11,12,13]),(6,[3,5,10,11,12]),(7,[3,10,11,12]),(8,[3,10,11,12]),(9,[2])]) (by kernel_rfl) (fnOK_of Tryd.func69 (by kernel_rfl) (by kernel_rfl) (by kernel_rfl))
def ic70 : IC :=
(.seq
(.reg 0 [⟨(some 1),none,(.boxt (.t 0))⟩,⟨(some 2),none,(.q (.mov (.c .nilfunc)))⟩] [1])
(.seq
(.reg 1 [⟨(some 3),none,(.alloc [.nilfunc])⟩] [1,3])
(.seq
(.reg 2 [⟨(some 4),none,(.q (.mkf 89 [] [(.t 3)]))⟩,⟨none,none,(.store 1 (.t 3) (.t 4))⟩] [1,3])
(.seq
(.reg 3 [⟨(some 5),none,(.q (.mkf 90 [] [(.t 3),(.t 1)]))⟩,⟨(some 2),none,(.q (.mov (.t 5)))⟩] [2])
.ret))))
theorem fok70 : FOK Tryd.prog 70 (6,ic70,[(.t 2)]):=.mk (pf:=[1000001]) (an:=[(0,[1]),(1,[1,3]),(2,[1,3]),(3,[2])]) (by kernel_rfl) (fnOK_of Tryd.func70 (by kernel_rfl) (by kernel_rfl) (by kernel_rfl))
def ic71 : IC :=
(.seq
(.reg 0 [⟨(some 2),none,(.alloc [(.int .i64 0),(.int .i64 0),(.bool false),(.int .u8 0)])⟩] [0,2])
(.seq
(.reg 1 [⟨(some 4),none,(.q (.bld [(.int .i64 0),(.int .i64 0),(.bool false),(.int .u8 0)] [⟨0,⟨1,(.c (.int .i64 0))⟩⟩,⟨1,⟨1,(.c (.int .i64 0))⟩⟩,⟨2,⟨1,(.c (.bool true))⟩⟩,⟨3,⟨1,(.c (.int .u8 3))⟩⟩]))⟩,⟨(some 5),none,(.q (.bld [(.int .i64 0),(.int .i64 0),(.bool false),(.int .u8 0)] [⟨0,⟨1,(.c (.int .i64 2))⟩⟩,⟨1,⟨1,(.c (.int .i64 24))⟩⟩,⟨2,⟨1,(.c (.bool true))⟩⟩,⟨3,⟨1,(.c (.int .u8 3))⟩⟩]))⟩,⟨(some 6),none,(.q (.bld [(.int .i64 0),(.int .i64 0),(.bool false),(.int .u8 0)] [⟨0,⟨1,(.c (.int .i64 2))⟩⟩,⟨1,⟨1,(.c (.int .i64 24))⟩⟩,⟨2,⟨1,(.c (.bool true))⟩⟩,⟨3,⟨1,(.c (.int .u8 3))⟩⟩]))⟩,⟨(some 7),none,(.q (.bld [(.int .i64 0),(.int .i64 0),(.bool false),(.int .u8 0)] [⟨0,⟨1,(.c (.int .i64 2))⟩⟩,⟨1,⟨1,(.c (.int .i64 3))⟩⟩,⟨2,⟨1,(.c (.bool false))⟩⟩,⟨3,⟨1,(.c (.int .u8 1))⟩⟩]))⟩,⟨(some 8),none,(.q (.bld [(.int .i64 0),(.int .i64 0),(.bool false),(.int .u8 0)] [⟨0,⟨1,(.c (.int .i64 2))⟩⟩,⟨1,⟨1,(.c (.int .i64 3))⟩⟩,⟨2,⟨1,(.c (.bool false))⟩⟩,⟨3,⟨1,(.c (.int .u8 2))⟩⟩]))⟩,⟨(some 9),none,(.q (.bld [(.int .i64 0),(.int .i64 0),(.bool false),(.int .u8 0)] [⟨0,⟨1,(.c (.int .i64 2))⟩⟩,⟨1,⟨1,(.c (.int .i64 24))⟩⟩,⟨2,⟨1,(.c (.bool true))⟩⟩,⟨3,⟨1,(.c (.int .u8 3))⟩⟩]))⟩,⟨(some 10),none,(.q (.bld [(.int .i64 0),(.int .i64 0),(.bool false),(.int .u8 0)] [⟨0,⟨1,(.c (.int .i64 2))⟩⟩,⟨1,⟨1,(.c (.int .i64 2))⟩⟩,⟨2,⟨1,(.c (.bool true))⟩⟩,⟨3,⟨1,(.c (.int .u8 3))⟩⟩]))⟩,⟨(some 11),none,(.q (.bld [(.int .i64 0),(.int .i64 0),(.bool false),(.int .u8 0),(.int .i64 0),(.int .i64 0),(.bool false),(.int .u8 0),(.int .i64 0),(.int .i64 0),(.bool false),(.int .u8 0),(.int .i64 0),(.int .i64 0),(.bool false),(.int .u8 0),(.int .i64 0),(.int .i64 0),(.bool false),(.int .u8 0),(.int .i64 0),(.int .i64 0),(.bool false),(.int .u8 0),(.int .i64 0),(.int .i64 0),(.bool false),(.int .u8 0),(.int .i64 0),(.int .i64 0),(.bool false),(.int .u8 0)] [⟨4,⟨4,(.t 4)⟩⟩,⟨8,⟨4,(.t 5)⟩⟩,⟨12,⟨4,(.t 6)⟩⟩,⟨16,⟨4,(.t 7)⟩⟩,⟨20,⟨4,(.t 8)⟩⟩,⟨24,⟨4,(.t 9)⟩⟩,⟨28,⟨4,(.t 10)⟩⟩]))⟩,⟨(some 3),none,(.alloc [(.int .i64 0),(.int .i64 0),(.bool false),(.int .u8 0),(.int .i64 0),(.int .i64 0),(.bool false),(.int .u8 0),(.int .i64 0),(.int .i64 0),(.bool false),(.int .u8 0),(.int .i64 0),(.int .i64 0),(.bool false),(.int .u8 0),(.int .i64 0),(.int .i64 0),(.bool false),(.int .u8 0),(.int .i64 0),(.int .i64 0),(.bool false),(.int .u8 0),(.int .i64 0),(.int .i64 0),(.bool false),(.int .u8 0),(.int .i64 0),(.int .i64 0),(.bool false),(.int .u8 0)])⟩,⟨none,none,(.store 32 (.t 3) (.t 11))⟩] [0,2,3])
(.seq
(.seq
(.reg 2 [⟨(some 12),none,(.q (.mov (.t 0)))⟩,⟨(some 13),none,(.q (.conv .i64 (.t 12)))⟩,⟨(some 14),none,(.q (.bin .geq (.t 13) (.c (.int .i64 8))))⟩] [0,2,3,14])
(.cond (.t 14)
(.seq
(.reg 3 [⟨(some 15),none,(.q (.bld [(.int .i64 0),(.int .i64 0),(.bool false),(.int .u8 0)] []))⟩,⟨none,none,(.store 4 (.t 2) (.t 15))⟩] [2])
.ret)
.skip))
(.seq
(.reg 4 [⟨(some 16),none,(.q (.mov (.t 0)))⟩,⟨(some 17),none,(.q (.aaddr 8 4 (.t 3) (.t 16)))⟩,⟨(some 18),none,(.q (.load (some 4) (.t 17)))⟩,⟨none,none,(.store 4 (.t 2) (.t 18))⟩] [2])
.ret))))
theorem fok71 : FOK Tryd.prog 71 (19,ic71,[(.cell (some 4) 2)]):=.mk (pf:=[]) (an:=[(0,[0,2]),(1,[0,2,3]),(2,[0,2,3,14]),(3,[2]),(4,[2])]) (by kernel_rfl) (fnOK_of Tryd.func71 (by kernel_rfl) (by kernel_rfl) (by kernel_rfl))
def ic83 : IC :=
(.seq
(.reg 0 [⟨(some 4),none,(.q (.mov (.c (.int .i64 0))))⟩] [0,1])
(.seq
(.reg 1 [⟨(some 5),none,(.q (.mov (.t 0)))⟩,⟨(some 6),none,(.q (.mov (.t 1)))⟩,⟨(some 7),none,(.q (.ibs (.t 5) (.t 6)))⟩,⟨(some 4),none,(.q (.mov (.t 7)))⟩] [4])
.ret))
theorem fok83 : FOK Tryd.prog 83 (8,ic83,[(.t 4)]):=.mk (pf:=[]) (an:=[(0,[0,1]),(1,[4])]) (by kernel_rfl) (fnOK_of Tryd.func83 (by kernel_rfl) (by kernel_rfl) (by kernel_rfl))
def ic84 : IC :=
(.seq
(.reg 0 [⟨(some 4),none,(.q (.mov (.c (.bool false))))⟩] [0,1])
(.seq
(.reg 1 [⟨(some 5),none,(.q (.mov (.t 0)))⟩,⟨(some 6),none,(.q (.len 1 (.t 5)))⟩,⟨(some 7),none,(.q (.mov (.t 1)))⟩,⟨(some 8),none,(.q (.len 1 (.t 7)))⟩,⟨(some 9),none,(.q (.bin .geq (.t 6) (.t 8)))⟩,⟨(some 10),none,(.q (.mov (.t 9)))⟩,⟨(some 11),(some ⟨10,true⟩),(.q (.mov (.t 0)))⟩,⟨(some 12),(some ⟨10,true⟩),(.q (.mov (.t 1)))⟩,⟨(some 13),(some ⟨10,true⟩),(.q (.len 1 (.t 12)))⟩,⟨(some 14),(some ⟨10,true⟩),(.q (.sstr (.t 11) none (some (.t 13))))⟩,⟨(some 15),(some ⟨10,true⟩),(.q (.mov (.t 1)))⟩,⟨(some 16),(some ⟨10,true⟩),(.q (.bin .eql (.t 14) (.t 15)))⟩,⟨(some 17),none,(.q (.pick (.t 10) (.t 16) (.c (.bool false))))⟩,⟨(some 4),none,(.q (.mov (.t 17)))⟩] [4])
.ret))
theorem fok84 : FOK Tryd.prog 84 (18,ic84,[(.t 4)]):=.mk (pf:=[]) (an:=[(0,[0,1]),(1,[4])]) (by kernel_rfl) (fnOK_of Tryd.func84 (by kernel_rfl) (by kernel_rfl) (by kernel_rfl))
def ic85 : IC :=
(.seq
(.reg 0 [⟨(some 4),none,(.q (.mov (.c (.int .i64 0))))⟩] [0,1])
(.seq
(.seq
(.reg 1 [⟨(some 6),none,(.q (.mov (.t 0)))⟩,⟨(some 7),none,(.q (.len 0 (.t 6)))⟩,⟨(some 8),none,(.q (.mov (.c (.int .i64 0))))⟩] [0,1,7,8])
(.block 0
(.loop
(.seq
(.reg 2 [⟨(some 9),none,(.q (.bin .lss (.t 8) (.t 7)))⟩] [0,1,7,8,9])
(.seq
(.cond (.t 9)
.skip
(.exit 0))
(.seq
(.block 1
(.seq
(.reg 3 [⟨(some 10),none,(.q (.mov (.t 8)))⟩,⟨(some 5),none,(.q (.mov (.t 10)))⟩] [0,1,5,7,8])
(.seq
(.reg 4 [⟨(some 11),none,(.q (.mov (.t 1)))⟩,⟨(some 12),none,(.q (.mov (.t 0)))⟩,⟨(some 13),none,(.q (.mov (.t 5)))⟩,⟨(some 14),none,(.q (.iaddr 5 (.t 12) (.t 13)))⟩,⟨(some 15),none,(.q (.load (some 5) (.t 14)))⟩,⟨(some 16),none,(.callv (.t 11) [(.t 15)])⟩] [0,1,5,7,8,16])
(.cond (.t 16)
(.seq
(.reg 5 [⟨(some 17),none,(.q (.mov (.t 5)))⟩,⟨(some 4),none,(.q (.mov (.t 17)))⟩] [4])
.ret)
.skip))))
(.reg 6 [⟨(some 18),none,(.q (.bin .add (.t 8) (.c (.int .i64 1))))⟩,⟨(some 8),none,(.q (.mov (.t 18)))⟩] [0,1,7,8])))))))
(.seq
(.reg 7 [⟨(some 4),none,(.q (.mov (.c (.int .i64 (-1)))))⟩] [4])
.ret)))
theorem fok85 : FOK Tryd.prog 85 (19,ic85,[(.t 4)]):=.mk (pf:=[]) (an:=[(0,[0,1]),(1,[0,1,7,8]),(2,[0,1,7,8,9]),(3,[0,1,5,7,8]),(4,[0,1,5,7,8,16]),(5,[4]),(6,[0,1,7,8]),(7,[4])]) (by kernel_rfl) (fnOK_of Tryd.func85 (by kernel_rfl) (by kernel_rfl) (by kernel_rfl))
def ic86 : IC :=
(.seq
(.reg 0 [⟨(some 2),none,(.q (.mov (.c (.str []))))⟩] [0])
(.seq
(.seq
(.reg 1 [⟨(some 5),none,(.q (.load none (.g 1)))⟩,⟨(some 6),none,(.mrange (.t 5))⟩] [0,6])
(.block 0
(.loop
(.seq
(.reg 2 [⟨(some 7),none,(.mnext (.t 6))⟩,⟨(some 8),none,(.q (.ext 0 (.t 7)))⟩] [0,6,8])
(.seq
(.cond (.t 8)
.skip
(.exit 0))
(.block 1
(.seq
(.reg 3 [⟨(some 9),none,(.ment (.t 6))⟩,⟨(some 10),none,(.q (.ext 0 (.t 9)))⟩,⟨(some 11),none,(.q (.ext 1 (.t 9)))⟩,⟨(some 3),none,(.q (.mov (.t 10)))⟩,⟨(some 4),none,(.q (.mov (.t 11)))⟩] [0,3,4,6])
(.seq
(.reg 4 [⟨(some 12),none,(.q (.mov (.t 4)))⟩,⟨(some 13),none,(.q (.mov (.t 0)))⟩,⟨(some 14),none,(.q (.bin .eql (.t 12) (.t 13)))⟩] [0,3,6,14])
(.cond (.t 14)
(.seq
(.reg 5 [⟨(some 15),none,(.q (.mov (.t 3)))⟩,⟨(some 2),none,(.q (.mov (.t 15)))⟩] [2])
.ret)
.skip)))))))))
(.seq
(.reg 6 [⟨(some 2),none,(.q (.mov (.c (.str []))))⟩] [2])
.ret)))
theorem fok86 : FOK Tryd.prog 86 (16,ic86,[(.t 2)]):=.mk (pf:=[]) (an:=[(0,[0]),(1,[0,6]),(2,[0,6,8]),(3,[0,3,4,6]),(4,[0,3,6,14]),(5,[2]),(6,[2])]) (by kernel_rfl) (fnOK_of Tryd.func86 (by kernel_rfl) (by kernel_rfl) (by kernel_rfl))
def ic87 : IC :=
(.seq
(.reg 0 [⟨(some 4),none,(.q (.mov (.c (.int .i64 0))))⟩] [0,1])
(.seq
(.seq
(.reg 1 [⟨(some 6),none,(.q (.mov (.t 0)))⟩,⟨(some 7),none,(.q (.len 0 (.t 6)))⟩,⟨(some 8),none,(.q (.mov (.c (.int .i64 0))))⟩] [0,1,7,8])
(.block 0
(.loop
(.seq
(.reg 2 [⟨(some 9),none,(.q (.bin .lss (.t 8) (.t 7)))⟩] [0,1,7,8,9])
(.seq
(.cond (.t 9)
.skip
(.exit 0))
(.seq
(.block 1
(.seq
(.reg 3 [⟨(some 10),none,(.q (.mov (.t 8)))⟩,⟨(some 5),none,(.q (.mov (.t 10)))⟩] [0,1,5,7,8])
(.seq
(.reg 4 [⟨(some 11),none,(.q (.mov (.t 1)))⟩,⟨(some 12),none,(.q (.mov (.t 0)))⟩,⟨(some 13),none,(.q (.mov (.t 5)))⟩,⟨(some 14),none,(.q (.iaddr 1 (.t 12) (.t 13)))⟩,⟨(some 15),none,(.q (.load none (.t 14)))⟩,⟨(some 16),none,(.callv (.t 11) [(.t 15)])⟩] [0,1,5,7,8,16])
(.cond (.t 16)
(.seq
(.reg 5 [⟨(some 17),none,(.q (.mov (.t 5)))⟩,⟨(some 4),none,(.q (.mov (.t 17)))⟩] [4])
.ret)
.skip))))
(.reg 6 [⟨(some 18),none,(.q (.bin .add (.t 8) (.c (.int .i64 1))))⟩,⟨(some 8),none,(.q (.mov (.t 18)))⟩] [0,1,7,8])))))))
(.seq
(.reg 7 [⟨(some 4),none,(.q (.mov (.c (.int .i64 (-1)))))⟩] [4])
.ret)))
theorem fok87 : FOK Tryd.prog 87 (19,ic87,[(.t 4)]):=.mk (pf:=[]) (an:=[(0,[0,1]),(1,[0,1,7,8]),(2,[0,1,7,8,9]),(3,[0,1,5,7,8]),(4,[0,1,5,7,8,16]),(5,[4]),(6,[0,1,7,8]),(7,[4])]) (by kernel_rfl) (fnOK_of Tryd.func87 (by kernel_rfl) (by kernel_rfl) (by kernel_rfl))
def ic88 : IC :=
(.seq
(.reg 0 [⟨(some 4),none,(.q (.mov (.c (.int .i64 0))))⟩] [0,1])
(.seq
(.seq
(.reg 1 [⟨(some 6),none,(.q (.mov (.t 0)))⟩,⟨(some 7),none,(.q (.len 0 (.t 6)))⟩,⟨(some 8),none,(.q (.mov (.c (.int .i64 0))))⟩] [0,1,7,8])
(.block 0
(.loop
(.seq
(.reg 2 [⟨(some 9),none,(.q (.bin .lss (.t 8) (.t 7)))⟩] [0,1,7,8,9])
(.seq
(.cond (.t 9)
.skip
(.exit 0))
(.seq
(.block 1
(.seq
(.reg 3 [⟨(some 10),none,(.q (.mov (.t 8)))⟩,⟨(some 5),none,(.q (.mov (.t 10)))⟩] [0,1,5,7,8])
(.seq
(.reg 4 [⟨(some 11),none,(.q (.mov (.t 1)))⟩,⟨(some 12),none,(.q (.mov (.t 0)))⟩,⟨(some 13),none,(.q (.mov (.t 5)))⟩,⟨(some 14),none,(.q (.iaddr 7 (.t 12) (.t 13)))⟩,⟨(some 15),none,(.q (.load (some 7) (.t 14)))⟩,⟨(some 16),none,(.callv (.t 11) [(.t 15)])⟩] [0,1,5,7,8,16])
(.cond (.t 16)
(.seq
(.reg 5 [⟨(some 17),none,(.q (.mov (.t 5)))⟩,⟨(some 4),none,(.q (.mov (.t 17)))⟩] [4])
.ret)
.skip))))
(.reg 6 [⟨(some 18),none,(.q (.bin .add (.t 8) (.c (.int .i64 1))))⟩,⟨(some 8),none,(.q (.mov (.t 18)))⟩] [0,1,7,8])))))))
(.seq
(.reg 7 [⟨(some 4),none,(.q (.mov (.c (.int .i64 (-1)))))⟩] [4])
.ret)))
theorem fok88 : FOK Tryd.prog 88 (19,ic88,[(.t 4)]):=.mk (pf:=[]) (an:=[(0,[0,1]),(1,[0,1,7,8]),(2,[0,1,7,8,9]),(3,[0,1,5,7,8]),(4,[0,1,5,7,8,16]),(5,[4]),(6,[0,1,7,8]),(7,[4])]) (by kernel_rfl) (fnOK_of Tryd.func88 (by kernel_rfl) (by kernel_rfl) (by kernel_rfl))
def ic89 : IC :=
(.seq
(.reg 0 [⟨(some 4),none,(.boxt (.t 0))⟩,⟨(some 7),none,(.q (.mov (.c (.bool false))))⟩] [1,2,3,4])
(.seq
(.seq
(.reg 1 [⟨(some 10),none,(.q (.mov (.t 2)))⟩,⟨(some 11),none,(.q (.load (some 7) (.t 4)))⟩,⟨(some 12),none,(.q (.mov (.t 1)))⟩,⟨(some 13),none,(.callv (.t 10) [(.t 11),(.t 12)])⟩,⟨(some 14),none,(.q (.not (.t 13)))⟩] [1,2,3,4,14])
(.cond (.t 14)
(.seq
(.reg 2 [⟨(some 7),none,(.q (.mov (.c (.bool false))))⟩] [7])
.ret)
.skip))
(.seq
(.reg 3 [⟨(some 15),none,(.q (.mov (.t 1)))⟩,⟨(some 16),none,(.q (.mov (.t 15)))⟩,⟨(some 17),(some ⟨16,false⟩),(.q (.faddr 0 (.t 4)))⟩,⟨(some 18),(some ⟨16,false⟩),(.q (.load none (.t 17)))⟩,⟨(some 19),(some ⟨16,false⟩),(.q (.bin .eql (.t 18) (.c (.int .u8 6))))⟩,⟨(some 20),none,(.q (.pick (.t 16) (.c (.bool true)) (.t 19)))⟩,⟨(some 21),none,(.q (.mov (.t 20)))⟩,⟨(some 22),(some ⟨21,false⟩),(.q (.faddr 0 (.t 4)))⟩,⟨(some 23),(some ⟨21,false⟩),(.q (.load none (.t 22)))⟩,⟨(some 24),(some ⟨21,false⟩),(.q (.bin .eql (.t 23) (.c (.int .u8 7))))⟩,⟨(some 25),none,(.q (.pick (.t 21) (.c (.bool true)) (.t 24)))⟩,⟨(some 1),none,(.q (.mov (.t 25)))⟩] [1,2,3,4])
(.seq
(.seq
(.reg 4 [⟨(some 26),none,(.q (.faddr 6 (.t 4)))⟩,⟨(some 27),none,(.q (.load none (.t 26)))⟩,⟨(some 28),none,(.q (.len 0 (.t 27)))⟩,⟨(some 29),none,(.q (.mov (.c (.int .i64 0))))⟩] [1,2,3,27,28,29])
(.block 0
(.loop
(.seq
(.reg 5 [⟨(some 30),none,(.q (.bin .lss (.t 29) (.t 28)))⟩] [1,2,3,27,28,29,30])
(.seq
(.cond (.t 30)
.skip
(.exit 0))
(.seq
(.block 1
(.seq
(.reg 6 [⟨(some 31),none,(.q (.iaddr 7 (.t 27) (.t 29)))⟩,⟨(some 32),none,(.q (.load (some 7) (.t 31)))⟩,⟨(some 9),none,(.alloc [(.int .u8 0),(.str []),(.int .u8 0),(.int .i64 0),(.str []),(.str []),.nilslice])⟩,⟨none,none,(.store 7 (.t 9) (.t 32))⟩] [1,2,3,9,27,28,29])
(.seq
(.reg 7 [⟨(some 33),none,(.q (.load none (.t 3)))⟩,⟨(some 34),none,(.q (.load (some 7) (.t 9)))⟩,⟨(some 35),none,(.q (.mov (.t 1)))⟩,⟨(some 36),none,(.q (.mov (.t 2)))⟩,⟨(some 37),none,(.callv (.t 33) [(.t 34),(.t 35),(.t 36)])⟩,⟨(some 38),none,(.q (.not (.t 37)))⟩] [1,2,3,27,28,29,38])
(.cond (.t 38)
(.seq
(.reg 8 [⟨(some 7),none,(.q (.mov (.c (.bool false))))⟩] [7])
.ret)
.skip))))
(.reg 9 [⟨(some 39),none,(.q (.bin .add (.t 29) (.c (.int .i64 1))))⟩,⟨(some 29),none,(.q (.mov (.t 39)))⟩] [1,2,3,27,28,29])))))))
(.seq
(.reg 10 [⟨(some 7),none,(.q (.mov (.c (.bool true))))⟩] [7])
.ret)))))
theorem fok89 : FOK Tryd.prog 89 (40,ic89,[(.t 7)]):=.mk (pf:=[1000004]) (an:=[(0,[1,2,3,4]),(1,[1,2,3,4,14]),(2,[7]),(3,[1,2,3,4]),(4,[1,2,3,27,28,29]),(5,[1,2,3,27,28,29,30]),(6,[1,2,3,9,27,28,29]),(7,[1,2,3,27,28,29,38]),(8,[7]),(9,[1,2,3,27,28,29]),(10,[7])]) (by kernel_rfl) (fnOK_of Tryd.func89 (by kernel_rfl) (by kernel_rfl) (by kernel_rfl))
def ic90 : IC :=
(.reg 0 [⟨(some 4),none,(.q (.load none (.t 1)))⟩,⟨(some 5),none,(.q (.load (some 7) (.t 2)))⟩,⟨(some 6),none,(.q (.mov (.t 0)))⟩,⟨(some 7),none,(.callv (.t 4) [(.t 5),(.c (.bool false)),(.t 6)])⟩] [])
theorem fok90 : FOK Tryd.prog 90 (8,ic90,[]):=.mk (pf:=[]) (an:=[]) (by kernel_rfl) (fnOK_of Tryd.func90 (by kernel_rfl) (by kernel_rfl) (by kernel_rfl))
end Go.Id.Tryd
