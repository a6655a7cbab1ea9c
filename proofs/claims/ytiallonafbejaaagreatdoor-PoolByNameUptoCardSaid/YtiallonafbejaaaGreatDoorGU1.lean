/- The compiled codes of functions,written by a program out of the given form. Conditions: none. -/
import Derived.Test.YtiallonafbejaaaGreatDoorFwYa
import Derived.Test.YtiallonafbejaaaGreatDoorProg
set_option linter.all false
namespace Go.Id.Tryz
open Go Go.Id Go.Proofs
def allF1 : List Nat:=List.range 357
def ic55 : IC :=
(.seq
(.reg 0 [⟨(some 4),none,(.q (.mov (.c (.int .i64 0))))⟩] [0,1])
(.seq
(.seq
(.reg 1 [⟨(some 5),none,(.q (.mov (.t 0)))⟩,⟨(some 6),none,(.q (.isnil (.pointer 105) false (.t 5)))⟩,⟨(some 7),none,(.q (.mov (.t 6)))⟩,⟨(some 8),(some ⟨7,false⟩),(.q (.mov (.t 0)))⟩,⟨(some 9),(some ⟨7,false⟩),(.q (.nchk (.t 8)))⟩,⟨(some 10),(some ⟨7,false⟩),(.q (.faddr 0 (.t 9)))⟩,⟨(some 11),(some ⟨7,false⟩),(.q (.load none (.t 10)))⟩,⟨(some 12),(some ⟨7,false⟩),(.q (.mov (.t 1)))⟩,⟨(some 13),(some ⟨7,false⟩),(.call 73 [(.t 11),(.t 12)])⟩,⟨(some 14),(some ⟨7,false⟩),(.q (.not (.t 13)))⟩,⟨(some 15),none,(.q (.pick (.t 7) (.c (.bool true)) (.t 14)))⟩] [0,1,15])
(.cond (.t 15)
(.seq
(.reg 2 [⟨(some 4),none,(.q (.mov (.c (.int .i64 (-1)))))⟩] [4])
.ret)
.skip))
(.seq
(.reg 3 [⟨(some 16),none,(.q (.mov (.t 0)))⟩,⟨(some 17),none,(.q (.nchk (.t 16)))⟩,⟨(some 18),none,(.q (.faddr 0 (.t 17)))⟩,⟨(some 19),none,(.q (.load none (.t 18)))⟩,⟨(some 20),none,(.q (.mov (.t 1)))⟩,⟨(some 21),none,(.q (.iaddr 17 (.t 19) (.t 20)))⟩,⟨(some 22),none,(.q (.faddr 15 (.t 21)))⟩,⟨(some 23),none,(.q (.load none (.t 22)))⟩,⟨(some 4),none,(.q (.mov (.t 23)))⟩] [4])
.ret)))
theorem fok55 : FOK Tryz.prog 55 (24,ic55,[(.t 4)]):=.mk (pf:=[]) (an:=[(0,[0,1]),(1,[0,1,15]),(2,[4]),(3,[4])]) (by kernel_rfl) (fnOK_of Tryz.func55 (by kernel_rfl) (by kernel_rfl) (by kernel_rfl))
def ic64 : IC :=
(.seq
(.reg 0 [⟨(some 1),none,(.boxt (.t 0))⟩,⟨(some 2),none,(.q (.mov (.c (.bool false))))⟩] [1])
(.seq
(.seq
(.reg 1 [⟨(some 8),none,(.q (.faddr 6 (.t 1)))⟩,⟨(some 9),none,(.q (.load none (.t 8)))⟩,⟨(some 10),none,(.q (.len 0 (.t 9)))⟩,⟨(some 11),none,(.q (.bin .gtr (.t 10) (.c (.int .i64 100))))⟩,⟨(some 12),none,(.q (.mov (.t 11)))⟩,⟨(some 13),(some ⟨12,false⟩),(.q (.faddr 9 (.t 1)))⟩,⟨(some 14),(some ⟨12,false⟩),(.q (.load none (.t 13)))⟩,⟨(some 15),(some ⟨12,false⟩),(.q (.len 0 (.t 14)))⟩,⟨(some 16),(some ⟨12,false⟩),(.q (.bin .gtr (.t 15) (.c (.int .i64 100))))⟩,⟨(some 17),none,(.q (.pick (.t 12) (.c (.bool true)) (.t 16)))⟩,⟨(some 18),none,(.q (.mov (.t 17)))⟩,⟨(some 19),(some ⟨18,false⟩),(.q (.faddr 14 (.t 1)))⟩,⟨(some 20),(some ⟨18,false⟩),(.q (.load none (.t 19)))⟩,⟨(some 21),(some ⟨18,false⟩),(.q (.len 0 (.t 20)))⟩,⟨(some 22),(some ⟨18,false⟩),(.q (.bin .gtr (.t 21) (.c (.int .i64 100))))⟩,⟨(some 23),none,(.q (.pick (.t 18) (.c (.bool true)) (.t 22)))⟩,⟨(some 24),none,(.q (.mov (.t 23)))⟩,⟨(some 25),(some ⟨24,false⟩),(.q (.faddr 0 (.t 1)))⟩,⟨(some 26),(some ⟨24,false⟩),(.q (.load none (.t 25)))⟩,⟨(some 27),(some ⟨24,false⟩),(.q (.len 1 (.t 26)))⟩,⟨(some 28),(some ⟨24,false⟩),(.q (.bin .gtr (.t 27) (.c (.int .i64 1000))))⟩,⟨(some 29),none,(.q (.pick (.t 24) (.c (.bool true)) (.t 28)))⟩,⟨(some 30),none,(.q (.mov (.t 29)))⟩,⟨(some 31),(some ⟨30,false⟩),(.q (.faddr 5 (.t 1)))⟩,⟨(some 32),(some ⟨30,false⟩),(.q (.load none (.t 31)))⟩,⟨(some 33),(some ⟨30,false⟩),(.q (.len 1 (.t 32)))⟩,⟨(some 34),(some ⟨30,false⟩),(.q (.bin .gtr (.t 33) (.c (.int .i64 1000))))⟩,⟨(some 35),none,(.q (.pick (.t 30) (.c (.bool true)) (.t 34)))⟩,⟨(some 36),none,(.q (.mov (.t 35)))⟩,⟨(some 37),(some ⟨36,false⟩),(.q (.faddr 1 (.t 1)))⟩,⟨(some 38),(some ⟨36,false⟩),(.q (.faddr 1 (.t 37)))⟩,⟨(some 39),(some ⟨36,false⟩),(.q (.load none (.t 38)))⟩,⟨(some 40),(some ⟨36,false⟩),(.q (.len 1 (.t 39)))⟩,⟨(some 41),(some ⟨36,false⟩),(.q (.bin .gtr (.t 40) (.c (.int .i64 1000))))⟩,⟨(some 42),none,(.q (.pick (.t 36) (.c (.bool true)) (.t 41)))⟩,⟨(some 43),none,(.q (.mov (.t 42)))⟩,⟨(some 44),(some ⟨43,false⟩),(.q (.faddr 1 (.t 1)))⟩,⟨(some 45),(some ⟨43,false⟩),(.q (.faddr 2 (.t 44)))⟩,⟨(some 46),(some ⟨43,false⟩),(.q (.load none (.t 45)))⟩,⟨(some 47),(some ⟨43,false⟩),(.q (.len 1 (.t 46)))⟩,⟨(some 48),(some ⟨43,false⟩),(.q (.bin .gtr (.t 47) (.c (.int .i64 1000))))⟩,⟨(some 49),none,(.q (.pick (.t 43) (.c (.bool true)) (.t 48)))⟩] [1,49])
(.cond (.t 49)
(.seq
(.reg 2 [⟨(some 2),none,(.q (.mov (.c (.bool true))))⟩] [2])
.ret)
.skip))
(.seq
(.reg 3 [⟨(some 3),none,(.q (.mov (.c (.int .i64 0))))⟩] [1,3])
(.seq
(.seq
(.reg 4 [⟨(some 50),none,(.q (.faddr 7 (.t 1)))⟩,⟨(some 51),none,(.q (.load none (.t 50)))⟩,⟨(some 52),none,(.q (.faddr 8 (.t 1)))⟩,⟨(some 53),none,(.q (.load none (.t 52)))⟩,⟨(some 54),none,(.q (.faddr 10 (.t 1)))⟩,⟨(some 55),none,(.q (.load none (.t 54)))⟩,⟨(some 56),none,(.q (.faddr 11 (.t 1)))⟩,⟨(some 57),none,(.q (.load none (.t 56)))⟩,⟨(some 58),none,(.q (.faddr 12 (.t 1)))⟩,⟨(some 59),none,(.q (.load none (.t 58)))⟩,⟨(some 60),none,(.q (.faddr 13 (.t 1)))⟩,⟨(some 61),none,(.q (.load none (.t 60)))⟩,⟨(some 62),none,(.bslt 1 6 [.nilslice] [⟨0,⟨1,(.t 51)⟩⟩,⟨1,⟨1,(.t 53)⟩⟩,⟨2,⟨1,(.t 55)⟩⟩,⟨3,⟨1,(.t 57)⟩⟩,⟨4,⟨1,(.t 59)⟩⟩,⟨5,⟨1,(.t 61)⟩⟩])⟩,⟨(some 63),none,(.q (.len 0 (.t 62)))⟩,⟨(some 64),none,(.q (.mov (.c (.int .i64 0))))⟩] [3,62,63,64])
(.block 0
(.loop
(.seq
(.reg 5 [⟨(some 65),none,(.q (.bin .lss (.t 64) (.t 63)))⟩] [3,62,63,64,65])
(.seq
(.cond (.t 65)
.skip
(.exit 0))
(.seq
(.block 1
(.seq
(.reg 6 [⟨(some 66),none,(.q (.iaddr 1 (.t 62) (.t 64)))⟩,⟨(some 67),none,(.q (.load none (.t 66)))⟩,⟨(some 5),none,(.q (.mov (.t 67)))⟩] [3,5,62,63,64])
(.seq
(.reg 7 [⟨(some 69),none,(.q (.mov (.t 5)))⟩,⟨(some 70),none,(.call 134 [(.t 69),(.c (.int .i64 0))])⟩,⟨(some 68),none,(.q (.mov (.t 70)))⟩,⟨(some 71),none,(.q (.ext 0 (.t 68)))⟩,⟨(some 72),none,(.q (.ext 1 (.t 68)))⟩,⟨(some 6),none,(.q (.mov (.t 71)))⟩,⟨(some 7),none,(.q (.mov (.t 72)))⟩] [3,6,7,62,63,64])
(.seq
(.reg 8 [⟨(some 73),none,(.q (.mov (.t 3)))⟩,⟨(some 74),none,(.q (.mov (.t 6)))⟩,⟨(some 75),none,(.q (.bin .add (.t 73) (.t 74)))⟩,⟨(some 3),none,(.q (.mov (.t 75)))⟩] [3,7,62,63,64])
(.seq
(.reg 9 [⟨(some 76),none,(.q (.mov (.t 7)))⟩,⟨(some 77),none,(.q (.mov (.t 76)))⟩,⟨(some 78),(some ⟨77,false⟩),(.q (.mov (.t 3)))⟩,⟨(some 79),(some ⟨77,false⟩),(.q (.bin .gtr (.t 78) (.c (.int .i64 2000))))⟩,⟨(some 80),none,(.q (.pick (.t 77) (.c (.bool true)) (.t 79)))⟩] [3,62,63,64,80])
(.cond (.t 80)
(.seq
(.reg 10 [⟨(some 2),none,(.q (.mov (.c (.bool true))))⟩] [2])
.ret)
.skip))))))
(.reg 11 [⟨(some 81),none,(.q (.bin .add (.t 64) (.c (.int .i64 1))))⟩,⟨(some 64),none,(.q (.mov (.t 81)))⟩] [3,62,63,64])))))))
(.seq
(.reg 12 [⟨(some 2),none,(.q (.mov (.c (.bool false))))⟩] [2])
.ret)))))
theorem fok64 : FOK Tryz.prog 64 (82,ic64,[(.t 2)]):=.mk (pf:=[1000001,1000062]) (an:=[(0,[1]),(1,[1,49]),(2,[2]),(3,[1,3]),(4,[3,62,63,64]),(5,[3,62,63,64,65]),(6,[3,5,62,63,64]),(7,[3,6,7,62,63,64]),(8,[3,7,62,63,64]),(9,[3,62,63,64,80]),(10,[2]),(11,[3,62,63,64]),(12,[2])]) (by kernel_rfl) (fnOK_of Tryz.func64 (by kernel_rfl) (by kernel_rfl) (by kernel_rfl))
def ic65 : IC :=
(.seq
(.reg 0 [oK 2 (.alloc [(.str []),(zI 0),(.str []),(.str []),(zU 0),(.str []),.nilslice,.nilslice,.nilslice,.nilslice,.nilslice,.nilslice,.nilslice,.nilslice,.nilslice])] [0,2])
(.seq
(.reg 1 [oM 3 (.t 0),oQ 4 (.bld [(zI 0),(.str []),(.str [])] [⟨1,⟨1,(.c (.str [49]))⟩⟩,⟨2,⟨1,(.c (.str [49]))⟩⟩]),oQ 5 (.bld [(.str []),(zI 0),(.str []),(.str []),(zU 0),(.str []),.nilslice,.nilslice,.nilslice,.nilslice,.nilslice,.nilslice,.nilslice,.nilslice,.nilslice] [⟨0,⟨1,(.t 3)⟩⟩,⟨1,⟨3,(.t 4)⟩⟩,⟨4,⟨1,(.c (zU 1))⟩⟩]),oN (.store 15 (.t 2) (.t 5))] [2])
.ret))
theorem fok65 : FOK Tryz.prog 65 (6,ic65,[(.cell (some 15) 2)]):=fokA [] Tryz.func65
def ic66 : IC :=
(.seq
(.reg 0 [⟨(some 2),none,(.q (.mov (.c (.int .i64 0))))⟩] [0])
(.seq
(.seq
(.reg 1 [⟨(some 3),none,(.q (.mov (.t 0)))⟩,⟨(some 4),none,(.q (.isnil (.pointer 105) false (.t 3)))⟩] [0,4])
(.cond (.t 4)
(.seq
(.reg 2 [⟨(some 2),none,(.q (.mov (.c (.int .i64 0))))⟩] [2])
.ret)
.skip))
(.seq
(.reg 3 [⟨(some 5),none,(.q (.mov (.t 0)))⟩,⟨(some 6),none,(.q (.nchk (.t 5)))⟩,⟨(some 7),none,(.q (.faddr 1 (.t 6)))⟩,⟨(some 8),none,(.q (.load none (.t 7)))⟩,⟨(some 2),none,(.q (.mov (.t 8)))⟩] [2])
.ret)))
theorem fok66 : FOK Tryz.prog 66 (9,ic66,[(.t 2)]):=.mk (pf:=[]) (an:=[(0,[0]),(1,[0,4]),(2,[2]),(3,[2])]) (by kernel_rfl) (fnOK_of Tryz.func66 (by kernel_rfl) (by kernel_rfl) (by kernel_rfl))
def ic67 : IC :=
(.seq
(.reg 0 [⟨(some 4),none,(.q (.mov (.c (.int .i64 0))))⟩] [0,1])
(.seq
(.seq
(.reg 1 [⟨(some 5),none,(.q (.mov (.t 0)))⟩,⟨(some 6),none,(.q (.isnil (.pointer 105) false (.t 5)))⟩,⟨(some 7),none,(.q (.mov (.t 6)))⟩,⟨(some 8),(some ⟨7,false⟩),(.q (.mov (.t 0)))⟩,⟨(some 9),(some ⟨7,false⟩),(.q (.nchk (.t 8)))⟩,⟨(some 10),(some ⟨7,false⟩),(.q (.faddr 0 (.t 9)))⟩,⟨(some 11),(some ⟨7,false⟩),(.q (.load none (.t 10)))⟩,⟨(some 12),(some ⟨7,false⟩),(.q (.mov (.t 1)))⟩,⟨(some 13),(some ⟨7,false⟩),(.call 73 [(.t 11),(.t 12)])⟩,⟨(some 14),(some ⟨7,false⟩),(.q (.not (.t 13)))⟩,⟨(some 15),none,(.q (.pick (.t 7) (.c (.bool true)) (.t 14)))⟩] [0,1,15])
(.cond (.t 15)
(.seq
(.reg 2 [⟨(some 4),none,(.q (.mov (.c (.int .i64 0))))⟩] [4])
.ret)
.skip))
(.seq
(.reg 3 [⟨(some 16),none,(.q (.mov (.t 0)))⟩,⟨(some 17),none,(.q (.nchk (.t 16)))⟩,⟨(some 18),none,(.q (.faddr 0 (.t 17)))⟩,⟨(some 19),none,(.q (.load none (.t 18)))⟩,⟨(some 20),none,(.q (.mov (.t 1)))⟩,⟨(some 21),none,(.q (.iaddr 17 (.t 19) (.t 20)))⟩,⟨(some 22),none,(.q (.faddr 16 (.t 21)))⟩,⟨(some 23),none,(.q (.load none (.t 22)))⟩,⟨(some 4),none,(.q (.mov (.t 23)))⟩] [4])
.ret)))
theorem fok67 : FOK Tryz.prog 67 (24,ic67,[(.t 4)]):=.mk (pf:=[]) (an:=[(0,[0,1]),(1,[0,1,15]),(2,[4]),(3,[4])]) (by kernel_rfl) (fnOK_of Tryz.func67 (by kernel_rfl) (by kernel_rfl) (by kernel_rfl))
def ic68 : IC :=
(.seq
(.reg 0 [⟨(some 4),none,(.q (.mov (.c (.bool false))))⟩] [0,1])
(.seq
(.seq
(.reg 1 [⟨(some 6),none,(.q (.mov (.t 0)))⟩,⟨(some 7),none,(.q (.len 0 (.t 6)))⟩,⟨(some 8),none,(.q (.mov (.t 1)))⟩,⟨(some 9),none,(.q (.len 0 (.t 8)))⟩,⟨(some 10),none,(.q (.bin .neq (.t 7) (.t 9)))⟩] [0,1,10])
(.cond (.t 10)
(.seq
(.reg 2 [⟨(some 4),none,(.q (.mov (.c (.bool false))))⟩] [4])
.ret)
.skip))
(.seq
(.seq
(.reg 3 [⟨(some 5),none,(.q (.mov (.c (.int .i64 0))))⟩] [0,1,5])
(.block 0
(.loop
(.seq
(.seq
(.reg 4 [⟨(some 11),none,(.q (.mov (.t 5)))⟩,⟨(some 12),none,(.q (.mov (.t 0)))⟩,⟨(some 13),none,(.q (.len 0 (.t 12)))⟩,⟨(some 14),none,(.q (.bin .lss (.t 11) (.t 13)))⟩] [0,1,5,14])
(.cond (.t 14)
.skip
(.exit 0)))
(.seq
(.block 1
(.seq
(.dreg 6 [⟨(some 17),none,(.q (.mov (.t 0)))⟩,⟨(some 18),none,(.q (.mov (.t 5)))⟩,⟨(some 19),none,(.q (.iaddr 1 (.t 17) (.t 18)))⟩,⟨(some 20),none,(.q (.load none (.t 19)))⟩,⟨(some 21),none,(.q (.mov (.t 1)))⟩,⟨(some 22),none,(.q (.mov (.t 5)))⟩,⟨(some 23),none,(.q (.iaddr 1 (.t 21) (.t 22)))⟩,⟨(some 24),none,(.q (.load none (.t 23)))⟩,⟨(some 25),none,(.q (.bin .neq (.t 20) (.t 24)))⟩] false [0,1,5,25])
(.cond (.t 25)
(.seq
(.reg 7 [⟨(some 4),none,(.q (.mov (.c (.bool false))))⟩] [4])
.ret)
.skip)))
(.reg 5 [⟨(some 15),none,(.q (.mov (.t 5)))⟩,⟨(some 16),none,(.q (.bin .add (.t 15) (.c (.int .i64 1))))⟩,⟨(some 5),none,(.q (.mov (.t 16)))⟩] [0,1,5]))))))
(.seq
(.reg 8 [⟨(some 4),none,(.q (.mov (.c (.bool true))))⟩] [4])
.ret))))
theorem fok68 : FOK Tryz.prog 68 (26,ic68,[(.t 4)]):=.mk (pf:=[]) (an:=[(0,[0,1]),(1,[0,1,10]),(2,[4]),(3,[0,1,5]),(4,[0,1,5,14]),(5,[0,1,5]),(6,[0,1,5,25]),(7,[4]),(8,[4])]) (by kernel_rfl) (fnOK_of Tryz.func68 (by kernel_rfl) (by kernel_rfl) (by kernel_rfl))
def ic69 : IC :=
(.seq
(.reg 0 [⟨(some 8),none,(.q (.mov (.c (.int .i64 0))))⟩] [0,1,2,3])
(.seq
(.seq
(.reg 1 [⟨(some 11),none,(.q (.mov (.t 1)))⟩,⟨(some 12),none,(.q (.len 0 (.t 11)))⟩,⟨(some 13),none,(.q (.mov (.c (.int .i64 0))))⟩] [0,2,3,11,12,13])
(.block 0
(.loop
(.seq
(.reg 2 [⟨(some 14),none,(.q (.bin .lss (.t 13) (.t 12)))⟩] [0,2,3,11,12,13,14])
(.seq
(.cond (.t 14)
.skip
(.exit 0))
(.seq
(.block 1
(.seq
(.reg 3 [⟨(some 15),none,(.q (.iaddr 15 (.t 11) (.t 13)))⟩,⟨(some 16),none,(.q (.load (some 15) (.t 15)))⟩,⟨(some 10),none,(.alloc [(.str []),(.int .i64 0),(.str []),(.str []),(.int .u8 0),(.str []),.nilslice,.nilslice,.nilslice,.nilslice,.nilslice,.nilslice,.nilslice,.nilslice,.nilslice])⟩,⟨none,none,(.store 15 (.t 10) (.t 16))⟩] [0,2,3,10,11,12,13])
(.seq
(.seq
(.reg 4 [⟨(some 17),none,(.q (.load (some 15) (.t 10)))⟩,⟨(some 18),none,(.pcall 135 [(.t 17)])⟩,⟨(some 19),none,(.q (.not (.t 18)))⟩] [0,2,3,10,11,12,13,19])
(.cond (.t 19)
(.seq
(.reg 5 [⟨(some 8),none,(.q (.mov (.c (.int .i64 4))))⟩] [8])
.ret)
.skip))
(.seq
(.dreg 6 [⟨(some 20),none,(.q (.mov (.t 0)))⟩,⟨(some 21),none,(.q (.nchk (.t 20)))⟩,⟨(some 22),none,(.q (.faddr 2 (.t 21)))⟩,⟨(some 23),none,(.q (.load none (.t 22)))⟩,⟨(some 24),none,(.q (.faddr 0 (.t 10)))⟩,⟨(some 25),none,(.q (.load none (.t 24)))⟩,⟨(some 26),none,(.q (.mov (.t 0)))⟩,⟨(some 27),none,(.q (.nchk (.t 26)))⟩,⟨(some 28),none,(.q (.faddr 2 (.t 27)))⟩,⟨(some 29),none,(.q (.load none (.t 28)))⟩,⟨(some 30),none,(.q (.faddr 0 (.t 10)))⟩,⟨(some 31),none,(.q (.load none (.t 30)))⟩,⟨(some 32),none,(.q (.lkp 2 .nilslice false (.t 29) (.t 31)))⟩,⟨(some 33),none,(.q (.mov (.t 0)))⟩,⟨(some 34),none,(.q (.nchk (.t 33)))⟩,⟨(some 35),none,(.q (.faddr 0 (.t 34)))⟩,⟨(some 36),none,(.q (.load none (.t 35)))⟩,⟨(some 37),none,(.q (.len 0 (.t 36)))⟩,⟨(some 38),none,(.bslt 1 1 [(.int .i64 0)] [⟨0,⟨1,(.t 37)⟩⟩])⟩,⟨(some 39),none,(.app 1 (.t 32) (.t 38))⟩,⟨none,none,(.mupd 2 (.t 23) (.t 25) (.t 39))⟩] true [0,2,3,10,11,12,13])
(.dreg 7 [⟨(some 40),none,(.q (.mov (.t 0)))⟩,⟨(some 41),none,(.q (.mov (.t 0)))⟩,⟨(some 42),none,(.q (.nchk (.t 41)))⟩,⟨(some 43),none,(.q (.faddr 0 (.t 42)))⟩,⟨(some 44),none,(.q (.load none (.t 43)))⟩,⟨(some 45),none,(.q (.load (some 15) (.t 10)))⟩,⟨(some 46),none,(.pcall 74 [(.t 45)])⟩,⟨(some 47),none,(.q (.mov (.t 2)))⟩,⟨(some 48),none,(.q (.mov (.t 3)))⟩,⟨(some 49),none,(.q (.bld [(.str []),(.int .i64 0),(.str []),(.str []),(.int .u8 0),(.str []),.nilslice,.nilslice,.nilslice,.nilslice,.nilslice,.nilslice,.nilslice,.nilslice,.nilslice,(.int .i64 0),(.int .i64 0)] [⟨0,⟨15,(.t 46)⟩⟩,⟨15,⟨1,(.t 47)⟩⟩,⟨16,⟨1,(.t 48)⟩⟩]))⟩,⟨(some 50),none,(.bslt 17 1 [(.str []),(.int .i64 0),(.str []),(.str []),(.int .u8 0),(.str []),.nilslice,.nilslice,.nilslice,.nilslice,.nilslice,.nilslice,.nilslice,.nilslice,.nilslice,(.int .i64 0),(.int .i64 0)] [⟨0,⟨17,(.t 49)⟩⟩])⟩,⟨(some 51),none,(.app 17 (.t 44) (.t 50))⟩,⟨(some 52),none,(.q (.nchk (.t 40)))⟩,⟨(some 53),none,(.q (.faddr 0 (.t 52)))⟩,⟨none,none,(.store 1 (.t 53) (.t 51))⟩] true [0,2,3,11,12,13])))))
(.reg 8 [⟨(some 54),none,(.q (.bin .add (.t 13) (.c (.int .i64 1))))⟩,⟨(some 13),none,(.q (.mov (.t 54)))⟩] [0,2,3,11,12,13])))))))
(.seq
(.reg 9 [⟨(some 8),none,(.q (.mov (.c (.int .i64 0))))⟩] [8])
.ret)))
theorem fok69 : FOK Tryz.prog 69 (55,ic69,[(.t 8)]):=.mk (pf:=([1000038,1000050] ++ allF1)) (an:=[(0,[0,1,2,3]),(1,[0,2,3,11,12,13]),(2,[0,2,3,11,12,13,14]),(3,[0,2,3,10,11,12,13]),(4,[0,2,3,10,11,12,13,19]),(5,[8]),(6,[0,2,3,10,11,12,13]),(7,[0,2,3,11,12,13]),(8,[0,2,3,11,12,13]),(9,[8])]) (by kernel_rfl) (fnOK_of Tryz.func69 (by kernel_rfl) (by kernel_rfl) (by kernel_rfl))
def ic70 : IC :=
(.seq
(.reg 0 [oM 2 (.c .nilslice)] [0])
(.seq
(.reg 1 [oM 4 (.t 0),oK 5 (.call 136 [(.t 4)]),oM 3 (.t 5)] [3])
(.seq
(.reg 2 [oM 6 (.t 3),oK 7 (.call 137 [(.t 6)])] [3])
(.seq
(.reg 3 [oM 8 (.t 3),oM 2 (.t 8)] [2])
.ret))))
theorem fok70 : FOK Tryz.prog 70 (9,ic70,[(.t 2)]):=fokA [] Tryz.func70
def ic71 : IC :=
(.seq
(.reg 0 [oK 1 (.boxt (.t 0)),oM 2 (.c .nilfunc)] [1])
(.seq
(.reg 1 [oQ 3 (.mkf 138 [] [(.t 1)]),oM 2 (.t 3)] [2])
.ret))
theorem fok71 : FOK Tryz.prog 71 (4,ic71,[(.t 2)]):=fokA [1000001] Tryz.func71
def ic72 : IC :=
(.seq
(.reg 0 [⟨(some 2),none,(.q (.mov (.c .nilslice)))⟩] [0])
(.seq
(.seq
(.reg 1 [⟨(some 3),none,(.q (.mov (.t 0)))⟩,⟨(some 4),none,(.q (.isnil (.slice 3) false (.t 3)))⟩] [0,4])
(.cond (.t 4)
(.seq
(.reg 2 [⟨(some 2),none,(.q (.mov (.c .nilslice)))⟩] [2])
.ret)
.skip))
(.seq
(.reg 3 [⟨(some 5),none,(.bsl 1 0 [(.int .i64 0)] [])⟩,⟨(some 6),none,(.q (.mov (.t 0)))⟩,⟨(some 7),none,(.app 1 (.t 5) (.t 6))⟩,⟨(some 2),none,(.q (.mov (.t 7)))⟩] [2])
.ret)))
theorem fok72 : FOK Tryz.prog 72 (8,ic72,[(.t 2)]):=.mk (pf:=[]) (an:=[(0,[0]),(1,[0,4]),(2,[2]),(3,[2])]) (by kernel_rfl) (fnOK_of Tryz.func72 (by kernel_rfl) (by kernel_rfl) (by kernel_rfl))
def ic73 : IC :=
(.seq
(.reg 0 [⟨(some 4),none,(.q (.mov (.c (.bool false))))⟩] [0,1])
(.seq
(.reg 1 [⟨(some 5),none,(.q (.mov (.t 1)))⟩,⟨(some 6),none,(.q (.bin .geq (.t 5) (.c (.int .i64 0))))⟩,⟨(some 7),none,(.q (.mov (.t 6)))⟩,⟨(some 8),(some ⟨7,true⟩),(.q (.mov (.t 1)))⟩,⟨(some 9),(some ⟨7,true⟩),(.q (.mov (.t 0)))⟩,⟨(some 10),(some ⟨7,true⟩),(.q (.len 0 (.t 9)))⟩,⟨(some 11),(some ⟨7,true⟩),(.q (.bin .lss (.t 8) (.t 10)))⟩,⟨(some 12),none,(.q (.pick (.t 7) (.t 11) (.c (.bool false))))⟩,⟨(some 4),none,(.q (.mov (.t 12)))⟩] [4])
.ret))
theorem fok73 : FOK Tryz.prog 73 (13,ic73,[(.t 4)]):=.mk (pf:=[]) (an:=[(0,[0,1]),(1,[4])]) (by kernel_rfl) (fnOK_of Tryz.func73 (by kernel_rfl) (by kernel_rfl) (by kernel_rfl))
def ic74 : IC :=
(.seq
(.reg 0 [⟨(some 1),none,(.box (.t 0))⟩,⟨(some 2),none,(.alloc [(.str []),(.int .i64 0),(.str []),(.str []),(.int .u8 0),(.str []),.nilslice,.nilslice,.nilslice,.nilslice,.nilslice,.nilslice,.nilslice,.nilslice,.nilslice])⟩] [1,2])
(.seq
(.dreg 1 [⟨(some 7),none,(.q (.faddr 6 (.t 1)))⟩,⟨(some 8),none,(.q (.load none (.t 7)))⟩,⟨(some 9),none,(.pcall 139 [(.t 8)])⟩,⟨(some 10),none,(.q (.faddr 9 (.t 1)))⟩,⟨(some 11),none,(.q (.load none (.t 10)))⟩,⟨(some 12),none,(.pcall 139 [(.t 11)])⟩,⟨(some 13),none,(.q (.faddr 14 (.t 1)))⟩,⟨(some 14),none,(.q (.load none (.t 13)))⟩,⟨(some 15),none,(.pcall 140 [(.t 14)])⟩,⟨(some 16),none,(.q (.faddr 6 (.t 1)))⟩,⟨none,none,(.store 1 (.t 16) (.t 9))⟩,⟨(some 17),none,(.q (.faddr 9 (.t 1)))⟩,⟨none,none,(.store 1 (.t 17) (.t 12))⟩,⟨(some 18),none,(.q (.faddr 14 (.t 1)))⟩,⟨none,none,(.store 1 (.t 18) (.t 15))⟩] false [1,2])
(.seq
(.seq
(.reg 2 [⟨(some 19),none,(.q (.faddr 7 (.t 1)))⟩,⟨(some 20),none,(.q (.faddr 8 (.t 1)))⟩,⟨(some 21),none,(.q (.faddr 10 (.t 1)))⟩,⟨(some 22),none,(.q (.faddr 11 (.t 1)))⟩,⟨(some 23),none,(.q (.faddr 12 (.t 1)))⟩,⟨(some 24),none,(.q (.faddr 13 (.t 1)))⟩,⟨(some 25),none,(.bslt 1 6 [.nilptr] [⟨0,⟨1,(.t 19)⟩⟩,⟨1,⟨1,(.t 20)⟩⟩,⟨2,⟨1,(.t 21)⟩⟩,⟨3,⟨1,(.t 22)⟩⟩,⟨4,⟨1,(.t 23)⟩⟩,⟨5,⟨1,(.t 24)⟩⟩])⟩,⟨(some 26),none,(.q (.len 0 (.t 25)))⟩,⟨(some 27),none,(.q (.mov (.c (.int .i64 0))))⟩] [1,2,25,26,27])
(.block 0
(.loop
(.seq
(.reg 3 [⟨(some 28),none,(.q (.bin .lss (.t 27) (.t 26)))⟩] [1,2,25,26,27,28])
(.seq
(.cond (.t 28)
.skip
(.exit 0))
(.seq
(.block 1
(.seq
(.reg 4 [⟨(some 29),none,(.q (.iaddr 1 (.t 25) (.t 27)))⟩,⟨(some 30),none,(.q (.load none (.t 29)))⟩,⟨(some 4),none,(.q (.mov (.t 30)))⟩] [1,2,4,25,26,27])
(.seq
(.reg 5 [⟨(some 31),none,(.q (.mov (.t 4)))⟩,⟨(some 32),none,(.q (.mov (.t 4)))⟩,⟨(some 33),none,(.q (.nchk (.t 32)))⟩,⟨(some 34),none,(.q (.load none (.t 33)))⟩,⟨(some 35),none,(.call 141 [(.t 34)])⟩,⟨(some 36),none,(.q (.nchk (.t 31)))⟩,⟨none,none,(.store 1 (.t 36) (.t 35))⟩] [1,2,4,25,26,27])
(.seq
(.reg 6 [⟨(some 37),none,(.q (.mov (.t 4)))⟩,⟨(some 38),none,(.q (.nchk (.t 37)))⟩,⟨(some 39),none,(.q (.load none (.t 38)))⟩,⟨(some 40),none,(.q (.len 0 (.t 39)))⟩,⟨(some 41),none,(.q (.mov (.c (.int .i64 0))))⟩] [1,2,4,25,26,27,39,40,41])
(.block 2
(.loop
(.seq
(.reg 7 [⟨(some 42),none,(.q (.bin .lss (.t 41) (.t 40)))⟩] [1,2,4,25,26,27,39,40,41,42])
(.seq
(.cond (.t 42)
.skip
(.exit 2))
(.seq
(.block 3
(.seq
(.reg 8 [⟨(some 43),none,(.q (.mov (.t 41)))⟩,⟨(some 44),none,(.q (.iaddr 7 (.t 39) (.t 41)))⟩,⟨(some 45),none,(.q (.load (some 7) (.t 44)))⟩,⟨(some 6),none,(.alloc [(.int .u8 0),(.str []),(.int .u8 0),(.int .i64 0),(.str []),(.str []),.nilslice])⟩,⟨(some 5),none,(.q (.mov (.t 43)))⟩,⟨none,none,(.store 7 (.t 6) (.t 45))⟩] [1,2,4,5,6,25,26,27,39,40,41])
(.dreg 9 [⟨(some 46),none,(.q (.mov (.t 4)))⟩,⟨(some 47),none,(.q (.nchk (.t 46)))⟩,⟨(some 48),none,(.q (.load none (.t 47)))⟩,⟨(some 49),none,(.q (.mov (.t 5)))⟩,⟨(some 50),none,(.q (.load (some 7) (.t 6)))⟩,⟨(some 51),none,(.pcall 142 [(.t 50)])⟩,⟨(some 52),none,(.q (.iaddr 7 (.t 48) (.t 49)))⟩,⟨none,none,(.store 7 (.t 52) (.t 51))⟩] false [1,2,4,25,26,27,39,40,41])))
(.reg 10 [⟨(some 53),none,(.q (.bin .add (.t 41) (.c (.int .i64 1))))⟩,⟨(some 41),none,(.q (.mov (.t 53)))⟩] [1,2,4,25,26,27,39,40,41]))))))))))
(.reg 11 [⟨(some 54),none,(.q (.bin .add (.t 27) (.c (.int .i64 1))))⟩,⟨(some 27),none,(.q (.mov (.t 54)))⟩] [1,2,25,26,27])))))))
(.seq
(.reg 12 [⟨(some 55),none,(.q (.load (some 15) (.t 1)))⟩,⟨none,none,(.store 15 (.t 2) (.t 55))⟩] [2])
.ret))))
theorem fok74 : FOK Tryz.prog 74 (56,ic74,[(.cell (some 15) 2)]):=.mk (pf:=([1000025] ++ List.filter (fun k => k != 141) allF1)) (an:=[(0,[1,2]),(1,[1,2]),(2,[1,2,25,26,27]),(3,[1,2,25,26,27,28]),(4,[1,2,4,25,26,27]),(5,[1,2,4,25,26,27]),(6,[1,2,4,25,26,27,39,40,41]),(7,[1,2,4,25,26,27,39,40,41,42]),(8,[1,2,4,5,6,25,26,27,39,40,41]),(9,[1,2,4,25,26,27,39,40,41]),(10,[1,2,4,25,26,27,39,40,41]),(11,[1,2,25,26,27]),(12,[2])]) (by kernel_rfl) (fnOK_of Tryz.func74 (by kernel_rfl) (by kernel_rfl) (by kernel_rfl))
def ic75 : IC :=
(.seq
(.reg 0 [⟨(some 4),none,(.q (.mov (.c (.bool false))))⟩] [0,1])
(.seq
(.reg 1 [⟨(some 5),none,(.q (.mov (.t 0)))⟩,⟨(some 6),none,(.q (.mov (.t 1)))⟩,⟨(some 7),none,(.call 143 [(.t 5),(.t 6)])⟩,⟨(some 8),none,(.q (.bin .geq (.t 7) (.c (.int .i64 0))))⟩,⟨(some 4),none,(.q (.mov (.t 8)))⟩] [4])
.ret))
theorem fok75 : FOK Tryz.prog 75 (9,ic75,[(.t 4)]):=.mk (pf:=[]) (an:=[(0,[0,1]),(1,[4])]) (by kernel_rfl) (fnOK_of Tryz.func75 (by kernel_rfl) (by kernel_rfl) (by kernel_rfl))
def ic76 : IC :=
(.seq
(.reg 0 [oK 2 (.boxt (.t 0)),oM 3 (cB false)] [1,2])
(.seq
(.reg 1 [oQ 4 (.load (some 15) (.t 1)),oQ 5 (.load (some 5) (.t 2)),oK 6 (.call 32 [(.t 4),(.t 5)]),oM 3 (.t 6)] [3])
.ret))
theorem fok76 : FOK Tryz.prog 76 (7,ic76,[(.t 3)]):=fokA [1000002] Tryz.func76
def ic80 : IC :=
(.seq
(.reg 0 [⟨(some 2),none,(.q (.mov (.c .nilptr)))⟩,⟨(some 3),none,(.q (.mov (.c (.int .i64 0))))⟩] [0])
(.seq
(.seq
(.reg 1 [⟨(some 11),none,(.q (.mov (.t 0)))⟩,⟨(some 12),none,(.q (.isnil (.pointer 105) false (.t 11)))⟩] [0,12])
(.cond (.t 12)
(.seq
(.reg 2 [⟨(some 2),none,(.q (.mov (.c .nilptr)))⟩,⟨(some 3),none,(.q (.mov (.c (.int .i64 2))))⟩] [2,3])
.ret)
.skip))
(.seq
(.reg 3 [⟨(some 13),none,.mkmap⟩,⟨(some 14),none,.mkmap⟩,⟨(some 15),none,.mkmap⟩,⟨(some 16),none,(.q (.bld [.nilslice,.nilmap,.nilmap,.nilmap] [⟨1,⟨1,(.t 13)⟩⟩,⟨2,⟨1,(.t 14)⟩⟩,⟨3,⟨1,(.t 15)⟩⟩]))⟩,⟨(some 17),none,(.box (.t 16))⟩,⟨(some 4),none,(.q (.mov (.t 17)))⟩] [0,4])
(.seq
(.seq
(.reg 4 [⟨(some 18),none,(.q (.mov (.t 0)))⟩,⟨(some 19),none,(.call 17 [(.t 18)])⟩,⟨(some 20),none,(.q (.mov (.c (.int .i64 0))))⟩] [0,4,19,20])
(.block 0
(.loop
(.seq
(.reg 5 [⟨(some 21),none,(.q (.bin .lss (.t 20) (.t 19)))⟩] [0,4,19,20,21])
(.seq
(.cond (.t 21)
.skip
(.exit 0))
(.seq
(.block 1
(.seq
(.reg 6 [⟨(some 22),none,(.q (.mov (.t 20)))⟩,⟨(some 5),none,(.q (.mov (.t 22)))⟩] [0,4,5,19,20])
(.seq
(.reg 7 [⟨(some 24),none,(.q (.mov (.t 0)))⟩,⟨(some 25),none,(.q (.mov (.t 5)))⟩,⟨(some 26),none,(.call 19 [(.t 24),(.t 25)])⟩,⟨(some 23),none,(.q (.mov (.t 26)))⟩,⟨(some 27),none,(.q (.ext 0 (.t 23)))⟩,⟨(some 28),none,(.q (.ext 1 (.t 23)))⟩,⟨(some 6),none,(.alloc [(.str []),(.int .i64 0),(.str []),(.str []),(.int .u8 0),(.str []),.nilslice,.nilslice,.nilslice,.nilslice,.nilslice,.nilslice,.nilslice,.nilslice,.nilslice])⟩,⟨none,none,(.store 15 (.t 6) (.t 27))⟩,⟨(some 7),none,(.q (.mov (.t 28)))⟩] [0,4,5,6,7,19,20])
(.seq
(.seq
(.reg 8 [⟨(some 29),none,(.q (.mov (.t 7)))⟩,⟨(some 30),none,(.q (.bin .neq (.t 29) (.c (.int .i64 0))))⟩] [0,4,5,6,7,19,20,30])
(.cond (.t 30)
(.seq
(.reg 9 [⟨(some 31),none,(.q (.mov (.t 7)))⟩,⟨(some 2),none,(.q (.mov (.c .nilptr)))⟩,⟨(some 3),none,(.q (.mov (.t 31)))⟩] [2,3])
.ret)
.skip))
(.seq
(.dreg 10 [⟨(some 32),none,(.q (.mov (.t 4)))⟩,⟨(some 33),none,(.q (.mov (.t 4)))⟩,⟨(some 34),none,(.q (.nchk (.t 33)))⟩,⟨(some 35),none,(.q (.faddr 0 (.t 34)))⟩,⟨(some 36),none,(.q (.load none (.t 35)))⟩,⟨(some 37),none,(.q (.load (some 15) (.t 6)))⟩,⟨(some 38),none,(.bslt 15 1 [(.str []),(.int .i64 0),(.str []),(.str []),(.int .u8 0),(.str []),.nilslice,.nilslice,.nilslice,.nilslice,.nilslice,.nilslice,.nilslice,.nilslice,.nilslice] [⟨0,⟨15,(.t 37)⟩⟩])⟩,⟨(some 39),none,(.app 15 (.t 36) (.t 38))⟩,⟨(some 40),none,(.q (.nchk (.t 32)))⟩,⟨(some 41),none,(.q (.faddr 0 (.t 40)))⟩,⟨none,none,(.store 1 (.t 41) (.t 39))⟩] true [0,4,5,6,19,20])
(.seq
(.dreg 11 [⟨(some 42),none,(.q (.mov (.t 4)))⟩,⟨(some 43),none,(.q (.nchk (.t 42)))⟩,⟨(some 44),none,(.q (.faddr 2 (.t 43)))⟩,⟨(some 45),none,(.q (.load none (.t 44)))⟩,⟨(some 46),none,(.q (.faddr 0 (.t 6)))⟩,⟨(some 47),none,(.q (.load none (.t 46)))⟩,⟨(some 48),none,(.q (.mov (.t 4)))⟩,⟨(some 49),none,(.q (.nchk (.t 48)))⟩,⟨(some 50),none,(.q (.faddr 2 (.t 49)))⟩,⟨(some 51),none,(.q (.load none (.t 50)))⟩,⟨(some 52),none,(.q (.faddr 0 (.t 6)))⟩,⟨(some 53),none,(.q (.load none (.t 52)))⟩,⟨(some 54),none,(.q (.lkp 2 .nilslice false (.t 51) (.t 53)))⟩,⟨(some 55),none,(.q (.mov (.t 5)))⟩,⟨(some 56),none,(.bslt 1 1 [(.int .i64 0)] [⟨0,⟨1,(.t 55)⟩⟩])⟩,⟨(some 57),none,(.app 1 (.t 54) (.t 56))⟩,⟨none,none,(.mupd 2 (.t 45) (.t 47) (.t 57))⟩] true [0,4,5,6,19,20])
(.seq
(.seq
(.reg 12 [⟨(some 58),none,(.q (.load (some 15) (.t 6)))⟩,⟨(some 59),none,(.call 146 [(.t 58)])⟩,⟨(some 60),none,(.mrange (.t 59))⟩] [0,4,5,6,19,20,60])
(.block 2
(.loop
(.seq
(.reg 13 [⟨(some 61),none,(.mnext (.t 60))⟩,⟨(some 62),none,(.q (.ext 0 (.t 61)))⟩] [0,4,5,6,19,20,60,62])
(.seq
(.cond (.t 62)
.skip
(.exit 2))
(.block 3
(.seq
(.reg 14 [⟨(some 63),none,(.ment (.t 60))⟩,⟨(some 64),none,(.q (.ext 0 (.t 63)))⟩,⟨(some 8),none,(.q (.mov (.t 64)))⟩] [0,4,5,6,8,19,20,60])
(.dreg 15 [⟨(some 65),none,(.q (.mov (.t 4)))⟩,⟨(some 66),none,(.q (.nchk (.t 65)))⟩,⟨(some 67),none,(.q (.faddr 1 (.t 66)))⟩,⟨(some 68),none,(.q (.load none (.t 67)))⟩,⟨(some 69),none,(.q (.mov (.t 8)))⟩,⟨(some 70),none,(.q (.mov (.t 4)))⟩,⟨(some 71),none,(.q (.nchk (.t 70)))⟩,⟨(some 72),none,(.q (.faddr 1 (.t 71)))⟩,⟨(some 73),none,(.q (.load none (.t 72)))⟩,⟨(some 74),none,(.q (.mov (.t 8)))⟩,⟨(some 75),none,(.q (.lkp 2 .nilslice false (.t 73) (.t 74)))⟩,⟨(some 76),none,(.q (.mov (.t 5)))⟩,⟨(some 77),none,(.bslt 1 1 [(.int .i64 0)] [⟨0,⟨1,(.t 76)⟩⟩])⟩,⟨(some 78),none,(.app 1 (.t 75) (.t 77))⟩,⟨none,none,(.mupd 2 (.t 68) (.t 69) (.t 78))⟩] true [0,4,5,6,19,20,60]))))))))
(.seq
(.reg 16 [⟨(some 79),none,(.q (.faddr 9 (.t 6)))⟩,⟨(some 80),none,(.q (.load none (.t 79)))⟩,⟨(some 81),none,(.q (.len 0 (.t 80)))⟩,⟨(some 82),none,(.q (.mov (.c (.int .i64 0))))⟩] [0,4,5,19,20,80,81,82])
(.block 4
(.loop
(.seq
(.reg 17 [⟨(some 83),none,(.q (.bin .lss (.t 82) (.t 81)))⟩] [0,4,5,19,20,80,81,82,83])
(.seq
(.cond (.t 83)
.skip
(.exit 4))
(.seq
(.block 5
(.seq
(.reg 18 [⟨(some 84),none,(.q (.iaddr 5 (.t 80) (.t 82)))⟩,⟨(some 85),none,(.q (.load (some 5) (.t 84)))⟩,⟨(some 10),none,(.alloc [(.str []),(.int .u8 0),(.int .i64 0),(.str []),(.str [])])⟩,⟨none,none,(.store 5 (.t 10) (.t 85))⟩] [0,4,5,10,19,20,80,81,82])
(.seq
(.dreg 19 [⟨(some 86),none,(.q (.mov (.t 4)))⟩,⟨(some 87),none,(.q (.nchk (.t 86)))⟩,⟨(some 88),none,(.q (.faddr 3 (.t 87)))⟩,⟨(some 89),none,(.q (.load none (.t 88)))⟩,⟨(some 90),none,(.q (.faddr 0 (.t 10)))⟩,⟨(some 91),none,(.q (.load none (.t 90)))⟩,⟨(some 92),none,(.q (.lkp 2 .nilslice false (.t 89) (.t 91)))⟩,⟨(some 93),none,(.q (.mov (.t 5)))⟩,⟨(some 94),none,(.call 147 [(.t 92),(.t 93)])⟩,⟨(some 95),none,(.q (.not (.t 94)))⟩] false [0,4,5,10,19,20,80,81,82,95])
(.cond (.t 95)
(.dreg 20 [⟨(some 96),none,(.q (.mov (.t 4)))⟩,⟨(some 97),none,(.q (.nchk (.t 96)))⟩,⟨(some 98),none,(.q (.faddr 3 (.t 97)))⟩,⟨(some 99),none,(.q (.load none (.t 98)))⟩,⟨(some 100),none,(.q (.faddr 0 (.t 10)))⟩,⟨(some 101),none,(.q (.load none (.t 100)))⟩,⟨(some 102),none,(.q (.mov (.t 4)))⟩,⟨(some 103),none,(.q (.nchk (.t 102)))⟩,⟨(some 104),none,(.q (.faddr 3 (.t 103)))⟩,⟨(some 105),none,(.q (.load none (.t 104)))⟩,⟨(some 106),none,(.q (.faddr 0 (.t 10)))⟩,⟨(some 107),none,(.q (.load none (.t 106)))⟩,⟨(some 108),none,(.q (.lkp 2 .nilslice false (.t 105) (.t 107)))⟩,⟨(some 109),none,(.q (.mov (.t 5)))⟩,⟨(some 110),none,(.bslt 1 1 [(.int .i64 0)] [⟨0,⟨1,(.t 109)⟩⟩])⟩,⟨(some 111),none,(.app 1 (.t 108) (.t 110))⟩,⟨none,none,(.mupd 2 (.t 99) (.t 101) (.t 111))⟩] true [0,4,5,19,20,80,81,82])
.skip))))
(.reg 21 [⟨(some 112),none,(.q (.bin .add (.t 82) (.c (.int .i64 1))))⟩,⟨(some 82),none,(.q (.mov (.t 112)))⟩] [0,4,5,19,20,80,81,82]))))))))))))))
(.reg 22 [⟨(some 113),none,(.q (.bin .add (.t 20) (.c (.int .i64 1))))⟩,⟨(some 20),none,(.q (.mov (.t 113)))⟩] [0,4,19,20])))))))
(.seq
(.reg 23 [⟨(some 114),none,(.q (.mov (.t 4)))⟩,⟨(some 2),none,(.q (.mov (.t 114)))⟩,⟨(some 3),none,(.q (.mov (.c (.int .i64 0))))⟩] [2,3])
.ret)))))
theorem fok80 : FOK Tryz.prog 80 (115,ic80,[(.t 2),(.t 3)]):=.mk (pf:=[1000038,1000056,1000077,1000110]) (an:=[(0,[0]),(1,[0,12]),(2,[2,3]),(3,[0,4]),(4,[0,4,19,20]),(5,[0,4,19,20,21]),(6,[0,4,5,19,20]),(7,[0,4,5,6,7,19,20]),(8,[0,4,5,6,7,19,20,30]),(9,[2,3]),(10,[0,4,5,6,19,20]),(11,[0,4,5,6,19,20]),(12,[0,4,5,6,19,20,60]),(13,[0,4,5,6,19,20,60,62]),(14,[0,4,5,6,8,19,20,60]),(15,[0,4,5,6,19,20,60]),(16,[0,4,5,19,20,80,81,82]),(17,[0,4,5,19,20,80,81,82,83]),(18,[0,4,5,10,19,20,80,81,82]),(19,[0,4,5,10,19,20,80,81,82,95]),(20,[0,4,5,19,20,80,81,82]),(21,[0,4,5,19,20,80,81,82]),(22,[0,4,19,20]),(23,[2,3])]) (by kernel_rfl) (fnOK_of Tryz.func80 (by kernel_rfl) (by kernel_rfl) (by kernel_rfl))
def ic90 : IC :=
(.seq
(.reg 0 [oK 2 (.boxt (.t 0)),oK 3 (.boxt (.t 1)),oM 4 (cB false)] [2,3])
(.seq
(.reg 1 [oQ 5 (.faddr 0 (.t 2)),oQ 6 (.load none (.t 5)),oQ 7 (.faddr 0 (.t 3)),oQ 8 (.load none (.t 7)),oQ 9 (.bin .eql (.t 6) (.t 8)),oM 10 (.t 9),gQ 11 10 true (.load (some 5) (.t 2)),gQ 12 10 true (.load (some 5) (.t 3)),gK 13 10 true (.call 150 [(.t 11),(.t 12)]),oQ 14 (.pick (.t 10) (.t 13) (cB false)),oM 4 (.t 14)] [4])
.ret))
theorem fok90 : FOK Tryz.prog 90 (15,ic90,[(.t 4)]):=fokA [1000002,1000003] Tryz.func90
def ic92 : IC :=
(.seq
(.reg 0 [oK 1 (.boxt (.t 0)),oK 2 (.alloc [(.str []),(zU 0),(zI 0),(.str []),(.str [])])] [1,2])
(.seq
(.reg 1 [oQ 3 (.faddr 0 (.t 1)),oQ 4 (.load none (.t 3)),oQ 5 (.faddr 1 (.t 1)),oQ 6 (.load (some 3) (.t 5)),oK 7 (.call 152 [(.t 4),(.t 6)]),oN (.store 5 (.t 2) (.t 7))] [2])
.ret))
theorem fok92 : FOK Tryz.prog 92 (8,ic92,[(.cell (some 5) 2)]):=fokA [1000001] Tryz.func92
def ic106 : IC :=
(.seq
(.reg 0 [oK 2 (.boxt (.t 0)),oK 3 (.boxt (.t 1)),oM 4 (cI 0)] [2,3])
(.seq
(.reg 1 [oQ 5 (.mkf 165 [] [(.t 2),(.t 3)]),oQ 6 (.mkf 166 [] [(.t 2),(.t 3)]),oQ 7 (.mkf 168 [] [(.t 2),(.t 3)]),oK 8 (.bslt 1 3 [.nilfunc] [⟨0,⟨1,(.t 5)⟩⟩,⟨1,⟨1,(.t 6)⟩⟩,⟨2,⟨1,(.t 7)⟩⟩]),oK 9 (.call 164 [(.t 8)]),oM 4 (.t 9)] [4])
.ret))
theorem fok106 : FOK Tryz.prog 106 (10,ic106,[(.t 4)]):=fokA [1000002,1000003,1000008] Tryz.func106
end Go.Id.Tryz
