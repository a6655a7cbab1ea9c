/- The compiled codes of functions,written by a program out of the given form. Conditions: none. -/
import Derived.Test.YtiallonafbejaaaDoorFwYa
import Derived.Test.YtiallonafbejaaaDoorProg
set_option linter.all false
namespace Go.Id.Tryd
open Go Go.Id Go.Proofs
def allF0 : List Nat:=List.range 121
def ic3 : IC :=
(.seq
(.reg 0 [⟨(some 4),none,(.q (.mov (.c (.bool false))))⟩] [0,1])
(.seq
(.seq
(.reg 1 [⟨(some 18),none,(.q (.mov (.t 0)))⟩,⟨(some 19),none,(.q (.mov (.t 1)))⟩,⟨(some 20),none,(.pcall 5 [(.t 18),(.t 19)])⟩,⟨(some 21),none,(.q (.mov (.t 20)))⟩,⟨(some 22),(some ⟨21,false⟩),(.pcall 6 [])⟩,⟨(some 23),(some ⟨21,false⟩),(.q (.not (.t 22)))⟩,⟨(some 24),none,(.q (.pick (.t 21) (.c (.bool true)) (.t 23)))⟩] [0,1,24])
(.cond (.t 24)
(.seq
(.reg 2 [⟨(some 25),none,(.pcall 6 [])⟩,⟨(some 4),none,(.q (.mov (.t 25)))⟩] [4])
.ret)
.skip))
(.seq
(.reg 3 [⟨(some 27),none,(.q (.mov (.t 0)))⟩,⟨(some 28),none,(.q (.mov (.t 1)))⟩,⟨(some 29),none,(.call 7 [(.t 27),(.t 28)])⟩,⟨(some 26),none,(.q (.mov (.t 29)))⟩,⟨(some 30),none,(.q (.ext 0 (.t 26)))⟩,⟨(some 31),none,(.q (.ext 1 (.t 26)))⟩,⟨(some 5),none,(.q (.mov (.t 30)))⟩,⟨(some 6),none,(.q (.mov (.t 31)))⟩] [0,1,5,6])
(.seq
(.seq
(.reg 4 [⟨(some 32),none,(.q (.mov (.t 6)))⟩,⟨(some 33),none,(.q (.bin .neq (.t 32) (.c (.int .i64 0))))⟩,⟨(some 34),none,(.q (.mov (.t 33)))⟩,⟨(some 35),(some ⟨34,false⟩),(.q (.mov (.t 0)))⟩,⟨(some 36),(some ⟨34,false⟩),(.q (.len 0 (.t 35)))⟩,⟨(some 37),(some ⟨34,false⟩),(.q (.bin .eql (.t 36) (.c (.int .i64 0))))⟩,⟨(some 38),none,(.q (.pick (.t 34) (.c (.bool true)) (.t 37)))⟩] [0,1,5,38])
(.cond (.t 38)
(.seq
(.reg 5 [⟨(some 4),none,(.q (.mov (.c (.bool true))))⟩] [4])
.ret)
.skip))
(.seq
(.reg 6 [⟨(some 39),none,(.q (.mov (.t 0)))⟩,⟨(some 40),none,(.q (.mov (.t 0)))⟩,⟨(some 41),none,(.q (.len 0 (.t 40)))⟩,⟨(some 42),none,(.q (.bin .sub (.t 41) (.c (.int .i64 1))))⟩,⟨(some 43),none,(.q (.iaddr 2 (.t 39) (.t 42)))⟩,⟨(some 44),none,(.q (.load (some 2) (.t 43)))⟩,⟨(some 7),none,(.alloc [(.int .i64 0),.nilslice])⟩,⟨none,none,(.store 2 (.t 7) (.t 44))⟩] [0,1,5,7])
(.seq
(.reg 7 [⟨(some 45),none,(.bsl 2 0 [(.int .i64 0),.nilslice] [])⟩,⟨(some 46),none,(.q (.mov (.t 0)))⟩,⟨(some 47),none,(.q (.mov (.t 0)))⟩,⟨(some 48),none,(.q (.len 0 (.t 47)))⟩,⟨(some 49),none,(.q (.bin .sub (.t 48) (.c (.int .i64 1))))⟩,⟨(some 50),none,(.q (.slc 2 (.t 46) none (some (.t 49))))⟩,⟨(some 51),none,(.app 2 (.t 45) (.t 50))⟩,⟨(some 8),none,(.q (.mov (.t 51)))⟩] [1,5,7,8])
(.seq
(.reg 8 [⟨(some 53),none,(.q (.mov (.t 8)))⟩,⟨(some 54),none,(.q (.mov (.t 1)))⟩,⟨(some 55),none,(.call 7 [(.t 53),(.t 54)])⟩,⟨(some 52),none,(.q (.mov (.t 55)))⟩,⟨(some 56),none,(.q (.ext 0 (.t 52)))⟩,⟨(some 57),none,(.q (.ext 1 (.t 52)))⟩,⟨(some 9),none,(.q (.mov (.t 56)))⟩,⟨(some 10),none,(.q (.mov (.t 57)))⟩] [1,5,7,8,9,10])
(.seq
(.seq
(.dreg 9 [⟨(some 58),none,(.q (.mov (.t 10)))⟩,⟨(some 59),none,(.q (.bin .neq (.t 58) (.c (.int .i64 0))))⟩,⟨(some 60),none,(.q (.mov (.t 59)))⟩,⟨(some 61),(some ⟨60,false⟩),(.q (.mov (.t 9)))⟩,⟨(some 62),(some ⟨60,false⟩),(.pcall 8 [(.t 61)])⟩,⟨(some 63),(some ⟨60,false⟩),(.q (.mov (.t 5)))⟩,⟨(some 64),(some ⟨60,false⟩),(.pcall 8 [(.t 63)])⟩,⟨(some 65),(some ⟨60,false⟩),(.q (.faddr 1 (.t 7)))⟩,⟨(some 66),(some ⟨60,false⟩),(.q (.load none (.t 65)))⟩,⟨(some 67),(some ⟨60,false⟩),(.q (.len 0 (.t 66)))⟩,⟨(some 68),(some ⟨60,false⟩),(.q (.bin .sub (.t 64) (.t 67)))⟩,⟨(some 69),(some ⟨60,false⟩),(.q (.bin .neq (.t 62) (.t 68)))⟩,⟨(some 70),none,(.q (.pick (.t 60) (.c (.bool true)) (.t 69)))⟩] false [1,5,7,8,9,70])
(.cond (.t 70)
(.seq
(.reg 10 [⟨(some 4),none,(.q (.mov (.c (.bool false))))⟩] [4])
.ret)
.skip))
(.seq
(.seq
(.reg 11 [⟨(some 11),none,(.q (.mov (.c (.int .i64 0))))⟩] [1,5,7,8,9,11])
(.block 0
(.loop
(.seq
(.seq
(.reg 12 [⟨(some 71),none,(.q (.mov (.t 11)))⟩,⟨(some 72),none,(.q (.mov (.t 9)))⟩,⟨(some 73),none,(.pcall 8 [(.t 72)])⟩,⟨(some 74),none,(.q (.bin .lss (.t 71) (.t 73)))⟩] [1,5,7,8,9,11,74])
(.cond (.t 74)
.skip
(.exit 0)))
(.seq
(.block 1
(.seq
(.reg 14 [⟨(some 78),none,(.q (.mov (.t 9)))⟩,⟨(some 79),none,(.q (.mov (.t 11)))⟩,⟨(some 80),none,(.pcall 9 [(.t 78),(.t 79)])⟩,⟨(some 77),none,(.q (.mov (.t 80)))⟩,⟨(some 81),none,(.q (.ext 0 (.t 77)))⟩,⟨(some 82),none,(.q (.ext 1 (.t 77)))⟩,⟨(some 12),none,(.alloc [(.str []),(.int .i64 0),(.str []),(.str []),(.int .u8 0),(.str []),.nilslice,.nilslice,.nilslice,.nilslice,.nilslice,.nilslice,.nilslice,.nilslice,.nilslice])⟩,⟨none,none,(.store 15 (.t 12) (.t 81))⟩,⟨(some 13),none,(.q (.mov (.t 82)))⟩] [1,5,7,8,9,11,12,13])
(.seq
(.reg 15 [⟨(some 84),none,(.q (.mov (.t 5)))⟩,⟨(some 85),none,(.q (.mov (.t 11)))⟩,⟨(some 86),none,(.pcall 9 [(.t 84),(.t 85)])⟩,⟨(some 83),none,(.q (.mov (.t 86)))⟩,⟨(some 87),none,(.q (.ext 0 (.t 83)))⟩,⟨(some 88),none,(.q (.ext 1 (.t 83)))⟩,⟨(some 14),none,(.alloc [(.str []),(.int .i64 0),(.str []),(.str []),(.int .u8 0),(.str []),.nilslice,.nilslice,.nilslice,.nilslice,.nilslice,.nilslice,.nilslice,.nilslice,.nilslice])⟩,⟨none,none,(.store 15 (.t 14) (.t 87))⟩,⟨(some 15),none,(.q (.mov (.t 88)))⟩] [1,5,7,8,9,11,12,13,14,15])
(.seq
(.reg 16 [⟨(some 89),none,(.q (.mov (.t 13)))⟩,⟨(some 90),none,(.q (.bin .neq (.t 89) (.c (.int .i64 0))))⟩,⟨(some 91),none,(.q (.mov (.t 90)))⟩,⟨(some 92),(some ⟨91,false⟩),(.q (.mov (.t 15)))⟩,⟨(some 93),(some ⟨91,false⟩),(.q (.bin .neq (.t 92) (.c (.int .i64 0))))⟩,⟨(some 94),none,(.q (.pick (.t 91) (.c (.bool true)) (.t 93)))⟩,⟨(some 95),none,(.q (.mov (.t 94)))⟩,⟨(some 96),(some ⟨95,false⟩),(.q (.load (some 15) (.t 12)))⟩,⟨(some 97),(some ⟨95,false⟩),(.q (.load (some 15) (.t 14)))⟩,⟨(some 98),(some ⟨95,false⟩),(.pcall 10 [(.t 96),(.t 97)])⟩,⟨(some 99),(some ⟨95,false⟩),(.q (.not (.t 98)))⟩,⟨(some 100),none,(.q (.pick (.t 95) (.c (.bool true)) (.t 99)))⟩,⟨(some 101),none,(.q (.mov (.t 100)))⟩,⟨(some 102),(some ⟨101,false⟩),(.q (.mov (.t 9)))⟩,⟨(some 103),(some ⟨101,false⟩),(.q (.mov (.t 11)))⟩,⟨(some 104),(some ⟨101,false⟩),(.pcall 11 [(.t 102),(.t 103)])⟩,⟨(some 105),(some ⟨101,false⟩),(.q (.mov (.t 5)))⟩,⟨(some 106),(some ⟨101,false⟩),(.q (.mov (.t 11)))⟩,⟨(some 107),(some ⟨101,false⟩),(.pcall 11 [(.t 105),(.t 106)])⟩,⟨(some 108),(some ⟨101,false⟩),(.q (.bin .neq (.t 104) (.t 107)))⟩,⟨(some 109),none,(.q (.pick (.t 101) (.c (.bool true)) (.t 108)))⟩] [1,5,7,8,9,11,109])
(.cond (.t 109)
(.seq
(.reg 17 [⟨(some 4),none,(.q (.mov (.c (.bool false))))⟩] [4])
.ret)
.skip)))))
(.reg 13 [⟨(some 75),none,(.q (.mov (.t 11)))⟩,⟨(some 76),none,(.q (.bin .add (.t 75) (.c (.int .i64 1))))⟩,⟨(some 11),none,(.q (.mov (.t 76)))⟩] [1,5,7,8,9,11]))))))
(.seq
(.seq
(.reg 18 [⟨(some 110),none,(.q (.faddr 1 (.t 7)))⟩,⟨(some 111),none,(.q (.load none (.t 110)))⟩,⟨(some 112),none,(.q (.len 0 (.t 111)))⟩,⟨(some 113),none,(.q (.bin .eql (.t 112) (.c (.int .i64 0))))⟩] [1,5,7,8,113])
(.cond (.t 113)
(.seq
(.reg 19 [⟨(some 4),none,(.q (.mov (.c (.bool true))))⟩] [4])
.ret)
.skip))
(.seq
(.reg 20 [⟨(some 114),none,(.q (.faddr 1 (.t 7)))⟩,⟨(some 115),none,(.q (.load none (.t 114)))⟩,⟨(some 116),none,(.q (.faddr 1 (.t 7)))⟩,⟨(some 117),none,(.q (.load none (.t 116)))⟩,⟨(some 118),none,(.q (.len 0 (.t 117)))⟩,⟨(some 119),none,(.q (.bin .sub (.t 118) (.c (.int .i64 1))))⟩,⟨(some 120),none,(.q (.slc 15 (.t 115) none (some (.t 119))))⟩,⟨(some 121),none,(.q (.faddr 1 (.t 7)))⟩,⟨none,none,(.store 1 (.t 121) (.t 120))⟩] [1,5,7,8])
(.seq
(.reg 21 [⟨(some 123),none,(.q (.mov (.t 8)))⟩,⟨(some 124),none,(.q (.load (some 2) (.t 7)))⟩,⟨(some 125),none,(.bslt 2 1 [(.int .i64 0),.nilslice] [⟨0,⟨2,(.t 124)⟩⟩])⟩,⟨(some 126),none,(.app 2 (.t 123) (.t 125))⟩,⟨(some 127),none,(.q (.mov (.t 1)))⟩,⟨(some 128),none,(.call 7 [(.t 126),(.t 127)])⟩,⟨(some 122),none,(.q (.mov (.t 128)))⟩,⟨(some 129),none,(.q (.ext 0 (.t 122)))⟩,⟨(some 130),none,(.q (.ext 1 (.t 122)))⟩,⟨(some 16),none,(.q (.mov (.t 129)))⟩,⟨(some 17),none,(.q (.mov (.t 130)))⟩] [5,16,17])
(.seq
(.reg 22 [⟨(some 131),none,(.q (.mov (.t 17)))⟩,⟨(some 132),none,(.q (.bin .eql (.t 131) (.c (.int .i64 0))))⟩,⟨(some 133),none,(.q (.mov (.t 132)))⟩,⟨(some 134),(some ⟨133,true⟩),(.q (.mov (.t 16)))⟩,⟨(some 135),(some ⟨133,true⟩),(.pcall 8 [(.t 134)])⟩,⟨(some 136),(some ⟨133,true⟩),(.q (.mov (.t 5)))⟩,⟨(some 137),(some ⟨133,true⟩),(.pcall 8 [(.t 136)])⟩,⟨(some 138),(some ⟨133,true⟩),(.q (.bin .sub (.t 137) (.c (.int .i64 1))))⟩,⟨(some 139),(some ⟨133,true⟩),(.q (.bin .eql (.t 135) (.t 138)))⟩,⟨(some 140),none,(.q (.pick (.t 133) (.t 139) (.c (.bool false))))⟩,⟨(some 4),none,(.q (.mov (.t 140)))⟩] [4])
.ret)))))))))))))
theorem fok3 : FOK Tryd.prog 3 (141,ic3,[(.t 4)]):=.mk (pf:=([1000125] ++ List.filter (fun k => k != 7) allF0)) (an:=[(0,[0,1]),(1,[0,1,24]),(2,[4]),(3,[0,1,5,6]),(4,[0,1,5,38]),(5,[4]),(6,[0,1,5,7]),(7,[1,5,7,8]),(8,[1,5,7,8,9,10]),(9,[1,5,7,8,9,70]),(10,[4]),(11,[1,5,7,8,9,11]),(12,[1,5,7,8,9,11,74]),(13,[1,5,7,8,9,11]),(14,[1,5,7,8,9,11,12,13]),(15,[1,5,7,8,9,11,12,13,14,15]),(16,[1,5,7,8,9,11,109]),(17,[4]),(18,[1,5,7,8,113]),(19,[4]),(20,[1,5,7,8]),(21,[5,16,17]),(22,[4])]) (by kernel_rfl) (fnOK_of Tryd.func3 (by kernel_rfl) (by kernel_rfl) (by kernel_rfl))
def ic5 : IC :=
(.seq
(.reg 0 [⟨(some 4),none,(.q (.mov (.c (.bool false))))⟩] [0,1])
(.seq
(.seq
(.reg 1 [⟨(some 9),none,(.q (.mov (.t 0)))⟩,⟨(some 10),none,(.q (.len 0 (.t 9)))⟩,⟨(some 11),none,(.q (.bin .gtr (.t 10) (.c (.int .i64 30))))⟩,⟨(some 12),none,(.q (.mov (.t 11)))⟩,⟨(some 13),(some ⟨12,false⟩),(.q (.mov (.t 1)))⟩,⟨(some 14),(some ⟨12,false⟩),(.q (.len 0 (.t 13)))⟩,⟨(some 15),(some ⟨12,false⟩),(.q (.bin .gtr (.t 14) (.c (.int .i64 40))))⟩,⟨(some 16),none,(.q (.pick (.t 12) (.c (.bool true)) (.t 15)))⟩] [0,1,16])
(.cond (.t 16)
(.seq
(.reg 2 [⟨(some 4),none,(.q (.mov (.c (.bool true))))⟩] [4])
.ret)
.skip))
(.seq
(.reg 3 [⟨(some 17),none,(.q (.mov (.t 1)))⟩,⟨(some 18),none,(.q (.len 0 (.t 17)))⟩,⟨(some 5),none,(.q (.mov (.t 18)))⟩] [0,1,5])
(.seq
(.seq
(.reg 4 [⟨(some 6),none,(.q (.mov (.c (.int .i64 0))))⟩] [0,1,5,6])
(.block 0
(.loop
(.seq
(.seq
(.reg 5 [⟨(some 19),none,(.q (.mov (.t 6)))⟩,⟨(some 20),none,(.q (.mov (.t 1)))⟩,⟨(some 21),none,(.q (.len 0 (.t 20)))⟩,⟨(some 22),none,(.q (.bin .lss (.t 19) (.t 21)))⟩] [0,1,5,6,22])
(.cond (.t 22)
.skip
(.exit 0)))
(.seq
(.block 1
(.seq
(.reg 7 [⟨(some 25),none,(.q (.mov (.t 1)))⟩,⟨(some 26),none,(.q (.mov (.t 6)))⟩,⟨(some 27),none,(.q (.iaddr 15 (.t 25) (.t 26)))⟩,⟨(some 28),none,(.q (.load (some 15) (.t 27)))⟩,⟨(some 29),none,(.call 15 [(.t 28)])⟩] [0,1,5,6,29])
(.cond (.t 29)
(.seq
(.reg 8 [⟨(some 4),none,(.q (.mov (.c (.bool true))))⟩] [4])
.ret)
.skip)))
(.reg 6 [⟨(some 23),none,(.q (.mov (.t 6)))⟩,⟨(some 24),none,(.q (.bin .add (.t 23) (.c (.int .i64 1))))⟩,⟨(some 6),none,(.q (.mov (.t 24)))⟩] [0,1,5,6]))))))
(.seq
(.seq
(.reg 9 [⟨(some 7),none,(.q (.mov (.c (.int .i64 0))))⟩] [0,5,7])
(.block 2
(.loop
(.seq
(.seq
(.reg 10 [⟨(some 30),none,(.q (.mov (.t 7)))⟩,⟨(some 31),none,(.q (.mov (.t 0)))⟩,⟨(some 32),none,(.q (.len 0 (.t 31)))⟩,⟨(some 33),none,(.q (.bin .lss (.t 30) (.t 32)))⟩] [0,5,7,33])
(.cond (.t 33)
.skip
(.exit 2)))
(.seq
(.block 3
(.seq
(.reg 12 [⟨(some 36),none,(.q (.mov (.t 5)))⟩,⟨(some 37),none,(.q (.mov (.t 0)))⟩,⟨(some 38),none,(.q (.mov (.t 7)))⟩,⟨(some 39),none,(.q (.iaddr 2 (.t 37) (.t 38)))⟩,⟨(some 40),none,(.q (.faddr 1 (.t 39)))⟩,⟨(some 41),none,(.q (.load none (.t 40)))⟩,⟨(some 42),none,(.q (.len 0 (.t 41)))⟩,⟨(some 43),none,(.q (.bin .add (.t 36) (.t 42)))⟩,⟨(some 5),none,(.q (.mov (.t 43)))⟩] [0,5,7])
(.seq
(.seq
(.reg 13 [⟨(some 44),none,(.q (.mov (.t 5)))⟩,⟨(some 45),none,(.q (.bin .gtr (.t 44) (.c (.int .i64 80))))⟩] [0,5,7,45])
(.cond (.t 45)
(.seq
(.reg 14 [⟨(some 4),none,(.q (.mov (.c (.bool true))))⟩] [4])
.ret)
.skip))
(.seq
(.reg 15 [⟨(some 8),none,(.q (.mov (.c (.int .i64 0))))⟩] [0,5,7,8])
(.block 4
(.loop
(.seq
(.seq
(.reg 16 [⟨(some 46),none,(.q (.mov (.t 8)))⟩,⟨(some 47),none,(.q (.mov (.t 0)))⟩,⟨(some 48),none,(.q (.mov (.t 7)))⟩,⟨(some 49),none,(.q (.iaddr 2 (.t 47) (.t 48)))⟩,⟨(some 50),none,(.q (.faddr 1 (.t 49)))⟩,⟨(some 51),none,(.q (.load none (.t 50)))⟩,⟨(some 52),none,(.q (.len 0 (.t 51)))⟩,⟨(some 53),none,(.q (.bin .lss (.t 46) (.t 52)))⟩] [0,5,7,8,53])
(.cond (.t 53)
.skip
(.exit 4)))
(.seq
(.block 5
(.seq
(.reg 18 [⟨(some 56),none,(.q (.mov (.t 0)))⟩,⟨(some 57),none,(.q (.mov (.t 7)))⟩,⟨(some 58),none,(.q (.iaddr 2 (.t 56) (.t 57)))⟩,⟨(some 59),none,(.q (.faddr 1 (.t 58)))⟩,⟨(some 60),none,(.q (.load none (.t 59)))⟩,⟨(some 61),none,(.q (.mov (.t 8)))⟩,⟨(some 62),none,(.q (.iaddr 15 (.t 60) (.t 61)))⟩,⟨(some 63),none,(.q (.load (some 15) (.t 62)))⟩,⟨(some 64),none,(.call 15 [(.t 63)])⟩] [0,5,7,8,64])
(.cond (.t 64)
(.seq
(.reg 19 [⟨(some 4),none,(.q (.mov (.c (.bool true))))⟩] [4])
.ret)
.skip)))
(.reg 17 [⟨(some 54),none,(.q (.mov (.t 8)))⟩,⟨(some 55),none,(.q (.bin .add (.t 54) (.c (.int .i64 1))))⟩,⟨(some 8),none,(.q (.mov (.t 55)))⟩] [0,5,7,8])))))))))
(.reg 11 [⟨(some 34),none,(.q (.mov (.t 7)))⟩,⟨(some 35),none,(.q (.bin .add (.t 34) (.c (.int .i64 1))))⟩,⟨(some 7),none,(.q (.mov (.t 35)))⟩] [0,5,7]))))))
(.seq
(.reg 20 [⟨(some 4),none,(.q (.mov (.c (.bool false))))⟩] [4])
.ret))))))
theorem fok5 : FOK Tryd.prog 5 (65,ic5,[(.t 4)]):=.mk (pf:=[]) (an:=[(0,[0,1]),(1,[0,1,16]),(2,[4]),(3,[0,1,5]),(4,[0,1,5,6]),(5,[0,1,5,6,22]),(6,[0,1,5,6]),(7,[0,1,5,6,29]),(8,[4]),(9,[0,5,7]),(10,[0,5,7,33]),(11,[0,5,7]),(12,[0,5,7]),(13,[0,5,7,45]),(14,[4]),(15,[0,5,7,8]),(16,[0,5,7,8,53]),(17,[0,5,7,8]),(18,[0,5,7,8,64]),(19,[4]),(20,[4])]) (by kernel_rfl) (fnOK_of Tryd.func5 (by kernel_rfl) (by kernel_rfl) (by kernel_rfl))
def ic6 : IC :=
(.seq
(.reg 0 [⟨(some 0),none,(.q (.mov (.c (.bool false))))⟩] [])
(.seq
(.reg 1 [⟨(some 6),none,(.call 16 [(.c (.str [98]))])⟩,⟨(some 7),none,(.call 16 [(.c (.str [99]))])⟩,⟨(some 8),none,(.bslt 15 2 [(.str []),(.int .i64 0),(.str []),(.str []),(.int .u8 0),(.str []),.nilslice,.nilslice,.nilslice,.nilslice,.nilslice,.nilslice,.nilslice,.nilslice,.nilslice] [⟨0,⟨15,(.t 6)⟩⟩,⟨15,⟨15,(.t 7)⟩⟩])⟩,⟨(some 9),none,(.q (.bld [(.int .i64 0),.nilslice] [⟨0,⟨1,(.c (.int .i64 5))⟩⟩,⟨1,⟨1,(.t 8)⟩⟩]))⟩,⟨(some 10),none,(.call 16 [(.c (.str [97]))])⟩,⟨(some 11),none,(.bslt 15 1 [(.str []),(.int .i64 0),(.str []),(.str []),(.int .u8 0),(.str []),.nilslice,.nilslice,.nilslice,.nilslice,.nilslice,.nilslice,.nilslice,.nilslice,.nilslice] [⟨0,⟨15,(.t 10)⟩⟩])⟩,⟨(some 12),none,(.q (.bld [(.int .i64 0),.nilslice] [⟨0,⟨1,(.c (.int .i64 7))⟩⟩,⟨1,⟨1,(.t 11)⟩⟩]))⟩,⟨(some 13),none,(.bslt 2 2 [(.int .i64 0),.nilslice] [⟨0,⟨2,(.t 9)⟩⟩,⟨2,⟨2,(.t 12)⟩⟩])⟩,⟨(some 14),none,(.call 16 [(.c (.str [97]))])⟩,⟨(some 15),none,(.bslt 15 1 [(.str []),(.int .i64 0),(.str []),(.str []),(.int .u8 0),(.str []),.nilslice,.nilslice,.nilslice,.nilslice,.nilslice,.nilslice,.nilslice,.nilslice,.nilslice] [⟨0,⟨15,(.t 14)⟩⟩])⟩,⟨(some 16),none,(.call 7 [(.t 13),(.t 15)])⟩,⟨(some 5),none,(.q (.mov (.t 16)))⟩,⟨(some 17),none,(.q (.ext 0 (.t 5)))⟩,⟨(some 18),none,(.q (.ext 1 (.t 5)))⟩,⟨(some 1),none,(.q (.mov (.t 17)))⟩,⟨(some 2),none,(.q (.mov (.t 18)))⟩] [1,2])
(.seq
(.seq
(.reg 2 [⟨(some 19),none,(.q (.mov (.t 2)))⟩,⟨(some 20),none,(.q (.bin .neq (.t 19) (.c (.int .i64 0))))⟩] [1,20])
(.cond (.t 20)
(.seq
(.reg 3 [⟨(some 0),none,(.q (.mov (.c (.bool false))))⟩] [0])
.ret)
.skip))
(.seq
(.reg 4 [⟨(some 22),none,(.q (.mov (.t 1)))⟩,⟨(some 23),none,(.call 9 [(.t 22),(.c (.int .i64 2))])⟩,⟨(some 21),none,(.q (.mov (.t 23)))⟩,⟨(some 24),none,(.q (.ext 0 (.t 21)))⟩,⟨(some 25),none,(.q (.ext 1 (.t 21)))⟩,⟨(some 3),none,(.alloc [(.str []),(.int .i64 0),(.str []),(.str []),(.int .u8 0),(.str []),.nilslice,.nilslice,.nilslice,.nilslice,.nilslice,.nilslice,.nilslice,.nilslice,.nilslice])⟩,⟨none,none,(.store 15 (.t 3) (.t 24))⟩,⟨(some 4),none,(.q (.mov (.t 25)))⟩] [1,3,4])
(.seq
(.reg 5 [⟨(some 26),none,(.q (.mov (.t 1)))⟩,⟨(some 27),none,(.call 8 [(.t 26)])⟩,⟨(some 28),none,(.q (.bin .eql (.t 27) (.c (.int .i64 4))))⟩,⟨(some 29),none,(.q (.mov (.t 28)))⟩,⟨(some 30),(some ⟨29,true⟩),(.q (.mov (.t 1)))⟩,⟨(some 31),(some ⟨29,true⟩),(.call 17 [(.t 30)])⟩,⟨(some 32),(some ⟨29,true⟩),(.q (.bin .eql (.t 31) (.c (.int .i64 1))))⟩,⟨(some 33),none,(.q (.pick (.t 29) (.t 32) (.c (.bool false))))⟩,⟨(some 34),none,(.q (.mov (.t 33)))⟩,⟨(some 35),(some ⟨34,true⟩),(.q (.mov (.t 4)))⟩,⟨(some 36),(some ⟨34,true⟩),(.q (.bin .eql (.t 35) (.c (.int .i64 0))))⟩,⟨(some 37),none,(.q (.pick (.t 34) (.t 36) (.c (.bool false))))⟩,⟨(some 38),none,(.q (.mov (.t 37)))⟩,⟨(some 39),(some ⟨38,true⟩),(.q (.faddr 0 (.t 3)))⟩,⟨(some 40),(some ⟨38,true⟩),(.q (.load none (.t 39)))⟩,⟨(some 41),(some ⟨38,true⟩),(.q (.bin .eql (.t 40) (.c (.str [99]))))⟩,⟨(some 42),none,(.q (.pick (.t 38) (.t 41) (.c (.bool false))))⟩,⟨(some 43),none,(.q (.mov (.t 42)))⟩,⟨(some 44),(some ⟨43,true⟩),(.q (.mov (.t 1)))⟩,⟨(some 45),(some ⟨43,true⟩),(.call 11 [(.t 44),(.c (.int .i64 2))])⟩,⟨(some 46),(some ⟨43,true⟩),(.q (.bin .eql (.t 45) (.c (.int .i64 0))))⟩,⟨(some 47),none,(.q (.pick (.t 43) (.t 46) (.c (.bool false))))⟩,⟨(some 48),none,(.q (.mov (.t 47)))⟩,⟨(some 49),(some ⟨48,true⟩),(.q (.mov (.t 1)))⟩,⟨(some 50),(some ⟨48,true⟩),(.call 18 [(.t 49),(.c (.int .i64 2))])⟩,⟨(some 51),(some ⟨48,true⟩),(.q (.bin .eql (.t 50) (.c (.int .i64 5))))⟩,⟨(some 52),none,(.q (.pick (.t 48) (.t 51) (.c (.bool false))))⟩,⟨(some 53),none,(.q (.mov (.t 52)))⟩,⟨(some 54),(some ⟨53,true⟩),(.q (.mov (.t 1)))⟩,⟨(some 55),(some ⟨53,true⟩),(.call 18 [(.t 54),(.c (.int .i64 0))])⟩,⟨(some 56),(some ⟨53,true⟩),(.q (.bin .eql (.t 55) (.c (.int .i64 1025))))⟩,⟨(some 57),none,(.q (.pick (.t 53) (.t 56) (.c (.bool false))))⟩,⟨(some 58),none,(.q (.mov (.t 57)))⟩,⟨(some 59),(some ⟨58,true⟩),(.q (.mov (.t 1)))⟩,⟨(some 60),(some ⟨58,true⟩),(.call 13 [(.t 59),(.c (.str [97]))])⟩,⟨(some 61),(some ⟨58,true⟩),(.bslt 1 2 [(.int .i64 0)] [⟨0,⟨1,(.c (.int .i64 0))⟩⟩,⟨1,⟨1,(.c (.int .i64 3))⟩⟩])⟩,⟨(some 62),(some ⟨58,true⟩),(.call 19 [(.t 60),(.t 61)])⟩,⟨(some 63),none,(.q (.pick (.t 58) (.t 62) (.c (.bool false))))⟩,⟨(some 0),none,(.q (.mov (.t 63)))⟩] [0])
.ret)))))
theorem fok6 : FOK Tryd.prog 6 (64,ic6,[(.t 0)]):=.mk (pf:=[1000008,1000011,1000013,1000015,1000061]) (an:=[(1,[1,2]),(2,[1,20]),(3,[0]),(4,[1,3,4]),(5,[0])]) (by kernel_rfl) (fnOK_of Tryd.func6 (by kernel_rfl) (by kernel_rfl) (by kernel_rfl))
def ic7 : IC :=
(.seq
(.reg 0 [⟨(some 4),none,(.q (.mov (.c .nilptr)))⟩,⟨(some 5),none,(.q (.mov (.c (.int .i64 0))))⟩] [0,1])
(.seq
(.reg 1 [⟨(some 14),none,(.q (.mov (.t 1)))⟩,⟨(some 15),none,(.q (.len 0 (.t 14)))⟩,⟨(some 6),none,(.q (.mov (.t 15)))⟩] [0,1,6])
(.seq
(.seq
(.reg 2 [⟨(some 16),none,(.q (.mov (.t 0)))⟩,⟨(some 17),none,(.q (.len 0 (.t 16)))⟩,⟨(some 18),none,(.q (.mov (.c (.int .i64 0))))⟩] [0,1,6,16,17,18])
(.block 0
(.loop
(.seq
(.reg 3 [⟨(some 19),none,(.q (.bin .lss (.t 18) (.t 17)))⟩] [0,1,6,16,17,18,19])
(.seq
(.cond (.t 19)
.skip
(.exit 0))
(.seq
(.block 1
(.seq
(.reg 4 [⟨(some 20),none,(.q (.iaddr 2 (.t 16) (.t 18)))⟩,⟨(some 21),none,(.q (.load (some 2) (.t 20)))⟩,⟨(some 8),none,(.alloc [(.int .i64 0),.nilslice])⟩,⟨none,none,(.store 2 (.t 8) (.t 21))⟩] [0,1,6,8,16,17,18])
(.reg 5 [⟨(some 22),none,(.q (.mov (.t 6)))⟩,⟨(some 23),none,(.q (.faddr 1 (.t 8)))⟩,⟨(some 24),none,(.q (.load none (.t 23)))⟩,⟨(some 25),none,(.q (.len 0 (.t 24)))⟩,⟨(some 26),none,(.q (.bin .add (.t 22) (.t 25)))⟩,⟨(some 6),none,(.q (.mov (.t 26)))⟩] [0,1,6,16,17,18])))
(.reg 6 [⟨(some 27),none,(.q (.bin .add (.t 18) (.c (.int .i64 1))))⟩,⟨(some 18),none,(.q (.mov (.t 27)))⟩] [0,1,6,16,17,18])))))))
(.seq
(.seq
(.reg 7 [⟨(some 28),none,(.q (.mov (.t 0)))⟩,⟨(some 29),none,(.q (.len 0 (.t 28)))⟩,⟨(some 30),none,(.q (.bin .gtr (.t 29) (.c (.int .i64 16))))⟩,⟨(some 31),none,(.q (.mov (.t 30)))⟩,⟨(some 32),(some ⟨31,false⟩),(.q (.mov (.t 6)))⟩,⟨(some 33),(some ⟨31,false⟩),(.q (.bin .gtr (.t 32) (.c (.int .i64 256))))⟩,⟨(some 34),none,(.q (.pick (.t 31) (.c (.bool true)) (.t 33)))⟩] [0,1,34])
(.cond (.t 34)
(.seq
(.reg 8 [⟨(some 4),none,(.q (.mov (.c .nilptr)))⟩,⟨(some 5),none,(.q (.mov (.c (.int .i64 40))))⟩] [4,5])
.ret)
.skip))
(.seq
(.reg 9 [⟨(some 35),none,(.q (.mov (.t 1)))⟩,⟨(some 36),none,(.q (.len 0 (.t 35)))⟩,⟨(some 37),none,.mkmap⟩,⟨(some 38),none,(.q (.bld [.nilslice,(.int .i64 0),.nilmap] [⟨1,⟨1,(.t 36)⟩⟩,⟨2,⟨1,(.t 37)⟩⟩]))⟩,⟨(some 39),none,(.box (.t 38))⟩,⟨(some 9),none,(.q (.mov (.t 39)))⟩] [0,1,9])
(.seq
(.seq
(.reg 10 [⟨(some 40),none,(.q (.mov (.t 9)))⟩,⟨(some 41),none,(.q (.mov (.t 1)))⟩,⟨(some 42),none,(.call 20 [(.t 40),(.t 41),(.c (.int .i64 (-1))),(.c (.int .i64 1025))])⟩,⟨(some 10),none,(.q (.mov (.t 42)))⟩] [0,9,10])
(.seq
(.reg 11 [⟨(some 43),none,(.q (.mov (.t 10)))⟩,⟨(some 44),none,(.q (.bin .neq (.t 43) (.c (.int .i64 0))))⟩] [0,9,10,44])
(.cond (.t 44)
(.seq
(.reg 12 [⟨(some 45),none,(.q (.mov (.t 10)))⟩,⟨(some 4),none,(.q (.mov (.c .nilptr)))⟩,⟨(some 5),none,(.q (.mov (.t 45)))⟩] [4,5])
.ret)
.skip)))
(.seq
(.seq
(.reg 13 [⟨(some 46),none,(.q (.mov (.t 0)))⟩,⟨(some 47),none,(.q (.len 0 (.t 46)))⟩,⟨(some 48),none,(.q (.mov (.c (.int .i64 0))))⟩] [9,46,47,48])
(.block 2
(.loop
(.seq
(.reg 14 [⟨(some 49),none,(.q (.bin .lss (.t 48) (.t 47)))⟩] [9,46,47,48,49])
(.seq
(.cond (.t 49)
.skip
(.exit 2))
(.seq
(.block 3
(.seq
(.reg 15 [⟨(some 50),none,(.q (.mov (.t 48)))⟩,⟨(some 51),none,(.q (.iaddr 2 (.t 46) (.t 48)))⟩,⟨(some 52),none,(.q (.load (some 2) (.t 51)))⟩,⟨(some 12),none,(.alloc [(.int .i64 0),.nilslice])⟩,⟨(some 11),none,(.q (.mov (.t 50)))⟩,⟨none,none,(.store 2 (.t 12) (.t 52))⟩] [9,11,12,46,47,48])
(.seq
(.seq
(.reg 16 [⟨(some 53),none,(.q (.faddr 0 (.t 12)))⟩,⟨(some 54),none,(.q (.load none (.t 53)))⟩,⟨(some 55),none,(.q (.bin .lss (.t 54) (.c (.int .i64 0))))⟩,⟨(some 56),none,(.q (.mov (.t 55)))⟩,⟨(some 57),(some ⟨56,false⟩),(.q (.faddr 0 (.t 12)))⟩,⟨(some 58),(some ⟨56,false⟩),(.q (.load none (.t 57)))⟩,⟨(some 59),(some ⟨56,false⟩),(.q (.bin .gtr (.t 58) (.c (.int .i64 1024))))⟩,⟨(some 60),none,(.q (.pick (.t 56) (.c (.bool true)) (.t 59)))⟩] [9,11,12,46,47,48,60])
(.cond (.t 60)
(.seq
(.reg 17 [⟨(some 4),none,(.q (.mov (.c .nilptr)))⟩,⟨(some 5),none,(.q (.mov (.c (.int .i64 4))))⟩] [4,5])
.ret)
.skip))
(.seq
(.reg 18 [⟨(some 61),none,(.q (.mov (.t 9)))⟩,⟨(some 62),none,(.q (.faddr 1 (.t 12)))⟩,⟨(some 63),none,(.q (.load none (.t 62)))⟩,⟨(some 64),none,(.q (.mov (.t 11)))⟩,⟨(some 65),none,(.q (.faddr 0 (.t 12)))⟩,⟨(some 66),none,(.q (.load none (.t 65)))⟩,⟨(some 67),none,(.call 20 [(.t 61),(.t 63),(.t 64),(.t 66)])⟩,⟨(some 13),none,(.q (.mov (.t 67)))⟩] [9,13,46,47,48])
(.seq
(.reg 19 [⟨(some 68),none,(.q (.mov (.t 13)))⟩,⟨(some 69),none,(.q (.bin .neq (.t 68) (.c (.int .i64 0))))⟩] [9,13,46,47,48,69])
(.cond (.t 69)
(.seq
(.reg 20 [⟨(some 70),none,(.q (.mov (.t 13)))⟩,⟨(some 4),none,(.q (.mov (.c .nilptr)))⟩,⟨(some 5),none,(.q (.mov (.t 70)))⟩] [4,5])
.ret)
.skip))))))
(.reg 21 [⟨(some 71),none,(.q (.bin .add (.t 48) (.c (.int .i64 1))))⟩,⟨(some 48),none,(.q (.mov (.t 71)))⟩] [9,46,47,48])))))))
(.seq
(.reg 22 [⟨(some 72),none,(.q (.mov (.t 9)))⟩,⟨(some 4),none,(.q (.mov (.t 72)))⟩,⟨(some 5),none,(.q (.mov (.c (.int .i64 0))))⟩] [4,5])
.ret))))))))
theorem fok7 : FOK Tryd.prog 7 (73,ic7,[(.t 4),(.t 5)]):=.mk (pf:=[]) (an:=[(0,[0,1]),(1,[0,1,6]),(2,[0,1,6,16,17,18]),(3,[0,1,6,16,17,18,19]),(4,[0,1,6,8,16,17,18]),(5,[0,1,6,16,17,18]),(6,[0,1,6,16,17,18]),(7,[0,1,34]),(8,[4,5]),(9,[0,1,9]),(10,[0,9,10]),(11,[0,9,10,44]),(12,[4,5]),(13,[9,46,47,48]),(14,[9,46,47,48,49]),(15,[9,11,12,46,47,48]),(16,[9,11,12,46,47,48,60]),(17,[4,5]),(18,[9,13,46,47,48]),(19,[9,13,46,47,48,69]),(20,[4,5]),(21,[9,46,47,48]),(22,[4,5])]) (by kernel_rfl) (fnOK_of Tryd.func7 (by kernel_rfl) (by kernel_rfl) (by kernel_rfl))
def ic8 : IC :=
(.seq
(.reg 0 [⟨(some 2),none,(.q (.mov (.c (.int .i64 0))))⟩] [0])
(.seq
(.seq
(.reg 1 [⟨(some 3),none,(.q (.mov (.t 0)))⟩,⟨(some 4),none,(.q (.isnil (.pointer 59) false (.t 3)))⟩] [0,4])
(.cond (.t 4)
(.seq
(.reg 2 [⟨(some 2),none,(.q (.mov (.c (.int .i64 0))))⟩] [2])
.ret)
.skip))
(.seq
(.reg 3 [⟨(some 5),none,(.q (.mov (.t 0)))⟩,⟨(some 6),none,(.q (.nchk (.t 5)))⟩,⟨(some 7),none,(.q (.faddr 0 (.t 6)))⟩,⟨(some 8),none,(.q (.load none (.t 7)))⟩,⟨(some 9),none,(.q (.len 0 (.t 8)))⟩,⟨(some 2),none,(.q (.mov (.t 9)))⟩] [2])
.ret)))
theorem fok8 : FOK Tryd.prog 8 (10,ic8,[(.t 2)]):=.mk (pf:=[]) (an:=[(0,[0]),(1,[0,4]),(2,[2]),(3,[2])]) (by kernel_rfl) (fnOK_of Tryd.func8 (by kernel_rfl) (by kernel_rfl) (by kernel_rfl))
def ic9 : IC :=
(.seq
(.reg 0 [⟨(some 4),none,(.alloc [(.str []),(.int .i64 0),(.str []),(.str []),(.int .u8 0),(.str []),.nilslice,.nilslice,.nilslice,.nilslice,.nilslice,.nilslice,.nilslice,.nilslice,.nilslice])⟩,⟨(some 5),none,(.q (.mov (.c (.int .i64 0))))⟩] [0,1,4])
(.seq
(.seq
(.reg 1 [⟨(some 6),none,(.q (.mov (.t 0)))⟩,⟨(some 7),none,(.q (.isnil (.pointer 59) false (.t 6)))⟩,⟨(some 8),none,(.q (.mov (.t 7)))⟩,⟨(some 9),(some ⟨8,false⟩),(.q (.mov (.t 0)))⟩,⟨(some 10),(some ⟨8,false⟩),(.q (.nchk (.t 9)))⟩,⟨(some 11),(some ⟨8,false⟩),(.q (.faddr 0 (.t 10)))⟩,⟨(some 12),(some ⟨8,false⟩),(.q (.load none (.t 11)))⟩,⟨(some 13),(some ⟨8,false⟩),(.q (.mov (.t 1)))⟩,⟨(some 14),(some ⟨8,false⟩),(.call 21 [(.t 12),(.t 13)])⟩,⟨(some 15),(some ⟨8,false⟩),(.q (.not (.t 14)))⟩,⟨(some 16),none,(.q (.pick (.t 8) (.c (.bool true)) (.t 15)))⟩] [0,1,4,16])
(.cond (.t 16)
(.seq
(.reg 2 [⟨(some 17),none,(.q (.bld [(.str []),(.int .i64 0),(.str []),(.str []),(.int .u8 0),(.str []),.nilslice,.nilslice,.nilslice,.nilslice,.nilslice,.nilslice,.nilslice,.nilslice,.nilslice] []))⟩,⟨none,none,(.store 15 (.t 4) (.t 17))⟩,⟨(some 5),none,(.q (.mov (.c (.int .i64 5))))⟩] [4,5])
.ret)
.skip))
(.seq
(.reg 3 [⟨(some 18),none,(.q (.mov (.t 0)))⟩,⟨(some 19),none,(.q (.nchk (.t 18)))⟩,⟨(some 20),none,(.q (.faddr 0 (.t 19)))⟩,⟨(some 21),none,(.q (.load none (.t 20)))⟩,⟨(some 22),none,(.q (.mov (.t 1)))⟩,⟨(some 23),none,(.q (.iaddr 17 (.t 21) (.t 22)))⟩,⟨(some 24),none,(.q (.faddr 0 (.t 23)))⟩,⟨(some 25),none,(.q (.load (some 15) (.t 24)))⟩,⟨(some 26),none,(.call 22 [(.t 25)])⟩,⟨none,none,(.store 15 (.t 4) (.t 26))⟩,⟨(some 5),none,(.q (.mov (.c (.int .i64 0))))⟩] [4,5])
.ret)))
theorem fok9 : FOK Tryd.prog 9 (27,ic9,[(.cell (some 15) 4),(.t 5)]):=.mk (pf:=[]) (an:=[(0,[0,1,4]),(1,[0,1,4,16]),(2,[4,5]),(3,[4,5])]) (by kernel_rfl) (fnOK_of Tryd.func9 (by kernel_rfl) (by kernel_rfl) (by kernel_rfl))
def ic10 : IC :=
(.seq
(.reg 0 [⟨(some 2),none,(.boxt (.t 0))⟩,⟨(some 3),none,(.boxt (.t 1))⟩,⟨(some 4),none,(.q (.mov (.c (.bool false))))⟩] [2,3])
(.seq
(.reg 1 [⟨(some 5),none,(.q (.faddr 0 (.t 2)))⟩,⟨(some 6),none,(.q (.load none (.t 5)))⟩,⟨(some 7),none,(.q (.faddr 0 (.t 3)))⟩,⟨(some 8),none,(.q (.load none (.t 7)))⟩,⟨(some 9),none,(.q (.bin .eql (.t 6) (.t 8)))⟩,⟨(some 10),none,(.q (.mov (.t 9)))⟩,⟨(some 11),(some ⟨10,true⟩),(.q (.faddr 1 (.t 2)))⟩,⟨(some 12),(some ⟨10,true⟩),(.q (.load (some 3) (.t 11)))⟩,⟨(some 13),(some ⟨10,true⟩),(.q (.faddr 1 (.t 3)))⟩,⟨(some 14),(some ⟨10,true⟩),(.q (.load (some 3) (.t 13)))⟩,⟨(some 15),(some ⟨10,true⟩),(.q (.eqs [1,2,2] true false (.t 12) (.t 14)))⟩,⟨(some 16),none,(.q (.pick (.t 10) (.t 15) (.c (.bool false))))⟩,⟨(some 17),none,(.q (.mov (.t 16)))⟩,⟨(some 18),(some ⟨17,true⟩),(.q (.faddr 4 (.t 2)))⟩,⟨(some 19),(some ⟨17,true⟩),(.q (.load none (.t 18)))⟩,⟨(some 20),(some ⟨17,true⟩),(.q (.faddr 4 (.t 3)))⟩,⟨(some 21),(some ⟨17,true⟩),(.q (.load none (.t 20)))⟩,⟨(some 22),(some ⟨17,true⟩),(.q (.bin .eql (.t 19) (.t 21)))⟩,⟨(some 23),none,(.q (.pick (.t 17) (.t 22) (.c (.bool false))))⟩,⟨(some 24),none,(.q (.mov (.t 23)))⟩,⟨(some 25),(some ⟨24,true⟩),(.q (.faddr 5 (.t 2)))⟩,⟨(some 26),(some ⟨24,true⟩),(.q (.load none (.t 25)))⟩,⟨(some 27),(some ⟨24,true⟩),(.q (.faddr 5 (.t 3)))⟩,⟨(some 28),(some ⟨24,true⟩),(.q (.load none (.t 27)))⟩,⟨(some 29),(some ⟨24,true⟩),(.q (.bin .eql (.t 26) (.t 28)))⟩,⟨(some 30),none,(.q (.pick (.t 24) (.t 29) (.c (.bool false))))⟩,⟨(some 31),none,(.q (.mov (.t 30)))⟩,⟨(some 32),(some ⟨31,true⟩),(.q (.faddr 6 (.t 2)))⟩,⟨(some 33),(some ⟨31,true⟩),(.q (.load none (.t 32)))⟩,⟨(some 34),(some ⟨31,true⟩),(.q (.faddr 6 (.t 3)))⟩,⟨(some 35),(some ⟨31,true⟩),(.q (.load none (.t 34)))⟩,⟨(some 36),(some ⟨31,true⟩),(.call 23 [(.t 33),(.t 35)])⟩,⟨(some 37),none,(.q (.pick (.t 31) (.t 36) (.c (.bool false))))⟩,⟨(some 38),none,(.q (.mov (.t 37)))⟩,⟨(some 39),(some ⟨38,true⟩),(.q (.faddr 7 (.t 2)))⟩,⟨(some 40),(some ⟨38,true⟩),(.q (.load none (.t 39)))⟩,⟨(some 41),(some ⟨38,true⟩),(.q (.faddr 7 (.t 3)))⟩,⟨(some 42),(some ⟨38,true⟩),(.q (.load none (.t 41)))⟩,⟨(some 43),(some ⟨38,true⟩),(.call 24 [(.t 40),(.t 42)])⟩,⟨(some 44),none,(.q (.pick (.t 38) (.t 43) (.c (.bool false))))⟩,⟨(some 45),none,(.q (.mov (.t 44)))⟩,⟨(some 46),(some ⟨45,true⟩),(.q (.faddr 8 (.t 2)))⟩,⟨(some 47),(some ⟨45,true⟩),(.q (.load none (.t 46)))⟩,⟨(some 48),(some ⟨45,true⟩),(.q (.faddr 8 (.t 3)))⟩,⟨(some 49),(some ⟨45,true⟩),(.q (.load none (.t 48)))⟩,⟨(some 50),(some ⟨45,true⟩),(.call 24 [(.t 47),(.t 49)])⟩,⟨(some 51),none,(.q (.pick (.t 45) (.t 50) (.c (.bool false))))⟩,⟨(some 52),none,(.q (.mov (.t 51)))⟩,⟨(some 53),(some ⟨52,true⟩),(.q (.faddr 9 (.t 2)))⟩,⟨(some 54),(some ⟨52,true⟩),(.q (.load none (.t 53)))⟩,⟨(some 55),(some ⟨52,true⟩),(.q (.faddr 9 (.t 3)))⟩,⟨(some 56),(some ⟨52,true⟩),(.q (.load none (.t 55)))⟩,⟨(some 57),(some ⟨52,true⟩),(.call 23 [(.t 54),(.t 56)])⟩,⟨(some 58),none,(.q (.pick (.t 52) (.t 57) (.c (.bool false))))⟩,⟨(some 59),none,(.q (.mov (.t 58)))⟩,⟨(some 60),(some ⟨59,true⟩),(.q (.faddr 10 (.t 2)))⟩,⟨(some 61),(some ⟨59,true⟩),(.q (.load none (.t 60)))⟩,⟨(some 62),(some ⟨59,true⟩),(.q (.faddr 10 (.t 3)))⟩,⟨(some 63),(some ⟨59,true⟩),(.q (.load none (.t 62)))⟩,⟨(some 64),(some ⟨59,true⟩),(.call 24 [(.t 61),(.t 63)])⟩,⟨(some 65),none,(.q (.pick (.t 59) (.t 64) (.c (.bool false))))⟩,⟨(some 66),none,(.q (.mov (.t 65)))⟩,⟨(some 67),(some ⟨66,true⟩),(.q (.faddr 11 (.t 2)))⟩,⟨(some 68),(some ⟨66,true⟩),(.q (.load none (.t 67)))⟩,⟨(some 69),(some ⟨66,true⟩),(.q (.faddr 11 (.t 3)))⟩,⟨(some 70),(some ⟨66,true⟩),(.q (.load none (.t 69)))⟩,⟨(some 71),(some ⟨66,true⟩),(.call 24 [(.t 68),(.t 70)])⟩,⟨(some 72),none,(.q (.pick (.t 66) (.t 71) (.c (.bool false))))⟩,⟨(some 73),none,(.q (.mov (.t 72)))⟩,⟨(some 74),(some ⟨73,true⟩),(.q (.faddr 12 (.t 2)))⟩,⟨(some 75),(some ⟨73,true⟩),(.q (.load none (.t 74)))⟩,⟨(some 76),(some ⟨73,true⟩),(.q (.faddr 12 (.t 3)))⟩,⟨(some 77),(some ⟨73,true⟩),(.q (.load none (.t 76)))⟩,⟨(some 78),(some ⟨73,true⟩),(.call 24 [(.t 75),(.t 77)])⟩,⟨(some 79),none,(.q (.pick (.t 73) (.t 78) (.c (.bool false))))⟩,⟨(some 80),none,(.q (.mov (.t 79)))⟩,⟨(some 81),(some ⟨80,true⟩),(.q (.faddr 13 (.t 2)))⟩,⟨(some 82),(some ⟨80,true⟩),(.q (.load none (.t 81)))⟩,⟨(some 83),(some ⟨80,true⟩),(.q (.faddr 13 (.t 3)))⟩,⟨(some 84),(some ⟨80,true⟩),(.q (.load none (.t 83)))⟩,⟨(some 85),(some ⟨80,true⟩),(.call 24 [(.t 82),(.t 84)])⟩,⟨(some 86),none,(.q (.pick (.t 80) (.t 85) (.c (.bool false))))⟩,⟨(some 87),none,(.q (.mov (.t 86)))⟩,⟨(some 88),(some ⟨87,true⟩),(.q (.faddr 14 (.t 2)))⟩,⟨(some 89),(some ⟨87,true⟩),(.q (.load none (.t 88)))⟩,⟨(some 90),(some ⟨87,true⟩),(.q (.faddr 14 (.t 3)))⟩,⟨(some 91),(some ⟨87,true⟩),(.q (.load none (.t 90)))⟩,⟨(some 92),(some ⟨87,true⟩),(.call 25 [(.t 89),(.t 91)])⟩,⟨(some 93),none,(.q (.pick (.t 87) (.t 92) (.c (.bool false))))⟩,⟨(some 4),none,(.q (.mov (.t 93)))⟩] [4])
.ret))
theorem fok10 : FOK Tryd.prog 10 (94,ic10,[(.t 4)]):=.mk (pf:=[1000002,1000003]) (an:=[(0,[2,3]),(1,[4])]) (by kernel_rfl) (fnOK_of Tryd.func10 (by kernel_rfl) (by kernel_rfl) (by kernel_rfl))
def ic11 : IC :=
(.seq
(.reg 0 [⟨(some 4),none,(.q (.mov (.c (.int .i64 0))))⟩] [0,1])
(.seq
(.seq
(.reg 1 [⟨(some 5),none,(.q (.mov (.t 0)))⟩,⟨(some 6),none,(.q (.isnil (.pointer 59) false (.t 5)))⟩,⟨(some 7),none,(.q (.mov (.t 6)))⟩,⟨(some 8),(some ⟨7,false⟩),(.q (.mov (.t 0)))⟩,⟨(some 9),(some ⟨7,false⟩),(.q (.nchk (.t 8)))⟩,⟨(some 10),(some ⟨7,false⟩),(.q (.faddr 0 (.t 9)))⟩,⟨(some 11),(some ⟨7,false⟩),(.q (.load none (.t 10)))⟩,⟨(some 12),(some ⟨7,false⟩),(.q (.mov (.t 1)))⟩,⟨(some 13),(some ⟨7,false⟩),(.call 21 [(.t 11),(.t 12)])⟩,⟨(some 14),(some ⟨7,false⟩),(.q (.not (.t 13)))⟩,⟨(some 15),none,(.q (.pick (.t 7) (.c (.bool true)) (.t 14)))⟩] [0,1,15])
(.cond (.t 15)
(.seq
(.reg 2 [⟨(some 4),none,(.q (.mov (.c (.int .i64 (-1)))))⟩] [4])
.ret)
.skip))
(.seq
(.reg 3 [⟨(some 16),none,(.q (.mov (.t 0)))⟩,⟨(some 17),none,(.q (.nchk (.t 16)))⟩,⟨(some 18),none,(.q (.faddr 0 (.t 17)))⟩,⟨(some 19),none,(.q (.load none (.t 18)))⟩,⟨(some 20),none,(.q (.mov (.t 1)))⟩,⟨(some 21),none,(.q (.iaddr 17 (.t 19) (.t 20)))⟩,⟨(some 22),none,(.q (.faddr 15 (.t 21)))⟩,⟨(some 23),none,(.q (.load none (.t 22)))⟩,⟨(some 4),none,(.q (.mov (.t 23)))⟩] [4])
.ret)))
theorem fok11 : FOK Tryd.prog 11 (24,ic11,[(.t 4)]):=.mk (pf:=[]) (an:=[(0,[0,1]),(1,[0,1,15]),(2,[4]),(3,[4])]) (by kernel_rfl) (fnOK_of Tryd.func11 (by kernel_rfl) (by kernel_rfl) (by kernel_rfl))
def ic13 : IC :=
(.seq
(.reg 0 [⟨(some 4),none,(.q (.mov (.c .nilslice)))⟩] [0,1])
(.seq
(.seq
(.reg 1 [⟨(some 5),none,(.q (.mov (.t 0)))⟩,⟨(some 6),none,(.q (.isnil (.pointer 59) false (.t 5)))⟩] [0,1,6])
(.cond (.t 6)
(.seq
(.reg 2 [⟨(some 4),none,(.q (.mov (.c .nilslice)))⟩] [4])
.ret)
.skip))
(.seq
(.reg 3 [⟨(some 7),none,(.q (.mov (.t 0)))⟩,⟨(some 8),none,(.q (.nchk (.t 7)))⟩,⟨(some 9),none,(.q (.faddr 2 (.t 8)))⟩,⟨(some 10),none,(.q (.load none (.t 9)))⟩,⟨(some 11),none,(.q (.mov (.t 1)))⟩,⟨(some 12),none,(.q (.lkp 2 .nilslice false (.t 10) (.t 11)))⟩,⟨(some 13),none,(.call 27 [(.t 12)])⟩,⟨(some 4),none,(.q (.mov (.t 13)))⟩] [4])
.ret)))
theorem fok13 : FOK Tryd.prog 13 (14,ic13,[(.t 4)]):=.mk (pf:=[]) (an:=[(0,[0,1]),(1,[0,1,6]),(2,[4]),(3,[4])]) (by kernel_rfl) (fnOK_of Tryd.func13 (by kernel_rfl) (by kernel_rfl) (by kernel_rfl))
def ic15 : IC :=
(.seq
(.reg 0 [⟨(some 1),none,(.boxt (.t 0))⟩,⟨(some 2),none,(.q (.mov (.c (.bool false))))⟩] [1])
(.seq
(.seq
(.reg 1 [⟨(some 8),none,(.q (.faddr 6 (.t 1)))⟩,⟨(some 9),none,(.q (.load none (.t 8)))⟩,⟨(some 10),none,(.q (.len 0 (.t 9)))⟩,⟨(some 11),none,(.q (.bin .gtr (.t 10) (.c (.int .i64 100))))⟩,⟨(some 12),none,(.q (.mov (.t 11)))⟩,⟨(some 13),(some ⟨12,false⟩),(.q (.faddr 9 (.t 1)))⟩,⟨(some 14),(some ⟨12,false⟩),(.q (.load none (.t 13)))⟩,⟨(some 15),(some ⟨12,false⟩),(.q (.len 0 (.t 14)))⟩,⟨(some 16),(some ⟨12,false⟩),(.q (.bin .gtr (.t 15) (.c (.int .i64 100))))⟩,⟨(some 17),none,(.q (.pick (.t 12) (.c (.bool true)) (.t 16)))⟩,⟨(some 18),none,(.q (.mov (.t 17)))⟩,⟨(some 19),(some ⟨18,false⟩),(.q (.faddr 14 (.t 1)))⟩,⟨(some 20),(some ⟨18,false⟩),(.q (.load none (.t 19)))⟩,⟨(some 21),(some ⟨18,false⟩),(.q (.len 0 (.t 20)))⟩,⟨(some 22),(some ⟨18,false⟩),(.q (.bin .gtr (.t 21) (.c (.int .i64 100))))⟩,⟨(some 23),none,(.q (.pick (.t 18) (.c (.bool true)) (.t 22)))⟩,⟨(some 24),none,(.q (.mov (.t 23)))⟩,⟨(some 25),(some ⟨24,false⟩),(.q (.faddr 0 (.t 1)))⟩,⟨(some 26),(some ⟨24,false⟩),(.q (.load none (.t 25)))⟩,⟨(some 27),(some ⟨24,false⟩),(.q (.len 1 (.t 26)))⟩,⟨(some 28),(some ⟨24,false⟩),(.q (.bin .gtr (.t 27) (.c (.int .i64 1000))))⟩,⟨(some 29),none,(.q (.pick (.t 24) (.c (.bool true)) (.t 28)))⟩,⟨(some 30),none,(.q (.mov (.t 29)))⟩,⟨(some 31),(some ⟨30,false⟩),(.q (.faddr 5 (.t 1)))⟩,⟨(some 32),(some ⟨30,false⟩),(.q (.load none (.t 31)))⟩,⟨(some 33),(some ⟨30,false⟩),(.q (.len 1 (.t 32)))⟩,⟨(some 34),(some ⟨30,false⟩),(.q (.bin .gtr (.t 33) (.c (.int .i64 1000))))⟩,⟨(some 35),none,(.q (.pick (.t 30) (.c (.bool true)) (.t 34)))⟩,⟨(some 36),none,(.q (.mov (.t 35)))⟩,⟨(some 37),(some ⟨36,false⟩),(.q (.faddr 1 (.t 1)))⟩,⟨(some 38),(some ⟨36,false⟩),(.q (.faddr 1 (.t 37)))⟩,⟨(some 39),(some ⟨36,false⟩),(.q (.load none (.t 38)))⟩,⟨(some 40),(some ⟨36,false⟩),(.q (.len 1 (.t 39)))⟩,⟨(some 41),(some ⟨36,false⟩),(.q (.bin .gtr (.t 40) (.c (.int .i64 1000))))⟩,⟨(some 42),none,(.q (.pick (.t 36) (.c (.bool true)) (.t 41)))⟩,⟨(some 43),none,(.q (.mov (.t 42)))⟩,⟨(some 44),(some ⟨43,false⟩),(.q (.faddr 1 (.t 1)))⟩,⟨(some 45),(some ⟨43,false⟩),(.q (.faddr 2 (.t 44)))⟩,⟨(some 46),(some ⟨43,false⟩),(.q (.load none (.t 45)))⟩,⟨(some 47),(some ⟨43,false⟩),(.q (.len 1 (.t 46)))⟩,⟨(some 48),(some ⟨43,false⟩),(.q (.bin .gtr (.t 47) (.c (.int .i64 1000))))⟩,⟨(some 49),none,(.q (.pick (.t 43) (.c (.bool true)) (.t 48)))⟩] [1,49])
(.cond (.t 49)
(.seq
(.reg 2 [⟨(some 2),none,(.q (.mov (.c (.bool true))))⟩] [2])
.ret)
.skip))
(.seq
(.reg 3 [⟨(some 3),none,(.q (.mov (.c (.int .i64 0))))⟩] [1,3])
(.seq
(.seq
(.reg 4 [⟨(some 50),none,(.q (.faddr 7 (.t 1)))⟩,⟨(some 51),none,(.q (.load none (.t 50)))⟩,⟨(some 52),none,(.q (.faddr 8 (.t 1)))⟩,⟨(some 53),none,(.q (.load none (.t 52)))⟩,⟨(some 54),none,(.q (.faddr 10 (.t 1)))⟩,⟨(some 55),none,(.q (.load none (.t 54)))⟩,⟨(some 56),none,(.q (.faddr 11 (.t 1)))⟩,⟨(some 57),none,(.q (.load none (.t 56)))⟩,⟨(some 58),none,(.q (.faddr 12 (.t 1)))⟩,⟨(some 59),none,(.q (.load none (.t 58)))⟩,⟨(some 60),none,(.q (.faddr 13 (.t 1)))⟩,⟨(some 61),none,(.q (.load none (.t 60)))⟩,⟨(some 62),none,(.bslt 1 6 [.nilslice] [⟨0,⟨1,(.t 51)⟩⟩,⟨1,⟨1,(.t 53)⟩⟩,⟨2,⟨1,(.t 55)⟩⟩,⟨3,⟨1,(.t 57)⟩⟩,⟨4,⟨1,(.t 59)⟩⟩,⟨5,⟨1,(.t 61)⟩⟩])⟩,⟨(some 63),none,(.q (.len 0 (.t 62)))⟩,⟨(some 64),none,(.q (.mov (.c (.int .i64 0))))⟩] [3,62,63,64])
(.block 0
(.loop
(.seq
(.reg 5 [⟨(some 65),none,(.q (.bin .lss (.t 64) (.t 63)))⟩] [3,62,63,64,65])
(.seq
(.cond (.t 65)
.skip
(.exit 0))
(.seq
(.block 1
(.seq
(.reg 6 [⟨(some 66),none,(.q (.iaddr 1 (.t 62) (.t 64)))⟩,⟨(some 67),none,(.q (.load none (.t 66)))⟩,⟨(some 5),none,(.q (.mov (.t 67)))⟩] [3,5,62,63,64])
(.seq
(.reg 7 [⟨(some 69),none,(.q (.mov (.t 5)))⟩,⟨(some 70),none,(.call 30 [(.t 69),(.c (.int .i64 0))])⟩,⟨(some 68),none,(.q (.mov (.t 70)))⟩,⟨(some 71),none,(.q (.ext 0 (.t 68)))⟩,⟨(some 72),none,(.q (.ext 1 (.t 68)))⟩,⟨(some 6),none,(.q (.mov (.t 71)))⟩,⟨(some 7),none,(.q (.mov (.t 72)))⟩] [3,6,7,62,63,64])
(.seq
(.reg 8 [⟨(some 73),none,(.q (.mov (.t 3)))⟩,⟨(some 74),none,(.q (.mov (.t 6)))⟩,⟨(some 75),none,(.q (.bin .add (.t 73) (.t 74)))⟩,⟨(some 3),none,(.q (.mov (.t 75)))⟩] [3,7,62,63,64])
(.seq
(.reg 9 [⟨(some 76),none,(.q (.mov (.t 7)))⟩,⟨(some 77),none,(.q (.mov (.t 76)))⟩,⟨(some 78),(some ⟨77,false⟩),(.q (.mov (.t 3)))⟩,⟨(some 79),(some ⟨77,false⟩),(.q (.bin .gtr (.t 78) (.c (.int .i64 2000))))⟩,⟨(some 80),none,(.q (.pick (.t 77) (.c (.bool true)) (.t 79)))⟩] [3,62,63,64,80])
(.cond (.t 80)
(.seq
(.reg 10 [⟨(some 2),none,(.q (.mov (.c (.bool true))))⟩] [2])
.ret)
.skip))))))
(.reg 11 [⟨(some 81),none,(.q (.bin .add (.t 64) (.c (.int .i64 1))))⟩,⟨(some 64),none,(.q (.mov (.t 81)))⟩] [3,62,63,64])))))))
(.seq
(.reg 12 [⟨(some 2),none,(.q (.mov (.c (.bool false))))⟩] [2])
.ret)))))
theorem fok15 : FOK Tryd.prog 15 (82,ic15,[(.t 2)]):=.mk (pf:=[1000001,1000062]) (an:=[(0,[1]),(1,[1,49]),(2,[2]),(3,[1,3]),(4,[3,62,63,64]),(5,[3,62,63,64,65]),(6,[3,5,62,63,64]),(7,[3,6,7,62,63,64]),(8,[3,7,62,63,64]),(9,[3,62,63,64,80]),(10,[2]),(11,[3,62,63,64]),(12,[2])]) (by kernel_rfl) (fnOK_of Tryd.func15 (by kernel_rfl) (by kernel_rfl) (by kernel_rfl))
def ic16 : IC :=
(.seq
(.reg 0 [oK 2 (.alloc [(.str []),(zI 0),(.str []),(.str []),(zU 0),(.str []),.nilslice,.nilslice,.nilslice,.nilslice,.nilslice,.nilslice,.nilslice,.nilslice,.nilslice])] [0,2])
(.seq
(.reg 1 [oM 3 (.t 0),oQ 4 (.bld [(zI 0),(.str []),(.str [])] [⟨1,⟨1,(.c (.str [49]))⟩⟩,⟨2,⟨1,(.c (.str [49]))⟩⟩]),oQ 5 (.bld [(.str []),(zI 0),(.str []),(.str []),(zU 0),(.str []),.nilslice,.nilslice,.nilslice,.nilslice,.nilslice,.nilslice,.nilslice,.nilslice,.nilslice] [⟨0,⟨1,(.t 3)⟩⟩,⟨1,⟨3,(.t 4)⟩⟩,⟨4,⟨1,(.c (zU 1))⟩⟩]),oN (.store 15 (.t 2) (.t 5))] [2])
.ret))
theorem fok16 : FOK Tryd.prog 16 (6,ic16,[(.cell (some 15) 2)]):=fokA [] Tryd.func16
def ic17 : IC :=
(.seq
(.reg 0 [⟨(some 2),none,(.q (.mov (.c (.int .i64 0))))⟩] [0])
(.seq
(.seq
(.reg 1 [⟨(some 3),none,(.q (.mov (.t 0)))⟩,⟨(some 4),none,(.q (.isnil (.pointer 59) false (.t 3)))⟩] [0,4])
(.cond (.t 4)
(.seq
(.reg 2 [⟨(some 2),none,(.q (.mov (.c (.int .i64 0))))⟩] [2])
.ret)
.skip))
(.seq
(.reg 3 [⟨(some 5),none,(.q (.mov (.t 0)))⟩,⟨(some 6),none,(.q (.nchk (.t 5)))⟩,⟨(some 7),none,(.q (.faddr 1 (.t 6)))⟩,⟨(some 8),none,(.q (.load none (.t 7)))⟩,⟨(some 2),none,(.q (.mov (.t 8)))⟩] [2])
.ret)))
theorem fok17 : FOK Tryd.prog 17 (9,ic17,[(.t 2)]):=.mk (pf:=[]) (an:=[(0,[0]),(1,[0,4]),(2,[2]),(3,[2])]) (by kernel_rfl) (fnOK_of Tryd.func17 (by kernel_rfl) (by kernel_rfl) (by kernel_rfl))
def ic18 : IC :=
(.seq
(.reg 0 [⟨(some 4),none,(.q (.mov (.c (.int .i64 0))))⟩] [0,1])
(.seq
(.seq
(.reg 1 [⟨(some 5),none,(.q (.mov (.t 0)))⟩,⟨(some 6),none,(.q (.isnil (.pointer 59) false (.t 5)))⟩,⟨(some 7),none,(.q (.mov (.t 6)))⟩,⟨(some 8),(some ⟨7,false⟩),(.q (.mov (.t 0)))⟩,⟨(some 9),(some ⟨7,false⟩),(.q (.nchk (.t 8)))⟩,⟨(some 10),(some ⟨7,false⟩),(.q (.faddr 0 (.t 9)))⟩,⟨(some 11),(some ⟨7,false⟩),(.q (.load none (.t 10)))⟩,⟨(some 12),(some ⟨7,false⟩),(.q (.mov (.t 1)))⟩,⟨(some 13),(some ⟨7,false⟩),(.call 21 [(.t 11),(.t 12)])⟩,⟨(some 14),(some ⟨7,false⟩),(.q (.not (.t 13)))⟩,⟨(some 15),none,(.q (.pick (.t 7) (.c (.bool true)) (.t 14)))⟩] [0,1,15])
(.cond (.t 15)
(.seq
(.reg 2 [⟨(some 4),none,(.q (.mov (.c (.int .i64 0))))⟩] [4])
.ret)
.skip))
(.seq
(.reg 3 [⟨(some 16),none,(.q (.mov (.t 0)))⟩,⟨(some 17),none,(.q (.nchk (.t 16)))⟩,⟨(some 18),none,(.q (.faddr 0 (.t 17)))⟩,⟨(some 19),none,(.q (.load none (.t 18)))⟩,⟨(some 20),none,(.q (.mov (.t 1)))⟩,⟨(some 21),none,(.q (.iaddr 17 (.t 19) (.t 20)))⟩,⟨(some 22),none,(.q (.faddr 16 (.t 21)))⟩,⟨(some 23),none,(.q (.load none (.t 22)))⟩,⟨(some 4),none,(.q (.mov (.t 23)))⟩] [4])
.ret)))
theorem fok18 : FOK Tryd.prog 18 (24,ic18,[(.t 4)]):=.mk (pf:=[]) (an:=[(0,[0,1]),(1,[0,1,15]),(2,[4]),(3,[4])]) (by kernel_rfl) (fnOK_of Tryd.func18 (by kernel_rfl) (by kernel_rfl) (by kernel_rfl))
def ic19 : IC :=
(.seq
(.reg 0 [⟨(some 4),none,(.q (.mov (.c (.bool false))))⟩] [0,1])
(.seq
(.seq
(.reg 1 [⟨(some 6),none,(.q (.mov (.t 0)))⟩,⟨(some 7),none,(.q (.len 0 (.t 6)))⟩,⟨(some 8),none,(.q (.mov (.t 1)))⟩,⟨(some 9),none,(.q (.len 0 (.t 8)))⟩,⟨(some 10),none,(.q (.bin .neq (.t 7) (.t 9)))⟩] [0,1,10])
(.cond (.t 10)
(.seq
(.reg 2 [⟨(some 4),none,(.q (.mov (.c (.bool false))))⟩] [4])
.ret)
.skip))
(.seq
(.seq
(.reg 3 [⟨(some 5),none,(.q (.mov (.c (.int .i64 0))))⟩] [0,1,5])
(.block 0
(.loop
(.seq
(.seq
(.reg 4 [⟨(some 11),none,(.q (.mov (.t 5)))⟩,⟨(some 12),none,(.q (.mov (.t 0)))⟩,⟨(some 13),none,(.q (.len 0 (.t 12)))⟩,⟨(some 14),none,(.q (.bin .lss (.t 11) (.t 13)))⟩] [0,1,5,14])
(.cond (.t 14)
.skip
(.exit 0)))
(.seq
(.block 1
(.seq
(.dreg 6 [⟨(some 17),none,(.q (.mov (.t 0)))⟩,⟨(some 18),none,(.q (.mov (.t 5)))⟩,⟨(some 19),none,(.q (.iaddr 1 (.t 17) (.t 18)))⟩,⟨(some 20),none,(.q (.load none (.t 19)))⟩,⟨(some 21),none,(.q (.mov (.t 1)))⟩,⟨(some 22),none,(.q (.mov (.t 5)))⟩,⟨(some 23),none,(.q (.iaddr 1 (.t 21) (.t 22)))⟩,⟨(some 24),none,(.q (.load none (.t 23)))⟩,⟨(some 25),none,(.q (.bin .neq (.t 20) (.t 24)))⟩] false [0,1,5,25])
(.cond (.t 25)
(.seq
(.reg 7 [⟨(some 4),none,(.q (.mov (.c (.bool false))))⟩] [4])
.ret)
.skip)))
(.reg 5 [⟨(some 15),none,(.q (.mov (.t 5)))⟩,⟨(some 16),none,(.q (.bin .add (.t 15) (.c (.int .i64 1))))⟩,⟨(some 5),none,(.q (.mov (.t 16)))⟩] [0,1,5]))))))
(.seq
(.reg 8 [⟨(some 4),none,(.q (.mov (.c (.bool true))))⟩] [4])
.ret))))
theorem fok19 : FOK Tryd.prog 19 (26,ic19,[(.t 4)]):=.mk (pf:=[]) (an:=[(0,[0,1]),(1,[0,1,10]),(2,[4]),(3,[0,1,5]),(4,[0,1,5,14]),(5,[0,1,5]),(6,[0,1,5,25]),(7,[4]),(8,[4])]) (by kernel_rfl) (fnOK_of Tryd.func19 (by kernel_rfl) (by kernel_rfl) (by kernel_rfl))
def ic20 : IC :=
(.seq
(.reg 0 [⟨(some 8),none,(.q (.mov (.c (.int .i64 0))))⟩] [0,1,2,3])
(.seq
(.seq
(.reg 1 [⟨(some 11),none,(.q (.mov (.t 1)))⟩,⟨(some 12),none,(.q (.len 0 (.t 11)))⟩,⟨(some 13),none,(.q (.mov (.c (.int .i64 0))))⟩] [0,2,3,11,12,13])
(.block 0
(.loop
(.seq
(.reg 2 [⟨(some 14),none,(.q (.bin .lss (.t 13) (.t 12)))⟩] [0,2,3,11,12,13,14])
(.seq
(.cond (.t 14)
.skip
(.exit 0))
(.seq
(.block 1
(.seq
(.reg 3 [⟨(some 15),none,(.q (.iaddr 15 (.t 11) (.t 13)))⟩,⟨(some 16),none,(.q (.load (some 15) (.t 15)))⟩,⟨(some 10),none,(.alloc [(.str []),(.int .i64 0),(.str []),(.str []),(.int .u8 0),(.str []),.nilslice,.nilslice,.nilslice,.nilslice,.nilslice,.nilslice,.nilslice,.nilslice,.nilslice])⟩,⟨none,none,(.store 15 (.t 10) (.t 16))⟩] [0,2,3,10,11,12,13])
(.seq
(.seq
(.reg 4 [⟨(some 17),none,(.q (.load (some 15) (.t 10)))⟩,⟨(some 18),none,(.pcall 31 [(.t 17)])⟩,⟨(some 19),none,(.q (.not (.t 18)))⟩] [0,2,3,10,11,12,13,19])
(.cond (.t 19)
(.seq
(.reg 5 [⟨(some 8),none,(.q (.mov (.c (.int .i64 4))))⟩] [8])
.ret)
.skip))
(.seq
(.dreg 6 [⟨(some 20),none,(.q (.mov (.t 0)))⟩,⟨(some 21),none,(.q (.nchk (.t 20)))⟩,⟨(some 22),none,(.q (.faddr 2 (.t 21)))⟩,⟨(some 23),none,(.q (.load none (.t 22)))⟩,⟨(some 24),none,(.q (.faddr 0 (.t 10)))⟩,⟨(some 25),none,(.q (.load none (.t 24)))⟩,⟨(some 26),none,(.q (.mov (.t 0)))⟩,⟨(some 27),none,(.q (.nchk (.t 26)))⟩,⟨(some 28),none,(.q (.faddr 2 (.t 27)))⟩,⟨(some 29),none,(.q (.load none (.t 28)))⟩,⟨(some 30),none,(.q (.faddr 0 (.t 10)))⟩,⟨(some 31),none,(.q (.load none (.t 30)))⟩,⟨(some 32),none,(.q (.lkp 2 .nilslice false (.t 29) (.t 31)))⟩,⟨(some 33),none,(.q (.mov (.t 0)))⟩,⟨(some 34),none,(.q (.nchk (.t 33)))⟩,⟨(some 35),none,(.q (.faddr 0 (.t 34)))⟩,⟨(some 36),none,(.q (.load none (.t 35)))⟩,⟨(some 37),none,(.q (.len 0 (.t 36)))⟩,⟨(some 38),none,(.bslt 1 1 [(.int .i64 0)] [⟨0,⟨1,(.t 37)⟩⟩])⟩,⟨(some 39),none,(.app 1 (.t 32) (.t 38))⟩,⟨none,none,(.mupd 2 (.t 23) (.t 25) (.t 39))⟩] true [0,2,3,10,11,12,13])
(.dreg 7 [⟨(some 40),none,(.q (.mov (.t 0)))⟩,⟨(some 41),none,(.q (.mov (.t 0)))⟩,⟨(some 42),none,(.q (.nchk (.t 41)))⟩,⟨(some 43),none,(.q (.faddr 0 (.t 42)))⟩,⟨(some 44),none,(.q (.load none (.t 43)))⟩,⟨(some 45),none,(.q (.load (some 15) (.t 10)))⟩,⟨(some 46),none,(.pcall 22 [(.t 45)])⟩,⟨(some 47),none,(.q (.mov (.t 2)))⟩,⟨(some 48),none,(.q (.mov (.t 3)))⟩,⟨(some 49),none,(.q (.bld [(.str []),(.int .i64 0),(.str []),(.str []),(.int .u8 0),(.str []),.nilslice,.nilslice,.nilslice,.nilslice,.nilslice,.nilslice,.nilslice,.nilslice,.nilslice,(.int .i64 0),(.int .i64 0)] [⟨0,⟨15,(.t 46)⟩⟩,⟨15,⟨1,(.t 47)⟩⟩,⟨16,⟨1,(.t 48)⟩⟩]))⟩,⟨(some 50),none,(.bslt 17 1 [(.str []),(.int .i64 0),(.str []),(.str []),(.int .u8 0),(.str []),.nilslice,.nilslice,.nilslice,.nilslice,.nilslice,.nilslice,.nilslice,.nilslice,.nilslice,(.int .i64 0),(.int .i64 0)] [⟨0,⟨17,(.t 49)⟩⟩])⟩,⟨(some 51),none,(.app 17 (.t 44) (.t 50))⟩,⟨(some 52),none,(.q (.nchk (.t 40)))⟩,⟨(some 53),none,(.q (.faddr 0 (.t 52)))⟩,⟨none,none,(.store 1 (.t 53) (.t 51))⟩] true [0,2,3,11,12,13])))))
(.reg 8 [⟨(some 54),none,(.q (.bin .add (.t 13) (.c (.int .i64 1))))⟩,⟨(some 13),none,(.q (.mov (.t 54)))⟩] [0,2,3,11,12,13])))))))
(.seq
(.reg 9 [⟨(some 8),none,(.q (.mov (.c (.int .i64 0))))⟩] [8])
.ret)))
theorem fok20 : FOK Tryd.prog 20 (55,ic20,[(.t 8)]):=.mk (pf:=([1000038,1000050] ++ allF0)) (an:=[(0,[0,1,2,3]),(1,[0,2,3,11,12,13]),(2,[0,2,3,11,12,13,14]),(3,[0,2,3,10,11,12,13]),(4,[0,2,3,10,11,12,13,19]),(5,[8]),(6,[0,2,3,10,11,12,13]),(7,[0,2,3,11,12,13]),(8,[0,2,3,11,12,13]),(9,[8])]) (by kernel_rfl) (fnOK_of Tryd.func20 (by kernel_rfl) (by kernel_rfl) (by kernel_rfl))
def ic21 : IC :=
(.seq
(.reg 0 [⟨(some 4),none,(.q (.mov (.c (.bool false))))⟩] [0,1])
(.seq
(.reg 1 [⟨(some 5),none,(.q (.mov (.t 1)))⟩,⟨(some 6),none,(.q (.bin .geq (.t 5) (.c (.int .i64 0))))⟩,⟨(some 7),none,(.q (.mov (.t 6)))⟩,⟨(some 8),(some ⟨7,true⟩),(.q (.mov (.t 1)))⟩,⟨(some 9),(some ⟨7,true⟩),(.q (.mov (.t 0)))⟩,⟨(some 10),(some ⟨7,true⟩),(.q (.len 0 (.t 9)))⟩,⟨(some 11),(some ⟨7,true⟩),(.q (.bin .lss (.t 8) (.t 10)))⟩,⟨(some 12),none,(.q (.pick (.t 7) (.t 11) (.c (.bool false))))⟩,⟨(some 4),none,(.q (.mov (.t 12)))⟩] [4])
.ret))
theorem fok21 : FOK Tryd.prog 21 (13,ic21,[(.t 4)]):=.mk (pf:=[]) (an:=[(0,[0,1]),(1,[4])]) (by kernel_rfl) (fnOK_of Tryd.func21 (by kernel_rfl) (by kernel_rfl) (by kernel_rfl))
def ic22 : IC :=
(.seq
(.reg 0 [⟨(some 1),none,(.box (.t 0))⟩,⟨(some 2),none,(.alloc [(.str []),(.int .i64 0),(.str []),(.str []),(.int .u8 0),(.str []),.nilslice,.nilslice,.nilslice,.nilslice,.nilslice,.nilslice,.nilslice,.nilslice,.nilslice])⟩] [1,2])
(.seq
(.dreg 1 [⟨(some 7),none,(.q (.faddr 6 (.t 1)))⟩,⟨(some 8),none,(.q (.load none (.t 7)))⟩,⟨(some 9),none,(.pcall 32 [(.t 8)])⟩,⟨(some 10),none,(.q (.faddr 9 (.t 1)))⟩,⟨(some 11),none,(.q (.load none (.t 10)))⟩,⟨(some 12),none,(.pcall 32 [(.t 11)])⟩,⟨(some 13),none,(.q (.faddr 14 (.t 1)))⟩,⟨(some 14),none,(.q (.load none (.t 13)))⟩,⟨(some 15),none,(.pcall 33 [(.t 14)])⟩,⟨(some 16),none,(.q (.faddr 6 (.t 1)))⟩,⟨none,none,(.store 1 (.t 16) (.t 9))⟩,⟨(some 17),none,(.q (.faddr 9 (.t 1)))⟩,⟨none,none,(.store 1 (.t 17) (.t 12))⟩,⟨(some 18),none,(.q (.faddr 14 (.t 1)))⟩,⟨none,none,(.store 1 (.t 18) (.t 15))⟩] false [1,2])
(.seq
(.seq
(.reg 2 [⟨(some 19),none,(.q (.faddr 7 (.t 1)))⟩,⟨(some 20),none,(.q (.faddr 8 (.t 1)))⟩,⟨(some 21),none,(.q (.faddr 10 (.t 1)))⟩,⟨(some 22),none,(.q (.faddr 11 (.t 1)))⟩,⟨(some 23),none,(.q (.faddr 12 (.t 1)))⟩,⟨(some 24),none,(.q (.faddr 13 (.t 1)))⟩,⟨(some 25),none,(.bslt 1 6 [.nilptr] [⟨0,⟨1,(.t 19)⟩⟩,⟨1,⟨1,(.t 20)⟩⟩,⟨2,⟨1,(.t 21)⟩⟩,⟨3,⟨1,(.t 22)⟩⟩,⟨4,⟨1,(.t 23)⟩⟩,⟨5,⟨1,(.t 24)⟩⟩])⟩,⟨(some 26),none,(.q (.len 0 (.t 25)))⟩,⟨(some 27),none,(.q (.mov (.c (.int .i64 0))))⟩] [1,2,25,26,27])
(.block 0
(.loop
(.seq
(.reg 3 [⟨(some 28),none,(.q (.bin .lss (.t 27) (.t 26)))⟩] [1,2,25,26,27,28])
(.seq
(.cond (.t 28)
.skip
(.exit 0))
(.seq
(.block 1
(.seq
(.reg 4 [⟨(some 29),none,(.q (.iaddr 1 (.t 25) (.t 27)))⟩,⟨(some 30),none,(.q (.load none (.t 29)))⟩,⟨(some 4),none,(.q (.mov (.t 30)))⟩] [1,2,4,25,26,27])
(.seq
(.reg 5 [⟨(some 31),none,(.q (.mov (.t 4)))⟩,⟨(some 32),none,(.q (.mov (.t 4)))⟩,⟨(some 33),none,(.q (.nchk (.t 32)))⟩,⟨(some 34),none,(.q (.load none (.t 33)))⟩,⟨(some 35),none,(.call 34 [(.t 34)])⟩,⟨(some 36),none,(.q (.nchk (.t 31)))⟩,⟨none,none,(.store 1 (.t 36) (.t 35))⟩] [1,2,4,25,26,27])
(.seq
(.reg 6 [⟨(some 37),none,(.q (.mov (.t 4)))⟩,⟨(some 38),none,(.q (.nchk (.t 37)))⟩,⟨(some 39),none,(.q (.load none (.t 38)))⟩,⟨(some 40),none,(.q (.len 0 (.t 39)))⟩,⟨(some 41),none,(.q (.mov (.c (.int .i64 0))))⟩] [1,2,4,25,26,27,39,40,41])
(.block 2
(.loop
(.seq
(.reg 7 [⟨(some 42),none,(.q (.bin .lss (.t 41) (.t 40)))⟩] [1,2,4,25,26,27,39,40,41,42])
(.seq
(.cond (.t 42)
.skip
(.exit 2))
(.seq
(.block 3
(.seq
(.reg 8 [⟨(some 43),none,(.q (.mov (.t 41)))⟩,⟨(some 44),none,(.q (.iaddr 7 (.t 39) (.t 41)))⟩,⟨(some 45),none,(.q (.load (some 7) (.t 44)))⟩,⟨(some 6),none,(.alloc [(.int .u8 0),(.str []),(.int .u8 0),(.int .i64 0),(.str []),(.str []),.nilslice])⟩,⟨(some 5),none,(.q (.mov (.t 43)))⟩,⟨none,none,(.store 7 (.t 6) (.t 45))⟩] [1,2,4,5,6,25,26,27,39,40,41])
(.dreg 9 [⟨(some 46),none,(.q (.mov (.t 4)))⟩,⟨(some 47),none,(.q (.nchk (.t 46)))⟩,⟨(some 48),none,(.q (.load none (.t 47)))⟩,⟨(some 49),none,(.q (.mov (.t 5)))⟩,⟨(some 50),none,(.q (.load (some 7) (.t 6)))⟩,⟨(some 51),none,(.pcall 35 [(.t 50)])⟩,⟨(some 52),none,(.q (.iaddr 7 (.t 48) (.t 49)))⟩,⟨none,none,(.store 7 (.t 52) (.t 51))⟩] false [1,2,4,25,26,27,39,40,41])))
(.reg 10 [⟨(some 53),none,(.q (.bin .add (.t 41) (.c (.int .i64 1))))⟩,⟨(some 41),none,(.q (.mov (.t 53)))⟩] [1,2,4,25,26,27,39,40,41]))))))))))
(.reg 11 [⟨(some 54),none,(.q (.bin .add (.t 27) (.c (.int .i64 1))))⟩,⟨(some 27),none,(.q (.mov (.t 54)))⟩] [1,2,25,26,27])))))))
(.seq
(.reg 12 [⟨(some 55),none,(.q (.load (some 15) (.t 1)))⟩,⟨none,none,(.store 15 (.t 2) (.t 55))⟩] [2])
.ret))))
theorem fok22 : FOK Tryd.prog 22 (56,ic22,[(.cell (some 15) 2)]):=.mk (pf:=([1000025] ++ List.filter (fun k => k != 34) allF0)) (an:=[(0,[1,2]),(1,[1,2]),(2,[1,2,25,26,27]),(3,[1,2,25,26,27,28]),(4,[1,2,4,25,26,27]),(5,[1,2,4,25,26,27]),(6,[1,2,4,25,26,27,39,40,41]),(7,[1,2,4,25,26,27,39,40,41,42]),(8,[1,2,4,5,6,25,26,27,39,40,41]),(9,[1,2,4,25,26,27,39,40,41]),(10,[1,2,4,25,26,27,39,40,41]),(11,[1,2,25,26,27]),(12,[2])]) (by kernel_rfl) (fnOK_of Tryd.func22 (by kernel_rfl) (by kernel_rfl) (by kernel_rfl))
def ic23 : IC :=
(.seq
(.reg 0 [⟨(some 4),none,(.q (.mov (.c (.bool false))))⟩] [0,1])
(.seq
(.seq
(.reg 1 [⟨(some 6),none,(.q (.mov (.t 0)))⟩,⟨(some 7),none,(.q (.len 0 (.t 6)))⟩,⟨(some 8),none,(.q (.mov (.t 1)))⟩,⟨(some 9),none,(.q (.len 0 (.t 8)))⟩,⟨(some 10),none,(.q (.bin .neq (.t 7) (.t 9)))⟩] [0,1,10])
(.cond (.t 10)
(.seq
(.reg 2 [⟨(some 4),none,(.q (.mov (.c (.bool false))))⟩] [4])
.ret)
.skip))
(.seq
(.seq
(.reg 3 [⟨(some 5),none,(.q (.mov (.c (.int .i64 0))))⟩] [0,1,5])
(.block 0
(.loop
(.seq
(.seq
(.reg 4 [⟨(some 11),none,(.q (.mov (.t 5)))⟩,⟨(some 12),none,(.q (.mov (.t 0)))⟩,⟨(some 13),none,(.q (.len 0 (.t 12)))⟩,⟨(some 14),none,(.q (.bin .lss (.t 11) (.t 13)))⟩] [0,1,5,14])
(.cond (.t 14)
.skip
(.exit 0)))
(.seq
(.block 1
(.seq
(.dreg 6 [⟨(some 17),none,(.q (.mov (.t 0)))⟩,⟨(some 18),none,(.q (.mov (.t 5)))⟩,⟨(some 19),none,(.q (.iaddr 5 (.t 17) (.t 18)))⟩,⟨(some 20),none,(.q (.load (some 5) (.t 19)))⟩,⟨(some 21),none,(.q (.mov (.t 1)))⟩,⟨(some 22),none,(.q (.mov (.t 5)))⟩,⟨(some 23),none,(.q (.iaddr 5 (.t 21) (.t 22)))⟩,⟨(some 24),none,(.q (.load (some 5) (.t 23)))⟩,⟨(some 25),none,(.q (.eqs [2,1,1,2,2] true true (.t 20) (.t 24)))⟩] false [0,1,5,25])
(.cond (.t 25)
(.seq
(.reg 7 [⟨(some 4),none,(.q (.mov (.c (.bool false))))⟩] [4])
.ret)
.skip)))
(.reg 5 [⟨(some 15),none,(.q (.mov (.t 5)))⟩,⟨(some 16),none,(.q (.bin .add (.t 15) (.c (.int .i64 1))))⟩,⟨(some 5),none,(.q (.mov (.t 16)))⟩] [0,1,5]))))))
(.seq
(.reg 8 [⟨(some 4),none,(.q (.mov (.c (.bool true))))⟩] [4])
.ret))))
theorem fok23 : FOK Tryd.prog 23 (26,ic23,[(.t 4)]):=.mk (pf:=[]) (an:=[(0,[0,1]),(1,[0,1,10]),(2,[4]),(3,[0,1,5]),(4,[0,1,5,14]),(5,[0,1,5]),(6,[0,1,5,25]),(7,[4]),(8,[4])]) (by kernel_rfl) (fnOK_of Tryd.func23 (by kernel_rfl) (by kernel_rfl) (by kernel_rfl))
def ic24 : IC :=
(.seq
(.reg 0 [⟨(some 4),none,(.q (.mov (.c (.bool false))))⟩] [0,1])
(.seq
(.seq
(.reg 1 [⟨(some 6),none,(.q (.mov (.t 0)))⟩,⟨(some 7),none,(.q (.len 0 (.t 6)))⟩,⟨(some 8),none,(.q (.mov (.t 1)))⟩,⟨(some 9),none,(.q (.len 0 (.t 8)))⟩,⟨(some 10),none,(.q (.bin .neq (.t 7) (.t 9)))⟩] [0,1,10])
(.cond (.t 10)
(.seq
(.reg 2 [⟨(some 4),none,(.q (.mov (.c (.bool false))))⟩] [4])
.ret)
.skip))
(.seq
(.seq
(.reg 3 [⟨(some 5),none,(.q (.mov (.c (.int .i64 0))))⟩] [0,1,5])
(.block 0
(.loop
(.seq
(.seq
(.reg 4 [⟨(some 11),none,(.q (.mov (.t 5)))⟩,⟨(some 12),none,(.q (.mov (.t 0)))⟩,⟨(some 13),none,(.q (.len 0 (.t 12)))⟩,⟨(some 14),none,(.q (.bin .lss (.t 11) (.t 13)))⟩] [0,1,5,14])
(.cond (.t 14)
.skip
(.exit 0)))
(.seq
(.block 1
(.seq
(.dreg 6 [⟨(some 17),none,(.q (.mov (.t 0)))⟩,⟨(some 18),none,(.q (.mov (.t 5)))⟩,⟨(some 19),none,(.q (.iaddr 7 (.t 17) (.t 18)))⟩,⟨(some 20),none,(.q (.load (some 7) (.t 19)))⟩,⟨(some 21),none,(.q (.mov (.t 1)))⟩,⟨(some 22),none,(.q (.mov (.t 5)))⟩,⟨(some 23),none,(.q (.iaddr 7 (.t 21) (.t 22)))⟩,⟨(some 24),none,(.q (.load (some 7) (.t 23)))⟩,⟨(some 25),none,(.call 36 [(.t 20),(.t 24)])⟩,⟨(some 26),none,(.q (.not (.t 25)))⟩] false [0,1,5,26])
(.cond (.t 26)
(.seq
(.reg 7 [⟨(some 4),none,(.q (.mov (.c (.bool false))))⟩] [4])
.ret)
.skip)))
(.reg 5 [⟨(some 15),none,(.q (.mov (.t 5)))⟩,⟨(some 16),none,(.q (.bin .add (.t 15) (.c (.int .i64 1))))⟩,⟨(some 5),none,(.q (.mov (.t 16)))⟩] [0,1,5]))))))
(.seq
(.reg 8 [⟨(some 4),none,(.q (.mov (.c (.bool true))))⟩] [4])
.ret))))
theorem fok24 : FOK Tryd.prog 24 (27,ic24,[(.t 4)]):=.mk (pf:=[]) (an:=[(0,[0,1]),(1,[0,1,10]),(2,[4]),(3,[0,1,5]),(4,[0,1,5,14]),(5,[0,1,5]),(6,[0,1,5,26]),(7,[4]),(8,[4])]) (by kernel_rfl) (fnOK_of Tryd.func24 (by kernel_rfl) (by kernel_rfl) (by kernel_rfl))
def ic25 : IC :=
(.seq
(.reg 0 [⟨(some 4),none,(.q (.mov (.c (.bool false))))⟩] [0,1])
(.seq
(.seq
(.reg 1 [⟨(some 6),none,(.q (.mov (.t 0)))⟩,⟨(some 7),none,(.q (.len 0 (.t 6)))⟩,⟨(some 8),none,(.q (.mov (.t 1)))⟩,⟨(some 9),none,(.q (.len 0 (.t 8)))⟩,⟨(some 10),none,(.q (.bin .neq (.t 7) (.t 9)))⟩] [0,1,10])
(.cond (.t 10)
(.seq
(.reg 2 [⟨(some 4),none,(.q (.mov (.c (.bool false))))⟩] [4])
.ret)
.skip))
(.seq
(.seq
(.reg 3 [⟨(some 5),none,(.q (.mov (.c (.int .i64 0))))⟩] [0,1,5])
(.block 0
(.loop
(.seq
(.seq
(.reg 4 [⟨(some 11),none,(.q (.mov (.t 5)))⟩,⟨(some 12),none,(.q (.mov (.t 0)))⟩,⟨(some 13),none,(.q (.len 0 (.t 12)))⟩,⟨(some 14),none,(.q (.bin .lss (.t 11) (.t 13)))⟩] [0,1,5,14])
(.cond (.t 14)
.skip
(.exit 0)))
(.seq
(.block 1
(.seq
(.dreg 6 [⟨(some 17),none,(.q (.mov (.t 0)))⟩,⟨(some 18),none,(.q (.mov (.t 5)))⟩,⟨(some 19),none,(.q (.iaddr 1 (.t 17) (.t 18)))⟩,⟨(some 20),none,(.q (.load none (.t 19)))⟩,⟨(some 21),none,(.q (.mov (.t 1)))⟩,⟨(some 22),none,(.q (.mov (.t 5)))⟩,⟨(some 23),none,(.q (.iaddr 1 (.t 21) (.t 22)))⟩,⟨(some 24),none,(.q (.load none (.t 23)))⟩,⟨(some 25),none,(.q (.bin .neq (.t 20) (.t 24)))⟩] false [0,1,5,25])
(.cond (.t 25)
(.seq
(.reg 7 [⟨(some 4),none,(.q (.mov (.c (.bool false))))⟩] [4])
.ret)
.skip)))
(.reg 5 [⟨(some 15),none,(.q (.mov (.t 5)))⟩,⟨(some 16),none,(.q (.bin .add (.t 15) (.c (.int .i64 1))))⟩,⟨(some 5),none,(.q (.mov (.t 16)))⟩] [0,1,5]))))))
(.seq
(.reg 8 [⟨(some 4),none,(.q (.mov (.c (.bool true))))⟩] [4])
.ret))))
theorem fok25 : FOK Tryd.prog 25 (26,ic25,[(.t 4)]):=.mk (pf:=[]) (an:=[(0,[0,1]),(1,[0,1,10]),(2,[4]),(3,[0,1,5]),(4,[0,1,5,14]),(5,[0,1,5]),(6,[0,1,5,25]),(7,[4]),(8,[4])]) (by kernel_rfl) (fnOK_of Tryd.func25 (by kernel_rfl) (by kernel_rfl) (by kernel_rfl))
def ic27 : IC :=
(.seq
(.reg 0 [⟨(some 2),none,(.q (.mov (.c .nilslice)))⟩] [0])
(.seq
(.seq
(.reg 1 [⟨(some 3),none,(.q (.mov (.t 0)))⟩,⟨(some 4),none,(.q (.isnil (.slice 3) false (.t 3)))⟩] [0,4])
(.cond (.t 4)
(.seq
(.reg 2 [⟨(some 2),none,(.q (.mov (.c .nilslice)))⟩] [2])
.ret)
.skip))
(.seq
(.reg 3 [⟨(some 5),none,(.bsl 1 0 [(.int .i64 0)] [])⟩,⟨(some 6),none,(.q (.mov (.t 0)))⟩,⟨(some 7),none,(.app 1 (.t 5) (.t 6))⟩,⟨(some 2),none,(.q (.mov (.t 7)))⟩] [2])
.ret)))
theorem fok27 : FOK Tryd.prog 27 (8,ic27,[(.t 2)]):=.mk (pf:=[]) (an:=[(0,[0]),(1,[0,4]),(2,[2]),(3,[2])]) (by kernel_rfl) (fnOK_of Tryd.func27 (by kernel_rfl) (by kernel_rfl) (by kernel_rfl))
def ic30 : IC :=
(.seq
(.reg 0 [⟨(some 4),none,(.q (.mov (.c (.int .i64 0))))⟩,⟨(some 5),none,(.q (.mov (.c (.bool false))))⟩] [0,1])
(.seq
(.seq
(.reg 1 [⟨(some 10),none,(.q (.mov (.t 1)))⟩,⟨(some 11),none,(.q (.bin .gtr (.t 10) (.c (.int .i64 20))))⟩,⟨(some 12),none,(.q (.mov (.t 11)))⟩,⟨(some 13),(some ⟨12,false⟩),(.q (.mov (.t 0)))⟩,⟨(some 14),(some ⟨12,false⟩),(.q (.len 0 (.t 13)))⟩,⟨(some 15),(some ⟨12,false⟩),(.q (.bin .gtr (.t 14) (.c (.int .i64 100))))⟩,⟨(some 16),none,(.q (.pick (.t 12) (.c (.bool true)) (.t 15)))⟩] [0,1,16])
(.cond (.t 16)
(.seq
(.reg 2 [⟨(some 4),none,(.q (.mov (.c (.int .i64 0))))⟩,⟨(some 5),none,(.q (.mov (.c (.bool true))))⟩] [4,5])
.ret)
.skip))
(.seq
(.reg 3 [⟨(some 6),none,(.q (.mov (.c (.int .i64 0))))⟩] [0,1,6])
(.seq
(.seq
(.reg 4 [⟨(some 7),none,(.q (.mov (.c (.int .i64 0))))⟩] [0,1,6,7])
(.block 0
(.loop
(.seq
(.seq
(.reg 5 [⟨(some 17),none,(.q (.mov (.t 7)))⟩,⟨(some 18),none,(.q (.mov (.t 0)))⟩,⟨(some 19),none,(.q (.len 0 (.t 18)))⟩,⟨(some 20),none,(.q (.bin .lss (.t 17) (.t 19)))⟩] [0,1,6,7,20])
(.cond (.t 20)
.skip
(.exit 0)))
(.seq
(.block 1
(.seq
(.seq
(.dreg 7 [⟨(some 23),none,(.q (.mov (.t 0)))⟩,⟨(some 24),none,(.q (.mov (.t 7)))⟩,⟨(some 25),none,(.q (.iaddr 7 (.t 23) (.t 24)))⟩,⟨(some 26),none,(.q (.faddr 1 (.t 25)))⟩,⟨(some 27),none,(.q (.faddr 0 (.t 26)))⟩,⟨(some 28),none,(.q (.load none (.t 27)))⟩,⟨(some 29),none,(.q (.len 1 (.t 28)))⟩,⟨(some 30),none,(.q (.mov (.t 0)))⟩,⟨(some 31),none,(.q (.mov (.t 7)))⟩,⟨(some 32),none,(.q (.iaddr 7 (.t 30) (.t 31)))⟩,⟨(some 33),none,(.q (.faddr 1 (.t 32)))⟩,⟨(some 34),none,(.q (.faddr 2 (.t 33)))⟩,⟨(some 35),none,(.q (.faddr 1 (.t 34)))⟩,⟨(some 36),none,(.q (.load none (.t 35)))⟩,⟨(some 37),none,(.q (.len 1 (.t 36)))⟩,⟨(some 38),none,(.q (.bin .add (.t 29) (.t 37)))⟩,⟨(some 39),none,(.q (.bin .gtr (.t 38) (.c (.int .i64 500))))⟩,⟨(some 40),none,(.q (.mov (.t 39)))⟩,⟨(some 41),(some ⟨40,false⟩),(.q (.mov (.t 0)))⟩,⟨(some 42),(some ⟨40,false⟩),(.q (.mov (.t 7)))⟩,⟨(some 43),(some ⟨40,false⟩),(.q (.iaddr 7 (.t 41) (.t 42)))⟩,⟨(some 44),(some ⟨40,false⟩),(.q (.faddr 1 (.t 43)))⟩,⟨(some 45),(some ⟨40,false⟩),(.q (.faddr 2 (.t 44)))⟩,⟨(some 46),(some ⟨40,false⟩),(.q (.faddr 2 (.t 45)))⟩,⟨(some 47),(some ⟨40,false⟩),(.q (.load none (.t 46)))⟩,⟨(some 48),(some ⟨40,false⟩),(.q (.len 1 (.t 47)))⟩,⟨(some 49),(some ⟨40,false⟩),(.q (.bin .gtr (.t 48) (.c (.int .i64 500))))⟩,⟨(some 50),none,(.q (.pick (.t 40) (.c (.bool true)) (.t 49)))⟩] false [0,1,6,7,50])
(.cond (.t 50)
(.seq
(.reg 8 [⟨(some 4),none,(.q (.mov (.c (.int .i64 0))))⟩,⟨(some 5),none,(.q (.mov (.c (.bool true))))⟩] [4,5])
.ret)
.skip))
(.seq
(.reg 9 [⟨(some 52),none,(.q (.mov (.t 0)))⟩,⟨(some 53),none,(.q (.mov (.t 7)))⟩,⟨(some 54),none,(.q (.iaddr 7 (.t 52) (.t 53)))⟩,⟨(some 55),none,(.q (.faddr 6 (.t 54)))⟩,⟨(some 56),none,(.q (.load none (.t 55)))⟩,⟨(some 57),none,(.q (.mov (.t 1)))⟩,⟨(some 58),none,(.q (.bin .add (.t 57) (.c (.int .i64 1))))⟩,⟨(some 59),none,(.call 30 [(.t 56),(.t 58)])⟩,⟨(some 51),none,(.q (.mov (.t 59)))⟩,⟨(some 60),none,(.q (.ext 0 (.t 51)))⟩,⟨(some 61),none,(.q (.ext 1 (.t 51)))⟩,⟨(some 8),none,(.q (.mov (.t 60)))⟩,⟨(some 9),none,(.q (.mov (.t 61)))⟩] [0,1,6,7,8,9])
(.seq
(.reg 10 [⟨(some 62),none,(.q (.mov (.t 6)))⟩,⟨(some 63),none,(.q (.bin .add (.t 62) (.c (.int .i64 1))))⟩,⟨(some 64),none,(.q (.mov (.t 8)))⟩,⟨(some 65),none,(.q (.bin .add (.t 63) (.t 64)))⟩,⟨(some 6),none,(.q (.mov (.t 65)))⟩] [0,1,6,7,9])
(.seq
(.reg 11 [⟨(some 66),none,(.q (.mov (.t 9)))⟩,⟨(some 67),none,(.q (.mov (.t 66)))⟩,⟨(some 68),(some ⟨67,false⟩),(.q (.mov (.t 6)))⟩,⟨(some 69),(some ⟨67,false⟩),(.q (.bin .gtr (.t 68) (.c (.int .i64 2000))))⟩,⟨(some 70),none,(.q (.pick (.t 67) (.c (.bool true)) (.t 69)))⟩] [0,1,6,7,70])
(.cond (.t 70)
(.seq
(.reg 12 [⟨(some 4),none,(.q (.mov (.c (.int .i64 0))))⟩,⟨(some 5),none,(.q (.mov (.c (.bool true))))⟩] [4,5])
.ret)
.skip))))))
(.reg 6 [⟨(some 21),none,(.q (.mov (.t 7)))⟩,⟨(some 22),none,(.q (.bin .add (.t 21) (.c (.int .i64 1))))⟩,⟨(some 7),none,(.q (.mov (.t 22)))⟩] [0,1,6,7]))))))
(.seq
(.reg 13 [⟨(some 71),none,(.q (.mov (.t 6)))⟩,⟨(some 4),none,(.q (.mov (.t 71)))⟩,⟨(some 5),none,(.q (.mov (.c (.bool false))))⟩] [4,5])
.ret)))))
theorem fok30 : FOK Tryd.prog 30 (72,ic30,[(.t 4),(.t 5)]):=.mk (pf:=[]) (an:=[(0,[0,1]),(1,[0,1,16]),(2,[4,5]),(3,[0,1,6]),(4,[0,1,6,7]),(5,[0,1,6,7,20]),(6,[0,1,6,7]),(7,[0,1,6,7,50]),(8,[4,5]),(9,[0,1,6,7,8,9]),(10,[0,1,6,7,9]),(11,[0,1,6,7,70]),(12,[4,5]),(13,[4,5])]) (by kernel_rfl) (fnOK_of Tryd.func30 (by kernel_rfl) (by kernel_rfl) (by kernel_rfl))
def ic31 : IC :=
(.seq
(.reg 0 [⟨(some 1),none,(.boxt (.t 0))⟩,⟨(some 2),none,(.alloc [(.bool false)])⟩] [1,2])
(.seq
(.block 0
(.seq
(.reg 1 [⟨(some 8),none,(.q (.faddr 0 (.t 1)))⟩,⟨(some 9),none,(.q (.load none (.t 8)))⟩,⟨(some 10),none,(.call 41 [(.t 9)])⟩,⟨(some 11),none,(.q (.not (.t 10)))⟩,⟨(some 12),none,(.q (.mov (.t 11)))⟩,⟨(some 13),(some ⟨12,false⟩),(.q (.faddr 0 (.t 1)))⟩,⟨(some 14),(some ⟨12,false⟩),(.q (.load none (.t 13)))⟩,⟨(some 15),(some ⟨12,false⟩),(.call 42 [(.t 14)])⟩,⟨(some 16),none,(.q (.pick (.t 12) (.c (.bool true)) (.t 15)))⟩,⟨(some 17),none,(.q (.mov (.t 16)))⟩,⟨(some 18),(some ⟨17,false⟩),(.q (.faddr 1 (.t 1)))⟩,⟨(some 19),(some ⟨17,false⟩),(.q (.load (some 3) (.t 18)))⟩,⟨(some 20),(some ⟨17,false⟩),(.call 43 [(.t 19),(.c (.bool false))])⟩,⟨(some 21),(some ⟨17,false⟩),(.q (.not (.t 20)))⟩,⟨(some 22),none,(.q (.pick (.t 17) (.c (.bool true)) (.t 21)))⟩,⟨(some 7),none,(.q (.mov (.t 22)))⟩] [1,2,7])
(.cond (.t 7)
(.seq
(.reg 2 [⟨none,none,(.store 1 (.t 2) (.c (.bool false)))⟩] [2])
.ret)
(.seq
(.reg 3 [⟨(some 24),none,(.q (.faddr 4 (.t 1)))⟩,⟨(some 25),none,(.q (.load none (.t 24)))⟩,⟨(some 26),none,(.call 44 [(.t 25)])⟩,⟨(some 27),none,(.q (.bin .eql (.t 26) (.c (.str []))))⟩,⟨(some 28),none,(.q (.mov (.t 27)))⟩,⟨(some 29),(some ⟨28,false⟩),(.q (.faddr 5 (.t 1)))⟩,⟨(some 30),(some ⟨28,false⟩),(.q (.load none (.t 29)))⟩,⟨(some 31),(some ⟨28,false⟩),(.q (.len 1 (.t 30)))⟩,⟨(some 32),(some ⟨28,false⟩),(.q (.bin .gtr (.t 31) (.c (.int .i64 64))))⟩,⟨(some 33),none,(.q (.pick (.t 28) (.c (.bool true)) (.t 32)))⟩,⟨(some 23),none,(.q (.mov (.t 33)))⟩] [1,2,23])
(.cond (.t 23)
(.seq
(.reg 4 [⟨none,none,(.store 1 (.t 2) (.c (.bool false)))⟩] [2])
.ret)
(.seq
(.reg 5 [⟨(some 35),none,(.q (.faddr 6 (.t 1)))⟩,⟨(some 36),none,(.q (.load none (.t 35)))⟩,⟨(some 37),none,(.call 45 [(.t 36),(.c (.int .i64 32)),(.f 46)])⟩,⟨(some 38),none,(.q (.not (.t 37)))⟩,⟨(some 39),none,(.q (.mov (.t 38)))⟩,⟨(some 40),(some ⟨39,false⟩),(.q (.faddr 9 (.t 1)))⟩,⟨(some 41),(some ⟨39,false⟩),(.q (.load none (.t 40)))⟩,⟨(some 42),(some ⟨39,false⟩),(.call 45 [(.t 41),(.c (.int .i64 32)),(.f 46)])⟩,⟨(some 43),(some ⟨39,false⟩),(.q (.not (.t 42)))⟩,⟨(some 44),none,(.q (.pick (.t 39) (.c (.bool true)) (.t 43)))⟩,⟨(some 45),none,(.q (.mov (.t 44)))⟩,⟨(some 46),(some ⟨45,false⟩),(.q (.faddr 14 (.t 1)))⟩,⟨(some 47),(some ⟨45,false⟩),(.q (.load none (.t 46)))⟩,⟨(some 48),(some ⟨45,false⟩),(.call 47 [(.t 47),(.c (.int .i64 32)),(.f 42)])⟩,⟨(some 49),(some ⟨45,false⟩),(.q (.not (.t 48)))⟩,⟨(some 50),none,(.q (.pick (.t 45) (.c (.bool true)) (.t 49)))⟩,⟨(some 34),none,(.q (.mov (.t 50)))⟩] [1,2,34])
(.cond (.t 34)
(.seq
(.reg 6 [⟨none,none,(.store 1 (.t 2) (.c (.bool false)))⟩] [2])
.ret)
.skip)))))))
(.seq
(.seq
(.reg 7 [⟨(some 51),none,(.q (.faddr 14 (.t 1)))⟩,⟨(some 52),none,(.q (.load none (.t 51)))⟩,⟨(some 53),none,(.q (.len 0 (.t 52)))⟩,⟨(some 54),none,(.q (.mov (.c (.int .i64 0))))⟩] [1,2,52,53,54])
(.block 1
(.loop
(.seq
(.reg 8 [⟨(some 55),none,(.q (.bin .lss (.t 54) (.t 53)))⟩] [1,2,52,53,54,55])
(.seq
(.cond (.t 55)
.skip
(.exit 1))
(.seq
(.block 2
(.seq
(.reg 9 [⟨(some 56),none,(.q (.mov (.t 54)))⟩,⟨(some 57),none,(.q (.iaddr 1 (.t 52) (.t 54)))⟩,⟨(some 58),none,(.q (.load none (.t 57)))⟩,⟨(some 3),none,(.q (.mov (.t 56)))⟩,⟨(some 4),none,(.q (.mov (.t 58)))⟩] [1,2,3,4,52,53,54])
(.seq
(.reg 10 [⟨(some 59),none,(.q (.mov (.t 3)))⟩,⟨(some 60),none,(.q (.bin .gtr (.t 59) (.c (.int .i64 0))))⟩,⟨(some 61),none,(.q (.mov (.t 60)))⟩,⟨(some 62),(some ⟨61,true⟩),(.q (.faddr 14 (.t 1)))⟩,⟨(some 63),(some ⟨61,true⟩),(.q (.load none (.t 62)))⟩,⟨(some 64),(some ⟨61,true⟩),(.q (.mov (.t 3)))⟩,⟨(some 65),(some ⟨61,true⟩),(.q (.bin .sub (.t 64) (.c (.int .i64 1))))⟩,⟨(some 66),(some ⟨61,true⟩),(.q (.iaddr 1 (.t 63) (.t 65)))⟩,⟨(some 67),(some ⟨61,true⟩),(.q (.load none (.t 66)))⟩,⟨(some 68),(some ⟨61,true⟩),(.q (.mov (.t 4)))⟩,⟨(some 69),(some ⟨61,true⟩),(.q (.bin .geq (.t 67) (.t 68)))⟩,⟨(some 70),none,(.q (.pick (.t 61) (.t 69) (.c (.bool false))))⟩] [1,2,52,53,54,70])
(.cond (.t 70)
(.seq
(.reg 11 [⟨none,none,(.store 1 (.t 2) (.c (.bool false)))⟩] [2])
.ret)
.skip))))
(.reg 12 [⟨(some 71),none,(.q (.bin .add (.t 54) (.c (.int .i64 1))))⟩,⟨(some 54),none,(.q (.mov (.t 71)))⟩] [1,2,52,53,54])))))))
(.seq
(.seq
(.reg 13 [⟨(some 72),none,(.q (.load (some 15) (.t 1)))⟩,⟨(some 73),none,(.call 48 [(.t 72)])⟩] [2,73])
(.block 3
(.rfunc (.t 73) [74,75]
(.seq
(.reg 14 [⟨(some 5),none,(.alloc [(.int .u8 0)])⟩,⟨none,none,(.store 1 (.t 5) (.t 74))⟩] [2,5,75])
(.reg 15 [⟨(some 6),none,(.q (.mov (.t 75)))⟩] [2,5,6]))
(.block 4
(.seq
(.reg 16 [⟨(some 76),none,(.q (.mov (.t 6)))⟩,⟨(some 77),none,(.q (.mkf 50 [] [(.t 5)]))⟩,⟨(some 78),none,(.call 49 [(.t 76),(.c (.int .i64 32)),(.t 77)])⟩,⟨(some 79),none,(.q (.not (.t 78)))⟩] [2,79])
(.cond (.t 79)
(.seq
(.reg 17 [⟨none,none,(.store 1 (.t 2) (.c (.bool false)))⟩] [])
.ret)
.skip))))))
(.seq
(.reg 18 [⟨none,none,(.store 1 (.t 2) (.c (.bool true)))⟩] [2])
.ret)))))
theorem fok31 : FOK Tryd.prog 31 (80,ic31,[(.cell none 2)]):=.mk (pf:=[1000001]) (an:=[(0,[1,2]),(1,[1,2,7]),(2,[2]),(3,[1,2,23]),(4,[2]),(5,[1,2,34]),(6,[2]),(7,[1,2,52,53,54]),(8,[1,2,52,53,54,55]),(9,[1,2,3,4,52,53,54]),(10,[1,2,52,53,54,70]),(11,[2]),(12,[1,2,52,53,54]),(13,[2,73]),(14,[2,5,75]),(15,[2,5,6]),(16,[2,79]),(18,[2])]) (by kernel_rfl) (fnOK_of Tryd.func31 (by kernel_rfl) (by kernel_rfl) (by kernel_rfl))
def ic32 : IC :=
(.seq
(.reg 0 [⟨(some 2),none,(.q (.mov (.c .nilslice)))⟩] [0])
(.seq
(.seq
(.reg 1 [⟨(some 3),none,(.q (.mov (.t 0)))⟩,⟨(some 4),none,(.q (.isnil (.slice 46) false (.t 3)))⟩] [0,4])
(.cond (.t 4)
(.seq
(.reg 2 [⟨(some 2),none,(.q (.mov (.c .nilslice)))⟩] [2])
.ret)
.skip))
(.seq
(.reg 3 [⟨(some 5),none,(.bsl 5 0 [(.str []),(.int .u8 0),(.int .i64 0),(.str []),(.str [])] [])⟩,⟨(some 6),none,(.q (.mov (.t 0)))⟩,⟨(some 7),none,(.app 5 (.t 5) (.t 6))⟩,⟨(some 2),none,(.q (.mov (.t 7)))⟩] [2])
.ret)))
theorem fok32 : FOK Tryd.prog 32 (8,ic32,[(.t 2)]):=.mk (pf:=[]) (an:=[(0,[0]),(1,[0,4]),(2,[2]),(3,[2])]) (by kernel_rfl) (fnOK_of Tryd.func32 (by kernel_rfl) (by kernel_rfl) (by kernel_rfl))
def ic33 : IC :=
(.seq
(.reg 0 [⟨(some 2),none,(.q (.mov (.c .nilslice)))⟩] [0])
(.seq
(.seq
(.reg 1 [⟨(some 3),none,(.q (.mov (.t 0)))⟩,⟨(some 4),none,(.q (.isnil (.slice 9) false (.t 3)))⟩] [0,4])
(.cond (.t 4)
(.seq
(.reg 2 [⟨(some 2),none,(.q (.mov (.c .nilslice)))⟩] [2])
.ret)
.skip))
(.seq
(.reg 3 [⟨(some 5),none,(.bsl 1 0 [(.str [])] [])⟩,⟨(some 6),none,(.q (.mov (.t 0)))⟩,⟨(some 7),none,(.app 1 (.t 5) (.t 6))⟩,⟨(some 2),none,(.q (.mov (.t 7)))⟩] [2])
.ret)))
theorem fok33 : FOK Tryd.prog 33 (8,ic33,[(.t 2)]):=.mk (pf:=[]) (an:=[(0,[0]),(1,[0,4]),(2,[2]),(3,[2])]) (by kernel_rfl) (fnOK_of Tryd.func33 (by kernel_rfl) (by kernel_rfl) (by kernel_rfl))
def ic34 : IC :=
(.seq
(.reg 0 [⟨(some 2),none,(.q (.mov (.c .nilslice)))⟩] [0])
(.seq
(.seq
(.reg 1 [⟨(some 3),none,(.q (.mov (.t 0)))⟩,⟨(some 4),none,(.q (.isnil (.slice 48) false (.t 3)))⟩] [0,4])
(.cond (.t 4)
(.seq
(.reg 2 [⟨(some 2),none,(.q (.mov (.c .nilslice)))⟩] [2])
.ret)
.skip))
(.seq
(.reg 3 [⟨(some 5),none,(.bsl 7 0 [(.int .u8 0),(.str []),(.int .u8 0),(.int .i64 0),(.str []),(.str []),.nilslice] [])⟩,⟨(some 6),none,(.q (.mov (.t 0)))⟩,⟨(some 7),none,(.app 7 (.t 5) (.t 6))⟩,⟨(some 2),none,(.q (.mov (.t 7)))⟩] [2])
.ret)))
theorem fok34 : FOK Tryd.prog 34 (8,ic34,[(.t 2)]):=.mk (pf:=[]) (an:=[(0,[0]),(1,[0,4]),(2,[2]),(3,[2])]) (by kernel_rfl) (fnOK_of Tryd.func34 (by kernel_rfl) (by kernel_rfl) (by kernel_rfl))
def ic35 : IC :=
(.seq
(.reg 0 [⟨(some 1),none,(.boxt (.t 0))⟩,⟨(some 2),none,(.alloc [(.int .u8 0),(.str []),(.int .u8 0),(.int .i64 0),(.str []),(.str []),.nilslice])⟩] [1,2])
(.seq
(.reg 1 [⟨(some 6),none,(.q (.faddr 0 (.t 1)))⟩,⟨(some 7),none,(.q (.load none (.t 6)))⟩,⟨(some 8),none,(.q (.faddr 1 (.t 1)))⟩,⟨(some 9),none,(.q (.load (some 5) (.t 8)))⟩,⟨(some 10),none,(.q (.bld [(.int .u8 0),(.str []),(.int .u8 0),(.int .i64 0),(.str []),(.str []),.nilslice] [⟨0,⟨1,(.t 7)⟩⟩,⟨1,⟨5,(.t 9)⟩⟩]))⟩,⟨(some 3),none,(.alloc [(.int .u8 0),(.str []),(.int .u8 0),(.int .i64 0),(.str []),(.str []),.nilslice])⟩,⟨none,none,(.store 7 (.t 3) (.t 10))⟩] [1,2,3])
(.seq
(.seq
(.reg 2 [⟨(some 11),none,(.q (.faddr 6 (.t 1)))⟩,⟨(some 12),none,(.q (.load none (.t 11)))⟩,⟨(some 13),none,(.q (.len 0 (.t 12)))⟩,⟨(some 14),none,(.q (.mov (.c (.int .i64 0))))⟩] [2,3,12,13,14])
(.block 0
(.loop
(.seq
(.reg 3 [⟨(some 15),none,(.q (.bin .lss (.t 14) (.t 13)))⟩] [2,3,12,13,14,15])
(.seq
(.cond (.t 15)
.skip
(.exit 0))
(.seq
(.block 1
(.seq
(.reg 4 [⟨(some 16),none,(.q (.iaddr 7 (.t 12) (.t 14)))⟩,⟨(some 17),none,(.q (.load (some 7) (.t 16)))⟩,⟨(some 5),none,(.alloc [(.int .u8 0),(.str []),(.int .u8 0),(.int .i64 0),(.str []),(.str []),.nilslice])⟩,⟨none,none,(.store 7 (.t 5) (.t 17))⟩] [2,3,5,12,13,14])
(.dreg 5 [⟨(some 18),none,(.q (.faddr 6 (.t 3)))⟩,⟨(some 19),none,(.q (.load none (.t 18)))⟩,⟨(some 20),none,(.q (.load (some 7) (.t 5)))⟩,⟨(some 21),none,(.pcall 35 [(.t 20)])⟩,⟨(some 22),none,(.bslt 7 1 [(.int .u8 0),(.str []),(.int .u8 0),(.int .i64 0),(.str []),(.str []),.nilslice] [⟨0,⟨7,(.t 21)⟩⟩])⟩,⟨(some 23),none,(.app 7 (.t 19) (.t 22))⟩,⟨(some 24),none,(.q (.faddr 6 (.t 3)))⟩,⟨none,none,(.store 1 (.t 24) (.t 23))⟩] true [2,3,12,13,14])))
(.reg 6 [⟨(some 25),none,(.q (.bin .add (.t 14) (.c (.int .i64 1))))⟩,⟨(some 14),none,(.q (.mov (.t 25)))⟩] [2,3,12,13,14])))))))
(.seq
(.reg 7 [⟨(some 26),none,(.q (.load (some 7) (.t 3)))⟩,⟨none,none,(.store 7 (.t 2) (.t 26))⟩] [2])
.ret))))
theorem fok35 : FOK Tryd.prog 35 (27,ic35,[(.cell (some 7) 2)]):=.mk (pf:=([1000001,1000022] ++ allF0)) (an:=[(0,[1,2]),(1,[1,2,3]),(2,[2,3,12,13,14]),(3,[2,3,12,13,14,15]),(4,[2,3,5,12,13,14]),(5,[2,3,12,13,14]),(6,[2,3,12,13,14]),(7,[2])]) (by kernel_rfl) (fnOK_of Tryd.func35 (by kernel_rfl) (by kernel_rfl) (by kernel_rfl))
def ic36 : IC :=
(.seq
(.reg 0 [⟨(some 2),none,(.boxt (.t 0))⟩,⟨(some 3),none,(.boxt (.t 1))⟩,⟨(some 4),none,(.q (.mov (.c (.bool false))))⟩] [2,3])
(.seq
(.seq
(.reg 1 [⟨(some 6),none,(.q (.faddr 0 (.t 2)))⟩,⟨(some 7),none,(.q (.load none (.t 6)))⟩,⟨(some 8),none,(.q (.faddr 0 (.t 3)))⟩,⟨(some 9),none,(.q (.load none (.t 8)))⟩,⟨(some 10),none,(.q (.bin .neq (.t 7) (.t 9)))⟩,⟨(some 11),none,(.q (.mov (.t 10)))⟩,⟨(some 12),(some ⟨11,false⟩),(.q (.faddr 1 (.t 2)))⟩,⟨(some 13),(some ⟨11,false⟩),(.q (.load (some 5) (.t 12)))⟩,⟨(some 14),(some ⟨11,false⟩),(.q (.faddr 1 (.t 3)))⟩,⟨(some 15),(some ⟨11,false⟩),(.q (.load (some 5) (.t 14)))⟩,⟨(some 16),(some ⟨11,false⟩),(.q (.eqs [2,1,1,2,2] true true (.t 13) (.t 15)))⟩,⟨(some 17),none,(.q (.pick (.t 11) (.c (.bool true)) (.t 16)))⟩,⟨(some 18),none,(.q (.mov (.t 17)))⟩,⟨(some 19),(some ⟨18,false⟩),(.q (.faddr 6 (.t 2)))⟩,⟨(some 20),(some ⟨18,false⟩),(.q (.load none (.t 19)))⟩,⟨(some 21),(some ⟨18,false⟩),(.q (.len 0 (.t 20)))⟩,⟨(some 22),(some ⟨18,false⟩),(.q (.faddr 6 (.t 3)))⟩,⟨(some 23),(some ⟨18,false⟩),(.q (.load none (.t 22)))⟩,⟨(some 24),(some ⟨18,false⟩),(.q (.len 0 (.t 23)))⟩,⟨(some 25),(some ⟨18,false⟩),(.q (.bin .neq (.t 21) (.t 24)))⟩,⟨(some 26),none,(.q (.pick (.t 18) (.c (.bool true)) (.t 25)))⟩] [2,3,26])
(.cond (.t 26)
(.seq
(.reg 2 [⟨(some 4),none,(.q (.mov (.c (.bool false))))⟩] [4])
.ret)
.skip))
(.seq
(.seq
(.reg 3 [⟨(some 5),none,(.q (.mov (.c (.int .i64 0))))⟩] [2,3,5])
(.block 0
(.loop
(.seq
(.seq
(.reg 4 [⟨(some 27),none,(.q (.mov (.t 5)))⟩,⟨(some 28),none,(.q (.faddr 6 (.t 2)))⟩,⟨(some 29),none,(.q (.load none (.t 28)))⟩,⟨(some 30),none,(.q (.len 0 (.t 29)))⟩,⟨(some 31),none,(.q (.bin .lss (.t 27) (.t 30)))⟩] [2,3,5,31])
(.cond (.t 31)
.skip
(.exit 0)))
(.seq
(.block 1
(.seq
(.dreg 6 [⟨(some 34),none,(.q (.faddr 6 (.t 2)))⟩,⟨(some 35),none,(.q (.load none (.t 34)))⟩,⟨(some 36),none,(.q (.mov (.t 5)))⟩,⟨(some 37),none,(.q (.iaddr 7 (.t 35) (.t 36)))⟩,⟨(some 38),none,(.q (.load (some 7) (.t 37)))⟩,⟨(some 39),none,(.q (.faddr 6 (.t 3)))⟩,⟨(some 40),none,(.q (.load none (.t 39)))⟩,⟨(some 41),none,(.q (.mov (.t 5)))⟩,⟨(some 42),none,(.q (.iaddr 7 (.t 40) (.t 41)))⟩,⟨(some 43),none,(.q (.load (some 7) (.t 42)))⟩,⟨(some 44),none,(.call 36 [(.t 38),(.t 43)])⟩,⟨(some 45),none,(.q (.not (.t 44)))⟩] false [2,3,5,45])
(.cond (.t 45)
(.seq
(.reg 7 [⟨(some 4),none,(.q (.mov (.c (.bool false))))⟩] [4])
.ret)
.skip)))
(.reg 5 [⟨(some 32),none,(.q (.mov (.t 5)))⟩,⟨(some 33),none,(.q (.bin .add (.t 32) (.c (.int .i64 1))))⟩,⟨(some 5),none,(.q (.mov (.t 33)))⟩] [2,3,5]))))))
(.seq
(.reg 8 [⟨(some 4),none,(.q (.mov (.c (.bool true))))⟩] [4])
.ret))))
theorem fok36 : FOK Tryd.prog 36 (46,ic36,[(.t 4)]):=.mk (pf:=[1000002,1000003]) (an:=[(0,[2,3]),(1,[2,3,26]),(2,[4]),(3,[2,3,5]),(4,[2,3,5,31]),(5,[2,3,5]),(6,[2,3,5,45]),(7,[4]),(8,[4])]) (by kernel_rfl) (fnOK_of Tryd.func36 (by kernel_rfl) (by kernel_rfl) (by kernel_rfl))
end Go.Id.Tryd
