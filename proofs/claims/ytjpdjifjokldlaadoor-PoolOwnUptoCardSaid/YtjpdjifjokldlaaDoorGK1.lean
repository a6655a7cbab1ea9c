/- The compiled codes of functions,written by a program out of the given form. Conditions: none. -/
import Derived.Test.YtjpdjifjokldlaaDoorFwTf
import Derived.Test.YtjpdjifjokldlaaDoorProg
set_option linter.all false
namespace Go.Id.Tryd
open Go Go.Id Go.Proofs
def ip9:List Nat:=List.range 120
def ic45:IC :=
(.seq
(.reg 0 [⟨(some 1),none,(.ar7 T0)⟩,⟨(some 2),none,(.q (.mov (.c (.bool false))))⟩] [1])
(.seq
(.block 0
(.seq
(.reg 1 [⟨(some 4),none,(.q (.aa9 0 T1))⟩,⟨(some 5),none,(.q (.load none T4))⟩,⟨(some 6),none,(.call 40 [T5])⟩,⟨(some 7),none,(.q (.not T6))⟩,⟨(some 8),none,(.q (.mov T7))⟩,⟨(some 9),(some ⟨8,false⟩),(.q (.aa9 1 T1))⟩,⟨(some 10),(some ⟨8,false⟩),(.q (.load none T9))⟩,⟨(some 11),(some ⟨8,false⟩),(.call 61 [T10])⟩,⟨(some 12),(some ⟨8,false⟩),(.q (.not T11))⟩,⟨(some 13),none,(.q (.pick T8 (.c (.bool true)) T12))⟩,⟨(some 3),none,(.q (.mov T13))⟩] [1,3])
(.cond T3
(.seq
(.reg 2 [⟨(some 2),none,(.q (.mov (.c (.bool false))))⟩] [2])
.ret)
(.seq
(.reg 3 [⟨(some 15),none,(.q (.aa9 1 T1))⟩,⟨(some 16),none,(.q (.load none T15))⟩,⟨(some 17),none,(.q (.bin .eql T16 (.c (.int .u8 0))))⟩,⟨(some 14),none,(.q (.mov T17))⟩] [1,14])
(.cond T14
(.seq
(.reg 4 [⟨(some 18),none,(.q (.aa9 2 T1))⟩,⟨(some 19),none,(.q (.load (some 3) T18))⟩,⟨(some 20),none,(.q (.bld [(.int .i64 0),(.str []),(.str [])] []))⟩,⟨(some 21),none,(.q (.eqs [1,2,2] true false T19 T20))⟩,⟨(some 2),none,(.q (.mov T21))⟩] [2])
.ret)
.skip)))))
(.seq
(.reg 5 [⟨(some 22),none,(.q (.aa9 0 T1))⟩,⟨(some 23),none,(.q (.load none T22))⟩,⟨(some 24),none,(.call 41 [T23])⟩,⟨(some 25),none,(.q (.not T24))⟩,⟨(some 26),none,(.q (.mov T25))⟩,⟨(some 27),(some ⟨26,true⟩),(.q (.aa9 2 T1))⟩,⟨(some 28),(some ⟨26,true⟩),(.q (.load (some 3) T27))⟩,⟨(some 29),(some ⟨26,true⟩),(.call 42 [T28,(.c (.bool true))])⟩,⟨(some 30),none,(.q (.pick T26 T29 (.c (.bool false))))⟩,⟨(some 2),none,(.q (.mov T30))⟩] [2])
.ret)))
theorem fok45:FOK Tryd.prog 45 (31,ic45,[(.t 2)]):=.mk (pf:=[1000001]) (an:=[(0,[1]),(1,[1,3]),(2,[2]),(3,[1,14]),(4,[2]),(5,[2])]) (by kernel_rfl) (ab6 Tryd.func45 (by kernel_rfl) (by kernel_rfl) (by kernel_rfl))
def ic46:IC :=
(.seq
(.reg 0 [⟨(some 5),none,(.ar7 T2)⟩,⟨(some 6),none,(.q (.mov (.c (.bool false))))⟩] [0,1,5])
(.seq
(.reg 1 [⟨(some 7),none,(.q (.mov T0))⟩,⟨(some 8),none,(.q (.len 0 T7))⟩,⟨(some 9),none,(.q (.mov T1))⟩,⟨(some 10),none,(.q (.bin .leq T8 T9))⟩,⟨(some 11),none,(.q (.mov T10))⟩,⟨(some 12),(some ⟨11,true⟩),(.q (.mov T0))⟩,⟨(some 13),(some ⟨11,true⟩),(.q (.mkf 63 [] [T5]))⟩,⟨(some 14),(some ⟨11,true⟩),(.call 62 [T12,T13])⟩,⟨(some 15),(some ⟨11,true⟩),(.q (.not T14))⟩,⟨(some 16),none,(.q (.pick T11 T15 (.c (.bool false))))⟩,⟨(some 6),none,(.q (.mov T16))⟩] [6])
.ret))
theorem fok46:FOK Tryd.prog 46 (17,ic46,[(.t 6)]):=.mk (pf:=[1000005]) (an:=[(0,[0,1,5]),(1,[6])]) (by kernel_rfl) (ab6 Tryd.func46 (by kernel_rfl) (by kernel_rfl) (by kernel_rfl))
def ic47:IC :=
(.seq
(.reg 0 [⟨(some 1),none,(.ar7 T0)⟩,⟨(some 2),none,(.q (.mov (.c .ae6)))⟩] [1])
(.seq
(.reg 1 [⟨(some 3),none,(.q (.mkf 64 [] [T1]))⟩,⟨(some 2),none,(.q (.mov T3))⟩] [2])
.ret))
theorem fok47:FOK Tryd.prog 47 (4,ic47,[(.t 2)]):=.mk (pf:=[1000001]) (an:=[(0,[1]),(1,[2])]) (by kernel_rfl) (ab6 Tryd.func47 (by kernel_rfl) (by kernel_rfl) (by kernel_rfl))
def ic48:IC :=
(.seq
(.reg 0 [⟨(some 5),none,(.ar7 T2)⟩,⟨(some 6),none,(.q (.mov (.c (.bool false))))⟩] [0,1,5])
(.seq
(.reg 1 [⟨(some 7),none,(.q (.mov T0))⟩,⟨(some 8),none,(.q (.len 0 T7))⟩,⟨(some 9),none,(.q (.mov T1))⟩,⟨(some 10),none,(.q (.bin .leq T8 T9))⟩,⟨(some 11),none,(.q (.mov T10))⟩,⟨(some 12),(some ⟨11,true⟩),(.q (.mov T0))⟩,⟨(some 13),(some ⟨11,true⟩),(.q (.mkf 66 [] [T5]))⟩,⟨(some 14),(some ⟨11,true⟩),(.call 65 [T12,T13])⟩,⟨(some 15),(some ⟨11,true⟩),(.q (.not T14))⟩,⟨(some 16),none,(.q (.pick T11 T15 (.c (.bool false))))⟩,⟨(some 6),none,(.q (.mov T16))⟩] [6])
.ret))
theorem fok48:FOK Tryd.prog 48 (17,ic48,[(.t 6)]):=.mk (pf:=[1000005]) (an:=[(0,[0,1,5]),(1,[6])]) (by kernel_rfl) (ab6 Tryd.func48 (by kernel_rfl) (by kernel_rfl) (by kernel_rfl))
def ic49:IC :=
(.seq
(.reg 0 [⟨(some 2),none,(.ar7 T0)⟩,⟨(some 3),none,(.q (.mov (.c (.bool false))))⟩] [1,2])
(.seq
(.reg 1 [⟨(some 4),none,(.q (.load (some 7) T2))⟩,⟨(some 5),none,(.q (.load none T1))⟩,⟨(some 6),none,(.call 50 [T4,T5])⟩,⟨(some 7),none,(.q (.bin .eql T6 (.c (.int .i64 0))))⟩,⟨(some 3),none,(.q (.mov T7))⟩] [3])
.ret))
theorem fok49:FOK Tryd.prog 49 (8,ic49,[(.t 3)]):=.mk (pf:=[1000002]) (an:=[(0,[1,2]),(1,[3])]) (by kernel_rfl) (ab6 Tryd.func49 (by kernel_rfl) (by kernel_rfl) (by kernel_rfl))
def ic50:IC :=
(.seq
(.reg 0 [⟨(some 2),none,(.ar7 T0)⟩,⟨(some 3),none,(.ar7 T1)⟩,⟨(some 4),none,(.alloc [(.int .i64 0)])⟩] [2,3,4])
(.seq
(.block 0
(.seq
(.reg 1 [⟨(some 9),none,(.q (.load none T3))⟩,⟨(some 10),none,(.q (.bin .lss T9 (.c (.int .u8 1))))⟩,⟨(some 11),none,(.q (.mov T10))⟩,⟨(some 12),(some ⟨11,false⟩),(.q (.load none T3))⟩,⟨(some 13),(some ⟨11,false⟩),(.q (.bin .gtr T12 (.c (.int .u8 3))))⟩,⟨(some 14),none,(.q (.pick T11 (.c (.bool true)) T13))⟩,⟨(some 8),none,(.q (.mov T14))⟩] [2,3,4,8])
(.cond T8
(.seq
(.reg 2 [⟨none,none,(.store 1 T4 (.c (.int .i64 1)))⟩] [4])
.ret)
(.seq
(.reg 3 [⟨(some 16),none,(.q (.load (some 7) T2))⟩,⟨(some 17),none,(.call 67 [T16])⟩,⟨(some 18),none,(.q (.bin .gtr T17 (.c (.int .i64 24))))⟩,⟨(some 15),none,(.q (.mov T18))⟩] [2,3,4,15])
(.cond T15
(.seq
(.reg 4 [⟨none,none,(.store 1 T4 (.c (.int .i64 40)))⟩] [4])
.ret)
(.seq
(.reg 5 [⟨(some 20),none,(.q (.load (some 7) T2))⟩,⟨(some 21),none,(.call 68 [T20])⟩,⟨(some 22),none,(.q (.bin .gtr T21 (.c (.int .i64 8))))⟩,⟨(some 19),none,(.q (.mov T22))⟩] [2,3,4,19])
(.cond T19
(.seq
(.reg 6 [⟨none,none,(.store 1 T4 (.c (.int .i64 21)))⟩] [4])
.ret)
.skip)))))))
(.seq
(.seq
(.reg 7 [⟨(some 23),none,(.q (.load (some 7) T2))⟩,⟨(some 24),none,(.call 69 [T23])⟩] [3,4,24])
(.block 1
(.rfunc T24 [25,26]
(.seq
(.reg 8 [⟨(some 5),none,(.alloc [(.int .u8 0),(.str []),(.int .u8 0),(.int .i64 0),(.str []),(.str []),.aa1])⟩,⟨none,none,(.store 7 T5 T25)⟩] [3,4,5,26])
(.reg 9 [⟨(some 6),none,(.q (.mov T26))⟩] [3,4,5,6]))
(.block 2
(.seq
(.reg 10 [⟨(some 27),none,(.q (.aa9 0 T5))⟩,⟨(some 28),none,(.q (.load none T27))⟩,⟨(some 29),none,(.call 70 [T28])⟩,⟨(some 7),none,(.alloc [(.int .i64 0),(.int .i64 0),(.bool false),(.int .u8 0)])⟩,⟨none,none,(.store 4 T7 T29)⟩] [3,4,5,6,7])
(.block 3
(.seq
(.seq
(.reg 11 [⟨(some 31),none,(.q (.aa9 3 T7))⟩,⟨(some 32),none,(.q (.load none T31))⟩,⟨(some 33),none,(.q (.load none T3))⟩,⟨(some 34),none,(.q (.bin .lss T32 T33))⟩,⟨(some 30),none,(.q (.mov T34))⟩] [4,5,6,7,30])
(.cond T30
.skip
(.seq
(.reg 12 [⟨(some 35),none,(.q (.mov T6))⟩,⟨(some 36),none,(.q (.mov T35))⟩,⟨(some 37),(some ⟨36,true⟩),(.q (.aa9 2 T7))⟩,⟨(some 38),(some ⟨36,true⟩),(.q (.load none T37))⟩,⟨(some 39),(some ⟨36,true⟩),(.q (.not T38))⟩,⟨(some 40),none,(.q (.pick T36 T39 (.c (.bool false))))⟩,⟨(some 30),none,(.q (.mov T40))⟩] [4,5,7,30])
(.cond T30
.skip
(.seq
(.reg 13 [⟨(some 41),none,(.q (.aa9 6 T5))⟩,⟨(some 42),none,(.q (.load none T41))⟩,⟨(some 43),none,(.q (.len 0 T42))⟩,⟨(some 44),none,(.q (.aa9 0 T7))⟩,⟨(some 45),none,(.q (.load none T44))⟩,⟨(some 46),none,(.q (.bin .lss T43 T45))⟩,⟨(some 30),none,(.q (.mov T46))⟩] [4,5,7,30])
(.cond T30
.skip
(.reg 14 [⟨(some 47),none,(.q (.aa9 6 T5))⟩,⟨(some 48),none,(.q (.load none T47))⟩,⟨(some 49),none,(.q (.len 0 T48))⟩,⟨(some 50),none,(.q (.aa9 1 T7))⟩,⟨(some 51),none,(.q (.load none T50))⟩,⟨(some 52),none,(.q (.bin .gtr T49 T51))⟩,⟨(some 30),none,(.q (.mov T52))⟩] [4,5,30])))))))
(.cond T30
(.seq
(.reg 15 [⟨none,none,(.store 1 T4 (.c (.int .i64 4)))⟩] [])
.ret)
(.seq
(.seq
(.reg 16 [⟨(some 54),none,(.q (.aa9 0 T5))⟩,⟨(some 55),none,(.q (.load none T54))⟩,⟨(some 56),none,(.q (.bin .eql T55 (.c (.int .u8 1))))⟩,⟨(some 57),none,(.q (.mov T56))⟩,⟨(some 58),(some ⟨57,true⟩),(.q (.aa9 1 T5))⟩,⟨(some 59),(some ⟨57,true⟩),(.q (.load (some 5) T58))⟩,⟨(some 60),(some ⟨57,true⟩),(.call 45 [T59])⟩,⟨(some 61),(some ⟨57,true⟩),(.q (.not T60))⟩,⟨(some 62),none,(.q (.pick T57 T61 (.c (.bool false))))⟩,⟨(some 53),none,(.q (.mov T62))⟩] [4,5,53])
(.cond T53
.skip
(.reg 17 [⟨(some 63),none,(.q (.aa9 0 T5))⟩,⟨(some 64),none,(.q (.load none T63))⟩,⟨(some 65),none,(.q (.bin .neq T64 (.c (.int .u8 1))))⟩,⟨(some 66),none,(.q (.mov T65))⟩,⟨(some 67),(some ⟨66,true⟩),(.q (.aa9 1 T5))⟩,⟨(some 68),(some ⟨66,true⟩),(.q (.load (some 5) T67))⟩,⟨(some 69),(some ⟨66,true⟩),(.q (.bld [(.str []),(.int .u8 0),(.int .i64 0),(.str []),(.str [])] []))⟩,⟨(some 70),(some ⟨66,true⟩),(.q (.eqs [2,1,1,2,2] true true T68 T69))⟩,⟨(some 71),none,(.q (.pick T66 T70 (.c (.bool false))))⟩,⟨(some 53),none,(.q (.mov T71))⟩] [4,53])))
(.cond T53
(.seq
(.reg 18 [⟨none,none,(.store 1 T4 (.c (.int .i64 4)))⟩] [])
.ret)
.skip))))))))))
(.seq
(.reg 19 [⟨none,none,(.store 1 T4 (.c (.int .i64 0)))⟩] [4])
.ret))))
theorem fok50:FOK Tryd.prog 50 (72,ic50,[(.cell none 4)]):=.mk (pf:=[1000002,1000003]) (an:=[(0,[2,3,4]),(1,[2,3,4,8]),(2,[4]),(3,[2,3,4,15]),(4,[4]),(5,[2,3,4,19]),(6,[4]),(7,[3,4,24]),(8,[3,4,5,26]),(9,[3,4,5,6]),(10,[3,4,5,6,7]),(11,[4,5,6,7,30]),(12,[4,5,7,30]),(13,[4,5,7,30]),(14,[4,5,30]),(16,[4,5,53]),(17,[4,53]),(19,[4])]) (by kernel_rfl) (ab6 Tryd.func50 (by kernel_rfl) (by kernel_rfl) (by kernel_rfl))
def ic51:IC :=
(.seq
(.reg 0 [oK 2 (.box T0),oM 4 (.c .aa1)] [1,2,4])
(.seq
(.seq
(.reg 1 [oM 6 T1] [2,4,6])
(.block 0
(.rfunc T6 [7]
(.reg 2 [oM 5 T7] [2,5])
(.block 1
(.reg 3 [oQ 8 (.load none T2),oM 9 T5,oK 10 (.av2 1 1 [(.str [])] [⟨0,⟨1,T9⟩⟩]),oK 11 (.app 1 T8 T10),oN (.store 1 T2 T11)] [])))))
(.seq
(.reg 4 [oQ 12 (.load none T2),oM 4 T12] [4])
.ret)))
theorem fok51:FOK Tryd.prog 51 (13,ic51,[(.t 4)]):=bk2 [1000010] Tryd.func51
def ic52:IC :=
(.seq
(.reg 0 [oM 8 (cB true)] [0,1,2,3,8])
(.seq
(.reg 1 [oM 9 (cB true)] [0,1,2,3,8,9])
(.block 0
(.loop
(.block 1
(.seq
(.reg 2 [oM 19 T2,oM 20 T1,oQ 21 (.bin .sub T19 T20),oM 10 T21] [0,1,2,3,8,9,10])
(.seq
(.seq
(.reg 3 [oM 22 T10,oQ 23 (.bin .leq T22 (cI 12))] [0,1,2,3,8,9,10,23])
(.cond T23
(.seq
(.reg 4 [oM 24 T0,oM 25 T1,oM 26 T2,oK 27 (.call 71 [T24,T25,T26])] [])
.ret)
.skip))
(.seq
(.seq
(.reg 5 [oM 28 T3,oQ 29 (.bin .eql T28 (cI 0))] [0,1,2,3,8,9,10,29])
(.cond T29
(.seq
(.reg 6 [oM 30 T0,oM 31 T1,oM 32 T2,oK 33 (.call 72 [T30,T31,T32])] [])
.ret)
.skip))
(.seq
(.seq
(.reg 7 [oM 34 T8,oQ 35 (.not T34)] [0,1,2,3,8,9,10,35])
(.cond T35
(.seq
(.reg 8 [oM 36 T0,oM 37 T1,oM 38 T2,oK 39 (.call 73 [T36,T37,T38])] [0,1,2,3,8,9,10])
(.reg 9 [oM 40 T3,oQ 41 (.bin .sub T40 (cI 1)),oM 3 T41] [0,1,2,3,8,9,10]))
.skip))
(.seq
(.reg 10 [oM 43 T0,oM 44 T1,oM 45 T2,oK 46 (.call 74 [T43,T44,T45]),oM 42 T46,oQ 47 (.ext 0 T42),oQ 48 (.ext 1 T42),oM 11 T47,oM 12 T48] [0,1,2,3,8,9,10,11,12])
(.seq
(.seq
(.reg 11 [oM 49 T12,oQ 50 (.bin .eql T49 (cI 2))] [0,1,2,3,8,9,10,11,12,50])
(.cond T50
(.seq
(.reg 12 [oM 51 T0,oM 52 T1,oM 53 T2,oK 54 (.call 75 [T51,T52,T53])] [0,1,2,3,8,9,10,11])
(.seq
(.reg 13 [oM 55 T2,oQ 56 (.bin .sub T55 (cI 1)),oM 57 T11,oM 58 T1,oQ 59 (.bin .sub T57 T58),oQ 60 (.bin .sub T56 T59),oM 11 T60] [0,1,2,3,8,9,10,11])
(.reg 14 [oM 12 (cI 1)] [0,1,2,3,8,9,10,11,12])))
.skip))
(.seq
(.seq
(.reg 15 [oM 61 T8,oM 62 T61,gQ 63 62 true (.mov T9),oQ 64 (.pick T62 T63 (cB false)),oM 65 T64,gQ 66 65 true (.mov T12),gQ 67 65 true (.bin .eql T66 (cI 1)),oQ 68 (.pick T65 T67 (cB false))] [0,1,2,3,8,9,10,11,68])
(.cond T68
(.seq
(.reg 16 [oM 69 T0,oM 70 T1,oM 71 T2,oK 72 (.call 76 [T69,T70,T71])] [0,1,2,3,8,9,10,11,72])
(.cond T72
.ret
.skip))
.skip))
(.seq
(.seq
(.dreg 17 [oM 73 T1,oQ 74 (.bin .gtr T73 (cI 0)),oM 75 T74,gQ 76 75 true (.mov T0),gQ 77 75 true (.mov T1),gQ 78 75 true (.bin .sub T77 (cI 1)),gQ 79 75 true (.ab5 1 T76 T78),gQ 80 75 true (.load none T79),gQ 81 75 true (.mov T0),gQ 82 75 true (.mov T11),gQ 83 75 true (.ab5 1 T81 T82),gQ 84 75 true (.load none T83),gK 85 75 true (.call 77 [T80,T84]),gQ 86 75 true (.not T85),oQ 87 (.pick T75 T86 (cB false))] false [0,1,2,3,8,9,10,11,87])
(.cond T87
(.seq
(.reg 18 [oM 88 T0,oM 89 T1,oM 90 T2,oM 91 T11,oK 92 (.call 78 [T88,T89,T90,T91]),oM 13 T92] [0,2,3,8,9,13])
(.seq
(.reg 19 [oM 93 T13,oM 1 T93] [0,1,2,3,8,9])
(.exit 1)))
.skip))
(.seq
(.reg 20 [oM 95 T0,oM 96 T1,oM 97 T2,oM 98 T11,oK 99 (.call 79 [T95,T96,T97,T98]),oM 94 T99,oQ 100 (.ext 0 T94),oQ 101 (.ext 1 T94),oM 14 T100,oM 15 T101] [0,1,2,3,10,14,15])
(.seq
(.reg 21 [oM 102 T15,oM 9 T102] [0,1,2,3,9,10,14])
(.seq
(.reg 22 [oM 103 T14,oM 104 T1,oQ 105 (.bin .sub T103 T104),oM 106 T2,oM 107 T14,oQ 108 (.bin .sub T106 T107),oM 16 T105,oM 17 T108] [0,1,2,3,9,10,14,16,17])
(.seq
(.reg 23 [oM 109 T10,oQ 110 (.bin .quo T109 (cI 8)),oM 18 T110] [0,1,2,3,9,14,16,17,18])
(.seq
(.reg 24 [oM 111 T16,oM 112 T17,oQ 113 (.bin .lss T111 T112)] [0,1,2,3,9,14,16,17,18,113])
(.cond T113
(.seq
(.reg 25 [oM 114 T16,oM 115 T18,oQ 116 (.bin .geq T114 T115),oM 8 T116] [0,1,2,3,8,9,14])
(.seq
(.reg 26 [oM 117 T0,oM 118 T1,oM 119 T14,oM 120 T3,oK 121 (.call 52 [T117,T118,T119,T120])] [0,2,3,8,9,14])
(.reg 27 [oM 122 T14,oQ 123 (.bin .add T122 (cI 1)),oM 1 T123] [0,1,2,3,8,9])))
(.seq
(.reg 28 [oM 124 T17,oM 125 T18,oQ 126 (.bin .geq T124 T125),oM 8 T126] [0,1,2,3,8,9,14])
(.seq
(.reg 29 [oM 127 T0,oM 128 T14,oQ 129 (.bin .add T128 (cI 1)),oM 130 T2,oM 131 T3,oK 132 (.call 52 [T127,T129,T130,T131])] [0,1,3,8,9,14])
(.reg 30 [oM 133 T14,oM 2 T133] [0,1,2,3,8,9]))))))))))))))))))))))
theorem fok52:FOK Tryd.prog 52 (134,ic52,[]):=bk2 [] Tryd.func52
def ic53:IC :=
(.seq
(.reg 0 [oM 2 (cI 0)] [0])
(.seq
(.cond (cB false)
(.seq
(.reg 1 [oM 3 T0,oQ 4 (.conv .u32 T3),oK 5 (.call 80 [T4]),oM 2 T5] [2])
.ret)
.skip)
(.seq
(.reg 2 [oM 6 T0,oK 7 (.call 81 [T6]),oM 2 T7] [2])
.ret)))
theorem fok53:FOK Tryd.prog 53 (8,ic53,[(.t 2)]):=bk2 [] Tryd.func53
def ic54:IC :=
(.seq
(.reg 0 [⟨(some 4),none,(.q (.mov (.c (.int .i64 0))))⟩] [0,1])
(.seq
(.reg 1 [⟨(some 5),none,(.q (.mov T0))⟩,⟨(some 6),none,(.q (.mov T1))⟩,⟨(some 7),none,(.call 82 [T5,T6])⟩,⟨(some 4),none,(.q (.mov T7))⟩] [4])
.ret))
theorem fok54:FOK Tryd.prog 54 (8,ic54,[(.t 4)]):=.mk (pf:=[]) (an:=[(0,[0,1]),(1,[4])]) (by kernel_rfl) (ab6 Tryd.func54 (by kernel_rfl) (by kernel_rfl) (by kernel_rfl))
def ic55:IC :=
(.seq
(.reg 0 [⟨(some 4),none,(.q (.mov (.c (.bool false))))⟩] [0,1])
(.seq
(.reg 1 [⟨(some 5),none,(.q (.mov T0))⟩,⟨(some 6),none,(.q (.mov T1))⟩,⟨(some 7),none,(.call 83 [T5,T6])⟩,⟨(some 4),none,(.q (.mov T7))⟩] [4])
.ret))
theorem fok55:FOK Tryd.prog 55 (8,ic55,[(.t 4)]):=.mk (pf:=[]) (an:=[(0,[0,1]),(1,[4])]) (by kernel_rfl) (ab6 Tryd.func55 (by kernel_rfl) (by kernel_rfl) (by kernel_rfl))
def ic56:IC :=
(.seq
(.reg 0 [⟨(some 2),none,(.q (.mov (.c (.bool false))))⟩] [0])
(.seq
(.seq
(.reg 1 [⟨(some 5),none,(.q (.mov T0))⟩,⟨(some 6),none,(.q (.bin .eql T5 (.c (.str []))))⟩,⟨(some 7),none,(.q (.mov T6))⟩,⟨(some 8),(some ⟨7,false⟩),(.q (.mov T0))⟩,⟨(some 9),(some ⟨7,false⟩),(.q (.len 1 T8))⟩,⟨(some 10),(some ⟨7,false⟩),(.q (.bin .gtr T9 (.c (.int .i64 64))))⟩,⟨(some 11),none,(.q (.pick T7 (.c (.bool true)) T10))⟩] [0,11])
(.cond T11
(.seq
(.reg 2 [⟨(some 2),none,(.q (.mov (.c (.bool false))))⟩] [2])
.ret)
.skip))
(.seq
(.seq
(.reg 3 [⟨(some 12),none,(.q (.mov T0))⟩,⟨(some 13),none,(.q (.len 1 T12))⟩,⟨(some 14),none,(.q (.mov (.c (.int .i64 0))))⟩] [0,13,14])
(.block 0
(.loop
(.seq
(.reg 4 [⟨(some 15),none,(.q (.bin .lss T14 T13))⟩] [0,13,14,15])
(.seq
(.cond T15
.skip
(.exit 0))
(.seq
(.block 1
(.seq
(.reg 5 [⟨(some 16),none,(.q (.mov T14))⟩,⟨(some 3),none,(.q (.mov T16))⟩] [0,3,13,14])
(.seq
(.reg 6 [⟨(some 17),none,(.q (.mov T0))⟩,⟨(some 18),none,(.q (.mov T3))⟩,⟨(some 19),none,(.q (.fy2 T17 T18))⟩,⟨(some 4),none,(.q (.mov T19))⟩] [0,4,13,14])
(.block 2
(.seq
(.seq
(.reg 8 [⟨(some 21),none,(.q (.mov T4))⟩,⟨(some 22),none,(.q (.bin .geq T21 (.c (.int .u8 97))))⟩,⟨(some 23),none,(.q (.mov T22))⟩,⟨(some 24),(some ⟨23,true⟩),(.q (.mov T4))⟩,⟨(some 25),(some ⟨23,true⟩),(.q (.bin .leq T24 (.c (.int .u8 122))))⟩,⟨(some 26),none,(.q (.pick T23 T25 (.c (.bool false))))⟩,⟨(some 20),none,(.q (.mov T26))⟩] [0,4,13,14,20])
(.cond T20
.skip
(.seq
(.reg 9 [⟨(some 27),none,(.q (.mov T4))⟩,⟨(some 28),none,(.q (.bin .geq T27 (.c (.int .u8 65))))⟩,⟨(some 29),none,(.q (.mov T28))⟩,⟨(some 30),(some ⟨29,true⟩),(.q (.mov T4))⟩,⟨(some 31),(some ⟨29,true⟩),(.q (.bin .leq T30 (.c (.int .u8 90))))⟩,⟨(some 32),none,(.q (.pick T29 T31 (.c (.bool false))))⟩,⟨(some 20),none,(.q (.mov T32))⟩] [0,4,13,14,20])
(.cond T20
.skip
(.seq
(.reg 10 [⟨(some 33),none,(.q (.mov T4))⟩,⟨(some 34),none,(.q (.bin .geq T33 (.c (.int .u8 48))))⟩,⟨(some 35),none,(.q (.mov T34))⟩,⟨(some 36),(some ⟨35,true⟩),(.q (.mov T4))⟩,⟨(some 37),(some ⟨35,true⟩),(.q (.bin .leq T36 (.c (.int .u8 57))))⟩,⟨(some 38),none,(.q (.pick T35 T37 (.c (.bool false))))⟩,⟨(some 20),none,(.q (.mov T38))⟩] [0,4,13,14,20])
(.cond T20
.skip
(.reg 11 [⟨(some 39),none,(.q (.mov T4))⟩,⟨(some 40),none,(.call 54 [(.c (.str [46,95,43,126,94])),T39])⟩,⟨(some 41),none,(.q (.bin .geq T40 (.c (.int .i64 0))))⟩,⟨(some 20),none,(.q (.mov T41))⟩] [0,13,14,20])))))))
(.cond T20
.skip
(.seq
(.reg 7 [⟨(some 2),none,(.q (.mov (.c (.bool false))))⟩] [2])
.ret)))))))
(.reg 12 [⟨(some 42),none,(.q (.bin .add T14 (.c (.int .i64 1))))⟩,⟨(some 14),none,(.q (.mov T42))⟩] [0,13,14])))))))
(.seq
(.reg 13 [⟨(some 2),none,(.q (.mov (.c (.bool true))))⟩] [2])
.ret))))
theorem fok56:FOK Tryd.prog 56 (43,ic56,[(.t 2)]):=.mk (pf:=[]) (an:=[(0,[0]),(1,[0,11]),(2,[2]),(3,[0,13,14]),(4,[0,13,14,15]),(5,[0,3,13,14]),(6,[0,4,13,14]),(7,[2]),(8,[0,4,13,14,20]),(9,[0,4,13,14,20]),(10,[0,4,13,14,20]),(11,[0,13,14,20]),(12,[0,13,14]),(13,[2])]) (by kernel_rfl) (ab6 Tryd.func56 (by kernel_rfl) (by kernel_rfl) (by kernel_rfl))
def ic57:IC :=
(.seq
(.reg 0 [⟨(some 2),none,(.q (.mov (.c (.bool false))))⟩] [0])
(.seq
(.reg 1 [⟨(some 3),none,(.q (.mov T0))⟩,⟨(some 4),none,(.q (.bin .geq T3 (.c (.int .u8 1))))⟩,⟨(some 5),none,(.q (.mov T4))⟩,⟨(some 6),(some ⟨5,true⟩),(.q (.mov T0))⟩,⟨(some 7),(some ⟨5,true⟩),(.q (.bin .leq T6 (.c (.int .u8 4))))⟩,⟨(some 8),none,(.q (.pick T5 T7 (.c (.bool false))))⟩,⟨(some 2),none,(.q (.mov T8))⟩] [2])
.ret))
theorem fok57:FOK Tryd.prog 57 (9,ic57,[(.t 2)]):=.mk (pf:=[]) (an:=[(0,[0]),(1,[2])]) (by kernel_rfl) (ab6 Tryd.func57 (by kernel_rfl) (by kernel_rfl) (by kernel_rfl))
def ic58:IC :=
(.seq
(.reg 0 [⟨(some 0),none,(.alloc [(.str []),(.str []),(.str []),(.str []),(.str [])])⟩] [0])
(.seq
(.reg 1 [⟨(some 1),none,(.q (.bld [(.str []),(.str []),(.str []),(.str []),(.str [])] [⟨1,⟨1,(.c (.str [110,111,97,114,99,104]))⟩⟩,⟨2,⟨1,(.c (.str [120,56,54,95,54,52]))⟩⟩,⟨3,⟨1,(.c (.str [105,54,56,54]))⟩⟩,⟨4,⟨1,(.c (.str [97,97,114,99,104,54,52]))⟩⟩]))⟩,⟨none,none,(.store 5 T0 T1)⟩] [0])
.ret))
theorem fok58:FOK Tryd.prog 58 (2,ic58,[(.cell (some 5) 0)]):=.mk (pf:=[]) (an:=[(0,[0]),(1,[0])]) (by kernel_rfl) (ab6 Tryd.func58 (by kernel_rfl) (by kernel_rfl) (by kernel_rfl))
def ic59:IC :=
(.seq
(.reg 0 [⟨(some 4),none,(.q (.mov (.c (.bool false))))⟩] [0,1])
(.seq
(.reg 1 [⟨(some 5),none,(.q (.mov T0))⟩,⟨(some 6),none,(.q (.mov T1))⟩,⟨(some 7),none,(.call 84 [T5,T6])⟩,⟨(some 8),none,(.q (.bin .geq T7 (.c (.int .i64 0))))⟩,⟨(some 4),none,(.q (.mov T8))⟩] [4])
.ret))
theorem fok59:FOK Tryd.prog 59 (9,ic59,[(.t 4)]):=.mk (pf:=[]) (an:=[(0,[0,1]),(1,[4])]) (by kernel_rfl) (ab6 Tryd.func59 (by kernel_rfl) (by kernel_rfl) (by kernel_rfl))
def ic60:IC :=
(.seq
(.reg 0 [⟨(some 2),none,(.ar7 T0)⟩,⟨(some 3),none,(.q (.mov (.c (.bool false))))⟩] [1,2])
(.seq
(.reg 1 [⟨(some 4),none,(.q (.load none T1))⟩,⟨(some 5),none,(.q (.load (some 5) T2))⟩,⟨(some 6),none,(.an7 T4 [T5])⟩,⟨(some 7),none,(.q (.not T6))⟩,⟨(some 3),none,(.q (.mov T7))⟩] [3])
.ret))
theorem fok60:FOK Tryd.prog 60 (8,ic60,[(.t 3)]):=.mk (pf:=[1000002]) (an:=[(0,[1,2]),(1,[3])]) (by kernel_rfl) (ab6 Tryd.func60 (by kernel_rfl) (by kernel_rfl) (by kernel_rfl))
def ic61:IC :=
(.seq
(.reg 0 [⟨(some 2),none,(.q (.mov (.c (.bool false))))⟩] [0])
(.seq
(.reg 1 [⟨(some 3),none,(.q (.mov T0))⟩,⟨(some 4),none,(.q (.bin .eql T3 (.c (.int .u8 0))))⟩,⟨(some 5),none,(.q (.mov T4))⟩,⟨(some 6),(some ⟨5,false⟩),(.q (.mov T0))⟩,⟨(some 7),(some ⟨5,false⟩),(.call 85 [T6])⟩,⟨(some 8),(some ⟨5,false⟩),(.q (.bin .neq T7 (.c (.str []))))⟩,⟨(some 9),none,(.q (.pick T5 (.c (.bool true)) T8))⟩,⟨(some 2),none,(.q (.mov T9))⟩] [2])
.ret))
theorem fok61:FOK Tryd.prog 61 (10,ic61,[(.t 2)]):=.mk (pf:=[]) (an:=[(0,[0]),(1,[2])]) (by kernel_rfl) (ab6 Tryd.func61 (by kernel_rfl) (by kernel_rfl) (by kernel_rfl))
def ic62:IC :=
(.seq
(.reg 0 [⟨(some 4),none,(.q (.mov (.c (.bool false))))⟩] [0,1])
(.seq
(.reg 1 [⟨(some 5),none,(.q (.mov T0))⟩,⟨(some 6),none,(.q (.mov T1))⟩,⟨(some 7),none,(.call 86 [T5,T6])⟩,⟨(some 8),none,(.q (.bin .geq T7 (.c (.int .i64 0))))⟩,⟨(some 4),none,(.q (.mov T8))⟩] [4])
.ret))
theorem fok62:FOK Tryd.prog 62 (9,ic62,[(.t 4)]):=.mk (pf:=[]) (an:=[(0,[0,1]),(1,[4])]) (by kernel_rfl) (ab6 Tryd.func62 (by kernel_rfl) (by kernel_rfl) (by kernel_rfl))
def ic63:IC :=
(.seq
(.reg 0 [⟨(some 3),none,(.q (.mov (.c (.bool false))))⟩] [0,1])
(.seq
(.reg 1 [⟨(some 4),none,(.q (.load none T1))⟩,⟨(some 5),none,(.q (.mov T0))⟩,⟨(some 6),none,(.an7 T4 [T5])⟩,⟨(some 7),none,(.q (.not T6))⟩,⟨(some 3),none,(.q (.mov T7))⟩] [3])
.ret))
theorem fok63:FOK Tryd.prog 63 (8,ic63,[(.t 3)]):=.mk (pf:=[]) (an:=[(0,[0,1]),(1,[3])]) (by kernel_rfl) (ab6 Tryd.func63 (by kernel_rfl) (by kernel_rfl) (by kernel_rfl))
def ic64:IC :=
(.reg 0 [⟨(some 3),none,(.q (.mov T0))⟩,⟨(some 4),none,(.q (.aa9 7 T1))⟩,⟨(some 5),none,(.q (.load none T4))⟩,⟨(some 6),none,(.an7 T3 [(.c (.int .u8 1)),T5])⟩,⟨(some 7),none,(.q (.mov T6))⟩,⟨(some 8),(some ⟨7,true⟩),(.q (.mov T0))⟩,⟨(some 9),(some ⟨7,true⟩),(.q (.aa9 8 T1))⟩,⟨(some 10),(some ⟨7,true⟩),(.q (.load none T9))⟩,⟨(some 11),(some ⟨7,true⟩),(.an7 T8 [(.c (.int .u8 2)),T10])⟩,⟨(some 12),none,(.q (.pick T7 T11 (.c (.bool false))))⟩,⟨(some 13),none,(.q (.mov T12))⟩,⟨(some 14),(some ⟨13,true⟩),(.q (.mov T0))⟩,⟨(some 15),(some ⟨13,true⟩),(.q (.aa9 10 T1))⟩,⟨(some 16),(some ⟨13,true⟩),(.q (.load none T15))⟩,⟨(some 17),(some ⟨13,true⟩),(.an7 T14 [(.c (.int .u8 1)),T16])⟩,⟨(some 18),none,(.q (.pick T13 T17 (.c (.bool false))))⟩,⟨(some 19),none,(.q (.mov T18))⟩,⟨(some 20),(some ⟨19,true⟩),(.q (.mov T0))⟩,⟨(some 21),(some ⟨19,true⟩),(.q (.aa9 11 T1))⟩,⟨(some 22),(some ⟨19,true⟩),(.q (.load none T21))⟩,⟨(some 23),(some ⟨19,true⟩),(.an7 T20 [(.c (.int .u8 3)),T22])⟩,⟨(some 24),none,(.q (.pick T19 T23 (.c (.bool false))))⟩,⟨(some 25),none,(.q (.mov T24))⟩,⟨(some 26),(some ⟨25,true⟩),(.q (.mov T0))⟩,⟨(some 27),(some ⟨25,true⟩),(.q (.aa9 12 T1))⟩,⟨(some 28),(some ⟨25,true⟩),(.q (.load none T27))⟩,⟨(some 29),(some ⟨25,true⟩),(.an7 T26 [(.c (.int .u8 1)),T28])⟩,⟨(some 30),none,(.q (.pick T25 T29 (.c (.bool false))))⟩,⟨(some 31),none,(.q (.mov T30))⟩,⟨(some 32),(some ⟨31,true⟩),(.q (.mov T0))⟩,⟨(some 33),(some ⟨31,true⟩),(.q (.aa9 13 T1))⟩,⟨(some 34),(some ⟨31,true⟩),(.q (.load none T33))⟩,⟨(some 35),(some ⟨31,true⟩),(.an7 T32 [(.c (.int .u8 3)),T34])⟩,⟨(some 36),none,(.q (.pick T31 T35 (.c (.bool false))))⟩] [])
theorem fok64:FOK Tryd.prog 64 (37,ic64,[]):=.mk (pf:=[]) (an:=[]) (by kernel_rfl) (ab6 Tryd.func64 (by kernel_rfl) (by kernel_rfl) (by kernel_rfl))
def ic65:IC :=
(.seq
(.reg 0 [⟨(some 4),none,(.q (.mov (.c (.bool false))))⟩] [0,1])
(.seq
(.reg 1 [⟨(some 5),none,(.q (.mov T0))⟩,⟨(some 6),none,(.q (.mov T1))⟩,⟨(some 7),none,(.call 87 [T5,T6])⟩,⟨(some 8),none,(.q (.bin .geq T7 (.c (.int .i64 0))))⟩,⟨(some 4),none,(.q (.mov T8))⟩] [4])
.ret))
theorem fok65:FOK Tryd.prog 65 (9,ic65,[(.t 4)]):=.mk (pf:=[]) (an:=[(0,[0,1]),(1,[4])]) (by kernel_rfl) (ab6 Tryd.func65 (by kernel_rfl) (by kernel_rfl) (by kernel_rfl))
def ic66:IC :=
(.seq
(.reg 0 [⟨(some 2),none,(.ar7 T0)⟩,⟨(some 3),none,(.q (.mov (.c (.bool false))))⟩] [1,2])
(.seq
(.reg 1 [⟨(some 4),none,(.q (.load none T1))⟩,⟨(some 5),none,(.q (.load (some 7) T2))⟩,⟨(some 6),none,(.an7 T4 [T5])⟩,⟨(some 7),none,(.q (.not T6))⟩,⟨(some 3),none,(.q (.mov T7))⟩] [3])
.ret))
theorem fok66:FOK Tryd.prog 66 (8,ic66,[(.t 3)]):=.mk (pf:=[1000002]) (an:=[(0,[1,2]),(1,[3])]) (by kernel_rfl) (ab6 Tryd.func66 (by kernel_rfl) (by kernel_rfl) (by kernel_rfl))
def ic67:IC :=
(.seq
(.reg 0 [⟨(some 1),none,(.ar7 T0)⟩,⟨(some 2),none,(.q (.mov (.c (.int .i64 0))))⟩] [1,2])
(.seq
(.reg 1 [⟨(some 3),none,(.alloc [(.int .i64 0)])⟩,⟨none,none,(.store 1 T3 (.c (.int .i64 0)))⟩] [1,2,3])
(.seq
(.seq
(.reg 2 [⟨(some 4),none,(.q (.load (some 7) T1))⟩,⟨(some 5),none,(.call 69 [T4])⟩] [2,3,5])
(.block 0
(.rfunc T5 [6,7]
.skip
(.block 1
(.reg 3 [⟨(some 8),none,(.q (.load none T3))⟩,⟨(some 9),none,(.q (.bin .add T8 (.c (.int .i64 1))))⟩,⟨none,none,(.store 1 T3 T9)⟩] [])))))
(.seq
(.reg 4 [⟨(some 10),none,(.q (.load none T3))⟩,⟨(some 2),none,(.q (.mov T10))⟩] [2])
.ret))))
theorem fok67:FOK Tryd.prog 67 (11,ic67,[(.t 2)]):=.mk (pf:=[1000001]) (an:=[(0,[1,2]),(1,[1,2,3]),(2,[2,3,5]),(4,[2])]) (by kernel_rfl) (ab6 Tryd.func67 (by kernel_rfl) (by kernel_rfl) (by kernel_rfl))
def ic68:IC :=
(.seq
(.reg 0 [⟨(some 1),none,(.ar7 T0)⟩,⟨(some 2),none,(.q (.mov (.c (.int .i64 0))))⟩] [1])
(.seq
(.seq
(.reg 1 [⟨(some 6),none,(.q (.aa9 0 T1))⟩,⟨(some 7),none,(.q (.load none T6))⟩,⟨(some 8),none,(.q (.bin .eql T7 (.c (.int .u8 1))))⟩] [1,8])
(.cond T8
(.seq
(.reg 2 [⟨(some 2),none,(.q (.mov (.c (.int .i64 0))))⟩] [2])
.ret)
.skip))
(.seq
(.reg 3 [⟨(some 3),none,(.q (.mov (.c (.int .i64 0))))⟩] [1,3])
(.seq
(.seq
(.reg 4 [⟨(some 9),none,(.q (.aa9 6 T1))⟩,⟨(some 10),none,(.q (.load none T9))⟩,⟨(some 11),none,(.q (.len 0 T10))⟩,⟨(some 12),none,(.q (.mov (.c (.int .i64 0))))⟩] [3,10,11,12])
(.block 0
(.loop
(.seq
(.reg 5 [⟨(some 13),none,(.q (.bin .lss T12 T11))⟩] [3,10,11,12,13])
(.seq
(.cond T13
.skip
(.exit 0))
(.seq
(.block 1
(.seq
(.reg 6 [⟨(some 14),none,(.q (.ab5 7 T10 T12))⟩,⟨(some 15),none,(.q (.load (some 7) T14))⟩,⟨(some 5),none,(.alloc [(.int .u8 0),(.str []),(.int .u8 0),(.int .i64 0),(.str []),(.str []),.aa1])⟩,⟨none,none,(.store 7 T5 T15)⟩] [3,5,10,11,12])
(.reg 7 [⟨(some 16),none,(.q (.mov T3))⟩,⟨(some 17),none,(.q (.load (some 7) T5))⟩,⟨(some 18),none,(.call 68 [T17])⟩,⟨(some 19),none,(.q (.mm true T16 T18))⟩,⟨(some 3),none,(.q (.mov T19))⟩] [3,10,11,12])))
(.reg 8 [⟨(some 20),none,(.q (.bin .add T12 (.c (.int .i64 1))))⟩,⟨(some 12),none,(.q (.mov T20))⟩] [3,10,11,12])))))))
(.seq
(.reg 9 [⟨(some 21),none,(.q (.mov T3))⟩,⟨(some 22),none,(.q (.bin .add T21 (.c (.int .i64 1))))⟩,⟨(some 2),none,(.q (.mov T22))⟩] [2])
.ret)))))
theorem fok68:FOK Tryd.prog 68 (23,ic68,[(.t 2)]):=.mk (pf:=[1000001]) (an:=[(0,[1]),(1,[1,8]),(2,[2]),(3,[1,3]),(4,[3,10,11,12]),(5,[3,10,11,12,13]),(6,[3,5,10,11,12]),(7,[3,10,11,12]),(8,[3,10,11,12]),(9,[2])]) (by kernel_rfl) (ab6 Tryd.func68 (by kernel_rfl) (by kernel_rfl) (by kernel_rfl))
def ic69:IC :=
(.seq
(.reg 0 [⟨(some 1),none,(.ar7 T0)⟩,⟨(some 2),none,(.q (.mov (.c .ae6)))⟩] [1])
(.seq
(.reg 1 [⟨(some 3),none,(.alloc [.ae6])⟩] [1,3])
(.seq
(.reg 2 [⟨(some 4),none,(.q (.mkf 88 [] [T3]))⟩,⟨none,none,(.store 1 T3 T4)⟩] [1,3])
(.seq
(.reg 3 [⟨(some 5),none,(.q (.mkf 89 [] [T3,T1]))⟩,⟨(some 2),none,(.q (.mov T5))⟩] [2])
.ret))))
theorem fok69:FOK Tryd.prog 69 (6,ic69,[(.t 2)]):=.mk (pf:=[1000001]) (an:=[(0,[1]),(1,[1,3]),(2,[1,3]),(3,[2])]) (by kernel_rfl) (ab6 Tryd.func69 (by kernel_rfl) (by kernel_rfl) (by kernel_rfl))
def ic70:IC :=
(.seq
(.reg 0 [⟨(some 2),none,(.alloc [(.int .i64 0),(.int .i64 0),(.bool false),(.int .u8 0)])⟩] [0,2])
(.seq
(.reg 1 [⟨(some 4),none,(.q (.bld [(.int .i64 0),(.int .i64 0),(.bool false),(.int .u8 0)] [⟨0,⟨1,(.c (.int .i64 0))⟩⟩,⟨1,⟨1,(.c (.int .i64 0))⟩⟩,⟨2,⟨1,(.c (.bool true))⟩⟩,⟨3,⟨1,(.c (.int .u8 3))⟩⟩]))⟩,⟨(some 5),none,(.q (.bld [(.int .i64 0),(.int .i64 0),(.bool false),(.int .u8 0)] [⟨0,⟨1,(.c (.int .i64 2))⟩⟩,⟨1,⟨1,(.c (.int .i64 24))⟩⟩,⟨2,⟨1,(.c (.bool true))⟩⟩,⟨3,⟨1,(.c (.int .u8 3))⟩⟩]))⟩,⟨(some 6),none,(.q (.bld [(.int .i64 0),(.int .i64 0),(.bool false),(.int .u8 0)] [⟨0,⟨1,(.c (.int .i64 2))⟩⟩,⟨1,⟨1,(.c (.int .i64 24))⟩⟩,⟨2,⟨1,(.c (.bool true))⟩⟩,⟨3,⟨1,(.c (.int .u8 3))⟩⟩]))⟩,⟨(some 7),none,(.q (.bld [(.int .i64 0),(.int .i64 0),(.bool false),(.int .u8 0)] [⟨0,⟨1,(.c (.int .i64 2))⟩⟩,⟨1,⟨1,(.c (.int .i64 3))⟩⟩,⟨2,⟨1,(.c (.bool false))⟩⟩,⟨3,⟨1,(.c (.int .u8 1))⟩⟩]))⟩,⟨(some 8),none,(.q (.bld [(.int .i64 0),(.int .i64 0),(.bool false),(.int .u8 0)] [⟨0,⟨1,(.c (.int .i64 2))⟩⟩,⟨1,⟨1,(.c (.int .i64 3))⟩⟩,⟨2,⟨1,(.c (.bool false))⟩⟩,⟨3,⟨1,(.c (.int .u8 2))⟩⟩]))⟩,⟨(some 9),none,(.q (.bld [(.int .i64 0),(.int .i64 0),(.bool false),(.int .u8 0)] [⟨0,⟨1,(.c (.int .i64 2))⟩⟩,⟨1,⟨1,(.c (.int .i64 24))⟩⟩,⟨2,⟨1,(.c (.bool true))⟩⟩,⟨3,⟨1,(.c (.int .u8 3))⟩⟩]))⟩,⟨(some 10),none,(.q (.bld [(.int .i64 0),(.int .i64 0),(.bool false),(.int .u8 0)] [⟨0,⟨1,(.c (.int .i64 2))⟩⟩,⟨1,⟨1,(.c (.int .i64 2))⟩⟩,⟨2,⟨1,(.c (.bool true))⟩⟩,⟨3,⟨1,(.c (.int .u8 3))⟩⟩]))⟩,⟨(some 11),none,(.q (.bld [(.int .i64 0),(.int .i64 0),(.bool false),(.int .u8 0),(.int .i64 0),(.int .i64 0),(.bool false),(.int .u8 0),(.int .i64 0),(.int .i64 0),(.bool false),(.int .u8 0),(.int .i64 0),(.int .i64 0),(.bool false),(.int .u8 0),(.int .i64 0),(.int .i64 0),(.bool false),(.int .u8 0),(.int .i64 0),(.int .i64 0),(.bool false),(.int .u8 0),(.int .i64 0),(.int .i64 0),(.bool false),(.int .u8 0),(.int .i64 0),(.int .i64 0),(.bool false),(.int .u8 0)] [⟨4,⟨4,T4⟩⟩,⟨8,⟨4,T5⟩⟩,⟨12,⟨4,T6⟩⟩,⟨16,⟨4,T7⟩⟩,⟨20,⟨4,T8⟩⟩,⟨24,⟨4,T9⟩⟩,⟨28,⟨4,T10⟩⟩]))⟩,⟨(some 3),none,(.alloc [(.int .i64 0),(.int .i64 0),(.bool false),(.int .u8 0),(.int .i64 0),(.int .i64 0),(.bool false),(.int .u8 0),(.int .i64 0),(.int .i64 0),(.bool false),(.int .u8 0),(.int .i64 0),(.int .i64 0),(.bool false),(.int .u8 0),(.int .i64 0),(.int .i64 0),(.bool false),(.int .u8 0),(.int .i64 0),(.int .i64 0),(.bool false),(.int .u8 0),(.int .i64 0),(.int .i64 0),(.bool false),(.int .u8 0),(.int .i64 0),(.int .i64 0),(.bool false),(.int .u8 0)])⟩,⟨none,none,(.store 32 T3 T11)⟩] [0,2,3])
(.seq
(.seq
(.reg 2 [⟨(some 12),none,(.q (.mov T0))⟩,⟨(some 13),none,(.q (.conv .i64 T12))⟩,⟨(some 14),none,(.q (.bin .geq T13 (.c (.int .i64 8))))⟩] [0,2,3,14])
(.cond T14
(.seq
(.reg 3 [⟨(some 15),none,(.q (.bld [(.int .i64 0),(.int .i64 0),(.bool false),(.int .u8 0)] []))⟩,⟨none,none,(.store 4 T2 T15)⟩] [2])
.ret)
.skip))
(.seq
(.reg 4 [⟨(some 16),none,(.q (.mov T0))⟩,⟨(some 17),none,(.q (.dz5 8 4 T3 T16))⟩,⟨(some 18),none,(.q (.load (some 4) T17))⟩,⟨none,none,(.store 4 T2 T18)⟩] [2])
.ret))))
theorem fok70:FOK Tryd.prog 70 (19,ic70,[(.cell (some 4) 2)]):=.mk (pf:=[]) (an:=[(0,[0,2]),(1,[0,2,3]),(2,[0,2,3,14]),(3,[2]),(4,[2])]) (by kernel_rfl) (ab6 Tryd.func70 (by kernel_rfl) (by kernel_rfl) (by kernel_rfl))
def ic71:IC :=
(.seq
(.reg 0 [oM 8 T1,oQ 9 (.bin .add T8 (cI 1)),oM 6 T9] [0,1,2,6])
(.block 0
(.loop
(.seq
(.seq
(.reg 1 [oM 10 T6,oM 11 T2,oQ 12 (.bin .lss T10 T11)] [0,1,2,6,12])
(.cond T12
.skip
(.exit 0)))
(.seq
(.block 1
(.seq
(.reg 3 [oM 15 T6,oM 7 T15] [0,1,2,6,7])
(.block 2
(.loop
(.seq
(.seq
(.dreg 4 [oM 16 T7,oM 17 T1,oQ 18 (.bin .gtr T16 T17),oM 19 T18,gQ 20 19 true (.mov T0),gQ 21 19 true (.mov T7),gQ 22 19 true (.ab5 1 T20 T21),gQ 23 19 true (.load none T22),gQ 24 19 true (.mov T0),gQ 25 19 true (.mov T7),gQ 26 19 true (.bin .sub T25 (cI 1)),gQ 27 19 true (.ab5 1 T24 T26),gQ 28 19 true (.load none T27),gK 29 19 true (.call 77 [T23,T28]),oQ 30 (.pick T19 T29 (cB false))] false [0,1,2,6,7,30])
(.cond T30
.skip
(.exit 2)))
(.seq
(.block 3
(.dreg 6 [oM 33 T0,oM 34 T7,oM 35 T0,oM 36 T7,oQ 37 (.bin .sub T36 (cI 1)),oM 38 T0,oM 39 T7,oQ 40 (.bin .sub T39 (cI 1)),oQ 41 (.ab5 1 T38 T40),oQ 42 (.load none T41),oM 43 T0,oM 44 T7,oQ 45 (.ab5 1 T43 T44),oQ 46 (.load none T45),oQ 47 (.ab5 1 T33 T34),oN (.store 1 T47 T42),oQ 48 (.ab5 1 T35 T37),oN (.store 1 T48 T46)] false [0,1,2,6,7]))
(.reg 5 [oM 31 T7,oQ 32 (.bin .sub T31 (cI 1)),oM 7 T32] [0,1,2,6,7])))))))
(.reg 2 [oM 13 T6,oQ 14 (.bin .add T13 (cI 1)),oM 6 T14] [0,1,2,6]))))))
theorem fok71:FOK Tryd.prog 71 (49,ic71,[]):=bk2 [] Tryd.func71
def ic72:IC :=
(.seq
(.reg 0 [oM 11 T1,oM 6 T11] [0,1,2,6])
(.seq
(.reg 1 [oM 7 (cI 0)] [0,1,2,6,7])
(.seq
(.reg 2 [oM 12 T2,oM 13 T1,oQ 14 (.bin .sub T12 T13),oM 8 T14] [0,6,7,8])
(.seq
(.seq
(.reg 3 [oM 15 T8,oQ 16 (.bin .sub T15 (cI 1)),oQ 17 (.bin .quo T16 (cI 2)),oM 9 T17] [0,6,7,8,9])
(.block 0
(.loop
(.seq
(.seq
(.reg 4 [oM 18 T9,oQ 19 (.bin .geq T18 (cI 0))] [0,6,7,8,9,19])
(.cond T19
.skip
(.exit 0)))
(.seq
(.block 1
(.reg 6 [oM 22 T0,oM 23 T9,oM 24 T8,oM 25 T6,oK 26 (.call 90 [T22,T23,T24,T25])] [0,6,7,8,9]))
(.reg 5 [oM 20 T9,oQ 21 (.bin .sub T20 (cI 1)),oM 9 T21] [0,6,7,8,9]))))))
(.seq
(.reg 7 [oM 27 T8,oQ 28 (.bin .sub T27 (cI 1)),oM 10 T28] [0,6,7,10])
(.block 2
(.loop
(.seq
(.seq
(.reg 8 [oM 29 T10,oQ 30 (.bin .geq T29 (cI 0))] [0,6,7,10,30])
(.cond T30
.skip
(.exit 2)))
(.seq
(.block 3
(.seq
(.dreg 10 [oM 33 T0,oM 34 T6,oM 35 T0,oM 36 T6,oM 37 T10,oQ 38 (.bin .add T36 T37),oM 39 T0,oM 40 T6,oM 41 T10,oQ 42 (.bin .add T40 T41),oQ 43 (.ab5 1 T39 T42),oQ 44 (.load none T43),oM 45 T0,oM 46 T6,oQ 47 (.ab5 1 T45 T46),oQ 48 (.load none T47),oQ 49 (.ab5 1 T33 T34),oN (.store 1 T49 T44),oQ 50 (.ab5 1 T35 T38),oN (.store 1 T50 T48)] false [0,6,7,10])
(.reg 11 [oM 51 T0,oM 52 T7,oM 53 T10,oM 54 T6,oK 55 (.call 90 [T51,T52,T53,T54])] [0,6,7,10])))
(.reg 9 [oM 31 T10,oQ 32 (.bin .sub T31 (cI 1)),oM 10 T32] [0,6,7,10]))))))))))
theorem fok72:FOK Tryd.prog 72 (56,ic72,[]):=bk2 [] Tryd.func72
def ic73:IC :=
(.seq
(.reg 0 [oM 11 T2,oM 12 T1,oQ 13 (.bin .sub T11 T12),oM 6 T13] [0,1,6])
(.seq
(.reg 1 [oM 14 T6,oQ 15 (.bin .geq T14 (cI 8))] [0,1,6,15])
(.cond T15
(.seq
(.reg 2 [oM 16 T6,oQ 17 (.conv .u64 T16),oK 7 (.alloc [(.int .u64 0)]),oN (.store 1 T7 T17)] [0,1,6,7])
(.seq
(.reg 3 [oM 18 T6,oK 19 (.call 91 [T18]),oM 8 T19] [0,1,6,7,8])
(.seq
(.reg 4 [oM 20 T1,oM 21 T6,oQ 22 (.bin .quo T21 (cI 4)),oQ 23 (.bin .mul T22 (cI 2)),oQ 24 (.bin .add T20 T23),oQ 25 (.bin .sub T24 (cI 1)),oM 9 T25] [0,1,6,7,8,9])
(.block 0
(.loop
(.seq
(.seq
(.reg 5 [oM 26 T9,oM 27 T1,oM 28 T6,oQ 29 (.bin .quo T28 (cI 4)),oQ 30 (.bin .mul T29 (cI 2)),oQ 31 (.bin .add T27 T30),oQ 32 (.bin .add T31 (cI 1)),oQ 33 (.bin .leq T26 T32)] [0,1,6,7,8,9,33])
(.cond T33
.skip
(.exit 0)))
(.seq
(.block 1
(.seq
(.reg 7 [oK 36 (.call 92 [T7]),oM 37 T8,oQ 38 (.bin .sub T37 (.c (.int .u64 1))),oQ 39 (.bin .and T36 T38),oQ 40 (.conv .i64 T39),oM 10 T40] [0,1,6,7,8,9,10])
(.seq
(.seq
(.reg 8 [oM 41 T10,oM 42 T6,oQ 43 (.bin .geq T41 T42)] [0,1,6,7,8,9,10,43])
(.cond T43
(.reg 9 [oM 44 T10,oM 45 T6,oQ 46 (.bin .sub T44 T45),oM 10 T46] [0,1,6,7,8,9,10])
.skip))
(.dreg 10 [oM 47 T0,oM 48 T9,oM 49 T0,oM 50 T1,oM 51 T10,oQ 52 (.bin .add T50 T51),oM 53 T0,oM 54 T1,oM 55 T10,oQ 56 (.bin .add T54 T55),oQ 57 (.ab5 1 T53 T56),oQ 58 (.load none T57),oM 59 T0,oM 60 T9,oQ 61 (.ab5 1 T59 T60),oQ 62 (.load none T61),oQ 63 (.ab5 1 T47 T48),oN (.store 1 T63 T58),oQ 64 (.ab5 1 T49 T52),oN (.store 1 T64 T62)] false [0,1,6,7,8,9]))))
(.reg 6 [oM 34 T9,oQ 35 (.bin .add T34 (cI 1)),oM 9 T35] [0,1,6,7,8,9]))))))))
.skip)))
theorem fok73:FOK Tryd.prog 73 (65,ic73,[]):=bk2 [] Tryd.func73
def ic74:IC :=
(.seq
(.reg 0 [oM 6 (cI 0),oM 7 (cI 0)] [0,1,2])
(.seq
(.reg 1 [oM 13 T2,oM 14 T1,oQ 15 (.bin .sub T13 T14),oM 8 T15] [0,1,8])
(.seq
(.reg 2 [oK 9 (.alloc [(zI 0)])] [0,1,8,9])
(.seq
(.reg 3 [oM 16 T1,oM 17 T8,oQ 18 (.bin .quo T17 (cI 4)),oQ 19 (.bin .mul T18 (cI 1)),oQ 20 (.bin .add T16 T19),oM 10 T20] [0,1,8,9,10])
(.seq
(.reg 4 [oM 21 T1,oM 22 T8,oQ 23 (.bin .quo T22 (cI 4)),oQ 24 (.bin .mul T23 (cI 2)),oQ 25 (.bin .add T21 T24),oM 11 T25] [0,1,8,9,10,11])
(.seq
(.reg 5 [oM 26 T1,oM 27 T8,oQ 28 (.bin .quo T27 (cI 4)),oQ 29 (.bin .mul T28 (cI 3)),oQ 30 (.bin .add T26 T29),oM 12 T30] [0,8,9,10,11,12])
(.seq
(.seq
(.reg 6 [oM 31 T8,oQ 32 (.bin .geq T31 (cI 8))] [0,8,9,10,11,12,32])
(.cond T32
(.seq
(.seq
(.reg 7 [oM 33 T8,oQ 34 (.bin .geq T33 (cI 50))] [0,9,10,11,12,34])
(.cond T34
(.seq
(.reg 8 [oM 35 T0,oM 36 T10,oK 37 (.call 93 [T35,T36,T9]),oM 10 T37] [0,9,10,11,12])
(.seq
(.reg 9 [oM 38 T0,oM 39 T11,oK 40 (.call 93 [T38,T39,T9]),oM 11 T40] [0,9,10,11,12])
(.reg 10 [oM 41 T0,oM 42 T12,oK 43 (.call 93 [T41,T42,T9]),oM 12 T43] [0,9,10,11,12])))
.skip))
(.reg 11 [oM 44 T0,oM 45 T10,oM 46 T11,oM 47 T12,oK 48 (.call 94 [T44,T45,T46,T47,T9]),oM 11 T48] [9,11]))
.skip))
(.seq
(.reg 12 [oQ 49 (.load none T9)] [11,49])
(.block 0
(.seq
(.reg 14 [oQ 52 (.bin .eql T49 (cI 0)),oM 51 T52] [11,49,51])
(.cond T51
(.seq
(.reg 15 [oM 53 T11,oM 6 T53,oM 7 (cI 1)] [6,7])
.ret)
(.seq
(.reg 16 [oQ 55 (.bin .eql T49 (cI 12)),oM 54 T55] [11,54])
(.cond T54
(.seq
(.reg 17 [oM 56 T11,oM 6 T56,oM 7 (cI 2)] [6,7])
.ret)
(.seq
(.reg 13 [oM 50 T11,oM 6 T50,oM 7 (cI 0)] [6,7])
.ret))))))))))))))
theorem fok74:FOK Tryd.prog 74 (57,ic74,[(.t 6),(.t 7)]):=bk2 [] Tryd.func74
def ic75:IC :=
(.seq
(.reg 0 [oM 8 T1,oM 6 T8] [0,2,6])
(.seq
(.reg 1 [oM 9 T2,oQ 10 (.bin .sub T9 (cI 1)),oM 7 T10] [0,6,7])
(.block 0
(.loop
(.seq
(.seq
(.reg 2 [oM 11 T6,oM 12 T7,oQ 13 (.bin .lss T11 T12)] [0,6,7,13])
(.cond T13
.skip
(.exit 0)))
(.block 1
(.seq
(.dreg 3 [oM 14 T0,oM 15 T6,oM 16 T0,oM 17 T7,oM 18 T0,oM 19 T7,oQ 20 (.ab5 1 T18 T19),oQ 21 (.load none T20),oM 22 T0,oM 23 T6,oQ 24 (.ab5 1 T22 T23),oQ 25 (.load none T24),oQ 26 (.ab5 1 T14 T15),oN (.store 1 T26 T21),oQ 27 (.ab5 1 T16 T17),oN (.store 1 T27 T25)] false [0,6,7])
(.seq
(.reg 4 [oM 28 T6,oQ 29 (.bin .add T28 (cI 1)),oM 6 T29] [0,6,7])
(.reg 5 [oM 30 T7,oQ 31 (.bin .sub T30 (cI 1)),oM 7 T31] [0,6,7])))))))))
theorem fok75:FOK Tryd.prog 75 (32,ic75,[]):=bk2 [] Tryd.func75
def ic76:IC :=
(.seq
(.reg 0 [oM 6 (cB false)] [0,1,2])
(.seq
(.reg 1 [oM 11 T1,oQ 12 (.bin .add T11 (cI 1)),oM 7 T12] [0,1,2,7])
(.seq
(.seq
(.reg 2 [oM 8 (cI 0)] [0,1,2,7,8])
(.block 0
(.loop
(.seq
(.seq
(.reg 3 [oM 13 T8,oQ 14 (.bin .lss T13 (cI 5))] [0,1,2,7,8,14])
(.cond T14
.skip
(.exit 0)))
(.seq
(.block 1
(.seq
(.block 2
(.loop
(.seq
(.seq
(.dreg 5 [oM 17 T7,oM 18 T2,oQ 19 (.bin .lss T17 T18),oM 20 T19,gQ 21 20 true (.mov T0),gQ 22 20 true (.mov T7),gQ 23 20 true (.ab5 1 T21 T22),gQ 24 20 true (.load none T23),gQ 25 20 true (.mov T0),gQ 26 20 true (.mov T7),gQ 27 20 true (.bin .sub T26 (cI 1)),gQ 28 20 true (.ab5 1 T25 T27),gQ 29 20 true (.load none T28),gK 30 20 true (.call 77 [T24,T29]),gQ 31 20 true (.not T30),oQ 32 (.pick T20 T31 (cB false))] false [0,1,2,7,8,32])
(.cond T32
.skip
(.exit 2)))
(.block 3
(.reg 6 [oM 33 T7,oQ 34 (.bin .add T33 (cI 1)),oM 7 T34] [0,1,2,7,8])))))
(.seq
(.seq
(.reg 7 [oM 35 T7,oM 36 T2,oQ 37 (.bin .eql T35 T36)] [0,1,2,7,8,37])
(.cond T37
(.seq
(.reg 8 [oM 6 (cB true)] [6])
.ret)
.skip))
(.seq
(.seq
(.reg 9 [oM 38 T2,oM 39 T1,oQ 40 (.bin .sub T38 T39),oQ 41 (.bin .lss T40 (cI 50))] [0,1,2,7,8,41])
(.cond T41
(.seq
(.reg 10 [oM 6 (cB false)] [6])
.ret)
.skip))
(.seq
(.dreg 11 [oM 42 T0,oM 43 T7,oM 44 T0,oM 45 T7,oQ 46 (.bin .sub T45 (cI 1)),oM 47 T0,oM 48 T7,oQ 49 (.bin .sub T48 (cI 1)),oQ 50 (.ab5 1 T47 T49),oQ 51 (.load none T50),oM 52 T0,oM 53 T7,oQ 54 (.ab5 1 T52 T53),oQ 55 (.load none T54),oQ 56 (.ab5 1 T42 T43),oN (.store 1 T56 T51),oQ 57 (.ab5 1 T44 T46),oN (.store 1 T57 T55)] false [0,1,2,7,8])
(.seq
(.seq
(.reg 12 [oM 58 T7,oM 59 T1,oQ 60 (.bin .sub T58 T59),oQ 61 (.bin .geq T60 (cI 2))] [0,1,2,7,8,61])
(.cond T61
(.seq
(.reg 13 [oM 62 T7,oQ 63 (.bin .sub T62 (cI 1)),oM 9 T63] [0,1,2,7,8,9])
(.block 4
(.loop
(.seq
(.seq
(.reg 14 [oM 64 T9,oQ 65 (.bin .geq T64 (cI 1))] [0,1,2,7,8,9,65])
(.cond T65
.skip
(.exit 4)))
(.seq
(.block 5
(.seq
(.seq
(.dreg 16 [oM 68 T0,oM 69 T9,oQ 70 (.ab5 1 T68 T69),oQ 71 (.load none T70),oM 72 T0,oM 73 T9,oQ 74 (.bin .sub T73 (cI 1)),oQ 75 (.ab5 1 T72 T74),oQ 76 (.load none T75),oK 77 (.call 77 [T71,T76]),oQ 78 (.not T77)] false [0,1,2,7,8,9,78])
(.cond T78
(.exit 4)
.skip))
(.dreg 17 [oM 79 T0,oM 80 T9,oM 81 T0,oM 82 T9,oQ 83 (.bin .sub T82 (cI 1)),oM 84 T0,oM 85 T9,oQ 86 (.bin .sub T85 (cI 1)),oQ 87 (.ab5 1 T84 T86),oQ 88 (.load none T87),oM 89 T0,oM 90 T9,oQ 91 (.ab5 1 T89 T90),oQ 92 (.load none T91),oQ 93 (.ab5 1 T79 T80),oN (.store 1 T93 T88),oQ 94 (.ab5 1 T81 T83),oN (.store 1 T94 T92)] false [0,1,2,7,8,9])))
(.reg 15 [oM 66 T9,oQ 67 (.bin .sub T66 (cI 1)),oM 9 T67] [0,1,2,7,8,9]))))))
.skip))
(.seq
(.reg 18 [oM 95 T2,oM 96 T7,oQ 97 (.bin .sub T95 T96),oQ 98 (.bin .geq T97 (cI 2))] [0,1,2,7,8,98])
(.cond T98
(.seq
(.reg 19 [oM 99 T7,oQ 100 (.bin .add T99 (cI 1)),oM 10 T100] [0,1,2,7,8,10])
(.block 6
(.loop
(.seq
(.seq
(.reg 20 [oM 101 T10,oM 102 T2,oQ 103 (.bin .lss T101 T102)] [0,1,2,7,8,10,103])
(.cond T103
.skip
(.exit 6)))
(.seq
(.block 7
(.seq
(.seq
(.dreg 22 [oM 106 T0,oM 107 T10,oQ 108 (.ab5 1 T106 T107),oQ 109 (.load none T108),oM 110 T0,oM 111 T10,oQ 112 (.bin .sub T111 (cI 1)),oQ 113 (.ab5 1 T110 T112),oQ 114 (.load none T113),oK 115 (.call 77 [T109,T114]),oQ 116 (.not T115)] false [0,1,2,7,8,10,116])
(.cond T116
(.exit 6)
.skip))
(.dreg 23 [oM 117 T0,oM 118 T10,oM 119 T0,oM 120 T10,oQ 121 (.bin .sub T120 (cI 1)),oM 122 T0,oM 123 T10,oQ 124 (.bin .sub T123 (cI 1)),oQ 125 (.ab5 1 T122 T124),oQ 126 (.load none T125),oM 127 T0,oM 128 T10,oQ 129 (.ab5 1 T127 T128),oQ 130 (.load none T129),oQ 131 (.ab5 1 T117 T118),oN (.store 1 T131 T126),oQ 132 (.ab5 1 T119 T121),oN (.store 1 T132 T130)] false [0,1,2,7,8,10])))
(.reg 21 [oM 104 T10,oQ 105 (.bin .add T104 (cI 1)),oM 10 T105] [0,1,2,7,8,10]))))))
.skip))))))))
(.reg 4 [oM 15 T8,oQ 16 (.bin .add T15 (cI 1)),oM 8 T16] [0,1,2,7,8]))))))
(.seq
(.reg 24 [oM 6 (cB false)] [6])
.ret))))
theorem fok76:FOK Tryd.prog 76 (133,ic76,[(.t 6)]):=bk2 [] Tryd.func76
def ic77:IC :=
(.seq
(.reg 0 [oM 4 (cB false)] [0,1])
(.seq
(.reg 1 [oM 5 T0,oK 6 (.call 95 [T5]),oM 7 T6,gQ 8 7 true (.mov T1),gK 9 7 true (.call 95 [T8]),gQ 10 7 true (.not T9),oQ 11 (.pick T7 T10 (cB false)),oM 12 T11,gQ 13 12 false (.mov T0),gQ 14 12 false (.mov T1),gQ 15 12 false (.bin .lss T13 T14),oQ 16 (.pick T12 (cB true) T15),oM 4 T16] [4])
.ret))
theorem fok77:FOK Tryd.prog 77 (17,ic77,[(.t 4)]):=bk2 [] Tryd.func77
def ic78:IC :=
(.seq
(.reg 0 [oM 8 (cI 0)] [0,1,2,3])
(.seq
(.dreg 1 [oM 11 T0,oM 12 T1,oM 13 T0,oM 14 T3,oM 15 T0,oM 16 T3,oQ 17 (.ab5 1 T15 T16),oQ 18 (.load none T17),oM 19 T0,oM 20 T1,oQ 21 (.ab5 1 T19 T20),oQ 22 (.load none T21),oQ 23 (.ab5 1 T11 T12),oN (.store 1 T23 T18),oQ 24 (.ab5 1 T13 T14),oN (.store 1 T24 T22)] false [0,1,2])
(.seq
(.reg 2 [oM 25 T1,oQ 26 (.bin .add T25 (cI 1)),oM 27 T2,oQ 28 (.bin .sub T27 (cI 1)),oM 9 T26,oM 10 T28] [0,1,9,10])
(.seq
(.block 0
(.loop
(.block 1
(.seq
(.block 2
(.loop
(.seq
(.seq
(.dreg 3 [oM 29 T9,oM 30 T10,oQ 31 (.bin .leq T29 T30),oM 32 T31,gQ 33 32 true (.mov T0),gQ 34 32 true (.mov T1),gQ 35 32 true (.ab5 1 T33 T34),gQ 36 32 true (.load none T35),gQ 37 32 true (.mov T0),gQ 38 32 true (.mov T9),gQ 39 32 true (.ab5 1 T37 T38),gQ 40 32 true (.load none T39),gK 41 32 true (.call 77 [T36,T40]),gQ 42 32 true (.not T41),oQ 43 (.pick T32 T42 (cB false))] false [0,1,9,10,43])
(.cond T43
.skip
(.exit 2)))
(.block 3
(.reg 4 [oM 44 T9,oQ 45 (.bin .add T44 (cI 1)),oM 9 T45] [0,1,9,10])))))
(.seq
(.block 4
(.loop
(.seq
(.seq
(.dreg 5 [oM 46 T9,oM 47 T10,oQ 48 (.bin .leq T46 T47),oM 49 T48,gQ 50 49 true (.mov T0),gQ 51 49 true (.mov T1),gQ 52 49 true (.ab5 1 T50 T51),gQ 53 49 true (.load none T52),gQ 54 49 true (.mov T0),gQ 55 49 true (.mov T10),gQ 56 49 true (.ab5 1 T54 T55),gQ 57 49 true (.load none T56),gK 58 49 true (.call 77 [T53,T57]),oQ 59 (.pick T49 T58 (cB false))] false [0,1,9,10,59])
(.cond T59
.skip
(.exit 4)))
(.block 5
(.reg 6 [oM 60 T10,oQ 61 (.bin .sub T60 (cI 1)),oM 10 T61] [0,1,9,10])))))
(.seq
(.seq
(.reg 7 [oM 62 T9,oM 63 T10,oQ 64 (.bin .gtr T62 T63)] [0,1,9,10,64])
(.cond T64
(.exit 0)
.skip))
(.seq
(.dreg 8 [oM 65 T0,oM 66 T9,oM 67 T0,oM 68 T10,oM 69 T0,oM 70 T10,oQ 71 (.ab5 1 T69 T70),oQ 72 (.load none T71),oM 73 T0,oM 74 T9,oQ 75 (.ab5 1 T73 T74),oQ 76 (.load none T75),oQ 77 (.ab5 1 T65 T66),oN (.store 1 T77 T72),oQ 78 (.ab5 1 T67 T68),oN (.store 1 T78 T76)] false [0,1,9,10])
(.seq
(.reg 9 [oM 79 T9,oQ 80 (.bin .add T79 (cI 1)),oM 9 T80] [0,1,9,10])
(.reg 10 [oM 81 T10,oQ 82 (.bin .sub T81 (cI 1)),oM 10 T82] [0,1,9,10])))))))))
(.seq
(.reg 11 [oM 83 T9,oM 8 T83] [8])
.ret)))))
theorem fok78:FOK Tryd.prog 78 (84,ic78,[(.t 8)]):=bk2 [] Tryd.func78
def ic79:IC :=
(.seq
(.reg 0 [oM 8 (cI 0),oM 9 (cB false)] [0,1,2,3])
(.seq
(.dreg 1 [oM 12 T0,oM 13 T1,oM 14 T0,oM 15 T3,oM 16 T0,oM 17 T3,oQ 18 (.ab5 1 T16 T17),oQ 19 (.load none T18),oM 20 T0,oM 21 T1,oQ 22 (.ab5 1 T20 T21),oQ 23 (.load none T22),oQ 24 (.ab5 1 T12 T13),oN (.store 1 T24 T19),oQ 25 (.ab5 1 T14 T15),oN (.store 1 T25 T23)] false [0,1,2])
(.seq
(.reg 2 [oM 26 T1,oQ 27 (.bin .add T26 (cI 1)),oM 28 T2,oQ 29 (.bin .sub T28 (cI 1)),oM 10 T27,oM 11 T29] [0,1,10,11])
(.seq
(.block 0
(.loop
(.seq
(.seq
(.dreg 3 [oM 30 T10,oM 31 T11,oQ 32 (.bin .leq T30 T31),oM 33 T32,gQ 34 33 true (.mov T0),gQ 35 33 true (.mov T10),gQ 36 33 true (.ab5 1 T34 T35),gQ 37 33 true (.load none T36),gQ 38 33 true (.mov T0),gQ 39 33 true (.mov T1),gQ 40 33 true (.ab5 1 T38 T39),gQ 41 33 true (.load none T40),gK 42 33 true (.call 77 [T37,T41]),oQ 43 (.pick T33 T42 (cB false))] false [0,1,10,11,43])
(.cond T43
.skip
(.exit 0)))
(.block 1
(.reg 4 [oM 44 T10,oQ 45 (.bin .add T44 (cI 1)),oM 10 T45] [0,1,10,11])))))
(.seq
(.block 2
(.loop
(.seq
(.seq
(.dreg 5 [oM 46 T10,oM 47 T11,oQ 48 (.bin .leq T46 T47),oM 49 T48,gQ 50 49 true (.mov T0),gQ 51 49 true (.mov T11),gQ 52 49 true (.ab5 1 T50 T51),gQ 53 49 true (.load none T52),gQ 54 49 true (.mov T0),gQ 55 49 true (.mov T1),gQ 56 49 true (.ab5 1 T54 T55),gQ 57 49 true (.load none T56),gK 58 49 true (.call 77 [T53,T57]),gQ 59 49 true (.not T58),oQ 60 (.pick T49 T59 (cB false))] false [0,1,10,11,60])
(.cond T60
.skip
(.exit 2)))
(.block 3
(.reg 6 [oM 61 T11,oQ 62 (.bin .sub T61 (cI 1)),oM 11 T62] [0,1,10,11])))))
(.seq
(.seq
(.reg 7 [oM 63 T10,oM 64 T11,oQ 65 (.bin .gtr T63 T64)] [0,1,10,11,65])
(.cond T65
(.seq
(.dreg 8 [oM 66 T0,oM 67 T11,oM 68 T0,oM 69 T1,oM 70 T0,oM 71 T1,oQ 72 (.ab5 1 T70 T71),oQ 73 (.load none T72),oM 74 T0,oM 75 T11,oQ 76 (.ab5 1 T74 T75),oQ 77 (.load none T76),oQ 78 (.ab5 1 T66 T67),oN (.store 1 T78 T73),oQ 79 (.ab5 1 T68 T69),oN (.store 1 T79 T77)] false [11])
(.seq
(.reg 9 [oM 80 T11,oM 8 T80,oM 9 (cB true)] [8,9])
.ret))
.skip))
(.seq
(.dreg 10 [oM 81 T0,oM 82 T10,oM 83 T0,oM 84 T11,oM 85 T0,oM 86 T11,oQ 87 (.ab5 1 T85 T86),oQ 88 (.load none T87),oM 89 T0,oM 90 T10,oQ 91 (.ab5 1 T89 T90),oQ 92 (.load none T91),oQ 93 (.ab5 1 T81 T82),oN (.store 1 T93 T88),oQ 94 (.ab5 1 T83 T84),oN (.store 1 T94 T92)] false [0,1,10,11])
(.seq
(.reg 11 [oM 95 T10,oQ 96 (.bin .add T95 (cI 1)),oM 10 T96] [0,1,10,11])
(.seq
(.reg 12 [oM 97 T11,oQ 98 (.bin .sub T97 (cI 1)),oM 11 T98] [0,1,10,11])
(.seq
(.block 4
(.loop
(.block 5
(.seq
(.block 6
(.loop
(.seq
(.seq
(.dreg 13 [oM 99 T10,oM 100 T11,oQ 101 (.bin .leq T99 T100),oM 102 T101,gQ 103 102 true (.mov T0),gQ 104 102 true (.mov T10),gQ 105 102 true (.ab5 1 T103 T104),gQ 106 102 true (.load none T105),gQ 107 102 true (.mov T0),gQ 108 102 true (.mov T1),gQ 109 102 true (.ab5 1 T107 T108),gQ 110 102 true (.load none T109),gK 111 102 true (.call 77 [T106,T110]),oQ 112 (.pick T102 T111 (cB false))] false [0,1,10,11,112])
(.cond T112
.skip
(.exit 6)))
(.block 7
(.reg 14 [oM 113 T10,oQ 114 (.bin .add T113 (cI 1)),oM 10 T114] [0,1,10,11])))))
(.seq
(.block 8
(.loop
(.seq
(.seq
(.dreg 15 [oM 115 T10,oM 116 T11,oQ 117 (.bin .leq T115 T116),oM 118 T117,gQ 119 118 true (.mov T0),gQ 120 118 true (.mov T11),gQ 121 118 true (.ab5 1 T119 T120),gQ 122 118 true (.load none T121),gQ 123 118 true (.mov T0),gQ 124 118 true (.mov T1),gQ 125 118 true (.ab5 1 T123 T124),gQ 126 118 true (.load none T125),gK 127 118 true (.call 77 [T122,T126]),gQ 128 118 true (.not T127),oQ 129 (.pick T118 T128 (cB false))] false [0,1,10,11,129])
(.cond T129
.skip
(.exit 8)))
(.block 9
(.reg 16 [oM 130 T11,oQ 131 (.bin .sub T130 (cI 1)),oM 11 T131] [0,1,10,11])))))
(.seq
(.seq
(.reg 17 [oM 132 T10,oM 133 T11,oQ 134 (.bin .gtr T132 T133)] [0,1,10,11,134])
(.cond T134
(.exit 4)
.skip))
(.seq
(.dreg 18 [oM 135 T0,oM 136 T10,oM 137 T0,oM 138 T11,oM 139 T0,oM 140 T11,oQ 141 (.ab5 1 T139 T140),oQ 142 (.load none T141),oM 143 T0,oM 144 T10,oQ 145 (.ab5 1 T143 T144),oQ 146 (.load none T145),oQ 147 (.ab5 1 T135 T136),oN (.store 1 T147 T142),oQ 148 (.ab5 1 T137 T138),oN (.store 1 T148 T146)] false [0,1,10,11])
(.seq
(.reg 19 [oM 149 T10,oQ 150 (.bin .add T149 (cI 1)),oM 10 T150] [0,1,10,11])
(.reg 20 [oM 151 T11,oQ 152 (.bin .sub T151 (cI 1)),oM 11 T152] [0,1,10,11])))))))))
(.seq
(.dreg 21 [oM 153 T0,oM 154 T11,oM 155 T0,oM 156 T1,oM 157 T0,oM 158 T1,oQ 159 (.ab5 1 T157 T158),oQ 160 (.load none T159),oM 161 T0,oM 162 T11,oQ 163 (.ab5 1 T161 T162),oQ 164 (.load none T163),oQ 165 (.ab5 1 T153 T154),oN (.store 1 T165 T160),oQ 166 (.ab5 1 T155 T156),oN (.store 1 T166 T164)] false [11])
(.seq
(.reg 22 [oM 167 T11,oM 8 T167,oM 9 (cB false)] [8,9])
.ret))))))))))))
theorem fok79:FOK Tryd.prog 79 (168,ic79,[(.t 8),(.t 9)]):=bk2 [] Tryd.func79
def ic80:IC :=
(.seq
(.reg 0 [oM 2 (cI 0)] [0,2])
(.seq
(.seq
(.reg 1 [oM 3 T0,oQ 4 (.bin .geq T3 (.c (.int .u32 65536)))] [0,2,4])
(.cond T4
(.seq
(.reg 2 [oM 5 T0,oQ 6 (.bin .shr T5 (.c (.int .u64 16))),oM 0 T6] [0])
(.reg 3 [oM 2 (cI 16)] [0,2]))
.skip))
(.seq
(.seq
(.reg 4 [oM 7 T0,oQ 8 (.bin .geq T7 (.c (.int .u32 256)))] [0,2,8])
(.cond T8
(.seq
(.reg 5 [oM 9 T0,oQ 10 (.bin .shr T9 (.c (.int .u64 8))),oM 0 T10] [0,2])
(.reg 6 [oM 11 T2,oQ 12 (.bin .add T11 (cI 8)),oM 2 T12] [0,2]))
.skip))
(.seq
(.reg 7 [oM 13 T2,oM 14 T0,oQ 15 (.conv .u8 T14),oQ 16 (.fy2 (.c (.str [0,1,2,2,3,3,3,3,4,4,4,4,4,4,4,4,5,5,5,5,5,5,5,5,5,5,5,5,5,5,5,5,6,6,6,6,6,6,6,6,6,6,6,6,6,6,6,6,6,6,6,6,6,6,6,6,6,6,6,6,6,6,6,6,7,7,7,7,7,7,7,7,7,7,7,7,7,7,7,7,7,7,7,7,7,7,7,7,7,7,7,7,7,7,7,7,7,7,7,7,7,7,7,7,7,7,7,7,7,7,7,7,7,7,7,7,7,7,7,7,7,7,7,7,7,7,7,7,8,8,8,8,8,8,8,8,8,8,8,8,8,8,8,8,8,8,8,8,8,8,8,8,8,8,8,8,8,8,8,8,8,8,8,8,8,8,8,8,8,8,8,8,8,8,8,8,8,8,8,8,8,8,8,8,8,8,8,8,8,8,8,8,8,8,8,8,8,8,8,8,8,8,8,8,8,8,8,8,8,8,8,8,8,8,8,8,8,8,8,8,8,8,8,8,8,8,8,8,8,8,8,8,8,8,8,8,8,8,8,8,8,8,8,8,8,8,8,8,8,8,8,8,8,8,8,8])) T15),oQ 17 (.conv .i64 T16),oQ 18 (.bin .add T13 T17),oM 2 T18] [2])
.ret))))
theorem fok80:FOK Tryd.prog 80 (19,ic80,[(.t 2)]):=bk2 [] Tryd.func80
def ic81:IC :=
(.seq
(.reg 0 [oM 2 (cI 0)] [0,2])
(.seq
(.seq
(.reg 1 [oM 3 T0,oQ 4 (.bin .geq T3 (.c (.int .u64 4294967296)))] [0,2,4])
(.cond T4
(.seq
(.reg 2 [oM 5 T0,oQ 6 (.bin .shr T5 (.c (.int .u64 32))),oM 0 T6] [0])
(.reg 3 [oM 2 (cI 32)] [0,2]))
.skip))
(.seq
(.seq
(.reg 4 [oM 7 T0,oQ 8 (.bin .geq T7 (.c (.int .u64 65536)))] [0,2,8])
(.cond T8
(.seq
(.reg 5 [oM 9 T0,oQ 10 (.bin .shr T9 (.c (.int .u64 16))),oM 0 T10] [0,2])
(.reg 6 [oM 11 T2,oQ 12 (.bin .add T11 (cI 16)),oM 2 T12] [0,2]))
.skip))
(.seq
(.seq
(.reg 7 [oM 13 T0,oQ 14 (.bin .geq T13 (.c (.int .u64 256)))] [0,2,14])
(.cond T14
(.seq
(.reg 8 [oM 15 T0,oQ 16 (.bin .shr T15 (.c (.int .u64 8))),oM 0 T16] [0,2])
(.reg 9 [oM 17 T2,oQ 18 (.bin .add T17 (cI 8)),oM 2 T18] [0,2]))
.skip))
(.seq
(.reg 10 [oM 19 T2,oM 20 T0,oQ 21 (.conv .u8 T20),oQ 22 (.fy2 (.c (.str [0,1,2,2,3,3,3,3,4,4,4,4,4,4,4,4,5,5,5,5,5,5,5,5,5,5,5,5,5,5,5,5,6,6,6,6,6,6,6,6,6,6,6,6,6,6,6,6,6,6,6,6,6,6,6,6,6,6,6,6,6,6,6,6,7,7,7,7,7,7,7,7,7,7,7,7,7,7,7,7,7,7,7,7,7,7,7,7,7,7,7,7,7,7,7,7,7,7,7,7,7,7,7,7,7,7,7,7,7,7,7,7,7,7,7,7,7,7,7,7,7,7,7,7,7,7,7,7,8,8,8,8,8,8,8,8,8,8,8,8,8,8,8,8,8,8,8,8,8,8,8,8,8,8,8,8,8,8,8,8,8,8,8,8,8,8,8,8,8,8,8,8,8,8,8,8,8,8,8,8,8,8,8,8,8,8,8,8,8,8,8,8,8,8,8,8,8,8,8,8,8,8,8,8,8,8,8,8,8,8,8,8,8,8,8,8,8,8,8,8,8,8,8,8,8,8,8,8,8,8,8,8,8,8,8,8,8,8,8,8,8,8,8,8,8,8,8,8,8,8,8,8,8,8,8,8])) T21),oQ 23 (.conv .i64 T22),oQ 24 (.bin .add T19 T23),oM 2 T24] [2])
.ret)))))
theorem fok81:FOK Tryd.prog 81 (25,ic81,[(.t 2)]):=bk2 [] Tryd.func81
def ic82:IC :=
(.seq
(.reg 0 [⟨(some 4),none,(.q (.mov (.c (.int .i64 0))))⟩] [0,1])
(.seq
(.reg 1 [⟨(some 5),none,(.q (.mov T0))⟩,⟨(some 6),none,(.q (.mov T1))⟩,⟨(some 7),none,(.q (.ibs T5 T6))⟩,⟨(some 4),none,(.q (.mov T7))⟩] [4])
.ret))
theorem fok82:FOK Tryd.prog 82 (8,ic82,[(.t 4)]):=.mk (pf:=[]) (an:=[(0,[0,1]),(1,[4])]) (by kernel_rfl) (ab6 Tryd.func82 (by kernel_rfl) (by kernel_rfl) (by kernel_rfl))
def ic83:IC :=
(.seq
(.reg 0 [⟨(some 4),none,(.q (.mov (.c (.bool false))))⟩] [0,1])
(.seq
(.reg 1 [⟨(some 5),none,(.q (.mov T0))⟩,⟨(some 6),none,(.q (.len 1 T5))⟩,⟨(some 7),none,(.q (.mov T1))⟩,⟨(some 8),none,(.q (.len 1 T7))⟩,⟨(some 9),none,(.q (.bin .geq T6 T8))⟩,⟨(some 10),none,(.q (.mov T9))⟩,⟨(some 11),(some ⟨10,true⟩),(.q (.mov T0))⟩,⟨(some 12),(some ⟨10,true⟩),(.q (.mov T1))⟩,⟨(some 13),(some ⟨10,true⟩),(.q (.len 1 T12))⟩,⟨(some 14),(some ⟨10,true⟩),(.q (.gq5 T11 none (some T13)))⟩,⟨(some 15),(some ⟨10,true⟩),(.q (.mov T1))⟩,⟨(some 16),(some ⟨10,true⟩),(.q (.bin .eql T14 T15))⟩,⟨(some 17),none,(.q (.pick T10 T16 (.c (.bool false))))⟩,⟨(some 4),none,(.q (.mov T17))⟩] [4])
.ret))
theorem fok83:FOK Tryd.prog 83 (18,ic83,[(.t 4)]):=.mk (pf:=[]) (an:=[(0,[0,1]),(1,[4])]) (by kernel_rfl) (ab6 Tryd.func83 (by kernel_rfl) (by kernel_rfl) (by kernel_rfl))
def ic84:IC :=
(.seq
(.reg 0 [⟨(some 4),none,(.q (.mov (.c (.int .i64 0))))⟩] [0,1])
(.seq
(.seq
(.reg 1 [⟨(some 6),none,(.q (.mov T0))⟩,⟨(some 7),none,(.q (.len 0 T6))⟩,⟨(some 8),none,(.q (.mov (.c (.int .i64 0))))⟩] [0,1,7,8])
(.block 0
(.loop
(.seq
(.reg 2 [⟨(some 9),none,(.q (.bin .lss T8 T7))⟩] [0,1,7,8,9])
(.seq
(.cond T9
.skip
(.exit 0))
(.seq
(.block 1
(.seq
(.reg 3 [⟨(some 10),none,(.q (.mov T8))⟩,⟨(some 5),none,(.q (.mov T10))⟩] [0,1,5,7,8])
(.seq
(.reg 4 [⟨(some 11),none,(.q (.mov T1))⟩,⟨(some 12),none,(.q (.mov T0))⟩,⟨(some 13),none,(.q (.mov T5))⟩,⟨(some 14),none,(.q (.ab5 5 T12 T13))⟩,⟨(some 15),none,(.q (.load (some 5) T14))⟩,⟨(some 16),none,(.an7 T11 [T15])⟩] [0,1,5,7,8,16])
(.cond T16
(.seq
(.reg 5 [⟨(some 17),none,(.q (.mov T5))⟩,⟨(some 4),none,(.q (.mov T17))⟩] [4])
.ret)
.skip))))
(.reg 6 [⟨(some 18),none,(.q (.bin .add T8 (.c (.int .i64 1))))⟩,⟨(some 8),none,(.q (.mov T18))⟩] [0,1,7,8])))))))
(.seq
(.reg 7 [⟨(some 4),none,(.q (.mov (.c (.int .i64 (-1)))))⟩] [4])
.ret)))
theorem fok84:FOK Tryd.prog 84 (19,ic84,[(.t 4)]):=.mk (pf:=[]) (an:=[(0,[0,1]),(1,[0,1,7,8]),(2,[0,1,7,8,9]),(3,[0,1,5,7,8]),(4,[0,1,5,7,8,16]),(5,[4]),(6,[0,1,7,8]),(7,[4])]) (by kernel_rfl) (ab6 Tryd.func84 (by kernel_rfl) (by kernel_rfl) (by kernel_rfl))
def ic85:IC :=
(.seq
(.reg 0 [⟨(some 2),none,(.q (.mov (.c (.str []))))⟩] [0])
(.seq
(.seq
(.reg 1 [⟨(some 5),none,(.q (.load none (.g 1)))⟩,⟨(some 6),none,(.aq9 T5)⟩] [0,6])
(.block 0
(.loop
(.seq
(.reg 2 [⟨(some 7),none,(.bj2 T6)⟩,⟨(some 8),none,(.q (.ext 0 T7))⟩] [0,6,8])
(.seq
(.cond T8
.skip
(.exit 0))
(.block 1
(.seq
(.reg 3 [⟨(some 9),none,(.dn5 T6)⟩,⟨(some 10),none,(.q (.ext 0 T9))⟩,⟨(some 11),none,(.q (.ext 1 T9))⟩,⟨(some 3),none,(.q (.mov T10))⟩,⟨(some 4),none,(.q (.mov T11))⟩] [0,3,4,6])
(.seq
(.reg 4 [⟨(some 12),none,(.q (.mov T4))⟩,⟨(some 13),none,(.q (.mov T0))⟩,⟨(some 14),none,(.q (.bin .eql T12 T13))⟩] [0,3,6,14])
(.cond T14
(.seq
(.reg 5 [⟨(some 15),none,(.q (.mov T3))⟩,⟨(some 2),none,(.q (.mov T15))⟩] [2])
.ret)
.skip)))))))))
(.seq
(.reg 6 [⟨(some 2),none,(.q (.mov (.c (.str []))))⟩] [2])
.ret)))
theorem fok85:FOK Tryd.prog 85 (16,ic85,[(.t 2)]):=.mk (pf:=[]) (an:=[(0,[0]),(1,[0,6]),(2,[0,6,8]),(3,[0,3,4,6]),(4,[0,3,6,14]),(5,[2]),(6,[2])]) (by kernel_rfl) (ab6 Tryd.func85 (by kernel_rfl) (by kernel_rfl) (by kernel_rfl))
def ic86:IC :=
(.seq
(.reg 0 [⟨(some 4),none,(.q (.mov (.c (.int .i64 0))))⟩] [0,1])
(.seq
(.seq
(.reg 1 [⟨(some 6),none,(.q (.mov T0))⟩,⟨(some 7),none,(.q (.len 0 T6))⟩,⟨(some 8),none,(.q (.mov (.c (.int .i64 0))))⟩] [0,1,7,8])
(.block 0
(.loop
(.seq
(.reg 2 [⟨(some 9),none,(.q (.bin .lss T8 T7))⟩] [0,1,7,8,9])
(.seq
(.cond T9
.skip
(.exit 0))
(.seq
(.block 1
(.seq
(.reg 3 [⟨(some 10),none,(.q (.mov T8))⟩,⟨(some 5),none,(.q (.mov T10))⟩] [0,1,5,7,8])
(.seq
(.reg 4 [⟨(some 11),none,(.q (.mov T1))⟩,⟨(some 12),none,(.q (.mov T0))⟩,⟨(some 13),none,(.q (.mov T5))⟩,⟨(some 14),none,(.q (.ab5 1 T12 T13))⟩,⟨(some 15),none,(.q (.load none T14))⟩,⟨(some 16),none,(.an7 T11 [T15])⟩] [0,1,5,7,8,16])
(.cond T16
(.seq
(.reg 5 [⟨(some 17),none,(.q (.mov T5))⟩,⟨(some 4),none,(.q (.mov T17))⟩] [4])
.ret)
.skip))))
(.reg 6 [⟨(some 18),none,(.q (.bin .add T8 (.c (.int .i64 1))))⟩,⟨(some 8),none,(.q (.mov T18))⟩] [0,1,7,8])))))))
(.seq
(.reg 7 [⟨(some 4),none,(.q (.mov (.c (.int .i64 (-1)))))⟩] [4])
.ret)))
theorem fok86:FOK Tryd.prog 86 (19,ic86,[(.t 4)]):=.mk (pf:=[]) (an:=[(0,[0,1]),(1,[0,1,7,8]),(2,[0,1,7,8,9]),(3,[0,1,5,7,8]),(4,[0,1,5,7,8,16]),(5,[4]),(6,[0,1,7,8]),(7,[4])]) (by kernel_rfl) (ab6 Tryd.func86 (by kernel_rfl) (by kernel_rfl) (by kernel_rfl))
def ic87:IC :=
(.seq
(.reg 0 [⟨(some 4),none,(.q (.mov (.c (.int .i64 0))))⟩] [0,1])
(.seq
(.seq
(.reg 1 [⟨(some 6),none,(.q (.mov T0))⟩,⟨(some 7),none,(.q (.len 0 T6))⟩,⟨(some 8),none,(.q (.mov (.c (.int .i64 0))))⟩] [0,1,7,8])
(.block 0
(.loop
(.seq
(.reg 2 [⟨(some 9),none,(.q (.bin .lss T8 T7))⟩] [0,1,7,8,9])
(.seq
(.cond T9
.skip
(.exit 0))
(.seq
(.block 1
(.seq
(.reg 3 [⟨(some 10),none,(.q (.mov T8))⟩,⟨(some 5),none,(.q (.mov T10))⟩] [0,1,5,7,8])
(.seq
(.reg 4 [⟨(some 11),none,(.q (.mov T1))⟩,⟨(some 12),none,(.q (.mov T0))⟩,⟨(some 13),none,(.q (.mov T5))⟩,⟨(some 14),none,(.q (.ab5 7 T12 T13))⟩,⟨(some 15),none,(.q (.load (some 7) T14))⟩,⟨(some 16),none,(.an7 T11 [T15])⟩] [0,1,5,7,8,16])
(.cond T16
(.seq
(.reg 5 [⟨(some 17),none,(.q (.mov T5))⟩,⟨(some 4),none,(.q (.mov T17))⟩] [4])
.ret)
.skip))))
(.reg 6 [⟨(some 18),none,(.q (.bin .add T8 (.c (.int .i64 1))))⟩,⟨(some 8),none,(.q (.mov T18))⟩] [0,1,7,8])))))))
(.seq
(.reg 7 [⟨(some 4),none,(.q (.mov (.c (.int .i64 (-1)))))⟩] [4])
.ret)))
theorem fok87:FOK Tryd.prog 87 (19,ic87,[(.t 4)]):=.mk (pf:=[]) (an:=[(0,[0,1]),(1,[0,1,7,8]),(2,[0,1,7,8,9]),(3,[0,1,5,7,8]),(4,[0,1,5,7,8,16]),(5,[4]),(6,[0,1,7,8]),(7,[4])]) (by kernel_rfl) (ab6 Tryd.func87 (by kernel_rfl) (by kernel_rfl) (by kernel_rfl))
def ic88:IC :=
(.seq
(.reg 0 [⟨(some 4),none,(.ar7 T0)⟩,⟨(some 7),none,(.q (.mov (.c (.bool false))))⟩] [1,2,3,4])
(.seq
(.seq
(.reg 1 [⟨(some 10),none,(.q (.mov T2))⟩,⟨(some 11),none,(.q (.load (some 7) T4))⟩,⟨(some 12),none,(.q (.mov T1))⟩,⟨(some 13),none,(.an7 T10 [T11,T12])⟩,⟨(some 14),none,(.q (.not T13))⟩] [1,2,3,4,14])
(.cond T14
(.seq
(.reg 2 [⟨(some 7),none,(.q (.mov (.c (.bool false))))⟩] [7])
.ret)
.skip))
(.seq
(.reg 3 [⟨(some 15),none,(.q (.mov T1))⟩,⟨(some 16),none,(.q (.mov T15))⟩,⟨(some 17),(some ⟨16,false⟩),(.q (.aa9 0 T4))⟩,⟨(some 18),(some ⟨16,false⟩),(.q (.load none T17))⟩,⟨(some 19),(some ⟨16,false⟩),(.q (.bin .eql T18 (.c (.int .u8 6))))⟩,⟨(some 20),none,(.q (.pick T16 (.c (.bool true)) T19))⟩,⟨(some 21),none,(.q (.mov T20))⟩,⟨(some 22),(some ⟨21,false⟩),(.q (.aa9 0 T4))⟩,⟨(some 23),(some ⟨21,false⟩),(.q (.load none T22))⟩,⟨(some 24),(some ⟨21,false⟩),(.q (.bin .eql T23 (.c (.int .u8 7))))⟩,⟨(some 25),none,(.q (.pick T21 (.c (.bool true)) T24))⟩,⟨(some 1),none,(.q (.mov T25))⟩] [1,2,3,4])
(.seq
(.seq
(.reg 4 [⟨(some 26),none,(.q (.aa9 6 T4))⟩,⟨(some 27),none,(.q (.load none T26))⟩,⟨(some 28),none,(.q (.len 0 T27))⟩,⟨(some 29),none,(.q (.mov (.c (.int .i64 0))))⟩] [1,2,3,27,28,29])
(.block 0
(.loop
(.seq
(.reg 5 [⟨(some 30),none,(.q (.bin .lss T29 T28))⟩] [1,2,3,27,28,29,30])
(.seq
(.cond T30
.skip
(.exit 0))
(.seq
(.block 1
(.seq
(.reg 6 [⟨(some 31),none,(.q (.ab5 7 T27 T29))⟩,⟨(some 32),none,(.q (.load (some 7) T31))⟩,⟨(some 9),none,(.alloc [(.int .u8 0),(.str []),(.int .u8 0),(.int .i64 0),(.str []),(.str []),.aa1])⟩,⟨none,none,(.store 7 T9 T32)⟩] [1,2,3,9,27,28,29])
(.seq
(.reg 7 [⟨(some 33),none,(.q (.load none T3))⟩,⟨(some 34),none,(.q (.load (some 7) T9))⟩,⟨(some 35),none,(.q (.mov T1))⟩,⟨(some 36),none,(.q (.mov T2))⟩,⟨(some 37),none,(.an7 T33 [T34,T35,T36])⟩,⟨(some 38),none,(.q (.not T37))⟩] [1,2,3,27,28,29,38])
(.cond T38
(.seq
(.reg 8 [⟨(some 7),none,(.q (.mov (.c (.bool false))))⟩] [7])
.ret)
.skip))))
(.reg 9 [⟨(some 39),none,(.q (.bin .add T29 (.c (.int .i64 1))))⟩,⟨(some 29),none,(.q (.mov T39))⟩] [1,2,3,27,28,29])))))))
(.seq
(.reg 10 [⟨(some 7),none,(.q (.mov (.c (.bool true))))⟩] [7])
.ret)))))
theorem fok88:FOK Tryd.prog 88 (40,ic88,[(.t 7)]):=.mk (pf:=[1000004]) (an:=[(0,[1,2,3,4]),(1,[1,2,3,4,14]),(2,[7]),(3,[1,2,3,4]),(4,[1,2,3,27,28,29]),(5,[1,2,3,27,28,29,30]),(6,[1,2,3,9,27,28,29]),(7,[1,2,3,27,28,29,38]),(8,[7]),(9,[1,2,3,27,28,29]),(10,[7])]) (by kernel_rfl) (ab6 Tryd.func88 (by kernel_rfl) (by kernel_rfl) (by kernel_rfl))
def ic89:IC :=
(.reg 0 [⟨(some 4),none,(.q (.load none T1))⟩,⟨(some 5),none,(.q (.load (some 7) T2))⟩,⟨(some 6),none,(.q (.mov T0))⟩,⟨(some 7),none,(.an7 T4 [T5,(.c (.bool false)),T6])⟩] [])
theorem fok89:FOK Tryd.prog 89 (8,ic89,[]):=.mk (pf:=[]) (an:=[]) (by kernel_rfl) (ab6 Tryd.func89 (by kernel_rfl) (by kernel_rfl) (by kernel_rfl))
def ic90:IC :=
(.seq
(.reg 0 [oM 10 T1,oM 8 T10] [0,2,3,8])
(.block 0
(.loop
(.block 1
(.seq
(.reg 1 [oM 11 T8,oQ 12 (.bin .mul (cI 2) T11),oQ 13 (.bin .add T12 (cI 1)),oM 9 T13] [0,2,3,8,9])
(.seq
(.seq
(.reg 2 [oM 14 T9,oM 15 T2,oQ 16 (.bin .geq T14 T15)] [0,2,3,8,9,16])
(.cond T16
(.exit 0)
.skip))
(.seq
(.seq
(.dreg 3 [oM 17 T9,oQ 18 (.bin .add T17 (cI 1)),oM 19 T2,oQ 20 (.bin .lss T18 T19),oM 21 T20,gQ 22 21 true (.mov T0),gQ 23 21 true (.mov T3),gQ 24 21 true (.mov T9),gQ 25 21 true (.bin .add T23 T24),gQ 26 21 true (.ab5 1 T22 T25),gQ 27 21 true (.load none T26),gQ 28 21 true (.mov T0),gQ 29 21 true (.mov T3),gQ 30 21 true (.mov T9),gQ 31 21 true (.bin .add T29 T30),gQ 32 21 true (.bin .add T31 (cI 1)),gQ 33 21 true (.ab5 1 T28 T32),gQ 34 21 true (.load none T33),gK 35 21 true (.call 77 [T27,T34]),oQ 36 (.pick T21 T35 (cB false))] false [0,2,3,8,9,36])
(.cond T36
(.reg 4 [oM 37 T9,oQ 38 (.bin .add T37 (cI 1)),oM 9 T38] [0,2,3,8,9])
.skip))
(.seq
(.seq
(.dreg 5 [oM 39 T0,oM 40 T3,oM 41 T8,oQ 42 (.bin .add T40 T41),oQ 43 (.ab5 1 T39 T42),oQ 44 (.load none T43),oM 45 T0,oM 46 T3,oM 47 T9,oQ 48 (.bin .add T46 T47),oQ 49 (.ab5 1 T45 T48),oQ 50 (.load none T49),oK 51 (.call 77 [T44,T50]),oQ 52 (.not T51)] false [0,2,3,8,9,52])
(.cond T52
.ret
.skip))
(.seq
(.dreg 6 [oM 53 T0,oM 54 T3,oM 55 T8,oQ 56 (.bin .add T54 T55),oM 57 T0,oM 58 T3,oM 59 T9,oQ 60 (.bin .add T58 T59),oM 61 T0,oM 62 T3,oM 63 T9,oQ 64 (.bin .add T62 T63),oQ 65 (.ab5 1 T61 T64),oQ 66 (.load none T65),oM 67 T0,oM 68 T3,oM 69 T8,oQ 70 (.bin .add T68 T69),oQ 71 (.ab5 1 T67 T70),oQ 72 (.load none T71),oQ 73 (.ab5 1 T53 T56),oN (.store 1 T73 T66),oQ 74 (.ab5 1 T57 T60),oN (.store 1 T74 T72)] false [0,2,3,9])
(.reg 7 [oM 75 T9,oM 8 T75] [0,2,3,8]))))))))))
theorem fok90:FOK Tryd.prog 90 (76,ic90,[]):=bk2 [] Tryd.func90
def ic91:IC :=
(.seq
(.reg 0 [oM 2 (.c (.int .u64 0))] [0])
(.seq
(.reg 1 [oM 3 T0,oQ 4 (.conv .u64 T3),oK 5 (.call 53 [T4]),oQ 6 (.bin .shl (.c (.int .u64 1)) T5),oM 2 T6] [2])
.ret))
theorem fok91:FOK Tryd.prog 91 (7,ic91,[(.t 2)]):=bk2 [] Tryd.func91
def ic92:IC :=
(.seq
(.reg 0 [oM 2 (.c (.int .u64 0))] [0])
(.seq
(.dreg 1 [oM 3 T0,oQ 4 (.au1 T3),oQ 5 (.load none T4),oM 6 T0,oQ 7 (.au1 T6),oQ 8 (.load none T7),oQ 9 (.bin .shl T8 (.c (.int .u64 13))),oQ 10 (.bin .xor T5 T9),oQ 11 (.au1 T3),oN (.store 1 T11 T10)] false [0])
(.seq
(.dreg 2 [oM 12 T0,oQ 13 (.au1 T12),oQ 14 (.load none T13),oM 15 T0,oQ 16 (.au1 T15),oQ 17 (.load none T16),oQ 18 (.bin .shr T17 (.c (.int .u64 7))),oQ 19 (.bin .xor T14 T18),oQ 20 (.au1 T12),oN (.store 1 T20 T19)] false [0])
(.seq
(.dreg 3 [oM 21 T0,oQ 22 (.au1 T21),oQ 23 (.load none T22),oM 24 T0,oQ 25 (.au1 T24),oQ 26 (.load none T25),oQ 27 (.bin .shl T26 (.c (.int .u64 17))),oQ 28 (.bin .xor T23 T27),oQ 29 (.au1 T21),oN (.store 1 T29 T28)] false [0])
(.seq
(.reg 4 [oM 30 T0,oQ 31 (.au1 T30),oQ 32 (.load none T31),oM 2 T32] [2])
.ret)))))
theorem fok92:FOK Tryd.prog 92 (33,ic92,[(.t 2)]):=bk2 [] Tryd.func92
def ic93:IC :=
(.seq
(.reg 0 [oM 6 (cI 0)] [0,1,2])
(.seq
(.reg 1 [oM 7 T0,oM 8 T1,oQ 9 (.bin .sub T8 (cI 1)),oM 10 T1,oM 11 T1,oQ 12 (.bin .add T11 (cI 1)),oM 13 T2,oK 14 (.call 94 [T7,T9,T10,T12,T13]),oM 6 T14] [6])
.ret))
theorem fok93:FOK Tryd.prog 93 (15,ic93,[(.t 6)]):=bk2 [] Tryd.func93
def ic94:IC :=
(.seq
(.reg 0 [oM 10 (cI 0)] [0,1,2,3,4])
(.seq
(.reg 1 [oM 12 T0,oM 13 T1,oM 14 T2,oM 15 T4,oK 16 (.call 97 [T12,T13,T14,T15]),oM 11 T16,oQ 17 (.ext 0 T11),oQ 18 (.ext 1 T11),oM 1 T17,oM 2 T18] [0,1,2,3,4])
(.seq
(.reg 2 [oM 20 T0,oM 21 T2,oM 22 T3,oM 23 T4,oK 24 (.call 97 [T20,T21,T22,T23]),oM 19 T24,oQ 25 (.ext 0 T19),oQ 26 (.ext 1 T19),oM 2 T25,oM 3 T26] [0,1,2,4])
(.seq
(.reg 3 [oM 28 T0,oM 29 T1,oM 30 T2,oM 31 T4,oK 32 (.call 97 [T28,T29,T30,T31]),oM 27 T32,oQ 33 (.ext 0 T27),oQ 34 (.ext 1 T27),oM 1 T33,oM 2 T34] [2])
(.seq
(.reg 4 [oM 35 T2,oM 10 T35] [10])
.ret)))))
theorem fok94:FOK Tryd.prog 94 (36,ic94,[(.t 10)]):=bk2 [] Tryd.func94
def ic95:IC :=
(.seq
(.reg 0 [oM 2 (cB false)] [0])
(.seq
(.reg 1 [oM 3 T0,oM 4 T0,oQ 5 (.bin .neq T3 T4),oM 2 T5] [2])
.ret))
theorem fok95:FOK Tryd.prog 95 (6,ic95,[(.t 2)]):=bk2 [] Tryd.func95
def ic97:IC :=
(.seq
(.reg 0 [oM 8 (cI 0),oM 9 (cI 0)] [0,1,2,3])
(.seq
(.seq
(.dreg 1 [oM 10 T0,oM 11 T2,oQ 12 (.ab5 1 T10 T11),oQ 13 (.load none T12),oM 14 T0,oM 15 T1,oQ 16 (.ab5 1 T14 T15),oQ 17 (.load none T16),oK 18 (.call 77 [T13,T17])] false [1,2,3,18])
(.cond T18
(.seq
(.reg 2 [oM 19 T3,oQ 20 (.au1 T19),oQ 21 (.load none T20),oQ 22 (.bin .add T21 (cI 1)),oQ 23 (.au1 T19),oN (.store 1 T23 T22)] [1,2])
(.seq
(.reg 3 [oM 24 T2,oM 25 T1,oM 8 T24,oM 9 T25] [8,9])
.ret))
.skip))
(.seq
(.reg 4 [oM 26 T1,oM 27 T2,oM 8 T26,oM 9 T27] [8,9])
.ret)))
theorem fok97:FOK Tryd.prog 97 (28,ic97,[(.t 8),(.t 9)]):=bk2 [] Tryd.func97
end Go.Id.Tryd
