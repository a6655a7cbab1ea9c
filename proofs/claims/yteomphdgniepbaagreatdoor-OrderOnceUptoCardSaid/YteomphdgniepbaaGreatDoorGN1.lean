/- The compiled codes of functions,written by a program out of the given form. Conditions: none. -/
import Derived.Test.YteomphdgniepbaaGreatDoorFwZb
import Derived.Test.YteomphdgniepbaaGreatDoorProg
set_option linter.all false
namespace Go.Id.Tryz
open Go Go.Id Go.Proofs
def gx3:List Nat:=List.range 375
def ic48:IC :=
(.seq
(.reg 0 [⟨(some 4),none,(.alloc [(.str []),(.int .i64 0),(.str []),(.str []),(.int .u8 0),(.str []),.aa1,.aa1,.aa1,.aa1,.aa1,.aa1,.aa1,.aa1,.aa1])⟩,⟨(some 5),none,(.q (.mov (.c (.int .i64 0))))⟩] [0,1,4])
(.seq
(.seq
(.reg 1 [⟨(some 6),none,(.q (.mov T0))⟩,⟨(some 7),none,(.q (.ce9 (.pointer 108) false T6))⟩,⟨(some 8),none,(.q (.mov T7))⟩,⟨(some 9),(some ⟨8,false⟩),(.q (.mov T0))⟩,⟨(some 10),(some ⟨8,false⟩),(.q (.bc9 T9))⟩,⟨(some 11),(some ⟨8,false⟩),(.q (.ab2 0 T10))⟩,⟨(some 12),(some ⟨8,false⟩),(.q (.load none T11))⟩,⟨(some 13),(some ⟨8,false⟩),(.q (.mov T1))⟩,⟨(some 14),(some ⟨8,false⟩),(.call 98 [T12,T13])⟩,⟨(some 15),(some ⟨8,false⟩),(.q (.not T14))⟩,⟨(some 16),none,(.q (.pick T8 (.c (.bool true)) T15))⟩] [0,1,4,16])
(.cond T16
(.seq
(.reg 2 [⟨(some 17),none,(.q (.bld [(.str []),(.int .i64 0),(.str []),(.str []),(.int .u8 0),(.str []),.aa1,.aa1,.aa1,.aa1,.aa1,.aa1,.aa1,.aa1,.aa1] []))⟩,⟨none,none,(.store 15 T4 T17)⟩,⟨(some 5),none,(.q (.mov (.c (.int .i64 5))))⟩] [4,5])
.ret)
.skip))
(.seq
(.reg 3 [⟨(some 18),none,(.q (.mov T0))⟩,⟨(some 19),none,(.q (.bc9 T18))⟩,⟨(some 20),none,(.q (.ab2 0 T19))⟩,⟨(some 21),none,(.q (.load none T20))⟩,⟨(some 22),none,(.q (.mov T1))⟩,⟨(some 23),none,(.q (.ab5 17 T21 T22))⟩,⟨(some 24),none,(.q (.ab2 0 T23))⟩,⟨(some 25),none,(.q (.load (some 15) T24))⟩,⟨(some 26),none,(.call 117 [T25])⟩,⟨none,none,(.store 15 T4 T26)⟩,⟨(some 5),none,(.q (.mov (.c (.int .i64 0))))⟩] [4,5])
.ret)))
theorem fok48:FOK Tryz.prog 48 (27,ic48,[(.cell (some 15) 4),(.t 5)]):=.mk (pf:=[]) (an:=[(0,[0,1,4]),(1,[0,1,4,16]),(2,[4,5]),(3,[4,5])]) (by kernel_rfl) (ac3 Tryz.func48 (by kernel_rfl) (by kernel_rfl) (by kernel_rfl))
def ic49:IC :=
(.seq
(.reg 0 [oK 2 (.an3 T0),oK 3 (.an3 T1),oM 4 (cI 0)] [2,3])
(.seq
(.reg 1 [oQ 5 (.mkf 119 [] [T2,T3]),oQ 6 (.mkf 120 [] [T2,T3]),oQ 7 (.mkf 122 [] [T2,T3]),oK 8 (.ao9 1 3 [.af2] [⟨0,⟨1,T5⟩⟩,⟨1,⟨1,T6⟩⟩,⟨2,⟨1,T7⟩⟩]),oK 9 (.call 118 [T8]),oM 4 T9] [4])
.ret))
theorem fok49:FOK Tryz.prog 49 (10,ic49,[(.t 4)]):=aj5 [1000002,1000003,1000008] Tryz.func49
def ic61:IC :=
(.seq
(.reg 0 [oM 5 T0,oQ 6 (.len 0 T5),oM 4 T6] [0,1,4])
(.reg 1 [oM 7 T0,oM 8 T4,oM 9 T4,oQ 10 (.conv .u64 T9),oK 11 (.call 154 [T10]),oM 12 T1,oK 13 (.call 153 [T7,(cI 0),T8,T11,T12])] []))
theorem fok61:FOK Tryz.prog 61 (14,ic61,[]):=aj5 [] Tryz.func61
def ic63:IC :=
(.seq
(.reg 0 [oK 4 (.alloc [(.str []),(zI 0),(.str []),(.str []),(zU 0),(.str []),.aa1,.aa1,.aa1,.aa1,.aa1,.aa1,.aa1,.aa1,.aa1])] [0,1,4])
(.seq
(.reg 1 [oM 7 T0,oQ 8 (.bld [(zI 0),(.str []),(.str [])] [⟨1,⟨1,(.c (.str [49]))⟩⟩,⟨2,⟨1,(.c (.str [49]))⟩⟩]),oQ 9 (.bld [(.str []),(zI 0),(.str []),(.str []),(zU 0),(.str []),.aa1,.aa1,.aa1,.aa1,.aa1,.aa1,.aa1,.aa1,.aa1] [⟨0,⟨1,T7⟩⟩,⟨1,⟨3,T8⟩⟩,⟨4,⟨1,(.c (zU 1))⟩⟩]),oK 5 (.alloc [(.str []),(zI 0),(.str []),(.str []),(zU 0),(.str []),.aa1,.aa1,.aa1,.aa1,.aa1,.aa1,.aa1,.aa1,.aa1]),oN (.store 15 T5 T9)] [1,4,5])
(.seq
(.seq
(.reg 2 [oM 6 (cI 0)] [1,4,5,6])
(.block 0
(.loop
(.seq
(.seq
(.reg 3 [oM 10 T6,oM 11 T1,oQ 12 (.len 0 T11),oQ 13 (.bin .lss T10 T12)] [1,4,5,6,13])
(.cond T13
.skip
(.exit 0)))
(.seq
(.block 1
(.am7 5 [oQ 16 (.ab2 7 T5),oQ 17 (.load none T16),oM 18 T1,oM 19 T6,oQ 20 (.ab5 1 T18 T19),oQ 21 (.load none T20),oQ 22 (.bld [(.str []),(zU 0),(zI 0),(.str []),(.str [])] [⟨0,⟨1,T21⟩⟩]),oQ 23 (.bld [(zU 0),(.str []),(zU 0),(zI 0),(.str []),(.str []),.aa1] [⟨0,⟨1,(.c (zU 1))⟩⟩,⟨1,⟨5,T22⟩⟩]),oK 24 (.ao9 7 1 [(zU 0),(.str []),(zU 0),(zI 0),(.str []),(.str []),.aa1] [⟨0,⟨7,T23⟩⟩]),oK 25 (.app 7 T17 T24),oQ 26 (.ab2 7 T5),oN (.store 1 T26 T25)] true [1,4,5,6]))
(.reg 4 [oM 14 T6,oQ 15 (.bin .add T14 (cI 1)),oM 6 T15] [1,4,5,6]))))))
(.seq
(.reg 6 [oQ 27 (.load (some 15) T5),oN (.store 15 T4 T27)] [4])
.ret))))
theorem fok63:FOK Tryz.prog 63 (28,ic63,[(.cell (some 15) 4)]):=aj5 [1000024] Tryz.func63
def ic64:IC :=
(.seq
(.reg 0 [oM 4 (.c .aa1)] [0,1])
(.seq
(.reg 1 [oM 5 (.c .aa1)] [0,1,5])
(.seq
(.seq
(.reg 2 [oM 6 (cI 0)] [0,1,5,6])
(.block 0
(.loop
(.seq
(.seq
(.reg 3 [oM 7 T6,oM 8 T1,oQ 9 (.len 0 T8),oQ 10 (.bin .lss T7 T9)] [0,1,5,6,10])
(.cond T10
.skip
(.exit 0)))
(.seq
(.block 1
(.reg 5 [oM 13 T5,oM 14 T0,oM 15 T1,oM 16 T6,oQ 17 (.ab5 1 T15 T16),oQ 18 (.load none T17),oQ 19 (.bld [(zU 0),(zI 0)] [⟨0,⟨1,T14⟩⟩,⟨1,⟨1,T18⟩⟩]),oK 20 (.ao9 2 1 [(zU 0),(zI 0)] [⟨0,⟨2,T19⟩⟩]),oK 21 (.app 2 T13 T20),oM 5 T21] [0,1,5,6]))
(.reg 4 [oM 11 T6,oQ 12 (.bin .add T11 (cI 1)),oM 6 T12] [0,1,5,6]))))))
(.seq
(.reg 6 [oM 22 T5,oM 4 T22] [4])
.ret))))
theorem fok64:FOK Tryz.prog 64 (23,ic64,[(.t 4)]):=aj5 [1000020] Tryz.func64
def ic65:IC :=
(.seq
(.reg 0 [oM 4 (cI 0)] [0,1])
(.seq
(.reg 1 [oM 5 (cI 0)] [0,1,5])
(.seq
(.seq
(.reg 2 [oM 6 (cI 0)] [0,1,5,6])
(.block 0
(.loop
(.seq
(.seq
(.reg 3 [oM 10 T6,oM 11 T0,oQ 12 (.len 0 T11),oQ 13 (.bin .lss T10 T12),oM 14 T13,gQ 15 14 true (.mov T5),gQ 16 14 true (.mov T1),gQ 17 14 true (.bin .lss T15 T16),oQ 18 (.pick T14 T17 (cB false))] [0,1,5,6,18])
(.cond T18
.skip
(.exit 0)))
(.seq
(.block 1
(.seq
(.reg 5 [oM 21 T0,oM 22 T6,oQ 23 (.ab5 15 T21 T22),oQ 24 (.load (some 15) T23),oK 7 (.alloc [(.str []),(zI 0),(.str []),(.str []),(zU 0),(.str []),.aa1,.aa1,.aa1,.aa1,.aa1,.aa1,.aa1,.aa1,.aa1]),oN (.store 15 T7 T24)] [0,1,5,6,7])
(.seq
(.reg 6 [oM 25 T5,oQ 26 (.bin .add T25 (cI 1)),oQ 27 (.ab2 6 T7),oQ 28 (.load none T27),oQ 29 (.len 0 T28),oQ 30 (.bin .add T26 T29),oQ 31 (.ab2 9 T7),oQ 32 (.load none T31),oQ 33 (.len 0 T32),oQ 34 (.bin .add T30 T33),oQ 35 (.ab2 14 T7),oQ 36 (.load none T35),oQ 37 (.len 0 T36),oQ 38 (.bin .add T34 T37),oM 5 T38] [0,1,5,6,7])
(.seq
(.reg 7 [oQ 39 (.ab2 7 T7),oQ 40 (.load none T39),oQ 41 (.ab2 8 T7),oQ 42 (.load none T41),oQ 43 (.ab2 10 T7),oQ 44 (.load none T43),oQ 45 (.ab2 11 T7),oQ 46 (.load none T45),oQ 47 (.ab2 12 T7),oQ 48 (.load none T47),oQ 49 (.ab2 13 T7),oQ 50 (.load none T49),oK 51 (.ao9 1 6 [.aa1] [⟨0,⟨1,T40⟩⟩,⟨1,⟨1,T42⟩⟩,⟨2,⟨1,T44⟩⟩,⟨3,⟨1,T46⟩⟩,⟨4,⟨1,T48⟩⟩,⟨5,⟨1,T50⟩⟩]),oQ 52 (.len 0 T51),oM 53 (cI 0)] [0,1,5,6,51,52,53])
(.block 2
(.loop
(.seq
(.reg 8 [oQ 54 (.bin .lss T53 T52)] [0,1,5,6,51,52,53,54])
(.seq
(.cond T54
.skip
(.exit 2))
(.seq
(.block 3
(.seq
(.reg 9 [oQ 55 (.ab5 1 T51 T53),oQ 56 (.load none T55),oM 9 T56] [0,1,5,6,9,51,52,53])
(.reg 10 [oM 57 T5,oM 58 T9,oM 59 T1,oK 60 (.call 155 [T58,T59]),oQ 61 (.bin .add T57 T60),oM 5 T61] [0,1,5,6,51,52,53])))
(.reg 11 [oQ 62 (.bin .add T53 (cI 1)),oM 53 T62] [0,1,5,6,51,52,53]))))))))))
(.reg 4 [oM 19 T6,oQ 20 (.bin .add T19 (cI 1)),oM 6 T20] [0,1,5,6]))))))
(.seq
(.reg 12 [oM 63 T5,oM 4 T63] [4])
.ret))))
theorem fok65:FOK Tryz.prog 65 (64,ic65,[(.t 4)]):=aj5 [1000051] Tryz.func65
def ic66:IC :=
(.seq
(.reg 0 [⟨(some 8),none,(.q (.mov (.c (.int .i64 0))))⟩] [0,1,2,3])
(.seq
(.seq
(.reg 1 [⟨(some 11),none,(.q (.mov T1))⟩,⟨(some 12),none,(.q (.len 0 T11))⟩,⟨(some 13),none,(.q (.mov (.c (.int .i64 0))))⟩] [0,2,3,11,12,13])
(.block 0
(.loop
(.seq
(.reg 2 [⟨(some 14),none,(.q (.bin .lss T13 T12))⟩] [0,2,3,11,12,13,14])
(.seq
(.cond T14
.skip
(.exit 0))
(.seq
(.block 1
(.seq
(.reg 3 [⟨(some 15),none,(.q (.ab5 15 T11 T13))⟩,⟨(some 16),none,(.q (.load (some 15) T15))⟩,⟨(some 10),none,(.alloc [(.str []),(.int .i64 0),(.str []),(.str []),(.int .u8 0),(.str []),.aa1,.aa1,.aa1,.aa1,.aa1,.aa1,.aa1,.aa1,.aa1])⟩,⟨none,none,(.store 15 T10 T16)⟩] [0,2,3,10,11,12,13])
(.seq
(.seq
(.reg 4 [⟨(some 17),none,(.q (.load (some 15) T10))⟩,⟨(some 18),none,(.ag6 156 [T17])⟩,⟨(some 19),none,(.q (.not T18))⟩] [0,2,3,10,11,12,13,19])
(.cond T19
(.seq
(.reg 5 [⟨(some 8),none,(.q (.mov (.c (.int .i64 4))))⟩] [8])
.ret)
.skip))
(.seq
(.am7 6 [⟨(some 20),none,(.q (.mov T0))⟩,⟨(some 21),none,(.q (.bc9 T20))⟩,⟨(some 22),none,(.q (.ab2 2 T21))⟩,⟨(some 23),none,(.q (.load none T22))⟩,⟨(some 24),none,(.q (.ab2 0 T10))⟩,⟨(some 25),none,(.q (.load none T24))⟩,⟨(some 26),none,(.q (.mov T0))⟩,⟨(some 27),none,(.q (.bc9 T26))⟩,⟨(some 28),none,(.q (.ab2 2 T27))⟩,⟨(some 29),none,(.q (.load none T28))⟩,⟨(some 30),none,(.q (.ab2 0 T10))⟩,⟨(some 31),none,(.q (.load none T30))⟩,⟨(some 32),none,(.q (.lkp 2 .aa1 false T29 T31))⟩,⟨(some 33),none,(.q (.mov T0))⟩,⟨(some 34),none,(.q (.bc9 T33))⟩,⟨(some 35),none,(.q (.ab2 0 T34))⟩,⟨(some 36),none,(.q (.load none T35))⟩,⟨(some 37),none,(.q (.len 0 T36))⟩,⟨(some 38),none,(.ao9 1 1 [(.int .i64 0)] [⟨0,⟨1,T37⟩⟩])⟩,⟨(some 39),none,(.app 1 T32 T38)⟩,⟨none,none,(.bw1 2 T23 T25 T39)⟩] true [0,2,3,10,11,12,13])
(.am7 7 [⟨(some 40),none,(.q (.mov T0))⟩,⟨(some 41),none,(.q (.mov T0))⟩,⟨(some 42),none,(.q (.bc9 T41))⟩,⟨(some 43),none,(.q (.ab2 0 T42))⟩,⟨(some 44),none,(.q (.load none T43))⟩,⟨(some 45),none,(.q (.load (some 15) T10))⟩,⟨(some 46),none,(.ag6 117 [T45])⟩,⟨(some 47),none,(.q (.mov T2))⟩,⟨(some 48),none,(.q (.mov T3))⟩,⟨(some 49),none,(.q (.bld [(.str []),(.int .i64 0),(.str []),(.str []),(.int .u8 0),(.str []),.aa1,.aa1,.aa1,.aa1,.aa1,.aa1,.aa1,.aa1,.aa1,(.int .i64 0),(.int .i64 0)] [⟨0,⟨15,T46⟩⟩,⟨15,⟨1,T47⟩⟩,⟨16,⟨1,T48⟩⟩]))⟩,⟨(some 50),none,(.ao9 17 1 [(.str []),(.int .i64 0),(.str []),(.str []),(.int .u8 0),(.str []),.aa1,.aa1,.aa1,.aa1,.aa1,.aa1,.aa1,.aa1,.aa1,(.int .i64 0),(.int .i64 0)] [⟨0,⟨17,T49⟩⟩])⟩,⟨(some 51),none,(.app 17 T44 T50)⟩,⟨(some 52),none,(.q (.bc9 T40))⟩,⟨(some 53),none,(.q (.ab2 0 T52))⟩,⟨none,none,(.store 1 T53 T51)⟩] true [0,2,3,11,12,13])))))
(.reg 8 [⟨(some 54),none,(.q (.bin .add T13 (.c (.int .i64 1))))⟩,⟨(some 13),none,(.q (.mov T54))⟩] [0,2,3,11,12,13])))))))
(.seq
(.reg 9 [⟨(some 8),none,(.q (.mov (.c (.int .i64 0))))⟩] [8])
.ret)))
theorem fok66:FOK Tryz.prog 66 (55,ic66,[(.t 8)]):=.mk (pf:=([1000038,1000050]++gx3)) (an:=[(0,[0,1,2,3]),(1,[0,2,3,11,12,13]),(2,[0,2,3,11,12,13,14]),(3,[0,2,3,10,11,12,13]),(4,[0,2,3,10,11,12,13,19]),(5,[8]),(6,[0,2,3,10,11,12,13]),(7,[0,2,3,11,12,13]),(8,[0,2,3,11,12,13]),(9,[8])]) (by kernel_rfl) (ac3 Tryz.func66 (by kernel_rfl) (by kernel_rfl) (by kernel_rfl))
def ic67:IC :=
(.seq
(.reg 0 [oM 2 (cI 0)] [0])
(.seq
(.seq
(.reg 1 [oM 3 T0] [3])
(.block 0
(.seq
(.seq
(.reg 2 [oQ 5 (.bin .eql T3 (.c (zU 7))),oM 4 T5] [3,4])
(.cond T4
.skip
(.reg 3 [oQ 6 (.bin .eql T3 (.c (zU 8))),oM 4 T6] [3,4])))
(.cond T4
(.seq
(.reg 4 [oM 2 (cI 1)] [2])
.ret)
(.seq
(.reg 5 [oQ 8 (.bin .eql T3 (.c (zU 6))),oM 7 T8] [7])
(.cond T7
(.seq
(.reg 6 [oM 2 (cI 2)] [2])
.ret)
.skip))))))
(.seq
(.reg 7 [oM 2 (cI 0)] [2])
.ret)))
theorem fok67:FOK Tryz.prog 67 (9,ic67,[(.t 2)]):=aj5 [] Tryz.func67
def ic68:IC :=
(.seq
(.reg 0 [oK 4 (.alloc [.ac8,.ac8])] [0,1,4])
(.seq
(.reg 1 [oK 17 .ay2,oK 18 .ay2,oQ 19 (.bld [.ac8,.ac8] [⟨0,⟨1,T17⟩⟩,⟨1,⟨1,T18⟩⟩]),oK 5 (.alloc [.ac8,.ac8]),oN (.store 2 T5 T19)] [0,1,4,5])
(.seq
(.seq
(.reg 2 [oM 20 T1,oQ 21 (.len 0 T20),oM 22 (cI 0)] [0,1,4,5,20,21,22])
(.block 0
(.loop
(.seq
(.reg 3 [oQ 23 (.bin .lss T22 T21)] [0,1,4,5,20,21,22,23])
(.seq
(.cond T23
.skip
(.exit 0))
(.seq
(.block 1
(.seq
(.reg 4 [oQ 24 (.ab5 1 T20 T22),oQ 25 (.load none T24),oM 7 T25] [0,1,4,5,7,20,21,22])
(.seq
(.reg 5 [oK 8 (.alloc [(.int .u64 0),(.int .u64 0),(.int .u64 0),(.int .u64 0)])] [0,1,4,5,7,8,20,21,22])
(.seq
(.seq
(.reg 6 [oM 26 T1,oQ 27 (.len 0 T26),oM 28 (cI 0)] [0,1,4,5,7,8,20,21,22,26,27,28])
(.block 2
(.loop
(.seq
(.reg 7 [oQ 29 (.bin .lss T28 T27)] [0,1,4,5,7,8,20,21,22,26,27,28,29])
(.seq
(.cond T29
.skip
(.exit 2))
(.seq
(.block 3
(.seq
(.reg 8 [oQ 30 (.ab5 1 T26 T28),oQ 31 (.load none T30),oM 10 T31] [0,1,4,5,7,8,10,20,21,22,26,27,28])
(.seq
(.reg 9 [oM 32 T0,oM 33 T7,oM 34 T10,oK 35 (.ag6 23 [T32,T33,T34])] [0,1,4,5,7,8,10,20,21,22,26,27,28,35])
(.cond T35
(.reg 10 [oQ 36 (.load (some 4) T8),oM 37 T10,oK 38 (.ag6 157 [T36,T37]),oN (.store 4 T8 T38)] [0,1,4,5,7,8,20,21,22,26,27,28])
.skip))))
(.reg 11 [oQ 39 (.bin .add T28 (cI 1)),oM 28 T39] [0,1,4,5,7,8,20,21,22,26,27,28])))))))
(.ek5 12 [(0,oQ 40 (.ab2 0 T5),0),(1,oQ 41 (.load none T40),0),(2,oM 42 T7,0),(3,oQ 43 (.ab2 1 T5),0),(4,oQ 44 (.ldt none T43),0),(5,oM 45 T7,0),(6,oQ 46 (.load (some 4) T8),0),(7,oQ 47 (.ldt (some 4) T8),0),(8,oN (.bw1 1 T41 T42 T46),0),(9,oN (.bw1 1 T44 T45 T47),0)] [0,1,4,5,20,21,22])))))
(.reg 13 [oQ 48 (.bin .add T22 (cI 1)),oM 22 T48] [0,1,4,5,20,21,22])))))))
(.seq
(.seq
(.reg 14 [oM 11 (cB true)] [1,4,5,11])
(.block 4
(.loop
(.seq
(.seq
(.reg 15 [oM 49 T11] [1,4,5,49])
(.cond T49
.skip
(.exit 4)))
(.block 5
(.seq
(.reg 16 [oM 11 (cB false)] [1,4,5,11])
(.seq
(.reg 17 [oM 50 T1,oQ 51 (.len 0 T50),oM 52 (cI 0)] [1,4,5,11,50,51,52])
(.block 6
(.loop
(.seq
(.reg 18 [oQ 53 (.bin .lss T52 T51)] [1,4,5,11,50,51,52,53])
(.seq
(.cond T53
.skip
(.exit 6))
(.seq
(.block 7
(.seq
(.reg 19 [oQ 54 (.ab5 1 T50 T52),oQ 55 (.load none T54),oM 13 T55] [1,4,5,11,13,50,51,52])
(.seq
(.reg 20 [oQ 56 (.ab2 1 T5),oQ 57 (.load none T56),oM 58 T13,oQ 59 (.lkp 1 (.agg [(.int .u64 0),(.int .u64 0),(.int .u64 0),(.int .u64 0)]) false T57 T58),oK 14 (.alloc [(.int .u64 0),(.int .u64 0),(.int .u64 0),(.int .u64 0)]),oN (.store 4 T14 T59)] [1,4,5,11,13,14,50,51,52])
(.seq
(.seq
(.reg 21 [oM 60 T1,oQ 61 (.len 0 T60),oM 62 (cI 0)] [1,4,5,11,13,14,50,51,52,60,61,62])
(.block 8
(.loop
(.seq
(.reg 22 [oQ 63 (.bin .lss T62 T61)] [1,4,5,11,13,14,50,51,52,60,61,62,63])
(.seq
(.cond T63
.skip
(.exit 8))
(.seq
(.block 9
(.seq
(.reg 23 [oQ 64 (.ab5 1 T60 T62),oQ 65 (.load none T64),oM 16 T65] [1,4,5,11,13,14,16,50,51,52,60,61,62])
(.seq
(.reg 24 [oQ 66 (.load (some 4) T14),oM 67 T16,oK 68 (.ag6 72 [T66,T67])] [1,4,5,11,13,14,16,50,51,52,60,61,62,68])
(.cond T68
(.reg 25 [oQ 69 (.load (some 4) T14),oQ 70 (.ab2 1 T5),oQ 71 (.load none T70),oM 72 T16,oQ 73 (.lkp 1 (.agg [(.int .u64 0),(.int .u64 0),(.int .u64 0),(.int .u64 0)]) false T71 T72),oK 74 (.ag6 158 [T69,T73]),oN (.store 4 T14 T74)] [1,4,5,11,13,14,50,51,52,60,61,62])
.skip))))
(.reg 26 [oQ 75 (.bin .add T62 (cI 1)),oM 62 T75] [1,4,5,11,13,14,50,51,52,60,61,62])))))))
(.seq
(.reg 27 [oQ 76 (.load (some 4) T14),oQ 77 (.ab2 1 T5),oQ 78 (.load none T77),oM 79 T13,oQ 80 (.lkp 1 (.agg [(.int .u64 0),(.int .u64 0),(.int .u64 0),(.int .u64 0)]) false T78 T79),oQ 81 (.eqs [1,1,1,1] true true T76 T80)] [1,4,5,11,13,14,50,51,52,81])
(.cond T81
(.seq
(.reg 28 [oQ 82 (.ab2 1 T5),oQ 83 (.load none T82),oM 84 T13,oQ 85 (.load (some 4) T14),oN (.bw1 1 T83 T84 T85)] [1,4,5,50,51,52])
(.reg 29 [oM 11 (cB true)] [1,4,5,11,50,51,52]))
.skip))))))
(.reg 30 [oQ 86 (.bin .add T52 (cI 1)),oM 52 T86] [1,4,5,11,50,51,52])))))))))))))
(.seq
(.reg 31 [oQ 87 (.load (some 2) T5),oN (.store 2 T4 T87)] [4])
.ret)))))
theorem fok68:FOK Tryz.prog 68 (88,ic68,[(.cell (some 2) 4)]):=aj5 ([1000044,1000047]++gx3) Tryz.func68 (by kernel_rfl) (by kernel_rfl) (by kernel_rfl) (by kernel_rfl)
def ic69:IC :=
(.seq
(.reg 0 [oM 4 (cI 0)] [0,1])
(.seq
(.reg 1 [oM 7 T0,oK 8 (.call 159 [T7]),oM 5 T8] [0,1,5])
(.seq
(.reg 2 [oM 9 T1,oK 10 (.call 159 [T9]),oM 6 T10] [0,1,5,6])
(.seq
(.seq
(.reg 3 [oM 11 T5] [0,1,6,11])
(.cond T11
(.seq
(.seq
(.reg 4 [oM 12 T6] [12])
(.cond T12
(.seq
(.reg 5 [oM 4 (cI 0)] [4])
.ret)
.skip))
(.seq
(.reg 6 [oM 4 (cI (-1))] [4])
.ret))
.skip))
(.seq
(.seq
(.reg 7 [oM 13 T6] [0,1,13])
(.cond T13
(.seq
(.reg 8 [oM 4 (cI 1)] [4])
.ret)
.skip))
(.seq
(.seq
(.reg 9 [oM 14 T0,oM 15 T1,oQ 16 (.bin .lss T14 T15)] [0,1,16])
(.cond T16
(.seq
(.reg 10 [oM 4 (cI (-1))] [4])
.ret)
.skip))
(.seq
(.seq
(.reg 11 [oM 17 T0,oM 18 T1,oQ 19 (.bin .gtr T17 T18)] [19])
(.cond T19
(.seq
(.reg 12 [oM 4 (cI 1)] [4])
.ret)
.skip))
(.seq
(.reg 13 [oM 4 (cI 0)] [4])
.ret))))))))
theorem fok69:FOK Tryz.prog 69 (20,ic69,[(.t 4)]):=aj5 [] Tryz.func69
def ic70:IC :=
(.seq
(.reg 0 [oK 3 (.an3 T1),oM 4 (.c .aa1)] [0,3])
(.seq
(.reg 1 [oM 8 T0,oK 9 (.call 161 [T8]),oK 10 (.call 160 [T9]),oK 5 (.alloc [.aa1]),oN (.store 1 T5 T10)] [3,5])
(.seq
(.reg 2 [oM 6 (.c .aa1)] [3,5,6])
(.seq
(.block 0
(.loop
(.seq
(.seq
(.reg 3 [oQ 11 (.load none T5),oQ 12 (.len 0 T11),oQ 13 (.bin .gtr T12 (cI 0))] [3,5,6,13])
(.cond T13
.skip
(.exit 0)))
(.block 1
(.seq
(.reg 4 [oQ 14 (.load none T5),oQ 15 (.mkf 162 [] [T5,T3]),oK 16 (.call 152 [T14,T15]),oM 7 T16] [3,5,6,7])
(.seq
(.reg 5 [oM 17 T7,oQ 18 (.mm true T17 (cI 0)),oM 7 T18] [3,5,6,7])
(.seq
(.reg 6 [oM 19 T6,oQ 20 (.load none T5),oM 21 T7,oQ 22 (.ab5 1 T20 T21),oQ 23 (.load none T22),oK 24 (.ao9 1 1 [(zI 0)] [⟨0,⟨1,T23⟩⟩]),oK 25 (.app 1 T19 T24),oM 6 T25] [3,5,6,7])
(.reg 7 [oQ 26 (.load none T5),oM 27 T7,oM 28 T7,oQ 29 (.bin .add T28 (cI 1)),oK 30 (.call 165 [T26,T27,T29]),oN (.store 1 T5 T30)] [3,5,6]))))))))
(.seq
(.reg 8 [oM 31 T6,oM 4 T31] [4])
.ret)))))
theorem fok70:FOK Tryz.prog 70 (32,ic70,[(.t 4)]):=aj5 [1000003,1000024] Tryz.func70
def ic71:IC :=
(.seq
(.reg 0 [oM 5 (cB false)] [0,1,2])
(.seq
(.reg 1 [oQ 6 (.ab2 0 T2),oQ 7 (.load none T6),oM 8 T0,oQ 9 (.lkp 1 (.agg [(.int .u64 0),(.int .u64 0),(.int .u64 0),(.int .u64 0)]) false T7 T8),oM 10 T1,oK 11 (.call 72 [T9,T10]),oM 12 T11,gQ 13 12 true (.ab2 1 T2),gQ 14 12 true (.load none T13),gQ 15 12 true (.mov T1),gQ 16 12 true (.lkp 1 (.agg [(.int .u64 0),(.int .u64 0),(.int .u64 0),(.int .u64 0)]) false T14 T15),gQ 17 12 true (.mov T0),gK 18 12 true (.call 72 [T16,T17]),gQ 19 12 true (.not T18),oQ 20 (.pick T12 T19 (cB false)),oM 5 T20] [5])
.ret))
theorem fok71:FOK Tryz.prog 71 (21,ic71,[(.t 5)]):=aj5 [] Tryz.func71
def ic72:IC :=
(.seq
(.reg 0 [oK 2 (.an3 T0),oM 4 (cB false)] [1,2])
(.seq
(.reg 1 [oM 5 T1,oQ 6 (.bin .quo T5 (cI 64)),oQ 7 (.ax8 4 1 T2 T6),oQ 8 (.load none T7),oM 9 T1,oQ 10 (.bin .rem T9 (cI 64)),oQ 11 (.bin .shr T8 T10),oQ 12 (.bin .and T11 (.c (.int .u64 1))),oQ 13 (.bin .eql T12 (.c (.int .u64 1))),oM 4 T13] [4])
.ret))
theorem fok72:FOK Tryz.prog 72 (14,ic72,[(.t 4)]):=aj5 [1000002] Tryz.func72
def ic73:IC :=
(.seq
(.reg 0 [oM 5 (cB false)] [0,1,2])
(.seq
(.reg 1 [oQ 6 (.ab2 0 T2),oQ 7 (.load none T6),oM 8 T1,oQ 9 (.lkp 1 (.agg [(.int .u64 0),(.int .u64 0),(.int .u64 0),(.int .u64 0)]) false T7 T8),oM 10 T0,oK 11 (.call 72 [T9,T10]),oM 12 T11,gQ 13 12 true (.ab2 1 T2),gQ 14 12 true (.load none T13),gQ 15 12 true (.mov T0),gQ 16 12 true (.lkp 1 (.agg [(.int .u64 0),(.int .u64 0),(.int .u64 0),(.int .u64 0)]) false T14 T15),gQ 17 12 true (.mov T1),gK 18 12 true (.call 72 [T16,T17]),gQ 19 12 true (.not T18),oQ 20 (.pick T12 T19 (cB false)),oM 5 T20] [5])
.ret))
theorem fok73:FOK Tryz.prog 73 (21,ic73,[(.t 5)]):=aj5 [] Tryz.func73
def ic74:IC :=
(.seq
(.reg 0 [oK 2 (.an3 T0),oK 3 (.an3 T1),oM 4 (cB false)] [2,3])
(.seq
(.reg 1 [oQ 5 (.ab2 7 T2),oQ 6 (.load none T5),oQ 7 (.mkf 166 [] [T3]),oK 8 (.call 140 [T6,T7]),oM 4 T8] [4])
.ret))
theorem fok74:FOK Tryz.prog 74 (9,ic74,[(.t 4)]):=aj5 [1000002,1000003] Tryz.func74
def ic75:IC :=
(.seq
(.reg 0 [oM 4 (cB false)] [0,1])
(.seq
(.seq
(.reg 1 [oM 6 T0,oQ 7 (.len 0 T6),oM 8 T1,oQ 9 (.len 0 T8),oQ 10 (.bin .neq T7 T9)] [0,1,10])
(.cond T10
(.seq
(.reg 2 [oM 4 (cB false)] [4])
.ret)
.skip))
(.seq
(.seq
(.reg 3 [oM 5 (cI 0)] [0,1,5])
(.block 0
(.loop
(.seq
(.seq
(.reg 4 [oM 11 T5,oM 12 T0,oQ 13 (.len 0 T12),oQ 14 (.bin .lss T11 T13)] [0,1,5,14])
(.cond T14
.skip
(.exit 0)))
(.seq
(.block 1
(.seq
(.am7 6 [oM 17 T0,oM 18 T5,oQ 19 (.ab5 2 T17 T18),oQ 20 (.load (some 2) T19),oM 21 T1,oM 22 T5,oQ 23 (.ab5 2 T21 T22),oQ 24 (.load (some 2) T23),oQ 25 (.eqs [1,1] true true T20 T24)] false [0,1,5,25])
(.cond T25
(.seq
(.reg 7 [oM 4 (cB false)] [4])
.ret)
.skip)))
(.reg 5 [oM 15 T5,oQ 16 (.bin .add T15 (cI 1)),oM 5 T16] [0,1,5]))))))
(.seq
(.reg 8 [oM 4 (cB true)] [4])
.ret))))
theorem fok75:FOK Tryz.prog 75 (26,ic75,[(.t 4)]):=aj5 [] Tryz.func75
def ic98:IC :=
(.seq
(.reg 0 [⟨(some 4),none,(.q (.mov (.c (.bool false))))⟩] [0,1])
(.seq
(.reg 1 [⟨(some 5),none,(.q (.mov T1))⟩,⟨(some 6),none,(.q (.bin .geq T5 (.c (.int .i64 0))))⟩,⟨(some 7),none,(.q (.mov T6))⟩,⟨(some 8),(some ⟨7,true⟩),(.q (.mov T1))⟩,⟨(some 9),(some ⟨7,true⟩),(.q (.mov T0))⟩,⟨(some 10),(some ⟨7,true⟩),(.q (.len 0 T9))⟩,⟨(some 11),(some ⟨7,true⟩),(.q (.bin .lss T8 T10))⟩,⟨(some 12),none,(.q (.pick T7 T11 (.c (.bool false))))⟩,⟨(some 4),none,(.q (.mov T12))⟩] [4])
.ret))
theorem fok98:FOK Tryz.prog 98 (13,ic98,[(.t 4)]):=.mk (pf:=[]) (an:=[(0,[0,1]),(1,[4])]) (by kernel_rfl) (ac3 Tryz.func98 (by kernel_rfl) (by kernel_rfl) (by kernel_rfl))
def ic111:IC :=
(.seq
(.reg 0 [oM 3 T0,oQ 4 (.len 0 T3),oM 2 T4] [0,2])
(.reg 1 [oM 5 T0,oM 6 T2,oM 7 T2,oQ 8 (.conv .u64 T7),oK 9 (.call 154 [T8]),oK 10 (.call 193 [T5,(cI 0),T6,T9])] []))
theorem fok111:FOK Tryz.prog 111 (11,ic111,[]):=aj5 [] Tryz.func111
def ic117:IC :=
(.seq
(.reg 0 [⟨(some 1),none,(.box T0)⟩,⟨(some 2),none,(.alloc [(.str []),(.int .i64 0),(.str []),(.str []),(.int .u8 0),(.str []),.aa1,.aa1,.aa1,.aa1,.aa1,.aa1,.aa1,.aa1,.aa1])⟩] [1,2])
(.seq
(.am7 1 [⟨(some 7),none,(.q (.ab2 6 T1))⟩,⟨(some 8),none,(.q (.load none T7))⟩,⟨(some 9),none,(.ag6 198 [T8])⟩,⟨(some 10),none,(.q (.ab2 9 T1))⟩,⟨(some 11),none,(.q (.load none T10))⟩,⟨(some 12),none,(.ag6 198 [T11])⟩,⟨(some 13),none,(.q (.ab2 14 T1))⟩,⟨(some 14),none,(.q (.load none T13))⟩,⟨(some 15),none,(.ag6 199 [T14])⟩,⟨(some 16),none,(.q (.ab2 6 T1))⟩,⟨none,none,(.store 1 T16 T9)⟩,⟨(some 17),none,(.q (.ab2 9 T1))⟩,⟨none,none,(.store 1 T17 T12)⟩,⟨(some 18),none,(.q (.ab2 14 T1))⟩,⟨none,none,(.store 1 T18 T15)⟩] false [1,2])
(.seq
(.seq
(.reg 2 [⟨(some 19),none,(.q (.ab2 7 T1))⟩,⟨(some 20),none,(.q (.ab2 8 T1))⟩,⟨(some 21),none,(.q (.ab2 10 T1))⟩,⟨(some 22),none,(.q (.ab2 11 T1))⟩,⟨(some 23),none,(.q (.ab2 12 T1))⟩,⟨(some 24),none,(.q (.ab2 13 T1))⟩,⟨(some 25),none,(.ao9 1 6 [.ae5] [⟨0,⟨1,T19⟩⟩,⟨1,⟨1,T20⟩⟩,⟨2,⟨1,T21⟩⟩,⟨3,⟨1,T22⟩⟩,⟨4,⟨1,T23⟩⟩,⟨5,⟨1,T24⟩⟩])⟩,⟨(some 26),none,(.q (.len 0 T25))⟩,⟨(some 27),none,(.q (.mov (.c (.int .i64 0))))⟩] [1,2,25,26,27])
(.block 0
(.loop
(.seq
(.reg 3 [⟨(some 28),none,(.q (.bin .lss T27 T26))⟩] [1,2,25,26,27,28])
(.seq
(.cond T28
.skip
(.exit 0))
(.seq
(.block 1
(.seq
(.reg 4 [⟨(some 29),none,(.q (.ab5 1 T25 T27))⟩,⟨(some 30),none,(.q (.load none T29))⟩,⟨(some 4),none,(.q (.mov T30))⟩] [1,2,4,25,26,27])
(.seq
(.reg 5 [⟨(some 31),none,(.q (.mov T4))⟩,⟨(some 32),none,(.q (.mov T4))⟩,⟨(some 33),none,(.q (.bc9 T32))⟩,⟨(some 34),none,(.q (.load none T33))⟩,⟨(some 35),none,(.call 200 [T34])⟩,⟨(some 36),none,(.q (.bc9 T31))⟩,⟨none,none,(.store 1 T36 T35)⟩] [1,2,4,25,26,27])
(.seq
(.reg 6 [⟨(some 37),none,(.q (.mov T4))⟩,⟨(some 38),none,(.q (.bc9 T37))⟩,⟨(some 39),none,(.q (.load none T38))⟩,⟨(some 40),none,(.q (.len 0 T39))⟩,⟨(some 41),none,(.q (.mov (.c (.int .i64 0))))⟩] [1,2,4,25,26,27,39,40,41])
(.block 2
(.loop
(.seq
(.reg 7 [⟨(some 42),none,(.q (.bin .lss T41 T40))⟩] [1,2,4,25,26,27,39,40,41,42])
(.seq
(.cond T42
.skip
(.exit 2))
(.seq
(.block 3
(.seq
(.reg 8 [⟨(some 43),none,(.q (.mov T41))⟩,⟨(some 44),none,(.q (.ab5 7 T39 T41))⟩,⟨(some 45),none,(.q (.load (some 7) T44))⟩,⟨(some 6),none,(.alloc [(.int .u8 0),(.str []),(.int .u8 0),(.int .i64 0),(.str []),(.str []),.aa1])⟩,⟨(some 5),none,(.q (.mov T43))⟩,⟨none,none,(.store 7 T6 T45)⟩] [1,2,4,5,6,25,26,27,39,40,41])
(.am7 9 [⟨(some 46),none,(.q (.mov T4))⟩,⟨(some 47),none,(.q (.bc9 T46))⟩,⟨(some 48),none,(.q (.load none T47))⟩,⟨(some 49),none,(.q (.mov T5))⟩,⟨(some 50),none,(.q (.load (some 7) T6))⟩,⟨(some 51),none,(.ag6 201 [T50])⟩,⟨(some 52),none,(.q (.ab5 7 T48 T49))⟩,⟨none,none,(.store 7 T52 T51)⟩] false [1,2,4,25,26,27,39,40,41])))
(.reg 10 [⟨(some 53),none,(.q (.bin .add T41 (.c (.int .i64 1))))⟩,⟨(some 41),none,(.q (.mov T53))⟩] [1,2,4,25,26,27,39,40,41]))))))))))
(.reg 11 [⟨(some 54),none,(.q (.bin .add T27 (.c (.int .i64 1))))⟩,⟨(some 27),none,(.q (.mov T54))⟩] [1,2,25,26,27])))))))
(.seq
(.reg 12 [⟨(some 55),none,(.q (.load (some 15) T1))⟩,⟨none,none,(.store 15 T2 T55)⟩] [2])
.ret))))
theorem fok117:FOK Tryz.prog 117 (56,ic117,[(.cell (some 15) 2)]):=.mk (pf:=([1000025]++List.filter (fun k=>k != 200) gx3)) (an:=[(0,[1,2]),(1,[1,2]),(2,[1,2,25,26,27]),(3,[1,2,25,26,27,28]),(4,[1,2,4,25,26,27]),(5,[1,2,4,25,26,27]),(6,[1,2,4,25,26,27,39,40,41]),(7,[1,2,4,25,26,27,39,40,41,42]),(8,[1,2,4,5,6,25,26,27,39,40,41]),(9,[1,2,4,25,26,27,39,40,41]),(10,[1,2,4,25,26,27,39,40,41]),(11,[1,2,25,26,27]),(12,[2])]) (by kernel_rfl) (ac3 Tryz.func117 (by kernel_rfl) (by kernel_rfl) (by kernel_rfl))
def ic118:IC :=
(.seq
(.reg 0 [oM 2 (cI 0)] [0])
(.seq
(.seq
(.reg 1 [oM 6 T0,oQ 7 (.len 0 T6),oM 8 (cI 0)] [6,7,8])
(.block 0
(.loop
(.seq
(.reg 2 [oQ 9 (.bin .lss T8 T7)] [6,7,8,9])
(.seq
(.cond T9
.skip
(.exit 0))
(.seq
(.block 1
(.seq
(.reg 3 [oQ 10 (.ab5 1 T6 T8),oQ 11 (.load none T10),oM 4 T11] [4,6,7,8])
(.seq
(.reg 4 [oM 12 T4,oK 13 (.aj1 T12 []),oM 5 T13] [5,6,7,8])
(.seq
(.reg 5 [oM 14 T5,oQ 15 (.bin .neq T14 (cI 0))] [5,6,7,8,15])
(.cond T15
(.seq
(.reg 6 [oM 16 T5,oM 2 T16] [2])
.ret)
.skip)))))
(.reg 7 [oQ 17 (.bin .add T8 (cI 1)),oM 8 T17] [6,7,8])))))))
(.seq
(.reg 8 [oM 2 (cI 0)] [2])
.ret)))
theorem fok118:FOK Tryz.prog 118 (18,ic118,[(.t 2)]):=aj5 [] Tryz.func118
def ic119:IC :=
(.seq
(.reg 0 [oM 2 (cI 0)] [0,1])
(.seq
(.reg 1 [oQ 3 (.ab2 0 T0),oQ 4 (.load none T3),oQ 5 (.ab2 0 T1),oQ 6 (.load none T5),oK 7 (.call 69 [T4,T6]),oM 2 T7] [2])
.ret))
theorem fok119:FOK Tryz.prog 119 (8,ic119,[(.t 2)]):=aj5 [] Tryz.func119
def ic120:IC :=
(.seq
(.reg 0 [oM 2 (cI 0)] [0,1])
(.seq
(.reg 1 [oQ 3 (.ab2 1 T0),oQ 4 (.load none T3),oQ 5 (.ab2 1 T1),oQ 6 (.load none T5),oK 7 (.call 121 [T4,T6]),oM 2 T7] [2])
.ret))
theorem fok120:FOK Tryz.prog 120 (8,ic120,[(.t 2)]):=aj5 [] Tryz.func120
def ic121:IC :=
(.seq
(.reg 0 [oM 4 (cI 0)] [0,1])
(.seq
(.reg 1 [oM 9 T0,oK 10 (.call 202 [T9]),oQ 11 (.bld [(zU 0),(.str [])] [⟨0,⟨1,(.c (zU 2))⟩⟩]),oK 12 (.ao9 2 1 [(zU 0),(.str [])] [⟨0,⟨2,T11⟩⟩]),oK 13 (.app 2 T10 T12),oM 14 T1,oK 15 (.call 202 [T14]),oQ 16 (.bld [(zU 0),(.str [])] [⟨0,⟨1,(.c (zU 2))⟩⟩]),oK 17 (.ao9 2 1 [(zU 0),(.str [])] [⟨0,⟨2,T16⟩⟩]),oK 18 (.app 2 T15 T17),oM 5 T13,oM 6 T18] [5,6])
(.seq
(.seq
(.reg 2 [oM 19 T5,oQ 20 (.len 0 T19),oM 21 T6,oQ 22 (.len 0 T21),oQ 23 (.mm false T20 T22),oM 24 (cI 0)] [5,6,23,24])
(.block 0
(.loop
(.seq
(.reg 3 [oQ 25 (.bin .lss T24 T23)] [5,6,23,24,25])
(.seq
(.cond T25
.skip
(.exit 0))
(.seq
(.block 1
(.seq
(.reg 4 [oM 26 T24,oM 7 T26] [5,6,7,23,24])
(.seq
(.am7 5 [oM 27 T5,oM 28 T7,oQ 29 (.ab5 2 T27 T28),oQ 30 (.load (some 2) T29),oM 31 T6,oM 32 T7,oQ 33 (.ab5 2 T31 T32),oQ 34 (.load (some 2) T33),oK 35 (.call 203 [T30,T34]),oM 8 T35] false [5,6,8,23,24])
(.seq
(.reg 6 [oM 36 T8,oQ 37 (.bin .neq T36 (cI 0))] [5,6,8,23,24,37])
(.cond T37
(.seq
(.reg 7 [oM 38 T8,oM 4 T38] [4])
.ret)
.skip)))))
(.reg 8 [oQ 39 (.bin .add T24 (cI 1)),oM 24 T39] [5,6,23,24])))))))
(.seq
(.reg 9 [oM 4 (cI 0)] [4])
.ret))))
theorem fok121:FOK Tryz.prog 121 (40,ic121,[(.t 4)]):=aj5 [1000012,1000017] Tryz.func121
def ic122:IC :=
(.seq
(.reg 0 [oM 2 (cI 0)] [0,1])
(.seq
(.seq
(.reg 1 [oQ 3 (.ab2 2 T0),oQ 4 (.load none T3),oQ 5 (.bin .eql T4 (.c (.str []))),oM 6 T5,gQ 7 6 false (.ab2 2 T1),gQ 8 6 false (.load none T7),gQ 9 6 false (.bin .eql T8 (.c (.str []))),oQ 10 (.pick T6 (cB true) T9)] [0,1,10])
(.cond T10
(.seq
(.reg 2 [oM 2 (cI 0)] [2])
.ret)
.skip))
(.seq
(.reg 3 [oQ 11 (.ab2 2 T0),oQ 12 (.load none T11),oQ 13 (.ab2 2 T1),oQ 14 (.load none T13),oK 15 (.call 121 [T12,T14]),oM 2 T15] [2])
.ret)))
theorem fok122:FOK Tryz.prog 122 (16,ic122,[(.t 2)]):=aj5 [] Tryz.func122
def ic127:IC :=
(.seq
(.reg 0 [⟨(some 1),none,(.an3 T0)⟩,⟨(some 2),none,(.q (.mov (.c (.bool false))))⟩] [1])
(.seq
(.block 0
(.seq
(.reg 1 [⟨(some 4),none,(.q (.ab2 0 T1))⟩,⟨(some 5),none,(.q (.load none T4))⟩,⟨(some 6),none,(.call 205 [T5])⟩,⟨(some 7),none,(.q (.not T6))⟩,⟨(some 8),none,(.q (.mov T7))⟩,⟨(some 9),(some ⟨8,false⟩),(.q (.ab2 1 T1))⟩,⟨(some 10),(some ⟨8,false⟩),(.q (.load none T9))⟩,⟨(some 11),(some ⟨8,false⟩),(.call 206 [T10])⟩,⟨(some 12),(some ⟨8,false⟩),(.q (.not T11))⟩,⟨(some 13),none,(.q (.pick T8 (.c (.bool true)) T12))⟩,⟨(some 3),none,(.q (.mov T13))⟩] [1,3])
(.cond T3
(.seq
(.reg 2 [⟨(some 2),none,(.q (.mov (.c (.bool false))))⟩] [2])
.ret)
(.seq
(.reg 3 [⟨(some 15),none,(.q (.ab2 1 T1))⟩,⟨(some 16),none,(.q (.load none T15))⟩,⟨(some 17),none,(.q (.bin .eql T16 (.c (.int .u8 0))))⟩,⟨(some 14),none,(.q (.mov T17))⟩] [1,14])
(.cond T14
(.seq
(.reg 4 [⟨(some 18),none,(.q (.ab2 2 T1))⟩,⟨(some 19),none,(.q (.load (some 3) T18))⟩,⟨(some 20),none,(.q (.bld [(.int .i64 0),(.str []),(.str [])] []))⟩,⟨(some 21),none,(.q (.eqs [1,2,2] true false T19 T20))⟩,⟨(some 2),none,(.q (.mov T21))⟩] [2])
.ret)
.skip)))))
(.seq
(.reg 5 [⟨(some 22),none,(.q (.ab2 0 T1))⟩,⟨(some 23),none,(.q (.load none T22))⟩,⟨(some 24),none,(.call 207 [T23])⟩,⟨(some 25),none,(.q (.not T24))⟩,⟨(some 26),none,(.q (.mov T25))⟩,⟨(some 27),(some ⟨26,true⟩),(.q (.ab2 2 T1))⟩,⟨(some 28),(some ⟨26,true⟩),(.q (.load (some 3) T27))⟩,⟨(some 29),(some ⟨26,true⟩),(.call 208 [T28,(.c (.bool true))])⟩,⟨(some 30),none,(.q (.pick T26 T29 (.c (.bool false))))⟩,⟨(some 2),none,(.q (.mov T30))⟩] [2])
.ret)))
theorem fok127:FOK Tryz.prog 127 (31,ic127,[(.t 2)]):=.mk (pf:=[1000001]) (an:=[(0,[1]),(1,[1,3]),(2,[2]),(3,[1,14]),(4,[2]),(5,[2])]) (by kernel_rfl) (ac3 Tryz.func127 (by kernel_rfl) (by kernel_rfl) (by kernel_rfl))
end Go.Id.Tryz
