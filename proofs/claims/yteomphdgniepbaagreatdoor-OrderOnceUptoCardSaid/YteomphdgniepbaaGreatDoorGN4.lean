/- The compiled codes of functions,written by a program out of the given form. Conditions: none. -/
import Derived.Test.YteomphdgniepbaaGreatDoorFwZb
import Derived.Test.YteomphdgniepbaaGreatDoorProg
set_option linter.all false
namespace Go.Id.Tryz
open Go Go.Id Go.Proofs
def iw8:List Nat:=List.range 375
def ic302:IC :=
(.seq
(.reg 0 [⟨(some 1),none,(.an3 T0)⟩,⟨(some 2),none,(.q (.mov (.c (.int .i64 0))))⟩] [1])
(.seq
(.seq
(.reg 1 [⟨(some 6),none,(.q (.ab2 0 T1))⟩,⟨(some 7),none,(.q (.load none T6))⟩,⟨(some 8),none,(.q (.bin .eql T7 (.c (.int .u8 1))))⟩] [1,8])
(.cond T8
(.seq
(.reg 2 [⟨(some 2),none,(.q (.mov (.c (.int .i64 0))))⟩] [2])
.ret)
.skip))
(.seq
(.reg 3 [⟨(some 3),none,(.q (.mov (.c (.int .i64 0))))⟩] [1,3])
(.seq
(.seq
(.reg 4 [⟨(some 9),none,(.q (.ab2 6 T1))⟩,⟨(some 10),none,(.q (.load none T9))⟩,⟨(some 11),none,(.q (.len 0 T10))⟩,⟨(some 12),none,(.q (.mov (.c (.int .i64 0))))⟩] [3,10,11,12])
(.block 0
(.loop
(.seq
(.reg 5 [⟨(some 13),none,(.q (.bin .lss T12 T11))⟩] [3,10,11,12,13])
(.seq
(.cond T13
.skip
(.exit 0))
(.seq
(.block 1
(.seq
(.reg 6 [⟨(some 14),none,(.q (.ab5 7 T10 T12))⟩,⟨(some 15),none,(.q (.load (some 7) T14))⟩,⟨(some 5),none,(.alloc [(.int .u8 0),(.str []),(.int .u8 0),(.int .i64 0),(.str []),(.str []),.aa1])⟩,⟨none,none,(.store 7 T5 T15)⟩] [3,5,10,11,12])
(.reg 7 [⟨(some 16),none,(.q (.mov T3))⟩,⟨(some 17),none,(.q (.load (some 7) T5))⟩,⟨(some 18),none,(.call 302 [T17])⟩,⟨(some 19),none,(.q (.mm true T16 T18))⟩,⟨(some 3),none,(.q (.mov T19))⟩] [3,10,11,12])))
(.reg 8 [⟨(some 20),none,(.q (.bin .add T12 (.c (.int .i64 1))))⟩,⟨(some 12),none,(.q (.mov T20))⟩] [3,10,11,12])))))))
(.seq
(.reg 9 [⟨(some 21),none,(.q (.mov T3))⟩,⟨(some 22),none,(.q (.bin .add T21 (.c (.int .i64 1))))⟩,⟨(some 2),none,(.q (.mov T22))⟩] [2])
.ret)))))
theorem fok302:FOK Tryz.prog 302 (23,ic302,[(.t 2)]):=.mk (pf:=[1000001]) (an:=[(0,[1]),(1,[1,8]),(2,[2]),(3,[1,3]),(4,[3,10,11,12]),(5,[3,10,11,12,13]),(6,[3,5,10,11,12]),(7,[3,10,11,12]),(8,[3,10,11,12]),(9,[2])]) (by kernel_rfl) (ac3 Tryz.func302 (by kernel_rfl) (by kernel_rfl) (by kernel_rfl))
def ic303:IC :=
(.seq
(.reg 0 [⟨(some 2),none,(.alloc [(.int .i64 0),(.int .i64 0),(.bool false),(.int .u8 0)])⟩] [0,2])
(.seq
(.reg 1 [⟨(some 4),none,(.q (.bld [(.int .i64 0),(.int .i64 0),(.bool false),(.int .u8 0)] [⟨0,⟨1,(.c (.int .i64 0))⟩⟩,⟨1,⟨1,(.c (.int .i64 0))⟩⟩,⟨2,⟨1,(.c (.bool true))⟩⟩,⟨3,⟨1,(.c (.int .u8 3))⟩⟩]))⟩,⟨(some 5),none,(.q (.bld [(.int .i64 0),(.int .i64 0),(.bool false),(.int .u8 0)] [⟨0,⟨1,(.c (.int .i64 2))⟩⟩,⟨1,⟨1,(.c (.int .i64 24))⟩⟩,⟨2,⟨1,(.c (.bool true))⟩⟩,⟨3,⟨1,(.c (.int .u8 3))⟩⟩]))⟩,⟨(some 6),none,(.q (.bld [(.int .i64 0),(.int .i64 0),(.bool false),(.int .u8 0)] [⟨0,⟨1,(.c (.int .i64 2))⟩⟩,⟨1,⟨1,(.c (.int .i64 24))⟩⟩,⟨2,⟨1,(.c (.bool true))⟩⟩,⟨3,⟨1,(.c (.int .u8 3))⟩⟩]))⟩,⟨(some 7),none,(.q (.bld [(.int .i64 0),(.int .i64 0),(.bool false),(.int .u8 0)] [⟨0,⟨1,(.c (.int .i64 2))⟩⟩,⟨1,⟨1,(.c (.int .i64 3))⟩⟩,⟨2,⟨1,(.c (.bool false))⟩⟩,⟨3,⟨1,(.c (.int .u8 1))⟩⟩]))⟩,⟨(some 8),none,(.q (.bld [(.int .i64 0),(.int .i64 0),(.bool false),(.int .u8 0)] [⟨0,⟨1,(.c (.int .i64 2))⟩⟩,⟨1,⟨1,(.c (.int .i64 3))⟩⟩,⟨2,⟨1,(.c (.bool false))⟩⟩,⟨3,⟨1,(.c (.int .u8 2))⟩⟩]))⟩,⟨(some 9),none,(.q (.bld [(.int .i64 0),(.int .i64 0),(.bool false),(.int .u8 0)] [⟨0,⟨1,(.c (.int .i64 2))⟩⟩,⟨1,⟨1,(.c (.int .i64 24))⟩⟩,⟨2,⟨1,(.c (.bool true))⟩⟩,⟨3,⟨1,(.c (.int .u8 3))⟩⟩]))⟩,⟨(some 10),none,(.q (.bld [(.int .i64 0),(.int .i64 0),(.bool false),(.int .u8 0)] [⟨0,⟨1,(.c (.int .i64 2))⟩⟩,⟨1,⟨1,(.c (.int .i64 2))⟩⟩,⟨2,⟨1,(.c (.bool true))⟩⟩,⟨3,⟨1,(.c (.int .u8 3))⟩⟩]))⟩,⟨(some 11),none,(.q (.bld [(.int .i64 0),(.int .i64 0),(.bool false),(.int .u8 0),(.int .i64 0),(.int .i64 0),(.bool false),(.int .u8 0),(.int .i64 0),(.int .i64 0),(.bool false),(.int .u8 0),(.int .i64 0),(.int .i64 0),(.bool false),(.int .u8 0),(.int .i64 0),(.int .i64 0),(.bool false),(.int .u8 0),(.int .i64 0),(.int .i64 0),(.bool false),(.int .u8 0),(.int .i64 0),(.int .i64 0),(.bool false),(.int .u8 0),(.int .i64 0),(.int .i64 0),(.bool false),(.int .u8 0)] [⟨4,⟨4,T4⟩⟩,⟨8,⟨4,T5⟩⟩,⟨12,⟨4,T6⟩⟩,⟨16,⟨4,T7⟩⟩,⟨20,⟨4,T8⟩⟩,⟨24,⟨4,T9⟩⟩,⟨28,⟨4,T10⟩⟩]))⟩,⟨(some 3),none,(.alloc [(.int .i64 0),(.int .i64 0),(.bool false),(.int .u8 0),(.int .i64 0),(.int .i64 0),(.bool false),(.int .u8 0),(.int .i64 0),(.int .i64 0),(.bool false),(.int .u8 0),(.int .i64 0),(.int .i64 0),(.bool false),(.int .u8 0),(.int .i64 0),(.int .i64 0),(.bool false),(.int .u8 0),(.int .i64 0),(.int .i64 0),(.bool false),(.int .u8 0),(.int .i64 0),(.int .i64 0),(.bool false),(.int .u8 0),(.int .i64 0),(.int .i64 0),(.bool false),(.int .u8 0)])⟩,⟨none,none,(.store 32 T3 T11)⟩] [0,2,3])
(.seq
(.seq
(.reg 2 [⟨(some 12),none,(.q (.mov T0))⟩,⟨(some 13),none,(.q (.conv .i64 T12))⟩,⟨(some 14),none,(.q (.bin .geq T13 (.c (.int .i64 8))))⟩] [0,2,3,14])
(.cond T14
(.seq
(.reg 3 [⟨(some 15),none,(.q (.bld [(.int .i64 0),(.int .i64 0),(.bool false),(.int .u8 0)] []))⟩,⟨none,none,(.store 4 T2 T15)⟩] [2])
.ret)
.skip))
(.seq
(.reg 4 [⟨(some 16),none,(.q (.mov T0))⟩,⟨(some 17),none,(.q (.ax8 8 4 T3 T16))⟩,⟨(some 18),none,(.q (.load (some 4) T17))⟩,⟨none,none,(.store 4 T2 T18)⟩] [2])
.ret))))
theorem fok303:FOK Tryz.prog 303 (19,ic303,[(.cell (some 4) 2)]):=.mk (pf:=[]) (an:=[(0,[0,2]),(1,[0,2,3]),(2,[0,2,3,14]),(3,[2]),(4,[2])]) (by kernel_rfl) (ac3 Tryz.func303 (by kernel_rfl) (by kernel_rfl) (by kernel_rfl))
def ic304:IC :=
(.seq
(.reg 0 [oK 2 (.box T0),oM 4 (.c .aa1)] [1,2,4])
(.seq
(.seq
(.reg 1 [oM 6 T1] [2,4,6])
(.block 0
(.bd6 T6 [7]
(.reg 2 [oM 5 T7] [2,5])
(.block 1
(.reg 3 [oQ 8 (.load none T2),oM 9 T5,oK 10 (.ao9 1 1 [(zI 0)] [⟨0,⟨1,T9⟩⟩]),oK 11 (.app 1 T8 T10),oN (.store 1 T2 T11)] [])))))
(.seq
(.reg 4 [oQ 12 (.load none T2),oM 4 T12] [4])
.ret)))
theorem fok304:FOK Tryz.prog 304 (13,ic304,[(.t 4)]):=aj5 [1000010] Tryz.func304
def ic309:IC :=
(.seq
(.reg 0 [oK 3 (.an3 T1),oK 4 (.alloc [(.str []),(zU 0),(zI 0),(.str []),(.str [])])] [0,3,4])
(.seq
(.reg 1 [oM 5 T0,oQ 6 (.load (some 3) T3),oQ 7 (.bld [(.str []),(zU 0),(zI 0),(.str []),(.str [])] [⟨0,⟨1,T5⟩⟩,⟨1,⟨1,(.c (zU 2))⟩⟩,⟨2,⟨3,T6⟩⟩]),oN (.store 5 T4 T7)] [4])
.ret))
theorem fok309:FOK Tryz.prog 309 (8,ic309,[(.cell (some 5) 4)]):=aj5 [1000003] Tryz.func309
def ic314:IC :=
(.seq
(.reg 0 [oM 3 (cI 0)] [0,1,3])
(.block 0
(.loop
(.seq
(.seq
(.reg 1 [oM 6 T3,oQ 7 (.load none T1),oQ 8 (.len 1 T7),oQ 9 (.bin .lss T6 T8)] [0,1,3,9])
(.cond T9
.skip
(.exit 0)))
(.block 1
(.seq
(.reg 2 [oQ 10 (.load none T1),oM 11 T3,oQ 12 (.ez8 T10 T11),oK 13 (.ag6 315 [T12]),oQ 14 (.bld [(zU 0),(.str [])] [⟨0,⟨1,T13⟩⟩]),oK 4 (.alloc [(zU 0),(.str [])]),oN (.store 2 T4 T14)] [0,1,3,4])
(.seq
(.reg 3 [oM 15 T3,oM 5 T15] [0,1,3,4,5])
(.seq
(.seq
(.reg 4 [oM 16 T3,oQ 17 (.bin .add T16 (cI 1)),oM 3 T17] [0,1,3,4,5])
(.block 2
(.loop
(.seq
(.seq
(.am7 5 [oQ 18 (.ab2 0 T4),oQ 19 (.load none T18),oQ 20 (.bin .geq T19 (.c (zU 4))),oM 21 T20,gQ 22 21 true (.mov T3),gQ 23 21 true (.load none T1),gQ 24 21 true (.len 1 T23),gQ 25 21 true (.bin .lss T22 T24),oQ 26 (.pick T21 T25 (cB false)),oM 27 T26,gQ 28 27 true (.load none T1),gQ 29 27 true (.mov T3),gQ 30 27 true (.ez8 T28 T29),gK 31 27 true (.ag6 315 [T30]),gQ 32 27 true (.ab2 0 T4),gQ 33 27 true (.load none T32),gQ 34 27 true (.bin .eql T31 T33),oQ 35 (.pick T27 T34 (cB false))] false [0,1,3,4,5,35])
(.cond T35
.skip
(.exit 2)))
(.seq
(.block 3
.skip)
(.reg 6 [oM 36 T3,oQ 37 (.bin .add T36 (cI 1)),oM 3 T37] [0,1,3,4,5]))))))
(.seq
(.seq
(.reg 7 [oQ 38 (.ab2 0 T4),oQ 39 (.load none T38),oQ 40 (.bin .geq T39 (.c (zU 4)))] [0,1,3,4,5,40])
(.cond T40
(.reg 8 [oQ 41 (.load none T1),oM 42 T5,oM 43 T3,oQ 44 (.gl9 T41 (some T42) (some T43)),oQ 45 (.ab2 1 T4),oN (.store 1 T45 T44)] [0,1,3,4])
.skip))
(.seq
(.seq
(.reg 9 [oQ 46 (.ab2 0 T4),oQ 47 (.load none T46),oQ 48 (.bin .eql T47 (.c (zU 5)))] [0,1,3,4,48])
(.cond T48
(.reg 10 [oQ 49 (.ab2 1 T4),oQ 50 (.load none T49),oK 51 (.call 316 [T50,(.c (.str [48]))]),oQ 52 (.ab2 1 T4),oN (.store 1 T52 T51)] [0,1,3,4])
.skip))
(.seq
(.reg 11 [oQ 53 (.ab2 0 T4),oQ 54 (.load none T53),oQ 55 (.bin .neq T54 (.c (zU 0))),oM 56 T55,gQ 57 56 true (.mov T0),gQ 58 56 true (.load (some 2) T4),gK 59 56 true (.aj1 T57 [T58]),gQ 60 56 true (.not T59),oQ 61 (.pick T56 T60 (cB false))] [0,1,3,61])
(.cond T61
.ret
.skip))))))))))))
theorem fok314:FOK Tryz.prog 314 (62,ic314,[]):=aj5 ([]++[315]) Tryz.func314 (by kernel_rfl) (by kernel_rfl) (by kernel_rfl) (by kernel_rfl)
def ic315:IC :=
(.seq
(.reg 0 [oM 2 (.c (zU 0))] [0])
(.seq
(.block 0
(.seq
(.reg 1 [oM 4 T0,oQ 5 (.bin .eql T4 (.c (zU 126))),oM 3 T5] [0,3])
(.cond T3
(.seq
(.reg 2 [oM 2 (.c (zU 1))] [2])
.ret)
(.seq
(.reg 3 [oM 7 T0,oQ 8 (.bin .eql T7 (.c (zU 94))),oM 6 T8] [0,6])
(.cond T6
(.seq
(.reg 4 [oM 2 (.c (zU 3))] [2])
.ret)
(.seq
(.reg 5 [oM 10 T0,oQ 11 (.bin .geq T10 (.c (zU 97))),oM 12 T11,gQ 13 12 true (.mov T0),gQ 14 12 true (.bin .leq T13 (.c (zU 122))),oQ 15 (.pick T12 T14 (cB false)),oM 16 T15,gQ 17 16 false (.mov T0),gQ 18 16 false (.bin .geq T17 (.c (zU 65))),gQ 19 16 false (.mov T18),gQ 20 19 true (.mov T0),gQ 21 19 true (.bin .leq T20 (.c (zU 90))),gQ 22 16 false (.pick T19 T21 (cB false)),oQ 23 (.pick T16 (cB true) T22),oM 9 T23] [0,9])
(.cond T9
(.seq
(.reg 6 [oM 2 (.c (zU 4))] [2])
.ret)
(.seq
(.reg 7 [oM 25 T0,oQ 26 (.bin .geq T25 (.c (zU 48))),oM 27 T26,gQ 28 27 true (.mov T0),gQ 29 27 true (.bin .leq T28 (.c (zU 57))),oQ 30 (.pick T27 T29 (cB false)),oM 24 T30] [24])
(.cond T24
(.seq
(.reg 8 [oM 2 (.c (zU 5))] [2])
.ret)
.skip)))))))))
(.seq
(.reg 9 [oM 2 (.c (zU 0))] [2])
.ret)))
theorem fok315:FOK Tryz.prog 315 (31,ic315,[(.t 2)]):=aj5 [] Tryz.func315
def ic316:IC :=
(.seq
(.reg 0 [oM 4 (.c (.str []))] [0,1])
(.seq
(.seq
(.reg 1 [oM 7 T0,oQ 8 (.bin .eql T7 (.c (.str []))),oM 9 T8,gQ 10 9 false (.mov T1),gQ 11 9 false (.bin .eql T10 (.c (.str []))),oQ 12 (.pick T9 (cB true) T11)] [0,1,12])
(.cond T12
(.seq
(.reg 2 [oM 13 T0,oM 4 T13] [4])
.ret)
.skip))
(.seq
(.seq
(.reg 3 [oM 14 T1,oQ 15 (.len 1 T14),oQ 16 (.bin .eql T15 (cI 1)),oM 17 T16,gQ 18 17 true (.mov T1),gQ 19 17 true (.ez8 T18 (cI 0)),gQ 20 17 true (.bin .lss T19 (.c (zU 128))),oQ 21 (.pick T17 T20 (cB false))] [0,1,21])
(.cond T21
(.seq
(.reg 4 [oM 22 T0,oM 23 T1,oQ 24 (.ez8 T23 (cI 0)),oK 25 (.call 333 [T22,T24]),oM 4 T25] [4])
.ret)
.skip))
(.seq
(.seq
(.reg 5 [oM 27 T1,oK 28 (.call 334 [T27]),oM 26 T28,oQ 29 (.ext 0 T26),oQ 30 (.ext 1 T26),oK 5 (.alloc [(.bool false),(.bool false),(.bool false),(.bool false),(.bool false),(.bool false),(.bool false),(.bool false),(.bool false),(.bool false),(.bool false),(.bool false),(.bool false),(.bool false),(.bool false),(.bool false),(.bool false),(.bool false),(.bool false),(.bool false),(.bool false),(.bool false),(.bool false),(.bool false),(.bool false),(.bool false),(.bool false),(.bool false),(.bool false),(.bool false),(.bool false),(.bool false),(.bool false),(.bool false),(.bool false),(.bool false),(.bool false),(.bool false),(.bool false),(.bool false),(.bool false),(.bool false),(.bool false),(.bool false),(.bool false),(.bool false),(.bool false),(.bool false),(.bool false),(.bool false),(.bool false),(.bool false),(.bool false),(.bool false),(.bool false),(.bool false),(.bool false),(.bool false),(.bool false),(.bool false),(.bool false),(.bool false),(.bool false),(.bool false),(.bool false),(.bool false),(.bool false),(.bool false),(.bool false),(.bool false),(.bool false),(.bool false),(.bool false),(.bool false),(.bool false),(.bool false),(.bool false),(.bool false),(.bool false),(.bool false),(.bool false),(.bool false),(.bool false),(.bool false),(.bool false),(.bool false),(.bool false),(.bool false),(.bool false),(.bool false),(.bool false),(.bool false),(.bool false),(.bool false),(.bool false),(.bool false),(.bool false),(.bool false),(.bool false),(.bool false),(.bool false),(.bool false),(.bool false),(.bool false),(.bool false),(.bool false),(.bool false),(.bool false),(.bool false),(.bool false),(.bool false),(.bool false),(.bool false),(.bool false),(.bool false),(.bool false),(.bool false),(.bool false),(.bool false),(.bool false),(.bool false),(.bool false),(.bool false),(.bool false),(.bool false),(.bool false),(.bool false),(.bool false),(.bool false),(.bool false),(.bool false),(.bool false),(.bool false),(.bool false),(.bool false),(.bool false),(.bool false),(.bool false),(.bool false),(.bool false),(.bool false),(.bool false),(.bool false),(.bool false),(.bool false),(.bool false),(.bool false),(.bool false),(.bool false),(.bool false),(.bool false),(.bool false),(.bool false),(.bool false),(.bool false),(.bool false),(.bool false),(.bool false),(.bool false),(.bool false),(.bool false),(.bool false),(.bool false),(.bool false),(.bool false),(.bool false),(.bool false),(.bool false),(.bool false),(.bool false),(.bool false),(.bool false),(.bool false),(.bool false),(.bool false),(.bool false),(.bool false),(.bool false),(.bool false),(.bool false),(.bool false),(.bool false),(.bool false),(.bool false),(.bool false),(.bool false),(.bool false),(.bool false),(.bool false),(.bool false),(.bool false),(.bool false),(.bool false),(.bool false),(.bool false),(.bool false),(.bool false),(.bool false),(.bool false),(.bool false),(.bool false),(.bool false),(.bool false),(.bool false),(.bool false),(.bool false),(.bool false),(.bool false),(.bool false),(.bool false),(.bool false),(.bool false),(.bool false),(.bool false),(.bool false),(.bool false),(.bool false),(.bool false),(.bool false),(.bool false),(.bool false),(.bool false),(.bool false),(.bool false),(.bool false),(.bool false),(.bool false),(.bool false),(.bool false),(.bool false),(.bool false),(.bool false),(.bool false),(.bool false),(.bool false),(.bool false),(.bool false),(.bool false),(.bool false),(.bool false),(.bool false),(.bool false),(.bool false),(.bool false),(.bool false),(.bool false),(.bool false),(.bool false),(.bool false),(.bool false),(.bool false),(.bool false),(.bool false),(.bool false),(.bool false),(.bool false)]),oN (.store 256 T5 T29),oM 6 T30] [0,1,5,6])
(.seq
(.reg 6 [oM 31 T6] [0,1,5,31])
(.cond T31
(.seq
(.reg 7 [oM 32 T0,oK 33 (.call 335 [T32,T5]),oM 4 T33] [4])
.ret)
.skip)))
(.seq
(.reg 8 [oM 34 T0,oM 35 T1,oK 36 (.call 336 [T34,T35]),oM 4 T36] [4])
.ret)))))
theorem fok316:FOK Tryz.prog 316 (37,ic316,[(.t 4)]):=aj5 [] Tryz.func316
def ic317:IC :=
(.seq
(.reg 0 [oM 2 (cB false)] [0])
(.seq
(.reg 1 [oM 3 T0,oM 4 T0,oQ 5 (.bin .neq T3 T4),oM 2 T5] [2])
.ret))
theorem fok317:FOK Tryz.prog 317 (6,ic317,[(.t 2)]):=aj5 [] Tryz.func317
def ic318:IC :=
(.seq
(.reg 0 [oM 2 (cB false)] [0])
(.seq
(.reg 1 [oM 3 T0,oM 4 T0,oQ 5 (.bin .neq T3 T4),oM 2 T5] [2])
.ret))
theorem fok318:FOK Tryz.prog 318 (6,ic318,[(.t 2)]):=aj5 [] Tryz.func318
def ic319:IC :=
(.seq
(.reg 0 [⟨(some 4),none,(.q (.mov (.c (.int .i64 0))))⟩] [0,1])
(.seq
(.reg 1 [⟨(some 5),none,(.q (.mov T0))⟩,⟨(some 6),none,(.q (.mov T1))⟩,⟨(some 7),none,(.q (.ibs T5 T6))⟩,⟨(some 4),none,(.q (.mov T7))⟩] [4])
.ret))
theorem fok319:FOK Tryz.prog 319 (8,ic319,[(.t 4)]):=.mk (pf:=[]) (an:=[(0,[0,1]),(1,[4])]) (by kernel_rfl) (ac3 Tryz.func319 (by kernel_rfl) (by kernel_rfl) (by kernel_rfl))
def ic320:IC :=
(.seq
(.reg 0 [⟨(some 4),none,(.q (.mov (.c (.bool false))))⟩] [0,1])
(.seq
(.reg 1 [⟨(some 5),none,(.q (.mov T0))⟩,⟨(some 6),none,(.q (.len 1 T5))⟩,⟨(some 7),none,(.q (.mov T1))⟩,⟨(some 8),none,(.q (.len 1 T7))⟩,⟨(some 9),none,(.q (.bin .geq T6 T8))⟩,⟨(some 10),none,(.q (.mov T9))⟩,⟨(some 11),(some ⟨10,true⟩),(.q (.mov T0))⟩,⟨(some 12),(some ⟨10,true⟩),(.q (.mov T1))⟩,⟨(some 13),(some ⟨10,true⟩),(.q (.len 1 T12))⟩,⟨(some 14),(some ⟨10,true⟩),(.q (.gl9 T11 none (some T13)))⟩,⟨(some 15),(some ⟨10,true⟩),(.q (.mov T1))⟩,⟨(some 16),(some ⟨10,true⟩),(.q (.bin .eql T14 T15))⟩,⟨(some 17),none,(.q (.pick T10 T16 (.c (.bool false))))⟩,⟨(some 4),none,(.q (.mov T17))⟩] [4])
.ret))
theorem fok320:FOK Tryz.prog 320 (18,ic320,[(.t 4)]):=.mk (pf:=[]) (an:=[(0,[0,1]),(1,[4])]) (by kernel_rfl) (ac3 Tryz.func320 (by kernel_rfl) (by kernel_rfl) (by kernel_rfl))
def ic321:IC :=
(.seq
(.reg 0 [oM 2 (.c (zU 0))] [0])
(.seq
(.reg 1 [oQ 3 (.bld [(zU 0),(zU 0),(zU 0)] [⟨0,⟨1,(.c (zU 1))⟩⟩,⟨1,⟨1,(.c (zU 2))⟩⟩,⟨2,⟨1,(.c (zU 4))⟩⟩]),oM 4 T0,oQ 5 (.bin .add T4 (cI 1)),oQ 6 (.idx none 3 1 T3 T5),oM 2 T6] [2])
.ret))
theorem fok321:FOK Tryz.prog 321 (7,ic321,[(.t 2)]):=aj5 [] Tryz.func321
def ic327:IC :=
(.seq
(.reg 0 [oM 10 (cI 0),oM 11 (cI 0)] [0,1,2,3,4])
(.seq
(.seq
(.am7 1 [oM 12 T4,oM 13 T0,oM 14 T2,oQ 15 (.ab5 1 T13 T14),oQ 16 (.load none T15),oM 17 T0,oM 18 T1,oQ 19 (.ab5 1 T17 T18),oQ 20 (.load none T19),oK 21 (.aj1 T12 [T16,T20]),oQ 22 (.bin .lss T21 (cI 0))] false [1,2,3,22])
(.cond T22
(.seq
(.reg 2 [oM 23 T3,oQ 24 (.bc9 T23),oQ 25 (.load none T24),oQ 26 (.bin .add T25 (cI 1)),oQ 27 (.bc9 T23),oN (.store 1 T27 T26)] [1,2])
(.seq
(.reg 3 [oM 28 T2,oM 29 T1,oM 10 T28,oM 11 T29] [10,11])
.ret))
.skip))
(.seq
(.reg 4 [oM 30 T1,oM 31 T2,oM 10 T30,oM 11 T31] [10,11])
.ret)))
theorem fok327:FOK Tryz.prog 327 (32,ic327,[(.t 10),(.t 11)]):=aj5 [] Tryz.func327
def ic328:IC :=
(.seq
(.reg 0 [⟨(some 4),none,(.q (.mov (.c (.int .i64 0))))⟩] [0,1])
(.seq
(.seq
(.reg 1 [⟨(some 6),none,(.q (.mov T0))⟩,⟨(some 7),none,(.q (.len 0 T6))⟩,⟨(some 8),none,(.q (.mov (.c (.int .i64 0))))⟩] [0,1,7,8])
(.block 0
(.loop
(.seq
(.reg 2 [⟨(some 9),none,(.q (.bin .lss T8 T7))⟩] [0,1,7,8,9])
(.seq
(.cond T9
.skip
(.exit 0))
(.seq
(.block 1
(.seq
(.reg 3 [⟨(some 10),none,(.q (.mov T8))⟩,⟨(some 5),none,(.q (.mov T10))⟩] [0,1,5,7,8])
(.seq
(.reg 4 [⟨(some 11),none,(.q (.mov T1))⟩,⟨(some 12),none,(.q (.mov T0))⟩,⟨(some 13),none,(.q (.mov T5))⟩,⟨(some 14),none,(.q (.ab5 1 T12 T13))⟩,⟨(some 15),none,(.q (.load none T14))⟩,⟨(some 16),none,(.aj1 T11 [T15])⟩] [0,1,5,7,8,16])
(.cond T16
(.seq
(.reg 5 [⟨(some 17),none,(.q (.mov T5))⟩,⟨(some 4),none,(.q (.mov T17))⟩] [4])
.ret)
.skip))))
(.reg 6 [⟨(some 18),none,(.q (.bin .add T8 (.c (.int .i64 1))))⟩,⟨(some 8),none,(.q (.mov T18))⟩] [0,1,7,8])))))))
(.seq
(.reg 7 [⟨(some 4),none,(.q (.mov (.c (.int .i64 (-1)))))⟩] [4])
.ret)))
theorem fok328:FOK Tryz.prog 328 (19,ic328,[(.t 4)]):=.mk (pf:=[]) (an:=[(0,[0,1]),(1,[0,1,7,8]),(2,[0,1,7,8,9]),(3,[0,1,5,7,8]),(4,[0,1,5,7,8,16]),(5,[4]),(6,[0,1,7,8]),(7,[4])]) (by kernel_rfl) (ac3 Tryz.func328 (by kernel_rfl) (by kernel_rfl) (by kernel_rfl))
def ic333:IC :=
(.seq
(.reg 0 [oM 4 (.c (.str []))] [0,1])
(.seq
(.block 0
(.loop
(.seq
(.seq
(.reg 1 [oM 5 T0,oQ 6 (.len 1 T5),oQ 7 (.bin .gtr T6 (cI 0)),oM 8 T7,gQ 9 8 true (.mov T0),gQ 10 8 true (.ez8 T9 (cI 0)),gQ 11 8 true (.mov T1),gQ 12 8 true (.bin .eql T10 T11),oQ 13 (.pick T8 T12 (cB false))] [0,1,13])
(.cond T13
.skip
(.exit 0)))
(.block 1
(.reg 2 [oM 14 T0,oQ 15 (.gl9 T14 (some (cI 1)) none),oM 0 T15] [0,1])))))
(.seq
(.reg 3 [oM 16 T0,oM 4 T16] [4])
.ret)))
theorem fok333:FOK Tryz.prog 333 (17,ic333,[(.t 4)]):=aj5 [] Tryz.func333
end Go.Id.Tryz
