/- The compiled codes of functions,written by a program out of the given form. Conditions: none. -/
import Derived.Test.YtjpdjifjokldlaaGreatDoorFwZb
import Derived.Test.YtjpdjifjokldlaaGreatDoorProg
set_option linter.all false
namespace Go.Id.Tryz
open Go Go.Id Go.Proofs
def ii9:List Nat:=List.range 192
def ic54:IC :=
(.seq
(.reg 0 [oM 2 (.c .aa1)] [0])
(.seq
(.seq
(.reg 1 [oM 3 T0,oQ 4 (.bc9 (.slice 9) false T3)] [0,4])
(.cond T4
(.seq
(.reg 2 [oM 2 (.c .aa1)] [2])
.ret)
.skip))
(.seq
(.reg 3 [oK 5 (.bsl 1 0 [(.str [])] []),oM 6 T0,oK 7 (.app 1 T5 T6),oM 2 T7] [2])
.ret)))
theorem fok54:FOK Tryz.prog 54 (8,ic54,[(.t 2)]):=ai1 [] Tryz.func54
def ic55:IC :=
(.seq
(.reg 0 [oM 2 (.c .aa1)] [0])
(.seq
(.seq
(.reg 1 [oM 3 T0,oQ 4 (.bc9 (.slice 95) false T3)] [0,4])
(.cond T4
(.seq
(.reg 2 [oM 2 (.c .aa1)] [2])
.ret)
.skip))
(.seq
(.reg 3 [oK 5 (.bsl 7 0 [(zU 0),(.str []),(zU 0),(zI 0),(.str []),(.str []),.aa1] []),oM 6 T0,oK 7 (.app 7 T5 T6),oM 2 T7] [2])
.ret)))
theorem fok55:FOK Tryz.prog 55 (8,ic55,[(.t 2)]):=ai1 [] Tryz.func55
def ic56:IC :=
(.seq
(.reg 0 [oK 1 (.aj8 T0),oK 2 (.alloc [(zU 0),(.str []),(zU 0),(zI 0),(.str []),(.str []),.aa1])] [1,2])
(.seq
(.reg 1 [oQ 6 (.aa7 0 T1),oQ 7 (.load none T6),oQ 8 (.aa7 1 T1),oQ 9 (.load (some 5) T8),oQ 10 (.bld [(zU 0),(.str []),(zU 0),(zI 0),(.str []),(.str []),.aa1] [⟨0,⟨1,T7⟩⟩,⟨1,⟨5,T9⟩⟩]),oK 3 (.alloc [(zU 0),(.str []),(zU 0),(zI 0),(.str []),(.str []),.aa1]),oN (.store 7 T3 T10)] [1,2,3])
(.seq
(.seq
(.reg 2 [oQ 11 (.aa7 6 T1),oQ 12 (.load none T11),oQ 13 (.len 0 T12),oM 14 (cI 0)] [2,3,12,13,14])
(.block 0
(.loop
(.seq
(.reg 3 [oQ 15 (.bin .lss T14 T13)] [2,3,12,13,14,15])
(.seq
(.cond T15
.skip
(.exit 0))
(.seq
(.block 1
(.seq
(.reg 4 [oQ 16 (.ab5 7 T12 T14),oQ 17 (.load (some 7) T16),oK 5 (.alloc [(zU 0),(.str []),(zU 0),(zI 0),(.str []),(.str []),.aa1]),oN (.store 7 T5 T17)] [2,3,5,12,13,14])
(.dreg 5 [oQ 18 (.aa7 6 T3),oQ 19 (.load none T18),oQ 20 (.load (some 7) T5),oK 21 (.ae7 56 [T20]),oK 22 (.as5 7 1 [(zU 0),(.str []),(zU 0),(zI 0),(.str []),(.str []),.aa1] [⟨0,⟨7,T21⟩⟩]),oK 23 (.app 7 T19 T22),oQ 24 (.aa7 6 T3),oN (.store 1 T24 T23)] true [2,3,12,13,14])))
(.reg 6 [oQ 25 (.bin .add T14 (cI 1)),oM 14 T25] [2,3,12,13,14])))))))
(.seq
(.reg 7 [oQ 26 (.load (some 7) T3),oN (.store 7 T2 T26)] [2])
.ret))))
theorem fok56:FOK Tryz.prog 56 (27,ic56,[(.cell (some 7) 2)]):=ai1 ([1000001,1000022]++ii9) Tryz.func56
def ic57:IC :=
(.seq
(.reg 0 [oK 2 (.aj8 T0),oK 3 (.aj8 T1),oM 4 (cB false)] [2,3])
(.seq
(.seq
(.reg 1 [oQ 6 (.aa7 0 T2),oQ 7 (.load none T6),oQ 8 (.aa7 0 T3),oQ 9 (.load none T8),oQ 10 (.bin .neq T7 T9),oM 11 T10,gQ 12 11 false (.aa7 1 T2),gQ 13 11 false (.load (some 5) T12),gQ 14 11 false (.aa7 1 T3),gQ 15 11 false (.load (some 5) T14),gQ 16 11 false (.eqs [2,1,1,2,2] true true T13 T15),oQ 17 (.pick T11 (cB true) T16),oM 18 T17,gQ 19 18 false (.aa7 6 T2),gQ 20 18 false (.load none T19),gQ 21 18 false (.len 0 T20),gQ 22 18 false (.aa7 6 T3),gQ 23 18 false (.load none T22),gQ 24 18 false (.len 0 T23),gQ 25 18 false (.bin .neq T21 T24),oQ 26 (.pick T18 (cB true) T25)] [2,3,26])
(.cond T26
(.seq
(.reg 2 [oM 4 (cB false)] [4])
.ret)
.skip))
(.seq
(.seq
(.reg 3 [oM 5 (cI 0)] [2,3,5])
(.block 0
(.loop
(.seq
(.seq
(.reg 4 [oM 27 T5,oQ 28 (.aa7 6 T2),oQ 29 (.load none T28),oQ 30 (.len 0 T29),oQ 31 (.bin .lss T27 T30)] [2,3,5,31])
(.cond T31
.skip
(.exit 0)))
(.seq
(.block 1
(.seq
(.dreg 6 [oQ 34 (.aa7 6 T2),oQ 35 (.load none T34),oM 36 T5,oQ 37 (.ab5 7 T35 T36),oQ 38 (.load (some 7) T37),oQ 39 (.aa7 6 T3),oQ 40 (.load none T39),oM 41 T5,oQ 42 (.ab5 7 T40 T41),oQ 43 (.load (some 7) T42),oK 44 (.call 57 [T38,T43]),oQ 45 (.not T44)] false [2,3,5,45])
(.cond T45
(.seq
(.reg 7 [oM 4 (cB false)] [4])
.ret)
.skip)))
(.reg 5 [oM 32 T5,oQ 33 (.bin .add T32 (cI 1)),oM 5 T33] [2,3,5]))))))
(.seq
(.reg 8 [oM 4 (cB true)] [4])
.ret))))
theorem fok57:FOK Tryz.prog 57 (46,ic57,[(.t 4)]):=ai1 [1000002,1000003] Tryz.func57
def ic58:IC :=
(.seq
(.reg 0 [oM 2 (cB false)] [0])
(.seq
(.seq
(.reg 1 [oM 7 T0,oQ 8 (.len 1 T7),oQ 9 (.bin .lss T8 (cI 1)),oM 10 T9,gQ 11 10 false (.mov T0),gQ 12 10 false (.len 1 T11),gQ 13 10 false (.bin .gtr T12 (cI 64)),oQ 14 (.pick T10 (cB true) T13)] [0,14])
(.cond T14
(.seq
(.reg 2 [oM 2 (cB false)] [2])
.ret)
.skip))
(.seq
(.seq
(.reg 3 [oM 15 T0,oK 16 (.aw5 T15)] [0,16])
(.block 0
(.loop
(.seq
(.reg 4 [oK 17 (.bq1 T16),oQ 18 (.ext 0 T17)] [0,16,17,18])
(.seq
(.cond T18
.skip
(.exit 0))
(.block 1
(.seq
(.reg 5 [oQ 19 (.ext 2 T17),oM 4 T19] [0,4,16])
(.seq
(.reg 6 [oM 20 T4,oQ 21 (.bin .gtr T20 (.c (.int .i32 126))),oM 22 T21,gQ 23 22 false (.mov T4),gQ 24 22 false (.conv .u8 T23),gK 25 22 false (.call 82 [(.c (.str [97,98,99,100,101,102,103,104,105,106,107,108,109,110,111,112,113,114,115,116,117,118,119,120,121,122,65,66,67,68,69,70,71,72,73,74,75,76,77,78,79,80,81,82,83,84,85,86,87,88,89,90,48,49,50,51,52,53,54,55,56,57,46,95,43,45,47,58,64,126,94])),T24]),gQ 26 22 false (.bin .lss T25 (cI 0)),oQ 27 (.pick T22 (cB true) T26)] [0,16,27])
(.cond T27
(.seq
(.reg 7 [oM 2 (cB false)] [2])
.ret)
.skip)))))))))
(.seq
(.seq
(.reg 8 [oQ 28 (.load (some 7) (.g 0)),oM 29 (cI 0)] [0,28,29])
(.block 2
(.loop
(.seq
(.reg 9 [oQ 30 (.bin .lss T29 (cI 7))] [0,28,29,30])
(.seq
(.cond T30
.skip
(.exit 2))
(.seq
(.block 3
(.seq
(.reg 10 [oQ 31 (.idx none 7 1 T28 T29),oM 6 T31] [0,6,28,29])
(.seq
(.reg 11 [oM 32 T0,oM 33 T6,oQ 34 (.bin .eql T32 T33)] [0,28,29,34])
(.cond T34
(.seq
(.reg 12 [oM 2 (cB false)] [2])
.ret)
.skip))))
(.reg 13 [oQ 35 (.bin .add T29 (cI 1)),oM 29 T35] [0,28,29])))))))
(.seq
(.reg 14 [oM 2 (cB true)] [2])
.ret)))))
theorem fok58:FOK Tryz.prog 58 (36,ic58,[(.t 2)]):=ai1 [] Tryz.func58
def ic59:IC :=
(.seq
(.reg 0 [oM 2 (cB false)] [0])
(.seq
(.reg 1 [oM 3 T0,oK 4 (.call 58 [T3]),oM 5 T4,gQ 6 5 true (.mov T0),gK 7 5 true (.call 83 [T6,(.c (.str [47]))]),oQ 8 (.pick T5 T7 (cB false)),oM 2 T8] [2])
.ret))
theorem fok59:FOK Tryz.prog 59 (9,ic59,[(.t 2)]):=ai1 [] Tryz.func59
def ic60:IC :=
(.seq
(.reg 0 [oK 2 (.aj8 T0),oM 4 (cB false)] [1,2])
(.seq
(.reg 1 [oQ 5 (.aa7 0 T2),oQ 6 (.load none T5),oQ 7 (.bin .geq T6 (cI 0)),oM 8 T7,gQ 9 8 true (.aa7 0 T2),gQ 10 8 true (.load none T9),gQ 11 8 true (.bin .leq T10 (cI 2147483647)),oQ 12 (.pick T8 T11 (cB false)),oM 13 T12,gQ 14 13 true (.aa7 1 T2),gQ 15 13 true (.load none T14),gK 16 13 true (.call 84 [T15]),oQ 17 (.pick T13 T16 (cB false)),oM 18 T17,gQ 19 18 true (.aa7 2 T2),gQ 20 18 true (.load none T19),gK 21 18 true (.call 84 [T20]),gQ 22 18 true (.mov T21),gQ 23 22 false (.mov T1),gQ 24 22 false (.mov T23),gQ 25 24 true (.aa7 2 T2),gQ 26 24 true (.load none T25),gQ 27 24 true (.bin .eql T26 (.c (.str []))),gQ 28 22 false (.pick T24 T27 (cB false)),gQ 29 18 true (.pick T22 (cB true) T28),oQ 30 (.pick T18 T29 (cB false)),oM 4 T30] [4])
.ret))
theorem fok60:FOK Tryz.prog 60 (31,ic60,[(.t 4)]):=ai1 [1000002] Tryz.func60
def ic61:IC :=
(.seq
(.reg 0 [oM 2 (.c (.str []))] [0])
(.seq
(.seq
(.reg 1 [oM 3 T0,oK 4 (.call 85 [T3]),oQ 5 (.not T4)] [0,5])
(.cond T5
(.seq
(.reg 2 [oM 2 (.c (.str []))] [2])
.ret)
.skip))
(.seq
(.reg 3 [oK 6 (.call 86 []),oM 7 T0,oQ 8 (.idx none 5 1 T6 T7),oM 2 T8] [2])
.ret)))
theorem fok61:FOK Tryz.prog 61 (9,ic61,[(.t 2)]):=ai1 [] Tryz.func61
def ic62:IC :=
(.seq
(.reg 0 [oK 5 (.aj8 T2),oM 6 (cB false)] [0,1,5])
(.seq
(.reg 1 [oM 7 T0,oQ 8 (.len 0 T7),oM 9 T1,oQ 10 (.bin .leq T8 T9),oM 11 T10,gQ 12 11 true (.mov T0),gQ 13 11 true (.mkf 87 [] [T5]),gK 14 11 true (.call 49 [T12,T13]),gQ 15 11 true (.not T14),oQ 16 (.pick T11 T15 (cB false)),oM 6 T16] [6])
.ret))
theorem fok62:FOK Tryz.prog 62 (17,ic62,[(.t 6)]):=ai1 [1000005] Tryz.func62
def ic63:IC :=
(.seq
(.reg 0 [oK 1 (.aj8 T0),oM 2 (cB false)] [1])
(.seq
(.block 0
(.seq
(.reg 1 [oQ 4 (.aa7 0 T1),oQ 5 (.load none T4),oK 6 (.call 58 [T5]),oQ 7 (.not T6),oM 8 T7,gQ 9 8 false (.aa7 1 T1),gQ 10 8 false (.load none T9),gK 11 8 false (.call 88 [T10]),gQ 12 8 false (.not T11),oQ 13 (.pick T8 (cB true) T12),oM 3 T13] [1,3])
(.cond T3
(.seq
(.reg 2 [oM 2 (cB false)] [2])
.ret)
(.seq
(.reg 3 [oQ 15 (.aa7 1 T1),oQ 16 (.load none T15),oQ 17 (.bin .eql T16 (.c (zU 0))),oM 14 T17] [1,14])
(.cond T14
(.seq
(.reg 4 [oQ 18 (.aa7 2 T1),oQ 19 (.load (some 3) T18),oQ 20 (.bld [(zI 0),(.str []),(.str [])] []),oQ 21 (.eqs [1,2,2] true false T19 T20),oM 2 T21] [2])
.ret)
.skip)))))
(.seq
(.reg 5 [oQ 22 (.aa7 0 T1),oQ 23 (.load none T22),oK 24 (.call 59 [T23]),oQ 25 (.not T24),oM 26 T25,gQ 27 26 true (.aa7 2 T1),gQ 28 26 true (.load (some 3) T27),gK 29 26 true (.call 60 [T28,(cB true)]),oQ 30 (.pick T26 T29 (cB false)),oM 2 T30] [2])
.ret)))
theorem fok63:FOK Tryz.prog 63 (31,ic63,[(.t 2)]):=ai1 [1000001] Tryz.func63
def ic64:IC :=
(.seq
(.reg 0 [oK 5 (.aj8 T2),oM 6 (cB false)] [0,1,5])
(.seq
(.reg 1 [oM 7 T0,oQ 8 (.len 0 T7),oM 9 T1,oQ 10 (.bin .leq T8 T9),oM 11 T10,gQ 12 11 true (.mov T0),gQ 13 11 true (.mkf 90 [] [T5]),gK 14 11 true (.call 89 [T12,T13]),gQ 15 11 true (.not T14),oQ 16 (.pick T11 T15 (cB false)),oM 6 T16] [6])
.ret))
theorem fok64:FOK Tryz.prog 64 (17,ic64,[(.t 6)]):=ai1 [1000005] Tryz.func64
def ic65:IC :=
(.seq
(.reg 0 [oK 1 (.aj8 T0),oM 2 (.c .ae4)] [1])
(.seq
(.reg 1 [oQ 3 (.mkf 91 [] [T1]),oM 2 T3] [2])
.ret))
theorem fok65:FOK Tryz.prog 65 (4,ic65,[(.t 2)]):=ai1 [1000001] Tryz.func65
def ic66:IC :=
(.seq
(.reg 0 [oK 5 (.aj8 T2),oM 6 (cB false)] [0,1,5])
(.seq
(.reg 1 [oM 7 T0,oQ 8 (.len 0 T7),oM 9 T1,oQ 10 (.bin .leq T8 T9),oM 11 T10,gQ 12 11 true (.mov T0),gQ 13 11 true (.mkf 93 [] [T5]),gK 14 11 true (.call 92 [T12,T13]),gQ 15 11 true (.not T14),oQ 16 (.pick T11 T15 (cB false)),oM 6 T16] [6])
.ret))
theorem fok66:FOK Tryz.prog 66 (17,ic66,[(.t 6)]):=ai1 [1000005] Tryz.func66
def ic67:IC :=
(.seq
(.reg 0 [oK 2 (.aj8 T0),oM 3 (cB false)] [1,2])
(.seq
(.reg 1 [oQ 4 (.load (some 7) T2),oQ 5 (.load none T1),oK 6 (.call 68 [T4,T5]),oQ 7 (.bin .eql T6 (cI 0)),oM 3 T7] [3])
.ret))
theorem fok67:FOK Tryz.prog 67 (8,ic67,[(.t 3)]):=ai1 [1000002] Tryz.func67
def ic68:IC :=
(.seq
(.reg 0 [oK 2 (.aj8 T0),oK 3 (.aj8 T1),oK 4 (.alloc [(zI 0)])] [2,3,4])
(.seq
(.block 0
(.seq
(.reg 1 [oQ 9 (.load none T3),oQ 10 (.bin .lss T9 (.c (zU 1))),oM 11 T10,gQ 12 11 false (.load none T3),gQ 13 11 false (.bin .gtr T12 (.c (zU 3))),oQ 14 (.pick T11 (cB true) T13),oM 8 T14] [2,3,4,8])
(.cond T8
(.seq
(.reg 2 [oN (.store 1 T4 (cI 1))] [4])
.ret)
(.seq
(.reg 3 [oQ 16 (.load (some 7) T2),oK 17 (.call 94 [T16]),oQ 18 (.bin .gtr T17 (cI 24)),oM 15 T18] [2,3,4,15])
(.cond T15
(.seq
(.reg 4 [oN (.store 1 T4 (cI 40))] [4])
.ret)
(.seq
(.reg 5 [oQ 20 (.load (some 7) T2),oK 21 (.call 95 [T20]),oQ 22 (.bin .gtr T21 (cI 8)),oM 19 T22] [2,3,4,19])
(.cond T19
(.seq
(.reg 6 [oN (.store 1 T4 (cI 21))] [4])
.ret)
.skip)))))))
(.seq
(.seq
(.reg 7 [oQ 23 (.load (some 7) T2),oK 24 (.call 96 [T23])] [3,4,24])
(.block 1
(.rfunc T24 [25,26]
(.seq
(.reg 8 [oK 5 (.alloc [(zU 0),(.str []),(zU 0),(zI 0),(.str []),(.str []),.aa1]),oN (.store 7 T5 T25)] [3,4,5,26])
(.reg 9 [oM 6 T26] [3,4,5,6]))
(.block 2
(.seq
(.reg 10 [oQ 27 (.aa7 0 T5),oQ 28 (.load none T27),oK 29 (.call 97 [T28]),oK 7 (.alloc [(zI 0),(zI 0),(.bool false),(zU 0)]),oN (.store 4 T7 T29)] [3,4,5,6,7])
(.block 3
(.seq
(.seq
(.reg 11 [oQ 31 (.aa7 3 T7),oQ 32 (.load none T31),oQ 33 (.load none T3),oQ 34 (.bin .lss T32 T33),oM 30 T34] [4,5,6,7,30])
(.cond T30
.skip
(.seq
(.reg 12 [oM 35 T6,oM 36 T35,gQ 37 36 true (.aa7 2 T7),gQ 38 36 true (.load none T37),gQ 39 36 true (.not T38),oQ 40 (.pick T36 T39 (cB false)),oM 30 T40] [4,5,7,30])
(.cond T30
.skip
(.seq
(.reg 13 [oQ 41 (.aa7 6 T5),oQ 42 (.load none T41),oQ 43 (.len 0 T42),oQ 44 (.aa7 0 T7),oQ 45 (.load none T44),oQ 46 (.bin .lss T43 T45),oM 30 T46] [4,5,7,30])
(.cond T30
.skip
(.reg 14 [oQ 47 (.aa7 6 T5),oQ 48 (.load none T47),oQ 49 (.len 0 T48),oQ 50 (.aa7 1 T7),oQ 51 (.load none T50),oQ 52 (.bin .gtr T49 T51),oM 30 T52] [4,5,30])))))))
(.cond T30
(.seq
(.reg 15 [oN (.store 1 T4 (cI 4))] [])
.ret)
(.seq
(.seq
(.reg 16 [oQ 54 (.aa7 0 T5),oQ 55 (.load none T54),oQ 56 (.bin .eql T55 (.c (zU 1))),oM 57 T56,gQ 58 57 true (.aa7 1 T5),gQ 59 57 true (.load (some 5) T58),gK 60 57 true (.call 63 [T59]),gQ 61 57 true (.not T60),oQ 62 (.pick T57 T61 (cB false)),oM 53 T62] [4,5,53])
(.cond T53
.skip
(.reg 17 [oQ 63 (.aa7 0 T5),oQ 64 (.load none T63),oQ 65 (.bin .neq T64 (.c (zU 1))),oM 66 T65,gQ 67 66 true (.aa7 1 T5),gQ 68 66 true (.load (some 5) T67),gQ 69 66 true (.bld [(.str []),(zU 0),(zI 0),(.str []),(.str [])] []),gQ 70 66 true (.eqs [2,1,1,2,2] true true T68 T69),oQ 71 (.pick T66 T70 (cB false)),oM 53 T71] [4,53])))
(.cond T53
(.seq
(.reg 18 [oN (.store 1 T4 (cI 4))] [])
.ret)
.skip))))))))))
(.seq
(.reg 19 [oN (.store 1 T4 (cI 0))] [4])
.ret))))
theorem fok68:FOK Tryz.prog 68 (72,ic68,[(.cell none 4)]):=ai1 [1000002,1000003] Tryz.func68
def ic69:IC :=
(.seq
(.reg 0 [oM 2 (cB false)] [0])
(.seq
(.seq
(.reg 1 [oM 3 T0,oQ 4 (.bin .geq T3 (.c (zU 97))),oM 5 T4,gQ 6 5 true (.mov T0),gQ 7 5 true (.bin .leq T6 (.c (zU 122))),oQ 8 (.pick T5 T7 (cB false)),oM 9 T8,gQ 10 9 false (.mov T0),gQ 11 9 false (.bin .geq T10 (.c (zU 65))),gQ 12 9 false (.mov T11),gQ 13 12 true (.mov T0),gQ 14 12 true (.bin .leq T13 (.c (zU 90))),gQ 15 9 false (.pick T12 T14 (cB false)),oQ 16 (.pick T9 (cB true) T15),oM 17 T16,gQ 18 17 false (.mov T0),gQ 19 17 false (.bin .geq T18 (.c (zU 48))),gQ 20 17 false (.mov T19),gQ 21 20 true (.mov T0),gQ 22 20 true (.bin .leq T21 (.c (zU 57))),gQ 23 17 false (.pick T20 T22 (cB false)),oQ 24 (.pick T17 (cB true) T23)] [0,24])
(.cond T24
(.seq
(.reg 2 [oM 2 (cB true)] [2])
.ret)
.skip))
(.seq
(.reg 3 [oM 25 T0,oQ 26 (.bin .eql T25 (.c (zU 46))),oM 27 T26,gQ 28 27 false (.mov T0),gQ 29 27 false (.bin .eql T28 (.c (zU 95))),oQ 30 (.pick T27 (cB true) T29),oM 31 T30,gQ 32 31 false (.mov T0),gQ 33 31 false (.bin .eql T32 (.c (zU 43))),oQ 34 (.pick T31 (cB true) T33),oM 35 T34,gQ 36 35 false (.mov T0),gQ 37 35 false (.bin .eql T36 (.c (zU 45))),oQ 38 (.pick T35 (cB true) T37),oM 39 T38,gQ 40 39 false (.mov T0),gQ 41 39 false (.bin .eql T40 (.c (zU 47))),oQ 42 (.pick T39 (cB true) T41),oM 43 T42,gQ 44 43 false (.mov T0),gQ 45 43 false (.bin .eql T44 (.c (zU 58))),oQ 46 (.pick T43 (cB true) T45),oM 47 T46,gQ 48 47 false (.mov T0),gQ 49 47 false (.bin .eql T48 (.c (zU 64))),oQ 50 (.pick T47 (cB true) T49),oM 51 T50,gQ 52 51 false (.mov T0),gQ 53 51 false (.bin .eql T52 (.c (zU 126))),oQ 54 (.pick T51 (cB true) T53),oM 55 T54,gQ 56 55 false (.mov T0),gQ 57 55 false (.bin .eql T56 (.c (zU 94))),oQ 58 (.pick T55 (cB true) T57),oM 2 T58] [2])
.ret)))
theorem fok69:FOK Tryz.prog 69 (59,ic69,[(.t 2)]):=ai1 [] Tryz.func69
def ic70:IC :=
(.seq
(.reg 0 [oM 2 (cB false)] [0])
(.seq
(.seq
(.reg 1 [oM 3 (cI 0)] [0,3])
(.block 0
(.loop
(.seq
(.seq
(.reg 2 [oM 7 T3,oM 8 T0,oQ 9 (.len 1 T8),oQ 10 (.bin .lss T7 T9)] [0,3,10])
(.cond T10
.skip
(.exit 0)))
(.seq
(.block 1
(.seq
(.reg 4 [oM 13 T0,oM 14 T3,oQ 15 (.ba9 T13 T14),oM 4 T15] [0,3,4])
(.seq
(.reg 5 [oM 16 T4,oQ 17 (.bin .geq T16 (.c (zU 97))),oM 18 T17,gQ 19 18 true (.mov T4),gQ 20 18 true (.bin .leq T19 (.c (zU 122))),oQ 21 (.pick T18 T20 (cB false)),oM 22 T21,gQ 23 22 false (.mov T4),gQ 24 22 false (.bin .geq T23 (.c (zU 65))),gQ 25 22 false (.mov T24),gQ 26 25 true (.mov T4),gQ 27 25 true (.bin .leq T26 (.c (zU 90))),gQ 28 22 false (.pick T25 T27 (cB false)),oQ 29 (.pick T22 (cB true) T28),oM 5 T29] [0,3,4,5])
(.seq
(.reg 6 [oM 30 T4,oQ 31 (.bin .geq T30 (.c (zU 48))),oM 32 T31,gQ 33 32 true (.mov T4),gQ 34 32 true (.bin .leq T33 (.c (zU 57))),oQ 35 (.pick T32 T34 (cB false)),oM 6 T35] [0,3,4,5,6])
(.seq
(.reg 7 [oM 36 T5,oQ 37 (.not T36),oM 38 T37,gQ 39 38 true (.mov T6),gQ 40 38 true (.not T39),oQ 41 (.pick T38 T40 (cB false)),oM 42 T41,gQ 43 42 true (.mov T4),gQ 44 42 true (.bin .neq T43 (.c (zU 46))),oQ 45 (.pick T42 T44 (cB false)),oM 46 T45,gQ 47 46 true (.mov T4),gQ 48 46 true (.bin .neq T47 (.c (zU 95))),oQ 49 (.pick T46 T48 (cB false)),oM 50 T49,gQ 51 50 true (.mov T4),gQ 52 50 true (.bin .neq T51 (.c (zU 43))),oQ 53 (.pick T50 T52 (cB false)),oM 54 T53,gQ 55 54 true (.mov T4),gQ 56 54 true (.bin .neq T55 (.c (zU 126))),oQ 57 (.pick T54 T56 (cB false)),oM 58 T57,gQ 59 58 true (.mov T4),gQ 60 58 true (.bin .neq T59 (.c (zU 94))),oQ 61 (.pick T58 T60 (cB false))] [0,3,61])
(.cond T61
(.seq
(.reg 8 [oM 2 (cB false)] [2])
.ret)
.skip))))))
(.reg 3 [oM 11 T3,oQ 12 (.bin .add T11 (cI 1)),oM 3 T12] [0,3]))))))
(.seq
(.reg 9 [oM 62 T0,oQ 63 (.len 1 T62),oQ 64 (.bin .geq T63 (cI 1)),oM 65 T64,gQ 66 65 true (.mov T0),gQ 67 65 true (.len 1 T66),gQ 68 65 true (.bin .leq T67 (cI 64)),oQ 69 (.pick T65 T68 (cB false)),oM 2 T69] [2])
.ret)))
theorem fok70:FOK Tryz.prog 70 (70,ic70,[(.t 2)]):=ai1 [] Tryz.func70
def ic71:IC :=
(.seq
(.reg 0 [oK 1 (.aj8 T0),oM 2 (cB false)] [1])
(.seq
(.seq
(.reg 1 [oQ 3 (.aa7 0 T1),oQ 4 (.load none T3),oK 5 (.call 39 [T4]),oQ 6 (.not T5),oM 7 T6,gQ 8 7 false (.aa7 1 T1),gQ 9 7 false (.load none T8),gK 10 7 false (.call 98 [T9]),gQ 11 7 false (.not T10),oQ 12 (.pick T7 (cB true) T11)] [1,12])
(.cond T12
(.seq
(.reg 2 [oM 2 (cB false)] [2])
.ret)
.skip))
(.seq
(.seq
(.reg 3 [oQ 13 (.aa7 1 T1),oQ 14 (.load none T13),oQ 15 (.bin .eql T14 (.c (zU 0)))] [1,15])
(.cond T15
(.seq
(.reg 4 [oQ 16 (.aa7 2 T1),oQ 17 (.load (some 3) T16),oQ 18 (.bld [(zI 0),(.str []),(.str [])] []),oQ 19 (.eqs [1,2,2] true false T17 T18),oM 2 T19] [2])
.ret)
.skip))
(.seq
(.reg 5 [oQ 20 (.aa7 0 T1),oQ 21 (.load none T20),oK 22 (.call 40 [T21]),oQ 23 (.not T22),oM 24 T23,gQ 25 24 true (.aa7 2 T1),gQ 26 24 true (.load (some 3) T25),gK 27 24 true (.call 41 [T26,(cB true)]),oQ 28 (.pick T24 T27 (cB false)),oM 2 T28] [2])
.ret))))
theorem fok71:FOK Tryz.prog 71 (29,ic71,[(.t 2)]):=ai1 [1000001] Tryz.func71
def ic72:IC :=
(.seq
(.reg 0 [oK 2 (.aj8 T0),oM 4 (cI 0)] [1,2])
(.seq
(.seq
(.reg 1 [oM 5 T1,oQ 6 (.bin .lss T5 (.c (zU 1))),oM 7 T6,gQ 8 7 false (.mov T1),gQ 9 7 false (.bin .gtr T8 (.c (zU 3))),oQ 10 (.pick T7 (cB true) T9)] [1,2,10])
(.cond T10
(.seq
(.reg 2 [oM 4 (cI 1)] [4])
.ret)
.skip))
(.seq
(.seq
(.reg 3 [oQ 11 (.load (some 7) T2),oK 12 (.call 99 [T11]),oQ 13 (.bin .gtr T12 (cI 24))] [1,2,13])
(.cond T13
(.seq
(.reg 4 [oM 4 (cI 40)] [4])
.ret)
.skip))
(.seq
(.seq
(.reg 5 [oQ 14 (.load (some 7) T2),oK 15 (.call 100 [T14]),oQ 16 (.bin .gtr T15 (cI 8))] [1,2,16])
(.cond T16
(.seq
(.reg 6 [oM 4 (cI 21)] [4])
.ret)
.skip))
(.seq
(.seq
(.reg 7 [oQ 17 (.load (some 7) T2),oM 18 T1,oK 19 (.call 101 [T17,T18,(cB false)]),oQ 20 (.not T19)] [20])
(.cond T20
(.seq
(.reg 8 [oM 4 (cI 4)] [4])
.ret)
.skip))
(.seq
(.reg 9 [oM 4 (cI 0)] [4])
.ret))))))
theorem fok72:FOK Tryz.prog 72 (21,ic72,[(.t 4)]):=ai1 [1000002] Tryz.func72
def ic73:IC :=
(.seq
(.reg 0 [oK 1 (.aj8 T0),oK 2 (.alloc [(zU 0),(.str []),(zU 0),(zI 0),(.str []),(.str []),.aa1])] [1,2])
(.seq
(.reg 1 [oQ 5 (.aa7 0 T1),oQ 6 (.load none T5),oQ 7 (.aa7 1 T1),oQ 8 (.load (some 5) T7),oQ 9 (.bld [(zU 0),(.str []),(zU 0),(zI 0),(.str []),(.str []),.aa1] [⟨0,⟨1,T6⟩⟩,⟨1,⟨5,T8⟩⟩]),oK 3 (.alloc [(zU 0),(.str []),(zU 0),(zI 0),(.str []),(.str []),.aa1]),oN (.store 7 T3 T9)] [1,2,3])
(.seq
(.seq
(.reg 2 [oM 4 (cI 0)] [1,2,3,4])
(.block 0
(.loop
(.seq
(.seq
(.reg 3 [oM 10 T4,oQ 11 (.aa7 6 T1),oQ 12 (.load none T11),oQ 13 (.len 0 T12),oQ 14 (.bin .lss T10 T13)] [1,2,3,4,14])
(.cond T14
.skip
(.exit 0)))
(.seq
(.block 1
(.dreg 5 [oQ 17 (.aa7 6 T3),oQ 18 (.load none T17),oQ 19 (.aa7 6 T1),oQ 20 (.load none T19),oM 21 T4,oQ 22 (.ab5 7 T20 T21),oQ 23 (.load (some 7) T22),oK 24 (.ae7 73 [T23]),oK 25 (.as5 7 1 [(zU 0),(.str []),(zU 0),(zI 0),(.str []),(.str []),.aa1] [⟨0,⟨7,T24⟩⟩]),oK 26 (.app 7 T18 T25),oQ 27 (.aa7 6 T3),oN (.store 1 T27 T26)] true [1,2,3,4]))
(.reg 4 [oM 15 T4,oQ 16 (.bin .add T15 (cI 1)),oM 4 T16] [1,2,3,4]))))))
(.seq
(.reg 6 [oQ 28 (.load (some 7) T3),oN (.store 7 T2 T28)] [2])
.ret))))
theorem fok73:FOK Tryz.prog 73 (29,ic73,[(.cell (some 7) 2)]):=ai1 ([1000001,1000025]++ii9) Tryz.func73
def ic74:IC :=
(.seq
(.reg 0 [oK 2 (.box T0),oM 4 (.c .aa1)] [1,2,4])
(.seq
(.seq
(.reg 1 [oM 6 T1] [2,4,6])
(.block 0
(.rfunc T6 [7]
(.reg 2 [oM 5 T7] [2,5])
(.block 1
(.reg 3 [oQ 8 (.load none T2),oM 9 T5,oK 10 (.as5 1 1 [(.str [])] [⟨0,⟨1,T9⟩⟩]),oK 11 (.app 1 T8 T10),oN (.store 1 T2 T11)] [])))))
(.seq
(.reg 4 [oQ 12 (.load none T2),oM 4 T12] [4])
.ret)))
theorem fok74:FOK Tryz.prog 74 (13,ic74,[(.t 4)]):=ai1 [1000010] Tryz.func74
def ic75:IC :=
(.seq
(.reg 0 [oM 8 (cB true)] [0,1,2,3,8])
(.seq
(.reg 1 [oM 9 (cB true)] [0,1,2,3,8,9])
(.block 0
(.loop
(.block 1
(.seq
(.reg 2 [oM 19 T2,oM 20 T1,oQ 21 (.bin .sub T19 T20),oM 10 T21] [0,1,2,3,8,9,10])
(.seq
(.seq
(.reg 3 [oM 22 T10,oQ 23 (.bin .leq T22 (cI 12))] [0,1,2,3,8,9,10,23])
(.cond T23
(.seq
(.reg 4 [oM 24 T0,oM 25 T1,oM 26 T2,oK 27 (.call 102 [T24,T25,T26])] [])
.ret)
.skip))
(.seq
(.seq
(.reg 5 [oM 28 T3,oQ 29 (.bin .eql T28 (cI 0))] [0,1,2,3,8,9,10,29])
(.cond T29
(.seq
(.reg 6 [oM 30 T0,oM 31 T1,oM 32 T2,oK 33 (.call 103 [T30,T31,T32])] [])
.ret)
.skip))
(.seq
(.seq
(.reg 7 [oM 34 T8,oQ 35 (.not T34)] [0,1,2,3,8,9,10,35])
(.cond T35
(.seq
(.reg 8 [oM 36 T0,oM 37 T1,oM 38 T2,oK 39 (.call 104 [T36,T37,T38])] [0,1,2,3,8,9,10])
(.reg 9 [oM 40 T3,oQ 41 (.bin .sub T40 (cI 1)),oM 3 T41] [0,1,2,3,8,9,10]))
.skip))
(.seq
(.reg 10 [oM 43 T0,oM 44 T1,oM 45 T2,oK 46 (.call 105 [T43,T44,T45]),oM 42 T46,oQ 47 (.ext 0 T42),oQ 48 (.ext 1 T42),oM 11 T47,oM 12 T48] [0,1,2,3,8,9,10,11,12])
(.seq
(.seq
(.reg 11 [oM 49 T12,oQ 50 (.bin .eql T49 (cI 2))] [0,1,2,3,8,9,10,11,12,50])
(.cond T50
(.seq
(.reg 12 [oM 51 T0,oM 52 T1,oM 53 T2,oK 54 (.call 106 [T51,T52,T53])] [0,1,2,3,8,9,10,11])
(.seq
(.reg 13 [oM 55 T2,oQ 56 (.bin .sub T55 (cI 1)),oM 57 T11,oM 58 T1,oQ 59 (.bin .sub T57 T58),oQ 60 (.bin .sub T56 T59),oM 11 T60] [0,1,2,3,8,9,10,11])
(.reg 14 [oM 12 (cI 1)] [0,1,2,3,8,9,10,11,12])))
.skip))
(.seq
(.seq
(.reg 15 [oM 61 T8,oM 62 T61,gQ 63 62 true (.mov T9),oQ 64 (.pick T62 T63 (cB false)),oM 65 T64,gQ 66 65 true (.mov T12),gQ 67 65 true (.bin .eql T66 (cI 1)),oQ 68 (.pick T65 T67 (cB false))] [0,1,2,3,8,9,10,11,68])
(.cond T68
(.seq
(.reg 16 [oM 69 T0,oM 70 T1,oM 71 T2,oK 72 (.call 107 [T69,T70,T71])] [0,1,2,3,8,9,10,11,72])
(.cond T72
.ret
.skip))
.skip))
(.seq
(.seq
(.dreg 17 [oM 73 T1,oQ 74 (.bin .gtr T73 (cI 0)),oM 75 T74,gQ 76 75 true (.mov T0),gQ 77 75 true (.mov T1),gQ 78 75 true (.bin .sub T77 (cI 1)),gQ 79 75 true (.ab5 1 T76 T78),gQ 80 75 true (.load none T79),gQ 81 75 true (.mov T0),gQ 82 75 true (.mov T11),gQ 83 75 true (.ab5 1 T81 T82),gQ 84 75 true (.load none T83),gK 85 75 true (.call 108 [T80,T84]),gQ 86 75 true (.not T85),oQ 87 (.pick T75 T86 (cB false))] false [0,1,2,3,8,9,10,11,87])
(.cond T87
(.seq
(.reg 18 [oM 88 T0,oM 89 T1,oM 90 T2,oM 91 T11,oK 92 (.call 109 [T88,T89,T90,T91]),oM 13 T92] [0,2,3,8,9,13])
(.seq
(.reg 19 [oM 93 T13,oM 1 T93] [0,1,2,3,8,9])
(.exit 1)))
.skip))
(.seq
(.reg 20 [oM 95 T0,oM 96 T1,oM 97 T2,oM 98 T11,oK 99 (.call 110 [T95,T96,T97,T98]),oM 94 T99,oQ 100 (.ext 0 T94),oQ 101 (.ext 1 T94),oM 14 T100,oM 15 T101] [0,1,2,3,10,14,15])
(.seq
(.reg 21 [oM 102 T15,oM 9 T102] [0,1,2,3,9,10,14])
(.seq
(.reg 22 [oM 103 T14,oM 104 T1,oQ 105 (.bin .sub T103 T104),oM 106 T2,oM 107 T14,oQ 108 (.bin .sub T106 T107),oM 16 T105,oM 17 T108] [0,1,2,3,9,10,14,16,17])
(.seq
(.reg 23 [oM 109 T10,oQ 110 (.bin .quo T109 (cI 8)),oM 18 T110] [0,1,2,3,9,14,16,17,18])
(.seq
(.reg 24 [oM 111 T16,oM 112 T17,oQ 113 (.bin .lss T111 T112)] [0,1,2,3,9,14,16,17,18,113])
(.cond T113
(.seq
(.reg 25 [oM 114 T16,oM 115 T18,oQ 116 (.bin .geq T114 T115),oM 8 T116] [0,1,2,3,8,9,14])
(.seq
(.reg 26 [oM 117 T0,oM 118 T1,oM 119 T14,oM 120 T3,oK 121 (.call 75 [T117,T118,T119,T120])] [0,2,3,8,9,14])
(.reg 27 [oM 122 T14,oQ 123 (.bin .add T122 (cI 1)),oM 1 T123] [0,1,2,3,8,9])))
(.seq
(.reg 28 [oM 124 T17,oM 125 T18,oQ 126 (.bin .geq T124 T125),oM 8 T126] [0,1,2,3,8,9,14])
(.seq
(.reg 29 [oM 127 T0,oM 128 T14,oQ 129 (.bin .add T128 (cI 1)),oM 130 T2,oM 131 T3,oK 132 (.call 75 [T127,T129,T130,T131])] [0,1,3,8,9,14])
(.reg 30 [oM 133 T14,oM 2 T133] [0,1,2,3,8,9]))))))))))))))))))))))
theorem fok75:FOK Tryz.prog 75 (134,ic75,[]):=ai1 [] Tryz.func75
def ic76:IC :=
(.seq
(.reg 0 [oM 2 (cI 0)] [0])
(.seq
(.cond (cB false)
(.seq
(.reg 1 [oM 3 T0,oQ 4 (.conv .u32 T3),oK 5 (.call 111 [T4]),oM 2 T5] [2])
.ret)
.skip)
(.seq
(.reg 2 [oM 6 T0,oK 7 (.call 112 [T6]),oM 2 T7] [2])
.ret)))
theorem fok76:FOK Tryz.prog 76 (8,ic76,[(.t 2)]):=ai1 [] Tryz.func76
def ic77:IC :=
(.seq
(.reg 0 [oM 4 (cI 0)] [0,1])
(.seq
(.seq
(.reg 1 [oM 6 T0,oQ 7 (.len 0 T6),oM 8 (cI 0)] [0,1,7,8])
(.block 0
(.loop
(.seq
(.reg 2 [oQ 9 (.bin .lss T8 T7)] [0,1,7,8,9])
(.seq
(.cond T9
.skip
(.exit 0))
(.seq
(.block 1
(.seq
(.reg 3 [oM 10 T8,oM 5 T10] [0,1,5,7,8])
(.seq
(.reg 4 [oM 11 T1,oM 12 T0,oM 13 T5,oQ 14 (.ab5 5 T12 T13),oQ 15 (.load (some 5) T14),oK 16 (.ap5 T11 [T15])] [0,1,5,7,8,16])
(.cond T16
(.seq
(.reg 5 [oM 17 T5,oM 4 T17] [4])
.ret)
.skip))))
(.reg 6 [oQ 18 (.bin .add T8 (cI 1)),oM 8 T18] [0,1,7,8])))))))
(.seq
(.reg 7 [oM 4 (cI (-1))] [4])
.ret)))
theorem fok77:FOK Tryz.prog 77 (19,ic77,[(.t 4)]):=ai1 [] Tryz.func77
def ic78:IC :=
(.seq
(.reg 0 [oK 2 (.aj8 T0),oK 3 (.aj8 T1),oM 4 (cB false)] [2,3])
(.seq
(.reg 1 [oQ 5 (.aa7 0 T2),oQ 6 (.load none T5),oQ 7 (.aa7 0 T3),oQ 8 (.load none T7),oQ 9 (.bin .eql T6 T8),oM 10 T9,gQ 11 10 true (.load (some 5) T2),gQ 12 10 true (.load (some 5) T3),gK 13 10 true (.call 113 [T11,T12]),oQ 14 (.pick T10 T13 (cB false)),oM 4 T14] [4])
.ret))
theorem fok78:FOK Tryz.prog 78 (15,ic78,[(.t 4)]):=ai1 [1000002,1000003] Tryz.func78
def ic79:IC :=
(.seq
(.reg 0 [oK 1 (.aj8 T0),oK 2 (.alloc [(.str []),(zU 0),(zI 0),(.str []),(.str [])])] [1,2])
(.seq
(.reg 1 [oQ 3 (.aa7 0 T1),oQ 4 (.load none T3),oQ 5 (.aa7 1 T1),oQ 6 (.load (some 3) T5),oK 7 (.call 114 [T4,T6]),oN (.store 5 T2 T7)] [2])
.ret))
theorem fok79:FOK Tryz.prog 79 (8,ic79,[(.cell (some 5) 2)]):=ai1 [1000001] Tryz.func79
def ic80:IC :=
(.seq
(.reg 0 [oK 2 (.aj8 T0),oK 3 (.aj8 T1),oM 4 (cB false)] [2,3])
(.seq
(.seq
(.reg 1 [oQ 6 (.aa7 1 T2),oQ 7 (.load none T6),oQ 8 (.bin .rem T7 (.c (zU 8))),oQ 9 (.bin .eql T8 (.c (zU 0))),oM 10 T9,gQ 11 10 false (.aa7 1 T3),gQ 12 10 false (.load none T11),gQ 13 10 false (.bin .rem T12 (.c (zU 8))),gQ 14 10 false (.bin .eql T13 (.c (zU 0))),oQ 15 (.pick T10 (cB true) T14)] [2,3,15])
(.cond T15
(.seq
(.reg 2 [oM 4 (cB true)] [4])
.ret)
.skip))
(.seq
(.reg 3 [oQ 16 (.aa7 2 T2),oQ 17 (.load (some 3) T16),oQ 18 (.aa7 2 T3),oQ 19 (.load (some 3) T18),oK 20 (.call 115 [T17,T19]),oM 5 T20] [2,3,5])
(.seq
(.seq
(.reg 4 [oM 21 T5,oQ 22 (.bin .lss T21 (cI 0))] [2,3,5,22])
(.cond T22
(.seq
(.reg 5 [oQ 23 (.aa7 1 T2),oQ 24 (.load none T23),oQ 25 (.bin .and T24 (.c (zU 4))),oQ 26 (.bin .neq T25 (.c (zU 0))),oM 27 T26,gQ 28 27 false (.aa7 1 T3),gQ 29 27 false (.load none T28),gQ 30 27 false (.bin .and T29 (.c (zU 1))),gQ 31 27 false (.bin .neq T30 (.c (zU 0))),oQ 32 (.pick T27 (cB true) T31),oM 4 T32] [4])
.ret)
.skip))
(.seq
(.seq
(.reg 6 [oM 33 T5,oQ 34 (.bin .gtr T33 (cI 0))] [2,3,34])
(.cond T34
(.seq
(.reg 7 [oQ 35 (.aa7 1 T2),oQ 36 (.load none T35),oQ 37 (.bin .and T36 (.c (zU 1))),oQ 38 (.bin .neq T37 (.c (zU 0))),oM 39 T38,gQ 40 39 false (.aa7 1 T3),gQ 41 39 false (.load none T40),gQ 42 39 false (.bin .and T41 (.c (zU 4))),gQ 43 39 false (.bin .neq T42 (.c (zU 0))),oQ 44 (.pick T39 (cB true) T43),oM 4 T44] [4])
.ret)
.skip))
(.seq
(.reg 8 [oQ 45 (.aa7 1 T2),oQ 46 (.load none T45),oQ 47 (.aa7 1 T3),oQ 48 (.load none T47),oQ 49 (.bin .and T46 T48),oQ 50 (.bin .and T49 (.c (zU 7))),oQ 51 (.bin .neq T50 (.c (zU 0))),oM 4 T51] [4])
.ret))))))
theorem fok80:FOK Tryz.prog 80 (52,ic80,[(.t 4)]):=ai1 [1000002,1000003] Tryz.func80
def ic81:IC :=
(.seq
(.reg 0 [oK 1 (.aj8 T0),oK 2 (.alloc [(.str []),(zU 0),(zI 0),(.str []),(.str [])])] [1,2])
(.seq
(.reg 1 [oQ 3 (.aa7 0 T1),oQ 4 (.load none T3),oQ 5 (.aa7 1 T1),oQ 6 (.load (some 3) T5),oK 7 (.call 116 [T4,T6]),oN (.store 5 T2 T7)] [2])
.ret))
theorem fok81:FOK Tryz.prog 81 (8,ic81,[(.cell (some 5) 2)]):=ai1 [1000001] Tryz.func81
def ic82:IC :=
(.seq
(.reg 0 [oM 4 (cI 0)] [0,1])
(.seq
(.reg 1 [oM 5 T0,oM 6 T1,oK 7 (.call 117 [T5,T6]),oM 4 T7] [4])
.ret))
theorem fok82:FOK Tryz.prog 82 (8,ic82,[(.t 4)]):=ai1 [] Tryz.func82
def ic83:IC :=
(.seq
(.reg 0 [oM 4 (cB false)] [0,1])
(.seq
(.reg 1 [oM 5 T0,oM 6 T1,oK 7 (.call 118 [T5,T6]),oM 4 T7] [4])
.ret))
theorem fok83:FOK Tryz.prog 83 (8,ic83,[(.t 4)]):=ai1 [] Tryz.func83
def ic84:IC :=
(.seq
(.reg 0 [oM 2 (cB false)] [0])
(.seq
(.seq
(.reg 1 [oM 5 T0,oQ 6 (.bin .eql T5 (.c (.str []))),oM 7 T6,gQ 8 7 false (.mov T0),gQ 9 7 false (.len 1 T8),gQ 10 7 false (.bin .gtr T9 (cI 64)),oQ 11 (.pick T7 (cB true) T10)] [0,11])
(.cond T11
(.seq
(.reg 2 [oM 2 (cB false)] [2])
.ret)
.skip))
(.seq
(.seq
(.reg 3 [oM 12 T0,oQ 13 (.len 1 T12),oM 14 (cI 0)] [0,13,14])
(.block 0
(.loop
(.seq
(.reg 4 [oQ 15 (.bin .lss T14 T13)] [0,13,14,15])
(.seq
(.cond T15
.skip
(.exit 0))
(.seq
(.block 1
(.seq
(.reg 5 [oM 16 T14,oM 3 T16] [0,3,13,14])
(.seq
(.reg 6 [oM 17 T0,oM 18 T3,oQ 19 (.ba9 T17 T18),oM 4 T19] [0,4,13,14])
(.block 2
(.seq
(.seq
(.reg 8 [oM 21 T4,oQ 22 (.bin .geq T21 (.c (zU 97))),oM 23 T22,gQ 24 23 true (.mov T4),gQ 25 23 true (.bin .leq T24 (.c (zU 122))),oQ 26 (.pick T23 T25 (cB false)),oM 20 T26] [0,4,13,14,20])
(.cond T20
.skip
(.seq
(.reg 9 [oM 27 T4,oQ 28 (.bin .geq T27 (.c (zU 65))),oM 29 T28,gQ 30 29 true (.mov T4),gQ 31 29 true (.bin .leq T30 (.c (zU 90))),oQ 32 (.pick T29 T31 (cB false)),oM 20 T32] [0,4,13,14,20])
(.cond T20
.skip
(.seq
(.reg 10 [oM 33 T4,oQ 34 (.bin .geq T33 (.c (zU 48))),oM 35 T34,gQ 36 35 true (.mov T4),gQ 37 35 true (.bin .leq T36 (.c (zU 57))),oQ 38 (.pick T35 T37 (cB false)),oM 20 T38] [0,4,13,14,20])
(.cond T20
.skip
(.reg 11 [oM 39 T4,oK 40 (.call 82 [(.c (.str [46,95,43,126,94])),T39]),oQ 41 (.bin .geq T40 (cI 0)),oM 20 T41] [0,13,14,20])))))))
(.cond T20
.skip
(.seq
(.reg 7 [oM 2 (cB false)] [2])
.ret)))))))
(.reg 12 [oQ 42 (.bin .add T14 (cI 1)),oM 14 T42] [0,13,14])))))))
(.seq
(.reg 13 [oM 2 (cB true)] [2])
.ret))))
theorem fok84:FOK Tryz.prog 84 (43,ic84,[(.t 2)]):=ai1 [] Tryz.func84
def ic85:IC :=
(.seq
(.reg 0 [oM 2 (cB false)] [0])
(.seq
(.reg 1 [oM 3 T0,oQ 4 (.bin .geq T3 (.c (zU 1))),oM 5 T4,gQ 6 5 true (.mov T0),gQ 7 5 true (.bin .leq T6 (.c (zU 4))),oQ 8 (.pick T5 T7 (cB false)),oM 2 T8] [2])
.ret))
theorem fok85:FOK Tryz.prog 85 (9,ic85,[(.t 2)]):=ai1 [] Tryz.func85
def ic86:IC :=
(.seq
(.reg 0 [oK 0 (.alloc [(.str []),(.str []),(.str []),(.str []),(.str [])])] [0])
(.seq
(.reg 1 [oQ 1 (.bld [(.str []),(.str []),(.str []),(.str []),(.str [])] [⟨1,⟨1,(.c (.str [110,111,97,114,99,104]))⟩⟩,⟨2,⟨1,(.c (.str [120,56,54,95,54,52]))⟩⟩,⟨3,⟨1,(.c (.str [105,54,56,54]))⟩⟩,⟨4,⟨1,(.c (.str [97,97,114,99,104,54,52]))⟩⟩]),oN (.store 5 T0 T1)] [0])
.ret))
theorem fok86:FOK Tryz.prog 86 (2,ic86,[(.cell (some 5) 0)]):=ai1 [] Tryz.func86
def ic87:IC :=
(.seq
(.reg 0 [oK 2 (.aj8 T0),oM 3 (cB false)] [1,2])
(.seq
(.reg 1 [oQ 4 (.load none T1),oQ 5 (.load (some 5) T2),oK 6 (.ap5 T4 [T5]),oQ 7 (.not T6),oM 3 T7] [3])
.ret))
theorem fok87:FOK Tryz.prog 87 (8,ic87,[(.t 3)]):=ai1 [1000002] Tryz.func87
def ic88:IC :=
(.seq
(.reg 0 [oM 2 (cB false)] [0])
(.seq
(.reg 1 [oM 3 T0,oQ 4 (.bin .eql T3 (.c (zU 0))),oM 5 T4,gQ 6 5 false (.mov T0),gK 7 5 false (.call 119 [T6]),gQ 8 5 false (.bin .neq T7 (.c (.str []))),oQ 9 (.pick T5 (cB true) T8),oM 2 T9] [2])
.ret))
theorem fok88:FOK Tryz.prog 88 (10,ic88,[(.t 2)]):=ai1 [] Tryz.func88
def ic89:IC :=
(.seq
(.reg 0 [oM 4 (cB false)] [0,1])
(.seq
(.reg 1 [oM 5 T0,oM 6 T1,oK 7 (.call 120 [T5,T6]),oQ 8 (.bin .geq T7 (cI 0)),oM 4 T8] [4])
.ret))
theorem fok89:FOK Tryz.prog 89 (9,ic89,[(.t 4)]):=ai1 [] Tryz.func89
def ic90:IC :=
(.seq
(.reg 0 [oM 3 (cB false)] [0,1])
(.seq
(.reg 1 [oQ 4 (.load none T1),oM 5 T0,oK 6 (.ap5 T4 [T5]),oQ 7 (.not T6),oM 3 T7] [3])
.ret))
theorem fok90:FOK Tryz.prog 90 (8,ic90,[(.t 3)]):=ai1 [] Tryz.func90
def ic91:IC :=
(.reg 0 [oM 3 T0,oQ 4 (.aa7 7 T1),oQ 5 (.load none T4),oK 6 (.ap5 T3 [(.c (zU 1)),T5]),oM 7 T6,gQ 8 7 true (.mov T0),gQ 9 7 true (.aa7 8 T1),gQ 10 7 true (.load none T9),gK 11 7 true (.ap5 T8 [(.c (zU 2)),T10]),oQ 12 (.pick T7 T11 (cB false)),oM 13 T12,gQ 14 13 true (.mov T0),gQ 15 13 true (.aa7 10 T1),gQ 16 13 true (.load none T15),gK 17 13 true (.ap5 T14 [(.c (zU 1)),T16]),oQ 18 (.pick T13 T17 (cB false)),oM 19 T18,gQ 20 19 true (.mov T0),gQ 21 19 true (.aa7 11 T1),gQ 22 19 true (.load none T21),gK 23 19 true (.ap5 T20 [(.c (zU 3)),T22]),oQ 24 (.pick T19 T23 (cB false)),oM 25 T24,gQ 26 25 true (.mov T0),gQ 27 25 true (.aa7 12 T1),gQ 28 25 true (.load none T27),gK 29 25 true (.ap5 T26 [(.c (zU 1)),T28]),oQ 30 (.pick T25 T29 (cB false)),oM 31 T30,gQ 32 31 true (.mov T0),gQ 33 31 true (.aa7 13 T1),gQ 34 31 true (.load none T33),gK 35 31 true (.ap5 T32 [(.c (zU 3)),T34]),oQ 36 (.pick T31 T35 (cB false))] [])
theorem fok91:FOK Tryz.prog 91 (37,ic91,[]):=ai1 [] Tryz.func91
def ic92:IC :=
(.seq
(.reg 0 [oM 4 (cB false)] [0,1])
(.seq
(.reg 1 [oM 5 T0,oM 6 T1,oK 7 (.call 121 [T5,T6]),oQ 8 (.bin .geq T7 (cI 0)),oM 4 T8] [4])
.ret))
theorem fok92:FOK Tryz.prog 92 (9,ic92,[(.t 4)]):=ai1 [] Tryz.func92
def ic93:IC :=
(.seq
(.reg 0 [oK 2 (.aj8 T0),oM 3 (cB false)] [1,2])
(.seq
(.reg 1 [oQ 4 (.load none T1),oQ 5 (.load (some 7) T2),oK 6 (.ap5 T4 [T5]),oQ 7 (.not T6),oM 3 T7] [3])
.ret))
theorem fok93:FOK Tryz.prog 93 (8,ic93,[(.t 3)]):=ai1 [1000002] Tryz.func93
def ic94:IC :=
(.seq
(.reg 0 [oK 1 (.aj8 T0),oM 2 (cI 0)] [1,2])
(.seq
(.reg 1 [oK 3 (.alloc [(zI 0)]),oN (.store 1 T3 (cI 0))] [1,2,3])
(.seq
(.seq
(.reg 2 [oQ 4 (.load (some 7) T1),oK 5 (.call 96 [T4])] [2,3,5])
(.block 0
(.rfunc T5 [6,7]
.skip
(.block 1
(.reg 3 [oQ 8 (.load none T3),oQ 9 (.bin .add T8 (cI 1)),oN (.store 1 T3 T9)] [])))))
(.seq
(.reg 4 [oQ 10 (.load none T3),oM 2 T10] [2])
.ret))))
theorem fok94:FOK Tryz.prog 94 (11,ic94,[(.t 2)]):=ai1 [1000001] Tryz.func94
def ic95:IC :=
(.seq
(.reg 0 [oK 1 (.aj8 T0),oM 2 (cI 0)] [1])
(.seq
(.seq
(.reg 1 [oQ 6 (.aa7 0 T1),oQ 7 (.load none T6),oQ 8 (.bin .eql T7 (.c (zU 1)))] [1,8])
(.cond T8
(.seq
(.reg 2 [oM 2 (cI 0)] [2])
.ret)
.skip))
(.seq
(.reg 3 [oM 3 (cI 0)] [1,3])
(.seq
(.seq
(.reg 4 [oQ 9 (.aa7 6 T1),oQ 10 (.load none T9),oQ 11 (.len 0 T10),oM 12 (cI 0)] [3,10,11,12])
(.block 0
(.loop
(.seq
(.reg 5 [oQ 13 (.bin .lss T12 T11)] [3,10,11,12,13])
(.seq
(.cond T13
.skip
(.exit 0))
(.seq
(.block 1
(.seq
(.reg 6 [oQ 14 (.ab5 7 T10 T12),oQ 15 (.load (some 7) T14),oK 5 (.alloc [(zU 0),(.str []),(zU 0),(zI 0),(.str []),(.str []),.aa1]),oN (.store 7 T5 T15)] [3,5,10,11,12])
(.reg 7 [oM 16 T3,oQ 17 (.load (some 7) T5),oK 18 (.call 95 [T17]),oQ 19 (.mm true T16 T18),oM 3 T19] [3,10,11,12])))
(.reg 8 [oQ 20 (.bin .add T12 (cI 1)),oM 12 T20] [3,10,11,12])))))))
(.seq
(.reg 9 [oM 21 T3,oQ 22 (.bin .add T21 (cI 1)),oM 2 T22] [2])
.ret)))))
theorem fok95:FOK Tryz.prog 95 (23,ic95,[(.t 2)]):=ai1 [1000001] Tryz.func95
def ic96:IC :=
(.seq
(.reg 0 [oK 1 (.aj8 T0),oM 2 (.c .ae4)] [1])
(.seq
(.reg 1 [oK 3 (.alloc [.ae4])] [1,3])
(.seq
(.reg 2 [oQ 4 (.mkf 122 [] [T3]),oN (.store 1 T3 T4)] [1,3])
(.seq
(.reg 3 [oQ 5 (.mkf 123 [] [T3,T1]),oM 2 T5] [2])
.ret))))
theorem fok96:FOK Tryz.prog 96 (6,ic96,[(.t 2)]):=ai1 [1000001] Tryz.func96
def ic97:IC :=
(.seq
(.reg 0 [oK 2 (.alloc [(zI 0),(zI 0),(.bool false),(zU 0)])] [0,2])
(.seq
(.reg 1 [oQ 4 (.bld [(zI 0),(zI 0),(.bool false),(zU 0)] [⟨0,⟨1,(cI 0)⟩⟩,⟨1,⟨1,(cI 0)⟩⟩,⟨2,⟨1,(cB true)⟩⟩,⟨3,⟨1,(.c (zU 3))⟩⟩]),oQ 5 (.bld [(zI 0),(zI 0),(.bool false),(zU 0)] [⟨0,⟨1,(cI 2)⟩⟩,⟨1,⟨1,(cI 24)⟩⟩,⟨2,⟨1,(cB true)⟩⟩,⟨3,⟨1,(.c (zU 3))⟩⟩]),oQ 6 (.bld [(zI 0),(zI 0),(.bool false),(zU 0)] [⟨0,⟨1,(cI 2)⟩⟩,⟨1,⟨1,(cI 24)⟩⟩,⟨2,⟨1,(cB true)⟩⟩,⟨3,⟨1,(.c (zU 3))⟩⟩]),oQ 7 (.bld [(zI 0),(zI 0),(.bool false),(zU 0)] [⟨0,⟨1,(cI 2)⟩⟩,⟨1,⟨1,(cI 3)⟩⟩,⟨2,⟨1,(cB false)⟩⟩,⟨3,⟨1,(.c (zU 1))⟩⟩]),oQ 8 (.bld [(zI 0),(zI 0),(.bool false),(zU 0)] [⟨0,⟨1,(cI 2)⟩⟩,⟨1,⟨1,(cI 3)⟩⟩,⟨2,⟨1,(cB false)⟩⟩,⟨3,⟨1,(.c (zU 2))⟩⟩]),oQ 9 (.bld [(zI 0),(zI 0),(.bool false),(zU 0)] [⟨0,⟨1,(cI 2)⟩⟩,⟨1,⟨1,(cI 24)⟩⟩,⟨2,⟨1,(cB true)⟩⟩,⟨3,⟨1,(.c (zU 3))⟩⟩]),oQ 10 (.bld [(zI 0),(zI 0),(.bool false),(zU 0)] [⟨0,⟨1,(cI 2)⟩⟩,⟨1,⟨1,(cI 2)⟩⟩,⟨2,⟨1,(cB true)⟩⟩,⟨3,⟨1,(.c (zU 3))⟩⟩]),oQ 11 (.bld [(zI 0),(zI 0),(.bool false),(zU 0),(zI 0),(zI 0),(.bool false),(zU 0),(zI 0),(zI 0),(.bool false),(zU 0),(zI 0),(zI 0),(.bool false),(zU 0),(zI 0),(zI 0),(.bool false),(zU 0),(zI 0),(zI 0),(.bool false),(zU 0),(zI 0),(zI 0),(.bool false),(zU 0),(zI 0),(zI 0),(.bool false),(zU 0)] [⟨4,⟨4,T4⟩⟩,⟨8,⟨4,T5⟩⟩,⟨12,⟨4,T6⟩⟩,⟨16,⟨4,T7⟩⟩,⟨20,⟨4,T8⟩⟩,⟨24,⟨4,T9⟩⟩,⟨28,⟨4,T10⟩⟩]),oK 3 (.alloc [(zI 0),(zI 0),(.bool false),(zU 0),(zI 0),(zI 0),(.bool false),(zU 0),(zI 0),(zI 0),(.bool false),(zU 0),(zI 0),(zI 0),(.bool false),(zU 0),(zI 0),(zI 0),(.bool false),(zU 0),(zI 0),(zI 0),(.bool false),(zU 0),(zI 0),(zI 0),(.bool false),(zU 0),(zI 0),(zI 0),(.bool false),(zU 0)]),oN (.store 32 T3 T11)] [0,2,3])
(.seq
(.seq
(.reg 2 [oM 12 T0,oQ 13 (.conv .i64 T12),oQ 14 (.bin .geq T13 (cI 8))] [0,2,3,14])
(.cond T14
(.seq
(.reg 3 [oQ 15 (.bld [(zI 0),(zI 0),(.bool false),(zU 0)] []),oN (.store 4 T2 T15)] [2])
.ret)
.skip))
(.seq
(.reg 4 [oM 16 T0,oQ 17 (.cn1 8 4 T3 T16),oQ 18 (.load (some 4) T17),oN (.store 4 T2 T18)] [2])
.ret))))
theorem fok97:FOK Tryz.prog 97 (19,ic97,[(.cell (some 4) 2)]):=ai1 [] Tryz.func97
def ic98:IC :=
(.seq
(.reg 0 [oM 2 (cB false)] [0])
(.seq
(.reg 1 [oM 3 T0,oQ 4 (.bin .eql T3 (.c (zU 0))),oM 5 T4,gQ 6 5 false (.mov T0),gQ 7 5 false (.bin .eql T6 (.c (zU 1))),oQ 8 (.pick T5 (cB true) T7),oM 9 T8,gQ 10 9 false (.mov T0),gQ 11 9 false (.bin .eql T10 (.c (zU 2))),oQ 12 (.pick T9 (cB true) T11),oM 13 T12,gQ 14 13 false (.mov T0),gQ 15 13 false (.bin .eql T14 (.c (zU 3))),oQ 16 (.pick T13 (cB true) T15),oM 17 T16,gQ 18 17 false (.mov T0),gQ 19 17 false (.bin .eql T18 (.c (zU 4))),oQ 20 (.pick T17 (cB true) T19),oM 21 T20,gQ 22 21 false (.mov T0),gQ 23 21 false (.bin .eql T22 (.c (zU 6))),oQ 24 (.pick T21 (cB true) T23),oM 2 T24] [2])
.ret))
theorem fok98:FOK Tryz.prog 98 (25,ic98,[(.t 2)]):=ai1 [] Tryz.func98
def ic99:IC :=
(.seq
(.reg 0 [oK 1 (.aj8 T0),oM 2 (cI 0)] [1])
(.seq
(.reg 1 [oM 3 (cI 1)] [1,3])
(.seq
(.seq
(.reg 2 [oM 4 (cI 0)] [1,3,4])
(.block 0
(.loop
(.seq
(.seq
(.reg 3 [oM 5 T4,oQ 6 (.aa7 6 T1),oQ 7 (.load none T6),oQ 8 (.len 0 T7),oQ 9 (.bin .lss T5 T8)] [1,3,4,9])
(.cond T9
.skip
(.exit 0)))
(.seq
(.block 1
(.reg 5 [oM 12 T3,oQ 13 (.aa7 6 T1),oQ 14 (.load none T13),oM 15 T4,oQ 16 (.ab5 7 T14 T15),oQ 17 (.load (some 7) T16),oK 18 (.call 99 [T17]),oQ 19 (.bin .add T12 T18),oM 3 T19] [1,3,4]))
(.reg 4 [oM 10 T4,oQ 11 (.bin .add T10 (cI 1)),oM 4 T11] [1,3,4]))))))
(.seq
(.reg 6 [oM 20 T3,oM 2 T20] [2])
.ret))))
theorem fok99:FOK Tryz.prog 99 (21,ic99,[(.t 2)]):=ai1 [1000001] Tryz.func99
def ic100:IC :=
(.seq
(.reg 0 [oK 1 (.aj8 T0),oM 2 (cI 0)] [1])
(.seq
(.seq
(.reg 1 [oQ 6 (.aa7 0 T1),oQ 7 (.load none T6),oQ 8 (.bin .eql T7 (.c (zU 1)))] [1,8])
(.cond T8
(.seq
(.reg 2 [oM 2 (cI 0)] [2])
.ret)
.skip))
(.seq
(.reg 3 [oM 3 (cI 0)] [1,3])
(.seq
(.seq
(.reg 4 [oM 4 (cI 0)] [1,3,4])
(.block 0
(.loop
(.seq
(.seq
(.reg 5 [oM 9 T4,oQ 10 (.aa7 6 T1),oQ 11 (.load none T10),oQ 12 (.len 0 T11),oQ 13 (.bin .lss T9 T12)] [1,3,4,13])
(.cond T13
.skip
(.exit 0)))
(.seq
(.block 1
(.seq
(.reg 7 [oQ 16 (.aa7 6 T1),oQ 17 (.load none T16),oM 18 T4,oQ 19 (.ab5 7 T17 T18),oQ 20 (.load (some 7) T19),oK 21 (.call 100 [T20]),oM 5 T21] [1,3,4,5])
(.seq
(.reg 8 [oM 22 T5,oM 23 T3,oQ 24 (.bin .gtr T22 T23)] [1,3,4,5,24])
(.cond T24
(.reg 9 [oM 25 T5,oM 3 T25] [1,3,4])
.skip))))
(.reg 6 [oM 14 T4,oQ 15 (.bin .add T14 (cI 1)),oM 4 T15] [1,3,4]))))))
(.seq
(.reg 10 [oM 26 T3,oQ 27 (.bin .add T26 (cI 1)),oM 2 T27] [2])
.ret)))))
theorem fok100:FOK Tryz.prog 100 (28,ic100,[(.t 2)]):=ai1 [1000001] Tryz.func100
def ic101:IC :=
(.seq
(.reg 0 [oK 3 (.aj8 T0),oM 6 (cB false)] [1,2,3])
(.seq
(.reg 1 [oQ 10 (.aa7 6 T3),oQ 11 (.load none T10),oQ 12 (.len 0 T11),oM 7 T12] [1,2,3,7])
(.seq
(.reg 2 [oM 8 (cB false)] [1,2,3,7,8])
(.seq
(.seq
(.reg 3 [oQ 13 (.aa7 0 T3),oQ 14 (.load none T13)] [1,2,3,7,8,14])
(.block 0
(.seq
(.reg 4 [oQ 16 (.bin .eql T14 (.c (zU 1))),oM 15 T16] [1,2,3,7,8,14,15])
(.cond T15
(.seq
(.reg 5 [oM 17 T7,oQ 18 (.bin .eql T17 (cI 0)),oM 19 T18,gQ 20 19 true (.aa7 1 T3),gQ 21 19 true (.load (some 5) T20),gK 22 19 true (.call 71 [T21]),oQ 23 (.pick T19 T22 (cB false)),oM 6 T23] [6])
.ret)
(.seq
(.seq
(.reg 6 [oQ 25 (.bin .eql T14 (.c (zU 2))),oM 24 T25] [1,2,3,7,8,14,24])
(.cond T24
.skip
(.reg 7 [oQ 26 (.bin .eql T14 (.c (zU 3))),oM 24 T26] [1,2,3,7,8,14,24])))
(.cond T24
(.reg 8 [oM 27 T7,oQ 28 (.bin .geq T27 (cI 2)),oM 8 T28] [1,2,3,7,8])
(.seq
(.reg 9 [oQ 30 (.bin .eql T14 (.c (zU 6))),oM 29 T30] [1,2,3,7,8,14,29])
(.cond T29
(.seq
(.reg 10 [oM 31 T7,oQ 32 (.bin .geq T31 (cI 2)),oM 8 T32] [1,3,7,8])
(.reg 11 [oM 2 (cB true)] [1,2,3,7,8]))
(.seq
(.reg 12 [oQ 34 (.bin .eql T14 (.c (zU 7))),oM 33 T34] [1,2,3,7,8,14,33])
(.cond T33
(.seq
(.reg 13 [oM 35 T7,oQ 36 (.bin .eql T35 (cI 2)),oM 8 T36] [1,3,7,8])
(.reg 14 [oM 2 (cB true)] [1,2,3,7,8]))
(.seq
(.reg 15 [oQ 38 (.bin .eql T14 (.c (zU 4))),oM 37 T38] [1,2,3,7,8,14,37])
(.cond T37
(.reg 16 [oM 39 T7,oQ 40 (.bin .eql T39 (cI 2)),oM 41 T40,gQ 42 41 false (.mov T7),gQ 43 41 false (.bin .eql T42 (cI 3)),oQ 44 (.pick T41 (cB true) T43),oM 45 T44,gQ 46 45 true (.mov T2),gQ 47 45 true (.not T46),oQ 48 (.pick T45 T47 (cB false)),oM 49 T48,gQ 50 49 true (.mov T1),gQ 51 49 true (.bin .eql T50 (.c (zU 1))),oQ 52 (.pick T49 T51 (cB false)),oM 8 T52] [1,2,3,7,8])
(.seq
(.reg 17 [oQ 54 (.bin .eql T14 (.c (zU 5))),oM 53 T54] [1,2,3,7,8,53])
(.cond T53
(.reg 18 [oM 55 T7,oQ 56 (.bin .eql T55 (cI 2)),oM 57 T56,gQ 58 57 false (.mov T7),gQ 59 57 false (.bin .eql T58 (cI 3)),oQ 60 (.pick T57 (cB true) T59),oM 61 T60,gQ 62 61 true (.mov T2),gQ 63 61 true (.not T62),oQ 64 (.pick T61 T63 (cB false)),oM 65 T64,gQ 66 65 true (.mov T1),gQ 67 65 true (.bin .leq T66 (.c (zU 2))),oQ 68 (.pick T65 T67 (cB false)),oM 8 T68] [1,2,3,7,8])
.skip))))))))))))))
(.seq
(.seq
(.reg 19 [oM 69 T8,oQ 70 (.not T69),oM 71 T70,gQ 72 71 false (.aa7 1 T3),gQ 73 71 false (.load (some 5) T72),gQ 74 71 false (.bld [(.str []),(zU 0),(zI 0),(.str []),(.str [])] []),gQ 75 71 false (.eqs [2,1,1,2,2] true true T73 T74),oQ 76 (.pick T71 (cB true) T75)] [1,2,3,7,76])
(.cond T76
(.seq
(.reg 20 [oM 6 (cB false)] [6])
.ret)
.skip))
(.seq
(.seq
(.reg 21 [oM 9 (cI 0)] [1,2,3,7,9])
(.block 1
(.loop
(.seq
(.seq
(.reg 22 [oM 77 T9,oM 78 T7,oQ 79 (.bin .lss T77 T78)] [1,2,3,7,9,79])
(.cond T79
.skip
(.exit 1)))
(.seq
(.block 2
(.seq
(.reg 24 [oQ 82 (.aa7 6 T3),oQ 83 (.load none T82),oM 84 T9,oQ 85 (.ab5 7 T83 T84),oQ 86 (.load (some 7) T85),oM 87 T1,oM 88 T2,oK 89 (.call 101 [T86,T87,T88]),oQ 90 (.not T89)] [1,2,3,7,9,90])
(.cond T90
(.seq
(.reg 25 [oM 6 (cB false)] [6])
.ret)
.skip)))
(.reg 23 [oM 80 T9,oQ 81 (.bin .add T80 (cI 1)),oM 9 T81] [1,2,3,7,9]))))))
(.seq
(.reg 26 [oM 6 (cB true)] [6])
.ret)))))))
theorem fok101:FOK Tryz.prog 101 (91,ic101,[(.t 6)]):=ai1 [1000003] Tryz.func101
def ic102:IC :=
(.seq
(.reg 0 [oM 8 T1,oQ 9 (.bin .add T8 (cI 1)),oM 6 T9] [0,1,2,6])
(.block 0
(.loop
(.seq
(.seq
(.reg 1 [oM 10 T6,oM 11 T2,oQ 12 (.bin .lss T10 T11)] [0,1,2,6,12])
(.cond T12
.skip
(.exit 0)))
(.seq
(.block 1
(.seq
(.reg 3 [oM 15 T6,oM 7 T15] [0,1,2,6,7])
(.block 2
(.loop
(.seq
(.seq
(.dreg 4 [oM 16 T7,oM 17 T1,oQ 18 (.bin .gtr T16 T17),oM 19 T18,gQ 20 19 true (.mov T0),gQ 21 19 true (.mov T7),gQ 22 19 true (.ab5 1 T20 T21),gQ 23 19 true (.load none T22),gQ 24 19 true (.mov T0),gQ 25 19 true (.mov T7),gQ 26 19 true (.bin .sub T25 (cI 1)),gQ 27 19 true (.ab5 1 T24 T26),gQ 28 19 true (.load none T27),gK 29 19 true (.call 108 [T23,T28]),oQ 30 (.pick T19 T29 (cB false))] false [0,1,2,6,7,30])
(.cond T30
.skip
(.exit 2)))
(.seq
(.block 3
(.dreg 6 [oM 33 T0,oM 34 T7,oM 35 T0,oM 36 T7,oQ 37 (.bin .sub T36 (cI 1)),oM 38 T0,oM 39 T7,oQ 40 (.bin .sub T39 (cI 1)),oQ 41 (.ab5 1 T38 T40),oQ 42 (.load none T41),oM 43 T0,oM 44 T7,oQ 45 (.ab5 1 T43 T44),oQ 46 (.load none T45),oQ 47 (.ab5 1 T33 T34),oN (.store 1 T47 T42),oQ 48 (.ab5 1 T35 T37),oN (.store 1 T48 T46)] false [0,1,2,6,7]))
(.reg 5 [oM 31 T7,oQ 32 (.bin .sub T31 (cI 1)),oM 7 T32] [0,1,2,6,7])))))))
(.reg 2 [oM 13 T6,oQ 14 (.bin .add T13 (cI 1)),oM 6 T14] [0,1,2,6]))))))
theorem fok102:FOK Tryz.prog 102 (49,ic102,[]):=ai1 [] Tryz.func102
def ic103:IC :=
(.seq
(.reg 0 [oM 11 T1,oM 6 T11] [0,1,2,6])
(.seq
(.reg 1 [oM 7 (cI 0)] [0,1,2,6,7])
(.seq
(.reg 2 [oM 12 T2,oM 13 T1,oQ 14 (.bin .sub T12 T13),oM 8 T14] [0,6,7,8])
(.seq
(.seq
(.reg 3 [oM 15 T8,oQ 16 (.bin .sub T15 (cI 1)),oQ 17 (.bin .quo T16 (cI 2)),oM 9 T17] [0,6,7,8,9])
(.block 0
(.loop
(.seq
(.seq
(.reg 4 [oM 18 T9,oQ 19 (.bin .geq T18 (cI 0))] [0,6,7,8,9,19])
(.cond T19
.skip
(.exit 0)))
(.seq
(.block 1
(.reg 6 [oM 22 T0,oM 23 T9,oM 24 T8,oM 25 T6,oK 26 (.call 124 [T22,T23,T24,T25])] [0,6,7,8,9]))
(.reg 5 [oM 20 T9,oQ 21 (.bin .sub T20 (cI 1)),oM 9 T21] [0,6,7,8,9]))))))
(.seq
(.reg 7 [oM 27 T8,oQ 28 (.bin .sub T27 (cI 1)),oM 10 T28] [0,6,7,10])
(.block 2
(.loop
(.seq
(.seq
(.reg 8 [oM 29 T10,oQ 30 (.bin .geq T29 (cI 0))] [0,6,7,10,30])
(.cond T30
.skip
(.exit 2)))
(.seq
(.block 3
(.seq
(.dreg 10 [oM 33 T0,oM 34 T6,oM 35 T0,oM 36 T6,oM 37 T10,oQ 38 (.bin .add T36 T37),oM 39 T0,oM 40 T6,oM 41 T10,oQ 42 (.bin .add T40 T41),oQ 43 (.ab5 1 T39 T42),oQ 44 (.load none T43),oM 45 T0,oM 46 T6,oQ 47 (.ab5 1 T45 T46),oQ 48 (.load none T47),oQ 49 (.ab5 1 T33 T34),oN (.store 1 T49 T44),oQ 50 (.ab5 1 T35 T38),oN (.store 1 T50 T48)] false [0,6,7,10])
(.reg 11 [oM 51 T0,oM 52 T7,oM 53 T10,oM 54 T6,oK 55 (.call 124 [T51,T52,T53,T54])] [0,6,7,10])))
(.reg 9 [oM 31 T10,oQ 32 (.bin .sub T31 (cI 1)),oM 10 T32] [0,6,7,10]))))))))))
theorem fok103:FOK Tryz.prog 103 (56,ic103,[]):=ai1 [] Tryz.func103
def ic104:IC :=
(.seq
(.reg 0 [oM 11 T2,oM 12 T1,oQ 13 (.bin .sub T11 T12),oM 6 T13] [0,1,6])
(.seq
(.reg 1 [oM 14 T6,oQ 15 (.bin .geq T14 (cI 8))] [0,1,6,15])
(.cond T15
(.seq
(.reg 2 [oM 16 T6,oQ 17 (.conv .u64 T16),oK 7 (.alloc [(.int .u64 0)]),oN (.store 1 T7 T17)] [0,1,6,7])
(.seq
(.reg 3 [oM 18 T6,oK 19 (.call 125 [T18]),oM 8 T19] [0,1,6,7,8])
(.seq
(.reg 4 [oM 20 T1,oM 21 T6,oQ 22 (.bin .quo T21 (cI 4)),oQ 23 (.bin .mul T22 (cI 2)),oQ 24 (.bin .add T20 T23),oQ 25 (.bin .sub T24 (cI 1)),oM 9 T25] [0,1,6,7,8,9])
(.block 0
(.loop
(.seq
(.seq
(.reg 5 [oM 26 T9,oM 27 T1,oM 28 T6,oQ 29 (.bin .quo T28 (cI 4)),oQ 30 (.bin .mul T29 (cI 2)),oQ 31 (.bin .add T27 T30),oQ 32 (.bin .add T31 (cI 1)),oQ 33 (.bin .leq T26 T32)] [0,1,6,7,8,9,33])
(.cond T33
.skip
(.exit 0)))
(.seq
(.block 1
(.seq
(.reg 7 [oK 36 (.call 126 [T7]),oM 37 T8,oQ 38 (.bin .sub T37 (.c (.int .u64 1))),oQ 39 (.bin .and T36 T38),oQ 40 (.conv .i64 T39),oM 10 T40] [0,1,6,7,8,9,10])
(.seq
(.seq
(.reg 8 [oM 41 T10,oM 42 T6,oQ 43 (.bin .geq T41 T42)] [0,1,6,7,8,9,10,43])
(.cond T43
(.reg 9 [oM 44 T10,oM 45 T6,oQ 46 (.bin .sub T44 T45),oM 10 T46] [0,1,6,7,8,9,10])
.skip))
(.dreg 10 [oM 47 T0,oM 48 T9,oM 49 T0,oM 50 T1,oM 51 T10,oQ 52 (.bin .add T50 T51),oM 53 T0,oM 54 T1,oM 55 T10,oQ 56 (.bin .add T54 T55),oQ 57 (.ab5 1 T53 T56),oQ 58 (.load none T57),oM 59 T0,oM 60 T9,oQ 61 (.ab5 1 T59 T60),oQ 62 (.load none T61),oQ 63 (.ab5 1 T47 T48),oN (.store 1 T63 T58),oQ 64 (.ab5 1 T49 T52),oN (.store 1 T64 T62)] false [0,1,6,7,8,9]))))
(.reg 6 [oM 34 T9,oQ 35 (.bin .add T34 (cI 1)),oM 9 T35] [0,1,6,7,8,9]))))))))
.skip)))
theorem fok104:FOK Tryz.prog 104 (65,ic104,[]):=ai1 [] Tryz.func104
def ic105:IC :=
(.seq
(.reg 0 [oM 6 (cI 0),oM 7 (cI 0)] [0,1,2])
(.seq
(.reg 1 [oM 13 T2,oM 14 T1,oQ 15 (.bin .sub T13 T14),oM 8 T15] [0,1,8])
(.seq
(.reg 2 [oK 9 (.alloc [(zI 0)])] [0,1,8,9])
(.seq
(.reg 3 [oM 16 T1,oM 17 T8,oQ 18 (.bin .quo T17 (cI 4)),oQ 19 (.bin .mul T18 (cI 1)),oQ 20 (.bin .add T16 T19),oM 10 T20] [0,1,8,9,10])
(.seq
(.reg 4 [oM 21 T1,oM 22 T8,oQ 23 (.bin .quo T22 (cI 4)),oQ 24 (.bin .mul T23 (cI 2)),oQ 25 (.bin .add T21 T24),oM 11 T25] [0,1,8,9,10,11])
(.seq
(.reg 5 [oM 26 T1,oM 27 T8,oQ 28 (.bin .quo T27 (cI 4)),oQ 29 (.bin .mul T28 (cI 3)),oQ 30 (.bin .add T26 T29),oM 12 T30] [0,8,9,10,11,12])
(.seq
(.seq
(.reg 6 [oM 31 T8,oQ 32 (.bin .geq T31 (cI 8))] [0,8,9,10,11,12,32])
(.cond T32
(.seq
(.seq
(.reg 7 [oM 33 T8,oQ 34 (.bin .geq T33 (cI 50))] [0,9,10,11,12,34])
(.cond T34
(.seq
(.reg 8 [oM 35 T0,oM 36 T10,oK 37 (.call 127 [T35,T36,T9]),oM 10 T37] [0,9,10,11,12])
(.seq
(.reg 9 [oM 38 T0,oM 39 T11,oK 40 (.call 127 [T38,T39,T9]),oM 11 T40] [0,9,10,11,12])
(.reg 10 [oM 41 T0,oM 42 T12,oK 43 (.call 127 [T41,T42,T9]),oM 12 T43] [0,9,10,11,12])))
.skip))
(.reg 11 [oM 44 T0,oM 45 T10,oM 46 T11,oM 47 T12,oK 48 (.call 128 [T44,T45,T46,T47,T9]),oM 11 T48] [9,11]))
.skip))
(.seq
(.reg 12 [oQ 49 (.load none T9)] [11,49])
(.block 0
(.seq
(.reg 14 [oQ 52 (.bin .eql T49 (cI 0)),oM 51 T52] [11,49,51])
(.cond T51
(.seq
(.reg 15 [oM 53 T11,oM 6 T53,oM 7 (cI 1)] [6,7])
.ret)
(.seq
(.reg 16 [oQ 55 (.bin .eql T49 (cI 12)),oM 54 T55] [11,54])
(.cond T54
(.seq
(.reg 17 [oM 56 T11,oM 6 T56,oM 7 (cI 2)] [6,7])
.ret)
(.seq
(.reg 13 [oM 50 T11,oM 6 T50,oM 7 (cI 0)] [6,7])
.ret))))))))))))))
theorem fok105:FOK Tryz.prog 105 (57,ic105,[(.t 6),(.t 7)]):=ai1 [] Tryz.func105
def ic106:IC :=
(.seq
(.reg 0 [oM 8 T1,oM 6 T8] [0,2,6])
(.seq
(.reg 1 [oM 9 T2,oQ 10 (.bin .sub T9 (cI 1)),oM 7 T10] [0,6,7])
(.block 0
(.loop
(.seq
(.seq
(.reg 2 [oM 11 T6,oM 12 T7,oQ 13 (.bin .lss T11 T12)] [0,6,7,13])
(.cond T13
.skip
(.exit 0)))
(.block 1
(.seq
(.dreg 3 [oM 14 T0,oM 15 T6,oM 16 T0,oM 17 T7,oM 18 T0,oM 19 T7,oQ 20 (.ab5 1 T18 T19),oQ 21 (.load none T20),oM 22 T0,oM 23 T6,oQ 24 (.ab5 1 T22 T23),oQ 25 (.load none T24),oQ 26 (.ab5 1 T14 T15),oN (.store 1 T26 T21),oQ 27 (.ab5 1 T16 T17),oN (.store 1 T27 T25)] false [0,6,7])
(.seq
(.reg 4 [oM 28 T6,oQ 29 (.bin .add T28 (cI 1)),oM 6 T29] [0,6,7])
(.reg 5 [oM 30 T7,oQ 31 (.bin .sub T30 (cI 1)),oM 7 T31] [0,6,7])))))))))
theorem fok106:FOK Tryz.prog 106 (32,ic106,[]):=ai1 [] Tryz.func106
def ic107:IC :=
(.seq
(.reg 0 [oM 6 (cB false)] [0,1,2])
(.seq
(.reg 1 [oM 11 T1,oQ 12 (.bin .add T11 (cI 1)),oM 7 T12] [0,1,2,7])
(.seq
(.seq
(.reg 2 [oM 8 (cI 0)] [0,1,2,7,8])
(.block 0
(.loop
(.seq
(.seq
(.reg 3 [oM 13 T8,oQ 14 (.bin .lss T13 (cI 5))] [0,1,2,7,8,14])
(.cond T14
.skip
(.exit 0)))
(.seq
(.block 1
(.seq
(.block 2
(.loop
(.seq
(.seq
(.dreg 5 [oM 17 T7,oM 18 T2,oQ 19 (.bin .lss T17 T18),oM 20 T19,gQ 21 20 true (.mov T0),gQ 22 20 true (.mov T7),gQ 23 20 true (.ab5 1 T21 T22),gQ 24 20 true (.load none T23),gQ 25 20 true (.mov T0),gQ 26 20 true (.mov T7),gQ 27 20 true (.bin .sub T26 (cI 1)),gQ 28 20 true (.ab5 1 T25 T27),gQ 29 20 true (.load none T28),gK 30 20 true (.call 108 [T24,T29]),gQ 31 20 true (.not T30),oQ 32 (.pick T20 T31 (cB false))] false [0,1,2,7,8,32])
(.cond T32
.skip
(.exit 2)))
(.block 3
(.reg 6 [oM 33 T7,oQ 34 (.bin .add T33 (cI 1)),oM 7 T34] [0,1,2,7,8])))))
(.seq
(.seq
(.reg 7 [oM 35 T7,oM 36 T2,oQ 37 (.bin .eql T35 T36)] [0,1,2,7,8,37])
(.cond T37
(.seq
(.reg 8 [oM 6 (cB true)] [6])
.ret)
.skip))
(.seq
(.seq
(.reg 9 [oM 38 T2,oM 39 T1,oQ 40 (.bin .sub T38 T39),oQ 41 (.bin .lss T40 (cI 50))] [0,1,2,7,8,41])
(.cond T41
(.seq
(.reg 10 [oM 6 (cB false)] [6])
.ret)
.skip))
(.seq
(.dreg 11 [oM 42 T0,oM 43 T7,oM 44 T0,oM 45 T7,oQ 46 (.bin .sub T45 (cI 1)),oM 47 T0,oM 48 T7,oQ 49 (.bin .sub T48 (cI 1)),oQ 50 (.ab5 1 T47 T49),oQ 51 (.load none T50),oM 52 T0,oM 53 T7,oQ 54 (.ab5 1 T52 T53),oQ 55 (.load none T54),oQ 56 (.ab5 1 T42 T43),oN (.store 1 T56 T51),oQ 57 (.ab5 1 T44 T46),oN (.store 1 T57 T55)] false [0,1,2,7,8])
(.seq
(.seq
(.reg 12 [oM 58 T7,oM 59 T1,oQ 60 (.bin .sub T58 T59),oQ 61 (.bin .geq T60 (cI 2))] [0,1,2,7,8,61])
(.cond T61
(.seq
(.reg 13 [oM 62 T7,oQ 63 (.bin .sub T62 (cI 1)),oM 9 T63] [0,1,2,7,8,9])
(.block 4
(.loop
(.seq
(.seq
(.reg 14 [oM 64 T9,oQ 65 (.bin .geq T64 (cI 1))] [0,1,2,7,8,9,65])
(.cond T65
.skip
(.exit 4)))
(.seq
(.block 5
(.seq
(.seq
(.dreg 16 [oM 68 T0,oM 69 T9,oQ 70 (.ab5 1 T68 T69),oQ 71 (.load none T70),oM 72 T0,oM 73 T9,oQ 74 (.bin .sub T73 (cI 1)),oQ 75 (.ab5 1 T72 T74),oQ 76 (.load none T75),oK 77 (.call 108 [T71,T76]),oQ 78 (.not T77)] false [0,1,2,7,8,9,78])
(.cond T78
(.exit 4)
.skip))
(.dreg 17 [oM 79 T0,oM 80 T9,oM 81 T0,oM 82 T9,oQ 83 (.bin .sub T82 (cI 1)),oM 84 T0,oM 85 T9,oQ 86 (.bin .sub T85 (cI 1)),oQ 87 (.ab5 1 T84 T86),oQ 88 (.load none T87),oM 89 T0,oM 90 T9,oQ 91 (.ab5 1 T89 T90),oQ 92 (.load none T91),oQ 93 (.ab5 1 T79 T80),oN (.store 1 T93 T88),oQ 94 (.ab5 1 T81 T83),oN (.store 1 T94 T92)] false [0,1,2,7,8,9])))
(.reg 15 [oM 66 T9,oQ 67 (.bin .sub T66 (cI 1)),oM 9 T67] [0,1,2,7,8,9]))))))
.skip))
(.seq
(.reg 18 [oM 95 T2,oM 96 T7,oQ 97 (.bin .sub T95 T96),oQ 98 (.bin .geq T97 (cI 2))] [0,1,2,7,8,98])
(.cond T98
(.seq
(.reg 19 [oM 99 T7,oQ 100 (.bin .add T99 (cI 1)),oM 10 T100] [0,1,2,7,8,10])
(.block 6
(.loop
(.seq
(.seq
(.reg 20 [oM 101 T10,oM 102 T2,oQ 103 (.bin .lss T101 T102)] [0,1,2,7,8,10,103])
(.cond T103
.skip
(.exit 6)))
(.seq
(.block 7
(.seq
(.seq
(.dreg 22 [oM 106 T0,oM 107 T10,oQ 108 (.ab5 1 T106 T107),oQ 109 (.load none T108),oM 110 T0,oM 111 T10,oQ 112 (.bin .sub T111 (cI 1)),oQ 113 (.ab5 1 T110 T112),oQ 114 (.load none T113),oK 115 (.call 108 [T109,T114]),oQ 116 (.not T115)] false [0,1,2,7,8,10,116])
(.cond T116
(.exit 6)
.skip))
(.dreg 23 [oM 117 T0,oM 118 T10,oM 119 T0,oM 120 T10,oQ 121 (.bin .sub T120 (cI 1)),oM 122 T0,oM 123 T10,oQ 124 (.bin .sub T123 (cI 1)),oQ 125 (.ab5 1 T122 T124),oQ 126 (.load none T125),oM 127 T0,oM 128 T10,oQ 129 (.ab5 1 T127 T128),oQ 130 (.load none T129),oQ 131 (.ab5 1 T117 T118),oN (.store 1 T131 T126),oQ 132 (.ab5 1 T119 T121),oN (.store 1 T132 T130)] false [0,1,2,7,8,10])))
(.reg 21 [oM 104 T10,oQ 105 (.bin .add T104 (cI 1)),oM 10 T105] [0,1,2,7,8,10]))))))
.skip))))))))
(.reg 4 [oM 15 T8,oQ 16 (.bin .add T15 (cI 1)),oM 8 T16] [0,1,2,7,8]))))))
(.seq
(.reg 24 [oM 6 (cB false)] [6])
.ret))))
theorem fok107:FOK Tryz.prog 107 (133,ic107,[(.t 6)]):=ai1 [] Tryz.func107
def ic108:IC :=
(.seq
(.reg 0 [oM 4 (cB false)] [0,1])
(.seq
(.reg 1 [oM 5 T0,oK 6 (.call 129 [T5]),oM 7 T6,gQ 8 7 true (.mov T1),gK 9 7 true (.call 129 [T8]),gQ 10 7 true (.not T9),oQ 11 (.pick T7 T10 (cB false)),oM 12 T11,gQ 13 12 false (.mov T0),gQ 14 12 false (.mov T1),gQ 15 12 false (.bin .lss T13 T14),oQ 16 (.pick T12 (cB true) T15),oM 4 T16] [4])
.ret))
theorem fok108:FOK Tryz.prog 108 (17,ic108,[(.t 4)]):=ai1 [] Tryz.func108
def ic109:IC :=
(.seq
(.reg 0 [oM 8 (cI 0)] [0,1,2,3])
(.seq
(.dreg 1 [oM 11 T0,oM 12 T1,oM 13 T0,oM 14 T3,oM 15 T0,oM 16 T3,oQ 17 (.ab5 1 T15 T16),oQ 18 (.load none T17),oM 19 T0,oM 20 T1,oQ 21 (.ab5 1 T19 T20),oQ 22 (.load none T21),oQ 23 (.ab5 1 T11 T12),oN (.store 1 T23 T18),oQ 24 (.ab5 1 T13 T14),oN (.store 1 T24 T22)] false [0,1,2])
(.seq
(.reg 2 [oM 25 T1,oQ 26 (.bin .add T25 (cI 1)),oM 27 T2,oQ 28 (.bin .sub T27 (cI 1)),oM 9 T26,oM 10 T28] [0,1,9,10])
(.seq
(.block 0
(.loop
(.block 1
(.seq
(.block 2
(.loop
(.seq
(.seq
(.dreg 3 [oM 29 T9,oM 30 T10,oQ 31 (.bin .leq T29 T30),oM 32 T31,gQ 33 32 true (.mov T0),gQ 34 32 true (.mov T1),gQ 35 32 true (.ab5 1 T33 T34),gQ 36 32 true (.load none T35),gQ 37 32 true (.mov T0),gQ 38 32 true (.mov T9),gQ 39 32 true (.ab5 1 T37 T38),gQ 40 32 true (.load none T39),gK 41 32 true (.call 108 [T36,T40]),gQ 42 32 true (.not T41),oQ 43 (.pick T32 T42 (cB false))] false [0,1,9,10,43])
(.cond T43
.skip
(.exit 2)))
(.block 3
(.reg 4 [oM 44 T9,oQ 45 (.bin .add T44 (cI 1)),oM 9 T45] [0,1,9,10])))))
(.seq
(.block 4
(.loop
(.seq
(.seq
(.dreg 5 [oM 46 T9,oM 47 T10,oQ 48 (.bin .leq T46 T47),oM 49 T48,gQ 50 49 true (.mov T0),gQ 51 49 true (.mov T1),gQ 52 49 true (.ab5 1 T50 T51),gQ 53 49 true (.load none T52),gQ 54 49 true (.mov T0),gQ 55 49 true (.mov T10),gQ 56 49 true (.ab5 1 T54 T55),gQ 57 49 true (.load none T56),gK 58 49 true (.call 108 [T53,T57]),oQ 59 (.pick T49 T58 (cB false))] false [0,1,9,10,59])
(.cond T59
.skip
(.exit 4)))
(.block 5
(.reg 6 [oM 60 T10,oQ 61 (.bin .sub T60 (cI 1)),oM 10 T61] [0,1,9,10])))))
(.seq
(.seq
(.reg 7 [oM 62 T9,oM 63 T10,oQ 64 (.bin .gtr T62 T63)] [0,1,9,10,64])
(.cond T64
(.exit 0)
.skip))
(.seq
(.dreg 8 [oM 65 T0,oM 66 T9,oM 67 T0,oM 68 T10,oM 69 T0,oM 70 T10,oQ 71 (.ab5 1 T69 T70),oQ 72 (.load none T71),oM 73 T0,oM 74 T9,oQ 75 (.ab5 1 T73 T74),oQ 76 (.load none T75),oQ 77 (.ab5 1 T65 T66),oN (.store 1 T77 T72),oQ 78 (.ab5 1 T67 T68),oN (.store 1 T78 T76)] false [0,1,9,10])
(.seq
(.reg 9 [oM 79 T9,oQ 80 (.bin .add T79 (cI 1)),oM 9 T80] [0,1,9,10])
(.reg 10 [oM 81 T10,oQ 82 (.bin .sub T81 (cI 1)),oM 10 T82] [0,1,9,10])))))))))
(.seq
(.reg 11 [oM 83 T9,oM 8 T83] [8])
.ret)))))
theorem fok109:FOK Tryz.prog 109 (84,ic109,[(.t 8)]):=ai1 [] Tryz.func109
def ic110:IC :=
(.seq
(.reg 0 [oM 8 (cI 0),oM 9 (cB false)] [0,1,2,3])
(.seq
(.dreg 1 [oM 12 T0,oM 13 T1,oM 14 T0,oM 15 T3,oM 16 T0,oM 17 T3,oQ 18 (.ab5 1 T16 T17),oQ 19 (.load none T18),oM 20 T0,oM 21 T1,oQ 22 (.ab5 1 T20 T21),oQ 23 (.load none T22),oQ 24 (.ab5 1 T12 T13),oN (.store 1 T24 T19),oQ 25 (.ab5 1 T14 T15),oN (.store 1 T25 T23)] false [0,1,2])
(.seq
(.reg 2 [oM 26 T1,oQ 27 (.bin .add T26 (cI 1)),oM 28 T2,oQ 29 (.bin .sub T28 (cI 1)),oM 10 T27,oM 11 T29] [0,1,10,11])
(.seq
(.block 0
(.loop
(.seq
(.seq
(.dreg 3 [oM 30 T10,oM 31 T11,oQ 32 (.bin .leq T30 T31),oM 33 T32,gQ 34 33 true (.mov T0),gQ 35 33 true (.mov T10),gQ 36 33 true (.ab5 1 T34 T35),gQ 37 33 true (.load none T36),gQ 38 33 true (.mov T0),gQ 39 33 true (.mov T1),gQ 40 33 true (.ab5 1 T38 T39),gQ 41 33 true (.load none T40),gK 42 33 true (.call 108 [T37,T41]),oQ 43 (.pick T33 T42 (cB false))] false [0,1,10,11,43])
(.cond T43
.skip
(.exit 0)))
(.block 1
(.reg 4 [oM 44 T10,oQ 45 (.bin .add T44 (cI 1)),oM 10 T45] [0,1,10,11])))))
(.seq
(.block 2
(.loop
(.seq
(.seq
(.dreg 5 [oM 46 T10,oM 47 T11,oQ 48 (.bin .leq T46 T47),oM 49 T48,gQ 50 49 true (.mov T0),gQ 51 49 true (.mov T11),gQ 52 49 true (.ab5 1 T50 T51),gQ 53 49 true (.load none T52),gQ 54 49 true (.mov T0),gQ 55 49 true (.mov T1),gQ 56 49 true (.ab5 1 T54 T55),gQ 57 49 true (.load none T56),gK 58 49 true (.call 108 [T53,T57]),gQ 59 49 true (.not T58),oQ 60 (.pick T49 T59 (cB false))] false [0,1,10,11,60])
(.cond T60
.skip
(.exit 2)))
(.block 3
(.reg 6 [oM 61 T11,oQ 62 (.bin .sub T61 (cI 1)),oM 11 T62] [0,1,10,11])))))
(.seq
(.seq
(.reg 7 [oM 63 T10,oM 64 T11,oQ 65 (.bin .gtr T63 T64)] [0,1,10,11,65])
(.cond T65
(.seq
(.dreg 8 [oM 66 T0,oM 67 T11,oM 68 T0,oM 69 T1,oM 70 T0,oM 71 T1,oQ 72 (.ab5 1 T70 T71),oQ 73 (.load none T72),oM 74 T0,oM 75 T11,oQ 76 (.ab5 1 T74 T75),oQ 77 (.load none T76),oQ 78 (.ab5 1 T66 T67),oN (.store 1 T78 T73),oQ 79 (.ab5 1 T68 T69),oN (.store 1 T79 T77)] false [11])
(.seq
(.reg 9 [oM 80 T11,oM 8 T80,oM 9 (cB true)] [8,9])
.ret))
.skip))
(.seq
(.dreg 10 [oM 81 T0,oM 82 T10,oM 83 T0,oM 84 T11,oM 85 T0,oM 86 T11,oQ 87 (.ab5 1 T85 T86),oQ 88 (.load none T87),oM 89 T0,oM 90 T10,oQ 91 (.ab5 1 T89 T90),oQ 92 (.load none T91),oQ 93 (.ab5 1 T81 T82),oN (.store 1 T93 T88),oQ 94 (.ab5 1 T83 T84),oN (.store 1 T94 T92)] false [0,1,10,11])
(.seq
(.reg 11 [oM 95 T10,oQ 96 (.bin .add T95 (cI 1)),oM 10 T96] [0,1,10,11])
(.seq
(.reg 12 [oM 97 T11,oQ 98 (.bin .sub T97 (cI 1)),oM 11 T98] [0,1,10,11])
(.seq
(.block 4
(.loop
(.block 5
(.seq
(.block 6
(.loop
(.seq
(.seq
(.dreg 13 [oM 99 T10,oM 100 T11,oQ 101 (.bin .leq T99 T100),oM 102 T101,gQ 103 102 true (.mov T0),gQ 104 102 true (.mov T10),gQ 105 102 true (.ab5 1 T103 T104),gQ 106 102 true (.load none T105),gQ 107 102 true (.mov T0),gQ 108 102 true (.mov T1),gQ 109 102 true (.ab5 1 T107 T108),gQ 110 102 true (.load none T109),gK 111 102 true (.call 108 [T106,T110]),oQ 112 (.pick T102 T111 (cB false))] false [0,1,10,11,112])
(.cond T112
.skip
(.exit 6)))
(.block 7
(.reg 14 [oM 113 T10,oQ 114 (.bin .add T113 (cI 1)),oM 10 T114] [0,1,10,11])))))
(.seq
(.block 8
(.loop
(.seq
(.seq
(.dreg 15 [oM 115 T10,oM 116 T11,oQ 117 (.bin .leq T115 T116),oM 118 T117,gQ 119 118 true (.mov T0),gQ 120 118 true (.mov T11),gQ 121 118 true (.ab5 1 T119 T120),gQ 122 118 true (.load none T121),gQ 123 118 true (.mov T0),gQ 124 118 true (.mov T1),gQ 125 118 true (.ab5 1 T123 T124),gQ 126 118 true (.load none T125),gK 127 118 true (.call 108 [T122,T126]),gQ 128 118 true (.not T127),oQ 129 (.pick T118 T128 (cB false))] false [0,1,10,11,129])
(.cond T129
.skip
(.exit 8)))
(.block 9
(.reg 16 [oM 130 T11,oQ 131 (.bin .sub T130 (cI 1)),oM 11 T131] [0,1,10,11])))))
(.seq
(.seq
(.reg 17 [oM 132 T10,oM 133 T11,oQ 134 (.bin .gtr T132 T133)] [0,1,10,11,134])
(.cond T134
(.exit 4)
.skip))
(.seq
(.dreg 18 [oM 135 T0,oM 136 T10,oM 137 T0,oM 138 T11,oM 139 T0,oM 140 T11,oQ 141 (.ab5 1 T139 T140),oQ 142 (.load none T141),oM 143 T0,oM 144 T10,oQ 145 (.ab5 1 T143 T144),oQ 146 (.load none T145),oQ 147 (.ab5 1 T135 T136),oN (.store 1 T147 T142),oQ 148 (.ab5 1 T137 T138),oN (.store 1 T148 T146)] false [0,1,10,11])
(.seq
(.reg 19 [oM 149 T10,oQ 150 (.bin .add T149 (cI 1)),oM 10 T150] [0,1,10,11])
(.reg 20 [oM 151 T11,oQ 152 (.bin .sub T151 (cI 1)),oM 11 T152] [0,1,10,11])))))))))
(.seq
(.dreg 21 [oM 153 T0,oM 154 T11,oM 155 T0,oM 156 T1,oM 157 T0,oM 158 T1,oQ 159 (.ab5 1 T157 T158),oQ 160 (.load none T159),oM 161 T0,oM 162 T11,oQ 163 (.ab5 1 T161 T162),oQ 164 (.load none T163),oQ 165 (.ab5 1 T153 T154),oN (.store 1 T165 T160),oQ 166 (.ab5 1 T155 T156),oN (.store 1 T166 T164)] false [11])
(.seq
(.reg 22 [oM 167 T11,oM 8 T167,oM 9 (cB false)] [8,9])
.ret))))))))))))
theorem fok110:FOK Tryz.prog 110 (168,ic110,[(.t 8),(.t 9)]):=ai1 [] Tryz.func110
def ic111:IC :=
(.seq
(.reg 0 [oM 2 (cI 0)] [0,2])
(.seq
(.seq
(.reg 1 [oM 3 T0,oQ 4 (.bin .geq T3 (.c (.int .u32 65536)))] [0,2,4])
(.cond T4
(.seq
(.reg 2 [oM 5 T0,oQ 6 (.bin .shr T5 (.c (.int .u64 16))),oM 0 T6] [0])
(.reg 3 [oM 2 (cI 16)] [0,2]))
.skip))
(.seq
(.seq
(.reg 4 [oM 7 T0,oQ 8 (.bin .geq T7 (.c (.int .u32 256)))] [0,2,8])
(.cond T8
(.seq
(.reg 5 [oM 9 T0,oQ 10 (.bin .shr T9 (.c (.int .u64 8))),oM 0 T10] [0,2])
(.reg 6 [oM 11 T2,oQ 12 (.bin .add T11 (cI 8)),oM 2 T12] [0,2]))
.skip))
(.seq
(.reg 7 [oM 13 T2,oM 14 T0,oQ 15 (.conv .u8 T14),oQ 16 (.ba9 (.c (.str [0,1,2,2,3,3,3,3,4,4,4,4,4,4,4,4,5,5,5,5,5,5,5,5,5,5,5,5,5,5,5,5,6,6,6,6,6,6,6,6,6,6,6,6,6,6,6,6,6,6,6,6,6,6,6,6,6,6,6,6,6,6,6,6,7,7,7,7,7,7,7,7,7,7,7,7,7,7,7,7,7,7,7,7,7,7,7,7,7,7,7,7,7,7,7,7,7,7,7,7,7,7,7,7,7,7,7,7,7,7,7,7,7,7,7,7,7,7,7,7,7,7,7,7,7,7,7,7,8,8,8,8,8,8,8,8,8,8,8,8,8,8,8,8,8,8,8,8,8,8,8,8,8,8,8,8,8,8,8,8,8,8,8,8,8,8,8,8,8,8,8,8,8,8,8,8,8,8,8,8,8,8,8,8,8,8,8,8,8,8,8,8,8,8,8,8,8,8,8,8,8,8,8,8,8,8,8,8,8,8,8,8,8,8,8,8,8,8,8,8,8,8,8,8,8,8,8,8,8,8,8,8,8,8,8,8,8,8,8,8,8,8,8,8,8,8,8,8,8,8,8,8,8,8,8,8])) T15),oQ 17 (.conv .i64 T16),oQ 18 (.bin .add T13 T17),oM 2 T18] [2])
.ret))))
theorem fok111:FOK Tryz.prog 111 (19,ic111,[(.t 2)]):=ai1 [] Tryz.func111
def ic112:IC :=
(.seq
(.reg 0 [oM 2 (cI 0)] [0,2])
(.seq
(.seq
(.reg 1 [oM 3 T0,oQ 4 (.bin .geq T3 (.c (.int .u64 4294967296)))] [0,2,4])
(.cond T4
(.seq
(.reg 2 [oM 5 T0,oQ 6 (.bin .shr T5 (.c (.int .u64 32))),oM 0 T6] [0])
(.reg 3 [oM 2 (cI 32)] [0,2]))
.skip))
(.seq
(.seq
(.reg 4 [oM 7 T0,oQ 8 (.bin .geq T7 (.c (.int .u64 65536)))] [0,2,8])
(.cond T8
(.seq
(.reg 5 [oM 9 T0,oQ 10 (.bin .shr T9 (.c (.int .u64 16))),oM 0 T10] [0,2])
(.reg 6 [oM 11 T2,oQ 12 (.bin .add T11 (cI 16)),oM 2 T12] [0,2]))
.skip))
(.seq
(.seq
(.reg 7 [oM 13 T0,oQ 14 (.bin .geq T13 (.c (.int .u64 256)))] [0,2,14])
(.cond T14
(.seq
(.reg 8 [oM 15 T0,oQ 16 (.bin .shr T15 (.c (.int .u64 8))),oM 0 T16] [0,2])
(.reg 9 [oM 17 T2,oQ 18 (.bin .add T17 (cI 8)),oM 2 T18] [0,2]))
.skip))
(.seq
(.reg 10 [oM 19 T2,oM 20 T0,oQ 21 (.conv .u8 T20),oQ 22 (.ba9 (.c (.str [0,1,2,2,3,3,3,3,4,4,4,4,4,4,4,4,5,5,5,5,5,5,5,5,5,5,5,5,5,5,5,5,6,6,6,6,6,6,6,6,6,6,6,6,6,6,6,6,6,6,6,6,6,6,6,6,6,6,6,6,6,6,6,6,7,7,7,7,7,7,7,7,7,7,7,7,7,7,7,7,7,7,7,7,7,7,7,7,7,7,7,7,7,7,7,7,7,7,7,7,7,7,7,7,7,7,7,7,7,7,7,7,7,7,7,7,7,7,7,7,7,7,7,7,7,7,7,7,8,8,8,8,8,8,8,8,8,8,8,8,8,8,8,8,8,8,8,8,8,8,8,8,8,8,8,8,8,8,8,8,8,8,8,8,8,8,8,8,8,8,8,8,8,8,8,8,8,8,8,8,8,8,8,8,8,8,8,8,8,8,8,8,8,8,8,8,8,8,8,8,8,8,8,8,8,8,8,8,8,8,8,8,8,8,8,8,8,8,8,8,8,8,8,8,8,8,8,8,8,8,8,8,8,8,8,8,8,8,8,8,8,8,8,8,8,8,8,8,8,8,8,8,8,8,8,8])) T21),oQ 23 (.conv .i64 T22),oQ 24 (.bin .add T19 T23),oM 2 T24] [2])
.ret)))))
theorem fok112:FOK Tryz.prog 112 (25,ic112,[(.t 2)]):=ai1 [] Tryz.func112
def ic113:IC :=
(.seq
(.reg 0 [oK 2 (.aj8 T0),oK 3 (.aj8 T1),oM 4 (cB false)] [2,3])
(.seq
(.seq
(.reg 1 [oQ 6 (.aa7 1 T2),oQ 7 (.load none T6),oQ 8 (.bin .and T7 (.c (zU 7))),oQ 9 (.bin .eql T8 (.c (zU 0))),oM 10 T9,gQ 11 10 false (.aa7 1 T3),gQ 12 10 false (.load none T11),gQ 13 10 false (.bin .and T12 (.c (zU 7))),gQ 14 10 false (.bin .eql T13 (.c (zU 0))),oQ 15 (.pick T10 (cB true) T14)] [2,3,15])
(.cond T15
(.seq
(.reg 2 [oM 4 (cB true)] [4])
.ret)
.skip))
(.seq
(.reg 3 [oQ 16 (.aa7 2 T2),oQ 17 (.load (some 3) T16),oQ 18 (.aa7 2 T3),oQ 19 (.load (some 3) T18),oK 20 (.call 130 [T17,T19]),oM 5 T20] [2,3,5])
(.seq
(.seq
(.reg 4 [oM 21 T5,oQ 22 (.bin .eql T21 (cI 0))] [2,3,5,22])
(.cond T22
(.seq
(.reg 5 [oQ 23 (.aa7 1 T2),oQ 24 (.load none T23),oQ 25 (.aa7 1 T3),oQ 26 (.load none T25),oQ 27 (.bin .and T24 T26),oQ 28 (.bin .and T27 (.c (zU 7))),oQ 29 (.bin .neq T28 (.c (zU 0))),oM 4 T29] [4])
.ret)
.skip))
(.seq
(.dreg 6 [oQ 30 (.aa7 1 T2),oQ 31 (.load none T30),oM 32 T5,oQ 33 (.neg T32),oK 34 (.ae7 131 [T33]),oQ 35 (.bin .and T31 T34),oQ 36 (.bin .neq T35 (.c (zU 0))),oM 37 T36,gQ 38 37 false (.aa7 1 T3),gQ 39 37 false (.load none T38),gQ 40 37 false (.mov T5),gK 41 37 false (.ae7 131 [T40]),gQ 42 37 false (.bin .and T39 T41),gQ 43 37 false (.bin .neq T42 (.c (zU 0))),oQ 44 (.pick T37 (cB true) T43),oM 4 T44] false [4])
.ret)))))
theorem fok113:FOK Tryz.prog 113 (45,ic113,[(.t 4)]):=ai1 ([1000002,1000003]++[131]) Tryz.func113 (by kernel_rfl) (by kernel_rfl) (by kernel_rfl) (by kernel_rfl)
def ic114:IC :=
(.seq
(.reg 0 [oK 3 (.aj8 T1),oK 4 (.alloc [(.str []),(zU 0),(zI 0),(.str []),(.str [])])] [0,3,4])
(.seq
(.reg 1 [oM 5 T0,oQ 6 (.load (some 3) T3),oQ 7 (.bld [(.str []),(zU 0),(zI 0),(.str []),(.str [])] [⟨0,⟨1,T5⟩⟩,⟨1,⟨1,(.c (zU 2))⟩⟩,⟨2,⟨3,T6⟩⟩]),oN (.store 5 T4 T7)] [4])
.ret))
theorem fok114:FOK Tryz.prog 114 (8,ic114,[(.cell (some 5) 4)]):=ai1 [1000003] Tryz.func114
def ic115:IC :=
(.seq
(.reg 0 [oK 2 (.aj8 T0),oK 3 (.aj8 T1),oM 4 (cI 0)] [2,3])
(.seq
(.seq
(.reg 1 [oQ 6 (.aa7 0 T2),oQ 7 (.load none T6),oQ 8 (.aa7 0 T3),oQ 9 (.load none T8),oQ 10 (.bin .lss T7 T9)] [2,3,10])
(.cond T10
(.seq
(.reg 2 [oM 4 (cI (-1))] [4])
.ret)
.skip))
(.seq
(.seq
(.reg 3 [oQ 11 (.aa7 0 T2),oQ 12 (.load none T11),oQ 13 (.aa7 0 T3),oQ 14 (.load none T13),oQ 15 (.bin .gtr T12 T14)] [2,3,15])
(.cond T15
(.seq
(.reg 4 [oM 4 (cI 1)] [4])
.ret)
.skip))
(.seq
(.reg 5 [oQ 16 (.aa7 1 T2),oQ 17 (.load none T16),oQ 18 (.aa7 1 T3),oQ 19 (.load none T18),oK 20 (.call 132 [T17,T19]),oM 5 T20] [2,3,5])
(.seq
(.seq
(.reg 6 [oM 21 T5,oQ 22 (.bin .neq T21 (cI 0)),oM 23 T22,gQ 24 23 false (.aa7 2 T2),gQ 25 23 false (.load none T24),gQ 26 23 false (.bin .eql T25 (.c (.str []))),oQ 27 (.pick T23 (cB true) T26),oM 28 T27,gQ 29 28 false (.aa7 2 T3),gQ 30 28 false (.load none T29),gQ 31 28 false (.bin .eql T30 (.c (.str []))),oQ 32 (.pick T28 (cB true) T31)] [2,3,5,32])
(.cond T32
(.seq
(.reg 7 [oM 33 T5,oM 4 T33] [4])
.ret)
.skip))
(.seq
(.reg 8 [oQ 34 (.aa7 2 T2),oQ 35 (.load none T34),oQ 36 (.aa7 2 T3),oQ 37 (.load none T36),oK 38 (.call 132 [T35,T37]),oM 4 T38] [4])
.ret))))))
theorem fok115:FOK Tryz.prog 115 (39,ic115,[(.t 4)]):=ai1 [1000002,1000003] Tryz.func115
def ic116:IC :=
(.seq
(.reg 0 [oK 3 (.aj8 T1),oK 4 (.alloc [(.str []),(zU 0),(zI 0),(.str []),(.str [])])] [0,3,4])
(.seq
(.reg 1 [oM 5 T0,oQ 6 (.load (some 3) T3),oQ 7 (.bld [(.str []),(zU 0),(zI 0),(.str []),(.str [])] [⟨0,⟨1,T5⟩⟩,⟨1,⟨1,(.c (zU 2))⟩⟩,⟨2,⟨3,T6⟩⟩]),oN (.store 5 T4 T7)] [4])
.ret))
theorem fok116:FOK Tryz.prog 116 (8,ic116,[(.cell (some 5) 4)]):=ai1 [1000003] Tryz.func116
def ic117:IC :=
(.seq
(.reg 0 [oM 4 (cI 0)] [0,1])
(.seq
(.reg 1 [oM 5 T0,oM 6 T1,oQ 7 (.ibs T5 T6),oM 4 T7] [4])
.ret))
theorem fok117:FOK Tryz.prog 117 (8,ic117,[(.t 4)]):=ai1 [] Tryz.func117
def ic118:IC :=
(.seq
(.reg 0 [oM 4 (cB false)] [0,1])
(.seq
(.reg 1 [oM 5 T0,oQ 6 (.len 1 T5),oM 7 T1,oQ 8 (.len 1 T7),oQ 9 (.bin .geq T6 T8),oM 10 T9,gQ 11 10 true (.mov T0),gQ 12 10 true (.mov T1),gQ 13 10 true (.len 1 T12),gQ 14 10 true (.el1 T11 none (some T13)),gQ 15 10 true (.mov T1),gQ 16 10 true (.bin .eql T14 T15),oQ 17 (.pick T10 T16 (cB false)),oM 4 T17] [4])
.ret))
theorem fok118:FOK Tryz.prog 118 (18,ic118,[(.t 4)]):=ai1 [] Tryz.func118
def ic119:IC :=
(.seq
(.reg 0 [oM 2 (.c (.str []))] [0])
(.seq
(.seq
(.reg 1 [oQ 5 (.load none (.g 1)),oK 6 (.at7 T5)] [0,6])
(.block 0
(.loop
(.seq
(.reg 2 [oK 7 (.bm7 T6),oQ 8 (.ext 0 T7)] [0,6,8])
(.seq
(.cond T8
.skip
(.exit 0))
(.block 1
(.seq
(.reg 3 [oK 9 (.dv4 T6),oQ 10 (.ext 0 T9),oQ 11 (.ext 1 T9),oM 3 T10,oM 4 T11] [0,3,4,6])
(.seq
(.reg 4 [oM 12 T4,oM 13 T0,oQ 14 (.bin .eql T12 T13)] [0,3,6,14])
(.cond T14
(.seq
(.reg 5 [oM 15 T3,oM 2 T15] [2])
.ret)
.skip)))))))))
(.seq
(.reg 6 [oM 2 (.c (.str []))] [2])
.ret)))
theorem fok119:FOK Tryz.prog 119 (16,ic119,[(.t 2)]):=ai1 [] Tryz.func119
def ic120:IC :=
(.seq
(.reg 0 [oM 4 (cI 0)] [0,1])
(.seq
(.seq
(.reg 1 [oM 6 T0,oQ 7 (.len 0 T6),oM 8 (cI 0)] [0,1,7,8])
(.block 0
(.loop
(.seq
(.reg 2 [oQ 9 (.bin .lss T8 T7)] [0,1,7,8,9])
(.seq
(.cond T9
.skip
(.exit 0))
(.seq
(.block 1
(.seq
(.reg 3 [oM 10 T8,oM 5 T10] [0,1,5,7,8])
(.seq
(.reg 4 [oM 11 T1,oM 12 T0,oM 13 T5,oQ 14 (.ab5 1 T12 T13),oQ 15 (.load none T14),oK 16 (.ap5 T11 [T15])] [0,1,5,7,8,16])
(.cond T16
(.seq
(.reg 5 [oM 17 T5,oM 4 T17] [4])
.ret)
.skip))))
(.reg 6 [oQ 18 (.bin .add T8 (cI 1)),oM 8 T18] [0,1,7,8])))))))
(.seq
(.reg 7 [oM 4 (cI (-1))] [4])
.ret)))
theorem fok120:FOK Tryz.prog 120 (19,ic120,[(.t 4)]):=ai1 [] Tryz.func120
def ic121:IC :=
(.seq
(.reg 0 [oM 4 (cI 0)] [0,1])
(.seq
(.seq
(.reg 1 [oM 6 T0,oQ 7 (.len 0 T6),oM 8 (cI 0)] [0,1,7,8])
(.block 0
(.loop
(.seq
(.reg 2 [oQ 9 (.bin .lss T8 T7)] [0,1,7,8,9])
(.seq
(.cond T9
.skip
(.exit 0))
(.seq
(.block 1
(.seq
(.reg 3 [oM 10 T8,oM 5 T10] [0,1,5,7,8])
(.seq
(.reg 4 [oM 11 T1,oM 12 T0,oM 13 T5,oQ 14 (.ab5 7 T12 T13),oQ 15 (.load (some 7) T14),oK 16 (.ap5 T11 [T15])] [0,1,5,7,8,16])
(.cond T16
(.seq
(.reg 5 [oM 17 T5,oM 4 T17] [4])
.ret)
.skip))))
(.reg 6 [oQ 18 (.bin .add T8 (cI 1)),oM 8 T18] [0,1,7,8])))))))
(.seq
(.reg 7 [oM 4 (cI (-1))] [4])
.ret)))
theorem fok121:FOK Tryz.prog 121 (19,ic121,[(.t 4)]):=ai1 [] Tryz.func121
end Go.Id.Tryz
