/- The compiled codes of functions,written by a program out of the given form. Conditions: none. -/
import Derived.Test.YtebfbbjghhagbaaGreatDoorFwZb
import Derived.Test.YtebfbbjghhagbaaGreatDoorProg
set_option linter.all false
namespace Go.Id.Tryz
open Go Go.Id Go.Proofs
def id5:List Nat:=List.range 333
def ic58:IC :=
(.seq
(.reg 0 [oK 3 (.ag6 T0),oM 4 (cB false)] [1,2,3])
(.seq
(.reg 1 [oQ 5 (.load none T1),oQ 6 (.load none T2),oQ 7 (.load (some 3) T3),oK 8 (.call 12 [T5,T6,T7]),oQ 9 (.not T8),oM 4 T9] [4])
.ret))
theorem fok58:FOK Tryz.prog 58 (10,ic58,[(.t 4)]):=ae6 [1000003] Tryz.func58
def ic65:IC :=
(.seq
(.reg 0 [oM 4 (cB false)] [0,1])
(.seq
(.reg 1 [oM 5 T0,oQ 6 (.ar9 (.pointer 118) true T5),oM 7 T6,gQ 8 7 true (.mov T1),gQ 9 7 true (.bin .geq T8 (cI 0)),oQ 10 (.pick T7 T9 (cB false)),oM 11 T10,gQ 12 11 true (.mov T1),gQ 13 11 true (.mov T0),gQ 14 11 true (.ak6 T13),gQ 15 11 true (.aa6 7 T14),gQ 16 11 true (.load none T15),gQ 17 11 true (.len 0 T16),gQ 18 11 true (.bin .lss T12 T17),oQ 19 (.pick T11 T18 (cB false)),oM 4 T19] [4])
.ret))
theorem fok65:FOK Tryz.prog 65 (20,ic65,[(.t 4)]):=ae6 [] Tryz.func65
def ic66:IC :=
(.seq
(.reg 0 [oM 4 (cB false)] [0,1])
(.seq
(.reg 1 [oM 5 T0,oM 6 T1,oK 7 (.call 118 [T5,T6]),oQ 8 (.bin .gtr T7 (cI 0)),oM 4 T8] [4])
.ret))
theorem fok66:FOK Tryz.prog 66 (9,ic66,[(.t 4)]):=ae6 [] Tryz.func66
def ic67:IC :=
(.seq
(.reg 0 [oM 4 (cB false)] [0,1])
(.seq
(.reg 1 [oM 5 T0,oK 6 (.call 81 [T5]),oM 7 T6,gQ 8 7 true (.mov T1),gK 9 7 true (.call 81 [T8]),oQ 10 (.pick T7 T9 (cB false)),oM 11 T10,gQ 12 11 true (.mov T0),gQ 13 11 true (.mov T1),gQ 14 11 true (.bin .neq T12 T13),oQ 15 (.pick T11 T14 (cB false)),oM 4 T15] [4])
.ret))
theorem fok67:FOK Tryz.prog 67 (16,ic67,[(.t 4)]):=ae6 [] Tryz.func67
def ic68:IC :=
(.seq
(.reg 0 [oK 2 (.ag6 T0),oK 3 (.ag6 T1),oM 4 (cI 0)] [2,3])
(.seq
(.reg 1 [oQ 5 (.mkf 120 [] [T2,T3]),oQ 6 (.mkf 122 [] [T2,T3]),oQ 7 (.mkf 124 [] [T2,T3]),oK 8 (.av4 1 3 [.ab9] [⟨0,⟨1,T5⟩⟩,⟨1,⟨1,T6⟩⟩,⟨2,⟨1,T7⟩⟩]),oK 9 (.call 119 [T8]),oM 4 T9] [4])
.ret))
theorem fok68:FOK Tryz.prog 68 (10,ic68,[(.t 4)]):=ae6 [1000002,1000003,1000008] Tryz.func68
def ic69:IC :=
(.seq
(.reg 0 [oM 4 (cB false)] [0,1])
(.seq
(.reg 1 [oM 5 T1,oQ 6 (.bin .geq T5 (cI 0)),oM 7 T6,gQ 8 7 true (.mov T1),gQ 9 7 true (.mov T0),gQ 10 7 true (.len 0 T9),gQ 11 7 true (.bin .lss T8 T10),oQ 12 (.pick T7 T11 (cB false)),oM 4 T12] [4])
.ret))
theorem fok69:FOK Tryz.prog 69 (13,ic69,[(.t 4)]):=ae6 [] Tryz.func69
def ic70:IC :=
(.seq
(.reg 0 [oK 2 (.ag6 T0),oK 3 (.ag6 T1),oM 4 (cB false)] [2,3])
(.seq
(.reg 1 [oQ 5 (.aa6 9 T2),oQ 6 (.load none T5),oQ 7 (.mkf 126 [] [T3]),oK 8 (.call 125 [T6,T7]),oM 4 T8] [4])
.ret))
theorem fok70:FOK Tryz.prog 70 (9,ic70,[(.t 4)]):=ae6 [1000002,1000003] Tryz.func70
def ic71:IC :=
(.seq
(.reg 0 [oM 4 (cB false)] [0,1])
(.seq
(.reg 1 [oM 5 T0,oQ 6 (.ar9 (.pointer 118) true T5),oM 7 T6,gQ 8 7 true (.mov T1),gQ 9 7 true (.bin .geq T8 (cI 0)),oQ 10 (.pick T7 T9 (cB false)),oM 11 T10,gQ 12 11 true (.mov T1),gQ 13 11 true (.mov T0),gQ 14 11 true (.ak6 T13),gQ 15 11 true (.aa6 2 T14),gQ 16 11 true (.aa6 2 T15),gQ 17 11 true (.load none T16),gQ 18 11 true (.len 0 T17),gQ 19 11 true (.bin .lss T12 T18),oQ 20 (.pick T11 T19 (cB false)),oM 4 T20] [4])
.ret))
theorem fok71:FOK Tryz.prog 71 (21,ic71,[(.t 4)]):=ae6 [] Tryz.func71
def ic72:IC :=
(.seq
(.reg 0 [oM 6 (cB false)] [0,1,2])
(.seq
(.reg 1 [oM 7 T0,oQ 8 (.ak6 T7),oQ 9 (.aa6 2 T8),oQ 10 (.aa6 3 T9),oQ 11 (.load none T10),oM 12 T1,oM 13 T2,oQ 14 (.bld [(zU 0),(zI 0)] [⟨0,⟨1,T12⟩⟩,⟨1,⟨1,T13⟩⟩]),oK 15 (.call 128 [T11,T14]),oM 6 T15] [6])
.ret))
theorem fok72:FOK Tryz.prog 72 (16,ic72,[(.t 6)]):=ae6 [] Tryz.func72
def ic73:IC :=
(.seq
(.reg 0 [oM 6 (cB false)] [0,1,2])
(.seq
(.reg 1 [oM 7 T2,oM 8 T0,oM 9 T1,oK 10 (.call 130 [T8,T9]),oK 11 (.call 129 [T7,T10]),oM 6 T11] [6])
.ret))
theorem fok73:FOK Tryz.prog 73 (12,ic73,[(.t 6)]):=ae6 [] Tryz.func73
def ic74:IC :=
(.seq
(.reg 0 [oM 6 (cB false)] [0,1,2])
(.seq
(.reg 1 [oM 7 T2,oM 8 T0,oM 9 T1,oK 10 (.call 130 [T8,T9]),oK 11 (.call 129 [T7,T10]),oQ 12 (.not T11),oM 6 T12] [6])
.ret))
theorem fok74:FOK Tryz.prog 74 (13,ic74,[(.t 6)]):=ae6 [] Tryz.func74
def ic75:IC :=
(.seq
(.reg 0 [oK 3 (.ag6 T0),oK 5 (.ag6 T2),oM 6 (cB false)] [1,3,5])
(.seq
(.reg 1 [oQ 7 (.load none T3),oM 8 T1,oK 9 (.call 130 [T7,T8]),oQ 10 (.mkf 131 [] [T5,T3]),oK 11 (.call 99 [T9,T10]),oQ 12 (.not T11),oM 6 T12] [6])
.ret))
theorem fok75:FOK Tryz.prog 75 (13,ic75,[(.t 6)]):=ae6 [1000003,1000005] Tryz.func75
def ic76:IC :=
(.seq
(.reg 0 [oK 3 (.ag6 T0),oK 5 (.ag6 T2),oM 6 (cB false)] [1,3,5])
(.seq
(.reg 1 [oQ 7 (.load none T3),oM 8 T1,oK 9 (.call 130 [T7,T8]),oQ 10 (.mkf 132 [] [T3,T5]),oK 11 (.call 99 [T9,T10]),oQ 12 (.not T11),oM 6 T12] [6])
.ret))
theorem fok76:FOK Tryz.prog 76 (13,ic76,[(.t 6)]):=ae6 [1000003,1000005] Tryz.func76
def ic77:IC :=
(.seq
(.reg 0 [oM 4 (cI 0),oM 5 (cB false)] [0,1])
(.seq
(.seq
(.reg 1 [oM 10 T1,oQ 11 (.bin .gtr T10 (cI 20)),oM 12 T11,gQ 13 12 false (.mov T0),gQ 14 12 false (.len 0 T13),gQ 15 12 false (.bin .gtr T14 (cI 100)),oQ 16 (.pick T12 (cB true) T15)] [0,1,16])
(.cond T16
(.seq
(.reg 2 [oM 4 (cI 0),oM 5 (cB true)] [4,5])
.ret)
.skip))
(.seq
(.reg 3 [oM 6 (cI 0)] [0,1,6])
(.seq
(.seq
(.reg 4 [oM 7 (cI 0)] [0,1,6,7])
(.block 0
(.loop
(.seq
(.seq
(.reg 5 [oM 17 T7,oM 18 T0,oQ 19 (.len 0 T18),oQ 20 (.bin .lss T17 T19)] [0,1,6,7,20])
(.cond T20
.skip
(.exit 0)))
(.seq
(.block 1
(.seq
(.seq
(.ap8 7 [oM 23 T0,oM 24 T7,oQ 25 (.ac4 7 T23 T24),oQ 26 (.aa6 1 T25),oQ 27 (.aa6 0 T26),oQ 28 (.load none T27),oQ 29 (.len 1 T28),oM 30 T0,oM 31 T7,oQ 32 (.ac4 7 T30 T31),oQ 33 (.aa6 1 T32),oQ 34 (.aa6 2 T33),oQ 35 (.aa6 1 T34),oQ 36 (.load none T35),oQ 37 (.len 1 T36),oQ 38 (.bin .add T29 T37),oQ 39 (.bin .gtr T38 (cI 500)),oM 40 T39,gQ 41 40 false (.mov T0),gQ 42 40 false (.mov T7),gQ 43 40 false (.ac4 7 T41 T42),gQ 44 40 false (.aa6 1 T43),gQ 45 40 false (.aa6 2 T44),gQ 46 40 false (.aa6 2 T45),gQ 47 40 false (.load none T46),gQ 48 40 false (.len 1 T47),gQ 49 40 false (.bin .gtr T48 (cI 500)),oQ 50 (.pick T40 (cB true) T49)] false [0,1,6,7,50])
(.cond T50
(.seq
(.reg 8 [oM 4 (cI 0),oM 5 (cB true)] [4,5])
.ret)
.skip))
(.seq
(.reg 9 [oM 52 T0,oM 53 T7,oQ 54 (.ac4 7 T52 T53),oQ 55 (.aa6 6 T54),oQ 56 (.load none T55),oM 57 T1,oQ 58 (.bin .add T57 (cI 1)),oK 59 (.call 77 [T56,T58]),oM 51 T59,oQ 60 (.ext 0 T51),oQ 61 (.ext 1 T51),oM 8 T60,oM 9 T61] [0,1,6,7,8,9])
(.seq
(.reg 10 [oM 62 T6,oQ 63 (.bin .add T62 (cI 1)),oM 64 T8,oQ 65 (.bin .add T63 T64),oM 6 T65] [0,1,6,7,9])
(.seq
(.reg 11 [oM 66 T9,oM 67 T66,gQ 68 67 false (.mov T6),gQ 69 67 false (.bin .gtr T68 (cI 2000)),oQ 70 (.pick T67 (cB true) T69)] [0,1,6,7,70])
(.cond T70
(.seq
(.reg 12 [oM 4 (cI 0),oM 5 (cB true)] [4,5])
.ret)
.skip))))))
(.reg 6 [oM 21 T7,oQ 22 (.bin .add T21 (cI 1)),oM 7 T22] [0,1,6,7]))))))
(.seq
(.reg 13 [oM 71 T6,oM 4 T71,oM 5 (cB false)] [4,5])
.ret)))))
theorem fok77:FOK Tryz.prog 77 (72,ic77,[(.t 4),(.t 5)]):=ae6 [] Tryz.func77
def ic78:IC :=
(.seq
(.reg 0 [oM 8 (cI 0)] [0,1,2,3])
(.seq
(.seq
(.reg 1 [oM 11 T1,oQ 12 (.len 0 T11),oM 13 (cI 0)] [0,2,3,11,12,13])
(.block 0
(.loop
(.seq
(.reg 2 [oQ 14 (.bin .lss T13 T12)] [0,2,3,11,12,13,14])
(.seq
(.cond T14
.skip
(.exit 0))
(.seq
(.block 1
(.seq
(.reg 3 [oQ 15 (.ac4 15 T11 T13),oQ 16 (.load (some 15) T15),oK 10 (.alloc [(.str []),(zI 0),(.str []),(.str []),(zU 0),(.str []),.aa1,.aa1,.aa1,.aa1,.aa1,.aa1,.aa1,.aa1,.aa1]),oN (.store 15 T10 T16)] [0,2,3,10,11,12,13])
(.seq
(.seq
(.reg 4 [oQ 17 (.load (some 15) T10),oK 18 (.af5 134 [T17]),oQ 19 (.not T18)] [0,2,3,10,11,12,13,19])
(.cond T19
(.seq
(.reg 5 [oM 8 (cI 4)] [8])
.ret)
.skip))
(.seq
(.ap8 6 [oM 20 T0,oQ 21 (.ak6 T20),oQ 22 (.aa6 2 T21),oQ 23 (.load none T22),oQ 24 (.aa6 0 T10),oQ 25 (.load none T24),oM 26 T0,oQ 27 (.ak6 T26),oQ 28 (.aa6 2 T27),oQ 29 (.load none T28),oQ 30 (.aa6 0 T10),oQ 31 (.load none T30),oQ 32 (.lkp 2 .aa1 false T29 T31),oM 33 T0,oQ 34 (.ak6 T33),oQ 35 (.aa6 0 T34),oQ 36 (.load none T35),oQ 37 (.len 0 T36),oK 38 (.av4 1 1 [(zI 0)] [⟨0,⟨1,T37⟩⟩]),oK 39 (.app 1 T32 T38),oN (.dc5 2 T23 T25 T39)] true [0,2,3,10,11,12,13])
(.ap8 7 [oM 40 T0,oM 41 T0,oQ 42 (.ak6 T41),oQ 43 (.aa6 0 T42),oQ 44 (.load none T43),oQ 45 (.load (some 15) T10),oK 46 (.af5 135 [T45]),oM 47 T2,oM 48 T3,oQ 49 (.bld [(.str []),(zI 0),(.str []),(.str []),(zU 0),(.str []),.aa1,.aa1,.aa1,.aa1,.aa1,.aa1,.aa1,.aa1,.aa1,(zI 0),(zI 0)] [⟨0,⟨15,T46⟩⟩,⟨15,⟨1,T47⟩⟩,⟨16,⟨1,T48⟩⟩]),oK 50 (.av4 17 1 [(.str []),(zI 0),(.str []),(.str []),(zU 0),(.str []),.aa1,.aa1,.aa1,.aa1,.aa1,.aa1,.aa1,.aa1,.aa1,(zI 0),(zI 0)] [⟨0,⟨17,T49⟩⟩]),oK 51 (.app 17 T44 T50),oQ 52 (.ak6 T40),oQ 53 (.aa6 0 T52),oN (.store 1 T53 T51)] true [0,2,3,11,12,13])))))
(.reg 8 [oQ 54 (.bin .add T13 (cI 1)),oM 13 T54] [0,2,3,11,12,13])))))))
(.seq
(.reg 9 [oM 8 (cI 0)] [8])
.ret)))
theorem fok78:FOK Tryz.prog 78 (55,ic78,[(.t 8)]):=ae6 ([1000038,1000050]++id5) Tryz.func78
def ic79:IC :=
(.seq
(.reg 0 [oK 1 (.ag6 T0),oM 2 (cB false)] [1])
(.seq
(.seq
(.reg 1 [oQ 4 (.aa6 0 T1),oQ 5 (.load none T4),oK 6 (.call 136 [T5]),oQ 7 (.not T6),oM 8 T7,gQ 9 8 false (.aa6 0 T1),gQ 10 8 false (.load none T9),gK 11 8 false (.call 137 [T10]),oQ 12 (.pick T8 (cB true) T11),oM 13 T12,gQ 14 13 false (.aa6 1 T1),gQ 15 13 false (.load (some 3) T14),gK 16 13 false (.call 138 [T15,(cB false)]),gQ 17 13 false (.not T16),oQ 18 (.pick T13 (cB true) T17),oM 19 T18,gQ 20 19 false (.aa6 4 T1),gQ 21 19 false (.load none T20),gK 22 19 false (.call 139 [T21]),gQ 23 19 false (.bin .eql T22 (.c (.str []))),oQ 24 (.pick T19 (cB true) T23),oM 25 T24,gQ 26 25 false (.aa6 5 T1),gQ 27 25 false (.load none T26),gQ 28 25 false (.len 1 T27),gQ 29 25 false (.bin .gtr T28 (cI 64)),oQ 30 (.pick T25 (cB true) T29),oM 31 T30,gQ 32 31 false (.aa6 14 T1),gQ 33 31 false (.load none T32),gQ 34 31 false (.len 0 T33),gQ 35 31 false (.bin .gtr T34 (cI 32)),oQ 36 (.pick T31 (cB true) T35)] [1,36])
(.cond T36
(.seq
(.reg 2 [oM 2 (cB false)] [2])
.ret)
.skip))
(.seq
(.seq
(.reg 3 [oM 3 (cI 0)] [1,3])
(.block 0
(.loop
(.seq
(.seq
(.reg 4 [oM 37 T3,oQ 38 (.aa6 14 T1),oQ 39 (.load none T38),oQ 40 (.len 0 T39),oQ 41 (.bin .lss T37 T40)] [1,3,41])
(.cond T41
.skip
(.exit 0)))
(.seq
(.block 1
(.seq
(.ap8 6 [oQ 44 (.aa6 14 T1),oQ 45 (.load none T44),oM 46 T3,oQ 47 (.ac4 1 T45 T46),oQ 48 (.load none T47),oK 49 (.call 137 [T48]),oQ 50 (.not T49),oM 51 T50,gQ 52 51 false (.mov T3),gQ 53 51 false (.bin .gtr T52 (cI 0)),gQ 54 51 false (.mov T53),gQ 55 54 true (.aa6 14 T1),gQ 56 54 true (.load none T55),gQ 57 54 true (.mov T3),gQ 58 54 true (.bin .sub T57 (cI 1)),gQ 59 54 true (.ac4 1 T56 T58),gQ 60 54 true (.load none T59),gQ 61 54 true (.aa6 14 T1),gQ 62 54 true (.load none T61),gQ 63 54 true (.mov T3),gQ 64 54 true (.ac4 1 T62 T63),gQ 65 54 true (.load none T64),gQ 66 54 true (.bin .geq T60 T65),gQ 67 51 false (.pick T54 T66 (cB false)),oQ 68 (.pick T51 (cB true) T67)] false [1,3,68])
(.cond T68
(.seq
(.reg 7 [oM 2 (cB false)] [2])
.ret)
.skip)))
(.reg 5 [oM 42 T3,oQ 43 (.bin .add T42 (cI 1)),oM 3 T43] [1,3]))))))
(.seq
(.reg 8 [oQ 69 (.aa6 6 T1),oQ 70 (.load none T69),oK 71 (.call 140 [T70]),oM 72 T71,gQ 73 72 true (.aa6 9 T1),gQ 74 72 true (.load none T73),gK 75 72 true (.call 140 [T74]),oQ 76 (.pick T72 T75 (cB false)),oM 77 T76,gQ 78 77 true (.aa6 7 T1),gQ 79 77 true (.load none T78),gK 80 77 true (.call 141 [T79,(.c (zU 1))]),oQ 81 (.pick T77 T80 (cB false)),oM 82 T81,gQ 83 82 true (.aa6 10 T1),gQ 84 82 true (.load none T83),gK 85 82 true (.call 141 [T84,(.c (zU 1))]),oQ 86 (.pick T82 T85 (cB false)),oM 87 T86,gQ 88 87 true (.aa6 12 T1),gQ 89 87 true (.load none T88),gK 90 87 true (.call 141 [T89,(.c (zU 1))]),oQ 91 (.pick T87 T90 (cB false)),oM 92 T91,gQ 93 92 true (.aa6 8 T1),gQ 94 92 true (.load none T93),gK 95 92 true (.call 141 [T94,(.c (zU 2))]),oQ 96 (.pick T92 T95 (cB false)),oM 97 T96,gQ 98 97 true (.aa6 11 T1),gQ 99 97 true (.load none T98),gK 100 97 true (.call 141 [T99,(.c (zU 3))]),oQ 101 (.pick T97 T100 (cB false)),oM 102 T101,gQ 103 102 true (.aa6 13 T1),gQ 104 102 true (.load none T103),gK 105 102 true (.call 141 [T104,(.c (zU 3))]),oQ 106 (.pick T102 T105 (cB false)),oM 2 T106] [2])
.ret))))
theorem fok79:FOK Tryz.prog 79 (107,ic79,[(.t 2)]):=ae6 [1000001] Tryz.func79
def ic80:IC :=
(.seq
(.reg 0 [oK 1 (.ag6 T0),oK 2 (.alloc [(.str []),(zI 0),(.str []),(.str []),(zU 0),(.str []),.aa1,.aa1,.aa1,.aa1,.aa1,.aa1,.aa1,.aa1,.aa1])] [1,2])
(.seq
(.ap8 1 [oQ 3 (.aa6 0 T1),oQ 4 (.load none T3),oQ 5 (.aa6 1 T1),oQ 6 (.load (some 3) T5),oQ 7 (.aa6 4 T1),oQ 8 (.load none T7),oQ 9 (.aa6 5 T1),oQ 10 (.load none T9),oK 11 (.bsl 5 0 [(.str []),(zU 0),(zI 0),(.str []),(.str [])] []),oQ 12 (.aa6 6 T1),oQ 13 (.load none T12),oK 14 (.app 5 T11 T13),oQ 15 (.aa6 7 T1),oQ 16 (.load none T15),oK 17 (.af5 142 [T16]),oQ 18 (.aa6 8 T1),oQ 19 (.load none T18),oK 20 (.af5 142 [T19]),oK 21 (.bsl 5 0 [(.str []),(zU 0),(zI 0),(.str []),(.str [])] []),oQ 22 (.aa6 9 T1),oQ 23 (.load none T22),oK 24 (.app 5 T21 T23),oQ 25 (.aa6 10 T1),oQ 26 (.load none T25),oK 27 (.af5 142 [T26]),oQ 28 (.aa6 11 T1),oQ 29 (.load none T28),oK 30 (.af5 142 [T29]),oQ 31 (.aa6 12 T1),oQ 32 (.load none T31),oK 33 (.af5 142 [T32]),oQ 34 (.aa6 13 T1),oQ 35 (.load none T34),oK 36 (.af5 142 [T35]),oK 37 (.bsl 1 0 [(.str [])] []),oQ 38 (.aa6 14 T1),oQ 39 (.load none T38),oK 40 (.app 1 T37 T39),oQ 41 (.bld [(.str []),(zI 0),(.str []),(.str []),(zU 0),(.str []),.aa1,.aa1,.aa1,.aa1,.aa1,.aa1,.aa1,.aa1,.aa1] [⟨0,⟨1,T4⟩⟩,⟨1,⟨3,T6⟩⟩,⟨4,⟨1,T8⟩⟩,⟨5,⟨1,T10⟩⟩,⟨6,⟨1,T14⟩⟩,⟨7,⟨1,T17⟩⟩,⟨8,⟨1,T20⟩⟩,⟨9,⟨1,T24⟩⟩,⟨10,⟨1,T27⟩⟩,⟨11,⟨1,T30⟩⟩,⟨12,⟨1,T33⟩⟩,⟨13,⟨1,T36⟩⟩,⟨14,⟨1,T40⟩⟩]),oN (.store 15 T2 T41)] true [2])
.ret))
theorem fok80:FOK Tryz.prog 80 (42,ic80,[(.cell (some 15) 2)]):=ae6 ([1000001]++id5) Tryz.func80
def ic81:IC :=
(.seq
(.reg 0 [oM 2 (cB false)] [0])
(.seq
(.reg 1 [oM 3 T0,oK 4 (.call 143 [T3]),oM 5 T4,gQ 6 5 true (.mov T0),gQ 7 5 true (.bin .neq T6 (.c (zU 1))),oQ 8 (.pick T5 T7 (cB false)),oM 2 T8] [2])
.ret))
theorem fok81:FOK Tryz.prog 81 (9,ic81,[(.t 2)]):=ae6 [] Tryz.func81
def ic82:IC :=
(.seq
(.reg 0 [oM 4 (cB false)] [0,1])
(.seq
(.reg 1 [oM 5 T0,oM 6 T1,oK 7 (.call 144 [T5,T6]),oQ 8 (.bin .geq T7 (cI 0)),oM 4 T8] [4])
.ret))
theorem fok82:FOK Tryz.prog 82 (9,ic82,[(.t 4)]):=ae6 [] Tryz.func82
def ic83:IC :=
(.seq
(.reg 0 [oK 1 (.ag6 T0),oM 2 (cB false)] [1])
(.seq
(.reg 1 [oQ 3 (.aa6 0 T1),oQ 4 (.load none T3),oQ 5 (.bin .lss T4 (.c (zU 1))),oM 6 T5,gQ 7 6 false (.aa6 0 T1),gQ 8 6 false (.load none T7),gQ 9 6 false (.bin .gtr T8 (.c (zU 4))),oQ 10 (.pick T6 (cB true) T9),oM 11 T10,gQ 12 11 false (.aa6 1 T1),gQ 13 11 false (.load (some 5) T12),gK 14 11 false (.call 84 [T13]),gQ 15 11 false (.not T14),oQ 16 (.pick T11 (cB true) T15),oM 2 T16] [2])
.ret))
theorem fok83:FOK Tryz.prog 83 (17,ic83,[(.t 2)]):=ae6 [1000001] Tryz.func83
def ic84:IC :=
(.seq
(.reg 0 [oK 1 (.ag6 T0),oM 2 (cB false)] [1])
(.seq
(.block 0
(.seq
(.reg 1 [oQ 4 (.aa6 0 T1),oQ 5 (.load none T4),oK 6 (.call 145 [T5]),oQ 7 (.not T6),oM 8 T7,gQ 9 8 false (.aa6 1 T1),gQ 10 8 false (.load none T9),gK 11 8 false (.call 146 [T10]),gQ 12 8 false (.not T11),oQ 13 (.pick T8 (cB true) T12),oM 3 T13] [1,3])
(.cond T3
(.seq
(.reg 2 [oM 2 (cB false)] [2])
.ret)
(.seq
(.reg 3 [oQ 15 (.aa6 1 T1),oQ 16 (.load none T15),oQ 17 (.bin .eql T16 (.c (zU 0))),oM 14 T17] [1,14])
(.cond T14
(.seq
(.reg 4 [oQ 18 (.aa6 2 T1),oQ 19 (.load (some 3) T18),oQ 20 (.bld [(zI 0),(.str []),(.str [])] []),oQ 21 (.eqs [1,2,2] true false T19 T20),oM 2 T21] [2])
.ret)
.skip)))))
(.seq
(.reg 5 [oQ 22 (.aa6 0 T1),oQ 23 (.load none T22),oK 24 (.call 147 [T23]),oQ 25 (.not T24),oM 26 T25,gQ 27 26 true (.aa6 2 T1),gQ 28 26 true (.load (some 3) T27),gK 29 26 true (.call 148 [T28,(cB true)]),oQ 30 (.pick T26 T29 (cB false)),oM 2 T30] [2])
.ret)))
theorem fok84:FOK Tryz.prog 84 (31,ic84,[(.t 2)]):=ae6 [1000001] Tryz.func84
def ic85:IC :=
(.seq
(.reg 0 [oM 4 (cB false)] [0,1])
(.seq
(.reg 1 [oM 5 T0,oM 6 T1,oK 7 (.call 149 [T5,T6]),oQ 8 (.bin .geq T7 (cI 0)),oM 4 T8] [4])
.ret))
theorem fok85:FOK Tryz.prog 85 (9,ic85,[(.t 4)]):=ae6 [] Tryz.func85
def ic86:IC :=
(.seq
(.reg 0 [oK 3 (.ag6 T0),oM 4 (cB false)] [1,2,3])
(.seq
(.ap8 1 [oQ 5 (.load (some 2) T3),oQ 6 (.aa6 2 T1),oQ 7 (.load none T6),oQ 8 (.len 0 T7),oQ 9 (.load none T2),oK 10 (.af5 88 [T9]),oK 11 (.af5 87 [T5,T8,T10]),oQ 12 (.not T11),oM 4 T12] false [4])
.ret))
theorem fok86:FOK Tryz.prog 86 (13,ic86,[(.t 4)]):=ae6 ([1000003]++[87,88]) Tryz.func86 (by kernel_rfl) (by kernel_rfl) (by kernel_rfl) (by kernel_rfl)
def ic87:IC :=
(.seq
(.reg 0 [oK 3 (.ag6 T0),oM 6 (cB false)] [1,2,3])
(.seq
(.reg 1 [oM 8 T2,oM 7 T8] [1,3,7])
(.seq
(.seq
(.reg 2 [oQ 9 (.aa6 0 T3),oQ 10 (.load none T9),oQ 11 (.bin .eql T10 (.c (zU 1)))] [1,3,7,11])
(.cond T11
(.reg 3 [oM 12 T1,oM 7 T12] [3,7])
.skip))
(.seq
(.reg 4 [oQ 13 (.aa6 0 T3),oQ 14 (.load none T13),oQ 15 (.bin .geq T14 (.c (zU 1))),oM 16 T15,gQ 17 16 true (.aa6 0 T3),gQ 18 16 true (.load none T17),gQ 19 16 true (.bin .leq T18 (.c (zU 4))),oQ 20 (.pick T16 T19 (cB false)),oM 21 T20,gQ 22 21 true (.aa6 1 T3),gQ 23 21 true (.load none T22),gQ 24 21 true (.bin .geq T23 (cI 0)),oQ 25 (.pick T21 T24 (cB false)),oM 26 T25,gQ 27 26 true (.aa6 1 T3),gQ 28 26 true (.load none T27),gQ 29 26 true (.mov T7),gQ 30 26 true (.bin .lss T28 T29),oQ 31 (.pick T26 T30 (cB false)),oM 6 T31] [6])
.ret))))
theorem fok87:FOK Tryz.prog 87 (32,ic87,[(.t 6)]):=ae6 [1000003] Tryz.func87
def ic88:IC :=
(.seq
(.reg 0 [oM 2 (cI 0)] [0])
(.seq
(.seq
(.reg 1 [oM 3 T0,oQ 4 (.ar9 (.pointer 123) false T3)] [0,4])
(.cond T4
(.seq
(.reg 2 [oM 2 (cI 0)] [2])
.ret)
.skip))
(.seq
(.reg 3 [oM 5 T0,oQ 6 (.ak6 T5),oQ 7 (.aa6 1 T6),oQ 8 (.load none T7),oM 2 T8] [2])
.ret)))
theorem fok88:FOK Tryz.prog 88 (9,ic88,[(.t 2)]):=ae6 [] Tryz.func88
def ic89:IC :=
(.seq
(.reg 0 [oM 2 (.c .ab6),oM 3 (cI 0)] [0])
(.seq
(.seq
(.reg 1 [oM 11 T0,oQ 12 (.ar9 (.pointer 123) false T11)] [0,12])
(.cond T12
(.seq
(.reg 2 [oM 2 (.c .ab6),oM 3 (cI 2)] [2,3])
.ret)
.skip))
(.seq
(.reg 3 [oK 13 .bm9,oK 14 .bm9,oK 15 .bm9,oQ 16 (.bld [.aa1,.aj3,.aj3,.aj3] [⟨1,⟨1,T13⟩⟩,⟨2,⟨1,T14⟩⟩,⟨3,⟨1,T15⟩⟩]),oK 17 (.box T16),oM 4 T17] [0,4])
(.seq
(.seq
(.reg 4 [oM 18 T0,oK 19 (.call 27 [T18]),oM 20 (cI 0)] [0,4,19,20])
(.block 0
(.loop
(.seq
(.reg 5 [oQ 21 (.bin .lss T20 T19)] [0,4,19,20,21])
(.seq
(.cond T21
.skip
(.exit 0))
(.seq
(.block 1
(.seq
(.reg 6 [oM 22 T20,oM 5 T22] [0,4,5,19,20])
(.seq
(.reg 7 [oM 24 T0,oM 25 T5,oK 26 (.call 91 [T24,T25]),oM 23 T26,oQ 27 (.ext 0 T23),oQ 28 (.ext 1 T23),oK 6 (.alloc [(.str []),(zI 0),(.str []),(.str []),(zU 0),(.str []),.aa1,.aa1,.aa1,.aa1,.aa1,.aa1,.aa1,.aa1,.aa1]),oN (.store 15 T6 T27),oM 7 T28] [0,4,5,6,7,19,20])
(.seq
(.seq
(.reg 8 [oM 29 T7,oQ 30 (.bin .neq T29 (cI 0))] [0,4,5,6,7,19,20,30])
(.cond T30
(.seq
(.reg 9 [oM 31 T7,oM 2 (.c .ab6),oM 3 T31] [2,3])
.ret)
.skip))
(.seq
(.ap8 10 [oM 32 T4,oM 33 T4,oQ 34 (.ak6 T33),oQ 35 (.aa6 0 T34),oQ 36 (.load none T35),oQ 37 (.load (some 15) T6),oK 38 (.av4 15 1 [(.str []),(zI 0),(.str []),(.str []),(zU 0),(.str []),.aa1,.aa1,.aa1,.aa1,.aa1,.aa1,.aa1,.aa1,.aa1] [⟨0,⟨15,T37⟩⟩]),oK 39 (.app 15 T36 T38),oQ 40 (.ak6 T32),oQ 41 (.aa6 0 T40),oN (.store 1 T41 T39)] true [0,4,5,6,19,20])
(.seq
(.ap8 11 [oM 42 T4,oQ 43 (.ak6 T42),oQ 44 (.aa6 2 T43),oQ 45 (.load none T44),oQ 46 (.aa6 0 T6),oQ 47 (.load none T46),oM 48 T4,oQ 49 (.ak6 T48),oQ 50 (.aa6 2 T49),oQ 51 (.load none T50),oQ 52 (.aa6 0 T6),oQ 53 (.load none T52),oQ 54 (.lkp 2 .aa1 false T51 T53),oM 55 T5,oK 56 (.av4 1 1 [(zI 0)] [⟨0,⟨1,T55⟩⟩]),oK 57 (.app 1 T54 T56),oN (.dc5 2 T45 T47 T57)] true [0,4,5,6,19,20])
(.seq
(.seq
(.reg 12 [oQ 58 (.load (some 15) T6),oK 59 (.call 150 [T58]),oK 60 (.bd3 T59)] [0,4,5,6,19,20,60])
(.block 2
(.loop
(.seq
(.reg 13 [oK 61 (.cd4 T60),oQ 62 (.ext 0 T61)] [0,4,5,6,19,20,60,62])
(.seq
(.cond T62
.skip
(.exit 2))
(.block 3
(.seq
(.reg 14 [oK 63 (.fd8 T60),oQ 64 (.ext 0 T63),oM 8 T64] [0,4,5,6,8,19,20,60])
(.ap8 15 [oM 65 T4,oQ 66 (.ak6 T65),oQ 67 (.aa6 1 T66),oQ 68 (.load none T67),oM 69 T8,oM 70 T4,oQ 71 (.ak6 T70),oQ 72 (.aa6 1 T71),oQ 73 (.load none T72),oM 74 T8,oQ 75 (.lkp 2 .aa1 false T73 T74),oM 76 T5,oK 77 (.av4 1 1 [(zI 0)] [⟨0,⟨1,T76⟩⟩]),oK 78 (.app 1 T75 T77),oN (.dc5 2 T68 T69 T78)] true [0,4,5,6,19,20,60]))))))))
(.seq
(.reg 16 [oQ 79 (.aa6 9 T6),oQ 80 (.load none T79),oQ 81 (.len 0 T80),oM 82 (cI 0)] [0,4,5,19,20,80,81,82])
(.block 4
(.loop
(.seq
(.reg 17 [oQ 83 (.bin .lss T82 T81)] [0,4,5,19,20,80,81,82,83])
(.seq
(.cond T83
.skip
(.exit 4))
(.seq
(.block 5
(.seq
(.reg 18 [oQ 84 (.ac4 5 T80 T82),oQ 85 (.load (some 5) T84),oK 10 (.alloc [(.str []),(zU 0),(zI 0),(.str []),(.str [])]),oN (.store 5 T10 T85)] [0,4,5,10,19,20,80,81,82])
(.seq
(.ap8 19 [oM 86 T4,oQ 87 (.ak6 T86),oQ 88 (.aa6 3 T87),oQ 89 (.load none T88),oQ 90 (.aa6 0 T10),oQ 91 (.load none T90),oQ 92 (.lkp 2 .aa1 false T89 T91),oM 93 T5,oK 94 (.call 151 [T92,T93]),oQ 95 (.not T94)] false [0,4,5,10,19,20,80,81,82,95])
(.cond T95
(.ap8 20 [oM 96 T4,oQ 97 (.ak6 T96),oQ 98 (.aa6 3 T97),oQ 99 (.load none T98),oQ 100 (.aa6 0 T10),oQ 101 (.load none T100),oM 102 T4,oQ 103 (.ak6 T102),oQ 104 (.aa6 3 T103),oQ 105 (.load none T104),oQ 106 (.aa6 0 T10),oQ 107 (.load none T106),oQ 108 (.lkp 2 .aa1 false T105 T107),oM 109 T5,oK 110 (.av4 1 1 [(zI 0)] [⟨0,⟨1,T109⟩⟩]),oK 111 (.app 1 T108 T110),oN (.dc5 2 T99 T101 T111)] true [0,4,5,19,20,80,81,82])
.skip))))
(.reg 21 [oQ 112 (.bin .add T82 (cI 1)),oM 82 T112] [0,4,5,19,20,80,81,82]))))))))))))))
(.reg 22 [oQ 113 (.bin .add T20 (cI 1)),oM 20 T113] [0,4,19,20])))))))
(.seq
(.reg 23 [oM 114 T4,oM 2 T114,oM 3 (cI 0)] [2,3])
.ret)))))
theorem fok89:FOK Tryz.prog 89 (115,ic89,[(.t 2),(.t 3)]):=ae6 [1000038,1000056,1000077,1000110] Tryz.func89
def ic90:IC :=
(.seq
(.reg 0 [oK 1 (.box T0),oK 2 (.alloc [(zU 0),(.bool false),.aa1,.aa1,(zI 0)])] [1,2])
(.seq
(.ap8 1 [oQ 3 (.aa6 2 T1),oQ 4 (.load none T3),oK 5 (.af5 152 [T4]),oQ 6 (.aa6 3 T1),oQ 7 (.load none T6),oK 8 (.af5 153 [T7]),oQ 9 (.aa6 2 T1),oN (.store 1 T9 T5),oQ 10 (.aa6 3 T1),oN (.store 1 T10 T8)] false [1,2])
(.seq
(.reg 2 [oQ 11 (.load (some 5) T1),oN (.store 5 T2 T11)] [2])
.ret)))
theorem fok90:FOK Tryz.prog 90 (12,ic90,[(.cell (some 5) 2)]):=ae6 ([]++[152,153]) Tryz.func90 (by kernel_rfl) (by kernel_rfl) (by kernel_rfl) (by kernel_rfl)
def ic91:IC :=
(.seq
(.reg 0 [oK 4 (.alloc [(.str []),(zI 0),(.str []),(.str []),(zU 0),(.str []),.aa1,.aa1,.aa1,.aa1,.aa1,.aa1,.aa1,.aa1,.aa1]),oM 5 (cI 0)] [0,1,4])
(.seq
(.seq
(.reg 1 [oM 6 T0,oQ 7 (.ar9 (.pointer 123) false T6),oM 8 T7,gQ 9 8 false (.mov T0),gQ 10 8 false (.ak6 T9),gQ 11 8 false (.aa6 0 T10),gQ 12 8 false (.load none T11),gQ 13 8 false (.mov T1),gK 14 8 false (.call 69 [T12,T13]),gQ 15 8 false (.not T14),oQ 16 (.pick T8 (cB true) T15)] [0,1,4,16])
(.cond T16
(.seq
(.reg 2 [oQ 17 (.bld [(.str []),(zI 0),(.str []),(.str []),(zU 0),(.str []),.aa1,.aa1,.aa1,.aa1,.aa1,.aa1,.aa1,.aa1,.aa1] []),oN (.store 15 T4 T17),oM 5 (cI 5)] [4,5])
.ret)
.skip))
(.seq
(.reg 3 [oM 18 T0,oQ 19 (.ak6 T18),oQ 20 (.aa6 0 T19),oQ 21 (.load none T20),oM 22 T1,oQ 23 (.ac4 17 T21 T22),oQ 24 (.aa6 0 T23),oQ 25 (.load (some 15) T24),oK 26 (.call 135 [T25]),oN (.store 15 T4 T26),oM 5 (cI 0)] [4,5])
.ret)))
theorem fok91:FOK Tryz.prog 91 (27,ic91,[(.cell (some 15) 4),(.t 5)]):=ae6 [] Tryz.func91
def ic92:IC :=
(.seq
(.reg 0 [oM 2 (cB false)] [0])
(.seq
(.reg 1 [oM 3 T0,oQ 4 (.bin .geq T3 (.c (zU 2))),oM 5 T4,gQ 6 5 true (.mov T0),gQ 7 5 true (.bin .leq T6 (.c (zU 4))),oQ 8 (.pick T5 T7 (cB false)),oM 2 T8] [2])
.ret))
theorem fok92:FOK Tryz.prog 92 (9,ic92,[(.t 2)]):=ae6 [] Tryz.func92
def ic93:IC :=
(.seq
(.reg 0 [oK 1 (.ag6 T0),oM 2 (cB false)] [1])
(.seq
(.seq
(.reg 1 [oQ 3 (.aa6 0 T1),oQ 4 (.load none T3),oK 5 (.call 136 [T4]),oQ 6 (.not T5),oM 7 T6,gQ 8 7 false (.aa6 1 T1),gQ 9 7 false (.load none T8),gK 10 7 false (.call 154 [T9]),gQ 11 7 false (.not T10),oQ 12 (.pick T7 (cB true) T11)] [1,12])
(.cond T12
(.seq
(.reg 2 [oM 2 (cB false)] [2])
.ret)
.skip))
(.seq
(.seq
(.reg 3 [oQ 13 (.aa6 1 T1),oQ 14 (.load none T13),oQ 15 (.bin .eql T14 (.c (zU 0)))] [1,15])
(.cond T15
(.seq
(.reg 4 [oQ 16 (.aa6 2 T1),oQ 17 (.load (some 3) T16),oQ 18 (.bld [(zI 0),(.str []),(.str [])] []),oQ 19 (.eqs [1,2,2] true false T17 T18),oM 2 T19] [2])
.ret)
.skip))
(.seq
(.reg 5 [oQ 20 (.aa6 0 T1),oQ 21 (.load none T20),oK 22 (.call 137 [T21]),oQ 23 (.not T22),oM 24 T23,gQ 25 24 true (.aa6 2 T1),gQ 26 24 true (.load (some 3) T25),gK 27 24 true (.call 138 [T26,(cB true)]),oQ 28 (.pick T24 T27 (cB false)),oM 2 T28] [2])
.ret))))
theorem fok93:FOK Tryz.prog 93 (29,ic93,[(.t 2)]):=ae6 [1000001] Tryz.func93
def ic94:IC :=
(.seq
(.reg 0 [oM 2 (.c .ab6),oM 3 (cI 0)] [0])
(.seq
(.reg 1 [oM 7 T0,oK 8 (.call 89 [T7]),oM 6 T8,oQ 9 (.ext 0 T6),oQ 10 (.ext 1 T6),oM 4 T9,oM 5 T10] [0,4,5])
(.seq
(.seq
(.reg 2 [oM 11 T5,oQ 12 (.bin .neq T11 (cI 0))] [0,4,5,12])
(.cond T12
(.seq
(.reg 3 [oM 13 T5,oM 2 (.c .ab6),oM 3 T13] [2,3])
.ret)
.skip))
(.seq
(.reg 4 [oM 14 T4,oM 15 T0,oK 16 (.call 27 [T15]),oQ 17 (.bld [.ab6,(zI 0)] [⟨0,⟨1,T14⟩⟩,⟨1,⟨1,T16⟩⟩]),oK 18 (.ag6 T17),oM 2 T18,oM 3 (cI 0)] [2,3])
.ret))))
theorem fok94:FOK Tryz.prog 94 (19,ic94,[(.t 2),(.t 3)]):=ae6 [1000018] Tryz.func94
def ic95:IC :=
(.seq
(.seq
(.reg 0 [oM 11 T0,oQ 12 (.ak6 T11),oQ 13 (.aa6 2 T12),oQ 14 (.load none T13),oQ 15 (.len 0 T14),oM 16 (cI 0)] [0,14,15,16])
(.block 0
(.loop
(.seq
(.reg 1 [oQ 17 (.bin .lss T16 T15)] [0,14,15,16,17])
(.seq
(.cond T17
.skip
(.exit 0))
(.seq
(.block 1
(.seq
(.reg 2 [oM 18 T16,oQ 19 (.ac4 15 T14 T16),oQ 20 (.load (some 15) T19),oK 3 (.alloc [(.str []),(zI 0),(.str []),(.str []),(zU 0),(.str []),.aa1,.aa1,.aa1,.aa1,.aa1,.aa1,.aa1,.aa1,.aa1]),oM 2 T18,oN (.store 15 T3 T20)] [0,2,3,14,15,16])
(.seq
(.seq
(.reg 3 [oM 21 T0,oQ 22 (.ak6 T21),oQ 23 (.aa6 0 T22),oQ 24 (.load none T23),oM 25 T2,oK 26 (.call 29 [T24,T25]),oQ 27 (.not T26)] [0,2,3,14,15,16,27])
(.cond T27
(.reg 4 [oM 28 T0,oM 29 T2,oK 30 (.call 155 [T28,(.c (zU 1)),T29,(cI 0)])] [0,2,3,14,15,16])
.skip))
(.seq
(.reg 5 [oQ 31 (.aa6 7 T3),oQ 32 (.load none T31),oQ 33 (.len 0 T32),oQ 34 (.bld [(zU 0),(zI 0)] [⟨0,⟨1,(.c (zU 2))⟩⟩,⟨1,⟨1,T33⟩⟩]),oQ 35 (.aa6 8 T3),oQ 36 (.load none T35),oQ 37 (.len 0 T36),oQ 38 (.bld [(zU 0),(zI 0)] [⟨0,⟨1,(.c (zU 3))⟩⟩,⟨1,⟨1,T37⟩⟩]),oQ 39 (.aa6 9 T3),oQ 40 (.load none T39),oQ 41 (.len 0 T40),oQ 42 (.bld [(zU 0),(zI 0)] [⟨0,⟨1,(.c (zU 4))⟩⟩,⟨1,⟨1,T41⟩⟩]),oQ 43 (.bld [(zU 0),(zI 0),(zU 0),(zI 0),(zU 0),(zI 0)] [⟨0,⟨2,T34⟩⟩,⟨2,⟨2,T38⟩⟩,⟨4,⟨2,T42⟩⟩]),oM 44 (cI 0)] [0,2,14,15,16,43,44])
(.block 2
(.loop
(.seq
(.reg 6 [oQ 45 (.bin .lss T44 (cI 3))] [0,2,14,15,16,43,44,45])
(.seq
(.cond T45
.skip
(.exit 2))
(.seq
(.block 3
(.seq
(.reg 7 [oQ 46 (.idx (some 2) 3 2 T43 T44),oK 5 (.alloc [(zU 0),(zI 0)]),oN (.store 2 T5 T46)] [0,2,5,14,15,16,43,44])
(.seq
(.reg 8 [oQ 47 (.aa6 1 T5),oQ 48 (.load none T47),oM 49 (cI 0)] [0,2,5,14,15,16,43,44,48,49])
(.block 4
(.loop
(.seq
(.reg 9 [oQ 50 (.bin .lss T49 T48)] [0,2,5,14,15,16,43,44,48,49,50])
(.seq
(.cond T50
.skip
(.exit 4))
(.seq
(.block 5
(.seq
(.reg 10 [oM 51 T49,oM 6 T51] [0,2,5,6,14,15,16,43,44,48,49])
(.reg 11 [oM 52 T0,oQ 53 (.aa6 0 T5),oQ 54 (.load none T53),oM 55 T2,oM 56 T6,oK 57 (.call 155 [T52,T54,T55,T56])] [0,2,5,14,15,16,43,44,48,49])))
(.reg 12 [oQ 58 (.bin .add T49 (cI 1)),oM 49 T58] [0,2,5,14,15,16,43,44,48,49])))))))))
(.reg 13 [oQ 59 (.bin .add T44 (cI 1)),oM 44 T59] [0,2,14,15,16,43,44]))))))))))
(.reg 14 [oQ 60 (.bin .add T16 (cI 1)),oM 16 T60] [0,14,15,16])))))))
(.seq
(.seq
(.reg 15 [oM 61 T0,oQ 62 (.ak6 T61),oQ 63 (.aa6 2 T62),oQ 64 (.load none T63),oQ 65 (.len 0 T64),oM 66 (cI 0)] [0,65,66])
(.block 6
(.loop
(.seq
(.reg 16 [oQ 67 (.bin .lss T66 T65)] [0,65,66,67])
(.seq
(.cond T67
.skip
(.exit 6))
(.seq
(.block 7
(.seq
(.reg 17 [oM 68 T66,oM 7 T68] [0,7,65,66])
(.seq
(.reg 18 [oM 69 T7,oQ 70 (.bin .add T69 (cI 1)),oM 8 T70] [0,7,8,65,66])
(.block 8
(.loop
(.seq
(.seq
(.reg 19 [oM 71 T8,oM 72 T0,oQ 73 (.ak6 T72),oQ 74 (.aa6 2 T73),oQ 75 (.load none T74),oQ 76 (.len 0 T75),oQ 77 (.bin .lss T71 T76)] [0,7,8,65,66,77])
(.cond T77
.skip
(.exit 8)))
(.seq
(.block 9
(.seq
(.reg 21 [oM 80 T0,oQ 81 (.ak6 T80),oQ 82 (.aa6 0 T81),oQ 83 (.load none T82),oM 84 T7,oM 85 T8,oK 86 (.call 30 [T83,T84,T85])] [0,7,8,65,66,86])
(.cond T86
(.reg 22 [oM 87 T0,oM 88 T7,oM 89 T8,oK 90 (.call 155 [T87,(.c (zU 5)),T88,T89])] [0,7,8,65,66])
.skip)))
(.reg 20 [oM 78 T8,oQ 79 (.bin .add T78 (cI 1)),oM 8 T79] [0,7,8,65,66]))))))))
(.reg 23 [oQ 91 (.bin .add T66 (cI 1)),oM 66 T91] [0,65,66])))))))
(.seq
(.seq
(.reg 24 [oM 92 T0,oQ 93 (.ak6 T92),oQ 94 (.aa6 0 T93),oQ 95 (.load none T94),oK 96 (.call 26 [T95]),oK 97 (.call 88 [T96]),oM 98 (cI 0)] [0,97,98])
(.block 10
(.loop
(.seq
(.reg 25 [oQ 99 (.bin .lss T98 T97)] [0,97,98,99])
(.seq
(.cond T99
.skip
(.exit 10))
(.seq
(.block 11
(.seq
(.reg 26 [oM 100 T98,oM 9 T100] [0,9,97,98])
(.seq
(.reg 27 [oM 101 T0,oQ 102 (.ak6 T101),oQ 103 (.aa6 0 T102),oQ 104 (.load none T103),oM 105 T9,oK 106 (.call 156 [T104,T105]),oQ 107 (.not T106)] [0,9,97,98,107])
(.cond T107
(.reg 28 [oM 108 T0,oM 109 T9,oK 110 (.call 155 [T108,(.c (zU 6)),T109,(cI 0)])] [0,97,98])
.skip))))
(.reg 29 [oQ 111 (.bin .add T98 (cI 1)),oM 98 T111] [0,97,98])))))))
(.seq
(.reg 30 [oM 112 T0,oQ 113 (.ak6 T112),oQ 114 (.aa6 0 T113),oQ 115 (.load none T114),oK 116 (.call 157 [T115]),oQ 117 (.fld none 2 T116),oQ 118 (.len 0 T117),oM 119 (cI 0)] [0,118,119])
(.block 12
(.loop
(.seq
(.reg 31 [oQ 120 (.bin .lss T119 T118)] [0,118,119,120])
(.seq
(.cond T120
.skip
(.exit 12))
(.seq
(.block 13
(.seq
(.reg 32 [oM 121 T119,oM 10 T121] [0,10,118,119])
(.seq
(.reg 33 [oM 122 T0,oQ 123 (.ak6 T122),oQ 124 (.aa6 0 T123),oQ 125 (.load none T124),oM 126 T10,oK 127 (.call 32 [T125,T126]),oQ 128 (.not T127)] [0,10,118,119,128])
(.cond T128
(.reg 34 [oM 129 T0,oM 130 T10,oK 131 (.call 155 [T129,(.c (zU 7)),T130,(cI 0)])] [0,118,119])
.skip))))
(.reg 35 [oQ 132 (.bin .add T119 (cI 1)),oM 119 T132] [0,118,119]))))))))))
theorem fok95:FOK Tryz.prog 95 (133,ic95,[]):=ae6 [] Tryz.func95
def ic96:IC :=
(.seq
(.reg 0 [oK 2 (.ag6 T0),oM 4 (cB false)] [1,2])
(.seq
(.reg 1 [oQ 5 (.aa6 1 T2),oQ 6 (.load none T5),oM 7 T1,oK 8 (.call 151 [T6,T7]),oM 4 T8] [4])
.ret))
theorem fok96:FOK Tryz.prog 96 (9,ic96,[(.t 4)]):=ae6 [1000002] Tryz.func96
def ic97:IC :=
(.seq
(.reg 0 [oK 5 (.ag6 T2),oM 6 (cB false)] [0,1,5])
(.seq
(.ap8 1 [oM 7 T0,oQ 8 (.ar9 (.pointer 184) true T7),oM 9 T8,gQ 10 9 true (.load (some 7) T5),gK 11 9 true (.af5 158 [T10]),oQ 12 (.pick T9 T11 (cB false)),oM 13 T12,gQ 14 13 true (.mov T0),gQ 15 13 true (.mov T1),gK 16 13 true (.af5 159 [T14,T15]),gQ 17 13 true (.load (some 7) T5),gK 18 13 true (.af5 160 [T16,T17]),oQ 19 (.pick T13 T18 (cB false)),oM 6 T19] false [6])
.ret))
theorem fok97:FOK Tryz.prog 97 (20,ic97,[(.t 6)]):=ae6 ([1000005]++[158,159,160]) Tryz.func97 (by kernel_rfl) (by kernel_rfl) (by kernel_rfl) (by kernel_rfl)
def ic98:IC :=
(.seq
(.reg 0 [oK 6 (.ag6 T2),oK 7 (.ag6 T3),oM 8 (cB false)] [0,1,6,7])
(.seq
(.gq5 1 [(0,oM 9 T0,0),(1,oM 10 T1,0),(3,oQ 12 (.mkf 163 [] [T6]),0),(5,oQ 14 (.ldt (some 7) T7),0),(2,oK 11 (.call 162 [T10]),0),(4,oK 13 (.call 161 [T11,T12]),0),(6,oK 15 (.call 97 [T9,T13,T14]),0),(7,oM 8 T15,0)] [8])
.ret))
theorem fok98:FOK Tryz.prog 98 (16,ic98,[(.t 8)]):=ae6 [1000006,1000007,1000014] Tryz.func98
def ic99:IC :=
(.seq
(.reg 0 [oM 4 (cB false)] [0,1])
(.seq
(.reg 1 [oM 5 T0,oM 6 T1,oK 7 (.call 164 [T5,T6]),oQ 8 (.bin .geq T7 (cI 0)),oM 4 T8] [4])
.ret))
theorem fok99:FOK Tryz.prog 99 (9,ic99,[(.t 4)]):=ae6 [] Tryz.func99
def ic100:IC :=
(.seq
(.reg 0 [oM 2 (.c .ab6)] [0])
(.seq
(.seq
(.reg 1 [oM 3 T0,oQ 4 (.ar9 (.pointer 118) false T3)] [0,4])
(.cond T4
(.seq
(.reg 2 [oM 2 (.c .ab6)] [2])
.ret)
.skip))
(.seq
(.reg 3 [oM 5 T0,oQ 6 (.ak6 T5),oQ 7 (.aa6 1 T6),oQ 8 (.load none T7),oM 2 T8] [2])
.ret)))
theorem fok100:FOK Tryz.prog 100 (9,ic100,[(.t 2)]):=ae6 [] Tryz.func100
def ic101:IC :=
(.seq
(.reg 0 [oK 3 (.ag6 T1),oM 4 (.c .aa1)] [0,3])
(.seq
(.seq
(.reg 1 [oM 5 T0,oQ 6 (.ar9 (.pointer 178) false T5)] [0,3,6])
(.cond T6
(.seq
(.reg 2 [oM 4 (.c .aa1)] [4])
.ret)
.skip))
(.seq
(.ap8 3 [oM 7 T0,oM 8 T0,oQ 9 (.ak6 T8),oQ 10 (.aa6 2 T9),oQ 11 (.load none T10),oQ 12 (.aa6 0 T3),oQ 13 (.load none T12),oQ 14 (.lkp 2 .aa1 false T11 T13),oQ 15 (.mkf 166 [] [T3]),oK 16 (.call 165 [T7,T14,T15]),oM 4 T16] false [4])
.ret)))
theorem fok101:FOK Tryz.prog 101 (17,ic101,[(.t 4)]):=ae6 [1000003] Tryz.func101
def ic102:IC :=
(.seq
(.reg 0 [oM 3 (cB false)] [0,1])
(.seq
(.reg 1 [oM 4 T0,oQ 5 (.aa6 2 T1),oQ 6 (.aa6 1 T5),oQ 7 (.load none T6),oQ 8 (.bin .neq T4 T7),oM 9 T8,gQ 10 9 true (.load (some 5) T1),gQ 11 9 true (.mov T0),gK 12 9 true (.call 96 [T10,T11]),oQ 13 (.pick T9 T12 (cB false)),oM 3 T13] [3])
.ret))
theorem fok102:FOK Tryz.prog 102 (14,ic102,[(.t 3)]):=ae6 [] Tryz.func102
def ic103:IC :=
(.seq
(.reg 0 [oK 2 (.ag6 T0),oM 4 (.c .aa1)] [1,2])
(.seq
(.seq
(.reg 1 [oQ 12 (.load none T2),oM 13 T1,oK 14 (.call 167 [T12,T13]),oQ 15 (.not T14)] [1,2,15])
(.cond T15
(.seq
(.reg 2 [oM 4 (.c .aa1)] [4])
.ret)
.skip))
(.seq
(.reg 3 [oQ 16 (.load none T2),oQ 17 (.ak6 T16),oQ 18 (.aa6 7 T17),oQ 19 (.load none T18),oM 20 T1,oQ 21 (.ac4 15 T19 T20),oQ 22 (.load (some 15) T21),oK 5 (.alloc [(.str []),(zI 0),(.str []),(.str []),(zU 0),(.str []),.aa1,.aa1,.aa1,.aa1,.aa1,.aa1,.aa1,.aa1,.aa1]),oN (.store 15 T5 T22)] [1,2,5])
(.seq
(.reg 4 [oQ 23 (.load none T2),oM 24 T1,oK 25 (.call 72 [T23,(.c (zU 3)),T24]),oM 26 T25,gQ 27 26 false (.load none T2),gQ 28 26 false (.mov T1),gK 29 26 false (.call 168 [T27,(.c (zU 4)),T28]),oQ 30 (.pick T26 (cB true) T29),oK 6 (.alloc [(.bool false)]),oN (.store 1 T6 T30)] [1,2,5,6])
(.seq
(.reg 5 [oQ 31 (.load none T2),oM 32 T1,oK 33 (.call 72 [T31,(.c (zU 4)),T32]),oK 7 (.alloc [(.bool false)]),oN (.store 1 T7 T33)] [1,2,5,6,7])
(.seq
(.reg 6 [oQ 34 (.mkf 169 [] [T5,T6,T7,T2]),oM 8 T34] [1,2,8])
(.seq
(.reg 7 [oQ 35 (.load none T2),oQ 36 (.ak6 T35),oQ 37 (.aa6 1 T36),oQ 38 (.load none T37),oM 39 T1,oK 40 (.call 171 [T38,T39]),oM 9 T40] [1,2,8,9])
(.seq
(.seq
(.reg 8 [oQ 41 (.load none T2),oQ 42 (.ak6 T41),oQ 43 (.aa6 7 T42),oQ 44 (.load none T43),oQ 45 (.len 0 T44),oM 46 (cI 0)] [1,8,9,44,45,46])
(.block 0
(.loop
(.seq
(.reg 9 [oQ 47 (.bin .lss T46 T45)] [1,8,9,44,45,46,47])
(.seq
(.cond T47
.skip
(.exit 0))
(.seq
(.block 1
(.seq
(.reg 10 [oM 48 T46,oQ 49 (.ac4 15 T44 T46),oQ 50 (.load (some 15) T49),oK 11 (.alloc [(.str []),(zI 0),(.str []),(.str []),(zU 0),(.str []),.aa1,.aa1,.aa1,.aa1,.aa1,.aa1,.aa1,.aa1,.aa1]),oM 10 T48,oN (.store 15 T11 T50)] [1,8,9,10,11,44,45,46])
(.seq
(.reg 11 [oM 51 T10,oM 52 T1,oQ 53 (.bin .eql T51 T52),oM 54 T53,gQ 55 54 false (.mov T8),gQ 56 54 false (.load (some 15) T11),gK 57 54 false (.ao5 T55 [T56]),oQ 58 (.pick T54 (cB true) T57)] [1,8,9,10,44,45,46,58])
(.cond T58
(.reg 12 [oM 59 T9,oM 60 T10,oK 61 (.av4 1 1 [(zI 0)] [⟨0,⟨1,T60⟩⟩]),oK 62 (.app 1 T59 T61),oM 9 T62] [1,8,9,44,45,46])
.skip))))
(.reg 13 [oQ 63 (.bin .add T46 (cI 1)),oM 46 T63] [1,8,9,44,45,46])))))))
(.seq
(.reg 14 [oM 64 T9,oK 65 (.call 172 [T64])] [9])
(.seq
(.reg 15 [oM 66 T9,oK 67 (.call 173 [T66]),oM 4 T67] [4])
.ret))))))))))
theorem fok103:FOK Tryz.prog 103 (68,ic103,[(.t 4)]):=ae6 [1000002,1000061] Tryz.func103
def ic104:IC :=
(.seq
(.reg 0 [oM 4 (cI 0)] [0,1])
(.seq
(.seq
(.reg 1 [oM 6 T0,oQ 7 (.len 0 T6),oM 8 (cI 0)] [0,1,7,8])
(.block 0
(.loop
(.seq
(.reg 2 [oQ 9 (.bin .lss T8 T7)] [0,1,7,8,9])
(.seq
(.cond T9
.skip
(.exit 0))
(.seq
(.block 1
(.seq
(.reg 3 [oM 10 T8,oM 5 T10] [0,1,5,7,8])
(.seq
(.reg 4 [oM 11 T1,oM 12 T0,oM 13 T5,oQ 14 (.ac4 3 T12 T13),oQ 15 (.load (some 3) T14),oK 16 (.ao5 T11 [T15])] [0,1,5,7,8,16])
(.cond T16
(.seq
(.reg 5 [oM 17 T5,oM 4 T17] [4])
.ret)
.skip))))
(.reg 6 [oQ 18 (.bin .add T8 (cI 1)),oM 8 T18] [0,1,7,8])))))))
(.seq
(.reg 7 [oM 4 (cI (-1))] [4])
.ret)))
theorem fok104:FOK Tryz.prog 104 (19,ic104,[(.t 4)]):=ae6 [] Tryz.func104
def ic118:IC :=
(.seq
(.reg 0 [oM 4 (cI 0)] [0,1])
(.seq
(.seq
(.reg 1 [oM 5 T0,oK 6 (.call 143 [T5]),oQ 7 (.not T6),oM 8 T7,gQ 9 8 false (.mov T1),gK 10 8 false (.call 143 [T9]),gQ 11 8 false (.not T10),oQ 12 (.pick T8 (cB true) T11)] [0,1,12])
(.cond T12
(.seq
(.reg 2 [oM 4 (cI 0)] [4])
.ret)
.skip))
(.seq
(.reg 3 [oK 13 (.call 187 []),oM 14 T0,oQ 15 (.idx (some 5) 5 5 T13 T14),oM 16 T1,oQ 17 (.idx none 5 1 T15 T16),oM 4 T17] [4])
.ret)))
theorem fok118:FOK Tryz.prog 118 (18,ic118,[(.t 4)]):=ae6 [] Tryz.func118
def ic119:IC :=
(.seq
(.reg 0 [oM 2 (cI 0)] [0])
(.seq
(.seq
(.reg 1 [oM 6 T0,oQ 7 (.len 0 T6),oM 8 (cI 0)] [6,7,8])
(.block 0
(.loop
(.seq
(.reg 2 [oQ 9 (.bin .lss T8 T7)] [6,7,8,9])
(.seq
(.cond T9
.skip
(.exit 0))
(.seq
(.block 1
(.seq
(.reg 3 [oQ 10 (.ac4 1 T6 T8),oQ 11 (.load none T10),oM 4 T11] [4,6,7,8])
(.seq
(.reg 4 [oM 12 T4,oK 13 (.ao5 T12 []),oM 5 T13] [5,6,7,8])
(.seq
(.reg 5 [oM 14 T5,oQ 15 (.bin .neq T14 (cI 0))] [5,6,7,8,15])
(.cond T15
(.seq
(.reg 6 [oM 16 T5,oM 2 T16] [2])
.ret)
.skip)))))
(.reg 7 [oQ 17 (.bin .add T8 (cI 1)),oM 8 T17] [6,7,8])))))))
(.seq
(.reg 8 [oM 2 (cI 0)] [2])
.ret)))
theorem fok119:FOK Tryz.prog 119 (18,ic119,[(.t 2)]):=ae6 [] Tryz.func119
def ic120:IC :=
(.seq
(.reg 0 [oM 2 (cI 0)] [0,1])
(.seq
(.reg 1 [oQ 3 (.aa6 0 T0),oQ 4 (.load none T3),oQ 5 (.aa6 0 T1),oQ 6 (.load none T5),oK 7 (.call 121 [T4,T6]),oM 2 T7] [2])
.ret))
theorem fok120:FOK Tryz.prog 120 (8,ic120,[(.t 2)]):=ae6 [] Tryz.func120
def ic121:IC :=
(.seq
(.reg 0 [oM 4 (cI 0)] [0,1])
(.seq
(.reg 1 [oM 7 T0,oK 8 (.call 188 [T7]),oM 5 T8] [0,1,5])
(.seq
(.reg 2 [oM 9 T1,oK 10 (.call 188 [T9]),oM 6 T10] [0,1,5,6])
(.seq
(.seq
(.reg 3 [oM 11 T5] [0,1,6,11])
(.cond T11
(.seq
(.seq
(.reg 4 [oM 12 T6] [12])
(.cond T12
(.seq
(.reg 5 [oM 4 (cI 0)] [4])
.ret)
.skip))
(.seq
(.reg 6 [oM 4 (cI (-1))] [4])
.ret))
.skip))
(.seq
(.seq
(.reg 7 [oM 13 T6] [0,1,13])
(.cond T13
(.seq
(.reg 8 [oM 4 (cI 1)] [4])
.ret)
.skip))
(.seq
(.seq
(.reg 9 [oM 14 T0,oM 15 T1,oQ 16 (.bin .lss T14 T15)] [0,1,16])
(.cond T16
(.seq
(.reg 10 [oM 4 (cI (-1))] [4])
.ret)
.skip))
(.seq
(.seq
(.reg 11 [oM 17 T0,oM 18 T1,oQ 19 (.bin .gtr T17 T18)] [19])
(.cond T19
(.seq
(.reg 12 [oM 4 (cI 1)] [4])
.ret)
.skip))
(.seq
(.reg 13 [oM 4 (cI 0)] [4])
.ret))))))))
theorem fok121:FOK Tryz.prog 121 (20,ic121,[(.t 4)]):=ae6 [] Tryz.func121
def ic122:IC :=
(.seq
(.reg 0 [oM 2 (cI 0)] [0,1])
(.seq
(.reg 1 [oQ 3 (.aa6 1 T0),oQ 4 (.load none T3),oQ 5 (.aa6 1 T1),oQ 6 (.load none T5),oK 7 (.call 123 [T4,T6]),oM 2 T7] [2])
.ret))
theorem fok122:FOK Tryz.prog 122 (8,ic122,[(.t 2)]):=ae6 [] Tryz.func122
def ic123:IC :=
(.seq
(.reg 0 [oM 4 (cI 0)] [0,1])
(.seq
(.reg 1 [oM 9 T0,oK 10 (.call 189 [T9]),oQ 11 (.bld [(zU 0),(.str [])] [⟨0,⟨1,(.c (zU 2))⟩⟩]),oK 12 (.av4 2 1 [(zU 0),(.str [])] [⟨0,⟨2,T11⟩⟩]),oK 13 (.app 2 T10 T12),oM 14 T1,oK 15 (.call 189 [T14]),oQ 16 (.bld [(zU 0),(.str [])] [⟨0,⟨1,(.c (zU 2))⟩⟩]),oK 17 (.av4 2 1 [(zU 0),(.str [])] [⟨0,⟨2,T16⟩⟩]),oK 18 (.app 2 T15 T17),oM 5 T13,oM 6 T18] [5,6])
(.seq
(.seq
(.reg 2 [oM 19 T5,oQ 20 (.len 0 T19),oM 21 T6,oQ 22 (.len 0 T21),oQ 23 (.mm false T20 T22),oM 24 (cI 0)] [5,6,23,24])
(.block 0
(.loop
(.seq
(.reg 3 [oQ 25 (.bin .lss T24 T23)] [5,6,23,24,25])
(.seq
(.cond T25
.skip
(.exit 0))
(.seq
(.block 1
(.seq
(.reg 4 [oM 26 T24,oM 7 T26] [5,6,7,23,24])
(.seq
(.ap8 5 [oM 27 T5,oM 28 T7,oQ 29 (.ac4 2 T27 T28),oQ 30 (.load (some 2) T29),oM 31 T6,oM 32 T7,oQ 33 (.ac4 2 T31 T32),oQ 34 (.load (some 2) T33),oK 35 (.call 190 [T30,T34]),oM 8 T35] false [5,6,8,23,24])
(.seq
(.reg 6 [oM 36 T8,oQ 37 (.bin .neq T36 (cI 0))] [5,6,8,23,24,37])
(.cond T37
(.seq
(.reg 7 [oM 38 T8,oM 4 T38] [4])
.ret)
.skip)))))
(.reg 8 [oQ 39 (.bin .add T24 (cI 1)),oM 24 T39] [5,6,23,24])))))))
(.seq
(.reg 9 [oM 4 (cI 0)] [4])
.ret))))
theorem fok123:FOK Tryz.prog 123 (40,ic123,[(.t 4)]):=ae6 [1000012,1000017] Tryz.func123
def ic124:IC :=
(.seq
(.reg 0 [oM 2 (cI 0)] [0,1])
(.seq
(.seq
(.reg 1 [oQ 3 (.aa6 2 T0),oQ 4 (.load none T3),oQ 5 (.bin .eql T4 (.c (.str []))),oM 6 T5,gQ 7 6 false (.aa6 2 T1),gQ 8 6 false (.load none T7),gQ 9 6 false (.bin .eql T8 (.c (.str []))),oQ 10 (.pick T6 (cB true) T9)] [0,1,10])
(.cond T10
(.seq
(.reg 2 [oM 2 (cI 0)] [2])
.ret)
.skip))
(.seq
(.reg 3 [oQ 11 (.aa6 2 T0),oQ 12 (.load none T11),oQ 13 (.aa6 2 T1),oQ 14 (.load none T13),oK 15 (.call 123 [T12,T14]),oM 2 T15] [2])
.ret)))
theorem fok124:FOK Tryz.prog 124 (16,ic124,[(.t 2)]):=ae6 [] Tryz.func124
def ic125:IC :=
(.seq
(.reg 0 [oM 4 (cB false)] [0,1])
(.seq
(.reg 1 [oM 5 T0,oM 6 T1,oK 7 (.call 191 [T5,T6]),oQ 8 (.bin .geq T7 (cI 0)),oM 4 T8] [4])
.ret))
theorem fok125:FOK Tryz.prog 125 (9,ic125,[(.t 4)]):=ae6 [] Tryz.func125
def ic126:IC :=
(.seq
(.reg 0 [oK 2 (.ag6 T0),oM 3 (cB false)] [1,2])
(.seq
(.reg 1 [oQ 4 (.load (some 15) T1),oQ 5 (.load (some 5) T2),oK 6 (.call 127 [T4,T5]),oM 3 T6] [3])
.ret))
theorem fok126:FOK Tryz.prog 126 (7,ic126,[(.t 3)]):=ae6 [1000002] Tryz.func126
def ic127:IC :=
(.seq
(.reg 0 [oK 2 (.ag6 T0),oK 3 (.ag6 T1),oM 4 (cB false)] [2,3])
(.seq
(.ap8 1 [oQ 5 (.load (some 15) T2),oK 6 (.af5 193 [T5]),oQ 7 (.load (some 5) T3),oK 8 (.af5 192 [T6,T7]),oM 4 T8] false [4])
.ret))
theorem fok127:FOK Tryz.prog 127 (9,ic127,[(.t 4)]):=ae6 ([1000002,1000003]++[192,193]) Tryz.func127 (by kernel_rfl) (by kernel_rfl) (by kernel_rfl) (by kernel_rfl)
def ic128:IC :=
(.seq
(.reg 0 [oK 3 (.ag6 T1),oM 4 (cB false)] [0,3])
(.seq
(.reg 1 [oM 5 T0,oQ 6 (.load (some 2) T3),oK 7 (.call 194 [T5,T6]),oQ 8 (.bin .geq T7 (cI 0)),oM 4 T8] [4])
.ret))
theorem fok128:FOK Tryz.prog 128 (9,ic128,[(.t 4)]):=ae6 [1000003] Tryz.func128
def ic129:IC :=
(.seq
(.reg 0 [oK 2 (.ag6 T0),oM 4 (cB false)] [1,2])
(.seq
(.reg 1 [oM 5 T1,oQ 6 (.mkf 195 [] [T2]),oK 7 (.call 99 [T5,T6]),oM 4 T7] [4])
.ret))
theorem fok129:FOK Tryz.prog 129 (8,ic129,[(.t 4)]):=ae6 [1000002] Tryz.func129
def ic130:IC :=
(.seq
(.reg 0 [oK 2 (.ag6 T0),oM 4 (.c .aa1)] [1,2])
(.seq
(.seq
(.reg 1 [oQ 7 (.load none T2),oM 8 T1,oK 9 (.call 71 [T7,T8]),oQ 10 (.not T9)] [1,2,10])
(.cond T10
(.seq
(.reg 2 [oM 4 (.c .aa1)] [4])
.ret)
.skip))
(.seq
(.reg 3 [oQ 11 (.load none T2),oQ 12 (.ak6 T11),oQ 13 (.aa6 2 T12),oQ 14 (.aa6 2 T13),oQ 15 (.load none T14),oM 16 T1,oQ 17 (.ac4 6 T15 T16),oQ 18 (.load (some 6) T17),oK 5 (.alloc [(zU 0),(.str []),(zU 0),(zI 0),(.str []),(.str [])]),oN (.store 6 T5 T18)] [2,5])
(.seq
(.seq
(.reg 4 [oQ 19 (.aa6 0 T5),oQ 20 (.load none T19),oQ 21 (.bin .eql T20 (.c (zU 1)))] [2,5,21])
(.cond T21
(.seq
(.ap8 5 [oQ 22 (.load none T2),oQ 23 (.ak6 T22),oQ 24 (.aa6 1 T23),oQ 25 (.load none T24),oQ 26 (.aa6 1 T5),oQ 27 (.load (some 5) T26),oK 28 (.call 196 [T25,T27]),oM 4 T28] false [4])
.ret)
.skip))
(.seq
(.ap8 6 [oQ 29 (.load none T2),oQ 30 (.ak6 T29),oQ 31 (.aa6 1 T30),oQ 32 (.load none T31),oQ 33 (.aa6 1 T5),oQ 34 (.load (some 5) T33),oK 35 (.call 101 [T32,T34]),oM 6 T35] false [2,5,6])
(.seq
(.seq
(.reg 7 [oQ 36 (.aa6 0 T5),oQ 37 (.load none T36),oQ 38 (.bin .eql T37 (.c (zU 2)))] [2,6,38])
(.cond T38
(.seq
(.reg 8 [oM 39 T6,oM 4 T39] [4])
.ret)
.skip))
(.seq
(.reg 9 [oM 40 T6,oQ 41 (.mkf 197 [] [T2]),oK 42 (.call 161 [T40,T41]),oM 4 T42] [4])
.ret)))))))
theorem fok130:FOK Tryz.prog 130 (43,ic130,[(.t 4)]):=ae6 [1000002] Tryz.func130
def ic131:IC :=
(.seq
(.reg 0 [oM 4 (cB false)] [0,1,2])
(.seq
(.ap8 1 [oQ 5 (.load none T1),oQ 6 (.load none T2),oM 7 T0,oK 8 (.af5 103 [T6,T7]),oK 9 (.af5 129 [T5,T8]),oQ 10 (.not T9),oM 4 T10] false [4])
.ret))
theorem fok131:FOK Tryz.prog 131 (11,ic131,[(.t 4)]):=ae6 ([]++[103,129]) Tryz.func131 (by kernel_rfl) (by kernel_rfl) (by kernel_rfl) (by kernel_rfl)
def ic132:IC :=
(.seq
(.reg 0 [oM 4 (cB false)] [0,1,2])
(.seq
(.reg 1 [oQ 6 (.load none T1),oM 7 T0,oK 8 (.call 133 [T6,T7]),oM 5 T8] [2,5])
(.seq
(.reg 2 [oM 9 T5,oQ 10 (.len 0 T9),oQ 11 (.bin .gtr T10 (cI 0)),oM 12 T11,gQ 13 12 true (.load none T2),gQ 14 12 true (.mov T5),gK 15 12 true (.call 129 [T13,T14]),gQ 16 12 true (.not T15),oQ 17 (.pick T12 T16 (cB false)),oM 4 T17] [4])
.ret)))
theorem fok132:FOK Tryz.prog 132 (18,ic132,[(.t 4)]):=ae6 [] Tryz.func132
def ic133:IC :=
(.seq
(.reg 0 [oK 2 (.ag6 T0),oM 4 (.c .aa1)] [1,2])
(.seq
(.seq
(.reg 1 [oQ 5 (.load none T2),oM 6 T1,oK 7 (.call 167 [T5,T6]),oQ 8 (.not T7)] [1,2,8])
(.cond T8
(.seq
(.reg 2 [oM 4 (.c .aa1)] [4])
.ret)
.skip))
(.seq
(.reg 3 [oQ 9 (.load none T2),oM 10 T1,oK 11 (.call 103 [T9,T10]),oQ 12 (.mkf 198 [] [T2]),oK 13 (.call 161 [T11,T12]),oM 4 T13] [4])
.ret)))
theorem fok133:FOK Tryz.prog 133 (14,ic133,[(.t 4)]):=ae6 [1000002] Tryz.func133
def ic134:IC :=
(.seq
(.reg 0 [oK 1 (.ag6 T0),oK 2 (.alloc [(.bool false)])] [1,2])
(.seq
(.block 0
(.seq
(.reg 1 [oQ 8 (.aa6 0 T1),oQ 9 (.load none T8),oK 10 (.call 145 [T9]),oQ 11 (.not T10),oM 12 T11,gQ 13 12 false (.aa6 0 T1),gQ 14 12 false (.load none T13),gK 15 12 false (.call 147 [T14]),oQ 16 (.pick T12 (cB true) T15),oM 17 T16,gQ 18 17 false (.aa6 1 T1),gQ 19 17 false (.load (some 3) T18),gK 20 17 false (.call 148 [T19,(cB false)]),gQ 21 17 false (.not T20),oQ 22 (.pick T17 (cB true) T21),oM 7 T22] [1,2,7])
(.cond T7
(.seq
(.reg 2 [oN (.store 1 T2 (cB false))] [2])
.ret)
(.seq
(.reg 3 [oQ 24 (.aa6 4 T1),oQ 25 (.load none T24),oK 26 (.call 199 [T25]),oQ 27 (.bin .eql T26 (.c (.str []))),oM 28 T27,gQ 29 28 false (.aa6 5 T1),gQ 30 28 false (.load none T29),gQ 31 28 false (.len 1 T30),gQ 32 28 false (.bin .gtr T31 (cI 64)),oQ 33 (.pick T28 (cB true) T32),oM 23 T33] [1,2,23])
(.cond T23
(.seq
(.reg 4 [oN (.store 1 T2 (cB false))] [2])
.ret)
(.seq
(.reg 5 [oQ 35 (.aa6 6 T1),oQ 36 (.load none T35),oK 37 (.call 200 [T36,(cI 32),(.f 84)]),oQ 38 (.not T37),oM 39 T38,gQ 40 39 false (.aa6 9 T1),gQ 41 39 false (.load none T40),gK 42 39 false (.call 200 [T41,(cI 32),(.f 84)]),gQ 43 39 false (.not T42),oQ 44 (.pick T39 (cB true) T43),oM 45 T44,gQ 46 45 false (.aa6 14 T1),gQ 47 45 false (.load none T46),gK 48 45 false (.call 201 [T47,(cI 32),(.f 147)]),gQ 49 45 false (.not T48),oQ 50 (.pick T45 (cB true) T49),oM 34 T50] [1,2,34])
(.cond T34
(.seq
(.reg 6 [oN (.store 1 T2 (cB false))] [2])
.ret)
.skip)))))))
(.seq
(.seq
(.reg 7 [oQ 51 (.aa6 14 T1),oQ 52 (.load none T51),oQ 53 (.len 0 T52),oM 54 (cI 0)] [1,2,52,53,54])
(.block 1
(.loop
(.seq
(.reg 8 [oQ 55 (.bin .lss T54 T53)] [1,2,52,53,54,55])
(.seq
(.cond T55
.skip
(.exit 1))
(.seq
(.block 2
(.seq
(.reg 9 [oM 56 T54,oQ 57 (.ac4 1 T52 T54),oQ 58 (.load none T57),oM 3 T56,oM 4 T58] [1,2,3,4,52,53,54])
(.seq
(.reg 10 [oM 59 T3,oQ 60 (.bin .gtr T59 (cI 0)),oM 61 T60,gQ 62 61 true (.aa6 14 T1),gQ 63 61 true (.load none T62),gQ 64 61 true (.mov T3),gQ 65 61 true (.bin .sub T64 (cI 1)),gQ 66 61 true (.ac4 1 T63 T65),gQ 67 61 true (.load none T66),gQ 68 61 true (.mov T4),gQ 69 61 true (.bin .geq T67 T68),oQ 70 (.pick T61 T69 (cB false))] [1,2,52,53,54,70])
(.cond T70
(.seq
(.reg 11 [oN (.store 1 T2 (cB false))] [2])
.ret)
.skip))))
(.reg 12 [oQ 71 (.bin .add T54 (cI 1)),oM 54 T71] [1,2,52,53,54])))))))
(.seq
(.seq
(.reg 13 [oQ 72 (.load (some 15) T1),oK 73 (.call 202 [T72])] [2,73])
(.block 3
(.bt1 T73 [74,75]
(.seq
(.reg 14 [oK 5 (.alloc [(zU 0)]),oN (.store 1 T5 T74)] [2,5,75])
(.reg 15 [oM 6 T75] [2,5,6]))
(.block 4
(.seq
(.reg 16 [oM 76 T6,oQ 77 (.mkf 204 [] [T5]),oK 78 (.call 203 [T76,(cI 32),T77]),oQ 79 (.not T78)] [2,79])
(.cond T79
(.seq
(.reg 17 [oN (.store 1 T2 (cB false))] [])
.ret)
.skip))))))
(.seq
(.reg 18 [oN (.store 1 T2 (cB true))] [2])
.ret)))))
theorem fok134:FOK Tryz.prog 134 (80,ic134,[(.cell none 2)]):=ae6 [1000001] Tryz.func134
def ic135:IC :=
(.seq
(.reg 0 [oK 1 (.box T0),oK 2 (.alloc [(.str []),(zI 0),(.str []),(.str []),(zU 0),(.str []),.aa1,.aa1,.aa1,.aa1,.aa1,.aa1,.aa1,.aa1,.aa1])] [1,2])
(.seq
(.ap8 1 [oQ 7 (.aa6 6 T1),oQ 8 (.load none T7),oK 9 (.af5 206 [T8]),oQ 10 (.aa6 9 T1),oQ 11 (.load none T10),oK 12 (.af5 206 [T11]),oQ 13 (.aa6 14 T1),oQ 14 (.load none T13),oK 15 (.af5 207 [T14]),oQ 16 (.aa6 6 T1),oN (.store 1 T16 T9),oQ 17 (.aa6 9 T1),oN (.store 1 T17 T12),oQ 18 (.aa6 14 T1),oN (.store 1 T18 T15)] false [1,2])
(.seq
(.seq
(.reg 2 [oQ 19 (.aa6 7 T1),oQ 20 (.aa6 8 T1),oQ 21 (.aa6 10 T1),oQ 22 (.aa6 11 T1),oQ 23 (.aa6 12 T1),oQ 24 (.aa6 13 T1),oK 25 (.av4 1 6 [.ab6] [⟨0,⟨1,T19⟩⟩,⟨1,⟨1,T20⟩⟩,⟨2,⟨1,T21⟩⟩,⟨3,⟨1,T22⟩⟩,⟨4,⟨1,T23⟩⟩,⟨5,⟨1,T24⟩⟩]),oQ 26 (.len 0 T25),oM 27 (cI 0)] [1,2,25,26,27])
(.block 0
(.loop
(.seq
(.reg 3 [oQ 28 (.bin .lss T27 T26)] [1,2,25,26,27,28])
(.seq
(.cond T28
.skip
(.exit 0))
(.seq
(.block 1
(.seq
(.reg 4 [oQ 29 (.ac4 1 T25 T27),oQ 30 (.load none T29),oM 4 T30] [1,2,4,25,26,27])
(.seq
(.reg 5 [oM 31 T4,oM 32 T4,oQ 33 (.ak6 T32),oQ 34 (.load none T33),oK 35 (.call 208 [T34]),oQ 36 (.ak6 T31),oN (.store 1 T36 T35)] [1,2,4,25,26,27])
(.seq
(.reg 6 [oM 37 T4,oQ 38 (.ak6 T37),oQ 39 (.load none T38),oQ 40 (.len 0 T39),oM 41 (cI 0)] [1,2,4,25,26,27,39,40,41])
(.block 2
(.loop
(.seq
(.reg 7 [oQ 42 (.bin .lss T41 T40)] [1,2,4,25,26,27,39,40,41,42])
(.seq
(.cond T42
.skip
(.exit 2))
(.seq
(.block 3
(.seq
(.reg 8 [oM 43 T41,oQ 44 (.ac4 7 T39 T41),oQ 45 (.load (some 7) T44),oK 6 (.alloc [(zU 0),(.str []),(zU 0),(zI 0),(.str []),(.str []),.aa1]),oM 5 T43,oN (.store 7 T6 T45)] [1,2,4,5,6,25,26,27,39,40,41])
(.ap8 9 [oM 46 T4,oQ 47 (.ak6 T46),oQ 48 (.load none T47),oM 49 T5,oQ 50 (.load (some 7) T6),oK 51 (.af5 209 [T50]),oQ 52 (.ac4 7 T48 T49),oN (.store 7 T52 T51)] false [1,2,4,25,26,27,39,40,41])))
(.reg 10 [oQ 53 (.bin .add T41 (cI 1)),oM 41 T53] [1,2,4,25,26,27,39,40,41]))))))))))
(.reg 11 [oQ 54 (.bin .add T27 (cI 1)),oM 27 T54] [1,2,25,26,27])))))))
(.seq
(.reg 12 [oQ 55 (.load (some 15) T1),oN (.store 15 T2 T55)] [2])
.ret))))
theorem fok135:FOK Tryz.prog 135 (56,ic135,[(.cell (some 15) 2)]):=ae6 ([1000025]++List.filter (fun k=>k != 208) id5) Tryz.func135
def ic136:IC :=
(.seq
(.reg 0 [oM 2 (cB false)] [0])
(.seq
(.seq
(.reg 1 [oM 4 T0,oQ 5 (.len 1 T4),oQ 6 (.bin .lss T5 (cI 1)),oM 7 T6,gQ 8 7 false (.mov T0),gQ 9 7 false (.len 1 T8),gQ 10 7 false (.bin .gtr T9 (cI 64)),oQ 11 (.pick T7 (cB true) T10),oM 12 T11,gQ 13 12 false (.mov T0),gQ 14 12 false (.bin .eql T13 (.c (.str [97,110,100]))),oQ 15 (.pick T12 (cB true) T14),oM 16 T15,gQ 17 16 false (.mov T0),gQ 18 16 false (.bin .eql T17 (.c (.str [111,114]))),oQ 19 (.pick T16 (cB true) T18),oM 20 T19,gQ 21 20 false (.mov T0),gQ 22 20 false (.bin .eql T21 (.c (.str [105,102]))),oQ 23 (.pick T20 (cB true) T22),oM 24 T23,gQ 25 24 false (.mov T0),gQ 26 24 false (.bin .eql T25 (.c (.str [101,108,115,101]))),oQ 27 (.pick T24 (cB true) T26),oM 28 T27,gQ 29 28 false (.mov T0),gQ 30 28 false (.bin .eql T29 (.c (.str [117,110,108,101,115,115]))),oQ 31 (.pick T28 (cB true) T30),oM 32 T31,gQ 33 32 false (.mov T0),gQ 34 32 false (.bin .eql T33 (.c (.str [119,105,116,104]))),oQ 35 (.pick T32 (cB true) T34),oM 36 T35,gQ 37 36 false (.mov T0),gQ 38 36 false (.bin .eql T37 (.c (.str [119,105,116,104,111,117,116]))),oQ 39 (.pick T36 (cB true) T38)] [0,39])
(.cond T39
(.seq
(.reg 2 [oM 2 (cB false)] [2])
.ret)
.skip))
(.seq
(.seq
(.reg 3 [oM 3 (cI 0)] [0,3])
(.block 0
(.loop
(.seq
(.seq
(.reg 4 [oM 40 T3,oM 41 T0,oQ 42 (.len 1 T41),oQ 43 (.bin .lss T40 T42)] [0,3,43])
(.cond T43
.skip
(.exit 0)))
(.seq
(.block 1
(.seq
(.reg 6 [oM 46 T0,oM 47 T3,oQ 48 (.eq2 T46 T47),oK 49 (.call 210 [T48]),oQ 50 (.not T49)] [0,3,50])
(.cond T50
(.seq
(.reg 7 [oM 2 (cB false)] [2])
.ret)
.skip)))
(.reg 5 [oM 44 T3,oQ 45 (.bin .add T44 (cI 1)),oM 3 T45] [0,3]))))))
(.seq
(.reg 8 [oM 2 (cB true)] [2])
.ret))))
theorem fok136:FOK Tryz.prog 136 (51,ic136,[(.t 2)]):=ae6 [] Tryz.func136
def ic137:IC :=
(.seq
(.reg 0 [oM 2 (cB false)] [0])
(.seq
(.reg 1 [oM 3 T0,oK 4 (.call 136 [T3]),oM 5 T4,gQ 6 5 true (.mov T0),gQ 7 5 true (.eq2 T6 (cI 0)),gQ 8 5 true (.bin .eql T7 (.c (zU 47))),oQ 9 (.pick T5 T8 (cB false)),oM 2 T9] [2])
.ret))
theorem fok137:FOK Tryz.prog 137 (10,ic137,[(.t 2)]):=ae6 [] Tryz.func137
def ic138:IC :=
(.seq
(.reg 0 [oK 2 (.ag6 T0),oM 4 (cB false)] [1,2])
(.seq
(.seq
(.reg 1 [oQ 5 (.aa6 0 T2),oQ 6 (.load none T5),oQ 7 (.bin .lss T6 (cI 0)),oM 8 T7,gQ 9 8 false (.aa6 0 T2),gQ 10 8 false (.load none T9),gQ 11 8 false (.bin .gtr T10 (cI 2147483647)),oQ 12 (.pick T8 (cB true) T11),oM 13 T12,gQ 14 13 false (.aa6 1 T2),gQ 15 13 false (.load none T14),gK 16 13 false (.call 211 [T15]),gQ 17 13 false (.not T16),oQ 18 (.pick T13 (cB true) T17)] [1,2,18])
(.cond T18
(.seq
(.reg 2 [oM 4 (cB false)] [4])
.ret)
.skip))
(.seq
(.seq
(.reg 3 [oQ 19 (.aa6 2 T2),oQ 20 (.load none T19),oQ 21 (.bin .eql T20 (.c (.str [])))] [1,2,21])
(.cond T21
(.seq
(.reg 4 [oM 22 T1,oM 4 T22] [4])
.ret)
.skip))
(.seq
(.reg 5 [oQ 23 (.aa6 2 T2),oQ 24 (.load none T23),oK 25 (.call 211 [T24]),oM 4 T25] [4])
.ret))))
theorem fok138:FOK Tryz.prog 138 (26,ic138,[(.t 4)]):=ae6 [1000002] Tryz.func138
def ic139:IC :=
(.seq
(.reg 0 [oM 2 (.c (.str []))] [0])
(.seq
(.seq
(.reg 1 [oM 3 T0] [3])
(.block 0
(.seq
(.reg 2 [oQ 5 (.bin .eql T3 (.c (zU 1))),oM 4 T5] [3,4])
(.cond T4
(.seq
(.reg 3 [oM 2 (.c (.str [110,111,97,114,99,104]))] [2])
.ret)
(.seq
(.reg 4 [oQ 7 (.bin .eql T3 (.c (zU 2))),oM 6 T7] [3,6])
(.cond T6
(.seq
(.reg 5 [oM 2 (.c (.str [120,56,54,95,54,52]))] [2])
.ret)
(.seq
(.reg 6 [oQ 9 (.bin .eql T3 (.c (zU 3))),oM 8 T9] [3,8])
(.cond T8
(.seq
(.reg 7 [oM 2 (.c (.str [105,54,56,54]))] [2])
.ret)
(.seq
(.reg 8 [oQ 11 (.bin .eql T3 (.c (zU 4))),oM 10 T11] [10])
(.cond T10
(.seq
(.reg 9 [oM 2 (.c (.str [97,97,114,99,104,54,52]))] [2])
.ret)
.skip))))))))))
(.seq
(.reg 10 [oM 2 (.c (.str []))] [2])
.ret)))
theorem fok139:FOK Tryz.prog 139 (12,ic139,[(.t 2)]):=ae6 [] Tryz.func139
end Go.Id.Tryz
