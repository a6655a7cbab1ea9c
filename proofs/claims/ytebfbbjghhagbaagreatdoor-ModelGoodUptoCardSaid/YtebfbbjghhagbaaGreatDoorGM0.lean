/- The compiled codes of functions,written by a program out of the given form. Conditions: none. -/
import Derived.Test.YtebfbbjghhagbaaGreatDoorFwZb
import Derived.Test.YtebfbbjghhagbaaGreatDoorProg
set_option linter.all false
namespace Go.Id.Tryz
open Go Go.Id Go.Proofs
def jp6:List Nat:=List.range 333
def ic6:IC :=
(.seq
(.reg 0 [oK 6 (.ag6 T2),oM 8 (cB false)] [0,1,3,6])
(.seq
(.seq
(.reg 1 [oM 20 T0,oM 21 T1,oQ 22 (.load (some 5) T6),oK 23 (.call 8 [T20,T21,T22,(cI 40)]),oM 24 T23,gQ 25 24 false (.mov T3),gQ 26 24 false (.len 0 T25),gQ 27 24 false (.bin .gtr T26 (cI 100)),oQ 28 (.pick T24 (cB true) T27),oM 29 T28,gK 30 29 false (.call 9 []),gQ 31 29 false (.not T30),oQ 32 (.pick T29 (cB true) T31)] [0,1,3,6,32])
(.cond T32
(.seq
(.reg 2 [oK 33 (.call 9 []),oM 8 T33] [8])
.ret)
.skip))
(.seq
(.reg 3 [oM 35 T0,oM 36 T1,oQ 37 (.load (some 5) T6),oK 38 (.call 10 [T35,T36,T37]),oM 34 T38,oQ 39 (.ext 0 T34),oQ 40 (.ext 1 T34),oQ 41 (.ext 2 T34),oQ 42 (.ext 3 T34),oQ 43 (.ext 4 T34),oM 9 T39,oM 10 T40,oM 11 T41,oM 12 T42,oM 13 T43] [3,9,12,13])
(.seq
(.seq
(.reg 4 [oM 44 T12,oQ 45 (.not T44)] [3,9,13,45])
(.cond T45
(.seq
(.reg 5 [oM 46 T13,oQ 47 (.not T46),oM 8 T47] [8])
.ret)
.skip))
(.seq
(.reg 6 [oM 48 T9,oK 49 (.call 11 [T48]),oM 50 T9,oM 51 T3,oK 52 (.call 13 [T50,T51]),oM 14 T49,oM 15 T52] [3,9,14,15])
(.seq
(.reg 7 [oM 16 (cI 0)] [3,9,14,15,16])
(.seq
(.seq
(.reg 8 [oM 17 (cI 0)] [3,9,14,15,16,17])
(.block 0
(.loop
(.seq
(.seq
(.reg 9 [oM 53 T17,oM 54 T14,oQ 55 (.len 0 T54),oQ 56 (.bin .lss T53 T55)] [3,9,14,15,16,17,56])
(.cond T56
.skip
(.exit 0)))
(.seq
(.block 1
(.seq
(.seq
(.reg 11 [oM 59 T9,oM 60 T14,oM 61 T17,oQ 62 (.ac4 3 T60 T61),oQ 63 (.load (some 3) T62),oK 64 (.call 21 [T59,T63]),oQ 65 (.not T64)] [3,9,14,15,16,17,65])
(.cond T65
(.seq
(.reg 12 [oM 8 (cB false)] [8])
.ret)
.skip))
(.seq
(.seq
(.reg 13 [oM 66 T9,oM 67 T3,oM 68 T14,oM 69 T17,oQ 70 (.ac4 3 T68 T69),oQ 71 (.load (some 3) T70),oK 72 (.call 12 [T66,T67,T71])] [3,9,14,15,16,17,72])
(.cond T72
(.exit 1)
.skip))
(.seq
(.seq
(.ap8 14 [oM 73 T16,oM 74 T15,oQ 75 (.len 0 T74),oQ 76 (.bin .geq T73 T75),oM 77 T76,gQ 78 77 false (.mov T15),gQ 79 77 false (.mov T16),gQ 80 77 false (.ac4 3 T78 T79),gQ 81 77 false (.load (some 3) T80),gQ 82 77 false (.mov T14),gQ 83 77 false (.mov T17),gQ 84 77 false (.ac4 3 T82 T83),gQ 85 77 false (.load (some 3) T84),gQ 86 77 false (.eqs [1,1,1] true true T81 T85),oQ 87 (.pick T77 (cB true) T86)] false [3,9,14,15,16,17,87])
(.cond T87
(.seq
(.reg 15 [oM 8 (cB false)] [8])
.ret)
.skip))
(.reg 16 [oM 88 T16,oQ 89 (.bin .add T88 (cI 1)),oM 16 T89] [3,9,14,15,16,17])))))
(.reg 10 [oM 57 T17,oQ 58 (.bin .add T57 (cI 1)),oM 17 T58] [3,9,14,15,16,17]))))))
(.seq
(.reg 17 [oM 18 (.c .aa1)] [3,9,14,15,16,18])
(.seq
(.seq
(.reg 18 [oM 90 T3,oQ 91 (.len 0 T90),oQ 92 (.bin .sub T91 (cI 1)),oM 19 T92] [3,9,14,15,16,18,19])
(.block 2
(.loop
(.seq
(.seq
(.reg 19 [oM 93 T19,oQ 94 (.bin .geq T93 (cI 0))] [3,9,14,15,16,18,19,94])
(.cond T94
.skip
(.exit 2)))
(.seq
(.block 3
(.ap8 21 [oM 97 T18,oM 98 T3,oM 99 T19,oQ 100 (.ac4 1 T98 T99),oQ 101 (.load none T100),oM 102 T3,oM 103 T19,oQ 104 (.ac4 1 T102 T103),oQ 105 (.load none T104),oK 106 (.av4 1 3 [(zI 0)] [⟨0,⟨1,T101⟩⟩,⟨1,⟨1,T105⟩⟩,⟨2,⟨1,(cI (-5))⟩⟩]),oK 107 (.app 1 T97 T106),oM 18 T107] true [3,9,14,15,16,18,19]))
(.reg 20 [oM 95 T19,oQ 96 (.bin .sub T95 (cI 1)),oM 19 T96] [3,9,14,15,16,18,19]))))))
(.seq
(.reg 22 [oM 108 T16,oM 109 T15,oQ 110 (.len 0 T109),oQ 111 (.bin .eql T108 T110),oM 112 T111,gQ 113 112 true (.mov T9),gQ 114 112 true (.mov T3),gK 115 112 true (.call 17 [T113,T114]),gQ 116 112 true (.mov T16),gQ 117 112 true (.bin .eql T116 (cI 0)),gQ 118 112 true (.eqs [0] false false T115 T117),oQ 119 (.pick T112 T118 (cB false)),oM 120 T119,gQ 121 120 true (.mov T9),gQ 122 120 true (.mov T3),gQ 123 120 true (.mov T14),gK 124 120 true (.call 19 [T121,T122,T123]),gQ 125 120 true (.mov T16),gQ 126 120 true (.bin .eql T125 (cI 0)),gQ 127 120 true (.eqs [0] false false T124 T126),oQ 128 (.pick T120 T127 (cB false)),oM 129 T128,gQ 130 129 true (.mov T9),gQ 131 129 true (.mov T3),gK 132 129 true (.call 19 [T130,T131,(.c .aa1)]),oQ 133 (.pick T129 T132 (cB false)),oM 134 T133,gQ 135 134 true (.mov T9),gQ 136 134 true (.mov T18),gK 137 134 true (.call 13 [T135,T136]),gQ 138 134 true (.mov T15),gK 139 134 true (.call 14 [T137,T138]),oQ 140 (.pick T134 T139 (cB false)),oM 8 T140] [8])
.ret))))))))))
theorem fok6:FOK Tryz.prog 6 (141,ic6,[(.t 8)]):=ae6 [1000006,1000106] Tryz.func6
def ic8:IC :=
(.seq
(.reg 0 [oK 6 (.ag6 T2),oM 8 (cB false)] [0,1,3,6])
(.seq
(.seq
(.reg 1 [oM 13 T0,oQ 14 (.len 0 T13),oQ 15 (.bin .gtr T14 (cI 30)),oM 16 T15,gQ 17 16 false (.mov T1),gQ 18 16 false (.len 0 T17),gQ 19 16 false (.mov T3),gQ 20 16 false (.bin .gtr T18 T19),oQ 21 (.pick T16 (cB true) T20),oM 22 T21,gQ 23 22 false (.aa6 2 T6),gQ 24 22 false (.load none T23),gQ 25 22 false (.len 0 T24),gQ 26 22 false (.bin .gtr T25 (cI 20)),oQ 27 (.pick T22 (cB true) T26),oM 28 T27,gQ 29 28 false (.aa6 3 T6),gQ 30 28 false (.load none T29),gQ 31 28 false (.len 0 T30),gQ 32 28 false (.bin .gtr T31 (cI 20)),oQ 33 (.pick T28 (cB true) T32)] [0,1,3,33])
(.cond T33
(.seq
(.reg 2 [oM 8 (cB true)] [8])
.ret)
.skip))
(.seq
(.reg 3 [oM 34 T1,oQ 35 (.len 0 T34),oM 9 T35] [0,1,3,9])
(.seq
(.seq
(.reg 4 [oM 10 (cI 0)] [0,1,3,9,10])
(.block 0
(.loop
(.seq
(.seq
(.reg 5 [oM 36 T10,oM 37 T1,oQ 38 (.len 0 T37),oQ 39 (.bin .lss T36 T38)] [0,1,3,9,10,39])
(.cond T39
.skip
(.exit 0)))
(.seq
(.block 1
(.seq
(.reg 7 [oM 42 T1,oM 43 T10,oQ 44 (.ac4 15 T42 T43),oQ 45 (.load (some 15) T44),oK 46 (.call 34 [T45])] [0,1,3,9,10,46])
(.cond T46
(.seq
(.reg 8 [oM 8 (cB true)] [8])
.ret)
.skip)))
(.reg 6 [oM 40 T10,oQ 41 (.bin .add T40 (cI 1)),oM 10 T41] [0,1,3,9,10]))))))
(.seq
(.seq
(.reg 9 [oM 11 (cI 0)] [0,3,9,11])
(.block 2
(.loop
(.seq
(.seq
(.reg 10 [oM 47 T11,oM 48 T0,oQ 49 (.len 0 T48),oQ 50 (.bin .lss T47 T49)] [0,3,9,11,50])
(.cond T50
.skip
(.exit 2)))
(.seq
(.block 3
(.seq
(.reg 12 [oM 53 T9,oM 54 T0,oM 55 T11,oQ 56 (.ac4 2 T54 T55),oQ 57 (.aa6 1 T56),oQ 58 (.load none T57),oQ 59 (.len 0 T58),oQ 60 (.bin .add T53 T59),oM 9 T60] [0,3,9,11])
(.seq
(.seq
(.reg 13 [oM 61 T9,oM 62 T3,oQ 63 (.bin .gtr T61 T62)] [0,3,9,11,63])
(.cond T63
(.seq
(.reg 14 [oM 8 (cB true)] [8])
.ret)
.skip))
(.seq
(.reg 15 [oM 12 (cI 0)] [0,3,9,11,12])
(.block 4
(.loop
(.seq
(.seq
(.reg 16 [oM 64 T12,oM 65 T0,oM 66 T11,oQ 67 (.ac4 2 T65 T66),oQ 68 (.aa6 1 T67),oQ 69 (.load none T68),oQ 70 (.len 0 T69),oQ 71 (.bin .lss T64 T70)] [0,3,9,11,12,71])
(.cond T71
.skip
(.exit 4)))
(.seq
(.block 5
(.seq
(.reg 18 [oM 74 T0,oM 75 T11,oQ 76 (.ac4 2 T74 T75),oQ 77 (.aa6 1 T76),oQ 78 (.load none T77),oM 79 T12,oQ 80 (.ac4 15 T78 T79),oQ 81 (.load (some 15) T80),oK 82 (.call 34 [T81])] [0,3,9,11,12,82])
(.cond T82
(.seq
(.reg 19 [oM 8 (cB true)] [8])
.ret)
.skip)))
(.reg 17 [oM 72 T12,oQ 73 (.bin .add T72 (cI 1)),oM 12 T73] [0,3,9,11,12])))))))))
(.reg 11 [oM 51 T11,oQ 52 (.bin .add T51 (cI 1)),oM 11 T52] [0,3,9,11]))))))
(.seq
(.reg 20 [oM 8 (cB false)] [8])
.ret))))))
theorem fok8:FOK Tryz.prog 8 (83,ic8,[(.t 8)]):=ae6 [1000006] Tryz.func8
def ic9:IC :=
(.seq
(.reg 0 [oM 0 (cB false)] [])
(.seq
(.reg 1 [oK 10 (.call 35 [(.c (.str [97])),(.c (.str [49]))]),oK 11 (.call 35 [(.c (.str [98])),(.c (.str [49]))]),oK 1 (.alloc [(.str []),(zI 0),(.str []),(.str []),(zU 0),(.str []),.aa1,.aa1,.aa1,.aa1,.aa1,.aa1,.aa1,.aa1,.aa1]),oK 2 (.alloc [(.str []),(zI 0),(.str []),(.str []),(zU 0),(.str []),.aa1,.aa1,.aa1,.aa1,.aa1,.aa1,.aa1,.aa1,.aa1]),oN (.store 15 T1 T10),oN (.store 15 T2 T11)] [1,2])
(.seq
(.reg 2 [oK 12 (.call 36 [(.c (.str [120]))]),oK 13 (.av4 7 1 [(zU 0),(.str []),(zU 0),(zI 0),(.str []),(.str []),.aa1] [⟨0,⟨7,T12⟩⟩]),oQ 14 (.aa6 7 T1),oN (.store 1 T14 T13)] [1,2])
(.seq
(.reg 3 [oQ 15 (.bld [(.str []),(zU 0),(zI 0),(.str []),(.str [])] [⟨0,⟨1,(.c (.str [120]))⟩⟩]),oK 16 (.av4 5 1 [(.str []),(zU 0),(zI 0),(.str []),(.str [])] [⟨0,⟨5,T15⟩⟩]),oQ 17 (.aa6 6 T2),oN (.store 1 T17 T16)] [1,2])
(.seq
(.reg 4 [oQ 19 (.load (some 15) T2),oK 20 (.av4 15 1 [(.str []),(zI 0),(.str []),(.str []),(zU 0),(.str []),.aa1,.aa1,.aa1,.aa1,.aa1,.aa1,.aa1,.aa1,.aa1] [⟨0,⟨15,T19⟩⟩]),oQ 21 (.bld [(zI 0),.aa1] [⟨1,⟨1,T20⟩⟩]),oK 22 (.av4 2 1 [(zI 0),.aa1] [⟨0,⟨2,T21⟩⟩]),oQ 23 (.load (some 15) T1),oK 24 (.av4 15 1 [(.str []),(zI 0),(.str []),(.str []),(zU 0),(.str []),.aa1,.aa1,.aa1,.aa1,.aa1,.aa1,.aa1,.aa1,.aa1] [⟨0,⟨15,T23⟩⟩]),oQ 25 (.bld [(zU 0),(.bool false),.aa1,.aa1,(zI 0)] [⟨0,⟨1,(.c (zU 2))⟩⟩]),oK 26 (.call 10 [T22,T24,T25]),oM 18 T26,oQ 27 (.ext 0 T18),oQ 28 (.ext 1 T18),oQ 29 (.ext 2 T18),oQ 30 (.ext 3 T18),oQ 31 (.ext 4 T18),oM 3 T27,oM 4 T28,oM 5 T29,oM 6 T30,oM 7 T31] [3,6])
(.seq
(.seq
(.reg 5 [oM 32 T6,oQ 33 (.not T32)] [3,33])
(.cond T33
(.seq
(.reg 6 [oM 0 (cB false)] [0])
.ret)
.skip))
(.seq
(.reg 7 [oQ 34 (.bld [(zU 0),(zI 0),(zI 0)] [⟨0,⟨1,(.c (zU 2))⟩⟩]),oQ 35 (.bld [(zU 0),(zI 0),(zI 0)] [⟨0,⟨1,(.c (zU 6))⟩⟩]),oK 8 (.alloc [(zU 0),(zI 0),(zI 0)]),oK 9 (.alloc [(zU 0),(zI 0),(zI 0)]),oN (.store 3 T8 T34),oN (.store 3 T9 T35)] [3,8,9])
(.seq
(.ap8 8 [oM 36 T3,oK 37 (.af5 11 [T36]),oQ 38 (.load (some 3) T8),oQ 39 (.load (some 3) T9),oK 40 (.av4 3 2 [(zU 0),(zI 0),(zI 0)] [⟨0,⟨3,T38⟩⟩,⟨3,⟨3,T39⟩⟩]),oK 41 (.af5 14 [T37,T40]),oM 42 T41,gQ 43 42 true (.mov T3),gK 44 42 true (.av4 1 1 [(zI 0)] [⟨0,⟨1,(cI 0)⟩⟩]),gQ 45 42 true (.load (some 3) T8),gK 46 42 true (.af5 12 [T43,T44,T45]),gQ 47 42 true (.not T46),oQ 48 (.pick T42 T47 (cB false)),oM 49 T48,gQ 50 49 true (.mov T3),gK 51 49 true (.av4 1 1 [(zI 0)] [⟨0,⟨1,(cI 0)⟩⟩]),gQ 52 49 true (.load (some 3) T9),gK 53 49 true (.af5 12 [T50,T51,T52]),oQ 54 (.pick T49 T53 (cB false)),oM 55 T54,gQ 56 55 true (.mov T3),gK 57 55 true (.av4 1 2 [(zI 0)] [⟨0,⟨1,(cI 0)⟩⟩,⟨1,⟨1,(cI 1)⟩⟩]),gK 58 55 true (.af5 17 [T56,T57]),oQ 59 (.pick T55 T58 (cB false)),oM 60 T59,gQ 61 60 true (.mov T3),gK 62 60 true (.af5 17 [T61,(.c .aa1)]),gQ 63 60 true (.not T62),oQ 64 (.pick T60 T63 (cB false)),oM 0 T64] false [0])
.ret))))))))
theorem fok9:FOK Tryz.prog 9 (65,ic9,[(.t 0)]):=ae6 ([1000013,1000016,1000020,1000022,1000024,1000040,1000044,1000051,1000057]++[11,12,14,17]) Tryz.func9 (by kernel_rfl) (by kernel_rfl) (by kernel_rfl) (by kernel_rfl)
def ic10:IC :=
(.seq
(.reg 0 [oK 5 (.ag6 T2),oM 6 (.c .ab6),oM 7 (.c .ab6),oM 8 (.c .ab6),oM 9 (cB false),oM 10 (cB false)] [0,1,5])
(.seq
(.reg 1 [oM 16 T0,oM 17 T1,oK 18 (.call 37 [T16,T17]),oM 15 T18,oQ 19 (.ext 0 T15),oQ 20 (.ext 1 T15),oM 11 T19,oM 12 T20] [0,1,5,11,12])
(.seq
(.reg 2 [oM 22 T0,oM 23 T1,oK 24 (.call 38 [T22,T23]),oM 21 T24,oQ 25 (.ext 0 T21),oQ 26 (.ext 1 T21),oM 13 T25,oM 14 T26] [0,1,5,11,12,13,14])
(.seq
(.seq
(.reg 3 [oM 27 T12,oM 28 T14,oQ 29 (.bin .neq T27 T28)] [0,1,5,11,12,13,29])
(.cond T29
(.seq
(.reg 4 [oM 6 (.c .ab6),oM 7 (.c .ab6),oM 8 (.c .ab6),oM 9 (cB false),oM 10 (cB true)] [6,7,8,9,10])
.ret)
.skip))
(.seq
(.seq
(.reg 5 [oM 30 T12,oQ 31 (.bin .neq T30 (cI 0))] [0,1,5,11,13,31])
(.cond T31
(.seq
(.reg 6 [oM 6 (.c .ab6),oM 7 (.c .ab6),oM 8 (.c .ab6),oM 9 (cB false),oM 10 (cB false)] [6,7,8,9,10])
.ret)
.skip))
(.seq
(.reg 7 [oM 33 T11,oQ 34 (.load (some 5) T5),oK 35 (.call 39 [T33,T34]),oM 32 T35,oQ 36 (.ext 0 T32),oQ 37 (.ext 1 T32),oM 7 T36,oM 12 T37] [0,1,5,7,12,13])
(.seq
(.ap8 8 [oM 39 T0,oM 40 T1,oK 41 (.af5 41 [T39,T40]),oM 42 T13,oQ 43 (.ak6 T42),oQ 44 (.aa6 1 T43),oQ 45 (.load none T44),oQ 46 (.load (some 5) T5),oK 47 (.af5 40 [T41,T45,T46]),oM 38 T47,oQ 48 (.ext 0 T38),oQ 49 (.ext 1 T38),oM 8 T48,oM 14 T49] false [7,8,12,14])
(.seq
(.seq
(.reg 9 [oM 50 T12,oM 51 T14,oQ 52 (.bin .neq T50 T51)] [7,8,12,52])
(.cond T52
(.seq
(.reg 10 [oM 6 (.c .ab6),oM 7 (.c .ab6),oM 8 (.c .ab6),oM 9 (cB false),oM 10 (cB true)] [6,7,8,9,10])
.ret)
.skip))
(.seq
(.seq
(.reg 11 [oM 53 T12,oQ 54 (.bin .neq T53 (cI 0))] [7,8,54])
(.cond T54
(.seq
(.reg 12 [oM 6 (.c .ab6),oM 7 (.c .ab6),oM 8 (.c .ab6),oM 9 (cB false),oM 10 (cB false)] [6,7,8,9,10])
.ret)
.skip))
(.seq
(.reg 13 [oM 56 T7,oK 57 (.call 42 [T56]),oM 55 T57,oQ 58 (.ext 0 T55),oQ 59 (.ext 1 T55),oM 6 T58,oM 12 T59] [6,7,8,12])
(.seq
(.reg 14 [oM 60 T6,oM 61 T7,oM 62 T8,oM 63 T12,oQ 64 (.bin .eql T63 (cI 0)),oM 65 T12,oQ 66 (.bin .neq T65 (cI 0)),oM 6 T60,oM 7 T61,oM 8 T62,oM 9 T64,oM 10 T66] [6,7,8,9,10])
.ret)))))))))))
theorem fok10:FOK Tryz.prog 10 (67,ic10,[(.t 6),(.t 7),(.t 8),(.t 9),(.t 10)]):=ae6 ([1000005]++[40,41]) Tryz.func10 (by kernel_rfl) (by kernel_rfl) (by kernel_rfl) (by kernel_rfl)
def ic11:IC :=
(.seq
(.reg 0 [oM 2 (.c .aa1)] [0])
(.seq
(.seq
(.reg 1 [oM 3 T0,oQ 4 (.ar9 (.pointer 101) false T3)] [0,4])
(.cond T4
(.seq
(.reg 2 [oM 2 (.c .aa1)] [2])
.ret)
.skip))
(.seq
(.reg 3 [oM 5 T0,oQ 6 (.ak6 T5),oQ 7 (.aa6 3 T6),oQ 8 (.load none T7),oK 9 (.call 43 [T8]),oM 2 T9] [2])
.ret)))
theorem fok11:FOK Tryz.prog 11 (10,ic11,[(.t 2)]):=ae6 [] Tryz.func11
def ic12:IC :=
(.seq
(.reg 0 [oK 5 (.ag6 T2),oM 6 (cB false)] [0,1,5])
(.seq
(.block 0
(.seq
(.reg 1 [oM 9 T0,oQ 10 (.ar9 (.pointer 101) false T9),oM 8 T10] [0,1,5,8])
(.cond T8
(.seq
(.reg 2 [oM 6 (cB false)] [6])
.ret)
(.seq
(.reg 3 [oM 12 T0,oQ 13 (.load (some 3) T5),oK 14 (.call 21 [T12,T13]),oQ 15 (.not T14),oM 11 T15] [0,1,5,11])
(.cond T11
(.seq
(.reg 4 [oM 6 (cB true)] [6])
.ret)
.skip)))))
(.seq
(.reg 5 [oQ 16 (.bld [.ab9,.ab9,.ab9,.ab9,.ab9,.ab9,.ab9,.ab9] [⟨1,⟨1,(.f 44)⟩⟩,⟨2,⟨1,(.f 45)⟩⟩,⟨3,⟨1,(.f 46)⟩⟩,⟨4,⟨1,(.f 47)⟩⟩,⟨5,⟨1,(.f 48)⟩⟩,⟨6,⟨1,(.f 49)⟩⟩,⟨7,⟨1,(.f 50)⟩⟩]),oK 7 (.alloc [.ab9,.ab9,.ab9,.ab9,.ab9,.ab9,.ab9,.ab9]),oN (.store 8 T7 T16)] [0,1,5,7])
(.seq
(.ap8 6 [oQ 17 (.aa6 0 T5),oQ 18 (.load none T17),oQ 19 (.cz9 8 1 T7 T18),oQ 20 (.load none T19),oM 21 T0,oM 22 T1,oQ 23 (.load (some 3) T5),oQ 24 (.bld [.ab6,.aa1,(zU 0),(zI 0),(zI 0)] [⟨0,⟨1,T21⟩⟩,⟨1,⟨1,T22⟩⟩,⟨2,⟨3,T23⟩⟩]),oK 25 (.ao5 T20 [T24]),oM 6 T25] false [6])
.ret))))
theorem fok12:FOK Tryz.prog 12 (26,ic12,[(.t 6)]):=ae6 [1000005] Tryz.func12
def ic13:IC :=
(.seq
(.reg 0 [oK 2 (.ag6 T0),oK 3 (.ag6 T1),oM 4 (.c .aa1)] [2,3])
(.seq
(.reg 1 [oQ 5 (.load none T2),oK 6 (.call 11 [T5]),oQ 7 (.mkf 52 [] [T2,T3]),oK 8 (.call 51 [T6,T7]),oM 4 T8] [4])
.ret))
theorem fok13:FOK Tryz.prog 13 (9,ic13,[(.t 4)]):=ae6 [1000002,1000003] Tryz.func13
def ic14:IC :=
(.seq
(.reg 0 [oM 4 (cB false)] [0,1])
(.seq
(.seq
(.reg 1 [oM 6 T0,oQ 7 (.len 0 T6),oM 8 T1,oQ 9 (.len 0 T8),oQ 10 (.bin .neq T7 T9)] [0,1,10])
(.cond T10
(.seq
(.reg 2 [oM 4 (cB false)] [4])
.ret)
.skip))
(.seq
(.seq
(.reg 3 [oM 5 (cI 0)] [0,1,5])
(.block 0
(.loop
(.seq
(.seq
(.reg 4 [oM 11 T5,oM 12 T0,oQ 13 (.len 0 T12),oQ 14 (.bin .lss T11 T13)] [0,1,5,14])
(.cond T14
.skip
(.exit 0)))
(.seq
(.block 1
(.seq
(.ap8 6 [oM 17 T0,oM 18 T5,oQ 19 (.ac4 3 T17 T18),oQ 20 (.load (some 3) T19),oM 21 T1,oM 22 T5,oQ 23 (.ac4 3 T21 T22),oQ 24 (.load (some 3) T23),oQ 25 (.eqs [1,1,1] true true T20 T24)] false [0,1,5,25])
(.cond T25
(.seq
(.reg 7 [oM 4 (cB false)] [4])
.ret)
.skip)))
(.reg 5 [oM 15 T5,oQ 16 (.bin .add T15 (cI 1)),oM 5 T16] [0,1,5]))))))
(.seq
(.reg 8 [oM 4 (cB true)] [4])
.ret))))
theorem fok14:FOK Tryz.prog 14 (26,ic14,[(.t 4)]):=ae6 [] Tryz.func14
def ic17:IC :=
(.seq
(.reg 0 [oM 4 (cB false)] [0,1])
(.seq
(.reg 1 [oM 5 T0,oQ 6 (.ar9 (.pointer 101) true T5),oM 7 T6,gQ 8 7 true (.mov T0),gQ 9 7 true (.mov T1),gQ 10 7 true (.mov T0),gQ 11 7 true (.ak6 T10),gQ 12 7 true (.aa6 3 T11),gQ 13 7 true (.load none T12),gK 14 7 true (.call 19 [T8,T9,T13]),oQ 15 (.pick T7 T14 (cB false)),oM 4 T15] [4])
.ret))
theorem fok17:FOK Tryz.prog 17 (16,ic17,[(.t 4)]):=ae6 [] Tryz.func17
def ic19:IC :=
(.seq
(.reg 0 [oK 3 (.ag6 T0),oK 4 (.ag6 T1),oM 6 (cB false)] [2,3,4])
(.seq
(.reg 1 [oQ 7 (.load none T3),oQ 8 (.ar9 (.pointer 101) true T7),oM 9 T8,gQ 10 9 true (.mov T2),gQ 11 9 true (.mkf 58 [] [T3,T4]),gK 12 9 true (.call 57 [T10,T11]),gQ 13 9 true (.not T12),oQ 14 (.pick T9 T13 (cB false)),oM 6 T14] [6])
.ret))
theorem fok19:FOK Tryz.prog 19 (15,ic19,[(.t 6)]):=ae6 [1000003,1000004] Tryz.func19
def ic21:IC :=
(.seq
(.reg 0 [oK 3 (.ag6 T1),oM 4 (cB false)] [0,3])
(.seq
(.seq
(.reg 1 [oM 7 T0,oQ 8 (.ar9 (.pointer 101) false T7)] [0,3,8])
(.cond T8
(.seq
(.reg 2 [oM 4 (cB false)] [4])
.ret)
.skip))
(.seq
(.ap8 3 [oM 10 T0,oQ 11 (.ak6 T10),oQ 12 (.aa6 4 T11),oQ 13 (.load none T12),oQ 14 (.load (some 3) T3),oQ 15 (.lkp 6 (.agg []) true T13 T14),oM 9 T15,oQ 16 (.ext 0 T9),oQ 17 (.ext 1 T9),oK 5 (.alloc []),oN (.store 0 T5 T16),oM 6 T17] false [6])
(.seq
(.reg 4 [oM 18 T6,oM 4 T18] [4])
.ret))))
theorem fok21:FOK Tryz.prog 21 (19,ic21,[(.t 4)]):=ae6 [1000003] Tryz.func21
def ic26:IC :=
(.seq
(.reg 0 [oM 2 (.c .ab6)] [0])
(.seq
(.seq
(.reg 1 [oM 3 T0,oQ 4 (.ar9 (.pointer 118) false T3)] [0,4])
(.cond T4
(.seq
(.reg 2 [oM 2 (.c .ab6)] [2])
.ret)
.skip))
(.seq
(.reg 3 [oM 5 T0,oQ 6 (.ak6 T5),oQ 7 (.aa6 0 T6),oQ 8 (.load none T7),oM 2 T8] [2])
.ret)))
theorem fok26:FOK Tryz.prog 26 (9,ic26,[(.t 2)]):=ae6 [] Tryz.func26
def ic27:IC :=
(.seq
(.reg 0 [oM 2 (cI 0)] [0])
(.seq
(.seq
(.reg 1 [oM 3 T0,oQ 4 (.ar9 (.pointer 123) false T3)] [0,4])
(.cond T4
(.seq
(.reg 2 [oM 2 (cI 0)] [2])
.ret)
.skip))
(.seq
(.reg 3 [oM 5 T0,oQ 6 (.ak6 T5),oQ 7 (.aa6 0 T6),oQ 8 (.load none T7),oQ 9 (.len 0 T8),oM 2 T9] [2])
.ret)))
theorem fok27:FOK Tryz.prog 27 (10,ic27,[(.t 2)]):=ae6 [] Tryz.func27
def ic29:IC :=
(.seq
(.reg 0 [oM 4 (cB false)] [0,1])
(.seq
(.ap8 1 [oM 5 T0,oM 6 T1,oK 7 (.call 65 [T5,T6]),oM 8 T7,gQ 9 8 true (.mov T0),gQ 10 8 true (.ak6 T9),gQ 11 8 true (.aa6 2 T10),gQ 12 8 true (.aa6 0 T11),gQ 13 8 true (.load none T12),gQ 14 8 true (.mov T0),gQ 15 8 true (.ak6 T14),gQ 16 8 true (.aa6 7 T15),gQ 17 8 true (.load none T16),gQ 18 8 true (.mov T1),gQ 19 8 true (.ac4 15 T17 T18),gQ 20 8 true (.aa6 4 T19),gQ 21 8 true (.load none T20),gK 22 8 true (.call 66 [T13,T21]),oQ 23 (.pick T8 T22 (cB false)),oM 4 T23] false [4])
.ret))
theorem fok29:FOK Tryz.prog 29 (24,ic29,[(.t 4)]):=ae6 [] Tryz.func29
def ic30:IC :=
(.seq
(.reg 0 [oM 6 (cB false)] [0,1,2])
(.seq
(.seq
(.reg 1 [oM 9 T0,oM 10 T1,oK 11 (.call 65 [T9,T10]),oQ 12 (.not T11),oM 13 T12,gQ 14 13 false (.mov T0),gQ 15 13 false (.mov T2),gK 16 13 false (.call 65 [T14,T15]),gQ 17 13 false (.not T16),oQ 18 (.pick T13 (cB true) T17),oM 19 T18,gQ 20 19 false (.mov T1),gQ 21 19 false (.mov T2),gQ 22 19 false (.bin .eql T20 T21),oQ 23 (.pick T19 (cB true) T22)] [0,1,2,23])
(.cond T23
(.seq
(.reg 2 [oM 6 (cB false)] [6])
.ret)
.skip))
(.seq
(.ap8 3 [oM 24 T0,oQ 25 (.ak6 T24),oQ 26 (.aa6 7 T25),oQ 27 (.load none T26),oM 28 T1,oQ 29 (.ac4 15 T27 T28),oQ 30 (.load (some 15) T29),oM 31 T0,oQ 32 (.ak6 T31),oQ 33 (.aa6 7 T32),oQ 34 (.ldt none T33),oM 35 T2,oQ 36 (.ac4 15 T34 T35),oQ 37 (.ldt (some 15) T36),oK 7 (.alloc [(.str []),(zI 0),(.str []),(.str []),(zU 0),(.str []),.aa1,.aa1,.aa1,.aa1,.aa1,.aa1,.aa1,.aa1,.aa1]),oK 8 (.alloc [(.str []),(zI 0),(.str []),(.str []),(zU 0),(.str []),.aa1,.aa1,.aa1,.aa1,.aa1,.aa1,.aa1,.aa1,.aa1]),oN (.store 15 T7 T30),oN (.store 15 T8 T37)] false [7,8])
(.seq
(.reg 4 [oQ 38 (.aa6 0 T7),oQ 39 (.load none T38),oQ 40 (.aa6 0 T8),oQ 41 (.load none T40),oQ 42 (.bin .eql T39 T41),oM 43 T42,gQ 44 43 true (.aa6 4 T7),gQ 45 43 true (.load none T44),gQ 46 43 true (.aa6 4 T8),gQ 47 43 true (.load none T46),gK 48 43 true (.call 67 [T45,T47]),gQ 49 43 true (.mov T48),gQ 50 49 true (.aa6 1 T7),gQ 51 49 true (.load (some 3) T50),gQ 52 49 true (.aa6 1 T8),gQ 53 49 true (.load (some 3) T52),gK 54 49 true (.call 68 [T51,T53]),gQ 55 49 true (.bin .eql T54 (cI 0)),gQ 56 43 true (.pick T49 T55 (cB false)),gQ 57 43 true (.not T56),oQ 58 (.pick T43 T57 (cB false)),oM 6 T58] [6])
.ret))))
theorem fok30:FOK Tryz.prog 30 (59,ic30,[(.t 6)]):=ae6 [1000034,1000037] Tryz.func30
def ic32:IC :=
(.seq
(.reg 0 [oM 4 (cB false)] [0,1])
(.seq
(.reg 1 [oM 5 T0,oM 6 T1,oK 7 (.call 71 [T5,T6]),oM 8 T7,gQ 9 8 true (.mov T0),gQ 10 8 true (.mov T1),gK 11 8 true (.call 72 [T9,(.c (zU 1)),T10]),oQ 12 (.pick T8 T11 (cB false)),oM 4 T12] [4])
.ret))
theorem fok32:FOK Tryz.prog 32 (13,ic32,[(.t 4)]):=ae6 [] Tryz.func32
def ic33:IC :=
(.seq
(.reg 0 [oM 6 (cB false)] [0,1,2])
(.seq
(.seq
(.reg 1 [oM 8 T0,oM 9 T1,oK 10 (.call 71 [T8,T9]),oQ 11 (.not T10)] [0,1,2,11])
(.cond T11
(.seq
(.reg 2 [oM 6 (cB true)] [6])
.ret)
.skip))
(.seq
(.reg 3 [oQ 12 (.bld [.ab9,.ab9,.ab9,.ab9,.ab9] [⟨1,⟨1,(.f 73)⟩⟩,⟨2,⟨1,(.f 74)⟩⟩,⟨3,⟨1,(.f 75)⟩⟩,⟨4,⟨1,(.f 76)⟩⟩]),oK 7 (.alloc [.ab9,.ab9,.ab9,.ab9,.ab9]),oN (.store 5 T7 T12)] [0,1,2,7])
(.seq
(.reg 4 [oM 13 T0,oQ 14 (.ak6 T13),oQ 15 (.aa6 2 T14),oQ 16 (.aa6 2 T15),oQ 17 (.load none T16),oM 18 T1,oQ 19 (.ac4 6 T17 T18),oQ 20 (.aa6 0 T19),oQ 21 (.load none T20),oQ 22 (.cz9 5 1 T7 T21),oQ 23 (.load none T22),oM 24 T0,oM 25 T1,oM 26 T2,oK 27 (.ao5 T23 [T24,T25,T26]),oM 6 T27] [6])
.ret))))
theorem fok33:FOK Tryz.prog 33 (28,ic33,[(.t 6)]):=ae6 [] Tryz.func33
def ic34:IC :=
(.seq
(.reg 0 [oK 1 (.ag6 T0),oM 2 (cB false)] [1])
(.seq
(.seq
(.reg 1 [oQ 8 (.aa6 6 T1),oQ 9 (.load none T8),oQ 10 (.len 0 T9),oQ 11 (.bin .gtr T10 (cI 100)),oM 12 T11,gQ 13 12 false (.aa6 9 T1),gQ 14 12 false (.load none T13),gQ 15 12 false (.len 0 T14),gQ 16 12 false (.bin .gtr T15 (cI 100)),oQ 17 (.pick T12 (cB true) T16),oM 18 T17,gQ 19 18 false (.aa6 14 T1),gQ 20 18 false (.load none T19),gQ 21 18 false (.len 0 T20),gQ 22 18 false (.bin .gtr T21 (cI 100)),oQ 23 (.pick T18 (cB true) T22),oM 24 T23,gQ 25 24 false (.aa6 0 T1),gQ 26 24 false (.load none T25),gQ 27 24 false (.len 1 T26),gQ 28 24 false (.bin .gtr T27 (cI 1000)),oQ 29 (.pick T24 (cB true) T28),oM 30 T29,gQ 31 30 false (.aa6 5 T1),gQ 32 30 false (.load none T31),gQ 33 30 false (.len 1 T32),gQ 34 30 false (.bin .gtr T33 (cI 1000)),oQ 35 (.pick T30 (cB true) T34),oM 36 T35,gQ 37 36 false (.aa6 1 T1),gQ 38 36 false (.aa6 1 T37),gQ 39 36 false (.load none T38),gQ 40 36 false (.len 1 T39),gQ 41 36 false (.bin .gtr T40 (cI 1000)),oQ 42 (.pick T36 (cB true) T41),oM 43 T42,gQ 44 43 false (.aa6 1 T1),gQ 45 43 false (.aa6 2 T44),gQ 46 43 false (.load none T45),gQ 47 43 false (.len 1 T46),gQ 48 43 false (.bin .gtr T47 (cI 1000)),oQ 49 (.pick T43 (cB true) T48)] [1,49])
(.cond T49
(.seq
(.reg 2 [oM 2 (cB true)] [2])
.ret)
.skip))
(.seq
(.reg 3 [oM 3 (cI 0)] [1,3])
(.seq
(.seq
(.reg 4 [oQ 50 (.aa6 7 T1),oQ 51 (.load none T50),oQ 52 (.aa6 8 T1),oQ 53 (.load none T52),oQ 54 (.aa6 10 T1),oQ 55 (.load none T54),oQ 56 (.aa6 11 T1),oQ 57 (.load none T56),oQ 58 (.aa6 12 T1),oQ 59 (.load none T58),oQ 60 (.aa6 13 T1),oQ 61 (.load none T60),oK 62 (.av4 1 6 [.aa1] [⟨0,⟨1,T51⟩⟩,⟨1,⟨1,T53⟩⟩,⟨2,⟨1,T55⟩⟩,⟨3,⟨1,T57⟩⟩,⟨4,⟨1,T59⟩⟩,⟨5,⟨1,T61⟩⟩]),oQ 63 (.len 0 T62),oM 64 (cI 0)] [3,62,63,64])
(.block 0
(.loop
(.seq
(.reg 5 [oQ 65 (.bin .lss T64 T63)] [3,62,63,64,65])
(.seq
(.cond T65
.skip
(.exit 0))
(.seq
(.block 1
(.seq
(.reg 6 [oQ 66 (.ac4 1 T62 T64),oQ 67 (.load none T66),oM 5 T67] [3,5,62,63,64])
(.seq
(.reg 7 [oM 69 T5,oK 70 (.call 77 [T69,(cI 0)]),oM 68 T70,oQ 71 (.ext 0 T68),oQ 72 (.ext 1 T68),oM 6 T71,oM 7 T72] [3,6,7,62,63,64])
(.seq
(.reg 8 [oM 73 T3,oM 74 T6,oQ 75 (.bin .add T73 T74),oM 3 T75] [3,7,62,63,64])
(.seq
(.reg 9 [oM 76 T7,oM 77 T76,gQ 78 77 false (.mov T3),gQ 79 77 false (.bin .gtr T78 (cI 2000)),oQ 80 (.pick T77 (cB true) T79)] [3,62,63,64,80])
(.cond T80
(.seq
(.reg 10 [oM 2 (cB true)] [2])
.ret)
.skip))))))
(.reg 11 [oQ 81 (.bin .add T64 (cI 1)),oM 64 T81] [3,62,63,64])))))))
(.seq
(.reg 12 [oM 2 (cB false)] [2])
.ret)))))
theorem fok34:FOK Tryz.prog 34 (82,ic34,[(.t 2)]):=ae6 [1000001,1000062] Tryz.func34
def ic35:IC :=
(.seq
(.reg 0 [oK 4 (.alloc [(.str []),(zI 0),(.str []),(.str []),(zU 0),(.str []),.aa1,.aa1,.aa1,.aa1,.aa1,.aa1,.aa1,.aa1,.aa1])] [0,1,4])
(.seq
(.reg 1 [oM 5 T0,oM 6 T1,oQ 7 (.bld [(zI 0),(.str []),(.str [])] [⟨1,⟨1,T6⟩⟩,⟨2,⟨1,(.c (.str [49]))⟩⟩]),oQ 8 (.bld [(.str []),(zI 0),(.str []),(.str []),(zU 0),(.str []),.aa1,.aa1,.aa1,.aa1,.aa1,.aa1,.aa1,.aa1,.aa1] [⟨0,⟨1,T5⟩⟩,⟨1,⟨3,T7⟩⟩,⟨4,⟨1,(.c (zU 1))⟩⟩]),oN (.store 15 T4 T8)] [4])
.ret))
theorem fok35:FOK Tryz.prog 35 (9,ic35,[(.cell (some 15) 4)]):=ae6 [] Tryz.func35
def ic36:IC :=
(.seq
(.reg 0 [oK 2 (.alloc [(zU 0),(.str []),(zU 0),(zI 0),(.str []),(.str []),.aa1])] [0,2])
(.seq
(.reg 1 [oM 3 T0,oQ 4 (.bld [(.str []),(zU 0),(zI 0),(.str []),(.str [])] [⟨0,⟨1,T3⟩⟩]),oQ 5 (.bld [(zU 0),(.str []),(zU 0),(zI 0),(.str []),(.str []),.aa1] [⟨0,⟨1,(.c (zU 1))⟩⟩,⟨1,⟨5,T4⟩⟩]),oN (.store 7 T2 T5)] [2])
.ret))
theorem fok36:FOK Tryz.prog 36 (6,ic36,[(.cell (some 7) 2)]):=ae6 [] Tryz.func36
def ic37:IC :=
(.seq
(.reg 0 [oM 4 (.c .ab6),oM 5 (cI 0)] [0,1])
(.seq
(.reg 1 [oM 14 T1,oQ 15 (.len 0 T14),oM 6 T15] [0,1,6])
(.seq
(.seq
(.reg 2 [oM 16 T0,oQ 17 (.len 0 T16),oM 18 (cI 0)] [0,1,6,16,17,18])
(.block 0
(.loop
(.seq
(.reg 3 [oQ 19 (.bin .lss T18 T17)] [0,1,6,16,17,18,19])
(.seq
(.cond T19
.skip
(.exit 0))
(.seq
(.block 1
(.seq
(.reg 4 [oQ 20 (.ac4 2 T16 T18),oQ 21 (.load (some 2) T20),oK 8 (.alloc [(zI 0),.aa1]),oN (.store 2 T8 T21)] [0,1,6,8,16,17,18])
(.reg 5 [oM 22 T6,oQ 23 (.aa6 1 T8),oQ 24 (.load none T23),oQ 25 (.len 0 T24),oQ 26 (.bin .add T22 T25),oM 6 T26] [0,1,6,16,17,18])))
(.reg 6 [oQ 27 (.bin .add T18 (cI 1)),oM 18 T27] [0,1,6,16,17,18])))))))
(.seq
(.seq
(.reg 7 [oM 28 T0,oQ 29 (.len 0 T28),oQ 30 (.bin .gtr T29 (cI 16)),oM 31 T30,gQ 32 31 false (.mov T6),gQ 33 31 false (.bin .gtr T32 (cI 256)),oQ 34 (.pick T31 (cB true) T33)] [0,1,34])
(.cond T34
(.seq
(.reg 8 [oM 4 (.c .ab6),oM 5 (cI 40)] [4,5])
.ret)
.skip))
(.seq
(.reg 9 [oM 35 T1,oQ 36 (.len 0 T35),oK 37 .bm9,oQ 38 (.bld [.aa1,(zI 0),.aj3] [⟨1,⟨1,T36⟩⟩,⟨2,⟨1,T37⟩⟩]),oK 39 (.box T38),oM 9 T39] [0,1,9])
(.seq
(.seq
(.reg 10 [oM 40 T9,oM 41 T1,oK 42 (.call 78 [T40,T41,(cI (-1)),(cI 1025)]),oM 10 T42] [0,9,10])
(.seq
(.reg 11 [oM 43 T10,oQ 44 (.bin .neq T43 (cI 0))] [0,9,10,44])
(.cond T44
(.seq
(.reg 12 [oM 45 T10,oM 4 (.c .ab6),oM 5 T45] [4,5])
.ret)
.skip)))
(.seq
(.seq
(.reg 13 [oM 46 T0,oQ 47 (.len 0 T46),oM 48 (cI 0)] [9,46,47,48])
(.block 2
(.loop
(.seq
(.reg 14 [oQ 49 (.bin .lss T48 T47)] [9,46,47,48,49])
(.seq
(.cond T49
.skip
(.exit 2))
(.seq
(.block 3
(.seq
(.reg 15 [oM 50 T48,oQ 51 (.ac4 2 T46 T48),oQ 52 (.load (some 2) T51),oK 12 (.alloc [(zI 0),.aa1]),oM 11 T50,oN (.store 2 T12 T52)] [9,11,12,46,47,48])
(.seq
(.seq
(.reg 16 [oQ 53 (.aa6 0 T12),oQ 54 (.load none T53),oQ 55 (.bin .lss T54 (cI 0)),oM 56 T55,gQ 57 56 false (.aa6 0 T12),gQ 58 56 false (.load none T57),gQ 59 56 false (.bin .gtr T58 (cI 1024)),oQ 60 (.pick T56 (cB true) T59)] [9,11,12,46,47,48,60])
(.cond T60
(.seq
(.reg 17 [oM 4 (.c .ab6),oM 5 (cI 4)] [4,5])
.ret)
.skip))
(.seq
(.reg 18 [oM 61 T9,oQ 62 (.aa6 1 T12),oQ 63 (.load none T62),oM 64 T11,oQ 65 (.aa6 0 T12),oQ 66 (.load none T65),oK 67 (.call 78 [T61,T63,T64,T66]),oM 13 T67] [9,13,46,47,48])
(.seq
(.reg 19 [oM 68 T13,oQ 69 (.bin .neq T68 (cI 0))] [9,13,46,47,48,69])
(.cond T69
(.seq
(.reg 20 [oM 70 T13,oM 4 (.c .ab6),oM 5 T70] [4,5])
.ret)
.skip))))))
(.reg 21 [oQ 71 (.bin .add T48 (cI 1)),oM 48 T71] [9,46,47,48])))))))
(.seq
(.reg 22 [oM 72 T9,oM 4 T72,oM 5 (cI 0)] [4,5])
.ret))))))))
theorem fok37:FOK Tryz.prog 37 (73,ic37,[(.t 4),(.t 5)]):=ae6 [] Tryz.func37
def ic38:IC :=
(.seq
(.reg 0 [oM 4 (.c .ab6),oM 5 (cI 0)] [0,1])
(.seq
(.reg 1 [oM 12 T1,oQ 13 (.len 0 T12),oM 6 T13] [0,1,6])
(.seq
(.seq
(.reg 2 [oM 7 (cI 0)] [0,1,6,7])
(.block 0
(.loop
(.seq
(.seq
(.reg 3 [oM 14 T7,oM 15 T0,oQ 16 (.len 0 T15),oQ 17 (.bin .lss T14 T16)] [0,1,6,7,17])
(.cond T17
.skip
(.exit 0)))
(.seq
(.block 1
(.reg 5 [oM 20 T6,oM 21 T0,oM 22 T7,oQ 23 (.ac4 2 T21 T22),oQ 24 (.aa6 1 T23),oQ 25 (.load none T24),oQ 26 (.len 0 T25),oQ 27 (.bin .add T20 T26),oM 6 T27] [0,1,6,7]))
(.reg 4 [oM 18 T7,oQ 19 (.bin .add T18 (cI 1)),oM 7 T19] [0,1,6,7]))))))
(.seq
(.seq
(.reg 6 [oM 28 T0,oQ 29 (.len 0 T28),oQ 30 (.bin .gtr T29 (cI 16)),oM 31 T30,gQ 32 31 false (.mov T6),gQ 33 31 false (.bin .gtr T32 (cI 256)),oQ 34 (.pick T31 (cB true) T33)] [0,1,34])
(.cond T34
(.seq
(.reg 7 [oM 4 (.c .ab6),oM 5 (cI 40)] [4,5])
.ret)
.skip))
(.seq
(.reg 8 [oM 35 T1,oQ 36 (.len 0 T35),oQ 37 (.bld [.aa1,(zI 0),.aa1,.aa1] [⟨1,⟨1,T36⟩⟩]),oK 38 (.box T37),oM 8 T38] [0,1,8])
(.seq
(.seq
(.reg 9 [oM 9 (cI 0)] [0,1,8,9])
(.block 2
(.loop
(.seq
(.seq
(.reg 10 [oM 39 T9,oM 40 T1,oQ 41 (.len 0 T40),oQ 42 (.bin .lss T39 T41)] [0,1,8,9,42])
(.cond T42
.skip
(.exit 2)))
(.seq
(.block 3
(.seq
(.seq
(.reg 12 [oM 45 T1,oM 46 T9,oQ 47 (.ac4 15 T45 T46),oQ 48 (.load (some 15) T47),oK 49 (.call 79 [T48]),oQ 50 (.not T49)] [0,1,8,9,50])
(.cond T50
(.seq
(.reg 13 [oM 4 (.c .ab6),oM 5 (cI 4)] [4,5])
.ret)
.skip))
(.ap8 14 [oM 51 T8,oM 52 T8,oM 53 T8,oM 54 T8,oQ 55 (.ak6 T54),oQ 56 (.aa6 0 T55),oQ 57 (.load none T56),oM 58 T1,oM 59 T9,oQ 60 (.ac4 15 T58 T59),oQ 61 (.load (some 15) T60),oK 62 (.af5 80 [T61]),oK 63 (.av4 15 1 [(.str []),(zI 0),(.str []),(.str []),(zU 0),(.str []),.aa1,.aa1,.aa1,.aa1,.aa1,.aa1,.aa1,.aa1,.aa1] [⟨0,⟨15,T62⟩⟩]),oK 64 (.app 15 T57 T63),oM 65 T8,oQ 66 (.ak6 T65),oQ 67 (.aa6 2 T66),oQ 68 (.load none T67),oK 69 (.av4 1 1 [(zI 0)] [⟨0,⟨1,(cI (-1))⟩⟩]),oK 70 (.app 1 T68 T69),oM 71 T8,oQ 72 (.ak6 T71),oQ 73 (.aa6 3 T72),oQ 74 (.load none T73),oK 75 (.av4 1 1 [(zI 0)] [⟨0,⟨1,(cI 1025)⟩⟩]),oK 76 (.app 1 T74 T75),oQ 77 (.ak6 T51),oQ 78 (.aa6 0 T77),oN (.store 1 T78 T64),oQ 79 (.ak6 T52),oQ 80 (.aa6 2 T79),oN (.store 1 T80 T70),oQ 81 (.ak6 T53),oQ 82 (.aa6 3 T81),oN (.store 1 T82 T76)] true [0,1,8,9])))
(.reg 11 [oM 43 T9,oQ 44 (.bin .add T43 (cI 1)),oM 9 T44] [0,1,8,9]))))))
(.seq
(.seq
(.reg 15 [oM 10 (cI 0)] [0,8,10])
(.block 4
(.loop
(.seq
(.seq
(.reg 16 [oM 83 T10,oM 84 T0,oQ 85 (.len 0 T84),oQ 86 (.bin .lss T83 T85)] [0,8,10,86])
(.cond T86
.skip
(.exit 4)))
(.seq
(.block 5
(.seq
(.seq
(.reg 18 [oM 89 T0,oM 90 T10,oQ 91 (.ac4 2 T89 T90),oQ 92 (.aa6 0 T91),oQ 93 (.load none T92),oQ 94 (.bin .lss T93 (cI 0)),oM 95 T94,gQ 96 95 false (.mov T0),gQ 97 95 false (.mov T10),gQ 98 95 false (.ac4 2 T96 T97),gQ 99 95 false (.aa6 0 T98),gQ 100 95 false (.load none T99),gQ 101 95 false (.bin .gtr T100 (cI 1024)),oQ 102 (.pick T95 (cB true) T101)] [0,8,10,102])
(.cond T102
(.seq
(.reg 19 [oM 4 (.c .ab6),oM 5 (cI 4)] [4,5])
.ret)
.skip))
(.seq
(.reg 20 [oM 11 (cI 0)] [0,8,10,11])
(.block 6
(.loop
(.seq
(.seq
(.reg 21 [oM 103 T11,oM 104 T0,oM 105 T10,oQ 106 (.ac4 2 T104 T105),oQ 107 (.aa6 1 T106),oQ 108 (.load none T107),oQ 109 (.len 0 T108),oQ 110 (.bin .lss T103 T109)] [0,8,10,11,110])
(.cond T110
.skip
(.exit 6)))
(.seq
(.block 7
(.seq
(.seq
(.reg 23 [oM 113 T0,oM 114 T10,oQ 115 (.ac4 2 T113 T114),oQ 116 (.aa6 1 T115),oQ 117 (.load none T116),oM 118 T11,oQ 119 (.ac4 15 T117 T118),oQ 120 (.load (some 15) T119),oK 121 (.call 79 [T120]),oQ 122 (.not T121)] [0,8,10,11,122])
(.cond T122
(.seq
(.reg 24 [oM 4 (.c .ab6),oM 5 (cI 4)] [4,5])
.ret)
.skip))
(.ap8 25 [oM 123 T8,oM 124 T8,oM 125 T8,oM 126 T8,oQ 127 (.ak6 T126),oQ 128 (.aa6 0 T127),oQ 129 (.load none T128),oM 130 T0,oM 131 T10,oQ 132 (.ac4 2 T130 T131),oQ 133 (.aa6 1 T132),oQ 134 (.load none T133),oM 135 T11,oQ 136 (.ac4 15 T134 T135),oQ 137 (.load (some 15) T136),oK 138 (.af5 80 [T137]),oK 139 (.av4 15 1 [(.str []),(zI 0),(.str []),(.str []),(zU 0),(.str []),.aa1,.aa1,.aa1,.aa1,.aa1,.aa1,.aa1,.aa1,.aa1] [⟨0,⟨15,T138⟩⟩]),oK 140 (.app 15 T129 T139),oM 141 T8,oQ 142 (.ak6 T141),oQ 143 (.aa6 2 T142),oQ 144 (.load none T143),oM 145 T10,oK 146 (.av4 1 1 [(zI 0)] [⟨0,⟨1,T145⟩⟩]),oK 147 (.app 1 T144 T146),oM 148 T8,oQ 149 (.ak6 T148),oQ 150 (.aa6 3 T149),oQ 151 (.load none T150),oM 152 T0,oM 153 T10,oQ 154 (.ac4 2 T152 T153),oQ 155 (.aa6 0 T154),oQ 156 (.load none T155),oK 157 (.av4 1 1 [(zI 0)] [⟨0,⟨1,T156⟩⟩]),oK 158 (.app 1 T151 T157),oQ 159 (.ak6 T123),oQ 160 (.aa6 0 T159),oN (.store 1 T160 T140),oQ 161 (.ak6 T124),oQ 162 (.aa6 2 T161),oN (.store 1 T162 T147),oQ 163 (.ak6 T125),oQ 164 (.aa6 3 T163),oN (.store 1 T164 T158)] true [0,8,10,11])))
(.reg 22 [oM 111 T11,oQ 112 (.bin .add T111 (cI 1)),oM 11 T112] [0,8,10,11]))))))))
(.reg 17 [oM 87 T10,oQ 88 (.bin .add T87 (cI 1)),oM 10 T88] [0,8,10]))))))
(.seq
(.reg 26 [oM 165 T8,oM 4 T165,oM 5 (cI 0)] [4,5])
.ret))))))))
theorem fok38:FOK Tryz.prog 38 (166,ic38,[(.t 4),(.t 5)]):=ae6 ([1000063,1000069,1000075,1000139,1000146,1000157]++[80]) Tryz.func38 (by kernel_rfl) (by kernel_rfl) (by kernel_rfl) (by kernel_rfl)
def ic39:IC :=
(.seq
(.reg 0 [oK 2 (.ag6 T0),oK 3 (.ag6 T1),oM 4 (.c .ab6),oM 5 (cI 0)] [2,3])
(.seq
(.block 0
(.seq
(.reg 1 [oQ 13 (.load none T2),oQ 14 (.ar9 (.pointer 123) false T13),oM 12 T14] [2,3,12])
(.cond T12
(.seq
(.reg 2 [oM 4 (.c .ab6),oM 5 (cI 2)] [4,5])
.ret)
(.seq
(.reg 3 [oQ 16 (.aa6 0 T3),oQ 17 (.load none T16),oK 18 (.call 81 [T17]),oQ 19 (.not T18),oM 20 T19,gQ 21 20 false (.aa6 4 T3),gQ 22 20 false (.load none T21),gQ 23 20 false (.bin .lss T22 (cI 0)),oQ 24 (.pick T20 (cB true) T23),oM 25 T24,gQ 26 25 false (.aa6 4 T3),gQ 27 25 false (.load none T26),gQ 28 25 false (.bin .gtr T27 (cI 1099511627776)),oQ 29 (.pick T25 (cB true) T28),oM 15 T29] [2,3,15])
(.cond T15
(.seq
(.reg 4 [oM 4 (.c .ab6),oM 5 (cI 1)] [4,5])
.ret)
(.seq
(.reg 5 [oQ 31 (.aa6 2 T3),oQ 32 (.load none T31),oQ 33 (.len 0 T32),oQ 34 (.bin .gtr T33 (cI 64)),oM 35 T34,gQ 36 35 false (.aa6 3 T3),gQ 37 35 false (.load none T36),gQ 38 35 false (.len 0 T37),gQ 39 35 false (.bin .gtr T38 (cI 64)),oQ 40 (.pick T35 (cB true) T39),oM 30 T40] [2,3,30])
(.cond T30
(.seq
(.reg 6 [oM 4 (.c .ab6),oM 5 (cI 40)] [4,5])
.ret)
(.seq
(.reg 7 [oQ 42 (.aa6 2 T3),oQ 43 (.load none T42),oK 44 (.call 82 [T43,(.f 83)]),oM 41 T44] [2,3,41])
(.cond T41
(.seq
(.reg 8 [oM 4 (.c .ab6),oM 5 (cI 4)] [4,5])
.ret)
(.seq
(.reg 9 [oQ 46 (.aa6 3 T3),oQ 47 (.load none T46),oQ 48 (.mkf 86 [] [T3,T2]),oK 49 (.call 85 [T47,T48]),oM 45 T49] [2,3,45])
(.cond T45
(.seq
(.reg 10 [oM 4 (.c .ab6),oM 5 (cI 5)] [4,5])
.ret)
.skip)))))))))))
(.seq
(.reg 11 [oQ 51 (.load none T2),oK 52 (.call 89 [T51]),oM 50 T52,oQ 53 (.ext 0 T50),oQ 54 (.ext 1 T50),oM 6 T53,oM 7 T54] [2,3,6,7])
(.seq
(.seq
(.reg 12 [oM 55 T7,oQ 56 (.bin .neq T55 (cI 0))] [2,3,6,7,56])
(.cond T56
(.seq
(.reg 13 [oM 57 T7,oM 4 (.c .ab6),oM 5 T57] [4,5])
.ret)
.skip))
(.seq
(.ap8 14 [oQ 58 (.load none T2),oM 59 T6,oQ 60 (.load (some 5) T3),oK 61 (.af5 90 [T60]),oQ 62 (.bld [.ab6,.ab6,(zU 0),(.bool false),.aa1,.aa1,(zI 0),.aa1] [⟨0,⟨1,T58⟩⟩,⟨1,⟨1,T59⟩⟩,⟨2,⟨5,T61⟩⟩]),oK 63 (.box T62),oM 8 T63] false [2,8])
(.seq
(.seq
(.reg 15 [oQ 64 (.load none T2),oK 65 (.call 27 [T64]),oM 66 (cI 0)] [2,8,65,66])
(.block 1
(.loop
(.seq
(.reg 16 [oQ 67 (.bin .lss T66 T65)] [2,8,65,66,67])
(.seq
(.cond T67
.skip
(.exit 1))
(.seq
(.block 2
(.seq
(.reg 17 [oM 68 T66,oM 9 T68] [2,8,9,65,66])
(.seq
(.reg 18 [oQ 70 (.load none T2),oM 71 T9,oK 72 (.call 91 [T70,T71]),oM 69 T72,oQ 73 (.ext 0 T69),oQ 74 (.ext 1 T69),oK 10 (.alloc [(.str []),(zI 0),(.str []),(.str []),(zU 0),(.str []),.aa1,.aa1,.aa1,.aa1,.aa1,.aa1,.aa1,.aa1,.aa1]),oN (.store 15 T10 T73),oM 11 T74] [2,8,10,11,65,66])
(.seq
(.seq
(.reg 19 [oM 75 T11,oQ 76 (.bin .neq T75 (cI 0))] [2,8,10,11,65,66,76])
(.cond T76
(.seq
(.reg 20 [oM 77 T11,oM 4 (.c .ab6),oM 5 T77] [4,5])
.ret)
.skip))
(.ap8 21 [oM 78 T8,oM 79 T8,oQ 80 (.ak6 T79),oQ 81 (.aa6 7 T80),oQ 82 (.load none T81),oQ 83 (.load (some 15) T10),oK 84 (.av4 15 1 [(.str []),(zI 0),(.str []),(.str []),(zU 0),(.str []),.aa1,.aa1,.aa1,.aa1,.aa1,.aa1,.aa1,.aa1,.aa1] [⟨0,⟨15,T83⟩⟩]),oK 85 (.app 15 T82 T84),oQ 86 (.ak6 T78),oQ 87 (.aa6 7 T86),oN (.store 1 T87 T85)] true [2,8,65,66])))))
(.reg 22 [oQ 88 (.bin .add T66 (cI 1)),oM 66 T88] [2,8,65,66])))))))
(.seq
(.reg 23 [oM 89 T8,oM 4 T89,oM 5 (cI 0)] [4,5])
.ret)))))))
theorem fok39:FOK Tryz.prog 39 (90,ic39,[(.t 4),(.t 5)]):=ae6 ([1000002,1000003,1000084]++[90]) Tryz.func39 (by kernel_rfl) (by kernel_rfl) (by kernel_rfl) (by kernel_rfl)
def ic40:IC :=
(.seq
(.reg 0 [oK 5 (.ag6 T2),oM 6 (.c .ab6),oM 7 (cI 0)] [0,1,5])
(.seq
(.seq
(.reg 1 [oQ 12 (.aa6 0 T5),oQ 13 (.load none T12),oK 14 (.call 92 [T13]),oQ 15 (.not T14),oM 16 T15,gQ 17 16 false (.aa6 4 T5),gQ 18 16 false (.load none T17),gQ 19 16 false (.bin .lss T18 (cI 0)),oQ 20 (.pick T16 (cB true) T19),oM 21 T20,gQ 22 21 false (.aa6 4 T5),gQ 23 21 false (.load none T22),gQ 24 21 false (.bin .gtr T23 (cI 1099511627776)),oQ 25 (.pick T21 (cB true) T24)] [0,1,5,25])
(.cond T25
(.seq
(.reg 2 [oM 6 (.c .ab6),oM 7 (cI 1)] [6,7])
.ret)
.skip))
(.seq
(.seq
(.reg 3 [oQ 26 (.aa6 2 T5),oQ 27 (.load none T26),oQ 28 (.len 0 T27),oQ 29 (.bin .gtr T28 (cI 64)),oM 30 T29,gQ 31 30 false (.aa6 3 T5),gQ 32 30 false (.load none T31),gQ 33 30 false (.len 0 T32),gQ 34 30 false (.bin .gtr T33 (cI 64)),oQ 35 (.pick T30 (cB true) T34)] [0,1,5,35])
(.cond T35
(.seq
(.reg 4 [oM 6 (.c .ab6),oM 7 (cI 40)] [6,7])
.ret)
.skip))
(.seq
(.seq
(.reg 5 [oM 8 (cI 0)] [0,1,5,8])
(.block 0
(.loop
(.seq
(.seq
(.reg 6 [oM 36 T8,oQ 37 (.aa6 2 T5),oQ 38 (.load none T37),oQ 39 (.len 0 T38),oQ 40 (.bin .lss T36 T39)] [0,1,5,8,40])
(.cond T40
.skip
(.exit 0)))
(.seq
(.block 1
(.seq
(.reg 8 [oQ 43 (.aa6 2 T5),oQ 44 (.load none T43),oM 45 T8,oQ 46 (.ac4 6 T44 T45),oQ 47 (.aa6 0 T46),oQ 48 (.load none T47),oQ 49 (.bin .lss T48 (.c (zU 1))),oM 50 T49,gQ 51 50 false (.aa6 2 T5),gQ 52 50 false (.load none T51),gQ 53 50 false (.mov T8),gQ 54 50 false (.ac4 6 T52 T53),gQ 55 50 false (.aa6 0 T54),gQ 56 50 false (.load none T55),gQ 57 50 false (.bin .gtr T56 (.c (zU 4))),oQ 58 (.pick T50 (cB true) T57),oM 59 T58,gQ 60 59 false (.aa6 2 T5),gQ 61 59 false (.load none T60),gQ 62 59 false (.mov T8),gQ 63 59 false (.ac4 6 T61 T62),gQ 64 59 false (.aa6 1 T63),gQ 65 59 false (.load (some 5) T64),gK 66 59 false (.call 93 [T65]),gQ 67 59 false (.not T66),oQ 68 (.pick T59 (cB true) T67)] [0,1,5,8,68])
(.cond T68
(.seq
(.reg 9 [oM 6 (.c .ab6),oM 7 (cI 4)] [6,7])
.ret)
.skip)))
(.reg 7 [oM 41 T8,oQ 42 (.bin .add T41 (cI 1)),oM 8 T42] [0,1,5,8]))))))
(.seq
(.seq
(.reg 10 [oM 9 (cI 0)] [0,1,5,9])
(.block 2
(.loop
(.seq
(.seq
(.reg 11 [oM 69 T9,oQ 70 (.aa6 3 T5),oQ 71 (.load none T70),oQ 72 (.len 0 T71),oQ 73 (.bin .lss T69 T72)] [0,1,5,9,73])
(.cond T73
.skip
(.exit 2)))
(.seq
(.block 3
(.seq
(.reg 13 [oQ 76 (.aa6 3 T5),oQ 77 (.load none T76),oM 78 T9,oQ 79 (.ac4 2 T77 T78),oQ 80 (.load (some 2) T79),oK 10 (.alloc [(zU 0),(zI 0)]),oN (.store 2 T10 T80)] [0,1,5,9,10])
(.seq
(.reg 14 [oQ 81 (.aa6 1 T10),oQ 82 (.load none T81),oQ 83 (.bin .geq T82 (cI 0)),oM 84 T83,gQ 85 84 true (.aa6 0 T10),gQ 86 84 true (.load none T85),gQ 87 84 true (.bin .eql T86 (.c (zU 1))),gQ 88 84 true (.mov T87),gQ 89 88 true (.aa6 1 T10),gQ 90 88 true (.load none T89),gQ 91 88 true (.aa6 2 T5),gQ 92 88 true (.load none T91),gQ 93 88 true (.len 0 T92),gQ 94 88 true (.bin .lss T90 T93),gQ 95 84 true (.pick T88 T94 (cB false)),gQ 96 84 true (.mov T95),gQ 97 96 false (.aa6 0 T10),gQ 98 96 false (.load none T97),gQ 99 96 false (.bin .gtr T98 (.c (zU 1))),gQ 100 96 false (.mov T99),gQ 101 100 true (.aa6 0 T10),gQ 102 100 true (.load none T101),gQ 103 100 true (.bin .leq T102 (.c (zU 4))),gQ 104 96 false (.pick T100 T103 (cB false)),gQ 105 96 false (.mov T104),gQ 106 105 true (.aa6 1 T10),gQ 107 105 true (.load none T106),gQ 108 105 true (.mov T1),gQ 109 105 true (.bin .lss T107 T108),gQ 110 96 false (.pick T105 T109 (cB false)),gQ 111 84 true (.pick T96 (cB true) T110),oQ 112 (.pick T84 T111 (cB false)),oM 11 T112] [0,1,5,9,11])
(.seq
(.reg 15 [oM 113 T11,oQ 114 (.not T113)] [0,1,5,9,114])
(.cond T114
(.seq
(.reg 16 [oM 6 (.c .ab6),oM 7 (cI 5)] [6,7])
.ret)
.skip)))))
(.reg 12 [oM 74 T9,oQ 75 (.bin .add T74 (cI 1)),oM 9 T75] [0,1,5,9]))))))
(.seq
(.reg 17 [oM 115 T0,oM 116 T1,oQ 117 (.load (some 5) T5),oQ 118 (.bld [.aa1,(zI 0),(zU 0),(.bool false),.aa1,.aa1,(zI 0)] [⟨0,⟨1,T115⟩⟩,⟨1,⟨1,T116⟩⟩,⟨2,⟨5,T117⟩⟩]),oK 119 (.ag6 T118),oM 6 T119,oM 7 (cI 0)] [6,7])
.ret))))))
theorem fok40:FOK Tryz.prog 40 (120,ic40,[(.t 6),(.t 7)]):=ae6 [1000005,1000119] Tryz.func40
def ic41:IC :=
(.seq
(.reg 0 [oM 4 (.c .aa1)] [0,1])
(.seq
(.reg 1 [oK 7 (.bsl 15 0 [(.str []),(zI 0),(.str []),(.str []),(zU 0),(.str []),.aa1,.aa1,.aa1,.aa1,.aa1,.aa1,.aa1,.aa1,.aa1] []),oM 8 T1,oK 9 (.app 15 T7 T8),oM 5 T9] [0,5])
(.seq
(.seq
(.reg 2 [oM 6 (cI 0)] [0,5,6])
(.block 0
(.loop
(.seq
(.seq
(.reg 3 [oM 10 T6,oM 11 T0,oQ 12 (.len 0 T11),oQ 13 (.bin .lss T10 T12)] [0,5,6,13])
(.cond T13
.skip
(.exit 0)))
(.seq
(.block 1
(.reg 5 [oM 16 T5,oM 17 T0,oM 18 T6,oQ 19 (.ac4 2 T17 T18),oQ 20 (.aa6 1 T19),oQ 21 (.load none T20),oK 22 (.app 15 T16 T21),oM 5 T22] [0,5,6]))
(.reg 4 [oM 14 T6,oQ 15 (.bin .add T14 (cI 1)),oM 6 T15] [0,5,6]))))))
(.seq
(.reg 6 [oM 23 T5,oM 4 T23] [4])
.ret))))
theorem fok41:FOK Tryz.prog 41 (24,ic41,[(.t 4)]):=ae6 [] Tryz.func41
def ic42:IC :=
(.seq
(.reg 0 [oM 2 (.c .ab6),oM 3 (cI 0)] [0])
(.seq
(.seq
(.reg 1 [oM 10 T0,oQ 11 (.ar9 (.pointer 118) false T10)] [0,11])
(.cond T11
(.seq
(.reg 2 [oM 2 (.c .ab6),oM 3 (cI 2)] [2,3])
.ret)
.skip))
(.seq
(.reg 3 [oM 13 T0,oK 14 (.call 26 [T13]),oK 15 (.call 94 [T14]),oM 12 T15,oQ 16 (.ext 0 T12),oQ 17 (.ext 1 T12),oM 4 T16,oM 5 T17] [0,4,5])
(.seq
(.seq
(.reg 4 [oM 18 T5,oQ 19 (.bin .neq T18 (cI 0))] [0,4,5,19])
(.cond T19
(.seq
(.reg 5 [oM 20 T5,oM 2 (.c .ab6),oM 3 T20] [2,3])
.ret)
.skip))
(.seq
(.reg 6 [oM 21 T0,oM 22 T4,oK 23 .bm9,oQ 24 (.bld [.ab6,.ab6,.aa1,.aa1,.aj3] [⟨0,⟨1,T21⟩⟩,⟨1,⟨1,T22⟩⟩,⟨4,⟨1,T23⟩⟩]),oK 25 (.box T24),oM 6 T25] [0,6])
(.seq
(.seq
(.reg 7 [oM 26 T0,oK 27 (.call 26 [T26]),oK 28 (.call 27 [T27]),oM 29 (cI 0)] [0,6,28,29])
(.block 0
(.loop
(.seq
(.reg 8 [oQ 30 (.bin .lss T29 T28)] [0,6,28,29,30])
(.seq
(.cond T30
.skip
(.exit 0))
(.seq
(.block 1
(.seq
(.reg 9 [oM 31 T29,oM 7 T31] [0,6,7,28,29])
(.seq
(.reg 10 [oM 33 T0,oK 34 (.call 26 [T33]),oM 35 T7,oK 36 (.call 91 [T34,T35]),oM 32 T36,oQ 37 (.ext 0 T32),oQ 38 (.ext 1 T32),oK 8 (.alloc [(.str []),(zI 0),(.str []),(.str []),(zU 0),(.str []),.aa1,.aa1,.aa1,.aa1,.aa1,.aa1,.aa1,.aa1,.aa1]),oN (.store 15 T8 T37),oM 9 T38] [0,6,8,9,28,29])
(.seq
(.seq
(.reg 11 [oM 39 T9,oQ 40 (.bin .neq T39 (cI 0))] [0,6,8,9,28,29,40])
(.cond T40
(.seq
(.reg 12 [oM 41 T9,oM 2 (.c .ab6),oM 3 T41] [2,3])
.ret)
.skip))
(.ap8 13 [oM 42 T6,oM 43 T6,oQ 44 (.ak6 T43),oQ 45 (.aa6 2 T44),oQ 46 (.load none T45),oQ 47 (.load (some 15) T8),oK 48 (.av4 15 1 [(.str []),(zI 0),(.str []),(.str []),(zU 0),(.str []),.aa1,.aa1,.aa1,.aa1,.aa1,.aa1,.aa1,.aa1,.aa1] [⟨0,⟨15,T47⟩⟩]),oK 49 (.app 15 T46 T48),oQ 50 (.ak6 T42),oQ 51 (.aa6 2 T50),oN (.store 1 T51 T49)] true [0,6,28,29])))))
(.reg 14 [oQ 52 (.bin .add T29 (cI 1)),oM 29 T52] [0,6,28,29])))))))
(.seq
(.reg 15 [oM 53 T6,oK 54 (.call 95 [T53])] [6])
(.seq
(.reg 16 [oM 55 T6,oM 2 T55,oM 3 (cI 0)] [2,3])
.ret))))))))
theorem fok42:FOK Tryz.prog 42 (56,ic42,[(.t 2),(.t 3)]):=ae6 [1000048] Tryz.func42
def ic43:IC :=
(.seq
(.reg 0 [oM 2 (.c .aa1)] [0])
(.seq
(.seq
(.reg 1 [oM 3 T0,oQ 4 (.ar9 (.slice 39) false T3)] [0,4])
(.cond T4
(.seq
(.reg 2 [oM 2 (.c .aa1)] [2])
.ret)
.skip))
(.seq
(.reg 3 [oK 5 (.bsl 3 0 [(zU 0),(zI 0),(zI 0)] []),oM 6 T0,oK 7 (.app 3 T5 T6),oM 2 T7] [2])
.ret)))
theorem fok43:FOK Tryz.prog 43 (8,ic43,[(.t 2)]):=ae6 [] Tryz.func43
def ic44:IC :=
(.seq
(.reg 0 [oK 1 (.ag6 T0),oM 2 (cB false)] [1])
(.seq
(.reg 1 [oQ 3 (.load (some 5) T1),oQ 4 (.aa6 2 T1),oQ 5 (.aa6 1 T4),oQ 6 (.load none T5),oK 7 (.call 96 [T3,T6]),oQ 8 (.not T7),oM 2 T8] [2])
.ret))
theorem fok44:FOK Tryz.prog 44 (9,ic44,[(.t 2)]):=ae6 [1000001] Tryz.func44
def ic45:IC :=
(.seq
(.reg 0 [oK 1 (.ag6 T0),oM 2 (cB false)] [1])
(.seq
(.ap8 1 [oQ 3 (.load (some 5) T1),oQ 4 (.aa6 2 T1),oQ 5 (.aa6 1 T4),oQ 6 (.load none T5),oK 7 (.call 96 [T3,T6]),oQ 8 (.not T7),oM 9 T8,gQ 10 9 false (.aa6 0 T1),gQ 11 9 false (.load none T10),gQ 12 9 false (.ak6 T11),gQ 13 9 false (.aa6 1 T12),gQ 14 9 false (.load none T13),gQ 15 9 false (.aa6 1 T1),gQ 16 9 false (.load none T15),gQ 17 9 false (.aa6 0 T1),gQ 18 9 false (.load none T17),gQ 19 9 false (.ak6 T18),gQ 20 9 false (.aa6 2 T19),gQ 21 9 false (.load none T20),gQ 22 9 false (.aa6 2 T1),gQ 23 9 false (.aa6 1 T22),gQ 24 9 false (.load none T23),gQ 25 9 false (.ac4 15 T21 T24),gQ 26 9 false (.aa6 7 T25),gQ 27 9 false (.load none T26),gQ 28 9 false (.aa6 2 T1),gQ 29 9 false (.aa6 2 T28),gQ 30 9 false (.load none T29),gQ 31 9 false (.ac4 7 T27 T30),gQ 32 9 false (.load (some 7) T31),gK 33 9 false (.call 97 [T14,T16,T32]),oQ 34 (.pick T9 (cB true) T33),oM 2 T34] false [2])
.ret))
theorem fok45:FOK Tryz.prog 45 (35,ic45,[(.t 2)]):=ae6 [1000001] Tryz.func45
def ic46:IC :=
(.seq
(.reg 0 [oK 1 (.ag6 T0),oM 2 (cB false)] [1])
(.seq
(.ap8 1 [oQ 3 (.load (some 5) T1),oQ 4 (.aa6 2 T1),oQ 5 (.aa6 1 T4),oQ 6 (.load none T5),oK 7 (.call 96 [T3,T6]),oQ 8 (.not T7),oM 9 T8,gQ 10 9 false (.aa6 0 T1),gQ 11 9 false (.load none T10),gQ 12 9 false (.ak6 T11),gQ 13 9 false (.aa6 1 T12),gQ 14 9 false (.load none T13),gQ 15 9 false (.aa6 1 T1),gQ 16 9 false (.load none T15),gQ 17 9 false (.aa6 2 T1),gQ 18 9 false (.aa6 1 T17),gQ 19 9 false (.load none T18),gQ 20 9 false (.aa6 0 T1),gQ 21 9 false (.load none T20),gQ 22 9 false (.ak6 T21),gQ 23 9 false (.aa6 2 T22),gQ 24 9 false (.load none T23),gQ 25 9 false (.aa6 2 T1),gQ 26 9 false (.aa6 1 T25),gQ 27 9 false (.load none T26),gQ 28 9 false (.ac4 15 T24 T27),gQ 29 9 false (.aa6 8 T28),gQ 30 9 false (.load none T29),gQ 31 9 false (.aa6 2 T1),gQ 32 9 false (.aa6 2 T31),gQ 33 9 false (.load none T32),gQ 34 9 false (.ac4 7 T30 T33),gQ 35 9 false (.load (some 7) T34),gK 36 9 false (.call 98 [T14,T16,T19,T35]),gQ 37 9 false (.not T36),oQ 38 (.pick T9 (cB true) T37),oM 2 T38] false [2])
.ret))
theorem fok46:FOK Tryz.prog 46 (39,ic46,[(.t 2)]):=ae6 [1000001] Tryz.func46
def ic47:IC :=
(.seq
(.reg 0 [oK 1 (.ag6 T0),oM 2 (cB false)] [1])
(.seq
(.ap8 1 [oQ 4 (.aa6 0 T1),oQ 5 (.load none T4),oQ 6 (.ak6 T5),oQ 7 (.aa6 2 T6),oQ 8 (.load none T7),oQ 9 (.aa6 2 T1),oQ 10 (.aa6 1 T9),oQ 11 (.load none T10),oQ 12 (.ac4 15 T8 T11),oQ 13 (.aa6 9 T12),oQ 14 (.load none T13),oQ 15 (.aa6 2 T1),oQ 16 (.aa6 2 T15),oQ 17 (.load none T16),oQ 18 (.ac4 5 T14 T17),oQ 19 (.load (some 5) T18),oK 3 (.alloc [(.str []),(zU 0),(zI 0),(.str []),(.str [])]),oN (.store 5 T3 T19)] false [1,3])
(.seq
(.ap8 2 [oQ 20 (.load (some 5) T1),oQ 21 (.aa6 2 T1),oQ 22 (.aa6 1 T21),oQ 23 (.load none T22),oK 24 (.af5 96 [T20,T23]),oQ 25 (.not T24),oM 26 T25,gQ 27 26 false (.aa6 0 T1),gQ 28 26 false (.load none T27),gQ 29 26 false (.ak6 T28),gQ 30 26 false (.aa6 0 T29),gQ 31 26 false (.load none T30),gK 32 26 false (.af5 100 [T31]),gQ 33 26 false (.load (some 5) T3),gK 34 26 false (.af5 101 [T32,T33]),gQ 35 26 false (.mkf 102 [] [T1]),gK 36 26 false (.af5 99 [T34,T35]),gQ 37 26 false (.not T36),oQ 38 (.pick T26 (cB true) T37),oM 2 T38] false [2])
.ret)))
theorem fok47:FOK Tryz.prog 47 (39,ic47,[(.t 2)]):=ae6 ([1000001]++[96,99,100,101]) Tryz.func47 (by kernel_rfl) (by kernel_rfl) (by kernel_rfl) (by kernel_rfl)
def ic48:IC :=
(.seq
(.reg 0 [oK 1 (.ag6 T0),oM 2 (cB false)] [1])
(.seq
(.reg 1 [oQ 3 (.load (some 5) T1),oQ 4 (.aa6 2 T1),oQ 5 (.aa6 1 T4),oQ 6 (.load none T5),oK 7 (.call 96 [T3,T6]),oQ 8 (.not T7),oM 9 T8,gQ 10 9 false (.load (some 5) T1),gQ 11 9 false (.aa6 2 T1),gQ 12 9 false (.aa6 2 T11),gQ 13 9 false (.load none T12),gK 14 9 false (.call 96 [T10,T13]),gQ 15 9 false (.not T14),oQ 16 (.pick T9 (cB true) T15),oM 2 T16] [2])
.ret))
theorem fok48:FOK Tryz.prog 48 (17,ic48,[(.t 2)]):=ae6 [1000001] Tryz.func48
def ic49:IC :=
(.seq
(.reg 0 [oK 1 (.ag6 T0),oM 2 (cB false)] [1])
(.seq
(.ap8 1 [oQ 3 (.aa6 0 T1),oQ 4 (.load none T3),oQ 5 (.ak6 T4),oQ 6 (.aa6 0 T5),oQ 7 (.load none T6),oQ 8 (.aa6 2 T1),oQ 9 (.aa6 1 T8),oQ 10 (.load none T9),oK 11 (.af5 103 [T7,T10]),oQ 12 (.load (some 5) T1),oQ 13 (.mkf 96 [T12] []),oK 14 (.af5 99 [T11,T13]),oM 2 T14] false [2])
.ret))
theorem fok49:FOK Tryz.prog 49 (15,ic49,[(.t 2)]):=ae6 ([1000001]++[99,103]) Tryz.func49 (by kernel_rfl) (by kernel_rfl) (by kernel_rfl) (by kernel_rfl)
def ic50:IC :=
(.seq
(.reg 0 [oK 1 (.ag6 T0),oM 2 (cB false)] [1])
(.seq
(.ap8 1 [oQ 3 (.aa6 0 T1),oQ 4 (.load none T3),oQ 5 (.ak6 T4),oQ 6 (.aa6 0 T5),oQ 7 (.load none T6),oQ 8 (.aa6 2 T1),oQ 9 (.aa6 1 T8),oQ 10 (.load none T9),oQ 11 (.aa6 1 T1),oQ 12 (.load none T11),oK 13 (.call 33 [T7,T10,T12]),oM 2 T13] false [2])
.ret))
theorem fok50:FOK Tryz.prog 50 (14,ic50,[(.t 2)]):=ae6 [1000001] Tryz.func50
def ic51:IC :=
(.seq
(.reg 0 [oM 4 (.c .aa1)] [0,1])
(.seq
(.reg 1 [oM 8 T0,oM 9 T1,oK 10 (.call 104 [T8,T9]),oM 5 T10] [0,1,5])
(.seq
(.seq
(.reg 2 [oM 11 T5,oQ 12 (.bin .eql T11 (cI (-1)))] [0,1,5,12])
(.cond T12
(.seq
(.reg 3 [oM 13 T0,oM 4 T13] [4])
.ret)
.skip))
(.seq
(.seq
(.reg 4 [oM 14 T5,oQ 15 (.bin .add T14 (cI 1)),oM 6 T15] [0,1,5,6])
(.block 0
(.loop
(.seq
(.seq
(.reg 5 [oM 16 T6,oM 17 T0,oQ 18 (.len 0 T17),oQ 19 (.bin .lss T16 T18)] [0,1,5,6,19])
(.cond T19
.skip
(.exit 0)))
(.seq
(.block 1
(.seq
(.reg 7 [oM 22 T0,oM 23 T6,oQ 24 (.ac4 3 T22 T23),oQ 25 (.load (some 3) T24),oK 7 (.alloc [(zU 0),(zI 0),(zI 0)]),oN (.store 3 T7 T25)] [0,1,5,6,7])
(.seq
(.reg 8 [oM 26 T1,oQ 27 (.load (some 3) T7),oK 28 (.ao5 T26 [T27]),oQ 29 (.not T28)] [0,1,5,6,7,29])
(.cond T29
(.seq
(.reg 9 [oM 30 T0,oM 31 T5,oQ 32 (.load (some 3) T7),oQ 33 (.ac4 3 T30 T31),oN (.store 3 T33 T32)] [0,1,5,6])
(.reg 10 [oM 34 T5,oQ 35 (.bin .add T34 (cI 1)),oM 5 T35] [0,1,5,6]))
.skip))))
(.reg 6 [oM 20 T6,oQ 21 (.bin .add T20 (cI 1)),oM 6 T21] [0,1,5,6]))))))
(.seq
(.reg 11 [oM 36 T0,oM 37 T5,oQ 38 (.slc 3 T36 (some T37) none),oN (.clr 3 [(zU 0),(zI 0),(zI 0)] T38)] [0,5])
(.seq
(.reg 12 [oM 39 T0,oM 40 T5,oQ 41 (.slc 3 T39 none (some T40)),oM 4 T41] [4])
.ret))))))
theorem fok51:FOK Tryz.prog 51 (42,ic51,[(.t 4)]):=ae6 [] Tryz.func51
def ic52:IC :=
(.seq
(.reg 0 [oK 3 (.ag6 T0),oM 4 (cB false)] [1,2,3])
(.seq
(.reg 1 [oQ 5 (.load none T1),oQ 6 (.load none T2),oQ 7 (.load (some 3) T3),oK 8 (.call 12 [T5,T6,T7]),oM 4 T8] [4])
.ret))
theorem fok52:FOK Tryz.prog 52 (9,ic52,[(.t 4)]):=ae6 [1000003] Tryz.func52
def ic57:IC :=
(.seq
(.reg 0 [oM 4 (cB false)] [0,1])
(.seq
(.reg 1 [oM 5 T0,oM 6 T1,oK 7 (.call 104 [T5,T6]),oQ 8 (.bin .geq T7 (cI 0)),oM 4 T8] [4])
.ret))
theorem fok57:FOK Tryz.prog 57 (9,ic57,[(.t 4)]):=ae6 [] Tryz.func57
end Go.Id.Tryz
