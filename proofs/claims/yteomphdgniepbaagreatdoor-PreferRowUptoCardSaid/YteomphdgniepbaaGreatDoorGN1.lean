/- The compiled codes of functions,written by a program out of the given form. Conditions: none. -/
import Derived.Test.YteomphdgniepbaaGreatDoorFwYa
import Derived.Test.YteomphdgniepbaaGreatDoorProg
set_option linter.all false
namespace Go.Id.Tryz
open Go Go.Id Go.Proofs
def ie4:List Nat:=List.range 375
def ic48:IC :=
(.seq
(.reg 0 [⟨(some 4),none,(.alloc [(.str []),(.int .i64 0),(.str []),(.str []),(.int .u8 0),(.str []),.aa1,.aa1,.aa1,.aa1,.aa1,.aa1,.aa1,.aa1,.aa1])⟩,⟨(some 5),none,(.q (.mov (.c (.int .i64 0))))⟩] [0,1,4])
(.seq
(.seq
(.reg 1 [⟨(some 6),none,(.q (.mov T0))⟩,⟨(some 7),none,(.q (.au9 (.pointer 108) false T6))⟩,⟨(some 8),none,(.q (.mov T7))⟩,⟨(some 9),(some ⟨8,false⟩),(.q (.mov T0))⟩,⟨(some 10),(some ⟨8,false⟩),(.q (.al8 T9))⟩,⟨(some 11),(some ⟨8,false⟩),(.q (.aa9 0 T10))⟩,⟨(some 12),(some ⟨8,false⟩),(.q (.load none T11))⟩,⟨(some 13),(some ⟨8,false⟩),(.q (.mov T1))⟩,⟨(some 14),(some ⟨8,false⟩),(.call 98 [T12,T13])⟩,⟨(some 15),(some ⟨8,false⟩),(.q (.not T14))⟩,⟨(some 16),none,(.q (.pick T8 (.c (.bool true)) T15))⟩] [0,1,4,16])
(.cond T16
(.seq
(.reg 2 [⟨(some 17),none,(.q (.bld [(.str []),(.int .i64 0),(.str []),(.str []),(.int .u8 0),(.str []),.aa1,.aa1,.aa1,.aa1,.aa1,.aa1,.aa1,.aa1,.aa1] []))⟩,⟨none,none,(.store 15 T4 T17)⟩,⟨(some 5),none,(.q (.mov (.c (.int .i64 5))))⟩] [4,5])
.ret)
.skip))
(.seq
(.reg 3 [⟨(some 18),none,(.q (.mov T0))⟩,⟨(some 19),none,(.q (.al8 T18))⟩,⟨(some 20),none,(.q (.aa9 0 T19))⟩,⟨(some 21),none,(.q (.load none T20))⟩,⟨(some 22),none,(.q (.mov T1))⟩,⟨(some 23),none,(.q (.ab2 17 T21 T22))⟩,⟨(some 24),none,(.q (.aa9 0 T23))⟩,⟨(some 25),none,(.q (.load (some 15) T24))⟩,⟨(some 26),none,(.call 117 [T25])⟩,⟨none,none,(.store 15 T4 T26)⟩,⟨(some 5),none,(.q (.mov (.c (.int .i64 0))))⟩] [4,5])
.ret)))
theorem fok48:FOK Tryz.prog 48 (27,ic48,[(.cell (some 15) 4),(.t 5)]):=.mk (pf:=[]) (an:=[(0,[0,1,4]),(1,[0,1,4,16]),(2,[4,5]),(3,[4,5])]) (by kernel_rfl) (ac5 Tryz.func48 (by kernel_rfl) (by kernel_rfl) (by kernel_rfl))
def ic49:IC :=
(.seq
(.reg 0 [oK 2 (.ai7 T0),oK 3 (.ai7 T1),oM 4 (cI 0)] [2,3])
(.seq
(.reg 1 [oQ 5 (.mkf 119 [] [T2,T3]),oQ 6 (.mkf 120 [] [T2,T3]),oQ 7 (.mkf 122 [] [T2,T3]),oK 8 (.aw2 1 3 [.ac8] [⟨0,⟨1,T5⟩⟩,⟨1,⟨1,T6⟩⟩,⟨2,⟨1,T7⟩⟩]),oK 9 (.call 118 [T8]),oM 4 T9] [4])
.ret))
theorem fok49:FOK Tryz.prog 49 (10,ic49,[(.t 4)]):=ag5 [1000002,1000003,1000008] Tryz.func49
def ic51:IC :=
(.seq
(.reg 0 [oK 4 (.alloc [(.str []),(zI 0),(.str []),(.str []),(zU 0),(.str []),.aa1,.aa1,.aa1,.aa1,.aa1,.aa1,.aa1,.aa1,.aa1])] [0,1,4])
(.seq
(.reg 1 [oM 5 T0,oM 6 T1,oQ 7 (.bld [(zI 0),(.str []),(.str [])] [⟨1,⟨1,T6⟩⟩,⟨2,⟨1,(.c (.str [49]))⟩⟩]),oQ 8 (.bld [(.str []),(zI 0),(.str []),(.str []),(zU 0),(.str []),.aa1,.aa1,.aa1,.aa1,.aa1,.aa1,.aa1,.aa1,.aa1] [⟨0,⟨1,T5⟩⟩,⟨1,⟨3,T7⟩⟩,⟨4,⟨1,(.c (zU 2))⟩⟩]),oN (.store 15 T4 T8)] [4])
.ret))
theorem fok51:FOK Tryz.prog 51 (9,ic51,[(.cell (some 15) 4)]):=ag5 [] Tryz.func51
def ic52:IC :=
(.seq
(.reg 0 [oM 4 (cB false)] [0,1])
(.seq
(.reg 1 [oM 5 T0,oM 6 T1,oK 7 (.call 18 [T5,T6]),oM 4 T7] [4])
.ret))
theorem fok52:FOK Tryz.prog 52 (8,ic52,[(.t 4)]):=ag5 [] Tryz.func52
def ic53:IC :=
(.seq
(.reg 0 [oM 4 (cI 0)] [0,1])
(.seq
(.reg 1 [oM 5 (cI 0)] [0,1,5])
(.seq
(.seq
(.reg 2 [oM 6 (cI 0)] [0,1,5,6])
(.block 0
(.loop
(.seq
(.seq
(.reg 3 [oM 10 T6,oM 11 T0,oQ 12 (.len 0 T11),oQ 13 (.bin .lss T10 T12),oM 14 T13,gQ 15 14 true (.mov T5),gQ 16 14 true (.mov T1),gQ 17 14 true (.bin .lss T15 T16),oQ 18 (.pick T14 T17 (cB false))] [0,1,5,6,18])
(.cond T18
.skip
(.exit 0)))
(.seq
(.block 1
(.seq
(.reg 5 [oM 21 T0,oM 22 T6,oQ 23 (.ab2 15 T21 T22),oQ 24 (.load (some 15) T23),oK 7 (.alloc [(.str []),(zI 0),(.str []),(.str []),(zU 0),(.str []),.aa1,.aa1,.aa1,.aa1,.aa1,.aa1,.aa1,.aa1,.aa1]),oN (.store 15 T7 T24)] [0,1,5,6,7])
(.seq
(.reg 6 [oM 25 T5,oQ 26 (.bin .add T25 (cI 1)),oQ 27 (.aa9 6 T7),oQ 28 (.load none T27),oQ 29 (.len 0 T28),oQ 30 (.bin .add T26 T29),oQ 31 (.aa9 9 T7),oQ 32 (.load none T31),oQ 33 (.len 0 T32),oQ 34 (.bin .add T30 T33),oQ 35 (.aa9 14 T7),oQ 36 (.load none T35),oQ 37 (.len 0 T36),oQ 38 (.bin .add T34 T37),oM 5 T38] [0,1,5,6,7])
(.seq
(.reg 7 [oQ 39 (.aa9 7 T7),oQ 40 (.load none T39),oQ 41 (.aa9 8 T7),oQ 42 (.load none T41),oQ 43 (.aa9 10 T7),oQ 44 (.load none T43),oQ 45 (.aa9 11 T7),oQ 46 (.load none T45),oQ 47 (.aa9 12 T7),oQ 48 (.load none T47),oQ 49 (.aa9 13 T7),oQ 50 (.load none T49),oK 51 (.aw2 1 6 [.aa1] [⟨0,⟨1,T40⟩⟩,⟨1,⟨1,T42⟩⟩,⟨2,⟨1,T44⟩⟩,⟨3,⟨1,T46⟩⟩,⟨4,⟨1,T48⟩⟩,⟨5,⟨1,T50⟩⟩]),oQ 52 (.len 0 T51),oM 53 (cI 0)] [0,1,5,6,51,52,53])
(.block 2
(.loop
(.seq
(.reg 8 [oQ 54 (.bin .lss T53 T52)] [0,1,5,6,51,52,53,54])
(.seq
(.cond T54
.skip
(.exit 2))
(.seq
(.block 3
(.seq
(.reg 9 [oQ 55 (.ab2 1 T51 T53),oQ 56 (.load none T55),oM 9 T56] [0,1,5,6,9,51,52,53])
(.reg 10 [oM 57 T5,oM 58 T9,oM 59 T1,oK 60 (.call 123 [T58,T59]),oQ 61 (.bin .add T57 T60),oM 5 T61] [0,1,5,6,51,52,53])))
(.reg 11 [oQ 62 (.bin .add T53 (cI 1)),oM 53 T62] [0,1,5,6,51,52,53]))))))))))
(.reg 4 [oM 19 T6,oQ 20 (.bin .add T19 (cI 1)),oM 6 T20] [0,1,5,6]))))))
(.seq
(.reg 12 [oM 63 T5,oM 4 T63] [4])
.ret))))
theorem fok53:FOK Tryz.prog 53 (64,ic53,[(.t 4)]):=ag5 [1000051] Tryz.func53
def ic54:IC :=
(.seq
(.reg 0 [oK 2 (.ai7 T0),oK 3 (.ai7 T1),oM 4 (.c .ab6),oM 5 (cI 0)] [2,3])
(.seq
(.block 0
(.seq
(.reg 1 [oQ 13 (.load none T2),oQ 14 (.au9 (.pointer 108) false T13),oM 12 T14] [2,3,12])
(.cond T12
(.seq
(.reg 2 [oM 4 (.c .ab6),oM 5 (cI 2)] [4,5])
.ret)
(.seq
(.reg 3 [oQ 16 (.aa9 0 T3),oQ 17 (.load none T16),oK 18 (.call 124 [T17]),oQ 19 (.not T18),oM 20 T19,gQ 21 20 false (.aa9 4 T3),gQ 22 20 false (.load none T21),gQ 23 20 false (.bin .lss T22 (cI 0)),oQ 24 (.pick T20 (cB true) T23),oM 25 T24,gQ 26 25 false (.aa9 4 T3),gQ 27 25 false (.load none T26),gQ 28 25 false (.bin .gtr T27 (cI 1099511627776)),oQ 29 (.pick T25 (cB true) T28),oM 15 T29] [2,3,15])
(.cond T15
(.seq
(.reg 4 [oM 4 (.c .ab6),oM 5 (cI 1)] [4,5])
.ret)
(.seq
(.reg 5 [oQ 31 (.aa9 2 T3),oQ 32 (.load none T31),oQ 33 (.len 0 T32),oQ 34 (.bin .gtr T33 (cI 64)),oM 35 T34,gQ 36 35 false (.aa9 3 T3),gQ 37 35 false (.load none T36),gQ 38 35 false (.len 0 T37),gQ 39 35 false (.bin .gtr T38 (cI 64)),oQ 40 (.pick T35 (cB true) T39),oM 30 T40] [2,3,30])
(.cond T30
(.seq
(.reg 6 [oM 4 (.c .ab6),oM 5 (cI 40)] [4,5])
.ret)
(.seq
(.reg 7 [oQ 42 (.aa9 2 T3),oQ 43 (.load none T42),oK 44 (.call 125 [T43,(.f 126)]),oM 41 T44] [2,3,41])
(.cond T41
(.seq
(.reg 8 [oM 4 (.c .ab6),oM 5 (cI 4)] [4,5])
.ret)
(.seq
(.reg 9 [oQ 46 (.aa9 3 T3),oQ 47 (.load none T46),oQ 48 (.mkf 129 [] [T3,T2]),oK 49 (.call 128 [T47,T48]),oM 45 T49] [2,3,45])
(.cond T45
(.seq
(.reg 10 [oM 4 (.c .ab6),oM 5 (cI 5)] [4,5])
.ret)
.skip)))))))))))
(.seq
(.reg 11 [oQ 51 (.load none T2),oK 52 (.call 132 [T51]),oM 50 T52,oQ 53 (.ext 0 T50),oQ 54 (.ext 1 T50),oM 6 T53,oM 7 T54] [2,3,6,7])
(.seq
(.seq
(.reg 12 [oM 55 T7,oQ 56 (.bin .neq T55 (cI 0))] [2,3,6,7,56])
(.cond T56
(.seq
(.reg 13 [oM 57 T7,oM 4 (.c .ab6),oM 5 T57] [4,5])
.ret)
.skip))
(.seq
(.aj9 14 [oQ 58 (.load none T2),oM 59 T6,oQ 60 (.load (some 5) T3),oK 61 (.ag1 133 [T60]),oQ 62 (.bld [.ab6,.ab6,(zU 0),(.bool false),.aa1,.aa1,(zI 0),.aa1] [⟨0,⟨1,T58⟩⟩,⟨1,⟨1,T59⟩⟩,⟨2,⟨5,T61⟩⟩]),oK 63 (.box T62),oM 8 T63] false [2,8])
(.seq
(.seq
(.reg 15 [oQ 64 (.load none T2),oK 65 (.call 15 [T64]),oM 66 (cI 0)] [2,8,65,66])
(.block 1
(.loop
(.seq
(.reg 16 [oQ 67 (.bin .lss T66 T65)] [2,8,65,66,67])
(.seq
(.cond T67
.skip
(.exit 1))
(.seq
(.block 2
(.seq
(.reg 17 [oM 68 T66,oM 9 T68] [2,8,9,65,66])
(.seq
(.reg 18 [oQ 70 (.load none T2),oM 71 T9,oK 72 (.call 48 [T70,T71]),oM 69 T72,oQ 73 (.ext 0 T69),oQ 74 (.ext 1 T69),oK 10 (.alloc [(.str []),(zI 0),(.str []),(.str []),(zU 0),(.str []),.aa1,.aa1,.aa1,.aa1,.aa1,.aa1,.aa1,.aa1,.aa1]),oN (.store 15 T10 T73),oM 11 T74] [2,8,10,11,65,66])
(.seq
(.seq
(.reg 19 [oM 75 T11,oQ 76 (.bin .neq T75 (cI 0))] [2,8,10,11,65,66,76])
(.cond T76
(.seq
(.reg 20 [oM 77 T11,oM 4 (.c .ab6),oM 5 T77] [4,5])
.ret)
.skip))
(.aj9 21 [oM 78 T8,oM 79 T8,oQ 80 (.al8 T79),oQ 81 (.aa9 7 T80),oQ 82 (.load none T81),oQ 83 (.load (some 15) T10),oK 84 (.aw2 15 1 [(.str []),(zI 0),(.str []),(.str []),(zU 0),(.str []),.aa1,.aa1,.aa1,.aa1,.aa1,.aa1,.aa1,.aa1,.aa1] [⟨0,⟨15,T83⟩⟩]),oK 85 (.app 15 T82 T84),oQ 86 (.al8 T78),oQ 87 (.aa9 7 T86),oN (.store 1 T87 T85)] true [2,8,65,66])))))
(.reg 22 [oQ 88 (.bin .add T66 (cI 1)),oM 66 T88] [2,8,65,66])))))))
(.seq
(.reg 23 [oM 89 T8,oM 4 T89,oM 5 (cI 0)] [4,5])
.ret)))))))
theorem fok54:FOK Tryz.prog 54 (90,ic54,[(.t 4),(.t 5)]):=ag5 ([1000002,1000003,1000084]++[133]) Tryz.func54 (by kernel_rfl) (by kernel_rfl) (by kernel_rfl) (by kernel_rfl)
def ic55:IC :=
(.seq
(.reg 0 [oM 2 (.c .ab6),oM 3 (cI 0)] [0])
(.seq
(.seq
(.reg 1 [oM 20 T0,oQ 21 (.au9 (.pointer 157) false T20)] [0,21])
(.cond T21
(.seq
(.reg 2 [oM 2 (.c .ab6),oM 3 (cI 2)] [2,3])
.ret)
.skip))
(.seq
(.reg 3 [oM 22 T0,oM 23 T0,oK 24 (.call 37 [T23]),oM 25 T0,oK 26 (.call 134 [T25]),oQ 27 (.fld none 0 T26),oQ 28 (.bld [.ab6,.ab6,(zU 0),.aa1,.aa1] [⟨0,⟨1,T22⟩⟩,⟨1,⟨1,T24⟩⟩,⟨2,⟨1,T27⟩⟩]),oK 29 (.box T28),oM 4 T29] [4])
(.seq
(.seq
(.reg 4 [oM 30 T4,oQ 31 (.al8 T30),oQ 32 (.aa9 1 T31),oQ 33 (.load none T32),oK 34 (.call 15 [T33]),oM 35 (cI 0)] [4,34,35])
(.block 0
(.loop
(.seq
(.reg 5 [oQ 36 (.bin .lss T35 T34)] [4,34,35,36])
(.seq
(.cond T36
.skip
(.exit 0))
(.seq
(.block 1
(.seq
(.reg 6 [oM 37 T35,oM 5 T37] [4,5,34,35])
(.seq
(.reg 7 [oM 39 T4,oQ 40 (.al8 T39),oQ 41 (.aa9 1 T40),oQ 42 (.load none T41),oM 43 T5,oK 44 (.call 48 [T42,T43]),oM 38 T44,oQ 45 (.ext 0 T38),oQ 46 (.ext 1 T38),oK 6 (.alloc [(.str []),(zI 0),(.str []),(.str []),(zU 0),(.str []),.aa1,.aa1,.aa1,.aa1,.aa1,.aa1,.aa1,.aa1,.aa1]),oN (.store 15 T6 T45),oM 7 T46] [4,6,7,34,35])
(.seq
(.seq
(.reg 8 [oM 47 T7,oQ 48 (.bin .neq T47 (cI 0))] [4,6,7,34,35,48])
(.cond T48
(.seq
(.reg 9 [oM 49 T7,oM 2 (.c .ab6),oM 3 T49] [2,3])
.ret)
.skip))
(.aj9 10 [oM 50 T4,oM 51 T4,oQ 52 (.al8 T51),oQ 53 (.aa9 3 T52),oQ 54 (.load none T53),oQ 55 (.load (some 15) T6),oK 56 (.aw2 15 1 [(.str []),(zI 0),(.str []),(.str []),(zU 0),(.str []),.aa1,.aa1,.aa1,.aa1,.aa1,.aa1,.aa1,.aa1,.aa1] [⟨0,⟨15,T55⟩⟩]),oK 57 (.app 15 T54 T56),oQ 58 (.al8 T50),oQ 59 (.aa9 3 T58),oN (.store 1 T59 T57)] true [4,34,35])))))
(.reg 11 [oQ 60 (.bin .add T35 (cI 1)),oM 35 T60] [4,34,35])))))))
(.seq
(.reg 12 [oM 62 T4,oQ 63 (.al8 T62),oQ 64 (.aa9 1 T63),oQ 65 (.load none T64),oK 66 (.call 135 [T65]),oM 61 T66,oQ 67 (.ext 0 T61),oQ 68 (.ext 1 T61),oK 8 (.alloc [.ab6]),oN (.store 1 T8 T67),oM 9 T68] [4,8,9])
(.seq
(.seq
(.reg 13 [oM 69 T9,oQ 70 (.bin .neq T69 (cI 0))] [4,8,9,70])
(.cond T70
(.seq
(.reg 14 [oM 71 T9,oM 2 (.c .ab6),oM 3 T71] [2,3])
.ret)
.skip))
(.seq
(.reg 15 [oK 10 (.alloc [.aa1])] [4,8,10])
(.seq
(.reg 16 [oM 11 (.c .aa1)] [4,8,10,11])
(.seq
(.seq
(.aj9 17 [oM 72 T4,oQ 73 (.al8 T72),oQ 74 (.aa9 3 T73),oQ 75 (.load none T74),oM 76 T4,oQ 77 (.al8 T76),oQ 78 (.aa9 1 T77),oQ 79 (.load none T78),oK 80 (.ag1 131 [T79]),oQ 81 (.slc 15 T75 none (some T80)),oQ 82 (.len 0 T81),oM 83 (cI 0)] false [4,8,10,11,81,82,83])
(.block 2
(.loop
(.seq
(.reg 18 [oQ 84 (.bin .lss T83 T82)] [4,8,10,11,81,82,83,84])
(.seq
(.cond T84
.skip
(.exit 2))
(.seq
(.block 3
(.seq
(.reg 19 [oM 85 T83,oQ 86 (.ab2 15 T81 T83),oQ 87 (.load (some 15) T86),oK 13 (.alloc [(.str []),(zI 0),(.str []),(.str []),(zU 0),(.str []),.aa1,.aa1,.aa1,.aa1,.aa1,.aa1,.aa1,.aa1,.aa1]),oM 12 T85,oN (.store 15 T13 T87)] [4,8,10,11,12,13,81,82,83])
(.seq
(.reg 20 [oQ 88 (.load none T10),oM 89 T12,oK 90 (.aw2 1 1 [(zI 0)] [⟨0,⟨1,T89⟩⟩]),oK 91 (.app 1 T88 T90),oN (.store 1 T10 T91)] [4,8,10,11,13,81,82,83])
(.seq
(.reg 21 [oQ 92 (.aa9 12 T13),oQ 93 (.load none T92),oQ 94 (.len 0 T93),oM 95 (cI 0)] [4,8,10,11,81,82,83,93,94,95])
(.block 4
(.loop
(.seq
(.reg 22 [oQ 96 (.bin .lss T95 T94)] [4,8,10,11,81,82,83,93,94,95,96])
(.seq
(.cond T96
.skip
(.exit 4))
(.seq
(.block 5
(.seq
(.reg 23 [oQ 97 (.ab2 7 T93 T95),oQ 98 (.load (some 7) T97),oK 15 (.alloc [(zU 0),(.str []),(zU 0),(zI 0),(.str []),(.str []),.aa1]),oN (.store 7 T15 T98)] [4,8,10,11,15,81,82,83,93,94,95])
(.reg 24 [oM 99 T11,oQ 100 (.load (some 7) T15),oK 101 (.call 136 [T100]),oK 102 (.app 5 T99 T101),oM 11 T102] [4,8,10,11,81,82,83,93,94,95])))
(.reg 25 [oQ 103 (.bin .add T95 (cI 1)),oM 95 T103] [4,8,10,11,81,82,83,93,94,95]))))))))))
(.reg 26 [oQ 104 (.bin .add T83 (cI 1)),oM 83 T104] [4,8,10,11,81,82,83])))))))
(.seq
(.seq
(.reg 27 [oM 105 T4,oQ 106 (.al8 T105),oQ 107 (.aa9 3 T106),oQ 108 (.load none T107),oQ 109 (.len 0 T108),oM 110 (cI 0)] [4,8,10,11,108,109,110])
(.block 6
(.loop
(.seq
(.reg 28 [oQ 111 (.bin .lss T110 T109)] [4,8,10,11,108,109,110,111])
(.seq
(.cond T111
.skip
(.exit 6))
(.seq
(.block 7
(.seq
(.reg 29 [oQ 112 (.ab2 15 T108 T110),oQ 113 (.load (some 15) T112),oK 17 (.alloc [(.str []),(zI 0),(.str []),(.str []),(zU 0),(.str []),.aa1,.aa1,.aa1,.aa1,.aa1,.aa1,.aa1,.aa1,.aa1]),oN (.store 15 T17 T113)] [4,8,10,11,17,108,109,110])
(.seq
(.reg 30 [oM 114 T11,oQ 115 (.mkf 138 [] [T17]),oK 116 (.call 137 [T114,T115]),oM 18 T116] [4,8,10,11,17,18,108,109,110])
(.seq
(.reg 31 [oQ 117 (.aa9 13 T17),oQ 118 (.load none T117),oQ 119 (.mkf 141 [] [T8,T10]),oK 120 (.call 140 [T118,T119]),oM 19 T120] [4,8,10,11,18,19,108,109,110])
(.reg 32 [oM 121 T4,oM 122 T4,oQ 123 (.al8 T122),oQ 124 (.aa9 4 T123),oQ 125 (.load none T124),oM 126 T18,oM 127 T126,gQ 128 127 false (.mov T19),oQ 129 (.pick T127 (cB true) T128),oK 130 (.aw2 1 1 [(.bool false)] [⟨0,⟨1,T129⟩⟩]),oK 131 (.app 1 T125 T130),oQ 132 (.al8 T121),oQ 133 (.aa9 4 T132),oN (.store 1 T133 T131)] [4,8,10,11,108,109,110])))))
(.reg 33 [oQ 134 (.bin .add T110 (cI 1)),oM 110 T134] [4,8,10,11,108,109,110])))))))
(.seq
(.reg 34 [oM 135 T4,oM 2 T135,oM 3 (cI 0)] [2,3])
.ret)))))))))))
theorem fok55:FOK Tryz.prog 55 (136,ic55,[(.t 2),(.t 3)]):=ag5 ([1000056,1000090,1000130]++[131]) Tryz.func55 (by kernel_rfl) (by kernel_rfl) (by kernel_rfl) (by kernel_rfl)
def ic56:IC :=
(.seq
(.reg 0 [oM 4 (cB false)] [0,1])
(.seq
(.reg 1 [oM 5 T0,oQ 6 (.au9 (.pointer 169) true T5),oM 7 T6,gQ 8 7 true (.mov T1),gQ 9 7 true (.bin .geq T8 (cI 0)),oQ 10 (.pick T7 T9 (cB false)),oM 11 T10,gQ 12 11 true (.mov T1),gQ 13 11 true (.mov T0),gQ 14 11 true (.al8 T13),gQ 15 11 true (.aa9 3 T14),gQ 16 11 true (.load none T15),gQ 17 11 true (.len 0 T16),gQ 18 11 true (.bin .lss T12 T17),oQ 19 (.pick T11 T18 (cB false)),oM 4 T19] [4])
.ret))
theorem fok56:FOK Tryz.prog 56 (20,ic56,[(.t 4)]):=ag5 [] Tryz.func56
def ic57:IC :=
(.seq
(.reg 0 [oK 3 (.ai7 T0),oK 4 (.ai7 T1),oK 5 (.ai7 T2),oM 6 (cI 0)] [3,4,5])
(.seq
(.aj9 1 [oQ 9 (.load none T3),oQ 10 (.al8 T9),oQ 11 (.aa9 3 T10),oQ 12 (.load none T11),oQ 13 (.load none T4),oQ 14 (.ab2 15 T12 T13),oQ 15 (.load (some 15) T14),oQ 16 (.ldt none T3),oQ 17 (.al8 T16),oQ 18 (.aa9 3 T17),oQ 19 (.ldt none T18),oQ 20 (.ldt none T5),oQ 21 (.ab2 15 T19 T20),oQ 22 (.ldt (some 15) T21),oK 7 (.alloc [(.str []),(zI 0),(.str []),(.str []),(zU 0),(.str []),.aa1,.aa1,.aa1,.aa1,.aa1,.aa1,.aa1,.aa1,.aa1]),oK 8 (.alloc [(.str []),(zI 0),(.str []),(.str []),(zU 0),(.str []),.aa1,.aa1,.aa1,.aa1,.aa1,.aa1,.aa1,.aa1,.aa1]),oN (.store 15 T7 T15),oN (.store 15 T8 T22)] false [3,4,5,7,8])
(.seq
(.reg 2 [oQ 23 (.mkf 144 [] [T3,T4,T5]),oQ 24 (.mkf 145 [] [T3,T7,T8]),oQ 25 (.mkf 147 [] [T3,T5,T4]),oQ 26 (.mkf 149 [] [T3,T4,T5]),oQ 27 (.mkf 150 [] [T8,T7]),oQ 28 (.mkf 151 [] [T4,T5]),oK 29 (.aw2 1 6 [.ac8] [⟨0,⟨1,T23⟩⟩,⟨1,⟨1,T24⟩⟩,⟨2,⟨1,T25⟩⟩,⟨3,⟨1,T26⟩⟩,⟨4,⟨1,T27⟩⟩,⟨5,⟨1,T28⟩⟩]),oK 30 (.call 143 [T29]),oM 6 T30] [6])
.ret)))
theorem fok57:FOK Tryz.prog 57 (31,ic57,[(.t 6)]):=ag5 [1000003,1000004,1000005,1000016,1000019,1000020,1000022,1000029] Tryz.func57
def ic58:IC :=
(.seq
(.reg 0 [oM 4 (.c .aa1)] [0,1])
(.seq
(.reg 1 [oM 8 T0,oM 9 T1,oK 10 (.call 152 [T8,T9]),oM 5 T10] [0,1,5])
(.seq
(.seq
(.reg 2 [oM 11 T5,oQ 12 (.bin .eql T11 (cI (-1)))] [0,1,5,12])
(.cond T12
(.seq
(.reg 3 [oM 13 T0,oM 4 T13] [4])
.ret)
.skip))
(.seq
(.seq
(.reg 4 [oM 14 T5,oQ 15 (.bin .add T14 (cI 1)),oM 6 T15] [0,1,5,6])
(.block 0
(.loop
(.seq
(.seq
(.reg 5 [oM 16 T6,oM 17 T0,oQ 18 (.len 0 T17),oQ 19 (.bin .lss T16 T18)] [0,1,5,6,19])
(.cond T19
.skip
(.exit 0)))
(.seq
(.block 1
(.seq
(.reg 7 [oM 22 T0,oM 23 T6,oQ 24 (.ab2 1 T22 T23),oQ 25 (.load none T24),oM 7 T25] [0,1,5,6,7])
(.seq
(.reg 8 [oM 26 T1,oM 27 T7,oK 28 (.ah6 T26 [T27]),oQ 29 (.not T28)] [0,1,5,6,7,29])
(.cond T29
(.seq
(.reg 9 [oM 30 T0,oM 31 T5,oM 32 T7,oQ 33 (.ab2 1 T30 T31),oN (.store 1 T33 T32)] [0,1,5,6])
(.reg 10 [oM 34 T5,oQ 35 (.bin .add T34 (cI 1)),oM 5 T35] [0,1,5,6]))
.skip))))
(.reg 6 [oM 20 T6,oQ 21 (.bin .add T20 (cI 1)),oM 6 T21] [0,1,5,6]))))))
(.seq
(.reg 11 [oM 36 T0,oM 37 T5,oQ 38 (.slc 1 T36 (some T37) none),oN (.clr 1 [(zI 0)] T38)] [0,5])
(.seq
(.reg 12 [oM 39 T0,oM 40 T5,oQ 41 (.slc 1 T39 none (some T40)),oM 4 T41] [4])
.ret))))))
theorem fok58:FOK Tryz.prog 58 (42,ic58,[(.t 4)]):=ag5 [] Tryz.func58
def ic59:IC :=
(.seq
(.reg 0 [⟨(some 2),none,(.q (.mov (.c .aa1)))⟩] [0])
(.seq
(.seq
(.reg 1 [⟨(some 3),none,(.q (.mov T0))⟩,⟨(some 4),none,(.q (.au9 (.slice 3) false T3))⟩] [0,4])
(.cond T4
(.seq
(.reg 2 [⟨(some 2),none,(.q (.mov (.c .aa1)))⟩] [2])
.ret)
.skip))
(.seq
(.reg 3 [⟨(some 5),none,(.bsl 1 0 [(.int .i64 0)] [])⟩,⟨(some 6),none,(.q (.mov T0))⟩,⟨(some 7),none,(.app 1 T5 T6)⟩,⟨(some 2),none,(.q (.mov T7))⟩] [2])
.ret)))
theorem fok59:FOK Tryz.prog 59 (8,ic59,[(.t 2)]):=.mk (pf:=[]) (an:=[(0,[0]),(1,[0,4]),(2,[2]),(3,[2])]) (by kernel_rfl) (ac5 Tryz.func59 (by kernel_rfl) (by kernel_rfl) (by kernel_rfl))
def ic60:IC :=
(.seq
(.reg 0 [oM 3 (cB false)] [0,1])
(.seq
(.reg 1 [oQ 4 (.load none T1),oM 5 T0,oK 6 (.call 56 [T4,T5]),oQ 7 (.not T6),oM 3 T7] [3])
.ret))
theorem fok60:FOK Tryz.prog 60 (8,ic60,[(.t 3)]):=ag5 [] Tryz.func60
def ic61:IC :=
(.seq
(.reg 0 [oM 5 T0,oQ 6 (.len 0 T5),oM 4 T6] [0,1,4])
(.reg 1 [oM 7 T0,oM 8 T4,oM 9 T4,oQ 10 (.conv .u64 T9),oK 11 (.call 154 [T10]),oM 12 T1,oK 13 (.call 153 [T7,(cI 0),T8,T11,T12])] []))
theorem fok61:FOK Tryz.prog 61 (14,ic61,[]):=ag5 [] Tryz.func61
def ic62:IC :=
(.seq
(.reg 0 [oM 2 (.c .aa1)] [0])
(.seq
(.seq
(.reg 1 [oM 6 T0,oQ 7 (.len 0 T6),oQ 8 (.bin .lss T7 (cI 2))] [0,8])
(.cond T8
(.seq
(.reg 2 [oM 9 T0,oM 2 T9] [2])
.ret)
.skip))
(.seq
(.seq
(.reg 3 [oM 3 (cI 1)] [0,3])
(.block 0
(.loop
(.seq
(.seq
(.reg 4 [oM 10 T3,oM 11 T0,oQ 12 (.len 0 T11),oQ 13 (.bin .lss T10 T12)] [0,3,13])
(.cond T13
.skip
(.exit 0)))
(.seq
(.block 1
(.seq
(.aj9 6 [oM 16 T0,oM 17 T3,oQ 18 (.ab2 1 T16 T17),oQ 19 (.load none T18),oM 20 T0,oM 21 T3,oQ 22 (.bin .sub T21 (cI 1)),oQ 23 (.ab2 1 T20 T22),oQ 24 (.load none T23),oQ 25 (.bin .eql T19 T24)] false [0,3,25])
(.cond T25
(.seq
(.reg 7 [oM 26 T0,oM 27 T3,oQ 28 (.slc 1 T26 (some T27) none),oM 4 T28] [0,3,4])
(.seq
(.seq
(.reg 8 [oM 5 (cI 1)] [0,3,4,5])
(.block 2
(.loop
(.seq
(.seq
(.reg 9 [oM 29 T5,oM 30 T4,oQ 31 (.len 0 T30),oQ 32 (.bin .lss T29 T31)] [0,3,4,5,32])
(.cond T32
.skip
(.exit 2)))
(.seq
(.block 3
(.seq
(.aj9 11 [oM 35 T4,oM 36 T5,oQ 37 (.ab2 1 T35 T36),oQ 38 (.load none T37),oM 39 T4,oM 40 T5,oQ 41 (.bin .sub T40 (cI 1)),oQ 42 (.ab2 1 T39 T41),oQ 43 (.load none T42),oQ 44 (.bin .neq T38 T43)] false [0,3,4,5,44])
(.cond T44
(.seq
(.reg 12 [oM 45 T0,oM 46 T3,oM 47 T4,oM 48 T5,oQ 49 (.ab2 1 T47 T48),oQ 50 (.load none T49),oQ 51 (.ab2 1 T45 T46),oN (.store 1 T51 T50)] [0,3,4,5])
(.reg 13 [oM 52 T3,oQ 53 (.bin .add T52 (cI 1)),oM 3 T53] [0,3,4,5]))
.skip)))
(.reg 10 [oM 33 T5,oQ 34 (.bin .add T33 (cI 1)),oM 5 T34] [0,3,4,5]))))))
(.seq
(.reg 14 [oM 54 T0,oM 55 T3,oQ 56 (.slc 1 T54 (some T55) none),oN (.clr 1 [(zI 0)] T56)] [0,3])
(.seq
(.reg 15 [oM 57 T0,oM 58 T3,oQ 59 (.slc 1 T57 none (some T58)),oM 2 T59] [2])
.ret))))
.skip)))
(.reg 5 [oM 14 T3,oQ 15 (.bin .add T14 (cI 1)),oM 3 T15] [0,3]))))))
(.seq
(.reg 16 [oM 60 T0,oM 2 T60] [2])
.ret))))
theorem fok62:FOK Tryz.prog 62 (61,ic62,[(.t 2)]):=ag5 [] Tryz.func62
def ic66:IC :=
(.seq
(.reg 0 [⟨(some 8),none,(.q (.mov (.c (.int .i64 0))))⟩] [0,1,2,3])
(.seq
(.seq
(.reg 1 [⟨(some 11),none,(.q (.mov T1))⟩,⟨(some 12),none,(.q (.len 0 T11))⟩,⟨(some 13),none,(.q (.mov (.c (.int .i64 0))))⟩] [0,2,3,11,12,13])
(.block 0
(.loop
(.seq
(.reg 2 [⟨(some 14),none,(.q (.bin .lss T13 T12))⟩] [0,2,3,11,12,13,14])
(.seq
(.cond T14
.skip
(.exit 0))
(.seq
(.block 1
(.seq
(.reg 3 [⟨(some 15),none,(.q (.ab2 15 T11 T13))⟩,⟨(some 16),none,(.q (.load (some 15) T15))⟩,⟨(some 10),none,(.alloc [(.str []),(.int .i64 0),(.str []),(.str []),(.int .u8 0),(.str []),.aa1,.aa1,.aa1,.aa1,.aa1,.aa1,.aa1,.aa1,.aa1])⟩,⟨none,none,(.store 15 T10 T16)⟩] [0,2,3,10,11,12,13])
(.seq
(.seq
(.reg 4 [⟨(some 17),none,(.q (.load (some 15) T10))⟩,⟨(some 18),none,(.ag1 156 [T17])⟩,⟨(some 19),none,(.q (.not T18))⟩] [0,2,3,10,11,12,13,19])
(.cond T19
(.seq
(.reg 5 [⟨(some 8),none,(.q (.mov (.c (.int .i64 4))))⟩] [8])
.ret)
.skip))
(.seq
(.aj9 6 [⟨(some 20),none,(.q (.mov T0))⟩,⟨(some 21),none,(.q (.al8 T20))⟩,⟨(some 22),none,(.q (.aa9 2 T21))⟩,⟨(some 23),none,(.q (.load none T22))⟩,⟨(some 24),none,(.q (.aa9 0 T10))⟩,⟨(some 25),none,(.q (.load none T24))⟩,⟨(some 26),none,(.q (.mov T0))⟩,⟨(some 27),none,(.q (.al8 T26))⟩,⟨(some 28),none,(.q (.aa9 2 T27))⟩,⟨(some 29),none,(.q (.load none T28))⟩,⟨(some 30),none,(.q (.aa9 0 T10))⟩,⟨(some 31),none,(.q (.load none T30))⟩,⟨(some 32),none,(.q (.lkp 2 .aa1 false T29 T31))⟩,⟨(some 33),none,(.q (.mov T0))⟩,⟨(some 34),none,(.q (.al8 T33))⟩,⟨(some 35),none,(.q (.aa9 0 T34))⟩,⟨(some 36),none,(.q (.load none T35))⟩,⟨(some 37),none,(.q (.len 0 T36))⟩,⟨(some 38),none,(.aw2 1 1 [(.int .i64 0)] [⟨0,⟨1,T37⟩⟩])⟩,⟨(some 39),none,(.app 1 T32 T38)⟩,⟨none,none,(.dh6 2 T23 T25 T39)⟩] true [0,2,3,10,11,12,13])
(.aj9 7 [⟨(some 40),none,(.q (.mov T0))⟩,⟨(some 41),none,(.q (.mov T0))⟩,⟨(some 42),none,(.q (.al8 T41))⟩,⟨(some 43),none,(.q (.aa9 0 T42))⟩,⟨(some 44),none,(.q (.load none T43))⟩,⟨(some 45),none,(.q (.load (some 15) T10))⟩,⟨(some 46),none,(.ag1 117 [T45])⟩,⟨(some 47),none,(.q (.mov T2))⟩,⟨(some 48),none,(.q (.mov T3))⟩,⟨(some 49),none,(.q (.bld [(.str []),(.int .i64 0),(.str []),(.str []),(.int .u8 0),(.str []),.aa1,.aa1,.aa1,.aa1,.aa1,.aa1,.aa1,.aa1,.aa1,(.int .i64 0),(.int .i64 0)] [⟨0,⟨15,T46⟩⟩,⟨15,⟨1,T47⟩⟩,⟨16,⟨1,T48⟩⟩]))⟩,⟨(some 50),none,(.aw2 17 1 [(.str []),(.int .i64 0),(.str []),(.str []),(.int .u8 0),(.str []),.aa1,.aa1,.aa1,.aa1,.aa1,.aa1,.aa1,.aa1,.aa1,(.int .i64 0),(.int .i64 0)] [⟨0,⟨17,T49⟩⟩])⟩,⟨(some 51),none,(.app 17 T44 T50)⟩,⟨(some 52),none,(.q (.al8 T40))⟩,⟨(some 53),none,(.q (.aa9 0 T52))⟩,⟨none,none,(.store 1 T53 T51)⟩] true [0,2,3,11,12,13])))))
(.reg 8 [⟨(some 54),none,(.q (.bin .add T13 (.c (.int .i64 1))))⟩,⟨(some 13),none,(.q (.mov T54))⟩] [0,2,3,11,12,13])))))))
(.seq
(.reg 9 [⟨(some 8),none,(.q (.mov (.c (.int .i64 0))))⟩] [8])
.ret)))
theorem fok66:FOK Tryz.prog 66 (55,ic66,[(.t 8)]):=.mk (pf:=([1000038,1000050]++ie4)) (an:=[(0,[0,1,2,3]),(1,[0,2,3,11,12,13]),(2,[0,2,3,11,12,13,14]),(3,[0,2,3,10,11,12,13]),(4,[0,2,3,10,11,12,13,19]),(5,[8]),(6,[0,2,3,10,11,12,13]),(7,[0,2,3,11,12,13]),(8,[0,2,3,11,12,13]),(9,[8])]) (by kernel_rfl) (ac5 Tryz.func66 (by kernel_rfl) (by kernel_rfl) (by kernel_rfl))
def ic69:IC :=
(.seq
(.reg 0 [oM 4 (cI 0)] [0,1])
(.seq
(.reg 1 [oM 7 T0,oK 8 (.call 159 [T7]),oM 5 T8] [0,1,5])
(.seq
(.reg 2 [oM 9 T1,oK 10 (.call 159 [T9]),oM 6 T10] [0,1,5,6])
(.seq
(.seq
(.reg 3 [oM 11 T5] [0,1,6,11])
(.cond T11
(.seq
(.seq
(.reg 4 [oM 12 T6] [12])
(.cond T12
(.seq
(.reg 5 [oM 4 (cI 0)] [4])
.ret)
.skip))
(.seq
(.reg 6 [oM 4 (cI (-1))] [4])
.ret))
.skip))
(.seq
(.seq
(.reg 7 [oM 13 T6] [0,1,13])
(.cond T13
(.seq
(.reg 8 [oM 4 (cI 1)] [4])
.ret)
.skip))
(.seq
(.seq
(.reg 9 [oM 14 T0,oM 15 T1,oQ 16 (.bin .lss T14 T15)] [0,1,16])
(.cond T16
(.seq
(.reg 10 [oM 4 (cI (-1))] [4])
.ret)
.skip))
(.seq
(.seq
(.reg 11 [oM 17 T0,oM 18 T1,oQ 19 (.bin .gtr T17 T18)] [19])
(.cond T19
(.seq
(.reg 12 [oM 4 (cI 1)] [4])
.ret)
.skip))
(.seq
(.reg 13 [oM 4 (cI 0)] [4])
.ret))))))))
theorem fok69:FOK Tryz.prog 69 (20,ic69,[(.t 4)]):=ag5 [] Tryz.func69
def ic95:IC :=
(.seq
(.reg 0 [oM 4 (cB false)] [0,1])
(.seq
(.reg 1 [oM 5 T0,oQ 6 (.au9 (.pointer 157) true T5),oM 7 T6,gQ 8 7 true (.mov T1),gQ 9 7 true (.bin .geq T8 (cI 0)),oQ 10 (.pick T7 T9 (cB false)),oM 11 T10,gQ 12 11 true (.mov T1),gQ 13 11 true (.mov T0),gQ 14 11 true (.al8 T13),gQ 15 11 true (.aa9 7 T14),gQ 16 11 true (.load none T15),gQ 17 11 true (.len 0 T16),gQ 18 11 true (.bin .lss T12 T17),oQ 19 (.pick T11 T18 (cB false)),oM 4 T19] [4])
.ret))
theorem fok95:FOK Tryz.prog 95 (20,ic95,[(.t 4)]):=ag5 [] Tryz.func95
def ic96:IC :=
(.seq
(.reg 0 [oM 4 (cB false)] [0,1])
(.seq
(.reg 1 [oM 5 T0,oM 6 T1,oK 7 (.call 146 [T5,T6]),oQ 8 (.bin .gtr T7 (cI 0)),oM 4 T8] [4])
.ret))
theorem fok96:FOK Tryz.prog 96 (9,ic96,[(.t 4)]):=ag5 [] Tryz.func96
def ic98:IC :=
(.seq
(.reg 0 [⟨(some 4),none,(.q (.mov (.c (.bool false))))⟩] [0,1])
(.seq
(.reg 1 [⟨(some 5),none,(.q (.mov T1))⟩,⟨(some 6),none,(.q (.bin .geq T5 (.c (.int .i64 0))))⟩,⟨(some 7),none,(.q (.mov T6))⟩,⟨(some 8),(some ⟨7,true⟩),(.q (.mov T1))⟩,⟨(some 9),(some ⟨7,true⟩),(.q (.mov T0))⟩,⟨(some 10),(some ⟨7,true⟩),(.q (.len 0 T9))⟩,⟨(some 11),(some ⟨7,true⟩),(.q (.bin .lss T8 T10))⟩,⟨(some 12),none,(.q (.pick T7 T11 (.c (.bool false))))⟩,⟨(some 4),none,(.q (.mov T12))⟩] [4])
.ret))
theorem fok98:FOK Tryz.prog 98 (13,ic98,[(.t 4)]):=.mk (pf:=[]) (an:=[(0,[0,1]),(1,[4])]) (by kernel_rfl) (ac5 Tryz.func98 (by kernel_rfl) (by kernel_rfl) (by kernel_rfl))
def ic114:IC :=
(.seq
(.reg 0 [oM 2 (cI 0)] [0])
(.seq
(.seq
(.reg 1 [oM 3 T0] [3])
(.cond T3
(.seq
(.reg 2 [oM 2 (cI 0)] [2])
.ret)
.skip))
(.seq
(.reg 3 [oM 2 (cI 1)] [2])
.ret)))
theorem fok114:FOK Tryz.prog 114 (4,ic114,[(.t 2)]):=ag5 [] Tryz.func114
def ic117:IC :=
(.seq
(.reg 0 [⟨(some 1),none,(.box T0)⟩,⟨(some 2),none,(.alloc [(.str []),(.int .i64 0),(.str []),(.str []),(.int .u8 0),(.str []),.aa1,.aa1,.aa1,.aa1,.aa1,.aa1,.aa1,.aa1,.aa1])⟩] [1,2])
(.seq
(.aj9 1 [⟨(some 7),none,(.q (.aa9 6 T1))⟩,⟨(some 8),none,(.q (.load none T7))⟩,⟨(some 9),none,(.ag1 198 [T8])⟩,⟨(some 10),none,(.q (.aa9 9 T1))⟩,⟨(some 11),none,(.q (.load none T10))⟩,⟨(some 12),none,(.ag1 198 [T11])⟩,⟨(some 13),none,(.q (.aa9 14 T1))⟩,⟨(some 14),none,(.q (.load none T13))⟩,⟨(some 15),none,(.ag1 199 [T14])⟩,⟨(some 16),none,(.q (.aa9 6 T1))⟩,⟨none,none,(.store 1 T16 T9)⟩,⟨(some 17),none,(.q (.aa9 9 T1))⟩,⟨none,none,(.store 1 T17 T12)⟩,⟨(some 18),none,(.q (.aa9 14 T1))⟩,⟨none,none,(.store 1 T18 T15)⟩] false [1,2])
(.seq
(.seq
(.reg 2 [⟨(some 19),none,(.q (.aa9 7 T1))⟩,⟨(some 20),none,(.q (.aa9 8 T1))⟩,⟨(some 21),none,(.q (.aa9 10 T1))⟩,⟨(some 22),none,(.q (.aa9 11 T1))⟩,⟨(some 23),none,(.q (.aa9 12 T1))⟩,⟨(some 24),none,(.q (.aa9 13 T1))⟩,⟨(some 25),none,(.aw2 1 6 [.ab6] [⟨0,⟨1,T19⟩⟩,⟨1,⟨1,T20⟩⟩,⟨2,⟨1,T21⟩⟩,⟨3,⟨1,T22⟩⟩,⟨4,⟨1,T23⟩⟩,⟨5,⟨1,T24⟩⟩])⟩,⟨(some 26),none,(.q (.len 0 T25))⟩,⟨(some 27),none,(.q (.mov (.c (.int .i64 0))))⟩] [1,2,25,26,27])
(.block 0
(.loop
(.seq
(.reg 3 [⟨(some 28),none,(.q (.bin .lss T27 T26))⟩] [1,2,25,26,27,28])
(.seq
(.cond T28
.skip
(.exit 0))
(.seq
(.block 1
(.seq
(.reg 4 [⟨(some 29),none,(.q (.ab2 1 T25 T27))⟩,⟨(some 30),none,(.q (.load none T29))⟩,⟨(some 4),none,(.q (.mov T30))⟩] [1,2,4,25,26,27])
(.seq
(.reg 5 [⟨(some 31),none,(.q (.mov T4))⟩,⟨(some 32),none,(.q (.mov T4))⟩,⟨(some 33),none,(.q (.al8 T32))⟩,⟨(some 34),none,(.q (.load none T33))⟩,⟨(some 35),none,(.call 200 [T34])⟩,⟨(some 36),none,(.q (.al8 T31))⟩,⟨none,none,(.store 1 T36 T35)⟩] [1,2,4,25,26,27])
(.seq
(.reg 6 [⟨(some 37),none,(.q (.mov T4))⟩,⟨(some 38),none,(.q (.al8 T37))⟩,⟨(some 39),none,(.q (.load none T38))⟩,⟨(some 40),none,(.q (.len 0 T39))⟩,⟨(some 41),none,(.q (.mov (.c (.int .i64 0))))⟩] [1,2,4,25,26,27,39,40,41])
(.block 2
(.loop
(.seq
(.reg 7 [⟨(some 42),none,(.q (.bin .lss T41 T40))⟩] [1,2,4,25,26,27,39,40,41,42])
(.seq
(.cond T42
.skip
(.exit 2))
(.seq
(.block 3
(.seq
(.reg 8 [⟨(some 43),none,(.q (.mov T41))⟩,⟨(some 44),none,(.q (.ab2 7 T39 T41))⟩,⟨(some 45),none,(.q (.load (some 7) T44))⟩,⟨(some 6),none,(.alloc [(.int .u8 0),(.str []),(.int .u8 0),(.int .i64 0),(.str []),(.str []),.aa1])⟩,⟨(some 5),none,(.q (.mov T43))⟩,⟨none,none,(.store 7 T6 T45)⟩] [1,2,4,5,6,25,26,27,39,40,41])
(.aj9 9 [⟨(some 46),none,(.q (.mov T4))⟩,⟨(some 47),none,(.q (.al8 T46))⟩,⟨(some 48),none,(.q (.load none T47))⟩,⟨(some 49),none,(.q (.mov T5))⟩,⟨(some 50),none,(.q (.load (some 7) T6))⟩,⟨(some 51),none,(.ag1 201 [T50])⟩,⟨(some 52),none,(.q (.ab2 7 T48 T49))⟩,⟨none,none,(.store 7 T52 T51)⟩] false [1,2,4,25,26,27,39,40,41])))
(.reg 10 [⟨(some 53),none,(.q (.bin .add T41 (.c (.int .i64 1))))⟩,⟨(some 41),none,(.q (.mov T53))⟩] [1,2,4,25,26,27,39,40,41]))))))))))
(.reg 11 [⟨(some 54),none,(.q (.bin .add T27 (.c (.int .i64 1))))⟩,⟨(some 27),none,(.q (.mov T54))⟩] [1,2,25,26,27])))))))
(.seq
(.reg 12 [⟨(some 55),none,(.q (.load (some 15) T1))⟩,⟨none,none,(.store 15 T2 T55)⟩] [2])
.ret))))
theorem fok117:FOK Tryz.prog 117 (56,ic117,[(.cell (some 15) 2)]):=.mk (pf:=([1000025]++List.filter (fun k=>k != 200) ie4)) (an:=[(0,[1,2]),(1,[1,2]),(2,[1,2,25,26,27]),(3,[1,2,25,26,27,28]),(4,[1,2,4,25,26,27]),(5,[1,2,4,25,26,27]),(6,[1,2,4,25,26,27,39,40,41]),(7,[1,2,4,25,26,27,39,40,41,42]),(8,[1,2,4,5,6,25,26,27,39,40,41]),(9,[1,2,4,25,26,27,39,40,41]),(10,[1,2,4,25,26,27,39,40,41]),(11,[1,2,25,26,27]),(12,[2])]) (by kernel_rfl) (ac5 Tryz.func117 (by kernel_rfl) (by kernel_rfl) (by kernel_rfl))
def ic118:IC :=
(.seq
(.reg 0 [oM 2 (cI 0)] [0])
(.seq
(.seq
(.reg 1 [oM 6 T0,oQ 7 (.len 0 T6),oM 8 (cI 0)] [6,7,8])
(.block 0
(.loop
(.seq
(.reg 2 [oQ 9 (.bin .lss T8 T7)] [6,7,8,9])
(.seq
(.cond T9
.skip
(.exit 0))
(.seq
(.block 1
(.seq
(.reg 3 [oQ 10 (.ab2 1 T6 T8),oQ 11 (.load none T10),oM 4 T11] [4,6,7,8])
(.seq
(.reg 4 [oM 12 T4,oK 13 (.ah6 T12 []),oM 5 T13] [5,6,7,8])
(.seq
(.reg 5 [oM 14 T5,oQ 15 (.bin .neq T14 (cI 0))] [5,6,7,8,15])
(.cond T15
(.seq
(.reg 6 [oM 16 T5,oM 2 T16] [2])
.ret)
.skip)))))
(.reg 7 [oQ 17 (.bin .add T8 (cI 1)),oM 8 T17] [6,7,8])))))))
(.seq
(.reg 8 [oM 2 (cI 0)] [2])
.ret)))
theorem fok118:FOK Tryz.prog 118 (18,ic118,[(.t 2)]):=ag5 [] Tryz.func118
def ic119:IC :=
(.seq
(.reg 0 [oM 2 (cI 0)] [0,1])
(.seq
(.reg 1 [oQ 3 (.aa9 0 T0),oQ 4 (.load none T3),oQ 5 (.aa9 0 T1),oQ 6 (.load none T5),oK 7 (.call 69 [T4,T6]),oM 2 T7] [2])
.ret))
theorem fok119:FOK Tryz.prog 119 (8,ic119,[(.t 2)]):=ag5 [] Tryz.func119
def ic120:IC :=
(.seq
(.reg 0 [oM 2 (cI 0)] [0,1])
(.seq
(.reg 1 [oQ 3 (.aa9 1 T0),oQ 4 (.load none T3),oQ 5 (.aa9 1 T1),oQ 6 (.load none T5),oK 7 (.call 121 [T4,T6]),oM 2 T7] [2])
.ret))
theorem fok120:FOK Tryz.prog 120 (8,ic120,[(.t 2)]):=ag5 [] Tryz.func120
def ic121:IC :=
(.seq
(.reg 0 [oM 4 (cI 0)] [0,1])
(.seq
(.reg 1 [oM 9 T0,oK 10 (.call 202 [T9]),oQ 11 (.bld [(zU 0),(.str [])] [⟨0,⟨1,(.c (zU 2))⟩⟩]),oK 12 (.aw2 2 1 [(zU 0),(.str [])] [⟨0,⟨2,T11⟩⟩]),oK 13 (.app 2 T10 T12),oM 14 T1,oK 15 (.call 202 [T14]),oQ 16 (.bld [(zU 0),(.str [])] [⟨0,⟨1,(.c (zU 2))⟩⟩]),oK 17 (.aw2 2 1 [(zU 0),(.str [])] [⟨0,⟨2,T16⟩⟩]),oK 18 (.app 2 T15 T17),oM 5 T13,oM 6 T18] [5,6])
(.seq
(.seq
(.reg 2 [oM 19 T5,oQ 20 (.len 0 T19),oM 21 T6,oQ 22 (.len 0 T21),oQ 23 (.mm false T20 T22),oM 24 (cI 0)] [5,6,23,24])
(.block 0
(.loop
(.seq
(.reg 3 [oQ 25 (.bin .lss T24 T23)] [5,6,23,24,25])
(.seq
(.cond T25
.skip
(.exit 0))
(.seq
(.block 1
(.seq
(.reg 4 [oM 26 T24,oM 7 T26] [5,6,7,23,24])
(.seq
(.aj9 5 [oM 27 T5,oM 28 T7,oQ 29 (.ab2 2 T27 T28),oQ 30 (.load (some 2) T29),oM 31 T6,oM 32 T7,oQ 33 (.ab2 2 T31 T32),oQ 34 (.load (some 2) T33),oK 35 (.call 203 [T30,T34]),oM 8 T35] false [5,6,8,23,24])
(.seq
(.reg 6 [oM 36 T8,oQ 37 (.bin .neq T36 (cI 0))] [5,6,8,23,24,37])
(.cond T37
(.seq
(.reg 7 [oM 38 T8,oM 4 T38] [4])
.ret)
.skip)))))
(.reg 8 [oQ 39 (.bin .add T24 (cI 1)),oM 24 T39] [5,6,23,24])))))))
(.seq
(.reg 9 [oM 4 (cI 0)] [4])
.ret))))
theorem fok121:FOK Tryz.prog 121 (40,ic121,[(.t 4)]):=ag5 [1000012,1000017] Tryz.func121
def ic122:IC :=
(.seq
(.reg 0 [oM 2 (cI 0)] [0,1])
(.seq
(.seq
(.reg 1 [oQ 3 (.aa9 2 T0),oQ 4 (.load none T3),oQ 5 (.bin .eql T4 (.c (.str []))),oM 6 T5,gQ 7 6 false (.aa9 2 T1),gQ 8 6 false (.load none T7),gQ 9 6 false (.bin .eql T8 (.c (.str []))),oQ 10 (.pick T6 (cB true) T9)] [0,1,10])
(.cond T10
(.seq
(.reg 2 [oM 2 (cI 0)] [2])
.ret)
.skip))
(.seq
(.reg 3 [oQ 11 (.aa9 2 T0),oQ 12 (.load none T11),oQ 13 (.aa9 2 T1),oQ 14 (.load none T13),oK 15 (.call 121 [T12,T14]),oM 2 T15] [2])
.ret)))
theorem fok122:FOK Tryz.prog 122 (16,ic122,[(.t 2)]):=ag5 [] Tryz.func122
def ic123:IC :=
(.seq
(.reg 0 [oM 4 (cI 0)] [0,1])
(.seq
(.reg 1 [oM 5 (cI 0)] [0,1,5])
(.seq
(.seq
(.reg 2 [oM 6 (cI 0)] [0,1,5,6])
(.block 0
(.loop
(.seq
(.seq
(.reg 3 [oM 7 T6,oM 8 T0,oQ 9 (.len 0 T8),oQ 10 (.bin .lss T7 T9),oM 11 T10,gQ 12 11 true (.mov T5),gQ 13 11 true (.mov T1),gQ 14 11 true (.bin .lss T12 T13),oQ 15 (.pick T11 T14 (cB false))] [0,1,5,6,15])
(.cond T15
.skip
(.exit 0)))
(.seq
(.block 1
(.reg 5 [oM 18 T5,oQ 19 (.bin .add T18 (cI 1)),oM 20 T0,oM 21 T6,oQ 22 (.ab2 7 T20 T21),oQ 23 (.aa9 6 T22),oQ 24 (.load none T23),oM 25 T1,oM 26 T5,oQ 27 (.bin .sub T25 T26),oK 28 (.call 123 [T24,T27]),oQ 29 (.bin .add T19 T28),oM 5 T29] [0,1,5,6]))
(.reg 4 [oM 16 T6,oQ 17 (.bin .add T16 (cI 1)),oM 6 T17] [0,1,5,6]))))))
(.seq
(.reg 6 [oM 30 T5,oM 4 T30] [4])
.ret))))
theorem fok123:FOK Tryz.prog 123 (31,ic123,[(.t 4)]):=ag5 [] Tryz.func123
def ic124:IC :=
(.seq
(.reg 0 [oM 2 (cB false)] [0])
(.seq
(.reg 1 [oM 3 T0,oK 4 (.call 189 [T3]),oM 5 T4,gQ 6 5 true (.mov T0),gQ 7 5 true (.bin .neq T6 (.c (zU 1))),oQ 8 (.pick T5 T7 (cB false)),oM 2 T8] [2])
.ret))
theorem fok124:FOK Tryz.prog 124 (9,ic124,[(.t 2)]):=ag5 [] Tryz.func124
def ic125:IC :=
(.seq
(.reg 0 [oM 4 (cB false)] [0,1])
(.seq
(.reg 1 [oM 5 T0,oM 6 T1,oK 7 (.call 204 [T5,T6]),oQ 8 (.bin .geq T7 (cI 0)),oM 4 T8] [4])
.ret))
theorem fok125:FOK Tryz.prog 125 (9,ic125,[(.t 4)]):=ag5 [] Tryz.func125
def ic126:IC :=
(.seq
(.reg 0 [oK 1 (.ai7 T0),oM 2 (cB false)] [1])
(.seq
(.reg 1 [oQ 3 (.aa9 0 T1),oQ 4 (.load none T3),oQ 5 (.bin .lss T4 (.c (zU 1))),oM 6 T5,gQ 7 6 false (.aa9 0 T1),gQ 8 6 false (.load none T7),gQ 9 6 false (.bin .gtr T8 (.c (zU 4))),oQ 10 (.pick T6 (cB true) T9),oM 11 T10,gQ 12 11 false (.aa9 1 T1),gQ 13 11 false (.load (some 5) T12),gK 14 11 false (.call 127 [T13]),gQ 15 11 false (.not T14),oQ 16 (.pick T11 (cB true) T15),oM 2 T16] [2])
.ret))
theorem fok126:FOK Tryz.prog 126 (17,ic126,[(.t 2)]):=ag5 [1000001] Tryz.func126
def ic127:IC :=
(.seq
(.reg 0 [⟨(some 1),none,(.ai7 T0)⟩,⟨(some 2),none,(.q (.mov (.c (.bool false))))⟩] [1])
(.seq
(.block 0
(.seq
(.reg 1 [⟨(some 4),none,(.q (.aa9 0 T1))⟩,⟨(some 5),none,(.q (.load none T4))⟩,⟨(some 6),none,(.call 205 [T5])⟩,⟨(some 7),none,(.q (.not T6))⟩,⟨(some 8),none,(.q (.mov T7))⟩,⟨(some 9),(some ⟨8,false⟩),(.q (.aa9 1 T1))⟩,⟨(some 10),(some ⟨8,false⟩),(.q (.load none T9))⟩,⟨(some 11),(some ⟨8,false⟩),(.call 206 [T10])⟩,⟨(some 12),(some ⟨8,false⟩),(.q (.not T11))⟩,⟨(some 13),none,(.q (.pick T8 (.c (.bool true)) T12))⟩,⟨(some 3),none,(.q (.mov T13))⟩] [1,3])
(.cond T3
(.seq
(.reg 2 [⟨(some 2),none,(.q (.mov (.c (.bool false))))⟩] [2])
.ret)
(.seq
(.reg 3 [⟨(some 15),none,(.q (.aa9 1 T1))⟩,⟨(some 16),none,(.q (.load none T15))⟩,⟨(some 17),none,(.q (.bin .eql T16 (.c (.int .u8 0))))⟩,⟨(some 14),none,(.q (.mov T17))⟩] [1,14])
(.cond T14
(.seq
(.reg 4 [⟨(some 18),none,(.q (.aa9 2 T1))⟩,⟨(some 19),none,(.q (.load (some 3) T18))⟩,⟨(some 20),none,(.q (.bld [(.int .i64 0),(.str []),(.str [])] []))⟩,⟨(some 21),none,(.q (.eqs [1,2,2] true false T19 T20))⟩,⟨(some 2),none,(.q (.mov T21))⟩] [2])
.ret)
.skip)))))
(.seq
(.reg 5 [⟨(some 22),none,(.q (.aa9 0 T1))⟩,⟨(some 23),none,(.q (.load none T22))⟩,⟨(some 24),none,(.call 207 [T23])⟩,⟨(some 25),none,(.q (.not T24))⟩,⟨(some 26),none,(.q (.mov T25))⟩,⟨(some 27),(some ⟨26,true⟩),(.q (.aa9 2 T1))⟩,⟨(some 28),(some ⟨26,true⟩),(.q (.load (some 3) T27))⟩,⟨(some 29),(some ⟨26,true⟩),(.call 208 [T28,(.c (.bool true))])⟩,⟨(some 30),none,(.q (.pick T26 T29 (.c (.bool false))))⟩,⟨(some 2),none,(.q (.mov T30))⟩] [2])
.ret)))
theorem fok127:FOK Tryz.prog 127 (31,ic127,[(.t 2)]):=.mk (pf:=[1000001]) (an:=[(0,[1]),(1,[1,3]),(2,[2]),(3,[1,14]),(4,[2]),(5,[2])]) (by kernel_rfl) (ac5 Tryz.func127 (by kernel_rfl) (by kernel_rfl) (by kernel_rfl))
def ic128:IC :=
(.seq
(.reg 0 [oM 4 (cB false)] [0,1])
(.seq
(.reg 1 [oM 5 T0,oM 6 T1,oK 7 (.call 209 [T5,T6]),oQ 8 (.bin .geq T7 (cI 0)),oM 4 T8] [4])
.ret))
theorem fok128:FOK Tryz.prog 128 (9,ic128,[(.t 4)]):=ag5 [] Tryz.func128
def ic129:IC :=
(.seq
(.reg 0 [oK 3 (.ai7 T0),oM 4 (cB false)] [1,2,3])
(.seq
(.aj9 1 [oQ 5 (.load (some 2) T3),oQ 6 (.aa9 2 T1),oQ 7 (.load none T6),oQ 8 (.len 0 T7),oQ 9 (.load none T2),oK 10 (.ag1 131 [T9]),oK 11 (.ag1 130 [T5,T8,T10]),oQ 12 (.not T11),oM 4 T12] false [4])
.ret))
theorem fok129:FOK Tryz.prog 129 (13,ic129,[(.t 4)]):=ag5 ([1000003]++[130,131]) Tryz.func129 (by kernel_rfl) (by kernel_rfl) (by kernel_rfl) (by kernel_rfl)
def ic130:IC :=
(.seq
(.reg 0 [oK 3 (.ai7 T0),oM 6 (cB false)] [1,2,3])
(.seq
(.reg 1 [oM 8 T2,oM 7 T8] [1,3,7])
(.seq
(.seq
(.reg 2 [oQ 9 (.aa9 0 T3),oQ 10 (.load none T9),oQ 11 (.bin .eql T10 (.c (zU 1)))] [1,3,7,11])
(.cond T11
(.reg 3 [oM 12 T1,oM 7 T12] [3,7])
.skip))
(.seq
(.reg 4 [oQ 13 (.aa9 0 T3),oQ 14 (.load none T13),oQ 15 (.bin .geq T14 (.c (zU 1))),oM 16 T15,gQ 17 16 true (.aa9 0 T3),gQ 18 16 true (.load none T17),gQ 19 16 true (.bin .leq T18 (.c (zU 4))),oQ 20 (.pick T16 T19 (cB false)),oM 21 T20,gQ 22 21 true (.aa9 1 T3),gQ 23 21 true (.load none T22),gQ 24 21 true (.bin .geq T23 (cI 0)),oQ 25 (.pick T21 T24 (cB false)),oM 26 T25,gQ 27 26 true (.aa9 1 T3),gQ 28 26 true (.load none T27),gQ 29 26 true (.mov T7),gQ 30 26 true (.bin .lss T28 T29),oQ 31 (.pick T26 T30 (cB false)),oM 6 T31] [6])
.ret))))
theorem fok130:FOK Tryz.prog 130 (32,ic130,[(.t 6)]):=ag5 [1000003] Tryz.func130
def ic131:IC :=
(.seq
(.reg 0 [⟨(some 2),none,(.q (.mov (.c (.int .i64 0))))⟩] [0])
(.seq
(.seq
(.reg 1 [⟨(some 3),none,(.q (.mov T0))⟩,⟨(some 4),none,(.q (.au9 (.pointer 108) false T3))⟩] [0,4])
(.cond T4
(.seq
(.reg 2 [⟨(some 2),none,(.q (.mov (.c (.int .i64 0))))⟩] [2])
.ret)
.skip))
(.seq
(.reg 3 [⟨(some 5),none,(.q (.mov T0))⟩,⟨(some 6),none,(.q (.al8 T5))⟩,⟨(some 7),none,(.q (.aa9 1 T6))⟩,⟨(some 8),none,(.q (.load none T7))⟩,⟨(some 2),none,(.q (.mov T8))⟩] [2])
.ret)))
theorem fok131:FOK Tryz.prog 131 (9,ic131,[(.t 2)]):=.mk (pf:=[]) (an:=[(0,[0]),(1,[0,4]),(2,[2]),(3,[2])]) (by kernel_rfl) (ac5 Tryz.func131 (by kernel_rfl) (by kernel_rfl) (by kernel_rfl))
end Go.Id.Tryz
