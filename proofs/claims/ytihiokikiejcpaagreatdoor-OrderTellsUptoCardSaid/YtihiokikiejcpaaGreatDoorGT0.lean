/- The compiled codes of functions,written by a program out of the given form. Conditions: none. -/
import Derived.Test.YtihiokikiejcpaaGreatDoorFwZb
import Derived.Test.YtihiokikiejcpaaGreatDoorProg
set_option linter.all false
namespace Go.Id.Tryz
open Go Go.Id Go.Proofs
def gg5:List Nat:=List.range 197
def ic3:IC :=
(.seq
(.reg 0 [oM 10 (cB false)] [0,1,2,3,4])
(.seq
(.seq
(.reg 1 [oM 18 T0,oM 19 T1,oM 20 T2,oK 21 (.call 4 [T18,T19,T20])] [0,1,2,3,4,21])
(.cond T21
(.seq
(.reg 2 [oM 10 (cB true)] [10])
.ret)
.skip))
(.seq
(.reg 3 [oM 23 T0,oM 24 T1,oK 25 (.call 5 [T23,T24]),oM 22 T25,oQ 26 (.ext 0 T22),oQ 27 (.ext 1 T22),oM 11 T26,oM 12 T27] [0,1,2,3,4,11,12])
(.seq
(.seq
(.reg 4 [oM 28 T12,oQ 29 (.bin .neq T28 (cI 0))] [0,1,2,3,4,11,29])
(.cond T29
(.seq
(.reg 5 [oM 10 (cB true)] [10])
.ret)
.skip))
(.seq
(.reg 6 [oM 30 T0,oM 31 T1,oK 32 (.call 6 [T30,T31]),oM 13 T32] [2,3,4,11,13])
(.seq
(.reg 7 [oK 33 (.bsl 2 0 [(zU 0),(zI 0)] []),oM 34 T2,oK 35 (.app 2 T33 T34),oM 14 T35] [2,3,4,11,13,14])
(.seq
(.reg 8 [oM 37 T11,oM 38 T2,oK 39 (.call 7 [T37,T38]),oM 36 T39,oQ 40 (.ext 0 T36),oQ 41 (.ext 1 T36),oM 15 T40,oM 12 T41] [2,3,4,11,12,13,14,15])
(.seq
(.reg 9 [oM 43 T13,oM 44 T2,oK 45 (.call 8 [T43,T44]),oM 42 T45,oQ 46 (.ext 0 T42),oQ 47 (.ext 1 T42),oM 16 T46,oM 17 T47] [2,3,4,11,12,13,14,15,16,17])
(.seq
(.reg 10 [oM 48 T12,oM 49 T17,oQ 50 (.bin .eql T48 T49),oM 51 T50,gQ 52 51 true (.mov T15),gQ 53 51 true (.mov T16),gK 54 51 true (.call 9 [T52,T53]),oQ 55 (.pick T51 T54 (cB false)),oM 56 T55,gQ 57 56 true (.mov T14),gQ 58 56 true (.mov T2),gK 59 56 true (.call 9 [T57,T58]),oQ 60 (.pick T56 T59 (cB false)),oM 61 T60,gQ 62 61 true (.mov T11),gQ 63 61 true (.mov T3),gQ 64 61 true (.mov T4),gK 65 61 true (.call 10 [T62,T63,T64]),gQ 66 61 true (.mov T13),gQ 67 61 true (.mov T3),gQ 68 61 true (.mov T4),gK 69 61 true (.call 11 [T66,T67,T68]),gQ 70 61 true (.eqs [0] false false T65 T69),oQ 71 (.pick T61 T70 (cB false)),oM 10 T71] [10])
.ret)))))))))
theorem fok3:FOK Tryz.prog 3 (72,ic3,[(.t 10)]):=ai3 [] Tryz.func3
def ic4:IC :=
(.seq
(.reg 0 [oM 6 (cB false)] [0,1,2])
(.seq
(.reg 1 [oM 10 T1,oK 11 (.call 12 [T10,(cI 600)]),oM 7 T11] [0,1,2,7])
(.seq
(.reg 2 [oM 12 T1,oQ 13 (.len 0 T12),oM 8 T13] [0,2,7,8])
(.seq
(.seq
(.reg 3 [oM 9 (cI 0)] [0,2,7,8,9])
(.block 0
(.loop
(.seq
(.seq
(.reg 4 [oM 14 T9,oM 15 T0,oQ 16 (.len 0 T15),oQ 17 (.bin .lss T14 T16),oM 18 T17,gQ 19 18 true (.mov T7),gQ 20 18 true (.bin .lss T19 (cI 600)),oQ 21 (.pick T18 T20 (cB false))] [0,2,7,8,9,21])
(.cond T21
.skip
(.exit 0)))
(.seq
(.block 1
(.seq
(.reg 6 [oM 24 T7,oQ 25 (.bin .add T24 (cI 1)),oM 26 T0,oM 27 T9,oQ 28 (.ab6 2 T26 T27),oQ 29 (.ab1 1 T28),oQ 30 (.load none T29),oK 31 (.call 12 [T30,(cI 600)]),oQ 32 (.bin .add T25 T31),oM 7 T32] [0,2,7,8,9])
(.reg 7 [oM 33 T8,oM 34 T0,oM 35 T9,oQ 36 (.ab6 2 T34 T35),oQ 37 (.ab1 1 T36),oQ 38 (.load none T37),oQ 39 (.len 0 T38),oQ 40 (.bin .add T33 T39),oM 8 T40] [0,2,7,8,9])))
(.reg 5 [oM 22 T9,oQ 23 (.bin .add T22 (cI 1)),oM 9 T23] [0,2,7,8,9]))))))
(.seq
(.reg 8 [oM 41 T7,oQ 42 (.bin .geq T41 (cI 600)),oM 43 T42,gQ 44 43 false (.mov T8),gQ 45 43 false (.bin .gtr T44 (cI 24)),oQ 46 (.pick T43 (cB true) T45),oM 47 T46,gQ 48 47 false (.mov T2),gQ 49 47 false (.len 0 T48),gQ 50 47 false (.bin .gtr T49 (cI 60)),oQ 51 (.pick T47 (cB true) T50),oM 6 T51] [6])
.ret)))))
theorem fok4:FOK Tryz.prog 4 (52,ic4,[(.t 6)]):=ai3 [] Tryz.func4
def ic5:IC :=
(.seq
(.reg 0 [oM 4 (.c .af2),oM 5 (cI 0)] [0,1])
(.seq
(.reg 1 [oM 14 T1,oQ 15 (.len 0 T14),oM 6 T15] [0,1,6])
(.seq
(.seq
(.reg 2 [oM 16 T0,oQ 17 (.len 0 T16),oM 18 (cI 0)] [0,1,6,16,17,18])
(.block 0
(.loop
(.seq
(.reg 3 [oQ 19 (.bin .lss T18 T17)] [0,1,6,16,17,18,19])
(.seq
(.cond T19
.skip
(.exit 0))
(.seq
(.block 1
(.seq
(.reg 4 [oQ 20 (.ab6 2 T16 T18),oQ 21 (.load (some 2) T20),oK 8 (.alloc [(zI 0),.aa1]),oN (.store 2 T8 T21)] [0,1,6,8,16,17,18])
(.reg 5 [oM 22 T6,oQ 23 (.ab1 1 T8),oQ 24 (.load none T23),oQ 25 (.len 0 T24),oQ 26 (.bin .add T22 T25),oM 6 T26] [0,1,6,16,17,18])))
(.reg 6 [oQ 27 (.bin .add T18 (cI 1)),oM 18 T27] [0,1,6,16,17,18])))))))
(.seq
(.seq
(.reg 7 [oM 28 T0,oQ 29 (.len 0 T28),oQ 30 (.bin .gtr T29 (cI 16)),oM 31 T30,gQ 32 31 false (.mov T6),gQ 33 31 false (.bin .gtr T32 (cI 256)),oQ 34 (.pick T31 (cB true) T33)] [0,1,34])
(.cond T34
(.seq
(.reg 8 [oM 4 (.c .af2),oM 5 (cI 40)] [4,5])
.ret)
.skip))
(.seq
(.reg 9 [oM 35 T1,oQ 36 (.len 0 T35),oK 37 .bg3,oQ 38 (.bld [.aa1,(zI 0),.ae1] [⟨1,⟨1,T36⟩⟩,⟨2,⟨1,T37⟩⟩]),oK 39 (.box T38),oM 9 T39] [0,1,9])
(.seq
(.seq
(.reg 10 [oM 40 T9,oM 41 T1,oK 42 (.call 13 [T40,T41,(cI (-1)),(cI 1025)]),oM 10 T42] [0,9,10])
(.seq
(.reg 11 [oM 43 T10,oQ 44 (.bin .neq T43 (cI 0))] [0,9,10,44])
(.cond T44
(.seq
(.reg 12 [oM 45 T10,oM 4 (.c .af2),oM 5 T45] [4,5])
.ret)
.skip)))
(.seq
(.seq
(.reg 13 [oM 46 T0,oQ 47 (.len 0 T46),oM 48 (cI 0)] [9,46,47,48])
(.block 2
(.loop
(.seq
(.reg 14 [oQ 49 (.bin .lss T48 T47)] [9,46,47,48,49])
(.seq
(.cond T49
.skip
(.exit 2))
(.seq
(.block 3
(.seq
(.reg 15 [oM 50 T48,oQ 51 (.ab6 2 T46 T48),oQ 52 (.load (some 2) T51),oK 12 (.alloc [(zI 0),.aa1]),oM 11 T50,oN (.store 2 T12 T52)] [9,11,12,46,47,48])
(.seq
(.seq
(.reg 16 [oQ 53 (.ab1 0 T12),oQ 54 (.load none T53),oQ 55 (.bin .lss T54 (cI 0)),oM 56 T55,gQ 57 56 false (.ab1 0 T12),gQ 58 56 false (.load none T57),gQ 59 56 false (.bin .gtr T58 (cI 1024)),oQ 60 (.pick T56 (cB true) T59)] [9,11,12,46,47,48,60])
(.cond T60
(.seq
(.reg 17 [oM 4 (.c .af2),oM 5 (cI 4)] [4,5])
.ret)
.skip))
(.seq
(.reg 18 [oM 61 T9,oQ 62 (.ab1 1 T12),oQ 63 (.load none T62),oM 64 T11,oQ 65 (.ab1 0 T12),oQ 66 (.load none T65),oK 67 (.call 13 [T61,T63,T64,T66]),oM 13 T67] [9,13,46,47,48])
(.seq
(.reg 19 [oM 68 T13,oQ 69 (.bin .neq T68 (cI 0))] [9,13,46,47,48,69])
(.cond T69
(.seq
(.reg 20 [oM 70 T13,oM 4 (.c .af2),oM 5 T70] [4,5])
.ret)
.skip))))))
(.reg 21 [oQ 71 (.bin .add T48 (cI 1)),oM 48 T71] [9,46,47,48])))))))
(.seq
(.reg 22 [oM 72 T9,oM 4 T72,oM 5 (cI 0)] [4,5])
.ret))))))))
theorem fok5:FOK Tryz.prog 5 (73,ic5,[(.t 4),(.t 5)]):=ai3 [] Tryz.func5
def ic6:IC :=
(.seq
(.reg 0 [oM 4 (.c .aa1)] [0,1])
(.seq
(.reg 1 [oK 7 (.bsl 15 0 [(.str []),(zI 0),(.str []),(.str []),(zU 0),(.str []),.aa1,.aa1,.aa1,.aa1,.aa1,.aa1,.aa1,.aa1,.aa1] []),oM 8 T1,oK 9 (.app 15 T7 T8),oM 5 T9] [0,5])
(.seq
(.seq
(.reg 2 [oM 6 (cI 0)] [0,5,6])
(.block 0
(.loop
(.seq
(.seq
(.reg 3 [oM 10 T6,oM 11 T0,oQ 12 (.len 0 T11),oQ 13 (.bin .lss T10 T12)] [0,5,6,13])
(.cond T13
.skip
(.exit 0)))
(.seq
(.block 1
(.reg 5 [oM 16 T5,oM 17 T0,oM 18 T6,oQ 19 (.ab6 2 T17 T18),oQ 20 (.ab1 1 T19),oQ 21 (.load none T20),oK 22 (.app 15 T16 T21),oM 5 T22] [0,5,6]))
(.reg 4 [oM 14 T6,oQ 15 (.bin .add T14 (cI 1)),oM 6 T15] [0,5,6]))))))
(.seq
(.reg 6 [oM 23 T5,oM 4 T23] [4])
.ret))))
theorem fok6:FOK Tryz.prog 6 (24,ic6,[(.t 4)]):=ai3 [] Tryz.func6
def ic7:IC :=
(.seq
(.reg 0 [oM 4 (.c .aa1),oM 5 (cI 0)] [0,1])
(.seq
(.seq
(.reg 1 [oM 20 T0,oQ 21 (.cl4 (.pointer 45) false T20)] [0,1,21])
(.cond T21
(.seq
(.reg 2 [oM 4 (.c .aa1),oM 5 (cI 2)] [4,5])
.ret)
.skip))
(.seq
(.reg 3 [oK 22 .bg3,oM 6 T22] [0,1,6])
(.seq
(.reg 4 [oK 7 (.alloc [.aa1,.aa1,.aa1])] [0,1,6,7])
(.seq
(.seq
(.reg 5 [oM 23 T1,oQ 24 (.len 0 T23),oM 25 (cI 0)] [0,6,7,23,24,25])
(.block 0
(.loop
(.seq
(.reg 6 [oQ 26 (.bin .lss T25 T24)] [0,6,7,23,24,25,26])
(.seq
(.cond T26
.skip
(.exit 0))
(.seq
(.block 1
(.seq
(.reg 7 [oQ 27 (.ab6 2 T23 T25),oQ 28 (.load (some 2) T27),oK 9 (.alloc [(zU 0),(zI 0)]),oN (.store 2 T9 T28)] [0,6,7,9,23,24,25])
(.seq
(.seq
(.reg 8 [oM 30 T6,oQ 31 (.ab1 1 T9),oQ 32 (.load none T31),oQ 33 (.lkp 1 (zU 0) true T30 T32),oM 29 T33,oQ 34 (.ext 0 T29),oQ 35 (.ext 1 T29),oM 10 T34,oM 11 T35] [0,6,7,9,11,23,24,25])
(.seq
(.an7 9 [oM 36 T11,oM 37 T36,gQ 38 37 false (.ab1 0 T9),gQ 39 37 false (.load none T38),gQ 40 37 false (.bin .lss T39 (.c (zU 1))),oQ 41 (.pick T37 (cB true) T40),oM 42 T41,gQ 43 42 false (.ab1 0 T9),gQ 44 42 false (.load none T43),gQ 45 42 false (.bin .gtr T44 (.c (zU 8))),oQ 46 (.pick T42 (cB true) T45),oM 47 T46,gQ 48 47 false (.ab1 1 T9),gQ 49 47 false (.load none T48),gQ 50 47 false (.bin .lss T49 (cI 0)),oQ 51 (.pick T47 (cB true) T50),oM 52 T51,gQ 53 52 false (.ab1 1 T9),gQ 54 52 false (.load none T53),gQ 55 52 false (.mov T0),gK 56 52 false (.ah5 14 [T55]),gQ 57 52 false (.bin .geq T54 T56),oQ 58 (.pick T52 (cB true) T57)] false [0,6,7,9,23,24,25,58])
(.cond T58
(.seq
(.reg 10 [oM 4 (.c .aa1),oM 5 (cI 4)] [4,5])
.ret)
.skip)))
(.seq
(.reg 11 [oM 59 T6,oQ 60 (.ab1 1 T9),oQ 61 (.load none T60),oQ 62 (.ab1 0 T9),oQ 63 (.load none T62),oN (.cr3 1 T59 T61 T63)] [0,6,7,9,23,24,25])
(.seq
(.reg 12 [oQ 64 (.ab1 0 T9),oQ 65 (.load none T64),oK 66 (.call 15 [T65]),oM 12 T66] [0,6,7,9,12,23,24,25])
(.an7 13 [oM 67 T12,oM 68 T12,oQ 69 (.az3 3 1 T7 T68),oQ 70 (.load none T69),oQ 71 (.ab1 1 T9),oQ 72 (.load none T71),oK 73 (.aw2 1 1 [(zI 0)] [⟨0,⟨1,T72⟩⟩]),oK 74 (.app 1 T70 T73),oQ 75 (.az3 3 1 T7 T67),oN (.store 1 T75 T74)] true [0,6,7,23,24,25]))))))
(.reg 14 [oQ 76 (.bin .add T25 (cI 1)),oM 25 T76] [0,6,7,23,24,25])))))))
(.seq
(.an7 15 [oM 77 T0,oQ 78 (.az3 3 1 T7 (cI 0)),oQ 79 (.load none T78),oK 80 (.ah5 16 [T77,T79]),oM 81 T0,oQ 82 (.az3 3 1 T7 (cI 2)),oQ 83 (.load none T82),oK 84 (.ah5 16 [T81,T83]),oK 13 (.alloc [.ae1,.ae1]),oK 14 (.alloc [.ae1,.ae1]),oN (.store 2 T13 T80),oN (.store 2 T14 T84)] false [6,7,13,14])
(.seq
(.reg 16 [oQ 85 (.az3 3 1 T7 (cI 1)),oQ 86 (.load none T85),oK 87 (.call 17 [T86,(.f 18)])] [6,7,13,14])
(.seq
(.reg 17 [oM 15 (.c .aa1)] [6,7,13,14,15])
(.seq
(.seq
(.an7 18 [oQ 88 (.az3 3 1 T7 (cI 0)),oQ 89 (.load none T88),oQ 90 (.mkf 20 [] [T13]),oK 91 (.ah5 19 [T89,T90]),oQ 92 (.az3 3 1 T7 (cI 1)),oQ 93 (.load none T92),oQ 94 (.az3 3 1 T7 (cI 2)),oQ 95 (.load none T94),oQ 96 (.mkf 22 [] [T14]),oK 97 (.ah5 19 [T95,T96]),oK 98 (.aw2 1 3 [.aa1] [⟨0,⟨1,T91⟩⟩,⟨1,⟨1,T93⟩⟩,⟨2,⟨1,T97⟩⟩]),oQ 99 (.len 0 T98),oM 100 (cI 0)] false [6,15,98,99,100])
(.block 2
(.loop
(.seq
(.reg 19 [oQ 101 (.bin .lss T100 T99)] [6,15,98,99,100,101])
(.seq
(.cond T101
.skip
(.exit 2))
(.seq
(.block 3
(.seq
(.reg 20 [oQ 102 (.ab6 1 T98 T100),oQ 103 (.load none T102),oM 17 T103] [6,15,17,98,99,100])
(.seq
(.reg 21 [oM 104 T17,oQ 105 (.len 0 T104),oM 106 (cI 0)] [6,15,98,99,100,104,105,106])
(.block 4
(.loop
(.seq
(.reg 22 [oQ 107 (.bin .lss T106 T105)] [6,15,98,99,100,104,105,106,107])
(.seq
(.cond T107
.skip
(.exit 4))
(.seq
(.block 5
(.seq
(.reg 23 [oQ 108 (.ab6 1 T104 T106),oQ 109 (.load none T108),oM 19 T109] [6,15,19,98,99,100,104,105,106])
(.reg 24 [oM 110 T15,oM 111 T6,oM 112 T19,oQ 113 (.lkp 1 (zU 0) false T111 T112),oM 114 T19,oQ 115 (.bld [(zU 0),(zI 0)] [⟨0,⟨1,T113⟩⟩,⟨1,⟨1,T114⟩⟩]),oK 116 (.aw2 2 1 [(zU 0),(zI 0)] [⟨0,⟨2,T115⟩⟩]),oK 117 (.app 2 T110 T116),oM 15 T117] [6,15,98,99,100,104,105,106])))
(.reg 25 [oQ 118 (.bin .add T106 (cI 1)),oM 106 T118] [6,15,98,99,100,104,105,106])))))))))
(.reg 26 [oQ 119 (.bin .add T100 (cI 1)),oM 100 T119] [6,15,98,99,100])))))))
(.seq
(.reg 27 [oM 120 T15,oM 4 T120,oM 5 (cI 0)] [4,5])
.ret))))))))))
theorem fok7:FOK Tryz.prog 7 (121,ic7,[(.t 4),(.t 5)]):=ai3 ([1000073,1000098,1000116]++[14,16,19]) Tryz.func7 (by kernel_rfl) (by kernel_rfl) (by kernel_rfl) (by kernel_rfl)
def ic8:IC :=
(.seq
(.reg 0 [oM 4 (.c .aa1),oM 5 (cI 0)] [0,1])
(.seq
(.reg 1 [oM 6 (.c .aa1),oM 7 (.c .aa1),oM 8 (.c .aa1)] [0,1,6,7,8])
(.seq
(.seq
(.reg 2 [oM 9 (cI 0)] [0,1,6,7,8,9])
(.block 0
(.loop
(.seq
(.seq
(.reg 3 [oM 17 T9,oM 18 T1,oQ 19 (.len 0 T18),oQ 20 (.bin .lss T17 T19)] [0,1,6,7,8,9,20])
(.cond T20
.skip
(.exit 0)))
(.seq
(.block 1
(.seq
(.reg 5 [oM 23 T1,oM 24 T9,oQ 25 (.ab6 2 T23 T24),oQ 26 (.load (some 2) T25),oK 10 (.alloc [(zU 0),(zI 0)]),oN (.store 2 T10 T26)] [0,1,6,7,8,9,10])
(.seq
(.seq
(.reg 6 [oQ 27 (.ab1 0 T10),oQ 28 (.load none T27),oQ 29 (.bin .lss T28 (.c (zU 1))),oM 30 T29,gQ 31 30 false (.ab1 0 T10),gQ 32 30 false (.load none T31),gQ 33 30 false (.bin .gtr T32 (.c (zU 8))),oQ 34 (.pick T30 (cB true) T33),oM 35 T34,gQ 36 35 false (.ab1 1 T10),gQ 37 35 false (.load none T36),gQ 38 35 false (.bin .lss T37 (cI 0)),oQ 39 (.pick T35 (cB true) T38),oM 40 T39,gQ 41 40 false (.ab1 1 T10),gQ 42 40 false (.load none T41),gQ 43 40 false (.mov T0),gQ 44 40 false (.len 0 T43),gQ 45 40 false (.bin .geq T42 T44),oQ 46 (.pick T40 (cB true) T45)] [0,1,6,7,8,9,10,46])
(.cond T46
(.seq
(.reg 7 [oM 4 (.c .aa1),oM 5 (cI 4)] [4,5])
.ret)
.skip))
(.seq
(.seq
(.reg 8 [oM 11 (cI 0)] [0,1,6,7,8,9,10,11])
(.block 2
(.loop
(.seq
(.seq
(.reg 9 [oM 47 T11,oM 48 T9,oQ 49 (.bin .lss T47 T48)] [0,1,6,7,8,9,10,11,49])
(.cond T49
.skip
(.exit 2)))
(.seq
(.block 3
(.seq
(.an7 11 [oM 52 T1,oM 53 T11,oQ 54 (.ab6 2 T52 T53),oQ 55 (.ab1 1 T54),oQ 56 (.load none T55),oQ 57 (.ab1 1 T10),oQ 58 (.load none T57),oQ 59 (.bin .eql T56 T58)] false [0,1,6,7,8,9,10,11,59])
(.cond T59
(.seq
(.reg 12 [oM 4 (.c .aa1),oM 5 (cI 4)] [4,5])
.ret)
.skip)))
(.reg 10 [oM 50 T11,oQ 51 (.bin .add T50 (cI 1)),oM 11 T51] [0,1,6,7,8,9,10,11]))))))
(.seq
(.reg 13 [oQ 60 (.ab1 0 T10),oQ 61 (.load none T60)] [0,1,6,7,8,9,10,61])
(.block 4
(.seq
(.reg 15 [oQ 68 (.bin .eql T61 (.c (zU 6))),oM 67 T68] [0,1,6,7,8,9,10,61,67])
(.cond T67
(.reg 16 [oM 69 T8,oQ 70 (.ab1 1 T10),oQ 71 (.load none T70),oK 72 (.aw2 1 1 [(zI 0)] [⟨0,⟨1,T71⟩⟩]),oK 73 (.app 1 T69 T72),oM 8 T73] [0,1,6,7,8,9])
(.seq
(.seq
(.reg 17 [oQ 75 (.bin .eql T61 (.c (zU 7))),oM 74 T75] [0,1,6,7,8,9,10,61,74])
(.cond T74
.skip
(.reg 18 [oQ 76 (.bin .eql T61 (.c (zU 8))),oM 74 T76] [0,1,6,7,8,9,10,74])))
(.cond T74
(.seq
(.reg 19 [oM 12 (cI 0)] [0,1,6,7,8,9,10,12])
(.seq
(.block 5
(.loop
(.seq
(.seq
(.an7 20 [oM 77 T12,oM 78 T7,oQ 79 (.len 0 T78),oQ 80 (.bin .lss T77 T79),oM 81 T80,gQ 82 81 true (.mov T7),gQ 83 81 true (.mov T12),gQ 84 81 true (.ab6 1 T82 T83),gQ 85 81 true (.load none T84),gQ 86 81 true (.ab1 1 T10),gQ 87 81 true (.load none T86),gQ 88 81 true (.bin .lss T85 T87),oQ 89 (.pick T81 T88 (cB false))] false [0,1,6,7,8,9,10,12,89])
(.cond T89
.skip
(.exit 5)))
(.block 6
(.reg 21 [oM 90 T12,oQ 91 (.bin .add T90 (cI 1)),oM 12 T91] [0,1,6,7,8,9,10,12])))))
(.an7 22 [oK 92 (.bsl 1 0 [(zI 0)] []),oM 93 T7,oM 94 T12,oQ 95 (.slc 1 T93 none (some T94)),oK 96 (.app 1 T92 T95),oQ 97 (.ab1 1 T10),oQ 98 (.load none T97),oK 99 (.aw2 1 1 [(zI 0)] [⟨0,⟨1,T98⟩⟩]),oK 100 (.app 1 T96 T99),oM 101 T7,oM 102 T12,oQ 103 (.slc 1 T101 (some T102) none),oK 104 (.app 1 T100 T103),oM 7 T104] true [0,1,6,7,8,9])))
(.reg 14 [oM 62 T6,oQ 63 (.ab1 1 T10),oQ 64 (.load none T63),oK 65 (.aw2 1 1 [(zI 0)] [⟨0,⟨1,T64⟩⟩]),oK 66 (.app 1 T62 T65),oM 6 T66] [0,1,6,7,8,9])))))))))))
(.reg 4 [oM 21 T9,oQ 22 (.bin .add T21 (cI 1)),oM 9 T22] [0,1,6,7,8,9]))))))
(.seq
(.reg 23 [oM 105 T0,oM 106 T6,oK 107 (.call 23 [T105,T106,(cB false)]),oM 108 T7,oK 109 (.app 1 T107 T108),oM 110 T0,oM 111 T8,oK 112 (.call 23 [T110,T111,(cB true)]),oK 113 (.app 1 T109 T112),oM 13 T113] [1,13])
(.seq
(.reg 24 [oM 14 (.c .aa1)] [1,13,14])
(.seq
(.seq
(.reg 25 [oM 15 (cI 0)] [1,13,14,15])
(.block 7
(.loop
(.seq
(.seq
(.reg 26 [oM 114 T15,oM 115 T13,oQ 116 (.len 0 T115),oQ 117 (.bin .lss T114 T116)] [1,13,14,15,117])
(.cond T117
.skip
(.exit 7)))
(.seq
(.block 8
(.seq
(.reg 28 [oM 16 (cI 0)] [1,13,14,15,16])
(.block 9
(.loop
(.seq
(.seq
(.reg 29 [oM 120 T16,oM 121 T1,oQ 122 (.len 0 T121),oQ 123 (.bin .lss T120 T122)] [1,13,14,15,16,123])
(.cond T123
.skip
(.exit 9)))
(.seq
(.block 10
(.seq
(.an7 31 [oM 126 T1,oM 127 T16,oQ 128 (.ab6 2 T126 T127),oQ 129 (.ab1 1 T128),oQ 130 (.load none T129),oM 131 T13,oM 132 T15,oQ 133 (.ab6 1 T131 T132),oQ 134 (.load none T133),oQ 135 (.bin .eql T130 T134)] false [1,13,14,15,16,135])
(.cond T135
(.reg 32 [oM 136 T14,oM 137 T1,oM 138 T16,oQ 139 (.ab6 2 T137 T138),oQ 140 (.load (some 2) T139),oK 141 (.aw2 2 1 [(zU 0),(zI 0)] [⟨0,⟨2,T140⟩⟩]),oK 142 (.app 2 T136 T141),oM 14 T142] [1,13,14,15,16])
.skip)))
(.reg 30 [oM 124 T16,oQ 125 (.bin .add T124 (cI 1)),oM 16 T125] [1,13,14,15,16])))))))
(.reg 27 [oM 118 T15,oQ 119 (.bin .add T118 (cI 1)),oM 15 T119] [1,13,14,15]))))))
(.seq
(.reg 33 [oM 143 T14,oM 4 T143,oM 5 (cI 0)] [4,5])
.ret)))))))
theorem fok8:FOK Tryz.prog 8 (144,ic8,[(.t 4),(.t 5)]):=ai3 [1000065,1000072,1000099,1000141] Tryz.func8
def ic9:IC :=
(.seq
(.reg 0 [oM 4 (cB false)] [0,1])
(.seq
(.seq
(.reg 1 [oM 6 T0,oQ 7 (.len 0 T6),oM 8 T1,oQ 9 (.len 0 T8),oQ 10 (.bin .neq T7 T9)] [0,1,10])
(.cond T10
(.seq
(.reg 2 [oM 4 (cB false)] [4])
.ret)
.skip))
(.seq
(.seq
(.reg 3 [oM 5 (cI 0)] [0,1,5])
(.block 0
(.loop
(.seq
(.seq
(.reg 4 [oM 11 T5,oM 12 T0,oQ 13 (.len 0 T12),oQ 14 (.bin .lss T11 T13)] [0,1,5,14])
(.cond T14
.skip
(.exit 0)))
(.seq
(.block 1
(.seq
(.an7 6 [oM 17 T0,oM 18 T5,oQ 19 (.ab6 2 T17 T18),oQ 20 (.load (some 2) T19),oM 21 T1,oM 22 T5,oQ 23 (.ab6 2 T21 T22),oQ 24 (.load (some 2) T23),oQ 25 (.eqs [1,1] true true T20 T24)] false [0,1,5,25])
(.cond T25
(.seq
(.reg 7 [oM 4 (cB false)] [4])
.ret)
.skip)))
(.reg 5 [oM 15 T5,oQ 16 (.bin .add T15 (cI 1)),oM 5 T16] [0,1,5]))))))
(.seq
(.reg 8 [oM 4 (cB true)] [4])
.ret))))
theorem fok9:FOK Tryz.prog 9 (26,ic9,[(.t 4)]):=ai3 [] Tryz.func9
def ic10:IC :=
(.seq
(.reg 0 [oM 6 (cB false)] [0,1,2])
(.seq
(.reg 1 [oM 12 T0,oM 13 T1,oK 14 (.call 24 [T12,T13]),oM 11 T14,oQ 15 (.ext 0 T11),oQ 16 (.ext 1 T11),oK 7 (.alloc [(.str []),(zI 0),(.str []),(.str []),(zU 0),(.str []),.aa1,.aa1,.aa1,.aa1,.aa1,.aa1,.aa1,.aa1,.aa1]),oN (.store 15 T7 T15),oM 8 T16] [0,1,2,7,8])
(.seq
(.reg 2 [oM 18 T0,oM 19 T2,oK 20 (.call 24 [T18,T19]),oM 17 T20,oQ 21 (.ext 0 T17),oQ 22 (.ext 1 T17),oK 9 (.alloc [(.str []),(zI 0),(.str []),(.str []),(zU 0),(.str []),.aa1,.aa1,.aa1,.aa1,.aa1,.aa1,.aa1,.aa1,.aa1]),oN (.store 15 T9 T21),oM 10 T22] [1,2,7,8,9,10])
(.seq
(.reg 3 [oM 23 T8,oQ 24 (.bin .eql T23 (cI 0)),oM 25 T24,gQ 26 25 true (.mov T10),gQ 27 25 true (.bin .eql T26 (cI 0)),oQ 28 (.pick T25 T27 (cB false)),oM 29 T28,gQ 30 29 true (.mov T1),gQ 31 29 true (.mov T2),gQ 32 29 true (.bin .neq T30 T31),oQ 33 (.pick T29 T32 (cB false)),oM 34 T33,gQ 35 34 true (.load (some 15) T7),gQ 36 34 true (.load (some 15) T9),gK 37 34 true (.call 25 [T35,T36]),oQ 38 (.pick T34 T37 (cB false)),oM 6 T38] [6])
.ret))))
theorem fok10:FOK Tryz.prog 10 (39,ic10,[(.t 6)]):=ai3 [] Tryz.func10
def ic11:IC :=
(.seq
(.reg 0 [oM 6 (cB false)] [0,1,2])
(.seq
(.seq
(.reg 1 [oM 10 T1,oQ 11 (.bin .lss T10 (cI 0)),oM 12 T11,gQ 13 12 false (.mov T2),gQ 14 12 false (.bin .lss T13 (cI 0)),oQ 15 (.pick T12 (cB true) T14),oM 16 T15,gQ 17 16 false (.mov T1),gQ 18 16 false (.mov T0),gQ 19 16 false (.len 0 T18),gQ 20 16 false (.bin .geq T17 T19),oQ 21 (.pick T16 (cB true) T20),oM 22 T21,gQ 23 22 false (.mov T2),gQ 24 22 false (.mov T0),gQ 25 22 false (.len 0 T24),gQ 26 22 false (.bin .geq T23 T25),oQ 27 (.pick T22 (cB true) T26),oM 28 T27,gQ 29 28 false (.mov T1),gQ 30 28 false (.mov T2),gQ 31 28 false (.bin .eql T29 T30),oQ 32 (.pick T28 (cB true) T31)] [0,1,2,32])
(.cond T32
(.seq
(.reg 2 [oM 6 (cB false)] [6])
.ret)
.skip))
(.seq
(.seq
(.reg 3 [oM 7 (cI 0)] [0,1,2,7])
(.block 0
(.loop
(.seq
(.seq
(.reg 4 [oM 33 T7,oM 34 T0,oM 35 T1,oQ 36 (.ab6 15 T34 T35),oQ 37 (.ab1 7 T36),oQ 38 (.load none T37),oQ 39 (.len 0 T38),oQ 40 (.bin .lss T33 T39)] [0,1,2,7,40])
(.cond T40
.skip
(.exit 0)))
(.seq
(.block 1
(.seq
(.reg 6 [oM 43 T0,oM 44 T1,oQ 45 (.ab6 15 T43 T44),oQ 46 (.ab1 7 T45),oQ 47 (.load none T46),oM 48 T7,oQ 49 (.ab6 7 T47 T48),oQ 50 (.load (some 7) T49),oK 51 (.call 26 [T50]),oM 8 T51] [0,1,2,7,8])
(.seq
(.reg 7 [oM 9 (cI 0)] [0,1,2,7,8,9])
(.block 2
(.loop
(.seq
(.seq
(.reg 8 [oM 52 T9,oM 53 T8,oQ 54 (.len 0 T53),oQ 55 (.bin .lss T52 T54)] [0,1,2,7,8,9,55])
(.cond T55
.skip
(.exit 2)))
(.seq
(.block 3
(.seq
(.an7 10 [oM 58 T0,oM 59 T2,oQ 60 (.ab6 15 T58 T59),oQ 61 (.load (some 15) T60),oM 62 T8,oM 63 T9,oQ 64 (.ab6 5 T62 T63),oQ 65 (.load (some 5) T64),oK 66 (.call 27 [T61,T65])] false [0,1,2,7,8,9,66])
(.cond T66
(.seq
(.reg 11 [oM 6 (cB true)] [6])
.ret)
.skip)))
(.reg 9 [oM 56 T9,oQ 57 (.bin .add T56 (cI 1)),oM 9 T57] [0,1,2,7,8,9]))))))))
(.reg 5 [oM 41 T7,oQ 42 (.bin .add T41 (cI 1)),oM 7 T42] [0,1,2,7]))))))
(.seq
(.reg 12 [oM 6 (cB false)] [6])
.ret))))
theorem fok11:FOK Tryz.prog 11 (67,ic11,[(.t 6)]):=ai3 [] Tryz.func11
def ic12:IC :=
(.seq
(.reg 0 [oM 4 (cI 0)] [0,1])
(.seq
(.reg 1 [oM 5 (cI 0)] [0,1,5])
(.seq
(.seq
(.reg 2 [oM 6 (cI 0)] [0,1,5,6])
(.block 0
(.loop
(.seq
(.seq
(.reg 3 [oM 10 T6,oM 11 T0,oQ 12 (.len 0 T11),oQ 13 (.bin .lss T10 T12),oM 14 T13,gQ 15 14 true (.mov T5),gQ 16 14 true (.mov T1),gQ 17 14 true (.bin .lss T15 T16),oQ 18 (.pick T14 T17 (cB false))] [0,1,5,6,18])
(.cond T18
.skip
(.exit 0)))
(.seq
(.block 1
(.seq
(.reg 5 [oM 21 T0,oM 22 T6,oQ 23 (.ab6 15 T21 T22),oQ 24 (.load (some 15) T23),oK 7 (.alloc [(.str []),(zI 0),(.str []),(.str []),(zU 0),(.str []),.aa1,.aa1,.aa1,.aa1,.aa1,.aa1,.aa1,.aa1,.aa1]),oN (.store 15 T7 T24)] [0,1,5,6,7])
(.seq
(.reg 6 [oM 25 T5,oQ 26 (.bin .add T25 (cI 1)),oQ 27 (.ab1 6 T7),oQ 28 (.load none T27),oQ 29 (.len 0 T28),oQ 30 (.bin .add T26 T29),oQ 31 (.ab1 9 T7),oQ 32 (.load none T31),oQ 33 (.len 0 T32),oQ 34 (.bin .add T30 T33),oQ 35 (.ab1 14 T7),oQ 36 (.load none T35),oQ 37 (.len 0 T36),oQ 38 (.bin .add T34 T37),oM 5 T38] [0,1,5,6,7])
(.seq
(.reg 7 [oQ 39 (.ab1 7 T7),oQ 40 (.load none T39),oQ 41 (.ab1 8 T7),oQ 42 (.load none T41),oQ 43 (.ab1 10 T7),oQ 44 (.load none T43),oQ 45 (.ab1 11 T7),oQ 46 (.load none T45),oQ 47 (.ab1 12 T7),oQ 48 (.load none T47),oQ 49 (.ab1 13 T7),oQ 50 (.load none T49),oK 51 (.aw2 1 6 [.aa1] [⟨0,⟨1,T40⟩⟩,⟨1,⟨1,T42⟩⟩,⟨2,⟨1,T44⟩⟩,⟨3,⟨1,T46⟩⟩,⟨4,⟨1,T48⟩⟩,⟨5,⟨1,T50⟩⟩]),oQ 52 (.len 0 T51),oM 53 (cI 0)] [0,1,5,6,51,52,53])
(.block 2
(.loop
(.seq
(.reg 8 [oQ 54 (.bin .lss T53 T52)] [0,1,5,6,51,52,53,54])
(.seq
(.cond T54
.skip
(.exit 2))
(.seq
(.block 3
(.seq
(.reg 9 [oQ 55 (.ab6 1 T51 T53),oQ 56 (.load none T55),oM 9 T56] [0,1,5,6,9,51,52,53])
(.reg 10 [oM 57 T5,oM 58 T9,oM 59 T1,oK 60 (.call 28 [T58,T59]),oQ 61 (.bin .add T57 T60),oM 5 T61] [0,1,5,6,51,52,53])))
(.reg 11 [oQ 62 (.bin .add T53 (cI 1)),oM 53 T62] [0,1,5,6,51,52,53]))))))))))
(.reg 4 [oM 19 T6,oQ 20 (.bin .add T19 (cI 1)),oM 6 T20] [0,1,5,6]))))))
(.seq
(.reg 12 [oM 63 T5,oM 4 T63] [4])
.ret))))
theorem fok12:FOK Tryz.prog 12 (64,ic12,[(.t 4)]):=ai3 [1000051] Tryz.func12
def ic13:IC :=
(.seq
(.reg 0 [oM 8 (cI 0)] [0,1,2,3])
(.seq
(.seq
(.reg 1 [oM 11 T1,oQ 12 (.len 0 T11),oM 13 (cI 0)] [0,2,3,11,12,13])
(.block 0
(.loop
(.seq
(.reg 2 [oQ 14 (.bin .lss T13 T12)] [0,2,3,11,12,13,14])
(.seq
(.cond T14
.skip
(.exit 0))
(.seq
(.block 1
(.seq
(.reg 3 [oQ 15 (.ab6 15 T11 T13),oQ 16 (.load (some 15) T15),oK 10 (.alloc [(.str []),(zI 0),(.str []),(.str []),(zU 0),(.str []),.aa1,.aa1,.aa1,.aa1,.aa1,.aa1,.aa1,.aa1,.aa1]),oN (.store 15 T10 T16)] [0,2,3,10,11,12,13])
(.seq
(.seq
(.reg 4 [oQ 17 (.load (some 15) T10),oK 18 (.ah5 29 [T17]),oQ 19 (.not T18)] [0,2,3,10,11,12,13,19])
(.cond T19
(.seq
(.reg 5 [oM 8 (cI 4)] [8])
.ret)
.skip))
(.seq
(.an7 6 [oM 20 T0,oQ 21 (.bq9 T20),oQ 22 (.ab1 2 T21),oQ 23 (.load none T22),oQ 24 (.ab1 0 T10),oQ 25 (.load none T24),oM 26 T0,oQ 27 (.bq9 T26),oQ 28 (.ab1 2 T27),oQ 29 (.load none T28),oQ 30 (.ab1 0 T10),oQ 31 (.load none T30),oQ 32 (.lkp 2 .aa1 false T29 T31),oM 33 T0,oQ 34 (.bq9 T33),oQ 35 (.ab1 0 T34),oQ 36 (.load none T35),oQ 37 (.len 0 T36),oK 38 (.aw2 1 1 [(zI 0)] [⟨0,⟨1,T37⟩⟩]),oK 39 (.app 1 T32 T38),oN (.cr3 2 T23 T25 T39)] true [0,2,3,10,11,12,13])
(.an7 7 [oM 40 T0,oM 41 T0,oQ 42 (.bq9 T41),oQ 43 (.ab1 0 T42),oQ 44 (.load none T43),oQ 45 (.load (some 15) T10),oK 46 (.ah5 30 [T45]),oM 47 T2,oM 48 T3,oQ 49 (.bld [(.str []),(zI 0),(.str []),(.str []),(zU 0),(.str []),.aa1,.aa1,.aa1,.aa1,.aa1,.aa1,.aa1,.aa1,.aa1,(zI 0),(zI 0)] [⟨0,⟨15,T46⟩⟩,⟨15,⟨1,T47⟩⟩,⟨16,⟨1,T48⟩⟩]),oK 50 (.aw2 17 1 [(.str []),(zI 0),(.str []),(.str []),(zU 0),(.str []),.aa1,.aa1,.aa1,.aa1,.aa1,.aa1,.aa1,.aa1,.aa1,(zI 0),(zI 0)] [⟨0,⟨17,T49⟩⟩]),oK 51 (.app 17 T44 T50),oQ 52 (.bq9 T40),oQ 53 (.ab1 0 T52),oN (.store 1 T53 T51)] true [0,2,3,11,12,13])))))
(.reg 8 [oQ 54 (.bin .add T13 (cI 1)),oM 13 T54] [0,2,3,11,12,13])))))))
(.seq
(.reg 9 [oM 8 (cI 0)] [8])
.ret)))
theorem fok13:FOK Tryz.prog 13 (55,ic13,[(.t 8)]):=ai3 ([1000038,1000050]++gg5) Tryz.func13
def ic14:IC :=
(.seq
(.reg 0 [oM 2 (cI 0)] [0])
(.seq
(.seq
(.reg 1 [oM 3 T0,oQ 4 (.cl4 (.pointer 45) false T3)] [0,4])
(.cond T4
(.seq
(.reg 2 [oM 2 (cI 0)] [2])
.ret)
.skip))
(.seq
(.reg 3 [oM 5 T0,oQ 6 (.bq9 T5),oQ 7 (.ab1 0 T6),oQ 8 (.load none T7),oQ 9 (.len 0 T8),oM 2 T9] [2])
.ret)))
theorem fok14:FOK Tryz.prog 14 (10,ic14,[(.t 2)]):=ai3 [] Tryz.func14
def ic15:IC :=
(.seq
(.reg 0 [oM 2 (cI 0)] [0])
(.seq
(.seq
(.reg 1 [oM 3 T0] [3])
(.block 0
(.seq
(.seq
(.reg 2 [oQ 5 (.bin .eql T3 (.c (zU 7))),oM 4 T5] [3,4])
(.cond T4
.skip
(.reg 3 [oQ 6 (.bin .eql T3 (.c (zU 8))),oM 4 T6] [3,4])))
(.cond T4
(.seq
(.reg 4 [oM 2 (cI 1)] [2])
.ret)
(.seq
(.reg 5 [oQ 8 (.bin .eql T3 (.c (zU 6))),oM 7 T8] [7])
(.cond T7
(.seq
(.reg 6 [oM 2 (cI 2)] [2])
.ret)
.skip))))))
(.seq
(.reg 7 [oM 2 (cI 0)] [2])
.ret)))
theorem fok15:FOK Tryz.prog 15 (9,ic15,[(.t 2)]):=ai3 [] Tryz.func15
def ic16:IC :=
(.seq
(.reg 0 [oK 4 (.alloc [.ae1,.ae1])] [0,1,4])
(.seq
(.reg 1 [oK 17 .bg3,oK 18 .bg3,oQ 19 (.bld [.ae1,.ae1] [⟨0,⟨1,T17⟩⟩,⟨1,⟨1,T18⟩⟩]),oK 5 (.alloc [.ae1,.ae1]),oN (.store 2 T5 T19)] [0,1,4,5])
(.seq
(.seq
(.reg 2 [oM 20 T1,oQ 21 (.len 0 T20),oM 22 (cI 0)] [0,1,4,5,20,21,22])
(.block 0
(.loop
(.seq
(.reg 3 [oQ 23 (.bin .lss T22 T21)] [0,1,4,5,20,21,22,23])
(.seq
(.cond T23
.skip
(.exit 0))
(.seq
(.block 1
(.seq
(.reg 4 [oQ 24 (.ab6 1 T20 T22),oQ 25 (.load none T24),oM 7 T25] [0,1,4,5,7,20,21,22])
(.seq
(.reg 5 [oK 8 (.alloc [(.int .u64 0),(.int .u64 0),(.int .u64 0),(.int .u64 0)])] [0,1,4,5,7,8,20,21,22])
(.seq
(.seq
(.reg 6 [oM 26 T1,oQ 27 (.len 0 T26),oM 28 (cI 0)] [0,1,4,5,7,8,20,21,22,26,27,28])
(.block 2
(.loop
(.seq
(.reg 7 [oQ 29 (.bin .lss T28 T27)] [0,1,4,5,7,8,20,21,22,26,27,28,29])
(.seq
(.cond T29
.skip
(.exit 2))
(.seq
(.block 3
(.seq
(.reg 8 [oQ 30 (.ab6 1 T26 T28),oQ 31 (.load none T30),oM 10 T31] [0,1,4,5,7,8,10,20,21,22,26,27,28])
(.seq
(.reg 9 [oM 32 T0,oM 33 T7,oM 34 T10,oK 35 (.ah5 10 [T32,T33,T34])] [0,1,4,5,7,8,10,20,21,22,26,27,28,35])
(.cond T35
(.reg 10 [oQ 36 (.load (some 4) T8),oM 37 T10,oK 38 (.ah5 31 [T36,T37]),oN (.store 4 T8 T38)] [0,1,4,5,7,8,20,21,22,26,27,28])
.skip))))
(.reg 11 [oQ 39 (.bin .add T28 (cI 1)),oM 28 T39] [0,1,4,5,7,8,20,21,22,26,27,28])))))))
(.en3 12 [(0,oQ 40 (.ab1 0 T5),0),(1,oQ 41 (.load none T40),0),(2,oM 42 T7,0),(3,oQ 43 (.ab1 1 T5),0),(4,oQ 44 (.ldt none T43),0),(5,oM 45 T7,0),(6,oQ 46 (.load (some 4) T8),0),(7,oQ 47 (.ldt (some 4) T8),0),(8,oN (.cr3 1 T41 T42 T46),0),(9,oN (.cr3 1 T44 T45 T47),0)] [0,1,4,5,20,21,22])))))
(.reg 13 [oQ 48 (.bin .add T22 (cI 1)),oM 22 T48] [0,1,4,5,20,21,22])))))))
(.seq
(.seq
(.reg 14 [oM 11 (cB true)] [1,4,5,11])
(.block 4
(.loop
(.seq
(.seq
(.reg 15 [oM 49 T11] [1,4,5,49])
(.cond T49
.skip
(.exit 4)))
(.block 5
(.seq
(.reg 16 [oM 11 (cB false)] [1,4,5,11])
(.seq
(.reg 17 [oM 50 T1,oQ 51 (.len 0 T50),oM 52 (cI 0)] [1,4,5,11,50,51,52])
(.block 6
(.loop
(.seq
(.reg 18 [oQ 53 (.bin .lss T52 T51)] [1,4,5,11,50,51,52,53])
(.seq
(.cond T53
.skip
(.exit 6))
(.seq
(.block 7
(.seq
(.reg 19 [oQ 54 (.ab6 1 T50 T52),oQ 55 (.load none T54),oM 13 T55] [1,4,5,11,13,50,51,52])
(.seq
(.reg 20 [oQ 56 (.ab1 1 T5),oQ 57 (.load none T56),oM 58 T13,oQ 59 (.lkp 1 (.agg [(.int .u64 0),(.int .u64 0),(.int .u64 0),(.int .u64 0)]) false T57 T58),oK 14 (.alloc [(.int .u64 0),(.int .u64 0),(.int .u64 0),(.int .u64 0)]),oN (.store 4 T14 T59)] [1,4,5,11,13,14,50,51,52])
(.seq
(.seq
(.reg 21 [oM 60 T1,oQ 61 (.len 0 T60),oM 62 (cI 0)] [1,4,5,11,13,14,50,51,52,60,61,62])
(.block 8
(.loop
(.seq
(.reg 22 [oQ 63 (.bin .lss T62 T61)] [1,4,5,11,13,14,50,51,52,60,61,62,63])
(.seq
(.cond T63
.skip
(.exit 8))
(.seq
(.block 9
(.seq
(.reg 23 [oQ 64 (.ab6 1 T60 T62),oQ 65 (.load none T64),oM 16 T65] [1,4,5,11,13,14,16,50,51,52,60,61,62])
(.seq
(.reg 24 [oQ 66 (.load (some 4) T14),oM 67 T16,oK 68 (.ah5 21 [T66,T67])] [1,4,5,11,13,14,16,50,51,52,60,61,62,68])
(.cond T68
(.reg 25 [oQ 69 (.load (some 4) T14),oQ 70 (.ab1 1 T5),oQ 71 (.load none T70),oM 72 T16,oQ 73 (.lkp 1 (.agg [(.int .u64 0),(.int .u64 0),(.int .u64 0),(.int .u64 0)]) false T71 T72),oK 74 (.ah5 32 [T69,T73]),oN (.store 4 T14 T74)] [1,4,5,11,13,14,50,51,52,60,61,62])
.skip))))
(.reg 26 [oQ 75 (.bin .add T62 (cI 1)),oM 62 T75] [1,4,5,11,13,14,50,51,52,60,61,62])))))))
(.seq
(.reg 27 [oQ 76 (.load (some 4) T14),oQ 77 (.ab1 1 T5),oQ 78 (.load none T77),oM 79 T13,oQ 80 (.lkp 1 (.agg [(.int .u64 0),(.int .u64 0),(.int .u64 0),(.int .u64 0)]) false T78 T79),oQ 81 (.eqs [1,1,1,1] true true T76 T80)] [1,4,5,11,13,14,50,51,52,81])
(.cond T81
(.seq
(.reg 28 [oQ 82 (.ab1 1 T5),oQ 83 (.load none T82),oM 84 T13,oQ 85 (.load (some 4) T14),oN (.cr3 1 T83 T84 T85)] [1,4,5,50,51,52])
(.reg 29 [oM 11 (cB true)] [1,4,5,11,50,51,52]))
.skip))))))
(.reg 30 [oQ 86 (.bin .add T52 (cI 1)),oM 52 T86] [1,4,5,11,50,51,52])))))))))))))
(.seq
(.reg 31 [oQ 87 (.load (some 2) T5),oN (.store 2 T4 T87)] [4])
.ret)))))
theorem fok16:FOK Tryz.prog 16 (88,ic16,[(.cell (some 2) 4)]):=ai3 ([1000044,1000047]++gg5) Tryz.func16 (by kernel_rfl) (by kernel_rfl) (by kernel_rfl) (by kernel_rfl)
def ic17:IC :=
(.seq
(.reg 0 [oM 5 T0,oQ 6 (.len 0 T5),oM 4 T6] [0,1,4])
(.reg 1 [oM 7 T0,oM 8 T4,oM 9 T4,oQ 10 (.conv .u64 T9),oK 11 (.call 34 [T10]),oM 12 T1,oK 13 (.call 33 [T7,(cI 0),T8,T11,T12])] []))
theorem fok17:FOK Tryz.prog 17 (14,ic17,[]):=ai3 [] Tryz.func17
def ic18:IC :=
(.seq
(.reg 0 [oM 4 (cI 0)] [0,1])
(.seq
(.reg 1 [oM 7 T0,oK 8 (.call 35 [T7]),oM 5 T8] [0,1,5])
(.seq
(.reg 2 [oM 9 T1,oK 10 (.call 35 [T9]),oM 6 T10] [0,1,5,6])
(.seq
(.seq
(.reg 3 [oM 11 T5] [0,1,6,11])
(.cond T11
(.seq
(.seq
(.reg 4 [oM 12 T6] [12])
(.cond T12
(.seq
(.reg 5 [oM 4 (cI 0)] [4])
.ret)
.skip))
(.seq
(.reg 6 [oM 4 (cI (-1))] [4])
.ret))
.skip))
(.seq
(.seq
(.reg 7 [oM 13 T6] [0,1,13])
(.cond T13
(.seq
(.reg 8 [oM 4 (cI 1)] [4])
.ret)
.skip))
(.seq
(.seq
(.reg 9 [oM 14 T0,oM 15 T1,oQ 16 (.bin .lss T14 T15)] [0,1,16])
(.cond T16
(.seq
(.reg 10 [oM 4 (cI (-1))] [4])
.ret)
.skip))
(.seq
(.seq
(.reg 11 [oM 17 T0,oM 18 T1,oQ 19 (.bin .gtr T17 T18)] [19])
(.cond T19
(.seq
(.reg 12 [oM 4 (cI 1)] [4])
.ret)
.skip))
(.seq
(.reg 13 [oM 4 (cI 0)] [4])
.ret))))))))
theorem fok18:FOK Tryz.prog 18 (20,ic18,[(.t 4)]):=ai3 [] Tryz.func18
def ic19:IC :=
(.seq
(.reg 0 [oK 3 (.ak7 T1),oM 4 (.c .aa1)] [0,3])
(.seq
(.reg 1 [oM 8 T0,oK 9 (.call 37 [T8]),oK 10 (.call 36 [T9]),oK 5 (.alloc [.aa1]),oN (.store 1 T5 T10)] [3,5])
(.seq
(.reg 2 [oM 6 (.c .aa1)] [3,5,6])
(.seq
(.block 0
(.loop
(.seq
(.seq
(.reg 3 [oQ 11 (.load none T5),oQ 12 (.len 0 T11),oQ 13 (.bin .gtr T12 (cI 0))] [3,5,6,13])
(.cond T13
.skip
(.exit 0)))
(.block 1
(.seq
(.reg 4 [oQ 14 (.load none T5),oQ 15 (.mkf 39 [] [T5,T3]),oK 16 (.call 38 [T14,T15]),oM 7 T16] [3,5,6,7])
(.seq
(.reg 5 [oM 17 T7,oQ 18 (.mm true T17 (cI 0)),oM 7 T18] [3,5,6,7])
(.seq
(.reg 6 [oM 19 T6,oQ 20 (.load none T5),oM 21 T7,oQ 22 (.ab6 1 T20 T21),oQ 23 (.load none T22),oK 24 (.aw2 1 1 [(zI 0)] [⟨0,⟨1,T23⟩⟩]),oK 25 (.app 1 T19 T24),oM 6 T25] [3,5,6,7])
(.reg 7 [oQ 26 (.load none T5),oM 27 T7,oM 28 T7,oQ 29 (.bin .add T28 (cI 1)),oK 30 (.call 42 [T26,T27,T29]),oN (.store 1 T5 T30)] [3,5,6]))))))))
(.seq
(.reg 8 [oM 31 T6,oM 4 T31] [4])
.ret)))))
theorem fok19:FOK Tryz.prog 19 (32,ic19,[(.t 4)]):=ai3 [1000003,1000024] Tryz.func19
def ic20:IC :=
(.seq
(.reg 0 [oM 5 (cB false)] [0,1,2])
(.seq
(.reg 1 [oQ 6 (.ab1 0 T2),oQ 7 (.load none T6),oM 8 T0,oQ 9 (.lkp 1 (.agg [(.int .u64 0),(.int .u64 0),(.int .u64 0),(.int .u64 0)]) false T7 T8),oM 10 T1,oK 11 (.call 21 [T9,T10]),oM 12 T11,gQ 13 12 true (.ab1 1 T2),gQ 14 12 true (.load none T13),gQ 15 12 true (.mov T1),gQ 16 12 true (.lkp 1 (.agg [(.int .u64 0),(.int .u64 0),(.int .u64 0),(.int .u64 0)]) false T14 T15),gQ 17 12 true (.mov T0),gK 18 12 true (.call 21 [T16,T17]),gQ 19 12 true (.not T18),oQ 20 (.pick T12 T19 (cB false)),oM 5 T20] [5])
.ret))
theorem fok20:FOK Tryz.prog 20 (21,ic20,[(.t 5)]):=ai3 [] Tryz.func20
def ic21:IC :=
(.seq
(.reg 0 [oK 2 (.ak7 T0),oM 4 (cB false)] [1,2])
(.seq
(.reg 1 [oM 5 T1,oQ 6 (.bin .quo T5 (cI 64)),oQ 7 (.az3 4 1 T2 T6),oQ 8 (.load none T7),oM 9 T1,oQ 10 (.bin .rem T9 (cI 64)),oQ 11 (.bin .shr T8 T10),oQ 12 (.bin .and T11 (.c (.int .u64 1))),oQ 13 (.bin .eql T12 (.c (.int .u64 1))),oM 4 T13] [4])
.ret))
theorem fok21:FOK Tryz.prog 21 (14,ic21,[(.t 4)]):=ai3 [1000002] Tryz.func21
def ic22:IC :=
(.seq
(.reg 0 [oM 5 (cB false)] [0,1,2])
(.seq
(.reg 1 [oQ 6 (.ab1 0 T2),oQ 7 (.load none T6),oM 8 T1,oQ 9 (.lkp 1 (.agg [(.int .u64 0),(.int .u64 0),(.int .u64 0),(.int .u64 0)]) false T7 T8),oM 10 T0,oK 11 (.call 21 [T9,T10]),oM 12 T11,gQ 13 12 true (.ab1 1 T2),gQ 14 12 true (.load none T13),gQ 15 12 true (.mov T0),gQ 16 12 true (.lkp 1 (.agg [(.int .u64 0),(.int .u64 0),(.int .u64 0),(.int .u64 0)]) false T14 T15),gQ 17 12 true (.mov T1),gK 18 12 true (.call 21 [T16,T17]),gQ 19 12 true (.not T18),oQ 20 (.pick T12 T19 (cB false)),oM 5 T20] [5])
.ret))
theorem fok22:FOK Tryz.prog 22 (21,ic22,[(.t 5)]):=ai3 [] Tryz.func22
def ic23:IC :=
(.seq
(.reg 0 [oM 6 (.c .aa1)] [0,1,2])
(.seq
(.reg 1 [oK 11 (.bsl 1 0 [(zI 0)] []),oM 12 T1,oK 13 (.app 1 T11 T12),oM 7 T13] [0,1,2,7])
(.seq
(.reg 2 [oM 8 (.c .aa1)] [0,1,2,7,8])
(.seq
(.block 0
(.loop
(.seq
(.seq
(.reg 3 [oM 14 T7,oQ 15 (.len 0 T14),oQ 16 (.bin .gtr T15 (cI 0))] [0,1,2,7,8,16])
(.cond T16
.skip
(.exit 0)))
(.block 1
(.seq
(.reg 4 [oM 9 (cI (-1))] [0,1,2,7,8,9])
(.seq
(.seq
(.reg 5 [oM 10 (cI 0)] [0,1,2,7,8,9,10])
(.block 2
(.loop
(.seq
(.seq
(.reg 6 [oM 17 T10,oM 18 T7,oQ 19 (.len 0 T18),oQ 20 (.bin .lss T17 T19)] [0,1,2,7,8,9,10,20])
(.cond T20
.skip
(.exit 2)))
(.seq
(.block 3
(.seq
(.an7 8 [oM 23 T9,oQ 24 (.bin .lss T23 (cI 0)),oM 25 T24,gQ 26 25 false (.mov T7),gQ 27 25 false (.mov T10),gQ 28 25 false (.ab6 1 T26 T27),gQ 29 25 false (.load none T28),gQ 30 25 false (.mov T7),gQ 31 25 false (.mov T9),gQ 32 25 false (.ab6 1 T30 T31),gQ 33 25 false (.load none T32),gQ 34 25 false (.bin .lss T29 T33),oQ 35 (.pick T25 (cB true) T34),oM 36 T35,gQ 37 36 true (.mov T0),gQ 38 36 true (.mov T1),gQ 39 36 true (.mov T7),gQ 40 36 true (.mov T7),gQ 41 36 true (.mov T10),gQ 42 36 true (.ab6 1 T40 T41),gQ 43 36 true (.load none T42),gQ 44 36 true (.mov T2),gK 45 36 true (.call 43 [T37,T38,T39,T43,T44]),oQ 46 (.pick T36 T45 (cB false))] false [0,1,2,7,8,9,10,46])
(.cond T46
(.reg 9 [oM 47 T10,oM 9 T47] [0,1,2,7,8,9,10])
.skip)))
(.reg 7 [oM 21 T10,oQ 22 (.bin .add T21 (cI 1)),oM 10 T22] [0,1,2,7,8,9,10]))))))
(.seq
(.seq
(.reg 10 [oM 48 T9,oQ 49 (.bin .lss T48 (cI 0))] [0,1,2,7,8,9,49])
(.cond T49
(.seq
(.reg 11 [oM 6 (.c .aa1)] [6])
.ret)
.skip))
(.seq
(.reg 12 [oM 50 T8,oM 51 T7,oM 52 T9,oQ 53 (.ab6 1 T51 T52),oQ 54 (.load none T53),oK 55 (.aw2 1 1 [(zI 0)] [⟨0,⟨1,T54⟩⟩]),oK 56 (.app 1 T50 T55),oM 8 T56] [0,1,2,7,8,9])
(.an7 13 [oK 57 (.bsl 1 0 [(zI 0)] []),oM 58 T7,oM 59 T9,oQ 60 (.slc 1 T58 none (some T59)),oK 61 (.app 1 T57 T60),oM 62 T7,oM 63 T9,oQ 64 (.bin .add T63 (cI 1)),oQ 65 (.slc 1 T62 (some T64) none),oK 66 (.app 1 T61 T65),oM 7 T66] true [0,1,2,7,8])))))))))
(.seq
(.reg 14 [oM 67 T8,oM 6 T67] [6])
.ret)))))
theorem fok23:FOK Tryz.prog 23 (68,ic23,[(.t 6)]):=ai3 [1000055] Tryz.func23
def ic24:IC :=
(.seq
(.reg 0 [oK 4 (.alloc [(.str []),(zI 0),(.str []),(.str []),(zU 0),(.str []),.aa1,.aa1,.aa1,.aa1,.aa1,.aa1,.aa1,.aa1,.aa1]),oM 5 (cI 0)] [0,1,4])
(.seq
(.seq
(.reg 1 [oM 6 T0,oQ 7 (.cl4 (.pointer 45) false T6),oM 8 T7,gQ 9 8 false (.mov T0),gQ 10 8 false (.bq9 T9),gQ 11 8 false (.ab1 0 T10),gQ 12 8 false (.load none T11),gQ 13 8 false (.mov T1),gK 14 8 false (.call 44 [T12,T13]),gQ 15 8 false (.not T14),oQ 16 (.pick T8 (cB true) T15)] [0,1,4,16])
(.cond T16
(.seq
(.reg 2 [oQ 17 (.bld [(.str []),(zI 0),(.str []),(.str []),(zU 0),(.str []),.aa1,.aa1,.aa1,.aa1,.aa1,.aa1,.aa1,.aa1,.aa1] []),oN (.store 15 T4 T17),oM 5 (cI 5)] [4,5])
.ret)
.skip))
(.seq
(.reg 3 [oM 18 T0,oQ 19 (.bq9 T18),oQ 20 (.ab1 0 T19),oQ 21 (.load none T20),oM 22 T1,oQ 23 (.ab6 17 T21 T22),oQ 24 (.ab1 0 T23),oQ 25 (.load (some 15) T24),oK 26 (.call 30 [T25]),oN (.store 15 T4 T26),oM 5 (cI 0)] [4,5])
.ret)))
theorem fok24:FOK Tryz.prog 24 (27,ic24,[(.cell (some 15) 4),(.t 5)]):=ai3 [] Tryz.func24
def ic25:IC :=
(.seq
(.reg 0 [oK 2 (.ak7 T0),oK 3 (.ak7 T1),oM 4 (cB false)] [2,3])
(.seq
(.reg 1 [oQ 5 (.ab1 7 T2),oQ 6 (.load none T5),oQ 7 (.mkf 46 [] [T3]),oK 8 (.call 45 [T6,T7]),oM 4 T8] [4])
.ret))
theorem fok25:FOK Tryz.prog 25 (9,ic25,[(.t 4)]):=ai3 [1000002,1000003] Tryz.func25
def ic26:IC :=
(.seq
(.reg 0 [oK 1 (.ak7 T0),oM 2 (.c .aa1)] [1])
(.seq
(.reg 1 [oM 3 (.c .aa1)] [1,3])
(.seq
(.seq
(.reg 2 [oQ 5 (.ab1 0 T1),oQ 6 (.load none T5),oQ 7 (.bin .eql T6 (.c (zU 1)))] [1,3,7])
(.cond T7
(.reg 3 [oM 8 T3,oQ 9 (.ab1 1 T1),oQ 10 (.load (some 5) T9),oK 11 (.aw2 5 1 [(.str []),(zU 0),(zI 0),(.str []),(.str [])] [⟨0,⟨5,T10⟩⟩]),oK 12 (.app 5 T8 T11),oM 3 T12] [1,3])
.skip))
(.seq
(.seq
(.reg 4 [oM 4 (cI 0)] [1,3,4])
(.block 0
(.loop
(.seq
(.seq
(.reg 5 [oM 13 T4,oQ 14 (.ab1 6 T1),oQ 15 (.load none T14),oQ 16 (.len 0 T15),oQ 17 (.bin .lss T13 T16)] [1,3,4,17])
(.cond T17
.skip
(.exit 0)))
(.seq
(.block 1
(.reg 7 [oM 20 T3,oQ 21 (.ab1 6 T1),oQ 22 (.load none T21),oM 23 T4,oQ 24 (.ab6 7 T22 T23),oQ 25 (.load (some 7) T24),oK 26 (.call 26 [T25]),oK 27 (.app 5 T20 T26),oM 3 T27] [1,3,4]))
(.reg 6 [oM 18 T4,oQ 19 (.bin .add T18 (cI 1)),oM 4 T19] [1,3,4]))))))
(.seq
(.reg 8 [oM 28 T3,oM 2 T28] [2])
.ret)))))
theorem fok26:FOK Tryz.prog 26 (29,ic26,[(.t 2)]):=ai3 [1000001,1000011] Tryz.func26
def ic27:IC :=
(.seq
(.reg 0 [oK 2 (.ak7 T0),oK 3 (.ak7 T1),oM 4 (cB false)] [2,3])
(.seq
(.seq
(.reg 1 [oQ 7 (.load (some 15) T2),oQ 8 (.load (some 5) T3),oK 9 (.call 51 [T7,T8])] [2,3,9])
(.cond T9
(.seq
(.reg 2 [oM 4 (cB true)] [4])
.ret)
.skip))
(.seq
(.seq
(.reg 3 [oM 5 (cI 0)] [2,3,5])
(.block 0
(.loop
(.seq
(.seq
(.reg 4 [oM 10 T5,oQ 11 (.ab1 6 T2),oQ 12 (.load none T11),oQ 13 (.len 0 T12),oQ 14 (.bin .lss T10 T13)] [2,3,5,14])
(.cond T14
.skip
(.exit 0)))
(.seq
(.block 1
(.seq
(.an7 6 [oQ 17 (.ab1 6 T2),oQ 18 (.load none T17),oM 19 T5,oQ 20 (.ab6 5 T18 T19),oQ 21 (.ab1 0 T20),oQ 22 (.load none T21),oQ 23 (.ab1 0 T3),oQ 24 (.load none T23),oQ 25 (.bin .eql T22 T24),oM 26 T25,gQ 27 26 true (.ab1 6 T2),gQ 28 26 true (.load none T27),gQ 29 26 true (.mov T5),gQ 30 26 true (.ab6 5 T28 T29),gQ 31 26 true (.load (some 5) T30),gQ 32 26 true (.load (some 5) T3),gK 33 26 true (.call 52 [T31,T32]),oQ 34 (.pick T26 T33 (cB false))] false [2,3,5,34])
(.cond T34
(.seq
(.reg 7 [oM 4 (cB true)] [4])
.ret)
.skip)))
(.reg 5 [oM 15 T5,oQ 16 (.bin .add T15 (cI 1)),oM 5 T16] [2,3,5]))))))
(.seq
(.seq
(.reg 8 [oM 6 (cI 0)] [2,3,6])
(.block 2
(.loop
(.seq
(.seq
(.reg 9 [oM 35 T6,oQ 36 (.ab1 14 T2),oQ 37 (.load none T36),oQ 38 (.len 0 T37),oQ 39 (.bin .lss T35 T38)] [2,3,6,39])
(.cond T39
.skip
(.exit 2)))
(.seq
(.block 3
(.seq
(.an7 11 [oQ 42 (.ab1 1 T3),oQ 43 (.load none T42),oQ 44 (.bin .eql T43 (.c (zU 0))),oM 45 T44,gQ 46 45 true (.ab1 14 T2),gQ 47 45 true (.load none T46),gQ 48 45 true (.mov T6),gQ 49 45 true (.ab6 1 T47 T48),gQ 50 45 true (.load none T49),gQ 51 45 true (.ab1 0 T3),gQ 52 45 true (.load none T51),gQ 53 45 true (.bin .eql T50 T52),oQ 54 (.pick T45 T53 (cB false))] false [2,3,6,54])
(.cond T54
(.seq
(.reg 12 [oM 4 (cB true)] [4])
.ret)
.skip)))
(.reg 10 [oM 40 T6,oQ 41 (.bin .add T40 (cI 1)),oM 6 T41] [2,3,6]))))))
(.seq
(.reg 13 [oM 4 (cB false)] [4])
.ret)))))
theorem fok27:FOK Tryz.prog 27 (55,ic27,[(.t 4)]):=ai3 [1000002,1000003] Tryz.func27
def ic28:IC :=
(.seq
(.reg 0 [oM 4 (cI 0)] [0,1])
(.seq
(.reg 1 [oM 5 (cI 0)] [0,1,5])
(.seq
(.seq
(.reg 2 [oM 6 (cI 0)] [0,1,5,6])
(.block 0
(.loop
(.seq
(.seq
(.reg 3 [oM 7 T6,oM 8 T0,oQ 9 (.len 0 T8),oQ 10 (.bin .lss T7 T9),oM 11 T10,gQ 12 11 true (.mov T5),gQ 13 11 true (.mov T1),gQ 14 11 true (.bin .lss T12 T13),oQ 15 (.pick T11 T14 (cB false))] [0,1,5,6,15])
(.cond T15
.skip
(.exit 0)))
(.seq
(.block 1
(.reg 5 [oM 18 T5,oQ 19 (.bin .add T18 (cI 1)),oM 20 T0,oM 21 T6,oQ 22 (.ab6 7 T20 T21),oQ 23 (.ab1 6 T22),oQ 24 (.load none T23),oM 25 T1,oM 26 T5,oQ 27 (.bin .sub T25 T26),oK 28 (.call 28 [T24,T27]),oQ 29 (.bin .add T19 T28),oM 5 T29] [0,1,5,6]))
(.reg 4 [oM 16 T6,oQ 17 (.bin .add T16 (cI 1)),oM 6 T17] [0,1,5,6]))))))
(.seq
(.reg 6 [oM 30 T5,oM 4 T30] [4])
.ret))))
theorem fok28:FOK Tryz.prog 28 (31,ic28,[(.t 4)]):=ai3 [] Tryz.func28
def ic29:IC :=
(.seq
(.reg 0 [oK 1 (.ak7 T0),oK 2 (.alloc [(.bool false)])] [1,2])
(.seq
(.block 0
(.seq
(.reg 1 [oQ 8 (.ab1 0 T1),oQ 9 (.load none T8),oK 10 (.call 53 [T9]),oQ 11 (.not T10),oM 12 T11,gQ 13 12 false (.ab1 0 T1),gQ 14 12 false (.load none T13),gK 15 12 false (.call 54 [T14]),oQ 16 (.pick T12 (cB true) T15),oM 17 T16,gQ 18 17 false (.ab1 1 T1),gQ 19 17 false (.load (some 3) T18),gK 20 17 false (.call 55 [T19,(cB false)]),gQ 21 17 false (.not T20),oQ 22 (.pick T17 (cB true) T21),oM 7 T22] [1,2,7])
(.cond T7
(.seq
(.reg 2 [oN (.store 1 T2 (cB false))] [2])
.ret)
(.seq
(.reg 3 [oQ 24 (.ab1 4 T1),oQ 25 (.load none T24),oK 26 (.call 56 [T25]),oQ 27 (.bin .eql T26 (.c (.str []))),oM 28 T27,gQ 29 28 false (.ab1 5 T1),gQ 30 28 false (.load none T29),gQ 31 28 false (.len 1 T30),gQ 32 28 false (.bin .gtr T31 (cI 64)),oQ 33 (.pick T28 (cB true) T32),oM 23 T33] [1,2,23])
(.cond T23
(.seq
(.reg 4 [oN (.store 1 T2 (cB false))] [2])
.ret)
(.seq
(.reg 5 [oQ 35 (.ab1 6 T1),oQ 36 (.load none T35),oK 37 (.call 57 [T36,(cI 32),(.f 58)]),oQ 38 (.not T37),oM 39 T38,gQ 40 39 false (.ab1 9 T1),gQ 41 39 false (.load none T40),gK 42 39 false (.call 57 [T41,(cI 32),(.f 58)]),gQ 43 39 false (.not T42),oQ 44 (.pick T39 (cB true) T43),oM 45 T44,gQ 46 45 false (.ab1 14 T1),gQ 47 45 false (.load none T46),gK 48 45 false (.call 59 [T47,(cI 32),(.f 54)]),gQ 49 45 false (.not T48),oQ 50 (.pick T45 (cB true) T49),oM 34 T50] [1,2,34])
(.cond T34
(.seq
(.reg 6 [oN (.store 1 T2 (cB false))] [2])
.ret)
.skip)))))))
(.seq
(.seq
(.reg 7 [oQ 51 (.ab1 14 T1),oQ 52 (.load none T51),oQ 53 (.len 0 T52),oM 54 (cI 0)] [1,2,52,53,54])
(.block 1
(.loop
(.seq
(.reg 8 [oQ 55 (.bin .lss T54 T53)] [1,2,52,53,54,55])
(.seq
(.cond T55
.skip
(.exit 1))
(.seq
(.block 2
(.seq
(.reg 9 [oM 56 T54,oQ 57 (.ab6 1 T52 T54),oQ 58 (.load none T57),oM 3 T56,oM 4 T58] [1,2,3,4,52,53,54])
(.seq
(.reg 10 [oM 59 T3,oQ 60 (.bin .gtr T59 (cI 0)),oM 61 T60,gQ 62 61 true (.ab1 14 T1),gQ 63 61 true (.load none T62),gQ 64 61 true (.mov T3),gQ 65 61 true (.bin .sub T64 (cI 1)),gQ 66 61 true (.ab6 1 T63 T65),gQ 67 61 true (.load none T66),gQ 68 61 true (.mov T4),gQ 69 61 true (.bin .geq T67 T68),oQ 70 (.pick T61 T69 (cB false))] [1,2,52,53,54,70])
(.cond T70
(.seq
(.reg 11 [oN (.store 1 T2 (cB false))] [2])
.ret)
.skip))))
(.reg 12 [oQ 71 (.bin .add T54 (cI 1)),oM 54 T71] [1,2,52,53,54])))))))
(.seq
(.seq
(.reg 13 [oQ 72 (.load (some 15) T1),oK 73 (.call 60 [T72])] [2,73])
(.block 3
(.be8 T73 [74,75]
(.seq
(.reg 14 [oK 5 (.alloc [(zU 0)]),oN (.store 1 T5 T74)] [2,5,75])
(.reg 15 [oM 6 T75] [2,5,6]))
(.block 4
(.seq
(.reg 16 [oM 76 T6,oQ 77 (.mkf 62 [] [T5]),oK 78 (.call 61 [T76,(cI 32),T77]),oQ 79 (.not T78)] [2,79])
(.cond T79
(.seq
(.reg 17 [oN (.store 1 T2 (cB false))] [])
.ret)
.skip))))))
(.seq
(.reg 18 [oN (.store 1 T2 (cB true))] [2])
.ret)))))
theorem fok29:FOK Tryz.prog 29 (80,ic29,[(.cell none 2)]):=ai3 [1000001] Tryz.func29
def ic30:IC :=
(.seq
(.reg 0 [oK 1 (.box T0),oK 2 (.alloc [(.str []),(zI 0),(.str []),(.str []),(zU 0),(.str []),.aa1,.aa1,.aa1,.aa1,.aa1,.aa1,.aa1,.aa1,.aa1])] [1,2])
(.seq
(.an7 1 [oQ 7 (.ab1 6 T1),oQ 8 (.load none T7),oK 9 (.ah5 64 [T8]),oQ 10 (.ab1 9 T1),oQ 11 (.load none T10),oK 12 (.ah5 64 [T11]),oQ 13 (.ab1 14 T1),oQ 14 (.load none T13),oK 15 (.ah5 65 [T14]),oQ 16 (.ab1 6 T1),oN (.store 1 T16 T9),oQ 17 (.ab1 9 T1),oN (.store 1 T17 T12),oQ 18 (.ab1 14 T1),oN (.store 1 T18 T15)] false [1,2])
(.seq
(.seq
(.reg 2 [oQ 19 (.ab1 7 T1),oQ 20 (.ab1 8 T1),oQ 21 (.ab1 10 T1),oQ 22 (.ab1 11 T1),oQ 23 (.ab1 12 T1),oQ 24 (.ab1 13 T1),oK 25 (.aw2 1 6 [.af2] [⟨0,⟨1,T19⟩⟩,⟨1,⟨1,T20⟩⟩,⟨2,⟨1,T21⟩⟩,⟨3,⟨1,T22⟩⟩,⟨4,⟨1,T23⟩⟩,⟨5,⟨1,T24⟩⟩]),oQ 26 (.len 0 T25),oM 27 (cI 0)] [1,2,25,26,27])
(.block 0
(.loop
(.seq
(.reg 3 [oQ 28 (.bin .lss T27 T26)] [1,2,25,26,27,28])
(.seq
(.cond T28
.skip
(.exit 0))
(.seq
(.block 1
(.seq
(.reg 4 [oQ 29 (.ab6 1 T25 T27),oQ 30 (.load none T29),oM 4 T30] [1,2,4,25,26,27])
(.seq
(.reg 5 [oM 31 T4,oM 32 T4,oQ 33 (.bq9 T32),oQ 34 (.load none T33),oK 35 (.call 66 [T34]),oQ 36 (.bq9 T31),oN (.store 1 T36 T35)] [1,2,4,25,26,27])
(.seq
(.reg 6 [oM 37 T4,oQ 38 (.bq9 T37),oQ 39 (.load none T38),oQ 40 (.len 0 T39),oM 41 (cI 0)] [1,2,4,25,26,27,39,40,41])
(.block 2
(.loop
(.seq
(.reg 7 [oQ 42 (.bin .lss T41 T40)] [1,2,4,25,26,27,39,40,41,42])
(.seq
(.cond T42
.skip
(.exit 2))
(.seq
(.block 3
(.seq
(.reg 8 [oM 43 T41,oQ 44 (.ab6 7 T39 T41),oQ 45 (.load (some 7) T44),oK 6 (.alloc [(zU 0),(.str []),(zU 0),(zI 0),(.str []),(.str []),.aa1]),oM 5 T43,oN (.store 7 T6 T45)] [1,2,4,5,6,25,26,27,39,40,41])
(.an7 9 [oM 46 T4,oQ 47 (.bq9 T46),oQ 48 (.load none T47),oM 49 T5,oQ 50 (.load (some 7) T6),oK 51 (.ah5 67 [T50]),oQ 52 (.ab6 7 T48 T49),oN (.store 7 T52 T51)] false [1,2,4,25,26,27,39,40,41])))
(.reg 10 [oQ 53 (.bin .add T41 (cI 1)),oM 41 T53] [1,2,4,25,26,27,39,40,41]))))))))))
(.reg 11 [oQ 54 (.bin .add T27 (cI 1)),oM 27 T54] [1,2,25,26,27])))))))
(.seq
(.reg 12 [oQ 55 (.load (some 15) T1),oN (.store 15 T2 T55)] [2])
.ret))))
theorem fok30:FOK Tryz.prog 30 (56,ic30,[(.cell (some 15) 2)]):=ai3 ([1000025]++List.filter (fun k=>k != 66) gg5) Tryz.func30
def ic31:IC :=
(.seq
(.reg 0 [oK 2 (.box T0),oK 4 (.alloc [(.int .u64 0),(.int .u64 0),(.int .u64 0),(.int .u64 0)])] [1,2,4])
(.seq
(.an7 1 [oM 5 T1,oQ 6 (.bin .quo T5 (cI 64)),oQ 7 (.az3 4 1 T2 T6),oQ 8 (.load none T7),oM 9 T1,oQ 10 (.bin .rem T9 (cI 64)),oQ 11 (.bin .shl (.c (.int .u64 1)) T10),oQ 12 (.bin .or T8 T11),oQ 13 (.az3 4 1 T2 T6),oN (.store 1 T13 T12)] false [2,4])
(.seq
(.reg 2 [oQ 14 (.load (some 4) T2),oN (.store 4 T4 T14)] [4])
.ret)))
theorem fok31:FOK Tryz.prog 31 (15,ic31,[(.cell (some 4) 4)]):=ai3 [] Tryz.func31
def ic32:IC :=
(.seq
(.reg 0 [oK 2 (.box T0),oK 3 (.ak7 T1),oK 4 (.alloc [(.int .u64 0),(.int .u64 0),(.int .u64 0),(.int .u64 0)])] [2,3,4])
(.seq
(.seq
(.reg 1 [oM 6 (cI 0)] [2,3,4,6])
(.block 0
(.loop
(.seq
(.reg 2 [oQ 7 (.bin .lss T6 (cI 4))] [2,3,4,6,7])
(.seq
(.cond T7
.skip
(.exit 0))
(.seq
(.block 1
(.seq
(.reg 3 [oM 8 T6,oM 5 T8] [2,3,4,5,6])
(.an7 4 [oM 9 T5,oQ 10 (.az3 4 1 T2 T9),oQ 11 (.load none T10),oM 12 T5,oQ 13 (.az3 4 1 T3 T12),oQ 14 (.load none T13),oQ 15 (.bin .or T11 T14),oQ 16 (.az3 4 1 T2 T9),oN (.store 1 T16 T15)] false [2,3,4,6])))
(.reg 5 [oQ 17 (.bin .add T6 (cI 1)),oM 6 T17] [2,3,4,6])))))))
(.seq
(.reg 6 [oQ 18 (.load (some 4) T2),oN (.store 4 T4 T18)] [4])
.ret)))
theorem fok32:FOK Tryz.prog 32 (19,ic32,[(.cell (some 4) 4)]):=ai3 [1000003] Tryz.func32
def ic33:IC :=
(.seq
(.reg 0 [oM 10 (cB true)] [0,1,2,3,4,10])
(.seq
(.reg 1 [oM 11 (cB true)] [0,1,2,3,4,10,11])
(.block 0
(.loop
(.block 1
(.seq
(.reg 2 [oM 21 T2,oM 22 T1,oQ 23 (.bin .sub T21 T22),oM 12 T23] [0,1,2,3,4,10,11,12])
(.seq
(.seq
(.reg 3 [oM 24 T12,oQ 25 (.bin .leq T24 (cI 12))] [0,1,2,3,4,10,11,12,25])
(.cond T25
(.seq
(.reg 4 [oM 26 T0,oM 27 T1,oM 28 T2,oM 29 T4,oK 30 (.call 68 [T26,T27,T28,T29])] [])
.ret)
.skip))
(.seq
(.seq
(.reg 5 [oM 31 T3,oQ 32 (.bin .eql T31 (cI 0))] [0,1,2,3,4,10,11,12,32])
(.cond T32
(.seq
(.reg 6 [oM 33 T0,oM 34 T1,oM 35 T2,oM 36 T4,oK 37 (.call 69 [T33,T34,T35,T36])] [])
.ret)
.skip))
(.seq
(.seq
(.reg 7 [oM 38 T10,oQ 39 (.not T38)] [0,1,2,3,4,10,11,12,39])
(.cond T39
(.seq
(.reg 8 [oM 40 T0,oM 41 T1,oM 42 T2,oM 43 T4,oK 44 (.call 70 [T40,T41,T42,T43])] [0,1,2,3,4,10,11,12])
(.reg 9 [oM 45 T3,oQ 46 (.bin .sub T45 (cI 1)),oM 3 T46] [0,1,2,3,4,10,11,12]))
.skip))
(.seq
(.reg 10 [oM 48 T0,oM 49 T1,oM 50 T2,oM 51 T4,oK 52 (.call 71 [T48,T49,T50,T51]),oM 47 T52,oQ 53 (.ext 0 T47),oQ 54 (.ext 1 T47),oM 13 T53,oM 14 T54] [0,1,2,3,4,10,11,12,13,14])
(.seq
(.seq
(.reg 11 [oM 55 T14,oQ 56 (.bin .eql T55 (cI 2))] [0,1,2,3,4,10,11,12,13,14,56])
(.cond T56
(.seq
(.reg 12 [oM 57 T0,oM 58 T1,oM 59 T2,oM 60 T4,oK 61 (.call 72 [T57,T58,T59,T60])] [0,1,2,3,4,10,11,12,13])
(.seq
(.reg 13 [oM 62 T2,oQ 63 (.bin .sub T62 (cI 1)),oM 64 T13,oM 65 T1,oQ 66 (.bin .sub T64 T65),oQ 67 (.bin .sub T63 T66),oM 13 T67] [0,1,2,3,4,10,11,12,13])
(.reg 14 [oM 14 (cI 1)] [0,1,2,3,4,10,11,12,13,14])))
.skip))
(.seq
(.seq
(.reg 15 [oM 68 T10,oM 69 T68,gQ 70 69 true (.mov T11),oQ 71 (.pick T69 T70 (cB false)),oM 72 T71,gQ 73 72 true (.mov T14),gQ 74 72 true (.bin .eql T73 (cI 1)),oQ 75 (.pick T72 T74 (cB false))] [0,1,2,3,4,10,11,12,13,75])
(.cond T75
(.seq
(.reg 16 [oM 76 T0,oM 77 T1,oM 78 T2,oM 79 T4,oK 80 (.call 73 [T76,T77,T78,T79])] [0,1,2,3,4,10,11,12,13,80])
(.cond T80
.ret
.skip))
.skip))
(.seq
(.seq
(.an7 17 [oM 81 T1,oQ 82 (.bin .gtr T81 (cI 0)),oM 83 T82,gQ 84 83 true (.mov T4),gQ 85 83 true (.mov T0),gQ 86 83 true (.mov T1),gQ 87 83 true (.bin .sub T86 (cI 1)),gQ 88 83 true (.ab6 1 T85 T87),gQ 89 83 true (.load none T88),gQ 90 83 true (.mov T0),gQ 91 83 true (.mov T13),gQ 92 83 true (.ab6 1 T90 T91),gQ 93 83 true (.load none T92),gK 94 83 true (.aj3 T84 [T89,T93]),gQ 95 83 true (.bin .lss T94 (cI 0)),gQ 96 83 true (.not T95),oQ 97 (.pick T83 T96 (cB false))] false [0,1,2,3,4,10,11,12,13,97])
(.cond T97
(.seq
(.reg 18 [oM 98 T0,oM 99 T1,oM 100 T2,oM 101 T13,oM 102 T4,oK 103 (.call 74 [T98,T99,T100,T101,T102]),oM 15 T103] [0,2,3,4,10,11,15])
(.seq
(.reg 19 [oM 104 T15,oM 1 T104] [0,1,2,3,4,10,11])
(.exit 1)))
.skip))
(.seq
(.reg 20 [oM 106 T0,oM 107 T1,oM 108 T2,oM 109 T13,oM 110 T4,oK 111 (.call 75 [T106,T107,T108,T109,T110]),oM 105 T111,oQ 112 (.ext 0 T105),oQ 113 (.ext 1 T105),oM 16 T112,oM 17 T113] [0,1,2,3,4,12,16,17])
(.seq
(.reg 21 [oM 114 T17,oM 11 T114] [0,1,2,3,4,11,12,16])
(.seq
(.reg 22 [oM 115 T16,oM 116 T1,oQ 117 (.bin .sub T115 T116),oM 118 T2,oM 119 T16,oQ 120 (.bin .sub T118 T119),oM 18 T117,oM 19 T120] [0,1,2,3,4,11,12,16,18,19])
(.seq
(.reg 23 [oM 121 T12,oQ 122 (.bin .quo T121 (cI 8)),oM 20 T122] [0,1,2,3,4,11,16,18,19,20])
(.seq
(.reg 24 [oM 123 T18,oM 124 T19,oQ 125 (.bin .lss T123 T124)] [0,1,2,3,4,11,16,18,19,20,125])
(.cond T125
(.seq
(.reg 25 [oM 126 T18,oM 127 T20,oQ 128 (.bin .geq T126 T127),oM 10 T128] [0,1,2,3,4,10,11,16])
(.seq
(.reg 26 [oM 129 T0,oM 130 T1,oM 131 T16,oM 132 T3,oM 133 T4,oK 134 (.call 33 [T129,T130,T131,T132,T133])] [0,2,3,4,10,11,16])
(.reg 27 [oM 135 T16,oQ 136 (.bin .add T135 (cI 1)),oM 1 T136] [0,1,2,3,4,10,11])))
(.seq
(.reg 28 [oM 137 T19,oM 138 T20,oQ 139 (.bin .geq T137 T138),oM 10 T139] [0,1,2,3,4,10,11,16])
(.seq
(.reg 29 [oM 140 T0,oM 141 T16,oQ 142 (.bin .add T141 (cI 1)),oM 143 T2,oM 144 T3,oM 145 T4,oK 146 (.call 33 [T140,T142,T143,T144,T145])] [0,1,3,4,10,11,16])
(.reg 30 [oM 147 T16,oM 2 T147] [0,1,2,3,4,10,11]))))))))))))))))))))))
theorem fok33:FOK Tryz.prog 33 (148,ic33,[]):=ai3 [] Tryz.func33
def ic34:IC :=
(.seq
(.reg 0 [oM 2 (cI 0)] [0])
(.seq
(.cond (cB false)
(.seq
(.reg 1 [oM 3 T0,oQ 4 (.conv .u32 T3),oK 5 (.call 76 [T4]),oM 2 T5] [2])
.ret)
.skip)
(.seq
(.reg 2 [oM 6 T0,oK 7 (.call 77 [T6]),oM 2 T7] [2])
.ret)))
theorem fok34:FOK Tryz.prog 34 (8,ic34,[(.t 2)]):=ai3 [] Tryz.func34
def ic35:IC :=
(.seq
(.reg 0 [oM 2 (cB false)] [0])
(.seq
(.reg 1 [oM 3 T0,oM 4 T0,oQ 5 (.bin .neq T3 T4),oM 2 T5] [2])
.ret))
theorem fok35:FOK Tryz.prog 35 (6,ic35,[(.t 2)]):=ai3 [] Tryz.func35
def ic36:IC :=
(.seq
(.reg 0 [oM 2 (.c .aa1)] [0])
(.seq
(.reg 1 [oM 4 T0,oK 5 (.call 78 [T4]),oM 3 T5] [3])
(.seq
(.reg 2 [oM 6 T3,oK 7 (.call 79 [T6])] [3])
(.seq
(.reg 3 [oM 8 T3,oM 2 T8] [2])
.ret))))
theorem fok36:FOK Tryz.prog 36 (9,ic36,[(.t 2)]):=ai3 [] Tryz.func36
def ic37:IC :=
(.seq
(.reg 0 [oK 1 (.ak7 T0),oM 2 (.c .af3)] [1])
(.seq
(.reg 1 [oQ 3 (.mkf 80 [] [T1]),oM 2 T3] [2])
.ret))
theorem fok37:FOK Tryz.prog 37 (4,ic37,[(.t 2)]):=ai3 [1000001] Tryz.func37
def ic38:IC :=
(.seq
(.reg 0 [oM 4 (cI 0)] [0,1])
(.seq
(.seq
(.reg 1 [oM 6 T0,oQ 7 (.len 0 T6),oM 8 (cI 0)] [0,1,7,8])
(.block 0
(.loop
(.seq
(.reg 2 [oQ 9 (.bin .lss T8 T7)] [0,1,7,8,9])
(.seq
(.cond T9
.skip
(.exit 0))
(.seq
(.block 1
(.seq
(.reg 3 [oM 10 T8,oM 5 T10] [0,1,5,7,8])
(.seq
(.reg 4 [oM 11 T1,oM 12 T0,oM 13 T5,oQ 14 (.ab6 1 T12 T13),oQ 15 (.load none T14),oK 16 (.aj3 T11 [T15])] [0,1,5,7,8,16])
(.cond T16
(.seq
(.reg 5 [oM 17 T5,oM 4 T17] [4])
.ret)
.skip))))
(.reg 6 [oQ 18 (.bin .add T8 (cI 1)),oM 8 T18] [0,1,7,8])))))))
(.seq
(.reg 7 [oM 4 (cI (-1))] [4])
.ret)))
theorem fok38:FOK Tryz.prog 38 (19,ic38,[(.t 4)]):=ai3 [] Tryz.func38
def ic39:IC :=
(.seq
(.reg 0 [oK 3 (.ak7 T0),oM 4 (cB false)] [1,2,3])
(.seq
(.reg 1 [oQ 5 (.load none T1),oQ 6 (.mkf 41 [] [T2,T3]),oK 7 (.call 40 [T5,T6]),oQ 8 (.not T7),oM 4 T8] [4])
.ret))
theorem fok39:FOK Tryz.prog 39 (9,ic39,[(.t 4)]):=ai3 [1000003] Tryz.func39
def ic40:IC :=
(.seq
(.reg 0 [oM 4 (cB false)] [0,1])
(.seq
(.reg 1 [oM 5 T0,oM 6 T1,oK 7 (.call 38 [T5,T6]),oQ 8 (.bin .geq T7 (cI 0)),oM 4 T8] [4])
.ret))
theorem fok40:FOK Tryz.prog 40 (9,ic40,[(.t 4)]):=ai3 [] Tryz.func40
def ic41:IC :=
(.seq
(.reg 0 [oM 4 (cB false)] [0,1,2])
(.seq
(.reg 1 [oQ 5 (.load none T1),oQ 6 (.load none T2),oM 7 T0,oK 8 (.aj3 T5 [T6,T7]),oM 4 T8] [4])
.ret))
theorem fok41:FOK Tryz.prog 41 (9,ic41,[(.t 4)]):=ai3 [] Tryz.func41
def ic43:IC :=
(.seq
(.reg 0 [oM 10 (cB false)] [0,1,2,3,4])
(.seq
(.seq
(.reg 1 [oM 11 (cI 0)] [0,1,2,3,4,11])
(.block 0
(.loop
(.seq
(.seq
(.reg 2 [oM 13 T11,oM 14 T2,oQ 15 (.len 0 T14),oQ 16 (.bin .lss T13 T15)] [0,1,2,3,4,11,16])
(.cond T16
.skip
(.exit 0)))
(.seq
(.block 1
(.seq
(.reg 4 [oM 19 T2,oM 20 T11,oQ 21 (.ab6 1 T19 T20),oQ 22 (.load none T21),oM 12 T22] [0,1,2,3,4,11,12])
(.seq
(.seq
(.reg 5 [oM 23 T4,oQ 24 (.not T23),oM 25 T24,gQ 26 25 true (.mov T0),gQ 27 25 true (.mov T3),gQ 28 25 true (.mov T12),gK 29 25 true (.call 11 [T26,T27,T28]),oQ 30 (.pick T25 T29 (cB false)),oM 31 T30,gQ 32 31 true (.mov T0),gQ 33 31 true (.mov T1),gQ 34 31 true (.mov T12),gQ 35 31 true (.mov T3),gK 36 31 true (.call 81 [T32,T33,T34,T35]),gQ 37 31 true (.not T36),oQ 38 (.pick T31 T37 (cB false))] [0,1,2,3,4,11,12,38])
(.cond T38
(.seq
(.reg 6 [oM 10 (cB false)] [10])
.ret)
.skip))
(.seq
(.reg 7 [oM 39 T4,oM 40 T39,gQ 41 40 true (.mov T0),gQ 42 40 true (.mov T12),gQ 43 40 true (.mov T3),gK 44 40 true (.call 11 [T41,T42,T43]),oQ 45 (.pick T40 T44 (cB false)),oM 46 T45,gQ 47 46 true (.mov T0),gQ 48 46 true (.mov T1),gQ 49 46 true (.mov T3),gQ 50 46 true (.mov T12),gK 51 46 true (.call 81 [T47,T48,T49,T50]),gQ 52 46 true (.not T51),oQ 53 (.pick T46 T52 (cB false))] [0,1,2,3,4,11,53])
(.cond T53
(.seq
(.reg 8 [oM 10 (cB false)] [10])
.ret)
.skip)))))
(.reg 3 [oM 17 T11,oQ 18 (.bin .add T17 (cI 1)),oM 11 T18] [0,1,2,3,4,11]))))))
(.seq
(.reg 9 [oM 10 (cB true)] [10])
.ret)))
theorem fok43:FOK Tryz.prog 43 (54,ic43,[(.t 10)]):=ai3 [] Tryz.func43
def ic44:IC :=
(.seq
(.reg 0 [oM 4 (cB false)] [0,1])
(.seq
(.reg 1 [oM 5 T1,oQ 6 (.bin .geq T5 (cI 0)),oM 7 T6,gQ 8 7 true (.mov T1),gQ 9 7 true (.mov T0),gQ 10 7 true (.len 0 T9),gQ 11 7 true (.bin .lss T8 T10),oQ 12 (.pick T7 T11 (cB false)),oM 4 T12] [4])
.ret))
theorem fok44:FOK Tryz.prog 44 (13,ic44,[(.t 4)]):=ai3 [] Tryz.func44
def ic45:IC :=
(.seq
(.reg 0 [oM 4 (cB false)] [0,1])
(.seq
(.reg 1 [oM 5 T0,oM 6 T1,oK 7 (.call 82 [T5,T6]),oQ 8 (.bin .geq T7 (cI 0)),oM 4 T8] [4])
.ret))
theorem fok45:FOK Tryz.prog 45 (9,ic45,[(.t 4)]):=ai3 [] Tryz.func45
def ic46:IC :=
(.seq
(.reg 0 [oK 2 (.ak7 T0),oM 3 (cB false)] [1,2])
(.seq
(.reg 1 [oQ 4 (.load (some 7) T2),oK 5 (.call 48 [T4]),oQ 6 (.mkf 49 [] [T1]),oK 7 (.call 47 [T5,T6]),oM 3 T7] [3])
.ret))
theorem fok46:FOK Tryz.prog 46 (8,ic46,[(.t 3)]):=ai3 [1000002] Tryz.func46
def ic47:IC :=
(.seq
(.reg 0 [oM 4 (cB false)] [0,1])
(.seq
(.reg 1 [oM 5 T0,oM 6 T1,oK 7 (.call 83 [T5,T6]),oQ 8 (.bin .geq T7 (cI 0)),oM 4 T8] [4])
.ret))
theorem fok47:FOK Tryz.prog 47 (9,ic47,[(.t 4)]):=ai3 [] Tryz.func47
def ic48:IC :=
(.seq
(.reg 0 [oK 1 (.ak7 T0),oM 2 (.c .aa1)] [1,2])
(.seq
(.reg 1 [oK 3 (.alloc [.aa1])] [1,2,3])
(.seq
(.seq
(.reg 2 [oQ 5 (.load (some 7) T1),oK 6 (.call 84 [T5])] [2,3,6])
(.block 0
(.be8 T6 [7,8]
(.reg 3 [oK 4 (.alloc [(zU 0),(.str []),(zU 0),(zI 0),(.str []),(.str []),.aa1]),oN (.store 7 T4 T7)] [3,4])
(.block 1
(.seq
(.reg 4 [oQ 9 (.ab1 0 T4),oQ 10 (.load none T9),oQ 11 (.bin .eql T10 (.c (zU 1)))] [3,4,11])
(.cond T11
(.reg 5 [oQ 12 (.load none T3),oQ 13 (.ab1 1 T4),oQ 14 (.load (some 5) T13),oK 15 (.aw2 5 1 [(.str []),(zU 0),(zI 0),(.str []),(.str [])] [⟨0,⟨5,T14⟩⟩]),oK 16 (.app 5 T12 T15),oN (.store 1 T3 T16)] [])
.skip))))))
(.seq
(.reg 6 [oQ 17 (.load none T3),oM 2 T17] [2])
.ret))))
theorem fok48:FOK Tryz.prog 48 (18,ic48,[(.t 2)]):=ai3 [1000001,1000015] Tryz.func48
def ic49:IC :=
(.seq
(.reg 0 [oK 2 (.ak7 T0),oM 3 (cB false)] [1,2])
(.seq
(.reg 1 [oQ 4 (.load (some 15) T1),oQ 5 (.load (some 5) T2),oK 6 (.call 50 [T4,T5]),oM 3 T6] [3])
.ret))
theorem fok49:FOK Tryz.prog 49 (7,ic49,[(.t 3)]):=ai3 [1000002] Tryz.func49
def ic50:IC :=
(.seq
(.reg 0 [oK 2 (.ak7 T0),oK 3 (.ak7 T1),oM 4 (cB false)] [2,3])
(.seq
(.seq
(.reg 1 [oQ 5 (.load (some 15) T2),oQ 6 (.load (some 5) T3),oK 7 (.call 85 [T5,T6]),oM 8 T7,gQ 9 8 false (.ab1 6 T2),gQ 10 8 false (.load none T9),gQ 11 8 false (.mkf 86 [] [T3]),gK 12 8 false (.call 47 [T10,T11]),oQ 13 (.pick T8 (cB true) T12)] [2,3,13])
(.cond T13
(.seq
(.reg 2 [oM 4 (cB true)] [4])
.ret)
.skip))
(.seq
(.reg 3 [oQ 14 (.ab1 1 T3),oQ 15 (.load none T14),oQ 16 (.bin .eql T15 (.c (zU 0))),oM 17 T16,gQ 18 17 true (.ab1 14 T2),gQ 19 17 true (.load none T18),gQ 20 17 true (.ab1 0 T3),gQ 21 17 true (.load none T20),gK 22 17 true (.call 88 [T19,T21]),oQ 23 (.pick T17 T22 (cB false)),oM 4 T23] [4])
.ret)))
theorem fok50:FOK Tryz.prog 50 (24,ic50,[(.t 4)]):=ai3 [1000002,1000003] Tryz.func50
def ic51:IC :=
(.seq
(.reg 0 [oK 2 (.ak7 T0),oK 3 (.ak7 T1),oM 4 (cB false)] [2,3])
(.seq
(.an7 1 [oQ 5 (.ab1 0 T3),oQ 6 (.load none T5),oQ 7 (.ab1 0 T2),oQ 8 (.load none T7),oQ 9 (.bin .eql T6 T8),oM 10 T9,gQ 11 10 true (.load (some 15) T2),gK 12 10 true (.ah5 89 [T11]),gQ 13 10 true (.load (some 5) T3),gK 14 10 true (.ah5 52 [T12,T13]),oQ 15 (.pick T10 T14 (cB false)),oM 4 T15] false [4])
.ret))
theorem fok51:FOK Tryz.prog 51 (16,ic51,[(.t 4)]):=ai3 ([1000002,1000003]++[52,89]) Tryz.func51 (by kernel_rfl) (by kernel_rfl) (by kernel_rfl) (by kernel_rfl)
def ic52:IC :=
(.seq
(.reg 0 [oK 2 (.ak7 T0),oK 3 (.ak7 T1),oM 4 (cB false)] [2,3])
(.seq
(.seq
(.reg 1 [oQ 6 (.ab1 1 T2),oQ 7 (.load none T6),oQ 8 (.bin .rem T7 (.c (zU 8))),oQ 9 (.bin .eql T8 (.c (zU 0))),oM 10 T9,gQ 11 10 false (.ab1 1 T3),gQ 12 10 false (.load none T11),gQ 13 10 false (.bin .rem T12 (.c (zU 8))),gQ 14 10 false (.bin .eql T13 (.c (zU 0))),oQ 15 (.pick T10 (cB true) T14)] [2,3,15])
(.cond T15
(.seq
(.reg 2 [oM 4 (cB true)] [4])
.ret)
.skip))
(.seq
(.reg 3 [oQ 16 (.ab1 2 T2),oQ 17 (.load (some 3) T16),oQ 18 (.ab1 2 T3),oQ 19 (.load (some 3) T18),oK 20 (.call 90 [T17,T19]),oM 5 T20] [2,3,5])
(.seq
(.seq
(.reg 4 [oM 21 T5,oQ 22 (.bin .lss T21 (cI 0))] [2,3,5,22])
(.cond T22
(.seq
(.reg 5 [oQ 23 (.ab1 1 T2),oQ 24 (.load none T23),oQ 25 (.bin .and T24 (.c (zU 4))),oQ 26 (.bin .neq T25 (.c (zU 0))),oM 27 T26,gQ 28 27 false (.ab1 1 T3),gQ 29 27 false (.load none T28),gQ 30 27 false (.bin .and T29 (.c (zU 1))),gQ 31 27 false (.bin .neq T30 (.c (zU 0))),oQ 32 (.pick T27 (cB true) T31),oM 4 T32] [4])
.ret)
.skip))
(.seq
(.seq
(.reg 6 [oM 33 T5,oQ 34 (.bin .gtr T33 (cI 0))] [2,3,34])
(.cond T34
(.seq
(.reg 7 [oQ 35 (.ab1 1 T2),oQ 36 (.load none T35),oQ 37 (.bin .and T36 (.c (zU 1))),oQ 38 (.bin .neq T37 (.c (zU 0))),oM 39 T38,gQ 40 39 false (.ab1 1 T3),gQ 41 39 false (.load none T40),gQ 42 39 false (.bin .and T41 (.c (zU 4))),gQ 43 39 false (.bin .neq T42 (.c (zU 0))),oQ 44 (.pick T39 (cB true) T43),oM 4 T44] [4])
.ret)
.skip))
(.seq
(.reg 8 [oQ 45 (.ab1 1 T2),oQ 46 (.load none T45),oQ 47 (.ab1 1 T3),oQ 48 (.load none T47),oQ 49 (.bin .and T46 T48),oQ 50 (.bin .and T49 (.c (zU 7))),oQ 51 (.bin .neq T50 (.c (zU 0))),oM 4 T51] [4])
.ret))))))
theorem fok52:FOK Tryz.prog 52 (52,ic52,[(.t 4)]):=ai3 [1000002,1000003] Tryz.func52
def ic53:IC :=
(.seq
(.reg 0 [oM 2 (cB false)] [0])
(.seq
(.seq
(.reg 1 [oM 7 T0,oQ 8 (.len 1 T7),oQ 9 (.bin .lss T8 (cI 1)),oM 10 T9,gQ 11 10 false (.mov T0),gQ 12 10 false (.len 1 T11),gQ 13 10 false (.bin .gtr T12 (cI 64)),oQ 14 (.pick T10 (cB true) T13)] [0,14])
(.cond T14
(.seq
(.reg 2 [oM 2 (cB false)] [2])
.ret)
.skip))
(.seq
(.seq
(.reg 3 [oM 15 T0,oK 16 (.be3 T15)] [0,16])
(.block 0
(.loop
(.seq
(.reg 4 [oK 17 (.cn4 T16),oQ 18 (.ext 0 T17)] [0,16,17,18])
(.seq
(.cond T18
.skip
(.exit 0))
(.block 1
(.seq
(.reg 5 [oQ 19 (.ext 2 T17),oM 4 T19] [0,4,16])
(.seq
(.reg 6 [oM 20 T4,oQ 21 (.bin .gtr T20 (.c (.int .i32 126))),oM 22 T21,gQ 23 22 false (.mov T4),gQ 24 22 false (.conv .u8 T23),gK 25 22 false (.call 91 [(.c (.str [97,98,99,100,101,102,103,104,105,106,107,108,109,110,111,112,113,114,115,116,117,118,119,120,121,122,65,66,67,68,69,70,71,72,73,74,75,76,77,78,79,80,81,82,83,84,85,86,87,88,89,90,48,49,50,51,52,53,54,55,56,57,46,95,43,45,47,58,64,126,94])),T24]),gQ 26 22 false (.bin .lss T25 (cI 0)),oQ 27 (.pick T22 (cB true) T26)] [0,16,27])
(.cond T27
(.seq
(.reg 7 [oM 2 (cB false)] [2])
.ret)
.skip)))))))))
(.seq
(.seq
(.reg 8 [oQ 28 (.load (some 7) (.g 0)),oM 29 (cI 0)] [0,28,29])
(.block 2
(.loop
(.seq
(.reg 9 [oQ 30 (.bin .lss T29 (cI 7))] [0,28,29,30])
(.seq
(.cond T30
.skip
(.exit 2))
(.seq
(.block 3
(.seq
(.reg 10 [oQ 31 (.idx none 7 1 T28 T29),oM 6 T31] [0,6,28,29])
(.seq
(.reg 11 [oM 32 T0,oM 33 T6,oQ 34 (.bin .eql T32 T33)] [0,28,29,34])
(.cond T34
(.seq
(.reg 12 [oM 2 (cB false)] [2])
.ret)
.skip))))
(.reg 13 [oQ 35 (.bin .add T29 (cI 1)),oM 29 T35] [0,28,29])))))))
(.seq
(.reg 14 [oM 2 (cB true)] [2])
.ret)))))
theorem fok53:FOK Tryz.prog 53 (36,ic53,[(.t 2)]):=ai3 [] Tryz.func53
def ic54:IC :=
(.seq
(.reg 0 [oM 2 (cB false)] [0])
(.seq
(.reg 1 [oM 3 T0,oK 4 (.call 53 [T3]),oM 5 T4,gQ 6 5 true (.mov T0),gK 7 5 true (.call 92 [T6,(.c (.str [47]))]),oQ 8 (.pick T5 T7 (cB false)),oM 2 T8] [2])
.ret))
theorem fok54:FOK Tryz.prog 54 (9,ic54,[(.t 2)]):=ai3 [] Tryz.func54
def ic55:IC :=
(.seq
(.reg 0 [oK 2 (.ak7 T0),oM 4 (cB false)] [1,2])
(.seq
(.reg 1 [oQ 5 (.ab1 0 T2),oQ 6 (.load none T5),oQ 7 (.bin .geq T6 (cI 0)),oM 8 T7,gQ 9 8 true (.ab1 0 T2),gQ 10 8 true (.load none T9),gQ 11 8 true (.bin .leq T10 (cI 2147483647)),oQ 12 (.pick T8 T11 (cB false)),oM 13 T12,gQ 14 13 true (.ab1 1 T2),gQ 15 13 true (.load none T14),gK 16 13 true (.call 93 [T15]),oQ 17 (.pick T13 T16 (cB false)),oM 18 T17,gQ 19 18 true (.ab1 2 T2),gQ 20 18 true (.load none T19),gK 21 18 true (.call 93 [T20]),gQ 22 18 true (.mov T21),gQ 23 22 false (.mov T1),gQ 24 22 false (.mov T23),gQ 25 24 true (.ab1 2 T2),gQ 26 24 true (.load none T25),gQ 27 24 true (.bin .eql T26 (.c (.str []))),gQ 28 22 false (.pick T24 T27 (cB false)),gQ 29 18 true (.pick T22 (cB true) T28),oQ 30 (.pick T18 T29 (cB false)),oM 4 T30] [4])
.ret))
theorem fok55:FOK Tryz.prog 55 (31,ic55,[(.t 4)]):=ai3 [1000002] Tryz.func55
def ic56:IC :=
(.seq
(.reg 0 [oM 2 (.c (.str []))] [0])
(.seq
(.seq
(.reg 1 [oM 3 T0,oK 4 (.call 94 [T3]),oQ 5 (.not T4)] [0,5])
(.cond T5
(.seq
(.reg 2 [oM 2 (.c (.str []))] [2])
.ret)
.skip))
(.seq
(.reg 3 [oK 6 (.call 95 []),oM 7 T0,oQ 8 (.idx none 5 1 T6 T7),oM 2 T8] [2])
.ret)))
theorem fok56:FOK Tryz.prog 56 (9,ic56,[(.t 2)]):=ai3 [] Tryz.func56
def ic57:IC :=
(.seq
(.reg 0 [oK 5 (.ak7 T2),oM 6 (cB false)] [0,1,5])
(.seq
(.reg 1 [oM 7 T0,oQ 8 (.len 0 T7),oM 9 T1,oQ 10 (.bin .leq T8 T9),oM 11 T10,gQ 12 11 true (.mov T0),gQ 13 11 true (.mkf 96 [] [T5]),gK 14 11 true (.call 47 [T12,T13]),gQ 15 11 true (.not T14),oQ 16 (.pick T11 T15 (cB false)),oM 6 T16] [6])
.ret))
theorem fok57:FOK Tryz.prog 57 (17,ic57,[(.t 6)]):=ai3 [1000005] Tryz.func57
def ic58:IC :=
(.seq
(.reg 0 [oK 1 (.ak7 T0),oM 2 (cB false)] [1])
(.seq
(.block 0
(.seq
(.reg 1 [oQ 4 (.ab1 0 T1),oQ 5 (.load none T4),oK 6 (.call 53 [T5]),oQ 7 (.not T6),oM 8 T7,gQ 9 8 false (.ab1 1 T1),gQ 10 8 false (.load none T9),gK 11 8 false (.call 97 [T10]),gQ 12 8 false (.not T11),oQ 13 (.pick T8 (cB true) T12),oM 3 T13] [1,3])
(.cond T3
(.seq
(.reg 2 [oM 2 (cB false)] [2])
.ret)
(.seq
(.reg 3 [oQ 15 (.ab1 1 T1),oQ 16 (.load none T15),oQ 17 (.bin .eql T16 (.c (zU 0))),oM 14 T17] [1,14])
(.cond T14
(.seq
(.reg 4 [oQ 18 (.ab1 2 T1),oQ 19 (.load (some 3) T18),oQ 20 (.bld [(zI 0),(.str []),(.str [])] []),oQ 21 (.eqs [1,2,2] true false T19 T20),oM 2 T21] [2])
.ret)
.skip)))))
(.seq
(.reg 5 [oQ 22 (.ab1 0 T1),oQ 23 (.load none T22),oK 24 (.call 54 [T23]),oQ 25 (.not T24),oM 26 T25,gQ 27 26 true (.ab1 2 T1),gQ 28 26 true (.load (some 3) T27),gK 29 26 true (.call 55 [T28,(cB true)]),oQ 30 (.pick T26 T29 (cB false)),oM 2 T30] [2])
.ret)))
theorem fok58:FOK Tryz.prog 58 (31,ic58,[(.t 2)]):=ai3 [1000001] Tryz.func58
def ic59:IC :=
(.seq
(.reg 0 [oK 5 (.ak7 T2),oM 6 (cB false)] [0,1,5])
(.seq
(.reg 1 [oM 7 T0,oQ 8 (.len 0 T7),oM 9 T1,oQ 10 (.bin .leq T8 T9),oM 11 T10,gQ 12 11 true (.mov T0),gQ 13 11 true (.mkf 99 [] [T5]),gK 14 11 true (.call 98 [T12,T13]),gQ 15 11 true (.not T14),oQ 16 (.pick T11 T15 (cB false)),oM 6 T16] [6])
.ret))
theorem fok59:FOK Tryz.prog 59 (17,ic59,[(.t 6)]):=ai3 [1000005] Tryz.func59
def ic60:IC :=
(.seq
(.reg 0 [oK 1 (.ak7 T0),oM 2 (.c .af3)] [1])
(.seq
(.reg 1 [oQ 3 (.mkf 100 [] [T1]),oM 2 T3] [2])
.ret))
theorem fok60:FOK Tryz.prog 60 (4,ic60,[(.t 2)]):=ai3 [1000001] Tryz.func60
def ic61:IC :=
(.seq
(.reg 0 [oK 5 (.ak7 T2),oM 6 (cB false)] [0,1,5])
(.seq
(.reg 1 [oM 7 T0,oQ 8 (.len 0 T7),oM 9 T1,oQ 10 (.bin .leq T8 T9),oM 11 T10,gQ 12 11 true (.mov T0),gQ 13 11 true (.mkf 101 [] [T5]),gK 14 11 true (.call 45 [T12,T13]),gQ 15 11 true (.not T14),oQ 16 (.pick T11 T15 (cB false)),oM 6 T16] [6])
.ret))
theorem fok61:FOK Tryz.prog 61 (17,ic61,[(.t 6)]):=ai3 [1000005] Tryz.func61
def ic62:IC :=
(.seq
(.reg 0 [oK 2 (.ak7 T0),oM 3 (cB false)] [1,2])
(.seq
(.reg 1 [oQ 4 (.load (some 7) T2),oQ 5 (.load none T1),oK 6 (.call 63 [T4,T5]),oQ 7 (.bin .eql T6 (cI 0)),oM 3 T7] [3])
.ret))
theorem fok62:FOK Tryz.prog 62 (8,ic62,[(.t 3)]):=ai3 [1000002] Tryz.func62
def ic63:IC :=
(.seq
(.reg 0 [oK 2 (.ak7 T0),oK 3 (.ak7 T1),oK 4 (.alloc [(zI 0)])] [2,3,4])
(.seq
(.block 0
(.seq
(.reg 1 [oQ 9 (.load none T3),oQ 10 (.bin .lss T9 (.c (zU 1))),oM 11 T10,gQ 12 11 false (.load none T3),gQ 13 11 false (.bin .gtr T12 (.c (zU 3))),oQ 14 (.pick T11 (cB true) T13),oM 8 T14] [2,3,4,8])
(.cond T8
(.seq
(.reg 2 [oN (.store 1 T4 (cI 1))] [4])
.ret)
(.seq
(.reg 3 [oQ 16 (.load (some 7) T2),oK 17 (.call 102 [T16]),oQ 18 (.bin .gtr T17 (cI 24)),oM 15 T18] [2,3,4,15])
(.cond T15
(.seq
(.reg 4 [oN (.store 1 T4 (cI 40))] [4])
.ret)
(.seq
(.reg 5 [oQ 20 (.load (some 7) T2),oK 21 (.call 103 [T20]),oQ 22 (.bin .gtr T21 (cI 8)),oM 19 T22] [2,3,4,19])
(.cond T19
(.seq
(.reg 6 [oN (.store 1 T4 (cI 21))] [4])
.ret)
.skip)))))))
(.seq
(.seq
(.reg 7 [oQ 23 (.load (some 7) T2),oK 24 (.call 84 [T23])] [3,4,24])
(.block 1
(.be8 T24 [25,26]
(.seq
(.reg 8 [oK 5 (.alloc [(zU 0),(.str []),(zU 0),(zI 0),(.str []),(.str []),.aa1]),oN (.store 7 T5 T25)] [3,4,5,26])
(.reg 9 [oM 6 T26] [3,4,5,6]))
(.block 2
(.seq
(.reg 10 [oQ 27 (.ab1 0 T5),oQ 28 (.load none T27),oK 29 (.call 104 [T28]),oK 7 (.alloc [(zI 0),(zI 0),(.bool false),(zU 0)]),oN (.store 4 T7 T29)] [3,4,5,6,7])
(.block 3
(.seq
(.seq
(.reg 11 [oQ 31 (.ab1 3 T7),oQ 32 (.load none T31),oQ 33 (.load none T3),oQ 34 (.bin .lss T32 T33),oM 30 T34] [4,5,6,7,30])
(.cond T30
.skip
(.seq
(.reg 12 [oM 35 T6,oM 36 T35,gQ 37 36 true (.ab1 2 T7),gQ 38 36 true (.load none T37),gQ 39 36 true (.not T38),oQ 40 (.pick T36 T39 (cB false)),oM 30 T40] [4,5,7,30])
(.cond T30
.skip
(.seq
(.reg 13 [oQ 41 (.ab1 6 T5),oQ 42 (.load none T41),oQ 43 (.len 0 T42),oQ 44 (.ab1 0 T7),oQ 45 (.load none T44),oQ 46 (.bin .lss T43 T45),oM 30 T46] [4,5,7,30])
(.cond T30
.skip
(.reg 14 [oQ 47 (.ab1 6 T5),oQ 48 (.load none T47),oQ 49 (.len 0 T48),oQ 50 (.ab1 1 T7),oQ 51 (.load none T50),oQ 52 (.bin .gtr T49 T51),oM 30 T52] [4,5,30])))))))
(.cond T30
(.seq
(.reg 15 [oN (.store 1 T4 (cI 4))] [])
.ret)
(.seq
(.seq
(.reg 16 [oQ 54 (.ab1 0 T5),oQ 55 (.load none T54),oQ 56 (.bin .eql T55 (.c (zU 1))),oM 57 T56,gQ 58 57 true (.ab1 1 T5),gQ 59 57 true (.load (some 5) T58),gK 60 57 true (.call 58 [T59]),gQ 61 57 true (.not T60),oQ 62 (.pick T57 T61 (cB false)),oM 53 T62] [4,5,53])
(.cond T53
.skip
(.reg 17 [oQ 63 (.ab1 0 T5),oQ 64 (.load none T63),oQ 65 (.bin .neq T64 (.c (zU 1))),oM 66 T65,gQ 67 66 true (.ab1 1 T5),gQ 68 66 true (.load (some 5) T67),gQ 69 66 true (.bld [(.str []),(zU 0),(zI 0),(.str []),(.str [])] []),gQ 70 66 true (.eqs [2,1,1,2,2] true true T68 T69),oQ 71 (.pick T66 T70 (cB false)),oM 53 T71] [4,53])))
(.cond T53
(.seq
(.reg 18 [oN (.store 1 T4 (cI 4))] [])
.ret)
.skip))))))))))
(.seq
(.reg 19 [oN (.store 1 T4 (cI 0))] [4])
.ret))))
theorem fok63:FOK Tryz.prog 63 (72,ic63,[(.cell none 4)]):=ai3 [1000002,1000003] Tryz.func63
def ic64:IC :=
(.seq
(.reg 0 [oM 2 (.c .aa1)] [0])
(.seq
(.seq
(.reg 1 [oM 3 T0,oQ 4 (.cl4 (.slice 81) false T3)] [0,4])
(.cond T4
(.seq
(.reg 2 [oM 2 (.c .aa1)] [2])
.ret)
.skip))
(.seq
(.reg 3 [oK 5 (.bsl 5 0 [(.str []),(zU 0),(zI 0),(.str []),(.str [])] []),oM 6 T0,oK 7 (.app 5 T5 T6),oM 2 T7] [2])
.ret)))
theorem fok64:FOK Tryz.prog 64 (8,ic64,[(.t 2)]):=ai3 [] Tryz.func64
def ic65:IC :=
(.seq
(.reg 0 [oM 2 (.c .aa1)] [0])
(.seq
(.seq
(.reg 1 [oM 3 T0,oQ 4 (.cl4 (.slice 9) false T3)] [0,4])
(.cond T4
(.seq
(.reg 2 [oM 2 (.c .aa1)] [2])
.ret)
.skip))
(.seq
(.reg 3 [oK 5 (.bsl 1 0 [(.str [])] []),oM 6 T0,oK 7 (.app 1 T5 T6),oM 2 T7] [2])
.ret)))
theorem fok65:FOK Tryz.prog 65 (8,ic65,[(.t 2)]):=ai3 [] Tryz.func65
def ic66:IC :=
(.seq
(.reg 0 [oM 2 (.c .aa1)] [0])
(.seq
(.seq
(.reg 1 [oM 3 T0,oQ 4 (.cl4 (.slice 83) false T3)] [0,4])
(.cond T4
(.seq
(.reg 2 [oM 2 (.c .aa1)] [2])
.ret)
.skip))
(.seq
(.reg 3 [oK 5 (.bsl 7 0 [(zU 0),(.str []),(zU 0),(zI 0),(.str []),(.str []),.aa1] []),oM 6 T0,oK 7 (.app 7 T5 T6),oM 2 T7] [2])
.ret)))
theorem fok66:FOK Tryz.prog 66 (8,ic66,[(.t 2)]):=ai3 [] Tryz.func66
def ic67:IC :=
(.seq
(.reg 0 [oK 1 (.ak7 T0),oK 2 (.alloc [(zU 0),(.str []),(zU 0),(zI 0),(.str []),(.str []),.aa1])] [1,2])
(.seq
(.reg 1 [oQ 6 (.ab1 0 T1),oQ 7 (.load none T6),oQ 8 (.ab1 1 T1),oQ 9 (.load (some 5) T8),oQ 10 (.bld [(zU 0),(.str []),(zU 0),(zI 0),(.str []),(.str []),.aa1] [⟨0,⟨1,T7⟩⟩,⟨1,⟨5,T9⟩⟩]),oK 3 (.alloc [(zU 0),(.str []),(zU 0),(zI 0),(.str []),(.str []),.aa1]),oN (.store 7 T3 T10)] [1,2,3])
(.seq
(.seq
(.reg 2 [oQ 11 (.ab1 6 T1),oQ 12 (.load none T11),oQ 13 (.len 0 T12),oM 14 (cI 0)] [2,3,12,13,14])
(.block 0
(.loop
(.seq
(.reg 3 [oQ 15 (.bin .lss T14 T13)] [2,3,12,13,14,15])
(.seq
(.cond T15
.skip
(.exit 0))
(.seq
(.block 1
(.seq
(.reg 4 [oQ 16 (.ab6 7 T12 T14),oQ 17 (.load (some 7) T16),oK 5 (.alloc [(zU 0),(.str []),(zU 0),(zI 0),(.str []),(.str []),.aa1]),oN (.store 7 T5 T17)] [2,3,5,12,13,14])
(.an7 5 [oQ 18 (.ab1 6 T3),oQ 19 (.load none T18),oQ 20 (.load (some 7) T5),oK 21 (.ah5 67 [T20]),oK 22 (.aw2 7 1 [(zU 0),(.str []),(zU 0),(zI 0),(.str []),(.str []),.aa1] [⟨0,⟨7,T21⟩⟩]),oK 23 (.app 7 T19 T22),oQ 24 (.ab1 6 T3),oN (.store 1 T24 T23)] true [2,3,12,13,14])))
(.reg 6 [oQ 25 (.bin .add T14 (cI 1)),oM 14 T25] [2,3,12,13,14])))))))
(.seq
(.reg 7 [oQ 26 (.load (some 7) T3),oN (.store 7 T2 T26)] [2])
.ret))))
theorem fok67:FOK Tryz.prog 67 (27,ic67,[(.cell (some 7) 2)]):=ai3 ([1000001,1000022]++gg5) Tryz.func67
end Go.Id.Tryz
