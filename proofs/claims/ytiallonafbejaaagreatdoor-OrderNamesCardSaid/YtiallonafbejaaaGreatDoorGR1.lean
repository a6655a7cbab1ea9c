/- The compiled codes of functions, written by a program out of the given form. Conditions: none. -/
import Derived.Test.YtiallonafbejaaaGreatDoorFwW
import Derived.Test.YtiallonafbejaaaGreatDoorProg
set_option linter.all false
namespace Go.Id.Tryz
open Go Go.Id Go.Proofs
def allF1 : List Nat := List.range 357
def ic56 : IC :=
 (.seq
 (.reg 0 [oM 4 (.c .nilslice), oM 5 (cI 0)] [0, 1])
 (.seq
 (.seq
 (.reg 1 [oM 20 0, oQ 21 (.isnil (.pointer 105) false 20)] [0, 1, 21])
 (.cond 21
 (.seq
 (.reg 2 [oM 4 (.c .nilslice), oM 5 (cI 2)] [4, 5])
 .ret)
 .skip))
 (.seq
 (.reg 3 [oK 22 .mkmap, oM 6 22] [0, 1, 6])
 (.seq
 (.reg 4 [oK 7 (.alloc [.nilslice, .nilslice, .nilslice])] [0, 1, 6, 7])
 (.seq
 (.seq
 (.reg 5 [oM 23 1, oQ 24 (.len 0 23), oM 25 (cI 0)] [0, 6, 7, 23, 24, 25])
 (.block 0
 (.loop
 (.seq
 (.reg 6 [oQ 26 (.bin .lss 25 24)] [0, 6, 7, 23, 24, 25, 26])
 (.seq
 (.cond 26
 .skip
 (.exit 0))
 (.seq
 (.block 1
 (.seq
 (.reg 7 [oQ 27 (.iaddr 2 23 25), oQ 28 (.load (some 2) 27), oK 9 (.alloc [(zU 0), (zI 0)]), oN (.store 2 9 28)] [0, 6, 7, 9, 23, 24, 25])
 (.seq
 (.seq
 (.reg 8 [oM 30 6, oQ 31 (.faddr 1 9), oQ 32 (.load none 31), oQ 33 (.lkp 1 (zU 0) true 30 32), oM 29 33, oQ 34 (.ext 0 29), oQ 35 (.ext 1 29), oM 10 34, oM 11 35] [0, 6, 7, 9, 11, 23, 24, 25])
 (.seq
 (.oreg 9 [(0, oM 36 11, 0), (1, oM 37 36, 0), (2, gQ 38 37 false (.faddr 0 9), 0), (3, gQ 39 37 false (.load none 38), 0), (4, gQ 40 37 false (.bin .lss 39 (.c (zU 1))), 0), (5, oQ 41 (.pick 37 (cB true) 40), 0), (6, oM 42 41, 0), (7, gQ 43 42 false (.faddr 0 9), 0), (8, gQ 44 42 false (.load none 43), 0), (9, gQ 45 42 false (.bin .gtr 44 (.c (zU 8))), 0), (10, oQ 46 (.pick 42 (cB true) 45), 0), (11, oM 47 46, 0), (12, gQ 48 47 false (.faddr 1 9), 0), (13, gQ 49 47 false (.load none 48), 0), (14, gQ 50 47 false (.bin .lss 49 (cI 0)), 0), (15, oQ 51 (.pick 47 (cB true) 50), 0), (16, oM 52 51, 0), (17, gQ 53 52 false (.faddr 1 9), 0), (18, gQ 54 52 false (.load none 53), 0), (19, gQ 55 52 false (.mov 0), 0), (20, gK 56 52 false (.call 17 [55]), 262144), (21, gQ 57 52 false (.bin .geq 54 56), 0), (22, oQ 58 (.pick 52 (cB true) 57), 0)] [0, 6, 7, 9, 23, 24, 25, 58])
 (.cond 58
 (.seq
 (.reg 10 [oM 4 (.c .nilslice), oM 5 (cI 4)] [4, 5])
 .ret)
 .skip)))
 (.seq
 (.reg 11 [oM 59 6, oQ 60 (.faddr 1 9), oQ 61 (.load none 60), oQ 62 (.faddr 0 9), oQ 63 (.load none 62), oN (.mupd 1 59 61 63)] [0, 6, 7, 9, 23, 24, 25])
 (.seq
 (.reg 12 [oQ 64 (.faddr 0 9), oQ 65 (.load none 64), oK 66 (.call 124 [65]), oM 12 66] [0, 6, 7, 9, 12, 23, 24, 25])
 (.oreg 13 [(0, oM 67 12, 0), (1, oM 68 12, 0), (2, oQ 69 (.aaddr 3 1 7 68), 0), (3, oQ 70 (.load none 69), 0), (4, oQ 71 (.faddr 1 9), 0), (5, oQ 72 (.load none 71), 0), (6, oK 73 (.bslt 1 1 [(zI 0)] [⟨0, ⟨1, 72⟩⟩]), 0), (7, oK 74 (.app 1 70 73), 0), (8, oQ 75 (.aaddr 3 1 7 67), 0), (9, oN (.store 1 75 74), 0)] [0, 6, 7, 23, 24, 25]))))))
 (.reg 14 [oQ 76 (.bin .add 25 (cI 1)), oM 25 76] [0, 6, 7, 23, 24, 25])))))))
 (.seq
 (.dreg 15 [oM 77 0, oQ 78 (.aaddr 3 1 7 (cI 0)), oQ 79 (.load none 78), oK 80 (.pcall 125 [77, 79]), oM 81 0, oQ 82 (.aaddr 3 1 7 (cI 2)), oQ 83 (.load none 82), oK 84 (.pcall 125 [81, 83]), oK 13 (.alloc [.nilmap, .nilmap]), oK 14 (.alloc [.nilmap, .nilmap]), oN (.store 2 13 80), oN (.store 2 14 84)] false [6, 7, 13, 14])
 (.seq
 (.reg 16 [oQ 85 (.aaddr 3 1 7 (cI 1)), oQ 86 (.load none 85), oK 87 (.call 123 [86, (.f 126)])] [6, 7, 13, 14])
 (.seq
 (.reg 17 [oM 15 (.c .nilslice)] [6, 7, 13, 14, 15])
 (.seq
 (.seq
 (.oreg 18 [(0, oQ 88 (.aaddr 3 1 7 (cI 0)), 0), (1, oQ 89 (.load none 88), 0), (2, oQ 90 (.mkf 128 [] [13]), 0), (4, oQ 92 (.aaddr 3 1 7 (cI 1)), 0), (5, oQ 93 (.load none 92), 0), (6, oQ 94 (.aaddr 3 1 7 (cI 2)), 0), (7, oQ 95 (.load none 94), 0), (8, oQ 96 (.mkf 130 [] [14]), 0), (12, oM 100 (cI 0), 0), (3, oK 91 (.call 127 [89, 90]), 160), (9, oK 97 (.call 127 [95, 96]), 32), (10, oK 98 (.bslt 1 3 [.nilslice] [⟨0, ⟨1, 91⟩⟩, ⟨1, ⟨1, 93⟩⟩, ⟨2, ⟨1, 97⟩⟩]), 0), (11, oQ 99 (.len 0 98), 0)] [6, 15, 98, 99, 100])
 (.block 2
 (.loop
 (.seq
 (.reg 19 [oQ 101 (.bin .lss 100 99)] [6, 15, 98, 99, 100, 101])
 (.seq
 (.cond 101
 .skip
 (.exit 2))
 (.seq
 (.block 3
 (.seq
 (.reg 20 [oQ 102 (.iaddr 1 98 100), oQ 103 (.load none 102), oM 17 103] [6, 15, 17, 98, 99, 100])
 (.seq
 (.reg 21 [oM 104 17, oQ 105 (.len 0 104), oM 106 (cI 0)] [6, 15, 98, 99, 100, 104, 105, 106])
 (.block 4
 (.loop
 (.seq
 (.reg 22 [oQ 107 (.bin .lss 106 105)] [6, 15, 98, 99, 100, 104, 105, 106, 107])
 (.seq
 (.cond 107
 .skip
 (.exit 4))
 (.seq
 (.block 5
 (.seq
 (.reg 23 [oQ 108 (.iaddr 1 104 106), oQ 109 (.load none 108), oM 19 109] [6, 15, 19, 98, 99, 100, 104, 105, 106])
 (.reg 24 [oM 110 15, oM 111 6, oM 112 19, oQ 113 (.lkp 1 (zU 0) false 111 112), oM 114 19, oQ 115 (.bld [(zU 0), (zI 0)] [⟨0, ⟨1, 113⟩⟩, ⟨1, ⟨1, 114⟩⟩]), oK 116 (.bslt 2 1 [(zU 0), (zI 0)] [⟨0, ⟨2, 115⟩⟩]), oK 117 (.app 2 110 116), oM 15 117] [6, 15, 98, 99, 100, 104, 105, 106])))
 (.reg 25 [oQ 118 (.bin .add 106 (cI 1)), oM 106 118] [6, 15, 98, 99, 100, 104, 105, 106])))))))))
 (.reg 26 [oQ 119 (.bin .add 100 (cI 1)), oM 100 119] [6, 15, 98, 99, 100])))))))
 (.seq
 (.reg 27 [oM 120 15, oM 4 120, oM 5 (cI 0)] [4, 5])
 .ret))))))))))
theorem fok56 : FOK Tryz.prog 56 (121, ic56, [(.t 4), (.t 5)]) := fokA [1000073, 1000098, 1000116, 2000000, 125] Tryz.func56 (by kernel_rfl) (by kernel_rfl) (by kernel_rfl) (by kernel_rfl)
def ic57 : IC :=
 (.seq
 (.reg 0 [oM 0 (cB false)] [])
 (.seq
 (.reg 1 [oK 6 (.bslt 1 1 [(.str [])] [⟨0, ⟨1, (.c (.str [98]))⟩⟩]), oK 7 (.call 59 [(.c (.str [97])), 6]), oK 8 (.bslt 1 1 [(.str [])] [⟨0, ⟨1, (.c (.str [99]))⟩⟩]), oK 9 (.call 59 [(.c (.str [98])), 8]), oK 10 (.call 59 [(.c (.str [99])), (.c .nilslice)]), oK 11 (.bslt 15 3 [(.str []), (zI 0), (.str []), (.str []), (zU 0), (.str []), .nilslice, .nilslice, .nilslice, .nilslice, .nilslice, .nilslice, .nilslice, .nilslice, .nilslice] [⟨0, ⟨15, 7⟩⟩, ⟨15, ⟨15, 9⟩⟩, ⟨30, ⟨15, 10⟩⟩]), oK 12 (.call 15 [(.c .nilslice), 11]), oM 5 12, oQ 13 (.ext 0 5), oQ 14 (.ext 1 5), oM 1 13, oM 2 14] [1, 2])
 (.seq
 (.reg 2 [oK 16 (.bslt 1 1 [(.str [])] [⟨0, ⟨1, (.c (.str [98]))⟩⟩]), oK 17 (.call 59 [(.c (.str [97])), 16]), oK 18 (.bslt 1 2 [(.str [])] [⟨0, ⟨1, (.c (.str [97]))⟩⟩, ⟨1, ⟨1, (.c (.str [99]))⟩⟩]), oK 19 (.call 59 [(.c (.str [98])), 18]), oK 20 (.call 59 [(.c (.str [99])), (.c .nilslice)]), oK 21 (.bslt 15 3 [(.str []), (zI 0), (.str []), (.str []), (zU 0), (.str []), .nilslice, .nilslice, .nilslice, .nilslice, .nilslice, .nilslice, .nilslice, .nilslice, .nilslice] [⟨0, ⟨15, 17⟩⟩, ⟨15, ⟨15, 19⟩⟩, ⟨30, ⟨15, 20⟩⟩]), oK 22 (.call 15 [(.c .nilslice), 21]), oM 15 22, oQ 23 (.ext 0 15), oQ 24 (.ext 1 15), oM 3 23, oM 4 24] [1, 2, 3, 4])
 (.seq
 (.reg 3 [oM 25 2, oQ 26 (.bin .eql 25 (cI 0)), oM 27 26, gQ 28 27 true (.mov 4), gQ 29 27 true (.bin .eql 28 (cI 0)), oQ 30 (.pick 27 29 (cB false)), oM 31 30, gQ 32 31 true (.mov 1), gK 33 31 true (.bslt 1 3 [(zI 0)] [⟨0, ⟨1, (cI 0)⟩⟩, ⟨1, ⟨1, (cI 1)⟩⟩, ⟨2, ⟨1, (cI 2)⟩⟩]), gK 34 31 true (.call 61 [(.c (zU 1)), 33]), gK 35 31 true (.bslt 1 3 [(zI 0)] [⟨0, ⟨1, (cI 2)⟩⟩, ⟨1, ⟨1, (cI 1)⟩⟩, ⟨2, ⟨1, (cI 0)⟩⟩]), gK 36 31 true (.call 61 [(.c (zU 1)), 35]), gK 37 31 true (.call 60 [32, 34, 36]), oQ 38 (.pick 31 37 (cB false)), oM 39 38, gQ 40 39 true (.mov 3), gK 41 39 true (.bslt 1 3 [(zI 0)] [⟨0, ⟨1, (cI 0)⟩⟩, ⟨1, ⟨1, (cI 1)⟩⟩, ⟨2, ⟨1, (cI 2)⟩⟩]), gK 42 39 true (.call 61 [(.c (zU 1)), 41]), gK 43 39 true (.bslt 1 3 [(zI 0)] [⟨0, ⟨1, (cI 0)⟩⟩, ⟨1, ⟨1, (cI 2)⟩⟩, ⟨2, ⟨1, (cI 1)⟩⟩]), gK 44 39 true (.call 61 [(.c (zU 1)), 43]), gK 45 39 true (.call 60 [40, 42, 44]), oQ 46 (.pick 39 45 (cB false)), oM 47 46, gQ 48 47 true (.mov 1), gK 49 47 true (.bslt 1 3 [(zI 0)] [⟨0, ⟨1, (cI 2)⟩⟩, ⟨1, ⟨1, (cI 1)⟩⟩, ⟨2, ⟨1, (cI 0)⟩⟩]), gK 50 47 true (.call 61 [(.c (zU 6)), 49]), gK 51 47 true (.bslt 1 3 [(zI 0)] [⟨0, ⟨1, (cI 0)⟩⟩, ⟨1, ⟨1, (cI 1)⟩⟩, ⟨2, ⟨1, (cI 2)⟩⟩]), gK 52 47 true (.call 61 [(.c (zU 6)), 51]), gK 53 47 true (.call 60 [48, 50, 52]), oQ 54 (.pick 47 53 (cB false)), oM 55 54, gQ 56 55 true (.mov 3), gK 57 55 true (.bslt 1 3 [(zI 0)] [⟨0, ⟨1, (cI 2)⟩⟩, ⟨1, ⟨1, (cI 1)⟩⟩, ⟨2, ⟨1, (cI 0)⟩⟩]), gK 58 55 true (.call 61 [(.c (zU 6)), 57]), gK 59 55 true (.bslt 1 3 [(zI 0)] [⟨0, ⟨1, (cI 0)⟩⟩, ⟨1, ⟨1, (cI 1)⟩⟩, ⟨2, ⟨1, (cI 2)⟩⟩]), gK 60 55 true (.call 61 [(.c (zU 6)), 59]), gK 61 55 true (.call 60 [56, 58, 60]), oQ 62 (.pick 55 61 (cB false)), oM 63 62, gQ 64 63 true (.mov 1), gK 65 63 true (.call 58 [64, (cI 0), (cI 1)]), oQ 66 (.pick 63 65 (cB false)), oM 67 66, gQ 68 67 true (.mov 1), gK 69 67 true (.call 58 [68, (cI 0), (cI 2)]), gQ 70 67 true (.not 69), oQ 71 (.pick 67 70 (cB false)), oM 0 71] [0])
 .ret))))
theorem fok57 : FOK Tryz.prog 57 (72, ic57, [(.t 0)]) := fokA [1000006, 1000008, 1000011, 1000016, 1000018, 1000021, 1000033, 1000035, 1000041, 1000043, 1000049, 1000051, 1000057, 1000059, 2000000] Tryz.func57 (by kernel_rfl) (by kernel_rfl) (by kernel_rfl) (by kernel_rfl)
def ic58 : IC :=
 (.seq
 (.reg 0 [oM 6 (cB false)] [0, 1, 2])
 (.seq
 (.reg 1 [oM 12 0, oM 13 1, oK 14 (.call 19 [12, 13]), oM 11 14, oQ 15 (.ext 0 11), oQ 16 (.ext 1 11), oK 7 (.alloc [(.str []), (zI 0), (.str []), (.str []), (zU 0), (.str []), .nilslice, .nilslice, .nilslice, .nilslice, .nilslice, .nilslice, .nilslice, .nilslice, .nilslice]), oN (.store 15 7 15), oM 8 16] [0, 1, 2, 7, 8])
 (.seq
 (.reg 2 [oM 18 0, oM 19 2, oK 20 (.call 19 [18, 19]), oM 17 20, oQ 21 (.ext 0 17), oQ 22 (.ext 1 17), oK 9 (.alloc [(.str []), (zI 0), (.str []), (.str []), (zU 0), (.str []), .nilslice, .nilslice, .nilslice, .nilslice, .nilslice, .nilslice, .nilslice, .nilslice, .nilslice]), oN (.store 15 9 21), oM 10 22] [1, 2, 7, 8, 9, 10])
 (.seq
 (.reg 3 [oM 23 8, oQ 24 (.bin .eql 23 (cI 0)), oM 25 24, gQ 26 25 true (.mov 10), gQ 27 25 true (.bin .eql 26 (cI 0)), oQ 28 (.pick 25 27 (cB false)), oM 29 28, gQ 30 29 true (.mov 1), gQ 31 29 true (.mov 2), gQ 32 29 true (.bin .neq 30 31), oQ 33 (.pick 29 32 (cB false)), oM 34 33, gQ 35 34 true (.load (some 15) 7), gQ 36 34 true (.load (some 15) 9), gK 37 34 true (.call 131 [35, 36]), oQ 38 (.pick 34 37 (cB false)), oM 6 38] [6])
 .ret))))
theorem fok58 : FOK Tryz.prog 58 (39, ic58, [(.t 6)]) := fokA [2000000] Tryz.func58 (by kernel_rfl) (by kernel_rfl) (by kernel_rfl) (by kernel_rfl)
def ic59 : IC :=
 (.seq
 (.reg 0 [oK 4 (.alloc [(.str []), (zI 0), (.str []), (.str []), (zU 0), (.str []), .nilslice, .nilslice, .nilslice, .nilslice, .nilslice, .nilslice, .nilslice, .nilslice, .nilslice])] [0, 1, 4])
 (.seq
 (.reg 1 [oM 7 0, oQ 8 (.bld [(zI 0), (.str []), (.str [])] [⟨1, ⟨1, (.c (.str [49]))⟩⟩, ⟨2, ⟨1, (.c (.str [49]))⟩⟩]), oQ 9 (.bld [(.str []), (zI 0), (.str []), (.str []), (zU 0), (.str []), .nilslice, .nilslice, .nilslice, .nilslice, .nilslice, .nilslice, .nilslice, .nilslice, .nilslice] [⟨0, ⟨1, 7⟩⟩, ⟨1, ⟨3, 8⟩⟩, ⟨4, ⟨1, (.c (zU 1))⟩⟩]), oK 5 (.alloc [(.str []), (zI 0), (.str []), (.str []), (zU 0), (.str []), .nilslice, .nilslice, .nilslice, .nilslice, .nilslice, .nilslice, .nilslice, .nilslice, .nilslice]), oN (.store 15 5 9)] [1, 4, 5])
 (.seq
 (.seq
 (.reg 2 [oM 6 (cI 0)] [1, 4, 5, 6])
 (.block 0
 (.loop
 (.seq
 (.seq
 (.reg 3 [oM 10 6, oM 11 1, oQ 12 (.len 0 11), oQ 13 (.bin .lss 10 12)] [1, 4, 5, 6, 13])
 (.cond 13
 .skip
 (.exit 0)))
 (.seq
 (.block 1
 (.oreg 5 [(0, oQ 16 (.faddr 7 5), 0), (1, oQ 17 (.load none 16), 0), (2, oM 18 1, 0), (3, oM 19 6, 0), (4, oQ 20 (.iaddr 1 18 19), 0), (5, oQ 21 (.load none 20), 0), (6, oQ 22 (.bld [(.str []), (zU 0), (zI 0), (.str []), (.str [])] [⟨0, ⟨1, 21⟩⟩]), 0), (7, oQ 23 (.bld [(zU 0), (.str []), (zU 0), (zI 0), (.str []), (.str []), .nilslice] [⟨0, ⟨1, (.c (zU 1))⟩⟩, ⟨1, ⟨5, 22⟩⟩]), 0), (8, oK 24 (.bslt 7 1 [(zU 0), (.str []), (zU 0), (zI 0), (.str []), (.str []), .nilslice] [⟨0, ⟨7, 23⟩⟩]), 0), (9, oK 25 (.app 7 17 24), 0), (10, oQ 26 (.faddr 7 5), 0), (11, oN (.store 1 26 25), 0)] [1, 4, 5, 6]))
 (.reg 4 [oM 14 6, oQ 15 (.bin .add 14 (cI 1)), oM 6 15] [1, 4, 5, 6]))))))
 (.seq
 (.reg 6 [oQ 27 (.load (some 15) 5), oN (.store 15 4 27)] [4])
 .ret))))
theorem fok59 : FOK Tryz.prog 59 (28, ic59, [(.cell (some 15) 4)]) := fokA [1000024, 2000000] Tryz.func59 (by kernel_rfl) (by kernel_rfl) (by kernel_rfl) (by kernel_rfl)
def ic60 : IC :=
 (.seq
 (.reg 0 [oM 6 (cB false)] [0, 1, 2])
 (.seq
 (.reg 1 [oM 10 0, oM 11 1, oK 12 (.call 56 [10, 11]), oM 9 12, oQ 13 (.ext 0 9), oQ 14 (.ext 1 9), oM 7 13, oM 8 14] [2, 7, 8])
 (.seq
 (.reg 2 [oM 15 8, oQ 16 (.bin .eql 15 (cI 0)), oM 17 16, gQ 18 17 true (.mov 7), gQ 19 17 true (.mov 2), gK 20 17 true (.call 132 [18, 19]), oQ 21 (.pick 17 20 (cB false)), oM 6 21] [6])
 .ret)))
theorem fok60 : FOK Tryz.prog 60 (22, ic60, [(.t 6)]) := fokA [2000000] Tryz.func60 (by kernel_rfl) (by kernel_rfl) (by kernel_rfl) (by kernel_rfl)
def ic61 : IC :=
 (.seq
 (.reg 0 [oM 4 (.c .nilslice)] [0, 1])
 (.seq
 (.reg 1 [oM 5 (.c .nilslice)] [0, 1, 5])
 (.seq
 (.seq
 (.reg 2 [oM 6 (cI 0)] [0, 1, 5, 6])
 (.block 0
 (.loop
 (.seq
 (.seq
 (.reg 3 [oM 7 6, oM 8 1, oQ 9 (.len 0 8), oQ 10 (.bin .lss 7 9)] [0, 1, 5, 6, 10])
 (.cond 10
 .skip
 (.exit 0)))
 (.seq
 (.block 1
 (.reg 5 [oM 13 5, oM 14 0, oM 15 1, oM 16 6, oQ 17 (.iaddr 1 15 16), oQ 18 (.load none 17), oQ 19 (.bld [(zU 0), (zI 0)] [⟨0, ⟨1, 14⟩⟩, ⟨1, ⟨1, 18⟩⟩]), oK 20 (.bslt 2 1 [(zU 0), (zI 0)] [⟨0, ⟨2, 19⟩⟩]), oK 21 (.app 2 13 20), oM 5 21] [0, 1, 5, 6]))
 (.reg 4 [oM 11 6, oQ 12 (.bin .add 11 (cI 1)), oM 6 12] [0, 1, 5, 6]))))))
 (.seq
 (.reg 6 [oM 22 5, oM 4 22] [4])
 .ret))))
theorem fok61 : FOK Tryz.prog 61 (23, ic61, [(.t 4)]) := fokA [1000020, 2000000] Tryz.func61 (by kernel_rfl) (by kernel_rfl) (by kernel_rfl) (by kernel_rfl)
def ic69 : IC :=
(.seq
 (.reg 0 [⟨(some 8), none, (.q (.mov (.c (.int .i64 0))))⟩] [0, 1, 2, 3])
 (.seq
  (.seq
   (.reg 1 [⟨(some 11), none, (.q (.mov (.t 1)))⟩, ⟨(some 12), none, (.q (.len 0 (.t 11)))⟩, ⟨(some 13), none, (.q (.mov (.c (.int .i64 0))))⟩] [0, 2, 3, 11, 12, 13])
   (.block 0
    (.loop
     (.seq
      (.reg 2 [⟨(some 14), none, (.q (.bin .lss (.t 13) (.t 12)))⟩] [0, 2, 3, 11, 12, 13, 14])
      (.seq
       (.cond (.t 14)
        .skip
        (.exit 0))
       (.seq
        (.block 1
         (.seq
          (.reg 3 [⟨(some 15), none, (.q (.iaddr 15 (.t 11) (.t 13)))⟩, ⟨(some 16), none, (.q (.load (some 15) (.t 15)))⟩, ⟨(some 10), none, (.alloc [(.str []), (.int .i64 0), (.str []), (.str []), (.int .u8 0), (.str []), .nilslice, .nilslice, .nilslice, .nilslice, .nilslice, .nilslice, .nilslice, .nilslice, .nilslice])⟩, ⟨none, none, (.store 15 (.t 10) (.t 16))⟩] [0, 2, 3, 10, 11, 12, 13])
          (.seq
           (.seq
            (.reg 4 [⟨(some 17), none, (.q (.load (some 15) (.t 10)))⟩, ⟨(some 18), none, (.pcall 135 [(.t 17)])⟩, ⟨(some 19), none, (.q (.not (.t 18)))⟩] [0, 2, 3, 10, 11, 12, 13, 19])
            (.cond (.t 19)
            (.seq
            (.reg 5 [⟨(some 8), none, (.q (.mov (.c (.int .i64 4))))⟩] [8])
            .ret)
            .skip))
           (.seq
            (.dreg 6 [⟨(some 20), none, (.q (.mov (.t 0)))⟩, ⟨(some 21), none, (.q (.nchk (.t 20)))⟩, ⟨(some 22), none, (.q (.faddr 2 (.t 21)))⟩, ⟨(some 23), none, (.q (.load none (.t 22)))⟩, ⟨(some 24), none, (.q (.faddr 0 (.t 10)))⟩, ⟨(some 25), none, (.q (.load none (.t 24)))⟩, ⟨(some 26), none, (.q (.mov (.t 0)))⟩, ⟨(some 27), none, (.q (.nchk (.t 26)))⟩, ⟨(some 28), none, (.q (.faddr 2 (.t 27)))⟩, ⟨(some 29), none, (.q (.load none (.t 28)))⟩, ⟨(some 30), none, (.q (.faddr 0 (.t 10)))⟩, ⟨(some 31), none, (.q (.load none (.t 30)))⟩, ⟨(some 32), none, (.q (.lkp 2 .nilslice false (.t 29) (.t 31)))⟩, ⟨(some 33), none, (.q (.mov (.t 0)))⟩, ⟨(some 34), none, (.q (.nchk (.t 33)))⟩, ⟨(some 35), none, (.q (.faddr 0 (.t 34)))⟩, ⟨(some 36), none, (.q (.load none (.t 35)))⟩, ⟨(some 37), none, (.q (.len 0 (.t 36)))⟩, ⟨(some 38), none, (.bslt 1 1 [(.int .i64 0)] [⟨0, ⟨1, (.t 37)⟩⟩])⟩, ⟨(some 39), none, (.app 1 (.t 32) (.t 38))⟩, ⟨none, none, (.mupd 2 (.t 23) (.t 25) (.t 39))⟩] true [0, 2, 3, 10, 11, 12, 13])
            (.dreg 7 [⟨(some 40), none, (.q (.mov (.t 0)))⟩, ⟨(some 41), none, (.q (.mov (.t 0)))⟩, ⟨(some 42), none, (.q (.nchk (.t 41)))⟩, ⟨(some 43), none, (.q (.faddr 0 (.t 42)))⟩, ⟨(some 44), none, (.q (.load none (.t 43)))⟩, ⟨(some 45), none, (.q (.load (some 15) (.t 10)))⟩, ⟨(some 46), none, (.pcall 74 [(.t 45)])⟩, ⟨(some 47), none, (.q (.mov (.t 2)))⟩, ⟨(some 48), none, (.q (.mov (.t 3)))⟩, ⟨(some 49), none, (.q (.bld [(.str []), (.int .i64 0), (.str []), (.str []), (.int .u8 0), (.str []), .nilslice, .nilslice, .nilslice, .nilslice, .nilslice, .nilslice, .nilslice, .nilslice, .nilslice, (.int .i64 0), (.int .i64 0)] [⟨0, ⟨15, (.t 46)⟩⟩, ⟨15, ⟨1, (.t 47)⟩⟩, ⟨16, ⟨1, (.t 48)⟩⟩]))⟩, ⟨(some 50), none, (.bslt 17 1 [(.str []), (.int .i64 0), (.str []), (.str []), (.int .u8 0), (.str []), .nilslice, .nilslice, .nilslice, .nilslice, .nilslice, .nilslice, .nilslice, .nilslice, .nilslice, (.int .i64 0), (.int .i64 0)] [⟨0, ⟨17, (.t 49)⟩⟩])⟩, ⟨(some 51), none, (.app 17 (.t 44) (.t 50))⟩, ⟨(some 52), none, (.q (.nchk (.t 40)))⟩, ⟨(some 53), none, (.q (.faddr 0 (.t 52)))⟩, ⟨none, none, (.store 1 (.t 53) (.t 51))⟩] true [0, 2, 3, 11, 12, 13])))))
        (.reg 8 [⟨(some 54), none, (.q (.bin .add (.t 13) (.c (.int .i64 1))))⟩, ⟨(some 13), none, (.q (.mov (.t 54)))⟩] [0, 2, 3, 11, 12, 13])))))))
  (.seq
   (.reg 9 [⟨(some 8), none, (.q (.mov (.c (.int .i64 0))))⟩] [8])
   .ret)))
theorem fok69 : FOK Tryz.prog 69 (55, ic69, [(.t 8)]) := .mk (pf := ([1000038, 1000050] ++ allF1)) (an := [(0, [0, 1, 2, 3]), (1, [0, 2, 3, 11, 12, 13]), (2, [0, 2, 3, 11, 12, 13, 14]), (3, [0, 2, 3, 10, 11, 12, 13]), (4, [0, 2, 3, 10, 11, 12, 13, 19]), (5, [8]), (6, [0, 2, 3, 10, 11, 12, 13]), (7, [0, 2, 3, 11, 12, 13]), (8, [0, 2, 3, 11, 12, 13]), (9, [8])]) (by kernel_rfl) (fnOK_of Tryz.func69 (by kernel_rfl) (by kernel_rfl) (by kernel_rfl))
def ic73 : IC :=
(.seq
 (.reg 0 [⟨(some 4), none, (.q (.mov (.c (.bool false))))⟩] [0, 1])
 (.seq
  (.reg 1 [⟨(some 5), none, (.q (.mov (.t 1)))⟩, ⟨(some 6), none, (.q (.bin .geq (.t 5) (.c (.int .i64 0))))⟩, ⟨(some 7), none, (.q (.mov (.t 6)))⟩, ⟨(some 8), (some ⟨7, true⟩), (.q (.mov (.t 1)))⟩, ⟨(some 9), (some ⟨7, true⟩), (.q (.mov (.t 0)))⟩, ⟨(some 10), (some ⟨7, true⟩), (.q (.len 0 (.t 9)))⟩, ⟨(some 11), (some ⟨7, true⟩), (.q (.bin .lss (.t 8) (.t 10)))⟩, ⟨(some 12), none, (.q (.pick (.t 7) (.t 11) (.c (.bool false))))⟩, ⟨(some 4), none, (.q (.mov (.t 12)))⟩] [4])
  .ret))
theorem fok73 : FOK Tryz.prog 73 (13, ic73, [(.t 4)]) := .mk (pf := []) (an := [(0, [0, 1]), (1, [4])]) (by kernel_rfl) (fnOK_of Tryz.func73 (by kernel_rfl) (by kernel_rfl) (by kernel_rfl))
def ic74 : IC :=
(.seq
 (.reg 0 [⟨(some 1), none, (.box (.t 0))⟩, ⟨(some 2), none, (.alloc [(.str []), (.int .i64 0), (.str []), (.str []), (.int .u8 0), (.str []), .nilslice, .nilslice, .nilslice, .nilslice, .nilslice, .nilslice, .nilslice, .nilslice, .nilslice])⟩] [1, 2])
 (.seq
  (.dreg 1 [⟨(some 7), none, (.q (.faddr 6 (.t 1)))⟩, ⟨(some 8), none, (.q (.load none (.t 7)))⟩, ⟨(some 9), none, (.pcall 139 [(.t 8)])⟩, ⟨(some 10), none, (.q (.faddr 9 (.t 1)))⟩, ⟨(some 11), none, (.q (.load none (.t 10)))⟩, ⟨(some 12), none, (.pcall 139 [(.t 11)])⟩, ⟨(some 13), none, (.q (.faddr 14 (.t 1)))⟩, ⟨(some 14), none, (.q (.load none (.t 13)))⟩, ⟨(some 15), none, (.pcall 140 [(.t 14)])⟩, ⟨(some 16), none, (.q (.faddr 6 (.t 1)))⟩, ⟨none, none, (.store 1 (.t 16) (.t 9))⟩, ⟨(some 17), none, (.q (.faddr 9 (.t 1)))⟩, ⟨none, none, (.store 1 (.t 17) (.t 12))⟩, ⟨(some 18), none, (.q (.faddr 14 (.t 1)))⟩, ⟨none, none, (.store 1 (.t 18) (.t 15))⟩] false [1, 2])
  (.seq
   (.seq
    (.reg 2 [⟨(some 19), none, (.q (.faddr 7 (.t 1)))⟩, ⟨(some 20), none, (.q (.faddr 8 (.t 1)))⟩, ⟨(some 21), none, (.q (.faddr 10 (.t 1)))⟩, ⟨(some 22), none, (.q (.faddr 11 (.t 1)))⟩, ⟨(some 23), none, (.q (.faddr 12 (.t 1)))⟩, ⟨(some 24), none, (.q (.faddr 13 (.t 1)))⟩, ⟨(some 25), none, (.bslt 1 6 [.nilptr] [⟨0, ⟨1, (.t 19)⟩⟩, ⟨1, ⟨1, (.t 20)⟩⟩, ⟨2, ⟨1, (.t 21)⟩⟩, ⟨3, ⟨1, (.t 22)⟩⟩, ⟨4, ⟨1, (.t 23)⟩⟩, ⟨5, ⟨1, (.t 24)⟩⟩])⟩, ⟨(some 26), none, (.q (.len 0 (.t 25)))⟩, ⟨(some 27), none, (.q (.mov (.c (.int .i64 0))))⟩] [1, 2, 25, 26, 27])
    (.block 0
     (.loop
      (.seq
       (.reg 3 [⟨(some 28), none, (.q (.bin .lss (.t 27) (.t 26)))⟩] [1, 2, 25, 26, 27, 28])
       (.seq
        (.cond (.t 28)
         .skip
         (.exit 0))
        (.seq
         (.block 1
          (.seq
           (.reg 4 [⟨(some 29), none, (.q (.iaddr 1 (.t 25) (.t 27)))⟩, ⟨(some 30), none, (.q (.load none (.t 29)))⟩, ⟨(some 4), none, (.q (.mov (.t 30)))⟩] [1, 2, 4, 25, 26, 27])
           (.seq
            (.reg 5 [⟨(some 31), none, (.q (.mov (.t 4)))⟩, ⟨(some 32), none, (.q (.mov (.t 4)))⟩, ⟨(some 33), none, (.q (.nchk (.t 32)))⟩, ⟨(some 34), none, (.q (.load none (.t 33)))⟩, ⟨(some 35), none, (.call 141 [(.t 34)])⟩, ⟨(some 36), none, (.q (.nchk (.t 31)))⟩, ⟨none, none, (.store 1 (.t 36) (.t 35))⟩] [1, 2, 4, 25, 26, 27])
            (.seq
            (.reg 6 [⟨(some 37), none, (.q (.mov (.t 4)))⟩, ⟨(some 38), none, (.q (.nchk (.t 37)))⟩, ⟨(some 39), none, (.q (.load none (.t 38)))⟩, ⟨(some 40), none, (.q (.len 0 (.t 39)))⟩, ⟨(some 41), none, (.q (.mov (.c (.int .i64 0))))⟩] [1, 2, 4, 25, 26, 27, 39, 40, 41])
            (.block 2
            (.loop
            (.seq
            (.reg 7 [⟨(some 42), none, (.q (.bin .lss (.t 41) (.t 40)))⟩] [1, 2, 4, 25, 26, 27, 39, 40, 41, 42])
            (.seq
            (.cond (.t 42)
            .skip
            (.exit 2))
            (.seq
            (.block 3
            (.seq
            (.reg 8 [⟨(some 43), none, (.q (.mov (.t 41)))⟩, ⟨(some 44), none, (.q (.iaddr 7 (.t 39) (.t 41)))⟩, ⟨(some 45), none, (.q (.load (some 7) (.t 44)))⟩, ⟨(some 6), none, (.alloc [(.int .u8 0), (.str []), (.int .u8 0), (.int .i64 0), (.str []), (.str []), .nilslice])⟩, ⟨(some 5), none, (.q (.mov (.t 43)))⟩, ⟨none, none, (.store 7 (.t 6) (.t 45))⟩] [1, 2, 4, 5, 6, 25, 26, 27, 39, 40, 41])
            (.dreg 9 [⟨(some 46), none, (.q (.mov (.t 4)))⟩, ⟨(some 47), none, (.q (.nchk (.t 46)))⟩, ⟨(some 48), none, (.q (.load none (.t 47)))⟩, ⟨(some 49), none, (.q (.mov (.t 5)))⟩, ⟨(some 50), none, (.q (.load (some 7) (.t 6)))⟩, ⟨(some 51), none, (.pcall 142 [(.t 50)])⟩, ⟨(some 52), none, (.q (.iaddr 7 (.t 48) (.t 49)))⟩, ⟨none, none, (.store 7 (.t 52) (.t 51))⟩] false [1, 2, 4, 25, 26, 27, 39, 40, 41])))
            (.reg 10 [⟨(some 53), none, (.q (.bin .add (.t 41) (.c (.int .i64 1))))⟩, ⟨(some 41), none, (.q (.mov (.t 53)))⟩] [1, 2, 4, 25, 26, 27, 39, 40, 41]))))))))))
         (.reg 11 [⟨(some 54), none, (.q (.bin .add (.t 27) (.c (.int .i64 1))))⟩, ⟨(some 27), none, (.q (.mov (.t 54)))⟩] [1, 2, 25, 26, 27])))))))
   (.seq
    (.reg 12 [⟨(some 55), none, (.q (.load (some 15) (.t 1)))⟩, ⟨none, none, (.store 15 (.t 2) (.t 55))⟩] [2])
    .ret))))
theorem fok74 : FOK Tryz.prog 74 (56, ic74, [(.cell (some 15) 2)]) := .mk (pf := ([1000025] ++ List.filter (fun k => k != 141) allF1)) (an := [(0, [1, 2]), (1, [1, 2]), (2, [1, 2, 25, 26, 27]), (3, [1, 2, 25, 26, 27, 28]), (4, [1, 2, 4, 25, 26, 27]), (5, [1, 2, 4, 25, 26, 27]), (6, [1, 2, 4, 25, 26, 27, 39, 40, 41]), (7, [1, 2, 4, 25, 26, 27, 39, 40, 41, 42]), (8, [1, 2, 4, 5, 6, 25, 26, 27, 39, 40, 41]), (9, [1, 2, 4, 25, 26, 27, 39, 40, 41]), (10, [1, 2, 4, 25, 26, 27, 39, 40, 41]), (11, [1, 2, 25, 26, 27]), (12, [2])]) (by kernel_rfl) (fnOK_of Tryz.func74 (by kernel_rfl) (by kernel_rfl) (by kernel_rfl))
def ic75 : IC :=
(.seq
 (.reg 0 [⟨(some 4), none, (.q (.mov (.c (.bool false))))⟩] [0, 1])
 (.seq
  (.reg 1 [⟨(some 5), none, (.q (.mov (.t 0)))⟩, ⟨(some 6), none, (.q (.mov (.t 1)))⟩, ⟨(some 7), none, (.call 143 [(.t 5), (.t 6)])⟩, ⟨(some 8), none, (.q (.bin .geq (.t 7) (.c (.int .i64 0))))⟩, ⟨(some 4), none, (.q (.mov (.t 8)))⟩] [4])
  .ret))
theorem fok75 : FOK Tryz.prog 75 (9, ic75, [(.t 4)]) := .mk (pf := []) (an := [(0, [0, 1]), (1, [4])]) (by kernel_rfl) (fnOK_of Tryz.func75 (by kernel_rfl) (by kernel_rfl) (by kernel_rfl))
def ic84 : IC :=
 (.seq
 (.reg 0 [oM 3 0, oQ 4 (.len 0 3), oM 2 4] [0, 2])
 (.reg 1 [oM 5 0, oM 6 2, oM 7 2, oQ 8 (.conv .u64 7), oK 9 (.call 149 [8]), oK 10 (.call 148 [5, (cI 0), 6, 9])] []))
theorem fok84 : FOK Tryz.prog 84 (11, ic84, []) := fokA [2000000] Tryz.func84 (by kernel_rfl) (by kernel_rfl) (by kernel_rfl) (by kernel_rfl)
def ic89 : IC :=
 (.seq
 (.reg 0 [oK 2 (.boxt 0), oM 3 (cB false)] [1, 2])
 (.seq
 (.reg 1 [oQ 4 (.load (some 5) 2), oQ 5 (.load (some 5) 1), oK 6 (.call 90 [4, 5]), oM 3 6] [3])
 .ret))
theorem fok89 : FOK Tryz.prog 89 (7, ic89, [(.t 3)]) := fokA [1000002, 2000000] Tryz.func89 (by kernel_rfl) (by kernel_rfl) (by kernel_rfl) (by kernel_rfl)
def ic90 : IC :=
 (.seq
 (.reg 0 [oK 2 (.boxt 0), oK 3 (.boxt 1), oM 4 (cB false)] [2, 3])
 (.seq
 (.reg 1 [oQ 5 (.faddr 0 2), oQ 6 (.load none 5), oQ 7 (.faddr 0 3), oQ 8 (.load none 7), oQ 9 (.bin .eql 6 8), oM 10 9, gQ 11 10 true (.load (some 5) 2), gQ 12 10 true (.load (some 5) 3), gK 13 10 true (.call 150 [11, 12]), oQ 14 (.pick 10 13 (cB false)), oM 4 14] [4])
 .ret))
theorem fok90 : FOK Tryz.prog 90 (15, ic90, [(.t 4)]) := fokA [1000002, 1000003, 2000000] Tryz.func90 (by kernel_rfl) (by kernel_rfl) (by kernel_rfl) (by kernel_rfl)
def ic91 : IC :=
 (.seq
 (.reg 0 [oM 4 (cB false)] [0, 1])
 (.seq
 (.reg 1 [oM 5 0, oM 6 1, oK 7 (.call 151 [5, 6]), oQ 8 (.bin .geq 7 (cI 0)), oM 4 8] [4])
 .ret))
theorem fok91 : FOK Tryz.prog 91 (9, ic91, [(.t 4)]) := fokA [2000000] Tryz.func91 (by kernel_rfl) (by kernel_rfl) (by kernel_rfl) (by kernel_rfl)
def ic92 : IC :=
 (.seq
 (.reg 0 [oK 1 (.boxt 0), oK 2 (.alloc [(.str []), (zU 0), (zI 0), (.str []), (.str [])])] [1, 2])
 (.seq
 (.reg 1 [oQ 3 (.faddr 0 1), oQ 4 (.load none 3), oQ 5 (.faddr 1 1), oQ 6 (.load (some 3) 5), oK 7 (.call 152 [4, 6]), oN (.store 5 2 7)] [2])
 .ret))
theorem fok92 : FOK Tryz.prog 92 (8, ic92, [(.cell (some 5) 2)]) := fokA [1000001, 2000000] Tryz.func92 (by kernel_rfl) (by kernel_rfl) (by kernel_rfl) (by kernel_rfl)
def ic106 : IC :=
 (.seq
 (.reg 0 [oK 2 (.boxt 0), oK 3 (.boxt 1), oM 4 (cI 0)] [2, 3])
 (.seq
 (.reg 1 [oQ 5 (.mkf 165 [] [2, 3]), oQ 6 (.mkf 166 [] [2, 3]), oQ 7 (.mkf 168 [] [2, 3]), oK 8 (.bslt 1 3 [.nilfunc] [⟨0, ⟨1, 5⟩⟩, ⟨1, ⟨1, 6⟩⟩, ⟨2, ⟨1, 7⟩⟩]), oK 9 (.call 164 [8]), oM 4 9] [4])
 .ret))
theorem fok106 : FOK Tryz.prog 106 (10, ic106, [(.t 4)]) := fokA [1000002, 1000003, 1000008, 2000000] Tryz.func106 (by kernel_rfl) (by kernel_rfl) (by kernel_rfl) (by kernel_rfl)
def ic123 : IC :=
 (.seq
 (.reg 0 [oM 5 0, oQ 6 (.len 0 5), oM 4 6] [0, 1, 4])
 (.reg 1 [oM 7 0, oM 8 4, oM 9 4, oQ 10 (.conv .u64 9), oK 11 (.call 149 [10]), oM 12 1, oK 13 (.call 192 [7, (cI 0), 8, 11, 12])] []))
theorem fok123 : FOK Tryz.prog 123 (14, ic123, []) := fokA [2000000] Tryz.func123 (by kernel_rfl) (by kernel_rfl) (by kernel_rfl) (by kernel_rfl)
def ic124 : IC :=
 (.seq
 (.reg 0 [oM 2 (cI 0)] [0])
 (.seq
 (.seq
 (.reg 1 [oM 3 0] [3])
 (.block 0
 (.seq
 (.seq
 (.reg 2 [oQ 5 (.bin .eql 3 (.c (zU 7))), oM 4 5] [3, 4])
 (.cond 4
 .skip
 (.reg 3 [oQ 6 (.bin .eql 3 (.c (zU 8))), oM 4 6] [3, 4])))
 (.cond 4
 (.seq
 (.reg 4 [oM 2 (cI 1)] [2])
 .ret)
 (.seq
 (.reg 5 [oQ 8 (.bin .eql 3 (.c (zU 6))), oM 7 8] [7])
 (.cond 7
 (.seq
 (.reg 6 [oM 2 (cI 2)] [2])
 .ret)
 .skip))))))
 (.seq
 (.reg 7 [oM 2 (cI 0)] [2])
 .ret)))
theorem fok124 : FOK Tryz.prog 124 (9, ic124, [(.t 2)]) := fokA [2000000] Tryz.func124 (by kernel_rfl) (by kernel_rfl) (by kernel_rfl) (by kernel_rfl)
def ic125 : IC :=
 (.seq
 (.reg 0 [oK 4 (.alloc [.nilmap, .nilmap])] [0, 1, 4])
 (.seq
 (.reg 1 [oK 17 .mkmap, oK 18 .mkmap, oQ 19 (.bld [.nilmap, .nilmap] [⟨0, ⟨1, 17⟩⟩, ⟨1, ⟨1, 18⟩⟩]), oK 5 (.alloc [.nilmap, .nilmap]), oN (.store 2 5 19)] [0, 1, 4, 5])
 (.seq
 (.seq
 (.reg 2 [oM 20 1, oQ 21 (.len 0 20), oM 22 (cI 0)] [0, 1, 4, 5, 20, 21, 22])
 (.block 0
 (.loop
 (.seq
 (.reg 3 [oQ 23 (.bin .lss 22 21)] [0, 1, 4, 5, 20, 21, 22, 23])
 (.seq
 (.cond 23
 .skip
 (.exit 0))
 (.seq
 (.block 1
 (.seq
 (.reg 4 [oQ 24 (.iaddr 1 20 22), oQ 25 (.load none 24), oM 7 25] [0, 1, 4, 5, 7, 20, 21, 22])
 (.seq
 (.reg 5 [oK 8 (.alloc [(.int .u64 0), (.int .u64 0), (.int .u64 0), (.int .u64 0)])] [0, 1, 4, 5, 7, 8, 20, 21, 22])
 (.seq
 (.seq
 (.reg 6 [oM 26 1, oQ 27 (.len 0 26), oM 28 (cI 0)] [0, 1, 4, 5, 7, 8, 20, 21, 22, 26, 27, 28])
 (.block 2
 (.loop
 (.seq
 (.reg 7 [oQ 29 (.bin .lss 28 27)] [0, 1, 4, 5, 7, 8, 20, 21, 22, 26, 27, 28, 29])
 (.seq
 (.cond 29
 .skip
 (.exit 2))
 (.seq
 (.block 3
 (.seq
 (.reg 8 [oQ 30 (.iaddr 1 26 28), oQ 31 (.load none 30), oM 10 31] [0, 1, 4, 5, 7, 8, 10, 20, 21, 22, 26, 27, 28])
 (.seq
 (.reg 9 [oM 32 0, oM 33 7, oM 34 10, oK 35 (.call 58 [32, 33, 34])] [0, 1, 4, 5, 7, 8, 10, 20, 21, 22, 26, 27, 28, 35])
 (.cond 35
 (.reg 10 [oQ 36 (.load (some 4) 8), oM 37 10, oK 38 (.call 193 [36, 37]), oN (.store 4 8 38)] [0, 1, 4, 5, 7, 8, 20, 21, 22, 26, 27, 28])
 .skip))))
 (.reg 11 [oQ 39 (.bin .add 28 (cI 1)), oM 28 39] [0, 1, 4, 5, 7, 8, 20, 21, 22, 26, 27, 28])))))))
 (.oreg 12 [(0, oQ 40 (.faddr 0 5), 0), (1, oQ 41 (.load none 40), 0), (2, oM 42 7, 0), (3, oQ 43 (.faddr 1 5), 0), (4, oQ 44 (.load none 43), 0), (5, oM 45 7, 0), (6, oQ 46 (.load (some 4) 8), 0), (7, oQ 47 (.load (some 4) 8), 0), (8, oN (.mupd 1 41 42 46), 144), (9, oN (.mupd 1 44 45 47), 0)] [0, 1, 4, 5, 20, 21, 22])))))
 (.reg 13 [oQ 48 (.bin .add 22 (cI 1)), oM 22 48] [0, 1, 4, 5, 20, 21, 22])))))))
 (.seq
 (.seq
 (.reg 14 [oM 11 (cB true)] [1, 4, 5, 11])
 (.block 4
 (.loop
 (.seq
 (.seq
 (.reg 15 [oM 49 11] [1, 4, 5, 49])
 (.cond 49
 .skip
 (.exit 4)))
 (.block 5
 (.seq
 (.reg 16 [oM 11 (cB false)] [1, 4, 5, 11])
 (.seq
 (.reg 17 [oM 50 1, oQ 51 (.len 0 50), oM 52 (cI 0)] [1, 4, 5, 11, 50, 51, 52])
 (.block 6
 (.loop
 (.seq
 (.reg 18 [oQ 53 (.bin .lss 52 51)] [1, 4, 5, 11, 50, 51, 52, 53])
 (.seq
 (.cond 53
 .skip
 (.exit 6))
 (.seq
 (.block 7
 (.seq
 (.reg 19 [oQ 54 (.iaddr 1 50 52), oQ 55 (.load none 54), oM 13 55] [1, 4, 5, 11, 13, 50, 51, 52])
 (.seq
 (.reg 20 [oQ 56 (.faddr 1 5), oQ 57 (.load none 56), oM 58 13, oQ 59 (.lkp 1 (.agg [(.int .u64 0), (.int .u64 0), (.int .u64 0), (.int .u64 0)]) false 57 58), oK 14 (.alloc [(.int .u64 0), (.int .u64 0), (.int .u64 0), (.int .u64 0)]), oN (.store 4 14 59)] [1, 4, 5, 11, 13, 14, 50, 51, 52])
 (.seq
 (.seq
 (.reg 21 [oM 60 1, oQ 61 (.len 0 60), oM 62 (cI 0)] [1, 4, 5, 11, 13, 14, 50, 51, 52, 60, 61, 62])
 (.block 8
 (.loop
 (.seq
 (.reg 22 [oQ 63 (.bin .lss 62 61)] [1, 4, 5, 11, 13, 14, 50, 51, 52, 60, 61, 62, 63])
 (.seq
 (.cond 63
 .skip
 (.exit 8))
 (.seq
 (.block 9
 (.seq
 (.reg 23 [oQ 64 (.iaddr 1 60 62), oQ 65 (.load none 64), oM 16 65] [1, 4, 5, 11, 13, 14, 16, 50, 51, 52, 60, 61, 62])
 (.seq
 (.reg 24 [oQ 66 (.load (some 4) 14), oM 67 16, oK 68 (.call 129 [66, 67])] [1, 4, 5, 11, 13, 14, 16, 50, 51, 52, 60, 61, 62, 68])
 (.cond 68
 (.reg 25 [oQ 69 (.load (some 4) 14), oQ 70 (.faddr 1 5), oQ 71 (.load none 70), oM 72 16, oQ 73 (.lkp 1 (.agg [(.int .u64 0), (.int .u64 0), (.int .u64 0), (.int .u64 0)]) false 71 72), oK 74 (.call 194 [69, 73]), oN (.store 4 14 74)] [1, 4, 5, 11, 13, 14, 50, 51, 52, 60, 61, 62])
 .skip))))
 (.reg 26 [oQ 75 (.bin .add 62 (cI 1)), oM 62 75] [1, 4, 5, 11, 13, 14, 50, 51, 52, 60, 61, 62])))))))
 (.seq
 (.reg 27 [oQ 76 (.load (some 4) 14), oQ 77 (.faddr 1 5), oQ 78 (.load none 77), oM 79 13, oQ 80 (.lkp 1 (.agg [(.int .u64 0), (.int .u64 0), (.int .u64 0), (.int .u64 0)]) false 78 79), oQ 81 (.eqs [1, 1, 1, 1] true true 76 80)] [1, 4, 5, 11, 13, 14, 50, 51, 52, 81])
 (.cond 81
 (.seq
 (.reg 28 [oQ 82 (.faddr 1 5), oQ 83 (.load none 82), oM 84 13, oQ 85 (.load (some 4) 14), oN (.mupd 1 83 84 85)] [1, 4, 5, 50, 51, 52])
 (.reg 29 [oM 11 (cB true)] [1, 4, 5, 11, 50, 51, 52]))
 .skip))))))
 (.reg 30 [oQ 86 (.bin .add 52 (cI 1)), oM 52 86] [1, 4, 5, 11, 50, 51, 52])))))))))))))
 (.seq
 (.reg 31 [oQ 87 (.load (some 2) 5), oN (.store 2 4 87)] [4])
 .ret)))))
theorem fok125 : FOK Tryz.prog 125 (88, ic125, [(.cell (some 2) 4)]) := fokA [2000000] Tryz.func125 (by kernel_rfl) (by kernel_rfl) (by kernel_rfl) (by kernel_rfl)
def ic126 : IC :=
 (.seq
 (.reg 0 [oM 4 (cI 0)] [0, 1])
 (.seq
 (.reg 1 [oM 7 0, oK 8 (.call 195 [7]), oM 5 8] [0, 1, 5])
 (.seq
 (.reg 2 [oM 9 1, oK 10 (.call 195 [9]), oM 6 10] [0, 1, 5, 6])
 (.seq
 (.seq
 (.reg 3 [oM 11 5] [0, 1, 6, 11])
 (.cond 11
 (.seq
 (.seq
 (.reg 4 [oM 12 6] [12])
 (.cond 12
 (.seq
 (.reg 5 [oM 4 (cI 0)] [4])
 .ret)
 .skip))
 (.seq
 (.reg 6 [oM 4 (cI (-1))] [4])
 .ret))
 .skip))
 (.seq
 (.seq
 (.reg 7 [oM 13 6] [0, 1, 13])
 (.cond 13
 (.seq
 (.reg 8 [oM 4 (cI 1)] [4])
 .ret)
 .skip))
 (.seq
 (.seq
 (.reg 9 [oM 14 0, oM 15 1, oQ 16 (.bin .lss 14 15)] [0, 1, 16])
 (.cond 16
 (.seq
 (.reg 10 [oM 4 (cI (-1))] [4])
 .ret)
 .skip))
 (.seq
 (.seq
 (.reg 11 [oM 17 0, oM 18 1, oQ 19 (.bin .gtr 17 18)] [19])
 (.cond 19
 (.seq
 (.reg 12 [oM 4 (cI 1)] [4])
 .ret)
 .skip))
 (.seq
 (.reg 13 [oM 4 (cI 0)] [4])
 .ret))))))))
theorem fok126 : FOK Tryz.prog 126 (20, ic126, [(.t 4)]) := fokA [2000000] Tryz.func126 (by kernel_rfl) (by kernel_rfl) (by kernel_rfl) (by kernel_rfl)
def ic127 : IC :=
 (.seq
 (.reg 0 [oK 3 (.boxt 1), oM 4 (.c .nilslice)] [0, 3])
 (.seq
 (.reg 1 [oM 8 0, oK 9 (.call 197 [8]), oK 10 (.call 196 [9]), oK 5 (.alloc [.nilslice]), oN (.store 1 5 10)] [3, 5])
 (.seq
 (.reg 2 [oM 6 (.c .nilslice)] [3, 5, 6])
 (.seq
 (.block 0
 (.loop
 (.seq
 (.seq
 (.reg 3 [oQ 11 (.load none 5), oQ 12 (.len 0 11), oQ 13 (.bin .gtr 12 (cI 0))] [3, 5, 6, 13])
 (.cond 13
 .skip
 (.exit 0)))
 (.block 1
 (.seq
 (.reg 4 [oQ 14 (.load none 5), oQ 15 (.mkf 198 [] [5, 3]), oK 16 (.call 163 [14, 15]), oM 7 16] [3, 5, 6, 7])
 (.seq
 (.reg 5 [oM 17 7, oQ 18 (.mm true 17 (cI 0)), oM 7 18] [3, 5, 6, 7])
 (.seq
 (.reg 6 [oM 19 6, oQ 20 (.load none 5), oM 21 7, oQ 22 (.iaddr 1 20 21), oQ 23 (.load none 22), oK 24 (.bslt 1 1 [(zI 0)] [⟨0, ⟨1, 23⟩⟩]), oK 25 (.app 1 19 24), oM 6 25] [3, 5, 6, 7])
 (.reg 7 [oQ 26 (.load none 5), oM 27 7, oM 28 7, oQ 29 (.bin .add 28 (cI 1)), oK 30 (.call 200 [26, 27, 29]), oN (.store 1 5 30)] [3, 5, 6]))))))))
 (.seq
 (.reg 8 [oM 31 6, oM 4 31] [4])
 .ret)))))
theorem fok127 : FOK Tryz.prog 127 (32, ic127, [(.t 4)]) := fokA [1000003, 1000024, 2000000] Tryz.func127 (by kernel_rfl) (by kernel_rfl) (by kernel_rfl) (by kernel_rfl)
def ic128 : IC :=
 (.seq
 (.reg 0 [oM 5 (cB false)] [0, 1, 2])
 (.seq
 (.reg 1 [oQ 6 (.faddr 0 2), oQ 7 (.load none 6), oM 8 0, oQ 9 (.lkp 1 (.agg [(.int .u64 0), (.int .u64 0), (.int .u64 0), (.int .u64 0)]) false 7 8), oM 10 1, oK 11 (.call 129 [9, 10]), oM 12 11, gQ 13 12 true (.faddr 1 2), gQ 14 12 true (.load none 13), gQ 15 12 true (.mov 1), gQ 16 12 true (.lkp 1 (.agg [(.int .u64 0), (.int .u64 0), (.int .u64 0), (.int .u64 0)]) false 14 15), gQ 17 12 true (.mov 0), gK 18 12 true (.call 129 [16, 17]), gQ 19 12 true (.not 18), oQ 20 (.pick 12 19 (cB false)), oM 5 20] [5])
 .ret))
theorem fok128 : FOK Tryz.prog 128 (21, ic128, [(.t 5)]) := fokA [2000000] Tryz.func128 (by kernel_rfl) (by kernel_rfl) (by kernel_rfl) (by kernel_rfl)
def ic129 : IC :=
 (.seq
 (.reg 0 [oK 2 (.boxt 0), oM 4 (cB false)] [1, 2])
 (.seq
 (.reg 1 [oM 5 1, oQ 6 (.bin .quo 5 (cI 64)), oQ 7 (.aaddr 4 1 2 6), oQ 8 (.load none 7), oM 9 1, oQ 10 (.bin .rem 9 (cI 64)), oQ 11 (.bin .shr 8 10), oQ 12 (.bin .and 11 (.c (.int .u64 1))), oQ 13 (.bin .eql 12 (.c (.int .u64 1))), oM 4 13] [4])
 .ret))
theorem fok129 : FOK Tryz.prog 129 (14, ic129, [(.t 4)]) := fokA [1000002, 2000000] Tryz.func129 (by kernel_rfl) (by kernel_rfl) (by kernel_rfl) (by kernel_rfl)
def ic130 : IC :=
 (.seq
 (.reg 0 [oM 5 (cB false)] [0, 1, 2])
 (.seq
 (.reg 1 [oQ 6 (.faddr 0 2), oQ 7 (.load none 6), oM 8 1, oQ 9 (.lkp 1 (.agg [(.int .u64 0), (.int .u64 0), (.int .u64 0), (.int .u64 0)]) false 7 8), oM 10 0, oK 11 (.call 129 [9, 10]), oM 12 11, gQ 13 12 true (.faddr 1 2), gQ 14 12 true (.load none 13), gQ 15 12 true (.mov 0), gQ 16 12 true (.lkp 1 (.agg [(.int .u64 0), (.int .u64 0), (.int .u64 0), (.int .u64 0)]) false 14 15), gQ 17 12 true (.mov 1), gK 18 12 true (.call 129 [16, 17]), gQ 19 12 true (.not 18), oQ 20 (.pick 12 19 (cB false)), oM 5 20] [5])
 .ret))
theorem fok130 : FOK Tryz.prog 130 (21, ic130, [(.t 5)]) := fokA [2000000] Tryz.func130 (by kernel_rfl) (by kernel_rfl) (by kernel_rfl) (by kernel_rfl)
def ic131 : IC :=
 (.seq
 (.reg 0 [oK 2 (.boxt 0), oK 3 (.boxt 1), oM 4 (cB false)] [2, 3])
 (.seq
 (.reg 1 [oQ 5 (.faddr 7 2), oQ 6 (.load none 5), oQ 7 (.mkf 201 [] [3]), oK 8 (.call 181 [6, 7]), oM 4 8] [4])
 .ret))
theorem fok131 : FOK Tryz.prog 131 (9, ic131, [(.t 4)]) := fokA [1000002, 1000003, 2000000] Tryz.func131 (by kernel_rfl) (by kernel_rfl) (by kernel_rfl) (by kernel_rfl)
def ic132 : IC :=
 (.seq
 (.reg 0 [oM 4 (cB false)] [0, 1])
 (.seq
 (.seq
 (.reg 1 [oM 6 0, oQ 7 (.len 0 6), oM 8 1, oQ 9 (.len 0 8), oQ 10 (.bin .neq 7 9)] [0, 1, 10])
 (.cond 10
 (.seq
 (.reg 2 [oM 4 (cB false)] [4])
 .ret)
 .skip))
 (.seq
 (.seq
 (.reg 3 [oM 5 (cI 0)] [0, 1, 5])
 (.block 0
 (.loop
 (.seq
 (.seq
 (.reg 4 [oM 11 5, oM 12 0, oQ 13 (.len 0 12), oQ 14 (.bin .lss 11 13)] [0, 1, 5, 14])
 (.cond 14
 .skip
 (.exit 0)))
 (.seq
 (.block 1
 (.seq
 (.dreg 6 [oM 17 0, oM 18 5, oQ 19 (.iaddr 2 17 18), oQ 20 (.load (some 2) 19), oM 21 1, oM 22 5, oQ 23 (.iaddr 2 21 22), oQ 24 (.load (some 2) 23), oQ 25 (.eqs [1, 1] true true 20 24)] false [0, 1, 5, 25])
 (.cond 25
 (.seq
 (.reg 7 [oM 4 (cB false)] [4])
 .ret)
 .skip)))
 (.reg 5 [oM 15 5, oQ 16 (.bin .add 15 (cI 1)), oM 5 16] [0, 1, 5]))))))
 (.seq
 (.reg 8 [oM 4 (cB true)] [4])
 .ret))))
theorem fok132 : FOK Tryz.prog 132 (26, ic132, [(.t 4)]) := fokA [2000000] Tryz.func132 (by kernel_rfl) (by kernel_rfl) (by kernel_rfl) (by kernel_rfl)
end Go.Id.Tryz
