/- The compiled codes of functions, written by a program out of the given form. Conditions: none. -/
import Derived.Test.YtgdmgomjhlohkaaGreatDoorFwW
import Derived.Test.YtgdmgomjhlohkaaGreatDoorProg
set_option linter.all false
namespace Go.Id.Tryz
open Go Go.Id Go.Proofs
def allF0 : List Nat := List.range 352
def ic4 : IC :=
 (.seq
 (.reg 0 [oM 0 (cB false)] [])
 (.seq
 (.reg 1 [oK 23 (.call 13 [(.c .nilptr), (cI 9)]), oM 22 23, oQ 24 (.ext 0 22), oQ 25 (.ext 1 22), oQ 26 (.ext 2 22), oM 1 24, oM 2 25, oM 3 26] [2, 3])
 (.seq
 (.seq
 (.reg 2 [oM 27 3, oQ 28 (.bin .neq 27 (cI 2)), oM 29 28, gQ 30 29 false (.mov 2), gQ 31 29 false (.bin .neq 30 (cI 0)), oQ 32 (.pick 29 (cB true) 31), oM 33 32, gK 34 33 false (.call 14 [(.c .nilptr)]), gQ 35 33 false (.bin .neq 34 (cI 0)), oQ 36 (.pick 33 (cB true) 35)] [36])
 (.cond 36
 (.seq
 (.reg 3 [oM 0 (cB false)] [0])
 .ret)
 .skip))
 (.seq
 (.reg 4 [oK 37 (.call 15 [(.c (.str [97]))]), oK 38 (.call 15 [(.c (.str [98]))]), oK 4 (.alloc [(.str []), (zI 0), (.str []), (.str []), (zU 0), (.str []), .nilslice, .nilslice, .nilslice, .nilslice, .nilslice, .nilslice, .nilslice, .nilslice, .nilslice]), oK 5 (.alloc [(.str []), (zI 0), (.str []), (.str []), (zU 0), (.str []), .nilslice, .nilslice, .nilslice, .nilslice, .nilslice, .nilslice, .nilslice, .nilslice, .nilslice]), oN (.store 15 4 37), oN (.store 15 5 38)] [4, 5])
 (.seq
 (.reg 5 [oK 39 (.call 16 [(.c (.str [120]))]), oK 40 (.bslt 7 1 [(zU 0), (.str []), (zU 0), (zI 0), (.str []), (.str []), .nilslice] [⟨0, ⟨7, 39⟩⟩]), oK 41 (.call 16 [(.c (.str [99]))]), oK 42 (.bslt 7 1 [(zU 0), (.str []), (zU 0), (zI 0), (.str []), (.str []), .nilslice] [⟨0, ⟨7, 41⟩⟩]), oQ 43 (.faddr 7 4), oN (.store 1 43 40), oQ 44 (.faddr 8 5), oN (.store 1 44 42)] [4, 5])
 (.seq
 (.oreg 6 [(4, oQ 50 (.load (some 15) 4), 0), (5, oQ 51 (.load (some 15) 5), 0), (6, oK 52 (.bslt 15 2 [(.str []), (zI 0), (.str []), (.str []), (zU 0), (.str []), .nilslice, .nilslice, .nilslice, .nilslice, .nilslice, .nilslice, .nilslice, .nilslice, .nilslice] [⟨0, ⟨15, 50⟩⟩, ⟨15, ⟨15, 51⟩⟩]), 0), (7, oQ 53 (.bld [(.str []), (zU 0), (zI 0), (.str []), (.str [])] [⟨0, ⟨1, (.c (.str [99]))⟩⟩]), 0), (8, oQ 54 (.bld [(zU 0), (.str []), (zU 0), (zI 0), (.str []), (.str [])] [⟨0, ⟨1, (.c (zU 1))⟩⟩, ⟨1, ⟨5, 53⟩⟩]), 0), (9, oK 55 (.bslt 6 1 [(zU 0), (.str []), (zU 0), (zI 0), (.str []), (.str [])] [⟨0, ⟨6, 54⟩⟩]), 0), (10, oQ 56 (.bld [(zU 0), (.bool false), .nilslice, .nilslice, (zI 0)] [⟨0, ⟨1, (.c (zU 2))⟩⟩, ⟨2, ⟨1, 55⟩⟩]), 0), (0, oK 46 (.call 15 [(.c (.str [99]))]), 48), (1, oK 47 (.bslt 15 1 [(.str []), (zI 0), (.str []), (.str []), (zU 0), (.str []), .nilslice, .nilslice, .nilslice, .nilslice, .nilslice, .nilslice, .nilslice, .nilslice, .nilslice] [⟨0, ⟨15, 46⟩⟩]), 0), (2, oQ 48 (.bld [(zI 0), .nilslice] [⟨1, ⟨1, 47⟩⟩]), 0), (3, oK 49 (.bslt 2 1 [(zI 0), .nilslice] [⟨0, ⟨2, 48⟩⟩]), 0), (11, oK 57 (.call 17 [49, 52, 56]), 0), (12, oM 45 57, 0), (13, oQ 58 (.ext 0 45), 0), (14, oQ 59 (.ext 1 45), 0), (15, oQ 60 (.ext 2 45), 0), (16, oQ 61 (.ext 3 45), 0), (17, oM 6 58, 0), (18, oM 7 59, 0), (19, oM 8 60, 0), (20, oM 9 61, 0)] [6, 9])
 (.seq
 (.seq
 (.reg 7 [oM 62 9, oQ 63 (.not 62)] [6, 63])
 (.cond 63
 (.seq
 (.reg 8 [oM 0 (cB false)] [0])
 .ret)
 .skip))
 (.seq
 (.reg 9 [oM 65 6, oK 66 (.call 13 [65, (cI 1099511627776)]), oM 64 66, oQ 67 (.ext 0 64), oQ 68 (.ext 1 64), oQ 69 (.ext 2 64), oM 10 67, oM 11 68, oM 12 69] [6, 10, 12])
 (.seq
 (.reg 10 [oM 71 6, oK 72 (.call 13 [71, (cI 0)]), oM 70 72, oQ 73 (.ext 0 70), oQ 74 (.ext 1 70), oQ 75 (.ext 2 70), oM 13 73, oM 14 74, oM 15 75] [6, 10, 12, 15])
 (.seq
 (.reg 11 [oM 77 6, oK 78 (.call 13 [77, (cI (-1))]), oM 76 78, oQ 79 (.ext 0 76), oQ 80 (.ext 1 76), oQ 81 (.ext 2 76), oM 16 79, oM 17 80, oM 18 81] [6, 10, 12, 15, 18])
 (.seq
 (.reg 12 [oM 83 6, oK 84 (.call 13 [83, (cI 1099511627777)]), oM 82 84, oQ 85 (.ext 0 82), oQ 86 (.ext 1 82), oQ 87 (.ext 2 82), oM 19 85, oM 20 86, oM 21 87] [10, 12, 15, 18, 21])
 (.seq
 (.seq
 (.reg 13 [oM 88 12, oQ 89 (.bin .neq 88 (cI 0)), oM 90 89, gQ 91 90 false (.mov 15), gQ 92 90 false (.bin .neq 91 (cI 44)), oQ 93 (.pick 90 (cB true) 92), oM 94 93, gQ 95 94 false (.mov 18), gQ 96 94 false (.bin .neq 95 (cI 1)), oQ 97 (.pick 94 (cB true) 96), oM 98 97, gQ 99 98 false (.mov 21), gQ 100 98 false (.bin .neq 99 (cI 1)), oQ 101 (.pick 98 (cB true) 100), oM 102 101, gQ 103 102 false (.mov 10), gQ 104 102 false (.len 0 103), gQ 105 102 false (.bin .neq 104 (cI 2)), oQ 106 (.pick 102 (cB true) 105)] [10, 106])
 (.cond 106
 (.seq
 (.reg 14 [oM 0 (cB false)] [0])
 .ret)
 .skip))
 (.seq
 (.reg 15 [oM 107 10, oQ 108 (.iaddr 1 107 (cI 0)), oQ 109 (.load none 108), oQ 110 (.bld [(zU 0), (zI 0), (zI 0)] [⟨0, ⟨1, (.c (zU 3))⟩⟩, ⟨1, ⟨1, (cI 1)⟩⟩]), oQ 111 (.bld [(zU 0), (zI 0), (zI 0)] [⟨0, ⟨1, (.c (zU 6))⟩⟩, ⟨1, ⟨1, (cI 1)⟩⟩]), oQ 112 (.bld [(zU 0), (zI 0), (zI 0)] [⟨0, ⟨1, (.c (zU 7))⟩⟩]), oK 113 (.bslt 3 3 [(zU 0), (zI 0), (zI 0)] [⟨0, ⟨3, 110⟩⟩, ⟨3, ⟨3, 111⟩⟩, ⟨6, ⟨3, 112⟩⟩]), oK 114 (.call 18 [109, 113]), oM 115 114, gQ 116 115 true (.mov 10), gQ 117 115 true (.iaddr 1 116 (cI 1)), gQ 118 115 true (.load none 117), gQ 119 115 true (.bld [(zU 0), (zI 0), (zI 0)] [⟨0, ⟨1, (.c (zU 2))⟩⟩]), gQ 120 115 true (.bld [(zU 0), (zI 0), (zI 0)] [⟨0, ⟨1, (.c (zU 6))⟩⟩]), gK 121 115 true (.bslt 3 2 [(zU 0), (zI 0), (zI 0)] [⟨0, ⟨3, 119⟩⟩, ⟨3, ⟨3, 120⟩⟩]), gK 122 115 true (.call 18 [118, 121]), oQ 123 (.pick 115 122 (cB false)), oM 124 123, gK 125 124 true (.call 19 []), oQ 126 (.pick 124 125 (cB false)), oM 0 126] [0])
 .ret)))))))))))))
theorem fok4 : FOK Tryz.prog 4 (127, ic4, [(.t 0)]) := fokA [1000040, 1000042, 1000047, 1000049, 1000052, 1000055, 1000113, 1000121, 2000000] Tryz.func4 (by kernel_rfl) (by kernel_rfl) (by kernel_rfl) (by kernel_rfl)
def ic13 : IC :=
 (.seq
 (.reg 0 [oK 4 (.alloc [.nilslice]), oM 5 (cI 0), oM 6 (cI 0)] [0, 1, 4, 5])
 (.seq
 (.block 0
 (.seq
 (.reg 1 [oM 15 0, oQ 16 (.isnil (.pointer 167) false 15), oM 14 16] [0, 1, 4, 5, 14])
 (.cond 14
 (.seq
 (.reg 2 [oN (.store 1 4 (.c .nilslice)), oM 5 (cI 0), oM 6 (cI 2)] [4, 5, 6])
 .ret)
 (.seq
 (.reg 3 [oM 18 1, oQ 19 (.bin .lss 18 (cI 0)), oM 20 19, gQ 21 20 false (.mov 1), gQ 22 20 false (.bin .gtr 21 (cI 1099511627776)), oQ 23 (.pick 20 (cB true) 22), oM 17 23] [0, 1, 4, 5, 17])
 (.cond 17
 (.seq
 (.reg 4 [oN (.store 1 4 (.c .nilslice)), oM 5 (cI 0), oM 6 (cI 1)] [4, 5, 6])
 .ret)
 .skip)))))
 (.seq
 (.reg 5 [oM 25 0, oK 26 (.call 26 [25]), oM 24 26, oQ 27 (.ext 0 24), oQ 28 (.ext 1 24), oM 7 27, oM 6 28] [1, 4, 5, 6, 7])
 (.seq
 (.seq
 (.reg 6 [oM 29 6, oQ 30 (.bin .neq 29 (cI 0))] [1, 4, 5, 6, 7, 30])
 (.cond 30
 (.seq
 (.reg 7 [oM 31 6, oN (.store 1 4 (.c .nilslice)), oM 5 (cI 0), oM 6 31] [4, 5, 6])
 .ret)
 .skip))
 (.seq
 (.reg 8 [oM 32 7, oM 33 7, oK 34 (.call 34 [33]), oM 35 1, oQ 36 (.bld [.nilptr, .nilslice, .nilslice, (zI 0), (zI 0)] [⟨0, ⟨1, 32⟩⟩, ⟨1, ⟨1, 34⟩⟩, ⟨3, ⟨1, 35⟩⟩]), oK 37 (.box 36), oK 8 (.alloc [.nilptr]), oN (.store 1 8 37)] [1, 4, 5, 6, 8])
 (.seq
 (.seq
 (.reg 9 [oQ 38 (.load none 8), oQ 39 (.nchk 38), oQ 40 (.faddr 1 39), oQ 41 (.load none 40), oQ 42 (.len 0 41), oM 43 (cI 0)] [1, 4, 5, 6, 8, 42, 43])
 (.block 1
 (.loop
 (.seq
 (.reg 10 [oQ 44 (.bin .lss 43 42)] [1, 4, 5, 6, 8, 42, 43, 44])
 (.seq
 (.cond 44
 .skip
 (.exit 1))
 (.seq
 (.block 2
 (.seq
 (.reg 11 [oM 45 43, oM 9 45] [1, 4, 5, 6, 8, 9, 42, 43])
 (.oreg 12 [(0, oQ 46 (.load none 8), 0), (1, oQ 47 (.load none 8), 0), (2, oQ 48 (.nchk 47), 0), (3, oQ 49 (.faddr 2 48), 0), (4, oQ 50 (.load none 49), 0), (5, oM 51 9, 0), (6, oK 52 (.bslt 1 1 [(zI 0)] [⟨0, ⟨1, 51⟩⟩]), 0), (7, oK 53 (.app 1 50 52), 1), (8, oQ 54 (.nchk 46), 0), (9, oQ 55 (.faddr 2 54), 0), (10, oN (.store 1 55 53), 0)] [1, 4, 5, 6, 8, 42, 43])))
 (.reg 13 [oQ 56 (.bin .add 43 (cI 1)), oM 43 56] [1, 4, 5, 6, 8, 42, 43])))))))
 (.seq
 (.seq
 (.reg 14 [oQ 57 (.load none 8), oK 58 (.call 35 [57])] [1, 4, 5, 6, 8, 58])
 (.block 3
 (.rfunc 58 [59]
 (.reg 15 [oM 10 59] [4, 8, 10])
 (.block 4
 (.seq
 (.reg 16 [oM 11 (.c .nilslice)] [4, 8, 10, 11])
 (.seq
 (.seq
 (.reg 17 [oM 60 10, oQ 61 (.len 0 60), oM 62 (cI 0)] [4, 8, 11, 60, 61, 62])
 (.block 5
 (.loop
 (.seq
 (.reg 18 [oQ 63 (.bin .lss 62 61)] [4, 8, 11, 60, 61, 62, 63])
 (.seq
 (.cond 63
 .skip
 (.exit 5))
 (.seq
 (.block 6
 (.seq
 (.reg 19 [oQ 64 (.iaddr 1 60 62), oQ 65 (.load none 64), oM 13 65] [4, 8, 11, 13, 60, 61, 62])
 (.reg 20 [oM 66 11, oQ 67 (.load none 8), oQ 68 (.nchk 67), oQ 69 (.faddr 1 68), oQ 70 (.load none 69), oM 71 13, oQ 72 (.iaddr 3 70 71), oQ 73 (.load (some 3) 72), oK 74 (.bslt 3 1 [(zU 0), (zI 0), (zI 0)] [⟨0, ⟨3, 73⟩⟩]), oK 75 (.app 3 66 74), oM 11 75] [4, 8, 11, 60, 61, 62])))
 (.reg 21 [oQ 76 (.bin .add 62 (cI 1)), oM 62 76] [4, 8, 11, 60, 61, 62])))))))
 (.reg 22 [oQ 77 (.load none 4), oM 78 11, oK 79 (.bslt 1 1 [.nilslice] [⟨0, ⟨1, 78⟩⟩]), oK 80 (.app 1 77 79), oN (.store 1 4 80)] [])))))))
 (.seq
 (.block 7
 (.seq
 (.reg 23 [oQ 82 (.load none 8), oQ 83 (.nchk 82), oQ 84 (.faddr 4 83), oQ 85 (.load none 84), oQ 86 (.bin .neq 85 (cI 5)), oM 81 86] [1, 4, 8, 81])
 (.cond 81
 (.seq
 (.oreg 24 [(0, oQ 87 (.load none 8), 0), (1, oQ 88 (.nchk 87), 0), (2, oQ 89 (.faddr 4 88), 0), (3, oQ 90 (.load none 89), 0), (4, oN (.store 1 4 (.c .nilslice)), 9), (5, oM 5 (cI 0), 0), (6, oM 6 90, 0)] [4, 5, 6])
 .ret)
 (.seq
 (.reg 25 [oQ 92 (.load none 4), oQ 93 (.len 0 92), oQ 94 (.bin .eql 93 (cI 0)), oM 91 94] [1, 4, 8, 91])
 (.cond 91
 (.seq
 (.oreg 26 [(0, oM 95 1, 0), (1, oQ 96 (.load none 8), 0), (2, oQ 97 (.nchk 96), 0), (3, oQ 98 (.faddr 3 97), 0), (4, oQ 99 (.load none 98), 0), (5, oQ 100 (.bin .sub 95 99), 0), (6, oN (.store 1 4 (.c .nilslice)), 18), (7, oM 5 100, 0), (8, oM 6 (cI 5), 0)] [4, 5, 6])
 .ret)
 .skip)))))
 (.seq
 (.oreg 27 [(0, oQ 101 (.load none 4), 0), (1, oM 102 1, 0), (2, oQ 103 (.load none 8), 0), (3, oQ 104 (.nchk 103), 0), (4, oQ 105 (.faddr 3 104), 0), (5, oQ 106 (.load none 105), 0), (6, oQ 107 (.bin .sub 102 106), 0), (7, oN (.store 1 4 101), 36), (8, oM 5 107, 0), (9, oM 6 (cI 0), 0)] [4, 5, 6])
 .ret)))))))))
theorem fok13 : FOK Tryz.prog 13 (108, ic13, [(.cell none 4), (.t 5), (.t 6)]) := fokA [1000052, 1000074, 1000079, 2000000] Tryz.func13 (by kernel_rfl) (by kernel_rfl) (by kernel_rfl) (by kernel_rfl)
def ic14 : IC :=
 (.seq
 (.reg 0 [oM 2 (cI 0)] [0])
 (.seq
 (.reg 1 [oM 8 0, oK 9 (.call 26 [8]), oM 7 9, oQ 10 (.ext 0 7), oQ 11 (.ext 1 7), oM 3 10, oM 4 11] [3, 4])
 (.seq
 (.seq
 (.reg 2 [oM 12 4, oQ 13 (.bin .neq 12 (cI 0))] [3, 13])
 (.cond 13
 (.seq
 (.reg 3 [oM 2 (cI 0)] [2])
 .ret)
 .skip))
 (.seq
 (.reg 4 [oM 14 3, oK 15 (.call 34 [14]), oQ 16 (.len 0 15), oM 5 16] [3, 5])
 (.seq
 (.reg 5 [oM 17 5, oM 18 3, oK 19 (.call 28 [18]), oK 20 (.call 36 [17, 19]), oM 6 20] [5, 6])
 (.seq
 (.seq
 (.reg 6 [oM 21 5, oQ 22 (.bin .add 21 (cI 1)), oM 23 6, oQ 24 (.bin .quo (cI 1099511627776) 23), oQ 25 (.bin .gtr 22 24)] [5, 6, 25])
 (.cond 25
 (.seq
 (.reg 7 [oM 2 (cI 1099511627776)] [2])
 .ret)
 .skip))
 (.seq
 (.reg 8 [oM 26 5, oQ 27 (.bin .add 26 (cI 1)), oM 28 6, oQ 29 (.bin .mul 27 28), oM 2 29] [2])
 .ret)))))))
theorem fok14 : FOK Tryz.prog 14 (30, ic14, [(.t 2)]) := fokA [2000000] Tryz.func14 (by kernel_rfl) (by kernel_rfl) (by kernel_rfl) (by kernel_rfl)
def ic15 : IC :=
 (.seq
 (.reg 0 [oK 2 (.alloc [(.str []), (zI 0), (.str []), (.str []), (zU 0), (.str []), .nilslice, .nilslice, .nilslice, .nilslice, .nilslice, .nilslice, .nilslice, .nilslice, .nilslice])] [0, 2])
 (.seq
 (.reg 1 [oM 3 0, oQ 4 (.bld [(zI 0), (.str []), (.str [])] [⟨1, ⟨1, (.c (.str [49]))⟩⟩, ⟨2, ⟨1, (.c (.str [49]))⟩⟩]), oQ 5 (.bld [(.str []), (zI 0), (.str []), (.str []), (zU 0), (.str []), .nilslice, .nilslice, .nilslice, .nilslice, .nilslice, .nilslice, .nilslice, .nilslice, .nilslice] [⟨0, ⟨1, 3⟩⟩, ⟨1, ⟨3, 4⟩⟩, ⟨4, ⟨1, (.c (zU 1))⟩⟩]), oN (.store 15 2 5)] [2])
 .ret))
theorem fok15 : FOK Tryz.prog 15 (6, ic15, [(.cell (some 15) 2)]) := fokA [2000000] Tryz.func15 (by kernel_rfl) (by kernel_rfl) (by kernel_rfl) (by kernel_rfl)
def ic16 : IC :=
 (.seq
 (.reg 0 [oK 2 (.alloc [(zU 0), (.str []), (zU 0), (zI 0), (.str []), (.str []), .nilslice])] [0, 2])
 (.seq
 (.reg 1 [oM 3 0, oQ 4 (.bld [(.str []), (zU 0), (zI 0), (.str []), (.str [])] [⟨0, ⟨1, 3⟩⟩]), oQ 5 (.bld [(zU 0), (.str []), (zU 0), (zI 0), (.str []), (.str []), .nilslice] [⟨0, ⟨1, (.c (zU 1))⟩⟩, ⟨1, ⟨5, 4⟩⟩]), oN (.store 7 2 5)] [2])
 .ret))
theorem fok16 : FOK Tryz.prog 16 (6, ic16, [(.cell (some 7) 2)]) := fokA [2000000] Tryz.func16 (by kernel_rfl) (by kernel_rfl) (by kernel_rfl) (by kernel_rfl)
def ic17 : IC :=
 (.seq
 (.reg 0 [oK 5 (.boxt 2), oM 6 (.c .nilptr), oM 7 (.c .nilptr), oM 8 (.c .nilptr), oM 9 (cB false)] [0, 1, 5])
 (.seq
 (.reg 1 [oM 17 0, oM 18 1, oK 19 (.call 32 [17, 18]), oM 16 19, oQ 20 (.ext 0 16), oQ 21 (.ext 1 16), oM 10 20, oM 11 21] [0, 1, 5, 10, 11])
 (.seq
 (.seq
 (.reg 2 [oM 22 11, oQ 23 (.bin .neq 22 (cI 0))] [0, 1, 5, 10, 23])
 (.cond 23
 (.seq
 (.reg 3 [oM 6 (.c .nilptr), oM 7 (.c .nilptr), oM 8 (.c .nilptr), oM 9 (cB false)] [6, 7, 8, 9])
 .ret)
 .skip))
 (.seq
 (.reg 4 [oM 25 10, oQ 26 (.load (some 5) 5), oK 27 (.call 33 [25, 26]), oM 24 27, oQ 28 (.ext 0 24), oQ 29 (.ext 1 24), oM 12 28, oM 11 29] [0, 1, 5, 11, 12])
 (.seq
 (.oreg 5 [(0, oM 31 0, 0), (1, oM 32 1, 0), (3, oM 34 1, 0), (4, oQ 35 (.len 0 34), 0), (5, oQ 36 (.load (some 5) 5), 0), (2, oK 33 (.call 38 [31, 32]), 32), (6, oK 37 (.call 37 [33, 35, 36]), 0), (7, oM 30 37, 0), (8, oQ 38 (.ext 0 30), 0), (9, oQ 39 (.ext 1 30), 0), (10, oM 13 38, 0), (11, oM 14 39, 0)] [11, 12, 13, 14])
 (.seq
 (.seq
 (.reg 6 [oM 40 11, oQ 41 (.bin .neq 40 (cI 0)), oM 42 41, gQ 43 42 false (.mov 14), gQ 44 42 false (.bin .neq 43 (cI 0)), oQ 45 (.pick 42 (cB true) 44)] [12, 13, 45])
 (.cond 45
 (.seq
 (.reg 7 [oM 6 (.c .nilptr), oM 7 (.c .nilptr), oM 8 (.c .nilptr), oM 9 (cB false)] [6, 7, 8, 9])
 .ret)
 .skip))
 (.seq
 (.reg 8 [oM 47 12, oK 48 (.call 20 [47]), oM 46 48, oQ 49 (.ext 0 46), oQ 50 (.ext 1 46), oM 15 49, oM 11 50] [11, 12, 13, 15])
 (.seq
 (.reg 9 [oM 51 12, oM 52 15, oM 53 13, oM 54 11, oQ 55 (.bin .eql 54 (cI 0)), oM 6 51, oM 7 52, oM 8 53, oM 9 55] [6, 7, 8, 9])
 .ret))))))))
theorem fok17 : FOK Tryz.prog 17 (56, ic17, [(.t 6), (.t 7), (.t 8), (.t 9)]) := fokA [1000005, 2000000] Tryz.func17 (by kernel_rfl) (by kernel_rfl) (by kernel_rfl) (by kernel_rfl)
def ic18 : IC :=
 (.seq
 (.reg 0 [oM 4 (cB false)] [0, 1])
 (.seq
 (.seq
 (.reg 1 [oM 6 0, oQ 7 (.len 0 6), oM 8 1, oQ 9 (.len 0 8), oQ 10 (.bin .neq 7 9)] [0, 1, 10])
 (.cond 10
 (.seq
 (.reg 2 [oM 4 (cB false)] [4])
 .ret)
 .skip))
 (.seq
 (.seq
 (.reg 3 [oM 5 (cI 0)] [0, 1, 5])
 (.block 0
 (.loop
 (.seq
 (.seq
 (.reg 4 [oM 11 5, oM 12 0, oQ 13 (.len 0 12), oQ 14 (.bin .lss 11 13)] [0, 1, 5, 14])
 (.cond 14
 .skip
 (.exit 0)))
 (.seq
 (.block 1
 (.seq
 (.dreg 6 [oM 17 0, oM 18 5, oQ 19 (.iaddr 3 17 18), oQ 20 (.load (some 3) 19), oM 21 1, oM 22 5, oQ 23 (.iaddr 3 21 22), oQ 24 (.load (some 3) 23), oQ 25 (.eqs [1, 1, 1] true true 20 24)] false [0, 1, 5, 25])
 (.cond 25
 (.seq
 (.reg 7 [oM 4 (cB false)] [4])
 .ret)
 .skip)))
 (.reg 5 [oM 15 5, oQ 16 (.bin .add 15 (cI 1)), oM 5 16] [0, 1, 5]))))))
 (.seq
 (.reg 8 [oM 4 (cB true)] [4])
 .ret))))
theorem fok18 : FOK Tryz.prog 18 (26, ic18, [(.t 4)]) := fokA [2000000] Tryz.func18 (by kernel_rfl) (by kernel_rfl) (by kernel_rfl) (by kernel_rfl)
def ic19 : IC :=
 (.seq
 (.reg 0 [oM 0 (cB false)] [])
 (.seq
 (.reg 1 [oK 23 (.call 15 [(.c (.str [97]))]), oK 1 (.alloc [(.str []), (zI 0), (.str []), (.str []), (zU 0), (.str []), .nilslice, .nilslice, .nilslice, .nilslice, .nilslice, .nilslice, .nilslice, .nilslice, .nilslice]), oN (.store 15 1 23)] [1])
 (.seq
 (.reg 2 [oK 24 (.call 16 [(.c (.str [120]))]), oK 25 (.bslt 7 1 [(zU 0), (.str []), (zU 0), (zI 0), (.str []), (.str []), .nilslice] [⟨0, ⟨7, 24⟩⟩]), oQ 26 (.faddr 7 1), oN (.store 1 26 25)] [1])
 (.seq
 (.reg 3 [oQ 28 (.load (some 15) 1), oK 29 (.bslt 15 1 [(.str []), (zI 0), (.str []), (.str []), (zU 0), (.str []), .nilslice, .nilslice, .nilslice, .nilslice, .nilslice, .nilslice, .nilslice, .nilslice, .nilslice] [⟨0, ⟨15, 28⟩⟩]), oQ 30 (.bld [(zU 0), (.bool false), .nilslice, .nilslice, (zI 0)] [⟨0, ⟨1, (.c (zU 2))⟩⟩]), oK 31 (.call 17 [(.c .nilslice), 29, 30]), oM 27 31, oQ 32 (.ext 0 27), oQ 33 (.ext 1 27), oQ 34 (.ext 2 27), oQ 35 (.ext 3 27), oM 2 32, oM 3 33, oM 4 34, oM 5 35] [2, 5])
 (.seq
 (.reg 4 [oQ 37 (.bld [(.str []), (zU 0), (zI 0), (.str []), (.str [])] [⟨0, ⟨1, (.c (.str [99]))⟩⟩]), oQ 38 (.bld [(zU 0), (.str []), (zU 0), (zI 0), (.str []), (.str [])] [⟨0, ⟨1, (.c (zU 1))⟩⟩, ⟨1, ⟨5, 37⟩⟩]), oQ 39 (.bld [(.str []), (zU 0), (zI 0), (.str []), (.str [])] [⟨0, ⟨1, (.c (.str [100]))⟩⟩]), oQ 40 (.bld [(zU 0), (.str []), (zU 0), (zI 0), (.str []), (.str [])] [⟨0, ⟨1, (.c (zU 1))⟩⟩, ⟨1, ⟨5, 39⟩⟩]), oK 41 (.bslt 6 2 [(zU 0), (.str []), (zU 0), (zI 0), (.str []), (.str [])] [⟨0, ⟨6, 38⟩⟩, ⟨6, ⟨6, 40⟩⟩]), oQ 42 (.bld [(zU 0), (.bool false), .nilslice, .nilslice, (zI 0)] [⟨0, ⟨1, (.c (zU 2))⟩⟩, ⟨2, ⟨1, 41⟩⟩]), oK 43 (.call 17 [(.c .nilslice), (.c .nilslice), 42]), oM 36 43, oQ 44 (.ext 0 36), oQ 45 (.ext 1 36), oQ 46 (.ext 2 36), oQ 47 (.ext 3 36), oM 6 44, oM 7 45, oM 8 46, oM 9 47] [2, 5, 6, 9])
 (.seq
 (.reg 5 [oK 49 (.call 15 [(.c (.str [97]))]), oK 50 (.bslt 15 1 [(.str []), (zI 0), (.str []), (.str []), (zU 0), (.str []), .nilslice, .nilslice, .nilslice, .nilslice, .nilslice, .nilslice, .nilslice, .nilslice, .nilslice] [⟨0, ⟨15, 49⟩⟩]), oQ 51 (.bld [(zU 0), (.bool false), .nilslice, .nilslice, (zI 0)] [⟨0, ⟨1, (.c (zU 2))⟩⟩]), oK 52 (.call 17 [(.c .nilslice), 50, 51]), oM 48 52, oQ 53 (.ext 0 48), oQ 54 (.ext 1 48), oQ 55 (.ext 2 48), oQ 56 (.ext 3 48), oM 10 53, oM 11 54, oM 12 55, oM 13 56] [2, 5, 6, 9, 10, 13])
 (.seq
 (.seq
 (.reg 6 [oM 57 5, oQ 58 (.not 57), oM 59 58, gQ 60 59 false (.mov 9), gQ 61 59 false (.not 60), oQ 62 (.pick 59 (cB true) 61), oM 63 62, gQ 64 63 false (.mov 13), gQ 65 63 false (.not 64), oQ 66 (.pick 63 (cB true) 65)] [2, 6, 10, 66])
 (.cond 66
 (.seq
 (.reg 7 [oM 0 (cB false)] [0])
 .ret)
 .skip))
 (.seq
 (.reg 8 [oM 68 2, oK 69 (.call 13 [68, (cI 1099511627776)]), oM 67 69, oQ 70 (.ext 0 67), oQ 71 (.ext 1 67), oQ 72 (.ext 2 67), oM 14 70, oM 15 71, oM 16 72] [6, 10, 14, 16])
 (.seq
 (.reg 9 [oM 74 6, oK 75 (.call 13 [74, (cI 1099511627776)]), oM 73 75, oQ 76 (.ext 0 73), oQ 77 (.ext 1 73), oQ 78 (.ext 2 73), oM 17 76, oM 18 77, oM 19 78] [10, 14, 16, 17, 19])
 (.seq
 (.reg 10 [oM 80 10, oK 81 (.call 13 [80, (cI 1099511627776)]), oM 79 81, oQ 82 (.ext 0 79), oQ 83 (.ext 1 79), oQ 84 (.ext 2 79), oM 20 82, oM 21 83, oM 22 84] [14, 16, 17, 19, 20, 22])
 (.seq
 (.reg 11 [oM 85 16, oQ 86 (.bin .eql 85 (cI 0)), oM 87 86, gQ 88 87 true (.mov 14), gQ 89 87 true (.len 0 88), gQ 90 87 true (.bin .eql 89 (cI 1)), oQ 91 (.pick 87 90 (cB false)), oM 92 91, gQ 93 92 true (.mov 14), gQ 94 92 true (.iaddr 1 93 (cI 0)), gQ 95 92 true (.load none 94), gQ 96 92 true (.bld [(zU 0), (zI 0), (zI 0)] [⟨0, ⟨1, (.c (zU 2))⟩⟩]), gQ 97 92 true (.bld [(zU 0), (zI 0), (zI 0)] [⟨0, ⟨1, (.c (zU 6))⟩⟩]), gK 98 92 true (.bslt 3 2 [(zU 0), (zI 0), (zI 0)] [⟨0, ⟨3, 96⟩⟩, ⟨3, ⟨3, 97⟩⟩]), gK 99 92 true (.call 18 [95, 98]), oQ 100 (.pick 92 99 (cB false)), oM 101 100, gQ 102 101 true (.mov 19), gQ 103 101 true (.bin .eql 102 (cI 0)), oQ 104 (.pick 101 103 (cB false)), oM 105 104, gQ 106 105 true (.mov 17), gQ 107 105 true (.len 0 106), gQ 108 105 true (.bin .eql 107 (cI 2)), oQ 109 (.pick 105 108 (cB false)), oM 110 109, gQ 111 110 true (.mov 17), gQ 112 110 true (.iaddr 1 111 (cI 0)), gQ 113 110 true (.load none 112), gQ 114 110 true (.bld [(zU 0), (zI 0), (zI 0)] [⟨0, ⟨1, (.c (zU 7))⟩⟩, ⟨1, ⟨1, (cI 1)⟩⟩]), gK 115 110 true (.bslt 3 1 [(zU 0), (zI 0), (zI 0)] [⟨0, ⟨3, 114⟩⟩]), gK 116 110 true (.call 18 [113, 115]), oQ 117 (.pick 110 116 (cB false)), oM 118 117, gQ 119 118 true (.mov 17), gQ 120 118 true (.iaddr 1 119 (cI 1)), gQ 121 118 true (.load none 120), gQ 122 118 true (.bld [(zU 0), (zI 0), (zI 0)] [⟨0, ⟨1, (.c (zU 7))⟩⟩]), gK 123 118 true (.bslt 3 1 [(zU 0), (zI 0), (zI 0)] [⟨0, ⟨3, 122⟩⟩]), gK 124 118 true (.call 18 [121, 123]), oQ 125 (.pick 118 124 (cB false)), oM 126 125, gQ 127 126 true (.mov 22), gQ 128 126 true (.bin .eql 127 (cI 5)), oQ 129 (.pick 126 128 (cB false)), oM 130 129, gQ 131 130 true (.mov 20), gQ 132 130 true (.len 0 131), gQ 133 130 true (.bin .eql 132 (cI 0)), oQ 134 (.pick 130 133 (cB false)), oM 0 134] [0])
 .ret)))))))))))
theorem fok19 : FOK Tryz.prog 19 (135, ic19, [(.t 0)]) := fokA [1000025, 1000029, 1000041, 1000050, 1000098, 1000115, 1000123, 2000000] Tryz.func19 (by kernel_rfl) (by kernel_rfl) (by kernel_rfl) (by kernel_rfl)
def ic20 : IC :=
 (.seq
 (.reg 0 [oM 2 (.c .nilptr), oM 3 (cI 0)] [0])
 (.seq
 (.seq
 (.reg 1 [oM 10 0, oQ 11 (.isnil (.pointer 167) false 10)] [0, 11])
 (.cond 11
 (.seq
 (.reg 2 [oM 2 (.c .nilptr), oM 3 (cI 2)] [2, 3])
 .ret)
 .skip))
 (.seq
 (.reg 3 [oM 13 0, oK 14 (.call 40 [13]), oK 15 (.call 39 [14]), oM 12 15, oQ 16 (.ext 0 12), oQ 17 (.ext 1 12), oM 4 16, oM 5 17] [0, 4, 5])
 (.seq
 (.seq
 (.reg 4 [oM 18 5, oQ 19 (.bin .neq 18 (cI 0))] [0, 4, 5, 19])
 (.cond 19
 (.seq
 (.reg 5 [oM 20 5, oM 2 (.c .nilptr), oM 3 20] [2, 3])
 .ret)
 .skip))
 (.seq
 (.reg 6 [oM 21 0, oM 22 4, oK 23 .mkmap, oQ 24 (.bld [.nilptr, .nilptr, .nilslice, .nilslice, .nilmap] [⟨0, ⟨1, 21⟩⟩, ⟨1, ⟨1, 22⟩⟩, ⟨4, ⟨1, 23⟩⟩]), oK 25 (.box 24), oM 6 25] [0, 6])
 (.seq
 (.seq
 (.reg 7 [oM 26 0, oK 27 (.call 40 [26]), oK 28 (.call 41 [27]), oM 29 (cI 0)] [0, 6, 28, 29])
 (.block 0
 (.loop
 (.seq
 (.reg 8 [oQ 30 (.bin .lss 29 28)] [0, 6, 28, 29, 30])
 (.seq
 (.cond 30
 .skip
 (.exit 0))
 (.seq
 (.block 1
 (.seq
 (.reg 9 [oM 31 29, oM 7 31] [0, 6, 7, 28, 29])
 (.seq
 (.reg 10 [oM 33 0, oK 34 (.call 40 [33]), oM 35 7, oK 36 (.call 42 [34, 35]), oM 32 36, oQ 37 (.ext 0 32), oQ 38 (.ext 1 32), oK 8 (.alloc [(.str []), (zI 0), (.str []), (.str []), (zU 0), (.str []), .nilslice, .nilslice, .nilslice, .nilslice, .nilslice, .nilslice, .nilslice, .nilslice, .nilslice]), oN (.store 15 8 37), oM 9 38] [0, 6, 8, 9, 28, 29])
 (.seq
 (.seq
 (.reg 11 [oM 39 9, oQ 40 (.bin .neq 39 (cI 0))] [0, 6, 8, 9, 28, 29, 40])
 (.cond 40
 (.seq
 (.reg 12 [oM 41 9, oM 2 (.c .nilptr), oM 3 41] [2, 3])
 .ret)
 .skip))
 (.oreg 13 [(0, oM 42 6, 0), (1, oM 43 6, 0), (2, oQ 44 (.nchk 43), 0), (3, oQ 45 (.faddr 2 44), 0), (4, oQ 46 (.load none 45), 0), (5, oQ 47 (.load (some 15) 8), 0), (6, oK 48 (.bslt 15 1 [(.str []), (zI 0), (.str []), (.str []), (zU 0), (.str []), .nilslice, .nilslice, .nilslice, .nilslice, .nilslice, .nilslice, .nilslice, .nilslice, .nilslice] [⟨0, ⟨15, 47⟩⟩]), 0), (7, oK 49 (.app 15 46 48), 0), (8, oQ 50 (.nchk 42), 0), (9, oQ 51 (.faddr 2 50), 0), (10, oN (.store 1 51 49), 0)] [0, 6, 28, 29])))))
 (.reg 14 [oQ 52 (.bin .add 29 (cI 1)), oM 29 52] [0, 6, 28, 29])))))))
 (.seq
 (.reg 15 [oM 53 6, oK 54 (.call 43 [53])] [6])
 (.seq
 (.reg 16 [oM 55 6, oM 2 55, oM 3 (cI 0)] [2, 3])
 .ret))))))))
theorem fok20 : FOK Tryz.prog 20 (56, ic20, [(.t 2), (.t 3)]) := fokA [1000048, 2000000] Tryz.func20 (by kernel_rfl) (by kernel_rfl) (by kernel_rfl) (by kernel_rfl)
def ic26 : IC :=
 (.seq
 (.reg 0 [oM 2 (.c .nilptr), oM 3 (cI 0)] [0])
 (.seq
 (.reg 1 [oM 14 0, oK 15 (.call 20 [14]), oM 13 15, oQ 16 (.ext 0 13), oQ 17 (.ext 1 13), oM 4 16, oM 5 17] [0, 4, 5])
 (.seq
 (.seq
 (.reg 2 [oM 18 5, oQ 19 (.bin .neq 18 (cI 0))] [0, 4, 5, 19])
 (.cond 19
 (.seq
 (.reg 3 [oM 20 5, oM 2 (.c .nilptr), oM 3 20] [2, 3])
 .ret)
 .skip))
 (.seq
 (.reg 4 [oM 22 0, oK 23 (.call 40 [22]), oK 24 (.call 47 [23]), oM 21 24, oQ 25 (.ext 0 21), oQ 26 (.ext 1 21), oM 6 25, oM 5 26] [0, 4, 5, 6])
 (.seq
 (.seq
 (.reg 5 [oM 27 5, oQ 28 (.bin .neq 27 (cI 0))] [0, 4, 5, 6, 28])
 (.cond 28
 (.seq
 (.reg 6 [oM 29 5, oM 2 (.c .nilptr), oM 3 29] [2, 3])
 .ret)
 .skip))
 (.seq
 (.reg 7 [oM 30 0, oM 31 4, oM 32 6, oM 33 4, oK 34 (.call 48 [33]), oQ 35 (.bld [.nilptr, .nilptr, .nilptr, .nilslice, .nilslice] [⟨0, ⟨1, 30⟩⟩, ⟨1, ⟨1, 31⟩⟩, ⟨2, ⟨1, 32⟩⟩, ⟨3, ⟨1, 34⟩⟩]), oK 36 (.box 35), oM 7 36] [7])
 (.seq
 (.reg 8 [oK 37 .mkmap, oM 38 7, oQ 39 (.mkf 49 [38] []), oN (.mupd 1 37 (.c (zU 1)) 39), oM 40 7, oQ 41 (.mkf 50 [40] []), oN (.mupd 1 37 (.c (zU 2)) 41), oM 42 7, oQ 43 (.mkf 51 [42] []), oN (.mupd 1 37 (.c (zU 3)) 43), oM 44 7, oQ 45 (.mkf 52 [44] []), oN (.mupd 1 37 (.c (zU 4)) 45), oM 46 7, oQ 47 (.mkf 53 [46] []), oN (.mupd 1 37 (.c (zU 5)) 47), oM 48 7, oQ 49 (.mkf 54 [48] []), oN (.mupd 1 37 (.c (zU 6)) 49), oM 50 7, oQ 51 (.mkf 55 [50] []), oN (.mupd 1 37 (.c (zU 7)) 51), oM 52 37, oM 8 52] [7, 8])
 (.seq
 (.seq
 (.reg 9 [oM 53 7, oQ 54 (.nchk 53), oQ 55 (.faddr 3 54), oQ 56 (.load none 55), oQ 57 (.len 0 56), oM 58 (cI 0)] [7, 8, 56, 57, 58])
 (.block 0
 (.loop
 (.seq
 (.reg 10 [oQ 59 (.bin .lss 58 57)] [7, 8, 56, 57, 58, 59])
 (.seq
 (.cond 59
 .skip
 (.exit 0))
 (.seq
 (.block 1
 (.seq
 (.reg 11 [oQ 60 (.iaddr 3 56 58), oQ 61 (.load (some 3) 60), oK 10 (.alloc [(zU 0), (zI 0), (zI 0)]), oN (.store 3 10 61)] [7, 8, 10, 56, 57, 58])
 (.seq
 (.reg 12 [oM 63 8, oQ 64 (.faddr 0 10), oQ 65 (.load none 64), oQ 66 (.lkp 1 .nilfunc false 63 65), oQ 67 (.load (some 3) 10), oK 68 (.callv 66 [67]), oM 62 68, oQ 69 (.ext 0 62), oQ 70 (.ext 1 62), oM 11 69, oM 12 70] [7, 8, 11, 12, 56, 57, 58])
 (.seq
 (.seq
 (.reg 13 [oM 71 12, oQ 72 (.bin .neq 71 (cI 0))] [7, 8, 11, 12, 56, 57, 58, 72])
 (.cond 72
 (.seq
 (.reg 14 [oM 73 12, oM 2 (.c .nilptr), oM 3 73] [2, 3])
 .ret)
 .skip))
 (.reg 15 [oM 74 7, oM 75 7, oQ 76 (.nchk 75), oQ 77 (.faddr 4 76), oQ 78 (.load none 77), oM 79 11, oK 80 (.bslt 1 1 [.nilslice] [⟨0, ⟨1, 79⟩⟩]), oK 81 (.app 1 78 80), oQ 82 (.nchk 74), oQ 83 (.faddr 4 82), oN (.store 1 83 81)] [7, 8, 56, 57, 58])))))
 (.reg 16 [oQ 84 (.bin .add 58 (cI 1)), oM 58 84] [7, 8, 56, 57, 58])))))))
 (.seq
 (.reg 17 [oM 85 7, oM 2 85, oM 3 (cI 0)] [2, 3])
 .ret)))))))))
theorem fok26 : FOK Tryz.prog 26 (86, ic26, [(.t 2), (.t 3)]) := fokA [1000080, 2000000] Tryz.func26 (by kernel_rfl) (by kernel_rfl) (by kernel_rfl) (by kernel_rfl)
def ic27 : IC :=
 (.seq
 (.reg 0 [oK 6 (.alloc [(.bool false), .nilslice, (zI 0), .nilslice, .nilslice]), oM 7 (cI 0)] [0, 1, 2, 6])
 (.scope
 (.seq
 (.reg 1 [oM 26 0, oK 27 (.call 56 [26]), oM 25 27, oQ 28 (.ext 0 25), oQ 29 (.ext 1 25), oM 8 28, oM 9 29] [0, 1, 2, 6, 8, 9])
 (.seq
 (.seq
 (.reg 2 [oM 30 9, oQ 31 (.bin .neq 30 (cI 0)), oM 32 31, gQ 33 32 false (.mov 2), gQ 34 32 false (.bin .lss 33 (cI 0)), oQ 35 (.pick 32 (cB true) 34), oM 36 35, gQ 37 36 false (.mov 2), gQ 38 36 false (.bin .gtr 37 (cI 1099511627776)), oQ 39 (.pick 36 (cB true) 38)] [0, 1, 2, 6, 8, 39])
 (.cond 39
 (.seq
 (.reg 3 [oQ 40 (.bld [(.bool false), .nilslice, (zI 0), .nilslice, .nilslice] []), oN (.store 5 6 40), oM 7 (cI 1)] [6, 7])
 .ret)
 .skip))
 (.seq
 (.reg 4 [oM 41 8, oM 42 0, oQ 43 (.bld [.nilptr, (zI 0), .nilslice, (zI 0)] [⟨0, ⟨1, 41⟩⟩, ⟨1, ⟨1, 42⟩⟩]), oK 44 (.box 43), oM 10 44] [0, 1, 2, 6, 8, 10])
 (.seq
 (.seq
 (.reg 5 [oM 45 1, oQ 46 (.len 0 45), oM 47 (cI 0)] [0, 2, 6, 8, 10, 45, 46, 47])
 (.block 0
 (.loop
 (.seq
 (.reg 6 [oQ 48 (.bin .lss 47 46)] [0, 2, 6, 8, 10, 45, 46, 47, 48])
 (.seq
 (.cond 48
 .skip
 (.exit 0))
 (.seq
 (.block 1
 (.seq
 (.reg 7 [oQ 49 (.iaddr 1 45 47), oQ 50 (.load none 49), oM 12 50] [0, 2, 6, 8, 10, 12, 45, 46, 47])
 (.seq
 (.reg 8 [oM 51 10, oM 52 12, oK 53 (.call 57 [51, 52]), oM 13 53] [0, 2, 6, 8, 10, 13, 45, 46, 47])
 (.seq
 (.reg 9 [oM 54 13, oQ 55 (.bin .neq 54 (cI 0))] [0, 2, 6, 8, 10, 13, 45, 46, 47, 55])
 (.cond 55
 (.seq
 (.reg 10 [oQ 56 (.bld [(.bool false), .nilslice, (zI 0), .nilslice, .nilslice] []), oM 57 13, oN (.store 5 6 56), oM 7 57] [6, 7])
 .ret)
 .skip)))))
 (.reg 11 [oQ 58 (.bin .add 47 (cI 1)), oM 47 58] [0, 2, 6, 8, 10, 45, 46, 47])))))))
 (.seq
 (.reg 12 [oK 14 (.alloc [(.bool false), .nilslice, (zI 0), .nilslice, .nilslice])] [0, 2, 6, 8, 10, 14])
 (.seq
 .skip
 (.seq
 (.block 2
 (.loop
 (.block 3
 (.seq
 (.reg 13 [oM 60 10, oK 61 (.call 58 [60]), oM 59 61, oQ 62 (.ext 0 59), oQ 63 (.ext 1 59), oM 15 62, oM 16 63] [0, 2, 6, 8, 10, 14, 15, 16])
 (.seq
 (.seq
 (.reg 14 [oM 64 15, oQ 65 (.bin .eql 64 (cI 2))] [0, 2, 6, 8, 10, 14, 15, 16, 65])
 (.cond 65
 (.exit 2)
 .skip))
 (.seq
 (.seq
 (.reg 15 [oQ 66 (.faddr 2 14), oQ 67 (.load none 66), oM 68 2, oQ 69 (.bin .eql 67 68)] [0, 2, 6, 8, 10, 14, 15, 16, 69])
 (.cond 69
 (.seq
 (.reg 16 [oQ 70 (.bld [(.bool false), .nilslice, (zI 0), .nilslice, .nilslice] []), oN (.store 5 6 70), oM 7 (cI 44)] [6, 7])
 .ret)
 .skip))
 (.seq
 (.reg 17 [oQ 71 (.faddr 2 14), oQ 72 (.load none 71), oQ 73 (.bin .add 72 (cI 1)), oQ 74 (.faddr 2 14), oN (.store 1 74 73)] [0, 2, 6, 8, 10, 14, 15, 16])
 (.seq
 (.seq
 (.reg 18 [oM 75 15, oQ 76 (.bin .eql 75 (cI 1))] [0, 2, 6, 8, 10, 14, 16, 76])
 (.cond 76
 (.seq
 (.seq
 (.reg 19 [oM 77 8, oM 78 16, oQ 79 (.bin .add 78 (cI 1)), oQ 80 (.neg 79), oK 81 (.call 59 [77, 80]), oM 17 81] [0, 2, 6, 8, 10, 14, 17])
 (.seq
 (.reg 20 [oM 82 17, oQ 83 (.bin .neq 82 (cI 0))] [0, 2, 6, 8, 10, 14, 17, 83])
 (.cond 83
 (.seq
 (.reg 21 [oQ 84 (.bld [(.bool false), .nilslice, (zI 0), .nilslice, .nilslice] []), oM 85 17, oN (.store 5 6 84), oM 7 85] [6, 7])
 .ret)
 .skip)))
 (.exit 3))
 .skip))
 (.seq
 (.oreg 22 [(0, oM 87 8, 0), (2, oM 89 10, 0), (3, oQ 90 (.nchk 89), 0), (4, oQ 91 (.faddr 2 90), 0), (5, oQ 92 (.load none 91), 0), (6, oM 93 16, 0), (1, oK 88 (.call 61 [87]), 32), (7, oK 94 (.call 60 [88, 92, 93]), 0), (8, oM 86 94, 0), (9, oQ 95 (.ext 0 86), 0), (10, oQ 96 (.ext 1 86), 0), (11, oQ 97 (.ext 2 86), 0), (12, oQ 98 (.ext 3 86), 0), (13, oM 18 95, 0), (14, oM 19 96, 0), (15, oM 20 97, 0), (16, oM 21 98, 0)] [0, 2, 6, 8, 10, 14, 18, 19, 20, 21])
 (.seq
 (.block 4
 (.seq
 (.reg 23 [oM 100 21, oQ 101 (.bin .neq 100 (cI 0)), oM 99 101] [0, 2, 6, 8, 10, 14, 18, 19, 20, 21, 99])
 (.cond 99
 (.seq
 (.reg 24 [oQ 102 (.bld [(.bool false), .nilslice, (zI 0), .nilslice, .nilslice] []), oM 103 21, oN (.store 5 6 102), oM 7 103] [6, 7])
 .ret)
 (.seq
 (.reg 25 [oM 105 19, oQ 106 (.bin .lss 105 (cI 0)), oM 104 106] [0, 2, 6, 8, 10, 14, 18, 19, 20, 104])
 (.cond 104
 (.seq
 (.reg 26 [oM 107 20, oQ 108 (.faddr 4 14), oN (.store 1 108 107)] [6, 14])
 (.seq
 (.reg 27 [oQ 109 (.load (some 5) 14), oN (.store 5 6 109), oM 7 (cI 0)] [6, 7])
 .ret))
 .skip)))))
 (.seq
 (.reg 28 [oQ 110 (.faddr 3 14), oQ 111 (.load none 110), oM 112 20, oK 113 (.bslt 1 1 [.nilslice] [⟨0, ⟨1, 112⟩⟩]), oK 114 (.app 1 111 113), oQ 115 (.faddr 3 14), oN (.store 1 115 114)] [0, 2, 6, 8, 10, 14, 18, 19])
 (.seq
 (.seq
 (.reg 29 [oM 116 8, oM 117 19, oK 118 (.call 62 [116, 117]), oM 22 118] [0, 2, 6, 8, 10, 14, 18, 22])
 (.seq
 (.reg 30 [oM 119 22, oQ 120 (.bin .neq 119 (cI 0))] [0, 2, 6, 8, 10, 14, 18, 22, 120])
 (.cond 120
 (.seq
 (.reg 31 [oQ 121 (.bld [(.bool false), .nilslice, (zI 0), .nilslice, .nilslice] []), oM 122 22, oN (.store 5 6 121), oM 7 122] [6, 7])
 .ret)
 .skip)))
 (.seq
 (.reg 32 [oM 123 10, oQ 124 (.nchk 123), oQ 125 (.faddr 3 124), oN (.store 1 125 (cI 0))] [0, 2, 6, 8, 10, 14, 18])
 (.seq
 (.reg 33 [oM 126 10, oM 127 18, oK 128 (.call 57 [126, 127]), oM 23 128] [0, 2, 6, 8, 10, 14, 23])
 (.seq
 (.reg 34 [oM 129 23, oQ 130 (.bin .neq 129 (cI 0))] [0, 2, 6, 8, 10, 14, 23, 130])
 (.cond 130
 (.seq
 (.reg 35 [oQ 131 (.bld [(.bool false), .nilslice, (zI 0), .nilslice, .nilslice] []), oM 132 23, oN (.store 5 6 131), oM 7 132] [6, 7])
 .ret)
 .skip))))))))))))))))
 (.seq
 (.dreg 36 [oM 133 0, oK 134 (.mksl 1 [(.bool false)] 133), oQ 135 (.faddr 0 14), oN (.store 1 135 (cB true)), oQ 136 (.faddr 1 14), oN (.store 1 136 134)] false [0, 6, 8, 14])
 (.seq
 (.seq
 (.reg 37 [oM 137 0, oM 138 (cI 0)] [6, 8, 14, 137, 138])
 (.block 5
 (.loop
 (.seq
 (.reg 38 [oQ 139 (.bin .lss 138 137)] [6, 8, 14, 137, 138, 139])
 (.seq
 (.cond 139
 .skip
 (.exit 5))
 (.seq
 (.block 6
 (.seq
 (.reg 39 [oM 140 138, oM 24 140] [6, 8, 14, 24, 137, 138])
 (.oreg 40 [(0, oQ 141 (.faddr 1 14), 0), (1, oQ 142 (.load none 141), 0), (2, oM 143 24, 0), (3, oM 144 8, 0), (4, oM 145 24, 0), (5, oQ 146 (.bin .add 145 (cI 1)), 0), (6, oK 147 (.call 63 [144, 146]), 2), (7, oQ 148 (.bin .eql 147 (cI 1)), 0), (8, oQ 149 (.iaddr 1 142 143), 0), (9, oN (.store 1 149 148), 0)] [6, 8, 14, 137, 138])))
 (.reg 41 [oQ 150 (.bin .add 138 (cI 1)), oM 138 150] [6, 8, 14, 137, 138])))))))
 (.seq
 (.reg 42 [oQ 151 (.load (some 5) 14), oN (.store 5 6 151), oM 7 (cI 0)] [6, 7])
 .ret))))))))))))
theorem fok27 : FOK Tryz.prog 27 (152, ic27, [(.cell (some 5) 6), (.t 7)]) := fokA [1000113, 2000000] Tryz.func27 (by kernel_rfl) (by kernel_rfl) (by kernel_rfl) (by kernel_rfl)
def ic28 : IC :=
 (.seq
 (.reg 0 [oM 2 (cI 0)] [0])
 (.seq
 (.seq
 (.reg 1 [oM 3 0, oQ 4 (.isnil (.pointer 129) false 3)] [0, 4])
 (.cond 4
 (.seq
 (.reg 2 [oM 2 (cI 0)] [2])
 .ret)
 .skip))
 (.seq
 (.reg 3 [oM 5 0, oQ 6 (.nchk 5), oQ 7 (.faddr 2 6), oQ 8 (.load none 7), oK 9 (.call 64 [8]), oM 2 9] [2])
 .ret)))
theorem fok28 : FOK Tryz.prog 28 (10, ic28, [(.t 2)]) := fokA [2000000] Tryz.func28 (by kernel_rfl) (by kernel_rfl) (by kernel_rfl) (by kernel_rfl)
def ic31 : IC :=
 (.seq
 (.reg 0 [oM 2 (cI 0)] [0])
 (.seq
 (.block 0
 (.seq
 (.reg 1 [oM 4 0, oQ 5 (.bin .lss 4 (cI 0)), oM 3 5] [0, 3])
 (.cond 3
 (.seq
 (.reg 2 [oM 2 (cI 0)] [2])
 .ret)
 (.seq
 (.reg 3 [oM 7 0, oQ 8 (.bin .gtr 7 (cI 40)), oM 6 8] [0, 6])
 (.cond 6
 (.seq
 (.reg 4 [oM 2 (cI 1099511627776)] [2])
 .ret)
 .skip)))))
 (.seq
 (.reg 5 [oM 9 0, oQ 10 (.bin .add 9 (cI 1)), oM 11 0, oQ 12 (.bin .add 11 (cI 1)), oQ 13 (.bin .shl 10 12), oQ 14 (.mm false 13 (cI 1099511627776)), oM 2 14] [2])
 .ret)))
theorem fok31 : FOK Tryz.prog 31 (15, ic31, [(.t 2)]) := fokA [2000000] Tryz.func31 (by kernel_rfl) (by kernel_rfl) (by kernel_rfl) (by kernel_rfl)
def ic32 : IC :=
(.seq
 (.reg 0 [⟨(some 4), none, (.q (.mov (.c .nilptr)))⟩, ⟨(some 5), none, (.q (.mov (.c (.int .i64 0))))⟩] [0, 1])
 (.seq
  (.reg 1 [⟨(some 14), none, (.q (.mov (.t 1)))⟩, ⟨(some 15), none, (.q (.len 0 (.t 14)))⟩, ⟨(some 6), none, (.q (.mov (.t 15)))⟩] [0, 1, 6])
  (.seq
   (.seq
    (.reg 2 [⟨(some 16), none, (.q (.mov (.t 0)))⟩, ⟨(some 17), none, (.q (.len 0 (.t 16)))⟩, ⟨(some 18), none, (.q (.mov (.c (.int .i64 0))))⟩] [0, 1, 6, 16, 17, 18])
    (.block 0
     (.loop
      (.seq
       (.reg 3 [⟨(some 19), none, (.q (.bin .lss (.t 18) (.t 17)))⟩] [0, 1, 6, 16, 17, 18, 19])
       (.seq
        (.cond (.t 19)
         .skip
         (.exit 0))
        (.seq
         (.block 1
          (.seq
           (.reg 4 [⟨(some 20), none, (.q (.iaddr 2 (.t 16) (.t 18)))⟩, ⟨(some 21), none, (.q (.load (some 2) (.t 20)))⟩, ⟨(some 8), none, (.alloc [(.int .i64 0), .nilslice])⟩, ⟨none, none, (.store 2 (.t 8) (.t 21))⟩] [0, 1, 6, 8, 16, 17, 18])
           (.reg 5 [⟨(some 22), none, (.q (.mov (.t 6)))⟩, ⟨(some 23), none, (.q (.faddr 1 (.t 8)))⟩, ⟨(some 24), none, (.q (.load none (.t 23)))⟩, ⟨(some 25), none, (.q (.len 0 (.t 24)))⟩, ⟨(some 26), none, (.q (.bin .add (.t 22) (.t 25)))⟩, ⟨(some 6), none, (.q (.mov (.t 26)))⟩] [0, 1, 6, 16, 17, 18])))
         (.reg 6 [⟨(some 27), none, (.q (.bin .add (.t 18) (.c (.int .i64 1))))⟩, ⟨(some 18), none, (.q (.mov (.t 27)))⟩] [0, 1, 6, 16, 17, 18])))))))
   (.seq
    (.seq
     (.reg 7 [⟨(some 28), none, (.q (.mov (.t 0)))⟩, ⟨(some 29), none, (.q (.len 0 (.t 28)))⟩, ⟨(some 30), none, (.q (.bin .gtr (.t 29) (.c (.int .i64 16))))⟩, ⟨(some 31), none, (.q (.mov (.t 30)))⟩, ⟨(some 32), (some ⟨31, false⟩), (.q (.mov (.t 6)))⟩, ⟨(some 33), (some ⟨31, false⟩), (.q (.bin .gtr (.t 32) (.c (.int .i64 256))))⟩, ⟨(some 34), none, (.q (.pick (.t 31) (.c (.bool true)) (.t 33)))⟩] [0, 1, 34])
     (.cond (.t 34)
      (.seq
       (.reg 8 [⟨(some 4), none, (.q (.mov (.c .nilptr)))⟩, ⟨(some 5), none, (.q (.mov (.c (.int .i64 40))))⟩] [4, 5])
       .ret)
      .skip))
    (.seq
     (.reg 9 [⟨(some 35), none, (.q (.mov (.t 1)))⟩, ⟨(some 36), none, (.q (.len 0 (.t 35)))⟩, ⟨(some 37), none, .mkmap⟩, ⟨(some 38), none, (.q (.bld [.nilslice, (.int .i64 0), .nilmap] [⟨1, ⟨1, (.t 36)⟩⟩, ⟨2, ⟨1, (.t 37)⟩⟩]))⟩, ⟨(some 39), none, (.box (.t 38))⟩, ⟨(some 9), none, (.q (.mov (.t 39)))⟩] [0, 1, 9])
     (.seq
      (.seq
       (.reg 10 [⟨(some 40), none, (.q (.mov (.t 9)))⟩, ⟨(some 41), none, (.q (.mov (.t 1)))⟩, ⟨(some 42), none, (.call 68 [(.t 40), (.t 41), (.c (.int .i64 (-1))), (.c (.int .i64 1025))])⟩, ⟨(some 10), none, (.q (.mov (.t 42)))⟩] [0, 9, 10])
       (.seq
        (.reg 11 [⟨(some 43), none, (.q (.mov (.t 10)))⟩, ⟨(some 44), none, (.q (.bin .neq (.t 43) (.c (.int .i64 0))))⟩] [0, 9, 10, 44])
        (.cond (.t 44)
         (.seq
          (.reg 12 [⟨(some 45), none, (.q (.mov (.t 10)))⟩, ⟨(some 4), none, (.q (.mov (.c .nilptr)))⟩, ⟨(some 5), none, (.q (.mov (.t 45)))⟩] [4, 5])
          .ret)
         .skip)))
      (.seq
       (.seq
        (.reg 13 [⟨(some 46), none, (.q (.mov (.t 0)))⟩, ⟨(some 47), none, (.q (.len 0 (.t 46)))⟩, ⟨(some 48), none, (.q (.mov (.c (.int .i64 0))))⟩] [9, 46, 47, 48])
        (.block 2
         (.loop
          (.seq
           (.reg 14 [⟨(some 49), none, (.q (.bin .lss (.t 48) (.t 47)))⟩] [9, 46, 47, 48, 49])
           (.seq
            (.cond (.t 49)
            .skip
            (.exit 2))
            (.seq
            (.block 3
            (.seq
            (.reg 15 [⟨(some 50), none, (.q (.mov (.t 48)))⟩, ⟨(some 51), none, (.q (.iaddr 2 (.t 46) (.t 48)))⟩, ⟨(some 52), none, (.q (.load (some 2) (.t 51)))⟩, ⟨(some 12), none, (.alloc [(.int .i64 0), .nilslice])⟩, ⟨(some 11), none, (.q (.mov (.t 50)))⟩, ⟨none, none, (.store 2 (.t 12) (.t 52))⟩] [9, 11, 12, 46, 47, 48])
            (.seq
            (.seq
            (.reg 16 [⟨(some 53), none, (.q (.faddr 0 (.t 12)))⟩, ⟨(some 54), none, (.q (.load none (.t 53)))⟩, ⟨(some 55), none, (.q (.bin .lss (.t 54) (.c (.int .i64 0))))⟩, ⟨(some 56), none, (.q (.mov (.t 55)))⟩, ⟨(some 57), (some ⟨56, false⟩), (.q (.faddr 0 (.t 12)))⟩, ⟨(some 58), (some ⟨56, false⟩), (.q (.load none (.t 57)))⟩, ⟨(some 59), (some ⟨56, false⟩), (.q (.bin .gtr (.t 58) (.c (.int .i64 1024))))⟩, ⟨(some 60), none, (.q (.pick (.t 56) (.c (.bool true)) (.t 59)))⟩] [9, 11, 12, 46, 47, 48, 60])
            (.cond (.t 60)
            (.seq
            (.reg 17 [⟨(some 4), none, (.q (.mov (.c .nilptr)))⟩, ⟨(some 5), none, (.q (.mov (.c (.int .i64 4))))⟩] [4, 5])
            .ret)
            .skip))
            (.seq
            (.reg 18 [⟨(some 61), none, (.q (.mov (.t 9)))⟩, ⟨(some 62), none, (.q (.faddr 1 (.t 12)))⟩, ⟨(some 63), none, (.q (.load none (.t 62)))⟩, ⟨(some 64), none, (.q (.mov (.t 11)))⟩, ⟨(some 65), none, (.q (.faddr 0 (.t 12)))⟩, ⟨(some 66), none, (.q (.load none (.t 65)))⟩, ⟨(some 67), none, (.call 68 [(.t 61), (.t 63), (.t 64), (.t 66)])⟩, ⟨(some 13), none, (.q (.mov (.t 67)))⟩] [9, 13, 46, 47, 48])
            (.seq
            (.reg 19 [⟨(some 68), none, (.q (.mov (.t 13)))⟩, ⟨(some 69), none, (.q (.bin .neq (.t 68) (.c (.int .i64 0))))⟩] [9, 13, 46, 47, 48, 69])
            (.cond (.t 69)
            (.seq
            (.reg 20 [⟨(some 70), none, (.q (.mov (.t 13)))⟩, ⟨(some 4), none, (.q (.mov (.c .nilptr)))⟩, ⟨(some 5), none, (.q (.mov (.t 70)))⟩] [4, 5])
            .ret)
            .skip))))))
            (.reg 21 [⟨(some 71), none, (.q (.bin .add (.t 48) (.c (.int .i64 1))))⟩, ⟨(some 48), none, (.q (.mov (.t 71)))⟩] [9, 46, 47, 48])))))))
       (.seq
        (.reg 22 [⟨(some 72), none, (.q (.mov (.t 9)))⟩, ⟨(some 4), none, (.q (.mov (.t 72)))⟩, ⟨(some 5), none, (.q (.mov (.c (.int .i64 0))))⟩] [4, 5])
        .ret))))))))
theorem fok32 : FOK Tryz.prog 32 (73, ic32, [(.t 4), (.t 5)]) := .mk (pf := []) (an := [(0, [0, 1]), (1, [0, 1, 6]), (2, [0, 1, 6, 16, 17, 18]), (3, [0, 1, 6, 16, 17, 18, 19]), (4, [0, 1, 6, 8, 16, 17, 18]), (5, [0, 1, 6, 16, 17, 18]), (6, [0, 1, 6, 16, 17, 18]), (7, [0, 1, 34]), (8, [4, 5]), (9, [0, 1, 9]), (10, [0, 9, 10]), (11, [0, 9, 10, 44]), (12, [4, 5]), (13, [9, 46, 47, 48]), (14, [9, 46, 47, 48, 49]), (15, [9, 11, 12, 46, 47, 48]), (16, [9, 11, 12, 46, 47, 48, 60]), (17, [4, 5]), (18, [9, 13, 46, 47, 48]), (19, [9, 13, 46, 47, 48, 69]), (20, [4, 5]), (21, [9, 46, 47, 48]), (22, [4, 5])]) (by kernel_rfl) (fnOK_of Tryz.func32 (by kernel_rfl) (by kernel_rfl) (by kernel_rfl))
def ic33 : IC :=
 (.seq
 (.reg 0 [oK 2 (.boxt 0), oK 3 (.boxt 1), oM 4 (.c .nilptr), oM 5 (cI 0)] [2, 3])
 (.seq
 (.block 0
 (.seq
 (.reg 1 [oQ 13 (.load none 2), oQ 14 (.isnil (.pointer 154) false 13), oM 12 14] [2, 3, 12])
 (.cond 12
 (.seq
 (.reg 2 [oM 4 (.c .nilptr), oM 5 (cI 2)] [4, 5])
 .ret)
 (.seq
 (.reg 3 [oQ 16 (.faddr 0 3), oQ 17 (.load none 16), oK 18 (.call 69 [17]), oQ 19 (.not 18), oM 20 19, gQ 21 20 false (.faddr 4 3), gQ 22 20 false (.load none 21), gQ 23 20 false (.bin .lss 22 (cI 0)), oQ 24 (.pick 20 (cB true) 23), oM 25 24, gQ 26 25 false (.faddr 4 3), gQ 27 25 false (.load none 26), gQ 28 25 false (.bin .gtr 27 (cI 1099511627776)), oQ 29 (.pick 25 (cB true) 28), oM 15 29] [2, 3, 15])
 (.cond 15
 (.seq
 (.reg 4 [oM 4 (.c .nilptr), oM 5 (cI 1)] [4, 5])
 .ret)
 (.seq
 (.reg 5 [oQ 31 (.faddr 2 3), oQ 32 (.load none 31), oQ 33 (.len 0 32), oQ 34 (.bin .gtr 33 (cI 64)), oM 35 34, gQ 36 35 false (.faddr 3 3), gQ 37 35 false (.load none 36), gQ 38 35 false (.len 0 37), gQ 39 35 false (.bin .gtr 38 (cI 64)), oQ 40 (.pick 35 (cB true) 39), oM 30 40] [2, 3, 30])
 (.cond 30
 (.seq
 (.reg 6 [oM 4 (.c .nilptr), oM 5 (cI 40)] [4, 5])
 .ret)
 (.seq
 (.reg 7 [oQ 42 (.faddr 2 3), oQ 43 (.load none 42), oK 44 (.call 70 [43, (.f 71)]), oM 41 44] [2, 3, 41])
 (.cond 41
 (.seq
 (.reg 8 [oM 4 (.c .nilptr), oM 5 (cI 4)] [4, 5])
 .ret)
 (.seq
 (.reg 9 [oQ 46 (.faddr 3 3), oQ 47 (.load none 46), oQ 48 (.mkf 74 [] [3, 2]), oK 49 (.call 73 [47, 48]), oM 45 49] [2, 3, 45])
 (.cond 45
 (.seq
 (.reg 10 [oM 4 (.c .nilptr), oM 5 (cI 5)] [4, 5])
 .ret)
 .skip)))))))))))
 (.seq
 (.reg 11 [oQ 51 (.load none 2), oK 52 (.call 77 [51]), oM 50 52, oQ 53 (.ext 0 50), oQ 54 (.ext 1 50), oM 6 53, oM 7 54] [2, 3, 6, 7])
 (.seq
 (.seq
 (.reg 12 [oM 55 7, oQ 56 (.bin .neq 55 (cI 0))] [2, 3, 6, 7, 56])
 (.cond 56
 (.seq
 (.reg 13 [oM 57 7, oM 4 (.c .nilptr), oM 5 57] [4, 5])
 .ret)
 .skip))
 (.seq
 (.oreg 14 [(0, oQ 58 (.load none 2), 0), (1, oM 59 6, 0), (2, oQ 60 (.load (some 5) 3), 0), (3, oK 61 (.call 78 [60]), 1), (4, oQ 62 (.bld [.nilptr, .nilptr, (zU 0), (.bool false), .nilslice, .nilslice, (zI 0), .nilslice] [⟨0, ⟨1, 58⟩⟩, ⟨1, ⟨1, 59⟩⟩, ⟨2, ⟨5, 61⟩⟩]), 0), (5, oK 63 (.box 62), 0), (6, oM 8 63, 0)] [2, 8])
 (.seq
 (.seq
 (.reg 15 [oQ 64 (.load none 2), oK 65 (.call 41 [64]), oM 66 (cI 0)] [2, 8, 65, 66])
 (.block 1
 (.loop
 (.seq
 (.reg 16 [oQ 67 (.bin .lss 66 65)] [2, 8, 65, 66, 67])
 (.seq
 (.cond 67
 .skip
 (.exit 1))
 (.seq
 (.block 2
 (.seq
 (.reg 17 [oM 68 66, oM 9 68] [2, 8, 9, 65, 66])
 (.seq
 (.reg 18 [oQ 70 (.load none 2), oM 71 9, oK 72 (.call 42 [70, 71]), oM 69 72, oQ 73 (.ext 0 69), oQ 74 (.ext 1 69), oK 10 (.alloc [(.str []), (zI 0), (.str []), (.str []), (zU 0), (.str []), .nilslice, .nilslice, .nilslice, .nilslice, .nilslice, .nilslice, .nilslice, .nilslice, .nilslice]), oN (.store 15 10 73), oM 11 74] [2, 8, 10, 11, 65, 66])
 (.seq
 (.seq
 (.reg 19 [oM 75 11, oQ 76 (.bin .neq 75 (cI 0))] [2, 8, 10, 11, 65, 66, 76])
 (.cond 76
 (.seq
 (.reg 20 [oM 77 11, oM 4 (.c .nilptr), oM 5 77] [4, 5])
 .ret)
 .skip))
 (.oreg 21 [(0, oM 78 8, 0), (1, oM 79 8, 0), (2, oQ 80 (.nchk 79), 0), (3, oQ 81 (.faddr 7 80), 0), (4, oQ 82 (.load none 81), 0), (5, oQ 83 (.load (some 15) 10), 0), (6, oK 84 (.bslt 15 1 [(.str []), (zI 0), (.str []), (.str []), (zU 0), (.str []), .nilslice, .nilslice, .nilslice, .nilslice, .nilslice, .nilslice, .nilslice, .nilslice, .nilslice] [⟨0, ⟨15, 83⟩⟩]), 0), (7, oK 85 (.app 15 82 84), 0), (8, oQ 86 (.nchk 78), 0), (9, oQ 87 (.faddr 7 86), 0), (10, oN (.store 1 87 85), 0)] [2, 8, 65, 66])))))
 (.reg 22 [oQ 88 (.bin .add 66 (cI 1)), oM 66 88] [2, 8, 65, 66])))))))
 (.seq
 (.reg 23 [oM 89 8, oM 4 89, oM 5 (cI 0)] [4, 5])
 .ret)))))))
theorem fok33 : FOK Tryz.prog 33 (90, ic33, [(.t 4), (.t 5)]) := fokA [1000002, 1000003, 1000084, 2000000] Tryz.func33 (by kernel_rfl) (by kernel_rfl) (by kernel_rfl) (by kernel_rfl)
def ic34 : IC :=
 (.seq
 (.reg 0 [oM 2 (.c .nilslice)] [0])
 (.seq
 (.seq
 (.reg 1 [oM 3 0, oQ 4 (.isnil (.pointer 129) false 3)] [0, 4])
 (.cond 4
 (.seq
 (.reg 2 [oM 2 (.c .nilslice)] [2])
 .ret)
 .skip))
 (.seq
 (.reg 3 [oM 5 0, oQ 6 (.nchk 5), oQ 7 (.faddr 3 6), oQ 8 (.load none 7), oK 9 (.call 79 [8]), oM 2 9] [2])
 .ret)))
theorem fok34 : FOK Tryz.prog 34 (10, ic34, [(.t 2)]) := fokA [2000000] Tryz.func34 (by kernel_rfl) (by kernel_rfl) (by kernel_rfl) (by kernel_rfl)
def ic35 : IC :=
 (.seq
 (.reg 0 [oK 1 (.box 0), oM 2 (.c .nilfunc)] [1])
 (.seq
 (.reg 1 [oQ 3 (.mkf 80 [] [1]), oM 2 3] [2])
 .ret))
theorem fok35 : FOK Tryz.prog 35 (4, ic35, [(.t 2)]) := fokA [2000000] Tryz.func35 (by kernel_rfl) (by kernel_rfl) (by kernel_rfl) (by kernel_rfl)
def ic36 : IC :=
 (.seq
 (.reg 0 [oM 4 (cI 0)] [0, 1])
 (.seq
 (.reg 1 [oM 6 1, oQ 7 (.mm true 6 (cI 0)), oK 8 (.call 31 [7]), oM 5 8] [0, 5])
 (.seq
 (.reg 2 [oM 9 0, oQ 10 (.mm true 9 (cI 0)), oQ 11 (.bin .add 10 (cI 1)), oM 0 11] [0, 5])
 (.seq
 (.seq
 (.reg 3 [oM 12 0, oM 13 5, oQ 14 (.bin .quo (cI 1099511627776) 13), oQ 15 (.bin .gtr 12 14)] [0, 5, 15])
 (.cond 15
 (.seq
 (.reg 4 [oM 4 (cI 1099511627776)] [4])
 .ret)
 .skip))
 (.seq
 (.reg 5 [oM 16 0, oM 17 5, oQ 18 (.bin .mul 16 17), oM 4 18] [4])
 .ret)))))
theorem fok36 : FOK Tryz.prog 36 (19, ic36, [(.t 4)]) := fokA [2000000] Tryz.func36 (by kernel_rfl) (by kernel_rfl) (by kernel_rfl) (by kernel_rfl)
def ic37 : IC :=
 (.seq
 (.reg 0 [oK 5 (.boxt 2), oM 6 (.c .nilptr), oM 7 (cI 0)] [0, 1, 5])
 (.seq
 (.seq
 (.reg 1 [oQ 12 (.faddr 0 5), oQ 13 (.load none 12), oK 14 (.call 86 [13]), oQ 15 (.not 14), oM 16 15, gQ 17 16 false (.faddr 4 5), gQ 18 16 false (.load none 17), gQ 19 16 false (.bin .lss 18 (cI 0)), oQ 20 (.pick 16 (cB true) 19), oM 21 20, gQ 22 21 false (.faddr 4 5), gQ 23 21 false (.load none 22), gQ 24 21 false (.bin .gtr 23 (cI 1099511627776)), oQ 25 (.pick 21 (cB true) 24)] [0, 1, 5, 25])
 (.cond 25
 (.seq
 (.reg 2 [oM 6 (.c .nilptr), oM 7 (cI 1)] [6, 7])
 .ret)
 .skip))
 (.seq
 (.seq
 (.reg 3 [oQ 26 (.faddr 2 5), oQ 27 (.load none 26), oQ 28 (.len 0 27), oQ 29 (.bin .gtr 28 (cI 64)), oM 30 29, gQ 31 30 false (.faddr 3 5), gQ 32 30 false (.load none 31), gQ 33 30 false (.len 0 32), gQ 34 30 false (.bin .gtr 33 (cI 64)), oQ 35 (.pick 30 (cB true) 34)] [0, 1, 5, 35])
 (.cond 35
 (.seq
 (.reg 4 [oM 6 (.c .nilptr), oM 7 (cI 40)] [6, 7])
 .ret)
 .skip))
 (.seq
 (.seq
 (.reg 5 [oM 8 (cI 0)] [0, 1, 5, 8])
 (.block 0
 (.loop
 (.seq
 (.seq
 (.reg 6 [oM 36 8, oQ 37 (.faddr 2 5), oQ 38 (.load none 37), oQ 39 (.len 0 38), oQ 40 (.bin .lss 36 39)] [0, 1, 5, 8, 40])
 (.cond 40
 .skip
 (.exit 0)))
 (.seq
 (.block 1
 (.seq
 (.reg 8 [oQ 43 (.faddr 2 5), oQ 44 (.load none 43), oM 45 8, oQ 46 (.iaddr 6 44 45), oQ 47 (.faddr 0 46), oQ 48 (.load none 47), oQ 49 (.bin .lss 48 (.c (zU 1))), oM 50 49, gQ 51 50 false (.faddr 2 5), gQ 52 50 false (.load none 51), gQ 53 50 false (.mov 8), gQ 54 50 false (.iaddr 6 52 53), gQ 55 50 false (.faddr 0 54), gQ 56 50 false (.load none 55), gQ 57 50 false (.bin .gtr 56 (.c (zU 4))), oQ 58 (.pick 50 (cB true) 57), oM 59 58, gQ 60 59 false (.faddr 2 5), gQ 61 59 false (.load none 60), gQ 62 59 false (.mov 8), gQ 63 59 false (.iaddr 6 61 62), gQ 64 59 false (.faddr 1 63), gQ 65 59 false (.load (some 5) 64), gK 66 59 false (.call 87 [65]), gQ 67 59 false (.not 66), oQ 68 (.pick 59 (cB true) 67)] [0, 1, 5, 8, 68])
 (.cond 68
 (.seq
 (.reg 9 [oM 6 (.c .nilptr), oM 7 (cI 4)] [6, 7])
 .ret)
 .skip)))
 (.reg 7 [oM 41 8, oQ 42 (.bin .add 41 (cI 1)), oM 8 42] [0, 1, 5, 8]))))))
 (.seq
 (.seq
 (.reg 10 [oM 9 (cI 0)] [0, 1, 5, 9])
 (.block 2
 (.loop
 (.seq
 (.seq
 (.reg 11 [oM 69 9, oQ 70 (.faddr 3 5), oQ 71 (.load none 70), oQ 72 (.len 0 71), oQ 73 (.bin .lss 69 72)] [0, 1, 5, 9, 73])
 (.cond 73
 .skip
 (.exit 2)))
 (.seq
 (.block 3
 (.seq
 (.reg 13 [oQ 76 (.faddr 3 5), oQ 77 (.load none 76), oM 78 9, oQ 79 (.iaddr 2 77 78), oQ 80 (.load (some 2) 79), oK 10 (.alloc [(zU 0), (zI 0)]), oN (.store 2 10 80)] [0, 1, 5, 9, 10])
 (.seq
 (.reg 14 [oQ 81 (.faddr 1 10), oQ 82 (.load none 81), oQ 83 (.bin .geq 82 (cI 0)), oM 84 83, gQ 85 84 true (.faddr 0 10), gQ 86 84 true (.load none 85), gQ 87 84 true (.bin .eql 86 (.c (zU 1))), gQ 88 84 true (.mov 87), gQ 89 88 true (.faddr 1 10), gQ 90 88 true (.load none 89), gQ 91 88 true (.faddr 2 5), gQ 92 88 true (.load none 91), gQ 93 88 true (.len 0 92), gQ 94 88 true (.bin .lss 90 93), gQ 95 84 true (.pick 88 94 (cB false)), gQ 96 84 true (.mov 95), gQ 97 96 false (.faddr 0 10), gQ 98 96 false (.load none 97), gQ 99 96 false (.bin .gtr 98 (.c (zU 1))), gQ 100 96 false (.mov 99), gQ 101 100 true (.faddr 0 10), gQ 102 100 true (.load none 101), gQ 103 100 true (.bin .leq 102 (.c (zU 4))), gQ 104 96 false (.pick 100 103 (cB false)), gQ 105 96 false (.mov 104), gQ 106 105 true (.faddr 1 10), gQ 107 105 true (.load none 106), gQ 108 105 true (.mov 1), gQ 109 105 true (.bin .lss 107 108), gQ 110 96 false (.pick 105 109 (cB false)), gQ 111 84 true (.pick 96 (cB true) 110), oQ 112 (.pick 84 111 (cB false)), oM 11 112] [0, 1, 5, 9, 11])
 (.seq
 (.reg 15 [oM 113 11, oQ 114 (.not 113)] [0, 1, 5, 9, 114])
 (.cond 114
 (.seq
 (.reg 16 [oM 6 (.c .nilptr), oM 7 (cI 5)] [6, 7])
 .ret)
 .skip)))))
 (.reg 12 [oM 74 9, oQ 75 (.bin .add 74 (cI 1)), oM 9 75] [0, 1, 5, 9]))))))
 (.seq
 (.reg 17 [oM 115 0, oM 116 1, oQ 117 (.load (some 5) 5), oQ 118 (.bld [.nilslice, (zI 0), (zU 0), (.bool false), .nilslice, .nilslice, (zI 0)] [⟨0, ⟨1, 115⟩⟩, ⟨1, ⟨1, 116⟩⟩, ⟨2, ⟨5, 117⟩⟩]), oK 119 (.boxt 118), oM 6 119, oM 7 (cI 0)] [6, 7])
 .ret))))))
theorem fok37 : FOK Tryz.prog 37 (120, ic37, [(.t 6), (.t 7)]) := fokA [1000005, 1000119, 2000000] Tryz.func37 (by kernel_rfl) (by kernel_rfl) (by kernel_rfl) (by kernel_rfl)
def ic38 : IC :=
 (.seq
 (.reg 0 [oM 4 (.c .nilslice)] [0, 1])
 (.seq
 (.reg 1 [oK 7 (.bsl 15 0 [(.str []), (zI 0), (.str []), (.str []), (zU 0), (.str []), .nilslice, .nilslice, .nilslice, .nilslice, .nilslice, .nilslice, .nilslice, .nilslice, .nilslice] []), oM 8 1, oK 9 (.app 15 7 8), oM 5 9] [0, 5])
 (.seq
 (.seq
 (.reg 2 [oM 6 (cI 0)] [0, 5, 6])
 (.block 0
 (.loop
 (.seq
 (.seq
 (.reg 3 [oM 10 6, oM 11 0, oQ 12 (.len 0 11), oQ 13 (.bin .lss 10 12)] [0, 5, 6, 13])
 (.cond 13
 .skip
 (.exit 0)))
 (.seq
 (.block 1
 (.reg 5 [oM 16 5, oM 17 0, oM 18 6, oQ 19 (.iaddr 2 17 18), oQ 20 (.faddr 1 19), oQ 21 (.load none 20), oK 22 (.app 15 16 21), oM 5 22] [0, 5, 6]))
 (.reg 4 [oM 14 6, oQ 15 (.bin .add 14 (cI 1)), oM 6 15] [0, 5, 6]))))))
 (.seq
 (.reg 6 [oM 23 5, oM 4 23] [4])
 .ret))))
theorem fok38 : FOK Tryz.prog 38 (24, ic38, [(.t 4)]) := fokA [2000000] Tryz.func38 (by kernel_rfl) (by kernel_rfl) (by kernel_rfl) (by kernel_rfl)
def ic39 : IC :=
 (.seq
 (.reg 0 [oM 2 (.c .nilptr), oM 3 (cI 0)] [0])
 (.seq
 (.reg 1 [oM 7 0, oK 8 (.call 77 [7]), oM 6 8, oQ 9 (.ext 0 6), oQ 10 (.ext 1 6), oM 4 9, oM 5 10] [0, 4, 5])
 (.seq
 (.seq
 (.reg 2 [oM 11 5, oQ 12 (.bin .neq 11 (cI 0))] [0, 4, 5, 12])
 (.cond 12
 (.seq
 (.reg 3 [oM 13 5, oM 2 (.c .nilptr), oM 3 13] [2, 3])
 .ret)
 .skip))
 (.seq
 (.reg 4 [oM 14 4, oM 15 0, oK 16 (.call 41 [15]), oQ 17 (.bld [.nilptr, (zI 0)] [⟨0, ⟨1, 14⟩⟩, ⟨1, ⟨1, 16⟩⟩]), oK 18 (.boxt 17), oM 2 18, oM 3 (cI 0)] [2, 3])
 .ret))))
theorem fok39 : FOK Tryz.prog 39 (19, ic39, [(.t 2), (.t 3)]) := fokA [1000018, 2000000] Tryz.func39 (by kernel_rfl) (by kernel_rfl) (by kernel_rfl) (by kernel_rfl)
def ic40 : IC :=
 (.seq
 (.reg 0 [oM 2 (.c .nilptr)] [0])
 (.seq
 (.seq
 (.reg 1 [oM 3 0, oQ 4 (.isnil (.pointer 167) false 3)] [0, 4])
 (.cond 4
 (.seq
 (.reg 2 [oM 2 (.c .nilptr)] [2])
 .ret)
 .skip))
 (.seq
 (.reg 3 [oM 5 0, oQ 6 (.nchk 5), oQ 7 (.faddr 0 6), oQ 8 (.load none 7), oM 2 8] [2])
 .ret)))
theorem fok40 : FOK Tryz.prog 40 (9, ic40, [(.t 2)]) := fokA [2000000] Tryz.func40 (by kernel_rfl) (by kernel_rfl) (by kernel_rfl) (by kernel_rfl)
def ic41 : IC :=
(.seq
 (.reg 0 [⟨(some 2), none, (.q (.mov (.c (.int .i64 0))))⟩] [0])
 (.seq
  (.seq
   (.reg 1 [⟨(some 3), none, (.q (.mov (.t 0)))⟩, ⟨(some 4), none, (.q (.isnil (.pointer 154) false (.t 3)))⟩] [0, 4])
   (.cond (.t 4)
    (.seq
     (.reg 2 [⟨(some 2), none, (.q (.mov (.c (.int .i64 0))))⟩] [2])
     .ret)
    .skip))
  (.seq
   (.reg 3 [⟨(some 5), none, (.q (.mov (.t 0)))⟩, ⟨(some 6), none, (.q (.nchk (.t 5)))⟩, ⟨(some 7), none, (.q (.faddr 0 (.t 6)))⟩, ⟨(some 8), none, (.q (.load none (.t 7)))⟩, ⟨(some 9), none, (.q (.len 0 (.t 8)))⟩, ⟨(some 2), none, (.q (.mov (.t 9)))⟩] [2])
   .ret)))
theorem fok41 : FOK Tryz.prog 41 (10, ic41, [(.t 2)]) := .mk (pf := []) (an := [(0, [0]), (1, [0, 4]), (2, [2]), (3, [2])]) (by kernel_rfl) (fnOK_of Tryz.func41 (by kernel_rfl) (by kernel_rfl) (by kernel_rfl))
def ic42 : IC :=
(.seq
 (.reg 0 [⟨(some 4), none, (.alloc [(.str []), (.int .i64 0), (.str []), (.str []), (.int .u8 0), (.str []), .nilslice, .nilslice, .nilslice, .nilslice, .nilslice, .nilslice, .nilslice, .nilslice, .nilslice])⟩, ⟨(some 5), none, (.q (.mov (.c (.int .i64 0))))⟩] [0, 1, 4])
 (.seq
  (.seq
   (.reg 1 [⟨(some 6), none, (.q (.mov (.t 0)))⟩, ⟨(some 7), none, (.q (.isnil (.pointer 154) false (.t 6)))⟩, ⟨(some 8), none, (.q (.mov (.t 7)))⟩, ⟨(some 9), (some ⟨8, false⟩), (.q (.mov (.t 0)))⟩, ⟨(some 10), (some ⟨8, false⟩), (.q (.nchk (.t 9)))⟩, ⟨(some 11), (some ⟨8, false⟩), (.q (.faddr 0 (.t 10)))⟩, ⟨(some 12), (some ⟨8, false⟩), (.q (.load none (.t 11)))⟩, ⟨(some 13), (some ⟨8, false⟩), (.q (.mov (.t 1)))⟩, ⟨(some 14), (some ⟨8, false⟩), (.call 88 [(.t 12), (.t 13)])⟩, ⟨(some 15), (some ⟨8, false⟩), (.q (.not (.t 14)))⟩, ⟨(some 16), none, (.q (.pick (.t 8) (.c (.bool true)) (.t 15)))⟩] [0, 1, 4, 16])
   (.cond (.t 16)
    (.seq
     (.reg 2 [⟨(some 17), none, (.q (.bld [(.str []), (.int .i64 0), (.str []), (.str []), (.int .u8 0), (.str []), .nilslice, .nilslice, .nilslice, .nilslice, .nilslice, .nilslice, .nilslice, .nilslice, .nilslice] []))⟩, ⟨none, none, (.store 15 (.t 4) (.t 17))⟩, ⟨(some 5), none, (.q (.mov (.c (.int .i64 5))))⟩] [4, 5])
     .ret)
    .skip))
  (.seq
   (.reg 3 [⟨(some 18), none, (.q (.mov (.t 0)))⟩, ⟨(some 19), none, (.q (.nchk (.t 18)))⟩, ⟨(some 20), none, (.q (.faddr 0 (.t 19)))⟩, ⟨(some 21), none, (.q (.load none (.t 20)))⟩, ⟨(some 22), none, (.q (.mov (.t 1)))⟩, ⟨(some 23), none, (.q (.iaddr 17 (.t 21) (.t 22)))⟩, ⟨(some 24), none, (.q (.faddr 0 (.t 23)))⟩, ⟨(some 25), none, (.q (.load (some 15) (.t 24)))⟩, ⟨(some 26), none, (.call 89 [(.t 25)])⟩, ⟨none, none, (.store 15 (.t 4) (.t 26))⟩, ⟨(some 5), none, (.q (.mov (.c (.int .i64 0))))⟩] [4, 5])
   .ret)))
theorem fok42 : FOK Tryz.prog 42 (27, ic42, [(.cell (some 15) 4), (.t 5)]) := .mk (pf := []) (an := [(0, [0, 1, 4]), (1, [0, 1, 4, 16]), (2, [4, 5]), (3, [4, 5])]) (by kernel_rfl) (fnOK_of Tryz.func42 (by kernel_rfl) (by kernel_rfl) (by kernel_rfl))
def ic43 : IC :=
 (.seq
 (.seq
 (.reg 0 [oM 11 0, oQ 12 (.nchk 11), oQ 13 (.faddr 2 12), oQ 14 (.load none 13), oQ 15 (.len 0 14), oM 16 (cI 0)] [0, 14, 15, 16])
 (.block 0
 (.loop
 (.seq
 (.reg 1 [oQ 17 (.bin .lss 16 15)] [0, 14, 15, 16, 17])
 (.seq
 (.cond 17
 .skip
 (.exit 0))
 (.seq
 (.block 1
 (.seq
 (.reg 2 [oM 18 16, oQ 19 (.iaddr 15 14 16), oQ 20 (.load (some 15) 19), oK 3 (.alloc [(.str []), (zI 0), (.str []), (.str []), (zU 0), (.str []), .nilslice, .nilslice, .nilslice, .nilslice, .nilslice, .nilslice, .nilslice, .nilslice, .nilslice]), oM 2 18, oN (.store 15 3 20)] [0, 2, 3, 14, 15, 16])
 (.seq
 (.seq
 (.reg 3 [oM 21 0, oQ 22 (.nchk 21), oQ 23 (.faddr 0 22), oQ 24 (.load none 23), oM 25 2, oK 26 (.call 90 [24, 25]), oQ 27 (.not 26)] [0, 2, 3, 14, 15, 16, 27])
 (.cond 27
 (.reg 4 [oM 28 0, oM 29 2, oK 30 (.call 91 [28, (.c (zU 1)), 29, (cI 0)])] [0, 2, 3, 14, 15, 16])
 .skip))
 (.seq
 (.reg 5 [oQ 31 (.faddr 7 3), oQ 32 (.load none 31), oQ 33 (.len 0 32), oQ 34 (.bld [(zU 0), (zI 0)] [⟨0, ⟨1, (.c (zU 2))⟩⟩, ⟨1, ⟨1, 33⟩⟩]), oQ 35 (.faddr 8 3), oQ 36 (.load none 35), oQ 37 (.len 0 36), oQ 38 (.bld [(zU 0), (zI 0)] [⟨0, ⟨1, (.c (zU 3))⟩⟩, ⟨1, ⟨1, 37⟩⟩]), oQ 39 (.faddr 9 3), oQ 40 (.load none 39), oQ 41 (.len 0 40), oQ 42 (.bld [(zU 0), (zI 0)] [⟨0, ⟨1, (.c (zU 4))⟩⟩, ⟨1, ⟨1, 41⟩⟩]), oQ 43 (.bld [(zU 0), (zI 0), (zU 0), (zI 0), (zU 0), (zI 0)] [⟨0, ⟨2, 34⟩⟩, ⟨2, ⟨2, 38⟩⟩, ⟨4, ⟨2, 42⟩⟩]), oM 44 (cI 0)] [0, 2, 14, 15, 16, 43, 44])
 (.block 2
 (.loop
 (.seq
 (.reg 6 [oQ 45 (.bin .lss 44 (cI 3))] [0, 2, 14, 15, 16, 43, 44, 45])
 (.seq
 (.cond 45
 .skip
 (.exit 2))
 (.seq
 (.block 3
 (.seq
 (.reg 7 [oQ 46 (.idx (some 2) 3 2 43 44), oK 5 (.alloc [(zU 0), (zI 0)]), oN (.store 2 5 46)] [0, 2, 5, 14, 15, 16, 43, 44])
 (.seq
 (.reg 8 [oQ 47 (.faddr 1 5), oQ 48 (.load none 47), oM 49 (cI 0)] [0, 2, 5, 14, 15, 16, 43, 44, 48, 49])
 (.block 4
 (.loop
 (.seq
 (.reg 9 [oQ 50 (.bin .lss 49 48)] [0, 2, 5, 14, 15, 16, 43, 44, 48, 49, 50])
 (.seq
 (.cond 50
 .skip
 (.exit 4))
 (.seq
 (.block 5
 (.seq
 (.reg 10 [oM 51 49, oM 6 51] [0, 2, 5, 6, 14, 15, 16, 43, 44, 48, 49])
 (.reg 11 [oM 52 0, oQ 53 (.faddr 0 5), oQ 54 (.load none 53), oM 55 2, oM 56 6, oK 57 (.call 91 [52, 54, 55, 56])] [0, 2, 5, 14, 15, 16, 43, 44, 48, 49])))
 (.reg 12 [oQ 58 (.bin .add 49 (cI 1)), oM 49 58] [0, 2, 5, 14, 15, 16, 43, 44, 48, 49])))))))))
 (.reg 13 [oQ 59 (.bin .add 44 (cI 1)), oM 44 59] [0, 2, 14, 15, 16, 43, 44]))))))))))
 (.reg 14 [oQ 60 (.bin .add 16 (cI 1)), oM 16 60] [0, 14, 15, 16])))))))
 (.seq
 (.seq
 (.reg 15 [oM 61 0, oQ 62 (.nchk 61), oQ 63 (.faddr 2 62), oQ 64 (.load none 63), oQ 65 (.len 0 64), oM 66 (cI 0)] [0, 65, 66])
 (.block 6
 (.loop
 (.seq
 (.reg 16 [oQ 67 (.bin .lss 66 65)] [0, 65, 66, 67])
 (.seq
 (.cond 67
 .skip
 (.exit 6))
 (.seq
 (.block 7
 (.seq
 (.reg 17 [oM 68 66, oM 7 68] [0, 7, 65, 66])
 (.seq
 (.reg 18 [oM 69 7, oQ 70 (.bin .add 69 (cI 1)), oM 8 70] [0, 7, 8, 65, 66])
 (.block 8
 (.loop
 (.seq
 (.seq
 (.reg 19 [oM 71 8, oM 72 0, oQ 73 (.nchk 72), oQ 74 (.faddr 2 73), oQ 75 (.load none 74), oQ 76 (.len 0 75), oQ 77 (.bin .lss 71 76)] [0, 7, 8, 65, 66, 77])
 (.cond 77
 .skip
 (.exit 8)))
 (.seq
 (.block 9
 (.seq
 (.reg 21 [oM 80 0, oQ 81 (.nchk 80), oQ 82 (.faddr 0 81), oQ 83 (.load none 82), oM 84 7, oM 85 8, oK 86 (.call 92 [83, 84, 85])] [0, 7, 8, 65, 66, 86])
 (.cond 86
 (.reg 22 [oM 87 0, oM 88 7, oM 89 8, oK 90 (.call 91 [87, (.c (zU 5)), 88, 89])] [0, 7, 8, 65, 66])
 .skip)))
 (.reg 20 [oM 78 8, oQ 79 (.bin .add 78 (cI 1)), oM 8 79] [0, 7, 8, 65, 66]))))))))
 (.reg 23 [oQ 91 (.bin .add 66 (cI 1)), oM 66 91] [0, 65, 66])))))))
 (.seq
 (.seq
 (.reg 24 [oM 92 0, oQ 93 (.nchk 92), oQ 94 (.faddr 0 93), oQ 95 (.load none 94), oK 96 (.call 40 [95]), oK 97 (.call 76 [96]), oM 98 (cI 0)] [0, 97, 98])
 (.block 10
 (.loop
 (.seq
 (.reg 25 [oQ 99 (.bin .lss 98 97)] [0, 97, 98, 99])
 (.seq
 (.cond 99
 .skip
 (.exit 10))
 (.seq
 (.block 11
 (.seq
 (.reg 26 [oM 100 98, oM 9 100] [0, 9, 97, 98])
 (.seq
 (.reg 27 [oM 101 0, oQ 102 (.nchk 101), oQ 103 (.faddr 0 102), oQ 104 (.load none 103), oM 105 9, oK 106 (.call 93 [104, 105]), oQ 107 (.not 106)] [0, 9, 97, 98, 107])
 (.cond 107
 (.reg 28 [oM 108 0, oM 109 9, oK 110 (.call 91 [108, (.c (zU 6)), 109, (cI 0)])] [0, 97, 98])
 .skip))))
 (.reg 29 [oQ 111 (.bin .add 98 (cI 1)), oM 98 111] [0, 97, 98])))))))
 (.seq
 (.reg 30 [oM 112 0, oQ 113 (.nchk 112), oQ 114 (.faddr 0 113), oQ 115 (.load none 114), oK 116 (.call 46 [115]), oQ 117 (.fld none 2 116), oQ 118 (.len 0 117), oM 119 (cI 0)] [0, 118, 119])
 (.block 12
 (.loop
 (.seq
 (.reg 31 [oQ 120 (.bin .lss 119 118)] [0, 118, 119, 120])
 (.seq
 (.cond 120
 .skip
 (.exit 12))
 (.seq
 (.block 13
 (.seq
 (.reg 32 [oM 121 119, oM 10 121] [0, 10, 118, 119])
 (.seq
 (.reg 33 [oM 122 0, oQ 123 (.nchk 122), oQ 124 (.faddr 0 123), oQ 125 (.load none 124), oM 126 10, oK 127 (.call 94 [125, 126]), oQ 128 (.not 127)] [0, 10, 118, 119, 128])
 (.cond 128
 (.reg 34 [oM 129 0, oM 130 10, oK 131 (.call 91 [129, (.c (zU 7)), 130, (cI 0)])] [0, 118, 119])
 .skip))))
 (.reg 35 [oQ 132 (.bin .add 119 (cI 1)), oM 119 132] [0, 118, 119]))))))))))
theorem fok43 : FOK Tryz.prog 43 (133, ic43, []) := fokA [2000000] Tryz.func43 (by kernel_rfl) (by kernel_rfl) (by kernel_rfl) (by kernel_rfl)
def ic46 : IC :=
 (.seq
 (.reg 0 [oK 2 (.alloc [(zU 0), (.bool false), .nilslice, .nilslice, (zI 0)])] [0, 2])
 (.seq
 (.seq
 (.reg 1 [oM 3 0, oQ 4 (.isnil (.pointer 167) false 3)] [0, 2, 4])
 (.cond 4
 (.seq
 (.reg 2 [oQ 5 (.bld [(zU 0), (.bool false), .nilslice, .nilslice, (zI 0)] []), oN (.store 5 2 5)] [2])
 .ret)
 .skip))
 (.seq
 (.reg 3 [oM 6 0, oQ 7 (.nchk 6), oQ 8 (.faddr 2 7), oQ 9 (.load (some 5) 8), oK 10 (.call 78 [9]), oN (.store 5 2 10)] [2])
 .ret)))
theorem fok46 : FOK Tryz.prog 46 (11, ic46, [(.cell (some 5) 2)]) := fokA [2000000] Tryz.func46 (by kernel_rfl) (by kernel_rfl) (by kernel_rfl) (by kernel_rfl)
def ic47 : IC :=
 (.seq
 (.reg 0 [oM 2 (.c .nilptr), oM 3 (cI 0)] [0])
 (.seq
 (.reg 1 [oM 11 0, oK 12 (.call 77 [11]), oM 10 12, oQ 13 (.ext 0 10), oQ 14 (.ext 1 10), oM 4 13, oM 5 14] [0, 4, 5])
 (.seq
 (.seq
 (.reg 2 [oM 15 5, oQ 16 (.bin .neq 15 (cI 0))] [0, 4, 5, 16])
 (.cond 16
 (.seq
 (.reg 3 [oM 17 5, oM 2 (.c .nilptr), oM 3 17] [2, 3])
 .ret)
 .skip))
 (.seq
 (.reg 4 [oM 18 4, oK 19 .mkmap, oQ 20 (.bld [.nilptr, .nilslice, (zI 0), .nilslice, .nilmap] [⟨0, ⟨1, 18⟩⟩, ⟨4, ⟨1, 19⟩⟩]), oK 21 (.box 20), oM 6 21] [0, 6])
 (.seq
 (.seq
 (.reg 5 [oM 22 0, oK 23 (.call 41 [22]), oM 24 (cI 0)] [0, 6, 23, 24])
 (.block 0
 (.loop
 (.seq
 (.reg 6 [oQ 25 (.bin .lss 24 23)] [0, 6, 23, 24, 25])
 (.seq
 (.cond 25
 .skip
 (.exit 0))
 (.seq
 (.block 1
 (.seq
 (.reg 7 [oM 26 24, oM 7 26] [0, 6, 7, 23, 24])
 (.seq
 (.reg 8 [oM 28 0, oM 29 7, oK 30 (.call 42 [28, 29]), oM 27 30, oQ 31 (.ext 0 27), oQ 32 (.ext 1 27), oK 8 (.alloc [(.str []), (zI 0), (.str []), (.str []), (zU 0), (.str []), .nilslice, .nilslice, .nilslice, .nilslice, .nilslice, .nilslice, .nilslice, .nilslice, .nilslice]), oN (.store 15 8 31), oM 9 32] [0, 6, 8, 9, 23, 24])
 (.seq
 (.seq
 (.reg 9 [oM 33 9, oQ 34 (.bin .neq 33 (cI 0))] [0, 6, 8, 9, 23, 24, 34])
 (.cond 34
 (.seq
 (.reg 10 [oM 35 9, oM 2 (.c .nilptr), oM 3 35] [2, 3])
 .ret)
 .skip))
 (.oreg 11 [(0, oM 36 6, 0), (1, oM 37 6, 0), (2, oQ 38 (.nchk 37), 0), (3, oQ 39 (.faddr 1 38), 0), (4, oQ 40 (.load none 39), 0), (5, oQ 41 (.load (some 15) 8), 0), (6, oK 42 (.bslt 15 1 [(.str []), (zI 0), (.str []), (.str []), (zU 0), (.str []), .nilslice, .nilslice, .nilslice, .nilslice, .nilslice, .nilslice, .nilslice, .nilslice, .nilslice] [⟨0, ⟨15, 41⟩⟩]), 0), (7, oK 43 (.app 15 40 42), 0), (8, oQ 44 (.nchk 36), 0), (9, oQ 45 (.faddr 1 44), 0), (10, oN (.store 1 45 43), 0)] [0, 6, 23, 24])))))
 (.reg 12 [oQ 46 (.bin .add 24 (cI 1)), oM 24 46] [0, 6, 23, 24])))))))
 (.seq
 (.reg 13 [oM 47 6, oM 2 47, oM 3 (cI 0)] [2, 3])
 .ret))))))
theorem fok47 : FOK Tryz.prog 47 (48, ic47, [(.t 2), (.t 3)]) := fokA [1000042, 2000000] Tryz.func47 (by kernel_rfl) (by kernel_rfl) (by kernel_rfl) (by kernel_rfl)
def ic48 : IC :=
 (.seq
 (.reg 0 [oM 2 (.c .nilslice)] [0])
 (.seq
 (.seq
 (.reg 1 [oM 3 0, oQ 4 (.isnil (.pointer 115) false 3)] [0, 4])
 (.cond 4
 (.seq
 (.reg 2 [oM 2 (.c .nilslice)] [2])
 .ret)
 .skip))
 (.seq
 (.reg 3 [oM 5 0, oQ 6 (.nchk 5), oQ 7 (.faddr 3 6), oQ 8 (.load none 7), oK 9 (.call 79 [8]), oM 2 9] [2])
 .ret)))
theorem fok48 : FOK Tryz.prog 48 (10, ic48, [(.t 2)]) := fokA [2000000] Tryz.func48 (by kernel_rfl) (by kernel_rfl) (by kernel_rfl) (by kernel_rfl)
def ic49 : IC :=
 (.seq
 (.reg 0 [oK 3 (.boxt 1), oM 4 (.c .nilslice), oM 5 (cI 0)] [3])
 (.seq
 (.reg 1 [oQ 6 (.faddr 1 3), oQ 7 (.load none 6), oK 8 (.bslt 1 1 [(zI 0)] [⟨0, ⟨1, 7⟩⟩]), oK 9 (.call 95 [8]), oK 10 (.bslt 1 1 [.nilslice] [⟨0, ⟨1, 9⟩⟩]), oM 4 10, oM 5 (cI 0)] [4, 5])
 .ret))
theorem fok49 : FOK Tryz.prog 49 (11, ic49, [(.t 4), (.t 5)]) := fokA [1000003, 1000008, 1000010, 2000000] Tryz.func49 (by kernel_rfl) (by kernel_rfl) (by kernel_rfl) (by kernel_rfl)
def ic50 : IC :=
 (.seq
 (.reg 0 [oK 3 (.boxt 1), oM 4 (.c .nilslice), oM 5 (cI 0)] [0, 3])
 (.seq
 (.dreg 1 [oM 10 0, oQ 11 (.nchk 10), oQ 12 (.faddr 0 11), oQ 13 (.load none 12), oK 14 (.pcall 40 [13]), oQ 15 (.faddr 1 3), oQ 16 (.load none 15), oK 17 (.pcall 42 [14, 16]), oM 9 17, oQ 18 (.ext 0 9), oQ 19 (.ext 1 9), oK 6 (.alloc [(.str []), (zI 0), (.str []), (.str []), (zU 0), (.str []), .nilslice, .nilslice, .nilslice, .nilslice, .nilslice, .nilslice, .nilslice, .nilslice, .nilslice]), oN (.store 15 6 18), oM 7 19] false [0, 3, 6, 7])
 (.seq
 (.seq
 (.reg 2 [oM 20 7, oQ 21 (.bin .neq 20 (cI 0))] [0, 3, 6, 7, 21])
 (.cond 21
 (.seq
 (.reg 3 [oM 22 7, oM 4 (.c .nilslice), oM 5 22] [4, 5])
 .ret)
 .skip))
 (.seq
 (.dreg 4 [oM 24 0, oQ 25 (.nchk 24), oQ 26 (.faddr 2 25), oQ 27 (.load none 26), oQ 28 (.faddr 7 6), oQ 29 (.load none 28), oQ 30 (.faddr 2 3), oQ 31 (.load none 30), oQ 32 (.iaddr 7 29 31), oQ 33 (.load (some 7) 32), oK 34 (.call 96 [27, 33, (cI (-1))]), oM 23 34, oQ 35 (.ext 0 23), oQ 36 (.ext 1 23), oM 8 35, oM 7 36] false [3, 7, 8])
 (.seq
 (.reg 5 [oQ 37 (.faddr 1 3), oQ 38 (.load none 37), oK 39 (.bslt 1 1 [(zI 0)] [⟨0, ⟨1, 38⟩⟩]), oK 40 (.call 95 [39]), oM 41 8, oK 42 (.bslt 1 1 [(zI 0)] [⟨0, ⟨1, 41⟩⟩]), oK 43 (.app 1 40 42), oK 44 (.bslt 1 1 [.nilslice] [⟨0, ⟨1, 43⟩⟩]), oM 45 7, oM 4 44, oM 5 45] [4, 5])
 .ret)))))
theorem fok50 : FOK Tryz.prog 50 (46, ic50, [(.t 4), (.t 5)]) := fokA [1000003, 1000039, 1000042, 1000044, 2000000, 40, 42] Tryz.func50 (by kernel_rfl) (by kernel_rfl) (by kernel_rfl) (by kernel_rfl)
def ic51 : IC :=
 (.seq
 (.reg 0 [oK 3 (.boxt 1), oM 4 (.c .nilslice), oM 5 (cI 0)] [0, 3])
 (.seq
 (.dreg 1 [oM 10 0, oQ 11 (.nchk 10), oQ 12 (.faddr 0 11), oQ 13 (.load none 12), oK 14 (.pcall 40 [13]), oQ 15 (.faddr 1 3), oQ 16 (.load none 15), oK 17 (.pcall 42 [14, 16]), oM 9 17, oQ 18 (.ext 0 9), oQ 19 (.ext 1 9), oK 6 (.alloc [(.str []), (zI 0), (.str []), (.str []), (zU 0), (.str []), .nilslice, .nilslice, .nilslice, .nilslice, .nilslice, .nilslice, .nilslice, .nilslice, .nilslice]), oN (.store 15 6 18), oM 7 19] false [0, 3, 6, 7])
 (.seq
 (.seq
 (.reg 2 [oM 20 7, oQ 21 (.bin .neq 20 (cI 0))] [0, 3, 6, 7, 21])
 (.cond 21
 (.seq
 (.reg 3 [oM 22 7, oM 4 (.c .nilslice), oM 5 22] [4, 5])
 .ret)
 .skip))
 (.seq
 (.dreg 4 [oM 24 0, oQ 25 (.nchk 24), oQ 26 (.faddr 2 25), oQ 27 (.load none 26), oQ 28 (.faddr 8 6), oQ 29 (.load none 28), oQ 30 (.faddr 2 3), oQ 31 (.load none 30), oQ 32 (.iaddr 7 29 31), oQ 33 (.load (some 7) 32), oQ 34 (.faddr 1 3), oQ 35 (.load none 34), oK 36 (.call 96 [27, 33, 35]), oM 23 36, oQ 37 (.ext 0 23), oQ 38 (.ext 1 23), oM 8 37, oM 7 38] false [3, 7, 8])
 (.seq
 (.reg 5 [oQ 39 (.faddr 1 3), oQ 40 (.load none 39), oK 41 (.bslt 1 1 [(zI 0)] [⟨0, ⟨1, 40⟩⟩]), oK 42 (.call 95 [41]), oM 43 8, oQ 44 (.neg 43), oK 45 (.bslt 1 1 [(zI 0)] [⟨0, ⟨1, 44⟩⟩]), oK 46 (.app 1 42 45), oK 47 (.bslt 1 1 [.nilslice] [⟨0, ⟨1, 46⟩⟩]), oM 48 7, oM 4 47, oM 5 48] [4, 5])
 .ret)))))
theorem fok51 : FOK Tryz.prog 51 (49, ic51, [(.t 4), (.t 5)]) := fokA [1000003, 1000041, 1000045, 1000047, 2000000, 40, 42] Tryz.func51 (by kernel_rfl) (by kernel_rfl) (by kernel_rfl) (by kernel_rfl)
def ic52 : IC :=
 (.seq
 (.reg 0 [oK 3 (.boxt 1), oM 4 (.c .nilslice), oM 5 (cI 0)] [0, 3])
 (.seq
 (.dreg 1 [oM 12 0, oQ 13 (.nchk 12), oQ 14 (.faddr 0 13), oQ 15 (.load none 14), oK 16 (.pcall 40 [15]), oQ 17 (.faddr 1 3), oQ 18 (.load none 17), oK 19 (.pcall 42 [16, 18]), oM 11 19, oQ 20 (.ext 0 11), oQ 21 (.ext 1 11), oK 6 (.alloc [(.str []), (zI 0), (.str []), (.str []), (zU 0), (.str []), .nilslice, .nilslice, .nilslice, .nilslice, .nilslice, .nilslice, .nilslice, .nilslice, .nilslice]), oN (.store 15 6 20), oM 7 21] false [0, 3, 6, 7])
 (.seq
 (.seq
 (.reg 2 [oM 22 7, oQ 23 (.bin .neq 22 (cI 0))] [0, 3, 6, 7, 23])
 (.cond 23
 (.seq
 (.reg 3 [oM 24 7, oM 4 (.c .nilslice), oM 5 24] [4, 5])
 .ret)
 .skip))
 (.seq
 (.reg 4 [oM 8 (.c .nilslice)] [0, 3, 6, 8])
 (.seq
 (.seq
 (.oreg 5 [(0, oM 25 0, 0), (1, oQ 26 (.nchk 25), 0), (2, oQ 27 (.faddr 0 26), 0), (3, oQ 28 (.load none 27), 0), (5, oQ 30 (.faddr 9 6), 0), (6, oQ 31 (.load none 30), 0), (7, oQ 32 (.faddr 2 3), 0), (8, oQ 33 (.load none 32), 0), (9, oQ 34 (.iaddr 5 31 33), 0), (10, oQ 35 (.load (some 5) 34), 0), (13, oM 38 (cI 0), 0), (4, oK 29 (.call 97 [28]), 1344), (11, oK 36 (.call 98 [29, 35]), 0), (12, oQ 37 (.len 0 36), 0)] [3, 8, 36, 37, 38])
 (.block 0
 (.loop
 (.seq
 (.reg 6 [oQ 39 (.bin .lss 38 37)] [3, 8, 36, 37, 38, 39])
 (.seq
 (.cond 39
 .skip
 (.exit 0))
 (.seq
 (.block 1
 (.seq
 (.reg 7 [oQ 40 (.iaddr 1 36 38), oQ 41 (.load none 40), oM 10 41] [3, 8, 10, 36, 37, 38])
 (.seq
 (.reg 8 [oM 42 10, oQ 43 (.faddr 1 3), oQ 44 (.load none 43), oQ 45 (.bin .neq 42 44)] [3, 8, 10, 36, 37, 38, 45])
 (.cond 45
 (.reg 9 [oM 46 8, oQ 47 (.faddr 1 3), oQ 48 (.load none 47), oM 49 10, oK 50 (.bslt 1 2 [(zI 0)] [⟨0, ⟨1, 48⟩⟩, ⟨1, ⟨1, 49⟩⟩]), oK 51 (.call 95 [50]), oK 52 (.bslt 1 1 [.nilslice] [⟨0, ⟨1, 51⟩⟩]), oK 53 (.app 1 46 52), oM 8 53] [3, 8, 36, 37, 38])
 .skip))))
 (.reg 10 [oQ 54 (.bin .add 38 (cI 1)), oM 38 54] [3, 8, 36, 37, 38])))))))
 (.seq
 (.reg 11 [oM 55 8, oM 4 55, oM 5 (cI 0)] [4, 5])
 .ret))))))
theorem fok52 : FOK Tryz.prog 52 (56, ic52, [(.t 4), (.t 5)]) := fokA [1000003, 1000050, 1000052, 2000000, 40, 42] Tryz.func52 (by kernel_rfl) (by kernel_rfl) (by kernel_rfl) (by kernel_rfl)
def ic53 : IC :=
 (.seq
 (.reg 0 [oK 3 (.boxt 1), oM 4 (.c .nilslice), oM 5 (cI 0)] [3])
 (.seq
 (.reg 1 [oQ 6 (.faddr 1 3), oQ 7 (.load none 6), oQ 8 (.faddr 2 3), oQ 9 (.load none 8), oK 10 (.bslt 1 2 [(zI 0)] [⟨0, ⟨1, 7⟩⟩, ⟨1, ⟨1, 9⟩⟩]), oK 11 (.call 95 [10]), oK 12 (.bslt 1 1 [.nilslice] [⟨0, ⟨1, 11⟩⟩]), oM 4 12, oM 5 (cI 0)] [4, 5])
 .ret))
theorem fok53 : FOK Tryz.prog 53 (13, ic53, [(.t 4), (.t 5)]) := fokA [1000003, 1000010, 1000012, 2000000] Tryz.func53 (by kernel_rfl) (by kernel_rfl) (by kernel_rfl) (by kernel_rfl)
def ic54 : IC :=
 (.seq
 (.reg 0 [oK 3 (.boxt 1), oM 4 (.c .nilslice), oM 5 (cI 0)] [0, 3])
 (.seq
 (.dreg 1 [oM 6 0, oQ 7 (.nchk 6), oQ 8 (.faddr 0 7), oQ 9 (.load none 8), oQ 10 (.faddr 1 3), oQ 11 (.load none 10), oK 12 (.call 100 [9, 11]), oK 13 (.call 99 [12]), oK 14 (.bslt 1 1 [.nilslice] [⟨0, ⟨1, 13⟩⟩]), oM 4 14, oM 5 (cI 0)] false [4, 5])
 .ret))
theorem fok54 : FOK Tryz.prog 54 (15, ic54, [(.t 4), (.t 5)]) := fokA [1000003, 1000014, 2000000] Tryz.func54 (by kernel_rfl) (by kernel_rfl) (by kernel_rfl) (by kernel_rfl)
def ic55 : IC :=
 (.seq
 (.reg 0 [oK 3 (.boxt 1), oM 4 (.c .nilslice), oM 5 (cI 0)] [0, 3])
 (.seq
 (.oreg 1 [(0, oM 12 0, 0), (1, oQ 13 (.nchk 12), 0), (2, oQ 14 (.faddr 0 13), 0), (3, oQ 15 (.load none 14), 0), (6, oQ 18 (.faddr 1 3), 0), (7, oQ 19 (.load none 18), 0), (11, oM 23 0, 0), (12, oQ 24 (.nchk 23), 0), (13, oQ 25 (.faddr 0 24), 0), (14, oQ 26 (.load none 25), 0), (15, oQ 27 (.faddr 1 3), 0), (16, oQ 28 (.load none 27), 0), (4, oK 16 (.call 46 [15]), 82048), (5, oQ 17 (.fld none 2 16), 0), (8, oQ 20 (.iaddr 6 17 19), 0), (9, oQ 21 (.faddr 0 20), 0), (10, oQ 22 (.load none 21), 0), (17, oK 29 (.call 101 [26, 28]), 1152), (18, oM 6 22, 0), (19, oM 7 29, 0)] [0, 6, 7])
 (.seq
 (.seq
 (.reg 2 [oM 30 6, oQ 31 (.bin .eql 30 (.c (zU 1)))] [0, 6, 7, 31])
 (.cond 31
 (.seq
 (.reg 3 [oM 32 7, oK 33 (.call 99 [32]), oK 34 (.bslt 1 1 [.nilslice] [⟨0, ⟨1, 33⟩⟩]), oM 4 34, oM 5 (cI 0)] [4, 5])
 .ret)
 .skip))
 (.seq
 (.reg 4 [oM 8 (.c .nilslice)] [0, 6, 7, 8])
 (.seq
 (.seq
 (.reg 5 [oM 35 7, oQ 36 (.len 0 35), oM 37 (cI 0)] [0, 6, 8, 35, 36, 37])
 (.block 0
 (.loop
 (.seq
 (.reg 6 [oQ 38 (.bin .lss 37 36)] [0, 6, 8, 35, 36, 37, 38])
 (.seq
 (.cond 38
 .skip
 (.exit 0))
 (.seq
 (.block 1
 (.seq
 (.reg 7 [oQ 39 (.iaddr 1 35 37), oQ 40 (.load none 39), oM 10 40] [0, 6, 8, 10, 35, 36, 37])
 (.seq
 (.reg 8 [oM 41 10, oK 42 (.bslt 1 1 [(zI 0)] [⟨0, ⟨1, 41⟩⟩]), oK 43 (.call 95 [42]), oM 11 43] [0, 6, 8, 10, 11, 35, 36, 37])
 (.seq
 (.seq
 (.reg 9 [oM 44 6] [0, 6, 8, 10, 11, 35, 36, 37, 44])
 (.block 2
 (.seq
 (.reg 10 [oQ 46 (.bin .eql 44 (.c (zU 3))), oM 45 46] [0, 6, 8, 10, 11, 35, 36, 37, 44, 45])
 (.cond 45
 (.reg 11 [oM 47 0, oQ 48 (.nchk 47), oQ 49 (.faddr 0 48), oQ 50 (.load none 49), oM 51 10, oK 52 (.call 100 [50, 51]), oK 53 (.call 99 [52]), oM 11 53] [0, 6, 8, 11, 35, 36, 37])
 (.seq
 (.reg 12 [oQ 55 (.bin .eql 44 (.c (zU 4))), oM 54 55] [0, 6, 8, 10, 11, 35, 36, 37, 54])
 (.cond 54
 (.seq
 (.reg 13 [oM 56 0, oQ 57 (.nchk 56), oQ 58 (.faddr 0 57), oQ 59 (.load none 58), oM 60 10, oK 61 (.call 102 [59, 60]), oK 62 (.call 99 [61]), oM 11 62] [0, 6, 8, 11, 35, 36, 37])
 (.seq
 (.reg 14 [oM 63 11, oQ 64 (.len 0 63), oQ 65 (.bin .eql 64 (cI 0))] [0, 6, 8, 11, 35, 36, 37, 65])
 (.cond 65
 (.exit 1)
 .skip)))
 .skip))))))
 (.reg 15 [oM 66 8, oM 67 11, oK 68 (.bslt 1 1 [.nilslice] [⟨0, ⟨1, 67⟩⟩]), oK 69 (.app 1 66 68), oM 8 69] [0, 6, 8, 35, 36, 37])))))
 (.reg 16 [oQ 70 (.bin .add 37 (cI 1)), oM 37 70] [0, 6, 8, 35, 36, 37])))))))
 (.seq
 (.reg 17 [oM 71 8, oM 4 71, oM 5 (cI 0)] [4, 5])
 .ret))))))
theorem fok55 : FOK Tryz.prog 55 (72, ic55, [(.t 4), (.t 5)]) := fokA [1000003, 1000034, 1000042, 1000068, 2000000] Tryz.func55 (by kernel_rfl) (by kernel_rfl) (by kernel_rfl) (by kernel_rfl)
def ic56 : IC :=
 (.seq
 (.reg 0 [oM 2 (.c .nilptr), oM 3 (cI 0)] [0])
 (.seq
 (.reg 1 [oM 7 0, oK 8 (.call 103 [7]), oM 6 8, oQ 9 (.ext 0 6), oQ 10 (.ext 1 6), oM 4 9, oM 5 10] [4, 5])
 (.seq
 (.seq
 (.reg 2 [oM 11 5, oQ 12 (.bin .neq 11 (cI 0))] [4, 5, 12])
 (.cond 12
 (.seq
 (.reg 3 [oM 13 5, oM 2 (.c .nilptr), oM 3 13] [2, 3])
 .ret)
 .skip))
 (.seq
 (.reg 4 [oM 14 4, oQ 15 (.bld [.nilptr] [⟨0, ⟨1, 14⟩⟩]), oK 16 .mkmap, oQ 17 (.bld [.nilptr, .nilslice, .nilslice, .nilmap, (zI 0), .nilslice] [⟨0, ⟨1, 15⟩⟩, ⟨3, ⟨1, 16⟩⟩]), oK 18 (.box 17), oM 2 18, oM 3 (cI 0)] [2, 3])
 .ret))))
theorem fok56 : FOK Tryz.prog 56 (19, ic56, [(.t 2), (.t 3)]) := fokA [2000000] Tryz.func56 (by kernel_rfl) (by kernel_rfl) (by kernel_rfl) (by kernel_rfl)
def ic57 : IC :=
 (.seq
 (.reg 0 [oM 4 (cI 0)] [0, 1])
 (.seq
 (.reg 1 [oM 8 0, oQ 9 (.nchk 8), oQ 10 (.faddr 0 9), oQ 11 (.load none 10), oM 12 1, oK 13 (.call 104 [11, 12]), oM 7 13, oQ 14 (.ext 0 7), oQ 15 (.ext 1 7), oM 5 14, oM 6 15] [0, 1, 6])
 (.seq
 (.reg 2 [oM 16 0, oM 17 0, oQ 18 (.nchk 17), oQ 19 (.faddr 2 18), oQ 20 (.load none 19), oM 21 1, oK 22 (.bslt 1 1 [.nilslice] [⟨0, ⟨1, 21⟩⟩]), oK 23 (.app 1 20 22), oQ 24 (.nchk 16), oQ 25 (.faddr 2 24), oN (.store 1 25 23)] [6])
 (.seq
 (.reg 3 [oM 26 6, oM 4 26] [4])
 .ret))))
theorem fok57 : FOK Tryz.prog 57 (27, ic57, [(.t 4)]) := fokA [1000022, 2000000] Tryz.func57 (by kernel_rfl) (by kernel_rfl) (by kernel_rfl) (by kernel_rfl)
def ic58 : IC :=
 (.seq
 (.reg 0 [oM 2 (cI 0), oM 3 (cI 0)] [0])
 (.seq
 (.seq
 (.reg 1 [oM 5 0, oQ 6 (.nchk 5), oQ 7 (.faddr 0 6), oQ 8 (.load none 7), oK 9 (.call 105 [8]), oM 4 9] [0, 4])
 (.seq
 (.reg 2 [oM 10 4, oQ 11 (.bin .geq 10 (cI 0))] [0, 4, 11])
 (.cond 11
 (.seq
 (.reg 3 [oM 12 4, oM 2 (cI 0), oM 3 12] [2, 3])
 .ret)
 .skip)))
 (.seq
 (.block 0
 (.loop
 (.seq
 (.seq
 (.dreg 4 [oM 13 0, oQ 14 (.nchk 13), oQ 15 (.faddr 3 14), oQ 16 (.load none 15), oM 17 0, oQ 18 (.nchk 17), oQ 19 (.faddr 1 18), oQ 20 (.load none 19), oQ 21 (.bin .lss 16 20)] false [0, 21])
 (.cond 21
 .skip
 (.exit 0)))
 (.seq
 (.block 1
 (.seq
 (.dreg 6 [oM 29 0, oQ 30 (.nchk 29), oQ 31 (.faddr 0 30), oQ 32 (.load none 31), oM 33 0, oQ 34 (.nchk 33), oQ 35 (.faddr 3 34), oQ 36 (.load none 35), oQ 37 (.bin .add 36 (cI 1)), oK 38 (.call 63 [32, 37]), oQ 39 (.bin .eql 38 (cI 0))] false [0, 39])
 (.cond 39
 (.seq
 (.dreg 7 [oM 40 0, oQ 41 (.nchk 40), oQ 42 (.faddr 3 41), oQ 43 (.load none 42), oM 2 (cI 1), oM 3 43] false [2, 3])
 .ret)
 .skip)))
 (.reg 5 [oM 22 0, oQ 23 (.nchk 22), oQ 24 (.faddr 3 23), oQ 25 (.load none 24), oQ 26 (.bin .add 25 (cI 1)), oQ 27 (.nchk 22), oQ 28 (.faddr 3 27), oN (.store 1 28 26)] [0])))))
 (.seq
 (.reg 8 [oM 2 (cI 2), oM 3 (cI 0)] [2, 3])
 .ret))))
theorem fok58 : FOK Tryz.prog 58 (44, ic58, [(.t 2), (.t 3)]) := fokA [2000000] Tryz.func58 (by kernel_rfl) (by kernel_rfl) (by kernel_rfl) (by kernel_rfl)
def ic59 : IC :=
 (.seq
 (.reg 0 [oM 4 (cI 0)] [0, 1])
 (.seq
 (.seq
 (.reg 1 [oM 5 0, oQ 6 (.isnil (.pointer 202) false 5)] [0, 1, 6])
 (.cond 6
 (.seq
 (.reg 2 [oM 4 (cI 2)] [4])
 .ret)
 .skip))
 (.seq
 (.reg 3 [oM 7 0, oQ 8 (.nchk 7), oQ 9 (.faddr 0 8), oQ 10 (.faddr 0 9), oQ 11 (.load none 10), oM 12 1, oK 13 (.call 106 [11, 12]), oM 4 13] [4])
 .ret)))
theorem fok59 : FOK Tryz.prog 59 (14, ic59, [(.t 4)]) := fokA [2000000] Tryz.func59 (by kernel_rfl) (by kernel_rfl) (by kernel_rfl) (by kernel_rfl)
def ic60 : IC :=
 (.seq
 (.reg 0 [oM 6 (.c .nilslice), oM 7 (cI 0), oM 8 (.c .nilslice), oM 9 (cI 0)] [0, 1, 2, 6, 7])
 (.seq
 (.block 0
 (.seq
 (.reg 1 [oM 26 0, oQ 27 (.isnil (.pointer 252) false 26), oM 25 27] [0, 1, 2, 6, 7, 25])
 (.cond 25
 (.seq
 (.reg 2 [oM 6 (.c .nilslice), oM 7 (cI 0), oM 8 (.c .nilslice), oM 9 (cI 2)] [6, 7, 8, 9])
 .ret)
 (.seq
 (.reg 3 [oM 29 2, oQ 30 (.bin .lss 29 (cI 0)), oM 31 30, gQ 32 31 false (.mov 2), gQ 33 31 false (.mov 1), gQ 34 31 false (.len 0 33), gQ 35 31 false (.bin .geq 32 34), oQ 36 (.pick 31 (cB true) 35), oM 28 36] [0, 1, 2, 6, 7, 28])
 (.cond 28
 (.seq
 (.reg 4 [oM 6 (.c .nilslice), oM 7 (cI 0), oM 8 (.c .nilslice), oM 9 (cI 1)] [6, 7, 8, 9])
 .ret)
 .skip)))))
 (.seq
 (.reg 5 [oM 37 0, oM 38 1, oM 39 0, oK 40 (.call 107 [39]), oK 41 (.mksl 1 [(zI 0)] 40), oK 42 .mkmap, oQ 43 (.bld [.nilptr, .nilslice, .nilslice, .nilmap] [⟨0, ⟨1, 37⟩⟩, ⟨1, ⟨1, 38⟩⟩, ⟨2, ⟨1, 41⟩⟩, ⟨3, ⟨1, 42⟩⟩]), oK 44 (.box 43), oM 10 44] [0, 1, 2, 6, 7, 10])
 (.seq
 (.seq
 (.reg 6 [oM 45 0, oK 46 (.call 108 [45]), oM 47 (cI 0)] [0, 1, 2, 6, 7, 10, 46, 47])
 (.block 1
 (.loop
 (.seq
 (.reg 7 [oQ 48 (.bin .lss 47 46)] [0, 1, 2, 6, 7, 10, 46, 47, 48])
 (.seq
 (.cond 48
 .skip
 (.exit 1))
 (.seq
 (.block 2
 (.seq
 (.reg 8 [oM 49 47, oM 11 49] [0, 1, 2, 6, 7, 10, 11, 46, 47])
 (.oreg 9 [(0, oM 50 10, 0), (1, oQ 51 (.nchk 50), 0), (2, oQ 52 (.faddr 2 51), 0), (3, oQ 53 (.load none 52), 0), (4, oM 54 0, 0), (5, oM 55 11, 0), (8, oM 58 11, 0), (6, oK 56 (.call 110 [54, 55]), 8), (7, oK 57 (.call 109 [56]), 8), (9, oQ 59 (.iaddr 1 53 57), 0), (10, oN (.store 1 59 58), 0)] [0, 1, 2, 6, 7, 10, 46, 47])))
 (.reg 10 [oQ 60 (.bin .add 47 (cI 1)), oM 47 60] [0, 1, 2, 6, 7, 10, 46, 47])))))))
 (.seq
 (.seq
 (.oreg 11 [(0, oM 61 10, 0), (1, oM 62 1, 0), (2, oM 63 2, 0), (3, oQ 64 (.iaddr 1 62 63), 0), (4, oQ 65 (.load none 64), 0), (5, oM 66 0, 0), (6, oK 67 (.call 108 [66]), 16), (7, oK 68 (.call 111 [61, 65, (cI 0), 67]), 0), (8, oM 12 68, 0)] [0, 1, 2, 6, 7, 10, 12])
 (.seq
 (.reg 12 [oM 69 12, oQ 70 (.bin .neq 69 (cI 0))] [0, 1, 2, 6, 7, 10, 12, 70])
 (.cond 70
 (.seq
 (.reg 13 [oM 71 12, oM 6 (.c .nilslice), oM 7 (cI 0), oM 8 (.c .nilslice), oM 9 71] [6, 7, 8, 9])
 .ret)
 .skip)))
 (.seq
 (.seq
 (.reg 14 [oM 73 10, oK 74 (.call 112 [73]), oM 72 74, oQ 75 (.ext 0 72), oQ 76 (.ext 1 72), oM 13 75, oM 14 76] [0, 1, 2, 6, 7, 10, 14])
 (.seq
 (.reg 15 [oM 77 14, oQ 78 (.bin .eql 77 (cI 0)), oM 79 78, gQ 80 79 true (.mov 0), gK 81 79 true (.call 113 [80]), gQ 82 79 true (.bin .gtr 81 (cI 0)), oQ 83 (.pick 79 82 (cB false))] [0, 1, 2, 6, 7, 10, 83])
 (.cond 83
 (.seq
 (.reg 16 [oM 6 (.c .nilslice), oM 7 (cI 0), oM 8 (.c .nilslice), oM 9 (cI 7)] [6, 7, 8, 9])
 .ret)
 .skip)))
 (.seq
 (.reg 17 [oM 84 2, oK 85 (.bsl 1 1 [(zI 0)] [⟨0, ⟨1, 84⟩⟩]), oM 8 85] [0, 1, 6, 7, 8, 10])
 (.seq
 (.block 3
 (.loop
 (.block 4
 (.seq
 (.reg 18 [oM 87 10, oK 88 (.call 112 [87]), oM 86 88, oQ 89 (.ext 0 86), oQ 90 (.ext 1 86), oM 15 89, oM 16 90] [0, 1, 6, 7, 8, 10, 15, 16])
 (.seq
 (.seq
 (.reg 19 [oM 91 16, oQ 92 (.bin .eql 91 (cI 0)), oM 93 92, gQ 94 93 true (.mov 0), gK 95 93 true (.call 113 [94]), gQ 96 93 true (.bin .eql 95 (cI 0)), oQ 97 (.pick 93 96 (cB false))] [0, 1, 6, 7, 8, 10, 15, 16, 97])
 (.cond 97
 (.seq
 (.reg 20 [oM 98 8, oM 6 (.c .nilslice), oM 7 (cI (-1)), oM 8 98, oM 9 (cI 0)] [6, 7, 8, 9])
 .ret)
 .skip))
 (.seq
 (.seq
 (.reg 21 [oM 99 16, oQ 100 (.bin .eql 99 (cI 1)), oM 101 100, gQ 102 101 true (.mov 0), gK 103 101 true (.call 113 [102]), gQ 104 101 true (.bin .gtr 103 (cI 0)), oQ 105 (.pick 101 104 (cB false))] [0, 1, 6, 7, 8, 10, 15, 105])
 (.cond 105
 (.exit 3)
 .skip))
 (.seq
 (.reg 22 [oM 106 0, oM 107 15, oK 108 (.call 110 [106, 107]), oM 17 108] [0, 1, 6, 7, 8, 10, 15, 17])
 (.seq
 (.reg 23 [oM 109 0, oM 110 17, oK 111 (.call 109 [110]), oK 112 (.call 114 [109, 111]), oM 18 112] [0, 1, 6, 7, 8, 10, 15, 17, 18])
 (.seq
 (.seq
 (.reg 24 [oM 113 18, oQ 114 (.bin .lss 113 (cI 0)), oM 115 114, gQ 116 115 false (.mov 18), gQ 117 115 false (.mov 1), gQ 118 115 false (.len 0 117), gQ 119 115 false (.bin .geq 116 118), oQ 120 (.pick 115 (cB true) 119)] [0, 1, 6, 7, 8, 10, 15, 17, 18, 120])
 (.cond 120
 (.seq
 (.reg 25 [oM 6 (.c .nilslice), oM 7 (cI 0), oM 8 (.c .nilslice), oM 9 (cI 7)] [6, 7, 8, 9])
 .ret)
 .skip))
 (.seq
 (.reg 26 [oM 121 10, oQ 122 (.nchk 121), oQ 123 (.faddr 3 122), oQ 124 (.load none 123), oM 125 15, oN (.st (.mdel 1) [124, 125])] [0, 1, 6, 7, 8, 10, 15, 17, 18])
 (.seq
 (.seq
 (.reg 27 [oM 126 10, oM 127 1, oM 128 18, oQ 129 (.iaddr 1 127 128), oQ 130 (.load none 129), oM 131 17, oM 132 15, oK 133 (.call 111 [126, 130, 131, 132]), oM 19 133] [0, 1, 6, 7, 8, 10, 18, 19])
 (.seq
 (.reg 28 [oM 134 19, oQ 135 (.bin .neq 134 (cI 0))] [0, 1, 6, 7, 8, 10, 18, 19, 135])
 (.cond 135
 (.seq
 (.reg 29 [oM 136 19, oM 6 (.c .nilslice), oM 7 (cI 0), oM 8 (.c .nilslice), oM 9 136] [6, 7, 8, 9])
 .ret)
 .skip)))
 (.reg 30 [oM 137 8, oM 138 18, oK 139 (.bslt 1 1 [(zI 0)] [⟨0, ⟨1, 138⟩⟩]), oK 140 (.app 1 137 139), oM 8 140] [0, 1, 6, 7, 8, 10]))))))))))))
 (.seq
 (.seq
 (.reg 31 [oM 141 0, oK 142 (.call 108 [141]), oM 143 (cI 0)] [0, 6, 7, 8, 10, 142, 143])
 (.block 5
 (.loop
 (.seq
 (.reg 32 [oQ 144 (.bin .lss 143 142)] [0, 6, 7, 8, 10, 142, 143, 144])
 (.seq
 (.cond 144
 .skip
 (.exit 5))
 (.seq
 (.block 6
 (.seq
 (.reg 33 [oM 145 143, oM 20 145] [0, 6, 7, 8, 10, 20, 142, 143])
 (.seq
 (.oreg 34 [(0, oM 147 10, 0), (1, oQ 148 (.nchk 147), 0), (2, oQ 149 (.faddr 3 148), 0), (3, oQ 150 (.load none 149), 0), (4, oM 151 0, 0), (7, oM 154 20, 0), (5, oK 152 (.call 108 [151]), 8), (6, oQ 153 (.bin .sub 152 (cI 1)), 0), (8, oQ 155 (.bin .sub 153 154), 0), (9, oQ 156 (.lkp 1 (zI 0) true 150 155), 0), (10, oM 146 156, 0), (11, oQ 157 (.ext 0 146), 0), (12, oQ 158 (.ext 1 146), 0), (13, oM 21 157, 0), (14, oM 22 158, 0)] [0, 6, 7, 8, 10, 21, 22, 142, 143])
 (.seq
 (.reg 35 [oM 159 22] [0, 6, 7, 8, 10, 21, 142, 143, 159])
 (.cond 159
 (.reg 36 [oM 160 6, oM 161 21, oK 162 (.bslt 1 1 [(zI 0)] [⟨0, ⟨1, 161⟩⟩]), oK 163 (.app 1 160 162), oM 6 163] [0, 6, 7, 8, 10, 142, 143])
 .skip)))))
 (.reg 37 [oQ 164 (.bin .add 143 (cI 1)), oM 143 164] [0, 6, 7, 8, 10, 142, 143])))))))
 (.seq
 (.seq
 (.reg 38 [oM 165 6, oQ 166 (.slc 1 165 (some (cI 1)) none), oQ 167 (.len 0 166), oM 168 (cI 0)] [0, 6, 7, 8, 166, 167, 168])
 (.block 7
 (.loop
 (.seq
 (.reg 39 [oQ 169 (.bin .lss 168 167)] [0, 6, 7, 8, 166, 167, 168, 169])
 (.seq
 (.cond 169
 .skip
 (.exit 7))
 (.seq
 (.block 8
 (.seq
 (.reg 40 [oQ 170 (.iaddr 1 166 168), oQ 171 (.load none 170), oM 24 171] [0, 6, 7, 8, 24, 166, 167, 168])
 (.reg 41 [oM 172 7, oM 173 0, oM 174 24, oK 175 (.call 109 [174]), oK 176 (.call 115 [173, 175]), oQ 177 (.mm true 172 176), oM 7 177] [0, 6, 7, 8, 166, 167, 168])))
 (.reg 42 [oQ 178 (.bin .add 168 (cI 1)), oM 168 178] [0, 6, 7, 8, 166, 167, 168])))))))
 (.seq
 (.reg 43 [oM 179 6, oM 180 7, oM 181 8, oM 6 179, oM 7 180, oM 8 181, oM 9 (cI 0)] [6, 7, 8, 9])
 .ret)))))))))))
theorem fok60 : FOK Tryz.prog 60 (182, ic60, [(.t 6), (.t 7), (.t 8), (.t 9)]) := fokA [1000139, 1000162, 2000000] Tryz.func60 (by kernel_rfl) (by kernel_rfl) (by kernel_rfl) (by kernel_rfl)
def ic61 : IC :=
 (.seq
 (.reg 0 [oM 2 (.c .nilptr)] [0])
 (.seq
 (.seq
 (.reg 1 [oM 3 0, oQ 4 (.isnil (.pointer 202) false 3)] [0, 4])
 (.cond 4
 (.seq
 (.reg 2 [oM 2 (.c .nilptr)] [2])
 .ret)
 .skip))
 (.seq
 (.reg 3 [oM 5 0, oQ 6 (.nchk 5), oQ 7 (.faddr 0 6), oQ 8 (.faddr 0 7), oQ 9 (.load none 8), oK 10 (.call 116 [9]), oM 2 10] [2])
 .ret)))
theorem fok61 : FOK Tryz.prog 61 (11, ic61, [(.t 2)]) := fokA [2000000] Tryz.func61 (by kernel_rfl) (by kernel_rfl) (by kernel_rfl) (by kernel_rfl)
end Go.Id.Tryz
