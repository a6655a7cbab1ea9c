/- The compiled codes of functions,written by a program out of the given form. Conditions: none. -/
import Derived.Test.YtiallonafbejaaaGreatDoorFwYa
import Derived.Test.YtiallonafbejaaaGreatDoorProg
set_option linter.all false
namespace Go.Id.Tryz
open Go Go.Id Go.Proofs
def hh9:List Nat:=List.range 357
def ic44:IC :=
(.seq
(.reg 0 [oM 4 (cB false)] [0,1])
(.seq
(.dreg 1 [oM 5 (.t 0),oM 6 (.t 1),oK 7 (.call 109 [(.t 5),(.t 6)]),oM 8 (.t 7),gQ 9 8 true (.mov (.t 0)),gQ 10 8 true (.nchk (.t 9)),gQ 11 8 true (.faddr 2 (.t 10)),gQ 12 8 true (.faddr 0 (.t 11)),gQ 13 8 true (.load none (.t 12)),gQ 14 8 true (.mov (.t 0)),gQ 15 8 true (.nchk (.t 14)),gQ 16 8 true (.faddr 7 (.t 15)),gQ 17 8 true (.load none (.t 16)),gQ 18 8 true (.mov (.t 1)),gQ 19 8 true (.iaddr 15 (.t 17) (.t 18)),gQ 20 8 true (.faddr 4 (.t 19)),gQ 21 8 true (.load none (.t 20)),gK 22 8 true (.call 110 [(.t 13),(.t 21)]),oQ 23 (.pick (.t 8) (.t 22) (cB false)),oM 4 (.t 23)] false [4])
.ret))
theorem fok44:FOK Tryz.prog 44 (24,ic44,[(.t 4)]):=fokA [] Tryz.func44
def ic47:IC :=
(.seq
(.reg 0 [oM 0 (cB false)] [])
(.seq
(.reg 1 [oK 6 (.call 116 [(.c (.str [97])),(.c (.str [49]))]),oK 7 (.call 116 [(.c (.str [97])),(.c (.str [50]))]),oK 8 (.bslt 15 2 [(.str []),(zI 0),(.str []),(.str []),(zU 0),(.str []),.nilslice,.nilslice,.nilslice,.nilslice,.nilslice,.nilslice,.nilslice,.nilslice,.nilslice] [⟨0,⟨15,(.t 6)⟩⟩,⟨15,⟨15,(.t 7)⟩⟩]),oQ 9 (.bld [(zI 0),.nilslice] [⟨0,⟨1,(cI 1)⟩⟩,⟨1,⟨1,(.t 8)⟩⟩]),oK 10 (.call 116 [(.c (.str [97])),(.c (.str [49]))]),oK 11 (.bslt 15 1 [(.str []),(zI 0),(.str []),(.str []),(zU 0),(.str []),.nilslice,.nilslice,.nilslice,.nilslice,.nilslice,.nilslice,.nilslice,.nilslice,.nilslice] [⟨0,⟨15,(.t 10)⟩⟩]),oQ 12 (.bld [(zI 0),.nilslice] [⟨0,⟨1,(cI 9)⟩⟩,⟨1,⟨1,(.t 11)⟩⟩]),oK 13 (.bslt 2 2 [(zI 0),.nilslice] [⟨0,⟨2,(.t 9)⟩⟩,⟨2,⟨2,(.t 12)⟩⟩]),oM 1 (.t 13)] [1])
(.seq
(.reg 2 [oM 15 (.t 1),oK 16 (.call 116 [(.c (.str [122])),(.c (.str [48]))]),oK 17 (.bslt 15 1 [(.str []),(zI 0),(.str []),(.str []),(zU 0),(.str []),.nilslice,.nilslice,.nilslice,.nilslice,.nilslice,.nilslice,.nilslice,.nilslice,.nilslice] [⟨0,⟨15,(.t 16)⟩⟩]),oQ 18 (.bld [(zU 0),(.bool false),.nilslice,.nilslice,(zI 0)] [⟨0,⟨1,(.c (zU 2))⟩⟩]),oK 19 (.call 49 [(.t 15),(.t 17),(.t 18)]),oM 14 (.t 19),oQ 20 (.ext 0 (.t 14)),oQ 21 (.ext 1 (.t 14)),oQ 22 (.ext 2 (.t 14)),oQ 23 (.ext 3 (.t 14)),oM 2 (.t 20),oM 3 (.t 21),oM 4 (.t 22),oM 5 (.t 23)] [2,5])
(.seq
(.reg 3 [oM 24 (.t 5),oM 25 (.t 24),gQ 26 25 true (.mov (.t 2)),gK 27 25 true (.call 51 [(.t 26),(cI 2),(cI 1)]),oQ 28 (.pick (.t 25) (.t 27) (cB false)),oM 29 (.t 28),gQ 30 29 true (.mov (.t 2)),gK 31 29 true (.call 51 [(.t 30),(cI 1),(cI 2)]),gQ 32 29 true (.not (.t 31)),oQ 33 (.pick (.t 29) (.t 32) (cB false)),oM 34 (.t 33),gQ 35 34 true (.mov (.t 2)),gK 36 34 true (.call 51 [(.t 35),(cI 3),(cI 2)]),oQ 37 (.pick (.t 34) (.t 36) (cB false)),oM 38 (.t 37),gQ 39 38 true (.mov (.t 2)),gK 40 38 true (.call 51 [(.t 39),(cI 0),(cI 3)]),oQ 41 (.pick (.t 38) (.t 40) (cB false)),oM 42 (.t 41),gQ 43 42 true (.mov (.t 2)),gK 44 42 true (.bslt 1 5 [(zI 0)] [⟨0,⟨1,(cI 1)⟩⟩,⟨1,⟨1,(cI 2)⟩⟩,⟨2,⟨1,(cI 3)⟩⟩,⟨3,⟨1,(cI 0)⟩⟩,⟨4,⟨1,(cI 1)⟩⟩]),gK 45 42 true (.call 52 [(.t 43),(.t 44)]),gK 46 42 true (.bslt 1 4 [(zI 0)] [⟨0,⟨1,(cI 0)⟩⟩,⟨1,⟨1,(cI 3)⟩⟩,⟨2,⟨1,(cI 2)⟩⟩,⟨3,⟨1,(cI 1)⟩⟩]),gK 47 42 true (.call 117 [(.t 45),(.t 46)]),oQ 48 (.pick (.t 42) (.t 47) (cB false)),oM 0 (.t 48)] [0])
.ret))))
theorem fok47:FOK Tryz.prog 47 (49,ic47,[(.t 0)]):=fokA [1000008,1000011,1000013,1000017,1000044,1000046] Tryz.func47
def ic48:IC :=
(.seq
(.reg 0 [oK 5 (.boxt (.t 2)),oM 6 (cB false)] [0,1,5])
(.seq
(.reg 1 [oM 10 (.t 1),oK 11 (.call 118 [(.t 10),(cI 800)]),oM 7 (.t 11)] [0,1,5,7])
(.seq
(.reg 2 [oM 12 (.t 1),oQ 13 (.len 0 (.t 12)),oM 8 (.t 13)] [0,5,7,8])
(.seq
(.seq
(.reg 3 [oM 9 (cI 0)] [0,5,7,8,9])
(.block 0
(.loop
(.seq
(.seq
(.reg 4 [oM 14 (.t 9),oM 15 (.t 0),oQ 16 (.len 0 (.t 15)),oQ 17 (.bin .lss (.t 14) (.t 16)),oM 18 (.t 17),gQ 19 18 true (.mov (.t 7)),gQ 20 18 true (.bin .lss (.t 19) (cI 800)),oQ 21 (.pick (.t 18) (.t 20) (cB false))] [0,5,7,8,9,21])
(.cond (.t 21)
.skip
(.exit 0)))
(.seq
(.block 1
(.seq
(.reg 6 [oM 24 (.t 7),oQ 25 (.bin .add (.t 24) (cI 1)),oM 26 (.t 0),oM 27 (.t 9),oQ 28 (.iaddr 2 (.t 26) (.t 27)),oQ 29 (.faddr 1 (.t 28)),oQ 30 (.load none (.t 29)),oK 31 (.call 118 [(.t 30),(cI 800)]),oQ 32 (.bin .add (.t 25) (.t 31)),oM 7 (.t 32)] [0,5,7,8,9])
(.reg 7 [oM 33 (.t 8),oM 34 (.t 0),oM 35 (.t 9),oQ 36 (.iaddr 2 (.t 34) (.t 35)),oQ 37 (.faddr 1 (.t 36)),oQ 38 (.load none (.t 37)),oQ 39 (.len 0 (.t 38)),oQ 40 (.bin .add (.t 33) (.t 39)),oM 8 (.t 40)] [0,5,7,8,9])))
(.reg 5 [oM 22 (.t 9),oQ 23 (.bin .add (.t 22) (cI 1)),oM 9 (.t 23)] [0,5,7,8,9]))))))
(.seq
(.reg 8 [oM 41 (.t 7),oQ 42 (.bin .geq (.t 41) (cI 800)),oM 43 (.t 42),gQ 44 43 false (.mov (.t 8)),gQ 45 43 false (.bin .gtr (.t 44) (cI 40)),oQ 46 (.pick (.t 43) (cB true) (.t 45)),oM 47 (.t 46),gQ 48 47 false (.faddr 2 (.t 5)),gQ 49 47 false (.load none (.t 48)),gQ 50 47 false (.len 0 (.t 49)),gQ 51 47 false (.bin .gtr (.t 50) (cI 20)),oQ 52 (.pick (.t 47) (cB true) (.t 51)),oM 53 (.t 52),gQ 54 53 false (.faddr 3 (.t 5)),gQ 55 53 false (.load none (.t 54)),gQ 56 53 false (.len 0 (.t 55)),gQ 57 53 false (.bin .gtr (.t 56) (cI 20)),oQ 58 (.pick (.t 53) (cB true) (.t 57)),oM 6 (.t 58)] [6])
.ret)))))
theorem fok48:FOK Tryz.prog 48 (59,ic48,[(.t 6)]):=fokA [1000005] Tryz.func48
def ic49:IC :=
(.seq
(.reg 0 [oK 5 (.boxt (.t 2)),oM 6 (.c .nilptr),oM 7 (.c .nilptr),oM 8 (.c .nilptr),oM 9 (cB false)] [0,1,5])
(.seq
(.reg 1 [oM 16 (.t 0),oM 17 (.t 1),oK 18 (.call 15 [(.t 16),(.t 17)]),oM 15 (.t 18),oQ 19 (.ext 0 (.t 15)),oQ 20 (.ext 1 (.t 15)),oM 10 (.t 19),oM 11 (.t 20)] [5,10,11])
(.seq
(.seq
(.reg 2 [oM 21 (.t 11),oQ 22 (.bin .neq (.t 21) (cI 0))] [5,10,22])
(.cond (.t 22)
(.seq
(.reg 3 [oM 6 (.c .nilptr),oM 7 (.c .nilptr),oM 8 (.c .nilptr),oM 9 (cB false)] [6,7,8,9])
.ret)
.skip))
(.seq
(.reg 4 [oM 24 (.t 10),oQ 25 (.load (some 5) (.t 5)),oK 26 (.call 98 [(.t 24),(.t 25)]),oM 23 (.t 26),oQ 27 (.ext 0 (.t 23)),oQ 28 (.ext 1 (.t 23)),oM 12 (.t 27),oM 11 (.t 28)] [10,11,12])
(.seq
(.seq
(.reg 5 [oM 29 (.t 11),oQ 30 (.bin .neq (.t 29) (cI 0))] [10,12,30])
(.cond (.t 30)
(.seq
(.reg 6 [oM 6 (.c .nilptr),oM 7 (.c .nilptr),oM 8 (.c .nilptr),oM 9 (cB false)] [6,7,8,9])
.ret)
.skip))
(.seq
(.reg 7 [oM 32 (.t 12),oK 33 (.call 119 [(.t 32)]),oM 31 (.t 33),oQ 34 (.ext 0 (.t 31)),oQ 35 (.ext 1 (.t 31)),oM 13 (.t 34),oM 14 (.t 35)] [10,12,13,14])
(.seq
(.reg 8 [oM 36 (.t 13),oM 37 (.t 12),oM 38 (.t 10),oM 39 (.t 14),oQ 40 (.bin .eql (.t 39) (cI 0)),oM 41 (.t 40),gQ 42 41 true (.mov (.t 13)),gQ 43 41 true (.isnil (.pointer 148) true (.t 42)),oQ 44 (.pick (.t 41) (.t 43) (cB false)),oM 6 (.t 36),oM 7 (.t 37),oM 8 (.t 38),oM 9 (.t 44)] [6,7,8,9])
.ret)))))))
theorem fok49:FOK Tryz.prog 49 (45,ic49,[(.t 6),(.t 7),(.t 8),(.t 9)]):=fokA [1000005] Tryz.func49
def ic51:IC :=
(.seq
(.reg 0 [oM 6 (cB false)] [0,1,2])
(.seq
(.reg 1 [oM 7 (.t 0),oM 8 (.t 1),oK 9 (.call 120 [(.t 7),(.t 8)]),oM 10 (.t 9),gQ 11 10 true (.mov (.t 0)),gQ 12 10 true (.mov (.t 2)),gK 13 10 true (.call 120 [(.t 11),(.t 12)]),oQ 14 (.pick (.t 10) (.t 13) (cB false)),oM 15 (.t 14),gQ 16 15 true (.mov (.t 0)),gQ 17 15 true (.mov (.t 1)),gQ 18 15 true (.mov (.t 2)),gK 19 15 true (.call 121 [(.t 16),(.t 17),(.t 18)]),gQ 20 15 true (.bin .lss (.t 19) (cI 0)),oQ 21 (.pick (.t 15) (.t 20) (cB false)),oM 6 (.t 21)] [6])
.ret))
theorem fok51:FOK Tryz.prog 51 (22,ic51,[(.t 6)]):=fokA [] Tryz.func51
def ic52:IC :=
(.seq
(.reg 0 [oK 2 (.boxt (.t 0)),oM 4 (.c .nilslice)] [1,2])
(.seq
(.reg 1 [oM 6 (.t 1),oK 7 (.call 72 [(.t 6)]),oQ 8 (.mkf 122 [] [(.t 2)]),oK 9 (.call 101 [(.t 7),(.t 8)]),oM 5 (.t 9)] [2,5])
(.seq
(.seq
(.reg 2 [oM 10 (.t 5),oQ 11 (.len 0 (.t 10)),oQ 12 (.bin .eql (.t 11) (cI 0))] [2,5,12])
(.cond (.t 12)
(.seq
(.reg 3 [oM 4 (.c .nilslice)] [4])
.ret)
.skip))
(.seq
(.reg 4 [oM 13 (.t 5),oQ 14 (.load none (.t 2)),oQ 15 (.mkf 121 [(.t 14)] []),oK 16 (.call 123 [(.t 13),(.t 15)])] [5])
(.seq
(.reg 5 [oM 17 (.t 5),oK 18 (.call 85 [(.t 17)]),oM 4 (.t 18)] [4])
.ret)))))
theorem fok52:FOK Tryz.prog 52 (19,ic52,[(.t 4)]):=fokA [1000002] Tryz.func52
def ic53:IC :=
(.seq
(.reg 0 [oM 2 (.c .nilslice)] [0])
(.seq
(.reg 1 [oK 5 (.bsl 15 0 [(.str []),(zI 0),(.str []),(.str []),(zU 0),(.str []),.nilslice,.nilslice,.nilslice,.nilslice,.nilslice,.nilslice,.nilslice,.nilslice,.nilslice] []),oM 6 (.t 0),oK 7 (.app 15 (.t 5) (.t 6)),oM 3 (.t 7)] [3])
(.seq
(.seq
(.reg 2 [oM 4 (cI 0)] [3,4])
(.block 0
(.loop
(.seq
(.seq
(.reg 3 [oM 8 (.t 4),oM 9 (.t 3),oQ 10 (.len 0 (.t 9)),oQ 11 (.bin .lss (.t 8) (.t 10))] [3,4,11])
(.cond (.t 11)
.skip
(.exit 0)))
(.seq
(.block 1
(.reg 5 [oM 14 (.t 3),oM 15 (.t 4),oM 16 (.t 3),oM 17 (.t 4),oM 18 (.t 3),oM 19 (.t 4),oQ 20 (.iaddr 15 (.t 14) (.t 15)),oQ 21 (.faddr 12 (.t 20)),oN (.store 1 (.t 21) (.c .nilslice)),oQ 22 (.iaddr 15 (.t 16) (.t 17)),oQ 23 (.faddr 13 (.t 22)),oN (.store 1 (.t 23) (.c .nilslice)),oQ 24 (.iaddr 15 (.t 18) (.t 19)),oQ 25 (.faddr 5 (.t 24)),oN (.store 1 (.t 25) (.c (.str [])))] [3,4]))
(.reg 4 [oM 12 (.t 4),oQ 13 (.bin .add (.t 12) (cI 1)),oM 4 (.t 13)] [3,4]))))))
(.seq
(.reg 6 [oM 26 (.t 3),oM 2 (.t 26)] [2])
.ret))))
theorem fok53:FOK Tryz.prog 53 (27,ic53,[(.t 2)]):=fokA [] Tryz.func53
def ic54:IC :=
(.seq
(.reg 0 [oM 4 (cB false)] [0,1])
(.seq
(.reg 1 [oM 5 (.t 0),oM 6 (.t 1),oK 7 (.call 120 [(.t 5),(.t 6)]),oM 8 (.t 7),gQ 9 8 true (.mov (.t 0)),gQ 10 8 true (.nchk (.t 9)),gQ 11 8 true (.faddr 4 (.t 10)),gQ 12 8 true (.load none (.t 11)),gQ 13 8 true (.mov (.t 1)),gQ 14 8 true (.iaddr 1 (.t 12) (.t 13)),gQ 15 8 true (.load none (.t 14)),oQ 16 (.pick (.t 8) (.t 15) (cB false)),oM 4 (.t 16)] [4])
.ret))
theorem fok54:FOK Tryz.prog 54 (17,ic54,[(.t 4)]):=fokA [] Tryz.func54
def ic55:IC :=
(.seq
(.reg 0 [⟨(some 4),none,(.q (.mov (.c (.int .i64 0))))⟩] [0,1])
(.seq
(.seq
(.reg 1 [⟨(some 5),none,(.q (.mov (.t 0)))⟩,⟨(some 6),none,(.q (.isnil (.pointer 105) false (.t 5)))⟩,⟨(some 7),none,(.q (.mov (.t 6)))⟩,⟨(some 8),(some ⟨7,false⟩),(.q (.mov (.t 0)))⟩,⟨(some 9),(some ⟨7,false⟩),(.q (.nchk (.t 8)))⟩,⟨(some 10),(some ⟨7,false⟩),(.q (.faddr 0 (.t 9)))⟩,⟨(some 11),(some ⟨7,false⟩),(.q (.load none (.t 10)))⟩,⟨(some 12),(some ⟨7,false⟩),(.q (.mov (.t 1)))⟩,⟨(some 13),(some ⟨7,false⟩),(.call 73 [(.t 11),(.t 12)])⟩,⟨(some 14),(some ⟨7,false⟩),(.q (.not (.t 13)))⟩,⟨(some 15),none,(.q (.pick (.t 7) (.c (.bool true)) (.t 14)))⟩] [0,1,15])
(.cond (.t 15)
(.seq
(.reg 2 [⟨(some 4),none,(.q (.mov (.c (.int .i64 (-1)))))⟩] [4])
.ret)
.skip))
(.seq
(.reg 3 [⟨(some 16),none,(.q (.mov (.t 0)))⟩,⟨(some 17),none,(.q (.nchk (.t 16)))⟩,⟨(some 18),none,(.q (.faddr 0 (.t 17)))⟩,⟨(some 19),none,(.q (.load none (.t 18)))⟩,⟨(some 20),none,(.q (.mov (.t 1)))⟩,⟨(some 21),none,(.q (.iaddr 17 (.t 19) (.t 20)))⟩,⟨(some 22),none,(.q (.faddr 15 (.t 21)))⟩,⟨(some 23),none,(.q (.load none (.t 22)))⟩,⟨(some 4),none,(.q (.mov (.t 23)))⟩] [4])
.ret)))
theorem fok55:FOK Tryz.prog 55 (24,ic55,[(.t 4)]):=.mk (pf:=[]) (an:=[(0,[0,1]),(1,[0,1,15]),(2,[4]),(3,[4])]) (by kernel_rfl) (ab3 Tryz.func55 (by kernel_rfl) (by kernel_rfl) (by kernel_rfl))
def ic66:IC :=
(.seq
(.reg 0 [⟨(some 2),none,(.q (.mov (.c (.int .i64 0))))⟩] [0])
(.seq
(.seq
(.reg 1 [⟨(some 3),none,(.q (.mov (.t 0)))⟩,⟨(some 4),none,(.q (.isnil (.pointer 105) false (.t 3)))⟩] [0,4])
(.cond (.t 4)
(.seq
(.reg 2 [⟨(some 2),none,(.q (.mov (.c (.int .i64 0))))⟩] [2])
.ret)
.skip))
(.seq
(.reg 3 [⟨(some 5),none,(.q (.mov (.t 0)))⟩,⟨(some 6),none,(.q (.nchk (.t 5)))⟩,⟨(some 7),none,(.q (.faddr 1 (.t 6)))⟩,⟨(some 8),none,(.q (.load none (.t 7)))⟩,⟨(some 2),none,(.q (.mov (.t 8)))⟩] [2])
.ret)))
theorem fok66:FOK Tryz.prog 66 (9,ic66,[(.t 2)]):=.mk (pf:=[]) (an:=[(0,[0]),(1,[0,4]),(2,[2]),(3,[2])]) (by kernel_rfl) (ab3 Tryz.func66 (by kernel_rfl) (by kernel_rfl) (by kernel_rfl))
def ic67:IC :=
(.seq
(.reg 0 [⟨(some 4),none,(.q (.mov (.c (.int .i64 0))))⟩] [0,1])
(.seq
(.seq
(.reg 1 [⟨(some 5),none,(.q (.mov (.t 0)))⟩,⟨(some 6),none,(.q (.isnil (.pointer 105) false (.t 5)))⟩,⟨(some 7),none,(.q (.mov (.t 6)))⟩,⟨(some 8),(some ⟨7,false⟩),(.q (.mov (.t 0)))⟩,⟨(some 9),(some ⟨7,false⟩),(.q (.nchk (.t 8)))⟩,⟨(some 10),(some ⟨7,false⟩),(.q (.faddr 0 (.t 9)))⟩,⟨(some 11),(some ⟨7,false⟩),(.q (.load none (.t 10)))⟩,⟨(some 12),(some ⟨7,false⟩),(.q (.mov (.t 1)))⟩,⟨(some 13),(some ⟨7,false⟩),(.call 73 [(.t 11),(.t 12)])⟩,⟨(some 14),(some ⟨7,false⟩),(.q (.not (.t 13)))⟩,⟨(some 15),none,(.q (.pick (.t 7) (.c (.bool true)) (.t 14)))⟩] [0,1,15])
(.cond (.t 15)
(.seq
(.reg 2 [⟨(some 4),none,(.q (.mov (.c (.int .i64 0))))⟩] [4])
.ret)
.skip))
(.seq
(.reg 3 [⟨(some 16),none,(.q (.mov (.t 0)))⟩,⟨(some 17),none,(.q (.nchk (.t 16)))⟩,⟨(some 18),none,(.q (.faddr 0 (.t 17)))⟩,⟨(some 19),none,(.q (.load none (.t 18)))⟩,⟨(some 20),none,(.q (.mov (.t 1)))⟩,⟨(some 21),none,(.q (.iaddr 17 (.t 19) (.t 20)))⟩,⟨(some 22),none,(.q (.faddr 16 (.t 21)))⟩,⟨(some 23),none,(.q (.load none (.t 22)))⟩,⟨(some 4),none,(.q (.mov (.t 23)))⟩] [4])
.ret)))
theorem fok67:FOK Tryz.prog 67 (24,ic67,[(.t 4)]):=.mk (pf:=[]) (an:=[(0,[0,1]),(1,[0,1,15]),(2,[4]),(3,[4])]) (by kernel_rfl) (ab3 Tryz.func67 (by kernel_rfl) (by kernel_rfl) (by kernel_rfl))
def ic69:IC :=
(.seq
(.reg 0 [⟨(some 8),none,(.q (.mov (.c (.int .i64 0))))⟩] [0,1,2,3])
(.seq
(.seq
(.reg 1 [⟨(some 11),none,(.q (.mov (.t 1)))⟩,⟨(some 12),none,(.q (.len 0 (.t 11)))⟩,⟨(some 13),none,(.q (.mov (.c (.int .i64 0))))⟩] [0,2,3,11,12,13])
(.block 0
(.loop
(.seq
(.reg 2 [⟨(some 14),none,(.q (.bin .lss (.t 13) (.t 12)))⟩] [0,2,3,11,12,13,14])
(.seq
(.cond (.t 14)
.skip
(.exit 0))
(.seq
(.block 1
(.seq
(.reg 3 [⟨(some 15),none,(.q (.iaddr 15 (.t 11) (.t 13)))⟩,⟨(some 16),none,(.q (.load (some 15) (.t 15)))⟩,⟨(some 10),none,(.alloc [(.str []),(.int .i64 0),(.str []),(.str []),(.int .u8 0),(.str []),.nilslice,.nilslice,.nilslice,.nilslice,.nilslice,.nilslice,.nilslice,.nilslice,.nilslice])⟩,⟨none,none,(.store 15 (.t 10) (.t 16))⟩] [0,2,3,10,11,12,13])
(.seq
(.seq
(.reg 4 [⟨(some 17),none,(.q (.load (some 15) (.t 10)))⟩,⟨(some 18),none,(.pcall 135 [(.t 17)])⟩,⟨(some 19),none,(.q (.not (.t 18)))⟩] [0,2,3,10,11,12,13,19])
(.cond (.t 19)
(.seq
(.reg 5 [⟨(some 8),none,(.q (.mov (.c (.int .i64 4))))⟩] [8])
.ret)
.skip))
(.seq
(.dreg 6 [⟨(some 20),none,(.q (.mov (.t 0)))⟩,⟨(some 21),none,(.q (.nchk (.t 20)))⟩,⟨(some 22),none,(.q (.faddr 2 (.t 21)))⟩,⟨(some 23),none,(.q (.load none (.t 22)))⟩,⟨(some 24),none,(.q (.faddr 0 (.t 10)))⟩,⟨(some 25),none,(.q (.load none (.t 24)))⟩,⟨(some 26),none,(.q (.mov (.t 0)))⟩,⟨(some 27),none,(.q (.nchk (.t 26)))⟩,⟨(some 28),none,(.q (.faddr 2 (.t 27)))⟩,⟨(some 29),none,(.q (.load none (.t 28)))⟩,⟨(some 30),none,(.q (.faddr 0 (.t 10)))⟩,⟨(some 31),none,(.q (.load none (.t 30)))⟩,⟨(some 32),none,(.q (.lkp 2 .nilslice false (.t 29) (.t 31)))⟩,⟨(some 33),none,(.q (.mov (.t 0)))⟩,⟨(some 34),none,(.q (.nchk (.t 33)))⟩,⟨(some 35),none,(.q (.faddr 0 (.t 34)))⟩,⟨(some 36),none,(.q (.load none (.t 35)))⟩,⟨(some 37),none,(.q (.len 0 (.t 36)))⟩,⟨(some 38),none,(.bslt 1 1 [(.int .i64 0)] [⟨0,⟨1,(.t 37)⟩⟩])⟩,⟨(some 39),none,(.app 1 (.t 32) (.t 38))⟩,⟨none,none,(.mupd 2 (.t 23) (.t 25) (.t 39))⟩] true [0,2,3,10,11,12,13])
(.dreg 7 [⟨(some 40),none,(.q (.mov (.t 0)))⟩,⟨(some 41),none,(.q (.mov (.t 0)))⟩,⟨(some 42),none,(.q (.nchk (.t 41)))⟩,⟨(some 43),none,(.q (.faddr 0 (.t 42)))⟩,⟨(some 44),none,(.q (.load none (.t 43)))⟩,⟨(some 45),none,(.q (.load (some 15) (.t 10)))⟩,⟨(some 46),none,(.pcall 74 [(.t 45)])⟩,⟨(some 47),none,(.q (.mov (.t 2)))⟩,⟨(some 48),none,(.q (.mov (.t 3)))⟩,⟨(some 49),none,(.q (.bld [(.str []),(.int .i64 0),(.str []),(.str []),(.int .u8 0),(.str []),.nilslice,.nilslice,.nilslice,.nilslice,.nilslice,.nilslice,.nilslice,.nilslice,.nilslice,(.int .i64 0),(.int .i64 0)] [⟨0,⟨15,(.t 46)⟩⟩,⟨15,⟨1,(.t 47)⟩⟩,⟨16,⟨1,(.t 48)⟩⟩]))⟩,⟨(some 50),none,(.bslt 17 1 [(.str []),(.int .i64 0),(.str []),(.str []),(.int .u8 0),(.str []),.nilslice,.nilslice,.nilslice,.nilslice,.nilslice,.nilslice,.nilslice,.nilslice,.nilslice,(.int .i64 0),(.int .i64 0)] [⟨0,⟨17,(.t 49)⟩⟩])⟩,⟨(some 51),none,(.app 17 (.t 44) (.t 50))⟩,⟨(some 52),none,(.q (.nchk (.t 40)))⟩,⟨(some 53),none,(.q (.faddr 0 (.t 52)))⟩,⟨none,none,(.store 1 (.t 53) (.t 51))⟩] true [0,2,3,11,12,13])))))
(.reg 8 [⟨(some 54),none,(.q (.bin .add (.t 13) (.c (.int .i64 1))))⟩,⟨(some 13),none,(.q (.mov (.t 54)))⟩] [0,2,3,11,12,13])))))))
(.seq
(.reg 9 [⟨(some 8),none,(.q (.mov (.c (.int .i64 0))))⟩] [8])
.ret)))
theorem fok69:FOK Tryz.prog 69 (55,ic69,[(.t 8)]):=.mk (pf:=([1000038,1000050]++hh9)) (an:=[(0,[0,1,2,3]),(1,[0,2,3,11,12,13]),(2,[0,2,3,11,12,13,14]),(3,[0,2,3,10,11,12,13]),(4,[0,2,3,10,11,12,13,19]),(5,[8]),(6,[0,2,3,10,11,12,13]),(7,[0,2,3,11,12,13]),(8,[0,2,3,11,12,13]),(9,[8])]) (by kernel_rfl) (ab3 Tryz.func69 (by kernel_rfl) (by kernel_rfl) (by kernel_rfl))
def ic72:IC :=
(.seq
(.reg 0 [⟨(some 2),none,(.q (.mov (.c .nilslice)))⟩] [0])
(.seq
(.seq
(.reg 1 [⟨(some 3),none,(.q (.mov (.t 0)))⟩,⟨(some 4),none,(.q (.isnil (.slice 3) false (.t 3)))⟩] [0,4])
(.cond (.t 4)
(.seq
(.reg 2 [⟨(some 2),none,(.q (.mov (.c .nilslice)))⟩] [2])
.ret)
.skip))
(.seq
(.reg 3 [⟨(some 5),none,(.bsl 1 0 [(.int .i64 0)] [])⟩,⟨(some 6),none,(.q (.mov (.t 0)))⟩,⟨(some 7),none,(.app 1 (.t 5) (.t 6))⟩,⟨(some 2),none,(.q (.mov (.t 7)))⟩] [2])
.ret)))
theorem fok72:FOK Tryz.prog 72 (8,ic72,[(.t 2)]):=.mk (pf:=[]) (an:=[(0,[0]),(1,[0,4]),(2,[2]),(3,[2])]) (by kernel_rfl) (ab3 Tryz.func72 (by kernel_rfl) (by kernel_rfl) (by kernel_rfl))
def ic73:IC :=
(.seq
(.reg 0 [⟨(some 4),none,(.q (.mov (.c (.bool false))))⟩] [0,1])
(.seq
(.reg 1 [⟨(some 5),none,(.q (.mov (.t 1)))⟩,⟨(some 6),none,(.q (.bin .geq (.t 5) (.c (.int .i64 0))))⟩,⟨(some 7),none,(.q (.mov (.t 6)))⟩,⟨(some 8),(some ⟨7,true⟩),(.q (.mov (.t 1)))⟩,⟨(some 9),(some ⟨7,true⟩),(.q (.mov (.t 0)))⟩,⟨(some 10),(some ⟨7,true⟩),(.q (.len 0 (.t 9)))⟩,⟨(some 11),(some ⟨7,true⟩),(.q (.bin .lss (.t 8) (.t 10)))⟩,⟨(some 12),none,(.q (.pick (.t 7) (.t 11) (.c (.bool false))))⟩,⟨(some 4),none,(.q (.mov (.t 12)))⟩] [4])
.ret))
theorem fok73:FOK Tryz.prog 73 (13,ic73,[(.t 4)]):=.mk (pf:=[]) (an:=[(0,[0,1]),(1,[4])]) (by kernel_rfl) (ab3 Tryz.func73 (by kernel_rfl) (by kernel_rfl) (by kernel_rfl))
def ic74:IC :=
(.seq
(.reg 0 [⟨(some 1),none,(.box (.t 0))⟩,⟨(some 2),none,(.alloc [(.str []),(.int .i64 0),(.str []),(.str []),(.int .u8 0),(.str []),.nilslice,.nilslice,.nilslice,.nilslice,.nilslice,.nilslice,.nilslice,.nilslice,.nilslice])⟩] [1,2])
(.seq
(.dreg 1 [⟨(some 7),none,(.q (.faddr 6 (.t 1)))⟩,⟨(some 8),none,(.q (.load none (.t 7)))⟩,⟨(some 9),none,(.pcall 139 [(.t 8)])⟩,⟨(some 10),none,(.q (.faddr 9 (.t 1)))⟩,⟨(some 11),none,(.q (.load none (.t 10)))⟩,⟨(some 12),none,(.pcall 139 [(.t 11)])⟩,⟨(some 13),none,(.q (.faddr 14 (.t 1)))⟩,⟨(some 14),none,(.q (.load none (.t 13)))⟩,⟨(some 15),none,(.pcall 140 [(.t 14)])⟩,⟨(some 16),none,(.q (.faddr 6 (.t 1)))⟩,⟨none,none,(.store 1 (.t 16) (.t 9))⟩,⟨(some 17),none,(.q (.faddr 9 (.t 1)))⟩,⟨none,none,(.store 1 (.t 17) (.t 12))⟩,⟨(some 18),none,(.q (.faddr 14 (.t 1)))⟩,⟨none,none,(.store 1 (.t 18) (.t 15))⟩] false [1,2])
(.seq
(.seq
(.reg 2 [⟨(some 19),none,(.q (.faddr 7 (.t 1)))⟩,⟨(some 20),none,(.q (.faddr 8 (.t 1)))⟩,⟨(some 21),none,(.q (.faddr 10 (.t 1)))⟩,⟨(some 22),none,(.q (.faddr 11 (.t 1)))⟩,⟨(some 23),none,(.q (.faddr 12 (.t 1)))⟩,⟨(some 24),none,(.q (.faddr 13 (.t 1)))⟩,⟨(some 25),none,(.bslt 1 6 [.nilptr] [⟨0,⟨1,(.t 19)⟩⟩,⟨1,⟨1,(.t 20)⟩⟩,⟨2,⟨1,(.t 21)⟩⟩,⟨3,⟨1,(.t 22)⟩⟩,⟨4,⟨1,(.t 23)⟩⟩,⟨5,⟨1,(.t 24)⟩⟩])⟩,⟨(some 26),none,(.q (.len 0 (.t 25)))⟩,⟨(some 27),none,(.q (.mov (.c (.int .i64 0))))⟩] [1,2,25,26,27])
(.block 0
(.loop
(.seq
(.reg 3 [⟨(some 28),none,(.q (.bin .lss (.t 27) (.t 26)))⟩] [1,2,25,26,27,28])
(.seq
(.cond (.t 28)
.skip
(.exit 0))
(.seq
(.block 1
(.seq
(.reg 4 [⟨(some 29),none,(.q (.iaddr 1 (.t 25) (.t 27)))⟩,⟨(some 30),none,(.q (.load none (.t 29)))⟩,⟨(some 4),none,(.q (.mov (.t 30)))⟩] [1,2,4,25,26,27])
(.seq
(.reg 5 [⟨(some 31),none,(.q (.mov (.t 4)))⟩,⟨(some 32),none,(.q (.mov (.t 4)))⟩,⟨(some 33),none,(.q (.nchk (.t 32)))⟩,⟨(some 34),none,(.q (.load none (.t 33)))⟩,⟨(some 35),none,(.call 141 [(.t 34)])⟩,⟨(some 36),none,(.q (.nchk (.t 31)))⟩,⟨none,none,(.store 1 (.t 36) (.t 35))⟩] [1,2,4,25,26,27])
(.seq
(.reg 6 [⟨(some 37),none,(.q (.mov (.t 4)))⟩,⟨(some 38),none,(.q (.nchk (.t 37)))⟩,⟨(some 39),none,(.q (.load none (.t 38)))⟩,⟨(some 40),none,(.q (.len 0 (.t 39)))⟩,⟨(some 41),none,(.q (.mov (.c (.int .i64 0))))⟩] [1,2,4,25,26,27,39,40,41])
(.block 2
(.loop
(.seq
(.reg 7 [⟨(some 42),none,(.q (.bin .lss (.t 41) (.t 40)))⟩] [1,2,4,25,26,27,39,40,41,42])
(.seq
(.cond (.t 42)
.skip
(.exit 2))
(.seq
(.block 3
(.seq
(.reg 8 [⟨(some 43),none,(.q (.mov (.t 41)))⟩,⟨(some 44),none,(.q (.iaddr 7 (.t 39) (.t 41)))⟩,⟨(some 45),none,(.q (.load (some 7) (.t 44)))⟩,⟨(some 6),none,(.alloc [(.int .u8 0),(.str []),(.int .u8 0),(.int .i64 0),(.str []),(.str []),.nilslice])⟩,⟨(some 5),none,(.q (.mov (.t 43)))⟩,⟨none,none,(.store 7 (.t 6) (.t 45))⟩] [1,2,4,5,6,25,26,27,39,40,41])
(.dreg 9 [⟨(some 46),none,(.q (.mov (.t 4)))⟩,⟨(some 47),none,(.q (.nchk (.t 46)))⟩,⟨(some 48),none,(.q (.load none (.t 47)))⟩,⟨(some 49),none,(.q (.mov (.t 5)))⟩,⟨(some 50),none,(.q (.load (some 7) (.t 6)))⟩,⟨(some 51),none,(.pcall 142 [(.t 50)])⟩,⟨(some 52),none,(.q (.iaddr 7 (.t 48) (.t 49)))⟩,⟨none,none,(.store 7 (.t 52) (.t 51))⟩] false [1,2,4,25,26,27,39,40,41])))
(.reg 10 [⟨(some 53),none,(.q (.bin .add (.t 41) (.c (.int .i64 1))))⟩,⟨(some 41),none,(.q (.mov (.t 53)))⟩] [1,2,4,25,26,27,39,40,41]))))))))))
(.reg 11 [⟨(some 54),none,(.q (.bin .add (.t 27) (.c (.int .i64 1))))⟩,⟨(some 27),none,(.q (.mov (.t 54)))⟩] [1,2,25,26,27])))))))
(.seq
(.reg 12 [⟨(some 55),none,(.q (.load (some 15) (.t 1)))⟩,⟨none,none,(.store 15 (.t 2) (.t 55))⟩] [2])
.ret))))
theorem fok74:FOK Tryz.prog 74 (56,ic74,[(.cell (some 15) 2)]):=.mk (pf:=([1000025]++List.filter (fun k=>k != 141) hh9)) (an:=[(0,[1,2]),(1,[1,2]),(2,[1,2,25,26,27]),(3,[1,2,25,26,27,28]),(4,[1,2,4,25,26,27]),(5,[1,2,4,25,26,27]),(6,[1,2,4,25,26,27,39,40,41]),(7,[1,2,4,25,26,27,39,40,41,42]),(8,[1,2,4,5,6,25,26,27,39,40,41]),(9,[1,2,4,25,26,27,39,40,41]),(10,[1,2,4,25,26,27,39,40,41]),(11,[1,2,25,26,27]),(12,[2])]) (by kernel_rfl) (ab3 Tryz.func74 (by kernel_rfl) (by kernel_rfl) (by kernel_rfl))
def ic75:IC :=
(.seq
(.reg 0 [⟨(some 4),none,(.q (.mov (.c (.bool false))))⟩] [0,1])
(.seq
(.reg 1 [⟨(some 5),none,(.q (.mov (.t 0)))⟩,⟨(some 6),none,(.q (.mov (.t 1)))⟩,⟨(some 7),none,(.call 143 [(.t 5),(.t 6)])⟩,⟨(some 8),none,(.q (.bin .geq (.t 7) (.c (.int .i64 0))))⟩,⟨(some 4),none,(.q (.mov (.t 8)))⟩] [4])
.ret))
theorem fok75:FOK Tryz.prog 75 (9,ic75,[(.t 4)]):=.mk (pf:=[]) (an:=[(0,[0,1]),(1,[4])]) (by kernel_rfl) (ab3 Tryz.func75 (by kernel_rfl) (by kernel_rfl) (by kernel_rfl))
def ic80:IC :=
(.seq
(.reg 0 [⟨(some 2),none,(.q (.mov (.c .nilptr)))⟩,⟨(some 3),none,(.q (.mov (.c (.int .i64 0))))⟩] [0])
(.seq
(.seq
(.reg 1 [⟨(some 11),none,(.q (.mov (.t 0)))⟩,⟨(some 12),none,(.q (.isnil (.pointer 105) false (.t 11)))⟩] [0,12])
(.cond (.t 12)
(.seq
(.reg 2 [⟨(some 2),none,(.q (.mov (.c .nilptr)))⟩,⟨(some 3),none,(.q (.mov (.c (.int .i64 2))))⟩] [2,3])
.ret)
.skip))
(.seq
(.reg 3 [⟨(some 13),none,.mkmap⟩,⟨(some 14),none,.mkmap⟩,⟨(some 15),none,.mkmap⟩,⟨(some 16),none,(.q (.bld [.nilslice,.nilmap,.nilmap,.nilmap] [⟨1,⟨1,(.t 13)⟩⟩,⟨2,⟨1,(.t 14)⟩⟩,⟨3,⟨1,(.t 15)⟩⟩]))⟩,⟨(some 17),none,(.box (.t 16))⟩,⟨(some 4),none,(.q (.mov (.t 17)))⟩] [0,4])
(.seq
(.seq
(.reg 4 [⟨(some 18),none,(.q (.mov (.t 0)))⟩,⟨(some 19),none,(.call 17 [(.t 18)])⟩,⟨(some 20),none,(.q (.mov (.c (.int .i64 0))))⟩] [0,4,19,20])
(.block 0
(.loop
(.seq
(.reg 5 [⟨(some 21),none,(.q (.bin .lss (.t 20) (.t 19)))⟩] [0,4,19,20,21])
(.seq
(.cond (.t 21)
.skip
(.exit 0))
(.seq
(.block 1
(.seq
(.reg 6 [⟨(some 22),none,(.q (.mov (.t 20)))⟩,⟨(some 5),none,(.q (.mov (.t 22)))⟩] [0,4,5,19,20])
(.seq
(.reg 7 [⟨(some 24),none,(.q (.mov (.t 0)))⟩,⟨(some 25),none,(.q (.mov (.t 5)))⟩,⟨(some 26),none,(.call 19 [(.t 24),(.t 25)])⟩,⟨(some 23),none,(.q (.mov (.t 26)))⟩,⟨(some 27),none,(.q (.ext 0 (.t 23)))⟩,⟨(some 28),none,(.q (.ext 1 (.t 23)))⟩,⟨(some 6),none,(.alloc [(.str []),(.int .i64 0),(.str []),(.str []),(.int .u8 0),(.str []),.nilslice,.nilslice,.nilslice,.nilslice,.nilslice,.nilslice,.nilslice,.nilslice,.nilslice])⟩,⟨none,none,(.store 15 (.t 6) (.t 27))⟩,⟨(some 7),none,(.q (.mov (.t 28)))⟩] [0,4,5,6,7,19,20])
(.seq
(.seq
(.reg 8 [⟨(some 29),none,(.q (.mov (.t 7)))⟩,⟨(some 30),none,(.q (.bin .neq (.t 29) (.c (.int .i64 0))))⟩] [0,4,5,6,7,19,20,30])
(.cond (.t 30)
(.seq
(.reg 9 [⟨(some 31),none,(.q (.mov (.t 7)))⟩,⟨(some 2),none,(.q (.mov (.c .nilptr)))⟩,⟨(some 3),none,(.q (.mov (.t 31)))⟩] [2,3])
.ret)
.skip))
(.seq
(.dreg 10 [⟨(some 32),none,(.q (.mov (.t 4)))⟩,⟨(some 33),none,(.q (.mov (.t 4)))⟩,⟨(some 34),none,(.q (.nchk (.t 33)))⟩,⟨(some 35),none,(.q (.faddr 0 (.t 34)))⟩,⟨(some 36),none,(.q (.load none (.t 35)))⟩,⟨(some 37),none,(.q (.load (some 15) (.t 6)))⟩,⟨(some 38),none,(.bslt 15 1 [(.str []),(.int .i64 0),(.str []),(.str []),(.int .u8 0),(.str []),.nilslice,.nilslice,.nilslice,.nilslice,.nilslice,.nilslice,.nilslice,.nilslice,.nilslice] [⟨0,⟨15,(.t 37)⟩⟩])⟩,⟨(some 39),none,(.app 15 (.t 36) (.t 38))⟩,⟨(some 40),none,(.q (.nchk (.t 32)))⟩,⟨(some 41),none,(.q (.faddr 0 (.t 40)))⟩,⟨none,none,(.store 1 (.t 41) (.t 39))⟩] true [0,4,5,6,19,20])
(.seq
(.dreg 11 [⟨(some 42),none,(.q (.mov (.t 4)))⟩,⟨(some 43),none,(.q (.nchk (.t 42)))⟩,⟨(some 44),none,(.q (.faddr 2 (.t 43)))⟩,⟨(some 45),none,(.q (.load none (.t 44)))⟩,⟨(some 46),none,(.q (.faddr 0 (.t 6)))⟩,⟨(some 47),none,(.q (.load none (.t 46)))⟩,⟨(some 48),none,(.q (.mov (.t 4)))⟩,⟨(some 49),none,(.q (.nchk (.t 48)))⟩,⟨(some 50),none,(.q (.faddr 2 (.t 49)))⟩,⟨(some 51),none,(.q (.load none (.t 50)))⟩,⟨(some 52),none,(.q (.faddr 0 (.t 6)))⟩,⟨(some 53),none,(.q (.load none (.t 52)))⟩,⟨(some 54),none,(.q (.lkp 2 .nilslice false (.t 51) (.t 53)))⟩,⟨(some 55),none,(.q (.mov (.t 5)))⟩,⟨(some 56),none,(.bslt 1 1 [(.int .i64 0)] [⟨0,⟨1,(.t 55)⟩⟩])⟩,⟨(some 57),none,(.app 1 (.t 54) (.t 56))⟩,⟨none,none,(.mupd 2 (.t 45) (.t 47) (.t 57))⟩] true [0,4,5,6,19,20])
(.seq
(.seq
(.reg 12 [⟨(some 58),none,(.q (.load (some 15) (.t 6)))⟩,⟨(some 59),none,(.call 146 [(.t 58)])⟩,⟨(some 60),none,(.mrange (.t 59))⟩] [0,4,5,6,19,20,60])
(.block 2
(.loop
(.seq
(.reg 13 [⟨(some 61),none,(.mnext (.t 60))⟩,⟨(some 62),none,(.q (.ext 0 (.t 61)))⟩] [0,4,5,6,19,20,60,62])
(.seq
(.cond (.t 62)
.skip
(.exit 2))
(.block 3
(.seq
(.reg 14 [⟨(some 63),none,(.ment (.t 60))⟩,⟨(some 64),none,(.q (.ext 0 (.t 63)))⟩,⟨(some 8),none,(.q (.mov (.t 64)))⟩] [0,4,5,6,8,19,20,60])
(.dreg 15 [⟨(some 65),none,(.q (.mov (.t 4)))⟩,⟨(some 66),none,(.q (.nchk (.t 65)))⟩,⟨(some 67),none,(.q (.faddr 1 (.t 66)))⟩,⟨(some 68),none,(.q (.load none (.t 67)))⟩,⟨(some 69),none,(.q (.mov (.t 8)))⟩,⟨(some 70),none,(.q (.mov (.t 4)))⟩,⟨(some 71),none,(.q (.nchk (.t 70)))⟩,⟨(some 72),none,(.q (.faddr 1 (.t 71)))⟩,⟨(some 73),none,(.q (.load none (.t 72)))⟩,⟨(some 74),none,(.q (.mov (.t 8)))⟩,⟨(some 75),none,(.q (.lkp 2 .nilslice false (.t 73) (.t 74)))⟩,⟨(some 76),none,(.q (.mov (.t 5)))⟩,⟨(some 77),none,(.bslt 1 1 [(.int .i64 0)] [⟨0,⟨1,(.t 76)⟩⟩])⟩,⟨(some 78),none,(.app 1 (.t 75) (.t 77))⟩,⟨none,none,(.mupd 2 (.t 68) (.t 69) (.t 78))⟩] true [0,4,5,6,19,20,60]))))))))
(.seq
(.reg 16 [⟨(some 79),none,(.q (.faddr 9 (.t 6)))⟩,⟨(some 80),none,(.q (.load none (.t 79)))⟩,⟨(some 81),none,(.q (.len 0 (.t 80)))⟩,⟨(some 82),none,(.q (.mov (.c (.int .i64 0))))⟩] [0,4,5,19,20,80,81,82])
(.block 4
(.loop
(.seq
(.reg 17 [⟨(some 83),none,(.q (.bin .lss (.t 82) (.t 81)))⟩] [0,4,5,19,20,80,81,82,83])
(.seq
(.cond (.t 83)
.skip
(.exit 4))
(.seq
(.block 5
(.seq
(.reg 18 [⟨(some 84),none,(.q (.iaddr 5 (.t 80) (.t 82)))⟩,⟨(some 85),none,(.q (.load (some 5) (.t 84)))⟩,⟨(some 10),none,(.alloc [(.str []),(.int .u8 0),(.int .i64 0),(.str []),(.str [])])⟩,⟨none,none,(.store 5 (.t 10) (.t 85))⟩] [0,4,5,10,19,20,80,81,82])
(.seq
(.dreg 19 [⟨(some 86),none,(.q (.mov (.t 4)))⟩,⟨(some 87),none,(.q (.nchk (.t 86)))⟩,⟨(some 88),none,(.q (.faddr 3 (.t 87)))⟩,⟨(some 89),none,(.q (.load none (.t 88)))⟩,⟨(some 90),none,(.q (.faddr 0 (.t 10)))⟩,⟨(some 91),none,(.q (.load none (.t 90)))⟩,⟨(some 92),none,(.q (.lkp 2 .nilslice false (.t 89) (.t 91)))⟩,⟨(some 93),none,(.q (.mov (.t 5)))⟩,⟨(some 94),none,(.call 147 [(.t 92),(.t 93)])⟩,⟨(some 95),none,(.q (.not (.t 94)))⟩] false [0,4,5,10,19,20,80,81,82,95])
(.cond (.t 95)
(.dreg 20 [⟨(some 96),none,(.q (.mov (.t 4)))⟩,⟨(some 97),none,(.q (.nchk (.t 96)))⟩,⟨(some 98),none,(.q (.faddr 3 (.t 97)))⟩,⟨(some 99),none,(.q (.load none (.t 98)))⟩,⟨(some 100),none,(.q (.faddr 0 (.t 10)))⟩,⟨(some 101),none,(.q (.load none (.t 100)))⟩,⟨(some 102),none,(.q (.mov (.t 4)))⟩,⟨(some 103),none,(.q (.nchk (.t 102)))⟩,⟨(some 104),none,(.q (.faddr 3 (.t 103)))⟩,⟨(some 105),none,(.q (.load none (.t 104)))⟩,⟨(some 106),none,(.q (.faddr 0 (.t 10)))⟩,⟨(some 107),none,(.q (.load none (.t 106)))⟩,⟨(some 108),none,(.q (.lkp 2 .nilslice false (.t 105) (.t 107)))⟩,⟨(some 109),none,(.q (.mov (.t 5)))⟩,⟨(some 110),none,(.bslt 1 1 [(.int .i64 0)] [⟨0,⟨1,(.t 109)⟩⟩])⟩,⟨(some 111),none,(.app 1 (.t 108) (.t 110))⟩,⟨none,none,(.mupd 2 (.t 99) (.t 101) (.t 111))⟩] true [0,4,5,19,20,80,81,82])
.skip))))
(.reg 21 [⟨(some 112),none,(.q (.bin .add (.t 82) (.c (.int .i64 1))))⟩,⟨(some 82),none,(.q (.mov (.t 112)))⟩] [0,4,5,19,20,80,81,82]))))))))))))))
(.reg 22 [⟨(some 113),none,(.q (.bin .add (.t 20) (.c (.int .i64 1))))⟩,⟨(some 20),none,(.q (.mov (.t 113)))⟩] [0,4,19,20])))))))
(.seq
(.reg 23 [⟨(some 114),none,(.q (.mov (.t 4)))⟩,⟨(some 2),none,(.q (.mov (.t 114)))⟩,⟨(some 3),none,(.q (.mov (.c (.int .i64 0))))⟩] [2,3])
.ret)))))
theorem fok80:FOK Tryz.prog 80 (115,ic80,[(.t 2),(.t 3)]):=.mk (pf:=[1000038,1000056,1000077,1000110]) (an:=[(0,[0]),(1,[0,12]),(2,[2,3]),(3,[0,4]),(4,[0,4,19,20]),(5,[0,4,19,20,21]),(6,[0,4,5,19,20]),(7,[0,4,5,6,7,19,20]),(8,[0,4,5,6,7,19,20,30]),(9,[2,3]),(10,[0,4,5,6,19,20]),(11,[0,4,5,6,19,20]),(12,[0,4,5,6,19,20,60]),(13,[0,4,5,6,19,20,60,62]),(14,[0,4,5,6,8,19,20,60]),(15,[0,4,5,6,19,20,60]),(16,[0,4,5,19,20,80,81,82]),(17,[0,4,5,19,20,80,81,82,83]),(18,[0,4,5,10,19,20,80,81,82]),(19,[0,4,5,10,19,20,80,81,82,95]),(20,[0,4,5,19,20,80,81,82]),(21,[0,4,5,19,20,80,81,82]),(22,[0,4,19,20]),(23,[2,3])]) (by kernel_rfl) (ab3 Tryz.func80 (by kernel_rfl) (by kernel_rfl) (by kernel_rfl))
def ic82:IC :=
(.seq
(.reg 0 [oM 6 (.c .nilslice)] [0,1,2])
(.seq
(.reg 1 [oM 7 (.c .nilslice)] [0,1,2,7])
(.seq
(.seq
(.reg 2 [oM 10 (.t 1),oQ 11 (.len 0 (.t 10)),oM 12 (cI 0)] [0,2,7,10,11,12])
(.block 0
(.loop
(.seq
(.reg 3 [oQ 13 (.bin .lss (.t 12) (.t 11))] [0,2,7,10,11,12,13])
(.seq
(.cond (.t 13)
.skip
(.exit 0))
(.seq
(.block 1
(.seq
(.reg 4 [oQ 14 (.iaddr 1 (.t 10) (.t 12)),oQ 15 (.load none (.t 14)),oM 9 (.t 15)] [0,2,7,9,10,11,12])
(.seq
(.reg 5 [oM 16 (.t 2),oM 17 (.t 0),oQ 18 (.nchk (.t 17)),oQ 19 (.faddr 0 (.t 18)),oQ 20 (.load none (.t 19)),oM 21 (.t 9),oQ 22 (.iaddr 15 (.t 20) (.t 21)),oQ 23 (.load (some 15) (.t 22)),oM 24 (.t 9),oK 25 (.callv (.t 16) [(.t 23),(.t 24)])] [0,2,7,9,10,11,12,25])
(.cond (.t 25)
(.reg 6 [oM 26 (.t 7),oM 27 (.t 9),oK 28 (.bslt 1 1 [(zI 0)] [⟨0,⟨1,(.t 27)⟩⟩]),oK 29 (.app 1 (.t 26) (.t 28)),oM 7 (.t 29)] [0,2,7,10,11,12])
.skip))))
(.reg 7 [oQ 30 (.bin .add (.t 12) (cI 1)),oM 12 (.t 30)] [0,2,7,10,11,12])))))))
(.seq
(.reg 8 [oM 31 (.t 7),oM 6 (.t 31)] [6])
.ret))))
theorem fok82:FOK Tryz.prog 82 (32,ic82,[(.t 6)]):=fokA [1000028] Tryz.func82
def ic85:IC :=
(.seq
(.reg 0 [oM 2 (.c .nilslice)] [0])
(.seq
(.seq
(.reg 1 [oM 6 (.t 0),oQ 7 (.len 0 (.t 6)),oQ 8 (.bin .lss (.t 7) (cI 2))] [0,8])
(.cond (.t 8)
(.seq
(.reg 2 [oM 9 (.t 0),oM 2 (.t 9)] [2])
.ret)
.skip))
(.seq
(.seq
(.reg 3 [oM 3 (cI 1)] [0,3])
(.block 0
(.loop
(.seq
(.seq
(.reg 4 [oM 10 (.t 3),oM 11 (.t 0),oQ 12 (.len 0 (.t 11)),oQ 13 (.bin .lss (.t 10) (.t 12))] [0,3,13])
(.cond (.t 13)
.skip
(.exit 0)))
(.seq
(.block 1
(.seq
(.dreg 6 [oM 16 (.t 0),oM 17 (.t 3),oQ 18 (.iaddr 1 (.t 16) (.t 17)),oQ 19 (.load none (.t 18)),oM 20 (.t 0),oM 21 (.t 3),oQ 22 (.bin .sub (.t 21) (cI 1)),oQ 23 (.iaddr 1 (.t 20) (.t 22)),oQ 24 (.load none (.t 23)),oQ 25 (.bin .eql (.t 19) (.t 24))] false [0,3,25])
(.cond (.t 25)
(.seq
(.reg 7 [oM 26 (.t 0),oM 27 (.t 3),oQ 28 (.slc 1 (.t 26) (some (.t 27)) none),oM 4 (.t 28)] [0,3,4])
(.seq
(.seq
(.reg 8 [oM 5 (cI 1)] [0,3,4,5])
(.block 2
(.loop
(.seq
(.seq
(.reg 9 [oM 29 (.t 5),oM 30 (.t 4),oQ 31 (.len 0 (.t 30)),oQ 32 (.bin .lss (.t 29) (.t 31))] [0,3,4,5,32])
(.cond (.t 32)
.skip
(.exit 2)))
(.seq
(.block 3
(.seq
(.dreg 11 [oM 35 (.t 4),oM 36 (.t 5),oQ 37 (.iaddr 1 (.t 35) (.t 36)),oQ 38 (.load none (.t 37)),oM 39 (.t 4),oM 40 (.t 5),oQ 41 (.bin .sub (.t 40) (cI 1)),oQ 42 (.iaddr 1 (.t 39) (.t 41)),oQ 43 (.load none (.t 42)),oQ 44 (.bin .neq (.t 38) (.t 43))] false [0,3,4,5,44])
(.cond (.t 44)
(.seq
(.reg 12 [oM 45 (.t 0),oM 46 (.t 3),oM 47 (.t 4),oM 48 (.t 5),oQ 49 (.iaddr 1 (.t 47) (.t 48)),oQ 50 (.load none (.t 49)),oQ 51 (.iaddr 1 (.t 45) (.t 46)),oN (.store 1 (.t 51) (.t 50))] [0,3,4,5])
(.reg 13 [oM 52 (.t 3),oQ 53 (.bin .add (.t 52) (cI 1)),oM 3 (.t 53)] [0,3,4,5]))
.skip)))
(.reg 10 [oM 33 (.t 5),oQ 34 (.bin .add (.t 33) (cI 1)),oM 5 (.t 34)] [0,3,4,5]))))))
(.seq
(.reg 14 [oM 54 (.t 0),oM 55 (.t 3),oQ 56 (.slc 1 (.t 54) (some (.t 55)) none),oN (.clr 1 [(zI 0)] (.t 56))] [0,3])
(.seq
(.reg 15 [oM 57 (.t 0),oM 58 (.t 3),oQ 59 (.slc 1 (.t 57) none (some (.t 58))),oM 2 (.t 59)] [2])
.ret))))
.skip)))
(.reg 5 [oM 14 (.t 3),oQ 15 (.bin .add (.t 14) (cI 1)),oM 3 (.t 15)] [0,3]))))))
(.seq
(.reg 16 [oM 60 (.t 0),oM 2 (.t 60)] [2])
.ret))))
theorem fok85:FOK Tryz.prog 85 (61,ic85,[(.t 2)]):=fokA [] Tryz.func85
def ic87:IC :=
(.seq
(.reg 0 [oK 3 (.boxt (.t 0)),oM 5 (cB false)] [2,3])
(.seq
(.reg 1 [oQ 6 (.load (some 15) (.t 3)),oQ 7 (.load (some 5) (.t 2)),oK 8 (.call 31 [(.t 6),(.t 7)]),oM 5 (.t 8)] [5])
.ret))
theorem fok87:FOK Tryz.prog 87 (9,ic87,[(.t 5)]):=fokA [1000003] Tryz.func87
def ic89:IC :=
(.seq
(.reg 0 [oK 2 (.boxt (.t 0)),oM 3 (cB false)] [1,2])
(.seq
(.reg 1 [oQ 4 (.load (some 5) (.t 2)),oQ 5 (.load (some 5) (.t 1)),oK 6 (.call 90 [(.t 4),(.t 5)]),oM 3 (.t 6)] [3])
.ret))
theorem fok89:FOK Tryz.prog 89 (7,ic89,[(.t 3)]):=fokA [1000002] Tryz.func89
def ic90:IC :=
(.seq
(.reg 0 [oK 2 (.boxt (.t 0)),oK 3 (.boxt (.t 1)),oM 4 (cB false)] [2,3])
(.seq
(.reg 1 [oQ 5 (.faddr 0 (.t 2)),oQ 6 (.load none (.t 5)),oQ 7 (.faddr 0 (.t 3)),oQ 8 (.load none (.t 7)),oQ 9 (.bin .eql (.t 6) (.t 8)),oM 10 (.t 9),gQ 11 10 true (.load (some 5) (.t 2)),gQ 12 10 true (.load (some 5) (.t 3)),gK 13 10 true (.call 150 [(.t 11),(.t 12)]),oQ 14 (.pick (.t 10) (.t 13) (cB false)),oM 4 (.t 14)] [4])
.ret))
theorem fok90:FOK Tryz.prog 90 (15,ic90,[(.t 4)]):=fokA [1000002,1000003] Tryz.func90
def ic91:IC :=
(.seq
(.reg 0 [oM 4 (cB false)] [0,1])
(.seq
(.reg 1 [oM 5 (.t 0),oM 6 (.t 1),oK 7 (.call 151 [(.t 5),(.t 6)]),oQ 8 (.bin .geq (.t 7) (cI 0)),oM 4 (.t 8)] [4])
.ret))
theorem fok91:FOK Tryz.prog 91 (9,ic91,[(.t 4)]):=fokA [] Tryz.func91
def ic92:IC :=
(.seq
(.reg 0 [oK 1 (.boxt (.t 0)),oK 2 (.alloc [(.str []),(zU 0),(zI 0),(.str []),(.str [])])] [1,2])
(.seq
(.reg 1 [oQ 3 (.faddr 0 (.t 1)),oQ 4 (.load none (.t 3)),oQ 5 (.faddr 1 (.t 1)),oQ 6 (.load (some 3) (.t 5)),oK 7 (.call 152 [(.t 4),(.t 6)]),oN (.store 5 (.t 2) (.t 7))] [2])
.ret))
theorem fok92:FOK Tryz.prog 92 (8,ic92,[(.cell (some 5) 2)]):=fokA [1000001] Tryz.func92
def ic98:IC :=
(.seq
(.reg 0 [oK 2 (.boxt (.t 0)),oK 3 (.boxt (.t 1)),oM 4 (.c .nilptr),oM 5 (cI 0)] [2,3])
(.seq
(.block 0
(.seq
(.reg 1 [oQ 13 (.load none (.t 2)),oQ 14 (.isnil (.pointer 105) false (.t 13)),oM 12 (.t 14)] [2,3,12])
(.cond (.t 12)
(.seq
(.reg 2 [oM 4 (.c .nilptr),oM 5 (cI 2)] [4,5])
.ret)
(.seq
(.reg 3 [oQ 16 (.faddr 0 (.t 3)),oQ 17 (.load none (.t 16)),oK 18 (.call 154 [(.t 17)]),oQ 19 (.not (.t 18)),oM 20 (.t 19),gQ 21 20 false (.faddr 4 (.t 3)),gQ 22 20 false (.load none (.t 21)),gQ 23 20 false (.bin .lss (.t 22) (cI 0)),oQ 24 (.pick (.t 20) (cB true) (.t 23)),oM 25 (.t 24),gQ 26 25 false (.faddr 4 (.t 3)),gQ 27 25 false (.load none (.t 26)),gQ 28 25 false (.bin .gtr (.t 27) (cI 1099511627776)),oQ 29 (.pick (.t 25) (cB true) (.t 28)),oM 15 (.t 29)] [2,3,15])
(.cond (.t 15)
(.seq
(.reg 4 [oM 4 (.c .nilptr),oM 5 (cI 1)] [4,5])
.ret)
(.seq
(.reg 5 [oQ 31 (.faddr 2 (.t 3)),oQ 32 (.load none (.t 31)),oQ 33 (.len 0 (.t 32)),oQ 34 (.bin .gtr (.t 33) (cI 64)),oM 35 (.t 34),gQ 36 35 false (.faddr 3 (.t 3)),gQ 37 35 false (.load none (.t 36)),gQ 38 35 false (.len 0 (.t 37)),gQ 39 35 false (.bin .gtr (.t 38) (cI 64)),oQ 40 (.pick (.t 35) (cB true) (.t 39)),oM 30 (.t 40)] [2,3,30])
(.cond (.t 30)
(.seq
(.reg 6 [oM 4 (.c .nilptr),oM 5 (cI 40)] [4,5])
.ret)
(.seq
(.reg 7 [oQ 42 (.faddr 2 (.t 3)),oQ 43 (.load none (.t 42)),oK 44 (.call 155 [(.t 43),(.f 156)]),oM 41 (.t 44)] [2,3,41])
(.cond (.t 41)
(.seq
(.reg 8 [oM 4 (.c .nilptr),oM 5 (cI 4)] [4,5])
.ret)
(.seq
(.reg 9 [oQ 46 (.faddr 3 (.t 3)),oQ 47 (.load none (.t 46)),oQ 48 (.mkf 159 [] [(.t 3),(.t 2)]),oK 49 (.call 158 [(.t 47),(.t 48)]),oM 45 (.t 49)] [2,3,45])
(.cond (.t 45)
(.seq
(.reg 10 [oM 4 (.c .nilptr),oM 5 (cI 5)] [4,5])
.ret)
.skip)))))))))))
(.seq
(.reg 11 [oQ 51 (.load none (.t 2)),oK 52 (.call 80 [(.t 51)]),oM 50 (.t 52),oQ 53 (.ext 0 (.t 50)),oQ 54 (.ext 1 (.t 50)),oM 6 (.t 53),oM 7 (.t 54)] [2,3,6,7])
(.seq
(.seq
(.reg 12 [oM 55 (.t 7),oQ 56 (.bin .neq (.t 55) (cI 0))] [2,3,6,7,56])
(.cond (.t 56)
(.seq
(.reg 13 [oM 57 (.t 7),oM 4 (.c .nilptr),oM 5 (.t 57)] [4,5])
.ret)
.skip))
(.seq
(.dreg 14 [oQ 58 (.load none (.t 2)),oM 59 (.t 6),oQ 60 (.load (some 5) (.t 3)),oK 61 (.pcall 161 [(.t 60)]),oQ 62 (.bld [.nilptr,.nilptr,(zU 0),(.bool false),.nilslice,.nilslice,(zI 0),.nilslice] [⟨0,⟨1,(.t 58)⟩⟩,⟨1,⟨1,(.t 59)⟩⟩,⟨2,⟨5,(.t 61)⟩⟩]),oK 63 (.box (.t 62)),oM 8 (.t 63)] false [2,8])
(.seq
(.seq
(.reg 15 [oQ 64 (.load none (.t 2)),oK 65 (.call 17 [(.t 64)]),oM 66 (cI 0)] [2,8,65,66])
(.block 1
(.loop
(.seq
(.reg 16 [oQ 67 (.bin .lss (.t 66) (.t 65))] [2,8,65,66,67])
(.seq
(.cond (.t 67)
.skip
(.exit 1))
(.seq
(.block 2
(.seq
(.reg 17 [oM 68 (.t 66),oM 9 (.t 68)] [2,8,9,65,66])
(.seq
(.reg 18 [oQ 70 (.load none (.t 2)),oM 71 (.t 9),oK 72 (.call 19 [(.t 70),(.t 71)]),oM 69 (.t 72),oQ 73 (.ext 0 (.t 69)),oQ 74 (.ext 1 (.t 69)),oK 10 (.alloc [(.str []),(zI 0),(.str []),(.str []),(zU 0),(.str []),.nilslice,.nilslice,.nilslice,.nilslice,.nilslice,.nilslice,.nilslice,.nilslice,.nilslice]),oN (.store 15 (.t 10) (.t 73)),oM 11 (.t 74)] [2,8,10,11,65,66])
(.seq
(.seq
(.reg 19 [oM 75 (.t 11),oQ 76 (.bin .neq (.t 75) (cI 0))] [2,8,10,11,65,66,76])
(.cond (.t 76)
(.seq
(.reg 20 [oM 77 (.t 11),oM 4 (.c .nilptr),oM 5 (.t 77)] [4,5])
.ret)
.skip))
(.dreg 21 [oM 78 (.t 8),oM 79 (.t 8),oQ 80 (.nchk (.t 79)),oQ 81 (.faddr 7 (.t 80)),oQ 82 (.load none (.t 81)),oQ 83 (.load (some 15) (.t 10)),oK 84 (.bslt 15 1 [(.str []),(zI 0),(.str []),(.str []),(zU 0),(.str []),.nilslice,.nilslice,.nilslice,.nilslice,.nilslice,.nilslice,.nilslice,.nilslice,.nilslice] [⟨0,⟨15,(.t 83)⟩⟩]),oK 85 (.app 15 (.t 82) (.t 84)),oQ 86 (.nchk (.t 78)),oQ 87 (.faddr 7 (.t 86)),oN (.store 1 (.t 87) (.t 85))] true [2,8,65,66])))))
(.reg 22 [oQ 88 (.bin .add (.t 66) (cI 1)),oM 66 (.t 88)] [2,8,65,66])))))))
(.seq
(.reg 23 [oM 89 (.t 8),oM 4 (.t 89),oM 5 (cI 0)] [4,5])
.ret)))))))
theorem fok98:FOK Tryz.prog 98 (90,ic98,[(.t 4),(.t 5)]):=fokA ([1000002,1000003,1000084]++[161]) Tryz.func98 (by kernel_rfl) (by kernel_rfl) (by kernel_rfl) (by kernel_rfl)
def ic101:IC :=
(.seq
(.reg 0 [oM 4 (.c .nilslice)] [0,1])
(.seq
(.reg 1 [oM 8 (.t 0),oM 9 (.t 1),oK 10 (.call 163 [(.t 8),(.t 9)]),oM 5 (.t 10)] [0,1,5])
(.seq
(.seq
(.reg 2 [oM 11 (.t 5),oQ 12 (.bin .eql (.t 11) (cI (-1)))] [0,1,5,12])
(.cond (.t 12)
(.seq
(.reg 3 [oM 13 (.t 0),oM 4 (.t 13)] [4])
.ret)
.skip))
(.seq
(.seq
(.reg 4 [oM 14 (.t 5),oQ 15 (.bin .add (.t 14) (cI 1)),oM 6 (.t 15)] [0,1,5,6])
(.block 0
(.loop
(.seq
(.seq
(.reg 5 [oM 16 (.t 6),oM 17 (.t 0),oQ 18 (.len 0 (.t 17)),oQ 19 (.bin .lss (.t 16) (.t 18))] [0,1,5,6,19])
(.cond (.t 19)
.skip
(.exit 0)))
(.seq
(.block 1
(.seq
(.reg 7 [oM 22 (.t 0),oM 23 (.t 6),oQ 24 (.iaddr 1 (.t 22) (.t 23)),oQ 25 (.load none (.t 24)),oM 7 (.t 25)] [0,1,5,6,7])
(.seq
(.reg 8 [oM 26 (.t 1),oM 27 (.t 7),oK 28 (.callv (.t 26) [(.t 27)]),oQ 29 (.not (.t 28))] [0,1,5,6,7,29])
(.cond (.t 29)
(.seq
(.reg 9 [oM 30 (.t 0),oM 31 (.t 5),oM 32 (.t 7),oQ 33 (.iaddr 1 (.t 30) (.t 31)),oN (.store 1 (.t 33) (.t 32))] [0,1,5,6])
(.reg 10 [oM 34 (.t 5),oQ 35 (.bin .add (.t 34) (cI 1)),oM 5 (.t 35)] [0,1,5,6]))
.skip))))
(.reg 6 [oM 20 (.t 6),oQ 21 (.bin .add (.t 20) (cI 1)),oM 6 (.t 21)] [0,1,5,6]))))))
(.seq
(.reg 11 [oM 36 (.t 0),oM 37 (.t 5),oQ 38 (.slc 1 (.t 36) (some (.t 37)) none),oN (.clr 1 [(zI 0)] (.t 38))] [0,5])
(.seq
(.reg 12 [oM 39 (.t 0),oM 40 (.t 5),oQ 41 (.slc 1 (.t 39) none (some (.t 40))),oM 4 (.t 41)] [4])
.ret))))))
theorem fok101:FOK Tryz.prog 101 (42,ic101,[(.t 4)]):=fokA [] Tryz.func101
def ic106:IC :=
(.seq
(.reg 0 [oK 2 (.boxt (.t 0)),oK 3 (.boxt (.t 1)),oM 4 (cI 0)] [2,3])
(.seq
(.reg 1 [oQ 5 (.mkf 165 [] [(.t 2),(.t 3)]),oQ 6 (.mkf 166 [] [(.t 2),(.t 3)]),oQ 7 (.mkf 168 [] [(.t 2),(.t 3)]),oK 8 (.bslt 1 3 [.nilfunc] [⟨0,⟨1,(.t 5)⟩⟩,⟨1,⟨1,(.t 6)⟩⟩,⟨2,⟨1,(.t 7)⟩⟩]),oK 9 (.call 164 [(.t 8)]),oM 4 (.t 9)] [4])
.ret))
theorem fok106:FOK Tryz.prog 106 (10,ic106,[(.t 4)]):=fokA [1000002,1000003,1000008] Tryz.func106
def ic109:IC :=
(.seq
(.reg 0 [oM 4 (cB false)] [0,1])
(.seq
(.reg 1 [oM 5 (.t 0),oQ 6 (.isnil (.pointer 136) true (.t 5)),oM 7 (.t 6),gQ 8 7 true (.mov (.t 1)),gQ 9 7 true (.bin .geq (.t 8) (cI 0)),oQ 10 (.pick (.t 7) (.t 9) (cB false)),oM 11 (.t 10),gQ 12 11 true (.mov (.t 1)),gQ 13 11 true (.mov (.t 0)),gQ 14 11 true (.nchk (.t 13)),gQ 15 11 true (.faddr 7 (.t 14)),gQ 16 11 true (.load none (.t 15)),gQ 17 11 true (.len 0 (.t 16)),gQ 18 11 true (.bin .lss (.t 12) (.t 17)),oQ 19 (.pick (.t 11) (.t 18) (cB false)),oM 4 (.t 19)] [4])
.ret))
theorem fok109:FOK Tryz.prog 109 (20,ic109,[(.t 4)]):=fokA [] Tryz.func109
def ic110:IC :=
(.seq
(.reg 0 [oM 4 (cB false)] [0,1])
(.seq
(.reg 1 [oM 5 (.t 0),oM 6 (.t 1),oK 7 (.call 170 [(.t 5),(.t 6)]),oQ 8 (.bin .gtr (.t 7) (cI 0)),oM 4 (.t 8)] [4])
.ret))
theorem fok110:FOK Tryz.prog 110 (9,ic110,[(.t 4)]):=fokA [] Tryz.func110
def ic116:IC :=
(.seq
(.reg 0 [oK 4 (.alloc [(.str []),(zI 0),(.str []),(.str []),(zU 0),(.str []),.nilslice,.nilslice,.nilslice,.nilslice,.nilslice,.nilslice,.nilslice,.nilslice,.nilslice])] [0,1,4])
(.seq
(.reg 1 [oM 5 (.t 0),oM 6 (.t 1),oQ 7 (.bld [(zI 0),(.str []),(.str [])] [⟨1,⟨1,(.t 6)⟩⟩,⟨2,⟨1,(.c (.str [49]))⟩⟩]),oQ 8 (.bld [(.str []),(zI 0),(.str []),(.str []),(zU 0),(.str []),.nilslice,.nilslice,.nilslice,.nilslice,.nilslice,.nilslice,.nilslice,.nilslice,.nilslice] [⟨0,⟨1,(.t 5)⟩⟩,⟨1,⟨3,(.t 7)⟩⟩,⟨4,⟨1,(.c (zU 2))⟩⟩]),oN (.store 15 (.t 4) (.t 8))] [4])
.ret))
theorem fok116:FOK Tryz.prog 116 (9,ic116,[(.cell (some 15) 4)]):=fokA [] Tryz.func116
def ic117:IC :=
(.seq
(.reg 0 [oM 4 (cB false)] [0,1])
(.seq
(.reg 1 [oM 5 (.t 0),oM 6 (.t 1),oK 7 (.call 37 [(.t 5),(.t 6)]),oM 4 (.t 7)] [4])
.ret))
theorem fok117:FOK Tryz.prog 117 (8,ic117,[(.t 4)]):=fokA [] Tryz.func117
def ic118:IC :=
(.seq
(.reg 0 [oM 4 (cI 0)] [0,1])
(.seq
(.reg 1 [oM 5 (cI 0)] [0,1,5])
(.seq
(.seq
(.reg 2 [oM 6 (cI 0)] [0,1,5,6])
(.block 0
(.loop
(.seq
(.seq
(.reg 3 [oM 10 (.t 6),oM 11 (.t 0),oQ 12 (.len 0 (.t 11)),oQ 13 (.bin .lss (.t 10) (.t 12)),oM 14 (.t 13),gQ 15 14 true (.mov (.t 5)),gQ 16 14 true (.mov (.t 1)),gQ 17 14 true (.bin .lss (.t 15) (.t 16)),oQ 18 (.pick (.t 14) (.t 17) (cB false))] [0,1,5,6,18])
(.cond (.t 18)
.skip
(.exit 0)))
(.seq
(.block 1
(.seq
(.reg 5 [oM 21 (.t 0),oM 22 (.t 6),oQ 23 (.iaddr 15 (.t 21) (.t 22)),oQ 24 (.load (some 15) (.t 23)),oK 7 (.alloc [(.str []),(zI 0),(.str []),(.str []),(zU 0),(.str []),.nilslice,.nilslice,.nilslice,.nilslice,.nilslice,.nilslice,.nilslice,.nilslice,.nilslice]),oN (.store 15 (.t 7) (.t 24))] [0,1,5,6,7])
(.seq
(.reg 6 [oM 25 (.t 5),oQ 26 (.bin .add (.t 25) (cI 1)),oQ 27 (.faddr 6 (.t 7)),oQ 28 (.load none (.t 27)),oQ 29 (.len 0 (.t 28)),oQ 30 (.bin .add (.t 26) (.t 29)),oQ 31 (.faddr 9 (.t 7)),oQ 32 (.load none (.t 31)),oQ 33 (.len 0 (.t 32)),oQ 34 (.bin .add (.t 30) (.t 33)),oQ 35 (.faddr 14 (.t 7)),oQ 36 (.load none (.t 35)),oQ 37 (.len 0 (.t 36)),oQ 38 (.bin .add (.t 34) (.t 37)),oM 5 (.t 38)] [0,1,5,6,7])
(.seq
(.reg 7 [oQ 39 (.faddr 7 (.t 7)),oQ 40 (.load none (.t 39)),oQ 41 (.faddr 8 (.t 7)),oQ 42 (.load none (.t 41)),oQ 43 (.faddr 10 (.t 7)),oQ 44 (.load none (.t 43)),oQ 45 (.faddr 11 (.t 7)),oQ 46 (.load none (.t 45)),oQ 47 (.faddr 12 (.t 7)),oQ 48 (.load none (.t 47)),oQ 49 (.faddr 13 (.t 7)),oQ 50 (.load none (.t 49)),oK 51 (.bslt 1 6 [.nilslice] [⟨0,⟨1,(.t 40)⟩⟩,⟨1,⟨1,(.t 42)⟩⟩,⟨2,⟨1,(.t 44)⟩⟩,⟨3,⟨1,(.t 46)⟩⟩,⟨4,⟨1,(.t 48)⟩⟩,⟨5,⟨1,(.t 50)⟩⟩]),oQ 52 (.len 0 (.t 51)),oM 53 (cI 0)] [0,1,5,6,51,52,53])
(.block 2
(.loop
(.seq
(.reg 8 [oQ 54 (.bin .lss (.t 53) (.t 52))] [0,1,5,6,51,52,53,54])
(.seq
(.cond (.t 54)
.skip
(.exit 2))
(.seq
(.block 3
(.seq
(.reg 9 [oQ 55 (.iaddr 1 (.t 51) (.t 53)),oQ 56 (.load none (.t 55)),oM 9 (.t 56)] [0,1,5,6,9,51,52,53])
(.reg 10 [oM 57 (.t 5),oM 58 (.t 9),oM 59 (.t 1),oK 60 (.call 175 [(.t 58),(.t 59)]),oQ 61 (.bin .add (.t 57) (.t 60)),oM 5 (.t 61)] [0,1,5,6,51,52,53])))
(.reg 11 [oQ 62 (.bin .add (.t 53) (cI 1)),oM 53 (.t 62)] [0,1,5,6,51,52,53]))))))))))
(.reg 4 [oM 19 (.t 6),oQ 20 (.bin .add (.t 19) (cI 1)),oM 6 (.t 20)] [0,1,5,6]))))))
(.seq
(.reg 12 [oM 63 (.t 5),oM 4 (.t 63)] [4])
.ret))))
theorem fok118:FOK Tryz.prog 118 (64,ic118,[(.t 4)]):=fokA [1000051] Tryz.func118
end Go.Id.Tryz
