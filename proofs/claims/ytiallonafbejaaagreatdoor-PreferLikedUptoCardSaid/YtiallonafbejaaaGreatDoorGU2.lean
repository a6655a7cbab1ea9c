/- The compiled codes of functions,written by a program out of the given form. Conditions: none. -/
import Derived.Test.YtiallonafbejaaaGreatDoorFwYa
import Derived.Test.YtiallonafbejaaaGreatDoorProg
set_option linter.all false
namespace Go.Id.Tryz
open Go Go.Id Go.Proofs
def ie5:List Nat:=List.range 357
def ic119:IC :=
(.seq
(.reg 0 [oM 2 (.c .nilptr),oM 3 (cI 0)] [0])
(.seq
(.seq
(.reg 1 [oM 20 (.t 0),oQ 21 (.isnil (.pointer 136) false (.t 20))] [0,21])
(.cond (.t 21)
(.seq
(.reg 2 [oM 2 (.c .nilptr),oM 3 (cI 2)] [2,3])
.ret)
.skip))
(.seq
(.reg 3 [oM 22 (.t 0),oM 23 (.t 0),oK 24 (.call 176 [(.t 23)]),oM 25 (.t 0),oK 26 (.call 177 [(.t 25)]),oQ 27 (.fld none 0 (.t 26)),oQ 28 (.bld [.nilptr,.nilptr,(zU 0),.nilslice,.nilslice] [⟨0,⟨1,(.t 22)⟩⟩,⟨1,⟨1,(.t 24)⟩⟩,⟨2,⟨1,(.t 27)⟩⟩]),oK 29 (.box (.t 28)),oM 4 (.t 29)] [4])
(.seq
(.seq
(.reg 4 [oM 30 (.t 4),oQ 31 (.nchk (.t 30)),oQ 32 (.faddr 1 (.t 31)),oQ 33 (.load none (.t 32)),oK 34 (.call 17 [(.t 33)]),oM 35 (cI 0)] [4,34,35])
(.block 0
(.loop
(.seq
(.reg 5 [oQ 36 (.bin .lss (.t 35) (.t 34))] [4,34,35,36])
(.seq
(.cond (.t 36)
.skip
(.exit 0))
(.seq
(.block 1
(.seq
(.reg 6 [oM 37 (.t 35),oM 5 (.t 37)] [4,5,34,35])
(.seq
(.reg 7 [oM 39 (.t 4),oQ 40 (.nchk (.t 39)),oQ 41 (.faddr 1 (.t 40)),oQ 42 (.load none (.t 41)),oM 43 (.t 5),oK 44 (.call 19 [(.t 42),(.t 43)]),oM 38 (.t 44),oQ 45 (.ext 0 (.t 38)),oQ 46 (.ext 1 (.t 38)),oK 6 (.alloc [(.str []),(zI 0),(.str []),(.str []),(zU 0),(.str []),.nilslice,.nilslice,.nilslice,.nilslice,.nilslice,.nilslice,.nilslice,.nilslice,.nilslice]),oN (.store 15 (.t 6) (.t 45)),oM 7 (.t 46)] [4,6,7,34,35])
(.seq
(.seq
(.reg 8 [oM 47 (.t 7),oQ 48 (.bin .neq (.t 47) (cI 0))] [4,6,7,34,35,48])
(.cond (.t 48)
(.seq
(.reg 9 [oM 49 (.t 7),oM 2 (.c .nilptr),oM 3 (.t 49)] [2,3])
.ret)
.skip))
(.dreg 10 [oM 50 (.t 4),oM 51 (.t 4),oQ 52 (.nchk (.t 51)),oQ 53 (.faddr 3 (.t 52)),oQ 54 (.load none (.t 53)),oQ 55 (.load (some 15) (.t 6)),oK 56 (.bslt 15 1 [(.str []),(zI 0),(.str []),(.str []),(zU 0),(.str []),.nilslice,.nilslice,.nilslice,.nilslice,.nilslice,.nilslice,.nilslice,.nilslice,.nilslice] [⟨0,⟨15,(.t 55)⟩⟩]),oK 57 (.app 15 (.t 54) (.t 56)),oQ 58 (.nchk (.t 50)),oQ 59 (.faddr 3 (.t 58)),oN (.store 1 (.t 59) (.t 57))] true [4,34,35])))))
(.reg 11 [oQ 60 (.bin .add (.t 35) (cI 1)),oM 35 (.t 60)] [4,34,35])))))))
(.seq
(.reg 12 [oM 62 (.t 4),oQ 63 (.nchk (.t 62)),oQ 64 (.faddr 1 (.t 63)),oQ 65 (.load none (.t 64)),oK 66 (.call 178 [(.t 65)]),oM 61 (.t 66),oQ 67 (.ext 0 (.t 61)),oQ 68 (.ext 1 (.t 61)),oK 8 (.alloc [.nilptr]),oN (.store 1 (.t 8) (.t 67)),oM 9 (.t 68)] [4,8,9])
(.seq
(.seq
(.reg 13 [oM 69 (.t 9),oQ 70 (.bin .neq (.t 69) (cI 0))] [4,8,9,70])
(.cond (.t 70)
(.seq
(.reg 14 [oM 71 (.t 9),oM 2 (.c .nilptr),oM 3 (.t 71)] [2,3])
.ret)
.skip))
(.seq
(.reg 15 [oK 10 (.alloc [.nilslice])] [4,8,10])
(.seq
(.reg 16 [oM 11 (.c .nilslice)] [4,8,10,11])
(.seq
(.seq
(.dreg 17 [oM 72 (.t 4),oQ 73 (.nchk (.t 72)),oQ 74 (.faddr 3 (.t 73)),oQ 75 (.load none (.t 74)),oM 76 (.t 4),oQ 77 (.nchk (.t 76)),oQ 78 (.faddr 1 (.t 77)),oQ 79 (.load none (.t 78)),oK 80 (.pcall 66 [(.t 79)]),oQ 81 (.slc 15 (.t 75) none (some (.t 80))),oQ 82 (.len 0 (.t 81)),oM 83 (cI 0)] false [4,8,10,11,81,82,83])
(.block 2
(.loop
(.seq
(.reg 18 [oQ 84 (.bin .lss (.t 83) (.t 82))] [4,8,10,11,81,82,83,84])
(.seq
(.cond (.t 84)
.skip
(.exit 2))
(.seq
(.block 3
(.seq
(.reg 19 [oM 85 (.t 83),oQ 86 (.iaddr 15 (.t 81) (.t 83)),oQ 87 (.load (some 15) (.t 86)),oK 13 (.alloc [(.str []),(zI 0),(.str []),(.str []),(zU 0),(.str []),.nilslice,.nilslice,.nilslice,.nilslice,.nilslice,.nilslice,.nilslice,.nilslice,.nilslice]),oM 12 (.t 85),oN (.store 15 (.t 13) (.t 87))] [4,8,10,11,12,13,81,82,83])
(.seq
(.reg 20 [oQ 88 (.load none (.t 10)),oM 89 (.t 12),oK 90 (.bslt 1 1 [(zI 0)] [⟨0,⟨1,(.t 89)⟩⟩]),oK 91 (.app 1 (.t 88) (.t 90)),oN (.store 1 (.t 10) (.t 91))] [4,8,10,11,13,81,82,83])
(.seq
(.reg 21 [oQ 92 (.faddr 12 (.t 13)),oQ 93 (.load none (.t 92)),oQ 94 (.len 0 (.t 93)),oM 95 (cI 0)] [4,8,10,11,81,82,83,93,94,95])
(.block 4
(.loop
(.seq
(.reg 22 [oQ 96 (.bin .lss (.t 95) (.t 94))] [4,8,10,11,81,82,83,93,94,95,96])
(.seq
(.cond (.t 96)
.skip
(.exit 4))
(.seq
(.block 5
(.seq
(.reg 23 [oQ 97 (.iaddr 7 (.t 93) (.t 95)),oQ 98 (.load (some 7) (.t 97)),oK 15 (.alloc [(zU 0),(.str []),(zU 0),(zI 0),(.str []),(.str []),.nilslice]),oN (.store 7 (.t 15) (.t 98))] [4,8,10,11,15,81,82,83,93,94,95])
(.reg 24 [oM 99 (.t 11),oQ 100 (.load (some 7) (.t 15)),oK 101 (.call 179 [(.t 100)]),oK 102 (.app 5 (.t 99) (.t 101)),oM 11 (.t 102)] [4,8,10,11,81,82,83,93,94,95])))
(.reg 25 [oQ 103 (.bin .add (.t 95) (cI 1)),oM 95 (.t 103)] [4,8,10,11,81,82,83,93,94,95]))))))))))
(.reg 26 [oQ 104 (.bin .add (.t 83) (cI 1)),oM 83 (.t 104)] [4,8,10,11,81,82,83])))))))
(.seq
(.seq
(.reg 27 [oM 105 (.t 4),oQ 106 (.nchk (.t 105)),oQ 107 (.faddr 3 (.t 106)),oQ 108 (.load none (.t 107)),oQ 109 (.len 0 (.t 108)),oM 110 (cI 0)] [4,8,10,11,108,109,110])
(.block 6
(.loop
(.seq
(.reg 28 [oQ 111 (.bin .lss (.t 110) (.t 109))] [4,8,10,11,108,109,110,111])
(.seq
(.cond (.t 111)
.skip
(.exit 6))
(.seq
(.block 7
(.seq
(.reg 29 [oQ 112 (.iaddr 15 (.t 108) (.t 110)),oQ 113 (.load (some 15) (.t 112)),oK 17 (.alloc [(.str []),(zI 0),(.str []),(.str []),(zU 0),(.str []),.nilslice,.nilslice,.nilslice,.nilslice,.nilslice,.nilslice,.nilslice,.nilslice,.nilslice]),oN (.store 15 (.t 17) (.t 113))] [4,8,10,11,17,108,109,110])
(.seq
(.reg 30 [oM 114 (.t 11),oQ 115 (.mkf 180 [] [(.t 17)]),oK 116 (.call 75 [(.t 114),(.t 115)]),oM 18 (.t 116)] [4,8,10,11,17,18,108,109,110])
(.seq
(.reg 31 [oQ 117 (.faddr 13 (.t 17)),oQ 118 (.load none (.t 117)),oQ 119 (.mkf 182 [] [(.t 8),(.t 10)]),oK 120 (.call 181 [(.t 118),(.t 119)]),oM 19 (.t 120)] [4,8,10,11,18,19,108,109,110])
(.reg 32 [oM 121 (.t 4),oM 122 (.t 4),oQ 123 (.nchk (.t 122)),oQ 124 (.faddr 4 (.t 123)),oQ 125 (.load none (.t 124)),oM 126 (.t 18),oM 127 (.t 126),gQ 128 127 false (.mov (.t 19)),oQ 129 (.pick (.t 127) (cB true) (.t 128)),oK 130 (.bslt 1 1 [(.bool false)] [⟨0,⟨1,(.t 129)⟩⟩]),oK 131 (.app 1 (.t 125) (.t 130)),oQ 132 (.nchk (.t 121)),oQ 133 (.faddr 4 (.t 132)),oN (.store 1 (.t 133) (.t 131))] [4,8,10,11,108,109,110])))))
(.reg 33 [oQ 134 (.bin .add (.t 110) (cI 1)),oM 110 (.t 134)] [4,8,10,11,108,109,110])))))))
(.seq
(.reg 34 [oM 135 (.t 4),oM 2 (.t 135),oM 3 (cI 0)] [2,3])
.ret)))))))))))
theorem fok119:FOK Tryz.prog 119 (136,ic119,[(.t 2),(.t 3)]):=fokA ([1000056,1000090,1000130]++[66]) Tryz.func119 (by kernel_rfl) (by kernel_rfl) (by kernel_rfl) (by kernel_rfl)
def ic120:IC :=
(.seq
(.reg 0 [oM 4 (cB false)] [0,1])
(.seq
(.reg 1 [oM 5 (.t 0),oQ 6 (.isnil (.pointer 148) true (.t 5)),oM 7 (.t 6),gQ 8 7 true (.mov (.t 1)),gQ 9 7 true (.bin .geq (.t 8) (cI 0)),oQ 10 (.pick (.t 7) (.t 9) (cB false)),oM 11 (.t 10),gQ 12 11 true (.mov (.t 1)),gQ 13 11 true (.mov (.t 0)),gQ 14 11 true (.nchk (.t 13)),gQ 15 11 true (.faddr 3 (.t 14)),gQ 16 11 true (.load none (.t 15)),gQ 17 11 true (.len 0 (.t 16)),gQ 18 11 true (.bin .lss (.t 12) (.t 17)),oQ 19 (.pick (.t 11) (.t 18) (cB false)),oM 4 (.t 19)] [4])
.ret))
theorem fok120:FOK Tryz.prog 120 (20,ic120,[(.t 4)]):=fokA [] Tryz.func120
def ic121:IC :=
(.seq
(.reg 0 [oK 3 (.boxt (.t 0)),oK 4 (.boxt (.t 1)),oK 5 (.boxt (.t 2)),oM 6 (cI 0)] [3,4,5])
(.seq
(.dreg 1 [oQ 9 (.load none (.t 3)),oQ 10 (.nchk (.t 9)),oQ 11 (.faddr 3 (.t 10)),oQ 12 (.load none (.t 11)),oQ 13 (.load none (.t 4)),oQ 14 (.iaddr 15 (.t 12) (.t 13)),oQ 15 (.load (some 15) (.t 14)),oQ 16 (.ldt none (.t 3)),oQ 17 (.nchk (.t 16)),oQ 18 (.faddr 3 (.t 17)),oQ 19 (.ldt none (.t 18)),oQ 20 (.ldt none (.t 5)),oQ 21 (.iaddr 15 (.t 19) (.t 20)),oQ 22 (.ldt (some 15) (.t 21)),oK 7 (.alloc [(.str []),(zI 0),(.str []),(.str []),(zU 0),(.str []),.nilslice,.nilslice,.nilslice,.nilslice,.nilslice,.nilslice,.nilslice,.nilslice,.nilslice]),oK 8 (.alloc [(.str []),(zI 0),(.str []),(.str []),(zU 0),(.str []),.nilslice,.nilslice,.nilslice,.nilslice,.nilslice,.nilslice,.nilslice,.nilslice,.nilslice]),oN (.store 15 (.t 7) (.t 15)),oN (.store 15 (.t 8) (.t 22))] false [3,4,5,7,8])
(.seq
(.reg 2 [oQ 23 (.mkf 185 [] [(.t 3),(.t 4),(.t 5)]),oQ 24 (.mkf 187 [] [(.t 3),(.t 7),(.t 8)]),oQ 25 (.mkf 188 [] [(.t 3),(.t 5),(.t 4)]),oQ 26 (.mkf 189 [] [(.t 3),(.t 4),(.t 5)]),oQ 27 (.mkf 190 [] [(.t 8),(.t 7)]),oQ 28 (.mkf 191 [] [(.t 4),(.t 5)]),oK 29 (.bslt 1 6 [.nilfunc] [⟨0,⟨1,(.t 23)⟩⟩,⟨1,⟨1,(.t 24)⟩⟩,⟨2,⟨1,(.t 25)⟩⟩,⟨3,⟨1,(.t 26)⟩⟩,⟨4,⟨1,(.t 27)⟩⟩,⟨5,⟨1,(.t 28)⟩⟩]),oK 30 (.call 184 [(.t 29)]),oM 6 (.t 30)] [6])
.ret)))
theorem fok121:FOK Tryz.prog 121 (31,ic121,[(.t 6)]):=fokA [1000003,1000004,1000005,1000016,1000019,1000020,1000022,1000029] Tryz.func121
def ic122:IC :=
(.seq
(.reg 0 [oM 3 (cB false)] [0,1])
(.seq
(.reg 1 [oQ 4 (.load none (.t 1)),oM 5 (.t 0),oK 6 (.call 120 [(.t 4),(.t 5)]),oQ 7 (.not (.t 6)),oM 3 (.t 7)] [3])
.ret))
theorem fok122:FOK Tryz.prog 122 (8,ic122,[(.t 3)]):=fokA [] Tryz.func122
def ic123:IC :=
(.seq
(.reg 0 [oM 5 (.t 0),oQ 6 (.len 0 (.t 5)),oM 4 (.t 6)] [0,1,4])
(.reg 1 [oM 7 (.t 0),oM 8 (.t 4),oM 9 (.t 4),oQ 10 (.conv .u64 (.t 9)),oK 11 (.call 149 [(.t 10)]),oM 12 (.t 1),oK 13 (.call 192 [(.t 7),(cI 0),(.t 8),(.t 11),(.t 12)])] []))
theorem fok123:FOK Tryz.prog 123 (14,ic123,[]):=fokA [] Tryz.func123
def ic126:IC :=
(.seq
(.reg 0 [oM 4 (cI 0)] [0,1])
(.seq
(.reg 1 [oM 7 (.t 0),oK 8 (.call 195 [(.t 7)]),oM 5 (.t 8)] [0,1,5])
(.seq
(.reg 2 [oM 9 (.t 1),oK 10 (.call 195 [(.t 9)]),oM 6 (.t 10)] [0,1,5,6])
(.seq
(.seq
(.reg 3 [oM 11 (.t 5)] [0,1,6,11])
(.cond (.t 11)
(.seq
(.seq
(.reg 4 [oM 12 (.t 6)] [12])
(.cond (.t 12)
(.seq
(.reg 5 [oM 4 (cI 0)] [4])
.ret)
.skip))
(.seq
(.reg 6 [oM 4 (cI (-1))] [4])
.ret))
.skip))
(.seq
(.seq
(.reg 7 [oM 13 (.t 6)] [0,1,13])
(.cond (.t 13)
(.seq
(.reg 8 [oM 4 (cI 1)] [4])
.ret)
.skip))
(.seq
(.seq
(.reg 9 [oM 14 (.t 0),oM 15 (.t 1),oQ 16 (.bin .lss (.t 14) (.t 15))] [0,1,16])
(.cond (.t 16)
(.seq
(.reg 10 [oM 4 (cI (-1))] [4])
.ret)
.skip))
(.seq
(.seq
(.reg 11 [oM 17 (.t 0),oM 18 (.t 1),oQ 19 (.bin .gtr (.t 17) (.t 18))] [19])
(.cond (.t 19)
(.seq
(.reg 12 [oM 4 (cI 1)] [4])
.ret)
.skip))
(.seq
(.reg 13 [oM 4 (cI 0)] [4])
.ret))))))))
theorem fok126:FOK Tryz.prog 126 (20,ic126,[(.t 4)]):=fokA [] Tryz.func126
def ic135:IC :=
(.seq
(.reg 0 [⟨(some 1),none,(.boxt (.t 0))⟩,⟨(some 2),none,(.alloc [(.bool false)])⟩] [1,2])
(.seq
(.block 0
(.seq
(.reg 1 [⟨(some 8),none,(.q (.faddr 0 (.t 1)))⟩,⟨(some 9),none,(.q (.load none (.t 8)))⟩,⟨(some 10),none,(.call 204 [(.t 9)])⟩,⟨(some 11),none,(.q (.not (.t 10)))⟩,⟨(some 12),none,(.q (.mov (.t 11)))⟩,⟨(some 13),(some ⟨12,false⟩),(.q (.faddr 0 (.t 1)))⟩,⟨(some 14),(some ⟨12,false⟩),(.q (.load none (.t 13)))⟩,⟨(some 15),(some ⟨12,false⟩),(.call 205 [(.t 14)])⟩,⟨(some 16),none,(.q (.pick (.t 12) (.c (.bool true)) (.t 15)))⟩,⟨(some 17),none,(.q (.mov (.t 16)))⟩,⟨(some 18),(some ⟨17,false⟩),(.q (.faddr 1 (.t 1)))⟩,⟨(some 19),(some ⟨17,false⟩),(.q (.load (some 3) (.t 18)))⟩,⟨(some 20),(some ⟨17,false⟩),(.call 206 [(.t 19),(.c (.bool false))])⟩,⟨(some 21),(some ⟨17,false⟩),(.q (.not (.t 20)))⟩,⟨(some 22),none,(.q (.pick (.t 17) (.c (.bool true)) (.t 21)))⟩,⟨(some 7),none,(.q (.mov (.t 22)))⟩] [1,2,7])
(.cond (.t 7)
(.seq
(.reg 2 [⟨none,none,(.store 1 (.t 2) (.c (.bool false)))⟩] [2])
.ret)
(.seq
(.reg 3 [⟨(some 24),none,(.q (.faddr 4 (.t 1)))⟩,⟨(some 25),none,(.q (.load none (.t 24)))⟩,⟨(some 26),none,(.call 207 [(.t 25)])⟩,⟨(some 27),none,(.q (.bin .eql (.t 26) (.c (.str []))))⟩,⟨(some 28),none,(.q (.mov (.t 27)))⟩,⟨(some 29),(some ⟨28,false⟩),(.q (.faddr 5 (.t 1)))⟩,⟨(some 30),(some ⟨28,false⟩),(.q (.load none (.t 29)))⟩,⟨(some 31),(some ⟨28,false⟩),(.q (.len 1 (.t 30)))⟩,⟨(some 32),(some ⟨28,false⟩),(.q (.bin .gtr (.t 31) (.c (.int .i64 64))))⟩,⟨(some 33),none,(.q (.pick (.t 28) (.c (.bool true)) (.t 32)))⟩,⟨(some 23),none,(.q (.mov (.t 33)))⟩] [1,2,23])
(.cond (.t 23)
(.seq
(.reg 4 [⟨none,none,(.store 1 (.t 2) (.c (.bool false)))⟩] [2])
.ret)
(.seq
(.reg 5 [⟨(some 35),none,(.q (.faddr 6 (.t 1)))⟩,⟨(some 36),none,(.q (.load none (.t 35)))⟩,⟨(some 37),none,(.call 208 [(.t 36),(.c (.int .i64 32)),(.f 157)])⟩,⟨(some 38),none,(.q (.not (.t 37)))⟩,⟨(some 39),none,(.q (.mov (.t 38)))⟩,⟨(some 40),(some ⟨39,false⟩),(.q (.faddr 9 (.t 1)))⟩,⟨(some 41),(some ⟨39,false⟩),(.q (.load none (.t 40)))⟩,⟨(some 42),(some ⟨39,false⟩),(.call 208 [(.t 41),(.c (.int .i64 32)),(.f 157)])⟩,⟨(some 43),(some ⟨39,false⟩),(.q (.not (.t 42)))⟩,⟨(some 44),none,(.q (.pick (.t 39) (.c (.bool true)) (.t 43)))⟩,⟨(some 45),none,(.q (.mov (.t 44)))⟩,⟨(some 46),(some ⟨45,false⟩),(.q (.faddr 14 (.t 1)))⟩,⟨(some 47),(some ⟨45,false⟩),(.q (.load none (.t 46)))⟩,⟨(some 48),(some ⟨45,false⟩),(.call 209 [(.t 47),(.c (.int .i64 32)),(.f 205)])⟩,⟨(some 49),(some ⟨45,false⟩),(.q (.not (.t 48)))⟩,⟨(some 50),none,(.q (.pick (.t 45) (.c (.bool true)) (.t 49)))⟩,⟨(some 34),none,(.q (.mov (.t 50)))⟩] [1,2,34])
(.cond (.t 34)
(.seq
(.reg 6 [⟨none,none,(.store 1 (.t 2) (.c (.bool false)))⟩] [2])
.ret)
.skip)))))))
(.seq
(.seq
(.reg 7 [⟨(some 51),none,(.q (.faddr 14 (.t 1)))⟩,⟨(some 52),none,(.q (.load none (.t 51)))⟩,⟨(some 53),none,(.q (.len 0 (.t 52)))⟩,⟨(some 54),none,(.q (.mov (.c (.int .i64 0))))⟩] [1,2,52,53,54])
(.block 1
(.loop
(.seq
(.reg 8 [⟨(some 55),none,(.q (.bin .lss (.t 54) (.t 53)))⟩] [1,2,52,53,54,55])
(.seq
(.cond (.t 55)
.skip
(.exit 1))
(.seq
(.block 2
(.seq
(.reg 9 [⟨(some 56),none,(.q (.mov (.t 54)))⟩,⟨(some 57),none,(.q (.iaddr 1 (.t 52) (.t 54)))⟩,⟨(some 58),none,(.q (.load none (.t 57)))⟩,⟨(some 3),none,(.q (.mov (.t 56)))⟩,⟨(some 4),none,(.q (.mov (.t 58)))⟩] [1,2,3,4,52,53,54])
(.seq
(.reg 10 [⟨(some 59),none,(.q (.mov (.t 3)))⟩,⟨(some 60),none,(.q (.bin .gtr (.t 59) (.c (.int .i64 0))))⟩,⟨(some 61),none,(.q (.mov (.t 60)))⟩,⟨(some 62),(some ⟨61,true⟩),(.q (.faddr 14 (.t 1)))⟩,⟨(some 63),(some ⟨61,true⟩),(.q (.load none (.t 62)))⟩,⟨(some 64),(some ⟨61,true⟩),(.q (.mov (.t 3)))⟩,⟨(some 65),(some ⟨61,true⟩),(.q (.bin .sub (.t 64) (.c (.int .i64 1))))⟩,⟨(some 66),(some ⟨61,true⟩),(.q (.iaddr 1 (.t 63) (.t 65)))⟩,⟨(some 67),(some ⟨61,true⟩),(.q (.load none (.t 66)))⟩,⟨(some 68),(some ⟨61,true⟩),(.q (.mov (.t 4)))⟩,⟨(some 69),(some ⟨61,true⟩),(.q (.bin .geq (.t 67) (.t 68)))⟩,⟨(some 70),none,(.q (.pick (.t 61) (.t 69) (.c (.bool false))))⟩] [1,2,52,53,54,70])
(.cond (.t 70)
(.seq
(.reg 11 [⟨none,none,(.store 1 (.t 2) (.c (.bool false)))⟩] [2])
.ret)
.skip))))
(.reg 12 [⟨(some 71),none,(.q (.bin .add (.t 54) (.c (.int .i64 1))))⟩,⟨(some 54),none,(.q (.mov (.t 71)))⟩] [1,2,52,53,54])))))))
(.seq
(.seq
(.reg 13 [⟨(some 72),none,(.q (.load (some 15) (.t 1)))⟩,⟨(some 73),none,(.call 210 [(.t 72)])⟩] [2,73])
(.block 3
(.rfunc (.t 73) [74,75]
(.seq
(.reg 14 [⟨(some 5),none,(.alloc [(.int .u8 0)])⟩,⟨none,none,(.store 1 (.t 5) (.t 74))⟩] [2,5,75])
(.reg 15 [⟨(some 6),none,(.q (.mov (.t 75)))⟩] [2,5,6]))
(.block 4
(.seq
(.reg 16 [⟨(some 76),none,(.q (.mov (.t 6)))⟩,⟨(some 77),none,(.q (.mkf 212 [] [(.t 5)]))⟩,⟨(some 78),none,(.call 211 [(.t 76),(.c (.int .i64 32)),(.t 77)])⟩,⟨(some 79),none,(.q (.not (.t 78)))⟩] [2,79])
(.cond (.t 79)
(.seq
(.reg 17 [⟨none,none,(.store 1 (.t 2) (.c (.bool false)))⟩] [])
.ret)
.skip))))))
(.seq
(.reg 18 [⟨none,none,(.store 1 (.t 2) (.c (.bool true)))⟩] [2])
.ret)))))
theorem fok135:FOK Tryz.prog 135 (80,ic135,[(.cell none 2)]):=.mk (pf:=[1000001]) (an:=[(0,[1,2]),(1,[1,2,7]),(2,[2]),(3,[1,2,23]),(4,[2]),(5,[1,2,34]),(6,[2]),(7,[1,2,52,53,54]),(8,[1,2,52,53,54,55]),(9,[1,2,3,4,52,53,54]),(10,[1,2,52,53,54,70]),(11,[2]),(12,[1,2,52,53,54]),(13,[2,73]),(14,[2,5,75]),(15,[2,5,6]),(16,[2,79]),(18,[2])]) (by kernel_rfl) (ab3 Tryz.func135 (by kernel_rfl) (by kernel_rfl) (by kernel_rfl))
def ic139:IC :=
(.seq
(.reg 0 [⟨(some 2),none,(.q (.mov (.c .nilslice)))⟩] [0])
(.seq
(.seq
(.reg 1 [⟨(some 3),none,(.q (.mov (.t 0)))⟩,⟨(some 4),none,(.q (.isnil (.slice 51) false (.t 3)))⟩] [0,4])
(.cond (.t 4)
(.seq
(.reg 2 [⟨(some 2),none,(.q (.mov (.c .nilslice)))⟩] [2])
.ret)
.skip))
(.seq
(.reg 3 [⟨(some 5),none,(.bsl 5 0 [(.str []),(.int .u8 0),(.int .i64 0),(.str []),(.str [])] [])⟩,⟨(some 6),none,(.q (.mov (.t 0)))⟩,⟨(some 7),none,(.app 5 (.t 5) (.t 6))⟩,⟨(some 2),none,(.q (.mov (.t 7)))⟩] [2])
.ret)))
theorem fok139:FOK Tryz.prog 139 (8,ic139,[(.t 2)]):=.mk (pf:=[]) (an:=[(0,[0]),(1,[0,4]),(2,[2]),(3,[2])]) (by kernel_rfl) (ab3 Tryz.func139 (by kernel_rfl) (by kernel_rfl) (by kernel_rfl))
def ic140:IC :=
(.seq
(.reg 0 [⟨(some 2),none,(.q (.mov (.c .nilslice)))⟩] [0])
(.seq
(.seq
(.reg 1 [⟨(some 3),none,(.q (.mov (.t 0)))⟩,⟨(some 4),none,(.q (.isnil (.slice 9) false (.t 3)))⟩] [0,4])
(.cond (.t 4)
(.seq
(.reg 2 [⟨(some 2),none,(.q (.mov (.c .nilslice)))⟩] [2])
.ret)
.skip))
(.seq
(.reg 3 [⟨(some 5),none,(.bsl 1 0 [(.str [])] [])⟩,⟨(some 6),none,(.q (.mov (.t 0)))⟩,⟨(some 7),none,(.app 1 (.t 5) (.t 6))⟩,⟨(some 2),none,(.q (.mov (.t 7)))⟩] [2])
.ret)))
theorem fok140:FOK Tryz.prog 140 (8,ic140,[(.t 2)]):=.mk (pf:=[]) (an:=[(0,[0]),(1,[0,4]),(2,[2]),(3,[2])]) (by kernel_rfl) (ab3 Tryz.func140 (by kernel_rfl) (by kernel_rfl) (by kernel_rfl))
def ic141:IC :=
(.seq
(.reg 0 [⟨(some 2),none,(.q (.mov (.c .nilslice)))⟩] [0])
(.seq
(.seq
(.reg 1 [⟨(some 3),none,(.q (.mov (.t 0)))⟩,⟨(some 4),none,(.q (.isnil (.slice 89) false (.t 3)))⟩] [0,4])
(.cond (.t 4)
(.seq
(.reg 2 [⟨(some 2),none,(.q (.mov (.c .nilslice)))⟩] [2])
.ret)
.skip))
(.seq
(.reg 3 [⟨(some 5),none,(.bsl 7 0 [(.int .u8 0),(.str []),(.int .u8 0),(.int .i64 0),(.str []),(.str []),.nilslice] [])⟩,⟨(some 6),none,(.q (.mov (.t 0)))⟩,⟨(some 7),none,(.app 7 (.t 5) (.t 6))⟩,⟨(some 2),none,(.q (.mov (.t 7)))⟩] [2])
.ret)))
theorem fok141:FOK Tryz.prog 141 (8,ic141,[(.t 2)]):=.mk (pf:=[]) (an:=[(0,[0]),(1,[0,4]),(2,[2]),(3,[2])]) (by kernel_rfl) (ab3 Tryz.func141 (by kernel_rfl) (by kernel_rfl) (by kernel_rfl))
def ic142:IC :=
(.seq
(.reg 0 [⟨(some 1),none,(.boxt (.t 0))⟩,⟨(some 2),none,(.alloc [(.int .u8 0),(.str []),(.int .u8 0),(.int .i64 0),(.str []),(.str []),.nilslice])⟩] [1,2])
(.seq
(.reg 1 [⟨(some 6),none,(.q (.faddr 0 (.t 1)))⟩,⟨(some 7),none,(.q (.load none (.t 6)))⟩,⟨(some 8),none,(.q (.faddr 1 (.t 1)))⟩,⟨(some 9),none,(.q (.load (some 5) (.t 8)))⟩,⟨(some 10),none,(.q (.bld [(.int .u8 0),(.str []),(.int .u8 0),(.int .i64 0),(.str []),(.str []),.nilslice] [⟨0,⟨1,(.t 7)⟩⟩,⟨1,⟨5,(.t 9)⟩⟩]))⟩,⟨(some 3),none,(.alloc [(.int .u8 0),(.str []),(.int .u8 0),(.int .i64 0),(.str []),(.str []),.nilslice])⟩,⟨none,none,(.store 7 (.t 3) (.t 10))⟩] [1,2,3])
(.seq
(.seq
(.reg 2 [⟨(some 11),none,(.q (.faddr 6 (.t 1)))⟩,⟨(some 12),none,(.q (.load none (.t 11)))⟩,⟨(some 13),none,(.q (.len 0 (.t 12)))⟩,⟨(some 14),none,(.q (.mov (.c (.int .i64 0))))⟩] [2,3,12,13,14])
(.block 0
(.loop
(.seq
(.reg 3 [⟨(some 15),none,(.q (.bin .lss (.t 14) (.t 13)))⟩] [2,3,12,13,14,15])
(.seq
(.cond (.t 15)
.skip
(.exit 0))
(.seq
(.block 1
(.seq
(.reg 4 [⟨(some 16),none,(.q (.iaddr 7 (.t 12) (.t 14)))⟩,⟨(some 17),none,(.q (.load (some 7) (.t 16)))⟩,⟨(some 5),none,(.alloc [(.int .u8 0),(.str []),(.int .u8 0),(.int .i64 0),(.str []),(.str []),.nilslice])⟩,⟨none,none,(.store 7 (.t 5) (.t 17))⟩] [2,3,5,12,13,14])
(.dreg 5 [⟨(some 18),none,(.q (.faddr 6 (.t 3)))⟩,⟨(some 19),none,(.q (.load none (.t 18)))⟩,⟨(some 20),none,(.q (.load (some 7) (.t 5)))⟩,⟨(some 21),none,(.pcall 142 [(.t 20)])⟩,⟨(some 22),none,(.bslt 7 1 [(.int .u8 0),(.str []),(.int .u8 0),(.int .i64 0),(.str []),(.str []),.nilslice] [⟨0,⟨7,(.t 21)⟩⟩])⟩,⟨(some 23),none,(.app 7 (.t 19) (.t 22))⟩,⟨(some 24),none,(.q (.faddr 6 (.t 3)))⟩,⟨none,none,(.store 1 (.t 24) (.t 23))⟩] true [2,3,12,13,14])))
(.reg 6 [⟨(some 25),none,(.q (.bin .add (.t 14) (.c (.int .i64 1))))⟩,⟨(some 14),none,(.q (.mov (.t 25)))⟩] [2,3,12,13,14])))))))
(.seq
(.reg 7 [⟨(some 26),none,(.q (.load (some 7) (.t 3)))⟩,⟨none,none,(.store 7 (.t 2) (.t 26))⟩] [2])
.ret))))
theorem fok142:FOK Tryz.prog 142 (27,ic142,[(.cell (some 7) 2)]):=.mk (pf:=([1000001,1000022]++ie5)) (an:=[(0,[1,2]),(1,[1,2,3]),(2,[2,3,12,13,14]),(3,[2,3,12,13,14,15]),(4,[2,3,5,12,13,14]),(5,[2,3,12,13,14]),(6,[2,3,12,13,14]),(7,[2])]) (by kernel_rfl) (ab3 Tryz.func142 (by kernel_rfl) (by kernel_rfl) (by kernel_rfl))
def ic143:IC :=
(.seq
(.reg 0 [⟨(some 4),none,(.q (.mov (.c (.int .i64 0))))⟩] [0,1])
(.seq
(.seq
(.reg 1 [⟨(some 6),none,(.q (.mov (.t 0)))⟩,⟨(some 7),none,(.q (.len 0 (.t 6)))⟩,⟨(some 8),none,(.q (.mov (.c (.int .i64 0))))⟩] [0,1,7,8])
(.block 0
(.loop
(.seq
(.reg 2 [⟨(some 9),none,(.q (.bin .lss (.t 8) (.t 7)))⟩] [0,1,7,8,9])
(.seq
(.cond (.t 9)
.skip
(.exit 0))
(.seq
(.block 1
(.seq
(.reg 3 [⟨(some 10),none,(.q (.mov (.t 8)))⟩,⟨(some 5),none,(.q (.mov (.t 10)))⟩] [0,1,5,7,8])
(.seq
(.reg 4 [⟨(some 11),none,(.q (.mov (.t 1)))⟩,⟨(some 12),none,(.q (.mov (.t 0)))⟩,⟨(some 13),none,(.q (.mov (.t 5)))⟩,⟨(some 14),none,(.q (.iaddr 5 (.t 12) (.t 13)))⟩,⟨(some 15),none,(.q (.load (some 5) (.t 14)))⟩,⟨(some 16),none,(.callv (.t 11) [(.t 15)])⟩] [0,1,5,7,8,16])
(.cond (.t 16)
(.seq
(.reg 5 [⟨(some 17),none,(.q (.mov (.t 5)))⟩,⟨(some 4),none,(.q (.mov (.t 17)))⟩] [4])
.ret)
.skip))))
(.reg 6 [⟨(some 18),none,(.q (.bin .add (.t 8) (.c (.int .i64 1))))⟩,⟨(some 8),none,(.q (.mov (.t 18)))⟩] [0,1,7,8])))))))
(.seq
(.reg 7 [⟨(some 4),none,(.q (.mov (.c (.int .i64 (-1)))))⟩] [4])
.ret)))
theorem fok143:FOK Tryz.prog 143 (19,ic143,[(.t 4)]):=.mk (pf:=[]) (an:=[(0,[0,1]),(1,[0,1,7,8]),(2,[0,1,7,8,9]),(3,[0,1,5,7,8]),(4,[0,1,5,7,8,16]),(5,[4]),(6,[0,1,7,8]),(7,[4])]) (by kernel_rfl) (ab3 Tryz.func143 (by kernel_rfl) (by kernel_rfl) (by kernel_rfl))
def ic146:IC :=
(.seq
(.reg 0 [⟨(some 1),none,(.boxt (.t 0))⟩,⟨(some 2),none,(.q (.mov (.c .nilmap)))⟩] [1])
(.seq
(.reg 1 [⟨(some 8),none,.mkmap⟩,⟨(some 9),none,(.q (.faddr 0 (.t 1)))⟩,⟨(some 10),none,(.q (.load none (.t 9)))⟩,⟨(some 11),none,(.q (.bld [] []))⟩,⟨none,none,(.mupd 2 (.t 8) (.t 10) (.t 11))⟩,⟨(some 12),none,(.q (.mov (.t 8)))⟩,⟨(some 3),none,(.q (.mov (.t 12)))⟩] [1,3])
(.seq
(.seq
(.reg 2 [⟨(some 13),none,(.q (.faddr 6 (.t 1)))⟩,⟨(some 14),none,(.q (.load none (.t 13)))⟩,⟨(some 15),none,(.q (.len 0 (.t 14)))⟩,⟨(some 16),none,(.q (.mov (.c (.int .i64 0))))⟩] [1,3,14,15,16])
(.block 0
(.loop
(.seq
(.reg 3 [⟨(some 17),none,(.q (.bin .lss (.t 16) (.t 15)))⟩] [1,3,14,15,16,17])
(.seq
(.cond (.t 17)
.skip
(.exit 0))
(.seq
(.block 1
(.seq
(.reg 4 [⟨(some 18),none,(.q (.iaddr 5 (.t 14) (.t 16)))⟩,⟨(some 19),none,(.q (.load (some 5) (.t 18)))⟩,⟨(some 5),none,(.alloc [(.str []),(.int .u8 0),(.int .i64 0),(.str []),(.str [])])⟩,⟨none,none,(.store 5 (.t 5) (.t 19))⟩] [1,3,5,14,15,16])
(.reg 5 [⟨(some 20),none,(.q (.mov (.t 3)))⟩,⟨(some 21),none,(.q (.faddr 0 (.t 5)))⟩,⟨(some 22),none,(.q (.load none (.t 21)))⟩,⟨(some 23),none,(.q (.bld [] []))⟩,⟨none,none,(.mupd 2 (.t 20) (.t 22) (.t 23))⟩] [1,3,14,15,16])))
(.reg 6 [⟨(some 24),none,(.q (.bin .add (.t 16) (.c (.int .i64 1))))⟩,⟨(some 16),none,(.q (.mov (.t 24)))⟩] [1,3,14,15,16])))))))
(.seq
(.seq
(.reg 7 [⟨(some 25),none,(.q (.faddr 14 (.t 1)))⟩,⟨(some 26),none,(.q (.load none (.t 25)))⟩,⟨(some 27),none,(.q (.len 0 (.t 26)))⟩,⟨(some 28),none,(.q (.mov (.c (.int .i64 0))))⟩] [3,26,27,28])
(.block 2
(.loop
(.seq
(.reg 8 [⟨(some 29),none,(.q (.bin .lss (.t 28) (.t 27)))⟩] [3,26,27,28,29])
(.seq
(.cond (.t 29)
.skip
(.exit 2))
(.seq
(.block 3
(.seq
(.reg 9 [⟨(some 30),none,(.q (.iaddr 1 (.t 26) (.t 28)))⟩,⟨(some 31),none,(.q (.load none (.t 30)))⟩,⟨(some 7),none,(.q (.mov (.t 31)))⟩] [3,7,26,27,28])
(.reg 10 [⟨(some 32),none,(.q (.mov (.t 3)))⟩,⟨(some 33),none,(.q (.mov (.t 7)))⟩,⟨(some 34),none,(.q (.bld [] []))⟩,⟨none,none,(.mupd 2 (.t 32) (.t 33) (.t 34))⟩] [3,26,27,28])))
(.reg 11 [⟨(some 35),none,(.q (.bin .add (.t 28) (.c (.int .i64 1))))⟩,⟨(some 28),none,(.q (.mov (.t 35)))⟩] [3,26,27,28])))))))
(.seq
(.reg 12 [⟨(some 36),none,(.q (.mov (.t 3)))⟩,⟨(some 2),none,(.q (.mov (.t 36)))⟩] [2])
.ret)))))
theorem fok146:FOK Tryz.prog 146 (37,ic146,[(.t 2)]):=.mk (pf:=[1000001]) (an:=[(0,[1]),(1,[1,3]),(2,[1,3,14,15,16]),(3,[1,3,14,15,16,17]),(4,[1,3,5,14,15,16]),(5,[1,3,14,15,16]),(6,[1,3,14,15,16]),(7,[3,26,27,28]),(8,[3,26,27,28,29]),(9,[3,7,26,27,28]),(10,[3,26,27,28]),(11,[3,26,27,28]),(12,[2])]) (by kernel_rfl) (ab3 Tryz.func146 (by kernel_rfl) (by kernel_rfl) (by kernel_rfl))
def ic147:IC :=
(.seq
(.reg 0 [⟨(some 4),none,(.q (.mov (.c (.bool false))))⟩] [0,1])
(.seq
(.reg 1 [⟨(some 5),none,(.q (.mov (.t 0)))⟩,⟨(some 6),none,(.q (.mov (.t 1)))⟩,⟨(some 7),none,(.call 216 [(.t 5),(.t 6)])⟩,⟨(some 8),none,(.q (.bin .geq (.t 7) (.c (.int .i64 0))))⟩,⟨(some 4),none,(.q (.mov (.t 8)))⟩] [4])
.ret))
theorem fok147:FOK Tryz.prog 147 (9,ic147,[(.t 4)]):=.mk (pf:=[]) (an:=[(0,[0,1]),(1,[4])]) (by kernel_rfl) (ab3 Tryz.func147 (by kernel_rfl) (by kernel_rfl) (by kernel_rfl))
def ic149:IC :=
(.seq
(.reg 0 [oM 2 (cI 0)] [0])
(.seq
(.cond (cB false)
(.seq
(.reg 1 [oM 3 (.t 0),oQ 4 (.conv .u32 (.t 3)),oK 5 (.call 226 [(.t 4)]),oM 2 (.t 5)] [2])
.ret)
.skip)
(.seq
(.reg 2 [oM 6 (.t 0),oK 7 (.call 227 [(.t 6)]),oM 2 (.t 7)] [2])
.ret)))
theorem fok149:FOK Tryz.prog 149 (8,ic149,[(.t 2)]):=fokA [] Tryz.func149
def ic150:IC :=
(.seq
(.reg 0 [oK 2 (.boxt (.t 0)),oK 3 (.boxt (.t 1)),oM 4 (cB false)] [2,3])
(.seq
(.seq
(.reg 1 [oQ 6 (.faddr 1 (.t 2)),oQ 7 (.load none (.t 6)),oQ 8 (.bin .and (.t 7) (.c (zU 7))),oQ 9 (.bin .eql (.t 8) (.c (zU 0))),oM 10 (.t 9),gQ 11 10 false (.faddr 1 (.t 3)),gQ 12 10 false (.load none (.t 11)),gQ 13 10 false (.bin .and (.t 12) (.c (zU 7))),gQ 14 10 false (.bin .eql (.t 13) (.c (zU 0))),oQ 15 (.pick (.t 10) (cB true) (.t 14))] [2,3,15])
(.cond (.t 15)
(.seq
(.reg 2 [oM 4 (cB true)] [4])
.ret)
.skip))
(.seq
(.reg 3 [oQ 16 (.faddr 2 (.t 2)),oQ 17 (.load (some 3) (.t 16)),oQ 18 (.faddr 2 (.t 3)),oQ 19 (.load (some 3) (.t 18)),oK 20 (.call 106 [(.t 17),(.t 19)]),oM 5 (.t 20)] [2,3,5])
(.seq
(.seq
(.reg 4 [oM 21 (.t 5),oQ 22 (.bin .eql (.t 21) (cI 0))] [2,3,5,22])
(.cond (.t 22)
(.seq
(.reg 5 [oQ 23 (.faddr 1 (.t 2)),oQ 24 (.load none (.t 23)),oQ 25 (.faddr 1 (.t 3)),oQ 26 (.load none (.t 25)),oQ 27 (.bin .and (.t 24) (.t 26)),oQ 28 (.bin .and (.t 27) (.c (zU 7))),oQ 29 (.bin .neq (.t 28) (.c (zU 0))),oM 4 (.t 29)] [4])
.ret)
.skip))
(.seq
(.dreg 6 [oQ 30 (.faddr 1 (.t 2)),oQ 31 (.load none (.t 30)),oM 32 (.t 5),oQ 33 (.neg (.t 32)),oK 34 (.pcall 228 [(.t 33)]),oQ 35 (.bin .and (.t 31) (.t 34)),oQ 36 (.bin .neq (.t 35) (.c (zU 0))),oM 37 (.t 36),gQ 38 37 false (.faddr 1 (.t 3)),gQ 39 37 false (.load none (.t 38)),gQ 40 37 false (.mov (.t 5)),gK 41 37 false (.pcall 228 [(.t 40)]),gQ 42 37 false (.bin .and (.t 39) (.t 41)),gQ 43 37 false (.bin .neq (.t 42) (.c (zU 0))),oQ 44 (.pick (.t 37) (cB true) (.t 43)),oM 4 (.t 44)] false [4])
.ret)))))
theorem fok150:FOK Tryz.prog 150 (45,ic150,[(.t 4)]):=fokA ([1000002,1000003]++[228]) Tryz.func150 (by kernel_rfl) (by kernel_rfl) (by kernel_rfl) (by kernel_rfl)
def ic151:IC :=
(.seq
(.reg 0 [oM 4 (cI 0)] [0,1])
(.seq
(.seq
(.reg 1 [oM 6 (.t 0),oQ 7 (.len 0 (.t 6)),oM 8 (cI 0)] [0,1,7,8])
(.block 0
(.loop
(.seq
(.reg 2 [oQ 9 (.bin .lss (.t 8) (.t 7))] [0,1,7,8,9])
(.seq
(.cond (.t 9)
.skip
(.exit 0))
(.seq
(.block 1
(.seq
(.reg 3 [oM 10 (.t 8),oM 5 (.t 10)] [0,1,5,7,8])
(.seq
(.reg 4 [oM 11 (.t 1),oM 12 (.t 0),oM 13 (.t 5),oQ 14 (.iaddr 1 (.t 12) (.t 13)),oQ 15 (.load none (.t 14)),oQ 16 (.bin .eql (.t 11) (.t 15))] [0,1,5,7,8,16])
(.cond (.t 16)
(.seq
(.reg 5 [oM 17 (.t 5),oM 4 (.t 17)] [4])
.ret)
.skip))))
(.reg 6 [oQ 18 (.bin .add (.t 8) (cI 1)),oM 8 (.t 18)] [0,1,7,8])))))))
(.seq
(.reg 7 [oM 4 (cI (-1))] [4])
.ret)))
theorem fok151:FOK Tryz.prog 151 (19,ic151,[(.t 4)]):=fokA [] Tryz.func151
def ic152:IC :=
(.seq
(.reg 0 [oK 3 (.boxt (.t 1)),oK 4 (.alloc [(.str []),(zU 0),(zI 0),(.str []),(.str [])])] [0,3,4])
(.seq
(.reg 1 [oM 5 (.t 0),oQ 6 (.load (some 3) (.t 3)),oQ 7 (.bld [(.str []),(zU 0),(zI 0),(.str []),(.str [])] [⟨0,⟨1,(.t 5)⟩⟩,⟨1,⟨1,(.c (zU 2))⟩⟩,⟨2,⟨3,(.t 6)⟩⟩]),oN (.store 5 (.t 4) (.t 7))] [4])
.ret))
theorem fok152:FOK Tryz.prog 152 (8,ic152,[(.cell (some 5) 4)]):=fokA [1000003] Tryz.func152
def ic154:IC :=
(.seq
(.reg 0 [oM 2 (cB false)] [0])
(.seq
(.reg 1 [oM 3 (.t 0),oK 4 (.call 169 [(.t 3)]),oM 5 (.t 4),gQ 6 5 true (.mov (.t 0)),gQ 7 5 true (.bin .neq (.t 6) (.c (zU 1))),oQ 8 (.pick (.t 5) (.t 7) (cB false)),oM 2 (.t 8)] [2])
.ret))
theorem fok154:FOK Tryz.prog 154 (9,ic154,[(.t 2)]):=fokA [] Tryz.func154
def ic155:IC :=
(.seq
(.reg 0 [oM 4 (cB false)] [0,1])
(.seq
(.reg 1 [oM 5 (.t 0),oM 6 (.t 1),oK 7 (.call 229 [(.t 5),(.t 6)]),oQ 8 (.bin .geq (.t 7) (cI 0)),oM 4 (.t 8)] [4])
.ret))
theorem fok155:FOK Tryz.prog 155 (9,ic155,[(.t 4)]):=fokA [] Tryz.func155
def ic156:IC :=
(.seq
(.reg 0 [oK 1 (.boxt (.t 0)),oM 2 (cB false)] [1])
(.seq
(.reg 1 [oQ 3 (.faddr 0 (.t 1)),oQ 4 (.load none (.t 3)),oQ 5 (.bin .lss (.t 4) (.c (zU 1))),oM 6 (.t 5),gQ 7 6 false (.faddr 0 (.t 1)),gQ 8 6 false (.load none (.t 7)),gQ 9 6 false (.bin .gtr (.t 8) (.c (zU 4))),oQ 10 (.pick (.t 6) (cB true) (.t 9)),oM 11 (.t 10),gQ 12 11 false (.faddr 1 (.t 1)),gQ 13 11 false (.load (some 5) (.t 12)),gK 14 11 false (.call 157 [(.t 13)]),gQ 15 11 false (.not (.t 14)),oQ 16 (.pick (.t 11) (cB true) (.t 15)),oM 2 (.t 16)] [2])
.ret))
theorem fok156:FOK Tryz.prog 156 (17,ic156,[(.t 2)]):=fokA [1000001] Tryz.func156
def ic157:IC :=
(.seq
(.reg 0 [⟨(some 1),none,(.boxt (.t 0))⟩,⟨(some 2),none,(.q (.mov (.c (.bool false))))⟩] [1])
(.seq
(.block 0
(.seq
(.reg 1 [⟨(some 4),none,(.q (.faddr 0 (.t 1)))⟩,⟨(some 5),none,(.q (.load none (.t 4)))⟩,⟨(some 6),none,(.call 204 [(.t 5)])⟩,⟨(some 7),none,(.q (.not (.t 6)))⟩,⟨(some 8),none,(.q (.mov (.t 7)))⟩,⟨(some 9),(some ⟨8,false⟩),(.q (.faddr 1 (.t 1)))⟩,⟨(some 10),(some ⟨8,false⟩),(.q (.load none (.t 9)))⟩,⟨(some 11),(some ⟨8,false⟩),(.call 230 [(.t 10)])⟩,⟨(some 12),(some ⟨8,false⟩),(.q (.not (.t 11)))⟩,⟨(some 13),none,(.q (.pick (.t 8) (.c (.bool true)) (.t 12)))⟩,⟨(some 3),none,(.q (.mov (.t 13)))⟩] [1,3])
(.cond (.t 3)
(.seq
(.reg 2 [⟨(some 2),none,(.q (.mov (.c (.bool false))))⟩] [2])
.ret)
(.seq
(.reg 3 [⟨(some 15),none,(.q (.faddr 1 (.t 1)))⟩,⟨(some 16),none,(.q (.load none (.t 15)))⟩,⟨(some 17),none,(.q (.bin .eql (.t 16) (.c (.int .u8 0))))⟩,⟨(some 14),none,(.q (.mov (.t 17)))⟩] [1,14])
(.cond (.t 14)
(.seq
(.reg 4 [⟨(some 18),none,(.q (.faddr 2 (.t 1)))⟩,⟨(some 19),none,(.q (.load (some 3) (.t 18)))⟩,⟨(some 20),none,(.q (.bld [(.int .i64 0),(.str []),(.str [])] []))⟩,⟨(some 21),none,(.q (.eqs [1,2,2] true false (.t 19) (.t 20)))⟩,⟨(some 2),none,(.q (.mov (.t 21)))⟩] [2])
.ret)
.skip)))))
(.seq
(.reg 5 [⟨(some 22),none,(.q (.faddr 0 (.t 1)))⟩,⟨(some 23),none,(.q (.load none (.t 22)))⟩,⟨(some 24),none,(.call 205 [(.t 23)])⟩,⟨(some 25),none,(.q (.not (.t 24)))⟩,⟨(some 26),none,(.q (.mov (.t 25)))⟩,⟨(some 27),(some ⟨26,true⟩),(.q (.faddr 2 (.t 1)))⟩,⟨(some 28),(some ⟨26,true⟩),(.q (.load (some 3) (.t 27)))⟩,⟨(some 29),(some ⟨26,true⟩),(.call 206 [(.t 28),(.c (.bool true))])⟩,⟨(some 30),none,(.q (.pick (.t 26) (.t 29) (.c (.bool false))))⟩,⟨(some 2),none,(.q (.mov (.t 30)))⟩] [2])
.ret)))
theorem fok157:FOK Tryz.prog 157 (31,ic157,[(.t 2)]):=.mk (pf:=[1000001]) (an:=[(0,[1]),(1,[1,3]),(2,[2]),(3,[1,14]),(4,[2]),(5,[2])]) (by kernel_rfl) (ab3 Tryz.func157 (by kernel_rfl) (by kernel_rfl) (by kernel_rfl))
def ic158:IC :=
(.seq
(.reg 0 [oM 4 (cB false)] [0,1])
(.seq
(.reg 1 [oM 5 (.t 0),oM 6 (.t 1),oK 7 (.call 231 [(.t 5),(.t 6)]),oQ 8 (.bin .geq (.t 7) (cI 0)),oM 4 (.t 8)] [4])
.ret))
theorem fok158:FOK Tryz.prog 158 (9,ic158,[(.t 4)]):=fokA [] Tryz.func158
def ic159:IC :=
(.seq
(.reg 0 [oK 3 (.boxt (.t 0)),oM 4 (cB false)] [1,2,3])
(.seq
(.dreg 1 [oQ 5 (.load (some 2) (.t 3)),oQ 6 (.faddr 2 (.t 1)),oQ 7 (.load none (.t 6)),oQ 8 (.len 0 (.t 7)),oQ 9 (.load none (.t 2)),oK 10 (.pcall 66 [(.t 9)]),oK 11 (.pcall 160 [(.t 5),(.t 8),(.t 10)]),oQ 12 (.not (.t 11)),oM 4 (.t 12)] false [4])
.ret))
theorem fok159:FOK Tryz.prog 159 (13,ic159,[(.t 4)]):=fokA ([1000003]++[66,160]) Tryz.func159 (by kernel_rfl) (by kernel_rfl) (by kernel_rfl) (by kernel_rfl)
def ic160:IC :=
(.seq
(.reg 0 [oK 3 (.boxt (.t 0)),oM 6 (cB false)] [1,2,3])
(.seq
(.reg 1 [oM 8 (.t 2),oM 7 (.t 8)] [1,3,7])
(.seq
(.seq
(.reg 2 [oQ 9 (.faddr 0 (.t 3)),oQ 10 (.load none (.t 9)),oQ 11 (.bin .eql (.t 10) (.c (zU 1)))] [1,3,7,11])
(.cond (.t 11)
(.reg 3 [oM 12 (.t 1),oM 7 (.t 12)] [3,7])
.skip))
(.seq
(.reg 4 [oQ 13 (.faddr 0 (.t 3)),oQ 14 (.load none (.t 13)),oQ 15 (.bin .geq (.t 14) (.c (zU 1))),oM 16 (.t 15),gQ 17 16 true (.faddr 0 (.t 3)),gQ 18 16 true (.load none (.t 17)),gQ 19 16 true (.bin .leq (.t 18) (.c (zU 4))),oQ 20 (.pick (.t 16) (.t 19) (cB false)),oM 21 (.t 20),gQ 22 21 true (.faddr 1 (.t 3)),gQ 23 21 true (.load none (.t 22)),gQ 24 21 true (.bin .geq (.t 23) (cI 0)),oQ 25 (.pick (.t 21) (.t 24) (cB false)),oM 26 (.t 25),gQ 27 26 true (.faddr 1 (.t 3)),gQ 28 26 true (.load none (.t 27)),gQ 29 26 true (.mov (.t 7)),gQ 30 26 true (.bin .lss (.t 28) (.t 29)),oQ 31 (.pick (.t 26) (.t 30) (cB false)),oM 6 (.t 31)] [6])
.ret))))
theorem fok160:FOK Tryz.prog 160 (32,ic160,[(.t 6)]):=fokA [1000003] Tryz.func160
def ic161:IC :=
(.seq
(.reg 0 [oK 1 (.box (.t 0)),oK 2 (.alloc [(zU 0),(.bool false),.nilslice,.nilslice,(zI 0)])] [1,2])
(.seq
(.dreg 1 [oQ 3 (.faddr 2 (.t 1)),oQ 4 (.load none (.t 3)),oK 5 (.pcall 232 [(.t 4)]),oQ 6 (.faddr 3 (.t 1)),oQ 7 (.load none (.t 6)),oK 8 (.pcall 233 [(.t 7)]),oQ 9 (.faddr 2 (.t 1)),oN (.store 1 (.t 9) (.t 5)),oQ 10 (.faddr 3 (.t 1)),oN (.store 1 (.t 10) (.t 8))] false [1,2])
(.seq
(.reg 2 [oQ 11 (.load (some 5) (.t 1)),oN (.store 5 (.t 2) (.t 11))] [2])
.ret)))
theorem fok161:FOK Tryz.prog 161 (12,ic161,[(.cell (some 5) 2)]):=fokA ([]++[232,233]) Tryz.func161 (by kernel_rfl) (by kernel_rfl) (by kernel_rfl) (by kernel_rfl)
def ic163:IC :=
(.seq
(.reg 0 [oM 4 (cI 0)] [0,1])
(.seq
(.seq
(.reg 1 [oM 6 (.t 0),oQ 7 (.len 0 (.t 6)),oM 8 (cI 0)] [0,1,7,8])
(.block 0
(.loop
(.seq
(.reg 2 [oQ 9 (.bin .lss (.t 8) (.t 7))] [0,1,7,8,9])
(.seq
(.cond (.t 9)
.skip
(.exit 0))
(.seq
(.block 1
(.seq
(.reg 3 [oM 10 (.t 8),oM 5 (.t 10)] [0,1,5,7,8])
(.seq
(.reg 4 [oM 11 (.t 1),oM 12 (.t 0),oM 13 (.t 5),oQ 14 (.iaddr 1 (.t 12) (.t 13)),oQ 15 (.load none (.t 14)),oK 16 (.callv (.t 11) [(.t 15)])] [0,1,5,7,8,16])
(.cond (.t 16)
(.seq
(.reg 5 [oM 17 (.t 5),oM 4 (.t 17)] [4])
.ret)
.skip))))
(.reg 6 [oQ 18 (.bin .add (.t 8) (cI 1)),oM 8 (.t 18)] [0,1,7,8])))))))
(.seq
(.reg 7 [oM 4 (cI (-1))] [4])
.ret)))
theorem fok163:FOK Tryz.prog 163 (19,ic163,[(.t 4)]):=fokA [] Tryz.func163
def ic164:IC :=
(.seq
(.reg 0 [oM 2 (cI 0)] [0])
(.seq
(.seq
(.reg 1 [oM 6 (.t 0),oQ 7 (.len 0 (.t 6)),oM 8 (cI 0)] [6,7,8])
(.block 0
(.loop
(.seq
(.reg 2 [oQ 9 (.bin .lss (.t 8) (.t 7))] [6,7,8,9])
(.seq
(.cond (.t 9)
.skip
(.exit 0))
(.seq
(.block 1
(.seq
(.reg 3 [oQ 10 (.iaddr 1 (.t 6) (.t 8)),oQ 11 (.load none (.t 10)),oM 4 (.t 11)] [4,6,7,8])
(.seq
(.reg 4 [oM 12 (.t 4),oK 13 (.callv (.t 12) []),oM 5 (.t 13)] [5,6,7,8])
(.seq
(.reg 5 [oM 14 (.t 5),oQ 15 (.bin .neq (.t 14) (cI 0))] [5,6,7,8,15])
(.cond (.t 15)
(.seq
(.reg 6 [oM 16 (.t 5),oM 2 (.t 16)] [2])
.ret)
.skip)))))
(.reg 7 [oQ 17 (.bin .add (.t 8) (cI 1)),oM 8 (.t 17)] [6,7,8])))))))
(.seq
(.reg 8 [oM 2 (cI 0)] [2])
.ret)))
theorem fok164:FOK Tryz.prog 164 (18,ic164,[(.t 2)]):=fokA [] Tryz.func164
def ic165:IC :=
(.seq
(.reg 0 [oM 2 (cI 0)] [0,1])
(.seq
(.reg 1 [oQ 3 (.faddr 0 (.t 0)),oQ 4 (.load none (.t 3)),oQ 5 (.faddr 0 (.t 1)),oQ 6 (.load none (.t 5)),oK 7 (.call 126 [(.t 4),(.t 6)]),oM 2 (.t 7)] [2])
.ret))
theorem fok165:FOK Tryz.prog 165 (8,ic165,[(.t 2)]):=fokA [] Tryz.func165
def ic166:IC :=
(.seq
(.reg 0 [oM 2 (cI 0)] [0,1])
(.seq
(.reg 1 [oQ 3 (.faddr 1 (.t 0)),oQ 4 (.load none (.t 3)),oQ 5 (.faddr 1 (.t 1)),oQ 6 (.load none (.t 5)),oK 7 (.call 167 [(.t 4),(.t 6)]),oM 2 (.t 7)] [2])
.ret))
theorem fok166:FOK Tryz.prog 166 (8,ic166,[(.t 2)]):=fokA [] Tryz.func166
def ic167:IC :=
(.seq
(.reg 0 [oM 4 (cI 0)] [0,1])
(.seq
(.reg 1 [oM 9 (.t 0),oK 10 (.call 235 [(.t 9)]),oQ 11 (.bld [(zU 0),(.str [])] [⟨0,⟨1,(.c (zU 2))⟩⟩]),oK 12 (.bslt 2 1 [(zU 0),(.str [])] [⟨0,⟨2,(.t 11)⟩⟩]),oK 13 (.app 2 (.t 10) (.t 12)),oM 14 (.t 1),oK 15 (.call 235 [(.t 14)]),oQ 16 (.bld [(zU 0),(.str [])] [⟨0,⟨1,(.c (zU 2))⟩⟩]),oK 17 (.bslt 2 1 [(zU 0),(.str [])] [⟨0,⟨2,(.t 16)⟩⟩]),oK 18 (.app 2 (.t 15) (.t 17)),oM 5 (.t 13),oM 6 (.t 18)] [5,6])
(.seq
(.seq
(.reg 2 [oM 19 (.t 5),oQ 20 (.len 0 (.t 19)),oM 21 (.t 6),oQ 22 (.len 0 (.t 21)),oQ 23 (.mm false (.t 20) (.t 22)),oM 24 (cI 0)] [5,6,23,24])
(.block 0
(.loop
(.seq
(.reg 3 [oQ 25 (.bin .lss (.t 24) (.t 23))] [5,6,23,24,25])
(.seq
(.cond (.t 25)
.skip
(.exit 0))
(.seq
(.block 1
(.seq
(.reg 4 [oM 26 (.t 24),oM 7 (.t 26)] [5,6,7,23,24])
(.seq
(.dreg 5 [oM 27 (.t 5),oM 28 (.t 7),oQ 29 (.iaddr 2 (.t 27) (.t 28)),oQ 30 (.load (some 2) (.t 29)),oM 31 (.t 6),oM 32 (.t 7),oQ 33 (.iaddr 2 (.t 31) (.t 32)),oQ 34 (.load (some 2) (.t 33)),oK 35 (.call 236 [(.t 30),(.t 34)]),oM 8 (.t 35)] false [5,6,8,23,24])
(.seq
(.reg 6 [oM 36 (.t 8),oQ 37 (.bin .neq (.t 36) (cI 0))] [5,6,8,23,24,37])
(.cond (.t 37)
(.seq
(.reg 7 [oM 38 (.t 8),oM 4 (.t 38)] [4])
.ret)
.skip)))))
(.reg 8 [oQ 39 (.bin .add (.t 24) (cI 1)),oM 24 (.t 39)] [5,6,23,24])))))))
(.seq
(.reg 9 [oM 4 (cI 0)] [4])
.ret))))
theorem fok167:FOK Tryz.prog 167 (40,ic167,[(.t 4)]):=fokA [1000012,1000017] Tryz.func167
def ic168:IC :=
(.seq
(.reg 0 [oM 2 (cI 0)] [0,1])
(.seq
(.seq
(.reg 1 [oQ 3 (.faddr 2 (.t 0)),oQ 4 (.load none (.t 3)),oQ 5 (.bin .eql (.t 4) (.c (.str []))),oM 6 (.t 5),gQ 7 6 false (.faddr 2 (.t 1)),gQ 8 6 false (.load none (.t 7)),gQ 9 6 false (.bin .eql (.t 8) (.c (.str []))),oQ 10 (.pick (.t 6) (cB true) (.t 9))] [0,1,10])
(.cond (.t 10)
(.seq
(.reg 2 [oM 2 (cI 0)] [2])
.ret)
.skip))
(.seq
(.reg 3 [oQ 11 (.faddr 2 (.t 0)),oQ 12 (.load none (.t 11)),oQ 13 (.faddr 2 (.t 1)),oQ 14 (.load none (.t 13)),oK 15 (.call 167 [(.t 12),(.t 14)]),oM 2 (.t 15)] [2])
.ret)))
theorem fok168:FOK Tryz.prog 168 (16,ic168,[(.t 2)]):=fokA [] Tryz.func168
def ic169:IC :=
(.seq
(.reg 0 [⟨(some 2),none,(.q (.mov (.c (.bool false))))⟩] [0])
(.seq
(.reg 1 [⟨(some 3),none,(.q (.mov (.t 0)))⟩,⟨(some 4),none,(.q (.bin .geq (.t 3) (.c (.int .u8 1))))⟩,⟨(some 5),none,(.q (.mov (.t 4)))⟩,⟨(some 6),(some ⟨5,true⟩),(.q (.mov (.t 0)))⟩,⟨(some 7),(some ⟨5,true⟩),(.q (.bin .leq (.t 6) (.c (.int .u8 4))))⟩,⟨(some 8),none,(.q (.pick (.t 5) (.t 7) (.c (.bool false))))⟩,⟨(some 2),none,(.q (.mov (.t 8)))⟩] [2])
.ret))
theorem fok169:FOK Tryz.prog 169 (9,ic169,[(.t 2)]):=.mk (pf:=[]) (an:=[(0,[0]),(1,[2])]) (by kernel_rfl) (ab3 Tryz.func169 (by kernel_rfl) (by kernel_rfl) (by kernel_rfl))
def ic170:IC :=
(.seq
(.reg 0 [oM 4 (cI 0)] [0,1])
(.seq
(.seq
(.reg 1 [oM 5 (.t 0),oK 6 (.call 169 [(.t 5)]),oQ 7 (.not (.t 6)),oM 8 (.t 7),gQ 9 8 false (.mov (.t 1)),gK 10 8 false (.call 169 [(.t 9)]),gQ 11 8 false (.not (.t 10)),oQ 12 (.pick (.t 8) (cB true) (.t 11))] [0,1,12])
(.cond (.t 12)
(.seq
(.reg 2 [oM 4 (cI 0)] [4])
.ret)
.skip))
(.seq
(.reg 3 [oK 13 (.call 237 []),oM 14 (.t 0),oQ 15 (.idx (some 5) 5 5 (.t 13) (.t 14)),oM 16 (.t 1),oQ 17 (.idx none 5 1 (.t 15) (.t 16)),oM 4 (.t 17)] [4])
.ret)))
theorem fok170:FOK Tryz.prog 170 (18,ic170,[(.t 4)]):=fokA [] Tryz.func170
def ic172:IC :=
(.seq
(.reg 0 [oM 4 (cB false)] [0,1])
(.seq
(.reg 1 [oM 5 (.t 0),oM 6 (.t 1),oK 7 (.call 163 [(.t 5),(.t 6)]),oQ 8 (.bin .geq (.t 7) (cI 0)),oM 4 (.t 8)] [4])
.ret))
theorem fok172:FOK Tryz.prog 172 (9,ic172,[(.t 4)]):=fokA [] Tryz.func172
def ic175:IC :=
(.seq
(.reg 0 [oM 4 (cI 0)] [0,1])
(.seq
(.reg 1 [oM 5 (cI 0)] [0,1,5])
(.seq
(.seq
(.reg 2 [oM 6 (cI 0)] [0,1,5,6])
(.block 0
(.loop
(.seq
(.seq
(.reg 3 [oM 7 (.t 6),oM 8 (.t 0),oQ 9 (.len 0 (.t 8)),oQ 10 (.bin .lss (.t 7) (.t 9)),oM 11 (.t 10),gQ 12 11 true (.mov (.t 5)),gQ 13 11 true (.mov (.t 1)),gQ 14 11 true (.bin .lss (.t 12) (.t 13)),oQ 15 (.pick (.t 11) (.t 14) (cB false))] [0,1,5,6,15])
(.cond (.t 15)
.skip
(.exit 0)))
(.seq
(.block 1
(.reg 5 [oM 18 (.t 5),oQ 19 (.bin .add (.t 18) (cI 1)),oM 20 (.t 0),oM 21 (.t 6),oQ 22 (.iaddr 7 (.t 20) (.t 21)),oQ 23 (.faddr 6 (.t 22)),oQ 24 (.load none (.t 23)),oM 25 (.t 1),oM 26 (.t 5),oQ 27 (.bin .sub (.t 25) (.t 26)),oK 28 (.call 175 [(.t 24),(.t 27)]),oQ 29 (.bin .add (.t 19) (.t 28)),oM 5 (.t 29)] [0,1,5,6]))
(.reg 4 [oM 16 (.t 6),oQ 17 (.bin .add (.t 16) (cI 1)),oM 6 (.t 17)] [0,1,5,6]))))))
(.seq
(.reg 6 [oM 30 (.t 5),oM 4 (.t 30)] [4])
.ret))))
theorem fok175:FOK Tryz.prog 175 (31,ic175,[(.t 4)]):=fokA [] Tryz.func175
def ic176:IC :=
(.seq
(.reg 0 [oM 2 (.c .nilptr)] [0])
(.seq
(.seq
(.reg 1 [oM 3 (.t 0),oQ 4 (.isnil (.pointer 136) false (.t 3))] [0,4])
(.cond (.t 4)
(.seq
(.reg 2 [oM 2 (.c .nilptr)] [2])
.ret)
.skip))
(.seq
(.reg 3 [oM 5 (.t 0),oQ 6 (.nchk (.t 5)),oQ 7 (.faddr 0 (.t 6)),oQ 8 (.load none (.t 7)),oM 2 (.t 8)] [2])
.ret)))
theorem fok176:FOK Tryz.prog 176 (9,ic176,[(.t 2)]):=fokA [] Tryz.func176
def ic177:IC :=
(.seq
(.reg 0 [oK 2 (.alloc [(zU 0),(.bool false),.nilslice,.nilslice,(zI 0)])] [0,2])
(.seq
(.seq
(.reg 1 [oM 3 (.t 0),oQ 4 (.isnil (.pointer 136) false (.t 3))] [0,2,4])
(.cond (.t 4)
(.seq
(.reg 2 [oQ 5 (.bld [(zU 0),(.bool false),.nilslice,.nilslice,(zI 0)] []),oN (.store 5 (.t 2) (.t 5))] [2])
.ret)
.skip))
(.seq
(.reg 3 [oM 6 (.t 0),oQ 7 (.nchk (.t 6)),oQ 8 (.faddr 2 (.t 7)),oQ 9 (.load (some 5) (.t 8)),oK 10 (.call 161 [(.t 9)]),oN (.store 5 (.t 2) (.t 10))] [2])
.ret)))
theorem fok177:FOK Tryz.prog 177 (11,ic177,[(.cell (some 5) 2)]):=fokA [] Tryz.func177
def ic178:IC :=
(.seq
(.reg 0 [oM 2 (.c .nilptr),oM 3 (cI 0)] [0])
(.seq
(.reg 1 [oM 7 (.t 0),oK 8 (.call 80 [(.t 7)]),oM 6 (.t 8),oQ 9 (.ext 0 (.t 6)),oQ 10 (.ext 1 (.t 6)),oM 4 (.t 9),oM 5 (.t 10)] [0,4,5])
(.seq
(.seq
(.reg 2 [oM 11 (.t 5),oQ 12 (.bin .neq (.t 11) (cI 0))] [0,4,5,12])
(.cond (.t 12)
(.seq
(.reg 3 [oM 13 (.t 5),oM 2 (.c .nilptr),oM 3 (.t 13)] [2,3])
.ret)
.skip))
(.seq
(.reg 4 [oM 14 (.t 4),oM 15 (.t 0),oK 16 (.call 17 [(.t 15)]),oQ 17 (.bld [.nilptr,(zI 0)] [⟨0,⟨1,(.t 14)⟩⟩,⟨1,⟨1,(.t 16)⟩⟩]),oK 18 (.boxt (.t 17)),oM 2 (.t 18),oM 3 (cI 0)] [2,3])
.ret))))
theorem fok178:FOK Tryz.prog 178 (19,ic178,[(.t 2),(.t 3)]):=fokA [1000018] Tryz.func178
def ic179:IC :=
(.seq
(.reg 0 [oK 1 (.boxt (.t 0)),oM 2 (.c .nilslice)] [1,2])
(.seq
(.reg 1 [oK 3 (.alloc [.nilslice])] [1,2,3])
(.seq
(.seq
(.reg 2 [oQ 5 (.load (some 7) (.t 1)),oK 6 (.call 239 [(.t 5)])] [2,3,6])
(.block 0
(.rfunc (.t 6) [7,8]
(.reg 3 [oK 4 (.alloc [(zU 0),(.str []),(zU 0),(zI 0),(.str []),(.str []),.nilslice]),oN (.store 7 (.t 4) (.t 7))] [3,4])
(.block 1
(.seq
(.reg 4 [oQ 9 (.faddr 0 (.t 4)),oQ 10 (.load none (.t 9)),oQ 11 (.bin .eql (.t 10) (.c (zU 1)))] [3,4,11])
(.cond (.t 11)
(.reg 5 [oQ 12 (.load none (.t 3)),oQ 13 (.faddr 1 (.t 4)),oQ 14 (.load (some 5) (.t 13)),oK 15 (.bslt 5 1 [(.str []),(zU 0),(zI 0),(.str []),(.str [])] [⟨0,⟨5,(.t 14)⟩⟩]),oK 16 (.app 5 (.t 12) (.t 15)),oN (.store 1 (.t 3) (.t 16))] [])
.skip))))))
(.seq
(.reg 6 [oQ 17 (.load none (.t 3)),oM 2 (.t 17)] [2])
.ret))))
theorem fok179:FOK Tryz.prog 179 (18,ic179,[(.t 2)]):=fokA [1000001,1000015] Tryz.func179
def ic180:IC :=
(.seq
(.reg 0 [oK 2 (.boxt (.t 0)),oM 3 (cB false)] [1,2])
(.seq
(.reg 1 [oQ 4 (.load (some 15) (.t 1)),oQ 5 (.load (some 5) (.t 2)),oK 6 (.call 31 [(.t 4),(.t 5)]),oM 3 (.t 6)] [3])
.ret))
theorem fok180:FOK Tryz.prog 180 (7,ic180,[(.t 3)]):=fokA [1000002] Tryz.func180
def ic181:IC :=
(.seq
(.reg 0 [⟨(some 4),none,(.q (.mov (.c (.bool false))))⟩] [0,1])
(.seq
(.reg 1 [⟨(some 5),none,(.q (.mov (.t 0)))⟩,⟨(some 6),none,(.q (.mov (.t 1)))⟩,⟨(some 7),none,(.call 240 [(.t 5),(.t 6)])⟩,⟨(some 8),none,(.q (.bin .geq (.t 7) (.c (.int .i64 0))))⟩,⟨(some 4),none,(.q (.mov (.t 8)))⟩] [4])
.ret))
theorem fok181:FOK Tryz.prog 181 (9,ic181,[(.t 4)]):=.mk (pf:=[]) (an:=[(0,[0,1]),(1,[4])]) (by kernel_rfl) (ab3 Tryz.func181 (by kernel_rfl) (by kernel_rfl) (by kernel_rfl))
def ic182:IC :=
(.seq
(.reg 0 [oK 3 (.boxt (.t 0)),oM 4 (cB false)] [1,2,3])
(.seq
(.reg 1 [oQ 5 (.load none (.t 1)),oQ 6 (.load none (.t 2)),oQ 7 (.load (some 7) (.t 3)),oK 8 (.call 183 [(.t 5),(.t 6),(.t 7)]),oM 4 (.t 8)] [4])
.ret))
theorem fok182:FOK Tryz.prog 182 (9,ic182,[(.t 4)]):=fokA [1000003] Tryz.func182
def ic183:IC :=
(.seq
(.reg 0 [oK 5 (.boxt (.t 2)),oM 6 (cB false)] [0,1,5])
(.seq
(.dreg 1 [oM 7 (.t 0),oQ 8 (.isnil (.pointer 251) true (.t 7)),oM 9 (.t 8),gQ 10 9 true (.load (some 7) (.t 5)),gK 11 9 true (.pcall 241 [(.t 10)]),oQ 12 (.pick (.t 9) (.t 11) (cB false)),oM 13 (.t 12),gQ 14 13 true (.mov (.t 0)),gQ 15 13 true (.mov (.t 1)),gK 16 13 true (.pcall 242 [(.t 14),(.t 15)]),gQ 17 13 true (.load (some 7) (.t 5)),gK 18 13 true (.pcall 243 [(.t 16),(.t 17)]),oQ 19 (.pick (.t 13) (.t 18) (cB false)),oM 6 (.t 19)] false [6])
.ret))
theorem fok183:FOK Tryz.prog 183 (20,ic183,[(.t 6)]):=fokA ([1000005]++[241,242,243]) Tryz.func183 (by kernel_rfl) (by kernel_rfl) (by kernel_rfl) (by kernel_rfl)
def ic184:IC :=
(.seq
(.reg 0 [oM 2 (cI 0)] [0])
(.seq
(.seq
(.reg 1 [oM 6 (.t 0),oQ 7 (.len 0 (.t 6)),oM 8 (cI 0)] [6,7,8])
(.block 0
(.loop
(.seq
(.reg 2 [oQ 9 (.bin .lss (.t 8) (.t 7))] [6,7,8,9])
(.seq
(.cond (.t 9)
.skip
(.exit 0))
(.seq
(.block 1
(.seq
(.reg 3 [oQ 10 (.iaddr 1 (.t 6) (.t 8)),oQ 11 (.load none (.t 10)),oM 4 (.t 11)] [4,6,7,8])
(.seq
(.reg 4 [oM 12 (.t 4),oK 13 (.callv (.t 12) []),oM 5 (.t 13)] [5,6,7,8])
(.seq
(.reg 5 [oM 14 (.t 5),oQ 15 (.bin .neq (.t 14) (cI 0))] [5,6,7,8,15])
(.cond (.t 15)
(.seq
(.reg 6 [oM 16 (.t 5),oM 2 (.t 16)] [2])
.ret)
.skip)))))
(.reg 7 [oQ 17 (.bin .add (.t 8) (cI 1)),oM 8 (.t 17)] [6,7,8])))))))
(.seq
(.reg 8 [oM 2 (cI 0)] [2])
.ret)))
theorem fok184:FOK Tryz.prog 184 (18,ic184,[(.t 2)]):=fokA [] Tryz.func184
def ic185:IC :=
(.seq
(.reg 0 [oM 3 (cI 0)] [0,1,2])
(.seq
(.dreg 1 [oQ 4 (.load none (.t 0)),oQ 5 (.nchk (.t 4)),oQ 6 (.faddr 0 (.t 5)),oQ 7 (.load none (.t 6)),oQ 8 (.load none (.t 1)),oK 9 (.pcall 44 [(.t 7),(.t 8)]),oK 10 (.pcall 186 [(.t 9)]),oQ 11 (.load none (.t 0)),oQ 12 (.nchk (.t 11)),oQ 13 (.faddr 0 (.t 12)),oQ 14 (.load none (.t 13)),oQ 15 (.load none (.t 2)),oK 16 (.pcall 44 [(.t 14),(.t 15)]),oK 17 (.pcall 186 [(.t 16)]),oK 18 (.pcall 126 [(.t 10),(.t 17)]),oM 3 (.t 18)] false [3])
.ret))
theorem fok185:FOK Tryz.prog 185 (19,ic185,[(.t 3)]):=fokA ([]++[44,126,186]) Tryz.func185 (by kernel_rfl) (by kernel_rfl) (by kernel_rfl) (by kernel_rfl)
def ic186:IC :=
(.seq
(.reg 0 [oM 2 (cI 0)] [0])
(.seq
(.seq
(.reg 1 [oM 3 (.t 0)] [3])
(.cond (.t 3)
(.seq
(.reg 2 [oM 2 (cI 0)] [2])
.ret)
.skip))
(.seq
(.reg 3 [oM 2 (cI 1)] [2])
.ret)))
theorem fok186:FOK Tryz.prog 186 (4,ic186,[(.t 2)]):=fokA [] Tryz.func186
def ic187:IC :=
(.seq
(.reg 0 [oM 3 (cI 0)] [0,1,2])
(.seq
(.dreg 1 [oQ 4 (.load none (.t 0)),oQ 5 (.nchk (.t 4)),oQ 6 (.faddr 2 (.t 5)),oQ 7 (.load none (.t 6)),oQ 8 (.faddr 4 (.t 1)),oQ 9 (.load none (.t 8)),oK 10 (.pcall 170 [(.t 7),(.t 9)]),oQ 11 (.load none (.t 0)),oQ 12 (.nchk (.t 11)),oQ 13 (.faddr 2 (.t 12)),oQ 14 (.load none (.t 13)),oQ 15 (.faddr 4 (.t 2)),oQ 16 (.load none (.t 15)),oK 17 (.pcall 170 [(.t 14),(.t 16)]),oK 18 (.pcall 126 [(.t 10),(.t 17)]),oM 3 (.t 18)] false [3])
.ret))
theorem fok187:FOK Tryz.prog 187 (19,ic187,[(.t 3)]):=fokA ([]++[126,170]) Tryz.func187 (by kernel_rfl) (by kernel_rfl) (by kernel_rfl) (by kernel_rfl)
def ic188:IC :=
(.seq
(.reg 0 [oM 3 (cI 0)] [0,1,2])
(.seq
(.dreg 1 [oQ 4 (.load none (.t 0)),oQ 5 (.nchk (.t 4)),oQ 6 (.faddr 1 (.t 5)),oQ 7 (.load none (.t 6)),oQ 8 (.load none (.t 1)),oK 9 (.pcall 67 [(.t 7),(.t 8)]),oQ 10 (.load none (.t 0)),oQ 11 (.nchk (.t 10)),oQ 12 (.faddr 1 (.t 11)),oQ 13 (.load none (.t 12)),oQ 14 (.load none (.t 2)),oK 15 (.pcall 67 [(.t 13),(.t 14)]),oK 16 (.pcall 126 [(.t 9),(.t 15)]),oM 3 (.t 16)] false [3])
.ret))
theorem fok188:FOK Tryz.prog 188 (17,ic188,[(.t 3)]):=fokA ([]++[67,126]) Tryz.func188 (by kernel_rfl) (by kernel_rfl) (by kernel_rfl) (by kernel_rfl)
def ic189:IC :=
(.seq
(.reg 0 [oM 3 (cI 0)] [0,1,2])
(.seq
(.dreg 1 [oQ 4 (.load none (.t 0)),oQ 5 (.nchk (.t 4)),oQ 6 (.faddr 4 (.t 5)),oQ 7 (.load none (.t 6)),oQ 8 (.load none (.t 1)),oQ 9 (.iaddr 1 (.t 7) (.t 8)),oQ 10 (.load none (.t 9)),oK 11 (.pcall 186 [(.t 10)]),oQ 12 (.load none (.t 0)),oQ 13 (.nchk (.t 12)),oQ 14 (.faddr 4 (.t 13)),oQ 15 (.load none (.t 14)),oQ 16 (.load none (.t 2)),oQ 17 (.iaddr 1 (.t 15) (.t 16)),oQ 18 (.load none (.t 17)),oK 19 (.pcall 186 [(.t 18)]),oK 20 (.pcall 126 [(.t 11),(.t 19)]),oM 3 (.t 20)] false [3])
.ret))
theorem fok189:FOK Tryz.prog 189 (21,ic189,[(.t 3)]):=fokA ([]++[126,186]) Tryz.func189 (by kernel_rfl) (by kernel_rfl) (by kernel_rfl) (by kernel_rfl)
def ic190:IC :=
(.seq
(.reg 0 [oM 2 (cI 0)] [0,1])
(.seq
(.reg 1 [oQ 3 (.faddr 1 (.t 0)),oQ 4 (.load (some 3) (.t 3)),oQ 5 (.faddr 1 (.t 1)),oQ 6 (.load (some 3) (.t 5)),oK 7 (.call 106 [(.t 4),(.t 6)]),oM 2 (.t 7)] [2])
.ret))
theorem fok190:FOK Tryz.prog 190 (8,ic190,[(.t 2)]):=fokA [] Tryz.func190
def ic191:IC :=
(.seq
(.reg 0 [oM 2 (cI 0)] [0,1])
(.seq
(.reg 1 [oQ 3 (.load none (.t 0)),oQ 4 (.load none (.t 1)),oK 5 (.call 126 [(.t 3),(.t 4)]),oM 2 (.t 5)] [2])
.ret))
theorem fok191:FOK Tryz.prog 191 (6,ic191,[(.t 2)]):=fokA [] Tryz.func191
def ic192:IC :=
(.seq
(.reg 0 [oM 10 (cB true)] [0,1,2,3,4,10])
(.seq
(.reg 1 [oM 11 (cB true)] [0,1,2,3,4,10,11])
(.block 0
(.loop
(.block 1
(.seq
(.reg 2 [oM 21 (.t 2),oM 22 (.t 1),oQ 23 (.bin .sub (.t 21) (.t 22)),oM 12 (.t 23)] [0,1,2,3,4,10,11,12])
(.seq
(.seq
(.reg 3 [oM 24 (.t 12),oQ 25 (.bin .leq (.t 24) (cI 12))] [0,1,2,3,4,10,11,12,25])
(.cond (.t 25)
(.seq
(.reg 4 [oM 26 (.t 0),oM 27 (.t 1),oM 28 (.t 2),oM 29 (.t 4),oK 30 (.call 244 [(.t 26),(.t 27),(.t 28),(.t 29)])] [])
.ret)
.skip))
(.seq
(.seq
(.reg 5 [oM 31 (.t 3),oQ 32 (.bin .eql (.t 31) (cI 0))] [0,1,2,3,4,10,11,12,32])
(.cond (.t 32)
(.seq
(.reg 6 [oM 33 (.t 0),oM 34 (.t 1),oM 35 (.t 2),oM 36 (.t 4),oK 37 (.call 245 [(.t 33),(.t 34),(.t 35),(.t 36)])] [])
.ret)
.skip))
(.seq
(.seq
(.reg 7 [oM 38 (.t 10),oQ 39 (.not (.t 38))] [0,1,2,3,4,10,11,12,39])
(.cond (.t 39)
(.seq
(.reg 8 [oM 40 (.t 0),oM 41 (.t 1),oM 42 (.t 2),oM 43 (.t 4),oK 44 (.call 246 [(.t 40),(.t 41),(.t 42),(.t 43)])] [0,1,2,3,4,10,11,12])
(.reg 9 [oM 45 (.t 3),oQ 46 (.bin .sub (.t 45) (cI 1)),oM 3 (.t 46)] [0,1,2,3,4,10,11,12]))
.skip))
(.seq
(.reg 10 [oM 48 (.t 0),oM 49 (.t 1),oM 50 (.t 2),oM 51 (.t 4),oK 52 (.call 247 [(.t 48),(.t 49),(.t 50),(.t 51)]),oM 47 (.t 52),oQ 53 (.ext 0 (.t 47)),oQ 54 (.ext 1 (.t 47)),oM 13 (.t 53),oM 14 (.t 54)] [0,1,2,3,4,10,11,12,13,14])
(.seq
(.seq
(.reg 11 [oM 55 (.t 14),oQ 56 (.bin .eql (.t 55) (cI 2))] [0,1,2,3,4,10,11,12,13,14,56])
(.cond (.t 56)
(.seq
(.reg 12 [oM 57 (.t 0),oM 58 (.t 1),oM 59 (.t 2),oM 60 (.t 4),oK 61 (.call 248 [(.t 57),(.t 58),(.t 59),(.t 60)])] [0,1,2,3,4,10,11,12,13])
(.seq
(.reg 13 [oM 62 (.t 2),oQ 63 (.bin .sub (.t 62) (cI 1)),oM 64 (.t 13),oM 65 (.t 1),oQ 66 (.bin .sub (.t 64) (.t 65)),oQ 67 (.bin .sub (.t 63) (.t 66)),oM 13 (.t 67)] [0,1,2,3,4,10,11,12,13])
(.reg 14 [oM 14 (cI 1)] [0,1,2,3,4,10,11,12,13,14])))
.skip))
(.seq
(.seq
(.reg 15 [oM 68 (.t 10),oM 69 (.t 68),gQ 70 69 true (.mov (.t 11)),oQ 71 (.pick (.t 69) (.t 70) (cB false)),oM 72 (.t 71),gQ 73 72 true (.mov (.t 14)),gQ 74 72 true (.bin .eql (.t 73) (cI 1)),oQ 75 (.pick (.t 72) (.t 74) (cB false))] [0,1,2,3,4,10,11,12,13,75])
(.cond (.t 75)
(.seq
(.reg 16 [oM 76 (.t 0),oM 77 (.t 1),oM 78 (.t 2),oM 79 (.t 4),oK 80 (.call 249 [(.t 76),(.t 77),(.t 78),(.t 79)])] [0,1,2,3,4,10,11,12,13,80])
(.cond (.t 80)
.ret
.skip))
.skip))
(.seq
(.seq
(.dreg 17 [oM 81 (.t 1),oQ 82 (.bin .gtr (.t 81) (cI 0)),oM 83 (.t 82),gQ 84 83 true (.mov (.t 4)),gQ 85 83 true (.mov (.t 0)),gQ 86 83 true (.mov (.t 1)),gQ 87 83 true (.bin .sub (.t 86) (cI 1)),gQ 88 83 true (.iaddr 1 (.t 85) (.t 87)),gQ 89 83 true (.load none (.t 88)),gQ 90 83 true (.mov (.t 0)),gQ 91 83 true (.mov (.t 13)),gQ 92 83 true (.iaddr 1 (.t 90) (.t 91)),gQ 93 83 true (.load none (.t 92)),gK 94 83 true (.callv (.t 84) [(.t 89),(.t 93)]),gQ 95 83 true (.bin .lss (.t 94) (cI 0)),gQ 96 83 true (.not (.t 95)),oQ 97 (.pick (.t 83) (.t 96) (cB false))] false [0,1,2,3,4,10,11,12,13,97])
(.cond (.t 97)
(.seq
(.reg 18 [oM 98 (.t 0),oM 99 (.t 1),oM 100 (.t 2),oM 101 (.t 13),oM 102 (.t 4),oK 103 (.call 250 [(.t 98),(.t 99),(.t 100),(.t 101),(.t 102)]),oM 15 (.t 103)] [0,2,3,4,10,11,15])
(.seq
(.reg 19 [oM 104 (.t 15),oM 1 (.t 104)] [0,1,2,3,4,10,11])
(.exit 1)))
.skip))
(.seq
(.reg 20 [oM 106 (.t 0),oM 107 (.t 1),oM 108 (.t 2),oM 109 (.t 13),oM 110 (.t 4),oK 111 (.call 251 [(.t 106),(.t 107),(.t 108),(.t 109),(.t 110)]),oM 105 (.t 111),oQ 112 (.ext 0 (.t 105)),oQ 113 (.ext 1 (.t 105)),oM 16 (.t 112),oM 17 (.t 113)] [0,1,2,3,4,12,16,17])
(.seq
(.reg 21 [oM 114 (.t 17),oM 11 (.t 114)] [0,1,2,3,4,11,12,16])
(.seq
(.reg 22 [oM 115 (.t 16),oM 116 (.t 1),oQ 117 (.bin .sub (.t 115) (.t 116)),oM 118 (.t 2),oM 119 (.t 16),oQ 120 (.bin .sub (.t 118) (.t 119)),oM 18 (.t 117),oM 19 (.t 120)] [0,1,2,3,4,11,12,16,18,19])
(.seq
(.reg 23 [oM 121 (.t 12),oQ 122 (.bin .quo (.t 121) (cI 8)),oM 20 (.t 122)] [0,1,2,3,4,11,16,18,19,20])
(.seq
(.reg 24 [oM 123 (.t 18),oM 124 (.t 19),oQ 125 (.bin .lss (.t 123) (.t 124))] [0,1,2,3,4,11,16,18,19,20,125])
(.cond (.t 125)
(.seq
(.reg 25 [oM 126 (.t 18),oM 127 (.t 20),oQ 128 (.bin .geq (.t 126) (.t 127)),oM 10 (.t 128)] [0,1,2,3,4,10,11,16])
(.seq
(.reg 26 [oM 129 (.t 0),oM 130 (.t 1),oM 131 (.t 16),oM 132 (.t 3),oM 133 (.t 4),oK 134 (.call 192 [(.t 129),(.t 130),(.t 131),(.t 132),(.t 133)])] [0,2,3,4,10,11,16])
(.reg 27 [oM 135 (.t 16),oQ 136 (.bin .add (.t 135) (cI 1)),oM 1 (.t 136)] [0,1,2,3,4,10,11])))
(.seq
(.reg 28 [oM 137 (.t 19),oM 138 (.t 20),oQ 139 (.bin .geq (.t 137) (.t 138)),oM 10 (.t 139)] [0,1,2,3,4,10,11,16])
(.seq
(.reg 29 [oM 140 (.t 0),oM 141 (.t 16),oQ 142 (.bin .add (.t 141) (cI 1)),oM 143 (.t 2),oM 144 (.t 3),oM 145 (.t 4),oK 146 (.call 192 [(.t 140),(.t 142),(.t 143),(.t 144),(.t 145)])] [0,1,3,4,10,11,16])
(.reg 30 [oM 147 (.t 16),oM 2 (.t 147)] [0,1,2,3,4,10,11]))))))))))))))))))))))
theorem fok192:FOK Tryz.prog 192 (148,ic192,[]):=fokA [] Tryz.func192
def ic195:IC :=
(.seq
(.reg 0 [oM 2 (cB false)] [0])
(.seq
(.reg 1 [oM 3 (.t 0),oM 4 (.t 0),oQ 5 (.bin .neq (.t 3) (.t 4)),oM 2 (.t 5)] [2])
.ret))
theorem fok195:FOK Tryz.prog 195 (6,ic195,[(.t 2)]):=fokA [] Tryz.func195
def ic204:IC :=
(.seq
(.reg 0 [⟨(some 2),none,(.q (.mov (.c (.bool false))))⟩] [0])
(.seq
(.seq
(.reg 1 [⟨(some 7),none,(.q (.mov (.t 0)))⟩,⟨(some 8),none,(.q (.len 1 (.t 7)))⟩,⟨(some 9),none,(.q (.bin .lss (.t 8) (.c (.int .i64 1))))⟩,⟨(some 10),none,(.q (.mov (.t 9)))⟩,⟨(some 11),(some ⟨10,false⟩),(.q (.mov (.t 0)))⟩,⟨(some 12),(some ⟨10,false⟩),(.q (.len 1 (.t 11)))⟩,⟨(some 13),(some ⟨10,false⟩),(.q (.bin .gtr (.t 12) (.c (.int .i64 64))))⟩,⟨(some 14),none,(.q (.pick (.t 10) (.c (.bool true)) (.t 13)))⟩] [0,14])
(.cond (.t 14)
(.seq
(.reg 2 [⟨(some 2),none,(.q (.mov (.c (.bool false))))⟩] [2])
.ret)
.skip))
(.seq
(.seq
(.reg 3 [⟨(some 15),none,(.q (.mov (.t 0)))⟩,⟨(some 16),none,(.srange (.t 15))⟩] [0,16])
(.block 0
(.loop
(.seq
(.reg 4 [⟨(some 17),none,(.snext (.t 16))⟩,⟨(some 18),none,(.q (.ext 0 (.t 17)))⟩] [0,16,17,18])
(.seq
(.cond (.t 18)
.skip
(.exit 0))
(.block 1
(.seq
(.reg 5 [⟨(some 19),none,(.q (.ext 2 (.t 17)))⟩,⟨(some 4),none,(.q (.mov (.t 19)))⟩] [0,4,16])
(.seq
(.reg 6 [⟨(some 20),none,(.q (.mov (.t 4)))⟩,⟨(some 21),none,(.q (.bin .gtr (.t 20) (.c (.int .i32 126))))⟩,⟨(some 22),none,(.q (.mov (.t 21)))⟩,⟨(some 23),(some ⟨22,false⟩),(.q (.mov (.t 4)))⟩,⟨(some 24),(some ⟨22,false⟩),(.q (.conv .u8 (.t 23)))⟩,⟨(some 25),(some ⟨22,false⟩),(.call 254 [(.c (.str [97,98,99,100,101,102,103,104,105,106,107,108,109,110,111,112,113,114,115,116,117,118,119,120,121,122,65,66,67,68,69,70,71,72,73,74,75,76,77,78,79,80,81,82,83,84,85,86,87,88,89,90,48,49,50,51,52,53,54,55,56,57,46,95,43,45,47,58,64,126,94])),(.t 24)])⟩,⟨(some 26),(some ⟨22,false⟩),(.q (.bin .lss (.t 25) (.c (.int .i64 0))))⟩,⟨(some 27),none,(.q (.pick (.t 22) (.c (.bool true)) (.t 26)))⟩] [0,16,27])
(.cond (.t 27)
(.seq
(.reg 7 [⟨(some 2),none,(.q (.mov (.c (.bool false))))⟩] [2])
.ret)
.skip)))))))))
(.seq
(.seq
(.reg 8 [⟨(some 28),none,(.q (.load (some 7) (.g 0)))⟩,⟨(some 29),none,(.q (.mov (.c (.int .i64 0))))⟩] [0,28,29])
(.block 2
(.loop
(.seq
(.reg 9 [⟨(some 30),none,(.q (.bin .lss (.t 29) (.c (.int .i64 7))))⟩] [0,28,29,30])
(.seq
(.cond (.t 30)
.skip
(.exit 2))
(.seq
(.block 3
(.seq
(.reg 10 [⟨(some 31),none,(.q (.idx none 7 1 (.t 28) (.t 29)))⟩,⟨(some 6),none,(.q (.mov (.t 31)))⟩] [0,6,28,29])
(.seq
(.reg 11 [⟨(some 32),none,(.q (.mov (.t 0)))⟩,⟨(some 33),none,(.q (.mov (.t 6)))⟩,⟨(some 34),none,(.q (.bin .eql (.t 32) (.t 33)))⟩] [0,28,29,34])
(.cond (.t 34)
(.seq
(.reg 12 [⟨(some 2),none,(.q (.mov (.c (.bool false))))⟩] [2])
.ret)
.skip))))
(.reg 13 [⟨(some 35),none,(.q (.bin .add (.t 29) (.c (.int .i64 1))))⟩,⟨(some 29),none,(.q (.mov (.t 35)))⟩] [0,28,29])))))))
(.seq
(.reg 14 [⟨(some 2),none,(.q (.mov (.c (.bool true))))⟩] [2])
.ret)))))
theorem fok204:FOK Tryz.prog 204 (36,ic204,[(.t 2)]):=.mk (pf:=[]) (an:=[(0,[0]),(1,[0,14]),(2,[2]),(3,[0,16]),(4,[0,16,17,18]),(5,[0,4,16]),(6,[0,16,27]),(7,[2]),(8,[0,28,29]),(9,[0,28,29,30]),(10,[0,6,28,29]),(11,[0,28,29,34]),(12,[2]),(13,[0,28,29]),(14,[2])]) (by kernel_rfl) (ab3 Tryz.func204 (by kernel_rfl) (by kernel_rfl) (by kernel_rfl))
def ic205:IC :=
(.seq
(.reg 0 [⟨(some 2),none,(.q (.mov (.c (.bool false))))⟩] [0])
(.seq
(.reg 1 [⟨(some 3),none,(.q (.mov (.t 0)))⟩,⟨(some 4),none,(.call 204 [(.t 3)])⟩,⟨(some 5),none,(.q (.mov (.t 4)))⟩,⟨(some 6),(some ⟨5,true⟩),(.q (.mov (.t 0)))⟩,⟨(some 7),(some ⟨5,true⟩),(.call 255 [(.t 6),(.c (.str [47]))])⟩,⟨(some 8),none,(.q (.pick (.t 5) (.t 7) (.c (.bool false))))⟩,⟨(some 2),none,(.q (.mov (.t 8)))⟩] [2])
.ret))
theorem fok205:FOK Tryz.prog 205 (9,ic205,[(.t 2)]):=.mk (pf:=[]) (an:=[(0,[0]),(1,[2])]) (by kernel_rfl) (ab3 Tryz.func205 (by kernel_rfl) (by kernel_rfl) (by kernel_rfl))
def ic206:IC :=
(.seq
(.reg 0 [⟨(some 2),none,(.boxt (.t 0))⟩,⟨(some 4),none,(.q (.mov (.c (.bool false))))⟩] [1,2])
(.seq
(.reg 1 [⟨(some 5),none,(.q (.faddr 0 (.t 2)))⟩,⟨(some 6),none,(.q (.load none (.t 5)))⟩,⟨(some 7),none,(.q (.bin .geq (.t 6) (.c (.int .i64 0))))⟩,⟨(some 8),none,(.q (.mov (.t 7)))⟩,⟨(some 9),(some ⟨8,true⟩),(.q (.faddr 0 (.t 2)))⟩,⟨(some 10),(some ⟨8,true⟩),(.q (.load none (.t 9)))⟩,⟨(some 11),(some ⟨8,true⟩),(.q (.bin .leq (.t 10) (.c (.int .i64 2147483647))))⟩,⟨(some 12),none,(.q (.pick (.t 8) (.t 11) (.c (.bool false))))⟩,⟨(some 13),none,(.q (.mov (.t 12)))⟩,⟨(some 14),(some ⟨13,true⟩),(.q (.faddr 1 (.t 2)))⟩,⟨(some 15),(some ⟨13,true⟩),(.q (.load none (.t 14)))⟩,⟨(some 16),(some ⟨13,true⟩),(.call 256 [(.t 15)])⟩,⟨(some 17),none,(.q (.pick (.t 13) (.t 16) (.c (.bool false))))⟩,⟨(some 18),none,(.q (.mov (.t 17)))⟩,⟨(some 19),(some ⟨18,true⟩),(.q (.faddr 2 (.t 2)))⟩,⟨(some 20),(some ⟨18,true⟩),(.q (.load none (.t 19)))⟩,⟨(some 21),(some ⟨18,true⟩),(.call 256 [(.t 20)])⟩,⟨(some 22),(some ⟨18,true⟩),(.q (.mov (.t 21)))⟩,⟨(some 23),(some ⟨22,false⟩),(.q (.mov (.t 1)))⟩,⟨(some 24),(some ⟨22,false⟩),(.q (.mov (.t 23)))⟩,⟨(some 25),(some ⟨24,true⟩),(.q (.faddr 2 (.t 2)))⟩,⟨(some 26),(some ⟨24,true⟩),(.q (.load none (.t 25)))⟩,⟨(some 27),(some ⟨24,true⟩),(.q (.bin .eql (.t 26) (.c (.str []))))⟩,⟨(some 28),(some ⟨22,false⟩),(.q (.pick (.t 24) (.t 27) (.c (.bool false))))⟩,⟨(some 29),(some ⟨18,true⟩),(.q (.pick (.t 22) (.c (.bool true)) (.t 28)))⟩,⟨(some 30),none,(.q (.pick (.t 18) (.t 29) (.c (.bool false))))⟩,⟨(some 4),none,(.q (.mov (.t 30)))⟩] [4])
.ret))
theorem fok206:FOK Tryz.prog 206 (31,ic206,[(.t 4)]):=.mk (pf:=[1000002]) (an:=[(0,[1,2]),(1,[4])]) (by kernel_rfl) (ab3 Tryz.func206 (by kernel_rfl) (by kernel_rfl) (by kernel_rfl))
def ic207:IC :=
(.seq
(.reg 0 [⟨(some 2),none,(.q (.mov (.c (.str []))))⟩] [0])
(.seq
(.seq
(.reg 1 [⟨(some 3),none,(.q (.mov (.t 0)))⟩,⟨(some 4),none,(.call 169 [(.t 3)])⟩,⟨(some 5),none,(.q (.not (.t 4)))⟩] [0,5])
(.cond (.t 5)
(.seq
(.reg 2 [⟨(some 2),none,(.q (.mov (.c (.str []))))⟩] [2])
.ret)
.skip))
(.seq
(.reg 3 [⟨(some 6),none,(.call 257 [])⟩,⟨(some 7),none,(.q (.mov (.t 0)))⟩,⟨(some 8),none,(.q (.idx none 5 1 (.t 6) (.t 7)))⟩,⟨(some 2),none,(.q (.mov (.t 8)))⟩] [2])
.ret)))
theorem fok207:FOK Tryz.prog 207 (9,ic207,[(.t 2)]):=.mk (pf:=[]) (an:=[(0,[0]),(1,[0,5]),(2,[2]),(3,[2])]) (by kernel_rfl) (ab3 Tryz.func207 (by kernel_rfl) (by kernel_rfl) (by kernel_rfl))
def ic208:IC :=
(.seq
(.reg 0 [⟨(some 5),none,(.boxt (.t 2))⟩,⟨(some 6),none,(.q (.mov (.c (.bool false))))⟩] [0,1,5])
(.seq
(.reg 1 [⟨(some 7),none,(.q (.mov (.t 0)))⟩,⟨(some 8),none,(.q (.len 0 (.t 7)))⟩,⟨(some 9),none,(.q (.mov (.t 1)))⟩,⟨(some 10),none,(.q (.bin .leq (.t 8) (.t 9)))⟩,⟨(some 11),none,(.q (.mov (.t 10)))⟩,⟨(some 12),(some ⟨11,true⟩),(.q (.mov (.t 0)))⟩,⟨(some 13),(some ⟨11,true⟩),(.q (.mkf 258 [] [(.t 5)]))⟩,⟨(some 14),(some ⟨11,true⟩),(.call 75 [(.t 12),(.t 13)])⟩,⟨(some 15),(some ⟨11,true⟩),(.q (.not (.t 14)))⟩,⟨(some 16),none,(.q (.pick (.t 11) (.t 15) (.c (.bool false))))⟩,⟨(some 6),none,(.q (.mov (.t 16)))⟩] [6])
.ret))
theorem fok208:FOK Tryz.prog 208 (17,ic208,[(.t 6)]):=.mk (pf:=[1000005]) (an:=[(0,[0,1,5]),(1,[6])]) (by kernel_rfl) (ab3 Tryz.func208 (by kernel_rfl) (by kernel_rfl) (by kernel_rfl))
def ic209:IC :=
(.seq
(.reg 0 [⟨(some 5),none,(.boxt (.t 2))⟩,⟨(some 6),none,(.q (.mov (.c (.bool false))))⟩] [0,1,5])
(.seq
(.reg 1 [⟨(some 7),none,(.q (.mov (.t 0)))⟩,⟨(some 8),none,(.q (.len 0 (.t 7)))⟩,⟨(some 9),none,(.q (.mov (.t 1)))⟩,⟨(some 10),none,(.q (.bin .leq (.t 8) (.t 9)))⟩,⟨(some 11),none,(.q (.mov (.t 10)))⟩,⟨(some 12),(some ⟨11,true⟩),(.q (.mov (.t 0)))⟩,⟨(some 13),(some ⟨11,true⟩),(.q (.mkf 260 [] [(.t 5)]))⟩,⟨(some 14),(some ⟨11,true⟩),(.call 259 [(.t 12),(.t 13)])⟩,⟨(some 15),(some ⟨11,true⟩),(.q (.not (.t 14)))⟩,⟨(some 16),none,(.q (.pick (.t 11) (.t 15) (.c (.bool false))))⟩,⟨(some 6),none,(.q (.mov (.t 16)))⟩] [6])
.ret))
theorem fok209:FOK Tryz.prog 209 (17,ic209,[(.t 6)]):=.mk (pf:=[1000005]) (an:=[(0,[0,1,5]),(1,[6])]) (by kernel_rfl) (ab3 Tryz.func209 (by kernel_rfl) (by kernel_rfl) (by kernel_rfl))
def ic210:IC :=
(.seq
(.reg 0 [⟨(some 1),none,(.boxt (.t 0))⟩,⟨(some 2),none,(.q (.mov (.c .nilfunc)))⟩] [1])
(.seq
(.reg 1 [⟨(some 3),none,(.q (.mkf 261 [] [(.t 1)]))⟩,⟨(some 2),none,(.q (.mov (.t 3)))⟩] [2])
.ret))
theorem fok210:FOK Tryz.prog 210 (4,ic210,[(.t 2)]):=.mk (pf:=[1000001]) (an:=[(0,[1]),(1,[2])]) (by kernel_rfl) (ab3 Tryz.func210 (by kernel_rfl) (by kernel_rfl) (by kernel_rfl))
def ic211:IC :=
(.seq
(.reg 0 [⟨(some 5),none,(.boxt (.t 2))⟩,⟨(some 6),none,(.q (.mov (.c (.bool false))))⟩] [0,1,5])
(.seq
(.reg 1 [⟨(some 7),none,(.q (.mov (.t 0)))⟩,⟨(some 8),none,(.q (.len 0 (.t 7)))⟩,⟨(some 9),none,(.q (.mov (.t 1)))⟩,⟨(some 10),none,(.q (.bin .leq (.t 8) (.t 9)))⟩,⟨(some 11),none,(.q (.mov (.t 10)))⟩,⟨(some 12),(some ⟨11,true⟩),(.q (.mov (.t 0)))⟩,⟨(some 13),(some ⟨11,true⟩),(.q (.mkf 262 [] [(.t 5)]))⟩,⟨(some 14),(some ⟨11,true⟩),(.call 181 [(.t 12),(.t 13)])⟩,⟨(some 15),(some ⟨11,true⟩),(.q (.not (.t 14)))⟩,⟨(some 16),none,(.q (.pick (.t 11) (.t 15) (.c (.bool false))))⟩,⟨(some 6),none,(.q (.mov (.t 16)))⟩] [6])
.ret))
theorem fok211:FOK Tryz.prog 211 (17,ic211,[(.t 6)]):=.mk (pf:=[1000005]) (an:=[(0,[0,1,5]),(1,[6])]) (by kernel_rfl) (ab3 Tryz.func211 (by kernel_rfl) (by kernel_rfl) (by kernel_rfl))
def ic212:IC :=
(.seq
(.reg 0 [⟨(some 2),none,(.boxt (.t 0))⟩,⟨(some 3),none,(.q (.mov (.c (.bool false))))⟩] [1,2])
(.seq
(.reg 1 [⟨(some 4),none,(.q (.load (some 7) (.t 2)))⟩,⟨(some 5),none,(.q (.load none (.t 1)))⟩,⟨(some 6),none,(.call 213 [(.t 4),(.t 5)])⟩,⟨(some 7),none,(.q (.bin .eql (.t 6) (.c (.int .i64 0))))⟩,⟨(some 3),none,(.q (.mov (.t 7)))⟩] [3])
.ret))
theorem fok212:FOK Tryz.prog 212 (8,ic212,[(.t 3)]):=.mk (pf:=[1000002]) (an:=[(0,[1,2]),(1,[3])]) (by kernel_rfl) (ab3 Tryz.func212 (by kernel_rfl) (by kernel_rfl) (by kernel_rfl))
end Go.Id.Tryz
