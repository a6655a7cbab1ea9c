/- The compiled codes of functions,written by a program out of the given form. Conditions: none. -/
import Derived.Test.YtebfbbjghhagbaaGreatDoorFwZb
import Derived.Test.YtebfbbjghhagbaaGreatDoorProg
set_option linter.all false
namespace Go.Id.Tryz
open Go Go.Id Go.Proofs
def it6:List Nat:=List.range 333
def ic140:IC :=
(.seq
(.reg 0 [oM 2 (cB false)] [0])
(.seq
(.seq
(.reg 1 [oM 4 T0,oQ 5 (.len 0 T4),oQ 6 (.bin .gtr T5 (cI 32))] [0,6])
(.cond T6
(.seq
(.reg 2 [oM 2 (cB false)] [2])
.ret)
.skip))
(.seq
(.seq
(.reg 3 [oM 3 (cI 0)] [0,3])
(.block 0
(.loop
(.seq
(.seq
(.reg 4 [oM 7 T3,oM 8 T0,oQ 9 (.len 0 T8),oQ 10 (.bin .lss T7 T9)] [0,3,10])
(.cond T10
.skip
(.exit 0)))
(.seq
(.block 1
(.seq
(.reg 6 [oM 13 T0,oM 14 T3,oQ 15 (.ac4 5 T13 T14),oQ 16 (.load (some 5) T15),oK 17 (.call 93 [T16]),oQ 18 (.not T17)] [0,3,18])
(.cond T18
(.seq
(.reg 7 [oM 2 (cB false)] [2])
.ret)
.skip)))
(.reg 5 [oM 11 T3,oQ 12 (.bin .add T11 (cI 1)),oM 3 T12] [0,3]))))))
(.seq
(.reg 8 [oM 2 (cB true)] [2])
.ret))))
theorem fok140:FOK Tryz.prog 140 (19,ic140,[(.t 2)]):=ae6 [] Tryz.func140
def ic141:IC :=
(.seq
(.reg 0 [oM 4 (cB false)] [0,1])
(.seq
(.seq
(.reg 1 [oM 6 T0,oQ 7 (.len 0 T6),oQ 8 (.bin .gtr T7 (cI 32))] [0,1,8])
(.cond T8
(.seq
(.reg 2 [oM 4 (cB false)] [4])
.ret)
.skip))
(.seq
(.seq
(.reg 3 [oM 5 (cI 0)] [0,1,5])
(.block 0
(.loop
(.seq
(.seq
(.reg 4 [oM 9 T5,oM 10 T0,oQ 11 (.len 0 T10),oQ 12 (.bin .lss T9 T11)] [0,1,5,12])
(.cond T12
.skip
(.exit 0)))
(.seq
(.block 1
(.seq
(.reg 6 [oM 15 T0,oM 16 T5,oQ 17 (.ac4 7 T15 T16),oQ 18 (.load (some 7) T17),oM 19 T1,oK 20 (.call 212 [T18,T19]),oQ 21 (.bin .neq T20 (cI 0))] [0,1,5,21])
(.cond T21
(.seq
(.reg 7 [oM 4 (cB false)] [4])
.ret)
.skip)))
(.reg 5 [oM 13 T5,oQ 14 (.bin .add T13 (cI 1)),oM 5 T14] [0,1,5]))))))
(.seq
(.reg 8 [oM 4 (cB true)] [4])
.ret))))
theorem fok141:FOK Tryz.prog 141 (22,ic141,[(.t 4)]):=ae6 [] Tryz.func141
def ic142:IC :=
(.seq
(.reg 0 [oM 2 (.c .aa1)] [0])
(.seq
(.reg 1 [oM 3 (.c .aa1)] [0,3])
(.seq
(.seq
(.reg 2 [oM 4 (cI 0)] [0,3,4])
(.block 0
(.loop
(.seq
(.seq
(.reg 3 [oM 5 T4,oM 6 T0,oQ 7 (.len 0 T6),oQ 8 (.bin .lss T5 T7)] [0,3,4,8])
(.cond T8
.skip
(.exit 0)))
(.seq
(.block 1
(.reg 5 [oM 11 T3,oM 12 T0,oM 13 T4,oQ 14 (.ac4 7 T12 T13),oQ 15 (.load (some 7) T14),oK 16 (.call 213 [T15]),oK 17 (.av4 7 1 [(zU 0),(.str []),(zU 0),(zI 0),(.str []),(.str []),.aa1] [⟨0,⟨7,T16⟩⟩]),oK 18 (.app 7 T11 T17),oM 3 T18] [0,3,4]))
(.reg 4 [oM 9 T4,oQ 10 (.bin .add T9 (cI 1)),oM 4 T10] [0,3,4]))))))
(.seq
(.reg 6 [oM 19 T3,oM 2 T19] [2])
.ret))))
theorem fok142:FOK Tryz.prog 142 (20,ic142,[(.t 2)]):=ae6 [1000017] Tryz.func142
def ic143:IC :=
(.seq
(.reg 0 [oM 2 (cB false)] [0])
(.seq
(.reg 1 [oM 3 T0,oQ 4 (.bin .geq T3 (.c (zU 1))),oM 5 T4,gQ 6 5 true (.mov T0),gQ 7 5 true (.bin .leq T6 (.c (zU 4))),oQ 8 (.pick T5 T7 (cB false)),oM 2 T8] [2])
.ret))
theorem fok143:FOK Tryz.prog 143 (9,ic143,[(.t 2)]):=ae6 [] Tryz.func143
def ic144:IC :=
(.seq
(.reg 0 [oM 4 (cI 0)] [0,1])
(.seq
(.seq
(.reg 1 [oM 6 T0,oQ 7 (.len 0 T6),oM 8 (cI 0)] [0,1,7,8])
(.block 0
(.loop
(.seq
(.reg 2 [oQ 9 (.bin .lss T8 T7)] [0,1,7,8,9])
(.seq
(.cond T9
.skip
(.exit 0))
(.seq
(.block 1
(.seq
(.reg 3 [oM 10 T8,oM 5 T10] [0,1,5,7,8])
(.seq
(.reg 4 [oM 11 T1,oM 12 T0,oM 13 T5,oQ 14 (.ac4 6 T12 T13),oQ 15 (.load (some 6) T14),oK 16 (.ao5 T11 [T15])] [0,1,5,7,8,16])
(.cond T16
(.seq
(.reg 5 [oM 17 T5,oM 4 T17] [4])
.ret)
.skip))))
(.reg 6 [oQ 18 (.bin .add T8 (cI 1)),oM 8 T18] [0,1,7,8])))))))
(.seq
(.reg 7 [oM 4 (cI (-1))] [4])
.ret)))
theorem fok144:FOK Tryz.prog 144 (19,ic144,[(.t 4)]):=ae6 [] Tryz.func144
def ic145:IC :=
(.seq
(.reg 0 [oM 2 (cB false)] [0])
(.seq
(.seq
(.reg 1 [oM 7 T0,oQ 8 (.len 1 T7),oQ 9 (.bin .lss T8 (cI 1)),oM 10 T9,gQ 11 10 false (.mov T0),gQ 12 10 false (.len 1 T11),gQ 13 10 false (.bin .gtr T12 (cI 64)),oQ 14 (.pick T10 (cB true) T13)] [0,14])
(.cond T14
(.seq
(.reg 2 [oM 2 (cB false)] [2])
.ret)
.skip))
(.seq
(.seq
(.reg 3 [oM 15 T0,oK 16 (.bk1 T15)] [0,16])
(.block 0
(.loop
(.seq
(.reg 4 [oK 17 (.ct4 T16),oQ 18 (.ext 0 T17)] [0,16,17,18])
(.seq
(.cond T18
.skip
(.exit 0))
(.block 1
(.seq
(.reg 5 [oQ 19 (.ext 2 T17),oM 4 T19] [0,4,16])
(.seq
(.reg 6 [oM 20 T4,oQ 21 (.bin .gtr T20 (.c (.int .i32 126))),oM 22 T21,gQ 23 22 false (.mov T4),gQ 24 22 false (.conv .u8 T23),gK 25 22 false (.call 214 [(.c (.str [97,98,99,100,101,102,103,104,105,106,107,108,109,110,111,112,113,114,115,116,117,118,119,120,121,122,65,66,67,68,69,70,71,72,73,74,75,76,77,78,79,80,81,82,83,84,85,86,87,88,89,90,48,49,50,51,52,53,54,55,56,57,46,95,43,45,47,58,64,126,94])),T24]),gQ 26 22 false (.bin .lss T25 (cI 0)),oQ 27 (.pick T22 (cB true) T26)] [0,16,27])
(.cond T27
(.seq
(.reg 7 [oM 2 (cB false)] [2])
.ret)
.skip)))))))))
(.seq
(.seq
(.reg 8 [oQ 28 (.load (some 7) (.g 0)),oM 29 (cI 0)] [0,28,29])
(.block 2
(.loop
(.seq
(.reg 9 [oQ 30 (.bin .lss T29 (cI 7))] [0,28,29,30])
(.seq
(.cond T30
.skip
(.exit 2))
(.seq
(.block 3
(.seq
(.reg 10 [oQ 31 (.idx none 7 1 T28 T29),oM 6 T31] [0,6,28,29])
(.seq
(.reg 11 [oM 32 T0,oM 33 T6,oQ 34 (.bin .eql T32 T33)] [0,28,29,34])
(.cond T34
(.seq
(.reg 12 [oM 2 (cB false)] [2])
.ret)
.skip))))
(.reg 13 [oQ 35 (.bin .add T29 (cI 1)),oM 29 T35] [0,28,29])))))))
(.seq
(.reg 14 [oM 2 (cB true)] [2])
.ret)))))
theorem fok145:FOK Tryz.prog 145 (36,ic145,[(.t 2)]):=ae6 [] Tryz.func145
def ic146:IC :=
(.seq
(.reg 0 [oM 2 (cB false)] [0])
(.seq
(.reg 1 [oM 3 T0,oQ 4 (.bin .eql T3 (.c (zU 0))),oM 5 T4,gQ 6 5 false (.mov T0),gK 7 5 false (.call 215 [T6]),gQ 8 5 false (.bin .neq T7 (.c (.str []))),oQ 9 (.pick T5 (cB true) T8),oM 2 T9] [2])
.ret))
theorem fok146:FOK Tryz.prog 146 (10,ic146,[(.t 2)]):=ae6 [] Tryz.func146
def ic147:IC :=
(.seq
(.reg 0 [oM 2 (cB false)] [0])
(.seq
(.reg 1 [oM 3 T0,oK 4 (.call 145 [T3]),oM 5 T4,gQ 6 5 true (.mov T0),gK 7 5 true (.call 216 [T6,(.c (.str [47]))]),oQ 8 (.pick T5 T7 (cB false)),oM 2 T8] [2])
.ret))
theorem fok147:FOK Tryz.prog 147 (9,ic147,[(.t 2)]):=ae6 [] Tryz.func147
def ic148:IC :=
(.seq
(.reg 0 [oK 2 (.ag6 T0),oM 4 (cB false)] [1,2])
(.seq
(.reg 1 [oQ 5 (.aa6 0 T2),oQ 6 (.load none T5),oQ 7 (.bin .geq T6 (cI 0)),oM 8 T7,gQ 9 8 true (.aa6 0 T2),gQ 10 8 true (.load none T9),gQ 11 8 true (.bin .leq T10 (cI 2147483647)),oQ 12 (.pick T8 T11 (cB false)),oM 13 T12,gQ 14 13 true (.aa6 1 T2),gQ 15 13 true (.load none T14),gK 16 13 true (.call 217 [T15]),oQ 17 (.pick T13 T16 (cB false)),oM 18 T17,gQ 19 18 true (.aa6 2 T2),gQ 20 18 true (.load none T19),gK 21 18 true (.call 217 [T20]),gQ 22 18 true (.mov T21),gQ 23 22 false (.mov T1),gQ 24 22 false (.mov T23),gQ 25 24 true (.aa6 2 T2),gQ 26 24 true (.load none T25),gQ 27 24 true (.bin .eql T26 (.c (.str []))),gQ 28 22 false (.pick T24 T27 (cB false)),gQ 29 18 true (.pick T22 (cB true) T28),oQ 30 (.pick T18 T29 (cB false)),oM 4 T30] [4])
.ret))
theorem fok148:FOK Tryz.prog 148 (31,ic148,[(.t 4)]):=ae6 [1000002] Tryz.func148
def ic149:IC :=
(.seq
(.reg 0 [oM 4 (cI 0)] [0,1])
(.seq
(.seq
(.reg 1 [oM 6 T0,oQ 7 (.len 0 T6),oM 8 (cI 0)] [0,1,7,8])
(.block 0
(.loop
(.seq
(.reg 2 [oQ 9 (.bin .lss T8 T7)] [0,1,7,8,9])
(.seq
(.cond T9
.skip
(.exit 0))
(.seq
(.block 1
(.seq
(.reg 3 [oM 10 T8,oM 5 T10] [0,1,5,7,8])
(.seq
(.reg 4 [oM 11 T1,oM 12 T0,oM 13 T5,oQ 14 (.ac4 2 T12 T13),oQ 15 (.load (some 2) T14),oK 16 (.ao5 T11 [T15])] [0,1,5,7,8,16])
(.cond T16
(.seq
(.reg 5 [oM 17 T5,oM 4 T17] [4])
.ret)
.skip))))
(.reg 6 [oQ 18 (.bin .add T8 (cI 1)),oM 8 T18] [0,1,7,8])))))))
(.seq
(.reg 7 [oM 4 (cI (-1))] [4])
.ret)))
theorem fok149:FOK Tryz.prog 149 (19,ic149,[(.t 4)]):=ae6 [] Tryz.func149
def ic150:IC :=
(.seq
(.reg 0 [oK 1 (.ag6 T0),oM 2 (.c .aj3)] [1])
(.seq
(.reg 1 [oK 8 .bm9,oQ 9 (.aa6 0 T1),oQ 10 (.load none T9),oQ 11 (.bld [] []),oN (.dc5 2 T8 T10 T11),oM 12 T8,oM 3 T12] [1,3])
(.seq
(.seq
(.reg 2 [oQ 13 (.aa6 6 T1),oQ 14 (.load none T13),oQ 15 (.len 0 T14),oM 16 (cI 0)] [1,3,14,15,16])
(.block 0
(.loop
(.seq
(.reg 3 [oQ 17 (.bin .lss T16 T15)] [1,3,14,15,16,17])
(.seq
(.cond T17
.skip
(.exit 0))
(.seq
(.block 1
(.seq
(.reg 4 [oQ 18 (.ac4 5 T14 T16),oQ 19 (.load (some 5) T18),oK 5 (.alloc [(.str []),(zU 0),(zI 0),(.str []),(.str [])]),oN (.store 5 T5 T19)] [1,3,5,14,15,16])
(.reg 5 [oM 20 T3,oQ 21 (.aa6 0 T5),oQ 22 (.load none T21),oQ 23 (.bld [] []),oN (.dc5 2 T20 T22 T23)] [1,3,14,15,16])))
(.reg 6 [oQ 24 (.bin .add T16 (cI 1)),oM 16 T24] [1,3,14,15,16])))))))
(.seq
(.seq
(.reg 7 [oQ 25 (.aa6 14 T1),oQ 26 (.load none T25),oQ 27 (.len 0 T26),oM 28 (cI 0)] [3,26,27,28])
(.block 2
(.loop
(.seq
(.reg 8 [oQ 29 (.bin .lss T28 T27)] [3,26,27,28,29])
(.seq
(.cond T29
.skip
(.exit 2))
(.seq
(.block 3
(.seq
(.reg 9 [oQ 30 (.ac4 1 T26 T28),oQ 31 (.load none T30),oM 7 T31] [3,7,26,27,28])
(.reg 10 [oM 32 T3,oM 33 T7,oQ 34 (.bld [] []),oN (.dc5 2 T32 T33 T34)] [3,26,27,28])))
(.reg 11 [oQ 35 (.bin .add T28 (cI 1)),oM 28 T35] [3,26,27,28])))))))
(.seq
(.reg 12 [oM 36 T3,oM 2 T36] [2])
.ret)))))
theorem fok150:FOK Tryz.prog 150 (37,ic150,[(.t 2)]):=ae6 [1000001] Tryz.func150
def ic151:IC :=
(.seq
(.reg 0 [oM 4 (cB false)] [0,1])
(.seq
(.reg 1 [oM 5 T0,oM 6 T1,oK 7 (.call 218 [T5,T6]),oQ 8 (.bin .geq T7 (cI 0)),oM 4 T8] [4])
.ret))
theorem fok151:FOK Tryz.prog 151 (9,ic151,[(.t 4)]):=ae6 [] Tryz.func151
def ic152:IC :=
(.seq
(.reg 0 [oM 2 (.c .aa1)] [0])
(.seq
(.seq
(.reg 1 [oM 3 T0,oQ 4 (.ar9 (.slice 45) false T3)] [0,4])
(.cond T4
(.seq
(.reg 2 [oM 2 (.c .aa1)] [2])
.ret)
.skip))
(.seq
(.reg 3 [oK 5 (.bsl 6 0 [(zU 0),(.str []),(zU 0),(zI 0),(.str []),(.str [])] []),oM 6 T0,oK 7 (.app 6 T5 T6),oM 2 T7] [2])
.ret)))
theorem fok152:FOK Tryz.prog 152 (8,ic152,[(.t 2)]):=ae6 [] Tryz.func152
def ic153:IC :=
(.seq
(.reg 0 [oM 2 (.c .aa1)] [0])
(.seq
(.seq
(.reg 1 [oM 3 T0,oQ 4 (.ar9 (.slice 143) false T3)] [0,4])
(.cond T4
(.seq
(.reg 2 [oM 2 (.c .aa1)] [2])
.ret)
.skip))
(.seq
(.reg 3 [oK 5 (.bsl 2 0 [(zU 0),(zI 0)] []),oM 6 T0,oK 7 (.app 2 T5 T6),oM 2 T7] [2])
.ret)))
theorem fok153:FOK Tryz.prog 153 (8,ic153,[(.t 2)]):=ae6 [] Tryz.func153
def ic154:IC :=
(.seq
(.reg 0 [oM 2 (cB false)] [0])
(.seq
(.reg 1 [oM 3 T0,oQ 4 (.bin .eql T3 (.c (zU 0))),oM 5 T4,gQ 6 5 false (.mov T0),gQ 7 5 false (.bin .eql T6 (.c (zU 1))),oQ 8 (.pick T5 (cB true) T7),oM 9 T8,gQ 10 9 false (.mov T0),gQ 11 9 false (.bin .eql T10 (.c (zU 2))),oQ 12 (.pick T9 (cB true) T11),oM 13 T12,gQ 14 13 false (.mov T0),gQ 15 13 false (.bin .eql T14 (.c (zU 3))),oQ 16 (.pick T13 (cB true) T15),oM 17 T16,gQ 18 17 false (.mov T0),gQ 19 17 false (.bin .eql T18 (.c (zU 4))),oQ 20 (.pick T17 (cB true) T19),oM 21 T20,gQ 22 21 false (.mov T0),gQ 23 21 false (.bin .eql T22 (.c (zU 6))),oQ 24 (.pick T21 (cB true) T23),oM 2 T24] [2])
.ret))
theorem fok154:FOK Tryz.prog 154 (25,ic154,[(.t 2)]):=ae6 [] Tryz.func154
def ic155:IC :=
(.seq
(.reg 0 [oM 9 T1,oM 10 T2,oM 11 T3,oQ 12 (.bld [(zU 0),(zI 0),(zI 0)] [⟨0,⟨1,T9⟩⟩,⟨1,⟨1,T10⟩⟩,⟨2,⟨1,T11⟩⟩]),oK 8 (.alloc [(zU 0),(zI 0),(zI 0)]),oN (.store 3 T8 T12)] [0,8])
(.seq
(.ap8 1 [oM 13 T0,oM 14 T0,oQ 15 (.ak6 T14),oQ 16 (.aa6 3 T15),oQ 17 (.load none T16),oQ 18 (.load (some 3) T8),oK 19 (.av4 3 1 [(zU 0),(zI 0),(zI 0)] [⟨0,⟨3,T18⟩⟩]),oK 20 (.app 3 T17 T19),oQ 21 (.ak6 T13),oQ 22 (.aa6 3 T21),oN (.store 1 T22 T20)] true [0,8])
(.ap8 2 [oM 23 T0,oQ 24 (.ak6 T23),oQ 25 (.aa6 4 T24),oQ 26 (.load none T25),oQ 27 (.load (some 3) T8),oQ 28 (.bld [] []),oN (.dc5 6 T26 T27 T28)] false [])))
theorem fok155:FOK Tryz.prog 155 (29,ic155,[]):=ae6 [1000019] Tryz.func155
def ic156:IC :=
(.seq
(.reg 0 [oM 4 (cB false)] [0,1])
(.seq
(.reg 1 [oM 5 T0,oM 6 T1,oK 7 (.call 167 [T5,T6]),oM 8 T7,gQ 9 8 true (.mov T0),gQ 10 8 true (.mov T1),gK 11 8 true (.call 168 [T9,(.c (zU 2)),T10]),gQ 12 8 true (.mov T11),gQ 13 12 false (.mov T0),gQ 14 12 false (.mov T1),gK 15 12 false (.call 72 [T13,(.c (zU 2)),T14]),gQ 16 8 true (.pick T12 (cB true) T15),oQ 17 (.pick T8 T16 (cB false)),oM 4 T17] [4])
.ret))
theorem fok156:FOK Tryz.prog 156 (18,ic156,[(.t 4)]):=ae6 [] Tryz.func156
def ic157:IC :=
(.seq
(.reg 0 [oK 2 (.alloc [(zU 0),(.bool false),.aa1,.aa1,(zI 0)])] [0,2])
(.seq
(.seq
(.reg 1 [oM 3 T0,oQ 4 (.ar9 (.pointer 118) false T3)] [0,2,4])
(.cond T4
(.seq
(.reg 2 [oQ 5 (.bld [(zU 0),(.bool false),.aa1,.aa1,(zI 0)] []),oN (.store 5 T2 T5)] [2])
.ret)
.skip))
(.seq
(.reg 3 [oM 6 T0,oQ 7 (.ak6 T6),oQ 8 (.aa6 2 T7),oQ 9 (.load (some 5) T8),oK 10 (.call 90 [T9]),oN (.store 5 T2 T10)] [2])
.ret)))
theorem fok157:FOK Tryz.prog 157 (11,ic157,[(.cell (some 5) 2)]):=ae6 [] Tryz.func157
def ic158:IC :=
(.seq
(.reg 0 [oK 1 (.ag6 T0),oM 2 (cB false)] [1])
(.seq
(.reg 1 [oQ 7 (.load (some 7) T1),oK 8 (.call 219 [T7]),oM 6 T8,oQ 9 (.ext 0 T6),oQ 10 (.ext 1 T6),oQ 11 (.ext 2 T6),oM 3 T9,oM 4 T10,oM 5 T11] [3,4,5])
(.seq
(.reg 2 [oM 12 T5,oM 13 T12,gQ 14 13 true (.mov T3),gQ 15 13 true (.bin .leq T14 (cI 24)),oQ 16 (.pick T13 T15 (cB false)),oM 17 T16,gQ 18 17 true (.mov T4),gQ 19 17 true (.bin .leq T18 (cI 8)),oQ 20 (.pick T17 T19 (cB false)),oM 2 T20] [2])
.ret)))
theorem fok158:FOK Tryz.prog 158 (21,ic158,[(.t 2)]):=ae6 [1000001] Tryz.func158
def ic159:IC :=
(.seq
(.reg 0 [oK 4 (.alloc [.ab6,.aa1])] [0,1,4])
(.seq
(.reg 1 [oM 8 T0,oM 9 T0,oQ 10 (.ak6 T9),oQ 11 (.aa6 1 T10),oQ 12 (.load none T11),oK 13 (.dc6 1 [(.bool false)] T12),oQ 14 (.bld [.ab6,.aa1] [⟨0,⟨1,T8⟩⟩,⟨1,⟨1,T13⟩⟩]),oK 5 (.alloc [.ab6,.aa1]),oN (.store 2 T5 T14)] [0,1,4,5])
(.seq
(.seq
(.reg 2 [oM 15 T1,oQ 16 (.len 0 T15),oM 17 (cI 0)] [0,4,5,15,16,17])
(.block 0
(.loop
(.seq
(.reg 3 [oQ 18 (.bin .lss T17 T16)] [0,4,5,15,16,17,18])
(.seq
(.cond T18
.skip
(.exit 0))
(.seq
(.block 1
(.seq
(.reg 4 [oQ 19 (.ac4 1 T15 T17),oQ 20 (.load none T19),oM 7 T20] [0,4,5,7,15,16,17])
(.seq
(.reg 5 [oM 21 T7,oQ 22 (.bin .geq T21 (cI 0)),oM 23 T22,gQ 24 23 true (.mov T7),gQ 25 23 true (.mov T0),gQ 26 23 true (.ak6 T25),gQ 27 23 true (.aa6 1 T26),gQ 28 23 true (.load none T27),gQ 29 23 true (.bin .lss T24 T28),oQ 30 (.pick T23 T29 (cB false))] [0,4,5,7,15,16,17,30])
(.cond T30
(.reg 6 [oQ 31 (.aa6 1 T5),oQ 32 (.load none T31),oM 33 T7,oQ 34 (.ac4 1 T32 T33),oN (.store 1 T34 (cB true))] [0,4,5,15,16,17])
.skip))))
(.reg 7 [oQ 35 (.bin .add T17 (cI 1)),oM 17 T35] [0,4,5,15,16,17])))))))
(.seq
(.reg 8 [oQ 36 (.load (some 2) T5),oN (.store 2 T4 T36)] [4])
.ret))))
theorem fok159:FOK Tryz.prog 159 (37,ic159,[(.cell (some 2) 4)]):=ae6 [] Tryz.func159
def ic160:IC :=
(.seq
(.reg 0 [oK 2 (.ag6 T0),oK 3 (.ag6 T1),oM 4 (cB false)] [2,3])
(.seq
(.reg 1 [oQ 6 (.bld [.ab9,.ab9,.ab9,.ab9,.ab9,.ab9,.ab9,.ab9] [⟨1,⟨1,(.f 220)⟩⟩,⟨2,⟨1,(.f 221)⟩⟩,⟨3,⟨1,(.f 222)⟩⟩,⟨4,⟨1,(.f 223)⟩⟩,⟨5,⟨1,(.f 224)⟩⟩,⟨6,⟨1,(.f 225)⟩⟩,⟨7,⟨1,(.f 226)⟩⟩]),oK 5 (.alloc [.ab9,.ab9,.ab9,.ab9,.ab9,.ab9,.ab9,.ab9]),oN (.store 8 T5 T6)] [2,3,5])
(.seq
(.ap8 2 [oQ 7 (.aa6 0 T3),oQ 8 (.load none T7),oQ 9 (.cz9 8 1 T5 T8),oQ 10 (.load none T9),oQ 11 (.load (some 2) T2),oQ 12 (.load (some 7) T3),oK 13 (.ao5 T10 [T11,T12]),oM 4 T13] false [4])
.ret)))
theorem fok160:FOK Tryz.prog 160 (14,ic160,[(.t 4)]):=ae6 [1000002,1000003] Tryz.func160
def ic161:IC :=
(.seq
(.reg 0 [oM 4 (.c .aa1)] [0,1])
(.seq
(.reg 1 [oM 8 T0,oM 9 T1,oK 10 (.call 164 [T8,T9]),oM 5 T10] [0,1,5])
(.seq
(.seq
(.reg 2 [oM 11 T5,oQ 12 (.bin .eql T11 (cI (-1)))] [0,1,5,12])
(.cond T12
(.seq
(.reg 3 [oM 13 T0,oM 4 T13] [4])
.ret)
.skip))
(.seq
(.seq
(.reg 4 [oM 14 T5,oQ 15 (.bin .add T14 (cI 1)),oM 6 T15] [0,1,5,6])
(.block 0
(.loop
(.seq
(.seq
(.reg 5 [oM 16 T6,oM 17 T0,oQ 18 (.len 0 T17),oQ 19 (.bin .lss T16 T18)] [0,1,5,6,19])
(.cond T19
.skip
(.exit 0)))
(.seq
(.block 1
(.seq
(.reg 7 [oM 22 T0,oM 23 T6,oQ 24 (.ac4 1 T22 T23),oQ 25 (.load none T24),oM 7 T25] [0,1,5,6,7])
(.seq
(.reg 8 [oM 26 T1,oM 27 T7,oK 28 (.ao5 T26 [T27]),oQ 29 (.not T28)] [0,1,5,6,7,29])
(.cond T29
(.seq
(.reg 9 [oM 30 T0,oM 31 T5,oM 32 T7,oQ 33 (.ac4 1 T30 T31),oN (.store 1 T33 T32)] [0,1,5,6])
(.reg 10 [oM 34 T5,oQ 35 (.bin .add T34 (cI 1)),oM 5 T35] [0,1,5,6]))
.skip))))
(.reg 6 [oM 20 T6,oQ 21 (.bin .add T20 (cI 1)),oM 6 T21] [0,1,5,6]))))))
(.seq
(.reg 11 [oM 36 T0,oM 37 T5,oQ 38 (.slc 1 T36 (some T37) none),oN (.clr 1 [(zI 0)] T38)] [0,5])
(.seq
(.reg 12 [oM 39 T0,oM 40 T5,oQ 41 (.slc 1 T39 none (some T40)),oM 4 T41] [4])
.ret))))))
theorem fok161:FOK Tryz.prog 161 (42,ic161,[(.t 4)]):=ae6 [] Tryz.func161
def ic162:IC :=
(.seq
(.reg 0 [oM 2 (.c .aa1)] [0])
(.seq
(.seq
(.reg 1 [oM 3 T0,oQ 4 (.ar9 (.slice 3) false T3)] [0,4])
(.cond T4
(.seq
(.reg 2 [oM 2 (.c .aa1)] [2])
.ret)
.skip))
(.seq
(.reg 3 [oK 5 (.bsl 1 0 [(zI 0)] []),oM 6 T0,oK 7 (.app 1 T5 T6),oM 2 T7] [2])
.ret)))
theorem fok162:FOK Tryz.prog 162 (8,ic162,[(.t 2)]):=ae6 [] Tryz.func162
def ic163:IC :=
(.seq
(.reg 0 [oM 3 (cB false)] [0,1])
(.seq
(.reg 1 [oM 4 T0,oQ 5 (.load none T1),oQ 6 (.bin .eql T4 T5),oM 3 T6] [3])
.ret))
theorem fok163:FOK Tryz.prog 163 (7,ic163,[(.t 3)]):=ae6 [] Tryz.func163
def ic164:IC :=
(.seq
(.reg 0 [oM 4 (cI 0)] [0,1])
(.seq
(.seq
(.reg 1 [oM 6 T0,oQ 7 (.len 0 T6),oM 8 (cI 0)] [0,1,7,8])
(.block 0
(.loop
(.seq
(.reg 2 [oQ 9 (.bin .lss T8 T7)] [0,1,7,8,9])
(.seq
(.cond T9
.skip
(.exit 0))
(.seq
(.block 1
(.seq
(.reg 3 [oM 10 T8,oM 5 T10] [0,1,5,7,8])
(.seq
(.reg 4 [oM 11 T1,oM 12 T0,oM 13 T5,oQ 14 (.ac4 1 T12 T13),oQ 15 (.load none T14),oK 16 (.ao5 T11 [T15])] [0,1,5,7,8,16])
(.cond T16
(.seq
(.reg 5 [oM 17 T5,oM 4 T17] [4])
.ret)
.skip))))
(.reg 6 [oQ 18 (.bin .add T8 (cI 1)),oM 8 T18] [0,1,7,8])))))))
(.seq
(.reg 7 [oM 4 (cI (-1))] [4])
.ret)))
theorem fok164:FOK Tryz.prog 164 (19,ic164,[(.t 4)]):=ae6 [] Tryz.func164
def ic165:IC :=
(.seq
(.reg 0 [oM 6 (.c .aa1)] [0,1,2])
(.seq
(.reg 1 [oM 7 (.c .aa1)] [0,1,2,7])
(.seq
(.seq
(.reg 2 [oM 10 T1,oQ 11 (.len 0 T10),oM 12 (cI 0)] [0,2,7,10,11,12])
(.block 0
(.loop
(.seq
(.reg 3 [oQ 13 (.bin .lss T12 T11)] [0,2,7,10,11,12,13])
(.seq
(.cond T13
.skip
(.exit 0))
(.seq
(.block 1
(.seq
(.reg 4 [oQ 14 (.ac4 1 T10 T12),oQ 15 (.load none T14),oM 9 T15] [0,2,7,9,10,11,12])
(.seq
(.reg 5 [oM 16 T2,oM 17 T0,oQ 18 (.ak6 T17),oQ 19 (.aa6 0 T18),oQ 20 (.load none T19),oM 21 T9,oQ 22 (.ac4 15 T20 T21),oQ 23 (.load (some 15) T22),oM 24 T9,oK 25 (.ao5 T16 [T23,T24])] [0,2,7,9,10,11,12,25])
(.cond T25
(.reg 6 [oM 26 T7,oM 27 T9,oK 28 (.av4 1 1 [(zI 0)] [⟨0,⟨1,T27⟩⟩]),oK 29 (.app 1 T26 T28),oM 7 T29] [0,2,7,10,11,12])
.skip))))
(.reg 7 [oQ 30 (.bin .add T12 (cI 1)),oM 12 T30] [0,2,7,10,11,12])))))))
(.seq
(.reg 8 [oM 31 T7,oM 6 T31] [6])
.ret))))
theorem fok165:FOK Tryz.prog 165 (32,ic165,[(.t 6)]):=ae6 [1000028] Tryz.func165
def ic166:IC :=
(.seq
(.reg 0 [oK 3 (.ag6 T0),oM 5 (cB false)] [2,3])
(.seq
(.reg 1 [oQ 6 (.load (some 15) T3),oQ 7 (.load (some 5) T2),oK 8 (.call 127 [T6,T7]),oM 5 T8] [5])
.ret))
theorem fok166:FOK Tryz.prog 166 (9,ic166,[(.t 5)]):=ae6 [1000003] Tryz.func166
def ic167:IC :=
(.seq
(.reg 0 [oM 4 (cB false)] [0,1])
(.seq
(.reg 1 [oM 5 T0,oM 6 T1,oK 7 (.call 65 [T5,T6]),oM 8 T7,gQ 9 8 true (.mov T1),gQ 10 8 true (.mov T0),gQ 11 8 true (.ak6 T10),gQ 12 8 true (.aa6 0 T11),gQ 13 8 true (.load none T12),gK 14 8 true (.call 88 [T13]),gQ 15 8 true (.bin .lss T9 T14),oQ 16 (.pick T8 T15 (cB false)),oM 4 T16] [4])
.ret))
theorem fok167:FOK Tryz.prog 167 (17,ic167,[(.t 4)]):=ae6 [] Tryz.func167
def ic168:IC :=
(.seq
(.reg 0 [oM 6 (cB false)] [0,1,2])
(.seq
(.seq
(.reg 1 [oM 9 T0,oQ 10 (.ak6 T9),oQ 11 (.aa6 2 T10),oQ 12 (.aa6 2 T11),oQ 13 (.load none T12),oQ 14 (.len 0 T13),oM 15 (cI 0)] [0,1,2,13,14,15])
(.block 0
(.loop
(.seq
(.reg 2 [oQ 16 (.bin .lss T15 T14)] [0,1,2,13,14,15,16])
(.seq
(.cond T16
.skip
(.exit 0))
(.seq
(.block 1
(.seq
(.reg 3 [oM 17 T15,oQ 18 (.ac4 6 T13 T15),oQ 19 (.load (some 6) T18),oK 8 (.alloc [(zU 0),(.str []),(zU 0),(zI 0),(.str []),(.str [])]),oM 7 T17,oN (.store 6 T8 T19)] [0,1,2,7,8,13,14,15])
(.seq
(.ap8 4 [oQ 20 (.aa6 0 T8),oQ 21 (.load none T20),oM 22 T1,oQ 23 (.bin .eql T21 T22),oM 24 T23,gQ 25 24 true (.mov T0),gQ 26 24 true (.mov T7),gK 27 24 true (.af5 32 [T25,T26]),gQ 28 24 true (.not T27),oQ 29 (.pick T24 T28 (cB false)),oM 30 T29,gQ 31 30 true (.mov T0),gQ 32 30 true (.ak6 T31),gQ 33 30 true (.aa6 1 T32),gQ 34 30 true (.load none T33),gQ 35 30 true (.aa6 1 T8),gQ 36 30 true (.load (some 5) T35),gK 37 30 true (.af5 101 [T34,T36]),gQ 38 30 true (.mov T2),gK 39 30 true (.af5 151 [T37,T38]),oQ 40 (.pick T30 T39 (cB false))] false [0,1,2,13,14,15,40])
(.cond T40
(.seq
(.reg 5 [oM 6 (cB true)] [6])
.ret)
.skip))))
(.reg 6 [oQ 41 (.bin .add T15 (cI 1)),oM 15 T41] [0,1,2,13,14,15])))))))
(.seq
(.reg 7 [oM 6 (cB false)] [6])
.ret)))
theorem fok168:FOK Tryz.prog 168 (42,ic168,[(.t 6)]):=ae6 ([]++[32,101,151]) Tryz.func168 (by kernel_rfl) (by kernel_rfl) (by kernel_rfl) (by kernel_rfl)
def ic169:IC :=
(.seq
(.reg 0 [oK 5 (.ag6 T0),oM 6 (cB false)] [1,2,3,4,5])
(.seq
(.reg 1 [oQ 7 (.aa6 0 T5),oQ 8 (.load none T7),oQ 9 (.aa6 0 T1),oQ 10 (.load none T9),oQ 11 (.bin .eql T8 T10),oM 12 T11,gQ 13 12 true (.load none T2),gQ 14 12 true (.mov T13),gQ 15 14 false (.aa6 1 T5),gQ 16 14 false (.load (some 3) T15),gQ 17 14 false (.aa6 1 T1),gQ 18 14 false (.load (some 3) T17),gK 19 14 false (.call 68 [T16,T18]),gQ 20 14 false (.bin .geq T19 (cI 0)),gQ 21 12 true (.pick T14 (cB true) T20),oQ 22 (.pick T12 T21 (cB false)),oM 23 T22,gQ 24 23 true (.load none T3),gQ 25 23 true (.mov T24),gQ 26 25 false (.aa6 4 T5),gQ 27 25 false (.load none T26),gQ 28 25 false (.aa6 4 T1),gQ 29 25 false (.load none T28),gK 30 25 false (.call 170 [T27,T29]),gQ 31 23 true (.pick T25 (cB true) T30),oQ 32 (.pick T23 T31 (cB false)),oM 33 T32,gQ 34 33 true (.load none T4),gQ 35 33 true (.ak6 T34),gQ 36 33 true (.aa6 2 T35),gQ 37 33 true (.aa6 1 T36),gQ 38 33 true (.load none T37),gQ 39 33 true (.mov T38),gQ 40 39 false (.aa6 5 T5),gQ 41 39 false (.load none T40),gQ 42 39 false (.aa6 5 T1),gQ 43 39 false (.load none T42),gQ 44 39 false (.bin .eql T41 T43),gQ 45 33 true (.pick T39 (cB true) T44),oQ 46 (.pick T33 T45 (cB false)),oM 6 T46] [6])
.ret))
theorem fok169:FOK Tryz.prog 169 (47,ic169,[(.t 6)]):=ae6 [1000005] Tryz.func169
def ic170:IC :=
(.seq
(.reg 0 [oM 4 (cB false)] [0,1])
(.seq
(.reg 1 [oM 5 T0,oK 6 (.call 143 [T5]),oM 7 T6,gQ 8 7 true (.mov T1),gK 9 7 true (.call 143 [T8]),oQ 10 (.pick T7 T9 (cB false)),oM 11 T10,gQ 12 11 true (.mov T0),gQ 13 11 true (.mov T1),gK 14 11 true (.call 67 [T12,T13]),gQ 15 11 true (.not T14),oQ 16 (.pick T11 T15 (cB false)),oM 4 T16] [4])
.ret))
theorem fok170:FOK Tryz.prog 170 (17,ic170,[(.t 4)]):=ae6 [] Tryz.func170
def ic171:IC :=
(.seq
(.reg 0 [oK 2 (.ag6 T0),oK 3 (.ag6 T1),oM 4 (.c .aa1)] [2,3])
(.seq
(.seq
(.reg 1 [oQ 5 (.load none T2),oQ 6 (.load none T3),oK 7 (.call 227 [T5,T6]),oQ 8 (.not T7)] [2,3,8])
(.cond T8
(.seq
(.reg 2 [oM 4 (.c .aa1)] [4])
.ret)
.skip))
(.seq
(.ap8 3 [oQ 9 (.load none T2),oQ 10 (.load none T2),oQ 11 (.ak6 T10),oQ 12 (.aa6 3 T11),oQ 13 (.load none T12),oQ 14 (.load none T2),oQ 15 (.ak6 T14),oQ 16 (.aa6 0 T15),oQ 17 (.load none T16),oQ 18 (.load none T3),oQ 19 (.ac4 15 T17 T18),oQ 20 (.aa6 0 T19),oQ 21 (.load none T20),oQ 22 (.lkp 2 .aa1 false T13 T21),oQ 23 (.mkf 228 [] [T3,T2]),oK 24 (.call 165 [T9,T22,T23]),oM 4 T24] false [4])
.ret)))
theorem fok171:FOK Tryz.prog 171 (25,ic171,[(.t 4)]):=ae6 [1000002,1000003] Tryz.func171
def ic172:IC :=
(.seq
(.reg 0 [oM 3 T0,oQ 4 (.len 0 T3),oM 2 T4] [0,2])
(.reg 1 [oM 5 T0,oM 6 T2,oM 7 T2,oQ 8 (.conv .u64 T7),oK 9 (.call 230 [T8]),oK 10 (.call 229 [T5,(cI 0),T6,T9])] []))
theorem fok172:FOK Tryz.prog 172 (11,ic172,[]):=ae6 [] Tryz.func172
def ic173:IC :=
(.seq
(.reg 0 [oM 2 (.c .aa1)] [0])
(.seq
(.seq
(.reg 1 [oM 6 T0,oQ 7 (.len 0 T6),oQ 8 (.bin .lss T7 (cI 2))] [0,8])
(.cond T8
(.seq
(.reg 2 [oM 9 T0,oM 2 T9] [2])
.ret)
.skip))
(.seq
(.seq
(.reg 3 [oM 3 (cI 1)] [0,3])
(.block 0
(.loop
(.seq
(.seq
(.reg 4 [oM 10 T3,oM 11 T0,oQ 12 (.len 0 T11),oQ 13 (.bin .lss T10 T12)] [0,3,13])
(.cond T13
.skip
(.exit 0)))
(.seq
(.block 1
(.seq
(.ap8 6 [oM 16 T0,oM 17 T3,oQ 18 (.ac4 1 T16 T17),oQ 19 (.load none T18),oM 20 T0,oM 21 T3,oQ 22 (.bin .sub T21 (cI 1)),oQ 23 (.ac4 1 T20 T22),oQ 24 (.load none T23),oQ 25 (.bin .eql T19 T24)] false [0,3,25])
(.cond T25
(.seq
(.reg 7 [oM 26 T0,oM 27 T3,oQ 28 (.slc 1 T26 (some T27) none),oM 4 T28] [0,3,4])
(.seq
(.seq
(.reg 8 [oM 5 (cI 1)] [0,3,4,5])
(.block 2
(.loop
(.seq
(.seq
(.reg 9 [oM 29 T5,oM 30 T4,oQ 31 (.len 0 T30),oQ 32 (.bin .lss T29 T31)] [0,3,4,5,32])
(.cond T32
.skip
(.exit 2)))
(.seq
(.block 3
(.seq
(.ap8 11 [oM 35 T4,oM 36 T5,oQ 37 (.ac4 1 T35 T36),oQ 38 (.load none T37),oM 39 T4,oM 40 T5,oQ 41 (.bin .sub T40 (cI 1)),oQ 42 (.ac4 1 T39 T41),oQ 43 (.load none T42),oQ 44 (.bin .neq T38 T43)] false [0,3,4,5,44])
(.cond T44
(.seq
(.reg 12 [oM 45 T0,oM 46 T3,oM 47 T4,oM 48 T5,oQ 49 (.ac4 1 T47 T48),oQ 50 (.load none T49),oQ 51 (.ac4 1 T45 T46),oN (.store 1 T51 T50)] [0,3,4,5])
(.reg 13 [oM 52 T3,oQ 53 (.bin .add T52 (cI 1)),oM 3 T53] [0,3,4,5]))
.skip)))
(.reg 10 [oM 33 T5,oQ 34 (.bin .add T33 (cI 1)),oM 5 T34] [0,3,4,5]))))))
(.seq
(.reg 14 [oM 54 T0,oM 55 T3,oQ 56 (.slc 1 T54 (some T55) none),oN (.clr 1 [(zI 0)] T56)] [0,3])
(.seq
(.reg 15 [oM 57 T0,oM 58 T3,oQ 59 (.slc 1 T57 none (some T58)),oM 2 T59] [2])
.ret))))
.skip)))
(.reg 5 [oM 14 T3,oQ 15 (.bin .add T14 (cI 1)),oM 3 T15] [0,3]))))))
(.seq
(.reg 16 [oM 60 T0,oM 2 T60] [2])
.ret))))
theorem fok173:FOK Tryz.prog 173 (61,ic173,[(.t 2)]):=ae6 [] Tryz.func173
def ic187:IC :=
(.seq
(.reg 0 [oK 0 (.alloc [(zI 0),(zI 0),(zI 0),(zI 0),(zI 0),(zI 0),(zI 0),(zI 0),(zI 0),(zI 0),(zI 0),(zI 0),(zI 0),(zI 0),(zI 0),(zI 0),(zI 0),(zI 0),(zI 0),(zI 0),(zI 0),(zI 0),(zI 0),(zI 0),(zI 0)])] [0])
(.seq
(.reg 1 [oQ 1 (.bld [(zI 0),(zI 0),(zI 0),(zI 0),(zI 0)] [⟨1,⟨1,(cI 2)⟩⟩,⟨2,⟨1,(cI 1)⟩⟩,⟨3,⟨1,(cI 3)⟩⟩]),oQ 2 (.bld [(zI 0),(zI 0),(zI 0),(zI 0),(zI 0)] [⟨1,⟨1,(cI 2)⟩⟩,⟨3,⟨1,(cI 1)⟩⟩]),oQ 3 (.bld [(zI 0),(zI 0),(zI 0),(zI 0),(zI 0)] [⟨1,⟨1,(cI 2)⟩⟩,⟨4,⟨1,(cI 1)⟩⟩]),oQ 4 (.bld [(zI 0),(zI 0),(zI 0),(zI 0),(zI 0),(zI 0),(zI 0),(zI 0),(zI 0),(zI 0),(zI 0),(zI 0),(zI 0),(zI 0),(zI 0),(zI 0),(zI 0),(zI 0),(zI 0),(zI 0),(zI 0),(zI 0),(zI 0),(zI 0),(zI 0)] [⟨10,⟨5,T1⟩⟩,⟨15,⟨5,T2⟩⟩,⟨20,⟨5,T3⟩⟩]),oN (.store 25 T0 T4)] [0])
.ret))
theorem fok187:FOK Tryz.prog 187 (5,ic187,[(.cell (some 25) 0)]):=ae6 [] Tryz.func187
def ic188:IC :=
(.seq
(.reg 0 [oM 2 (cB false)] [0])
(.seq
(.reg 1 [oM 3 T0,oM 4 T0,oQ 5 (.bin .neq T3 T4),oM 2 T5] [2])
.ret))
theorem fok188:FOK Tryz.prog 188 (6,ic188,[(.t 2)]):=ae6 [] Tryz.func188
def ic189:IC :=
(.seq
(.reg 0 [oM 2 (.c .aa1)] [0,2])
(.seq
(.reg 1 [oK 3 (.alloc [.aa1])] [0,2,3])
(.seq
(.seq
(.reg 2 [oM 5 T0,oK 6 (.call 234 [T5])] [2,3,6])
(.block 0
(.bt1 T6 [7]
(.reg 3 [oK 4 (.alloc [(zU 0),(.str [])]),oN (.store 2 T4 T7)] [3,4])
(.block 1
(.reg 4 [oQ 8 (.load none T3),oQ 9 (.load (some 2) T4),oK 10 (.av4 2 1 [(zU 0),(.str [])] [⟨0,⟨2,T9⟩⟩]),oK 11 (.app 2 T8 T10),oN (.store 1 T3 T11)] [])))))
(.seq
(.reg 5 [oQ 12 (.load none T3),oM 2 T12] [2])
.ret))))
theorem fok189:FOK Tryz.prog 189 (13,ic189,[(.t 2)]):=ae6 [1000010] Tryz.func189
def ic190:IC :=
(.seq
(.reg 0 [oK 2 (.ag6 T0),oK 3 (.ag6 T1),oM 4 (cI 0)] [2,3])
(.seq
(.reg 1 [oM 5 (cI 0)] [2,3,5])
(.seq
(.seq
(.reg 2 [oQ 6 (.aa6 0 T2),oQ 7 (.load none T6),oQ 8 (.bin .eql T7 (.c (zU 5))),oM 9 T8,gQ 10 9 true (.aa6 0 T3),gQ 11 9 true (.load none T10),gQ 12 9 true (.bin .eql T11 (.c (zU 5))),oQ 13 (.pick T9 T12 (cB false))] [2,3,5,13])
(.cond T13
(.reg 3 [oQ 14 (.aa6 1 T2),oQ 15 (.load none T14),oQ 16 (.len 1 T15),oQ 17 (.aa6 1 T3),oQ 18 (.load none T17),oQ 19 (.len 1 T18),oK 20 (.call 121 [T16,T19]),oM 5 T20] [2,3,5])
.skip))
(.seq
(.ap8 4 [oQ 21 (.aa6 0 T2),oQ 22 (.load none T21),oQ 23 (.aa6 0 T3),oQ 24 (.load none T23),oK 25 (.af5 236 [T22,T24]),oM 26 T5,oQ 27 (.aa6 1 T2),oQ 28 (.load none T27),oQ 29 (.aa6 1 T3),oQ 30 (.load none T29),oK 31 (.af5 237 [T28,T30]),oK 32 (.av4 1 3 [(zI 0)] [⟨0,⟨1,T25⟩⟩,⟨1,⟨1,T26⟩⟩,⟨2,⟨1,T31⟩⟩]),oK 33 (.af5 235 [T32]),oM 4 T33] false [4])
.ret))))
theorem fok190:FOK Tryz.prog 190 (34,ic190,[(.t 4)]):=ae6 ([1000002,1000003,1000032]++[235,236,237]) Tryz.func190 (by kernel_rfl) (by kernel_rfl) (by kernel_rfl) (by kernel_rfl)
def ic191:IC :=
(.seq
(.reg 0 [oM 4 (cI 0)] [0,1])
(.seq
(.seq
(.reg 1 [oM 6 T0,oQ 7 (.len 0 T6),oM 8 (cI 0)] [0,1,7,8])
(.block 0
(.loop
(.seq
(.reg 2 [oQ 9 (.bin .lss T8 T7)] [0,1,7,8,9])
(.seq
(.cond T9
.skip
(.exit 0))
(.seq
(.block 1
(.seq
(.reg 3 [oM 10 T8,oM 5 T10] [0,1,5,7,8])
(.seq
(.reg 4 [oM 11 T1,oM 12 T0,oM 13 T5,oQ 14 (.ac4 5 T12 T13),oQ 15 (.load (some 5) T14),oK 16 (.ao5 T11 [T15])] [0,1,5,7,8,16])
(.cond T16
(.seq
(.reg 5 [oM 17 T5,oM 4 T17] [4])
.ret)
.skip))))
(.reg 6 [oQ 18 (.bin .add T8 (cI 1)),oM 8 T18] [0,1,7,8])))))))
(.seq
(.reg 7 [oM 4 (cI (-1))] [4])
.ret)))
theorem fok191:FOK Tryz.prog 191 (19,ic191,[(.t 4)]):=ae6 [] Tryz.func191
def ic192:IC :=
(.seq
(.reg 0 [oK 2 (.ag6 T0),oK 3 (.ag6 T1),oM 4 (cB false)] [2,3])
(.seq
(.reg 1 [oQ 5 (.aa6 0 T2),oQ 6 (.load none T5),oQ 7 (.aa6 0 T3),oQ 8 (.load none T7),oQ 9 (.bin .eql T6 T8),oM 10 T9,gQ 11 10 true (.load (some 5) T2),gQ 12 10 true (.load (some 5) T3),gK 13 10 true (.call 238 [T11,T12]),oQ 14 (.pick T10 T13 (cB false)),oM 4 T14] [4])
.ret))
theorem fok192:FOK Tryz.prog 192 (15,ic192,[(.t 4)]):=ae6 [1000002,1000003] Tryz.func192
def ic193:IC :=
(.seq
(.reg 0 [oK 1 (.ag6 T0),oK 2 (.alloc [(.str []),(zU 0),(zI 0),(.str []),(.str [])])] [1,2])
(.seq
(.reg 1 [oQ 3 (.aa6 0 T1),oQ 4 (.load none T3),oQ 5 (.aa6 1 T1),oQ 6 (.load (some 3) T5),oK 7 (.call 239 [T4,T6]),oN (.store 5 T2 T7)] [2])
.ret))
theorem fok193:FOK Tryz.prog 193 (8,ic193,[(.cell (some 5) 2)]):=ae6 [1000001] Tryz.func193
def ic194:IC :=
(.seq
(.reg 0 [oK 3 (.ag6 T1),oM 4 (cI 0)] [0,3])
(.seq
(.seq
(.reg 1 [oM 6 T0,oQ 7 (.len 0 T6),oM 8 (cI 0)] [0,3,7,8])
(.block 0
(.loop
(.seq
(.reg 2 [oQ 9 (.bin .lss T8 T7)] [0,3,7,8,9])
(.seq
(.cond T9
.skip
(.exit 0))
(.seq
(.block 1
(.seq
(.reg 3 [oM 10 T8,oM 5 T10] [0,3,5,7,8])
(.seq
(.ap8 4 [oQ 11 (.load (some 2) T3),oM 12 T0,oM 13 T5,oQ 14 (.ac4 2 T12 T13),oQ 15 (.load (some 2) T14),oQ 16 (.eqs [1,1] true false T11 T15)] false [0,3,5,7,8,16])
(.cond T16
(.seq
(.reg 5 [oM 17 T5,oM 4 T17] [4])
.ret)
.skip))))
(.reg 6 [oQ 18 (.bin .add T8 (cI 1)),oM 8 T18] [0,3,7,8])))))))
(.seq
(.reg 7 [oM 4 (cI (-1))] [4])
.ret)))
theorem fok194:FOK Tryz.prog 194 (19,ic194,[(.t 4)]):=ae6 [1000003] Tryz.func194
def ic195:IC :=
(.seq
(.reg 0 [oM 3 (cB false)] [0,1])
(.seq
(.reg 1 [oQ 4 (.load none T1),oM 5 T0,oK 6 (.call 151 [T4,T5]),oM 3 T6] [3])
.ret))
theorem fok195:FOK Tryz.prog 195 (7,ic195,[(.t 3)]):=ae6 [] Tryz.func195
def ic196:IC :=
(.seq
(.reg 0 [oK 3 (.ag6 T1),oM 4 (.c .aa1)] [0,3])
(.seq
(.seq
(.reg 1 [oM 5 T0,oQ 6 (.ar9 (.pointer 178) false T5)] [0,3,6])
(.cond T6
(.seq
(.reg 2 [oM 4 (.c .aa1)] [4])
.ret)
.skip))
(.seq
(.ap8 3 [oM 7 T0,oM 8 T0,oQ 9 (.ak6 T8),oQ 10 (.aa6 1 T9),oQ 11 (.load none T10),oQ 12 (.aa6 0 T3),oQ 13 (.load none T12),oQ 14 (.lkp 2 .aa1 false T11 T13),oQ 15 (.mkf 240 [] [T3]),oK 16 (.call 165 [T7,T14,T15]),oM 4 T16] false [4])
.ret)))
theorem fok196:FOK Tryz.prog 196 (17,ic196,[(.t 4)]):=ae6 [1000003] Tryz.func196
def ic197:IC :=
(.seq
(.reg 0 [oM 3 (cB false)] [0,1])
(.seq
(.reg 1 [oQ 4 (.load none T1),oM 5 T0,oK 6 (.call 167 [T4,T5]),oQ 7 (.not T6),oM 3 T7] [3])
.ret))
theorem fok197:FOK Tryz.prog 197 (8,ic197,[(.t 3)]):=ae6 [] Tryz.func197
def ic198:IC :=
(.seq
(.reg 0 [oM 3 (cB false)] [0,1])
(.seq
(.reg 1 [oQ 4 (.load none T1),oM 5 T0,oK 6 (.call 167 [T4,T5]),oM 7 T6,gQ 8 7 false (.load none T1),gQ 9 7 false (.mov T0),gK 10 7 false (.call 29 [T8,T9]),gQ 11 7 false (.not T10),oQ 12 (.pick T7 (cB true) T11),oM 3 T12] [3])
.ret))
theorem fok198:FOK Tryz.prog 198 (13,ic198,[(.t 3)]):=ae6 [] Tryz.func198
def ic199:IC :=
(.seq
(.reg 0 [oM 2 (.c (.str []))] [0])
(.seq
(.seq
(.reg 1 [oM 3 T0,oK 4 (.call 143 [T3]),oQ 5 (.not T4)] [0,5])
(.cond T5
(.seq
(.reg 2 [oM 2 (.c (.str []))] [2])
.ret)
.skip))
(.seq
(.reg 3 [oK 6 (.call 242 []),oM 7 T0,oQ 8 (.idx none 5 1 T6 T7),oM 2 T8] [2])
.ret)))
theorem fok199:FOK Tryz.prog 199 (9,ic199,[(.t 2)]):=ae6 [] Tryz.func199
def ic200:IC :=
(.seq
(.reg 0 [oK 5 (.ag6 T2),oM 6 (cB false)] [0,1,5])
(.seq
(.reg 1 [oM 7 T0,oQ 8 (.len 0 T7),oM 9 T1,oQ 10 (.bin .leq T8 T9),oM 11 T10,gQ 12 11 true (.mov T0),gQ 13 11 true (.mkf 243 [] [T5]),gK 14 11 true (.call 125 [T12,T13]),gQ 15 11 true (.not T14),oQ 16 (.pick T11 T15 (cB false)),oM 6 T16] [6])
.ret))
theorem fok200:FOK Tryz.prog 200 (17,ic200,[(.t 6)]):=ae6 [1000005] Tryz.func200
def ic201:IC :=
(.seq
(.reg 0 [oK 5 (.ag6 T2),oM 6 (cB false)] [0,1,5])
(.seq
(.reg 1 [oM 7 T0,oQ 8 (.len 0 T7),oM 9 T1,oQ 10 (.bin .leq T8 T9),oM 11 T10,gQ 12 11 true (.mov T0),gQ 13 11 true (.mkf 245 [] [T5]),gK 14 11 true (.call 244 [T12,T13]),gQ 15 11 true (.not T14),oQ 16 (.pick T11 T15 (cB false)),oM 6 T16] [6])
.ret))
theorem fok201:FOK Tryz.prog 201 (17,ic201,[(.t 6)]):=ae6 [1000005] Tryz.func201
def ic202:IC :=
(.seq
(.reg 0 [oK 1 (.ag6 T0),oM 2 (.c .ab9)] [1])
(.seq
(.reg 1 [oQ 3 (.mkf 246 [] [T1]),oM 2 T3] [2])
.ret))
theorem fok202:FOK Tryz.prog 202 (4,ic202,[(.t 2)]):=ae6 [1000001] Tryz.func202
def ic203:IC :=
(.seq
(.reg 0 [oK 5 (.ag6 T2),oM 6 (cB false)] [0,1,5])
(.seq
(.reg 1 [oM 7 T0,oQ 8 (.len 0 T7),oM 9 T1,oQ 10 (.bin .leq T8 T9),oM 11 T10,gQ 12 11 true (.mov T0),gQ 13 11 true (.mkf 248 [] [T5]),gK 14 11 true (.call 247 [T12,T13]),gQ 15 11 true (.not T14),oQ 16 (.pick T11 T15 (cB false)),oM 6 T16] [6])
.ret))
theorem fok203:FOK Tryz.prog 203 (17,ic203,[(.t 6)]):=ae6 [1000005] Tryz.func203
def ic204:IC :=
(.seq
(.reg 0 [oK 2 (.ag6 T0),oM 3 (cB false)] [1,2])
(.seq
(.reg 1 [oQ 4 (.load (some 7) T2),oQ 5 (.load none T1),oK 6 (.call 205 [T4,T5]),oQ 7 (.bin .eql T6 (cI 0)),oM 3 T7] [3])
.ret))
theorem fok204:FOK Tryz.prog 204 (8,ic204,[(.t 3)]):=ae6 [1000002] Tryz.func204
def ic205:IC :=
(.seq
(.reg 0 [oK 2 (.ag6 T0),oK 3 (.ag6 T1),oK 4 (.alloc [(zI 0)])] [2,3,4])
(.seq
(.block 0
(.seq
(.reg 1 [oQ 9 (.load none T3),oQ 10 (.bin .lss T9 (.c (zU 1))),oM 11 T10,gQ 12 11 false (.load none T3),gQ 13 11 false (.bin .gtr T12 (.c (zU 3))),oQ 14 (.pick T11 (cB true) T13),oM 8 T14] [2,3,4,8])
(.cond T8
(.seq
(.reg 2 [oN (.store 1 T4 (cI 1))] [4])
.ret)
(.seq
(.reg 3 [oQ 16 (.load (some 7) T2),oK 17 (.call 249 [T16]),oQ 18 (.bin .gtr T17 (cI 24)),oM 15 T18] [2,3,4,15])
(.cond T15
(.seq
(.reg 4 [oN (.store 1 T4 (cI 40))] [4])
.ret)
(.seq
(.reg 5 [oQ 20 (.load (some 7) T2),oK 21 (.call 250 [T20]),oQ 22 (.bin .gtr T21 (cI 8)),oM 19 T22] [2,3,4,19])
(.cond T19
(.seq
(.reg 6 [oN (.store 1 T4 (cI 21))] [4])
.ret)
.skip)))))))
(.seq
(.seq
(.reg 7 [oQ 23 (.load (some 7) T2),oK 24 (.call 251 [T23])] [3,4,24])
(.block 1
(.bt1 T24 [25,26]
(.seq
(.reg 8 [oK 5 (.alloc [(zU 0),(.str []),(zU 0),(zI 0),(.str []),(.str []),.aa1]),oN (.store 7 T5 T25)] [3,4,5,26])
(.reg 9 [oM 6 T26] [3,4,5,6]))
(.block 2
(.seq
(.reg 10 [oQ 27 (.aa6 0 T5),oQ 28 (.load none T27),oK 29 (.call 252 [T28]),oK 7 (.alloc [(zI 0),(zI 0),(.bool false),(zU 0)]),oN (.store 4 T7 T29)] [3,4,5,6,7])
(.block 3
(.seq
(.seq
(.reg 11 [oQ 31 (.aa6 3 T7),oQ 32 (.load none T31),oQ 33 (.load none T3),oQ 34 (.bin .lss T32 T33),oM 30 T34] [4,5,6,7,30])
(.cond T30
.skip
(.seq
(.reg 12 [oM 35 T6,oM 36 T35,gQ 37 36 true (.aa6 2 T7),gQ 38 36 true (.load none T37),gQ 39 36 true (.not T38),oQ 40 (.pick T36 T39 (cB false)),oM 30 T40] [4,5,7,30])
(.cond T30
.skip
(.seq
(.reg 13 [oQ 41 (.aa6 6 T5),oQ 42 (.load none T41),oQ 43 (.len 0 T42),oQ 44 (.aa6 0 T7),oQ 45 (.load none T44),oQ 46 (.bin .lss T43 T45),oM 30 T46] [4,5,7,30])
(.cond T30
.skip
(.reg 14 [oQ 47 (.aa6 6 T5),oQ 48 (.load none T47),oQ 49 (.len 0 T48),oQ 50 (.aa6 1 T7),oQ 51 (.load none T50),oQ 52 (.bin .gtr T49 T51),oM 30 T52] [4,5,30])))))))
(.cond T30
(.seq
(.reg 15 [oN (.store 1 T4 (cI 4))] [])
.ret)
(.seq
(.seq
(.reg 16 [oQ 54 (.aa6 0 T5),oQ 55 (.load none T54),oQ 56 (.bin .eql T55 (.c (zU 1))),oM 57 T56,gQ 58 57 true (.aa6 1 T5),gQ 59 57 true (.load (some 5) T58),gK 60 57 true (.call 84 [T59]),gQ 61 57 true (.not T60),oQ 62 (.pick T57 T61 (cB false)),oM 53 T62] [4,5,53])
(.cond T53
.skip
(.reg 17 [oQ 63 (.aa6 0 T5),oQ 64 (.load none T63),oQ 65 (.bin .neq T64 (.c (zU 1))),oM 66 T65,gQ 67 66 true (.aa6 1 T5),gQ 68 66 true (.load (some 5) T67),gQ 69 66 true (.bld [(.str []),(zU 0),(zI 0),(.str []),(.str [])] []),gQ 70 66 true (.eqs [2,1,1,2,2] true true T68 T69),oQ 71 (.pick T66 T70 (cB false)),oM 53 T71] [4,53])))
(.cond T53
(.seq
(.reg 18 [oN (.store 1 T4 (cI 4))] [])
.ret)
.skip))))))))))
(.seq
(.reg 19 [oN (.store 1 T4 (cI 0))] [4])
.ret))))
theorem fok205:FOK Tryz.prog 205 (72,ic205,[(.cell none 4)]):=ae6 [1000002,1000003] Tryz.func205
def ic206:IC :=
(.seq
(.reg 0 [oM 2 (.c .aa1)] [0])
(.seq
(.seq
(.reg 1 [oM 3 T0,oQ 4 (.ar9 (.slice 43) false T3)] [0,4])
(.cond T4
(.seq
(.reg 2 [oM 2 (.c .aa1)] [2])
.ret)
.skip))
(.seq
(.reg 3 [oK 5 (.bsl 5 0 [(.str []),(zU 0),(zI 0),(.str []),(.str [])] []),oM 6 T0,oK 7 (.app 5 T5 T6),oM 2 T7] [2])
.ret)))
theorem fok206:FOK Tryz.prog 206 (8,ic206,[(.t 2)]):=ae6 [] Tryz.func206
def ic207:IC :=
(.seq
(.reg 0 [oM 2 (.c .aa1)] [0])
(.seq
(.seq
(.reg 1 [oM 3 T0,oQ 4 (.ar9 (.slice 9) false T3)] [0,4])
(.cond T4
(.seq
(.reg 2 [oM 2 (.c .aa1)] [2])
.ret)
.skip))
(.seq
(.reg 3 [oK 5 (.bsl 1 0 [(.str [])] []),oM 6 T0,oK 7 (.app 1 T5 T6),oM 2 T7] [2])
.ret)))
theorem fok207:FOK Tryz.prog 207 (8,ic207,[(.t 2)]):=ae6 [] Tryz.func207
def ic208:IC :=
(.seq
(.reg 0 [oM 2 (.c .aa1)] [0])
(.seq
(.seq
(.reg 1 [oM 3 T0,oQ 4 (.ar9 (.slice 80) false T3)] [0,4])
(.cond T4
(.seq
(.reg 2 [oM 2 (.c .aa1)] [2])
.ret)
.skip))
(.seq
(.reg 3 [oK 5 (.bsl 7 0 [(zU 0),(.str []),(zU 0),(zI 0),(.str []),(.str []),.aa1] []),oM 6 T0,oK 7 (.app 7 T5 T6),oM 2 T7] [2])
.ret)))
theorem fok208:FOK Tryz.prog 208 (8,ic208,[(.t 2)]):=ae6 [] Tryz.func208
def ic209:IC :=
(.seq
(.reg 0 [oK 1 (.ag6 T0),oK 2 (.alloc [(zU 0),(.str []),(zU 0),(zI 0),(.str []),(.str []),.aa1])] [1,2])
(.seq
(.reg 1 [oQ 6 (.aa6 0 T1),oQ 7 (.load none T6),oQ 8 (.aa6 1 T1),oQ 9 (.load (some 5) T8),oQ 10 (.bld [(zU 0),(.str []),(zU 0),(zI 0),(.str []),(.str []),.aa1] [⟨0,⟨1,T7⟩⟩,⟨1,⟨5,T9⟩⟩]),oK 3 (.alloc [(zU 0),(.str []),(zU 0),(zI 0),(.str []),(.str []),.aa1]),oN (.store 7 T3 T10)] [1,2,3])
(.seq
(.seq
(.reg 2 [oQ 11 (.aa6 6 T1),oQ 12 (.load none T11),oQ 13 (.len 0 T12),oM 14 (cI 0)] [2,3,12,13,14])
(.block 0
(.loop
(.seq
(.reg 3 [oQ 15 (.bin .lss T14 T13)] [2,3,12,13,14,15])
(.seq
(.cond T15
.skip
(.exit 0))
(.seq
(.block 1
(.seq
(.reg 4 [oQ 16 (.ac4 7 T12 T14),oQ 17 (.load (some 7) T16),oK 5 (.alloc [(zU 0),(.str []),(zU 0),(zI 0),(.str []),(.str []),.aa1]),oN (.store 7 T5 T17)] [2,3,5,12,13,14])
(.ap8 5 [oQ 18 (.aa6 6 T3),oQ 19 (.load none T18),oQ 20 (.load (some 7) T5),oK 21 (.af5 209 [T20]),oK 22 (.av4 7 1 [(zU 0),(.str []),(zU 0),(zI 0),(.str []),(.str []),.aa1] [⟨0,⟨7,T21⟩⟩]),oK 23 (.app 7 T19 T22),oQ 24 (.aa6 6 T3),oN (.store 1 T24 T23)] true [2,3,12,13,14])))
(.reg 6 [oQ 25 (.bin .add T14 (cI 1)),oM 14 T25] [2,3,12,13,14])))))))
(.seq
(.reg 7 [oQ 26 (.load (some 7) T3),oN (.store 7 T2 T26)] [2])
.ret))))
theorem fok209:FOK Tryz.prog 209 (27,ic209,[(.cell (some 7) 2)]):=ae6 ([1000001,1000022]++it6) Tryz.func209
def ic210:IC :=
(.seq
(.reg 0 [oM 2 (cB false)] [0])
(.seq
(.seq
(.reg 1 [oM 3 T0,oQ 4 (.bin .geq T3 (.c (zU 97))),oM 5 T4,gQ 6 5 true (.mov T0),gQ 7 5 true (.bin .leq T6 (.c (zU 122))),oQ 8 (.pick T5 T7 (cB false)),oM 9 T8,gQ 10 9 false (.mov T0),gQ 11 9 false (.bin .geq T10 (.c (zU 65))),gQ 12 9 false (.mov T11),gQ 13 12 true (.mov T0),gQ 14 12 true (.bin .leq T13 (.c (zU 90))),gQ 15 9 false (.pick T12 T14 (cB false)),oQ 16 (.pick T9 (cB true) T15),oM 17 T16,gQ 18 17 false (.mov T0),gQ 19 17 false (.bin .geq T18 (.c (zU 48))),gQ 20 17 false (.mov T19),gQ 21 20 true (.mov T0),gQ 22 20 true (.bin .leq T21 (.c (zU 57))),gQ 23 17 false (.pick T20 T22 (cB false)),oQ 24 (.pick T17 (cB true) T23)] [0,24])
(.cond T24
(.seq
(.reg 2 [oM 2 (cB true)] [2])
.ret)
.skip))
(.seq
(.reg 3 [oM 25 T0,oQ 26 (.bin .eql T25 (.c (zU 46))),oM 27 T26,gQ 28 27 false (.mov T0),gQ 29 27 false (.bin .eql T28 (.c (zU 95))),oQ 30 (.pick T27 (cB true) T29),oM 31 T30,gQ 32 31 false (.mov T0),gQ 33 31 false (.bin .eql T32 (.c (zU 43))),oQ 34 (.pick T31 (cB true) T33),oM 35 T34,gQ 36 35 false (.mov T0),gQ 37 35 false (.bin .eql T36 (.c (zU 45))),oQ 38 (.pick T35 (cB true) T37),oM 39 T38,gQ 40 39 false (.mov T0),gQ 41 39 false (.bin .eql T40 (.c (zU 47))),oQ 42 (.pick T39 (cB true) T41),oM 43 T42,gQ 44 43 false (.mov T0),gQ 45 43 false (.bin .eql T44 (.c (zU 58))),oQ 46 (.pick T43 (cB true) T45),oM 47 T46,gQ 48 47 false (.mov T0),gQ 49 47 false (.bin .eql T48 (.c (zU 64))),oQ 50 (.pick T47 (cB true) T49),oM 51 T50,gQ 52 51 false (.mov T0),gQ 53 51 false (.bin .eql T52 (.c (zU 126))),oQ 54 (.pick T51 (cB true) T53),oM 55 T54,gQ 56 55 false (.mov T0),gQ 57 55 false (.bin .eql T56 (.c (zU 94))),oQ 58 (.pick T55 (cB true) T57),oM 2 T58] [2])
.ret)))
theorem fok210:FOK Tryz.prog 210 (59,ic210,[(.t 2)]):=ae6 [] Tryz.func210
def ic211:IC :=
(.seq
(.reg 0 [oM 2 (cB false)] [0])
(.seq
(.seq
(.reg 1 [oM 3 (cI 0)] [0,3])
(.block 0
(.loop
(.seq
(.seq
(.reg 2 [oM 7 T3,oM 8 T0,oQ 9 (.len 1 T8),oQ 10 (.bin .lss T7 T9)] [0,3,10])
(.cond T10
.skip
(.exit 0)))
(.seq
(.block 1
(.seq
(.reg 4 [oM 13 T0,oM 14 T3,oQ 15 (.eq2 T13 T14),oM 4 T15] [0,3,4])
(.seq
(.reg 5 [oM 16 T4,oQ 17 (.bin .geq T16 (.c (zU 97))),oM 18 T17,gQ 19 18 true (.mov T4),gQ 20 18 true (.bin .leq T19 (.c (zU 122))),oQ 21 (.pick T18 T20 (cB false)),oM 22 T21,gQ 23 22 false (.mov T4),gQ 24 22 false (.bin .geq T23 (.c (zU 65))),gQ 25 22 false (.mov T24),gQ 26 25 true (.mov T4),gQ 27 25 true (.bin .leq T26 (.c (zU 90))),gQ 28 22 false (.pick T25 T27 (cB false)),oQ 29 (.pick T22 (cB true) T28),oM 5 T29] [0,3,4,5])
(.seq
(.reg 6 [oM 30 T4,oQ 31 (.bin .geq T30 (.c (zU 48))),oM 32 T31,gQ 33 32 true (.mov T4),gQ 34 32 true (.bin .leq T33 (.c (zU 57))),oQ 35 (.pick T32 T34 (cB false)),oM 6 T35] [0,3,4,5,6])
(.seq
(.reg 7 [oM 36 T5,oQ 37 (.not T36),oM 38 T37,gQ 39 38 true (.mov T6),gQ 40 38 true (.not T39),oQ 41 (.pick T38 T40 (cB false)),oM 42 T41,gQ 43 42 true (.mov T4),gQ 44 42 true (.bin .neq T43 (.c (zU 46))),oQ 45 (.pick T42 T44 (cB false)),oM 46 T45,gQ 47 46 true (.mov T4),gQ 48 46 true (.bin .neq T47 (.c (zU 95))),oQ 49 (.pick T46 T48 (cB false)),oM 50 T49,gQ 51 50 true (.mov T4),gQ 52 50 true (.bin .neq T51 (.c (zU 43))),oQ 53 (.pick T50 T52 (cB false)),oM 54 T53,gQ 55 54 true (.mov T4),gQ 56 54 true (.bin .neq T55 (.c (zU 126))),oQ 57 (.pick T54 T56 (cB false)),oM 58 T57,gQ 59 58 true (.mov T4),gQ 60 58 true (.bin .neq T59 (.c (zU 94))),oQ 61 (.pick T58 T60 (cB false))] [0,3,61])
(.cond T61
(.seq
(.reg 8 [oM 2 (cB false)] [2])
.ret)
.skip))))))
(.reg 3 [oM 11 T3,oQ 12 (.bin .add T11 (cI 1)),oM 3 T12] [0,3]))))))
(.seq
(.reg 9 [oM 62 T0,oQ 63 (.len 1 T62),oQ 64 (.bin .geq T63 (cI 1)),oM 65 T64,gQ 66 65 true (.mov T0),gQ 67 65 true (.len 1 T66),gQ 68 65 true (.bin .leq T67 (cI 64)),oQ 69 (.pick T65 T68 (cB false)),oM 2 T69] [2])
.ret)))
theorem fok211:FOK Tryz.prog 211 (70,ic211,[(.t 2)]):=ae6 [] Tryz.func211
def ic212:IC :=
(.seq
(.reg 0 [oK 2 (.ag6 T0),oM 4 (cI 0)] [1,2])
(.seq
(.seq
(.reg 1 [oM 5 T1,oQ 6 (.bin .lss T5 (.c (zU 1))),oM 7 T6,gQ 8 7 false (.mov T1),gQ 9 7 false (.bin .gtr T8 (.c (zU 3))),oQ 10 (.pick T7 (cB true) T9)] [1,2,10])
(.cond T10
(.seq
(.reg 2 [oM 4 (cI 1)] [4])
.ret)
.skip))
(.seq
(.seq
(.reg 3 [oQ 11 (.load (some 7) T2),oK 12 (.call 253 [T11]),oQ 13 (.bin .gtr T12 (cI 24))] [1,2,13])
(.cond T13
(.seq
(.reg 4 [oM 4 (cI 40)] [4])
.ret)
.skip))
(.seq
(.seq
(.reg 5 [oQ 14 (.load (some 7) T2),oK 15 (.call 254 [T14]),oQ 16 (.bin .gtr T15 (cI 8))] [1,2,16])
(.cond T16
(.seq
(.reg 6 [oM 4 (cI 21)] [4])
.ret)
.skip))
(.seq
(.seq
(.reg 7 [oQ 17 (.load (some 7) T2),oM 18 T1,oK 19 (.call 255 [T17,T18,(cB false)]),oQ 20 (.not T19)] [20])
(.cond T20
(.seq
(.reg 8 [oM 4 (cI 4)] [4])
.ret)
.skip))
(.seq
(.reg 9 [oM 4 (cI 0)] [4])
.ret))))))
theorem fok212:FOK Tryz.prog 212 (21,ic212,[(.t 4)]):=ae6 [1000002] Tryz.func212
def ic213:IC :=
(.seq
(.reg 0 [oK 1 (.ag6 T0),oK 2 (.alloc [(zU 0),(.str []),(zU 0),(zI 0),(.str []),(.str []),.aa1])] [1,2])
(.seq
(.reg 1 [oQ 5 (.aa6 0 T1),oQ 6 (.load none T5),oQ 7 (.aa6 1 T1),oQ 8 (.load (some 5) T7),oQ 9 (.bld [(zU 0),(.str []),(zU 0),(zI 0),(.str []),(.str []),.aa1] [⟨0,⟨1,T6⟩⟩,⟨1,⟨5,T8⟩⟩]),oK 3 (.alloc [(zU 0),(.str []),(zU 0),(zI 0),(.str []),(.str []),.aa1]),oN (.store 7 T3 T9)] [1,2,3])
(.seq
(.seq
(.reg 2 [oM 4 (cI 0)] [1,2,3,4])
(.block 0
(.loop
(.seq
(.seq
(.reg 3 [oM 10 T4,oQ 11 (.aa6 6 T1),oQ 12 (.load none T11),oQ 13 (.len 0 T12),oQ 14 (.bin .lss T10 T13)] [1,2,3,4,14])
(.cond T14
.skip
(.exit 0)))
(.seq
(.block 1
(.ap8 5 [oQ 17 (.aa6 6 T3),oQ 18 (.load none T17),oQ 19 (.aa6 6 T1),oQ 20 (.load none T19),oM 21 T4,oQ 22 (.ac4 7 T20 T21),oQ 23 (.load (some 7) T22),oK 24 (.af5 213 [T23]),oK 25 (.av4 7 1 [(zU 0),(.str []),(zU 0),(zI 0),(.str []),(.str []),.aa1] [⟨0,⟨7,T24⟩⟩]),oK 26 (.app 7 T18 T25),oQ 27 (.aa6 6 T3),oN (.store 1 T27 T26)] true [1,2,3,4]))
(.reg 4 [oM 15 T4,oQ 16 (.bin .add T15 (cI 1)),oM 4 T16] [1,2,3,4]))))))
(.seq
(.reg 6 [oQ 28 (.load (some 7) T3),oN (.store 7 T2 T28)] [2])
.ret))))
theorem fok213:FOK Tryz.prog 213 (29,ic213,[(.cell (some 7) 2)]):=ae6 ([1000001,1000025]++it6) Tryz.func213
def ic214:IC :=
(.seq
(.reg 0 [oM 4 (cI 0)] [0,1])
(.seq
(.reg 1 [oM 5 T0,oM 6 T1,oK 7 (.call 256 [T5,T6]),oM 4 T7] [4])
.ret))
theorem fok214:FOK Tryz.prog 214 (8,ic214,[(.t 4)]):=ae6 [] Tryz.func214
def ic215:IC :=
(.seq
(.reg 0 [oM 2 (.c (.str []))] [0])
(.seq
(.seq
(.reg 1 [oQ 5 (.load none (.g 1)),oK 6 (.bd3 T5)] [0,6])
(.block 0
(.loop
(.seq
(.reg 2 [oK 7 (.cd4 T6),oQ 8 (.ext 0 T7)] [0,6,8])
(.seq
(.cond T8
.skip
(.exit 0))
(.block 1
(.seq
(.reg 3 [oK 9 (.fd8 T6),oQ 10 (.ext 0 T9),oQ 11 (.ext 1 T9),oM 3 T10,oM 4 T11] [0,3,4,6])
(.seq
(.reg 4 [oM 12 T4,oM 13 T0,oQ 14 (.bin .eql T12 T13)] [0,3,6,14])
(.cond T14
(.seq
(.reg 5 [oM 15 T3,oM 2 T15] [2])
.ret)
.skip)))))))))
(.seq
(.reg 6 [oM 2 (.c (.str []))] [2])
.ret)))
theorem fok215:FOK Tryz.prog 215 (16,ic215,[(.t 2)]):=ae6 [] Tryz.func215
def ic216:IC :=
(.seq
(.reg 0 [oM 4 (cB false)] [0,1])
(.seq
(.reg 1 [oM 5 T0,oM 6 T1,oK 7 (.call 257 [T5,T6]),oM 4 T7] [4])
.ret))
theorem fok216:FOK Tryz.prog 216 (8,ic216,[(.t 4)]):=ae6 [] Tryz.func216
def ic217:IC :=
(.seq
(.reg 0 [oM 2 (cB false)] [0])
(.seq
(.seq
(.reg 1 [oM 5 T0,oQ 6 (.bin .eql T5 (.c (.str []))),oM 7 T6,gQ 8 7 false (.mov T0),gQ 9 7 false (.len 1 T8),gQ 10 7 false (.bin .gtr T9 (cI 64)),oQ 11 (.pick T7 (cB true) T10)] [0,11])
(.cond T11
(.seq
(.reg 2 [oM 2 (cB false)] [2])
.ret)
.skip))
(.seq
(.seq
(.reg 3 [oM 12 T0,oQ 13 (.len 1 T12),oM 14 (cI 0)] [0,13,14])
(.block 0
(.loop
(.seq
(.reg 4 [oQ 15 (.bin .lss T14 T13)] [0,13,14,15])
(.seq
(.cond T15
.skip
(.exit 0))
(.seq
(.block 1
(.seq
(.reg 5 [oM 16 T14,oM 3 T16] [0,3,13,14])
(.seq
(.reg 6 [oM 17 T0,oM 18 T3,oQ 19 (.eq2 T17 T18),oM 4 T19] [0,4,13,14])
(.block 2
(.seq
(.seq
(.reg 8 [oM 21 T4,oQ 22 (.bin .geq T21 (.c (zU 97))),oM 23 T22,gQ 24 23 true (.mov T4),gQ 25 23 true (.bin .leq T24 (.c (zU 122))),oQ 26 (.pick T23 T25 (cB false)),oM 20 T26] [0,4,13,14,20])
(.cond T20
.skip
(.seq
(.reg 9 [oM 27 T4,oQ 28 (.bin .geq T27 (.c (zU 65))),oM 29 T28,gQ 30 29 true (.mov T4),gQ 31 29 true (.bin .leq T30 (.c (zU 90))),oQ 32 (.pick T29 T31 (cB false)),oM 20 T32] [0,4,13,14,20])
(.cond T20
.skip
(.seq
(.reg 10 [oM 33 T4,oQ 34 (.bin .geq T33 (.c (zU 48))),oM 35 T34,gQ 36 35 true (.mov T4),gQ 37 35 true (.bin .leq T36 (.c (zU 57))),oQ 38 (.pick T35 T37 (cB false)),oM 20 T38] [0,4,13,14,20])
(.cond T20
.skip
(.reg 11 [oM 39 T4,oK 40 (.call 214 [(.c (.str [46,95,43,126,94])),T39]),oQ 41 (.bin .geq T40 (cI 0)),oM 20 T41] [0,13,14,20])))))))
(.cond T20
.skip
(.seq
(.reg 7 [oM 2 (cB false)] [2])
.ret)))))))
(.reg 12 [oQ 42 (.bin .add T14 (cI 1)),oM 14 T42] [0,13,14])))))))
(.seq
(.reg 13 [oM 2 (cB true)] [2])
.ret))))
theorem fok217:FOK Tryz.prog 217 (43,ic217,[(.t 2)]):=ae6 [] Tryz.func217
def ic218:IC :=
(.seq
(.reg 0 [oM 4 (cI 0)] [0,1])
(.seq
(.seq
(.reg 1 [oM 6 T0,oQ 7 (.len 0 T6),oM 8 (cI 0)] [0,1,7,8])
(.block 0
(.loop
(.seq
(.reg 2 [oQ 9 (.bin .lss T8 T7)] [0,1,7,8,9])
(.seq
(.cond T9
.skip
(.exit 0))
(.seq
(.block 1
(.seq
(.reg 3 [oM 10 T8,oM 5 T10] [0,1,5,7,8])
(.seq
(.reg 4 [oM 11 T1,oM 12 T0,oM 13 T5,oQ 14 (.ac4 1 T12 T13),oQ 15 (.load none T14),oQ 16 (.bin .eql T11 T15)] [0,1,5,7,8,16])
(.cond T16
(.seq
(.reg 5 [oM 17 T5,oM 4 T17] [4])
.ret)
.skip))))
(.reg 6 [oQ 18 (.bin .add T8 (cI 1)),oM 8 T18] [0,1,7,8])))))))
(.seq
(.reg 7 [oM 4 (cI (-1))] [4])
.ret)))
theorem fok218:FOK Tryz.prog 218 (19,ic218,[(.t 4)]):=ae6 [] Tryz.func218
def ic219:IC :=
(.seq
(.reg 0 [oK 1 (.ag6 T0),oM 2 (cI 0),oM 3 (cI 0),oM 4 (cB false)] [1,3])
(.seq
(.seq
(.reg 1 [oQ 10 (.aa6 0 T1),oQ 11 (.load none T10),oQ 12 (.bin .eql T11 (.c (zU 1)))] [1,3,12])
(.cond T12
(.seq
(.reg 2 [oQ 13 (.aa6 6 T1),oQ 14 (.load none T13),oQ 15 (.len 0 T14),oQ 16 (.bin .eql T15 (cI 0)),oM 17 T16,gQ 18 17 true (.aa6 1 T1),gQ 19 17 true (.load (some 5) T18),gK 20 17 true (.call 84 [T19]),oQ 21 (.pick T17 T20 (cB false)),oM 2 (cI 1),oM 3 (cI 0),oM 4 T21] [2,3,4])
.ret)
.skip))
(.seq
(.ap8 3 [oQ 22 (.aa6 0 T1),oQ 23 (.load none T22),oQ 24 (.bin .gtr T23 (.c (zU 1))),oM 25 T24,gQ 26 25 true (.aa6 0 T1),gQ 27 25 true (.load none T26),gQ 28 25 true (.bin .leq T27 (.c (zU 7))),oQ 29 (.pick T25 T28 (cB false)),oM 30 T29,gQ 31 30 true (.aa6 1 T1),gQ 32 30 true (.load (some 5) T31),gQ 33 30 true (.bld [(.str []),(zU 0),(zI 0),(.str []),(.str [])] []),gQ 34 30 true (.eqs [2,1,1,2,2] true false T32 T33),oQ 35 (.pick T30 T34 (cB false)),oM 36 T35,gQ 37 36 true (.aa6 6 T1),gQ 38 36 true (.load none T37),gQ 39 36 true (.len 0 T38),gQ 40 36 true (.bin .geq T39 (cI 2)),oQ 41 (.pick T36 T40 (cB false)),oM 42 T41,gQ 43 42 true (.aa6 6 T1),gQ 44 42 true (.load none T43),gQ 45 42 true (.len 0 T44),gQ 46 42 true (.aa6 0 T1),gQ 47 42 true (.load none T46),gQ 48 42 true (.cz9 8 2 (.g 2) T47),gQ 49 42 true (.aa6 1 T48),gQ 50 42 true (.load none T49),gQ 51 42 true (.bin .leq T45 T50),oQ 52 (.pick T42 T51 (cB false)),oM 4 T52] false [1,3,4])
(.seq
(.reg 4 [oM 2 (cI 1)] [1,2,3,4])
(.seq
(.seq
(.reg 5 [oQ 53 (.aa6 6 T1),oQ 54 (.load none T53),oQ 55 (.len 0 T54),oM 56 (cI 0)] [2,3,4,54,55,56])
(.block 0
(.loop
(.seq
(.reg 6 [oQ 57 (.bin .lss T56 T55)] [2,3,4,54,55,56,57])
(.seq
(.cond T57
.skip
(.exit 0))
(.seq
(.block 1
(.seq
(.reg 7 [oQ 58 (.ac4 7 T54 T56),oQ 59 (.load (some 7) T58),oK 6 (.alloc [(zU 0),(.str []),(zU 0),(zI 0),(.str []),(.str []),.aa1]),oN (.store 7 T6 T59)] [2,3,4,6,54,55,56])
(.seq
(.seq
(.reg 8 [oM 60 T4,oQ 61 (.not T60)] [2,3,4,6,54,55,56,61])
(.cond T61
(.exit 0)
.skip))
(.seq
(.reg 9 [oQ 63 (.load (some 7) T6),oK 64 (.call 219 [T63]),oM 62 T64,oQ 65 (.ext 0 T62),oQ 66 (.ext 1 T62),oQ 67 (.ext 2 T62),oM 7 T65,oM 8 T66,oM 9 T67] [2,3,7,8,9,54,55,56])
(.reg 10 [oM 68 T2,oM 69 T7,oQ 70 (.bin .add T68 T69),oM 71 T3,oM 72 T8,oQ 73 (.mm true T71 T72),oM 74 T9,oM 2 T70,oM 3 T73,oM 4 T74] [2,3,4,54,55,56])))))
(.reg 11 [oQ 75 (.bin .add T56 (cI 1)),oM 56 T75] [2,3,4,54,55,56])))))))
(.seq
(.reg 12 [oM 76 T2,oM 77 T3,oQ 78 (.bin .add T77 (cI 1)),oM 79 T4,oM 2 T76,oM 3 T78,oM 4 T79] [2,3,4])
.ret))))))
theorem fok219:FOK Tryz.prog 219 (80,ic219,[(.t 2),(.t 3),(.t 4)]):=ae6 [1000001] Tryz.func219
def ic220:IC :=
(.seq
(.reg 0 [oK 2 (.ag6 T0),oK 3 (.ag6 T1),oM 4 (cB false)] [2,3])
(.seq
(.ap8 1 [oQ 5 (.aa6 0 T2),oQ 6 (.load none T5),oQ 7 (.ak6 T6),oQ 8 (.aa6 0 T7),oQ 9 (.load none T8),oQ 10 (.aa6 1 T3),oQ 11 (.load (some 5) T10),oK 12 (.af5 196 [T9,T11]),oQ 13 (.mkf 258 [] [T2]),oK 14 (.af5 99 [T12,T13]),oM 4 T14] false [4])
.ret))
theorem fok220:FOK Tryz.prog 220 (15,ic220,[(.t 4)]):=ae6 ([1000002,1000003]++[99,196]) Tryz.func220 (by kernel_rfl) (by kernel_rfl) (by kernel_rfl) (by kernel_rfl)
def ic221:IC :=
(.seq
(.reg 0 [oK 2 (.ag6 T0),oK 3 (.ag6 T1),oM 4 (cB false)] [2,3])
(.seq
(.reg 1 [oQ 5 (.aa6 6 T3),oQ 6 (.load none T5),oQ 7 (.mkf 259 [] [T2]),oK 8 (.call 247 [T6,T7]),oQ 9 (.not T8),oM 4 T9] [4])
.ret))
theorem fok221:FOK Tryz.prog 221 (10,ic221,[(.t 4)]):=ae6 [1000002,1000003] Tryz.func221
def ic222:IC :=
(.seq
(.reg 0 [oK 2 (.ag6 T0),oK 3 (.ag6 T1),oM 4 (cB false)] [2,3])
(.seq
(.reg 1 [oQ 5 (.aa6 6 T3),oQ 6 (.load none T5),oQ 7 (.load (some 2) T2),oQ 8 (.mkf 160 [T7] []),oK 9 (.call 247 [T6,T8]),oM 4 T9] [4])
.ret))
theorem fok222:FOK Tryz.prog 222 (10,ic222,[(.t 4)]):=ae6 [1000002,1000003] Tryz.func222
def ic223:IC :=
(.seq
(.reg 0 [oK 2 (.ag6 T0),oK 3 (.ag6 T1),oM 4 (cB false)] [2,3])
(.seq
(.seq
(.ap8 1 [oQ 5 (.load (some 2) T2),oQ 6 (.aa6 6 T3),oQ 7 (.load none T6),oQ 8 (.ac4 7 T7 (cI 1)),oQ 9 (.load (some 7) T8),oK 10 (.call 160 [T5,T9])] false [2,3,10])
(.cond T10
(.seq
(.ap8 2 [oQ 11 (.load (some 2) T2),oQ 12 (.aa6 6 T3),oQ 13 (.load none T12),oQ 14 (.ac4 7 T13 (cI 0)),oQ 15 (.load (some 7) T14),oK 16 (.call 160 [T11,T15]),oM 4 T16] false [4])
.ret)
.skip))
(.seq
(.ap8 3 [oQ 17 (.aa6 6 T3),oQ 18 (.load none T17),oQ 19 (.len 0 T18),oQ 20 (.bin .lss T19 (cI 3)),oM 21 T20,gQ 22 21 false (.load (some 2) T2),gQ 23 21 false (.aa6 6 T3),gQ 24 21 false (.load none T23),gQ 25 21 false (.ac4 7 T24 (cI 2)),gQ 26 21 false (.load (some 7) T25),gK 27 21 false (.call 160 [T22,T26]),oQ 28 (.pick T21 (cB true) T27),oM 4 T28] false [4])
.ret)))
theorem fok223:FOK Tryz.prog 223 (29,ic223,[(.t 4)]):=ae6 [1000002,1000003] Tryz.func223
def ic224:IC :=
(.seq
(.reg 0 [oK 2 (.ag6 T0),oK 3 (.ag6 T1),oM 4 (cB false)] [2,3])
(.seq
(.seq
(.ap8 1 [oQ 5 (.load (some 2) T2),oQ 6 (.aa6 6 T3),oQ 7 (.load none T6),oQ 8 (.ac4 7 T7 (cI 1)),oQ 9 (.load (some 7) T8),oK 10 (.call 160 [T5,T9])] false [2,3,10])
(.cond T10
(.seq
(.ap8 2 [oQ 11 (.aa6 6 T3),oQ 12 (.load none T11),oQ 13 (.len 0 T12),oQ 14 (.bin .eql T13 (cI 3)),oM 15 T14,gQ 16 15 true (.load (some 2) T2),gQ 17 15 true (.aa6 6 T3),gQ 18 15 true (.load none T17),gQ 19 15 true (.ac4 7 T18 (cI 2)),gQ 20 15 true (.load (some 7) T19),gK 21 15 true (.call 160 [T16,T20]),oQ 22 (.pick T15 T21 (cB false)),oM 4 T22] false [4])
.ret)
.skip))
(.seq
(.ap8 3 [oQ 23 (.load (some 2) T2),oQ 24 (.aa6 6 T3),oQ 25 (.load none T24),oQ 26 (.ac4 7 T25 (cI 0)),oQ 27 (.load (some 7) T26),oK 28 (.call 160 [T23,T27]),oM 4 T28] false [4])
.ret)))
theorem fok224:FOK Tryz.prog 224 (29,ic224,[(.t 4)]):=ae6 [1000002,1000003] Tryz.func224
def ic225:IC :=
(.seq
(.reg 0 [oK 2 (.ag6 T0),oK 3 (.ag6 T1),oM 4 (cB false)] [2,3])
(.seq
(.reg 1 [oQ 5 (.load (some 2) T2),oQ 6 (.mkf 261 [] [T3]),oK 7 (.call 260 [T5,T6]),oM 4 T7] [4])
.ret))
theorem fok225:FOK Tryz.prog 225 (8,ic225,[(.t 4)]):=ae6 [1000002,1000003] Tryz.func225
def ic226:IC :=
(.seq
(.reg 0 [oK 2 (.ag6 T0),oK 3 (.ag6 T1),oM 4 (cB false)] [2,3])
(.seq
(.reg 1 [oQ 5 (.load (some 2) T2),oQ 6 (.mkf 262 [] [T3]),oK 7 (.call 260 [T5,T6]),oM 4 T7] [4])
.ret))
theorem fok226:FOK Tryz.prog 226 (8,ic226,[(.t 4)]):=ae6 [1000002,1000003] Tryz.func226
def ic227:IC :=
(.seq
(.reg 0 [oM 4 (cB false)] [0,1])
(.seq
(.reg 1 [oM 5 T0,oQ 6 (.ar9 (.pointer 178) true T5),oM 7 T6,gQ 8 7 true (.mov T1),gQ 9 7 true (.bin .geq T8 (cI 0)),oQ 10 (.pick T7 T9 (cB false)),oM 11 T10,gQ 12 11 true (.mov T1),gQ 13 11 true (.mov T0),gQ 14 11 true (.ak6 T13),gQ 15 11 true (.aa6 0 T14),gQ 16 11 true (.load none T15),gQ 17 11 true (.len 0 T16),gQ 18 11 true (.bin .lss T12 T17),oQ 19 (.pick T11 T18 (cB false)),oM 4 T19] [4])
.ret))
theorem fok227:FOK Tryz.prog 227 (20,ic227,[(.t 4)]):=ae6 [] Tryz.func227
def ic228:IC :=
(.seq
(.reg 0 [oK 4 (.ag6 T0),oM 6 (cB false)] [1,2,3,4])
(.seq
(.ap8 1 [oM 7 T1,oQ 8 (.load none T2),oQ 9 (.bin .neq T7 T8),oM 10 T9,gQ 11 10 true (.load (some 15) T4),gQ 12 10 true (.load none T3),gQ 13 10 true (.ak6 T12),gQ 14 10 true (.aa6 0 T13),gQ 15 10 true (.load none T14),gQ 16 10 true (.load none T2),gQ 17 10 true (.ac4 15 T15 T16),gQ 18 10 true (.load (some 15) T17),gK 19 10 true (.call 70 [T11,T18]),oQ 20 (.pick T10 T19 (cB false)),oM 6 T20] false [6])
.ret))
theorem fok228:FOK Tryz.prog 228 (21,ic228,[(.t 6)]):=ae6 [1000004] Tryz.func228
end Go.Id.Tryz
