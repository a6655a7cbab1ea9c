/- The compiled codes of functions,written by a program out of the given form. Conditions: none. -/
import Derived.Test.YtebfbbjghhagbaaGreatDoorFwZb
import Derived.Test.YtebfbbjghhagbaaGreatDoorProg
set_option linter.all false
namespace Go.Id.Tryz
open Go Go.Id Go.Proofs
def jp7:List Nat:=List.range 333
def ic234:IC :=
(.seq
(.reg 0 [oK 1 (.ag6 T0),oM 2 (.c .ab9)] [1])
(.seq
(.reg 1 [oQ 3 (.mkf 275 [] [T1]),oM 2 T3] [2])
.ret))
theorem fok234:FOK Tryz.prog 234 (4,ic234,[(.t 2)]):=ae6 [1000001] Tryz.func234
def ic235:IC :=
(.seq
(.reg 0 [oM 2 (cI 0)] [0])
(.seq
(.reg 1 [oM 3 (cI 0)] [0,3])
(.seq
(.seq
(.reg 2 [oM 6 T0,oQ 7 (.len 0 T6),oM 8 (cI 0)] [3,6,7,8])
(.block 0
(.loop
(.seq
(.reg 3 [oQ 9 (.bin .lss T8 T7)] [3,6,7,8,9])
(.seq
(.cond T9
.skip
(.exit 0))
(.seq
(.block 1
(.seq
(.reg 4 [oQ 10 (.ac4 1 T6 T8),oQ 11 (.load none T10),oM 5 T11] [3,5,6,7,8])
(.seq
(.reg 5 [oM 12 T5,oM 13 T3,oQ 14 (.bin .neq T12 T13)] [3,5,6,7,8,14])
(.cond T14
(.seq
(.reg 6 [oM 15 T5,oM 2 T15] [2])
.ret)
.skip))))
(.reg 7 [oQ 16 (.bin .add T8 (cI 1)),oM 8 T16] [3,6,7,8])))))))
(.seq
(.reg 8 [oM 17 T3,oM 2 T17] [2])
.ret))))
theorem fok235:FOK Tryz.prog 235 (18,ic235,[(.t 2)]):=ae6 [] Tryz.func235
def ic236:IC :=
(.seq
(.reg 0 [oM 4 (cI 0)] [0,1])
(.seq
(.reg 1 [oM 7 T0,oK 8 (.call 278 [T7]),oM 5 T8] [0,1,5])
(.seq
(.reg 2 [oM 9 T1,oK 10 (.call 278 [T9]),oM 6 T10] [0,1,5,6])
(.seq
(.seq
(.reg 3 [oM 11 T5] [0,1,6,11])
(.cond T11
(.seq
(.seq
(.reg 4 [oM 12 T6] [12])
(.cond T12
(.seq
(.reg 5 [oM 4 (cI 0)] [4])
.ret)
.skip))
(.seq
(.reg 6 [oM 4 (cI (-1))] [4])
.ret))
.skip))
(.seq
(.seq
(.reg 7 [oM 13 T6] [0,1,13])
(.cond T13
(.seq
(.reg 8 [oM 4 (cI 1)] [4])
.ret)
.skip))
(.seq
(.seq
(.reg 9 [oM 14 T0,oM 15 T1,oQ 16 (.bin .lss T14 T15)] [0,1,16])
(.cond T16
(.seq
(.reg 10 [oM 4 (cI (-1))] [4])
.ret)
.skip))
(.seq
(.seq
(.reg 11 [oM 17 T0,oM 18 T1,oQ 19 (.bin .gtr T17 T18)] [19])
(.cond T19
(.seq
(.reg 12 [oM 4 (cI 1)] [4])
.ret)
.skip))
(.seq
(.reg 13 [oM 4 (cI 0)] [4])
.ret))))))))
theorem fok236:FOK Tryz.prog 236 (20,ic236,[(.t 4)]):=ae6 [] Tryz.func236
def ic237:IC :=
(.seq
(.reg 0 [oM 4 (cI 0)] [0,1])
(.seq
(.reg 1 [oM 7 T0,oK 8 (.call 279 [T7]),oM 5 T8] [0,1,5])
(.seq
(.reg 2 [oM 9 T1,oK 10 (.call 279 [T9]),oM 6 T10] [0,1,5,6])
(.seq
(.seq
(.reg 3 [oM 11 T5] [0,1,6,11])
(.cond T11
(.seq
(.seq
(.reg 4 [oM 12 T6] [12])
(.cond T12
(.seq
(.reg 5 [oM 4 (cI 0)] [4])
.ret)
.skip))
(.seq
(.reg 6 [oM 4 (cI (-1))] [4])
.ret))
.skip))
(.seq
(.seq
(.reg 7 [oM 13 T6] [0,1,13])
(.cond T13
(.seq
(.reg 8 [oM 4 (cI 1)] [4])
.ret)
.skip))
(.seq
(.seq
(.reg 9 [oM 14 T0,oM 15 T1,oQ 16 (.bin .lss T14 T15)] [0,1,16])
(.cond T16
(.seq
(.reg 10 [oM 4 (cI (-1))] [4])
.ret)
.skip))
(.seq
(.seq
(.reg 11 [oM 17 T0,oM 18 T1,oQ 19 (.bin .gtr T17 T18)] [19])
(.cond T19
(.seq
(.reg 12 [oM 4 (cI 1)] [4])
.ret)
.skip))
(.seq
(.reg 13 [oM 4 (cI 0)] [4])
.ret))))))))
theorem fok237:FOK Tryz.prog 237 (20,ic237,[(.t 4)]):=ae6 [] Tryz.func237
def ic238:IC :=
(.seq
(.reg 0 [oK 2 (.ag6 T0),oK 3 (.ag6 T1),oM 4 (cB false)] [2,3])
(.seq
(.seq
(.reg 1 [oQ 6 (.aa6 1 T2),oQ 7 (.load none T6),oQ 8 (.bin .and T7 (.c (zU 7))),oQ 9 (.bin .eql T8 (.c (zU 0))),oM 10 T9,gQ 11 10 false (.aa6 1 T3),gQ 12 10 false (.load none T11),gQ 13 10 false (.bin .and T12 (.c (zU 7))),gQ 14 10 false (.bin .eql T13 (.c (zU 0))),oQ 15 (.pick T10 (cB true) T14)] [2,3,15])
(.cond T15
(.seq
(.reg 2 [oM 4 (cB true)] [4])
.ret)
.skip))
(.seq
(.reg 3 [oQ 16 (.aa6 2 T2),oQ 17 (.load (some 3) T16),oQ 18 (.aa6 2 T3),oQ 19 (.load (some 3) T18),oK 20 (.call 68 [T17,T19]),oM 5 T20] [2,3,5])
(.seq
(.seq
(.reg 4 [oM 21 T5,oQ 22 (.bin .eql T21 (cI 0))] [2,3,5,22])
(.cond T22
(.seq
(.reg 5 [oQ 23 (.aa6 1 T2),oQ 24 (.load none T23),oQ 25 (.aa6 1 T3),oQ 26 (.load none T25),oQ 27 (.bin .and T24 T26),oQ 28 (.bin .and T27 (.c (zU 7))),oQ 29 (.bin .neq T28 (.c (zU 0))),oM 4 T29] [4])
.ret)
.skip))
(.seq
(.ap8 6 [oQ 30 (.aa6 1 T2),oQ 31 (.load none T30),oM 32 T5,oQ 33 (.neg T32),oK 34 (.af5 280 [T33]),oQ 35 (.bin .and T31 T34),oQ 36 (.bin .neq T35 (.c (zU 0))),oM 37 T36,gQ 38 37 false (.aa6 1 T3),gQ 39 37 false (.load none T38),gQ 40 37 false (.mov T5),gK 41 37 false (.af5 280 [T40]),gQ 42 37 false (.bin .and T39 T41),gQ 43 37 false (.bin .neq T42 (.c (zU 0))),oQ 44 (.pick T37 (cB true) T43),oM 4 T44] false [4])
.ret)))))
theorem fok238:FOK Tryz.prog 238 (45,ic238,[(.t 4)]):=ae6 ([1000002,1000003]++[280]) Tryz.func238 (by kernel_rfl) (by kernel_rfl) (by kernel_rfl) (by kernel_rfl)
def ic239:IC :=
(.seq
(.reg 0 [oK 3 (.ag6 T1),oK 4 (.alloc [(.str []),(zU 0),(zI 0),(.str []),(.str [])])] [0,3,4])
(.seq
(.reg 1 [oM 5 T0,oQ 6 (.load (some 3) T3),oQ 7 (.bld [(.str []),(zU 0),(zI 0),(.str []),(.str [])] [⟨0,⟨1,T5⟩⟩,⟨1,⟨1,(.c (zU 2))⟩⟩,⟨2,⟨3,T6⟩⟩]),oN (.store 5 T4 T7)] [4])
.ret))
theorem fok239:FOK Tryz.prog 239 (8,ic239,[(.cell (some 5) 4)]):=ae6 [1000003] Tryz.func239
def ic240:IC :=
(.seq
(.reg 0 [oK 3 (.ag6 T0),oM 5 (cB false)] [2,3])
(.seq
(.reg 1 [oQ 6 (.load (some 15) T3),oQ 7 (.load (some 5) T2),oK 8 (.call 241 [T6,T7]),oM 5 T8] [5])
.ret))
theorem fok240:FOK Tryz.prog 240 (9,ic240,[(.t 5)]):=ae6 [1000003] Tryz.func240
def ic241:IC :=
(.seq
(.reg 0 [oK 2 (.ag6 T0),oK 3 (.ag6 T1),oM 4 (cB false)] [2,3])
(.seq
(.seq
(.reg 1 [oQ 5 (.load (some 15) T2),oQ 6 (.load (some 5) T3),oK 7 (.call 127 [T5,T6]),oM 8 T7,gQ 9 8 false (.aa6 6 T2),gQ 10 8 false (.load none T9),gQ 11 8 false (.mkf 281 [] [T3]),gK 12 8 false (.call 125 [T10,T11]),oQ 13 (.pick T8 (cB true) T12)] [2,3,13])
(.cond T13
(.seq
(.reg 2 [oM 4 (cB true)] [4])
.ret)
.skip))
(.seq
(.reg 3 [oQ 14 (.aa6 1 T3),oQ 15 (.load none T14),oQ 16 (.bin .eql T15 (.c (zU 0))),oM 17 T16,gQ 18 17 true (.aa6 14 T2),gQ 19 17 true (.load none T18),gQ 20 17 true (.aa6 0 T3),gQ 21 17 true (.load none T20),gK 22 17 true (.call 282 [T19,T21]),oQ 23 (.pick T17 T22 (cB false)),oM 4 T23] [4])
.ret)))
theorem fok241:FOK Tryz.prog 241 (24,ic241,[(.t 4)]):=ae6 [1000002,1000003] Tryz.func241
def ic242:IC :=
(.seq
(.reg 0 [oK 0 (.alloc [(.str []),(.str []),(.str []),(.str []),(.str [])])] [0])
(.seq
(.reg 1 [oQ 1 (.bld [(.str []),(.str []),(.str []),(.str []),(.str [])] [⟨1,⟨1,(.c (.str [110,111,97,114,99,104]))⟩⟩,⟨2,⟨1,(.c (.str [120,56,54,95,54,52]))⟩⟩,⟨3,⟨1,(.c (.str [105,54,56,54]))⟩⟩,⟨4,⟨1,(.c (.str [97,97,114,99,104,54,52]))⟩⟩]),oN (.store 5 T0 T1)] [0])
.ret))
theorem fok242:FOK Tryz.prog 242 (2,ic242,[(.cell (some 5) 0)]):=ae6 [] Tryz.func242
def ic243:IC :=
(.seq
(.reg 0 [oK 2 (.ag6 T0),oM 3 (cB false)] [1,2])
(.seq
(.reg 1 [oQ 4 (.load none T1),oQ 5 (.load (some 5) T2),oK 6 (.ao5 T4 [T5]),oQ 7 (.not T6),oM 3 T7] [3])
.ret))
theorem fok243:FOK Tryz.prog 243 (8,ic243,[(.t 3)]):=ae6 [1000002] Tryz.func243
def ic244:IC :=
(.seq
(.reg 0 [oM 4 (cB false)] [0,1])
(.seq
(.reg 1 [oM 5 T0,oM 6 T1,oK 7 (.call 283 [T5,T6]),oQ 8 (.bin .geq T7 (cI 0)),oM 4 T8] [4])
.ret))
theorem fok244:FOK Tryz.prog 244 (9,ic244,[(.t 4)]):=ae6 [] Tryz.func244
def ic245:IC :=
(.seq
(.reg 0 [oM 3 (cB false)] [0,1])
(.seq
(.reg 1 [oQ 4 (.load none T1),oM 5 T0,oK 6 (.ao5 T4 [T5]),oQ 7 (.not T6),oM 3 T7] [3])
.ret))
theorem fok245:FOK Tryz.prog 245 (8,ic245,[(.t 3)]):=ae6 [] Tryz.func245
def ic246:IC :=
(.reg 0 [oM 3 T0,oQ 4 (.aa6 7 T1),oQ 5 (.load none T4),oK 6 (.ao5 T3 [(.c (zU 1)),T5]),oM 7 T6,gQ 8 7 true (.mov T0),gQ 9 7 true (.aa6 8 T1),gQ 10 7 true (.load none T9),gK 11 7 true (.ao5 T8 [(.c (zU 2)),T10]),oQ 12 (.pick T7 T11 (cB false)),oM 13 T12,gQ 14 13 true (.mov T0),gQ 15 13 true (.aa6 10 T1),gQ 16 13 true (.load none T15),gK 17 13 true (.ao5 T14 [(.c (zU 1)),T16]),oQ 18 (.pick T13 T17 (cB false)),oM 19 T18,gQ 20 19 true (.mov T0),gQ 21 19 true (.aa6 11 T1),gQ 22 19 true (.load none T21),gK 23 19 true (.ao5 T20 [(.c (zU 3)),T22]),oQ 24 (.pick T19 T23 (cB false)),oM 25 T24,gQ 26 25 true (.mov T0),gQ 27 25 true (.aa6 12 T1),gQ 28 25 true (.load none T27),gK 29 25 true (.ao5 T26 [(.c (zU 1)),T28]),oQ 30 (.pick T25 T29 (cB false)),oM 31 T30,gQ 32 31 true (.mov T0),gQ 33 31 true (.aa6 13 T1),gQ 34 31 true (.load none T33),gK 35 31 true (.ao5 T32 [(.c (zU 3)),T34]),oQ 36 (.pick T31 T35 (cB false))] [])
theorem fok246:FOK Tryz.prog 246 (37,ic246,[]):=ae6 [] Tryz.func246
def ic247:IC :=
(.seq
(.reg 0 [oM 4 (cB false)] [0,1])
(.seq
(.reg 1 [oM 5 T0,oM 6 T1,oK 7 (.call 284 [T5,T6]),oQ 8 (.bin .geq T7 (cI 0)),oM 4 T8] [4])
.ret))
theorem fok247:FOK Tryz.prog 247 (9,ic247,[(.t 4)]):=ae6 [] Tryz.func247
def ic248:IC :=
(.seq
(.reg 0 [oK 2 (.ag6 T0),oM 3 (cB false)] [1,2])
(.seq
(.reg 1 [oQ 4 (.load none T1),oQ 5 (.load (some 7) T2),oK 6 (.ao5 T4 [T5]),oQ 7 (.not T6),oM 3 T7] [3])
.ret))
theorem fok248:FOK Tryz.prog 248 (8,ic248,[(.t 3)]):=ae6 [1000002] Tryz.func248
def ic249:IC :=
(.seq
(.reg 0 [oK 1 (.ag6 T0),oM 2 (cI 0)] [1,2])
(.seq
(.reg 1 [oK 3 (.alloc [(zI 0)]),oN (.store 1 T3 (cI 0))] [1,2,3])
(.seq
(.seq
(.reg 2 [oQ 4 (.load (some 7) T1),oK 5 (.call 251 [T4])] [2,3,5])
(.block 0
(.bt1 T5 [6,7]
.skip
(.block 1
(.reg 3 [oQ 8 (.load none T3),oQ 9 (.bin .add T8 (cI 1)),oN (.store 1 T3 T9)] [])))))
(.seq
(.reg 4 [oQ 10 (.load none T3),oM 2 T10] [2])
.ret))))
theorem fok249:FOK Tryz.prog 249 (11,ic249,[(.t 2)]):=ae6 [1000001] Tryz.func249
def ic250:IC :=
(.seq
(.reg 0 [oK 1 (.ag6 T0),oM 2 (cI 0)] [1])
(.seq
(.seq
(.reg 1 [oQ 6 (.aa6 0 T1),oQ 7 (.load none T6),oQ 8 (.bin .eql T7 (.c (zU 1)))] [1,8])
(.cond T8
(.seq
(.reg 2 [oM 2 (cI 0)] [2])
.ret)
.skip))
(.seq
(.reg 3 [oM 3 (cI 0)] [1,3])
(.seq
(.seq
(.reg 4 [oQ 9 (.aa6 6 T1),oQ 10 (.load none T9),oQ 11 (.len 0 T10),oM 12 (cI 0)] [3,10,11,12])
(.block 0
(.loop
(.seq
(.reg 5 [oQ 13 (.bin .lss T12 T11)] [3,10,11,12,13])
(.seq
(.cond T13
.skip
(.exit 0))
(.seq
(.block 1
(.seq
(.reg 6 [oQ 14 (.ac4 7 T10 T12),oQ 15 (.load (some 7) T14),oK 5 (.alloc [(zU 0),(.str []),(zU 0),(zI 0),(.str []),(.str []),.aa1]),oN (.store 7 T5 T15)] [3,5,10,11,12])
(.reg 7 [oM 16 T3,oQ 17 (.load (some 7) T5),oK 18 (.call 250 [T17]),oQ 19 (.mm true T16 T18),oM 3 T19] [3,10,11,12])))
(.reg 8 [oQ 20 (.bin .add T12 (cI 1)),oM 12 T20] [3,10,11,12])))))))
(.seq
(.reg 9 [oM 21 T3,oQ 22 (.bin .add T21 (cI 1)),oM 2 T22] [2])
.ret)))))
theorem fok250:FOK Tryz.prog 250 (23,ic250,[(.t 2)]):=ae6 [1000001] Tryz.func250
def ic251:IC :=
(.seq
(.reg 0 [oK 1 (.ag6 T0),oM 2 (.c .ab9)] [1])
(.seq
(.reg 1 [oK 3 (.alloc [.ab9])] [1,3])
(.seq
(.reg 2 [oQ 4 (.mkf 285 [] [T3]),oN (.store 1 T3 T4)] [1,3])
(.seq
(.reg 3 [oQ 5 (.mkf 286 [] [T3,T1]),oM 2 T5] [2])
.ret))))
theorem fok251:FOK Tryz.prog 251 (6,ic251,[(.t 2)]):=ae6 [1000001] Tryz.func251
def ic252:IC :=
(.seq
(.reg 0 [oK 2 (.alloc [(zI 0),(zI 0),(.bool false),(zU 0)])] [0,2])
(.seq
(.reg 1 [oQ 4 (.bld [(zI 0),(zI 0),(.bool false),(zU 0)] [⟨0,⟨1,(cI 0)⟩⟩,⟨1,⟨1,(cI 0)⟩⟩,⟨2,⟨1,(cB true)⟩⟩,⟨3,⟨1,(.c (zU 3))⟩⟩]),oQ 5 (.bld [(zI 0),(zI 0),(.bool false),(zU 0)] [⟨0,⟨1,(cI 2)⟩⟩,⟨1,⟨1,(cI 24)⟩⟩,⟨2,⟨1,(cB true)⟩⟩,⟨3,⟨1,(.c (zU 3))⟩⟩]),oQ 6 (.bld [(zI 0),(zI 0),(.bool false),(zU 0)] [⟨0,⟨1,(cI 2)⟩⟩,⟨1,⟨1,(cI 24)⟩⟩,⟨2,⟨1,(cB true)⟩⟩,⟨3,⟨1,(.c (zU 3))⟩⟩]),oQ 7 (.bld [(zI 0),(zI 0),(.bool false),(zU 0)] [⟨0,⟨1,(cI 2)⟩⟩,⟨1,⟨1,(cI 3)⟩⟩,⟨2,⟨1,(cB false)⟩⟩,⟨3,⟨1,(.c (zU 1))⟩⟩]),oQ 8 (.bld [(zI 0),(zI 0),(.bool false),(zU 0)] [⟨0,⟨1,(cI 2)⟩⟩,⟨1,⟨1,(cI 3)⟩⟩,⟨2,⟨1,(cB false)⟩⟩,⟨3,⟨1,(.c (zU 2))⟩⟩]),oQ 9 (.bld [(zI 0),(zI 0),(.bool false),(zU 0)] [⟨0,⟨1,(cI 2)⟩⟩,⟨1,⟨1,(cI 24)⟩⟩,⟨2,⟨1,(cB true)⟩⟩,⟨3,⟨1,(.c (zU 3))⟩⟩]),oQ 10 (.bld [(zI 0),(zI 0),(.bool false),(zU 0)] [⟨0,⟨1,(cI 2)⟩⟩,⟨1,⟨1,(cI 2)⟩⟩,⟨2,⟨1,(cB true)⟩⟩,⟨3,⟨1,(.c (zU 3))⟩⟩]),oQ 11 (.bld [(zI 0),(zI 0),(.bool false),(zU 0),(zI 0),(zI 0),(.bool false),(zU 0),(zI 0),(zI 0),(.bool false),(zU 0),(zI 0),(zI 0),(.bool false),(zU 0),(zI 0),(zI 0),(.bool false),(zU 0),(zI 0),(zI 0),(.bool false),(zU 0),(zI 0),(zI 0),(.bool false),(zU 0),(zI 0),(zI 0),(.bool false),(zU 0)] [⟨4,⟨4,T4⟩⟩,⟨8,⟨4,T5⟩⟩,⟨12,⟨4,T6⟩⟩,⟨16,⟨4,T7⟩⟩,⟨20,⟨4,T8⟩⟩,⟨24,⟨4,T9⟩⟩,⟨28,⟨4,T10⟩⟩]),oK 3 (.alloc [(zI 0),(zI 0),(.bool false),(zU 0),(zI 0),(zI 0),(.bool false),(zU 0),(zI 0),(zI 0),(.bool false),(zU 0),(zI 0),(zI 0),(.bool false),(zU 0),(zI 0),(zI 0),(.bool false),(zU 0),(zI 0),(zI 0),(.bool false),(zU 0),(zI 0),(zI 0),(.bool false),(zU 0),(zI 0),(zI 0),(.bool false),(zU 0)]),oN (.store 32 T3 T11)] [0,2,3])
(.seq
(.seq
(.reg 2 [oM 12 T0,oQ 13 (.conv .i64 T12),oQ 14 (.bin .geq T13 (cI 8))] [0,2,3,14])
(.cond T14
(.seq
(.reg 3 [oQ 15 (.bld [(zI 0),(zI 0),(.bool false),(zU 0)] []),oN (.store 4 T2 T15)] [2])
.ret)
.skip))
(.seq
(.reg 4 [oM 16 T0,oQ 17 (.cz9 8 4 T3 T16),oQ 18 (.load (some 4) T17),oN (.store 4 T2 T18)] [2])
.ret))))
theorem fok252:FOK Tryz.prog 252 (19,ic252,[(.cell (some 4) 2)]):=ae6 [] Tryz.func252
def ic253:IC :=
(.seq
(.reg 0 [oK 1 (.ag6 T0),oM 2 (cI 0)] [1])
(.seq
(.reg 1 [oM 3 (cI 1)] [1,3])
(.seq
(.seq
(.reg 2 [oM 4 (cI 0)] [1,3,4])
(.block 0
(.loop
(.seq
(.seq
(.reg 3 [oM 5 T4,oQ 6 (.aa6 6 T1),oQ 7 (.load none T6),oQ 8 (.len 0 T7),oQ 9 (.bin .lss T5 T8)] [1,3,4,9])
(.cond T9
.skip
(.exit 0)))
(.seq
(.block 1
(.reg 5 [oM 12 T3,oQ 13 (.aa6 6 T1),oQ 14 (.load none T13),oM 15 T4,oQ 16 (.ac4 7 T14 T15),oQ 17 (.load (some 7) T16),oK 18 (.call 253 [T17]),oQ 19 (.bin .add T12 T18),oM 3 T19] [1,3,4]))
(.reg 4 [oM 10 T4,oQ 11 (.bin .add T10 (cI 1)),oM 4 T11] [1,3,4]))))))
(.seq
(.reg 6 [oM 20 T3,oM 2 T20] [2])
.ret))))
theorem fok253:FOK Tryz.prog 253 (21,ic253,[(.t 2)]):=ae6 [1000001] Tryz.func253
def ic254:IC :=
(.seq
(.reg 0 [oK 1 (.ag6 T0),oM 2 (cI 0)] [1])
(.seq
(.seq
(.reg 1 [oQ 6 (.aa6 0 T1),oQ 7 (.load none T6),oQ 8 (.bin .eql T7 (.c (zU 1)))] [1,8])
(.cond T8
(.seq
(.reg 2 [oM 2 (cI 0)] [2])
.ret)
.skip))
(.seq
(.reg 3 [oM 3 (cI 0)] [1,3])
(.seq
(.seq
(.reg 4 [oM 4 (cI 0)] [1,3,4])
(.block 0
(.loop
(.seq
(.seq
(.reg 5 [oM 9 T4,oQ 10 (.aa6 6 T1),oQ 11 (.load none T10),oQ 12 (.len 0 T11),oQ 13 (.bin .lss T9 T12)] [1,3,4,13])
(.cond T13
.skip
(.exit 0)))
(.seq
(.block 1
(.seq
(.reg 7 [oQ 16 (.aa6 6 T1),oQ 17 (.load none T16),oM 18 T4,oQ 19 (.ac4 7 T17 T18),oQ 20 (.load (some 7) T19),oK 21 (.call 254 [T20]),oM 5 T21] [1,3,4,5])
(.seq
(.reg 8 [oM 22 T5,oM 23 T3,oQ 24 (.bin .gtr T22 T23)] [1,3,4,5,24])
(.cond T24
(.reg 9 [oM 25 T5,oM 3 T25] [1,3,4])
.skip))))
(.reg 6 [oM 14 T4,oQ 15 (.bin .add T14 (cI 1)),oM 4 T15] [1,3,4]))))))
(.seq
(.reg 10 [oM 26 T3,oQ 27 (.bin .add T26 (cI 1)),oM 2 T27] [2])
.ret)))))
theorem fok254:FOK Tryz.prog 254 (28,ic254,[(.t 2)]):=ae6 [1000001] Tryz.func254
def ic255:IC :=
(.seq
(.reg 0 [oK 3 (.ag6 T0),oM 6 (cB false)] [1,2,3])
(.seq
(.reg 1 [oQ 10 (.aa6 6 T3),oQ 11 (.load none T10),oQ 12 (.len 0 T11),oM 7 T12] [1,2,3,7])
(.seq
(.reg 2 [oM 8 (cB false)] [1,2,3,7,8])
(.seq
(.seq
(.reg 3 [oQ 13 (.aa6 0 T3),oQ 14 (.load none T13)] [1,2,3,7,8,14])
(.block 0
(.seq
(.reg 4 [oQ 16 (.bin .eql T14 (.c (zU 1))),oM 15 T16] [1,2,3,7,8,14,15])
(.cond T15
(.seq
(.reg 5 [oM 17 T7,oQ 18 (.bin .eql T17 (cI 0)),oM 19 T18,gQ 20 19 true (.aa6 1 T3),gQ 21 19 true (.load (some 5) T20),gK 22 19 true (.call 93 [T21]),oQ 23 (.pick T19 T22 (cB false)),oM 6 T23] [6])
.ret)
(.seq
(.seq
(.reg 6 [oQ 25 (.bin .eql T14 (.c (zU 2))),oM 24 T25] [1,2,3,7,8,14,24])
(.cond T24
.skip
(.reg 7 [oQ 26 (.bin .eql T14 (.c (zU 3))),oM 24 T26] [1,2,3,7,8,14,24])))
(.cond T24
(.reg 8 [oM 27 T7,oQ 28 (.bin .geq T27 (cI 2)),oM 8 T28] [1,2,3,7,8])
(.seq
(.reg 9 [oQ 30 (.bin .eql T14 (.c (zU 6))),oM 29 T30] [1,2,3,7,8,14,29])
(.cond T29
(.seq
(.reg 10 [oM 31 T7,oQ 32 (.bin .geq T31 (cI 2)),oM 8 T32] [1,3,7,8])
(.reg 11 [oM 2 (cB true)] [1,2,3,7,8]))
(.seq
(.reg 12 [oQ 34 (.bin .eql T14 (.c (zU 7))),oM 33 T34] [1,2,3,7,8,14,33])
(.cond T33
(.seq
(.reg 13 [oM 35 T7,oQ 36 (.bin .eql T35 (cI 2)),oM 8 T36] [1,3,7,8])
(.reg 14 [oM 2 (cB true)] [1,2,3,7,8]))
(.seq
(.reg 15 [oQ 38 (.bin .eql T14 (.c (zU 4))),oM 37 T38] [1,2,3,7,8,14,37])
(.cond T37
(.reg 16 [oM 39 T7,oQ 40 (.bin .eql T39 (cI 2)),oM 41 T40,gQ 42 41 false (.mov T7),gQ 43 41 false (.bin .eql T42 (cI 3)),oQ 44 (.pick T41 (cB true) T43),oM 45 T44,gQ 46 45 true (.mov T2),gQ 47 45 true (.not T46),oQ 48 (.pick T45 T47 (cB false)),oM 49 T48,gQ 50 49 true (.mov T1),gQ 51 49 true (.bin .eql T50 (.c (zU 1))),oQ 52 (.pick T49 T51 (cB false)),oM 8 T52] [1,2,3,7,8])
(.seq
(.reg 17 [oQ 54 (.bin .eql T14 (.c (zU 5))),oM 53 T54] [1,2,3,7,8,53])
(.cond T53
(.reg 18 [oM 55 T7,oQ 56 (.bin .eql T55 (cI 2)),oM 57 T56,gQ 58 57 false (.mov T7),gQ 59 57 false (.bin .eql T58 (cI 3)),oQ 60 (.pick T57 (cB true) T59),oM 61 T60,gQ 62 61 true (.mov T2),gQ 63 61 true (.not T62),oQ 64 (.pick T61 T63 (cB false)),oM 65 T64,gQ 66 65 true (.mov T1),gQ 67 65 true (.bin .leq T66 (.c (zU 2))),oQ 68 (.pick T65 T67 (cB false)),oM 8 T68] [1,2,3,7,8])
.skip))))))))))))))
(.seq
(.seq
(.reg 19 [oM 69 T8,oQ 70 (.not T69),oM 71 T70,gQ 72 71 false (.aa6 1 T3),gQ 73 71 false (.load (some 5) T72),gQ 74 71 false (.bld [(.str []),(zU 0),(zI 0),(.str []),(.str [])] []),gQ 75 71 false (.eqs [2,1,1,2,2] true true T73 T74),oQ 76 (.pick T71 (cB true) T75)] [1,2,3,7,76])
(.cond T76
(.seq
(.reg 20 [oM 6 (cB false)] [6])
.ret)
.skip))
(.seq
(.seq
(.reg 21 [oM 9 (cI 0)] [1,2,3,7,9])
(.block 1
(.loop
(.seq
(.seq
(.reg 22 [oM 77 T9,oM 78 T7,oQ 79 (.bin .lss T77 T78)] [1,2,3,7,9,79])
(.cond T79
.skip
(.exit 1)))
(.seq
(.block 2
(.seq
(.reg 24 [oQ 82 (.aa6 6 T3),oQ 83 (.load none T82),oM 84 T9,oQ 85 (.ac4 7 T83 T84),oQ 86 (.load (some 7) T85),oM 87 T1,oM 88 T2,oK 89 (.call 255 [T86,T87,T88]),oQ 90 (.not T89)] [1,2,3,7,9,90])
(.cond T90
(.seq
(.reg 25 [oM 6 (cB false)] [6])
.ret)
.skip)))
(.reg 23 [oM 80 T9,oQ 81 (.bin .add T80 (cI 1)),oM 9 T81] [1,2,3,7,9]))))))
(.seq
(.reg 26 [oM 6 (cB true)] [6])
.ret)))))))
theorem fok255:FOK Tryz.prog 255 (91,ic255,[(.t 6)]):=ae6 [1000003] Tryz.func255
def ic256:IC :=
(.seq
(.reg 0 [oM 4 (cI 0)] [0,1])
(.seq
(.reg 1 [oM 5 T0,oM 6 T1,oQ 7 (.ibs T5 T6),oM 4 T7] [4])
.ret))
theorem fok256:FOK Tryz.prog 256 (8,ic256,[(.t 4)]):=ae6 [] Tryz.func256
def ic257:IC :=
(.seq
(.reg 0 [oM 4 (cB false)] [0,1])
(.seq
(.reg 1 [oM 5 T0,oQ 6 (.len 1 T5),oM 7 T1,oQ 8 (.len 1 T7),oQ 9 (.bin .geq T6 T8),oM 10 T9,gQ 11 10 true (.mov T0),gQ 12 10 true (.mov T1),gQ 13 10 true (.len 1 T12),gQ 14 10 true (.hk6 T11 none (some T13)),gQ 15 10 true (.mov T1),gQ 16 10 true (.bin .eql T14 T15),oQ 17 (.pick T10 T16 (cB false)),oM 4 T17] [4])
.ret))
theorem fok257:FOK Tryz.prog 257 (18,ic257,[(.t 4)]):=ae6 [] Tryz.func257
def ic258:IC :=
(.seq
(.reg 0 [oM 3 (cB false)] [0,1])
(.seq
(.reg 1 [oQ 4 (.aa6 1 T1),oQ 5 (.load none T4),oM 6 T0,oQ 7 (.ac4 1 T5 T6),oQ 8 (.load none T7),oM 3 T8] [3])
.ret))
theorem fok258:FOK Tryz.prog 258 (9,ic258,[(.t 3)]):=ae6 [] Tryz.func258
def ic259:IC :=
(.seq
(.reg 0 [oK 2 (.ag6 T0),oM 3 (cB false)] [1,2])
(.seq
(.reg 1 [oQ 4 (.load (some 2) T1),oQ 5 (.load (some 7) T2),oK 6 (.call 160 [T4,T5]),oQ 7 (.not T6),oM 3 T7] [3])
.ret))
theorem fok259:FOK Tryz.prog 259 (8,ic259,[(.t 3)]):=ae6 [1000002] Tryz.func259
def ic260:IC :=
(.seq
(.reg 0 [oK 2 (.ag6 T0),oM 4 (cB false)] [1,2])
(.seq
(.seq
(.reg 1 [oQ 7 (.aa6 1 T2),oQ 8 (.load none T7),oQ 9 (.len 0 T8),oM 10 (cI 0)] [1,2,8,9,10])
(.block 0
(.loop
(.seq
(.reg 2 [oQ 11 (.bin .lss T10 T9)] [1,2,8,9,10,11])
(.seq
(.cond T11
.skip
(.exit 0))
(.seq
(.block 1
(.seq
(.reg 3 [oM 12 T10,oQ 13 (.ac4 1 T8 T10),oQ 14 (.load none T13),oM 5 T12,oM 6 T14] [1,2,5,6,8,9,10])
(.seq
(.reg 4 [oM 15 T6,oM 16 T15,gQ 17 16 true (.mov T1),gQ 18 16 true (.aa6 0 T2),gQ 19 16 true (.load none T18),gQ 20 16 true (.mov T5),gK 21 16 true (.bsl 1 1 [(zI 0)] [⟨0,⟨1,T20⟩⟩]),gK 22 16 true (.call 159 [T19,T21]),gK 23 16 true (.ao5 T17 [T22]),oQ 24 (.pick T16 T23 (cB false))] [1,2,8,9,10,24])
(.cond T24
(.seq
(.reg 5 [oM 4 (cB true)] [4])
.ret)
.skip))))
(.reg 6 [oQ 25 (.bin .add T10 (cI 1)),oM 10 T25] [1,2,8,9,10])))))))
(.seq
(.reg 7 [oM 4 (cB false)] [4])
.ret)))
theorem fok260:FOK Tryz.prog 260 (26,ic260,[(.t 4)]):=ae6 [1000002] Tryz.func260
def ic261:IC :=
(.seq
(.reg 0 [oK 2 (.ag6 T0),oM 3 (cB false)] [1,2])
(.seq
(.reg 1 [oQ 4 (.load (some 2) T2),oQ 5 (.load (some 7) T1),oK 6 (.call 221 [T4,T5]),oM 3 T6] [3])
.ret))
theorem fok261:FOK Tryz.prog 261 (7,ic261,[(.t 3)]):=ae6 [1000002] Tryz.func261
def ic262:IC :=
(.seq
(.reg 0 [oK 2 (.ag6 T0),oM 3 (cB false)] [1,2])
(.seq
(.ap8 1 [oQ 4 (.load (some 2) T2),oQ 5 (.aa6 6 T1),oQ 6 (.load none T5),oQ 7 (.ac4 7 T6 (cI 0)),oQ 8 (.load (some 7) T7),oK 9 (.call 160 [T4,T8]),oM 10 T9,gQ 11 10 true (.load (some 2) T2),gQ 12 10 true (.aa6 6 T1),gQ 13 10 true (.load none T12),gQ 14 10 true (.ac4 7 T13 (cI 1)),gQ 15 10 true (.load (some 7) T14),gK 16 10 true (.call 160 [T11,T15]),gQ 17 10 true (.not T16),oQ 18 (.pick T10 T17 (cB false)),oM 3 T18] false [3])
.ret))
theorem fok262:FOK Tryz.prog 262 (19,ic262,[(.t 3)]):=ae6 [1000002] Tryz.func262
def ic275:IC :=
(.seq
(.reg 0 [oM 3 (cI 0)] [0,1,3])
(.block 0
(.loop
(.seq
(.seq
(.reg 1 [oM 6 T3,oQ 7 (.load none T1),oQ 8 (.len 1 T7),oQ 9 (.bin .lss T6 T8)] [0,1,3,9])
(.cond T9
.skip
(.exit 0)))
(.block 1
(.seq
(.reg 2 [oQ 10 (.load none T1),oM 11 T3,oQ 12 (.eq2 T10 T11),oK 13 (.af5 276 [T12]),oQ 14 (.bld [(zU 0),(.str [])] [⟨0,⟨1,T13⟩⟩]),oK 4 (.alloc [(zU 0),(.str [])]),oN (.store 2 T4 T14)] [0,1,3,4])
(.seq
(.reg 3 [oM 15 T3,oM 5 T15] [0,1,3,4,5])
(.seq
(.seq
(.reg 4 [oM 16 T3,oQ 17 (.bin .add T16 (cI 1)),oM 3 T17] [0,1,3,4,5])
(.block 2
(.loop
(.seq
(.seq
(.ap8 5 [oQ 18 (.aa6 0 T4),oQ 19 (.load none T18),oQ 20 (.bin .geq T19 (.c (zU 4))),oM 21 T20,gQ 22 21 true (.mov T3),gQ 23 21 true (.load none T1),gQ 24 21 true (.len 1 T23),gQ 25 21 true (.bin .lss T22 T24),oQ 26 (.pick T21 T25 (cB false)),oM 27 T26,gQ 28 27 true (.load none T1),gQ 29 27 true (.mov T3),gQ 30 27 true (.eq2 T28 T29),gK 31 27 true (.af5 276 [T30]),gQ 32 27 true (.aa6 0 T4),gQ 33 27 true (.load none T32),gQ 34 27 true (.bin .eql T31 T33),oQ 35 (.pick T27 T34 (cB false))] false [0,1,3,4,5,35])
(.cond T35
.skip
(.exit 2)))
(.seq
(.block 3
.skip)
(.reg 6 [oM 36 T3,oQ 37 (.bin .add T36 (cI 1)),oM 3 T37] [0,1,3,4,5]))))))
(.seq
(.seq
(.reg 7 [oQ 38 (.aa6 0 T4),oQ 39 (.load none T38),oQ 40 (.bin .geq T39 (.c (zU 4)))] [0,1,3,4,5,40])
(.cond T40
(.reg 8 [oQ 41 (.load none T1),oM 42 T5,oM 43 T3,oQ 44 (.hk6 T41 (some T42) (some T43)),oQ 45 (.aa6 1 T4),oN (.store 1 T45 T44)] [0,1,3,4])
.skip))
(.seq
(.seq
(.reg 9 [oQ 46 (.aa6 0 T4),oQ 47 (.load none T46),oQ 48 (.bin .eql T47 (.c (zU 5)))] [0,1,3,4,48])
(.cond T48
(.reg 10 [oQ 49 (.aa6 1 T4),oQ 50 (.load none T49),oK 51 (.call 277 [T50,(.c (.str [48]))]),oQ 52 (.aa6 1 T4),oN (.store 1 T52 T51)] [0,1,3,4])
.skip))
(.seq
(.reg 11 [oQ 53 (.aa6 0 T4),oQ 54 (.load none T53),oQ 55 (.bin .neq T54 (.c (zU 0))),oM 56 T55,gQ 57 56 true (.mov T0),gQ 58 56 true (.load (some 2) T4),gK 59 56 true (.ao5 T57 [T58]),gQ 60 56 true (.not T59),oQ 61 (.pick T56 T60 (cB false))] [0,1,3,61])
(.cond T61
.ret
.skip))))))))))))
theorem fok275:FOK Tryz.prog 275 (62,ic275,[]):=ae6 ([]++[276]) Tryz.func275 (by kernel_rfl) (by kernel_rfl) (by kernel_rfl) (by kernel_rfl)
def ic276:IC :=
(.seq
(.reg 0 [oM 2 (.c (zU 0))] [0])
(.seq
(.block 0
(.seq
(.reg 1 [oM 4 T0,oQ 5 (.bin .eql T4 (.c (zU 126))),oM 3 T5] [0,3])
(.cond T3
(.seq
(.reg 2 [oM 2 (.c (zU 1))] [2])
.ret)
(.seq
(.reg 3 [oM 7 T0,oQ 8 (.bin .eql T7 (.c (zU 94))),oM 6 T8] [0,6])
(.cond T6
(.seq
(.reg 4 [oM 2 (.c (zU 3))] [2])
.ret)
(.seq
(.reg 5 [oM 10 T0,oQ 11 (.bin .geq T10 (.c (zU 97))),oM 12 T11,gQ 13 12 true (.mov T0),gQ 14 12 true (.bin .leq T13 (.c (zU 122))),oQ 15 (.pick T12 T14 (cB false)),oM 16 T15,gQ 17 16 false (.mov T0),gQ 18 16 false (.bin .geq T17 (.c (zU 65))),gQ 19 16 false (.mov T18),gQ 20 19 true (.mov T0),gQ 21 19 true (.bin .leq T20 (.c (zU 90))),gQ 22 16 false (.pick T19 T21 (cB false)),oQ 23 (.pick T16 (cB true) T22),oM 9 T23] [0,9])
(.cond T9
(.seq
(.reg 6 [oM 2 (.c (zU 4))] [2])
.ret)
(.seq
(.reg 7 [oM 25 T0,oQ 26 (.bin .geq T25 (.c (zU 48))),oM 27 T26,gQ 28 27 true (.mov T0),gQ 29 27 true (.bin .leq T28 (.c (zU 57))),oQ 30 (.pick T27 T29 (cB false)),oM 24 T30] [24])
(.cond T24
(.seq
(.reg 8 [oM 2 (.c (zU 5))] [2])
.ret)
.skip)))))))))
(.seq
(.reg 9 [oM 2 (.c (zU 0))] [2])
.ret)))
theorem fok276:FOK Tryz.prog 276 (31,ic276,[(.t 2)]):=ae6 [] Tryz.func276
def ic277:IC :=
(.seq
(.reg 0 [oM 4 (.c (.str []))] [0,1])
(.seq
(.seq
(.reg 1 [oM 7 T0,oQ 8 (.bin .eql T7 (.c (.str []))),oM 9 T8,gQ 10 9 false (.mov T1),gQ 11 9 false (.bin .eql T10 (.c (.str []))),oQ 12 (.pick T9 (cB true) T11)] [0,1,12])
(.cond T12
(.seq
(.reg 2 [oM 13 T0,oM 4 T13] [4])
.ret)
.skip))
(.seq
(.seq
(.reg 3 [oM 14 T1,oQ 15 (.len 1 T14),oQ 16 (.bin .eql T15 (cI 1)),oM 17 T16,gQ 18 17 true (.mov T1),gQ 19 17 true (.eq2 T18 (cI 0)),gQ 20 17 true (.bin .lss T19 (.c (zU 128))),oQ 21 (.pick T17 T20 (cB false))] [0,1,21])
(.cond T21
(.seq
(.reg 4 [oM 22 T0,oM 23 T1,oQ 24 (.eq2 T23 (cI 0)),oK 25 (.call 293 [T22,T24]),oM 4 T25] [4])
.ret)
.skip))
(.seq
(.seq
(.reg 5 [oM 27 T1,oK 28 (.call 294 [T27]),oM 26 T28,oQ 29 (.ext 0 T26),oQ 30 (.ext 1 T26),oK 5 (.alloc [(.bool false),(.bool false),(.bool false),(.bool false),(.bool false),(.bool false),(.bool false),(.bool false),(.bool false),(.bool false),(.bool false),(.bool false),(.bool false),(.bool false),(.bool false),(.bool false),(.bool false),(.bool false),(.bool false),(.bool false),(.bool false),(.bool false),(.bool false),(.bool false),(.bool false),(.bool false),(.bool false),(.bool false),(.bool false),(.bool false),(.bool false),(.bool false),(.bool false),(.bool false),(.bool false),(.bool false),(.bool false),(.bool false),(.bool false),(.bool false),(.bool false),(.bool false),(.bool false),(.bool false),(.bool false),(.bool false),(.bool false),(.bool false),(.bool false),(.bool false),(.bool false),(.bool false),(.bool false),(.bool false),(.bool false),(.bool false),(.bool false),(.bool false),(.bool false),(.bool false),(.bool false),(.bool false),(.bool false),(.bool false),(.bool false),(.bool false),(.bool false),(.bool false),(.bool false),(.bool false),(.bool false),(.bool false),(.bool false),(.bool false),(.bool false),(.bool false),(.bool false),(.bool false),(.bool false),(.bool false),(.bool false),(.bool false),(.bool false),(.bool false),(.bool false),(.bool false),(.bool false),(.bool false),(.bool false),(.bool false),(.bool false),(.bool false),(.bool false),(.bool false),(.bool false),(.bool false),(.bool false),(.bool false),(.bool false),(.bool false),(.bool false),(.bool false),(.bool false),(.bool false),(.bool false),(.bool false),(.bool false),(.bool false),(.bool false),(.bool false),(.bool false),(.bool false),(.bool false),(.bool false),(.bool false),(.bool false),(.bool false),(.bool false),(.bool false),(.bool false),(.bool false),(.bool false),(.bool false),(.bool false),(.bool false),(.bool false),(.bool false),(.bool false),(.bool false),(.bool false),(.bool false),(.bool false),(.bool false),(.bool false),(.bool false),(.bool false),(.bool false),(.bool false),(.bool false),(.bool false),(.bool false),(.bool false),(.bool false),(.bool false),(.bool false),(.bool false),(.bool false),(.bool false),(.bool false),(.bool false),(.bool false),(.bool false),(.bool false),(.bool false),(.bool false),(.bool false),(.bool false),(.bool false),(.bool false),(.bool false),(.bool false),(.bool false),(.bool false),(.bool false),(.bool false),(.bool false),(.bool false),(.bool false),(.bool false),(.bool false),(.bool false),(.bool false),(.bool false),(.bool false),(.bool false),(.bool false),(.bool false),(.bool false),(.bool false),(.bool false),(.bool false),(.bool false),(.bool false),(.bool false),(.bool false),(.bool false),(.bool false),(.bool false),(.bool false),(.bool false),(.bool false),(.bool false),(.bool false),(.bool false),(.bool false),(.bool false),(.bool false),(.bool false),(.bool false),(.bool false),(.bool false),(.bool false),(.bool false),(.bool false),(.bool false),(.bool false),(.bool false),(.bool false),(.bool false),(.bool false),(.bool false),(.bool false),(.bool false),(.bool false),(.bool false),(.bool false),(.bool false),(.bool false),(.bool false),(.bool false),(.bool false),(.bool false),(.bool false),(.bool false),(.bool false),(.bool false),(.bool false),(.bool false),(.bool false),(.bool false),(.bool false),(.bool false),(.bool false),(.bool false),(.bool false),(.bool false),(.bool false),(.bool false),(.bool false),(.bool false),(.bool false),(.bool false),(.bool false),(.bool false),(.bool false),(.bool false),(.bool false),(.bool false),(.bool false),(.bool false),(.bool false),(.bool false),(.bool false),(.bool false),(.bool false),(.bool false)]),oN (.store 256 T5 T29),oM 6 T30] [0,1,5,6])
(.seq
(.reg 6 [oM 31 T6] [0,1,5,31])
(.cond T31
(.seq
(.reg 7 [oM 32 T0,oK 33 (.call 295 [T32,T5]),oM 4 T33] [4])
.ret)
.skip)))
(.seq
(.reg 8 [oM 34 T0,oM 35 T1,oK 36 (.call 296 [T34,T35]),oM 4 T36] [4])
.ret)))))
theorem fok277:FOK Tryz.prog 277 (37,ic277,[(.t 4)]):=ae6 [] Tryz.func277
def ic278:IC :=
(.seq
(.reg 0 [oM 2 (cB false)] [0])
(.seq
(.reg 1 [oM 3 T0,oM 4 T0,oQ 5 (.bin .neq T3 T4),oM 2 T5] [2])
.ret))
theorem fok278:FOK Tryz.prog 278 (6,ic278,[(.t 2)]):=ae6 [] Tryz.func278
def ic279:IC :=
(.seq
(.reg 0 [oM 2 (cB false)] [0])
(.seq
(.reg 1 [oM 3 T0,oM 4 T0,oQ 5 (.bin .neq T3 T4),oM 2 T5] [2])
.ret))
theorem fok279:FOK Tryz.prog 279 (6,ic279,[(.t 2)]):=ae6 [] Tryz.func279
def ic280:IC :=
(.seq
(.reg 0 [oM 2 (.c (zU 0))] [0])
(.seq
(.reg 1 [oQ 3 (.bld [(zU 0),(zU 0),(zU 0)] [⟨0,⟨1,(.c (zU 1))⟩⟩,⟨1,⟨1,(.c (zU 2))⟩⟩,⟨2,⟨1,(.c (zU 4))⟩⟩]),oM 4 T0,oQ 5 (.bin .add T4 (cI 1)),oQ 6 (.idx none 3 1 T3 T5),oM 2 T6] [2])
.ret))
theorem fok280:FOK Tryz.prog 280 (7,ic280,[(.t 2)]):=ae6 [] Tryz.func280
def ic281:IC :=
(.seq
(.reg 0 [oK 2 (.ag6 T0),oM 3 (cB false)] [1,2])
(.seq
(.reg 1 [oQ 4 (.load (some 5) T2),oQ 5 (.load (some 5) T1),oK 6 (.call 192 [T4,T5]),oM 3 T6] [3])
.ret))
theorem fok281:FOK Tryz.prog 281 (7,ic281,[(.t 3)]):=ae6 [1000002] Tryz.func281
def ic282:IC :=
(.seq
(.reg 0 [oM 4 (cB false)] [0,1])
(.seq
(.reg 1 [oM 5 T0,oM 6 T1,oK 7 (.call 297 [T5,T6]),oQ 8 (.bin .geq T7 (cI 0)),oM 4 T8] [4])
.ret))
theorem fok282:FOK Tryz.prog 282 (9,ic282,[(.t 4)]):=ae6 [] Tryz.func282
def ic283:IC :=
(.seq
(.reg 0 [oM 4 (cI 0)] [0,1])
(.seq
(.seq
(.reg 1 [oM 6 T0,oQ 7 (.len 0 T6),oM 8 (cI 0)] [0,1,7,8])
(.block 0
(.loop
(.seq
(.reg 2 [oQ 9 (.bin .lss T8 T7)] [0,1,7,8,9])
(.seq
(.cond T9
.skip
(.exit 0))
(.seq
(.block 1
(.seq
(.reg 3 [oM 10 T8,oM 5 T10] [0,1,5,7,8])
(.seq
(.reg 4 [oM 11 T1,oM 12 T0,oM 13 T5,oQ 14 (.ac4 1 T12 T13),oQ 15 (.load none T14),oK 16 (.ao5 T11 [T15])] [0,1,5,7,8,16])
(.cond T16
(.seq
(.reg 5 [oM 17 T5,oM 4 T17] [4])
.ret)
.skip))))
(.reg 6 [oQ 18 (.bin .add T8 (cI 1)),oM 8 T18] [0,1,7,8])))))))
(.seq
(.reg 7 [oM 4 (cI (-1))] [4])
.ret)))
theorem fok283:FOK Tryz.prog 283 (19,ic283,[(.t 4)]):=ae6 [] Tryz.func283
def ic284:IC :=
(.seq
(.reg 0 [oM 4 (cI 0)] [0,1])
(.seq
(.seq
(.reg 1 [oM 6 T0,oQ 7 (.len 0 T6),oM 8 (cI 0)] [0,1,7,8])
(.block 0
(.loop
(.seq
(.reg 2 [oQ 9 (.bin .lss T8 T7)] [0,1,7,8,9])
(.seq
(.cond T9
.skip
(.exit 0))
(.seq
(.block 1
(.seq
(.reg 3 [oM 10 T8,oM 5 T10] [0,1,5,7,8])
(.seq
(.reg 4 [oM 11 T1,oM 12 T0,oM 13 T5,oQ 14 (.ac4 7 T12 T13),oQ 15 (.load (some 7) T14),oK 16 (.ao5 T11 [T15])] [0,1,5,7,8,16])
(.cond T16
(.seq
(.reg 5 [oM 17 T5,oM 4 T17] [4])
.ret)
.skip))))
(.reg 6 [oQ 18 (.bin .add T8 (cI 1)),oM 8 T18] [0,1,7,8])))))))
(.seq
(.reg 7 [oM 4 (cI (-1))] [4])
.ret)))
theorem fok284:FOK Tryz.prog 284 (19,ic284,[(.t 4)]):=ae6 [] Tryz.func284
def ic285:IC :=
(.seq
(.reg 0 [oK 4 (.ag6 T0),oM 7 (cB false)] [1,2,3,4])
(.seq
(.seq
(.reg 1 [oM 10 T2,oQ 11 (.load (some 7) T4),oM 12 T1,oK 13 (.ao5 T10 [T11,T12]),oQ 14 (.not T13)] [1,2,3,4,14])
(.cond T14
(.seq
(.reg 2 [oM 7 (cB false)] [7])
.ret)
.skip))
(.seq
(.reg 3 [oM 15 T1,oM 16 T15,gQ 17 16 false (.aa6 0 T4),gQ 18 16 false (.load none T17),gQ 19 16 false (.bin .eql T18 (.c (zU 6))),oQ 20 (.pick T16 (cB true) T19),oM 21 T20,gQ 22 21 false (.aa6 0 T4),gQ 23 21 false (.load none T22),gQ 24 21 false (.bin .eql T23 (.c (zU 7))),oQ 25 (.pick T21 (cB true) T24),oM 1 T25] [1,2,3,4])
(.seq
(.seq
(.reg 4 [oQ 26 (.aa6 6 T4),oQ 27 (.load none T26),oQ 28 (.len 0 T27),oM 29 (cI 0)] [1,2,3,27,28,29])
(.block 0
(.loop
(.seq
(.reg 5 [oQ 30 (.bin .lss T29 T28)] [1,2,3,27,28,29,30])
(.seq
(.cond T30
.skip
(.exit 0))
(.seq
(.block 1
(.seq
(.reg 6 [oQ 31 (.ac4 7 T27 T29),oQ 32 (.load (some 7) T31),oK 9 (.alloc [(zU 0),(.str []),(zU 0),(zI 0),(.str []),(.str []),.aa1]),oN (.store 7 T9 T32)] [1,2,3,9,27,28,29])
(.seq
(.reg 7 [oQ 33 (.load none T3),oQ 34 (.load (some 7) T9),oM 35 T1,oM 36 T2,oK 37 (.ao5 T33 [T34,T35,T36]),oQ 38 (.not T37)] [1,2,3,27,28,29,38])
(.cond T38
(.seq
(.reg 8 [oM 7 (cB false)] [7])
.ret)
.skip))))
(.reg 9 [oQ 39 (.bin .add T29 (cI 1)),oM 29 T39] [1,2,3,27,28,29])))))))
(.seq
(.reg 10 [oM 7 (cB true)] [7])
.ret)))))
theorem fok285:FOK Tryz.prog 285 (40,ic285,[(.t 7)]):=ae6 [1000004] Tryz.func285
def ic286:IC :=
(.reg 0 [oQ 4 (.load none T1),oQ 5 (.load (some 7) T2),oM 6 T0,oK 7 (.ao5 T4 [T5,(cB false),T6])] [])
theorem fok286:FOK Tryz.prog 286 (8,ic286,[]):=ae6 [] Tryz.func286
def ic293:IC :=
(.seq
(.reg 0 [oM 4 (.c (.str []))] [0,1])
(.seq
(.block 0
(.loop
(.seq
(.seq
(.reg 1 [oM 5 T0,oQ 6 (.len 1 T5),oQ 7 (.bin .gtr T6 (cI 0)),oM 8 T7,gQ 9 8 true (.mov T0),gQ 10 8 true (.eq2 T9 (cI 0)),gQ 11 8 true (.mov T1),gQ 12 8 true (.bin .eql T10 T11),oQ 13 (.pick T8 T12 (cB false))] [0,1,13])
(.cond T13
.skip
(.exit 0)))
(.block 1
(.reg 2 [oM 14 T0,oQ 15 (.hk6 T14 (some (cI 1)) none),oM 0 T15] [0,1])))))
(.seq
(.reg 3 [oM 16 T0,oM 4 T16] [4])
.ret)))
theorem fok293:FOK Tryz.prog 293 (17,ic293,[(.t 4)]):=ae6 [] Tryz.func293
def ic297:IC :=
(.seq
(.reg 0 [oM 4 (cI 0)] [0,1])
(.seq
(.seq
(.reg 1 [oM 6 T0,oQ 7 (.len 0 T6),oM 8 (cI 0)] [0,1,7,8])
(.block 0
(.loop
(.seq
(.reg 2 [oQ 9 (.bin .lss T8 T7)] [0,1,7,8,9])
(.seq
(.cond T9
.skip
(.exit 0))
(.seq
(.block 1
(.seq
(.reg 3 [oM 10 T8,oM 5 T10] [0,1,5,7,8])
(.seq
(.reg 4 [oM 11 T1,oM 12 T0,oM 13 T5,oQ 14 (.ac4 1 T12 T13),oQ 15 (.load none T14),oQ 16 (.bin .eql T11 T15)] [0,1,5,7,8,16])
(.cond T16
(.seq
(.reg 5 [oM 17 T5,oM 4 T17] [4])
.ret)
.skip))))
(.reg 6 [oQ 18 (.bin .add T8 (cI 1)),oM 8 T18] [0,1,7,8])))))))
(.seq
(.reg 7 [oM 4 (cI (-1))] [4])
.ret)))
theorem fok297:FOK Tryz.prog 297 (19,ic297,[(.t 4)]):=ae6 [] Tryz.func297
end Go.Id.Tryz
