/- The compiled codes of functions,written by a program out of the given form. Conditions: none. -/
import Derived.Test.YtphnnoolpagclaaGreatDoorFwZb
import Derived.Test.YtphnnoolpagclaaGreatDoorProg
set_option linter.all false
namespace Go.Id.Tryz
open Go Go.Id Go.Proofs
def ip2:List Nat:=List.range 249
def ic170:IC :=
(.seq
(.reg 0 [oM 2 (.c (.str []))] [0])
(.seq
(.seq
(.reg 1 [oM 3 T0] [3])
(.block 0
(.seq
(.reg 2 [oQ 5 (.bin .eql T3 (.c (zU 1))),oM 4 T5] [3,4])
(.cond T4
(.seq
(.reg 3 [oM 2 (.c (.str [110,111,97,114,99,104]))] [2])
.ret)
(.seq
(.reg 4 [oQ 7 (.bin .eql T3 (.c (zU 2))),oM 6 T7] [3,6])
(.cond T6
(.seq
(.reg 5 [oM 2 (.c (.str [120,56,54,95,54,52]))] [2])
.ret)
(.seq
(.reg 6 [oQ 9 (.bin .eql T3 (.c (zU 3))),oM 8 T9] [3,8])
(.cond T8
(.seq
(.reg 7 [oM 2 (.c (.str [105,54,56,54]))] [2])
.ret)
(.seq
(.reg 8 [oQ 11 (.bin .eql T3 (.c (zU 4))),oM 10 T11] [10])
(.cond T10
(.seq
(.reg 9 [oM 2 (.c (.str [97,97,114,99,104,54,52]))] [2])
.ret)
.skip))))))))))
(.seq
(.reg 10 [oM 2 (.c (.str []))] [2])
.ret)))
theorem fok170:FOK Tryz.prog 170 (12,ic170,[(.t 2)]):=af6 [] Tryz.func170
def ic171:IC :=
(.seq
(.reg 0 [oK 2 (.ai8 T0),oM 3 (cB false)] [1,2])
(.seq
(.reg 1 [oQ 4 (.load (some 5) T2),oQ 5 (.load (some 5) T1),oK 6 (.call 147 [T4,T5]),oM 3 T6] [3])
.ret))
theorem fok171:FOK Tryz.prog 171 (7,ic171,[(.t 3)]):=af6 [1000002] Tryz.func171
def ic172:IC :=
(.seq
(.reg 0 [oM 4 (cB false)] [0,1])
(.seq
(.reg 1 [oM 5 T0,oM 6 T1,oK 7 (.call 200 [T5,T6]),oQ 8 (.bin .geq T7 (cI 0)),oM 4 T8] [4])
.ret))
theorem fok172:FOK Tryz.prog 172 (9,ic172,[(.t 4)]):=af6 [] Tryz.func172
def ic173:IC :=
(.seq
(.reg 0 [oM 3 (cB false)] [0,1])
(.seq
(.reg 1 [oQ 4 (.load none T1),oM 5 T0,oK 6 (.call 94 [T4,T5]),oM 3 T6] [3])
.ret))
theorem fok173:FOK Tryz.prog 173 (7,ic173,[(.t 3)]):=af6 [] Tryz.func173
def ic174:IC :=
(.seq
(.reg 0 [oK 0 (.alloc [(.str []),(.str []),(.str []),(.str []),(.str [])])] [0])
(.seq
(.reg 1 [oQ 1 (.bld [(.str []),(.str []),(.str []),(.str []),(.str [])] [⟨1,⟨1,(.c (.str [110,111,97,114,99,104]))⟩⟩,⟨2,⟨1,(.c (.str [120,56,54,95,54,52]))⟩⟩,⟨3,⟨1,(.c (.str [105,54,56,54]))⟩⟩,⟨4,⟨1,(.c (.str [97,97,114,99,104,54,52]))⟩⟩]),oN (.store 5 T0 T1)] [0])
.ret))
theorem fok174:FOK Tryz.prog 174 (2,ic174,[(.cell (some 5) 0)]):=af6 [] Tryz.func174
def ic175:IC :=
(.seq
(.reg 0 [oK 2 (.ai8 T0),oM 3 (cB false)] [1,2])
(.seq
(.reg 1 [oQ 4 (.load none T1),oQ 5 (.load (some 5) T2),oK 6 (.an1 T4 [T5]),oQ 7 (.not T6),oM 3 T7] [3])
.ret))
theorem fok175:FOK Tryz.prog 175 (8,ic175,[(.t 3)]):=af6 [1000002] Tryz.func175
def ic176:IC :=
(.seq
(.reg 0 [oM 4 (cB false)] [0,1])
(.seq
(.reg 1 [oM 5 T0,oM 6 T1,oK 7 (.call 201 [T5,T6]),oQ 8 (.bin .geq T7 (cI 0)),oM 4 T8] [4])
.ret))
theorem fok176:FOK Tryz.prog 176 (9,ic176,[(.t 4)]):=af6 [] Tryz.func176
def ic177:IC :=
(.seq
(.reg 0 [oM 3 (cB false)] [0,1])
(.seq
(.reg 1 [oQ 4 (.load none T1),oM 5 T0,oK 6 (.an1 T4 [T5]),oQ 7 (.not T6),oM 3 T7] [3])
.ret))
theorem fok177:FOK Tryz.prog 177 (8,ic177,[(.t 3)]):=af6 [] Tryz.func177
def ic178:IC :=
(.reg 0 [oM 3 T0,oQ 4 (.aa6 7 T1),oQ 5 (.load none T4),oK 6 (.an1 T3 [(.c (zU 1)),T5]),oM 7 T6,gQ 8 7 true (.mov T0),gQ 9 7 true (.aa6 8 T1),gQ 10 7 true (.load none T9),gK 11 7 true (.an1 T8 [(.c (zU 2)),T10]),oQ 12 (.pick T7 T11 (cB false)),oM 13 T12,gQ 14 13 true (.mov T0),gQ 15 13 true (.aa6 10 T1),gQ 16 13 true (.load none T15),gK 17 13 true (.an1 T14 [(.c (zU 1)),T16]),oQ 18 (.pick T13 T17 (cB false)),oM 19 T18,gQ 20 19 true (.mov T0),gQ 21 19 true (.aa6 11 T1),gQ 22 19 true (.load none T21),gK 23 19 true (.an1 T20 [(.c (zU 3)),T22]),oQ 24 (.pick T19 T23 (cB false)),oM 25 T24,gQ 26 25 true (.mov T0),gQ 27 25 true (.aa6 12 T1),gQ 28 25 true (.load none T27),gK 29 25 true (.an1 T26 [(.c (zU 1)),T28]),oQ 30 (.pick T25 T29 (cB false)),oM 31 T30,gQ 32 31 true (.mov T0),gQ 33 31 true (.aa6 13 T1),gQ 34 31 true (.load none T33),gK 35 31 true (.an1 T32 [(.c (zU 3)),T34]),oQ 36 (.pick T31 T35 (cB false))] [])
theorem fok178:FOK Tryz.prog 178 (37,ic178,[]):=af6 [] Tryz.func178
def ic179:IC :=
(.seq
(.reg 0 [oM 4 (cB false)] [0,1])
(.seq
(.reg 1 [oM 5 T0,oM 6 T1,oK 7 (.call 202 [T5,T6]),oQ 8 (.bin .geq T7 (cI 0)),oM 4 T8] [4])
.ret))
theorem fok179:FOK Tryz.prog 179 (9,ic179,[(.t 4)]):=af6 [] Tryz.func179
def ic180:IC :=
(.seq
(.reg 0 [oK 2 (.ai8 T0),oM 3 (cB false)] [1,2])
(.seq
(.reg 1 [oQ 4 (.load none T1),oQ 5 (.load (some 7) T2),oK 6 (.an1 T4 [T5]),oQ 7 (.not T6),oM 3 T7] [3])
.ret))
theorem fok180:FOK Tryz.prog 180 (8,ic180,[(.t 3)]):=af6 [1000002] Tryz.func180
def ic181:IC :=
(.seq
(.reg 0 [oK 1 (.ai8 T0),oM 2 (cI 0)] [1,2])
(.seq
(.reg 1 [oK 3 (.alloc [(zI 0)]),oN (.store 1 T3 (cI 0))] [1,2,3])
(.seq
(.seq
(.reg 2 [oQ 4 (.load (some 7) T1),oK 5 (.call 183 [T4])] [2,3,5])
(.block 0
(.bn4 T5 [6,7]
.skip
(.block 1
(.reg 3 [oQ 8 (.load none T3),oQ 9 (.bin .add T8 (cI 1)),oN (.store 1 T3 T9)] [])))))
(.seq
(.reg 4 [oQ 10 (.load none T3),oM 2 T10] [2])
.ret))))
theorem fok181:FOK Tryz.prog 181 (11,ic181,[(.t 2)]):=af6 [1000001] Tryz.func181
def ic182:IC :=
(.seq
(.reg 0 [oK 1 (.ai8 T0),oM 2 (cI 0)] [1])
(.seq
(.seq
(.reg 1 [oQ 6 (.aa6 0 T1),oQ 7 (.load none T6),oQ 8 (.bin .eql T7 (.c (zU 1)))] [1,8])
(.cond T8
(.seq
(.reg 2 [oM 2 (cI 0)] [2])
.ret)
.skip))
(.seq
(.reg 3 [oM 3 (cI 0)] [1,3])
(.seq
(.seq
(.reg 4 [oQ 9 (.aa6 6 T1),oQ 10 (.load none T9),oQ 11 (.len 0 T10),oM 12 (cI 0)] [3,10,11,12])
(.block 0
(.loop
(.seq
(.reg 5 [oQ 13 (.bin .lss T12 T11)] [3,10,11,12,13])
(.seq
(.cond T13
.skip
(.exit 0))
(.seq
(.block 1
(.seq
(.reg 6 [oQ 14 (.ac8 7 T10 T12),oQ 15 (.load (some 7) T14),oK 5 (.alloc [(zU 0),(.str []),(zU 0),(zI 0),(.str []),(.str []),.aa1]),oN (.store 7 T5 T15)] [3,5,10,11,12])
(.reg 7 [oM 16 T3,oQ 17 (.load (some 7) T5),oK 18 (.call 182 [T17]),oQ 19 (.mm true T16 T18),oM 3 T19] [3,10,11,12])))
(.reg 8 [oQ 20 (.bin .add T12 (cI 1)),oM 12 T20] [3,10,11,12])))))))
(.seq
(.reg 9 [oM 21 T3,oQ 22 (.bin .add T21 (cI 1)),oM 2 T22] [2])
.ret)))))
theorem fok182:FOK Tryz.prog 182 (23,ic182,[(.t 2)]):=af6 [1000001] Tryz.func182
def ic183:IC :=
(.seq
(.reg 0 [oK 1 (.ai8 T0),oM 2 (.c .ad4)] [1])
(.seq
(.reg 1 [oK 3 (.alloc [.ad4])] [1,3])
(.seq
(.reg 2 [oQ 4 (.mkf 203 [] [T3]),oN (.store 1 T3 T4)] [1,3])
(.seq
(.reg 3 [oQ 5 (.mkf 204 [] [T3,T1]),oM 2 T5] [2])
.ret))))
theorem fok183:FOK Tryz.prog 183 (6,ic183,[(.t 2)]):=af6 [1000001] Tryz.func183
def ic184:IC :=
(.seq
(.reg 0 [oK 2 (.alloc [(zI 0),(zI 0),(.bool false),(zU 0)])] [0,2])
(.seq
(.reg 1 [oQ 4 (.bld [(zI 0),(zI 0),(.bool false),(zU 0)] [⟨0,⟨1,(cI 0)⟩⟩,⟨1,⟨1,(cI 0)⟩⟩,⟨2,⟨1,(cB true)⟩⟩,⟨3,⟨1,(.c (zU 3))⟩⟩]),oQ 5 (.bld [(zI 0),(zI 0),(.bool false),(zU 0)] [⟨0,⟨1,(cI 2)⟩⟩,⟨1,⟨1,(cI 24)⟩⟩,⟨2,⟨1,(cB true)⟩⟩,⟨3,⟨1,(.c (zU 3))⟩⟩]),oQ 6 (.bld [(zI 0),(zI 0),(.bool false),(zU 0)] [⟨0,⟨1,(cI 2)⟩⟩,⟨1,⟨1,(cI 24)⟩⟩,⟨2,⟨1,(cB true)⟩⟩,⟨3,⟨1,(.c (zU 3))⟩⟩]),oQ 7 (.bld [(zI 0),(zI 0),(.bool false),(zU 0)] [⟨0,⟨1,(cI 2)⟩⟩,⟨1,⟨1,(cI 3)⟩⟩,⟨2,⟨1,(cB false)⟩⟩,⟨3,⟨1,(.c (zU 1))⟩⟩]),oQ 8 (.bld [(zI 0),(zI 0),(.bool false),(zU 0)] [⟨0,⟨1,(cI 2)⟩⟩,⟨1,⟨1,(cI 3)⟩⟩,⟨2,⟨1,(cB false)⟩⟩,⟨3,⟨1,(.c (zU 2))⟩⟩]),oQ 9 (.bld [(zI 0),(zI 0),(.bool false),(zU 0)] [⟨0,⟨1,(cI 2)⟩⟩,⟨1,⟨1,(cI 24)⟩⟩,⟨2,⟨1,(cB true)⟩⟩,⟨3,⟨1,(.c (zU 3))⟩⟩]),oQ 10 (.bld [(zI 0),(zI 0),(.bool false),(zU 0)] [⟨0,⟨1,(cI 2)⟩⟩,⟨1,⟨1,(cI 2)⟩⟩,⟨2,⟨1,(cB true)⟩⟩,⟨3,⟨1,(.c (zU 3))⟩⟩]),oQ 11 (.bld [(zI 0),(zI 0),(.bool false),(zU 0),(zI 0),(zI 0),(.bool false),(zU 0),(zI 0),(zI 0),(.bool false),(zU 0),(zI 0),(zI 0),(.bool false),(zU 0),(zI 0),(zI 0),(.bool false),(zU 0),(zI 0),(zI 0),(.bool false),(zU 0),(zI 0),(zI 0),(.bool false),(zU 0),(zI 0),(zI 0),(.bool false),(zU 0)] [⟨4,⟨4,T4⟩⟩,⟨8,⟨4,T5⟩⟩,⟨12,⟨4,T6⟩⟩,⟨16,⟨4,T7⟩⟩,⟨20,⟨4,T8⟩⟩,⟨24,⟨4,T9⟩⟩,⟨28,⟨4,T10⟩⟩]),oK 3 (.alloc [(zI 0),(zI 0),(.bool false),(zU 0),(zI 0),(zI 0),(.bool false),(zU 0),(zI 0),(zI 0),(.bool false),(zU 0),(zI 0),(zI 0),(.bool false),(zU 0),(zI 0),(zI 0),(.bool false),(zU 0),(zI 0),(zI 0),(.bool false),(zU 0),(zI 0),(zI 0),(.bool false),(zU 0),(zI 0),(zI 0),(.bool false),(zU 0)]),oN (.store 32 T3 T11)] [0,2,3])
(.seq
(.seq
(.reg 2 [oM 12 T0,oQ 13 (.conv .i64 T12),oQ 14 (.bin .geq T13 (cI 8))] [0,2,3,14])
(.cond T14
(.seq
(.reg 3 [oQ 15 (.bld [(zI 0),(zI 0),(.bool false),(zU 0)] []),oN (.store 4 T2 T15)] [2])
.ret)
.skip))
(.seq
(.reg 4 [oM 16 T0,oQ 17 (.du2 8 4 T3 T16),oQ 18 (.load (some 4) T17),oN (.store 4 T2 T18)] [2])
.ret))))
theorem fok184:FOK Tryz.prog 184 (19,ic184,[(.cell (some 4) 2)]):=af6 [] Tryz.func184
def ic185:IC :=
(.seq
(.reg 0 [oM 4 (cI 0)] [0,1])
(.seq
(.reg 1 [oM 5 T0,oM 6 T1,oQ 7 (.ibs T5 T6),oM 4 T7] [4])
.ret))
theorem fok185:FOK Tryz.prog 185 (8,ic185,[(.t 4)]):=af6 [] Tryz.func185
def ic186:IC :=
(.seq
(.reg 0 [oM 4 (cB false)] [0,1])
(.seq
(.reg 1 [oM 5 T0,oQ 6 (.len 1 T5),oM 7 T1,oQ 8 (.len 1 T7),oQ 9 (.bin .geq T6 T8),oM 10 T9,gQ 11 10 true (.mov T0),gQ 12 10 true (.mov T1),gQ 13 10 true (.len 1 T12),gQ 14 10 true (.fv6 T11 none (some T13)),gQ 15 10 true (.mov T1),gQ 16 10 true (.bin .eql T14 T15),oQ 17 (.pick T10 T16 (cB false)),oM 4 T17] [4])
.ret))
theorem fok186:FOK Tryz.prog 186 (18,ic186,[(.t 4)]):=af6 [] Tryz.func186
def ic187:IC :=
(.seq
(.reg 0 [oK 2 (.ai8 T0),oK 3 (.ai8 T1),oM 4 (cB false)] [2,3])
(.seq
(.seq
(.reg 1 [oQ 6 (.aa6 1 T2),oQ 7 (.load none T6),oQ 8 (.bin .and T7 (.c (zU 7))),oQ 9 (.bin .eql T8 (.c (zU 0))),oM 10 T9,gQ 11 10 false (.aa6 1 T3),gQ 12 10 false (.load none T11),gQ 13 10 false (.bin .and T12 (.c (zU 7))),gQ 14 10 false (.bin .eql T13 (.c (zU 0))),oQ 15 (.pick T10 (cB true) T14)] [2,3,15])
(.cond T15
(.seq
(.reg 2 [oM 4 (cB true)] [4])
.ret)
.skip))
(.seq
(.reg 3 [oQ 16 (.aa6 2 T2),oQ 17 (.load (some 3) T16),oQ 18 (.aa6 2 T3),oQ 19 (.load (some 3) T18),oK 20 (.call 57 [T17,T19]),oM 5 T20] [2,3,5])
(.seq
(.seq
(.reg 4 [oM 21 T5,oQ 22 (.bin .eql T21 (cI 0))] [2,3,5,22])
(.cond T22
(.seq
(.reg 5 [oQ 23 (.aa6 1 T2),oQ 24 (.load none T23),oQ 25 (.aa6 1 T3),oQ 26 (.load none T25),oQ 27 (.bin .and T24 T26),oQ 28 (.bin .and T27 (.c (zU 7))),oQ 29 (.bin .neq T28 (.c (zU 0))),oM 4 T29] [4])
.ret)
.skip))
(.seq
(.ar4 6 [oQ 30 (.aa6 1 T2),oQ 31 (.load none T30),oM 32 T5,oQ 33 (.neg T32),oK 34 (.af1 206 [T33]),oQ 35 (.bin .and T31 T34),oQ 36 (.bin .neq T35 (.c (zU 0))),oM 37 T36,gQ 38 37 false (.aa6 1 T3),gQ 39 37 false (.load none T38),gQ 40 37 false (.mov T5),gK 41 37 false (.af1 206 [T40]),gQ 42 37 false (.bin .and T39 T41),gQ 43 37 false (.bin .neq T42 (.c (zU 0))),oQ 44 (.pick T37 (cB true) T43),oM 4 T44] false [4])
.ret)))))
theorem fok187:FOK Tryz.prog 187 (45,ic187,[(.t 4)]):=af6 ([1000002,1000003]++[206]) Tryz.func187 (by kernel_rfl) (by kernel_rfl) (by kernel_rfl) (by kernel_rfl)
def ic188:IC :=
(.seq
(.reg 0 [oK 3 (.ai8 T1),oK 4 (.alloc [(.str []),(zU 0),(zI 0),(.str []),(.str [])])] [0,3,4])
(.seq
(.reg 1 [oM 5 T0,oQ 6 (.load (some 3) T3),oQ 7 (.bld [(.str []),(zU 0),(zI 0),(.str []),(.str [])] [⟨0,⟨1,T5⟩⟩,⟨1,⟨1,(.c (zU 2))⟩⟩,⟨2,⟨3,T6⟩⟩]),oN (.store 5 T4 T7)] [4])
.ret))
theorem fok188:FOK Tryz.prog 188 (8,ic188,[(.cell (some 5) 4)]):=af6 [1000003] Tryz.func188
def ic189:IC :=
(.seq
(.reg 0 [oK 3 (.ai8 T1),oK 4 (.alloc [(.str []),(zU 0),(zI 0),(.str []),(.str [])])] [0,3,4])
(.seq
(.reg 1 [oM 5 T0,oQ 6 (.load (some 3) T3),oQ 7 (.bld [(.str []),(zU 0),(zI 0),(.str []),(.str [])] [⟨0,⟨1,T5⟩⟩,⟨1,⟨1,(.c (zU 2))⟩⟩,⟨2,⟨3,T6⟩⟩]),oN (.store 5 T4 T7)] [4])
.ret))
theorem fok189:FOK Tryz.prog 189 (8,ic189,[(.cell (some 5) 4)]):=af6 [1000003] Tryz.func189
def ic190:IC :=
(.seq
(.reg 0 [oK 1 (.ai8 T0),oM 2 (.c .ad4)] [1])
(.seq
(.reg 1 [oQ 3 (.mkf 207 [] [T1]),oM 2 T3] [2])
.ret))
theorem fok190:FOK Tryz.prog 190 (4,ic190,[(.t 2)]):=af6 [1000001] Tryz.func190
def ic191:IC :=
(.seq
(.reg 0 [oM 2 (cI 0)] [0])
(.seq
(.reg 1 [oM 3 (cI 0)] [0,3])
(.seq
(.seq
(.reg 2 [oM 6 T0,oQ 7 (.len 0 T6),oM 8 (cI 0)] [3,6,7,8])
(.block 0
(.loop
(.seq
(.reg 3 [oQ 9 (.bin .lss T8 T7)] [3,6,7,8,9])
(.seq
(.cond T9
.skip
(.exit 0))
(.seq
(.block 1
(.seq
(.reg 4 [oQ 10 (.ac8 1 T6 T8),oQ 11 (.load none T10),oM 5 T11] [3,5,6,7,8])
(.seq
(.reg 5 [oM 12 T5,oM 13 T3,oQ 14 (.bin .neq T12 T13)] [3,5,6,7,8,14])
(.cond T14
(.seq
(.reg 6 [oM 15 T5,oM 2 T15] [2])
.ret)
.skip))))
(.reg 7 [oQ 16 (.bin .add T8 (cI 1)),oM 8 T16] [3,6,7,8])))))))
(.seq
(.reg 8 [oM 17 T3,oM 2 T17] [2])
.ret))))
theorem fok191:FOK Tryz.prog 191 (18,ic191,[(.t 2)]):=af6 [] Tryz.func191
def ic192:IC :=
(.seq
(.reg 0 [oM 4 (cI 0)] [0,1])
(.seq
(.reg 1 [oM 7 T0,oK 8 (.call 210 [T7]),oM 5 T8] [0,1,5])
(.seq
(.reg 2 [oM 9 T1,oK 10 (.call 210 [T9]),oM 6 T10] [0,1,5,6])
(.seq
(.seq
(.reg 3 [oM 11 T5] [0,1,6,11])
(.cond T11
(.seq
(.seq
(.reg 4 [oM 12 T6] [12])
(.cond T12
(.seq
(.reg 5 [oM 4 (cI 0)] [4])
.ret)
.skip))
(.seq
(.reg 6 [oM 4 (cI (-1))] [4])
.ret))
.skip))
(.seq
(.seq
(.reg 7 [oM 13 T6] [0,1,13])
(.cond T13
(.seq
(.reg 8 [oM 4 (cI 1)] [4])
.ret)
.skip))
(.seq
(.seq
(.reg 9 [oM 14 T0,oM 15 T1,oQ 16 (.bin .lss T14 T15)] [0,1,16])
(.cond T16
(.seq
(.reg 10 [oM 4 (cI (-1))] [4])
.ret)
.skip))
(.seq
(.seq
(.reg 11 [oM 17 T0,oM 18 T1,oQ 19 (.bin .gtr T17 T18)] [19])
(.cond T19
(.seq
(.reg 12 [oM 4 (cI 1)] [4])
.ret)
.skip))
(.seq
(.reg 13 [oM 4 (cI 0)] [4])
.ret))))))))
theorem fok192:FOK Tryz.prog 192 (20,ic192,[(.t 4)]):=af6 [] Tryz.func192
def ic193:IC :=
(.seq
(.reg 0 [oM 4 (cI 0)] [0,1])
(.seq
(.reg 1 [oM 7 T0,oK 8 (.call 211 [T7]),oM 5 T8] [0,1,5])
(.seq
(.reg 2 [oM 9 T1,oK 10 (.call 211 [T9]),oM 6 T10] [0,1,5,6])
(.seq
(.seq
(.reg 3 [oM 11 T5] [0,1,6,11])
(.cond T11
(.seq
(.seq
(.reg 4 [oM 12 T6] [12])
(.cond T12
(.seq
(.reg 5 [oM 4 (cI 0)] [4])
.ret)
.skip))
(.seq
(.reg 6 [oM 4 (cI (-1))] [4])
.ret))
.skip))
(.seq
(.seq
(.reg 7 [oM 13 T6] [0,1,13])
(.cond T13
(.seq
(.reg 8 [oM 4 (cI 1)] [4])
.ret)
.skip))
(.seq
(.seq
(.reg 9 [oM 14 T0,oM 15 T1,oQ 16 (.bin .lss T14 T15)] [0,1,16])
(.cond T16
(.seq
(.reg 10 [oM 4 (cI (-1))] [4])
.ret)
.skip))
(.seq
(.seq
(.reg 11 [oM 17 T0,oM 18 T1,oQ 19 (.bin .gtr T17 T18)] [19])
(.cond T19
(.seq
(.reg 12 [oM 4 (cI 1)] [4])
.ret)
.skip))
(.seq
(.reg 13 [oM 4 (cI 0)] [4])
.ret))))))))
theorem fok193:FOK Tryz.prog 193 (20,ic193,[(.t 4)]):=af6 [] Tryz.func193
def ic194:IC :=
(.seq
(.reg 0 [oM 2 (.c (zU 0))] [0])
(.seq
(.seq
(.reg 1 [oM 3 T0,oQ 4 (.bin .eql T3 (.c (zU 126)))] [0,4])
(.cond T4
(.seq
(.reg 2 [oM 2 (.c (zU 1))] [2])
.ret)
.skip))
(.seq
(.seq
(.reg 3 [oM 5 T0,oQ 6 (.bin .eql T5 (.c (zU 94)))] [0,6])
(.cond T6
(.seq
(.reg 4 [oM 2 (.c (zU 3))] [2])
.ret)
.skip))
(.seq
(.seq
(.reg 5 [oM 7 T0,oQ 8 (.bin .geq T7 (.c (zU 97))),oM 9 T8,gQ 10 9 true (.mov T0),gQ 11 9 true (.bin .leq T10 (.c (zU 122))),oQ 12 (.pick T9 T11 (cB false)),oM 13 T12,gQ 14 13 false (.mov T0),gQ 15 13 false (.bin .geq T14 (.c (zU 65))),gQ 16 13 false (.mov T15),gQ 17 16 true (.mov T0),gQ 18 16 true (.bin .leq T17 (.c (zU 90))),gQ 19 13 false (.pick T16 T18 (cB false)),oQ 20 (.pick T13 (cB true) T19)] [0,20])
(.cond T20
(.seq
(.reg 6 [oM 2 (.c (zU 4))] [2])
.ret)
.skip))
(.seq
(.seq
(.reg 7 [oM 21 T0,oQ 22 (.bin .geq T21 (.c (zU 48))),oM 23 T22,gQ 24 23 true (.mov T0),gQ 25 23 true (.bin .leq T24 (.c (zU 57))),oQ 26 (.pick T23 T25 (cB false))] [26])
(.cond T26
(.seq
(.reg 8 [oM 2 (.c (zU 5))] [2])
.ret)
.skip))
(.seq
(.reg 9 [oM 2 (.c (zU 0))] [2])
.ret))))))
theorem fok194:FOK Tryz.prog 194 (27,ic194,[(.t 2)]):=af6 [] Tryz.func194
def ic200:IC :=
(.seq
(.reg 0 [oM 4 (cI 0)] [0,1])
(.seq
(.seq
(.reg 1 [oM 6 T0,oQ 7 (.len 0 T6),oM 8 (cI 0)] [0,1,7,8])
(.block 0
(.loop
(.seq
(.reg 2 [oQ 9 (.bin .lss T8 T7)] [0,1,7,8,9])
(.seq
(.cond T9
.skip
(.exit 0))
(.seq
(.block 1
(.seq
(.reg 3 [oM 10 T8,oM 5 T10] [0,1,5,7,8])
(.seq
(.reg 4 [oM 11 T1,oM 12 T0,oM 13 T5,oQ 14 (.ac8 1 T12 T13),oQ 15 (.load none T14),oQ 16 (.bin .eql T11 T15)] [0,1,5,7,8,16])
(.cond T16
(.seq
(.reg 5 [oM 17 T5,oM 4 T17] [4])
.ret)
.skip))))
(.reg 6 [oQ 18 (.bin .add T8 (cI 1)),oM 8 T18] [0,1,7,8])))))))
(.seq
(.reg 7 [oM 4 (cI (-1))] [4])
.ret)))
theorem fok200:FOK Tryz.prog 200 (19,ic200,[(.t 4)]):=af6 [] Tryz.func200
def ic201:IC :=
(.seq
(.reg 0 [oM 4 (cI 0)] [0,1])
(.seq
(.seq
(.reg 1 [oM 6 T0,oQ 7 (.len 0 T6),oM 8 (cI 0)] [0,1,7,8])
(.block 0
(.loop
(.seq
(.reg 2 [oQ 9 (.bin .lss T8 T7)] [0,1,7,8,9])
(.seq
(.cond T9
.skip
(.exit 0))
(.seq
(.block 1
(.seq
(.reg 3 [oM 10 T8,oM 5 T10] [0,1,5,7,8])
(.seq
(.reg 4 [oM 11 T1,oM 12 T0,oM 13 T5,oQ 14 (.ac8 1 T12 T13),oQ 15 (.load none T14),oK 16 (.an1 T11 [T15])] [0,1,5,7,8,16])
(.cond T16
(.seq
(.reg 5 [oM 17 T5,oM 4 T17] [4])
.ret)
.skip))))
(.reg 6 [oQ 18 (.bin .add T8 (cI 1)),oM 8 T18] [0,1,7,8])))))))
(.seq
(.reg 7 [oM 4 (cI (-1))] [4])
.ret)))
theorem fok201:FOK Tryz.prog 201 (19,ic201,[(.t 4)]):=af6 [] Tryz.func201
def ic202:IC :=
(.seq
(.reg 0 [oM 4 (cI 0)] [0,1])
(.seq
(.seq
(.reg 1 [oM 6 T0,oQ 7 (.len 0 T6),oM 8 (cI 0)] [0,1,7,8])
(.block 0
(.loop
(.seq
(.reg 2 [oQ 9 (.bin .lss T8 T7)] [0,1,7,8,9])
(.seq
(.cond T9
.skip
(.exit 0))
(.seq
(.block 1
(.seq
(.reg 3 [oM 10 T8,oM 5 T10] [0,1,5,7,8])
(.seq
(.reg 4 [oM 11 T1,oM 12 T0,oM 13 T5,oQ 14 (.ac8 7 T12 T13),oQ 15 (.load (some 7) T14),oK 16 (.an1 T11 [T15])] [0,1,5,7,8,16])
(.cond T16
(.seq
(.reg 5 [oM 17 T5,oM 4 T17] [4])
.ret)
.skip))))
(.reg 6 [oQ 18 (.bin .add T8 (cI 1)),oM 8 T18] [0,1,7,8])))))))
(.seq
(.reg 7 [oM 4 (cI (-1))] [4])
.ret)))
theorem fok202:FOK Tryz.prog 202 (19,ic202,[(.t 4)]):=af6 [] Tryz.func202
def ic203:IC :=
(.seq
(.reg 0 [oK 4 (.ai8 T0),oM 7 (cB false)] [1,2,3,4])
(.seq
(.seq
(.reg 1 [oM 10 T2,oQ 11 (.load (some 7) T4),oM 12 T1,oK 13 (.an1 T10 [T11,T12]),oQ 14 (.not T13)] [1,2,3,4,14])
(.cond T14
(.seq
(.reg 2 [oM 7 (cB false)] [7])
.ret)
.skip))
(.seq
(.reg 3 [oM 15 T1,oM 16 T15,gQ 17 16 false (.aa6 0 T4),gQ 18 16 false (.load none T17),gQ 19 16 false (.bin .eql T18 (.c (zU 6))),oQ 20 (.pick T16 (cB true) T19),oM 21 T20,gQ 22 21 false (.aa6 0 T4),gQ 23 21 false (.load none T22),gQ 24 21 false (.bin .eql T23 (.c (zU 7))),oQ 25 (.pick T21 (cB true) T24),oM 1 T25] [1,2,3,4])
(.seq
(.seq
(.reg 4 [oQ 26 (.aa6 6 T4),oQ 27 (.load none T26),oQ 28 (.len 0 T27),oM 29 (cI 0)] [1,2,3,27,28,29])
(.block 0
(.loop
(.seq
(.reg 5 [oQ 30 (.bin .lss T29 T28)] [1,2,3,27,28,29,30])
(.seq
(.cond T30
.skip
(.exit 0))
(.seq
(.block 1
(.seq
(.reg 6 [oQ 31 (.ac8 7 T27 T29),oQ 32 (.load (some 7) T31),oK 9 (.alloc [(zU 0),(.str []),(zU 0),(zI 0),(.str []),(.str []),.aa1]),oN (.store 7 T9 T32)] [1,2,3,9,27,28,29])
(.seq
(.reg 7 [oQ 33 (.load none T3),oQ 34 (.load (some 7) T9),oM 35 T1,oM 36 T2,oK 37 (.an1 T33 [T34,T35,T36]),oQ 38 (.not T37)] [1,2,3,27,28,29,38])
(.cond T38
(.seq
(.reg 8 [oM 7 (cB false)] [7])
.ret)
.skip))))
(.reg 9 [oQ 39 (.bin .add T29 (cI 1)),oM 29 T39] [1,2,3,27,28,29])))))))
(.seq
(.reg 10 [oM 7 (cB true)] [7])
.ret)))))
theorem fok203:FOK Tryz.prog 203 (40,ic203,[(.t 7)]):=af6 [1000004] Tryz.func203
def ic204:IC :=
(.reg 0 [oQ 4 (.load none T1),oQ 5 (.load (some 7) T2),oM 6 T0,oK 7 (.an1 T4 [T5,(cB false),T6])] [])
theorem fok204:FOK Tryz.prog 204 (8,ic204,[]):=af6 [] Tryz.func204
def ic206:IC :=
(.seq
(.reg 0 [oM 2 (.c (zU 0))] [0])
(.seq
(.reg 1 [oQ 3 (.bld [(zU 0),(zU 0),(zU 0)] [⟨0,⟨1,(.c (zU 1))⟩⟩,⟨1,⟨1,(.c (zU 2))⟩⟩,⟨2,⟨1,(.c (zU 4))⟩⟩]),oM 4 T0,oQ 5 (.bin .add T4 (cI 1)),oQ 6 (.idx none 3 1 T3 T5),oM 2 T6] [2])
.ret))
theorem fok206:FOK Tryz.prog 206 (7,ic206,[(.t 2)]):=af6 [] Tryz.func206
def ic207:IC :=
(.seq
(.reg 0 [oM 3 (cI 0)] [0,1,3])
(.block 0
(.loop
(.seq
(.seq
(.reg 1 [oM 6 T3,oQ 7 (.load none T1),oQ 8 (.len 1 T7),oQ 9 (.bin .lss T6 T8)] [0,1,3,9])
(.cond T9
.skip
(.exit 0)))
(.block 1
(.seq
(.reg 2 [oQ 10 (.load none T1),oM 11 T3,oQ 12 (.dl2 T10 T11),oK 13 (.af1 208 [T12]),oQ 14 (.bld [(zU 0),(.str [])] [⟨0,⟨1,T13⟩⟩]),oK 4 (.alloc [(zU 0),(.str [])]),oN (.store 2 T4 T14)] [0,1,3,4])
(.seq
(.reg 3 [oM 15 T3,oM 5 T15] [0,1,3,4,5])
(.seq
(.seq
(.reg 4 [oM 16 T3,oQ 17 (.bin .add T16 (cI 1)),oM 3 T17] [0,1,3,4,5])
(.block 2
(.loop
(.seq
(.seq
(.ar4 5 [oQ 18 (.aa6 0 T4),oQ 19 (.load none T18),oQ 20 (.bin .geq T19 (.c (zU 4))),oM 21 T20,gQ 22 21 true (.mov T3),gQ 23 21 true (.load none T1),gQ 24 21 true (.len 1 T23),gQ 25 21 true (.bin .lss T22 T24),oQ 26 (.pick T21 T25 (cB false)),oM 27 T26,gQ 28 27 true (.load none T1),gQ 29 27 true (.mov T3),gQ 30 27 true (.dl2 T28 T29),gK 31 27 true (.af1 208 [T30]),gQ 32 27 true (.aa6 0 T4),gQ 33 27 true (.load none T32),gQ 34 27 true (.bin .eql T31 T33),oQ 35 (.pick T27 T34 (cB false))] false [0,1,3,4,5,35])
(.cond T35
.skip
(.exit 2)))
(.seq
(.block 3
.skip)
(.reg 6 [oM 36 T3,oQ 37 (.bin .add T36 (cI 1)),oM 3 T37] [0,1,3,4,5]))))))
(.seq
(.seq
(.reg 7 [oQ 38 (.aa6 0 T4),oQ 39 (.load none T38),oQ 40 (.bin .geq T39 (.c (zU 4)))] [0,1,3,4,5,40])
(.cond T40
(.reg 8 [oQ 41 (.load none T1),oM 42 T5,oM 43 T3,oQ 44 (.fv6 T41 (some T42) (some T43)),oQ 45 (.aa6 1 T4),oN (.store 1 T45 T44)] [0,1,3,4])
.skip))
(.seq
(.seq
(.reg 9 [oQ 46 (.aa6 0 T4),oQ 47 (.load none T46),oQ 48 (.bin .eql T47 (.c (zU 5)))] [0,1,3,4,48])
(.cond T48
(.reg 10 [oQ 49 (.aa6 1 T4),oQ 50 (.load none T49),oK 51 (.call 209 [T50,(.c (.str [48]))]),oQ 52 (.aa6 1 T4),oN (.store 1 T52 T51)] [0,1,3,4])
.skip))
(.seq
(.reg 11 [oQ 53 (.aa6 0 T4),oQ 54 (.load none T53),oQ 55 (.bin .neq T54 (.c (zU 0))),oM 56 T55,gQ 57 56 true (.mov T0),gQ 58 56 true (.load (some 2) T4),gK 59 56 true (.an1 T57 [T58]),gQ 60 56 true (.not T59),oQ 61 (.pick T56 T60 (cB false))] [0,1,3,61])
(.cond T61
.ret
.skip))))))))))))
theorem fok207:FOK Tryz.prog 207 (62,ic207,[]):=af6 ([]++[208]) Tryz.func207 (by kernel_rfl) (by kernel_rfl) (by kernel_rfl) (by kernel_rfl)
def ic208:IC :=
(.seq
(.reg 0 [oM 2 (.c (zU 0))] [0])
(.seq
(.block 0
(.seq
(.reg 1 [oM 4 T0,oQ 5 (.bin .eql T4 (.c (zU 126))),oM 3 T5] [0,3])
(.cond T3
(.seq
(.reg 2 [oM 2 (.c (zU 1))] [2])
.ret)
(.seq
(.reg 3 [oM 7 T0,oQ 8 (.bin .eql T7 (.c (zU 94))),oM 6 T8] [0,6])
(.cond T6
(.seq
(.reg 4 [oM 2 (.c (zU 3))] [2])
.ret)
(.seq
(.reg 5 [oM 10 T0,oQ 11 (.bin .geq T10 (.c (zU 97))),oM 12 T11,gQ 13 12 true (.mov T0),gQ 14 12 true (.bin .leq T13 (.c (zU 122))),oQ 15 (.pick T12 T14 (cB false)),oM 16 T15,gQ 17 16 false (.mov T0),gQ 18 16 false (.bin .geq T17 (.c (zU 65))),gQ 19 16 false (.mov T18),gQ 20 19 true (.mov T0),gQ 21 19 true (.bin .leq T20 (.c (zU 90))),gQ 22 16 false (.pick T19 T21 (cB false)),oQ 23 (.pick T16 (cB true) T22),oM 9 T23] [0,9])
(.cond T9
(.seq
(.reg 6 [oM 2 (.c (zU 4))] [2])
.ret)
(.seq
(.reg 7 [oM 25 T0,oQ 26 (.bin .geq T25 (.c (zU 48))),oM 27 T26,gQ 28 27 true (.mov T0),gQ 29 27 true (.bin .leq T28 (.c (zU 57))),oQ 30 (.pick T27 T29 (cB false)),oM 24 T30] [24])
(.cond T24
(.seq
(.reg 8 [oM 2 (.c (zU 5))] [2])
.ret)
.skip)))))))))
(.seq
(.reg 9 [oM 2 (.c (zU 0))] [2])
.ret)))
theorem fok208:FOK Tryz.prog 208 (31,ic208,[(.t 2)]):=af6 [] Tryz.func208
def ic209:IC :=
(.seq
(.reg 0 [oM 4 (.c (.str []))] [0,1])
(.seq
(.seq
(.reg 1 [oM 7 T0,oQ 8 (.bin .eql T7 (.c (.str []))),oM 9 T8,gQ 10 9 false (.mov T1),gQ 11 9 false (.bin .eql T10 (.c (.str []))),oQ 12 (.pick T9 (cB true) T11)] [0,1,12])
(.cond T12
(.seq
(.reg 2 [oM 13 T0,oM 4 T13] [4])
.ret)
.skip))
(.seq
(.seq
(.reg 3 [oM 14 T1,oQ 15 (.len 1 T14),oQ 16 (.bin .eql T15 (cI 1)),oM 17 T16,gQ 18 17 true (.mov T1),gQ 19 17 true (.dl2 T18 (cI 0)),gQ 20 17 true (.bin .lss T19 (.c (zU 128))),oQ 21 (.pick T17 T20 (cB false))] [0,1,21])
(.cond T21
(.seq
(.reg 4 [oM 22 T0,oM 23 T1,oQ 24 (.dl2 T23 (cI 0)),oK 25 (.call 213 [T22,T24]),oM 4 T25] [4])
.ret)
.skip))
(.seq
(.seq
(.reg 5 [oM 27 T1,oK 28 (.call 214 [T27]),oM 26 T28,oQ 29 (.ext 0 T26),oQ 30 (.ext 1 T26),oK 5 (.alloc [(.bool false),(.bool false),(.bool false),(.bool false),(.bool false),(.bool false),(.bool false),(.bool false),(.bool false),(.bool false),(.bool false),(.bool false),(.bool false),(.bool false),(.bool false),(.bool false),(.bool false),(.bool false),(.bool false),(.bool false),(.bool false),(.bool false),(.bool false),(.bool false),(.bool false),(.bool false),(.bool false),(.bool false),(.bool false),(.bool false),(.bool false),(.bool false),(.bool false),(.bool false),(.bool false),(.bool false),(.bool false),(.bool false),(.bool false),(.bool false),(.bool false),(.bool false),(.bool false),(.bool false),(.bool false),(.bool false),(.bool false),(.bool false),(.bool false),(.bool false),(.bool false),(.bool false),(.bool false),(.bool false),(.bool false),(.bool false),(.bool false),(.bool false),(.bool false),(.bool false),(.bool false),(.bool false),(.bool false),(.bool false),(.bool false),(.bool false),(.bool false),(.bool false),(.bool false),(.bool false),(.bool false),(.bool false),(.bool false),(.bool false),(.bool false),(.bool false),(.bool false),(.bool false),(.bool false),(.bool false),(.bool false),(.bool false),(.bool false),(.bool false),(.bool false),(.bool false),(.bool false),(.bool false),(.bool false),(.bool false),(.bool false),(.bool false),(.bool false),(.bool false),(.bool false),(.bool false),(.bool false),(.bool false),(.bool false),(.bool false),(.bool false),(.bool false),(.bool false),(.bool false),(.bool false),(.bool false),(.bool false),(.bool false),(.bool false),(.bool false),(.bool false),(.bool false),(.bool false),(.bool false),(.bool false),(.bool false),(.bool false),(.bool false),(.bool false),(.bool false),(.bool false),(.bool false),(.bool false),(.bool false),(.bool false),(.bool false),(.bool false),(.bool false),(.bool false),(.bool false),(.bool false),(.bool false),(.bool false),(.bool false),(.bool false),(.bool false),(.bool false),(.bool false),(.bool false),(.bool false),(.bool false),(.bool false),(.bool false),(.bool false),(.bool false),(.bool false),(.bool false),(.bool false),(.bool false),(.bool false),(.bool false),(.bool false),(.bool false),(.bool false),(.bool false),(.bool false),(.bool false),(.bool false),(.bool false),(.bool false),(.bool false),(.bool false),(.bool false),(.bool false),(.bool false),(.bool false),(.bool false),(.bool false),(.bool false),(.bool false),(.bool false),(.bool false),(.bool false),(.bool false),(.bool false),(.bool false),(.bool false),(.bool false),(.bool false),(.bool false),(.bool false),(.bool false),(.bool false),(.bool false),(.bool false),(.bool false),(.bool false),(.bool false),(.bool false),(.bool false),(.bool false),(.bool false),(.bool false),(.bool false),(.bool false),(.bool false),(.bool false),(.bool false),(.bool false),(.bool false),(.bool false),(.bool false),(.bool false),(.bool false),(.bool false),(.bool false),(.bool false),(.bool false),(.bool false),(.bool false),(.bool false),(.bool false),(.bool false),(.bool false),(.bool false),(.bool false),(.bool false),(.bool false),(.bool false),(.bool false),(.bool false),(.bool false),(.bool false),(.bool false),(.bool false),(.bool false),(.bool false),(.bool false),(.bool false),(.bool false),(.bool false),(.bool false),(.bool false),(.bool false),(.bool false),(.bool false),(.bool false),(.bool false),(.bool false),(.bool false),(.bool false),(.bool false),(.bool false),(.bool false),(.bool false),(.bool false),(.bool false),(.bool false),(.bool false),(.bool false),(.bool false),(.bool false),(.bool false),(.bool false),(.bool false),(.bool false)]),oN (.store 256 T5 T29),oM 6 T30] [0,1,5,6])
(.seq
(.reg 6 [oM 31 T6] [0,1,5,31])
(.cond T31
(.seq
(.reg 7 [oM 32 T0,oK 33 (.call 215 [T32,T5]),oM 4 T33] [4])
.ret)
.skip)))
(.seq
(.reg 8 [oM 34 T0,oM 35 T1,oK 36 (.call 216 [T34,T35]),oM 4 T36] [4])
.ret)))))
theorem fok209:FOK Tryz.prog 209 (37,ic209,[(.t 4)]):=af6 [] Tryz.func209
def ic210:IC :=
(.seq
(.reg 0 [oM 2 (cB false)] [0])
(.seq
(.reg 1 [oM 3 T0,oM 4 T0,oQ 5 (.bin .neq T3 T4),oM 2 T5] [2])
.ret))
theorem fok210:FOK Tryz.prog 210 (6,ic210,[(.t 2)]):=af6 [] Tryz.func210
def ic211:IC :=
(.seq
(.reg 0 [oM 2 (cB false)] [0])
(.seq
(.reg 1 [oM 3 T0,oM 4 T0,oQ 5 (.bin .neq T3 T4),oM 2 T5] [2])
.ret))
theorem fok211:FOK Tryz.prog 211 (6,ic211,[(.t 2)]):=af6 [] Tryz.func211
def ic213:IC :=
(.seq
(.reg 0 [oM 4 (.c (.str []))] [0,1])
(.seq
(.block 0
(.loop
(.seq
(.seq
(.reg 1 [oM 5 T0,oQ 6 (.len 1 T5),oQ 7 (.bin .gtr T6 (cI 0)),oM 8 T7,gQ 9 8 true (.mov T0),gQ 10 8 true (.dl2 T9 (cI 0)),gQ 11 8 true (.mov T1),gQ 12 8 true (.bin .eql T10 T11),oQ 13 (.pick T8 T12 (cB false))] [0,1,13])
(.cond T13
.skip
(.exit 0)))
(.block 1
(.reg 2 [oM 14 T0,oQ 15 (.fv6 T14 (some (cI 1)) none),oM 0 T15] [0,1])))))
(.seq
(.reg 3 [oM 16 T0,oM 4 T16] [4])
.ret)))
theorem fok213:FOK Tryz.prog 213 (17,ic213,[(.t 4)]):=af6 [] Tryz.func213
end Go.Id.Tryz
