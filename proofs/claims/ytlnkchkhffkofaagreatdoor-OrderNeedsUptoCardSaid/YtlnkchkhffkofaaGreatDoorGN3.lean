/- The compiled codes of functions,written by a program out of the given form. Conditions: none. -/
import Derived.Test.YtlnkchkhffkofaaGreatDoorFwZb
import Derived.Test.YtlnkchkhffkofaaGreatDoorProg
set_option linter.all false
namespace Go.Id.Tryz
open Go Go.Id Go.Proofs
def jc4:List Nat:=List.range 292
def ic235:IC :=
(.seq
(.reg 0 [oM 4 (.c (.str []))] [0,1])
(.seq
(.seq
(.reg 1 [oM 7 T0,oQ 8 (.bin .eql T7 (.c (.str []))),oM 9 T8,gQ 10 9 false (.mov T1),gQ 11 9 false (.bin .eql T10 (.c (.str []))),oQ 12 (.pick T9 (cB true) T11)] [0,1,12])
(.cond T12
(.seq
(.reg 2 [oM 13 T0,oM 4 T13] [4])
.ret)
.skip))
(.seq
(.seq
(.reg 3 [oM 14 T1,oQ 15 (.len 1 T14),oQ 16 (.bin .eql T15 (cI 1)),oM 17 T16,gQ 18 17 true (.mov T1),gQ 19 17 true (.fe8 T18 (cI 0)),gQ 20 17 true (.bin .lss T19 (.c (zU 128))),oQ 21 (.pick T17 T20 (cB false))] [0,1,21])
(.cond T21
(.seq
(.reg 4 [oM 22 T0,oM 23 T1,oQ 24 (.fe8 T23 (cI 0)),oK 25 (.call 251 [T22,T24]),oM 4 T25] [4])
.ret)
.skip))
(.seq
(.seq
(.reg 5 [oM 27 T1,oK 28 (.call 252 [T27]),oM 26 T28,oQ 29 (.ext 0 T26),oQ 30 (.ext 1 T26),oK 5 (.alloc [(.bool false),(.bool false),(.bool false),(.bool false),(.bool false),(.bool false),(.bool false),(.bool false),(.bool false),(.bool false),(.bool false),(.bool false),(.bool false),(.bool false),(.bool false),(.bool false),(.bool false),(.bool false),(.bool false),(.bool false),(.bool false),(.bool false),(.bool false),(.bool false),(.bool false),(.bool false),(.bool false),(.bool false),(.bool false),(.bool false),(.bool false),(.bool false),(.bool false),(.bool false),(.bool false),(.bool false),(.bool false),(.bool false),(.bool false),(.bool false),(.bool false),(.bool false),(.bool false),(.bool false),(.bool false),(.bool false),(.bool false),(.bool false),(.bool false),(.bool false),(.bool false),(.bool false),(.bool false),(.bool false),(.bool false),(.bool false),(.bool false),(.bool false),(.bool false),(.bool false),(.bool false),(.bool false),(.bool false),(.bool false),(.bool false),(.bool false),(.bool false),(.bool false),(.bool false),(.bool false),(.bool false),(.bool false),(.bool false),(.bool false),(.bool false),(.bool false),(.bool false),(.bool false),(.bool false),(.bool false),(.bool false),(.bool false),(.bool false),(.bool false),(.bool false),(.bool false),(.bool false),(.bool false),(.bool false),(.bool false),(.bool false),(.bool false),(.bool false),(.bool false),(.bool false),(.bool false),(.bool false),(.bool false),(.bool false),(.bool false),(.bool false),(.bool false),(.bool false),(.bool false),(.bool false),(.bool false),(.bool false),(.bool false),(.bool false),(.bool false),(.bool false),(.bool false),(.bool false),(.bool false),(.bool false),(.bool false),(.bool false),(.bool false),(.bool false),(.bool false),(.bool false),(.bool false),(.bool false),(.bool false),(.bool false),(.bool false),(.bool false),(.bool false),(.bool false),(.bool false),(.bool false),(.bool false),(.bool false),(.bool false),(.bool false),(.bool false),(.bool false),(.bool false),(.bool false),(.bool false),(.bool false),(.bool false),(.bool false),(.bool false),(.bool false),(.bool false),(.bool false),(.bool false),(.bool false),(.bool false),(.bool false),(.bool false),(.bool false),(.bool false),(.bool false),(.bool false),(.bool false),(.bool false),(.bool false),(.bool false),(.bool false),(.bool false),(.bool false),(.bool false),(.bool false),(.bool false),(.bool false),(.bool false),(.bool false),(.bool false),(.bool false),(.bool false),(.bool false),(.bool false),(.bool false),(.bool false),(.bool false),(.bool false),(.bool false),(.bool false),(.bool false),(.bool false),(.bool false),(.bool false),(.bool false),(.bool false),(.bool false),(.bool false),(.bool false),(.bool false),(.bool false),(.bool false),(.bool false),(.bool false),(.bool false),(.bool false),(.bool false),(.bool false),(.bool false),(.bool false),(.bool false),(.bool false),(.bool false),(.bool false),(.bool false),(.bool false),(.bool false),(.bool false),(.bool false),(.bool false),(.bool false),(.bool false),(.bool false),(.bool false),(.bool false),(.bool false),(.bool false),(.bool false),(.bool false),(.bool false),(.bool false),(.bool false),(.bool false),(.bool false),(.bool false),(.bool false),(.bool false),(.bool false),(.bool false),(.bool false),(.bool false),(.bool false),(.bool false),(.bool false),(.bool false),(.bool false),(.bool false),(.bool false),(.bool false),(.bool false),(.bool false),(.bool false),(.bool false),(.bool false),(.bool false),(.bool false),(.bool false),(.bool false),(.bool false),(.bool false),(.bool false),(.bool false),(.bool false),(.bool false),(.bool false),(.bool false)]),oN (.store 256 T5 T29),oM 6 T30] [0,1,5,6])
(.seq
(.reg 6 [oM 31 T6] [0,1,5,31])
(.cond T31
(.seq
(.reg 7 [oM 32 T0,oK 33 (.call 253 [T32,T5]),oM 4 T33] [4])
.ret)
.skip)))
(.seq
(.reg 8 [oM 34 T0,oM 35 T1,oK 36 (.call 254 [T34,T35]),oM 4 T36] [4])
.ret)))))
theorem fok235:FOK Tryz.prog 235 (37,ic235,[(.t 4)]):=ak2 [] Tryz.func235
def ic236:IC :=
(.seq
(.reg 0 [oM 2 (cB false)] [0])
(.seq
(.reg 1 [oM 3 T0,oM 4 T0,oQ 5 (.bin .neq T3 T4),oM 2 T5] [2])
.ret))
theorem fok236:FOK Tryz.prog 236 (6,ic236,[(.t 2)]):=ak2 [] Tryz.func236
def ic237:IC :=
(.seq
(.reg 0 [oM 2 (cB false)] [0])
(.seq
(.reg 1 [oM 3 T0,oM 4 T0,oQ 5 (.bin .neq T3 T4),oM 2 T5] [2])
.ret))
theorem fok237:FOK Tryz.prog 237 (6,ic237,[(.t 2)]):=ak2 [] Tryz.func237
def ic238:IC :=
(.seq
(.reg 0 [⟨(some 4),none,(.q (.mov (.c (.int .i64 0))))⟩] [0,1])
(.seq
(.reg 1 [⟨(some 5),none,(.q (.mov T0))⟩,⟨(some 6),none,(.q (.mov T1))⟩,⟨(some 7),none,(.q (.ibs T5 T6))⟩,⟨(some 4),none,(.q (.mov T7))⟩] [4])
.ret))
theorem fok238:FOK Tryz.prog 238 (8,ic238,[(.t 4)]):=.mk (pf:=[]) (an:=[(0,[0,1]),(1,[4])]) (by kernel_rfl) (ac3 Tryz.func238 (by kernel_rfl) (by kernel_rfl) (by kernel_rfl))
def ic239:IC :=
(.seq
(.reg 0 [⟨(some 4),none,(.q (.mov (.c (.bool false))))⟩] [0,1])
(.seq
(.reg 1 [⟨(some 5),none,(.q (.mov T0))⟩,⟨(some 6),none,(.q (.len 1 T5))⟩,⟨(some 7),none,(.q (.mov T1))⟩,⟨(some 8),none,(.q (.len 1 T7))⟩,⟨(some 9),none,(.q (.bin .geq T6 T8))⟩,⟨(some 10),none,(.q (.mov T9))⟩,⟨(some 11),(some ⟨10,true⟩),(.q (.mov T0))⟩,⟨(some 12),(some ⟨10,true⟩),(.q (.mov T1))⟩,⟨(some 13),(some ⟨10,true⟩),(.q (.len 1 T12))⟩,⟨(some 14),(some ⟨10,true⟩),(.q (.gq9 T11 none (some T13)))⟩,⟨(some 15),(some ⟨10,true⟩),(.q (.mov T1))⟩,⟨(some 16),(some ⟨10,true⟩),(.q (.bin .eql T14 T15))⟩,⟨(some 17),none,(.q (.pick T10 T16 (.c (.bool false))))⟩,⟨(some 4),none,(.q (.mov T17))⟩] [4])
.ret))
theorem fok239:FOK Tryz.prog 239 (18,ic239,[(.t 4)]):=.mk (pf:=[]) (an:=[(0,[0,1]),(1,[4])]) (by kernel_rfl) (ac3 Tryz.func239 (by kernel_rfl) (by kernel_rfl) (by kernel_rfl))
def ic240:IC :=
(.seq
(.reg 0 [⟨(some 4),none,(.q (.mov (.c (.int .i64 0))))⟩] [0,1])
(.seq
(.seq
(.reg 1 [⟨(some 6),none,(.q (.mov T0))⟩,⟨(some 7),none,(.q (.len 0 T6))⟩,⟨(some 8),none,(.q (.mov (.c (.int .i64 0))))⟩] [0,1,7,8])
(.block 0
(.loop
(.seq
(.reg 2 [⟨(some 9),none,(.q (.bin .lss T8 T7))⟩] [0,1,7,8,9])
(.seq
(.cond T9
.skip
(.exit 0))
(.seq
(.block 1
(.seq
(.reg 3 [⟨(some 10),none,(.q (.mov T8))⟩,⟨(some 5),none,(.q (.mov T10))⟩] [0,1,5,7,8])
(.seq
(.reg 4 [⟨(some 11),none,(.q (.mov T1))⟩,⟨(some 12),none,(.q (.mov T0))⟩,⟨(some 13),none,(.q (.mov T5))⟩,⟨(some 14),none,(.q (.ab5 1 T12 T13))⟩,⟨(some 15),none,(.q (.load none T14))⟩,⟨(some 16),none,(.aj2 T11 [T15])⟩] [0,1,5,7,8,16])
(.cond T16
(.seq
(.reg 5 [⟨(some 17),none,(.q (.mov T5))⟩,⟨(some 4),none,(.q (.mov T17))⟩] [4])
.ret)
.skip))))
(.reg 6 [⟨(some 18),none,(.q (.bin .add T8 (.c (.int .i64 1))))⟩,⟨(some 8),none,(.q (.mov T18))⟩] [0,1,7,8])))))))
(.seq
(.reg 7 [⟨(some 4),none,(.q (.mov (.c (.int .i64 (-1)))))⟩] [4])
.ret)))
theorem fok240:FOK Tryz.prog 240 (19,ic240,[(.t 4)]):=.mk (pf:=[]) (an:=[(0,[0,1]),(1,[0,1,7,8]),(2,[0,1,7,8,9]),(3,[0,1,5,7,8]),(4,[0,1,5,7,8,16]),(5,[4]),(6,[0,1,7,8]),(7,[4])]) (by kernel_rfl) (ac3 Tryz.func240 (by kernel_rfl) (by kernel_rfl) (by kernel_rfl))
def ic241:IC :=
(.seq
(.reg 0 [oM 10 (cI 0),oM 11 (cI 0)] [0,1,2,3,4])
(.seq
(.seq
(.an5 1 [oM 12 T4,oM 13 T0,oM 14 T2,oQ 15 (.ab5 1 T13 T14),oQ 16 (.load none T15),oM 17 T0,oM 18 T1,oQ 19 (.ab5 1 T17 T18),oQ 20 (.load none T19),oK 21 (.aj2 T12 [T16,T20]),oQ 22 (.bin .lss T21 (cI 0))] false [1,2,3,22])
(.cond T22
(.seq
(.reg 2 [oM 23 T3,oQ 24 (.bd7 T23),oQ 25 (.load none T24),oQ 26 (.bin .add T25 (cI 1)),oQ 27 (.bd7 T23),oN (.store 1 T27 T26)] [1,2])
(.seq
(.reg 3 [oM 28 T2,oM 29 T1,oM 10 T28,oM 11 T29] [10,11])
.ret))
.skip))
(.seq
(.reg 4 [oM 30 T1,oM 31 T2,oM 10 T30,oM 11 T31] [10,11])
.ret)))
theorem fok241:FOK Tryz.prog 241 (32,ic241,[(.t 10),(.t 11)]):=ak2 [] Tryz.func241
def ic242:IC :=
(.seq
(.reg 0 [oK 3 (.ao2 T1),oK 4 (.alloc [(.str []),(zU 0),(zI 0),(.str []),(.str [])])] [0,3,4])
(.seq
(.reg 1 [oM 5 T0,oQ 6 (.load (some 3) T3),oQ 7 (.bld [(.str []),(zU 0),(zI 0),(.str []),(.str [])] [⟨0,⟨1,T5⟩⟩,⟨1,⟨1,(.c (zU 2))⟩⟩,⟨2,⟨3,T6⟩⟩]),oN (.store 5 T4 T7)] [4])
.ret))
theorem fok242:FOK Tryz.prog 242 (8,ic242,[(.cell (some 5) 4)]):=ak2 [1000003] Tryz.func242
def ic243:IC :=
(.seq
(.reg 0 [oM 2 (.c (zU 0))] [0])
(.seq
(.reg 1 [oQ 3 (.bld [(zU 0),(zU 0),(zU 0)] [⟨0,⟨1,(.c (zU 1))⟩⟩,⟨1,⟨1,(.c (zU 2))⟩⟩,⟨2,⟨1,(.c (zU 4))⟩⟩]),oM 4 T0,oQ 5 (.bin .add T4 (cI 1)),oQ 6 (.idx none 3 1 T3 T5),oM 2 T6] [2])
.ret))
theorem fok243:FOK Tryz.prog 243 (7,ic243,[(.t 2)]):=ak2 [] Tryz.func243
def ic251:IC :=
(.seq
(.reg 0 [oM 4 (.c (.str []))] [0,1])
(.seq
(.block 0
(.loop
(.seq
(.seq
(.reg 1 [oM 5 T0,oQ 6 (.len 1 T5),oQ 7 (.bin .gtr T6 (cI 0)),oM 8 T7,gQ 9 8 true (.mov T0),gQ 10 8 true (.fe8 T9 (cI 0)),gQ 11 8 true (.mov T1),gQ 12 8 true (.bin .eql T10 T11),oQ 13 (.pick T8 T12 (cB false))] [0,1,13])
(.cond T13
.skip
(.exit 0)))
(.block 1
(.reg 2 [oM 14 T0,oQ 15 (.gq9 T14 (some (cI 1)) none),oM 0 T15] [0,1])))))
(.seq
(.reg 3 [oM 16 T0,oM 4 T16] [4])
.ret)))
theorem fok251:FOK Tryz.prog 251 (17,ic251,[(.t 4)]):=ak2 [] Tryz.func251
end Go.Id.Tryz
