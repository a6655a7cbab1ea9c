/- The compiled codes of functions, written by a program out of the given form. Conditions: none. -/
import Derived.Test.YtgdmgomjhlohkaaGreatDoorFwW
import Derived.Test.YtgdmgomjhlohkaaGreatDoorProg
set_option linter.all false
namespace Go.Id.Tryz
open Go Go.Id Go.Proofs
def allF1 : List Nat := List.range 352
def ic62 : IC :=
 (.seq
 (.reg 0 [oM 4 (cI 0)] [0, 1])
 (.seq
 (.seq
 (.reg 1 [oM 8 0, oQ 9 (.isnil (.pointer 202) false 8)] [0, 1, 9])
 (.cond 9
 (.seq
 (.reg 2 [oM 4 (cI 2)] [4])
 .ret)
 .skip))
 (.seq
 (.reg 3 [oM 10 0, oQ 11 (.nchk 10), oQ 12 (.faddr 0 11), oQ 13 (.faddr 0 12), oQ 14 (.load none 13), oM 15 1, oK 16 (.call 117 [14, 15]), oM 5 16] [0, 5])
 (.seq
 (.seq
 (.reg 4 [oM 17 5, oQ 18 (.bin .neq 17 (cI 0))] [0, 5, 18])
 (.cond 18
 (.seq
 (.reg 5 [oM 19 5, oM 4 19] [4])
 .ret)
 .skip))
 (.seq
 (.reg 6 [oM 20 0, oQ 21 (.nchk 20), oQ 22 (.faddr 4 21), oN (.store 1 22 (cI 0))] [0, 5])
 (.seq
 (.seq
 (.reg 7 [oM 23 0, oQ 24 (.nchk 23), oQ 25 (.faddr 2 24), oQ 26 (.load none 25), oQ 27 (.len 0 26), oM 28 (cI 0)] [0, 5, 26, 27, 28])
 (.block 0
 (.loop
 (.seq
 (.reg 8 [oQ 29 (.bin .lss 28 27)] [0, 5, 26, 27, 28, 29])
 (.seq
 (.cond 29
 .skip
 (.exit 0))
 (.seq
 (.block 1
 (.seq
 (.reg 9 [oM 30 28, oQ 31 (.iaddr 1 26 28), oQ 32 (.load none 31), oM 6 30, oM 7 32] [0, 5, 6, 7, 26, 27, 28])
 (.seq
 (.reg 10 [oM 33 7, oQ 34 (.len 0 33), oQ 35 (.bin .eql 34 (cI 1))] [0, 5, 6, 26, 27, 28, 35])
 (.cond 35
 (.reg 11 [oM 36 0, oM 37 0, oQ 38 (.nchk 37), oQ 39 (.faddr 5 38), oQ 40 (.load none 39), oM 41 6, oK 42 (.bslt 1 1 [(zI 0)] [⟨0, ⟨1, 41⟩⟩]), oK 43 (.app 1 40 42), oQ 44 (.nchk 36), oQ 45 (.faddr 5 44), oN (.store 1 45 43)] [0, 5, 26, 27, 28])
 .skip))))
 (.reg 12 [oQ 46 (.bin .add 28 (cI 1)), oM 28 46] [0, 5, 26, 27, 28])))))))
 (.seq
 (.reg 13 [oM 47 5, oM 4 47] [4])
 .ret)))))))
theorem fok62 : FOK Tryz.prog 62 (48, ic62, [(.t 4)]) := fokA [1000042, 2000000] Tryz.func62 (by kernel_rfl) (by kernel_rfl) (by kernel_rfl) (by kernel_rfl)
def ic63 : IC :=
 (.seq
 (.reg 0 [oM 4 (cI 0)] [0, 1])
 (.seq
 (.seq
 (.reg 1 [oM 5 0, oQ 6 (.isnil (.pointer 202) false 5)] [0, 1, 6])
 (.cond 6
 (.seq
 (.reg 2 [oM 4 (cI 0)] [4])
 .ret)
 .skip))
 (.seq
 (.reg 3 [oM 7 0, oQ 8 (.nchk 7), oQ 9 (.faddr 0 8), oQ 10 (.faddr 0 9), oQ 11 (.load none 10), oM 12 1, oK 13 (.call 118 [11, 12]), oM 4 13] [4])
 .ret)))
theorem fok63 : FOK Tryz.prog 63 (14, ic63, [(.t 4)]) := fokA [2000000] Tryz.func63 (by kernel_rfl) (by kernel_rfl) (by kernel_rfl) (by kernel_rfl)
def ic64 : IC :=
 (.seq
 (.reg 0 [oM 2 (cI 0)] [0])
 (.seq
 (.seq
 (.reg 1 [oM 3 0, oQ 4 (.isnil (.pointer 188) false 3)] [0, 4])
 (.cond 4
 (.seq
 (.reg 2 [oM 2 (cI 0)] [2])
 .ret)
 .skip))
 (.seq
 (.dreg 3 [oM 5 0, oQ 6 (.nchk 5), oQ 7 (.faddr 1 6), oQ 8 (.load none 7), oQ 9 (.len 0 8), oM 10 0, oQ 11 (.nchk 10), oQ 12 (.faddr 2 11), oQ 13 (.load none 12), oQ 14 (.bin .add 9 13), oM 2 14] false [2])
 .ret)))
theorem fok64 : FOK Tryz.prog 64 (15, ic64, [(.t 2)]) := fokA [2000000] Tryz.func64 (by kernel_rfl) (by kernel_rfl) (by kernel_rfl) (by kernel_rfl)
def ic65 : IC :=
 (.seq
 (.reg 0 [oM 2 (.c .nilslice)] [0])
 (.seq
 (.seq
 (.reg 1 [oM 3 0, oQ 4 (.isnil (.pointer 129) false 3)] [0, 4])
 (.cond 4
 (.seq
 (.reg 2 [oM 2 (.c .nilslice)] [2])
 .ret)
 .skip))
 (.seq
 (.reg 3 [oM 5 0, oQ 6 (.nchk 5), oQ 7 (.faddr 2 6), oQ 8 (.load none 7), oK 9 (.call 119 [8]), oM 2 9] [2])
 .ret)))
theorem fok65 : FOK Tryz.prog 65 (10, ic65, [(.t 2)]) := fokA [2000000] Tryz.func65 (by kernel_rfl) (by kernel_rfl) (by kernel_rfl) (by kernel_rfl)
def ic66 : IC :=
 (.seq
 (.reg 0 [oK 3 (.boxt 1), oM 4 (cB false)] [0, 3])
 (.seq
 (.reg 1 [oM 5 0, oQ 6 (.load (some 3) 3), oK 7 (.call 120 [5, 6]), oQ 8 (.bin .geq 7 (cI 0)), oM 4 8] [4])
 .ret))
theorem fok66 : FOK Tryz.prog 66 (9, ic66, [(.t 4)]) := fokA [1000003, 2000000] Tryz.func66 (by kernel_rfl) (by kernel_rfl) (by kernel_rfl) (by kernel_rfl)
def ic67 : IC :=
 (.seq
 (.reg 0 [oM 4 (.c .nilslice)] [0, 1])
 (.seq
 (.seq
 (.reg 1 [oM 5 0, oQ 6 (.isnil (.pointer 129) false 5), oM 7 6, gQ 8 7 false (.mov 1), gQ 9 7 false (.bin .lss 8 (cI 0)), oQ 10 (.pick 7 (cB true) 9), oM 11 10, gQ 12 11 false (.mov 1), gQ 13 11 false (.mov 0), gQ 14 11 false (.nchk 13), gQ 15 11 false (.faddr 4 14), gQ 16 11 false (.load none 15), gQ 17 11 false (.len 0 16), gQ 18 11 false (.bin .geq 12 17), oQ 19 (.pick 11 (cB true) 18)] [0, 1, 19])
 (.cond 19
 (.seq
 (.reg 2 [oM 4 (.c .nilslice)] [4])
 .ret)
 .skip))
 (.seq
 (.reg 3 [oM 20 0, oQ 21 (.nchk 20), oQ 22 (.faddr 4 21), oQ 23 (.load none 22), oM 24 1, oQ 25 (.iaddr 1 23 24), oQ 26 (.load none 25), oK 27 (.call 121 [26]), oM 4 27] [4])
 .ret)))
theorem fok67 : FOK Tryz.prog 67 (28, ic67, [(.t 4)]) := fokA [2000000] Tryz.func67 (by kernel_rfl) (by kernel_rfl) (by kernel_rfl) (by kernel_rfl)
def ic68 : IC :=
(.seq
 (.reg 0 [⟨(some 8), none, (.q (.mov (.c (.int .i64 0))))⟩] [0, 1, 2, 3])
 (.seq
  (.seq
   (.reg 1 [⟨(some 11), none, (.q (.mov (.t 1)))⟩, ⟨(some 12), none, (.q (.len 0 (.t 11)))⟩, ⟨(some 13), none, (.q (.mov (.c (.int .i64 0))))⟩] [0, 2, 3, 11, 12, 13])
   (.block 0
    (.loop
     (.seq
      (.reg 2 [⟨(some 14), none, (.q (.bin .lss (.t 13) (.t 12)))⟩] [0, 2, 3, 11, 12, 13, 14])
      (.seq
       (.cond (.t 14)
        .skip
        (.exit 0))
       (.seq
        (.block 1
         (.seq
          (.reg 3 [⟨(some 15), none, (.q (.iaddr 15 (.t 11) (.t 13)))⟩, ⟨(some 16), none, (.q (.load (some 15) (.t 15)))⟩, ⟨(some 10), none, (.alloc [(.str []), (.int .i64 0), (.str []), (.str []), (.int .u8 0), (.str []), .nilslice, .nilslice, .nilslice, .nilslice, .nilslice, .nilslice, .nilslice, .nilslice, .nilslice])⟩, ⟨none, none, (.store 15 (.t 10) (.t 16))⟩] [0, 2, 3, 10, 11, 12, 13])
          (.seq
           (.seq
            (.reg 4 [⟨(some 17), none, (.q (.load (some 15) (.t 10)))⟩, ⟨(some 18), none, (.pcall 122 [(.t 17)])⟩, ⟨(some 19), none, (.q (.not (.t 18)))⟩] [0, 2, 3, 10, 11, 12, 13, 19])
            (.cond (.t 19)
            (.seq
            (.reg 5 [⟨(some 8), none, (.q (.mov (.c (.int .i64 4))))⟩] [8])
            .ret)
            .skip))
           (.seq
            (.dreg 6 [⟨(some 20), none, (.q (.mov (.t 0)))⟩, ⟨(some 21), none, (.q (.nchk (.t 20)))⟩, ⟨(some 22), none, (.q (.faddr 2 (.t 21)))⟩, ⟨(some 23), none, (.q (.load none (.t 22)))⟩, ⟨(some 24), none, (.q (.faddr 0 (.t 10)))⟩, ⟨(some 25), none, (.q (.load none (.t 24)))⟩, ⟨(some 26), none, (.q (.mov (.t 0)))⟩, ⟨(some 27), none, (.q (.nchk (.t 26)))⟩, ⟨(some 28), none, (.q (.faddr 2 (.t 27)))⟩, ⟨(some 29), none, (.q (.load none (.t 28)))⟩, ⟨(some 30), none, (.q (.faddr 0 (.t 10)))⟩, ⟨(some 31), none, (.q (.load none (.t 30)))⟩, ⟨(some 32), none, (.q (.lkp 2 .nilslice false (.t 29) (.t 31)))⟩, ⟨(some 33), none, (.q (.mov (.t 0)))⟩, ⟨(some 34), none, (.q (.nchk (.t 33)))⟩, ⟨(some 35), none, (.q (.faddr 0 (.t 34)))⟩, ⟨(some 36), none, (.q (.load none (.t 35)))⟩, ⟨(some 37), none, (.q (.len 0 (.t 36)))⟩, ⟨(some 38), none, (.bslt 1 1 [(.int .i64 0)] [⟨0, ⟨1, (.t 37)⟩⟩])⟩, ⟨(some 39), none, (.app 1 (.t 32) (.t 38))⟩, ⟨none, none, (.mupd 2 (.t 23) (.t 25) (.t 39))⟩] true [0, 2, 3, 10, 11, 12, 13])
            (.dreg 7 [⟨(some 40), none, (.q (.mov (.t 0)))⟩, ⟨(some 41), none, (.q (.mov (.t 0)))⟩, ⟨(some 42), none, (.q (.nchk (.t 41)))⟩, ⟨(some 43), none, (.q (.faddr 0 (.t 42)))⟩, ⟨(some 44), none, (.q (.load none (.t 43)))⟩, ⟨(some 45), none, (.q (.load (some 15) (.t 10)))⟩, ⟨(some 46), none, (.pcall 89 [(.t 45)])⟩, ⟨(some 47), none, (.q (.mov (.t 2)))⟩, ⟨(some 48), none, (.q (.mov (.t 3)))⟩, ⟨(some 49), none, (.q (.bld [(.str []), (.int .i64 0), (.str []), (.str []), (.int .u8 0), (.str []), .nilslice, .nilslice, .nilslice, .nilslice, .nilslice, .nilslice, .nilslice, .nilslice, .nilslice, (.int .i64 0), (.int .i64 0)] [⟨0, ⟨15, (.t 46)⟩⟩, ⟨15, ⟨1, (.t 47)⟩⟩, ⟨16, ⟨1, (.t 48)⟩⟩]))⟩, ⟨(some 50), none, (.bslt 17 1 [(.str []), (.int .i64 0), (.str []), (.str []), (.int .u8 0), (.str []), .nilslice, .nilslice, .nilslice, .nilslice, .nilslice, .nilslice, .nilslice, .nilslice, .nilslice, (.int .i64 0), (.int .i64 0)] [⟨0, ⟨17, (.t 49)⟩⟩])⟩, ⟨(some 51), none, (.app 17 (.t 44) (.t 50))⟩, ⟨(some 52), none, (.q (.nchk (.t 40)))⟩, ⟨(some 53), none, (.q (.faddr 0 (.t 52)))⟩, ⟨none, none, (.store 1 (.t 53) (.t 51))⟩] true [0, 2, 3, 11, 12, 13])))))
        (.reg 8 [⟨(some 54), none, (.q (.bin .add (.t 13) (.c (.int .i64 1))))⟩, ⟨(some 13), none, (.q (.mov (.t 54)))⟩] [0, 2, 3, 11, 12, 13])))))))
  (.seq
   (.reg 9 [⟨(some 8), none, (.q (.mov (.c (.int .i64 0))))⟩] [8])
   .ret)))
theorem fok68 : FOK Tryz.prog 68 (55, ic68, [(.t 8)]) := .mk (pf := ([1000038, 1000050] ++ allF1)) (an := [(0, [0, 1, 2, 3]), (1, [0, 2, 3, 11, 12, 13]), (2, [0, 2, 3, 11, 12, 13, 14]), (3, [0, 2, 3, 10, 11, 12, 13]), (4, [0, 2, 3, 10, 11, 12, 13, 19]), (5, [8]), (6, [0, 2, 3, 10, 11, 12, 13]), (7, [0, 2, 3, 11, 12, 13]), (8, [0, 2, 3, 11, 12, 13]), (9, [8])]) (by kernel_rfl) (fnOK_of Tryz.func68 (by kernel_rfl) (by kernel_rfl) (by kernel_rfl))
def ic69 : IC :=
 (.seq
 (.reg 0 [oM 2 (cB false)] [0])
 (.seq
 (.reg 1 [oM 3 0, oK 4 (.call 123 [3]), oM 5 4, gQ 6 5 true (.mov 0), gQ 7 5 true (.bin .neq 6 (.c (zU 1))), oQ 8 (.pick 5 7 (cB false)), oM 2 8] [2])
 .ret))
theorem fok69 : FOK Tryz.prog 69 (9, ic69, [(.t 2)]) := fokA [2000000] Tryz.func69 (by kernel_rfl) (by kernel_rfl) (by kernel_rfl) (by kernel_rfl)
def ic70 : IC :=
 (.seq
 (.reg 0 [oM 4 (cB false)] [0, 1])
 (.seq
 (.reg 1 [oM 5 0, oM 6 1, oK 7 (.call 124 [5, 6]), oQ 8 (.bin .geq 7 (cI 0)), oM 4 8] [4])
 .ret))
theorem fok70 : FOK Tryz.prog 70 (9, ic70, [(.t 4)]) := fokA [2000000] Tryz.func70 (by kernel_rfl) (by kernel_rfl) (by kernel_rfl) (by kernel_rfl)
def ic71 : IC :=
 (.seq
 (.reg 0 [oK 1 (.boxt 0), oM 2 (cB false)] [1])
 (.seq
 (.reg 1 [oQ 3 (.faddr 0 1), oQ 4 (.load none 3), oQ 5 (.bin .lss 4 (.c (zU 1))), oM 6 5, gQ 7 6 false (.faddr 0 1), gQ 8 6 false (.load none 7), gQ 9 6 false (.bin .gtr 8 (.c (zU 4))), oQ 10 (.pick 6 (cB true) 9), oM 11 10, gQ 12 11 false (.faddr 1 1), gQ 13 11 false (.load (some 5) 12), gK 14 11 false (.call 72 [13]), gQ 15 11 false (.not 14), oQ 16 (.pick 11 (cB true) 15), oM 2 16] [2])
 .ret))
theorem fok71 : FOK Tryz.prog 71 (17, ic71, [(.t 2)]) := fokA [1000001, 2000000] Tryz.func71 (by kernel_rfl) (by kernel_rfl) (by kernel_rfl) (by kernel_rfl)
def ic72 : IC :=
(.seq
 (.reg 0 [⟨(some 1), none, (.boxt (.t 0))⟩, ⟨(some 2), none, (.q (.mov (.c (.bool false))))⟩] [1])
 (.seq
  (.block 0
   (.seq
    (.reg 1 [⟨(some 4), none, (.q (.faddr 0 (.t 1)))⟩, ⟨(some 5), none, (.q (.load none (.t 4)))⟩, ⟨(some 6), none, (.call 125 [(.t 5)])⟩, ⟨(some 7), none, (.q (.not (.t 6)))⟩, ⟨(some 8), none, (.q (.mov (.t 7)))⟩, ⟨(some 9), (some ⟨8, false⟩), (.q (.faddr 1 (.t 1)))⟩, ⟨(some 10), (some ⟨8, false⟩), (.q (.load none (.t 9)))⟩, ⟨(some 11), (some ⟨8, false⟩), (.call 126 [(.t 10)])⟩, ⟨(some 12), (some ⟨8, false⟩), (.q (.not (.t 11)))⟩, ⟨(some 13), none, (.q (.pick (.t 8) (.c (.bool true)) (.t 12)))⟩, ⟨(some 3), none, (.q (.mov (.t 13)))⟩] [1, 3])
    (.cond (.t 3)
     (.seq
      (.reg 2 [⟨(some 2), none, (.q (.mov (.c (.bool false))))⟩] [2])
      .ret)
     (.seq
      (.reg 3 [⟨(some 15), none, (.q (.faddr 1 (.t 1)))⟩, ⟨(some 16), none, (.q (.load none (.t 15)))⟩, ⟨(some 17), none, (.q (.bin .eql (.t 16) (.c (.int .u8 0))))⟩, ⟨(some 14), none, (.q (.mov (.t 17)))⟩] [1, 14])
      (.cond (.t 14)
       (.seq
        (.reg 4 [⟨(some 18), none, (.q (.faddr 2 (.t 1)))⟩, ⟨(some 19), none, (.q (.load (some 3) (.t 18)))⟩, ⟨(some 20), none, (.q (.bld [(.int .i64 0), (.str []), (.str [])] []))⟩, ⟨(some 21), none, (.q (.eqs [1, 2, 2] true false (.t 19) (.t 20)))⟩, ⟨(some 2), none, (.q (.mov (.t 21)))⟩] [2])
        .ret)
       .skip)))))
  (.seq
   (.reg 5 [⟨(some 22), none, (.q (.faddr 0 (.t 1)))⟩, ⟨(some 23), none, (.q (.load none (.t 22)))⟩, ⟨(some 24), none, (.call 127 [(.t 23)])⟩, ⟨(some 25), none, (.q (.not (.t 24)))⟩, ⟨(some 26), none, (.q (.mov (.t 25)))⟩, ⟨(some 27), (some ⟨26, true⟩), (.q (.faddr 2 (.t 1)))⟩, ⟨(some 28), (some ⟨26, true⟩), (.q (.load (some 3) (.t 27)))⟩, ⟨(some 29), (some ⟨26, true⟩), (.call 128 [(.t 28), (.c (.bool true))])⟩, ⟨(some 30), none, (.q (.pick (.t 26) (.t 29) (.c (.bool false))))⟩, ⟨(some 2), none, (.q (.mov (.t 30)))⟩] [2])
   .ret)))
theorem fok72 : FOK Tryz.prog 72 (31, ic72, [(.t 2)]) := .mk (pf := [1000001]) (an := [(0, [1]), (1, [1, 3]), (2, [2]), (3, [1, 14]), (4, [2]), (5, [2])]) (by kernel_rfl) (fnOK_of Tryz.func72 (by kernel_rfl) (by kernel_rfl) (by kernel_rfl))
def ic73 : IC :=
 (.seq
 (.reg 0 [oM 4 (cB false)] [0, 1])
 (.seq
 (.reg 1 [oM 5 0, oM 6 1, oK 7 (.call 129 [5, 6]), oQ 8 (.bin .geq 7 (cI 0)), oM 4 8] [4])
 .ret))
theorem fok73 : FOK Tryz.prog 73 (9, ic73, [(.t 4)]) := fokA [2000000] Tryz.func73 (by kernel_rfl) (by kernel_rfl) (by kernel_rfl) (by kernel_rfl)
def ic74 : IC :=
 (.seq
 (.reg 0 [oK 3 (.boxt 0), oM 4 (cB false)] [1, 2, 3])
 (.seq
 (.oreg 1 [(0, oQ 5 (.load (some 2) 3), 0), (1, oQ 6 (.faddr 2 1), 0), (2, oQ 7 (.load none 6), 0), (3, oQ 8 (.len 0 7), 0), (4, oQ 9 (.load none 2), 0), (5, oK 10 (.call 76 [9]), 5), (6, oK 11 (.call 75 [5, 8, 10]), 0), (7, oQ 12 (.not 11), 0), (8, oM 4 12, 0)] [4])
 .ret))
theorem fok74 : FOK Tryz.prog 74 (13, ic74, [(.t 4)]) := fokA [1000003, 2000000] Tryz.func74 (by kernel_rfl) (by kernel_rfl) (by kernel_rfl) (by kernel_rfl)
def ic75 : IC :=
 (.seq
 (.reg 0 [oK 3 (.boxt 0), oM 6 (cB false)] [1, 2, 3])
 (.seq
 (.reg 1 [oM 8 2, oM 7 8] [1, 3, 7])
 (.seq
 (.seq
 (.reg 2 [oQ 9 (.faddr 0 3), oQ 10 (.load none 9), oQ 11 (.bin .eql 10 (.c (zU 1)))] [1, 3, 7, 11])
 (.cond 11
 (.reg 3 [oM 12 1, oM 7 12] [3, 7])
 .skip))
 (.seq
 (.reg 4 [oQ 13 (.faddr 0 3), oQ 14 (.load none 13), oQ 15 (.bin .geq 14 (.c (zU 1))), oM 16 15, gQ 17 16 true (.faddr 0 3), gQ 18 16 true (.load none 17), gQ 19 16 true (.bin .leq 18 (.c (zU 4))), oQ 20 (.pick 16 19 (cB false)), oM 21 20, gQ 22 21 true (.faddr 1 3), gQ 23 21 true (.load none 22), gQ 24 21 true (.bin .geq 23 (cI 0)), oQ 25 (.pick 21 24 (cB false)), oM 26 25, gQ 27 26 true (.faddr 1 3), gQ 28 26 true (.load none 27), gQ 29 26 true (.mov 7), gQ 30 26 true (.bin .lss 28 29), oQ 31 (.pick 26 30 (cB false)), oM 6 31] [6])
 .ret))))
theorem fok75 : FOK Tryz.prog 75 (32, ic75, [(.t 6)]) := fokA [1000003, 2000000] Tryz.func75 (by kernel_rfl) (by kernel_rfl) (by kernel_rfl) (by kernel_rfl)
def ic76 : IC :=
(.seq
 (.reg 0 [⟨(some 2), none, (.q (.mov (.c (.int .i64 0))))⟩] [0])
 (.seq
  (.seq
   (.reg 1 [⟨(some 3), none, (.q (.mov (.t 0)))⟩, ⟨(some 4), none, (.q (.isnil (.pointer 154) false (.t 3)))⟩] [0, 4])
   (.cond (.t 4)
    (.seq
     (.reg 2 [⟨(some 2), none, (.q (.mov (.c (.int .i64 0))))⟩] [2])
     .ret)
    .skip))
  (.seq
   (.reg 3 [⟨(some 5), none, (.q (.mov (.t 0)))⟩, ⟨(some 6), none, (.q (.nchk (.t 5)))⟩, ⟨(some 7), none, (.q (.faddr 1 (.t 6)))⟩, ⟨(some 8), none, (.q (.load none (.t 7)))⟩, ⟨(some 2), none, (.q (.mov (.t 8)))⟩] [2])
   .ret)))
theorem fok76 : FOK Tryz.prog 76 (9, ic76, [(.t 2)]) := .mk (pf := []) (an := [(0, [0]), (1, [0, 4]), (2, [2]), (3, [2])]) (by kernel_rfl) (fnOK_of Tryz.func76 (by kernel_rfl) (by kernel_rfl) (by kernel_rfl))
def ic77 : IC :=
(.seq
 (.reg 0 [⟨(some 2), none, (.q (.mov (.c .nilptr)))⟩, ⟨(some 3), none, (.q (.mov (.c (.int .i64 0))))⟩] [0])
 (.seq
  (.seq
   (.reg 1 [⟨(some 11), none, (.q (.mov (.t 0)))⟩, ⟨(some 12), none, (.q (.isnil (.pointer 154) false (.t 11)))⟩] [0, 12])
   (.cond (.t 12)
    (.seq
     (.reg 2 [⟨(some 2), none, (.q (.mov (.c .nilptr)))⟩, ⟨(some 3), none, (.q (.mov (.c (.int .i64 2))))⟩] [2, 3])
     .ret)
    .skip))
  (.seq
   (.reg 3 [⟨(some 13), none, .mkmap⟩, ⟨(some 14), none, .mkmap⟩, ⟨(some 15), none, .mkmap⟩, ⟨(some 16), none, (.q (.bld [.nilslice, .nilmap, .nilmap, .nilmap] [⟨1, ⟨1, (.t 13)⟩⟩, ⟨2, ⟨1, (.t 14)⟩⟩, ⟨3, ⟨1, (.t 15)⟩⟩]))⟩, ⟨(some 17), none, (.box (.t 16))⟩, ⟨(some 4), none, (.q (.mov (.t 17)))⟩] [0, 4])
   (.seq
    (.seq
     (.reg 4 [⟨(some 18), none, (.q (.mov (.t 0)))⟩, ⟨(some 19), none, (.call 41 [(.t 18)])⟩, ⟨(some 20), none, (.q (.mov (.c (.int .i64 0))))⟩] [0, 4, 19, 20])
     (.block 0
      (.loop
       (.seq
        (.reg 5 [⟨(some 21), none, (.q (.bin .lss (.t 20) (.t 19)))⟩] [0, 4, 19, 20, 21])
        (.seq
         (.cond (.t 21)
          .skip
          (.exit 0))
         (.seq
          (.block 1
           (.seq
            (.reg 6 [⟨(some 22), none, (.q (.mov (.t 20)))⟩, ⟨(some 5), none, (.q (.mov (.t 22)))⟩] [0, 4, 5, 19, 20])
            (.seq
            (.reg 7 [⟨(some 24), none, (.q (.mov (.t 0)))⟩, ⟨(some 25), none, (.q (.mov (.t 5)))⟩, ⟨(some 26), none, (.call 42 [(.t 24), (.t 25)])⟩, ⟨(some 23), none, (.q (.mov (.t 26)))⟩, ⟨(some 27), none, (.q (.ext 0 (.t 23)))⟩, ⟨(some 28), none, (.q (.ext 1 (.t 23)))⟩, ⟨(some 6), none, (.alloc [(.str []), (.int .i64 0), (.str []), (.str []), (.int .u8 0), (.str []), .nilslice, .nilslice, .nilslice, .nilslice, .nilslice, .nilslice, .nilslice, .nilslice, .nilslice])⟩, ⟨none, none, (.store 15 (.t 6) (.t 27))⟩, ⟨(some 7), none, (.q (.mov (.t 28)))⟩] [0, 4, 5, 6, 7, 19, 20])
            (.seq
            (.seq
            (.reg 8 [⟨(some 29), none, (.q (.mov (.t 7)))⟩, ⟨(some 30), none, (.q (.bin .neq (.t 29) (.c (.int .i64 0))))⟩] [0, 4, 5, 6, 7, 19, 20, 30])
            (.cond (.t 30)
            (.seq
            (.reg 9 [⟨(some 31), none, (.q (.mov (.t 7)))⟩, ⟨(some 2), none, (.q (.mov (.c .nilptr)))⟩, ⟨(some 3), none, (.q (.mov (.t 31)))⟩] [2, 3])
            .ret)
            .skip))
            (.seq
            (.dreg 10 [⟨(some 32), none, (.q (.mov (.t 4)))⟩, ⟨(some 33), none, (.q (.mov (.t 4)))⟩, ⟨(some 34), none, (.q (.nchk (.t 33)))⟩, ⟨(some 35), none, (.q (.faddr 0 (.t 34)))⟩, ⟨(some 36), none, (.q (.load none (.t 35)))⟩, ⟨(some 37), none, (.q (.load (some 15) (.t 6)))⟩, ⟨(some 38), none, (.bslt 15 1 [(.str []), (.int .i64 0), (.str []), (.str []), (.int .u8 0), (.str []), .nilslice, .nilslice, .nilslice, .nilslice, .nilslice, .nilslice, .nilslice, .nilslice, .nilslice] [⟨0, ⟨15, (.t 37)⟩⟩])⟩, ⟨(some 39), none, (.app 15 (.t 36) (.t 38))⟩, ⟨(some 40), none, (.q (.nchk (.t 32)))⟩, ⟨(some 41), none, (.q (.faddr 0 (.t 40)))⟩, ⟨none, none, (.store 1 (.t 41) (.t 39))⟩] true [0, 4, 5, 6, 19, 20])
            (.seq
            (.dreg 11 [⟨(some 42), none, (.q (.mov (.t 4)))⟩, ⟨(some 43), none, (.q (.nchk (.t 42)))⟩, ⟨(some 44), none, (.q (.faddr 2 (.t 43)))⟩, ⟨(some 45), none, (.q (.load none (.t 44)))⟩, ⟨(some 46), none, (.q (.faddr 0 (.t 6)))⟩, ⟨(some 47), none, (.q (.load none (.t 46)))⟩, ⟨(some 48), none, (.q (.mov (.t 4)))⟩, ⟨(some 49), none, (.q (.nchk (.t 48)))⟩, ⟨(some 50), none, (.q (.faddr 2 (.t 49)))⟩, ⟨(some 51), none, (.q (.load none (.t 50)))⟩, ⟨(some 52), none, (.q (.faddr 0 (.t 6)))⟩, ⟨(some 53), none, (.q (.load none (.t 52)))⟩, ⟨(some 54), none, (.q (.lkp 2 .nilslice false (.t 51) (.t 53)))⟩, ⟨(some 55), none, (.q (.mov (.t 5)))⟩, ⟨(some 56), none, (.bslt 1 1 [(.int .i64 0)] [⟨0, ⟨1, (.t 55)⟩⟩])⟩, ⟨(some 57), none, (.app 1 (.t 54) (.t 56))⟩, ⟨none, none, (.mupd 2 (.t 45) (.t 47) (.t 57))⟩] true [0, 4, 5, 6, 19, 20])
            (.seq
            (.seq
            (.reg 12 [⟨(some 58), none, (.q (.load (some 15) (.t 6)))⟩, ⟨(some 59), none, (.call 130 [(.t 58)])⟩, ⟨(some 60), none, (.mrange (.t 59))⟩] [0, 4, 5, 6, 19, 20, 60])
            (.block 2
            (.loop
            (.seq
            (.reg 13 [⟨(some 61), none, (.mnext (.t 60))⟩, ⟨(some 62), none, (.q (.ext 0 (.t 61)))⟩] [0, 4, 5, 6, 19, 20, 60, 62])
            (.seq
            (.cond (.t 62)
            .skip
            (.exit 2))
            (.block 3
            (.seq
            (.reg 14 [⟨(some 63), none, (.ment (.t 60))⟩, ⟨(some 64), none, (.q (.ext 0 (.t 63)))⟩, ⟨(some 8), none, (.q (.mov (.t 64)))⟩] [0, 4, 5, 6, 8, 19, 20, 60])
            (.dreg 15 [⟨(some 65), none, (.q (.mov (.t 4)))⟩, ⟨(some 66), none, (.q (.nchk (.t 65)))⟩, ⟨(some 67), none, (.q (.faddr 1 (.t 66)))⟩, ⟨(some 68), none, (.q (.load none (.t 67)))⟩, ⟨(some 69), none, (.q (.mov (.t 8)))⟩, ⟨(some 70), none, (.q (.mov (.t 4)))⟩, ⟨(some 71), none, (.q (.nchk (.t 70)))⟩, ⟨(some 72), none, (.q (.faddr 1 (.t 71)))⟩, ⟨(some 73), none, (.q (.load none (.t 72)))⟩, ⟨(some 74), none, (.q (.mov (.t 8)))⟩, ⟨(some 75), none, (.q (.lkp 2 .nilslice false (.t 73) (.t 74)))⟩, ⟨(some 76), none, (.q (.mov (.t 5)))⟩, ⟨(some 77), none, (.bslt 1 1 [(.int .i64 0)] [⟨0, ⟨1, (.t 76)⟩⟩])⟩, ⟨(some 78), none, (.app 1 (.t 75) (.t 77))⟩, ⟨none, none, (.mupd 2 (.t 68) (.t 69) (.t 78))⟩] true [0, 4, 5, 6, 19, 20, 60]))))))))
            (.seq
            (.reg 16 [⟨(some 79), none, (.q (.faddr 9 (.t 6)))⟩, ⟨(some 80), none, (.q (.load none (.t 79)))⟩, ⟨(some 81), none, (.q (.len 0 (.t 80)))⟩, ⟨(some 82), none, (.q (.mov (.c (.int .i64 0))))⟩] [0, 4, 5, 19, 20, 80, 81, 82])
            (.block 4
            (.loop
            (.seq
            (.reg 17 [⟨(some 83), none, (.q (.bin .lss (.t 82) (.t 81)))⟩] [0, 4, 5, 19, 20, 80, 81, 82, 83])
            (.seq
            (.cond (.t 83)
            .skip
            (.exit 4))
            (.seq
            (.block 5
            (.seq
            (.reg 18 [⟨(some 84), none, (.q (.iaddr 5 (.t 80) (.t 82)))⟩, ⟨(some 85), none, (.q (.load (some 5) (.t 84)))⟩, ⟨(some 10), none, (.alloc [(.str []), (.int .u8 0), (.int .i64 0), (.str []), (.str [])])⟩, ⟨none, none, (.store 5 (.t 10) (.t 85))⟩] [0, 4, 5, 10, 19, 20, 80, 81, 82])
            (.seq
            (.dreg 19 [⟨(some 86), none, (.q (.mov (.t 4)))⟩, ⟨(some 87), none, (.q (.nchk (.t 86)))⟩, ⟨(some 88), none, (.q (.faddr 3 (.t 87)))⟩, ⟨(some 89), none, (.q (.load none (.t 88)))⟩, ⟨(some 90), none, (.q (.faddr 0 (.t 10)))⟩, ⟨(some 91), none, (.q (.load none (.t 90)))⟩, ⟨(some 92), none, (.q (.lkp 2 .nilslice false (.t 89) (.t 91)))⟩, ⟨(some 93), none, (.q (.mov (.t 5)))⟩, ⟨(some 94), none, (.call 84 [(.t 92), (.t 93)])⟩, ⟨(some 95), none, (.q (.not (.t 94)))⟩] false [0, 4, 5, 10, 19, 20, 80, 81, 82, 95])
            (.cond (.t 95)
            (.dreg 20 [⟨(some 96), none, (.q (.mov (.t 4)))⟩, ⟨(some 97), none, (.q (.nchk (.t 96)))⟩, ⟨(some 98), none, (.q (.faddr 3 (.t 97)))⟩, ⟨(some 99), none, (.q (.load none (.t 98)))⟩, ⟨(some 100), none, (.q (.faddr 0 (.t 10)))⟩, ⟨(some 101), none, (.q (.load none (.t 100)))⟩, ⟨(some 102), none, (.q (.mov (.t 4)))⟩, ⟨(some 103), none, (.q (.nchk (.t 102)))⟩, ⟨(some 104), none, (.q (.faddr 3 (.t 103)))⟩, ⟨(some 105), none, (.q (.load none (.t 104)))⟩, ⟨(some 106), none, (.q (.faddr 0 (.t 10)))⟩, ⟨(some 107), none, (.q (.load none (.t 106)))⟩, ⟨(some 108), none, (.q (.lkp 2 .nilslice false (.t 105) (.t 107)))⟩, ⟨(some 109), none, (.q (.mov (.t 5)))⟩, ⟨(some 110), none, (.bslt 1 1 [(.int .i64 0)] [⟨0, ⟨1, (.t 109)⟩⟩])⟩, ⟨(some 111), none, (.app 1 (.t 108) (.t 110))⟩, ⟨none, none, (.mupd 2 (.t 99) (.t 101) (.t 111))⟩] true [0, 4, 5, 19, 20, 80, 81, 82])
            .skip))))
            (.reg 21 [⟨(some 112), none, (.q (.bin .add (.t 82) (.c (.int .i64 1))))⟩, ⟨(some 82), none, (.q (.mov (.t 112)))⟩] [0, 4, 5, 19, 20, 80, 81, 82]))))))))))))))
          (.reg 22 [⟨(some 113), none, (.q (.bin .add (.t 20) (.c (.int .i64 1))))⟩, ⟨(some 20), none, (.q (.mov (.t 113)))⟩] [0, 4, 19, 20])))))))
    (.seq
     (.reg 23 [⟨(some 114), none, (.q (.mov (.t 4)))⟩, ⟨(some 2), none, (.q (.mov (.t 114)))⟩, ⟨(some 3), none, (.q (.mov (.c (.int .i64 0))))⟩] [2, 3])
     .ret)))))
theorem fok77 : FOK Tryz.prog 77 (115, ic77, [(.t 2), (.t 3)]) := .mk (pf := [1000038, 1000056, 1000077, 1000110]) (an := [(0, [0]), (1, [0, 12]), (2, [2, 3]), (3, [0, 4]), (4, [0, 4, 19, 20]), (5, [0, 4, 19, 20, 21]), (6, [0, 4, 5, 19, 20]), (7, [0, 4, 5, 6, 7, 19, 20]), (8, [0, 4, 5, 6, 7, 19, 20, 30]), (9, [2, 3]), (10, [0, 4, 5, 6, 19, 20]), (11, [0, 4, 5, 6, 19, 20]), (12, [0, 4, 5, 6, 19, 20, 60]), (13, [0, 4, 5, 6, 19, 20, 60, 62]), (14, [0, 4, 5, 6, 8, 19, 20, 60]), (15, [0, 4, 5, 6, 19, 20, 60]), (16, [0, 4, 5, 19, 20, 80, 81, 82]), (17, [0, 4, 5, 19, 20, 80, 81, 82, 83]), (18, [0, 4, 5, 10, 19, 20, 80, 81, 82]), (19, [0, 4, 5, 10, 19, 20, 80, 81, 82, 95]), (20, [0, 4, 5, 19, 20, 80, 81, 82]), (21, [0, 4, 5, 19, 20, 80, 81, 82]), (22, [0, 4, 19, 20]), (23, [2, 3])]) (by kernel_rfl) (fnOK_of Tryz.func77 (by kernel_rfl) (by kernel_rfl) (by kernel_rfl))
def ic78 : IC :=
 (.seq
 (.reg 0 [oK 1 (.box 0), oK 2 (.alloc [(zU 0), (.bool false), .nilslice, .nilslice, (zI 0)])] [1, 2])
 (.seq
 (.oreg 1 [(0, oQ 3 (.faddr 2 1), 0), (1, oQ 4 (.load none 3), 0), (3, oQ 6 (.faddr 3 1), 0), (4, oQ 7 (.load none 6), 0), (2, oK 5 (.call 131 [4]), 16), (6, oQ 9 (.faddr 2 1), 0), (5, oK 8 (.call 132 [7]), 0), (7, oN (.store 1 9 5), 0), (8, oQ 10 (.faddr 3 1), 0), (9, oN (.store 1 10 8), 0)] [1, 2])
 (.seq
 (.reg 2 [oQ 11 (.load (some 5) 1), oN (.store 5 2 11)] [2])
 .ret)))
theorem fok78 : FOK Tryz.prog 78 (12, ic78, [(.cell (some 5) 2)]) := fokA [2000000] Tryz.func78 (by kernel_rfl) (by kernel_rfl) (by kernel_rfl) (by kernel_rfl)
def ic79 : IC :=
 (.seq
 (.reg 0 [oM 2 (.c .nilslice)] [0])
 (.seq
 (.seq
 (.reg 1 [oM 3 0, oQ 4 (.isnil (.slice 30) false 3)] [0, 4])
 (.cond 4
 (.seq
 (.reg 2 [oM 2 (.c .nilslice)] [2])
 .ret)
 .skip))
 (.seq
 (.reg 3 [oK 5 (.bsl 3 0 [(zU 0), (zI 0), (zI 0)] []), oM 6 0, oK 7 (.app 3 5 6), oM 2 7] [2])
 .ret)))
theorem fok79 : FOK Tryz.prog 79 (8, ic79, [(.t 2)]) := fokA [2000000] Tryz.func79 (by kernel_rfl) (by kernel_rfl) (by kernel_rfl) (by kernel_rfl)
def ic84 : IC :=
(.seq
 (.reg 0 [⟨(some 4), none, (.q (.mov (.c (.bool false))))⟩] [0, 1])
 (.seq
  (.reg 1 [⟨(some 5), none, (.q (.mov (.t 0)))⟩, ⟨(some 6), none, (.q (.mov (.t 1)))⟩, ⟨(some 7), none, (.call 134 [(.t 5), (.t 6)])⟩, ⟨(some 8), none, (.q (.bin .geq (.t 7) (.c (.int .i64 0))))⟩, ⟨(some 4), none, (.q (.mov (.t 8)))⟩] [4])
  .ret))
theorem fok84 : FOK Tryz.prog 84 (9, ic84, [(.t 4)]) := .mk (pf := []) (an := [(0, [0, 1]), (1, [4])]) (by kernel_rfl) (fnOK_of Tryz.func84 (by kernel_rfl) (by kernel_rfl) (by kernel_rfl))
def ic85 : IC :=
 (.seq
 (.reg 0 [oM 4 (.c .nilslice)] [0, 1])
 (.seq
 (.reg 1 [oM 8 0, oM 9 1, oK 10 (.call 135 [8, 9]), oM 5 10] [0, 1, 5])
 (.seq
 (.seq
 (.reg 2 [oM 11 5, oQ 12 (.bin .eql 11 (cI (-1)))] [0, 1, 5, 12])
 (.cond 12
 (.seq
 (.reg 3 [oM 13 0, oM 4 13] [4])
 .ret)
 .skip))
 (.seq
 (.seq
 (.reg 4 [oM 14 5, oQ 15 (.bin .add 14 (cI 1)), oM 6 15] [0, 1, 5, 6])
 (.block 0
 (.loop
 (.seq
 (.seq
 (.reg 5 [oM 16 6, oM 17 0, oQ 18 (.len 0 17), oQ 19 (.bin .lss 16 18)] [0, 1, 5, 6, 19])
 (.cond 19
 .skip
 (.exit 0)))
 (.seq
 (.block 1
 (.seq
 (.reg 7 [oM 22 0, oM 23 6, oQ 24 (.iaddr 1 22 23), oQ 25 (.load none 24), oM 7 25] [0, 1, 5, 6, 7])
 (.seq
 (.reg 8 [oM 26 1, oM 27 7, oK 28 (.callv 26 [27]), oQ 29 (.not 28)] [0, 1, 5, 6, 7, 29])
 (.cond 29
 (.seq
 (.reg 9 [oM 30 0, oM 31 5, oM 32 7, oQ 33 (.iaddr 1 30 31), oN (.store 1 33 32)] [0, 1, 5, 6])
 (.reg 10 [oM 34 5, oQ 35 (.bin .add 34 (cI 1)), oM 5 35] [0, 1, 5, 6]))
 .skip))))
 (.reg 6 [oM 20 6, oQ 21 (.bin .add 20 (cI 1)), oM 6 21] [0, 1, 5, 6]))))))
 (.seq
 (.reg 11 [oM 36 0, oM 37 5, oQ 38 (.slc 1 36 (some 37) none), oN (.clr 1 [(zI 0)] 38)] [0, 5])
 (.seq
 (.reg 12 [oM 39 0, oM 40 5, oQ 41 (.slc 1 39 none (some 40)), oM 4 41] [4])
 .ret))))))
theorem fok85 : FOK Tryz.prog 85 (42, ic85, [(.t 4)]) := fokA [2000000] Tryz.func85 (by kernel_rfl) (by kernel_rfl) (by kernel_rfl) (by kernel_rfl)
def ic88 : IC :=
(.seq
 (.reg 0 [⟨(some 4), none, (.q (.mov (.c (.bool false))))⟩] [0, 1])
 (.seq
  (.reg 1 [⟨(some 5), none, (.q (.mov (.t 1)))⟩, ⟨(some 6), none, (.q (.bin .geq (.t 5) (.c (.int .i64 0))))⟩, ⟨(some 7), none, (.q (.mov (.t 6)))⟩, ⟨(some 8), (some ⟨7, true⟩), (.q (.mov (.t 1)))⟩, ⟨(some 9), (some ⟨7, true⟩), (.q (.mov (.t 0)))⟩, ⟨(some 10), (some ⟨7, true⟩), (.q (.len 0 (.t 9)))⟩, ⟨(some 11), (some ⟨7, true⟩), (.q (.bin .lss (.t 8) (.t 10)))⟩, ⟨(some 12), none, (.q (.pick (.t 7) (.t 11) (.c (.bool false))))⟩, ⟨(some 4), none, (.q (.mov (.t 12)))⟩] [4])
  .ret))
theorem fok88 : FOK Tryz.prog 88 (13, ic88, [(.t 4)]) := .mk (pf := []) (an := [(0, [0, 1]), (1, [4])]) (by kernel_rfl) (fnOK_of Tryz.func88 (by kernel_rfl) (by kernel_rfl) (by kernel_rfl))
def ic89 : IC :=
(.seq
 (.reg 0 [⟨(some 1), none, (.box (.t 0))⟩, ⟨(some 2), none, (.alloc [(.str []), (.int .i64 0), (.str []), (.str []), (.int .u8 0), (.str []), .nilslice, .nilslice, .nilslice, .nilslice, .nilslice, .nilslice, .nilslice, .nilslice, .nilslice])⟩] [1, 2])
 (.seq
  (.dreg 1 [⟨(some 7), none, (.q (.faddr 6 (.t 1)))⟩, ⟨(some 8), none, (.q (.load none (.t 7)))⟩, ⟨(some 9), none, (.pcall 140 [(.t 8)])⟩, ⟨(some 10), none, (.q (.faddr 9 (.t 1)))⟩, ⟨(some 11), none, (.q (.load none (.t 10)))⟩, ⟨(some 12), none, (.pcall 140 [(.t 11)])⟩, ⟨(some 13), none, (.q (.faddr 14 (.t 1)))⟩, ⟨(some 14), none, (.q (.load none (.t 13)))⟩, ⟨(some 15), none, (.pcall 141 [(.t 14)])⟩, ⟨(some 16), none, (.q (.faddr 6 (.t 1)))⟩, ⟨none, none, (.store 1 (.t 16) (.t 9))⟩, ⟨(some 17), none, (.q (.faddr 9 (.t 1)))⟩, ⟨none, none, (.store 1 (.t 17) (.t 12))⟩, ⟨(some 18), none, (.q (.faddr 14 (.t 1)))⟩, ⟨none, none, (.store 1 (.t 18) (.t 15))⟩] false [1, 2])
  (.seq
   (.seq
    (.reg 2 [⟨(some 19), none, (.q (.faddr 7 (.t 1)))⟩, ⟨(some 20), none, (.q (.faddr 8 (.t 1)))⟩, ⟨(some 21), none, (.q (.faddr 10 (.t 1)))⟩, ⟨(some 22), none, (.q (.faddr 11 (.t 1)))⟩, ⟨(some 23), none, (.q (.faddr 12 (.t 1)))⟩, ⟨(some 24), none, (.q (.faddr 13 (.t 1)))⟩, ⟨(some 25), none, (.bslt 1 6 [.nilptr] [⟨0, ⟨1, (.t 19)⟩⟩, ⟨1, ⟨1, (.t 20)⟩⟩, ⟨2, ⟨1, (.t 21)⟩⟩, ⟨3, ⟨1, (.t 22)⟩⟩, ⟨4, ⟨1, (.t 23)⟩⟩, ⟨5, ⟨1, (.t 24)⟩⟩])⟩, ⟨(some 26), none, (.q (.len 0 (.t 25)))⟩, ⟨(some 27), none, (.q (.mov (.c (.int .i64 0))))⟩] [1, 2, 25, 26, 27])
    (.block 0
     (.loop
      (.seq
       (.reg 3 [⟨(some 28), none, (.q (.bin .lss (.t 27) (.t 26)))⟩] [1, 2, 25, 26, 27, 28])
       (.seq
        (.cond (.t 28)
         .skip
         (.exit 0))
        (.seq
         (.block 1
          (.seq
           (.reg 4 [⟨(some 29), none, (.q (.iaddr 1 (.t 25) (.t 27)))⟩, ⟨(some 30), none, (.q (.load none (.t 29)))⟩, ⟨(some 4), none, (.q (.mov (.t 30)))⟩] [1, 2, 4, 25, 26, 27])
           (.seq
            (.reg 5 [⟨(some 31), none, (.q (.mov (.t 4)))⟩, ⟨(some 32), none, (.q (.mov (.t 4)))⟩, ⟨(some 33), none, (.q (.nchk (.t 32)))⟩, ⟨(some 34), none, (.q (.load none (.t 33)))⟩, ⟨(some 35), none, (.call 142 [(.t 34)])⟩, ⟨(some 36), none, (.q (.nchk (.t 31)))⟩, ⟨none, none, (.store 1 (.t 36) (.t 35))⟩] [1, 2, 4, 25, 26, 27])
            (.seq
            (.reg 6 [⟨(some 37), none, (.q (.mov (.t 4)))⟩, ⟨(some 38), none, (.q (.nchk (.t 37)))⟩, ⟨(some 39), none, (.q (.load none (.t 38)))⟩, ⟨(some 40), none, (.q (.len 0 (.t 39)))⟩, ⟨(some 41), none, (.q (.mov (.c (.int .i64 0))))⟩] [1, 2, 4, 25, 26, 27, 39, 40, 41])
            (.block 2
            (.loop
            (.seq
            (.reg 7 [⟨(some 42), none, (.q (.bin .lss (.t 41) (.t 40)))⟩] [1, 2, 4, 25, 26, 27, 39, 40, 41, 42])
            (.seq
            (.cond (.t 42)
            .skip
            (.exit 2))
            (.seq
            (.block 3
            (.seq
            (.reg 8 [⟨(some 43), none, (.q (.mov (.t 41)))⟩, ⟨(some 44), none, (.q (.iaddr 7 (.t 39) (.t 41)))⟩, ⟨(some 45), none, (.q (.load (some 7) (.t 44)))⟩, ⟨(some 6), none, (.alloc [(.int .u8 0), (.str []), (.int .u8 0), (.int .i64 0), (.str []), (.str []), .nilslice])⟩, ⟨(some 5), none, (.q (.mov (.t 43)))⟩, ⟨none, none, (.store 7 (.t 6) (.t 45))⟩] [1, 2, 4, 5, 6, 25, 26, 27, 39, 40, 41])
            (.dreg 9 [⟨(some 46), none, (.q (.mov (.t 4)))⟩, ⟨(some 47), none, (.q (.nchk (.t 46)))⟩, ⟨(some 48), none, (.q (.load none (.t 47)))⟩, ⟨(some 49), none, (.q (.mov (.t 5)))⟩, ⟨(some 50), none, (.q (.load (some 7) (.t 6)))⟩, ⟨(some 51), none, (.pcall 143 [(.t 50)])⟩, ⟨(some 52), none, (.q (.iaddr 7 (.t 48) (.t 49)))⟩, ⟨none, none, (.store 7 (.t 52) (.t 51))⟩] false [1, 2, 4, 25, 26, 27, 39, 40, 41])))
            (.reg 10 [⟨(some 53), none, (.q (.bin .add (.t 41) (.c (.int .i64 1))))⟩, ⟨(some 41), none, (.q (.mov (.t 53)))⟩] [1, 2, 4, 25, 26, 27, 39, 40, 41]))))))))))
         (.reg 11 [⟨(some 54), none, (.q (.bin .add (.t 27) (.c (.int .i64 1))))⟩, ⟨(some 27), none, (.q (.mov (.t 54)))⟩] [1, 2, 25, 26, 27])))))))
   (.seq
    (.reg 12 [⟨(some 55), none, (.q (.load (some 15) (.t 1)))⟩, ⟨none, none, (.store 15 (.t 2) (.t 55))⟩] [2])
    .ret))))
theorem fok89 : FOK Tryz.prog 89 (56, ic89, [(.cell (some 15) 2)]) := .mk (pf := ([1000025] ++ List.filter (fun k => k != 142) allF1)) (an := [(0, [1, 2]), (1, [1, 2]), (2, [1, 2, 25, 26, 27]), (3, [1, 2, 25, 26, 27, 28]), (4, [1, 2, 4, 25, 26, 27]), (5, [1, 2, 4, 25, 26, 27]), (6, [1, 2, 4, 25, 26, 27, 39, 40, 41]), (7, [1, 2, 4, 25, 26, 27, 39, 40, 41, 42]), (8, [1, 2, 4, 5, 6, 25, 26, 27, 39, 40, 41]), (9, [1, 2, 4, 25, 26, 27, 39, 40, 41]), (10, [1, 2, 4, 25, 26, 27, 39, 40, 41]), (11, [1, 2, 25, 26, 27]), (12, [2])]) (by kernel_rfl) (fnOK_of Tryz.func89 (by kernel_rfl) (by kernel_rfl) (by kernel_rfl))
def ic90 : IC :=
 (.seq
 (.reg 0 [oM 4 (cB false)] [0, 1])
 (.seq
 (.dreg 1 [oM 5 0, oM 6 1, oK 7 (.call 144 [5, 6]), oM 8 7, gQ 9 8 true (.mov 0), gQ 10 8 true (.nchk 9), gQ 11 8 true (.faddr 2 10), gQ 12 8 true (.faddr 0 11), gQ 13 8 true (.load none 12), gQ 14 8 true (.mov 0), gQ 15 8 true (.nchk 14), gQ 16 8 true (.faddr 7 15), gQ 17 8 true (.load none 16), gQ 18 8 true (.mov 1), gQ 19 8 true (.iaddr 15 17 18), gQ 20 8 true (.faddr 4 19), gQ 21 8 true (.load none 20), gK 22 8 true (.call 145 [13, 21]), oQ 23 (.pick 8 22 (cB false)), oM 4 23] false [4])
 .ret))
theorem fok90 : FOK Tryz.prog 90 (24, ic90, [(.t 4)]) := fokA [2000000] Tryz.func90 (by kernel_rfl) (by kernel_rfl) (by kernel_rfl) (by kernel_rfl)
def ic91 : IC :=
 (.seq
 (.reg 0 [oM 9 1, oM 10 2, oM 11 3, oQ 12 (.bld [(zU 0), (zI 0), (zI 0)] [⟨0, ⟨1, 9⟩⟩, ⟨1, ⟨1, 10⟩⟩, ⟨2, ⟨1, 11⟩⟩]), oK 8 (.alloc [(zU 0), (zI 0), (zI 0)]), oN (.store 3 8 12)] [0, 8])
 (.seq
 (.oreg 1 [(0, oM 13 0, 0), (1, oM 14 0, 0), (2, oQ 15 (.nchk 14), 0), (3, oQ 16 (.faddr 3 15), 0), (4, oQ 17 (.load none 16), 0), (5, oQ 18 (.load (some 3) 8), 0), (6, oK 19 (.bslt 3 1 [(zU 0), (zI 0), (zI 0)] [⟨0, ⟨3, 18⟩⟩]), 0), (7, oK 20 (.app 3 17 19), 0), (8, oQ 21 (.nchk 13), 0), (9, oQ 22 (.faddr 3 21), 0), (10, oN (.store 1 22 20), 0)] [0, 8])
 (.dreg 2 [oM 23 0, oQ 24 (.nchk 23), oQ 25 (.faddr 4 24), oQ 26 (.load none 25), oQ 27 (.load (some 3) 8), oQ 28 (.bld [] []), oN (.mupd 6 26 27 28)] false [])))
theorem fok91 : FOK Tryz.prog 91 (29, ic91, []) := fokA [1000019, 2000000] Tryz.func91 (by kernel_rfl) (by kernel_rfl) (by kernel_rfl) (by kernel_rfl)
def ic92 : IC :=
 (.seq
 (.reg 0 [oM 6 (cB false)] [0, 1, 2])
 (.seq
 (.seq
 (.reg 1 [oM 9 0, oM 10 1, oK 11 (.call 144 [9, 10]), oQ 12 (.not 11), oM 13 12, gQ 14 13 false (.mov 0), gQ 15 13 false (.mov 2), gK 16 13 false (.call 144 [14, 15]), gQ 17 13 false (.not 16), oQ 18 (.pick 13 (cB true) 17), oM 19 18, gQ 20 19 false (.mov 1), gQ 21 19 false (.mov 2), gQ 22 19 false (.bin .eql 20 21), oQ 23 (.pick 19 (cB true) 22)] [0, 1, 2, 23])
 (.cond 23
 (.seq
 (.reg 2 [oM 6 (cB false)] [6])
 .ret)
 .skip))
 (.seq
 (.oreg 3 [(0, oM 24 0, 0), (1, oQ 25 (.nchk 24), 0), (2, oQ 26 (.faddr 7 25), 0), (3, oQ 27 (.load none 26), 0), (4, oM 28 1, 0), (5, oQ 29 (.iaddr 15 27 28), 0), (6, oQ 30 (.load (some 15) 29), 0), (7, oM 31 0, 0), (8, oQ 32 (.nchk 31), 0), (9, oQ 33 (.faddr 7 32), 0), (10, oQ 34 (.load none 33), 0), (11, oM 35 2, 0), (12, oQ 36 (.iaddr 15 34 35), 0), (13, oQ 37 (.load (some 15) 36), 0), (14, oK 7 (.alloc [(.str []), (zI 0), (.str []), (.str []), (zU 0), (.str []), .nilslice, .nilslice, .nilslice, .nilslice, .nilslice, .nilslice, .nilslice, .nilslice, .nilslice]), 0), (15, oK 8 (.alloc [(.str []), (zI 0), (.str []), (.str []), (zU 0), (.str []), .nilslice, .nilslice, .nilslice, .nilslice, .nilslice, .nilslice, .nilslice, .nilslice, .nilslice]), 0), (16, oN (.store 15 7 30), 9216), (17, oN (.store 15 8 37), 0)] [7, 8])
 (.seq
 (.reg 4 [oQ 38 (.faddr 0 7), oQ 39 (.load none 38), oQ 40 (.faddr 0 8), oQ 41 (.load none 40), oQ 42 (.bin .eql 39 41), oM 43 42, gQ 44 43 true (.faddr 4 7), gQ 45 43 true (.load none 44), gQ 46 43 true (.faddr 4 8), gQ 47 43 true (.load none 46), gK 48 43 true (.call 146 [45, 47]), gQ 49 43 true (.mov 48), gQ 50 49 true (.faddr 1 7), gQ 51 49 true (.load (some 3) 50), gQ 52 49 true (.faddr 1 8), gQ 53 49 true (.load (some 3) 52), gK 54 49 true (.call 147 [51, 53]), gQ 55 49 true (.bin .eql 54 (cI 0)), gQ 56 43 true (.pick 49 55 (cB false)), gQ 57 43 true (.not 56), oQ 58 (.pick 43 57 (cB false)), oM 6 58] [6])
 .ret))))
theorem fok92 : FOK Tryz.prog 92 (59, ic92, [(.t 6)]) := fokA [2000000] Tryz.func92 (by kernel_rfl) (by kernel_rfl) (by kernel_rfl) (by kernel_rfl)
def ic93 : IC :=
 (.seq
 (.reg 0 [oM 4 (cB false)] [0, 1])
 (.seq
 (.reg 1 [oM 5 0, oM 6 1, oK 7 (.call 148 [5, 6]), oM 8 7, gQ 9 8 true (.mov 0), gQ 10 8 true (.mov 1), gK 11 8 true (.call 149 [9, (.c (zU 2)), 10]), gQ 12 8 true (.mov 11), gQ 13 12 false (.mov 0), gQ 14 12 false (.mov 1), gK 15 12 false (.call 150 [13, (.c (zU 2)), 14]), gQ 16 8 true (.pick 12 (cB true) 15), oQ 17 (.pick 8 16 (cB false)), oM 4 17] [4])
 .ret))
theorem fok93 : FOK Tryz.prog 93 (18, ic93, [(.t 4)]) := fokA [2000000] Tryz.func93 (by kernel_rfl) (by kernel_rfl) (by kernel_rfl) (by kernel_rfl)
def ic94 : IC :=
 (.seq
 (.reg 0 [oM 4 (cB false)] [0, 1])
 (.seq
 (.reg 1 [oM 5 0, oM 6 1, oK 7 (.call 151 [5, 6]), oM 8 7, gQ 9 8 true (.mov 0), gQ 10 8 true (.mov 1), gK 11 8 true (.call 150 [9, (.c (zU 1)), 10]), oQ 12 (.pick 8 11 (cB false)), oM 4 12] [4])
 .ret))
theorem fok94 : FOK Tryz.prog 94 (13, ic94, [(.t 4)]) := fokA [2000000] Tryz.func94 (by kernel_rfl) (by kernel_rfl) (by kernel_rfl) (by kernel_rfl)
def ic95 : IC :=
 (.seq
 (.reg 0 [oM 2 (.c .nilslice)] [0])
 (.seq
 (.reg 1 [oM 3 (.c .nilslice)] [0, 3])
 (.seq
 (.seq
 (.reg 2 [oM 6 0, oQ 7 (.len 0 6), oM 8 (cI 0)] [3, 6, 7, 8])
 (.block 0
 (.loop
 (.seq
 (.reg 3 [oQ 9 (.bin .lss 8 7)] [3, 6, 7, 8, 9])
 (.seq
 (.cond 9
 .skip
 (.exit 0))
 (.seq
 (.block 1
 (.seq
 (.reg 4 [oQ 10 (.iaddr 1 6 8), oQ 11 (.load none 10), oM 5 11] [3, 5, 6, 7, 8])
 (.reg 5 [oM 12 3, oM 13 5, oQ 14 (.bin .add 13 (cI 1)), oQ 15 (.neg 14), oK 16 (.bslt 1 1 [(zI 0)] [⟨0, ⟨1, 15⟩⟩]), oK 17 (.app 1 12 16), oM 3 17] [3, 6, 7, 8])))
 (.reg 6 [oQ 18 (.bin .add 8 (cI 1)), oM 8 18] [3, 6, 7, 8])))))))
 (.seq
 (.reg 7 [oM 19 3, oM 2 19] [2])
 .ret))))
theorem fok95 : FOK Tryz.prog 95 (20, ic95, [(.t 2)]) := fokA [1000016, 2000000] Tryz.func95 (by kernel_rfl) (by kernel_rfl) (by kernel_rfl) (by kernel_rfl)
def ic96 : IC :=
 (.seq
 (.reg 0 [oK 4 (.boxt 1), oM 6 (cI 0), oM 7 (cI 0)] [0, 2, 4])
 (.seq
 (.block 0
 (.seq
 (.reg 1 [oM 9 0, oQ 10 (.isnil (.pointer 188) false 9), oM 8 10] [0, 2, 4, 8])
 (.cond 8
 (.seq
 (.reg 2 [oM 6 (cI 0), oM 7 (cI 2)] [6, 7])
 .ret)
 (.seq
 (.reg 3 [oQ 12 (.load (some 7) 4), oK 13 (.call 152 [12, (.c (zU 1))]), oQ 14 (.bin .neq 13 (cI 0)), oM 11 14] [0, 2, 4, 11])
 (.cond 11
 (.seq
 (.reg 4 [oM 6 (cI 0), oM 7 (cI 4)] [6, 7])
 .ret)
 (.seq
 (.oreg 5 [(0, oM 16 0, 0), (1, oQ 17 (.nchk 16), 0), (2, oQ 18 (.faddr 2 17), 0), (3, oQ 19 (.load none 18), 0), (4, oQ 20 (.load (some 7) 4), 0), (5, oK 21 (.call 153 [20]), 8), (6, oQ 22 (.bin .add 19 21), 0), (7, oQ 23 (.bin .gtr 22 (cI 1048576)), 0), (8, oM 15 23, 0)] [0, 2, 4, 15])
 (.cond 15
 (.seq
 (.reg 6 [oM 6 (cI 0), oM 7 (cI 40)] [6, 7])
 .ret)
 .skip)))))))
 (.seq
 (.reg 7 [oM 24 0, oQ 25 (.load (some 7) 4), oM 26 2, oK 27 (.call 154 [24, 25, 26]), oM 6 27, oM 7 (cI 0)] [6, 7])
 .ret)))
theorem fok96 : FOK Tryz.prog 96 (28, ic96, [(.t 6), (.t 7)]) := fokA [1000004, 2000000] Tryz.func96 (by kernel_rfl) (by kernel_rfl) (by kernel_rfl) (by kernel_rfl)
def ic97 : IC :=
 (.seq
 (.reg 0 [oM 2 (.c .nilptr)] [0])
 (.seq
 (.seq
 (.reg 1 [oM 3 0, oQ 4 (.isnil (.pointer 167) false 3)] [0, 4])
 (.cond 4
 (.seq
 (.reg 2 [oM 2 (.c .nilptr)] [2])
 .ret)
 .skip))
 (.seq
 (.reg 3 [oM 5 0, oQ 6 (.nchk 5), oQ 7 (.faddr 1 6), oQ 8 (.load none 7), oM 2 8] [2])
 .ret)))
theorem fok97 : FOK Tryz.prog 97 (9, ic97, [(.t 2)]) := fokA [2000000] Tryz.func97 (by kernel_rfl) (by kernel_rfl) (by kernel_rfl) (by kernel_rfl)
def ic98 : IC :=
 (.seq
 (.reg 0 [oK 3 (.boxt 1), oM 4 (.c .nilslice)] [0, 3])
 (.seq
 (.seq
 (.reg 1 [oM 5 0, oQ 6 (.isnil (.pointer 218) false 5)] [0, 3, 6])
 (.cond 6
 (.seq
 (.reg 2 [oM 4 (.c .nilslice)] [4])
 .ret)
 .skip))
 (.seq
 (.dreg 3 [oM 7 0, oM 8 0, oQ 9 (.nchk 8), oQ 10 (.faddr 2 9), oQ 11 (.load none 10), oQ 12 (.faddr 0 3), oQ 13 (.load none 12), oQ 14 (.lkp 2 .nilslice false 11 13), oQ 15 (.mkf 156 [] [3]), oK 16 (.call 155 [7, 14, 15]), oM 4 16] false [4])
 .ret)))
theorem fok98 : FOK Tryz.prog 98 (17, ic98, [(.t 4)]) := fokA [1000003, 2000000] Tryz.func98 (by kernel_rfl) (by kernel_rfl) (by kernel_rfl) (by kernel_rfl)
def ic99 : IC :=
 (.seq
 (.reg 0 [oM 2 (.c .nilslice)] [0])
 (.seq
 (.reg 1 [oK 6 (.bsl 1 0 [(zI 0)] []), oM 3 6] [0, 3])
 (.seq
 (.seq
 (.reg 2 [oM 7 0, oQ 8 (.len 0 7), oM 9 (cI 0)] [3, 7, 8, 9])
 (.block 0
 (.loop
 (.seq
 (.reg 3 [oQ 10 (.bin .lss 9 8)] [3, 7, 8, 9, 10])
 (.seq
 (.cond 10
 .skip
 (.exit 0))
 (.seq
 (.block 1
 (.seq
 (.reg 4 [oQ 11 (.iaddr 1 7 9), oQ 12 (.load none 11), oM 5 12] [3, 5, 7, 8, 9])
 (.reg 5 [oM 13 3, oM 14 5, oQ 15 (.bin .add 14 (cI 1)), oK 16 (.bslt 1 1 [(zI 0)] [⟨0, ⟨1, 15⟩⟩]), oK 17 (.app 1 13 16), oM 3 17] [3, 7, 8, 9])))
 (.reg 6 [oQ 18 (.bin .add 9 (cI 1)), oM 9 18] [3, 7, 8, 9])))))))
 (.seq
 (.reg 7 [oM 19 3, oM 2 19] [2])
 .ret))))
theorem fok99 : FOK Tryz.prog 99 (20, ic99, [(.t 2)]) := fokA [1000016, 2000000] Tryz.func99 (by kernel_rfl) (by kernel_rfl) (by kernel_rfl) (by kernel_rfl)
def ic100 : IC :=
 (.seq
 (.reg 0 [oK 2 (.boxt 0), oM 4 (.c .nilslice)] [1, 2])
 (.seq
 (.seq
 (.reg 1 [oQ 12 (.load none 2), oM 13 1, oK 14 (.call 148 [12, 13]), oQ 15 (.not 14)] [1, 2, 15])
 (.cond 15
 (.seq
 (.reg 2 [oM 4 (.c .nilslice)] [4])
 .ret)
 .skip))
 (.seq
 (.reg 3 [oQ 16 (.load none 2), oQ 17 (.nchk 16), oQ 18 (.faddr 7 17), oQ 19 (.load none 18), oM 20 1, oQ 21 (.iaddr 15 19 20), oQ 22 (.load (some 15) 21), oK 5 (.alloc [(.str []), (zI 0), (.str []), (.str []), (zU 0), (.str []), .nilslice, .nilslice, .nilslice, .nilslice, .nilslice, .nilslice, .nilslice, .nilslice, .nilslice]), oN (.store 15 5 22)] [1, 2, 5])
 (.seq
 (.reg 4 [oQ 23 (.load none 2), oM 24 1, oK 25 (.call 150 [23, (.c (zU 3)), 24]), oM 26 25, gQ 27 26 false (.load none 2), gQ 28 26 false (.mov 1), gK 29 26 false (.call 149 [27, (.c (zU 4)), 28]), oQ 30 (.pick 26 (cB true) 29), oK 6 (.alloc [(.bool false)]), oN (.store 1 6 30)] [1, 2, 5, 6])
 (.seq
 (.reg 5 [oQ 31 (.load none 2), oM 32 1, oK 33 (.call 150 [31, (.c (zU 4)), 32]), oK 7 (.alloc [(.bool false)]), oN (.store 1 7 33)] [1, 2, 5, 6, 7])
 (.seq
 (.reg 6 [oQ 34 (.mkf 158 [] [5, 6, 7, 2]), oM 8 34] [1, 2, 8])
 (.seq
 (.reg 7 [oQ 35 (.load none 2), oQ 36 (.nchk 35), oQ 37 (.faddr 1 36), oQ 38 (.load none 37), oM 39 1, oK 40 (.call 160 [38, 39]), oM 9 40] [1, 2, 8, 9])
 (.seq
 (.seq
 (.reg 8 [oQ 41 (.load none 2), oQ 42 (.nchk 41), oQ 43 (.faddr 7 42), oQ 44 (.load none 43), oQ 45 (.len 0 44), oM 46 (cI 0)] [1, 8, 9, 44, 45, 46])
 (.block 0
 (.loop
 (.seq
 (.reg 9 [oQ 47 (.bin .lss 46 45)] [1, 8, 9, 44, 45, 46, 47])
 (.seq
 (.cond 47
 .skip
 (.exit 0))
 (.seq
 (.block 1
 (.seq
 (.reg 10 [oM 48 46, oQ 49 (.iaddr 15 44 46), oQ 50 (.load (some 15) 49), oK 11 (.alloc [(.str []), (zI 0), (.str []), (.str []), (zU 0), (.str []), .nilslice, .nilslice, .nilslice, .nilslice, .nilslice, .nilslice, .nilslice, .nilslice, .nilslice]), oM 10 48, oN (.store 15 11 50)] [1, 8, 9, 10, 11, 44, 45, 46])
 (.seq
 (.reg 11 [oM 51 10, oM 52 1, oQ 53 (.bin .eql 51 52), oM 54 53, gQ 55 54 false (.mov 8), gQ 56 54 false (.load (some 15) 11), gK 57 54 false (.callv 55 [56]), oQ 58 (.pick 54 (cB true) 57)] [1, 8, 9, 10, 44, 45, 46, 58])
 (.cond 58
 (.reg 12 [oM 59 9, oM 60 10, oK 61 (.bslt 1 1 [(zI 0)] [⟨0, ⟨1, 60⟩⟩]), oK 62 (.app 1 59 61), oM 9 62] [1, 8, 9, 44, 45, 46])
 .skip))))
 (.reg 13 [oQ 63 (.bin .add 46 (cI 1)), oM 46 63] [1, 8, 9, 44, 45, 46])))))))
 (.seq
 (.reg 14 [oM 64 9, oK 65 (.call 161 [64])] [9])
 (.seq
 (.reg 15 [oM 66 9, oK 67 (.call 162 [66]), oM 4 67] [4])
 .ret))))))))))
theorem fok100 : FOK Tryz.prog 100 (68, ic100, [(.t 4)]) := fokA [1000002, 1000061, 2000000] Tryz.func100 (by kernel_rfl) (by kernel_rfl) (by kernel_rfl) (by kernel_rfl)
def ic101 : IC :=
 (.seq
 (.reg 0 [oK 2 (.boxt 0), oM 4 (.c .nilslice)] [1, 2])
 (.seq
 (.seq
 (.reg 1 [oQ 7 (.load none 2), oM 8 1, oK 9 (.call 151 [7, 8]), oQ 10 (.not 9)] [1, 2, 10])
 (.cond 10
 (.seq
 (.reg 2 [oM 4 (.c .nilslice)] [4])
 .ret)
 .skip))
 (.seq
 (.reg 3 [oQ 11 (.load none 2), oQ 12 (.nchk 11), oQ 13 (.faddr 2 12), oQ 14 (.faddr 2 13), oQ 15 (.load none 14), oM 16 1, oQ 17 (.iaddr 6 15 16), oQ 18 (.load (some 6) 17), oK 5 (.alloc [(zU 0), (.str []), (zU 0), (zI 0), (.str []), (.str [])]), oN (.store 6 5 18)] [2, 5])
 (.seq
 (.seq
 (.reg 4 [oQ 19 (.faddr 0 5), oQ 20 (.load none 19), oQ 21 (.bin .eql 20 (.c (zU 1)))] [2, 5, 21])
 (.cond 21
 (.seq
 (.dreg 5 [oQ 22 (.load none 2), oQ 23 (.nchk 22), oQ 24 (.faddr 1 23), oQ 25 (.load none 24), oQ 26 (.faddr 1 5), oQ 27 (.load (some 5) 26), oK 28 (.call 163 [25, 27]), oM 4 28] false [4])
 .ret)
 .skip))
 (.seq
 (.dreg 6 [oQ 29 (.load none 2), oQ 30 (.nchk 29), oQ 31 (.faddr 1 30), oQ 32 (.load none 31), oQ 33 (.faddr 1 5), oQ 34 (.load (some 5) 33), oK 35 (.call 98 [32, 34]), oM 6 35] false [2, 5, 6])
 (.seq
 (.seq
 (.reg 7 [oQ 36 (.faddr 0 5), oQ 37 (.load none 36), oQ 38 (.bin .eql 37 (.c (zU 2)))] [2, 6, 38])
 (.cond 38
 (.seq
 (.reg 8 [oM 39 6, oM 4 39] [4])
 .ret)
 .skip))
 (.seq
 (.reg 9 [oM 40 6, oQ 41 (.mkf 164 [] [2]), oK 42 (.call 85 [40, 41]), oM 4 42] [4])
 .ret)))))))
theorem fok101 : FOK Tryz.prog 101 (43, ic101, [(.t 4)]) := fokA [1000002, 2000000] Tryz.func101 (by kernel_rfl) (by kernel_rfl) (by kernel_rfl) (by kernel_rfl)
def ic102 : IC :=
 (.seq
 (.reg 0 [oK 2 (.boxt 0), oM 4 (.c .nilslice)] [1, 2])
 (.seq
 (.seq
 (.reg 1 [oQ 5 (.load none 2), oM 6 1, oK 7 (.call 148 [5, 6]), oQ 8 (.not 7)] [1, 2, 8])
 (.cond 8
 (.seq
 (.reg 2 [oM 4 (.c .nilslice)] [4])
 .ret)
 .skip))
 (.seq
 (.reg 3 [oQ 9 (.load none 2), oM 10 1, oK 11 (.call 100 [9, 10]), oQ 12 (.mkf 165 [] [2]), oK 13 (.call 85 [11, 12]), oM 4 13] [4])
 .ret)))
theorem fok102 : FOK Tryz.prog 102 (14, ic102, [(.t 4)]) := fokA [1000002, 2000000] Tryz.func102 (by kernel_rfl) (by kernel_rfl) (by kernel_rfl) (by kernel_rfl)
def ic103 : IC :=
 (.seq
 (.reg 0 [oM 2 (.c .nilptr), oM 3 (cI 0)] [0])
 (.seq
 (.seq
 (.reg 1 [oM 4 0, oQ 5 (.bin .lss 4 (cI 0)), oM 6 5, gQ 7 6 false (.mov 0), gQ 8 6 false (.bin .gtr 7 (cI 2097152)), oQ 9 (.pick 6 (cB true) 8)] [0, 9])
 (.cond 9
 (.seq
 (.reg 2 [oM 2 (.c .nilptr), oM 3 (cI 1)] [2, 3])
 .ret)
 .skip))
 (.seq
 (.reg 3 [oQ 10 (.bld [(zI 0), (zI 0), (zI 0)] [⟨0, ⟨1, (cI 0)⟩⟩, ⟨1, ⟨1, (cI (-1))⟩⟩, ⟨2, ⟨1, (cI (-1))⟩⟩]), oK 11 (.bsl 3 1 [(zI 0), (zI 0), (zI 0)] [⟨0, ⟨3, 10⟩⟩]), oM 12 0, oK 13 (.call 166 [11, 12]), oQ 14 (.bld [.nilslice, .nilslice, .nilslice] [⟨0, ⟨1, 13⟩⟩]), oK 15 (.box 14), oM 2 15, oM 3 (cI 0)] [2, 3])
 .ret)))
theorem fok103 : FOK Tryz.prog 103 (16, ic103, [(.t 2), (.t 3)]) := fokA [2000000] Tryz.func103 (by kernel_rfl) (by kernel_rfl) (by kernel_rfl) (by kernel_rfl)
def ic104 : IC :=
 (.seq
 (.reg 0 [oK 2 (.boxt 0), oM 4 (cI 0), oM 5 (cI 0)] [1, 2])
 (.seq
 (.seq
 (.reg 1 [oQ 11 (.load none 2), oQ 12 (.isnil (.pointer 202) false 11)] [1, 2, 12])
 (.cond 12
 (.seq
 (.reg 2 [oM 4 (cI 0), oM 5 (cI 2)] [4, 5])
 .ret)
 .skip))
 (.seq
 (.reg 3 [oQ 13 (.mkf 167 [] [2]), oM 6 13] [1, 2, 6])
 (.seq
 (.seq
 (.reg 4 [oM 14 1, oM 15 6, oK 16 (.call 168 [14, 15])] [1, 2, 16])
 (.cond 16
 (.seq
 (.reg 5 [oM 4 (cI 0), oM 5 (cI 1)] [4, 5])
 .ret)
 .skip))
 (.seq
 (.reg 6 [oM 7 (.c .nilslice)] [1, 2, 7])
 (.seq
 (.seq
 (.reg 7 [oM 17 1, oQ 18 (.len 0 17), oM 19 (cI 0)] [1, 2, 7, 17, 18, 19])
 (.block 0
 (.loop
 (.seq
 (.reg 8 [oQ 20 (.bin .lss 19 18)] [1, 2, 7, 17, 18, 19, 20])
 (.seq
 (.cond 20
 .skip
 (.exit 0))
 (.seq
 (.block 1
 (.seq
 (.reg 9 [oQ 21 (.iaddr 1 17 19), oQ 22 (.load none 21), oM 9 22] [1, 2, 7, 9, 17, 18, 19])
 (.seq
 (.reg 10 [oM 23 7, oM 24 9, oK 25 (.call 84 [23, 24]), oQ 26 (.not 25)] [1, 2, 7, 9, 17, 18, 19, 26])
 (.cond 26
 (.reg 11 [oM 27 7, oM 28 9, oK 29 (.bslt 1 1 [(zI 0)] [⟨0, ⟨1, 28⟩⟩]), oK 30 (.app 1 27 29), oM 7 30] [1, 2, 7, 17, 18, 19])
 .skip))))
 (.reg 12 [oQ 31 (.bin .add 19 (cI 1)), oM 19 31] [1, 2, 7, 17, 18, 19])))))))
 (.seq
 (.reg 13 [oQ 32 (.load none 2), oQ 33 (.nchk 32), oQ 34 (.faddr 1 33), oQ 35 (.load none 34), oQ 36 (.len 0 35), oM 10 36] [1, 2, 7, 10])
 (.seq
 (.oreg 14 [(0, oQ 37 (.load none 2), 0), (1, oQ 38 (.load none 2), 0), (2, oQ 39 (.nchk 38), 0), (3, oQ 40 (.faddr 1 39), 0), (4, oQ 41 (.load none 40), 0), (5, oM 42 1, 0), (6, oK 43 (.call 169 [42]), 19), (7, oK 44 (.bslt 1 1 [.nilslice] [⟨0, ⟨1, 43⟩⟩]), 0), (8, oK 45 (.app 1 41 44), 1), (9, oQ 46 (.nchk 37), 0), (10, oQ 47 (.faddr 1 46), 0), (11, oN (.store 1 47 45), 0)] [2, 7, 10])
 (.seq
 (.oreg 15 [(0, oQ 48 (.load none 2), 0), (1, oQ 49 (.load none 2), 0), (2, oQ 50 (.nchk 49), 0), (3, oQ 51 (.faddr 2 50), 0), (4, oQ 52 (.load none 51), 0), (5, oM 53 7, 0), (6, oK 54 (.bslt 1 1 [.nilslice] [⟨0, ⟨1, 53⟩⟩]), 0), (7, oK 55 (.app 1 52 54), 1), (8, oQ 56 (.nchk 48), 0), (9, oQ 57 (.faddr 2 56), 0), (10, oN (.store 1 57 55), 0)] [2, 10])
 (.seq
 (.reg 16 [oQ 58 (.load none 2), oM 59 10, oK 60 (.call 170 [58, 59])] [2, 10])
 (.seq
 (.oreg 17 [(0, oQ 61 (.load none 2), 0), (1, oQ 62 (.load none 2), 0), (2, oQ 63 (.nchk 62), 0), (3, oQ 64 (.faddr 5 63), 0), (4, oQ 65 (.load none 64), 0), (5, oM 66 10, 0), (6, oK 67 (.bslt 1 1 [(zI 0)] [⟨0, ⟨1, 66⟩⟩]), 0), (7, oK 68 (.app 1 65 67), 1), (8, oQ 69 (.nchk 61), 0), (9, oQ 70 (.faddr 5 69), 0), (10, oN (.store 1 70 68), 0)] [10])
 (.seq
 (.reg 18 [oM 71 10, oM 4 71, oM 5 (cI 0)] [4, 5])
 .ret))))))))))))
theorem fok104 : FOK Tryz.prog 104 (72, ic104, [(.t 4), (.t 5)]) := fokA [1000002, 1000029, 1000044, 1000054, 1000067, 2000000] Tryz.func104 (by kernel_rfl) (by kernel_rfl) (by kernel_rfl) (by kernel_rfl)
def ic105 : IC :=
 (.seq
 (.reg 0 [oM 2 (cI 0)] [0])
 (.seq
 (.seq
 (.reg 1 [oM 5 0, oQ 6 (.isnil (.pointer 202) false 5)] [0, 6])
 (.cond 6
 (.seq
 (.reg 2 [oM 2 (cI (-1))] [2])
 .ret)
 .skip))
 (.seq
 (.block 0
 (.loop
 (.seq
 (.seq
 (.reg 3 [oM 7 0, oQ 8 (.nchk 7), oQ 9 (.faddr 5 8), oQ 10 (.load none 9), oQ 11 (.len 0 10), oQ 12 (.bin .gtr 11 (cI 0))] [0, 12])
 (.cond 12
 .skip
 (.exit 0)))
 (.block 1
 (.seq
 (.seq
 (.reg 4 [oM 13 0, oQ 14 (.nchk 13), oQ 15 (.faddr 5 14), oQ 16 (.load none 15), oQ 17 (.iaddr 1 16 (cI 0)), oQ 18 (.load none 17), oM 3 18] [0, 3])
 (.seq
 (.reg 5 [oM 19 0, oM 20 3, oK 21 (.call 171 [19, 20])] [0, 3, 21])
 (.cond 21
 (.seq
 (.reg 6 [oM 22 3, oM 2 22] [2])
 .ret)
 .skip)))
 (.reg 7 [oM 23 0, oM 24 0, oQ 25 (.nchk 24), oQ 26 (.faddr 5 25), oQ 27 (.load none 26), oQ 28 (.slc 1 27 (some (cI 1)) none), oQ 29 (.nchk 23), oQ 30 (.faddr 5 29), oN (.store 1 30 28)] [0]))))))
 (.seq
 (.block 2
 (.loop
 (.seq
 (.seq
 (.oreg 8 [(0, oM 31 0, 0), (1, oQ 32 (.nchk 31), 0), (2, oQ 33 (.faddr 4 32), 0), (3, oQ 34 (.load none 33), 0), (4, oM 35 0, 0), (5, oQ 36 (.nchk 35), 0), (6, oQ 37 (.faddr 0 36), 0), (7, oQ 38 (.faddr 0 37), 0), (8, oQ 39 (.load none 38), 0), (9, oK 40 (.call 108 [39]), 8), (10, oQ 41 (.bin .lss 34 40), 0)] [0, 41])
 (.cond 41
 .skip
 (.exit 2)))
 (.block 3
 (.seq
 (.seq
 (.oreg 9 [(0, oM 42 0, 0), (1, oM 43 0, 0), (2, oQ 44 (.nchk 43), 0), (3, oQ 45 (.faddr 0 44), 0), (4, oQ 46 (.faddr 0 45), 0), (5, oQ 47 (.load none 46), 0), (6, oM 48 0, 0), (7, oQ 49 (.nchk 48), 0), (8, oQ 50 (.faddr 4 49), 0), (9, oQ 51 (.load none 50), 0), (10, oK 52 (.call 110 [47, 51]), 0), (11, oQ 53 (.neg 52), 0), (12, oK 54 (.call 172 [42, 53]), 0), (13, oM 4 54, 0)] [0, 4])
 (.seq
 (.reg 10 [oM 55 4, oQ 56 (.bin .geq 55 (cI 0))] [0, 4, 56])
 (.cond 56
 (.seq
 (.reg 11 [oM 57 4, oM 2 57] [2])
 .ret)
 .skip)))
 (.reg 12 [oM 58 0, oQ 59 (.nchk 58), oQ 60 (.faddr 4 59), oQ 61 (.load none 60), oQ 62 (.bin .add 61 (cI 1)), oQ 63 (.nchk 58), oQ 64 (.faddr 4 63), oN (.store 1 64 62)] [0]))))))
 (.seq
 (.reg 13 [oM 2 (cI (-1))] [2])
 .ret)))))
theorem fok105 : FOK Tryz.prog 105 (65, ic105, [(.t 2)]) := fokA [2000000] Tryz.func105 (by kernel_rfl) (by kernel_rfl) (by kernel_rfl) (by kernel_rfl)
def ic106 : IC :=
 (.seq
 (.reg 0 [oM 4 (cI 0)] [0, 1])
 (.seq
 (.seq
 (.reg 1 [oM 6 0, oQ 7 (.isnil (.pointer 252) false 6)] [0, 1, 7])
 (.cond 7
 (.seq
 (.reg 2 [oM 4 (cI 2)] [4])
 .ret)
 .skip))
 (.seq
 (.seq
 (.reg 3 [oM 8 0, oM 9 1, oK 10 (.call 173 [8, 9]), oM 5 10] [0, 1, 5])
 (.seq
 (.reg 4 [oM 11 5, oQ 12 (.bin .neq 11 (cI 0))] [0, 1, 5, 12])
 (.cond 12
 (.seq
 (.reg 5 [oM 13 5, oM 4 13] [4])
 .ret)
 .skip)))
 (.seq
 (.oreg 6 [(0, oM 14 0, 0), (1, oM 15 0, 0), (2, oQ 16 (.nchk 15), 0), (3, oQ 17 (.faddr 2 16), 0), (4, oQ 18 (.load none 17), 0), (5, oM 19 0, 0), (6, oQ 20 (.nchk 19), 0), (7, oQ 21 (.faddr 1 20), 0), (8, oQ 22 (.load none 21), 0), (9, oQ 23 (.len 0 22), 0), (10, oK 24 (.bslt 1 1 [(zI 0)] [⟨0, ⟨1, 23⟩⟩]), 0), (11, oK 25 (.app 1 18 24), 0), (12, oQ 26 (.nchk 14), 0), (13, oQ 27 (.faddr 2 26), 0), (14, oN (.store 1 27 25), 0)] [0, 1])
 (.seq
 (.reg 7 [oM 28 0, oM 29 1, oK 30 (.call 174 [28, 29, (cI (-1))])] [])
 (.seq
 (.reg 8 [oM 4 (cI 0)] [4])
 .ret))))))
theorem fok106 : FOK Tryz.prog 106 (31, ic106, [(.t 4)]) := fokA [1000024, 2000000] Tryz.func106 (by kernel_rfl) (by kernel_rfl) (by kernel_rfl) (by kernel_rfl)
def ic107 : IC :=
 (.seq
 (.reg 0 [oM 2 (cI 0)] [0])
 (.seq
 (.seq
 (.reg 1 [oM 3 0, oQ 4 (.isnil (.pointer 252) false 3)] [0, 4])
 (.cond 4
 (.seq
 (.reg 2 [oM 2 (cI 0)] [2])
 .ret)
 .skip))
 (.seq
 (.reg 3 [oM 5 0, oQ 6 (.nchk 5), oQ 7 (.faddr 0 6), oQ 8 (.load none 7), oQ 9 (.len 0 8), oM 2 9] [2])
 .ret)))
theorem fok107 : FOK Tryz.prog 107 (10, ic107, [(.t 2)]) := fokA [2000000] Tryz.func107 (by kernel_rfl) (by kernel_rfl) (by kernel_rfl) (by kernel_rfl)
def ic108 : IC :=
 (.seq
 (.reg 0 [oM 2 (cI 0)] [0])
 (.seq
 (.seq
 (.reg 1 [oM 3 0, oQ 4 (.isnil (.pointer 252) false 3)] [0, 4])
 (.cond 4
 (.seq
 (.reg 2 [oM 2 (cI 0)] [2])
 .ret)
 .skip))
 (.seq
 (.reg 3 [oM 5 0, oQ 6 (.nchk 5), oQ 7 (.faddr 1 6), oQ 8 (.load none 7), oQ 9 (.len 0 8), oM 2 9] [2])
 .ret)))
theorem fok108 : FOK Tryz.prog 108 (10, ic108, [(.t 2)]) := fokA [2000000] Tryz.func108 (by kernel_rfl) (by kernel_rfl) (by kernel_rfl) (by kernel_rfl)
def ic109 : IC :=
 (.seq
 (.reg 0 [oM 2 (cI 0)] [0])
 (.seq
 (.seq
 (.reg 1 [oM 3 0, oQ 4 (.bin .lss 3 (cI 0))] [0, 4])
 (.cond 4
 (.seq
 (.reg 2 [oM 5 0, oQ 6 (.neg 5), oQ 7 (.bin .sub 6 (cI 1)), oM 2 7] [2])
 .ret)
 .skip))
 (.seq
 (.reg 3 [oM 8 0, oQ 9 (.bin .sub 8 (cI 1)), oM 2 9] [2])
 .ret)))
theorem fok109 : FOK Tryz.prog 109 (10, ic109, [(.t 2)]) := fokA [2000000] Tryz.func109 (by kernel_rfl) (by kernel_rfl) (by kernel_rfl) (by kernel_rfl)
def ic110 : IC :=
 (.seq
 (.reg 0 [oM 4 (cI 0)] [0, 1])
 (.seq
 (.seq
 (.reg 1 [oM 5 1, oQ 6 (.bin .lss 5 (cI 0)), oM 7 6, gQ 8 7 false (.mov 1), gQ 9 7 false (.mov 0), gK 10 7 false (.call 108 [9]), gQ 11 7 false (.bin .geq 8 10), oQ 12 (.pick 7 (cB true) 11)] [0, 1, 12])
 (.cond 12
 (.seq
 (.reg 2 [oM 4 (cI 0)] [4])
 .ret)
 .skip))
 (.seq
 (.reg 3 [oM 13 0, oQ 14 (.nchk 13), oQ 15 (.faddr 1 14), oQ 16 (.load none 15), oM 17 1, oQ 18 (.iaddr 1 16 17), oQ 19 (.load none 18), oM 4 19] [4])
 .ret)))
theorem fok110 : FOK Tryz.prog 110 (20, ic110, [(.t 4)]) := fokA [2000000] Tryz.func110 (by kernel_rfl) (by kernel_rfl) (by kernel_rfl) (by kernel_rfl)
def ic111 : IC :=
 (.seq
 (.reg 0 [oM 8 (cI 0)] [0, 1, 2, 3])
 (.seq
 (.seq
 (.reg 1 [oM 14 0, oM 15 1, oK 16 (.call 175 [14, 15]), oQ 17 (.not 16)] [0, 1, 2, 3, 17])
 (.cond 17
 (.seq
 (.reg 2 [oM 8 (cI 1)] [8])
 .ret)
 .skip))
 (.seq
 (.seq
 (.reg 3 [oM 18 2, oQ 19 (.bin .neq 18 (cI 0)), oM 20 19, gQ 21 20 true (.mov 1), gQ 22 20 true (.mov 2), gK 23 20 true (.call 84 [21, 22]), gQ 24 20 true (.not 23), oQ 25 (.pick 20 24 (cB false))] [0, 1, 2, 3, 25])
 (.cond 25
 (.seq
 (.reg 4 [oM 8 (cI 7)] [8])
 .ret)
 .skip))
 (.seq
 (.seq
 (.reg 5 [oM 26 1, oQ 27 (.len 0 26), oM 28 (cI 0)] [0, 1, 2, 3, 26, 27, 28])
 (.block 0
 (.loop
 (.seq
 (.reg 6 [oQ 29 (.bin .lss 28 27)] [0, 1, 2, 3, 26, 27, 28, 29])
 (.seq
 (.cond 29
 .skip
 (.exit 0))
 (.seq
 (.block 1
 (.seq
 (.reg 7 [oQ 30 (.iaddr 1 26 28), oQ 31 (.load none 30), oM 10 31] [0, 1, 2, 3, 10, 26, 27, 28])
 (.seq
 (.seq
 (.reg 8 [oM 32 10, oM 33 2, oQ 34 (.bin .eql 32 33)] [0, 1, 2, 3, 10, 26, 27, 28, 34])
 (.cond 34
 (.exit 1)
 .skip))
 (.seq
 (.oreg 9 [(0, oM 35 0, 0), (1, oQ 36 (.nchk 35), 0), (2, oQ 37 (.faddr 2 36), 0), (3, oQ 38 (.load none 37), 0), (4, oM 39 10, 0), (5, oK 40 (.call 109 [39]), 8), (6, oQ 41 (.iaddr 1 38 40), 0), (7, oQ 42 (.load none 41), 0), (8, oM 11 42, 0)] [0, 1, 2, 3, 10, 11, 26, 27, 28])
 (.seq
 (.reg 10 [oM 43 0, oQ 44 (.nchk 43), oQ 45 (.faddr 0 44), oQ 46 (.load none 45), oM 47 10, oK 48 (.call 118 [46, 47]), oQ 49 (.bin .neq 48 (cI (-1))), oM 50 49, gQ 51 50 false (.mov 11), gQ 52 50 false (.mov 3), gQ 53 50 false (.bin .geq 51 52), oQ 54 (.pick 50 (cB true) 53)] [0, 1, 2, 3, 26, 27, 28, 54])
 (.cond 54
 (.seq
 (.reg 11 [oM 8 (cI 7)] [8])
 .ret)
 .skip))))))
 (.reg 12 [oQ 55 (.bin .add 28 (cI 1)), oM 28 55] [0, 1, 2, 3, 26, 27, 28])))))))
 (.seq
 (.seq
 (.reg 13 [oM 56 1, oQ 57 (.len 0 56), oM 58 (cI 0)] [0, 2, 56, 57, 58])
 (.block 2
 (.loop
 (.seq
 (.reg 14 [oQ 59 (.bin .lss 58 57)] [0, 2, 56, 57, 58, 59])
 (.seq
 (.cond 59
 .skip
 (.exit 2))
 (.seq
 (.block 3
 (.seq
 (.reg 15 [oQ 60 (.iaddr 1 56 58), oQ 61 (.load none 60), oM 13 61] [0, 2, 13, 56, 57, 58])
 (.seq
 (.reg 16 [oM 62 13, oM 63 2, oQ 64 (.bin .neq 62 63)] [0, 2, 13, 56, 57, 58, 64])
 (.cond 64
 (.oreg 17 [(0, oM 65 0, 0), (1, oQ 66 (.nchk 65), 0), (2, oQ 67 (.faddr 3 66), 0), (3, oQ 68 (.load none 67), 0), (4, oM 69 0, 0), (5, oQ 70 (.nchk 69), 0), (6, oQ 71 (.faddr 2 70), 0), (7, oQ 72 (.load none 71), 0), (8, oM 73 13, 0), (12, oM 77 13, 0), (9, oK 74 (.call 109 [73]), 136), (10, oQ 75 (.iaddr 1 72 74), 0), (11, oQ 76 (.load none 75), 0), (13, oN (.mupd 1 68 76 77), 0)] [0, 2, 56, 57, 58])
 .skip))))
 (.reg 18 [oQ 78 (.bin .add 58 (cI 1)), oM 58 78] [0, 2, 56, 57, 58])))))))
 (.seq
 (.reg 19 [oM 8 (cI 0)] [8])
 .ret))))))
theorem fok111 : FOK Tryz.prog 111 (79, ic111, [(.t 8)]) := fokA [2000000] Tryz.func111 (by kernel_rfl) (by kernel_rfl) (by kernel_rfl) (by kernel_rfl)
def ic112 : IC :=
 (.seq
 (.reg 0 [oM 2 (cI 0), oM 3 (cI 0)] [0, 3])
 (.seq
 (.reg 1 [oM 2 (cI (-1))] [0, 2, 3])
 (.seq
 (.seq
 (.reg 2 [oM 6 0, oQ 7 (.nchk 6), oQ 8 (.faddr 3 7), oQ 9 (.load none 8), oK 10 (.mrange 9)] [0, 2, 3, 10])
 (.block 0
 (.loop
 (.seq
 (.reg 3 [oK 11 (.mnext 10), oQ 12 (.ext 0 11)] [0, 2, 3, 10, 12])
 (.seq
 (.cond 12
 .skip
 (.exit 0))
 (.block 1
 (.seq
 (.reg 4 [oK 13 (.ment 10), oQ 14 (.ext 0 13), oQ 15 (.ext 1 13), oM 4 14, oM 5 15] [0, 2, 3, 4, 5, 10])
 (.seq
 (.reg 5 [oM 16 2, oM 17 4, oQ 18 (.mm true 16 17), oM 2 18] [0, 2, 3, 5, 10])
 (.seq
 (.oreg 6 [(0, oM 19 0, 0), (1, oQ 20 (.nchk 19), 0), (2, oQ 21 (.faddr 0 20), 0), (3, oQ 22 (.load none 21), 0), (4, oM 23 5, 0), (7, oM 26 0, 0), (8, oQ 27 (.nchk 26), 0), (9, oQ 28 (.faddr 0 27), 0), (10, oQ 29 (.load none 28), 0), (5, oK 24 (.call 109 [23]), 1032), (6, oK 25 (.call 115 [22, 24]), 1024), (11, oK 30 (.call 113 [29]), 0), (12, oQ 31 (.bin .eql 25 30), 0)] [0, 2, 3, 10, 31])
 (.cond 31
 (.reg 7 [oM 32 3, oQ 33 (.bin .add 32 (cI 1)), oM 3 33] [0, 2, 3, 10])
 .skip))))))))))
 (.seq
 (.reg 8 [oM 34 2, oM 35 3, oM 2 34, oM 3 35] [2, 3])
 .ret))))
theorem fok112 : FOK Tryz.prog 112 (36, ic112, [(.t 2), (.t 3)]) := fokA [2000000] Tryz.func112 (by kernel_rfl) (by kernel_rfl) (by kernel_rfl) (by kernel_rfl)
def ic113 : IC :=
 (.seq
 (.reg 0 [oM 2 (cI 0)] [0])
 (.seq
 (.seq
 (.reg 1 [oM 3 0, oQ 4 (.isnil (.pointer 252) false 3)] [0, 4])
 (.cond 4
 (.seq
 (.reg 2 [oM 2 (cI 0)] [2])
 .ret)
 .skip))
 (.seq
 (.reg 3 [oM 5 0, oQ 6 (.nchk 5), oQ 7 (.faddr 2 6), oQ 8 (.load none 7), oQ 9 (.len 0 8), oM 2 9] [2])
 .ret)))
theorem fok113 : FOK Tryz.prog 113 (10, ic113, [(.t 2)]) := fokA [2000000] Tryz.func113 (by kernel_rfl) (by kernel_rfl) (by kernel_rfl) (by kernel_rfl)
def ic114 : IC :=
 (.seq
 (.reg 0 [oM 4 (cI 0)] [0, 1])
 (.seq
 (.reg 1 [oM 5 0, oM 6 1, oK 7 (.call 176 [5, 6]), oQ 8 (.fld none 2 7), oM 4 8] [4])
 .ret))
theorem fok114 : FOK Tryz.prog 114 (9, ic114, [(.t 4)]) := fokA [2000000] Tryz.func114 (by kernel_rfl) (by kernel_rfl) (by kernel_rfl) (by kernel_rfl)
def ic115 : IC :=
 (.seq
 (.reg 0 [oM 4 (cI 0)] [0, 1])
 (.seq
 (.reg 1 [oM 5 0, oM 6 1, oK 7 (.call 176 [5, 6]), oQ 8 (.fld none 1 7), oM 4 8] [4])
 .ret))
theorem fok115 : FOK Tryz.prog 115 (9, ic115, [(.t 4)]) := fokA [2000000] Tryz.func115 (by kernel_rfl) (by kernel_rfl) (by kernel_rfl) (by kernel_rfl)
def ic116 : IC :=
 (.seq
 (.reg 0 [oM 2 (.c .nilptr)] [0])
 (.seq
 (.seq
 (.reg 1 [oM 3 0, oQ 4 (.isnil (.pointer 252) false 3)] [0, 4])
 (.cond 4
 (.seq
 (.reg 2 [oM 2 (.c .nilptr)] [2])
 .ret)
 .skip))
 (.seq
 (.oreg 3 [(0, oM 5 0, 0), (1, oQ 6 (.nchk 5), 0), (2, oQ 7 (.faddr 0 6), 0), (3, oQ 8 (.load none 7), 0), (5, oM 10 0, 0), (6, oQ 11 (.nchk 10), 0), (7, oQ 12 (.faddr 1 11), 0), (8, oQ 13 (.load none 12), 0), (10, oM 15 0, 0), (11, oQ 16 (.nchk 15), 0), (12, oQ 17 (.faddr 2 16), 0), (13, oQ 18 (.load none 17), 0), (4, oK 9 (.call 177 [8]), 8448), (9, oK 14 (.call 169 [13]), 8192), (14, oK 19 (.call 169 [18]), 0), (15, oQ 20 (.bld [.nilslice, .nilslice, .nilslice] [⟨0, ⟨1, 9⟩⟩, ⟨1, ⟨1, 14⟩⟩, ⟨2, ⟨1, 19⟩⟩]), 0), (16, oK 21 (.boxt 20), 0), (17, oM 2 21, 0)] [2])
 .ret)))
theorem fok116 : FOK Tryz.prog 116 (22, ic116, [(.t 2)]) := fokA [1000021, 2000000] Tryz.func116 (by kernel_rfl) (by kernel_rfl) (by kernel_rfl) (by kernel_rfl)
def ic117 : IC :=
 (.seq
 (.reg 0 [oM 4 (cI 0)] [0, 1])
 (.seq
 (.block 0
 (.seq
 (.reg 1 [oM 9 0, oQ 10 (.isnil (.pointer 252) false 9), oM 8 10] [0, 1, 8])
 (.cond 8
 (.seq
 (.reg 2 [oM 4 (cI 2)] [4])
 .ret)
 (.seq
 (.reg 3 [oM 12 1, oQ 13 (.bin .lss 12 (cI 0)), oM 14 13, gQ 15 14 false (.mov 1), gQ 16 14 false (.mov 0), gQ 17 14 false (.nchk 16), gQ 18 14 false (.faddr 2 17), gQ 19 14 false (.load none 18), gQ 20 14 false (.len 0 19), gQ 21 14 false (.bin .gtr 15 20), oQ 22 (.pick 14 (cB true) 21), oM 11 22] [0, 1, 11])
 (.cond 11
 (.seq
 (.reg 4 [oM 4 (cI 1)] [4])
 .ret)
 (.seq
 (.reg 5 [oM 24 1, oM 25 0, oQ 26 (.nchk 25), oQ 27 (.faddr 2 26), oQ 28 (.load none 27), oQ 29 (.len 0 28), oQ 30 (.bin .eql 24 29), oM 23 30] [0, 1, 23])
 (.cond 23
 (.seq
 (.reg 6 [oM 4 (cI 0)] [4])
 .ret)
 .skip)))))))
 (.seq
 (.reg 7 [oM 31 0, oQ 32 (.nchk 31), oQ 33 (.faddr 2 32), oQ 34 (.load none 33), oM 35 1, oQ 36 (.iaddr 1 34 35), oQ 37 (.load none 36), oM 5 37] [0, 1, 5])
 (.seq
 (.seq
 (.reg 8 [oM 38 0, oQ 39 (.nchk 38), oQ 40 (.faddr 1 39), oQ 41 (.load none 40), oM 42 5, oQ 43 (.slc 1 41 (some 42) none), oQ 44 (.len 0 43), oM 45 (cI 0)] [0, 1, 5, 43, 44, 45])
 (.block 1
 (.loop
 (.seq
 (.reg 9 [oQ 46 (.bin .lss 45 44)] [0, 1, 5, 43, 44, 45, 46])
 (.seq
 (.cond 46
 .skip
 (.exit 1))
 (.seq
 (.block 2
 (.seq
 (.reg 10 [oQ 47 (.iaddr 1 43 45), oQ 48 (.load none 47), oM 7 48] [0, 1, 5, 7, 43, 44, 45])
 (.oreg 11 [(0, oM 49 0, 0), (1, oQ 50 (.nchk 49), 0), (2, oQ 51 (.faddr 0 50), 0), (3, oQ 52 (.load none 51), 0), (4, oM 53 0, 0), (5, oM 54 7, 0), (7, oQ 56 (.bld [(zI 0), (zI 0), (zI 0)] [⟨0, ⟨1, (cI 0)⟩⟩, ⟨1, ⟨1, (cI (-1))⟩⟩, ⟨2, ⟨1, (cI (-1))⟩⟩]), 0), (6, oK 55 (.call 178 [53, 54]), 8), (8, oQ 57 (.iaddr 3 52 55), 0), (9, oN (.store 3 57 56), 0)] [0, 1, 5, 43, 44, 45])))
 (.reg 12 [oQ 58 (.bin .add 45 (cI 1)), oM 45 58] [0, 1, 5, 43, 44, 45])))))))
 (.seq
 (.dreg 13 [oM 59 0, oM 60 0, oM 61 0, oQ 62 (.nchk 61), oQ 63 (.faddr 1 62), oQ 64 (.load none 63), oM 65 5, oM 66 5, oQ 67 (.clp 1 64 (cI 0) 65 66), oM 68 0, oQ 69 (.nchk 68), oQ 70 (.faddr 2 69), oQ 71 (.load none 70), oM 72 1, oM 73 1, oQ 74 (.clp 1 71 (cI 0) 72 73), oQ 75 (.nchk 59), oQ 76 (.faddr 1 75), oN (.store 1 76 67), oQ 77 (.nchk 60), oQ 78 (.faddr 2 77), oN (.store 1 78 74)] false [])
 (.seq
 (.reg 14 [oM 4 (cI 0)] [4])
 .ret))))))
theorem fok117 : FOK Tryz.prog 117 (79, ic117, [(.t 4)]) := fokA [2000000] Tryz.func117 (by kernel_rfl) (by kernel_rfl) (by kernel_rfl) (by kernel_rfl)
def ic118 : IC :=
 (.seq
 (.reg 0 [oM 4 (cI 0)] [0, 1])
 (.seq
 (.seq
 (.reg 1 [oM 6 0, oQ 7 (.isnil (.pointer 252) false 6)] [0, 1, 7])
 (.cond 7
 (.seq
 (.reg 2 [oM 4 (cI 0)] [4])
 .ret)
 .skip))
 (.seq
 (.reg 3 [oM 8 0, oM 9 1, oK 10 (.call 178 [8, 9]), oM 5 10] [0, 1, 5])
 (.seq
 (.block 0
 (.seq
 (.reg 4 [oM 12 5, oQ 13 (.bin .lss 12 (cI 0)), oM 11 13] [0, 1, 5, 11])
 (.cond 11
 (.seq
 (.reg 5 [oM 4 (cI 0)] [4])
 .ret)
 (.seq
 (.reg 6 [oM 15 1, oQ 16 (.bin .lss 15 (cI 0)), oM 14 16] [0, 5, 14])
 (.cond 14
 (.seq
 (.reg 7 [oM 17 0, oQ 18 (.nchk 17), oQ 19 (.faddr 0 18), oQ 20 (.load none 19), oM 21 5, oQ 22 (.iaddr 3 20 21), oQ 23 (.faddr 0 22), oQ 24 (.load none 23), oQ 25 (.neg 24), oM 4 25] [4])
 .ret)
 .skip)))))
 (.seq
 (.reg 8 [oM 26 0, oQ 27 (.nchk 26), oQ 28 (.faddr 0 27), oQ 29 (.load none 28), oM 30 5, oQ 31 (.iaddr 3 29 30), oQ 32 (.faddr 0 31), oQ 33 (.load none 32), oM 4 33] [4])
 .ret)))))
theorem fok118 : FOK Tryz.prog 118 (34, ic118, [(.t 4)]) := fokA [2000000] Tryz.func118 (by kernel_rfl) (by kernel_rfl) (by kernel_rfl) (by kernel_rfl)
def ic119 : IC :=
 (.seq
 (.reg 0 [oM 2 (.c .nilslice)] [0])
 (.seq
 (.seq
 (.reg 1 [oM 6 0, oQ 7 (.isnil (.pointer 188) false 6)] [0, 7])
 (.cond 7
 (.seq
 (.reg 2 [oM 2 (.c .nilslice)] [2])
 .ret)
 .skip))
 (.seq
 (.reg 3 [oM 3 (.c .nilslice)] [0, 3])
 (.seq
 (.seq
 (.reg 4 [oM 8 0, oQ 9 (.nchk 8), oQ 10 (.faddr 3 9), oQ 11 (.load none 10), oQ 12 (.len 0 11), oM 13 (cI 0)] [3, 11, 12, 13])
 (.block 0
 (.loop
 (.seq
 (.reg 5 [oQ 14 (.bin .lss 13 12)] [3, 11, 12, 13, 14])
 (.seq
 (.cond 14
 .skip
 (.exit 0))
 (.seq
 (.block 1
 (.seq
 (.reg 6 [oQ 15 (.iaddr 1 11 13), oQ 16 (.load none 15), oM 5 16] [3, 5, 11, 12, 13])
 (.reg 7 [oM 17 3, oM 18 5, oK 19 (.call 169 [18]), oK 20 (.bslt 1 1 [.nilslice] [⟨0, ⟨1, 19⟩⟩]), oK 21 (.app 1 17 20), oM 3 21] [3, 11, 12, 13])))
 (.reg 8 [oQ 22 (.bin .add 13 (cI 1)), oM 13 22] [3, 11, 12, 13])))))))
 (.seq
 (.reg 9 [oM 23 3, oM 2 23] [2])
 .ret)))))
theorem fok119 : FOK Tryz.prog 119 (24, ic119, [(.t 2)]) := fokA [1000020, 2000000] Tryz.func119 (by kernel_rfl) (by kernel_rfl) (by kernel_rfl) (by kernel_rfl)
def ic120 : IC :=
 (.seq
 (.reg 0 [oK 3 (.boxt 1), oM 4 (cI 0)] [0, 3])
 (.seq
 (.seq
 (.reg 1 [oM 6 0, oQ 7 (.len 0 6), oM 8 (cI 0)] [0, 3, 7, 8])
 (.block 0
 (.loop
 (.seq
 (.reg 2 [oQ 9 (.bin .lss 8 7)] [0, 3, 7, 8, 9])
 (.seq
 (.cond 9
 .skip
 (.exit 0))
 (.seq
 (.block 1
 (.seq
 (.reg 3 [oM 10 8, oM 5 10] [0, 3, 5, 7, 8])
 (.seq
 (.dreg 4 [oQ 11 (.load (some 3) 3), oM 12 0, oM 13 5, oQ 14 (.iaddr 3 12 13), oQ 15 (.load (some 3) 14), oQ 16 (.eqs [1, 1, 1] true false 11 15)] false [0, 3, 5, 7, 8, 16])
 (.cond 16
 (.seq
 (.reg 5 [oM 17 5, oM 4 17] [4])
 .ret)
 .skip))))
 (.reg 6 [oQ 18 (.bin .add 8 (cI 1)), oM 8 18] [0, 3, 7, 8])))))))
 (.seq
 (.reg 7 [oM 4 (cI (-1))] [4])
 .ret)))
theorem fok120 : FOK Tryz.prog 120 (19, ic120, [(.t 4)]) := fokA [1000003, 2000000] Tryz.func120 (by kernel_rfl) (by kernel_rfl) (by kernel_rfl) (by kernel_rfl)
def ic121 : IC :=
 (.seq
 (.reg 0 [oM 2 (.c .nilslice)] [0])
 (.seq
 (.reg 1 [oM 3 (.c .nilslice)] [0, 3])
 (.seq
 (.seq
 (.reg 2 [oM 6 0, oQ 7 (.len 0 6), oM 8 (cI 0)] [3, 6, 7, 8])
 (.block 0
 (.loop
 (.seq
 (.reg 3 [oQ 9 (.bin .lss 8 7)] [3, 6, 7, 8, 9])
 (.seq
 (.cond 9
 .skip
 (.exit 0))
 (.seq
 (.block 1
 (.seq
 (.reg 4 [oQ 10 (.iaddr 1 6 8), oQ 11 (.load none 10), oM 5 11] [3, 5, 6, 7, 8])
 (.reg 5 [oM 12 3, oM 13 5, oK 14 (.call 169 [13]), oK 15 (.bslt 1 1 [.nilslice] [⟨0, ⟨1, 14⟩⟩]), oK 16 (.app 1 12 15), oM 3 16] [3, 6, 7, 8])))
 (.reg 6 [oQ 17 (.bin .add 8 (cI 1)), oM 8 17] [3, 6, 7, 8])))))))
 (.seq
 (.reg 7 [oM 18 3, oM 2 18] [2])
 .ret))))
theorem fok121 : FOK Tryz.prog 121 (19, ic121, [(.t 2)]) := fokA [1000015, 2000000] Tryz.func121 (by kernel_rfl) (by kernel_rfl) (by kernel_rfl) (by kernel_rfl)
def ic122 : IC :=
(.seq
 (.reg 0 [⟨(some 1), none, (.boxt (.t 0))⟩, ⟨(some 2), none, (.alloc [(.bool false)])⟩] [1, 2])
 (.seq
  (.block 0
   (.seq
    (.reg 1 [⟨(some 8), none, (.q (.faddr 0 (.t 1)))⟩, ⟨(some 9), none, (.q (.load none (.t 8)))⟩, ⟨(some 10), none, (.call 125 [(.t 9)])⟩, ⟨(some 11), none, (.q (.not (.t 10)))⟩, ⟨(some 12), none, (.q (.mov (.t 11)))⟩, ⟨(some 13), (some ⟨12, false⟩), (.q (.faddr 0 (.t 1)))⟩, ⟨(some 14), (some ⟨12, false⟩), (.q (.load none (.t 13)))⟩, ⟨(some 15), (some ⟨12, false⟩), (.call 127 [(.t 14)])⟩, ⟨(some 16), none, (.q (.pick (.t 12) (.c (.bool true)) (.t 15)))⟩, ⟨(some 17), none, (.q (.mov (.t 16)))⟩, ⟨(some 18), (some ⟨17, false⟩), (.q (.faddr 1 (.t 1)))⟩, ⟨(some 19), (some ⟨17, false⟩), (.q (.load (some 3) (.t 18)))⟩, ⟨(some 20), (some ⟨17, false⟩), (.call 128 [(.t 19), (.c (.bool false))])⟩, ⟨(some 21), (some ⟨17, false⟩), (.q (.not (.t 20)))⟩, ⟨(some 22), none, (.q (.pick (.t 17) (.c (.bool true)) (.t 21)))⟩, ⟨(some 7), none, (.q (.mov (.t 22)))⟩] [1, 2, 7])
    (.cond (.t 7)
     (.seq
      (.reg 2 [⟨none, none, (.store 1 (.t 2) (.c (.bool false)))⟩] [2])
      .ret)
     (.seq
      (.reg 3 [⟨(some 24), none, (.q (.faddr 4 (.t 1)))⟩, ⟨(some 25), none, (.q (.load none (.t 24)))⟩, ⟨(some 26), none, (.call 179 [(.t 25)])⟩, ⟨(some 27), none, (.q (.bin .eql (.t 26) (.c (.str []))))⟩, ⟨(some 28), none, (.q (.mov (.t 27)))⟩, ⟨(some 29), (some ⟨28, false⟩), (.q (.faddr 5 (.t 1)))⟩, ⟨(some 30), (some ⟨28, false⟩), (.q (.load none (.t 29)))⟩, ⟨(some 31), (some ⟨28, false⟩), (.q (.len 1 (.t 30)))⟩, ⟨(some 32), (some ⟨28, false⟩), (.q (.bin .gtr (.t 31) (.c (.int .i64 64))))⟩, ⟨(some 33), none, (.q (.pick (.t 28) (.c (.bool true)) (.t 32)))⟩, ⟨(some 23), none, (.q (.mov (.t 33)))⟩] [1, 2, 23])
      (.cond (.t 23)
       (.seq
        (.reg 4 [⟨none, none, (.store 1 (.t 2) (.c (.bool false)))⟩] [2])
        .ret)
       (.seq
        (.reg 5 [⟨(some 35), none, (.q (.faddr 6 (.t 1)))⟩, ⟨(some 36), none, (.q (.load none (.t 35)))⟩, ⟨(some 37), none, (.call 180 [(.t 36), (.c (.int .i64 32)), (.f 72)])⟩, ⟨(some 38), none, (.q (.not (.t 37)))⟩, ⟨(some 39), none, (.q (.mov (.t 38)))⟩, ⟨(some 40), (some ⟨39, false⟩), (.q (.faddr 9 (.t 1)))⟩, ⟨(some 41), (some ⟨39, false⟩), (.q (.load none (.t 40)))⟩, ⟨(some 42), (some ⟨39, false⟩), (.call 180 [(.t 41), (.c (.int .i64 32)), (.f 72)])⟩, ⟨(some 43), (some ⟨39, false⟩), (.q (.not (.t 42)))⟩, ⟨(some 44), none, (.q (.pick (.t 39) (.c (.bool true)) (.t 43)))⟩, ⟨(some 45), none, (.q (.mov (.t 44)))⟩, ⟨(some 46), (some ⟨45, false⟩), (.q (.faddr 14 (.t 1)))⟩, ⟨(some 47), (some ⟨45, false⟩), (.q (.load none (.t 46)))⟩, ⟨(some 48), (some ⟨45, false⟩), (.call 181 [(.t 47), (.c (.int .i64 32)), (.f 127)])⟩, ⟨(some 49), (some ⟨45, false⟩), (.q (.not (.t 48)))⟩, ⟨(some 50), none, (.q (.pick (.t 45) (.c (.bool true)) (.t 49)))⟩, ⟨(some 34), none, (.q (.mov (.t 50)))⟩] [1, 2, 34])
        (.cond (.t 34)
         (.seq
          (.reg 6 [⟨none, none, (.store 1 (.t 2) (.c (.bool false)))⟩] [2])
          .ret)
         .skip)))))))
  (.seq
   (.seq
    (.reg 7 [⟨(some 51), none, (.q (.faddr 14 (.t 1)))⟩, ⟨(some 52), none, (.q (.load none (.t 51)))⟩, ⟨(some 53), none, (.q (.len 0 (.t 52)))⟩, ⟨(some 54), none, (.q (.mov (.c (.int .i64 0))))⟩] [1, 2, 52, 53, 54])
    (.block 1
     (.loop
      (.seq
       (.reg 8 [⟨(some 55), none, (.q (.bin .lss (.t 54) (.t 53)))⟩] [1, 2, 52, 53, 54, 55])
       (.seq
        (.cond (.t 55)
         .skip
         (.exit 1))
        (.seq
         (.block 2
          (.seq
           (.reg 9 [⟨(some 56), none, (.q (.mov (.t 54)))⟩, ⟨(some 57), none, (.q (.iaddr 1 (.t 52) (.t 54)))⟩, ⟨(some 58), none, (.q (.load none (.t 57)))⟩, ⟨(some 3), none, (.q (.mov (.t 56)))⟩, ⟨(some 4), none, (.q (.mov (.t 58)))⟩] [1, 2, 3, 4, 52, 53, 54])
           (.seq
            (.reg 10 [⟨(some 59), none, (.q (.mov (.t 3)))⟩, ⟨(some 60), none, (.q (.bin .gtr (.t 59) (.c (.int .i64 0))))⟩, ⟨(some 61), none, (.q (.mov (.t 60)))⟩, ⟨(some 62), (some ⟨61, true⟩), (.q (.faddr 14 (.t 1)))⟩, ⟨(some 63), (some ⟨61, true⟩), (.q (.load none (.t 62)))⟩, ⟨(some 64), (some ⟨61, true⟩), (.q (.mov (.t 3)))⟩, ⟨(some 65), (some ⟨61, true⟩), (.q (.bin .sub (.t 64) (.c (.int .i64 1))))⟩, ⟨(some 66), (some ⟨61, true⟩), (.q (.iaddr 1 (.t 63) (.t 65)))⟩, ⟨(some 67), (some ⟨61, true⟩), (.q (.load none (.t 66)))⟩, ⟨(some 68), (some ⟨61, true⟩), (.q (.mov (.t 4)))⟩, ⟨(some 69), (some ⟨61, true⟩), (.q (.bin .geq (.t 67) (.t 68)))⟩, ⟨(some 70), none, (.q (.pick (.t 61) (.t 69) (.c (.bool false))))⟩] [1, 2, 52, 53, 54, 70])
            (.cond (.t 70)
            (.seq
            (.reg 11 [⟨none, none, (.store 1 (.t 2) (.c (.bool false)))⟩] [2])
            .ret)
            .skip))))
         (.reg 12 [⟨(some 71), none, (.q (.bin .add (.t 54) (.c (.int .i64 1))))⟩, ⟨(some 54), none, (.q (.mov (.t 71)))⟩] [1, 2, 52, 53, 54])))))))
   (.seq
    (.seq
     (.reg 13 [⟨(some 72), none, (.q (.load (some 15) (.t 1)))⟩, ⟨(some 73), none, (.call 182 [(.t 72)])⟩] [2, 73])
     (.block 3
      (.rfunc (.t 73) [74, 75]
       (.seq
        (.reg 14 [⟨(some 5), none, (.alloc [(.int .u8 0)])⟩, ⟨none, none, (.store 1 (.t 5) (.t 74))⟩] [2, 5, 75])
        (.reg 15 [⟨(some 6), none, (.q (.mov (.t 75)))⟩] [2, 5, 6]))
       (.block 4
        (.seq
         (.reg 16 [⟨(some 76), none, (.q (.mov (.t 6)))⟩, ⟨(some 77), none, (.q (.mkf 184 [] [(.t 5)]))⟩, ⟨(some 78), none, (.call 183 [(.t 76), (.c (.int .i64 32)), (.t 77)])⟩, ⟨(some 79), none, (.q (.not (.t 78)))⟩] [2, 79])
         (.cond (.t 79)
          (.seq
           (.reg 17 [⟨none, none, (.store 1 (.t 2) (.c (.bool false)))⟩] [])
           .ret)
          .skip))))))
    (.seq
     (.reg 18 [⟨none, none, (.store 1 (.t 2) (.c (.bool true)))⟩] [2])
     .ret)))))
theorem fok122 : FOK Tryz.prog 122 (80, ic122, [(.cell none 2)]) := .mk (pf := [1000001]) (an := [(0, [1, 2]), (1, [1, 2, 7]), (2, [2]), (3, [1, 2, 23]), (4, [2]), (5, [1, 2, 34]), (6, [2]), (7, [1, 2, 52, 53, 54]), (8, [1, 2, 52, 53, 54, 55]), (9, [1, 2, 3, 4, 52, 53, 54]), (10, [1, 2, 52, 53, 54, 70]), (11, [2]), (12, [1, 2, 52, 53, 54]), (13, [2, 73]), (14, [2, 5, 75]), (15, [2, 5, 6]), (16, [2, 79]), (18, [2])]) (by kernel_rfl) (fnOK_of Tryz.func122 (by kernel_rfl) (by kernel_rfl) (by kernel_rfl))
def ic123 : IC :=
(.seq
 (.reg 0 [⟨(some 2), none, (.q (.mov (.c (.bool false))))⟩] [0])
 (.seq
  (.reg 1 [⟨(some 3), none, (.q (.mov (.t 0)))⟩, ⟨(some 4), none, (.q (.bin .geq (.t 3) (.c (.int .u8 1))))⟩, ⟨(some 5), none, (.q (.mov (.t 4)))⟩, ⟨(some 6), (some ⟨5, true⟩), (.q (.mov (.t 0)))⟩, ⟨(some 7), (some ⟨5, true⟩), (.q (.bin .leq (.t 6) (.c (.int .u8 4))))⟩, ⟨(some 8), none, (.q (.pick (.t 5) (.t 7) (.c (.bool false))))⟩, ⟨(some 2), none, (.q (.mov (.t 8)))⟩] [2])
  .ret))
theorem fok123 : FOK Tryz.prog 123 (9, ic123, [(.t 2)]) := .mk (pf := []) (an := [(0, [0]), (1, [2])]) (by kernel_rfl) (fnOK_of Tryz.func123 (by kernel_rfl) (by kernel_rfl) (by kernel_rfl))
def ic124 : IC :=
 (.seq
 (.reg 0 [oM 4 (cI 0)] [0, 1])
 (.seq
 (.seq
 (.reg 1 [oM 6 0, oQ 7 (.len 0 6), oM 8 (cI 0)] [0, 1, 7, 8])
 (.block 0
 (.loop
 (.seq
 (.reg 2 [oQ 9 (.bin .lss 8 7)] [0, 1, 7, 8, 9])
 (.seq
 (.cond 9
 .skip
 (.exit 0))
 (.seq
 (.block 1
 (.seq
 (.reg 3 [oM 10 8, oM 5 10] [0, 1, 5, 7, 8])
 (.seq
 (.reg 4 [oM 11 1, oM 12 0, oM 13 5, oQ 14 (.iaddr 6 12 13), oQ 15 (.load (some 6) 14), oK 16 (.callv 11 [15])] [0, 1, 5, 7, 8, 16])
 (.cond 16
 (.seq
 (.reg 5 [oM 17 5, oM 4 17] [4])
 .ret)
 .skip))))
 (.reg 6 [oQ 18 (.bin .add 8 (cI 1)), oM 8 18] [0, 1, 7, 8])))))))
 (.seq
 (.reg 7 [oM 4 (cI (-1))] [4])
 .ret)))
theorem fok124 : FOK Tryz.prog 124 (19, ic124, [(.t 4)]) := fokA [2000000] Tryz.func124 (by kernel_rfl) (by kernel_rfl) (by kernel_rfl) (by kernel_rfl)
def ic125 : IC :=
(.seq
 (.reg 0 [⟨(some 2), none, (.q (.mov (.c (.bool false))))⟩] [0])
 (.seq
  (.seq
   (.reg 1 [⟨(some 7), none, (.q (.mov (.t 0)))⟩, ⟨(some 8), none, (.q (.len 1 (.t 7)))⟩, ⟨(some 9), none, (.q (.bin .lss (.t 8) (.c (.int .i64 1))))⟩, ⟨(some 10), none, (.q (.mov (.t 9)))⟩, ⟨(some 11), (some ⟨10, false⟩), (.q (.mov (.t 0)))⟩, ⟨(some 12), (some ⟨10, false⟩), (.q (.len 1 (.t 11)))⟩, ⟨(some 13), (some ⟨10, false⟩), (.q (.bin .gtr (.t 12) (.c (.int .i64 64))))⟩, ⟨(some 14), none, (.q (.pick (.t 10) (.c (.bool true)) (.t 13)))⟩] [0, 14])
   (.cond (.t 14)
    (.seq
     (.reg 2 [⟨(some 2), none, (.q (.mov (.c (.bool false))))⟩] [2])
     .ret)
    .skip))
  (.seq
   (.seq
    (.reg 3 [⟨(some 15), none, (.q (.mov (.t 0)))⟩, ⟨(some 16), none, (.srange (.t 15))⟩] [0, 16])
    (.block 0
     (.loop
      (.seq
       (.reg 4 [⟨(some 17), none, (.snext (.t 16))⟩, ⟨(some 18), none, (.q (.ext 0 (.t 17)))⟩] [0, 16, 17, 18])
       (.seq
        (.cond (.t 18)
         .skip
         (.exit 0))
        (.block 1
         (.seq
          (.reg 5 [⟨(some 19), none, (.q (.ext 2 (.t 17)))⟩, ⟨(some 4), none, (.q (.mov (.t 19)))⟩] [0, 4, 16])
          (.seq
           (.reg 6 [⟨(some 20), none, (.q (.mov (.t 4)))⟩, ⟨(some 21), none, (.q (.bin .gtr (.t 20) (.c (.int .i32 126))))⟩, ⟨(some 22), none, (.q (.mov (.t 21)))⟩, ⟨(some 23), (some ⟨22, false⟩), (.q (.mov (.t 4)))⟩, ⟨(some 24), (some ⟨22, false⟩), (.q (.conv .u8 (.t 23)))⟩, ⟨(some 25), (some ⟨22, false⟩), (.call 185 [(.c (.str [97, 98, 99, 100, 101, 102, 103, 104, 105, 106, 107, 108, 109, 110, 111, 112, 113, 114, 115, 116, 117, 118, 119, 120, 121, 122, 65, 66, 67, 68, 69, 70, 71, 72, 73, 74, 75, 76, 77, 78, 79, 80, 81, 82, 83, 84, 85, 86, 87, 88, 89, 90, 48, 49, 50, 51, 52, 53, 54, 55, 56, 57, 46, 95, 43, 45, 47, 58, 64, 126, 94])), (.t 24)])⟩, ⟨(some 26), (some ⟨22, false⟩), (.q (.bin .lss (.t 25) (.c (.int .i64 0))))⟩, ⟨(some 27), none, (.q (.pick (.t 22) (.c (.bool true)) (.t 26)))⟩] [0, 16, 27])
           (.cond (.t 27)
            (.seq
            (.reg 7 [⟨(some 2), none, (.q (.mov (.c (.bool false))))⟩] [2])
            .ret)
            .skip)))))))))
   (.seq
    (.seq
     (.reg 8 [⟨(some 28), none, (.q (.load (some 7) (.g 0)))⟩, ⟨(some 29), none, (.q (.mov (.c (.int .i64 0))))⟩] [0, 28, 29])
     (.block 2
      (.loop
       (.seq
        (.reg 9 [⟨(some 30), none, (.q (.bin .lss (.t 29) (.c (.int .i64 7))))⟩] [0, 28, 29, 30])
        (.seq
         (.cond (.t 30)
          .skip
          (.exit 2))
         (.seq
          (.block 3
           (.seq
            (.reg 10 [⟨(some 31), none, (.q (.idx none 7 1 (.t 28) (.t 29)))⟩, ⟨(some 6), none, (.q (.mov (.t 31)))⟩] [0, 6, 28, 29])
            (.seq
            (.reg 11 [⟨(some 32), none, (.q (.mov (.t 0)))⟩, ⟨(some 33), none, (.q (.mov (.t 6)))⟩, ⟨(some 34), none, (.q (.bin .eql (.t 32) (.t 33)))⟩] [0, 28, 29, 34])
            (.cond (.t 34)
            (.seq
            (.reg 12 [⟨(some 2), none, (.q (.mov (.c (.bool false))))⟩] [2])
            .ret)
            .skip))))
          (.reg 13 [⟨(some 35), none, (.q (.bin .add (.t 29) (.c (.int .i64 1))))⟩, ⟨(some 29), none, (.q (.mov (.t 35)))⟩] [0, 28, 29])))))))
    (.seq
     (.reg 14 [⟨(some 2), none, (.q (.mov (.c (.bool true))))⟩] [2])
     .ret)))))
theorem fok125 : FOK Tryz.prog 125 (36, ic125, [(.t 2)]) := .mk (pf := []) (an := [(0, [0]), (1, [0, 14]), (2, [2]), (3, [0, 16]), (4, [0, 16, 17, 18]), (5, [0, 4, 16]), (6, [0, 16, 27]), (7, [2]), (8, [0, 28, 29]), (9, [0, 28, 29, 30]), (10, [0, 6, 28, 29]), (11, [0, 28, 29, 34]), (12, [2]), (13, [0, 28, 29]), (14, [2])]) (by kernel_rfl) (fnOK_of Tryz.func125 (by kernel_rfl) (by kernel_rfl) (by kernel_rfl))
def ic126 : IC :=
(.seq
 (.reg 0 [⟨(some 2), none, (.q (.mov (.c (.bool false))))⟩] [0])
 (.seq
  (.reg 1 [⟨(some 3), none, (.q (.mov (.t 0)))⟩, ⟨(some 4), none, (.q (.bin .eql (.t 3) (.c (.int .u8 0))))⟩, ⟨(some 5), none, (.q (.mov (.t 4)))⟩, ⟨(some 6), (some ⟨5, false⟩), (.q (.mov (.t 0)))⟩, ⟨(some 7), (some ⟨5, false⟩), (.call 186 [(.t 6)])⟩, ⟨(some 8), (some ⟨5, false⟩), (.q (.bin .neq (.t 7) (.c (.str []))))⟩, ⟨(some 9), none, (.q (.pick (.t 5) (.c (.bool true)) (.t 8)))⟩, ⟨(some 2), none, (.q (.mov (.t 9)))⟩] [2])
  .ret))
theorem fok126 : FOK Tryz.prog 126 (10, ic126, [(.t 2)]) := .mk (pf := []) (an := [(0, [0]), (1, [2])]) (by kernel_rfl) (fnOK_of Tryz.func126 (by kernel_rfl) (by kernel_rfl) (by kernel_rfl))
def ic127 : IC :=
(.seq
 (.reg 0 [⟨(some 2), none, (.q (.mov (.c (.bool false))))⟩] [0])
 (.seq
  (.reg 1 [⟨(some 3), none, (.q (.mov (.t 0)))⟩, ⟨(some 4), none, (.call 125 [(.t 3)])⟩, ⟨(some 5), none, (.q (.mov (.t 4)))⟩, ⟨(some 6), (some ⟨5, true⟩), (.q (.mov (.t 0)))⟩, ⟨(some 7), (some ⟨5, true⟩), (.call 187 [(.t 6), (.c (.str [47]))])⟩, ⟨(some 8), none, (.q (.pick (.t 5) (.t 7) (.c (.bool false))))⟩, ⟨(some 2), none, (.q (.mov (.t 8)))⟩] [2])
  .ret))
theorem fok127 : FOK Tryz.prog 127 (9, ic127, [(.t 2)]) := .mk (pf := []) (an := [(0, [0]), (1, [2])]) (by kernel_rfl) (fnOK_of Tryz.func127 (by kernel_rfl) (by kernel_rfl) (by kernel_rfl))
def ic128 : IC :=
(.seq
 (.reg 0 [⟨(some 2), none, (.boxt (.t 0))⟩, ⟨(some 4), none, (.q (.mov (.c (.bool false))))⟩] [1, 2])
 (.seq
  (.reg 1 [⟨(some 5), none, (.q (.faddr 0 (.t 2)))⟩, ⟨(some 6), none, (.q (.load none (.t 5)))⟩, ⟨(some 7), none, (.q (.bin .geq (.t 6) (.c (.int .i64 0))))⟩, ⟨(some 8), none, (.q (.mov (.t 7)))⟩, ⟨(some 9), (some ⟨8, true⟩), (.q (.faddr 0 (.t 2)))⟩, ⟨(some 10), (some ⟨8, true⟩), (.q (.load none (.t 9)))⟩, ⟨(some 11), (some ⟨8, true⟩), (.q (.bin .leq (.t 10) (.c (.int .i64 2147483647))))⟩, ⟨(some 12), none, (.q (.pick (.t 8) (.t 11) (.c (.bool false))))⟩, ⟨(some 13), none, (.q (.mov (.t 12)))⟩, ⟨(some 14), (some ⟨13, true⟩), (.q (.faddr 1 (.t 2)))⟩, ⟨(some 15), (some ⟨13, true⟩), (.q (.load none (.t 14)))⟩, ⟨(some 16), (some ⟨13, true⟩), (.call 188 [(.t 15)])⟩, ⟨(some 17), none, (.q (.pick (.t 13) (.t 16) (.c (.bool false))))⟩, ⟨(some 18), none, (.q (.mov (.t 17)))⟩, ⟨(some 19), (some ⟨18, true⟩), (.q (.faddr 2 (.t 2)))⟩, ⟨(some 20), (some ⟨18, true⟩), (.q (.load none (.t 19)))⟩, ⟨(some 21), (some ⟨18, true⟩), (.call 188 [(.t 20)])⟩, ⟨(some 22), (some ⟨18, true⟩), (.q (.mov (.t 21)))⟩, ⟨(some 23), (some ⟨22, false⟩), (.q (.mov (.t 1)))⟩, ⟨(some 24), (some ⟨22, false⟩), (.q (.mov (.t 23)))⟩, ⟨(some 25), (some ⟨24, true⟩), (.q (.faddr 2 (.t 2)))⟩, ⟨(some 26), (some ⟨24, true⟩), (.q (.load none (.t 25)))⟩, ⟨(some 27), (some ⟨24, true⟩), (.q (.bin .eql (.t 26) (.c (.str []))))⟩, ⟨(some 28), (some ⟨22, false⟩), (.q (.pick (.t 24) (.t 27) (.c (.bool false))))⟩, ⟨(some 29), (some ⟨18, true⟩), (.q (.pick (.t 22) (.c (.bool true)) (.t 28)))⟩, ⟨(some 30), none, (.q (.pick (.t 18) (.t 29) (.c (.bool false))))⟩, ⟨(some 4), none, (.q (.mov (.t 30)))⟩] [4])
  .ret))
theorem fok128 : FOK Tryz.prog 128 (31, ic128, [(.t 4)]) := .mk (pf := [1000002]) (an := [(0, [1, 2]), (1, [4])]) (by kernel_rfl) (fnOK_of Tryz.func128 (by kernel_rfl) (by kernel_rfl) (by kernel_rfl))
def ic129 : IC :=
 (.seq
 (.reg 0 [oM 4 (cI 0)] [0, 1])
 (.seq
 (.seq
 (.reg 1 [oM 6 0, oQ 7 (.len 0 6), oM 8 (cI 0)] [0, 1, 7, 8])
 (.block 0
 (.loop
 (.seq
 (.reg 2 [oQ 9 (.bin .lss 8 7)] [0, 1, 7, 8, 9])
 (.seq
 (.cond 9
 .skip
 (.exit 0))
 (.seq
 (.block 1
 (.seq
 (.reg 3 [oM 10 8, oM 5 10] [0, 1, 5, 7, 8])
 (.seq
 (.reg 4 [oM 11 1, oM 12 0, oM 13 5, oQ 14 (.iaddr 2 12 13), oQ 15 (.load (some 2) 14), oK 16 (.callv 11 [15])] [0, 1, 5, 7, 8, 16])
 (.cond 16
 (.seq
 (.reg 5 [oM 17 5, oM 4 17] [4])
 .ret)
 .skip))))
 (.reg 6 [oQ 18 (.bin .add 8 (cI 1)), oM 8 18] [0, 1, 7, 8])))))))
 (.seq
 (.reg 7 [oM 4 (cI (-1))] [4])
 .ret)))
theorem fok129 : FOK Tryz.prog 129 (19, ic129, [(.t 4)]) := fokA [2000000] Tryz.func129 (by kernel_rfl) (by kernel_rfl) (by kernel_rfl) (by kernel_rfl)
def ic130 : IC :=
(.seq
 (.reg 0 [⟨(some 1), none, (.boxt (.t 0))⟩, ⟨(some 2), none, (.q (.mov (.c .nilmap)))⟩] [1])
 (.seq
  (.reg 1 [⟨(some 8), none, .mkmap⟩, ⟨(some 9), none, (.q (.faddr 0 (.t 1)))⟩, ⟨(some 10), none, (.q (.load none (.t 9)))⟩, ⟨(some 11), none, (.q (.bld [] []))⟩, ⟨none, none, (.mupd 2 (.t 8) (.t 10) (.t 11))⟩, ⟨(some 12), none, (.q (.mov (.t 8)))⟩, ⟨(some 3), none, (.q (.mov (.t 12)))⟩] [1, 3])
  (.seq
   (.seq
    (.reg 2 [⟨(some 13), none, (.q (.faddr 6 (.t 1)))⟩, ⟨(some 14), none, (.q (.load none (.t 13)))⟩, ⟨(some 15), none, (.q (.len 0 (.t 14)))⟩, ⟨(some 16), none, (.q (.mov (.c (.int .i64 0))))⟩] [1, 3, 14, 15, 16])
    (.block 0
     (.loop
      (.seq
       (.reg 3 [⟨(some 17), none, (.q (.bin .lss (.t 16) (.t 15)))⟩] [1, 3, 14, 15, 16, 17])
       (.seq
        (.cond (.t 17)
         .skip
         (.exit 0))
        (.seq
         (.block 1
          (.seq
           (.reg 4 [⟨(some 18), none, (.q (.iaddr 5 (.t 14) (.t 16)))⟩, ⟨(some 19), none, (.q (.load (some 5) (.t 18)))⟩, ⟨(some 5), none, (.alloc [(.str []), (.int .u8 0), (.int .i64 0), (.str []), (.str [])])⟩, ⟨none, none, (.store 5 (.t 5) (.t 19))⟩] [1, 3, 5, 14, 15, 16])
           (.reg 5 [⟨(some 20), none, (.q (.mov (.t 3)))⟩, ⟨(some 21), none, (.q (.faddr 0 (.t 5)))⟩, ⟨(some 22), none, (.q (.load none (.t 21)))⟩, ⟨(some 23), none, (.q (.bld [] []))⟩, ⟨none, none, (.mupd 2 (.t 20) (.t 22) (.t 23))⟩] [1, 3, 14, 15, 16])))
         (.reg 6 [⟨(some 24), none, (.q (.bin .add (.t 16) (.c (.int .i64 1))))⟩, ⟨(some 16), none, (.q (.mov (.t 24)))⟩] [1, 3, 14, 15, 16])))))))
   (.seq
    (.seq
     (.reg 7 [⟨(some 25), none, (.q (.faddr 14 (.t 1)))⟩, ⟨(some 26), none, (.q (.load none (.t 25)))⟩, ⟨(some 27), none, (.q (.len 0 (.t 26)))⟩, ⟨(some 28), none, (.q (.mov (.c (.int .i64 0))))⟩] [3, 26, 27, 28])
     (.block 2
      (.loop
       (.seq
        (.reg 8 [⟨(some 29), none, (.q (.bin .lss (.t 28) (.t 27)))⟩] [3, 26, 27, 28, 29])
        (.seq
         (.cond (.t 29)
          .skip
          (.exit 2))
         (.seq
          (.block 3
           (.seq
            (.reg 9 [⟨(some 30), none, (.q (.iaddr 1 (.t 26) (.t 28)))⟩, ⟨(some 31), none, (.q (.load none (.t 30)))⟩, ⟨(some 7), none, (.q (.mov (.t 31)))⟩] [3, 7, 26, 27, 28])
            (.reg 10 [⟨(some 32), none, (.q (.mov (.t 3)))⟩, ⟨(some 33), none, (.q (.mov (.t 7)))⟩, ⟨(some 34), none, (.q (.bld [] []))⟩, ⟨none, none, (.mupd 2 (.t 32) (.t 33) (.t 34))⟩] [3, 26, 27, 28])))
          (.reg 11 [⟨(some 35), none, (.q (.bin .add (.t 28) (.c (.int .i64 1))))⟩, ⟨(some 28), none, (.q (.mov (.t 35)))⟩] [3, 26, 27, 28])))))))
    (.seq
     (.reg 12 [⟨(some 36), none, (.q (.mov (.t 3)))⟩, ⟨(some 2), none, (.q (.mov (.t 36)))⟩] [2])
     .ret)))))
theorem fok130 : FOK Tryz.prog 130 (37, ic130, [(.t 2)]) := .mk (pf := [1000001]) (an := [(0, [1]), (1, [1, 3]), (2, [1, 3, 14, 15, 16]), (3, [1, 3, 14, 15, 16, 17]), (4, [1, 3, 5, 14, 15, 16]), (5, [1, 3, 14, 15, 16]), (6, [1, 3, 14, 15, 16]), (7, [3, 26, 27, 28]), (8, [3, 26, 27, 28, 29]), (9, [3, 7, 26, 27, 28]), (10, [3, 26, 27, 28]), (11, [3, 26, 27, 28]), (12, [2])]) (by kernel_rfl) (fnOK_of Tryz.func130 (by kernel_rfl) (by kernel_rfl) (by kernel_rfl))
def ic131 : IC :=
 (.seq
 (.reg 0 [oM 2 (.c .nilslice)] [0])
 (.seq
 (.seq
 (.reg 1 [oM 3 0, oQ 4 (.isnil (.slice 54) false 3)] [0, 4])
 (.cond 4
 (.seq
 (.reg 2 [oM 2 (.c .nilslice)] [2])
 .ret)
 .skip))
 (.seq
 (.reg 3 [oK 5 (.bsl 6 0 [(zU 0), (.str []), (zU 0), (zI 0), (.str []), (.str [])] []), oM 6 0, oK 7 (.app 6 5 6), oM 2 7] [2])
 .ret)))
theorem fok131 : FOK Tryz.prog 131 (8, ic131, [(.t 2)]) := fokA [2000000] Tryz.func131 (by kernel_rfl) (by kernel_rfl) (by kernel_rfl) (by kernel_rfl)
def ic132 : IC :=
 (.seq
 (.reg 0 [oM 2 (.c .nilslice)] [0])
 (.seq
 (.seq
 (.reg 1 [oM 3 0, oQ 4 (.isnil (.slice 33) false 3)] [0, 4])
 (.cond 4
 (.seq
 (.reg 2 [oM 2 (.c .nilslice)] [2])
 .ret)
 .skip))
 (.seq
 (.reg 3 [oK 5 (.bsl 2 0 [(zU 0), (zI 0)] []), oM 6 0, oK 7 (.app 2 5 6), oM 2 7] [2])
 .ret)))
theorem fok132 : FOK Tryz.prog 132 (8, ic132, [(.t 2)]) := fokA [2000000] Tryz.func132 (by kernel_rfl) (by kernel_rfl) (by kernel_rfl) (by kernel_rfl)
def ic134 : IC :=
(.seq
 (.reg 0 [⟨(some 4), none, (.q (.mov (.c (.int .i64 0))))⟩] [0, 1])
 (.seq
  (.seq
   (.reg 1 [⟨(some 6), none, (.q (.mov (.t 0)))⟩, ⟨(some 7), none, (.q (.len 0 (.t 6)))⟩, ⟨(some 8), none, (.q (.mov (.c (.int .i64 0))))⟩] [0, 1, 7, 8])
   (.block 0
    (.loop
     (.seq
      (.reg 2 [⟨(some 9), none, (.q (.bin .lss (.t 8) (.t 7)))⟩] [0, 1, 7, 8, 9])
      (.seq
       (.cond (.t 9)
        .skip
        (.exit 0))
       (.seq
        (.block 1
         (.seq
          (.reg 3 [⟨(some 10), none, (.q (.mov (.t 8)))⟩, ⟨(some 5), none, (.q (.mov (.t 10)))⟩] [0, 1, 5, 7, 8])
          (.seq
           (.reg 4 [⟨(some 11), none, (.q (.mov (.t 1)))⟩, ⟨(some 12), none, (.q (.mov (.t 0)))⟩, ⟨(some 13), none, (.q (.mov (.t 5)))⟩, ⟨(some 14), none, (.q (.iaddr 1 (.t 12) (.t 13)))⟩, ⟨(some 15), none, (.q (.load none (.t 14)))⟩, ⟨(some 16), none, (.q (.bin .eql (.t 11) (.t 15)))⟩] [0, 1, 5, 7, 8, 16])
           (.cond (.t 16)
            (.seq
            (.reg 5 [⟨(some 17), none, (.q (.mov (.t 5)))⟩, ⟨(some 4), none, (.q (.mov (.t 17)))⟩] [4])
            .ret)
            .skip))))
        (.reg 6 [⟨(some 18), none, (.q (.bin .add (.t 8) (.c (.int .i64 1))))⟩, ⟨(some 8), none, (.q (.mov (.t 18)))⟩] [0, 1, 7, 8])))))))
  (.seq
   (.reg 7 [⟨(some 4), none, (.q (.mov (.c (.int .i64 (-1)))))⟩] [4])
   .ret)))
theorem fok134 : FOK Tryz.prog 134 (19, ic134, [(.t 4)]) := .mk (pf := []) (an := [(0, [0, 1]), (1, [0, 1, 7, 8]), (2, [0, 1, 7, 8, 9]), (3, [0, 1, 5, 7, 8]), (4, [0, 1, 5, 7, 8, 16]), (5, [4]), (6, [0, 1, 7, 8]), (7, [4])]) (by kernel_rfl) (fnOK_of Tryz.func134 (by kernel_rfl) (by kernel_rfl) (by kernel_rfl))
def ic135 : IC :=
 (.seq
 (.reg 0 [oM 4 (cI 0)] [0, 1])
 (.seq
 (.seq
 (.reg 1 [oM 6 0, oQ 7 (.len 0 6), oM 8 (cI 0)] [0, 1, 7, 8])
 (.block 0
 (.loop
 (.seq
 (.reg 2 [oQ 9 (.bin .lss 8 7)] [0, 1, 7, 8, 9])
 (.seq
 (.cond 9
 .skip
 (.exit 0))
 (.seq
 (.block 1
 (.seq
 (.reg 3 [oM 10 8, oM 5 10] [0, 1, 5, 7, 8])
 (.seq
 (.reg 4 [oM 11 1, oM 12 0, oM 13 5, oQ 14 (.iaddr 1 12 13), oQ 15 (.load none 14), oK 16 (.callv 11 [15])] [0, 1, 5, 7, 8, 16])
 (.cond 16
 (.seq
 (.reg 5 [oM 17 5, oM 4 17] [4])
 .ret)
 .skip))))
 (.reg 6 [oQ 18 (.bin .add 8 (cI 1)), oM 8 18] [0, 1, 7, 8])))))))
 (.seq
 (.reg 7 [oM 4 (cI (-1))] [4])
 .ret)))
theorem fok135 : FOK Tryz.prog 135 (19, ic135, [(.t 4)]) := fokA [2000000] Tryz.func135 (by kernel_rfl) (by kernel_rfl) (by kernel_rfl) (by kernel_rfl)
def ic140 : IC :=
(.seq
 (.reg 0 [⟨(some 2), none, (.q (.mov (.c .nilslice)))⟩] [0])
 (.seq
  (.seq
   (.reg 1 [⟨(some 3), none, (.q (.mov (.t 0)))⟩, ⟨(some 4), none, (.q (.isnil (.slice 43) false (.t 3)))⟩] [0, 4])
   (.cond (.t 4)
    (.seq
     (.reg 2 [⟨(some 2), none, (.q (.mov (.c .nilslice)))⟩] [2])
     .ret)
    .skip))
  (.seq
   (.reg 3 [⟨(some 5), none, (.bsl 5 0 [(.str []), (.int .u8 0), (.int .i64 0), (.str []), (.str [])] [])⟩, ⟨(some 6), none, (.q (.mov (.t 0)))⟩, ⟨(some 7), none, (.app 5 (.t 5) (.t 6))⟩, ⟨(some 2), none, (.q (.mov (.t 7)))⟩] [2])
   .ret)))
theorem fok140 : FOK Tryz.prog 140 (8, ic140, [(.t 2)]) := .mk (pf := []) (an := [(0, [0]), (1, [0, 4]), (2, [2]), (3, [2])]) (by kernel_rfl) (fnOK_of Tryz.func140 (by kernel_rfl) (by kernel_rfl) (by kernel_rfl))
def ic141 : IC :=
(.seq
 (.reg 0 [⟨(some 2), none, (.q (.mov (.c .nilslice)))⟩] [0])
 (.seq
  (.seq
   (.reg 1 [⟨(some 3), none, (.q (.mov (.t 0)))⟩, ⟨(some 4), none, (.q (.isnil (.slice 9) false (.t 3)))⟩] [0, 4])
   (.cond (.t 4)
    (.seq
     (.reg 2 [⟨(some 2), none, (.q (.mov (.c .nilslice)))⟩] [2])
     .ret)
    .skip))
  (.seq
   (.reg 3 [⟨(some 5), none, (.bsl 1 0 [(.str [])] [])⟩, ⟨(some 6), none, (.q (.mov (.t 0)))⟩, ⟨(some 7), none, (.app 1 (.t 5) (.t 6))⟩, ⟨(some 2), none, (.q (.mov (.t 7)))⟩] [2])
   .ret)))
theorem fok141 : FOK Tryz.prog 141 (8, ic141, [(.t 2)]) := .mk (pf := []) (an := [(0, [0]), (1, [0, 4]), (2, [2]), (3, [2])]) (by kernel_rfl) (fnOK_of Tryz.func141 (by kernel_rfl) (by kernel_rfl) (by kernel_rfl))
def ic142 : IC :=
(.seq
 (.reg 0 [⟨(some 2), none, (.q (.mov (.c .nilslice)))⟩] [0])
 (.seq
  (.seq
   (.reg 1 [⟨(some 3), none, (.q (.mov (.t 0)))⟩, ⟨(some 4), none, (.q (.isnil (.slice 45) false (.t 3)))⟩] [0, 4])
   (.cond (.t 4)
    (.seq
     (.reg 2 [⟨(some 2), none, (.q (.mov (.c .nilslice)))⟩] [2])
     .ret)
    .skip))
  (.seq
   (.reg 3 [⟨(some 5), none, (.bsl 7 0 [(.int .u8 0), (.str []), (.int .u8 0), (.int .i64 0), (.str []), (.str []), .nilslice] [])⟩, ⟨(some 6), none, (.q (.mov (.t 0)))⟩, ⟨(some 7), none, (.app 7 (.t 5) (.t 6))⟩, ⟨(some 2), none, (.q (.mov (.t 7)))⟩] [2])
   .ret)))
theorem fok142 : FOK Tryz.prog 142 (8, ic142, [(.t 2)]) := .mk (pf := []) (an := [(0, [0]), (1, [0, 4]), (2, [2]), (3, [2])]) (by kernel_rfl) (fnOK_of Tryz.func142 (by kernel_rfl) (by kernel_rfl) (by kernel_rfl))
def ic143 : IC :=
(.seq
 (.reg 0 [⟨(some 1), none, (.boxt (.t 0))⟩, ⟨(some 2), none, (.alloc [(.int .u8 0), (.str []), (.int .u8 0), (.int .i64 0), (.str []), (.str []), .nilslice])⟩] [1, 2])
 (.seq
  (.reg 1 [⟨(some 6), none, (.q (.faddr 0 (.t 1)))⟩, ⟨(some 7), none, (.q (.load none (.t 6)))⟩, ⟨(some 8), none, (.q (.faddr 1 (.t 1)))⟩, ⟨(some 9), none, (.q (.load (some 5) (.t 8)))⟩, ⟨(some 10), none, (.q (.bld [(.int .u8 0), (.str []), (.int .u8 0), (.int .i64 0), (.str []), (.str []), .nilslice] [⟨0, ⟨1, (.t 7)⟩⟩, ⟨1, ⟨5, (.t 9)⟩⟩]))⟩, ⟨(some 3), none, (.alloc [(.int .u8 0), (.str []), (.int .u8 0), (.int .i64 0), (.str []), (.str []), .nilslice])⟩, ⟨none, none, (.store 7 (.t 3) (.t 10))⟩] [1, 2, 3])
  (.seq
   (.seq
    (.reg 2 [⟨(some 11), none, (.q (.faddr 6 (.t 1)))⟩, ⟨(some 12), none, (.q (.load none (.t 11)))⟩, ⟨(some 13), none, (.q (.len 0 (.t 12)))⟩, ⟨(some 14), none, (.q (.mov (.c (.int .i64 0))))⟩] [2, 3, 12, 13, 14])
    (.block 0
     (.loop
      (.seq
       (.reg 3 [⟨(some 15), none, (.q (.bin .lss (.t 14) (.t 13)))⟩] [2, 3, 12, 13, 14, 15])
       (.seq
        (.cond (.t 15)
         .skip
         (.exit 0))
        (.seq
         (.block 1
          (.seq
           (.reg 4 [⟨(some 16), none, (.q (.iaddr 7 (.t 12) (.t 14)))⟩, ⟨(some 17), none, (.q (.load (some 7) (.t 16)))⟩, ⟨(some 5), none, (.alloc [(.int .u8 0), (.str []), (.int .u8 0), (.int .i64 0), (.str []), (.str []), .nilslice])⟩, ⟨none, none, (.store 7 (.t 5) (.t 17))⟩] [2, 3, 5, 12, 13, 14])
           (.dreg 5 [⟨(some 18), none, (.q (.faddr 6 (.t 3)))⟩, ⟨(some 19), none, (.q (.load none (.t 18)))⟩, ⟨(some 20), none, (.q (.load (some 7) (.t 5)))⟩, ⟨(some 21), none, (.pcall 143 [(.t 20)])⟩, ⟨(some 22), none, (.bslt 7 1 [(.int .u8 0), (.str []), (.int .u8 0), (.int .i64 0), (.str []), (.str []), .nilslice] [⟨0, ⟨7, (.t 21)⟩⟩])⟩, ⟨(some 23), none, (.app 7 (.t 19) (.t 22))⟩, ⟨(some 24), none, (.q (.faddr 6 (.t 3)))⟩, ⟨none, none, (.store 1 (.t 24) (.t 23))⟩] true [2, 3, 12, 13, 14])))
         (.reg 6 [⟨(some 25), none, (.q (.bin .add (.t 14) (.c (.int .i64 1))))⟩, ⟨(some 14), none, (.q (.mov (.t 25)))⟩] [2, 3, 12, 13, 14])))))))
   (.seq
    (.reg 7 [⟨(some 26), none, (.q (.load (some 7) (.t 3)))⟩, ⟨none, none, (.store 7 (.t 2) (.t 26))⟩] [2])
    .ret))))
theorem fok143 : FOK Tryz.prog 143 (27, ic143, [(.cell (some 7) 2)]) := .mk (pf := ([1000001, 1000022] ++ allF1)) (an := [(0, [1, 2]), (1, [1, 2, 3]), (2, [2, 3, 12, 13, 14]), (3, [2, 3, 12, 13, 14, 15]), (4, [2, 3, 5, 12, 13, 14]), (5, [2, 3, 12, 13, 14]), (6, [2, 3, 12, 13, 14]), (7, [2])]) (by kernel_rfl) (fnOK_of Tryz.func143 (by kernel_rfl) (by kernel_rfl) (by kernel_rfl))
def ic144 : IC :=
 (.seq
 (.reg 0 [oM 4 (cB false)] [0, 1])
 (.seq
 (.reg 1 [oM 5 0, oQ 6 (.isnil (.pointer 167) true 5), oM 7 6, gQ 8 7 true (.mov 1), gQ 9 7 true (.bin .geq 8 (cI 0)), oQ 10 (.pick 7 9 (cB false)), oM 11 10, gQ 12 11 true (.mov 1), gQ 13 11 true (.mov 0), gQ 14 11 true (.nchk 13), gQ 15 11 true (.faddr 7 14), gQ 16 11 true (.load none 15), gQ 17 11 true (.len 0 16), gQ 18 11 true (.bin .lss 12 17), oQ 19 (.pick 11 18 (cB false)), oM 4 19] [4])
 .ret))
theorem fok144 : FOK Tryz.prog 144 (20, ic144, [(.t 4)]) := fokA [2000000] Tryz.func144 (by kernel_rfl) (by kernel_rfl) (by kernel_rfl) (by kernel_rfl)
def ic145 : IC :=
 (.seq
 (.reg 0 [oM 4 (cB false)] [0, 1])
 (.seq
 (.reg 1 [oM 5 0, oM 6 1, oK 7 (.call 192 [5, 6]), oQ 8 (.bin .gtr 7 (cI 0)), oM 4 8] [4])
 .ret))
theorem fok145 : FOK Tryz.prog 145 (9, ic145, [(.t 4)]) := fokA [2000000] Tryz.func145 (by kernel_rfl) (by kernel_rfl) (by kernel_rfl) (by kernel_rfl)
end Go.Id.Tryz
