/- The compiled codes of functions, written by a program out of the given form. Conditions: none. -/
import Derived.Test.YtkmlpadmllhjpaaGreatDoorFwW
import Derived.Test.YtkmlpadmllhjpaaGreatDoorProg
set_option linter.all false
namespace Go.Id.Tryz
open Go Go.Id Go.Proofs
def allF1 : List Nat := List.range 310
/-- chandlery/span.Text -/
def ic177 : IC :=
(.seq
 (.reg 0 [⟨(some 2), none, (.q (.mov (.c (.str []))))⟩] [0])
 (.seq
  (.seq
   (.reg 1 [⟨(some 5), none, (.q (.load none (.g 1)))⟩, ⟨(some 6), none, (.mrange (.t 5))⟩] [0, 6])
   (.block 0
    (.loop
     (.seq
      (.reg 2 [⟨(some 7), none, (.mnext (.t 6))⟩, ⟨(some 8), none, (.q (.ext 0 (.t 7)))⟩] [0, 6, 8])
      (.seq
       (.cond (.t 8)
        .skip
        (.exit 0))
       (.block 1
        (.seq
         (.reg 3 [⟨(some 9), none, (.ment (.t 6))⟩, ⟨(some 10), none, (.q (.ext 0 (.t 9)))⟩, ⟨(some 11), none, (.q (.ext 1 (.t 9)))⟩, ⟨(some 3), none, (.q (.mov (.t 10)))⟩, ⟨(some 4), none, (.q (.mov (.t 11)))⟩] [0, 3, 4, 6])
         (.seq
          (.reg 4 [⟨(some 12), none, (.q (.mov (.t 4)))⟩, ⟨(some 13), none, (.q (.mov (.t 0)))⟩, ⟨(some 14), none, (.q (.bin .eql (.t 12) (.t 13)))⟩] [0, 3, 6, 14])
          (.cond (.t 14)
           (.seq
            (.reg 5 [⟨(some 15), none, (.q (.mov (.t 3)))⟩, ⟨(some 2), none, (.q (.mov (.t 15)))⟩] [2])
            .ret)
           .skip)))))))))
  (.seq
   (.reg 6 [⟨(some 2), none, (.q (.mov (.c (.str []))))⟩] [2])
   .ret)))
theorem fok177 : FOK Tryz.prog 177 (16, ic177, [(.t 2)]) := .mk (pf := []) (an := [(0, [0]), (1, [0, 6]), (2, [0, 6, 8]), (3, [0, 3, 4, 6]), (4, [0, 3, 6, 14]), (5, [2]), (6, [2])]) (by kernel_rfl) (fnOK_of Tryz.func177 (by kernel_rfl) (by kernel_rfl) (by kernel_rfl))
/-- strings.HasPrefix -/
def ic178 : IC :=
(.seq
 (.reg 0 [⟨(some 4), none, (.q (.mov (.c (.bool false))))⟩] [0, 1])
 (.seq
  (.reg 1 [⟨(some 5), none, (.q (.mov (.t 0)))⟩, ⟨(some 6), none, (.q (.mov (.t 1)))⟩, ⟨(some 7), none, (.call 233 [(.t 5), (.t 6)])⟩, ⟨(some 4), none, (.q (.mov (.t 7)))⟩] [4])
  .ret))
theorem fok178 : FOK Tryz.prog 178 (8, ic178, [(.t 4)]) := .mk (pf := []) (an := [(0, [0, 1]), (1, [4])]) (by kernel_rfl) (fnOK_of Tryz.func178 (by kernel_rfl) (by kernel_rfl) (by kernel_rfl))
/-- chandlery/evr.word -/
def ic179 : IC :=
(.seq
 (.reg 0 [⟨(some 2), none, (.q (.mov (.c (.bool false))))⟩] [0])
 (.seq
  (.seq
   (.reg 1 [⟨(some 5), none, (.q (.mov (.t 0)))⟩, ⟨(some 6), none, (.q (.bin .eql (.t 5) (.c (.str []))))⟩, ⟨(some 7), none, (.q (.mov (.t 6)))⟩, ⟨(some 8), (some ⟨7, false⟩), (.q (.mov (.t 0)))⟩, ⟨(some 9), (some ⟨7, false⟩), (.q (.len 1 (.t 8)))⟩, ⟨(some 10), (some ⟨7, false⟩), (.q (.bin .gtr (.t 9) (.c (.int .i64 64))))⟩, ⟨(some 11), none, (.q (.pick (.t 7) (.c (.bool true)) (.t 10)))⟩] [0, 11])
   (.cond (.t 11)
    (.seq
     (.reg 2 [⟨(some 2), none, (.q (.mov (.c (.bool false))))⟩] [2])
     .ret)
    .skip))
  (.seq
   (.seq
    (.reg 3 [⟨(some 12), none, (.q (.mov (.t 0)))⟩, ⟨(some 13), none, (.q (.len 1 (.t 12)))⟩, ⟨(some 14), none, (.q (.mov (.c (.int .i64 0))))⟩] [0, 13, 14])
    (.block 0
     (.loop
      (.seq
       (.reg 4 [⟨(some 15), none, (.q (.bin .lss (.t 14) (.t 13)))⟩] [0, 13, 14, 15])
       (.seq
        (.cond (.t 15)
         .skip
         (.exit 0))
        (.seq
         (.block 1
          (.seq
           (.reg 5 [⟨(some 16), none, (.q (.mov (.t 14)))⟩, ⟨(some 3), none, (.q (.mov (.t 16)))⟩] [0, 3, 13, 14])
           (.seq
            (.reg 6 [⟨(some 17), none, (.q (.mov (.t 0)))⟩, ⟨(some 18), none, (.q (.mov (.t 3)))⟩, ⟨(some 19), none, (.q (.istr (.t 17) (.t 18)))⟩, ⟨(some 4), none, (.q (.mov (.t 19)))⟩] [0, 4, 13, 14])
            (.block 2
            (.seq
            (.seq
            (.reg 8 [⟨(some 21), none, (.q (.mov (.t 4)))⟩, ⟨(some 22), none, (.q (.bin .geq (.t 21) (.c (.int .u8 97))))⟩, ⟨(some 23), none, (.q (.mov (.t 22)))⟩, ⟨(some 24), (some ⟨23, true⟩), (.q (.mov (.t 4)))⟩, ⟨(some 25), (some ⟨23, true⟩), (.q (.bin .leq (.t 24) (.c (.int .u8 122))))⟩, ⟨(some 26), none, (.q (.pick (.t 23) (.t 25) (.c (.bool false))))⟩, ⟨(some 20), none, (.q (.mov (.t 26)))⟩] [0, 4, 13, 14, 20])
            (.cond (.t 20)
            .skip
            (.seq
            (.reg 9 [⟨(some 27), none, (.q (.mov (.t 4)))⟩, ⟨(some 28), none, (.q (.bin .geq (.t 27) (.c (.int .u8 65))))⟩, ⟨(some 29), none, (.q (.mov (.t 28)))⟩, ⟨(some 30), (some ⟨29, true⟩), (.q (.mov (.t 4)))⟩, ⟨(some 31), (some ⟨29, true⟩), (.q (.bin .leq (.t 30) (.c (.int .u8 90))))⟩, ⟨(some 32), none, (.q (.pick (.t 29) (.t 31) (.c (.bool false))))⟩, ⟨(some 20), none, (.q (.mov (.t 32)))⟩] [0, 4, 13, 14, 20])
            (.cond (.t 20)
            .skip
            (.seq
            (.reg 10 [⟨(some 33), none, (.q (.mov (.t 4)))⟩, ⟨(some 34), none, (.q (.bin .geq (.t 33) (.c (.int .u8 48))))⟩, ⟨(some 35), none, (.q (.mov (.t 34)))⟩, ⟨(some 36), (some ⟨35, true⟩), (.q (.mov (.t 4)))⟩, ⟨(some 37), (some ⟨35, true⟩), (.q (.bin .leq (.t 36) (.c (.int .u8 57))))⟩, ⟨(some 38), none, (.q (.pick (.t 35) (.t 37) (.c (.bool false))))⟩, ⟨(some 20), none, (.q (.mov (.t 38)))⟩] [0, 4, 13, 14, 20])
            (.cond (.t 20)
            .skip
            (.reg 11 [⟨(some 39), none, (.q (.mov (.t 4)))⟩, ⟨(some 40), none, (.call 176 [(.c (.str [46, 95, 43, 126, 94])), (.t 39)])⟩, ⟨(some 41), none, (.q (.bin .geq (.t 40) (.c (.int .i64 0))))⟩, ⟨(some 20), none, (.q (.mov (.t 41)))⟩] [0, 13, 14, 20])))))))
            (.cond (.t 20)
            .skip
            (.seq
            (.reg 7 [⟨(some 2), none, (.q (.mov (.c (.bool false))))⟩] [2])
            .ret)))))))
         (.reg 12 [⟨(some 42), none, (.q (.bin .add (.t 14) (.c (.int .i64 1))))⟩, ⟨(some 14), none, (.q (.mov (.t 42)))⟩] [0, 13, 14])))))))
   (.seq
    (.reg 13 [⟨(some 2), none, (.q (.mov (.c (.bool true))))⟩] [2])
    .ret))))
theorem fok179 : FOK Tryz.prog 179 (43, ic179, [(.t 2)]) := .mk (pf := []) (an := [(0, [0]), (1, [0, 11]), (2, [2]), (3, [0, 13, 14]), (4, [0, 13, 14, 15]), (5, [0, 3, 13, 14]), (6, [0, 4, 13, 14]), (7, [2]), (8, [0, 4, 13, 14, 20]), (9, [0, 4, 13, 14, 20]), (10, [0, 4, 13, 14, 20]), (11, [0, 13, 14, 20]), (12, [0, 13, 14]), (13, [2])]) (by kernel_rfl) (fnOK_of Tryz.func179 (by kernel_rfl) (by kernel_rfl) (by kernel_rfl))
/-- slices.Index[[]int,int] -/
def ic180 : IC :=
(.seq
 (.reg 0 [⟨(some 4), none, (.q (.mov (.c (.int .i64 0))))⟩] [0, 1])
 (.seq
  (.seq
   (.reg 1 [⟨(some 6), none, (.q (.mov (.t 0)))⟩, ⟨(some 7), none, (.q (.len 0 (.t 6)))⟩, ⟨(some 8), none, (.q (.mov (.c (.int .i64 0))))⟩] [0, 1, 7, 8])
   (.block 0
    (.loop
     (.seq
      (.reg 2 [⟨(some 9), none, (.q (.bin .lss (.t 8) (.t 7)))⟩] [0, 1, 7, 8, 9])
      (.seq
       (.cond (.t 9)
        .skip
        (.exit 0))
       (.seq
        (.block 1
         (.seq
          (.reg 3 [⟨(some 10), none, (.q (.mov (.t 8)))⟩, ⟨(some 5), none, (.q (.mov (.t 10)))⟩] [0, 1, 5, 7, 8])
          (.seq
           (.reg 4 [⟨(some 11), none, (.q (.mov (.t 1)))⟩, ⟨(some 12), none, (.q (.mov (.t 0)))⟩, ⟨(some 13), none, (.q (.mov (.t 5)))⟩, ⟨(some 14), none, (.q (.iaddr 1 (.t 12) (.t 13)))⟩, ⟨(some 15), none, (.q (.load none (.t 14)))⟩, ⟨(some 16), none, (.q (.bin .eql (.t 11) (.t 15)))⟩] [0, 1, 5, 7, 8, 16])
           (.cond (.t 16)
            (.seq
            (.reg 5 [⟨(some 17), none, (.q (.mov (.t 5)))⟩, ⟨(some 4), none, (.q (.mov (.t 17)))⟩] [4])
            .ret)
            .skip))))
        (.reg 6 [⟨(some 18), none, (.q (.bin .add (.t 8) (.c (.int .i64 1))))⟩, ⟨(some 8), none, (.q (.mov (.t 18)))⟩] [0, 1, 7, 8])))))))
  (.seq
   (.reg 7 [⟨(some 4), none, (.q (.mov (.c (.int .i64 (-1)))))⟩] [4])
   .ret)))
theorem fok180 : FOK Tryz.prog 180 (19, ic180, [(.t 4)]) := .mk (pf := []) (an := [(0, [0, 1]), (1, [0, 1, 7, 8]), (2, [0, 1, 7, 8, 9]), (3, [0, 1, 5, 7, 8]), (4, [0, 1, 5, 7, 8, 16]), (5, [4]), (6, [0, 1, 7, 8]), (7, [4])]) (by kernel_rfl) (fnOK_of Tryz.func180 (by kernel_rfl) (by kernel_rfl) (by kernel_rfl))
/-- slices.Clone[[]chandlery/api.Dep,chandlery/api.Dep] -/
def ic181 : IC :=
(.seq
 (.reg 0 [⟨(some 2), none, (.q (.mov (.c .nilslice)))⟩] [0])
 (.seq
  (.seq
   (.reg 1 [⟨(some 3), none, (.q (.mov (.t 0)))⟩, ⟨(some 4), none, (.q (.isnil (.slice 57) false (.t 3)))⟩] [0, 4])
   (.cond (.t 4)
    (.seq
     (.reg 2 [⟨(some 2), none, (.q (.mov (.c .nilslice)))⟩] [2])
     .ret)
    .skip))
  (.seq
   (.reg 3 [⟨(some 5), none, (.bsl 5 0 [(.str []), (.int .u8 0), (.int .i64 0), (.str []), (.str [])] [])⟩, ⟨(some 6), none, (.q (.mov (.t 0)))⟩, ⟨(some 7), none, (.app 5 (.t 5) (.t 6))⟩, ⟨(some 2), none, (.q (.mov (.t 7)))⟩] [2])
   .ret)))
theorem fok181 : FOK Tryz.prog 181 (8, ic181, [(.t 2)]) := .mk (pf := []) (an := [(0, [0]), (1, [0, 4]), (2, [2]), (3, [2])]) (by kernel_rfl) (fnOK_of Tryz.func181 (by kernel_rfl) (by kernel_rfl) (by kernel_rfl))
/-- slices.Clone[[]string,string] -/
def ic182 : IC :=
(.seq
 (.reg 0 [⟨(some 2), none, (.q (.mov (.c .nilslice)))⟩] [0])
 (.seq
  (.seq
   (.reg 1 [⟨(some 3), none, (.q (.mov (.t 0)))⟩, ⟨(some 4), none, (.q (.isnil (.slice 9) false (.t 3)))⟩] [0, 4])
   (.cond (.t 4)
    (.seq
     (.reg 2 [⟨(some 2), none, (.q (.mov (.c .nilslice)))⟩] [2])
     .ret)
    .skip))
  (.seq
   (.reg 3 [⟨(some 5), none, (.bsl 1 0 [(.str [])] [])⟩, ⟨(some 6), none, (.q (.mov (.t 0)))⟩, ⟨(some 7), none, (.app 1 (.t 5) (.t 6))⟩, ⟨(some 2), none, (.q (.mov (.t 7)))⟩] [2])
   .ret)))
theorem fok182 : FOK Tryz.prog 182 (8, ic182, [(.t 2)]) := .mk (pf := []) (an := [(0, [0]), (1, [0, 4]), (2, [2]), (3, [2])]) (by kernel_rfl) (fnOK_of Tryz.func182 (by kernel_rfl) (by kernel_rfl) (by kernel_rfl))
/-- slices.Clone[[]chandlery/api.Rich,chandlery/api.Rich] -/
def ic183 : IC :=
(.seq
 (.reg 0 [⟨(some 2), none, (.q (.mov (.c .nilslice)))⟩] [0])
 (.seq
  (.seq
   (.reg 1 [⟨(some 3), none, (.q (.mov (.t 0)))⟩, ⟨(some 4), none, (.q (.isnil (.slice 78) false (.t 3)))⟩] [0, 4])
   (.cond (.t 4)
    (.seq
     (.reg 2 [⟨(some 2), none, (.q (.mov (.c .nilslice)))⟩] [2])
     .ret)
    .skip))
  (.seq
   (.reg 3 [⟨(some 5), none, (.bsl 7 0 [(.int .u8 0), (.str []), (.int .u8 0), (.int .i64 0), (.str []), (.str []), .nilslice] [])⟩, ⟨(some 6), none, (.q (.mov (.t 0)))⟩, ⟨(some 7), none, (.app 7 (.t 5) (.t 6))⟩, ⟨(some 2), none, (.q (.mov (.t 7)))⟩] [2])
   .ret)))
theorem fok183 : FOK Tryz.prog 183 (8, ic183, [(.t 2)]) := .mk (pf := []) (an := [(0, [0]), (1, [0, 4]), (2, [2]), (3, [2])]) (by kernel_rfl) (fnOK_of Tryz.func183 (by kernel_rfl) (by kernel_rfl) (by kernel_rfl))
/-- chandlery/shape.Copy -/
def ic184 : IC :=
(.seq
 (.reg 0 [⟨(some 1), none, (.boxt (.t 0))⟩, ⟨(some 2), none, (.alloc [(.int .u8 0), (.str []), (.int .u8 0), (.int .i64 0), (.str []), (.str []), .nilslice])⟩] [1, 2])
 (.seq
  (.reg 1 [⟨(some 6), none, (.q (.faddr 0 (.t 1)))⟩, ⟨(some 7), none, (.q (.load none (.t 6)))⟩, ⟨(some 8), none, (.q (.faddr 1 (.t 1)))⟩, ⟨(some 9), none, (.q (.load (some 5) (.t 8)))⟩, ⟨(some 10), none, (.q (.bld [(.int .u8 0), (.str []), (.int .u8 0), (.int .i64 0), (.str []), (.str []), .nilslice] [⟨0, ⟨1, (.t 7)⟩⟩, ⟨1, ⟨5, (.t 9)⟩⟩]))⟩, ⟨(some 3), none, (.alloc [(.int .u8 0), (.str []), (.int .u8 0), (.int .i64 0), (.str []), (.str []), .nilslice])⟩, ⟨none, none, (.store 7 (.t 3) (.t 10))⟩] [1, 2, 3])
  (.seq
   (.seq
    (.reg 2 [⟨(some 11), none, (.q (.faddr 6 (.t 1)))⟩, ⟨(some 12), none, (.q (.load none (.t 11)))⟩, ⟨(some 13), none, (.q (.len 0 (.t 12)))⟩, ⟨(some 14), none, (.q (.mov (.c (.int .i64 0))))⟩] [2, 3, 12, 13, 14])
    (.block 0
     (.loop
      (.seq
       (.reg 3 [⟨(some 15), none, (.q (.bin .lss (.t 14) (.t 13)))⟩] [2, 3, 12, 13, 14, 15])
       (.seq
        (.cond (.t 15)
         .skip
         (.exit 0))
        (.seq
         (.block 1
          (.seq
           (.reg 4 [⟨(some 16), none, (.q (.iaddr 7 (.t 12) (.t 14)))⟩, ⟨(some 17), none, (.q (.load (some 7) (.t 16)))⟩, ⟨(some 5), none, (.alloc [(.int .u8 0), (.str []), (.int .u8 0), (.int .i64 0), (.str []), (.str []), .nilslice])⟩, ⟨none, none, (.store 7 (.t 5) (.t 17))⟩] [2, 3, 5, 12, 13, 14])
           (.dreg 5 [⟨(some 18), none, (.q (.faddr 6 (.t 3)))⟩, ⟨(some 19), none, (.q (.load none (.t 18)))⟩, ⟨(some 20), none, (.q (.load (some 7) (.t 5)))⟩, ⟨(some 21), none, (.pcall 184 [(.t 20)])⟩, ⟨(some 22), none, (.bslt 7 1 [(.int .u8 0), (.str []), (.int .u8 0), (.int .i64 0), (.str []), (.str []), .nilslice] [⟨0, ⟨7, (.t 21)⟩⟩])⟩, ⟨(some 23), none, (.app 7 (.t 19) (.t 22))⟩, ⟨(some 24), none, (.q (.faddr 6 (.t 3)))⟩, ⟨none, none, (.store 1 (.t 24) (.t 23))⟩] true [2, 3, 12, 13, 14])))
         (.reg 6 [⟨(some 25), none, (.q (.bin .add (.t 14) (.c (.int .i64 1))))⟩, ⟨(some 14), none, (.q (.mov (.t 25)))⟩] [2, 3, 12, 13, 14])))))))
   (.seq
    (.reg 7 [⟨(some 26), none, (.q (.load (some 7) (.t 3)))⟩, ⟨none, none, (.store 7 (.t 2) (.t 26))⟩] [2])
    .ret))))
theorem fok184 : FOK Tryz.prog 184 (27, ic184, [(.cell (some 7) 2)]) := .mk (pf := ([1000001, 1000022] ++ allF1)) (an := [(0, [1, 2]), (1, [1, 2, 3]), (2, [2, 3, 12, 13, 14]), (3, [2, 3, 12, 13, 14, 15]), (4, [2, 3, 5, 12, 13, 14]), (5, [2, 3, 12, 13, 14]), (6, [2, 3, 12, 13, 14]), (7, [2])]) (by kernel_rfl) (fnOK_of Tryz.func184 (by kernel_rfl) (by kernel_rfl) (by kernel_rfl))
/-- chandlery/arch.scores -/
def ic185 : IC :=
 (.seq
 (.reg 0 [oK 0 (.alloc [(zI 0), (zI 0), (zI 0), (zI 0), (zI 0), (zI 0), (zI 0), (zI 0), (zI 0), (zI 0), (zI 0), (zI 0), (zI 0), (zI 0), (zI 0), (zI 0), (zI 0), (zI 0), (zI 0), (zI 0), (zI 0), (zI 0), (zI 0), (zI 0), (zI 0)])] [0])
 (.seq
 (.reg 1 [oQ 1 (.bld [(zI 0), (zI 0), (zI 0), (zI 0), (zI 0)] [⟨1, ⟨1, (cI 2)⟩⟩, ⟨2, ⟨1, (cI 1)⟩⟩, ⟨3, ⟨1, (cI 3)⟩⟩]), oQ 2 (.bld [(zI 0), (zI 0), (zI 0), (zI 0), (zI 0)] [⟨1, ⟨1, (cI 2)⟩⟩, ⟨3, ⟨1, (cI 1)⟩⟩]), oQ 3 (.bld [(zI 0), (zI 0), (zI 0), (zI 0), (zI 0)] [⟨1, ⟨1, (cI 2)⟩⟩, ⟨4, ⟨1, (cI 1)⟩⟩]), oQ 4 (.bld [(zI 0), (zI 0), (zI 0), (zI 0), (zI 0), (zI 0), (zI 0), (zI 0), (zI 0), (zI 0), (zI 0), (zI 0), (zI 0), (zI 0), (zI 0), (zI 0), (zI 0), (zI 0), (zI 0), (zI 0), (zI 0), (zI 0), (zI 0), (zI 0), (zI 0)] [⟨10, ⟨5, 1⟩⟩, ⟨15, ⟨5, 2⟩⟩, ⟨20, ⟨5, 3⟩⟩]), oN (.store 25 0 4)] [0])
 .ret))
theorem fok185 : FOK Tryz.prog 185 (5, ic185, [(.cell (some 25) 0)]) := fokA [] Tryz.func185 (by kernel_rfl) (by kernel_rfl) (by kernel_rfl) (by kernel_rfl)
/-- chandlery/vercmp.Parts -/
def ic186 : IC :=
 (.seq
 (.reg 0 [oM 2 (.c .nilslice)] [0, 2])
 (.seq
 (.reg 1 [oK 3 (.alloc [.nilslice])] [0, 2, 3])
 (.seq
 (.seq
 (.reg 2 [oM 5 0, oK 6 (.call 234 [5])] [2, 3, 6])
 (.block 0
 (.rfunc 6 [7]
 (.reg 3 [oK 4 (.alloc [(zU 0), (.str [])]), oN (.store 2 4 7)] [3, 4])
 (.block 1
 (.reg 4 [oQ 8 (.load none 3), oQ 9 (.load (some 2) 4), oK 10 (.bslt 2 1 [(zU 0), (.str [])] [⟨0, ⟨2, 9⟩⟩]), oK 11 (.app 2 8 10), oN (.store 1 3 11)] [])))))
 (.seq
 (.reg 5 [oQ 12 (.load none 3), oM 2 12] [2])
 .ret))))
theorem fok186 : FOK Tryz.prog 186 (13, ic186, [(.t 2)]) := fokA [1000010] Tryz.func186 (by kernel_rfl) (by kernel_rfl) (by kernel_rfl) (by kernel_rfl)
/-- chandlery/vercmp.compare -/
def ic187 : IC :=
 (.seq
 (.reg 0 [oK 2 (.boxt 0), oK 3 (.boxt 1), oM 4 (cI 0)] [2, 3])
 (.seq
 (.reg 1 [oM 5 (cI 0)] [2, 3, 5])
 (.seq
 (.seq
 (.reg 2 [oQ 6 (.faddr 0 2), oQ 7 (.load none 6), oQ 8 (.bin .eql 7 (.c (zU 5))), oM 9 8, gQ 10 9 true (.faddr 0 3), gQ 11 9 true (.load none 10), gQ 12 9 true (.bin .eql 11 (.c (zU 5))), oQ 13 (.pick 9 12 (cB false))] [2, 3, 5, 13])
 (.cond 13
 (.reg 3 [oQ 14 (.faddr 1 2), oQ 15 (.load none 14), oQ 16 (.len 1 15), oQ 17 (.faddr 1 3), oQ 18 (.load none 17), oQ 19 (.len 1 18), oK 20 (.call 84 [16, 19]), oM 5 20] [2, 3, 5])
 .skip))
 (.seq
 (.dreg 4 [oQ 21 (.faddr 0 2), oQ 22 (.load none 21), oQ 23 (.faddr 0 3), oQ 24 (.load none 23), oK 25 (.pcall 236 [22, 24]), oM 26 5, oQ 27 (.faddr 1 2), oQ 28 (.load none 27), oQ 29 (.faddr 1 3), oQ 30 (.load none 29), oK 31 (.pcall 237 [28, 30]), oK 32 (.bslt 1 3 [(zI 0)] [⟨0, ⟨1, 25⟩⟩, ⟨1, ⟨1, 26⟩⟩, ⟨2, ⟨1, 31⟩⟩]), oK 33 (.pcall 235 [32]), oM 4 33] false [4])
 .ret))))
theorem fok187 : FOK Tryz.prog 187 (34, ic187, [(.t 4)]) := fokA ([1000002, 1000003, 1000032] ++ [235, 236, 237]) Tryz.func187 (by kernel_rfl) (by kernel_rfl) (by kernel_rfl) (by kernel_rfl)
/-- slices.Index[[]chandlery/api.Edit,chandlery/api.Edit] -/
def ic188 : IC :=
 (.seq
 (.reg 0 [oK 3 (.boxt 1), oM 4 (cI 0)] [0, 3])
 (.seq
 (.seq
 (.reg 1 [oM 6 0, oQ 7 (.len 0 6), oM 8 (cI 0)] [0, 3, 7, 8])
 (.block 0
 (.loop
 (.seq
 (.reg 2 [oQ 9 (.bin .lss 8 7)] [0, 3, 7, 8, 9])
 (.seq
 (.cond 9
 .skip
 (.exit 0))
 (.seq
 (.block 1
 (.seq
 (.reg 3 [oM 10 8, oM 5 10] [0, 3, 5, 7, 8])
 (.seq
 (.dreg 4 [oQ 11 (.load (some 2) 3), oM 12 0, oM 13 5, oQ 14 (.iaddr 2 12 13), oQ 15 (.load (some 2) 14), oQ 16 (.eqs [1, 1] true false 11 15)] false [0, 3, 5, 7, 8, 16])
 (.cond 16
 (.seq
 (.reg 5 [oM 17 5, oM 4 17] [4])
 .ret)
 .skip))))
 (.reg 6 [oQ 18 (.bin .add 8 (cI 1)), oM 8 18] [0, 3, 7, 8])))))))
 (.seq
 (.reg 7 [oM 4 (cI (-1))] [4])
 .ret)))
theorem fok188 : FOK Tryz.prog 188 (19, ic188, [(.t 4)]) := fokA [1000003] Tryz.func188 (by kernel_rfl) (by kernel_rfl) (by kernel_rfl) (by kernel_rfl)
/-- chandlery/pkg.Obsoletes$1 -/
def ic189 : IC :=
 (.seq
 (.reg 0 [oK 2 (.boxt 0), oM 3 (cB false)] [1, 2])
 (.seq
 (.reg 1 [oQ 4 (.load (some 15) 1), oQ 5 (.load (some 5) 2), oK 6 (.call 138 [4, 5]), oM 3 6] [3])
 .ret))
theorem fok189 : FOK Tryz.prog 189 (7, ic189, [(.t 3)]) := fokA [1000002] Tryz.func189 (by kernel_rfl) (by kernel_rfl) (by kernel_rfl) (by kernel_rfl)
/-- slices.insertionSortOrdered[int] -/
def ic190 : IC :=
 (.seq
 (.reg 0 [oM 8 1, oQ 9 (.bin .add 8 (cI 1)), oM 6 9] [0, 1, 2, 6])
 (.block 0
 (.loop
 (.seq
 (.seq
 (.reg 1 [oM 10 6, oM 11 2, oQ 12 (.bin .lss 10 11)] [0, 1, 2, 6, 12])
 (.cond 12
 .skip
 (.exit 0)))
 (.seq
 (.block 1
 (.seq
 (.reg 3 [oM 15 6, oM 7 15] [0, 1, 2, 6, 7])
 (.block 2
 (.loop
 (.seq
 (.seq
 (.dreg 4 [oM 16 7, oM 17 1, oQ 18 (.bin .gtr 16 17), oM 19 18, gQ 20 19 true (.mov 0), gQ 21 19 true (.mov 7), gQ 22 19 true (.iaddr 1 20 21), gQ 23 19 true (.load none 22), gQ 24 19 true (.mov 0), gQ 25 19 true (.mov 7), gQ 26 19 true (.bin .sub 25 (cI 1)), gQ 27 19 true (.iaddr 1 24 26), gQ 28 19 true (.load none 27), gK 29 19 true (.call 196 [23, 28]), oQ 30 (.pick 19 29 (cB false))] false [0, 1, 2, 6, 7, 30])
 (.cond 30
 .skip
 (.exit 2)))
 (.seq
 (.block 3
 (.dreg 6 [oM 33 0, oM 34 7, oM 35 0, oM 36 7, oQ 37 (.bin .sub 36 (cI 1)), oM 38 0, oM 39 7, oQ 40 (.bin .sub 39 (cI 1)), oQ 41 (.iaddr 1 38 40), oQ 42 (.load none 41), oM 43 0, oM 44 7, oQ 45 (.iaddr 1 43 44), oQ 46 (.load none 45), oQ 47 (.iaddr 1 33 34), oN (.store 1 47 42), oQ 48 (.iaddr 1 35 37), oN (.store 1 48 46)] false [0, 1, 2, 6, 7]))
 (.reg 5 [oM 31 7, oQ 32 (.bin .sub 31 (cI 1)), oM 7 32] [0, 1, 2, 6, 7])))))))
 (.reg 2 [oM 13 6, oQ 14 (.bin .add 13 (cI 1)), oM 6 14] [0, 1, 2, 6]))))))
theorem fok190 : FOK Tryz.prog 190 (49, ic190, []) := fokA [] Tryz.func190 (by kernel_rfl) (by kernel_rfl) (by kernel_rfl) (by kernel_rfl)
/-- slices.heapSortOrdered[int] -/
def ic191 : IC :=
 (.seq
 (.reg 0 [oM 11 1, oM 6 11] [0, 1, 2, 6])
 (.seq
 (.reg 1 [oM 7 (cI 0)] [0, 1, 2, 6, 7])
 (.seq
 (.reg 2 [oM 12 2, oM 13 1, oQ 14 (.bin .sub 12 13), oM 8 14] [0, 6, 7, 8])
 (.seq
 (.seq
 (.reg 3 [oM 15 8, oQ 16 (.bin .sub 15 (cI 1)), oQ 17 (.bin .quo 16 (cI 2)), oM 9 17] [0, 6, 7, 8, 9])
 (.block 0
 (.loop
 (.seq
 (.seq
 (.reg 4 [oM 18 9, oQ 19 (.bin .geq 18 (cI 0))] [0, 6, 7, 8, 9, 19])
 (.cond 19
 .skip
 (.exit 0)))
 (.seq
 (.block 1
 (.reg 6 [oM 22 0, oM 23 9, oM 24 8, oM 25 6, oK 26 (.call 238 [22, 23, 24, 25])] [0, 6, 7, 8, 9]))
 (.reg 5 [oM 20 9, oQ 21 (.bin .sub 20 (cI 1)), oM 9 21] [0, 6, 7, 8, 9]))))))
 (.seq
 (.reg 7 [oM 27 8, oQ 28 (.bin .sub 27 (cI 1)), oM 10 28] [0, 6, 7, 10])
 (.block 2
 (.loop
 (.seq
 (.seq
 (.reg 8 [oM 29 10, oQ 30 (.bin .geq 29 (cI 0))] [0, 6, 7, 10, 30])
 (.cond 30
 .skip
 (.exit 2)))
 (.seq
 (.block 3
 (.seq
 (.dreg 10 [oM 33 0, oM 34 6, oM 35 0, oM 36 6, oM 37 10, oQ 38 (.bin .add 36 37), oM 39 0, oM 40 6, oM 41 10, oQ 42 (.bin .add 40 41), oQ 43 (.iaddr 1 39 42), oQ 44 (.load none 43), oM 45 0, oM 46 6, oQ 47 (.iaddr 1 45 46), oQ 48 (.load none 47), oQ 49 (.iaddr 1 33 34), oN (.store 1 49 44), oQ 50 (.iaddr 1 35 38), oN (.store 1 50 48)] false [0, 6, 7, 10])
 (.reg 11 [oM 51 0, oM 52 7, oM 53 10, oM 54 6, oK 55 (.call 238 [51, 52, 53, 54])] [0, 6, 7, 10])))
 (.reg 9 [oM 31 10, oQ 32 (.bin .sub 31 (cI 1)), oM 10 32] [0, 6, 7, 10]))))))))))
theorem fok191 : FOK Tryz.prog 191 (56, ic191, []) := fokA [] Tryz.func191 (by kernel_rfl) (by kernel_rfl) (by kernel_rfl) (by kernel_rfl)
/-- slices.breakPatternsOrdered[int] -/
def ic192 : IC :=
 (.seq
 (.reg 0 [oM 11 2, oM 12 1, oQ 13 (.bin .sub 11 12), oM 6 13] [0, 1, 6])
 (.seq
 (.reg 1 [oM 14 6, oQ 15 (.bin .geq 14 (cI 8))] [0, 1, 6, 15])
 (.cond 15
 (.seq
 (.reg 2 [oM 16 6, oQ 17 (.conv .u64 16), oK 7 (.alloc [(.int .u64 0)]), oN (.store 1 7 17)] [0, 1, 6, 7])
 (.seq
 (.reg 3 [oM 18 6, oK 19 (.call 239 [18]), oM 8 19] [0, 1, 6, 7, 8])
 (.seq
 (.reg 4 [oM 20 1, oM 21 6, oQ 22 (.bin .quo 21 (cI 4)), oQ 23 (.bin .mul 22 (cI 2)), oQ 24 (.bin .add 20 23), oQ 25 (.bin .sub 24 (cI 1)), oM 9 25] [0, 1, 6, 7, 8, 9])
 (.block 0
 (.loop
 (.seq
 (.seq
 (.reg 5 [oM 26 9, oM 27 1, oM 28 6, oQ 29 (.bin .quo 28 (cI 4)), oQ 30 (.bin .mul 29 (cI 2)), oQ 31 (.bin .add 27 30), oQ 32 (.bin .add 31 (cI 1)), oQ 33 (.bin .leq 26 32)] [0, 1, 6, 7, 8, 9, 33])
 (.cond 33
 .skip
 (.exit 0)))
 (.seq
 (.block 1
 (.seq
 (.reg 7 [oK 36 (.call 240 [7]), oM 37 8, oQ 38 (.bin .sub 37 (.c (.int .u64 1))), oQ 39 (.bin .and 36 38), oQ 40 (.conv .i64 39), oM 10 40] [0, 1, 6, 7, 8, 9, 10])
 (.seq
 (.seq
 (.reg 8 [oM 41 10, oM 42 6, oQ 43 (.bin .geq 41 42)] [0, 1, 6, 7, 8, 9, 10, 43])
 (.cond 43
 (.reg 9 [oM 44 10, oM 45 6, oQ 46 (.bin .sub 44 45), oM 10 46] [0, 1, 6, 7, 8, 9, 10])
 .skip))
 (.dreg 10 [oM 47 0, oM 48 9, oM 49 0, oM 50 1, oM 51 10, oQ 52 (.bin .add 50 51), oM 53 0, oM 54 1, oM 55 10, oQ 56 (.bin .add 54 55), oQ 57 (.iaddr 1 53 56), oQ 58 (.load none 57), oM 59 0, oM 60 9, oQ 61 (.iaddr 1 59 60), oQ 62 (.load none 61), oQ 63 (.iaddr 1 47 48), oN (.store 1 63 58), oQ 64 (.iaddr 1 49 52), oN (.store 1 64 62)] false [0, 1, 6, 7, 8, 9]))))
 (.reg 6 [oM 34 9, oQ 35 (.bin .add 34 (cI 1)), oM 9 35] [0, 1, 6, 7, 8, 9]))))))))
 .skip)))
theorem fok192 : FOK Tryz.prog 192 (65, ic192, []) := fokA [] Tryz.func192 (by kernel_rfl) (by kernel_rfl) (by kernel_rfl) (by kernel_rfl)
/-- slices.choosePivotOrdered[int] -/
def ic193 : IC :=
 (.seq
 (.reg 0 [oM 6 (cI 0), oM 7 (cI 0)] [0, 1, 2])
 (.seq
 (.reg 1 [oM 13 2, oM 14 1, oQ 15 (.bin .sub 13 14), oM 8 15] [0, 1, 8])
 (.seq
 (.reg 2 [oK 9 (.alloc [(zI 0)])] [0, 1, 8, 9])
 (.seq
 (.reg 3 [oM 16 1, oM 17 8, oQ 18 (.bin .quo 17 (cI 4)), oQ 19 (.bin .mul 18 (cI 1)), oQ 20 (.bin .add 16 19), oM 10 20] [0, 1, 8, 9, 10])
 (.seq
 (.reg 4 [oM 21 1, oM 22 8, oQ 23 (.bin .quo 22 (cI 4)), oQ 24 (.bin .mul 23 (cI 2)), oQ 25 (.bin .add 21 24), oM 11 25] [0, 1, 8, 9, 10, 11])
 (.seq
 (.reg 5 [oM 26 1, oM 27 8, oQ 28 (.bin .quo 27 (cI 4)), oQ 29 (.bin .mul 28 (cI 3)), oQ 30 (.bin .add 26 29), oM 12 30] [0, 8, 9, 10, 11, 12])
 (.seq
 (.seq
 (.reg 6 [oM 31 8, oQ 32 (.bin .geq 31 (cI 8))] [0, 8, 9, 10, 11, 12, 32])
 (.cond 32
 (.seq
 (.seq
 (.reg 7 [oM 33 8, oQ 34 (.bin .geq 33 (cI 50))] [0, 9, 10, 11, 12, 34])
 (.cond 34
 (.seq
 (.reg 8 [oM 35 0, oM 36 10, oK 37 (.call 241 [35, 36, 9]), oM 10 37] [0, 9, 10, 11, 12])
 (.seq
 (.reg 9 [oM 38 0, oM 39 11, oK 40 (.call 241 [38, 39, 9]), oM 11 40] [0, 9, 10, 11, 12])
 (.reg 10 [oM 41 0, oM 42 12, oK 43 (.call 241 [41, 42, 9]), oM 12 43] [0, 9, 10, 11, 12])))
 .skip))
 (.reg 11 [oM 44 0, oM 45 10, oM 46 11, oM 47 12, oK 48 (.call 242 [44, 45, 46, 47, 9]), oM 11 48] [9, 11]))
 .skip))
 (.seq
 (.reg 12 [oQ 49 (.load none 9)] [11, 49])
 (.block 0
 (.seq
 (.reg 14 [oQ 52 (.bin .eql 49 (cI 0)), oM 51 52] [11, 49, 51])
 (.cond 51
 (.seq
 (.reg 15 [oM 53 11, oM 6 53, oM 7 (cI 1)] [6, 7])
 .ret)
 (.seq
 (.reg 16 [oQ 55 (.bin .eql 49 (cI 12)), oM 54 55] [11, 54])
 (.cond 54
 (.seq
 (.reg 17 [oM 56 11, oM 6 56, oM 7 (cI 2)] [6, 7])
 .ret)
 (.seq
 (.reg 13 [oM 50 11, oM 6 50, oM 7 (cI 0)] [6, 7])
 .ret))))))))))))))
theorem fok193 : FOK Tryz.prog 193 (57, ic193, [(.t 6), (.t 7)]) := fokA [] Tryz.func193 (by kernel_rfl) (by kernel_rfl) (by kernel_rfl) (by kernel_rfl)
/-- slices.reverseRangeOrdered[int] -/
def ic194 : IC :=
 (.seq
 (.reg 0 [oM 8 1, oM 6 8] [0, 2, 6])
 (.seq
 (.reg 1 [oM 9 2, oQ 10 (.bin .sub 9 (cI 1)), oM 7 10] [0, 6, 7])
 (.block 0
 (.loop
 (.seq
 (.seq
 (.reg 2 [oM 11 6, oM 12 7, oQ 13 (.bin .lss 11 12)] [0, 6, 7, 13])
 (.cond 13
 .skip
 (.exit 0)))
 (.block 1
 (.seq
 (.dreg 3 [oM 14 0, oM 15 6, oM 16 0, oM 17 7, oM 18 0, oM 19 7, oQ 20 (.iaddr 1 18 19), oQ 21 (.load none 20), oM 22 0, oM 23 6, oQ 24 (.iaddr 1 22 23), oQ 25 (.load none 24), oQ 26 (.iaddr 1 14 15), oN (.store 1 26 21), oQ 27 (.iaddr 1 16 17), oN (.store 1 27 25)] false [0, 6, 7])
 (.seq
 (.reg 4 [oM 28 6, oQ 29 (.bin .add 28 (cI 1)), oM 6 29] [0, 6, 7])
 (.reg 5 [oM 30 7, oQ 31 (.bin .sub 30 (cI 1)), oM 7 31] [0, 6, 7])))))))))
theorem fok194 : FOK Tryz.prog 194 (32, ic194, []) := fokA [] Tryz.func194 (by kernel_rfl) (by kernel_rfl) (by kernel_rfl) (by kernel_rfl)
/-- slices.partialInsertionSortOrdered[int] -/
def ic195 : IC :=
 (.seq
 (.reg 0 [oM 6 (cB false)] [0, 1, 2])
 (.seq
 (.reg 1 [oM 11 1, oQ 12 (.bin .add 11 (cI 1)), oM 7 12] [0, 1, 2, 7])
 (.seq
 (.seq
 (.reg 2 [oM 8 (cI 0)] [0, 1, 2, 7, 8])
 (.block 0
 (.loop
 (.seq
 (.seq
 (.reg 3 [oM 13 8, oQ 14 (.bin .lss 13 (cI 5))] [0, 1, 2, 7, 8, 14])
 (.cond 14
 .skip
 (.exit 0)))
 (.seq
 (.block 1
 (.seq
 (.block 2
 (.loop
 (.seq
 (.seq
 (.dreg 5 [oM 17 7, oM 18 2, oQ 19 (.bin .lss 17 18), oM 20 19, gQ 21 20 true (.mov 0), gQ 22 20 true (.mov 7), gQ 23 20 true (.iaddr 1 21 22), gQ 24 20 true (.load none 23), gQ 25 20 true (.mov 0), gQ 26 20 true (.mov 7), gQ 27 20 true (.bin .sub 26 (cI 1)), gQ 28 20 true (.iaddr 1 25 27), gQ 29 20 true (.load none 28), gK 30 20 true (.call 196 [24, 29]), gQ 31 20 true (.not 30), oQ 32 (.pick 20 31 (cB false))] false [0, 1, 2, 7, 8, 32])
 (.cond 32
 .skip
 (.exit 2)))
 (.block 3
 (.reg 6 [oM 33 7, oQ 34 (.bin .add 33 (cI 1)), oM 7 34] [0, 1, 2, 7, 8])))))
 (.seq
 (.seq
 (.reg 7 [oM 35 7, oM 36 2, oQ 37 (.bin .eql 35 36)] [0, 1, 2, 7, 8, 37])
 (.cond 37
 (.seq
 (.reg 8 [oM 6 (cB true)] [6])
 .ret)
 .skip))
 (.seq
 (.seq
 (.reg 9 [oM 38 2, oM 39 1, oQ 40 (.bin .sub 38 39), oQ 41 (.bin .lss 40 (cI 50))] [0, 1, 2, 7, 8, 41])
 (.cond 41
 (.seq
 (.reg 10 [oM 6 (cB false)] [6])
 .ret)
 .skip))
 (.seq
 (.dreg 11 [oM 42 0, oM 43 7, oM 44 0, oM 45 7, oQ 46 (.bin .sub 45 (cI 1)), oM 47 0, oM 48 7, oQ 49 (.bin .sub 48 (cI 1)), oQ 50 (.iaddr 1 47 49), oQ 51 (.load none 50), oM 52 0, oM 53 7, oQ 54 (.iaddr 1 52 53), oQ 55 (.load none 54), oQ 56 (.iaddr 1 42 43), oN (.store 1 56 51), oQ 57 (.iaddr 1 44 46), oN (.store 1 57 55)] false [0, 1, 2, 7, 8])
 (.seq
 (.seq
 (.reg 12 [oM 58 7, oM 59 1, oQ 60 (.bin .sub 58 59), oQ 61 (.bin .geq 60 (cI 2))] [0, 1, 2, 7, 8, 61])
 (.cond 61
 (.seq
 (.reg 13 [oM 62 7, oQ 63 (.bin .sub 62 (cI 1)), oM 9 63] [0, 1, 2, 7, 8, 9])
 (.block 4
 (.loop
 (.seq
 (.seq
 (.reg 14 [oM 64 9, oQ 65 (.bin .geq 64 (cI 1))] [0, 1, 2, 7, 8, 9, 65])
 (.cond 65
 .skip
 (.exit 4)))
 (.seq
 (.block 5
 (.seq
 (.seq
 (.dreg 16 [oM 68 0, oM 69 9, oQ 70 (.iaddr 1 68 69), oQ 71 (.load none 70), oM 72 0, oM 73 9, oQ 74 (.bin .sub 73 (cI 1)), oQ 75 (.iaddr 1 72 74), oQ 76 (.load none 75), oK 77 (.call 196 [71, 76]), oQ 78 (.not 77)] false [0, 1, 2, 7, 8, 9, 78])
 (.cond 78
 (.exit 4)
 .skip))
 (.dreg 17 [oM 79 0, oM 80 9, oM 81 0, oM 82 9, oQ 83 (.bin .sub 82 (cI 1)), oM 84 0, oM 85 9, oQ 86 (.bin .sub 85 (cI 1)), oQ 87 (.iaddr 1 84 86), oQ 88 (.load none 87), oM 89 0, oM 90 9, oQ 91 (.iaddr 1 89 90), oQ 92 (.load none 91), oQ 93 (.iaddr 1 79 80), oN (.store 1 93 88), oQ 94 (.iaddr 1 81 83), oN (.store 1 94 92)] false [0, 1, 2, 7, 8, 9])))
 (.reg 15 [oM 66 9, oQ 67 (.bin .sub 66 (cI 1)), oM 9 67] [0, 1, 2, 7, 8, 9]))))))
 .skip))
 (.seq
 (.reg 18 [oM 95 2, oM 96 7, oQ 97 (.bin .sub 95 96), oQ 98 (.bin .geq 97 (cI 2))] [0, 1, 2, 7, 8, 98])
 (.cond 98
 (.seq
 (.reg 19 [oM 99 7, oQ 100 (.bin .add 99 (cI 1)), oM 10 100] [0, 1, 2, 7, 8, 10])
 (.block 6
 (.loop
 (.seq
 (.seq
 (.reg 20 [oM 101 10, oM 102 2, oQ 103 (.bin .lss 101 102)] [0, 1, 2, 7, 8, 10, 103])
 (.cond 103
 .skip
 (.exit 6)))
 (.seq
 (.block 7
 (.seq
 (.seq
 (.dreg 22 [oM 106 0, oM 107 10, oQ 108 (.iaddr 1 106 107), oQ 109 (.load none 108), oM 110 0, oM 111 10, oQ 112 (.bin .sub 111 (cI 1)), oQ 113 (.iaddr 1 110 112), oQ 114 (.load none 113), oK 115 (.call 196 [109, 114]), oQ 116 (.not 115)] false [0, 1, 2, 7, 8, 10, 116])
 (.cond 116
 (.exit 6)
 .skip))
 (.dreg 23 [oM 117 0, oM 118 10, oM 119 0, oM 120 10, oQ 121 (.bin .sub 120 (cI 1)), oM 122 0, oM 123 10, oQ 124 (.bin .sub 123 (cI 1)), oQ 125 (.iaddr 1 122 124), oQ 126 (.load none 125), oM 127 0, oM 128 10, oQ 129 (.iaddr 1 127 128), oQ 130 (.load none 129), oQ 131 (.iaddr 1 117 118), oN (.store 1 131 126), oQ 132 (.iaddr 1 119 121), oN (.store 1 132 130)] false [0, 1, 2, 7, 8, 10])))
 (.reg 21 [oM 104 10, oQ 105 (.bin .add 104 (cI 1)), oM 10 105] [0, 1, 2, 7, 8, 10]))))))
 .skip))))))))
 (.reg 4 [oM 15 8, oQ 16 (.bin .add 15 (cI 1)), oM 8 16] [0, 1, 2, 7, 8]))))))
 (.seq
 (.reg 24 [oM 6 (cB false)] [6])
 .ret))))
theorem fok195 : FOK Tryz.prog 195 (133, ic195, [(.t 6)]) := fokA [] Tryz.func195 (by kernel_rfl) (by kernel_rfl) (by kernel_rfl) (by kernel_rfl)
/-- cmp.Less[int] -/
def ic196 : IC :=
 (.seq
 (.reg 0 [oM 4 (cB false)] [0, 1])
 (.seq
 (.reg 1 [oM 5 0, oK 6 (.call 147 [5]), oM 7 6, gQ 8 7 true (.mov 1), gK 9 7 true (.call 147 [8]), gQ 10 7 true (.not 9), oQ 11 (.pick 7 10 (cB false)), oM 12 11, gQ 13 12 false (.mov 0), gQ 14 12 false (.mov 1), gQ 15 12 false (.bin .lss 13 14), oQ 16 (.pick 12 (cB true) 15), oM 4 16] [4])
 .ret))
theorem fok196 : FOK Tryz.prog 196 (17, ic196, [(.t 4)]) := fokA [] Tryz.func196 (by kernel_rfl) (by kernel_rfl) (by kernel_rfl) (by kernel_rfl)
/-- slices.partitionEqualOrdered[int] -/
def ic197 : IC :=
 (.seq
 (.reg 0 [oM 8 (cI 0)] [0, 1, 2, 3])
 (.seq
 (.dreg 1 [oM 11 0, oM 12 1, oM 13 0, oM 14 3, oM 15 0, oM 16 3, oQ 17 (.iaddr 1 15 16), oQ 18 (.load none 17), oM 19 0, oM 20 1, oQ 21 (.iaddr 1 19 20), oQ 22 (.load none 21), oQ 23 (.iaddr 1 11 12), oN (.store 1 23 18), oQ 24 (.iaddr 1 13 14), oN (.store 1 24 22)] false [0, 1, 2])
 (.seq
 (.reg 2 [oM 25 1, oQ 26 (.bin .add 25 (cI 1)), oM 27 2, oQ 28 (.bin .sub 27 (cI 1)), oM 9 26, oM 10 28] [0, 1, 9, 10])
 (.seq
 (.block 0
 (.loop
 (.block 1
 (.seq
 (.block 2
 (.loop
 (.seq
 (.seq
 (.dreg 3 [oM 29 9, oM 30 10, oQ 31 (.bin .leq 29 30), oM 32 31, gQ 33 32 true (.mov 0), gQ 34 32 true (.mov 1), gQ 35 32 true (.iaddr 1 33 34), gQ 36 32 true (.load none 35), gQ 37 32 true (.mov 0), gQ 38 32 true (.mov 9), gQ 39 32 true (.iaddr 1 37 38), gQ 40 32 true (.load none 39), gK 41 32 true (.call 196 [36, 40]), gQ 42 32 true (.not 41), oQ 43 (.pick 32 42 (cB false))] false [0, 1, 9, 10, 43])
 (.cond 43
 .skip
 (.exit 2)))
 (.block 3
 (.reg 4 [oM 44 9, oQ 45 (.bin .add 44 (cI 1)), oM 9 45] [0, 1, 9, 10])))))
 (.seq
 (.block 4
 (.loop
 (.seq
 (.seq
 (.dreg 5 [oM 46 9, oM 47 10, oQ 48 (.bin .leq 46 47), oM 49 48, gQ 50 49 true (.mov 0), gQ 51 49 true (.mov 1), gQ 52 49 true (.iaddr 1 50 51), gQ 53 49 true (.load none 52), gQ 54 49 true (.mov 0), gQ 55 49 true (.mov 10), gQ 56 49 true (.iaddr 1 54 55), gQ 57 49 true (.load none 56), gK 58 49 true (.call 196 [53, 57]), oQ 59 (.pick 49 58 (cB false))] false [0, 1, 9, 10, 59])
 (.cond 59
 .skip
 (.exit 4)))
 (.block 5
 (.reg 6 [oM 60 10, oQ 61 (.bin .sub 60 (cI 1)), oM 10 61] [0, 1, 9, 10])))))
 (.seq
 (.seq
 (.reg 7 [oM 62 9, oM 63 10, oQ 64 (.bin .gtr 62 63)] [0, 1, 9, 10, 64])
 (.cond 64
 (.exit 0)
 .skip))
 (.seq
 (.dreg 8 [oM 65 0, oM 66 9, oM 67 0, oM 68 10, oM 69 0, oM 70 10, oQ 71 (.iaddr 1 69 70), oQ 72 (.load none 71), oM 73 0, oM 74 9, oQ 75 (.iaddr 1 73 74), oQ 76 (.load none 75), oQ 77 (.iaddr 1 65 66), oN (.store 1 77 72), oQ 78 (.iaddr 1 67 68), oN (.store 1 78 76)] false [0, 1, 9, 10])
 (.seq
 (.reg 9 [oM 79 9, oQ 80 (.bin .add 79 (cI 1)), oM 9 80] [0, 1, 9, 10])
 (.reg 10 [oM 81 10, oQ 82 (.bin .sub 81 (cI 1)), oM 10 82] [0, 1, 9, 10])))))))))
 (.seq
 (.reg 11 [oM 83 9, oM 8 83] [8])
 .ret)))))
theorem fok197 : FOK Tryz.prog 197 (84, ic197, [(.t 8)]) := fokA [] Tryz.func197 (by kernel_rfl) (by kernel_rfl) (by kernel_rfl) (by kernel_rfl)
/-- slices.partitionOrdered[int] -/
def ic198 : IC :=
 (.seq
 (.reg 0 [oM 8 (cI 0), oM 9 (cB false)] [0, 1, 2, 3])
 (.seq
 (.dreg 1 [oM 12 0, oM 13 1, oM 14 0, oM 15 3, oM 16 0, oM 17 3, oQ 18 (.iaddr 1 16 17), oQ 19 (.load none 18), oM 20 0, oM 21 1, oQ 22 (.iaddr 1 20 21), oQ 23 (.load none 22), oQ 24 (.iaddr 1 12 13), oN (.store 1 24 19), oQ 25 (.iaddr 1 14 15), oN (.store 1 25 23)] false [0, 1, 2])
 (.seq
 (.reg 2 [oM 26 1, oQ 27 (.bin .add 26 (cI 1)), oM 28 2, oQ 29 (.bin .sub 28 (cI 1)), oM 10 27, oM 11 29] [0, 1, 10, 11])
 (.seq
 (.block 0
 (.loop
 (.seq
 (.seq
 (.dreg 3 [oM 30 10, oM 31 11, oQ 32 (.bin .leq 30 31), oM 33 32, gQ 34 33 true (.mov 0), gQ 35 33 true (.mov 10), gQ 36 33 true (.iaddr 1 34 35), gQ 37 33 true (.load none 36), gQ 38 33 true (.mov 0), gQ 39 33 true (.mov 1), gQ 40 33 true (.iaddr 1 38 39), gQ 41 33 true (.load none 40), gK 42 33 true (.call 196 [37, 41]), oQ 43 (.pick 33 42 (cB false))] false [0, 1, 10, 11, 43])
 (.cond 43
 .skip
 (.exit 0)))
 (.block 1
 (.reg 4 [oM 44 10, oQ 45 (.bin .add 44 (cI 1)), oM 10 45] [0, 1, 10, 11])))))
 (.seq
 (.block 2
 (.loop
 (.seq
 (.seq
 (.dreg 5 [oM 46 10, oM 47 11, oQ 48 (.bin .leq 46 47), oM 49 48, gQ 50 49 true (.mov 0), gQ 51 49 true (.mov 11), gQ 52 49 true (.iaddr 1 50 51), gQ 53 49 true (.load none 52), gQ 54 49 true (.mov 0), gQ 55 49 true (.mov 1), gQ 56 49 true (.iaddr 1 54 55), gQ 57 49 true (.load none 56), gK 58 49 true (.call 196 [53, 57]), gQ 59 49 true (.not 58), oQ 60 (.pick 49 59 (cB false))] false [0, 1, 10, 11, 60])
 (.cond 60
 .skip
 (.exit 2)))
 (.block 3
 (.reg 6 [oM 61 11, oQ 62 (.bin .sub 61 (cI 1)), oM 11 62] [0, 1, 10, 11])))))
 (.seq
 (.seq
 (.reg 7 [oM 63 10, oM 64 11, oQ 65 (.bin .gtr 63 64)] [0, 1, 10, 11, 65])
 (.cond 65
 (.seq
 (.dreg 8 [oM 66 0, oM 67 11, oM 68 0, oM 69 1, oM 70 0, oM 71 1, oQ 72 (.iaddr 1 70 71), oQ 73 (.load none 72), oM 74 0, oM 75 11, oQ 76 (.iaddr 1 74 75), oQ 77 (.load none 76), oQ 78 (.iaddr 1 66 67), oN (.store 1 78 73), oQ 79 (.iaddr 1 68 69), oN (.store 1 79 77)] false [11])
 (.seq
 (.reg 9 [oM 80 11, oM 8 80, oM 9 (cB true)] [8, 9])
 .ret))
 .skip))
 (.seq
 (.dreg 10 [oM 81 0, oM 82 10, oM 83 0, oM 84 11, oM 85 0, oM 86 11, oQ 87 (.iaddr 1 85 86), oQ 88 (.load none 87), oM 89 0, oM 90 10, oQ 91 (.iaddr 1 89 90), oQ 92 (.load none 91), oQ 93 (.iaddr 1 81 82), oN (.store 1 93 88), oQ 94 (.iaddr 1 83 84), oN (.store 1 94 92)] false [0, 1, 10, 11])
 (.seq
 (.reg 11 [oM 95 10, oQ 96 (.bin .add 95 (cI 1)), oM 10 96] [0, 1, 10, 11])
 (.seq
 (.reg 12 [oM 97 11, oQ 98 (.bin .sub 97 (cI 1)), oM 11 98] [0, 1, 10, 11])
 (.seq
 (.block 4
 (.loop
 (.block 5
 (.seq
 (.block 6
 (.loop
 (.seq
 (.seq
 (.dreg 13 [oM 99 10, oM 100 11, oQ 101 (.bin .leq 99 100), oM 102 101, gQ 103 102 true (.mov 0), gQ 104 102 true (.mov 10), gQ 105 102 true (.iaddr 1 103 104), gQ 106 102 true (.load none 105), gQ 107 102 true (.mov 0), gQ 108 102 true (.mov 1), gQ 109 102 true (.iaddr 1 107 108), gQ 110 102 true (.load none 109), gK 111 102 true (.call 196 [106, 110]), oQ 112 (.pick 102 111 (cB false))] false [0, 1, 10, 11, 112])
 (.cond 112
 .skip
 (.exit 6)))
 (.block 7
 (.reg 14 [oM 113 10, oQ 114 (.bin .add 113 (cI 1)), oM 10 114] [0, 1, 10, 11])))))
 (.seq
 (.block 8
 (.loop
 (.seq
 (.seq
 (.dreg 15 [oM 115 10, oM 116 11, oQ 117 (.bin .leq 115 116), oM 118 117, gQ 119 118 true (.mov 0), gQ 120 118 true (.mov 11), gQ 121 118 true (.iaddr 1 119 120), gQ 122 118 true (.load none 121), gQ 123 118 true (.mov 0), gQ 124 118 true (.mov 1), gQ 125 118 true (.iaddr 1 123 124), gQ 126 118 true (.load none 125), gK 127 118 true (.call 196 [122, 126]), gQ 128 118 true (.not 127), oQ 129 (.pick 118 128 (cB false))] false [0, 1, 10, 11, 129])
 (.cond 129
 .skip
 (.exit 8)))
 (.block 9
 (.reg 16 [oM 130 11, oQ 131 (.bin .sub 130 (cI 1)), oM 11 131] [0, 1, 10, 11])))))
 (.seq
 (.seq
 (.reg 17 [oM 132 10, oM 133 11, oQ 134 (.bin .gtr 132 133)] [0, 1, 10, 11, 134])
 (.cond 134
 (.exit 4)
 .skip))
 (.seq
 (.dreg 18 [oM 135 0, oM 136 10, oM 137 0, oM 138 11, oM 139 0, oM 140 11, oQ 141 (.iaddr 1 139 140), oQ 142 (.load none 141), oM 143 0, oM 144 10, oQ 145 (.iaddr 1 143 144), oQ 146 (.load none 145), oQ 147 (.iaddr 1 135 136), oN (.store 1 147 142), oQ 148 (.iaddr 1 137 138), oN (.store 1 148 146)] false [0, 1, 10, 11])
 (.seq
 (.reg 19 [oM 149 10, oQ 150 (.bin .add 149 (cI 1)), oM 10 150] [0, 1, 10, 11])
 (.reg 20 [oM 151 11, oQ 152 (.bin .sub 151 (cI 1)), oM 11 152] [0, 1, 10, 11])))))))))
 (.seq
 (.dreg 21 [oM 153 0, oM 154 11, oM 155 0, oM 156 1, oM 157 0, oM 158 1, oQ 159 (.iaddr 1 157 158), oQ 160 (.load none 159), oM 161 0, oM 162 11, oQ 163 (.iaddr 1 161 162), oQ 164 (.load none 163), oQ 165 (.iaddr 1 153 154), oN (.store 1 165 160), oQ 166 (.iaddr 1 155 156), oN (.store 1 166 164)] false [11])
 (.seq
 (.reg 22 [oM 167 11, oM 8 167, oM 9 (cB false)] [8, 9])
 .ret))))))))))))
theorem fok198 : FOK Tryz.prog 198 (168, ic198, [(.t 8), (.t 9)]) := fokA [] Tryz.func198 (by kernel_rfl) (by kernel_rfl) (by kernel_rfl) (by kernel_rfl)
/-- math/bits.Len32 -/
def ic199 : IC :=
 (.seq
 (.reg 0 [oM 2 (cI 0)] [0, 2])
 (.seq
 (.seq
 (.reg 1 [oM 3 0, oQ 4 (.bin .geq 3 (.c (.int .u32 65536)))] [0, 2, 4])
 (.cond 4
 (.seq
 (.reg 2 [oM 5 0, oQ 6 (.bin .shr 5 (.c (.int .u64 16))), oM 0 6] [0])
 (.reg 3 [oM 2 (cI 16)] [0, 2]))
 .skip))
 (.seq
 (.seq
 (.reg 4 [oM 7 0, oQ 8 (.bin .geq 7 (.c (.int .u32 256)))] [0, 2, 8])
 (.cond 8
 (.seq
 (.reg 5 [oM 9 0, oQ 10 (.bin .shr 9 (.c (.int .u64 8))), oM 0 10] [0, 2])
 (.reg 6 [oM 11 2, oQ 12 (.bin .add 11 (cI 8)), oM 2 12] [0, 2]))
 .skip))
 (.seq
 (.reg 7 [oM 13 2, oM 14 0, oQ 15 (.conv .u8 14), oQ 16 (.istr (.c (.str [0, 1, 2, 2, 3, 3, 3, 3, 4, 4, 4, 4, 4, 4, 4, 4, 5, 5, 5, 5, 5, 5, 5, 5, 5, 5, 5, 5, 5, 5, 5, 5, 6, 6, 6, 6, 6, 6, 6, 6, 6, 6, 6, 6, 6, 6, 6, 6, 6, 6, 6, 6, 6, 6, 6, 6, 6, 6, 6, 6, 6, 6, 6, 6, 7, 7, 7, 7, 7, 7, 7, 7, 7, 7, 7, 7, 7, 7, 7, 7, 7, 7, 7, 7, 7, 7, 7, 7, 7, 7, 7, 7, 7, 7, 7, 7, 7, 7, 7, 7, 7, 7, 7, 7, 7, 7, 7, 7, 7, 7, 7, 7, 7, 7, 7, 7, 7, 7, 7, 7, 7, 7, 7, 7, 7, 7, 7, 7, 8, 8, 8, 8, 8, 8, 8, 8, 8, 8, 8, 8, 8, 8, 8, 8, 8, 8, 8, 8, 8, 8, 8, 8, 8, 8, 8, 8, 8, 8, 8, 8, 8, 8, 8, 8, 8, 8, 8, 8, 8, 8, 8, 8, 8, 8, 8, 8, 8, 8, 8, 8, 8, 8, 8, 8, 8, 8, 8, 8, 8, 8, 8, 8, 8, 8, 8, 8, 8, 8, 8, 8, 8, 8, 8, 8, 8, 8, 8, 8, 8, 8, 8, 8, 8, 8, 8, 8, 8, 8, 8, 8, 8, 8, 8, 8, 8, 8, 8, 8, 8, 8, 8, 8, 8, 8, 8, 8, 8, 8, 8, 8, 8, 8, 8, 8, 8, 8, 8, 8, 8, 8, 8, 8, 8, 8, 8, 8])) 15), oQ 17 (.conv .i64 16), oQ 18 (.bin .add 13 17), oM 2 18] [2])
 .ret))))
theorem fok199 : FOK Tryz.prog 199 (19, ic199, [(.t 2)]) := fokA [] Tryz.func199 (by kernel_rfl) (by kernel_rfl) (by kernel_rfl) (by kernel_rfl)
/-- math/bits.Len64 -/
def ic200 : IC :=
 (.seq
 (.reg 0 [oM 2 (cI 0)] [0, 2])
 (.seq
 (.seq
 (.reg 1 [oM 3 0, oQ 4 (.bin .geq 3 (.c (.int .u64 4294967296)))] [0, 2, 4])
 (.cond 4
 (.seq
 (.reg 2 [oM 5 0, oQ 6 (.bin .shr 5 (.c (.int .u64 32))), oM 0 6] [0])
 (.reg 3 [oM 2 (cI 32)] [0, 2]))
 .skip))
 (.seq
 (.seq
 (.reg 4 [oM 7 0, oQ 8 (.bin .geq 7 (.c (.int .u64 65536)))] [0, 2, 8])
 (.cond 8
 (.seq
 (.reg 5 [oM 9 0, oQ 10 (.bin .shr 9 (.c (.int .u64 16))), oM 0 10] [0, 2])
 (.reg 6 [oM 11 2, oQ 12 (.bin .add 11 (cI 16)), oM 2 12] [0, 2]))
 .skip))
 (.seq
 (.seq
 (.reg 7 [oM 13 0, oQ 14 (.bin .geq 13 (.c (.int .u64 256)))] [0, 2, 14])
 (.cond 14
 (.seq
 (.reg 8 [oM 15 0, oQ 16 (.bin .shr 15 (.c (.int .u64 8))), oM 0 16] [0, 2])
 (.reg 9 [oM 17 2, oQ 18 (.bin .add 17 (cI 8)), oM 2 18] [0, 2]))
 .skip))
 (.seq
 (.reg 10 [oM 19 2, oM 20 0, oQ 21 (.conv .u8 20), oQ 22 (.istr (.c (.str [0, 1, 2, 2, 3, 3, 3, 3, 4, 4, 4, 4, 4, 4, 4, 4, 5, 5, 5, 5, 5, 5, 5, 5, 5, 5, 5, 5, 5, 5, 5, 5, 6, 6, 6, 6, 6, 6, 6, 6, 6, 6, 6, 6, 6, 6, 6, 6, 6, 6, 6, 6, 6, 6, 6, 6, 6, 6, 6, 6, 6, 6, 6, 6, 7, 7, 7, 7, 7, 7, 7, 7, 7, 7, 7, 7, 7, 7, 7, 7, 7, 7, 7, 7, 7, 7, 7, 7, 7, 7, 7, 7, 7, 7, 7, 7, 7, 7, 7, 7, 7, 7, 7, 7, 7, 7, 7, 7, 7, 7, 7, 7, 7, 7, 7, 7, 7, 7, 7, 7, 7, 7, 7, 7, 7, 7, 7, 7, 8, 8, 8, 8, 8, 8, 8, 8, 8, 8, 8, 8, 8, 8, 8, 8, 8, 8, 8, 8, 8, 8, 8, 8, 8, 8, 8, 8, 8, 8, 8, 8, 8, 8, 8, 8, 8, 8, 8, 8, 8, 8, 8, 8, 8, 8, 8, 8, 8, 8, 8, 8, 8, 8, 8, 8, 8, 8, 8, 8, 8, 8, 8, 8, 8, 8, 8, 8, 8, 8, 8, 8, 8, 8, 8, 8, 8, 8, 8, 8, 8, 8, 8, 8, 8, 8, 8, 8, 8, 8, 8, 8, 8, 8, 8, 8, 8, 8, 8, 8, 8, 8, 8, 8, 8, 8, 8, 8, 8, 8, 8, 8, 8, 8, 8, 8, 8, 8, 8, 8, 8, 8, 8, 8, 8, 8, 8, 8])) 21), oQ 23 (.conv .i64 22), oQ 24 (.bin .add 19 23), oM 2 24] [2])
 .ret)))))
theorem fok200 : FOK Tryz.prog 200 (25, ic200, [(.t 2)]) := fokA [] Tryz.func200 (by kernel_rfl) (by kernel_rfl) (by kernel_rfl) (by kernel_rfl)
/-- chandlery/pkg.Own -/
def ic201 : IC :=
 (.seq
 (.reg 0 [oK 1 (.boxt 0), oK 2 (.alloc [(.str []), (zU 0), (zI 0), (.str []), (.str [])])] [1, 2])
 (.seq
 (.reg 1 [oQ 3 (.faddr 0 1), oQ 4 (.load none 3), oQ 5 (.faddr 1 1), oQ 6 (.load (some 3) 5), oK 7 (.call 243 [4, 6]), oN (.store 5 2 7)] [2])
 .ret))
theorem fok201 : FOK Tryz.prog 201 (8, ic201, [(.cell (some 5) 2)]) := fokA [1000001] Tryz.func201 (by kernel_rfl) (by kernel_rfl) (by kernel_rfl) (by kernel_rfl)
/-- chandlery/arch.Name -/
def ic203 : IC :=
(.seq
 (.reg 0 [⟨(some 2), none, (.q (.mov (.c (.str []))))⟩] [0])
 (.seq
  (.seq
   (.reg 1 [⟨(some 3), none, (.q (.mov (.t 0)))⟩, ⟨(some 4), none, (.call 109 [(.t 3)])⟩, ⟨(some 5), none, (.q (.not (.t 4)))⟩] [0, 5])
   (.cond (.t 5)
    (.seq
     (.reg 2 [⟨(some 2), none, (.q (.mov (.c (.str []))))⟩] [2])
     .ret)
    .skip))
  (.seq
   (.reg 3 [⟨(some 6), none, (.call 244 [])⟩, ⟨(some 7), none, (.q (.mov (.t 0)))⟩, ⟨(some 8), none, (.q (.idx none 5 1 (.t 6) (.t 7)))⟩, ⟨(some 2), none, (.q (.mov (.t 8)))⟩] [2])
   .ret)))
theorem fok203 : FOK Tryz.prog 203 (9, ic203, [(.t 2)]) := .mk (pf := []) (an := [(0, [0]), (1, [0, 5]), (2, [2]), (3, [2])]) (by kernel_rfl) (fnOK_of Tryz.func203 (by kernel_rfl) (by kernel_rfl) (by kernel_rfl))
/-- chandlery/pkg.every[chandlery/api.Dep] -/
def ic204 : IC :=
(.seq
 (.reg 0 [⟨(some 5), none, (.boxt (.t 2))⟩, ⟨(some 6), none, (.q (.mov (.c (.bool false))))⟩] [0, 1, 5])
 (.seq
  (.reg 1 [⟨(some 7), none, (.q (.mov (.t 0)))⟩, ⟨(some 8), none, (.q (.len 0 (.t 7)))⟩, ⟨(some 9), none, (.q (.mov (.t 1)))⟩, ⟨(some 10), none, (.q (.bin .leq (.t 8) (.t 9)))⟩, ⟨(some 11), none, (.q (.mov (.t 10)))⟩, ⟨(some 12), (some ⟨11, true⟩), (.q (.mov (.t 0)))⟩, ⟨(some 13), (some ⟨11, true⟩), (.q (.mkf 245 [] [(.t 5)]))⟩, ⟨(some 14), (some ⟨11, true⟩), (.call 93 [(.t 12), (.t 13)])⟩, ⟨(some 15), (some ⟨11, true⟩), (.q (.not (.t 14)))⟩, ⟨(some 16), none, (.q (.pick (.t 11) (.t 15) (.c (.bool false))))⟩, ⟨(some 6), none, (.q (.mov (.t 16)))⟩] [6])
  .ret))
theorem fok204 : FOK Tryz.prog 204 (17, ic204, [(.t 6)]) := .mk (pf := [1000005]) (an := [(0, [0, 1, 5]), (1, [6])]) (by kernel_rfl) (fnOK_of Tryz.func204 (by kernel_rfl) (by kernel_rfl) (by kernel_rfl))
/-- chandlery/pkg.every[string] -/
def ic205 : IC :=
(.seq
 (.reg 0 [⟨(some 5), none, (.boxt (.t 2))⟩, ⟨(some 6), none, (.q (.mov (.c (.bool false))))⟩] [0, 1, 5])
 (.seq
  (.reg 1 [⟨(some 7), none, (.q (.mov (.t 0)))⟩, ⟨(some 8), none, (.q (.len 0 (.t 7)))⟩, ⟨(some 9), none, (.q (.mov (.t 1)))⟩, ⟨(some 10), none, (.q (.bin .leq (.t 8) (.t 9)))⟩, ⟨(some 11), none, (.q (.mov (.t 10)))⟩, ⟨(some 12), (some ⟨11, true⟩), (.q (.mov (.t 0)))⟩, ⟨(some 13), (some ⟨11, true⟩), (.q (.mkf 247 [] [(.t 5)]))⟩, ⟨(some 14), (some ⟨11, true⟩), (.call 246 [(.t 12), (.t 13)])⟩, ⟨(some 15), (some ⟨11, true⟩), (.q (.not (.t 14)))⟩, ⟨(some 16), none, (.q (.pick (.t 11) (.t 15) (.c (.bool false))))⟩, ⟨(some 6), none, (.q (.mov (.t 16)))⟩] [6])
  .ret))
theorem fok205 : FOK Tryz.prog 205 (17, ic205, [(.t 6)]) := .mk (pf := [1000005]) (an := [(0, [0, 1, 5]), (1, [6])]) (by kernel_rfl) (fnOK_of Tryz.func205 (by kernel_rfl) (by kernel_rfl) (by kernel_rfl))
/-- chandlery/pkg.lists -/
def ic206 : IC :=
(.seq
 (.reg 0 [⟨(some 1), none, (.boxt (.t 0))⟩, ⟨(some 2), none, (.q (.mov (.c .nilfunc)))⟩] [1])
 (.seq
  (.reg 1 [⟨(some 3), none, (.q (.mkf 248 [] [(.t 1)]))⟩, ⟨(some 2), none, (.q (.mov (.t 3)))⟩] [2])
  .ret))
theorem fok206 : FOK Tryz.prog 206 (4, ic206, [(.t 2)]) := .mk (pf := [1000001]) (an := [(0, [1]), (1, [2])]) (by kernel_rfl) (fnOK_of Tryz.func206 (by kernel_rfl) (by kernel_rfl) (by kernel_rfl))
/-- chandlery/pkg.every[chandlery/api.Rich] -/
def ic207 : IC :=
(.seq
 (.reg 0 [⟨(some 5), none, (.boxt (.t 2))⟩, ⟨(some 6), none, (.q (.mov (.c (.bool false))))⟩] [0, 1, 5])
 (.seq
  (.reg 1 [⟨(some 7), none, (.q (.mov (.t 0)))⟩, ⟨(some 8), none, (.q (.len 0 (.t 7)))⟩, ⟨(some 9), none, (.q (.mov (.t 1)))⟩, ⟨(some 10), none, (.q (.bin .leq (.t 8) (.t 9)))⟩, ⟨(some 11), none, (.q (.mov (.t 10)))⟩, ⟨(some 12), (some ⟨11, true⟩), (.q (.mov (.t 0)))⟩, ⟨(some 13), (some ⟨11, true⟩), (.q (.mkf 249 [] [(.t 5)]))⟩, ⟨(some 14), (some ⟨11, true⟩), (.call 96 [(.t 12), (.t 13)])⟩, ⟨(some 15), (some ⟨11, true⟩), (.q (.not (.t 14)))⟩, ⟨(some 16), none, (.q (.pick (.t 11) (.t 15) (.c (.bool false))))⟩, ⟨(some 6), none, (.q (.mov (.t 16)))⟩] [6])
  .ret))
theorem fok207 : FOK Tryz.prog 207 (17, ic207, [(.t 6)]) := .mk (pf := [1000005]) (an := [(0, [0, 1, 5]), (1, [6])]) (by kernel_rfl) (fnOK_of Tryz.func207 (by kernel_rfl) (by kernel_rfl) (by kernel_rfl))
/-- chandlery/pkg.May$1 -/
def ic208 : IC :=
(.seq
 (.reg 0 [⟨(some 2), none, (.boxt (.t 0))⟩, ⟨(some 3), none, (.q (.mov (.c (.bool false))))⟩] [1, 2])
 (.seq
  (.reg 1 [⟨(some 4), none, (.q (.load (some 7) (.t 2)))⟩, ⟨(some 5), none, (.q (.load none (.t 1)))⟩, ⟨(some 6), none, (.call 209 [(.t 4), (.t 5)])⟩, ⟨(some 7), none, (.q (.bin .eql (.t 6) (.c (.int .i64 0))))⟩, ⟨(some 3), none, (.q (.mov (.t 7)))⟩] [3])
  .ret))
theorem fok208 : FOK Tryz.prog 208 (8, ic208, [(.t 3)]) := .mk (pf := [1000002]) (an := [(0, [1, 2]), (1, [3])]) (by kernel_rfl) (fnOK_of Tryz.func208 (by kernel_rfl) (by kernel_rfl) (by kernel_rfl))
/-- chandlery/shape.May -/
def ic209 : IC :=
(.seq
 (.reg 0 [⟨(some 2), none, (.boxt (.t 0))⟩, ⟨(some 3), none, (.boxt (.t 1))⟩, ⟨(some 4), none, (.alloc [(.int .i64 0)])⟩] [2, 3, 4])
 (.seq
  (.block 0
   (.seq
    (.reg 1 [⟨(some 9), none, (.q (.load none (.t 3)))⟩, ⟨(some 10), none, (.q (.bin .lss (.t 9) (.c (.int .u8 1))))⟩, ⟨(some 11), none, (.q (.mov (.t 10)))⟩, ⟨(some 12), (some ⟨11, false⟩), (.q (.load none (.t 3)))⟩, ⟨(some 13), (some ⟨11, false⟩), (.q (.bin .gtr (.t 12) (.c (.int .u8 3))))⟩, ⟨(some 14), none, (.q (.pick (.t 11) (.c (.bool true)) (.t 13)))⟩, ⟨(some 8), none, (.q (.mov (.t 14)))⟩] [2, 3, 4, 8])
    (.cond (.t 8)
     (.seq
      (.reg 2 [⟨none, none, (.store 1 (.t 4) (.c (.int .i64 1)))⟩] [4])
      .ret)
     (.seq
      (.reg 3 [⟨(some 16), none, (.q (.load (some 7) (.t 2)))⟩, ⟨(some 17), none, (.call 250 [(.t 16)])⟩, ⟨(some 18), none, (.q (.bin .gtr (.t 17) (.c (.int .i64 24))))⟩, ⟨(some 15), none, (.q (.mov (.t 18)))⟩] [2, 3, 4, 15])
      (.cond (.t 15)
       (.seq
        (.reg 4 [⟨none, none, (.store 1 (.t 4) (.c (.int .i64 40)))⟩] [4])
        .ret)
       (.seq
        (.reg 5 [⟨(some 20), none, (.q (.load (some 7) (.t 2)))⟩, ⟨(some 21), none, (.call 251 [(.t 20)])⟩, ⟨(some 22), none, (.q (.bin .gtr (.t 21) (.c (.int .i64 8))))⟩, ⟨(some 19), none, (.q (.mov (.t 22)))⟩] [2, 3, 4, 19])
        (.cond (.t 19)
         (.seq
          (.reg 6 [⟨none, none, (.store 1 (.t 4) (.c (.int .i64 21)))⟩] [4])
          .ret)
         .skip)))))))
  (.seq
   (.seq
    (.reg 7 [⟨(some 23), none, (.q (.load (some 7) (.t 2)))⟩, ⟨(some 24), none, (.call 155 [(.t 23)])⟩] [3, 4, 24])
    (.block 1
     (.rfunc (.t 24) [25, 26]
      (.seq
       (.reg 8 [⟨(some 5), none, (.alloc [(.int .u8 0), (.str []), (.int .u8 0), (.int .i64 0), (.str []), (.str []), .nilslice])⟩, ⟨none, none, (.store 7 (.t 5) (.t 25))⟩] [3, 4, 5, 26])
       (.reg 9 [⟨(some 6), none, (.q (.mov (.t 26)))⟩] [3, 4, 5, 6]))
      (.block 2
       (.seq
        (.reg 10 [⟨(some 27), none, (.q (.faddr 0 (.t 5)))⟩, ⟨(some 28), none, (.q (.load none (.t 27)))⟩, ⟨(some 29), none, (.call 252 [(.t 28)])⟩, ⟨(some 7), none, (.alloc [(.int .i64 0), (.int .i64 0), (.bool false), (.int .u8 0)])⟩, ⟨none, none, (.store 4 (.t 7) (.t 29))⟩] [3, 4, 5, 6, 7])
        (.block 3
         (.seq
          (.seq
           (.reg 11 [⟨(some 31), none, (.q (.faddr 3 (.t 7)))⟩, ⟨(some 32), none, (.q (.load none (.t 31)))⟩, ⟨(some 33), none, (.q (.load none (.t 3)))⟩, ⟨(some 34), none, (.q (.bin .lss (.t 32) (.t 33)))⟩, ⟨(some 30), none, (.q (.mov (.t 34)))⟩] [4, 5, 6, 7, 30])
           (.cond (.t 30)
            .skip
            (.seq
            (.reg 12 [⟨(some 35), none, (.q (.mov (.t 6)))⟩, ⟨(some 36), none, (.q (.mov (.t 35)))⟩, ⟨(some 37), (some ⟨36, true⟩), (.q (.faddr 2 (.t 7)))⟩, ⟨(some 38), (some ⟨36, true⟩), (.q (.load none (.t 37)))⟩, ⟨(some 39), (some ⟨36, true⟩), (.q (.not (.t 38)))⟩, ⟨(some 40), none, (.q (.pick (.t 36) (.t 39) (.c (.bool false))))⟩, ⟨(some 30), none, (.q (.mov (.t 40)))⟩] [4, 5, 7, 30])
            (.cond (.t 30)
            .skip
            (.seq
            (.reg 13 [⟨(some 41), none, (.q (.faddr 6 (.t 5)))⟩, ⟨(some 42), none, (.q (.load none (.t 41)))⟩, ⟨(some 43), none, (.q (.len 0 (.t 42)))⟩, ⟨(some 44), none, (.q (.faddr 0 (.t 7)))⟩, ⟨(some 45), none, (.q (.load none (.t 44)))⟩, ⟨(some 46), none, (.q (.bin .lss (.t 43) (.t 45)))⟩, ⟨(some 30), none, (.q (.mov (.t 46)))⟩] [4, 5, 7, 30])
            (.cond (.t 30)
            .skip
            (.reg 14 [⟨(some 47), none, (.q (.faddr 6 (.t 5)))⟩, ⟨(some 48), none, (.q (.load none (.t 47)))⟩, ⟨(some 49), none, (.q (.len 0 (.t 48)))⟩, ⟨(some 50), none, (.q (.faddr 1 (.t 7)))⟩, ⟨(some 51), none, (.q (.load none (.t 50)))⟩, ⟨(some 52), none, (.q (.bin .gtr (.t 49) (.t 51)))⟩, ⟨(some 30), none, (.q (.mov (.t 52)))⟩] [4, 5, 30])))))))
          (.cond (.t 30)
           (.seq
            (.reg 15 [⟨none, none, (.store 1 (.t 4) (.c (.int .i64 4)))⟩] [])
            .ret)
           (.seq
            (.seq
            (.reg 16 [⟨(some 54), none, (.q (.faddr 0 (.t 5)))⟩, ⟨(some 55), none, (.q (.load none (.t 54)))⟩, ⟨(some 56), none, (.q (.bin .eql (.t 55) (.c (.int .u8 1))))⟩, ⟨(some 57), none, (.q (.mov (.t 56)))⟩, ⟨(some 58), (some ⟨57, true⟩), (.q (.faddr 1 (.t 5)))⟩, ⟨(some 59), (some ⟨57, true⟩), (.q (.load (some 5) (.t 58)))⟩, ⟨(some 60), (some ⟨57, true⟩), (.call 48 [(.t 59)])⟩, ⟨(some 61), (some ⟨57, true⟩), (.q (.not (.t 60)))⟩, ⟨(some 62), none, (.q (.pick (.t 57) (.t 61) (.c (.bool false))))⟩, ⟨(some 53), none, (.q (.mov (.t 62)))⟩] [4, 5, 53])
            (.cond (.t 53)
            .skip
            (.reg 17 [⟨(some 63), none, (.q (.faddr 0 (.t 5)))⟩, ⟨(some 64), none, (.q (.load none (.t 63)))⟩, ⟨(some 65), none, (.q (.bin .neq (.t 64) (.c (.int .u8 1))))⟩, ⟨(some 66), none, (.q (.mov (.t 65)))⟩, ⟨(some 67), (some ⟨66, true⟩), (.q (.faddr 1 (.t 5)))⟩, ⟨(some 68), (some ⟨66, true⟩), (.q (.load (some 5) (.t 67)))⟩, ⟨(some 69), (some ⟨66, true⟩), (.q (.bld [(.str []), (.int .u8 0), (.int .i64 0), (.str []), (.str [])] []))⟩, ⟨(some 70), (some ⟨66, true⟩), (.q (.eqs [2, 1, 1, 2, 2] true true (.t 68) (.t 69)))⟩, ⟨(some 71), none, (.q (.pick (.t 66) (.t 70) (.c (.bool false))))⟩, ⟨(some 53), none, (.q (.mov (.t 71)))⟩] [4, 53])))
            (.cond (.t 53)
            (.seq
            (.reg 18 [⟨none, none, (.store 1 (.t 4) (.c (.int .i64 4)))⟩] [])
            .ret)
            .skip))))))))))
   (.seq
    (.reg 19 [⟨none, none, (.store 1 (.t 4) (.c (.int .i64 0)))⟩] [4])
    .ret))))
theorem fok209 : FOK Tryz.prog 209 (72, ic209, [(.cell none 4)]) := .mk (pf := [1000002, 1000003]) (an := [(0, [2, 3, 4]), (1, [2, 3, 4, 8]), (2, [4]), (3, [2, 3, 4, 15]), (4, [4]), (5, [2, 3, 4, 19]), (6, [4]), (7, [3, 4, 24]), (8, [3, 4, 5, 26]), (9, [3, 4, 5, 6]), (10, [3, 4, 5, 6, 7]), (11, [4, 5, 6, 7, 30]), (12, [4, 5, 7, 30]), (13, [4, 5, 7, 30]), (14, [4, 5, 30]), (16, [4, 5, 53]), (17, [4, 53]), (19, [4])]) (by kernel_rfl) (fnOK_of Tryz.func209 (by kernel_rfl) (by kernel_rfl) (by kernel_rfl))
/-- slices.insertionSortCmpFunc[int] -/
def ic210 : IC :=
 (.seq
 (.reg 0 [oM 10 1, oQ 11 (.bin .add 10 (cI 1)), oM 8 11] [0, 1, 2, 3, 8])
 (.block 0
 (.loop
 (.seq
 (.seq
 (.reg 1 [oM 12 8, oM 13 2, oQ 14 (.bin .lss 12 13)] [0, 1, 2, 3, 8, 14])
 (.cond 14
 .skip
 (.exit 0)))
 (.seq
 (.block 1
 (.seq
 (.reg 3 [oM 17 8, oM 9 17] [0, 1, 2, 3, 8, 9])
 (.block 2
 (.loop
 (.seq
 (.seq
 (.dreg 4 [oM 18 9, oM 19 1, oQ 20 (.bin .gtr 18 19), oM 21 20, gQ 22 21 true (.mov 3), gQ 23 21 true (.mov 0), gQ 24 21 true (.mov 9), gQ 25 21 true (.iaddr 1 23 24), gQ 26 21 true (.load none 25), gQ 27 21 true (.mov 0), gQ 28 21 true (.mov 9), gQ 29 21 true (.bin .sub 28 (cI 1)), gQ 30 21 true (.iaddr 1 27 29), gQ 31 21 true (.load none 30), gK 32 21 true (.callv 22 [26, 31]), gQ 33 21 true (.bin .lss 32 (cI 0)), oQ 34 (.pick 21 33 (cB false))] false [0, 1, 2, 3, 8, 9, 34])
 (.cond 34
 .skip
 (.exit 2)))
 (.seq
 (.block 3
 (.dreg 6 [oM 37 0, oM 38 9, oM 39 0, oM 40 9, oQ 41 (.bin .sub 40 (cI 1)), oM 42 0, oM 43 9, oQ 44 (.bin .sub 43 (cI 1)), oQ 45 (.iaddr 1 42 44), oQ 46 (.load none 45), oM 47 0, oM 48 9, oQ 49 (.iaddr 1 47 48), oQ 50 (.load none 49), oQ 51 (.iaddr 1 37 38), oN (.store 1 51 46), oQ 52 (.iaddr 1 39 41), oN (.store 1 52 50)] false [0, 1, 2, 3, 8, 9]))
 (.reg 5 [oM 35 9, oQ 36 (.bin .sub 35 (cI 1)), oM 9 36] [0, 1, 2, 3, 8, 9])))))))
 (.reg 2 [oM 15 8, oQ 16 (.bin .add 15 (cI 1)), oM 8 16] [0, 1, 2, 3, 8]))))))
theorem fok210 : FOK Tryz.prog 210 (53, ic210, []) := fokA [] Tryz.func210 (by kernel_rfl) (by kernel_rfl) (by kernel_rfl) (by kernel_rfl)
/-- slices.heapSortCmpFunc[int] -/
def ic211 : IC :=
 (.seq
 (.reg 0 [oM 13 1, oM 8 13] [0, 1, 2, 3, 8])
 (.seq
 (.reg 1 [oM 9 (cI 0)] [0, 1, 2, 3, 8, 9])
 (.seq
 (.reg 2 [oM 14 2, oM 15 1, oQ 16 (.bin .sub 14 15), oM 10 16] [0, 3, 8, 9, 10])
 (.seq
 (.seq
 (.reg 3 [oM 17 10, oQ 18 (.bin .sub 17 (cI 1)), oQ 19 (.bin .quo 18 (cI 2)), oM 11 19] [0, 3, 8, 9, 10, 11])
 (.block 0
 (.loop
 (.seq
 (.seq
 (.reg 4 [oM 20 11, oQ 21 (.bin .geq 20 (cI 0))] [0, 3, 8, 9, 10, 11, 21])
 (.cond 21
 .skip
 (.exit 0)))
 (.seq
 (.block 1
 (.reg 6 [oM 24 0, oM 25 11, oM 26 10, oM 27 8, oM 28 3, oK 29 (.call 253 [24, 25, 26, 27, 28])] [0, 3, 8, 9, 10, 11]))
 (.reg 5 [oM 22 11, oQ 23 (.bin .sub 22 (cI 1)), oM 11 23] [0, 3, 8, 9, 10, 11]))))))
 (.seq
 (.reg 7 [oM 30 10, oQ 31 (.bin .sub 30 (cI 1)), oM 12 31] [0, 3, 8, 9, 12])
 (.block 2
 (.loop
 (.seq
 (.seq
 (.reg 8 [oM 32 12, oQ 33 (.bin .geq 32 (cI 0))] [0, 3, 8, 9, 12, 33])
 (.cond 33
 .skip
 (.exit 2)))
 (.seq
 (.block 3
 (.seq
 (.dreg 10 [oM 36 0, oM 37 8, oM 38 0, oM 39 8, oM 40 12, oQ 41 (.bin .add 39 40), oM 42 0, oM 43 8, oM 44 12, oQ 45 (.bin .add 43 44), oQ 46 (.iaddr 1 42 45), oQ 47 (.load none 46), oM 48 0, oM 49 8, oQ 50 (.iaddr 1 48 49), oQ 51 (.load none 50), oQ 52 (.iaddr 1 36 37), oN (.store 1 52 47), oQ 53 (.iaddr 1 38 41), oN (.store 1 53 51)] false [0, 3, 8, 9, 12])
 (.reg 11 [oM 54 0, oM 55 9, oM 56 12, oM 57 8, oM 58 3, oK 59 (.call 253 [54, 55, 56, 57, 58])] [0, 3, 8, 9, 12])))
 (.reg 9 [oM 34 12, oQ 35 (.bin .sub 34 (cI 1)), oM 12 35] [0, 3, 8, 9, 12]))))))))))
theorem fok211 : FOK Tryz.prog 211 (60, ic211, []) := fokA [] Tryz.func211 (by kernel_rfl) (by kernel_rfl) (by kernel_rfl) (by kernel_rfl)
/-- slices.breakPatternsCmpFunc[int] -/
def ic212 : IC :=
 (.seq
 (.reg 0 [oM 13 2, oM 14 1, oQ 15 (.bin .sub 13 14), oM 8 15] [0, 1, 8])
 (.seq
 (.reg 1 [oM 16 8, oQ 17 (.bin .geq 16 (cI 8))] [0, 1, 8, 17])
 (.cond 17
 (.seq
 (.reg 2 [oM 18 8, oQ 19 (.conv .u64 18), oK 9 (.alloc [(.int .u64 0)]), oN (.store 1 9 19)] [0, 1, 8, 9])
 (.seq
 (.reg 3 [oM 20 8, oK 21 (.call 239 [20]), oM 10 21] [0, 1, 8, 9, 10])
 (.seq
 (.reg 4 [oM 22 1, oM 23 8, oQ 24 (.bin .quo 23 (cI 4)), oQ 25 (.bin .mul 24 (cI 2)), oQ 26 (.bin .add 22 25), oQ 27 (.bin .sub 26 (cI 1)), oM 11 27] [0, 1, 8, 9, 10, 11])
 (.block 0
 (.loop
 (.seq
 (.seq
 (.reg 5 [oM 28 11, oM 29 1, oM 30 8, oQ 31 (.bin .quo 30 (cI 4)), oQ 32 (.bin .mul 31 (cI 2)), oQ 33 (.bin .add 29 32), oQ 34 (.bin .add 33 (cI 1)), oQ 35 (.bin .leq 28 34)] [0, 1, 8, 9, 10, 11, 35])
 (.cond 35
 .skip
 (.exit 0)))
 (.seq
 (.block 1
 (.seq
 (.reg 7 [oK 38 (.call 240 [9]), oM 39 10, oQ 40 (.bin .sub 39 (.c (.int .u64 1))), oQ 41 (.bin .and 38 40), oQ 42 (.conv .i64 41), oM 12 42] [0, 1, 8, 9, 10, 11, 12])
 (.seq
 (.seq
 (.reg 8 [oM 43 12, oM 44 8, oQ 45 (.bin .geq 43 44)] [0, 1, 8, 9, 10, 11, 12, 45])
 (.cond 45
 (.reg 9 [oM 46 12, oM 47 8, oQ 48 (.bin .sub 46 47), oM 12 48] [0, 1, 8, 9, 10, 11, 12])
 .skip))
 (.dreg 10 [oM 49 0, oM 50 11, oM 51 0, oM 52 1, oM 53 12, oQ 54 (.bin .add 52 53), oM 55 0, oM 56 1, oM 57 12, oQ 58 (.bin .add 56 57), oQ 59 (.iaddr 1 55 58), oQ 60 (.load none 59), oM 61 0, oM 62 11, oQ 63 (.iaddr 1 61 62), oQ 64 (.load none 63), oQ 65 (.iaddr 1 49 50), oN (.store 1 65 60), oQ 66 (.iaddr 1 51 54), oN (.store 1 66 64)] false [0, 1, 8, 9, 10, 11]))))
 (.reg 6 [oM 36 11, oQ 37 (.bin .add 36 (cI 1)), oM 11 37] [0, 1, 8, 9, 10, 11]))))))))
 .skip)))
theorem fok212 : FOK Tryz.prog 212 (67, ic212, []) := fokA [] Tryz.func212 (by kernel_rfl) (by kernel_rfl) (by kernel_rfl) (by kernel_rfl)
/-- slices.choosePivotCmpFunc[int] -/
def ic213 : IC :=
 (.seq
 (.reg 0 [oM 8 (cI 0), oM 9 (cI 0)] [0, 1, 2, 3])
 (.seq
 (.reg 1 [oM 15 2, oM 16 1, oQ 17 (.bin .sub 15 16), oM 10 17] [0, 1, 3, 10])
 (.seq
 (.reg 2 [oK 11 (.alloc [(zI 0)])] [0, 1, 3, 10, 11])
 (.seq
 (.reg 3 [oM 18 1, oM 19 10, oQ 20 (.bin .quo 19 (cI 4)), oQ 21 (.bin .mul 20 (cI 1)), oQ 22 (.bin .add 18 21), oM 12 22] [0, 1, 3, 10, 11, 12])
 (.seq
 (.reg 4 [oM 23 1, oM 24 10, oQ 25 (.bin .quo 24 (cI 4)), oQ 26 (.bin .mul 25 (cI 2)), oQ 27 (.bin .add 23 26), oM 13 27] [0, 1, 3, 10, 11, 12, 13])
 (.seq
 (.reg 5 [oM 28 1, oM 29 10, oQ 30 (.bin .quo 29 (cI 4)), oQ 31 (.bin .mul 30 (cI 3)), oQ 32 (.bin .add 28 31), oM 14 32] [0, 3, 10, 11, 12, 13, 14])
 (.seq
 (.seq
 (.reg 6 [oM 33 10, oQ 34 (.bin .geq 33 (cI 8))] [0, 3, 10, 11, 12, 13, 14, 34])
 (.cond 34
 (.seq
 (.seq
 (.reg 7 [oM 35 10, oQ 36 (.bin .geq 35 (cI 50))] [0, 3, 11, 12, 13, 14, 36])
 (.cond 36
 (.seq
 (.reg 8 [oM 37 0, oM 38 12, oM 39 3, oK 40 (.call 254 [37, 38, 11, 39]), oM 12 40] [0, 3, 11, 12, 13, 14])
 (.seq
 (.reg 9 [oM 41 0, oM 42 13, oM 43 3, oK 44 (.call 254 [41, 42, 11, 43]), oM 13 44] [0, 3, 11, 12, 13, 14])
 (.reg 10 [oM 45 0, oM 46 14, oM 47 3, oK 48 (.call 254 [45, 46, 11, 47]), oM 14 48] [0, 3, 11, 12, 13, 14])))
 .skip))
 (.reg 11 [oM 49 0, oM 50 12, oM 51 13, oM 52 14, oM 53 3, oK 54 (.call 255 [49, 50, 51, 52, 11, 53]), oM 13 54] [11, 13]))
 .skip))
 (.seq
 (.reg 12 [oQ 55 (.load none 11)] [13, 55])
 (.block 0
 (.seq
 (.reg 14 [oQ 58 (.bin .eql 55 (cI 0)), oM 57 58] [13, 55, 57])
 (.cond 57
 (.seq
 (.reg 15 [oM 59 13, oM 8 59, oM 9 (cI 1)] [8, 9])
 .ret)
 (.seq
 (.reg 16 [oQ 61 (.bin .eql 55 (cI 12)), oM 60 61] [13, 60])
 (.cond 60
 (.seq
 (.reg 17 [oM 62 13, oM 8 62, oM 9 (cI 2)] [8, 9])
 .ret)
 (.seq
 (.reg 13 [oM 56 13, oM 8 56, oM 9 (cI 0)] [8, 9])
 .ret))))))))))))))
theorem fok213 : FOK Tryz.prog 213 (63, ic213, [(.t 8), (.t 9)]) := fokA [] Tryz.func213 (by kernel_rfl) (by kernel_rfl) (by kernel_rfl) (by kernel_rfl)
/-- slices.reverseRangeCmpFunc[int] -/
def ic214 : IC :=
 (.seq
 (.reg 0 [oM 10 1, oM 8 10] [0, 2, 8])
 (.seq
 (.reg 1 [oM 11 2, oQ 12 (.bin .sub 11 (cI 1)), oM 9 12] [0, 8, 9])
 (.block 0
 (.loop
 (.seq
 (.seq
 (.reg 2 [oM 13 8, oM 14 9, oQ 15 (.bin .lss 13 14)] [0, 8, 9, 15])
 (.cond 15
 .skip
 (.exit 0)))
 (.block 1
 (.seq
 (.dreg 3 [oM 16 0, oM 17 8, oM 18 0, oM 19 9, oM 20 0, oM 21 9, oQ 22 (.iaddr 1 20 21), oQ 23 (.load none 22), oM 24 0, oM 25 8, oQ 26 (.iaddr 1 24 25), oQ 27 (.load none 26), oQ 28 (.iaddr 1 16 17), oN (.store 1 28 23), oQ 29 (.iaddr 1 18 19), oN (.store 1 29 27)] false [0, 8, 9])
 (.seq
 (.reg 4 [oM 30 8, oQ 31 (.bin .add 30 (cI 1)), oM 8 31] [0, 8, 9])
 (.reg 5 [oM 32 9, oQ 33 (.bin .sub 32 (cI 1)), oM 9 33] [0, 8, 9])))))))))
theorem fok214 : FOK Tryz.prog 214 (34, ic214, []) := fokA [] Tryz.func214 (by kernel_rfl) (by kernel_rfl) (by kernel_rfl) (by kernel_rfl)
/-- slices.partialInsertionSortCmpFunc[int] -/
def ic215 : IC :=
 (.seq
 (.reg 0 [oM 8 (cB false)] [0, 1, 2, 3])
 (.seq
 (.reg 1 [oM 13 1, oQ 14 (.bin .add 13 (cI 1)), oM 9 14] [0, 1, 2, 3, 9])
 (.seq
 (.seq
 (.reg 2 [oM 10 (cI 0)] [0, 1, 2, 3, 9, 10])
 (.block 0
 (.loop
 (.seq
 (.seq
 (.reg 3 [oM 15 10, oQ 16 (.bin .lss 15 (cI 5))] [0, 1, 2, 3, 9, 10, 16])
 (.cond 16
 .skip
 (.exit 0)))
 (.seq
 (.block 1
 (.seq
 (.block 2
 (.loop
 (.seq
 (.seq
 (.dreg 5 [oM 19 9, oM 20 2, oQ 21 (.bin .lss 19 20), oM 22 21, gQ 23 22 true (.mov 3), gQ 24 22 true (.mov 0), gQ 25 22 true (.mov 9), gQ 26 22 true (.iaddr 1 24 25), gQ 27 22 true (.load none 26), gQ 28 22 true (.mov 0), gQ 29 22 true (.mov 9), gQ 30 22 true (.bin .sub 29 (cI 1)), gQ 31 22 true (.iaddr 1 28 30), gQ 32 22 true (.load none 31), gK 33 22 true (.callv 23 [27, 32]), gQ 34 22 true (.bin .lss 33 (cI 0)), gQ 35 22 true (.not 34), oQ 36 (.pick 22 35 (cB false))] false [0, 1, 2, 3, 9, 10, 36])
 (.cond 36
 .skip
 (.exit 2)))
 (.block 3
 (.reg 6 [oM 37 9, oQ 38 (.bin .add 37 (cI 1)), oM 9 38] [0, 1, 2, 3, 9, 10])))))
 (.seq
 (.seq
 (.reg 7 [oM 39 9, oM 40 2, oQ 41 (.bin .eql 39 40)] [0, 1, 2, 3, 9, 10, 41])
 (.cond 41
 (.seq
 (.reg 8 [oM 8 (cB true)] [8])
 .ret)
 .skip))
 (.seq
 (.seq
 (.reg 9 [oM 42 2, oM 43 1, oQ 44 (.bin .sub 42 43), oQ 45 (.bin .lss 44 (cI 50))] [0, 1, 2, 3, 9, 10, 45])
 (.cond 45
 (.seq
 (.reg 10 [oM 8 (cB false)] [8])
 .ret)
 .skip))
 (.seq
 (.dreg 11 [oM 46 0, oM 47 9, oM 48 0, oM 49 9, oQ 50 (.bin .sub 49 (cI 1)), oM 51 0, oM 52 9, oQ 53 (.bin .sub 52 (cI 1)), oQ 54 (.iaddr 1 51 53), oQ 55 (.load none 54), oM 56 0, oM 57 9, oQ 58 (.iaddr 1 56 57), oQ 59 (.load none 58), oQ 60 (.iaddr 1 46 47), oN (.store 1 60 55), oQ 61 (.iaddr 1 48 50), oN (.store 1 61 59)] false [0, 1, 2, 3, 9, 10])
 (.seq
 (.seq
 (.reg 12 [oM 62 9, oM 63 1, oQ 64 (.bin .sub 62 63), oQ 65 (.bin .geq 64 (cI 2))] [0, 1, 2, 3, 9, 10, 65])
 (.cond 65
 (.seq
 (.reg 13 [oM 66 9, oQ 67 (.bin .sub 66 (cI 1)), oM 11 67] [0, 1, 2, 3, 9, 10, 11])
 (.block 4
 (.loop
 (.seq
 (.seq
 (.reg 14 [oM 68 11, oQ 69 (.bin .geq 68 (cI 1))] [0, 1, 2, 3, 9, 10, 11, 69])
 (.cond 69
 .skip
 (.exit 4)))
 (.seq
 (.block 5
 (.seq
 (.seq
 (.dreg 16 [oM 72 3, oM 73 0, oM 74 11, oQ 75 (.iaddr 1 73 74), oQ 76 (.load none 75), oM 77 0, oM 78 11, oQ 79 (.bin .sub 78 (cI 1)), oQ 80 (.iaddr 1 77 79), oQ 81 (.load none 80), oK 82 (.callv 72 [76, 81]), oQ 83 (.bin .lss 82 (cI 0)), oQ 84 (.not 83)] false [0, 1, 2, 3, 9, 10, 11, 84])
 (.cond 84
 (.exit 4)
 .skip))
 (.dreg 17 [oM 85 0, oM 86 11, oM 87 0, oM 88 11, oQ 89 (.bin .sub 88 (cI 1)), oM 90 0, oM 91 11, oQ 92 (.bin .sub 91 (cI 1)), oQ 93 (.iaddr 1 90 92), oQ 94 (.load none 93), oM 95 0, oM 96 11, oQ 97 (.iaddr 1 95 96), oQ 98 (.load none 97), oQ 99 (.iaddr 1 85 86), oN (.store 1 99 94), oQ 100 (.iaddr 1 87 89), oN (.store 1 100 98)] false [0, 1, 2, 3, 9, 10, 11])))
 (.reg 15 [oM 70 11, oQ 71 (.bin .sub 70 (cI 1)), oM 11 71] [0, 1, 2, 3, 9, 10, 11]))))))
 .skip))
 (.seq
 (.reg 18 [oM 101 2, oM 102 9, oQ 103 (.bin .sub 101 102), oQ 104 (.bin .geq 103 (cI 2))] [0, 1, 2, 3, 9, 10, 104])
 (.cond 104
 (.seq
 (.reg 19 [oM 105 9, oQ 106 (.bin .add 105 (cI 1)), oM 12 106] [0, 1, 2, 3, 9, 10, 12])
 (.block 6
 (.loop
 (.seq
 (.seq
 (.reg 20 [oM 107 12, oM 108 2, oQ 109 (.bin .lss 107 108)] [0, 1, 2, 3, 9, 10, 12, 109])
 (.cond 109
 .skip
 (.exit 6)))
 (.seq
 (.block 7
 (.seq
 (.seq
 (.dreg 22 [oM 112 3, oM 113 0, oM 114 12, oQ 115 (.iaddr 1 113 114), oQ 116 (.load none 115), oM 117 0, oM 118 12, oQ 119 (.bin .sub 118 (cI 1)), oQ 120 (.iaddr 1 117 119), oQ 121 (.load none 120), oK 122 (.callv 112 [116, 121]), oQ 123 (.bin .lss 122 (cI 0)), oQ 124 (.not 123)] false [0, 1, 2, 3, 9, 10, 12, 124])
 (.cond 124
 (.exit 6)
 .skip))
 (.dreg 23 [oM 125 0, oM 126 12, oM 127 0, oM 128 12, oQ 129 (.bin .sub 128 (cI 1)), oM 130 0, oM 131 12, oQ 132 (.bin .sub 131 (cI 1)), oQ 133 (.iaddr 1 130 132), oQ 134 (.load none 133), oM 135 0, oM 136 12, oQ 137 (.iaddr 1 135 136), oQ 138 (.load none 137), oQ 139 (.iaddr 1 125 126), oN (.store 1 139 134), oQ 140 (.iaddr 1 127 129), oN (.store 1 140 138)] false [0, 1, 2, 3, 9, 10, 12])))
 (.reg 21 [oM 110 12, oQ 111 (.bin .add 110 (cI 1)), oM 12 111] [0, 1, 2, 3, 9, 10, 12]))))))
 .skip))))))))
 (.reg 4 [oM 17 10, oQ 18 (.bin .add 17 (cI 1)), oM 10 18] [0, 1, 2, 3, 9, 10]))))))
 (.seq
 (.reg 24 [oM 8 (cB false)] [8])
 .ret))))
theorem fok215 : FOK Tryz.prog 215 (141, ic215, [(.t 8)]) := fokA [] Tryz.func215 (by kernel_rfl) (by kernel_rfl) (by kernel_rfl) (by kernel_rfl)
/-- slices.partitionEqualCmpFunc[int] -/
def ic216 : IC :=
 (.seq
 (.reg 0 [oM 10 (cI 0)] [0, 1, 2, 3, 4])
 (.seq
 (.dreg 1 [oM 13 0, oM 14 1, oM 15 0, oM 16 3, oM 17 0, oM 18 3, oQ 19 (.iaddr 1 17 18), oQ 20 (.load none 19), oM 21 0, oM 22 1, oQ 23 (.iaddr 1 21 22), oQ 24 (.load none 23), oQ 25 (.iaddr 1 13 14), oN (.store 1 25 20), oQ 26 (.iaddr 1 15 16), oN (.store 1 26 24)] false [0, 1, 2, 4])
 (.seq
 (.reg 2 [oM 27 1, oQ 28 (.bin .add 27 (cI 1)), oM 29 2, oQ 30 (.bin .sub 29 (cI 1)), oM 11 28, oM 12 30] [0, 1, 4, 11, 12])
 (.seq
 (.block 0
 (.loop
 (.block 1
 (.seq
 (.block 2
 (.loop
 (.seq
 (.seq
 (.dreg 3 [oM 31 11, oM 32 12, oQ 33 (.bin .leq 31 32), oM 34 33, gQ 35 34 true (.mov 4), gQ 36 34 true (.mov 0), gQ 37 34 true (.mov 1), gQ 38 34 true (.iaddr 1 36 37), gQ 39 34 true (.load none 38), gQ 40 34 true (.mov 0), gQ 41 34 true (.mov 11), gQ 42 34 true (.iaddr 1 40 41), gQ 43 34 true (.load none 42), gK 44 34 true (.callv 35 [39, 43]), gQ 45 34 true (.bin .lss 44 (cI 0)), gQ 46 34 true (.not 45), oQ 47 (.pick 34 46 (cB false))] false [0, 1, 4, 11, 12, 47])
 (.cond 47
 .skip
 (.exit 2)))
 (.block 3
 (.reg 4 [oM 48 11, oQ 49 (.bin .add 48 (cI 1)), oM 11 49] [0, 1, 4, 11, 12])))))
 (.seq
 (.block 4
 (.loop
 (.seq
 (.seq
 (.dreg 5 [oM 50 11, oM 51 12, oQ 52 (.bin .leq 50 51), oM 53 52, gQ 54 53 true (.mov 4), gQ 55 53 true (.mov 0), gQ 56 53 true (.mov 1), gQ 57 53 true (.iaddr 1 55 56), gQ 58 53 true (.load none 57), gQ 59 53 true (.mov 0), gQ 60 53 true (.mov 12), gQ 61 53 true (.iaddr 1 59 60), gQ 62 53 true (.load none 61), gK 63 53 true (.callv 54 [58, 62]), gQ 64 53 true (.bin .lss 63 (cI 0)), oQ 65 (.pick 53 64 (cB false))] false [0, 1, 4, 11, 12, 65])
 (.cond 65
 .skip
 (.exit 4)))
 (.block 5
 (.reg 6 [oM 66 12, oQ 67 (.bin .sub 66 (cI 1)), oM 12 67] [0, 1, 4, 11, 12])))))
 (.seq
 (.seq
 (.reg 7 [oM 68 11, oM 69 12, oQ 70 (.bin .gtr 68 69)] [0, 1, 4, 11, 12, 70])
 (.cond 70
 (.exit 0)
 .skip))
 (.seq
 (.dreg 8 [oM 71 0, oM 72 11, oM 73 0, oM 74 12, oM 75 0, oM 76 12, oQ 77 (.iaddr 1 75 76), oQ 78 (.load none 77), oM 79 0, oM 80 11, oQ 81 (.iaddr 1 79 80), oQ 82 (.load none 81), oQ 83 (.iaddr 1 71 72), oN (.store 1 83 78), oQ 84 (.iaddr 1 73 74), oN (.store 1 84 82)] false [0, 1, 4, 11, 12])
 (.seq
 (.reg 9 [oM 85 11, oQ 86 (.bin .add 85 (cI 1)), oM 11 86] [0, 1, 4, 11, 12])
 (.reg 10 [oM 87 12, oQ 88 (.bin .sub 87 (cI 1)), oM 12 88] [0, 1, 4, 11, 12])))))))))
 (.seq
 (.reg 11 [oM 89 11, oM 10 89] [10])
 .ret)))))
theorem fok216 : FOK Tryz.prog 216 (90, ic216, [(.t 10)]) := fokA [] Tryz.func216 (by kernel_rfl) (by kernel_rfl) (by kernel_rfl) (by kernel_rfl)
/-- slices.partitionCmpFunc[int] -/
def ic217 : IC :=
 (.seq
 (.reg 0 [oM 10 (cI 0), oM 11 (cB false)] [0, 1, 2, 3, 4])
 (.seq
 (.dreg 1 [oM 14 0, oM 15 1, oM 16 0, oM 17 3, oM 18 0, oM 19 3, oQ 20 (.iaddr 1 18 19), oQ 21 (.load none 20), oM 22 0, oM 23 1, oQ 24 (.iaddr 1 22 23), oQ 25 (.load none 24), oQ 26 (.iaddr 1 14 15), oN (.store 1 26 21), oQ 27 (.iaddr 1 16 17), oN (.store 1 27 25)] false [0, 1, 2, 4])
 (.seq
 (.reg 2 [oM 28 1, oQ 29 (.bin .add 28 (cI 1)), oM 30 2, oQ 31 (.bin .sub 30 (cI 1)), oM 12 29, oM 13 31] [0, 1, 4, 12, 13])
 (.seq
 (.block 0
 (.loop
 (.seq
 (.seq
 (.dreg 3 [oM 32 12, oM 33 13, oQ 34 (.bin .leq 32 33), oM 35 34, gQ 36 35 true (.mov 4), gQ 37 35 true (.mov 0), gQ 38 35 true (.mov 12), gQ 39 35 true (.iaddr 1 37 38), gQ 40 35 true (.load none 39), gQ 41 35 true (.mov 0), gQ 42 35 true (.mov 1), gQ 43 35 true (.iaddr 1 41 42), gQ 44 35 true (.load none 43), gK 45 35 true (.callv 36 [40, 44]), gQ 46 35 true (.bin .lss 45 (cI 0)), oQ 47 (.pick 35 46 (cB false))] false [0, 1, 4, 12, 13, 47])
 (.cond 47
 .skip
 (.exit 0)))
 (.block 1
 (.reg 4 [oM 48 12, oQ 49 (.bin .add 48 (cI 1)), oM 12 49] [0, 1, 4, 12, 13])))))
 (.seq
 (.block 2
 (.loop
 (.seq
 (.seq
 (.dreg 5 [oM 50 12, oM 51 13, oQ 52 (.bin .leq 50 51), oM 53 52, gQ 54 53 true (.mov 4), gQ 55 53 true (.mov 0), gQ 56 53 true (.mov 13), gQ 57 53 true (.iaddr 1 55 56), gQ 58 53 true (.load none 57), gQ 59 53 true (.mov 0), gQ 60 53 true (.mov 1), gQ 61 53 true (.iaddr 1 59 60), gQ 62 53 true (.load none 61), gK 63 53 true (.callv 54 [58, 62]), gQ 64 53 true (.bin .lss 63 (cI 0)), gQ 65 53 true (.not 64), oQ 66 (.pick 53 65 (cB false))] false [0, 1, 4, 12, 13, 66])
 (.cond 66
 .skip
 (.exit 2)))
 (.block 3
 (.reg 6 [oM 67 13, oQ 68 (.bin .sub 67 (cI 1)), oM 13 68] [0, 1, 4, 12, 13])))))
 (.seq
 (.seq
 (.reg 7 [oM 69 12, oM 70 13, oQ 71 (.bin .gtr 69 70)] [0, 1, 4, 12, 13, 71])
 (.cond 71
 (.seq
 (.dreg 8 [oM 72 0, oM 73 13, oM 74 0, oM 75 1, oM 76 0, oM 77 1, oQ 78 (.iaddr 1 76 77), oQ 79 (.load none 78), oM 80 0, oM 81 13, oQ 82 (.iaddr 1 80 81), oQ 83 (.load none 82), oQ 84 (.iaddr 1 72 73), oN (.store 1 84 79), oQ 85 (.iaddr 1 74 75), oN (.store 1 85 83)] false [13])
 (.seq
 (.reg 9 [oM 86 13, oM 10 86, oM 11 (cB true)] [10, 11])
 .ret))
 .skip))
 (.seq
 (.dreg 10 [oM 87 0, oM 88 12, oM 89 0, oM 90 13, oM 91 0, oM 92 13, oQ 93 (.iaddr 1 91 92), oQ 94 (.load none 93), oM 95 0, oM 96 12, oQ 97 (.iaddr 1 95 96), oQ 98 (.load none 97), oQ 99 (.iaddr 1 87 88), oN (.store 1 99 94), oQ 100 (.iaddr 1 89 90), oN (.store 1 100 98)] false [0, 1, 4, 12, 13])
 (.seq
 (.reg 11 [oM 101 12, oQ 102 (.bin .add 101 (cI 1)), oM 12 102] [0, 1, 4, 12, 13])
 (.seq
 (.reg 12 [oM 103 13, oQ 104 (.bin .sub 103 (cI 1)), oM 13 104] [0, 1, 4, 12, 13])
 (.seq
 (.block 4
 (.loop
 (.block 5
 (.seq
 (.block 6
 (.loop
 (.seq
 (.seq
 (.dreg 13 [oM 105 12, oM 106 13, oQ 107 (.bin .leq 105 106), oM 108 107, gQ 109 108 true (.mov 4), gQ 110 108 true (.mov 0), gQ 111 108 true (.mov 12), gQ 112 108 true (.iaddr 1 110 111), gQ 113 108 true (.load none 112), gQ 114 108 true (.mov 0), gQ 115 108 true (.mov 1), gQ 116 108 true (.iaddr 1 114 115), gQ 117 108 true (.load none 116), gK 118 108 true (.callv 109 [113, 117]), gQ 119 108 true (.bin .lss 118 (cI 0)), oQ 120 (.pick 108 119 (cB false))] false [0, 1, 4, 12, 13, 120])
 (.cond 120
 .skip
 (.exit 6)))
 (.block 7
 (.reg 14 [oM 121 12, oQ 122 (.bin .add 121 (cI 1)), oM 12 122] [0, 1, 4, 12, 13])))))
 (.seq
 (.block 8
 (.loop
 (.seq
 (.seq
 (.dreg 15 [oM 123 12, oM 124 13, oQ 125 (.bin .leq 123 124), oM 126 125, gQ 127 126 true (.mov 4), gQ 128 126 true (.mov 0), gQ 129 126 true (.mov 13), gQ 130 126 true (.iaddr 1 128 129), gQ 131 126 true (.load none 130), gQ 132 126 true (.mov 0), gQ 133 126 true (.mov 1), gQ 134 126 true (.iaddr 1 132 133), gQ 135 126 true (.load none 134), gK 136 126 true (.callv 127 [131, 135]), gQ 137 126 true (.bin .lss 136 (cI 0)), gQ 138 126 true (.not 137), oQ 139 (.pick 126 138 (cB false))] false [0, 1, 4, 12, 13, 139])
 (.cond 139
 .skip
 (.exit 8)))
 (.block 9
 (.reg 16 [oM 140 13, oQ 141 (.bin .sub 140 (cI 1)), oM 13 141] [0, 1, 4, 12, 13])))))
 (.seq
 (.seq
 (.reg 17 [oM 142 12, oM 143 13, oQ 144 (.bin .gtr 142 143)] [0, 1, 4, 12, 13, 144])
 (.cond 144
 (.exit 4)
 .skip))
 (.seq
 (.dreg 18 [oM 145 0, oM 146 12, oM 147 0, oM 148 13, oM 149 0, oM 150 13, oQ 151 (.iaddr 1 149 150), oQ 152 (.load none 151), oM 153 0, oM 154 12, oQ 155 (.iaddr 1 153 154), oQ 156 (.load none 155), oQ 157 (.iaddr 1 145 146), oN (.store 1 157 152), oQ 158 (.iaddr 1 147 148), oN (.store 1 158 156)] false [0, 1, 4, 12, 13])
 (.seq
 (.reg 19 [oM 159 12, oQ 160 (.bin .add 159 (cI 1)), oM 12 160] [0, 1, 4, 12, 13])
 (.reg 20 [oM 161 13, oQ 162 (.bin .sub 161 (cI 1)), oM 13 162] [0, 1, 4, 12, 13])))))))))
 (.seq
 (.dreg 21 [oM 163 0, oM 164 13, oM 165 0, oM 166 1, oM 167 0, oM 168 1, oQ 169 (.iaddr 1 167 168), oQ 170 (.load none 169), oM 171 0, oM 172 13, oQ 173 (.iaddr 1 171 172), oQ 174 (.load none 173), oQ 175 (.iaddr 1 163 164), oN (.store 1 175 170), oQ 176 (.iaddr 1 165 166), oN (.store 1 176 174)] false [13])
 (.seq
 (.reg 22 [oM 177 13, oM 10 177, oM 11 (cB false)] [10, 11])
 .ret))))))))))))
theorem fok217 : FOK Tryz.prog 217 (178, ic217, [(.t 10), (.t 11)]) := fokA [] Tryz.func217 (by kernel_rfl) (by kernel_rfl) (by kernel_rfl) (by kernel_rfl)
/-- chandlery/shape.parts$1 -/
def ic220 : IC :=
(.seq
 (.reg 0 [⟨(some 4), none, (.boxt (.t 0))⟩, ⟨(some 7), none, (.q (.mov (.c (.bool false))))⟩] [1, 2, 3, 4])
 (.seq
  (.seq
   (.reg 1 [⟨(some 10), none, (.q (.mov (.t 2)))⟩, ⟨(some 11), none, (.q (.load (some 7) (.t 4)))⟩, ⟨(some 12), none, (.q (.mov (.t 1)))⟩, ⟨(some 13), none, (.callv (.t 10) [(.t 11), (.t 12)])⟩, ⟨(some 14), none, (.q (.not (.t 13)))⟩] [1, 2, 3, 4, 14])
   (.cond (.t 14)
    (.seq
     (.reg 2 [⟨(some 7), none, (.q (.mov (.c (.bool false))))⟩] [7])
     .ret)
    .skip))
  (.seq
   (.reg 3 [⟨(some 15), none, (.q (.mov (.t 1)))⟩, ⟨(some 16), none, (.q (.mov (.t 15)))⟩, ⟨(some 17), (some ⟨16, false⟩), (.q (.faddr 0 (.t 4)))⟩, ⟨(some 18), (some ⟨16, false⟩), (.q (.load none (.t 17)))⟩, ⟨(some 19), (some ⟨16, false⟩), (.q (.bin .eql (.t 18) (.c (.int .u8 6))))⟩, ⟨(some 20), none, (.q (.pick (.t 16) (.c (.bool true)) (.t 19)))⟩, ⟨(some 21), none, (.q (.mov (.t 20)))⟩, ⟨(some 22), (some ⟨21, false⟩), (.q (.faddr 0 (.t 4)))⟩, ⟨(some 23), (some ⟨21, false⟩), (.q (.load none (.t 22)))⟩, ⟨(some 24), (some ⟨21, false⟩), (.q (.bin .eql (.t 23) (.c (.int .u8 7))))⟩, ⟨(some 25), none, (.q (.pick (.t 21) (.c (.bool true)) (.t 24)))⟩, ⟨(some 1), none, (.q (.mov (.t 25)))⟩] [1, 2, 3, 4])
   (.seq
    (.seq
     (.reg 4 [⟨(some 26), none, (.q (.faddr 6 (.t 4)))⟩, ⟨(some 27), none, (.q (.load none (.t 26)))⟩, ⟨(some 28), none, (.q (.len 0 (.t 27)))⟩, ⟨(some 29), none, (.q (.mov (.c (.int .i64 0))))⟩] [1, 2, 3, 27, 28, 29])
     (.block 0
      (.loop
       (.seq
        (.reg 5 [⟨(some 30), none, (.q (.bin .lss (.t 29) (.t 28)))⟩] [1, 2, 3, 27, 28, 29, 30])
        (.seq
         (.cond (.t 30)
          .skip
          (.exit 0))
         (.seq
          (.block 1
           (.seq
            (.reg 6 [⟨(some 31), none, (.q (.iaddr 7 (.t 27) (.t 29)))⟩, ⟨(some 32), none, (.q (.load (some 7) (.t 31)))⟩, ⟨(some 9), none, (.alloc [(.int .u8 0), (.str []), (.int .u8 0), (.int .i64 0), (.str []), (.str []), .nilslice])⟩, ⟨none, none, (.store 7 (.t 9) (.t 32))⟩] [1, 2, 3, 9, 27, 28, 29])
            (.seq
            (.reg 7 [⟨(some 33), none, (.q (.load none (.t 3)))⟩, ⟨(some 34), none, (.q (.load (some 7) (.t 9)))⟩, ⟨(some 35), none, (.q (.mov (.t 1)))⟩, ⟨(some 36), none, (.q (.mov (.t 2)))⟩, ⟨(some 37), none, (.callv (.t 33) [(.t 34), (.t 35), (.t 36)])⟩, ⟨(some 38), none, (.q (.not (.t 37)))⟩] [1, 2, 3, 27, 28, 29, 38])
            (.cond (.t 38)
            (.seq
            (.reg 8 [⟨(some 7), none, (.q (.mov (.c (.bool false))))⟩] [7])
            .ret)
            .skip))))
          (.reg 9 [⟨(some 39), none, (.q (.bin .add (.t 29) (.c (.int .i64 1))))⟩, ⟨(some 29), none, (.q (.mov (.t 39)))⟩] [1, 2, 3, 27, 28, 29])))))))
    (.seq
     (.reg 10 [⟨(some 7), none, (.q (.mov (.c (.bool true))))⟩] [7])
     .ret)))))
theorem fok220 : FOK Tryz.prog 220 (40, ic220, [(.t 7)]) := .mk (pf := [1000004]) (an := [(0, [1, 2, 3, 4]), (1, [1, 2, 3, 4, 14]), (2, [7]), (3, [1, 2, 3, 4]), (4, [1, 2, 3, 27, 28, 29]), (5, [1, 2, 3, 27, 28, 29, 30]), (6, [1, 2, 3, 9, 27, 28, 29]), (7, [1, 2, 3, 27, 28, 29, 38]), (8, [7]), (9, [1, 2, 3, 27, 28, 29]), (10, [7])]) (by kernel_rfl) (fnOK_of Tryz.func220 (by kernel_rfl) (by kernel_rfl) (by kernel_rfl))
/-- chandlery/shape.parts$2 -/
def ic221 : IC :=
(.reg 0 [⟨(some 4), none, (.q (.load none (.t 1)))⟩, ⟨(some 5), none, (.q (.load (some 7) (.t 2)))⟩, ⟨(some 6), none, (.q (.mov (.t 0)))⟩, ⟨(some 7), none, (.callv (.t 4) [(.t 5), (.c (.bool false)), (.t 6)])⟩] [])
theorem fok221 : FOK Tryz.prog 221 (8, ic221, []) := .mk (pf := []) (an := []) (by kernel_rfl) (fnOK_of Tryz.func221 (by kernel_rfl) (by kernel_rfl) (by kernel_rfl))
/-- chandlery/span.Meet -/
def ic222 : IC :=
 (.seq
 (.reg 0 [oK 2 (.boxt 0), oK 3 (.boxt 1), oM 4 (cB false)] [2, 3])
 (.seq
 (.seq
 (.reg 1 [oQ 6 (.faddr 1 2), oQ 7 (.load none 6), oQ 8 (.bin .and 7 (.c (zU 7))), oQ 9 (.bin .eql 8 (.c (zU 0))), oM 10 9, gQ 11 10 false (.faddr 1 3), gQ 12 10 false (.load none 11), gQ 13 10 false (.bin .and 12 (.c (zU 7))), gQ 14 10 false (.bin .eql 13 (.c (zU 0))), oQ 15 (.pick 10 (cB true) 14)] [2, 3, 15])
 (.cond 15
 (.seq
 (.reg 2 [oM 4 (cB true)] [4])
 .ret)
 .skip))
 (.seq
 (.reg 3 [oQ 16 (.faddr 2 2), oQ 17 (.load (some 3) 16), oQ 18 (.faddr 2 3), oQ 19 (.load (some 3) 18), oK 20 (.call 60 [17, 19]), oM 5 20] [2, 3, 5])
 (.seq
 (.seq
 (.reg 4 [oM 21 5, oQ 22 (.bin .eql 21 (cI 0))] [2, 3, 5, 22])
 (.cond 22
 (.seq
 (.reg 5 [oQ 23 (.faddr 1 2), oQ 24 (.load none 23), oQ 25 (.faddr 1 3), oQ 26 (.load none 25), oQ 27 (.bin .and 24 26), oQ 28 (.bin .and 27 (.c (zU 7))), oQ 29 (.bin .neq 28 (.c (zU 0))), oM 4 29] [4])
 .ret)
 .skip))
 (.seq
 (.dreg 6 [oQ 30 (.faddr 1 2), oQ 31 (.load none 30), oM 32 5, oQ 33 (.neg 32), oK 34 (.pcall 257 [33]), oQ 35 (.bin .and 31 34), oQ 36 (.bin .neq 35 (.c (zU 0))), oM 37 36, gQ 38 37 false (.faddr 1 3), gQ 39 37 false (.load none 38), gQ 40 37 false (.mov 5), gK 41 37 false (.pcall 257 [40]), gQ 42 37 false (.bin .and 39 41), gQ 43 37 false (.bin .neq 42 (.c (zU 0))), oQ 44 (.pick 37 (cB true) 43), oM 4 44] false [4])
 .ret)))))
theorem fok222 : FOK Tryz.prog 222 (45, ic222, [(.t 4)]) := fokA ([1000002, 1000003] ++ [257]) Tryz.func222 (by kernel_rfl) (by kernel_rfl) (by kernel_rfl) (by kernel_rfl)
/-- slices.Index[[]string,string] -/
def ic223 : IC :=
 (.seq
 (.reg 0 [oM 4 (cI 0)] [0, 1])
 (.seq
 (.seq
 (.reg 1 [oM 6 0, oQ 7 (.len 0 6), oM 8 (cI 0)] [0, 1, 7, 8])
 (.block 0
 (.loop
 (.seq
 (.reg 2 [oQ 9 (.bin .lss 8 7)] [0, 1, 7, 8, 9])
 (.seq
 (.cond 9
 .skip
 (.exit 0))
 (.seq
 (.block 1
 (.seq
 (.reg 3 [oM 10 8, oM 5 10] [0, 1, 5, 7, 8])
 (.seq
 (.reg 4 [oM 11 1, oM 12 0, oM 13 5, oQ 14 (.iaddr 1 12 13), oQ 15 (.load none 14), oQ 16 (.bin .eql 11 15)] [0, 1, 5, 7, 8, 16])
 (.cond 16
 (.seq
 (.reg 5 [oM 17 5, oM 4 17] [4])
 .ret)
 .skip))))
 (.reg 6 [oQ 18 (.bin .add 8 (cI 1)), oM 8 18] [0, 1, 7, 8])))))))
 (.seq
 (.reg 7 [oM 4 (cI (-1))] [4])
 .ret)))
theorem fok223 : FOK Tryz.prog 223 (19, ic223, [(.t 4)]) := fokA [] Tryz.func223 (by kernel_rfl) (by kernel_rfl) (by kernel_rfl) (by kernel_rfl)
/-- chandlery/rich.measure -/
def ic224 : IC :=
 (.seq
 (.reg 0 [oK 1 (.boxt 0), oM 2 (cI 0), oM 3 (cI 0), oM 4 (cB false)] [1, 3])
 (.seq
 (.seq
 (.reg 1 [oQ 10 (.faddr 0 1), oQ 11 (.load none 10), oQ 12 (.bin .eql 11 (.c (zU 1)))] [1, 3, 12])
 (.cond 12
 (.seq
 (.reg 2 [oQ 13 (.faddr 6 1), oQ 14 (.load none 13), oQ 15 (.len 0 14), oQ 16 (.bin .eql 15 (cI 0)), oM 17 16, gQ 18 17 true (.faddr 1 1), gQ 19 17 true (.load (some 5) 18), gK 20 17 true (.call 48 [19]), oQ 21 (.pick 17 20 (cB false)), oM 2 (cI 1), oM 3 (cI 0), oM 4 21] [2, 3, 4])
 .ret)
 .skip))
 (.seq
 (.dreg 3 [oQ 22 (.faddr 0 1), oQ 23 (.load none 22), oQ 24 (.bin .gtr 23 (.c (zU 1))), oM 25 24, gQ 26 25 true (.faddr 0 1), gQ 27 25 true (.load none 26), gQ 28 25 true (.bin .leq 27 (.c (zU 7))), oQ 29 (.pick 25 28 (cB false)), oM 30 29, gQ 31 30 true (.faddr 1 1), gQ 32 30 true (.load (some 5) 31), gQ 33 30 true (.bld [(.str []), (zU 0), (zI 0), (.str []), (.str [])] []), gQ 34 30 true (.eqs [2, 1, 1, 2, 2] true false 32 33), oQ 35 (.pick 30 34 (cB false)), oM 36 35, gQ 37 36 true (.faddr 6 1), gQ 38 36 true (.load none 37), gQ 39 36 true (.len 0 38), gQ 40 36 true (.bin .geq 39 (cI 2)), oQ 41 (.pick 36 40 (cB false)), oM 42 41, gQ 43 42 true (.faddr 6 1), gQ 44 42 true (.load none 43), gQ 45 42 true (.len 0 44), gQ 46 42 true (.faddr 0 1), gQ 47 42 true (.load none 46), gQ 48 42 true (.aaddr 8 2 (.g 2) 47), gQ 49 42 true (.faddr 1 48), gQ 50 42 true (.load none 49), gQ 51 42 true (.bin .leq 45 50), oQ 52 (.pick 42 51 (cB false)), oM 4 52] false [1, 3, 4])
 (.seq
 (.reg 4 [oM 2 (cI 1)] [1, 2, 3, 4])
 (.seq
 (.seq
 (.reg 5 [oQ 53 (.faddr 6 1), oQ 54 (.load none 53), oQ 55 (.len 0 54), oM 56 (cI 0)] [2, 3, 4, 54, 55, 56])
 (.block 0
 (.loop
 (.seq
 (.reg 6 [oQ 57 (.bin .lss 56 55)] [2, 3, 4, 54, 55, 56, 57])
 (.seq
 (.cond 57
 .skip
 (.exit 0))
 (.seq
 (.block 1
 (.seq
 (.reg 7 [oQ 58 (.iaddr 7 54 56), oQ 59 (.load (some 7) 58), oK 6 (.alloc [(zU 0), (.str []), (zU 0), (zI 0), (.str []), (.str []), .nilslice]), oN (.store 7 6 59)] [2, 3, 4, 6, 54, 55, 56])
 (.seq
 (.seq
 (.reg 8 [oM 60 4, oQ 61 (.not 60)] [2, 3, 4, 6, 54, 55, 56, 61])
 (.cond 61
 (.exit 0)
 .skip))
 (.seq
 (.reg 9 [oQ 63 (.load (some 7) 6), oK 64 (.call 224 [63]), oM 62 64, oQ 65 (.ext 0 62), oQ 66 (.ext 1 62), oQ 67 (.ext 2 62), oM 7 65, oM 8 66, oM 9 67] [2, 3, 7, 8, 9, 54, 55, 56])
 (.reg 10 [oM 68 2, oM 69 7, oQ 70 (.bin .add 68 69), oM 71 3, oM 72 8, oQ 73 (.mm true 71 72), oM 74 9, oM 2 70, oM 3 73, oM 4 74] [2, 3, 4, 54, 55, 56])))))
 (.reg 11 [oQ 75 (.bin .add 56 (cI 1)), oM 56 75] [2, 3, 4, 54, 55, 56])))))))
 (.seq
 (.reg 12 [oM 76 2, oM 77 3, oQ 78 (.bin .add 77 (cI 1)), oM 79 4, oM 2 76, oM 3 78, oM 4 79] [2, 3, 4])
 .ret))))))
theorem fok224 : FOK Tryz.prog 224 (80, ic224, [(.t 2), (.t 3), (.t 4)]) := fokA [1000001] Tryz.func224 (by kernel_rfl) (by kernel_rfl) (by kernel_rfl) (by kernel_rfl)
/-- (chandlery/truth.asked).atom -/
def ic225 : IC :=
 (.seq
 (.reg 0 [oK 2 (.boxt 0), oK 3 (.boxt 1), oM 4 (cB false)] [2, 3])
 (.seq
 (.dreg 1 [oQ 5 (.faddr 0 2), oQ 6 (.load none 5), oQ 7 (.nchk 6), oQ 8 (.faddr 0 7), oQ 9 (.load none 8), oQ 10 (.faddr 1 3), oQ 11 (.load (some 5) 10), oK 12 (.pcall 72 [9, 11]), oQ 13 (.mkf 258 [] [2]), oK 14 (.pcall 140 [12, 13]), oM 4 14] false [4])
 .ret))
theorem fok225 : FOK Tryz.prog 225 (15, ic225, [(.t 4)]) := fokA ([1000002, 1000003] ++ [72, 140]) Tryz.func225 (by kernel_rfl) (by kernel_rfl) (by kernel_rfl) (by kernel_rfl)
/-- (chandlery/truth.asked).and -/
def ic226 : IC :=
 (.seq
 (.reg 0 [oK 2 (.boxt 0), oK 3 (.boxt 1), oM 4 (cB false)] [2, 3])
 (.seq
 (.reg 1 [oQ 5 (.faddr 6 3), oQ 6 (.load none 5), oQ 7 (.mkf 259 [] [2]), oK 8 (.call 96 [6, 7]), oQ 9 (.not 8), oM 4 9] [4])
 .ret))
theorem fok226 : FOK Tryz.prog 226 (10, ic226, [(.t 4)]) := fokA [1000002, 1000003] Tryz.func226 (by kernel_rfl) (by kernel_rfl) (by kernel_rfl) (by kernel_rfl)
/-- (chandlery/truth.asked).or -/
def ic227 : IC :=
 (.seq
 (.reg 0 [oK 2 (.boxt 0), oK 3 (.boxt 1), oM 4 (cB false)] [2, 3])
 (.seq
 (.reg 1 [oQ 5 (.faddr 6 3), oQ 6 (.load none 5), oQ 7 (.load (some 2) 2), oQ 8 (.mkf 163 [7] []), oK 9 (.call 96 [6, 8]), oM 4 9] [4])
 .ret))
theorem fok227 : FOK Tryz.prog 227 (10, ic227, [(.t 4)]) := fokA [1000002, 1000003] Tryz.func227 (by kernel_rfl) (by kernel_rfl) (by kernel_rfl) (by kernel_rfl)
/-- (chandlery/truth.asked).iff -/
def ic228 : IC :=
 (.seq
 (.reg 0 [oK 2 (.boxt 0), oK 3 (.boxt 1), oM 4 (cB false)] [2, 3])
 (.seq
 (.seq
 (.dreg 1 [oQ 5 (.load (some 2) 2), oQ 6 (.faddr 6 3), oQ 7 (.load none 6), oQ 8 (.iaddr 7 7 (cI 1)), oQ 9 (.load (some 7) 8), oK 10 (.call 163 [5, 9])] false [2, 3, 10])
 (.cond 10
 (.seq
 (.dreg 2 [oQ 11 (.load (some 2) 2), oQ 12 (.faddr 6 3), oQ 13 (.load none 12), oQ 14 (.iaddr 7 13 (cI 0)), oQ 15 (.load (some 7) 14), oK 16 (.call 163 [11, 15]), oM 4 16] false [4])
 .ret)
 .skip))
 (.seq
 (.dreg 3 [oQ 17 (.faddr 6 3), oQ 18 (.load none 17), oQ 19 (.len 0 18), oQ 20 (.bin .lss 19 (cI 3)), oM 21 20, gQ 22 21 false (.load (some 2) 2), gQ 23 21 false (.faddr 6 3), gQ 24 21 false (.load none 23), gQ 25 21 false (.iaddr 7 24 (cI 2)), gQ 26 21 false (.load (some 7) 25), gK 27 21 false (.call 163 [22, 26]), oQ 28 (.pick 21 (cB true) 27), oM 4 28] false [4])
 .ret)))
theorem fok228 : FOK Tryz.prog 228 (29, ic228, [(.t 4)]) := fokA [1000002, 1000003] Tryz.func228 (by kernel_rfl) (by kernel_rfl) (by kernel_rfl) (by kernel_rfl)
/-- (chandlery/truth.asked).unless -/
def ic229 : IC :=
 (.seq
 (.reg 0 [oK 2 (.boxt 0), oK 3 (.boxt 1), oM 4 (cB false)] [2, 3])
 (.seq
 (.seq
 (.dreg 1 [oQ 5 (.load (some 2) 2), oQ 6 (.faddr 6 3), oQ 7 (.load none 6), oQ 8 (.iaddr 7 7 (cI 1)), oQ 9 (.load (some 7) 8), oK 10 (.call 163 [5, 9])] false [2, 3, 10])
 (.cond 10
 (.seq
 (.dreg 2 [oQ 11 (.faddr 6 3), oQ 12 (.load none 11), oQ 13 (.len 0 12), oQ 14 (.bin .eql 13 (cI 3)), oM 15 14, gQ 16 15 true (.load (some 2) 2), gQ 17 15 true (.faddr 6 3), gQ 18 15 true (.load none 17), gQ 19 15 true (.iaddr 7 18 (cI 2)), gQ 20 15 true (.load (some 7) 19), gK 21 15 true (.call 163 [16, 20]), oQ 22 (.pick 15 21 (cB false)), oM 4 22] false [4])
 .ret)
 .skip))
 (.seq
 (.dreg 3 [oQ 23 (.load (some 2) 2), oQ 24 (.faddr 6 3), oQ 25 (.load none 24), oQ 26 (.iaddr 7 25 (cI 0)), oQ 27 (.load (some 7) 26), oK 28 (.call 163 [23, 27]), oM 4 28] false [4])
 .ret)))
theorem fok229 : FOK Tryz.prog 229 (29, ic229, [(.t 4)]) := fokA [1000002, 1000003] Tryz.func229 (by kernel_rfl) (by kernel_rfl) (by kernel_rfl) (by kernel_rfl)
/-- (chandlery/truth.asked).with -/
def ic230 : IC :=
 (.seq
 (.reg 0 [oK 2 (.boxt 0), oK 3 (.boxt 1), oM 4 (cB false)] [2, 3])
 (.seq
 (.reg 1 [oQ 5 (.load (some 2) 2), oQ 6 (.mkf 261 [] [3]), oK 7 (.call 260 [5, 6]), oM 4 7] [4])
 .ret))
theorem fok230 : FOK Tryz.prog 230 (8, ic230, [(.t 4)]) := fokA [1000002, 1000003] Tryz.func230 (by kernel_rfl) (by kernel_rfl) (by kernel_rfl) (by kernel_rfl)
/-- (chandlery/truth.asked).without -/
def ic231 : IC :=
 (.seq
 (.reg 0 [oK 2 (.boxt 0), oK 3 (.boxt 1), oM 4 (cB false)] [2, 3])
 (.seq
 (.reg 1 [oQ 5 (.load (some 2) 2), oQ 6 (.mkf 262 [] [3]), oK 7 (.call 260 [5, 6]), oM 4 7] [4])
 .ret))
theorem fok231 : FOK Tryz.prog 231 (8, ic231, [(.t 4)]) := fokA [1000002, 1000003] Tryz.func231 (by kernel_rfl) (by kernel_rfl) (by kernel_rfl) (by kernel_rfl)
/-- internal/stringslite.IndexByte -/
def ic232 : IC :=
(.seq
 (.reg 0 [⟨(some 4), none, (.q (.mov (.c (.int .i64 0))))⟩] [0, 1])
 (.seq
  (.reg 1 [⟨(some 5), none, (.q (.mov (.t 0)))⟩, ⟨(some 6), none, (.q (.mov (.t 1)))⟩, ⟨(some 7), none, (.q (.ibs (.t 5) (.t 6)))⟩, ⟨(some 4), none, (.q (.mov (.t 7)))⟩] [4])
  .ret))
theorem fok232 : FOK Tryz.prog 232 (8, ic232, [(.t 4)]) := .mk (pf := []) (an := [(0, [0, 1]), (1, [4])]) (by kernel_rfl) (fnOK_of Tryz.func232 (by kernel_rfl) (by kernel_rfl) (by kernel_rfl))
/-- internal/stringslite.HasPrefix -/
def ic233 : IC :=
(.seq
 (.reg 0 [⟨(some 4), none, (.q (.mov (.c (.bool false))))⟩] [0, 1])
 (.seq
  (.reg 1 [⟨(some 5), none, (.q (.mov (.t 0)))⟩, ⟨(some 6), none, (.q (.len 1 (.t 5)))⟩, ⟨(some 7), none, (.q (.mov (.t 1)))⟩, ⟨(some 8), none, (.q (.len 1 (.t 7)))⟩, ⟨(some 9), none, (.q (.bin .geq (.t 6) (.t 8)))⟩, ⟨(some 10), none, (.q (.mov (.t 9)))⟩, ⟨(some 11), (some ⟨10, true⟩), (.q (.mov (.t 0)))⟩, ⟨(some 12), (some ⟨10, true⟩), (.q (.mov (.t 1)))⟩, ⟨(some 13), (some ⟨10, true⟩), (.q (.len 1 (.t 12)))⟩, ⟨(some 14), (some ⟨10, true⟩), (.q (.sstr (.t 11) none (some (.t 13))))⟩, ⟨(some 15), (some ⟨10, true⟩), (.q (.mov (.t 1)))⟩, ⟨(some 16), (some ⟨10, true⟩), (.q (.bin .eql (.t 14) (.t 15)))⟩, ⟨(some 17), none, (.q (.pick (.t 10) (.t 16) (.c (.bool false))))⟩, ⟨(some 4), none, (.q (.mov (.t 17)))⟩] [4])
  .ret))
theorem fok233 : FOK Tryz.prog 233 (18, ic233, [(.t 4)]) := .mk (pf := []) (an := [(0, [0, 1]), (1, [4])]) (by kernel_rfl) (fnOK_of Tryz.func233 (by kernel_rfl) (by kernel_rfl) (by kernel_rfl))
/-- chandlery/vercmp.parts -/
def ic234 : IC :=
 (.seq
 (.reg 0 [oK 1 (.boxt 0), oM 2 (.c .nilfunc)] [1])
 (.seq
 (.reg 1 [oQ 3 (.mkf 264 [] [1]), oM 2 3] [2])
 .ret))
theorem fok234 : FOK Tryz.prog 234 (4, ic234, [(.t 2)]) := fokA [1000001] Tryz.func234 (by kernel_rfl) (by kernel_rfl) (by kernel_rfl) (by kernel_rfl)
/-- cmp.Or[int] -/
def ic235 : IC :=
 (.seq
 (.reg 0 [oM 2 (cI 0)] [0])
 (.seq
 (.reg 1 [oM 3 (cI 0)] [0, 3])
 (.seq
 (.seq
 (.reg 2 [oM 6 0, oQ 7 (.len 0 6), oM 8 (cI 0)] [3, 6, 7, 8])
 (.block 0
 (.loop
 (.seq
 (.reg 3 [oQ 9 (.bin .lss 8 7)] [3, 6, 7, 8, 9])
 (.seq
 (.cond 9
 .skip
 (.exit 0))
 (.seq
 (.block 1
 (.seq
 (.reg 4 [oQ 10 (.iaddr 1 6 8), oQ 11 (.load none 10), oM 5 11] [3, 5, 6, 7, 8])
 (.seq
 (.reg 5 [oM 12 5, oM 13 3, oQ 14 (.bin .neq 12 13)] [3, 5, 6, 7, 8, 14])
 (.cond 14
 (.seq
 (.reg 6 [oM 15 5, oM 2 15] [2])
 .ret)
 .skip))))
 (.reg 7 [oQ 16 (.bin .add 8 (cI 1)), oM 8 16] [3, 6, 7, 8])))))))
 (.seq
 (.reg 8 [oM 17 3, oM 2 17] [2])
 .ret))))
theorem fok235 : FOK Tryz.prog 235 (18, ic235, [(.t 2)]) := fokA [] Tryz.func235 (by kernel_rfl) (by kernel_rfl) (by kernel_rfl) (by kernel_rfl)
/-- cmp.Compare[uint8] -/
def ic236 : IC :=
 (.seq
 (.reg 0 [oM 4 (cI 0)] [0, 1])
 (.seq
 (.reg 1 [oM 7 0, oK 8 (.call 267 [7]), oM 5 8] [0, 1, 5])
 (.seq
 (.reg 2 [oM 9 1, oK 10 (.call 267 [9]), oM 6 10] [0, 1, 5, 6])
 (.seq
 (.seq
 (.reg 3 [oM 11 5] [0, 1, 6, 11])
 (.cond 11
 (.seq
 (.seq
 (.reg 4 [oM 12 6] [12])
 (.cond 12
 (.seq
 (.reg 5 [oM 4 (cI 0)] [4])
 .ret)
 .skip))
 (.seq
 (.reg 6 [oM 4 (cI (-1))] [4])
 .ret))
 .skip))
 (.seq
 (.seq
 (.reg 7 [oM 13 6] [0, 1, 13])
 (.cond 13
 (.seq
 (.reg 8 [oM 4 (cI 1)] [4])
 .ret)
 .skip))
 (.seq
 (.seq
 (.reg 9 [oM 14 0, oM 15 1, oQ 16 (.bin .lss 14 15)] [0, 1, 16])
 (.cond 16
 (.seq
 (.reg 10 [oM 4 (cI (-1))] [4])
 .ret)
 .skip))
 (.seq
 (.seq
 (.reg 11 [oM 17 0, oM 18 1, oQ 19 (.bin .gtr 17 18)] [19])
 (.cond 19
 (.seq
 (.reg 12 [oM 4 (cI 1)] [4])
 .ret)
 .skip))
 (.seq
 (.reg 13 [oM 4 (cI 0)] [4])
 .ret))))))))
theorem fok236 : FOK Tryz.prog 236 (20, ic236, [(.t 4)]) := fokA [] Tryz.func236 (by kernel_rfl) (by kernel_rfl) (by kernel_rfl) (by kernel_rfl)
/-- cmp.Compare[string] -/
def ic237 : IC :=
 (.seq
 (.reg 0 [oM 4 (cI 0)] [0, 1])
 (.seq
 (.reg 1 [oM 7 0, oK 8 (.call 268 [7]), oM 5 8] [0, 1, 5])
 (.seq
 (.reg 2 [oM 9 1, oK 10 (.call 268 [9]), oM 6 10] [0, 1, 5, 6])
 (.seq
 (.seq
 (.reg 3 [oM 11 5] [0, 1, 6, 11])
 (.cond 11
 (.seq
 (.seq
 (.reg 4 [oM 12 6] [12])
 (.cond 12
 (.seq
 (.reg 5 [oM 4 (cI 0)] [4])
 .ret)
 .skip))
 (.seq
 (.reg 6 [oM 4 (cI (-1))] [4])
 .ret))
 .skip))
 (.seq
 (.seq
 (.reg 7 [oM 13 6] [0, 1, 13])
 (.cond 13
 (.seq
 (.reg 8 [oM 4 (cI 1)] [4])
 .ret)
 .skip))
 (.seq
 (.seq
 (.reg 9 [oM 14 0, oM 15 1, oQ 16 (.bin .lss 14 15)] [0, 1, 16])
 (.cond 16
 (.seq
 (.reg 10 [oM 4 (cI (-1))] [4])
 .ret)
 .skip))
 (.seq
 (.seq
 (.reg 11 [oM 17 0, oM 18 1, oQ 19 (.bin .gtr 17 18)] [19])
 (.cond 19
 (.seq
 (.reg 12 [oM 4 (cI 1)] [4])
 .ret)
 .skip))
 (.seq
 (.reg 13 [oM 4 (cI 0)] [4])
 .ret))))))))
theorem fok237 : FOK Tryz.prog 237 (20, ic237, [(.t 4)]) := fokA [] Tryz.func237 (by kernel_rfl) (by kernel_rfl) (by kernel_rfl) (by kernel_rfl)
/-- slices.siftDownOrdered[int] -/
def ic238 : IC :=
 (.seq
 (.reg 0 [oM 10 1, oM 8 10] [0, 2, 3, 8])
 (.block 0
 (.loop
 (.block 1
 (.seq
 (.reg 1 [oM 11 8, oQ 12 (.bin .mul (cI 2) 11), oQ 13 (.bin .add 12 (cI 1)), oM 9 13] [0, 2, 3, 8, 9])
 (.seq
 (.seq
 (.reg 2 [oM 14 9, oM 15 2, oQ 16 (.bin .geq 14 15)] [0, 2, 3, 8, 9, 16])
 (.cond 16
 (.exit 0)
 .skip))
 (.seq
 (.seq
 (.dreg 3 [oM 17 9, oQ 18 (.bin .add 17 (cI 1)), oM 19 2, oQ 20 (.bin .lss 18 19), oM 21 20, gQ 22 21 true (.mov 0), gQ 23 21 true (.mov 3), gQ 24 21 true (.mov 9), gQ 25 21 true (.bin .add 23 24), gQ 26 21 true (.iaddr 1 22 25), gQ 27 21 true (.load none 26), gQ 28 21 true (.mov 0), gQ 29 21 true (.mov 3), gQ 30 21 true (.mov 9), gQ 31 21 true (.bin .add 29 30), gQ 32 21 true (.bin .add 31 (cI 1)), gQ 33 21 true (.iaddr 1 28 32), gQ 34 21 true (.load none 33), gK 35 21 true (.call 196 [27, 34]), oQ 36 (.pick 21 35 (cB false))] false [0, 2, 3, 8, 9, 36])
 (.cond 36
 (.reg 4 [oM 37 9, oQ 38 (.bin .add 37 (cI 1)), oM 9 38] [0, 2, 3, 8, 9])
 .skip))
 (.seq
 (.seq
 (.dreg 5 [oM 39 0, oM 40 3, oM 41 8, oQ 42 (.bin .add 40 41), oQ 43 (.iaddr 1 39 42), oQ 44 (.load none 43), oM 45 0, oM 46 3, oM 47 9, oQ 48 (.bin .add 46 47), oQ 49 (.iaddr 1 45 48), oQ 50 (.load none 49), oK 51 (.call 196 [44, 50]), oQ 52 (.not 51)] false [0, 2, 3, 8, 9, 52])
 (.cond 52
 .ret
 .skip))
 (.seq
 (.dreg 6 [oM 53 0, oM 54 3, oM 55 8, oQ 56 (.bin .add 54 55), oM 57 0, oM 58 3, oM 59 9, oQ 60 (.bin .add 58 59), oM 61 0, oM 62 3, oM 63 9, oQ 64 (.bin .add 62 63), oQ 65 (.iaddr 1 61 64), oQ 66 (.load none 65), oM 67 0, oM 68 3, oM 69 8, oQ 70 (.bin .add 68 69), oQ 71 (.iaddr 1 67 70), oQ 72 (.load none 71), oQ 73 (.iaddr 1 53 56), oN (.store 1 73 66), oQ 74 (.iaddr 1 57 60), oN (.store 1 74 72)] false [0, 2, 3, 9])
 (.reg 7 [oM 75 9, oM 8 75] [0, 2, 3, 8]))))))))))
theorem fok238 : FOK Tryz.prog 238 (76, ic238, []) := fokA [] Tryz.func238 (by kernel_rfl) (by kernel_rfl) (by kernel_rfl) (by kernel_rfl)
/-- slices.nextPowerOfTwo -/
def ic239 : IC :=
 (.seq
 (.reg 0 [oM 2 (.c (.int .u64 0))] [0])
 (.seq
 (.reg 1 [oM 3 0, oQ 4 (.conv .u64 3), oK 5 (.call 134 [4]), oQ 6 (.bin .shl (.c (.int .u64 1)) 5), oM 2 6] [2])
 .ret))
theorem fok239 : FOK Tryz.prog 239 (7, ic239, [(.t 2)]) := fokA [] Tryz.func239 (by kernel_rfl) (by kernel_rfl) (by kernel_rfl) (by kernel_rfl)
/-- (*slices.xorshift).Next -/
def ic240 : IC :=
 (.seq
 (.reg 0 [oM 2 (.c (.int .u64 0))] [0])
 (.seq
 (.dreg 1 [oM 3 0, oQ 4 (.nchk 3), oQ 5 (.load none 4), oM 6 0, oQ 7 (.nchk 6), oQ 8 (.load none 7), oQ 9 (.bin .shl 8 (.c (.int .u64 13))), oQ 10 (.bin .xor 5 9), oQ 11 (.nchk 3), oN (.store 1 11 10)] false [0])
 (.seq
 (.dreg 2 [oM 12 0, oQ 13 (.nchk 12), oQ 14 (.load none 13), oM 15 0, oQ 16 (.nchk 15), oQ 17 (.load none 16), oQ 18 (.bin .shr 17 (.c (.int .u64 7))), oQ 19 (.bin .xor 14 18), oQ 20 (.nchk 12), oN (.store 1 20 19)] false [0])
 (.seq
 (.dreg 3 [oM 21 0, oQ 22 (.nchk 21), oQ 23 (.load none 22), oM 24 0, oQ 25 (.nchk 24), oQ 26 (.load none 25), oQ 27 (.bin .shl 26 (.c (.int .u64 17))), oQ 28 (.bin .xor 23 27), oQ 29 (.nchk 21), oN (.store 1 29 28)] false [0])
 (.seq
 (.reg 4 [oM 30 0, oQ 31 (.nchk 30), oQ 32 (.load none 31), oM 2 32] [2])
 .ret)))))
theorem fok240 : FOK Tryz.prog 240 (33, ic240, [(.t 2)]) := fokA [] Tryz.func240 (by kernel_rfl) (by kernel_rfl) (by kernel_rfl) (by kernel_rfl)
/-- slices.medianAdjacentOrdered[int] -/
def ic241 : IC :=
 (.seq
 (.reg 0 [oM 6 (cI 0)] [0, 1, 2])
 (.seq
 (.reg 1 [oM 7 0, oM 8 1, oQ 9 (.bin .sub 8 (cI 1)), oM 10 1, oM 11 1, oQ 12 (.bin .add 11 (cI 1)), oM 13 2, oK 14 (.call 242 [7, 9, 10, 12, 13]), oM 6 14] [6])
 .ret))
theorem fok241 : FOK Tryz.prog 241 (15, ic241, [(.t 6)]) := fokA [] Tryz.func241 (by kernel_rfl) (by kernel_rfl) (by kernel_rfl) (by kernel_rfl)
/-- slices.medianOrdered[int] -/
def ic242 : IC :=
 (.seq
 (.reg 0 [oM 10 (cI 0)] [0, 1, 2, 3, 4])
 (.seq
 (.reg 1 [oM 12 0, oM 13 1, oM 14 2, oM 15 4, oK 16 (.call 269 [12, 13, 14, 15]), oM 11 16, oQ 17 (.ext 0 11), oQ 18 (.ext 1 11), oM 1 17, oM 2 18] [0, 1, 2, 3, 4])
 (.seq
 (.reg 2 [oM 20 0, oM 21 2, oM 22 3, oM 23 4, oK 24 (.call 269 [20, 21, 22, 23]), oM 19 24, oQ 25 (.ext 0 19), oQ 26 (.ext 1 19), oM 2 25, oM 3 26] [0, 1, 2, 4])
 (.seq
 (.reg 3 [oM 28 0, oM 29 1, oM 30 2, oM 31 4, oK 32 (.call 269 [28, 29, 30, 31]), oM 27 32, oQ 33 (.ext 0 27), oQ 34 (.ext 1 27), oM 1 33, oM 2 34] [2])
 (.seq
 (.reg 4 [oM 35 2, oM 10 35] [10])
 .ret)))))
theorem fok242 : FOK Tryz.prog 242 (36, ic242, [(.t 10)]) := fokA [] Tryz.func242 (by kernel_rfl) (by kernel_rfl) (by kernel_rfl) (by kernel_rfl)
/-- chandlery/dep.Own -/
def ic243 : IC :=
 (.seq
 (.reg 0 [oK 3 (.boxt 1), oK 4 (.alloc [(.str []), (zU 0), (zI 0), (.str []), (.str [])])] [0, 3, 4])
 (.seq
 (.reg 1 [oM 5 0, oQ 6 (.load (some 3) 3), oQ 7 (.bld [(.str []), (zU 0), (zI 0), (.str []), (.str [])] [⟨0, ⟨1, 5⟩⟩, ⟨1, ⟨1, (.c (zU 2))⟩⟩, ⟨2, ⟨3, 6⟩⟩]), oN (.store 5 4 7)] [4])
 .ret))
theorem fok243 : FOK Tryz.prog 243 (8, ic243, [(.cell (some 5) 4)]) := fokA [1000003] Tryz.func243 (by kernel_rfl) (by kernel_rfl) (by kernel_rfl) (by kernel_rfl)
/-- chandlery/arch.names -/
def ic244 : IC :=
(.seq
 (.reg 0 [⟨(some 0), none, (.alloc [(.str []), (.str []), (.str []), (.str []), (.str [])])⟩] [0])
 (.seq
  (.reg 1 [⟨(some 1), none, (.q (.bld [(.str []), (.str []), (.str []), (.str []), (.str [])] [⟨1, ⟨1, (.c (.str [110, 111, 97, 114, 99, 104]))⟩⟩, ⟨2, ⟨1, (.c (.str [120, 56, 54, 95, 54, 52]))⟩⟩, ⟨3, ⟨1, (.c (.str [105, 54, 56, 54]))⟩⟩, ⟨4, ⟨1, (.c (.str [97, 97, 114, 99, 104, 54, 52]))⟩⟩]))⟩, ⟨none, none, (.store 5 (.t 0) (.t 1))⟩] [0])
  .ret))
theorem fok244 : FOK Tryz.prog 244 (2, ic244, [(.cell (some 5) 0)]) := .mk (pf := []) (an := [(0, [0]), (1, [0])]) (by kernel_rfl) (fnOK_of Tryz.func244 (by kernel_rfl) (by kernel_rfl) (by kernel_rfl))
/-- chandlery/pkg.every[chandlery/api.Dep]$1 -/
def ic245 : IC :=
(.seq
 (.reg 0 [⟨(some 2), none, (.boxt (.t 0))⟩, ⟨(some 3), none, (.q (.mov (.c (.bool false))))⟩] [1, 2])
 (.seq
  (.reg 1 [⟨(some 4), none, (.q (.load none (.t 1)))⟩, ⟨(some 5), none, (.q (.load (some 5) (.t 2)))⟩, ⟨(some 6), none, (.callv (.t 4) [(.t 5)])⟩, ⟨(some 7), none, (.q (.not (.t 6)))⟩, ⟨(some 3), none, (.q (.mov (.t 7)))⟩] [3])
  .ret))
theorem fok245 : FOK Tryz.prog 245 (8, ic245, [(.t 3)]) := .mk (pf := [1000002]) (an := [(0, [1, 2]), (1, [3])]) (by kernel_rfl) (fnOK_of Tryz.func245 (by kernel_rfl) (by kernel_rfl) (by kernel_rfl))
/-- slices.ContainsFunc[[]string,string] -/
def ic246 : IC :=
(.seq
 (.reg 0 [⟨(some 4), none, (.q (.mov (.c (.bool false))))⟩] [0, 1])
 (.seq
  (.reg 1 [⟨(some 5), none, (.q (.mov (.t 0)))⟩, ⟨(some 6), none, (.q (.mov (.t 1)))⟩, ⟨(some 7), none, (.call 270 [(.t 5), (.t 6)])⟩, ⟨(some 8), none, (.q (.bin .geq (.t 7) (.c (.int .i64 0))))⟩, ⟨(some 4), none, (.q (.mov (.t 8)))⟩] [4])
  .ret))
theorem fok246 : FOK Tryz.prog 246 (9, ic246, [(.t 4)]) := .mk (pf := []) (an := [(0, [0, 1]), (1, [4])]) (by kernel_rfl) (fnOK_of Tryz.func246 (by kernel_rfl) (by kernel_rfl) (by kernel_rfl))
/-- chandlery/pkg.every[string]$1 -/
def ic247 : IC :=
(.seq
 (.reg 0 [⟨(some 3), none, (.q (.mov (.c (.bool false))))⟩] [0, 1])
 (.seq
  (.reg 1 [⟨(some 4), none, (.q (.load none (.t 1)))⟩, ⟨(some 5), none, (.q (.mov (.t 0)))⟩, ⟨(some 6), none, (.callv (.t 4) [(.t 5)])⟩, ⟨(some 7), none, (.q (.not (.t 6)))⟩, ⟨(some 3), none, (.q (.mov (.t 7)))⟩] [3])
  .ret))
theorem fok247 : FOK Tryz.prog 247 (8, ic247, [(.t 3)]) := .mk (pf := []) (an := [(0, [0, 1]), (1, [3])]) (by kernel_rfl) (fnOK_of Tryz.func247 (by kernel_rfl) (by kernel_rfl) (by kernel_rfl))
/-- chandlery/pkg.lists$1 -/
def ic248 : IC :=
(.reg 0 [⟨(some 3), none, (.q (.mov (.t 0)))⟩, ⟨(some 4), none, (.q (.faddr 7 (.t 1)))⟩, ⟨(some 5), none, (.q (.load none (.t 4)))⟩, ⟨(some 6), none, (.callv (.t 3) [(.c (.int .u8 1)), (.t 5)])⟩, ⟨(some 7), none, (.q (.mov (.t 6)))⟩, ⟨(some 8), (some ⟨7, true⟩), (.q (.mov (.t 0)))⟩, ⟨(some 9), (some ⟨7, true⟩), (.q (.faddr 8 (.t 1)))⟩, ⟨(some 10), (some ⟨7, true⟩), (.q (.load none (.t 9)))⟩, ⟨(some 11), (some ⟨7, true⟩), (.callv (.t 8) [(.c (.int .u8 2)), (.t 10)])⟩, ⟨(some 12), none, (.q (.pick (.t 7) (.t 11) (.c (.bool false))))⟩, ⟨(some 13), none, (.q (.mov (.t 12)))⟩, ⟨(some 14), (some ⟨13, true⟩), (.q (.mov (.t 0)))⟩, ⟨(some 15), (some ⟨13, true⟩), (.q (.faddr 10 (.t 1)))⟩, ⟨(some 16), (some ⟨13, true⟩), (.q (.load none (.t 15)))⟩, ⟨(some 17), (some ⟨13, true⟩), (.callv (.t 14) [(.c (.int .u8 1)), (.t 16)])⟩, ⟨(some 18), none, (.q (.pick (.t 13) (.t 17) (.c (.bool false))))⟩, ⟨(some 19), none, (.q (.mov (.t 18)))⟩, ⟨(some 20), (some ⟨19, true⟩), (.q (.mov (.t 0)))⟩, ⟨(some 21), (some ⟨19, true⟩), (.q (.faddr 11 (.t 1)))⟩, ⟨(some 22), (some ⟨19, true⟩), (.q (.load none (.t 21)))⟩, ⟨(some 23), (some ⟨19, true⟩), (.callv (.t 20) [(.c (.int .u8 3)), (.t 22)])⟩, ⟨(some 24), none, (.q (.pick (.t 19) (.t 23) (.c (.bool false))))⟩, ⟨(some 25), none, (.q (.mov (.t 24)))⟩, ⟨(some 26), (some ⟨25, true⟩), (.q (.mov (.t 0)))⟩, ⟨(some 27), (some ⟨25, true⟩), (.q (.faddr 12 (.t 1)))⟩, ⟨(some 28), (some ⟨25, true⟩), (.q (.load none (.t 27)))⟩, ⟨(some 29), (some ⟨25, true⟩), (.callv (.t 26) [(.c (.int .u8 1)), (.t 28)])⟩, ⟨(some 30), none, (.q (.pick (.t 25) (.t 29) (.c (.bool false))))⟩, ⟨(some 31), none, (.q (.mov (.t 30)))⟩, ⟨(some 32), (some ⟨31, true⟩), (.q (.mov (.t 0)))⟩, ⟨(some 33), (some ⟨31, true⟩), (.q (.faddr 13 (.t 1)))⟩, ⟨(some 34), (some ⟨31, true⟩), (.q (.load none (.t 33)))⟩, ⟨(some 35), (some ⟨31, true⟩), (.callv (.t 32) [(.c (.int .u8 3)), (.t 34)])⟩, ⟨(some 36), none, (.q (.pick (.t 31) (.t 35) (.c (.bool false))))⟩] [])
theorem fok248 : FOK Tryz.prog 248 (37, ic248, []) := .mk (pf := []) (an := []) (by kernel_rfl) (fnOK_of Tryz.func248 (by kernel_rfl) (by kernel_rfl) (by kernel_rfl))
/-- chandlery/pkg.every[chandlery/api.Rich]$1 -/
def ic249 : IC :=
(.seq
 (.reg 0 [⟨(some 2), none, (.boxt (.t 0))⟩, ⟨(some 3), none, (.q (.mov (.c (.bool false))))⟩] [1, 2])
 (.seq
  (.reg 1 [⟨(some 4), none, (.q (.load none (.t 1)))⟩, ⟨(some 5), none, (.q (.load (some 7) (.t 2)))⟩, ⟨(some 6), none, (.callv (.t 4) [(.t 5)])⟩, ⟨(some 7), none, (.q (.not (.t 6)))⟩, ⟨(some 3), none, (.q (.mov (.t 7)))⟩] [3])
  .ret))
theorem fok249 : FOK Tryz.prog 249 (8, ic249, [(.t 3)]) := .mk (pf := [1000002]) (an := [(0, [1, 2]), (1, [3])]) (by kernel_rfl) (fnOK_of Tryz.func249 (by kernel_rfl) (by kernel_rfl) (by kernel_rfl))
/-- chandlery/shape.Count -/
def ic250 : IC :=
(.seq
 (.reg 0 [⟨(some 1), none, (.boxt (.t 0))⟩, ⟨(some 2), none, (.q (.mov (.c (.int .i64 0))))⟩] [1, 2])
 (.seq
  (.reg 1 [⟨(some 3), none, (.alloc [(.int .i64 0)])⟩, ⟨none, none, (.store 1 (.t 3) (.c (.int .i64 0)))⟩] [1, 2, 3])
  (.seq
   (.seq
    (.reg 2 [⟨(some 4), none, (.q (.load (some 7) (.t 1)))⟩, ⟨(some 5), none, (.call 155 [(.t 4)])⟩] [2, 3, 5])
    (.block 0
     (.rfunc (.t 5) [6, 7]
      .skip
      (.block 1
       (.reg 3 [⟨(some 8), none, (.q (.load none (.t 3)))⟩, ⟨(some 9), none, (.q (.bin .add (.t 8) (.c (.int .i64 1))))⟩, ⟨none, none, (.store 1 (.t 3) (.t 9))⟩] [])))))
   (.seq
    (.reg 4 [⟨(some 10), none, (.q (.load none (.t 3)))⟩, ⟨(some 2), none, (.q (.mov (.t 10)))⟩] [2])
    .ret))))
theorem fok250 : FOK Tryz.prog 250 (11, ic250, [(.t 2)]) := .mk (pf := [1000001]) (an := [(0, [1, 2]), (1, [1, 2, 3]), (2, [2, 3, 5]), (4, [2])]) (by kernel_rfl) (fnOK_of Tryz.func250 (by kernel_rfl) (by kernel_rfl) (by kernel_rfl))
/-- chandlery/shape.Depth -/
def ic251 : IC :=
(.seq
 (.reg 0 [⟨(some 1), none, (.boxt (.t 0))⟩, ⟨(some 2), none, (.q (.mov (.c (.int .i64 0))))⟩] [1])
 (.seq
  (.seq
   (.reg 1 [⟨(some 6), none, (.q (.faddr 0 (.t 1)))⟩, ⟨(some 7), none, (.q (.load none (.t 6)))⟩, ⟨(some 8), none, (.q (.bin .eql (.t 7) (.c (.int .u8 1))))⟩] [1, 8])
   (.cond (.t 8)
    (.seq
     (.reg 2 [⟨(some 2), none, (.q (.mov (.c (.int .i64 0))))⟩] [2])
     .ret)
    .skip))
  (.seq
   (.reg 3 [⟨(some 3), none, (.q (.mov (.c (.int .i64 0))))⟩] [1, 3])
   (.seq
    (.seq
     (.reg 4 [⟨(some 9), none, (.q (.faddr 6 (.t 1)))⟩, ⟨(some 10), none, (.q (.load none (.t 9)))⟩, ⟨(some 11), none, (.q (.len 0 (.t 10)))⟩, ⟨(some 12), none, (.q (.mov (.c (.int .i64 0))))⟩] [3, 10, 11, 12])
     (.block 0
      (.loop
       (.seq
        (.reg 5 [⟨(some 13), none, (.q (.bin .lss (.t 12) (.t 11)))⟩] [3, 10, 11, 12, 13])
        (.seq
         (.cond (.t 13)
          .skip
          (.exit 0))
         (.seq
          (.block 1
           (.seq
            (.reg 6 [⟨(some 14), none, (.q (.iaddr 7 (.t 10) (.t 12)))⟩, ⟨(some 15), none, (.q (.load (some 7) (.t 14)))⟩, ⟨(some 5), none, (.alloc [(.int .u8 0), (.str []), (.int .u8 0), (.int .i64 0), (.str []), (.str []), .nilslice])⟩, ⟨none, none, (.store 7 (.t 5) (.t 15))⟩] [3, 5, 10, 11, 12])
            (.reg 7 [⟨(some 16), none, (.q (.mov (.t 3)))⟩, ⟨(some 17), none, (.q (.load (some 7) (.t 5)))⟩, ⟨(some 18), none, (.call 251 [(.t 17)])⟩, ⟨(some 19), none, (.q (.mm true (.t 16) (.t 18)))⟩, ⟨(some 3), none, (.q (.mov (.t 19)))⟩] [3, 10, 11, 12])))
          (.reg 8 [⟨(some 20), none, (.q (.bin .add (.t 12) (.c (.int .i64 1))))⟩, ⟨(some 12), none, (.q (.mov (.t 20)))⟩] [3, 10, 11, 12])))))))
    (.seq
     (.reg 9 [⟨(some 21), none, (.q (.mov (.t 3)))⟩, ⟨(some 22), none, (.q (.bin .add (.t 21) (.c (.int .i64 1))))⟩, ⟨(some 2), none, (.q (.mov (.t 22)))⟩] [2])
     .ret)))))
theorem fok251 : FOK Tryz.prog 251 (23, ic251, [(.t 2)]) := .mk (pf := [1000001]) (an := [(0, [1]), (1, [1, 8]), (2, [2]), (3, [1, 3]), (4, [3, 10, 11, 12]), (5, [3, 10, 11, 12, 13]), (6, [3, 5, 10, 11, 12]), (7, [3, 10, 11, 12]), (8, [3, 10, 11, 12]), (9, [2])]) (by kernel_rfl) (fnOK_of Tryz.func251 (by kernel_rfl) (by kernel_rfl) (by kernel_rfl))
/-- chandlery/shape.of -/
def ic252 : IC :=
(.seq
 (.reg 0 [⟨(some 2), none, (.alloc [(.int .i64 0), (.int .i64 0), (.bool false), (.int .u8 0)])⟩] [0, 2])
 (.seq
  (.reg 1 [⟨(some 4), none, (.q (.bld [(.int .i64 0), (.int .i64 0), (.bool false), (.int .u8 0)] [⟨0, ⟨1, (.c (.int .i64 0))⟩⟩, ⟨1, ⟨1, (.c (.int .i64 0))⟩⟩, ⟨2, ⟨1, (.c (.bool true))⟩⟩, ⟨3, ⟨1, (.c (.int .u8 3))⟩⟩]))⟩, ⟨(some 5), none, (.q (.bld [(.int .i64 0), (.int .i64 0), (.bool false), (.int .u8 0)] [⟨0, ⟨1, (.c (.int .i64 2))⟩⟩, ⟨1, ⟨1, (.c (.int .i64 24))⟩⟩, ⟨2, ⟨1, (.c (.bool true))⟩⟩, ⟨3, ⟨1, (.c (.int .u8 3))⟩⟩]))⟩, ⟨(some 6), none, (.q (.bld [(.int .i64 0), (.int .i64 0), (.bool false), (.int .u8 0)] [⟨0, ⟨1, (.c (.int .i64 2))⟩⟩, ⟨1, ⟨1, (.c (.int .i64 24))⟩⟩, ⟨2, ⟨1, (.c (.bool true))⟩⟩, ⟨3, ⟨1, (.c (.int .u8 3))⟩⟩]))⟩, ⟨(some 7), none, (.q (.bld [(.int .i64 0), (.int .i64 0), (.bool false), (.int .u8 0)] [⟨0, ⟨1, (.c (.int .i64 2))⟩⟩, ⟨1, ⟨1, (.c (.int .i64 3))⟩⟩, ⟨2, ⟨1, (.c (.bool false))⟩⟩, ⟨3, ⟨1, (.c (.int .u8 1))⟩⟩]))⟩, ⟨(some 8), none, (.q (.bld [(.int .i64 0), (.int .i64 0), (.bool false), (.int .u8 0)] [⟨0, ⟨1, (.c (.int .i64 2))⟩⟩, ⟨1, ⟨1, (.c (.int .i64 3))⟩⟩, ⟨2, ⟨1, (.c (.bool false))⟩⟩, ⟨3, ⟨1, (.c (.int .u8 2))⟩⟩]))⟩, ⟨(some 9), none, (.q (.bld [(.int .i64 0), (.int .i64 0), (.bool false), (.int .u8 0)] [⟨0, ⟨1, (.c (.int .i64 2))⟩⟩, ⟨1, ⟨1, (.c (.int .i64 24))⟩⟩, ⟨2, ⟨1, (.c (.bool true))⟩⟩, ⟨3, ⟨1, (.c (.int .u8 3))⟩⟩]))⟩, ⟨(some 10), none, (.q (.bld [(.int .i64 0), (.int .i64 0), (.bool false), (.int .u8 0)] [⟨0, ⟨1, (.c (.int .i64 2))⟩⟩, ⟨1, ⟨1, (.c (.int .i64 2))⟩⟩, ⟨2, ⟨1, (.c (.bool true))⟩⟩, ⟨3, ⟨1, (.c (.int .u8 3))⟩⟩]))⟩, ⟨(some 11), none, (.q (.bld [(.int .i64 0), (.int .i64 0), (.bool false), (.int .u8 0), (.int .i64 0), (.int .i64 0), (.bool false), (.int .u8 0), (.int .i64 0), (.int .i64 0), (.bool false), (.int .u8 0), (.int .i64 0), (.int .i64 0), (.bool false), (.int .u8 0), (.int .i64 0), (.int .i64 0), (.bool false), (.int .u8 0), (.int .i64 0), (.int .i64 0), (.bool false), (.int .u8 0), (.int .i64 0), (.int .i64 0), (.bool false), (.int .u8 0), (.int .i64 0), (.int .i64 0), (.bool false), (.int .u8 0)] [⟨4, ⟨4, (.t 4)⟩⟩, ⟨8, ⟨4, (.t 5)⟩⟩, ⟨12, ⟨4, (.t 6)⟩⟩, ⟨16, ⟨4, (.t 7)⟩⟩, ⟨20, ⟨4, (.t 8)⟩⟩, ⟨24, ⟨4, (.t 9)⟩⟩, ⟨28, ⟨4, (.t 10)⟩⟩]))⟩, ⟨(some 3), none, (.alloc [(.int .i64 0), (.int .i64 0), (.bool false), (.int .u8 0), (.int .i64 0), (.int .i64 0), (.bool false), (.int .u8 0), (.int .i64 0), (.int .i64 0), (.bool false), (.int .u8 0), (.int .i64 0), (.int .i64 0), (.bool false), (.int .u8 0), (.int .i64 0), (.int .i64 0), (.bool false), (.int .u8 0), (.int .i64 0), (.int .i64 0), (.bool false), (.int .u8 0), (.int .i64 0), (.int .i64 0), (.bool false), (.int .u8 0), (.int .i64 0), (.int .i64 0), (.bool false), (.int .u8 0)])⟩, ⟨none, none, (.store 32 (.t 3) (.t 11))⟩] [0, 2, 3])
  (.seq
   (.seq
    (.reg 2 [⟨(some 12), none, (.q (.mov (.t 0)))⟩, ⟨(some 13), none, (.q (.conv .i64 (.t 12)))⟩, ⟨(some 14), none, (.q (.bin .geq (.t 13) (.c (.int .i64 8))))⟩] [0, 2, 3, 14])
    (.cond (.t 14)
     (.seq
      (.reg 3 [⟨(some 15), none, (.q (.bld [(.int .i64 0), (.int .i64 0), (.bool false), (.int .u8 0)] []))⟩, ⟨none, none, (.store 4 (.t 2) (.t 15))⟩] [2])
      .ret)
     .skip))
   (.seq
    (.reg 4 [⟨(some 16), none, (.q (.mov (.t 0)))⟩, ⟨(some 17), none, (.q (.aaddr 8 4 (.t 3) (.t 16)))⟩, ⟨(some 18), none, (.q (.load (some 4) (.t 17)))⟩, ⟨none, none, (.store 4 (.t 2) (.t 18))⟩] [2])
    .ret))))
theorem fok252 : FOK Tryz.prog 252 (19, ic252, [(.cell (some 4) 2)]) := .mk (pf := []) (an := [(0, [0, 2]), (1, [0, 2, 3]), (2, [0, 2, 3, 14]), (3, [2]), (4, [2])]) (by kernel_rfl) (fnOK_of Tryz.func252 (by kernel_rfl) (by kernel_rfl) (by kernel_rfl))
/-- slices.siftDownCmpFunc[int] -/
def ic253 : IC :=
 (.seq
 (.reg 0 [oM 12 1, oM 10 12] [0, 2, 3, 4, 10])
 (.block 0
 (.loop
 (.block 1
 (.seq
 (.reg 1 [oM 13 10, oQ 14 (.bin .mul (cI 2) 13), oQ 15 (.bin .add 14 (cI 1)), oM 11 15] [0, 2, 3, 4, 10, 11])
 (.seq
 (.seq
 (.reg 2 [oM 16 11, oM 17 2, oQ 18 (.bin .geq 16 17)] [0, 2, 3, 4, 10, 11, 18])
 (.cond 18
 (.exit 0)
 .skip))
 (.seq
 (.seq
 (.dreg 3 [oM 19 11, oQ 20 (.bin .add 19 (cI 1)), oM 21 2, oQ 22 (.bin .lss 20 21), oM 23 22, gQ 24 23 true (.mov 4), gQ 25 23 true (.mov 0), gQ 26 23 true (.mov 3), gQ 27 23 true (.mov 11), gQ 28 23 true (.bin .add 26 27), gQ 29 23 true (.iaddr 1 25 28), gQ 30 23 true (.load none 29), gQ 31 23 true (.mov 0), gQ 32 23 true (.mov 3), gQ 33 23 true (.mov 11), gQ 34 23 true (.bin .add 32 33), gQ 35 23 true (.bin .add 34 (cI 1)), gQ 36 23 true (.iaddr 1 31 35), gQ 37 23 true (.load none 36), gK 38 23 true (.callv 24 [30, 37]), gQ 39 23 true (.bin .lss 38 (cI 0)), oQ 40 (.pick 23 39 (cB false))] false [0, 2, 3, 4, 10, 11, 40])
 (.cond 40
 (.reg 4 [oM 41 11, oQ 42 (.bin .add 41 (cI 1)), oM 11 42] [0, 2, 3, 4, 10, 11])
 .skip))
 (.seq
 (.seq
 (.dreg 5 [oM 43 4, oM 44 0, oM 45 3, oM 46 10, oQ 47 (.bin .add 45 46), oQ 48 (.iaddr 1 44 47), oQ 49 (.load none 48), oM 50 0, oM 51 3, oM 52 11, oQ 53 (.bin .add 51 52), oQ 54 (.iaddr 1 50 53), oQ 55 (.load none 54), oK 56 (.callv 43 [49, 55]), oQ 57 (.bin .lss 56 (cI 0)), oQ 58 (.not 57)] false [0, 2, 3, 4, 10, 11, 58])
 (.cond 58
 .ret
 .skip))
 (.seq
 (.dreg 6 [oM 59 0, oM 60 3, oM 61 10, oQ 62 (.bin .add 60 61), oM 63 0, oM 64 3, oM 65 11, oQ 66 (.bin .add 64 65), oM 67 0, oM 68 3, oM 69 11, oQ 70 (.bin .add 68 69), oQ 71 (.iaddr 1 67 70), oQ 72 (.load none 71), oM 73 0, oM 74 3, oM 75 10, oQ 76 (.bin .add 74 75), oQ 77 (.iaddr 1 73 76), oQ 78 (.load none 77), oQ 79 (.iaddr 1 59 62), oN (.store 1 79 72), oQ 80 (.iaddr 1 63 66), oN (.store 1 80 78)] false [0, 2, 3, 4, 11])
 (.reg 7 [oM 81 11, oM 10 81] [0, 2, 3, 4, 10]))))))))))
theorem fok253 : FOK Tryz.prog 253 (82, ic253, []) := fokA [] Tryz.func253 (by kernel_rfl) (by kernel_rfl) (by kernel_rfl) (by kernel_rfl)
/-- slices.medianAdjacentCmpFunc[int] -/
def ic254 : IC :=
 (.seq
 (.reg 0 [oM 8 (cI 0)] [0, 1, 2, 3])
 (.seq
 (.reg 1 [oM 9 0, oM 10 1, oQ 11 (.bin .sub 10 (cI 1)), oM 12 1, oM 13 1, oQ 14 (.bin .add 13 (cI 1)), oM 15 2, oM 16 3, oK 17 (.call 255 [9, 11, 12, 14, 15, 16]), oM 8 17] [8])
 .ret))
theorem fok254 : FOK Tryz.prog 254 (18, ic254, [(.t 8)]) := fokA [] Tryz.func254 (by kernel_rfl) (by kernel_rfl) (by kernel_rfl) (by kernel_rfl)
/-- slices.medianCmpFunc[int] -/
def ic255 : IC :=
 (.seq
 (.reg 0 [oM 12 (cI 0)] [0, 1, 2, 3, 4, 5])
 (.seq
 (.reg 1 [oM 14 0, oM 15 1, oM 16 2, oM 17 4, oM 18 5, oK 19 (.call 271 [14, 15, 16, 17, 18]), oM 13 19, oQ 20 (.ext 0 13), oQ 21 (.ext 1 13), oM 1 20, oM 2 21] [0, 1, 2, 3, 4, 5])
 (.seq
 (.reg 2 [oM 23 0, oM 24 2, oM 25 3, oM 26 4, oM 27 5, oK 28 (.call 271 [23, 24, 25, 26, 27]), oM 22 28, oQ 29 (.ext 0 22), oQ 30 (.ext 1 22), oM 2 29, oM 3 30] [0, 1, 2, 4, 5])
 (.seq
 (.reg 3 [oM 32 0, oM 33 1, oM 34 2, oM 35 4, oM 36 5, oK 37 (.call 271 [32, 33, 34, 35, 36]), oM 31 37, oQ 38 (.ext 0 31), oQ 39 (.ext 1 31), oM 1 38, oM 2 39] [2])
 (.seq
 (.reg 4 [oM 40 2, oM 12 40] [12])
 .ret)))))
theorem fok255 : FOK Tryz.prog 255 (41, ic255, [(.t 12)]) := fokA [] Tryz.func255 (by kernel_rfl) (by kernel_rfl) (by kernel_rfl) (by kernel_rfl)
/-- chandlery/span.side -/
def ic257 : IC :=
 (.seq
 (.reg 0 [oM 2 (.c (zU 0))] [0])
 (.seq
 (.reg 1 [oQ 3 (.bld [(zU 0), (zU 0), (zU 0)] [⟨0, ⟨1, (.c (zU 1))⟩⟩, ⟨1, ⟨1, (.c (zU 2))⟩⟩, ⟨2, ⟨1, (.c (zU 4))⟩⟩]), oM 4 0, oQ 5 (.bin .add 4 (cI 1)), oQ 6 (.idx none 3 1 3 5), oM 2 6] [2])
 .ret))
theorem fok257 : FOK Tryz.prog 257 (7, ic257, [(.t 2)]) := fokA [] Tryz.func257 (by kernel_rfl) (by kernel_rfl) (by kernel_rfl) (by kernel_rfl)
/-- (chandlery/truth.asked).atom$1 -/
def ic258 : IC :=
 (.seq
 (.reg 0 [oM 3 (cB false)] [0, 1])
 (.seq
 (.reg 1 [oQ 4 (.faddr 1 1), oQ 5 (.load none 4), oM 6 0, oQ 7 (.iaddr 1 5 6), oQ 8 (.load none 7), oM 3 8] [3])
 .ret))
theorem fok258 : FOK Tryz.prog 258 (9, ic258, [(.t 3)]) := fokA [] Tryz.func258 (by kernel_rfl) (by kernel_rfl) (by kernel_rfl) (by kernel_rfl)
/-- (chandlery/truth.asked).and$1 -/
def ic259 : IC :=
 (.seq
 (.reg 0 [oK 2 (.boxt 0), oM 3 (cB false)] [1, 2])
 (.seq
 (.reg 1 [oQ 4 (.load (some 2) 1), oQ 5 (.load (some 7) 2), oK 6 (.call 163 [4, 5]), oQ 7 (.not 6), oM 3 7] [3])
 .ret))
theorem fok259 : FOK Tryz.prog 259 (8, ic259, [(.t 3)]) := fokA [1000002] Tryz.func259 (by kernel_rfl) (by kernel_rfl) (by kernel_rfl) (by kernel_rfl)
/-- (chandlery/truth.asked).one -/
def ic260 : IC :=
 (.seq
 (.reg 0 [oK 2 (.boxt 0), oM 4 (cB false)] [1, 2])
 (.seq
 (.seq
 (.reg 1 [oQ 7 (.faddr 1 2), oQ 8 (.load none 7), oQ 9 (.len 0 8), oM 10 (cI 0)] [1, 2, 8, 9, 10])
 (.block 0
 (.loop
 (.seq
 (.reg 2 [oQ 11 (.bin .lss 10 9)] [1, 2, 8, 9, 10, 11])
 (.seq
 (.cond 11
 .skip
 (.exit 0))
 (.seq
 (.block 1
 (.seq
 (.reg 3 [oM 12 10, oQ 13 (.iaddr 1 8 10), oQ 14 (.load none 13), oM 5 12, oM 6 14] [1, 2, 5, 6, 8, 9, 10])
 (.seq
 (.reg 4 [oM 15 6, oM 16 15, gQ 17 16 true (.mov 1), gQ 18 16 true (.faddr 0 2), gQ 19 16 true (.load none 18), gQ 20 16 true (.mov 5), gK 21 16 true (.bsl 1 1 [(zI 0)] [⟨0, ⟨1, 20⟩⟩]), gK 22 16 true (.call 162 [19, 21]), gK 23 16 true (.callv 17 [22]), oQ 24 (.pick 16 23 (cB false))] [1, 2, 8, 9, 10, 24])
 (.cond 24
 (.seq
 (.reg 5 [oM 4 (cB true)] [4])
 .ret)
 .skip))))
 (.reg 6 [oQ 25 (.bin .add 10 (cI 1)), oM 10 25] [1, 2, 8, 9, 10])))))))
 (.seq
 (.reg 7 [oM 4 (cB false)] [4])
 .ret)))
theorem fok260 : FOK Tryz.prog 260 (26, ic260, [(.t 4)]) := fokA [1000002] Tryz.func260 (by kernel_rfl) (by kernel_rfl) (by kernel_rfl) (by kernel_rfl)
/-- (chandlery/truth.asked).with$1 -/
def ic261 : IC :=
 (.seq
 (.reg 0 [oK 2 (.boxt 0), oM 3 (cB false)] [1, 2])
 (.seq
 (.reg 1 [oQ 4 (.load (some 2) 2), oQ 5 (.load (some 7) 1), oK 6 (.call 226 [4, 5]), oM 3 6] [3])
 .ret))
theorem fok261 : FOK Tryz.prog 261 (7, ic261, [(.t 3)]) := fokA [1000002] Tryz.func261 (by kernel_rfl) (by kernel_rfl) (by kernel_rfl) (by kernel_rfl)
/-- (chandlery/truth.asked).without$1 -/
def ic262 : IC :=
 (.seq
 (.reg 0 [oK 2 (.boxt 0), oM 3 (cB false)] [1, 2])
 (.seq
 (.dreg 1 [oQ 4 (.load (some 2) 2), oQ 5 (.faddr 6 1), oQ 6 (.load none 5), oQ 7 (.iaddr 7 6 (cI 0)), oQ 8 (.load (some 7) 7), oK 9 (.call 163 [4, 8]), oM 10 9, gQ 11 10 true (.load (some 2) 2), gQ 12 10 true (.faddr 6 1), gQ 13 10 true (.load none 12), gQ 14 10 true (.iaddr 7 13 (cI 1)), gQ 15 10 true (.load (some 7) 14), gK 16 10 true (.call 163 [11, 15]), gQ 17 10 true (.not 16), oQ 18 (.pick 10 17 (cB false)), oM 3 18] false [3])
 .ret))
theorem fok262 : FOK Tryz.prog 262 (19, ic262, [(.t 3)]) := fokA [1000002] Tryz.func262 (by kernel_rfl) (by kernel_rfl) (by kernel_rfl) (by kernel_rfl)
/-- chandlery/vercmp.parts$1 -/
def ic264 : IC :=
 (.seq
 (.reg 0 [oM 3 (cI 0)] [0, 1, 3])
 (.block 0
 (.loop
 (.seq
 (.seq
 (.reg 1 [oM 6 3, oQ 7 (.load none 1), oQ 8 (.len 1 7), oQ 9 (.bin .lss 6 8)] [0, 1, 3, 9])
 (.cond 9
 .skip
 (.exit 0)))
 (.block 1
 (.seq
 (.reg 2 [oQ 10 (.load none 1), oM 11 3, oQ 12 (.istr 10 11), oK 13 (.pcall 265 [12]), oQ 14 (.bld [(zU 0), (.str [])] [⟨0, ⟨1, 13⟩⟩]), oK 4 (.alloc [(zU 0), (.str [])]), oN (.store 2 4 14)] [0, 1, 3, 4])
 (.seq
 (.reg 3 [oM 15 3, oM 5 15] [0, 1, 3, 4, 5])
 (.seq
 (.seq
 (.reg 4 [oM 16 3, oQ 17 (.bin .add 16 (cI 1)), oM 3 17] [0, 1, 3, 4, 5])
 (.block 2
 (.loop
 (.seq
 (.seq
 (.dreg 5 [oQ 18 (.faddr 0 4), oQ 19 (.load none 18), oQ 20 (.bin .geq 19 (.c (zU 4))), oM 21 20, gQ 22 21 true (.mov 3), gQ 23 21 true (.load none 1), gQ 24 21 true (.len 1 23), gQ 25 21 true (.bin .lss 22 24), oQ 26 (.pick 21 25 (cB false)), oM 27 26, gQ 28 27 true (.load none 1), gQ 29 27 true (.mov 3), gQ 30 27 true (.istr 28 29), gK 31 27 true (.pcall 265 [30]), gQ 32 27 true (.faddr 0 4), gQ 33 27 true (.load none 32), gQ 34 27 true (.bin .eql 31 33), oQ 35 (.pick 27 34 (cB false))] false [0, 1, 3, 4, 5, 35])
 (.cond 35
 .skip
 (.exit 2)))
 (.seq
 (.block 3
 .skip)
 (.reg 6 [oM 36 3, oQ 37 (.bin .add 36 (cI 1)), oM 3 37] [0, 1, 3, 4, 5]))))))
 (.seq
 (.seq
 (.reg 7 [oQ 38 (.faddr 0 4), oQ 39 (.load none 38), oQ 40 (.bin .geq 39 (.c (zU 4)))] [0, 1, 3, 4, 5, 40])
 (.cond 40
 (.reg 8 [oQ 41 (.load none 1), oM 42 5, oM 43 3, oQ 44 (.sstr 41 (some 42) (some 43)), oQ 45 (.faddr 1 4), oN (.store 1 45 44)] [0, 1, 3, 4])
 .skip))
 (.seq
 (.seq
 (.reg 9 [oQ 46 (.faddr 0 4), oQ 47 (.load none 46), oQ 48 (.bin .eql 47 (.c (zU 5)))] [0, 1, 3, 4, 48])
 (.cond 48
 (.reg 10 [oQ 49 (.faddr 1 4), oQ 50 (.load none 49), oK 51 (.call 266 [50, (.c (.str [48]))]), oQ 52 (.faddr 1 4), oN (.store 1 52 51)] [0, 1, 3, 4])
 .skip))
 (.seq
 (.reg 11 [oQ 53 (.faddr 0 4), oQ 54 (.load none 53), oQ 55 (.bin .neq 54 (.c (zU 0))), oM 56 55, gQ 57 56 true (.mov 0), gQ 58 56 true (.load (some 2) 4), gK 59 56 true (.callv 57 [58]), gQ 60 56 true (.not 59), oQ 61 (.pick 56 60 (cB false))] [0, 1, 3, 61])
 (.cond 61
 .ret
 .skip))))))))))))
theorem fok264 : FOK Tryz.prog 264 (62, ic264, []) := fokA ([] ++ [265]) Tryz.func264 (by kernel_rfl) (by kernel_rfl) (by kernel_rfl) (by kernel_rfl)
/-- chandlery/vercmp.kind -/
def ic265 : IC :=
 (.seq
 (.reg 0 [oM 2 (.c (zU 0))] [0])
 (.seq
 (.block 0
 (.seq
 (.reg 1 [oM 4 0, oQ 5 (.bin .eql 4 (.c (zU 126))), oM 3 5] [0, 3])
 (.cond 3
 (.seq
 (.reg 2 [oM 2 (.c (zU 1))] [2])
 .ret)
 (.seq
 (.reg 3 [oM 7 0, oQ 8 (.bin .eql 7 (.c (zU 94))), oM 6 8] [0, 6])
 (.cond 6
 (.seq
 (.reg 4 [oM 2 (.c (zU 3))] [2])
 .ret)
 (.seq
 (.reg 5 [oM 10 0, oQ 11 (.bin .geq 10 (.c (zU 97))), oM 12 11, gQ 13 12 true (.mov 0), gQ 14 12 true (.bin .leq 13 (.c (zU 122))), oQ 15 (.pick 12 14 (cB false)), oM 16 15, gQ 17 16 false (.mov 0), gQ 18 16 false (.bin .geq 17 (.c (zU 65))), gQ 19 16 false (.mov 18), gQ 20 19 true (.mov 0), gQ 21 19 true (.bin .leq 20 (.c (zU 90))), gQ 22 16 false (.pick 19 21 (cB false)), oQ 23 (.pick 16 (cB true) 22), oM 9 23] [0, 9])
 (.cond 9
 (.seq
 (.reg 6 [oM 2 (.c (zU 4))] [2])
 .ret)
 (.seq
 (.reg 7 [oM 25 0, oQ 26 (.bin .geq 25 (.c (zU 48))), oM 27 26, gQ 28 27 true (.mov 0), gQ 29 27 true (.bin .leq 28 (.c (zU 57))), oQ 30 (.pick 27 29 (cB false)), oM 24 30] [24])
 (.cond 24
 (.seq
 (.reg 8 [oM 2 (.c (zU 5))] [2])
 .ret)
 .skip)))))))))
 (.seq
 (.reg 9 [oM 2 (.c (zU 0))] [2])
 .ret)))
theorem fok265 : FOK Tryz.prog 265 (31, ic265, [(.t 2)]) := fokA [] Tryz.func265 (by kernel_rfl) (by kernel_rfl) (by kernel_rfl) (by kernel_rfl)
/-- strings.TrimLeft -/
def ic266 : IC :=
 (.seq
 (.reg 0 [oM 4 (.c (.str []))] [0, 1])
 (.seq
 (.seq
 (.reg 1 [oM 7 0, oQ 8 (.bin .eql 7 (.c (.str []))), oM 9 8, gQ 10 9 false (.mov 1), gQ 11 9 false (.bin .eql 10 (.c (.str []))), oQ 12 (.pick 9 (cB true) 11)] [0, 1, 12])
 (.cond 12
 (.seq
 (.reg 2 [oM 13 0, oM 4 13] [4])
 .ret)
 .skip))
 (.seq
 (.seq
 (.reg 3 [oM 14 1, oQ 15 (.len 1 14), oQ 16 (.bin .eql 15 (cI 1)), oM 17 16, gQ 18 17 true (.mov 1), gQ 19 17 true (.istr 18 (cI 0)), gQ 20 17 true (.bin .lss 19 (.c (zU 128))), oQ 21 (.pick 17 20 (cB false))] [0, 1, 21])
 (.cond 21
 (.seq
 (.reg 4 [oM 22 0, oM 23 1, oQ 24 (.istr 23 (cI 0)), oK 25 (.call 272 [22, 24]), oM 4 25] [4])
 .ret)
 .skip))
 (.seq
 (.seq
 (.reg 5 [oM 27 1, oK 28 (.call 273 [27]), oM 26 28, oQ 29 (.ext 0 26), oQ 30 (.ext 1 26), oK 5 (.alloc [(.bool false), (.bool false), (.bool false), (.bool false), (.bool false), (.bool false), (.bool false), (.bool false), (.bool false), (.bool false), (.bool false), (.bool false), (.bool false), (.bool false), (.bool false), (.bool false), (.bool false), (.bool false), (.bool false), (.bool false), (.bool false), (.bool false), (.bool false), (.bool false), (.bool false), (.bool false), (.bool false), (.bool false), (.bool false), (.bool false), (.bool false), (.bool false), (.bool false), (.bool false), (.bool false), (.bool false), (.bool false), (.bool false), (.bool false), (.bool false), (.bool false), (.bool false), (.bool false), (.bool false), (.bool false), (.bool false), (.bool false), (.bool false), (.bool false), (.bool false), (.bool false), (.bool false), (.bool false), (.bool false), (.bool false), (.bool false), (.bool false), (.bool false), (.bool false), (.bool false), (.bool false), (.bool false), (.bool false), (.bool false), (.bool false), (.bool false), (.bool false), (.bool false), (.bool false), (.bool false), (.bool false), (.bool false), (.bool false), (.bool false), (.bool false), (.bool false), (.bool false), (.bool false), (.bool false), (.bool false), (.bool false), (.bool false), (.bool false), (.bool false), (.bool false), (.bool false), (.bool false), (.bool false), (.bool false), (.bool false), (.bool false), (.bool false), (.bool false), (.bool false), (.bool false), (.bool false), (.bool false), (.bool false), (.bool false), (.bool false), (.bool false), (.bool false), (.bool false), (.bool false), (.bool false), (.bool false), (.bool false), (.bool false), (.bool false), (.bool false), (.bool false), (.bool false), (.bool false), (.bool false), (.bool false), (.bool false), (.bool false), (.bool false), (.bool false), (.bool false), (.bool false), (.bool false), (.bool false), (.bool false), (.bool false), (.bool false), (.bool false), (.bool false), (.bool false), (.bool false), (.bool false), (.bool false), (.bool false), (.bool false), (.bool false), (.bool false), (.bool false), (.bool false), (.bool false), (.bool false), (.bool false), (.bool false), (.bool false), (.bool false), (.bool false), (.bool false), (.bool false), (.bool false), (.bool false), (.bool false), (.bool false), (.bool false), (.bool false), (.bool false), (.bool false), (.bool false), (.bool false), (.bool false), (.bool false), (.bool false), (.bool false), (.bool false), (.bool false), (.bool false), (.bool false), (.bool false), (.bool false), (.bool false), (.bool false), (.bool false), (.bool false), (.bool false), (.bool false), (.bool false), (.bool false), (.bool false), (.bool false), (.bool false), (.bool false), (.bool false), (.bool false), (.bool false), (.bool false), (.bool false), (.bool false), (.bool false), (.bool false), (.bool false), (.bool false), (.bool false), (.bool false), (.bool false), (.bool false), (.bool false), (.bool false), (.bool false), (.bool false), (.bool false), (.bool false), (.bool false), (.bool false), (.bool false), (.bool false), (.bool false), (.bool false), (.bool false), (.bool false), (.bool false), (.bool false), (.bool false), (.bool false), (.bool false), (.bool false), (.bool false), (.bool false), (.bool false), (.bool false), (.bool false), (.bool false), (.bool false), (.bool false), (.bool false), (.bool false), (.bool false), (.bool false), (.bool false), (.bool false), (.bool false), (.bool false), (.bool false), (.bool false), (.bool false), (.bool false), (.bool false), (.bool false), (.bool false), (.bool false), (.bool false), (.bool false), (.bool false), (.bool false), (.bool false), (.bool false), (.bool false), (.bool false), (.bool false), (.bool false), (.bool false), (.bool false), (.bool false), (.bool false), (.bool false), (.bool false), (.bool false), (.bool false), (.bool false)]), oN (.store 256 5 29), oM 6 30] [0, 1, 5, 6])
 (.seq
 (.reg 6 [oM 31 6] [0, 1, 5, 31])
 (.cond 31
 (.seq
 (.reg 7 [oM 32 0, oK 33 (.call 274 [32, 5]), oM 4 33] [4])
 .ret)
 .skip)))
 (.seq
 (.reg 8 [oM 34 0, oM 35 1, oK 36 (.call 275 [34, 35]), oM 4 36] [4])
 .ret)))))
theorem fok266 : FOK Tryz.prog 266 (37, ic266, [(.t 4)]) := fokA [] Tryz.func266 (by kernel_rfl) (by kernel_rfl) (by kernel_rfl) (by kernel_rfl)
/-- cmp.isNaN[uint8] -/
def ic267 : IC :=
 (.seq
 (.reg 0 [oM 2 (cB false)] [0])
 (.seq
 (.reg 1 [oM 3 0, oM 4 0, oQ 5 (.bin .neq 3 4), oM 2 5] [2])
 .ret))
theorem fok267 : FOK Tryz.prog 267 (6, ic267, [(.t 2)]) := fokA [] Tryz.func267 (by kernel_rfl) (by kernel_rfl) (by kernel_rfl) (by kernel_rfl)
/-- cmp.isNaN[string] -/
def ic268 : IC :=
 (.seq
 (.reg 0 [oM 2 (cB false)] [0])
 (.seq
 (.reg 1 [oM 3 0, oM 4 0, oQ 5 (.bin .neq 3 4), oM 2 5] [2])
 .ret))
theorem fok268 : FOK Tryz.prog 268 (6, ic268, [(.t 2)]) := fokA [] Tryz.func268 (by kernel_rfl) (by kernel_rfl) (by kernel_rfl) (by kernel_rfl)
/-- slices.order2Ordered[int] -/
def ic269 : IC :=
 (.seq
 (.reg 0 [oM 8 (cI 0), oM 9 (cI 0)] [0, 1, 2, 3])
 (.seq
 (.seq
 (.dreg 1 [oM 10 0, oM 11 2, oQ 12 (.iaddr 1 10 11), oQ 13 (.load none 12), oM 14 0, oM 15 1, oQ 16 (.iaddr 1 14 15), oQ 17 (.load none 16), oK 18 (.call 196 [13, 17])] false [1, 2, 3, 18])
 (.cond 18
 (.seq
 (.reg 2 [oM 19 3, oQ 20 (.nchk 19), oQ 21 (.load none 20), oQ 22 (.bin .add 21 (cI 1)), oQ 23 (.nchk 19), oN (.store 1 23 22)] [1, 2])
 (.seq
 (.reg 3 [oM 24 2, oM 25 1, oM 8 24, oM 9 25] [8, 9])
 .ret))
 .skip))
 (.seq
 (.reg 4 [oM 26 1, oM 27 2, oM 8 26, oM 9 27] [8, 9])
 .ret)))
theorem fok269 : FOK Tryz.prog 269 (28, ic269, [(.t 8), (.t 9)]) := fokA [] Tryz.func269 (by kernel_rfl) (by kernel_rfl) (by kernel_rfl) (by kernel_rfl)
/-- slices.IndexFunc[[]string,string] -/
def ic270 : IC :=
(.seq
 (.reg 0 [⟨(some 4), none, (.q (.mov (.c (.int .i64 0))))⟩] [0, 1])
 (.seq
  (.seq
   (.reg 1 [⟨(some 6), none, (.q (.mov (.t 0)))⟩, ⟨(some 7), none, (.q (.len 0 (.t 6)))⟩, ⟨(some 8), none, (.q (.mov (.c (.int .i64 0))))⟩] [0, 1, 7, 8])
   (.block 0
    (.loop
     (.seq
      (.reg 2 [⟨(some 9), none, (.q (.bin .lss (.t 8) (.t 7)))⟩] [0, 1, 7, 8, 9])
      (.seq
       (.cond (.t 9)
        .skip
        (.exit 0))
       (.seq
        (.block 1
         (.seq
          (.reg 3 [⟨(some 10), none, (.q (.mov (.t 8)))⟩, ⟨(some 5), none, (.q (.mov (.t 10)))⟩] [0, 1, 5, 7, 8])
          (.seq
           (.reg 4 [⟨(some 11), none, (.q (.mov (.t 1)))⟩, ⟨(some 12), none, (.q (.mov (.t 0)))⟩, ⟨(some 13), none, (.q (.mov (.t 5)))⟩, ⟨(some 14), none, (.q (.iaddr 1 (.t 12) (.t 13)))⟩, ⟨(some 15), none, (.q (.load none (.t 14)))⟩, ⟨(some 16), none, (.callv (.t 11) [(.t 15)])⟩] [0, 1, 5, 7, 8, 16])
           (.cond (.t 16)
            (.seq
            (.reg 5 [⟨(some 17), none, (.q (.mov (.t 5)))⟩, ⟨(some 4), none, (.q (.mov (.t 17)))⟩] [4])
            .ret)
            .skip))))
        (.reg 6 [⟨(some 18), none, (.q (.bin .add (.t 8) (.c (.int .i64 1))))⟩, ⟨(some 8), none, (.q (.mov (.t 18)))⟩] [0, 1, 7, 8])))))))
  (.seq
   (.reg 7 [⟨(some 4), none, (.q (.mov (.c (.int .i64 (-1)))))⟩] [4])
   .ret)))
theorem fok270 : FOK Tryz.prog 270 (19, ic270, [(.t 4)]) := .mk (pf := []) (an := [(0, [0, 1]), (1, [0, 1, 7, 8]), (2, [0, 1, 7, 8, 9]), (3, [0, 1, 5, 7, 8]), (4, [0, 1, 5, 7, 8, 16]), (5, [4]), (6, [0, 1, 7, 8]), (7, [4])]) (by kernel_rfl) (fnOK_of Tryz.func270 (by kernel_rfl) (by kernel_rfl) (by kernel_rfl))
/-- slices.order2CmpFunc[int] -/
def ic271 : IC :=
 (.seq
 (.reg 0 [oM 10 (cI 0), oM 11 (cI 0)] [0, 1, 2, 3, 4])
 (.seq
 (.seq
 (.dreg 1 [oM 12 4, oM 13 0, oM 14 2, oQ 15 (.iaddr 1 13 14), oQ 16 (.load none 15), oM 17 0, oM 18 1, oQ 19 (.iaddr 1 17 18), oQ 20 (.load none 19), oK 21 (.callv 12 [16, 20]), oQ 22 (.bin .lss 21 (cI 0))] false [1, 2, 3, 22])
 (.cond 22
 (.seq
 (.reg 2 [oM 23 3, oQ 24 (.nchk 23), oQ 25 (.load none 24), oQ 26 (.bin .add 25 (cI 1)), oQ 27 (.nchk 23), oN (.store 1 27 26)] [1, 2])
 (.seq
 (.reg 3 [oM 28 2, oM 29 1, oM 10 28, oM 11 29] [10, 11])
 .ret))
 .skip))
 (.seq
 (.reg 4 [oM 30 1, oM 31 2, oM 10 30, oM 11 31] [10, 11])
 .ret)))
theorem fok271 : FOK Tryz.prog 271 (32, ic271, [(.t 10), (.t 11)]) := fokA [] Tryz.func271 (by kernel_rfl) (by kernel_rfl) (by kernel_rfl) (by kernel_rfl)
/-- strings.trimLeftByte -/
def ic272 : IC :=
 (.seq
 (.reg 0 [oM 4 (.c (.str []))] [0, 1])
 (.seq
 (.block 0
 (.loop
 (.seq
 (.seq
 (.reg 1 [oM 5 0, oQ 6 (.len 1 5), oQ 7 (.bin .gtr 6 (cI 0)), oM 8 7, gQ 9 8 true (.mov 0), gQ 10 8 true (.istr 9 (cI 0)), gQ 11 8 true (.mov 1), gQ 12 8 true (.bin .eql 10 11), oQ 13 (.pick 8 12 (cB false))] [0, 1, 13])
 (.cond 13
 .skip
 (.exit 0)))
 (.block 1
 (.reg 2 [oM 14 0, oQ 15 (.sstr 14 (some (cI 1)) none), oM 0 15] [0, 1])))))
 (.seq
 (.reg 3 [oM 16 0, oM 4 16] [4])
 .ret)))
theorem fok272 : FOK Tryz.prog 272 (17, ic272, [(.t 4)]) := fokA [] Tryz.func272 (by kernel_rfl) (by kernel_rfl) (by kernel_rfl) (by kernel_rfl)
/-- strings.makeASCIISet -/
def ic273 : IC :=
 (.seq
 (.reg 0 [oK 2 (.alloc [(.bool false), (.bool false), (.bool false), (.bool false), (.bool false), (.bool false), (.bool false), (.bool false), (.bool false), (.bool false), (.bool false), (.bool false), (.bool false), (.bool false), (.bool false), (.bool false), (.bool false), (.bool false), (.bool false), (.bool false), (.bool false), (.bool false), (.bool false), (.bool false), (.bool false), (.bool false), (.bool false), (.bool false), (.bool false), (.bool false), (.bool false), (.bool false), (.bool false), (.bool false), (.bool false), (.bool false), (.bool false), (.bool false), (.bool false), (.bool false), (.bool false), (.bool false), (.bool false), (.bool false), (.bool false), (.bool false), (.bool false), (.bool false), (.bool false), (.bool false), (.bool false), (.bool false), (.bool false), (.bool false), (.bool false), (.bool false), (.bool false), (.bool false), (.bool false), (.bool false), (.bool false), (.bool false), (.bool false), (.bool false), (.bool false), (.bool false), (.bool false), (.bool false), (.bool false), (.bool false), (.bool false), (.bool false), (.bool false), (.bool false), (.bool false), (.bool false), (.bool false), (.bool false), (.bool false), (.bool false), (.bool false), (.bool false), (.bool false), (.bool false), (.bool false), (.bool false), (.bool false), (.bool false), (.bool false), (.bool false), (.bool false), (.bool false), (.bool false), (.bool false), (.bool false), (.bool false), (.bool false), (.bool false), (.bool false), (.bool false), (.bool false), (.bool false), (.bool false), (.bool false), (.bool false), (.bool false), (.bool false), (.bool false), (.bool false), (.bool false), (.bool false), (.bool false), (.bool false), (.bool false), (.bool false), (.bool false), (.bool false), (.bool false), (.bool false), (.bool false), (.bool false), (.bool false), (.bool false), (.bool false), (.bool false), (.bool false), (.bool false), (.bool false), (.bool false), (.bool false), (.bool false), (.bool false), (.bool false), (.bool false), (.bool false), (.bool false), (.bool false), (.bool false), (.bool false), (.bool false), (.bool false), (.bool false), (.bool false), (.bool false), (.bool false), (.bool false), (.bool false), (.bool false), (.bool false), (.bool false), (.bool false), (.bool false), (.bool false), (.bool false), (.bool false), (.bool false), (.bool false), (.bool false), (.bool false), (.bool false), (.bool false), (.bool false), (.bool false), (.bool false), (.bool false), (.bool false), (.bool false), (.bool false), (.bool false), (.bool false), (.bool false), (.bool false), (.bool false), (.bool false), (.bool false), (.bool false), (.bool false), (.bool false), (.bool false), (.bool false), (.bool false), (.bool false), (.bool false), (.bool false), (.bool false), (.bool false), (.bool false), (.bool false), (.bool false), (.bool false), (.bool false), (.bool false), (.bool false), (.bool false), (.bool false), (.bool false), (.bool false), (.bool false), (.bool false), (.bool false), (.bool false), (.bool false), (.bool false), (.bool false), (.bool false), (.bool false), (.bool false), (.bool false), (.bool false), (.bool false), (.bool false), (.bool false), (.bool false), (.bool false), (.bool false), (.bool false), (.bool false), (.bool false), (.bool false), (.bool false), (.bool false), (.bool false), (.bool false), (.bool false), (.bool false), (.bool false), (.bool false), (.bool false), (.bool false), (.bool false), (.bool false), (.bool false), (.bool false), (.bool false), (.bool false), (.bool false), (.bool false), (.bool false), (.bool false), (.bool false), (.bool false), (.bool false), (.bool false), (.bool false), (.bool false), (.bool false), (.bool false), (.bool false), (.bool false), (.bool false), (.bool false), (.bool false), (.bool false), (.bool false), (.bool false), (.bool false)]), oM 3 (cB false)] [0, 2])
 (.seq
 (.seq
 (.reg 1 [oM 4 (cI 0)] [0, 2, 4])
 (.block 0
 (.loop
 (.seq
 (.seq
 (.reg 2 [oM 6 4, oM 7 0, oQ 8 (.len 1 7), oQ 9 (.bin .lss 6 8)] [0, 2, 4, 9])
 (.cond 9
 .skip
 (.exit 0)))
 (.seq
 (.block 1
 (.seq
 (.reg 4 [oM 12 0, oM 13 4, oQ 14 (.istr 12 13), oM 5 14] [0, 2, 4, 5])
 (.seq
 (.seq
 (.reg 5 [oM 15 5, oQ 16 (.bin .geq 15 (.c (zU 128)))] [0, 2, 4, 5, 16])
 (.cond 16
 (.seq
 (.reg 6 [oQ 17 (.load (some 256) 2), oN (.store 256 2 17), oM 3 (cB false)] [2, 3])
 .ret)
 .skip))
 (.reg 7 [oM 18 5, oQ 19 (.aaddr 256 1 2 18), oN (.store 1 19 (cB true))] [0, 2, 4]))))
 (.reg 3 [oM 10 4, oQ 11 (.bin .add 10 (cI 1)), oM 4 11] [0, 2, 4]))))))
 (.seq
 (.reg 8 [oQ 20 (.load (some 256) 2), oN (.store 256 2 20), oM 3 (cB true)] [2, 3])
 .ret)))
theorem fok273 : FOK Tryz.prog 273 (21, ic273, [(.cell (some 256) 2), (.t 3)]) := fokA [] Tryz.func273 (by kernel_rfl) (by kernel_rfl) (by kernel_rfl) (by kernel_rfl)
/-- strings.trimLeftASCII -/
def ic274 : IC :=
 (.seq
 (.reg 0 [oM 4 (.c (.str []))] [0, 1])
 (.seq
 (.block 0
 (.loop
 (.seq
 (.seq
 (.reg 1 [oM 5 0, oQ 6 (.len 1 5), oQ 7 (.bin .gtr 6 (cI 0))] [0, 1, 7])
 (.cond 7
 .skip
 (.exit 0)))
 (.block 1
 (.seq
 (.seq
 (.reg 2 [oM 8 1, oM 9 0, oQ 10 (.istr 9 (cI 0)), oK 11 (.call 276 [8, 10]), oQ 12 (.not 11)] [0, 1, 12])
 (.cond 12
 (.exit 0)
 .skip))
 (.reg 3 [oM 13 0, oQ 14 (.sstr 13 (some (cI 1)) none), oM 0 14] [0, 1]))))))
 (.seq
 (.reg 4 [oM 15 0, oM 4 15] [4])
 .ret)))
theorem fok274 : FOK Tryz.prog 274 (16, ic274, [(.t 4)]) := fokA [] Tryz.func274 (by kernel_rfl) (by kernel_rfl) (by kernel_rfl) (by kernel_rfl)
/-- strings.trimLeftUnicode -/
def ic275 : IC :=
 (.seq
 (.reg 0 [oM 4 (.c (.str []))] [0, 1])
 (.seq
 (.block 0
 (.loop
 (.seq
 (.seq
 (.reg 1 [oM 7 0, oQ 8 (.len 1 7), oQ 9 (.bin .gtr 8 (cI 0))] [0, 1, 9])
 (.cond 9
 .skip
 (.exit 0)))
 (.block 1
 (.seq
 (.reg 2 [oM 11 0, oK 12 (.call 277 [11]), oM 10 12, oQ 13 (.ext 0 10), oQ 14 (.ext 1 10), oM 5 13, oM 6 14] [0, 1, 5, 6])
 (.seq
 (.seq
 (.reg 3 [oM 15 1, oM 16 5, oK 17 (.call 278 [15, 16]), oQ 18 (.not 17)] [0, 1, 6, 18])
 (.cond 18
 (.exit 0)
 .skip))
 (.reg 4 [oM 19 0, oM 20 6, oQ 21 (.sstr 19 (some 20) none), oM 0 21] [0, 1])))))))
 (.seq
 (.reg 5 [oM 22 0, oM 4 22] [4])
 .ret)))
theorem fok275 : FOK Tryz.prog 275 (23, ic275, [(.t 4)]) := fokA [] Tryz.func275 (by kernel_rfl) (by kernel_rfl) (by kernel_rfl) (by kernel_rfl)
/-- (*strings.asciiSet).contains -/
def ic276 : IC :=
 (.seq
 (.reg 0 [oM 4 (cB false)] [0, 1])
 (.seq
 (.reg 1 [oM 5 0, oM 6 1, oQ 7 (.nchk 5), oQ 8 (.aaddr 256 1 7 6), oQ 9 (.load none 8), oM 4 9] [4])
 .ret))
theorem fok276 : FOK Tryz.prog 276 (10, ic276, [(.t 4)]) := fokA [] Tryz.func276 (by kernel_rfl) (by kernel_rfl) (by kernel_rfl) (by kernel_rfl)
/-- unicode/utf8.DecodeRuneInString -/
def ic277 : IC :=
 (.seq
 (.reg 0 [oM 2 (.c (.int .i32 0)), oM 3 (cI 0)] [0])
 (.seq
 (.seq
 (.reg 1 [oM 4 0, oQ 5 (.bin .neq 4 (.c (.str []))), oM 6 5, gQ 7 6 true (.mov 0), gQ 8 6 true (.istr 7 (cI 0)), gQ 9 6 true (.bin .lss 8 (.c (zU 128))), oQ 10 (.pick 6 9 (cB false))] [0, 10])
 (.cond 10
 (.seq
 (.reg 2 [oM 11 0, oQ 12 (.istr 11 (cI 0)), oQ 13 (.conv .i32 12), oM 2 13, oM 3 (cI 1)] [2, 3])
 .ret)
 (.reg 3 [oM 15 0, oK 16 (.call 279 [15]), oM 14 16, oQ 17 (.ext 0 14), oQ 18 (.ext 1 14), oM 2 17, oM 3 18] [2, 3])))
 .ret))
theorem fok277 : FOK Tryz.prog 277 (19, ic277, [(.t 2), (.t 3)]) := fokA [] Tryz.func277 (by kernel_rfl) (by kernel_rfl) (by kernel_rfl) (by kernel_rfl)
/-- strings.ContainsRune -/
def ic278 : IC :=
 (.seq
 (.reg 0 [oM 4 (cB false)] [0, 1])
 (.seq
 (.reg 1 [oM 5 0, oM 6 1, oK 7 (.call 280 [5, 6]), oQ 8 (.bin .geq 7 (cI 0)), oM 4 8] [4])
 .ret))
theorem fok278 : FOK Tryz.prog 278 (9, ic278, [(.t 4)]) := fokA [] Tryz.func278 (by kernel_rfl) (by kernel_rfl) (by kernel_rfl) (by kernel_rfl)
/-- unicode/utf8.decodeRuneInStringSlow -/
def ic279 : IC :=
 (.seq
 (.reg 0 [oM 2 (.c (.int .i32 0)), oM 3 (cI 0)] [0])
 (.seq
 (.reg 1 [oM 13 0, oQ 14 (.len 1 13), oM 4 14] [0, 4])
 (.seq
 (.seq
 (.reg 2 [oM 15 4, oQ 16 (.bin .lss 15 (cI 1))] [0, 4, 16])
 (.cond 16
 (.seq
 (.reg 3 [oM 2 (.c (.int .i32 65533)), oM 3 (cI 0)] [2, 3])
 .ret)
 .skip))
 (.seq
 (.reg 4 [oM 17 0, oQ 18 (.istr 17 (cI 0)), oM 5 18] [0, 4, 5])
 (.seq
 (.reg 5 [oM 19 5, oQ 20 (.aaddr 256 1 (.g 4) 19), oQ 21 (.load none 20), oM 6 21] [0, 4, 5, 6])
 (.seq
 (.seq
 (.reg 6 [oM 22 6, oQ 23 (.bin .geq 22 (.c (zU 240)))] [0, 4, 5, 6, 23])
 (.cond 23
 (.seq
 (.reg 7 [oM 24 6, oQ 25 (.conv .i32 24), oQ 26 (.bin .shl 25 (.c (.int .u64 31))), oQ 27 (.bin .shr 26 (.c (.int .u64 31))), oM 7 27] [0, 7])
 (.seq
 (.reg 8 [oM 28 0, oQ 29 (.istr 28 (cI 0)), oQ 30 (.conv .i32 29), oM 31 7, oQ 32 (.bin .andNot 30 31), oM 33 7, oQ 34 (.bin .and (.c (.int .i32 65533)) 33), oQ 35 (.bin .or 32 34), oM 2 35, oM 3 (cI 1)] [2, 3])
 .ret))
 .skip))
 (.seq
 (.reg 9 [oM 36 6, oQ 37 (.bin .and 36 (.c (zU 7))), oQ 38 (.conv .i64 37), oM 8 38] [0, 4, 5, 6, 8])
 (.seq
 (.reg 10 [oM 39 6, oQ 40 (.bin .shr 39 (.c (.int .u64 4))), oQ 41 (.aaddr 16 2 (.g 5) 40), oQ 42 (.load (some 2) 41), oK 9 (.alloc [(zU 0), (zU 0)]), oN (.store 2 9 42)] [0, 4, 5, 8, 9])
 (.seq
 (.seq
 (.reg 11 [oM 43 4, oM 44 8, oQ 45 (.bin .lss 43 44)] [0, 5, 8, 9, 45])
 (.cond 45
 (.seq
 (.reg 12 [oM 2 (.c (.int .i32 65533)), oM 3 (cI 1)] [2, 3])
 .ret)
 .skip))
 (.seq
 (.reg 13 [oM 46 0, oQ 47 (.istr 46 (cI 1)), oM 10 47] [0, 5, 8, 9, 10])
 (.seq
 (.seq
 (.reg 14 [oM 48 10, oQ 49 (.faddr 0 9), oQ 50 (.load none 49), oQ 51 (.bin .lss 48 50), oM 52 51, gQ 53 52 false (.faddr 1 9), gQ 54 52 false (.load none 53), gQ 55 52 false (.mov 10), gQ 56 52 false (.bin .lss 54 55), oQ 57 (.pick 52 (cB true) 56)] [0, 5, 8, 10, 57])
 (.cond 57
 (.seq
 (.reg 15 [oM 2 (.c (.int .i32 65533)), oM 3 (cI 1)] [2, 3])
 .ret)
 .skip))
 (.seq
 (.seq
 (.reg 16 [oM 58 8, oQ 59 (.bin .leq 58 (cI 2))] [0, 5, 8, 10, 59])
 (.cond 59
 (.seq
 (.reg 17 [oM 60 5, oQ 61 (.bin .and 60 (.c (zU 31))), oQ 62 (.conv .i32 61), oQ 63 (.bin .shl 62 (.c (.int .u64 6))), oM 64 10, oQ 65 (.bin .and 64 (.c (zU 63))), oQ 66 (.conv .i32 65), oQ 67 (.bin .or 63 66), oM 2 67, oM 3 (cI 2)] [2, 3])
 .ret)
 .skip))
 (.seq
 (.reg 18 [oM 68 0, oQ 69 (.istr 68 (cI 2)), oM 11 69] [0, 5, 8, 10, 11])
 (.seq
 (.seq
 (.reg 19 [oM 70 11, oQ 71 (.bin .lss 70 (.c (zU 128))), oM 72 71, gQ 73 72 false (.mov 11), gQ 74 72 false (.bin .lss (.c (zU 191)) 73), oQ 75 (.pick 72 (cB true) 74)] [0, 5, 8, 10, 11, 75])
 (.cond 75
 (.seq
 (.reg 20 [oM 2 (.c (.int .i32 65533)), oM 3 (cI 1)] [2, 3])
 .ret)
 .skip))
 (.seq
 (.seq
 (.reg 21 [oM 76 8, oQ 77 (.bin .leq 76 (cI 3))] [0, 5, 10, 11, 77])
 (.cond 77
 (.seq
 (.reg 22 [oM 78 5, oQ 79 (.bin .and 78 (.c (zU 15))), oQ 80 (.conv .i32 79), oQ 81 (.bin .shl 80 (.c (.int .u64 12))), oM 82 10, oQ 83 (.bin .and 82 (.c (zU 63))), oQ 84 (.conv .i32 83), oQ 85 (.bin .shl 84 (.c (.int .u64 6))), oQ 86 (.bin .or 81 85), oM 87 11, oQ 88 (.bin .and 87 (.c (zU 63))), oQ 89 (.conv .i32 88), oQ 90 (.bin .or 86 89), oM 2 90, oM 3 (cI 3)] [2, 3])
 .ret)
 .skip))
 (.seq
 (.reg 23 [oM 91 0, oQ 92 (.istr 91 (cI 3)), oM 12 92] [5, 10, 11, 12])
 (.seq
 (.seq
 (.reg 24 [oM 93 12, oQ 94 (.bin .lss 93 (.c (zU 128))), oM 95 94, gQ 96 95 false (.mov 12), gQ 97 95 false (.bin .lss (.c (zU 191)) 96), oQ 98 (.pick 95 (cB true) 97)] [5, 10, 11, 12, 98])
 (.cond 98
 (.seq
 (.reg 25 [oM 2 (.c (.int .i32 65533)), oM 3 (cI 1)] [2, 3])
 .ret)
 .skip))
 (.seq
 (.reg 26 [oM 99 5, oQ 100 (.bin .and 99 (.c (zU 7))), oQ 101 (.conv .i32 100), oQ 102 (.bin .shl 101 (.c (.int .u64 18))), oM 103 10, oQ 104 (.bin .and 103 (.c (zU 63))), oQ 105 (.conv .i32 104), oQ 106 (.bin .shl 105 (.c (.int .u64 12))), oQ 107 (.bin .or 102 106), oM 108 11, oQ 109 (.bin .and 108 (.c (zU 63))), oQ 110 (.conv .i32 109), oQ 111 (.bin .shl 110 (.c (.int .u64 6))), oQ 112 (.bin .or 107 111), oM 113 12, oQ 114 (.bin .and 113 (.c (zU 63))), oQ 115 (.conv .i32 114), oQ 116 (.bin .or 112 115), oM 2 116, oM 3 (cI 4)] [2, 3])
 .ret))))))))))))))))))
theorem fok279 : FOK Tryz.prog 279 (117, ic279, [(.t 2), (.t 3)]) := fokA [] Tryz.func279 (by kernel_rfl) (by kernel_rfl) (by kernel_rfl) (by kernel_rfl)
end Go.Id.Tryz
