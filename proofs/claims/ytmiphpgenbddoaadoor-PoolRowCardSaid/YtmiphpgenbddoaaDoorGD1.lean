/- The compiled codes of functions, written by a program out of the given form. Conditions: none. -/
import Derived.Test.YtmiphpgenbddoaaDoorFwW
import Derived.Test.YtmiphpgenbddoaaDoorProg
namespace Go.Id.Tryd
open Go Go.Id Go.Proofs
def allF1 : List Nat := List.range 122
/-- math/bits.Len32 -/
def ic82 : IC :=
(.seq
 (.reg 0 [⟨(some 2), none, (.q (.mov (.c (.int .i64 0))))⟩] [0, 2])
 (.seq
  (.seq
   (.reg 1 [⟨(some 3), none, (.q (.mov (.t 0)))⟩, ⟨(some 4), none, (.q (.bin .geq (.t 3) (.c (.int .u32 65536))))⟩] [0, 2, 4])
   (.cond (.t 4)
    (.seq
     (.reg 2 [⟨(some 5), none, (.q (.mov (.t 0)))⟩, ⟨(some 6), none, (.q (.bin .shr (.t 5) (.c (.int .u64 16))))⟩, ⟨(some 0), none, (.q (.mov (.t 6)))⟩] [0])
     (.reg 3 [⟨(some 2), none, (.q (.mov (.c (.int .i64 16))))⟩] [0, 2]))
    .skip))
  (.seq
   (.seq
    (.reg 4 [⟨(some 7), none, (.q (.mov (.t 0)))⟩, ⟨(some 8), none, (.q (.bin .geq (.t 7) (.c (.int .u32 256))))⟩] [0, 2, 8])
    (.cond (.t 8)
     (.seq
      (.reg 5 [⟨(some 9), none, (.q (.mov (.t 0)))⟩, ⟨(some 10), none, (.q (.bin .shr (.t 9) (.c (.int .u64 8))))⟩, ⟨(some 0), none, (.q (.mov (.t 10)))⟩] [0, 2])
      (.reg 6 [⟨(some 11), none, (.q (.mov (.t 2)))⟩, ⟨(some 12), none, (.q (.bin .add (.t 11) (.c (.int .i64 8))))⟩, ⟨(some 2), none, (.q (.mov (.t 12)))⟩] [0, 2]))
     .skip))
   (.seq
    (.reg 7 [⟨(some 13), none, (.q (.mov (.t 2)))⟩, ⟨(some 14), none, (.q (.mov (.t 0)))⟩, ⟨(some 15), none, (.q (.conv .u8 (.t 14)))⟩, ⟨(some 16), none, (.q (.istr (.c (.str [0, 1, 2, 2, 3, 3, 3, 3, 4, 4, 4, 4, 4, 4, 4, 4, 5, 5, 5, 5, 5, 5, 5, 5, 5, 5, 5, 5, 5, 5, 5, 5, 6, 6, 6, 6, 6, 6, 6, 6, 6, 6, 6, 6, 6, 6, 6, 6, 6, 6, 6, 6, 6, 6, 6, 6, 6, 6, 6, 6, 6, 6, 6, 6, 7, 7, 7, 7, 7, 7, 7, 7, 7, 7, 7, 7, 7, 7, 7, 7, 7, 7, 7, 7, 7, 7, 7, 7, 7, 7, 7, 7, 7, 7, 7, 7, 7, 7, 7, 7, 7, 7, 7, 7, 7, 7, 7, 7, 7, 7, 7, 7, 7, 7, 7, 7, 7, 7, 7, 7, 7, 7, 7, 7, 7, 7, 7, 7, 8, 8, 8, 8, 8, 8, 8, 8, 8, 8, 8, 8, 8, 8, 8, 8, 8, 8, 8, 8, 8, 8, 8, 8, 8, 8, 8, 8, 8, 8, 8, 8, 8, 8, 8, 8, 8, 8, 8, 8, 8, 8, 8, 8, 8, 8, 8, 8, 8, 8, 8, 8, 8, 8, 8, 8, 8, 8, 8, 8, 8, 8, 8, 8, 8, 8, 8, 8, 8, 8, 8, 8, 8, 8, 8, 8, 8, 8, 8, 8, 8, 8, 8, 8, 8, 8, 8, 8, 8, 8, 8, 8, 8, 8, 8, 8, 8, 8, 8, 8, 8, 8, 8, 8, 8, 8, 8, 8, 8, 8, 8, 8, 8, 8, 8, 8, 8, 8, 8, 8, 8, 8, 8, 8, 8, 8, 8, 8])) (.t 15)))⟩, ⟨(some 17), none, (.q (.conv .i64 (.t 16)))⟩, ⟨(some 18), none, (.q (.bin .add (.t 13) (.t 17)))⟩, ⟨(some 2), none, (.q (.mov (.t 18)))⟩] [2])
    .ret))))
theorem fok82 : FOK Tryd.prog 82 (19, ic82, [(.t 2)]) := .mk (pf := []) (an := [(0, [0, 2]), (1, [0, 2, 4]), (2, [0]), (3, [0, 2]), (4, [0, 2, 8]), (5, [0, 2]), (6, [0, 2]), (7, [2])]) (by kernel_rfl) (fnOK_of Tryd.func82 (by kernel_rfl) (by kernel_rfl) (by kernel_rfl))
/-- math/bits.Len64 -/
def ic83 : IC :=
(.seq
 (.reg 0 [⟨(some 2), none, (.q (.mov (.c (.int .i64 0))))⟩] [0, 2])
 (.seq
  (.seq
   (.reg 1 [⟨(some 3), none, (.q (.mov (.t 0)))⟩, ⟨(some 4), none, (.q (.bin .geq (.t 3) (.c (.int .u64 4294967296))))⟩] [0, 2, 4])
   (.cond (.t 4)
    (.seq
     (.reg 2 [⟨(some 5), none, (.q (.mov (.t 0)))⟩, ⟨(some 6), none, (.q (.bin .shr (.t 5) (.c (.int .u64 32))))⟩, ⟨(some 0), none, (.q (.mov (.t 6)))⟩] [0])
     (.reg 3 [⟨(some 2), none, (.q (.mov (.c (.int .i64 32))))⟩] [0, 2]))
    .skip))
  (.seq
   (.seq
    (.reg 4 [⟨(some 7), none, (.q (.mov (.t 0)))⟩, ⟨(some 8), none, (.q (.bin .geq (.t 7) (.c (.int .u64 65536))))⟩] [0, 2, 8])
    (.cond (.t 8)
     (.seq
      (.reg 5 [⟨(some 9), none, (.q (.mov (.t 0)))⟩, ⟨(some 10), none, (.q (.bin .shr (.t 9) (.c (.int .u64 16))))⟩, ⟨(some 0), none, (.q (.mov (.t 10)))⟩] [0, 2])
      (.reg 6 [⟨(some 11), none, (.q (.mov (.t 2)))⟩, ⟨(some 12), none, (.q (.bin .add (.t 11) (.c (.int .i64 16))))⟩, ⟨(some 2), none, (.q (.mov (.t 12)))⟩] [0, 2]))
     .skip))
   (.seq
    (.seq
     (.reg 7 [⟨(some 13), none, (.q (.mov (.t 0)))⟩, ⟨(some 14), none, (.q (.bin .geq (.t 13) (.c (.int .u64 256))))⟩] [0, 2, 14])
     (.cond (.t 14)
      (.seq
       (.reg 8 [⟨(some 15), none, (.q (.mov (.t 0)))⟩, ⟨(some 16), none, (.q (.bin .shr (.t 15) (.c (.int .u64 8))))⟩, ⟨(some 0), none, (.q (.mov (.t 16)))⟩] [0, 2])
       (.reg 9 [⟨(some 17), none, (.q (.mov (.t 2)))⟩, ⟨(some 18), none, (.q (.bin .add (.t 17) (.c (.int .i64 8))))⟩, ⟨(some 2), none, (.q (.mov (.t 18)))⟩] [0, 2]))
      .skip))
    (.seq
     (.reg 10 [⟨(some 19), none, (.q (.mov (.t 2)))⟩, ⟨(some 20), none, (.q (.mov (.t 0)))⟩, ⟨(some 21), none, (.q (.conv .u8 (.t 20)))⟩, ⟨(some 22), none, (.q (.istr (.c (.str [0, 1, 2, 2, 3, 3, 3, 3, 4, 4, 4, 4, 4, 4, 4, 4, 5, 5, 5, 5, 5, 5, 5, 5, 5, 5, 5, 5, 5, 5, 5, 5, 6, 6, 6, 6, 6, 6, 6, 6, 6, 6, 6, 6, 6, 6, 6, 6, 6, 6, 6, 6, 6, 6, 6, 6, 6, 6, 6, 6, 6, 6, 6, 6, 7, 7, 7, 7, 7, 7, 7, 7, 7, 7, 7, 7, 7, 7, 7, 7, 7, 7, 7, 7, 7, 7, 7, 7, 7, 7, 7, 7, 7, 7, 7, 7, 7, 7, 7, 7, 7, 7, 7, 7, 7, 7, 7, 7, 7, 7, 7, 7, 7, 7, 7, 7, 7, 7, 7, 7, 7, 7, 7, 7, 7, 7, 7, 7, 8, 8, 8, 8, 8, 8, 8, 8, 8, 8, 8, 8, 8, 8, 8, 8, 8, 8, 8, 8, 8, 8, 8, 8, 8, 8, 8, 8, 8, 8, 8, 8, 8, 8, 8, 8, 8, 8, 8, 8, 8, 8, 8, 8, 8, 8, 8, 8, 8, 8, 8, 8, 8, 8, 8, 8, 8, 8, 8, 8, 8, 8, 8, 8, 8, 8, 8, 8, 8, 8, 8, 8, 8, 8, 8, 8, 8, 8, 8, 8, 8, 8, 8, 8, 8, 8, 8, 8, 8, 8, 8, 8, 8, 8, 8, 8, 8, 8, 8, 8, 8, 8, 8, 8, 8, 8, 8, 8, 8, 8, 8, 8, 8, 8, 8, 8, 8, 8, 8, 8, 8, 8, 8, 8, 8, 8, 8, 8])) (.t 21)))⟩, ⟨(some 23), none, (.q (.conv .i64 (.t 22)))⟩, ⟨(some 24), none, (.q (.bin .add (.t 19) (.t 23)))⟩, ⟨(some 2), none, (.q (.mov (.t 24)))⟩] [2])
     .ret)))))
theorem fok83 : FOK Tryd.prog 83 (25, ic83, [(.t 2)]) := .mk (pf := []) (an := [(0, [0, 2]), (1, [0, 2, 4]), (2, [0]), (3, [0, 2]), (4, [0, 2, 8]), (5, [0, 2]), (6, [0, 2]), (7, [0, 2, 14]), (8, [0, 2]), (9, [0, 2]), (10, [2])]) (by kernel_rfl) (fnOK_of Tryd.func83 (by kernel_rfl) (by kernel_rfl) (by kernel_rfl))
/-- internal/stringslite.IndexByte -/
def ic84 : IC :=
(.seq
 (.reg 0 [⟨(some 4), none, (.q (.mov (.c (.int .i64 0))))⟩] [0, 1])
 (.seq
  (.reg 1 [⟨(some 5), none, (.q (.mov (.t 0)))⟩, ⟨(some 6), none, (.q (.mov (.t 1)))⟩, ⟨(some 7), none, (.q (.ibs (.t 5) (.t 6)))⟩, ⟨(some 4), none, (.q (.mov (.t 7)))⟩] [4])
  .ret))
theorem fok84 : FOK Tryd.prog 84 (8, ic84, [(.t 4)]) := .mk (pf := []) (an := [(0, [0, 1]), (1, [4])]) (by kernel_rfl) (fnOK_of Tryd.func84 (by kernel_rfl) (by kernel_rfl) (by kernel_rfl))
/-- internal/stringslite.HasPrefix -/
def ic85 : IC :=
(.seq
 (.reg 0 [⟨(some 4), none, (.q (.mov (.c (.bool false))))⟩] [0, 1])
 (.seq
  (.reg 1 [⟨(some 5), none, (.q (.mov (.t 0)))⟩, ⟨(some 6), none, (.q (.len 1 (.t 5)))⟩, ⟨(some 7), none, (.q (.mov (.t 1)))⟩, ⟨(some 8), none, (.q (.len 1 (.t 7)))⟩, ⟨(some 9), none, (.q (.bin .geq (.t 6) (.t 8)))⟩, ⟨(some 10), none, (.q (.mov (.t 9)))⟩, ⟨(some 11), (some ⟨10, true⟩), (.q (.mov (.t 0)))⟩, ⟨(some 12), (some ⟨10, true⟩), (.q (.mov (.t 1)))⟩, ⟨(some 13), (some ⟨10, true⟩), (.q (.len 1 (.t 12)))⟩, ⟨(some 14), (some ⟨10, true⟩), (.q (.sstr (.t 11) none (some (.t 13))))⟩, ⟨(some 15), (some ⟨10, true⟩), (.q (.mov (.t 1)))⟩, ⟨(some 16), (some ⟨10, true⟩), (.q (.bin .eql (.t 14) (.t 15)))⟩, ⟨(some 17), none, (.q (.pick (.t 10) (.t 16) (.c (.bool false))))⟩, ⟨(some 4), none, (.q (.mov (.t 17)))⟩] [4])
  .ret))
theorem fok85 : FOK Tryd.prog 85 (18, ic85, [(.t 4)]) := .mk (pf := []) (an := [(0, [0, 1]), (1, [4])]) (by kernel_rfl) (fnOK_of Tryd.func85 (by kernel_rfl) (by kernel_rfl) (by kernel_rfl))
/-- slices.IndexFunc[[]chandlery/api.Dep,chandlery/api.Dep] -/
def ic86 : IC :=
(.seq
 (.reg 0 [⟨(some 4), none, (.q (.mov (.c (.int .i64 0))))⟩] [0, 1])
 (.seq
  (.seq
   (.reg 1 [⟨(some 6), none, (.q (.mov (.t 0)))⟩, ⟨(some 7), none, (.q (.len 0 (.t 6)))⟩, ⟨(some 8), none, (.q (.mov (.c (.int .i64 0))))⟩] [0, 1, 7, 8])
   (.block 0
    (.loop
     (.seq
      (.reg 2 [⟨(some 9), none, (.q (.bin .lss (.t 8) (.t 7)))⟩] [0, 1, 7, 8, 9])
      (.seq
       (.cond (.t 9)
        .skip
        (.exit 0))
       (.seq
        (.block 1
         (.seq
          (.reg 3 [⟨(some 10), none, (.q (.mov (.t 8)))⟩, ⟨(some 5), none, (.q (.mov (.t 10)))⟩] [0, 1, 5, 7, 8])
          (.seq
           (.reg 4 [⟨(some 11), none, (.q (.mov (.t 1)))⟩, ⟨(some 12), none, (.q (.mov (.t 0)))⟩, ⟨(some 13), none, (.q (.mov (.t 5)))⟩, ⟨(some 14), none, (.q (.iaddr 5 (.t 12) (.t 13)))⟩, ⟨(some 15), none, (.q (.load (some 5) (.t 14)))⟩, ⟨(some 16), none, (.callv (.t 11) [(.t 15)])⟩] [0, 1, 5, 7, 8, 16])
           (.cond (.t 16)
            (.seq
            (.reg 5 [⟨(some 17), none, (.q (.mov (.t 5)))⟩, ⟨(some 4), none, (.q (.mov (.t 17)))⟩] [4])
            .ret)
            .skip))))
        (.reg 6 [⟨(some 18), none, (.q (.bin .add (.t 8) (.c (.int .i64 1))))⟩, ⟨(some 8), none, (.q (.mov (.t 18)))⟩] [0, 1, 7, 8])))))))
  (.seq
   (.reg 7 [⟨(some 4), none, (.q (.mov (.c (.int .i64 (-1)))))⟩] [4])
   .ret)))
theorem fok86 : FOK Tryd.prog 86 (19, ic86, [(.t 4)]) := .mk (pf := []) (an := [(0, [0, 1]), (1, [0, 1, 7, 8]), (2, [0, 1, 7, 8, 9]), (3, [0, 1, 5, 7, 8]), (4, [0, 1, 5, 7, 8, 16]), (5, [4]), (6, [0, 1, 7, 8]), (7, [4])]) (by kernel_rfl) (fnOK_of Tryd.func86 (by kernel_rfl) (by kernel_rfl) (by kernel_rfl))
/-- chandlery/span.Text -/
def ic87 : IC :=
(.seq
 (.reg 0 [⟨(some 2), none, (.q (.mov (.c (.str []))))⟩] [0])
 (.seq
  (.seq
   (.reg 1 [⟨(some 5), none, (.q (.load none (.g 1)))⟩, ⟨(some 6), none, (.mrange (.t 5))⟩] [0, 6])
   (.block 0
    (.loop
     (.seq
      (.reg 2 [⟨(some 7), none, (.mnext (.t 6))⟩, ⟨(some 8), none, (.q (.ext 0 (.t 7)))⟩] [0, 6, 8])
      (.seq
       (.cond (.t 8)
        .skip
        (.exit 0))
       (.block 1
        (.seq
         (.reg 3 [⟨(some 9), none, (.ment (.t 6))⟩, ⟨(some 10), none, (.q (.ext 0 (.t 9)))⟩, ⟨(some 11), none, (.q (.ext 1 (.t 9)))⟩, ⟨(some 3), none, (.q (.mov (.t 10)))⟩, ⟨(some 4), none, (.q (.mov (.t 11)))⟩] [0, 3, 4, 6])
         (.seq
          (.reg 4 [⟨(some 12), none, (.q (.mov (.t 4)))⟩, ⟨(some 13), none, (.q (.mov (.t 0)))⟩, ⟨(some 14), none, (.q (.bin .eql (.t 12) (.t 13)))⟩] [0, 3, 6, 14])
          (.cond (.t 14)
           (.seq
            (.reg 5 [⟨(some 15), none, (.q (.mov (.t 3)))⟩, ⟨(some 2), none, (.q (.mov (.t 15)))⟩] [2])
            .ret)
           .skip)))))))))
  (.seq
   (.reg 6 [⟨(some 2), none, (.q (.mov (.c (.str []))))⟩] [2])
   .ret)))
theorem fok87 : FOK Tryd.prog 87 (16, ic87, [(.t 2)]) := .mk (pf := []) (an := [(0, [0]), (1, [0, 6]), (2, [0, 6, 8]), (3, [0, 3, 4, 6]), (4, [0, 3, 6, 14]), (5, [2]), (6, [2])]) (by kernel_rfl) (fnOK_of Tryd.func87 (by kernel_rfl) (by kernel_rfl) (by kernel_rfl))
/-- slices.IndexFunc[[]string,string] -/
def ic88 : IC :=
(.seq
 (.reg 0 [⟨(some 4), none, (.q (.mov (.c (.int .i64 0))))⟩] [0, 1])
 (.seq
  (.seq
   (.reg 1 [⟨(some 6), none, (.q (.mov (.t 0)))⟩, ⟨(some 7), none, (.q (.len 0 (.t 6)))⟩, ⟨(some 8), none, (.q (.mov (.c (.int .i64 0))))⟩] [0, 1, 7, 8])
   (.block 0
    (.loop
     (.seq
      (.reg 2 [⟨(some 9), none, (.q (.bin .lss (.t 8) (.t 7)))⟩] [0, 1, 7, 8, 9])
      (.seq
       (.cond (.t 9)
        .skip
        (.exit 0))
       (.seq
        (.block 1
         (.seq
          (.reg 3 [⟨(some 10), none, (.q (.mov (.t 8)))⟩, ⟨(some 5), none, (.q (.mov (.t 10)))⟩] [0, 1, 5, 7, 8])
          (.seq
           (.reg 4 [⟨(some 11), none, (.q (.mov (.t 1)))⟩, ⟨(some 12), none, (.q (.mov (.t 0)))⟩, ⟨(some 13), none, (.q (.mov (.t 5)))⟩, ⟨(some 14), none, (.q (.iaddr 1 (.t 12) (.t 13)))⟩, ⟨(some 15), none, (.q (.load none (.t 14)))⟩, ⟨(some 16), none, (.callv (.t 11) [(.t 15)])⟩] [0, 1, 5, 7, 8, 16])
           (.cond (.t 16)
            (.seq
            (.reg 5 [⟨(some 17), none, (.q (.mov (.t 5)))⟩, ⟨(some 4), none, (.q (.mov (.t 17)))⟩] [4])
            .ret)
            .skip))))
        (.reg 6 [⟨(some 18), none, (.q (.bin .add (.t 8) (.c (.int .i64 1))))⟩, ⟨(some 8), none, (.q (.mov (.t 18)))⟩] [0, 1, 7, 8])))))))
  (.seq
   (.reg 7 [⟨(some 4), none, (.q (.mov (.c (.int .i64 (-1)))))⟩] [4])
   .ret)))
theorem fok88 : FOK Tryd.prog 88 (19, ic88, [(.t 4)]) := .mk (pf := []) (an := [(0, [0, 1]), (1, [0, 1, 7, 8]), (2, [0, 1, 7, 8, 9]), (3, [0, 1, 5, 7, 8]), (4, [0, 1, 5, 7, 8, 16]), (5, [4]), (6, [0, 1, 7, 8]), (7, [4])]) (by kernel_rfl) (fnOK_of Tryd.func88 (by kernel_rfl) (by kernel_rfl) (by kernel_rfl))
/-- slices.IndexFunc[[]chandlery/api.Rich,chandlery/api.Rich] -/
def ic89 : IC :=
(.seq
 (.reg 0 [⟨(some 4), none, (.q (.mov (.c (.int .i64 0))))⟩] [0, 1])
 (.seq
  (.seq
   (.reg 1 [⟨(some 6), none, (.q (.mov (.t 0)))⟩, ⟨(some 7), none, (.q (.len 0 (.t 6)))⟩, ⟨(some 8), none, (.q (.mov (.c (.int .i64 0))))⟩] [0, 1, 7, 8])
   (.block 0
    (.loop
     (.seq
      (.reg 2 [⟨(some 9), none, (.q (.bin .lss (.t 8) (.t 7)))⟩] [0, 1, 7, 8, 9])
      (.seq
       (.cond (.t 9)
        .skip
        (.exit 0))
       (.seq
        (.block 1
         (.seq
          (.reg 3 [⟨(some 10), none, (.q (.mov (.t 8)))⟩, ⟨(some 5), none, (.q (.mov (.t 10)))⟩] [0, 1, 5, 7, 8])
          (.seq
           (.reg 4 [⟨(some 11), none, (.q (.mov (.t 1)))⟩, ⟨(some 12), none, (.q (.mov (.t 0)))⟩, ⟨(some 13), none, (.q (.mov (.t 5)))⟩, ⟨(some 14), none, (.q (.iaddr 7 (.t 12) (.t 13)))⟩, ⟨(some 15), none, (.q (.load (some 7) (.t 14)))⟩, ⟨(some 16), none, (.callv (.t 11) [(.t 15)])⟩] [0, 1, 5, 7, 8, 16])
           (.cond (.t 16)
            (.seq
            (.reg 5 [⟨(some 17), none, (.q (.mov (.t 5)))⟩, ⟨(some 4), none, (.q (.mov (.t 17)))⟩] [4])
            .ret)
            .skip))))
        (.reg 6 [⟨(some 18), none, (.q (.bin .add (.t 8) (.c (.int .i64 1))))⟩, ⟨(some 8), none, (.q (.mov (.t 18)))⟩] [0, 1, 7, 8])))))))
  (.seq
   (.reg 7 [⟨(some 4), none, (.q (.mov (.c (.int .i64 (-1)))))⟩] [4])
   .ret)))
theorem fok89 : FOK Tryd.prog 89 (19, ic89, [(.t 4)]) := .mk (pf := []) (an := [(0, [0, 1]), (1, [0, 1, 7, 8]), (2, [0, 1, 7, 8, 9]), (3, [0, 1, 5, 7, 8]), (4, [0, 1, 5, 7, 8, 16]), (5, [4]), (6, [0, 1, 7, 8]), (7, [4])]) (by kernel_rfl) (fnOK_of Tryd.func89 (by kernel_rfl) (by kernel_rfl) (by kernel_rfl))
/-- chandlery/shape.parts$1 -/
def ic90 : IC :=
(.seq
 (.reg 0 [⟨(some 4), none, (.boxt (.t 0))⟩, ⟨(some 7), none, (.q (.mov (.c (.bool false))))⟩] [1, 2, 3, 4])
 (.seq
  (.seq
   (.reg 1 [⟨(some 10), none, (.q (.mov (.t 2)))⟩, ⟨(some 11), none, (.q (.load (some 7) (.t 4)))⟩, ⟨(some 12), none, (.q (.mov (.t 1)))⟩, ⟨(some 13), none, (.callv (.t 10) [(.t 11), (.t 12)])⟩, ⟨(some 14), none, (.q (.not (.t 13)))⟩] [1, 2, 3, 4, 14])
   (.cond (.t 14)
    (.seq
     (.reg 2 [⟨(some 7), none, (.q (.mov (.c (.bool false))))⟩] [7])
     .ret)
    .skip))
  (.seq
   (.reg 3 [⟨(some 15), none, (.q (.mov (.t 1)))⟩, ⟨(some 16), none, (.q (.mov (.t 15)))⟩, ⟨(some 17), (some ⟨16, false⟩), (.q (.faddr 0 (.t 4)))⟩, ⟨(some 18), (some ⟨16, false⟩), (.q (.load none (.t 17)))⟩, ⟨(some 19), (some ⟨16, false⟩), (.q (.bin .eql (.t 18) (.c (.int .u8 6))))⟩, ⟨(some 20), none, (.q (.pick (.t 16) (.c (.bool true)) (.t 19)))⟩, ⟨(some 21), none, (.q (.mov (.t 20)))⟩, ⟨(some 22), (some ⟨21, false⟩), (.q (.faddr 0 (.t 4)))⟩, ⟨(some 23), (some ⟨21, false⟩), (.q (.load none (.t 22)))⟩, ⟨(some 24), (some ⟨21, false⟩), (.q (.bin .eql (.t 23) (.c (.int .u8 7))))⟩, ⟨(some 25), none, (.q (.pick (.t 21) (.c (.bool true)) (.t 24)))⟩, ⟨(some 1), none, (.q (.mov (.t 25)))⟩] [1, 2, 3, 4])
   (.seq
    (.seq
     (.reg 4 [⟨(some 26), none, (.q (.faddr 6 (.t 4)))⟩, ⟨(some 27), none, (.q (.load none (.t 26)))⟩, ⟨(some 28), none, (.q (.len 0 (.t 27)))⟩, ⟨(some 29), none, (.q (.mov (.c (.int .i64 0))))⟩] [1, 2, 3, 27, 28, 29])
     (.block 0
      (.loop
       (.seq
        (.reg 5 [⟨(some 30), none, (.q (.bin .lss (.t 29) (.t 28)))⟩] [1, 2, 3, 27, 28, 29, 30])
        (.seq
         (.cond (.t 30)
          .skip
          (.exit 0))
         (.seq
          (.block 1
           (.seq
            (.reg 6 [⟨(some 31), none, (.q (.iaddr 7 (.t 27) (.t 29)))⟩, ⟨(some 32), none, (.q (.load (some 7) (.t 31)))⟩, ⟨(some 9), none, (.alloc [(.int .u8 0), (.str []), (.int .u8 0), (.int .i64 0), (.str []), (.str []), .nilslice])⟩, ⟨none, none, (.store 7 (.t 9) (.t 32))⟩] [1, 2, 3, 9, 27, 28, 29])
            (.seq
            (.reg 7 [⟨(some 33), none, (.q (.load none (.t 3)))⟩, ⟨(some 34), none, (.q (.load (some 7) (.t 9)))⟩, ⟨(some 35), none, (.q (.mov (.t 1)))⟩, ⟨(some 36), none, (.q (.mov (.t 2)))⟩, ⟨(some 37), none, (.callv (.t 33) [(.t 34), (.t 35), (.t 36)])⟩, ⟨(some 38), none, (.q (.not (.t 37)))⟩] [1, 2, 3, 27, 28, 29, 38])
            (.cond (.t 38)
            (.seq
            (.reg 8 [⟨(some 7), none, (.q (.mov (.c (.bool false))))⟩] [7])
            .ret)
            .skip))))
          (.reg 9 [⟨(some 39), none, (.q (.bin .add (.t 29) (.c (.int .i64 1))))⟩, ⟨(some 29), none, (.q (.mov (.t 39)))⟩] [1, 2, 3, 27, 28, 29])))))))
    (.seq
     (.reg 10 [⟨(some 7), none, (.q (.mov (.c (.bool true))))⟩] [7])
     .ret)))))
theorem fok90 : FOK Tryd.prog 90 (40, ic90, [(.t 7)]) := .mk (pf := [1000004]) (an := [(0, [1, 2, 3, 4]), (1, [1, 2, 3, 4, 14]), (2, [7]), (3, [1, 2, 3, 4]), (4, [1, 2, 3, 27, 28, 29]), (5, [1, 2, 3, 27, 28, 29, 30]), (6, [1, 2, 3, 9, 27, 28, 29]), (7, [1, 2, 3, 27, 28, 29, 38]), (8, [7]), (9, [1, 2, 3, 27, 28, 29]), (10, [7])]) (by kernel_rfl) (fnOK_of Tryd.func90 (by kernel_rfl) (by kernel_rfl) (by kernel_rfl))
/-- chandlery/shape.parts$2 -/
def ic91 : IC :=
(.reg 0 [⟨(some 4), none, (.q (.load none (.t 1)))⟩, ⟨(some 5), none, (.q (.load (some 7) (.t 2)))⟩, ⟨(some 6), none, (.q (.mov (.t 0)))⟩, ⟨(some 7), none, (.callv (.t 4) [(.t 5), (.c (.bool false)), (.t 6)])⟩] [])
theorem fok91 : FOK Tryd.prog 91 (8, ic91, []) := .mk (pf := []) (an := []) (by kernel_rfl) (fnOK_of Tryd.func91 (by kernel_rfl) (by kernel_rfl) (by kernel_rfl))
/-- slices.siftDownOrdered[string] -/
def ic92 : IC :=
(.seq
 (.reg 0 [⟨(some 10), none, (.q (.mov (.t 1)))⟩, ⟨(some 8), none, (.q (.mov (.t 10)))⟩] [0, 2, 3, 8])
 (.block 0
  (.loop
   (.block 1
    (.seq
     (.reg 1 [⟨(some 11), none, (.q (.mov (.t 8)))⟩, ⟨(some 12), none, (.q (.bin .mul (.c (.int .i64 2)) (.t 11)))⟩, ⟨(some 13), none, (.q (.bin .add (.t 12) (.c (.int .i64 1))))⟩, ⟨(some 9), none, (.q (.mov (.t 13)))⟩] [0, 2, 3, 8, 9])
     (.seq
      (.seq
       (.reg 2 [⟨(some 14), none, (.q (.mov (.t 9)))⟩, ⟨(some 15), none, (.q (.mov (.t 2)))⟩, ⟨(some 16), none, (.q (.bin .geq (.t 14) (.t 15)))⟩] [0, 2, 3, 8, 9, 16])
       (.cond (.t 16)
        (.exit 0)
        .skip))
      (.seq
       (.seq
        (.dreg 3 [⟨(some 17), none, (.q (.mov (.t 9)))⟩, ⟨(some 18), none, (.q (.bin .add (.t 17) (.c (.int .i64 1))))⟩, ⟨(some 19), none, (.q (.mov (.t 2)))⟩, ⟨(some 20), none, (.q (.bin .lss (.t 18) (.t 19)))⟩, ⟨(some 21), none, (.q (.mov (.t 20)))⟩, ⟨(some 22), (some ⟨21, true⟩), (.q (.mov (.t 0)))⟩, ⟨(some 23), (some ⟨21, true⟩), (.q (.mov (.t 3)))⟩, ⟨(some 24), (some ⟨21, true⟩), (.q (.mov (.t 9)))⟩, ⟨(some 25), (some ⟨21, true⟩), (.q (.bin .add (.t 23) (.t 24)))⟩, ⟨(some 26), (some ⟨21, true⟩), (.q (.iaddr 1 (.t 22) (.t 25)))⟩, ⟨(some 27), (some ⟨21, true⟩), (.q (.load none (.t 26)))⟩, ⟨(some 28), (some ⟨21, true⟩), (.q (.mov (.t 0)))⟩, ⟨(some 29), (some ⟨21, true⟩), (.q (.mov (.t 3)))⟩, ⟨(some 30), (some ⟨21, true⟩), (.q (.mov (.t 9)))⟩, ⟨(some 31), (some ⟨21, true⟩), (.q (.bin .add (.t 29) (.t 30)))⟩, ⟨(some 32), (some ⟨21, true⟩), (.q (.bin .add (.t 31) (.c (.int .i64 1))))⟩, ⟨(some 33), (some ⟨21, true⟩), (.q (.iaddr 1 (.t 28) (.t 32)))⟩, ⟨(some 34), (some ⟨21, true⟩), (.q (.load none (.t 33)))⟩, ⟨(some 35), (some ⟨21, true⟩), (.call 79 [(.t 27), (.t 34)])⟩, ⟨(some 36), none, (.q (.pick (.t 21) (.t 35) (.c (.bool false))))⟩] false [0, 2, 3, 8, 9, 36])
        (.cond (.t 36)
         (.reg 4 [⟨(some 37), none, (.q (.mov (.t 9)))⟩, ⟨(some 38), none, (.q (.bin .add (.t 37) (.c (.int .i64 1))))⟩, ⟨(some 9), none, (.q (.mov (.t 38)))⟩] [0, 2, 3, 8, 9])
         .skip))
       (.seq
        (.seq
         (.dreg 5 [⟨(some 39), none, (.q (.mov (.t 0)))⟩, ⟨(some 40), none, (.q (.mov (.t 3)))⟩, ⟨(some 41), none, (.q (.mov (.t 8)))⟩, ⟨(some 42), none, (.q (.bin .add (.t 40) (.t 41)))⟩, ⟨(some 43), none, (.q (.iaddr 1 (.t 39) (.t 42)))⟩, ⟨(some 44), none, (.q (.load none (.t 43)))⟩, ⟨(some 45), none, (.q (.mov (.t 0)))⟩, ⟨(some 46), none, (.q (.mov (.t 3)))⟩, ⟨(some 47), none, (.q (.mov (.t 9)))⟩, ⟨(some 48), none, (.q (.bin .add (.t 46) (.t 47)))⟩, ⟨(some 49), none, (.q (.iaddr 1 (.t 45) (.t 48)))⟩, ⟨(some 50), none, (.q (.load none (.t 49)))⟩, ⟨(some 51), none, (.call 79 [(.t 44), (.t 50)])⟩, ⟨(some 52), none, (.q (.not (.t 51)))⟩] false [0, 2, 3, 8, 9, 52])
         (.cond (.t 52)
          .ret
          .skip))
        (.seq
         (.dreg 6 [⟨(some 53), none, (.q (.mov (.t 0)))⟩, ⟨(some 54), none, (.q (.mov (.t 3)))⟩, ⟨(some 55), none, (.q (.mov (.t 8)))⟩, ⟨(some 56), none, (.q (.bin .add (.t 54) (.t 55)))⟩, ⟨(some 57), none, (.q (.mov (.t 0)))⟩, ⟨(some 58), none, (.q (.mov (.t 3)))⟩, ⟨(some 59), none, (.q (.mov (.t 9)))⟩, ⟨(some 60), none, (.q (.bin .add (.t 58) (.t 59)))⟩, ⟨(some 61), none, (.q (.mov (.t 0)))⟩, ⟨(some 62), none, (.q (.mov (.t 3)))⟩, ⟨(some 63), none, (.q (.mov (.t 9)))⟩, ⟨(some 64), none, (.q (.bin .add (.t 62) (.t 63)))⟩, ⟨(some 65), none, (.q (.iaddr 1 (.t 61) (.t 64)))⟩, ⟨(some 66), none, (.q (.load none (.t 65)))⟩, ⟨(some 67), none, (.q (.mov (.t 0)))⟩, ⟨(some 68), none, (.q (.mov (.t 3)))⟩, ⟨(some 69), none, (.q (.mov (.t 8)))⟩, ⟨(some 70), none, (.q (.bin .add (.t 68) (.t 69)))⟩, ⟨(some 71), none, (.q (.iaddr 1 (.t 67) (.t 70)))⟩, ⟨(some 72), none, (.q (.load none (.t 71)))⟩, ⟨(some 73), none, (.q (.iaddr 1 (.t 53) (.t 56)))⟩, ⟨none, none, (.store 1 (.t 73) (.t 66))⟩, ⟨(some 74), none, (.q (.iaddr 1 (.t 57) (.t 60)))⟩, ⟨none, none, (.store 1 (.t 74) (.t 72))⟩] false [0, 2, 3, 9])
         (.reg 7 [⟨(some 75), none, (.q (.mov (.t 9)))⟩, ⟨(some 8), none, (.q (.mov (.t 75)))⟩] [0, 2, 3, 8]))))))))))
theorem fok92 : FOK Tryd.prog 92 (76, ic92, []) := .mk (pf := []) (an := [(0, [0, 2, 3, 8]), (1, [0, 2, 3, 8, 9]), (2, [0, 2, 3, 8, 9, 16]), (3, [0, 2, 3, 8, 9, 36]), (4, [0, 2, 3, 8, 9]), (5, [0, 2, 3, 8, 9, 52]), (6, [0, 2, 3, 9]), (7, [0, 2, 3, 8])]) (by kernel_rfl) (fnOK_of Tryd.func92 (by kernel_rfl) (by kernel_rfl) (by kernel_rfl))
/-- slices.nextPowerOfTwo -/
def ic93 : IC :=
(.seq
 (.reg 0 [⟨(some 2), none, (.q (.mov (.c (.int .u64 0))))⟩] [0])
 (.seq
  (.reg 1 [⟨(some 3), none, (.q (.mov (.t 0)))⟩, ⟨(some 4), none, (.q (.conv .u64 (.t 3)))⟩, ⟨(some 5), none, (.call 55 [(.t 4)])⟩, ⟨(some 6), none, (.q (.bin .shl (.c (.int .u64 1)) (.t 5)))⟩, ⟨(some 2), none, (.q (.mov (.t 6)))⟩] [2])
  .ret))
theorem fok93 : FOK Tryd.prog 93 (7, ic93, [(.t 2)]) := .mk (pf := []) (an := [(0, [0]), (1, [2])]) (by kernel_rfl) (fnOK_of Tryd.func93 (by kernel_rfl) (by kernel_rfl) (by kernel_rfl))
/-- (*slices.xorshift).Next -/
def ic94 : IC :=
(.seq
 (.reg 0 [⟨(some 2), none, (.q (.mov (.c (.int .u64 0))))⟩] [0])
 (.seq
  (.dreg 1 [⟨(some 3), none, (.q (.mov (.t 0)))⟩, ⟨(some 4), none, (.q (.nchk (.t 3)))⟩, ⟨(some 5), none, (.q (.load none (.t 4)))⟩, ⟨(some 6), none, (.q (.mov (.t 0)))⟩, ⟨(some 7), none, (.q (.nchk (.t 6)))⟩, ⟨(some 8), none, (.q (.load none (.t 7)))⟩, ⟨(some 9), none, (.q (.bin .shl (.t 8) (.c (.int .u64 13))))⟩, ⟨(some 10), none, (.q (.bin .xor (.t 5) (.t 9)))⟩, ⟨(some 11), none, (.q (.nchk (.t 3)))⟩, ⟨none, none, (.store 1 (.t 11) (.t 10))⟩] false [0])
  (.seq
   (.dreg 2 [⟨(some 12), none, (.q (.mov (.t 0)))⟩, ⟨(some 13), none, (.q (.nchk (.t 12)))⟩, ⟨(some 14), none, (.q (.load none (.t 13)))⟩, ⟨(some 15), none, (.q (.mov (.t 0)))⟩, ⟨(some 16), none, (.q (.nchk (.t 15)))⟩, ⟨(some 17), none, (.q (.load none (.t 16)))⟩, ⟨(some 18), none, (.q (.bin .shr (.t 17) (.c (.int .u64 7))))⟩, ⟨(some 19), none, (.q (.bin .xor (.t 14) (.t 18)))⟩, ⟨(some 20), none, (.q (.nchk (.t 12)))⟩, ⟨none, none, (.store 1 (.t 20) (.t 19))⟩] false [0])
   (.seq
    (.dreg 3 [⟨(some 21), none, (.q (.mov (.t 0)))⟩, ⟨(some 22), none, (.q (.nchk (.t 21)))⟩, ⟨(some 23), none, (.q (.load none (.t 22)))⟩, ⟨(some 24), none, (.q (.mov (.t 0)))⟩, ⟨(some 25), none, (.q (.nchk (.t 24)))⟩, ⟨(some 26), none, (.q (.load none (.t 25)))⟩, ⟨(some 27), none, (.q (.bin .shl (.t 26) (.c (.int .u64 17))))⟩, ⟨(some 28), none, (.q (.bin .xor (.t 23) (.t 27)))⟩, ⟨(some 29), none, (.q (.nchk (.t 21)))⟩, ⟨none, none, (.store 1 (.t 29) (.t 28))⟩] false [0])
    (.seq
     (.reg 4 [⟨(some 30), none, (.q (.mov (.t 0)))⟩, ⟨(some 31), none, (.q (.nchk (.t 30)))⟩, ⟨(some 32), none, (.q (.load none (.t 31)))⟩, ⟨(some 2), none, (.q (.mov (.t 32)))⟩] [2])
     .ret)))))
theorem fok94 : FOK Tryd.prog 94 (33, ic94, [(.t 2)]) := .mk (pf := []) (an := [(0, [0]), (1, [0]), (2, [0]), (3, [0]), (4, [2])]) (by kernel_rfl) (fnOK_of Tryd.func94 (by kernel_rfl) (by kernel_rfl) (by kernel_rfl))
/-- slices.medianAdjacentOrdered[string] -/
def ic95 : IC :=
(.seq
 (.reg 0 [⟨(some 6), none, (.q (.mov (.c (.int .i64 0))))⟩] [0, 1, 2])
 (.seq
  (.reg 1 [⟨(some 7), none, (.q (.mov (.t 0)))⟩, ⟨(some 8), none, (.q (.mov (.t 1)))⟩, ⟨(some 9), none, (.q (.bin .sub (.t 8) (.c (.int .i64 1))))⟩, ⟨(some 10), none, (.q (.mov (.t 1)))⟩, ⟨(some 11), none, (.q (.mov (.t 1)))⟩, ⟨(some 12), none, (.q (.bin .add (.t 11) (.c (.int .i64 1))))⟩, ⟨(some 13), none, (.q (.mov (.t 2)))⟩, ⟨(some 14), none, (.call 96 [(.t 7), (.t 9), (.t 10), (.t 12), (.t 13)])⟩, ⟨(some 6), none, (.q (.mov (.t 14)))⟩] [6])
  .ret))
theorem fok95 : FOK Tryd.prog 95 (15, ic95, [(.t 6)]) := .mk (pf := []) (an := [(0, [0, 1, 2]), (1, [6])]) (by kernel_rfl) (fnOK_of Tryd.func95 (by kernel_rfl) (by kernel_rfl) (by kernel_rfl))
/-- slices.medianOrdered[string] -/
def ic96 : IC :=
(.seq
 (.reg 0 [⟨(some 10), none, (.q (.mov (.c (.int .i64 0))))⟩] [0, 1, 2, 3, 4])
 (.seq
  (.reg 1 [⟨(some 12), none, (.q (.mov (.t 0)))⟩, ⟨(some 13), none, (.q (.mov (.t 1)))⟩, ⟨(some 14), none, (.q (.mov (.t 2)))⟩, ⟨(some 15), none, (.q (.mov (.t 4)))⟩, ⟨(some 16), none, (.call 99 [(.t 12), (.t 13), (.t 14), (.t 15)])⟩, ⟨(some 11), none, (.q (.mov (.t 16)))⟩, ⟨(some 17), none, (.q (.ext 0 (.t 11)))⟩, ⟨(some 18), none, (.q (.ext 1 (.t 11)))⟩, ⟨(some 1), none, (.q (.mov (.t 17)))⟩, ⟨(some 2), none, (.q (.mov (.t 18)))⟩] [0, 1, 2, 3, 4])
  (.seq
   (.reg 2 [⟨(some 20), none, (.q (.mov (.t 0)))⟩, ⟨(some 21), none, (.q (.mov (.t 2)))⟩, ⟨(some 22), none, (.q (.mov (.t 3)))⟩, ⟨(some 23), none, (.q (.mov (.t 4)))⟩, ⟨(some 24), none, (.call 99 [(.t 20), (.t 21), (.t 22), (.t 23)])⟩, ⟨(some 19), none, (.q (.mov (.t 24)))⟩, ⟨(some 25), none, (.q (.ext 0 (.t 19)))⟩, ⟨(some 26), none, (.q (.ext 1 (.t 19)))⟩, ⟨(some 2), none, (.q (.mov (.t 25)))⟩, ⟨(some 3), none, (.q (.mov (.t 26)))⟩] [0, 1, 2, 4])
   (.seq
    (.reg 3 [⟨(some 28), none, (.q (.mov (.t 0)))⟩, ⟨(some 29), none, (.q (.mov (.t 1)))⟩, ⟨(some 30), none, (.q (.mov (.t 2)))⟩, ⟨(some 31), none, (.q (.mov (.t 4)))⟩, ⟨(some 32), none, (.call 99 [(.t 28), (.t 29), (.t 30), (.t 31)])⟩, ⟨(some 27), none, (.q (.mov (.t 32)))⟩, ⟨(some 33), none, (.q (.ext 0 (.t 27)))⟩, ⟨(some 34), none, (.q (.ext 1 (.t 27)))⟩, ⟨(some 1), none, (.q (.mov (.t 33)))⟩, ⟨(some 2), none, (.q (.mov (.t 34)))⟩] [2])
    (.seq
     (.reg 4 [⟨(some 35), none, (.q (.mov (.t 2)))⟩, ⟨(some 10), none, (.q (.mov (.t 35)))⟩] [10])
     .ret)))))
theorem fok96 : FOK Tryd.prog 96 (36, ic96, [(.t 10)]) := .mk (pf := []) (an := [(0, [0, 1, 2, 3, 4]), (1, [0, 1, 2, 3, 4]), (2, [0, 1, 2, 4]), (3, [2]), (4, [10])]) (by kernel_rfl) (fnOK_of Tryd.func96 (by kernel_rfl) (by kernel_rfl) (by kernel_rfl))
/-- cmp.isNaN[string] -/
def ic97 : IC :=
(.seq
 (.reg 0 [⟨(some 2), none, (.q (.mov (.c (.bool false))))⟩] [0])
 (.seq
  (.reg 1 [⟨(some 3), none, (.q (.mov (.t 0)))⟩, ⟨(some 4), none, (.q (.mov (.t 0)))⟩, ⟨(some 5), none, (.q (.bin .neq (.t 3) (.t 4)))⟩, ⟨(some 2), none, (.q (.mov (.t 5)))⟩] [2])
  .ret))
theorem fok97 : FOK Tryd.prog 97 (6, ic97, [(.t 2)]) := .mk (pf := []) (an := [(0, [0]), (1, [2])]) (by kernel_rfl) (fnOK_of Tryd.func97 (by kernel_rfl) (by kernel_rfl) (by kernel_rfl))
/-- slices.order2Ordered[string] -/
def ic99 : IC :=
(.seq
 (.reg 0 [⟨(some 8), none, (.q (.mov (.c (.int .i64 0))))⟩, ⟨(some 9), none, (.q (.mov (.c (.int .i64 0))))⟩] [0, 1, 2, 3])
 (.seq
  (.seq
   (.dreg 1 [⟨(some 10), none, (.q (.mov (.t 0)))⟩, ⟨(some 11), none, (.q (.mov (.t 2)))⟩, ⟨(some 12), none, (.q (.iaddr 1 (.t 10) (.t 11)))⟩, ⟨(some 13), none, (.q (.load none (.t 12)))⟩, ⟨(some 14), none, (.q (.mov (.t 0)))⟩, ⟨(some 15), none, (.q (.mov (.t 1)))⟩, ⟨(some 16), none, (.q (.iaddr 1 (.t 14) (.t 15)))⟩, ⟨(some 17), none, (.q (.load none (.t 16)))⟩, ⟨(some 18), none, (.call 79 [(.t 13), (.t 17)])⟩] false [1, 2, 3, 18])
   (.cond (.t 18)
    (.seq
     (.reg 2 [⟨(some 19), none, (.q (.mov (.t 3)))⟩, ⟨(some 20), none, (.q (.nchk (.t 19)))⟩, ⟨(some 21), none, (.q (.load none (.t 20)))⟩, ⟨(some 22), none, (.q (.bin .add (.t 21) (.c (.int .i64 1))))⟩, ⟨(some 23), none, (.q (.nchk (.t 19)))⟩, ⟨none, none, (.store 1 (.t 23) (.t 22))⟩] [1, 2])
     (.seq
      (.reg 3 [⟨(some 24), none, (.q (.mov (.t 2)))⟩, ⟨(some 25), none, (.q (.mov (.t 1)))⟩, ⟨(some 8), none, (.q (.mov (.t 24)))⟩, ⟨(some 9), none, (.q (.mov (.t 25)))⟩] [8, 9])
      .ret))
    .skip))
  (.seq
   (.reg 4 [⟨(some 26), none, (.q (.mov (.t 1)))⟩, ⟨(some 27), none, (.q (.mov (.t 2)))⟩, ⟨(some 8), none, (.q (.mov (.t 26)))⟩, ⟨(some 9), none, (.q (.mov (.t 27)))⟩] [8, 9])
   .ret)))
theorem fok99 : FOK Tryd.prog 99 (28, ic99, [(.t 8), (.t 9)]) := .mk (pf := []) (an := [(0, [0, 1, 2, 3]), (1, [1, 2, 3, 18]), (2, [1, 2]), (3, [8, 9]), (4, [8, 9])]) (by kernel_rfl) (fnOK_of Tryd.func99 (by kernel_rfl) (by kernel_rfl) (by kernel_rfl))
/-- gosem.cut.vars -/
def ic121 : IC :=
(.seq
 (.reg 0 [⟨(some 0), none, .mkmap⟩, ⟨none, none, (.store 1 (.g 1) (.t 0))⟩] [])
 (.seq
  (.reg 1 [⟨(some 1), none, (.q (.load none (.g 1)))⟩, ⟨none, none, (.mupd 2 (.t 1) (.c (.str [])) (.c (.int .u8 0)))⟩] [])
  (.seq
   (.reg 2 [⟨(some 2), none, (.q (.load none (.g 1)))⟩, ⟨none, none, (.mupd 2 (.t 2) (.c (.str [60])) (.c (.int .u8 1)))⟩] [])
   (.seq
    (.reg 3 [⟨(some 3), none, (.q (.load none (.g 1)))⟩, ⟨none, none, (.mupd 2 (.t 3) (.c (.str [61])) (.c (.int .u8 2)))⟩] [])
    (.seq
     (.reg 4 [⟨(some 4), none, (.q (.load none (.g 1)))⟩, ⟨none, none, (.mupd 2 (.t 4) (.c (.str [62])) (.c (.int .u8 4)))⟩] [])
     (.seq
      (.reg 5 [⟨(some 5), none, (.q (.load none (.g 1)))⟩, ⟨none, none, (.mupd 2 (.t 5) (.c (.str [60, 61])) (.c (.int .u8 3)))⟩] [])
      (.seq
       (.reg 6 [⟨(some 6), none, (.q (.load none (.g 1)))⟩, ⟨none, none, (.mupd 2 (.t 6) (.c (.str [62, 61])) (.c (.int .u8 6)))⟩] [])
       (.reg 7 [⟨(some 7), none, (.q (.bld [(.str []), (.str []), (.str []), (.str []), (.str []), (.str []), (.str [])] [⟨0, ⟨1, (.c (.str [97, 110, 100]))⟩⟩, ⟨1, ⟨1, (.c (.str [111, 114]))⟩⟩, ⟨2, ⟨1, (.c (.str [105, 102]))⟩⟩, ⟨3, ⟨1, (.c (.str [101, 108, 115, 101]))⟩⟩, ⟨4, ⟨1, (.c (.str [117, 110, 108, 101, 115, 115]))⟩⟩, ⟨5, ⟨1, (.c (.str [119, 105, 116, 104]))⟩⟩, ⟨6, ⟨1, (.c (.str [119, 105, 116, 104, 111, 117, 116]))⟩⟩]))⟩, ⟨none, none, (.store 7 (.g 0) (.t 7))⟩] []))))))))
theorem fok121 : FOK Tryd.prog 121 (8, ic121, []) := .mk (pf := []) (an := []) (by kernel_rfl) (fnOK_of Tryd.func121 (by kernel_rfl) (by kernel_rfl) (by kernel_rfl))
end Go.Id.Tryd
