/- The compiled codes of functions, written by a program out of the given form. Conditions: none. -/
import Derived.Test.YtmiphpgenbddoaaGreatDoorFwW
import Derived.Test.YtmiphpgenbddoaaGreatDoorProg
set_option linter.all false
namespace Go.Id.Tryz
open Go Go.Id Go.Proofs
def allF0 : List Nat := List.range 242
/-- chandlery/chandlerylaw13.MatchNames -/
def ic7 : IC :=
(.seq
 (.reg 0 [⟨(some 0), none, (.q (.mov (.c (.bool false))))⟩] [])
 (.seq
  (.reg 1 [⟨(some 1), none, (.q (.mov (.c .nilptr)))⟩] [1])
  (.seq
   (.reg 2 [⟨(some 9), none, (.pcall 36 [(.c .nilptr)])⟩, ⟨(some 8), none, (.q (.mov (.t 9)))⟩, ⟨(some 10), none, (.q (.ext 0 (.t 8)))⟩, ⟨(some 11), none, (.q (.ext 1 (.t 8)))⟩, ⟨(some 2), none, (.q (.mov (.t 10)))⟩, ⟨(some 3), none, (.q (.mov (.t 11)))⟩] [1, 3])
   (.seq
    (.seq
     (.reg 3 [⟨(some 12), none, (.pcall 30 [])⟩, ⟨(some 13), none, (.q (.not (.t 12)))⟩, ⟨(some 14), none, (.q (.mov (.t 13)))⟩, ⟨(some 15), none, (.q (.pick (.t 14) (.c (.bool true)) (.c (.bool false))))⟩, ⟨(some 16), none, (.q (.mov (.t 15)))⟩, ⟨(some 17), none, (.q (.pick (.t 16) (.c (.bool true)) (.c (.bool false))))⟩, ⟨(some 18), none, (.q (.mov (.t 17)))⟩, ⟨(some 19), none, (.q (.pick (.t 18) (.c (.bool true)) (.c (.bool false))))⟩, ⟨(some 20), none, (.q (.mov (.t 19)))⟩, ⟨(some 21), (some ⟨20, false⟩), (.q (.mov (.t 3)))⟩, ⟨(some 22), (some ⟨20, false⟩), (.q (.bin .neq (.t 21) (.c (.int .i64 2))))⟩, ⟨(some 23), none, (.q (.pick (.t 20) (.c (.bool true)) (.t 22)))⟩, ⟨(some 24), none, (.q (.mov (.t 23)))⟩, ⟨(some 25), (some ⟨24, false⟩), (.q (.mov (.t 1)))⟩, ⟨(some 26), (some ⟨24, false⟩), (.pcall 38 [(.c (.str [97])), (.c (.int .u8 0)), (.c (.str []))])⟩, ⟨(some 27), (some ⟨24, false⟩), (.pcall 37 [(.t 25), (.t 26)])⟩, ⟨(some 28), (some ⟨24, false⟩), (.q (.len 0 (.t 27)))⟩, ⟨(some 29), (some ⟨24, false⟩), (.q (.mov (.t 1)))⟩, ⟨(some 30), (some ⟨24, false⟩), (.pcall 38 [(.c (.str [97])), (.c (.int .u8 0)), (.c (.str []))])⟩, ⟨(some 31), (some ⟨24, false⟩), (.pcall 39 [(.t 29), (.t 30)])⟩, ⟨(some 32), (some ⟨24, false⟩), (.q (.len 0 (.t 31)))⟩, ⟨(some 33), (some ⟨24, false⟩), (.q (.bin .add (.t 28) (.t 32)))⟩, ⟨(some 34), (some ⟨24, false⟩), (.q (.mov (.t 1)))⟩, ⟨(some 35), (some ⟨24, false⟩), (.pcall 33 [(.t 34), (.c (.int .i64 0))])⟩, ⟨(some 36), (some ⟨24, false⟩), (.q (.len 0 (.t 35)))⟩, ⟨(some 37), (some ⟨24, false⟩), (.q (.bin .add (.t 33) (.t 36)))⟩, ⟨(some 38), (some ⟨24, false⟩), (.q (.mov (.t 1)))⟩, ⟨(some 39), (some ⟨24, false⟩), (.pcall 34 [(.t 38), (.c (.int .i64 0))])⟩, ⟨(some 40), (some ⟨24, false⟩), (.q (.len 0 (.t 39)))⟩, ⟨(some 41), (some ⟨24, false⟩), (.q (.bin .add (.t 37) (.t 40)))⟩, ⟨(some 42), (some ⟨24, false⟩), (.q (.bin .neq (.t 41) (.c (.int .i64 0))))⟩, ⟨(some 43), none, (.q (.pick (.t 24) (.c (.bool true)) (.t 42)))⟩] [43])
     (.cond (.t 43)
      (.seq
       (.reg 4 [⟨(some 0), none, (.q (.mov (.c (.bool false))))⟩] [0])
       .ret)
      .skip))
    (.seq
     (.reg 5 [⟨(some 44), none, (.pcall 40 [(.c (.str [97]))])⟩, ⟨(some 4), none, (.alloc [(.str []), (.int .i64 0), (.str []), (.str []), (.int .u8 0), (.str []), .nilslice, .nilslice, .nilslice, .nilslice, .nilslice, .nilslice, .nilslice, .nilslice, .nilslice])⟩, ⟨none, none, (.store 15 (.t 4) (.t 44))⟩] [4])
     (.seq
      (.reg 6 [⟨(some 45), none, (.pcall 38 [(.c (.str [97])), (.c (.int .u8 2)), (.c (.str [51]))])⟩, ⟨(some 46), none, (.pcall 38 [(.c (.str [97])), (.c (.int .u8 2)), (.c (.str [52]))])⟩, ⟨(some 47), none, (.pcall 38 [(.c (.str [97])), (.c (.int .u8 0)), (.c (.str []))])⟩, ⟨(some 48), none, (.bslt 5 3 [(.str []), (.int .u8 0), (.int .i64 0), (.str []), (.str [])] [⟨0, ⟨5, (.t 45)⟩⟩, ⟨5, ⟨5, (.t 46)⟩⟩, ⟨10, ⟨5, (.t 47)⟩⟩])⟩, ⟨(some 49), none, (.q (.faddr 6 (.t 4)))⟩, ⟨none, none, (.store 1 (.t 49) (.t 48))⟩] [4])
      (.seq
       (.reg 7 [⟨(some 50), none, (.pcall 38 [(.c (.str [97])), (.c (.int .u8 0)), (.c (.str []))])⟩, ⟨(some 51), none, (.pcall 38 [(.c (.str [98])), (.c (.int .u8 0)), (.c (.str []))])⟩, ⟨(some 52), none, (.pcall 38 [(.c (.str [98])), (.c (.int .u8 1)), (.c (.str [57]))])⟩, ⟨(some 53), none, (.bslt 5 3 [(.str []), (.int .u8 0), (.int .i64 0), (.str []), (.str [])] [⟨0, ⟨5, (.t 50)⟩⟩, ⟨5, ⟨5, (.t 51)⟩⟩, ⟨10, ⟨5, (.t 52)⟩⟩])⟩, ⟨(some 54), none, (.q (.faddr 9 (.t 4)))⟩, ⟨none, none, (.store 1 (.t 54) (.t 53))⟩] [4])
       (.seq
        (.dreg 8 [⟨(some 56), none, (.pcall 41 [])⟩, ⟨(some 57), none, (.q (.slc 15 (.t 56) none (some (.c (.int .i64 1)))))⟩, ⟨(some 58), none, (.q (.bld [(.int .i64 0), .nilslice] [⟨1, ⟨1, (.t 57)⟩⟩]))⟩, ⟨(some 59), none, (.q (.load (some 15) (.t 4)))⟩, ⟨(some 60), none, (.pcall 40 [(.c (.str [98]))])⟩, ⟨(some 61), none, (.bslt 15 2 [(.str []), (.int .i64 0), (.str []), (.str []), (.int .u8 0), (.str []), .nilslice, .nilslice, .nilslice, .nilslice, .nilslice, .nilslice, .nilslice, .nilslice, .nilslice] [⟨0, ⟨15, (.t 59)⟩⟩, ⟨15, ⟨15, (.t 60)⟩⟩])⟩, ⟨(some 62), none, (.q (.bld [(.int .i64 0), .nilslice] [⟨1, ⟨1, (.t 61)⟩⟩]))⟩, ⟨(some 63), none, (.bslt 2 2 [(.int .i64 0), .nilslice] [⟨0, ⟨2, (.t 58)⟩⟩, ⟨2, ⟨2, (.t 62)⟩⟩])⟩, ⟨(some 64), none, (.pcall 41 [])⟩, ⟨(some 65), none, (.q (.slc 15 (.t 64) (some (.c (.int .i64 1))) none))⟩, ⟨(some 66), none, (.pcall 32 [(.t 63), (.t 65)])⟩, ⟨(some 55), none, (.q (.mov (.t 66)))⟩, ⟨(some 67), none, (.q (.ext 0 (.t 55)))⟩, ⟨(some 68), none, (.q (.ext 1 (.t 55)))⟩, ⟨(some 69), none, (.q (.ext 2 (.t 55)))⟩, ⟨(some 5), none, (.q (.mov (.t 67)))⟩, ⟨(some 6), none, (.q (.mov (.t 68)))⟩, ⟨(some 7), none, (.q (.mov (.t 69)))⟩] false [5, 7])
        (.seq
         (.seq
          (.reg 9 [⟨(some 70), none, (.q (.mov (.t 7)))⟩, ⟨(some 71), none, (.q (.not (.t 70)))⟩] [5, 71])
          (.cond (.t 71)
           (.seq
            (.reg 10 [⟨(some 0), none, (.q (.mov (.c (.bool false))))⟩] [0])
            .ret)
           .skip))
         (.seq
          (.reg 11 [⟨(some 72), none, (.q (.mov (.t 5)))⟩, ⟨(some 73), none, (.pcall 38 [(.c (.str [97])), (.c (.int .u8 0)), (.c (.str []))])⟩, ⟨(some 74), none, (.pcall 37 [(.t 72), (.t 73)])⟩, ⟨(some 75), none, (.bslt 1 3 [(.int .i64 0)] [⟨0, ⟨1, (.c (.int .i64 0))⟩⟩, ⟨1, ⟨1, (.c (.int .i64 2))⟩⟩, ⟨2, ⟨1, (.c (.int .i64 3))⟩⟩])⟩, ⟨(some 76), none, (.pcall 42 [(.t 74), (.t 75)])⟩, ⟨(some 77), none, (.q (.mov (.t 76)))⟩, ⟨(some 78), (some ⟨77, true⟩), (.q (.mov (.t 5)))⟩, ⟨(some 79), (some ⟨77, true⟩), (.pcall 38 [(.c (.str [97])), (.c (.int .u8 0)), (.c (.str []))])⟩, ⟨(some 80), (some ⟨77, true⟩), (.pcall 39 [(.t 78), (.t 79)])⟩, ⟨(some 81), (some ⟨77, true⟩), (.bslt 1 2 [(.int .i64 0)] [⟨0, ⟨1, (.c (.int .i64 2))⟩⟩, ⟨1, ⟨1, (.c (.int .i64 3))⟩⟩])⟩, ⟨(some 82), (some ⟨77, true⟩), (.pcall 42 [(.t 80), (.t 81)])⟩, ⟨(some 83), none, (.q (.pick (.t 77) (.t 82) (.c (.bool false))))⟩, ⟨(some 84), none, (.q (.mov (.t 83)))⟩, ⟨(some 85), (some ⟨84, true⟩), (.q (.mov (.t 5)))⟩, ⟨(some 86), (some ⟨84, true⟩), (.pcall 38 [(.c (.str [97])), (.c (.int .u8 2)), (.c (.str [51]))])⟩, ⟨(some 87), (some ⟨84, true⟩), (.pcall 37 [(.t 85), (.t 86)])⟩, ⟨(some 88), (some ⟨84, true⟩), (.bslt 1 1 [(.int .i64 0)] [⟨0, ⟨1, (.c (.int .i64 3))⟩⟩])⟩, ⟨(some 89), (some ⟨84, true⟩), (.pcall 42 [(.t 87), (.t 88)])⟩, ⟨(some 90), none, (.q (.pick (.t 84) (.t 89) (.c (.bool false))))⟩, ⟨(some 91), none, (.q (.mov (.t 90)))⟩, ⟨(some 92), (some ⟨91, true⟩), (.q (.mov (.t 5)))⟩, ⟨(some 93), (some ⟨91, true⟩), (.pcall 38 [(.c (.str [97])), (.c (.int .u8 2)), (.c (.str [50]))])⟩, ⟨(some 94), (some ⟨91, true⟩), (.pcall 37 [(.t 92), (.t 93)])⟩, ⟨(some 95), (some ⟨91, true⟩), (.bslt 1 2 [(.int .i64 0)] [⟨0, ⟨1, (.c (.int .i64 0))⟩⟩, ⟨1, ⟨1, (.c (.int .i64 3))⟩⟩])⟩, ⟨(some 96), (some ⟨91, true⟩), (.pcall 42 [(.t 94), (.t 95)])⟩, ⟨(some 97), none, (.q (.pick (.t 91) (.t 96) (.c (.bool false))))⟩, ⟨(some 98), none, (.q (.mov (.t 97)))⟩, ⟨(some 99), (some ⟨98, true⟩), (.q (.mov (.t 5)))⟩, ⟨(some 100), (some ⟨98, true⟩), (.pcall 38 [(.c (.str [98])), (.c (.int .u8 2)), (.c (.str [49]))])⟩, ⟨(some 101), (some ⟨98, true⟩), (.pcall 39 [(.t 99), (.t 100)])⟩, ⟨(some 102), (some ⟨98, true⟩), (.bslt 1 2 [(.int .i64 0)] [⟨0, ⟨1, (.c (.int .i64 0))⟩⟩, ⟨1, ⟨1, (.c (.int .i64 4))⟩⟩])⟩, ⟨(some 103), (some ⟨98, true⟩), (.pcall 42 [(.t 101), (.t 102)])⟩, ⟨(some 104), none, (.q (.pick (.t 98) (.t 103) (.c (.bool false))))⟩, ⟨(some 105), none, (.q (.mov (.t 104)))⟩, ⟨(some 106), (some ⟨105, true⟩), (.q (.mov (.t 5)))⟩, ⟨(some 107), (some ⟨105, true⟩), (.pcall 33 [(.t 106), (.c (.int .i64 3))])⟩, ⟨(some 108), (some ⟨105, true⟩), (.bslt 1 3 [(.int .i64 0)] [⟨0, ⟨1, (.c (.int .i64 0))⟩⟩, ⟨1, ⟨1, (.c (.int .i64 2))⟩⟩, ⟨2, ⟨1, (.c (.int .i64 4))⟩⟩])⟩, ⟨(some 109), (some ⟨105, true⟩), (.pcall 42 [(.t 107), (.t 108)])⟩, ⟨(some 110), none, (.q (.pick (.t 105) (.t 109) (.c (.bool false))))⟩, ⟨(some 111), none, (.q (.mov (.t 110)))⟩, ⟨(some 112), (some ⟨111, true⟩), (.q (.mov (.t 5)))⟩, ⟨(some 113), (some ⟨111, true⟩), (.pcall 34 [(.t 112), (.c (.int .i64 2))])⟩, ⟨(some 114), (some ⟨111, true⟩), (.bslt 1 2 [(.int .i64 0)] [⟨0, ⟨1, (.c (.int .i64 0))⟩⟩, ⟨1, ⟨1, (.c (.int .i64 3))⟩⟩])⟩, ⟨(some 115), (some ⟨111, true⟩), (.pcall 42 [(.t 113), (.t 114)])⟩, ⟨(some 116), none, (.q (.pick (.t 111) (.t 115) (.c (.bool false))))⟩, ⟨(some 117), none, (.q (.mov (.t 116)))⟩, ⟨(some 118), (some ⟨117, true⟩), (.q (.mov (.t 5)))⟩, ⟨(some 119), (some ⟨117, true⟩), (.pcall 34 [(.t 118), (.c (.int .i64 3))])⟩, ⟨(some 120), (some ⟨117, true⟩), (.bslt 1 1 [(.int .i64 0)] [⟨0, ⟨1, (.c (.int .i64 0))⟩⟩])⟩, ⟨(some 121), (some ⟨117, true⟩), (.pcall 42 [(.t 119), (.t 120)])⟩, ⟨(some 122), none, (.q (.pick (.t 117) (.t 121) (.c (.bool false))))⟩, ⟨(some 123), none, (.q (.mov (.t 122)))⟩, ⟨(some 124), (some ⟨123, true⟩), (.q (.mov (.t 5)))⟩, ⟨(some 125), (some ⟨123, true⟩), (.pcall 33 [(.t 124), (.c (.int .i64 0))])⟩, ⟨(some 126), (some ⟨123, true⟩), (.bslt 1 2 [(.int .i64 0)] [⟨0, ⟨1, (.c (.int .i64 2))⟩⟩, ⟨1, ⟨1, (.c (.int .i64 3))⟩⟩])⟩, ⟨(some 127), (some ⟨123, true⟩), (.pcall 42 [(.t 125), (.t 126)])⟩, ⟨(some 128), none, (.q (.pick (.t 123) (.t 127) (.c (.bool false))))⟩, ⟨(some 129), none, (.q (.mov (.t 128)))⟩, ⟨(some 130), (some ⟨129, true⟩), (.q (.mov (.t 5)))⟩, ⟨(some 131), (some ⟨129, true⟩), (.pcall 38 [(.c (.str [47, 102])), (.c (.int .u8 2)), (.c (.str [49]))])⟩, ⟨(some 132), (some ⟨129, true⟩), (.pcall 37 [(.t 130), (.t 131)])⟩, ⟨(some 133), (some ⟨129, true⟩), (.pcall 42 [(.t 132), (.c .nilslice)])⟩, ⟨(some 134), none, (.q (.pick (.t 129) (.t 133) (.c (.bool false))))⟩, ⟨(some 135), none, (.q (.mov (.t 134)))⟩, ⟨(some 136), (some ⟨135, true⟩), (.q (.mov (.t 5)))⟩, ⟨(some 137), (some ⟨135, true⟩), (.pcall 38 [(.c (.str [47, 102])), (.c (.int .u8 0)), (.c (.str []))])⟩, ⟨(some 138), (some ⟨135, true⟩), (.pcall 39 [(.t 136), (.t 137)])⟩, ⟨(some 139), (some ⟨135, true⟩), (.pcall 42 [(.t 138), (.c .nilslice)])⟩, ⟨(some 140), none, (.q (.pick (.t 135) (.t 139) (.c (.bool false))))⟩, ⟨(some 141), none, (.q (.mov (.t 140)))⟩, ⟨(some 142), (some ⟨141, true⟩), (.q (.mov (.t 5)))⟩, ⟨(some 143), (some ⟨141, true⟩), (.pcall 33 [(.t 142), (.c (.int .i64 (-1)))])⟩, ⟨(some 144), (some ⟨141, true⟩), (.pcall 42 [(.t 143), (.c .nilslice)])⟩, ⟨(some 145), none, (.q (.pick (.t 141) (.t 144) (.c (.bool false))))⟩, ⟨(some 146), none, (.q (.mov (.t 145)))⟩, ⟨(some 147), (some ⟨146, true⟩), (.q (.mov (.t 5)))⟩, ⟨(some 148), (some ⟨146, true⟩), (.pcall 33 [(.t 147), (.c (.int .i64 5))])⟩, ⟨(some 149), (some ⟨146, true⟩), (.pcall 42 [(.t 148), (.c .nilslice)])⟩, ⟨(some 150), none, (.q (.pick (.t 146) (.t 149) (.c (.bool false))))⟩, ⟨(some 151), none, (.q (.mov (.t 150)))⟩, ⟨(some 152), (some ⟨151, true⟩), (.q (.mov (.t 5)))⟩, ⟨(some 153), (some ⟨151, true⟩), (.pcall 34 [(.t 152), (.c (.int .i64 5))])⟩, ⟨(some 154), (some ⟨151, true⟩), (.pcall 42 [(.t 153), (.c .nilslice)])⟩, ⟨(some 155), none, (.q (.pick (.t 151) (.t 154) (.c (.bool false))))⟩, ⟨(some 156), none, (.q (.mov (.t 155)))⟩, ⟨(some 157), (some ⟨156, true⟩), (.q (.mov (.t 5)))⟩, ⟨(some 158), (some ⟨156, true⟩), (.pcall 38 [(.c (.str [])), (.c (.int .u8 0)), (.c (.str []))])⟩, ⟨(some 159), (some ⟨156, true⟩), (.pcall 37 [(.t 157), (.t 158)])⟩, ⟨(some 160), (some ⟨156, true⟩), (.pcall 42 [(.t 159), (.c .nilslice)])⟩, ⟨(some 161), none, (.q (.pick (.t 156) (.t 160) (.c (.bool false))))⟩, ⟨(some 162), none, (.q (.mov (.t 161)))⟩, ⟨(some 163), (some ⟨162, true⟩), (.q (.mov (.t 5)))⟩, ⟨(some 164), (some ⟨162, true⟩), (.pcall 38 [(.c (.str [122])), (.c (.int .u8 0)), (.c (.str []))])⟩, ⟨(some 165), (some ⟨162, true⟩), (.pcall 37 [(.t 163), (.t 164)])⟩, ⟨(some 166), (some ⟨162, true⟩), (.pcall 42 [(.t 165), (.c .nilslice)])⟩, ⟨(some 167), none, (.q (.pick (.t 162) (.t 166) (.c (.bool false))))⟩, ⟨(some 0), none, (.q (.mov (.t 167)))⟩] [0])
          .ret))))))))))
theorem fok7 : FOK Tryz.prog 7 (168, ic7, [(.t 0)]) := .mk (pf := ([1000048, 1000053, 1000061, 1000063, 1000075, 1000081, 1000088, 1000095, 1000102, 1000108, 1000114, 1000120, 1000126] ++ allF0)) (an := [(1, [1]), (2, [1, 3]), (3, [43]), (4, [0]), (5, [4]), (6, [4]), (7, [4]), (8, [5, 7]), (9, [5, 71]), (10, [0]), (11, [0])]) (by kernel_rfl) (fnOK_of Tryz.func7 (by kernel_rfl) (by kernel_rfl) (by kernel_rfl))
/-- chandlery/chandlerylaw12.awake -/
def ic10 : IC :=
(.seq
 (.reg 0 [⟨(some 0), none, (.q (.mov (.c (.bool false))))⟩] [])
 (.seq
  (.reg 1 [⟨(some 6), none, (.call 28 [(.c (.str [98]))])⟩, ⟨(some 7), none, (.call 28 [(.c (.str [99]))])⟩, ⟨(some 8), none, (.bslt 15 2 [(.str []), (.int .i64 0), (.str []), (.str []), (.int .u8 0), (.str []), .nilslice, .nilslice, .nilslice, .nilslice, .nilslice, .nilslice, .nilslice, .nilslice, .nilslice] [⟨0, ⟨15, (.t 6)⟩⟩, ⟨15, ⟨15, (.t 7)⟩⟩])⟩, ⟨(some 9), none, (.q (.bld [(.int .i64 0), .nilslice] [⟨0, ⟨1, (.c (.int .i64 5))⟩⟩, ⟨1, ⟨1, (.t 8)⟩⟩]))⟩, ⟨(some 10), none, (.call 28 [(.c (.str [97]))])⟩, ⟨(some 11), none, (.bslt 15 1 [(.str []), (.int .i64 0), (.str []), (.str []), (.int .u8 0), (.str []), .nilslice, .nilslice, .nilslice, .nilslice, .nilslice, .nilslice, .nilslice, .nilslice, .nilslice] [⟨0, ⟨15, (.t 10)⟩⟩])⟩, ⟨(some 12), none, (.q (.bld [(.int .i64 0), .nilslice] [⟨0, ⟨1, (.c (.int .i64 7))⟩⟩, ⟨1, ⟨1, (.t 11)⟩⟩]))⟩, ⟨(some 13), none, (.bslt 2 2 [(.int .i64 0), .nilslice] [⟨0, ⟨2, (.t 9)⟩⟩, ⟨2, ⟨2, (.t 12)⟩⟩])⟩, ⟨(some 14), none, (.call 28 [(.c (.str [97]))])⟩, ⟨(some 15), none, (.bslt 15 1 [(.str []), (.int .i64 0), (.str []), (.str []), (.int .u8 0), (.str []), .nilslice, .nilslice, .nilslice, .nilslice, .nilslice, .nilslice, .nilslice, .nilslice, .nilslice] [⟨0, ⟨15, (.t 14)⟩⟩])⟩, ⟨(some 16), none, (.call 11 [(.t 13), (.t 15)])⟩, ⟨(some 5), none, (.q (.mov (.t 16)))⟩, ⟨(some 17), none, (.q (.ext 0 (.t 5)))⟩, ⟨(some 18), none, (.q (.ext 1 (.t 5)))⟩, ⟨(some 1), none, (.q (.mov (.t 17)))⟩, ⟨(some 2), none, (.q (.mov (.t 18)))⟩] [1, 2])
  (.seq
   (.seq
    (.reg 2 [⟨(some 19), none, (.q (.mov (.t 2)))⟩, ⟨(some 20), none, (.q (.bin .neq (.t 19) (.c (.int .i64 0))))⟩] [1, 20])
    (.cond (.t 20)
     (.seq
      (.reg 3 [⟨(some 0), none, (.q (.mov (.c (.bool false))))⟩] [0])
      .ret)
     .skip))
   (.seq
    (.reg 4 [⟨(some 22), none, (.q (.mov (.t 1)))⟩, ⟨(some 23), none, (.call 23 [(.t 22), (.c (.int .i64 2))])⟩, ⟨(some 21), none, (.q (.mov (.t 23)))⟩, ⟨(some 24), none, (.q (.ext 0 (.t 21)))⟩, ⟨(some 25), none, (.q (.ext 1 (.t 21)))⟩, ⟨(some 3), none, (.alloc [(.str []), (.int .i64 0), (.str []), (.str []), (.int .u8 0), (.str []), .nilslice, .nilslice, .nilslice, .nilslice, .nilslice, .nilslice, .nilslice, .nilslice, .nilslice])⟩, ⟨none, none, (.store 15 (.t 3) (.t 24))⟩, ⟨(some 4), none, (.q (.mov (.t 25)))⟩] [1, 3, 4])
    (.seq
     (.reg 5 [⟨(some 26), none, (.q (.mov (.t 1)))⟩, ⟨(some 27), none, (.call 13 [(.t 26)])⟩, ⟨(some 28), none, (.q (.bin .eql (.t 27) (.c (.int .i64 4))))⟩, ⟨(some 29), none, (.q (.mov (.t 28)))⟩, ⟨(some 30), (some ⟨29, true⟩), (.q (.mov (.t 1)))⟩, ⟨(some 31), (some ⟨29, true⟩), (.call 14 [(.t 30)])⟩, ⟨(some 32), (some ⟨29, true⟩), (.q (.bin .eql (.t 31) (.c (.int .i64 1))))⟩, ⟨(some 33), none, (.q (.pick (.t 29) (.t 32) (.c (.bool false))))⟩, ⟨(some 34), none, (.q (.mov (.t 33)))⟩, ⟨(some 35), (some ⟨34, true⟩), (.q (.mov (.t 4)))⟩, ⟨(some 36), (some ⟨34, true⟩), (.q (.bin .eql (.t 35) (.c (.int .i64 0))))⟩, ⟨(some 37), none, (.q (.pick (.t 34) (.t 36) (.c (.bool false))))⟩, ⟨(some 38), none, (.q (.mov (.t 37)))⟩, ⟨(some 39), (some ⟨38, true⟩), (.q (.faddr 0 (.t 3)))⟩, ⟨(some 40), (some ⟨38, true⟩), (.q (.load none (.t 39)))⟩, ⟨(some 41), (some ⟨38, true⟩), (.q (.bin .eql (.t 40) (.c (.str [99]))))⟩, ⟨(some 42), none, (.q (.pick (.t 38) (.t 41) (.c (.bool false))))⟩, ⟨(some 43), none, (.q (.mov (.t 42)))⟩, ⟨(some 44), (some ⟨43, true⟩), (.q (.mov (.t 1)))⟩, ⟨(some 45), (some ⟨43, true⟩), (.call 26 [(.t 44), (.c (.int .i64 2))])⟩, ⟨(some 46), (some ⟨43, true⟩), (.q (.bin .eql (.t 45) (.c (.int .i64 0))))⟩, ⟨(some 47), none, (.q (.pick (.t 43) (.t 46) (.c (.bool false))))⟩, ⟨(some 48), none, (.q (.mov (.t 47)))⟩, ⟨(some 49), (some ⟨48, true⟩), (.q (.mov (.t 1)))⟩, ⟨(some 50), (some ⟨48, true⟩), (.call 27 [(.t 49), (.c (.int .i64 2))])⟩, ⟨(some 51), (some ⟨48, true⟩), (.q (.bin .eql (.t 50) (.c (.int .i64 5))))⟩, ⟨(some 52), none, (.q (.pick (.t 48) (.t 51) (.c (.bool false))))⟩, ⟨(some 53), none, (.q (.mov (.t 52)))⟩, ⟨(some 54), (some ⟨53, true⟩), (.q (.mov (.t 1)))⟩, ⟨(some 55), (some ⟨53, true⟩), (.call 27 [(.t 54), (.c (.int .i64 0))])⟩, ⟨(some 56), (some ⟨53, true⟩), (.q (.bin .eql (.t 55) (.c (.int .i64 1025))))⟩, ⟨(some 57), none, (.q (.pick (.t 53) (.t 56) (.c (.bool false))))⟩, ⟨(some 58), none, (.q (.mov (.t 57)))⟩, ⟨(some 59), (some ⟨58, true⟩), (.q (.mov (.t 1)))⟩, ⟨(some 60), (some ⟨58, true⟩), (.call 16 [(.t 59), (.c (.str [97]))])⟩, ⟨(some 61), (some ⟨58, true⟩), (.bslt 1 2 [(.int .i64 0)] [⟨0, ⟨1, (.c (.int .i64 0))⟩⟩, ⟨1, ⟨1, (.c (.int .i64 3))⟩⟩])⟩, ⟨(some 62), (some ⟨58, true⟩), (.call 15 [(.t 60), (.t 61)])⟩, ⟨(some 63), none, (.q (.pick (.t 58) (.t 62) (.c (.bool false))))⟩, ⟨(some 0), none, (.q (.mov (.t 63)))⟩] [0])
     .ret)))))
theorem fok10 : FOK Tryz.prog 10 (64, ic10, [(.t 0)]) := .mk (pf := [1000008, 1000011, 1000013, 1000015, 1000061]) (an := [(1, [1, 2]), (2, [1, 20]), (3, [0]), (4, [1, 3, 4]), (5, [0])]) (by kernel_rfl) (fnOK_of Tryz.func10 (by kernel_rfl) (by kernel_rfl) (by kernel_rfl))
/-- chandlery/pool.New -/
def ic11 : IC :=
(.seq
 (.reg 0 [⟨(some 4), none, (.q (.mov (.c .nilptr)))⟩, ⟨(some 5), none, (.q (.mov (.c (.int .i64 0))))⟩] [0, 1])
 (.seq
  (.reg 1 [⟨(some 14), none, (.q (.mov (.t 1)))⟩, ⟨(some 15), none, (.q (.len 0 (.t 14)))⟩, ⟨(some 6), none, (.q (.mov (.t 15)))⟩] [0, 1, 6])
  (.seq
   (.seq
    (.reg 2 [⟨(some 16), none, (.q (.mov (.t 0)))⟩, ⟨(some 17), none, (.q (.len 0 (.t 16)))⟩, ⟨(some 18), none, (.q (.mov (.c (.int .i64 0))))⟩] [0, 1, 6, 16, 17, 18])
    (.block 0
     (.loop
      (.seq
       (.reg 3 [⟨(some 19), none, (.q (.bin .lss (.t 18) (.t 17)))⟩] [0, 1, 6, 16, 17, 18, 19])
       (.seq
        (.cond (.t 19)
         .skip
         (.exit 0))
        (.seq
         (.block 1
          (.seq
           (.reg 4 [⟨(some 20), none, (.q (.iaddr 2 (.t 16) (.t 18)))⟩, ⟨(some 21), none, (.q (.load (some 2) (.t 20)))⟩, ⟨(some 8), none, (.alloc [(.int .i64 0), .nilslice])⟩, ⟨none, none, (.store 2 (.t 8) (.t 21))⟩] [0, 1, 6, 8, 16, 17, 18])
           (.reg 5 [⟨(some 22), none, (.q (.mov (.t 6)))⟩, ⟨(some 23), none, (.q (.faddr 1 (.t 8)))⟩, ⟨(some 24), none, (.q (.load none (.t 23)))⟩, ⟨(some 25), none, (.q (.len 0 (.t 24)))⟩, ⟨(some 26), none, (.q (.bin .add (.t 22) (.t 25)))⟩, ⟨(some 6), none, (.q (.mov (.t 26)))⟩] [0, 1, 6, 16, 17, 18])))
         (.reg 6 [⟨(some 27), none, (.q (.bin .add (.t 18) (.c (.int .i64 1))))⟩, ⟨(some 18), none, (.q (.mov (.t 27)))⟩] [0, 1, 6, 16, 17, 18])))))))
   (.seq
    (.seq
     (.reg 7 [⟨(some 28), none, (.q (.mov (.t 0)))⟩, ⟨(some 29), none, (.q (.len 0 (.t 28)))⟩, ⟨(some 30), none, (.q (.bin .gtr (.t 29) (.c (.int .i64 16))))⟩, ⟨(some 31), none, (.q (.mov (.t 30)))⟩, ⟨(some 32), (some ⟨31, false⟩), (.q (.mov (.t 6)))⟩, ⟨(some 33), (some ⟨31, false⟩), (.q (.bin .gtr (.t 32) (.c (.int .i64 256))))⟩, ⟨(some 34), none, (.q (.pick (.t 31) (.c (.bool true)) (.t 33)))⟩] [0, 1, 34])
     (.cond (.t 34)
      (.seq
       (.reg 8 [⟨(some 4), none, (.q (.mov (.c .nilptr)))⟩, ⟨(some 5), none, (.q (.mov (.c (.int .i64 40))))⟩] [4, 5])
       .ret)
      .skip))
    (.seq
     (.reg 9 [⟨(some 35), none, (.q (.mov (.t 1)))⟩, ⟨(some 36), none, (.q (.len 0 (.t 35)))⟩, ⟨(some 37), none, .mkmap⟩, ⟨(some 38), none, (.q (.bld [.nilslice, (.int .i64 0), .nilmap] [⟨1, ⟨1, (.t 36)⟩⟩, ⟨2, ⟨1, (.t 37)⟩⟩]))⟩, ⟨(some 39), none, (.box (.t 38))⟩, ⟨(some 9), none, (.q (.mov (.t 39)))⟩] [0, 1, 9])
     (.seq
      (.seq
       (.reg 10 [⟨(some 40), none, (.q (.mov (.t 9)))⟩, ⟨(some 41), none, (.q (.mov (.t 1)))⟩, ⟨(some 42), none, (.call 46 [(.t 40), (.t 41), (.c (.int .i64 (-1))), (.c (.int .i64 1025))])⟩, ⟨(some 10), none, (.q (.mov (.t 42)))⟩] [0, 9, 10])
       (.seq
        (.reg 11 [⟨(some 43), none, (.q (.mov (.t 10)))⟩, ⟨(some 44), none, (.q (.bin .neq (.t 43) (.c (.int .i64 0))))⟩] [0, 9, 10, 44])
        (.cond (.t 44)
         (.seq
          (.reg 12 [⟨(some 45), none, (.q (.mov (.t 10)))⟩, ⟨(some 4), none, (.q (.mov (.c .nilptr)))⟩, ⟨(some 5), none, (.q (.mov (.t 45)))⟩] [4, 5])
          .ret)
         .skip)))
      (.seq
       (.seq
        (.reg 13 [⟨(some 46), none, (.q (.mov (.t 0)))⟩, ⟨(some 47), none, (.q (.len 0 (.t 46)))⟩, ⟨(some 48), none, (.q (.mov (.c (.int .i64 0))))⟩] [9, 46, 47, 48])
        (.block 2
         (.loop
          (.seq
           (.reg 14 [⟨(some 49), none, (.q (.bin .lss (.t 48) (.t 47)))⟩] [9, 46, 47, 48, 49])
           (.seq
            (.cond (.t 49)
            .skip
            (.exit 2))
            (.seq
            (.block 3
            (.seq
            (.reg 15 [⟨(some 50), none, (.q (.mov (.t 48)))⟩, ⟨(some 51), none, (.q (.iaddr 2 (.t 46) (.t 48)))⟩, ⟨(some 52), none, (.q (.load (some 2) (.t 51)))⟩, ⟨(some 12), none, (.alloc [(.int .i64 0), .nilslice])⟩, ⟨(some 11), none, (.q (.mov (.t 50)))⟩, ⟨none, none, (.store 2 (.t 12) (.t 52))⟩] [9, 11, 12, 46, 47, 48])
            (.seq
            (.seq
            (.reg 16 [⟨(some 53), none, (.q (.faddr 0 (.t 12)))⟩, ⟨(some 54), none, (.q (.load none (.t 53)))⟩, ⟨(some 55), none, (.q (.bin .lss (.t 54) (.c (.int .i64 0))))⟩, ⟨(some 56), none, (.q (.mov (.t 55)))⟩, ⟨(some 57), (some ⟨56, false⟩), (.q (.faddr 0 (.t 12)))⟩, ⟨(some 58), (some ⟨56, false⟩), (.q (.load none (.t 57)))⟩, ⟨(some 59), (some ⟨56, false⟩), (.q (.bin .gtr (.t 58) (.c (.int .i64 1024))))⟩, ⟨(some 60), none, (.q (.pick (.t 56) (.c (.bool true)) (.t 59)))⟩] [9, 11, 12, 46, 47, 48, 60])
            (.cond (.t 60)
            (.seq
            (.reg 17 [⟨(some 4), none, (.q (.mov (.c .nilptr)))⟩, ⟨(some 5), none, (.q (.mov (.c (.int .i64 4))))⟩] [4, 5])
            .ret)
            .skip))
            (.seq
            (.reg 18 [⟨(some 61), none, (.q (.mov (.t 9)))⟩, ⟨(some 62), none, (.q (.faddr 1 (.t 12)))⟩, ⟨(some 63), none, (.q (.load none (.t 62)))⟩, ⟨(some 64), none, (.q (.mov (.t 11)))⟩, ⟨(some 65), none, (.q (.faddr 0 (.t 12)))⟩, ⟨(some 66), none, (.q (.load none (.t 65)))⟩, ⟨(some 67), none, (.call 46 [(.t 61), (.t 63), (.t 64), (.t 66)])⟩, ⟨(some 13), none, (.q (.mov (.t 67)))⟩] [9, 13, 46, 47, 48])
            (.seq
            (.reg 19 [⟨(some 68), none, (.q (.mov (.t 13)))⟩, ⟨(some 69), none, (.q (.bin .neq (.t 68) (.c (.int .i64 0))))⟩] [9, 13, 46, 47, 48, 69])
            (.cond (.t 69)
            (.seq
            (.reg 20 [⟨(some 70), none, (.q (.mov (.t 13)))⟩, ⟨(some 4), none, (.q (.mov (.c .nilptr)))⟩, ⟨(some 5), none, (.q (.mov (.t 70)))⟩] [4, 5])
            .ret)
            .skip))))))
            (.reg 21 [⟨(some 71), none, (.q (.bin .add (.t 48) (.c (.int .i64 1))))⟩, ⟨(some 48), none, (.q (.mov (.t 71)))⟩] [9, 46, 47, 48])))))))
       (.seq
        (.reg 22 [⟨(some 72), none, (.q (.mov (.t 9)))⟩, ⟨(some 4), none, (.q (.mov (.t 72)))⟩, ⟨(some 5), none, (.q (.mov (.c (.int .i64 0))))⟩] [4, 5])
        .ret))))))))
theorem fok11 : FOK Tryz.prog 11 (73, ic11, [(.t 4), (.t 5)]) := .mk (pf := []) (an := [(0, [0, 1]), (1, [0, 1, 6]), (2, [0, 1, 6, 16, 17, 18]), (3, [0, 1, 6, 16, 17, 18, 19]), (4, [0, 1, 6, 8, 16, 17, 18]), (5, [0, 1, 6, 16, 17, 18]), (6, [0, 1, 6, 16, 17, 18]), (7, [0, 1, 34]), (8, [4, 5]), (9, [0, 1, 9]), (10, [0, 9, 10]), (11, [0, 9, 10, 44]), (12, [4, 5]), (13, [9, 46, 47, 48]), (14, [9, 46, 47, 48, 49]), (15, [9, 11, 12, 46, 47, 48]), (16, [9, 11, 12, 46, 47, 48, 60]), (17, [4, 5]), (18, [9, 13, 46, 47, 48]), (19, [9, 13, 46, 47, 48, 69]), (20, [4, 5]), (21, [9, 46, 47, 48]), (22, [4, 5])]) (by kernel_rfl) (fnOK_of Tryz.func11 (by kernel_rfl) (by kernel_rfl) (by kernel_rfl))
/-- (*chandlery/pool.Pool).Count -/
def ic13 : IC :=
(.seq
 (.reg 0 [⟨(some 2), none, (.q (.mov (.c (.int .i64 0))))⟩] [0])
 (.seq
  (.seq
   (.reg 1 [⟨(some 3), none, (.q (.mov (.t 0)))⟩, ⟨(some 4), none, (.q (.isnil (.pointer 78) false (.t 3)))⟩] [0, 4])
   (.cond (.t 4)
    (.seq
     (.reg 2 [⟨(some 2), none, (.q (.mov (.c (.int .i64 0))))⟩] [2])
     .ret)
    .skip))
  (.seq
   (.reg 3 [⟨(some 5), none, (.q (.mov (.t 0)))⟩, ⟨(some 6), none, (.q (.nchk (.t 5)))⟩, ⟨(some 7), none, (.q (.faddr 0 (.t 6)))⟩, ⟨(some 8), none, (.q (.load none (.t 7)))⟩, ⟨(some 9), none, (.q (.len 0 (.t 8)))⟩, ⟨(some 2), none, (.q (.mov (.t 9)))⟩] [2])
   .ret)))
theorem fok13 : FOK Tryz.prog 13 (10, ic13, [(.t 2)]) := .mk (pf := []) (an := [(0, [0]), (1, [0, 4]), (2, [2]), (3, [2])]) (by kernel_rfl) (fnOK_of Tryz.func13 (by kernel_rfl) (by kernel_rfl) (by kernel_rfl))
/-- (*chandlery/pool.Pool).Installed -/
def ic14 : IC :=
(.seq
 (.reg 0 [⟨(some 2), none, (.q (.mov (.c (.int .i64 0))))⟩] [0])
 (.seq
  (.seq
   (.reg 1 [⟨(some 3), none, (.q (.mov (.t 0)))⟩, ⟨(some 4), none, (.q (.isnil (.pointer 78) false (.t 3)))⟩] [0, 4])
   (.cond (.t 4)
    (.seq
     (.reg 2 [⟨(some 2), none, (.q (.mov (.c (.int .i64 0))))⟩] [2])
     .ret)
    .skip))
  (.seq
   (.reg 3 [⟨(some 5), none, (.q (.mov (.t 0)))⟩, ⟨(some 6), none, (.q (.nchk (.t 5)))⟩, ⟨(some 7), none, (.q (.faddr 1 (.t 6)))⟩, ⟨(some 8), none, (.q (.load none (.t 7)))⟩, ⟨(some 2), none, (.q (.mov (.t 8)))⟩] [2])
   .ret)))
theorem fok14 : FOK Tryz.prog 14 (9, ic14, [(.t 2)]) := .mk (pf := []) (an := [(0, [0]), (1, [0, 4]), (2, [2]), (3, [2])]) (by kernel_rfl) (fnOK_of Tryz.func14 (by kernel_rfl) (by kernel_rfl) (by kernel_rfl))
/-- chandlery/chandleryref12.Numbers -/
def ic15 : IC :=
(.seq
 (.reg 0 [⟨(some 4), none, (.q (.mov (.c (.bool false))))⟩] [0, 1])
 (.seq
  (.seq
   (.reg 1 [⟨(some 6), none, (.q (.mov (.t 0)))⟩, ⟨(some 7), none, (.q (.len 0 (.t 6)))⟩, ⟨(some 8), none, (.q (.mov (.t 1)))⟩, ⟨(some 9), none, (.q (.len 0 (.t 8)))⟩, ⟨(some 10), none, (.q (.bin .neq (.t 7) (.t 9)))⟩] [0, 1, 10])
   (.cond (.t 10)
    (.seq
     (.reg 2 [⟨(some 4), none, (.q (.mov (.c (.bool false))))⟩] [4])
     .ret)
    .skip))
  (.seq
   (.seq
    (.reg 3 [⟨(some 5), none, (.q (.mov (.c (.int .i64 0))))⟩] [0, 1, 5])
    (.block 0
     (.loop
      (.seq
       (.seq
        (.reg 4 [⟨(some 11), none, (.q (.mov (.t 5)))⟩, ⟨(some 12), none, (.q (.mov (.t 0)))⟩, ⟨(some 13), none, (.q (.len 0 (.t 12)))⟩, ⟨(some 14), none, (.q (.bin .lss (.t 11) (.t 13)))⟩] [0, 1, 5, 14])
        (.cond (.t 14)
         .skip
         (.exit 0)))
       (.seq
        (.block 1
         (.seq
          (.dreg 6 [⟨(some 17), none, (.q (.mov (.t 0)))⟩, ⟨(some 18), none, (.q (.mov (.t 5)))⟩, ⟨(some 19), none, (.q (.iaddr 1 (.t 17) (.t 18)))⟩, ⟨(some 20), none, (.q (.load none (.t 19)))⟩, ⟨(some 21), none, (.q (.mov (.t 1)))⟩, ⟨(some 22), none, (.q (.mov (.t 5)))⟩, ⟨(some 23), none, (.q (.iaddr 1 (.t 21) (.t 22)))⟩, ⟨(some 24), none, (.q (.load none (.t 23)))⟩, ⟨(some 25), none, (.q (.bin .neq (.t 20) (.t 24)))⟩] false [0, 1, 5, 25])
          (.cond (.t 25)
           (.seq
            (.reg 7 [⟨(some 4), none, (.q (.mov (.c (.bool false))))⟩] [4])
            .ret)
           .skip)))
        (.reg 5 [⟨(some 15), none, (.q (.mov (.t 5)))⟩, ⟨(some 16), none, (.q (.bin .add (.t 15) (.c (.int .i64 1))))⟩, ⟨(some 5), none, (.q (.mov (.t 16)))⟩] [0, 1, 5]))))))
   (.seq
    (.reg 8 [⟨(some 4), none, (.q (.mov (.c (.bool true))))⟩] [4])
    .ret))))
theorem fok15 : FOK Tryz.prog 15 (26, ic15, [(.t 4)]) := .mk (pf := []) (an := [(0, [0, 1]), (1, [0, 1, 10]), (2, [4]), (3, [0, 1, 5]), (4, [0, 1, 5, 14]), (5, [0, 1, 5]), (6, [0, 1, 5, 25]), (7, [4]), (8, [4])]) (by kernel_rfl) (fnOK_of Tryz.func15 (by kernel_rfl) (by kernel_rfl) (by kernel_rfl))
/-- (*chandlery/pool.Pool).Named -/
def ic16 : IC :=
(.seq
 (.reg 0 [⟨(some 4), none, (.q (.mov (.c .nilslice)))⟩] [0, 1])
 (.seq
  (.seq
   (.reg 1 [⟨(some 5), none, (.q (.mov (.t 0)))⟩, ⟨(some 6), none, (.q (.isnil (.pointer 78) false (.t 5)))⟩] [0, 1, 6])
   (.cond (.t 6)
    (.seq
     (.reg 2 [⟨(some 4), none, (.q (.mov (.c .nilslice)))⟩] [4])
     .ret)
    .skip))
  (.seq
   (.reg 3 [⟨(some 7), none, (.q (.mov (.t 0)))⟩, ⟨(some 8), none, (.q (.nchk (.t 7)))⟩, ⟨(some 9), none, (.q (.faddr 2 (.t 8)))⟩, ⟨(some 10), none, (.q (.load none (.t 9)))⟩, ⟨(some 11), none, (.q (.mov (.t 1)))⟩, ⟨(some 12), none, (.q (.lkp 2 .nilslice false (.t 10) (.t 11)))⟩, ⟨(some 13), none, (.call 49 [(.t 12)])⟩, ⟨(some 4), none, (.q (.mov (.t 13)))⟩] [4])
   .ret)))
theorem fok16 : FOK Tryz.prog 16 (14, ic16, [(.t 4)]) := .mk (pf := []) (an := [(0, [0, 1]), (1, [0, 1, 6]), (2, [4]), (3, [4])]) (by kernel_rfl) (fnOK_of Tryz.func16 (by kernel_rfl) (by kernel_rfl) (by kernel_rfl))
/-- chandlery/chandleryref06.Texts -/
def ic18 : IC :=
(.seq
 (.reg 0 [⟨(some 4), none, (.q (.mov (.c (.bool false))))⟩] [0, 1])
 (.seq
  (.seq
   (.reg 1 [⟨(some 6), none, (.q (.mov (.t 0)))⟩, ⟨(some 7), none, (.q (.len 0 (.t 6)))⟩, ⟨(some 8), none, (.q (.mov (.t 1)))⟩, ⟨(some 9), none, (.q (.len 0 (.t 8)))⟩, ⟨(some 10), none, (.q (.bin .neq (.t 7) (.t 9)))⟩] [0, 1, 10])
   (.cond (.t 10)
    (.seq
     (.reg 2 [⟨(some 4), none, (.q (.mov (.c (.bool false))))⟩] [4])
     .ret)
    .skip))
  (.seq
   (.seq
    (.reg 3 [⟨(some 5), none, (.q (.mov (.c (.int .i64 0))))⟩] [0, 1, 5])
    (.block 0
     (.loop
      (.seq
       (.seq
        (.reg 4 [⟨(some 11), none, (.q (.mov (.t 5)))⟩, ⟨(some 12), none, (.q (.mov (.t 0)))⟩, ⟨(some 13), none, (.q (.len 0 (.t 12)))⟩, ⟨(some 14), none, (.q (.bin .lss (.t 11) (.t 13)))⟩] [0, 1, 5, 14])
        (.cond (.t 14)
         .skip
         (.exit 0)))
       (.seq
        (.block 1
         (.seq
          (.dreg 6 [⟨(some 17), none, (.q (.mov (.t 0)))⟩, ⟨(some 18), none, (.q (.mov (.t 5)))⟩, ⟨(some 19), none, (.q (.iaddr 1 (.t 17) (.t 18)))⟩, ⟨(some 20), none, (.q (.load none (.t 19)))⟩, ⟨(some 21), none, (.q (.mov (.t 1)))⟩, ⟨(some 22), none, (.q (.mov (.t 5)))⟩, ⟨(some 23), none, (.q (.iaddr 1 (.t 21) (.t 22)))⟩, ⟨(some 24), none, (.q (.load none (.t 23)))⟩, ⟨(some 25), none, (.q (.bin .neq (.t 20) (.t 24)))⟩] false [0, 1, 5, 25])
          (.cond (.t 25)
           (.seq
            (.reg 7 [⟨(some 4), none, (.q (.mov (.c (.bool false))))⟩] [4])
            .ret)
           .skip)))
        (.reg 5 [⟨(some 15), none, (.q (.mov (.t 5)))⟩, ⟨(some 16), none, (.q (.bin .add (.t 15) (.c (.int .i64 1))))⟩, ⟨(some 5), none, (.q (.mov (.t 16)))⟩] [0, 1, 5]))))))
   (.seq
    (.reg 8 [⟨(some 4), none, (.q (.mov (.c (.bool true))))⟩] [4])
    .ret))))
theorem fok18 : FOK Tryz.prog 18 (26, ic18, [(.t 4)]) := .mk (pf := []) (an := [(0, [0, 1]), (1, [0, 1, 10]), (2, [4]), (3, [0, 1, 5]), (4, [0, 1, 5, 14]), (5, [0, 1, 5]), (6, [0, 1, 5, 25]), (7, [4]), (8, [4])]) (by kernel_rfl) (fnOK_of Tryz.func18 (by kernel_rfl) (by kernel_rfl) (by kernel_rfl))
/-- (*chandlery/pool.Pool).Package -/
def ic23 : IC :=
(.seq
 (.reg 0 [⟨(some 4), none, (.alloc [(.str []), (.int .i64 0), (.str []), (.str []), (.int .u8 0), (.str []), .nilslice, .nilslice, .nilslice, .nilslice, .nilslice, .nilslice, .nilslice, .nilslice, .nilslice])⟩, ⟨(some 5), none, (.q (.mov (.c (.int .i64 0))))⟩] [0, 1, 4])
 (.seq
  (.seq
   (.reg 1 [⟨(some 6), none, (.q (.mov (.t 0)))⟩, ⟨(some 7), none, (.q (.isnil (.pointer 78) false (.t 6)))⟩, ⟨(some 8), none, (.q (.mov (.t 7)))⟩, ⟨(some 9), (some ⟨8, false⟩), (.q (.mov (.t 0)))⟩, ⟨(some 10), (some ⟨8, false⟩), (.q (.nchk (.t 9)))⟩, ⟨(some 11), (some ⟨8, false⟩), (.q (.faddr 0 (.t 10)))⟩, ⟨(some 12), (some ⟨8, false⟩), (.q (.load none (.t 11)))⟩, ⟨(some 13), (some ⟨8, false⟩), (.q (.mov (.t 1)))⟩, ⟨(some 14), (some ⟨8, false⟩), (.call 52 [(.t 12), (.t 13)])⟩, ⟨(some 15), (some ⟨8, false⟩), (.q (.not (.t 14)))⟩, ⟨(some 16), none, (.q (.pick (.t 8) (.c (.bool true)) (.t 15)))⟩] [0, 1, 4, 16])
   (.cond (.t 16)
    (.seq
     (.reg 2 [⟨(some 17), none, (.q (.bld [(.str []), (.int .i64 0), (.str []), (.str []), (.int .u8 0), (.str []), .nilslice, .nilslice, .nilslice, .nilslice, .nilslice, .nilslice, .nilslice, .nilslice, .nilslice] []))⟩, ⟨none, none, (.store 15 (.t 4) (.t 17))⟩, ⟨(some 5), none, (.q (.mov (.c (.int .i64 5))))⟩] [4, 5])
     .ret)
    .skip))
  (.seq
   (.reg 3 [⟨(some 18), none, (.q (.mov (.t 0)))⟩, ⟨(some 19), none, (.q (.nchk (.t 18)))⟩, ⟨(some 20), none, (.q (.faddr 0 (.t 19)))⟩, ⟨(some 21), none, (.q (.load none (.t 20)))⟩, ⟨(some 22), none, (.q (.mov (.t 1)))⟩, ⟨(some 23), none, (.q (.iaddr 17 (.t 21) (.t 22)))⟩, ⟨(some 24), none, (.q (.faddr 0 (.t 23)))⟩, ⟨(some 25), none, (.q (.load (some 15) (.t 24)))⟩, ⟨(some 26), none, (.call 54 [(.t 25)])⟩, ⟨none, none, (.store 15 (.t 4) (.t 26))⟩, ⟨(some 5), none, (.q (.mov (.c (.int .i64 0))))⟩] [4, 5])
   .ret)))
theorem fok23 : FOK Tryz.prog 23 (27, ic23, [(.cell (some 15) 4), (.t 5)]) := .mk (pf := []) (an := [(0, [0, 1, 4]), (1, [0, 1, 4, 16]), (2, [4, 5]), (3, [4, 5])]) (by kernel_rfl) (fnOK_of Tryz.func23 (by kernel_rfl) (by kernel_rfl) (by kernel_rfl))
/-- chandlery/chandleryref10.Same -/
def ic25 : IC :=
(.seq
 (.reg 0 [⟨(some 2), none, (.boxt (.t 0))⟩, ⟨(some 3), none, (.boxt (.t 1))⟩, ⟨(some 4), none, (.q (.mov (.c (.bool false))))⟩] [2, 3])
 (.seq
  (.reg 1 [⟨(some 5), none, (.q (.faddr 0 (.t 2)))⟩, ⟨(some 6), none, (.q (.load none (.t 5)))⟩, ⟨(some 7), none, (.q (.faddr 0 (.t 3)))⟩, ⟨(some 8), none, (.q (.load none (.t 7)))⟩, ⟨(some 9), none, (.q (.bin .eql (.t 6) (.t 8)))⟩, ⟨(some 10), none, (.q (.mov (.t 9)))⟩, ⟨(some 11), (some ⟨10, true⟩), (.q (.faddr 1 (.t 2)))⟩, ⟨(some 12), (some ⟨10, true⟩), (.q (.load (some 3) (.t 11)))⟩, ⟨(some 13), (some ⟨10, true⟩), (.q (.faddr 1 (.t 3)))⟩, ⟨(some 14), (some ⟨10, true⟩), (.q (.load (some 3) (.t 13)))⟩, ⟨(some 15), (some ⟨10, true⟩), (.q (.eqs [1, 2, 2] true false (.t 12) (.t 14)))⟩, ⟨(some 16), none, (.q (.pick (.t 10) (.t 15) (.c (.bool false))))⟩, ⟨(some 17), none, (.q (.mov (.t 16)))⟩, ⟨(some 18), (some ⟨17, true⟩), (.q (.faddr 4 (.t 2)))⟩, ⟨(some 19), (some ⟨17, true⟩), (.q (.load none (.t 18)))⟩, ⟨(some 20), (some ⟨17, true⟩), (.q (.faddr 4 (.t 3)))⟩, ⟨(some 21), (some ⟨17, true⟩), (.q (.load none (.t 20)))⟩, ⟨(some 22), (some ⟨17, true⟩), (.q (.bin .eql (.t 19) (.t 21)))⟩, ⟨(some 23), none, (.q (.pick (.t 17) (.t 22) (.c (.bool false))))⟩, ⟨(some 24), none, (.q (.mov (.t 23)))⟩, ⟨(some 25), (some ⟨24, true⟩), (.q (.faddr 5 (.t 2)))⟩, ⟨(some 26), (some ⟨24, true⟩), (.q (.load none (.t 25)))⟩, ⟨(some 27), (some ⟨24, true⟩), (.q (.faddr 5 (.t 3)))⟩, ⟨(some 28), (some ⟨24, true⟩), (.q (.load none (.t 27)))⟩, ⟨(some 29), (some ⟨24, true⟩), (.q (.bin .eql (.t 26) (.t 28)))⟩, ⟨(some 30), none, (.q (.pick (.t 24) (.t 29) (.c (.bool false))))⟩, ⟨(some 31), none, (.q (.mov (.t 30)))⟩, ⟨(some 32), (some ⟨31, true⟩), (.q (.faddr 6 (.t 2)))⟩, ⟨(some 33), (some ⟨31, true⟩), (.q (.load none (.t 32)))⟩, ⟨(some 34), (some ⟨31, true⟩), (.q (.faddr 6 (.t 3)))⟩, ⟨(some 35), (some ⟨31, true⟩), (.q (.load none (.t 34)))⟩, ⟨(some 36), (some ⟨31, true⟩), (.call 55 [(.t 33), (.t 35)])⟩, ⟨(some 37), none, (.q (.pick (.t 31) (.t 36) (.c (.bool false))))⟩, ⟨(some 38), none, (.q (.mov (.t 37)))⟩, ⟨(some 39), (some ⟨38, true⟩), (.q (.faddr 7 (.t 2)))⟩, ⟨(some 40), (some ⟨38, true⟩), (.q (.load none (.t 39)))⟩, ⟨(some 41), (some ⟨38, true⟩), (.q (.faddr 7 (.t 3)))⟩, ⟨(some 42), (some ⟨38, true⟩), (.q (.load none (.t 41)))⟩, ⟨(some 43), (some ⟨38, true⟩), (.call 56 [(.t 40), (.t 42)])⟩, ⟨(some 44), none, (.q (.pick (.t 38) (.t 43) (.c (.bool false))))⟩, ⟨(some 45), none, (.q (.mov (.t 44)))⟩, ⟨(some 46), (some ⟨45, true⟩), (.q (.faddr 8 (.t 2)))⟩, ⟨(some 47), (some ⟨45, true⟩), (.q (.load none (.t 46)))⟩, ⟨(some 48), (some ⟨45, true⟩), (.q (.faddr 8 (.t 3)))⟩, ⟨(some 49), (some ⟨45, true⟩), (.q (.load none (.t 48)))⟩, ⟨(some 50), (some ⟨45, true⟩), (.call 56 [(.t 47), (.t 49)])⟩, ⟨(some 51), none, (.q (.pick (.t 45) (.t 50) (.c (.bool false))))⟩, ⟨(some 52), none, (.q (.mov (.t 51)))⟩, ⟨(some 53), (some ⟨52, true⟩), (.q (.faddr 9 (.t 2)))⟩, ⟨(some 54), (some ⟨52, true⟩), (.q (.load none (.t 53)))⟩, ⟨(some 55), (some ⟨52, true⟩), (.q (.faddr 9 (.t 3)))⟩, ⟨(some 56), (some ⟨52, true⟩), (.q (.load none (.t 55)))⟩, ⟨(some 57), (some ⟨52, true⟩), (.call 55 [(.t 54), (.t 56)])⟩, ⟨(some 58), none, (.q (.pick (.t 52) (.t 57) (.c (.bool false))))⟩, ⟨(some 59), none, (.q (.mov (.t 58)))⟩, ⟨(some 60), (some ⟨59, true⟩), (.q (.faddr 10 (.t 2)))⟩, ⟨(some 61), (some ⟨59, true⟩), (.q (.load none (.t 60)))⟩, ⟨(some 62), (some ⟨59, true⟩), (.q (.faddr 10 (.t 3)))⟩, ⟨(some 63), (some ⟨59, true⟩), (.q (.load none (.t 62)))⟩, ⟨(some 64), (some ⟨59, true⟩), (.call 56 [(.t 61), (.t 63)])⟩, ⟨(some 65), none, (.q (.pick (.t 59) (.t 64) (.c (.bool false))))⟩, ⟨(some 66), none, (.q (.mov (.t 65)))⟩, ⟨(some 67), (some ⟨66, true⟩), (.q (.faddr 11 (.t 2)))⟩, ⟨(some 68), (some ⟨66, true⟩), (.q (.load none (.t 67)))⟩, ⟨(some 69), (some ⟨66, true⟩), (.q (.faddr 11 (.t 3)))⟩, ⟨(some 70), (some ⟨66, true⟩), (.q (.load none (.t 69)))⟩, ⟨(some 71), (some ⟨66, true⟩), (.call 56 [(.t 68), (.t 70)])⟩, ⟨(some 72), none, (.q (.pick (.t 66) (.t 71) (.c (.bool false))))⟩, ⟨(some 73), none, (.q (.mov (.t 72)))⟩, ⟨(some 74), (some ⟨73, true⟩), (.q (.faddr 12 (.t 2)))⟩, ⟨(some 75), (some ⟨73, true⟩), (.q (.load none (.t 74)))⟩, ⟨(some 76), (some ⟨73, true⟩), (.q (.faddr 12 (.t 3)))⟩, ⟨(some 77), (some ⟨73, true⟩), (.q (.load none (.t 76)))⟩, ⟨(some 78), (some ⟨73, true⟩), (.call 56 [(.t 75), (.t 77)])⟩, ⟨(some 79), none, (.q (.pick (.t 73) (.t 78) (.c (.bool false))))⟩, ⟨(some 80), none, (.q (.mov (.t 79)))⟩, ⟨(some 81), (some ⟨80, true⟩), (.q (.faddr 13 (.t 2)))⟩, ⟨(some 82), (some ⟨80, true⟩), (.q (.load none (.t 81)))⟩, ⟨(some 83), (some ⟨80, true⟩), (.q (.faddr 13 (.t 3)))⟩, ⟨(some 84), (some ⟨80, true⟩), (.q (.load none (.t 83)))⟩, ⟨(some 85), (some ⟨80, true⟩), (.call 56 [(.t 82), (.t 84)])⟩, ⟨(some 86), none, (.q (.pick (.t 80) (.t 85) (.c (.bool false))))⟩, ⟨(some 87), none, (.q (.mov (.t 86)))⟩, ⟨(some 88), (some ⟨87, true⟩), (.q (.faddr 14 (.t 2)))⟩, ⟨(some 89), (some ⟨87, true⟩), (.q (.load none (.t 88)))⟩, ⟨(some 90), (some ⟨87, true⟩), (.q (.faddr 14 (.t 3)))⟩, ⟨(some 91), (some ⟨87, true⟩), (.q (.load none (.t 90)))⟩, ⟨(some 92), (some ⟨87, true⟩), (.call 18 [(.t 89), (.t 91)])⟩, ⟨(some 93), none, (.q (.pick (.t 87) (.t 92) (.c (.bool false))))⟩, ⟨(some 4), none, (.q (.mov (.t 93)))⟩] [4])
  .ret))
theorem fok25 : FOK Tryz.prog 25 (94, ic25, [(.t 4)]) := .mk (pf := [1000002, 1000003]) (an := [(0, [2, 3]), (1, [4])]) (by kernel_rfl) (fnOK_of Tryz.func25 (by kernel_rfl) (by kernel_rfl) (by kernel_rfl))
/-- (*chandlery/pool.Pool).Repo -/
def ic26 : IC :=
(.seq
 (.reg 0 [⟨(some 4), none, (.q (.mov (.c (.int .i64 0))))⟩] [0, 1])
 (.seq
  (.seq
   (.reg 1 [⟨(some 5), none, (.q (.mov (.t 0)))⟩, ⟨(some 6), none, (.q (.isnil (.pointer 78) false (.t 5)))⟩, ⟨(some 7), none, (.q (.mov (.t 6)))⟩, ⟨(some 8), (some ⟨7, false⟩), (.q (.mov (.t 0)))⟩, ⟨(some 9), (some ⟨7, false⟩), (.q (.nchk (.t 8)))⟩, ⟨(some 10), (some ⟨7, false⟩), (.q (.faddr 0 (.t 9)))⟩, ⟨(some 11), (some ⟨7, false⟩), (.q (.load none (.t 10)))⟩, ⟨(some 12), (some ⟨7, false⟩), (.q (.mov (.t 1)))⟩, ⟨(some 13), (some ⟨7, false⟩), (.call 52 [(.t 11), (.t 12)])⟩, ⟨(some 14), (some ⟨7, false⟩), (.q (.not (.t 13)))⟩, ⟨(some 15), none, (.q (.pick (.t 7) (.c (.bool true)) (.t 14)))⟩] [0, 1, 15])
   (.cond (.t 15)
    (.seq
     (.reg 2 [⟨(some 4), none, (.q (.mov (.c (.int .i64 (-1)))))⟩] [4])
     .ret)
    .skip))
  (.seq
   (.reg 3 [⟨(some 16), none, (.q (.mov (.t 0)))⟩, ⟨(some 17), none, (.q (.nchk (.t 16)))⟩, ⟨(some 18), none, (.q (.faddr 0 (.t 17)))⟩, ⟨(some 19), none, (.q (.load none (.t 18)))⟩, ⟨(some 20), none, (.q (.mov (.t 1)))⟩, ⟨(some 21), none, (.q (.iaddr 17 (.t 19) (.t 20)))⟩, ⟨(some 22), none, (.q (.faddr 15 (.t 21)))⟩, ⟨(some 23), none, (.q (.load none (.t 22)))⟩, ⟨(some 4), none, (.q (.mov (.t 23)))⟩] [4])
   .ret)))
theorem fok26 : FOK Tryz.prog 26 (24, ic26, [(.t 4)]) := .mk (pf := []) (an := [(0, [0, 1]), (1, [0, 1, 15]), (2, [4]), (3, [4])]) (by kernel_rfl) (fnOK_of Tryz.func26 (by kernel_rfl) (by kernel_rfl) (by kernel_rfl))
/-- (*chandlery/pool.Pool).Priority -/
def ic27 : IC :=
(.seq
 (.reg 0 [⟨(some 4), none, (.q (.mov (.c (.int .i64 0))))⟩] [0, 1])
 (.seq
  (.seq
   (.reg 1 [⟨(some 5), none, (.q (.mov (.t 0)))⟩, ⟨(some 6), none, (.q (.isnil (.pointer 78) false (.t 5)))⟩, ⟨(some 7), none, (.q (.mov (.t 6)))⟩, ⟨(some 8), (some ⟨7, false⟩), (.q (.mov (.t 0)))⟩, ⟨(some 9), (some ⟨7, false⟩), (.q (.nchk (.t 8)))⟩, ⟨(some 10), (some ⟨7, false⟩), (.q (.faddr 0 (.t 9)))⟩, ⟨(some 11), (some ⟨7, false⟩), (.q (.load none (.t 10)))⟩, ⟨(some 12), (some ⟨7, false⟩), (.q (.mov (.t 1)))⟩, ⟨(some 13), (some ⟨7, false⟩), (.call 52 [(.t 11), (.t 12)])⟩, ⟨(some 14), (some ⟨7, false⟩), (.q (.not (.t 13)))⟩, ⟨(some 15), none, (.q (.pick (.t 7) (.c (.bool true)) (.t 14)))⟩] [0, 1, 15])
   (.cond (.t 15)
    (.seq
     (.reg 2 [⟨(some 4), none, (.q (.mov (.c (.int .i64 0))))⟩] [4])
     .ret)
    .skip))
  (.seq
   (.reg 3 [⟨(some 16), none, (.q (.mov (.t 0)))⟩, ⟨(some 17), none, (.q (.nchk (.t 16)))⟩, ⟨(some 18), none, (.q (.faddr 0 (.t 17)))⟩, ⟨(some 19), none, (.q (.load none (.t 18)))⟩, ⟨(some 20), none, (.q (.mov (.t 1)))⟩, ⟨(some 21), none, (.q (.iaddr 17 (.t 19) (.t 20)))⟩, ⟨(some 22), none, (.q (.faddr 16 (.t 21)))⟩, ⟨(some 23), none, (.q (.load none (.t 22)))⟩, ⟨(some 4), none, (.q (.mov (.t 23)))⟩] [4])
   .ret)))
theorem fok27 : FOK Tryz.prog 27 (24, ic27, [(.t 4)]) := .mk (pf := []) (an := [(0, [0, 1]), (1, [0, 1, 15]), (2, [4]), (3, [4])]) (by kernel_rfl) (fnOK_of Tryz.func27 (by kernel_rfl) (by kernel_rfl) (by kernel_rfl))
/-- chandlery/chandlerylaw12.named -/
def ic28 : IC :=
(.seq
 (.reg 0 [⟨(some 2), none, (.alloc [(.str []), (.int .i64 0), (.str []), (.str []), (.int .u8 0), (.str []), .nilslice, .nilslice, .nilslice, .nilslice, .nilslice, .nilslice, .nilslice, .nilslice, .nilslice])⟩] [0, 2])
 (.seq
  (.reg 1 [⟨(some 3), none, (.q (.mov (.t 0)))⟩, ⟨(some 4), none, (.q (.bld [(.int .i64 0), (.str []), (.str [])] [⟨1, ⟨1, (.c (.str [49]))⟩⟩, ⟨2, ⟨1, (.c (.str [49]))⟩⟩]))⟩, ⟨(some 5), none, (.q (.bld [(.str []), (.int .i64 0), (.str []), (.str []), (.int .u8 0), (.str []), .nilslice, .nilslice, .nilslice, .nilslice, .nilslice, .nilslice, .nilslice, .nilslice, .nilslice] [⟨0, ⟨1, (.t 3)⟩⟩, ⟨1, ⟨3, (.t 4)⟩⟩, ⟨4, ⟨1, (.c (.int .u8 1))⟩⟩]))⟩, ⟨none, none, (.store 15 (.t 2) (.t 5))⟩] [2])
  .ret))
theorem fok28 : FOK Tryz.prog 28 (6, ic28, [(.cell (some 15) 2)]) := .mk (pf := []) (an := [(0, [0, 2]), (1, [2])]) (by kernel_rfl) (fnOK_of Tryz.func28 (by kernel_rfl) (by kernel_rfl) (by kernel_rfl))
/-- chandlery/pkg.Obsoletes -/
def ic29 : IC :=
(.seq
 (.reg 0 [⟨(some 2), none, (.boxt (.t 0))⟩, ⟨(some 3), none, (.boxt (.t 1))⟩, ⟨(some 4), none, (.q (.mov (.c (.bool false))))⟩] [2, 3])
 (.seq
  (.reg 1 [⟨(some 5), none, (.q (.faddr 9 (.t 2)))⟩, ⟨(some 6), none, (.q (.load none (.t 5)))⟩, ⟨(some 7), none, (.q (.mkf 58 [] [(.t 3)]))⟩, ⟨(some 8), none, (.call 57 [(.t 6), (.t 7)])⟩, ⟨(some 4), none, (.q (.mov (.t 8)))⟩] [4])
  .ret))
theorem fok29 : FOK Tryz.prog 29 (9, ic29, [(.t 4)]) := .mk (pf := [1000002, 1000003]) (an := [(0, [2, 3]), (1, [4])]) (by kernel_rfl) (fnOK_of Tryz.func29 (by kernel_rfl) (by kernel_rfl) (by kernel_rfl))
/-- chandlery/chandlerylaw13.works -/
def ic30 : IC :=
(.seq
 (.reg 0 [⟨(some 0), none, (.q (.mov (.c (.bool false))))⟩] [])
 (.seq
  (.reg 1 [⟨(some 5), none, (.call 41 [])⟩, ⟨(some 6), none, (.call 32 [(.c .nilslice), (.t 5)])⟩, ⟨(some 4), none, (.q (.mov (.t 6)))⟩, ⟨(some 7), none, (.q (.ext 0 (.t 4)))⟩, ⟨(some 8), none, (.q (.ext 1 (.t 4)))⟩, ⟨(some 9), none, (.q (.ext 2 (.t 4)))⟩, ⟨(some 1), none, (.q (.mov (.t 7)))⟩, ⟨(some 2), none, (.q (.mov (.t 8)))⟩, ⟨(some 3), none, (.q (.mov (.t 9)))⟩] [1, 3])
  (.seq
   (.reg 2 [⟨(some 10), none, (.q (.mov (.t 3)))⟩, ⟨(some 11), none, (.q (.mov (.t 10)))⟩, ⟨(some 12), (some ⟨11, true⟩), (.q (.mov (.t 1)))⟩, ⟨(some 13), (some ⟨11, true⟩), (.call 38 [(.c (.str [97])), (.c (.int .u8 0)), (.c (.str []))])⟩, ⟨(some 14), (some ⟨11, true⟩), (.call 37 [(.t 12), (.t 13)])⟩, ⟨(some 15), (some ⟨11, true⟩), (.bslt 1 2 [(.int .i64 0)] [⟨0, ⟨1, (.c (.int .i64 0))⟩⟩, ⟨1, ⟨1, (.c (.int .i64 1))⟩⟩])⟩, ⟨(some 16), (some ⟨11, true⟩), (.call 42 [(.t 14), (.t 15)])⟩, ⟨(some 17), none, (.q (.pick (.t 11) (.t 16) (.c (.bool false))))⟩, ⟨(some 18), none, (.q (.mov (.t 17)))⟩, ⟨(some 19), (some ⟨18, true⟩), (.q (.mov (.t 1)))⟩, ⟨(some 20), (some ⟨18, true⟩), (.call 38 [(.c (.str [97])), (.c (.int .u8 4)), (.c (.str [49]))])⟩, ⟨(some 21), (some ⟨18, true⟩), (.call 37 [(.t 19), (.t 20)])⟩, ⟨(some 22), (some ⟨18, true⟩), (.bslt 1 1 [(.int .i64 0)] [⟨0, ⟨1, (.c (.int .i64 1))⟩⟩])⟩, ⟨(some 23), (some ⟨18, true⟩), (.call 42 [(.t 21), (.t 22)])⟩, ⟨(some 24), none, (.q (.pick (.t 18) (.t 23) (.c (.bool false))))⟩, ⟨(some 25), none, (.q (.mov (.t 24)))⟩, ⟨(some 26), (some ⟨25, true⟩), (.q (.mov (.t 1)))⟩, ⟨(some 27), (some ⟨25, true⟩), (.call 38 [(.c (.str [97])), (.c (.int .u8 6)), (.c (.str [49]))])⟩, ⟨(some 28), (some ⟨25, true⟩), (.call 37 [(.t 26), (.t 27)])⟩, ⟨(some 29), (some ⟨25, true⟩), (.bslt 1 2 [(.int .i64 0)] [⟨0, ⟨1, (.c (.int .i64 0))⟩⟩, ⟨1, ⟨1, (.c (.int .i64 1))⟩⟩])⟩, ⟨(some 30), (some ⟨25, true⟩), (.call 42 [(.t 28), (.t 29)])⟩, ⟨(some 31), none, (.q (.pick (.t 25) (.t 30) (.c (.bool false))))⟩, ⟨(some 32), none, (.q (.mov (.t 31)))⟩, ⟨(some 33), (some ⟨32, true⟩), (.q (.mov (.t 1)))⟩, ⟨(some 34), (some ⟨32, true⟩), (.call 38 [(.c (.str [47, 102])), (.c (.int .u8 0)), (.c (.str []))])⟩, ⟨(some 35), (some ⟨32, true⟩), (.call 37 [(.t 33), (.t 34)])⟩, ⟨(some 36), (some ⟨32, true⟩), (.bslt 1 1 [(.int .i64 0)] [⟨0, ⟨1, (.c (.int .i64 2))⟩⟩])⟩, ⟨(some 37), (some ⟨32, true⟩), (.call 42 [(.t 35), (.t 36)])⟩, ⟨(some 38), none, (.q (.pick (.t 32) (.t 37) (.c (.bool false))))⟩, ⟨(some 39), none, (.q (.mov (.t 38)))⟩, ⟨(some 40), (some ⟨39, true⟩), (.q (.mov (.t 1)))⟩, ⟨(some 41), (some ⟨39, true⟩), (.call 33 [(.t 40), (.c (.int .i64 1))])⟩, ⟨(some 42), (some ⟨39, true⟩), (.bslt 1 1 [(.int .i64 0)] [⟨0, ⟨1, (.c (.int .i64 0))⟩⟩])⟩, ⟨(some 43), (some ⟨39, true⟩), (.call 42 [(.t 41), (.t 42)])⟩, ⟨(some 44), none, (.q (.pick (.t 39) (.t 43) (.c (.bool false))))⟩, ⟨(some 45), none, (.q (.mov (.t 44)))⟩, ⟨(some 46), (some ⟨45, true⟩), (.q (.mov (.t 1)))⟩, ⟨(some 47), (some ⟨45, true⟩), (.call 34 [(.t 46), (.c (.int .i64 0))])⟩, ⟨(some 48), (some ⟨45, true⟩), (.bslt 1 1 [(.int .i64 0)] [⟨0, ⟨1, (.c (.int .i64 1))⟩⟩])⟩, ⟨(some 49), (some ⟨45, true⟩), (.call 42 [(.t 47), (.t 48)])⟩, ⟨(some 50), none, (.q (.pick (.t 45) (.t 49) (.c (.bool false))))⟩, ⟨(some 0), none, (.q (.mov (.t 50)))⟩] [0])
   .ret)))
theorem fok30 : FOK Tryz.prog 30 (51, ic30, [(.t 0)]) := .mk (pf := [1000015, 1000022, 1000029, 1000036, 1000042, 1000048]) (an := [(1, [1, 3]), (2, [0])]) (by kernel_rfl) (fnOK_of Tryz.func30 (by kernel_rfl) (by kernel_rfl) (by kernel_rfl))
/-- chandlery/chandlerylaw13.of -/
def ic32 : IC :=
(.seq
 (.reg 0 [⟨(some 4), none, (.q (.mov (.c .nilptr)))⟩, ⟨(some 5), none, (.q (.mov (.c .nilptr)))⟩, ⟨(some 6), none, (.q (.mov (.c (.bool false))))⟩] [0, 1])
 (.seq
  (.reg 1 [⟨(some 12), none, (.q (.mov (.t 0)))⟩, ⟨(some 13), none, (.q (.mov (.t 1)))⟩, ⟨(some 14), none, (.call 11 [(.t 12), (.t 13)])⟩, ⟨(some 11), none, (.q (.mov (.t 14)))⟩, ⟨(some 15), none, (.q (.ext 0 (.t 11)))⟩, ⟨(some 16), none, (.q (.ext 1 (.t 11)))⟩, ⟨(some 7), none, (.q (.mov (.t 15)))⟩, ⟨(some 8), none, (.q (.mov (.t 16)))⟩] [7, 8])
  (.seq
   (.seq
    (.reg 2 [⟨(some 17), none, (.q (.mov (.t 8)))⟩, ⟨(some 18), none, (.q (.bin .neq (.t 17) (.c (.int .i64 0))))⟩] [7, 18])
    (.cond (.t 18)
     (.seq
      (.reg 3 [⟨(some 4), none, (.q (.mov (.c .nilptr)))⟩, ⟨(some 5), none, (.q (.mov (.c .nilptr)))⟩, ⟨(some 6), none, (.q (.mov (.c (.bool false))))⟩] [4, 5, 6])
      .ret)
     .skip))
   (.seq
    (.reg 4 [⟨(some 20), none, (.q (.mov (.t 7)))⟩, ⟨(some 21), none, (.call 36 [(.t 20)])⟩, ⟨(some 19), none, (.q (.mov (.t 21)))⟩, ⟨(some 22), none, (.q (.ext 0 (.t 19)))⟩, ⟨(some 23), none, (.q (.ext 1 (.t 19)))⟩, ⟨(some 9), none, (.q (.mov (.t 22)))⟩, ⟨(some 10), none, (.q (.mov (.t 23)))⟩] [7, 9, 10])
    (.seq
     (.reg 5 [⟨(some 24), none, (.q (.mov (.t 9)))⟩, ⟨(some 25), none, (.q (.mov (.t 7)))⟩, ⟨(some 26), none, (.q (.mov (.t 10)))⟩, ⟨(some 27), none, (.q (.bin .eql (.t 26) (.c (.int .i64 0))))⟩, ⟨(some 28), none, (.q (.mov (.t 27)))⟩, ⟨(some 29), (some ⟨28, true⟩), (.q (.mov (.t 9)))⟩, ⟨(some 30), (some ⟨28, true⟩), (.q (.isnil (.pointer 94) true (.t 29)))⟩, ⟨(some 31), none, (.q (.pick (.t 28) (.t 30) (.c (.bool false))))⟩, ⟨(some 4), none, (.q (.mov (.t 24)))⟩, ⟨(some 5), none, (.q (.mov (.t 25)))⟩, ⟨(some 6), none, (.q (.mov (.t 31)))⟩] [4, 5, 6])
     .ret)))))
theorem fok32 : FOK Tryz.prog 32 (32, ic32, [(.t 4), (.t 5), (.t 6)]) := .mk (pf := []) (an := [(0, [0, 1]), (1, [7, 8]), (2, [7, 18]), (3, [4, 5, 6]), (4, [7, 9, 10]), (5, [4, 5, 6])]) (by kernel_rfl) (fnOK_of Tryz.func32 (by kernel_rfl) (by kernel_rfl) (by kernel_rfl))
/-- (*chandlery/match.Index).Obsoleted -/
def ic33 : IC :=
(.seq
 (.reg 0 [⟨(some 3), none, (.boxt (.t 1))⟩, ⟨(some 4), none, (.q (.mov (.c .nilslice)))⟩] [0, 3])
 (.seq
  (.seq
   (.reg 1 [⟨(some 8), none, (.q (.mov (.t 0)))⟩, ⟨(some 9), none, (.q (.load none (.t 3)))⟩, ⟨(some 10), none, (.pcall 60 [(.t 8), (.t 9)])⟩, ⟨(some 11), none, (.q (.not (.t 10)))⟩] [0, 3, 11])
   (.cond (.t 11)
    (.seq
     (.reg 2 [⟨(some 4), none, (.q (.mov (.c .nilslice)))⟩] [4])
     .ret)
    .skip))
  (.seq
   (.reg 3 [⟨(some 5), none, (.q (.mov (.c .nilslice)))⟩] [0, 3, 5])
   (.seq
    (.seq
     (.dreg 4 [⟨(some 12), none, (.q (.mov (.t 0)))⟩, ⟨(some 13), none, (.q (.nchk (.t 12)))⟩, ⟨(some 14), none, (.q (.faddr 0 (.t 13)))⟩, ⟨(some 15), none, (.q (.load none (.t 14)))⟩, ⟨(some 16), none, (.q (.load none (.t 3)))⟩, ⟨(some 17), none, (.q (.iaddr 15 (.t 15) (.t 16)))⟩, ⟨(some 18), none, (.q (.faddr 9 (.t 17)))⟩, ⟨(some 19), none, (.q (.load none (.t 18)))⟩, ⟨(some 20), none, (.q (.len 0 (.t 19)))⟩, ⟨(some 21), none, (.q (.mov (.c (.int .i64 0))))⟩] false [0, 3, 5, 19, 20, 21])
     (.block 0
      (.loop
       (.seq
        (.reg 5 [⟨(some 22), none, (.q (.bin .lss (.t 21) (.t 20)))⟩] [0, 3, 5, 19, 20, 21, 22])
        (.seq
         (.cond (.t 22)
          .skip
          (.exit 0))
         (.seq
          (.block 1
           (.seq
            (.reg 6 [⟨(some 23), none, (.q (.iaddr 5 (.t 19) (.t 21)))⟩, ⟨(some 24), none, (.q (.load (some 5) (.t 23)))⟩, ⟨(some 7), none, (.alloc [(.str []), (.int .u8 0), (.int .i64 0), (.str []), (.str [])])⟩, ⟨none, none, (.store 5 (.t 7) (.t 24))⟩] [0, 3, 5, 7, 19, 20, 21])
            (.dreg 7 [⟨(some 25), none, (.q (.mov (.t 5)))⟩, ⟨(some 26), none, (.q (.mov (.t 0)))⟩, ⟨(some 27), none, (.q (.mov (.t 0)))⟩, ⟨(some 28), none, (.q (.nchk (.t 27)))⟩, ⟨(some 29), none, (.q (.faddr 2 (.t 28)))⟩, ⟨(some 30), none, (.q (.load none (.t 29)))⟩, ⟨(some 31), none, (.q (.faddr 0 (.t 7)))⟩, ⟨(some 32), none, (.q (.load none (.t 31)))⟩, ⟨(some 33), none, (.q (.lkp 2 .nilslice false (.t 30) (.t 32)))⟩, ⟨(some 34), none, (.q (.mkf 62 [] [(.t 3), (.t 7)]))⟩, ⟨(some 35), none, (.pcall 61 [(.t 26), (.t 33), (.t 34)])⟩, ⟨(some 36), none, (.app 1 (.t 25) (.t 35))⟩, ⟨(some 5), none, (.q (.mov (.t 36)))⟩] true [0, 3, 5, 19, 20, 21])))
          (.reg 8 [⟨(some 37), none, (.q (.bin .add (.t 21) (.c (.int .i64 1))))⟩, ⟨(some 21), none, (.q (.mov (.t 37)))⟩] [0, 3, 5, 19, 20, 21])))))))
    (.seq
     (.reg 9 [⟨(some 38), none, (.q (.mov (.t 5)))⟩, ⟨(some 39), none, (.call 63 [(.t 38)])⟩] [5])
     (.seq
      (.reg 10 [⟨(some 40), none, (.q (.mov (.t 5)))⟩, ⟨(some 41), none, (.call 64 [(.t 40)])⟩, ⟨(some 4), none, (.q (.mov (.t 41)))⟩] [4])
      .ret))))))
theorem fok33 : FOK Tryz.prog 33 (42, ic33, [(.t 4)]) := .mk (pf := ([1000003] ++ List.filter (fun k => k != 63 && k != 64) allF0)) (an := [(0, [0, 3]), (1, [0, 3, 11]), (2, [4]), (3, [0, 3, 5]), (4, [0, 3, 5, 19, 20, 21]), (5, [0, 3, 5, 19, 20, 21, 22]), (6, [0, 3, 5, 7, 19, 20, 21]), (7, [0, 3, 5, 19, 20, 21]), (8, [0, 3, 5, 19, 20, 21]), (9, [5]), (10, [4])]) (by kernel_rfl) (fnOK_of Tryz.func33 (by kernel_rfl) (by kernel_rfl) (by kernel_rfl))
/-- (*chandlery/match.Index).Obsoleters -/
def ic34 : IC :=
(.seq
 (.reg 0 [⟨(some 2), none, (.boxt (.t 0))⟩, ⟨(some 3), none, (.boxt (.t 1))⟩, ⟨(some 4), none, (.q (.mov (.c .nilslice)))⟩] [2, 3])
 (.seq
  (.seq
   (.reg 1 [⟨(some 5), none, (.q (.load none (.t 2)))⟩, ⟨(some 6), none, (.q (.load none (.t 3)))⟩, ⟨(some 7), none, (.call 60 [(.t 5), (.t 6)])⟩, ⟨(some 8), none, (.q (.not (.t 7)))⟩] [2, 3, 8])
   (.cond (.t 8)
    (.seq
     (.reg 2 [⟨(some 4), none, (.q (.mov (.c .nilslice)))⟩] [4])
     .ret)
    .skip))
  (.seq
   (.dreg 3 [⟨(some 9), none, (.q (.load none (.t 2)))⟩, ⟨(some 10), none, (.q (.load none (.t 2)))⟩, ⟨(some 11), none, (.q (.nchk (.t 10)))⟩, ⟨(some 12), none, (.q (.faddr 3 (.t 11)))⟩, ⟨(some 13), none, (.q (.load none (.t 12)))⟩, ⟨(some 14), none, (.q (.load none (.t 2)))⟩, ⟨(some 15), none, (.q (.nchk (.t 14)))⟩, ⟨(some 16), none, (.q (.faddr 0 (.t 15)))⟩, ⟨(some 17), none, (.q (.load none (.t 16)))⟩, ⟨(some 18), none, (.q (.load none (.t 3)))⟩, ⟨(some 19), none, (.q (.iaddr 15 (.t 17) (.t 18)))⟩, ⟨(some 20), none, (.q (.faddr 0 (.t 19)))⟩, ⟨(some 21), none, (.q (.load none (.t 20)))⟩, ⟨(some 22), none, (.q (.lkp 2 .nilslice false (.t 13) (.t 21)))⟩, ⟨(some 23), none, (.q (.mkf 65 [] [(.t 3), (.t 2)]))⟩, ⟨(some 24), none, (.call 61 [(.t 9), (.t 22), (.t 23)])⟩, ⟨(some 4), none, (.q (.mov (.t 24)))⟩] false [4])
   .ret)))
theorem fok34 : FOK Tryz.prog 34 (25, ic34, [(.t 4)]) := .mk (pf := [1000002, 1000003]) (an := [(0, [2, 3]), (1, [2, 3, 8]), (2, [4]), (3, [4])]) (by kernel_rfl) (fnOK_of Tryz.func34 (by kernel_rfl) (by kernel_rfl) (by kernel_rfl))
/-- chandlery/match.New -/
def ic36 : IC :=
(.seq
 (.reg 0 [⟨(some 2), none, (.q (.mov (.c .nilptr)))⟩, ⟨(some 3), none, (.q (.mov (.c (.int .i64 0))))⟩] [0])
 (.seq
  (.seq
   (.reg 1 [⟨(some 11), none, (.q (.mov (.t 0)))⟩, ⟨(some 12), none, (.q (.isnil (.pointer 78) false (.t 11)))⟩] [0, 12])
   (.cond (.t 12)
    (.seq
     (.reg 2 [⟨(some 2), none, (.q (.mov (.c .nilptr)))⟩, ⟨(some 3), none, (.q (.mov (.c (.int .i64 2))))⟩] [2, 3])
     .ret)
    .skip))
  (.seq
   (.reg 3 [⟨(some 13), none, .mkmap⟩, ⟨(some 14), none, .mkmap⟩, ⟨(some 15), none, .mkmap⟩, ⟨(some 16), none, (.q (.bld [.nilslice, .nilmap, .nilmap, .nilmap] [⟨1, ⟨1, (.t 13)⟩⟩, ⟨2, ⟨1, (.t 14)⟩⟩, ⟨3, ⟨1, (.t 15)⟩⟩]))⟩, ⟨(some 17), none, (.box (.t 16))⟩, ⟨(some 4), none, (.q (.mov (.t 17)))⟩] [0, 4])
   (.seq
    (.seq
     (.reg 4 [⟨(some 18), none, (.q (.mov (.t 0)))⟩, ⟨(some 19), none, (.call 13 [(.t 18)])⟩, ⟨(some 20), none, (.q (.mov (.c (.int .i64 0))))⟩] [0, 4, 19, 20])
     (.block 0
      (.loop
       (.seq
        (.reg 5 [⟨(some 21), none, (.q (.bin .lss (.t 20) (.t 19)))⟩] [0, 4, 19, 20, 21])
        (.seq
         (.cond (.t 21)
          .skip
          (.exit 0))
         (.seq
          (.block 1
           (.seq
            (.reg 6 [⟨(some 22), none, (.q (.mov (.t 20)))⟩, ⟨(some 5), none, (.q (.mov (.t 22)))⟩] [0, 4, 5, 19, 20])
            (.seq
            (.reg 7 [⟨(some 24), none, (.q (.mov (.t 0)))⟩, ⟨(some 25), none, (.q (.mov (.t 5)))⟩, ⟨(some 26), none, (.call 23 [(.t 24), (.t 25)])⟩, ⟨(some 23), none, (.q (.mov (.t 26)))⟩, ⟨(some 27), none, (.q (.ext 0 (.t 23)))⟩, ⟨(some 28), none, (.q (.ext 1 (.t 23)))⟩, ⟨(some 6), none, (.alloc [(.str []), (.int .i64 0), (.str []), (.str []), (.int .u8 0), (.str []), .nilslice, .nilslice, .nilslice, .nilslice, .nilslice, .nilslice, .nilslice, .nilslice, .nilslice])⟩, ⟨none, none, (.store 15 (.t 6) (.t 27))⟩, ⟨(some 7), none, (.q (.mov (.t 28)))⟩] [0, 4, 5, 6, 7, 19, 20])
            (.seq
            (.seq
            (.reg 8 [⟨(some 29), none, (.q (.mov (.t 7)))⟩, ⟨(some 30), none, (.q (.bin .neq (.t 29) (.c (.int .i64 0))))⟩] [0, 4, 5, 6, 7, 19, 20, 30])
            (.cond (.t 30)
            (.seq
            (.reg 9 [⟨(some 31), none, (.q (.mov (.t 7)))⟩, ⟨(some 2), none, (.q (.mov (.c .nilptr)))⟩, ⟨(some 3), none, (.q (.mov (.t 31)))⟩] [2, 3])
            .ret)
            .skip))
            (.seq
            (.dreg 10 [⟨(some 32), none, (.q (.mov (.t 4)))⟩, ⟨(some 33), none, (.q (.mov (.t 4)))⟩, ⟨(some 34), none, (.q (.nchk (.t 33)))⟩, ⟨(some 35), none, (.q (.faddr 0 (.t 34)))⟩, ⟨(some 36), none, (.q (.load none (.t 35)))⟩, ⟨(some 37), none, (.q (.load (some 15) (.t 6)))⟩, ⟨(some 38), none, (.bslt 15 1 [(.str []), (.int .i64 0), (.str []), (.str []), (.int .u8 0), (.str []), .nilslice, .nilslice, .nilslice, .nilslice, .nilslice, .nilslice, .nilslice, .nilslice, .nilslice] [⟨0, ⟨15, (.t 37)⟩⟩])⟩, ⟨(some 39), none, (.app 15 (.t 36) (.t 38))⟩, ⟨(some 40), none, (.q (.nchk (.t 32)))⟩, ⟨(some 41), none, (.q (.faddr 0 (.t 40)))⟩, ⟨none, none, (.store 1 (.t 41) (.t 39))⟩] true [0, 4, 5, 6, 19, 20])
            (.seq
            (.dreg 11 [⟨(some 42), none, (.q (.mov (.t 4)))⟩, ⟨(some 43), none, (.q (.nchk (.t 42)))⟩, ⟨(some 44), none, (.q (.faddr 2 (.t 43)))⟩, ⟨(some 45), none, (.q (.load none (.t 44)))⟩, ⟨(some 46), none, (.q (.faddr 0 (.t 6)))⟩, ⟨(some 47), none, (.q (.load none (.t 46)))⟩, ⟨(some 48), none, (.q (.mov (.t 4)))⟩, ⟨(some 49), none, (.q (.nchk (.t 48)))⟩, ⟨(some 50), none, (.q (.faddr 2 (.t 49)))⟩, ⟨(some 51), none, (.q (.load none (.t 50)))⟩, ⟨(some 52), none, (.q (.faddr 0 (.t 6)))⟩, ⟨(some 53), none, (.q (.load none (.t 52)))⟩, ⟨(some 54), none, (.q (.lkp 2 .nilslice false (.t 51) (.t 53)))⟩, ⟨(some 55), none, (.q (.mov (.t 5)))⟩, ⟨(some 56), none, (.bslt 1 1 [(.int .i64 0)] [⟨0, ⟨1, (.t 55)⟩⟩])⟩, ⟨(some 57), none, (.app 1 (.t 54) (.t 56))⟩, ⟨none, none, (.mupd 2 (.t 45) (.t 47) (.t 57))⟩] true [0, 4, 5, 6, 19, 20])
            (.seq
            (.seq
            (.reg 12 [⟨(some 58), none, (.q (.load (some 15) (.t 6)))⟩, ⟨(some 59), none, (.call 66 [(.t 58)])⟩, ⟨(some 60), none, (.mrange (.t 59))⟩] [0, 4, 5, 6, 19, 20, 60])
            (.block 2
            (.loop
            (.seq
            (.reg 13 [⟨(some 61), none, (.mnext (.t 60))⟩, ⟨(some 62), none, (.q (.ext 0 (.t 61)))⟩] [0, 4, 5, 6, 19, 20, 60, 62])
            (.seq
            (.cond (.t 62)
            .skip
            (.exit 2))
            (.block 3
            (.seq
            (.reg 14 [⟨(some 63), none, (.ment (.t 60))⟩, ⟨(some 64), none, (.q (.ext 0 (.t 63)))⟩, ⟨(some 8), none, (.q (.mov (.t 64)))⟩] [0, 4, 5, 6, 8, 19, 20, 60])
            (.dreg 15 [⟨(some 65), none, (.q (.mov (.t 4)))⟩, ⟨(some 66), none, (.q (.nchk (.t 65)))⟩, ⟨(some 67), none, (.q (.faddr 1 (.t 66)))⟩, ⟨(some 68), none, (.q (.load none (.t 67)))⟩, ⟨(some 69), none, (.q (.mov (.t 8)))⟩, ⟨(some 70), none, (.q (.mov (.t 4)))⟩, ⟨(some 71), none, (.q (.nchk (.t 70)))⟩, ⟨(some 72), none, (.q (.faddr 1 (.t 71)))⟩, ⟨(some 73), none, (.q (.load none (.t 72)))⟩, ⟨(some 74), none, (.q (.mov (.t 8)))⟩, ⟨(some 75), none, (.q (.lkp 2 .nilslice false (.t 73) (.t 74)))⟩, ⟨(some 76), none, (.q (.mov (.t 5)))⟩, ⟨(some 77), none, (.bslt 1 1 [(.int .i64 0)] [⟨0, ⟨1, (.t 76)⟩⟩])⟩, ⟨(some 78), none, (.app 1 (.t 75) (.t 77))⟩, ⟨none, none, (.mupd 2 (.t 68) (.t 69) (.t 78))⟩] true [0, 4, 5, 6, 19, 20, 60]))))))))
            (.seq
            (.reg 16 [⟨(some 79), none, (.q (.faddr 9 (.t 6)))⟩, ⟨(some 80), none, (.q (.load none (.t 79)))⟩, ⟨(some 81), none, (.q (.len 0 (.t 80)))⟩, ⟨(some 82), none, (.q (.mov (.c (.int .i64 0))))⟩] [0, 4, 5, 19, 20, 80, 81, 82])
            (.block 4
            (.loop
            (.seq
            (.reg 17 [⟨(some 83), none, (.q (.bin .lss (.t 82) (.t 81)))⟩] [0, 4, 5, 19, 20, 80, 81, 82, 83])
            (.seq
            (.cond (.t 83)
            .skip
            (.exit 4))
            (.seq
            (.block 5
            (.seq
            (.reg 18 [⟨(some 84), none, (.q (.iaddr 5 (.t 80) (.t 82)))⟩, ⟨(some 85), none, (.q (.load (some 5) (.t 84)))⟩, ⟨(some 10), none, (.alloc [(.str []), (.int .u8 0), (.int .i64 0), (.str []), (.str [])])⟩, ⟨none, none, (.store 5 (.t 10) (.t 85))⟩] [0, 4, 5, 10, 19, 20, 80, 81, 82])
            (.seq
            (.dreg 19 [⟨(some 86), none, (.q (.mov (.t 4)))⟩, ⟨(some 87), none, (.q (.nchk (.t 86)))⟩, ⟨(some 88), none, (.q (.faddr 3 (.t 87)))⟩, ⟨(some 89), none, (.q (.load none (.t 88)))⟩, ⟨(some 90), none, (.q (.faddr 0 (.t 10)))⟩, ⟨(some 91), none, (.q (.load none (.t 90)))⟩, ⟨(some 92), none, (.q (.lkp 2 .nilslice false (.t 89) (.t 91)))⟩, ⟨(some 93), none, (.q (.mov (.t 5)))⟩, ⟨(some 94), none, (.call 67 [(.t 92), (.t 93)])⟩, ⟨(some 95), none, (.q (.not (.t 94)))⟩] false [0, 4, 5, 10, 19, 20, 80, 81, 82, 95])
            (.cond (.t 95)
            (.dreg 20 [⟨(some 96), none, (.q (.mov (.t 4)))⟩, ⟨(some 97), none, (.q (.nchk (.t 96)))⟩, ⟨(some 98), none, (.q (.faddr 3 (.t 97)))⟩, ⟨(some 99), none, (.q (.load none (.t 98)))⟩, ⟨(some 100), none, (.q (.faddr 0 (.t 10)))⟩, ⟨(some 101), none, (.q (.load none (.t 100)))⟩, ⟨(some 102), none, (.q (.mov (.t 4)))⟩, ⟨(some 103), none, (.q (.nchk (.t 102)))⟩, ⟨(some 104), none, (.q (.faddr 3 (.t 103)))⟩, ⟨(some 105), none, (.q (.load none (.t 104)))⟩, ⟨(some 106), none, (.q (.faddr 0 (.t 10)))⟩, ⟨(some 107), none, (.q (.load none (.t 106)))⟩, ⟨(some 108), none, (.q (.lkp 2 .nilslice false (.t 105) (.t 107)))⟩, ⟨(some 109), none, (.q (.mov (.t 5)))⟩, ⟨(some 110), none, (.bslt 1 1 [(.int .i64 0)] [⟨0, ⟨1, (.t 109)⟩⟩])⟩, ⟨(some 111), none, (.app 1 (.t 108) (.t 110))⟩, ⟨none, none, (.mupd 2 (.t 99) (.t 101) (.t 111))⟩] true [0, 4, 5, 19, 20, 80, 81, 82])
            .skip))))
            (.reg 21 [⟨(some 112), none, (.q (.bin .add (.t 82) (.c (.int .i64 1))))⟩, ⟨(some 82), none, (.q (.mov (.t 112)))⟩] [0, 4, 5, 19, 20, 80, 81, 82]))))))))))))))
          (.reg 22 [⟨(some 113), none, (.q (.bin .add (.t 20) (.c (.int .i64 1))))⟩, ⟨(some 20), none, (.q (.mov (.t 113)))⟩] [0, 4, 19, 20])))))))
    (.seq
     (.reg 23 [⟨(some 114), none, (.q (.mov (.t 4)))⟩, ⟨(some 2), none, (.q (.mov (.t 114)))⟩, ⟨(some 3), none, (.q (.mov (.c (.int .i64 0))))⟩] [2, 3])
     .ret)))))
theorem fok36 : FOK Tryz.prog 36 (115, ic36, [(.t 2), (.t 3)]) := .mk (pf := [1000038, 1000056, 1000077, 1000110]) (an := [(0, [0]), (1, [0, 12]), (2, [2, 3]), (3, [0, 4]), (4, [0, 4, 19, 20]), (5, [0, 4, 19, 20, 21]), (6, [0, 4, 5, 19, 20]), (7, [0, 4, 5, 6, 7, 19, 20]), (8, [0, 4, 5, 6, 7, 19, 20, 30]), (9, [2, 3]), (10, [0, 4, 5, 6, 19, 20]), (11, [0, 4, 5, 6, 19, 20]), (12, [0, 4, 5, 6, 19, 20, 60]), (13, [0, 4, 5, 6, 19, 20, 60, 62]), (14, [0, 4, 5, 6, 8, 19, 20, 60]), (15, [0, 4, 5, 6, 19, 20, 60]), (16, [0, 4, 5, 19, 20, 80, 81, 82]), (17, [0, 4, 5, 19, 20, 80, 81, 82, 83]), (18, [0, 4, 5, 10, 19, 20, 80, 81, 82]), (19, [0, 4, 5, 10, 19, 20, 80, 81, 82, 95]), (20, [0, 4, 5, 19, 20, 80, 81, 82]), (21, [0, 4, 5, 19, 20, 80, 81, 82]), (22, [0, 4, 19, 20]), (23, [2, 3])]) (by kernel_rfl) (fnOK_of Tryz.func36 (by kernel_rfl) (by kernel_rfl) (by kernel_rfl))
/-- (*chandlery/match.Index).Providers -/
def ic37 : IC :=
(.seq
 (.reg 0 [⟨(some 3), none, (.boxt (.t 1))⟩, ⟨(some 4), none, (.q (.mov (.c .nilslice)))⟩] [0, 3])
 (.seq
  (.seq
   (.reg 1 [⟨(some 5), none, (.q (.mov (.t 0)))⟩, ⟨(some 6), none, (.q (.isnil (.pointer 94) false (.t 5)))⟩] [0, 3, 6])
   (.cond (.t 6)
    (.seq
     (.reg 2 [⟨(some 4), none, (.q (.mov (.c .nilslice)))⟩] [4])
     .ret)
    .skip))
  (.seq
   (.dreg 3 [⟨(some 7), none, (.q (.mov (.t 0)))⟩, ⟨(some 8), none, (.q (.mov (.t 0)))⟩, ⟨(some 9), none, (.q (.nchk (.t 8)))⟩, ⟨(some 10), none, (.q (.faddr 1 (.t 9)))⟩, ⟨(some 11), none, (.q (.load none (.t 10)))⟩, ⟨(some 12), none, (.q (.faddr 0 (.t 3)))⟩, ⟨(some 13), none, (.q (.load none (.t 12)))⟩, ⟨(some 14), none, (.q (.lkp 2 .nilslice false (.t 11) (.t 13)))⟩, ⟨(some 15), none, (.q (.mkf 68 [] [(.t 3)]))⟩, ⟨(some 16), none, (.call 61 [(.t 7), (.t 14), (.t 15)])⟩, ⟨(some 4), none, (.q (.mov (.t 16)))⟩] false [4])
   .ret)))
theorem fok37 : FOK Tryz.prog 37 (17, ic37, [(.t 4)]) := .mk (pf := [1000003]) (an := [(0, [0, 3]), (1, [0, 3, 6]), (2, [4]), (3, [4])]) (by kernel_rfl) (fnOK_of Tryz.func37 (by kernel_rfl) (by kernel_rfl) (by kernel_rfl))
/-- chandlery/chandlerylaw13.dep -/
def ic38 : IC :=
(.seq
 (.reg 0 [⟨(some 6), none, (.alloc [(.str []), (.int .u8 0), (.int .i64 0), (.str []), (.str [])])⟩] [0, 1, 2, 6])
 (.seq
  (.seq
   (.reg 1 [⟨(some 7), none, (.q (.mov (.t 1)))⟩, ⟨(some 8), none, (.q (.bin .eql (.t 7) (.c (.int .u8 0))))⟩] [0, 1, 2, 6, 8])
   (.cond (.t 8)
    (.seq
     (.reg 2 [⟨(some 9), none, (.q (.mov (.t 0)))⟩, ⟨(some 10), none, (.q (.bld [(.str []), (.int .u8 0), (.int .i64 0), (.str []), (.str [])] [⟨0, ⟨1, (.t 9)⟩⟩]))⟩, ⟨none, none, (.store 5 (.t 6) (.t 10))⟩] [6])
     .ret)
    .skip))
  (.seq
   (.reg 3 [⟨(some 11), none, (.q (.mov (.t 0)))⟩, ⟨(some 12), none, (.q (.mov (.t 1)))⟩, ⟨(some 13), none, (.q (.mov (.t 2)))⟩, ⟨(some 14), none, (.q (.bld [(.int .i64 0), (.str []), (.str [])] [⟨1, ⟨1, (.t 13)⟩⟩]))⟩, ⟨(some 15), none, (.q (.bld [(.str []), (.int .u8 0), (.int .i64 0), (.str []), (.str [])] [⟨0, ⟨1, (.t 11)⟩⟩, ⟨1, ⟨1, (.t 12)⟩⟩, ⟨2, ⟨3, (.t 14)⟩⟩]))⟩, ⟨none, none, (.store 5 (.t 6) (.t 15))⟩] [6])
   .ret)))
theorem fok38 : FOK Tryz.prog 38 (16, ic38, [(.cell (some 5) 6)]) := .mk (pf := []) (an := [(0, [0, 1, 2, 6]), (1, [0, 1, 2, 6, 8]), (2, [6]), (3, [6])]) (by kernel_rfl) (fnOK_of Tryz.func38 (by kernel_rfl) (by kernel_rfl) (by kernel_rfl))
/-- (*chandlery/match.Index).Named -/
def ic39 : IC :=
(.seq
 (.reg 0 [⟨(some 3), none, (.boxt (.t 1))⟩, ⟨(some 4), none, (.q (.mov (.c .nilslice)))⟩] [0, 3])
 (.seq
  (.seq
   (.reg 1 [⟨(some 5), none, (.q (.mov (.t 0)))⟩, ⟨(some 6), none, (.q (.isnil (.pointer 94) false (.t 5)))⟩] [0, 3, 6])
   (.cond (.t 6)
    (.seq
     (.reg 2 [⟨(some 4), none, (.q (.mov (.c .nilslice)))⟩] [4])
     .ret)
    .skip))
  (.seq
   (.dreg 3 [⟨(some 7), none, (.q (.mov (.t 0)))⟩, ⟨(some 8), none, (.q (.mov (.t 0)))⟩, ⟨(some 9), none, (.q (.nchk (.t 8)))⟩, ⟨(some 10), none, (.q (.faddr 2 (.t 9)))⟩, ⟨(some 11), none, (.q (.load none (.t 10)))⟩, ⟨(some 12), none, (.q (.faddr 0 (.t 3)))⟩, ⟨(some 13), none, (.q (.load none (.t 12)))⟩, ⟨(some 14), none, (.q (.lkp 2 .nilslice false (.t 11) (.t 13)))⟩, ⟨(some 15), none, (.q (.mkf 69 [] [(.t 3)]))⟩, ⟨(some 16), none, (.call 61 [(.t 7), (.t 14), (.t 15)])⟩, ⟨(some 4), none, (.q (.mov (.t 16)))⟩] false [4])
   .ret)))
theorem fok39 : FOK Tryz.prog 39 (17, ic39, [(.t 4)]) := .mk (pf := [1000003]) (an := [(0, [0, 3]), (1, [0, 3, 6]), (2, [4]), (3, [4])]) (by kernel_rfl) (fnOK_of Tryz.func39 (by kernel_rfl) (by kernel_rfl) (by kernel_rfl))
/-- chandlery/chandlerylaw13.bare -/
def ic40 : IC :=
(.seq
 (.reg 0 [⟨(some 2), none, (.alloc [(.str []), (.int .i64 0), (.str []), (.str []), (.int .u8 0), (.str []), .nilslice, .nilslice, .nilslice, .nilslice, .nilslice, .nilslice, .nilslice, .nilslice, .nilslice])⟩] [0, 2])
 (.seq
  (.reg 1 [⟨(some 3), none, (.q (.mov (.t 0)))⟩, ⟨(some 4), none, (.q (.bld [(.int .i64 0), (.str []), (.str [])] [⟨1, ⟨1, (.c (.str [49]))⟩⟩, ⟨2, ⟨1, (.c (.str [49]))⟩⟩]))⟩, ⟨(some 5), none, (.q (.bld [(.str []), (.int .i64 0), (.str []), (.str []), (.int .u8 0), (.str []), .nilslice, .nilslice, .nilslice, .nilslice, .nilslice, .nilslice, .nilslice, .nilslice, .nilslice] [⟨0, ⟨1, (.t 3)⟩⟩, ⟨1, ⟨3, (.t 4)⟩⟩, ⟨4, ⟨1, (.c (.int .u8 1))⟩⟩]))⟩, ⟨none, none, (.store 15 (.t 2) (.t 5))⟩] [2])
  .ret))
theorem fok40 : FOK Tryz.prog 40 (6, ic40, [(.cell (some 15) 2)]) := .mk (pf := []) (an := [(0, [0, 2]), (1, [2])]) (by kernel_rfl) (fnOK_of Tryz.func40 (by kernel_rfl) (by kernel_rfl) (by kernel_rfl))
/-- chandlery/chandlerylaw13.three -/
def ic41 : IC :=
(.seq
 (.reg 0 [⟨(some 0), none, (.q (.mov (.c .nilslice)))⟩] [])
 (.seq
  (.reg 1 [⟨(some 4), none, (.call 40 [(.c (.str [97]))])⟩, ⟨(some 5), none, (.call 40 [(.c (.str [98]))])⟩, ⟨(some 6), none, (.call 40 [(.c (.str [99]))])⟩, ⟨(some 1), none, (.alloc [(.str []), (.int .i64 0), (.str []), (.str []), (.int .u8 0), (.str []), .nilslice, .nilslice, .nilslice, .nilslice, .nilslice, .nilslice, .nilslice, .nilslice, .nilslice])⟩, ⟨(some 2), none, (.alloc [(.str []), (.int .i64 0), (.str []), (.str []), (.int .u8 0), (.str []), .nilslice, .nilslice, .nilslice, .nilslice, .nilslice, .nilslice, .nilslice, .nilslice, .nilslice])⟩, ⟨(some 3), none, (.alloc [(.str []), (.int .i64 0), (.str []), (.str []), (.int .u8 0), (.str []), .nilslice, .nilslice, .nilslice, .nilslice, .nilslice, .nilslice, .nilslice, .nilslice, .nilslice])⟩, ⟨none, none, (.store 15 (.t 1) (.t 4))⟩, ⟨none, none, (.store 15 (.t 2) (.t 5))⟩, ⟨none, none, (.store 15 (.t 3) (.t 6))⟩] [1, 2, 3])
  (.seq
   (.reg 2 [⟨(some 7), none, (.call 38 [(.c (.str [97])), (.c (.int .u8 2)), (.c (.str [50]))])⟩, ⟨(some 8), none, (.bslt 5 1 [(.str []), (.int .u8 0), (.int .i64 0), (.str []), (.str [])] [⟨0, ⟨5, (.t 7)⟩⟩])⟩, ⟨(some 9), none, (.q (.faddr 6 (.t 2)))⟩, ⟨none, none, (.store 1 (.t 9) (.t 8))⟩] [1, 2, 3])
   (.seq
    (.reg 3 [⟨(some 10), none, (.call 38 [(.c (.str [97])), (.c (.int .u8 1)), (.c (.str [50]))])⟩, ⟨(some 11), none, (.bslt 5 1 [(.str []), (.int .u8 0), (.int .i64 0), (.str []), (.str [])] [⟨0, ⟨5, (.t 10)⟩⟩])⟩, ⟨(some 12), none, (.q (.faddr 9 (.t 2)))⟩, ⟨none, none, (.store 1 (.t 12) (.t 11))⟩] [1, 2, 3])
    (.seq
     (.reg 4 [⟨(some 13), none, (.bslt 1 1 [(.str [])] [⟨0, ⟨1, (.c (.str [47, 102]))⟩⟩])⟩, ⟨(some 14), none, (.q (.faddr 14 (.t 3)))⟩, ⟨none, none, (.store 1 (.t 14) (.t 13))⟩] [1, 2, 3])
     (.seq
      (.reg 5 [⟨(some 15), none, (.q (.load (some 15) (.t 1)))⟩, ⟨(some 16), none, (.q (.load (some 15) (.t 2)))⟩, ⟨(some 17), none, (.q (.load (some 15) (.t 3)))⟩, ⟨(some 18), none, (.bslt 15 3 [(.str []), (.int .i64 0), (.str []), (.str []), (.int .u8 0), (.str []), .nilslice, .nilslice, .nilslice, .nilslice, .nilslice, .nilslice, .nilslice, .nilslice, .nilslice] [⟨0, ⟨15, (.t 15)⟩⟩, ⟨15, ⟨15, (.t 16)⟩⟩, ⟨30, ⟨15, (.t 17)⟩⟩])⟩, ⟨(some 0), none, (.q (.mov (.t 18)))⟩] [0])
      .ret))))))
theorem fok41 : FOK Tryz.prog 41 (19, ic41, [(.t 0)]) := .mk (pf := [1000008, 1000011, 1000013, 1000018]) (an := [(1, [1, 2, 3]), (2, [1, 2, 3]), (3, [1, 2, 3]), (4, [1, 2, 3]), (5, [0])]) (by kernel_rfl) (fnOK_of Tryz.func41 (by kernel_rfl) (by kernel_rfl) (by kernel_rfl))
/-- chandlery/chandlerylaw13.are -/
def ic42 : IC :=
(.seq
 (.reg 0 [⟨(some 4), none, (.q (.mov (.c (.bool false))))⟩] [0, 1])
 (.seq
  (.reg 1 [⟨(some 5), none, (.q (.mov (.t 0)))⟩, ⟨(some 6), none, (.q (.mov (.t 1)))⟩, ⟨(some 7), none, (.call 70 [(.t 5), (.t 6)])⟩, ⟨(some 4), none, (.q (.mov (.t 7)))⟩] [4])
  .ret))
theorem fok42 : FOK Tryz.prog 42 (8, ic42, [(.t 4)]) := .mk (pf := []) (an := [(0, [0, 1]), (1, [4])]) (by kernel_rfl) (fnOK_of Tryz.func42 (by kernel_rfl) (by kernel_rfl) (by kernel_rfl))
/-- chandlery/pkg.Provides -/
def ic43 : IC :=
(.seq
 (.reg 0 [⟨(some 2), none, (.boxt (.t 0))⟩, ⟨(some 3), none, (.boxt (.t 1))⟩, ⟨(some 4), none, (.q (.mov (.c (.bool false))))⟩] [2, 3])
 (.seq
  (.seq
   (.reg 1 [⟨(some 5), none, (.q (.load (some 15) (.t 2)))⟩, ⟨(some 6), none, (.q (.load (some 5) (.t 3)))⟩, ⟨(some 7), none, (.call 44 [(.t 5), (.t 6)])⟩, ⟨(some 8), none, (.q (.mov (.t 7)))⟩, ⟨(some 9), (some ⟨8, false⟩), (.q (.faddr 6 (.t 2)))⟩, ⟨(some 10), (some ⟨8, false⟩), (.q (.load none (.t 9)))⟩, ⟨(some 11), (some ⟨8, false⟩), (.q (.mkf 71 [] [(.t 3)]))⟩, ⟨(some 12), (some ⟨8, false⟩), (.call 57 [(.t 10), (.t 11)])⟩, ⟨(some 13), none, (.q (.pick (.t 8) (.c (.bool true)) (.t 12)))⟩] [2, 3, 13])
   (.cond (.t 13)
    (.seq
     (.reg 2 [⟨(some 4), none, (.q (.mov (.c (.bool true))))⟩] [4])
     .ret)
    .skip))
  (.seq
   (.reg 3 [⟨(some 14), none, (.q (.faddr 1 (.t 3)))⟩, ⟨(some 15), none, (.q (.load none (.t 14)))⟩, ⟨(some 16), none, (.q (.bin .eql (.t 15) (.c (.int .u8 0))))⟩, ⟨(some 17), none, (.q (.mov (.t 16)))⟩, ⟨(some 18), (some ⟨17, true⟩), (.q (.faddr 14 (.t 2)))⟩, ⟨(some 19), (some ⟨17, true⟩), (.q (.load none (.t 18)))⟩, ⟨(some 20), (some ⟨17, true⟩), (.q (.faddr 0 (.t 3)))⟩, ⟨(some 21), (some ⟨17, true⟩), (.q (.load none (.t 20)))⟩, ⟨(some 22), (some ⟨17, true⟩), (.call 73 [(.t 19), (.t 21)])⟩, ⟨(some 23), none, (.q (.pick (.t 17) (.t 22) (.c (.bool false))))⟩, ⟨(some 4), none, (.q (.mov (.t 23)))⟩] [4])
   .ret)))
theorem fok43 : FOK Tryz.prog 43 (24, ic43, [(.t 4)]) := .mk (pf := [1000002, 1000003]) (an := [(0, [2, 3]), (1, [2, 3, 13]), (2, [4]), (3, [4])]) (by kernel_rfl) (fnOK_of Tryz.func43 (by kernel_rfl) (by kernel_rfl) (by kernel_rfl))
/-- chandlery/pkg.Named -/
def ic44 : IC :=
(.seq
 (.reg 0 [⟨(some 2), none, (.boxt (.t 0))⟩, ⟨(some 3), none, (.boxt (.t 1))⟩, ⟨(some 4), none, (.q (.mov (.c (.bool false))))⟩] [2, 3])
 (.seq
  (.dreg 1 [⟨(some 5), none, (.q (.load (some 15) (.t 2)))⟩, ⟨(some 6), none, (.pcall 74 [(.t 5)])⟩, ⟨(some 7), none, (.q (.load (some 5) (.t 3)))⟩, ⟨(some 8), none, (.pcall 72 [(.t 6), (.t 7)])⟩, ⟨(some 4), none, (.q (.mov (.t 8)))⟩] false [4])
  .ret))
theorem fok44 : FOK Tryz.prog 44 (9, ic44, [(.t 4)]) := .mk (pf := ([1000002, 1000003] ++ allF0)) (an := [(0, [2, 3]), (1, [4])]) (by kernel_rfl) (fnOK_of Tryz.func44 (by kernel_rfl) (by kernel_rfl) (by kernel_rfl))
/-- (*chandlery/pool.Pool).add -/
def ic46 : IC :=
(.seq
 (.reg 0 [⟨(some 8), none, (.q (.mov (.c (.int .i64 0))))⟩] [0, 1, 2, 3])
 (.seq
  (.seq
   (.reg 1 [⟨(some 11), none, (.q (.mov (.t 1)))⟩, ⟨(some 12), none, (.q (.len 0 (.t 11)))⟩, ⟨(some 13), none, (.q (.mov (.c (.int .i64 0))))⟩] [0, 2, 3, 11, 12, 13])
   (.block 0
    (.loop
     (.seq
      (.reg 2 [⟨(some 14), none, (.q (.bin .lss (.t 13) (.t 12)))⟩] [0, 2, 3, 11, 12, 13, 14])
      (.seq
       (.cond (.t 14)
        .skip
        (.exit 0))
       (.seq
        (.block 1
         (.seq
          (.reg 3 [⟨(some 15), none, (.q (.iaddr 15 (.t 11) (.t 13)))⟩, ⟨(some 16), none, (.q (.load (some 15) (.t 15)))⟩, ⟨(some 10), none, (.alloc [(.str []), (.int .i64 0), (.str []), (.str []), (.int .u8 0), (.str []), .nilslice, .nilslice, .nilslice, .nilslice, .nilslice, .nilslice, .nilslice, .nilslice, .nilslice])⟩, ⟨none, none, (.store 15 (.t 10) (.t 16))⟩] [0, 2, 3, 10, 11, 12, 13])
          (.seq
           (.seq
            (.reg 4 [⟨(some 17), none, (.q (.load (some 15) (.t 10)))⟩, ⟨(some 18), none, (.pcall 76 [(.t 17)])⟩, ⟨(some 19), none, (.q (.not (.t 18)))⟩] [0, 2, 3, 10, 11, 12, 13, 19])
            (.cond (.t 19)
            (.seq
            (.reg 5 [⟨(some 8), none, (.q (.mov (.c (.int .i64 4))))⟩] [8])
            .ret)
            .skip))
           (.seq
            (.dreg 6 [⟨(some 20), none, (.q (.mov (.t 0)))⟩, ⟨(some 21), none, (.q (.nchk (.t 20)))⟩, ⟨(some 22), none, (.q (.faddr 2 (.t 21)))⟩, ⟨(some 23), none, (.q (.load none (.t 22)))⟩, ⟨(some 24), none, (.q (.faddr 0 (.t 10)))⟩, ⟨(some 25), none, (.q (.load none (.t 24)))⟩, ⟨(some 26), none, (.q (.mov (.t 0)))⟩, ⟨(some 27), none, (.q (.nchk (.t 26)))⟩, ⟨(some 28), none, (.q (.faddr 2 (.t 27)))⟩, ⟨(some 29), none, (.q (.load none (.t 28)))⟩, ⟨(some 30), none, (.q (.faddr 0 (.t 10)))⟩, ⟨(some 31), none, (.q (.load none (.t 30)))⟩, ⟨(some 32), none, (.q (.lkp 2 .nilslice false (.t 29) (.t 31)))⟩, ⟨(some 33), none, (.q (.mov (.t 0)))⟩, ⟨(some 34), none, (.q (.nchk (.t 33)))⟩, ⟨(some 35), none, (.q (.faddr 0 (.t 34)))⟩, ⟨(some 36), none, (.q (.load none (.t 35)))⟩, ⟨(some 37), none, (.q (.len 0 (.t 36)))⟩, ⟨(some 38), none, (.bslt 1 1 [(.int .i64 0)] [⟨0, ⟨1, (.t 37)⟩⟩])⟩, ⟨(some 39), none, (.app 1 (.t 32) (.t 38))⟩, ⟨none, none, (.mupd 2 (.t 23) (.t 25) (.t 39))⟩] true [0, 2, 3, 10, 11, 12, 13])
            (.dreg 7 [⟨(some 40), none, (.q (.mov (.t 0)))⟩, ⟨(some 41), none, (.q (.mov (.t 0)))⟩, ⟨(some 42), none, (.q (.nchk (.t 41)))⟩, ⟨(some 43), none, (.q (.faddr 0 (.t 42)))⟩, ⟨(some 44), none, (.q (.load none (.t 43)))⟩, ⟨(some 45), none, (.q (.load (some 15) (.t 10)))⟩, ⟨(some 46), none, (.pcall 54 [(.t 45)])⟩, ⟨(some 47), none, (.q (.mov (.t 2)))⟩, ⟨(some 48), none, (.q (.mov (.t 3)))⟩, ⟨(some 49), none, (.q (.bld [(.str []), (.int .i64 0), (.str []), (.str []), (.int .u8 0), (.str []), .nilslice, .nilslice, .nilslice, .nilslice, .nilslice, .nilslice, .nilslice, .nilslice, .nilslice, (.int .i64 0), (.int .i64 0)] [⟨0, ⟨15, (.t 46)⟩⟩, ⟨15, ⟨1, (.t 47)⟩⟩, ⟨16, ⟨1, (.t 48)⟩⟩]))⟩, ⟨(some 50), none, (.bslt 17 1 [(.str []), (.int .i64 0), (.str []), (.str []), (.int .u8 0), (.str []), .nilslice, .nilslice, .nilslice, .nilslice, .nilslice, .nilslice, .nilslice, .nilslice, .nilslice, (.int .i64 0), (.int .i64 0)] [⟨0, ⟨17, (.t 49)⟩⟩])⟩, ⟨(some 51), none, (.app 17 (.t 44) (.t 50))⟩, ⟨(some 52), none, (.q (.nchk (.t 40)))⟩, ⟨(some 53), none, (.q (.faddr 0 (.t 52)))⟩, ⟨none, none, (.store 1 (.t 53) (.t 51))⟩] true [0, 2, 3, 11, 12, 13])))))
        (.reg 8 [⟨(some 54), none, (.q (.bin .add (.t 13) (.c (.int .i64 1))))⟩, ⟨(some 13), none, (.q (.mov (.t 54)))⟩] [0, 2, 3, 11, 12, 13])))))))
  (.seq
   (.reg 9 [⟨(some 8), none, (.q (.mov (.c (.int .i64 0))))⟩] [8])
   .ret)))
theorem fok46 : FOK Tryz.prog 46 (55, ic46, [(.t 8)]) := .mk (pf := ([1000038, 1000050] ++ allF0)) (an := [(0, [0, 1, 2, 3]), (1, [0, 2, 3, 11, 12, 13]), (2, [0, 2, 3, 11, 12, 13, 14]), (3, [0, 2, 3, 10, 11, 12, 13]), (4, [0, 2, 3, 10, 11, 12, 13, 19]), (5, [8]), (6, [0, 2, 3, 10, 11, 12, 13]), (7, [0, 2, 3, 11, 12, 13]), (8, [0, 2, 3, 11, 12, 13]), (9, [8])]) (by kernel_rfl) (fnOK_of Tryz.func46 (by kernel_rfl) (by kernel_rfl) (by kernel_rfl))
/-- slices.Clone[[]int,int] -/
def ic49 : IC :=
(.seq
 (.reg 0 [⟨(some 2), none, (.q (.mov (.c .nilslice)))⟩] [0])
 (.seq
  (.seq
   (.reg 1 [⟨(some 3), none, (.q (.mov (.t 0)))⟩, ⟨(some 4), none, (.q (.isnil (.slice 3) false (.t 3)))⟩] [0, 4])
   (.cond (.t 4)
    (.seq
     (.reg 2 [⟨(some 2), none, (.q (.mov (.c .nilslice)))⟩] [2])
     .ret)
    .skip))
  (.seq
   (.reg 3 [⟨(some 5), none, (.bsl 1 0 [(.int .i64 0)] [])⟩, ⟨(some 6), none, (.q (.mov (.t 0)))⟩, ⟨(some 7), none, (.app 1 (.t 5) (.t 6))⟩, ⟨(some 2), none, (.q (.mov (.t 7)))⟩] [2])
   .ret)))
theorem fok49 : FOK Tryz.prog 49 (8, ic49, [(.t 2)]) := .mk (pf := []) (an := [(0, [0]), (1, [0, 4]), (2, [2]), (3, [2])]) (by kernel_rfl) (fnOK_of Tryz.func49 (by kernel_rfl) (by kernel_rfl) (by kernel_rfl))
/-- (chandlery/pool.rows).is -/
def ic52 : IC :=
(.seq
 (.reg 0 [⟨(some 4), none, (.q (.mov (.c (.bool false))))⟩] [0, 1])
 (.seq
  (.reg 1 [⟨(some 5), none, (.q (.mov (.t 1)))⟩, ⟨(some 6), none, (.q (.bin .geq (.t 5) (.c (.int .i64 0))))⟩, ⟨(some 7), none, (.q (.mov (.t 6)))⟩, ⟨(some 8), (some ⟨7, true⟩), (.q (.mov (.t 1)))⟩, ⟨(some 9), (some ⟨7, true⟩), (.q (.mov (.t 0)))⟩, ⟨(some 10), (some ⟨7, true⟩), (.q (.len 0 (.t 9)))⟩, ⟨(some 11), (some ⟨7, true⟩), (.q (.bin .lss (.t 8) (.t 10)))⟩, ⟨(some 12), none, (.q (.pick (.t 7) (.t 11) (.c (.bool false))))⟩, ⟨(some 4), none, (.q (.mov (.t 12)))⟩] [4])
  .ret))
theorem fok52 : FOK Tryz.prog 52 (13, ic52, [(.t 4)]) := .mk (pf := []) (an := [(0, [0, 1]), (1, [4])]) (by kernel_rfl) (fnOK_of Tryz.func52 (by kernel_rfl) (by kernel_rfl) (by kernel_rfl))
/-- chandlery/pkg.Copy -/
def ic54 : IC :=
(.seq
 (.reg 0 [⟨(some 1), none, (.box (.t 0))⟩, ⟨(some 2), none, (.alloc [(.str []), (.int .i64 0), (.str []), (.str []), (.int .u8 0), (.str []), .nilslice, .nilslice, .nilslice, .nilslice, .nilslice, .nilslice, .nilslice, .nilslice, .nilslice])⟩] [1, 2])
 (.seq
  (.dreg 1 [⟨(some 7), none, (.q (.faddr 6 (.t 1)))⟩, ⟨(some 8), none, (.q (.load none (.t 7)))⟩, ⟨(some 9), none, (.pcall 88 [(.t 8)])⟩, ⟨(some 10), none, (.q (.faddr 9 (.t 1)))⟩, ⟨(some 11), none, (.q (.load none (.t 10)))⟩, ⟨(some 12), none, (.pcall 88 [(.t 11)])⟩, ⟨(some 13), none, (.q (.faddr 14 (.t 1)))⟩, ⟨(some 14), none, (.q (.load none (.t 13)))⟩, ⟨(some 15), none, (.pcall 89 [(.t 14)])⟩, ⟨(some 16), none, (.q (.faddr 6 (.t 1)))⟩, ⟨none, none, (.store 1 (.t 16) (.t 9))⟩, ⟨(some 17), none, (.q (.faddr 9 (.t 1)))⟩, ⟨none, none, (.store 1 (.t 17) (.t 12))⟩, ⟨(some 18), none, (.q (.faddr 14 (.t 1)))⟩, ⟨none, none, (.store 1 (.t 18) (.t 15))⟩] false [1, 2])
  (.seq
   (.seq
    (.reg 2 [⟨(some 19), none, (.q (.faddr 7 (.t 1)))⟩, ⟨(some 20), none, (.q (.faddr 8 (.t 1)))⟩, ⟨(some 21), none, (.q (.faddr 10 (.t 1)))⟩, ⟨(some 22), none, (.q (.faddr 11 (.t 1)))⟩, ⟨(some 23), none, (.q (.faddr 12 (.t 1)))⟩, ⟨(some 24), none, (.q (.faddr 13 (.t 1)))⟩, ⟨(some 25), none, (.bslt 1 6 [.nilptr] [⟨0, ⟨1, (.t 19)⟩⟩, ⟨1, ⟨1, (.t 20)⟩⟩, ⟨2, ⟨1, (.t 21)⟩⟩, ⟨3, ⟨1, (.t 22)⟩⟩, ⟨4, ⟨1, (.t 23)⟩⟩, ⟨5, ⟨1, (.t 24)⟩⟩])⟩, ⟨(some 26), none, (.q (.len 0 (.t 25)))⟩, ⟨(some 27), none, (.q (.mov (.c (.int .i64 0))))⟩] [1, 2, 25, 26, 27])
    (.block 0
     (.loop
      (.seq
       (.reg 3 [⟨(some 28), none, (.q (.bin .lss (.t 27) (.t 26)))⟩] [1, 2, 25, 26, 27, 28])
       (.seq
        (.cond (.t 28)
         .skip
         (.exit 0))
        (.seq
         (.block 1
          (.seq
           (.reg 4 [⟨(some 29), none, (.q (.iaddr 1 (.t 25) (.t 27)))⟩, ⟨(some 30), none, (.q (.load none (.t 29)))⟩, ⟨(some 4), none, (.q (.mov (.t 30)))⟩] [1, 2, 4, 25, 26, 27])
           (.seq
            (.reg 5 [⟨(some 31), none, (.q (.mov (.t 4)))⟩, ⟨(some 32), none, (.q (.mov (.t 4)))⟩, ⟨(some 33), none, (.q (.nchk (.t 32)))⟩, ⟨(some 34), none, (.q (.load none (.t 33)))⟩, ⟨(some 35), none, (.call 90 [(.t 34)])⟩, ⟨(some 36), none, (.q (.nchk (.t 31)))⟩, ⟨none, none, (.store 1 (.t 36) (.t 35))⟩] [1, 2, 4, 25, 26, 27])
            (.seq
            (.reg 6 [⟨(some 37), none, (.q (.mov (.t 4)))⟩, ⟨(some 38), none, (.q (.nchk (.t 37)))⟩, ⟨(some 39), none, (.q (.load none (.t 38)))⟩, ⟨(some 40), none, (.q (.len 0 (.t 39)))⟩, ⟨(some 41), none, (.q (.mov (.c (.int .i64 0))))⟩] [1, 2, 4, 25, 26, 27, 39, 40, 41])
            (.block 2
            (.loop
            (.seq
            (.reg 7 [⟨(some 42), none, (.q (.bin .lss (.t 41) (.t 40)))⟩] [1, 2, 4, 25, 26, 27, 39, 40, 41, 42])
            (.seq
            (.cond (.t 42)
            .skip
            (.exit 2))
            (.seq
            (.block 3
            (.seq
            (.reg 8 [⟨(some 43), none, (.q (.mov (.t 41)))⟩, ⟨(some 44), none, (.q (.iaddr 7 (.t 39) (.t 41)))⟩, ⟨(some 45), none, (.q (.load (some 7) (.t 44)))⟩, ⟨(some 6), none, (.alloc [(.int .u8 0), (.str []), (.int .u8 0), (.int .i64 0), (.str []), (.str []), .nilslice])⟩, ⟨(some 5), none, (.q (.mov (.t 43)))⟩, ⟨none, none, (.store 7 (.t 6) (.t 45))⟩] [1, 2, 4, 5, 6, 25, 26, 27, 39, 40, 41])
            (.dreg 9 [⟨(some 46), none, (.q (.mov (.t 4)))⟩, ⟨(some 47), none, (.q (.nchk (.t 46)))⟩, ⟨(some 48), none, (.q (.load none (.t 47)))⟩, ⟨(some 49), none, (.q (.mov (.t 5)))⟩, ⟨(some 50), none, (.q (.load (some 7) (.t 6)))⟩, ⟨(some 51), none, (.pcall 91 [(.t 50)])⟩, ⟨(some 52), none, (.q (.iaddr 7 (.t 48) (.t 49)))⟩, ⟨none, none, (.store 7 (.t 52) (.t 51))⟩] false [1, 2, 4, 25, 26, 27, 39, 40, 41])))
            (.reg 10 [⟨(some 53), none, (.q (.bin .add (.t 41) (.c (.int .i64 1))))⟩, ⟨(some 41), none, (.q (.mov (.t 53)))⟩] [1, 2, 4, 25, 26, 27, 39, 40, 41]))))))))))
         (.reg 11 [⟨(some 54), none, (.q (.bin .add (.t 27) (.c (.int .i64 1))))⟩, ⟨(some 27), none, (.q (.mov (.t 54)))⟩] [1, 2, 25, 26, 27])))))))
   (.seq
    (.reg 12 [⟨(some 55), none, (.q (.load (some 15) (.t 1)))⟩, ⟨none, none, (.store 15 (.t 2) (.t 55))⟩] [2])
    .ret))))
theorem fok54 : FOK Tryz.prog 54 (56, ic54, [(.cell (some 15) 2)]) := .mk (pf := ([1000025] ++ List.filter (fun k => k != 90) allF0)) (an := [(0, [1, 2]), (1, [1, 2]), (2, [1, 2, 25, 26, 27]), (3, [1, 2, 25, 26, 27, 28]), (4, [1, 2, 4, 25, 26, 27]), (5, [1, 2, 4, 25, 26, 27]), (6, [1, 2, 4, 25, 26, 27, 39, 40, 41]), (7, [1, 2, 4, 25, 26, 27, 39, 40, 41, 42]), (8, [1, 2, 4, 5, 6, 25, 26, 27, 39, 40, 41]), (9, [1, 2, 4, 25, 26, 27, 39, 40, 41]), (10, [1, 2, 4, 25, 26, 27, 39, 40, 41]), (11, [1, 2, 25, 26, 27]), (12, [2])]) (by kernel_rfl) (fnOK_of Tryz.func54 (by kernel_rfl) (by kernel_rfl) (by kernel_rfl))
/-- chandlery/chandleryref10.Deps -/
def ic55 : IC :=
(.seq
 (.reg 0 [⟨(some 4), none, (.q (.mov (.c (.bool false))))⟩] [0, 1])
 (.seq
  (.seq
   (.reg 1 [⟨(some 6), none, (.q (.mov (.t 0)))⟩, ⟨(some 7), none, (.q (.len 0 (.t 6)))⟩, ⟨(some 8), none, (.q (.mov (.t 1)))⟩, ⟨(some 9), none, (.q (.len 0 (.t 8)))⟩, ⟨(some 10), none, (.q (.bin .neq (.t 7) (.t 9)))⟩] [0, 1, 10])
   (.cond (.t 10)
    (.seq
     (.reg 2 [⟨(some 4), none, (.q (.mov (.c (.bool false))))⟩] [4])
     .ret)
    .skip))
  (.seq
   (.seq
    (.reg 3 [⟨(some 5), none, (.q (.mov (.c (.int .i64 0))))⟩] [0, 1, 5])
    (.block 0
     (.loop
      (.seq
       (.seq
        (.reg 4 [⟨(some 11), none, (.q (.mov (.t 5)))⟩, ⟨(some 12), none, (.q (.mov (.t 0)))⟩, ⟨(some 13), none, (.q (.len 0 (.t 12)))⟩, ⟨(some 14), none, (.q (.bin .lss (.t 11) (.t 13)))⟩] [0, 1, 5, 14])
        (.cond (.t 14)
         .skip
         (.exit 0)))
       (.seq
        (.block 1
         (.seq
          (.dreg 6 [⟨(some 17), none, (.q (.mov (.t 0)))⟩, ⟨(some 18), none, (.q (.mov (.t 5)))⟩, ⟨(some 19), none, (.q (.iaddr 5 (.t 17) (.t 18)))⟩, ⟨(some 20), none, (.q (.load (some 5) (.t 19)))⟩, ⟨(some 21), none, (.q (.mov (.t 1)))⟩, ⟨(some 22), none, (.q (.mov (.t 5)))⟩, ⟨(some 23), none, (.q (.iaddr 5 (.t 21) (.t 22)))⟩, ⟨(some 24), none, (.q (.load (some 5) (.t 23)))⟩, ⟨(some 25), none, (.q (.eqs [2, 1, 1, 2, 2] true true (.t 20) (.t 24)))⟩] false [0, 1, 5, 25])
          (.cond (.t 25)
           (.seq
            (.reg 7 [⟨(some 4), none, (.q (.mov (.c (.bool false))))⟩] [4])
            .ret)
           .skip)))
        (.reg 5 [⟨(some 15), none, (.q (.mov (.t 5)))⟩, ⟨(some 16), none, (.q (.bin .add (.t 15) (.c (.int .i64 1))))⟩, ⟨(some 5), none, (.q (.mov (.t 16)))⟩] [0, 1, 5]))))))
   (.seq
    (.reg 8 [⟨(some 4), none, (.q (.mov (.c (.bool true))))⟩] [4])
    .ret))))
theorem fok55 : FOK Tryz.prog 55 (26, ic55, [(.t 4)]) := .mk (pf := []) (an := [(0, [0, 1]), (1, [0, 1, 10]), (2, [4]), (3, [0, 1, 5]), (4, [0, 1, 5, 14]), (5, [0, 1, 5]), (6, [0, 1, 5, 25]), (7, [4]), (8, [4])]) (by kernel_rfl) (fnOK_of Tryz.func55 (by kernel_rfl) (by kernel_rfl) (by kernel_rfl))
/-- chandlery/chandleryref10.Riches -/
def ic56 : IC :=
(.seq
 (.reg 0 [⟨(some 4), none, (.q (.mov (.c (.bool false))))⟩] [0, 1])
 (.seq
  (.seq
   (.reg 1 [⟨(some 6), none, (.q (.mov (.t 0)))⟩, ⟨(some 7), none, (.q (.len 0 (.t 6)))⟩, ⟨(some 8), none, (.q (.mov (.t 1)))⟩, ⟨(some 9), none, (.q (.len 0 (.t 8)))⟩, ⟨(some 10), none, (.q (.bin .neq (.t 7) (.t 9)))⟩] [0, 1, 10])
   (.cond (.t 10)
    (.seq
     (.reg 2 [⟨(some 4), none, (.q (.mov (.c (.bool false))))⟩] [4])
     .ret)
    .skip))
  (.seq
   (.seq
    (.reg 3 [⟨(some 5), none, (.q (.mov (.c (.int .i64 0))))⟩] [0, 1, 5])
    (.block 0
     (.loop
      (.seq
       (.seq
        (.reg 4 [⟨(some 11), none, (.q (.mov (.t 5)))⟩, ⟨(some 12), none, (.q (.mov (.t 0)))⟩, ⟨(some 13), none, (.q (.len 0 (.t 12)))⟩, ⟨(some 14), none, (.q (.bin .lss (.t 11) (.t 13)))⟩] [0, 1, 5, 14])
        (.cond (.t 14)
         .skip
         (.exit 0)))
       (.seq
        (.block 1
         (.seq
          (.dreg 6 [⟨(some 17), none, (.q (.mov (.t 0)))⟩, ⟨(some 18), none, (.q (.mov (.t 5)))⟩, ⟨(some 19), none, (.q (.iaddr 7 (.t 17) (.t 18)))⟩, ⟨(some 20), none, (.q (.load (some 7) (.t 19)))⟩, ⟨(some 21), none, (.q (.mov (.t 1)))⟩, ⟨(some 22), none, (.q (.mov (.t 5)))⟩, ⟨(some 23), none, (.q (.iaddr 7 (.t 21) (.t 22)))⟩, ⟨(some 24), none, (.q (.load (some 7) (.t 23)))⟩, ⟨(some 25), none, (.call 92 [(.t 20), (.t 24)])⟩, ⟨(some 26), none, (.q (.not (.t 25)))⟩] false [0, 1, 5, 26])
          (.cond (.t 26)
           (.seq
            (.reg 7 [⟨(some 4), none, (.q (.mov (.c (.bool false))))⟩] [4])
            .ret)
           .skip)))
        (.reg 5 [⟨(some 15), none, (.q (.mov (.t 5)))⟩, ⟨(some 16), none, (.q (.bin .add (.t 15) (.c (.int .i64 1))))⟩, ⟨(some 5), none, (.q (.mov (.t 16)))⟩] [0, 1, 5]))))))
   (.seq
    (.reg 8 [⟨(some 4), none, (.q (.mov (.c (.bool true))))⟩] [4])
    .ret))))
theorem fok56 : FOK Tryz.prog 56 (27, ic56, [(.t 4)]) := .mk (pf := []) (an := [(0, [0, 1]), (1, [0, 1, 10]), (2, [4]), (3, [0, 1, 5]), (4, [0, 1, 5, 14]), (5, [0, 1, 5]), (6, [0, 1, 5, 26]), (7, [4]), (8, [4])]) (by kernel_rfl) (fnOK_of Tryz.func56 (by kernel_rfl) (by kernel_rfl) (by kernel_rfl))
/-- slices.ContainsFunc[[]chandlery/api.Dep,chandlery/api.Dep] -/
def ic57 : IC :=
(.seq
 (.reg 0 [⟨(some 4), none, (.q (.mov (.c (.bool false))))⟩] [0, 1])
 (.seq
  (.reg 1 [⟨(some 5), none, (.q (.mov (.t 0)))⟩, ⟨(some 6), none, (.q (.mov (.t 1)))⟩, ⟨(some 7), none, (.call 93 [(.t 5), (.t 6)])⟩, ⟨(some 8), none, (.q (.bin .geq (.t 7) (.c (.int .i64 0))))⟩, ⟨(some 4), none, (.q (.mov (.t 8)))⟩] [4])
  .ret))
theorem fok57 : FOK Tryz.prog 57 (9, ic57, [(.t 4)]) := .mk (pf := []) (an := [(0, [0, 1]), (1, [4])]) (by kernel_rfl) (fnOK_of Tryz.func57 (by kernel_rfl) (by kernel_rfl) (by kernel_rfl))
/-- chandlery/pkg.Obsoletes$1 -/
def ic58 : IC :=
(.seq
 (.reg 0 [⟨(some 2), none, (.boxt (.t 0))⟩, ⟨(some 3), none, (.q (.mov (.c (.bool false))))⟩] [1, 2])
 (.seq
  (.reg 1 [⟨(some 4), none, (.q (.load (some 15) (.t 1)))⟩, ⟨(some 5), none, (.q (.load (some 5) (.t 2)))⟩, ⟨(some 6), none, (.call 44 [(.t 4), (.t 5)])⟩, ⟨(some 3), none, (.q (.mov (.t 6)))⟩] [3])
  .ret))
theorem fok58 : FOK Tryz.prog 58 (7, ic58, [(.t 3)]) := .mk (pf := [1000002]) (an := [(0, [1, 2]), (1, [3])]) (by kernel_rfl) (fnOK_of Tryz.func58 (by kernel_rfl) (by kernel_rfl) (by kernel_rfl))
/-- (*chandlery/match.Index).is -/
def ic60 : IC :=
(.seq
 (.reg 0 [⟨(some 4), none, (.q (.mov (.c (.bool false))))⟩] [0, 1])
 (.seq
  (.reg 1 [⟨(some 5), none, (.q (.mov (.t 0)))⟩, ⟨(some 6), none, (.q (.isnil (.pointer 94) true (.t 5)))⟩, ⟨(some 7), none, (.q (.mov (.t 6)))⟩, ⟨(some 8), (some ⟨7, true⟩), (.q (.mov (.t 1)))⟩, ⟨(some 9), (some ⟨7, true⟩), (.q (.bin .geq (.t 8) (.c (.int .i64 0))))⟩, ⟨(some 10), none, (.q (.pick (.t 7) (.t 9) (.c (.bool false))))⟩, ⟨(some 11), none, (.q (.mov (.t 10)))⟩, ⟨(some 12), (some ⟨11, true⟩), (.q (.mov (.t 1)))⟩, ⟨(some 13), (some ⟨11, true⟩), (.q (.mov (.t 0)))⟩, ⟨(some 14), (some ⟨11, true⟩), (.q (.nchk (.t 13)))⟩, ⟨(some 15), (some ⟨11, true⟩), (.q (.faddr 0 (.t 14)))⟩, ⟨(some 16), (some ⟨11, true⟩), (.q (.load none (.t 15)))⟩, ⟨(some 17), (some ⟨11, true⟩), (.q (.len 0 (.t 16)))⟩, ⟨(some 18), (some ⟨11, true⟩), (.q (.bin .lss (.t 12) (.t 17)))⟩, ⟨(some 19), none, (.q (.pick (.t 11) (.t 18) (.c (.bool false))))⟩, ⟨(some 4), none, (.q (.mov (.t 19)))⟩] [4])
  .ret))
theorem fok60 : FOK Tryz.prog 60 (20, ic60, [(.t 4)]) := .mk (pf := []) (an := [(0, [0, 1]), (1, [4])]) (by kernel_rfl) (fnOK_of Tryz.func60 (by kernel_rfl) (by kernel_rfl) (by kernel_rfl))
/-- (*chandlery/match.Index).sift -/
def ic61 : IC :=
(.seq
 (.reg 0 [⟨(some 6), none, (.q (.mov (.c .nilslice)))⟩] [0, 1, 2])
 (.seq
  (.reg 1 [⟨(some 7), none, (.q (.mov (.c .nilslice)))⟩] [0, 1, 2, 7])
  (.seq
   (.seq
    (.reg 2 [⟨(some 10), none, (.q (.mov (.t 1)))⟩, ⟨(some 11), none, (.q (.len 0 (.t 10)))⟩, ⟨(some 12), none, (.q (.mov (.c (.int .i64 0))))⟩] [0, 2, 7, 10, 11, 12])
    (.block 0
     (.loop
      (.seq
       (.reg 3 [⟨(some 13), none, (.q (.bin .lss (.t 12) (.t 11)))⟩] [0, 2, 7, 10, 11, 12, 13])
       (.seq
        (.cond (.t 13)
         .skip
         (.exit 0))
        (.seq
         (.block 1
          (.seq
           (.reg 4 [⟨(some 14), none, (.q (.iaddr 1 (.t 10) (.t 12)))⟩, ⟨(some 15), none, (.q (.load none (.t 14)))⟩, ⟨(some 9), none, (.q (.mov (.t 15)))⟩] [0, 2, 7, 9, 10, 11, 12])
           (.seq
            (.reg 5 [⟨(some 16), none, (.q (.mov (.t 2)))⟩, ⟨(some 17), none, (.q (.mov (.t 0)))⟩, ⟨(some 18), none, (.q (.nchk (.t 17)))⟩, ⟨(some 19), none, (.q (.faddr 0 (.t 18)))⟩, ⟨(some 20), none, (.q (.load none (.t 19)))⟩, ⟨(some 21), none, (.q (.mov (.t 9)))⟩, ⟨(some 22), none, (.q (.iaddr 15 (.t 20) (.t 21)))⟩, ⟨(some 23), none, (.q (.load (some 15) (.t 22)))⟩, ⟨(some 24), none, (.q (.mov (.t 9)))⟩, ⟨(some 25), none, (.callv (.t 16) [(.t 23), (.t 24)])⟩] [0, 2, 7, 9, 10, 11, 12, 25])
            (.cond (.t 25)
            (.reg 6 [⟨(some 26), none, (.q (.mov (.t 7)))⟩, ⟨(some 27), none, (.q (.mov (.t 9)))⟩, ⟨(some 28), none, (.bslt 1 1 [(.int .i64 0)] [⟨0, ⟨1, (.t 27)⟩⟩])⟩, ⟨(some 29), none, (.app 1 (.t 26) (.t 28))⟩, ⟨(some 7), none, (.q (.mov (.t 29)))⟩] [0, 2, 7, 10, 11, 12])
            .skip))))
         (.reg 7 [⟨(some 30), none, (.q (.bin .add (.t 12) (.c (.int .i64 1))))⟩, ⟨(some 12), none, (.q (.mov (.t 30)))⟩] [0, 2, 7, 10, 11, 12])))))))
   (.seq
    (.reg 8 [⟨(some 31), none, (.q (.mov (.t 7)))⟩, ⟨(some 6), none, (.q (.mov (.t 31)))⟩] [6])
    .ret))))
theorem fok61 : FOK Tryz.prog 61 (32, ic61, [(.t 6)]) := .mk (pf := [1000028]) (an := [(0, [0, 1, 2]), (1, [0, 1, 2, 7]), (2, [0, 2, 7, 10, 11, 12]), (3, [0, 2, 7, 10, 11, 12, 13]), (4, [0, 2, 7, 9, 10, 11, 12]), (5, [0, 2, 7, 9, 10, 11, 12, 25]), (6, [0, 2, 7, 10, 11, 12]), (7, [0, 2, 7, 10, 11, 12]), (8, [6])]) (by kernel_rfl) (fnOK_of Tryz.func61 (by kernel_rfl) (by kernel_rfl) (by kernel_rfl))
/-- (*chandlery/match.Index).Obsoleted$1 -/
def ic62 : IC :=
(.seq
 (.reg 0 [⟨(some 4), none, (.boxt (.t 0))⟩, ⟨(some 6), none, (.q (.mov (.c (.bool false))))⟩] [1, 2, 3, 4])
 (.seq
  (.reg 1 [⟨(some 7), none, (.q (.mov (.t 1)))⟩, ⟨(some 8), none, (.q (.load none (.t 2)))⟩, ⟨(some 9), none, (.q (.bin .neq (.t 7) (.t 8)))⟩, ⟨(some 10), none, (.q (.mov (.t 9)))⟩, ⟨(some 11), (some ⟨10, true⟩), (.q (.load (some 15) (.t 4)))⟩, ⟨(some 12), (some ⟨10, true⟩), (.q (.load (some 5) (.t 3)))⟩, ⟨(some 13), (some ⟨10, true⟩), (.call 44 [(.t 11), (.t 12)])⟩, ⟨(some 14), none, (.q (.pick (.t 10) (.t 13) (.c (.bool false))))⟩, ⟨(some 6), none, (.q (.mov (.t 14)))⟩] [6])
  .ret))
theorem fok62 : FOK Tryz.prog 62 (15, ic62, [(.t 6)]) := .mk (pf := [1000004]) (an := [(0, [1, 2, 3, 4]), (1, [6])]) (by kernel_rfl) (fnOK_of Tryz.func62 (by kernel_rfl) (by kernel_rfl) (by kernel_rfl))
/-- slices.Sort[[]int,int] -/
def ic63 : IC :=
(.seq
 (.reg 0 [⟨(some 3), none, (.q (.mov (.t 0)))⟩, ⟨(some 4), none, (.q (.len 0 (.t 3)))⟩, ⟨(some 2), none, (.q (.mov (.t 4)))⟩] [0, 2])
 (.reg 1 [⟨(some 5), none, (.q (.mov (.t 0)))⟩, ⟨(some 6), none, (.q (.mov (.t 2)))⟩, ⟨(some 7), none, (.q (.mov (.t 2)))⟩, ⟨(some 8), none, (.q (.conv .u64 (.t 7)))⟩, ⟨(some 9), none, (.call 96 [(.t 8)])⟩, ⟨(some 10), none, (.call 95 [(.t 5), (.c (.int .i64 0)), (.t 6), (.t 9)])⟩] []))
theorem fok63 : FOK Tryz.prog 63 (11, ic63, []) := .mk (pf := []) (an := [(0, [0, 2])]) (by kernel_rfl) (fnOK_of Tryz.func63 (by kernel_rfl) (by kernel_rfl) (by kernel_rfl))
end Go.Id.Tryz
