/- The compiled codes of functions, written by a program out of the given form. Conditions: none. -/
import Derived.Test.YtiallonafbejaaaGreatDoorFwW
import Derived.Test.YtiallonafbejaaaGreatDoorProg
set_option linter.all false
namespace Go.Id.Tryz
open Go Go.Id Go.Proofs
def allF0 : List Nat := List.range 357
def ic11 : IC :=
 (.seq
 (.reg 0 [oM 0 (cB false)] [])
 (.seq
 (.reg 1 [oK 12 (.call 56 [(.c .nilptr), (.c .nilslice)]), oM 11 12, oQ 13 (.ext 0 11), oQ 14 (.ext 1 11), oM 1 13, oM 2 14] [2])
 (.seq
 (.seq
 (.reg 2 [oK 15 (.call 57 []), oQ 16 (.not 15), oM 17 16, oQ 18 (.pick 17 (cB true) (cB false)), oM 19 18, oQ 20 (.pick 19 (cB true) (cB false)), oM 21 20, oQ 22 (.pick 21 (cB true) (cB false)), oM 23 22, oQ 24 (.pick 23 (cB true) (cB false)), oM 25 24, gQ 26 25 false (.mov 2), gQ 27 25 false (.bin .neq 26 (cI 2)), oQ 28 (.pick 25 (cB true) 27), oM 29 28, gK 30 29 false (.call 58 [(.c .nilptr), (cI 0), (cI 1)]), oQ 31 (.pick 29 (cB true) 30)] [31])
 (.cond 31
 (.seq
 (.reg 3 [oM 0 (cB false)] [0])
 .ret)
 .skip))
 (.seq
 (.reg 4 [oK 32 (.call 59 [(.c (.str [97])), (.c .nilslice)]), oK 3 (.alloc [(.str []), (zI 0), (.str []), (.str []), (zU 0), (.str []), .nilslice, .nilslice, .nilslice, .nilslice, .nilslice, .nilslice, .nilslice, .nilslice, .nilslice]), oN (.store 15 3 32)] [3])
 (.seq
 (.reg 5 [oQ 33 (.bld [(.str []), (zU 0), (zI 0), (.str []), (.str [])] [⟨0, ⟨1, (.c (.str [99]))⟩⟩]), oQ 34 (.bld [(zU 0), (.str []), (zU 0), (zI 0), (.str []), (.str []), .nilslice] [⟨0, ⟨1, (.c (zU 1))⟩⟩, ⟨1, ⟨5, 33⟩⟩]), oQ 35 (.bld [(.str []), (zU 0), (zI 0), (.str []), (.str [])] [⟨0, ⟨1, (.c (.str [100]))⟩⟩]), oQ 36 (.bld [(zU 0), (.str []), (zU 0), (zI 0), (.str []), (.str []), .nilslice] [⟨0, ⟨1, (.c (zU 1))⟩⟩, ⟨1, ⟨5, 35⟩⟩]), oK 37 (.bslt 7 2 [(zU 0), (.str []), (zU 0), (zI 0), (.str []), (.str []), .nilslice] [⟨0, ⟨7, 34⟩⟩, ⟨7, ⟨7, 36⟩⟩]), oQ 38 (.bld [(zU 0), (.str []), (zU 0), (zI 0), (.str []), (.str []), .nilslice] [⟨0, ⟨1, (.c (zU 4))⟩⟩, ⟨6, ⟨1, 37⟩⟩]), oK 39 (.bslt 7 1 [(zU 0), (.str []), (zU 0), (zI 0), (.str []), (.str []), .nilslice] [⟨0, ⟨7, 38⟩⟩]), oQ 40 (.faddr 7 3), oN (.store 1 40 39)] [3])
 (.seq
 (.oreg 6 [(0, oQ 42 (.load (some 15) 3), 0), (1, oK 43 (.bslt 1 2 [(.str [])] [⟨0, ⟨1, (.c (.str [98]))⟩⟩, ⟨1, ⟨1, (.c (.str [101]))⟩⟩]), 0), (4, oK 46 (.bslt 1 1 [(.str [])] [⟨0, ⟨1, (.c (.str [97]))⟩⟩]), 0), (2, oK 44 (.call 59 [(.c (.str [101])), 43]), 1), (3, oK 45 (.call 59 [(.c (.str [98])), (.c .nilslice)]), 1), (5, oK 47 (.call 59 [(.c (.str [99])), 46]), 1), (6, oK 48 (.call 59 [(.c (.str [100])), (.c .nilslice)]), 1), (7, oK 49 (.bslt 15 5 [(.str []), (zI 0), (.str []), (.str []), (zU 0), (.str []), .nilslice, .nilslice, .nilslice, .nilslice, .nilslice, .nilslice, .nilslice, .nilslice, .nilslice] [⟨0, ⟨15, 42⟩⟩, ⟨15, ⟨15, 44⟩⟩, ⟨30, ⟨15, 45⟩⟩, ⟨45, ⟨15, 47⟩⟩, ⟨60, ⟨15, 48⟩⟩]), 0), (8, oK 50 (.call 15 [(.c .nilslice), 49]), 0), (9, oM 41 50, 0), (10, oQ 51 (.ext 0 41), 0), (11, oQ 52 (.ext 1 41), 0), (12, oM 4 51, 0), (13, oM 5 52, 0)] [4, 5])
 (.seq
 (.seq
 (.reg 7 [oM 53 5, oQ 54 (.bin .neq 53 (cI 0)), oM 55 54, gQ 56 55 false (.mov 4), gK 57 55 false (.call 58 [56, (cI 0), (cI 3)]), gQ 58 55 false (.not 57), oQ 59 (.pick 55 (cB true) 58), oM 60 59, gQ 61 60 false (.mov 4), gK 62 60 false (.call 58 [61, (cI 0), (cI 4)]), gQ 63 60 false (.not 62), oQ 64 (.pick 60 (cB true) 63), oM 65 64, gQ 66 65 false (.mov 4), gK 67 65 false (.call 58 [66, (cI 3), (cI 0)]), gQ 68 65 false (.not 67), oQ 69 (.pick 65 (cB true) 68), oM 70 69, gQ 71 70 false (.mov 4), gK 72 70 false (.call 58 [71, (cI 1), (cI 1)]), oQ 73 (.pick 70 (cB true) 72), oM 74 73, gQ 75 74 false (.mov 4), gK 76 74 false (.call 58 [75, (cI 1), (cI 2)]), gQ 77 74 false (.not 76), oQ 78 (.pick 74 (cB true) 77), oM 79 78, gQ 80 79 false (.mov 4), gK 81 79 false (.call 58 [80, (cI 0), (cI 5)]), oQ 82 (.pick 79 (cB true) 81), oM 83 82, gQ 84 83 false (.mov 4), gK 85 83 false (.call 58 [84, (cI (-1)), (cI 0)]), oQ 86 (.pick 83 (cB true) 85)] [4, 86])
 (.cond 86
 (.seq
 (.reg 8 [oM 0 (cB false)] [0])
 .ret)
 .skip))
 (.seq
 (.seq
 (.reg 9 [oM 87 4, oK 88 (.bslt 1 5 [(zI 0)] [⟨0, ⟨1, (cI 0)⟩⟩, ⟨1, ⟨1, (cI 1)⟩⟩, ⟨2, ⟨1, (cI 2)⟩⟩, ⟨3, ⟨1, (cI 3)⟩⟩, ⟨4, ⟨1, (cI 4)⟩⟩]), oK 89 (.call 61 [(.c (zU 1)), 88]), oK 90 (.bslt 1 5 [(zI 0)] [⟨0, ⟨1, (cI 2)⟩⟩, ⟨1, ⟨1, (cI 1)⟩⟩, ⟨2, ⟨1, (cI 3)⟩⟩, ⟨3, ⟨1, (cI 4)⟩⟩, ⟨4, ⟨1, (cI 0)⟩⟩]), oK 91 (.call 61 [(.c (zU 1)), 90]), oK 92 (.call 60 [87, 89, 91]), oQ 93 (.not 92)] [4, 93])
 (.cond 93
 (.seq
 (.reg 10 [oM 0 (cB false)] [0])
 .ret)
 .skip))
 (.seq
 (.seq
 (.reg 11 [oM 94 4, oK 95 (.bslt 1 2 [(zI 0)] [⟨0, ⟨1, (cI 0)⟩⟩, ⟨1, ⟨1, (cI 3)⟩⟩]), oK 96 (.call 61 [(.c (zU 1)), 95]), oK 97 (.bslt 1 2 [(zI 0)] [⟨0, ⟨1, (cI 0)⟩⟩, ⟨1, ⟨1, (cI 3)⟩⟩]), oK 98 (.call 61 [(.c (zU 1)), 97]), oK 99 (.call 60 [94, 96, 98]), oQ 100 (.not 99), oM 101 100, gQ 102 101 false (.mov 4), gK 103 101 false (.bslt 1 5 [(zI 0)] [⟨0, ⟨1, (cI 4)⟩⟩, ⟨1, ⟨1, (cI 3)⟩⟩, ⟨2, ⟨1, (cI 2)⟩⟩, ⟨3, ⟨1, (cI 1)⟩⟩, ⟨4, ⟨1, (cI 0)⟩⟩]), gK 104 101 false (.call 61 [(.c (zU 6)), 103]), gK 105 101 false (.bslt 1 5 [(zI 0)] [⟨0, ⟨1, (cI 0)⟩⟩, ⟨1, ⟨1, (cI 1)⟩⟩, ⟨2, ⟨1, (cI 2)⟩⟩, ⟨3, ⟨1, (cI 3)⟩⟩, ⟨4, ⟨1, (cI 4)⟩⟩]), gK 106 101 false (.call 61 [(.c (zU 6)), 105]), gK 107 101 false (.call 60 [102, 104, 106]), gQ 108 101 false (.not 107), oQ 109 (.pick 101 (cB true) 108), oM 110 109, gQ 111 110 false (.mov 4), gK 112 110 false (.call 60 [111, (.c .nilslice), (.c .nilslice)]), gQ 113 110 false (.not 112), oQ 114 (.pick 110 (cB true) 113)] [4, 114])
 (.cond 114
 (.seq
 (.reg 12 [oM 0 (cB false)] [0])
 .ret)
 .skip))
 (.seq
 (.reg 13 [oK 115 (.bslt 1 1 [(zI 0)] [⟨0, ⟨1, (cI 4)⟩⟩]), oK 116 (.call 61 [(.c (zU 6)), 115]), oK 117 (.bslt 1 1 [(zI 0)] [⟨0, ⟨1, (cI 3)⟩⟩]), oK 118 (.call 61 [(.c (zU 8)), 117]), oK 119 (.app 2 116 118), oK 120 (.bslt 1 1 [(zI 0)] [⟨0, ⟨1, (cI 1)⟩⟩]), oK 121 (.call 61 [(.c (zU 7)), 120]), oK 122 (.bslt 1 1 [(zI 0)] [⟨0, ⟨1, (cI 2)⟩⟩]), oK 123 (.call 61 [(.c (zU 5)), 122]), oK 124 (.app 2 121 123), oK 125 (.app 2 119 124), oM 6 125] [4, 6])
 (.seq
 (.seq
 (.reg 14 [oM 126 4, oM 127 6, oQ 128 (.bld [(zU 0), (zI 0)] [⟨0, ⟨1, (.c (zU 5))⟩⟩, ⟨1, ⟨1, (cI 2)⟩⟩]), oQ 129 (.bld [(zU 0), (zI 0)] [⟨0, ⟨1, (.c (zU 7))⟩⟩, ⟨1, ⟨1, (cI 1)⟩⟩]), oQ 130 (.bld [(zU 0), (zI 0)] [⟨0, ⟨1, (.c (zU 8))⟩⟩, ⟨1, ⟨1, (cI 3)⟩⟩]), oQ 131 (.bld [(zU 0), (zI 0)] [⟨0, ⟨1, (.c (zU 6))⟩⟩, ⟨1, ⟨1, (cI 4)⟩⟩]), oK 132 (.bslt 2 4 [(zU 0), (zI 0)] [⟨0, ⟨2, 128⟩⟩, ⟨2, ⟨2, 129⟩⟩, ⟨4, ⟨2, 130⟩⟩, ⟨6, ⟨2, 131⟩⟩]), oK 133 (.call 60 [126, 127, 132]), oQ 134 (.not 133)] [4, 134])
 (.cond 134
 (.seq
 (.reg 15 [oM 0 (cB false)] [0])
 .ret)
 .skip))
 (.seq
 (.seq
 (.reg 16 [oK 135 (.bslt 1 1 [(zI 0)] [⟨0, ⟨1, (cI 1)⟩⟩]), oK 136 (.call 61 [(.c (zU 0)), 135]), oK 137 (.bslt 1 1 [(zI 0)] [⟨0, ⟨1, (cI 1)⟩⟩]), oK 138 (.call 61 [(.c (zU 9)), 137]), oK 139 (.bslt 1 1 [(zI 0)] [⟨0, ⟨1, (cI 5)⟩⟩]), oK 140 (.call 61 [(.c (zU 1)), 139]), oK 141 (.bslt 1 1 [(zI 0)] [⟨0, ⟨1, (cI (-1))⟩⟩]), oK 142 (.call 61 [(.c (zU 1)), 141]), oK 143 (.bslt 1 2 [(zI 0)] [⟨0, ⟨1, (cI 2)⟩⟩, ⟨1, ⟨1, (cI 2)⟩⟩]), oK 144 (.call 61 [(.c (zU 1)), 143]), oK 145 (.bslt 1 1 [(zI 0)] [⟨0, ⟨1, (cI 2)⟩⟩]), oK 146 (.call 61 [(.c (zU 1)), 145]), oK 147 (.bslt 1 1 [(zI 0)] [⟨0, ⟨1, (cI 2)⟩⟩]), oK 148 (.call 61 [(.c (zU 6)), 147]), oK 149 (.app 2 146 148), oK 150 (.bslt 1 6 [.nilslice] [⟨0, ⟨1, 136⟩⟩, ⟨1, ⟨1, 138⟩⟩, ⟨2, ⟨1, 140⟩⟩, ⟨3, ⟨1, 142⟩⟩, ⟨4, ⟨1, 144⟩⟩, ⟨5, ⟨1, 149⟩⟩]), oQ 151 (.len 0 150), oM 152 (cI 0)] [4, 150, 151, 152])
 (.block 0
 (.loop
 (.seq
 (.reg 17 [oQ 153 (.bin .lss 152 151)] [4, 150, 151, 152, 153])
 (.seq
 (.cond 153
 .skip
 (.exit 0))
 (.seq
 (.block 1
 (.seq
 (.reg 18 [oQ 154 (.iaddr 1 150 152), oQ 155 (.load none 154), oM 8 155] [4, 8, 150, 151, 152])
 (.seq
 (.reg 19 [oM 157 4, oM 158 8, oK 159 (.call 56 [157, 158]), oM 156 159, oQ 160 (.ext 0 156), oQ 161 (.ext 1 156), oM 9 160, oM 10 161] [4, 9, 10, 150, 151, 152])
 (.seq
 (.reg 20 [oM 162 10, oQ 163 (.bin .neq 162 (cI 4)), oM 164 163, gQ 165 164 false (.mov 9), gQ 166 164 false (.len 0 165), gQ 167 164 false (.bin .neq 166 (cI 0)), oQ 168 (.pick 164 (cB true) 167)] [4, 150, 151, 152, 168])
 (.cond 168
 (.seq
 (.reg 21 [oM 0 (cB false)] [0])
 .ret)
 .skip)))))
 (.reg 22 [oQ 169 (.bin .add 152 (cI 1)), oM 152 169] [4, 150, 151, 152])))))))
 (.seq
 (.reg 23 [oM 0 (cB true)] [0])
 .ret)))))))))))))
theorem fok11 : FOK Tryz.prog 11 (170, ic11, [(.t 0)]) := fokA [1000037, 1000039, 1000043, 1000046, 1000049, 1000088, 1000090, 1000095, 1000097, 1000103, 1000105, 1000115, 1000117, 1000120, 1000122, 1000132, 1000135, 1000137, 1000139, 1000141, 1000143, 1000145, 1000147, 1000150, 2000000] Tryz.func11 (by kernel_rfl) (by kernel_rfl) (by kernel_rfl) (by kernel_rfl)
def ic15 : IC :=
(.seq
 (.reg 0 [⟨(some 4), none, (.q (.mov (.c .nilptr)))⟩, ⟨(some 5), none, (.q (.mov (.c (.int .i64 0))))⟩] [0, 1])
 (.seq
  (.reg 1 [⟨(some 14), none, (.q (.mov (.t 1)))⟩, ⟨(some 15), none, (.q (.len 0 (.t 14)))⟩, ⟨(some 6), none, (.q (.mov (.t 15)))⟩] [0, 1, 6])
  (.seq
   (.seq
    (.reg 2 [⟨(some 16), none, (.q (.mov (.t 0)))⟩, ⟨(some 17), none, (.q (.len 0 (.t 16)))⟩, ⟨(some 18), none, (.q (.mov (.c (.int .i64 0))))⟩] [0, 1, 6, 16, 17, 18])
    (.block 0
     (.loop
      (.seq
       (.reg 3 [⟨(some 19), none, (.q (.bin .lss (.t 18) (.t 17)))⟩] [0, 1, 6, 16, 17, 18, 19])
       (.seq
        (.cond (.t 19)
         .skip
         (.exit 0))
        (.seq
         (.block 1
          (.seq
           (.reg 4 [⟨(some 20), none, (.q (.iaddr 2 (.t 16) (.t 18)))⟩, ⟨(some 21), none, (.q (.load (some 2) (.t 20)))⟩, ⟨(some 8), none, (.alloc [(.int .i64 0), .nilslice])⟩, ⟨none, none, (.store 2 (.t 8) (.t 21))⟩] [0, 1, 6, 8, 16, 17, 18])
           (.reg 5 [⟨(some 22), none, (.q (.mov (.t 6)))⟩, ⟨(some 23), none, (.q (.faddr 1 (.t 8)))⟩, ⟨(some 24), none, (.q (.load none (.t 23)))⟩, ⟨(some 25), none, (.q (.len 0 (.t 24)))⟩, ⟨(some 26), none, (.q (.bin .add (.t 22) (.t 25)))⟩, ⟨(some 6), none, (.q (.mov (.t 26)))⟩] [0, 1, 6, 16, 17, 18])))
         (.reg 6 [⟨(some 27), none, (.q (.bin .add (.t 18) (.c (.int .i64 1))))⟩, ⟨(some 18), none, (.q (.mov (.t 27)))⟩] [0, 1, 6, 16, 17, 18])))))))
   (.seq
    (.seq
     (.reg 7 [⟨(some 28), none, (.q (.mov (.t 0)))⟩, ⟨(some 29), none, (.q (.len 0 (.t 28)))⟩, ⟨(some 30), none, (.q (.bin .gtr (.t 29) (.c (.int .i64 16))))⟩, ⟨(some 31), none, (.q (.mov (.t 30)))⟩, ⟨(some 32), (some ⟨31, false⟩), (.q (.mov (.t 6)))⟩, ⟨(some 33), (some ⟨31, false⟩), (.q (.bin .gtr (.t 32) (.c (.int .i64 256))))⟩, ⟨(some 34), none, (.q (.pick (.t 31) (.c (.bool true)) (.t 33)))⟩] [0, 1, 34])
     (.cond (.t 34)
      (.seq
       (.reg 8 [⟨(some 4), none, (.q (.mov (.c .nilptr)))⟩, ⟨(some 5), none, (.q (.mov (.c (.int .i64 40))))⟩] [4, 5])
       .ret)
      .skip))
    (.seq
     (.reg 9 [⟨(some 35), none, (.q (.mov (.t 1)))⟩, ⟨(some 36), none, (.q (.len 0 (.t 35)))⟩, ⟨(some 37), none, .mkmap⟩, ⟨(some 38), none, (.q (.bld [.nilslice, (.int .i64 0), .nilmap] [⟨1, ⟨1, (.t 36)⟩⟩, ⟨2, ⟨1, (.t 37)⟩⟩]))⟩, ⟨(some 39), none, (.box (.t 38))⟩, ⟨(some 9), none, (.q (.mov (.t 39)))⟩] [0, 1, 9])
     (.seq
      (.seq
       (.reg 10 [⟨(some 40), none, (.q (.mov (.t 9)))⟩, ⟨(some 41), none, (.q (.mov (.t 1)))⟩, ⟨(some 42), none, (.call 69 [(.t 40), (.t 41), (.c (.int .i64 (-1))), (.c (.int .i64 1025))])⟩, ⟨(some 10), none, (.q (.mov (.t 42)))⟩] [0, 9, 10])
       (.seq
        (.reg 11 [⟨(some 43), none, (.q (.mov (.t 10)))⟩, ⟨(some 44), none, (.q (.bin .neq (.t 43) (.c (.int .i64 0))))⟩] [0, 9, 10, 44])
        (.cond (.t 44)
         (.seq
          (.reg 12 [⟨(some 45), none, (.q (.mov (.t 10)))⟩, ⟨(some 4), none, (.q (.mov (.c .nilptr)))⟩, ⟨(some 5), none, (.q (.mov (.t 45)))⟩] [4, 5])
          .ret)
         .skip)))
      (.seq
       (.seq
        (.reg 13 [⟨(some 46), none, (.q (.mov (.t 0)))⟩, ⟨(some 47), none, (.q (.len 0 (.t 46)))⟩, ⟨(some 48), none, (.q (.mov (.c (.int .i64 0))))⟩] [9, 46, 47, 48])
        (.block 2
         (.loop
          (.seq
           (.reg 14 [⟨(some 49), none, (.q (.bin .lss (.t 48) (.t 47)))⟩] [9, 46, 47, 48, 49])
           (.seq
            (.cond (.t 49)
            .skip
            (.exit 2))
            (.seq
            (.block 3
            (.seq
            (.reg 15 [⟨(some 50), none, (.q (.mov (.t 48)))⟩, ⟨(some 51), none, (.q (.iaddr 2 (.t 46) (.t 48)))⟩, ⟨(some 52), none, (.q (.load (some 2) (.t 51)))⟩, ⟨(some 12), none, (.alloc [(.int .i64 0), .nilslice])⟩, ⟨(some 11), none, (.q (.mov (.t 50)))⟩, ⟨none, none, (.store 2 (.t 12) (.t 52))⟩] [9, 11, 12, 46, 47, 48])
            (.seq
            (.seq
            (.reg 16 [⟨(some 53), none, (.q (.faddr 0 (.t 12)))⟩, ⟨(some 54), none, (.q (.load none (.t 53)))⟩, ⟨(some 55), none, (.q (.bin .lss (.t 54) (.c (.int .i64 0))))⟩, ⟨(some 56), none, (.q (.mov (.t 55)))⟩, ⟨(some 57), (some ⟨56, false⟩), (.q (.faddr 0 (.t 12)))⟩, ⟨(some 58), (some ⟨56, false⟩), (.q (.load none (.t 57)))⟩, ⟨(some 59), (some ⟨56, false⟩), (.q (.bin .gtr (.t 58) (.c (.int .i64 1024))))⟩, ⟨(some 60), none, (.q (.pick (.t 56) (.c (.bool true)) (.t 59)))⟩] [9, 11, 12, 46, 47, 48, 60])
            (.cond (.t 60)
            (.seq
            (.reg 17 [⟨(some 4), none, (.q (.mov (.c .nilptr)))⟩, ⟨(some 5), none, (.q (.mov (.c (.int .i64 4))))⟩] [4, 5])
            .ret)
            .skip))
            (.seq
            (.reg 18 [⟨(some 61), none, (.q (.mov (.t 9)))⟩, ⟨(some 62), none, (.q (.faddr 1 (.t 12)))⟩, ⟨(some 63), none, (.q (.load none (.t 62)))⟩, ⟨(some 64), none, (.q (.mov (.t 11)))⟩, ⟨(some 65), none, (.q (.faddr 0 (.t 12)))⟩, ⟨(some 66), none, (.q (.load none (.t 65)))⟩, ⟨(some 67), none, (.call 69 [(.t 61), (.t 63), (.t 64), (.t 66)])⟩, ⟨(some 13), none, (.q (.mov (.t 67)))⟩] [9, 13, 46, 47, 48])
            (.seq
            (.reg 19 [⟨(some 68), none, (.q (.mov (.t 13)))⟩, ⟨(some 69), none, (.q (.bin .neq (.t 68) (.c (.int .i64 0))))⟩] [9, 13, 46, 47, 48, 69])
            (.cond (.t 69)
            (.seq
            (.reg 20 [⟨(some 70), none, (.q (.mov (.t 13)))⟩, ⟨(some 4), none, (.q (.mov (.c .nilptr)))⟩, ⟨(some 5), none, (.q (.mov (.t 70)))⟩] [4, 5])
            .ret)
            .skip))))))
            (.reg 21 [⟨(some 71), none, (.q (.bin .add (.t 48) (.c (.int .i64 1))))⟩, ⟨(some 48), none, (.q (.mov (.t 71)))⟩] [9, 46, 47, 48])))))))
       (.seq
        (.reg 22 [⟨(some 72), none, (.q (.mov (.t 9)))⟩, ⟨(some 4), none, (.q (.mov (.t 72)))⟩, ⟨(some 5), none, (.q (.mov (.c (.int .i64 0))))⟩] [4, 5])
        .ret))))))))
theorem fok15 : FOK Tryz.prog 15 (73, ic15, [(.t 4), (.t 5)]) := .mk (pf := []) (an := [(0, [0, 1]), (1, [0, 1, 6]), (2, [0, 1, 6, 16, 17, 18]), (3, [0, 1, 6, 16, 17, 18, 19]), (4, [0, 1, 6, 8, 16, 17, 18]), (5, [0, 1, 6, 16, 17, 18]), (6, [0, 1, 6, 16, 17, 18]), (7, [0, 1, 34]), (8, [4, 5]), (9, [0, 1, 9]), (10, [0, 9, 10]), (11, [0, 9, 10, 44]), (12, [4, 5]), (13, [9, 46, 47, 48]), (14, [9, 46, 47, 48, 49]), (15, [9, 11, 12, 46, 47, 48]), (16, [9, 11, 12, 46, 47, 48, 60]), (17, [4, 5]), (18, [9, 13, 46, 47, 48]), (19, [9, 13, 46, 47, 48, 69]), (20, [4, 5]), (21, [9, 46, 47, 48]), (22, [4, 5])]) (by kernel_rfl) (fnOK_of Tryz.func15 (by kernel_rfl) (by kernel_rfl) (by kernel_rfl))
def ic17 : IC :=
(.seq
 (.reg 0 [⟨(some 2), none, (.q (.mov (.c (.int .i64 0))))⟩] [0])
 (.seq
  (.seq
   (.reg 1 [⟨(some 3), none, (.q (.mov (.t 0)))⟩, ⟨(some 4), none, (.q (.isnil (.pointer 105) false (.t 3)))⟩] [0, 4])
   (.cond (.t 4)
    (.seq
     (.reg 2 [⟨(some 2), none, (.q (.mov (.c (.int .i64 0))))⟩] [2])
     .ret)
    .skip))
  (.seq
   (.reg 3 [⟨(some 5), none, (.q (.mov (.t 0)))⟩, ⟨(some 6), none, (.q (.nchk (.t 5)))⟩, ⟨(some 7), none, (.q (.faddr 0 (.t 6)))⟩, ⟨(some 8), none, (.q (.load none (.t 7)))⟩, ⟨(some 9), none, (.q (.len 0 (.t 8)))⟩, ⟨(some 2), none, (.q (.mov (.t 9)))⟩] [2])
   .ret)))
theorem fok17 : FOK Tryz.prog 17 (10, ic17, [(.t 2)]) := .mk (pf := []) (an := [(0, [0]), (1, [0, 4]), (2, [2]), (3, [2])]) (by kernel_rfl) (fnOK_of Tryz.func17 (by kernel_rfl) (by kernel_rfl) (by kernel_rfl))
def ic19 : IC :=
(.seq
 (.reg 0 [⟨(some 4), none, (.alloc [(.str []), (.int .i64 0), (.str []), (.str []), (.int .u8 0), (.str []), .nilslice, .nilslice, .nilslice, .nilslice, .nilslice, .nilslice, .nilslice, .nilslice, .nilslice])⟩, ⟨(some 5), none, (.q (.mov (.c (.int .i64 0))))⟩] [0, 1, 4])
 (.seq
  (.seq
   (.reg 1 [⟨(some 6), none, (.q (.mov (.t 0)))⟩, ⟨(some 7), none, (.q (.isnil (.pointer 105) false (.t 6)))⟩, ⟨(some 8), none, (.q (.mov (.t 7)))⟩, ⟨(some 9), (some ⟨8, false⟩), (.q (.mov (.t 0)))⟩, ⟨(some 10), (some ⟨8, false⟩), (.q (.nchk (.t 9)))⟩, ⟨(some 11), (some ⟨8, false⟩), (.q (.faddr 0 (.t 10)))⟩, ⟨(some 12), (some ⟨8, false⟩), (.q (.load none (.t 11)))⟩, ⟨(some 13), (some ⟨8, false⟩), (.q (.mov (.t 1)))⟩, ⟨(some 14), (some ⟨8, false⟩), (.call 73 [(.t 12), (.t 13)])⟩, ⟨(some 15), (some ⟨8, false⟩), (.q (.not (.t 14)))⟩, ⟨(some 16), none, (.q (.pick (.t 8) (.c (.bool true)) (.t 15)))⟩] [0, 1, 4, 16])
   (.cond (.t 16)
    (.seq
     (.reg 2 [⟨(some 17), none, (.q (.bld [(.str []), (.int .i64 0), (.str []), (.str []), (.int .u8 0), (.str []), .nilslice, .nilslice, .nilslice, .nilslice, .nilslice, .nilslice, .nilslice, .nilslice, .nilslice] []))⟩, ⟨none, none, (.store 15 (.t 4) (.t 17))⟩, ⟨(some 5), none, (.q (.mov (.c (.int .i64 5))))⟩] [4, 5])
     .ret)
    .skip))
  (.seq
   (.reg 3 [⟨(some 18), none, (.q (.mov (.t 0)))⟩, ⟨(some 19), none, (.q (.nchk (.t 18)))⟩, ⟨(some 20), none, (.q (.faddr 0 (.t 19)))⟩, ⟨(some 21), none, (.q (.load none (.t 20)))⟩, ⟨(some 22), none, (.q (.mov (.t 1)))⟩, ⟨(some 23), none, (.q (.iaddr 17 (.t 21) (.t 22)))⟩, ⟨(some 24), none, (.q (.faddr 0 (.t 23)))⟩, ⟨(some 25), none, (.q (.load (some 15) (.t 24)))⟩, ⟨(some 26), none, (.call 74 [(.t 25)])⟩, ⟨none, none, (.store 15 (.t 4) (.t 26))⟩, ⟨(some 5), none, (.q (.mov (.c (.int .i64 0))))⟩] [4, 5])
   .ret)))
theorem fok19 : FOK Tryz.prog 19 (27, ic19, [(.cell (some 15) 4), (.t 5)]) := .mk (pf := []) (an := [(0, [0, 1, 4]), (1, [0, 1, 4, 16]), (2, [4, 5]), (3, [4, 5])]) (by kernel_rfl) (fnOK_of Tryz.func19 (by kernel_rfl) (by kernel_rfl) (by kernel_rfl))
def ic31 : IC :=
 (.seq
 (.reg 0 [oK 2 (.boxt 0), oK 3 (.boxt 1), oM 4 (cB false)] [2, 3])
 (.seq
 (.seq
 (.reg 1 [oQ 5 (.load (some 15) 2), oQ 6 (.load (some 5) 3), oK 7 (.call 32 [5, 6]), oM 8 7, gQ 9 8 false (.faddr 6 2), gQ 10 8 false (.load none 9), gQ 11 8 false (.mkf 89 [] [3]), gK 12 8 false (.call 75 [10, 11]), oQ 13 (.pick 8 (cB true) 12)] [2, 3, 13])
 (.cond 13
 (.seq
 (.reg 2 [oM 4 (cB true)] [4])
 .ret)
 .skip))
 (.seq
 (.reg 3 [oQ 14 (.faddr 1 3), oQ 15 (.load none 14), oQ 16 (.bin .eql 15 (.c (zU 0))), oM 17 16, gQ 18 17 true (.faddr 14 2), gQ 19 17 true (.load none 18), gQ 20 17 true (.faddr 0 3), gQ 21 17 true (.load none 20), gK 22 17 true (.call 91 [19, 21]), oQ 23 (.pick 17 22 (cB false)), oM 4 23] [4])
 .ret)))
theorem fok31 : FOK Tryz.prog 31 (24, ic31, [(.t 4)]) := fokA [1000002, 1000003, 2000000] Tryz.func31 (by kernel_rfl) (by kernel_rfl) (by kernel_rfl) (by kernel_rfl)
def ic32 : IC :=
 (.seq
 (.reg 0 [oK 2 (.boxt 0), oK 3 (.boxt 1), oM 4 (cB false)] [2, 3])
 (.seq
 (.oreg 1 [(0, oQ 5 (.load (some 15) 2), 0), (2, oQ 7 (.load (some 5) 3), 0), (1, oK 6 (.call 92 [5]), 4), (3, oK 8 (.call 90 [6, 7]), 0), (4, oM 4 8, 0)] [4])
 .ret))
theorem fok32 : FOK Tryz.prog 32 (9, ic32, [(.t 4)]) := fokA [1000002, 1000003, 2000000] Tryz.func32 (by kernel_rfl) (by kernel_rfl) (by kernel_rfl) (by kernel_rfl)
end Go.Id.Tryz
