/- The compiled codes of functions, written by a program out of the given form. Conditions: none. -/
import Derived.Test.YtmepmfjldjmgoaaGreatDoorFwW
import Derived.Test.YtmepmfjldjmgoaaGreatDoorProg
set_option linter.all false
namespace Go.Id.Tryz
open Go Go.Id Go.Proofs
def allF1 : List Nat := List.range 412
def ic53 : IC :=
 (.seq
 (.reg 0 [oM 2 (cI 0)] [0])
 (.seq
 (.dreg 1 [oM 8 0, oQ 9 (.nchk 8), oQ 10 (.faddr 2 9), oQ 11 (.load none 10), oM 12 0, oQ 13 (.nchk 12), oQ 14 (.faddr 5 13), oQ 15 (.load none 14), oK 16 (.call 99 [11, 15]), oM 3 16] false [0, 3])
 (.seq
 (.reg 2 [oM 17 3, oK 18 (.call 106 [17])] [0, 3])
 (.seq
 (.seq
 (.reg 3 [oM 19 3, oQ 20 (.len 0 19), oM 21 (cI 0)] [0, 19, 20, 21])
 (.block 0
 (.loop
 (.seq
 (.reg 4 [oQ 22 (.bin .lss 21 20)] [0, 19, 20, 21, 22])
 (.seq
 (.cond 22
 .skip
 (.exit 0))
 (.seq
 (.block 1
 (.seq
 (.reg 5 [oQ 23 (.iaddr 1 19 21), oQ 24 (.load none 23), oM 5 24] [0, 5, 19, 20, 21])
 (.reg 6 [oM 25 0, oM 26 0, oQ 27 (.nchk 26), oQ 28 (.faddr 6 27), oQ 29 (.load none 28), oM 30 5, oM 31 5, oQ 32 (.bin .add 31 (cI 1)), oQ 33 (.neg 32), oK 34 (.bslt 1 1 [(zI 0)] [⟨0, ⟨1, 33⟩⟩]), oK 35 (.bslt 1 1 [.nilslice] [⟨0, ⟨1, 34⟩⟩]), oK 36 (.bslt 1 1 [.nilslice] [⟨0, ⟨1, 35⟩⟩]), oQ 37 (.bld [(zU 0), (zI 0), .nilslice] [⟨0, ⟨1, (.c (zU 5))⟩⟩, ⟨1, ⟨1, 30⟩⟩, ⟨2, ⟨1, 36⟩⟩]), oK 38 (.bslt 3 1 [(zU 0), (zI 0), .nilslice] [⟨0, ⟨3, 37⟩⟩]), oK 39 (.app 3 29 38), oQ 40 (.nchk 25), oQ 41 (.faddr 6 40), oN (.store 1 41 39)] [0, 19, 20, 21])))
 (.reg 7 [oQ 42 (.bin .add 21 (cI 1)), oM 21 42] [0, 19, 20, 21])))))))
 (.seq
 (.seq
 (.reg 8 [oM 43 0, oQ 44 (.nchk 43), oQ 45 (.faddr 4 44), oQ 46 (.load none 45), oQ 47 (.len 0 46), oM 48 (cI 0)] [0, 46, 47, 48])
 (.block 2
 (.loop
 (.seq
 (.reg 9 [oQ 49 (.bin .lss 48 47)] [0, 46, 47, 48, 49])
 (.seq
 (.cond 49
 .skip
 (.exit 2))
 (.seq
 (.block 3
 (.seq
 (.reg 10 [oQ 50 (.iaddr 1 46 48), oQ 51 (.load none 50), oM 7 51] [0, 7, 46, 47, 48])
 (.reg 11 [oM 52 0, oM 53 7, oM 54 7, oK 55 (.bslt 1 1 [(zI 0)] [⟨0, ⟨1, 54⟩⟩]), oK 56 (.call 98 [52, (.c (zU 6)), 53, 55])] [0, 46, 47, 48])))
 (.reg 12 [oQ 57 (.bin .add 48 (cI 1)), oM 48 57] [0, 46, 47, 48])))))))
 (.seq
 (.reg 13 [oM 2 (cI 0)] [2])
 .ret))))))
theorem fok53 : FOK Tryz.prog 53 (58, ic53, [(.t 2)]) := fokA [1000034, 1000035, 1000036, 1000038, 1000055, 2000000] Tryz.func53 (by kernel_rfl) (by kernel_rfl) (by kernel_rfl) (by kernel_rfl)
def ic54 : IC :=
 (.seq
 (.reg 0 [oK 5 (.boxt 2), oM 6 (.c .nilptr), oM 7 (cI 0)] [0, 1, 5])
 (.seq
 (.seq
 (.reg 1 [oQ 12 (.faddr 0 5), oQ 13 (.load none 12), oK 14 (.call 107 [13]), oQ 15 (.not 14), oM 16 15, gQ 17 16 false (.faddr 4 5), gQ 18 16 false (.load none 17), gQ 19 16 false (.bin .lss 18 (cI 0)), oQ 20 (.pick 16 (cB true) 19), oM 21 20, gQ 22 21 false (.faddr 4 5), gQ 23 21 false (.load none 22), gQ 24 21 false (.bin .gtr 23 (cI 1099511627776)), oQ 25 (.pick 21 (cB true) 24)] [0, 1, 5, 25])
 (.cond 25
 (.seq
 (.reg 2 [oM 6 (.c .nilptr), oM 7 (cI 1)] [6, 7])
 .ret)
 .skip))
 (.seq
 (.seq
 (.reg 3 [oQ 26 (.faddr 2 5), oQ 27 (.load none 26), oQ 28 (.len 0 27), oQ 29 (.bin .gtr 28 (cI 64)), oM 30 29, gQ 31 30 false (.faddr 3 5), gQ 32 30 false (.load none 31), gQ 33 30 false (.len 0 32), gQ 34 30 false (.bin .gtr 33 (cI 64)), oQ 35 (.pick 30 (cB true) 34)] [0, 1, 5, 35])
 (.cond 35
 (.seq
 (.reg 4 [oM 6 (.c .nilptr), oM 7 (cI 40)] [6, 7])
 .ret)
 .skip))
 (.seq
 (.seq
 (.reg 5 [oM 8 (cI 0)] [0, 1, 5, 8])
 (.block 0
 (.loop
 (.seq
 (.seq
 (.reg 6 [oM 36 8, oQ 37 (.faddr 2 5), oQ 38 (.load none 37), oQ 39 (.len 0 38), oQ 40 (.bin .lss 36 39)] [0, 1, 5, 8, 40])
 (.cond 40
 .skip
 (.exit 0)))
 (.seq
 (.block 1
 (.seq
 (.reg 8 [oQ 43 (.faddr 2 5), oQ 44 (.load none 43), oM 45 8, oQ 46 (.iaddr 6 44 45), oQ 47 (.faddr 0 46), oQ 48 (.load none 47), oQ 49 (.bin .lss 48 (.c (zU 1))), oM 50 49, gQ 51 50 false (.faddr 2 5), gQ 52 50 false (.load none 51), gQ 53 50 false (.mov 8), gQ 54 50 false (.iaddr 6 52 53), gQ 55 50 false (.faddr 0 54), gQ 56 50 false (.load none 55), gQ 57 50 false (.bin .gtr 56 (.c (zU 4))), oQ 58 (.pick 50 (cB true) 57), oM 59 58, gQ 60 59 false (.faddr 2 5), gQ 61 59 false (.load none 60), gQ 62 59 false (.mov 8), gQ 63 59 false (.iaddr 6 61 62), gQ 64 59 false (.faddr 1 63), gQ 65 59 false (.load (some 5) 64), gK 66 59 false (.call 108 [65]), gQ 67 59 false (.not 66), oQ 68 (.pick 59 (cB true) 67)] [0, 1, 5, 8, 68])
 (.cond 68
 (.seq
 (.reg 9 [oM 6 (.c .nilptr), oM 7 (cI 4)] [6, 7])
 .ret)
 .skip)))
 (.reg 7 [oM 41 8, oQ 42 (.bin .add 41 (cI 1)), oM 8 42] [0, 1, 5, 8]))))))
 (.seq
 (.seq
 (.reg 10 [oM 9 (cI 0)] [0, 1, 5, 9])
 (.block 2
 (.loop
 (.seq
 (.seq
 (.reg 11 [oM 69 9, oQ 70 (.faddr 3 5), oQ 71 (.load none 70), oQ 72 (.len 0 71), oQ 73 (.bin .lss 69 72)] [0, 1, 5, 9, 73])
 (.cond 73
 .skip
 (.exit 2)))
 (.seq
 (.block 3
 (.seq
 (.reg 13 [oQ 76 (.faddr 3 5), oQ 77 (.load none 76), oM 78 9, oQ 79 (.iaddr 2 77 78), oQ 80 (.load (some 2) 79), oK 10 (.alloc [(zU 0), (zI 0)]), oN (.store 2 10 80)] [0, 1, 5, 9, 10])
 (.seq
 (.reg 14 [oQ 81 (.faddr 1 10), oQ 82 (.load none 81), oQ 83 (.bin .geq 82 (cI 0)), oM 84 83, gQ 85 84 true (.faddr 0 10), gQ 86 84 true (.load none 85), gQ 87 84 true (.bin .eql 86 (.c (zU 1))), gQ 88 84 true (.mov 87), gQ 89 88 true (.faddr 1 10), gQ 90 88 true (.load none 89), gQ 91 88 true (.faddr 2 5), gQ 92 88 true (.load none 91), gQ 93 88 true (.len 0 92), gQ 94 88 true (.bin .lss 90 93), gQ 95 84 true (.pick 88 94 (cB false)), gQ 96 84 true (.mov 95), gQ 97 96 false (.faddr 0 10), gQ 98 96 false (.load none 97), gQ 99 96 false (.bin .gtr 98 (.c (zU 1))), gQ 100 96 false (.mov 99), gQ 101 100 true (.faddr 0 10), gQ 102 100 true (.load none 101), gQ 103 100 true (.bin .leq 102 (.c (zU 4))), gQ 104 96 false (.pick 100 103 (cB false)), gQ 105 96 false (.mov 104), gQ 106 105 true (.faddr 1 10), gQ 107 105 true (.load none 106), gQ 108 105 true (.mov 1), gQ 109 105 true (.bin .lss 107 108), gQ 110 96 false (.pick 105 109 (cB false)), gQ 111 84 true (.pick 96 (cB true) 110), oQ 112 (.pick 84 111 (cB false)), oM 11 112] [0, 1, 5, 9, 11])
 (.seq
 (.reg 15 [oM 113 11, oQ 114 (.not 113)] [0, 1, 5, 9, 114])
 (.cond 114
 (.seq
 (.reg 16 [oM 6 (.c .nilptr), oM 7 (cI 5)] [6, 7])
 .ret)
 .skip)))))
 (.reg 12 [oM 74 9, oQ 75 (.bin .add 74 (cI 1)), oM 9 75] [0, 1, 5, 9]))))))
 (.seq
 (.reg 17 [oM 115 0, oM 116 1, oQ 117 (.load (some 5) 5), oQ 118 (.bld [.nilslice, (zI 0), (zU 0), (.bool false), .nilslice, .nilslice, (zI 0)] [⟨0, ⟨1, 115⟩⟩, ⟨1, ⟨1, 116⟩⟩, ⟨2, ⟨5, 117⟩⟩]), oK 119 (.boxt 118), oM 6 119, oM 7 (cI 0)] [6, 7])
 .ret))))))
theorem fok54 : FOK Tryz.prog 54 (120, ic54, [(.t 6), (.t 7)]) := fokA [1000005, 1000119, 2000000] Tryz.func54 (by kernel_rfl) (by kernel_rfl) (by kernel_rfl) (by kernel_rfl)
def ic55 : IC :=
 (.seq
 (.reg 0 [oM 4 (.c .nilslice)] [0, 1])
 (.seq
 (.reg 1 [oK 7 (.bsl 15 0 [(.str []), (zI 0), (.str []), (.str []), (zU 0), (.str []), .nilslice, .nilslice, .nilslice, .nilslice, .nilslice, .nilslice, .nilslice, .nilslice, .nilslice] []), oM 8 1, oK 9 (.app 15 7 8), oM 5 9] [0, 5])
 (.seq
 (.seq
 (.reg 2 [oM 6 (cI 0)] [0, 5, 6])
 (.block 0
 (.loop
 (.seq
 (.seq
 (.reg 3 [oM 10 6, oM 11 0, oQ 12 (.len 0 11), oQ 13 (.bin .lss 10 12)] [0, 5, 6, 13])
 (.cond 13
 .skip
 (.exit 0)))
 (.seq
 (.block 1
 (.reg 5 [oM 16 5, oM 17 0, oM 18 6, oQ 19 (.iaddr 2 17 18), oQ 20 (.faddr 1 19), oQ 21 (.load none 20), oK 22 (.app 15 16 21), oM 5 22] [0, 5, 6]))
 (.reg 4 [oM 14 6, oQ 15 (.bin .add 14 (cI 1)), oM 6 15] [0, 5, 6]))))))
 (.seq
 (.reg 6 [oM 23 5, oM 4 23] [4])
 .ret))))
theorem fok55 : FOK Tryz.prog 55 (24, ic55, [(.t 4)]) := fokA [2000000] Tryz.func55 (by kernel_rfl) (by kernel_rfl) (by kernel_rfl) (by kernel_rfl)
def ic65 : IC :=
(.seq
 (.reg 0 [⟨(some 1), none, (.boxt (.t 0))⟩, ⟨(some 2), none, (.alloc [(.bool false)])⟩] [1, 2])
 (.seq
  (.block 0
   (.seq
    (.reg 1 [⟨(some 8), none, (.q (.faddr 0 (.t 1)))⟩, ⟨(some 9), none, (.q (.load none (.t 8)))⟩, ⟨(some 10), none, (.call 69 [(.t 9)])⟩, ⟨(some 11), none, (.q (.not (.t 10)))⟩, ⟨(some 12), none, (.q (.mov (.t 11)))⟩, ⟨(some 13), (some ⟨12, false⟩), (.q (.faddr 0 (.t 1)))⟩, ⟨(some 14), (some ⟨12, false⟩), (.q (.load none (.t 13)))⟩, ⟨(some 15), (some ⟨12, false⟩), (.call 71 [(.t 14)])⟩, ⟨(some 16), none, (.q (.pick (.t 12) (.c (.bool true)) (.t 15)))⟩, ⟨(some 17), none, (.q (.mov (.t 16)))⟩, ⟨(some 18), (some ⟨17, false⟩), (.q (.faddr 1 (.t 1)))⟩, ⟨(some 19), (some ⟨17, false⟩), (.q (.load (some 3) (.t 18)))⟩, ⟨(some 20), (some ⟨17, false⟩), (.call 72 [(.t 19), (.c (.bool false))])⟩, ⟨(some 21), (some ⟨17, false⟩), (.q (.not (.t 20)))⟩, ⟨(some 22), none, (.q (.pick (.t 17) (.c (.bool true)) (.t 21)))⟩, ⟨(some 7), none, (.q (.mov (.t 22)))⟩] [1, 2, 7])
    (.cond (.t 7)
     (.seq
      (.reg 2 [⟨none, none, (.store 1 (.t 2) (.c (.bool false)))⟩] [2])
      .ret)
     (.seq
      (.reg 3 [⟨(some 24), none, (.q (.faddr 4 (.t 1)))⟩, ⟨(some 25), none, (.q (.load none (.t 24)))⟩, ⟨(some 26), none, (.call 124 [(.t 25)])⟩, ⟨(some 27), none, (.q (.bin .eql (.t 26) (.c (.str []))))⟩, ⟨(some 28), none, (.q (.mov (.t 27)))⟩, ⟨(some 29), (some ⟨28, false⟩), (.q (.faddr 5 (.t 1)))⟩, ⟨(some 30), (some ⟨28, false⟩), (.q (.load none (.t 29)))⟩, ⟨(some 31), (some ⟨28, false⟩), (.q (.len 1 (.t 30)))⟩, ⟨(some 32), (some ⟨28, false⟩), (.q (.bin .gtr (.t 31) (.c (.int .i64 64))))⟩, ⟨(some 33), none, (.q (.pick (.t 28) (.c (.bool true)) (.t 32)))⟩, ⟨(some 23), none, (.q (.mov (.t 33)))⟩] [1, 2, 23])
      (.cond (.t 23)
       (.seq
        (.reg 4 [⟨none, none, (.store 1 (.t 2) (.c (.bool false)))⟩] [2])
        .ret)
       (.seq
        (.reg 5 [⟨(some 35), none, (.q (.faddr 6 (.t 1)))⟩, ⟨(some 36), none, (.q (.load none (.t 35)))⟩, ⟨(some 37), none, (.call 125 [(.t 36), (.c (.int .i64 32)), (.f 28)])⟩, ⟨(some 38), none, (.q (.not (.t 37)))⟩, ⟨(some 39), none, (.q (.mov (.t 38)))⟩, ⟨(some 40), (some ⟨39, false⟩), (.q (.faddr 9 (.t 1)))⟩, ⟨(some 41), (some ⟨39, false⟩), (.q (.load none (.t 40)))⟩, ⟨(some 42), (some ⟨39, false⟩), (.call 125 [(.t 41), (.c (.int .i64 32)), (.f 28)])⟩, ⟨(some 43), (some ⟨39, false⟩), (.q (.not (.t 42)))⟩, ⟨(some 44), none, (.q (.pick (.t 39) (.c (.bool true)) (.t 43)))⟩, ⟨(some 45), none, (.q (.mov (.t 44)))⟩, ⟨(some 46), (some ⟨45, false⟩), (.q (.faddr 14 (.t 1)))⟩, ⟨(some 47), (some ⟨45, false⟩), (.q (.load none (.t 46)))⟩, ⟨(some 48), (some ⟨45, false⟩), (.call 126 [(.t 47), (.c (.int .i64 32)), (.f 71)])⟩, ⟨(some 49), (some ⟨45, false⟩), (.q (.not (.t 48)))⟩, ⟨(some 50), none, (.q (.pick (.t 45) (.c (.bool true)) (.t 49)))⟩, ⟨(some 34), none, (.q (.mov (.t 50)))⟩] [1, 2, 34])
        (.cond (.t 34)
         (.seq
          (.reg 6 [⟨none, none, (.store 1 (.t 2) (.c (.bool false)))⟩] [2])
          .ret)
         .skip)))))))
  (.seq
   (.seq
    (.reg 7 [⟨(some 51), none, (.q (.faddr 14 (.t 1)))⟩, ⟨(some 52), none, (.q (.load none (.t 51)))⟩, ⟨(some 53), none, (.q (.len 0 (.t 52)))⟩, ⟨(some 54), none, (.q (.mov (.c (.int .i64 0))))⟩] [1, 2, 52, 53, 54])
    (.block 1
     (.loop
      (.seq
       (.reg 8 [⟨(some 55), none, (.q (.bin .lss (.t 54) (.t 53)))⟩] [1, 2, 52, 53, 54, 55])
       (.seq
        (.cond (.t 55)
         .skip
         (.exit 1))
        (.seq
         (.block 2
          (.seq
           (.reg 9 [⟨(some 56), none, (.q (.mov (.t 54)))⟩, ⟨(some 57), none, (.q (.iaddr 1 (.t 52) (.t 54)))⟩, ⟨(some 58), none, (.q (.load none (.t 57)))⟩, ⟨(some 3), none, (.q (.mov (.t 56)))⟩, ⟨(some 4), none, (.q (.mov (.t 58)))⟩] [1, 2, 3, 4, 52, 53, 54])
           (.seq
            (.reg 10 [⟨(some 59), none, (.q (.mov (.t 3)))⟩, ⟨(some 60), none, (.q (.bin .gtr (.t 59) (.c (.int .i64 0))))⟩, ⟨(some 61), none, (.q (.mov (.t 60)))⟩, ⟨(some 62), (some ⟨61, true⟩), (.q (.faddr 14 (.t 1)))⟩, ⟨(some 63), (some ⟨61, true⟩), (.q (.load none (.t 62)))⟩, ⟨(some 64), (some ⟨61, true⟩), (.q (.mov (.t 3)))⟩, ⟨(some 65), (some ⟨61, true⟩), (.q (.bin .sub (.t 64) (.c (.int .i64 1))))⟩, ⟨(some 66), (some ⟨61, true⟩), (.q (.iaddr 1 (.t 63) (.t 65)))⟩, ⟨(some 67), (some ⟨61, true⟩), (.q (.load none (.t 66)))⟩, ⟨(some 68), (some ⟨61, true⟩), (.q (.mov (.t 4)))⟩, ⟨(some 69), (some ⟨61, true⟩), (.q (.bin .geq (.t 67) (.t 68)))⟩, ⟨(some 70), none, (.q (.pick (.t 61) (.t 69) (.c (.bool false))))⟩] [1, 2, 52, 53, 54, 70])
            (.cond (.t 70)
            (.seq
            (.reg 11 [⟨none, none, (.store 1 (.t 2) (.c (.bool false)))⟩] [2])
            .ret)
            .skip))))
         (.reg 12 [⟨(some 71), none, (.q (.bin .add (.t 54) (.c (.int .i64 1))))⟩, ⟨(some 54), none, (.q (.mov (.t 71)))⟩] [1, 2, 52, 53, 54])))))))
   (.seq
    (.seq
     (.reg 13 [⟨(some 72), none, (.q (.load (some 15) (.t 1)))⟩, ⟨(some 73), none, (.call 127 [(.t 72)])⟩] [2, 73])
     (.block 3
      (.rfunc (.t 73) [74, 75]
       (.seq
        (.reg 14 [⟨(some 5), none, (.alloc [(.int .u8 0)])⟩, ⟨none, none, (.store 1 (.t 5) (.t 74))⟩] [2, 5, 75])
        (.reg 15 [⟨(some 6), none, (.q (.mov (.t 75)))⟩] [2, 5, 6]))
       (.block 4
        (.seq
         (.reg 16 [⟨(some 76), none, (.q (.mov (.t 6)))⟩, ⟨(some 77), none, (.q (.mkf 129 [] [(.t 5)]))⟩, ⟨(some 78), none, (.call 128 [(.t 76), (.c (.int .i64 32)), (.t 77)])⟩, ⟨(some 79), none, (.q (.not (.t 78)))⟩] [2, 79])
         (.cond (.t 79)
          (.seq
           (.reg 17 [⟨none, none, (.store 1 (.t 2) (.c (.bool false)))⟩] [])
           .ret)
          .skip))))))
    (.seq
     (.reg 18 [⟨none, none, (.store 1 (.t 2) (.c (.bool true)))⟩] [2])
     .ret)))))
theorem fok65 : FOK Tryz.prog 65 (80, ic65, [(.cell none 2)]) := .mk (pf := [1000001]) (an := [(0, [1, 2]), (1, [1, 2, 7]), (2, [2]), (3, [1, 2, 23]), (4, [2]), (5, [1, 2, 34]), (6, [2]), (7, [1, 2, 52, 53, 54]), (8, [1, 2, 52, 53, 54, 55]), (9, [1, 2, 3, 4, 52, 53, 54]), (10, [1, 2, 52, 53, 54, 70]), (11, [2]), (12, [1, 2, 52, 53, 54]), (13, [2, 73]), (14, [2, 5, 75]), (15, [2, 5, 6]), (16, [2, 79]), (18, [2])]) (by kernel_rfl) (fnOK_of Tryz.func65 (by kernel_rfl) (by kernel_rfl) (by kernel_rfl))
def ic66 : IC :=
(.seq
 (.reg 0 [⟨(some 1), none, (.box (.t 0))⟩, ⟨(some 2), none, (.alloc [(.str []), (.int .i64 0), (.str []), (.str []), (.int .u8 0), (.str []), .nilslice, .nilslice, .nilslice, .nilslice, .nilslice, .nilslice, .nilslice, .nilslice, .nilslice])⟩] [1, 2])
 (.seq
  (.dreg 1 [⟨(some 7), none, (.q (.faddr 6 (.t 1)))⟩, ⟨(some 8), none, (.q (.load none (.t 7)))⟩, ⟨(some 9), none, (.pcall 131 [(.t 8)])⟩, ⟨(some 10), none, (.q (.faddr 9 (.t 1)))⟩, ⟨(some 11), none, (.q (.load none (.t 10)))⟩, ⟨(some 12), none, (.pcall 131 [(.t 11)])⟩, ⟨(some 13), none, (.q (.faddr 14 (.t 1)))⟩, ⟨(some 14), none, (.q (.load none (.t 13)))⟩, ⟨(some 15), none, (.pcall 132 [(.t 14)])⟩, ⟨(some 16), none, (.q (.faddr 6 (.t 1)))⟩, ⟨none, none, (.store 1 (.t 16) (.t 9))⟩, ⟨(some 17), none, (.q (.faddr 9 (.t 1)))⟩, ⟨none, none, (.store 1 (.t 17) (.t 12))⟩, ⟨(some 18), none, (.q (.faddr 14 (.t 1)))⟩, ⟨none, none, (.store 1 (.t 18) (.t 15))⟩] false [1, 2])
  (.seq
   (.seq
    (.reg 2 [⟨(some 19), none, (.q (.faddr 7 (.t 1)))⟩, ⟨(some 20), none, (.q (.faddr 8 (.t 1)))⟩, ⟨(some 21), none, (.q (.faddr 10 (.t 1)))⟩, ⟨(some 22), none, (.q (.faddr 11 (.t 1)))⟩, ⟨(some 23), none, (.q (.faddr 12 (.t 1)))⟩, ⟨(some 24), none, (.q (.faddr 13 (.t 1)))⟩, ⟨(some 25), none, (.bslt 1 6 [.nilptr] [⟨0, ⟨1, (.t 19)⟩⟩, ⟨1, ⟨1, (.t 20)⟩⟩, ⟨2, ⟨1, (.t 21)⟩⟩, ⟨3, ⟨1, (.t 22)⟩⟩, ⟨4, ⟨1, (.t 23)⟩⟩, ⟨5, ⟨1, (.t 24)⟩⟩])⟩, ⟨(some 26), none, (.q (.len 0 (.t 25)))⟩, ⟨(some 27), none, (.q (.mov (.c (.int .i64 0))))⟩] [1, 2, 25, 26, 27])
    (.block 0
     (.loop
      (.seq
       (.reg 3 [⟨(some 28), none, (.q (.bin .lss (.t 27) (.t 26)))⟩] [1, 2, 25, 26, 27, 28])
       (.seq
        (.cond (.t 28)
         .skip
         (.exit 0))
        (.seq
         (.block 1
          (.seq
           (.reg 4 [⟨(some 29), none, (.q (.iaddr 1 (.t 25) (.t 27)))⟩, ⟨(some 30), none, (.q (.load none (.t 29)))⟩, ⟨(some 4), none, (.q (.mov (.t 30)))⟩] [1, 2, 4, 25, 26, 27])
           (.seq
            (.reg 5 [⟨(some 31), none, (.q (.mov (.t 4)))⟩, ⟨(some 32), none, (.q (.mov (.t 4)))⟩, ⟨(some 33), none, (.q (.nchk (.t 32)))⟩, ⟨(some 34), none, (.q (.load none (.t 33)))⟩, ⟨(some 35), none, (.call 133 [(.t 34)])⟩, ⟨(some 36), none, (.q (.nchk (.t 31)))⟩, ⟨none, none, (.store 1 (.t 36) (.t 35))⟩] [1, 2, 4, 25, 26, 27])
            (.seq
            (.reg 6 [⟨(some 37), none, (.q (.mov (.t 4)))⟩, ⟨(some 38), none, (.q (.nchk (.t 37)))⟩, ⟨(some 39), none, (.q (.load none (.t 38)))⟩, ⟨(some 40), none, (.q (.len 0 (.t 39)))⟩, ⟨(some 41), none, (.q (.mov (.c (.int .i64 0))))⟩] [1, 2, 4, 25, 26, 27, 39, 40, 41])
            (.block 2
            (.loop
            (.seq
            (.reg 7 [⟨(some 42), none, (.q (.bin .lss (.t 41) (.t 40)))⟩] [1, 2, 4, 25, 26, 27, 39, 40, 41, 42])
            (.seq
            (.cond (.t 42)
            .skip
            (.exit 2))
            (.seq
            (.block 3
            (.seq
            (.reg 8 [⟨(some 43), none, (.q (.mov (.t 41)))⟩, ⟨(some 44), none, (.q (.iaddr 7 (.t 39) (.t 41)))⟩, ⟨(some 45), none, (.q (.load (some 7) (.t 44)))⟩, ⟨(some 6), none, (.alloc [(.int .u8 0), (.str []), (.int .u8 0), (.int .i64 0), (.str []), (.str []), .nilslice])⟩, ⟨(some 5), none, (.q (.mov (.t 43)))⟩, ⟨none, none, (.store 7 (.t 6) (.t 45))⟩] [1, 2, 4, 5, 6, 25, 26, 27, 39, 40, 41])
            (.dreg 9 [⟨(some 46), none, (.q (.mov (.t 4)))⟩, ⟨(some 47), none, (.q (.nchk (.t 46)))⟩, ⟨(some 48), none, (.q (.load none (.t 47)))⟩, ⟨(some 49), none, (.q (.mov (.t 5)))⟩, ⟨(some 50), none, (.q (.load (some 7) (.t 6)))⟩, ⟨(some 51), none, (.pcall 134 [(.t 50)])⟩, ⟨(some 52), none, (.q (.iaddr 7 (.t 48) (.t 49)))⟩, ⟨none, none, (.store 7 (.t 52) (.t 51))⟩] false [1, 2, 4, 25, 26, 27, 39, 40, 41])))
            (.reg 10 [⟨(some 53), none, (.q (.bin .add (.t 41) (.c (.int .i64 1))))⟩, ⟨(some 41), none, (.q (.mov (.t 53)))⟩] [1, 2, 4, 25, 26, 27, 39, 40, 41]))))))))))
         (.reg 11 [⟨(some 54), none, (.q (.bin .add (.t 27) (.c (.int .i64 1))))⟩, ⟨(some 27), none, (.q (.mov (.t 54)))⟩] [1, 2, 25, 26, 27])))))))
   (.seq
    (.reg 12 [⟨(some 55), none, (.q (.load (some 15) (.t 1)))⟩, ⟨none, none, (.store 15 (.t 2) (.t 55))⟩] [2])
    .ret))))
theorem fok66 : FOK Tryz.prog 66 (56, ic66, [(.cell (some 15) 2)]) := .mk (pf := ([1000025] ++ List.filter (fun k => k != 133) allF1)) (an := [(0, [1, 2]), (1, [1, 2]), (2, [1, 2, 25, 26, 27]), (3, [1, 2, 25, 26, 27, 28]), (4, [1, 2, 4, 25, 26, 27]), (5, [1, 2, 4, 25, 26, 27]), (6, [1, 2, 4, 25, 26, 27, 39, 40, 41]), (7, [1, 2, 4, 25, 26, 27, 39, 40, 41, 42]), (8, [1, 2, 4, 5, 6, 25, 26, 27, 39, 40, 41]), (9, [1, 2, 4, 25, 26, 27, 39, 40, 41]), (10, [1, 2, 4, 25, 26, 27, 39, 40, 41]), (11, [1, 2, 25, 26, 27]), (12, [2])]) (by kernel_rfl) (fnOK_of Tryz.func66 (by kernel_rfl) (by kernel_rfl) (by kernel_rfl))
def ic67 : IC :=
(.seq
 (.reg 0 [⟨(some 2), none, (.q (.mov (.c (.bool false))))⟩] [0])
 (.seq
  (.reg 1 [⟨(some 3), none, (.q (.mov (.t 0)))⟩, ⟨(some 4), none, (.q (.bin .geq (.t 3) (.c (.int .u8 1))))⟩, ⟨(some 5), none, (.q (.mov (.t 4)))⟩, ⟨(some 6), (some ⟨5, true⟩), (.q (.mov (.t 0)))⟩, ⟨(some 7), (some ⟨5, true⟩), (.q (.bin .leq (.t 6) (.c (.int .u8 4))))⟩, ⟨(some 8), none, (.q (.pick (.t 5) (.t 7) (.c (.bool false))))⟩, ⟨(some 2), none, (.q (.mov (.t 8)))⟩] [2])
  .ret))
theorem fok67 : FOK Tryz.prog 67 (9, ic67, [(.t 2)]) := .mk (pf := []) (an := [(0, [0]), (1, [2])]) (by kernel_rfl) (fnOK_of Tryz.func67 (by kernel_rfl) (by kernel_rfl) (by kernel_rfl))
def ic68 : IC :=
 (.seq
 (.reg 0 [oM 4 (cI 0)] [0, 1])
 (.seq
 (.seq
 (.reg 1 [oM 6 0, oQ 7 (.len 0 6), oM 8 (cI 0)] [0, 1, 7, 8])
 (.block 0
 (.loop
 (.seq
 (.reg 2 [oQ 9 (.bin .lss 8 7)] [0, 1, 7, 8, 9])
 (.seq
 (.cond 9
 .skip
 (.exit 0))
 (.seq
 (.block 1
 (.seq
 (.reg 3 [oM 10 8, oM 5 10] [0, 1, 5, 7, 8])
 (.seq
 (.reg 4 [oM 11 1, oM 12 0, oM 13 5, oQ 14 (.iaddr 6 12 13), oQ 15 (.load (some 6) 14), oK 16 (.callv 11 [15])] [0, 1, 5, 7, 8, 16])
 (.cond 16
 (.seq
 (.reg 5 [oM 17 5, oM 4 17] [4])
 .ret)
 .skip))))
 (.reg 6 [oQ 18 (.bin .add 8 (cI 1)), oM 8 18] [0, 1, 7, 8])))))))
 (.seq
 (.reg 7 [oM 4 (cI (-1))] [4])
 .ret)))
theorem fok68 : FOK Tryz.prog 68 (19, ic68, [(.t 4)]) := fokA [2000000] Tryz.func68 (by kernel_rfl) (by kernel_rfl) (by kernel_rfl) (by kernel_rfl)
def ic69 : IC :=
(.seq
 (.reg 0 [⟨(some 2), none, (.q (.mov (.c (.bool false))))⟩] [0])
 (.seq
  (.seq
   (.reg 1 [⟨(some 7), none, (.q (.mov (.t 0)))⟩, ⟨(some 8), none, (.q (.len 1 (.t 7)))⟩, ⟨(some 9), none, (.q (.bin .lss (.t 8) (.c (.int .i64 1))))⟩, ⟨(some 10), none, (.q (.mov (.t 9)))⟩, ⟨(some 11), (some ⟨10, false⟩), (.q (.mov (.t 0)))⟩, ⟨(some 12), (some ⟨10, false⟩), (.q (.len 1 (.t 11)))⟩, ⟨(some 13), (some ⟨10, false⟩), (.q (.bin .gtr (.t 12) (.c (.int .i64 64))))⟩, ⟨(some 14), none, (.q (.pick (.t 10) (.c (.bool true)) (.t 13)))⟩] [0, 14])
   (.cond (.t 14)
    (.seq
     (.reg 2 [⟨(some 2), none, (.q (.mov (.c (.bool false))))⟩] [2])
     .ret)
    .skip))
  (.seq
   (.seq
    (.reg 3 [⟨(some 15), none, (.q (.mov (.t 0)))⟩, ⟨(some 16), none, (.srange (.t 15))⟩] [0, 16])
    (.block 0
     (.loop
      (.seq
       (.reg 4 [⟨(some 17), none, (.snext (.t 16))⟩, ⟨(some 18), none, (.q (.ext 0 (.t 17)))⟩] [0, 16, 17, 18])
       (.seq
        (.cond (.t 18)
         .skip
         (.exit 0))
        (.block 1
         (.seq
          (.reg 5 [⟨(some 19), none, (.q (.ext 2 (.t 17)))⟩, ⟨(some 4), none, (.q (.mov (.t 19)))⟩] [0, 4, 16])
          (.seq
           (.reg 6 [⟨(some 20), none, (.q (.mov (.t 4)))⟩, ⟨(some 21), none, (.q (.bin .gtr (.t 20) (.c (.int .i32 126))))⟩, ⟨(some 22), none, (.q (.mov (.t 21)))⟩, ⟨(some 23), (some ⟨22, false⟩), (.q (.mov (.t 4)))⟩, ⟨(some 24), (some ⟨22, false⟩), (.q (.conv .u8 (.t 23)))⟩, ⟨(some 25), (some ⟨22, false⟩), (.call 135 [(.c (.str [97, 98, 99, 100, 101, 102, 103, 104, 105, 106, 107, 108, 109, 110, 111, 112, 113, 114, 115, 116, 117, 118, 119, 120, 121, 122, 65, 66, 67, 68, 69, 70, 71, 72, 73, 74, 75, 76, 77, 78, 79, 80, 81, 82, 83, 84, 85, 86, 87, 88, 89, 90, 48, 49, 50, 51, 52, 53, 54, 55, 56, 57, 46, 95, 43, 45, 47, 58, 64, 126, 94])), (.t 24)])⟩, ⟨(some 26), (some ⟨22, false⟩), (.q (.bin .lss (.t 25) (.c (.int .i64 0))))⟩, ⟨(some 27), none, (.q (.pick (.t 22) (.c (.bool true)) (.t 26)))⟩] [0, 16, 27])
           (.cond (.t 27)
            (.seq
            (.reg 7 [⟨(some 2), none, (.q (.mov (.c (.bool false))))⟩] [2])
            .ret)
            .skip)))))))))
   (.seq
    (.seq
     (.reg 8 [⟨(some 28), none, (.q (.load (some 7) (.g 0)))⟩, ⟨(some 29), none, (.q (.mov (.c (.int .i64 0))))⟩] [0, 28, 29])
     (.block 2
      (.loop
       (.seq
        (.reg 9 [⟨(some 30), none, (.q (.bin .lss (.t 29) (.c (.int .i64 7))))⟩] [0, 28, 29, 30])
        (.seq
         (.cond (.t 30)
          .skip
          (.exit 2))
         (.seq
          (.block 3
           (.seq
            (.reg 10 [⟨(some 31), none, (.q (.idx none 7 1 (.t 28) (.t 29)))⟩, ⟨(some 6), none, (.q (.mov (.t 31)))⟩] [0, 6, 28, 29])
            (.seq
            (.reg 11 [⟨(some 32), none, (.q (.mov (.t 0)))⟩, ⟨(some 33), none, (.q (.mov (.t 6)))⟩, ⟨(some 34), none, (.q (.bin .eql (.t 32) (.t 33)))⟩] [0, 28, 29, 34])
            (.cond (.t 34)
            (.seq
            (.reg 12 [⟨(some 2), none, (.q (.mov (.c (.bool false))))⟩] [2])
            .ret)
            .skip))))
          (.reg 13 [⟨(some 35), none, (.q (.bin .add (.t 29) (.c (.int .i64 1))))⟩, ⟨(some 29), none, (.q (.mov (.t 35)))⟩] [0, 28, 29])))))))
    (.seq
     (.reg 14 [⟨(some 2), none, (.q (.mov (.c (.bool true))))⟩] [2])
     .ret)))))
theorem fok69 : FOK Tryz.prog 69 (36, ic69, [(.t 2)]) := .mk (pf := []) (an := [(0, [0]), (1, [0, 14]), (2, [2]), (3, [0, 16]), (4, [0, 16, 17, 18]), (5, [0, 4, 16]), (6, [0, 16, 27]), (7, [2]), (8, [0, 28, 29]), (9, [0, 28, 29, 30]), (10, [0, 6, 28, 29]), (11, [0, 28, 29, 34]), (12, [2]), (13, [0, 28, 29]), (14, [2])]) (by kernel_rfl) (fnOK_of Tryz.func69 (by kernel_rfl) (by kernel_rfl) (by kernel_rfl))
def ic70 : IC :=
(.seq
 (.reg 0 [⟨(some 2), none, (.q (.mov (.c (.bool false))))⟩] [0])
 (.seq
  (.reg 1 [⟨(some 3), none, (.q (.mov (.t 0)))⟩, ⟨(some 4), none, (.q (.bin .eql (.t 3) (.c (.int .u8 0))))⟩, ⟨(some 5), none, (.q (.mov (.t 4)))⟩, ⟨(some 6), (some ⟨5, false⟩), (.q (.mov (.t 0)))⟩, ⟨(some 7), (some ⟨5, false⟩), (.call 136 [(.t 6)])⟩, ⟨(some 8), (some ⟨5, false⟩), (.q (.bin .neq (.t 7) (.c (.str []))))⟩, ⟨(some 9), none, (.q (.pick (.t 5) (.c (.bool true)) (.t 8)))⟩, ⟨(some 2), none, (.q (.mov (.t 9)))⟩] [2])
  .ret))
theorem fok70 : FOK Tryz.prog 70 (10, ic70, [(.t 2)]) := .mk (pf := []) (an := [(0, [0]), (1, [2])]) (by kernel_rfl) (fnOK_of Tryz.func70 (by kernel_rfl) (by kernel_rfl) (by kernel_rfl))
def ic71 : IC :=
(.seq
 (.reg 0 [⟨(some 2), none, (.q (.mov (.c (.bool false))))⟩] [0])
 (.seq
  (.reg 1 [⟨(some 3), none, (.q (.mov (.t 0)))⟩, ⟨(some 4), none, (.call 69 [(.t 3)])⟩, ⟨(some 5), none, (.q (.mov (.t 4)))⟩, ⟨(some 6), (some ⟨5, true⟩), (.q (.mov (.t 0)))⟩, ⟨(some 7), (some ⟨5, true⟩), (.call 137 [(.t 6), (.c (.str [47]))])⟩, ⟨(some 8), none, (.q (.pick (.t 5) (.t 7) (.c (.bool false))))⟩, ⟨(some 2), none, (.q (.mov (.t 8)))⟩] [2])
  .ret))
theorem fok71 : FOK Tryz.prog 71 (9, ic71, [(.t 2)]) := .mk (pf := []) (an := [(0, [0]), (1, [2])]) (by kernel_rfl) (fnOK_of Tryz.func71 (by kernel_rfl) (by kernel_rfl) (by kernel_rfl))
def ic72 : IC :=
(.seq
 (.reg 0 [⟨(some 2), none, (.boxt (.t 0))⟩, ⟨(some 4), none, (.q (.mov (.c (.bool false))))⟩] [1, 2])
 (.seq
  (.reg 1 [⟨(some 5), none, (.q (.faddr 0 (.t 2)))⟩, ⟨(some 6), none, (.q (.load none (.t 5)))⟩, ⟨(some 7), none, (.q (.bin .geq (.t 6) (.c (.int .i64 0))))⟩, ⟨(some 8), none, (.q (.mov (.t 7)))⟩, ⟨(some 9), (some ⟨8, true⟩), (.q (.faddr 0 (.t 2)))⟩, ⟨(some 10), (some ⟨8, true⟩), (.q (.load none (.t 9)))⟩, ⟨(some 11), (some ⟨8, true⟩), (.q (.bin .leq (.t 10) (.c (.int .i64 2147483647))))⟩, ⟨(some 12), none, (.q (.pick (.t 8) (.t 11) (.c (.bool false))))⟩, ⟨(some 13), none, (.q (.mov (.t 12)))⟩, ⟨(some 14), (some ⟨13, true⟩), (.q (.faddr 1 (.t 2)))⟩, ⟨(some 15), (some ⟨13, true⟩), (.q (.load none (.t 14)))⟩, ⟨(some 16), (some ⟨13, true⟩), (.call 138 [(.t 15)])⟩, ⟨(some 17), none, (.q (.pick (.t 13) (.t 16) (.c (.bool false))))⟩, ⟨(some 18), none, (.q (.mov (.t 17)))⟩, ⟨(some 19), (some ⟨18, true⟩), (.q (.faddr 2 (.t 2)))⟩, ⟨(some 20), (some ⟨18, true⟩), (.q (.load none (.t 19)))⟩, ⟨(some 21), (some ⟨18, true⟩), (.call 138 [(.t 20)])⟩, ⟨(some 22), (some ⟨18, true⟩), (.q (.mov (.t 21)))⟩, ⟨(some 23), (some ⟨22, false⟩), (.q (.mov (.t 1)))⟩, ⟨(some 24), (some ⟨22, false⟩), (.q (.mov (.t 23)))⟩, ⟨(some 25), (some ⟨24, true⟩), (.q (.faddr 2 (.t 2)))⟩, ⟨(some 26), (some ⟨24, true⟩), (.q (.load none (.t 25)))⟩, ⟨(some 27), (some ⟨24, true⟩), (.q (.bin .eql (.t 26) (.c (.str []))))⟩, ⟨(some 28), (some ⟨22, false⟩), (.q (.pick (.t 24) (.t 27) (.c (.bool false))))⟩, ⟨(some 29), (some ⟨18, true⟩), (.q (.pick (.t 22) (.c (.bool true)) (.t 28)))⟩, ⟨(some 30), none, (.q (.pick (.t 18) (.t 29) (.c (.bool false))))⟩, ⟨(some 4), none, (.q (.mov (.t 30)))⟩] [4])
  .ret))
theorem fok72 : FOK Tryz.prog 72 (31, ic72, [(.t 4)]) := .mk (pf := [1000002]) (an := [(0, [1, 2]), (1, [4])]) (by kernel_rfl) (fnOK_of Tryz.func72 (by kernel_rfl) (by kernel_rfl) (by kernel_rfl))
def ic73 : IC :=
 (.seq
 (.reg 0 [oM 4 (cI 0)] [0, 1])
 (.seq
 (.seq
 (.reg 1 [oM 6 0, oQ 7 (.len 0 6), oM 8 (cI 0)] [0, 1, 7, 8])
 (.block 0
 (.loop
 (.seq
 (.reg 2 [oQ 9 (.bin .lss 8 7)] [0, 1, 7, 8, 9])
 (.seq
 (.cond 9
 .skip
 (.exit 0))
 (.seq
 (.block 1
 (.seq
 (.reg 3 [oM 10 8, oM 5 10] [0, 1, 5, 7, 8])
 (.seq
 (.reg 4 [oM 11 1, oM 12 0, oM 13 5, oQ 14 (.iaddr 2 12 13), oQ 15 (.load (some 2) 14), oK 16 (.callv 11 [15])] [0, 1, 5, 7, 8, 16])
 (.cond 16
 (.seq
 (.reg 5 [oM 17 5, oM 4 17] [4])
 .ret)
 .skip))))
 (.reg 6 [oQ 18 (.bin .add 8 (cI 1)), oM 8 18] [0, 1, 7, 8])))))))
 (.seq
 (.reg 7 [oM 4 (cI (-1))] [4])
 .ret)))
theorem fok73 : FOK Tryz.prog 73 (19, ic73, [(.t 4)]) := fokA [2000000] Tryz.func73 (by kernel_rfl) (by kernel_rfl) (by kernel_rfl) (by kernel_rfl)
def ic74 : IC :=
(.seq
 (.reg 0 [⟨(some 1), none, (.boxt (.t 0))⟩, ⟨(some 2), none, (.q (.mov (.c .nilmap)))⟩] [1])
 (.seq
  (.reg 1 [⟨(some 8), none, .mkmap⟩, ⟨(some 9), none, (.q (.faddr 0 (.t 1)))⟩, ⟨(some 10), none, (.q (.load none (.t 9)))⟩, ⟨(some 11), none, (.q (.bld [] []))⟩, ⟨none, none, (.mupd 2 (.t 8) (.t 10) (.t 11))⟩, ⟨(some 12), none, (.q (.mov (.t 8)))⟩, ⟨(some 3), none, (.q (.mov (.t 12)))⟩] [1, 3])
  (.seq
   (.seq
    (.reg 2 [⟨(some 13), none, (.q (.faddr 6 (.t 1)))⟩, ⟨(some 14), none, (.q (.load none (.t 13)))⟩, ⟨(some 15), none, (.q (.len 0 (.t 14)))⟩, ⟨(some 16), none, (.q (.mov (.c (.int .i64 0))))⟩] [1, 3, 14, 15, 16])
    (.block 0
     (.loop
      (.seq
       (.reg 3 [⟨(some 17), none, (.q (.bin .lss (.t 16) (.t 15)))⟩] [1, 3, 14, 15, 16, 17])
       (.seq
        (.cond (.t 17)
         .skip
         (.exit 0))
        (.seq
         (.block 1
          (.seq
           (.reg 4 [⟨(some 18), none, (.q (.iaddr 5 (.t 14) (.t 16)))⟩, ⟨(some 19), none, (.q (.load (some 5) (.t 18)))⟩, ⟨(some 5), none, (.alloc [(.str []), (.int .u8 0), (.int .i64 0), (.str []), (.str [])])⟩, ⟨none, none, (.store 5 (.t 5) (.t 19))⟩] [1, 3, 5, 14, 15, 16])
           (.reg 5 [⟨(some 20), none, (.q (.mov (.t 3)))⟩, ⟨(some 21), none, (.q (.faddr 0 (.t 5)))⟩, ⟨(some 22), none, (.q (.load none (.t 21)))⟩, ⟨(some 23), none, (.q (.bld [] []))⟩, ⟨none, none, (.mupd 2 (.t 20) (.t 22) (.t 23))⟩] [1, 3, 14, 15, 16])))
         (.reg 6 [⟨(some 24), none, (.q (.bin .add (.t 16) (.c (.int .i64 1))))⟩, ⟨(some 16), none, (.q (.mov (.t 24)))⟩] [1, 3, 14, 15, 16])))))))
   (.seq
    (.seq
     (.reg 7 [⟨(some 25), none, (.q (.faddr 14 (.t 1)))⟩, ⟨(some 26), none, (.q (.load none (.t 25)))⟩, ⟨(some 27), none, (.q (.len 0 (.t 26)))⟩, ⟨(some 28), none, (.q (.mov (.c (.int .i64 0))))⟩] [3, 26, 27, 28])
     (.block 2
      (.loop
       (.seq
        (.reg 8 [⟨(some 29), none, (.q (.bin .lss (.t 28) (.t 27)))⟩] [3, 26, 27, 28, 29])
        (.seq
         (.cond (.t 29)
          .skip
          (.exit 2))
         (.seq
          (.block 3
           (.seq
            (.reg 9 [⟨(some 30), none, (.q (.iaddr 1 (.t 26) (.t 28)))⟩, ⟨(some 31), none, (.q (.load none (.t 30)))⟩, ⟨(some 7), none, (.q (.mov (.t 31)))⟩] [3, 7, 26, 27, 28])
            (.reg 10 [⟨(some 32), none, (.q (.mov (.t 3)))⟩, ⟨(some 33), none, (.q (.mov (.t 7)))⟩, ⟨(some 34), none, (.q (.bld [] []))⟩, ⟨none, none, (.mupd 2 (.t 32) (.t 33) (.t 34))⟩] [3, 26, 27, 28])))
          (.reg 11 [⟨(some 35), none, (.q (.bin .add (.t 28) (.c (.int .i64 1))))⟩, ⟨(some 28), none, (.q (.mov (.t 35)))⟩] [3, 26, 27, 28])))))))
    (.seq
     (.reg 12 [⟨(some 36), none, (.q (.mov (.t 3)))⟩, ⟨(some 2), none, (.q (.mov (.t 36)))⟩] [2])
     .ret)))))
theorem fok74 : FOK Tryz.prog 74 (37, ic74, [(.t 2)]) := .mk (pf := [1000001]) (an := [(0, [1]), (1, [1, 3]), (2, [1, 3, 14, 15, 16]), (3, [1, 3, 14, 15, 16, 17]), (4, [1, 3, 5, 14, 15, 16]), (5, [1, 3, 14, 15, 16]), (6, [1, 3, 14, 15, 16]), (7, [3, 26, 27, 28]), (8, [3, 26, 27, 28, 29]), (9, [3, 7, 26, 27, 28]), (10, [3, 26, 27, 28]), (11, [3, 26, 27, 28]), (12, [2])]) (by kernel_rfl) (fnOK_of Tryz.func74 (by kernel_rfl) (by kernel_rfl) (by kernel_rfl))
def ic75 : IC :=
(.seq
 (.reg 0 [⟨(some 4), none, (.q (.mov (.c (.bool false))))⟩] [0, 1])
 (.seq
  (.reg 1 [⟨(some 5), none, (.q (.mov (.t 0)))⟩, ⟨(some 6), none, (.q (.mov (.t 1)))⟩, ⟨(some 7), none, (.call 139 [(.t 5), (.t 6)])⟩, ⟨(some 8), none, (.q (.bin .geq (.t 7) (.c (.int .i64 0))))⟩, ⟨(some 4), none, (.q (.mov (.t 8)))⟩] [4])
  .ret))
theorem fok75 : FOK Tryz.prog 75 (9, ic75, [(.t 4)]) := .mk (pf := []) (an := [(0, [0, 1]), (1, [4])]) (by kernel_rfl) (fnOK_of Tryz.func75 (by kernel_rfl) (by kernel_rfl) (by kernel_rfl))
def ic76 : IC :=
 (.seq
 (.reg 0 [oM 2 (.c .nilslice)] [0])
 (.seq
 (.seq
 (.reg 1 [oM 3 0, oQ 4 (.isnil (.slice 58) false 3)] [0, 4])
 (.cond 4
 (.seq
 (.reg 2 [oM 2 (.c .nilslice)] [2])
 .ret)
 .skip))
 (.seq
 (.reg 3 [oK 5 (.bsl 6 0 [(zU 0), (.str []), (zU 0), (zI 0), (.str []), (.str [])] []), oM 6 0, oK 7 (.app 6 5 6), oM 2 7] [2])
 .ret)))
theorem fok76 : FOK Tryz.prog 76 (8, ic76, [(.t 2)]) := fokA [2000000] Tryz.func76 (by kernel_rfl) (by kernel_rfl) (by kernel_rfl) (by kernel_rfl)
def ic77 : IC :=
 (.seq
 (.reg 0 [oM 2 (.c .nilslice)] [0])
 (.seq
 (.seq
 (.reg 1 [oM 3 0, oQ 4 (.isnil (.slice 66) false 3)] [0, 4])
 (.cond 4
 (.seq
 (.reg 2 [oM 2 (.c .nilslice)] [2])
 .ret)
 .skip))
 (.seq
 (.reg 3 [oK 5 (.bsl 2 0 [(zU 0), (zI 0)] []), oM 6 0, oK 7 (.app 2 5 6), oM 2 7] [2])
 .ret)))
theorem fok77 : FOK Tryz.prog 77 (8, ic77, [(.t 2)]) := fokA [2000000] Tryz.func77 (by kernel_rfl) (by kernel_rfl) (by kernel_rfl) (by kernel_rfl)
def ic78 : IC :=
(.seq
 (.reg 0 [⟨(some 4), none, (.q (.mov (.c (.bool false))))⟩] [0, 1])
 (.seq
  (.reg 1 [⟨(some 5), none, (.q (.mov (.t 1)))⟩, ⟨(some 6), none, (.q (.bin .geq (.t 5) (.c (.int .i64 0))))⟩, ⟨(some 7), none, (.q (.mov (.t 6)))⟩, ⟨(some 8), (some ⟨7, true⟩), (.q (.mov (.t 1)))⟩, ⟨(some 9), (some ⟨7, true⟩), (.q (.mov (.t 0)))⟩, ⟨(some 10), (some ⟨7, true⟩), (.q (.len 0 (.t 9)))⟩, ⟨(some 11), (some ⟨7, true⟩), (.q (.bin .lss (.t 8) (.t 10)))⟩, ⟨(some 12), none, (.q (.pick (.t 7) (.t 11) (.c (.bool false))))⟩, ⟨(some 4), none, (.q (.mov (.t 12)))⟩] [4])
  .ret))
theorem fok78 : FOK Tryz.prog 78 (13, ic78, [(.t 4)]) := .mk (pf := []) (an := [(0, [0, 1]), (1, [4])]) (by kernel_rfl) (fnOK_of Tryz.func78 (by kernel_rfl) (by kernel_rfl) (by kernel_rfl))
def ic79 : IC :=
 (.seq
 (.seq
 (.reg 0 [oM 11 0, oQ 12 (.nchk 11), oQ 13 (.faddr 2 12), oQ 14 (.load none 13), oQ 15 (.len 0 14), oM 16 (cI 0)] [0, 14, 15, 16])
 (.block 0
 (.loop
 (.seq
 (.reg 1 [oQ 17 (.bin .lss 16 15)] [0, 14, 15, 16, 17])
 (.seq
 (.cond 17
 .skip
 (.exit 0))
 (.seq
 (.block 1
 (.seq
 (.reg 2 [oM 18 16, oQ 19 (.iaddr 15 14 16), oQ 20 (.load (some 15) 19), oK 3 (.alloc [(.str []), (zI 0), (.str []), (.str []), (zU 0), (.str []), .nilslice, .nilslice, .nilslice, .nilslice, .nilslice, .nilslice, .nilslice, .nilslice, .nilslice]), oM 2 18, oN (.store 15 3 20)] [0, 2, 3, 14, 15, 16])
 (.seq
 (.seq
 (.reg 3 [oM 21 0, oQ 22 (.nchk 21), oQ 23 (.faddr 0 22), oQ 24 (.load none 23), oM 25 2, oK 26 (.call 140 [24, 25]), oQ 27 (.not 26)] [0, 2, 3, 14, 15, 16, 27])
 (.cond 27
 (.reg 4 [oM 28 0, oM 29 2, oK 30 (.call 141 [28, (.c (zU 1)), 29, (cI 0)])] [0, 2, 3, 14, 15, 16])
 .skip))
 (.seq
 (.reg 5 [oQ 31 (.faddr 7 3), oQ 32 (.load none 31), oQ 33 (.len 0 32), oQ 34 (.bld [(zU 0), (zI 0)] [⟨0, ⟨1, (.c (zU 2))⟩⟩, ⟨1, ⟨1, 33⟩⟩]), oQ 35 (.faddr 8 3), oQ 36 (.load none 35), oQ 37 (.len 0 36), oQ 38 (.bld [(zU 0), (zI 0)] [⟨0, ⟨1, (.c (zU 3))⟩⟩, ⟨1, ⟨1, 37⟩⟩]), oQ 39 (.faddr 9 3), oQ 40 (.load none 39), oQ 41 (.len 0 40), oQ 42 (.bld [(zU 0), (zI 0)] [⟨0, ⟨1, (.c (zU 4))⟩⟩, ⟨1, ⟨1, 41⟩⟩]), oQ 43 (.bld [(zU 0), (zI 0), (zU 0), (zI 0), (zU 0), (zI 0)] [⟨0, ⟨2, 34⟩⟩, ⟨2, ⟨2, 38⟩⟩, ⟨4, ⟨2, 42⟩⟩]), oM 44 (cI 0)] [0, 2, 14, 15, 16, 43, 44])
 (.block 2
 (.loop
 (.seq
 (.reg 6 [oQ 45 (.bin .lss 44 (cI 3))] [0, 2, 14, 15, 16, 43, 44, 45])
 (.seq
 (.cond 45
 .skip
 (.exit 2))
 (.seq
 (.block 3
 (.seq
 (.reg 7 [oQ 46 (.idx (some 2) 3 2 43 44), oK 5 (.alloc [(zU 0), (zI 0)]), oN (.store 2 5 46)] [0, 2, 5, 14, 15, 16, 43, 44])
 (.seq
 (.reg 8 [oQ 47 (.faddr 1 5), oQ 48 (.load none 47), oM 49 (cI 0)] [0, 2, 5, 14, 15, 16, 43, 44, 48, 49])
 (.block 4
 (.loop
 (.seq
 (.reg 9 [oQ 50 (.bin .lss 49 48)] [0, 2, 5, 14, 15, 16, 43, 44, 48, 49, 50])
 (.seq
 (.cond 50
 .skip
 (.exit 4))
 (.seq
 (.block 5
 (.seq
 (.reg 10 [oM 51 49, oM 6 51] [0, 2, 5, 6, 14, 15, 16, 43, 44, 48, 49])
 (.reg 11 [oM 52 0, oQ 53 (.faddr 0 5), oQ 54 (.load none 53), oM 55 2, oM 56 6, oK 57 (.call 141 [52, 54, 55, 56])] [0, 2, 5, 14, 15, 16, 43, 44, 48, 49])))
 (.reg 12 [oQ 58 (.bin .add 49 (cI 1)), oM 49 58] [0, 2, 5, 14, 15, 16, 43, 44, 48, 49])))))))))
 (.reg 13 [oQ 59 (.bin .add 44 (cI 1)), oM 44 59] [0, 2, 14, 15, 16, 43, 44]))))))))))
 (.reg 14 [oQ 60 (.bin .add 16 (cI 1)), oM 16 60] [0, 14, 15, 16])))))))
 (.seq
 (.seq
 (.reg 15 [oM 61 0, oQ 62 (.nchk 61), oQ 63 (.faddr 2 62), oQ 64 (.load none 63), oQ 65 (.len 0 64), oM 66 (cI 0)] [0, 65, 66])
 (.block 6
 (.loop
 (.seq
 (.reg 16 [oQ 67 (.bin .lss 66 65)] [0, 65, 66, 67])
 (.seq
 (.cond 67
 .skip
 (.exit 6))
 (.seq
 (.block 7
 (.seq
 (.reg 17 [oM 68 66, oM 7 68] [0, 7, 65, 66])
 (.seq
 (.reg 18 [oM 69 7, oQ 70 (.bin .add 69 (cI 1)), oM 8 70] [0, 7, 8, 65, 66])
 (.block 8
 (.loop
 (.seq
 (.seq
 (.reg 19 [oM 71 8, oM 72 0, oQ 73 (.nchk 72), oQ 74 (.faddr 2 73), oQ 75 (.load none 74), oQ 76 (.len 0 75), oQ 77 (.bin .lss 71 76)] [0, 7, 8, 65, 66, 77])
 (.cond 77
 .skip
 (.exit 8)))
 (.seq
 (.block 9
 (.seq
 (.reg 21 [oM 80 0, oQ 81 (.nchk 80), oQ 82 (.faddr 0 81), oQ 83 (.load none 82), oM 84 7, oM 85 8, oK 86 (.call 142 [83, 84, 85])] [0, 7, 8, 65, 66, 86])
 (.cond 86
 (.reg 22 [oM 87 0, oM 88 7, oM 89 8, oK 90 (.call 141 [87, (.c (zU 5)), 88, 89])] [0, 7, 8, 65, 66])
 .skip)))
 (.reg 20 [oM 78 8, oQ 79 (.bin .add 78 (cI 1)), oM 8 79] [0, 7, 8, 65, 66]))))))))
 (.reg 23 [oQ 91 (.bin .add 66 (cI 1)), oM 66 91] [0, 65, 66])))))))
 (.seq
 (.seq
 (.reg 24 [oM 92 0, oQ 93 (.nchk 92), oQ 94 (.faddr 0 93), oQ 95 (.load none 94), oK 96 (.call 39 [95]), oK 97 (.call 32 [96]), oM 98 (cI 0)] [0, 97, 98])
 (.block 10
 (.loop
 (.seq
 (.reg 25 [oQ 99 (.bin .lss 98 97)] [0, 97, 98, 99])
 (.seq
 (.cond 99
 .skip
 (.exit 10))
 (.seq
 (.block 11
 (.seq
 (.reg 26 [oM 100 98, oM 9 100] [0, 9, 97, 98])
 (.seq
 (.reg 27 [oM 101 0, oQ 102 (.nchk 101), oQ 103 (.faddr 0 102), oQ 104 (.load none 103), oM 105 9, oK 106 (.call 143 [104, 105]), oQ 107 (.not 106)] [0, 9, 97, 98, 107])
 (.cond 107
 (.reg 28 [oM 108 0, oM 109 9, oK 110 (.call 141 [108, (.c (zU 6)), 109, (cI 0)])] [0, 97, 98])
 .skip))))
 (.reg 29 [oQ 111 (.bin .add 98 (cI 1)), oM 98 111] [0, 97, 98])))))))
 (.seq
 (.reg 30 [oM 112 0, oQ 113 (.nchk 112), oQ 114 (.faddr 0 113), oQ 115 (.load none 114), oK 116 (.call 87 [115]), oQ 117 (.fld none 2 116), oQ 118 (.len 0 117), oM 119 (cI 0)] [0, 118, 119])
 (.block 12
 (.loop
 (.seq
 (.reg 31 [oQ 120 (.bin .lss 119 118)] [0, 118, 119, 120])
 (.seq
 (.cond 120
 .skip
 (.exit 12))
 (.seq
 (.block 13
 (.seq
 (.reg 32 [oM 121 119, oM 10 121] [0, 10, 118, 119])
 (.seq
 (.reg 33 [oM 122 0, oQ 123 (.nchk 122), oQ 124 (.faddr 0 123), oQ 125 (.load none 124), oM 126 10, oK 127 (.call 144 [125, 126]), oQ 128 (.not 127)] [0, 10, 118, 119, 128])
 (.cond 128
 (.reg 34 [oM 129 0, oM 130 10, oK 131 (.call 141 [129, (.c (zU 7)), 130, (cI 0)])] [0, 118, 119])
 .skip))))
 (.reg 35 [oQ 132 (.bin .add 119 (cI 1)), oM 119 132] [0, 118, 119]))))))))))
theorem fok79 : FOK Tryz.prog 79 (133, ic79, []) := fokA [2000000] Tryz.func79 (by kernel_rfl) (by kernel_rfl) (by kernel_rfl) (by kernel_rfl)
def ic80 : IC :=
 (.seq
 (.reg 0 [oM 2 (.c .nilslice)] [0])
 (.seq
 (.seq
 (.reg 1 [oM 3 0, oQ 4 (.isnil (.slice 118) false 3)] [0, 4])
 (.cond 4
 (.seq
 (.reg 2 [oM 2 (.c .nilslice)] [2])
 .ret)
 .skip))
 (.seq
 (.reg 3 [oK 5 (.bsl 3 0 [(zU 0), (zI 0), (zI 0)] []), oM 6 0, oK 7 (.app 3 5 6), oM 2 7] [2])
 .ret)))
theorem fok80 : FOK Tryz.prog 80 (8, ic80, [(.t 2)]) := fokA [2000000] Tryz.func80 (by kernel_rfl) (by kernel_rfl) (by kernel_rfl) (by kernel_rfl)
def ic81 : IC :=
 (.seq
 (.reg 0 [oM 2 (.c .nilslice)] [0])
 (.seq
 (.reg 1 [oM 3 (.c .nilslice)] [0, 3])
 (.seq
 (.seq
 (.reg 2 [oM 6 0, oQ 7 (.len 0 6), oM 8 (cI 0)] [3, 6, 7, 8])
 (.block 0
 (.loop
 (.seq
 (.reg 3 [oQ 9 (.bin .lss 8 7)] [3, 6, 7, 8, 9])
 (.seq
 (.cond 9
 .skip
 (.exit 0))
 (.seq
 (.block 1
 (.seq
 (.reg 4 [oQ 10 (.iaddr 1 6 8), oQ 11 (.load none 10), oM 5 11] [3, 5, 6, 7, 8])
 (.reg 5 [oM 12 3, oM 13 5, oQ 14 (.bin .add 13 (cI 1)), oQ 15 (.neg 14), oK 16 (.bslt 1 1 [(zI 0)] [⟨0, ⟨1, 15⟩⟩]), oK 17 (.app 1 12 16), oM 3 17] [3, 6, 7, 8])))
 (.reg 6 [oQ 18 (.bin .add 8 (cI 1)), oM 8 18] [3, 6, 7, 8])))))))
 (.seq
 (.reg 7 [oM 19 3, oM 2 19] [2])
 .ret))))
theorem fok81 : FOK Tryz.prog 81 (20, ic81, [(.t 2)]) := fokA [1000016, 2000000] Tryz.func81 (by kernel_rfl) (by kernel_rfl) (by kernel_rfl) (by kernel_rfl)
def ic82 : IC :=
 (.seq
 (.reg 0 [oK 4 (.boxt 1), oM 6 (cI 0), oM 7 (cI 0)] [0, 2, 4])
 (.seq
 (.block 0
 (.seq
 (.reg 1 [oM 9 0, oQ 10 (.isnil (.pointer 168) false 9), oM 8 10] [0, 2, 4, 8])
 (.cond 8
 (.seq
 (.reg 2 [oM 6 (cI 0), oM 7 (cI 2)] [6, 7])
 .ret)
 (.seq
 (.reg 3 [oQ 12 (.load (some 7) 4), oK 13 (.call 130 [12, (.c (zU 1))]), oQ 14 (.bin .neq 13 (cI 0)), oM 11 14] [0, 2, 4, 11])
 (.cond 11
 (.seq
 (.reg 4 [oM 6 (cI 0), oM 7 (cI 4)] [6, 7])
 .ret)
 (.seq
 (.oreg 5 [(0, oM 16 0, 0), (1, oQ 17 (.nchk 16), 0), (2, oQ 18 (.faddr 2 17), 0), (3, oQ 19 (.load none 18), 0), (4, oQ 20 (.load (some 7) 4), 0), (5, oK 21 (.call 145 [20]), 8), (6, oQ 22 (.bin .add 19 21), 0), (7, oQ 23 (.bin .gtr 22 (cI 1048576)), 0), (8, oM 15 23, 0)] [0, 2, 4, 15])
 (.cond 15
 (.seq
 (.reg 6 [oM 6 (cI 0), oM 7 (cI 40)] [6, 7])
 .ret)
 .skip)))))))
 (.seq
 (.reg 7 [oM 24 0, oQ 25 (.load (some 7) 4), oM 26 2, oK 27 (.call 146 [24, 25, 26]), oM 6 27, oM 7 (cI 0)] [6, 7])
 .ret)))
theorem fok82 : FOK Tryz.prog 82 (28, ic82, [(.t 6), (.t 7)]) := fokA [1000004, 2000000] Tryz.func82 (by kernel_rfl) (by kernel_rfl) (by kernel_rfl) (by kernel_rfl)
def ic83 : IC :=
 (.seq
 (.reg 0 [oM 2 (.c .nilptr)] [0])
 (.seq
 (.seq
 (.reg 1 [oM 3 0, oQ 4 (.isnil (.pointer 101) false 3)] [0, 4])
 (.cond 4
 (.seq
 (.reg 2 [oM 2 (.c .nilptr)] [2])
 .ret)
 .skip))
 (.seq
 (.reg 3 [oM 5 0, oQ 6 (.nchk 5), oQ 7 (.faddr 1 6), oQ 8 (.load none 7), oM 2 8] [2])
 .ret)))
theorem fok83 : FOK Tryz.prog 83 (9, ic83, [(.t 2)]) := fokA [2000000] Tryz.func83 (by kernel_rfl) (by kernel_rfl) (by kernel_rfl) (by kernel_rfl)
def ic84 : IC :=
 (.seq
 (.reg 0 [oK 3 (.boxt 1), oM 4 (.c .nilslice)] [0, 3])
 (.seq
 (.seq
 (.reg 1 [oM 5 0, oQ 6 (.isnil (.pointer 156) false 5)] [0, 3, 6])
 (.cond 6
 (.seq
 (.reg 2 [oM 4 (.c .nilslice)] [4])
 .ret)
 .skip))
 (.seq
 (.dreg 3 [oM 7 0, oM 8 0, oQ 9 (.nchk 8), oQ 10 (.faddr 2 9), oQ 11 (.load none 10), oQ 12 (.faddr 0 3), oQ 13 (.load none 12), oQ 14 (.lkp 2 .nilslice false 11 13), oQ 15 (.mkf 148 [] [3]), oK 16 (.call 147 [7, 14, 15]), oM 4 16] false [4])
 .ret)))
theorem fok84 : FOK Tryz.prog 84 (17, ic84, [(.t 4)]) := fokA [1000003, 2000000] Tryz.func84 (by kernel_rfl) (by kernel_rfl) (by kernel_rfl) (by kernel_rfl)
def ic85 : IC :=
 (.seq
 (.reg 0 [oM 2 (.c .nilslice)] [0])
 (.seq
 (.reg 1 [oK 6 (.bsl 1 0 [(zI 0)] []), oM 3 6] [0, 3])
 (.seq
 (.seq
 (.reg 2 [oM 7 0, oQ 8 (.len 0 7), oM 9 (cI 0)] [3, 7, 8, 9])
 (.block 0
 (.loop
 (.seq
 (.reg 3 [oQ 10 (.bin .lss 9 8)] [3, 7, 8, 9, 10])
 (.seq
 (.cond 10
 .skip
 (.exit 0))
 (.seq
 (.block 1
 (.seq
 (.reg 4 [oQ 11 (.iaddr 1 7 9), oQ 12 (.load none 11), oM 5 12] [3, 5, 7, 8, 9])
 (.reg 5 [oM 13 3, oM 14 5, oQ 15 (.bin .add 14 (cI 1)), oK 16 (.bslt 1 1 [(zI 0)] [⟨0, ⟨1, 15⟩⟩]), oK 17 (.app 1 13 16), oM 3 17] [3, 7, 8, 9])))
 (.reg 6 [oQ 18 (.bin .add 9 (cI 1)), oM 9 18] [3, 7, 8, 9])))))))
 (.seq
 (.reg 7 [oM 19 3, oM 2 19] [2])
 .ret))))
theorem fok85 : FOK Tryz.prog 85 (20, ic85, [(.t 2)]) := fokA [1000016, 2000000] Tryz.func85 (by kernel_rfl) (by kernel_rfl) (by kernel_rfl) (by kernel_rfl)
def ic86 : IC :=
 (.seq
 (.reg 0 [oK 2 (.boxt 0), oM 4 (.c .nilslice)] [1, 2])
 (.seq
 (.seq
 (.reg 1 [oQ 12 (.load none 2), oM 13 1, oK 14 (.call 150 [12, 13]), oQ 15 (.not 14)] [1, 2, 15])
 (.cond 15
 (.seq
 (.reg 2 [oM 4 (.c .nilslice)] [4])
 .ret)
 .skip))
 (.seq
 (.reg 3 [oQ 16 (.load none 2), oQ 17 (.nchk 16), oQ 18 (.faddr 7 17), oQ 19 (.load none 18), oM 20 1, oQ 21 (.iaddr 15 19 20), oQ 22 (.load (some 15) 21), oK 5 (.alloc [(.str []), (zI 0), (.str []), (.str []), (zU 0), (.str []), .nilslice, .nilslice, .nilslice, .nilslice, .nilslice, .nilslice, .nilslice, .nilslice, .nilslice]), oN (.store 15 5 22)] [1, 2, 5])
 (.seq
 (.reg 4 [oQ 23 (.load none 2), oM 24 1, oK 25 (.call 151 [23, (.c (zU 3)), 24]), oM 26 25, gQ 27 26 false (.load none 2), gQ 28 26 false (.mov 1), gK 29 26 false (.call 152 [27, (.c (zU 4)), 28]), oQ 30 (.pick 26 (cB true) 29), oK 6 (.alloc [(.bool false)]), oN (.store 1 6 30)] [1, 2, 5, 6])
 (.seq
 (.reg 5 [oQ 31 (.load none 2), oM 32 1, oK 33 (.call 151 [31, (.c (zU 4)), 32]), oK 7 (.alloc [(.bool false)]), oN (.store 1 7 33)] [1, 2, 5, 6, 7])
 (.seq
 (.reg 6 [oQ 34 (.mkf 153 [] [5, 6, 7, 2]), oM 8 34] [1, 2, 8])
 (.seq
 (.reg 7 [oQ 35 (.load none 2), oQ 36 (.nchk 35), oQ 37 (.faddr 1 36), oQ 38 (.load none 37), oM 39 1, oK 40 (.call 156 [38, 39]), oM 9 40] [1, 2, 8, 9])
 (.seq
 (.seq
 (.reg 8 [oQ 41 (.load none 2), oQ 42 (.nchk 41), oQ 43 (.faddr 7 42), oQ 44 (.load none 43), oQ 45 (.len 0 44), oM 46 (cI 0)] [1, 8, 9, 44, 45, 46])
 (.block 0
 (.loop
 (.seq
 (.reg 9 [oQ 47 (.bin .lss 46 45)] [1, 8, 9, 44, 45, 46, 47])
 (.seq
 (.cond 47
 .skip
 (.exit 0))
 (.seq
 (.block 1
 (.seq
 (.reg 10 [oM 48 46, oQ 49 (.iaddr 15 44 46), oQ 50 (.load (some 15) 49), oK 11 (.alloc [(.str []), (zI 0), (.str []), (.str []), (zU 0), (.str []), .nilslice, .nilslice, .nilslice, .nilslice, .nilslice, .nilslice, .nilslice, .nilslice, .nilslice]), oM 10 48, oN (.store 15 11 50)] [1, 8, 9, 10, 11, 44, 45, 46])
 (.seq
 (.reg 11 [oM 51 10, oM 52 1, oQ 53 (.bin .eql 51 52), oM 54 53, gQ 55 54 false (.mov 8), gQ 56 54 false (.load (some 15) 11), gK 57 54 false (.callv 55 [56]), oQ 58 (.pick 54 (cB true) 57)] [1, 8, 9, 10, 44, 45, 46, 58])
 (.cond 58
 (.reg 12 [oM 59 9, oM 60 10, oK 61 (.bslt 1 1 [(zI 0)] [⟨0, ⟨1, 60⟩⟩]), oK 62 (.app 1 59 61), oM 9 62] [1, 8, 9, 44, 45, 46])
 .skip))))
 (.reg 13 [oQ 63 (.bin .add 46 (cI 1)), oM 46 63] [1, 8, 9, 44, 45, 46])))))))
 (.seq
 (.reg 14 [oM 64 9, oK 65 (.call 157 [64])] [9])
 (.seq
 (.reg 15 [oM 66 9, oK 67 (.call 158 [66]), oM 4 67] [4])
 .ret))))))))))
theorem fok86 : FOK Tryz.prog 86 (68, ic86, [(.t 4)]) := fokA [1000002, 1000061, 2000000] Tryz.func86 (by kernel_rfl) (by kernel_rfl) (by kernel_rfl) (by kernel_rfl)
def ic87 : IC :=
 (.seq
 (.reg 0 [oK 2 (.alloc [(zU 0), (.bool false), .nilslice, .nilslice, (zI 0)])] [0, 2])
 (.seq
 (.seq
 (.reg 1 [oM 3 0, oQ 4 (.isnil (.pointer 101) false 3)] [0, 2, 4])
 (.cond 4
 (.seq
 (.reg 2 [oQ 5 (.bld [(zU 0), (.bool false), .nilslice, .nilslice, (zI 0)] []), oN (.store 5 2 5)] [2])
 .ret)
 .skip))
 (.seq
 (.reg 3 [oM 6 0, oQ 7 (.nchk 6), oQ 8 (.faddr 2 7), oQ 9 (.load (some 5) 8), oK 10 (.call 34 [9]), oN (.store 5 2 10)] [2])
 .ret)))
theorem fok87 : FOK Tryz.prog 87 (11, ic87, [(.cell (some 5) 2)]) := fokA [2000000] Tryz.func87 (by kernel_rfl) (by kernel_rfl) (by kernel_rfl) (by kernel_rfl)
def ic88 : IC :=
 (.seq
 (.reg 0 [oK 2 (.boxt 0), oM 4 (.c .nilslice)] [1, 2])
 (.seq
 (.seq
 (.reg 1 [oQ 7 (.load none 2), oM 8 1, oK 9 (.call 159 [7, 8]), oQ 10 (.not 9)] [1, 2, 10])
 (.cond 10
 (.seq
 (.reg 2 [oM 4 (.c .nilslice)] [4])
 .ret)
 .skip))
 (.seq
 (.reg 3 [oQ 11 (.load none 2), oQ 12 (.nchk 11), oQ 13 (.faddr 2 12), oQ 14 (.faddr 2 13), oQ 15 (.load none 14), oM 16 1, oQ 17 (.iaddr 6 15 16), oQ 18 (.load (some 6) 17), oK 5 (.alloc [(zU 0), (.str []), (zU 0), (zI 0), (.str []), (.str [])]), oN (.store 6 5 18)] [2, 5])
 (.seq
 (.seq
 (.reg 4 [oQ 19 (.faddr 0 5), oQ 20 (.load none 19), oQ 21 (.bin .eql 20 (.c (zU 1)))] [2, 5, 21])
 (.cond 21
 (.seq
 (.dreg 5 [oQ 22 (.load none 2), oQ 23 (.nchk 22), oQ 24 (.faddr 1 23), oQ 25 (.load none 24), oQ 26 (.faddr 1 5), oQ 27 (.load (some 5) 26), oK 28 (.call 160 [25, 27]), oM 4 28] false [4])
 .ret)
 .skip))
 (.seq
 (.dreg 6 [oQ 29 (.load none 2), oQ 30 (.nchk 29), oQ 31 (.faddr 1 30), oQ 32 (.load none 31), oQ 33 (.faddr 1 5), oQ 34 (.load (some 5) 33), oK 35 (.call 84 [32, 34]), oM 6 35] false [2, 5, 6])
 (.seq
 (.seq
 (.reg 7 [oQ 36 (.faddr 0 5), oQ 37 (.load none 36), oQ 38 (.bin .eql 37 (.c (zU 2)))] [2, 6, 38])
 (.cond 38
 (.seq
 (.reg 8 [oM 39 6, oM 4 39] [4])
 .ret)
 .skip))
 (.seq
 (.reg 9 [oM 40 6, oQ 41 (.mkf 162 [] [2]), oK 42 (.call 161 [40, 41]), oM 4 42] [4])
 .ret)))))))
theorem fok88 : FOK Tryz.prog 88 (43, ic88, [(.t 4)]) := fokA [1000002, 2000000] Tryz.func88 (by kernel_rfl) (by kernel_rfl) (by kernel_rfl) (by kernel_rfl)
def ic89 : IC :=
 (.seq
 (.reg 0 [oK 2 (.boxt 0), oM 4 (.c .nilslice)] [1, 2])
 (.seq
 (.seq
 (.reg 1 [oQ 5 (.load none 2), oM 6 1, oK 7 (.call 150 [5, 6]), oQ 8 (.not 7)] [1, 2, 8])
 (.cond 8
 (.seq
 (.reg 2 [oM 4 (.c .nilslice)] [4])
 .ret)
 .skip))
 (.seq
 (.reg 3 [oQ 9 (.load none 2), oM 10 1, oK 11 (.call 86 [9, 10]), oQ 12 (.mkf 163 [] [2]), oK 13 (.call 161 [11, 12]), oM 4 13] [4])
 .ret)))
theorem fok89 : FOK Tryz.prog 89 (14, ic89, [(.t 4)]) := fokA [1000002, 2000000] Tryz.func89 (by kernel_rfl) (by kernel_rfl) (by kernel_rfl) (by kernel_rfl)
def ic90 : IC :=
 (.seq
 (.reg 0 [oK 1 (.boxt 0), oM 2 (.c .nilslice)] [1, 2])
 (.seq
 (.reg 1 [oK 3 (.alloc [.nilslice])] [1, 2, 3])
 (.seq
 (.seq
 (.reg 2 [oQ 5 (.load (some 7) 1), oK 6 (.call 164 [5])] [2, 3, 6])
 (.block 0
 (.rfunc 6 [7, 8]
 (.reg 3 [oK 4 (.alloc [(zU 0), (.str []), (zU 0), (zI 0), (.str []), (.str []), .nilslice]), oN (.store 7 4 7)] [3, 4])
 (.block 1
 (.seq
 (.reg 4 [oQ 9 (.faddr 0 4), oQ 10 (.load none 9), oQ 11 (.bin .eql 10 (.c (zU 1)))] [3, 4, 11])
 (.cond 11
 (.reg 5 [oQ 12 (.load none 3), oQ 13 (.faddr 1 4), oQ 14 (.load (some 5) 13), oK 15 (.bslt 5 1 [(.str []), (zU 0), (zI 0), (.str []), (.str [])] [⟨0, ⟨5, 14⟩⟩]), oK 16 (.app 5 12 15), oN (.store 1 3 16)] [])
 .skip))))))
 (.seq
 (.reg 6 [oQ 17 (.load none 3), oM 2 17] [2])
 .ret))))
theorem fok90 : FOK Tryz.prog 90 (18, ic90, [(.t 2)]) := fokA [1000001, 1000015, 2000000] Tryz.func90 (by kernel_rfl) (by kernel_rfl) (by kernel_rfl) (by kernel_rfl)
def ic91 : IC :=
(.seq
 (.reg 0 [⟨(some 4), none, (.q (.mov (.c (.bool false))))⟩] [0, 1])
 (.seq
  (.reg 1 [⟨(some 5), none, (.q (.mov (.t 0)))⟩, ⟨(some 6), none, (.q (.mov (.t 1)))⟩, ⟨(some 7), none, (.call 165 [(.t 5), (.t 6)])⟩, ⟨(some 8), none, (.q (.bin .geq (.t 7) (.c (.int .i64 0))))⟩, ⟨(some 4), none, (.q (.mov (.t 8)))⟩] [4])
  .ret))
theorem fok91 : FOK Tryz.prog 91 (9, ic91, [(.t 4)]) := .mk (pf := []) (an := [(0, [0, 1]), (1, [4])]) (by kernel_rfl) (fnOK_of Tryz.func91 (by kernel_rfl) (by kernel_rfl) (by kernel_rfl))
def ic92 : IC :=
 (.seq
 (.reg 0 [oK 2 (.boxt 0), oM 3 (cB false)] [1, 2])
 (.seq
 (.reg 1 [oQ 4 (.load (some 15) 1), oQ 5 (.load (some 5) 2), oK 6 (.call 93 [4, 5]), oM 3 6] [3])
 .ret))
theorem fok92 : FOK Tryz.prog 92 (7, ic92, [(.t 3)]) := fokA [1000002, 2000000] Tryz.func92 (by kernel_rfl) (by kernel_rfl) (by kernel_rfl) (by kernel_rfl)
def ic93 : IC :=
 (.seq
 (.reg 0 [oK 2 (.boxt 0), oK 3 (.boxt 1), oM 4 (cB false)] [2, 3])
 (.seq
 (.seq
 (.reg 1 [oQ 5 (.load (some 15) 2), oQ 6 (.load (some 5) 3), oK 7 (.call 149 [5, 6]), oM 8 7, gQ 9 8 false (.faddr 6 2), gQ 10 8 false (.load none 9), gQ 11 8 false (.mkf 166 [] [3]), gK 12 8 false (.call 91 [10, 11]), oQ 13 (.pick 8 (cB true) 12)] [2, 3, 13])
 (.cond 13
 (.seq
 (.reg 2 [oM 4 (cB true)] [4])
 .ret)
 .skip))
 (.seq
 (.reg 3 [oQ 14 (.faddr 1 3), oQ 15 (.load none 14), oQ 16 (.bin .eql 15 (.c (zU 0))), oM 17 16, gQ 18 17 true (.faddr 14 2), gQ 19 17 true (.load none 18), gQ 20 17 true (.faddr 0 3), gQ 21 17 true (.load none 20), gK 22 17 true (.call 168 [19, 21]), oQ 23 (.pick 17 22 (cB false)), oM 4 23] [4])
 .ret)))
theorem fok93 : FOK Tryz.prog 93 (24, ic93, [(.t 4)]) := fokA [1000002, 1000003, 2000000] Tryz.func93 (by kernel_rfl) (by kernel_rfl) (by kernel_rfl) (by kernel_rfl)
def ic94 : IC :=
(.seq
 (.reg 0 [⟨(some 4), none, (.q (.mov (.c (.bool false))))⟩] [0, 1])
 (.seq
  (.reg 1 [⟨(some 5), none, (.q (.mov (.t 0)))⟩, ⟨(some 6), none, (.q (.mov (.t 1)))⟩, ⟨(some 7), none, (.call 169 [(.t 5), (.t 6)])⟩, ⟨(some 8), none, (.q (.bin .geq (.t 7) (.c (.int .i64 0))))⟩, ⟨(some 4), none, (.q (.mov (.t 8)))⟩] [4])
  .ret))
theorem fok94 : FOK Tryz.prog 94 (9, ic94, [(.t 4)]) := .mk (pf := []) (an := [(0, [0, 1]), (1, [4])]) (by kernel_rfl) (fnOK_of Tryz.func94 (by kernel_rfl) (by kernel_rfl) (by kernel_rfl))
def ic95 : IC :=
 (.seq
 (.reg 0 [oK 3 (.boxt 0), oM 4 (cB false)] [1, 2, 3])
 (.seq
 (.reg 1 [oQ 5 (.load none 1), oQ 6 (.load none 2), oQ 7 (.load (some 7) 3), oK 8 (.call 96 [5, 6, 7]), oM 4 8] [4])
 .ret))
theorem fok95 : FOK Tryz.prog 95 (9, ic95, [(.t 4)]) := fokA [1000003, 2000000] Tryz.func95 (by kernel_rfl) (by kernel_rfl) (by kernel_rfl) (by kernel_rfl)
def ic96 : IC :=
 (.seq
 (.reg 0 [oK 5 (.boxt 2), oM 6 (cB false)] [0, 1, 5])
 (.seq
 (.oreg 1 [(0, oM 7 0, 0), (1, oQ 8 (.isnil (.pointer 187) true 7), 0), (2, oM 9 8, 0), (3, gQ 10 9 true (.load (some 7) 5), 0), (4, gK 11 9 true (.call 170 [10]), 0), (5, oQ 12 (.pick 9 11 (cB false)), 0), (6, oM 13 12, 0), (7, gQ 14 13 true (.mov 0), 0), (8, gQ 15 13 true (.mov 1), 0), (10, gQ 17 13 true (.load (some 7) 5), 0), (9, gK 16 13 true (.call 171 [14, 15]), 1024), (11, gK 18 13 true (.call 172 [16, 17]), 0), (12, oQ 19 (.pick 13 18 (cB false)), 0), (13, oM 6 19, 0)] [6])
 .ret))
theorem fok96 : FOK Tryz.prog 96 (20, ic96, [(.t 6)]) := fokA [1000005, 2000000] Tryz.func96 (by kernel_rfl) (by kernel_rfl) (by kernel_rfl) (by kernel_rfl)
def ic97 : IC :=
 (.seq
 (.reg 0 [oM 4 (.c .nilslice)] [0, 1])
 (.seq
 (.reg 1 [oM 5 (.c .nilslice)] [0, 1, 5])
 (.seq
 (.seq
 (.reg 2 [oM 8 0, oQ 9 (.nchk 8), oQ 10 (.faddr 0 9), oQ 11 (.load none 10), oK 12 (.call 87 [11]), oQ 13 (.fld none 2 12), oQ 14 (.len 0 13), oM 15 (cI 0)] [0, 1, 5, 13, 14, 15])
 (.block 0
 (.loop
 (.seq
 (.reg 3 [oQ 16 (.bin .lss 15 14)] [0, 1, 5, 13, 14, 15, 16])
 (.seq
 (.cond 16
 .skip
 (.exit 0))
 (.seq
 (.block 1
 (.seq
 (.reg 4 [oM 17 15, oQ 18 (.iaddr 6 13 15), oQ 19 (.load (some 6) 18), oK 7 (.alloc [(zU 0), (.str []), (zU 0), (zI 0), (.str []), (.str [])]), oM 6 17, oN (.store 6 7 19)] [0, 1, 5, 6, 7, 13, 14, 15])
 (.seq
 (.reg 5 [oM 20 1, oQ 21 (.faddr 0 7), oQ 22 (.load none 21), oK 23 (.call 173 [20, 22]), oM 24 23, gQ 25 24 true (.mov 0), gQ 26 24 true (.nchk 25), gQ 27 24 true (.faddr 0 26), gQ 28 24 true (.load none 27), gQ 29 24 true (.mov 6), gK 30 24 true (.call 144 [28, 29]), gQ 31 24 true (.not 30), oQ 32 (.pick 24 31 (cB false))] [0, 1, 5, 6, 13, 14, 15, 32])
 (.cond 32
 (.reg 6 [oM 33 5, oM 34 6, oK 35 (.bslt 1 1 [(zI 0)] [⟨0, ⟨1, 34⟩⟩]), oK 36 (.app 1 33 35), oM 5 36] [0, 1, 5, 13, 14, 15])
 .skip))))
 (.reg 7 [oQ 37 (.bin .add 15 (cI 1)), oM 15 37] [0, 1, 5, 13, 14, 15])))))))
 (.seq
 (.reg 8 [oM 38 5, oM 4 38] [4])
 .ret))))
theorem fok97 : FOK Tryz.prog 97 (39, ic97, [(.t 4)]) := fokA [1000035, 2000000] Tryz.func97 (by kernel_rfl) (by kernel_rfl) (by kernel_rfl) (by kernel_rfl)
def ic98 : IC :=
 (.seq
 (.reg 0 [oM 11 1, oM 12 2, oQ 13 (.bld [(zU 0), (zI 0), .nilslice] [⟨0, ⟨1, 11⟩⟩, ⟨1, ⟨1, 12⟩⟩]), oK 8 (.alloc [(zU 0), (zI 0), .nilslice]), oN (.store 3 8 13)] [0, 3, 8])
 (.seq
 (.seq
 (.reg 1 [oM 14 3, oQ 15 (.len 0 14), oM 16 (cI 0)] [0, 8, 14, 15, 16])
 (.block 0
 (.loop
 (.seq
 (.reg 2 [oQ 17 (.bin .lss 16 15)] [0, 8, 14, 15, 16, 17])
 (.seq
 (.cond 17
 .skip
 (.exit 0))
 (.seq
 (.block 1
 (.seq
 (.reg 3 [oQ 18 (.iaddr 1 14 16), oQ 19 (.load none 18), oM 10 19] [0, 8, 10, 14, 15, 16])
 (.reg 4 [oQ 20 (.faddr 2 8), oQ 21 (.load none 20), oM 22 10, oQ 23 (.bin .add 22 (cI 1)), oK 24 (.bslt 1 1 [(zI 0)] [⟨0, ⟨1, 23⟩⟩]), oK 25 (.bslt 1 1 [.nilslice] [⟨0, ⟨1, 24⟩⟩]), oK 26 (.bslt 1 1 [.nilslice] [⟨0, ⟨1, 25⟩⟩]), oK 27 (.app 1 21 26), oQ 28 (.faddr 2 8), oN (.store 1 28 27)] [0, 8, 14, 15, 16])))
 (.reg 5 [oQ 29 (.bin .add 16 (cI 1)), oM 16 29] [0, 8, 14, 15, 16])))))))
 (.oreg 6 [(0, oM 30 0, 0), (1, oM 31 0, 0), (2, oQ 32 (.nchk 31), 0), (3, oQ 33 (.faddr 6 32), 0), (4, oQ 34 (.load none 33), 0), (5, oQ 35 (.load (some 3) 8), 0), (6, oK 36 (.bslt 3 1 [(zU 0), (zI 0), .nilslice] [⟨0, ⟨3, 35⟩⟩]), 0), (7, oK 37 (.app 3 34 36), 0), (8, oQ 38 (.nchk 30), 0), (9, oQ 39 (.faddr 6 38), 0), (10, oN (.store 1 39 37), 0)] [])))
theorem fok98 : FOK Tryz.prog 98 (40, ic98, []) := fokA [1000024, 1000025, 1000026, 1000036, 2000000] Tryz.func98 (by kernel_rfl) (by kernel_rfl) (by kernel_rfl) (by kernel_rfl)
def ic99 : IC :=
 (.seq
 (.reg 0 [oK 2 (.boxt 0), oM 4 (.c .nilslice)] [1, 2])
 (.seq
 (.reg 1 [oM 6 1, oK 7 (.call 174 [6]), oQ 8 (.mkf 175 [] [2]), oK 9 (.call 161 [7, 8]), oM 5 9] [2, 5])
 (.seq
 (.seq
 (.reg 2 [oM 10 5, oQ 11 (.len 0 10), oQ 12 (.bin .eql 11 (cI 0))] [2, 5, 12])
 (.cond 12
 (.seq
 (.reg 3 [oM 4 (.c .nilslice)] [4])
 .ret)
 .skip))
 (.seq
 (.reg 4 [oM 13 5, oQ 14 (.load none 2), oQ 15 (.mkf 178 [14] []), oK 16 (.call 177 [13, 15])] [5])
 (.seq
 (.reg 5 [oM 17 5, oK 18 (.call 158 [17]), oM 4 18] [4])
 .ret)))))
theorem fok99 : FOK Tryz.prog 99 (19, ic99, [(.t 4)]) := fokA [1000002, 2000000] Tryz.func99 (by kernel_rfl) (by kernel_rfl) (by kernel_rfl) (by kernel_rfl)
def ic100 : IC :=
 (.seq
 (.reg 0 [oM 4 (.c .nilslice)] [0, 1])
 (.seq
 (.reg 1 [oM 5 0, oM 6 1, oM 7 0, oM 8 1, oK 9 (.call 180 [7, 8]), oK 10 (.bslt 1 1 [.nilfunc] [⟨0, ⟨1, 9⟩⟩]), oK 11 (.call 179 [5, 6, 10]), oM 4 11] [4])
 .ret))
theorem fok100 : FOK Tryz.prog 100 (12, ic100, [(.t 4)]) := fokA [1000010, 2000000] Tryz.func100 (by kernel_rfl) (by kernel_rfl) (by kernel_rfl) (by kernel_rfl)
def ic101 : IC :=
 (.seq
 (.reg 0 [oK 2 (.boxt 0), oM 4 (.c .nilslice)] [1, 2])
 (.seq
 (.oreg 1 [(0, oQ 5 (.load none 2), 0), (1, oM 6 1, 0), (2, oQ 7 (.mkf 181 [] [2]), 0), (3, oQ 8 (.load none 2), 0), (4, oM 9 1, 0), (5, oK 10 (.call 180 [8, 9]), 1), (6, oK 11 (.bslt 1 2 [.nilfunc] [⟨0, ⟨1, 7⟩⟩, ⟨1, ⟨1, 10⟩⟩]), 0), (7, oK 12 (.call 179 [5, 6, 11]), 0), (8, oM 4 12, 0)] [4])
 .ret))
theorem fok101 : FOK Tryz.prog 101 (13, ic101, [(.t 4)]) := fokA [1000002, 1000011, 2000000] Tryz.func101 (by kernel_rfl) (by kernel_rfl) (by kernel_rfl) (by kernel_rfl)
def ic102 : IC :=
 (.seq
 (.reg 0 [oK 3 (.boxt 1), oM 4 (.c .nilslice)] [0, 3])
 (.seq
 (.reg 1 [oM 5 0, oQ 6 (.load none 3), oQ 7 (.mkf 185 [] [3]), oK 8 (.bslt 1 1 [.nilfunc] [⟨0, ⟨1, 7⟩⟩]), oK 9 (.call 179 [5, 6, 8]), oM 4 9] [4])
 .ret))
theorem fok102 : FOK Tryz.prog 102 (10, ic102, [(.t 4)]) := fokA [1000003, 1000008, 2000000] Tryz.func102 (by kernel_rfl) (by kernel_rfl) (by kernel_rfl) (by kernel_rfl)
def ic103 : IC :=
 (.seq
 (.reg 0 [oK 6 (.boxt 2), oM 8 (cI 0)] [0, 1, 3, 6])
 (.seq
 (.dreg 1 [oM 12 0, oQ 13 (.nchk 12), oQ 14 (.faddr 1 13), oQ 15 (.load none 14), oQ 16 (.load (some 7) 6), oK 17 (.call 186 [15, 16]), oM 11 17, oQ 18 (.ext 0 11), oQ 19 (.ext 1 11), oM 9 18, oM 10 19] false [0, 1, 3, 9, 10])
 (.seq
 (.seq
 (.reg 2 [oM 20 10, oQ 21 (.bin .eql 20 (cI 0))] [0, 1, 3, 9, 10, 21])
 (.cond 21
 (.oreg 3 [(0, oM 22 0, 0), (1, oM 23 0, 0), (2, oQ 24 (.nchk 23), 0), (3, oQ 25 (.faddr 6 24), 0), (4, oQ 26 (.load none 25), 0), (5, oM 27 1, 0), (6, oM 28 3, 0), (7, oM 29 9, 0), (8, oK 30 (.callv 28 [29]), 16), (9, oK 31 (.bslt 1 1 [.nilslice] [⟨0, ⟨1, 30⟩⟩]), 0), (10, oK 32 (.bslt 1 1 [.nilslice] [⟨0, ⟨1, 31⟩⟩]), 0), (11, oQ 33 (.bld [(zU 0), (zI 0), .nilslice] [⟨0, ⟨1, (.c (zU 4))⟩⟩, ⟨1, ⟨1, 27⟩⟩, ⟨2, ⟨1, 32⟩⟩]), 0), (12, oK 34 (.bslt 3 1 [(zU 0), (zI 0), .nilslice] [⟨0, ⟨3, 33⟩⟩]), 0), (13, oK 35 (.app 3 26 34), 0), (14, oQ 36 (.nchk 22), 0), (15, oQ 37 (.faddr 6 36), 0), (16, oN (.store 1 37 35), 0)] [10])
 .skip))
 (.seq
 (.reg 4 [oM 38 10, oM 8 38] [8])
 .ret))))
theorem fok103 : FOK Tryz.prog 103 (39, ic103, [(.t 8)]) := fokA [1000006, 1000031, 1000032, 1000034, 2000000] Tryz.func103 (by kernel_rfl) (by kernel_rfl) (by kernel_rfl) (by kernel_rfl)
def ic104 : IC :=
 (.seq
 (.reg 0 [oM 3 (.c .nilslice)] [0, 1])
 (.seq
 (.reg 1 [oQ 4 (.load none 1), oQ 5 (.bin .add 4 (cI 1)), oQ 6 (.neg 5), oM 7 0, oK 8 (.bslt 1 2 [(zI 0)] [⟨0, ⟨1, 6⟩⟩, ⟨1, ⟨1, 7⟩⟩]), oM 3 8] [3])
 .ret))
theorem fok104 : FOK Tryz.prog 104 (9, ic104, [(.t 3)]) := fokA [1000008, 2000000] Tryz.func104 (by kernel_rfl) (by kernel_rfl) (by kernel_rfl) (by kernel_rfl)
def ic105 : IC :=
 (.seq
 (.reg 0 [oM 3 (.c .nilslice)] [0, 1])
 (.seq
 (.reg 1 [oM 4 0, oQ 5 (.neg 4), oQ 6 (.load none 1), oQ 7 (.bin .add 6 (cI 1)), oK 8 (.bslt 1 2 [(zI 0)] [⟨0, ⟨1, 5⟩⟩, ⟨1, ⟨1, 7⟩⟩]), oM 3 8] [3])
 .ret))
theorem fok105 : FOK Tryz.prog 105 (9, ic105, [(.t 3)]) := fokA [1000008, 2000000] Tryz.func105 (by kernel_rfl) (by kernel_rfl) (by kernel_rfl) (by kernel_rfl)
def ic106 : IC :=
 (.seq
 (.reg 0 [oM 4 0, oQ 5 (.len 0 4), oQ 6 (.bin .sub 5 (cI 1)), oM 2 (cI 0), oM 3 6] [0, 2, 3])
 (.block 0
 (.loop
 (.seq
 (.seq
 (.reg 1 [oM 7 2, oM 8 3, oQ 9 (.bin .lss 7 8)] [0, 2, 3, 9])
 (.cond 9
 .skip
 (.exit 0)))
 (.seq
 (.block 1
 (.dreg 3 [oM 14 0, oM 15 2, oM 16 0, oM 17 3, oM 18 0, oM 19 3, oQ 20 (.iaddr 1 18 19), oQ 21 (.load none 20), oM 22 0, oM 23 2, oQ 24 (.iaddr 1 22 23), oQ 25 (.load none 24), oQ 26 (.iaddr 1 14 15), oN (.store 1 26 21), oQ 27 (.iaddr 1 16 17), oN (.store 1 27 25)] false [0, 2, 3]))
 (.reg 2 [oM 10 2, oQ 11 (.bin .add 10 (cI 1)), oM 12 3, oQ 13 (.bin .sub 12 (cI 1)), oM 2 11, oM 3 13] [0, 2, 3]))))))
theorem fok106 : FOK Tryz.prog 106 (28, ic106, []) := fokA [2000000] Tryz.func106 (by kernel_rfl) (by kernel_rfl) (by kernel_rfl) (by kernel_rfl)
def ic107 : IC :=
 (.seq
 (.reg 0 [oM 2 (cB false)] [0])
 (.seq
 (.reg 1 [oM 3 0, oQ 4 (.bin .geq 3 (.c (zU 2))), oM 5 4, gQ 6 5 true (.mov 0), gQ 7 5 true (.bin .leq 6 (.c (zU 4))), oQ 8 (.pick 5 7 (cB false)), oM 2 8] [2])
 .ret))
theorem fok107 : FOK Tryz.prog 107 (9, ic107, [(.t 2)]) := fokA [2000000] Tryz.func107 (by kernel_rfl) (by kernel_rfl) (by kernel_rfl) (by kernel_rfl)
def ic108 : IC :=
 (.seq
 (.reg 0 [oK 1 (.boxt 0), oM 2 (cB false)] [1])
 (.seq
 (.seq
 (.reg 1 [oQ 3 (.faddr 0 1), oQ 4 (.load none 3), oK 5 (.call 187 [4]), oQ 6 (.not 5), oM 7 6, gQ 8 7 false (.faddr 1 1), gQ 9 7 false (.load none 8), gK 10 7 false (.call 188 [9]), gQ 11 7 false (.not 10), oQ 12 (.pick 7 (cB true) 11)] [1, 12])
 (.cond 12
 (.seq
 (.reg 2 [oM 2 (cB false)] [2])
 .ret)
 .skip))
 (.seq
 (.seq
 (.reg 3 [oQ 13 (.faddr 1 1), oQ 14 (.load none 13), oQ 15 (.bin .eql 14 (.c (zU 0)))] [1, 15])
 (.cond 15
 (.seq
 (.reg 4 [oQ 16 (.faddr 2 1), oQ 17 (.load (some 3) 16), oQ 18 (.bld [(zI 0), (.str []), (.str [])] []), oQ 19 (.eqs [1, 2, 2] true false 17 18), oM 2 19] [2])
 .ret)
 .skip))
 (.seq
 (.reg 5 [oQ 20 (.faddr 0 1), oQ 21 (.load none 20), oK 22 (.call 189 [21]), oQ 23 (.not 22), oM 24 23, gQ 25 24 true (.faddr 2 1), gQ 26 24 true (.load (some 3) 25), gK 27 24 true (.call 190 [26, (cB true)]), oQ 28 (.pick 24 27 (cB false)), oM 2 28] [2])
 .ret))))
theorem fok108 : FOK Tryz.prog 108 (29, ic108, [(.t 2)]) := fokA [1000001, 2000000] Tryz.func108 (by kernel_rfl) (by kernel_rfl) (by kernel_rfl) (by kernel_rfl)
def ic123 : IC :=
 (.seq
 (.reg 0 [oM 4 (cB false)] [0, 1])
 (.seq
 (.reg 1 [oM 5 0, oM 6 1, oK 7 (.call 209 [5, 6]), oQ 8 (.bin .geq 7 (cI 0)), oM 4 8] [4])
 .ret))
theorem fok123 : FOK Tryz.prog 123 (9, ic123, [(.t 4)]) := fokA [2000000] Tryz.func123 (by kernel_rfl) (by kernel_rfl) (by kernel_rfl) (by kernel_rfl)
def ic124 : IC :=
(.seq
 (.reg 0 [⟨(some 2), none, (.q (.mov (.c (.str []))))⟩] [0])
 (.seq
  (.seq
   (.reg 1 [⟨(some 3), none, (.q (.mov (.t 0)))⟩, ⟨(some 4), none, (.call 67 [(.t 3)])⟩, ⟨(some 5), none, (.q (.not (.t 4)))⟩] [0, 5])
   (.cond (.t 5)
    (.seq
     (.reg 2 [⟨(some 2), none, (.q (.mov (.c (.str []))))⟩] [2])
     .ret)
    .skip))
  (.seq
   (.reg 3 [⟨(some 6), none, (.call 210 [])⟩, ⟨(some 7), none, (.q (.mov (.t 0)))⟩, ⟨(some 8), none, (.q (.idx none 5 1 (.t 6) (.t 7)))⟩, ⟨(some 2), none, (.q (.mov (.t 8)))⟩] [2])
   .ret)))
theorem fok124 : FOK Tryz.prog 124 (9, ic124, [(.t 2)]) := .mk (pf := []) (an := [(0, [0]), (1, [0, 5]), (2, [2]), (3, [2])]) (by kernel_rfl) (fnOK_of Tryz.func124 (by kernel_rfl) (by kernel_rfl) (by kernel_rfl))
def ic125 : IC :=
(.seq
 (.reg 0 [⟨(some 5), none, (.boxt (.t 2))⟩, ⟨(some 6), none, (.q (.mov (.c (.bool false))))⟩] [0, 1, 5])
 (.seq
  (.reg 1 [⟨(some 7), none, (.q (.mov (.t 0)))⟩, ⟨(some 8), none, (.q (.len 0 (.t 7)))⟩, ⟨(some 9), none, (.q (.mov (.t 1)))⟩, ⟨(some 10), none, (.q (.bin .leq (.t 8) (.t 9)))⟩, ⟨(some 11), none, (.q (.mov (.t 10)))⟩, ⟨(some 12), (some ⟨11, true⟩), (.q (.mov (.t 0)))⟩, ⟨(some 13), (some ⟨11, true⟩), (.q (.mkf 211 [] [(.t 5)]))⟩, ⟨(some 14), (some ⟨11, true⟩), (.call 91 [(.t 12), (.t 13)])⟩, ⟨(some 15), (some ⟨11, true⟩), (.q (.not (.t 14)))⟩, ⟨(some 16), none, (.q (.pick (.t 11) (.t 15) (.c (.bool false))))⟩, ⟨(some 6), none, (.q (.mov (.t 16)))⟩] [6])
  .ret))
theorem fok125 : FOK Tryz.prog 125 (17, ic125, [(.t 6)]) := .mk (pf := [1000005]) (an := [(0, [0, 1, 5]), (1, [6])]) (by kernel_rfl) (fnOK_of Tryz.func125 (by kernel_rfl) (by kernel_rfl) (by kernel_rfl))
def ic126 : IC :=
(.seq
 (.reg 0 [⟨(some 5), none, (.boxt (.t 2))⟩, ⟨(some 6), none, (.q (.mov (.c (.bool false))))⟩] [0, 1, 5])
 (.seq
  (.reg 1 [⟨(some 7), none, (.q (.mov (.t 0)))⟩, ⟨(some 8), none, (.q (.len 0 (.t 7)))⟩, ⟨(some 9), none, (.q (.mov (.t 1)))⟩, ⟨(some 10), none, (.q (.bin .leq (.t 8) (.t 9)))⟩, ⟨(some 11), none, (.q (.mov (.t 10)))⟩, ⟨(some 12), (some ⟨11, true⟩), (.q (.mov (.t 0)))⟩, ⟨(some 13), (some ⟨11, true⟩), (.q (.mkf 213 [] [(.t 5)]))⟩, ⟨(some 14), (some ⟨11, true⟩), (.call 212 [(.t 12), (.t 13)])⟩, ⟨(some 15), (some ⟨11, true⟩), (.q (.not (.t 14)))⟩, ⟨(some 16), none, (.q (.pick (.t 11) (.t 15) (.c (.bool false))))⟩, ⟨(some 6), none, (.q (.mov (.t 16)))⟩] [6])
  .ret))
theorem fok126 : FOK Tryz.prog 126 (17, ic126, [(.t 6)]) := .mk (pf := [1000005]) (an := [(0, [0, 1, 5]), (1, [6])]) (by kernel_rfl) (fnOK_of Tryz.func126 (by kernel_rfl) (by kernel_rfl) (by kernel_rfl))
def ic127 : IC :=
(.seq
 (.reg 0 [⟨(some 1), none, (.boxt (.t 0))⟩, ⟨(some 2), none, (.q (.mov (.c .nilfunc)))⟩] [1])
 (.seq
  (.reg 1 [⟨(some 3), none, (.q (.mkf 214 [] [(.t 1)]))⟩, ⟨(some 2), none, (.q (.mov (.t 3)))⟩] [2])
  .ret))
theorem fok127 : FOK Tryz.prog 127 (4, ic127, [(.t 2)]) := .mk (pf := [1000001]) (an := [(0, [1]), (1, [2])]) (by kernel_rfl) (fnOK_of Tryz.func127 (by kernel_rfl) (by kernel_rfl) (by kernel_rfl))
def ic128 : IC :=
(.seq
 (.reg 0 [⟨(some 5), none, (.boxt (.t 2))⟩, ⟨(some 6), none, (.q (.mov (.c (.bool false))))⟩] [0, 1, 5])
 (.seq
  (.reg 1 [⟨(some 7), none, (.q (.mov (.t 0)))⟩, ⟨(some 8), none, (.q (.len 0 (.t 7)))⟩, ⟨(some 9), none, (.q (.mov (.t 1)))⟩, ⟨(some 10), none, (.q (.bin .leq (.t 8) (.t 9)))⟩, ⟨(some 11), none, (.q (.mov (.t 10)))⟩, ⟨(some 12), (some ⟨11, true⟩), (.q (.mov (.t 0)))⟩, ⟨(some 13), (some ⟨11, true⟩), (.q (.mkf 215 [] [(.t 5)]))⟩, ⟨(some 14), (some ⟨11, true⟩), (.call 94 [(.t 12), (.t 13)])⟩, ⟨(some 15), (some ⟨11, true⟩), (.q (.not (.t 14)))⟩, ⟨(some 16), none, (.q (.pick (.t 11) (.t 15) (.c (.bool false))))⟩, ⟨(some 6), none, (.q (.mov (.t 16)))⟩] [6])
  .ret))
theorem fok128 : FOK Tryz.prog 128 (17, ic128, [(.t 6)]) := .mk (pf := [1000005]) (an := [(0, [0, 1, 5]), (1, [6])]) (by kernel_rfl) (fnOK_of Tryz.func128 (by kernel_rfl) (by kernel_rfl) (by kernel_rfl))
def ic129 : IC :=
(.seq
 (.reg 0 [⟨(some 2), none, (.boxt (.t 0))⟩, ⟨(some 3), none, (.q (.mov (.c (.bool false))))⟩] [1, 2])
 (.seq
  (.reg 1 [⟨(some 4), none, (.q (.load (some 7) (.t 2)))⟩, ⟨(some 5), none, (.q (.load none (.t 1)))⟩, ⟨(some 6), none, (.call 130 [(.t 4), (.t 5)])⟩, ⟨(some 7), none, (.q (.bin .eql (.t 6) (.c (.int .i64 0))))⟩, ⟨(some 3), none, (.q (.mov (.t 7)))⟩] [3])
  .ret))
theorem fok129 : FOK Tryz.prog 129 (8, ic129, [(.t 3)]) := .mk (pf := [1000002]) (an := [(0, [1, 2]), (1, [3])]) (by kernel_rfl) (fnOK_of Tryz.func129 (by kernel_rfl) (by kernel_rfl) (by kernel_rfl))
def ic130 : IC :=
(.seq
 (.reg 0 [⟨(some 2), none, (.boxt (.t 0))⟩, ⟨(some 3), none, (.boxt (.t 1))⟩, ⟨(some 4), none, (.alloc [(.int .i64 0)])⟩] [2, 3, 4])
 (.seq
  (.block 0
   (.seq
    (.reg 1 [⟨(some 9), none, (.q (.load none (.t 3)))⟩, ⟨(some 10), none, (.q (.bin .lss (.t 9) (.c (.int .u8 1))))⟩, ⟨(some 11), none, (.q (.mov (.t 10)))⟩, ⟨(some 12), (some ⟨11, false⟩), (.q (.load none (.t 3)))⟩, ⟨(some 13), (some ⟨11, false⟩), (.q (.bin .gtr (.t 12) (.c (.int .u8 3))))⟩, ⟨(some 14), none, (.q (.pick (.t 11) (.c (.bool true)) (.t 13)))⟩, ⟨(some 8), none, (.q (.mov (.t 14)))⟩] [2, 3, 4, 8])
    (.cond (.t 8)
     (.seq
      (.reg 2 [⟨none, none, (.store 1 (.t 4) (.c (.int .i64 1)))⟩] [4])
      .ret)
     (.seq
      (.reg 3 [⟨(some 16), none, (.q (.load (some 7) (.t 2)))⟩, ⟨(some 17), none, (.call 145 [(.t 16)])⟩, ⟨(some 18), none, (.q (.bin .gtr (.t 17) (.c (.int .i64 24))))⟩, ⟨(some 15), none, (.q (.mov (.t 18)))⟩] [2, 3, 4, 15])
      (.cond (.t 15)
       (.seq
        (.reg 4 [⟨none, none, (.store 1 (.t 4) (.c (.int .i64 40)))⟩] [4])
        .ret)
       (.seq
        (.reg 5 [⟨(some 20), none, (.q (.load (some 7) (.t 2)))⟩, ⟨(some 21), none, (.call 216 [(.t 20)])⟩, ⟨(some 22), none, (.q (.bin .gtr (.t 21) (.c (.int .i64 8))))⟩, ⟨(some 19), none, (.q (.mov (.t 22)))⟩] [2, 3, 4, 19])
        (.cond (.t 19)
         (.seq
          (.reg 6 [⟨none, none, (.store 1 (.t 4) (.c (.int .i64 21)))⟩] [4])
          .ret)
         .skip)))))))
  (.seq
   (.seq
    (.reg 7 [⟨(some 23), none, (.q (.load (some 7) (.t 2)))⟩, ⟨(some 24), none, (.call 164 [(.t 23)])⟩] [3, 4, 24])
    (.block 1
     (.rfunc (.t 24) [25, 26]
      (.seq
       (.reg 8 [⟨(some 5), none, (.alloc [(.int .u8 0), (.str []), (.int .u8 0), (.int .i64 0), (.str []), (.str []), .nilslice])⟩, ⟨none, none, (.store 7 (.t 5) (.t 25))⟩] [3, 4, 5, 26])
       (.reg 9 [⟨(some 6), none, (.q (.mov (.t 26)))⟩] [3, 4, 5, 6]))
      (.block 2
       (.seq
        (.reg 10 [⟨(some 27), none, (.q (.faddr 0 (.t 5)))⟩, ⟨(some 28), none, (.q (.load none (.t 27)))⟩, ⟨(some 29), none, (.call 217 [(.t 28)])⟩, ⟨(some 7), none, (.alloc [(.int .i64 0), (.int .i64 0), (.bool false), (.int .u8 0)])⟩, ⟨none, none, (.store 4 (.t 7) (.t 29))⟩] [3, 4, 5, 6, 7])
        (.block 3
         (.seq
          (.seq
           (.reg 11 [⟨(some 31), none, (.q (.faddr 3 (.t 7)))⟩, ⟨(some 32), none, (.q (.load none (.t 31)))⟩, ⟨(some 33), none, (.q (.load none (.t 3)))⟩, ⟨(some 34), none, (.q (.bin .lss (.t 32) (.t 33)))⟩, ⟨(some 30), none, (.q (.mov (.t 34)))⟩] [4, 5, 6, 7, 30])
           (.cond (.t 30)
            .skip
            (.seq
            (.reg 12 [⟨(some 35), none, (.q (.mov (.t 6)))⟩, ⟨(some 36), none, (.q (.mov (.t 35)))⟩, ⟨(some 37), (some ⟨36, true⟩), (.q (.faddr 2 (.t 7)))⟩, ⟨(some 38), (some ⟨36, true⟩), (.q (.load none (.t 37)))⟩, ⟨(some 39), (some ⟨36, true⟩), (.q (.not (.t 38)))⟩, ⟨(some 40), none, (.q (.pick (.t 36) (.t 39) (.c (.bool false))))⟩, ⟨(some 30), none, (.q (.mov (.t 40)))⟩] [4, 5, 7, 30])
            (.cond (.t 30)
            .skip
            (.seq
            (.reg 13 [⟨(some 41), none, (.q (.faddr 6 (.t 5)))⟩, ⟨(some 42), none, (.q (.load none (.t 41)))⟩, ⟨(some 43), none, (.q (.len 0 (.t 42)))⟩, ⟨(some 44), none, (.q (.faddr 0 (.t 7)))⟩, ⟨(some 45), none, (.q (.load none (.t 44)))⟩, ⟨(some 46), none, (.q (.bin .lss (.t 43) (.t 45)))⟩, ⟨(some 30), none, (.q (.mov (.t 46)))⟩] [4, 5, 7, 30])
            (.cond (.t 30)
            .skip
            (.reg 14 [⟨(some 47), none, (.q (.faddr 6 (.t 5)))⟩, ⟨(some 48), none, (.q (.load none (.t 47)))⟩, ⟨(some 49), none, (.q (.len 0 (.t 48)))⟩, ⟨(some 50), none, (.q (.faddr 1 (.t 7)))⟩, ⟨(some 51), none, (.q (.load none (.t 50)))⟩, ⟨(some 52), none, (.q (.bin .gtr (.t 49) (.t 51)))⟩, ⟨(some 30), none, (.q (.mov (.t 52)))⟩] [4, 5, 30])))))))
          (.cond (.t 30)
           (.seq
            (.reg 15 [⟨none, none, (.store 1 (.t 4) (.c (.int .i64 4)))⟩] [])
            .ret)
           (.seq
            (.seq
            (.reg 16 [⟨(some 54), none, (.q (.faddr 0 (.t 5)))⟩, ⟨(some 55), none, (.q (.load none (.t 54)))⟩, ⟨(some 56), none, (.q (.bin .eql (.t 55) (.c (.int .u8 1))))⟩, ⟨(some 57), none, (.q (.mov (.t 56)))⟩, ⟨(some 58), (some ⟨57, true⟩), (.q (.faddr 1 (.t 5)))⟩, ⟨(some 59), (some ⟨57, true⟩), (.q (.load (some 5) (.t 58)))⟩, ⟨(some 60), (some ⟨57, true⟩), (.call 28 [(.t 59)])⟩, ⟨(some 61), (some ⟨57, true⟩), (.q (.not (.t 60)))⟩, ⟨(some 62), none, (.q (.pick (.t 57) (.t 61) (.c (.bool false))))⟩, ⟨(some 53), none, (.q (.mov (.t 62)))⟩] [4, 5, 53])
            (.cond (.t 53)
            .skip
            (.reg 17 [⟨(some 63), none, (.q (.faddr 0 (.t 5)))⟩, ⟨(some 64), none, (.q (.load none (.t 63)))⟩, ⟨(some 65), none, (.q (.bin .neq (.t 64) (.c (.int .u8 1))))⟩, ⟨(some 66), none, (.q (.mov (.t 65)))⟩, ⟨(some 67), (some ⟨66, true⟩), (.q (.faddr 1 (.t 5)))⟩, ⟨(some 68), (some ⟨66, true⟩), (.q (.load (some 5) (.t 67)))⟩, ⟨(some 69), (some ⟨66, true⟩), (.q (.bld [(.str []), (.int .u8 0), (.int .i64 0), (.str []), (.str [])] []))⟩, ⟨(some 70), (some ⟨66, true⟩), (.q (.eqs [2, 1, 1, 2, 2] true true (.t 68) (.t 69)))⟩, ⟨(some 71), none, (.q (.pick (.t 66) (.t 70) (.c (.bool false))))⟩, ⟨(some 53), none, (.q (.mov (.t 71)))⟩] [4, 53])))
            (.cond (.t 53)
            (.seq
            (.reg 18 [⟨none, none, (.store 1 (.t 4) (.c (.int .i64 4)))⟩] [])
            .ret)
            .skip))))))))))
   (.seq
    (.reg 19 [⟨none, none, (.store 1 (.t 4) (.c (.int .i64 0)))⟩] [4])
    .ret))))
theorem fok130 : FOK Tryz.prog 130 (72, ic130, [(.cell none 4)]) := .mk (pf := [1000002, 1000003]) (an := [(0, [2, 3, 4]), (1, [2, 3, 4, 8]), (2, [4]), (3, [2, 3, 4, 15]), (4, [4]), (5, [2, 3, 4, 19]), (6, [4]), (7, [3, 4, 24]), (8, [3, 4, 5, 26]), (9, [3, 4, 5, 6]), (10, [3, 4, 5, 6, 7]), (11, [4, 5, 6, 7, 30]), (12, [4, 5, 7, 30]), (13, [4, 5, 7, 30]), (14, [4, 5, 30]), (16, [4, 5, 53]), (17, [4, 53]), (19, [4])]) (by kernel_rfl) (fnOK_of Tryz.func130 (by kernel_rfl) (by kernel_rfl) (by kernel_rfl))
def ic131 : IC :=
(.seq
 (.reg 0 [⟨(some 2), none, (.q (.mov (.c .nilslice)))⟩] [0])
 (.seq
  (.seq
   (.reg 1 [⟨(some 3), none, (.q (.mov (.t 0)))⟩, ⟨(some 4), none, (.q (.isnil (.slice 53) false (.t 3)))⟩] [0, 4])
   (.cond (.t 4)
    (.seq
     (.reg 2 [⟨(some 2), none, (.q (.mov (.c .nilslice)))⟩] [2])
     .ret)
    .skip))
  (.seq
   (.reg 3 [⟨(some 5), none, (.bsl 5 0 [(.str []), (.int .u8 0), (.int .i64 0), (.str []), (.str [])] [])⟩, ⟨(some 6), none, (.q (.mov (.t 0)))⟩, ⟨(some 7), none, (.app 5 (.t 5) (.t 6))⟩, ⟨(some 2), none, (.q (.mov (.t 7)))⟩] [2])
   .ret)))
theorem fok131 : FOK Tryz.prog 131 (8, ic131, [(.t 2)]) := .mk (pf := []) (an := [(0, [0]), (1, [0, 4]), (2, [2]), (3, [2])]) (by kernel_rfl) (fnOK_of Tryz.func131 (by kernel_rfl) (by kernel_rfl) (by kernel_rfl))
def ic132 : IC :=
(.seq
 (.reg 0 [⟨(some 2), none, (.q (.mov (.c .nilslice)))⟩] [0])
 (.seq
  (.seq
   (.reg 1 [⟨(some 3), none, (.q (.mov (.t 0)))⟩, ⟨(some 4), none, (.q (.isnil (.slice 9) false (.t 3)))⟩] [0, 4])
   (.cond (.t 4)
    (.seq
     (.reg 2 [⟨(some 2), none, (.q (.mov (.c .nilslice)))⟩] [2])
     .ret)
    .skip))
  (.seq
   (.reg 3 [⟨(some 5), none, (.bsl 1 0 [(.str [])] [])⟩, ⟨(some 6), none, (.q (.mov (.t 0)))⟩, ⟨(some 7), none, (.app 1 (.t 5) (.t 6))⟩, ⟨(some 2), none, (.q (.mov (.t 7)))⟩] [2])
   .ret)))
theorem fok132 : FOK Tryz.prog 132 (8, ic132, [(.t 2)]) := .mk (pf := []) (an := [(0, [0]), (1, [0, 4]), (2, [2]), (3, [2])]) (by kernel_rfl) (fnOK_of Tryz.func132 (by kernel_rfl) (by kernel_rfl) (by kernel_rfl))
def ic133 : IC :=
(.seq
 (.reg 0 [⟨(some 2), none, (.q (.mov (.c .nilslice)))⟩] [0])
 (.seq
  (.seq
   (.reg 1 [⟨(some 3), none, (.q (.mov (.t 0)))⟩, ⟨(some 4), none, (.q (.isnil (.slice 55) false (.t 3)))⟩] [0, 4])
   (.cond (.t 4)
    (.seq
     (.reg 2 [⟨(some 2), none, (.q (.mov (.c .nilslice)))⟩] [2])
     .ret)
    .skip))
  (.seq
   (.reg 3 [⟨(some 5), none, (.bsl 7 0 [(.int .u8 0), (.str []), (.int .u8 0), (.int .i64 0), (.str []), (.str []), .nilslice] [])⟩, ⟨(some 6), none, (.q (.mov (.t 0)))⟩, ⟨(some 7), none, (.app 7 (.t 5) (.t 6))⟩, ⟨(some 2), none, (.q (.mov (.t 7)))⟩] [2])
   .ret)))
theorem fok133 : FOK Tryz.prog 133 (8, ic133, [(.t 2)]) := .mk (pf := []) (an := [(0, [0]), (1, [0, 4]), (2, [2]), (3, [2])]) (by kernel_rfl) (fnOK_of Tryz.func133 (by kernel_rfl) (by kernel_rfl) (by kernel_rfl))
def ic134 : IC :=
(.seq
 (.reg 0 [⟨(some 1), none, (.boxt (.t 0))⟩, ⟨(some 2), none, (.alloc [(.int .u8 0), (.str []), (.int .u8 0), (.int .i64 0), (.str []), (.str []), .nilslice])⟩] [1, 2])
 (.seq
  (.reg 1 [⟨(some 6), none, (.q (.faddr 0 (.t 1)))⟩, ⟨(some 7), none, (.q (.load none (.t 6)))⟩, ⟨(some 8), none, (.q (.faddr 1 (.t 1)))⟩, ⟨(some 9), none, (.q (.load (some 5) (.t 8)))⟩, ⟨(some 10), none, (.q (.bld [(.int .u8 0), (.str []), (.int .u8 0), (.int .i64 0), (.str []), (.str []), .nilslice] [⟨0, ⟨1, (.t 7)⟩⟩, ⟨1, ⟨5, (.t 9)⟩⟩]))⟩, ⟨(some 3), none, (.alloc [(.int .u8 0), (.str []), (.int .u8 0), (.int .i64 0), (.str []), (.str []), .nilslice])⟩, ⟨none, none, (.store 7 (.t 3) (.t 10))⟩] [1, 2, 3])
  (.seq
   (.seq
    (.reg 2 [⟨(some 11), none, (.q (.faddr 6 (.t 1)))⟩, ⟨(some 12), none, (.q (.load none (.t 11)))⟩, ⟨(some 13), none, (.q (.len 0 (.t 12)))⟩, ⟨(some 14), none, (.q (.mov (.c (.int .i64 0))))⟩] [2, 3, 12, 13, 14])
    (.block 0
     (.loop
      (.seq
       (.reg 3 [⟨(some 15), none, (.q (.bin .lss (.t 14) (.t 13)))⟩] [2, 3, 12, 13, 14, 15])
       (.seq
        (.cond (.t 15)
         .skip
         (.exit 0))
        (.seq
         (.block 1
          (.seq
           (.reg 4 [⟨(some 16), none, (.q (.iaddr 7 (.t 12) (.t 14)))⟩, ⟨(some 17), none, (.q (.load (some 7) (.t 16)))⟩, ⟨(some 5), none, (.alloc [(.int .u8 0), (.str []), (.int .u8 0), (.int .i64 0), (.str []), (.str []), .nilslice])⟩, ⟨none, none, (.store 7 (.t 5) (.t 17))⟩] [2, 3, 5, 12, 13, 14])
           (.dreg 5 [⟨(some 18), none, (.q (.faddr 6 (.t 3)))⟩, ⟨(some 19), none, (.q (.load none (.t 18)))⟩, ⟨(some 20), none, (.q (.load (some 7) (.t 5)))⟩, ⟨(some 21), none, (.pcall 134 [(.t 20)])⟩, ⟨(some 22), none, (.bslt 7 1 [(.int .u8 0), (.str []), (.int .u8 0), (.int .i64 0), (.str []), (.str []), .nilslice] [⟨0, ⟨7, (.t 21)⟩⟩])⟩, ⟨(some 23), none, (.app 7 (.t 19) (.t 22))⟩, ⟨(some 24), none, (.q (.faddr 6 (.t 3)))⟩, ⟨none, none, (.store 1 (.t 24) (.t 23))⟩] true [2, 3, 12, 13, 14])))
         (.reg 6 [⟨(some 25), none, (.q (.bin .add (.t 14) (.c (.int .i64 1))))⟩, ⟨(some 14), none, (.q (.mov (.t 25)))⟩] [2, 3, 12, 13, 14])))))))
   (.seq
    (.reg 7 [⟨(some 26), none, (.q (.load (some 7) (.t 3)))⟩, ⟨none, none, (.store 7 (.t 2) (.t 26))⟩] [2])
    .ret))))
theorem fok134 : FOK Tryz.prog 134 (27, ic134, [(.cell (some 7) 2)]) := .mk (pf := ([1000001, 1000022] ++ allF1)) (an := [(0, [1, 2]), (1, [1, 2, 3]), (2, [2, 3, 12, 13, 14]), (3, [2, 3, 12, 13, 14, 15]), (4, [2, 3, 5, 12, 13, 14]), (5, [2, 3, 12, 13, 14]), (6, [2, 3, 12, 13, 14]), (7, [2])]) (by kernel_rfl) (fnOK_of Tryz.func134 (by kernel_rfl) (by kernel_rfl) (by kernel_rfl))
def ic135 : IC :=
(.seq
 (.reg 0 [⟨(some 4), none, (.q (.mov (.c (.int .i64 0))))⟩] [0, 1])
 (.seq
  (.reg 1 [⟨(some 5), none, (.q (.mov (.t 0)))⟩, ⟨(some 6), none, (.q (.mov (.t 1)))⟩, ⟨(some 7), none, (.call 218 [(.t 5), (.t 6)])⟩, ⟨(some 4), none, (.q (.mov (.t 7)))⟩] [4])
  .ret))
theorem fok135 : FOK Tryz.prog 135 (8, ic135, [(.t 4)]) := .mk (pf := []) (an := [(0, [0, 1]), (1, [4])]) (by kernel_rfl) (fnOK_of Tryz.func135 (by kernel_rfl) (by kernel_rfl) (by kernel_rfl))
def ic136 : IC :=
(.seq
 (.reg 0 [⟨(some 2), none, (.q (.mov (.c (.str []))))⟩] [0])
 (.seq
  (.seq
   (.reg 1 [⟨(some 5), none, (.q (.load none (.g 1)))⟩, ⟨(some 6), none, (.mrange (.t 5))⟩] [0, 6])
   (.block 0
    (.loop
     (.seq
      (.reg 2 [⟨(some 7), none, (.mnext (.t 6))⟩, ⟨(some 8), none, (.q (.ext 0 (.t 7)))⟩] [0, 6, 8])
      (.seq
       (.cond (.t 8)
        .skip
        (.exit 0))
       (.block 1
        (.seq
         (.reg 3 [⟨(some 9), none, (.ment (.t 6))⟩, ⟨(some 10), none, (.q (.ext 0 (.t 9)))⟩, ⟨(some 11), none, (.q (.ext 1 (.t 9)))⟩, ⟨(some 3), none, (.q (.mov (.t 10)))⟩, ⟨(some 4), none, (.q (.mov (.t 11)))⟩] [0, 3, 4, 6])
         (.seq
          (.reg 4 [⟨(some 12), none, (.q (.mov (.t 4)))⟩, ⟨(some 13), none, (.q (.mov (.t 0)))⟩, ⟨(some 14), none, (.q (.bin .eql (.t 12) (.t 13)))⟩] [0, 3, 6, 14])
          (.cond (.t 14)
           (.seq
            (.reg 5 [⟨(some 15), none, (.q (.mov (.t 3)))⟩, ⟨(some 2), none, (.q (.mov (.t 15)))⟩] [2])
            .ret)
           .skip)))))))))
  (.seq
   (.reg 6 [⟨(some 2), none, (.q (.mov (.c (.str []))))⟩] [2])
   .ret)))
theorem fok136 : FOK Tryz.prog 136 (16, ic136, [(.t 2)]) := .mk (pf := []) (an := [(0, [0]), (1, [0, 6]), (2, [0, 6, 8]), (3, [0, 3, 4, 6]), (4, [0, 3, 6, 14]), (5, [2]), (6, [2])]) (by kernel_rfl) (fnOK_of Tryz.func136 (by kernel_rfl) (by kernel_rfl) (by kernel_rfl))
def ic137 : IC :=
(.seq
 (.reg 0 [⟨(some 4), none, (.q (.mov (.c (.bool false))))⟩] [0, 1])
 (.seq
  (.reg 1 [⟨(some 5), none, (.q (.mov (.t 0)))⟩, ⟨(some 6), none, (.q (.mov (.t 1)))⟩, ⟨(some 7), none, (.call 219 [(.t 5), (.t 6)])⟩, ⟨(some 4), none, (.q (.mov (.t 7)))⟩] [4])
  .ret))
theorem fok137 : FOK Tryz.prog 137 (8, ic137, [(.t 4)]) := .mk (pf := []) (an := [(0, [0, 1]), (1, [4])]) (by kernel_rfl) (fnOK_of Tryz.func137 (by kernel_rfl) (by kernel_rfl) (by kernel_rfl))
end Go.Id.Tryz
