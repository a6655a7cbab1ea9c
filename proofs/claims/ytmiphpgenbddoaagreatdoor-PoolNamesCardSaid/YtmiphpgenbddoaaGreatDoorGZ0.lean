/- The compiled codes of functions, written by a program out of the given form. Conditions: none. -/
import Derived.Test.YtmiphpgenbddoaaGreatDoorFwW
import Derived.Test.YtmiphpgenbddoaaGreatDoorProg
set_option linter.all false
namespace Go.Id.Tryz
open Go Go.Id Go.Proofs
def allF0 : List Nat := List.range 242
/-- chandlery/chandlerylaw12.PoolNames -/
def ic4 : IC :=
(.seq
 (.reg 0 [⟨(some 0), none, (.q (.mov (.c (.bool false))))⟩] [])
 (.seq
  (.reg 1 [⟨(some 1), none, (.q (.mov (.c .nilptr)))⟩] [1])
  (.seq
   (.reg 2 [⟨(some 25), none, (.q (.mov (.t 1)))⟩, ⟨(some 26), none, (.call 23 [(.t 25), (.c (.int .i64 0))])⟩, ⟨(some 24), none, (.q (.mov (.t 26)))⟩, ⟨(some 27), none, (.q (.ext 0 (.t 24)))⟩, ⟨(some 28), none, (.q (.ext 1 (.t 24)))⟩, ⟨(some 2), none, (.alloc [(.str []), (.int .i64 0), (.str []), (.str []), (.int .u8 0), (.str []), .nilslice, .nilslice, .nilslice, .nilslice, .nilslice, .nilslice, .nilslice, .nilslice, .nilslice])⟩, ⟨none, none, (.store 15 (.t 2) (.t 27))⟩, ⟨(some 3), none, (.q (.mov (.t 28)))⟩] [1, 2, 3])
   (.seq
    (.seq
     (.reg 3 [⟨(some 29), none, (.q (.mov (.t 3)))⟩, ⟨(some 30), none, (.q (.bin .neq (.t 29) (.c (.int .i64 5))))⟩, ⟨(some 31), none, (.q (.mov (.t 30)))⟩, ⟨(some 32), (some ⟨31, false⟩), (.q (.load (some 15) (.t 2)))⟩, ⟨(some 33), (some ⟨31, false⟩), (.q (.bld [(.str []), (.int .i64 0), (.str []), (.str []), (.int .u8 0), (.str []), .nilslice, .nilslice, .nilslice, .nilslice, .nilslice, .nilslice, .nilslice, .nilslice, .nilslice] []))⟩, ⟨(some 34), (some ⟨31, false⟩), (.call 25 [(.t 32), (.t 33)])⟩, ⟨(some 35), (some ⟨31, false⟩), (.q (.not (.t 34)))⟩, ⟨(some 36), none, (.q (.pick (.t 31) (.c (.bool true)) (.t 35)))⟩, ⟨(some 37), none, (.q (.mov (.t 36)))⟩, ⟨(some 38), (some ⟨37, false⟩), (.q (.mov (.t 1)))⟩, ⟨(some 39), (some ⟨37, false⟩), (.call 13 [(.t 38)])⟩, ⟨(some 40), (some ⟨37, false⟩), (.q (.bin .neq (.t 39) (.c (.int .i64 0))))⟩, ⟨(some 41), none, (.q (.pick (.t 37) (.c (.bool true)) (.t 40)))⟩, ⟨(some 42), none, (.q (.mov (.t 41)))⟩, ⟨(some 43), (some ⟨42, false⟩), (.q (.mov (.t 1)))⟩, ⟨(some 44), (some ⟨42, false⟩), (.call 14 [(.t 43)])⟩, ⟨(some 45), (some ⟨42, false⟩), (.q (.bin .neq (.t 44) (.c (.int .i64 0))))⟩, ⟨(some 46), none, (.q (.pick (.t 42) (.c (.bool true)) (.t 45)))⟩, ⟨(some 47), none, (.q (.mov (.t 46)))⟩, ⟨(some 48), (some ⟨47, false⟩), (.q (.mov (.t 1)))⟩, ⟨(some 49), (some ⟨47, false⟩), (.call 26 [(.t 48), (.c (.int .i64 0))])⟩, ⟨(some 50), (some ⟨47, false⟩), (.q (.bin .neq (.t 49) (.c (.int .i64 (-1)))))⟩, ⟨(some 51), none, (.q (.pick (.t 47) (.c (.bool true)) (.t 50)))⟩, ⟨(some 52), none, (.q (.mov (.t 51)))⟩, ⟨(some 53), (some ⟨52, false⟩), (.q (.mov (.t 1)))⟩, ⟨(some 54), (some ⟨52, false⟩), (.call 27 [(.t 53), (.c (.int .i64 0))])⟩, ⟨(some 55), (some ⟨52, false⟩), (.q (.bin .neq (.t 54) (.c (.int .i64 0))))⟩, ⟨(some 56), none, (.q (.pick (.t 52) (.c (.bool true)) (.t 55)))⟩, ⟨(some 57), none, (.q (.mov (.t 56)))⟩, ⟨(some 58), (some ⟨57, false⟩), (.q (.mov (.t 1)))⟩, ⟨(some 59), (some ⟨57, false⟩), (.call 16 [(.t 58), (.c (.str [97]))])⟩, ⟨(some 60), (some ⟨57, false⟩), (.q (.len 0 (.t 59)))⟩, ⟨(some 61), (some ⟨57, false⟩), (.q (.bin .neq (.t 60) (.c (.int .i64 0))))⟩, ⟨(some 62), none, (.q (.pick (.t 57) (.c (.bool true)) (.t 61)))⟩, ⟨(some 63), none, (.q (.mov (.t 62)))⟩, ⟨(some 64), (some ⟨63, false⟩), (.q (.mov (.t 1)))⟩, ⟨(some 65), (some ⟨63, false⟩), (.call 19 [(.t 64)])⟩, ⟨(some 66), (some ⟨63, false⟩), (.q (.len 0 (.t 65)))⟩, ⟨(some 67), (some ⟨63, false⟩), (.q (.bin .neq (.t 66) (.c (.int .i64 0))))⟩, ⟨(some 68), none, (.q (.pick (.t 63) (.c (.bool true)) (.t 67)))⟩, ⟨(some 69), none, (.q (.mov (.t 68)))⟩, ⟨(some 70), (some ⟨69, false⟩), (.q (.mov (.t 1)))⟩, ⟨(some 71), (some ⟨69, false⟩), (.call 21 [(.t 70), (.c (.int .i64 0)), (.c (.int .i64 0))])⟩, ⟨(some 72), none, (.q (.pick (.t 69) (.c (.bool true)) (.t 71)))⟩] [72])
     (.cond (.t 72)
      (.seq
       (.reg 4 [⟨(some 0), none, (.q (.mov (.c (.bool false))))⟩] [0])
       .ret)
      .skip))
    (.seq
     (.reg 5 [⟨(some 73), none, (.mksl 15 [(.str []), (.int .i64 0), (.str []), (.str []), (.int .u8 0), (.str []), .nilslice, .nilslice, .nilslice, .nilslice, .nilslice, .nilslice, .nilslice, .nilslice, .nilslice] (.c (.int .i64 257)))⟩, ⟨(some 4), none, (.q (.mov (.t 73)))⟩] [4])
     (.seq
      (.seq
       (.reg 6 [⟨(some 5), none, (.q (.mov (.c (.int .i64 0))))⟩] [4, 5])
       (.block 0
        (.loop
         (.seq
          (.seq
           (.reg 7 [⟨(some 74), none, (.q (.mov (.t 5)))⟩, ⟨(some 75), none, (.q (.bin .lss (.t 74) (.c (.int .i64 257))))⟩] [4, 5, 75])
           (.cond (.t 75)
            .skip
            (.exit 0)))
          (.seq
           (.block 1
            (.reg 9 [⟨(some 78), none, (.q (.mov (.t 4)))⟩, ⟨(some 79), none, (.q (.mov (.t 5)))⟩, ⟨(some 80), none, (.call 28 [(.c (.str [97]))])⟩, ⟨(some 81), none, (.q (.iaddr 15 (.t 78) (.t 79)))⟩, ⟨none, none, (.store 15 (.t 81) (.t 80))⟩] [4, 5]))
           (.reg 8 [⟨(some 76), none, (.q (.mov (.t 5)))⟩, ⟨(some 77), none, (.q (.bin .add (.t 76) (.c (.int .i64 1))))⟩, ⟨(some 5), none, (.q (.mov (.t 77)))⟩] [4, 5]))))))
      (.seq
       (.reg 10 [⟨(some 83), none, (.q (.mov (.t 4)))⟩, ⟨(some 84), none, (.call 11 [(.c .nilslice), (.t 83)])⟩, ⟨(some 82), none, (.q (.mov (.t 84)))⟩, ⟨(some 85), none, (.q (.ext 0 (.t 82)))⟩, ⟨(some 86), none, (.q (.ext 1 (.t 82)))⟩, ⟨(some 6), none, (.q (.mov (.t 85)))⟩, ⟨(some 7), none, (.q (.mov (.t 86)))⟩] [4, 7])
       (.seq
        (.dreg 11 [⟨(some 88), none, (.q (.mov (.t 4)))⟩, ⟨(some 89), none, (.q (.slc 15 (.t 88) none (some (.c (.int .i64 100)))))⟩, ⟨(some 90), none, (.q (.bld [(.int .i64 0), .nilslice] [⟨1, ⟨1, (.t 89)⟩⟩]))⟩, ⟨(some 91), none, (.bslt 2 1 [(.int .i64 0), .nilslice] [⟨0, ⟨2, (.t 90)⟩⟩])⟩, ⟨(some 92), none, (.q (.mov (.t 4)))⟩, ⟨(some 93), none, (.q (.slc 15 (.t 92) none (some (.c (.int .i64 156)))))⟩, ⟨(some 94), none, (.call 11 [(.t 91), (.t 93)])⟩, ⟨(some 87), none, (.q (.mov (.t 94)))⟩, ⟨(some 95), none, (.q (.ext 0 (.t 87)))⟩, ⟨(some 96), none, (.q (.ext 1 (.t 87)))⟩, ⟨(some 8), none, (.q (.mov (.t 95)))⟩, ⟨(some 9), none, (.q (.mov (.t 96)))⟩] false [4, 7, 8, 9])
        (.seq
         (.dreg 12 [⟨(some 98), none, (.q (.mov (.t 4)))⟩, ⟨(some 99), none, (.q (.slc 15 (.t 98) none (some (.c (.int .i64 100)))))⟩, ⟨(some 100), none, (.q (.bld [(.int .i64 0), .nilslice] [⟨1, ⟨1, (.t 99)⟩⟩]))⟩, ⟨(some 101), none, (.bslt 2 1 [(.int .i64 0), .nilslice] [⟨0, ⟨2, (.t 100)⟩⟩])⟩, ⟨(some 102), none, (.q (.mov (.t 4)))⟩, ⟨(some 103), none, (.q (.slc 15 (.t 102) none (some (.c (.int .i64 157)))))⟩, ⟨(some 104), none, (.call 11 [(.t 101), (.t 103)])⟩, ⟨(some 97), none, (.q (.mov (.t 104)))⟩, ⟨(some 105), none, (.q (.ext 0 (.t 97)))⟩, ⟨(some 106), none, (.q (.ext 1 (.t 97)))⟩, ⟨(some 10), none, (.q (.mov (.t 105)))⟩, ⟨(some 11), none, (.q (.mov (.t 106)))⟩] false [7, 8, 9, 11])
         (.seq
          (.reg 13 [⟨(some 108), none, (.mksl 2 [(.int .i64 0), .nilslice] (.c (.int .i64 17)))⟩, ⟨(some 109), none, (.call 11 [(.t 108), (.c .nilslice)])⟩, ⟨(some 107), none, (.q (.mov (.t 109)))⟩, ⟨(some 110), none, (.q (.ext 0 (.t 107)))⟩, ⟨(some 111), none, (.q (.ext 1 (.t 107)))⟩, ⟨(some 12), none, (.q (.mov (.t 110)))⟩, ⟨(some 13), none, (.q (.mov (.t 111)))⟩] [7, 8, 9, 11, 13])
          (.seq
           (.reg 14 [⟨(some 113), none, (.mksl 2 [(.int .i64 0), .nilslice] (.c (.int .i64 16)))⟩, ⟨(some 114), none, (.call 11 [(.t 113), (.c .nilslice)])⟩, ⟨(some 112), none, (.q (.mov (.t 114)))⟩, ⟨(some 115), none, (.q (.ext 0 (.t 112)))⟩, ⟨(some 116), none, (.q (.ext 1 (.t 112)))⟩, ⟨(some 14), none, (.q (.mov (.t 115)))⟩, ⟨(some 15), none, (.q (.mov (.t 116)))⟩] [7, 8, 9, 11, 13, 15])
           (.seq
            (.reg 15 [⟨(some 118), none, (.q (.bld [(.int .i64 0), .nilslice] [⟨0, ⟨1, (.c (.int .i64 (-1)))⟩⟩]))⟩, ⟨(some 119), none, (.bslt 2 1 [(.int .i64 0), .nilslice] [⟨0, ⟨2, (.t 118)⟩⟩])⟩, ⟨(some 120), none, (.call 11 [(.t 119), (.c .nilslice)])⟩, ⟨(some 117), none, (.q (.mov (.t 120)))⟩, ⟨(some 121), none, (.q (.ext 0 (.t 117)))⟩, ⟨(some 122), none, (.q (.ext 1 (.t 117)))⟩, ⟨(some 16), none, (.q (.mov (.t 121)))⟩, ⟨(some 17), none, (.q (.mov (.t 122)))⟩] [7, 8, 9, 11, 13, 15, 17])
            (.seq
            (.reg 16 [⟨(some 124), none, (.q (.bld [(.int .i64 0), .nilslice] [⟨0, ⟨1, (.c (.int .i64 1025))⟩⟩]))⟩, ⟨(some 125), none, (.bslt 2 1 [(.int .i64 0), .nilslice] [⟨0, ⟨2, (.t 124)⟩⟩])⟩, ⟨(some 126), none, (.call 11 [(.t 125), (.c .nilslice)])⟩, ⟨(some 123), none, (.q (.mov (.t 126)))⟩, ⟨(some 127), none, (.q (.ext 0 (.t 123)))⟩, ⟨(some 128), none, (.q (.ext 1 (.t 123)))⟩, ⟨(some 18), none, (.q (.mov (.t 127)))⟩, ⟨(some 19), none, (.q (.mov (.t 128)))⟩] [7, 8, 9, 11, 13, 15, 17, 19])
            (.seq
            (.reg 17 [⟨(some 130), none, (.q (.bld [(.str []), (.int .i64 0), (.str []), (.str []), (.int .u8 0), (.str []), .nilslice, .nilslice, .nilslice, .nilslice, .nilslice, .nilslice, .nilslice, .nilslice, .nilslice] []))⟩, ⟨(some 131), none, (.bslt 15 1 [(.str []), (.int .i64 0), (.str []), (.str []), (.int .u8 0), (.str []), .nilslice, .nilslice, .nilslice, .nilslice, .nilslice, .nilslice, .nilslice, .nilslice, .nilslice] [⟨0, ⟨15, (.t 130)⟩⟩])⟩, ⟨(some 132), none, (.q (.bld [(.int .i64 0), .nilslice] [⟨0, ⟨1, (.c (.int .i64 1024))⟩⟩, ⟨1, ⟨1, (.t 131)⟩⟩]))⟩, ⟨(some 133), none, (.bslt 2 1 [(.int .i64 0), .nilslice] [⟨0, ⟨2, (.t 132)⟩⟩])⟩, ⟨(some 134), none, (.call 11 [(.t 133), (.c .nilslice)])⟩, ⟨(some 129), none, (.q (.mov (.t 134)))⟩, ⟨(some 135), none, (.q (.ext 0 (.t 129)))⟩, ⟨(some 136), none, (.q (.ext 1 (.t 129)))⟩, ⟨(some 20), none, (.q (.mov (.t 135)))⟩, ⟨(some 21), none, (.q (.mov (.t 136)))⟩] [7, 8, 9, 11, 13, 15, 17, 19, 21])
            (.seq
            (.reg 18 [⟨(some 138), none, (.q (.bld [(.str []), (.int .i64 0), (.str []), (.str []), (.int .u8 0), (.str []), .nilslice, .nilslice, .nilslice, .nilslice, .nilslice, .nilslice, .nilslice, .nilslice, .nilslice] []))⟩, ⟨(some 139), none, (.bslt 15 1 [(.str []), (.int .i64 0), (.str []), (.str []), (.int .u8 0), (.str []), .nilslice, .nilslice, .nilslice, .nilslice, .nilslice, .nilslice, .nilslice, .nilslice, .nilslice] [⟨0, ⟨15, (.t 138)⟩⟩])⟩, ⟨(some 140), none, (.call 11 [(.c .nilslice), (.t 139)])⟩, ⟨(some 137), none, (.q (.mov (.t 140)))⟩, ⟨(some 141), none, (.q (.ext 0 (.t 137)))⟩, ⟨(some 142), none, (.q (.ext 1 (.t 137)))⟩, ⟨(some 22), none, (.q (.mov (.t 141)))⟩, ⟨(some 23), none, (.q (.mov (.t 142)))⟩] [7, 8, 9, 11, 13, 15, 17, 19, 21, 23])
            (.seq
            (.reg 19 [⟨(some 143), none, (.q (.mov (.t 7)))⟩, ⟨(some 144), none, (.q (.bin .eql (.t 143) (.c (.int .i64 40))))⟩, ⟨(some 145), none, (.q (.mov (.t 144)))⟩, ⟨(some 146), (some ⟨145, true⟩), (.q (.mov (.t 9)))⟩, ⟨(some 147), (some ⟨145, true⟩), (.q (.bin .eql (.t 146) (.c (.int .i64 0))))⟩, ⟨(some 148), none, (.q (.pick (.t 145) (.t 147) (.c (.bool false))))⟩, ⟨(some 149), none, (.q (.mov (.t 148)))⟩, ⟨(some 150), (some ⟨149, true⟩), (.q (.mov (.t 8)))⟩, ⟨(some 151), (some ⟨149, true⟩), (.call 13 [(.t 150)])⟩, ⟨(some 152), (some ⟨149, true⟩), (.q (.bin .eql (.t 151) (.c (.int .i64 256))))⟩, ⟨(some 153), none, (.q (.pick (.t 149) (.t 152) (.c (.bool false))))⟩, ⟨(some 154), none, (.q (.mov (.t 153)))⟩, ⟨(some 155), (some ⟨154, true⟩), (.q (.mov (.t 8)))⟩, ⟨(some 156), (some ⟨154, true⟩), (.call 19 [(.t 155)])⟩, ⟨(some 157), (some ⟨154, true⟩), (.q (.len 0 (.t 156)))⟩, ⟨(some 158), (some ⟨154, true⟩), (.q (.bin .eql (.t 157) (.c (.int .i64 1))))⟩, ⟨(some 159), none, (.q (.pick (.t 154) (.t 158) (.c (.bool false))))⟩, ⟨(some 160), none, (.q (.mov (.t 159)))⟩, ⟨(some 161), (some ⟨160, true⟩), (.q (.mov (.t 8)))⟩, ⟨(some 162), (some ⟨160, true⟩), (.call 16 [(.t 161), (.c (.str [97]))])⟩, ⟨(some 163), (some ⟨160, true⟩), (.q (.len 0 (.t 162)))⟩, ⟨(some 164), (some ⟨160, true⟩), (.q (.bin .eql (.t 163) (.c (.int .i64 256))))⟩, ⟨(some 165), none, (.q (.pick (.t 160) (.t 164) (.c (.bool false))))⟩, ⟨(some 166), none, (.q (.mov (.t 165)))⟩, ⟨(some 167), (some ⟨166, true⟩), (.q (.mov (.t 11)))⟩, ⟨(some 168), (some ⟨166, true⟩), (.q (.bin .eql (.t 167) (.c (.int .i64 40))))⟩, ⟨(some 169), none, (.q (.pick (.t 166) (.t 168) (.c (.bool false))))⟩, ⟨(some 170), none, (.q (.mov (.t 169)))⟩, ⟨(some 171), (some ⟨170, true⟩), (.q (.mov (.t 13)))⟩, ⟨(some 172), (some ⟨170, true⟩), (.q (.bin .eql (.t 171) (.c (.int .i64 40))))⟩, ⟨(some 173), none, (.q (.pick (.t 170) (.t 172) (.c (.bool false))))⟩, ⟨(some 174), none, (.q (.mov (.t 173)))⟩, ⟨(some 175), (some ⟨174, true⟩), (.q (.mov (.t 15)))⟩, ⟨(some 176), (some ⟨174, true⟩), (.q (.bin .eql (.t 175) (.c (.int .i64 0))))⟩, ⟨(some 177), none, (.q (.pick (.t 174) (.t 176) (.c (.bool false))))⟩, ⟨(some 178), none, (.q (.mov (.t 177)))⟩, ⟨(some 179), (some ⟨178, true⟩), (.q (.mov (.t 17)))⟩, ⟨(some 180), (some ⟨178, true⟩), (.q (.bin .eql (.t 179) (.c (.int .i64 4))))⟩, ⟨(some 181), none, (.q (.pick (.t 178) (.t 180) (.c (.bool false))))⟩, ⟨(some 182), none, (.q (.mov (.t 181)))⟩, ⟨(some 183), (some ⟨182, true⟩), (.q (.mov (.t 19)))⟩, ⟨(some 184), (some ⟨182, true⟩), (.q (.bin .eql (.t 183) (.c (.int .i64 4))))⟩, ⟨(some 185), none, (.q (.pick (.t 182) (.t 184) (.c (.bool false))))⟩, ⟨(some 186), none, (.q (.mov (.t 185)))⟩, ⟨(some 187), (some ⟨186, true⟩), (.q (.mov (.t 21)))⟩, ⟨(some 188), (some ⟨186, true⟩), (.q (.bin .eql (.t 187) (.c (.int .i64 4))))⟩, ⟨(some 189), none, (.q (.pick (.t 186) (.t 188) (.c (.bool false))))⟩, ⟨(some 190), none, (.q (.mov (.t 189)))⟩, ⟨(some 191), (some ⟨190, true⟩), (.q (.mov (.t 23)))⟩, ⟨(some 192), (some ⟨190, true⟩), (.q (.bin .eql (.t 191) (.c (.int .i64 4))))⟩, ⟨(some 193), none, (.q (.pick (.t 190) (.t 192) (.c (.bool false))))⟩, ⟨(some 194), none, (.q (.mov (.t 193)))⟩, ⟨(some 195), (some ⟨194, true⟩), (.call 10 [])⟩, ⟨(some 196), none, (.q (.pick (.t 194) (.t 195) (.c (.bool false))))⟩, ⟨(some 0), none, (.q (.mov (.t 196)))⟩] [0])
            .ret))))))))))))))))
theorem fok4 : FOK Tryz.prog 4 (197, ic4, [(.t 0)]) := .mk (pf := [1000091, 1000101, 1000119, 1000125, 1000131, 1000133, 1000139]) (an := [(1, [1]), (2, [1, 2, 3]), (3, [72]), (4, [0]), (5, [4]), (6, [4, 5]), (7, [4, 5, 75]), (8, [4, 5]), (9, [4, 5]), (10, [4, 7]), (11, [4, 7, 8, 9]), (12, [7, 8, 9, 11]), (13, [7, 8, 9, 11, 13]), (14, [7, 8, 9, 11, 13, 15]), (15, [7, 8, 9, 11, 13, 15, 17]), (16, [7, 8, 9, 11, 13, 15, 17, 19]), (17, [7, 8, 9, 11, 13, 15, 17, 19, 21]), (18, [7, 8, 9, 11, 13, 15, 17, 19, 21, 23]), (19, [0])]) (by kernel_rfl) (fnOK_of Tryz.func4 (by kernel_rfl) (by kernel_rfl) (by kernel_rfl))
/-- chandlery/chandlerylaw12.awake -/
def ic10 : IC :=
(.seq
 (.reg 0 [⟨(some 0), none, (.q (.mov (.c (.bool false))))⟩] [])
 (.seq
  (.reg 1 [⟨(some 6), none, (.call 28 [(.c (.str [98]))])⟩, ⟨(some 7), none, (.call 28 [(.c (.str [99]))])⟩, ⟨(some 8), none, (.bslt 15 2 [(.str []), (.int .i64 0), (.str []), (.str []), (.int .u8 0), (.str []), .nilslice, .nilslice, .nilslice, .nilslice, .nilslice, .nilslice, .nilslice, .nilslice, .nilslice] [⟨0, ⟨15, (.t 6)⟩⟩, ⟨15, ⟨15, (.t 7)⟩⟩])⟩, ⟨(some 9), none, (.q (.bld [(.int .i64 0), .nilslice] [⟨0, ⟨1, (.c (.int .i64 5))⟩⟩, ⟨1, ⟨1, (.t 8)⟩⟩]))⟩, ⟨(some 10), none, (.call 28 [(.c (.str [97]))])⟩, ⟨(some 11), none, (.bslt 15 1 [(.str []), (.int .i64 0), (.str []), (.str []), (.int .u8 0), (.str []), .nilslice, .nilslice, .nilslice, .nilslice, .nilslice, .nilslice, .nilslice, .nilslice, .nilslice] [⟨0, ⟨15, (.t 10)⟩⟩])⟩, ⟨(some 12), none, (.q (.bld [(.int .i64 0), .nilslice] [⟨0, ⟨1, (.c (.int .i64 7))⟩⟩, ⟨1, ⟨1, (.t 11)⟩⟩]))⟩, ⟨(some 13), none, (.bslt 2 2 [(.int .i64 0), .nilslice] [⟨0, ⟨2, (.t 9)⟩⟩, ⟨2, ⟨2, (.t 12)⟩⟩])⟩, ⟨(some 14), none, (.call 28 [(.c (.str [97]))])⟩, ⟨(some 15), none, (.bslt 15 1 [(.str []), (.int .i64 0), (.str []), (.str []), (.int .u8 0), (.str []), .nilslice, .nilslice, .nilslice, .nilslice, .nilslice, .nilslice, .nilslice, .nilslice, .nilslice] [⟨0, ⟨15, (.t 14)⟩⟩])⟩, ⟨(some 16), none, (.call 11 [(.t 13), (.t 15)])⟩, ⟨(some 5), none, (.q (.mov (.t 16)))⟩, ⟨(some 17), none, (.q (.ext 0 (.t 5)))⟩, ⟨(some 18), none, (.q (.ext 1 (.t 5)))⟩, ⟨(some 1), none, (.q (.mov (.t 17)))⟩, ⟨(some 2), none, (.q (.mov (.t 18)))⟩] [1, 2])
  (.seq
   (.seq
    (.reg 2 [⟨(some 19), none, (.q (.mov (.t 2)))⟩, ⟨(some 20), none, (.q (.bin .neq (.t 19) (.c (.int .i64 0))))⟩] [1, 20])
    (.cond (.t 20)
     (.seq
      (.reg 3 [⟨(some 0), none, (.q (.mov (.c (.bool false))))⟩] [0])
      .ret)
     .skip))
   (.seq
    (.reg 4 [⟨(some 22), none, (.q (.mov (.t 1)))⟩, ⟨(some 23), none, (.call 23 [(.t 22), (.c (.int .i64 2))])⟩, ⟨(some 21), none, (.q (.mov (.t 23)))⟩, ⟨(some 24), none, (.q (.ext 0 (.t 21)))⟩, ⟨(some 25), none, (.q (.ext 1 (.t 21)))⟩, ⟨(some 3), none, (.alloc [(.str []), (.int .i64 0), (.str []), (.str []), (.int .u8 0), (.str []), .nilslice, .nilslice, .nilslice, .nilslice, .nilslice, .nilslice, .nilslice, .nilslice, .nilslice])⟩, ⟨none, none, (.store 15 (.t 3) (.t 24))⟩, ⟨(some 4), none, (.q (.mov (.t 25)))⟩] [1, 3, 4])
    (.seq
     (.reg 5 [⟨(some 26), none, (.q (.mov (.t 1)))⟩, ⟨(some 27), none, (.call 13 [(.t 26)])⟩, ⟨(some 28), none, (.q (.bin .eql (.t 27) (.c (.int .i64 4))))⟩, ⟨(some 29), none, (.q (.mov (.t 28)))⟩, ⟨(some 30), (some ⟨29, true⟩), (.q (.mov (.t 1)))⟩, ⟨(some 31), (some ⟨29, true⟩), (.call 14 [(.t 30)])⟩, ⟨(some 32), (some ⟨29, true⟩), (.q (.bin .eql (.t 31) (.c (.int .i64 1))))⟩, ⟨(some 33), none, (.q (.pick (.t 29) (.t 32) (.c (.bool false))))⟩, ⟨(some 34), none, (.q (.mov (.t 33)))⟩, ⟨(some 35), (some ⟨34, true⟩), (.q (.mov (.t 4)))⟩, ⟨(some 36), (some ⟨34, true⟩), (.q (.bin .eql (.t 35) (.c (.int .i64 0))))⟩, ⟨(some 37), none, (.q (.pick (.t 34) (.t 36) (.c (.bool false))))⟩, ⟨(some 38), none, (.q (.mov (.t 37)))⟩, ⟨(some 39), (some ⟨38, true⟩), (.q (.faddr 0 (.t 3)))⟩, ⟨(some 40), (some ⟨38, true⟩), (.q (.load none (.t 39)))⟩, ⟨(some 41), (some ⟨38, true⟩), (.q (.bin .eql (.t 40) (.c (.str [99]))))⟩, ⟨(some 42), none, (.q (.pick (.t 38) (.t 41) (.c (.bool false))))⟩, ⟨(some 43), none, (.q (.mov (.t 42)))⟩, ⟨(some 44), (some ⟨43, true⟩), (.q (.mov (.t 1)))⟩, ⟨(some 45), (some ⟨43, true⟩), (.call 26 [(.t 44), (.c (.int .i64 2))])⟩, ⟨(some 46), (some ⟨43, true⟩), (.q (.bin .eql (.t 45) (.c (.int .i64 0))))⟩, ⟨(some 47), none, (.q (.pick (.t 43) (.t 46) (.c (.bool false))))⟩, ⟨(some 48), none, (.q (.mov (.t 47)))⟩, ⟨(some 49), (some ⟨48, true⟩), (.q (.mov (.t 1)))⟩, ⟨(some 50), (some ⟨48, true⟩), (.call 27 [(.t 49), (.c (.int .i64 2))])⟩, ⟨(some 51), (some ⟨48, true⟩), (.q (.bin .eql (.t 50) (.c (.int .i64 5))))⟩, ⟨(some 52), none, (.q (.pick (.t 48) (.t 51) (.c (.bool false))))⟩, ⟨(some 53), none, (.q (.mov (.t 52)))⟩, ⟨(some 54), (some ⟨53, true⟩), (.q (.mov (.t 1)))⟩, ⟨(some 55), (some ⟨53, true⟩), (.call 27 [(.t 54), (.c (.int .i64 0))])⟩, ⟨(some 56), (some ⟨53, true⟩), (.q (.bin .eql (.t 55) (.c (.int .i64 1025))))⟩, ⟨(some 57), none, (.q (.pick (.t 53) (.t 56) (.c (.bool false))))⟩, ⟨(some 58), none, (.q (.mov (.t 57)))⟩, ⟨(some 59), (some ⟨58, true⟩), (.q (.mov (.t 1)))⟩, ⟨(some 60), (some ⟨58, true⟩), (.call 16 [(.t 59), (.c (.str [97]))])⟩, ⟨(some 61), (some ⟨58, true⟩), (.bslt 1 2 [(.int .i64 0)] [⟨0, ⟨1, (.c (.int .i64 0))⟩⟩, ⟨1, ⟨1, (.c (.int .i64 3))⟩⟩])⟩, ⟨(some 62), (some ⟨58, true⟩), (.call 15 [(.t 60), (.t 61)])⟩, ⟨(some 63), none, (.q (.pick (.t 58) (.t 62) (.c (.bool false))))⟩, ⟨(some 0), none, (.q (.mov (.t 63)))⟩] [0])
     .ret)))))
theorem fok10 : FOK Tryz.prog 10 (64, ic10, [(.t 0)]) := .mk (pf := [1000008, 1000011, 1000013, 1000015, 1000061]) (an := [(1, [1, 2]), (2, [1, 20]), (3, [0]), (4, [1, 3, 4]), (5, [0])]) (by kernel_rfl) (fnOK_of Tryz.func10 (by kernel_rfl) (by kernel_rfl) (by kernel_rfl))
/-- chandlery/pool.New -/
def ic11 : IC :=
(.seq
 (.reg 0 [⟨(some 4), none, (.q (.mov (.c .nilptr)))⟩, ⟨(some 5), none, (.q (.mov (.c (.int .i64 0))))⟩] [0, 1])
 (.seq
  (.reg 1 [⟨(some 14), none, (.q (.mov (.t 1)))⟩, ⟨(some 15), none, (.q (.len 0 (.t 14)))⟩, ⟨(some 6), none, (.q (.mov (.t 15)))⟩] [0, 1, 6])
  (.seq
   (.seq
    (.reg 2 [⟨(some 16), none, (.q (.mov (.t 0)))⟩, ⟨(some 17), none, (.q (.len 0 (.t 16)))⟩, ⟨(some 18), none, (.q (.mov (.c (.int .i64 0))))⟩] [0, 1, 6, 16, 17, 18])
    (.block 0
     (.loop
      (.seq
       (.reg 3 [⟨(some 19), none, (.q (.bin .lss (.t 18) (.t 17)))⟩] [0, 1, 6, 16, 17, 18, 19])
       (.seq
        (.cond (.t 19)
         .skip
         (.exit 0))
        (.seq
         (.block 1
          (.seq
           (.reg 4 [⟨(some 20), none, (.q (.iaddr 2 (.t 16) (.t 18)))⟩, ⟨(some 21), none, (.q (.load (some 2) (.t 20)))⟩, ⟨(some 8), none, (.alloc [(.int .i64 0), .nilslice])⟩, ⟨none, none, (.store 2 (.t 8) (.t 21))⟩] [0, 1, 6, 8, 16, 17, 18])
           (.reg 5 [⟨(some 22), none, (.q (.mov (.t 6)))⟩, ⟨(some 23), none, (.q (.faddr 1 (.t 8)))⟩, ⟨(some 24), none, (.q (.load none (.t 23)))⟩, ⟨(some 25), none, (.q (.len 0 (.t 24)))⟩, ⟨(some 26), none, (.q (.bin .add (.t 22) (.t 25)))⟩, ⟨(some 6), none, (.q (.mov (.t 26)))⟩] [0, 1, 6, 16, 17, 18])))
         (.reg 6 [⟨(some 27), none, (.q (.bin .add (.t 18) (.c (.int .i64 1))))⟩, ⟨(some 18), none, (.q (.mov (.t 27)))⟩] [0, 1, 6, 16, 17, 18])))))))
   (.seq
    (.seq
     (.reg 7 [⟨(some 28), none, (.q (.mov (.t 0)))⟩, ⟨(some 29), none, (.q (.len 0 (.t 28)))⟩, ⟨(some 30), none, (.q (.bin .gtr (.t 29) (.c (.int .i64 16))))⟩, ⟨(some 31), none, (.q (.mov (.t 30)))⟩, ⟨(some 32), (some ⟨31, false⟩), (.q (.mov (.t 6)))⟩, ⟨(some 33), (some ⟨31, false⟩), (.q (.bin .gtr (.t 32) (.c (.int .i64 256))))⟩, ⟨(some 34), none, (.q (.pick (.t 31) (.c (.bool true)) (.t 33)))⟩] [0, 1, 34])
     (.cond (.t 34)
      (.seq
       (.reg 8 [⟨(some 4), none, (.q (.mov (.c .nilptr)))⟩, ⟨(some 5), none, (.q (.mov (.c (.int .i64 40))))⟩] [4, 5])
       .ret)
      .skip))
    (.seq
     (.reg 9 [⟨(some 35), none, (.q (.mov (.t 1)))⟩, ⟨(some 36), none, (.q (.len 0 (.t 35)))⟩, ⟨(some 37), none, .mkmap⟩, ⟨(some 38), none, (.q (.bld [.nilslice, (.int .i64 0), .nilmap] [⟨1, ⟨1, (.t 36)⟩⟩, ⟨2, ⟨1, (.t 37)⟩⟩]))⟩, ⟨(some 39), none, (.box (.t 38))⟩, ⟨(some 9), none, (.q (.mov (.t 39)))⟩] [0, 1, 9])
     (.seq
      (.seq
       (.reg 10 [⟨(some 40), none, (.q (.mov (.t 9)))⟩, ⟨(some 41), none, (.q (.mov (.t 1)))⟩, ⟨(some 42), none, (.call 46 [(.t 40), (.t 41), (.c (.int .i64 (-1))), (.c (.int .i64 1025))])⟩, ⟨(some 10), none, (.q (.mov (.t 42)))⟩] [0, 9, 10])
       (.seq
        (.reg 11 [⟨(some 43), none, (.q (.mov (.t 10)))⟩, ⟨(some 44), none, (.q (.bin .neq (.t 43) (.c (.int .i64 0))))⟩] [0, 9, 10, 44])
        (.cond (.t 44)
         (.seq
          (.reg 12 [⟨(some 45), none, (.q (.mov (.t 10)))⟩, ⟨(some 4), none, (.q (.mov (.c .nilptr)))⟩, ⟨(some 5), none, (.q (.mov (.t 45)))⟩] [4, 5])
          .ret)
         .skip)))
      (.seq
       (.seq
        (.reg 13 [⟨(some 46), none, (.q (.mov (.t 0)))⟩, ⟨(some 47), none, (.q (.len 0 (.t 46)))⟩, ⟨(some 48), none, (.q (.mov (.c (.int .i64 0))))⟩] [9, 46, 47, 48])
        (.block 2
         (.loop
          (.seq
           (.reg 14 [⟨(some 49), none, (.q (.bin .lss (.t 48) (.t 47)))⟩] [9, 46, 47, 48, 49])
           (.seq
            (.cond (.t 49)
            .skip
            (.exit 2))
            (.seq
            (.block 3
            (.seq
            (.reg 15 [⟨(some 50), none, (.q (.mov (.t 48)))⟩, ⟨(some 51), none, (.q (.iaddr 2 (.t 46) (.t 48)))⟩, ⟨(some 52), none, (.q (.load (some 2) (.t 51)))⟩, ⟨(some 12), none, (.alloc [(.int .i64 0), .nilslice])⟩, ⟨(some 11), none, (.q (.mov (.t 50)))⟩, ⟨none, none, (.store 2 (.t 12) (.t 52))⟩] [9, 11, 12, 46, 47, 48])
            (.seq
            (.seq
            (.reg 16 [⟨(some 53), none, (.q (.faddr 0 (.t 12)))⟩, ⟨(some 54), none, (.q (.load none (.t 53)))⟩, ⟨(some 55), none, (.q (.bin .lss (.t 54) (.c (.int .i64 0))))⟩, ⟨(some 56), none, (.q (.mov (.t 55)))⟩, ⟨(some 57), (some ⟨56, false⟩), (.q (.faddr 0 (.t 12)))⟩, ⟨(some 58), (some ⟨56, false⟩), (.q (.load none (.t 57)))⟩, ⟨(some 59), (some ⟨56, false⟩), (.q (.bin .gtr (.t 58) (.c (.int .i64 1024))))⟩, ⟨(some 60), none, (.q (.pick (.t 56) (.c (.bool true)) (.t 59)))⟩] [9, 11, 12, 46, 47, 48, 60])
            (.cond (.t 60)
            (.seq
            (.reg 17 [⟨(some 4), none, (.q (.mov (.c .nilptr)))⟩, ⟨(some 5), none, (.q (.mov (.c (.int .i64 4))))⟩] [4, 5])
            .ret)
            .skip))
            (.seq
            (.reg 18 [⟨(some 61), none, (.q (.mov (.t 9)))⟩, ⟨(some 62), none, (.q (.faddr 1 (.t 12)))⟩, ⟨(some 63), none, (.q (.load none (.t 62)))⟩, ⟨(some 64), none, (.q (.mov (.t 11)))⟩, ⟨(some 65), none, (.q (.faddr 0 (.t 12)))⟩, ⟨(some 66), none, (.q (.load none (.t 65)))⟩, ⟨(some 67), none, (.call 46 [(.t 61), (.t 63), (.t 64), (.t 66)])⟩, ⟨(some 13), none, (.q (.mov (.t 67)))⟩] [9, 13, 46, 47, 48])
            (.seq
            (.reg 19 [⟨(some 68), none, (.q (.mov (.t 13)))⟩, ⟨(some 69), none, (.q (.bin .neq (.t 68) (.c (.int .i64 0))))⟩] [9, 13, 46, 47, 48, 69])
            (.cond (.t 69)
            (.seq
            (.reg 20 [⟨(some 70), none, (.q (.mov (.t 13)))⟩, ⟨(some 4), none, (.q (.mov (.c .nilptr)))⟩, ⟨(some 5), none, (.q (.mov (.t 70)))⟩] [4, 5])
            .ret)
            .skip))))))
            (.reg 21 [⟨(some 71), none, (.q (.bin .add (.t 48) (.c (.int .i64 1))))⟩, ⟨(some 48), none, (.q (.mov (.t 71)))⟩] [9, 46, 47, 48])))))))
       (.seq
        (.reg 22 [⟨(some 72), none, (.q (.mov (.t 9)))⟩, ⟨(some 4), none, (.q (.mov (.t 72)))⟩, ⟨(some 5), none, (.q (.mov (.c (.int .i64 0))))⟩] [4, 5])
        .ret))))))))
theorem fok11 : FOK Tryz.prog 11 (73, ic11, [(.t 4), (.t 5)]) := .mk (pf := []) (an := [(0, [0, 1]), (1, [0, 1, 6]), (2, [0, 1, 6, 16, 17, 18]), (3, [0, 1, 6, 16, 17, 18, 19]), (4, [0, 1, 6, 8, 16, 17, 18]), (5, [0, 1, 6, 16, 17, 18]), (6, [0, 1, 6, 16, 17, 18]), (7, [0, 1, 34]), (8, [4, 5]), (9, [0, 1, 9]), (10, [0, 9, 10]), (11, [0, 9, 10, 44]), (12, [4, 5]), (13, [9, 46, 47, 48]), (14, [9, 46, 47, 48, 49]), (15, [9, 11, 12, 46, 47, 48]), (16, [9, 11, 12, 46, 47, 48, 60]), (17, [4, 5]), (18, [9, 13, 46, 47, 48]), (19, [9, 13, 46, 47, 48, 69]), (20, [4, 5]), (21, [9, 46, 47, 48]), (22, [4, 5])]) (by kernel_rfl) (fnOK_of Tryz.func11 (by kernel_rfl) (by kernel_rfl) (by kernel_rfl))
/-- (*chandlery/pool.Pool).Count -/
def ic13 : IC :=
(.seq
 (.reg 0 [⟨(some 2), none, (.q (.mov (.c (.int .i64 0))))⟩] [0])
 (.seq
  (.seq
   (.reg 1 [⟨(some 3), none, (.q (.mov (.t 0)))⟩, ⟨(some 4), none, (.q (.isnil (.pointer 78) false (.t 3)))⟩] [0, 4])
   (.cond (.t 4)
    (.seq
     (.reg 2 [⟨(some 2), none, (.q (.mov (.c (.int .i64 0))))⟩] [2])
     .ret)
    .skip))
  (.seq
   (.reg 3 [⟨(some 5), none, (.q (.mov (.t 0)))⟩, ⟨(some 6), none, (.q (.nchk (.t 5)))⟩, ⟨(some 7), none, (.q (.faddr 0 (.t 6)))⟩, ⟨(some 8), none, (.q (.load none (.t 7)))⟩, ⟨(some 9), none, (.q (.len 0 (.t 8)))⟩, ⟨(some 2), none, (.q (.mov (.t 9)))⟩] [2])
   .ret)))
theorem fok13 : FOK Tryz.prog 13 (10, ic13, [(.t 2)]) := .mk (pf := []) (an := [(0, [0]), (1, [0, 4]), (2, [2]), (3, [2])]) (by kernel_rfl) (fnOK_of Tryz.func13 (by kernel_rfl) (by kernel_rfl) (by kernel_rfl))
/-- (*chandlery/pool.Pool).Installed -/
def ic14 : IC :=
(.seq
 (.reg 0 [⟨(some 2), none, (.q (.mov (.c (.int .i64 0))))⟩] [0])
 (.seq
  (.seq
   (.reg 1 [⟨(some 3), none, (.q (.mov (.t 0)))⟩, ⟨(some 4), none, (.q (.isnil (.pointer 78) false (.t 3)))⟩] [0, 4])
   (.cond (.t 4)
    (.seq
     (.reg 2 [⟨(some 2), none, (.q (.mov (.c (.int .i64 0))))⟩] [2])
     .ret)
    .skip))
  (.seq
   (.reg 3 [⟨(some 5), none, (.q (.mov (.t 0)))⟩, ⟨(some 6), none, (.q (.nchk (.t 5)))⟩, ⟨(some 7), none, (.q (.faddr 1 (.t 6)))⟩, ⟨(some 8), none, (.q (.load none (.t 7)))⟩, ⟨(some 2), none, (.q (.mov (.t 8)))⟩] [2])
   .ret)))
theorem fok14 : FOK Tryz.prog 14 (9, ic14, [(.t 2)]) := .mk (pf := []) (an := [(0, [0]), (1, [0, 4]), (2, [2]), (3, [2])]) (by kernel_rfl) (fnOK_of Tryz.func14 (by kernel_rfl) (by kernel_rfl) (by kernel_rfl))
/-- chandlery/chandleryref12.Numbers -/
def ic15 : IC :=
(.seq
 (.reg 0 [⟨(some 4), none, (.q (.mov (.c (.bool false))))⟩] [0, 1])
 (.seq
  (.seq
   (.reg 1 [⟨(some 6), none, (.q (.mov (.t 0)))⟩, ⟨(some 7), none, (.q (.len 0 (.t 6)))⟩, ⟨(some 8), none, (.q (.mov (.t 1)))⟩, ⟨(some 9), none, (.q (.len 0 (.t 8)))⟩, ⟨(some 10), none, (.q (.bin .neq (.t 7) (.t 9)))⟩] [0, 1, 10])
   (.cond (.t 10)
    (.seq
     (.reg 2 [⟨(some 4), none, (.q (.mov (.c (.bool false))))⟩] [4])
     .ret)
    .skip))
  (.seq
   (.seq
    (.reg 3 [⟨(some 5), none, (.q (.mov (.c (.int .i64 0))))⟩] [0, 1, 5])
    (.block 0
     (.loop
      (.seq
       (.seq
        (.reg 4 [⟨(some 11), none, (.q (.mov (.t 5)))⟩, ⟨(some 12), none, (.q (.mov (.t 0)))⟩, ⟨(some 13), none, (.q (.len 0 (.t 12)))⟩, ⟨(some 14), none, (.q (.bin .lss (.t 11) (.t 13)))⟩] [0, 1, 5, 14])
        (.cond (.t 14)
         .skip
         (.exit 0)))
       (.seq
        (.block 1
         (.seq
          (.dreg 6 [⟨(some 17), none, (.q (.mov (.t 0)))⟩, ⟨(some 18), none, (.q (.mov (.t 5)))⟩, ⟨(some 19), none, (.q (.iaddr 1 (.t 17) (.t 18)))⟩, ⟨(some 20), none, (.q (.load none (.t 19)))⟩, ⟨(some 21), none, (.q (.mov (.t 1)))⟩, ⟨(some 22), none, (.q (.mov (.t 5)))⟩, ⟨(some 23), none, (.q (.iaddr 1 (.t 21) (.t 22)))⟩, ⟨(some 24), none, (.q (.load none (.t 23)))⟩, ⟨(some 25), none, (.q (.bin .neq (.t 20) (.t 24)))⟩] false [0, 1, 5, 25])
          (.cond (.t 25)
           (.seq
            (.reg 7 [⟨(some 4), none, (.q (.mov (.c (.bool false))))⟩] [4])
            .ret)
           .skip)))
        (.reg 5 [⟨(some 15), none, (.q (.mov (.t 5)))⟩, ⟨(some 16), none, (.q (.bin .add (.t 15) (.c (.int .i64 1))))⟩, ⟨(some 5), none, (.q (.mov (.t 16)))⟩] [0, 1, 5]))))))
   (.seq
    (.reg 8 [⟨(some 4), none, (.q (.mov (.c (.bool true))))⟩] [4])
    .ret))))
theorem fok15 : FOK Tryz.prog 15 (26, ic15, [(.t 4)]) := .mk (pf := []) (an := [(0, [0, 1]), (1, [0, 1, 10]), (2, [4]), (3, [0, 1, 5]), (4, [0, 1, 5, 14]), (5, [0, 1, 5]), (6, [0, 1, 5, 25]), (7, [4]), (8, [4])]) (by kernel_rfl) (fnOK_of Tryz.func15 (by kernel_rfl) (by kernel_rfl) (by kernel_rfl))
/-- (*chandlery/pool.Pool).Named -/
def ic16 : IC :=
(.seq
 (.reg 0 [⟨(some 4), none, (.q (.mov (.c .nilslice)))⟩] [0, 1])
 (.seq
  (.seq
   (.reg 1 [⟨(some 5), none, (.q (.mov (.t 0)))⟩, ⟨(some 6), none, (.q (.isnil (.pointer 78) false (.t 5)))⟩] [0, 1, 6])
   (.cond (.t 6)
    (.seq
     (.reg 2 [⟨(some 4), none, (.q (.mov (.c .nilslice)))⟩] [4])
     .ret)
    .skip))
  (.seq
   (.reg 3 [⟨(some 7), none, (.q (.mov (.t 0)))⟩, ⟨(some 8), none, (.q (.nchk (.t 7)))⟩, ⟨(some 9), none, (.q (.faddr 2 (.t 8)))⟩, ⟨(some 10), none, (.q (.load none (.t 9)))⟩, ⟨(some 11), none, (.q (.mov (.t 1)))⟩, ⟨(some 12), none, (.q (.lkp 2 .nilslice false (.t 10) (.t 11)))⟩, ⟨(some 13), none, (.call 49 [(.t 12)])⟩, ⟨(some 4), none, (.q (.mov (.t 13)))⟩] [4])
   .ret)))
theorem fok16 : FOK Tryz.prog 16 (14, ic16, [(.t 4)]) := .mk (pf := []) (an := [(0, [0, 1]), (1, [0, 1, 6]), (2, [4]), (3, [4])]) (by kernel_rfl) (fnOK_of Tryz.func16 (by kernel_rfl) (by kernel_rfl) (by kernel_rfl))
/-- chandlery/chandleryref06.Texts -/
def ic18 : IC :=
(.seq
 (.reg 0 [⟨(some 4), none, (.q (.mov (.c (.bool false))))⟩] [0, 1])
 (.seq
  (.seq
   (.reg 1 [⟨(some 6), none, (.q (.mov (.t 0)))⟩, ⟨(some 7), none, (.q (.len 0 (.t 6)))⟩, ⟨(some 8), none, (.q (.mov (.t 1)))⟩, ⟨(some 9), none, (.q (.len 0 (.t 8)))⟩, ⟨(some 10), none, (.q (.bin .neq (.t 7) (.t 9)))⟩] [0, 1, 10])
   (.cond (.t 10)
    (.seq
     (.reg 2 [⟨(some 4), none, (.q (.mov (.c (.bool false))))⟩] [4])
     .ret)
    .skip))
  (.seq
   (.seq
    (.reg 3 [⟨(some 5), none, (.q (.mov (.c (.int .i64 0))))⟩] [0, 1, 5])
    (.block 0
     (.loop
      (.seq
       (.seq
        (.reg 4 [⟨(some 11), none, (.q (.mov (.t 5)))⟩, ⟨(some 12), none, (.q (.mov (.t 0)))⟩, ⟨(some 13), none, (.q (.len 0 (.t 12)))⟩, ⟨(some 14), none, (.q (.bin .lss (.t 11) (.t 13)))⟩] [0, 1, 5, 14])
        (.cond (.t 14)
         .skip
         (.exit 0)))
       (.seq
        (.block 1
         (.seq
          (.dreg 6 [⟨(some 17), none, (.q (.mov (.t 0)))⟩, ⟨(some 18), none, (.q (.mov (.t 5)))⟩, ⟨(some 19), none, (.q (.iaddr 1 (.t 17) (.t 18)))⟩, ⟨(some 20), none, (.q (.load none (.t 19)))⟩, ⟨(some 21), none, (.q (.mov (.t 1)))⟩, ⟨(some 22), none, (.q (.mov (.t 5)))⟩, ⟨(some 23), none, (.q (.iaddr 1 (.t 21) (.t 22)))⟩, ⟨(some 24), none, (.q (.load none (.t 23)))⟩, ⟨(some 25), none, (.q (.bin .neq (.t 20) (.t 24)))⟩] false [0, 1, 5, 25])
          (.cond (.t 25)
           (.seq
            (.reg 7 [⟨(some 4), none, (.q (.mov (.c (.bool false))))⟩] [4])
            .ret)
           .skip)))
        (.reg 5 [⟨(some 15), none, (.q (.mov (.t 5)))⟩, ⟨(some 16), none, (.q (.bin .add (.t 15) (.c (.int .i64 1))))⟩, ⟨(some 5), none, (.q (.mov (.t 16)))⟩] [0, 1, 5]))))))
   (.seq
    (.reg 8 [⟨(some 4), none, (.q (.mov (.c (.bool true))))⟩] [4])
    .ret))))
theorem fok18 : FOK Tryz.prog 18 (26, ic18, [(.t 4)]) := .mk (pf := []) (an := [(0, [0, 1]), (1, [0, 1, 10]), (2, [4]), (3, [0, 1, 5]), (4, [0, 1, 5, 14]), (5, [0, 1, 5]), (6, [0, 1, 5, 25]), (7, [4]), (8, [4])]) (by kernel_rfl) (fnOK_of Tryz.func18 (by kernel_rfl) (by kernel_rfl) (by kernel_rfl))
/-- (*chandlery/pool.Pool).Names -/
def ic19 : IC :=
(.seq
 (.reg 0 [⟨(some 2), none, (.q (.mov (.c .nilslice)))⟩] [0])
 (.seq
  (.seq
   (.reg 1 [⟨(some 3), none, (.q (.mov (.t 0)))⟩, ⟨(some 4), none, (.q (.isnil (.pointer 78) false (.t 3)))⟩] [0, 4])
   (.cond (.t 4)
    (.seq
     (.reg 2 [⟨(some 2), none, (.q (.mov (.c .nilslice)))⟩] [2])
     .ret)
    .skip))
  (.seq
   (.reg 3 [⟨(some 5), none, (.q (.mov (.t 0)))⟩, ⟨(some 6), none, (.q (.nchk (.t 5)))⟩, ⟨(some 7), none, (.q (.faddr 2 (.t 6)))⟩, ⟨(some 8), none, (.q (.load none (.t 7)))⟩, ⟨(some 9), none, (.call 51 [(.t 8)])⟩, ⟨(some 10), none, (.call 50 [(.t 9)])⟩, ⟨(some 2), none, (.q (.mov (.t 10)))⟩] [2])
   .ret)))
theorem fok19 : FOK Tryz.prog 19 (11, ic19, [(.t 2)]) := .mk (pf := []) (an := [(0, [0]), (1, [0, 4]), (2, [2]), (3, [2])]) (by kernel_rfl) (fnOK_of Tryz.func19 (by kernel_rfl) (by kernel_rfl) (by kernel_rfl))
/-- (*chandlery/pool.Pool).Obsoletes -/
def ic21 : IC :=
(.seq
 (.reg 0 [⟨(some 6), none, (.q (.mov (.c (.bool false))))⟩] [0, 1, 2])
 (.seq
  (.dreg 1 [⟨(some 7), none, (.q (.mov (.t 0)))⟩, ⟨(some 8), none, (.q (.isnil (.pointer 78) true (.t 7)))⟩, ⟨(some 9), none, (.q (.mov (.t 8)))⟩, ⟨(some 10), (some ⟨9, true⟩), (.q (.mov (.t 0)))⟩, ⟨(some 11), (some ⟨9, true⟩), (.q (.nchk (.t 10)))⟩, ⟨(some 12), (some ⟨9, true⟩), (.q (.faddr 0 (.t 11)))⟩, ⟨(some 13), (some ⟨9, true⟩), (.q (.load none (.t 12)))⟩, ⟨(some 14), (some ⟨9, true⟩), (.q (.mov (.t 1)))⟩, ⟨(some 15), (some ⟨9, true⟩), (.call 52 [(.t 13), (.t 14)])⟩, ⟨(some 16), none, (.q (.pick (.t 9) (.t 15) (.c (.bool false))))⟩, ⟨(some 17), none, (.q (.mov (.t 16)))⟩, ⟨(some 18), (some ⟨17, true⟩), (.q (.mov (.t 0)))⟩, ⟨(some 19), (some ⟨17, true⟩), (.q (.nchk (.t 18)))⟩, ⟨(some 20), (some ⟨17, true⟩), (.q (.faddr 0 (.t 19)))⟩, ⟨(some 21), (some ⟨17, true⟩), (.q (.load none (.t 20)))⟩, ⟨(some 22), (some ⟨17, true⟩), (.q (.mov (.t 2)))⟩, ⟨(some 23), (some ⟨17, true⟩), (.call 52 [(.t 21), (.t 22)])⟩, ⟨(some 24), none, (.q (.pick (.t 17) (.t 23) (.c (.bool false))))⟩, ⟨(some 25), none, (.q (.mov (.t 24)))⟩, ⟨(some 26), (some ⟨25, true⟩), (.q (.mov (.t 1)))⟩, ⟨(some 27), (some ⟨25, true⟩), (.q (.mov (.t 2)))⟩, ⟨(some 28), (some ⟨25, true⟩), (.q (.bin .neq (.t 26) (.t 27)))⟩, ⟨(some 29), none, (.q (.pick (.t 25) (.t 28) (.c (.bool false))))⟩, ⟨(some 30), none, (.q (.mov (.t 29)))⟩, ⟨(some 31), (some ⟨30, true⟩), (.q (.mov (.t 0)))⟩, ⟨(some 32), (some ⟨30, true⟩), (.q (.nchk (.t 31)))⟩, ⟨(some 33), (some ⟨30, true⟩), (.q (.faddr 0 (.t 32)))⟩, ⟨(some 34), (some ⟨30, true⟩), (.q (.load none (.t 33)))⟩, ⟨(some 35), (some ⟨30, true⟩), (.q (.mov (.t 1)))⟩, ⟨(some 36), (some ⟨30, true⟩), (.q (.iaddr 17 (.t 34) (.t 35)))⟩, ⟨(some 37), (some ⟨30, true⟩), (.q (.faddr 0 (.t 36)))⟩, ⟨(some 38), (some ⟨30, true⟩), (.q (.load (some 15) (.t 37)))⟩, ⟨(some 39), (some ⟨30, true⟩), (.q (.mov (.t 0)))⟩, ⟨(some 40), (some ⟨30, true⟩), (.q (.nchk (.t 39)))⟩, ⟨(some 41), (some ⟨30, true⟩), (.q (.faddr 0 (.t 40)))⟩, ⟨(some 42), (some ⟨30, true⟩), (.q (.load none (.t 41)))⟩, ⟨(some 43), (some ⟨30, true⟩), (.q (.mov (.t 2)))⟩, ⟨(some 44), (some ⟨30, true⟩), (.q (.iaddr 17 (.t 42) (.t 43)))⟩, ⟨(some 45), (some ⟨30, true⟩), (.q (.faddr 0 (.t 44)))⟩, ⟨(some 46), (some ⟨30, true⟩), (.q (.load (some 15) (.t 45)))⟩, ⟨(some 47), (some ⟨30, true⟩), (.call 29 [(.t 38), (.t 46)])⟩, ⟨(some 48), none, (.q (.pick (.t 30) (.t 47) (.c (.bool false))))⟩, ⟨(some 6), none, (.q (.mov (.t 48)))⟩] false [6])
  .ret))
theorem fok21 : FOK Tryz.prog 21 (49, ic21, [(.t 6)]) := .mk (pf := []) (an := [(0, [0, 1, 2]), (1, [6])]) (by kernel_rfl) (fnOK_of Tryz.func21 (by kernel_rfl) (by kernel_rfl) (by kernel_rfl))
/-- (*chandlery/pool.Pool).Package -/
def ic23 : IC :=
(.seq
 (.reg 0 [⟨(some 4), none, (.alloc [(.str []), (.int .i64 0), (.str []), (.str []), (.int .u8 0), (.str []), .nilslice, .nilslice, .nilslice, .nilslice, .nilslice, .nilslice, .nilslice, .nilslice, .nilslice])⟩, ⟨(some 5), none, (.q (.mov (.c (.int .i64 0))))⟩] [0, 1, 4])
 (.seq
  (.seq
   (.reg 1 [⟨(some 6), none, (.q (.mov (.t 0)))⟩, ⟨(some 7), none, (.q (.isnil (.pointer 78) false (.t 6)))⟩, ⟨(some 8), none, (.q (.mov (.t 7)))⟩, ⟨(some 9), (some ⟨8, false⟩), (.q (.mov (.t 0)))⟩, ⟨(some 10), (some ⟨8, false⟩), (.q (.nchk (.t 9)))⟩, ⟨(some 11), (some ⟨8, false⟩), (.q (.faddr 0 (.t 10)))⟩, ⟨(some 12), (some ⟨8, false⟩), (.q (.load none (.t 11)))⟩, ⟨(some 13), (some ⟨8, false⟩), (.q (.mov (.t 1)))⟩, ⟨(some 14), (some ⟨8, false⟩), (.call 52 [(.t 12), (.t 13)])⟩, ⟨(some 15), (some ⟨8, false⟩), (.q (.not (.t 14)))⟩, ⟨(some 16), none, (.q (.pick (.t 8) (.c (.bool true)) (.t 15)))⟩] [0, 1, 4, 16])
   (.cond (.t 16)
    (.seq
     (.reg 2 [⟨(some 17), none, (.q (.bld [(.str []), (.int .i64 0), (.str []), (.str []), (.int .u8 0), (.str []), .nilslice, .nilslice, .nilslice, .nilslice, .nilslice, .nilslice, .nilslice, .nilslice, .nilslice] []))⟩, ⟨none, none, (.store 15 (.t 4) (.t 17))⟩, ⟨(some 5), none, (.q (.mov (.c (.int .i64 5))))⟩] [4, 5])
     .ret)
    .skip))
  (.seq
   (.reg 3 [⟨(some 18), none, (.q (.mov (.t 0)))⟩, ⟨(some 19), none, (.q (.nchk (.t 18)))⟩, ⟨(some 20), none, (.q (.faddr 0 (.t 19)))⟩, ⟨(some 21), none, (.q (.load none (.t 20)))⟩, ⟨(some 22), none, (.q (.mov (.t 1)))⟩, ⟨(some 23), none, (.q (.iaddr 17 (.t 21) (.t 22)))⟩, ⟨(some 24), none, (.q (.faddr 0 (.t 23)))⟩, ⟨(some 25), none, (.q (.load (some 15) (.t 24)))⟩, ⟨(some 26), none, (.call 54 [(.t 25)])⟩, ⟨none, none, (.store 15 (.t 4) (.t 26))⟩, ⟨(some 5), none, (.q (.mov (.c (.int .i64 0))))⟩] [4, 5])
   .ret)))
theorem fok23 : FOK Tryz.prog 23 (27, ic23, [(.cell (some 15) 4), (.t 5)]) := .mk (pf := []) (an := [(0, [0, 1, 4]), (1, [0, 1, 4, 16]), (2, [4, 5]), (3, [4, 5])]) (by kernel_rfl) (fnOK_of Tryz.func23 (by kernel_rfl) (by kernel_rfl) (by kernel_rfl))
/-- chandlery/chandleryref10.Same -/
def ic25 : IC :=
(.seq
 (.reg 0 [⟨(some 2), none, (.boxt (.t 0))⟩, ⟨(some 3), none, (.boxt (.t 1))⟩, ⟨(some 4), none, (.q (.mov (.c (.bool false))))⟩] [2, 3])
 (.seq
  (.reg 1 [⟨(some 5), none, (.q (.faddr 0 (.t 2)))⟩, ⟨(some 6), none, (.q (.load none (.t 5)))⟩, ⟨(some 7), none, (.q (.faddr 0 (.t 3)))⟩, ⟨(some 8), none, (.q (.load none (.t 7)))⟩, ⟨(some 9), none, (.q (.bin .eql (.t 6) (.t 8)))⟩, ⟨(some 10), none, (.q (.mov (.t 9)))⟩, ⟨(some 11), (some ⟨10, true⟩), (.q (.faddr 1 (.t 2)))⟩, ⟨(some 12), (some ⟨10, true⟩), (.q (.load (some 3) (.t 11)))⟩, ⟨(some 13), (some ⟨10, true⟩), (.q (.faddr 1 (.t 3)))⟩, ⟨(some 14), (some ⟨10, true⟩), (.q (.load (some 3) (.t 13)))⟩, ⟨(some 15), (some ⟨10, true⟩), (.q (.eqs [1, 2, 2] true false (.t 12) (.t 14)))⟩, ⟨(some 16), none, (.q (.pick (.t 10) (.t 15) (.c (.bool false))))⟩, ⟨(some 17), none, (.q (.mov (.t 16)))⟩, ⟨(some 18), (some ⟨17, true⟩), (.q (.faddr 4 (.t 2)))⟩, ⟨(some 19), (some ⟨17, true⟩), (.q (.load none (.t 18)))⟩, ⟨(some 20), (some ⟨17, true⟩), (.q (.faddr 4 (.t 3)))⟩, ⟨(some 21), (some ⟨17, true⟩), (.q (.load none (.t 20)))⟩, ⟨(some 22), (some ⟨17, true⟩), (.q (.bin .eql (.t 19) (.t 21)))⟩, ⟨(some 23), none, (.q (.pick (.t 17) (.t 22) (.c (.bool false))))⟩, ⟨(some 24), none, (.q (.mov (.t 23)))⟩, ⟨(some 25), (some ⟨24, true⟩), (.q (.faddr 5 (.t 2)))⟩, ⟨(some 26), (some ⟨24, true⟩), (.q (.load none (.t 25)))⟩, ⟨(some 27), (some ⟨24, true⟩), (.q (.faddr 5 (.t 3)))⟩, ⟨(some 28), (some ⟨24, true⟩), (.q (.load none (.t 27)))⟩, ⟨(some 29), (some ⟨24, true⟩), (.q (.bin .eql (.t 26) (.t 28)))⟩, ⟨(some 30), none, (.q (.pick (.t 24) (.t 29) (.c (.bool false))))⟩, ⟨(some 31), none, (.q (.mov (.t 30)))⟩, ⟨(some 32), (some ⟨31, true⟩), (.q (.faddr 6 (.t 2)))⟩, ⟨(some 33), (some ⟨31, true⟩), (.q (.load none (.t 32)))⟩, ⟨(some 34), (some ⟨31, true⟩), (.q (.faddr 6 (.t 3)))⟩, ⟨(some 35), (some ⟨31, true⟩), (.q (.load none (.t 34)))⟩, ⟨(some 36), (some ⟨31, true⟩), (.call 55 [(.t 33), (.t 35)])⟩, ⟨(some 37), none, (.q (.pick (.t 31) (.t 36) (.c (.bool false))))⟩, ⟨(some 38), none, (.q (.mov (.t 37)))⟩, ⟨(some 39), (some ⟨38, true⟩), (.q (.faddr 7 (.t 2)))⟩, ⟨(some 40), (some ⟨38, true⟩), (.q (.load none (.t 39)))⟩, ⟨(some 41), (some ⟨38, true⟩), (.q (.faddr 7 (.t 3)))⟩, ⟨(some 42), (some ⟨38, true⟩), (.q (.load none (.t 41)))⟩, ⟨(some 43), (some ⟨38, true⟩), (.call 56 [(.t 40), (.t 42)])⟩, ⟨(some 44), none, (.q (.pick (.t 38) (.t 43) (.c (.bool false))))⟩, ⟨(some 45), none, (.q (.mov (.t 44)))⟩, ⟨(some 46), (some ⟨45, true⟩), (.q (.faddr 8 (.t 2)))⟩, ⟨(some 47), (some ⟨45, true⟩), (.q (.load none (.t 46)))⟩, ⟨(some 48), (some ⟨45, true⟩), (.q (.faddr 8 (.t 3)))⟩, ⟨(some 49), (some ⟨45, true⟩), (.q (.load none (.t 48)))⟩, ⟨(some 50), (some ⟨45, true⟩), (.call 56 [(.t 47), (.t 49)])⟩, ⟨(some 51), none, (.q (.pick (.t 45) (.t 50) (.c (.bool false))))⟩, ⟨(some 52), none, (.q (.mov (.t 51)))⟩, ⟨(some 53), (some ⟨52, true⟩), (.q (.faddr 9 (.t 2)))⟩, ⟨(some 54), (some ⟨52, true⟩), (.q (.load none (.t 53)))⟩, ⟨(some 55), (some ⟨52, true⟩), (.q (.faddr 9 (.t 3)))⟩, ⟨(some 56), (some ⟨52, true⟩), (.q (.load none (.t 55)))⟩, ⟨(some 57), (some ⟨52, true⟩), (.call 55 [(.t 54), (.t 56)])⟩, ⟨(some 58), none, (.q (.pick (.t 52) (.t 57) (.c (.bool false))))⟩, ⟨(some 59), none, (.q (.mov (.t 58)))⟩, ⟨(some 60), (some ⟨59, true⟩), (.q (.faddr 10 (.t 2)))⟩, ⟨(some 61), (some ⟨59, true⟩), (.q (.load none (.t 60)))⟩, ⟨(some 62), (some ⟨59, true⟩), (.q (.faddr 10 (.t 3)))⟩, ⟨(some 63), (some ⟨59, true⟩), (.q (.load none (.t 62)))⟩, ⟨(some 64), (some ⟨59, true⟩), (.call 56 [(.t 61), (.t 63)])⟩, ⟨(some 65), none, (.q (.pick (.t 59) (.t 64) (.c (.bool false))))⟩, ⟨(some 66), none, (.q (.mov (.t 65)))⟩, ⟨(some 67), (some ⟨66, true⟩), (.q (.faddr 11 (.t 2)))⟩, ⟨(some 68), (some ⟨66, true⟩), (.q (.load none (.t 67)))⟩, ⟨(some 69), (some ⟨66, true⟩), (.q (.faddr 11 (.t 3)))⟩, ⟨(some 70), (some ⟨66, true⟩), (.q (.load none (.t 69)))⟩, ⟨(some 71), (some ⟨66, true⟩), (.call 56 [(.t 68), (.t 70)])⟩, ⟨(some 72), none, (.q (.pick (.t 66) (.t 71) (.c (.bool false))))⟩, ⟨(some 73), none, (.q (.mov (.t 72)))⟩, ⟨(some 74), (some ⟨73, true⟩), (.q (.faddr 12 (.t 2)))⟩, ⟨(some 75), (some ⟨73, true⟩), (.q (.load none (.t 74)))⟩, ⟨(some 76), (some ⟨73, true⟩), (.q (.faddr 12 (.t 3)))⟩, ⟨(some 77), (some ⟨73, true⟩), (.q (.load none (.t 76)))⟩, ⟨(some 78), (some ⟨73, true⟩), (.call 56 [(.t 75), (.t 77)])⟩, ⟨(some 79), none, (.q (.pick (.t 73) (.t 78) (.c (.bool false))))⟩, ⟨(some 80), none, (.q (.mov (.t 79)))⟩, ⟨(some 81), (some ⟨80, true⟩), (.q (.faddr 13 (.t 2)))⟩, ⟨(some 82), (some ⟨80, true⟩), (.q (.load none (.t 81)))⟩, ⟨(some 83), (some ⟨80, true⟩), (.q (.faddr 13 (.t 3)))⟩, ⟨(some 84), (some ⟨80, true⟩), (.q (.load none (.t 83)))⟩, ⟨(some 85), (some ⟨80, true⟩), (.call 56 [(.t 82), (.t 84)])⟩, ⟨(some 86), none, (.q (.pick (.t 80) (.t 85) (.c (.bool false))))⟩, ⟨(some 87), none, (.q (.mov (.t 86)))⟩, ⟨(some 88), (some ⟨87, true⟩), (.q (.faddr 14 (.t 2)))⟩, ⟨(some 89), (some ⟨87, true⟩), (.q (.load none (.t 88)))⟩, ⟨(some 90), (some ⟨87, true⟩), (.q (.faddr 14 (.t 3)))⟩, ⟨(some 91), (some ⟨87, true⟩), (.q (.load none (.t 90)))⟩, ⟨(some 92), (some ⟨87, true⟩), (.call 18 [(.t 89), (.t 91)])⟩, ⟨(some 93), none, (.q (.pick (.t 87) (.t 92) (.c (.bool false))))⟩, ⟨(some 4), none, (.q (.mov (.t 93)))⟩] [4])
  .ret))
theorem fok25 : FOK Tryz.prog 25 (94, ic25, [(.t 4)]) := .mk (pf := [1000002, 1000003]) (an := [(0, [2, 3]), (1, [4])]) (by kernel_rfl) (fnOK_of Tryz.func25 (by kernel_rfl) (by kernel_rfl) (by kernel_rfl))
/-- (*chandlery/pool.Pool).Repo -/
def ic26 : IC :=
(.seq
 (.reg 0 [⟨(some 4), none, (.q (.mov (.c (.int .i64 0))))⟩] [0, 1])
 (.seq
  (.seq
   (.reg 1 [⟨(some 5), none, (.q (.mov (.t 0)))⟩, ⟨(some 6), none, (.q (.isnil (.pointer 78) false (.t 5)))⟩, ⟨(some 7), none, (.q (.mov (.t 6)))⟩, ⟨(some 8), (some ⟨7, false⟩), (.q (.mov (.t 0)))⟩, ⟨(some 9), (some ⟨7, false⟩), (.q (.nchk (.t 8)))⟩, ⟨(some 10), (some ⟨7, false⟩), (.q (.faddr 0 (.t 9)))⟩, ⟨(some 11), (some ⟨7, false⟩), (.q (.load none (.t 10)))⟩, ⟨(some 12), (some ⟨7, false⟩), (.q (.mov (.t 1)))⟩, ⟨(some 13), (some ⟨7, false⟩), (.call 52 [(.t 11), (.t 12)])⟩, ⟨(some 14), (some ⟨7, false⟩), (.q (.not (.t 13)))⟩, ⟨(some 15), none, (.q (.pick (.t 7) (.c (.bool true)) (.t 14)))⟩] [0, 1, 15])
   (.cond (.t 15)
    (.seq
     (.reg 2 [⟨(some 4), none, (.q (.mov (.c (.int .i64 (-1)))))⟩] [4])
     .ret)
    .skip))
  (.seq
   (.reg 3 [⟨(some 16), none, (.q (.mov (.t 0)))⟩, ⟨(some 17), none, (.q (.nchk (.t 16)))⟩, ⟨(some 18), none, (.q (.faddr 0 (.t 17)))⟩, ⟨(some 19), none, (.q (.load none (.t 18)))⟩, ⟨(some 20), none, (.q (.mov (.t 1)))⟩, ⟨(some 21), none, (.q (.iaddr 17 (.t 19) (.t 20)))⟩, ⟨(some 22), none, (.q (.faddr 15 (.t 21)))⟩, ⟨(some 23), none, (.q (.load none (.t 22)))⟩, ⟨(some 4), none, (.q (.mov (.t 23)))⟩] [4])
   .ret)))
theorem fok26 : FOK Tryz.prog 26 (24, ic26, [(.t 4)]) := .mk (pf := []) (an := [(0, [0, 1]), (1, [0, 1, 15]), (2, [4]), (3, [4])]) (by kernel_rfl) (fnOK_of Tryz.func26 (by kernel_rfl) (by kernel_rfl) (by kernel_rfl))
/-- (*chandlery/pool.Pool).Priority -/
def ic27 : IC :=
(.seq
 (.reg 0 [⟨(some 4), none, (.q (.mov (.c (.int .i64 0))))⟩] [0, 1])
 (.seq
  (.seq
   (.reg 1 [⟨(some 5), none, (.q (.mov (.t 0)))⟩, ⟨(some 6), none, (.q (.isnil (.pointer 78) false (.t 5)))⟩, ⟨(some 7), none, (.q (.mov (.t 6)))⟩, ⟨(some 8), (some ⟨7, false⟩), (.q (.mov (.t 0)))⟩, ⟨(some 9), (some ⟨7, false⟩), (.q (.nchk (.t 8)))⟩, ⟨(some 10), (some ⟨7, false⟩), (.q (.faddr 0 (.t 9)))⟩, ⟨(some 11), (some ⟨7, false⟩), (.q (.load none (.t 10)))⟩, ⟨(some 12), (some ⟨7, false⟩), (.q (.mov (.t 1)))⟩, ⟨(some 13), (some ⟨7, false⟩), (.call 52 [(.t 11), (.t 12)])⟩, ⟨(some 14), (some ⟨7, false⟩), (.q (.not (.t 13)))⟩, ⟨(some 15), none, (.q (.pick (.t 7) (.c (.bool true)) (.t 14)))⟩] [0, 1, 15])
   (.cond (.t 15)
    (.seq
     (.reg 2 [⟨(some 4), none, (.q (.mov (.c (.int .i64 0))))⟩] [4])
     .ret)
    .skip))
  (.seq
   (.reg 3 [⟨(some 16), none, (.q (.mov (.t 0)))⟩, ⟨(some 17), none, (.q (.nchk (.t 16)))⟩, ⟨(some 18), none, (.q (.faddr 0 (.t 17)))⟩, ⟨(some 19), none, (.q (.load none (.t 18)))⟩, ⟨(some 20), none, (.q (.mov (.t 1)))⟩, ⟨(some 21), none, (.q (.iaddr 17 (.t 19) (.t 20)))⟩, ⟨(some 22), none, (.q (.faddr 16 (.t 21)))⟩, ⟨(some 23), none, (.q (.load none (.t 22)))⟩, ⟨(some 4), none, (.q (.mov (.t 23)))⟩] [4])
   .ret)))
theorem fok27 : FOK Tryz.prog 27 (24, ic27, [(.t 4)]) := .mk (pf := []) (an := [(0, [0, 1]), (1, [0, 1, 15]), (2, [4]), (3, [4])]) (by kernel_rfl) (fnOK_of Tryz.func27 (by kernel_rfl) (by kernel_rfl) (by kernel_rfl))
/-- chandlery/chandlerylaw12.named -/
def ic28 : IC :=
(.seq
 (.reg 0 [⟨(some 2), none, (.alloc [(.str []), (.int .i64 0), (.str []), (.str []), (.int .u8 0), (.str []), .nilslice, .nilslice, .nilslice, .nilslice, .nilslice, .nilslice, .nilslice, .nilslice, .nilslice])⟩] [0, 2])
 (.seq
  (.reg 1 [⟨(some 3), none, (.q (.mov (.t 0)))⟩, ⟨(some 4), none, (.q (.bld [(.int .i64 0), (.str []), (.str [])] [⟨1, ⟨1, (.c (.str [49]))⟩⟩, ⟨2, ⟨1, (.c (.str [49]))⟩⟩]))⟩, ⟨(some 5), none, (.q (.bld [(.str []), (.int .i64 0), (.str []), (.str []), (.int .u8 0), (.str []), .nilslice, .nilslice, .nilslice, .nilslice, .nilslice, .nilslice, .nilslice, .nilslice, .nilslice] [⟨0, ⟨1, (.t 3)⟩⟩, ⟨1, ⟨3, (.t 4)⟩⟩, ⟨4, ⟨1, (.c (.int .u8 1))⟩⟩]))⟩, ⟨none, none, (.store 15 (.t 2) (.t 5))⟩] [2])
  .ret))
theorem fok28 : FOK Tryz.prog 28 (6, ic28, [(.cell (some 15) 2)]) := .mk (pf := []) (an := [(0, [0, 2]), (1, [2])]) (by kernel_rfl) (fnOK_of Tryz.func28 (by kernel_rfl) (by kernel_rfl) (by kernel_rfl))
/-- chandlery/pkg.Obsoletes -/
def ic29 : IC :=
(.seq
 (.reg 0 [⟨(some 2), none, (.boxt (.t 0))⟩, ⟨(some 3), none, (.boxt (.t 1))⟩, ⟨(some 4), none, (.q (.mov (.c (.bool false))))⟩] [2, 3])
 (.seq
  (.reg 1 [⟨(some 5), none, (.q (.faddr 9 (.t 2)))⟩, ⟨(some 6), none, (.q (.load none (.t 5)))⟩, ⟨(some 7), none, (.q (.mkf 58 [] [(.t 3)]))⟩, ⟨(some 8), none, (.call 57 [(.t 6), (.t 7)])⟩, ⟨(some 4), none, (.q (.mov (.t 8)))⟩] [4])
  .ret))
theorem fok29 : FOK Tryz.prog 29 (9, ic29, [(.t 4)]) := .mk (pf := [1000002, 1000003]) (an := [(0, [2, 3]), (1, [4])]) (by kernel_rfl) (fnOK_of Tryz.func29 (by kernel_rfl) (by kernel_rfl) (by kernel_rfl))
/-- chandlery/pkg.Named -/
def ic44 : IC :=
(.seq
 (.reg 0 [⟨(some 2), none, (.boxt (.t 0))⟩, ⟨(some 3), none, (.boxt (.t 1))⟩, ⟨(some 4), none, (.q (.mov (.c (.bool false))))⟩] [2, 3])
 (.seq
  (.dreg 1 [⟨(some 5), none, (.q (.load (some 15) (.t 2)))⟩, ⟨(some 6), none, (.pcall 74 [(.t 5)])⟩, ⟨(some 7), none, (.q (.load (some 5) (.t 3)))⟩, ⟨(some 8), none, (.pcall 72 [(.t 6), (.t 7)])⟩, ⟨(some 4), none, (.q (.mov (.t 8)))⟩] false [4])
  .ret))
theorem fok44 : FOK Tryz.prog 44 (9, ic44, [(.t 4)]) := .mk (pf := ([1000002, 1000003] ++ allF0)) (an := [(0, [2, 3]), (1, [4])]) (by kernel_rfl) (fnOK_of Tryz.func44 (by kernel_rfl) (by kernel_rfl) (by kernel_rfl))
/-- (*chandlery/pool.Pool).add -/
def ic46 : IC :=
(.seq
 (.reg 0 [⟨(some 8), none, (.q (.mov (.c (.int .i64 0))))⟩] [0, 1, 2, 3])
 (.seq
  (.seq
   (.reg 1 [⟨(some 11), none, (.q (.mov (.t 1)))⟩, ⟨(some 12), none, (.q (.len 0 (.t 11)))⟩, ⟨(some 13), none, (.q (.mov (.c (.int .i64 0))))⟩] [0, 2, 3, 11, 12, 13])
   (.block 0
    (.loop
     (.seq
      (.reg 2 [⟨(some 14), none, (.q (.bin .lss (.t 13) (.t 12)))⟩] [0, 2, 3, 11, 12, 13, 14])
      (.seq
       (.cond (.t 14)
        .skip
        (.exit 0))
       (.seq
        (.block 1
         (.seq
          (.reg 3 [⟨(some 15), none, (.q (.iaddr 15 (.t 11) (.t 13)))⟩, ⟨(some 16), none, (.q (.load (some 15) (.t 15)))⟩, ⟨(some 10), none, (.alloc [(.str []), (.int .i64 0), (.str []), (.str []), (.int .u8 0), (.str []), .nilslice, .nilslice, .nilslice, .nilslice, .nilslice, .nilslice, .nilslice, .nilslice, .nilslice])⟩, ⟨none, none, (.store 15 (.t 10) (.t 16))⟩] [0, 2, 3, 10, 11, 12, 13])
          (.seq
           (.seq
            (.reg 4 [⟨(some 17), none, (.q (.load (some 15) (.t 10)))⟩, ⟨(some 18), none, (.pcall 76 [(.t 17)])⟩, ⟨(some 19), none, (.q (.not (.t 18)))⟩] [0, 2, 3, 10, 11, 12, 13, 19])
            (.cond (.t 19)
            (.seq
            (.reg 5 [⟨(some 8), none, (.q (.mov (.c (.int .i64 4))))⟩] [8])
            .ret)
            .skip))
           (.seq
            (.dreg 6 [⟨(some 20), none, (.q (.mov (.t 0)))⟩, ⟨(some 21), none, (.q (.nchk (.t 20)))⟩, ⟨(some 22), none, (.q (.faddr 2 (.t 21)))⟩, ⟨(some 23), none, (.q (.load none (.t 22)))⟩, ⟨(some 24), none, (.q (.faddr 0 (.t 10)))⟩, ⟨(some 25), none, (.q (.load none (.t 24)))⟩, ⟨(some 26), none, (.q (.mov (.t 0)))⟩, ⟨(some 27), none, (.q (.nchk (.t 26)))⟩, ⟨(some 28), none, (.q (.faddr 2 (.t 27)))⟩, ⟨(some 29), none, (.q (.load none (.t 28)))⟩, ⟨(some 30), none, (.q (.faddr 0 (.t 10)))⟩, ⟨(some 31), none, (.q (.load none (.t 30)))⟩, ⟨(some 32), none, (.q (.lkp 2 .nilslice false (.t 29) (.t 31)))⟩, ⟨(some 33), none, (.q (.mov (.t 0)))⟩, ⟨(some 34), none, (.q (.nchk (.t 33)))⟩, ⟨(some 35), none, (.q (.faddr 0 (.t 34)))⟩, ⟨(some 36), none, (.q (.load none (.t 35)))⟩, ⟨(some 37), none, (.q (.len 0 (.t 36)))⟩, ⟨(some 38), none, (.bslt 1 1 [(.int .i64 0)] [⟨0, ⟨1, (.t 37)⟩⟩])⟩, ⟨(some 39), none, (.app 1 (.t 32) (.t 38))⟩, ⟨none, none, (.mupd 2 (.t 23) (.t 25) (.t 39))⟩] true [0, 2, 3, 10, 11, 12, 13])
            (.dreg 7 [⟨(some 40), none, (.q (.mov (.t 0)))⟩, ⟨(some 41), none, (.q (.mov (.t 0)))⟩, ⟨(some 42), none, (.q (.nchk (.t 41)))⟩, ⟨(some 43), none, (.q (.faddr 0 (.t 42)))⟩, ⟨(some 44), none, (.q (.load none (.t 43)))⟩, ⟨(some 45), none, (.q (.load (some 15) (.t 10)))⟩, ⟨(some 46), none, (.pcall 54 [(.t 45)])⟩, ⟨(some 47), none, (.q (.mov (.t 2)))⟩, ⟨(some 48), none, (.q (.mov (.t 3)))⟩, ⟨(some 49), none, (.q (.bld [(.str []), (.int .i64 0), (.str []), (.str []), (.int .u8 0), (.str []), .nilslice, .nilslice, .nilslice, .nilslice, .nilslice, .nilslice, .nilslice, .nilslice, .nilslice, (.int .i64 0), (.int .i64 0)] [⟨0, ⟨15, (.t 46)⟩⟩, ⟨15, ⟨1, (.t 47)⟩⟩, ⟨16, ⟨1, (.t 48)⟩⟩]))⟩, ⟨(some 50), none, (.bslt 17 1 [(.str []), (.int .i64 0), (.str []), (.str []), (.int .u8 0), (.str []), .nilslice, .nilslice, .nilslice, .nilslice, .nilslice, .nilslice, .nilslice, .nilslice, .nilslice, (.int .i64 0), (.int .i64 0)] [⟨0, ⟨17, (.t 49)⟩⟩])⟩, ⟨(some 51), none, (.app 17 (.t 44) (.t 50))⟩, ⟨(some 52), none, (.q (.nchk (.t 40)))⟩, ⟨(some 53), none, (.q (.faddr 0 (.t 52)))⟩, ⟨none, none, (.store 1 (.t 53) (.t 51))⟩] true [0, 2, 3, 11, 12, 13])))))
        (.reg 8 [⟨(some 54), none, (.q (.bin .add (.t 13) (.c (.int .i64 1))))⟩, ⟨(some 13), none, (.q (.mov (.t 54)))⟩] [0, 2, 3, 11, 12, 13])))))))
  (.seq
   (.reg 9 [⟨(some 8), none, (.q (.mov (.c (.int .i64 0))))⟩] [8])
   .ret)))
theorem fok46 : FOK Tryz.prog 46 (55, ic46, [(.t 8)]) := .mk (pf := ([1000038, 1000050] ++ allF0)) (an := [(0, [0, 1, 2, 3]), (1, [0, 2, 3, 11, 12, 13]), (2, [0, 2, 3, 11, 12, 13, 14]), (3, [0, 2, 3, 10, 11, 12, 13]), (4, [0, 2, 3, 10, 11, 12, 13, 19]), (5, [8]), (6, [0, 2, 3, 10, 11, 12, 13]), (7, [0, 2, 3, 11, 12, 13]), (8, [0, 2, 3, 11, 12, 13]), (9, [8])]) (by kernel_rfl) (fnOK_of Tryz.func46 (by kernel_rfl) (by kernel_rfl) (by kernel_rfl))
/-- slices.Clone[[]int,int] -/
def ic49 : IC :=
(.seq
 (.reg 0 [⟨(some 2), none, (.q (.mov (.c .nilslice)))⟩] [0])
 (.seq
  (.seq
   (.reg 1 [⟨(some 3), none, (.q (.mov (.t 0)))⟩, ⟨(some 4), none, (.q (.isnil (.slice 3) false (.t 3)))⟩] [0, 4])
   (.cond (.t 4)
    (.seq
     (.reg 2 [⟨(some 2), none, (.q (.mov (.c .nilslice)))⟩] [2])
     .ret)
    .skip))
  (.seq
   (.reg 3 [⟨(some 5), none, (.bsl 1 0 [(.int .i64 0)] [])⟩, ⟨(some 6), none, (.q (.mov (.t 0)))⟩, ⟨(some 7), none, (.app 1 (.t 5) (.t 6))⟩, ⟨(some 2), none, (.q (.mov (.t 7)))⟩] [2])
   .ret)))
theorem fok49 : FOK Tryz.prog 49 (8, ic49, [(.t 2)]) := .mk (pf := []) (an := [(0, [0]), (1, [0, 4]), (2, [2]), (3, [2])]) (by kernel_rfl) (fnOK_of Tryz.func49 (by kernel_rfl) (by kernel_rfl) (by kernel_rfl))
/-- slices.Sorted[string] -/
def ic50 : IC :=
(.seq
 (.reg 0 [⟨(some 2), none, (.q (.mov (.c .nilslice)))⟩] [0])
 (.seq
  (.reg 1 [⟨(some 4), none, (.q (.mov (.t 0)))⟩, ⟨(some 5), none, (.call 84 [(.t 4)])⟩, ⟨(some 3), none, (.q (.mov (.t 5)))⟩] [3])
  (.seq
   (.reg 2 [⟨(some 6), none, (.q (.mov (.t 3)))⟩, ⟨(some 7), none, (.call 85 [(.t 6)])⟩] [3])
   (.seq
    (.reg 3 [⟨(some 8), none, (.q (.mov (.t 3)))⟩, ⟨(some 2), none, (.q (.mov (.t 8)))⟩] [2])
    .ret))))
theorem fok50 : FOK Tryz.prog 50 (9, ic50, [(.t 2)]) := .mk (pf := []) (an := [(0, [0]), (1, [3]), (2, [3]), (3, [2])]) (by kernel_rfl) (fnOK_of Tryz.func50 (by kernel_rfl) (by kernel_rfl) (by kernel_rfl))
/-- maps.Keys[map[string][]int,string,[]int] -/
def ic51 : IC :=
(.seq
 (.reg 0 [⟨(some 1), none, (.boxt (.t 0))⟩, ⟨(some 2), none, (.q (.mov (.c .nilfunc)))⟩] [1])
 (.seq
  (.reg 1 [⟨(some 3), none, (.q (.mkf 86 [] [(.t 1)]))⟩, ⟨(some 2), none, (.q (.mov (.t 3)))⟩] [2])
  .ret))
theorem fok51 : FOK Tryz.prog 51 (4, ic51, [(.t 2)]) := .mk (pf := [1000001]) (an := [(0, [1]), (1, [2])]) (by kernel_rfl) (fnOK_of Tryz.func51 (by kernel_rfl) (by kernel_rfl) (by kernel_rfl))
/-- (chandlery/pool.rows).is -/
def ic52 : IC :=
(.seq
 (.reg 0 [⟨(some 4), none, (.q (.mov (.c (.bool false))))⟩] [0, 1])
 (.seq
  (.reg 1 [⟨(some 5), none, (.q (.mov (.t 1)))⟩, ⟨(some 6), none, (.q (.bin .geq (.t 5) (.c (.int .i64 0))))⟩, ⟨(some 7), none, (.q (.mov (.t 6)))⟩, ⟨(some 8), (some ⟨7, true⟩), (.q (.mov (.t 1)))⟩, ⟨(some 9), (some ⟨7, true⟩), (.q (.mov (.t 0)))⟩, ⟨(some 10), (some ⟨7, true⟩), (.q (.len 0 (.t 9)))⟩, ⟨(some 11), (some ⟨7, true⟩), (.q (.bin .lss (.t 8) (.t 10)))⟩, ⟨(some 12), none, (.q (.pick (.t 7) (.t 11) (.c (.bool false))))⟩, ⟨(some 4), none, (.q (.mov (.t 12)))⟩] [4])
  .ret))
theorem fok52 : FOK Tryz.prog 52 (13, ic52, [(.t 4)]) := .mk (pf := []) (an := [(0, [0, 1]), (1, [4])]) (by kernel_rfl) (fnOK_of Tryz.func52 (by kernel_rfl) (by kernel_rfl) (by kernel_rfl))
/-- chandlery/pkg.Copy -/
def ic54 : IC :=
(.seq
 (.reg 0 [⟨(some 1), none, (.box (.t 0))⟩, ⟨(some 2), none, (.alloc [(.str []), (.int .i64 0), (.str []), (.str []), (.int .u8 0), (.str []), .nilslice, .nilslice, .nilslice, .nilslice, .nilslice, .nilslice, .nilslice, .nilslice, .nilslice])⟩] [1, 2])
 (.seq
  (.dreg 1 [⟨(some 7), none, (.q (.faddr 6 (.t 1)))⟩, ⟨(some 8), none, (.q (.load none (.t 7)))⟩, ⟨(some 9), none, (.pcall 88 [(.t 8)])⟩, ⟨(some 10), none, (.q (.faddr 9 (.t 1)))⟩, ⟨(some 11), none, (.q (.load none (.t 10)))⟩, ⟨(some 12), none, (.pcall 88 [(.t 11)])⟩, ⟨(some 13), none, (.q (.faddr 14 (.t 1)))⟩, ⟨(some 14), none, (.q (.load none (.t 13)))⟩, ⟨(some 15), none, (.pcall 89 [(.t 14)])⟩, ⟨(some 16), none, (.q (.faddr 6 (.t 1)))⟩, ⟨none, none, (.store 1 (.t 16) (.t 9))⟩, ⟨(some 17), none, (.q (.faddr 9 (.t 1)))⟩, ⟨none, none, (.store 1 (.t 17) (.t 12))⟩, ⟨(some 18), none, (.q (.faddr 14 (.t 1)))⟩, ⟨none, none, (.store 1 (.t 18) (.t 15))⟩] false [1, 2])
  (.seq
   (.seq
    (.reg 2 [⟨(some 19), none, (.q (.faddr 7 (.t 1)))⟩, ⟨(some 20), none, (.q (.faddr 8 (.t 1)))⟩, ⟨(some 21), none, (.q (.faddr 10 (.t 1)))⟩, ⟨(some 22), none, (.q (.faddr 11 (.t 1)))⟩, ⟨(some 23), none, (.q (.faddr 12 (.t 1)))⟩, ⟨(some 24), none, (.q (.faddr 13 (.t 1)))⟩, ⟨(some 25), none, (.bslt 1 6 [.nilptr] [⟨0, ⟨1, (.t 19)⟩⟩, ⟨1, ⟨1, (.t 20)⟩⟩, ⟨2, ⟨1, (.t 21)⟩⟩, ⟨3, ⟨1, (.t 22)⟩⟩, ⟨4, ⟨1, (.t 23)⟩⟩, ⟨5, ⟨1, (.t 24)⟩⟩])⟩, ⟨(some 26), none, (.q (.len 0 (.t 25)))⟩, ⟨(some 27), none, (.q (.mov (.c (.int .i64 0))))⟩] [1, 2, 25, 26, 27])
    (.block 0
     (.loop
      (.seq
       (.reg 3 [⟨(some 28), none, (.q (.bin .lss (.t 27) (.t 26)))⟩] [1, 2, 25, 26, 27, 28])
       (.seq
        (.cond (.t 28)
         .skip
         (.exit 0))
        (.seq
         (.block 1
          (.seq
           (.reg 4 [⟨(some 29), none, (.q (.iaddr 1 (.t 25) (.t 27)))⟩, ⟨(some 30), none, (.q (.load none (.t 29)))⟩, ⟨(some 4), none, (.q (.mov (.t 30)))⟩] [1, 2, 4, 25, 26, 27])
           (.seq
            (.reg 5 [⟨(some 31), none, (.q (.mov (.t 4)))⟩, ⟨(some 32), none, (.q (.mov (.t 4)))⟩, ⟨(some 33), none, (.q (.nchk (.t 32)))⟩, ⟨(some 34), none, (.q (.load none (.t 33)))⟩, ⟨(some 35), none, (.call 90 [(.t 34)])⟩, ⟨(some 36), none, (.q (.nchk (.t 31)))⟩, ⟨none, none, (.store 1 (.t 36) (.t 35))⟩] [1, 2, 4, 25, 26, 27])
            (.seq
            (.reg 6 [⟨(some 37), none, (.q (.mov (.t 4)))⟩, ⟨(some 38), none, (.q (.nchk (.t 37)))⟩, ⟨(some 39), none, (.q (.load none (.t 38)))⟩, ⟨(some 40), none, (.q (.len 0 (.t 39)))⟩, ⟨(some 41), none, (.q (.mov (.c (.int .i64 0))))⟩] [1, 2, 4, 25, 26, 27, 39, 40, 41])
            (.block 2
            (.loop
            (.seq
            (.reg 7 [⟨(some 42), none, (.q (.bin .lss (.t 41) (.t 40)))⟩] [1, 2, 4, 25, 26, 27, 39, 40, 41, 42])
            (.seq
            (.cond (.t 42)
            .skip
            (.exit 2))
            (.seq
            (.block 3
            (.seq
            (.reg 8 [⟨(some 43), none, (.q (.mov (.t 41)))⟩, ⟨(some 44), none, (.q (.iaddr 7 (.t 39) (.t 41)))⟩, ⟨(some 45), none, (.q (.load (some 7) (.t 44)))⟩, ⟨(some 6), none, (.alloc [(.int .u8 0), (.str []), (.int .u8 0), (.int .i64 0), (.str []), (.str []), .nilslice])⟩, ⟨(some 5), none, (.q (.mov (.t 43)))⟩, ⟨none, none, (.store 7 (.t 6) (.t 45))⟩] [1, 2, 4, 5, 6, 25, 26, 27, 39, 40, 41])
            (.dreg 9 [⟨(some 46), none, (.q (.mov (.t 4)))⟩, ⟨(some 47), none, (.q (.nchk (.t 46)))⟩, ⟨(some 48), none, (.q (.load none (.t 47)))⟩, ⟨(some 49), none, (.q (.mov (.t 5)))⟩, ⟨(some 50), none, (.q (.load (some 7) (.t 6)))⟩, ⟨(some 51), none, (.pcall 91 [(.t 50)])⟩, ⟨(some 52), none, (.q (.iaddr 7 (.t 48) (.t 49)))⟩, ⟨none, none, (.store 7 (.t 52) (.t 51))⟩] false [1, 2, 4, 25, 26, 27, 39, 40, 41])))
            (.reg 10 [⟨(some 53), none, (.q (.bin .add (.t 41) (.c (.int .i64 1))))⟩, ⟨(some 41), none, (.q (.mov (.t 53)))⟩] [1, 2, 4, 25, 26, 27, 39, 40, 41]))))))))))
         (.reg 11 [⟨(some 54), none, (.q (.bin .add (.t 27) (.c (.int .i64 1))))⟩, ⟨(some 27), none, (.q (.mov (.t 54)))⟩] [1, 2, 25, 26, 27])))))))
   (.seq
    (.reg 12 [⟨(some 55), none, (.q (.load (some 15) (.t 1)))⟩, ⟨none, none, (.store 15 (.t 2) (.t 55))⟩] [2])
    .ret))))
theorem fok54 : FOK Tryz.prog 54 (56, ic54, [(.cell (some 15) 2)]) := .mk (pf := ([1000025] ++ List.filter (fun k => k != 90) allF0)) (an := [(0, [1, 2]), (1, [1, 2]), (2, [1, 2, 25, 26, 27]), (3, [1, 2, 25, 26, 27, 28]), (4, [1, 2, 4, 25, 26, 27]), (5, [1, 2, 4, 25, 26, 27]), (6, [1, 2, 4, 25, 26, 27, 39, 40, 41]), (7, [1, 2, 4, 25, 26, 27, 39, 40, 41, 42]), (8, [1, 2, 4, 5, 6, 25, 26, 27, 39, 40, 41]), (9, [1, 2, 4, 25, 26, 27, 39, 40, 41]), (10, [1, 2, 4, 25, 26, 27, 39, 40, 41]), (11, [1, 2, 25, 26, 27]), (12, [2])]) (by kernel_rfl) (fnOK_of Tryz.func54 (by kernel_rfl) (by kernel_rfl) (by kernel_rfl))
/-- chandlery/chandleryref10.Deps -/
def ic55 : IC :=
(.seq
 (.reg 0 [⟨(some 4), none, (.q (.mov (.c (.bool false))))⟩] [0, 1])
 (.seq
  (.seq
   (.reg 1 [⟨(some 6), none, (.q (.mov (.t 0)))⟩, ⟨(some 7), none, (.q (.len 0 (.t 6)))⟩, ⟨(some 8), none, (.q (.mov (.t 1)))⟩, ⟨(some 9), none, (.q (.len 0 (.t 8)))⟩, ⟨(some 10), none, (.q (.bin .neq (.t 7) (.t 9)))⟩] [0, 1, 10])
   (.cond (.t 10)
    (.seq
     (.reg 2 [⟨(some 4), none, (.q (.mov (.c (.bool false))))⟩] [4])
     .ret)
    .skip))
  (.seq
   (.seq
    (.reg 3 [⟨(some 5), none, (.q (.mov (.c (.int .i64 0))))⟩] [0, 1, 5])
    (.block 0
     (.loop
      (.seq
       (.seq
        (.reg 4 [⟨(some 11), none, (.q (.mov (.t 5)))⟩, ⟨(some 12), none, (.q (.mov (.t 0)))⟩, ⟨(some 13), none, (.q (.len 0 (.t 12)))⟩, ⟨(some 14), none, (.q (.bin .lss (.t 11) (.t 13)))⟩] [0, 1, 5, 14])
        (.cond (.t 14)
         .skip
         (.exit 0)))
       (.seq
        (.block 1
         (.seq
          (.dreg 6 [⟨(some 17), none, (.q (.mov (.t 0)))⟩, ⟨(some 18), none, (.q (.mov (.t 5)))⟩, ⟨(some 19), none, (.q (.iaddr 5 (.t 17) (.t 18)))⟩, ⟨(some 20), none, (.q (.load (some 5) (.t 19)))⟩, ⟨(some 21), none, (.q (.mov (.t 1)))⟩, ⟨(some 22), none, (.q (.mov (.t 5)))⟩, ⟨(some 23), none, (.q (.iaddr 5 (.t 21) (.t 22)))⟩, ⟨(some 24), none, (.q (.load (some 5) (.t 23)))⟩, ⟨(some 25), none, (.q (.eqs [2, 1, 1, 2, 2] true true (.t 20) (.t 24)))⟩] false [0, 1, 5, 25])
          (.cond (.t 25)
           (.seq
            (.reg 7 [⟨(some 4), none, (.q (.mov (.c (.bool false))))⟩] [4])
            .ret)
           .skip)))
        (.reg 5 [⟨(some 15), none, (.q (.mov (.t 5)))⟩, ⟨(some 16), none, (.q (.bin .add (.t 15) (.c (.int .i64 1))))⟩, ⟨(some 5), none, (.q (.mov (.t 16)))⟩] [0, 1, 5]))))))
   (.seq
    (.reg 8 [⟨(some 4), none, (.q (.mov (.c (.bool true))))⟩] [4])
    .ret))))
theorem fok55 : FOK Tryz.prog 55 (26, ic55, [(.t 4)]) := .mk (pf := []) (an := [(0, [0, 1]), (1, [0, 1, 10]), (2, [4]), (3, [0, 1, 5]), (4, [0, 1, 5, 14]), (5, [0, 1, 5]), (6, [0, 1, 5, 25]), (7, [4]), (8, [4])]) (by kernel_rfl) (fnOK_of Tryz.func55 (by kernel_rfl) (by kernel_rfl) (by kernel_rfl))
/-- chandlery/chandleryref10.Riches -/
def ic56 : IC :=
(.seq
 (.reg 0 [⟨(some 4), none, (.q (.mov (.c (.bool false))))⟩] [0, 1])
 (.seq
  (.seq
   (.reg 1 [⟨(some 6), none, (.q (.mov (.t 0)))⟩, ⟨(some 7), none, (.q (.len 0 (.t 6)))⟩, ⟨(some 8), none, (.q (.mov (.t 1)))⟩, ⟨(some 9), none, (.q (.len 0 (.t 8)))⟩, ⟨(some 10), none, (.q (.bin .neq (.t 7) (.t 9)))⟩] [0, 1, 10])
   (.cond (.t 10)
    (.seq
     (.reg 2 [⟨(some 4), none, (.q (.mov (.c (.bool false))))⟩] [4])
     .ret)
    .skip))
  (.seq
   (.seq
    (.reg 3 [⟨(some 5), none, (.q (.mov (.c (.int .i64 0))))⟩] [0, 1, 5])
    (.block 0
     (.loop
      (.seq
       (.seq
        (.reg 4 [⟨(some 11), none, (.q (.mov (.t 5)))⟩, ⟨(some 12), none, (.q (.mov (.t 0)))⟩, ⟨(some 13), none, (.q (.len 0 (.t 12)))⟩, ⟨(some 14), none, (.q (.bin .lss (.t 11) (.t 13)))⟩] [0, 1, 5, 14])
        (.cond (.t 14)
         .skip
         (.exit 0)))
       (.seq
        (.block 1
         (.seq
          (.dreg 6 [⟨(some 17), none, (.q (.mov (.t 0)))⟩, ⟨(some 18), none, (.q (.mov (.t 5)))⟩, ⟨(some 19), none, (.q (.iaddr 7 (.t 17) (.t 18)))⟩, ⟨(some 20), none, (.q (.load (some 7) (.t 19)))⟩, ⟨(some 21), none, (.q (.mov (.t 1)))⟩, ⟨(some 22), none, (.q (.mov (.t 5)))⟩, ⟨(some 23), none, (.q (.iaddr 7 (.t 21) (.t 22)))⟩, ⟨(some 24), none, (.q (.load (some 7) (.t 23)))⟩, ⟨(some 25), none, (.call 92 [(.t 20), (.t 24)])⟩, ⟨(some 26), none, (.q (.not (.t 25)))⟩] false [0, 1, 5, 26])
          (.cond (.t 26)
           (.seq
            (.reg 7 [⟨(some 4), none, (.q (.mov (.c (.bool false))))⟩] [4])
            .ret)
           .skip)))
        (.reg 5 [⟨(some 15), none, (.q (.mov (.t 5)))⟩, ⟨(some 16), none, (.q (.bin .add (.t 15) (.c (.int .i64 1))))⟩, ⟨(some 5), none, (.q (.mov (.t 16)))⟩] [0, 1, 5]))))))
   (.seq
    (.reg 8 [⟨(some 4), none, (.q (.mov (.c (.bool true))))⟩] [4])
    .ret))))
theorem fok56 : FOK Tryz.prog 56 (27, ic56, [(.t 4)]) := .mk (pf := []) (an := [(0, [0, 1]), (1, [0, 1, 10]), (2, [4]), (3, [0, 1, 5]), (4, [0, 1, 5, 14]), (5, [0, 1, 5]), (6, [0, 1, 5, 26]), (7, [4]), (8, [4])]) (by kernel_rfl) (fnOK_of Tryz.func56 (by kernel_rfl) (by kernel_rfl) (by kernel_rfl))
/-- slices.ContainsFunc[[]chandlery/api.Dep,chandlery/api.Dep] -/
def ic57 : IC :=
(.seq
 (.reg 0 [⟨(some 4), none, (.q (.mov (.c (.bool false))))⟩] [0, 1])
 (.seq
  (.reg 1 [⟨(some 5), none, (.q (.mov (.t 0)))⟩, ⟨(some 6), none, (.q (.mov (.t 1)))⟩, ⟨(some 7), none, (.call 93 [(.t 5), (.t 6)])⟩, ⟨(some 8), none, (.q (.bin .geq (.t 7) (.c (.int .i64 0))))⟩, ⟨(some 4), none, (.q (.mov (.t 8)))⟩] [4])
  .ret))
theorem fok57 : FOK Tryz.prog 57 (9, ic57, [(.t 4)]) := .mk (pf := []) (an := [(0, [0, 1]), (1, [4])]) (by kernel_rfl) (fnOK_of Tryz.func57 (by kernel_rfl) (by kernel_rfl) (by kernel_rfl))
/-- chandlery/pkg.Obsoletes$1 -/
def ic58 : IC :=
(.seq
 (.reg 0 [⟨(some 2), none, (.boxt (.t 0))⟩, ⟨(some 3), none, (.q (.mov (.c (.bool false))))⟩] [1, 2])
 (.seq
  (.reg 1 [⟨(some 4), none, (.q (.load (some 15) (.t 1)))⟩, ⟨(some 5), none, (.q (.load (some 5) (.t 2)))⟩, ⟨(some 6), none, (.call 44 [(.t 4), (.t 5)])⟩, ⟨(some 3), none, (.q (.mov (.t 6)))⟩] [3])
  .ret))
theorem fok58 : FOK Tryz.prog 58 (7, ic58, [(.t 3)]) := .mk (pf := [1000002]) (an := [(0, [1, 2]), (1, [3])]) (by kernel_rfl) (fnOK_of Tryz.func58 (by kernel_rfl) (by kernel_rfl) (by kernel_rfl))
end Go.Id.Tryz
