/- The compiled codes of functions, written by a program out of the given form. Conditions: none. -/
import Derived.Test.YtmiphpgenbddoaaDoorFwW
import Derived.Test.YtmiphpgenbddoaaDoorProg
namespace Go.Id.Tryd
open Go Go.Id Go.Proofs
def allF0 : List Nat := List.range 122
/-- chandlery/chandlerylaw12.PoolRow -/
def ic3 : IC :=
(.seq
 (.reg 0 [⟨(some 4), none, (.q (.mov (.c (.bool false))))⟩] [0, 1])
 (.seq
  (.seq
   (.reg 1 [⟨(some 15), none, (.q (.mov (.t 0)))⟩, ⟨(some 16), none, (.q (.mov (.t 1)))⟩, ⟨(some 17), none, (.pcall 6 [(.t 15), (.t 16)])⟩, ⟨(some 18), none, (.q (.mov (.t 17)))⟩, ⟨(some 19), (some ⟨18, false⟩), (.pcall 7 [])⟩, ⟨(some 20), (some ⟨18, false⟩), (.q (.not (.t 19)))⟩, ⟨(some 21), none, (.q (.pick (.t 18) (.c (.bool true)) (.t 20)))⟩] [0, 1, 21])
   (.cond (.t 21)
    (.seq
     (.reg 2 [⟨(some 22), none, (.pcall 7 [])⟩, ⟨(some 4), none, (.q (.mov (.t 22)))⟩] [4])
     .ret)
    .skip))
  (.seq
   (.reg 3 [⟨(some 24), none, (.q (.mov (.t 0)))⟩, ⟨(some 25), none, (.q (.mov (.t 1)))⟩, ⟨(some 26), none, (.pcall 8 [(.t 24), (.t 25)])⟩, ⟨(some 23), none, (.q (.mov (.t 26)))⟩, ⟨(some 27), none, (.q (.ext 0 (.t 23)))⟩, ⟨(some 28), none, (.q (.ext 1 (.t 23)))⟩, ⟨(some 5), none, (.q (.mov (.t 27)))⟩, ⟨(some 6), none, (.q (.mov (.t 28)))⟩] [0, 1, 5, 6])
   (.seq
    (.seq
     (.reg 4 [⟨(some 29), none, (.q (.mov (.t 6)))⟩, ⟨(some 30), none, (.q (.bin .neq (.t 29) (.c (.int .i64 0))))⟩] [0, 1, 5, 30])
     (.cond (.t 30)
      (.seq
       (.reg 5 [⟨(some 31), none, (.q (.mov (.t 5)))⟩, ⟨(some 32), none, (.q (.isnil (.pointer 59) false (.t 31)))⟩, ⟨(some 4), none, (.q (.mov (.t 32)))⟩] [4])
       .ret)
      .skip))
    (.seq
     (.reg 6 [⟨(some 7), none, (.q (.mov (.c (.int .i64 0))))⟩] [0, 1, 5, 7])
     (.seq
      (.seq
       (.reg 7 [⟨(some 8), none, (.q (.mov (.c (.int .i64 0))))⟩] [0, 1, 5, 7, 8])
       (.block 0
        (.loop
         (.seq
          (.seq
           (.reg 8 [⟨(some 33), none, (.q (.mov (.t 8)))⟩, ⟨(some 34), none, (.q (.mov (.t 1)))⟩, ⟨(some 35), none, (.q (.len 0 (.t 34)))⟩, ⟨(some 36), none, (.q (.bin .lss (.t 33) (.t 35)))⟩] [0, 1, 5, 7, 8, 36])
           (.cond (.t 36)
            .skip
            (.exit 0)))
          (.seq
           (.block 1
            (.seq
            (.reg 10 [⟨(some 40), none, (.q (.mov (.t 5)))⟩, ⟨(some 41), none, (.q (.mov (.t 7)))⟩, ⟨(some 42), none, (.pcall 9 [(.t 40), (.t 41)])⟩, ⟨(some 39), none, (.q (.mov (.t 42)))⟩, ⟨(some 43), none, (.q (.ext 0 (.t 39)))⟩, ⟨(some 44), none, (.q (.ext 1 (.t 39)))⟩, ⟨(some 9), none, (.alloc [(.str []), (.int .i64 0), (.str []), (.str []), (.int .u8 0), (.str []), .nilslice, .nilslice, .nilslice, .nilslice, .nilslice, .nilslice, .nilslice, .nilslice, .nilslice])⟩, ⟨none, none, (.store 15 (.t 9) (.t 43))⟩, ⟨(some 10), none, (.q (.mov (.t 44)))⟩] [0, 1, 5, 7, 8, 9, 10])
            (.seq
            (.seq
            (.dreg 11 [⟨(some 45), none, (.q (.mov (.t 10)))⟩, ⟨(some 46), none, (.q (.bin .neq (.t 45) (.c (.int .i64 0))))⟩, ⟨(some 47), none, (.q (.mov (.t 46)))⟩, ⟨(some 48), (some ⟨47, false⟩), (.q (.load (some 15) (.t 9)))⟩, ⟨(some 49), (some ⟨47, false⟩), (.q (.mov (.t 1)))⟩, ⟨(some 50), (some ⟨47, false⟩), (.q (.mov (.t 8)))⟩, ⟨(some 51), (some ⟨47, false⟩), (.q (.iaddr 15 (.t 49) (.t 50)))⟩, ⟨(some 52), (some ⟨47, false⟩), (.q (.load (some 15) (.t 51)))⟩, ⟨(some 53), (some ⟨47, false⟩), (.pcall 10 [(.t 48), (.t 52)])⟩, ⟨(some 54), (some ⟨47, false⟩), (.q (.not (.t 53)))⟩, ⟨(some 55), none, (.q (.pick (.t 47) (.c (.bool true)) (.t 54)))⟩, ⟨(some 56), none, (.q (.mov (.t 55)))⟩, ⟨(some 57), (some ⟨56, false⟩), (.q (.mov (.t 5)))⟩, ⟨(some 58), (some ⟨56, false⟩), (.q (.mov (.t 7)))⟩, ⟨(some 59), (some ⟨56, false⟩), (.pcall 11 [(.t 57), (.t 58)])⟩, ⟨(some 60), (some ⟨56, false⟩), (.q (.bin .neq (.t 59) (.c (.int .i64 (-1)))))⟩, ⟨(some 61), none, (.q (.pick (.t 56) (.c (.bool true)) (.t 60)))⟩, ⟨(some 62), none, (.q (.mov (.t 61)))⟩, ⟨(some 63), (some ⟨62, false⟩), (.q (.mov (.t 5)))⟩, ⟨(some 64), (some ⟨62, false⟩), (.q (.mov (.t 7)))⟩, ⟨(some 65), (some ⟨62, false⟩), (.pcall 12 [(.t 63), (.t 64)])⟩, ⟨(some 66), (some ⟨62, false⟩), (.q (.bin .leq (.t 65) (.c (.int .i64 1024))))⟩, ⟨(some 67), none, (.q (.pick (.t 62) (.c (.bool true)) (.t 66)))⟩] false [0, 1, 5, 7, 8, 67])
            (.cond (.t 67)
            (.seq
            (.reg 12 [⟨(some 4), none, (.q (.mov (.c (.bool false))))⟩] [4])
            .ret)
            .skip))
            (.reg 13 [⟨(some 68), none, (.q (.mov (.t 7)))⟩, ⟨(some 69), none, (.q (.bin .add (.t 68) (.c (.int .i64 1))))⟩, ⟨(some 7), none, (.q (.mov (.t 69)))⟩] [0, 1, 5, 7, 8]))))
           (.reg 9 [⟨(some 37), none, (.q (.mov (.t 8)))⟩, ⟨(some 38), none, (.q (.bin .add (.t 37) (.c (.int .i64 1))))⟩, ⟨(some 8), none, (.q (.mov (.t 38)))⟩] [0, 1, 5, 7, 8]))))))
      (.seq
       (.seq
        (.reg 14 [⟨(some 11), none, (.q (.mov (.c (.int .i64 0))))⟩] [0, 1, 5, 7, 11])
        (.block 2
         (.loop
          (.seq
           (.seq
            (.reg 15 [⟨(some 70), none, (.q (.mov (.t 11)))⟩, ⟨(some 71), none, (.q (.mov (.t 0)))⟩, ⟨(some 72), none, (.q (.len 0 (.t 71)))⟩, ⟨(some 73), none, (.q (.bin .lss (.t 70) (.t 72)))⟩] [0, 1, 5, 7, 11, 73])
            (.cond (.t 73)
            .skip
            (.exit 2)))
           (.seq
            (.block 3
            (.seq
            (.reg 17 [⟨(some 12), none, (.q (.mov (.c (.int .i64 0))))⟩] [0, 1, 5, 7, 11, 12])
            (.block 4
            (.loop
            (.seq
            (.seq
            (.reg 18 [⟨(some 76), none, (.q (.mov (.t 12)))⟩, ⟨(some 77), none, (.q (.mov (.t 0)))⟩, ⟨(some 78), none, (.q (.mov (.t 11)))⟩, ⟨(some 79), none, (.q (.iaddr 2 (.t 77) (.t 78)))⟩, ⟨(some 80), none, (.q (.faddr 1 (.t 79)))⟩, ⟨(some 81), none, (.q (.load none (.t 80)))⟩, ⟨(some 82), none, (.q (.len 0 (.t 81)))⟩, ⟨(some 83), none, (.q (.bin .lss (.t 76) (.t 82)))⟩] [0, 1, 5, 7, 11, 12, 83])
            (.cond (.t 83)
            .skip
            (.exit 4)))
            (.seq
            (.block 5
            (.seq
            (.reg 20 [⟨(some 87), none, (.q (.mov (.t 5)))⟩, ⟨(some 88), none, (.q (.mov (.t 7)))⟩, ⟨(some 89), none, (.pcall 9 [(.t 87), (.t 88)])⟩, ⟨(some 86), none, (.q (.mov (.t 89)))⟩, ⟨(some 90), none, (.q (.ext 0 (.t 86)))⟩, ⟨(some 91), none, (.q (.ext 1 (.t 86)))⟩, ⟨(some 13), none, (.alloc [(.str []), (.int .i64 0), (.str []), (.str []), (.int .u8 0), (.str []), .nilslice, .nilslice, .nilslice, .nilslice, .nilslice, .nilslice, .nilslice, .nilslice, .nilslice])⟩, ⟨none, none, (.store 15 (.t 13) (.t 90))⟩, ⟨(some 14), none, (.q (.mov (.t 91)))⟩] [0, 1, 5, 7, 11, 12, 13, 14])
            (.seq
            (.seq
            (.dreg 21 [⟨(some 92), none, (.q (.mov (.t 14)))⟩, ⟨(some 93), none, (.q (.bin .neq (.t 92) (.c (.int .i64 0))))⟩, ⟨(some 94), none, (.q (.mov (.t 93)))⟩, ⟨(some 95), (some ⟨94, false⟩), (.q (.load (some 15) (.t 13)))⟩, ⟨(some 96), (some ⟨94, false⟩), (.q (.mov (.t 0)))⟩, ⟨(some 97), (some ⟨94, false⟩), (.q (.mov (.t 11)))⟩, ⟨(some 98), (some ⟨94, false⟩), (.q (.iaddr 2 (.t 96) (.t 97)))⟩, ⟨(some 99), (some ⟨94, false⟩), (.q (.faddr 1 (.t 98)))⟩, ⟨(some 100), (some ⟨94, false⟩), (.q (.load none (.t 99)))⟩, ⟨(some 101), (some ⟨94, false⟩), (.q (.mov (.t 12)))⟩, ⟨(some 102), (some ⟨94, false⟩), (.q (.iaddr 15 (.t 100) (.t 101)))⟩, ⟨(some 103), (some ⟨94, false⟩), (.q (.load (some 15) (.t 102)))⟩, ⟨(some 104), (some ⟨94, false⟩), (.pcall 10 [(.t 95), (.t 103)])⟩, ⟨(some 105), (some ⟨94, false⟩), (.q (.not (.t 104)))⟩, ⟨(some 106), none, (.q (.pick (.t 94) (.c (.bool true)) (.t 105)))⟩, ⟨(some 107), none, (.q (.mov (.t 106)))⟩, ⟨(some 108), (some ⟨107, false⟩), (.q (.mov (.t 5)))⟩, ⟨(some 109), (some ⟨107, false⟩), (.q (.mov (.t 7)))⟩, ⟨(some 110), (some ⟨107, false⟩), (.pcall 11 [(.t 108), (.t 109)])⟩, ⟨(some 111), (some ⟨107, false⟩), (.q (.mov (.t 11)))⟩, ⟨(some 112), (some ⟨107, false⟩), (.q (.bin .neq (.t 110) (.t 111)))⟩, ⟨(some 113), none, (.q (.pick (.t 107) (.c (.bool true)) (.t 112)))⟩, ⟨(some 114), none, (.q (.mov (.t 113)))⟩, ⟨(some 115), (some ⟨114, false⟩), (.q (.mov (.t 5)))⟩, ⟨(some 116), (some ⟨114, false⟩), (.q (.mov (.t 7)))⟩, ⟨(some 117), (some ⟨114, false⟩), (.pcall 12 [(.t 115), (.t 116)])⟩, ⟨(some 118), (some ⟨114, false⟩), (.q (.mov (.t 0)))⟩, ⟨(some 119), (some ⟨114, false⟩), (.q (.mov (.t 11)))⟩, ⟨(some 120), (some ⟨114, false⟩), (.q (.iaddr 2 (.t 118) (.t 119)))⟩, ⟨(some 121), (some ⟨114, false⟩), (.q (.faddr 0 (.t 120)))⟩, ⟨(some 122), (some ⟨114, false⟩), (.q (.load none (.t 121)))⟩, ⟨(some 123), (some ⟨114, false⟩), (.q (.bin .neq (.t 117) (.t 122)))⟩, ⟨(some 124), none, (.q (.pick (.t 114) (.c (.bool true)) (.t 123)))⟩] false [0, 1, 5, 7, 11, 12, 124])
            (.cond (.t 124)
            (.seq
            (.reg 22 [⟨(some 4), none, (.q (.mov (.c (.bool false))))⟩] [4])
            .ret)
            .skip))
            (.reg 23 [⟨(some 125), none, (.q (.mov (.t 7)))⟩, ⟨(some 126), none, (.q (.bin .add (.t 125) (.c (.int .i64 1))))⟩, ⟨(some 7), none, (.q (.mov (.t 126)))⟩] [0, 1, 5, 7, 11, 12]))))
            (.reg 19 [⟨(some 84), none, (.q (.mov (.t 12)))⟩, ⟨(some 85), none, (.q (.bin .add (.t 84) (.c (.int .i64 1))))⟩, ⟨(some 12), none, (.q (.mov (.t 85)))⟩] [0, 1, 5, 7, 11, 12])))))))
            (.reg 16 [⟨(some 74), none, (.q (.mov (.t 11)))⟩, ⟨(some 75), none, (.q (.bin .add (.t 74) (.c (.int .i64 1))))⟩, ⟨(some 11), none, (.q (.mov (.t 75)))⟩] [0, 1, 5, 7, 11]))))))
       (.seq
        (.reg 24 [⟨(some 127), none, (.q (.mov (.t 5)))⟩, ⟨(some 128), none, (.pcall 13 [(.t 127)])⟩, ⟨(some 129), none, (.q (.mov (.t 7)))⟩, ⟨(some 130), none, (.q (.bin .eql (.t 128) (.t 129)))⟩, ⟨(some 131), none, (.q (.mov (.t 130)))⟩, ⟨(some 132), (some ⟨131, true⟩), (.q (.mov (.t 5)))⟩, ⟨(some 133), (some ⟨131, true⟩), (.pcall 14 [(.t 132)])⟩, ⟨(some 134), (some ⟨131, true⟩), (.q (.mov (.t 1)))⟩, ⟨(some 135), (some ⟨131, true⟩), (.q (.len 0 (.t 134)))⟩, ⟨(some 136), (some ⟨131, true⟩), (.q (.bin .eql (.t 133) (.t 135)))⟩, ⟨(some 137), none, (.q (.pick (.t 131) (.t 136) (.c (.bool false))))⟩, ⟨(some 4), none, (.q (.mov (.t 137)))⟩] [4])
        .ret))))))))
theorem fok3 : FOK Tryd.prog 3 (138, ic3, [(.t 4)]) := .mk (pf := ([] ++ allF0)) (an := [(0, [0, 1]), (1, [0, 1, 21]), (2, [4]), (3, [0, 1, 5, 6]), (4, [0, 1, 5, 30]), (5, [4]), (6, [0, 1, 5, 7]), (7, [0, 1, 5, 7, 8]), (8, [0, 1, 5, 7, 8, 36]), (9, [0, 1, 5, 7, 8]), (10, [0, 1, 5, 7, 8, 9, 10]), (11, [0, 1, 5, 7, 8, 67]), (12, [4]), (13, [0, 1, 5, 7, 8]), (14, [0, 1, 5, 7, 11]), (15, [0, 1, 5, 7, 11, 73]), (16, [0, 1, 5, 7, 11]), (17, [0, 1, 5, 7, 11, 12]), (18, [0, 1, 5, 7, 11, 12, 83]), (19, [0, 1, 5, 7, 11, 12]), (20, [0, 1, 5, 7, 11, 12, 13, 14]), (21, [0, 1, 5, 7, 11, 12, 124]), (22, [4]), (23, [0, 1, 5, 7, 11, 12]), (24, [4])]) (by kernel_rfl) (fnOK_of Tryd.func3 (by kernel_rfl) (by kernel_rfl) (by kernel_rfl))
/-- chandlery/chandlerylaw12.PoolLess -/
def ic4 : IC :=
(.seq
 (.reg 0 [⟨(some 4), none, (.q (.mov (.c (.bool false))))⟩] [0, 1])
 (.seq
  (.seq
   (.reg 1 [⟨(some 18), none, (.q (.mov (.t 0)))⟩, ⟨(some 19), none, (.q (.mov (.t 1)))⟩, ⟨(some 20), none, (.pcall 6 [(.t 18), (.t 19)])⟩, ⟨(some 21), none, (.q (.mov (.t 20)))⟩, ⟨(some 22), (some ⟨21, false⟩), (.pcall 7 [])⟩, ⟨(some 23), (some ⟨21, false⟩), (.q (.not (.t 22)))⟩, ⟨(some 24), none, (.q (.pick (.t 21) (.c (.bool true)) (.t 23)))⟩] [0, 1, 24])
   (.cond (.t 24)
    (.seq
     (.reg 2 [⟨(some 25), none, (.pcall 7 [])⟩, ⟨(some 4), none, (.q (.mov (.t 25)))⟩] [4])
     .ret)
    .skip))
  (.seq
   (.reg 3 [⟨(some 27), none, (.q (.mov (.t 0)))⟩, ⟨(some 28), none, (.q (.mov (.t 1)))⟩, ⟨(some 29), none, (.pcall 8 [(.t 27), (.t 28)])⟩, ⟨(some 26), none, (.q (.mov (.t 29)))⟩, ⟨(some 30), none, (.q (.ext 0 (.t 26)))⟩, ⟨(some 31), none, (.q (.ext 1 (.t 26)))⟩, ⟨(some 5), none, (.q (.mov (.t 30)))⟩, ⟨(some 6), none, (.q (.mov (.t 31)))⟩] [0, 1, 5, 6])
   (.seq
    (.seq
     (.reg 4 [⟨(some 32), none, (.q (.mov (.t 6)))⟩, ⟨(some 33), none, (.q (.bin .neq (.t 32) (.c (.int .i64 0))))⟩, ⟨(some 34), none, (.q (.mov (.t 33)))⟩, ⟨(some 35), (some ⟨34, false⟩), (.q (.mov (.t 0)))⟩, ⟨(some 36), (some ⟨34, false⟩), (.q (.len 0 (.t 35)))⟩, ⟨(some 37), (some ⟨34, false⟩), (.q (.bin .eql (.t 36) (.c (.int .i64 0))))⟩, ⟨(some 38), none, (.q (.pick (.t 34) (.c (.bool true)) (.t 37)))⟩] [0, 1, 5, 38])
     (.cond (.t 38)
      (.seq
       (.reg 5 [⟨(some 4), none, (.q (.mov (.c (.bool true))))⟩] [4])
       .ret)
      .skip))
    (.seq
     (.reg 6 [⟨(some 39), none, (.q (.mov (.t 0)))⟩, ⟨(some 40), none, (.q (.mov (.t 0)))⟩, ⟨(some 41), none, (.q (.len 0 (.t 40)))⟩, ⟨(some 42), none, (.q (.bin .sub (.t 41) (.c (.int .i64 1))))⟩, ⟨(some 43), none, (.q (.iaddr 2 (.t 39) (.t 42)))⟩, ⟨(some 44), none, (.q (.load (some 2) (.t 43)))⟩, ⟨(some 7), none, (.alloc [(.int .i64 0), .nilslice])⟩, ⟨none, none, (.store 2 (.t 7) (.t 44))⟩] [0, 1, 5, 7])
     (.seq
      (.reg 7 [⟨(some 45), none, (.bsl 2 0 [(.int .i64 0), .nilslice] [])⟩, ⟨(some 46), none, (.q (.mov (.t 0)))⟩, ⟨(some 47), none, (.q (.mov (.t 0)))⟩, ⟨(some 48), none, (.q (.len 0 (.t 47)))⟩, ⟨(some 49), none, (.q (.bin .sub (.t 48) (.c (.int .i64 1))))⟩, ⟨(some 50), none, (.q (.slc 2 (.t 46) none (some (.t 49))))⟩, ⟨(some 51), none, (.app 2 (.t 45) (.t 50))⟩, ⟨(some 8), none, (.q (.mov (.t 51)))⟩] [1, 5, 7, 8])
      (.seq
       (.reg 8 [⟨(some 53), none, (.q (.mov (.t 8)))⟩, ⟨(some 54), none, (.q (.mov (.t 1)))⟩, ⟨(some 55), none, (.pcall 8 [(.t 53), (.t 54)])⟩, ⟨(some 52), none, (.q (.mov (.t 55)))⟩, ⟨(some 56), none, (.q (.ext 0 (.t 52)))⟩, ⟨(some 57), none, (.q (.ext 1 (.t 52)))⟩, ⟨(some 9), none, (.q (.mov (.t 56)))⟩, ⟨(some 10), none, (.q (.mov (.t 57)))⟩] [1, 5, 7, 8, 9, 10])
       (.seq
        (.seq
         (.dreg 9 [⟨(some 58), none, (.q (.mov (.t 10)))⟩, ⟨(some 59), none, (.q (.bin .neq (.t 58) (.c (.int .i64 0))))⟩, ⟨(some 60), none, (.q (.mov (.t 59)))⟩, ⟨(some 61), (some ⟨60, false⟩), (.q (.mov (.t 9)))⟩, ⟨(some 62), (some ⟨60, false⟩), (.pcall 13 [(.t 61)])⟩, ⟨(some 63), (some ⟨60, false⟩), (.q (.mov (.t 5)))⟩, ⟨(some 64), (some ⟨60, false⟩), (.pcall 13 [(.t 63)])⟩, ⟨(some 65), (some ⟨60, false⟩), (.q (.faddr 1 (.t 7)))⟩, ⟨(some 66), (some ⟨60, false⟩), (.q (.load none (.t 65)))⟩, ⟨(some 67), (some ⟨60, false⟩), (.q (.len 0 (.t 66)))⟩, ⟨(some 68), (some ⟨60, false⟩), (.q (.bin .sub (.t 64) (.t 67)))⟩, ⟨(some 69), (some ⟨60, false⟩), (.q (.bin .neq (.t 62) (.t 68)))⟩, ⟨(some 70), none, (.q (.pick (.t 60) (.c (.bool true)) (.t 69)))⟩] false [1, 5, 7, 8, 9, 70])
         (.cond (.t 70)
          (.seq
           (.reg 10 [⟨(some 4), none, (.q (.mov (.c (.bool false))))⟩] [4])
           .ret)
          .skip))
        (.seq
         (.seq
          (.reg 11 [⟨(some 11), none, (.q (.mov (.c (.int .i64 0))))⟩] [1, 5, 7, 8, 9, 11])
          (.block 0
           (.loop
            (.seq
            (.seq
            (.reg 12 [⟨(some 71), none, (.q (.mov (.t 11)))⟩, ⟨(some 72), none, (.q (.mov (.t 9)))⟩, ⟨(some 73), none, (.pcall 13 [(.t 72)])⟩, ⟨(some 74), none, (.q (.bin .lss (.t 71) (.t 73)))⟩] [1, 5, 7, 8, 9, 11, 74])
            (.cond (.t 74)
            .skip
            (.exit 0)))
            (.seq
            (.block 1
            (.seq
            (.reg 14 [⟨(some 78), none, (.q (.mov (.t 9)))⟩, ⟨(some 79), none, (.q (.mov (.t 11)))⟩, ⟨(some 80), none, (.pcall 9 [(.t 78), (.t 79)])⟩, ⟨(some 77), none, (.q (.mov (.t 80)))⟩, ⟨(some 81), none, (.q (.ext 0 (.t 77)))⟩, ⟨(some 82), none, (.q (.ext 1 (.t 77)))⟩, ⟨(some 12), none, (.alloc [(.str []), (.int .i64 0), (.str []), (.str []), (.int .u8 0), (.str []), .nilslice, .nilslice, .nilslice, .nilslice, .nilslice, .nilslice, .nilslice, .nilslice, .nilslice])⟩, ⟨none, none, (.store 15 (.t 12) (.t 81))⟩, ⟨(some 13), none, (.q (.mov (.t 82)))⟩] [1, 5, 7, 8, 9, 11, 12, 13])
            (.seq
            (.reg 15 [⟨(some 84), none, (.q (.mov (.t 5)))⟩, ⟨(some 85), none, (.q (.mov (.t 11)))⟩, ⟨(some 86), none, (.pcall 9 [(.t 84), (.t 85)])⟩, ⟨(some 83), none, (.q (.mov (.t 86)))⟩, ⟨(some 87), none, (.q (.ext 0 (.t 83)))⟩, ⟨(some 88), none, (.q (.ext 1 (.t 83)))⟩, ⟨(some 14), none, (.alloc [(.str []), (.int .i64 0), (.str []), (.str []), (.int .u8 0), (.str []), .nilslice, .nilslice, .nilslice, .nilslice, .nilslice, .nilslice, .nilslice, .nilslice, .nilslice])⟩, ⟨none, none, (.store 15 (.t 14) (.t 87))⟩, ⟨(some 15), none, (.q (.mov (.t 88)))⟩] [1, 5, 7, 8, 9, 11, 12, 13, 14, 15])
            (.seq
            (.reg 16 [⟨(some 89), none, (.q (.mov (.t 13)))⟩, ⟨(some 90), none, (.q (.bin .neq (.t 89) (.c (.int .i64 0))))⟩, ⟨(some 91), none, (.q (.mov (.t 90)))⟩, ⟨(some 92), (some ⟨91, false⟩), (.q (.mov (.t 15)))⟩, ⟨(some 93), (some ⟨91, false⟩), (.q (.bin .neq (.t 92) (.c (.int .i64 0))))⟩, ⟨(some 94), none, (.q (.pick (.t 91) (.c (.bool true)) (.t 93)))⟩, ⟨(some 95), none, (.q (.mov (.t 94)))⟩, ⟨(some 96), (some ⟨95, false⟩), (.q (.load (some 15) (.t 12)))⟩, ⟨(some 97), (some ⟨95, false⟩), (.q (.load (some 15) (.t 14)))⟩, ⟨(some 98), (some ⟨95, false⟩), (.pcall 10 [(.t 96), (.t 97)])⟩, ⟨(some 99), (some ⟨95, false⟩), (.q (.not (.t 98)))⟩, ⟨(some 100), none, (.q (.pick (.t 95) (.c (.bool true)) (.t 99)))⟩, ⟨(some 101), none, (.q (.mov (.t 100)))⟩, ⟨(some 102), (some ⟨101, false⟩), (.q (.mov (.t 9)))⟩, ⟨(some 103), (some ⟨101, false⟩), (.q (.mov (.t 11)))⟩, ⟨(some 104), (some ⟨101, false⟩), (.pcall 11 [(.t 102), (.t 103)])⟩, ⟨(some 105), (some ⟨101, false⟩), (.q (.mov (.t 5)))⟩, ⟨(some 106), (some ⟨101, false⟩), (.q (.mov (.t 11)))⟩, ⟨(some 107), (some ⟨101, false⟩), (.pcall 11 [(.t 105), (.t 106)])⟩, ⟨(some 108), (some ⟨101, false⟩), (.q (.bin .neq (.t 104) (.t 107)))⟩, ⟨(some 109), none, (.q (.pick (.t 101) (.c (.bool true)) (.t 108)))⟩] [1, 5, 7, 8, 9, 11, 109])
            (.cond (.t 109)
            (.seq
            (.reg 17 [⟨(some 4), none, (.q (.mov (.c (.bool false))))⟩] [4])
            .ret)
            .skip)))))
            (.reg 13 [⟨(some 75), none, (.q (.mov (.t 11)))⟩, ⟨(some 76), none, (.q (.bin .add (.t 75) (.c (.int .i64 1))))⟩, ⟨(some 11), none, (.q (.mov (.t 76)))⟩] [1, 5, 7, 8, 9, 11]))))))
         (.seq
          (.seq
           (.reg 18 [⟨(some 110), none, (.q (.faddr 1 (.t 7)))⟩, ⟨(some 111), none, (.q (.load none (.t 110)))⟩, ⟨(some 112), none, (.q (.len 0 (.t 111)))⟩, ⟨(some 113), none, (.q (.bin .eql (.t 112) (.c (.int .i64 0))))⟩] [1, 5, 7, 8, 113])
           (.cond (.t 113)
            (.seq
            (.reg 19 [⟨(some 4), none, (.q (.mov (.c (.bool true))))⟩] [4])
            .ret)
            .skip))
          (.seq
           (.reg 20 [⟨(some 114), none, (.q (.faddr 1 (.t 7)))⟩, ⟨(some 115), none, (.q (.load none (.t 114)))⟩, ⟨(some 116), none, (.q (.faddr 1 (.t 7)))⟩, ⟨(some 117), none, (.q (.load none (.t 116)))⟩, ⟨(some 118), none, (.q (.len 0 (.t 117)))⟩, ⟨(some 119), none, (.q (.bin .sub (.t 118) (.c (.int .i64 1))))⟩, ⟨(some 120), none, (.q (.slc 15 (.t 115) none (some (.t 119))))⟩, ⟨(some 121), none, (.q (.faddr 1 (.t 7)))⟩, ⟨none, none, (.store 1 (.t 121) (.t 120))⟩] [1, 5, 7, 8])
           (.seq
            (.reg 21 [⟨(some 123), none, (.q (.mov (.t 8)))⟩, ⟨(some 124), none, (.q (.load (some 2) (.t 7)))⟩, ⟨(some 125), none, (.bslt 2 1 [(.int .i64 0), .nilslice] [⟨0, ⟨2, (.t 124)⟩⟩])⟩, ⟨(some 126), none, (.app 2 (.t 123) (.t 125))⟩, ⟨(some 127), none, (.q (.mov (.t 1)))⟩, ⟨(some 128), none, (.pcall 8 [(.t 126), (.t 127)])⟩, ⟨(some 122), none, (.q (.mov (.t 128)))⟩, ⟨(some 129), none, (.q (.ext 0 (.t 122)))⟩, ⟨(some 130), none, (.q (.ext 1 (.t 122)))⟩, ⟨(some 16), none, (.q (.mov (.t 129)))⟩, ⟨(some 17), none, (.q (.mov (.t 130)))⟩] [5, 16, 17])
            (.seq
            (.reg 22 [⟨(some 131), none, (.q (.mov (.t 17)))⟩, ⟨(some 132), none, (.q (.bin .eql (.t 131) (.c (.int .i64 0))))⟩, ⟨(some 133), none, (.q (.mov (.t 132)))⟩, ⟨(some 134), (some ⟨133, true⟩), (.q (.mov (.t 16)))⟩, ⟨(some 135), (some ⟨133, true⟩), (.pcall 13 [(.t 134)])⟩, ⟨(some 136), (some ⟨133, true⟩), (.q (.mov (.t 5)))⟩, ⟨(some 137), (some ⟨133, true⟩), (.pcall 13 [(.t 136)])⟩, ⟨(some 138), (some ⟨133, true⟩), (.q (.bin .sub (.t 137) (.c (.int .i64 1))))⟩, ⟨(some 139), (some ⟨133, true⟩), (.q (.bin .eql (.t 135) (.t 138)))⟩, ⟨(some 140), none, (.q (.pick (.t 133) (.t 139) (.c (.bool false))))⟩, ⟨(some 4), none, (.q (.mov (.t 140)))⟩] [4])
            .ret)))))))))))))
theorem fok4 : FOK Tryd.prog 4 (141, ic4, [(.t 4)]) := .mk (pf := ([1000125] ++ allF0)) (an := [(0, [0, 1]), (1, [0, 1, 24]), (2, [4]), (3, [0, 1, 5, 6]), (4, [0, 1, 5, 38]), (5, [4]), (6, [0, 1, 5, 7]), (7, [1, 5, 7, 8]), (8, [1, 5, 7, 8, 9, 10]), (9, [1, 5, 7, 8, 9, 70]), (10, [4]), (11, [1, 5, 7, 8, 9, 11]), (12, [1, 5, 7, 8, 9, 11, 74]), (13, [1, 5, 7, 8, 9, 11]), (14, [1, 5, 7, 8, 9, 11, 12, 13]), (15, [1, 5, 7, 8, 9, 11, 12, 13, 14, 15]), (16, [1, 5, 7, 8, 9, 11, 109]), (17, [4]), (18, [1, 5, 7, 8, 113]), (19, [4]), (20, [1, 5, 7, 8]), (21, [5, 16, 17]), (22, [4])]) (by kernel_rfl) (fnOK_of Tryd.func4 (by kernel_rfl) (by kernel_rfl) (by kernel_rfl))
/-- chandlery/chandlerylaw12.PoolOwn -/
def ic5 : IC :=
(.seq
 (.reg 0 [⟨(some 4), none, (.q (.mov (.c (.bool false))))⟩] [0, 1])
 (.seq
  (.seq
   (.reg 1 [⟨(some 23), none, (.q (.mov (.t 0)))⟩, ⟨(some 24), none, (.q (.mov (.t 1)))⟩, ⟨(some 25), none, (.call 6 [(.t 23), (.t 24)])⟩, ⟨(some 26), none, (.q (.mov (.t 25)))⟩, ⟨(some 27), (some ⟨26, false⟩), (.call 7 [])⟩, ⟨(some 28), (some ⟨26, false⟩), (.q (.not (.t 27)))⟩, ⟨(some 29), none, (.q (.pick (.t 26) (.c (.bool true)) (.t 28)))⟩] [0, 1, 29])
   (.cond (.t 29)
    (.seq
     (.reg 2 [⟨(some 30), none, (.call 7 [])⟩, ⟨(some 4), none, (.q (.mov (.t 30)))⟩] [4])
     .ret)
    .skip))
  (.seq
   (.reg 3 [⟨(some 5), none, (.q (.mov (.c .nilslice)))⟩] [0, 1, 5])
   (.seq
    (.reg 4 [⟨(some 6), none, (.q (.mov (.c .nilslice)))⟩] [0, 1, 5, 6])
    (.seq
     (.seq
      (.reg 5 [⟨(some 7), none, (.q (.mov (.c (.int .i64 0))))⟩] [0, 1, 5, 6, 7])
      (.block 0
       (.loop
        (.seq
         (.seq
          (.reg 6 [⟨(some 31), none, (.q (.mov (.t 7)))⟩, ⟨(some 32), none, (.q (.mov (.t 1)))⟩, ⟨(some 33), none, (.q (.len 0 (.t 32)))⟩, ⟨(some 34), none, (.q (.bin .lss (.t 31) (.t 33)))⟩] [0, 1, 5, 6, 7, 34])
          (.cond (.t 34)
           .skip
           (.exit 0)))
         (.seq
          (.block 1
           (.seq
            (.reg 8 [⟨(some 37), none, (.q (.mov (.t 5)))⟩, ⟨(some 38), none, (.q (.mov (.t 1)))⟩, ⟨(some 39), none, (.q (.mov (.t 7)))⟩, ⟨(some 40), none, (.q (.iaddr 15 (.t 38) (.t 39)))⟩, ⟨(some 41), none, (.q (.load (some 15) (.t 40)))⟩, ⟨(some 42), none, (.call 15 [(.t 41)])⟩, ⟨(some 43), none, (.bslt 15 1 [(.str []), (.int .i64 0), (.str []), (.str []), (.int .u8 0), (.str []), .nilslice, .nilslice, .nilslice, .nilslice, .nilslice, .nilslice, .nilslice, .nilslice, .nilslice] [⟨0, ⟨15, (.t 42)⟩⟩])⟩, ⟨(some 44), none, (.app 15 (.t 37) (.t 43))⟩, ⟨(some 5), none, (.q (.mov (.t 44)))⟩] [0, 1, 5, 6, 7])
            (.reg 9 [⟨(some 45), none, (.q (.mov (.t 6)))⟩, ⟨(some 46), none, (.q (.mov (.t 1)))⟩, ⟨(some 47), none, (.q (.mov (.t 7)))⟩, ⟨(some 48), none, (.q (.iaddr 15 (.t 46) (.t 47)))⟩, ⟨(some 49), none, (.q (.load (some 15) (.t 48)))⟩, ⟨(some 50), none, (.call 15 [(.t 49)])⟩, ⟨(some 51), none, (.bslt 15 1 [(.str []), (.int .i64 0), (.str []), (.str []), (.int .u8 0), (.str []), .nilslice, .nilslice, .nilslice, .nilslice, .nilslice, .nilslice, .nilslice, .nilslice, .nilslice] [⟨0, ⟨15, (.t 50)⟩⟩])⟩, ⟨(some 52), none, (.app 15 (.t 45) (.t 51))⟩, ⟨(some 6), none, (.q (.mov (.t 52)))⟩] [0, 1, 5, 6, 7])))
          (.reg 7 [⟨(some 35), none, (.q (.mov (.t 7)))⟩, ⟨(some 36), none, (.q (.bin .add (.t 35) (.c (.int .i64 1))))⟩, ⟨(some 7), none, (.q (.mov (.t 36)))⟩] [0, 1, 5, 6, 7]))))))
     (.seq
      (.reg 10 [⟨(some 54), none, (.q (.mov (.t 0)))⟩, ⟨(some 55), none, (.q (.mov (.t 5)))⟩, ⟨(some 56), none, (.call 8 [(.t 54), (.t 55)])⟩, ⟨(some 53), none, (.q (.mov (.t 56)))⟩, ⟨(some 57), none, (.q (.ext 0 (.t 53)))⟩, ⟨(some 58), none, (.q (.ext 1 (.t 53)))⟩, ⟨(some 8), none, (.q (.mov (.t 57)))⟩, ⟨(some 9), none, (.q (.mov (.t 58)))⟩] [5, 6, 8, 9])
      (.seq
       (.seq
        (.reg 11 [⟨(some 59), none, (.q (.mov (.t 9)))⟩, ⟨(some 60), none, (.q (.bin .neq (.t 59) (.c (.int .i64 0))))⟩] [5, 6, 8, 60])
        (.cond (.t 60)
         (.seq
          (.reg 12 [⟨(some 4), none, (.q (.mov (.c (.bool true))))⟩] [4])
          .ret)
         .skip))
       (.seq
        (.seq
         (.reg 13 [⟨(some 10), none, (.q (.mov (.c (.int .i64 0))))⟩] [5, 6, 8, 10])
         (.block 2
          (.loop
           (.seq
            (.seq
            (.reg 14 [⟨(some 61), none, (.q (.mov (.t 10)))⟩, ⟨(some 62), none, (.q (.mov (.t 5)))⟩, ⟨(some 63), none, (.q (.len 0 (.t 62)))⟩, ⟨(some 64), none, (.q (.bin .lss (.t 61) (.t 63)))⟩] [5, 6, 8, 10, 64])
            (.cond (.t 64)
            .skip
            (.exit 2)))
            (.seq
            (.block 3
            (.seq
            (.seq
            (.reg 16 [⟨(some 11), none, (.q (.mov (.c (.int .i64 0))))⟩] [5, 6, 8, 10, 11])
            (.block 4
            (.loop
            (.seq
            (.seq
            (.reg 17 [⟨(some 67), none, (.q (.mov (.t 11)))⟩, ⟨(some 68), none, (.q (.mov (.t 5)))⟩, ⟨(some 69), none, (.q (.mov (.t 10)))⟩, ⟨(some 70), none, (.q (.iaddr 15 (.t 68) (.t 69)))⟩, ⟨(some 71), none, (.q (.faddr 6 (.t 70)))⟩, ⟨(some 72), none, (.q (.load none (.t 71)))⟩, ⟨(some 73), none, (.q (.len 0 (.t 72)))⟩, ⟨(some 74), none, (.q (.bin .lss (.t 67) (.t 73)))⟩] [5, 6, 8, 10, 11, 74])
            (.cond (.t 74)
            .skip
            (.exit 4)))
            (.seq
            (.block 5
            (.reg 19 [⟨(some 77), none, (.q (.mov (.t 5)))⟩, ⟨(some 78), none, (.q (.mov (.t 10)))⟩, ⟨(some 79), none, (.q (.iaddr 15 (.t 77) (.t 78)))⟩, ⟨(some 80), none, (.q (.faddr 6 (.t 79)))⟩, ⟨(some 81), none, (.q (.load none (.t 80)))⟩, ⟨(some 82), none, (.q (.mov (.t 11)))⟩, ⟨(some 83), none, (.q (.iaddr 5 (.t 81) (.t 82)))⟩, ⟨(some 84), none, (.q (.faddr 0 (.t 83)))⟩, ⟨none, none, (.store 1 (.t 84) (.c (.str [63])))⟩] [5, 6, 8, 10, 11]))
            (.reg 18 [⟨(some 75), none, (.q (.mov (.t 11)))⟩, ⟨(some 76), none, (.q (.bin .add (.t 75) (.c (.int .i64 1))))⟩, ⟨(some 11), none, (.q (.mov (.t 76)))⟩] [5, 6, 8, 10, 11]))))))
            (.seq
            (.seq
            (.reg 20 [⟨(some 12), none, (.q (.mov (.c (.int .i64 0))))⟩] [5, 6, 8, 10, 12])
            (.block 6
            (.loop
            (.seq
            (.seq
            (.reg 21 [⟨(some 85), none, (.q (.mov (.t 12)))⟩, ⟨(some 86), none, (.q (.mov (.t 5)))⟩, ⟨(some 87), none, (.q (.mov (.t 10)))⟩, ⟨(some 88), none, (.q (.iaddr 15 (.t 86) (.t 87)))⟩, ⟨(some 89), none, (.q (.faddr 7 (.t 88)))⟩, ⟨(some 90), none, (.q (.load none (.t 89)))⟩, ⟨(some 91), none, (.q (.len 0 (.t 90)))⟩, ⟨(some 92), none, (.q (.bin .lss (.t 85) (.t 91)))⟩] [5, 6, 8, 10, 12, 92])
            (.cond (.t 92)
            .skip
            (.exit 6)))
            (.seq
            (.block 7
            (.reg 23 [⟨(some 95), none, (.q (.mov (.t 5)))⟩, ⟨(some 96), none, (.q (.mov (.t 10)))⟩, ⟨(some 97), none, (.q (.iaddr 15 (.t 95) (.t 96)))⟩, ⟨(some 98), none, (.q (.faddr 7 (.t 97)))⟩, ⟨(some 99), none, (.q (.load none (.t 98)))⟩, ⟨(some 100), none, (.q (.mov (.t 12)))⟩, ⟨(some 101), none, (.q (.iaddr 7 (.t 99) (.t 100)))⟩, ⟨(some 102), none, (.q (.faddr 0 (.t 101)))⟩, ⟨none, none, (.store 1 (.t 102) (.c (.int .u8 77)))⟩] [5, 6, 8, 10, 12]))
            (.reg 22 [⟨(some 93), none, (.q (.mov (.t 12)))⟩, ⟨(some 94), none, (.q (.bin .add (.t 93) (.c (.int .i64 1))))⟩, ⟨(some 12), none, (.q (.mov (.t 94)))⟩] [5, 6, 8, 10, 12]))))))
            (.reg 24 [⟨(some 103), none, (.q (.mov (.t 5)))⟩, ⟨(some 104), none, (.q (.mov (.t 10)))⟩, ⟨(some 105), none, (.q (.iaddr 15 (.t 103) (.t 104)))⟩, ⟨(some 106), none, (.q (.faddr 0 (.t 105)))⟩, ⟨none, none, (.store 1 (.t 106) (.c (.str [63])))⟩] [5, 6, 8, 10]))))
            (.reg 15 [⟨(some 65), none, (.q (.mov (.t 10)))⟩, ⟨(some 66), none, (.q (.bin .add (.t 65) (.c (.int .i64 1))))⟩, ⟨(some 10), none, (.q (.mov (.t 66)))⟩] [5, 6, 8, 10]))))))
        (.seq
         (.seq
          (.reg 25 [⟨(some 13), none, (.q (.mov (.c (.int .i64 0))))⟩] [6, 8, 13])
          (.block 8
           (.loop
            (.seq
            (.seq
            (.reg 26 [⟨(some 107), none, (.q (.mov (.t 13)))⟩, ⟨(some 108), none, (.q (.bin .lss (.t 107) (.c (.int .i64 2))))⟩] [6, 8, 13, 108])
            (.cond (.t 108)
            .skip
            (.exit 8)))
            (.seq
            (.block 9
            (.seq
            (.seq
            (.reg 28 [⟨(some 14), none, (.q (.mov (.c (.int .i64 0))))⟩] [6, 8, 13, 14])
            (.block 10
            (.loop
            (.seq
            (.seq
            (.reg 29 [⟨(some 111), none, (.q (.mov (.t 14)))⟩, ⟨(some 112), none, (.q (.mov (.t 6)))⟩, ⟨(some 113), none, (.q (.len 0 (.t 112)))⟩, ⟨(some 114), none, (.q (.bin .lss (.t 111) (.t 113)))⟩] [6, 8, 13, 14, 114])
            (.cond (.t 114)
            .skip
            (.exit 10)))
            (.seq
            (.block 11
            (.seq
            (.reg 31 [⟨(some 118), none, (.q (.mov (.t 8)))⟩, ⟨(some 119), none, (.q (.mov (.t 14)))⟩, ⟨(some 120), none, (.call 9 [(.t 118), (.t 119)])⟩, ⟨(some 117), none, (.q (.mov (.t 120)))⟩, ⟨(some 121), none, (.q (.ext 0 (.t 117)))⟩, ⟨(some 122), none, (.q (.ext 1 (.t 117)))⟩, ⟨(some 15), none, (.alloc [(.str []), (.int .i64 0), (.str []), (.str []), (.int .u8 0), (.str []), .nilslice, .nilslice, .nilslice, .nilslice, .nilslice, .nilslice, .nilslice, .nilslice, .nilslice])⟩, ⟨none, none, (.store 15 (.t 15) (.t 121))⟩, ⟨(some 16), none, (.q (.mov (.t 122)))⟩] [6, 8, 13, 14, 15, 16])
            (.seq
            (.seq
            (.dreg 32 [⟨(some 123), none, (.q (.mov (.t 16)))⟩, ⟨(some 124), none, (.q (.bin .neq (.t 123) (.c (.int .i64 0))))⟩, ⟨(some 125), none, (.q (.mov (.t 124)))⟩, ⟨(some 126), (some ⟨125, false⟩), (.q (.load (some 15) (.t 15)))⟩, ⟨(some 127), (some ⟨125, false⟩), (.q (.mov (.t 6)))⟩, ⟨(some 128), (some ⟨125, false⟩), (.q (.mov (.t 14)))⟩, ⟨(some 129), (some ⟨125, false⟩), (.q (.iaddr 15 (.t 127) (.t 128)))⟩, ⟨(some 130), (some ⟨125, false⟩), (.q (.load (some 15) (.t 129)))⟩, ⟨(some 131), (some ⟨125, false⟩), (.call 10 [(.t 126), (.t 130)])⟩, ⟨(some 132), (some ⟨125, false⟩), (.q (.not (.t 131)))⟩, ⟨(some 133), none, (.q (.pick (.t 125) (.c (.bool true)) (.t 132)))⟩] false [6, 8, 13, 14, 15, 133])
            (.cond (.t 133)
            (.seq
            (.reg 33 [⟨(some 4), none, (.q (.mov (.c (.bool false))))⟩] [4])
            .ret)
            .skip))
            (.seq
            (.seq
            (.reg 34 [⟨(some 17), none, (.q (.mov (.c (.int .i64 0))))⟩] [6, 8, 13, 14, 15, 17])
            (.block 12
            (.loop
            (.seq
            (.seq
            (.reg 35 [⟨(some 134), none, (.q (.mov (.t 17)))⟩, ⟨(some 135), none, (.q (.faddr 6 (.t 15)))⟩, ⟨(some 136), none, (.q (.load none (.t 135)))⟩, ⟨(some 137), none, (.q (.len 0 (.t 136)))⟩, ⟨(some 138), none, (.q (.bin .lss (.t 134) (.t 137)))⟩] [6, 8, 13, 14, 15, 17, 138])
            (.cond (.t 138)
            .skip
            (.exit 12)))
            (.seq
            (.block 13
            (.reg 37 [⟨(some 141), none, (.q (.faddr 6 (.t 15)))⟩, ⟨(some 142), none, (.q (.load none (.t 141)))⟩, ⟨(some 143), none, (.q (.mov (.t 17)))⟩, ⟨(some 144), none, (.q (.iaddr 5 (.t 142) (.t 143)))⟩, ⟨(some 145), none, (.q (.faddr 0 (.t 144)))⟩, ⟨none, none, (.store 1 (.t 145) (.c (.str [63])))⟩] [6, 8, 13, 14, 15, 17]))
            (.reg 36 [⟨(some 139), none, (.q (.mov (.t 17)))⟩, ⟨(some 140), none, (.q (.bin .add (.t 139) (.c (.int .i64 1))))⟩, ⟨(some 17), none, (.q (.mov (.t 140)))⟩] [6, 8, 13, 14, 15, 17]))))))
            (.seq
            (.seq
            (.reg 38 [⟨(some 18), none, (.q (.mov (.c (.int .i64 0))))⟩] [6, 8, 13, 14, 15, 18])
            (.block 14
            (.loop
            (.seq
            (.seq
            (.reg 39 [⟨(some 146), none, (.q (.mov (.t 18)))⟩, ⟨(some 147), none, (.q (.faddr 7 (.t 15)))⟩, ⟨(some 148), none, (.q (.load none (.t 147)))⟩, ⟨(some 149), none, (.q (.len 0 (.t 148)))⟩, ⟨(some 150), none, (.q (.bin .lss (.t 146) (.t 149)))⟩] [6, 8, 13, 14, 15, 18, 150])
            (.cond (.t 150)
            .skip
            (.exit 14)))
            (.seq
            (.block 15
            (.reg 41 [⟨(some 153), none, (.q (.faddr 7 (.t 15)))⟩, ⟨(some 154), none, (.q (.load none (.t 153)))⟩, ⟨(some 155), none, (.q (.mov (.t 18)))⟩, ⟨(some 156), none, (.q (.iaddr 7 (.t 154) (.t 155)))⟩, ⟨(some 157), none, (.q (.faddr 0 (.t 156)))⟩, ⟨none, none, (.store 1 (.t 157) (.c (.int .u8 77)))⟩] [6, 8, 13, 14, 15, 18]))
            (.reg 40 [⟨(some 151), none, (.q (.mov (.t 18)))⟩, ⟨(some 152), none, (.q (.bin .add (.t 151) (.c (.int .i64 1))))⟩, ⟨(some 18), none, (.q (.mov (.t 152)))⟩] [6, 8, 13, 14, 15, 18]))))))
            (.seq
            (.seq
            (.reg 42 [⟨(some 19), none, (.q (.mov (.c (.int .i64 0))))⟩] [6, 8, 13, 14, 15, 19])
            (.block 16
            (.loop
            (.seq
            (.seq
            (.reg 43 [⟨(some 158), none, (.q (.mov (.t 19)))⟩, ⟨(some 159), none, (.q (.faddr 14 (.t 15)))⟩, ⟨(some 160), none, (.q (.load none (.t 159)))⟩, ⟨(some 161), none, (.q (.len 0 (.t 160)))⟩, ⟨(some 162), none, (.q (.bin .lss (.t 158) (.t 161)))⟩] [6, 8, 13, 14, 15, 19, 162])
            (.cond (.t 162)
            .skip
            (.exit 16)))
            (.seq
            (.block 17
            (.reg 45 [⟨(some 165), none, (.q (.faddr 14 (.t 15)))⟩, ⟨(some 166), none, (.q (.load none (.t 165)))⟩, ⟨(some 167), none, (.q (.mov (.t 19)))⟩, ⟨(some 168), none, (.q (.iaddr 1 (.t 166) (.t 167)))⟩, ⟨none, none, (.store 1 (.t 168) (.c (.str [63])))⟩] [6, 8, 13, 14, 15, 19]))
            (.reg 44 [⟨(some 163), none, (.q (.mov (.t 19)))⟩, ⟨(some 164), none, (.q (.bin .add (.t 163) (.c (.int .i64 1))))⟩, ⟨(some 19), none, (.q (.mov (.t 164)))⟩] [6, 8, 13, 14, 15, 19]))))))
            (.seq
            (.reg 46 [⟨(some 169), none, (.q (.mov (.t 8)))⟩, ⟨(some 170), none, (.q (.mov (.t 6)))⟩, ⟨(some 171), none, (.q (.mov (.t 14)))⟩, ⟨(some 172), none, (.q (.iaddr 15 (.t 170) (.t 171)))⟩, ⟨(some 173), none, (.q (.faddr 0 (.t 172)))⟩, ⟨(some 174), none, (.q (.load none (.t 173)))⟩, ⟨(some 175), none, (.call 16 [(.t 169), (.t 174)])⟩, ⟨(some 20), none, (.q (.mov (.t 175)))⟩] [6, 8, 13, 14, 20])
            (.seq
            (.seq
            (.reg 47 [⟨(some 176), none, (.q (.mov (.t 20)))⟩, ⟨(some 177), none, (.q (.len 0 (.t 176)))⟩, ⟨(some 178), none, (.q (.bin .eql (.t 177) (.c (.int .i64 0))))⟩, ⟨(some 179), none, (.q (.mov (.t 178)))⟩, ⟨(some 180), (some ⟨179, false⟩), (.q (.mov (.t 20)))⟩, ⟨(some 181), (some ⟨179, false⟩), (.q (.iaddr 1 (.t 180) (.c (.int .i64 0))))⟩, ⟨(some 182), (some ⟨179, false⟩), (.q (.load none (.t 181)))⟩, ⟨(some 183), (some ⟨179, false⟩), (.q (.bin .lss (.t 182) (.c (.int .i64 0))))⟩, ⟨(some 184), none, (.q (.pick (.t 179) (.c (.bool true)) (.t 183)))⟩] [6, 8, 13, 14, 20, 184])
            (.cond (.t 184)
            (.seq
            (.reg 48 [⟨(some 4), none, (.q (.mov (.c (.bool false))))⟩] [4])
            .ret)
            .skip))
            (.reg 49 [⟨(some 185), none, (.q (.mov (.t 20)))⟩, ⟨(some 186), none, (.q (.iaddr 1 (.t 185) (.c (.int .i64 0))))⟩, ⟨none, none, (.store 1 (.t 186) (.c (.int .i64 (-7))))⟩] [6, 8, 13, 14])))))))))
            (.reg 30 [⟨(some 115), none, (.q (.mov (.t 14)))⟩, ⟨(some 116), none, (.q (.bin .add (.t 115) (.c (.int .i64 1))))⟩, ⟨(some 14), none, (.q (.mov (.t 116)))⟩] [6, 8, 13, 14]))))))
            (.seq
            (.reg 50 [⟨(some 187), none, (.q (.mov (.t 8)))⟩, ⟨(some 188), none, (.call 17 [(.t 187)])⟩, ⟨(some 21), none, (.q (.mov (.t 188)))⟩] [6, 8, 13, 21])
            (.seq
            (.reg 51 [⟨(some 22), none, (.q (.mov (.c (.int .i64 0))))⟩] [6, 8, 13, 21, 22])
            (.block 18
            (.loop
            (.seq
            (.seq
            (.reg 52 [⟨(some 189), none, (.q (.mov (.t 22)))⟩, ⟨(some 190), none, (.q (.mov (.t 21)))⟩, ⟨(some 191), none, (.q (.len 0 (.t 190)))⟩, ⟨(some 192), none, (.q (.bin .lss (.t 189) (.t 191)))⟩] [6, 8, 13, 21, 22, 192])
            (.cond (.t 192)
            .skip
            (.exit 18)))
            (.seq
            (.block 19
            (.reg 54 [⟨(some 195), none, (.q (.mov (.t 21)))⟩, ⟨(some 196), none, (.q (.mov (.t 22)))⟩, ⟨(some 197), none, (.q (.iaddr 1 (.t 195) (.t 196)))⟩, ⟨none, none, (.store 1 (.t 197) (.c (.str [63])))⟩] [6, 8, 13, 21, 22]))
            (.reg 53 [⟨(some 193), none, (.q (.mov (.t 22)))⟩, ⟨(some 194), none, (.q (.bin .add (.t 193) (.c (.int .i64 1))))⟩, ⟨(some 22), none, (.q (.mov (.t 194)))⟩] [6, 8, 13, 21, 22])))))))))
            (.reg 27 [⟨(some 109), none, (.q (.mov (.t 13)))⟩, ⟨(some 110), none, (.q (.bin .add (.t 109) (.c (.int .i64 1))))⟩, ⟨(some 13), none, (.q (.mov (.t 110)))⟩] [6, 8, 13]))))))
         (.seq
          (.reg 55 [⟨(some 4), none, (.q (.mov (.c (.bool true))))⟩] [4])
          .ret))))))))))
theorem fok5 : FOK Tryd.prog 5 (198, ic5, [(.t 4)]) := .mk (pf := [1000043, 1000051]) (an := [(0, [0, 1]), (1, [0, 1, 29]), (2, [4]), (3, [0, 1, 5]), (4, [0, 1, 5, 6]), (5, [0, 1, 5, 6, 7]), (6, [0, 1, 5, 6, 7, 34]), (7, [0, 1, 5, 6, 7]), (8, [0, 1, 5, 6, 7]), (9, [0, 1, 5, 6, 7]), (10, [5, 6, 8, 9]), (11, [5, 6, 8, 60]), (12, [4]), (13, [5, 6, 8, 10]), (14, [5, 6, 8, 10, 64]), (15, [5, 6, 8, 10]), (16, [5, 6, 8, 10, 11]), (17, [5, 6, 8, 10, 11, 74]), (18, [5, 6, 8, 10, 11]), (19, [5, 6, 8, 10, 11]), (20, [5, 6, 8, 10, 12]), (21, [5, 6, 8, 10, 12, 92]), (22, [5, 6, 8, 10, 12]), (23, [5, 6, 8, 10, 12]), (24, [5, 6, 8, 10]), (25, [6, 8, 13]), (26, [6, 8, 13, 108]), (27, [6, 8, 13]), (28, [6, 8, 13, 14]), (29, [6, 8, 13, 14, 114]), (30, [6, 8, 13, 14]), (31, [6, 8, 13, 14, 15, 16]), (32, [6, 8, 13, 14, 15, 133]), (33, [4]), (34, [6, 8, 13, 14, 15, 17]), (35, [6, 8, 13, 14, 15, 17, 138]), (36, [6, 8, 13, 14, 15, 17]), (37, [6, 8, 13, 14, 15, 17]), (38, [6, 8, 13, 14, 15, 18]), (39, [6, 8, 13, 14, 15, 18, 150]), (40, [6, 8, 13, 14, 15, 18]), (41, [6, 8, 13, 14, 15, 18]), (42, [6, 8, 13, 14, 15, 19]), (43, [6, 8, 13, 14, 15, 19, 162]), (44, [6, 8, 13, 14, 15, 19]), (45, [6, 8, 13, 14, 15, 19]), (46, [6, 8, 13, 14, 20]), (47, [6, 8, 13, 14, 20, 184]), (48, [4]), (49, [6, 8, 13, 14]), (50, [6, 8, 13, 21]), (51, [6, 8, 13, 21, 22]), (52, [6, 8, 13, 21, 22, 192]), (53, [6, 8, 13, 21, 22]), (54, [6, 8, 13, 21, 22]), (55, [4])]) (by kernel_rfl) (fnOK_of Tryd.func5 (by kernel_rfl) (by kernel_rfl) (by kernel_rfl))
/-- chandlery/chandlerylaw12.wide -/
def ic6 : IC :=
(.seq
 (.reg 0 [⟨(some 4), none, (.q (.mov (.c (.bool false))))⟩] [0, 1])
 (.seq
  (.seq
   (.reg 1 [⟨(some 9), none, (.q (.mov (.t 0)))⟩, ⟨(some 10), none, (.q (.len 0 (.t 9)))⟩, ⟨(some 11), none, (.q (.bin .gtr (.t 10) (.c (.int .i64 30))))⟩, ⟨(some 12), none, (.q (.mov (.t 11)))⟩, ⟨(some 13), (some ⟨12, false⟩), (.q (.mov (.t 1)))⟩, ⟨(some 14), (some ⟨12, false⟩), (.q (.len 0 (.t 13)))⟩, ⟨(some 15), (some ⟨12, false⟩), (.q (.bin .gtr (.t 14) (.c (.int .i64 40))))⟩, ⟨(some 16), none, (.q (.pick (.t 12) (.c (.bool true)) (.t 15)))⟩] [0, 1, 16])
   (.cond (.t 16)
    (.seq
     (.reg 2 [⟨(some 4), none, (.q (.mov (.c (.bool true))))⟩] [4])
     .ret)
    .skip))
  (.seq
   (.reg 3 [⟨(some 17), none, (.q (.mov (.t 1)))⟩, ⟨(some 18), none, (.q (.len 0 (.t 17)))⟩, ⟨(some 5), none, (.q (.mov (.t 18)))⟩] [0, 1, 5])
   (.seq
    (.seq
     (.reg 4 [⟨(some 6), none, (.q (.mov (.c (.int .i64 0))))⟩] [0, 1, 5, 6])
     (.block 0
      (.loop
       (.seq
        (.seq
         (.reg 5 [⟨(some 19), none, (.q (.mov (.t 6)))⟩, ⟨(some 20), none, (.q (.mov (.t 1)))⟩, ⟨(some 21), none, (.q (.len 0 (.t 20)))⟩, ⟨(some 22), none, (.q (.bin .lss (.t 19) (.t 21)))⟩] [0, 1, 5, 6, 22])
         (.cond (.t 22)
          .skip
          (.exit 0)))
        (.seq
         (.block 1
          (.seq
           (.reg 7 [⟨(some 25), none, (.q (.mov (.t 1)))⟩, ⟨(some 26), none, (.q (.mov (.t 6)))⟩, ⟨(some 27), none, (.q (.iaddr 15 (.t 25) (.t 26)))⟩, ⟨(some 28), none, (.q (.load (some 15) (.t 27)))⟩, ⟨(some 29), none, (.call 18 [(.t 28)])⟩] [0, 1, 5, 6, 29])
           (.cond (.t 29)
            (.seq
            (.reg 8 [⟨(some 4), none, (.q (.mov (.c (.bool true))))⟩] [4])
            .ret)
            .skip)))
         (.reg 6 [⟨(some 23), none, (.q (.mov (.t 6)))⟩, ⟨(some 24), none, (.q (.bin .add (.t 23) (.c (.int .i64 1))))⟩, ⟨(some 6), none, (.q (.mov (.t 24)))⟩] [0, 1, 5, 6]))))))
    (.seq
     (.seq
      (.reg 9 [⟨(some 7), none, (.q (.mov (.c (.int .i64 0))))⟩] [0, 5, 7])
      (.block 2
       (.loop
        (.seq
         (.seq
          (.reg 10 [⟨(some 30), none, (.q (.mov (.t 7)))⟩, ⟨(some 31), none, (.q (.mov (.t 0)))⟩, ⟨(some 32), none, (.q (.len 0 (.t 31)))⟩, ⟨(some 33), none, (.q (.bin .lss (.t 30) (.t 32)))⟩] [0, 5, 7, 33])
          (.cond (.t 33)
           .skip
           (.exit 2)))
         (.seq
          (.block 3
           (.seq
            (.reg 12 [⟨(some 36), none, (.q (.mov (.t 5)))⟩, ⟨(some 37), none, (.q (.mov (.t 0)))⟩, ⟨(some 38), none, (.q (.mov (.t 7)))⟩, ⟨(some 39), none, (.q (.iaddr 2 (.t 37) (.t 38)))⟩, ⟨(some 40), none, (.q (.faddr 1 (.t 39)))⟩, ⟨(some 41), none, (.q (.load none (.t 40)))⟩, ⟨(some 42), none, (.q (.len 0 (.t 41)))⟩, ⟨(some 43), none, (.q (.bin .add (.t 36) (.t 42)))⟩, ⟨(some 5), none, (.q (.mov (.t 43)))⟩] [0, 5, 7])
            (.seq
            (.seq
            (.reg 13 [⟨(some 44), none, (.q (.mov (.t 5)))⟩, ⟨(some 45), none, (.q (.bin .gtr (.t 44) (.c (.int .i64 80))))⟩] [0, 5, 7, 45])
            (.cond (.t 45)
            (.seq
            (.reg 14 [⟨(some 4), none, (.q (.mov (.c (.bool true))))⟩] [4])
            .ret)
            .skip))
            (.seq
            (.reg 15 [⟨(some 8), none, (.q (.mov (.c (.int .i64 0))))⟩] [0, 5, 7, 8])
            (.block 4
            (.loop
            (.seq
            (.seq
            (.reg 16 [⟨(some 46), none, (.q (.mov (.t 8)))⟩, ⟨(some 47), none, (.q (.mov (.t 0)))⟩, ⟨(some 48), none, (.q (.mov (.t 7)))⟩, ⟨(some 49), none, (.q (.iaddr 2 (.t 47) (.t 48)))⟩, ⟨(some 50), none, (.q (.faddr 1 (.t 49)))⟩, ⟨(some 51), none, (.q (.load none (.t 50)))⟩, ⟨(some 52), none, (.q (.len 0 (.t 51)))⟩, ⟨(some 53), none, (.q (.bin .lss (.t 46) (.t 52)))⟩] [0, 5, 7, 8, 53])
            (.cond (.t 53)
            .skip
            (.exit 4)))
            (.seq
            (.block 5
            (.seq
            (.reg 18 [⟨(some 56), none, (.q (.mov (.t 0)))⟩, ⟨(some 57), none, (.q (.mov (.t 7)))⟩, ⟨(some 58), none, (.q (.iaddr 2 (.t 56) (.t 57)))⟩, ⟨(some 59), none, (.q (.faddr 1 (.t 58)))⟩, ⟨(some 60), none, (.q (.load none (.t 59)))⟩, ⟨(some 61), none, (.q (.mov (.t 8)))⟩, ⟨(some 62), none, (.q (.iaddr 15 (.t 60) (.t 61)))⟩, ⟨(some 63), none, (.q (.load (some 15) (.t 62)))⟩, ⟨(some 64), none, (.call 18 [(.t 63)])⟩] [0, 5, 7, 8, 64])
            (.cond (.t 64)
            (.seq
            (.reg 19 [⟨(some 4), none, (.q (.mov (.c (.bool true))))⟩] [4])
            .ret)
            .skip)))
            (.reg 17 [⟨(some 54), none, (.q (.mov (.t 8)))⟩, ⟨(some 55), none, (.q (.bin .add (.t 54) (.c (.int .i64 1))))⟩, ⟨(some 8), none, (.q (.mov (.t 55)))⟩] [0, 5, 7, 8])))))))))
          (.reg 11 [⟨(some 34), none, (.q (.mov (.t 7)))⟩, ⟨(some 35), none, (.q (.bin .add (.t 34) (.c (.int .i64 1))))⟩, ⟨(some 7), none, (.q (.mov (.t 35)))⟩] [0, 5, 7]))))))
     (.seq
      (.reg 20 [⟨(some 4), none, (.q (.mov (.c (.bool false))))⟩] [4])
      .ret))))))
theorem fok6 : FOK Tryd.prog 6 (65, ic6, [(.t 4)]) := .mk (pf := []) (an := [(0, [0, 1]), (1, [0, 1, 16]), (2, [4]), (3, [0, 1, 5]), (4, [0, 1, 5, 6]), (5, [0, 1, 5, 6, 22]), (6, [0, 1, 5, 6]), (7, [0, 1, 5, 6, 29]), (8, [4]), (9, [0, 5, 7]), (10, [0, 5, 7, 33]), (11, [0, 5, 7]), (12, [0, 5, 7]), (13, [0, 5, 7, 45]), (14, [4]), (15, [0, 5, 7, 8]), (16, [0, 5, 7, 8, 53]), (17, [0, 5, 7, 8]), (18, [0, 5, 7, 8, 64]), (19, [4]), (20, [4])]) (by kernel_rfl) (fnOK_of Tryd.func6 (by kernel_rfl) (by kernel_rfl) (by kernel_rfl))
/-- chandlery/chandlerylaw12.awake -/
def ic7 : IC :=
(.seq
 (.reg 0 [⟨(some 0), none, (.q (.mov (.c (.bool false))))⟩] [])
 (.seq
  (.reg 1 [⟨(some 6), none, (.call 19 [(.c (.str [98]))])⟩, ⟨(some 7), none, (.call 19 [(.c (.str [99]))])⟩, ⟨(some 8), none, (.bslt 15 2 [(.str []), (.int .i64 0), (.str []), (.str []), (.int .u8 0), (.str []), .nilslice, .nilslice, .nilslice, .nilslice, .nilslice, .nilslice, .nilslice, .nilslice, .nilslice] [⟨0, ⟨15, (.t 6)⟩⟩, ⟨15, ⟨15, (.t 7)⟩⟩])⟩, ⟨(some 9), none, (.q (.bld [(.int .i64 0), .nilslice] [⟨0, ⟨1, (.c (.int .i64 5))⟩⟩, ⟨1, ⟨1, (.t 8)⟩⟩]))⟩, ⟨(some 10), none, (.call 19 [(.c (.str [97]))])⟩, ⟨(some 11), none, (.bslt 15 1 [(.str []), (.int .i64 0), (.str []), (.str []), (.int .u8 0), (.str []), .nilslice, .nilslice, .nilslice, .nilslice, .nilslice, .nilslice, .nilslice, .nilslice, .nilslice] [⟨0, ⟨15, (.t 10)⟩⟩])⟩, ⟨(some 12), none, (.q (.bld [(.int .i64 0), .nilslice] [⟨0, ⟨1, (.c (.int .i64 7))⟩⟩, ⟨1, ⟨1, (.t 11)⟩⟩]))⟩, ⟨(some 13), none, (.bslt 2 2 [(.int .i64 0), .nilslice] [⟨0, ⟨2, (.t 9)⟩⟩, ⟨2, ⟨2, (.t 12)⟩⟩])⟩, ⟨(some 14), none, (.call 19 [(.c (.str [97]))])⟩, ⟨(some 15), none, (.bslt 15 1 [(.str []), (.int .i64 0), (.str []), (.str []), (.int .u8 0), (.str []), .nilslice, .nilslice, .nilslice, .nilslice, .nilslice, .nilslice, .nilslice, .nilslice, .nilslice] [⟨0, ⟨15, (.t 14)⟩⟩])⟩, ⟨(some 16), none, (.call 8 [(.t 13), (.t 15)])⟩, ⟨(some 5), none, (.q (.mov (.t 16)))⟩, ⟨(some 17), none, (.q (.ext 0 (.t 5)))⟩, ⟨(some 18), none, (.q (.ext 1 (.t 5)))⟩, ⟨(some 1), none, (.q (.mov (.t 17)))⟩, ⟨(some 2), none, (.q (.mov (.t 18)))⟩] [1, 2])
  (.seq
   (.seq
    (.reg 2 [⟨(some 19), none, (.q (.mov (.t 2)))⟩, ⟨(some 20), none, (.q (.bin .neq (.t 19) (.c (.int .i64 0))))⟩] [1, 20])
    (.cond (.t 20)
     (.seq
      (.reg 3 [⟨(some 0), none, (.q (.mov (.c (.bool false))))⟩] [0])
      .ret)
     .skip))
   (.seq
    (.reg 4 [⟨(some 22), none, (.q (.mov (.t 1)))⟩, ⟨(some 23), none, (.call 9 [(.t 22), (.c (.int .i64 2))])⟩, ⟨(some 21), none, (.q (.mov (.t 23)))⟩, ⟨(some 24), none, (.q (.ext 0 (.t 21)))⟩, ⟨(some 25), none, (.q (.ext 1 (.t 21)))⟩, ⟨(some 3), none, (.alloc [(.str []), (.int .i64 0), (.str []), (.str []), (.int .u8 0), (.str []), .nilslice, .nilslice, .nilslice, .nilslice, .nilslice, .nilslice, .nilslice, .nilslice, .nilslice])⟩, ⟨none, none, (.store 15 (.t 3) (.t 24))⟩, ⟨(some 4), none, (.q (.mov (.t 25)))⟩] [1, 3, 4])
    (.seq
     (.reg 5 [⟨(some 26), none, (.q (.mov (.t 1)))⟩, ⟨(some 27), none, (.call 13 [(.t 26)])⟩, ⟨(some 28), none, (.q (.bin .eql (.t 27) (.c (.int .i64 4))))⟩, ⟨(some 29), none, (.q (.mov (.t 28)))⟩, ⟨(some 30), (some ⟨29, true⟩), (.q (.mov (.t 1)))⟩, ⟨(some 31), (some ⟨29, true⟩), (.call 14 [(.t 30)])⟩, ⟨(some 32), (some ⟨29, true⟩), (.q (.bin .eql (.t 31) (.c (.int .i64 1))))⟩, ⟨(some 33), none, (.q (.pick (.t 29) (.t 32) (.c (.bool false))))⟩, ⟨(some 34), none, (.q (.mov (.t 33)))⟩, ⟨(some 35), (some ⟨34, true⟩), (.q (.mov (.t 4)))⟩, ⟨(some 36), (some ⟨34, true⟩), (.q (.bin .eql (.t 35) (.c (.int .i64 0))))⟩, ⟨(some 37), none, (.q (.pick (.t 34) (.t 36) (.c (.bool false))))⟩, ⟨(some 38), none, (.q (.mov (.t 37)))⟩, ⟨(some 39), (some ⟨38, true⟩), (.q (.faddr 0 (.t 3)))⟩, ⟨(some 40), (some ⟨38, true⟩), (.q (.load none (.t 39)))⟩, ⟨(some 41), (some ⟨38, true⟩), (.q (.bin .eql (.t 40) (.c (.str [99]))))⟩, ⟨(some 42), none, (.q (.pick (.t 38) (.t 41) (.c (.bool false))))⟩, ⟨(some 43), none, (.q (.mov (.t 42)))⟩, ⟨(some 44), (some ⟨43, true⟩), (.q (.mov (.t 1)))⟩, ⟨(some 45), (some ⟨43, true⟩), (.call 11 [(.t 44), (.c (.int .i64 2))])⟩, ⟨(some 46), (some ⟨43, true⟩), (.q (.bin .eql (.t 45) (.c (.int .i64 0))))⟩, ⟨(some 47), none, (.q (.pick (.t 43) (.t 46) (.c (.bool false))))⟩, ⟨(some 48), none, (.q (.mov (.t 47)))⟩, ⟨(some 49), (some ⟨48, true⟩), (.q (.mov (.t 1)))⟩, ⟨(some 50), (some ⟨48, true⟩), (.call 12 [(.t 49), (.c (.int .i64 2))])⟩, ⟨(some 51), (some ⟨48, true⟩), (.q (.bin .eql (.t 50) (.c (.int .i64 5))))⟩, ⟨(some 52), none, (.q (.pick (.t 48) (.t 51) (.c (.bool false))))⟩, ⟨(some 53), none, (.q (.mov (.t 52)))⟩, ⟨(some 54), (some ⟨53, true⟩), (.q (.mov (.t 1)))⟩, ⟨(some 55), (some ⟨53, true⟩), (.call 12 [(.t 54), (.c (.int .i64 0))])⟩, ⟨(some 56), (some ⟨53, true⟩), (.q (.bin .eql (.t 55) (.c (.int .i64 1025))))⟩, ⟨(some 57), none, (.q (.pick (.t 53) (.t 56) (.c (.bool false))))⟩, ⟨(some 58), none, (.q (.mov (.t 57)))⟩, ⟨(some 59), (some ⟨58, true⟩), (.q (.mov (.t 1)))⟩, ⟨(some 60), (some ⟨58, true⟩), (.call 16 [(.t 59), (.c (.str [97]))])⟩, ⟨(some 61), (some ⟨58, true⟩), (.bslt 1 2 [(.int .i64 0)] [⟨0, ⟨1, (.c (.int .i64 0))⟩⟩, ⟨1, ⟨1, (.c (.int .i64 3))⟩⟩])⟩, ⟨(some 62), (some ⟨58, true⟩), (.call 20 [(.t 60), (.t 61)])⟩, ⟨(some 63), none, (.q (.pick (.t 58) (.t 62) (.c (.bool false))))⟩, ⟨(some 0), none, (.q (.mov (.t 63)))⟩] [0])
     .ret)))))
theorem fok7 : FOK Tryd.prog 7 (64, ic7, [(.t 0)]) := .mk (pf := [1000008, 1000011, 1000013, 1000015, 1000061]) (an := [(1, [1, 2]), (2, [1, 20]), (3, [0]), (4, [1, 3, 4]), (5, [0])]) (by kernel_rfl) (fnOK_of Tryd.func7 (by kernel_rfl) (by kernel_rfl) (by kernel_rfl))
/-- chandlery/pool.New -/
def ic8 : IC :=
(.seq
 (.reg 0 [⟨(some 4), none, (.q (.mov (.c .nilptr)))⟩, ⟨(some 5), none, (.q (.mov (.c (.int .i64 0))))⟩] [0, 1])
 (.seq
  (.reg 1 [⟨(some 14), none, (.q (.mov (.t 1)))⟩, ⟨(some 15), none, (.q (.len 0 (.t 14)))⟩, ⟨(some 6), none, (.q (.mov (.t 15)))⟩] [0, 1, 6])
  (.seq
   (.seq
    (.reg 2 [⟨(some 16), none, (.q (.mov (.t 0)))⟩, ⟨(some 17), none, (.q (.len 0 (.t 16)))⟩, ⟨(some 18), none, (.q (.mov (.c (.int .i64 0))))⟩] [0, 1, 6, 16, 17, 18])
    (.block 0
     (.loop
      (.seq
       (.reg 3 [⟨(some 19), none, (.q (.bin .lss (.t 18) (.t 17)))⟩] [0, 1, 6, 16, 17, 18, 19])
       (.seq
        (.cond (.t 19)
         .skip
         (.exit 0))
        (.seq
         (.block 1
          (.seq
           (.reg 4 [⟨(some 20), none, (.q (.iaddr 2 (.t 16) (.t 18)))⟩, ⟨(some 21), none, (.q (.load (some 2) (.t 20)))⟩, ⟨(some 8), none, (.alloc [(.int .i64 0), .nilslice])⟩, ⟨none, none, (.store 2 (.t 8) (.t 21))⟩] [0, 1, 6, 8, 16, 17, 18])
           (.reg 5 [⟨(some 22), none, (.q (.mov (.t 6)))⟩, ⟨(some 23), none, (.q (.faddr 1 (.t 8)))⟩, ⟨(some 24), none, (.q (.load none (.t 23)))⟩, ⟨(some 25), none, (.q (.len 0 (.t 24)))⟩, ⟨(some 26), none, (.q (.bin .add (.t 22) (.t 25)))⟩, ⟨(some 6), none, (.q (.mov (.t 26)))⟩] [0, 1, 6, 16, 17, 18])))
         (.reg 6 [⟨(some 27), none, (.q (.bin .add (.t 18) (.c (.int .i64 1))))⟩, ⟨(some 18), none, (.q (.mov (.t 27)))⟩] [0, 1, 6, 16, 17, 18])))))))
   (.seq
    (.seq
     (.reg 7 [⟨(some 28), none, (.q (.mov (.t 0)))⟩, ⟨(some 29), none, (.q (.len 0 (.t 28)))⟩, ⟨(some 30), none, (.q (.bin .gtr (.t 29) (.c (.int .i64 16))))⟩, ⟨(some 31), none, (.q (.mov (.t 30)))⟩, ⟨(some 32), (some ⟨31, false⟩), (.q (.mov (.t 6)))⟩, ⟨(some 33), (some ⟨31, false⟩), (.q (.bin .gtr (.t 32) (.c (.int .i64 256))))⟩, ⟨(some 34), none, (.q (.pick (.t 31) (.c (.bool true)) (.t 33)))⟩] [0, 1, 34])
     (.cond (.t 34)
      (.seq
       (.reg 8 [⟨(some 4), none, (.q (.mov (.c .nilptr)))⟩, ⟨(some 5), none, (.q (.mov (.c (.int .i64 40))))⟩] [4, 5])
       .ret)
      .skip))
    (.seq
     (.reg 9 [⟨(some 35), none, (.q (.mov (.t 1)))⟩, ⟨(some 36), none, (.q (.len 0 (.t 35)))⟩, ⟨(some 37), none, .mkmap⟩, ⟨(some 38), none, (.q (.bld [.nilslice, (.int .i64 0), .nilmap] [⟨1, ⟨1, (.t 36)⟩⟩, ⟨2, ⟨1, (.t 37)⟩⟩]))⟩, ⟨(some 39), none, (.box (.t 38))⟩, ⟨(some 9), none, (.q (.mov (.t 39)))⟩] [0, 1, 9])
     (.seq
      (.seq
       (.reg 10 [⟨(some 40), none, (.q (.mov (.t 9)))⟩, ⟨(some 41), none, (.q (.mov (.t 1)))⟩, ⟨(some 42), none, (.call 21 [(.t 40), (.t 41), (.c (.int .i64 (-1))), (.c (.int .i64 1025))])⟩, ⟨(some 10), none, (.q (.mov (.t 42)))⟩] [0, 9, 10])
       (.seq
        (.reg 11 [⟨(some 43), none, (.q (.mov (.t 10)))⟩, ⟨(some 44), none, (.q (.bin .neq (.t 43) (.c (.int .i64 0))))⟩] [0, 9, 10, 44])
        (.cond (.t 44)
         (.seq
          (.reg 12 [⟨(some 45), none, (.q (.mov (.t 10)))⟩, ⟨(some 4), none, (.q (.mov (.c .nilptr)))⟩, ⟨(some 5), none, (.q (.mov (.t 45)))⟩] [4, 5])
          .ret)
         .skip)))
      (.seq
       (.seq
        (.reg 13 [⟨(some 46), none, (.q (.mov (.t 0)))⟩, ⟨(some 47), none, (.q (.len 0 (.t 46)))⟩, ⟨(some 48), none, (.q (.mov (.c (.int .i64 0))))⟩] [9, 46, 47, 48])
        (.block 2
         (.loop
          (.seq
           (.reg 14 [⟨(some 49), none, (.q (.bin .lss (.t 48) (.t 47)))⟩] [9, 46, 47, 48, 49])
           (.seq
            (.cond (.t 49)
            .skip
            (.exit 2))
            (.seq
            (.block 3
            (.seq
            (.reg 15 [⟨(some 50), none, (.q (.mov (.t 48)))⟩, ⟨(some 51), none, (.q (.iaddr 2 (.t 46) (.t 48)))⟩, ⟨(some 52), none, (.q (.load (some 2) (.t 51)))⟩, ⟨(some 12), none, (.alloc [(.int .i64 0), .nilslice])⟩, ⟨(some 11), none, (.q (.mov (.t 50)))⟩, ⟨none, none, (.store 2 (.t 12) (.t 52))⟩] [9, 11, 12, 46, 47, 48])
            (.seq
            (.seq
            (.reg 16 [⟨(some 53), none, (.q (.faddr 0 (.t 12)))⟩, ⟨(some 54), none, (.q (.load none (.t 53)))⟩, ⟨(some 55), none, (.q (.bin .lss (.t 54) (.c (.int .i64 0))))⟩, ⟨(some 56), none, (.q (.mov (.t 55)))⟩, ⟨(some 57), (some ⟨56, false⟩), (.q (.faddr 0 (.t 12)))⟩, ⟨(some 58), (some ⟨56, false⟩), (.q (.load none (.t 57)))⟩, ⟨(some 59), (some ⟨56, false⟩), (.q (.bin .gtr (.t 58) (.c (.int .i64 1024))))⟩, ⟨(some 60), none, (.q (.pick (.t 56) (.c (.bool true)) (.t 59)))⟩] [9, 11, 12, 46, 47, 48, 60])
            (.cond (.t 60)
            (.seq
            (.reg 17 [⟨(some 4), none, (.q (.mov (.c .nilptr)))⟩, ⟨(some 5), none, (.q (.mov (.c (.int .i64 4))))⟩] [4, 5])
            .ret)
            .skip))
            (.seq
            (.reg 18 [⟨(some 61), none, (.q (.mov (.t 9)))⟩, ⟨(some 62), none, (.q (.faddr 1 (.t 12)))⟩, ⟨(some 63), none, (.q (.load none (.t 62)))⟩, ⟨(some 64), none, (.q (.mov (.t 11)))⟩, ⟨(some 65), none, (.q (.faddr 0 (.t 12)))⟩, ⟨(some 66), none, (.q (.load none (.t 65)))⟩, ⟨(some 67), none, (.call 21 [(.t 61), (.t 63), (.t 64), (.t 66)])⟩, ⟨(some 13), none, (.q (.mov (.t 67)))⟩] [9, 13, 46, 47, 48])
            (.seq
            (.reg 19 [⟨(some 68), none, (.q (.mov (.t 13)))⟩, ⟨(some 69), none, (.q (.bin .neq (.t 68) (.c (.int .i64 0))))⟩] [9, 13, 46, 47, 48, 69])
            (.cond (.t 69)
            (.seq
            (.reg 20 [⟨(some 70), none, (.q (.mov (.t 13)))⟩, ⟨(some 4), none, (.q (.mov (.c .nilptr)))⟩, ⟨(some 5), none, (.q (.mov (.t 70)))⟩] [4, 5])
            .ret)
            .skip))))))
            (.reg 21 [⟨(some 71), none, (.q (.bin .add (.t 48) (.c (.int .i64 1))))⟩, ⟨(some 48), none, (.q (.mov (.t 71)))⟩] [9, 46, 47, 48])))))))
       (.seq
        (.reg 22 [⟨(some 72), none, (.q (.mov (.t 9)))⟩, ⟨(some 4), none, (.q (.mov (.t 72)))⟩, ⟨(some 5), none, (.q (.mov (.c (.int .i64 0))))⟩] [4, 5])
        .ret))))))))
theorem fok8 : FOK Tryd.prog 8 (73, ic8, [(.t 4), (.t 5)]) := .mk (pf := []) (an := [(0, [0, 1]), (1, [0, 1, 6]), (2, [0, 1, 6, 16, 17, 18]), (3, [0, 1, 6, 16, 17, 18, 19]), (4, [0, 1, 6, 8, 16, 17, 18]), (5, [0, 1, 6, 16, 17, 18]), (6, [0, 1, 6, 16, 17, 18]), (7, [0, 1, 34]), (8, [4, 5]), (9, [0, 1, 9]), (10, [0, 9, 10]), (11, [0, 9, 10, 44]), (12, [4, 5]), (13, [9, 46, 47, 48]), (14, [9, 46, 47, 48, 49]), (15, [9, 11, 12, 46, 47, 48]), (16, [9, 11, 12, 46, 47, 48, 60]), (17, [4, 5]), (18, [9, 13, 46, 47, 48]), (19, [9, 13, 46, 47, 48, 69]), (20, [4, 5]), (21, [9, 46, 47, 48]), (22, [4, 5])]) (by kernel_rfl) (fnOK_of Tryd.func8 (by kernel_rfl) (by kernel_rfl) (by kernel_rfl))
/-- (*chandlery/pool.Pool).Package -/
def ic9 : IC :=
(.seq
 (.reg 0 [⟨(some 4), none, (.alloc [(.str []), (.int .i64 0), (.str []), (.str []), (.int .u8 0), (.str []), .nilslice, .nilslice, .nilslice, .nilslice, .nilslice, .nilslice, .nilslice, .nilslice, .nilslice])⟩, ⟨(some 5), none, (.q (.mov (.c (.int .i64 0))))⟩] [0, 1, 4])
 (.seq
  (.seq
   (.reg 1 [⟨(some 6), none, (.q (.mov (.t 0)))⟩, ⟨(some 7), none, (.q (.isnil (.pointer 59) false (.t 6)))⟩, ⟨(some 8), none, (.q (.mov (.t 7)))⟩, ⟨(some 9), (some ⟨8, false⟩), (.q (.mov (.t 0)))⟩, ⟨(some 10), (some ⟨8, false⟩), (.q (.nchk (.t 9)))⟩, ⟨(some 11), (some ⟨8, false⟩), (.q (.faddr 0 (.t 10)))⟩, ⟨(some 12), (some ⟨8, false⟩), (.q (.load none (.t 11)))⟩, ⟨(some 13), (some ⟨8, false⟩), (.q (.mov (.t 1)))⟩, ⟨(some 14), (some ⟨8, false⟩), (.call 22 [(.t 12), (.t 13)])⟩, ⟨(some 15), (some ⟨8, false⟩), (.q (.not (.t 14)))⟩, ⟨(some 16), none, (.q (.pick (.t 8) (.c (.bool true)) (.t 15)))⟩] [0, 1, 4, 16])
   (.cond (.t 16)
    (.seq
     (.reg 2 [⟨(some 17), none, (.q (.bld [(.str []), (.int .i64 0), (.str []), (.str []), (.int .u8 0), (.str []), .nilslice, .nilslice, .nilslice, .nilslice, .nilslice, .nilslice, .nilslice, .nilslice, .nilslice] []))⟩, ⟨none, none, (.store 15 (.t 4) (.t 17))⟩, ⟨(some 5), none, (.q (.mov (.c (.int .i64 5))))⟩] [4, 5])
     .ret)
    .skip))
  (.seq
   (.reg 3 [⟨(some 18), none, (.q (.mov (.t 0)))⟩, ⟨(some 19), none, (.q (.nchk (.t 18)))⟩, ⟨(some 20), none, (.q (.faddr 0 (.t 19)))⟩, ⟨(some 21), none, (.q (.load none (.t 20)))⟩, ⟨(some 22), none, (.q (.mov (.t 1)))⟩, ⟨(some 23), none, (.q (.iaddr 17 (.t 21) (.t 22)))⟩, ⟨(some 24), none, (.q (.faddr 0 (.t 23)))⟩, ⟨(some 25), none, (.q (.load (some 15) (.t 24)))⟩, ⟨(some 26), none, (.call 23 [(.t 25)])⟩, ⟨none, none, (.store 15 (.t 4) (.t 26))⟩, ⟨(some 5), none, (.q (.mov (.c (.int .i64 0))))⟩] [4, 5])
   .ret)))
theorem fok9 : FOK Tryd.prog 9 (27, ic9, [(.cell (some 15) 4), (.t 5)]) := .mk (pf := []) (an := [(0, [0, 1, 4]), (1, [0, 1, 4, 16]), (2, [4, 5]), (3, [4, 5])]) (by kernel_rfl) (fnOK_of Tryd.func9 (by kernel_rfl) (by kernel_rfl) (by kernel_rfl))
/-- chandlery/chandleryref10.Same -/
def ic10 : IC :=
(.seq
 (.reg 0 [⟨(some 2), none, (.boxt (.t 0))⟩, ⟨(some 3), none, (.boxt (.t 1))⟩, ⟨(some 4), none, (.q (.mov (.c (.bool false))))⟩] [2, 3])
 (.seq
  (.reg 1 [⟨(some 5), none, (.q (.faddr 0 (.t 2)))⟩, ⟨(some 6), none, (.q (.load none (.t 5)))⟩, ⟨(some 7), none, (.q (.faddr 0 (.t 3)))⟩, ⟨(some 8), none, (.q (.load none (.t 7)))⟩, ⟨(some 9), none, (.q (.bin .eql (.t 6) (.t 8)))⟩, ⟨(some 10), none, (.q (.mov (.t 9)))⟩, ⟨(some 11), (some ⟨10, true⟩), (.q (.faddr 1 (.t 2)))⟩, ⟨(some 12), (some ⟨10, true⟩), (.q (.load (some 3) (.t 11)))⟩, ⟨(some 13), (some ⟨10, true⟩), (.q (.faddr 1 (.t 3)))⟩, ⟨(some 14), (some ⟨10, true⟩), (.q (.load (some 3) (.t 13)))⟩, ⟨(some 15), (some ⟨10, true⟩), (.q (.eqs [1, 2, 2] true false (.t 12) (.t 14)))⟩, ⟨(some 16), none, (.q (.pick (.t 10) (.t 15) (.c (.bool false))))⟩, ⟨(some 17), none, (.q (.mov (.t 16)))⟩, ⟨(some 18), (some ⟨17, true⟩), (.q (.faddr 4 (.t 2)))⟩, ⟨(some 19), (some ⟨17, true⟩), (.q (.load none (.t 18)))⟩, ⟨(some 20), (some ⟨17, true⟩), (.q (.faddr 4 (.t 3)))⟩, ⟨(some 21), (some ⟨17, true⟩), (.q (.load none (.t 20)))⟩, ⟨(some 22), (some ⟨17, true⟩), (.q (.bin .eql (.t 19) (.t 21)))⟩, ⟨(some 23), none, (.q (.pick (.t 17) (.t 22) (.c (.bool false))))⟩, ⟨(some 24), none, (.q (.mov (.t 23)))⟩, ⟨(some 25), (some ⟨24, true⟩), (.q (.faddr 5 (.t 2)))⟩, ⟨(some 26), (some ⟨24, true⟩), (.q (.load none (.t 25)))⟩, ⟨(some 27), (some ⟨24, true⟩), (.q (.faddr 5 (.t 3)))⟩, ⟨(some 28), (some ⟨24, true⟩), (.q (.load none (.t 27)))⟩, ⟨(some 29), (some ⟨24, true⟩), (.q (.bin .eql (.t 26) (.t 28)))⟩, ⟨(some 30), none, (.q (.pick (.t 24) (.t 29) (.c (.bool false))))⟩, ⟨(some 31), none, (.q (.mov (.t 30)))⟩, ⟨(some 32), (some ⟨31, true⟩), (.q (.faddr 6 (.t 2)))⟩, ⟨(some 33), (some ⟨31, true⟩), (.q (.load none (.t 32)))⟩, ⟨(some 34), (some ⟨31, true⟩), (.q (.faddr 6 (.t 3)))⟩, ⟨(some 35), (some ⟨31, true⟩), (.q (.load none (.t 34)))⟩, ⟨(some 36), (some ⟨31, true⟩), (.call 24 [(.t 33), (.t 35)])⟩, ⟨(some 37), none, (.q (.pick (.t 31) (.t 36) (.c (.bool false))))⟩, ⟨(some 38), none, (.q (.mov (.t 37)))⟩, ⟨(some 39), (some ⟨38, true⟩), (.q (.faddr 7 (.t 2)))⟩, ⟨(some 40), (some ⟨38, true⟩), (.q (.load none (.t 39)))⟩, ⟨(some 41), (some ⟨38, true⟩), (.q (.faddr 7 (.t 3)))⟩, ⟨(some 42), (some ⟨38, true⟩), (.q (.load none (.t 41)))⟩, ⟨(some 43), (some ⟨38, true⟩), (.call 25 [(.t 40), (.t 42)])⟩, ⟨(some 44), none, (.q (.pick (.t 38) (.t 43) (.c (.bool false))))⟩, ⟨(some 45), none, (.q (.mov (.t 44)))⟩, ⟨(some 46), (some ⟨45, true⟩), (.q (.faddr 8 (.t 2)))⟩, ⟨(some 47), (some ⟨45, true⟩), (.q (.load none (.t 46)))⟩, ⟨(some 48), (some ⟨45, true⟩), (.q (.faddr 8 (.t 3)))⟩, ⟨(some 49), (some ⟨45, true⟩), (.q (.load none (.t 48)))⟩, ⟨(some 50), (some ⟨45, true⟩), (.call 25 [(.t 47), (.t 49)])⟩, ⟨(some 51), none, (.q (.pick (.t 45) (.t 50) (.c (.bool false))))⟩, ⟨(some 52), none, (.q (.mov (.t 51)))⟩, ⟨(some 53), (some ⟨52, true⟩), (.q (.faddr 9 (.t 2)))⟩, ⟨(some 54), (some ⟨52, true⟩), (.q (.load none (.t 53)))⟩, ⟨(some 55), (some ⟨52, true⟩), (.q (.faddr 9 (.t 3)))⟩, ⟨(some 56), (some ⟨52, true⟩), (.q (.load none (.t 55)))⟩, ⟨(some 57), (some ⟨52, true⟩), (.call 24 [(.t 54), (.t 56)])⟩, ⟨(some 58), none, (.q (.pick (.t 52) (.t 57) (.c (.bool false))))⟩, ⟨(some 59), none, (.q (.mov (.t 58)))⟩, ⟨(some 60), (some ⟨59, true⟩), (.q (.faddr 10 (.t 2)))⟩, ⟨(some 61), (some ⟨59, true⟩), (.q (.load none (.t 60)))⟩, ⟨(some 62), (some ⟨59, true⟩), (.q (.faddr 10 (.t 3)))⟩, ⟨(some 63), (some ⟨59, true⟩), (.q (.load none (.t 62)))⟩, ⟨(some 64), (some ⟨59, true⟩), (.call 25 [(.t 61), (.t 63)])⟩, ⟨(some 65), none, (.q (.pick (.t 59) (.t 64) (.c (.bool false))))⟩, ⟨(some 66), none, (.q (.mov (.t 65)))⟩, ⟨(some 67), (some ⟨66, true⟩), (.q (.faddr 11 (.t 2)))⟩, ⟨(some 68), (some ⟨66, true⟩), (.q (.load none (.t 67)))⟩, ⟨(some 69), (some ⟨66, true⟩), (.q (.faddr 11 (.t 3)))⟩, ⟨(some 70), (some ⟨66, true⟩), (.q (.load none (.t 69)))⟩, ⟨(some 71), (some ⟨66, true⟩), (.call 25 [(.t 68), (.t 70)])⟩, ⟨(some 72), none, (.q (.pick (.t 66) (.t 71) (.c (.bool false))))⟩, ⟨(some 73), none, (.q (.mov (.t 72)))⟩, ⟨(some 74), (some ⟨73, true⟩), (.q (.faddr 12 (.t 2)))⟩, ⟨(some 75), (some ⟨73, true⟩), (.q (.load none (.t 74)))⟩, ⟨(some 76), (some ⟨73, true⟩), (.q (.faddr 12 (.t 3)))⟩, ⟨(some 77), (some ⟨73, true⟩), (.q (.load none (.t 76)))⟩, ⟨(some 78), (some ⟨73, true⟩), (.call 25 [(.t 75), (.t 77)])⟩, ⟨(some 79), none, (.q (.pick (.t 73) (.t 78) (.c (.bool false))))⟩, ⟨(some 80), none, (.q (.mov (.t 79)))⟩, ⟨(some 81), (some ⟨80, true⟩), (.q (.faddr 13 (.t 2)))⟩, ⟨(some 82), (some ⟨80, true⟩), (.q (.load none (.t 81)))⟩, ⟨(some 83), (some ⟨80, true⟩), (.q (.faddr 13 (.t 3)))⟩, ⟨(some 84), (some ⟨80, true⟩), (.q (.load none (.t 83)))⟩, ⟨(some 85), (some ⟨80, true⟩), (.call 25 [(.t 82), (.t 84)])⟩, ⟨(some 86), none, (.q (.pick (.t 80) (.t 85) (.c (.bool false))))⟩, ⟨(some 87), none, (.q (.mov (.t 86)))⟩, ⟨(some 88), (some ⟨87, true⟩), (.q (.faddr 14 (.t 2)))⟩, ⟨(some 89), (some ⟨87, true⟩), (.q (.load none (.t 88)))⟩, ⟨(some 90), (some ⟨87, true⟩), (.q (.faddr 14 (.t 3)))⟩, ⟨(some 91), (some ⟨87, true⟩), (.q (.load none (.t 90)))⟩, ⟨(some 92), (some ⟨87, true⟩), (.call 26 [(.t 89), (.t 91)])⟩, ⟨(some 93), none, (.q (.pick (.t 87) (.t 92) (.c (.bool false))))⟩, ⟨(some 4), none, (.q (.mov (.t 93)))⟩] [4])
  .ret))
theorem fok10 : FOK Tryd.prog 10 (94, ic10, [(.t 4)]) := .mk (pf := [1000002, 1000003]) (an := [(0, [2, 3]), (1, [4])]) (by kernel_rfl) (fnOK_of Tryd.func10 (by kernel_rfl) (by kernel_rfl) (by kernel_rfl))
/-- (*chandlery/pool.Pool).Repo -/
def ic11 : IC :=
(.seq
 (.reg 0 [⟨(some 4), none, (.q (.mov (.c (.int .i64 0))))⟩] [0, 1])
 (.seq
  (.seq
   (.reg 1 [⟨(some 5), none, (.q (.mov (.t 0)))⟩, ⟨(some 6), none, (.q (.isnil (.pointer 59) false (.t 5)))⟩, ⟨(some 7), none, (.q (.mov (.t 6)))⟩, ⟨(some 8), (some ⟨7, false⟩), (.q (.mov (.t 0)))⟩, ⟨(some 9), (some ⟨7, false⟩), (.q (.nchk (.t 8)))⟩, ⟨(some 10), (some ⟨7, false⟩), (.q (.faddr 0 (.t 9)))⟩, ⟨(some 11), (some ⟨7, false⟩), (.q (.load none (.t 10)))⟩, ⟨(some 12), (some ⟨7, false⟩), (.q (.mov (.t 1)))⟩, ⟨(some 13), (some ⟨7, false⟩), (.call 22 [(.t 11), (.t 12)])⟩, ⟨(some 14), (some ⟨7, false⟩), (.q (.not (.t 13)))⟩, ⟨(some 15), none, (.q (.pick (.t 7) (.c (.bool true)) (.t 14)))⟩] [0, 1, 15])
   (.cond (.t 15)
    (.seq
     (.reg 2 [⟨(some 4), none, (.q (.mov (.c (.int .i64 (-1)))))⟩] [4])
     .ret)
    .skip))
  (.seq
   (.reg 3 [⟨(some 16), none, (.q (.mov (.t 0)))⟩, ⟨(some 17), none, (.q (.nchk (.t 16)))⟩, ⟨(some 18), none, (.q (.faddr 0 (.t 17)))⟩, ⟨(some 19), none, (.q (.load none (.t 18)))⟩, ⟨(some 20), none, (.q (.mov (.t 1)))⟩, ⟨(some 21), none, (.q (.iaddr 17 (.t 19) (.t 20)))⟩, ⟨(some 22), none, (.q (.faddr 15 (.t 21)))⟩, ⟨(some 23), none, (.q (.load none (.t 22)))⟩, ⟨(some 4), none, (.q (.mov (.t 23)))⟩] [4])
   .ret)))
theorem fok11 : FOK Tryd.prog 11 (24, ic11, [(.t 4)]) := .mk (pf := []) (an := [(0, [0, 1]), (1, [0, 1, 15]), (2, [4]), (3, [4])]) (by kernel_rfl) (fnOK_of Tryd.func11 (by kernel_rfl) (by kernel_rfl) (by kernel_rfl))
/-- (*chandlery/pool.Pool).Priority -/
def ic12 : IC :=
(.seq
 (.reg 0 [⟨(some 4), none, (.q (.mov (.c (.int .i64 0))))⟩] [0, 1])
 (.seq
  (.seq
   (.reg 1 [⟨(some 5), none, (.q (.mov (.t 0)))⟩, ⟨(some 6), none, (.q (.isnil (.pointer 59) false (.t 5)))⟩, ⟨(some 7), none, (.q (.mov (.t 6)))⟩, ⟨(some 8), (some ⟨7, false⟩), (.q (.mov (.t 0)))⟩, ⟨(some 9), (some ⟨7, false⟩), (.q (.nchk (.t 8)))⟩, ⟨(some 10), (some ⟨7, false⟩), (.q (.faddr 0 (.t 9)))⟩, ⟨(some 11), (some ⟨7, false⟩), (.q (.load none (.t 10)))⟩, ⟨(some 12), (some ⟨7, false⟩), (.q (.mov (.t 1)))⟩, ⟨(some 13), (some ⟨7, false⟩), (.call 22 [(.t 11), (.t 12)])⟩, ⟨(some 14), (some ⟨7, false⟩), (.q (.not (.t 13)))⟩, ⟨(some 15), none, (.q (.pick (.t 7) (.c (.bool true)) (.t 14)))⟩] [0, 1, 15])
   (.cond (.t 15)
    (.seq
     (.reg 2 [⟨(some 4), none, (.q (.mov (.c (.int .i64 0))))⟩] [4])
     .ret)
    .skip))
  (.seq
   (.reg 3 [⟨(some 16), none, (.q (.mov (.t 0)))⟩, ⟨(some 17), none, (.q (.nchk (.t 16)))⟩, ⟨(some 18), none, (.q (.faddr 0 (.t 17)))⟩, ⟨(some 19), none, (.q (.load none (.t 18)))⟩, ⟨(some 20), none, (.q (.mov (.t 1)))⟩, ⟨(some 21), none, (.q (.iaddr 17 (.t 19) (.t 20)))⟩, ⟨(some 22), none, (.q (.faddr 16 (.t 21)))⟩, ⟨(some 23), none, (.q (.load none (.t 22)))⟩, ⟨(some 4), none, (.q (.mov (.t 23)))⟩] [4])
   .ret)))
theorem fok12 : FOK Tryd.prog 12 (24, ic12, [(.t 4)]) := .mk (pf := []) (an := [(0, [0, 1]), (1, [0, 1, 15]), (2, [4]), (3, [4])]) (by kernel_rfl) (fnOK_of Tryd.func12 (by kernel_rfl) (by kernel_rfl) (by kernel_rfl))
/-- (*chandlery/pool.Pool).Count -/
def ic13 : IC :=
(.seq
 (.reg 0 [⟨(some 2), none, (.q (.mov (.c (.int .i64 0))))⟩] [0])
 (.seq
  (.seq
   (.reg 1 [⟨(some 3), none, (.q (.mov (.t 0)))⟩, ⟨(some 4), none, (.q (.isnil (.pointer 59) false (.t 3)))⟩] [0, 4])
   (.cond (.t 4)
    (.seq
     (.reg 2 [⟨(some 2), none, (.q (.mov (.c (.int .i64 0))))⟩] [2])
     .ret)
    .skip))
  (.seq
   (.reg 3 [⟨(some 5), none, (.q (.mov (.t 0)))⟩, ⟨(some 6), none, (.q (.nchk (.t 5)))⟩, ⟨(some 7), none, (.q (.faddr 0 (.t 6)))⟩, ⟨(some 8), none, (.q (.load none (.t 7)))⟩, ⟨(some 9), none, (.q (.len 0 (.t 8)))⟩, ⟨(some 2), none, (.q (.mov (.t 9)))⟩] [2])
   .ret)))
theorem fok13 : FOK Tryd.prog 13 (10, ic13, [(.t 2)]) := .mk (pf := []) (an := [(0, [0]), (1, [0, 4]), (2, [2]), (3, [2])]) (by kernel_rfl) (fnOK_of Tryd.func13 (by kernel_rfl) (by kernel_rfl) (by kernel_rfl))
/-- (*chandlery/pool.Pool).Installed -/
def ic14 : IC :=
(.seq
 (.reg 0 [⟨(some 2), none, (.q (.mov (.c (.int .i64 0))))⟩] [0])
 (.seq
  (.seq
   (.reg 1 [⟨(some 3), none, (.q (.mov (.t 0)))⟩, ⟨(some 4), none, (.q (.isnil (.pointer 59) false (.t 3)))⟩] [0, 4])
   (.cond (.t 4)
    (.seq
     (.reg 2 [⟨(some 2), none, (.q (.mov (.c (.int .i64 0))))⟩] [2])
     .ret)
    .skip))
  (.seq
   (.reg 3 [⟨(some 5), none, (.q (.mov (.t 0)))⟩, ⟨(some 6), none, (.q (.nchk (.t 5)))⟩, ⟨(some 7), none, (.q (.faddr 1 (.t 6)))⟩, ⟨(some 8), none, (.q (.load none (.t 7)))⟩, ⟨(some 2), none, (.q (.mov (.t 8)))⟩] [2])
   .ret)))
theorem fok14 : FOK Tryd.prog 14 (9, ic14, [(.t 2)]) := .mk (pf := []) (an := [(0, [0]), (1, [0, 4]), (2, [2]), (3, [2])]) (by kernel_rfl) (fnOK_of Tryd.func14 (by kernel_rfl) (by kernel_rfl) (by kernel_rfl))
/-- chandlery/chandleryref10.Copy -/
def ic15 : IC :=
(.seq
 (.reg 0 [⟨(some 1), none, (.boxt (.t 0))⟩, ⟨(some 2), none, (.alloc [(.str []), (.int .i64 0), (.str []), (.str []), (.int .u8 0), (.str []), .nilslice, .nilslice, .nilslice, .nilslice, .nilslice, .nilslice, .nilslice, .nilslice, .nilslice])⟩] [1, 2])
 (.seq
  (.dreg 1 [⟨(some 3), none, (.q (.faddr 0 (.t 1)))⟩, ⟨(some 4), none, (.q (.load none (.t 3)))⟩, ⟨(some 5), none, (.q (.faddr 1 (.t 1)))⟩, ⟨(some 6), none, (.q (.load (some 3) (.t 5)))⟩, ⟨(some 7), none, (.q (.faddr 4 (.t 1)))⟩, ⟨(some 8), none, (.q (.load none (.t 7)))⟩, ⟨(some 9), none, (.q (.faddr 5 (.t 1)))⟩, ⟨(some 10), none, (.q (.load none (.t 9)))⟩, ⟨(some 11), none, (.bsl 5 0 [(.str []), (.int .u8 0), (.int .i64 0), (.str []), (.str [])] [])⟩, ⟨(some 12), none, (.q (.faddr 6 (.t 1)))⟩, ⟨(some 13), none, (.q (.load none (.t 12)))⟩, ⟨(some 14), none, (.app 5 (.t 11) (.t 13))⟩, ⟨(some 15), none, (.q (.faddr 7 (.t 1)))⟩, ⟨(some 16), none, (.q (.load none (.t 15)))⟩, ⟨(some 17), none, (.pcall 27 [(.t 16)])⟩, ⟨(some 18), none, (.q (.faddr 8 (.t 1)))⟩, ⟨(some 19), none, (.q (.load none (.t 18)))⟩, ⟨(some 20), none, (.pcall 27 [(.t 19)])⟩, ⟨(some 21), none, (.bsl 5 0 [(.str []), (.int .u8 0), (.int .i64 0), (.str []), (.str [])] [])⟩, ⟨(some 22), none, (.q (.faddr 9 (.t 1)))⟩, ⟨(some 23), none, (.q (.load none (.t 22)))⟩, ⟨(some 24), none, (.app 5 (.t 21) (.t 23))⟩, ⟨(some 25), none, (.q (.faddr 10 (.t 1)))⟩, ⟨(some 26), none, (.q (.load none (.t 25)))⟩, ⟨(some 27), none, (.pcall 27 [(.t 26)])⟩, ⟨(some 28), none, (.q (.faddr 11 (.t 1)))⟩, ⟨(some 29), none, (.q (.load none (.t 28)))⟩, ⟨(some 30), none, (.pcall 27 [(.t 29)])⟩, ⟨(some 31), none, (.q (.faddr 12 (.t 1)))⟩, ⟨(some 32), none, (.q (.load none (.t 31)))⟩, ⟨(some 33), none, (.pcall 27 [(.t 32)])⟩, ⟨(some 34), none, (.q (.faddr 13 (.t 1)))⟩, ⟨(some 35), none, (.q (.load none (.t 34)))⟩, ⟨(some 36), none, (.pcall 27 [(.t 35)])⟩, ⟨(some 37), none, (.bsl 1 0 [(.str [])] [])⟩, ⟨(some 38), none, (.q (.faddr 14 (.t 1)))⟩, ⟨(some 39), none, (.q (.load none (.t 38)))⟩, ⟨(some 40), none, (.app 1 (.t 37) (.t 39))⟩, ⟨(some 41), none, (.q (.bld [(.str []), (.int .i64 0), (.str []), (.str []), (.int .u8 0), (.str []), .nilslice, .nilslice, .nilslice, .nilslice, .nilslice, .nilslice, .nilslice, .nilslice, .nilslice] [⟨0, ⟨1, (.t 4)⟩⟩, ⟨1, ⟨3, (.t 6)⟩⟩, ⟨4, ⟨1, (.t 8)⟩⟩, ⟨5, ⟨1, (.t 10)⟩⟩, ⟨6, ⟨1, (.t 14)⟩⟩, ⟨7, ⟨1, (.t 17)⟩⟩, ⟨8, ⟨1, (.t 20)⟩⟩, ⟨9, ⟨1, (.t 24)⟩⟩, ⟨10, ⟨1, (.t 27)⟩⟩, ⟨11, ⟨1, (.t 30)⟩⟩, ⟨12, ⟨1, (.t 33)⟩⟩, ⟨13, ⟨1, (.t 36)⟩⟩, ⟨14, ⟨1, (.t 40)⟩⟩]))⟩, ⟨none, none, (.store 15 (.t 2) (.t 41))⟩] true [2])
  .ret))
theorem fok15 : FOK Tryd.prog 15 (42, ic15, [(.cell (some 15) 2)]) := .mk (pf := ([1000001] ++ allF0)) (an := [(0, [1, 2]), (1, [2])]) (by kernel_rfl) (fnOK_of Tryd.func15 (by kernel_rfl) (by kernel_rfl) (by kernel_rfl))
/-- (*chandlery/pool.Pool).Named -/
def ic16 : IC :=
(.seq
 (.reg 0 [⟨(some 4), none, (.q (.mov (.c .nilslice)))⟩] [0, 1])
 (.seq
  (.seq
   (.reg 1 [⟨(some 5), none, (.q (.mov (.t 0)))⟩, ⟨(some 6), none, (.q (.isnil (.pointer 59) false (.t 5)))⟩] [0, 1, 6])
   (.cond (.t 6)
    (.seq
     (.reg 2 [⟨(some 4), none, (.q (.mov (.c .nilslice)))⟩] [4])
     .ret)
    .skip))
  (.seq
   (.reg 3 [⟨(some 7), none, (.q (.mov (.t 0)))⟩, ⟨(some 8), none, (.q (.nchk (.t 7)))⟩, ⟨(some 9), none, (.q (.faddr 2 (.t 8)))⟩, ⟨(some 10), none, (.q (.load none (.t 9)))⟩, ⟨(some 11), none, (.q (.mov (.t 1)))⟩, ⟨(some 12), none, (.q (.lkp 2 .nilslice false (.t 10) (.t 11)))⟩, ⟨(some 13), none, (.call 28 [(.t 12)])⟩, ⟨(some 4), none, (.q (.mov (.t 13)))⟩] [4])
   .ret)))
theorem fok16 : FOK Tryd.prog 16 (14, ic16, [(.t 4)]) := .mk (pf := []) (an := [(0, [0, 1]), (1, [0, 1, 6]), (2, [4]), (3, [4])]) (by kernel_rfl) (fnOK_of Tryd.func16 (by kernel_rfl) (by kernel_rfl) (by kernel_rfl))
/-- (*chandlery/pool.Pool).Names -/
def ic17 : IC :=
(.seq
 (.reg 0 [⟨(some 2), none, (.q (.mov (.c .nilslice)))⟩] [0])
 (.seq
  (.seq
   (.reg 1 [⟨(some 3), none, (.q (.mov (.t 0)))⟩, ⟨(some 4), none, (.q (.isnil (.pointer 59) false (.t 3)))⟩] [0, 4])
   (.cond (.t 4)
    (.seq
     (.reg 2 [⟨(some 2), none, (.q (.mov (.c .nilslice)))⟩] [2])
     .ret)
    .skip))
  (.seq
   (.reg 3 [⟨(some 5), none, (.q (.mov (.t 0)))⟩, ⟨(some 6), none, (.q (.nchk (.t 5)))⟩, ⟨(some 7), none, (.q (.faddr 2 (.t 6)))⟩, ⟨(some 8), none, (.q (.load none (.t 7)))⟩, ⟨(some 9), none, (.call 30 [(.t 8)])⟩, ⟨(some 10), none, (.call 29 [(.t 9)])⟩, ⟨(some 2), none, (.q (.mov (.t 10)))⟩] [2])
   .ret)))
theorem fok17 : FOK Tryd.prog 17 (11, ic17, [(.t 2)]) := .mk (pf := []) (an := [(0, [0]), (1, [0, 4]), (2, [2]), (3, [2])]) (by kernel_rfl) (fnOK_of Tryd.func17 (by kernel_rfl) (by kernel_rfl) (by kernel_rfl))
/-- chandlery/chandlerylaw12.large -/
def ic18 : IC :=
(.seq
 (.reg 0 [⟨(some 1), none, (.boxt (.t 0))⟩, ⟨(some 2), none, (.q (.mov (.c (.bool false))))⟩] [1])
 (.seq
  (.seq
   (.reg 1 [⟨(some 8), none, (.q (.faddr 6 (.t 1)))⟩, ⟨(some 9), none, (.q (.load none (.t 8)))⟩, ⟨(some 10), none, (.q (.len 0 (.t 9)))⟩, ⟨(some 11), none, (.q (.bin .gtr (.t 10) (.c (.int .i64 100))))⟩, ⟨(some 12), none, (.q (.mov (.t 11)))⟩, ⟨(some 13), (some ⟨12, false⟩), (.q (.faddr 9 (.t 1)))⟩, ⟨(some 14), (some ⟨12, false⟩), (.q (.load none (.t 13)))⟩, ⟨(some 15), (some ⟨12, false⟩), (.q (.len 0 (.t 14)))⟩, ⟨(some 16), (some ⟨12, false⟩), (.q (.bin .gtr (.t 15) (.c (.int .i64 100))))⟩, ⟨(some 17), none, (.q (.pick (.t 12) (.c (.bool true)) (.t 16)))⟩, ⟨(some 18), none, (.q (.mov (.t 17)))⟩, ⟨(some 19), (some ⟨18, false⟩), (.q (.faddr 14 (.t 1)))⟩, ⟨(some 20), (some ⟨18, false⟩), (.q (.load none (.t 19)))⟩, ⟨(some 21), (some ⟨18, false⟩), (.q (.len 0 (.t 20)))⟩, ⟨(some 22), (some ⟨18, false⟩), (.q (.bin .gtr (.t 21) (.c (.int .i64 100))))⟩, ⟨(some 23), none, (.q (.pick (.t 18) (.c (.bool true)) (.t 22)))⟩, ⟨(some 24), none, (.q (.mov (.t 23)))⟩, ⟨(some 25), (some ⟨24, false⟩), (.q (.faddr 0 (.t 1)))⟩, ⟨(some 26), (some ⟨24, false⟩), (.q (.load none (.t 25)))⟩, ⟨(some 27), (some ⟨24, false⟩), (.q (.len 1 (.t 26)))⟩, ⟨(some 28), (some ⟨24, false⟩), (.q (.bin .gtr (.t 27) (.c (.int .i64 1000))))⟩, ⟨(some 29), none, (.q (.pick (.t 24) (.c (.bool true)) (.t 28)))⟩, ⟨(some 30), none, (.q (.mov (.t 29)))⟩, ⟨(some 31), (some ⟨30, false⟩), (.q (.faddr 5 (.t 1)))⟩, ⟨(some 32), (some ⟨30, false⟩), (.q (.load none (.t 31)))⟩, ⟨(some 33), (some ⟨30, false⟩), (.q (.len 1 (.t 32)))⟩, ⟨(some 34), (some ⟨30, false⟩), (.q (.bin .gtr (.t 33) (.c (.int .i64 1000))))⟩, ⟨(some 35), none, (.q (.pick (.t 30) (.c (.bool true)) (.t 34)))⟩, ⟨(some 36), none, (.q (.mov (.t 35)))⟩, ⟨(some 37), (some ⟨36, false⟩), (.q (.faddr 1 (.t 1)))⟩, ⟨(some 38), (some ⟨36, false⟩), (.q (.faddr 1 (.t 37)))⟩, ⟨(some 39), (some ⟨36, false⟩), (.q (.load none (.t 38)))⟩, ⟨(some 40), (some ⟨36, false⟩), (.q (.len 1 (.t 39)))⟩, ⟨(some 41), (some ⟨36, false⟩), (.q (.bin .gtr (.t 40) (.c (.int .i64 1000))))⟩, ⟨(some 42), none, (.q (.pick (.t 36) (.c (.bool true)) (.t 41)))⟩, ⟨(some 43), none, (.q (.mov (.t 42)))⟩, ⟨(some 44), (some ⟨43, false⟩), (.q (.faddr 1 (.t 1)))⟩, ⟨(some 45), (some ⟨43, false⟩), (.q (.faddr 2 (.t 44)))⟩, ⟨(some 46), (some ⟨43, false⟩), (.q (.load none (.t 45)))⟩, ⟨(some 47), (some ⟨43, false⟩), (.q (.len 1 (.t 46)))⟩, ⟨(some 48), (some ⟨43, false⟩), (.q (.bin .gtr (.t 47) (.c (.int .i64 1000))))⟩, ⟨(some 49), none, (.q (.pick (.t 43) (.c (.bool true)) (.t 48)))⟩] [1, 49])
   (.cond (.t 49)
    (.seq
     (.reg 2 [⟨(some 2), none, (.q (.mov (.c (.bool true))))⟩] [2])
     .ret)
    .skip))
  (.seq
   (.reg 3 [⟨(some 3), none, (.q (.mov (.c (.int .i64 0))))⟩] [1, 3])
   (.seq
    (.seq
     (.reg 4 [⟨(some 50), none, (.q (.faddr 7 (.t 1)))⟩, ⟨(some 51), none, (.q (.load none (.t 50)))⟩, ⟨(some 52), none, (.q (.faddr 8 (.t 1)))⟩, ⟨(some 53), none, (.q (.load none (.t 52)))⟩, ⟨(some 54), none, (.q (.faddr 10 (.t 1)))⟩, ⟨(some 55), none, (.q (.load none (.t 54)))⟩, ⟨(some 56), none, (.q (.faddr 11 (.t 1)))⟩, ⟨(some 57), none, (.q (.load none (.t 56)))⟩, ⟨(some 58), none, (.q (.faddr 12 (.t 1)))⟩, ⟨(some 59), none, (.q (.load none (.t 58)))⟩, ⟨(some 60), none, (.q (.faddr 13 (.t 1)))⟩, ⟨(some 61), none, (.q (.load none (.t 60)))⟩, ⟨(some 62), none, (.bslt 1 6 [.nilslice] [⟨0, ⟨1, (.t 51)⟩⟩, ⟨1, ⟨1, (.t 53)⟩⟩, ⟨2, ⟨1, (.t 55)⟩⟩, ⟨3, ⟨1, (.t 57)⟩⟩, ⟨4, ⟨1, (.t 59)⟩⟩, ⟨5, ⟨1, (.t 61)⟩⟩])⟩, ⟨(some 63), none, (.q (.len 0 (.t 62)))⟩, ⟨(some 64), none, (.q (.mov (.c (.int .i64 0))))⟩] [3, 62, 63, 64])
     (.block 0
      (.loop
       (.seq
        (.reg 5 [⟨(some 65), none, (.q (.bin .lss (.t 64) (.t 63)))⟩] [3, 62, 63, 64, 65])
        (.seq
         (.cond (.t 65)
          .skip
          (.exit 0))
         (.seq
          (.block 1
           (.seq
            (.reg 6 [⟨(some 66), none, (.q (.iaddr 1 (.t 62) (.t 64)))⟩, ⟨(some 67), none, (.q (.load none (.t 66)))⟩, ⟨(some 5), none, (.q (.mov (.t 67)))⟩] [3, 5, 62, 63, 64])
            (.seq
            (.reg 7 [⟨(some 69), none, (.q (.mov (.t 5)))⟩, ⟨(some 70), none, (.call 31 [(.t 69), (.c (.int .i64 0))])⟩, ⟨(some 68), none, (.q (.mov (.t 70)))⟩, ⟨(some 71), none, (.q (.ext 0 (.t 68)))⟩, ⟨(some 72), none, (.q (.ext 1 (.t 68)))⟩, ⟨(some 6), none, (.q (.mov (.t 71)))⟩, ⟨(some 7), none, (.q (.mov (.t 72)))⟩] [3, 6, 7, 62, 63, 64])
            (.seq
            (.reg 8 [⟨(some 73), none, (.q (.mov (.t 3)))⟩, ⟨(some 74), none, (.q (.mov (.t 6)))⟩, ⟨(some 75), none, (.q (.bin .add (.t 73) (.t 74)))⟩, ⟨(some 3), none, (.q (.mov (.t 75)))⟩] [3, 7, 62, 63, 64])
            (.seq
            (.reg 9 [⟨(some 76), none, (.q (.mov (.t 7)))⟩, ⟨(some 77), none, (.q (.mov (.t 76)))⟩, ⟨(some 78), (some ⟨77, false⟩), (.q (.mov (.t 3)))⟩, ⟨(some 79), (some ⟨77, false⟩), (.q (.bin .gtr (.t 78) (.c (.int .i64 2000))))⟩, ⟨(some 80), none, (.q (.pick (.t 77) (.c (.bool true)) (.t 79)))⟩] [3, 62, 63, 64, 80])
            (.cond (.t 80)
            (.seq
            (.reg 10 [⟨(some 2), none, (.q (.mov (.c (.bool true))))⟩] [2])
            .ret)
            .skip))))))
          (.reg 11 [⟨(some 81), none, (.q (.bin .add (.t 64) (.c (.int .i64 1))))⟩, ⟨(some 64), none, (.q (.mov (.t 81)))⟩] [3, 62, 63, 64])))))))
    (.seq
     (.reg 12 [⟨(some 2), none, (.q (.mov (.c (.bool false))))⟩] [2])
     .ret)))))
theorem fok18 : FOK Tryd.prog 18 (82, ic18, [(.t 2)]) := .mk (pf := [1000001, 1000062]) (an := [(0, [1]), (1, [1, 49]), (2, [2]), (3, [1, 3]), (4, [3, 62, 63, 64]), (5, [3, 62, 63, 64, 65]), (6, [3, 5, 62, 63, 64]), (7, [3, 6, 7, 62, 63, 64]), (8, [3, 7, 62, 63, 64]), (9, [3, 62, 63, 64, 80]), (10, [2]), (11, [3, 62, 63, 64]), (12, [2])]) (by kernel_rfl) (fnOK_of Tryd.func18 (by kernel_rfl) (by kernel_rfl) (by kernel_rfl))
/-- chandlery/chandlerylaw12.named -/
def ic19 : IC :=
(.seq
 (.reg 0 [⟨(some 2), none, (.alloc [(.str []), (.int .i64 0), (.str []), (.str []), (.int .u8 0), (.str []), .nilslice, .nilslice, .nilslice, .nilslice, .nilslice, .nilslice, .nilslice, .nilslice, .nilslice])⟩] [0, 2])
 (.seq
  (.reg 1 [⟨(some 3), none, (.q (.mov (.t 0)))⟩, ⟨(some 4), none, (.q (.bld [(.int .i64 0), (.str []), (.str [])] [⟨1, ⟨1, (.c (.str [49]))⟩⟩, ⟨2, ⟨1, (.c (.str [49]))⟩⟩]))⟩, ⟨(some 5), none, (.q (.bld [(.str []), (.int .i64 0), (.str []), (.str []), (.int .u8 0), (.str []), .nilslice, .nilslice, .nilslice, .nilslice, .nilslice, .nilslice, .nilslice, .nilslice, .nilslice] [⟨0, ⟨1, (.t 3)⟩⟩, ⟨1, ⟨3, (.t 4)⟩⟩, ⟨4, ⟨1, (.c (.int .u8 1))⟩⟩]))⟩, ⟨none, none, (.store 15 (.t 2) (.t 5))⟩] [2])
  .ret))
theorem fok19 : FOK Tryd.prog 19 (6, ic19, [(.cell (some 15) 2)]) := .mk (pf := []) (an := [(0, [0, 2]), (1, [2])]) (by kernel_rfl) (fnOK_of Tryd.func19 (by kernel_rfl) (by kernel_rfl) (by kernel_rfl))
/-- chandlery/chandleryref12.Numbers -/
def ic20 : IC :=
(.seq
 (.reg 0 [⟨(some 4), none, (.q (.mov (.c (.bool false))))⟩] [0, 1])
 (.seq
  (.seq
   (.reg 1 [⟨(some 6), none, (.q (.mov (.t 0)))⟩, ⟨(some 7), none, (.q (.len 0 (.t 6)))⟩, ⟨(some 8), none, (.q (.mov (.t 1)))⟩, ⟨(some 9), none, (.q (.len 0 (.t 8)))⟩, ⟨(some 10), none, (.q (.bin .neq (.t 7) (.t 9)))⟩] [0, 1, 10])
   (.cond (.t 10)
    (.seq
     (.reg 2 [⟨(some 4), none, (.q (.mov (.c (.bool false))))⟩] [4])
     .ret)
    .skip))
  (.seq
   (.seq
    (.reg 3 [⟨(some 5), none, (.q (.mov (.c (.int .i64 0))))⟩] [0, 1, 5])
    (.block 0
     (.loop
      (.seq
       (.seq
        (.reg 4 [⟨(some 11), none, (.q (.mov (.t 5)))⟩, ⟨(some 12), none, (.q (.mov (.t 0)))⟩, ⟨(some 13), none, (.q (.len 0 (.t 12)))⟩, ⟨(some 14), none, (.q (.bin .lss (.t 11) (.t 13)))⟩] [0, 1, 5, 14])
        (.cond (.t 14)
         .skip
         (.exit 0)))
       (.seq
        (.block 1
         (.seq
          (.dreg 6 [⟨(some 17), none, (.q (.mov (.t 0)))⟩, ⟨(some 18), none, (.q (.mov (.t 5)))⟩, ⟨(some 19), none, (.q (.iaddr 1 (.t 17) (.t 18)))⟩, ⟨(some 20), none, (.q (.load none (.t 19)))⟩, ⟨(some 21), none, (.q (.mov (.t 1)))⟩, ⟨(some 22), none, (.q (.mov (.t 5)))⟩, ⟨(some 23), none, (.q (.iaddr 1 (.t 21) (.t 22)))⟩, ⟨(some 24), none, (.q (.load none (.t 23)))⟩, ⟨(some 25), none, (.q (.bin .neq (.t 20) (.t 24)))⟩] false [0, 1, 5, 25])
          (.cond (.t 25)
           (.seq
            (.reg 7 [⟨(some 4), none, (.q (.mov (.c (.bool false))))⟩] [4])
            .ret)
           .skip)))
        (.reg 5 [⟨(some 15), none, (.q (.mov (.t 5)))⟩, ⟨(some 16), none, (.q (.bin .add (.t 15) (.c (.int .i64 1))))⟩, ⟨(some 5), none, (.q (.mov (.t 16)))⟩] [0, 1, 5]))))))
   (.seq
    (.reg 8 [⟨(some 4), none, (.q (.mov (.c (.bool true))))⟩] [4])
    .ret))))
theorem fok20 : FOK Tryd.prog 20 (26, ic20, [(.t 4)]) := .mk (pf := []) (an := [(0, [0, 1]), (1, [0, 1, 10]), (2, [4]), (3, [0, 1, 5]), (4, [0, 1, 5, 14]), (5, [0, 1, 5]), (6, [0, 1, 5, 25]), (7, [4]), (8, [4])]) (by kernel_rfl) (fnOK_of Tryd.func20 (by kernel_rfl) (by kernel_rfl) (by kernel_rfl))
/-- (*chandlery/pool.Pool).add -/
def ic21 : IC :=
(.seq
 (.reg 0 [⟨(some 8), none, (.q (.mov (.c (.int .i64 0))))⟩] [0, 1, 2, 3])
 (.seq
  (.seq
   (.reg 1 [⟨(some 11), none, (.q (.mov (.t 1)))⟩, ⟨(some 12), none, (.q (.len 0 (.t 11)))⟩, ⟨(some 13), none, (.q (.mov (.c (.int .i64 0))))⟩] [0, 2, 3, 11, 12, 13])
   (.block 0
    (.loop
     (.seq
      (.reg 2 [⟨(some 14), none, (.q (.bin .lss (.t 13) (.t 12)))⟩] [0, 2, 3, 11, 12, 13, 14])
      (.seq
       (.cond (.t 14)
        .skip
        (.exit 0))
       (.seq
        (.block 1
         (.seq
          (.reg 3 [⟨(some 15), none, (.q (.iaddr 15 (.t 11) (.t 13)))⟩, ⟨(some 16), none, (.q (.load (some 15) (.t 15)))⟩, ⟨(some 10), none, (.alloc [(.str []), (.int .i64 0), (.str []), (.str []), (.int .u8 0), (.str []), .nilslice, .nilslice, .nilslice, .nilslice, .nilslice, .nilslice, .nilslice, .nilslice, .nilslice])⟩, ⟨none, none, (.store 15 (.t 10) (.t 16))⟩] [0, 2, 3, 10, 11, 12, 13])
          (.seq
           (.seq
            (.reg 4 [⟨(some 17), none, (.q (.load (some 15) (.t 10)))⟩, ⟨(some 18), none, (.pcall 32 [(.t 17)])⟩, ⟨(some 19), none, (.q (.not (.t 18)))⟩] [0, 2, 3, 10, 11, 12, 13, 19])
            (.cond (.t 19)
            (.seq
            (.reg 5 [⟨(some 8), none, (.q (.mov (.c (.int .i64 4))))⟩] [8])
            .ret)
            .skip))
           (.seq
            (.dreg 6 [⟨(some 20), none, (.q (.mov (.t 0)))⟩, ⟨(some 21), none, (.q (.nchk (.t 20)))⟩, ⟨(some 22), none, (.q (.faddr 2 (.t 21)))⟩, ⟨(some 23), none, (.q (.load none (.t 22)))⟩, ⟨(some 24), none, (.q (.faddr 0 (.t 10)))⟩, ⟨(some 25), none, (.q (.load none (.t 24)))⟩, ⟨(some 26), none, (.q (.mov (.t 0)))⟩, ⟨(some 27), none, (.q (.nchk (.t 26)))⟩, ⟨(some 28), none, (.q (.faddr 2 (.t 27)))⟩, ⟨(some 29), none, (.q (.load none (.t 28)))⟩, ⟨(some 30), none, (.q (.faddr 0 (.t 10)))⟩, ⟨(some 31), none, (.q (.load none (.t 30)))⟩, ⟨(some 32), none, (.q (.lkp 2 .nilslice false (.t 29) (.t 31)))⟩, ⟨(some 33), none, (.q (.mov (.t 0)))⟩, ⟨(some 34), none, (.q (.nchk (.t 33)))⟩, ⟨(some 35), none, (.q (.faddr 0 (.t 34)))⟩, ⟨(some 36), none, (.q (.load none (.t 35)))⟩, ⟨(some 37), none, (.q (.len 0 (.t 36)))⟩, ⟨(some 38), none, (.bslt 1 1 [(.int .i64 0)] [⟨0, ⟨1, (.t 37)⟩⟩])⟩, ⟨(some 39), none, (.app 1 (.t 32) (.t 38))⟩, ⟨none, none, (.mupd 2 (.t 23) (.t 25) (.t 39))⟩] true [0, 2, 3, 10, 11, 12, 13])
            (.dreg 7 [⟨(some 40), none, (.q (.mov (.t 0)))⟩, ⟨(some 41), none, (.q (.mov (.t 0)))⟩, ⟨(some 42), none, (.q (.nchk (.t 41)))⟩, ⟨(some 43), none, (.q (.faddr 0 (.t 42)))⟩, ⟨(some 44), none, (.q (.load none (.t 43)))⟩, ⟨(some 45), none, (.q (.load (some 15) (.t 10)))⟩, ⟨(some 46), none, (.pcall 23 [(.t 45)])⟩, ⟨(some 47), none, (.q (.mov (.t 2)))⟩, ⟨(some 48), none, (.q (.mov (.t 3)))⟩, ⟨(some 49), none, (.q (.bld [(.str []), (.int .i64 0), (.str []), (.str []), (.int .u8 0), (.str []), .nilslice, .nilslice, .nilslice, .nilslice, .nilslice, .nilslice, .nilslice, .nilslice, .nilslice, (.int .i64 0), (.int .i64 0)] [⟨0, ⟨15, (.t 46)⟩⟩, ⟨15, ⟨1, (.t 47)⟩⟩, ⟨16, ⟨1, (.t 48)⟩⟩]))⟩, ⟨(some 50), none, (.bslt 17 1 [(.str []), (.int .i64 0), (.str []), (.str []), (.int .u8 0), (.str []), .nilslice, .nilslice, .nilslice, .nilslice, .nilslice, .nilslice, .nilslice, .nilslice, .nilslice, (.int .i64 0), (.int .i64 0)] [⟨0, ⟨17, (.t 49)⟩⟩])⟩, ⟨(some 51), none, (.app 17 (.t 44) (.t 50))⟩, ⟨(some 52), none, (.q (.nchk (.t 40)))⟩, ⟨(some 53), none, (.q (.faddr 0 (.t 52)))⟩, ⟨none, none, (.store 1 (.t 53) (.t 51))⟩] true [0, 2, 3, 11, 12, 13])))))
        (.reg 8 [⟨(some 54), none, (.q (.bin .add (.t 13) (.c (.int .i64 1))))⟩, ⟨(some 13), none, (.q (.mov (.t 54)))⟩] [0, 2, 3, 11, 12, 13])))))))
  (.seq
   (.reg 9 [⟨(some 8), none, (.q (.mov (.c (.int .i64 0))))⟩] [8])
   .ret)))
theorem fok21 : FOK Tryd.prog 21 (55, ic21, [(.t 8)]) := .mk (pf := ([1000038, 1000050] ++ allF0)) (an := [(0, [0, 1, 2, 3]), (1, [0, 2, 3, 11, 12, 13]), (2, [0, 2, 3, 11, 12, 13, 14]), (3, [0, 2, 3, 10, 11, 12, 13]), (4, [0, 2, 3, 10, 11, 12, 13, 19]), (5, [8]), (6, [0, 2, 3, 10, 11, 12, 13]), (7, [0, 2, 3, 11, 12, 13]), (8, [0, 2, 3, 11, 12, 13]), (9, [8])]) (by kernel_rfl) (fnOK_of Tryd.func21 (by kernel_rfl) (by kernel_rfl) (by kernel_rfl))
/-- (chandlery/pool.rows).is -/
def ic22 : IC :=
(.seq
 (.reg 0 [⟨(some 4), none, (.q (.mov (.c (.bool false))))⟩] [0, 1])
 (.seq
  (.reg 1 [⟨(some 5), none, (.q (.mov (.t 1)))⟩, ⟨(some 6), none, (.q (.bin .geq (.t 5) (.c (.int .i64 0))))⟩, ⟨(some 7), none, (.q (.mov (.t 6)))⟩, ⟨(some 8), (some ⟨7, true⟩), (.q (.mov (.t 1)))⟩, ⟨(some 9), (some ⟨7, true⟩), (.q (.mov (.t 0)))⟩, ⟨(some 10), (some ⟨7, true⟩), (.q (.len 0 (.t 9)))⟩, ⟨(some 11), (some ⟨7, true⟩), (.q (.bin .lss (.t 8) (.t 10)))⟩, ⟨(some 12), none, (.q (.pick (.t 7) (.t 11) (.c (.bool false))))⟩, ⟨(some 4), none, (.q (.mov (.t 12)))⟩] [4])
  .ret))
theorem fok22 : FOK Tryd.prog 22 (13, ic22, [(.t 4)]) := .mk (pf := []) (an := [(0, [0, 1]), (1, [4])]) (by kernel_rfl) (fnOK_of Tryd.func22 (by kernel_rfl) (by kernel_rfl) (by kernel_rfl))
/-- chandlery/pkg.Copy -/
def ic23 : IC :=
(.seq
 (.reg 0 [⟨(some 1), none, (.box (.t 0))⟩, ⟨(some 2), none, (.alloc [(.str []), (.int .i64 0), (.str []), (.str []), (.int .u8 0), (.str []), .nilslice, .nilslice, .nilslice, .nilslice, .nilslice, .nilslice, .nilslice, .nilslice, .nilslice])⟩] [1, 2])
 (.seq
  (.dreg 1 [⟨(some 7), none, (.q (.faddr 6 (.t 1)))⟩, ⟨(some 8), none, (.q (.load none (.t 7)))⟩, ⟨(some 9), none, (.pcall 33 [(.t 8)])⟩, ⟨(some 10), none, (.q (.faddr 9 (.t 1)))⟩, ⟨(some 11), none, (.q (.load none (.t 10)))⟩, ⟨(some 12), none, (.pcall 33 [(.t 11)])⟩, ⟨(some 13), none, (.q (.faddr 14 (.t 1)))⟩, ⟨(some 14), none, (.q (.load none (.t 13)))⟩, ⟨(some 15), none, (.pcall 34 [(.t 14)])⟩, ⟨(some 16), none, (.q (.faddr 6 (.t 1)))⟩, ⟨none, none, (.store 1 (.t 16) (.t 9))⟩, ⟨(some 17), none, (.q (.faddr 9 (.t 1)))⟩, ⟨none, none, (.store 1 (.t 17) (.t 12))⟩, ⟨(some 18), none, (.q (.faddr 14 (.t 1)))⟩, ⟨none, none, (.store 1 (.t 18) (.t 15))⟩] false [1, 2])
  (.seq
   (.seq
    (.reg 2 [⟨(some 19), none, (.q (.faddr 7 (.t 1)))⟩, ⟨(some 20), none, (.q (.faddr 8 (.t 1)))⟩, ⟨(some 21), none, (.q (.faddr 10 (.t 1)))⟩, ⟨(some 22), none, (.q (.faddr 11 (.t 1)))⟩, ⟨(some 23), none, (.q (.faddr 12 (.t 1)))⟩, ⟨(some 24), none, (.q (.faddr 13 (.t 1)))⟩, ⟨(some 25), none, (.bslt 1 6 [.nilptr] [⟨0, ⟨1, (.t 19)⟩⟩, ⟨1, ⟨1, (.t 20)⟩⟩, ⟨2, ⟨1, (.t 21)⟩⟩, ⟨3, ⟨1, (.t 22)⟩⟩, ⟨4, ⟨1, (.t 23)⟩⟩, ⟨5, ⟨1, (.t 24)⟩⟩])⟩, ⟨(some 26), none, (.q (.len 0 (.t 25)))⟩, ⟨(some 27), none, (.q (.mov (.c (.int .i64 0))))⟩] [1, 2, 25, 26, 27])
    (.block 0
     (.loop
      (.seq
       (.reg 3 [⟨(some 28), none, (.q (.bin .lss (.t 27) (.t 26)))⟩] [1, 2, 25, 26, 27, 28])
       (.seq
        (.cond (.t 28)
         .skip
         (.exit 0))
        (.seq
         (.block 1
          (.seq
           (.reg 4 [⟨(some 29), none, (.q (.iaddr 1 (.t 25) (.t 27)))⟩, ⟨(some 30), none, (.q (.load none (.t 29)))⟩, ⟨(some 4), none, (.q (.mov (.t 30)))⟩] [1, 2, 4, 25, 26, 27])
           (.seq
            (.reg 5 [⟨(some 31), none, (.q (.mov (.t 4)))⟩, ⟨(some 32), none, (.q (.mov (.t 4)))⟩, ⟨(some 33), none, (.q (.nchk (.t 32)))⟩, ⟨(some 34), none, (.q (.load none (.t 33)))⟩, ⟨(some 35), none, (.call 35 [(.t 34)])⟩, ⟨(some 36), none, (.q (.nchk (.t 31)))⟩, ⟨none, none, (.store 1 (.t 36) (.t 35))⟩] [1, 2, 4, 25, 26, 27])
            (.seq
            (.reg 6 [⟨(some 37), none, (.q (.mov (.t 4)))⟩, ⟨(some 38), none, (.q (.nchk (.t 37)))⟩, ⟨(some 39), none, (.q (.load none (.t 38)))⟩, ⟨(some 40), none, (.q (.len 0 (.t 39)))⟩, ⟨(some 41), none, (.q (.mov (.c (.int .i64 0))))⟩] [1, 2, 4, 25, 26, 27, 39, 40, 41])
            (.block 2
            (.loop
            (.seq
            (.reg 7 [⟨(some 42), none, (.q (.bin .lss (.t 41) (.t 40)))⟩] [1, 2, 4, 25, 26, 27, 39, 40, 41, 42])
            (.seq
            (.cond (.t 42)
            .skip
            (.exit 2))
            (.seq
            (.block 3
            (.seq
            (.reg 8 [⟨(some 43), none, (.q (.mov (.t 41)))⟩, ⟨(some 44), none, (.q (.iaddr 7 (.t 39) (.t 41)))⟩, ⟨(some 45), none, (.q (.load (some 7) (.t 44)))⟩, ⟨(some 6), none, (.alloc [(.int .u8 0), (.str []), (.int .u8 0), (.int .i64 0), (.str []), (.str []), .nilslice])⟩, ⟨(some 5), none, (.q (.mov (.t 43)))⟩, ⟨none, none, (.store 7 (.t 6) (.t 45))⟩] [1, 2, 4, 5, 6, 25, 26, 27, 39, 40, 41])
            (.dreg 9 [⟨(some 46), none, (.q (.mov (.t 4)))⟩, ⟨(some 47), none, (.q (.nchk (.t 46)))⟩, ⟨(some 48), none, (.q (.load none (.t 47)))⟩, ⟨(some 49), none, (.q (.mov (.t 5)))⟩, ⟨(some 50), none, (.q (.load (some 7) (.t 6)))⟩, ⟨(some 51), none, (.pcall 36 [(.t 50)])⟩, ⟨(some 52), none, (.q (.iaddr 7 (.t 48) (.t 49)))⟩, ⟨none, none, (.store 7 (.t 52) (.t 51))⟩] false [1, 2, 4, 25, 26, 27, 39, 40, 41])))
            (.reg 10 [⟨(some 53), none, (.q (.bin .add (.t 41) (.c (.int .i64 1))))⟩, ⟨(some 41), none, (.q (.mov (.t 53)))⟩] [1, 2, 4, 25, 26, 27, 39, 40, 41]))))))))))
         (.reg 11 [⟨(some 54), none, (.q (.bin .add (.t 27) (.c (.int .i64 1))))⟩, ⟨(some 27), none, (.q (.mov (.t 54)))⟩] [1, 2, 25, 26, 27])))))))
   (.seq
    (.reg 12 [⟨(some 55), none, (.q (.load (some 15) (.t 1)))⟩, ⟨none, none, (.store 15 (.t 2) (.t 55))⟩] [2])
    .ret))))
theorem fok23 : FOK Tryd.prog 23 (56, ic23, [(.cell (some 15) 2)]) := .mk (pf := ([1000025] ++ List.filter (fun k => k != 35) allF0)) (an := [(0, [1, 2]), (1, [1, 2]), (2, [1, 2, 25, 26, 27]), (3, [1, 2, 25, 26, 27, 28]), (4, [1, 2, 4, 25, 26, 27]), (5, [1, 2, 4, 25, 26, 27]), (6, [1, 2, 4, 25, 26, 27, 39, 40, 41]), (7, [1, 2, 4, 25, 26, 27, 39, 40, 41, 42]), (8, [1, 2, 4, 5, 6, 25, 26, 27, 39, 40, 41]), (9, [1, 2, 4, 25, 26, 27, 39, 40, 41]), (10, [1, 2, 4, 25, 26, 27, 39, 40, 41]), (11, [1, 2, 25, 26, 27]), (12, [2])]) (by kernel_rfl) (fnOK_of Tryd.func23 (by kernel_rfl) (by kernel_rfl) (by kernel_rfl))
/-- chandlery/chandleryref10.Deps -/
def ic24 : IC :=
(.seq
 (.reg 0 [⟨(some 4), none, (.q (.mov (.c (.bool false))))⟩] [0, 1])
 (.seq
  (.seq
   (.reg 1 [⟨(some 6), none, (.q (.mov (.t 0)))⟩, ⟨(some 7), none, (.q (.len 0 (.t 6)))⟩, ⟨(some 8), none, (.q (.mov (.t 1)))⟩, ⟨(some 9), none, (.q (.len 0 (.t 8)))⟩, ⟨(some 10), none, (.q (.bin .neq (.t 7) (.t 9)))⟩] [0, 1, 10])
   (.cond (.t 10)
    (.seq
     (.reg 2 [⟨(some 4), none, (.q (.mov (.c (.bool false))))⟩] [4])
     .ret)
    .skip))
  (.seq
   (.seq
    (.reg 3 [⟨(some 5), none, (.q (.mov (.c (.int .i64 0))))⟩] [0, 1, 5])
    (.block 0
     (.loop
      (.seq
       (.seq
        (.reg 4 [⟨(some 11), none, (.q (.mov (.t 5)))⟩, ⟨(some 12), none, (.q (.mov (.t 0)))⟩, ⟨(some 13), none, (.q (.len 0 (.t 12)))⟩, ⟨(some 14), none, (.q (.bin .lss (.t 11) (.t 13)))⟩] [0, 1, 5, 14])
        (.cond (.t 14)
         .skip
         (.exit 0)))
       (.seq
        (.block 1
         (.seq
          (.dreg 6 [⟨(some 17), none, (.q (.mov (.t 0)))⟩, ⟨(some 18), none, (.q (.mov (.t 5)))⟩, ⟨(some 19), none, (.q (.iaddr 5 (.t 17) (.t 18)))⟩, ⟨(some 20), none, (.q (.load (some 5) (.t 19)))⟩, ⟨(some 21), none, (.q (.mov (.t 1)))⟩, ⟨(some 22), none, (.q (.mov (.t 5)))⟩, ⟨(some 23), none, (.q (.iaddr 5 (.t 21) (.t 22)))⟩, ⟨(some 24), none, (.q (.load (some 5) (.t 23)))⟩, ⟨(some 25), none, (.q (.eqs [2, 1, 1, 2, 2] true true (.t 20) (.t 24)))⟩] false [0, 1, 5, 25])
          (.cond (.t 25)
           (.seq
            (.reg 7 [⟨(some 4), none, (.q (.mov (.c (.bool false))))⟩] [4])
            .ret)
           .skip)))
        (.reg 5 [⟨(some 15), none, (.q (.mov (.t 5)))⟩, ⟨(some 16), none, (.q (.bin .add (.t 15) (.c (.int .i64 1))))⟩, ⟨(some 5), none, (.q (.mov (.t 16)))⟩] [0, 1, 5]))))))
   (.seq
    (.reg 8 [⟨(some 4), none, (.q (.mov (.c (.bool true))))⟩] [4])
    .ret))))
theorem fok24 : FOK Tryd.prog 24 (26, ic24, [(.t 4)]) := .mk (pf := []) (an := [(0, [0, 1]), (1, [0, 1, 10]), (2, [4]), (3, [0, 1, 5]), (4, [0, 1, 5, 14]), (5, [0, 1, 5]), (6, [0, 1, 5, 25]), (7, [4]), (8, [4])]) (by kernel_rfl) (fnOK_of Tryd.func24 (by kernel_rfl) (by kernel_rfl) (by kernel_rfl))
/-- chandlery/chandleryref10.Riches -/
def ic25 : IC :=
(.seq
 (.reg 0 [⟨(some 4), none, (.q (.mov (.c (.bool false))))⟩] [0, 1])
 (.seq
  (.seq
   (.reg 1 [⟨(some 6), none, (.q (.mov (.t 0)))⟩, ⟨(some 7), none, (.q (.len 0 (.t 6)))⟩, ⟨(some 8), none, (.q (.mov (.t 1)))⟩, ⟨(some 9), none, (.q (.len 0 (.t 8)))⟩, ⟨(some 10), none, (.q (.bin .neq (.t 7) (.t 9)))⟩] [0, 1, 10])
   (.cond (.t 10)
    (.seq
     (.reg 2 [⟨(some 4), none, (.q (.mov (.c (.bool false))))⟩] [4])
     .ret)
    .skip))
  (.seq
   (.seq
    (.reg 3 [⟨(some 5), none, (.q (.mov (.c (.int .i64 0))))⟩] [0, 1, 5])
    (.block 0
     (.loop
      (.seq
       (.seq
        (.reg 4 [⟨(some 11), none, (.q (.mov (.t 5)))⟩, ⟨(some 12), none, (.q (.mov (.t 0)))⟩, ⟨(some 13), none, (.q (.len 0 (.t 12)))⟩, ⟨(some 14), none, (.q (.bin .lss (.t 11) (.t 13)))⟩] [0, 1, 5, 14])
        (.cond (.t 14)
         .skip
         (.exit 0)))
       (.seq
        (.block 1
         (.seq
          (.dreg 6 [⟨(some 17), none, (.q (.mov (.t 0)))⟩, ⟨(some 18), none, (.q (.mov (.t 5)))⟩, ⟨(some 19), none, (.q (.iaddr 7 (.t 17) (.t 18)))⟩, ⟨(some 20), none, (.q (.load (some 7) (.t 19)))⟩, ⟨(some 21), none, (.q (.mov (.t 1)))⟩, ⟨(some 22), none, (.q (.mov (.t 5)))⟩, ⟨(some 23), none, (.q (.iaddr 7 (.t 21) (.t 22)))⟩, ⟨(some 24), none, (.q (.load (some 7) (.t 23)))⟩, ⟨(some 25), none, (.call 37 [(.t 20), (.t 24)])⟩, ⟨(some 26), none, (.q (.not (.t 25)))⟩] false [0, 1, 5, 26])
          (.cond (.t 26)
           (.seq
            (.reg 7 [⟨(some 4), none, (.q (.mov (.c (.bool false))))⟩] [4])
            .ret)
           .skip)))
        (.reg 5 [⟨(some 15), none, (.q (.mov (.t 5)))⟩, ⟨(some 16), none, (.q (.bin .add (.t 15) (.c (.int .i64 1))))⟩, ⟨(some 5), none, (.q (.mov (.t 16)))⟩] [0, 1, 5]))))))
   (.seq
    (.reg 8 [⟨(some 4), none, (.q (.mov (.c (.bool true))))⟩] [4])
    .ret))))
theorem fok25 : FOK Tryd.prog 25 (27, ic25, [(.t 4)]) := .mk (pf := []) (an := [(0, [0, 1]), (1, [0, 1, 10]), (2, [4]), (3, [0, 1, 5]), (4, [0, 1, 5, 14]), (5, [0, 1, 5]), (6, [0, 1, 5, 26]), (7, [4]), (8, [4])]) (by kernel_rfl) (fnOK_of Tryd.func25 (by kernel_rfl) (by kernel_rfl) (by kernel_rfl))
/-- chandlery/chandleryref06.Texts -/
def ic26 : IC :=
(.seq
 (.reg 0 [⟨(some 4), none, (.q (.mov (.c (.bool false))))⟩] [0, 1])
 (.seq
  (.seq
   (.reg 1 [⟨(some 6), none, (.q (.mov (.t 0)))⟩, ⟨(some 7), none, (.q (.len 0 (.t 6)))⟩, ⟨(some 8), none, (.q (.mov (.t 1)))⟩, ⟨(some 9), none, (.q (.len 0 (.t 8)))⟩, ⟨(some 10), none, (.q (.bin .neq (.t 7) (.t 9)))⟩] [0, 1, 10])
   (.cond (.t 10)
    (.seq
     (.reg 2 [⟨(some 4), none, (.q (.mov (.c (.bool false))))⟩] [4])
     .ret)
    .skip))
  (.seq
   (.seq
    (.reg 3 [⟨(some 5), none, (.q (.mov (.c (.int .i64 0))))⟩] [0, 1, 5])
    (.block 0
     (.loop
      (.seq
       (.seq
        (.reg 4 [⟨(some 11), none, (.q (.mov (.t 5)))⟩, ⟨(some 12), none, (.q (.mov (.t 0)))⟩, ⟨(some 13), none, (.q (.len 0 (.t 12)))⟩, ⟨(some 14), none, (.q (.bin .lss (.t 11) (.t 13)))⟩] [0, 1, 5, 14])
        (.cond (.t 14)
         .skip
         (.exit 0)))
       (.seq
        (.block 1
         (.seq
          (.dreg 6 [⟨(some 17), none, (.q (.mov (.t 0)))⟩, ⟨(some 18), none, (.q (.mov (.t 5)))⟩, ⟨(some 19), none, (.q (.iaddr 1 (.t 17) (.t 18)))⟩, ⟨(some 20), none, (.q (.load none (.t 19)))⟩, ⟨(some 21), none, (.q (.mov (.t 1)))⟩, ⟨(some 22), none, (.q (.mov (.t 5)))⟩, ⟨(some 23), none, (.q (.iaddr 1 (.t 21) (.t 22)))⟩, ⟨(some 24), none, (.q (.load none (.t 23)))⟩, ⟨(some 25), none, (.q (.bin .neq (.t 20) (.t 24)))⟩] false [0, 1, 5, 25])
          (.cond (.t 25)
           (.seq
            (.reg 7 [⟨(some 4), none, (.q (.mov (.c (.bool false))))⟩] [4])
            .ret)
           .skip)))
        (.reg 5 [⟨(some 15), none, (.q (.mov (.t 5)))⟩, ⟨(some 16), none, (.q (.bin .add (.t 15) (.c (.int .i64 1))))⟩, ⟨(some 5), none, (.q (.mov (.t 16)))⟩] [0, 1, 5]))))))
   (.seq
    (.reg 8 [⟨(some 4), none, (.q (.mov (.c (.bool true))))⟩] [4])
    .ret))))
theorem fok26 : FOK Tryd.prog 26 (26, ic26, [(.t 4)]) := .mk (pf := []) (an := [(0, [0, 1]), (1, [0, 1, 10]), (2, [4]), (3, [0, 1, 5]), (4, [0, 1, 5, 14]), (5, [0, 1, 5]), (6, [0, 1, 5, 25]), (7, [4]), (8, [4])]) (by kernel_rfl) (fnOK_of Tryd.func26 (by kernel_rfl) (by kernel_rfl) (by kernel_rfl))
/-- chandlery/chandleryref10.copied -/
def ic27 : IC :=
(.seq
 (.reg 0 [⟨(some 2), none, (.q (.mov (.c .nilslice)))⟩] [0])
 (.seq
  (.reg 1 [⟨(some 3), none, (.q (.mov (.c .nilslice)))⟩] [0, 3])
  (.seq
   (.seq
    (.reg 2 [⟨(some 4), none, (.q (.mov (.c (.int .i64 0))))⟩] [0, 3, 4])
    (.block 0
     (.loop
      (.seq
       (.seq
        (.reg 3 [⟨(some 5), none, (.q (.mov (.t 4)))⟩, ⟨(some 6), none, (.q (.mov (.t 0)))⟩, ⟨(some 7), none, (.q (.len 0 (.t 6)))⟩, ⟨(some 8), none, (.q (.bin .lss (.t 5) (.t 7)))⟩] [0, 3, 4, 8])
        (.cond (.t 8)
         .skip
         (.exit 0)))
       (.seq
        (.block 1
         (.reg 5 [⟨(some 11), none, (.q (.mov (.t 3)))⟩, ⟨(some 12), none, (.q (.mov (.t 0)))⟩, ⟨(some 13), none, (.q (.mov (.t 4)))⟩, ⟨(some 14), none, (.q (.iaddr 7 (.t 12) (.t 13)))⟩, ⟨(some 15), none, (.q (.load (some 7) (.t 14)))⟩, ⟨(some 16), none, (.call 38 [(.t 15)])⟩, ⟨(some 17), none, (.bslt 7 1 [(.int .u8 0), (.str []), (.int .u8 0), (.int .i64 0), (.str []), (.str []), .nilslice] [⟨0, ⟨7, (.t 16)⟩⟩])⟩, ⟨(some 18), none, (.app 7 (.t 11) (.t 17))⟩, ⟨(some 3), none, (.q (.mov (.t 18)))⟩] [0, 3, 4]))
        (.reg 4 [⟨(some 9), none, (.q (.mov (.t 4)))⟩, ⟨(some 10), none, (.q (.bin .add (.t 9) (.c (.int .i64 1))))⟩, ⟨(some 4), none, (.q (.mov (.t 10)))⟩] [0, 3, 4]))))))
   (.seq
    (.reg 6 [⟨(some 19), none, (.q (.mov (.t 3)))⟩, ⟨(some 2), none, (.q (.mov (.t 19)))⟩] [2])
    .ret))))
theorem fok27 : FOK Tryd.prog 27 (20, ic27, [(.t 2)]) := .mk (pf := [1000017]) (an := [(0, [0]), (1, [0, 3]), (2, [0, 3, 4]), (3, [0, 3, 4, 8]), (4, [0, 3, 4]), (5, [0, 3, 4]), (6, [2])]) (by kernel_rfl) (fnOK_of Tryd.func27 (by kernel_rfl) (by kernel_rfl) (by kernel_rfl))
/-- slices.Clone[[]int,int] -/
def ic28 : IC :=
(.seq
 (.reg 0 [⟨(some 2), none, (.q (.mov (.c .nilslice)))⟩] [0])
 (.seq
  (.seq
   (.reg 1 [⟨(some 3), none, (.q (.mov (.t 0)))⟩, ⟨(some 4), none, (.q (.isnil (.slice 3) false (.t 3)))⟩] [0, 4])
   (.cond (.t 4)
    (.seq
     (.reg 2 [⟨(some 2), none, (.q (.mov (.c .nilslice)))⟩] [2])
     .ret)
    .skip))
  (.seq
   (.reg 3 [⟨(some 5), none, (.bsl 1 0 [(.int .i64 0)] [])⟩, ⟨(some 6), none, (.q (.mov (.t 0)))⟩, ⟨(some 7), none, (.app 1 (.t 5) (.t 6))⟩, ⟨(some 2), none, (.q (.mov (.t 7)))⟩] [2])
   .ret)))
theorem fok28 : FOK Tryd.prog 28 (8, ic28, [(.t 2)]) := .mk (pf := []) (an := [(0, [0]), (1, [0, 4]), (2, [2]), (3, [2])]) (by kernel_rfl) (fnOK_of Tryd.func28 (by kernel_rfl) (by kernel_rfl) (by kernel_rfl))
/-- slices.Sorted[string] -/
def ic29 : IC :=
(.seq
 (.reg 0 [⟨(some 2), none, (.q (.mov (.c .nilslice)))⟩] [0])
 (.seq
  (.reg 1 [⟨(some 4), none, (.q (.mov (.t 0)))⟩, ⟨(some 5), none, (.call 39 [(.t 4)])⟩, ⟨(some 3), none, (.q (.mov (.t 5)))⟩] [3])
  (.seq
   (.reg 2 [⟨(some 6), none, (.q (.mov (.t 3)))⟩, ⟨(some 7), none, (.call 40 [(.t 6)])⟩] [3])
   (.seq
    (.reg 3 [⟨(some 8), none, (.q (.mov (.t 3)))⟩, ⟨(some 2), none, (.q (.mov (.t 8)))⟩] [2])
    .ret))))
theorem fok29 : FOK Tryd.prog 29 (9, ic29, [(.t 2)]) := .mk (pf := []) (an := [(0, [0]), (1, [3]), (2, [3]), (3, [2])]) (by kernel_rfl) (fnOK_of Tryd.func29 (by kernel_rfl) (by kernel_rfl) (by kernel_rfl))
/-- maps.Keys[map[string][]int,string,[]int] -/
def ic30 : IC :=
(.seq
 (.reg 0 [⟨(some 1), none, (.boxt (.t 0))⟩, ⟨(some 2), none, (.q (.mov (.c .nilfunc)))⟩] [1])
 (.seq
  (.reg 1 [⟨(some 3), none, (.q (.mkf 41 [] [(.t 1)]))⟩, ⟨(some 2), none, (.q (.mov (.t 3)))⟩] [2])
  .ret))
theorem fok30 : FOK Tryd.prog 30 (4, ic30, [(.t 2)]) := .mk (pf := [1000001]) (an := [(0, [1]), (1, [2])]) (by kernel_rfl) (fnOK_of Tryd.func30 (by kernel_rfl) (by kernel_rfl) (by kernel_rfl))
/-- chandlery/chandlerylaw12.much -/
def ic31 : IC :=
(.seq
 (.reg 0 [⟨(some 4), none, (.q (.mov (.c (.int .i64 0))))⟩, ⟨(some 5), none, (.q (.mov (.c (.bool false))))⟩] [0, 1])
 (.seq
  (.seq
   (.reg 1 [⟨(some 10), none, (.q (.mov (.t 1)))⟩, ⟨(some 11), none, (.q (.bin .gtr (.t 10) (.c (.int .i64 20))))⟩, ⟨(some 12), none, (.q (.mov (.t 11)))⟩, ⟨(some 13), (some ⟨12, false⟩), (.q (.mov (.t 0)))⟩, ⟨(some 14), (some ⟨12, false⟩), (.q (.len 0 (.t 13)))⟩, ⟨(some 15), (some ⟨12, false⟩), (.q (.bin .gtr (.t 14) (.c (.int .i64 100))))⟩, ⟨(some 16), none, (.q (.pick (.t 12) (.c (.bool true)) (.t 15)))⟩] [0, 1, 16])
   (.cond (.t 16)
    (.seq
     (.reg 2 [⟨(some 4), none, (.q (.mov (.c (.int .i64 0))))⟩, ⟨(some 5), none, (.q (.mov (.c (.bool true))))⟩] [4, 5])
     .ret)
    .skip))
  (.seq
   (.reg 3 [⟨(some 6), none, (.q (.mov (.c (.int .i64 0))))⟩] [0, 1, 6])
   (.seq
    (.seq
     (.reg 4 [⟨(some 7), none, (.q (.mov (.c (.int .i64 0))))⟩] [0, 1, 6, 7])
     (.block 0
      (.loop
       (.seq
        (.seq
         (.reg 5 [⟨(some 17), none, (.q (.mov (.t 7)))⟩, ⟨(some 18), none, (.q (.mov (.t 0)))⟩, ⟨(some 19), none, (.q (.len 0 (.t 18)))⟩, ⟨(some 20), none, (.q (.bin .lss (.t 17) (.t 19)))⟩] [0, 1, 6, 7, 20])
         (.cond (.t 20)
          .skip
          (.exit 0)))
        (.seq
         (.block 1
          (.seq
           (.seq
            (.dreg 7 [⟨(some 23), none, (.q (.mov (.t 0)))⟩, ⟨(some 24), none, (.q (.mov (.t 7)))⟩, ⟨(some 25), none, (.q (.iaddr 7 (.t 23) (.t 24)))⟩, ⟨(some 26), none, (.q (.faddr 1 (.t 25)))⟩, ⟨(some 27), none, (.q (.faddr 0 (.t 26)))⟩, ⟨(some 28), none, (.q (.load none (.t 27)))⟩, ⟨(some 29), none, (.q (.len 1 (.t 28)))⟩, ⟨(some 30), none, (.q (.mov (.t 0)))⟩, ⟨(some 31), none, (.q (.mov (.t 7)))⟩, ⟨(some 32), none, (.q (.iaddr 7 (.t 30) (.t 31)))⟩, ⟨(some 33), none, (.q (.faddr 1 (.t 32)))⟩, ⟨(some 34), none, (.q (.faddr 2 (.t 33)))⟩, ⟨(some 35), none, (.q (.faddr 1 (.t 34)))⟩, ⟨(some 36), none, (.q (.load none (.t 35)))⟩, ⟨(some 37), none, (.q (.len 1 (.t 36)))⟩, ⟨(some 38), none, (.q (.bin .add (.t 29) (.t 37)))⟩, ⟨(some 39), none, (.q (.bin .gtr (.t 38) (.c (.int .i64 500))))⟩, ⟨(some 40), none, (.q (.mov (.t 39)))⟩, ⟨(some 41), (some ⟨40, false⟩), (.q (.mov (.t 0)))⟩, ⟨(some 42), (some ⟨40, false⟩), (.q (.mov (.t 7)))⟩, ⟨(some 43), (some ⟨40, false⟩), (.q (.iaddr 7 (.t 41) (.t 42)))⟩, ⟨(some 44), (some ⟨40, false⟩), (.q (.faddr 1 (.t 43)))⟩, ⟨(some 45), (some ⟨40, false⟩), (.q (.faddr 2 (.t 44)))⟩, ⟨(some 46), (some ⟨40, false⟩), (.q (.faddr 2 (.t 45)))⟩, ⟨(some 47), (some ⟨40, false⟩), (.q (.load none (.t 46)))⟩, ⟨(some 48), (some ⟨40, false⟩), (.q (.len 1 (.t 47)))⟩, ⟨(some 49), (some ⟨40, false⟩), (.q (.bin .gtr (.t 48) (.c (.int .i64 500))))⟩, ⟨(some 50), none, (.q (.pick (.t 40) (.c (.bool true)) (.t 49)))⟩] false [0, 1, 6, 7, 50])
            (.cond (.t 50)
            (.seq
            (.reg 8 [⟨(some 4), none, (.q (.mov (.c (.int .i64 0))))⟩, ⟨(some 5), none, (.q (.mov (.c (.bool true))))⟩] [4, 5])
            .ret)
            .skip))
           (.seq
            (.reg 9 [⟨(some 52), none, (.q (.mov (.t 0)))⟩, ⟨(some 53), none, (.q (.mov (.t 7)))⟩, ⟨(some 54), none, (.q (.iaddr 7 (.t 52) (.t 53)))⟩, ⟨(some 55), none, (.q (.faddr 6 (.t 54)))⟩, ⟨(some 56), none, (.q (.load none (.t 55)))⟩, ⟨(some 57), none, (.q (.mov (.t 1)))⟩, ⟨(some 58), none, (.q (.bin .add (.t 57) (.c (.int .i64 1))))⟩, ⟨(some 59), none, (.call 31 [(.t 56), (.t 58)])⟩, ⟨(some 51), none, (.q (.mov (.t 59)))⟩, ⟨(some 60), none, (.q (.ext 0 (.t 51)))⟩, ⟨(some 61), none, (.q (.ext 1 (.t 51)))⟩, ⟨(some 8), none, (.q (.mov (.t 60)))⟩, ⟨(some 9), none, (.q (.mov (.t 61)))⟩] [0, 1, 6, 7, 8, 9])
            (.seq
            (.reg 10 [⟨(some 62), none, (.q (.mov (.t 6)))⟩, ⟨(some 63), none, (.q (.bin .add (.t 62) (.c (.int .i64 1))))⟩, ⟨(some 64), none, (.q (.mov (.t 8)))⟩, ⟨(some 65), none, (.q (.bin .add (.t 63) (.t 64)))⟩, ⟨(some 6), none, (.q (.mov (.t 65)))⟩] [0, 1, 6, 7, 9])
            (.seq
            (.reg 11 [⟨(some 66), none, (.q (.mov (.t 9)))⟩, ⟨(some 67), none, (.q (.mov (.t 66)))⟩, ⟨(some 68), (some ⟨67, false⟩), (.q (.mov (.t 6)))⟩, ⟨(some 69), (some ⟨67, false⟩), (.q (.bin .gtr (.t 68) (.c (.int .i64 2000))))⟩, ⟨(some 70), none, (.q (.pick (.t 67) (.c (.bool true)) (.t 69)))⟩] [0, 1, 6, 7, 70])
            (.cond (.t 70)
            (.seq
            (.reg 12 [⟨(some 4), none, (.q (.mov (.c (.int .i64 0))))⟩, ⟨(some 5), none, (.q (.mov (.c (.bool true))))⟩] [4, 5])
            .ret)
            .skip))))))
         (.reg 6 [⟨(some 21), none, (.q (.mov (.t 7)))⟩, ⟨(some 22), none, (.q (.bin .add (.t 21) (.c (.int .i64 1))))⟩, ⟨(some 7), none, (.q (.mov (.t 22)))⟩] [0, 1, 6, 7]))))))
    (.seq
     (.reg 13 [⟨(some 71), none, (.q (.mov (.t 6)))⟩, ⟨(some 4), none, (.q (.mov (.t 71)))⟩, ⟨(some 5), none, (.q (.mov (.c (.bool false))))⟩] [4, 5])
     .ret)))))
theorem fok31 : FOK Tryd.prog 31 (72, ic31, [(.t 4), (.t 5)]) := .mk (pf := []) (an := [(0, [0, 1]), (1, [0, 1, 16]), (2, [4, 5]), (3, [0, 1, 6]), (4, [0, 1, 6, 7]), (5, [0, 1, 6, 7, 20]), (6, [0, 1, 6, 7]), (7, [0, 1, 6, 7, 50]), (8, [4, 5]), (9, [0, 1, 6, 7, 8, 9]), (10, [0, 1, 6, 7, 9]), (11, [0, 1, 6, 7, 70]), (12, [4, 5]), (13, [4, 5])]) (by kernel_rfl) (fnOK_of Tryd.func31 (by kernel_rfl) (by kernel_rfl) (by kernel_rfl))
/-- chandlery/pkg.May -/
def ic32 : IC :=
(.seq
 (.reg 0 [⟨(some 1), none, (.boxt (.t 0))⟩, ⟨(some 2), none, (.alloc [(.bool false)])⟩] [1, 2])
 (.seq
  (.block 0
   (.seq
    (.reg 1 [⟨(some 8), none, (.q (.faddr 0 (.t 1)))⟩, ⟨(some 9), none, (.q (.load none (.t 8)))⟩, ⟨(some 10), none, (.call 42 [(.t 9)])⟩, ⟨(some 11), none, (.q (.not (.t 10)))⟩, ⟨(some 12), none, (.q (.mov (.t 11)))⟩, ⟨(some 13), (some ⟨12, false⟩), (.q (.faddr 0 (.t 1)))⟩, ⟨(some 14), (some ⟨12, false⟩), (.q (.load none (.t 13)))⟩, ⟨(some 15), (some ⟨12, false⟩), (.call 43 [(.t 14)])⟩, ⟨(some 16), none, (.q (.pick (.t 12) (.c (.bool true)) (.t 15)))⟩, ⟨(some 17), none, (.q (.mov (.t 16)))⟩, ⟨(some 18), (some ⟨17, false⟩), (.q (.faddr 1 (.t 1)))⟩, ⟨(some 19), (some ⟨17, false⟩), (.q (.load (some 3) (.t 18)))⟩, ⟨(some 20), (some ⟨17, false⟩), (.call 44 [(.t 19), (.c (.bool false))])⟩, ⟨(some 21), (some ⟨17, false⟩), (.q (.not (.t 20)))⟩, ⟨(some 22), none, (.q (.pick (.t 17) (.c (.bool true)) (.t 21)))⟩, ⟨(some 7), none, (.q (.mov (.t 22)))⟩] [1, 2, 7])
    (.cond (.t 7)
     (.seq
      (.reg 2 [⟨none, none, (.store 1 (.t 2) (.c (.bool false)))⟩] [2])
      .ret)
     (.seq
      (.reg 3 [⟨(some 24), none, (.q (.faddr 4 (.t 1)))⟩, ⟨(some 25), none, (.q (.load none (.t 24)))⟩, ⟨(some 26), none, (.call 45 [(.t 25)])⟩, ⟨(some 27), none, (.q (.bin .eql (.t 26) (.c (.str []))))⟩, ⟨(some 28), none, (.q (.mov (.t 27)))⟩, ⟨(some 29), (some ⟨28, false⟩), (.q (.faddr 5 (.t 1)))⟩, ⟨(some 30), (some ⟨28, false⟩), (.q (.load none (.t 29)))⟩, ⟨(some 31), (some ⟨28, false⟩), (.q (.len 1 (.t 30)))⟩, ⟨(some 32), (some ⟨28, false⟩), (.q (.bin .gtr (.t 31) (.c (.int .i64 64))))⟩, ⟨(some 33), none, (.q (.pick (.t 28) (.c (.bool true)) (.t 32)))⟩, ⟨(some 23), none, (.q (.mov (.t 33)))⟩] [1, 2, 23])
      (.cond (.t 23)
       (.seq
        (.reg 4 [⟨none, none, (.store 1 (.t 2) (.c (.bool false)))⟩] [2])
        .ret)
       (.seq
        (.reg 5 [⟨(some 35), none, (.q (.faddr 6 (.t 1)))⟩, ⟨(some 36), none, (.q (.load none (.t 35)))⟩, ⟨(some 37), none, (.call 46 [(.t 36), (.c (.int .i64 32)), (.f 47)])⟩, ⟨(some 38), none, (.q (.not (.t 37)))⟩, ⟨(some 39), none, (.q (.mov (.t 38)))⟩, ⟨(some 40), (some ⟨39, false⟩), (.q (.faddr 9 (.t 1)))⟩, ⟨(some 41), (some ⟨39, false⟩), (.q (.load none (.t 40)))⟩, ⟨(some 42), (some ⟨39, false⟩), (.call 46 [(.t 41), (.c (.int .i64 32)), (.f 47)])⟩, ⟨(some 43), (some ⟨39, false⟩), (.q (.not (.t 42)))⟩, ⟨(some 44), none, (.q (.pick (.t 39) (.c (.bool true)) (.t 43)))⟩, ⟨(some 45), none, (.q (.mov (.t 44)))⟩, ⟨(some 46), (some ⟨45, false⟩), (.q (.faddr 14 (.t 1)))⟩, ⟨(some 47), (some ⟨45, false⟩), (.q (.load none (.t 46)))⟩, ⟨(some 48), (some ⟨45, false⟩), (.call 48 [(.t 47), (.c (.int .i64 32)), (.f 43)])⟩, ⟨(some 49), (some ⟨45, false⟩), (.q (.not (.t 48)))⟩, ⟨(some 50), none, (.q (.pick (.t 45) (.c (.bool true)) (.t 49)))⟩, ⟨(some 34), none, (.q (.mov (.t 50)))⟩] [1, 2, 34])
        (.cond (.t 34)
         (.seq
          (.reg 6 [⟨none, none, (.store 1 (.t 2) (.c (.bool false)))⟩] [2])
          .ret)
         .skip)))))))
  (.seq
   (.seq
    (.reg 7 [⟨(some 51), none, (.q (.faddr 14 (.t 1)))⟩, ⟨(some 52), none, (.q (.load none (.t 51)))⟩, ⟨(some 53), none, (.q (.len 0 (.t 52)))⟩, ⟨(some 54), none, (.q (.mov (.c (.int .i64 0))))⟩] [1, 2, 52, 53, 54])
    (.block 1
     (.loop
      (.seq
       (.reg 8 [⟨(some 55), none, (.q (.bin .lss (.t 54) (.t 53)))⟩] [1, 2, 52, 53, 54, 55])
       (.seq
        (.cond (.t 55)
         .skip
         (.exit 1))
        (.seq
         (.block 2
          (.seq
           (.reg 9 [⟨(some 56), none, (.q (.mov (.t 54)))⟩, ⟨(some 57), none, (.q (.iaddr 1 (.t 52) (.t 54)))⟩, ⟨(some 58), none, (.q (.load none (.t 57)))⟩, ⟨(some 3), none, (.q (.mov (.t 56)))⟩, ⟨(some 4), none, (.q (.mov (.t 58)))⟩] [1, 2, 3, 4, 52, 53, 54])
           (.seq
            (.reg 10 [⟨(some 59), none, (.q (.mov (.t 3)))⟩, ⟨(some 60), none, (.q (.bin .gtr (.t 59) (.c (.int .i64 0))))⟩, ⟨(some 61), none, (.q (.mov (.t 60)))⟩, ⟨(some 62), (some ⟨61, true⟩), (.q (.faddr 14 (.t 1)))⟩, ⟨(some 63), (some ⟨61, true⟩), (.q (.load none (.t 62)))⟩, ⟨(some 64), (some ⟨61, true⟩), (.q (.mov (.t 3)))⟩, ⟨(some 65), (some ⟨61, true⟩), (.q (.bin .sub (.t 64) (.c (.int .i64 1))))⟩, ⟨(some 66), (some ⟨61, true⟩), (.q (.iaddr 1 (.t 63) (.t 65)))⟩, ⟨(some 67), (some ⟨61, true⟩), (.q (.load none (.t 66)))⟩, ⟨(some 68), (some ⟨61, true⟩), (.q (.mov (.t 4)))⟩, ⟨(some 69), (some ⟨61, true⟩), (.q (.bin .geq (.t 67) (.t 68)))⟩, ⟨(some 70), none, (.q (.pick (.t 61) (.t 69) (.c (.bool false))))⟩] [1, 2, 52, 53, 54, 70])
            (.cond (.t 70)
            (.seq
            (.reg 11 [⟨none, none, (.store 1 (.t 2) (.c (.bool false)))⟩] [2])
            .ret)
            .skip))))
         (.reg 12 [⟨(some 71), none, (.q (.bin .add (.t 54) (.c (.int .i64 1))))⟩, ⟨(some 54), none, (.q (.mov (.t 71)))⟩] [1, 2, 52, 53, 54])))))))
   (.seq
    (.seq
     (.reg 13 [⟨(some 72), none, (.q (.load (some 15) (.t 1)))⟩, ⟨(some 73), none, (.call 49 [(.t 72)])⟩] [2, 73])
     (.block 3
      (.rfunc (.t 73) [74, 75]
       (.seq
        (.reg 14 [⟨(some 5), none, (.alloc [(.int .u8 0)])⟩, ⟨none, none, (.store 1 (.t 5) (.t 74))⟩] [2, 5, 75])
        (.reg 15 [⟨(some 6), none, (.q (.mov (.t 75)))⟩] [2, 5, 6]))
       (.block 4
        (.seq
         (.reg 16 [⟨(some 76), none, (.q (.mov (.t 6)))⟩, ⟨(some 77), none, (.q (.mkf 51 [] [(.t 5)]))⟩, ⟨(some 78), none, (.call 50 [(.t 76), (.c (.int .i64 32)), (.t 77)])⟩, ⟨(some 79), none, (.q (.not (.t 78)))⟩] [2, 79])
         (.cond (.t 79)
          (.seq
           (.reg 17 [⟨none, none, (.store 1 (.t 2) (.c (.bool false)))⟩] [])
           .ret)
          .skip))))))
    (.seq
     (.reg 18 [⟨none, none, (.store 1 (.t 2) (.c (.bool true)))⟩] [2])
     .ret)))))
theorem fok32 : FOK Tryd.prog 32 (80, ic32, [(.cell none 2)]) := .mk (pf := [1000001]) (an := [(0, [1, 2]), (1, [1, 2, 7]), (2, [2]), (3, [1, 2, 23]), (4, [2]), (5, [1, 2, 34]), (6, [2]), (7, [1, 2, 52, 53, 54]), (8, [1, 2, 52, 53, 54, 55]), (9, [1, 2, 3, 4, 52, 53, 54]), (10, [1, 2, 52, 53, 54, 70]), (11, [2]), (12, [1, 2, 52, 53, 54]), (13, [2, 73]), (14, [2, 5, 75]), (15, [2, 5, 6]), (16, [2, 79]), (18, [2])]) (by kernel_rfl) (fnOK_of Tryd.func32 (by kernel_rfl) (by kernel_rfl) (by kernel_rfl))
/-- slices.Clone[[]chandlery/api.Dep,chandlery/api.Dep] -/
def ic33 : IC :=
(.seq
 (.reg 0 [⟨(some 2), none, (.q (.mov (.c .nilslice)))⟩] [0])
 (.seq
  (.seq
   (.reg 1 [⟨(some 3), none, (.q (.mov (.t 0)))⟩, ⟨(some 4), none, (.q (.isnil (.slice 46) false (.t 3)))⟩] [0, 4])
   (.cond (.t 4)
    (.seq
     (.reg 2 [⟨(some 2), none, (.q (.mov (.c .nilslice)))⟩] [2])
     .ret)
    .skip))
  (.seq
   (.reg 3 [⟨(some 5), none, (.bsl 5 0 [(.str []), (.int .u8 0), (.int .i64 0), (.str []), (.str [])] [])⟩, ⟨(some 6), none, (.q (.mov (.t 0)))⟩, ⟨(some 7), none, (.app 5 (.t 5) (.t 6))⟩, ⟨(some 2), none, (.q (.mov (.t 7)))⟩] [2])
   .ret)))
theorem fok33 : FOK Tryd.prog 33 (8, ic33, [(.t 2)]) := .mk (pf := []) (an := [(0, [0]), (1, [0, 4]), (2, [2]), (3, [2])]) (by kernel_rfl) (fnOK_of Tryd.func33 (by kernel_rfl) (by kernel_rfl) (by kernel_rfl))
/-- slices.Clone[[]string,string] -/
def ic34 : IC :=
(.seq
 (.reg 0 [⟨(some 2), none, (.q (.mov (.c .nilslice)))⟩] [0])
 (.seq
  (.seq
   (.reg 1 [⟨(some 3), none, (.q (.mov (.t 0)))⟩, ⟨(some 4), none, (.q (.isnil (.slice 9) false (.t 3)))⟩] [0, 4])
   (.cond (.t 4)
    (.seq
     (.reg 2 [⟨(some 2), none, (.q (.mov (.c .nilslice)))⟩] [2])
     .ret)
    .skip))
  (.seq
   (.reg 3 [⟨(some 5), none, (.bsl 1 0 [(.str [])] [])⟩, ⟨(some 6), none, (.q (.mov (.t 0)))⟩, ⟨(some 7), none, (.app 1 (.t 5) (.t 6))⟩, ⟨(some 2), none, (.q (.mov (.t 7)))⟩] [2])
   .ret)))
theorem fok34 : FOK Tryd.prog 34 (8, ic34, [(.t 2)]) := .mk (pf := []) (an := [(0, [0]), (1, [0, 4]), (2, [2]), (3, [2])]) (by kernel_rfl) (fnOK_of Tryd.func34 (by kernel_rfl) (by kernel_rfl) (by kernel_rfl))
/-- slices.Clone[[]chandlery/api.Rich,chandlery/api.Rich] -/
def ic35 : IC :=
(.seq
 (.reg 0 [⟨(some 2), none, (.q (.mov (.c .nilslice)))⟩] [0])
 (.seq
  (.seq
   (.reg 1 [⟨(some 3), none, (.q (.mov (.t 0)))⟩, ⟨(some 4), none, (.q (.isnil (.slice 48) false (.t 3)))⟩] [0, 4])
   (.cond (.t 4)
    (.seq
     (.reg 2 [⟨(some 2), none, (.q (.mov (.c .nilslice)))⟩] [2])
     .ret)
    .skip))
  (.seq
   (.reg 3 [⟨(some 5), none, (.bsl 7 0 [(.int .u8 0), (.str []), (.int .u8 0), (.int .i64 0), (.str []), (.str []), .nilslice] [])⟩, ⟨(some 6), none, (.q (.mov (.t 0)))⟩, ⟨(some 7), none, (.app 7 (.t 5) (.t 6))⟩, ⟨(some 2), none, (.q (.mov (.t 7)))⟩] [2])
   .ret)))
theorem fok35 : FOK Tryd.prog 35 (8, ic35, [(.t 2)]) := .mk (pf := []) (an := [(0, [0]), (1, [0, 4]), (2, [2]), (3, [2])]) (by kernel_rfl) (fnOK_of Tryd.func35 (by kernel_rfl) (by kernel_rfl) (by kernel_rfl))
/-- chandlery/shape.Copy -/
def ic36 : IC :=
(.seq
 (.reg 0 [⟨(some 1), none, (.boxt (.t 0))⟩, ⟨(some 2), none, (.alloc [(.int .u8 0), (.str []), (.int .u8 0), (.int .i64 0), (.str []), (.str []), .nilslice])⟩] [1, 2])
 (.seq
  (.reg 1 [⟨(some 6), none, (.q (.faddr 0 (.t 1)))⟩, ⟨(some 7), none, (.q (.load none (.t 6)))⟩, ⟨(some 8), none, (.q (.faddr 1 (.t 1)))⟩, ⟨(some 9), none, (.q (.load (some 5) (.t 8)))⟩, ⟨(some 10), none, (.q (.bld [(.int .u8 0), (.str []), (.int .u8 0), (.int .i64 0), (.str []), (.str []), .nilslice] [⟨0, ⟨1, (.t 7)⟩⟩, ⟨1, ⟨5, (.t 9)⟩⟩]))⟩, ⟨(some 3), none, (.alloc [(.int .u8 0), (.str []), (.int .u8 0), (.int .i64 0), (.str []), (.str []), .nilslice])⟩, ⟨none, none, (.store 7 (.t 3) (.t 10))⟩] [1, 2, 3])
  (.seq
   (.seq
    (.reg 2 [⟨(some 11), none, (.q (.faddr 6 (.t 1)))⟩, ⟨(some 12), none, (.q (.load none (.t 11)))⟩, ⟨(some 13), none, (.q (.len 0 (.t 12)))⟩, ⟨(some 14), none, (.q (.mov (.c (.int .i64 0))))⟩] [2, 3, 12, 13, 14])
    (.block 0
     (.loop
      (.seq
       (.reg 3 [⟨(some 15), none, (.q (.bin .lss (.t 14) (.t 13)))⟩] [2, 3, 12, 13, 14, 15])
       (.seq
        (.cond (.t 15)
         .skip
         (.exit 0))
        (.seq
         (.block 1
          (.seq
           (.reg 4 [⟨(some 16), none, (.q (.iaddr 7 (.t 12) (.t 14)))⟩, ⟨(some 17), none, (.q (.load (some 7) (.t 16)))⟩, ⟨(some 5), none, (.alloc [(.int .u8 0), (.str []), (.int .u8 0), (.int .i64 0), (.str []), (.str []), .nilslice])⟩, ⟨none, none, (.store 7 (.t 5) (.t 17))⟩] [2, 3, 5, 12, 13, 14])
           (.dreg 5 [⟨(some 18), none, (.q (.faddr 6 (.t 3)))⟩, ⟨(some 19), none, (.q (.load none (.t 18)))⟩, ⟨(some 20), none, (.q (.load (some 7) (.t 5)))⟩, ⟨(some 21), none, (.pcall 36 [(.t 20)])⟩, ⟨(some 22), none, (.bslt 7 1 [(.int .u8 0), (.str []), (.int .u8 0), (.int .i64 0), (.str []), (.str []), .nilslice] [⟨0, ⟨7, (.t 21)⟩⟩])⟩, ⟨(some 23), none, (.app 7 (.t 19) (.t 22))⟩, ⟨(some 24), none, (.q (.faddr 6 (.t 3)))⟩, ⟨none, none, (.store 1 (.t 24) (.t 23))⟩] true [2, 3, 12, 13, 14])))
         (.reg 6 [⟨(some 25), none, (.q (.bin .add (.t 14) (.c (.int .i64 1))))⟩, ⟨(some 14), none, (.q (.mov (.t 25)))⟩] [2, 3, 12, 13, 14])))))))
   (.seq
    (.reg 7 [⟨(some 26), none, (.q (.load (some 7) (.t 3)))⟩, ⟨none, none, (.store 7 (.t 2) (.t 26))⟩] [2])
    .ret))))
theorem fok36 : FOK Tryd.prog 36 (27, ic36, [(.cell (some 7) 2)]) := .mk (pf := ([1000001, 1000022] ++ allF0)) (an := [(0, [1, 2]), (1, [1, 2, 3]), (2, [2, 3, 12, 13, 14]), (3, [2, 3, 12, 13, 14, 15]), (4, [2, 3, 5, 12, 13, 14]), (5, [2, 3, 12, 13, 14]), (6, [2, 3, 12, 13, 14]), (7, [2])]) (by kernel_rfl) (fnOK_of Tryd.func36 (by kernel_rfl) (by kernel_rfl) (by kernel_rfl))
/-- chandlery/chandleryref09.Same -/
def ic37 : IC :=
(.seq
 (.reg 0 [⟨(some 2), none, (.boxt (.t 0))⟩, ⟨(some 3), none, (.boxt (.t 1))⟩, ⟨(some 4), none, (.q (.mov (.c (.bool false))))⟩] [2, 3])
 (.seq
  (.seq
   (.reg 1 [⟨(some 6), none, (.q (.faddr 0 (.t 2)))⟩, ⟨(some 7), none, (.q (.load none (.t 6)))⟩, ⟨(some 8), none, (.q (.faddr 0 (.t 3)))⟩, ⟨(some 9), none, (.q (.load none (.t 8)))⟩, ⟨(some 10), none, (.q (.bin .neq (.t 7) (.t 9)))⟩, ⟨(some 11), none, (.q (.mov (.t 10)))⟩, ⟨(some 12), (some ⟨11, false⟩), (.q (.faddr 1 (.t 2)))⟩, ⟨(some 13), (some ⟨11, false⟩), (.q (.load (some 5) (.t 12)))⟩, ⟨(some 14), (some ⟨11, false⟩), (.q (.faddr 1 (.t 3)))⟩, ⟨(some 15), (some ⟨11, false⟩), (.q (.load (some 5) (.t 14)))⟩, ⟨(some 16), (some ⟨11, false⟩), (.q (.eqs [2, 1, 1, 2, 2] true true (.t 13) (.t 15)))⟩, ⟨(some 17), none, (.q (.pick (.t 11) (.c (.bool true)) (.t 16)))⟩, ⟨(some 18), none, (.q (.mov (.t 17)))⟩, ⟨(some 19), (some ⟨18, false⟩), (.q (.faddr 6 (.t 2)))⟩, ⟨(some 20), (some ⟨18, false⟩), (.q (.load none (.t 19)))⟩, ⟨(some 21), (some ⟨18, false⟩), (.q (.len 0 (.t 20)))⟩, ⟨(some 22), (some ⟨18, false⟩), (.q (.faddr 6 (.t 3)))⟩, ⟨(some 23), (some ⟨18, false⟩), (.q (.load none (.t 22)))⟩, ⟨(some 24), (some ⟨18, false⟩), (.q (.len 0 (.t 23)))⟩, ⟨(some 25), (some ⟨18, false⟩), (.q (.bin .neq (.t 21) (.t 24)))⟩, ⟨(some 26), none, (.q (.pick (.t 18) (.c (.bool true)) (.t 25)))⟩] [2, 3, 26])
   (.cond (.t 26)
    (.seq
     (.reg 2 [⟨(some 4), none, (.q (.mov (.c (.bool false))))⟩] [4])
     .ret)
    .skip))
  (.seq
   (.seq
    (.reg 3 [⟨(some 5), none, (.q (.mov (.c (.int .i64 0))))⟩] [2, 3, 5])
    (.block 0
     (.loop
      (.seq
       (.seq
        (.reg 4 [⟨(some 27), none, (.q (.mov (.t 5)))⟩, ⟨(some 28), none, (.q (.faddr 6 (.t 2)))⟩, ⟨(some 29), none, (.q (.load none (.t 28)))⟩, ⟨(some 30), none, (.q (.len 0 (.t 29)))⟩, ⟨(some 31), none, (.q (.bin .lss (.t 27) (.t 30)))⟩] [2, 3, 5, 31])
        (.cond (.t 31)
         .skip
         (.exit 0)))
       (.seq
        (.block 1
         (.seq
          (.dreg 6 [⟨(some 34), none, (.q (.faddr 6 (.t 2)))⟩, ⟨(some 35), none, (.q (.load none (.t 34)))⟩, ⟨(some 36), none, (.q (.mov (.t 5)))⟩, ⟨(some 37), none, (.q (.iaddr 7 (.t 35) (.t 36)))⟩, ⟨(some 38), none, (.q (.load (some 7) (.t 37)))⟩, ⟨(some 39), none, (.q (.faddr 6 (.t 3)))⟩, ⟨(some 40), none, (.q (.load none (.t 39)))⟩, ⟨(some 41), none, (.q (.mov (.t 5)))⟩, ⟨(some 42), none, (.q (.iaddr 7 (.t 40) (.t 41)))⟩, ⟨(some 43), none, (.q (.load (some 7) (.t 42)))⟩, ⟨(some 44), none, (.call 37 [(.t 38), (.t 43)])⟩, ⟨(some 45), none, (.q (.not (.t 44)))⟩] false [2, 3, 5, 45])
          (.cond (.t 45)
           (.seq
            (.reg 7 [⟨(some 4), none, (.q (.mov (.c (.bool false))))⟩] [4])
            .ret)
           .skip)))
        (.reg 5 [⟨(some 32), none, (.q (.mov (.t 5)))⟩, ⟨(some 33), none, (.q (.bin .add (.t 32) (.c (.int .i64 1))))⟩, ⟨(some 5), none, (.q (.mov (.t 33)))⟩] [2, 3, 5]))))))
   (.seq
    (.reg 8 [⟨(some 4), none, (.q (.mov (.c (.bool true))))⟩] [4])
    .ret))))
theorem fok37 : FOK Tryd.prog 37 (46, ic37, [(.t 4)]) := .mk (pf := [1000002, 1000003]) (an := [(0, [2, 3]), (1, [2, 3, 26]), (2, [4]), (3, [2, 3, 5]), (4, [2, 3, 5, 31]), (5, [2, 3, 5]), (6, [2, 3, 5, 45]), (7, [4]), (8, [4])]) (by kernel_rfl) (fnOK_of Tryd.func37 (by kernel_rfl) (by kernel_rfl) (by kernel_rfl))
/-- chandlery/chandleryref09.Copy -/
def ic38 : IC :=
(.seq
 (.reg 0 [⟨(some 1), none, (.boxt (.t 0))⟩, ⟨(some 2), none, (.alloc [(.int .u8 0), (.str []), (.int .u8 0), (.int .i64 0), (.str []), (.str []), .nilslice])⟩] [1, 2])
 (.seq
  (.reg 1 [⟨(some 5), none, (.q (.faddr 0 (.t 1)))⟩, ⟨(some 6), none, (.q (.load none (.t 5)))⟩, ⟨(some 7), none, (.q (.faddr 1 (.t 1)))⟩, ⟨(some 8), none, (.q (.load (some 5) (.t 7)))⟩, ⟨(some 9), none, (.q (.bld [(.int .u8 0), (.str []), (.int .u8 0), (.int .i64 0), (.str []), (.str []), .nilslice] [⟨0, ⟨1, (.t 6)⟩⟩, ⟨1, ⟨5, (.t 8)⟩⟩]))⟩, ⟨(some 3), none, (.alloc [(.int .u8 0), (.str []), (.int .u8 0), (.int .i64 0), (.str []), (.str []), .nilslice])⟩, ⟨none, none, (.store 7 (.t 3) (.t 9))⟩] [1, 2, 3])
  (.seq
   (.seq
    (.reg 2 [⟨(some 4), none, (.q (.mov (.c (.int .i64 0))))⟩] [1, 2, 3, 4])
    (.block 0
     (.loop
      (.seq
       (.seq
        (.reg 3 [⟨(some 10), none, (.q (.mov (.t 4)))⟩, ⟨(some 11), none, (.q (.faddr 6 (.t 1)))⟩, ⟨(some 12), none, (.q (.load none (.t 11)))⟩, ⟨(some 13), none, (.q (.len 0 (.t 12)))⟩, ⟨(some 14), none, (.q (.bin .lss (.t 10) (.t 13)))⟩] [1, 2, 3, 4, 14])
        (.cond (.t 14)
         .skip
         (.exit 0)))
       (.seq
        (.block 1
         (.dreg 5 [⟨(some 17), none, (.q (.faddr 6 (.t 3)))⟩, ⟨(some 18), none, (.q (.load none (.t 17)))⟩, ⟨(some 19), none, (.q (.faddr 6 (.t 1)))⟩, ⟨(some 20), none, (.q (.load none (.t 19)))⟩, ⟨(some 21), none, (.q (.mov (.t 4)))⟩, ⟨(some 22), none, (.q (.iaddr 7 (.t 20) (.t 21)))⟩, ⟨(some 23), none, (.q (.load (some 7) (.t 22)))⟩, ⟨(some 24), none, (.pcall 38 [(.t 23)])⟩, ⟨(some 25), none, (.bslt 7 1 [(.int .u8 0), (.str []), (.int .u8 0), (.int .i64 0), (.str []), (.str []), .nilslice] [⟨0, ⟨7, (.t 24)⟩⟩])⟩, ⟨(some 26), none, (.app 7 (.t 18) (.t 25))⟩, ⟨(some 27), none, (.q (.faddr 6 (.t 3)))⟩, ⟨none, none, (.store 1 (.t 27) (.t 26))⟩] true [1, 2, 3, 4]))
        (.reg 4 [⟨(some 15), none, (.q (.mov (.t 4)))⟩, ⟨(some 16), none, (.q (.bin .add (.t 15) (.c (.int .i64 1))))⟩, ⟨(some 4), none, (.q (.mov (.t 16)))⟩] [1, 2, 3, 4]))))))
   (.seq
    (.reg 6 [⟨(some 28), none, (.q (.load (some 7) (.t 3)))⟩, ⟨none, none, (.store 7 (.t 2) (.t 28))⟩] [2])
    .ret))))
theorem fok38 : FOK Tryd.prog 38 (29, ic38, [(.cell (some 7) 2)]) := .mk (pf := ([1000001, 1000025] ++ allF0)) (an := [(0, [1, 2]), (1, [1, 2, 3]), (2, [1, 2, 3, 4]), (3, [1, 2, 3, 4, 14]), (4, [1, 2, 3, 4]), (5, [1, 2, 3, 4]), (6, [2])]) (by kernel_rfl) (fnOK_of Tryd.func38 (by kernel_rfl) (by kernel_rfl) (by kernel_rfl))
/-- slices.Collect[string] -/
def ic39 : IC :=
(.seq
 (.reg 0 [⟨(some 2), none, (.q (.mov (.c .nilslice)))⟩] [0])
 (.seq
  (.reg 1 [⟨(some 3), none, (.q (.mov (.t 0)))⟩, ⟨(some 4), none, (.call 53 [(.c .nilslice), (.t 3)])⟩, ⟨(some 2), none, (.q (.mov (.t 4)))⟩] [2])
  .ret))
theorem fok39 : FOK Tryd.prog 39 (5, ic39, [(.t 2)]) := .mk (pf := []) (an := [(0, [0]), (1, [2])]) (by kernel_rfl) (fnOK_of Tryd.func39 (by kernel_rfl) (by kernel_rfl) (by kernel_rfl))
/-- slices.Sort[[]string,string] -/
def ic40 : IC :=
(.seq
 (.reg 0 [⟨(some 3), none, (.q (.mov (.t 0)))⟩, ⟨(some 4), none, (.q (.len 0 (.t 3)))⟩, ⟨(some 2), none, (.q (.mov (.t 4)))⟩] [0, 2])
 (.reg 1 [⟨(some 5), none, (.q (.mov (.t 0)))⟩, ⟨(some 6), none, (.q (.mov (.t 2)))⟩, ⟨(some 7), none, (.q (.mov (.t 2)))⟩, ⟨(some 8), none, (.q (.conv .u64 (.t 7)))⟩, ⟨(some 9), none, (.call 55 [(.t 8)])⟩, ⟨(some 10), none, (.call 54 [(.t 5), (.c (.int .i64 0)), (.t 6), (.t 9)])⟩] []))
theorem fok40 : FOK Tryd.prog 40 (11, ic40, []) := .mk (pf := []) (an := [(0, [0, 2])]) (by kernel_rfl) (fnOK_of Tryd.func40 (by kernel_rfl) (by kernel_rfl) (by kernel_rfl))
/-- maps.Keys[map[string][]int,string,[]int]$1 -/
def ic41 : IC :=
(.seq
 (.reg 0 [⟨(some 4), none, (.q (.load none (.t 1)))⟩, ⟨(some 5), none, (.mrange (.t 4))⟩] [0, 5])
 (.block 0
  (.loop
   (.seq
    (.reg 1 [⟨(some 6), none, (.mnext (.t 5))⟩, ⟨(some 7), none, (.q (.ext 0 (.t 6)))⟩] [0, 5, 7])
    (.seq
     (.cond (.t 7)
      .skip
      (.exit 0))
     (.block 1
      (.seq
       (.reg 2 [⟨(some 8), none, (.ment (.t 5))⟩, ⟨(some 9), none, (.q (.ext 0 (.t 8)))⟩, ⟨(some 3), none, (.q (.mov (.t 9)))⟩] [0, 3, 5])
       (.seq
        (.reg 3 [⟨(some 10), none, (.q (.mov (.t 0)))⟩, ⟨(some 11), none, (.q (.mov (.t 3)))⟩, ⟨(some 12), none, (.callv (.t 10) [(.t 11)])⟩, ⟨(some 13), none, (.q (.not (.t 12)))⟩] [0, 5, 13])
        (.cond (.t 13)
         .ret
         .skip)))))))))
theorem fok41 : FOK Tryd.prog 41 (14, ic41, []) := .mk (pf := []) (an := [(0, [0, 5]), (1, [0, 5, 7]), (2, [0, 3, 5]), (3, [0, 5, 13])]) (by kernel_rfl) (fnOK_of Tryd.func41 (by kernel_rfl) (by kernel_rfl) (by kernel_rfl))
/-- chandlery/dep.Name -/
def ic42 : IC :=
(.seq
 (.reg 0 [⟨(some 2), none, (.q (.mov (.c (.bool false))))⟩] [0])
 (.seq
  (.seq
   (.reg 1 [⟨(some 7), none, (.q (.mov (.t 0)))⟩, ⟨(some 8), none, (.q (.len 1 (.t 7)))⟩, ⟨(some 9), none, (.q (.bin .lss (.t 8) (.c (.int .i64 1))))⟩, ⟨(some 10), none, (.q (.mov (.t 9)))⟩, ⟨(some 11), (some ⟨10, false⟩), (.q (.mov (.t 0)))⟩, ⟨(some 12), (some ⟨10, false⟩), (.q (.len 1 (.t 11)))⟩, ⟨(some 13), (some ⟨10, false⟩), (.q (.bin .gtr (.t 12) (.c (.int .i64 64))))⟩, ⟨(some 14), none, (.q (.pick (.t 10) (.c (.bool true)) (.t 13)))⟩] [0, 14])
   (.cond (.t 14)
    (.seq
     (.reg 2 [⟨(some 2), none, (.q (.mov (.c (.bool false))))⟩] [2])
     .ret)
    .skip))
  (.seq
   (.seq
    (.reg 3 [⟨(some 15), none, (.q (.mov (.t 0)))⟩, ⟨(some 16), none, (.srange (.t 15))⟩] [0, 16])
    (.block 0
     (.loop
      (.seq
       (.reg 4 [⟨(some 17), none, (.snext (.t 16))⟩, ⟨(some 18), none, (.q (.ext 0 (.t 17)))⟩] [0, 16, 17, 18])
       (.seq
        (.cond (.t 18)
         .skip
         (.exit 0))
        (.block 1
         (.seq
          (.reg 5 [⟨(some 19), none, (.q (.ext 2 (.t 17)))⟩, ⟨(some 4), none, (.q (.mov (.t 19)))⟩] [0, 4, 16])
          (.seq
           (.reg 6 [⟨(some 20), none, (.q (.mov (.t 4)))⟩, ⟨(some 21), none, (.q (.bin .gtr (.t 20) (.c (.int .i32 126))))⟩, ⟨(some 22), none, (.q (.mov (.t 21)))⟩, ⟨(some 23), (some ⟨22, false⟩), (.q (.mov (.t 4)))⟩, ⟨(some 24), (some ⟨22, false⟩), (.q (.conv .u8 (.t 23)))⟩, ⟨(some 25), (some ⟨22, false⟩), (.call 56 [(.c (.str [97, 98, 99, 100, 101, 102, 103, 104, 105, 106, 107, 108, 109, 110, 111, 112, 113, 114, 115, 116, 117, 118, 119, 120, 121, 122, 65, 66, 67, 68, 69, 70, 71, 72, 73, 74, 75, 76, 77, 78, 79, 80, 81, 82, 83, 84, 85, 86, 87, 88, 89, 90, 48, 49, 50, 51, 52, 53, 54, 55, 56, 57, 46, 95, 43, 45, 47, 58, 64, 126, 94])), (.t 24)])⟩, ⟨(some 26), (some ⟨22, false⟩), (.q (.bin .lss (.t 25) (.c (.int .i64 0))))⟩, ⟨(some 27), none, (.q (.pick (.t 22) (.c (.bool true)) (.t 26)))⟩] [0, 16, 27])
           (.cond (.t 27)
            (.seq
            (.reg 7 [⟨(some 2), none, (.q (.mov (.c (.bool false))))⟩] [2])
            .ret)
            .skip)))))))))
   (.seq
    (.seq
     (.reg 8 [⟨(some 28), none, (.q (.load (some 7) (.g 0)))⟩, ⟨(some 29), none, (.q (.mov (.c (.int .i64 0))))⟩] [0, 28, 29])
     (.block 2
      (.loop
       (.seq
        (.reg 9 [⟨(some 30), none, (.q (.bin .lss (.t 29) (.c (.int .i64 7))))⟩] [0, 28, 29, 30])
        (.seq
         (.cond (.t 30)
          .skip
          (.exit 2))
         (.seq
          (.block 3
           (.seq
            (.reg 10 [⟨(some 31), none, (.q (.idx none 7 1 (.t 28) (.t 29)))⟩, ⟨(some 6), none, (.q (.mov (.t 31)))⟩] [0, 6, 28, 29])
            (.seq
            (.reg 11 [⟨(some 32), none, (.q (.mov (.t 0)))⟩, ⟨(some 33), none, (.q (.mov (.t 6)))⟩, ⟨(some 34), none, (.q (.bin .eql (.t 32) (.t 33)))⟩] [0, 28, 29, 34])
            (.cond (.t 34)
            (.seq
            (.reg 12 [⟨(some 2), none, (.q (.mov (.c (.bool false))))⟩] [2])
            .ret)
            .skip))))
          (.reg 13 [⟨(some 35), none, (.q (.bin .add (.t 29) (.c (.int .i64 1))))⟩, ⟨(some 29), none, (.q (.mov (.t 35)))⟩] [0, 28, 29])))))))
    (.seq
     (.reg 14 [⟨(some 2), none, (.q (.mov (.c (.bool true))))⟩] [2])
     .ret)))))
theorem fok42 : FOK Tryd.prog 42 (36, ic42, [(.t 2)]) := .mk (pf := []) (an := [(0, [0]), (1, [0, 14]), (2, [2]), (3, [0, 16]), (4, [0, 16, 17, 18]), (5, [0, 4, 16]), (6, [0, 16, 27]), (7, [2]), (8, [0, 28, 29]), (9, [0, 28, 29, 30]), (10, [0, 6, 28, 29]), (11, [0, 28, 29, 34]), (12, [2]), (13, [0, 28, 29]), (14, [2])]) (by kernel_rfl) (fnOK_of Tryd.func42 (by kernel_rfl) (by kernel_rfl) (by kernel_rfl))
/-- chandlery/dep.File -/
def ic43 : IC :=
(.seq
 (.reg 0 [⟨(some 2), none, (.q (.mov (.c (.bool false))))⟩] [0])
 (.seq
  (.reg 1 [⟨(some 3), none, (.q (.mov (.t 0)))⟩, ⟨(some 4), none, (.call 42 [(.t 3)])⟩, ⟨(some 5), none, (.q (.mov (.t 4)))⟩, ⟨(some 6), (some ⟨5, true⟩), (.q (.mov (.t 0)))⟩, ⟨(some 7), (some ⟨5, true⟩), (.call 57 [(.t 6), (.c (.str [47]))])⟩, ⟨(some 8), none, (.q (.pick (.t 5) (.t 7) (.c (.bool false))))⟩, ⟨(some 2), none, (.q (.mov (.t 8)))⟩] [2])
  .ret))
theorem fok43 : FOK Tryd.prog 43 (9, ic43, [(.t 2)]) := .mk (pf := []) (an := [(0, [0]), (1, [2])]) (by kernel_rfl) (fnOK_of Tryd.func43 (by kernel_rfl) (by kernel_rfl) (by kernel_rfl))
/-- chandlery/evr.May -/
def ic44 : IC :=
(.seq
 (.reg 0 [⟨(some 2), none, (.boxt (.t 0))⟩, ⟨(some 4), none, (.q (.mov (.c (.bool false))))⟩] [1, 2])
 (.seq
  (.reg 1 [⟨(some 5), none, (.q (.faddr 0 (.t 2)))⟩, ⟨(some 6), none, (.q (.load none (.t 5)))⟩, ⟨(some 7), none, (.q (.bin .geq (.t 6) (.c (.int .i64 0))))⟩, ⟨(some 8), none, (.q (.mov (.t 7)))⟩, ⟨(some 9), (some ⟨8, true⟩), (.q (.faddr 0 (.t 2)))⟩, ⟨(some 10), (some ⟨8, true⟩), (.q (.load none (.t 9)))⟩, ⟨(some 11), (some ⟨8, true⟩), (.q (.bin .leq (.t 10) (.c (.int .i64 2147483647))))⟩, ⟨(some 12), none, (.q (.pick (.t 8) (.t 11) (.c (.bool false))))⟩, ⟨(some 13), none, (.q (.mov (.t 12)))⟩, ⟨(some 14), (some ⟨13, true⟩), (.q (.faddr 1 (.t 2)))⟩, ⟨(some 15), (some ⟨13, true⟩), (.q (.load none (.t 14)))⟩, ⟨(some 16), (some ⟨13, true⟩), (.call 58 [(.t 15)])⟩, ⟨(some 17), none, (.q (.pick (.t 13) (.t 16) (.c (.bool false))))⟩, ⟨(some 18), none, (.q (.mov (.t 17)))⟩, ⟨(some 19), (some ⟨18, true⟩), (.q (.faddr 2 (.t 2)))⟩, ⟨(some 20), (some ⟨18, true⟩), (.q (.load none (.t 19)))⟩, ⟨(some 21), (some ⟨18, true⟩), (.call 58 [(.t 20)])⟩, ⟨(some 22), (some ⟨18, true⟩), (.q (.mov (.t 21)))⟩, ⟨(some 23), (some ⟨22, false⟩), (.q (.mov (.t 1)))⟩, ⟨(some 24), (some ⟨22, false⟩), (.q (.mov (.t 23)))⟩, ⟨(some 25), (some ⟨24, true⟩), (.q (.faddr 2 (.t 2)))⟩, ⟨(some 26), (some ⟨24, true⟩), (.q (.load none (.t 25)))⟩, ⟨(some 27), (some ⟨24, true⟩), (.q (.bin .eql (.t 26) (.c (.str []))))⟩, ⟨(some 28), (some ⟨22, false⟩), (.q (.pick (.t 24) (.t 27) (.c (.bool false))))⟩, ⟨(some 29), (some ⟨18, true⟩), (.q (.pick (.t 22) (.c (.bool true)) (.t 28)))⟩, ⟨(some 30), none, (.q (.pick (.t 18) (.t 29) (.c (.bool false))))⟩, ⟨(some 4), none, (.q (.mov (.t 30)))⟩] [4])
  .ret))
theorem fok44 : FOK Tryd.prog 44 (31, ic44, [(.t 4)]) := .mk (pf := [1000002]) (an := [(0, [1, 2]), (1, [4])]) (by kernel_rfl) (fnOK_of Tryd.func44 (by kernel_rfl) (by kernel_rfl) (by kernel_rfl))
/-- chandlery/arch.Name -/
def ic45 : IC :=
(.seq
 (.reg 0 [⟨(some 2), none, (.q (.mov (.c (.str []))))⟩] [0])
 (.seq
  (.seq
   (.reg 1 [⟨(some 3), none, (.q (.mov (.t 0)))⟩, ⟨(some 4), none, (.call 59 [(.t 3)])⟩, ⟨(some 5), none, (.q (.not (.t 4)))⟩] [0, 5])
   (.cond (.t 5)
    (.seq
     (.reg 2 [⟨(some 2), none, (.q (.mov (.c (.str []))))⟩] [2])
     .ret)
    .skip))
  (.seq
   (.reg 3 [⟨(some 6), none, (.call 60 [])⟩, ⟨(some 7), none, (.q (.mov (.t 0)))⟩, ⟨(some 8), none, (.q (.idx none 5 1 (.t 6) (.t 7)))⟩, ⟨(some 2), none, (.q (.mov (.t 8)))⟩] [2])
   .ret)))
theorem fok45 : FOK Tryd.prog 45 (9, ic45, [(.t 2)]) := .mk (pf := []) (an := [(0, [0]), (1, [0, 5]), (2, [2]), (3, [2])]) (by kernel_rfl) (fnOK_of Tryd.func45 (by kernel_rfl) (by kernel_rfl) (by kernel_rfl))
/-- chandlery/pkg.every[chandlery/api.Dep] -/
def ic46 : IC :=
(.seq
 (.reg 0 [⟨(some 5), none, (.boxt (.t 2))⟩, ⟨(some 6), none, (.q (.mov (.c (.bool false))))⟩] [0, 1, 5])
 (.seq
  (.reg 1 [⟨(some 7), none, (.q (.mov (.t 0)))⟩, ⟨(some 8), none, (.q (.len 0 (.t 7)))⟩, ⟨(some 9), none, (.q (.mov (.t 1)))⟩, ⟨(some 10), none, (.q (.bin .leq (.t 8) (.t 9)))⟩, ⟨(some 11), none, (.q (.mov (.t 10)))⟩, ⟨(some 12), (some ⟨11, true⟩), (.q (.mov (.t 0)))⟩, ⟨(some 13), (some ⟨11, true⟩), (.q (.mkf 62 [] [(.t 5)]))⟩, ⟨(some 14), (some ⟨11, true⟩), (.call 61 [(.t 12), (.t 13)])⟩, ⟨(some 15), (some ⟨11, true⟩), (.q (.not (.t 14)))⟩, ⟨(some 16), none, (.q (.pick (.t 11) (.t 15) (.c (.bool false))))⟩, ⟨(some 6), none, (.q (.mov (.t 16)))⟩] [6])
  .ret))
theorem fok46 : FOK Tryd.prog 46 (17, ic46, [(.t 6)]) := .mk (pf := [1000005]) (an := [(0, [0, 1, 5]), (1, [6])]) (by kernel_rfl) (fnOK_of Tryd.func46 (by kernel_rfl) (by kernel_rfl) (by kernel_rfl))
/-- chandlery/dep.May -/
def ic47 : IC :=
(.seq
 (.reg 0 [⟨(some 1), none, (.boxt (.t 0))⟩, ⟨(some 2), none, (.q (.mov (.c (.bool false))))⟩] [1])
 (.seq
  (.block 0
   (.seq
    (.reg 1 [⟨(some 4), none, (.q (.faddr 0 (.t 1)))⟩, ⟨(some 5), none, (.q (.load none (.t 4)))⟩, ⟨(some 6), none, (.call 42 [(.t 5)])⟩, ⟨(some 7), none, (.q (.not (.t 6)))⟩, ⟨(some 8), none, (.q (.mov (.t 7)))⟩, ⟨(some 9), (some ⟨8, false⟩), (.q (.faddr 1 (.t 1)))⟩, ⟨(some 10), (some ⟨8, false⟩), (.q (.load none (.t 9)))⟩, ⟨(some 11), (some ⟨8, false⟩), (.call 63 [(.t 10)])⟩, ⟨(some 12), (some ⟨8, false⟩), (.q (.not (.t 11)))⟩, ⟨(some 13), none, (.q (.pick (.t 8) (.c (.bool true)) (.t 12)))⟩, ⟨(some 3), none, (.q (.mov (.t 13)))⟩] [1, 3])
    (.cond (.t 3)
     (.seq
      (.reg 2 [⟨(some 2), none, (.q (.mov (.c (.bool false))))⟩] [2])
      .ret)
     (.seq
      (.reg 3 [⟨(some 15), none, (.q (.faddr 1 (.t 1)))⟩, ⟨(some 16), none, (.q (.load none (.t 15)))⟩, ⟨(some 17), none, (.q (.bin .eql (.t 16) (.c (.int .u8 0))))⟩, ⟨(some 14), none, (.q (.mov (.t 17)))⟩] [1, 14])
      (.cond (.t 14)
       (.seq
        (.reg 4 [⟨(some 18), none, (.q (.faddr 2 (.t 1)))⟩, ⟨(some 19), none, (.q (.load (some 3) (.t 18)))⟩, ⟨(some 20), none, (.q (.bld [(.int .i64 0), (.str []), (.str [])] []))⟩, ⟨(some 21), none, (.q (.eqs [1, 2, 2] true false (.t 19) (.t 20)))⟩, ⟨(some 2), none, (.q (.mov (.t 21)))⟩] [2])
        .ret)
       .skip)))))
  (.seq
   (.reg 5 [⟨(some 22), none, (.q (.faddr 0 (.t 1)))⟩, ⟨(some 23), none, (.q (.load none (.t 22)))⟩, ⟨(some 24), none, (.call 43 [(.t 23)])⟩, ⟨(some 25), none, (.q (.not (.t 24)))⟩, ⟨(some 26), none, (.q (.mov (.t 25)))⟩, ⟨(some 27), (some ⟨26, true⟩), (.q (.faddr 2 (.t 1)))⟩, ⟨(some 28), (some ⟨26, true⟩), (.q (.load (some 3) (.t 27)))⟩, ⟨(some 29), (some ⟨26, true⟩), (.call 44 [(.t 28), (.c (.bool true))])⟩, ⟨(some 30), none, (.q (.pick (.t 26) (.t 29) (.c (.bool false))))⟩, ⟨(some 2), none, (.q (.mov (.t 30)))⟩] [2])
   .ret)))
theorem fok47 : FOK Tryd.prog 47 (31, ic47, [(.t 2)]) := .mk (pf := [1000001]) (an := [(0, [1]), (1, [1, 3]), (2, [2]), (3, [1, 14]), (4, [2]), (5, [2])]) (by kernel_rfl) (fnOK_of Tryd.func47 (by kernel_rfl) (by kernel_rfl) (by kernel_rfl))
/-- chandlery/pkg.every[string] -/
def ic48 : IC :=
(.seq
 (.reg 0 [⟨(some 5), none, (.boxt (.t 2))⟩, ⟨(some 6), none, (.q (.mov (.c (.bool false))))⟩] [0, 1, 5])
 (.seq
  (.reg 1 [⟨(some 7), none, (.q (.mov (.t 0)))⟩, ⟨(some 8), none, (.q (.len 0 (.t 7)))⟩, ⟨(some 9), none, (.q (.mov (.t 1)))⟩, ⟨(some 10), none, (.q (.bin .leq (.t 8) (.t 9)))⟩, ⟨(some 11), none, (.q (.mov (.t 10)))⟩, ⟨(some 12), (some ⟨11, true⟩), (.q (.mov (.t 0)))⟩, ⟨(some 13), (some ⟨11, true⟩), (.q (.mkf 65 [] [(.t 5)]))⟩, ⟨(some 14), (some ⟨11, true⟩), (.call 64 [(.t 12), (.t 13)])⟩, ⟨(some 15), (some ⟨11, true⟩), (.q (.not (.t 14)))⟩, ⟨(some 16), none, (.q (.pick (.t 11) (.t 15) (.c (.bool false))))⟩, ⟨(some 6), none, (.q (.mov (.t 16)))⟩] [6])
  .ret))
theorem fok48 : FOK Tryd.prog 48 (17, ic48, [(.t 6)]) := .mk (pf := [1000005]) (an := [(0, [0, 1, 5]), (1, [6])]) (by kernel_rfl) (fnOK_of Tryd.func48 (by kernel_rfl) (by kernel_rfl) (by kernel_rfl))
/-- chandlery/pkg.lists -/
def ic49 : IC :=
(.seq
 (.reg 0 [⟨(some 1), none, (.boxt (.t 0))⟩, ⟨(some 2), none, (.q (.mov (.c .nilfunc)))⟩] [1])
 (.seq
  (.reg 1 [⟨(some 3), none, (.q (.mkf 66 [] [(.t 1)]))⟩, ⟨(some 2), none, (.q (.mov (.t 3)))⟩] [2])
  .ret))
theorem fok49 : FOK Tryd.prog 49 (4, ic49, [(.t 2)]) := .mk (pf := [1000001]) (an := [(0, [1]), (1, [2])]) (by kernel_rfl) (fnOK_of Tryd.func49 (by kernel_rfl) (by kernel_rfl) (by kernel_rfl))
/-- chandlery/pkg.every[chandlery/api.Rich] -/
def ic50 : IC :=
(.seq
 (.reg 0 [⟨(some 5), none, (.boxt (.t 2))⟩, ⟨(some 6), none, (.q (.mov (.c (.bool false))))⟩] [0, 1, 5])
 (.seq
  (.reg 1 [⟨(some 7), none, (.q (.mov (.t 0)))⟩, ⟨(some 8), none, (.q (.len 0 (.t 7)))⟩, ⟨(some 9), none, (.q (.mov (.t 1)))⟩, ⟨(some 10), none, (.q (.bin .leq (.t 8) (.t 9)))⟩, ⟨(some 11), none, (.q (.mov (.t 10)))⟩, ⟨(some 12), (some ⟨11, true⟩), (.q (.mov (.t 0)))⟩, ⟨(some 13), (some ⟨11, true⟩), (.q (.mkf 68 [] [(.t 5)]))⟩, ⟨(some 14), (some ⟨11, true⟩), (.call 67 [(.t 12), (.t 13)])⟩, ⟨(some 15), (some ⟨11, true⟩), (.q (.not (.t 14)))⟩, ⟨(some 16), none, (.q (.pick (.t 11) (.t 15) (.c (.bool false))))⟩, ⟨(some 6), none, (.q (.mov (.t 16)))⟩] [6])
  .ret))
theorem fok50 : FOK Tryd.prog 50 (17, ic50, [(.t 6)]) := .mk (pf := [1000005]) (an := [(0, [0, 1, 5]), (1, [6])]) (by kernel_rfl) (fnOK_of Tryd.func50 (by kernel_rfl) (by kernel_rfl) (by kernel_rfl))
/-- chandlery/pkg.May$1 -/
def ic51 : IC :=
(.seq
 (.reg 0 [⟨(some 2), none, (.boxt (.t 0))⟩, ⟨(some 3), none, (.q (.mov (.c (.bool false))))⟩] [1, 2])
 (.seq
  (.reg 1 [⟨(some 4), none, (.q (.load (some 7) (.t 2)))⟩, ⟨(some 5), none, (.q (.load none (.t 1)))⟩, ⟨(some 6), none, (.call 52 [(.t 4), (.t 5)])⟩, ⟨(some 7), none, (.q (.bin .eql (.t 6) (.c (.int .i64 0))))⟩, ⟨(some 3), none, (.q (.mov (.t 7)))⟩] [3])
  .ret))
theorem fok51 : FOK Tryd.prog 51 (8, ic51, [(.t 3)]) := .mk (pf := [1000002]) (an := [(0, [1, 2]), (1, [3])]) (by kernel_rfl) (fnOK_of Tryd.func51 (by kernel_rfl) (by kernel_rfl) (by kernel_rfl))
/-- chandlery/shape.May -/
def ic52 : IC :=
(.seq
 (.reg 0 [⟨(some 2), none, (.boxt (.t 0))⟩, ⟨(some 3), none, (.boxt (.t 1))⟩, ⟨(some 4), none, (.alloc [(.int .i64 0)])⟩] [2, 3, 4])
 (.seq
  (.block 0
   (.seq
    (.reg 1 [⟨(some 9), none, (.q (.load none (.t 3)))⟩, ⟨(some 10), none, (.q (.bin .lss (.t 9) (.c (.int .u8 1))))⟩, ⟨(some 11), none, (.q (.mov (.t 10)))⟩, ⟨(some 12), (some ⟨11, false⟩), (.q (.load none (.t 3)))⟩, ⟨(some 13), (some ⟨11, false⟩), (.q (.bin .gtr (.t 12) (.c (.int .u8 3))))⟩, ⟨(some 14), none, (.q (.pick (.t 11) (.c (.bool true)) (.t 13)))⟩, ⟨(some 8), none, (.q (.mov (.t 14)))⟩] [2, 3, 4, 8])
    (.cond (.t 8)
     (.seq
      (.reg 2 [⟨none, none, (.store 1 (.t 4) (.c (.int .i64 1)))⟩] [4])
      .ret)
     (.seq
      (.reg 3 [⟨(some 16), none, (.q (.load (some 7) (.t 2)))⟩, ⟨(some 17), none, (.call 69 [(.t 16)])⟩, ⟨(some 18), none, (.q (.bin .gtr (.t 17) (.c (.int .i64 24))))⟩, ⟨(some 15), none, (.q (.mov (.t 18)))⟩] [2, 3, 4, 15])
      (.cond (.t 15)
       (.seq
        (.reg 4 [⟨none, none, (.store 1 (.t 4) (.c (.int .i64 40)))⟩] [4])
        .ret)
       (.seq
        (.reg 5 [⟨(some 20), none, (.q (.load (some 7) (.t 2)))⟩, ⟨(some 21), none, (.call 70 [(.t 20)])⟩, ⟨(some 22), none, (.q (.bin .gtr (.t 21) (.c (.int .i64 8))))⟩, ⟨(some 19), none, (.q (.mov (.t 22)))⟩] [2, 3, 4, 19])
        (.cond (.t 19)
         (.seq
          (.reg 6 [⟨none, none, (.store 1 (.t 4) (.c (.int .i64 21)))⟩] [4])
          .ret)
         .skip)))))))
  (.seq
   (.seq
    (.reg 7 [⟨(some 23), none, (.q (.load (some 7) (.t 2)))⟩, ⟨(some 24), none, (.call 71 [(.t 23)])⟩] [3, 4, 24])
    (.block 1
     (.rfunc (.t 24) [25, 26]
      (.seq
       (.reg 8 [⟨(some 5), none, (.alloc [(.int .u8 0), (.str []), (.int .u8 0), (.int .i64 0), (.str []), (.str []), .nilslice])⟩, ⟨none, none, (.store 7 (.t 5) (.t 25))⟩] [3, 4, 5, 26])
       (.reg 9 [⟨(some 6), none, (.q (.mov (.t 26)))⟩] [3, 4, 5, 6]))
      (.block 2
       (.seq
        (.reg 10 [⟨(some 27), none, (.q (.faddr 0 (.t 5)))⟩, ⟨(some 28), none, (.q (.load none (.t 27)))⟩, ⟨(some 29), none, (.call 72 [(.t 28)])⟩, ⟨(some 7), none, (.alloc [(.int .i64 0), (.int .i64 0), (.bool false), (.int .u8 0)])⟩, ⟨none, none, (.store 4 (.t 7) (.t 29))⟩] [3, 4, 5, 6, 7])
        (.block 3
         (.seq
          (.seq
           (.reg 11 [⟨(some 31), none, (.q (.faddr 3 (.t 7)))⟩, ⟨(some 32), none, (.q (.load none (.t 31)))⟩, ⟨(some 33), none, (.q (.load none (.t 3)))⟩, ⟨(some 34), none, (.q (.bin .lss (.t 32) (.t 33)))⟩, ⟨(some 30), none, (.q (.mov (.t 34)))⟩] [4, 5, 6, 7, 30])
           (.cond (.t 30)
            .skip
            (.seq
            (.reg 12 [⟨(some 35), none, (.q (.mov (.t 6)))⟩, ⟨(some 36), none, (.q (.mov (.t 35)))⟩, ⟨(some 37), (some ⟨36, true⟩), (.q (.faddr 2 (.t 7)))⟩, ⟨(some 38), (some ⟨36, true⟩), (.q (.load none (.t 37)))⟩, ⟨(some 39), (some ⟨36, true⟩), (.q (.not (.t 38)))⟩, ⟨(some 40), none, (.q (.pick (.t 36) (.t 39) (.c (.bool false))))⟩, ⟨(some 30), none, (.q (.mov (.t 40)))⟩] [4, 5, 7, 30])
            (.cond (.t 30)
            .skip
            (.seq
            (.reg 13 [⟨(some 41), none, (.q (.faddr 6 (.t 5)))⟩, ⟨(some 42), none, (.q (.load none (.t 41)))⟩, ⟨(some 43), none, (.q (.len 0 (.t 42)))⟩, ⟨(some 44), none, (.q (.faddr 0 (.t 7)))⟩, ⟨(some 45), none, (.q (.load none (.t 44)))⟩, ⟨(some 46), none, (.q (.bin .lss (.t 43) (.t 45)))⟩, ⟨(some 30), none, (.q (.mov (.t 46)))⟩] [4, 5, 7, 30])
            (.cond (.t 30)
            .skip
            (.reg 14 [⟨(some 47), none, (.q (.faddr 6 (.t 5)))⟩, ⟨(some 48), none, (.q (.load none (.t 47)))⟩, ⟨(some 49), none, (.q (.len 0 (.t 48)))⟩, ⟨(some 50), none, (.q (.faddr 1 (.t 7)))⟩, ⟨(some 51), none, (.q (.load none (.t 50)))⟩, ⟨(some 52), none, (.q (.bin .gtr (.t 49) (.t 51)))⟩, ⟨(some 30), none, (.q (.mov (.t 52)))⟩] [4, 5, 30])))))))
          (.cond (.t 30)
           (.seq
            (.reg 15 [⟨none, none, (.store 1 (.t 4) (.c (.int .i64 4)))⟩] [])
            .ret)
           (.seq
            (.seq
            (.reg 16 [⟨(some 54), none, (.q (.faddr 0 (.t 5)))⟩, ⟨(some 55), none, (.q (.load none (.t 54)))⟩, ⟨(some 56), none, (.q (.bin .eql (.t 55) (.c (.int .u8 1))))⟩, ⟨(some 57), none, (.q (.mov (.t 56)))⟩, ⟨(some 58), (some ⟨57, true⟩), (.q (.faddr 1 (.t 5)))⟩, ⟨(some 59), (some ⟨57, true⟩), (.q (.load (some 5) (.t 58)))⟩, ⟨(some 60), (some ⟨57, true⟩), (.call 47 [(.t 59)])⟩, ⟨(some 61), (some ⟨57, true⟩), (.q (.not (.t 60)))⟩, ⟨(some 62), none, (.q (.pick (.t 57) (.t 61) (.c (.bool false))))⟩, ⟨(some 53), none, (.q (.mov (.t 62)))⟩] [4, 5, 53])
            (.cond (.t 53)
            .skip
            (.reg 17 [⟨(some 63), none, (.q (.faddr 0 (.t 5)))⟩, ⟨(some 64), none, (.q (.load none (.t 63)))⟩, ⟨(some 65), none, (.q (.bin .neq (.t 64) (.c (.int .u8 1))))⟩, ⟨(some 66), none, (.q (.mov (.t 65)))⟩, ⟨(some 67), (some ⟨66, true⟩), (.q (.faddr 1 (.t 5)))⟩, ⟨(some 68), (some ⟨66, true⟩), (.q (.load (some 5) (.t 67)))⟩, ⟨(some 69), (some ⟨66, true⟩), (.q (.bld [(.str []), (.int .u8 0), (.int .i64 0), (.str []), (.str [])] []))⟩, ⟨(some 70), (some ⟨66, true⟩), (.q (.eqs [2, 1, 1, 2, 2] true true (.t 68) (.t 69)))⟩, ⟨(some 71), none, (.q (.pick (.t 66) (.t 70) (.c (.bool false))))⟩, ⟨(some 53), none, (.q (.mov (.t 71)))⟩] [4, 53])))
            (.cond (.t 53)
            (.seq
            (.reg 18 [⟨none, none, (.store 1 (.t 4) (.c (.int .i64 4)))⟩] [])
            .ret)
            .skip))))))))))
   (.seq
    (.reg 19 [⟨none, none, (.store 1 (.t 4) (.c (.int .i64 0)))⟩] [4])
    .ret))))
theorem fok52 : FOK Tryd.prog 52 (72, ic52, [(.cell none 4)]) := .mk (pf := [1000002, 1000003]) (an := [(0, [2, 3, 4]), (1, [2, 3, 4, 8]), (2, [4]), (3, [2, 3, 4, 15]), (4, [4]), (5, [2, 3, 4, 19]), (6, [4]), (7, [3, 4, 24]), (8, [3, 4, 5, 26]), (9, [3, 4, 5, 6]), (10, [3, 4, 5, 6, 7]), (11, [4, 5, 6, 7, 30]), (12, [4, 5, 7, 30]), (13, [4, 5, 7, 30]), (14, [4, 5, 30]), (16, [4, 5, 53]), (17, [4, 53]), (19, [4])]) (by kernel_rfl) (fnOK_of Tryd.func52 (by kernel_rfl) (by kernel_rfl) (by kernel_rfl))
/-- slices.AppendSeq[[]string,string] -/
def ic53 : IC :=
(.seq
 (.reg 0 [⟨(some 2), none, (.box (.t 0))⟩, ⟨(some 4), none, (.q (.mov (.c .nilslice)))⟩] [1, 2, 4])
 (.seq
  (.seq
   (.reg 1 [⟨(some 6), none, (.q (.mov (.t 1)))⟩] [2, 4, 6])
   (.block 0
    (.rfunc (.t 6) [7]
     (.reg 2 [⟨(some 5), none, (.q (.mov (.t 7)))⟩] [2, 5])
     (.block 1
      (.reg 3 [⟨(some 8), none, (.q (.load none (.t 2)))⟩, ⟨(some 9), none, (.q (.mov (.t 5)))⟩, ⟨(some 10), none, (.bslt 1 1 [(.str [])] [⟨0, ⟨1, (.t 9)⟩⟩])⟩, ⟨(some 11), none, (.app 1 (.t 8) (.t 10))⟩, ⟨none, none, (.store 1 (.t 2) (.t 11))⟩] [])))))
  (.seq
   (.reg 4 [⟨(some 12), none, (.q (.load none (.t 2)))⟩, ⟨(some 4), none, (.q (.mov (.t 12)))⟩] [4])
   .ret)))
theorem fok53 : FOK Tryd.prog 53 (13, ic53, [(.t 4)]) := .mk (pf := [1000010]) (an := [(0, [1, 2, 4]), (1, [2, 4, 6]), (2, [2, 5]), (4, [4])]) (by kernel_rfl) (fnOK_of Tryd.func53 (by kernel_rfl) (by kernel_rfl) (by kernel_rfl))
/-- slices.pdqsortOrdered[string] -/
def ic54 : IC :=
(.seq
 (.reg 0 [⟨(some 8), none, (.q (.mov (.c (.bool true))))⟩] [0, 1, 2, 3, 8])
 (.seq
  (.reg 1 [⟨(some 9), none, (.q (.mov (.c (.bool true))))⟩] [0, 1, 2, 3, 8, 9])
  (.block 0
   (.loop
    (.block 1
     (.seq
      (.reg 2 [⟨(some 19), none, (.q (.mov (.t 2)))⟩, ⟨(some 20), none, (.q (.mov (.t 1)))⟩, ⟨(some 21), none, (.q (.bin .sub (.t 19) (.t 20)))⟩, ⟨(some 10), none, (.q (.mov (.t 21)))⟩] [0, 1, 2, 3, 8, 9, 10])
      (.seq
       (.seq
        (.reg 3 [⟨(some 22), none, (.q (.mov (.t 10)))⟩, ⟨(some 23), none, (.q (.bin .leq (.t 22) (.c (.int .i64 12))))⟩] [0, 1, 2, 3, 8, 9, 10, 23])
        (.cond (.t 23)
         (.seq
          (.reg 4 [⟨(some 24), none, (.q (.mov (.t 0)))⟩, ⟨(some 25), none, (.q (.mov (.t 1)))⟩, ⟨(some 26), none, (.q (.mov (.t 2)))⟩, ⟨(some 27), none, (.call 73 [(.t 24), (.t 25), (.t 26)])⟩] [])
          .ret)
         .skip))
       (.seq
        (.seq
         (.reg 5 [⟨(some 28), none, (.q (.mov (.t 3)))⟩, ⟨(some 29), none, (.q (.bin .eql (.t 28) (.c (.int .i64 0))))⟩] [0, 1, 2, 3, 8, 9, 10, 29])
         (.cond (.t 29)
          (.seq
           (.reg 6 [⟨(some 30), none, (.q (.mov (.t 0)))⟩, ⟨(some 31), none, (.q (.mov (.t 1)))⟩, ⟨(some 32), none, (.q (.mov (.t 2)))⟩, ⟨(some 33), none, (.call 74 [(.t 30), (.t 31), (.t 32)])⟩] [])
           .ret)
          .skip))
        (.seq
         (.seq
          (.reg 7 [⟨(some 34), none, (.q (.mov (.t 8)))⟩, ⟨(some 35), none, (.q (.not (.t 34)))⟩] [0, 1, 2, 3, 8, 9, 10, 35])
          (.cond (.t 35)
           (.seq
            (.reg 8 [⟨(some 36), none, (.q (.mov (.t 0)))⟩, ⟨(some 37), none, (.q (.mov (.t 1)))⟩, ⟨(some 38), none, (.q (.mov (.t 2)))⟩, ⟨(some 39), none, (.call 75 [(.t 36), (.t 37), (.t 38)])⟩] [0, 1, 2, 3, 8, 9, 10])
            (.reg 9 [⟨(some 40), none, (.q (.mov (.t 3)))⟩, ⟨(some 41), none, (.q (.bin .sub (.t 40) (.c (.int .i64 1))))⟩, ⟨(some 3), none, (.q (.mov (.t 41)))⟩] [0, 1, 2, 3, 8, 9, 10]))
           .skip))
         (.seq
          (.reg 10 [⟨(some 43), none, (.q (.mov (.t 0)))⟩, ⟨(some 44), none, (.q (.mov (.t 1)))⟩, ⟨(some 45), none, (.q (.mov (.t 2)))⟩, ⟨(some 46), none, (.call 76 [(.t 43), (.t 44), (.t 45)])⟩, ⟨(some 42), none, (.q (.mov (.t 46)))⟩, ⟨(some 47), none, (.q (.ext 0 (.t 42)))⟩, ⟨(some 48), none, (.q (.ext 1 (.t 42)))⟩, ⟨(some 11), none, (.q (.mov (.t 47)))⟩, ⟨(some 12), none, (.q (.mov (.t 48)))⟩] [0, 1, 2, 3, 8, 9, 10, 11, 12])
          (.seq
           (.seq
            (.reg 11 [⟨(some 49), none, (.q (.mov (.t 12)))⟩, ⟨(some 50), none, (.q (.bin .eql (.t 49) (.c (.int .i64 2))))⟩] [0, 1, 2, 3, 8, 9, 10, 11, 12, 50])
            (.cond (.t 50)
            (.seq
            (.reg 12 [⟨(some 51), none, (.q (.mov (.t 0)))⟩, ⟨(some 52), none, (.q (.mov (.t 1)))⟩, ⟨(some 53), none, (.q (.mov (.t 2)))⟩, ⟨(some 54), none, (.call 77 [(.t 51), (.t 52), (.t 53)])⟩] [0, 1, 2, 3, 8, 9, 10, 11])
            (.seq
            (.reg 13 [⟨(some 55), none, (.q (.mov (.t 2)))⟩, ⟨(some 56), none, (.q (.bin .sub (.t 55) (.c (.int .i64 1))))⟩, ⟨(some 57), none, (.q (.mov (.t 11)))⟩, ⟨(some 58), none, (.q (.mov (.t 1)))⟩, ⟨(some 59), none, (.q (.bin .sub (.t 57) (.t 58)))⟩, ⟨(some 60), none, (.q (.bin .sub (.t 56) (.t 59)))⟩, ⟨(some 11), none, (.q (.mov (.t 60)))⟩] [0, 1, 2, 3, 8, 9, 10, 11])
            (.reg 14 [⟨(some 12), none, (.q (.mov (.c (.int .i64 1))))⟩] [0, 1, 2, 3, 8, 9, 10, 11, 12])))
            .skip))
           (.seq
            (.seq
            (.reg 15 [⟨(some 61), none, (.q (.mov (.t 8)))⟩, ⟨(some 62), none, (.q (.mov (.t 61)))⟩, ⟨(some 63), (some ⟨62, true⟩), (.q (.mov (.t 9)))⟩, ⟨(some 64), none, (.q (.pick (.t 62) (.t 63) (.c (.bool false))))⟩, ⟨(some 65), none, (.q (.mov (.t 64)))⟩, ⟨(some 66), (some ⟨65, true⟩), (.q (.mov (.t 12)))⟩, ⟨(some 67), (some ⟨65, true⟩), (.q (.bin .eql (.t 66) (.c (.int .i64 1))))⟩, ⟨(some 68), none, (.q (.pick (.t 65) (.t 67) (.c (.bool false))))⟩] [0, 1, 2, 3, 8, 9, 10, 11, 68])
            (.cond (.t 68)
            (.seq
            (.reg 16 [⟨(some 69), none, (.q (.mov (.t 0)))⟩, ⟨(some 70), none, (.q (.mov (.t 1)))⟩, ⟨(some 71), none, (.q (.mov (.t 2)))⟩, ⟨(some 72), none, (.call 78 [(.t 69), (.t 70), (.t 71)])⟩] [0, 1, 2, 3, 8, 9, 10, 11, 72])
            (.cond (.t 72)
            .ret
            .skip))
            .skip))
            (.seq
            (.seq
            (.dreg 17 [⟨(some 73), none, (.q (.mov (.t 1)))⟩, ⟨(some 74), none, (.q (.bin .gtr (.t 73) (.c (.int .i64 0))))⟩, ⟨(some 75), none, (.q (.mov (.t 74)))⟩, ⟨(some 76), (some ⟨75, true⟩), (.q (.mov (.t 0)))⟩, ⟨(some 77), (some ⟨75, true⟩), (.q (.mov (.t 1)))⟩, ⟨(some 78), (some ⟨75, true⟩), (.q (.bin .sub (.t 77) (.c (.int .i64 1))))⟩, ⟨(some 79), (some ⟨75, true⟩), (.q (.iaddr 1 (.t 76) (.t 78)))⟩, ⟨(some 80), (some ⟨75, true⟩), (.q (.load none (.t 79)))⟩, ⟨(some 81), (some ⟨75, true⟩), (.q (.mov (.t 0)))⟩, ⟨(some 82), (some ⟨75, true⟩), (.q (.mov (.t 11)))⟩, ⟨(some 83), (some ⟨75, true⟩), (.q (.iaddr 1 (.t 81) (.t 82)))⟩, ⟨(some 84), (some ⟨75, true⟩), (.q (.load none (.t 83)))⟩, ⟨(some 85), (some ⟨75, true⟩), (.call 79 [(.t 80), (.t 84)])⟩, ⟨(some 86), (some ⟨75, true⟩), (.q (.not (.t 85)))⟩, ⟨(some 87), none, (.q (.pick (.t 75) (.t 86) (.c (.bool false))))⟩] false [0, 1, 2, 3, 8, 9, 10, 11, 87])
            (.cond (.t 87)
            (.seq
            (.reg 18 [⟨(some 88), none, (.q (.mov (.t 0)))⟩, ⟨(some 89), none, (.q (.mov (.t 1)))⟩, ⟨(some 90), none, (.q (.mov (.t 2)))⟩, ⟨(some 91), none, (.q (.mov (.t 11)))⟩, ⟨(some 92), none, (.call 80 [(.t 88), (.t 89), (.t 90), (.t 91)])⟩, ⟨(some 13), none, (.q (.mov (.t 92)))⟩] [0, 2, 3, 8, 9, 13])
            (.seq
            (.reg 19 [⟨(some 93), none, (.q (.mov (.t 13)))⟩, ⟨(some 1), none, (.q (.mov (.t 93)))⟩] [0, 1, 2, 3, 8, 9])
            (.exit 1)))
            .skip))
            (.seq
            (.reg 20 [⟨(some 95), none, (.q (.mov (.t 0)))⟩, ⟨(some 96), none, (.q (.mov (.t 1)))⟩, ⟨(some 97), none, (.q (.mov (.t 2)))⟩, ⟨(some 98), none, (.q (.mov (.t 11)))⟩, ⟨(some 99), none, (.call 81 [(.t 95), (.t 96), (.t 97), (.t 98)])⟩, ⟨(some 94), none, (.q (.mov (.t 99)))⟩, ⟨(some 100), none, (.q (.ext 0 (.t 94)))⟩, ⟨(some 101), none, (.q (.ext 1 (.t 94)))⟩, ⟨(some 14), none, (.q (.mov (.t 100)))⟩, ⟨(some 15), none, (.q (.mov (.t 101)))⟩] [0, 1, 2, 3, 10, 14, 15])
            (.seq
            (.reg 21 [⟨(some 102), none, (.q (.mov (.t 15)))⟩, ⟨(some 9), none, (.q (.mov (.t 102)))⟩] [0, 1, 2, 3, 9, 10, 14])
            (.seq
            (.reg 22 [⟨(some 103), none, (.q (.mov (.t 14)))⟩, ⟨(some 104), none, (.q (.mov (.t 1)))⟩, ⟨(some 105), none, (.q (.bin .sub (.t 103) (.t 104)))⟩, ⟨(some 106), none, (.q (.mov (.t 2)))⟩, ⟨(some 107), none, (.q (.mov (.t 14)))⟩, ⟨(some 108), none, (.q (.bin .sub (.t 106) (.t 107)))⟩, ⟨(some 16), none, (.q (.mov (.t 105)))⟩, ⟨(some 17), none, (.q (.mov (.t 108)))⟩] [0, 1, 2, 3, 9, 10, 14, 16, 17])
            (.seq
            (.reg 23 [⟨(some 109), none, (.q (.mov (.t 10)))⟩, ⟨(some 110), none, (.q (.bin .quo (.t 109) (.c (.int .i64 8))))⟩, ⟨(some 18), none, (.q (.mov (.t 110)))⟩] [0, 1, 2, 3, 9, 14, 16, 17, 18])
            (.seq
            (.reg 24 [⟨(some 111), none, (.q (.mov (.t 16)))⟩, ⟨(some 112), none, (.q (.mov (.t 17)))⟩, ⟨(some 113), none, (.q (.bin .lss (.t 111) (.t 112)))⟩] [0, 1, 2, 3, 9, 14, 16, 17, 18, 113])
            (.cond (.t 113)
            (.seq
            (.reg 25 [⟨(some 114), none, (.q (.mov (.t 16)))⟩, ⟨(some 115), none, (.q (.mov (.t 18)))⟩, ⟨(some 116), none, (.q (.bin .geq (.t 114) (.t 115)))⟩, ⟨(some 8), none, (.q (.mov (.t 116)))⟩] [0, 1, 2, 3, 8, 9, 14])
            (.seq
            (.reg 26 [⟨(some 117), none, (.q (.mov (.t 0)))⟩, ⟨(some 118), none, (.q (.mov (.t 1)))⟩, ⟨(some 119), none, (.q (.mov (.t 14)))⟩, ⟨(some 120), none, (.q (.mov (.t 3)))⟩, ⟨(some 121), none, (.call 54 [(.t 117), (.t 118), (.t 119), (.t 120)])⟩] [0, 2, 3, 8, 9, 14])
            (.reg 27 [⟨(some 122), none, (.q (.mov (.t 14)))⟩, ⟨(some 123), none, (.q (.bin .add (.t 122) (.c (.int .i64 1))))⟩, ⟨(some 1), none, (.q (.mov (.t 123)))⟩] [0, 1, 2, 3, 8, 9])))
            (.seq
            (.reg 28 [⟨(some 124), none, (.q (.mov (.t 17)))⟩, ⟨(some 125), none, (.q (.mov (.t 18)))⟩, ⟨(some 126), none, (.q (.bin .geq (.t 124) (.t 125)))⟩, ⟨(some 8), none, (.q (.mov (.t 126)))⟩] [0, 1, 2, 3, 8, 9, 14])
            (.seq
            (.reg 29 [⟨(some 127), none, (.q (.mov (.t 0)))⟩, ⟨(some 128), none, (.q (.mov (.t 14)))⟩, ⟨(some 129), none, (.q (.bin .add (.t 128) (.c (.int .i64 1))))⟩, ⟨(some 130), none, (.q (.mov (.t 2)))⟩, ⟨(some 131), none, (.q (.mov (.t 3)))⟩, ⟨(some 132), none, (.call 54 [(.t 127), (.t 129), (.t 130), (.t 131)])⟩] [0, 1, 3, 8, 9, 14])
            (.reg 30 [⟨(some 133), none, (.q (.mov (.t 14)))⟩, ⟨(some 2), none, (.q (.mov (.t 133)))⟩] [0, 1, 2, 3, 8, 9]))))))))))))))))))))))
theorem fok54 : FOK Tryd.prog 54 (134, ic54, []) := .mk (pf := []) (an := [(0, [0, 1, 2, 3, 8]), (1, [0, 1, 2, 3, 8, 9]), (2, [0, 1, 2, 3, 8, 9, 10]), (3, [0, 1, 2, 3, 8, 9, 10, 23]), (5, [0, 1, 2, 3, 8, 9, 10, 29]), (7, [0, 1, 2, 3, 8, 9, 10, 35]), (8, [0, 1, 2, 3, 8, 9, 10]), (9, [0, 1, 2, 3, 8, 9, 10]), (10, [0, 1, 2, 3, 8, 9, 10, 11, 12]), (11, [0, 1, 2, 3, 8, 9, 10, 11, 12, 50]), (12, [0, 1, 2, 3, 8, 9, 10, 11]), (13, [0, 1, 2, 3, 8, 9, 10, 11]), (14, [0, 1, 2, 3, 8, 9, 10, 11, 12]), (15, [0, 1, 2, 3, 8, 9, 10, 11, 68]), (16, [0, 1, 2, 3, 8, 9, 10, 11, 72]), (17, [0, 1, 2, 3, 8, 9, 10, 11, 87]), (18, [0, 2, 3, 8, 9, 13]), (19, [0, 1, 2, 3, 8, 9]), (20, [0, 1, 2, 3, 10, 14, 15]), (21, [0, 1, 2, 3, 9, 10, 14]), (22, [0, 1, 2, 3, 9, 10, 14, 16, 17]), (23, [0, 1, 2, 3, 9, 14, 16, 17, 18]), (24, [0, 1, 2, 3, 9, 14, 16, 17, 18, 113]), (25, [0, 1, 2, 3, 8, 9, 14]), (26, [0, 2, 3, 8, 9, 14]), (27, [0, 1, 2, 3, 8, 9]), (28, [0, 1, 2, 3, 8, 9, 14]), (29, [0, 1, 3, 8, 9, 14]), (30, [0, 1, 2, 3, 8, 9])]) (by kernel_rfl) (fnOK_of Tryd.func54 (by kernel_rfl) (by kernel_rfl) (by kernel_rfl))
/-- math/bits.Len -/
def ic55 : IC :=
(.seq
 (.reg 0 [⟨(some 2), none, (.q (.mov (.c (.int .i64 0))))⟩] [0])
 (.seq
  (.cond (.c (.bool false))
   (.seq
    (.reg 1 [⟨(some 3), none, (.q (.mov (.t 0)))⟩, ⟨(some 4), none, (.q (.conv .u32 (.t 3)))⟩, ⟨(some 5), none, (.call 82 [(.t 4)])⟩, ⟨(some 2), none, (.q (.mov (.t 5)))⟩] [2])
    .ret)
   .skip)
  (.seq
   (.reg 2 [⟨(some 6), none, (.q (.mov (.t 0)))⟩, ⟨(some 7), none, (.call 83 [(.t 6)])⟩, ⟨(some 2), none, (.q (.mov (.t 7)))⟩] [2])
   .ret)))
theorem fok55 : FOK Tryd.prog 55 (8, ic55, [(.t 2)]) := .mk (pf := []) (an := [(0, [0]), (1, [2]), (2, [2])]) (by kernel_rfl) (fnOK_of Tryd.func55 (by kernel_rfl) (by kernel_rfl) (by kernel_rfl))
/-- strings.IndexByte -/
def ic56 : IC :=
(.seq
 (.reg 0 [⟨(some 4), none, (.q (.mov (.c (.int .i64 0))))⟩] [0, 1])
 (.seq
  (.reg 1 [⟨(some 5), none, (.q (.mov (.t 0)))⟩, ⟨(some 6), none, (.q (.mov (.t 1)))⟩, ⟨(some 7), none, (.call 84 [(.t 5), (.t 6)])⟩, ⟨(some 4), none, (.q (.mov (.t 7)))⟩] [4])
  .ret))
theorem fok56 : FOK Tryd.prog 56 (8, ic56, [(.t 4)]) := .mk (pf := []) (an := [(0, [0, 1]), (1, [4])]) (by kernel_rfl) (fnOK_of Tryd.func56 (by kernel_rfl) (by kernel_rfl) (by kernel_rfl))
/-- strings.HasPrefix -/
def ic57 : IC :=
(.seq
 (.reg 0 [⟨(some 4), none, (.q (.mov (.c (.bool false))))⟩] [0, 1])
 (.seq
  (.reg 1 [⟨(some 5), none, (.q (.mov (.t 0)))⟩, ⟨(some 6), none, (.q (.mov (.t 1)))⟩, ⟨(some 7), none, (.call 85 [(.t 5), (.t 6)])⟩, ⟨(some 4), none, (.q (.mov (.t 7)))⟩] [4])
  .ret))
theorem fok57 : FOK Tryd.prog 57 (8, ic57, [(.t 4)]) := .mk (pf := []) (an := [(0, [0, 1]), (1, [4])]) (by kernel_rfl) (fnOK_of Tryd.func57 (by kernel_rfl) (by kernel_rfl) (by kernel_rfl))
/-- chandlery/evr.word -/
def ic58 : IC :=
(.seq
 (.reg 0 [⟨(some 2), none, (.q (.mov (.c (.bool false))))⟩] [0])
 (.seq
  (.seq
   (.reg 1 [⟨(some 5), none, (.q (.mov (.t 0)))⟩, ⟨(some 6), none, (.q (.bin .eql (.t 5) (.c (.str []))))⟩, ⟨(some 7), none, (.q (.mov (.t 6)))⟩, ⟨(some 8), (some ⟨7, false⟩), (.q (.mov (.t 0)))⟩, ⟨(some 9), (some ⟨7, false⟩), (.q (.len 1 (.t 8)))⟩, ⟨(some 10), (some ⟨7, false⟩), (.q (.bin .gtr (.t 9) (.c (.int .i64 64))))⟩, ⟨(some 11), none, (.q (.pick (.t 7) (.c (.bool true)) (.t 10)))⟩] [0, 11])
   (.cond (.t 11)
    (.seq
     (.reg 2 [⟨(some 2), none, (.q (.mov (.c (.bool false))))⟩] [2])
     .ret)
    .skip))
  (.seq
   (.seq
    (.reg 3 [⟨(some 12), none, (.q (.mov (.t 0)))⟩, ⟨(some 13), none, (.q (.len 1 (.t 12)))⟩, ⟨(some 14), none, (.q (.mov (.c (.int .i64 0))))⟩] [0, 13, 14])
    (.block 0
     (.loop
      (.seq
       (.reg 4 [⟨(some 15), none, (.q (.bin .lss (.t 14) (.t 13)))⟩] [0, 13, 14, 15])
       (.seq
        (.cond (.t 15)
         .skip
         (.exit 0))
        (.seq
         (.block 1
          (.seq
           (.reg 5 [⟨(some 16), none, (.q (.mov (.t 14)))⟩, ⟨(some 3), none, (.q (.mov (.t 16)))⟩] [0, 3, 13, 14])
           (.seq
            (.reg 6 [⟨(some 17), none, (.q (.mov (.t 0)))⟩, ⟨(some 18), none, (.q (.mov (.t 3)))⟩, ⟨(some 19), none, (.q (.istr (.t 17) (.t 18)))⟩, ⟨(some 4), none, (.q (.mov (.t 19)))⟩] [0, 4, 13, 14])
            (.block 2
            (.seq
            (.seq
            (.reg 8 [⟨(some 21), none, (.q (.mov (.t 4)))⟩, ⟨(some 22), none, (.q (.bin .geq (.t 21) (.c (.int .u8 97))))⟩, ⟨(some 23), none, (.q (.mov (.t 22)))⟩, ⟨(some 24), (some ⟨23, true⟩), (.q (.mov (.t 4)))⟩, ⟨(some 25), (some ⟨23, true⟩), (.q (.bin .leq (.t 24) (.c (.int .u8 122))))⟩, ⟨(some 26), none, (.q (.pick (.t 23) (.t 25) (.c (.bool false))))⟩, ⟨(some 20), none, (.q (.mov (.t 26)))⟩] [0, 4, 13, 14, 20])
            (.cond (.t 20)
            .skip
            (.seq
            (.reg 9 [⟨(some 27), none, (.q (.mov (.t 4)))⟩, ⟨(some 28), none, (.q (.bin .geq (.t 27) (.c (.int .u8 65))))⟩, ⟨(some 29), none, (.q (.mov (.t 28)))⟩, ⟨(some 30), (some ⟨29, true⟩), (.q (.mov (.t 4)))⟩, ⟨(some 31), (some ⟨29, true⟩), (.q (.bin .leq (.t 30) (.c (.int .u8 90))))⟩, ⟨(some 32), none, (.q (.pick (.t 29) (.t 31) (.c (.bool false))))⟩, ⟨(some 20), none, (.q (.mov (.t 32)))⟩] [0, 4, 13, 14, 20])
            (.cond (.t 20)
            .skip
            (.seq
            (.reg 10 [⟨(some 33), none, (.q (.mov (.t 4)))⟩, ⟨(some 34), none, (.q (.bin .geq (.t 33) (.c (.int .u8 48))))⟩, ⟨(some 35), none, (.q (.mov (.t 34)))⟩, ⟨(some 36), (some ⟨35, true⟩), (.q (.mov (.t 4)))⟩, ⟨(some 37), (some ⟨35, true⟩), (.q (.bin .leq (.t 36) (.c (.int .u8 57))))⟩, ⟨(some 38), none, (.q (.pick (.t 35) (.t 37) (.c (.bool false))))⟩, ⟨(some 20), none, (.q (.mov (.t 38)))⟩] [0, 4, 13, 14, 20])
            (.cond (.t 20)
            .skip
            (.reg 11 [⟨(some 39), none, (.q (.mov (.t 4)))⟩, ⟨(some 40), none, (.call 56 [(.c (.str [46, 95, 43, 126, 94])), (.t 39)])⟩, ⟨(some 41), none, (.q (.bin .geq (.t 40) (.c (.int .i64 0))))⟩, ⟨(some 20), none, (.q (.mov (.t 41)))⟩] [0, 13, 14, 20])))))))
            (.cond (.t 20)
            .skip
            (.seq
            (.reg 7 [⟨(some 2), none, (.q (.mov (.c (.bool false))))⟩] [2])
            .ret)))))))
         (.reg 12 [⟨(some 42), none, (.q (.bin .add (.t 14) (.c (.int .i64 1))))⟩, ⟨(some 14), none, (.q (.mov (.t 42)))⟩] [0, 13, 14])))))))
   (.seq
    (.reg 13 [⟨(some 2), none, (.q (.mov (.c (.bool true))))⟩] [2])
    .ret))))
theorem fok58 : FOK Tryd.prog 58 (43, ic58, [(.t 2)]) := .mk (pf := []) (an := [(0, [0]), (1, [0, 11]), (2, [2]), (3, [0, 13, 14]), (4, [0, 13, 14, 15]), (5, [0, 3, 13, 14]), (6, [0, 4, 13, 14]), (7, [2]), (8, [0, 4, 13, 14, 20]), (9, [0, 4, 13, 14, 20]), (10, [0, 4, 13, 14, 20]), (11, [0, 13, 14, 20]), (12, [0, 13, 14]), (13, [2])]) (by kernel_rfl) (fnOK_of Tryd.func58 (by kernel_rfl) (by kernel_rfl) (by kernel_rfl))
/-- chandlery/arch.is -/
def ic59 : IC :=
(.seq
 (.reg 0 [⟨(some 2), none, (.q (.mov (.c (.bool false))))⟩] [0])
 (.seq
  (.reg 1 [⟨(some 3), none, (.q (.mov (.t 0)))⟩, ⟨(some 4), none, (.q (.bin .geq (.t 3) (.c (.int .u8 1))))⟩, ⟨(some 5), none, (.q (.mov (.t 4)))⟩, ⟨(some 6), (some ⟨5, true⟩), (.q (.mov (.t 0)))⟩, ⟨(some 7), (some ⟨5, true⟩), (.q (.bin .leq (.t 6) (.c (.int .u8 4))))⟩, ⟨(some 8), none, (.q (.pick (.t 5) (.t 7) (.c (.bool false))))⟩, ⟨(some 2), none, (.q (.mov (.t 8)))⟩] [2])
  .ret))
theorem fok59 : FOK Tryd.prog 59 (9, ic59, [(.t 2)]) := .mk (pf := []) (an := [(0, [0]), (1, [2])]) (by kernel_rfl) (fnOK_of Tryd.func59 (by kernel_rfl) (by kernel_rfl) (by kernel_rfl))
/-- chandlery/arch.names -/
def ic60 : IC :=
(.seq
 (.reg 0 [⟨(some 0), none, (.alloc [(.str []), (.str []), (.str []), (.str []), (.str [])])⟩] [0])
 (.seq
  (.reg 1 [⟨(some 1), none, (.q (.bld [(.str []), (.str []), (.str []), (.str []), (.str [])] [⟨1, ⟨1, (.c (.str [110, 111, 97, 114, 99, 104]))⟩⟩, ⟨2, ⟨1, (.c (.str [120, 56, 54, 95, 54, 52]))⟩⟩, ⟨3, ⟨1, (.c (.str [105, 54, 56, 54]))⟩⟩, ⟨4, ⟨1, (.c (.str [97, 97, 114, 99, 104, 54, 52]))⟩⟩]))⟩, ⟨none, none, (.store 5 (.t 0) (.t 1))⟩] [0])
  .ret))
theorem fok60 : FOK Tryd.prog 60 (2, ic60, [(.cell (some 5) 0)]) := .mk (pf := []) (an := [(0, [0]), (1, [0])]) (by kernel_rfl) (fnOK_of Tryd.func60 (by kernel_rfl) (by kernel_rfl) (by kernel_rfl))
/-- slices.ContainsFunc[[]chandlery/api.Dep,chandlery/api.Dep] -/
def ic61 : IC :=
(.seq
 (.reg 0 [⟨(some 4), none, (.q (.mov (.c (.bool false))))⟩] [0, 1])
 (.seq
  (.reg 1 [⟨(some 5), none, (.q (.mov (.t 0)))⟩, ⟨(some 6), none, (.q (.mov (.t 1)))⟩, ⟨(some 7), none, (.call 86 [(.t 5), (.t 6)])⟩, ⟨(some 8), none, (.q (.bin .geq (.t 7) (.c (.int .i64 0))))⟩, ⟨(some 4), none, (.q (.mov (.t 8)))⟩] [4])
  .ret))
theorem fok61 : FOK Tryd.prog 61 (9, ic61, [(.t 4)]) := .mk (pf := []) (an := [(0, [0, 1]), (1, [4])]) (by kernel_rfl) (fnOK_of Tryd.func61 (by kernel_rfl) (by kernel_rfl) (by kernel_rfl))
/-- chandlery/pkg.every[chandlery/api.Dep]$1 -/
def ic62 : IC :=
(.seq
 (.reg 0 [⟨(some 2), none, (.boxt (.t 0))⟩, ⟨(some 3), none, (.q (.mov (.c (.bool false))))⟩] [1, 2])
 (.seq
  (.reg 1 [⟨(some 4), none, (.q (.load none (.t 1)))⟩, ⟨(some 5), none, (.q (.load (some 5) (.t 2)))⟩, ⟨(some 6), none, (.callv (.t 4) [(.t 5)])⟩, ⟨(some 7), none, (.q (.not (.t 6)))⟩, ⟨(some 3), none, (.q (.mov (.t 7)))⟩] [3])
  .ret))
theorem fok62 : FOK Tryd.prog 62 (8, ic62, [(.t 3)]) := .mk (pf := [1000002]) (an := [(0, [1, 2]), (1, [3])]) (by kernel_rfl) (fnOK_of Tryd.func62 (by kernel_rfl) (by kernel_rfl) (by kernel_rfl))
/-- chandlery/span.May -/
def ic63 : IC :=
(.seq
 (.reg 0 [⟨(some 2), none, (.q (.mov (.c (.bool false))))⟩] [0])
 (.seq
  (.reg 1 [⟨(some 3), none, (.q (.mov (.t 0)))⟩, ⟨(some 4), none, (.q (.bin .eql (.t 3) (.c (.int .u8 0))))⟩, ⟨(some 5), none, (.q (.mov (.t 4)))⟩, ⟨(some 6), (some ⟨5, false⟩), (.q (.mov (.t 0)))⟩, ⟨(some 7), (some ⟨5, false⟩), (.call 87 [(.t 6)])⟩, ⟨(some 8), (some ⟨5, false⟩), (.q (.bin .neq (.t 7) (.c (.str []))))⟩, ⟨(some 9), none, (.q (.pick (.t 5) (.c (.bool true)) (.t 8)))⟩, ⟨(some 2), none, (.q (.mov (.t 9)))⟩] [2])
  .ret))
theorem fok63 : FOK Tryd.prog 63 (10, ic63, [(.t 2)]) := .mk (pf := []) (an := [(0, [0]), (1, [2])]) (by kernel_rfl) (fnOK_of Tryd.func63 (by kernel_rfl) (by kernel_rfl) (by kernel_rfl))
/-- slices.ContainsFunc[[]string,string] -/
def ic64 : IC :=
(.seq
 (.reg 0 [⟨(some 4), none, (.q (.mov (.c (.bool false))))⟩] [0, 1])
 (.seq
  (.reg 1 [⟨(some 5), none, (.q (.mov (.t 0)))⟩, ⟨(some 6), none, (.q (.mov (.t 1)))⟩, ⟨(some 7), none, (.call 88 [(.t 5), (.t 6)])⟩, ⟨(some 8), none, (.q (.bin .geq (.t 7) (.c (.int .i64 0))))⟩, ⟨(some 4), none, (.q (.mov (.t 8)))⟩] [4])
  .ret))
theorem fok64 : FOK Tryd.prog 64 (9, ic64, [(.t 4)]) := .mk (pf := []) (an := [(0, [0, 1]), (1, [4])]) (by kernel_rfl) (fnOK_of Tryd.func64 (by kernel_rfl) (by kernel_rfl) (by kernel_rfl))
/-- chandlery/pkg.every[string]$1 -/
def ic65 : IC :=
(.seq
 (.reg 0 [⟨(some 3), none, (.q (.mov (.c (.bool false))))⟩] [0, 1])
 (.seq
  (.reg 1 [⟨(some 4), none, (.q (.load none (.t 1)))⟩, ⟨(some 5), none, (.q (.mov (.t 0)))⟩, ⟨(some 6), none, (.callv (.t 4) [(.t 5)])⟩, ⟨(some 7), none, (.q (.not (.t 6)))⟩, ⟨(some 3), none, (.q (.mov (.t 7)))⟩] [3])
  .ret))
theorem fok65 : FOK Tryd.prog 65 (8, ic65, [(.t 3)]) := .mk (pf := []) (an := [(0, [0, 1]), (1, [3])]) (by kernel_rfl) (fnOK_of Tryd.func65 (by kernel_rfl) (by kernel_rfl) (by kernel_rfl))
/-- chandlery/pkg.lists$1 -/
def ic66 : IC :=
(.reg 0 [⟨(some 3), none, (.q (.mov (.t 0)))⟩, ⟨(some 4), none, (.q (.faddr 7 (.t 1)))⟩, ⟨(some 5), none, (.q (.load none (.t 4)))⟩, ⟨(some 6), none, (.callv (.t 3) [(.c (.int .u8 1)), (.t 5)])⟩, ⟨(some 7), none, (.q (.mov (.t 6)))⟩, ⟨(some 8), (some ⟨7, true⟩), (.q (.mov (.t 0)))⟩, ⟨(some 9), (some ⟨7, true⟩), (.q (.faddr 8 (.t 1)))⟩, ⟨(some 10), (some ⟨7, true⟩), (.q (.load none (.t 9)))⟩, ⟨(some 11), (some ⟨7, true⟩), (.callv (.t 8) [(.c (.int .u8 2)), (.t 10)])⟩, ⟨(some 12), none, (.q (.pick (.t 7) (.t 11) (.c (.bool false))))⟩, ⟨(some 13), none, (.q (.mov (.t 12)))⟩, ⟨(some 14), (some ⟨13, true⟩), (.q (.mov (.t 0)))⟩, ⟨(some 15), (some ⟨13, true⟩), (.q (.faddr 10 (.t 1)))⟩, ⟨(some 16), (some ⟨13, true⟩), (.q (.load none (.t 15)))⟩, ⟨(some 17), (some ⟨13, true⟩), (.callv (.t 14) [(.c (.int .u8 1)), (.t 16)])⟩, ⟨(some 18), none, (.q (.pick (.t 13) (.t 17) (.c (.bool false))))⟩, ⟨(some 19), none, (.q (.mov (.t 18)))⟩, ⟨(some 20), (some ⟨19, true⟩), (.q (.mov (.t 0)))⟩, ⟨(some 21), (some ⟨19, true⟩), (.q (.faddr 11 (.t 1)))⟩, ⟨(some 22), (some ⟨19, true⟩), (.q (.load none (.t 21)))⟩, ⟨(some 23), (some ⟨19, true⟩), (.callv (.t 20) [(.c (.int .u8 3)), (.t 22)])⟩, ⟨(some 24), none, (.q (.pick (.t 19) (.t 23) (.c (.bool false))))⟩, ⟨(some 25), none, (.q (.mov (.t 24)))⟩, ⟨(some 26), (some ⟨25, true⟩), (.q (.mov (.t 0)))⟩, ⟨(some 27), (some ⟨25, true⟩), (.q (.faddr 12 (.t 1)))⟩, ⟨(some 28), (some ⟨25, true⟩), (.q (.load none (.t 27)))⟩, ⟨(some 29), (some ⟨25, true⟩), (.callv (.t 26) [(.c (.int .u8 1)), (.t 28)])⟩, ⟨(some 30), none, (.q (.pick (.t 25) (.t 29) (.c (.bool false))))⟩, ⟨(some 31), none, (.q (.mov (.t 30)))⟩, ⟨(some 32), (some ⟨31, true⟩), (.q (.mov (.t 0)))⟩, ⟨(some 33), (some ⟨31, true⟩), (.q (.faddr 13 (.t 1)))⟩, ⟨(some 34), (some ⟨31, true⟩), (.q (.load none (.t 33)))⟩, ⟨(some 35), (some ⟨31, true⟩), (.callv (.t 32) [(.c (.int .u8 3)), (.t 34)])⟩, ⟨(some 36), none, (.q (.pick (.t 31) (.t 35) (.c (.bool false))))⟩] [])
theorem fok66 : FOK Tryd.prog 66 (37, ic66, []) := .mk (pf := []) (an := []) (by kernel_rfl) (fnOK_of Tryd.func66 (by kernel_rfl) (by kernel_rfl) (by kernel_rfl))
/-- slices.ContainsFunc[[]chandlery/api.Rich,chandlery/api.Rich] -/
def ic67 : IC :=
(.seq
 (.reg 0 [⟨(some 4), none, (.q (.mov (.c (.bool false))))⟩] [0, 1])
 (.seq
  (.reg 1 [⟨(some 5), none, (.q (.mov (.t 0)))⟩, ⟨(some 6), none, (.q (.mov (.t 1)))⟩, ⟨(some 7), none, (.call 89 [(.t 5), (.t 6)])⟩, ⟨(some 8), none, (.q (.bin .geq (.t 7) (.c (.int .i64 0))))⟩, ⟨(some 4), none, (.q (.mov (.t 8)))⟩] [4])
  .ret))
theorem fok67 : FOK Tryd.prog 67 (9, ic67, [(.t 4)]) := .mk (pf := []) (an := [(0, [0, 1]), (1, [4])]) (by kernel_rfl) (fnOK_of Tryd.func67 (by kernel_rfl) (by kernel_rfl) (by kernel_rfl))
/-- chandlery/pkg.every[chandlery/api.Rich]$1 -/
def ic68 : IC :=
(.seq
 (.reg 0 [⟨(some 2), none, (.boxt (.t 0))⟩, ⟨(some 3), none, (.q (.mov (.c (.bool false))))⟩] [1, 2])
 (.seq
  (.reg 1 [⟨(some 4), none, (.q (.load none (.t 1)))⟩, ⟨(some 5), none, (.q (.load (some 7) (.t 2)))⟩, ⟨(some 6), none, (.callv (.t 4) [(.t 5)])⟩, ⟨(some 7), none, (.q (.not (.t 6)))⟩, ⟨(some 3), none, (.q (.mov (.t 7)))⟩] [3])
  .ret))
theorem fok68 : FOK Tryd.prog 68 (8, ic68, [(.t 3)]) := .mk (pf := [1000002]) (an := [(0, [1, 2]), (1, [3])]) (by kernel_rfl) (fnOK_of Tryd.func68 (by kernel_rfl) (by kernel_rfl) (by kernel_rfl))
/-- chandlery/shape.Count -/
def ic69 : IC :=
(.seq
 (.reg 0 [⟨(some 1), none, (.boxt (.t 0))⟩, ⟨(some 2), none, (.q (.mov (.c (.int .i64 0))))⟩] [1, 2])
 (.seq
  (.reg 1 [⟨(some 3), none, (.alloc [(.int .i64 0)])⟩, ⟨none, none, (.store 1 (.t 3) (.c (.int .i64 0)))⟩] [1, 2, 3])
  (.seq
   (.seq
    (.reg 2 [⟨(some 4), none, (.q (.load (some 7) (.t 1)))⟩, ⟨(some 5), none, (.call 71 [(.t 4)])⟩] [2, 3, 5])
    (.block 0
     (.rfunc (.t 5) [6, 7]
      .skip
      (.block 1
       (.reg 3 [⟨(some 8), none, (.q (.load none (.t 3)))⟩, ⟨(some 9), none, (.q (.bin .add (.t 8) (.c (.int .i64 1))))⟩, ⟨none, none, (.store 1 (.t 3) (.t 9))⟩] [])))))
   (.seq
    (.reg 4 [⟨(some 10), none, (.q (.load none (.t 3)))⟩, ⟨(some 2), none, (.q (.mov (.t 10)))⟩] [2])
    .ret))))
theorem fok69 : FOK Tryd.prog 69 (11, ic69, [(.t 2)]) := .mk (pf := [1000001]) (an := [(0, [1, 2]), (1, [1, 2, 3]), (2, [2, 3, 5]), (4, [2])]) (by kernel_rfl) (fnOK_of Tryd.func69 (by kernel_rfl) (by kernel_rfl) (by kernel_rfl))
/-- chandlery/shape.Depth -/
def ic70 : IC :=
(.seq
 (.reg 0 [⟨(some 1), none, (.boxt (.t 0))⟩, ⟨(some 2), none, (.q (.mov (.c (.int .i64 0))))⟩] [1])
 (.seq
  (.seq
   (.reg 1 [⟨(some 6), none, (.q (.faddr 0 (.t 1)))⟩, ⟨(some 7), none, (.q (.load none (.t 6)))⟩, ⟨(some 8), none, (.q (.bin .eql (.t 7) (.c (.int .u8 1))))⟩] [1, 8])
   (.cond (.t 8)
    (.seq
     (.reg 2 [⟨(some 2), none, (.q (.mov (.c (.int .i64 0))))⟩] [2])
     .ret)
    .skip))
  (.seq
   (.reg 3 [⟨(some 3), none, (.q (.mov (.c (.int .i64 0))))⟩] [1, 3])
   (.seq
    (.seq
     (.reg 4 [⟨(some 9), none, (.q (.faddr 6 (.t 1)))⟩, ⟨(some 10), none, (.q (.load none (.t 9)))⟩, ⟨(some 11), none, (.q (.len 0 (.t 10)))⟩, ⟨(some 12), none, (.q (.mov (.c (.int .i64 0))))⟩] [3, 10, 11, 12])
     (.block 0
      (.loop
       (.seq
        (.reg 5 [⟨(some 13), none, (.q (.bin .lss (.t 12) (.t 11)))⟩] [3, 10, 11, 12, 13])
        (.seq
         (.cond (.t 13)
          .skip
          (.exit 0))
         (.seq
          (.block 1
           (.seq
            (.reg 6 [⟨(some 14), none, (.q (.iaddr 7 (.t 10) (.t 12)))⟩, ⟨(some 15), none, (.q (.load (some 7) (.t 14)))⟩, ⟨(some 5), none, (.alloc [(.int .u8 0), (.str []), (.int .u8 0), (.int .i64 0), (.str []), (.str []), .nilslice])⟩, ⟨none, none, (.store 7 (.t 5) (.t 15))⟩] [3, 5, 10, 11, 12])
            (.reg 7 [⟨(some 16), none, (.q (.mov (.t 3)))⟩, ⟨(some 17), none, (.q (.load (some 7) (.t 5)))⟩, ⟨(some 18), none, (.call 70 [(.t 17)])⟩, ⟨(some 19), none, (.q (.mm true (.t 16) (.t 18)))⟩, ⟨(some 3), none, (.q (.mov (.t 19)))⟩] [3, 10, 11, 12])))
          (.reg 8 [⟨(some 20), none, (.q (.bin .add (.t 12) (.c (.int .i64 1))))⟩, ⟨(some 12), none, (.q (.mov (.t 20)))⟩] [3, 10, 11, 12])))))))
    (.seq
     (.reg 9 [⟨(some 21), none, (.q (.mov (.t 3)))⟩, ⟨(some 22), none, (.q (.bin .add (.t 21) (.c (.int .i64 1))))⟩, ⟨(some 2), none, (.q (.mov (.t 22)))⟩] [2])
     .ret)))))
theorem fok70 : FOK Tryd.prog 70 (23, ic70, [(.t 2)]) := .mk (pf := [1000001]) (an := [(0, [1]), (1, [1, 8]), (2, [2]), (3, [1, 3]), (4, [3, 10, 11, 12]), (5, [3, 10, 11, 12, 13]), (6, [3, 5, 10, 11, 12]), (7, [3, 10, 11, 12]), (8, [3, 10, 11, 12]), (9, [2])]) (by kernel_rfl) (fnOK_of Tryd.func70 (by kernel_rfl) (by kernel_rfl) (by kernel_rfl))
/-- chandlery/shape.parts -/
def ic71 : IC :=
(.seq
 (.reg 0 [⟨(some 1), none, (.boxt (.t 0))⟩, ⟨(some 2), none, (.q (.mov (.c .nilfunc)))⟩] [1])
 (.seq
  (.reg 1 [⟨(some 3), none, (.alloc [.nilfunc])⟩] [1, 3])
  (.seq
   (.reg 2 [⟨(some 4), none, (.q (.mkf 90 [] [(.t 3)]))⟩, ⟨none, none, (.store 1 (.t 3) (.t 4))⟩] [1, 3])
   (.seq
    (.reg 3 [⟨(some 5), none, (.q (.mkf 91 [] [(.t 3), (.t 1)]))⟩, ⟨(some 2), none, (.q (.mov (.t 5)))⟩] [2])
    .ret))))
theorem fok71 : FOK Tryd.prog 71 (6, ic71, [(.t 2)]) := .mk (pf := [1000001]) (an := [(0, [1]), (1, [1, 3]), (2, [1, 3]), (3, [2])]) (by kernel_rfl) (fnOK_of Tryd.func71 (by kernel_rfl) (by kernel_rfl) (by kernel_rfl))
/-- chandlery/shape.of -/
def ic72 : IC :=
(.seq
 (.reg 0 [⟨(some 2), none, (.alloc [(.int .i64 0), (.int .i64 0), (.bool false), (.int .u8 0)])⟩] [0, 2])
 (.seq
  (.reg 1 [⟨(some 4), none, (.q (.bld [(.int .i64 0), (.int .i64 0), (.bool false), (.int .u8 0)] [⟨0, ⟨1, (.c (.int .i64 0))⟩⟩, ⟨1, ⟨1, (.c (.int .i64 0))⟩⟩, ⟨2, ⟨1, (.c (.bool true))⟩⟩, ⟨3, ⟨1, (.c (.int .u8 3))⟩⟩]))⟩, ⟨(some 5), none, (.q (.bld [(.int .i64 0), (.int .i64 0), (.bool false), (.int .u8 0)] [⟨0, ⟨1, (.c (.int .i64 2))⟩⟩, ⟨1, ⟨1, (.c (.int .i64 24))⟩⟩, ⟨2, ⟨1, (.c (.bool true))⟩⟩, ⟨3, ⟨1, (.c (.int .u8 3))⟩⟩]))⟩, ⟨(some 6), none, (.q (.bld [(.int .i64 0), (.int .i64 0), (.bool false), (.int .u8 0)] [⟨0, ⟨1, (.c (.int .i64 2))⟩⟩, ⟨1, ⟨1, (.c (.int .i64 24))⟩⟩, ⟨2, ⟨1, (.c (.bool true))⟩⟩, ⟨3, ⟨1, (.c (.int .u8 3))⟩⟩]))⟩, ⟨(some 7), none, (.q (.bld [(.int .i64 0), (.int .i64 0), (.bool false), (.int .u8 0)] [⟨0, ⟨1, (.c (.int .i64 2))⟩⟩, ⟨1, ⟨1, (.c (.int .i64 3))⟩⟩, ⟨2, ⟨1, (.c (.bool false))⟩⟩, ⟨3, ⟨1, (.c (.int .u8 1))⟩⟩]))⟩, ⟨(some 8), none, (.q (.bld [(.int .i64 0), (.int .i64 0), (.bool false), (.int .u8 0)] [⟨0, ⟨1, (.c (.int .i64 2))⟩⟩, ⟨1, ⟨1, (.c (.int .i64 3))⟩⟩, ⟨2, ⟨1, (.c (.bool false))⟩⟩, ⟨3, ⟨1, (.c (.int .u8 2))⟩⟩]))⟩, ⟨(some 9), none, (.q (.bld [(.int .i64 0), (.int .i64 0), (.bool false), (.int .u8 0)] [⟨0, ⟨1, (.c (.int .i64 2))⟩⟩, ⟨1, ⟨1, (.c (.int .i64 24))⟩⟩, ⟨2, ⟨1, (.c (.bool true))⟩⟩, ⟨3, ⟨1, (.c (.int .u8 3))⟩⟩]))⟩, ⟨(some 10), none, (.q (.bld [(.int .i64 0), (.int .i64 0), (.bool false), (.int .u8 0)] [⟨0, ⟨1, (.c (.int .i64 2))⟩⟩, ⟨1, ⟨1, (.c (.int .i64 2))⟩⟩, ⟨2, ⟨1, (.c (.bool true))⟩⟩, ⟨3, ⟨1, (.c (.int .u8 3))⟩⟩]))⟩, ⟨(some 11), none, (.q (.bld [(.int .i64 0), (.int .i64 0), (.bool false), (.int .u8 0), (.int .i64 0), (.int .i64 0), (.bool false), (.int .u8 0), (.int .i64 0), (.int .i64 0), (.bool false), (.int .u8 0), (.int .i64 0), (.int .i64 0), (.bool false), (.int .u8 0), (.int .i64 0), (.int .i64 0), (.bool false), (.int .u8 0), (.int .i64 0), (.int .i64 0), (.bool false), (.int .u8 0), (.int .i64 0), (.int .i64 0), (.bool false), (.int .u8 0), (.int .i64 0), (.int .i64 0), (.bool false), (.int .u8 0)] [⟨4, ⟨4, (.t 4)⟩⟩, ⟨8, ⟨4, (.t 5)⟩⟩, ⟨12, ⟨4, (.t 6)⟩⟩, ⟨16, ⟨4, (.t 7)⟩⟩, ⟨20, ⟨4, (.t 8)⟩⟩, ⟨24, ⟨4, (.t 9)⟩⟩, ⟨28, ⟨4, (.t 10)⟩⟩]))⟩, ⟨(some 3), none, (.alloc [(.int .i64 0), (.int .i64 0), (.bool false), (.int .u8 0), (.int .i64 0), (.int .i64 0), (.bool false), (.int .u8 0), (.int .i64 0), (.int .i64 0), (.bool false), (.int .u8 0), (.int .i64 0), (.int .i64 0), (.bool false), (.int .u8 0), (.int .i64 0), (.int .i64 0), (.bool false), (.int .u8 0), (.int .i64 0), (.int .i64 0), (.bool false), (.int .u8 0), (.int .i64 0), (.int .i64 0), (.bool false), (.int .u8 0), (.int .i64 0), (.int .i64 0), (.bool false), (.int .u8 0)])⟩, ⟨none, none, (.store 32 (.t 3) (.t 11))⟩] [0, 2, 3])
  (.seq
   (.seq
    (.reg 2 [⟨(some 12), none, (.q (.mov (.t 0)))⟩, ⟨(some 13), none, (.q (.conv .i64 (.t 12)))⟩, ⟨(some 14), none, (.q (.bin .geq (.t 13) (.c (.int .i64 8))))⟩] [0, 2, 3, 14])
    (.cond (.t 14)
     (.seq
      (.reg 3 [⟨(some 15), none, (.q (.bld [(.int .i64 0), (.int .i64 0), (.bool false), (.int .u8 0)] []))⟩, ⟨none, none, (.store 4 (.t 2) (.t 15))⟩] [2])
      .ret)
     .skip))
   (.seq
    (.reg 4 [⟨(some 16), none, (.q (.mov (.t 0)))⟩, ⟨(some 17), none, (.q (.aaddr 8 4 (.t 3) (.t 16)))⟩, ⟨(some 18), none, (.q (.load (some 4) (.t 17)))⟩, ⟨none, none, (.store 4 (.t 2) (.t 18))⟩] [2])
    .ret))))
theorem fok72 : FOK Tryd.prog 72 (19, ic72, [(.cell (some 4) 2)]) := .mk (pf := []) (an := [(0, [0, 2]), (1, [0, 2, 3]), (2, [0, 2, 3, 14]), (3, [2]), (4, [2])]) (by kernel_rfl) (fnOK_of Tryd.func72 (by kernel_rfl) (by kernel_rfl) (by kernel_rfl))
/-- slices.insertionSortOrdered[string] -/
def ic73 : IC :=
(.seq
 (.reg 0 [⟨(some 8), none, (.q (.mov (.t 1)))⟩, ⟨(some 9), none, (.q (.bin .add (.t 8) (.c (.int .i64 1))))⟩, ⟨(some 6), none, (.q (.mov (.t 9)))⟩] [0, 1, 2, 6])
 (.block 0
  (.loop
   (.seq
    (.seq
     (.reg 1 [⟨(some 10), none, (.q (.mov (.t 6)))⟩, ⟨(some 11), none, (.q (.mov (.t 2)))⟩, ⟨(some 12), none, (.q (.bin .lss (.t 10) (.t 11)))⟩] [0, 1, 2, 6, 12])
     (.cond (.t 12)
      .skip
      (.exit 0)))
    (.seq
     (.block 1
      (.seq
       (.reg 3 [⟨(some 15), none, (.q (.mov (.t 6)))⟩, ⟨(some 7), none, (.q (.mov (.t 15)))⟩] [0, 1, 2, 6, 7])
       (.block 2
        (.loop
         (.seq
          (.seq
           (.dreg 4 [⟨(some 16), none, (.q (.mov (.t 7)))⟩, ⟨(some 17), none, (.q (.mov (.t 1)))⟩, ⟨(some 18), none, (.q (.bin .gtr (.t 16) (.t 17)))⟩, ⟨(some 19), none, (.q (.mov (.t 18)))⟩, ⟨(some 20), (some ⟨19, true⟩), (.q (.mov (.t 0)))⟩, ⟨(some 21), (some ⟨19, true⟩), (.q (.mov (.t 7)))⟩, ⟨(some 22), (some ⟨19, true⟩), (.q (.iaddr 1 (.t 20) (.t 21)))⟩, ⟨(some 23), (some ⟨19, true⟩), (.q (.load none (.t 22)))⟩, ⟨(some 24), (some ⟨19, true⟩), (.q (.mov (.t 0)))⟩, ⟨(some 25), (some ⟨19, true⟩), (.q (.mov (.t 7)))⟩, ⟨(some 26), (some ⟨19, true⟩), (.q (.bin .sub (.t 25) (.c (.int .i64 1))))⟩, ⟨(some 27), (some ⟨19, true⟩), (.q (.iaddr 1 (.t 24) (.t 26)))⟩, ⟨(some 28), (some ⟨19, true⟩), (.q (.load none (.t 27)))⟩, ⟨(some 29), (some ⟨19, true⟩), (.call 79 [(.t 23), (.t 28)])⟩, ⟨(some 30), none, (.q (.pick (.t 19) (.t 29) (.c (.bool false))))⟩] false [0, 1, 2, 6, 7, 30])
           (.cond (.t 30)
            .skip
            (.exit 2)))
          (.seq
           (.block 3
            (.dreg 6 [⟨(some 33), none, (.q (.mov (.t 0)))⟩, ⟨(some 34), none, (.q (.mov (.t 7)))⟩, ⟨(some 35), none, (.q (.mov (.t 0)))⟩, ⟨(some 36), none, (.q (.mov (.t 7)))⟩, ⟨(some 37), none, (.q (.bin .sub (.t 36) (.c (.int .i64 1))))⟩, ⟨(some 38), none, (.q (.mov (.t 0)))⟩, ⟨(some 39), none, (.q (.mov (.t 7)))⟩, ⟨(some 40), none, (.q (.bin .sub (.t 39) (.c (.int .i64 1))))⟩, ⟨(some 41), none, (.q (.iaddr 1 (.t 38) (.t 40)))⟩, ⟨(some 42), none, (.q (.load none (.t 41)))⟩, ⟨(some 43), none, (.q (.mov (.t 0)))⟩, ⟨(some 44), none, (.q (.mov (.t 7)))⟩, ⟨(some 45), none, (.q (.iaddr 1 (.t 43) (.t 44)))⟩, ⟨(some 46), none, (.q (.load none (.t 45)))⟩, ⟨(some 47), none, (.q (.iaddr 1 (.t 33) (.t 34)))⟩, ⟨none, none, (.store 1 (.t 47) (.t 42))⟩, ⟨(some 48), none, (.q (.iaddr 1 (.t 35) (.t 37)))⟩, ⟨none, none, (.store 1 (.t 48) (.t 46))⟩] false [0, 1, 2, 6, 7]))
           (.reg 5 [⟨(some 31), none, (.q (.mov (.t 7)))⟩, ⟨(some 32), none, (.q (.bin .sub (.t 31) (.c (.int .i64 1))))⟩, ⟨(some 7), none, (.q (.mov (.t 32)))⟩] [0, 1, 2, 6, 7])))))))
     (.reg 2 [⟨(some 13), none, (.q (.mov (.t 6)))⟩, ⟨(some 14), none, (.q (.bin .add (.t 13) (.c (.int .i64 1))))⟩, ⟨(some 6), none, (.q (.mov (.t 14)))⟩] [0, 1, 2, 6]))))))
theorem fok73 : FOK Tryd.prog 73 (49, ic73, []) := .mk (pf := []) (an := [(0, [0, 1, 2, 6]), (1, [0, 1, 2, 6, 12]), (2, [0, 1, 2, 6]), (3, [0, 1, 2, 6, 7]), (4, [0, 1, 2, 6, 7, 30]), (5, [0, 1, 2, 6, 7]), (6, [0, 1, 2, 6, 7])]) (by kernel_rfl) (fnOK_of Tryd.func73 (by kernel_rfl) (by kernel_rfl) (by kernel_rfl))
/-- slices.heapSortOrdered[string] -/
def ic74 : IC :=
(.seq
 (.reg 0 [⟨(some 11), none, (.q (.mov (.t 1)))⟩, ⟨(some 6), none, (.q (.mov (.t 11)))⟩] [0, 1, 2, 6])
 (.seq
  (.reg 1 [⟨(some 7), none, (.q (.mov (.c (.int .i64 0))))⟩] [0, 1, 2, 6, 7])
  (.seq
   (.reg 2 [⟨(some 12), none, (.q (.mov (.t 2)))⟩, ⟨(some 13), none, (.q (.mov (.t 1)))⟩, ⟨(some 14), none, (.q (.bin .sub (.t 12) (.t 13)))⟩, ⟨(some 8), none, (.q (.mov (.t 14)))⟩] [0, 6, 7, 8])
   (.seq
    (.seq
     (.reg 3 [⟨(some 15), none, (.q (.mov (.t 8)))⟩, ⟨(some 16), none, (.q (.bin .sub (.t 15) (.c (.int .i64 1))))⟩, ⟨(some 17), none, (.q (.bin .quo (.t 16) (.c (.int .i64 2))))⟩, ⟨(some 9), none, (.q (.mov (.t 17)))⟩] [0, 6, 7, 8, 9])
     (.block 0
      (.loop
       (.seq
        (.seq
         (.reg 4 [⟨(some 18), none, (.q (.mov (.t 9)))⟩, ⟨(some 19), none, (.q (.bin .geq (.t 18) (.c (.int .i64 0))))⟩] [0, 6, 7, 8, 9, 19])
         (.cond (.t 19)
          .skip
          (.exit 0)))
        (.seq
         (.block 1
          (.reg 6 [⟨(some 22), none, (.q (.mov (.t 0)))⟩, ⟨(some 23), none, (.q (.mov (.t 9)))⟩, ⟨(some 24), none, (.q (.mov (.t 8)))⟩, ⟨(some 25), none, (.q (.mov (.t 6)))⟩, ⟨(some 26), none, (.call 92 [(.t 22), (.t 23), (.t 24), (.t 25)])⟩] [0, 6, 7, 8, 9]))
         (.reg 5 [⟨(some 20), none, (.q (.mov (.t 9)))⟩, ⟨(some 21), none, (.q (.bin .sub (.t 20) (.c (.int .i64 1))))⟩, ⟨(some 9), none, (.q (.mov (.t 21)))⟩] [0, 6, 7, 8, 9]))))))
    (.seq
     (.reg 7 [⟨(some 27), none, (.q (.mov (.t 8)))⟩, ⟨(some 28), none, (.q (.bin .sub (.t 27) (.c (.int .i64 1))))⟩, ⟨(some 10), none, (.q (.mov (.t 28)))⟩] [0, 6, 7, 10])
     (.block 2
      (.loop
       (.seq
        (.seq
         (.reg 8 [⟨(some 29), none, (.q (.mov (.t 10)))⟩, ⟨(some 30), none, (.q (.bin .geq (.t 29) (.c (.int .i64 0))))⟩] [0, 6, 7, 10, 30])
         (.cond (.t 30)
          .skip
          (.exit 2)))
        (.seq
         (.block 3
          (.seq
           (.dreg 10 [⟨(some 33), none, (.q (.mov (.t 0)))⟩, ⟨(some 34), none, (.q (.mov (.t 6)))⟩, ⟨(some 35), none, (.q (.mov (.t 0)))⟩, ⟨(some 36), none, (.q (.mov (.t 6)))⟩, ⟨(some 37), none, (.q (.mov (.t 10)))⟩, ⟨(some 38), none, (.q (.bin .add (.t 36) (.t 37)))⟩, ⟨(some 39), none, (.q (.mov (.t 0)))⟩, ⟨(some 40), none, (.q (.mov (.t 6)))⟩, ⟨(some 41), none, (.q (.mov (.t 10)))⟩, ⟨(some 42), none, (.q (.bin .add (.t 40) (.t 41)))⟩, ⟨(some 43), none, (.q (.iaddr 1 (.t 39) (.t 42)))⟩, ⟨(some 44), none, (.q (.load none (.t 43)))⟩, ⟨(some 45), none, (.q (.mov (.t 0)))⟩, ⟨(some 46), none, (.q (.mov (.t 6)))⟩, ⟨(some 47), none, (.q (.iaddr 1 (.t 45) (.t 46)))⟩, ⟨(some 48), none, (.q (.load none (.t 47)))⟩, ⟨(some 49), none, (.q (.iaddr 1 (.t 33) (.t 34)))⟩, ⟨none, none, (.store 1 (.t 49) (.t 44))⟩, ⟨(some 50), none, (.q (.iaddr 1 (.t 35) (.t 38)))⟩, ⟨none, none, (.store 1 (.t 50) (.t 48))⟩] false [0, 6, 7, 10])
           (.reg 11 [⟨(some 51), none, (.q (.mov (.t 0)))⟩, ⟨(some 52), none, (.q (.mov (.t 7)))⟩, ⟨(some 53), none, (.q (.mov (.t 10)))⟩, ⟨(some 54), none, (.q (.mov (.t 6)))⟩, ⟨(some 55), none, (.call 92 [(.t 51), (.t 52), (.t 53), (.t 54)])⟩] [0, 6, 7, 10])))
         (.reg 9 [⟨(some 31), none, (.q (.mov (.t 10)))⟩, ⟨(some 32), none, (.q (.bin .sub (.t 31) (.c (.int .i64 1))))⟩, ⟨(some 10), none, (.q (.mov (.t 32)))⟩] [0, 6, 7, 10]))))))))))
theorem fok74 : FOK Tryd.prog 74 (56, ic74, []) := .mk (pf := []) (an := [(0, [0, 1, 2, 6]), (1, [0, 1, 2, 6, 7]), (2, [0, 6, 7, 8]), (3, [0, 6, 7, 8, 9]), (4, [0, 6, 7, 8, 9, 19]), (5, [0, 6, 7, 8, 9]), (6, [0, 6, 7, 8, 9]), (7, [0, 6, 7, 10]), (8, [0, 6, 7, 10, 30]), (9, [0, 6, 7, 10]), (10, [0, 6, 7, 10]), (11, [0, 6, 7, 10])]) (by kernel_rfl) (fnOK_of Tryd.func74 (by kernel_rfl) (by kernel_rfl) (by kernel_rfl))
/-- slices.breakPatternsOrdered[string] -/
def ic75 : IC :=
(.seq
 (.reg 0 [⟨(some 11), none, (.q (.mov (.t 2)))⟩, ⟨(some 12), none, (.q (.mov (.t 1)))⟩, ⟨(some 13), none, (.q (.bin .sub (.t 11) (.t 12)))⟩, ⟨(some 6), none, (.q (.mov (.t 13)))⟩] [0, 1, 6])
 (.seq
  (.reg 1 [⟨(some 14), none, (.q (.mov (.t 6)))⟩, ⟨(some 15), none, (.q (.bin .geq (.t 14) (.c (.int .i64 8))))⟩] [0, 1, 6, 15])
  (.cond (.t 15)
   (.seq
    (.reg 2 [⟨(some 16), none, (.q (.mov (.t 6)))⟩, ⟨(some 17), none, (.q (.conv .u64 (.t 16)))⟩, ⟨(some 7), none, (.alloc [(.int .u64 0)])⟩, ⟨none, none, (.store 1 (.t 7) (.t 17))⟩] [0, 1, 6, 7])
    (.seq
     (.reg 3 [⟨(some 18), none, (.q (.mov (.t 6)))⟩, ⟨(some 19), none, (.call 93 [(.t 18)])⟩, ⟨(some 8), none, (.q (.mov (.t 19)))⟩] [0, 1, 6, 7, 8])
     (.seq
      (.reg 4 [⟨(some 20), none, (.q (.mov (.t 1)))⟩, ⟨(some 21), none, (.q (.mov (.t 6)))⟩, ⟨(some 22), none, (.q (.bin .quo (.t 21) (.c (.int .i64 4))))⟩, ⟨(some 23), none, (.q (.bin .mul (.t 22) (.c (.int .i64 2))))⟩, ⟨(some 24), none, (.q (.bin .add (.t 20) (.t 23)))⟩, ⟨(some 25), none, (.q (.bin .sub (.t 24) (.c (.int .i64 1))))⟩, ⟨(some 9), none, (.q (.mov (.t 25)))⟩] [0, 1, 6, 7, 8, 9])
      (.block 0
       (.loop
        (.seq
         (.seq
          (.reg 5 [⟨(some 26), none, (.q (.mov (.t 9)))⟩, ⟨(some 27), none, (.q (.mov (.t 1)))⟩, ⟨(some 28), none, (.q (.mov (.t 6)))⟩, ⟨(some 29), none, (.q (.bin .quo (.t 28) (.c (.int .i64 4))))⟩, ⟨(some 30), none, (.q (.bin .mul (.t 29) (.c (.int .i64 2))))⟩, ⟨(some 31), none, (.q (.bin .add (.t 27) (.t 30)))⟩, ⟨(some 32), none, (.q (.bin .add (.t 31) (.c (.int .i64 1))))⟩, ⟨(some 33), none, (.q (.bin .leq (.t 26) (.t 32)))⟩] [0, 1, 6, 7, 8, 9, 33])
          (.cond (.t 33)
           .skip
           (.exit 0)))
         (.seq
          (.block 1
           (.seq
            (.reg 7 [⟨(some 36), none, (.call 94 [(.t 7)])⟩, ⟨(some 37), none, (.q (.mov (.t 8)))⟩, ⟨(some 38), none, (.q (.bin .sub (.t 37) (.c (.int .u64 1))))⟩, ⟨(some 39), none, (.q (.bin .and (.t 36) (.t 38)))⟩, ⟨(some 40), none, (.q (.conv .i64 (.t 39)))⟩, ⟨(some 10), none, (.q (.mov (.t 40)))⟩] [0, 1, 6, 7, 8, 9, 10])
            (.seq
            (.seq
            (.reg 8 [⟨(some 41), none, (.q (.mov (.t 10)))⟩, ⟨(some 42), none, (.q (.mov (.t 6)))⟩, ⟨(some 43), none, (.q (.bin .geq (.t 41) (.t 42)))⟩] [0, 1, 6, 7, 8, 9, 10, 43])
            (.cond (.t 43)
            (.reg 9 [⟨(some 44), none, (.q (.mov (.t 10)))⟩, ⟨(some 45), none, (.q (.mov (.t 6)))⟩, ⟨(some 46), none, (.q (.bin .sub (.t 44) (.t 45)))⟩, ⟨(some 10), none, (.q (.mov (.t 46)))⟩] [0, 1, 6, 7, 8, 9, 10])
            .skip))
            (.dreg 10 [⟨(some 47), none, (.q (.mov (.t 0)))⟩, ⟨(some 48), none, (.q (.mov (.t 9)))⟩, ⟨(some 49), none, (.q (.mov (.t 0)))⟩, ⟨(some 50), none, (.q (.mov (.t 1)))⟩, ⟨(some 51), none, (.q (.mov (.t 10)))⟩, ⟨(some 52), none, (.q (.bin .add (.t 50) (.t 51)))⟩, ⟨(some 53), none, (.q (.mov (.t 0)))⟩, ⟨(some 54), none, (.q (.mov (.t 1)))⟩, ⟨(some 55), none, (.q (.mov (.t 10)))⟩, ⟨(some 56), none, (.q (.bin .add (.t 54) (.t 55)))⟩, ⟨(some 57), none, (.q (.iaddr 1 (.t 53) (.t 56)))⟩, ⟨(some 58), none, (.q (.load none (.t 57)))⟩, ⟨(some 59), none, (.q (.mov (.t 0)))⟩, ⟨(some 60), none, (.q (.mov (.t 9)))⟩, ⟨(some 61), none, (.q (.iaddr 1 (.t 59) (.t 60)))⟩, ⟨(some 62), none, (.q (.load none (.t 61)))⟩, ⟨(some 63), none, (.q (.iaddr 1 (.t 47) (.t 48)))⟩, ⟨none, none, (.store 1 (.t 63) (.t 58))⟩, ⟨(some 64), none, (.q (.iaddr 1 (.t 49) (.t 52)))⟩, ⟨none, none, (.store 1 (.t 64) (.t 62))⟩] false [0, 1, 6, 7, 8, 9]))))
          (.reg 6 [⟨(some 34), none, (.q (.mov (.t 9)))⟩, ⟨(some 35), none, (.q (.bin .add (.t 34) (.c (.int .i64 1))))⟩, ⟨(some 9), none, (.q (.mov (.t 35)))⟩] [0, 1, 6, 7, 8, 9]))))))))
   .skip)))
theorem fok75 : FOK Tryd.prog 75 (65, ic75, []) := .mk (pf := []) (an := [(0, [0, 1, 6]), (1, [0, 1, 6, 15]), (2, [0, 1, 6, 7]), (3, [0, 1, 6, 7, 8]), (4, [0, 1, 6, 7, 8, 9]), (5, [0, 1, 6, 7, 8, 9, 33]), (6, [0, 1, 6, 7, 8, 9]), (7, [0, 1, 6, 7, 8, 9, 10]), (8, [0, 1, 6, 7, 8, 9, 10, 43]), (9, [0, 1, 6, 7, 8, 9, 10]), (10, [0, 1, 6, 7, 8, 9])]) (by kernel_rfl) (fnOK_of Tryd.func75 (by kernel_rfl) (by kernel_rfl) (by kernel_rfl))
/-- slices.choosePivotOrdered[string] -/
def ic76 : IC :=
(.seq
 (.reg 0 [⟨(some 6), none, (.q (.mov (.c (.int .i64 0))))⟩, ⟨(some 7), none, (.q (.mov (.c (.int .i64 0))))⟩] [0, 1, 2])
 (.seq
  (.reg 1 [⟨(some 13), none, (.q (.mov (.t 2)))⟩, ⟨(some 14), none, (.q (.mov (.t 1)))⟩, ⟨(some 15), none, (.q (.bin .sub (.t 13) (.t 14)))⟩, ⟨(some 8), none, (.q (.mov (.t 15)))⟩] [0, 1, 8])
  (.seq
   (.reg 2 [⟨(some 9), none, (.alloc [(.int .i64 0)])⟩] [0, 1, 8, 9])
   (.seq
    (.reg 3 [⟨(some 16), none, (.q (.mov (.t 1)))⟩, ⟨(some 17), none, (.q (.mov (.t 8)))⟩, ⟨(some 18), none, (.q (.bin .quo (.t 17) (.c (.int .i64 4))))⟩, ⟨(some 19), none, (.q (.bin .mul (.t 18) (.c (.int .i64 1))))⟩, ⟨(some 20), none, (.q (.bin .add (.t 16) (.t 19)))⟩, ⟨(some 10), none, (.q (.mov (.t 20)))⟩] [0, 1, 8, 9, 10])
    (.seq
     (.reg 4 [⟨(some 21), none, (.q (.mov (.t 1)))⟩, ⟨(some 22), none, (.q (.mov (.t 8)))⟩, ⟨(some 23), none, (.q (.bin .quo (.t 22) (.c (.int .i64 4))))⟩, ⟨(some 24), none, (.q (.bin .mul (.t 23) (.c (.int .i64 2))))⟩, ⟨(some 25), none, (.q (.bin .add (.t 21) (.t 24)))⟩, ⟨(some 11), none, (.q (.mov (.t 25)))⟩] [0, 1, 8, 9, 10, 11])
     (.seq
      (.reg 5 [⟨(some 26), none, (.q (.mov (.t 1)))⟩, ⟨(some 27), none, (.q (.mov (.t 8)))⟩, ⟨(some 28), none, (.q (.bin .quo (.t 27) (.c (.int .i64 4))))⟩, ⟨(some 29), none, (.q (.bin .mul (.t 28) (.c (.int .i64 3))))⟩, ⟨(some 30), none, (.q (.bin .add (.t 26) (.t 29)))⟩, ⟨(some 12), none, (.q (.mov (.t 30)))⟩] [0, 8, 9, 10, 11, 12])
      (.seq
       (.seq
        (.reg 6 [⟨(some 31), none, (.q (.mov (.t 8)))⟩, ⟨(some 32), none, (.q (.bin .geq (.t 31) (.c (.int .i64 8))))⟩] [0, 8, 9, 10, 11, 12, 32])
        (.cond (.t 32)
         (.seq
          (.seq
           (.reg 7 [⟨(some 33), none, (.q (.mov (.t 8)))⟩, ⟨(some 34), none, (.q (.bin .geq (.t 33) (.c (.int .i64 50))))⟩] [0, 9, 10, 11, 12, 34])
           (.cond (.t 34)
            (.seq
            (.reg 8 [⟨(some 35), none, (.q (.mov (.t 0)))⟩, ⟨(some 36), none, (.q (.mov (.t 10)))⟩, ⟨(some 37), none, (.call 95 [(.t 35), (.t 36), (.t 9)])⟩, ⟨(some 10), none, (.q (.mov (.t 37)))⟩] [0, 9, 10, 11, 12])
            (.seq
            (.reg 9 [⟨(some 38), none, (.q (.mov (.t 0)))⟩, ⟨(some 39), none, (.q (.mov (.t 11)))⟩, ⟨(some 40), none, (.call 95 [(.t 38), (.t 39), (.t 9)])⟩, ⟨(some 11), none, (.q (.mov (.t 40)))⟩] [0, 9, 10, 11, 12])
            (.reg 10 [⟨(some 41), none, (.q (.mov (.t 0)))⟩, ⟨(some 42), none, (.q (.mov (.t 12)))⟩, ⟨(some 43), none, (.call 95 [(.t 41), (.t 42), (.t 9)])⟩, ⟨(some 12), none, (.q (.mov (.t 43)))⟩] [0, 9, 10, 11, 12])))
            .skip))
          (.reg 11 [⟨(some 44), none, (.q (.mov (.t 0)))⟩, ⟨(some 45), none, (.q (.mov (.t 10)))⟩, ⟨(some 46), none, (.q (.mov (.t 11)))⟩, ⟨(some 47), none, (.q (.mov (.t 12)))⟩, ⟨(some 48), none, (.call 96 [(.t 44), (.t 45), (.t 46), (.t 47), (.t 9)])⟩, ⟨(some 11), none, (.q (.mov (.t 48)))⟩] [9, 11]))
         .skip))
       (.seq
        (.reg 12 [⟨(some 49), none, (.q (.load none (.t 9)))⟩] [11, 49])
        (.block 0
         (.seq
          (.reg 14 [⟨(some 52), none, (.q (.bin .eql (.t 49) (.c (.int .i64 0))))⟩, ⟨(some 51), none, (.q (.mov (.t 52)))⟩] [11, 49, 51])
          (.cond (.t 51)
           (.seq
            (.reg 15 [⟨(some 53), none, (.q (.mov (.t 11)))⟩, ⟨(some 6), none, (.q (.mov (.t 53)))⟩, ⟨(some 7), none, (.q (.mov (.c (.int .i64 1))))⟩] [6, 7])
            .ret)
           (.seq
            (.reg 16 [⟨(some 55), none, (.q (.bin .eql (.t 49) (.c (.int .i64 12))))⟩, ⟨(some 54), none, (.q (.mov (.t 55)))⟩] [11, 54])
            (.cond (.t 54)
            (.seq
            (.reg 17 [⟨(some 56), none, (.q (.mov (.t 11)))⟩, ⟨(some 6), none, (.q (.mov (.t 56)))⟩, ⟨(some 7), none, (.q (.mov (.c (.int .i64 2))))⟩] [6, 7])
            .ret)
            (.seq
            (.reg 13 [⟨(some 50), none, (.q (.mov (.t 11)))⟩, ⟨(some 6), none, (.q (.mov (.t 50)))⟩, ⟨(some 7), none, (.q (.mov (.c (.int .i64 0))))⟩] [6, 7])
            .ret))))))))))))))
theorem fok76 : FOK Tryd.prog 76 (57, ic76, [(.t 6), (.t 7)]) := .mk (pf := []) (an := [(0, [0, 1, 2]), (1, [0, 1, 8]), (2, [0, 1, 8, 9]), (3, [0, 1, 8, 9, 10]), (4, [0, 1, 8, 9, 10, 11]), (5, [0, 8, 9, 10, 11, 12]), (6, [0, 8, 9, 10, 11, 12, 32]), (7, [0, 9, 10, 11, 12, 34]), (8, [0, 9, 10, 11, 12]), (9, [0, 9, 10, 11, 12]), (10, [0, 9, 10, 11, 12]), (11, [9, 11]), (12, [11, 49]), (13, [6, 7]), (14, [11, 49, 51]), (15, [6, 7]), (16, [11, 54]), (17, [6, 7])]) (by kernel_rfl) (fnOK_of Tryd.func76 (by kernel_rfl) (by kernel_rfl) (by kernel_rfl))
/-- slices.reverseRangeOrdered[string] -/
def ic77 : IC :=
(.seq
 (.reg 0 [⟨(some 8), none, (.q (.mov (.t 1)))⟩, ⟨(some 6), none, (.q (.mov (.t 8)))⟩] [0, 2, 6])
 (.seq
  (.reg 1 [⟨(some 9), none, (.q (.mov (.t 2)))⟩, ⟨(some 10), none, (.q (.bin .sub (.t 9) (.c (.int .i64 1))))⟩, ⟨(some 7), none, (.q (.mov (.t 10)))⟩] [0, 6, 7])
  (.block 0
   (.loop
    (.seq
     (.seq
      (.reg 2 [⟨(some 11), none, (.q (.mov (.t 6)))⟩, ⟨(some 12), none, (.q (.mov (.t 7)))⟩, ⟨(some 13), none, (.q (.bin .lss (.t 11) (.t 12)))⟩] [0, 6, 7, 13])
      (.cond (.t 13)
       .skip
       (.exit 0)))
     (.block 1
      (.seq
       (.dreg 3 [⟨(some 14), none, (.q (.mov (.t 0)))⟩, ⟨(some 15), none, (.q (.mov (.t 6)))⟩, ⟨(some 16), none, (.q (.mov (.t 0)))⟩, ⟨(some 17), none, (.q (.mov (.t 7)))⟩, ⟨(some 18), none, (.q (.mov (.t 0)))⟩, ⟨(some 19), none, (.q (.mov (.t 7)))⟩, ⟨(some 20), none, (.q (.iaddr 1 (.t 18) (.t 19)))⟩, ⟨(some 21), none, (.q (.load none (.t 20)))⟩, ⟨(some 22), none, (.q (.mov (.t 0)))⟩, ⟨(some 23), none, (.q (.mov (.t 6)))⟩, ⟨(some 24), none, (.q (.iaddr 1 (.t 22) (.t 23)))⟩, ⟨(some 25), none, (.q (.load none (.t 24)))⟩, ⟨(some 26), none, (.q (.iaddr 1 (.t 14) (.t 15)))⟩, ⟨none, none, (.store 1 (.t 26) (.t 21))⟩, ⟨(some 27), none, (.q (.iaddr 1 (.t 16) (.t 17)))⟩, ⟨none, none, (.store 1 (.t 27) (.t 25))⟩] false [0, 6, 7])
       (.seq
        (.reg 4 [⟨(some 28), none, (.q (.mov (.t 6)))⟩, ⟨(some 29), none, (.q (.bin .add (.t 28) (.c (.int .i64 1))))⟩, ⟨(some 6), none, (.q (.mov (.t 29)))⟩] [0, 6, 7])
        (.reg 5 [⟨(some 30), none, (.q (.mov (.t 7)))⟩, ⟨(some 31), none, (.q (.bin .sub (.t 30) (.c (.int .i64 1))))⟩, ⟨(some 7), none, (.q (.mov (.t 31)))⟩] [0, 6, 7])))))))))
theorem fok77 : FOK Tryd.prog 77 (32, ic77, []) := .mk (pf := []) (an := [(0, [0, 2, 6]), (1, [0, 6, 7]), (2, [0, 6, 7, 13]), (3, [0, 6, 7]), (4, [0, 6, 7]), (5, [0, 6, 7])]) (by kernel_rfl) (fnOK_of Tryd.func77 (by kernel_rfl) (by kernel_rfl) (by kernel_rfl))
/-- slices.partialInsertionSortOrdered[string] -/
def ic78 : IC :=
(.seq
 (.reg 0 [⟨(some 6), none, (.q (.mov (.c (.bool false))))⟩] [0, 1, 2])
 (.seq
  (.reg 1 [⟨(some 11), none, (.q (.mov (.t 1)))⟩, ⟨(some 12), none, (.q (.bin .add (.t 11) (.c (.int .i64 1))))⟩, ⟨(some 7), none, (.q (.mov (.t 12)))⟩] [0, 1, 2, 7])
  (.seq
   (.seq
    (.reg 2 [⟨(some 8), none, (.q (.mov (.c (.int .i64 0))))⟩] [0, 1, 2, 7, 8])
    (.block 0
     (.loop
      (.seq
       (.seq
        (.reg 3 [⟨(some 13), none, (.q (.mov (.t 8)))⟩, ⟨(some 14), none, (.q (.bin .lss (.t 13) (.c (.int .i64 5))))⟩] [0, 1, 2, 7, 8, 14])
        (.cond (.t 14)
         .skip
         (.exit 0)))
       (.seq
        (.block 1
         (.seq
          (.block 2
           (.loop
            (.seq
            (.seq
            (.dreg 5 [⟨(some 17), none, (.q (.mov (.t 7)))⟩, ⟨(some 18), none, (.q (.mov (.t 2)))⟩, ⟨(some 19), none, (.q (.bin .lss (.t 17) (.t 18)))⟩, ⟨(some 20), none, (.q (.mov (.t 19)))⟩, ⟨(some 21), (some ⟨20, true⟩), (.q (.mov (.t 0)))⟩, ⟨(some 22), (some ⟨20, true⟩), (.q (.mov (.t 7)))⟩, ⟨(some 23), (some ⟨20, true⟩), (.q (.iaddr 1 (.t 21) (.t 22)))⟩, ⟨(some 24), (some ⟨20, true⟩), (.q (.load none (.t 23)))⟩, ⟨(some 25), (some ⟨20, true⟩), (.q (.mov (.t 0)))⟩, ⟨(some 26), (some ⟨20, true⟩), (.q (.mov (.t 7)))⟩, ⟨(some 27), (some ⟨20, true⟩), (.q (.bin .sub (.t 26) (.c (.int .i64 1))))⟩, ⟨(some 28), (some ⟨20, true⟩), (.q (.iaddr 1 (.t 25) (.t 27)))⟩, ⟨(some 29), (some ⟨20, true⟩), (.q (.load none (.t 28)))⟩, ⟨(some 30), (some ⟨20, true⟩), (.call 79 [(.t 24), (.t 29)])⟩, ⟨(some 31), (some ⟨20, true⟩), (.q (.not (.t 30)))⟩, ⟨(some 32), none, (.q (.pick (.t 20) (.t 31) (.c (.bool false))))⟩] false [0, 1, 2, 7, 8, 32])
            (.cond (.t 32)
            .skip
            (.exit 2)))
            (.block 3
            (.reg 6 [⟨(some 33), none, (.q (.mov (.t 7)))⟩, ⟨(some 34), none, (.q (.bin .add (.t 33) (.c (.int .i64 1))))⟩, ⟨(some 7), none, (.q (.mov (.t 34)))⟩] [0, 1, 2, 7, 8])))))
          (.seq
           (.seq
            (.reg 7 [⟨(some 35), none, (.q (.mov (.t 7)))⟩, ⟨(some 36), none, (.q (.mov (.t 2)))⟩, ⟨(some 37), none, (.q (.bin .eql (.t 35) (.t 36)))⟩] [0, 1, 2, 7, 8, 37])
            (.cond (.t 37)
            (.seq
            (.reg 8 [⟨(some 6), none, (.q (.mov (.c (.bool true))))⟩] [6])
            .ret)
            .skip))
           (.seq
            (.seq
            (.reg 9 [⟨(some 38), none, (.q (.mov (.t 2)))⟩, ⟨(some 39), none, (.q (.mov (.t 1)))⟩, ⟨(some 40), none, (.q (.bin .sub (.t 38) (.t 39)))⟩, ⟨(some 41), none, (.q (.bin .lss (.t 40) (.c (.int .i64 50))))⟩] [0, 1, 2, 7, 8, 41])
            (.cond (.t 41)
            (.seq
            (.reg 10 [⟨(some 6), none, (.q (.mov (.c (.bool false))))⟩] [6])
            .ret)
            .skip))
            (.seq
            (.dreg 11 [⟨(some 42), none, (.q (.mov (.t 0)))⟩, ⟨(some 43), none, (.q (.mov (.t 7)))⟩, ⟨(some 44), none, (.q (.mov (.t 0)))⟩, ⟨(some 45), none, (.q (.mov (.t 7)))⟩, ⟨(some 46), none, (.q (.bin .sub (.t 45) (.c (.int .i64 1))))⟩, ⟨(some 47), none, (.q (.mov (.t 0)))⟩, ⟨(some 48), none, (.q (.mov (.t 7)))⟩, ⟨(some 49), none, (.q (.bin .sub (.t 48) (.c (.int .i64 1))))⟩, ⟨(some 50), none, (.q (.iaddr 1 (.t 47) (.t 49)))⟩, ⟨(some 51), none, (.q (.load none (.t 50)))⟩, ⟨(some 52), none, (.q (.mov (.t 0)))⟩, ⟨(some 53), none, (.q (.mov (.t 7)))⟩, ⟨(some 54), none, (.q (.iaddr 1 (.t 52) (.t 53)))⟩, ⟨(some 55), none, (.q (.load none (.t 54)))⟩, ⟨(some 56), none, (.q (.iaddr 1 (.t 42) (.t 43)))⟩, ⟨none, none, (.store 1 (.t 56) (.t 51))⟩, ⟨(some 57), none, (.q (.iaddr 1 (.t 44) (.t 46)))⟩, ⟨none, none, (.store 1 (.t 57) (.t 55))⟩] false [0, 1, 2, 7, 8])
            (.seq
            (.seq
            (.reg 12 [⟨(some 58), none, (.q (.mov (.t 7)))⟩, ⟨(some 59), none, (.q (.mov (.t 1)))⟩, ⟨(some 60), none, (.q (.bin .sub (.t 58) (.t 59)))⟩, ⟨(some 61), none, (.q (.bin .geq (.t 60) (.c (.int .i64 2))))⟩] [0, 1, 2, 7, 8, 61])
            (.cond (.t 61)
            (.seq
            (.reg 13 [⟨(some 62), none, (.q (.mov (.t 7)))⟩, ⟨(some 63), none, (.q (.bin .sub (.t 62) (.c (.int .i64 1))))⟩, ⟨(some 9), none, (.q (.mov (.t 63)))⟩] [0, 1, 2, 7, 8, 9])
            (.block 4
            (.loop
            (.seq
            (.seq
            (.reg 14 [⟨(some 64), none, (.q (.mov (.t 9)))⟩, ⟨(some 65), none, (.q (.bin .geq (.t 64) (.c (.int .i64 1))))⟩] [0, 1, 2, 7, 8, 9, 65])
            (.cond (.t 65)
            .skip
            (.exit 4)))
            (.seq
            (.block 5
            (.seq
            (.seq
            (.dreg 16 [⟨(some 68), none, (.q (.mov (.t 0)))⟩, ⟨(some 69), none, (.q (.mov (.t 9)))⟩, ⟨(some 70), none, (.q (.iaddr 1 (.t 68) (.t 69)))⟩, ⟨(some 71), none, (.q (.load none (.t 70)))⟩, ⟨(some 72), none, (.q (.mov (.t 0)))⟩, ⟨(some 73), none, (.q (.mov (.t 9)))⟩, ⟨(some 74), none, (.q (.bin .sub (.t 73) (.c (.int .i64 1))))⟩, ⟨(some 75), none, (.q (.iaddr 1 (.t 72) (.t 74)))⟩, ⟨(some 76), none, (.q (.load none (.t 75)))⟩, ⟨(some 77), none, (.call 79 [(.t 71), (.t 76)])⟩, ⟨(some 78), none, (.q (.not (.t 77)))⟩] false [0, 1, 2, 7, 8, 9, 78])
            (.cond (.t 78)
            (.exit 4)
            .skip))
            (.dreg 17 [⟨(some 79), none, (.q (.mov (.t 0)))⟩, ⟨(some 80), none, (.q (.mov (.t 9)))⟩, ⟨(some 81), none, (.q (.mov (.t 0)))⟩, ⟨(some 82), none, (.q (.mov (.t 9)))⟩, ⟨(some 83), none, (.q (.bin .sub (.t 82) (.c (.int .i64 1))))⟩, ⟨(some 84), none, (.q (.mov (.t 0)))⟩, ⟨(some 85), none, (.q (.mov (.t 9)))⟩, ⟨(some 86), none, (.q (.bin .sub (.t 85) (.c (.int .i64 1))))⟩, ⟨(some 87), none, (.q (.iaddr 1 (.t 84) (.t 86)))⟩, ⟨(some 88), none, (.q (.load none (.t 87)))⟩, ⟨(some 89), none, (.q (.mov (.t 0)))⟩, ⟨(some 90), none, (.q (.mov (.t 9)))⟩, ⟨(some 91), none, (.q (.iaddr 1 (.t 89) (.t 90)))⟩, ⟨(some 92), none, (.q (.load none (.t 91)))⟩, ⟨(some 93), none, (.q (.iaddr 1 (.t 79) (.t 80)))⟩, ⟨none, none, (.store 1 (.t 93) (.t 88))⟩, ⟨(some 94), none, (.q (.iaddr 1 (.t 81) (.t 83)))⟩, ⟨none, none, (.store 1 (.t 94) (.t 92))⟩] false [0, 1, 2, 7, 8, 9])))
            (.reg 15 [⟨(some 66), none, (.q (.mov (.t 9)))⟩, ⟨(some 67), none, (.q (.bin .sub (.t 66) (.c (.int .i64 1))))⟩, ⟨(some 9), none, (.q (.mov (.t 67)))⟩] [0, 1, 2, 7, 8, 9]))))))
            .skip))
            (.seq
            (.reg 18 [⟨(some 95), none, (.q (.mov (.t 2)))⟩, ⟨(some 96), none, (.q (.mov (.t 7)))⟩, ⟨(some 97), none, (.q (.bin .sub (.t 95) (.t 96)))⟩, ⟨(some 98), none, (.q (.bin .geq (.t 97) (.c (.int .i64 2))))⟩] [0, 1, 2, 7, 8, 98])
            (.cond (.t 98)
            (.seq
            (.reg 19 [⟨(some 99), none, (.q (.mov (.t 7)))⟩, ⟨(some 100), none, (.q (.bin .add (.t 99) (.c (.int .i64 1))))⟩, ⟨(some 10), none, (.q (.mov (.t 100)))⟩] [0, 1, 2, 7, 8, 10])
            (.block 6
            (.loop
            (.seq
            (.seq
            (.reg 20 [⟨(some 101), none, (.q (.mov (.t 10)))⟩, ⟨(some 102), none, (.q (.mov (.t 2)))⟩, ⟨(some 103), none, (.q (.bin .lss (.t 101) (.t 102)))⟩] [0, 1, 2, 7, 8, 10, 103])
            (.cond (.t 103)
            .skip
            (.exit 6)))
            (.seq
            (.block 7
            (.seq
            (.seq
            (.dreg 22 [⟨(some 106), none, (.q (.mov (.t 0)))⟩, ⟨(some 107), none, (.q (.mov (.t 10)))⟩, ⟨(some 108), none, (.q (.iaddr 1 (.t 106) (.t 107)))⟩, ⟨(some 109), none, (.q (.load none (.t 108)))⟩, ⟨(some 110), none, (.q (.mov (.t 0)))⟩, ⟨(some 111), none, (.q (.mov (.t 10)))⟩, ⟨(some 112), none, (.q (.bin .sub (.t 111) (.c (.int .i64 1))))⟩, ⟨(some 113), none, (.q (.iaddr 1 (.t 110) (.t 112)))⟩, ⟨(some 114), none, (.q (.load none (.t 113)))⟩, ⟨(some 115), none, (.call 79 [(.t 109), (.t 114)])⟩, ⟨(some 116), none, (.q (.not (.t 115)))⟩] false [0, 1, 2, 7, 8, 10, 116])
            (.cond (.t 116)
            (.exit 6)
            .skip))
            (.dreg 23 [⟨(some 117), none, (.q (.mov (.t 0)))⟩, ⟨(some 118), none, (.q (.mov (.t 10)))⟩, ⟨(some 119), none, (.q (.mov (.t 0)))⟩, ⟨(some 120), none, (.q (.mov (.t 10)))⟩, ⟨(some 121), none, (.q (.bin .sub (.t 120) (.c (.int .i64 1))))⟩, ⟨(some 122), none, (.q (.mov (.t 0)))⟩, ⟨(some 123), none, (.q (.mov (.t 10)))⟩, ⟨(some 124), none, (.q (.bin .sub (.t 123) (.c (.int .i64 1))))⟩, ⟨(some 125), none, (.q (.iaddr 1 (.t 122) (.t 124)))⟩, ⟨(some 126), none, (.q (.load none (.t 125)))⟩, ⟨(some 127), none, (.q (.mov (.t 0)))⟩, ⟨(some 128), none, (.q (.mov (.t 10)))⟩, ⟨(some 129), none, (.q (.iaddr 1 (.t 127) (.t 128)))⟩, ⟨(some 130), none, (.q (.load none (.t 129)))⟩, ⟨(some 131), none, (.q (.iaddr 1 (.t 117) (.t 118)))⟩, ⟨none, none, (.store 1 (.t 131) (.t 126))⟩, ⟨(some 132), none, (.q (.iaddr 1 (.t 119) (.t 121)))⟩, ⟨none, none, (.store 1 (.t 132) (.t 130))⟩] false [0, 1, 2, 7, 8, 10])))
            (.reg 21 [⟨(some 104), none, (.q (.mov (.t 10)))⟩, ⟨(some 105), none, (.q (.bin .add (.t 104) (.c (.int .i64 1))))⟩, ⟨(some 10), none, (.q (.mov (.t 105)))⟩] [0, 1, 2, 7, 8, 10]))))))
            .skip))))))))
        (.reg 4 [⟨(some 15), none, (.q (.mov (.t 8)))⟩, ⟨(some 16), none, (.q (.bin .add (.t 15) (.c (.int .i64 1))))⟩, ⟨(some 8), none, (.q (.mov (.t 16)))⟩] [0, 1, 2, 7, 8]))))))
   (.seq
    (.reg 24 [⟨(some 6), none, (.q (.mov (.c (.bool false))))⟩] [6])
    .ret))))
theorem fok78 : FOK Tryd.prog 78 (133, ic78, [(.t 6)]) := .mk (pf := []) (an := [(0, [0, 1, 2]), (1, [0, 1, 2, 7]), (2, [0, 1, 2, 7, 8]), (3, [0, 1, 2, 7, 8, 14]), (4, [0, 1, 2, 7, 8]), (5, [0, 1, 2, 7, 8, 32]), (6, [0, 1, 2, 7, 8]), (7, [0, 1, 2, 7, 8, 37]), (8, [6]), (9, [0, 1, 2, 7, 8, 41]), (10, [6]), (11, [0, 1, 2, 7, 8]), (12, [0, 1, 2, 7, 8, 61]), (13, [0, 1, 2, 7, 8, 9]), (14, [0, 1, 2, 7, 8, 9, 65]), (15, [0, 1, 2, 7, 8, 9]), (16, [0, 1, 2, 7, 8, 9, 78]), (17, [0, 1, 2, 7, 8, 9]), (18, [0, 1, 2, 7, 8, 98]), (19, [0, 1, 2, 7, 8, 10]), (20, [0, 1, 2, 7, 8, 10, 103]), (21, [0, 1, 2, 7, 8, 10]), (22, [0, 1, 2, 7, 8, 10, 116]), (23, [0, 1, 2, 7, 8, 10]), (24, [6])]) (by kernel_rfl) (fnOK_of Tryd.func78 (by kernel_rfl) (by kernel_rfl) (by kernel_rfl))
/-- cmp.Less[string] -/
def ic79 : IC :=
(.seq
 (.reg 0 [⟨(some 4), none, (.q (.mov (.c (.bool false))))⟩] [0, 1])
 (.seq
  (.reg 1 [⟨(some 5), none, (.q (.mov (.t 0)))⟩, ⟨(some 6), none, (.call 97 [(.t 5)])⟩, ⟨(some 7), none, (.q (.mov (.t 6)))⟩, ⟨(some 8), (some ⟨7, true⟩), (.q (.mov (.t 1)))⟩, ⟨(some 9), (some ⟨7, true⟩), (.call 97 [(.t 8)])⟩, ⟨(some 10), (some ⟨7, true⟩), (.q (.not (.t 9)))⟩, ⟨(some 11), none, (.q (.pick (.t 7) (.t 10) (.c (.bool false))))⟩, ⟨(some 12), none, (.q (.mov (.t 11)))⟩, ⟨(some 13), (some ⟨12, false⟩), (.q (.mov (.t 0)))⟩, ⟨(some 14), (some ⟨12, false⟩), (.q (.mov (.t 1)))⟩, ⟨(some 15), (some ⟨12, false⟩), (.q (.bin .lss (.t 13) (.t 14)))⟩, ⟨(some 16), none, (.q (.pick (.t 12) (.c (.bool true)) (.t 15)))⟩, ⟨(some 4), none, (.q (.mov (.t 16)))⟩] [4])
  .ret))
theorem fok79 : FOK Tryd.prog 79 (17, ic79, [(.t 4)]) := .mk (pf := []) (an := [(0, [0, 1]), (1, [4])]) (by kernel_rfl) (fnOK_of Tryd.func79 (by kernel_rfl) (by kernel_rfl) (by kernel_rfl))
/-- slices.partitionEqualOrdered[string] -/
def ic80 : IC :=
(.seq
 (.reg 0 [⟨(some 8), none, (.q (.mov (.c (.int .i64 0))))⟩] [0, 1, 2, 3])
 (.seq
  (.dreg 1 [⟨(some 11), none, (.q (.mov (.t 0)))⟩, ⟨(some 12), none, (.q (.mov (.t 1)))⟩, ⟨(some 13), none, (.q (.mov (.t 0)))⟩, ⟨(some 14), none, (.q (.mov (.t 3)))⟩, ⟨(some 15), none, (.q (.mov (.t 0)))⟩, ⟨(some 16), none, (.q (.mov (.t 3)))⟩, ⟨(some 17), none, (.q (.iaddr 1 (.t 15) (.t 16)))⟩, ⟨(some 18), none, (.q (.load none (.t 17)))⟩, ⟨(some 19), none, (.q (.mov (.t 0)))⟩, ⟨(some 20), none, (.q (.mov (.t 1)))⟩, ⟨(some 21), none, (.q (.iaddr 1 (.t 19) (.t 20)))⟩, ⟨(some 22), none, (.q (.load none (.t 21)))⟩, ⟨(some 23), none, (.q (.iaddr 1 (.t 11) (.t 12)))⟩, ⟨none, none, (.store 1 (.t 23) (.t 18))⟩, ⟨(some 24), none, (.q (.iaddr 1 (.t 13) (.t 14)))⟩, ⟨none, none, (.store 1 (.t 24) (.t 22))⟩] false [0, 1, 2])
  (.seq
   (.reg 2 [⟨(some 25), none, (.q (.mov (.t 1)))⟩, ⟨(some 26), none, (.q (.bin .add (.t 25) (.c (.int .i64 1))))⟩, ⟨(some 27), none, (.q (.mov (.t 2)))⟩, ⟨(some 28), none, (.q (.bin .sub (.t 27) (.c (.int .i64 1))))⟩, ⟨(some 9), none, (.q (.mov (.t 26)))⟩, ⟨(some 10), none, (.q (.mov (.t 28)))⟩] [0, 1, 9, 10])
   (.seq
    (.block 0
     (.loop
      (.block 1
       (.seq
        (.block 2
         (.loop
          (.seq
           (.seq
            (.dreg 3 [⟨(some 29), none, (.q (.mov (.t 9)))⟩, ⟨(some 30), none, (.q (.mov (.t 10)))⟩, ⟨(some 31), none, (.q (.bin .leq (.t 29) (.t 30)))⟩, ⟨(some 32), none, (.q (.mov (.t 31)))⟩, ⟨(some 33), (some ⟨32, true⟩), (.q (.mov (.t 0)))⟩, ⟨(some 34), (some ⟨32, true⟩), (.q (.mov (.t 1)))⟩, ⟨(some 35), (some ⟨32, true⟩), (.q (.iaddr 1 (.t 33) (.t 34)))⟩, ⟨(some 36), (some ⟨32, true⟩), (.q (.load none (.t 35)))⟩, ⟨(some 37), (some ⟨32, true⟩), (.q (.mov (.t 0)))⟩, ⟨(some 38), (some ⟨32, true⟩), (.q (.mov (.t 9)))⟩, ⟨(some 39), (some ⟨32, true⟩), (.q (.iaddr 1 (.t 37) (.t 38)))⟩, ⟨(some 40), (some ⟨32, true⟩), (.q (.load none (.t 39)))⟩, ⟨(some 41), (some ⟨32, true⟩), (.call 79 [(.t 36), (.t 40)])⟩, ⟨(some 42), (some ⟨32, true⟩), (.q (.not (.t 41)))⟩, ⟨(some 43), none, (.q (.pick (.t 32) (.t 42) (.c (.bool false))))⟩] false [0, 1, 9, 10, 43])
            (.cond (.t 43)
            .skip
            (.exit 2)))
           (.block 3
            (.reg 4 [⟨(some 44), none, (.q (.mov (.t 9)))⟩, ⟨(some 45), none, (.q (.bin .add (.t 44) (.c (.int .i64 1))))⟩, ⟨(some 9), none, (.q (.mov (.t 45)))⟩] [0, 1, 9, 10])))))
        (.seq
         (.block 4
          (.loop
           (.seq
            (.seq
            (.dreg 5 [⟨(some 46), none, (.q (.mov (.t 9)))⟩, ⟨(some 47), none, (.q (.mov (.t 10)))⟩, ⟨(some 48), none, (.q (.bin .leq (.t 46) (.t 47)))⟩, ⟨(some 49), none, (.q (.mov (.t 48)))⟩, ⟨(some 50), (some ⟨49, true⟩), (.q (.mov (.t 0)))⟩, ⟨(some 51), (some ⟨49, true⟩), (.q (.mov (.t 1)))⟩, ⟨(some 52), (some ⟨49, true⟩), (.q (.iaddr 1 (.t 50) (.t 51)))⟩, ⟨(some 53), (some ⟨49, true⟩), (.q (.load none (.t 52)))⟩, ⟨(some 54), (some ⟨49, true⟩), (.q (.mov (.t 0)))⟩, ⟨(some 55), (some ⟨49, true⟩), (.q (.mov (.t 10)))⟩, ⟨(some 56), (some ⟨49, true⟩), (.q (.iaddr 1 (.t 54) (.t 55)))⟩, ⟨(some 57), (some ⟨49, true⟩), (.q (.load none (.t 56)))⟩, ⟨(some 58), (some ⟨49, true⟩), (.call 79 [(.t 53), (.t 57)])⟩, ⟨(some 59), none, (.q (.pick (.t 49) (.t 58) (.c (.bool false))))⟩] false [0, 1, 9, 10, 59])
            (.cond (.t 59)
            .skip
            (.exit 4)))
            (.block 5
            (.reg 6 [⟨(some 60), none, (.q (.mov (.t 10)))⟩, ⟨(some 61), none, (.q (.bin .sub (.t 60) (.c (.int .i64 1))))⟩, ⟨(some 10), none, (.q (.mov (.t 61)))⟩] [0, 1, 9, 10])))))
         (.seq
          (.seq
           (.reg 7 [⟨(some 62), none, (.q (.mov (.t 9)))⟩, ⟨(some 63), none, (.q (.mov (.t 10)))⟩, ⟨(some 64), none, (.q (.bin .gtr (.t 62) (.t 63)))⟩] [0, 1, 9, 10, 64])
           (.cond (.t 64)
            (.exit 0)
            .skip))
          (.seq
           (.dreg 8 [⟨(some 65), none, (.q (.mov (.t 0)))⟩, ⟨(some 66), none, (.q (.mov (.t 9)))⟩, ⟨(some 67), none, (.q (.mov (.t 0)))⟩, ⟨(some 68), none, (.q (.mov (.t 10)))⟩, ⟨(some 69), none, (.q (.mov (.t 0)))⟩, ⟨(some 70), none, (.q (.mov (.t 10)))⟩, ⟨(some 71), none, (.q (.iaddr 1 (.t 69) (.t 70)))⟩, ⟨(some 72), none, (.q (.load none (.t 71)))⟩, ⟨(some 73), none, (.q (.mov (.t 0)))⟩, ⟨(some 74), none, (.q (.mov (.t 9)))⟩, ⟨(some 75), none, (.q (.iaddr 1 (.t 73) (.t 74)))⟩, ⟨(some 76), none, (.q (.load none (.t 75)))⟩, ⟨(some 77), none, (.q (.iaddr 1 (.t 65) (.t 66)))⟩, ⟨none, none, (.store 1 (.t 77) (.t 72))⟩, ⟨(some 78), none, (.q (.iaddr 1 (.t 67) (.t 68)))⟩, ⟨none, none, (.store 1 (.t 78) (.t 76))⟩] false [0, 1, 9, 10])
           (.seq
            (.reg 9 [⟨(some 79), none, (.q (.mov (.t 9)))⟩, ⟨(some 80), none, (.q (.bin .add (.t 79) (.c (.int .i64 1))))⟩, ⟨(some 9), none, (.q (.mov (.t 80)))⟩] [0, 1, 9, 10])
            (.reg 10 [⟨(some 81), none, (.q (.mov (.t 10)))⟩, ⟨(some 82), none, (.q (.bin .sub (.t 81) (.c (.int .i64 1))))⟩, ⟨(some 10), none, (.q (.mov (.t 82)))⟩] [0, 1, 9, 10])))))))))
    (.seq
     (.reg 11 [⟨(some 83), none, (.q (.mov (.t 9)))⟩, ⟨(some 8), none, (.q (.mov (.t 83)))⟩] [8])
     .ret)))))
theorem fok80 : FOK Tryd.prog 80 (84, ic80, [(.t 8)]) := .mk (pf := []) (an := [(0, [0, 1, 2, 3]), (1, [0, 1, 2]), (2, [0, 1, 9, 10]), (3, [0, 1, 9, 10, 43]), (4, [0, 1, 9, 10]), (5, [0, 1, 9, 10, 59]), (6, [0, 1, 9, 10]), (7, [0, 1, 9, 10, 64]), (8, [0, 1, 9, 10]), (9, [0, 1, 9, 10]), (10, [0, 1, 9, 10]), (11, [8])]) (by kernel_rfl) (fnOK_of Tryd.func80 (by kernel_rfl) (by kernel_rfl) (by kernel_rfl))
/-- slices.partitionOrdered[string] -/
def ic81 : IC :=
(.seq
 (.reg 0 [⟨(some 8), none, (.q (.mov (.c (.int .i64 0))))⟩, ⟨(some 9), none, (.q (.mov (.c (.bool false))))⟩] [0, 1, 2, 3])
 (.seq
  (.dreg 1 [⟨(some 12), none, (.q (.mov (.t 0)))⟩, ⟨(some 13), none, (.q (.mov (.t 1)))⟩, ⟨(some 14), none, (.q (.mov (.t 0)))⟩, ⟨(some 15), none, (.q (.mov (.t 3)))⟩, ⟨(some 16), none, (.q (.mov (.t 0)))⟩, ⟨(some 17), none, (.q (.mov (.t 3)))⟩, ⟨(some 18), none, (.q (.iaddr 1 (.t 16) (.t 17)))⟩, ⟨(some 19), none, (.q (.load none (.t 18)))⟩, ⟨(some 20), none, (.q (.mov (.t 0)))⟩, ⟨(some 21), none, (.q (.mov (.t 1)))⟩, ⟨(some 22), none, (.q (.iaddr 1 (.t 20) (.t 21)))⟩, ⟨(some 23), none, (.q (.load none (.t 22)))⟩, ⟨(some 24), none, (.q (.iaddr 1 (.t 12) (.t 13)))⟩, ⟨none, none, (.store 1 (.t 24) (.t 19))⟩, ⟨(some 25), none, (.q (.iaddr 1 (.t 14) (.t 15)))⟩, ⟨none, none, (.store 1 (.t 25) (.t 23))⟩] false [0, 1, 2])
  (.seq
   (.reg 2 [⟨(some 26), none, (.q (.mov (.t 1)))⟩, ⟨(some 27), none, (.q (.bin .add (.t 26) (.c (.int .i64 1))))⟩, ⟨(some 28), none, (.q (.mov (.t 2)))⟩, ⟨(some 29), none, (.q (.bin .sub (.t 28) (.c (.int .i64 1))))⟩, ⟨(some 10), none, (.q (.mov (.t 27)))⟩, ⟨(some 11), none, (.q (.mov (.t 29)))⟩] [0, 1, 10, 11])
   (.seq
    (.block 0
     (.loop
      (.seq
       (.seq
        (.dreg 3 [⟨(some 30), none, (.q (.mov (.t 10)))⟩, ⟨(some 31), none, (.q (.mov (.t 11)))⟩, ⟨(some 32), none, (.q (.bin .leq (.t 30) (.t 31)))⟩, ⟨(some 33), none, (.q (.mov (.t 32)))⟩, ⟨(some 34), (some ⟨33, true⟩), (.q (.mov (.t 0)))⟩, ⟨(some 35), (some ⟨33, true⟩), (.q (.mov (.t 10)))⟩, ⟨(some 36), (some ⟨33, true⟩), (.q (.iaddr 1 (.t 34) (.t 35)))⟩, ⟨(some 37), (some ⟨33, true⟩), (.q (.load none (.t 36)))⟩, ⟨(some 38), (some ⟨33, true⟩), (.q (.mov (.t 0)))⟩, ⟨(some 39), (some ⟨33, true⟩), (.q (.mov (.t 1)))⟩, ⟨(some 40), (some ⟨33, true⟩), (.q (.iaddr 1 (.t 38) (.t 39)))⟩, ⟨(some 41), (some ⟨33, true⟩), (.q (.load none (.t 40)))⟩, ⟨(some 42), (some ⟨33, true⟩), (.call 79 [(.t 37), (.t 41)])⟩, ⟨(some 43), none, (.q (.pick (.t 33) (.t 42) (.c (.bool false))))⟩] false [0, 1, 10, 11, 43])
        (.cond (.t 43)
         .skip
         (.exit 0)))
       (.block 1
        (.reg 4 [⟨(some 44), none, (.q (.mov (.t 10)))⟩, ⟨(some 45), none, (.q (.bin .add (.t 44) (.c (.int .i64 1))))⟩, ⟨(some 10), none, (.q (.mov (.t 45)))⟩] [0, 1, 10, 11])))))
    (.seq
     (.block 2
      (.loop
       (.seq
        (.seq
         (.dreg 5 [⟨(some 46), none, (.q (.mov (.t 10)))⟩, ⟨(some 47), none, (.q (.mov (.t 11)))⟩, ⟨(some 48), none, (.q (.bin .leq (.t 46) (.t 47)))⟩, ⟨(some 49), none, (.q (.mov (.t 48)))⟩, ⟨(some 50), (some ⟨49, true⟩), (.q (.mov (.t 0)))⟩, ⟨(some 51), (some ⟨49, true⟩), (.q (.mov (.t 11)))⟩, ⟨(some 52), (some ⟨49, true⟩), (.q (.iaddr 1 (.t 50) (.t 51)))⟩, ⟨(some 53), (some ⟨49, true⟩), (.q (.load none (.t 52)))⟩, ⟨(some 54), (some ⟨49, true⟩), (.q (.mov (.t 0)))⟩, ⟨(some 55), (some ⟨49, true⟩), (.q (.mov (.t 1)))⟩, ⟨(some 56), (some ⟨49, true⟩), (.q (.iaddr 1 (.t 54) (.t 55)))⟩, ⟨(some 57), (some ⟨49, true⟩), (.q (.load none (.t 56)))⟩, ⟨(some 58), (some ⟨49, true⟩), (.call 79 [(.t 53), (.t 57)])⟩, ⟨(some 59), (some ⟨49, true⟩), (.q (.not (.t 58)))⟩, ⟨(some 60), none, (.q (.pick (.t 49) (.t 59) (.c (.bool false))))⟩] false [0, 1, 10, 11, 60])
         (.cond (.t 60)
          .skip
          (.exit 2)))
        (.block 3
         (.reg 6 [⟨(some 61), none, (.q (.mov (.t 11)))⟩, ⟨(some 62), none, (.q (.bin .sub (.t 61) (.c (.int .i64 1))))⟩, ⟨(some 11), none, (.q (.mov (.t 62)))⟩] [0, 1, 10, 11])))))
     (.seq
      (.seq
       (.reg 7 [⟨(some 63), none, (.q (.mov (.t 10)))⟩, ⟨(some 64), none, (.q (.mov (.t 11)))⟩, ⟨(some 65), none, (.q (.bin .gtr (.t 63) (.t 64)))⟩] [0, 1, 10, 11, 65])
       (.cond (.t 65)
        (.seq
         (.dreg 8 [⟨(some 66), none, (.q (.mov (.t 0)))⟩, ⟨(some 67), none, (.q (.mov (.t 11)))⟩, ⟨(some 68), none, (.q (.mov (.t 0)))⟩, ⟨(some 69), none, (.q (.mov (.t 1)))⟩, ⟨(some 70), none, (.q (.mov (.t 0)))⟩, ⟨(some 71), none, (.q (.mov (.t 1)))⟩, ⟨(some 72), none, (.q (.iaddr 1 (.t 70) (.t 71)))⟩, ⟨(some 73), none, (.q (.load none (.t 72)))⟩, ⟨(some 74), none, (.q (.mov (.t 0)))⟩, ⟨(some 75), none, (.q (.mov (.t 11)))⟩, ⟨(some 76), none, (.q (.iaddr 1 (.t 74) (.t 75)))⟩, ⟨(some 77), none, (.q (.load none (.t 76)))⟩, ⟨(some 78), none, (.q (.iaddr 1 (.t 66) (.t 67)))⟩, ⟨none, none, (.store 1 (.t 78) (.t 73))⟩, ⟨(some 79), none, (.q (.iaddr 1 (.t 68) (.t 69)))⟩, ⟨none, none, (.store 1 (.t 79) (.t 77))⟩] false [11])
         (.seq
          (.reg 9 [⟨(some 80), none, (.q (.mov (.t 11)))⟩, ⟨(some 8), none, (.q (.mov (.t 80)))⟩, ⟨(some 9), none, (.q (.mov (.c (.bool true))))⟩] [8, 9])
          .ret))
        .skip))
      (.seq
       (.dreg 10 [⟨(some 81), none, (.q (.mov (.t 0)))⟩, ⟨(some 82), none, (.q (.mov (.t 10)))⟩, ⟨(some 83), none, (.q (.mov (.t 0)))⟩, ⟨(some 84), none, (.q (.mov (.t 11)))⟩, ⟨(some 85), none, (.q (.mov (.t 0)))⟩, ⟨(some 86), none, (.q (.mov (.t 11)))⟩, ⟨(some 87), none, (.q (.iaddr 1 (.t 85) (.t 86)))⟩, ⟨(some 88), none, (.q (.load none (.t 87)))⟩, ⟨(some 89), none, (.q (.mov (.t 0)))⟩, ⟨(some 90), none, (.q (.mov (.t 10)))⟩, ⟨(some 91), none, (.q (.iaddr 1 (.t 89) (.t 90)))⟩, ⟨(some 92), none, (.q (.load none (.t 91)))⟩, ⟨(some 93), none, (.q (.iaddr 1 (.t 81) (.t 82)))⟩, ⟨none, none, (.store 1 (.t 93) (.t 88))⟩, ⟨(some 94), none, (.q (.iaddr 1 (.t 83) (.t 84)))⟩, ⟨none, none, (.store 1 (.t 94) (.t 92))⟩] false [0, 1, 10, 11])
       (.seq
        (.reg 11 [⟨(some 95), none, (.q (.mov (.t 10)))⟩, ⟨(some 96), none, (.q (.bin .add (.t 95) (.c (.int .i64 1))))⟩, ⟨(some 10), none, (.q (.mov (.t 96)))⟩] [0, 1, 10, 11])
        (.seq
         (.reg 12 [⟨(some 97), none, (.q (.mov (.t 11)))⟩, ⟨(some 98), none, (.q (.bin .sub (.t 97) (.c (.int .i64 1))))⟩, ⟨(some 11), none, (.q (.mov (.t 98)))⟩] [0, 1, 10, 11])
         (.seq
          (.block 4
           (.loop
            (.block 5
            (.seq
            (.block 6
            (.loop
            (.seq
            (.seq
            (.dreg 13 [⟨(some 99), none, (.q (.mov (.t 10)))⟩, ⟨(some 100), none, (.q (.mov (.t 11)))⟩, ⟨(some 101), none, (.q (.bin .leq (.t 99) (.t 100)))⟩, ⟨(some 102), none, (.q (.mov (.t 101)))⟩, ⟨(some 103), (some ⟨102, true⟩), (.q (.mov (.t 0)))⟩, ⟨(some 104), (some ⟨102, true⟩), (.q (.mov (.t 10)))⟩, ⟨(some 105), (some ⟨102, true⟩), (.q (.iaddr 1 (.t 103) (.t 104)))⟩, ⟨(some 106), (some ⟨102, true⟩), (.q (.load none (.t 105)))⟩, ⟨(some 107), (some ⟨102, true⟩), (.q (.mov (.t 0)))⟩, ⟨(some 108), (some ⟨102, true⟩), (.q (.mov (.t 1)))⟩, ⟨(some 109), (some ⟨102, true⟩), (.q (.iaddr 1 (.t 107) (.t 108)))⟩, ⟨(some 110), (some ⟨102, true⟩), (.q (.load none (.t 109)))⟩, ⟨(some 111), (some ⟨102, true⟩), (.call 79 [(.t 106), (.t 110)])⟩, ⟨(some 112), none, (.q (.pick (.t 102) (.t 111) (.c (.bool false))))⟩] false [0, 1, 10, 11, 112])
            (.cond (.t 112)
            .skip
            (.exit 6)))
            (.block 7
            (.reg 14 [⟨(some 113), none, (.q (.mov (.t 10)))⟩, ⟨(some 114), none, (.q (.bin .add (.t 113) (.c (.int .i64 1))))⟩, ⟨(some 10), none, (.q (.mov (.t 114)))⟩] [0, 1, 10, 11])))))
            (.seq
            (.block 8
            (.loop
            (.seq
            (.seq
            (.dreg 15 [⟨(some 115), none, (.q (.mov (.t 10)))⟩, ⟨(some 116), none, (.q (.mov (.t 11)))⟩, ⟨(some 117), none, (.q (.bin .leq (.t 115) (.t 116)))⟩, ⟨(some 118), none, (.q (.mov (.t 117)))⟩, ⟨(some 119), (some ⟨118, true⟩), (.q (.mov (.t 0)))⟩, ⟨(some 120), (some ⟨118, true⟩), (.q (.mov (.t 11)))⟩, ⟨(some 121), (some ⟨118, true⟩), (.q (.iaddr 1 (.t 119) (.t 120)))⟩, ⟨(some 122), (some ⟨118, true⟩), (.q (.load none (.t 121)))⟩, ⟨(some 123), (some ⟨118, true⟩), (.q (.mov (.t 0)))⟩, ⟨(some 124), (some ⟨118, true⟩), (.q (.mov (.t 1)))⟩, ⟨(some 125), (some ⟨118, true⟩), (.q (.iaddr 1 (.t 123) (.t 124)))⟩, ⟨(some 126), (some ⟨118, true⟩), (.q (.load none (.t 125)))⟩, ⟨(some 127), (some ⟨118, true⟩), (.call 79 [(.t 122), (.t 126)])⟩, ⟨(some 128), (some ⟨118, true⟩), (.q (.not (.t 127)))⟩, ⟨(some 129), none, (.q (.pick (.t 118) (.t 128) (.c (.bool false))))⟩] false [0, 1, 10, 11, 129])
            (.cond (.t 129)
            .skip
            (.exit 8)))
            (.block 9
            (.reg 16 [⟨(some 130), none, (.q (.mov (.t 11)))⟩, ⟨(some 131), none, (.q (.bin .sub (.t 130) (.c (.int .i64 1))))⟩, ⟨(some 11), none, (.q (.mov (.t 131)))⟩] [0, 1, 10, 11])))))
            (.seq
            (.seq
            (.reg 17 [⟨(some 132), none, (.q (.mov (.t 10)))⟩, ⟨(some 133), none, (.q (.mov (.t 11)))⟩, ⟨(some 134), none, (.q (.bin .gtr (.t 132) (.t 133)))⟩] [0, 1, 10, 11, 134])
            (.cond (.t 134)
            (.exit 4)
            .skip))
            (.seq
            (.dreg 18 [⟨(some 135), none, (.q (.mov (.t 0)))⟩, ⟨(some 136), none, (.q (.mov (.t 10)))⟩, ⟨(some 137), none, (.q (.mov (.t 0)))⟩, ⟨(some 138), none, (.q (.mov (.t 11)))⟩, ⟨(some 139), none, (.q (.mov (.t 0)))⟩, ⟨(some 140), none, (.q (.mov (.t 11)))⟩, ⟨(some 141), none, (.q (.iaddr 1 (.t 139) (.t 140)))⟩, ⟨(some 142), none, (.q (.load none (.t 141)))⟩, ⟨(some 143), none, (.q (.mov (.t 0)))⟩, ⟨(some 144), none, (.q (.mov (.t 10)))⟩, ⟨(some 145), none, (.q (.iaddr 1 (.t 143) (.t 144)))⟩, ⟨(some 146), none, (.q (.load none (.t 145)))⟩, ⟨(some 147), none, (.q (.iaddr 1 (.t 135) (.t 136)))⟩, ⟨none, none, (.store 1 (.t 147) (.t 142))⟩, ⟨(some 148), none, (.q (.iaddr 1 (.t 137) (.t 138)))⟩, ⟨none, none, (.store 1 (.t 148) (.t 146))⟩] false [0, 1, 10, 11])
            (.seq
            (.reg 19 [⟨(some 149), none, (.q (.mov (.t 10)))⟩, ⟨(some 150), none, (.q (.bin .add (.t 149) (.c (.int .i64 1))))⟩, ⟨(some 10), none, (.q (.mov (.t 150)))⟩] [0, 1, 10, 11])
            (.reg 20 [⟨(some 151), none, (.q (.mov (.t 11)))⟩, ⟨(some 152), none, (.q (.bin .sub (.t 151) (.c (.int .i64 1))))⟩, ⟨(some 11), none, (.q (.mov (.t 152)))⟩] [0, 1, 10, 11])))))))))
          (.seq
           (.dreg 21 [⟨(some 153), none, (.q (.mov (.t 0)))⟩, ⟨(some 154), none, (.q (.mov (.t 11)))⟩, ⟨(some 155), none, (.q (.mov (.t 0)))⟩, ⟨(some 156), none, (.q (.mov (.t 1)))⟩, ⟨(some 157), none, (.q (.mov (.t 0)))⟩, ⟨(some 158), none, (.q (.mov (.t 1)))⟩, ⟨(some 159), none, (.q (.iaddr 1 (.t 157) (.t 158)))⟩, ⟨(some 160), none, (.q (.load none (.t 159)))⟩, ⟨(some 161), none, (.q (.mov (.t 0)))⟩, ⟨(some 162), none, (.q (.mov (.t 11)))⟩, ⟨(some 163), none, (.q (.iaddr 1 (.t 161) (.t 162)))⟩, ⟨(some 164), none, (.q (.load none (.t 163)))⟩, ⟨(some 165), none, (.q (.iaddr 1 (.t 153) (.t 154)))⟩, ⟨none, none, (.store 1 (.t 165) (.t 160))⟩, ⟨(some 166), none, (.q (.iaddr 1 (.t 155) (.t 156)))⟩, ⟨none, none, (.store 1 (.t 166) (.t 164))⟩] false [11])
           (.seq
            (.reg 22 [⟨(some 167), none, (.q (.mov (.t 11)))⟩, ⟨(some 8), none, (.q (.mov (.t 167)))⟩, ⟨(some 9), none, (.q (.mov (.c (.bool false))))⟩] [8, 9])
            .ret))))))))))))
theorem fok81 : FOK Tryd.prog 81 (168, ic81, [(.t 8), (.t 9)]) := .mk (pf := []) (an := [(0, [0, 1, 2, 3]), (1, [0, 1, 2]), (2, [0, 1, 10, 11]), (3, [0, 1, 10, 11, 43]), (4, [0, 1, 10, 11]), (5, [0, 1, 10, 11, 60]), (6, [0, 1, 10, 11]), (7, [0, 1, 10, 11, 65]), (8, [11]), (9, [8, 9]), (10, [0, 1, 10, 11]), (11, [0, 1, 10, 11]), (12, [0, 1, 10, 11]), (13, [0, 1, 10, 11, 112]), (14, [0, 1, 10, 11]), (15, [0, 1, 10, 11, 129]), (16, [0, 1, 10, 11]), (17, [0, 1, 10, 11, 134]), (18, [0, 1, 10, 11]), (19, [0, 1, 10, 11]), (20, [0, 1, 10, 11]), (21, [11]), (22, [8, 9])]) (by kernel_rfl) (fnOK_of Tryd.func81 (by kernel_rfl) (by kernel_rfl) (by kernel_rfl))
end Go.Id.Tryd
