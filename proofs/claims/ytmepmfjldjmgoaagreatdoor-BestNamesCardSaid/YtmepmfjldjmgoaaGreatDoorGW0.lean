/- The compiled codes of functions, written by a program out of the given form. Conditions: none. -/
import Derived.Test.YtmepmfjldjmgoaaGreatDoorFwW
import Derived.Test.YtmepmfjldjmgoaaGreatDoorProg
set_option linter.all false
namespace Go.Id.Tryz
open Go Go.Id Go.Proofs
def allF0 : List Nat := List.range 412
def ic4 : IC :=
(.seq
(.reg 0 [oM 0 (cB false)] [])
(.seq
(.reg 1 [oK 17 (.call 16 [(.c .nilptr),(cI 1)]),oM 16 17,oQ 18 (.ext 0 16),oQ 19 (.ext 1 16),oK 1 (.alloc [(.bool false),.nilslice,.nilslice,(zI 0)]),oN (.store 4 1 18),oM 2 19] [2])
(.seq
(.seq
(.reg 2 [oK 20 (.call 17 []),oQ 21 (.not 20),oM 22 21,oQ 23 (.pick 22 (cB true) (cB false)),oM 24 23,oQ 25 (.pick 24 (cB true) (cB false)),oM 26 25,oQ 27 (.pick 26 (cB true) (cB false)),oM 28 27,gQ 29 28 false (.mov 2),gQ 30 28 false (.bin .neq 29 (cI 2)),oQ 31 (.pick 28 (cB true) 30),oM 32 31,gK 33 32 false (.call 18 [(.c .nilptr)]),gQ 34 32 false (.bin .neq 33 (cI 0)),oQ 35 (.pick 32 (cB true) 34)] [35])
(.cond 35
(.seq
(.reg 3 [oM 0 (cB false)] [0])
.ret)
.skip))
(.seq
(.reg 4 [oK 36 (.call 19 [(.c (.str [97,112,112])),(.c (.str [49]))]),oK 37 (.call 19 [(.c (.str [100,111,99])),(.c (.str [49]))]),oK 38 (.call 19 [(.c (.str [101,120,116,114,97])),(.c (.str [49]))]),oK 3 (.alloc [(.str []),(zI 0),(.str []),(.str []),(zU 0),(.str []),.nilslice,.nilslice,.nilslice,.nilslice,.nilslice,.nilslice,.nilslice,.nilslice,.nilslice]),oK 4 (.alloc [(.str []),(zI 0),(.str []),(.str []),(zU 0),(.str []),.nilslice,.nilslice,.nilslice,.nilslice,.nilslice,.nilslice,.nilslice,.nilslice,.nilslice]),oK 5 (.alloc [(.str []),(zI 0),(.str []),(.str []),(zU 0),(.str []),.nilslice,.nilslice,.nilslice,.nilslice,.nilslice,.nilslice,.nilslice,.nilslice,.nilslice]),oN (.store 15 3 36),oN (.store 15 4 37),oN (.store 15 5 38)] [3,4,5])
(.seq
(.reg 5 [oK 39 (.call 20 [(.c (.str [108,105,98]))]),oK 40 (.bslt 7 1 [(zU 0),(.str []),(zU 0),(zI 0),(.str []),(.str []),.nilslice] [⟨0,⟨7,39⟩⟩]),oQ 41 (.faddr 7 3),oN (.store 1 41 40)] [3,4,5])
(.seq
(.reg 6 [oK 42 (.call 20 [(.c (.str [100,111,99]))]),oK 43 (.bslt 7 1 [(zU 0),(.str []),(zU 0),(zI 0),(.str []),(.str []),.nilslice] [⟨0,⟨7,42⟩⟩]),oQ 44 (.faddr 10 3),oN (.store 1 44 43)] [3,4,5])
(.seq
(.reg 7 [oK 45 (.call 20 [(.c (.str [97,112,112]))]),oK 46 (.bslt 7 1 [(zU 0),(.str []),(zU 0),(zI 0),(.str []),(.str []),.nilslice] [⟨0,⟨7,45⟩⟩]),oQ 47 (.faddr 11 5),oN (.store 1 47 46)] [3,4,5])
(.seq
(.oreg 8 [(0,oQ 48 (.load (some 15) 3),0),(3,oQ 51 (.load (some 15) 4),0),(4,oQ 52 (.load (some 15) 5),0),(1,oK 49 (.call 19 [(.c (.str [108,105,98])),(.c (.str [49]))]),25),(2,oK 50 (.call 19 [(.c (.str [108,105,98])),(.c (.str [50]))]),25),(5,oK 53 (.call 19 [(.c (.str [111,116,104,101,114])),(.c (.str [49]))]),25),(6,oK 54 (.bsl 15 6 [(.str []),(zI 0),(.str []),(.str []),(zU 0),(.str []),.nilslice,.nilslice,.nilslice,.nilslice,.nilslice,.nilslice,.nilslice,.nilslice,.nilslice] [⟨0,⟨15,48⟩⟩,⟨15,⟨15,49⟩⟩,⟨30,⟨15,50⟩⟩,⟨45,⟨15,51⟩⟩,⟨60,⟨15,52⟩⟩,⟨75,⟨15,53⟩⟩]),0),(7,oQ 55 (.bld [(zI 0),.nilslice] [⟨1,⟨1,54⟩⟩]),0),(8,oK 56 (.bslt 2 1 [(zI 0),.nilslice] [⟨0,⟨2,55⟩⟩]),0),(9,oM 6 56,0)] [6])
(.seq
(.seq
(.reg 9 [oM 57 6,oK 58 (.bslt 1 4 [(zI 0)] [⟨0,⟨1,(cI 0)⟩⟩,⟨1,⟨1,(cI 2)⟩⟩,⟨2,⟨1,(cI 3)⟩⟩,⟨3,⟨1,(cI 4)⟩⟩]),oK 59 (.call 22 [(.c (zU 1)),(.c (.str [97,112,112]))]),oK 60 (.bslt 6 1 [(zU 0),(.str []),(zU 0),(zI 0),(.str []),(.str [])] [⟨0,⟨6,59⟩⟩]),oK 61 (.call 21 [57,(.c .nilslice),58,60]),oQ 62 (.not 61),oM 63 62,gQ 64 63 false (.mov 6),gK 65 63 false (.call 21 [64,(.c .nilslice),(.c .nilslice),(.c .nilslice)]),gQ 66 63 false (.not 65),oQ 67 (.pick 63 (cB true) 66),oM 68 67,gQ 69 68 false (.mov 6),gK 70 68 false (.bslt 1 1 [(zI 0)] [⟨0,⟨1,(cI 5)⟩⟩]),gK 71 68 false (.call 22 [(.c (zU 1)),(.c (.str [111,116,104,101,114]))]),gK 72 68 false (.bslt 6 1 [(zU 0),(.str []),(zU 0),(zI 0),(.str []),(.str [])] [⟨0,⟨6,71⟩⟩]),gK 73 68 false (.call 21 [69,(.c .nilslice),70,72]),gQ 74 68 false (.not 73),oQ 75 (.pick 68 (cB true) 74),oM 76 75,gQ 77 76 false (.mov 6),gK 78 76 false (.bslt 1 1 [(zI 0)] [⟨0,⟨1,(cI 2)⟩⟩]),gK 79 76 false (.call 22 [(.c (zU 1)),(.c (.str [108,105,98]))]),gK 80 76 false (.bslt 6 1 [(zU 0),(.str []),(zU 0),(zI 0),(.str []),(.str [])] [⟨0,⟨6,79⟩⟩]),gK 81 76 false (.call 21 [77,(.c .nilslice),78,80]),gQ 82 76 false (.not 81),oQ 83 (.pick 76 (cB true) 82)] [6,83])
(.cond 83
(.seq
(.reg 10 [oM 0 (cB false)] [0])
.ret)
.skip))
(.seq
(.oreg 11 [(0,oM 84 6,0),(1,oQ 85 (.iaddr 2 84 (cI 0)),0),(2,oQ 86 (.faddr 1 85),0),(3,oQ 87 (.load none 86),0),(4,oK 88 (.call 20 [(.c (.str [108,105,98]))]),8),(5,oK 89 (.bslt 7 1 [(zU 0),(.str []),(zU 0),(zI 0),(.str []),(.str []),.nilslice] [⟨0,⟨7,88⟩⟩]),0),(6,oQ 90 (.iaddr 15 87 (cI 3)),0),(7,oQ 91 (.faddr 8 90),0),(8,oN (.store 1 91 89),0)] [6])
(.seq
(.seq
(.reg 12 [oM 92 6,oK 93 (.bslt 1 3 [(zI 0)] [⟨0,⟨1,(cI 0)⟩⟩,⟨1,⟨1,(cI 2)⟩⟩,⟨2,⟨1,(cI 4)⟩⟩]),oK 94 (.call 22 [(.c (zU 1)),(.c (.str [97,112,112]))]),oK 95 (.bslt 6 1 [(zU 0),(.str []),(zU 0),(zI 0),(.str []),(.str [])] [⟨0,⟨6,94⟩⟩]),oK 96 (.call 21 [92,(.c .nilslice),93,95]),oQ 97 (.not 96),oM 98 97,gQ 99 98 false (.mov 6),gK 100 98 false (.bslt 1 3 [(zI 0)] [⟨0,⟨1,(cI 0)⟩⟩,⟨1,⟨1,(cI 1)⟩⟩,⟨2,⟨1,(cI 4)⟩⟩]),gK 101 98 false (.call 22 [(.c (zU 1)),(.c (.str [97,112,112]))]),gQ 102 98 false (.bld [(zI 0),(.str []),(.str [])] [⟨1,⟨1,(.c (.str [50]))⟩⟩]),gQ 103 98 false (.bld [(.str []),(zU 0),(zI 0),(.str []),(.str [])] [⟨0,⟨1,(.c (.str [108,105,98]))⟩⟩,⟨1,⟨1,(.c (zU 1))⟩⟩,⟨2,⟨3,102⟩⟩]),gQ 104 98 false (.bld [(zU 0),(.str []),(zU 0),(zI 0),(.str []),(.str [])] [⟨0,⟨1,(.c (zU 1))⟩⟩,⟨1,⟨5,103⟩⟩]),gK 105 98 false (.bslt 6 2 [(zU 0),(.str []),(zU 0),(zI 0),(.str []),(.str [])] [⟨0,⟨6,101⟩⟩,⟨6,⟨6,104⟩⟩]),gK 106 98 false (.call 21 [99,(.c .nilslice),100,105]),gQ 107 98 false (.not 106),oQ 108 (.pick 98 (cB true) 107)] [6,108])
(.cond 108
(.seq
(.reg 13 [oM 0 (cB false)] [0])
.ret)
.skip))
(.seq
(.reg 14 [oK 109 (.call 19 [(.c (.str [97,112,112])),(.c (.str [48]))]),oK 110 (.call 19 [(.c (.str [108,105,98])),(.c (.str [49]))]),oK 111 (.call 19 [(.c (.str [115,116,114,97,121])),(.c (.str [49]))]),oK 112 (.bslt 15 3 [(.str []),(zI 0),(.str []),(.str []),(zU 0),(.str []),.nilslice,.nilslice,.nilslice,.nilslice,.nilslice,.nilslice,.nilslice,.nilslice,.nilslice] [⟨0,⟨15,109⟩⟩,⟨15,⟨15,110⟩⟩,⟨30,⟨15,111⟩⟩]),oM 7 112] [6,7])
(.seq
(.seq
(.reg 15 [oM 113 6,oM 114 7,oK 115 (.bslt 1 3 [(zI 0)] [⟨0,⟨1,(cI 1)⟩⟩,⟨1,⟨1,(cI 2)⟩⟩,⟨2,⟨1,(cI 3)⟩⟩]),oK 116 (.call 22 [(.c (zU 3)),(.c (.str [97,112,112]))]),oK 117 (.bslt 6 1 [(zU 0),(.str []),(zU 0),(zI 0),(.str []),(.str [])] [⟨0,⟨6,116⟩⟩]),oK 118 (.call 21 [113,114,115,117]),oQ 119 (.not 118),oM 120 119,gQ 121 120 false (.mov 6),gQ 122 120 false (.mov 7),gK 123 120 false (.bslt 1 3 [(zI 0)] [⟨0,⟨1,(cI 0)⟩⟩,⟨1,⟨1,(cI 1)⟩⟩,⟨2,⟨1,(cI 2)⟩⟩]),gK 124 120 false (.call 21 [121,122,123,(.c .nilslice)]),gQ 125 120 false (.not 124),oQ 126 (.pick 120 (cB true) 125)] [6,126])
(.cond 126
(.seq
(.reg 16 [oM 0 (cB false)] [0])
.ret)
.skip))
(.seq
(.reg 17 [oM 128 6,oK 129 (.call 22 [(.c (zU 1)),(.c (.str [97,112,112]))]),oK 130 (.call 22 [(.c (zU 2)),(.c (.str [108,105,98]))]),oK 131 (.bslt 6 2 [(zU 0),(.str []),(zU 0),(zI 0),(.str []),(.str [])] [⟨0,⟨6,129⟩⟩,⟨6,⟨6,130⟩⟩]),oQ 132 (.bld [(zU 0),(.bool false),.nilslice,.nilslice,(zI 0)] [⟨0,⟨1,(.c (zU 2))⟩⟩,⟨2,⟨1,131⟩⟩]),oK 133 (.call 23 [128,(.c .nilslice),132]),oM 127 133,oQ 134 (.ext 0 127),oQ 135 (.ext 1 127),oM 8 134,oM 9 135] [8,9])
(.seq
(.reg 18 [oM 137 8,oK 138 (.call 16 [137,(cI 1099511627776)]),oM 136 138,oQ 139 (.ext 0 136),oQ 140 (.ext 1 136),oK 10 (.alloc [(.bool false),.nilslice,.nilslice,(zI 0)]),oN (.store 4 10 139),oM 11 140] [8,9,10,11])
(.seq
(.seq
(.reg 19 [oM 141 9,oQ 142 (.not 141),oM 143 142,gQ 144 143 false (.mov 11),gQ 145 143 false (.bin .neq 144 (cI 0)),oQ 146 (.pick 143 (cB true) 145),oM 147 146,gQ 148 147 false (.faddr 0 10),gQ 149 147 false (.load none 148),oQ 150 (.pick 147 (cB true) 149),oM 151 150,gQ 152 151 false (.faddr 1 10),gQ 153 151 false (.load none 152),gQ 154 151 false (.len 0 153),gQ 155 151 false (.faddr 2 10),gQ 156 151 false (.load none 155),gQ 157 151 false (.len 0 156),gQ 158 151 false (.bin .add 154 157),gQ 159 151 false (.bin .neq 158 (cI 0)),oQ 160 (.pick 151 (cB true) 159)] [8,160])
(.cond 160
(.seq
(.reg 20 [oM 0 (cB false)] [0])
.ret)
.skip))
(.seq
(.reg 21 [oM 162 8,oK 163 (.call 16 [162,(cI (-1))]),oM 161 163,oQ 164 (.ext 0 161),oQ 165 (.ext 1 161),oK 12 (.alloc [(.bool false),.nilslice,.nilslice,(zI 0)]),oN (.store 4 12 164),oM 13 165] [8,13])
(.seq
(.reg 22 [oM 167 8,oK 168 (.call 16 [167,(cI 1099511627777)]),oM 166 168,oQ 169 (.ext 0 166),oQ 170 (.ext 1 166),oK 14 (.alloc [(.bool false),.nilslice,.nilslice,(zI 0)]),oN (.store 4 14 169),oM 15 170] [13,15])
(.seq
(.reg 23 [oM 171 13,oQ 172 (.bin .eql 171 (cI 1)),oM 173 172,gQ 174 173 true (.mov 15),gQ 175 173 true (.bin .eql 174 (cI 1)),oQ 176 (.pick 173 175 (cB false)),oM 0 176] [0])
.ret)))))))))))))))))))
theorem fok4 : FOK Tryz.prog 4 (177,ic4,[(.t 0)]) := fokA [1000040,1000043,1000046,1000056,1000058,1000060,1000070,1000072,1000078,1000080,1000089,1000093,1000095,1000100,1000105,1000112,1000115,1000117,1000123,1000131,2000000] Tryz.func4
def ic5 : IC :=
(.seq
(.reg 0 [⟨(some 4),none,(.q (.mov (.c .nilptr)))⟩,⟨(some 5),none,(.q (.mov (.c (.int .i64 0))))⟩] [0,1])
(.seq
(.reg 1 [⟨(some 14),none,(.q (.mov (.t 1)))⟩,⟨(some 15),none,(.q (.len 0 (.t 14)))⟩,⟨(some 6),none,(.q (.mov (.t 15)))⟩] [0,1,6])
(.seq
(.seq
(.reg 2 [⟨(some 16),none,(.q (.mov (.t 0)))⟩,⟨(some 17),none,(.q (.len 0 (.t 16)))⟩,⟨(some 18),none,(.q (.mov (.c (.int .i64 0))))⟩] [0,1,6,16,17,18])
(.block 0
(.loop
(.seq
(.reg 3 [⟨(some 19),none,(.q (.bin .lss (.t 18) (.t 17)))⟩] [0,1,6,16,17,18,19])
(.seq
(.cond (.t 19)
.skip
(.exit 0))
(.seq
(.block 1
(.seq
(.reg 4 [⟨(some 20),none,(.q (.iaddr 2 (.t 16) (.t 18)))⟩,⟨(some 21),none,(.q (.load (some 2) (.t 20)))⟩,⟨(some 8),none,(.alloc [(.int .i64 0),.nilslice])⟩,⟨none,none,(.store 2 (.t 8) (.t 21))⟩] [0,1,6,8,16,17,18])
(.reg 5 [⟨(some 22),none,(.q (.mov (.t 6)))⟩,⟨(some 23),none,(.q (.faddr 1 (.t 8)))⟩,⟨(some 24),none,(.q (.load none (.t 23)))⟩,⟨(some 25),none,(.q (.len 0 (.t 24)))⟩,⟨(some 26),none,(.q (.bin .add (.t 22) (.t 25)))⟩,⟨(some 6),none,(.q (.mov (.t 26)))⟩] [0,1,6,16,17,18])))
(.reg 6 [⟨(some 27),none,(.q (.bin .add (.t 18) (.c (.int .i64 1))))⟩,⟨(some 18),none,(.q (.mov (.t 27)))⟩] [0,1,6,16,17,18])))))))
(.seq
(.seq
(.reg 7 [⟨(some 28),none,(.q (.mov (.t 0)))⟩,⟨(some 29),none,(.q (.len 0 (.t 28)))⟩,⟨(some 30),none,(.q (.bin .gtr (.t 29) (.c (.int .i64 16))))⟩,⟨(some 31),none,(.q (.mov (.t 30)))⟩,⟨(some 32),(some ⟨31,false⟩),(.q (.mov (.t 6)))⟩,⟨(some 33),(some ⟨31,false⟩),(.q (.bin .gtr (.t 32) (.c (.int .i64 256))))⟩,⟨(some 34),none,(.q (.pick (.t 31) (.c (.bool true)) (.t 33)))⟩] [0,1,34])
(.cond (.t 34)
(.seq
(.reg 8 [⟨(some 4),none,(.q (.mov (.c .nilptr)))⟩,⟨(some 5),none,(.q (.mov (.c (.int .i64 40))))⟩] [4,5])
.ret)
.skip))
(.seq
(.reg 9 [⟨(some 35),none,(.q (.mov (.t 1)))⟩,⟨(some 36),none,(.q (.len 0 (.t 35)))⟩,⟨(some 37),none,.mkmap⟩,⟨(some 38),none,(.q (.bld [.nilslice,(.int .i64 0),.nilmap] [⟨1,⟨1,(.t 36)⟩⟩,⟨2,⟨1,(.t 37)⟩⟩]))⟩,⟨(some 39),none,(.box (.t 38))⟩,⟨(some 9),none,(.q (.mov (.t 39)))⟩] [0,1,9])
(.seq
(.seq
(.reg 10 [⟨(some 40),none,(.q (.mov (.t 9)))⟩,⟨(some 41),none,(.q (.mov (.t 1)))⟩,⟨(some 42),none,(.call 24 [(.t 40),(.t 41),(.c (.int .i64 (-1))),(.c (.int .i64 1025))])⟩,⟨(some 10),none,(.q (.mov (.t 42)))⟩] [0,9,10])
(.seq
(.reg 11 [⟨(some 43),none,(.q (.mov (.t 10)))⟩,⟨(some 44),none,(.q (.bin .neq (.t 43) (.c (.int .i64 0))))⟩] [0,9,10,44])
(.cond (.t 44)
(.seq
(.reg 12 [⟨(some 45),none,(.q (.mov (.t 10)))⟩,⟨(some 4),none,(.q (.mov (.c .nilptr)))⟩,⟨(some 5),none,(.q (.mov (.t 45)))⟩] [4,5])
.ret)
.skip)))
(.seq
(.seq
(.reg 13 [⟨(some 46),none,(.q (.mov (.t 0)))⟩,⟨(some 47),none,(.q (.len 0 (.t 46)))⟩,⟨(some 48),none,(.q (.mov (.c (.int .i64 0))))⟩] [9,46,47,48])
(.block 2
(.loop
(.seq
(.reg 14 [⟨(some 49),none,(.q (.bin .lss (.t 48) (.t 47)))⟩] [9,46,47,48,49])
(.seq
(.cond (.t 49)
.skip
(.exit 2))
(.seq
(.block 3
(.seq
(.reg 15 [⟨(some 50),none,(.q (.mov (.t 48)))⟩,⟨(some 51),none,(.q (.iaddr 2 (.t 46) (.t 48)))⟩,⟨(some 52),none,(.q (.load (some 2) (.t 51)))⟩,⟨(some 12),none,(.alloc [(.int .i64 0),.nilslice])⟩,⟨(some 11),none,(.q (.mov (.t 50)))⟩,⟨none,none,(.store 2 (.t 12) (.t 52))⟩] [9,11,12,46,47,48])
(.seq
(.seq
(.reg 16 [⟨(some 53),none,(.q (.faddr 0 (.t 12)))⟩,⟨(some 54),none,(.q (.load none (.t 53)))⟩,⟨(some 55),none,(.q (.bin .lss (.t 54) (.c (.int .i64 0))))⟩,⟨(some 56),none,(.q (.mov (.t 55)))⟩,⟨(some 57),(some ⟨56,false⟩),(.q (.faddr 0 (.t 12)))⟩,⟨(some 58),(some ⟨56,false⟩),(.q (.load none (.t 57)))⟩,⟨(some 59),(some ⟨56,false⟩),(.q (.bin .gtr (.t 58) (.c (.int .i64 1024))))⟩,⟨(some 60),none,(.q (.pick (.t 56) (.c (.bool true)) (.t 59)))⟩] [9,11,12,46,47,48,60])
(.cond (.t 60)
(.seq
(.reg 17 [⟨(some 4),none,(.q (.mov (.c .nilptr)))⟩,⟨(some 5),none,(.q (.mov (.c (.int .i64 4))))⟩] [4,5])
.ret)
.skip))
(.seq
(.reg 18 [⟨(some 61),none,(.q (.mov (.t 9)))⟩,⟨(some 62),none,(.q (.faddr 1 (.t 12)))⟩,⟨(some 63),none,(.q (.load none (.t 62)))⟩,⟨(some 64),none,(.q (.mov (.t 11)))⟩,⟨(some 65),none,(.q (.faddr 0 (.t 12)))⟩,⟨(some 66),none,(.q (.load none (.t 65)))⟩,⟨(some 67),none,(.call 24 [(.t 61),(.t 63),(.t 64),(.t 66)])⟩,⟨(some 13),none,(.q (.mov (.t 67)))⟩] [9,13,46,47,48])
(.seq
(.reg 19 [⟨(some 68),none,(.q (.mov (.t 13)))⟩,⟨(some 69),none,(.q (.bin .neq (.t 68) (.c (.int .i64 0))))⟩] [9,13,46,47,48,69])
(.cond (.t 69)
(.seq
(.reg 20 [⟨(some 70),none,(.q (.mov (.t 13)))⟩,⟨(some 4),none,(.q (.mov (.c .nilptr)))⟩,⟨(some 5),none,(.q (.mov (.t 70)))⟩] [4,5])
.ret)
.skip))))))
(.reg 21 [⟨(some 71),none,(.q (.bin .add (.t 48) (.c (.int .i64 1))))⟩,⟨(some 48),none,(.q (.mov (.t 71)))⟩] [9,46,47,48])))))))
(.seq
(.reg 22 [⟨(some 72),none,(.q (.mov (.t 9)))⟩,⟨(some 4),none,(.q (.mov (.t 72)))⟩,⟨(some 5),none,(.q (.mov (.c (.int .i64 0))))⟩] [4,5])
.ret))))))))
theorem fok5 : FOK Tryz.prog 5 (73,ic5,[(.t 4),(.t 5)]) := .mk (pf := []) (an := [(0,[0,1]),(1,[0,1,6]),(2,[0,1,6,16,17,18]),(3,[0,1,6,16,17,18,19]),(4,[0,1,6,8,16,17,18]),(5,[0,1,6,16,17,18]),(6,[0,1,6,16,17,18]),(7,[0,1,34]),(8,[4,5]),(9,[0,1,9]),(10,[0,9,10]),(11,[0,9,10,44]),(12,[4,5]),(13,[9,46,47,48]),(14,[9,46,47,48,49]),(15,[9,11,12,46,47,48]),(16,[9,11,12,46,47,48,60]),(17,[4,5]),(18,[9,13,46,47,48]),(19,[9,13,46,47,48,69]),(20,[4,5]),(21,[9,46,47,48]),(22,[4,5])]) (by kernel_rfl) (fnOK_of Tryz.func5 (by kernel_rfl) (by kernel_rfl) (by kernel_rfl))
def ic7 : IC :=
(.seq
(.reg 0 [oK 2 (.boxt 0),oK 3 (.boxt 1),oM 4 (.c .nilptr),oM 5 (cI 0)] [2,3])
(.seq
(.block 0
(.seq
(.reg 1 [oQ 13 (.load none 2),oQ 14 (.isnil (.pointer 86) false 13),oM 12 14] [2,3,12])
(.cond 12
(.seq
(.reg 2 [oM 4 (.c .nilptr),oM 5 (cI 2)] [4,5])
.ret)
(.seq
(.reg 3 [oQ 16 (.faddr 0 3),oQ 17 (.load none 16),oK 18 (.call 25 [17]),oQ 19 (.not 18),oM 20 19,gQ 21 20 false (.faddr 4 3),gQ 22 20 false (.load none 21),gQ 23 20 false (.bin .lss 22 (cI 0)),oQ 24 (.pick 20 (cB true) 23),oM 25 24,gQ 26 25 false (.faddr 4 3),gQ 27 25 false (.load none 26),gQ 28 25 false (.bin .gtr 27 (cI 1099511627776)),oQ 29 (.pick 25 (cB true) 28),oM 15 29] [2,3,15])
(.cond 15
(.seq
(.reg 4 [oM 4 (.c .nilptr),oM 5 (cI 1)] [4,5])
.ret)
(.seq
(.reg 5 [oQ 31 (.faddr 2 3),oQ 32 (.load none 31),oQ 33 (.len 0 32),oQ 34 (.bin .gtr 33 (cI 64)),oM 35 34,gQ 36 35 false (.faddr 3 3),gQ 37 35 false (.load none 36),gQ 38 35 false (.len 0 37),gQ 39 35 false (.bin .gtr 38 (cI 64)),oQ 40 (.pick 35 (cB true) 39),oM 30 40] [2,3,30])
(.cond 30
(.seq
(.reg 6 [oM 4 (.c .nilptr),oM 5 (cI 40)] [4,5])
.ret)
(.seq
(.reg 7 [oQ 42 (.faddr 2 3),oQ 43 (.load none 42),oK 44 (.call 26 [43,(.f 27)]),oM 41 44] [2,3,41])
(.cond 41
(.seq
(.reg 8 [oM 4 (.c .nilptr),oM 5 (cI 4)] [4,5])
.ret)
(.seq
(.reg 9 [oQ 46 (.faddr 3 3),oQ 47 (.load none 46),oQ 48 (.mkf 30 [] [3,2]),oK 49 (.call 29 [47,48]),oM 45 49] [2,3,45])
(.cond 45
(.seq
(.reg 10 [oM 4 (.c .nilptr),oM 5 (cI 5)] [4,5])
.ret)
.skip)))))))))))
(.seq
(.reg 11 [oQ 51 (.load none 2),oK 52 (.call 33 [51]),oM 50 52,oQ 53 (.ext 0 50),oQ 54 (.ext 1 50),oM 6 53,oM 7 54] [2,3,6,7])
(.seq
(.seq
(.reg 12 [oM 55 7,oQ 56 (.bin .neq 55 (cI 0))] [2,3,6,7,56])
(.cond 56
(.seq
(.reg 13 [oM 57 7,oM 4 (.c .nilptr),oM 5 57] [4,5])
.ret)
.skip))
(.seq
(.oreg 14 [(0,oQ 58 (.load none 2),0),(1,oM 59 6,0),(2,oQ 60 (.load (some 5) 3),0),(3,oK 61 (.call 34 [60]),1),(4,oQ 62 (.bld [.nilptr,.nilptr,(zU 0),(.bool false),.nilslice,.nilslice,(zI 0),.nilslice] [⟨0,⟨1,58⟩⟩,⟨1,⟨1,59⟩⟩,⟨2,⟨5,61⟩⟩]),0),(5,oK 63 (.box 62),0),(6,oM 8 63,0)] [2,8])
(.seq
(.seq
(.reg 15 [oQ 64 (.load none 2),oK 65 (.call 35 [64]),oM 66 (cI 0)] [2,8,65,66])
(.block 1
(.loop
(.seq
(.reg 16 [oQ 67 (.bin .lss 66 65)] [2,8,65,66,67])
(.seq
(.cond 67
.skip
(.exit 1))
(.seq
(.block 2
(.seq
(.reg 17 [oM 68 66,oM 9 68] [2,8,9,65,66])
(.seq
(.reg 18 [oQ 70 (.load none 2),oM 71 9,oK 72 (.call 36 [70,71]),oM 69 72,oQ 73 (.ext 0 69),oQ 74 (.ext 1 69),oK 10 (.alloc [(.str []),(zI 0),(.str []),(.str []),(zU 0),(.str []),.nilslice,.nilslice,.nilslice,.nilslice,.nilslice,.nilslice,.nilslice,.nilslice,.nilslice]),oN (.store 15 10 73),oM 11 74] [2,8,10,11,65,66])
(.seq
(.seq
(.reg 19 [oM 75 11,oQ 76 (.bin .neq 75 (cI 0))] [2,8,10,11,65,66,76])
(.cond 76
(.seq
(.reg 20 [oM 77 11,oM 4 (.c .nilptr),oM 5 77] [4,5])
.ret)
.skip))
(.oreg 21 [(0,oM 78 8,0),(1,oM 79 8,0),(2,oQ 80 (.nchk 79),0),(3,oQ 81 (.faddr 7 80),0),(4,oQ 82 (.load none 81),0),(5,oQ 83 (.load (some 15) 10),0),(6,oK 84 (.bslt 15 1 [(.str []),(zI 0),(.str []),(.str []),(zU 0),(.str []),.nilslice,.nilslice,.nilslice,.nilslice,.nilslice,.nilslice,.nilslice,.nilslice,.nilslice] [⟨0,⟨15,83⟩⟩]),0),(7,oK 85 (.app 15 82 84),0),(8,oQ 86 (.nchk 78),0),(9,oQ 87 (.faddr 7 86),0),(10,oN (.store 1 87 85),0)] [2,8,65,66])))))
(.reg 22 [oQ 88 (.bin .add 66 (cI 1)),oM 66 88] [2,8,65,66])))))))
(.seq
(.reg 23 [oM 89 8,oM 4 89,oM 5 (cI 0)] [4,5])
.ret)))))))
theorem fok7 : FOK Tryz.prog 7 (90,ic7,[(.t 4),(.t 5)]) := fokA [1000002,1000003,1000084,2000000] Tryz.func7
def ic8 : IC :=
(.seq
(.reg 0 [oM 2 (.c .nilptr),oM 3 (cI 0)] [0])
(.seq
(.reg 1 [oM 14 0,oK 15 (.call 37 [14]),oM 13 15,oQ 16 (.ext 0 13),oQ 17 (.ext 1 13),oM 4 16,oM 5 17] [0,4,5])
(.seq
(.seq
(.reg 2 [oM 18 5,oQ 19 (.bin .neq 18 (cI 0))] [0,4,5,19])
(.cond 19
(.seq
(.reg 3 [oM 20 5,oM 2 (.c .nilptr),oM 3 20] [2,3])
.ret)
.skip))
(.seq
(.reg 4 [oM 22 0,oK 23 (.call 39 [22]),oK 24 (.call 38 [23]),oM 21 24,oQ 25 (.ext 0 21),oQ 26 (.ext 1 21),oM 6 25,oM 5 26] [0,4,5,6])
(.seq
(.seq
(.reg 5 [oM 27 5,oQ 28 (.bin .neq 27 (cI 0))] [0,4,5,6,28])
(.cond 28
(.seq
(.reg 6 [oM 29 5,oM 2 (.c .nilptr),oM 3 29] [2,3])
.ret)
.skip))
(.seq
(.reg 7 [oM 30 0,oM 31 4,oM 32 6,oM 33 4,oK 34 (.call 40 [33]),oQ 35 (.bld [.nilptr,.nilptr,.nilptr,.nilslice,.nilslice] [⟨0,⟨1,30⟩⟩,⟨1,⟨1,31⟩⟩,⟨2,⟨1,32⟩⟩,⟨3,⟨1,34⟩⟩]),oK 36 (.box 35),oM 7 36] [7])
(.seq
(.reg 8 [oK 37 .mkmap,oM 38 7,oQ 39 (.mkf 41 [38] []),oN (.mupd 1 37 (.c (zU 1)) 39),oM 40 7,oQ 41 (.mkf 42 [40] []),oN (.mupd 1 37 (.c (zU 2)) 41),oM 42 7,oQ 43 (.mkf 43 [42] []),oN (.mupd 1 37 (.c (zU 3)) 43),oM 44 7,oQ 45 (.mkf 44 [44] []),oN (.mupd 1 37 (.c (zU 4)) 45),oM 46 7,oQ 47 (.mkf 45 [46] []),oN (.mupd 1 37 (.c (zU 5)) 47),oM 48 7,oQ 49 (.mkf 46 [48] []),oN (.mupd 1 37 (.c (zU 6)) 49),oM 50 7,oQ 51 (.mkf 47 [50] []),oN (.mupd 1 37 (.c (zU 7)) 51),oM 52 37,oM 8 52] [7,8])
(.seq
(.seq
(.reg 9 [oM 53 7,oQ 54 (.nchk 53),oQ 55 (.faddr 3 54),oQ 56 (.load none 55),oQ 57 (.len 0 56),oM 58 (cI 0)] [7,8,56,57,58])
(.block 0
(.loop
(.seq
(.reg 10 [oQ 59 (.bin .lss 58 57)] [7,8,56,57,58,59])
(.seq
(.cond 59
.skip
(.exit 0))
(.seq
(.block 1
(.seq
(.reg 11 [oQ 60 (.iaddr 3 56 58),oQ 61 (.load (some 3) 60),oK 10 (.alloc [(zU 0),(zI 0),(zI 0)]),oN (.store 3 10 61)] [7,8,10,56,57,58])
(.seq
(.reg 12 [oM 63 8,oQ 64 (.faddr 0 10),oQ 65 (.load none 64),oQ 66 (.lkp 1 .nilfunc false 63 65),oQ 67 (.load (some 3) 10),oK 68 (.callv 66 [67]),oM 62 68,oQ 69 (.ext 0 62),oQ 70 (.ext 1 62),oM 11 69,oM 12 70] [7,8,11,12,56,57,58])
(.seq
(.seq
(.reg 13 [oM 71 12,oQ 72 (.bin .neq 71 (cI 0))] [7,8,11,12,56,57,58,72])
(.cond 72
(.seq
(.reg 14 [oM 73 12,oM 2 (.c .nilptr),oM 3 73] [2,3])
.ret)
.skip))
(.reg 15 [oM 74 7,oM 75 7,oQ 76 (.nchk 75),oQ 77 (.faddr 4 76),oQ 78 (.load none 77),oM 79 11,oK 80 (.bslt 1 1 [.nilslice] [⟨0,⟨1,79⟩⟩]),oK 81 (.app 1 78 80),oQ 82 (.nchk 74),oQ 83 (.faddr 4 82),oN (.store 1 83 81)] [7,8,56,57,58])))))
(.reg 16 [oQ 84 (.bin .add 58 (cI 1)),oM 58 84] [7,8,56,57,58])))))))
(.seq
(.reg 17 [oM 85 7,oM 2 85,oM 3 (cI 0)] [2,3])
.ret)))))))))
theorem fok8 : FOK Tryz.prog 8 (86,ic8,[(.t 2),(.t 3)]) := fokA [1000080,2000000] Tryz.func8
def ic9 : IC :=
(.seq
(.reg 0 [oM 4 (.c .nilslice),oM 5 (cI 0)] [0,1])
(.seq
(.seq
(.reg 1 [oM 14 0,oQ 15 (.isnil (.pointer 101) false 14),oM 16 15,gQ 17 16 false (.mov 1),gQ 18 16 false (.isnil (.pointer 114) false 17),oQ 19 (.pick 16 (cB true) 18)] [0,1,19])
(.cond 19
(.seq
(.reg 2 [oM 4 (.c .nilslice),oM 5 (cI 2)] [4,5])
.ret)
.skip))
(.seq
(.reg 3 [oM 21 0,oK 22 (.call 48 [21]),oM 20 22,oQ 23 (.ext 0 20),oQ 24 (.ext 1 20),oM 6 23,oM 7 24] [0,1,6,7])
(.seq
(.seq
(.reg 4 [oM 25 7,oQ 26 (.bin .neq 25 (cI 0))] [0,1,6,7,26])
(.cond 26
(.seq
(.reg 5 [oM 27 7,oM 4 (.c .nilslice),oM 5 27] [4,5])
.ret)
.skip))
(.seq
(.reg 6 [oM 29 0,oK 30 (.call 39 [29]),oK 31 (.call 49 [30]),oM 28 31,oQ 32 (.ext 0 28),oQ 33 (.ext 1 28),oM 8 32,oM 7 33] [0,1,6,7,8])
(.seq
(.seq
(.reg 7 [oM 34 7,oQ 35 (.bin .neq 34 (cI 0))] [0,1,6,7,8,35])
(.cond 35
(.seq
(.reg 8 [oM 36 7,oM 4 (.c .nilslice),oM 5 36] [4,5])
.ret)
.skip))
(.seq
(.reg 9 [oM 37 0,oM 38 1,oM 39 6,oM 40 8,oQ 41 (.bld [.nilptr,.nilptr,.nilptr,.nilptr,.nilslice,.nilslice,.nilslice] [⟨0,⟨1,37⟩⟩,⟨1,⟨1,38⟩⟩,⟨2,⟨1,39⟩⟩,⟨3,⟨1,40⟩⟩]),oK 42 (.box 41),oM 9 42] [0,9])
(.seq
(.seq
(.reg 10 [oM 43 0,oK 44 (.call 39 [43]),oK 45 (.call 35 [44]),oM 46 (cI 0)] [0,9,45,46])
(.block 0
(.loop
(.seq
(.reg 11 [oQ 47 (.bin .lss 46 45)] [0,9,45,46,47])
(.seq
(.cond 47
.skip
(.exit 0))
(.seq
(.block 1
(.seq
(.reg 12 [oM 48 46,oM 10 48] [0,9,10,45,46])
(.seq
(.reg 13 [oM 49 10,oM 50 0,oK 51 (.call 39 [50]),oK 52 (.call 32 [51]),oQ 53 (.bin .lss 49 52)] [0,9,10,45,46,53])
(.cond 53
(.reg 14 [oM 54 9,oM 55 9,oQ 56 (.nchk 55),oQ 57 (.faddr 4 56),oQ 58 (.load none 57),oM 59 10,oK 60 (.bslt 1 1 [(zI 0)] [⟨0,⟨1,59⟩⟩]),oK 61 (.app 1 58 60),oQ 62 (.nchk 54),oQ 63 (.faddr 4 62),oN (.store 1 63 61)] [0,9,45,46])
(.reg 15 [oM 64 9,oM 65 9,oQ 66 (.nchk 65),oQ 67 (.faddr 5 66),oQ 68 (.load none 67),oM 69 10,oK 70 (.bslt 1 1 [(zI 0)] [⟨0,⟨1,69⟩⟩]),oK 71 (.app 1 68 70),oQ 72 (.nchk 64),oQ 73 (.faddr 5 72),oN (.store 1 73 71)] [0,9,45,46])))))
(.reg 16 [oQ 74 (.bin .add 46 (cI 1)),oM 46 74] [0,9,45,46])))))))
(.seq
(.seq
(.reg 17 [oM 75 9,oQ 76 (.mkf 50 [75] []),oM 77 9,oQ 78 (.mkf 51 [77] []),oM 79 9,oQ 80 (.mkf 52 [79] []),oM 81 9,oQ 82 (.mkf 53 [81] []),oQ 83 (.bld [.nilfunc,.nilfunc,.nilfunc,.nilfunc] [⟨0,⟨1,76⟩⟩,⟨1,⟨1,78⟩⟩,⟨2,⟨1,80⟩⟩,⟨3,⟨1,82⟩⟩]),oM 84 (cI 0)] [9,83,84])
(.block 2
(.loop
(.seq
(.reg 18 [oQ 85 (.bin .lss 84 (cI 4))] [9,83,84,85])
(.seq
(.cond 85
.skip
(.exit 2))
(.seq
(.block 3
(.seq
(.reg 19 [oQ 86 (.idx none 4 1 83 84),oM 12 86] [9,12,83,84])
(.seq
(.reg 20 [oM 87 12,oK 88 (.callv 87 []),oM 13 88] [9,13,83,84])
(.seq
(.reg 21 [oM 89 13,oQ 90 (.bin .neq 89 (cI 0))] [9,13,83,84,90])
(.cond 90
(.seq
(.reg 22 [oM 91 13,oM 4 (.c .nilslice),oM 5 91] [4,5])
.ret)
.skip)))))
(.reg 23 [oQ 92 (.bin .add 84 (cI 1)),oM 84 92] [9,83,84])))))))
(.seq
(.reg 24 [oM 93 9,oQ 94 (.nchk 93),oQ 95 (.faddr 6 94),oQ 96 (.load none 95),oM 4 96,oM 5 (cI 0)] [4,5])
.ret))))))))))
theorem fok9 : FOK Tryz.prog 9 (97,ic9,[(.t 4),(.t 5)]) := fokA [1000060,1000070,2000000] Tryz.func9
def ic16 : IC :=
(.seq
(.reg 0 [oK 3 (.box 1),oK 4 (.alloc [(.bool false),.nilslice,.nilslice,(zI 0)]),oM 5 (cI 0)] [0,3,4])
(.scope
(.seq
(.block 0
(.seq
(.reg 1 [oM 20 0,oQ 21 (.isnil (.pointer 101) false 20),oM 19 21] [0,3,4,19])
(.cond 19
(.seq
(.reg 2 [oQ 22 (.bld [(.bool false),.nilslice,.nilslice,(zI 0)] []),oN (.store 4 4 22),oM 5 (cI 2)] [4,5])
.ret)
(.seq
(.reg 3 [oQ 24 (.load none 3),oQ 25 (.bin .lss 24 (cI 0)),oM 26 25,gQ 27 26 false (.load none 3),gQ 28 26 false (.bin .gtr 27 (cI 1099511627776)),oQ 29 (.pick 26 (cB true) 28),oM 23 29] [0,3,4,23])
(.cond 23
(.seq
(.reg 4 [oQ 30 (.bld [(.bool false),.nilslice,.nilslice,(zI 0)] []),oN (.store 4 4 30),oM 5 (cI 1)] [4,5])
.ret)
.skip)))))
(.seq
(.reg 5 [oM 32 0,oK 33 (.call 56 [32]),oM 31 33,oQ 34 (.ext 0 31),oQ 35 (.ext 1 31),oQ 36 (.ext 2 31),oK 6 (.alloc [.nilptr]),oN (.store 1 6 34),oM 7 35,oM 8 36] [3,4,6,7,8])
(.seq
(.seq
(.reg 6 [oM 37 8,oQ 38 (.bin .neq 37 (cI 0))] [3,4,6,7,8,38])
(.cond 38
(.seq
(.reg 7 [oQ 39 (.bld [(.bool false),.nilslice,.nilslice,(zI 0)] []),oM 40 8,oN (.store 4 4 39),oM 5 40] [4,5])
.ret)
.skip))
(.seq
(.reg 8 [oK 9 (.alloc [(.bool false),.nilslice,.nilslice,(zI 0)])] [3,4,6,7,9])
(.seq
(.reg 9 [oQ 41 (.load none 6),oK 42 (.call 57 [41]),oK 10 (.alloc [.nilslice]),oN (.store 1 10 42)] [3,4,6,7,9,10])
(.seq
(.reg 10 [oQ 43 (.mkf 58 [] [6,10,3,9]),oM 11 43] [4,6,7,9,10,11])
(.seq
(.reg 11 [oM 45 11,oK 46 (.callv 45 [(.c .nilslice)]),oM 44 46,oQ 47 (.ext 0 44),oQ 48 (.ext 1 44),oK 12 (.alloc [(.bool false),.nilslice,(zI 0),.nilslice,.nilslice]),oN (.store 5 12 47),oM 8 48] [4,6,7,8,9,10,11,12])
(.seq
(.block 1
(.seq
(.reg 12 [oM 50 8,oQ 51 (.bin .neq 50 (cI 0)),oM 49 51] [4,6,7,8,9,10,11,12,49])
(.cond 49
(.seq
(.reg 13 [oQ 52 (.bld [(.bool false),.nilslice,.nilslice,(zI 0)] []),oM 53 8,oN (.store 4 4 52),oM 5 53] [4,5])
.ret)
(.seq
(.reg 14 [oQ 55 (.faddr 0 12),oQ 56 (.load none 55),oQ 57 (.not 56),oM 54 57] [4,6,7,9,10,11,12,54])
(.cond 54
(.seq
(.reg 15 [oQ 58 (.load (some 4) 9),oN (.store 4 4 58),oM 5 (cI 0)] [4,5])
.ret)
.skip)))))
(.seq
.skip
(.seq
(.seq
(.reg 16 [oM 59 7,oQ 60 (.len 0 59),oM 61 (cI 0)] [4,6,9,10,11,12,59,60,61])
(.block 2
(.loop
(.seq
(.reg 17 [oQ 62 (.bin .lss 61 60)] [4,6,9,10,11,12,59,60,61,62])
(.seq
(.cond 62
.skip
(.exit 2))
(.seq
(.block 3
(.seq
(.reg 18 [oQ 63 (.iaddr 3 59 61),oQ 64 (.load (some 3) 63),oK 14 (.alloc [(zU 0),(zI 0),.nilslice]),oN (.store 3 14 64)] [4,6,9,10,11,12,14,59,60,61])
(.seq
(.seq
(.reg 19 [oQ 65 (.faddr 2 14),oQ 66 (.load none 65),oQ 67 (.len 0 66),oM 68 (cI 0)] [4,6,9,10,11,12,59,60,61,66,67,68])
(.block 4
(.loop
(.seq
(.reg 20 [oQ 69 (.bin .lss 68 67)] [4,6,9,10,11,12,59,60,61,66,67,68,69])
(.seq
(.cond 69
.skip
(.exit 4))
(.seq
(.block 5
(.seq
(.reg 21 [oM 70 68,oQ 71 (.iaddr 1 66 68),oQ 72 (.load none 71),oM 15 70,oM 16 72] [4,6,9,10,11,12,15,16,59,60,61,66,67,68])
(.seq
(.seq
(.reg 22 [oQ 73 (.faddr 1 12),oQ 74 (.load none 73),oM 75 16,oK 76 (.call 61 [74,75]),oQ 77 (.not 76)] [4,6,9,10,11,12,15,16,59,60,61,66,67,68,77])
(.cond 77
(.seq
(.reg 23 [oM 79 11,oM 80 16,oK 81 (.callv 79 [80]),oM 78 81,oQ 82 (.ext 0 78),oQ 83 (.ext 1 78),oK 17 (.alloc [(.bool false),.nilslice,(zI 0),.nilslice,.nilslice]),oN (.store 5 17 82),oM 18 83] [4,6,9,10,11,12,15,16,17,18,59,60,61,66,67,68])
(.seq
(.block 6
(.seq
(.reg 24 [oM 85 18,oQ 86 (.bin .neq 85 (cI 0)),oM 84 86] [4,6,9,10,11,12,15,16,17,18,59,60,61,66,67,68,84])
(.cond 84
(.seq
(.reg 25 [oQ 87 (.bld [(.bool false),.nilslice,.nilslice,(zI 0)] []),oM 88 18,oN (.store 4 4 87),oM 5 88] [4,5])
.ret)
(.seq
(.reg 26 [oQ 90 (.faddr 0 17),oQ 91 (.load none 90),oQ 92 (.not 91),oM 89 92] [4,6,9,10,11,12,15,16,17,59,60,61,66,67,68,89])
(.cond 89
(.exit 5)
.skip)))))
(.reg 27 [oQ 93 (.load (some 5) 17),oN (.store 5 12 93)] [4,6,9,10,11,12,15,16,59,60,61])))
.skip))
(.seq
(.reg 28 [oQ 94 (.load none 10),oM 95 16,oK 96 (.app 1 94 95),oN (.store 1 10 96)] [4,6,9,10,11,12,15,59,60,61])
(.seq
(.reg 29 [oQ 97 (.faddr 2 9),oQ 98 (.load none 97),oM 99 15,oK 100 (.bslt 1 1 [(zI 0)] [⟨0,⟨1,99⟩⟩]),oK 101 (.app 1 98 100),oQ 102 (.faddr 2 9),oN (.store 1 102 101)] [4,6,9,10,11,12,59,60,61])
(.exit 3))))))
(.reg 30 [oQ 103 (.bin .add 68 (cI 1)),oM 68 103] [4,6,9,10,11,12,59,60,61,66,67,68])))))))
(.reg 31 [oQ 104 (.faddr 2 9),oQ 105 (.load none 104),oK 106 (.bslt 1 1 [(zI 0)] [⟨0,⟨1,(cI (-1))⟩⟩]),oK 107 (.app 1 105 106),oQ 108 (.faddr 2 9),oN (.store 1 108 107)] [4,6,9,10,11,12,59,60,61]))))
(.reg 32 [oQ 109 (.bin .add 61 (cI 1)),oM 61 109] [4,6,9,10,11,12,59,60,61])))))))
(.seq
(.reg 33 [oQ 110 (.load none 6),oQ 111 (.faddr 1 12),oQ 112 (.load none 111),oK 113 (.call 62 [110,112]),oQ 114 (.faddr 0 9),oN (.store 1 114 (cB true)),oQ 115 (.faddr 1 9),oN (.store 1 115 113)] [4,9])
(.seq
(.reg 34 [oQ 116 (.load (some 4) 9),oN (.store 4 4 116),oM 5 (cI 0)] [4,5])
.ret))))))))))))))
theorem fok16 : FOK Tryz.prog 16 (117,ic16,[(.cell (some 4) 4),(.t 5)]) := fokA [1000100,1000106,2000000] Tryz.func16
def ic17 : IC :=
(.seq
(.reg 0 [oM 0 (cB false)] [])
(.seq
(.reg 1 [oK 3 (.call 19 [(.c (.str [97])),(.c (.str [50]))]),oK 4 (.bslt 15 1 [(.str []),(zI 0),(.str []),(.str []),(zU 0),(.str []),.nilslice,.nilslice,.nilslice,.nilslice,.nilslice,.nilslice,.nilslice,.nilslice,.nilslice] [⟨0,⟨15,3⟩⟩]),oQ 5 (.bld [(zI 0),.nilslice] [⟨1,⟨1,4⟩⟩]),oK 6 (.bslt 2 1 [(zI 0),.nilslice] [⟨0,⟨2,5⟩⟩]),oM 1 6] [1])
(.seq
(.reg 2 [oK 7 (.call 19 [(.c (.str [97])),(.c (.str [49]))]),oK 8 (.bslt 15 1 [(.str []),(zI 0),(.str []),(.str []),(zU 0),(.str []),.nilslice,.nilslice,.nilslice,.nilslice,.nilslice,.nilslice,.nilslice,.nilslice,.nilslice] [⟨0,⟨15,7⟩⟩]),oM 2 8] [1,2])
(.seq
(.reg 3 [oM 9 1,oM 10 2,oK 11 (.bslt 1 1 [(zI 0)] [⟨0,⟨1,(cI 0)⟩⟩]),oK 12 (.call 21 [9,10,11,(.c .nilslice)]),oM 13 12,gQ 14 13 true (.mov 1),gQ 15 13 true (.mov 2),gK 16 13 true (.bslt 1 1 [(zI 0)] [⟨0,⟨1,(cI 1)⟩⟩]),gK 17 13 true (.call 22 [(.c (zU 3)),(.c (.str [97]))]),gK 18 13 true (.bslt 6 1 [(zU 0),(.str []),(zU 0),(zI 0),(.str []),(.str [])] [⟨0,⟨6,17⟩⟩]),gK 19 13 true (.call 21 [14,15,16,18]),oQ 20 (.pick 13 19 (cB false)),oM 21 20,gQ 22 21 true (.mov 1),gQ 23 21 true (.mov 2),gK 24 21 true (.bslt 1 1 [(zI 0)] [⟨0,⟨1,(cI 0)⟩⟩]),gK 25 21 true (.call 22 [(.c (zU 1)),(.c (.str [97]))]),gK 26 21 true (.bslt 6 1 [(zU 0),(.str []),(zU 0),(zI 0),(.str []),(.str [])] [⟨0,⟨6,25⟩⟩]),gK 27 21 true (.call 21 [22,23,24,26]),oQ 28 (.pick 21 27 (cB false)),oM 29 28,gQ 30 29 true (.mov 1),gQ 31 29 true (.mov 2),gK 32 29 true (.call 22 [(.c (zU 2)),(.c (.str [97]))]),gK 33 29 true (.bslt 6 1 [(zU 0),(.str []),(zU 0),(zI 0),(.str []),(.str [])] [⟨0,⟨6,32⟩⟩]),gK 34 29 true (.call 21 [30,31,(.c .nilslice),33]),oQ 35 (.pick 29 34 (cB false)),oM 0 35] [0])
.ret))))
theorem fok17 : FOK Tryz.prog 17 (36,ic17,[(.t 0)]) := fokA [1000004,1000006,1000008,1000011,1000016,1000018,1000024,1000026,1000033,2000000] Tryz.func17
def ic18 : IC :=
(.seq
(.reg 0 [oM 2 (cI 0)] [0])
(.seq
(.reg 1 [oM 9 0,oK 10 (.call 56 [9]),oM 8 10,oQ 11 (.ext 0 8),oQ 12 (.ext 1 8),oQ 13 (.ext 2 8),oM 3 11,oM 4 12,oM 5 13] [3,4,5])
(.seq
(.seq
(.reg 2 [oM 14 5,oQ 15 (.bin .neq 14 (cI 0))] [3,4,15])
(.cond 15
(.seq
(.reg 3 [oM 2 (cI 0)] [2])
.ret)
.skip))
(.seq
(.reg 4 [oM 16 3,oK 17 (.call 60 [16]),oK 18 (.call 63 [17]),oM 6 (cI 0),oM 7 18] [4,6,7])
(.seq
(.seq
(.reg 5 [oM 19 4,oK 20 (.call 10 [19]),oQ 21 (.bin .add (cI 1) 20),oM 22 (cI 0)] [6,7,21,22])
(.block 0
(.loop
(.seq
(.reg 6 [oQ 23 (.bin .lss 22 21)] [6,7,21,22,23])
(.seq
(.cond 23
.skip
(.exit 0))
(.seq
(.block 1
(.reg 7 [oM 24 6,oM 25 7,oQ 26 (.bin .add 24 25),oQ 27 (.mm false 26 (cI 1099511627776)),oM 6 27] [6,7,21,22]))
(.reg 8 [oQ 28 (.bin .add 22 (cI 1)),oM 22 28] [6,7,21,22])))))))
(.seq
(.reg 9 [oM 29 6,oM 2 29] [2])
.ret))))))
theorem fok18 : FOK Tryz.prog 18 (30,ic18,[(.t 2)]) := fokA [2000000] Tryz.func18
def ic19 : IC :=
(.seq
(.reg 0 [oK 4 (.alloc [(.str []),(zI 0),(.str []),(.str []),(zU 0),(.str []),.nilslice,.nilslice,.nilslice,.nilslice,.nilslice,.nilslice,.nilslice,.nilslice,.nilslice])] [0,1,4])
(.seq
(.reg 1 [oM 5 0,oM 6 1,oQ 7 (.bld [(zI 0),(.str []),(.str [])] [⟨1,⟨1,6⟩⟩,⟨2,⟨1,(.c (.str [49]))⟩⟩]),oQ 8 (.bld [(.str []),(zI 0),(.str []),(.str []),(zU 0),(.str []),.nilslice,.nilslice,.nilslice,.nilslice,.nilslice,.nilslice,.nilslice,.nilslice,.nilslice] [⟨0,⟨1,5⟩⟩,⟨1,⟨3,7⟩⟩,⟨4,⟨1,(.c (zU 2))⟩⟩]),oN (.store 15 4 8)] [4])
.ret))
theorem fok19 : FOK Tryz.prog 19 (9,ic19,[(.cell (some 15) 4)]) := fokA [2000000] Tryz.func19
def ic20 : IC :=
(.seq
(.reg 0 [oK 2 (.alloc [(zU 0),(.str []),(zU 0),(zI 0),(.str []),(.str []),.nilslice])] [0,2])
(.seq
(.reg 1 [oM 3 0,oQ 4 (.bld [(.str []),(zU 0),(zI 0),(.str []),(.str [])] [⟨0,⟨1,3⟩⟩]),oQ 5 (.bld [(zU 0),(.str []),(zU 0),(zI 0),(.str []),(.str []),.nilslice] [⟨0,⟨1,(.c (zU 1))⟩⟩,⟨1,⟨5,4⟩⟩]),oN (.store 7 2 5)] [2])
.ret))
theorem fok20 : FOK Tryz.prog 20 (6,ic20,[(.cell (some 7) 2)]) := fokA [2000000] Tryz.func20
def ic21 : IC :=
(.seq
(.reg 0 [oM 8 (cB false)] [0,1,2,3])
(.seq
(.reg 1 [oM 14 0,oM 15 1,oM 16 3,oQ 17 (.bld [(zU 0),(.bool false),.nilslice,.nilslice,(zI 0)] [⟨0,⟨1,(.c (zU 2))⟩⟩,⟨2,⟨1,16⟩⟩]),oK 18 (.call 23 [14,15,17]),oM 13 18,oQ 19 (.ext 0 13),oQ 20 (.ext 1 13),oM 9 19,oM 10 20] [2,9,10])
(.seq
(.seq
(.reg 2 [oM 21 10,oQ 22 (.not 21)] [2,9,22])
(.cond 22
(.seq
(.reg 3 [oM 8 (cB false)] [8])
.ret)
.skip))
(.seq
(.reg 4 [oM 24 9,oK 25 (.call 16 [24,(cI 1099511627776)]),oM 23 25,oQ 26 (.ext 0 23),oQ 27 (.ext 1 23),oK 11 (.alloc [(.bool false),.nilslice,.nilslice,(zI 0)]),oN (.store 4 11 26),oM 12 27] [2,11,12])
(.seq
(.reg 5 [oM 28 12,oQ 29 (.bin .eql 28 (cI 0)),oM 30 29,gQ 31 30 true (.faddr 0 11),gQ 32 30 true (.load none 31),oQ 33 (.pick 30 32 (cB false)),oM 34 33,gQ 35 34 true (.faddr 1 11),gQ 36 34 true (.load none 35),gQ 37 34 true (.mov 2),gK 38 34 true (.call 64 [36,37]),oQ 39 (.pick 34 38 (cB false)),oM 8 39] [8])
.ret)))))
theorem fok21 : FOK Tryz.prog 21 (40,ic21,[(.t 8)]) := fokA [2000000] Tryz.func21
def ic22 : IC :=
(.seq
(.reg 0 [oK 4 (.alloc [(zU 0),(.str []),(zU 0),(zI 0),(.str []),(.str [])])] [0,1,4])
(.seq
(.reg 1 [oM 5 0,oM 6 1,oQ 7 (.bld [(.str []),(zU 0),(zI 0),(.str []),(.str [])] [⟨0,⟨1,6⟩⟩]),oQ 8 (.bld [(zU 0),(.str []),(zU 0),(zI 0),(.str []),(.str [])] [⟨0,⟨1,5⟩⟩,⟨1,⟨5,7⟩⟩]),oN (.store 6 4 8)] [4])
.ret))
theorem fok22 : FOK Tryz.prog 22 (9,ic22,[(.cell (some 6) 4)]) := fokA [2000000] Tryz.func22
def ic23 : IC :=
(.seq
(.reg 0 [oK 5 (.boxt 2),oM 6 (.c .nilptr),oM 7 (cB false)] [0,1,5])
(.seq
(.reg 1 [oM 12 0,oM 13 1,oK 14 (.call 5 [12,13]),oM 11 14,oQ 15 (.ext 0 11),oQ 16 (.ext 1 11),oM 8 15,oM 9 16] [5,8,9])
(.seq
(.seq
(.reg 2 [oM 17 9,oQ 18 (.bin .neq 17 (cI 0))] [5,8,18])
(.cond 18
(.seq
(.reg 3 [oM 6 (.c .nilptr),oM 7 (cB false)] [6,7])
.ret)
.skip))
(.seq
(.reg 4 [oM 20 8,oQ 21 (.load (some 5) 5),oK 22 (.call 7 [20,21]),oM 19 22,oQ 23 (.ext 0 19),oQ 24 (.ext 1 19),oM 10 23,oM 9 24] [9,10])
(.seq
(.reg 5 [oM 25 10,oM 26 9,oQ 27 (.bin .eql 26 (cI 0)),oM 28 27,gQ 29 28 true (.mov 10),gQ 30 28 true (.isnil (.pointer 101) true 29),oQ 31 (.pick 28 30 (cB false)),oM 6 25,oM 7 31] [6,7])
.ret)))))
theorem fok23 : FOK Tryz.prog 23 (32,ic23,[(.t 6),(.t 7)]) := fokA [1000005,2000000] Tryz.func23
def ic24 : IC :=
(.seq
(.reg 0 [⟨(some 8),none,(.q (.mov (.c (.int .i64 0))))⟩] [0,1,2,3])
(.seq
(.seq
(.reg 1 [⟨(some 11),none,(.q (.mov (.t 1)))⟩,⟨(some 12),none,(.q (.len 0 (.t 11)))⟩,⟨(some 13),none,(.q (.mov (.c (.int .i64 0))))⟩] [0,2,3,11,12,13])
(.block 0
(.loop
(.seq
(.reg 2 [⟨(some 14),none,(.q (.bin .lss (.t 13) (.t 12)))⟩] [0,2,3,11,12,13,14])
(.seq
(.cond (.t 14)
.skip
(.exit 0))
(.seq
(.block 1
(.seq
(.reg 3 [⟨(some 15),none,(.q (.iaddr 15 (.t 11) (.t 13)))⟩,⟨(some 16),none,(.q (.load (some 15) (.t 15)))⟩,⟨(some 10),none,(.alloc [(.str []),(.int .i64 0),(.str []),(.str []),(.int .u8 0),(.str []),.nilslice,.nilslice,.nilslice,.nilslice,.nilslice,.nilslice,.nilslice,.nilslice,.nilslice])⟩,⟨none,none,(.store 15 (.t 10) (.t 16))⟩] [0,2,3,10,11,12,13])
(.seq
(.seq
(.reg 4 [⟨(some 17),none,(.q (.load (some 15) (.t 10)))⟩,⟨(some 18),none,(.pcall 65 [(.t 17)])⟩,⟨(some 19),none,(.q (.not (.t 18)))⟩] [0,2,3,10,11,12,13,19])
(.cond (.t 19)
(.seq
(.reg 5 [⟨(some 8),none,(.q (.mov (.c (.int .i64 4))))⟩] [8])
.ret)
.skip))
(.seq
(.dreg 6 [⟨(some 20),none,(.q (.mov (.t 0)))⟩,⟨(some 21),none,(.q (.nchk (.t 20)))⟩,⟨(some 22),none,(.q (.faddr 2 (.t 21)))⟩,⟨(some 23),none,(.q (.load none (.t 22)))⟩,⟨(some 24),none,(.q (.faddr 0 (.t 10)))⟩,⟨(some 25),none,(.q (.load none (.t 24)))⟩,⟨(some 26),none,(.q (.mov (.t 0)))⟩,⟨(some 27),none,(.q (.nchk (.t 26)))⟩,⟨(some 28),none,(.q (.faddr 2 (.t 27)))⟩,⟨(some 29),none,(.q (.load none (.t 28)))⟩,⟨(some 30),none,(.q (.faddr 0 (.t 10)))⟩,⟨(some 31),none,(.q (.load none (.t 30)))⟩,⟨(some 32),none,(.q (.lkp 2 .nilslice false (.t 29) (.t 31)))⟩,⟨(some 33),none,(.q (.mov (.t 0)))⟩,⟨(some 34),none,(.q (.nchk (.t 33)))⟩,⟨(some 35),none,(.q (.faddr 0 (.t 34)))⟩,⟨(some 36),none,(.q (.load none (.t 35)))⟩,⟨(some 37),none,(.q (.len 0 (.t 36)))⟩,⟨(some 38),none,(.bslt 1 1 [(.int .i64 0)] [⟨0,⟨1,(.t 37)⟩⟩])⟩,⟨(some 39),none,(.app 1 (.t 32) (.t 38))⟩,⟨none,none,(.mupd 2 (.t 23) (.t 25) (.t 39))⟩] true [0,2,3,10,11,12,13])
(.dreg 7 [⟨(some 40),none,(.q (.mov (.t 0)))⟩,⟨(some 41),none,(.q (.mov (.t 0)))⟩,⟨(some 42),none,(.q (.nchk (.t 41)))⟩,⟨(some 43),none,(.q (.faddr 0 (.t 42)))⟩,⟨(some 44),none,(.q (.load none (.t 43)))⟩,⟨(some 45),none,(.q (.load (some 15) (.t 10)))⟩,⟨(some 46),none,(.pcall 66 [(.t 45)])⟩,⟨(some 47),none,(.q (.mov (.t 2)))⟩,⟨(some 48),none,(.q (.mov (.t 3)))⟩,⟨(some 49),none,(.q (.bld [(.str []),(.int .i64 0),(.str []),(.str []),(.int .u8 0),(.str []),.nilslice,.nilslice,.nilslice,.nilslice,.nilslice,.nilslice,.nilslice,.nilslice,.nilslice,(.int .i64 0),(.int .i64 0)] [⟨0,⟨15,(.t 46)⟩⟩,⟨15,⟨1,(.t 47)⟩⟩,⟨16,⟨1,(.t 48)⟩⟩]))⟩,⟨(some 50),none,(.bslt 17 1 [(.str []),(.int .i64 0),(.str []),(.str []),(.int .u8 0),(.str []),.nilslice,.nilslice,.nilslice,.nilslice,.nilslice,.nilslice,.nilslice,.nilslice,.nilslice,(.int .i64 0),(.int .i64 0)] [⟨0,⟨17,(.t 49)⟩⟩])⟩,⟨(some 51),none,(.app 17 (.t 44) (.t 50))⟩,⟨(some 52),none,(.q (.nchk (.t 40)))⟩,⟨(some 53),none,(.q (.faddr 0 (.t 52)))⟩,⟨none,none,(.store 1 (.t 53) (.t 51))⟩] true [0,2,3,11,12,13])))))
(.reg 8 [⟨(some 54),none,(.q (.bin .add (.t 13) (.c (.int .i64 1))))⟩,⟨(some 13),none,(.q (.mov (.t 54)))⟩] [0,2,3,11,12,13])))))))
(.seq
(.reg 9 [⟨(some 8),none,(.q (.mov (.c (.int .i64 0))))⟩] [8])
.ret)))
theorem fok24 : FOK Tryz.prog 24 (55,ic24,[(.t 8)]) := .mk (pf := ([1000038,1000050] ++ allF0)) (an := [(0,[0,1,2,3]),(1,[0,2,3,11,12,13]),(2,[0,2,3,11,12,13,14]),(3,[0,2,3,10,11,12,13]),(4,[0,2,3,10,11,12,13,19]),(5,[8]),(6,[0,2,3,10,11,12,13]),(7,[0,2,3,11,12,13]),(8,[0,2,3,11,12,13]),(9,[8])]) (by kernel_rfl) (fnOK_of Tryz.func24 (by kernel_rfl) (by kernel_rfl) (by kernel_rfl))
def ic25 : IC :=
(.seq
(.reg 0 [oM 2 (cB false)] [0])
(.seq
(.reg 1 [oM 3 0,oK 4 (.call 67 [3]),oM 5 4,gQ 6 5 true (.mov 0),gQ 7 5 true (.bin .neq 6 (.c (zU 1))),oQ 8 (.pick 5 7 (cB false)),oM 2 8] [2])
.ret))
theorem fok25 : FOK Tryz.prog 25 (9,ic25,[(.t 2)]) := fokA [2000000] Tryz.func25
def ic26 : IC :=
(.seq
(.reg 0 [oM 4 (cB false)] [0,1])
(.seq
(.reg 1 [oM 5 0,oM 6 1,oK 7 (.call 68 [5,6]),oQ 8 (.bin .geq 7 (cI 0)),oM 4 8] [4])
.ret))
theorem fok26 : FOK Tryz.prog 26 (9,ic26,[(.t 4)]) := fokA [2000000] Tryz.func26
def ic27 : IC :=
(.seq
(.reg 0 [oK 1 (.boxt 0),oM 2 (cB false)] [1])
(.seq
(.reg 1 [oQ 3 (.faddr 0 1),oQ 4 (.load none 3),oQ 5 (.bin .lss 4 (.c (zU 1))),oM 6 5,gQ 7 6 false (.faddr 0 1),gQ 8 6 false (.load none 7),gQ 9 6 false (.bin .gtr 8 (.c (zU 4))),oQ 10 (.pick 6 (cB true) 9),oM 11 10,gQ 12 11 false (.faddr 1 1),gQ 13 11 false (.load (some 5) 12),gK 14 11 false (.call 28 [13]),gQ 15 11 false (.not 14),oQ 16 (.pick 11 (cB true) 15),oM 2 16] [2])
.ret))
theorem fok27 : FOK Tryz.prog 27 (17,ic27,[(.t 2)]) := fokA [1000001,2000000] Tryz.func27
def ic28 : IC :=
(.seq
(.reg 0 [⟨(some 1),none,(.boxt (.t 0))⟩,⟨(some 2),none,(.q (.mov (.c (.bool false))))⟩] [1])
(.seq
(.block 0
(.seq
(.reg 1 [⟨(some 4),none,(.q (.faddr 0 (.t 1)))⟩,⟨(some 5),none,(.q (.load none (.t 4)))⟩,⟨(some 6),none,(.call 69 [(.t 5)])⟩,⟨(some 7),none,(.q (.not (.t 6)))⟩,⟨(some 8),none,(.q (.mov (.t 7)))⟩,⟨(some 9),(some ⟨8,false⟩),(.q (.faddr 1 (.t 1)))⟩,⟨(some 10),(some ⟨8,false⟩),(.q (.load none (.t 9)))⟩,⟨(some 11),(some ⟨8,false⟩),(.call 70 [(.t 10)])⟩,⟨(some 12),(some ⟨8,false⟩),(.q (.not (.t 11)))⟩,⟨(some 13),none,(.q (.pick (.t 8) (.c (.bool true)) (.t 12)))⟩,⟨(some 3),none,(.q (.mov (.t 13)))⟩] [1,3])
(.cond (.t 3)
(.seq
(.reg 2 [⟨(some 2),none,(.q (.mov (.c (.bool false))))⟩] [2])
.ret)
(.seq
(.reg 3 [⟨(some 15),none,(.q (.faddr 1 (.t 1)))⟩,⟨(some 16),none,(.q (.load none (.t 15)))⟩,⟨(some 17),none,(.q (.bin .eql (.t 16) (.c (.int .u8 0))))⟩,⟨(some 14),none,(.q (.mov (.t 17)))⟩] [1,14])
(.cond (.t 14)
(.seq
(.reg 4 [⟨(some 18),none,(.q (.faddr 2 (.t 1)))⟩,⟨(some 19),none,(.q (.load (some 3) (.t 18)))⟩,⟨(some 20),none,(.q (.bld [(.int .i64 0),(.str []),(.str [])] []))⟩,⟨(some 21),none,(.q (.eqs [1,2,2] true false (.t 19) (.t 20)))⟩,⟨(some 2),none,(.q (.mov (.t 21)))⟩] [2])
.ret)
.skip)))))
(.seq
(.reg 5 [⟨(some 22),none,(.q (.faddr 0 (.t 1)))⟩,⟨(some 23),none,(.q (.load none (.t 22)))⟩,⟨(some 24),none,(.call 71 [(.t 23)])⟩,⟨(some 25),none,(.q (.not (.t 24)))⟩,⟨(some 26),none,(.q (.mov (.t 25)))⟩,⟨(some 27),(some ⟨26,true⟩),(.q (.faddr 2 (.t 1)))⟩,⟨(some 28),(some ⟨26,true⟩),(.q (.load (some 3) (.t 27)))⟩,⟨(some 29),(some ⟨26,true⟩),(.call 72 [(.t 28),(.c (.bool true))])⟩,⟨(some 30),none,(.q (.pick (.t 26) (.t 29) (.c (.bool false))))⟩,⟨(some 2),none,(.q (.mov (.t 30)))⟩] [2])
.ret)))
theorem fok28 : FOK Tryz.prog 28 (31,ic28,[(.t 2)]) := .mk (pf := [1000001]) (an := [(0,[1]),(1,[1,3]),(2,[2]),(3,[1,14]),(4,[2]),(5,[2])]) (by kernel_rfl) (fnOK_of Tryz.func28 (by kernel_rfl) (by kernel_rfl) (by kernel_rfl))
def ic29 : IC :=
(.seq
(.reg 0 [oM 4 (cB false)] [0,1])
(.seq
(.reg 1 [oM 5 0,oM 6 1,oK 7 (.call 73 [5,6]),oQ 8 (.bin .geq 7 (cI 0)),oM 4 8] [4])
.ret))
theorem fok29 : FOK Tryz.prog 29 (9,ic29,[(.t 4)]) := fokA [2000000] Tryz.func29
def ic32 : IC :=
(.seq
(.reg 0 [⟨(some 2),none,(.q (.mov (.c (.int .i64 0))))⟩] [0])
(.seq
(.seq
(.reg 1 [⟨(some 3),none,(.q (.mov (.t 0)))⟩,⟨(some 4),none,(.q (.isnil (.pointer 86) false (.t 3)))⟩] [0,4])
(.cond (.t 4)
(.seq
(.reg 2 [⟨(some 2),none,(.q (.mov (.c (.int .i64 0))))⟩] [2])
.ret)
.skip))
(.seq
(.reg 3 [⟨(some 5),none,(.q (.mov (.t 0)))⟩,⟨(some 6),none,(.q (.nchk (.t 5)))⟩,⟨(some 7),none,(.q (.faddr 1 (.t 6)))⟩,⟨(some 8),none,(.q (.load none (.t 7)))⟩,⟨(some 2),none,(.q (.mov (.t 8)))⟩] [2])
.ret)))
theorem fok32 : FOK Tryz.prog 32 (9,ic32,[(.t 2)]) := .mk (pf := []) (an := [(0,[0]),(1,[0,4]),(2,[2]),(3,[2])]) (by kernel_rfl) (fnOK_of Tryz.func32 (by kernel_rfl) (by kernel_rfl) (by kernel_rfl))
def ic33 : IC :=
(.seq
(.reg 0 [⟨(some 2),none,(.q (.mov (.c .nilptr)))⟩,⟨(some 3),none,(.q (.mov (.c (.int .i64 0))))⟩] [0])
(.seq
(.seq
(.reg 1 [⟨(some 11),none,(.q (.mov (.t 0)))⟩,⟨(some 12),none,(.q (.isnil (.pointer 86) false (.t 11)))⟩] [0,12])
(.cond (.t 12)
(.seq
(.reg 2 [⟨(some 2),none,(.q (.mov (.c .nilptr)))⟩,⟨(some 3),none,(.q (.mov (.c (.int .i64 2))))⟩] [2,3])
.ret)
.skip))
(.seq
(.reg 3 [⟨(some 13),none,.mkmap⟩,⟨(some 14),none,.mkmap⟩,⟨(some 15),none,.mkmap⟩,⟨(some 16),none,(.q (.bld [.nilslice,.nilmap,.nilmap,.nilmap] [⟨1,⟨1,(.t 13)⟩⟩,⟨2,⟨1,(.t 14)⟩⟩,⟨3,⟨1,(.t 15)⟩⟩]))⟩,⟨(some 17),none,(.box (.t 16))⟩,⟨(some 4),none,(.q (.mov (.t 17)))⟩] [0,4])
(.seq
(.seq
(.reg 4 [⟨(some 18),none,(.q (.mov (.t 0)))⟩,⟨(some 19),none,(.call 35 [(.t 18)])⟩,⟨(some 20),none,(.q (.mov (.c (.int .i64 0))))⟩] [0,4,19,20])
(.block 0
(.loop
(.seq
(.reg 5 [⟨(some 21),none,(.q (.bin .lss (.t 20) (.t 19)))⟩] [0,4,19,20,21])
(.seq
(.cond (.t 21)
.skip
(.exit 0))
(.seq
(.block 1
(.seq
(.reg 6 [⟨(some 22),none,(.q (.mov (.t 20)))⟩,⟨(some 5),none,(.q (.mov (.t 22)))⟩] [0,4,5,19,20])
(.seq
(.reg 7 [⟨(some 24),none,(.q (.mov (.t 0)))⟩,⟨(some 25),none,(.q (.mov (.t 5)))⟩,⟨(some 26),none,(.call 36 [(.t 24),(.t 25)])⟩,⟨(some 23),none,(.q (.mov (.t 26)))⟩,⟨(some 27),none,(.q (.ext 0 (.t 23)))⟩,⟨(some 28),none,(.q (.ext 1 (.t 23)))⟩,⟨(some 6),none,(.alloc [(.str []),(.int .i64 0),(.str []),(.str []),(.int .u8 0),(.str []),.nilslice,.nilslice,.nilslice,.nilslice,.nilslice,.nilslice,.nilslice,.nilslice,.nilslice])⟩,⟨none,none,(.store 15 (.t 6) (.t 27))⟩,⟨(some 7),none,(.q (.mov (.t 28)))⟩] [0,4,5,6,7,19,20])
(.seq
(.seq
(.reg 8 [⟨(some 29),none,(.q (.mov (.t 7)))⟩,⟨(some 30),none,(.q (.bin .neq (.t 29) (.c (.int .i64 0))))⟩] [0,4,5,6,7,19,20,30])
(.cond (.t 30)
(.seq
(.reg 9 [⟨(some 31),none,(.q (.mov (.t 7)))⟩,⟨(some 2),none,(.q (.mov (.c .nilptr)))⟩,⟨(some 3),none,(.q (.mov (.t 31)))⟩] [2,3])
.ret)
.skip))
(.seq
(.dreg 10 [⟨(some 32),none,(.q (.mov (.t 4)))⟩,⟨(some 33),none,(.q (.mov (.t 4)))⟩,⟨(some 34),none,(.q (.nchk (.t 33)))⟩,⟨(some 35),none,(.q (.faddr 0 (.t 34)))⟩,⟨(some 36),none,(.q (.load none (.t 35)))⟩,⟨(some 37),none,(.q (.load (some 15) (.t 6)))⟩,⟨(some 38),none,(.bslt 15 1 [(.str []),(.int .i64 0),(.str []),(.str []),(.int .u8 0),(.str []),.nilslice,.nilslice,.nilslice,.nilslice,.nilslice,.nilslice,.nilslice,.nilslice,.nilslice] [⟨0,⟨15,(.t 37)⟩⟩])⟩,⟨(some 39),none,(.app 15 (.t 36) (.t 38))⟩,⟨(some 40),none,(.q (.nchk (.t 32)))⟩,⟨(some 41),none,(.q (.faddr 0 (.t 40)))⟩,⟨none,none,(.store 1 (.t 41) (.t 39))⟩] true [0,4,5,6,19,20])
(.seq
(.dreg 11 [⟨(some 42),none,(.q (.mov (.t 4)))⟩,⟨(some 43),none,(.q (.nchk (.t 42)))⟩,⟨(some 44),none,(.q (.faddr 2 (.t 43)))⟩,⟨(some 45),none,(.q (.load none (.t 44)))⟩,⟨(some 46),none,(.q (.faddr 0 (.t 6)))⟩,⟨(some 47),none,(.q (.load none (.t 46)))⟩,⟨(some 48),none,(.q (.mov (.t 4)))⟩,⟨(some 49),none,(.q (.nchk (.t 48)))⟩,⟨(some 50),none,(.q (.faddr 2 (.t 49)))⟩,⟨(some 51),none,(.q (.load none (.t 50)))⟩,⟨(some 52),none,(.q (.faddr 0 (.t 6)))⟩,⟨(some 53),none,(.q (.load none (.t 52)))⟩,⟨(some 54),none,(.q (.lkp 2 .nilslice false (.t 51) (.t 53)))⟩,⟨(some 55),none,(.q (.mov (.t 5)))⟩,⟨(some 56),none,(.bslt 1 1 [(.int .i64 0)] [⟨0,⟨1,(.t 55)⟩⟩])⟩,⟨(some 57),none,(.app 1 (.t 54) (.t 56))⟩,⟨none,none,(.mupd 2 (.t 45) (.t 47) (.t 57))⟩] true [0,4,5,6,19,20])
(.seq
(.seq
(.reg 12 [⟨(some 58),none,(.q (.load (some 15) (.t 6)))⟩,⟨(some 59),none,(.call 74 [(.t 58)])⟩,⟨(some 60),none,(.mrange (.t 59))⟩] [0,4,5,6,19,20,60])
(.block 2
(.loop
(.seq
(.reg 13 [⟨(some 61),none,(.mnext (.t 60))⟩,⟨(some 62),none,(.q (.ext 0 (.t 61)))⟩] [0,4,5,6,19,20,60,62])
(.seq
(.cond (.t 62)
.skip
(.exit 2))
(.block 3
(.seq
(.reg 14 [⟨(some 63),none,(.ment (.t 60))⟩,⟨(some 64),none,(.q (.ext 0 (.t 63)))⟩,⟨(some 8),none,(.q (.mov (.t 64)))⟩] [0,4,5,6,8,19,20,60])
(.dreg 15 [⟨(some 65),none,(.q (.mov (.t 4)))⟩,⟨(some 66),none,(.q (.nchk (.t 65)))⟩,⟨(some 67),none,(.q (.faddr 1 (.t 66)))⟩,⟨(some 68),none,(.q (.load none (.t 67)))⟩,⟨(some 69),none,(.q (.mov (.t 8)))⟩,⟨(some 70),none,(.q (.mov (.t 4)))⟩,⟨(some 71),none,(.q (.nchk (.t 70)))⟩,⟨(some 72),none,(.q (.faddr 1 (.t 71)))⟩,⟨(some 73),none,(.q (.load none (.t 72)))⟩,⟨(some 74),none,(.q (.mov (.t 8)))⟩,⟨(some 75),none,(.q (.lkp 2 .nilslice false (.t 73) (.t 74)))⟩,⟨(some 76),none,(.q (.mov (.t 5)))⟩,⟨(some 77),none,(.bslt 1 1 [(.int .i64 0)] [⟨0,⟨1,(.t 76)⟩⟩])⟩,⟨(some 78),none,(.app 1 (.t 75) (.t 77))⟩,⟨none,none,(.mupd 2 (.t 68) (.t 69) (.t 78))⟩] true [0,4,5,6,19,20,60]))))))))
(.seq
(.reg 16 [⟨(some 79),none,(.q (.faddr 9 (.t 6)))⟩,⟨(some 80),none,(.q (.load none (.t 79)))⟩,⟨(some 81),none,(.q (.len 0 (.t 80)))⟩,⟨(some 82),none,(.q (.mov (.c (.int .i64 0))))⟩] [0,4,5,19,20,80,81,82])
(.block 4
(.loop
(.seq
(.reg 17 [⟨(some 83),none,(.q (.bin .lss (.t 82) (.t 81)))⟩] [0,4,5,19,20,80,81,82,83])
(.seq
(.cond (.t 83)
.skip
(.exit 4))
(.seq
(.block 5
(.seq
(.reg 18 [⟨(some 84),none,(.q (.iaddr 5 (.t 80) (.t 82)))⟩,⟨(some 85),none,(.q (.load (some 5) (.t 84)))⟩,⟨(some 10),none,(.alloc [(.str []),(.int .u8 0),(.int .i64 0),(.str []),(.str [])])⟩,⟨none,none,(.store 5 (.t 10) (.t 85))⟩] [0,4,5,10,19,20,80,81,82])
(.seq
(.dreg 19 [⟨(some 86),none,(.q (.mov (.t 4)))⟩,⟨(some 87),none,(.q (.nchk (.t 86)))⟩,⟨(some 88),none,(.q (.faddr 3 (.t 87)))⟩,⟨(some 89),none,(.q (.load none (.t 88)))⟩,⟨(some 90),none,(.q (.faddr 0 (.t 10)))⟩,⟨(some 91),none,(.q (.load none (.t 90)))⟩,⟨(some 92),none,(.q (.lkp 2 .nilslice false (.t 89) (.t 91)))⟩,⟨(some 93),none,(.q (.mov (.t 5)))⟩,⟨(some 94),none,(.call 75 [(.t 92),(.t 93)])⟩,⟨(some 95),none,(.q (.not (.t 94)))⟩] false [0,4,5,10,19,20,80,81,82,95])
(.cond (.t 95)
(.dreg 20 [⟨(some 96),none,(.q (.mov (.t 4)))⟩,⟨(some 97),none,(.q (.nchk (.t 96)))⟩,⟨(some 98),none,(.q (.faddr 3 (.t 97)))⟩,⟨(some 99),none,(.q (.load none (.t 98)))⟩,⟨(some 100),none,(.q (.faddr 0 (.t 10)))⟩,⟨(some 101),none,(.q (.load none (.t 100)))⟩,⟨(some 102),none,(.q (.mov (.t 4)))⟩,⟨(some 103),none,(.q (.nchk (.t 102)))⟩,⟨(some 104),none,(.q (.faddr 3 (.t 103)))⟩,⟨(some 105),none,(.q (.load none (.t 104)))⟩,⟨(some 106),none,(.q (.faddr 0 (.t 10)))⟩,⟨(some 107),none,(.q (.load none (.t 106)))⟩,⟨(some 108),none,(.q (.lkp 2 .nilslice false (.t 105) (.t 107)))⟩,⟨(some 109),none,(.q (.mov (.t 5)))⟩,⟨(some 110),none,(.bslt 1 1 [(.int .i64 0)] [⟨0,⟨1,(.t 109)⟩⟩])⟩,⟨(some 111),none,(.app 1 (.t 108) (.t 110))⟩,⟨none,none,(.mupd 2 (.t 99) (.t 101) (.t 111))⟩] true [0,4,5,19,20,80,81,82])
.skip))))
(.reg 21 [⟨(some 112),none,(.q (.bin .add (.t 82) (.c (.int .i64 1))))⟩,⟨(some 82),none,(.q (.mov (.t 112)))⟩] [0,4,5,19,20,80,81,82]))))))))))))))
(.reg 22 [⟨(some 113),none,(.q (.bin .add (.t 20) (.c (.int .i64 1))))⟩,⟨(some 20),none,(.q (.mov (.t 113)))⟩] [0,4,19,20])))))))
(.seq
(.reg 23 [⟨(some 114),none,(.q (.mov (.t 4)))⟩,⟨(some 2),none,(.q (.mov (.t 114)))⟩,⟨(some 3),none,(.q (.mov (.c (.int .i64 0))))⟩] [2,3])
.ret)))))
theorem fok33 : FOK Tryz.prog 33 (115,ic33,[(.t 2),(.t 3)]) := .mk (pf := [1000038,1000056,1000077,1000110]) (an := [(0,[0]),(1,[0,12]),(2,[2,3]),(3,[0,4]),(4,[0,4,19,20]),(5,[0,4,19,20,21]),(6,[0,4,5,19,20]),(7,[0,4,5,6,7,19,20]),(8,[0,4,5,6,7,19,20,30]),(9,[2,3]),(10,[0,4,5,6,19,20]),(11,[0,4,5,6,19,20]),(12,[0,4,5,6,19,20,60]),(13,[0,4,5,6,19,20,60,62]),(14,[0,4,5,6,8,19,20,60]),(15,[0,4,5,6,19,20,60]),(16,[0,4,5,19,20,80,81,82]),(17,[0,4,5,19,20,80,81,82,83]),(18,[0,4,5,10,19,20,80,81,82]),(19,[0,4,5,10,19,20,80,81,82,95]),(20,[0,4,5,19,20,80,81,82]),(21,[0,4,5,19,20,80,81,82]),(22,[0,4,19,20]),(23,[2,3])]) (by kernel_rfl) (fnOK_of Tryz.func33 (by kernel_rfl) (by kernel_rfl) (by kernel_rfl))
def ic34 : IC :=
(.seq
(.reg 0 [oK 1 (.box 0),oK 2 (.alloc [(zU 0),(.bool false),.nilslice,.nilslice,(zI 0)])] [1,2])
(.seq
(.oreg 1 [(0,oQ 3 (.faddr 2 1),0),(1,oQ 4 (.load none 3),0),(3,oQ 6 (.faddr 3 1),0),(4,oQ 7 (.load none 6),0),(2,oK 5 (.call 76 [4]),16),(6,oQ 9 (.faddr 2 1),0),(5,oK 8 (.call 77 [7]),0),(7,oN (.store 1 9 5),0),(8,oQ 10 (.faddr 3 1),0),(9,oN (.store 1 10 8),0)] [1,2])
(.seq
(.reg 2 [oQ 11 (.load (some 5) 1),oN (.store 5 2 11)] [2])
.ret)))
theorem fok34 : FOK Tryz.prog 34 (12,ic34,[(.cell (some 5) 2)]) := fokA [2000000] Tryz.func34
def ic35 : IC :=
(.seq
(.reg 0 [⟨(some 2),none,(.q (.mov (.c (.int .i64 0))))⟩] [0])
(.seq
(.seq
(.reg 1 [⟨(some 3),none,(.q (.mov (.t 0)))⟩,⟨(some 4),none,(.q (.isnil (.pointer 86) false (.t 3)))⟩] [0,4])
(.cond (.t 4)
(.seq
(.reg 2 [⟨(some 2),none,(.q (.mov (.c (.int .i64 0))))⟩] [2])
.ret)
.skip))
(.seq
(.reg 3 [⟨(some 5),none,(.q (.mov (.t 0)))⟩,⟨(some 6),none,(.q (.nchk (.t 5)))⟩,⟨(some 7),none,(.q (.faddr 0 (.t 6)))⟩,⟨(some 8),none,(.q (.load none (.t 7)))⟩,⟨(some 9),none,(.q (.len 0 (.t 8)))⟩,⟨(some 2),none,(.q (.mov (.t 9)))⟩] [2])
.ret)))
theorem fok35 : FOK Tryz.prog 35 (10,ic35,[(.t 2)]) := .mk (pf := []) (an := [(0,[0]),(1,[0,4]),(2,[2]),(3,[2])]) (by kernel_rfl) (fnOK_of Tryz.func35 (by kernel_rfl) (by kernel_rfl) (by kernel_rfl))
def ic36 : IC :=
(.seq
(.reg 0 [⟨(some 4),none,(.alloc [(.str []),(.int .i64 0),(.str []),(.str []),(.int .u8 0),(.str []),.nilslice,.nilslice,.nilslice,.nilslice,.nilslice,.nilslice,.nilslice,.nilslice,.nilslice])⟩,⟨(some 5),none,(.q (.mov (.c (.int .i64 0))))⟩] [0,1,4])
(.seq
(.seq
(.reg 1 [⟨(some 6),none,(.q (.mov (.t 0)))⟩,⟨(some 7),none,(.q (.isnil (.pointer 86) false (.t 6)))⟩,⟨(some 8),none,(.q (.mov (.t 7)))⟩,⟨(some 9),(some ⟨8,false⟩),(.q (.mov (.t 0)))⟩,⟨(some 10),(some ⟨8,false⟩),(.q (.nchk (.t 9)))⟩,⟨(some 11),(some ⟨8,false⟩),(.q (.faddr 0 (.t 10)))⟩,⟨(some 12),(some ⟨8,false⟩),(.q (.load none (.t 11)))⟩,⟨(some 13),(some ⟨8,false⟩),(.q (.mov (.t 1)))⟩,⟨(some 14),(some ⟨8,false⟩),(.call 78 [(.t 12),(.t 13)])⟩,⟨(some 15),(some ⟨8,false⟩),(.q (.not (.t 14)))⟩,⟨(some 16),none,(.q (.pick (.t 8) (.c (.bool true)) (.t 15)))⟩] [0,1,4,16])
(.cond (.t 16)
(.seq
(.reg 2 [⟨(some 17),none,(.q (.bld [(.str []),(.int .i64 0),(.str []),(.str []),(.int .u8 0),(.str []),.nilslice,.nilslice,.nilslice,.nilslice,.nilslice,.nilslice,.nilslice,.nilslice,.nilslice] []))⟩,⟨none,none,(.store 15 (.t 4) (.t 17))⟩,⟨(some 5),none,(.q (.mov (.c (.int .i64 5))))⟩] [4,5])
.ret)
.skip))
(.seq
(.reg 3 [⟨(some 18),none,(.q (.mov (.t 0)))⟩,⟨(some 19),none,(.q (.nchk (.t 18)))⟩,⟨(some 20),none,(.q (.faddr 0 (.t 19)))⟩,⟨(some 21),none,(.q (.load none (.t 20)))⟩,⟨(some 22),none,(.q (.mov (.t 1)))⟩,⟨(some 23),none,(.q (.iaddr 17 (.t 21) (.t 22)))⟩,⟨(some 24),none,(.q (.faddr 0 (.t 23)))⟩,⟨(some 25),none,(.q (.load (some 15) (.t 24)))⟩,⟨(some 26),none,(.call 66 [(.t 25)])⟩,⟨none,none,(.store 15 (.t 4) (.t 26))⟩,⟨(some 5),none,(.q (.mov (.c (.int .i64 0))))⟩] [4,5])
.ret)))
theorem fok36 : FOK Tryz.prog 36 (27,ic36,[(.cell (some 15) 4),(.t 5)]) := .mk (pf := []) (an := [(0,[0,1,4]),(1,[0,1,4,16]),(2,[4,5]),(3,[4,5])]) (by kernel_rfl) (fnOK_of Tryz.func36 (by kernel_rfl) (by kernel_rfl) (by kernel_rfl))
def ic37 : IC :=
(.seq
(.reg 0 [oM 2 (.c .nilptr),oM 3 (cI 0)] [0])
(.seq
(.seq
(.reg 1 [oM 10 0,oQ 11 (.isnil (.pointer 101) false 10)] [0,11])
(.cond 11
(.seq
(.reg 2 [oM 2 (.c .nilptr),oM 3 (cI 2)] [2,3])
.ret)
.skip))
(.seq
(.reg 3 [oM 13 0,oK 14 (.call 39 [13]),oK 15 (.call 49 [14]),oM 12 15,oQ 16 (.ext 0 12),oQ 17 (.ext 1 12),oM 4 16,oM 5 17] [0,4,5])
(.seq
(.seq
(.reg 4 [oM 18 5,oQ 19 (.bin .neq 18 (cI 0))] [0,4,5,19])
(.cond 19
(.seq
(.reg 5 [oM 20 5,oM 2 (.c .nilptr),oM 3 20] [2,3])
.ret)
.skip))
(.seq
(.reg 6 [oM 21 0,oM 22 4,oK 23 .mkmap,oQ 24 (.bld [.nilptr,.nilptr,.nilslice,.nilslice,.nilmap] [⟨0,⟨1,21⟩⟩,⟨1,⟨1,22⟩⟩,⟨4,⟨1,23⟩⟩]),oK 25 (.box 24),oM 6 25] [0,6])
(.seq
(.seq
(.reg 7 [oM 26 0,oK 27 (.call 39 [26]),oK 28 (.call 35 [27]),oM 29 (cI 0)] [0,6,28,29])
(.block 0
(.loop
(.seq
(.reg 8 [oQ 30 (.bin .lss 29 28)] [0,6,28,29,30])
(.seq
(.cond 30
.skip
(.exit 0))
(.seq
(.block 1
(.seq
(.reg 9 [oM 31 29,oM 7 31] [0,6,7,28,29])
(.seq
(.reg 10 [oM 33 0,oK 34 (.call 39 [33]),oM 35 7,oK 36 (.call 36 [34,35]),oM 32 36,oQ 37 (.ext 0 32),oQ 38 (.ext 1 32),oK 8 (.alloc [(.str []),(zI 0),(.str []),(.str []),(zU 0),(.str []),.nilslice,.nilslice,.nilslice,.nilslice,.nilslice,.nilslice,.nilslice,.nilslice,.nilslice]),oN (.store 15 8 37),oM 9 38] [0,6,8,9,28,29])
(.seq
(.seq
(.reg 11 [oM 39 9,oQ 40 (.bin .neq 39 (cI 0))] [0,6,8,9,28,29,40])
(.cond 40
(.seq
(.reg 12 [oM 41 9,oM 2 (.c .nilptr),oM 3 41] [2,3])
.ret)
.skip))
(.oreg 13 [(0,oM 42 6,0),(1,oM 43 6,0),(2,oQ 44 (.nchk 43),0),(3,oQ 45 (.faddr 2 44),0),(4,oQ 46 (.load none 45),0),(5,oQ 47 (.load (some 15) 8),0),(6,oK 48 (.bslt 15 1 [(.str []),(zI 0),(.str []),(.str []),(zU 0),(.str []),.nilslice,.nilslice,.nilslice,.nilslice,.nilslice,.nilslice,.nilslice,.nilslice,.nilslice] [⟨0,⟨15,47⟩⟩]),0),(7,oK 49 (.app 15 46 48),0),(8,oQ 50 (.nchk 42),0),(9,oQ 51 (.faddr 2 50),0),(10,oN (.store 1 51 49),0)] [0,6,28,29])))))
(.reg 14 [oQ 52 (.bin .add 29 (cI 1)),oM 29 52] [0,6,28,29])))))))
(.seq
(.reg 15 [oM 53 6,oK 54 (.call 79 [53])] [6])
(.seq
(.reg 16 [oM 55 6,oM 2 55,oM 3 (cI 0)] [2,3])
.ret))))))))
theorem fok37 : FOK Tryz.prog 37 (56,ic37,[(.t 2),(.t 3)]) := fokA [1000048,2000000] Tryz.func37
def ic38 : IC :=
(.seq
(.reg 0 [oM 2 (.c .nilptr),oM 3 (cI 0)] [0])
(.seq
(.reg 1 [oM 11 0,oK 12 (.call 33 [11]),oM 10 12,oQ 13 (.ext 0 10),oQ 14 (.ext 1 10),oM 4 13,oM 5 14] [0,4,5])
(.seq
(.seq
(.reg 2 [oM 15 5,oQ 16 (.bin .neq 15 (cI 0))] [0,4,5,16])
(.cond 16
(.seq
(.reg 3 [oM 17 5,oM 2 (.c .nilptr),oM 3 17] [2,3])
.ret)
.skip))
(.seq
(.reg 4 [oM 18 4,oK 19 .mkmap,oQ 20 (.bld [.nilptr,.nilslice,(zI 0),.nilslice,.nilmap] [⟨0,⟨1,18⟩⟩,⟨4,⟨1,19⟩⟩]),oK 21 (.box 20),oM 6 21] [0,6])
(.seq
(.seq
(.reg 5 [oM 22 0,oK 23 (.call 35 [22]),oM 24 (cI 0)] [0,6,23,24])
(.block 0
(.loop
(.seq
(.reg 6 [oQ 25 (.bin .lss 24 23)] [0,6,23,24,25])
(.seq
(.cond 25
.skip
(.exit 0))
(.seq
(.block 1
(.seq
(.reg 7 [oM 26 24,oM 7 26] [0,6,7,23,24])
(.seq
(.reg 8 [oM 28 0,oM 29 7,oK 30 (.call 36 [28,29]),oM 27 30,oQ 31 (.ext 0 27),oQ 32 (.ext 1 27),oK 8 (.alloc [(.str []),(zI 0),(.str []),(.str []),(zU 0),(.str []),.nilslice,.nilslice,.nilslice,.nilslice,.nilslice,.nilslice,.nilslice,.nilslice,.nilslice]),oN (.store 15 8 31),oM 9 32] [0,6,8,9,23,24])
(.seq
(.seq
(.reg 9 [oM 33 9,oQ 34 (.bin .neq 33 (cI 0))] [0,6,8,9,23,24,34])
(.cond 34
(.seq
(.reg 10 [oM 35 9,oM 2 (.c .nilptr),oM 3 35] [2,3])
.ret)
.skip))
(.oreg 11 [(0,oM 36 6,0),(1,oM 37 6,0),(2,oQ 38 (.nchk 37),0),(3,oQ 39 (.faddr 1 38),0),(4,oQ 40 (.load none 39),0),(5,oQ 41 (.load (some 15) 8),0),(6,oK 42 (.bslt 15 1 [(.str []),(zI 0),(.str []),(.str []),(zU 0),(.str []),.nilslice,.nilslice,.nilslice,.nilslice,.nilslice,.nilslice,.nilslice,.nilslice,.nilslice] [⟨0,⟨15,41⟩⟩]),0),(7,oK 43 (.app 15 40 42),0),(8,oQ 44 (.nchk 36),0),(9,oQ 45 (.faddr 1 44),0),(10,oN (.store 1 45 43),0)] [0,6,23,24])))))
(.reg 12 [oQ 46 (.bin .add 24 (cI 1)),oM 24 46] [0,6,23,24])))))))
(.seq
(.reg 13 [oM 47 6,oM 2 47,oM 3 (cI 0)] [2,3])
.ret))))))
theorem fok38 : FOK Tryz.prog 38 (48,ic38,[(.t 2),(.t 3)]) := fokA [1000042,2000000] Tryz.func38
def ic39 : IC :=
(.seq
(.reg 0 [oM 2 (.c .nilptr)] [0])
(.seq
(.seq
(.reg 1 [oM 3 0,oQ 4 (.isnil (.pointer 101) false 3)] [0,4])
(.cond 4
(.seq
(.reg 2 [oM 2 (.c .nilptr)] [2])
.ret)
.skip))
(.seq
(.reg 3 [oM 5 0,oQ 6 (.nchk 5),oQ 7 (.faddr 0 6),oQ 8 (.load none 7),oM 2 8] [2])
.ret)))
theorem fok39 : FOK Tryz.prog 39 (9,ic39,[(.t 2)]) := fokA [2000000] Tryz.func39
def ic40 : IC :=
(.seq
(.reg 0 [oM 2 (.c .nilslice)] [0])
(.seq
(.seq
(.reg 1 [oM 3 0,oQ 4 (.isnil (.pointer 165) false 3)] [0,4])
(.cond 4
(.seq
(.reg 2 [oM 2 (.c .nilslice)] [2])
.ret)
.skip))
(.seq
(.reg 3 [oM 5 0,oQ 6 (.nchk 5),oQ 7 (.faddr 3 6),oQ 8 (.load none 7),oK 9 (.call 80 [8]),oM 2 9] [2])
.ret)))
theorem fok40 : FOK Tryz.prog 40 (10,ic40,[(.t 2)]) := fokA [2000000] Tryz.func40
def ic42 : IC :=
(.seq
(.reg 0 [oK 3 (.boxt 1),oM 4 (.c .nilslice),oM 5 (cI 0)] [0,3])
(.seq
(.oreg 1 [(0,oM 10 0,0),(1,oQ 11 (.nchk 10),0),(2,oQ 12 (.faddr 0 11),0),(3,oQ 13 (.load none 12),0),(5,oQ 15 (.faddr 1 3),0),(6,oQ 16 (.load none 15),0),(4,oK 14 (.call 39 [13]),64),(7,oK 17 (.call 36 [14,16]),0),(8,oM 9 17,0),(9,oQ 18 (.ext 0 9),0),(10,oQ 19 (.ext 1 9),0),(11,oK 6 (.alloc [(.str []),(zI 0),(.str []),(.str []),(zU 0),(.str []),.nilslice,.nilslice,.nilslice,.nilslice,.nilslice,.nilslice,.nilslice,.nilslice,.nilslice]),0),(12,oN (.store 15 6 18),0),(13,oM 7 19,0)] [0,3,6,7])
(.seq
(.seq
(.reg 2 [oM 20 7,oQ 21 (.bin .neq 20 (cI 0))] [0,3,6,7,21])
(.cond 21
(.seq
(.reg 3 [oM 22 7,oM 4 (.c .nilslice),oM 5 22] [4,5])
.ret)
.skip))
(.seq
(.dreg 4 [oM 24 0,oQ 25 (.nchk 24),oQ 26 (.faddr 2 25),oQ 27 (.load none 26),oQ 28 (.faddr 7 6),oQ 29 (.load none 28),oQ 30 (.faddr 2 3),oQ 31 (.load none 30),oQ 32 (.iaddr 7 29 31),oQ 33 (.load (some 7) 32),oK 34 (.call 82 [27,33,(cI (-1))]),oM 23 34,oQ 35 (.ext 0 23),oQ 36 (.ext 1 23),oM 8 35,oM 7 36] false [3,7,8])
(.seq
(.reg 5 [oQ 37 (.faddr 1 3),oQ 38 (.load none 37),oK 39 (.bslt 1 1 [(zI 0)] [⟨0,⟨1,38⟩⟩]),oK 40 (.call 81 [39]),oM 41 8,oK 42 (.bslt 1 1 [(zI 0)] [⟨0,⟨1,41⟩⟩]),oK 43 (.app 1 40 42),oK 44 (.bslt 1 1 [.nilslice] [⟨0,⟨1,43⟩⟩]),oM 45 7,oM 4 44,oM 5 45] [4,5])
.ret)))))
theorem fok42 : FOK Tryz.prog 42 (46,ic42,[(.t 4),(.t 5)]) := fokA [1000003,1000039,1000042,1000044,2000000] Tryz.func42
def ic43 : IC :=
(.seq
(.reg 0 [oK 3 (.boxt 1),oM 4 (.c .nilslice),oM 5 (cI 0)] [0,3])
(.seq
(.oreg 1 [(0,oM 10 0,0),(1,oQ 11 (.nchk 10),0),(2,oQ 12 (.faddr 0 11),0),(3,oQ 13 (.load none 12),0),(5,oQ 15 (.faddr 1 3),0),(6,oQ 16 (.load none 15),0),(4,oK 14 (.call 39 [13]),64),(7,oK 17 (.call 36 [14,16]),0),(8,oM 9 17,0),(9,oQ 18 (.ext 0 9),0),(10,oQ 19 (.ext 1 9),0),(11,oK 6 (.alloc [(.str []),(zI 0),(.str []),(.str []),(zU 0),(.str []),.nilslice,.nilslice,.nilslice,.nilslice,.nilslice,.nilslice,.nilslice,.nilslice,.nilslice]),0),(12,oN (.store 15 6 18),0),(13,oM 7 19,0)] [0,3,6,7])
(.seq
(.seq
(.reg 2 [oM 20 7,oQ 21 (.bin .neq 20 (cI 0))] [0,3,6,7,21])
(.cond 21
(.seq
(.reg 3 [oM 22 7,oM 4 (.c .nilslice),oM 5 22] [4,5])
.ret)
.skip))
(.seq
(.dreg 4 [oM 24 0,oQ 25 (.nchk 24),oQ 26 (.faddr 2 25),oQ 27 (.load none 26),oQ 28 (.faddr 8 6),oQ 29 (.load none 28),oQ 30 (.faddr 2 3),oQ 31 (.load none 30),oQ 32 (.iaddr 7 29 31),oQ 33 (.load (some 7) 32),oQ 34 (.faddr 1 3),oQ 35 (.load none 34),oK 36 (.call 82 [27,33,35]),oM 23 36,oQ 37 (.ext 0 23),oQ 38 (.ext 1 23),oM 8 37,oM 7 38] false [3,7,8])
(.seq
(.reg 5 [oQ 39 (.faddr 1 3),oQ 40 (.load none 39),oK 41 (.bslt 1 1 [(zI 0)] [⟨0,⟨1,40⟩⟩]),oK 42 (.call 81 [41]),oM 43 8,oQ 44 (.neg 43),oK 45 (.bslt 1 1 [(zI 0)] [⟨0,⟨1,44⟩⟩]),oK 46 (.app 1 42 45),oK 47 (.bslt 1 1 [.nilslice] [⟨0,⟨1,46⟩⟩]),oM 48 7,oM 4 47,oM 5 48] [4,5])
.ret)))))
theorem fok43 : FOK Tryz.prog 43 (49,ic43,[(.t 4),(.t 5)]) := fokA [1000003,1000041,1000045,1000047,2000000] Tryz.func43
def ic45 : IC :=
(.seq
(.reg 0 [oK 3 (.boxt 1),oM 4 (.c .nilslice),oM 5 (cI 0)] [3])
(.seq
(.reg 1 [oQ 6 (.faddr 1 3),oQ 7 (.load none 6),oQ 8 (.faddr 2 3),oQ 9 (.load none 8),oK 10 (.bslt 1 2 [(zI 0)] [⟨0,⟨1,7⟩⟩,⟨1,⟨1,9⟩⟩]),oK 11 (.call 81 [10]),oK 12 (.bslt 1 1 [.nilslice] [⟨0,⟨1,11⟩⟩]),oM 4 12,oM 5 (cI 0)] [4,5])
.ret))
theorem fok45 : FOK Tryz.prog 45 (13,ic45,[(.t 4),(.t 5)]) := fokA [1000003,1000010,1000012,2000000] Tryz.func45
def ic46 : IC :=
(.seq
(.reg 0 [oK 3 (.boxt 1),oM 4 (.c .nilslice),oM 5 (cI 0)] [0,3])
(.seq
(.dreg 1 [oM 6 0,oQ 7 (.nchk 6),oQ 8 (.faddr 0 7),oQ 9 (.load none 8),oQ 10 (.faddr 1 3),oQ 11 (.load none 10),oK 12 (.call 86 [9,11]),oK 13 (.call 85 [12]),oK 14 (.bslt 1 1 [.nilslice] [⟨0,⟨1,13⟩⟩]),oM 4 14,oM 5 (cI 0)] false [4,5])
.ret))
theorem fok46 : FOK Tryz.prog 46 (15,ic46,[(.t 4),(.t 5)]) := fokA [1000003,1000014,2000000] Tryz.func46
def ic47 : IC :=
(.seq
(.reg 0 [oK 3 (.boxt 1),oM 4 (.c .nilslice),oM 5 (cI 0)] [0,3])
(.seq
(.oreg 1 [(0,oM 12 0,0),(1,oQ 13 (.nchk 12),0),(2,oQ 14 (.faddr 0 13),0),(3,oQ 15 (.load none 14),0),(6,oQ 18 (.faddr 1 3),0),(7,oQ 19 (.load none 18),0),(11,oM 23 0,0),(12,oQ 24 (.nchk 23),0),(13,oQ 25 (.faddr 0 24),0),(14,oQ 26 (.load none 25),0),(15,oQ 27 (.faddr 1 3),0),(16,oQ 28 (.load none 27),0),(4,oK 16 (.call 87 [15]),82048),(5,oQ 17 (.fld none 2 16),0),(8,oQ 20 (.iaddr 6 17 19),0),(9,oQ 21 (.faddr 0 20),0),(10,oQ 22 (.load none 21),0),(17,oK 29 (.call 88 [26,28]),1152),(18,oM 6 22,0),(19,oM 7 29,0)] [0,6,7])
(.seq
(.seq
(.reg 2 [oM 30 6,oQ 31 (.bin .eql 30 (.c (zU 1)))] [0,6,7,31])
(.cond 31
(.seq
(.reg 3 [oM 32 7,oK 33 (.call 85 [32]),oK 34 (.bslt 1 1 [.nilslice] [⟨0,⟨1,33⟩⟩]),oM 4 34,oM 5 (cI 0)] [4,5])
.ret)
.skip))
(.seq
(.reg 4 [oM 8 (.c .nilslice)] [0,6,7,8])
(.seq
(.seq
(.reg 5 [oM 35 7,oQ 36 (.len 0 35),oM 37 (cI 0)] [0,6,8,35,36,37])
(.block 0
(.loop
(.seq
(.reg 6 [oQ 38 (.bin .lss 37 36)] [0,6,8,35,36,37,38])
(.seq
(.cond 38
.skip
(.exit 0))
(.seq
(.block 1
(.seq
(.reg 7 [oQ 39 (.iaddr 1 35 37),oQ 40 (.load none 39),oM 10 40] [0,6,8,10,35,36,37])
(.seq
(.reg 8 [oM 41 10,oK 42 (.bslt 1 1 [(zI 0)] [⟨0,⟨1,41⟩⟩]),oK 43 (.call 81 [42]),oM 11 43] [0,6,8,10,11,35,36,37])
(.seq
(.seq
(.reg 9 [oM 44 6] [0,6,8,10,11,35,36,37,44])
(.block 2
(.seq
(.reg 10 [oQ 46 (.bin .eql 44 (.c (zU 3))),oM 45 46] [0,6,8,10,11,35,36,37,44,45])
(.cond 45
(.reg 11 [oM 47 0,oQ 48 (.nchk 47),oQ 49 (.faddr 0 48),oQ 50 (.load none 49),oM 51 10,oK 52 (.call 86 [50,51]),oK 53 (.call 85 [52]),oM 11 53] [0,6,8,11,35,36,37])
(.seq
(.reg 12 [oQ 55 (.bin .eql 44 (.c (zU 4))),oM 54 55] [0,6,8,10,11,35,36,37,54])
(.cond 54
(.seq
(.reg 13 [oM 56 0,oQ 57 (.nchk 56),oQ 58 (.faddr 0 57),oQ 59 (.load none 58),oM 60 10,oK 61 (.call 89 [59,60]),oK 62 (.call 85 [61]),oM 11 62] [0,6,8,11,35,36,37])
(.seq
(.reg 14 [oM 63 11,oQ 64 (.len 0 63),oQ 65 (.bin .eql 64 (cI 0))] [0,6,8,11,35,36,37,65])
(.cond 65
(.exit 1)
.skip)))
.skip))))))
(.reg 15 [oM 66 8,oM 67 11,oK 68 (.bslt 1 1 [.nilslice] [⟨0,⟨1,67⟩⟩]),oK 69 (.app 1 66 68),oM 8 69] [0,6,8,35,36,37])))))
(.reg 16 [oQ 70 (.bin .add 37 (cI 1)),oM 37 70] [0,6,8,35,36,37])))))))
(.seq
(.reg 17 [oM 71 8,oM 4 71,oM 5 (cI 0)] [4,5])
.ret))))))
theorem fok47 : FOK Tryz.prog 47 (72,ic47,[(.t 4),(.t 5)]) := fokA [1000003,1000034,1000042,1000068,2000000] Tryz.func47
def ic48 : IC :=
(.seq
(.reg 0 [oM 2 (.c .nilptr),oM 3 (cI 0)] [0])
(.seq
(.seq
(.reg 1 [oM 20 0,oQ 21 (.isnil (.pointer 101) false 20)] [0,21])
(.cond 21
(.seq
(.reg 2 [oM 2 (.c .nilptr),oM 3 (cI 2)] [2,3])
.ret)
.skip))
(.seq
(.reg 3 [oM 22 0,oM 23 0,oK 24 (.call 39 [23]),oM 25 0,oK 26 (.call 87 [25]),oQ 27 (.fld none 0 26),oQ 28 (.bld [.nilptr,.nilptr,(zU 0),.nilslice,.nilslice] [⟨0,⟨1,22⟩⟩,⟨1,⟨1,24⟩⟩,⟨2,⟨1,27⟩⟩]),oK 29 (.box 28),oM 4 29] [4])
(.seq
(.seq
(.reg 4 [oM 30 4,oQ 31 (.nchk 30),oQ 32 (.faddr 1 31),oQ 33 (.load none 32),oK 34 (.call 35 [33]),oM 35 (cI 0)] [4,34,35])
(.block 0
(.loop
(.seq
(.reg 5 [oQ 36 (.bin .lss 35 34)] [4,34,35,36])
(.seq
(.cond 36
.skip
(.exit 0))
(.seq
(.block 1
(.seq
(.reg 6 [oM 37 35,oM 5 37] [4,5,34,35])
(.seq
(.reg 7 [oM 39 4,oQ 40 (.nchk 39),oQ 41 (.faddr 1 40),oQ 42 (.load none 41),oM 43 5,oK 44 (.call 36 [42,43]),oM 38 44,oQ 45 (.ext 0 38),oQ 46 (.ext 1 38),oK 6 (.alloc [(.str []),(zI 0),(.str []),(.str []),(zU 0),(.str []),.nilslice,.nilslice,.nilslice,.nilslice,.nilslice,.nilslice,.nilslice,.nilslice,.nilslice]),oN (.store 15 6 45),oM 7 46] [4,6,7,34,35])
(.seq
(.seq
(.reg 8 [oM 47 7,oQ 48 (.bin .neq 47 (cI 0))] [4,6,7,34,35,48])
(.cond 48
(.seq
(.reg 9 [oM 49 7,oM 2 (.c .nilptr),oM 3 49] [2,3])
.ret)
.skip))
(.oreg 10 [(0,oM 50 4,0),(1,oM 51 4,0),(2,oQ 52 (.nchk 51),0),(3,oQ 53 (.faddr 3 52),0),(4,oQ 54 (.load none 53),0),(5,oQ 55 (.load (some 15) 6),0),(6,oK 56 (.bslt 15 1 [(.str []),(zI 0),(.str []),(.str []),(zU 0),(.str []),.nilslice,.nilslice,.nilslice,.nilslice,.nilslice,.nilslice,.nilslice,.nilslice,.nilslice] [⟨0,⟨15,55⟩⟩]),0),(7,oK 57 (.app 15 54 56),0),(8,oQ 58 (.nchk 50),0),(9,oQ 59 (.faddr 3 58),0),(10,oN (.store 1 59 57),0)] [4,34,35])))))
(.reg 11 [oQ 60 (.bin .add 35 (cI 1)),oM 35 60] [4,34,35])))))))
(.seq
(.reg 12 [oM 62 4,oQ 63 (.nchk 62),oQ 64 (.faddr 1 63),oQ 65 (.load none 64),oK 66 (.call 49 [65]),oM 61 66,oQ 67 (.ext 0 61),oQ 68 (.ext 1 61),oK 8 (.alloc [.nilptr]),oN (.store 1 8 67),oM 9 68] [4,8,9])
(.seq
(.seq
(.reg 13 [oM 69 9,oQ 70 (.bin .neq 69 (cI 0))] [4,8,9,70])
(.cond 70
(.seq
(.reg 14 [oM 71 9,oM 2 (.c .nilptr),oM 3 71] [2,3])
.ret)
.skip))
(.seq
(.reg 15 [oK 10 (.alloc [.nilslice])] [4,8,10])
(.seq
(.reg 16 [oM 11 (.c .nilslice)] [4,8,10,11])
(.seq
(.seq
(.oreg 17 [(0,oM 72 4,0),(1,oQ 73 (.nchk 72),0),(2,oQ 74 (.faddr 3 73),0),(3,oQ 75 (.load none 74),0),(4,oM 76 4,0),(5,oQ 77 (.nchk 76),0),(6,oQ 78 (.faddr 1 77),0),(7,oQ 79 (.load none 78),0),(11,oM 83 (cI 0),0),(8,oK 80 (.call 32 [79]),8),(9,oQ 81 (.slc 15 75 none (some 80)),0),(10,oQ 82 (.len 0 81),0)] [4,8,10,11,81,82,83])
(.block 2
(.loop
(.seq
(.reg 18 [oQ 84 (.bin .lss 83 82)] [4,8,10,11,81,82,83,84])
(.seq
(.cond 84
.skip
(.exit 2))
(.seq
(.block 3
(.seq
(.reg 19 [oM 85 83,oQ 86 (.iaddr 15 81 83),oQ 87 (.load (some 15) 86),oK 13 (.alloc [(.str []),(zI 0),(.str []),(.str []),(zU 0),(.str []),.nilslice,.nilslice,.nilslice,.nilslice,.nilslice,.nilslice,.nilslice,.nilslice,.nilslice]),oM 12 85,oN (.store 15 13 87)] [4,8,10,11,12,13,81,82,83])
(.seq
(.reg 20 [oQ 88 (.load none 10),oM 89 12,oK 90 (.bslt 1 1 [(zI 0)] [⟨0,⟨1,89⟩⟩]),oK 91 (.app 1 88 90),oN (.store 1 10 91)] [4,8,10,11,13,81,82,83])
(.seq
(.reg 21 [oQ 92 (.faddr 12 13),oQ 93 (.load none 92),oQ 94 (.len 0 93),oM 95 (cI 0)] [4,8,10,11,81,82,83,93,94,95])
(.block 4
(.loop
(.seq
(.reg 22 [oQ 96 (.bin .lss 95 94)] [4,8,10,11,81,82,83,93,94,95,96])
(.seq
(.cond 96
.skip
(.exit 4))
(.seq
(.block 5
(.seq
(.reg 23 [oQ 97 (.iaddr 7 93 95),oQ 98 (.load (some 7) 97),oK 15 (.alloc [(zU 0),(.str []),(zU 0),(zI 0),(.str []),(.str []),.nilslice]),oN (.store 7 15 98)] [4,8,10,11,15,81,82,83,93,94,95])
(.reg 24 [oM 99 11,oQ 100 (.load (some 7) 15),oK 101 (.call 90 [100]),oK 102 (.app 5 99 101),oM 11 102] [4,8,10,11,81,82,83,93,94,95])))
(.reg 25 [oQ 103 (.bin .add 95 (cI 1)),oM 95 103] [4,8,10,11,81,82,83,93,94,95]))))))))))
(.reg 26 [oQ 104 (.bin .add 83 (cI 1)),oM 83 104] [4,8,10,11,81,82,83])))))))
(.seq
(.seq
(.reg 27 [oM 105 4,oQ 106 (.nchk 105),oQ 107 (.faddr 3 106),oQ 108 (.load none 107),oQ 109 (.len 0 108),oM 110 (cI 0)] [4,8,10,11,108,109,110])
(.block 6
(.loop
(.seq
(.reg 28 [oQ 111 (.bin .lss 110 109)] [4,8,10,11,108,109,110,111])
(.seq
(.cond 111
.skip
(.exit 6))
(.seq
(.block 7
(.seq
(.reg 29 [oQ 112 (.iaddr 15 108 110),oQ 113 (.load (some 15) 112),oK 17 (.alloc [(.str []),(zI 0),(.str []),(.str []),(zU 0),(.str []),.nilslice,.nilslice,.nilslice,.nilslice,.nilslice,.nilslice,.nilslice,.nilslice,.nilslice]),oN (.store 15 17 113)] [4,8,10,11,17,108,109,110])
(.seq
(.reg 30 [oM 114 11,oQ 115 (.mkf 92 [] [17]),oK 116 (.call 91 [114,115]),oM 18 116] [4,8,10,11,17,18,108,109,110])
(.seq
(.reg 31 [oQ 117 (.faddr 13 17),oQ 118 (.load none 117),oQ 119 (.mkf 95 [] [8,10]),oK 120 (.call 94 [118,119]),oM 19 120] [4,8,10,11,18,19,108,109,110])
(.reg 32 [oM 121 4,oM 122 4,oQ 123 (.nchk 122),oQ 124 (.faddr 4 123),oQ 125 (.load none 124),oM 126 18,oM 127 126,gQ 128 127 false (.mov 19),oQ 129 (.pick 127 (cB true) 128),oK 130 (.bslt 1 1 [(.bool false)] [⟨0,⟨1,129⟩⟩]),oK 131 (.app 1 125 130),oQ 132 (.nchk 121),oQ 133 (.faddr 4 132),oN (.store 1 133 131)] [4,8,10,11,108,109,110])))))
(.reg 33 [oQ 134 (.bin .add 110 (cI 1)),oM 110 134] [4,8,10,11,108,109,110])))))))
(.seq
(.reg 34 [oM 135 4,oM 2 135,oM 3 (cI 0)] [2,3])
.ret)))))))))))
theorem fok48 : FOK Tryz.prog 48 (136,ic48,[(.t 2),(.t 3)]) := fokA [1000056,1000090,1000130,2000000] Tryz.func48
def ic49 : IC :=
(.seq
(.reg 0 [oM 2 (.c .nilptr),oM 3 (cI 0)] [0])
(.seq
(.reg 1 [oM 7 0,oK 8 (.call 33 [7]),oM 6 8,oQ 9 (.ext 0 6),oQ 10 (.ext 1 6),oM 4 9,oM 5 10] [0,4,5])
(.seq
(.seq
(.reg 2 [oM 11 5,oQ 12 (.bin .neq 11 (cI 0))] [0,4,5,12])
(.cond 12
(.seq
(.reg 3 [oM 13 5,oM 2 (.c .nilptr),oM 3 13] [2,3])
.ret)
.skip))
(.seq
(.reg 4 [oM 14 4,oM 15 0,oK 16 (.call 35 [15]),oQ 17 (.bld [.nilptr,(zI 0)] [⟨0,⟨1,14⟩⟩,⟨1,⟨1,16⟩⟩]),oK 18 (.boxt 17),oM 2 18,oM 3 (cI 0)] [2,3])
.ret))))
theorem fok49 : FOK Tryz.prog 49 (19,ic49,[(.t 2),(.t 3)]) := fokA [1000018,2000000] Tryz.func49
def ic50 : IC :=
(.seq
(.reg 0 [oM 2 (cI 0)] [0])
(.seq
(.seq
(.reg 1 [oM 5 0,oK 6 (.bslt 1 1 [(zU 0)] [⟨0,⟨1,(.c (zU 1))⟩⟩]),oK 7 (.call 97 [5,6]),oQ 8 (.len 0 7),oM 9 (cI 0)] [0,7,8,9])
(.block 0
(.loop
(.seq
(.reg 2 [oQ 10 (.bin .lss 9 8)] [0,7,8,9,10])
(.seq
(.cond 10
.skip
(.exit 0))
(.seq
(.block 1
(.seq
(.reg 3 [oQ 11 (.iaddr 1 7 9),oQ 12 (.load none 11),oM 4 12] [0,4,7,8,9])
(.oreg 4 [(0,oM 13 0,0),(1,oM 14 4,0),(2,oM 15 0,0),(3,oQ 16 (.nchk 15),0),(4,oQ 17 (.faddr 2 16),0),(5,oQ 18 (.load none 17),0),(6,oM 19 0,0),(7,oQ 20 (.nchk 19),0),(8,oQ 21 (.faddr 0 20),0),(9,oQ 22 (.load none 21),0),(10,oM 23 4,0),(11,oK 24 (.call 88 [22,23]),32),(12,oK 25 (.call 99 [18,24]),0),(13,oK 26 (.call 98 [13,(.c (zU 1)),14,25]),0)] [0,7,8,9])))
(.reg 5 [oQ 27 (.bin .add 9 (cI 1)),oM 9 27] [0,7,8,9])))))))
(.seq
(.reg 6 [oM 2 (cI 0)] [2])
.ret)))
theorem fok50 : FOK Tryz.prog 50 (28,ic50,[(.t 2)]) := fokA [1000006,2000000] Tryz.func50
def ic51 : IC :=
(.seq
(.reg 0 [oM 2 (cI 0)] [0])
(.seq
(.reg 1 [oM 11 0,oQ 12 (.nchk 11),oQ 13 (.faddr 0 12),oQ 14 (.load none 13),oK 15 (.call 39 [14]),oK 16 (.call 35 [15]),oK 17 (.mksl 1 [(.bool false)] 16),oM 3 17] [0,3])
(.seq
(.seq
(.reg 2 [oM 18 0,oK 19 (.bslt 1 2 [(zU 0)] [⟨0,⟨1,(.c (zU 3))⟩⟩,⟨1,⟨1,(.c (zU 4))⟩⟩]),oK 20 (.call 97 [18,19]),oQ 21 (.len 0 20),oM 22 (cI 0)] [0,3,20,21,22])
(.block 0
(.loop
(.seq
(.reg 3 [oQ 23 (.bin .lss 22 21)] [0,3,20,21,22,23])
(.seq
(.cond 23
.skip
(.exit 0))
(.seq
(.block 1
(.seq
(.reg 4 [oQ 24 (.iaddr 1 20 22),oQ 25 (.load none 24),oM 5 25] [0,3,5,20,21,22])
(.seq
(.reg 5 [oM 26 0,oQ 27 (.nchk 26),oQ 28 (.faddr 2 27),oQ 29 (.load none 28),oQ 30 (.mkf 100 [29] []),oM 6 30] [0,3,5,6,20,21,22])
(.seq
(.seq
(.reg 6 [oM 31 0,oQ 32 (.nchk 31),oQ 33 (.faddr 0 32),oQ 34 (.load none 33),oK 35 (.call 87 [34]),oQ 36 (.fld none 2 35),oM 37 5,oQ 38 (.iaddr 6 36 37),oQ 39 (.faddr 0 38),oQ 40 (.load none 39),oQ 41 (.bin .eql 40 (.c (zU 4)))] [0,3,5,6,20,21,22,41])
(.cond 41
(.reg 7 [oM 42 0,oQ 43 (.nchk 42),oQ 44 (.faddr 2 43),oQ 45 (.load none 44),oQ 46 (.mkf 101 [45] []),oM 6 46] [0,3,5,6,20,21,22])
.skip))
(.seq
(.reg 8 [oM 47 0,oQ 48 (.nchk 47),oQ 49 (.faddr 0 48),oQ 50 (.load none 49),oM 51 5,oK 52 (.call 88 [50,51]),oQ 53 (.len 0 52),oM 54 (cI 0)] [0,3,6,20,21,22,52,53,54])
(.block 2
(.loop
(.seq
(.reg 9 [oQ 55 (.bin .lss 54 53)] [0,3,6,20,21,22,52,53,54,55])
(.seq
(.cond 55
.skip
(.exit 2))
(.seq
(.block 3
(.seq
(.reg 10 [oQ 56 (.iaddr 1 52 54),oQ 57 (.load none 56),oM 8 57] [0,3,6,8,20,21,22,52,53,54])
(.seq
(.reg 11 [oM 58 3,oM 59 8,oQ 60 (.iaddr 1 58 59),oN (.store 1 60 (cB true))] [0,3,6,8,20,21,22,52,53,54])
(.reg 12 [oM 61 0,oM 62 8,oM 63 6,oM 64 8,oK 65 (.callv 63 [64]),oK 66 (.call 98 [61,(.c (zU 2)),62,65])] [0,3,6,20,21,22,52,53,54]))))
(.reg 13 [oQ 67 (.bin .add 54 (cI 1)),oM 54 67] [0,3,6,20,21,22,52,53,54])))))))))))
(.reg 14 [oQ 68 (.bin .add 22 (cI 1)),oM 22 68] [0,3,20,21,22])))))))
(.seq
(.seq
(.reg 15 [oM 69 0,oQ 70 (.nchk 69),oQ 71 (.faddr 4 70),oQ 72 (.load none 71),oQ 73 (.len 0 72),oM 74 (cI 0)] [0,3,72,73,74])
(.block 4
(.loop
(.seq
(.reg 16 [oQ 75 (.bin .lss 74 73)] [0,3,72,73,74,75])
(.seq
(.cond 75
.skip
(.exit 4))
(.seq
(.block 5
(.seq
(.reg 17 [oQ 76 (.iaddr 1 72 74),oQ 77 (.load none 76),oM 10 77] [0,3,10,72,73,74])
(.seq
(.reg 18 [oM 78 3,oM 79 10,oQ 80 (.iaddr 1 78 79),oQ 81 (.load none 80),oQ 82 (.not 81)] [0,3,10,72,73,74,82])
(.cond 82
(.reg 19 [oM 83 0,oM 84 10,oM 85 0,oQ 86 (.nchk 85),oQ 87 (.faddr 2 86),oQ 88 (.load none 87),oM 89 10,oK 90 (.call 102 [88,89]),oK 91 (.call 98 [83,(.c (zU 3)),84,90])] [0,3,72,73,74])
.skip))))
(.reg 20 [oQ 92 (.bin .add 74 (cI 1)),oM 74 92] [0,3,72,73,74])))))))
(.seq
(.reg 21 [oM 2 (cI 0)] [2])
.ret)))))
theorem fok51 : FOK Tryz.prog 51 (93,ic51,[(.t 2)]) := fokA [1000019,2000000] Tryz.func51
def ic52 : IC :=
(.seq
(.reg 0 [oM 2 (cI 0)] [0])
(.seq
(.seq
(.reg 1 [oM 13 0,oQ 14 (.nchk 13),oQ 15 (.faddr 5 14),oQ 16 (.load none 15),oQ 17 (.len 0 16),oM 18 (cI 0)] [0,16,17,18])
(.block 0
(.loop
(.seq
(.reg 2 [oQ 19 (.bin .lss 18 17)] [0,16,17,18,19])
(.seq
(.cond 19
.skip
(.exit 0))
(.seq
(.block 1
(.seq
(.reg 3 [oQ 20 (.iaddr 1 16 18),oQ 21 (.load none 20),oK 4 (.alloc [(zI 0)]),oN (.store 1 4 21)] [0,4,16,17,18])
(.seq
(.oreg 4 [(0,oM 23 0,0),(1,oQ 24 (.nchk 23),0),(2,oQ 25 (.faddr 0 24),0),(3,oQ 26 (.load none 25),0),(5,oQ 28 (.load none 4),0),(4,oK 27 (.call 39 [26]),32),(6,oK 29 (.call 36 [27,28]),0),(7,oM 22 29,0),(8,oQ 30 (.ext 0 22),0),(9,oQ 31 (.ext 1 22),0),(10,oK 5 (.alloc [(.str []),(zI 0),(.str []),(.str []),(zU 0),(.str []),.nilslice,.nilslice,.nilslice,.nilslice,.nilslice,.nilslice,.nilslice,.nilslice,.nilslice]),0),(11,oN (.store 15 5 30),0),(12,oM 6 31,0)] [0,4,5,6,16,17,18])
(.seq
(.seq
(.reg 5 [oM 32 6,oQ 33 (.bin .neq 32 (cI 0))] [0,4,5,6,16,17,18,33])
(.cond 33
(.seq
(.reg 6 [oM 34 6,oM 2 34] [2])
.ret)
.skip))
(.seq
(.seq
(.reg 7 [oQ 35 (.faddr 10 5),oQ 36 (.load none 35),oQ 37 (.len 0 36),oM 38 (cI 0)] [0,4,5,16,17,18,36,37,38])
(.block 2
(.loop
(.seq
(.reg 8 [oQ 39 (.bin .lss 38 37)] [0,4,5,16,17,18,36,37,38,39])
(.seq
(.cond 39
.skip
(.exit 2))
(.seq
(.block 3
(.seq
(.reg 9 [oQ 40 (.iaddr 7 36 38),oQ 41 (.load (some 7) 40),oK 8 (.alloc [(zU 0),(.str []),(zU 0),(zI 0),(.str []),(.str []),.nilslice]),oN (.store 7 8 41)] [0,4,5,8,16,17,18,36,37,38])
(.seq
(.reg 10 [oM 42 0,oQ 43 (.load none 4),oQ 44 (.load (some 7) 8),oQ 45 (.mkf 104 [] [4]),oK 46 (.call 103 [42,43,44,45]),oM 9 46] [0,4,5,9,16,17,18,36,37,38])
(.seq
(.reg 11 [oM 47 9,oQ 48 (.bin .neq 47 (cI 0))] [0,4,5,9,16,17,18,36,37,38,48])
(.cond 48
(.seq
(.reg 12 [oM 49 9,oM 2 49] [2])
.ret)
.skip)))))
(.reg 13 [oQ 50 (.bin .add 38 (cI 1)),oM 38 50] [0,4,5,16,17,18,36,37,38])))))))
(.seq
(.reg 14 [oQ 51 (.faddr 11 5),oQ 52 (.load none 51),oQ 53 (.len 0 52),oM 54 (cI 0)] [0,4,16,17,18,52,53,54])
(.block 4
(.loop
(.seq
(.reg 15 [oQ 55 (.bin .lss 54 53)] [0,4,16,17,18,52,53,54,55])
(.seq
(.cond 55
.skip
(.exit 4))
(.seq
(.block 5
(.seq
(.reg 16 [oQ 56 (.iaddr 7 52 54),oQ 57 (.load (some 7) 56),oK 11 (.alloc [(zU 0),(.str []),(zU 0),(zI 0),(.str []),(.str []),.nilslice]),oN (.store 7 11 57)] [0,4,11,16,17,18,52,53,54])
(.seq
(.seq
(.dreg 17 [oM 58 0,oQ 59 (.nchk 58),oQ 60 (.faddr 3 59),oQ 61 (.load none 60),oM 62 0,oQ 63 (.nchk 62),oQ 64 (.faddr 4 63),oQ 65 (.load none 64),oQ 66 (.load (some 7) 11),oK 67 (.call 96 [61,65,66])] false [0,4,11,16,17,18,52,53,54,67])
(.cond 67
(.exit 5)
.skip))
(.seq
(.reg 18 [oM 68 0,oQ 69 (.load none 4),oQ 70 (.load (some 7) 11),oQ 71 (.mkf 105 [] [4]),oK 72 (.call 103 [68,69,70,71]),oM 12 72] [0,4,12,16,17,18,52,53,54])
(.seq
(.reg 19 [oM 73 12,oQ 74 (.bin .neq 73 (cI 0))] [0,4,12,16,17,18,52,53,54,74])
(.cond 74
(.seq
(.reg 20 [oM 75 12,oM 2 75] [2])
.ret)
.skip))))))
(.reg 21 [oQ 76 (.bin .add 54 (cI 1)),oM 54 76] [0,4,16,17,18,52,53,54]))))))))))))
(.reg 22 [oQ 77 (.bin .add 18 (cI 1)),oM 18 77] [0,16,17,18])))))))
(.seq
(.reg 23 [oM 2 (cI 0)] [2])
.ret)))
theorem fok52 : FOK Tryz.prog 52 (78,ic52,[(.t 2)]) := fokA [2000000] Tryz.func52
end Go.Id.Tryz
