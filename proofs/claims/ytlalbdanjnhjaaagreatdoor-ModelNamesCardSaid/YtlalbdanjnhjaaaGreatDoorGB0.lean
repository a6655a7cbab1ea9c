/- The compiled codes of functions, written by a program out of the given form. Conditions: none. -/
import Derived.Test.YtlalbdanjnhjaaaGreatDoorFwW
import Derived.Test.YtlalbdanjnhjaaaGreatDoorProg
set_option linter.all false
namespace Go.Id.Tryz
open Go Go.Id Go.Proofs
def allF0 : List Nat := List.range 345
def ic3 : IC :=
 (.seq
 (.reg 0 [oM 0 (cB false)] [])
 (.seq
 (.reg 1 [oM 1 (.c .nilptr)] [1])
 (.seq
 (.reg 2 [oK 20 (.call 5 [(.c .nilptr)]), oM 19 20, oQ 21 (.ext 0 19), oQ 22 (.ext 1 19), oM 2 21, oM 3 22] [1, 3])
 (.seq
 (.seq
 (.reg 3 [oM 23 3, oQ 24 (.bin .neq 23 (cI 2)), oM 25 24, gQ 26 25 false (.mov 1), gK 27 25 false (.call 6 [26]), gQ 28 25 false (.len 0 27), gQ 29 25 false (.bin .neq 28 (cI 0)), oQ 30 (.pick 25 (cB true) 29), oM 31 30, gQ 32 31 false (.mov 1), gQ 33 31 false (.bld [(zU 0), (zI 0), (zI 0)] [⟨0, ⟨1, (.c (zU 6))⟩⟩]), gK 34 31 false (.call 7 [32, 33]), oQ 35 (.pick 31 (cB true) 34), oM 36 35, gQ 37 36 false (.mov 1), gQ 38 36 false (.bld [(zU 0), (zI 0), (zI 0)] []), gK 39 36 false (.call 8 [37, (.c .nilslice), 38]), oQ 40 (.pick 36 (cB true) 39), oM 41 40, gQ 42 41 false (.mov 1), gK 43 41 false (.call 9 [42, (.c .nilslice), (.c .nilslice)]), oQ 44 (.pick 41 (cB true) 43), oM 45 44, gQ 46 45 false (.mov 1), gK 47 45 false (.call 10 [46, (.c .nilslice)]), gQ 48 45 false (.len 0 47), gQ 49 45 false (.bin .neq 48 (cI 0)), oQ 50 (.pick 45 (cB true) 49), oM 51 50, gQ 52 51 false (.mov 1), gK 53 51 false (.call 11 [52, (.c .nilslice)]), oQ 54 (.pick 51 (cB true) 53)] [54])
 (.cond 54
 (.seq
 (.reg 4 [oM 0 (cB false)] [0])
 .ret)
 .skip))
 (.seq
 (.reg 5 [oK 55 (.call 12 [(.c (.str [98])), (.c (.str [49]))]), oK 56 (.call 12 [(.c (.str [99])), (.c (.str [49]))]), oK 57 (.call 12 [(.c (.str [100])), (.c (.str [49]))]), oK 4 (.alloc [(.str []), (zI 0), (.str []), (.str []), (zU 0), (.str []), .nilslice, .nilslice, .nilslice, .nilslice, .nilslice, .nilslice, .nilslice, .nilslice, .nilslice]), oK 5 (.alloc [(.str []), (zI 0), (.str []), (.str []), (zU 0), (.str []), .nilslice, .nilslice, .nilslice, .nilslice, .nilslice, .nilslice, .nilslice, .nilslice, .nilslice]), oK 6 (.alloc [(.str []), (zI 0), (.str []), (.str []), (zU 0), (.str []), .nilslice, .nilslice, .nilslice, .nilslice, .nilslice, .nilslice, .nilslice, .nilslice, .nilslice]), oN (.store 15 4 55), oN (.store 15 5 56), oN (.store 15 6 57)] [4, 5, 6])
 (.seq
 (.reg 6 [oK 58 (.call 13 [(.c (.str [120]))]), oK 59 (.bslt 7 1 [(zU 0), (.str []), (zU 0), (zI 0), (.str []), (.str []), .nilslice] [⟨0, ⟨7, 58⟩⟩]), oQ 60 (.faddr 7 4), oN (.store 1 60 59)] [4, 5, 6])
 (.seq
 (.reg 7 [oQ 61 (.bld [(.str []), (zU 0), (zI 0), (.str []), (.str [])] [⟨0, ⟨1, (.c (.str [120]))⟩⟩]), oK 62 (.bslt 5 1 [(.str []), (zU 0), (zI 0), (.str []), (.str [])] [⟨0, ⟨5, 61⟩⟩]), oK 63 (.call 13 [(.c (.str [120]))]), oK 64 (.bslt 7 1 [(zU 0), (.str []), (zU 0), (zI 0), (.str []), (.str []), .nilslice] [⟨0, ⟨7, 63⟩⟩]), oQ 65 (.faddr 6 5), oN (.store 1 65 62), oQ 66 (.faddr 8 5), oN (.store 1 66 64)] [4, 5, 6])
 (.seq
 (.reg 8 [oQ 67 (.bld [(.str []), (zU 0), (zI 0), (.str []), (.str [])] [⟨0, ⟨1, (.c (.str [97]))⟩⟩]), oQ 68 (.bld [(.str []), (zU 0), (zI 0), (.str []), (.str [])] [⟨0, ⟨1, (.c (.str [100]))⟩⟩]), oK 69 (.bslt 5 2 [(.str []), (zU 0), (zI 0), (.str []), (.str [])] [⟨0, ⟨5, 67⟩⟩, ⟨5, ⟨5, 68⟩⟩]), oQ 70 (.faddr 4 6), oN (.store 1 70 (.c (zU 4))), oQ 71 (.faddr 9 6), oN (.store 1 71 69)] [4, 5, 6])
 (.seq
 (.oreg 9 [(0, oQ 73 (.load (some 15) 4), 0), (1, oQ 74 (.load (some 15) 5), 0), (2, oQ 75 (.load (some 15) 6), 0), (9, oQ 82 (.bld [(.str []), (zU 0), (zI 0), (.str []), (.str [])] [⟨0, ⟨1, (.c (.str [98]))⟩⟩]), 0), (10, oQ 83 (.bld [(zU 0), (.str []), (zU 0), (zI 0), (.str []), (.str [])] [⟨0, ⟨1, (.c (zU 1))⟩⟩, ⟨1, ⟨5, 82⟩⟩]), 0), (11, oQ 84 (.bld [(.str []), (zU 0), (zI 0), (.str []), (.str [])] [⟨0, ⟨1, (.c (.str [99]))⟩⟩]), 0), (12, oQ 85 (.bld [(zU 0), (.str []), (zU 0), (zI 0), (.str []), (.str [])] [⟨0, ⟨1, (.c (zU 2))⟩⟩, ⟨1, ⟨5, 84⟩⟩]), 0), (13, oK 86 (.bslt 6 2 [(zU 0), (.str []), (zU 0), (zI 0), (.str []), (.str [])] [⟨0, ⟨6, 83⟩⟩, ⟨6, ⟨6, 85⟩⟩]), 0), (14, oQ 87 (.bld [(zU 0), (zI 0)] [⟨0, ⟨1, (.c (zU 1))⟩⟩, ⟨1, ⟨1, (cI 1)⟩⟩]), 0), (15, oK 88 (.bslt 2 1 [(zU 0), (zI 0)] [⟨0, ⟨2, 87⟩⟩]), 0), (16, oQ 89 (.bld [(zU 0), (.bool false), .nilslice, .nilslice, (zI 0)] [⟨0, ⟨1, (.c (zU 2))⟩⟩, ⟨2, ⟨1, 86⟩⟩, ⟨3, ⟨1, 88⟩⟩]), 0), (3, oK 76 (.call 12 [(.c (.str [97])), (.c (.str [50]))]), 7), (4, oK 77 (.bslt 15 4 [(.str []), (zI 0), (.str []), (.str []), (zU 0), (.str []), .nilslice, .nilslice, .nilslice, .nilslice, .nilslice, .nilslice, .nilslice, .nilslice, .nilslice] [⟨0, ⟨15, 73⟩⟩, ⟨15, ⟨15, 74⟩⟩, ⟨30, ⟨15, 75⟩⟩, ⟨45, ⟨15, 76⟩⟩]), 0), (5, oQ 78 (.bld [(zI 0), .nilslice] [⟨1, ⟨1, 77⟩⟩]), 0), (6, oK 79 (.bslt 2 1 [(zI 0), .nilslice] [⟨0, ⟨2, 78⟩⟩]), 0), (7, oK 80 (.call 12 [(.c (.str [97])), (.c (.str [49]))]), 7), (8, oK 81 (.bslt 15 1 [(.str []), (zI 0), (.str []), (.str []), (zU 0), (.str []), .nilslice, .nilslice, .nilslice, .nilslice, .nilslice, .nilslice, .nilslice, .nilslice, .nilslice] [⟨0, ⟨15, 80⟩⟩]), 0), (17, oK 90 (.call 14 [79, 81, 89]), 0), (18, oM 72 90, 0), (19, oQ 91 (.ext 0 72), 0), (20, oQ 92 (.ext 1 72), 0), (21, oQ 93 (.ext 2 72), 0), (22, oQ 94 (.ext 3 72), 0), (23, oQ 95 (.ext 4 72), 0), (24, oM 7 91, 0), (25, oM 8 92, 0), (26, oM 9 93, 0), (27, oM 10 94, 0), (28, oM 11 95, 0)] [7, 10])
 (.seq
 (.seq
 (.reg 10 [oM 96 10, oQ 97 (.not 96)] [7, 97])
 (.cond 97
 (.seq
 (.reg 11 [oM 0 (cB false)] [0])
 .ret)
 .skip))
 (.seq
 (.reg 12 [oQ 98 (.bld [(zU 0), (zI 0), (zI 0)] [⟨0, ⟨1, (.c (zU 2))⟩⟩, ⟨1, ⟨1, (cI 1)⟩⟩]), oQ 99 (.bld [(zU 0), (zI 0), (zI 0)] [⟨0, ⟨1, (.c (zU 3))⟩⟩, ⟨1, ⟨1, (cI 2)⟩⟩]), oQ 100 (.bld [(zU 0), (zI 0), (zI 0)] [⟨0, ⟨1, (.c (zU 1))⟩⟩, ⟨1, ⟨1, (cI 3)⟩⟩]), oQ 101 (.bld [(zU 0), (zI 0), (zI 0)] [⟨0, ⟨1, (.c (zU 4))⟩⟩, ⟨1, ⟨1, (cI 3)⟩⟩]), oQ 102 (.bld [(zU 0), (zI 0), (zI 0)] [⟨0, ⟨1, (.c (zU 4))⟩⟩, ⟨1, ⟨1, (cI 3)⟩⟩, ⟨2, ⟨1, (cI 1)⟩⟩]), oQ 103 (.bld [(zU 0), (zI 0), (zI 0)] [⟨0, ⟨1, (.c (zU 5))⟩⟩, ⟨1, ⟨1, (cI 0)⟩⟩, ⟨2, ⟨1, (cI 4)⟩⟩]), oQ 104 (.bld [(zU 0), (zI 0), (zI 0)] [⟨0, ⟨1, (.c (zU 6))⟩⟩, ⟨1, ⟨1, (cI 0)⟩⟩]), oQ 105 (.bld [(zU 0), (zI 0), (zI 0)] [⟨0, ⟨1, (.c (zU 7))⟩⟩, ⟨1, ⟨1, (cI 0)⟩⟩]), oK 106 (.bslt 3 8 [(zU 0), (zI 0), (zI 0)] [⟨0, ⟨3, 98⟩⟩, ⟨3, ⟨3, 99⟩⟩, ⟨6, ⟨3, 100⟩⟩, ⟨9, ⟨3, 101⟩⟩, ⟨12, ⟨3, 102⟩⟩, ⟨15, ⟨3, 103⟩⟩, ⟨18, ⟨3, 104⟩⟩, ⟨21, ⟨3, 105⟩⟩]), oM 12 106] [7, 12])
 (.seq
 (.seq
 (.reg 13 [oM 107 7, oK 108 (.call 6 [107]), oM 109 12, oK 110 (.call 15 [108, 109]), oQ 111 (.not 110)] [7, 12, 111])
 (.cond 111
 (.seq
 (.reg 14 [oM 0 (cB false)] [0])
 .ret)
 .skip))
 (.seq
 (.seq
 (.reg 15 [oQ 112 (.bld [.nilslice, (.str [])] [⟨0, ⟨1, (.c .nilslice)⟩⟩, ⟨1, ⟨1, (.c (.str [49, 49, 49, 49, 49, 49, 48, 48]))⟩⟩]), oK 113 (.bslt 1 1 [(zI 0)] [⟨0, ⟨1, (cI 0)⟩⟩]), oQ 114 (.bld [.nilslice, (.str [])] [⟨0, ⟨1, 113⟩⟩, ⟨1, ⟨1, (.c (.str [49, 49, 49, 49, 49, 49, 49, 48]))⟩⟩]), oK 115 (.bslt 1 1 [(zI 0)] [⟨0, ⟨1, (cI 1)⟩⟩]), oQ 116 (.bld [.nilslice, (.str [])] [⟨0, ⟨1, 115⟩⟩, ⟨1, ⟨1, (.c (.str [48, 49, 49, 49, 49, 49, 48, 49]))⟩⟩]), oK 117 (.bslt 1 3 [(zI 0)] [⟨0, ⟨1, (cI 2)⟩⟩, ⟨1, ⟨1, (cI 1)⟩⟩, ⟨2, ⟨1, (cI 0)⟩⟩]), oQ 118 (.bld [.nilslice, (.str [])] [⟨0, ⟨1, 117⟩⟩, ⟨1, ⟨1, (.c (.str [49, 49, 49, 49, 49, 49, 49, 49]))⟩⟩]), oK 119 (.bslt 1 1 [(zI 0)] [⟨0, ⟨1, (cI 3)⟩⟩]), oQ 120 (.bld [.nilslice, (.str [])] [⟨0, ⟨1, 119⟩⟩, ⟨1, ⟨1, (.c (.str [49, 49, 48, 49, 49, 49, 49, 48]))⟩⟩]), oK 121 (.bslt 1 3 [(zI 0)] [⟨0, ⟨1, (cI 3)⟩⟩, ⟨1, ⟨1, (cI 0)⟩⟩, ⟨2, ⟨1, (cI 4)⟩⟩]), oQ 122 (.bld [.nilslice, (.str [])] [⟨0, ⟨1, 121⟩⟩, ⟨1, ⟨1, (.c (.str [49, 49, 48, 48, 49, 48, 49, 48]))⟩⟩]), oK 123 (.bslt 1 5 [(zI 0)] [⟨0, ⟨1, (cI 4)⟩⟩, ⟨1, ⟨1, (cI 1)⟩⟩, ⟨2, ⟨1, (cI 2)⟩⟩, ⟨3, ⟨1, (cI 7)⟩⟩, ⟨4, ⟨1, (cI (-1))⟩⟩]), oQ 124 (.bld [.nilslice, (.str [])] [⟨0, ⟨1, 123⟩⟩, ⟨1, ⟨1, (.c (.str [49, 49, 49, 49, 49, 49, 49, 49]))⟩⟩]), oK 125 (.bslt 2 7 [.nilslice, (.str [])] [⟨0, ⟨2, 112⟩⟩, ⟨2, ⟨2, 114⟩⟩, ⟨4, ⟨2, 116⟩⟩, ⟨6, ⟨2, 118⟩⟩, ⟨8, ⟨2, 120⟩⟩, ⟨10, ⟨2, 122⟩⟩, ⟨12, ⟨2, 124⟩⟩]), oQ 126 (.len 0 125), oM 127 (cI 0)] [7, 12, 125, 126, 127])
 (.block 0
 (.loop
 (.seq
 (.reg 16 [oQ 128 (.bin .lss 127 126)] [7, 12, 125, 126, 127, 128])
 (.seq
 (.cond 128
 .skip
 (.exit 0))
 (.seq
 (.block 1
 (.seq
 (.reg 17 [oQ 129 (.iaddr 2 125 127), oQ 130 (.load (some 2) 129), oK 14 (.alloc [.nilslice, (.str [])]), oN (.store 2 14 130)] [7, 12, 14, 125, 126, 127])
 (.seq
 (.reg 18 [oM 15 (cB true)] [7, 12, 14, 15, 125, 126, 127])
 (.seq
 (.seq
 (.reg 19 [oM 16 (cI 0)] [7, 12, 14, 15, 16, 125, 126, 127])
 (.block 2
 (.loop
 (.seq
 (.seq
 (.reg 20 [oM 131 16, oM 132 12, oQ 133 (.len 0 132), oQ 134 (.bin .lss 131 133)] [7, 12, 14, 15, 16, 125, 126, 127, 134])
 (.cond 134
 .skip
 (.exit 2)))
 (.seq
 (.block 3
 (.seq
 (.seq
 (.oreg 22 [(0, oM 137 7, 0), (1, oQ 138 (.faddr 0 14), 0), (2, oQ 139 (.load none 138), 0), (3, oM 140 12, 0), (4, oM 141 16, 0), (5, oQ 142 (.iaddr 3 140 141), 0), (6, oQ 143 (.load (some 3) 142), 0), (8, oQ 145 (.faddr 1 14), 0), (9, oQ 146 (.load none 145), 0), (10, oM 147 16, 0), (11, oQ 148 (.istr 146 147), 0), (12, oQ 149 (.bin .eql 148 (.c (zU 49))), 0), (7, oK 144 (.call 8 [137, 139, 143]), 512), (13, oQ 150 (.eqs [0] false true 144 149), 0)] [7, 12, 14, 15, 16, 125, 126, 127, 150])
 (.cond 150
 (.seq
 (.reg 23 [oM 0 (cB false)] [0])
 .ret)
 .skip))
 (.reg 24 [oM 151 15, oM 152 151, gQ 153 152 true (.faddr 1 14), gQ 154 152 true (.load none 153), gQ 155 152 true (.mov 16), gQ 156 152 true (.istr 154 155), gQ 157 152 true (.bin .eql 156 (.c (zU 49))), oQ 158 (.pick 152 157 (cB false)), oM 15 158] [7, 12, 14, 15, 16, 125, 126, 127])))
 (.reg 21 [oM 135 16, oQ 136 (.bin .add 135 (cI 1)), oM 16 136] [7, 12, 14, 15, 16, 125, 126, 127]))))))
 (.seq
 (.reg 25 [oM 159 7, oQ 160 (.faddr 0 14), oQ 161 (.load none 160), oK 162 (.call 11 [159, 161]), oM 163 15, oQ 164 (.eqs [0] false true 162 163)] [7, 12, 125, 126, 127, 164])
 (.cond 164
 (.seq
 (.reg 26 [oM 0 (cB false)] [0])
 .ret)
 .skip))))))
 (.reg 27 [oQ 165 (.bin .add 127 (cI 1)), oM 127 165] [7, 12, 125, 126, 127])))))))
 (.seq
 (.seq
 (.reg 28 [oQ 166 (.bld [(zU 0), (zI 0), (zI 0)] []), oQ 167 (.bld [(zU 0), (zI 0), (zI 0)] [⟨0, ⟨1, (.c (zU 9))⟩⟩]), oQ 168 (.bld [(zU 0), (zI 0), (zI 0)] [⟨0, ⟨1, (.c (zU 7))⟩⟩, ⟨1, ⟨1, (cI 1)⟩⟩]), oQ 169 (.bld [(zU 0), (zI 0), (zI 0)] [⟨0, ⟨1, (.c (zU 6))⟩⟩, ⟨1, ⟨1, (cI 1)⟩⟩]), oQ 170 (.bld [(zU 0), (zI 0), (zI 0)] [⟨0, ⟨1, (.c (zU 2))⟩⟩, ⟨1, ⟨1, (cI 1)⟩⟩, ⟨2, ⟨1, (cI 1)⟩⟩]), oQ 171 (.bld [(zU 0), (zI 0), (zI 0)] [⟨0, ⟨1, (.c (zU 5))⟩⟩, ⟨1, ⟨1, (cI 4)⟩⟩, ⟨2, ⟨1, (cI 0)⟩⟩]), oQ 172 (.bld [(zU 0), (zI 0), (zI 0)] [⟨0, ⟨1, (.c (zU 1))⟩⟩, ⟨1, ⟨1, (cI 3)⟩⟩, ⟨2, ⟨1, (cI 1)⟩⟩]), oQ 173 (.bld [(zU 0), (zI 0), (zI 0)] [⟨0, ⟨1, (.c (zU 4))⟩⟩, ⟨1, ⟨1, (cI (-1))⟩⟩]), oQ 174 (.bld [(zU 0), (zI 0), (zI 0)] [⟨0, ⟨1, (.c (zU 2))⟩⟩, ⟨1, ⟨1, (cI 99)⟩⟩]), oK 175 (.bslt 3 9 [(zU 0), (zI 0), (zI 0)] [⟨0, ⟨3, 166⟩⟩, ⟨3, ⟨3, 167⟩⟩, ⟨6, ⟨3, 168⟩⟩, ⟨9, ⟨3, 169⟩⟩, ⟨12, ⟨3, 170⟩⟩, ⟨15, ⟨3, 171⟩⟩, ⟨18, ⟨3, 172⟩⟩, ⟨21, ⟨3, 173⟩⟩, ⟨24, ⟨3, 174⟩⟩]), oQ 176 (.len 0 175), oM 177 (cI 0)] [7, 175, 176, 177])
 (.block 4
 (.loop
 (.seq
 (.reg 29 [oQ 178 (.bin .lss 177 176)] [7, 175, 176, 177, 178])
 (.seq
 (.cond 178
 .skip
 (.exit 4))
 (.seq
 (.block 5
 (.seq
 (.reg 30 [oQ 179 (.iaddr 3 175 177), oQ 180 (.load (some 3) 179), oK 18 (.alloc [(zU 0), (zI 0), (zI 0)]), oN (.store 3 18 180)] [7, 18, 175, 176, 177])
 (.seq
 (.reg 31 [oM 181 7, oQ 182 (.load (some 3) 18), oK 183 (.call 7 [181, 182]), oM 184 183, gQ 185 184 false (.mov 7), gK 186 184 false (.bslt 1 4 [(zI 0)] [⟨0, ⟨1, (cI 0)⟩⟩, ⟨1, ⟨1, (cI 1)⟩⟩, ⟨2, ⟨1, (cI 3)⟩⟩, ⟨3, ⟨1, (cI 4)⟩⟩]), gQ 187 184 false (.load (some 3) 18), gK 188 184 false (.call 8 [185, 186, 187]), gQ 189 184 false (.not 188), oQ 190 (.pick 184 (cB true) 189)] [7, 175, 176, 177, 190])
 (.cond 190
 (.seq
 (.reg 32 [oM 0 (cB false)] [0])
 .ret)
 .skip))))
 (.reg 33 [oQ 191 (.bin .add 177 (cI 1)), oM 177 191] [7, 175, 176, 177])))))))
 (.seq
 (.reg 34 [oK 192 (.call 16 []), oM 0 192] [0])
 .ret)))))))))))))))
theorem fok3 : FOK Tryz.prog 3 (193, ic3, [(.t 0)]) := fokA [1000059, 1000062, 1000064, 1000069, 1000077, 1000079, 1000081, 1000086, 1000088, 1000106, 1000113, 1000115, 1000117, 1000119, 1000121, 1000123, 1000125, 1000175, 1000186] Tryz.func3 (by kernel_rfl) (by kernel_rfl) (by kernel_rfl) (by kernel_rfl)
def ic5 : IC :=
 (.seq
 (.reg 0 [oM 2 (.c .nilptr), oM 3 (cI 0)] [0])
 (.seq
 (.seq
 (.reg 1 [oM 10 0, oQ 11 (.isnil (.pointer 135) false 10)] [0, 11])
 (.cond 11
 (.seq
 (.reg 2 [oM 2 (.c .nilptr), oM 3 (cI 2)] [2, 3])
 .ret)
 .skip))
 (.seq
 (.reg 3 [oM 13 0, oK 14 (.call 32 [13]), oK 15 (.call 31 [14]), oM 12 15, oQ 16 (.ext 0 12), oQ 17 (.ext 1 12), oM 4 16, oM 5 17] [0, 4, 5])
 (.seq
 (.seq
 (.reg 4 [oM 18 5, oQ 19 (.bin .neq 18 (cI 0))] [0, 4, 5, 19])
 (.cond 19
 (.seq
 (.reg 5 [oM 20 5, oM 2 (.c .nilptr), oM 3 20] [2, 3])
 .ret)
 .skip))
 (.seq
 (.reg 6 [oM 21 0, oM 22 4, oK 23 .mkmap, oQ 24 (.bld [.nilptr, .nilptr, .nilslice, .nilslice, .nilmap] [⟨0, ⟨1, 21⟩⟩, ⟨1, ⟨1, 22⟩⟩, ⟨4, ⟨1, 23⟩⟩]), oK 25 (.box 24), oM 6 25] [0, 6])
 (.seq
 (.seq
 (.reg 7 [oM 26 0, oK 27 (.call 32 [26]), oK 28 (.call 33 [27]), oM 29 (cI 0)] [0, 6, 28, 29])
 (.block 0
 (.loop
 (.seq
 (.reg 8 [oQ 30 (.bin .lss 29 28)] [0, 6, 28, 29, 30])
 (.seq
 (.cond 30
 .skip
 (.exit 0))
 (.seq
 (.block 1
 (.seq
 (.reg 9 [oM 31 29, oM 7 31] [0, 6, 7, 28, 29])
 (.seq
 (.reg 10 [oM 33 0, oK 34 (.call 32 [33]), oM 35 7, oK 36 (.call 34 [34, 35]), oM 32 36, oQ 37 (.ext 0 32), oQ 38 (.ext 1 32), oK 8 (.alloc [(.str []), (zI 0), (.str []), (.str []), (zU 0), (.str []), .nilslice, .nilslice, .nilslice, .nilslice, .nilslice, .nilslice, .nilslice, .nilslice, .nilslice]), oN (.store 15 8 37), oM 9 38] [0, 6, 8, 9, 28, 29])
 (.seq
 (.seq
 (.reg 11 [oM 39 9, oQ 40 (.bin .neq 39 (cI 0))] [0, 6, 8, 9, 28, 29, 40])
 (.cond 40
 (.seq
 (.reg 12 [oM 41 9, oM 2 (.c .nilptr), oM 3 41] [2, 3])
 .ret)
 .skip))
 (.dreg 13 [oM 42 6, oM 43 6, oQ 44 (.nchk 43), oQ 45 (.faddr 2 44), oQ 46 (.load none 45), oQ 47 (.load (some 15) 8), oK 48 (.bslt 15 1 [(.str []), (zI 0), (.str []), (.str []), (zU 0), (.str []), .nilslice, .nilslice, .nilslice, .nilslice, .nilslice, .nilslice, .nilslice, .nilslice, .nilslice] [⟨0, ⟨15, 47⟩⟩]), oK 49 (.app 15 46 48), oQ 50 (.nchk 42), oQ 51 (.faddr 2 50), oN (.store 1 51 49)] true [0, 6, 28, 29])))))
 (.reg 14 [oQ 52 (.bin .add 29 (cI 1)), oM 29 52] [0, 6, 28, 29])))))))
 (.seq
 (.reg 15 [oM 53 6, oK 54 (.call 35 [53])] [6])
 (.seq
 (.reg 16 [oM 55 6, oM 2 55, oM 3 (cI 0)] [2, 3])
 .ret))))))))
theorem fok5 : FOK Tryz.prog 5 (56, ic5, [(.t 2), (.t 3)]) := fokA [1000048] Tryz.func5 (by kernel_rfl) (by kernel_rfl) (by kernel_rfl) (by kernel_rfl)
def ic6 : IC :=
 (.seq
 (.reg 0 [oM 2 (.c .nilslice)] [0])
 (.seq
 (.seq
 (.reg 1 [oM 3 0, oQ 4 (.isnil (.pointer 91) false 3)] [0, 4])
 (.cond 4
 (.seq
 (.reg 2 [oM 2 (.c .nilslice)] [2])
 .ret)
 .skip))
 (.seq
 (.reg 3 [oM 5 0, oQ 6 (.nchk 5), oQ 7 (.faddr 3 6), oQ 8 (.load none 7), oK 9 (.call 36 [8]), oM 2 9] [2])
 .ret)))
theorem fok6 : FOK Tryz.prog 6 (10, ic6, [(.t 2)]) := fokA [] Tryz.func6 (by kernel_rfl) (by kernel_rfl) (by kernel_rfl) (by kernel_rfl)
def ic7 : IC :=
 (.seq
 (.reg 0 [oK 3 (.boxt 1), oM 4 (cB false)] [0, 3])
 (.seq
 (.seq
 (.reg 1 [oM 7 0, oQ 8 (.isnil (.pointer 91) false 7)] [0, 3, 8])
 (.cond 8
 (.seq
 (.reg 2 [oM 4 (cB false)] [4])
 .ret)
 .skip))
 (.seq
 (.dreg 3 [oM 10 0, oQ 11 (.nchk 10), oQ 12 (.faddr 4 11), oQ 13 (.load none 12), oQ 14 (.load (some 3) 3), oQ 15 (.lkp 6 (.agg []) true 13 14), oM 9 15, oQ 16 (.ext 0 9), oQ 17 (.ext 1 9), oK 5 (.alloc []), oN (.store 0 5 16), oM 6 17] false [6])
 (.seq
 (.reg 4 [oM 18 6, oM 4 18] [4])
 .ret))))
theorem fok7 : FOK Tryz.prog 7 (19, ic7, [(.t 4)]) := fokA [1000003] Tryz.func7 (by kernel_rfl) (by kernel_rfl) (by kernel_rfl) (by kernel_rfl)
def ic8 : IC :=
 (.seq
 (.reg 0 [oK 5 (.boxt 2), oM 6 (cB false)] [0, 1, 5])
 (.seq
 (.block 0
 (.seq
 (.reg 1 [oM 9 0, oQ 10 (.isnil (.pointer 91) false 9), oM 8 10] [0, 1, 5, 8])
 (.cond 8
 (.seq
 (.reg 2 [oM 6 (cB false)] [6])
 .ret)
 (.seq
 (.reg 3 [oM 12 0, oQ 13 (.load (some 3) 5), oK 14 (.call 7 [12, 13]), oQ 15 (.not 14), oM 11 15] [0, 1, 5, 11])
 (.cond 11
 (.seq
 (.reg 4 [oM 6 (cB true)] [6])
 .ret)
 .skip)))))
 (.seq
 (.reg 5 [oQ 16 (.bld [.nilfunc, .nilfunc, .nilfunc, .nilfunc, .nilfunc, .nilfunc, .nilfunc, .nilfunc] [⟨1, ⟨1, (.f 37)⟩⟩, ⟨2, ⟨1, (.f 38)⟩⟩, ⟨3, ⟨1, (.f 39)⟩⟩, ⟨4, ⟨1, (.f 40)⟩⟩, ⟨5, ⟨1, (.f 41)⟩⟩, ⟨6, ⟨1, (.f 42)⟩⟩, ⟨7, ⟨1, (.f 43)⟩⟩]), oK 7 (.alloc [.nilfunc, .nilfunc, .nilfunc, .nilfunc, .nilfunc, .nilfunc, .nilfunc, .nilfunc]), oN (.store 8 7 16)] [0, 1, 5, 7])
 (.seq
 (.dreg 6 [oQ 17 (.faddr 0 5), oQ 18 (.load none 17), oQ 19 (.aaddr 8 1 7 18), oQ 20 (.load none 19), oM 21 0, oM 22 1, oQ 23 (.load (some 3) 5), oQ 24 (.bld [.nilptr, .nilslice, (zU 0), (zI 0), (zI 0)] [⟨0, ⟨1, 21⟩⟩, ⟨1, ⟨1, 22⟩⟩, ⟨2, ⟨3, 23⟩⟩]), oK 25 (.callv 20 [24]), oM 6 25] false [6])
 .ret))))
theorem fok8 : FOK Tryz.prog 8 (26, ic8, [(.t 6)]) := fokA [1000005] Tryz.func8 (by kernel_rfl) (by kernel_rfl) (by kernel_rfl) (by kernel_rfl)
def ic9 : IC :=
 (.seq
 (.reg 0 [oK 3 (.boxt 0), oK 4 (.boxt 1), oM 6 (cB false)] [2, 3, 4])
 (.seq
 (.reg 1 [oQ 7 (.load none 3), oQ 8 (.isnil (.pointer 91) true 7), oM 9 8, gQ 10 9 true (.mov 2), gQ 11 9 true (.mkf 45 [] [3, 4]), gK 12 9 true (.call 44 [10, 11]), gQ 13 9 true (.not 12), oQ 14 (.pick 9 13 (cB false)), oM 6 14] [6])
 .ret))
theorem fok9 : FOK Tryz.prog 9 (15, ic9, [(.t 6)]) := fokA [1000003, 1000004] Tryz.func9 (by kernel_rfl) (by kernel_rfl) (by kernel_rfl) (by kernel_rfl)
def ic10 : IC :=
 (.seq
 (.reg 0 [oK 2 (.boxt 0), oK 3 (.boxt 1), oM 4 (.c .nilslice)] [2, 3])
 (.seq
 (.reg 1 [oQ 5 (.load none 2), oK 6 (.call 6 [5]), oQ 7 (.mkf 47 [] [2, 3]), oK 8 (.call 46 [6, 7]), oM 4 8] [4])
 .ret))
theorem fok10 : FOK Tryz.prog 10 (9, ic10, [(.t 4)]) := fokA [1000002, 1000003] Tryz.func10 (by kernel_rfl) (by kernel_rfl) (by kernel_rfl) (by kernel_rfl)
def ic11 : IC :=
 (.seq
 (.reg 0 [oM 4 (cB false)] [0, 1])
 (.seq
 (.reg 1 [oM 5 0, oQ 6 (.isnil (.pointer 91) true 5), oM 7 6, gQ 8 7 true (.mov 0), gQ 9 7 true (.mov 1), gQ 10 7 true (.mov 0), gQ 11 7 true (.nchk 10), gQ 12 7 true (.faddr 3 11), gQ 13 7 true (.load none 12), gK 14 7 true (.call 9 [8, 9, 13]), oQ 15 (.pick 7 14 (cB false)), oM 4 15] [4])
 .ret))
theorem fok11 : FOK Tryz.prog 11 (16, ic11, [(.t 4)]) := fokA [] Tryz.func11 (by kernel_rfl) (by kernel_rfl) (by kernel_rfl) (by kernel_rfl)
def ic12 : IC :=
 (.seq
 (.reg 0 [oK 4 (.alloc [(.str []), (zI 0), (.str []), (.str []), (zU 0), (.str []), .nilslice, .nilslice, .nilslice, .nilslice, .nilslice, .nilslice, .nilslice, .nilslice, .nilslice])] [0, 1, 4])
 (.seq
 (.reg 1 [oM 5 0, oM 6 1, oQ 7 (.bld [(zI 0), (.str []), (.str [])] [⟨1, ⟨1, 6⟩⟩, ⟨2, ⟨1, (.c (.str [49]))⟩⟩]), oQ 8 (.bld [(.str []), (zI 0), (.str []), (.str []), (zU 0), (.str []), .nilslice, .nilslice, .nilslice, .nilslice, .nilslice, .nilslice, .nilslice, .nilslice, .nilslice] [⟨0, ⟨1, 5⟩⟩, ⟨1, ⟨3, 7⟩⟩, ⟨4, ⟨1, (.c (zU 1))⟩⟩]), oN (.store 15 4 8)] [4])
 .ret))
theorem fok12 : FOK Tryz.prog 12 (9, ic12, [(.cell (some 15) 4)]) := fokA [] Tryz.func12 (by kernel_rfl) (by kernel_rfl) (by kernel_rfl) (by kernel_rfl)
def ic13 : IC :=
 (.seq
 (.reg 0 [oK 2 (.alloc [(zU 0), (.str []), (zU 0), (zI 0), (.str []), (.str []), .nilslice])] [0, 2])
 (.seq
 (.reg 1 [oM 3 0, oQ 4 (.bld [(.str []), (zU 0), (zI 0), (.str []), (.str [])] [⟨0, ⟨1, 3⟩⟩]), oQ 5 (.bld [(zU 0), (.str []), (zU 0), (zI 0), (.str []), (.str []), .nilslice] [⟨0, ⟨1, (.c (zU 1))⟩⟩, ⟨1, ⟨5, 4⟩⟩]), oN (.store 7 2 5)] [2])
 .ret))
theorem fok13 : FOK Tryz.prog 13 (6, ic13, [(.cell (some 7) 2)]) := fokA [] Tryz.func13 (by kernel_rfl) (by kernel_rfl) (by kernel_rfl) (by kernel_rfl)
def ic14 : IC :=
 (.seq
 (.reg 0 [oK 5 (.boxt 2), oM 6 (.c .nilptr), oM 7 (.c .nilptr), oM 8 (.c .nilptr), oM 9 (cB false), oM 10 (cB false)] [0, 1, 5])
 (.seq
 (.reg 1 [oM 16 0, oM 17 1, oK 18 (.call 48 [16, 17]), oM 15 18, oQ 19 (.ext 0 15), oQ 20 (.ext 1 15), oM 11 19, oM 12 20] [0, 1, 5, 11, 12])
 (.seq
 (.reg 2 [oM 22 0, oM 23 1, oK 24 (.call 49 [22, 23]), oM 21 24, oQ 25 (.ext 0 21), oQ 26 (.ext 1 21), oM 13 25, oM 14 26] [0, 1, 5, 11, 12, 13, 14])
 (.seq
 (.seq
 (.reg 3 [oM 27 12, oM 28 14, oQ 29 (.bin .neq 27 28)] [0, 1, 5, 11, 12, 13, 29])
 (.cond 29
 (.seq
 (.reg 4 [oM 6 (.c .nilptr), oM 7 (.c .nilptr), oM 8 (.c .nilptr), oM 9 (cB false), oM 10 (cB true)] [6, 7, 8, 9, 10])
 .ret)
 .skip))
 (.seq
 (.seq
 (.reg 5 [oM 30 12, oQ 31 (.bin .neq 30 (cI 0))] [0, 1, 5, 11, 13, 31])
 (.cond 31
 (.seq
 (.reg 6 [oM 6 (.c .nilptr), oM 7 (.c .nilptr), oM 8 (.c .nilptr), oM 9 (cB false), oM 10 (cB false)] [6, 7, 8, 9, 10])
 .ret)
 .skip))
 (.seq
 (.reg 7 [oM 33 11, oQ 34 (.load (some 5) 5), oK 35 (.call 50 [33, 34]), oM 32 35, oQ 36 (.ext 0 32), oQ 37 (.ext 1 32), oM 7 36, oM 12 37] [0, 1, 5, 7, 12, 13])
 (.seq
 (.oreg 8 [(0, oM 39 0, 0), (1, oM 40 1, 0), (3, oM 42 13, 0), (4, oQ 43 (.nchk 42), 0), (5, oQ 44 (.faddr 1 43), 0), (6, oQ 45 (.load none 44), 0), (7, oQ 46 (.load (some 5) 5), 0), (2, oK 41 (.call 52 [39, 40]), 192), (8, oK 47 (.call 51 [41, 45, 46]), 0), (9, oM 38 47, 0), (10, oQ 48 (.ext 0 38), 0), (11, oQ 49 (.ext 1 38), 0), (12, oM 8 48, 0), (13, oM 14 49, 0)] [7, 8, 12, 14])
 (.seq
 (.seq
 (.reg 9 [oM 50 12, oM 51 14, oQ 52 (.bin .neq 50 51)] [7, 8, 12, 52])
 (.cond 52
 (.seq
 (.reg 10 [oM 6 (.c .nilptr), oM 7 (.c .nilptr), oM 8 (.c .nilptr), oM 9 (cB false), oM 10 (cB true)] [6, 7, 8, 9, 10])
 .ret)
 .skip))
 (.seq
 (.seq
 (.reg 11 [oM 53 12, oQ 54 (.bin .neq 53 (cI 0))] [7, 8, 54])
 (.cond 54
 (.seq
 (.reg 12 [oM 6 (.c .nilptr), oM 7 (.c .nilptr), oM 8 (.c .nilptr), oM 9 (cB false), oM 10 (cB false)] [6, 7, 8, 9, 10])
 .ret)
 .skip))
 (.seq
 (.reg 13 [oM 56 7, oK 57 (.call 5 [56]), oM 55 57, oQ 58 (.ext 0 55), oQ 59 (.ext 1 55), oM 6 58, oM 12 59] [6, 7, 8, 12])
 (.seq
 (.reg 14 [oM 60 6, oM 61 7, oM 62 8, oM 63 12, oQ 64 (.bin .eql 63 (cI 0)), oM 65 12, oQ 66 (.bin .neq 65 (cI 0)), oM 6 60, oM 7 61, oM 8 62, oM 9 64, oM 10 66] [6, 7, 8, 9, 10])
 .ret)))))))))))
theorem fok14 : FOK Tryz.prog 14 (67, ic14, [(.t 6), (.t 7), (.t 8), (.t 9), (.t 10)]) := fokA [1000005] Tryz.func14 (by kernel_rfl) (by kernel_rfl) (by kernel_rfl) (by kernel_rfl)
def ic15 : IC :=
 (.seq
 (.reg 0 [oM 4 (cB false)] [0, 1])
 (.seq
 (.seq
 (.reg 1 [oM 6 0, oQ 7 (.len 0 6), oM 8 1, oQ 9 (.len 0 8), oQ 10 (.bin .neq 7 9)] [0, 1, 10])
 (.cond 10
 (.seq
 (.reg 2 [oM 4 (cB false)] [4])
 .ret)
 .skip))
 (.seq
 (.seq
 (.reg 3 [oM 5 (cI 0)] [0, 1, 5])
 (.block 0
 (.loop
 (.seq
 (.seq
 (.reg 4 [oM 11 5, oM 12 0, oQ 13 (.len 0 12), oQ 14 (.bin .lss 11 13)] [0, 1, 5, 14])
 (.cond 14
 .skip
 (.exit 0)))
 (.seq
 (.block 1
 (.seq
 (.dreg 6 [oM 17 0, oM 18 5, oQ 19 (.iaddr 3 17 18), oQ 20 (.load (some 3) 19), oM 21 1, oM 22 5, oQ 23 (.iaddr 3 21 22), oQ 24 (.load (some 3) 23), oQ 25 (.eqs [1, 1, 1] true true 20 24)] false [0, 1, 5, 25])
 (.cond 25
 (.seq
 (.reg 7 [oM 4 (cB false)] [4])
 .ret)
 .skip)))
 (.reg 5 [oM 15 5, oQ 16 (.bin .add 15 (cI 1)), oM 5 16] [0, 1, 5]))))))
 (.seq
 (.reg 8 [oM 4 (cB true)] [4])
 .ret))))
theorem fok15 : FOK Tryz.prog 15 (26, ic15, [(.t 4)]) := fokA [] Tryz.func15 (by kernel_rfl) (by kernel_rfl) (by kernel_rfl) (by kernel_rfl)
def ic16 : IC :=
 (.seq
 (.reg 0 [oM 0 (cB false)] [])
 (.seq
 (.reg 1 [oK 10 (.call 12 [(.c (.str [97])), (.c (.str [49]))]), oK 11 (.call 12 [(.c (.str [98])), (.c (.str [49]))]), oK 1 (.alloc [(.str []), (zI 0), (.str []), (.str []), (zU 0), (.str []), .nilslice, .nilslice, .nilslice, .nilslice, .nilslice, .nilslice, .nilslice, .nilslice, .nilslice]), oK 2 (.alloc [(.str []), (zI 0), (.str []), (.str []), (zU 0), (.str []), .nilslice, .nilslice, .nilslice, .nilslice, .nilslice, .nilslice, .nilslice, .nilslice, .nilslice]), oN (.store 15 1 10), oN (.store 15 2 11)] [1, 2])
 (.seq
 (.reg 2 [oK 12 (.call 13 [(.c (.str [120]))]), oK 13 (.bslt 7 1 [(zU 0), (.str []), (zU 0), (zI 0), (.str []), (.str []), .nilslice] [⟨0, ⟨7, 12⟩⟩]), oQ 14 (.faddr 7 1), oN (.store 1 14 13)] [1, 2])
 (.seq
 (.reg 3 [oQ 15 (.bld [(.str []), (zU 0), (zI 0), (.str []), (.str [])] [⟨0, ⟨1, (.c (.str [120]))⟩⟩]), oK 16 (.bslt 5 1 [(.str []), (zU 0), (zI 0), (.str []), (.str [])] [⟨0, ⟨5, 15⟩⟩]), oQ 17 (.faddr 6 2), oN (.store 1 17 16)] [1, 2])
 (.seq
 (.reg 4 [oQ 19 (.load (some 15) 2), oK 20 (.bslt 15 1 [(.str []), (zI 0), (.str []), (.str []), (zU 0), (.str []), .nilslice, .nilslice, .nilslice, .nilslice, .nilslice, .nilslice, .nilslice, .nilslice, .nilslice] [⟨0, ⟨15, 19⟩⟩]), oQ 21 (.bld [(zI 0), .nilslice] [⟨1, ⟨1, 20⟩⟩]), oK 22 (.bslt 2 1 [(zI 0), .nilslice] [⟨0, ⟨2, 21⟩⟩]), oQ 23 (.load (some 15) 1), oK 24 (.bslt 15 1 [(.str []), (zI 0), (.str []), (.str []), (zU 0), (.str []), .nilslice, .nilslice, .nilslice, .nilslice, .nilslice, .nilslice, .nilslice, .nilslice, .nilslice] [⟨0, ⟨15, 23⟩⟩]), oQ 25 (.bld [(zU 0), (.bool false), .nilslice, .nilslice, (zI 0)] [⟨0, ⟨1, (.c (zU 2))⟩⟩]), oK 26 (.call 14 [22, 24, 25]), oM 18 26, oQ 27 (.ext 0 18), oQ 28 (.ext 1 18), oQ 29 (.ext 2 18), oQ 30 (.ext 3 18), oQ 31 (.ext 4 18), oM 3 27, oM 4 28, oM 5 29, oM 6 30, oM 7 31] [3, 6])
 (.seq
 (.seq
 (.reg 5 [oM 32 6, oQ 33 (.not 32)] [3, 33])
 (.cond 33
 (.seq
 (.reg 6 [oM 0 (cB false)] [0])
 .ret)
 .skip))
 (.seq
 (.reg 7 [oQ 34 (.bld [(zU 0), (zI 0), (zI 0)] [⟨0, ⟨1, (.c (zU 2))⟩⟩]), oQ 35 (.bld [(zU 0), (zI 0), (zI 0)] [⟨0, ⟨1, (.c (zU 6))⟩⟩]), oK 8 (.alloc [(zU 0), (zI 0), (zI 0)]), oK 9 (.alloc [(zU 0), (zI 0), (zI 0)]), oN (.store 3 8 34), oN (.store 3 9 35)] [3, 8, 9])
 (.seq
 (.oreg 8 [(0, oM 36 3, 0), (2, oQ 38 (.load (some 3) 8), 0), (3, oQ 39 (.load (some 3) 9), 0), (4, oK 40 (.bslt 3 2 [(zU 0), (zI 0), (zI 0)] [⟨0, ⟨3, 38⟩⟩, ⟨3, ⟨3, 39⟩⟩]), 0), (1, oK 37 (.call 6 [36]), 12), (5, oK 41 (.call 15 [37, 40]), 0), (6, oM 42 41, 0), (7, gQ 43 42 true (.mov 3), 0), (8, gK 44 42 true (.bslt 1 1 [(zI 0)] [⟨0, ⟨1, (cI 0)⟩⟩]), 0), (9, gQ 45 42 true (.load (some 3) 8), 0), (10, gK 46 42 true (.call 8 [43, 44, 45]), 0), (11, gQ 47 42 true (.not 46), 0), (12, oQ 48 (.pick 42 47 (cB false)), 0), (13, oM 49 48, 0), (14, gQ 50 49 true (.mov 3), 0), (15, gK 51 49 true (.bslt 1 1 [(zI 0)] [⟨0, ⟨1, (cI 0)⟩⟩]), 0), (16, gQ 52 49 true (.load (some 3) 9), 0), (17, gK 53 49 true (.call 8 [50, 51, 52]), 0), (18, oQ 54 (.pick 49 53 (cB false)), 0), (19, oM 55 54, 0), (20, gQ 56 55 true (.mov 3), 0), (21, gK 57 55 true (.bslt 1 2 [(zI 0)] [⟨0, ⟨1, (cI 0)⟩⟩, ⟨1, ⟨1, (cI 1)⟩⟩]), 0), (22, gK 58 55 true (.call 11 [56, 57]), 0), (23, oQ 59 (.pick 55 58 (cB false)), 0), (24, oM 60 59, 0), (25, gQ 61 60 true (.mov 3), 0), (26, gK 62 60 true (.call 11 [61, (.c .nilslice)]), 0), (27, gQ 63 60 true (.not 62), 0), (28, oQ 64 (.pick 60 63 (cB false)), 0), (29, oM 0 64, 0)] [0])
 .ret))))))))
theorem fok16 : FOK Tryz.prog 16 (65, ic16, [(.t 0)]) := fokA [1000013, 1000016, 1000020, 1000022, 1000024, 1000040, 1000044, 1000051, 1000057] Tryz.func16 (by kernel_rfl) (by kernel_rfl) (by kernel_rfl) (by kernel_rfl)
def ic31 : IC :=
 (.seq
 (.reg 0 [oM 2 (.c .nilptr), oM 3 (cI 0)] [0])
 (.seq
 (.reg 1 [oM 7 0, oK 8 (.call 67 [7]), oM 6 8, oQ 9 (.ext 0 6), oQ 10 (.ext 1 6), oM 4 9, oM 5 10] [0, 4, 5])
 (.seq
 (.seq
 (.reg 2 [oM 11 5, oQ 12 (.bin .neq 11 (cI 0))] [0, 4, 5, 12])
 (.cond 12
 (.seq
 (.reg 3 [oM 13 5, oM 2 (.c .nilptr), oM 3 13] [2, 3])
 .ret)
 .skip))
 (.seq
 (.reg 4 [oM 14 4, oM 15 0, oK 16 (.call 33 [15]), oQ 17 (.bld [.nilptr, (zI 0)] [⟨0, ⟨1, 14⟩⟩, ⟨1, ⟨1, 16⟩⟩]), oK 18 (.boxt 17), oM 2 18, oM 3 (cI 0)] [2, 3])
 .ret))))
theorem fok31 : FOK Tryz.prog 31 (19, ic31, [(.t 2), (.t 3)]) := fokA [1000018] Tryz.func31 (by kernel_rfl) (by kernel_rfl) (by kernel_rfl) (by kernel_rfl)
def ic32 : IC :=
 (.seq
 (.reg 0 [oM 2 (.c .nilptr)] [0])
 (.seq
 (.seq
 (.reg 1 [oM 3 0, oQ 4 (.isnil (.pointer 135) false 3)] [0, 4])
 (.cond 4
 (.seq
 (.reg 2 [oM 2 (.c .nilptr)] [2])
 .ret)
 .skip))
 (.seq
 (.reg 3 [oM 5 0, oQ 6 (.nchk 5), oQ 7 (.faddr 0 6), oQ 8 (.load none 7), oM 2 8] [2])
 .ret)))
theorem fok32 : FOK Tryz.prog 32 (9, ic32, [(.t 2)]) := fokA [] Tryz.func32 (by kernel_rfl) (by kernel_rfl) (by kernel_rfl) (by kernel_rfl)
def ic33 : IC :=
(.seq
 (.reg 0 [⟨(some 2), none, (.q (.mov (.c (.int .i64 0))))⟩] [0])
 (.seq
  (.seq
   (.reg 1 [⟨(some 3), none, (.q (.mov (.t 0)))⟩, ⟨(some 4), none, (.q (.isnil (.pointer 140) false (.t 3)))⟩] [0, 4])
   (.cond (.t 4)
    (.seq
     (.reg 2 [⟨(some 2), none, (.q (.mov (.c (.int .i64 0))))⟩] [2])
     .ret)
    .skip))
  (.seq
   (.reg 3 [⟨(some 5), none, (.q (.mov (.t 0)))⟩, ⟨(some 6), none, (.q (.nchk (.t 5)))⟩, ⟨(some 7), none, (.q (.faddr 0 (.t 6)))⟩, ⟨(some 8), none, (.q (.load none (.t 7)))⟩, ⟨(some 9), none, (.q (.len 0 (.t 8)))⟩, ⟨(some 2), none, (.q (.mov (.t 9)))⟩] [2])
   .ret)))
theorem fok33 : FOK Tryz.prog 33 (10, ic33, [(.t 2)]) := .mk (pf := []) (an := [(0, [0]), (1, [0, 4]), (2, [2]), (3, [2])]) (by kernel_rfl) (fnOK_of Tryz.func33 (by kernel_rfl) (by kernel_rfl) (by kernel_rfl))
def ic34 : IC :=
(.seq
 (.reg 0 [⟨(some 4), none, (.alloc [(.str []), (.int .i64 0), (.str []), (.str []), (.int .u8 0), (.str []), .nilslice, .nilslice, .nilslice, .nilslice, .nilslice, .nilslice, .nilslice, .nilslice, .nilslice])⟩, ⟨(some 5), none, (.q (.mov (.c (.int .i64 0))))⟩] [0, 1, 4])
 (.seq
  (.seq
   (.reg 1 [⟨(some 6), none, (.q (.mov (.t 0)))⟩, ⟨(some 7), none, (.q (.isnil (.pointer 140) false (.t 6)))⟩, ⟨(some 8), none, (.q (.mov (.t 7)))⟩, ⟨(some 9), (some ⟨8, false⟩), (.q (.mov (.t 0)))⟩, ⟨(some 10), (some ⟨8, false⟩), (.q (.nchk (.t 9)))⟩, ⟨(some 11), (some ⟨8, false⟩), (.q (.faddr 0 (.t 10)))⟩, ⟨(some 12), (some ⟨8, false⟩), (.q (.load none (.t 11)))⟩, ⟨(some 13), (some ⟨8, false⟩), (.q (.mov (.t 1)))⟩, ⟨(some 14), (some ⟨8, false⟩), (.call 68 [(.t 12), (.t 13)])⟩, ⟨(some 15), (some ⟨8, false⟩), (.q (.not (.t 14)))⟩, ⟨(some 16), none, (.q (.pick (.t 8) (.c (.bool true)) (.t 15)))⟩] [0, 1, 4, 16])
   (.cond (.t 16)
    (.seq
     (.reg 2 [⟨(some 17), none, (.q (.bld [(.str []), (.int .i64 0), (.str []), (.str []), (.int .u8 0), (.str []), .nilslice, .nilslice, .nilslice, .nilslice, .nilslice, .nilslice, .nilslice, .nilslice, .nilslice] []))⟩, ⟨none, none, (.store 15 (.t 4) (.t 17))⟩, ⟨(some 5), none, (.q (.mov (.c (.int .i64 5))))⟩] [4, 5])
     .ret)
    .skip))
  (.seq
   (.reg 3 [⟨(some 18), none, (.q (.mov (.t 0)))⟩, ⟨(some 19), none, (.q (.nchk (.t 18)))⟩, ⟨(some 20), none, (.q (.faddr 0 (.t 19)))⟩, ⟨(some 21), none, (.q (.load none (.t 20)))⟩, ⟨(some 22), none, (.q (.mov (.t 1)))⟩, ⟨(some 23), none, (.q (.iaddr 17 (.t 21) (.t 22)))⟩, ⟨(some 24), none, (.q (.faddr 0 (.t 23)))⟩, ⟨(some 25), none, (.q (.load (some 15) (.t 24)))⟩, ⟨(some 26), none, (.call 69 [(.t 25)])⟩, ⟨none, none, (.store 15 (.t 4) (.t 26))⟩, ⟨(some 5), none, (.q (.mov (.c (.int .i64 0))))⟩] [4, 5])
   .ret)))
theorem fok34 : FOK Tryz.prog 34 (27, ic34, [(.cell (some 15) 4), (.t 5)]) := .mk (pf := []) (an := [(0, [0, 1, 4]), (1, [0, 1, 4, 16]), (2, [4, 5]), (3, [4, 5])]) (by kernel_rfl) (fnOK_of Tryz.func34 (by kernel_rfl) (by kernel_rfl) (by kernel_rfl))
def ic35 : IC :=
 (.seq
 (.seq
 (.reg 0 [oM 11 0, oQ 12 (.nchk 11), oQ 13 (.faddr 2 12), oQ 14 (.load none 13), oQ 15 (.len 0 14), oM 16 (cI 0)] [0, 14, 15, 16])
 (.block 0
 (.loop
 (.seq
 (.reg 1 [oQ 17 (.bin .lss 16 15)] [0, 14, 15, 16, 17])
 (.seq
 (.cond 17
 .skip
 (.exit 0))
 (.seq
 (.block 1
 (.seq
 (.reg 2 [oM 18 16, oQ 19 (.iaddr 15 14 16), oQ 20 (.load (some 15) 19), oK 3 (.alloc [(.str []), (zI 0), (.str []), (.str []), (zU 0), (.str []), .nilslice, .nilslice, .nilslice, .nilslice, .nilslice, .nilslice, .nilslice, .nilslice, .nilslice]), oM 2 18, oN (.store 15 3 20)] [0, 2, 3, 14, 15, 16])
 (.seq
 (.seq
 (.reg 3 [oM 21 0, oQ 22 (.nchk 21), oQ 23 (.faddr 0 22), oQ 24 (.load none 23), oM 25 2, oK 26 (.call 70 [24, 25]), oQ 27 (.not 26)] [0, 2, 3, 14, 15, 16, 27])
 (.cond 27
 (.reg 4 [oM 28 0, oM 29 2, oK 30 (.call 71 [28, (.c (zU 1)), 29, (cI 0)])] [0, 2, 3, 14, 15, 16])
 .skip))
 (.seq
 (.reg 5 [oQ 31 (.faddr 7 3), oQ 32 (.load none 31), oQ 33 (.len 0 32), oQ 34 (.bld [(zU 0), (zI 0)] [⟨0, ⟨1, (.c (zU 2))⟩⟩, ⟨1, ⟨1, 33⟩⟩]), oQ 35 (.faddr 8 3), oQ 36 (.load none 35), oQ 37 (.len 0 36), oQ 38 (.bld [(zU 0), (zI 0)] [⟨0, ⟨1, (.c (zU 3))⟩⟩, ⟨1, ⟨1, 37⟩⟩]), oQ 39 (.faddr 9 3), oQ 40 (.load none 39), oQ 41 (.len 0 40), oQ 42 (.bld [(zU 0), (zI 0)] [⟨0, ⟨1, (.c (zU 4))⟩⟩, ⟨1, ⟨1, 41⟩⟩]), oQ 43 (.bld [(zU 0), (zI 0), (zU 0), (zI 0), (zU 0), (zI 0)] [⟨0, ⟨2, 34⟩⟩, ⟨2, ⟨2, 38⟩⟩, ⟨4, ⟨2, 42⟩⟩]), oM 44 (cI 0)] [0, 2, 14, 15, 16, 43, 44])
 (.block 2
 (.loop
 (.seq
 (.reg 6 [oQ 45 (.bin .lss 44 (cI 3))] [0, 2, 14, 15, 16, 43, 44, 45])
 (.seq
 (.cond 45
 .skip
 (.exit 2))
 (.seq
 (.block 3
 (.seq
 (.reg 7 [oQ 46 (.idx (some 2) 3 2 43 44), oK 5 (.alloc [(zU 0), (zI 0)]), oN (.store 2 5 46)] [0, 2, 5, 14, 15, 16, 43, 44])
 (.seq
 (.reg 8 [oQ 47 (.faddr 1 5), oQ 48 (.load none 47), oM 49 (cI 0)] [0, 2, 5, 14, 15, 16, 43, 44, 48, 49])
 (.block 4
 (.loop
 (.seq
 (.reg 9 [oQ 50 (.bin .lss 49 48)] [0, 2, 5, 14, 15, 16, 43, 44, 48, 49, 50])
 (.seq
 (.cond 50
 .skip
 (.exit 4))
 (.seq
 (.block 5
 (.seq
 (.reg 10 [oM 51 49, oM 6 51] [0, 2, 5, 6, 14, 15, 16, 43, 44, 48, 49])
 (.reg 11 [oM 52 0, oQ 53 (.faddr 0 5), oQ 54 (.load none 53), oM 55 2, oM 56 6, oK 57 (.call 71 [52, 54, 55, 56])] [0, 2, 5, 14, 15, 16, 43, 44, 48, 49])))
 (.reg 12 [oQ 58 (.bin .add 49 (cI 1)), oM 49 58] [0, 2, 5, 14, 15, 16, 43, 44, 48, 49])))))))))
 (.reg 13 [oQ 59 (.bin .add 44 (cI 1)), oM 44 59] [0, 2, 14, 15, 16, 43, 44]))))))))))
 (.reg 14 [oQ 60 (.bin .add 16 (cI 1)), oM 16 60] [0, 14, 15, 16])))))))
 (.seq
 (.seq
 (.reg 15 [oM 61 0, oQ 62 (.nchk 61), oQ 63 (.faddr 2 62), oQ 64 (.load none 63), oQ 65 (.len 0 64), oM 66 (cI 0)] [0, 65, 66])
 (.block 6
 (.loop
 (.seq
 (.reg 16 [oQ 67 (.bin .lss 66 65)] [0, 65, 66, 67])
 (.seq
 (.cond 67
 .skip
 (.exit 6))
 (.seq
 (.block 7
 (.seq
 (.reg 17 [oM 68 66, oM 7 68] [0, 7, 65, 66])
 (.seq
 (.reg 18 [oM 69 7, oQ 70 (.bin .add 69 (cI 1)), oM 8 70] [0, 7, 8, 65, 66])
 (.block 8
 (.loop
 (.seq
 (.seq
 (.reg 19 [oM 71 8, oM 72 0, oQ 73 (.nchk 72), oQ 74 (.faddr 2 73), oQ 75 (.load none 74), oQ 76 (.len 0 75), oQ 77 (.bin .lss 71 76)] [0, 7, 8, 65, 66, 77])
 (.cond 77
 .skip
 (.exit 8)))
 (.seq
 (.block 9
 (.seq
 (.reg 21 [oM 80 0, oQ 81 (.nchk 80), oQ 82 (.faddr 0 81), oQ 83 (.load none 82), oM 84 7, oM 85 8, oK 86 (.call 72 [83, 84, 85])] [0, 7, 8, 65, 66, 86])
 (.cond 86
 (.reg 22 [oM 87 0, oM 88 7, oM 89 8, oK 90 (.call 71 [87, (.c (zU 5)), 88, 89])] [0, 7, 8, 65, 66])
 .skip)))
 (.reg 20 [oM 78 8, oQ 79 (.bin .add 78 (cI 1)), oM 8 79] [0, 7, 8, 65, 66]))))))))
 (.reg 23 [oQ 91 (.bin .add 66 (cI 1)), oM 66 91] [0, 65, 66])))))))
 (.seq
 (.seq
 (.reg 24 [oM 92 0, oQ 93 (.nchk 92), oQ 94 (.faddr 0 93), oQ 95 (.load none 94), oK 96 (.call 32 [95]), oK 97 (.call 73 [96]), oM 98 (cI 0)] [0, 97, 98])
 (.block 10
 (.loop
 (.seq
 (.reg 25 [oQ 99 (.bin .lss 98 97)] [0, 97, 98, 99])
 (.seq
 (.cond 99
 .skip
 (.exit 10))
 (.seq
 (.block 11
 (.seq
 (.reg 26 [oM 100 98, oM 9 100] [0, 9, 97, 98])
 (.seq
 (.reg 27 [oM 101 0, oQ 102 (.nchk 101), oQ 103 (.faddr 0 102), oQ 104 (.load none 103), oM 105 9, oK 106 (.call 74 [104, 105]), oQ 107 (.not 106)] [0, 9, 97, 98, 107])
 (.cond 107
 (.reg 28 [oM 108 0, oM 109 9, oK 110 (.call 71 [108, (.c (zU 6)), 109, (cI 0)])] [0, 97, 98])
 .skip))))
 (.reg 29 [oQ 111 (.bin .add 98 (cI 1)), oM 98 111] [0, 97, 98])))))))
 (.seq
 (.reg 30 [oM 112 0, oQ 113 (.nchk 112), oQ 114 (.faddr 0 113), oQ 115 (.load none 114), oK 116 (.call 75 [115]), oQ 117 (.fld none 2 116), oQ 118 (.len 0 117), oM 119 (cI 0)] [0, 118, 119])
 (.block 12
 (.loop
 (.seq
 (.reg 31 [oQ 120 (.bin .lss 119 118)] [0, 118, 119, 120])
 (.seq
 (.cond 120
 .skip
 (.exit 12))
 (.seq
 (.block 13
 (.seq
 (.reg 32 [oM 121 119, oM 10 121] [0, 10, 118, 119])
 (.seq
 (.reg 33 [oM 122 0, oQ 123 (.nchk 122), oQ 124 (.faddr 0 123), oQ 125 (.load none 124), oM 126 10, oK 127 (.call 76 [125, 126]), oQ 128 (.not 127)] [0, 10, 118, 119, 128])
 (.cond 128
 (.reg 34 [oM 129 0, oM 130 10, oK 131 (.call 71 [129, (.c (zU 7)), 130, (cI 0)])] [0, 118, 119])
 .skip))))
 (.reg 35 [oQ 132 (.bin .add 119 (cI 1)), oM 119 132] [0, 118, 119]))))))))))
theorem fok35 : FOK Tryz.prog 35 (133, ic35, []) := fokA [] Tryz.func35 (by kernel_rfl) (by kernel_rfl) (by kernel_rfl) (by kernel_rfl)
def ic36 : IC :=
 (.seq
 (.reg 0 [oM 2 (.c .nilslice)] [0])
 (.seq
 (.seq
 (.reg 1 [oM 3 0, oQ 4 (.isnil (.slice 30) false 3)] [0, 4])
 (.cond 4
 (.seq
 (.reg 2 [oM 2 (.c .nilslice)] [2])
 .ret)
 .skip))
 (.seq
 (.reg 3 [oK 5 (.bsl 3 0 [(zU 0), (zI 0), (zI 0)] []), oM 6 0, oK 7 (.app 3 5 6), oM 2 7] [2])
 .ret)))
theorem fok36 : FOK Tryz.prog 36 (8, ic36, [(.t 2)]) := fokA [] Tryz.func36 (by kernel_rfl) (by kernel_rfl) (by kernel_rfl) (by kernel_rfl)
def ic37 : IC :=
 (.seq
 (.reg 0 [oK 1 (.boxt 0), oM 2 (cB false)] [1])
 (.seq
 (.reg 1 [oQ 3 (.load (some 5) 1), oQ 4 (.faddr 2 1), oQ 5 (.faddr 1 4), oQ 6 (.load none 5), oK 7 (.call 77 [3, 6]), oQ 8 (.not 7), oM 2 8] [2])
 .ret))
theorem fok37 : FOK Tryz.prog 37 (9, ic37, [(.t 2)]) := fokA [1000001] Tryz.func37 (by kernel_rfl) (by kernel_rfl) (by kernel_rfl) (by kernel_rfl)
def ic38 : IC :=
 (.seq
 (.reg 0 [oK 1 (.boxt 0), oM 2 (cB false)] [1])
 (.seq
 (.dreg 1 [oQ 3 (.load (some 5) 1), oQ 4 (.faddr 2 1), oQ 5 (.faddr 1 4), oQ 6 (.load none 5), oK 7 (.call 77 [3, 6]), oQ 8 (.not 7), oM 9 8, gQ 10 9 false (.faddr 0 1), gQ 11 9 false (.load none 10), gQ 12 9 false (.nchk 11), gQ 13 9 false (.faddr 1 12), gQ 14 9 false (.load none 13), gQ 15 9 false (.faddr 1 1), gQ 16 9 false (.load none 15), gQ 17 9 false (.faddr 0 1), gQ 18 9 false (.load none 17), gQ 19 9 false (.nchk 18), gQ 20 9 false (.faddr 2 19), gQ 21 9 false (.load none 20), gQ 22 9 false (.faddr 2 1), gQ 23 9 false (.faddr 1 22), gQ 24 9 false (.load none 23), gQ 25 9 false (.iaddr 15 21 24), gQ 26 9 false (.faddr 7 25), gQ 27 9 false (.load none 26), gQ 28 9 false (.faddr 2 1), gQ 29 9 false (.faddr 2 28), gQ 30 9 false (.load none 29), gQ 31 9 false (.iaddr 7 27 30), gQ 32 9 false (.load (some 7) 31), gK 33 9 false (.call 78 [14, 16, 32]), oQ 34 (.pick 9 (cB true) 33), oM 2 34] false [2])
 .ret))
theorem fok38 : FOK Tryz.prog 38 (35, ic38, [(.t 2)]) := fokA [1000001] Tryz.func38 (by kernel_rfl) (by kernel_rfl) (by kernel_rfl) (by kernel_rfl)
def ic39 : IC :=
 (.seq
 (.reg 0 [oK 1 (.boxt 0), oM 2 (cB false)] [1])
 (.seq
 (.dreg 1 [oQ 3 (.load (some 5) 1), oQ 4 (.faddr 2 1), oQ 5 (.faddr 1 4), oQ 6 (.load none 5), oK 7 (.call 77 [3, 6]), oQ 8 (.not 7), oM 9 8, gQ 10 9 false (.faddr 0 1), gQ 11 9 false (.load none 10), gQ 12 9 false (.nchk 11), gQ 13 9 false (.faddr 1 12), gQ 14 9 false (.load none 13), gQ 15 9 false (.faddr 1 1), gQ 16 9 false (.load none 15), gQ 17 9 false (.faddr 2 1), gQ 18 9 false (.faddr 1 17), gQ 19 9 false (.load none 18), gQ 20 9 false (.faddr 0 1), gQ 21 9 false (.load none 20), gQ 22 9 false (.nchk 21), gQ 23 9 false (.faddr 2 22), gQ 24 9 false (.load none 23), gQ 25 9 false (.faddr 2 1), gQ 26 9 false (.faddr 1 25), gQ 27 9 false (.load none 26), gQ 28 9 false (.iaddr 15 24 27), gQ 29 9 false (.faddr 8 28), gQ 30 9 false (.load none 29), gQ 31 9 false (.faddr 2 1), gQ 32 9 false (.faddr 2 31), gQ 33 9 false (.load none 32), gQ 34 9 false (.iaddr 7 30 33), gQ 35 9 false (.load (some 7) 34), gK 36 9 false (.call 79 [14, 16, 19, 35]), gQ 37 9 false (.not 36), oQ 38 (.pick 9 (cB true) 37), oM 2 38] false [2])
 .ret))
theorem fok39 : FOK Tryz.prog 39 (39, ic39, [(.t 2)]) := fokA [1000001] Tryz.func39 (by kernel_rfl) (by kernel_rfl) (by kernel_rfl) (by kernel_rfl)
def ic40 : IC :=
 (.seq
 (.reg 0 [oK 1 (.boxt 0), oM 2 (cB false)] [1])
 (.seq
 (.dreg 1 [oQ 4 (.faddr 0 1), oQ 5 (.load none 4), oQ 6 (.nchk 5), oQ 7 (.faddr 2 6), oQ 8 (.load none 7), oQ 9 (.faddr 2 1), oQ 10 (.faddr 1 9), oQ 11 (.load none 10), oQ 12 (.iaddr 15 8 11), oQ 13 (.faddr 9 12), oQ 14 (.load none 13), oQ 15 (.faddr 2 1), oQ 16 (.faddr 2 15), oQ 17 (.load none 16), oQ 18 (.iaddr 5 14 17), oQ 19 (.load (some 5) 18), oK 3 (.alloc [(.str []), (zU 0), (zI 0), (.str []), (.str [])]), oN (.store 5 3 19)] false [1, 3])
 (.seq
 (.oreg 2 [(0, oQ 20 (.load (some 5) 1), 0), (1, oQ 21 (.faddr 2 1), 0), (2, oQ 22 (.faddr 1 21), 0), (3, oQ 23 (.load none 22), 0), (4, oK 24 (.call 77 [20, 23]), 0), (5, oQ 25 (.not 24), 0), (6, oM 26 25, 0), (7, gQ 27 26 false (.faddr 0 1), 0), (8, gQ 28 26 false (.load none 27), 0), (9, gQ 29 26 false (.nchk 28), 0), (10, gQ 30 26 false (.faddr 0 29), 0), (11, gQ 31 26 false (.load none 30), 0), (13, gQ 33 26 false (.load (some 5) 3), 0), (15, gQ 35 26 false (.mkf 83 [] [1]), 0), (12, gK 32 26 false (.call 81 [31]), 8192), (14, gK 34 26 false (.call 82 [32, 33]), 0), (16, gK 36 26 false (.call 80 [34, 35]), 0), (17, gQ 37 26 false (.not 36), 0), (18, oQ 38 (.pick 26 (cB true) 37), 0), (19, oM 2 38, 0)] [2])
 .ret)))
theorem fok40 : FOK Tryz.prog 40 (39, ic40, [(.t 2)]) := fokA [1000001] Tryz.func40 (by kernel_rfl) (by kernel_rfl) (by kernel_rfl) (by kernel_rfl)
def ic41 : IC :=
 (.seq
 (.reg 0 [oK 1 (.boxt 0), oM 2 (cB false)] [1])
 (.seq
 (.reg 1 [oQ 3 (.load (some 5) 1), oQ 4 (.faddr 2 1), oQ 5 (.faddr 1 4), oQ 6 (.load none 5), oK 7 (.call 77 [3, 6]), oQ 8 (.not 7), oM 9 8, gQ 10 9 false (.load (some 5) 1), gQ 11 9 false (.faddr 2 1), gQ 12 9 false (.faddr 2 11), gQ 13 9 false (.load none 12), gK 14 9 false (.call 77 [10, 13]), gQ 15 9 false (.not 14), oQ 16 (.pick 9 (cB true) 15), oM 2 16] [2])
 .ret))
theorem fok41 : FOK Tryz.prog 41 (17, ic41, [(.t 2)]) := fokA [1000001] Tryz.func41 (by kernel_rfl) (by kernel_rfl) (by kernel_rfl) (by kernel_rfl)
def ic42 : IC :=
 (.seq
 (.reg 0 [oK 1 (.boxt 0), oM 2 (cB false)] [1])
 (.seq
 (.oreg 1 [(0, oQ 3 (.faddr 0 1), 0), (1, oQ 4 (.load none 3), 0), (2, oQ 5 (.nchk 4), 0), (3, oQ 6 (.faddr 0 5), 0), (4, oQ 7 (.load none 6), 0), (5, oQ 8 (.faddr 2 1), 0), (6, oQ 9 (.faddr 1 8), 0), (7, oQ 10 (.load none 9), 0), (9, oQ 12 (.load (some 5) 1), 0), (10, oQ 13 (.mkf 77 [12] []), 0), (8, oK 11 (.call 84 [7, 10]), 512), (11, oK 14 (.call 80 [11, 13]), 0), (12, oM 2 14, 0)] [2])
 .ret))
theorem fok42 : FOK Tryz.prog 42 (15, ic42, [(.t 2)]) := fokA [1000001] Tryz.func42 (by kernel_rfl) (by kernel_rfl) (by kernel_rfl) (by kernel_rfl)
def ic43 : IC :=
 (.seq
 (.reg 0 [oK 1 (.boxt 0), oM 2 (cB false)] [1])
 (.seq
 (.dreg 1 [oQ 3 (.faddr 0 1), oQ 4 (.load none 3), oQ 5 (.nchk 4), oQ 6 (.faddr 0 5), oQ 7 (.load none 6), oQ 8 (.faddr 2 1), oQ 9 (.faddr 1 8), oQ 10 (.load none 9), oQ 11 (.faddr 1 1), oQ 12 (.load none 11), oK 13 (.call 85 [7, 10, 12]), oM 2 13] false [2])
 .ret))
theorem fok43 : FOK Tryz.prog 43 (14, ic43, [(.t 2)]) := fokA [1000001] Tryz.func43 (by kernel_rfl) (by kernel_rfl) (by kernel_rfl) (by kernel_rfl)
def ic44 : IC :=
 (.seq
 (.reg 0 [oM 4 (cB false)] [0, 1])
 (.seq
 (.reg 1 [oM 5 0, oM 6 1, oK 7 (.call 86 [5, 6]), oQ 8 (.bin .geq 7 (cI 0)), oM 4 8] [4])
 .ret))
theorem fok44 : FOK Tryz.prog 44 (9, ic44, [(.t 4)]) := fokA [] Tryz.func44 (by kernel_rfl) (by kernel_rfl) (by kernel_rfl) (by kernel_rfl)
def ic45 : IC :=
 (.seq
 (.reg 0 [oK 3 (.boxt 0), oM 4 (cB false)] [1, 2, 3])
 (.seq
 (.reg 1 [oQ 5 (.load none 1), oQ 6 (.load none 2), oQ 7 (.load (some 3) 3), oK 8 (.call 8 [5, 6, 7]), oQ 9 (.not 8), oM 4 9] [4])
 .ret))
theorem fok45 : FOK Tryz.prog 45 (10, ic45, [(.t 4)]) := fokA [1000003] Tryz.func45 (by kernel_rfl) (by kernel_rfl) (by kernel_rfl) (by kernel_rfl)
def ic46 : IC :=
 (.seq
 (.reg 0 [oM 4 (.c .nilslice)] [0, 1])
 (.seq
 (.reg 1 [oM 8 0, oM 9 1, oK 10 (.call 86 [8, 9]), oM 5 10] [0, 1, 5])
 (.seq
 (.seq
 (.reg 2 [oM 11 5, oQ 12 (.bin .eql 11 (cI (-1)))] [0, 1, 5, 12])
 (.cond 12
 (.seq
 (.reg 3 [oM 13 0, oM 4 13] [4])
 .ret)
 .skip))
 (.seq
 (.seq
 (.reg 4 [oM 14 5, oQ 15 (.bin .add 14 (cI 1)), oM 6 15] [0, 1, 5, 6])
 (.block 0
 (.loop
 (.seq
 (.seq
 (.reg 5 [oM 16 6, oM 17 0, oQ 18 (.len 0 17), oQ 19 (.bin .lss 16 18)] [0, 1, 5, 6, 19])
 (.cond 19
 .skip
 (.exit 0)))
 (.seq
 (.block 1
 (.seq
 (.reg 7 [oM 22 0, oM 23 6, oQ 24 (.iaddr 3 22 23), oQ 25 (.load (some 3) 24), oK 7 (.alloc [(zU 0), (zI 0), (zI 0)]), oN (.store 3 7 25)] [0, 1, 5, 6, 7])
 (.seq
 (.reg 8 [oM 26 1, oQ 27 (.load (some 3) 7), oK 28 (.callv 26 [27]), oQ 29 (.not 28)] [0, 1, 5, 6, 7, 29])
 (.cond 29
 (.seq
 (.reg 9 [oM 30 0, oM 31 5, oQ 32 (.load (some 3) 7), oQ 33 (.iaddr 3 30 31), oN (.store 3 33 32)] [0, 1, 5, 6])
 (.reg 10 [oM 34 5, oQ 35 (.bin .add 34 (cI 1)), oM 5 35] [0, 1, 5, 6]))
 .skip))))
 (.reg 6 [oM 20 6, oQ 21 (.bin .add 20 (cI 1)), oM 6 21] [0, 1, 5, 6]))))))
 (.seq
 (.reg 11 [oM 36 0, oM 37 5, oQ 38 (.slc 3 36 (some 37) none), oN (.clr 3 [(zU 0), (zI 0), (zI 0)] 38)] [0, 5])
 (.seq
 (.reg 12 [oM 39 0, oM 40 5, oQ 41 (.slc 3 39 none (some 40)), oM 4 41] [4])
 .ret))))))
theorem fok46 : FOK Tryz.prog 46 (42, ic46, [(.t 4)]) := fokA [] Tryz.func46 (by kernel_rfl) (by kernel_rfl) (by kernel_rfl) (by kernel_rfl)
def ic47 : IC :=
 (.seq
 (.reg 0 [oK 3 (.boxt 0), oM 4 (cB false)] [1, 2, 3])
 (.seq
 (.reg 1 [oQ 5 (.load none 1), oQ 6 (.load none 2), oQ 7 (.load (some 3) 3), oK 8 (.call 8 [5, 6, 7]), oM 4 8] [4])
 .ret))
theorem fok47 : FOK Tryz.prog 47 (9, ic47, [(.t 4)]) := fokA [1000003] Tryz.func47 (by kernel_rfl) (by kernel_rfl) (by kernel_rfl) (by kernel_rfl)
def ic48 : IC :=
(.seq
 (.reg 0 [⟨(some 4), none, (.q (.mov (.c .nilptr)))⟩, ⟨(some 5), none, (.q (.mov (.c (.int .i64 0))))⟩] [0, 1])
 (.seq
  (.reg 1 [⟨(some 14), none, (.q (.mov (.t 1)))⟩, ⟨(some 15), none, (.q (.len 0 (.t 14)))⟩, ⟨(some 6), none, (.q (.mov (.t 15)))⟩] [0, 1, 6])
  (.seq
   (.seq
    (.reg 2 [⟨(some 16), none, (.q (.mov (.t 0)))⟩, ⟨(some 17), none, (.q (.len 0 (.t 16)))⟩, ⟨(some 18), none, (.q (.mov (.c (.int .i64 0))))⟩] [0, 1, 6, 16, 17, 18])
    (.block 0
     (.loop
      (.seq
       (.reg 3 [⟨(some 19), none, (.q (.bin .lss (.t 18) (.t 17)))⟩] [0, 1, 6, 16, 17, 18, 19])
       (.seq
        (.cond (.t 19)
         .skip
         (.exit 0))
        (.seq
         (.block 1
          (.seq
           (.reg 4 [⟨(some 20), none, (.q (.iaddr 2 (.t 16) (.t 18)))⟩, ⟨(some 21), none, (.q (.load (some 2) (.t 20)))⟩, ⟨(some 8), none, (.alloc [(.int .i64 0), .nilslice])⟩, ⟨none, none, (.store 2 (.t 8) (.t 21))⟩] [0, 1, 6, 8, 16, 17, 18])
           (.reg 5 [⟨(some 22), none, (.q (.mov (.t 6)))⟩, ⟨(some 23), none, (.q (.faddr 1 (.t 8)))⟩, ⟨(some 24), none, (.q (.load none (.t 23)))⟩, ⟨(some 25), none, (.q (.len 0 (.t 24)))⟩, ⟨(some 26), none, (.q (.bin .add (.t 22) (.t 25)))⟩, ⟨(some 6), none, (.q (.mov (.t 26)))⟩] [0, 1, 6, 16, 17, 18])))
         (.reg 6 [⟨(some 27), none, (.q (.bin .add (.t 18) (.c (.int .i64 1))))⟩, ⟨(some 18), none, (.q (.mov (.t 27)))⟩] [0, 1, 6, 16, 17, 18])))))))
   (.seq
    (.seq
     (.reg 7 [⟨(some 28), none, (.q (.mov (.t 0)))⟩, ⟨(some 29), none, (.q (.len 0 (.t 28)))⟩, ⟨(some 30), none, (.q (.bin .gtr (.t 29) (.c (.int .i64 16))))⟩, ⟨(some 31), none, (.q (.mov (.t 30)))⟩, ⟨(some 32), (some ⟨31, false⟩), (.q (.mov (.t 6)))⟩, ⟨(some 33), (some ⟨31, false⟩), (.q (.bin .gtr (.t 32) (.c (.int .i64 256))))⟩, ⟨(some 34), none, (.q (.pick (.t 31) (.c (.bool true)) (.t 33)))⟩] [0, 1, 34])
     (.cond (.t 34)
      (.seq
       (.reg 8 [⟨(some 4), none, (.q (.mov (.c .nilptr)))⟩, ⟨(some 5), none, (.q (.mov (.c (.int .i64 40))))⟩] [4, 5])
       .ret)
      .skip))
    (.seq
     (.reg 9 [⟨(some 35), none, (.q (.mov (.t 1)))⟩, ⟨(some 36), none, (.q (.len 0 (.t 35)))⟩, ⟨(some 37), none, .mkmap⟩, ⟨(some 38), none, (.q (.bld [.nilslice, (.int .i64 0), .nilmap] [⟨1, ⟨1, (.t 36)⟩⟩, ⟨2, ⟨1, (.t 37)⟩⟩]))⟩, ⟨(some 39), none, (.box (.t 38))⟩, ⟨(some 9), none, (.q (.mov (.t 39)))⟩] [0, 1, 9])
     (.seq
      (.seq
       (.reg 10 [⟨(some 40), none, (.q (.mov (.t 9)))⟩, ⟨(some 41), none, (.q (.mov (.t 1)))⟩, ⟨(some 42), none, (.call 87 [(.t 40), (.t 41), (.c (.int .i64 (-1))), (.c (.int .i64 1025))])⟩, ⟨(some 10), none, (.q (.mov (.t 42)))⟩] [0, 9, 10])
       (.seq
        (.reg 11 [⟨(some 43), none, (.q (.mov (.t 10)))⟩, ⟨(some 44), none, (.q (.bin .neq (.t 43) (.c (.int .i64 0))))⟩] [0, 9, 10, 44])
        (.cond (.t 44)
         (.seq
          (.reg 12 [⟨(some 45), none, (.q (.mov (.t 10)))⟩, ⟨(some 4), none, (.q (.mov (.c .nilptr)))⟩, ⟨(some 5), none, (.q (.mov (.t 45)))⟩] [4, 5])
          .ret)
         .skip)))
      (.seq
       (.seq
        (.reg 13 [⟨(some 46), none, (.q (.mov (.t 0)))⟩, ⟨(some 47), none, (.q (.len 0 (.t 46)))⟩, ⟨(some 48), none, (.q (.mov (.c (.int .i64 0))))⟩] [9, 46, 47, 48])
        (.block 2
         (.loop
          (.seq
           (.reg 14 [⟨(some 49), none, (.q (.bin .lss (.t 48) (.t 47)))⟩] [9, 46, 47, 48, 49])
           (.seq
            (.cond (.t 49)
            .skip
            (.exit 2))
            (.seq
            (.block 3
            (.seq
            (.reg 15 [⟨(some 50), none, (.q (.mov (.t 48)))⟩, ⟨(some 51), none, (.q (.iaddr 2 (.t 46) (.t 48)))⟩, ⟨(some 52), none, (.q (.load (some 2) (.t 51)))⟩, ⟨(some 12), none, (.alloc [(.int .i64 0), .nilslice])⟩, ⟨(some 11), none, (.q (.mov (.t 50)))⟩, ⟨none, none, (.store 2 (.t 12) (.t 52))⟩] [9, 11, 12, 46, 47, 48])
            (.seq
            (.seq
            (.reg 16 [⟨(some 53), none, (.q (.faddr 0 (.t 12)))⟩, ⟨(some 54), none, (.q (.load none (.t 53)))⟩, ⟨(some 55), none, (.q (.bin .lss (.t 54) (.c (.int .i64 0))))⟩, ⟨(some 56), none, (.q (.mov (.t 55)))⟩, ⟨(some 57), (some ⟨56, false⟩), (.q (.faddr 0 (.t 12)))⟩, ⟨(some 58), (some ⟨56, false⟩), (.q (.load none (.t 57)))⟩, ⟨(some 59), (some ⟨56, false⟩), (.q (.bin .gtr (.t 58) (.c (.int .i64 1024))))⟩, ⟨(some 60), none, (.q (.pick (.t 56) (.c (.bool true)) (.t 59)))⟩] [9, 11, 12, 46, 47, 48, 60])
            (.cond (.t 60)
            (.seq
            (.reg 17 [⟨(some 4), none, (.q (.mov (.c .nilptr)))⟩, ⟨(some 5), none, (.q (.mov (.c (.int .i64 4))))⟩] [4, 5])
            .ret)
            .skip))
            (.seq
            (.reg 18 [⟨(some 61), none, (.q (.mov (.t 9)))⟩, ⟨(some 62), none, (.q (.faddr 1 (.t 12)))⟩, ⟨(some 63), none, (.q (.load none (.t 62)))⟩, ⟨(some 64), none, (.q (.mov (.t 11)))⟩, ⟨(some 65), none, (.q (.faddr 0 (.t 12)))⟩, ⟨(some 66), none, (.q (.load none (.t 65)))⟩, ⟨(some 67), none, (.call 87 [(.t 61), (.t 63), (.t 64), (.t 66)])⟩, ⟨(some 13), none, (.q (.mov (.t 67)))⟩] [9, 13, 46, 47, 48])
            (.seq
            (.reg 19 [⟨(some 68), none, (.q (.mov (.t 13)))⟩, ⟨(some 69), none, (.q (.bin .neq (.t 68) (.c (.int .i64 0))))⟩] [9, 13, 46, 47, 48, 69])
            (.cond (.t 69)
            (.seq
            (.reg 20 [⟨(some 70), none, (.q (.mov (.t 13)))⟩, ⟨(some 4), none, (.q (.mov (.c .nilptr)))⟩, ⟨(some 5), none, (.q (.mov (.t 70)))⟩] [4, 5])
            .ret)
            .skip))))))
            (.reg 21 [⟨(some 71), none, (.q (.bin .add (.t 48) (.c (.int .i64 1))))⟩, ⟨(some 48), none, (.q (.mov (.t 71)))⟩] [9, 46, 47, 48])))))))
       (.seq
        (.reg 22 [⟨(some 72), none, (.q (.mov (.t 9)))⟩, ⟨(some 4), none, (.q (.mov (.t 72)))⟩, ⟨(some 5), none, (.q (.mov (.c (.int .i64 0))))⟩] [4, 5])
        .ret))))))))
theorem fok48 : FOK Tryz.prog 48 (73, ic48, [(.t 4), (.t 5)]) := .mk (pf := []) (an := [(0, [0, 1]), (1, [0, 1, 6]), (2, [0, 1, 6, 16, 17, 18]), (3, [0, 1, 6, 16, 17, 18, 19]), (4, [0, 1, 6, 8, 16, 17, 18]), (5, [0, 1, 6, 16, 17, 18]), (6, [0, 1, 6, 16, 17, 18]), (7, [0, 1, 34]), (8, [4, 5]), (9, [0, 1, 9]), (10, [0, 9, 10]), (11, [0, 9, 10, 44]), (12, [4, 5]), (13, [9, 46, 47, 48]), (14, [9, 46, 47, 48, 49]), (15, [9, 11, 12, 46, 47, 48]), (16, [9, 11, 12, 46, 47, 48, 60]), (17, [4, 5]), (18, [9, 13, 46, 47, 48]), (19, [9, 13, 46, 47, 48, 69]), (20, [4, 5]), (21, [9, 46, 47, 48]), (22, [4, 5])]) (by kernel_rfl) (fnOK_of Tryz.func48 (by kernel_rfl) (by kernel_rfl) (by kernel_rfl))
def ic49 : IC :=
 (.seq
 (.reg 0 [oM 4 (.c .nilptr), oM 5 (cI 0)] [0, 1])
 (.seq
 (.reg 1 [oM 12 1, oQ 13 (.len 0 12), oM 6 13] [0, 1, 6])
 (.seq
 (.seq
 (.reg 2 [oM 7 (cI 0)] [0, 1, 6, 7])
 (.block 0
 (.loop
 (.seq
 (.seq
 (.reg 3 [oM 14 7, oM 15 0, oQ 16 (.len 0 15), oQ 17 (.bin .lss 14 16)] [0, 1, 6, 7, 17])
 (.cond 17
 .skip
 (.exit 0)))
 (.seq
 (.block 1
 (.reg 5 [oM 20 6, oM 21 0, oM 22 7, oQ 23 (.iaddr 2 21 22), oQ 24 (.faddr 1 23), oQ 25 (.load none 24), oQ 26 (.len 0 25), oQ 27 (.bin .add 20 26), oM 6 27] [0, 1, 6, 7]))
 (.reg 4 [oM 18 7, oQ 19 (.bin .add 18 (cI 1)), oM 7 19] [0, 1, 6, 7]))))))
 (.seq
 (.seq
 (.reg 6 [oM 28 0, oQ 29 (.len 0 28), oQ 30 (.bin .gtr 29 (cI 16)), oM 31 30, gQ 32 31 false (.mov 6), gQ 33 31 false (.bin .gtr 32 (cI 256)), oQ 34 (.pick 31 (cB true) 33)] [0, 1, 34])
 (.cond 34
 (.seq
 (.reg 7 [oM 4 (.c .nilptr), oM 5 (cI 40)] [4, 5])
 .ret)
 .skip))
 (.seq
 (.reg 8 [oM 35 1, oQ 36 (.len 0 35), oQ 37 (.bld [.nilslice, (zI 0), .nilslice, .nilslice] [⟨1, ⟨1, 36⟩⟩]), oK 38 (.box 37), oM 8 38] [0, 1, 8])
 (.seq
 (.seq
 (.reg 9 [oM 9 (cI 0)] [0, 1, 8, 9])
 (.block 2
 (.loop
 (.seq
 (.seq
 (.reg 10 [oM 39 9, oM 40 1, oQ 41 (.len 0 40), oQ 42 (.bin .lss 39 41)] [0, 1, 8, 9, 42])
 (.cond 42
 .skip
 (.exit 2)))
 (.seq
 (.block 3
 (.seq
 (.seq
 (.reg 12 [oM 45 1, oM 46 9, oQ 47 (.iaddr 15 45 46), oQ 48 (.load (some 15) 47), oK 49 (.call 88 [48]), oQ 50 (.not 49)] [0, 1, 8, 9, 50])
 (.cond 50
 (.seq
 (.reg 13 [oM 4 (.c .nilptr), oM 5 (cI 4)] [4, 5])
 .ret)
 .skip))
 (.oreg 14 [(0, oM 51 8, 0), (1, oM 52 8, 0), (2, oM 53 8, 0), (3, oM 54 8, 0), (4, oQ 55 (.nchk 54), 0), (5, oQ 56 (.faddr 0 55), 0), (6, oQ 57 (.load none 56), 0), (7, oM 58 1, 0), (8, oM 59 9, 0), (9, oQ 60 (.iaddr 15 58 59), 0), (10, oQ 61 (.load (some 15) 60), 0), (14, oM 65 8, 0), (15, oQ 66 (.nchk 65), 0), (16, oQ 67 (.faddr 2 66), 0), (17, oQ 68 (.load none 67), 0), (18, oK 69 (.bslt 1 1 [(zI 0)] [⟨0, ⟨1, (cI (-1))⟩⟩]), 0), (20, oM 71 8, 0), (21, oQ 72 (.nchk 71), 0), (22, oQ 73 (.faddr 3 72), 0), (23, oQ 74 (.load none 73), 0), (24, oK 75 (.bslt 1 1 [(zI 0)] [⟨0, ⟨1, (cI 1025)⟩⟩]), 0), (11, oK 62 (.call 89 [61]), 8519744), (12, oK 63 (.bslt 15 1 [(.str []), (zI 0), (.str []), (.str []), (zU 0), (.str []), .nilslice, .nilslice, .nilslice, .nilslice, .nilslice, .nilslice, .nilslice, .nilslice, .nilslice] [⟨0, ⟨15, 62⟩⟩]), 0), (13, oK 64 (.app 15 57 63), 8519680), (19, oK 70 (.app 1 68 69), 8388608), (25, oK 76 (.app 1 74 75), 0), (26, oQ 77 (.nchk 51), 0), (27, oQ 78 (.faddr 0 77), 0), (28, oN (.store 1 78 64), 0), (29, oQ 79 (.nchk 52), 0), (30, oQ 80 (.faddr 2 79), 0), (31, oN (.store 1 80 70), 0), (32, oQ 81 (.nchk 53), 0), (33, oQ 82 (.faddr 3 81), 0), (34, oN (.store 1 82 76), 0)] [0, 1, 8, 9])))
 (.reg 11 [oM 43 9, oQ 44 (.bin .add 43 (cI 1)), oM 9 44] [0, 1, 8, 9]))))))
 (.seq
 (.seq
 (.reg 15 [oM 10 (cI 0)] [0, 8, 10])
 (.block 4
 (.loop
 (.seq
 (.seq
 (.reg 16 [oM 83 10, oM 84 0, oQ 85 (.len 0 84), oQ 86 (.bin .lss 83 85)] [0, 8, 10, 86])
 (.cond 86
 .skip
 (.exit 4)))
 (.seq
 (.block 5
 (.seq
 (.seq
 (.reg 18 [oM 89 0, oM 90 10, oQ 91 (.iaddr 2 89 90), oQ 92 (.faddr 0 91), oQ 93 (.load none 92), oQ 94 (.bin .lss 93 (cI 0)), oM 95 94, gQ 96 95 false (.mov 0), gQ 97 95 false (.mov 10), gQ 98 95 false (.iaddr 2 96 97), gQ 99 95 false (.faddr 0 98), gQ 100 95 false (.load none 99), gQ 101 95 false (.bin .gtr 100 (cI 1024)), oQ 102 (.pick 95 (cB true) 101)] [0, 8, 10, 102])
 (.cond 102
 (.seq
 (.reg 19 [oM 4 (.c .nilptr), oM 5 (cI 4)] [4, 5])
 .ret)
 .skip))
 (.seq
 (.reg 20 [oM 11 (cI 0)] [0, 8, 10, 11])
 (.block 6
 (.loop
 (.seq
 (.seq
 (.reg 21 [oM 103 11, oM 104 0, oM 105 10, oQ 106 (.iaddr 2 104 105), oQ 107 (.faddr 1 106), oQ 108 (.load none 107), oQ 109 (.len 0 108), oQ 110 (.bin .lss 103 109)] [0, 8, 10, 11, 110])
 (.cond 110
 .skip
 (.exit 6)))
 (.seq
 (.block 7
 (.seq
 (.seq
 (.reg 23 [oM 113 0, oM 114 10, oQ 115 (.iaddr 2 113 114), oQ 116 (.faddr 1 115), oQ 117 (.load none 116), oM 118 11, oQ 119 (.iaddr 15 117 118), oQ 120 (.load (some 15) 119), oK 121 (.call 88 [120]), oQ 122 (.not 121)] [0, 8, 10, 11, 122])
 (.cond 122
 (.seq
 (.reg 24 [oM 4 (.c .nilptr), oM 5 (cI 4)] [4, 5])
 .ret)
 .skip))
 (.oreg 25 [(0, oM 123 8, 0), (1, oM 124 8, 0), (2, oM 125 8, 0), (3, oM 126 8, 0), (4, oQ 127 (.nchk 126), 0), (5, oQ 128 (.faddr 0 127), 0), (6, oQ 129 (.load none 128), 0), (7, oM 130 0, 0), (8, oM 131 10, 0), (9, oQ 132 (.iaddr 2 130 131), 0), (10, oQ 133 (.faddr 1 132), 0), (11, oQ 134 (.load none 133), 0), (12, oM 135 11, 0), (13, oQ 136 (.iaddr 15 134 135), 0), (14, oQ 137 (.load (some 15) 136), 0), (18, oM 141 8, 0), (19, oQ 142 (.nchk 141), 0), (20, oQ 143 (.faddr 2 142), 0), (21, oQ 144 (.load none 143), 0), (22, oM 145 10, 0), (23, oK 146 (.bslt 1 1 [(zI 0)] [⟨0, ⟨1, 145⟩⟩]), 0), (25, oM 148 8, 0), (26, oQ 149 (.nchk 148), 0), (27, oQ 150 (.faddr 3 149), 0), (28, oQ 151 (.load none 150), 0), (29, oM 152 0, 0), (30, oM 153 10, 0), (31, oQ 154 (.iaddr 2 152 153), 0), (32, oQ 155 (.faddr 0 154), 0), (33, oQ 156 (.load none 155), 0), (34, oK 157 (.bslt 1 1 [(zI 0)] [⟨0, ⟨1, 156⟩⟩]), 0), (15, oK 138 (.call 89 [137]), 8860467264), (16, oK 139 (.bslt 15 1 [(.str []), (zI 0), (.str []), (.str []), (zU 0), (.str []), .nilslice, .nilslice, .nilslice, .nilslice, .nilslice, .nilslice, .nilslice, .nilslice, .nilslice] [⟨0, ⟨15, 138⟩⟩]), 0), (17, oK 140 (.app 15 129 139), 8860467200), (24, oK 147 (.app 1 144 146), 8858370048), (35, oK 158 (.app 1 151 157), 0), (36, oQ 159 (.nchk 123), 0), (37, oQ 160 (.faddr 0 159), 0), (38, oN (.store 1 160 140), 0), (39, oQ 161 (.nchk 124), 0), (40, oQ 162 (.faddr 2 161), 0), (41, oN (.store 1 162 147), 0), (42, oQ 163 (.nchk 125), 0), (43, oQ 164 (.faddr 3 163), 0), (44, oN (.store 1 164 158), 0)] [0, 8, 10, 11])))
 (.reg 22 [oM 111 11, oQ 112 (.bin .add 111 (cI 1)), oM 11 112] [0, 8, 10, 11]))))))))
 (.reg 17 [oM 87 10, oQ 88 (.bin .add 87 (cI 1)), oM 10 88] [0, 8, 10]))))))
 (.seq
 (.reg 26 [oM 165 8, oM 4 165, oM 5 (cI 0)] [4, 5])
 .ret))))))))
theorem fok49 : FOK Tryz.prog 49 (166, ic49, [(.t 4), (.t 5)]) := fokA [1000063, 1000069, 1000075, 1000139, 1000146, 1000157] Tryz.func49 (by kernel_rfl) (by kernel_rfl) (by kernel_rfl) (by kernel_rfl)
def ic50 : IC :=
 (.seq
 (.reg 0 [oK 2 (.boxt 0), oK 3 (.boxt 1), oM 4 (.c .nilptr), oM 5 (cI 0)] [2, 3])
 (.seq
 (.block 0
 (.seq
 (.reg 1 [oQ 13 (.load none 2), oQ 14 (.isnil (.pointer 140) false 13), oM 12 14] [2, 3, 12])
 (.cond 12
 (.seq
 (.reg 2 [oM 4 (.c .nilptr), oM 5 (cI 2)] [4, 5])
 .ret)
 (.seq
 (.reg 3 [oQ 16 (.faddr 0 3), oQ 17 (.load none 16), oK 18 (.call 90 [17]), oQ 19 (.not 18), oM 20 19, gQ 21 20 false (.faddr 4 3), gQ 22 20 false (.load none 21), gQ 23 20 false (.bin .lss 22 (cI 0)), oQ 24 (.pick 20 (cB true) 23), oM 25 24, gQ 26 25 false (.faddr 4 3), gQ 27 25 false (.load none 26), gQ 28 25 false (.bin .gtr 27 (cI 1099511627776)), oQ 29 (.pick 25 (cB true) 28), oM 15 29] [2, 3, 15])
 (.cond 15
 (.seq
 (.reg 4 [oM 4 (.c .nilptr), oM 5 (cI 1)] [4, 5])
 .ret)
 (.seq
 (.reg 5 [oQ 31 (.faddr 2 3), oQ 32 (.load none 31), oQ 33 (.len 0 32), oQ 34 (.bin .gtr 33 (cI 64)), oM 35 34, gQ 36 35 false (.faddr 3 3), gQ 37 35 false (.load none 36), gQ 38 35 false (.len 0 37), gQ 39 35 false (.bin .gtr 38 (cI 64)), oQ 40 (.pick 35 (cB true) 39), oM 30 40] [2, 3, 30])
 (.cond 30
 (.seq
 (.reg 6 [oM 4 (.c .nilptr), oM 5 (cI 40)] [4, 5])
 .ret)
 (.seq
 (.reg 7 [oQ 42 (.faddr 2 3), oQ 43 (.load none 42), oK 44 (.call 91 [43, (.f 92)]), oM 41 44] [2, 3, 41])
 (.cond 41
 (.seq
 (.reg 8 [oM 4 (.c .nilptr), oM 5 (cI 4)] [4, 5])
 .ret)
 (.seq
 (.reg 9 [oQ 46 (.faddr 3 3), oQ 47 (.load none 46), oQ 48 (.mkf 95 [] [3, 2]), oK 49 (.call 94 [47, 48]), oM 45 49] [2, 3, 45])
 (.cond 45
 (.seq
 (.reg 10 [oM 4 (.c .nilptr), oM 5 (cI 5)] [4, 5])
 .ret)
 .skip)))))))))))
 (.seq
 (.reg 11 [oQ 51 (.load none 2), oK 52 (.call 67 [51]), oM 50 52, oQ 53 (.ext 0 50), oQ 54 (.ext 1 50), oM 6 53, oM 7 54] [2, 3, 6, 7])
 (.seq
 (.seq
 (.reg 12 [oM 55 7, oQ 56 (.bin .neq 55 (cI 0))] [2, 3, 6, 7, 56])
 (.cond 56
 (.seq
 (.reg 13 [oM 57 7, oM 4 (.c .nilptr), oM 5 57] [4, 5])
 .ret)
 .skip))
 (.seq
 (.oreg 14 [(0, oQ 58 (.load none 2), 0), (1, oM 59 6, 0), (2, oQ 60 (.load (some 5) 3), 0), (3, oK 61 (.call 97 [60]), 1), (4, oQ 62 (.bld [.nilptr, .nilptr, (zU 0), (.bool false), .nilslice, .nilslice, (zI 0), .nilslice] [⟨0, ⟨1, 58⟩⟩, ⟨1, ⟨1, 59⟩⟩, ⟨2, ⟨5, 61⟩⟩]), 0), (5, oK 63 (.box 62), 0), (6, oM 8 63, 0)] [2, 8])
 (.seq
 (.seq
 (.reg 15 [oQ 64 (.load none 2), oK 65 (.call 33 [64]), oM 66 (cI 0)] [2, 8, 65, 66])
 (.block 1
 (.loop
 (.seq
 (.reg 16 [oQ 67 (.bin .lss 66 65)] [2, 8, 65, 66, 67])
 (.seq
 (.cond 67
 .skip
 (.exit 1))
 (.seq
 (.block 2
 (.seq
 (.reg 17 [oM 68 66, oM 9 68] [2, 8, 9, 65, 66])
 (.seq
 (.reg 18 [oQ 70 (.load none 2), oM 71 9, oK 72 (.call 34 [70, 71]), oM 69 72, oQ 73 (.ext 0 69), oQ 74 (.ext 1 69), oK 10 (.alloc [(.str []), (zI 0), (.str []), (.str []), (zU 0), (.str []), .nilslice, .nilslice, .nilslice, .nilslice, .nilslice, .nilslice, .nilslice, .nilslice, .nilslice]), oN (.store 15 10 73), oM 11 74] [2, 8, 10, 11, 65, 66])
 (.seq
 (.seq
 (.reg 19 [oM 75 11, oQ 76 (.bin .neq 75 (cI 0))] [2, 8, 10, 11, 65, 66, 76])
 (.cond 76
 (.seq
 (.reg 20 [oM 77 11, oM 4 (.c .nilptr), oM 5 77] [4, 5])
 .ret)
 .skip))
 (.dreg 21 [oM 78 8, oM 79 8, oQ 80 (.nchk 79), oQ 81 (.faddr 7 80), oQ 82 (.load none 81), oQ 83 (.load (some 15) 10), oK 84 (.bslt 15 1 [(.str []), (zI 0), (.str []), (.str []), (zU 0), (.str []), .nilslice, .nilslice, .nilslice, .nilslice, .nilslice, .nilslice, .nilslice, .nilslice, .nilslice] [⟨0, ⟨15, 83⟩⟩]), oK 85 (.app 15 82 84), oQ 86 (.nchk 78), oQ 87 (.faddr 7 86), oN (.store 1 87 85)] true [2, 8, 65, 66])))))
 (.reg 22 [oQ 88 (.bin .add 66 (cI 1)), oM 66 88] [2, 8, 65, 66])))))))
 (.seq
 (.reg 23 [oM 89 8, oM 4 89, oM 5 (cI 0)] [4, 5])
 .ret)))))))
theorem fok50 : FOK Tryz.prog 50 (90, ic50, [(.t 4), (.t 5)]) := fokA [1000002, 1000003, 1000084] Tryz.func50 (by kernel_rfl) (by kernel_rfl) (by kernel_rfl) (by kernel_rfl)
def ic51 : IC :=
 (.seq
 (.reg 0 [oK 5 (.boxt 2), oM 6 (.c .nilptr), oM 7 (cI 0)] [0, 1, 5])
 (.seq
 (.seq
 (.reg 1 [oQ 12 (.faddr 0 5), oQ 13 (.load none 12), oK 14 (.call 98 [13]), oQ 15 (.not 14), oM 16 15, gQ 17 16 false (.faddr 4 5), gQ 18 16 false (.load none 17), gQ 19 16 false (.bin .lss 18 (cI 0)), oQ 20 (.pick 16 (cB true) 19), oM 21 20, gQ 22 21 false (.faddr 4 5), gQ 23 21 false (.load none 22), gQ 24 21 false (.bin .gtr 23 (cI 1099511627776)), oQ 25 (.pick 21 (cB true) 24)] [0, 1, 5, 25])
 (.cond 25
 (.seq
 (.reg 2 [oM 6 (.c .nilptr), oM 7 (cI 1)] [6, 7])
 .ret)
 .skip))
 (.seq
 (.seq
 (.reg 3 [oQ 26 (.faddr 2 5), oQ 27 (.load none 26), oQ 28 (.len 0 27), oQ 29 (.bin .gtr 28 (cI 64)), oM 30 29, gQ 31 30 false (.faddr 3 5), gQ 32 30 false (.load none 31), gQ 33 30 false (.len 0 32), gQ 34 30 false (.bin .gtr 33 (cI 64)), oQ 35 (.pick 30 (cB true) 34)] [0, 1, 5, 35])
 (.cond 35
 (.seq
 (.reg 4 [oM 6 (.c .nilptr), oM 7 (cI 40)] [6, 7])
 .ret)
 .skip))
 (.seq
 (.seq
 (.reg 5 [oM 8 (cI 0)] [0, 1, 5, 8])
 (.block 0
 (.loop
 (.seq
 (.seq
 (.reg 6 [oM 36 8, oQ 37 (.faddr 2 5), oQ 38 (.load none 37), oQ 39 (.len 0 38), oQ 40 (.bin .lss 36 39)] [0, 1, 5, 8, 40])
 (.cond 40
 .skip
 (.exit 0)))
 (.seq
 (.block 1
 (.seq
 (.reg 8 [oQ 43 (.faddr 2 5), oQ 44 (.load none 43), oM 45 8, oQ 46 (.iaddr 6 44 45), oQ 47 (.faddr 0 46), oQ 48 (.load none 47), oQ 49 (.bin .lss 48 (.c (zU 1))), oM 50 49, gQ 51 50 false (.faddr 2 5), gQ 52 50 false (.load none 51), gQ 53 50 false (.mov 8), gQ 54 50 false (.iaddr 6 52 53), gQ 55 50 false (.faddr 0 54), gQ 56 50 false (.load none 55), gQ 57 50 false (.bin .gtr 56 (.c (zU 4))), oQ 58 (.pick 50 (cB true) 57), oM 59 58, gQ 60 59 false (.faddr 2 5), gQ 61 59 false (.load none 60), gQ 62 59 false (.mov 8), gQ 63 59 false (.iaddr 6 61 62), gQ 64 59 false (.faddr 1 63), gQ 65 59 false (.load (some 5) 64), gK 66 59 false (.call 99 [65]), gQ 67 59 false (.not 66), oQ 68 (.pick 59 (cB true) 67)] [0, 1, 5, 8, 68])
 (.cond 68
 (.seq
 (.reg 9 [oM 6 (.c .nilptr), oM 7 (cI 4)] [6, 7])
 .ret)
 .skip)))
 (.reg 7 [oM 41 8, oQ 42 (.bin .add 41 (cI 1)), oM 8 42] [0, 1, 5, 8]))))))
 (.seq
 (.seq
 (.reg 10 [oM 9 (cI 0)] [0, 1, 5, 9])
 (.block 2
 (.loop
 (.seq
 (.seq
 (.reg 11 [oM 69 9, oQ 70 (.faddr 3 5), oQ 71 (.load none 70), oQ 72 (.len 0 71), oQ 73 (.bin .lss 69 72)] [0, 1, 5, 9, 73])
 (.cond 73
 .skip
 (.exit 2)))
 (.seq
 (.block 3
 (.seq
 (.reg 13 [oQ 76 (.faddr 3 5), oQ 77 (.load none 76), oM 78 9, oQ 79 (.iaddr 2 77 78), oQ 80 (.load (some 2) 79), oK 10 (.alloc [(zU 0), (zI 0)]), oN (.store 2 10 80)] [0, 1, 5, 9, 10])
 (.seq
 (.reg 14 [oQ 81 (.faddr 1 10), oQ 82 (.load none 81), oQ 83 (.bin .geq 82 (cI 0)), oM 84 83, gQ 85 84 true (.faddr 0 10), gQ 86 84 true (.load none 85), gQ 87 84 true (.bin .eql 86 (.c (zU 1))), gQ 88 84 true (.mov 87), gQ 89 88 true (.faddr 1 10), gQ 90 88 true (.load none 89), gQ 91 88 true (.faddr 2 5), gQ 92 88 true (.load none 91), gQ 93 88 true (.len 0 92), gQ 94 88 true (.bin .lss 90 93), gQ 95 84 true (.pick 88 94 (cB false)), gQ 96 84 true (.mov 95), gQ 97 96 false (.faddr 0 10), gQ 98 96 false (.load none 97), gQ 99 96 false (.bin .gtr 98 (.c (zU 1))), gQ 100 96 false (.mov 99), gQ 101 100 true (.faddr 0 10), gQ 102 100 true (.load none 101), gQ 103 100 true (.bin .leq 102 (.c (zU 4))), gQ 104 96 false (.pick 100 103 (cB false)), gQ 105 96 false (.mov 104), gQ 106 105 true (.faddr 1 10), gQ 107 105 true (.load none 106), gQ 108 105 true (.mov 1), gQ 109 105 true (.bin .lss 107 108), gQ 110 96 false (.pick 105 109 (cB false)), gQ 111 84 true (.pick 96 (cB true) 110), oQ 112 (.pick 84 111 (cB false)), oM 11 112] [0, 1, 5, 9, 11])
 (.seq
 (.reg 15 [oM 113 11, oQ 114 (.not 113)] [0, 1, 5, 9, 114])
 (.cond 114
 (.seq
 (.reg 16 [oM 6 (.c .nilptr), oM 7 (cI 5)] [6, 7])
 .ret)
 .skip)))))
 (.reg 12 [oM 74 9, oQ 75 (.bin .add 74 (cI 1)), oM 9 75] [0, 1, 5, 9]))))))
 (.seq
 (.reg 17 [oM 115 0, oM 116 1, oQ 117 (.load (some 5) 5), oQ 118 (.bld [.nilslice, (zI 0), (zU 0), (.bool false), .nilslice, .nilslice, (zI 0)] [⟨0, ⟨1, 115⟩⟩, ⟨1, ⟨1, 116⟩⟩, ⟨2, ⟨5, 117⟩⟩]), oK 119 (.boxt 118), oM 6 119, oM 7 (cI 0)] [6, 7])
 .ret))))))
theorem fok51 : FOK Tryz.prog 51 (120, ic51, [(.t 6), (.t 7)]) := fokA [1000005, 1000119] Tryz.func51 (by kernel_rfl) (by kernel_rfl) (by kernel_rfl) (by kernel_rfl)
def ic52 : IC :=
 (.seq
 (.reg 0 [oM 4 (.c .nilslice)] [0, 1])
 (.seq
 (.reg 1 [oK 7 (.bsl 15 0 [(.str []), (zI 0), (.str []), (.str []), (zU 0), (.str []), .nilslice, .nilslice, .nilslice, .nilslice, .nilslice, .nilslice, .nilslice, .nilslice, .nilslice] []), oM 8 1, oK 9 (.app 15 7 8), oM 5 9] [0, 5])
 (.seq
 (.seq
 (.reg 2 [oM 6 (cI 0)] [0, 5, 6])
 (.block 0
 (.loop
 (.seq
 (.seq
 (.reg 3 [oM 10 6, oM 11 0, oQ 12 (.len 0 11), oQ 13 (.bin .lss 10 12)] [0, 5, 6, 13])
 (.cond 13
 .skip
 (.exit 0)))
 (.seq
 (.block 1
 (.reg 5 [oM 16 5, oM 17 0, oM 18 6, oQ 19 (.iaddr 2 17 18), oQ 20 (.faddr 1 19), oQ 21 (.load none 20), oK 22 (.app 15 16 21), oM 5 22] [0, 5, 6]))
 (.reg 4 [oM 14 6, oQ 15 (.bin .add 14 (cI 1)), oM 6 15] [0, 5, 6]))))))
 (.seq
 (.reg 6 [oM 23 5, oM 4 23] [4])
 .ret))))
theorem fok52 : FOK Tryz.prog 52 (24, ic52, [(.t 4)]) := fokA [] Tryz.func52 (by kernel_rfl) (by kernel_rfl) (by kernel_rfl) (by kernel_rfl)
def ic67 : IC :=
(.seq
 (.reg 0 [⟨(some 2), none, (.q (.mov (.c .nilptr)))⟩, ⟨(some 3), none, (.q (.mov (.c (.int .i64 0))))⟩] [0])
 (.seq
  (.seq
   (.reg 1 [⟨(some 11), none, (.q (.mov (.t 0)))⟩, ⟨(some 12), none, (.q (.isnil (.pointer 140) false (.t 11)))⟩] [0, 12])
   (.cond (.t 12)
    (.seq
     (.reg 2 [⟨(some 2), none, (.q (.mov (.c .nilptr)))⟩, ⟨(some 3), none, (.q (.mov (.c (.int .i64 2))))⟩] [2, 3])
     .ret)
    .skip))
  (.seq
   (.reg 3 [⟨(some 13), none, .mkmap⟩, ⟨(some 14), none, .mkmap⟩, ⟨(some 15), none, .mkmap⟩, ⟨(some 16), none, (.q (.bld [.nilslice, .nilmap, .nilmap, .nilmap] [⟨1, ⟨1, (.t 13)⟩⟩, ⟨2, ⟨1, (.t 14)⟩⟩, ⟨3, ⟨1, (.t 15)⟩⟩]))⟩, ⟨(some 17), none, (.box (.t 16))⟩, ⟨(some 4), none, (.q (.mov (.t 17)))⟩] [0, 4])
   (.seq
    (.seq
     (.reg 4 [⟨(some 18), none, (.q (.mov (.t 0)))⟩, ⟨(some 19), none, (.call 33 [(.t 18)])⟩, ⟨(some 20), none, (.q (.mov (.c (.int .i64 0))))⟩] [0, 4, 19, 20])
     (.block 0
      (.loop
       (.seq
        (.reg 5 [⟨(some 21), none, (.q (.bin .lss (.t 20) (.t 19)))⟩] [0, 4, 19, 20, 21])
        (.seq
         (.cond (.t 21)
          .skip
          (.exit 0))
         (.seq
          (.block 1
           (.seq
            (.reg 6 [⟨(some 22), none, (.q (.mov (.t 20)))⟩, ⟨(some 5), none, (.q (.mov (.t 22)))⟩] [0, 4, 5, 19, 20])
            (.seq
            (.reg 7 [⟨(some 24), none, (.q (.mov (.t 0)))⟩, ⟨(some 25), none, (.q (.mov (.t 5)))⟩, ⟨(some 26), none, (.call 34 [(.t 24), (.t 25)])⟩, ⟨(some 23), none, (.q (.mov (.t 26)))⟩, ⟨(some 27), none, (.q (.ext 0 (.t 23)))⟩, ⟨(some 28), none, (.q (.ext 1 (.t 23)))⟩, ⟨(some 6), none, (.alloc [(.str []), (.int .i64 0), (.str []), (.str []), (.int .u8 0), (.str []), .nilslice, .nilslice, .nilslice, .nilslice, .nilslice, .nilslice, .nilslice, .nilslice, .nilslice])⟩, ⟨none, none, (.store 15 (.t 6) (.t 27))⟩, ⟨(some 7), none, (.q (.mov (.t 28)))⟩] [0, 4, 5, 6, 7, 19, 20])
            (.seq
            (.seq
            (.reg 8 [⟨(some 29), none, (.q (.mov (.t 7)))⟩, ⟨(some 30), none, (.q (.bin .neq (.t 29) (.c (.int .i64 0))))⟩] [0, 4, 5, 6, 7, 19, 20, 30])
            (.cond (.t 30)
            (.seq
            (.reg 9 [⟨(some 31), none, (.q (.mov (.t 7)))⟩, ⟨(some 2), none, (.q (.mov (.c .nilptr)))⟩, ⟨(some 3), none, (.q (.mov (.t 31)))⟩] [2, 3])
            .ret)
            .skip))
            (.seq
            (.dreg 10 [⟨(some 32), none, (.q (.mov (.t 4)))⟩, ⟨(some 33), none, (.q (.mov (.t 4)))⟩, ⟨(some 34), none, (.q (.nchk (.t 33)))⟩, ⟨(some 35), none, (.q (.faddr 0 (.t 34)))⟩, ⟨(some 36), none, (.q (.load none (.t 35)))⟩, ⟨(some 37), none, (.q (.load (some 15) (.t 6)))⟩, ⟨(some 38), none, (.bslt 15 1 [(.str []), (.int .i64 0), (.str []), (.str []), (.int .u8 0), (.str []), .nilslice, .nilslice, .nilslice, .nilslice, .nilslice, .nilslice, .nilslice, .nilslice, .nilslice] [⟨0, ⟨15, (.t 37)⟩⟩])⟩, ⟨(some 39), none, (.app 15 (.t 36) (.t 38))⟩, ⟨(some 40), none, (.q (.nchk (.t 32)))⟩, ⟨(some 41), none, (.q (.faddr 0 (.t 40)))⟩, ⟨none, none, (.store 1 (.t 41) (.t 39))⟩] true [0, 4, 5, 6, 19, 20])
            (.seq
            (.dreg 11 [⟨(some 42), none, (.q (.mov (.t 4)))⟩, ⟨(some 43), none, (.q (.nchk (.t 42)))⟩, ⟨(some 44), none, (.q (.faddr 2 (.t 43)))⟩, ⟨(some 45), none, (.q (.load none (.t 44)))⟩, ⟨(some 46), none, (.q (.faddr 0 (.t 6)))⟩, ⟨(some 47), none, (.q (.load none (.t 46)))⟩, ⟨(some 48), none, (.q (.mov (.t 4)))⟩, ⟨(some 49), none, (.q (.nchk (.t 48)))⟩, ⟨(some 50), none, (.q (.faddr 2 (.t 49)))⟩, ⟨(some 51), none, (.q (.load none (.t 50)))⟩, ⟨(some 52), none, (.q (.faddr 0 (.t 6)))⟩, ⟨(some 53), none, (.q (.load none (.t 52)))⟩, ⟨(some 54), none, (.q (.lkp 2 .nilslice false (.t 51) (.t 53)))⟩, ⟨(some 55), none, (.q (.mov (.t 5)))⟩, ⟨(some 56), none, (.bslt 1 1 [(.int .i64 0)] [⟨0, ⟨1, (.t 55)⟩⟩])⟩, ⟨(some 57), none, (.app 1 (.t 54) (.t 56))⟩, ⟨none, none, (.mupd 2 (.t 45) (.t 47) (.t 57))⟩] true [0, 4, 5, 6, 19, 20])
            (.seq
            (.seq
            (.reg 12 [⟨(some 58), none, (.q (.load (some 15) (.t 6)))⟩, ⟨(some 59), none, (.call 109 [(.t 58)])⟩, ⟨(some 60), none, (.mrange (.t 59))⟩] [0, 4, 5, 6, 19, 20, 60])
            (.block 2
            (.loop
            (.seq
            (.reg 13 [⟨(some 61), none, (.mnext (.t 60))⟩, ⟨(some 62), none, (.q (.ext 0 (.t 61)))⟩] [0, 4, 5, 6, 19, 20, 60, 62])
            (.seq
            (.cond (.t 62)
            .skip
            (.exit 2))
            (.block 3
            (.seq
            (.reg 14 [⟨(some 63), none, (.ment (.t 60))⟩, ⟨(some 64), none, (.q (.ext 0 (.t 63)))⟩, ⟨(some 8), none, (.q (.mov (.t 64)))⟩] [0, 4, 5, 6, 8, 19, 20, 60])
            (.dreg 15 [⟨(some 65), none, (.q (.mov (.t 4)))⟩, ⟨(some 66), none, (.q (.nchk (.t 65)))⟩, ⟨(some 67), none, (.q (.faddr 1 (.t 66)))⟩, ⟨(some 68), none, (.q (.load none (.t 67)))⟩, ⟨(some 69), none, (.q (.mov (.t 8)))⟩, ⟨(some 70), none, (.q (.mov (.t 4)))⟩, ⟨(some 71), none, (.q (.nchk (.t 70)))⟩, ⟨(some 72), none, (.q (.faddr 1 (.t 71)))⟩, ⟨(some 73), none, (.q (.load none (.t 72)))⟩, ⟨(some 74), none, (.q (.mov (.t 8)))⟩, ⟨(some 75), none, (.q (.lkp 2 .nilslice false (.t 73) (.t 74)))⟩, ⟨(some 76), none, (.q (.mov (.t 5)))⟩, ⟨(some 77), none, (.bslt 1 1 [(.int .i64 0)] [⟨0, ⟨1, (.t 76)⟩⟩])⟩, ⟨(some 78), none, (.app 1 (.t 75) (.t 77))⟩, ⟨none, none, (.mupd 2 (.t 68) (.t 69) (.t 78))⟩] true [0, 4, 5, 6, 19, 20, 60]))))))))
            (.seq
            (.reg 16 [⟨(some 79), none, (.q (.faddr 9 (.t 6)))⟩, ⟨(some 80), none, (.q (.load none (.t 79)))⟩, ⟨(some 81), none, (.q (.len 0 (.t 80)))⟩, ⟨(some 82), none, (.q (.mov (.c (.int .i64 0))))⟩] [0, 4, 5, 19, 20, 80, 81, 82])
            (.block 4
            (.loop
            (.seq
            (.reg 17 [⟨(some 83), none, (.q (.bin .lss (.t 82) (.t 81)))⟩] [0, 4, 5, 19, 20, 80, 81, 82, 83])
            (.seq
            (.cond (.t 83)
            .skip
            (.exit 4))
            (.seq
            (.block 5
            (.seq
            (.reg 18 [⟨(some 84), none, (.q (.iaddr 5 (.t 80) (.t 82)))⟩, ⟨(some 85), none, (.q (.load (some 5) (.t 84)))⟩, ⟨(some 10), none, (.alloc [(.str []), (.int .u8 0), (.int .i64 0), (.str []), (.str [])])⟩, ⟨none, none, (.store 5 (.t 10) (.t 85))⟩] [0, 4, 5, 10, 19, 20, 80, 81, 82])
            (.seq
            (.dreg 19 [⟨(some 86), none, (.q (.mov (.t 4)))⟩, ⟨(some 87), none, (.q (.nchk (.t 86)))⟩, ⟨(some 88), none, (.q (.faddr 3 (.t 87)))⟩, ⟨(some 89), none, (.q (.load none (.t 88)))⟩, ⟨(some 90), none, (.q (.faddr 0 (.t 10)))⟩, ⟨(some 91), none, (.q (.load none (.t 90)))⟩, ⟨(some 92), none, (.q (.lkp 2 .nilslice false (.t 89) (.t 91)))⟩, ⟨(some 93), none, (.q (.mov (.t 5)))⟩, ⟨(some 94), none, (.call 110 [(.t 92), (.t 93)])⟩, ⟨(some 95), none, (.q (.not (.t 94)))⟩] false [0, 4, 5, 10, 19, 20, 80, 81, 82, 95])
            (.cond (.t 95)
            (.dreg 20 [⟨(some 96), none, (.q (.mov (.t 4)))⟩, ⟨(some 97), none, (.q (.nchk (.t 96)))⟩, ⟨(some 98), none, (.q (.faddr 3 (.t 97)))⟩, ⟨(some 99), none, (.q (.load none (.t 98)))⟩, ⟨(some 100), none, (.q (.faddr 0 (.t 10)))⟩, ⟨(some 101), none, (.q (.load none (.t 100)))⟩, ⟨(some 102), none, (.q (.mov (.t 4)))⟩, ⟨(some 103), none, (.q (.nchk (.t 102)))⟩, ⟨(some 104), none, (.q (.faddr 3 (.t 103)))⟩, ⟨(some 105), none, (.q (.load none (.t 104)))⟩, ⟨(some 106), none, (.q (.faddr 0 (.t 10)))⟩, ⟨(some 107), none, (.q (.load none (.t 106)))⟩, ⟨(some 108), none, (.q (.lkp 2 .nilslice false (.t 105) (.t 107)))⟩, ⟨(some 109), none, (.q (.mov (.t 5)))⟩, ⟨(some 110), none, (.bslt 1 1 [(.int .i64 0)] [⟨0, ⟨1, (.t 109)⟩⟩])⟩, ⟨(some 111), none, (.app 1 (.t 108) (.t 110))⟩, ⟨none, none, (.mupd 2 (.t 99) (.t 101) (.t 111))⟩] true [0, 4, 5, 19, 20, 80, 81, 82])
            .skip))))
            (.reg 21 [⟨(some 112), none, (.q (.bin .add (.t 82) (.c (.int .i64 1))))⟩, ⟨(some 82), none, (.q (.mov (.t 112)))⟩] [0, 4, 5, 19, 20, 80, 81, 82]))))))))))))))
          (.reg 22 [⟨(some 113), none, (.q (.bin .add (.t 20) (.c (.int .i64 1))))⟩, ⟨(some 20), none, (.q (.mov (.t 113)))⟩] [0, 4, 19, 20])))))))
    (.seq
     (.reg 23 [⟨(some 114), none, (.q (.mov (.t 4)))⟩, ⟨(some 2), none, (.q (.mov (.t 114)))⟩, ⟨(some 3), none, (.q (.mov (.c (.int .i64 0))))⟩] [2, 3])
     .ret)))))
theorem fok67 : FOK Tryz.prog 67 (115, ic67, [(.t 2), (.t 3)]) := .mk (pf := [1000038, 1000056, 1000077, 1000110]) (an := [(0, [0]), (1, [0, 12]), (2, [2, 3]), (3, [0, 4]), (4, [0, 4, 19, 20]), (5, [0, 4, 19, 20, 21]), (6, [0, 4, 5, 19, 20]), (7, [0, 4, 5, 6, 7, 19, 20]), (8, [0, 4, 5, 6, 7, 19, 20, 30]), (9, [2, 3]), (10, [0, 4, 5, 6, 19, 20]), (11, [0, 4, 5, 6, 19, 20]), (12, [0, 4, 5, 6, 19, 20, 60]), (13, [0, 4, 5, 6, 19, 20, 60, 62]), (14, [0, 4, 5, 6, 8, 19, 20, 60]), (15, [0, 4, 5, 6, 19, 20, 60]), (16, [0, 4, 5, 19, 20, 80, 81, 82]), (17, [0, 4, 5, 19, 20, 80, 81, 82, 83]), (18, [0, 4, 5, 10, 19, 20, 80, 81, 82]), (19, [0, 4, 5, 10, 19, 20, 80, 81, 82, 95]), (20, [0, 4, 5, 19, 20, 80, 81, 82]), (21, [0, 4, 5, 19, 20, 80, 81, 82]), (22, [0, 4, 19, 20]), (23, [2, 3])]) (by kernel_rfl) (fnOK_of Tryz.func67 (by kernel_rfl) (by kernel_rfl) (by kernel_rfl))
def ic68 : IC :=
(.seq
 (.reg 0 [⟨(some 4), none, (.q (.mov (.c (.bool false))))⟩] [0, 1])
 (.seq
  (.reg 1 [⟨(some 5), none, (.q (.mov (.t 1)))⟩, ⟨(some 6), none, (.q (.bin .geq (.t 5) (.c (.int .i64 0))))⟩, ⟨(some 7), none, (.q (.mov (.t 6)))⟩, ⟨(some 8), (some ⟨7, true⟩), (.q (.mov (.t 1)))⟩, ⟨(some 9), (some ⟨7, true⟩), (.q (.mov (.t 0)))⟩, ⟨(some 10), (some ⟨7, true⟩), (.q (.len 0 (.t 9)))⟩, ⟨(some 11), (some ⟨7, true⟩), (.q (.bin .lss (.t 8) (.t 10)))⟩, ⟨(some 12), none, (.q (.pick (.t 7) (.t 11) (.c (.bool false))))⟩, ⟨(some 4), none, (.q (.mov (.t 12)))⟩] [4])
  .ret))
theorem fok68 : FOK Tryz.prog 68 (13, ic68, [(.t 4)]) := .mk (pf := []) (an := [(0, [0, 1]), (1, [4])]) (by kernel_rfl) (fnOK_of Tryz.func68 (by kernel_rfl) (by kernel_rfl) (by kernel_rfl))
def ic69 : IC :=
(.seq
 (.reg 0 [⟨(some 1), none, (.box (.t 0))⟩, ⟨(some 2), none, (.alloc [(.str []), (.int .i64 0), (.str []), (.str []), (.int .u8 0), (.str []), .nilslice, .nilslice, .nilslice, .nilslice, .nilslice, .nilslice, .nilslice, .nilslice, .nilslice])⟩] [1, 2])
 (.seq
  (.dreg 1 [⟨(some 7), none, (.q (.faddr 6 (.t 1)))⟩, ⟨(some 8), none, (.q (.load none (.t 7)))⟩, ⟨(some 9), none, (.pcall 111 [(.t 8)])⟩, ⟨(some 10), none, (.q (.faddr 9 (.t 1)))⟩, ⟨(some 11), none, (.q (.load none (.t 10)))⟩, ⟨(some 12), none, (.pcall 111 [(.t 11)])⟩, ⟨(some 13), none, (.q (.faddr 14 (.t 1)))⟩, ⟨(some 14), none, (.q (.load none (.t 13)))⟩, ⟨(some 15), none, (.pcall 112 [(.t 14)])⟩, ⟨(some 16), none, (.q (.faddr 6 (.t 1)))⟩, ⟨none, none, (.store 1 (.t 16) (.t 9))⟩, ⟨(some 17), none, (.q (.faddr 9 (.t 1)))⟩, ⟨none, none, (.store 1 (.t 17) (.t 12))⟩, ⟨(some 18), none, (.q (.faddr 14 (.t 1)))⟩, ⟨none, none, (.store 1 (.t 18) (.t 15))⟩] false [1, 2])
  (.seq
   (.seq
    (.reg 2 [⟨(some 19), none, (.q (.faddr 7 (.t 1)))⟩, ⟨(some 20), none, (.q (.faddr 8 (.t 1)))⟩, ⟨(some 21), none, (.q (.faddr 10 (.t 1)))⟩, ⟨(some 22), none, (.q (.faddr 11 (.t 1)))⟩, ⟨(some 23), none, (.q (.faddr 12 (.t 1)))⟩, ⟨(some 24), none, (.q (.faddr 13 (.t 1)))⟩, ⟨(some 25), none, (.bslt 1 6 [.nilptr] [⟨0, ⟨1, (.t 19)⟩⟩, ⟨1, ⟨1, (.t 20)⟩⟩, ⟨2, ⟨1, (.t 21)⟩⟩, ⟨3, ⟨1, (.t 22)⟩⟩, ⟨4, ⟨1, (.t 23)⟩⟩, ⟨5, ⟨1, (.t 24)⟩⟩])⟩, ⟨(some 26), none, (.q (.len 0 (.t 25)))⟩, ⟨(some 27), none, (.q (.mov (.c (.int .i64 0))))⟩] [1, 2, 25, 26, 27])
    (.block 0
     (.loop
      (.seq
       (.reg 3 [⟨(some 28), none, (.q (.bin .lss (.t 27) (.t 26)))⟩] [1, 2, 25, 26, 27, 28])
       (.seq
        (.cond (.t 28)
         .skip
         (.exit 0))
        (.seq
         (.block 1
          (.seq
           (.reg 4 [⟨(some 29), none, (.q (.iaddr 1 (.t 25) (.t 27)))⟩, ⟨(some 30), none, (.q (.load none (.t 29)))⟩, ⟨(some 4), none, (.q (.mov (.t 30)))⟩] [1, 2, 4, 25, 26, 27])
           (.seq
            (.reg 5 [⟨(some 31), none, (.q (.mov (.t 4)))⟩, ⟨(some 32), none, (.q (.mov (.t 4)))⟩, ⟨(some 33), none, (.q (.nchk (.t 32)))⟩, ⟨(some 34), none, (.q (.load none (.t 33)))⟩, ⟨(some 35), none, (.call 113 [(.t 34)])⟩, ⟨(some 36), none, (.q (.nchk (.t 31)))⟩, ⟨none, none, (.store 1 (.t 36) (.t 35))⟩] [1, 2, 4, 25, 26, 27])
            (.seq
            (.reg 6 [⟨(some 37), none, (.q (.mov (.t 4)))⟩, ⟨(some 38), none, (.q (.nchk (.t 37)))⟩, ⟨(some 39), none, (.q (.load none (.t 38)))⟩, ⟨(some 40), none, (.q (.len 0 (.t 39)))⟩, ⟨(some 41), none, (.q (.mov (.c (.int .i64 0))))⟩] [1, 2, 4, 25, 26, 27, 39, 40, 41])
            (.block 2
            (.loop
            (.seq
            (.reg 7 [⟨(some 42), none, (.q (.bin .lss (.t 41) (.t 40)))⟩] [1, 2, 4, 25, 26, 27, 39, 40, 41, 42])
            (.seq
            (.cond (.t 42)
            .skip
            (.exit 2))
            (.seq
            (.block 3
            (.seq
            (.reg 8 [⟨(some 43), none, (.q (.mov (.t 41)))⟩, ⟨(some 44), none, (.q (.iaddr 7 (.t 39) (.t 41)))⟩, ⟨(some 45), none, (.q (.load (some 7) (.t 44)))⟩, ⟨(some 6), none, (.alloc [(.int .u8 0), (.str []), (.int .u8 0), (.int .i64 0), (.str []), (.str []), .nilslice])⟩, ⟨(some 5), none, (.q (.mov (.t 43)))⟩, ⟨none, none, (.store 7 (.t 6) (.t 45))⟩] [1, 2, 4, 5, 6, 25, 26, 27, 39, 40, 41])
            (.dreg 9 [⟨(some 46), none, (.q (.mov (.t 4)))⟩, ⟨(some 47), none, (.q (.nchk (.t 46)))⟩, ⟨(some 48), none, (.q (.load none (.t 47)))⟩, ⟨(some 49), none, (.q (.mov (.t 5)))⟩, ⟨(some 50), none, (.q (.load (some 7) (.t 6)))⟩, ⟨(some 51), none, (.pcall 114 [(.t 50)])⟩, ⟨(some 52), none, (.q (.iaddr 7 (.t 48) (.t 49)))⟩, ⟨none, none, (.store 7 (.t 52) (.t 51))⟩] false [1, 2, 4, 25, 26, 27, 39, 40, 41])))
            (.reg 10 [⟨(some 53), none, (.q (.bin .add (.t 41) (.c (.int .i64 1))))⟩, ⟨(some 41), none, (.q (.mov (.t 53)))⟩] [1, 2, 4, 25, 26, 27, 39, 40, 41]))))))))))
         (.reg 11 [⟨(some 54), none, (.q (.bin .add (.t 27) (.c (.int .i64 1))))⟩, ⟨(some 27), none, (.q (.mov (.t 54)))⟩] [1, 2, 25, 26, 27])))))))
   (.seq
    (.reg 12 [⟨(some 55), none, (.q (.load (some 15) (.t 1)))⟩, ⟨none, none, (.store 15 (.t 2) (.t 55))⟩] [2])
    .ret))))
theorem fok69 : FOK Tryz.prog 69 (56, ic69, [(.cell (some 15) 2)]) := .mk (pf := ([1000025] ++ List.filter (fun k => k != 113) allF0)) (an := [(0, [1, 2]), (1, [1, 2]), (2, [1, 2, 25, 26, 27]), (3, [1, 2, 25, 26, 27, 28]), (4, [1, 2, 4, 25, 26, 27]), (5, [1, 2, 4, 25, 26, 27]), (6, [1, 2, 4, 25, 26, 27, 39, 40, 41]), (7, [1, 2, 4, 25, 26, 27, 39, 40, 41, 42]), (8, [1, 2, 4, 5, 6, 25, 26, 27, 39, 40, 41]), (9, [1, 2, 4, 25, 26, 27, 39, 40, 41]), (10, [1, 2, 4, 25, 26, 27, 39, 40, 41]), (11, [1, 2, 25, 26, 27]), (12, [2])]) (by kernel_rfl) (fnOK_of Tryz.func69 (by kernel_rfl) (by kernel_rfl) (by kernel_rfl))
def ic70 : IC :=
 (.seq
 (.reg 0 [oM 4 (cB false)] [0, 1])
 (.seq
 (.dreg 1 [oM 5 0, oM 6 1, oK 7 (.call 115 [5, 6]), oM 8 7, gQ 9 8 true (.mov 0), gQ 10 8 true (.nchk 9), gQ 11 8 true (.faddr 2 10), gQ 12 8 true (.faddr 0 11), gQ 13 8 true (.load none 12), gQ 14 8 true (.mov 0), gQ 15 8 true (.nchk 14), gQ 16 8 true (.faddr 7 15), gQ 17 8 true (.load none 16), gQ 18 8 true (.mov 1), gQ 19 8 true (.iaddr 15 17 18), gQ 20 8 true (.faddr 4 19), gQ 21 8 true (.load none 20), gK 22 8 true (.call 116 [13, 21]), oQ 23 (.pick 8 22 (cB false)), oM 4 23] false [4])
 .ret))
theorem fok70 : FOK Tryz.prog 70 (24, ic70, [(.t 4)]) := fokA [] Tryz.func70 (by kernel_rfl) (by kernel_rfl) (by kernel_rfl) (by kernel_rfl)
def ic71 : IC :=
 (.seq
 (.reg 0 [oM 9 1, oM 10 2, oM 11 3, oQ 12 (.bld [(zU 0), (zI 0), (zI 0)] [⟨0, ⟨1, 9⟩⟩, ⟨1, ⟨1, 10⟩⟩, ⟨2, ⟨1, 11⟩⟩]), oK 8 (.alloc [(zU 0), (zI 0), (zI 0)]), oN (.store 3 8 12)] [0, 8])
 (.seq
 (.dreg 1 [oM 13 0, oM 14 0, oQ 15 (.nchk 14), oQ 16 (.faddr 3 15), oQ 17 (.load none 16), oQ 18 (.load (some 3) 8), oK 19 (.bslt 3 1 [(zU 0), (zI 0), (zI 0)] [⟨0, ⟨3, 18⟩⟩]), oK 20 (.app 3 17 19), oQ 21 (.nchk 13), oQ 22 (.faddr 3 21), oN (.store 1 22 20)] true [0, 8])
 (.dreg 2 [oM 23 0, oQ 24 (.nchk 23), oQ 25 (.faddr 4 24), oQ 26 (.load none 25), oQ 27 (.load (some 3) 8), oQ 28 (.bld [] []), oN (.mupd 6 26 27 28)] false [])))
theorem fok71 : FOK Tryz.prog 71 (29, ic71, []) := fokA [1000019] Tryz.func71 (by kernel_rfl) (by kernel_rfl) (by kernel_rfl) (by kernel_rfl)
def ic72 : IC :=
 (.seq
 (.reg 0 [oM 6 (cB false)] [0, 1, 2])
 (.seq
 (.seq
 (.reg 1 [oM 9 0, oM 10 1, oK 11 (.call 115 [9, 10]), oQ 12 (.not 11), oM 13 12, gQ 14 13 false (.mov 0), gQ 15 13 false (.mov 2), gK 16 13 false (.call 115 [14, 15]), gQ 17 13 false (.not 16), oQ 18 (.pick 13 (cB true) 17), oM 19 18, gQ 20 19 false (.mov 1), gQ 21 19 false (.mov 2), gQ 22 19 false (.bin .eql 20 21), oQ 23 (.pick 19 (cB true) 22)] [0, 1, 2, 23])
 (.cond 23
 (.seq
 (.reg 2 [oM 6 (cB false)] [6])
 .ret)
 .skip))
 (.seq
 (.oreg 3 [(0, oM 24 0, 0), (1, oQ 25 (.nchk 24), 0), (2, oQ 26 (.faddr 7 25), 0), (3, oQ 27 (.load none 26), 0), (4, oM 28 1, 0), (5, oQ 29 (.iaddr 15 27 28), 0), (6, oQ 30 (.load (some 15) 29), 0), (7, oM 31 0, 0), (8, oQ 32 (.nchk 31), 0), (9, oQ 33 (.faddr 7 32), 0), (10, oQ 34 (.load none 33), 0), (11, oM 35 2, 0), (12, oQ 36 (.iaddr 15 34 35), 0), (13, oQ 37 (.load (some 15) 36), 0), (14, oK 7 (.alloc [(.str []), (zI 0), (.str []), (.str []), (zU 0), (.str []), .nilslice, .nilslice, .nilslice, .nilslice, .nilslice, .nilslice, .nilslice, .nilslice, .nilslice]), 0), (15, oK 8 (.alloc [(.str []), (zI 0), (.str []), (.str []), (zU 0), (.str []), .nilslice, .nilslice, .nilslice, .nilslice, .nilslice, .nilslice, .nilslice, .nilslice, .nilslice]), 0), (16, oN (.store 15 7 30), 9216), (17, oN (.store 15 8 37), 0)] [7, 8])
 (.seq
 (.reg 4 [oQ 38 (.faddr 0 7), oQ 39 (.load none 38), oQ 40 (.faddr 0 8), oQ 41 (.load none 40), oQ 42 (.bin .eql 39 41), oM 43 42, gQ 44 43 true (.faddr 4 7), gQ 45 43 true (.load none 44), gQ 46 43 true (.faddr 4 8), gQ 47 43 true (.load none 46), gK 48 43 true (.call 117 [45, 47]), gQ 49 43 true (.mov 48), gQ 50 49 true (.faddr 1 7), gQ 51 49 true (.load (some 3) 50), gQ 52 49 true (.faddr 1 8), gQ 53 49 true (.load (some 3) 52), gK 54 49 true (.call 118 [51, 53]), gQ 55 49 true (.bin .eql 54 (cI 0)), gQ 56 43 true (.pick 49 55 (cB false)), gQ 57 43 true (.not 56), oQ 58 (.pick 43 57 (cB false)), oM 6 58] [6])
 .ret))))
theorem fok72 : FOK Tryz.prog 72 (59, ic72, [(.t 6)]) := fokA [] Tryz.func72 (by kernel_rfl) (by kernel_rfl) (by kernel_rfl) (by kernel_rfl)
def ic73 : IC :=
(.seq
 (.reg 0 [⟨(some 2), none, (.q (.mov (.c (.int .i64 0))))⟩] [0])
 (.seq
  (.seq
   (.reg 1 [⟨(some 3), none, (.q (.mov (.t 0)))⟩, ⟨(some 4), none, (.q (.isnil (.pointer 140) false (.t 3)))⟩] [0, 4])
   (.cond (.t 4)
    (.seq
     (.reg 2 [⟨(some 2), none, (.q (.mov (.c (.int .i64 0))))⟩] [2])
     .ret)
    .skip))
  (.seq
   (.reg 3 [⟨(some 5), none, (.q (.mov (.t 0)))⟩, ⟨(some 6), none, (.q (.nchk (.t 5)))⟩, ⟨(some 7), none, (.q (.faddr 1 (.t 6)))⟩, ⟨(some 8), none, (.q (.load none (.t 7)))⟩, ⟨(some 2), none, (.q (.mov (.t 8)))⟩] [2])
   .ret)))
theorem fok73 : FOK Tryz.prog 73 (9, ic73, [(.t 2)]) := .mk (pf := []) (an := [(0, [0]), (1, [0, 4]), (2, [2]), (3, [2])]) (by kernel_rfl) (fnOK_of Tryz.func73 (by kernel_rfl) (by kernel_rfl) (by kernel_rfl))
def ic74 : IC :=
 (.seq
 (.reg 0 [oM 4 (cB false)] [0, 1])
 (.seq
 (.reg 1 [oM 5 0, oM 6 1, oK 7 (.call 119 [5, 6]), oM 8 7, gQ 9 8 true (.mov 0), gQ 10 8 true (.mov 1), gK 11 8 true (.call 120 [9, (.c (zU 2)), 10]), gQ 12 8 true (.mov 11), gQ 13 12 false (.mov 0), gQ 14 12 false (.mov 1), gK 15 12 false (.call 121 [13, (.c (zU 2)), 14]), gQ 16 8 true (.pick 12 (cB true) 15), oQ 17 (.pick 8 16 (cB false)), oM 4 17] [4])
 .ret))
theorem fok74 : FOK Tryz.prog 74 (18, ic74, [(.t 4)]) := fokA [] Tryz.func74 (by kernel_rfl) (by kernel_rfl) (by kernel_rfl) (by kernel_rfl)
def ic75 : IC :=
 (.seq
 (.reg 0 [oK 2 (.alloc [(zU 0), (.bool false), .nilslice, .nilslice, (zI 0)])] [0, 2])
 (.seq
 (.seq
 (.reg 1 [oM 3 0, oQ 4 (.isnil (.pointer 135) false 3)] [0, 2, 4])
 (.cond 4
 (.seq
 (.reg 2 [oQ 5 (.bld [(zU 0), (.bool false), .nilslice, .nilslice, (zI 0)] []), oN (.store 5 2 5)] [2])
 .ret)
 .skip))
 (.seq
 (.reg 3 [oM 6 0, oQ 7 (.nchk 6), oQ 8 (.faddr 2 7), oQ 9 (.load (some 5) 8), oK 10 (.call 97 [9]), oN (.store 5 2 10)] [2])
 .ret)))
theorem fok75 : FOK Tryz.prog 75 (11, ic75, [(.cell (some 5) 2)]) := fokA [] Tryz.func75 (by kernel_rfl) (by kernel_rfl) (by kernel_rfl) (by kernel_rfl)
def ic76 : IC :=
 (.seq
 (.reg 0 [oM 4 (cB false)] [0, 1])
 (.seq
 (.reg 1 [oM 5 0, oM 6 1, oK 7 (.call 122 [5, 6]), oM 8 7, gQ 9 8 true (.mov 0), gQ 10 8 true (.mov 1), gK 11 8 true (.call 121 [9, (.c (zU 1)), 10]), oQ 12 (.pick 8 11 (cB false)), oM 4 12] [4])
 .ret))
theorem fok76 : FOK Tryz.prog 76 (13, ic76, [(.t 4)]) := fokA [] Tryz.func76 (by kernel_rfl) (by kernel_rfl) (by kernel_rfl) (by kernel_rfl)
def ic77 : IC :=
 (.seq
 (.reg 0 [oK 2 (.boxt 0), oM 4 (cB false)] [1, 2])
 (.seq
 (.reg 1 [oQ 5 (.faddr 1 2), oQ 6 (.load none 5), oM 7 1, oK 8 (.call 110 [6, 7]), oM 4 8] [4])
 .ret))
theorem fok77 : FOK Tryz.prog 77 (9, ic77, [(.t 4)]) := fokA [1000002] Tryz.func77 (by kernel_rfl) (by kernel_rfl) (by kernel_rfl) (by kernel_rfl)
def ic78 : IC :=
 (.seq
 (.reg 0 [oK 5 (.boxt 2), oM 6 (cB false)] [0, 1, 5])
 (.seq
 (.oreg 1 [(0, oM 7 0, 0), (1, oQ 8 (.isnil (.pointer 133) true 7), 0), (2, oM 9 8, 0), (3, gQ 10 9 true (.load (some 7) 5), 0), (4, gK 11 9 true (.call 123 [10]), 0), (5, oQ 12 (.pick 9 11 (cB false)), 0), (6, oM 13 12, 0), (7, gQ 14 13 true (.mov 0), 0), (8, gQ 15 13 true (.mov 1), 0), (10, gQ 17 13 true (.load (some 7) 5), 0), (9, gK 16 13 true (.call 124 [14, 15]), 1024), (11, gK 18 13 true (.call 125 [16, 17]), 0), (12, oQ 19 (.pick 13 18 (cB false)), 0), (13, oM 6 19, 0)] [6])
 .ret))
theorem fok78 : FOK Tryz.prog 78 (20, ic78, [(.t 6)]) := fokA [1000005] Tryz.func78 (by kernel_rfl) (by kernel_rfl) (by kernel_rfl) (by kernel_rfl)
def ic79 : IC :=
 (.seq
 (.reg 0 [oK 6 (.boxt 2), oK 7 (.boxt 3), oM 8 (cB false)] [0, 1, 6, 7])
 (.seq
 (.oreg 1 [(0, oM 9 0, 0), (1, oM 10 1, 0), (3, oQ 12 (.mkf 127 [] [6]), 0), (5, oQ 14 (.load (some 7) 7), 0), (2, oK 11 (.call 107 [10]), 32), (4, oK 13 (.call 126 [11, 12]), 32), (6, oK 15 (.call 78 [9, 13, 14]), 0), (7, oM 8 15, 0)] [8])
 .ret))
theorem fok79 : FOK Tryz.prog 79 (16, ic79, [(.t 8)]) := fokA [1000006, 1000007] Tryz.func79 (by kernel_rfl) (by kernel_rfl) (by kernel_rfl) (by kernel_rfl)
def ic80 : IC :=
 (.seq
 (.reg 0 [oM 4 (cB false)] [0, 1])
 (.seq
 (.reg 1 [oM 5 0, oM 6 1, oK 7 (.call 128 [5, 6]), oQ 8 (.bin .geq 7 (cI 0)), oM 4 8] [4])
 .ret))
theorem fok80 : FOK Tryz.prog 80 (9, ic80, [(.t 4)]) := fokA [] Tryz.func80 (by kernel_rfl) (by kernel_rfl) (by kernel_rfl) (by kernel_rfl)
def ic81 : IC :=
 (.seq
 (.reg 0 [oM 2 (.c .nilptr)] [0])
 (.seq
 (.seq
 (.reg 1 [oM 3 0, oQ 4 (.isnil (.pointer 135) false 3)] [0, 4])
 (.cond 4
 (.seq
 (.reg 2 [oM 2 (.c .nilptr)] [2])
 .ret)
 .skip))
 (.seq
 (.reg 3 [oM 5 0, oQ 6 (.nchk 5), oQ 7 (.faddr 1 6), oQ 8 (.load none 7), oM 2 8] [2])
 .ret)))
theorem fok81 : FOK Tryz.prog 81 (9, ic81, [(.t 2)]) := fokA [] Tryz.func81 (by kernel_rfl) (by kernel_rfl) (by kernel_rfl) (by kernel_rfl)
def ic82 : IC :=
 (.seq
 (.reg 0 [oK 3 (.boxt 1), oM 4 (.c .nilslice)] [0, 3])
 (.seq
 (.seq
 (.reg 1 [oM 5 0, oQ 6 (.isnil (.pointer 180) false 5)] [0, 3, 6])
 (.cond 6
 (.seq
 (.reg 2 [oM 4 (.c .nilslice)] [4])
 .ret)
 .skip))
 (.seq
 (.dreg 3 [oM 7 0, oM 8 0, oQ 9 (.nchk 8), oQ 10 (.faddr 2 9), oQ 11 (.load none 10), oQ 12 (.faddr 0 3), oQ 13 (.load none 12), oQ 14 (.lkp 2 .nilslice false 11 13), oQ 15 (.mkf 130 [] [3]), oK 16 (.call 129 [7, 14, 15]), oM 4 16] false [4])
 .ret)))
theorem fok82 : FOK Tryz.prog 82 (17, ic82, [(.t 4)]) := fokA [1000003] Tryz.func82 (by kernel_rfl) (by kernel_rfl) (by kernel_rfl) (by kernel_rfl)
def ic83 : IC :=
 (.seq
 (.reg 0 [oM 3 (cB false)] [0, 1])
 (.seq
 (.reg 1 [oM 4 0, oQ 5 (.faddr 2 1), oQ 6 (.faddr 1 5), oQ 7 (.load none 6), oQ 8 (.bin .neq 4 7), oM 9 8, gQ 10 9 true (.load (some 5) 1), gQ 11 9 true (.mov 0), gK 12 9 true (.call 77 [10, 11]), oQ 13 (.pick 9 12 (cB false)), oM 3 13] [3])
 .ret))
theorem fok83 : FOK Tryz.prog 83 (14, ic83, [(.t 3)]) := fokA [] Tryz.func83 (by kernel_rfl) (by kernel_rfl) (by kernel_rfl) (by kernel_rfl)
def ic84 : IC :=
 (.seq
 (.reg 0 [oK 2 (.boxt 0), oM 4 (.c .nilslice)] [1, 2])
 (.seq
 (.seq
 (.reg 1 [oQ 12 (.load none 2), oM 13 1, oK 14 (.call 119 [12, 13]), oQ 15 (.not 14)] [1, 2, 15])
 (.cond 15
 (.seq
 (.reg 2 [oM 4 (.c .nilslice)] [4])
 .ret)
 .skip))
 (.seq
 (.reg 3 [oQ 16 (.load none 2), oQ 17 (.nchk 16), oQ 18 (.faddr 7 17), oQ 19 (.load none 18), oM 20 1, oQ 21 (.iaddr 15 19 20), oQ 22 (.load (some 15) 21), oK 5 (.alloc [(.str []), (zI 0), (.str []), (.str []), (zU 0), (.str []), .nilslice, .nilslice, .nilslice, .nilslice, .nilslice, .nilslice, .nilslice, .nilslice, .nilslice]), oN (.store 15 5 22)] [1, 2, 5])
 (.seq
 (.reg 4 [oQ 23 (.load none 2), oM 24 1, oK 25 (.call 121 [23, (.c (zU 3)), 24]), oM 26 25, gQ 27 26 false (.load none 2), gQ 28 26 false (.mov 1), gK 29 26 false (.call 120 [27, (.c (zU 4)), 28]), oQ 30 (.pick 26 (cB true) 29), oK 6 (.alloc [(.bool false)]), oN (.store 1 6 30)] [1, 2, 5, 6])
 (.seq
 (.reg 5 [oQ 31 (.load none 2), oM 32 1, oK 33 (.call 121 [31, (.c (zU 4)), 32]), oK 7 (.alloc [(.bool false)]), oN (.store 1 7 33)] [1, 2, 5, 6, 7])
 (.seq
 (.reg 6 [oQ 34 (.mkf 132 [] [5, 6, 7, 2]), oM 8 34] [1, 2, 8])
 (.seq
 (.reg 7 [oQ 35 (.load none 2), oQ 36 (.nchk 35), oQ 37 (.faddr 1 36), oQ 38 (.load none 37), oM 39 1, oK 40 (.call 134 [38, 39]), oM 9 40] [1, 2, 8, 9])
 (.seq
 (.seq
 (.reg 8 [oQ 41 (.load none 2), oQ 42 (.nchk 41), oQ 43 (.faddr 7 42), oQ 44 (.load none 43), oQ 45 (.len 0 44), oM 46 (cI 0)] [1, 8, 9, 44, 45, 46])
 (.block 0
 (.loop
 (.seq
 (.reg 9 [oQ 47 (.bin .lss 46 45)] [1, 8, 9, 44, 45, 46, 47])
 (.seq
 (.cond 47
 .skip
 (.exit 0))
 (.seq
 (.block 1
 (.seq
 (.reg 10 [oM 48 46, oQ 49 (.iaddr 15 44 46), oQ 50 (.load (some 15) 49), oK 11 (.alloc [(.str []), (zI 0), (.str []), (.str []), (zU 0), (.str []), .nilslice, .nilslice, .nilslice, .nilslice, .nilslice, .nilslice, .nilslice, .nilslice, .nilslice]), oM 10 48, oN (.store 15 11 50)] [1, 8, 9, 10, 11, 44, 45, 46])
 (.seq
 (.reg 11 [oM 51 10, oM 52 1, oQ 53 (.bin .eql 51 52), oM 54 53, gQ 55 54 false (.mov 8), gQ 56 54 false (.load (some 15) 11), gK 57 54 false (.callv 55 [56]), oQ 58 (.pick 54 (cB true) 57)] [1, 8, 9, 10, 44, 45, 46, 58])
 (.cond 58
 (.reg 12 [oM 59 9, oM 60 10, oK 61 (.bslt 1 1 [(zI 0)] [⟨0, ⟨1, 60⟩⟩]), oK 62 (.app 1 59 61), oM 9 62] [1, 8, 9, 44, 45, 46])
 .skip))))
 (.reg 13 [oQ 63 (.bin .add 46 (cI 1)), oM 46 63] [1, 8, 9, 44, 45, 46])))))))
 (.seq
 (.reg 14 [oM 64 9, oK 65 (.call 135 [64])] [9])
 (.seq
 (.reg 15 [oM 66 9, oK 67 (.call 136 [66]), oM 4 67] [4])
 .ret))))))))))
theorem fok84 : FOK Tryz.prog 84 (68, ic84, [(.t 4)]) := fokA [1000002, 1000061] Tryz.func84 (by kernel_rfl) (by kernel_rfl) (by kernel_rfl) (by kernel_rfl)
def ic85 : IC :=
 (.seq
 (.reg 0 [oM 6 (cB false)] [0, 1, 2])
 (.seq
 (.seq
 (.reg 1 [oM 8 0, oM 9 1, oK 10 (.call 122 [8, 9]), oQ 11 (.not 10)] [0, 1, 2, 11])
 (.cond 11
 (.seq
 (.reg 2 [oM 6 (cB true)] [6])
 .ret)
 .skip))
 (.seq
 (.reg 3 [oQ 12 (.bld [.nilfunc, .nilfunc, .nilfunc, .nilfunc, .nilfunc] [⟨1, ⟨1, (.f 137)⟩⟩, ⟨2, ⟨1, (.f 138)⟩⟩, ⟨3, ⟨1, (.f 139)⟩⟩, ⟨4, ⟨1, (.f 140)⟩⟩]), oK 7 (.alloc [.nilfunc, .nilfunc, .nilfunc, .nilfunc, .nilfunc]), oN (.store 5 7 12)] [0, 1, 2, 7])
 (.seq
 (.reg 4 [oM 13 0, oQ 14 (.nchk 13), oQ 15 (.faddr 2 14), oQ 16 (.faddr 2 15), oQ 17 (.load none 16), oM 18 1, oQ 19 (.iaddr 6 17 18), oQ 20 (.faddr 0 19), oQ 21 (.load none 20), oQ 22 (.aaddr 5 1 7 21), oQ 23 (.load none 22), oM 24 0, oM 25 1, oM 26 2, oK 27 (.callv 23 [24, 25, 26]), oM 6 27] [6])
 .ret))))
theorem fok85 : FOK Tryz.prog 85 (28, ic85, [(.t 6)]) := fokA [] Tryz.func85 (by kernel_rfl) (by kernel_rfl) (by kernel_rfl) (by kernel_rfl)
def ic86 : IC :=
 (.seq
 (.reg 0 [oM 4 (cI 0)] [0, 1])
 (.seq
 (.seq
 (.reg 1 [oM 6 0, oQ 7 (.len 0 6), oM 8 (cI 0)] [0, 1, 7, 8])
 (.block 0
 (.loop
 (.seq
 (.reg 2 [oQ 9 (.bin .lss 8 7)] [0, 1, 7, 8, 9])
 (.seq
 (.cond 9
 .skip
 (.exit 0))
 (.seq
 (.block 1
 (.seq
 (.reg 3 [oM 10 8, oM 5 10] [0, 1, 5, 7, 8])
 (.seq
 (.reg 4 [oM 11 1, oM 12 0, oM 13 5, oQ 14 (.iaddr 3 12 13), oQ 15 (.load (some 3) 14), oK 16 (.callv 11 [15])] [0, 1, 5, 7, 8, 16])
 (.cond 16
 (.seq
 (.reg 5 [oM 17 5, oM 4 17] [4])
 .ret)
 .skip))))
 (.reg 6 [oQ 18 (.bin .add 8 (cI 1)), oM 8 18] [0, 1, 7, 8])))))))
 (.seq
 (.reg 7 [oM 4 (cI (-1))] [4])
 .ret)))
theorem fok86 : FOK Tryz.prog 86 (19, ic86, [(.t 4)]) := fokA [] Tryz.func86 (by kernel_rfl) (by kernel_rfl) (by kernel_rfl) (by kernel_rfl)
def ic87 : IC :=
(.seq
 (.reg 0 [⟨(some 8), none, (.q (.mov (.c (.int .i64 0))))⟩] [0, 1, 2, 3])
 (.seq
  (.seq
   (.reg 1 [⟨(some 11), none, (.q (.mov (.t 1)))⟩, ⟨(some 12), none, (.q (.len 0 (.t 11)))⟩, ⟨(some 13), none, (.q (.mov (.c (.int .i64 0))))⟩] [0, 2, 3, 11, 12, 13])
   (.block 0
    (.loop
     (.seq
      (.reg 2 [⟨(some 14), none, (.q (.bin .lss (.t 13) (.t 12)))⟩] [0, 2, 3, 11, 12, 13, 14])
      (.seq
       (.cond (.t 14)
        .skip
        (.exit 0))
       (.seq
        (.block 1
         (.seq
          (.reg 3 [⟨(some 15), none, (.q (.iaddr 15 (.t 11) (.t 13)))⟩, ⟨(some 16), none, (.q (.load (some 15) (.t 15)))⟩, ⟨(some 10), none, (.alloc [(.str []), (.int .i64 0), (.str []), (.str []), (.int .u8 0), (.str []), .nilslice, .nilslice, .nilslice, .nilslice, .nilslice, .nilslice, .nilslice, .nilslice, .nilslice])⟩, ⟨none, none, (.store 15 (.t 10) (.t 16))⟩] [0, 2, 3, 10, 11, 12, 13])
          (.seq
           (.seq
            (.reg 4 [⟨(some 17), none, (.q (.load (some 15) (.t 10)))⟩, ⟨(some 18), none, (.pcall 141 [(.t 17)])⟩, ⟨(some 19), none, (.q (.not (.t 18)))⟩] [0, 2, 3, 10, 11, 12, 13, 19])
            (.cond (.t 19)
            (.seq
            (.reg 5 [⟨(some 8), none, (.q (.mov (.c (.int .i64 4))))⟩] [8])
            .ret)
            .skip))
           (.seq
            (.dreg 6 [⟨(some 20), none, (.q (.mov (.t 0)))⟩, ⟨(some 21), none, (.q (.nchk (.t 20)))⟩, ⟨(some 22), none, (.q (.faddr 2 (.t 21)))⟩, ⟨(some 23), none, (.q (.load none (.t 22)))⟩, ⟨(some 24), none, (.q (.faddr 0 (.t 10)))⟩, ⟨(some 25), none, (.q (.load none (.t 24)))⟩, ⟨(some 26), none, (.q (.mov (.t 0)))⟩, ⟨(some 27), none, (.q (.nchk (.t 26)))⟩, ⟨(some 28), none, (.q (.faddr 2 (.t 27)))⟩, ⟨(some 29), none, (.q (.load none (.t 28)))⟩, ⟨(some 30), none, (.q (.faddr 0 (.t 10)))⟩, ⟨(some 31), none, (.q (.load none (.t 30)))⟩, ⟨(some 32), none, (.q (.lkp 2 .nilslice false (.t 29) (.t 31)))⟩, ⟨(some 33), none, (.q (.mov (.t 0)))⟩, ⟨(some 34), none, (.q (.nchk (.t 33)))⟩, ⟨(some 35), none, (.q (.faddr 0 (.t 34)))⟩, ⟨(some 36), none, (.q (.load none (.t 35)))⟩, ⟨(some 37), none, (.q (.len 0 (.t 36)))⟩, ⟨(some 38), none, (.bslt 1 1 [(.int .i64 0)] [⟨0, ⟨1, (.t 37)⟩⟩])⟩, ⟨(some 39), none, (.app 1 (.t 32) (.t 38))⟩, ⟨none, none, (.mupd 2 (.t 23) (.t 25) (.t 39))⟩] true [0, 2, 3, 10, 11, 12, 13])
            (.dreg 7 [⟨(some 40), none, (.q (.mov (.t 0)))⟩, ⟨(some 41), none, (.q (.mov (.t 0)))⟩, ⟨(some 42), none, (.q (.nchk (.t 41)))⟩, ⟨(some 43), none, (.q (.faddr 0 (.t 42)))⟩, ⟨(some 44), none, (.q (.load none (.t 43)))⟩, ⟨(some 45), none, (.q (.load (some 15) (.t 10)))⟩, ⟨(some 46), none, (.pcall 69 [(.t 45)])⟩, ⟨(some 47), none, (.q (.mov (.t 2)))⟩, ⟨(some 48), none, (.q (.mov (.t 3)))⟩, ⟨(some 49), none, (.q (.bld [(.str []), (.int .i64 0), (.str []), (.str []), (.int .u8 0), (.str []), .nilslice, .nilslice, .nilslice, .nilslice, .nilslice, .nilslice, .nilslice, .nilslice, .nilslice, (.int .i64 0), (.int .i64 0)] [⟨0, ⟨15, (.t 46)⟩⟩, ⟨15, ⟨1, (.t 47)⟩⟩, ⟨16, ⟨1, (.t 48)⟩⟩]))⟩, ⟨(some 50), none, (.bslt 17 1 [(.str []), (.int .i64 0), (.str []), (.str []), (.int .u8 0), (.str []), .nilslice, .nilslice, .nilslice, .nilslice, .nilslice, .nilslice, .nilslice, .nilslice, .nilslice, (.int .i64 0), (.int .i64 0)] [⟨0, ⟨17, (.t 49)⟩⟩])⟩, ⟨(some 51), none, (.app 17 (.t 44) (.t 50))⟩, ⟨(some 52), none, (.q (.nchk (.t 40)))⟩, ⟨(some 53), none, (.q (.faddr 0 (.t 52)))⟩, ⟨none, none, (.store 1 (.t 53) (.t 51))⟩] true [0, 2, 3, 11, 12, 13])))))
        (.reg 8 [⟨(some 54), none, (.q (.bin .add (.t 13) (.c (.int .i64 1))))⟩, ⟨(some 13), none, (.q (.mov (.t 54)))⟩] [0, 2, 3, 11, 12, 13])))))))
  (.seq
   (.reg 9 [⟨(some 8), none, (.q (.mov (.c (.int .i64 0))))⟩] [8])
   .ret)))
theorem fok87 : FOK Tryz.prog 87 (55, ic87, [(.t 8)]) := .mk (pf := ([1000038, 1000050] ++ allF0)) (an := [(0, [0, 1, 2, 3]), (1, [0, 2, 3, 11, 12, 13]), (2, [0, 2, 3, 11, 12, 13, 14]), (3, [0, 2, 3, 10, 11, 12, 13]), (4, [0, 2, 3, 10, 11, 12, 13, 19]), (5, [8]), (6, [0, 2, 3, 10, 11, 12, 13]), (7, [0, 2, 3, 11, 12, 13]), (8, [0, 2, 3, 11, 12, 13]), (9, [8])]) (by kernel_rfl) (fnOK_of Tryz.func87 (by kernel_rfl) (by kernel_rfl) (by kernel_rfl))
def ic88 : IC :=
 (.seq
 (.reg 0 [oK 1 (.boxt 0), oM 2 (cB false)] [1])
 (.seq
 (.seq
 (.reg 1 [oQ 4 (.faddr 0 1), oQ 5 (.load none 4), oK 6 (.call 142 [5]), oQ 7 (.not 6), oM 8 7, gQ 9 8 false (.faddr 0 1), gQ 10 8 false (.load none 9), gK 11 8 false (.call 143 [10]), oQ 12 (.pick 8 (cB true) 11), oM 13 12, gQ 14 13 false (.faddr 1 1), gQ 15 13 false (.load (some 3) 14), gK 16 13 false (.call 144 [15, (cB false)]), gQ 17 13 false (.not 16), oQ 18 (.pick 13 (cB true) 17), oM 19 18, gQ 20 19 false (.faddr 4 1), gQ 21 19 false (.load none 20), gK 22 19 false (.call 145 [21]), gQ 23 19 false (.bin .eql 22 (.c (.str []))), oQ 24 (.pick 19 (cB true) 23), oM 25 24, gQ 26 25 false (.faddr 5 1), gQ 27 25 false (.load none 26), gQ 28 25 false (.len 1 27), gQ 29 25 false (.bin .gtr 28 (cI 64)), oQ 30 (.pick 25 (cB true) 29), oM 31 30, gQ 32 31 false (.faddr 14 1), gQ 33 31 false (.load none 32), gQ 34 31 false (.len 0 33), gQ 35 31 false (.bin .gtr 34 (cI 32)), oQ 36 (.pick 31 (cB true) 35)] [1, 36])
 (.cond 36
 (.seq
 (.reg 2 [oM 2 (cB false)] [2])
 .ret)
 .skip))
 (.seq
 (.seq
 (.reg 3 [oM 3 (cI 0)] [1, 3])
 (.block 0
 (.loop
 (.seq
 (.seq
 (.reg 4 [oM 37 3, oQ 38 (.faddr 14 1), oQ 39 (.load none 38), oQ 40 (.len 0 39), oQ 41 (.bin .lss 37 40)] [1, 3, 41])
 (.cond 41
 .skip
 (.exit 0)))
 (.seq
 (.block 1
 (.seq
 (.dreg 6 [oQ 44 (.faddr 14 1), oQ 45 (.load none 44), oM 46 3, oQ 47 (.iaddr 1 45 46), oQ 48 (.load none 47), oK 49 (.call 143 [48]), oQ 50 (.not 49), oM 51 50, gQ 52 51 false (.mov 3), gQ 53 51 false (.bin .gtr 52 (cI 0)), gQ 54 51 false (.mov 53), gQ 55 54 true (.faddr 14 1), gQ 56 54 true (.load none 55), gQ 57 54 true (.mov 3), gQ 58 54 true (.bin .sub 57 (cI 1)), gQ 59 54 true (.iaddr 1 56 58), gQ 60 54 true (.load none 59), gQ 61 54 true (.faddr 14 1), gQ 62 54 true (.load none 61), gQ 63 54 true (.mov 3), gQ 64 54 true (.iaddr 1 62 63), gQ 65 54 true (.load none 64), gQ 66 54 true (.bin .geq 60 65), gQ 67 51 false (.pick 54 66 (cB false)), oQ 68 (.pick 51 (cB true) 67)] false [1, 3, 68])
 (.cond 68
 (.seq
 (.reg 7 [oM 2 (cB false)] [2])
 .ret)
 .skip)))
 (.reg 5 [oM 42 3, oQ 43 (.bin .add 42 (cI 1)), oM 3 43] [1, 3]))))))
 (.seq
 (.reg 8 [oQ 69 (.faddr 6 1), oQ 70 (.load none 69), oK 71 (.call 146 [70]), oM 72 71, gQ 73 72 true (.faddr 9 1), gQ 74 72 true (.load none 73), gK 75 72 true (.call 146 [74]), oQ 76 (.pick 72 75 (cB false)), oM 77 76, gQ 78 77 true (.faddr 7 1), gQ 79 77 true (.load none 78), gK 80 77 true (.call 147 [79, (.c (zU 1))]), oQ 81 (.pick 77 80 (cB false)), oM 82 81, gQ 83 82 true (.faddr 10 1), gQ 84 82 true (.load none 83), gK 85 82 true (.call 147 [84, (.c (zU 1))]), oQ 86 (.pick 82 85 (cB false)), oM 87 86, gQ 88 87 true (.faddr 12 1), gQ 89 87 true (.load none 88), gK 90 87 true (.call 147 [89, (.c (zU 1))]), oQ 91 (.pick 87 90 (cB false)), oM 92 91, gQ 93 92 true (.faddr 8 1), gQ 94 92 true (.load none 93), gK 95 92 true (.call 147 [94, (.c (zU 2))]), oQ 96 (.pick 92 95 (cB false)), oM 97 96, gQ 98 97 true (.faddr 11 1), gQ 99 97 true (.load none 98), gK 100 97 true (.call 147 [99, (.c (zU 3))]), oQ 101 (.pick 97 100 (cB false)), oM 102 101, gQ 103 102 true (.faddr 13 1), gQ 104 102 true (.load none 103), gK 105 102 true (.call 147 [104, (.c (zU 3))]), oQ 106 (.pick 102 105 (cB false)), oM 2 106] [2])
 .ret))))
theorem fok88 : FOK Tryz.prog 88 (107, ic88, [(.t 2)]) := fokA [1000001] Tryz.func88 (by kernel_rfl) (by kernel_rfl) (by kernel_rfl) (by kernel_rfl)
def ic89 : IC :=
(.seq
 (.reg 0 [⟨(some 1), none, (.boxt (.t 0))⟩, ⟨(some 2), none, (.alloc [(.str []), (.int .i64 0), (.str []), (.str []), (.int .u8 0), (.str []), .nilslice, .nilslice, .nilslice, .nilslice, .nilslice, .nilslice, .nilslice, .nilslice, .nilslice])⟩] [1, 2])
 (.seq
  (.dreg 1 [⟨(some 3), none, (.q (.faddr 0 (.t 1)))⟩, ⟨(some 4), none, (.q (.load none (.t 3)))⟩, ⟨(some 5), none, (.q (.faddr 1 (.t 1)))⟩, ⟨(some 6), none, (.q (.load (some 3) (.t 5)))⟩, ⟨(some 7), none, (.q (.faddr 4 (.t 1)))⟩, ⟨(some 8), none, (.q (.load none (.t 7)))⟩, ⟨(some 9), none, (.q (.faddr 5 (.t 1)))⟩, ⟨(some 10), none, (.q (.load none (.t 9)))⟩, ⟨(some 11), none, (.bsl 5 0 [(.str []), (.int .u8 0), (.int .i64 0), (.str []), (.str [])] [])⟩, ⟨(some 12), none, (.q (.faddr 6 (.t 1)))⟩, ⟨(some 13), none, (.q (.load none (.t 12)))⟩, ⟨(some 14), none, (.app 5 (.t 11) (.t 13))⟩, ⟨(some 15), none, (.q (.faddr 7 (.t 1)))⟩, ⟨(some 16), none, (.q (.load none (.t 15)))⟩, ⟨(some 17), none, (.pcall 148 [(.t 16)])⟩, ⟨(some 18), none, (.q (.faddr 8 (.t 1)))⟩, ⟨(some 19), none, (.q (.load none (.t 18)))⟩, ⟨(some 20), none, (.pcall 148 [(.t 19)])⟩, ⟨(some 21), none, (.bsl 5 0 [(.str []), (.int .u8 0), (.int .i64 0), (.str []), (.str [])] [])⟩, ⟨(some 22), none, (.q (.faddr 9 (.t 1)))⟩, ⟨(some 23), none, (.q (.load none (.t 22)))⟩, ⟨(some 24), none, (.app 5 (.t 21) (.t 23))⟩, ⟨(some 25), none, (.q (.faddr 10 (.t 1)))⟩, ⟨(some 26), none, (.q (.load none (.t 25)))⟩, ⟨(some 27), none, (.pcall 148 [(.t 26)])⟩, ⟨(some 28), none, (.q (.faddr 11 (.t 1)))⟩, ⟨(some 29), none, (.q (.load none (.t 28)))⟩, ⟨(some 30), none, (.pcall 148 [(.t 29)])⟩, ⟨(some 31), none, (.q (.faddr 12 (.t 1)))⟩, ⟨(some 32), none, (.q (.load none (.t 31)))⟩, ⟨(some 33), none, (.pcall 148 [(.t 32)])⟩, ⟨(some 34), none, (.q (.faddr 13 (.t 1)))⟩, ⟨(some 35), none, (.q (.load none (.t 34)))⟩, ⟨(some 36), none, (.pcall 148 [(.t 35)])⟩, ⟨(some 37), none, (.bsl 1 0 [(.str [])] [])⟩, ⟨(some 38), none, (.q (.faddr 14 (.t 1)))⟩, ⟨(some 39), none, (.q (.load none (.t 38)))⟩, ⟨(some 40), none, (.app 1 (.t 37) (.t 39))⟩, ⟨(some 41), none, (.q (.bld [(.str []), (.int .i64 0), (.str []), (.str []), (.int .u8 0), (.str []), .nilslice, .nilslice, .nilslice, .nilslice, .nilslice, .nilslice, .nilslice, .nilslice, .nilslice] [⟨0, ⟨1, (.t 4)⟩⟩, ⟨1, ⟨3, (.t 6)⟩⟩, ⟨4, ⟨1, (.t 8)⟩⟩, ⟨5, ⟨1, (.t 10)⟩⟩, ⟨6, ⟨1, (.t 14)⟩⟩, ⟨7, ⟨1, (.t 17)⟩⟩, ⟨8, ⟨1, (.t 20)⟩⟩, ⟨9, ⟨1, (.t 24)⟩⟩, ⟨10, ⟨1, (.t 27)⟩⟩, ⟨11, ⟨1, (.t 30)⟩⟩, ⟨12, ⟨1, (.t 33)⟩⟩, ⟨13, ⟨1, (.t 36)⟩⟩, ⟨14, ⟨1, (.t 40)⟩⟩]))⟩, ⟨none, none, (.store 15 (.t 2) (.t 41))⟩] true [2])
  .ret))
theorem fok89 : FOK Tryz.prog 89 (42, ic89, [(.cell (some 15) 2)]) := .mk (pf := ([1000001] ++ allF0)) (an := [(0, [1, 2]), (1, [2])]) (by kernel_rfl) (fnOK_of Tryz.func89 (by kernel_rfl) (by kernel_rfl) (by kernel_rfl))
def ic90 : IC :=
 (.seq
 (.reg 0 [oM 2 (cB false)] [0])
 (.seq
 (.reg 1 [oM 3 0, oK 4 (.call 149 [3]), oM 5 4, gQ 6 5 true (.mov 0), gQ 7 5 true (.bin .neq 6 (.c (zU 1))), oQ 8 (.pick 5 7 (cB false)), oM 2 8] [2])
 .ret))
theorem fok90 : FOK Tryz.prog 90 (9, ic90, [(.t 2)]) := fokA [] Tryz.func90 (by kernel_rfl) (by kernel_rfl) (by kernel_rfl) (by kernel_rfl)
def ic91 : IC :=
 (.seq
 (.reg 0 [oM 4 (cB false)] [0, 1])
 (.seq
 (.reg 1 [oM 5 0, oM 6 1, oK 7 (.call 150 [5, 6]), oQ 8 (.bin .geq 7 (cI 0)), oM 4 8] [4])
 .ret))
theorem fok91 : FOK Tryz.prog 91 (9, ic91, [(.t 4)]) := fokA [] Tryz.func91 (by kernel_rfl) (by kernel_rfl) (by kernel_rfl) (by kernel_rfl)
def ic92 : IC :=
 (.seq
 (.reg 0 [oK 1 (.boxt 0), oM 2 (cB false)] [1])
 (.seq
 (.reg 1 [oQ 3 (.faddr 0 1), oQ 4 (.load none 3), oQ 5 (.bin .lss 4 (.c (zU 1))), oM 6 5, gQ 7 6 false (.faddr 0 1), gQ 8 6 false (.load none 7), gQ 9 6 false (.bin .gtr 8 (.c (zU 4))), oQ 10 (.pick 6 (cB true) 9), oM 11 10, gQ 12 11 false (.faddr 1 1), gQ 13 11 false (.load (some 5) 12), gK 14 11 false (.call 93 [13]), gQ 15 11 false (.not 14), oQ 16 (.pick 11 (cB true) 15), oM 2 16] [2])
 .ret))
theorem fok92 : FOK Tryz.prog 92 (17, ic92, [(.t 2)]) := fokA [1000001] Tryz.func92 (by kernel_rfl) (by kernel_rfl) (by kernel_rfl) (by kernel_rfl)
def ic93 : IC :=
(.seq
 (.reg 0 [⟨(some 1), none, (.boxt (.t 0))⟩, ⟨(some 2), none, (.q (.mov (.c (.bool false))))⟩] [1])
 (.seq
  (.block 0
   (.seq
    (.reg 1 [⟨(some 4), none, (.q (.faddr 0 (.t 1)))⟩, ⟨(some 5), none, (.q (.load none (.t 4)))⟩, ⟨(some 6), none, (.call 151 [(.t 5)])⟩, ⟨(some 7), none, (.q (.not (.t 6)))⟩, ⟨(some 8), none, (.q (.mov (.t 7)))⟩, ⟨(some 9), (some ⟨8, false⟩), (.q (.faddr 1 (.t 1)))⟩, ⟨(some 10), (some ⟨8, false⟩), (.q (.load none (.t 9)))⟩, ⟨(some 11), (some ⟨8, false⟩), (.call 152 [(.t 10)])⟩, ⟨(some 12), (some ⟨8, false⟩), (.q (.not (.t 11)))⟩, ⟨(some 13), none, (.q (.pick (.t 8) (.c (.bool true)) (.t 12)))⟩, ⟨(some 3), none, (.q (.mov (.t 13)))⟩] [1, 3])
    (.cond (.t 3)
     (.seq
      (.reg 2 [⟨(some 2), none, (.q (.mov (.c (.bool false))))⟩] [2])
      .ret)
     (.seq
      (.reg 3 [⟨(some 15), none, (.q (.faddr 1 (.t 1)))⟩, ⟨(some 16), none, (.q (.load none (.t 15)))⟩, ⟨(some 17), none, (.q (.bin .eql (.t 16) (.c (.int .u8 0))))⟩, ⟨(some 14), none, (.q (.mov (.t 17)))⟩] [1, 14])
      (.cond (.t 14)
       (.seq
        (.reg 4 [⟨(some 18), none, (.q (.faddr 2 (.t 1)))⟩, ⟨(some 19), none, (.q (.load (some 3) (.t 18)))⟩, ⟨(some 20), none, (.q (.bld [(.int .i64 0), (.str []), (.str [])] []))⟩, ⟨(some 21), none, (.q (.eqs [1, 2, 2] true false (.t 19) (.t 20)))⟩, ⟨(some 2), none, (.q (.mov (.t 21)))⟩] [2])
        .ret)
       .skip)))))
  (.seq
   (.reg 5 [⟨(some 22), none, (.q (.faddr 0 (.t 1)))⟩, ⟨(some 23), none, (.q (.load none (.t 22)))⟩, ⟨(some 24), none, (.call 153 [(.t 23)])⟩, ⟨(some 25), none, (.q (.not (.t 24)))⟩, ⟨(some 26), none, (.q (.mov (.t 25)))⟩, ⟨(some 27), (some ⟨26, true⟩), (.q (.faddr 2 (.t 1)))⟩, ⟨(some 28), (some ⟨26, true⟩), (.q (.load (some 3) (.t 27)))⟩, ⟨(some 29), (some ⟨26, true⟩), (.call 154 [(.t 28), (.c (.bool true))])⟩, ⟨(some 30), none, (.q (.pick (.t 26) (.t 29) (.c (.bool false))))⟩, ⟨(some 2), none, (.q (.mov (.t 30)))⟩] [2])
   .ret)))
theorem fok93 : FOK Tryz.prog 93 (31, ic93, [(.t 2)]) := .mk (pf := [1000001]) (an := [(0, [1]), (1, [1, 3]), (2, [2]), (3, [1, 14]), (4, [2]), (5, [2])]) (by kernel_rfl) (fnOK_of Tryz.func93 (by kernel_rfl) (by kernel_rfl) (by kernel_rfl))
def ic94 : IC :=
 (.seq
 (.reg 0 [oM 4 (cB false)] [0, 1])
 (.seq
 (.reg 1 [oM 5 0, oM 6 1, oK 7 (.call 155 [5, 6]), oQ 8 (.bin .geq 7 (cI 0)), oM 4 8] [4])
 .ret))
theorem fok94 : FOK Tryz.prog 94 (9, ic94, [(.t 4)]) := fokA [] Tryz.func94 (by kernel_rfl) (by kernel_rfl) (by kernel_rfl) (by kernel_rfl)
def ic95 : IC :=
 (.seq
 (.reg 0 [oK 3 (.boxt 0), oM 4 (cB false)] [1, 2, 3])
 (.seq
 (.oreg 1 [(0, oQ 5 (.load (some 2) 3), 0), (1, oQ 6 (.faddr 2 1), 0), (2, oQ 7 (.load none 6), 0), (3, oQ 8 (.len 0 7), 0), (4, oQ 9 (.load none 2), 0), (5, oK 10 (.call 73 [9]), 5), (6, oK 11 (.call 96 [5, 8, 10]), 0), (7, oQ 12 (.not 11), 0), (8, oM 4 12, 0)] [4])
 .ret))
theorem fok95 : FOK Tryz.prog 95 (13, ic95, [(.t 4)]) := fokA [1000003] Tryz.func95 (by kernel_rfl) (by kernel_rfl) (by kernel_rfl) (by kernel_rfl)
def ic96 : IC :=
 (.seq
 (.reg 0 [oK 3 (.boxt 0), oM 6 (cB false)] [1, 2, 3])
 (.seq
 (.reg 1 [oM 8 2, oM 7 8] [1, 3, 7])
 (.seq
 (.seq
 (.reg 2 [oQ 9 (.faddr 0 3), oQ 10 (.load none 9), oQ 11 (.bin .eql 10 (.c (zU 1)))] [1, 3, 7, 11])
 (.cond 11
 (.reg 3 [oM 12 1, oM 7 12] [3, 7])
 .skip))
 (.seq
 (.reg 4 [oQ 13 (.faddr 0 3), oQ 14 (.load none 13), oQ 15 (.bin .geq 14 (.c (zU 1))), oM 16 15, gQ 17 16 true (.faddr 0 3), gQ 18 16 true (.load none 17), gQ 19 16 true (.bin .leq 18 (.c (zU 4))), oQ 20 (.pick 16 19 (cB false)), oM 21 20, gQ 22 21 true (.faddr 1 3), gQ 23 21 true (.load none 22), gQ 24 21 true (.bin .geq 23 (cI 0)), oQ 25 (.pick 21 24 (cB false)), oM 26 25, gQ 27 26 true (.faddr 1 3), gQ 28 26 true (.load none 27), gQ 29 26 true (.mov 7), gQ 30 26 true (.bin .lss 28 29), oQ 31 (.pick 26 30 (cB false)), oM 6 31] [6])
 .ret))))
theorem fok96 : FOK Tryz.prog 96 (32, ic96, [(.t 6)]) := fokA [1000003] Tryz.func96 (by kernel_rfl) (by kernel_rfl) (by kernel_rfl) (by kernel_rfl)
def ic97 : IC :=
 (.seq
 (.reg 0 [oK 1 (.box 0), oK 2 (.alloc [(zU 0), (.bool false), .nilslice, .nilslice, (zI 0)])] [1, 2])
 (.seq
 (.oreg 1 [(0, oQ 3 (.faddr 2 1), 0), (1, oQ 4 (.load none 3), 0), (3, oQ 6 (.faddr 3 1), 0), (4, oQ 7 (.load none 6), 0), (2, oK 5 (.call 156 [4]), 16), (6, oQ 9 (.faddr 2 1), 0), (5, oK 8 (.call 157 [7]), 0), (7, oN (.store 1 9 5), 0), (8, oQ 10 (.faddr 3 1), 0), (9, oN (.store 1 10 8), 0)] [1, 2])
 (.seq
 (.reg 2 [oQ 11 (.load (some 5) 1), oN (.store 5 2 11)] [2])
 .ret)))
theorem fok97 : FOK Tryz.prog 97 (12, ic97, [(.cell (some 5) 2)]) := fokA [] Tryz.func97 (by kernel_rfl) (by kernel_rfl) (by kernel_rfl) (by kernel_rfl)
def ic98 : IC :=
 (.seq
 (.reg 0 [oM 2 (cB false)] [0])
 (.seq
 (.reg 1 [oM 3 0, oQ 4 (.bin .geq 3 (.c (zU 2))), oM 5 4, gQ 6 5 true (.mov 0), gQ 7 5 true (.bin .leq 6 (.c (zU 4))), oQ 8 (.pick 5 7 (cB false)), oM 2 8] [2])
 .ret))
theorem fok98 : FOK Tryz.prog 98 (9, ic98, [(.t 2)]) := fokA [] Tryz.func98 (by kernel_rfl) (by kernel_rfl) (by kernel_rfl) (by kernel_rfl)
def ic99 : IC :=
 (.seq
 (.reg 0 [oK 1 (.boxt 0), oM 2 (cB false)] [1])
 (.seq
 (.seq
 (.reg 1 [oQ 3 (.faddr 0 1), oQ 4 (.load none 3), oK 5 (.call 142 [4]), oQ 6 (.not 5), oM 7 6, gQ 8 7 false (.faddr 1 1), gQ 9 7 false (.load none 8), gK 10 7 false (.call 158 [9]), gQ 11 7 false (.not 10), oQ 12 (.pick 7 (cB true) 11)] [1, 12])
 (.cond 12
 (.seq
 (.reg 2 [oM 2 (cB false)] [2])
 .ret)
 .skip))
 (.seq
 (.seq
 (.reg 3 [oQ 13 (.faddr 1 1), oQ 14 (.load none 13), oQ 15 (.bin .eql 14 (.c (zU 0)))] [1, 15])
 (.cond 15
 (.seq
 (.reg 4 [oQ 16 (.faddr 2 1), oQ 17 (.load (some 3) 16), oQ 18 (.bld [(zI 0), (.str []), (.str [])] []), oQ 19 (.eqs [1, 2, 2] true false 17 18), oM 2 19] [2])
 .ret)
 .skip))
 (.seq
 (.reg 5 [oQ 20 (.faddr 0 1), oQ 21 (.load none 20), oK 22 (.call 143 [21]), oQ 23 (.not 22), oM 24 23, gQ 25 24 true (.faddr 2 1), gQ 26 24 true (.load (some 3) 25), gK 27 24 true (.call 144 [26, (cB true)]), oQ 28 (.pick 24 27 (cB false)), oM 2 28] [2])
 .ret))))
theorem fok99 : FOK Tryz.prog 99 (29, ic99, [(.t 2)]) := fokA [1000001] Tryz.func99 (by kernel_rfl) (by kernel_rfl) (by kernel_rfl) (by kernel_rfl)
def ic102 : IC :=
 (.seq
 (.reg 0 [oK 2 (.boxt 0), oM 4 (.c .nilslice)] [1, 2])
 (.seq
 (.seq
 (.reg 1 [oQ 7 (.load none 2), oM 8 1, oK 9 (.call 122 [7, 8]), oQ 10 (.not 9)] [1, 2, 10])
 (.cond 10
 (.seq
 (.reg 2 [oM 4 (.c .nilslice)] [4])
 .ret)
 .skip))
 (.seq
 (.reg 3 [oQ 11 (.load none 2), oQ 12 (.nchk 11), oQ 13 (.faddr 2 12), oQ 14 (.faddr 2 13), oQ 15 (.load none 14), oM 16 1, oQ 17 (.iaddr 6 15 16), oQ 18 (.load (some 6) 17), oK 5 (.alloc [(zU 0), (.str []), (zU 0), (zI 0), (.str []), (.str [])]), oN (.store 6 5 18)] [2, 5])
 (.seq
 (.seq
 (.reg 4 [oQ 19 (.faddr 0 5), oQ 20 (.load none 19), oQ 21 (.bin .eql 20 (.c (zU 1)))] [2, 5, 21])
 (.cond 21
 (.seq
 (.dreg 5 [oQ 22 (.load none 2), oQ 23 (.nchk 22), oQ 24 (.faddr 1 23), oQ 25 (.load none 24), oQ 26 (.faddr 1 5), oQ 27 (.load (some 5) 26), oK 28 (.call 159 [25, 27]), oM 4 28] false [4])
 .ret)
 .skip))
 (.seq
 (.dreg 6 [oQ 29 (.load none 2), oQ 30 (.nchk 29), oQ 31 (.faddr 1 30), oQ 32 (.load none 31), oQ 33 (.faddr 1 5), oQ 34 (.load (some 5) 33), oK 35 (.call 82 [32, 34]), oM 6 35] false [2, 5, 6])
 (.seq
 (.seq
 (.reg 7 [oQ 36 (.faddr 0 5), oQ 37 (.load none 36), oQ 38 (.bin .eql 37 (.c (zU 2)))] [2, 6, 38])
 (.cond 38
 (.seq
 (.reg 8 [oM 39 6, oM 4 39] [4])
 .ret)
 .skip))
 (.seq
 (.reg 9 [oM 40 6, oQ 41 (.mkf 160 [] [2]), oK 42 (.call 126 [40, 41]), oM 4 42] [4])
 .ret)))))))
theorem fok102 : FOK Tryz.prog 102 (43, ic102, [(.t 4)]) := fokA [1000002] Tryz.func102 (by kernel_rfl) (by kernel_rfl) (by kernel_rfl) (by kernel_rfl)
def ic103 : IC :=
 (.seq
 (.reg 0 [oK 2 (.boxt 0), oM 4 (.c .nilslice)] [1, 2])
 (.seq
 (.seq
 (.reg 1 [oQ 5 (.load none 2), oM 6 1, oK 7 (.call 119 [5, 6]), oQ 8 (.not 7)] [1, 2, 8])
 (.cond 8
 (.seq
 (.reg 2 [oM 4 (.c .nilslice)] [4])
 .ret)
 .skip))
 (.seq
 (.reg 3 [oQ 9 (.load none 2), oM 10 1, oK 11 (.call 84 [9, 10]), oQ 12 (.mkf 161 [] [2]), oK 13 (.call 126 [11, 12]), oM 4 13] [4])
 .ret)))
theorem fok103 : FOK Tryz.prog 103 (14, ic103, [(.t 4)]) := fokA [1000002] Tryz.func103 (by kernel_rfl) (by kernel_rfl) (by kernel_rfl) (by kernel_rfl)
def ic104 : IC :=
(.seq
 (.reg 0 [⟨(some 2), none, (.boxt (.t 0))⟩, ⟨(some 3), none, (.boxt (.t 1))⟩, ⟨(some 4), none, (.alloc [(.int .i64 0)])⟩] [2, 3, 4])
 (.seq
  (.block 0
   (.seq
    (.reg 1 [⟨(some 9), none, (.q (.load none (.t 3)))⟩, ⟨(some 10), none, (.q (.bin .lss (.t 9) (.c (.int .u8 1))))⟩, ⟨(some 11), none, (.q (.mov (.t 10)))⟩, ⟨(some 12), (some ⟨11, false⟩), (.q (.load none (.t 3)))⟩, ⟨(some 13), (some ⟨11, false⟩), (.q (.bin .gtr (.t 12) (.c (.int .u8 3))))⟩, ⟨(some 14), none, (.q (.pick (.t 11) (.c (.bool true)) (.t 13)))⟩, ⟨(some 8), none, (.q (.mov (.t 14)))⟩] [2, 3, 4, 8])
    (.cond (.t 8)
     (.seq
      (.reg 2 [⟨none, none, (.store 1 (.t 4) (.c (.int .i64 1)))⟩] [4])
      .ret)
     (.seq
      (.reg 3 [⟨(some 16), none, (.q (.load (some 7) (.t 2)))⟩, ⟨(some 17), none, (.call 105 [(.t 16)])⟩, ⟨(some 18), none, (.q (.bin .gtr (.t 17) (.c (.int .i64 24))))⟩, ⟨(some 15), none, (.q (.mov (.t 18)))⟩] [2, 3, 4, 15])
      (.cond (.t 15)
       (.seq
        (.reg 4 [⟨none, none, (.store 1 (.t 4) (.c (.int .i64 40)))⟩] [4])
        .ret)
       (.seq
        (.reg 5 [⟨(some 20), none, (.q (.load (some 7) (.t 2)))⟩, ⟨(some 21), none, (.call 162 [(.t 20)])⟩, ⟨(some 22), none, (.q (.bin .gtr (.t 21) (.c (.int .i64 8))))⟩, ⟨(some 19), none, (.q (.mov (.t 22)))⟩] [2, 3, 4, 19])
        (.cond (.t 19)
         (.seq
          (.reg 6 [⟨none, none, (.store 1 (.t 4) (.c (.int .i64 21)))⟩] [4])
          .ret)
         .skip)))))))
  (.seq
   (.seq
    (.reg 7 [⟨(some 23), none, (.q (.load (some 7) (.t 2)))⟩, ⟨(some 24), none, (.call 163 [(.t 23)])⟩] [3, 4, 24])
    (.block 1
     (.rfunc (.t 24) [25, 26]
      (.seq
       (.reg 8 [⟨(some 5), none, (.alloc [(.int .u8 0), (.str []), (.int .u8 0), (.int .i64 0), (.str []), (.str []), .nilslice])⟩, ⟨none, none, (.store 7 (.t 5) (.t 25))⟩] [3, 4, 5, 26])
       (.reg 9 [⟨(some 6), none, (.q (.mov (.t 26)))⟩] [3, 4, 5, 6]))
      (.block 2
       (.seq
        (.reg 10 [⟨(some 27), none, (.q (.faddr 0 (.t 5)))⟩, ⟨(some 28), none, (.q (.load none (.t 27)))⟩, ⟨(some 29), none, (.call 164 [(.t 28)])⟩, ⟨(some 7), none, (.alloc [(.int .i64 0), (.int .i64 0), (.bool false), (.int .u8 0)])⟩, ⟨none, none, (.store 4 (.t 7) (.t 29))⟩] [3, 4, 5, 6, 7])
        (.block 3
         (.seq
          (.seq
           (.reg 11 [⟨(some 31), none, (.q (.faddr 3 (.t 7)))⟩, ⟨(some 32), none, (.q (.load none (.t 31)))⟩, ⟨(some 33), none, (.q (.load none (.t 3)))⟩, ⟨(some 34), none, (.q (.bin .lss (.t 32) (.t 33)))⟩, ⟨(some 30), none, (.q (.mov (.t 34)))⟩] [4, 5, 6, 7, 30])
           (.cond (.t 30)
            .skip
            (.seq
            (.reg 12 [⟨(some 35), none, (.q (.mov (.t 6)))⟩, ⟨(some 36), none, (.q (.mov (.t 35)))⟩, ⟨(some 37), (some ⟨36, true⟩), (.q (.faddr 2 (.t 7)))⟩, ⟨(some 38), (some ⟨36, true⟩), (.q (.load none (.t 37)))⟩, ⟨(some 39), (some ⟨36, true⟩), (.q (.not (.t 38)))⟩, ⟨(some 40), none, (.q (.pick (.t 36) (.t 39) (.c (.bool false))))⟩, ⟨(some 30), none, (.q (.mov (.t 40)))⟩] [4, 5, 7, 30])
            (.cond (.t 30)
            .skip
            (.seq
            (.reg 13 [⟨(some 41), none, (.q (.faddr 6 (.t 5)))⟩, ⟨(some 42), none, (.q (.load none (.t 41)))⟩, ⟨(some 43), none, (.q (.len 0 (.t 42)))⟩, ⟨(some 44), none, (.q (.faddr 0 (.t 7)))⟩, ⟨(some 45), none, (.q (.load none (.t 44)))⟩, ⟨(some 46), none, (.q (.bin .lss (.t 43) (.t 45)))⟩, ⟨(some 30), none, (.q (.mov (.t 46)))⟩] [4, 5, 7, 30])
            (.cond (.t 30)
            .skip
            (.reg 14 [⟨(some 47), none, (.q (.faddr 6 (.t 5)))⟩, ⟨(some 48), none, (.q (.load none (.t 47)))⟩, ⟨(some 49), none, (.q (.len 0 (.t 48)))⟩, ⟨(some 50), none, (.q (.faddr 1 (.t 7)))⟩, ⟨(some 51), none, (.q (.load none (.t 50)))⟩, ⟨(some 52), none, (.q (.bin .gtr (.t 49) (.t 51)))⟩, ⟨(some 30), none, (.q (.mov (.t 52)))⟩] [4, 5, 30])))))))
          (.cond (.t 30)
           (.seq
            (.reg 15 [⟨none, none, (.store 1 (.t 4) (.c (.int .i64 4)))⟩] [])
            .ret)
           (.seq
            (.seq
            (.reg 16 [⟨(some 54), none, (.q (.faddr 0 (.t 5)))⟩, ⟨(some 55), none, (.q (.load none (.t 54)))⟩, ⟨(some 56), none, (.q (.bin .eql (.t 55) (.c (.int .u8 1))))⟩, ⟨(some 57), none, (.q (.mov (.t 56)))⟩, ⟨(some 58), (some ⟨57, true⟩), (.q (.faddr 1 (.t 5)))⟩, ⟨(some 59), (some ⟨57, true⟩), (.q (.load (some 5) (.t 58)))⟩, ⟨(some 60), (some ⟨57, true⟩), (.call 93 [(.t 59)])⟩, ⟨(some 61), (some ⟨57, true⟩), (.q (.not (.t 60)))⟩, ⟨(some 62), none, (.q (.pick (.t 57) (.t 61) (.c (.bool false))))⟩, ⟨(some 53), none, (.q (.mov (.t 62)))⟩] [4, 5, 53])
            (.cond (.t 53)
            .skip
            (.reg 17 [⟨(some 63), none, (.q (.faddr 0 (.t 5)))⟩, ⟨(some 64), none, (.q (.load none (.t 63)))⟩, ⟨(some 65), none, (.q (.bin .neq (.t 64) (.c (.int .u8 1))))⟩, ⟨(some 66), none, (.q (.mov (.t 65)))⟩, ⟨(some 67), (some ⟨66, true⟩), (.q (.faddr 1 (.t 5)))⟩, ⟨(some 68), (some ⟨66, true⟩), (.q (.load (some 5) (.t 67)))⟩, ⟨(some 69), (some ⟨66, true⟩), (.q (.bld [(.str []), (.int .u8 0), (.int .i64 0), (.str []), (.str [])] []))⟩, ⟨(some 70), (some ⟨66, true⟩), (.q (.eqs [2, 1, 1, 2, 2] true true (.t 68) (.t 69)))⟩, ⟨(some 71), none, (.q (.pick (.t 66) (.t 70) (.c (.bool false))))⟩, ⟨(some 53), none, (.q (.mov (.t 71)))⟩] [4, 53])))
            (.cond (.t 53)
            (.seq
            (.reg 18 [⟨none, none, (.store 1 (.t 4) (.c (.int .i64 4)))⟩] [])
            .ret)
            .skip))))))))))
   (.seq
    (.reg 19 [⟨none, none, (.store 1 (.t 4) (.c (.int .i64 0)))⟩] [4])
    .ret))))
theorem fok104 : FOK Tryz.prog 104 (72, ic104, [(.cell none 4)]) := .mk (pf := [1000002, 1000003]) (an := [(0, [2, 3, 4]), (1, [2, 3, 4, 8]), (2, [4]), (3, [2, 3, 4, 15]), (4, [4]), (5, [2, 3, 4, 19]), (6, [4]), (7, [3, 4, 24]), (8, [3, 4, 5, 26]), (9, [3, 4, 5, 6]), (10, [3, 4, 5, 6, 7]), (11, [4, 5, 6, 7, 30]), (12, [4, 5, 7, 30]), (13, [4, 5, 7, 30]), (14, [4, 5, 30]), (16, [4, 5, 53]), (17, [4, 53]), (19, [4])]) (by kernel_rfl) (fnOK_of Tryz.func104 (by kernel_rfl) (by kernel_rfl) (by kernel_rfl))
def ic105 : IC :=
(.seq
 (.reg 0 [⟨(some 1), none, (.boxt (.t 0))⟩, ⟨(some 2), none, (.q (.mov (.c (.int .i64 0))))⟩] [1, 2])
 (.seq
  (.reg 1 [⟨(some 3), none, (.alloc [(.int .i64 0)])⟩, ⟨none, none, (.store 1 (.t 3) (.c (.int .i64 0)))⟩] [1, 2, 3])
  (.seq
   (.seq
    (.reg 2 [⟨(some 4), none, (.q (.load (some 7) (.t 1)))⟩, ⟨(some 5), none, (.call 163 [(.t 4)])⟩] [2, 3, 5])
    (.block 0
     (.rfunc (.t 5) [6, 7]
      .skip
      (.block 1
       (.reg 3 [⟨(some 8), none, (.q (.load none (.t 3)))⟩, ⟨(some 9), none, (.q (.bin .add (.t 8) (.c (.int .i64 1))))⟩, ⟨none, none, (.store 1 (.t 3) (.t 9))⟩] [])))))
   (.seq
    (.reg 4 [⟨(some 10), none, (.q (.load none (.t 3)))⟩, ⟨(some 2), none, (.q (.mov (.t 10)))⟩] [2])
    .ret))))
theorem fok105 : FOK Tryz.prog 105 (11, ic105, [(.t 2)]) := .mk (pf := [1000001]) (an := [(0, [1, 2]), (1, [1, 2, 3]), (2, [2, 3, 5]), (4, [2])]) (by kernel_rfl) (fnOK_of Tryz.func105 (by kernel_rfl) (by kernel_rfl) (by kernel_rfl))
def ic107 : IC :=
(.seq
 (.reg 0 [⟨(some 2), none, (.q (.mov (.c .nilslice)))⟩] [0])
 (.seq
  (.seq
   (.reg 1 [⟨(some 3), none, (.q (.mov (.t 0)))⟩, ⟨(some 4), none, (.q (.isnil (.slice 3) false (.t 3)))⟩] [0, 4])
   (.cond (.t 4)
    (.seq
     (.reg 2 [⟨(some 2), none, (.q (.mov (.c .nilslice)))⟩] [2])
     .ret)
    .skip))
  (.seq
   (.reg 3 [⟨(some 5), none, (.bsl 1 0 [(.int .i64 0)] [])⟩, ⟨(some 6), none, (.q (.mov (.t 0)))⟩, ⟨(some 7), none, (.app 1 (.t 5) (.t 6))⟩, ⟨(some 2), none, (.q (.mov (.t 7)))⟩] [2])
   .ret)))
theorem fok107 : FOK Tryz.prog 107 (8, ic107, [(.t 2)]) := .mk (pf := []) (an := [(0, [0]), (1, [0, 4]), (2, [2]), (3, [2])]) (by kernel_rfl) (fnOK_of Tryz.func107 (by kernel_rfl) (by kernel_rfl) (by kernel_rfl))
def ic109 : IC :=
(.seq
 (.reg 0 [⟨(some 1), none, (.boxt (.t 0))⟩, ⟨(some 2), none, (.q (.mov (.c .nilmap)))⟩] [1])
 (.seq
  (.reg 1 [⟨(some 8), none, .mkmap⟩, ⟨(some 9), none, (.q (.faddr 0 (.t 1)))⟩, ⟨(some 10), none, (.q (.load none (.t 9)))⟩, ⟨(some 11), none, (.q (.bld [] []))⟩, ⟨none, none, (.mupd 2 (.t 8) (.t 10) (.t 11))⟩, ⟨(some 12), none, (.q (.mov (.t 8)))⟩, ⟨(some 3), none, (.q (.mov (.t 12)))⟩] [1, 3])
  (.seq
   (.seq
    (.reg 2 [⟨(some 13), none, (.q (.faddr 6 (.t 1)))⟩, ⟨(some 14), none, (.q (.load none (.t 13)))⟩, ⟨(some 15), none, (.q (.len 0 (.t 14)))⟩, ⟨(some 16), none, (.q (.mov (.c (.int .i64 0))))⟩] [1, 3, 14, 15, 16])
    (.block 0
     (.loop
      (.seq
       (.reg 3 [⟨(some 17), none, (.q (.bin .lss (.t 16) (.t 15)))⟩] [1, 3, 14, 15, 16, 17])
       (.seq
        (.cond (.t 17)
         .skip
         (.exit 0))
        (.seq
         (.block 1
          (.seq
           (.reg 4 [⟨(some 18), none, (.q (.iaddr 5 (.t 14) (.t 16)))⟩, ⟨(some 19), none, (.q (.load (some 5) (.t 18)))⟩, ⟨(some 5), none, (.alloc [(.str []), (.int .u8 0), (.int .i64 0), (.str []), (.str [])])⟩, ⟨none, none, (.store 5 (.t 5) (.t 19))⟩] [1, 3, 5, 14, 15, 16])
           (.reg 5 [⟨(some 20), none, (.q (.mov (.t 3)))⟩, ⟨(some 21), none, (.q (.faddr 0 (.t 5)))⟩, ⟨(some 22), none, (.q (.load none (.t 21)))⟩, ⟨(some 23), none, (.q (.bld [] []))⟩, ⟨none, none, (.mupd 2 (.t 20) (.t 22) (.t 23))⟩] [1, 3, 14, 15, 16])))
         (.reg 6 [⟨(some 24), none, (.q (.bin .add (.t 16) (.c (.int .i64 1))))⟩, ⟨(some 16), none, (.q (.mov (.t 24)))⟩] [1, 3, 14, 15, 16])))))))
   (.seq
    (.seq
     (.reg 7 [⟨(some 25), none, (.q (.faddr 14 (.t 1)))⟩, ⟨(some 26), none, (.q (.load none (.t 25)))⟩, ⟨(some 27), none, (.q (.len 0 (.t 26)))⟩, ⟨(some 28), none, (.q (.mov (.c (.int .i64 0))))⟩] [3, 26, 27, 28])
     (.block 2
      (.loop
       (.seq
        (.reg 8 [⟨(some 29), none, (.q (.bin .lss (.t 28) (.t 27)))⟩] [3, 26, 27, 28, 29])
        (.seq
         (.cond (.t 29)
          .skip
          (.exit 2))
         (.seq
          (.block 3
           (.seq
            (.reg 9 [⟨(some 30), none, (.q (.iaddr 1 (.t 26) (.t 28)))⟩, ⟨(some 31), none, (.q (.load none (.t 30)))⟩, ⟨(some 7), none, (.q (.mov (.t 31)))⟩] [3, 7, 26, 27, 28])
            (.reg 10 [⟨(some 32), none, (.q (.mov (.t 3)))⟩, ⟨(some 33), none, (.q (.mov (.t 7)))⟩, ⟨(some 34), none, (.q (.bld [] []))⟩, ⟨none, none, (.mupd 2 (.t 32) (.t 33) (.t 34))⟩] [3, 26, 27, 28])))
          (.reg 11 [⟨(some 35), none, (.q (.bin .add (.t 28) (.c (.int .i64 1))))⟩, ⟨(some 28), none, (.q (.mov (.t 35)))⟩] [3, 26, 27, 28])))))))
    (.seq
     (.reg 12 [⟨(some 36), none, (.q (.mov (.t 3)))⟩, ⟨(some 2), none, (.q (.mov (.t 36)))⟩] [2])
     .ret)))))
theorem fok109 : FOK Tryz.prog 109 (37, ic109, [(.t 2)]) := .mk (pf := [1000001]) (an := [(0, [1]), (1, [1, 3]), (2, [1, 3, 14, 15, 16]), (3, [1, 3, 14, 15, 16, 17]), (4, [1, 3, 5, 14, 15, 16]), (5, [1, 3, 14, 15, 16]), (6, [1, 3, 14, 15, 16]), (7, [3, 26, 27, 28]), (8, [3, 26, 27, 28, 29]), (9, [3, 7, 26, 27, 28]), (10, [3, 26, 27, 28]), (11, [3, 26, 27, 28]), (12, [2])]) (by kernel_rfl) (fnOK_of Tryz.func109 (by kernel_rfl) (by kernel_rfl) (by kernel_rfl))
def ic110 : IC :=
(.seq
 (.reg 0 [⟨(some 4), none, (.q (.mov (.c (.bool false))))⟩] [0, 1])
 (.seq
  (.reg 1 [⟨(some 5), none, (.q (.mov (.t 0)))⟩, ⟨(some 6), none, (.q (.mov (.t 1)))⟩, ⟨(some 7), none, (.call 171 [(.t 5), (.t 6)])⟩, ⟨(some 8), none, (.q (.bin .geq (.t 7) (.c (.int .i64 0))))⟩, ⟨(some 4), none, (.q (.mov (.t 8)))⟩] [4])
  .ret))
theorem fok110 : FOK Tryz.prog 110 (9, ic110, [(.t 4)]) := .mk (pf := []) (an := [(0, [0, 1]), (1, [4])]) (by kernel_rfl) (fnOK_of Tryz.func110 (by kernel_rfl) (by kernel_rfl) (by kernel_rfl))
def ic111 : IC :=
(.seq
 (.reg 0 [⟨(some 2), none, (.q (.mov (.c .nilslice)))⟩] [0])
 (.seq
  (.seq
   (.reg 1 [⟨(some 3), none, (.q (.mov (.t 0)))⟩, ⟨(some 4), none, (.q (.isnil (.slice 44) false (.t 3)))⟩] [0, 4])
   (.cond (.t 4)
    (.seq
     (.reg 2 [⟨(some 2), none, (.q (.mov (.c .nilslice)))⟩] [2])
     .ret)
    .skip))
  (.seq
   (.reg 3 [⟨(some 5), none, (.bsl 5 0 [(.str []), (.int .u8 0), (.int .i64 0), (.str []), (.str [])] [])⟩, ⟨(some 6), none, (.q (.mov (.t 0)))⟩, ⟨(some 7), none, (.app 5 (.t 5) (.t 6))⟩, ⟨(some 2), none, (.q (.mov (.t 7)))⟩] [2])
   .ret)))
theorem fok111 : FOK Tryz.prog 111 (8, ic111, [(.t 2)]) := .mk (pf := []) (an := [(0, [0]), (1, [0, 4]), (2, [2]), (3, [2])]) (by kernel_rfl) (fnOK_of Tryz.func111 (by kernel_rfl) (by kernel_rfl) (by kernel_rfl))
def ic112 : IC :=
(.seq
 (.reg 0 [⟨(some 2), none, (.q (.mov (.c .nilslice)))⟩] [0])
 (.seq
  (.seq
   (.reg 1 [⟨(some 3), none, (.q (.mov (.t 0)))⟩, ⟨(some 4), none, (.q (.isnil (.slice 9) false (.t 3)))⟩] [0, 4])
   (.cond (.t 4)
    (.seq
     (.reg 2 [⟨(some 2), none, (.q (.mov (.c .nilslice)))⟩] [2])
     .ret)
    .skip))
  (.seq
   (.reg 3 [⟨(some 5), none, (.bsl 1 0 [(.str [])] [])⟩, ⟨(some 6), none, (.q (.mov (.t 0)))⟩, ⟨(some 7), none, (.app 1 (.t 5) (.t 6))⟩, ⟨(some 2), none, (.q (.mov (.t 7)))⟩] [2])
   .ret)))
theorem fok112 : FOK Tryz.prog 112 (8, ic112, [(.t 2)]) := .mk (pf := []) (an := [(0, [0]), (1, [0, 4]), (2, [2]), (3, [2])]) (by kernel_rfl) (fnOK_of Tryz.func112 (by kernel_rfl) (by kernel_rfl) (by kernel_rfl))
def ic113 : IC :=
(.seq
 (.reg 0 [⟨(some 2), none, (.q (.mov (.c .nilslice)))⟩] [0])
 (.seq
  (.seq
   (.reg 1 [⟨(some 3), none, (.q (.mov (.t 0)))⟩, ⟨(some 4), none, (.q (.isnil (.slice 46) false (.t 3)))⟩] [0, 4])
   (.cond (.t 4)
    (.seq
     (.reg 2 [⟨(some 2), none, (.q (.mov (.c .nilslice)))⟩] [2])
     .ret)
    .skip))
  (.seq
   (.reg 3 [⟨(some 5), none, (.bsl 7 0 [(.int .u8 0), (.str []), (.int .u8 0), (.int .i64 0), (.str []), (.str []), .nilslice] [])⟩, ⟨(some 6), none, (.q (.mov (.t 0)))⟩, ⟨(some 7), none, (.app 7 (.t 5) (.t 6))⟩, ⟨(some 2), none, (.q (.mov (.t 7)))⟩] [2])
   .ret)))
theorem fok113 : FOK Tryz.prog 113 (8, ic113, [(.t 2)]) := .mk (pf := []) (an := [(0, [0]), (1, [0, 4]), (2, [2]), (3, [2])]) (by kernel_rfl) (fnOK_of Tryz.func113 (by kernel_rfl) (by kernel_rfl) (by kernel_rfl))
def ic114 : IC :=
(.seq
 (.reg 0 [⟨(some 1), none, (.boxt (.t 0))⟩, ⟨(some 2), none, (.alloc [(.int .u8 0), (.str []), (.int .u8 0), (.int .i64 0), (.str []), (.str []), .nilslice])⟩] [1, 2])
 (.seq
  (.reg 1 [⟨(some 6), none, (.q (.faddr 0 (.t 1)))⟩, ⟨(some 7), none, (.q (.load none (.t 6)))⟩, ⟨(some 8), none, (.q (.faddr 1 (.t 1)))⟩, ⟨(some 9), none, (.q (.load (some 5) (.t 8)))⟩, ⟨(some 10), none, (.q (.bld [(.int .u8 0), (.str []), (.int .u8 0), (.int .i64 0), (.str []), (.str []), .nilslice] [⟨0, ⟨1, (.t 7)⟩⟩, ⟨1, ⟨5, (.t 9)⟩⟩]))⟩, ⟨(some 3), none, (.alloc [(.int .u8 0), (.str []), (.int .u8 0), (.int .i64 0), (.str []), (.str []), .nilslice])⟩, ⟨none, none, (.store 7 (.t 3) (.t 10))⟩] [1, 2, 3])
  (.seq
   (.seq
    (.reg 2 [⟨(some 11), none, (.q (.faddr 6 (.t 1)))⟩, ⟨(some 12), none, (.q (.load none (.t 11)))⟩, ⟨(some 13), none, (.q (.len 0 (.t 12)))⟩, ⟨(some 14), none, (.q (.mov (.c (.int .i64 0))))⟩] [2, 3, 12, 13, 14])
    (.block 0
     (.loop
      (.seq
       (.reg 3 [⟨(some 15), none, (.q (.bin .lss (.t 14) (.t 13)))⟩] [2, 3, 12, 13, 14, 15])
       (.seq
        (.cond (.t 15)
         .skip
         (.exit 0))
        (.seq
         (.block 1
          (.seq
           (.reg 4 [⟨(some 16), none, (.q (.iaddr 7 (.t 12) (.t 14)))⟩, ⟨(some 17), none, (.q (.load (some 7) (.t 16)))⟩, ⟨(some 5), none, (.alloc [(.int .u8 0), (.str []), (.int .u8 0), (.int .i64 0), (.str []), (.str []), .nilslice])⟩, ⟨none, none, (.store 7 (.t 5) (.t 17))⟩] [2, 3, 5, 12, 13, 14])
           (.dreg 5 [⟨(some 18), none, (.q (.faddr 6 (.t 3)))⟩, ⟨(some 19), none, (.q (.load none (.t 18)))⟩, ⟨(some 20), none, (.q (.load (some 7) (.t 5)))⟩, ⟨(some 21), none, (.pcall 114 [(.t 20)])⟩, ⟨(some 22), none, (.bslt 7 1 [(.int .u8 0), (.str []), (.int .u8 0), (.int .i64 0), (.str []), (.str []), .nilslice] [⟨0, ⟨7, (.t 21)⟩⟩])⟩, ⟨(some 23), none, (.app 7 (.t 19) (.t 22))⟩, ⟨(some 24), none, (.q (.faddr 6 (.t 3)))⟩, ⟨none, none, (.store 1 (.t 24) (.t 23))⟩] true [2, 3, 12, 13, 14])))
         (.reg 6 [⟨(some 25), none, (.q (.bin .add (.t 14) (.c (.int .i64 1))))⟩, ⟨(some 14), none, (.q (.mov (.t 25)))⟩] [2, 3, 12, 13, 14])))))))
   (.seq
    (.reg 7 [⟨(some 26), none, (.q (.load (some 7) (.t 3)))⟩, ⟨none, none, (.store 7 (.t 2) (.t 26))⟩] [2])
    .ret))))
theorem fok114 : FOK Tryz.prog 114 (27, ic114, [(.cell (some 7) 2)]) := .mk (pf := ([1000001, 1000022] ++ allF0)) (an := [(0, [1, 2]), (1, [1, 2, 3]), (2, [2, 3, 12, 13, 14]), (3, [2, 3, 12, 13, 14, 15]), (4, [2, 3, 5, 12, 13, 14]), (5, [2, 3, 12, 13, 14]), (6, [2, 3, 12, 13, 14]), (7, [2])]) (by kernel_rfl) (fnOK_of Tryz.func114 (by kernel_rfl) (by kernel_rfl) (by kernel_rfl))
def ic115 : IC :=
 (.seq
 (.reg 0 [oM 4 (cB false)] [0, 1])
 (.seq
 (.reg 1 [oM 5 0, oQ 6 (.isnil (.pointer 135) true 5), oM 7 6, gQ 8 7 true (.mov 1), gQ 9 7 true (.bin .geq 8 (cI 0)), oQ 10 (.pick 7 9 (cB false)), oM 11 10, gQ 12 11 true (.mov 1), gQ 13 11 true (.mov 0), gQ 14 11 true (.nchk 13), gQ 15 11 true (.faddr 7 14), gQ 16 11 true (.load none 15), gQ 17 11 true (.len 0 16), gQ 18 11 true (.bin .lss 12 17), oQ 19 (.pick 11 18 (cB false)), oM 4 19] [4])
 .ret))
theorem fok115 : FOK Tryz.prog 115 (20, ic115, [(.t 4)]) := fokA [] Tryz.func115 (by kernel_rfl) (by kernel_rfl) (by kernel_rfl) (by kernel_rfl)
def ic116 : IC :=
 (.seq
 (.reg 0 [oM 4 (cB false)] [0, 1])
 (.seq
 (.reg 1 [oM 5 0, oM 6 1, oK 7 (.call 172 [5, 6]), oQ 8 (.bin .gtr 7 (cI 0)), oM 4 8] [4])
 .ret))
theorem fok116 : FOK Tryz.prog 116 (9, ic116, [(.t 4)]) := fokA [] Tryz.func116 (by kernel_rfl) (by kernel_rfl) (by kernel_rfl) (by kernel_rfl)
def ic117 : IC :=
 (.seq
 (.reg 0 [oM 4 (cB false)] [0, 1])
 (.seq
 (.reg 1 [oM 5 0, oK 6 (.call 90 [5]), oM 7 6, gQ 8 7 true (.mov 1), gK 9 7 true (.call 90 [8]), oQ 10 (.pick 7 9 (cB false)), oM 11 10, gQ 12 11 true (.mov 0), gQ 13 11 true (.mov 1), gQ 14 11 true (.bin .neq 12 13), oQ 15 (.pick 11 14 (cB false)), oM 4 15] [4])
 .ret))
theorem fok117 : FOK Tryz.prog 117 (16, ic117, [(.t 4)]) := fokA [] Tryz.func117 (by kernel_rfl) (by kernel_rfl) (by kernel_rfl) (by kernel_rfl)
def ic118 : IC :=
 (.seq
 (.reg 0 [oK 2 (.boxt 0), oK 3 (.boxt 1), oM 4 (cI 0)] [2, 3])
 (.seq
 (.reg 1 [oQ 5 (.mkf 174 [] [2, 3]), oQ 6 (.mkf 176 [] [2, 3]), oQ 7 (.mkf 178 [] [2, 3]), oK 8 (.bslt 1 3 [.nilfunc] [⟨0, ⟨1, 5⟩⟩, ⟨1, ⟨1, 6⟩⟩, ⟨2, ⟨1, 7⟩⟩]), oK 9 (.call 173 [8]), oM 4 9] [4])
 .ret))
theorem fok118 : FOK Tryz.prog 118 (10, ic118, [(.t 4)]) := fokA [1000002, 1000003, 1000008] Tryz.func118 (by kernel_rfl) (by kernel_rfl) (by kernel_rfl) (by kernel_rfl)
def ic119 : IC :=
 (.seq
 (.reg 0 [oM 4 (cB false)] [0, 1])
 (.seq
 (.reg 1 [oM 5 0, oM 6 1, oK 7 (.call 115 [5, 6]), oM 8 7, gQ 9 8 true (.mov 1), gQ 10 8 true (.mov 0), gQ 11 8 true (.nchk 10), gQ 12 8 true (.faddr 0 11), gQ 13 8 true (.load none 12), gK 14 8 true (.call 73 [13]), gQ 15 8 true (.bin .lss 9 14), oQ 16 (.pick 8 15 (cB false)), oM 4 16] [4])
 .ret))
theorem fok119 : FOK Tryz.prog 119 (17, ic119, [(.t 4)]) := fokA [] Tryz.func119 (by kernel_rfl) (by kernel_rfl) (by kernel_rfl) (by kernel_rfl)
def ic120 : IC :=
 (.seq
 (.reg 0 [oM 6 (cB false)] [0, 1, 2])
 (.seq
 (.seq
 (.reg 1 [oM 9 0, oQ 10 (.nchk 9), oQ 11 (.faddr 2 10), oQ 12 (.faddr 2 11), oQ 13 (.load none 12), oQ 14 (.len 0 13), oM 15 (cI 0)] [0, 1, 2, 13, 14, 15])
 (.block 0
 (.loop
 (.seq
 (.reg 2 [oQ 16 (.bin .lss 15 14)] [0, 1, 2, 13, 14, 15, 16])
 (.seq
 (.cond 16
 .skip
 (.exit 0))
 (.seq
 (.block 1
 (.seq
 (.reg 3 [oM 17 15, oQ 18 (.iaddr 6 13 15), oQ 19 (.load (some 6) 18), oK 8 (.alloc [(zU 0), (.str []), (zU 0), (zI 0), (.str []), (.str [])]), oM 7 17, oN (.store 6 8 19)] [0, 1, 2, 7, 8, 13, 14, 15])
 (.seq
 (.oreg 4 [(0, oQ 20 (.faddr 0 8), 0), (1, oQ 21 (.load none 20), 0), (2, oM 22 1, 0), (3, oQ 23 (.bin .eql 21 22), 0), (4, oM 24 23, 0), (5, gQ 25 24 true (.mov 0), 0), (6, gQ 26 24 true (.mov 7), 0), (7, gK 27 24 true (.call 76 [25, 26]), 0), (8, gQ 28 24 true (.not 27), 0), (9, oQ 29 (.pick 24 28 (cB false)), 0), (10, oM 30 29, 0), (11, gQ 31 30 true (.mov 0), 0), (12, gQ 32 30 true (.nchk 31), 0), (13, gQ 33 30 true (.faddr 1 32), 0), (14, gQ 34 30 true (.load none 33), 0), (15, gQ 35 30 true (.faddr 1 8), 0), (16, gQ 36 30 true (.load (some 5) 35), 0), (18, gQ 38 30 true (.mov 2), 0), (17, gK 37 30 true (.call 82 [34, 36]), 0), (19, gK 39 30 true (.call 110 [37, 38]), 0), (20, oQ 40 (.pick 30 39 (cB false)), 0)] [0, 1, 2, 13, 14, 15, 40])
 (.cond 40
 (.seq
 (.reg 5 [oM 6 (cB true)] [6])
 .ret)
 .skip))))
 (.reg 6 [oQ 41 (.bin .add 15 (cI 1)), oM 15 41] [0, 1, 2, 13, 14, 15])))))))
 (.seq
 (.reg 7 [oM 6 (cB false)] [6])
 .ret)))
theorem fok120 : FOK Tryz.prog 120 (42, ic120, [(.t 6)]) := fokA [] Tryz.func120 (by kernel_rfl) (by kernel_rfl) (by kernel_rfl) (by kernel_rfl)
def ic121 : IC :=
 (.seq
 (.reg 0 [oM 6 (cB false)] [0, 1, 2])
 (.seq
 (.reg 1 [oM 7 0, oQ 8 (.nchk 7), oQ 9 (.faddr 2 8), oQ 10 (.faddr 3 9), oQ 11 (.load none 10), oM 12 1, oM 13 2, oQ 14 (.bld [(zU 0), (zI 0)] [⟨0, ⟨1, 12⟩⟩, ⟨1, ⟨1, 13⟩⟩]), oK 15 (.call 179 [11, 14]), oM 6 15] [6])
 .ret))
theorem fok121 : FOK Tryz.prog 121 (16, ic121, [(.t 6)]) := fokA [] Tryz.func121 (by kernel_rfl) (by kernel_rfl) (by kernel_rfl) (by kernel_rfl)
def ic122 : IC :=
 (.seq
 (.reg 0 [oM 4 (cB false)] [0, 1])
 (.seq
 (.reg 1 [oM 5 0, oQ 6 (.isnil (.pointer 135) true 5), oM 7 6, gQ 8 7 true (.mov 1), gQ 9 7 true (.bin .geq 8 (cI 0)), oQ 10 (.pick 7 9 (cB false)), oM 11 10, gQ 12 11 true (.mov 1), gQ 13 11 true (.mov 0), gQ 14 11 true (.nchk 13), gQ 15 11 true (.faddr 2 14), gQ 16 11 true (.faddr 2 15), gQ 17 11 true (.load none 16), gQ 18 11 true (.len 0 17), gQ 19 11 true (.bin .lss 12 18), oQ 20 (.pick 11 19 (cB false)), oM 4 20] [4])
 .ret))
theorem fok122 : FOK Tryz.prog 122 (21, ic122, [(.t 4)]) := fokA [] Tryz.func122 (by kernel_rfl) (by kernel_rfl) (by kernel_rfl) (by kernel_rfl)
def ic123 : IC :=
 (.seq
 (.reg 0 [oK 1 (.boxt 0), oM 2 (cB false)] [1])
 (.seq
 (.reg 1 [oQ 7 (.load (some 7) 1), oK 8 (.call 180 [7]), oM 6 8, oQ 9 (.ext 0 6), oQ 10 (.ext 1 6), oQ 11 (.ext 2 6), oM 3 9, oM 4 10, oM 5 11] [3, 4, 5])
 (.seq
 (.reg 2 [oM 12 5, oM 13 12, gQ 14 13 true (.mov 3), gQ 15 13 true (.bin .leq 14 (cI 24)), oQ 16 (.pick 13 15 (cB false)), oM 17 16, gQ 18 17 true (.mov 4), gQ 19 17 true (.bin .leq 18 (cI 8)), oQ 20 (.pick 17 19 (cB false)), oM 2 20] [2])
 .ret)))
theorem fok123 : FOK Tryz.prog 123 (21, ic123, [(.t 2)]) := fokA [1000001] Tryz.func123 (by kernel_rfl) (by kernel_rfl) (by kernel_rfl) (by kernel_rfl)
def ic124 : IC :=
 (.seq
 (.reg 0 [oK 4 (.alloc [.nilptr, .nilslice])] [0, 1, 4])
 (.seq
 (.reg 1 [oM 8 0, oM 9 0, oQ 10 (.nchk 9), oQ 11 (.faddr 1 10), oQ 12 (.load none 11), oK 13 (.mksl 1 [(.bool false)] 12), oQ 14 (.bld [.nilptr, .nilslice] [⟨0, ⟨1, 8⟩⟩, ⟨1, ⟨1, 13⟩⟩]), oK 5 (.alloc [.nilptr, .nilslice]), oN (.store 2 5 14)] [0, 1, 4, 5])
 (.seq
 (.seq
 (.reg 2 [oM 15 1, oQ 16 (.len 0 15), oM 17 (cI 0)] [0, 4, 5, 15, 16, 17])
 (.block 0
 (.loop
 (.seq
 (.reg 3 [oQ 18 (.bin .lss 17 16)] [0, 4, 5, 15, 16, 17, 18])
 (.seq
 (.cond 18
 .skip
 (.exit 0))
 (.seq
 (.block 1
 (.seq
 (.reg 4 [oQ 19 (.iaddr 1 15 17), oQ 20 (.load none 19), oM 7 20] [0, 4, 5, 7, 15, 16, 17])
 (.seq
 (.reg 5 [oM 21 7, oQ 22 (.bin .geq 21 (cI 0)), oM 23 22, gQ 24 23 true (.mov 7), gQ 25 23 true (.mov 0), gQ 26 23 true (.nchk 25), gQ 27 23 true (.faddr 1 26), gQ 28 23 true (.load none 27), gQ 29 23 true (.bin .lss 24 28), oQ 30 (.pick 23 29 (cB false))] [0, 4, 5, 7, 15, 16, 17, 30])
 (.cond 30
 (.reg 6 [oQ 31 (.faddr 1 5), oQ 32 (.load none 31), oM 33 7, oQ 34 (.iaddr 1 32 33), oN (.store 1 34 (cB true))] [0, 4, 5, 15, 16, 17])
 .skip))))
 (.reg 7 [oQ 35 (.bin .add 17 (cI 1)), oM 17 35] [0, 4, 5, 15, 16, 17])))))))
 (.seq
 (.reg 8 [oQ 36 (.load (some 2) 5), oN (.store 2 4 36)] [4])
 .ret))))
theorem fok124 : FOK Tryz.prog 124 (37, ic124, [(.cell (some 2) 4)]) := fokA [] Tryz.func124 (by kernel_rfl) (by kernel_rfl) (by kernel_rfl) (by kernel_rfl)
def ic125 : IC :=
 (.seq
 (.reg 0 [oK 2 (.boxt 0), oK 3 (.boxt 1), oM 4 (cB false)] [2, 3])
 (.seq
 (.reg 1 [oQ 6 (.bld [.nilfunc, .nilfunc, .nilfunc, .nilfunc, .nilfunc, .nilfunc, .nilfunc, .nilfunc] [⟨1, ⟨1, (.f 181)⟩⟩, ⟨2, ⟨1, (.f 182)⟩⟩, ⟨3, ⟨1, (.f 183)⟩⟩, ⟨4, ⟨1, (.f 184)⟩⟩, ⟨5, ⟨1, (.f 185)⟩⟩, ⟨6, ⟨1, (.f 186)⟩⟩, ⟨7, ⟨1, (.f 187)⟩⟩]), oK 5 (.alloc [.nilfunc, .nilfunc, .nilfunc, .nilfunc, .nilfunc, .nilfunc, .nilfunc, .nilfunc]), oN (.store 8 5 6)] [2, 3, 5])
 (.seq
 (.dreg 2 [oQ 7 (.faddr 0 3), oQ 8 (.load none 7), oQ 9 (.aaddr 8 1 5 8), oQ 10 (.load none 9), oQ 11 (.load (some 2) 2), oQ 12 (.load (some 7) 3), oK 13 (.callv 10 [11, 12]), oM 4 13] false [4])
 .ret)))
theorem fok125 : FOK Tryz.prog 125 (14, ic125, [(.t 4)]) := fokA [1000002, 1000003] Tryz.func125 (by kernel_rfl) (by kernel_rfl) (by kernel_rfl) (by kernel_rfl)
def ic126 : IC :=
 (.seq
 (.reg 0 [oM 4 (.c .nilslice)] [0, 1])
 (.seq
 (.reg 1 [oM 8 0, oM 9 1, oK 10 (.call 128 [8, 9]), oM 5 10] [0, 1, 5])
 (.seq
 (.seq
 (.reg 2 [oM 11 5, oQ 12 (.bin .eql 11 (cI (-1)))] [0, 1, 5, 12])
 (.cond 12
 (.seq
 (.reg 3 [oM 13 0, oM 4 13] [4])
 .ret)
 .skip))
 (.seq
 (.seq
 (.reg 4 [oM 14 5, oQ 15 (.bin .add 14 (cI 1)), oM 6 15] [0, 1, 5, 6])
 (.block 0
 (.loop
 (.seq
 (.seq
 (.reg 5 [oM 16 6, oM 17 0, oQ 18 (.len 0 17), oQ 19 (.bin .lss 16 18)] [0, 1, 5, 6, 19])
 (.cond 19
 .skip
 (.exit 0)))
 (.seq
 (.block 1
 (.seq
 (.reg 7 [oM 22 0, oM 23 6, oQ 24 (.iaddr 1 22 23), oQ 25 (.load none 24), oM 7 25] [0, 1, 5, 6, 7])
 (.seq
 (.reg 8 [oM 26 1, oM 27 7, oK 28 (.callv 26 [27]), oQ 29 (.not 28)] [0, 1, 5, 6, 7, 29])
 (.cond 29
 (.seq
 (.reg 9 [oM 30 0, oM 31 5, oM 32 7, oQ 33 (.iaddr 1 30 31), oN (.store 1 33 32)] [0, 1, 5, 6])
 (.reg 10 [oM 34 5, oQ 35 (.bin .add 34 (cI 1)), oM 5 35] [0, 1, 5, 6]))
 .skip))))
 (.reg 6 [oM 20 6, oQ 21 (.bin .add 20 (cI 1)), oM 6 21] [0, 1, 5, 6]))))))
 (.seq
 (.reg 11 [oM 36 0, oM 37 5, oQ 38 (.slc 1 36 (some 37) none), oN (.clr 1 [(zI 0)] 38)] [0, 5])
 (.seq
 (.reg 12 [oM 39 0, oM 40 5, oQ 41 (.slc 1 39 none (some 40)), oM 4 41] [4])
 .ret))))))
theorem fok126 : FOK Tryz.prog 126 (42, ic126, [(.t 4)]) := fokA [] Tryz.func126 (by kernel_rfl) (by kernel_rfl) (by kernel_rfl) (by kernel_rfl)
def ic127 : IC :=
 (.seq
 (.reg 0 [oM 3 (cB false)] [0, 1])
 (.seq
 (.reg 1 [oM 4 0, oQ 5 (.load none 1), oQ 6 (.bin .eql 4 5), oM 3 6] [3])
 .ret))
theorem fok127 : FOK Tryz.prog 127 (7, ic127, [(.t 3)]) := fokA [] Tryz.func127 (by kernel_rfl) (by kernel_rfl) (by kernel_rfl) (by kernel_rfl)
def ic128 : IC :=
 (.seq
 (.reg 0 [oM 4 (cI 0)] [0, 1])
 (.seq
 (.seq
 (.reg 1 [oM 6 0, oQ 7 (.len 0 6), oM 8 (cI 0)] [0, 1, 7, 8])
 (.block 0
 (.loop
 (.seq
 (.reg 2 [oQ 9 (.bin .lss 8 7)] [0, 1, 7, 8, 9])
 (.seq
 (.cond 9
 .skip
 (.exit 0))
 (.seq
 (.block 1
 (.seq
 (.reg 3 [oM 10 8, oM 5 10] [0, 1, 5, 7, 8])
 (.seq
 (.reg 4 [oM 11 1, oM 12 0, oM 13 5, oQ 14 (.iaddr 1 12 13), oQ 15 (.load none 14), oK 16 (.callv 11 [15])] [0, 1, 5, 7, 8, 16])
 (.cond 16
 (.seq
 (.reg 5 [oM 17 5, oM 4 17] [4])
 .ret)
 .skip))))
 (.reg 6 [oQ 18 (.bin .add 8 (cI 1)), oM 8 18] [0, 1, 7, 8])))))))
 (.seq
 (.reg 7 [oM 4 (cI (-1))] [4])
 .ret)))
theorem fok128 : FOK Tryz.prog 128 (19, ic128, [(.t 4)]) := fokA [] Tryz.func128 (by kernel_rfl) (by kernel_rfl) (by kernel_rfl) (by kernel_rfl)
def ic129 : IC :=
 (.seq
 (.reg 0 [oM 6 (.c .nilslice)] [0, 1, 2])
 (.seq
 (.reg 1 [oM 7 (.c .nilslice)] [0, 1, 2, 7])
 (.seq
 (.seq
 (.reg 2 [oM 10 1, oQ 11 (.len 0 10), oM 12 (cI 0)] [0, 2, 7, 10, 11, 12])
 (.block 0
 (.loop
 (.seq
 (.reg 3 [oQ 13 (.bin .lss 12 11)] [0, 2, 7, 10, 11, 12, 13])
 (.seq
 (.cond 13
 .skip
 (.exit 0))
 (.seq
 (.block 1
 (.seq
 (.reg 4 [oQ 14 (.iaddr 1 10 12), oQ 15 (.load none 14), oM 9 15] [0, 2, 7, 9, 10, 11, 12])
 (.seq
 (.reg 5 [oM 16 2, oM 17 0, oQ 18 (.nchk 17), oQ 19 (.faddr 0 18), oQ 20 (.load none 19), oM 21 9, oQ 22 (.iaddr 15 20 21), oQ 23 (.load (some 15) 22), oM 24 9, oK 25 (.callv 16 [23, 24])] [0, 2, 7, 9, 10, 11, 12, 25])
 (.cond 25
 (.reg 6 [oM 26 7, oM 27 9, oK 28 (.bslt 1 1 [(zI 0)] [⟨0, ⟨1, 27⟩⟩]), oK 29 (.app 1 26 28), oM 7 29] [0, 2, 7, 10, 11, 12])
 .skip))))
 (.reg 7 [oQ 30 (.bin .add 12 (cI 1)), oM 12 30] [0, 2, 7, 10, 11, 12])))))))
 (.seq
 (.reg 8 [oM 31 7, oM 6 31] [6])
 .ret))))
theorem fok129 : FOK Tryz.prog 129 (32, ic129, [(.t 6)]) := fokA [1000028] Tryz.func129 (by kernel_rfl) (by kernel_rfl) (by kernel_rfl) (by kernel_rfl)
def ic130 : IC :=
 (.seq
 (.reg 0 [oK 3 (.boxt 0), oM 5 (cB false)] [2, 3])
 (.seq
 (.reg 1 [oQ 6 (.load (some 15) 3), oQ 7 (.load (some 5) 2), oK 8 (.call 131 [6, 7]), oM 5 8] [5])
 .ret))
theorem fok130 : FOK Tryz.prog 130 (9, ic130, [(.t 5)]) := fokA [1000003] Tryz.func130 (by kernel_rfl) (by kernel_rfl) (by kernel_rfl) (by kernel_rfl)
def ic131 : IC :=
 (.seq
 (.reg 0 [oK 2 (.boxt 0), oK 3 (.boxt 1), oM 4 (cB false)] [2, 3])
 (.seq
 (.oreg 1 [(0, oQ 5 (.load (some 15) 2), 0), (2, oQ 7 (.load (some 5) 3), 0), (1, oK 6 (.call 189 [5]), 4), (3, oK 8 (.call 188 [6, 7]), 0), (4, oM 4 8, 0)] [4])
 .ret))
theorem fok131 : FOK Tryz.prog 131 (9, ic131, [(.t 4)]) := fokA [1000002, 1000003] Tryz.func131 (by kernel_rfl) (by kernel_rfl) (by kernel_rfl) (by kernel_rfl)
def ic132 : IC :=
 (.seq
 (.reg 0 [oK 5 (.boxt 0), oM 6 (cB false)] [1, 2, 3, 4, 5])
 (.seq
 (.reg 1 [oQ 7 (.faddr 0 5), oQ 8 (.load none 7), oQ 9 (.faddr 0 1), oQ 10 (.load none 9), oQ 11 (.bin .eql 8 10), oM 12 11, gQ 13 12 true (.load none 2), gQ 14 12 true (.mov 13), gQ 15 14 false (.faddr 1 5), gQ 16 14 false (.load (some 3) 15), gQ 17 14 false (.faddr 1 1), gQ 18 14 false (.load (some 3) 17), gK 19 14 false (.call 118 [16, 18]), gQ 20 14 false (.bin .geq 19 (cI 0)), gQ 21 12 true (.pick 14 (cB true) 20), oQ 22 (.pick 12 21 (cB false)), oM 23 22, gQ 24 23 true (.load none 3), gQ 25 23 true (.mov 24), gQ 26 25 false (.faddr 4 5), gQ 27 25 false (.load none 26), gQ 28 25 false (.faddr 4 1), gQ 29 25 false (.load none 28), gK 30 25 false (.call 133 [27, 29]), gQ 31 23 true (.pick 25 (cB true) 30), oQ 32 (.pick 23 31 (cB false)), oM 33 32, gQ 34 33 true (.load none 4), gQ 35 33 true (.nchk 34), gQ 36 33 true (.faddr 2 35), gQ 37 33 true (.faddr 1 36), gQ 38 33 true (.load none 37), gQ 39 33 true (.mov 38), gQ 40 39 false (.faddr 5 5), gQ 41 39 false (.load none 40), gQ 42 39 false (.faddr 5 1), gQ 43 39 false (.load none 42), gQ 44 39 false (.bin .eql 41 43), gQ 45 33 true (.pick 39 (cB true) 44), oQ 46 (.pick 33 45 (cB false)), oM 6 46] [6])
 .ret))
theorem fok132 : FOK Tryz.prog 132 (47, ic132, [(.t 6)]) := fokA [1000005] Tryz.func132 (by kernel_rfl) (by kernel_rfl) (by kernel_rfl) (by kernel_rfl)
def ic133 : IC :=
 (.seq
 (.reg 0 [oM 4 (cB false)] [0, 1])
 (.seq
 (.reg 1 [oM 5 0, oK 6 (.call 149 [5]), oM 7 6, gQ 8 7 true (.mov 1), gK 9 7 true (.call 149 [8]), oQ 10 (.pick 7 9 (cB false)), oM 11 10, gQ 12 11 true (.mov 0), gQ 13 11 true (.mov 1), gK 14 11 true (.call 117 [12, 13]), gQ 15 11 true (.not 14), oQ 16 (.pick 11 15 (cB false)), oM 4 16] [4])
 .ret))
theorem fok133 : FOK Tryz.prog 133 (17, ic133, [(.t 4)]) := fokA [] Tryz.func133 (by kernel_rfl) (by kernel_rfl) (by kernel_rfl) (by kernel_rfl)
def ic134 : IC :=
 (.seq
 (.reg 0 [oK 2 (.boxt 0), oK 3 (.boxt 1), oM 4 (.c .nilslice)] [2, 3])
 (.seq
 (.seq
 (.reg 1 [oQ 5 (.load none 2), oQ 6 (.load none 3), oK 7 (.call 190 [5, 6]), oQ 8 (.not 7)] [2, 3, 8])
 (.cond 8
 (.seq
 (.reg 2 [oM 4 (.c .nilslice)] [4])
 .ret)
 .skip))
 (.seq
 (.dreg 3 [oQ 9 (.load none 2), oQ 10 (.load none 2), oQ 11 (.nchk 10), oQ 12 (.faddr 3 11), oQ 13 (.load none 12), oQ 14 (.load none 2), oQ 15 (.nchk 14), oQ 16 (.faddr 0 15), oQ 17 (.load none 16), oQ 18 (.load none 3), oQ 19 (.iaddr 15 17 18), oQ 20 (.faddr 0 19), oQ 21 (.load none 20), oQ 22 (.lkp 2 .nilslice false 13 21), oQ 23 (.mkf 191 [] [3, 2]), oK 24 (.call 129 [9, 22, 23]), oM 4 24] false [4])
 .ret)))
theorem fok134 : FOK Tryz.prog 134 (25, ic134, [(.t 4)]) := fokA [1000002, 1000003] Tryz.func134 (by kernel_rfl) (by kernel_rfl) (by kernel_rfl) (by kernel_rfl)
def ic135 : IC :=
 (.seq
 (.reg 0 [oM 3 0, oQ 4 (.len 0 3), oM 2 4] [0, 2])
 (.reg 1 [oM 5 0, oM 6 2, oM 7 2, oQ 8 (.conv .u64 7), oK 9 (.call 194 [8]), oK 10 (.call 193 [5, (cI 0), 6, 9])] []))
theorem fok135 : FOK Tryz.prog 135 (11, ic135, []) := fokA [] Tryz.func135 (by kernel_rfl) (by kernel_rfl) (by kernel_rfl) (by kernel_rfl)
def ic136 : IC :=
 (.seq
 (.reg 0 [oM 2 (.c .nilslice)] [0])
 (.seq
 (.seq
 (.reg 1 [oM 6 0, oQ 7 (.len 0 6), oQ 8 (.bin .lss 7 (cI 2))] [0, 8])
 (.cond 8
 (.seq
 (.reg 2 [oM 9 0, oM 2 9] [2])
 .ret)
 .skip))
 (.seq
 (.seq
 (.reg 3 [oM 3 (cI 1)] [0, 3])
 (.block 0
 (.loop
 (.seq
 (.seq
 (.reg 4 [oM 10 3, oM 11 0, oQ 12 (.len 0 11), oQ 13 (.bin .lss 10 12)] [0, 3, 13])
 (.cond 13
 .skip
 (.exit 0)))
 (.seq
 (.block 1
 (.seq
 (.dreg 6 [oM 16 0, oM 17 3, oQ 18 (.iaddr 1 16 17), oQ 19 (.load none 18), oM 20 0, oM 21 3, oQ 22 (.bin .sub 21 (cI 1)), oQ 23 (.iaddr 1 20 22), oQ 24 (.load none 23), oQ 25 (.bin .eql 19 24)] false [0, 3, 25])
 (.cond 25
 (.seq
 (.reg 7 [oM 26 0, oM 27 3, oQ 28 (.slc 1 26 (some 27) none), oM 4 28] [0, 3, 4])
 (.seq
 (.seq
 (.reg 8 [oM 5 (cI 1)] [0, 3, 4, 5])
 (.block 2
 (.loop
 (.seq
 (.seq
 (.reg 9 [oM 29 5, oM 30 4, oQ 31 (.len 0 30), oQ 32 (.bin .lss 29 31)] [0, 3, 4, 5, 32])
 (.cond 32
 .skip
 (.exit 2)))
 (.seq
 (.block 3
 (.seq
 (.dreg 11 [oM 35 4, oM 36 5, oQ 37 (.iaddr 1 35 36), oQ 38 (.load none 37), oM 39 4, oM 40 5, oQ 41 (.bin .sub 40 (cI 1)), oQ 42 (.iaddr 1 39 41), oQ 43 (.load none 42), oQ 44 (.bin .neq 38 43)] false [0, 3, 4, 5, 44])
 (.cond 44
 (.seq
 (.reg 12 [oM 45 0, oM 46 3, oM 47 4, oM 48 5, oQ 49 (.iaddr 1 47 48), oQ 50 (.load none 49), oQ 51 (.iaddr 1 45 46), oN (.store 1 51 50)] [0, 3, 4, 5])
 (.reg 13 [oM 52 3, oQ 53 (.bin .add 52 (cI 1)), oM 3 53] [0, 3, 4, 5]))
 .skip)))
 (.reg 10 [oM 33 5, oQ 34 (.bin .add 33 (cI 1)), oM 5 34] [0, 3, 4, 5]))))))
 (.seq
 (.reg 14 [oM 54 0, oM 55 3, oQ 56 (.slc 1 54 (some 55) none), oN (.clr 1 [(zI 0)] 56)] [0, 3])
 (.seq
 (.reg 15 [oM 57 0, oM 58 3, oQ 59 (.slc 1 57 none (some 58)), oM 2 59] [2])
 .ret))))
 .skip)))
 (.reg 5 [oM 14 3, oQ 15 (.bin .add 14 (cI 1)), oM 3 15] [0, 3]))))))
 (.seq
 (.reg 16 [oM 60 0, oM 2 60] [2])
 .ret))))
theorem fok136 : FOK Tryz.prog 136 (61, ic136, [(.t 2)]) := fokA [] Tryz.func136 (by kernel_rfl) (by kernel_rfl) (by kernel_rfl) (by kernel_rfl)
def ic137 : IC :=
 (.seq
 (.reg 0 [oM 6 (cB false)] [0, 1, 2])
 (.seq
 (.reg 1 [oM 7 2, oM 8 0, oM 9 1, oK 10 (.call 102 [8, 9]), oK 11 (.call 195 [7, 10]), oM 6 11] [6])
 .ret))
theorem fok137 : FOK Tryz.prog 137 (12, ic137, [(.t 6)]) := fokA [] Tryz.func137 (by kernel_rfl) (by kernel_rfl) (by kernel_rfl) (by kernel_rfl)
def ic138 : IC :=
 (.seq
 (.reg 0 [oM 6 (cB false)] [0, 1, 2])
 (.seq
 (.reg 1 [oM 7 2, oM 8 0, oM 9 1, oK 10 (.call 102 [8, 9]), oK 11 (.call 195 [7, 10]), oQ 12 (.not 11), oM 6 12] [6])
 .ret))
theorem fok138 : FOK Tryz.prog 138 (13, ic138, [(.t 6)]) := fokA [] Tryz.func138 (by kernel_rfl) (by kernel_rfl) (by kernel_rfl) (by kernel_rfl)
def ic139 : IC :=
 (.seq
 (.reg 0 [oK 3 (.boxt 0), oK 5 (.boxt 2), oM 6 (cB false)] [1, 3, 5])
 (.seq
 (.reg 1 [oQ 7 (.load none 3), oM 8 1, oK 9 (.call 102 [7, 8]), oQ 10 (.mkf 196 [] [5, 3]), oK 11 (.call 80 [9, 10]), oQ 12 (.not 11), oM 6 12] [6])
 .ret))
theorem fok139 : FOK Tryz.prog 139 (13, ic139, [(.t 6)]) := fokA [1000003, 1000005] Tryz.func139 (by kernel_rfl) (by kernel_rfl) (by kernel_rfl) (by kernel_rfl)
def ic140 : IC :=
 (.seq
 (.reg 0 [oK 3 (.boxt 0), oK 5 (.boxt 2), oM 6 (cB false)] [1, 3, 5])
 (.seq
 (.reg 1 [oQ 7 (.load none 3), oM 8 1, oK 9 (.call 102 [7, 8]), oQ 10 (.mkf 197 [] [3, 5]), oK 11 (.call 80 [9, 10]), oQ 12 (.not 11), oM 6 12] [6])
 .ret))
theorem fok140 : FOK Tryz.prog 140 (13, ic140, [(.t 6)]) := fokA [1000003, 1000005] Tryz.func140 (by kernel_rfl) (by kernel_rfl) (by kernel_rfl) (by kernel_rfl)
def ic141 : IC :=
(.seq
 (.reg 0 [⟨(some 1), none, (.boxt (.t 0))⟩, ⟨(some 2), none, (.alloc [(.bool false)])⟩] [1, 2])
 (.seq
  (.block 0
   (.seq
    (.reg 1 [⟨(some 8), none, (.q (.faddr 0 (.t 1)))⟩, ⟨(some 9), none, (.q (.load none (.t 8)))⟩, ⟨(some 10), none, (.call 151 [(.t 9)])⟩, ⟨(some 11), none, (.q (.not (.t 10)))⟩, ⟨(some 12), none, (.q (.mov (.t 11)))⟩, ⟨(some 13), (some ⟨12, false⟩), (.q (.faddr 0 (.t 1)))⟩, ⟨(some 14), (some ⟨12, false⟩), (.q (.load none (.t 13)))⟩, ⟨(some 15), (some ⟨12, false⟩), (.call 153 [(.t 14)])⟩, ⟨(some 16), none, (.q (.pick (.t 12) (.c (.bool true)) (.t 15)))⟩, ⟨(some 17), none, (.q (.mov (.t 16)))⟩, ⟨(some 18), (some ⟨17, false⟩), (.q (.faddr 1 (.t 1)))⟩, ⟨(some 19), (some ⟨17, false⟩), (.q (.load (some 3) (.t 18)))⟩, ⟨(some 20), (some ⟨17, false⟩), (.call 154 [(.t 19), (.c (.bool false))])⟩, ⟨(some 21), (some ⟨17, false⟩), (.q (.not (.t 20)))⟩, ⟨(some 22), none, (.q (.pick (.t 17) (.c (.bool true)) (.t 21)))⟩, ⟨(some 7), none, (.q (.mov (.t 22)))⟩] [1, 2, 7])
    (.cond (.t 7)
     (.seq
      (.reg 2 [⟨none, none, (.store 1 (.t 2) (.c (.bool false)))⟩] [2])
      .ret)
     (.seq
      (.reg 3 [⟨(some 24), none, (.q (.faddr 4 (.t 1)))⟩, ⟨(some 25), none, (.q (.load none (.t 24)))⟩, ⟨(some 26), none, (.call 198 [(.t 25)])⟩, ⟨(some 27), none, (.q (.bin .eql (.t 26) (.c (.str []))))⟩, ⟨(some 28), none, (.q (.mov (.t 27)))⟩, ⟨(some 29), (some ⟨28, false⟩), (.q (.faddr 5 (.t 1)))⟩, ⟨(some 30), (some ⟨28, false⟩), (.q (.load none (.t 29)))⟩, ⟨(some 31), (some ⟨28, false⟩), (.q (.len 1 (.t 30)))⟩, ⟨(some 32), (some ⟨28, false⟩), (.q (.bin .gtr (.t 31) (.c (.int .i64 64))))⟩, ⟨(some 33), none, (.q (.pick (.t 28) (.c (.bool true)) (.t 32)))⟩, ⟨(some 23), none, (.q (.mov (.t 33)))⟩] [1, 2, 23])
      (.cond (.t 23)
       (.seq
        (.reg 4 [⟨none, none, (.store 1 (.t 2) (.c (.bool false)))⟩] [2])
        .ret)
       (.seq
        (.reg 5 [⟨(some 35), none, (.q (.faddr 6 (.t 1)))⟩, ⟨(some 36), none, (.q (.load none (.t 35)))⟩, ⟨(some 37), none, (.call 199 [(.t 36), (.c (.int .i64 32)), (.f 93)])⟩, ⟨(some 38), none, (.q (.not (.t 37)))⟩, ⟨(some 39), none, (.q (.mov (.t 38)))⟩, ⟨(some 40), (some ⟨39, false⟩), (.q (.faddr 9 (.t 1)))⟩, ⟨(some 41), (some ⟨39, false⟩), (.q (.load none (.t 40)))⟩, ⟨(some 42), (some ⟨39, false⟩), (.call 199 [(.t 41), (.c (.int .i64 32)), (.f 93)])⟩, ⟨(some 43), (some ⟨39, false⟩), (.q (.not (.t 42)))⟩, ⟨(some 44), none, (.q (.pick (.t 39) (.c (.bool true)) (.t 43)))⟩, ⟨(some 45), none, (.q (.mov (.t 44)))⟩, ⟨(some 46), (some ⟨45, false⟩), (.q (.faddr 14 (.t 1)))⟩, ⟨(some 47), (some ⟨45, false⟩), (.q (.load none (.t 46)))⟩, ⟨(some 48), (some ⟨45, false⟩), (.call 200 [(.t 47), (.c (.int .i64 32)), (.f 153)])⟩, ⟨(some 49), (some ⟨45, false⟩), (.q (.not (.t 48)))⟩, ⟨(some 50), none, (.q (.pick (.t 45) (.c (.bool true)) (.t 49)))⟩, ⟨(some 34), none, (.q (.mov (.t 50)))⟩] [1, 2, 34])
        (.cond (.t 34)
         (.seq
          (.reg 6 [⟨none, none, (.store 1 (.t 2) (.c (.bool false)))⟩] [2])
          .ret)
         .skip)))))))
  (.seq
   (.seq
    (.reg 7 [⟨(some 51), none, (.q (.faddr 14 (.t 1)))⟩, ⟨(some 52), none, (.q (.load none (.t 51)))⟩, ⟨(some 53), none, (.q (.len 0 (.t 52)))⟩, ⟨(some 54), none, (.q (.mov (.c (.int .i64 0))))⟩] [1, 2, 52, 53, 54])
    (.block 1
     (.loop
      (.seq
       (.reg 8 [⟨(some 55), none, (.q (.bin .lss (.t 54) (.t 53)))⟩] [1, 2, 52, 53, 54, 55])
       (.seq
        (.cond (.t 55)
         .skip
         (.exit 1))
        (.seq
         (.block 2
          (.seq
           (.reg 9 [⟨(some 56), none, (.q (.mov (.t 54)))⟩, ⟨(some 57), none, (.q (.iaddr 1 (.t 52) (.t 54)))⟩, ⟨(some 58), none, (.q (.load none (.t 57)))⟩, ⟨(some 3), none, (.q (.mov (.t 56)))⟩, ⟨(some 4), none, (.q (.mov (.t 58)))⟩] [1, 2, 3, 4, 52, 53, 54])
           (.seq
            (.reg 10 [⟨(some 59), none, (.q (.mov (.t 3)))⟩, ⟨(some 60), none, (.q (.bin .gtr (.t 59) (.c (.int .i64 0))))⟩, ⟨(some 61), none, (.q (.mov (.t 60)))⟩, ⟨(some 62), (some ⟨61, true⟩), (.q (.faddr 14 (.t 1)))⟩, ⟨(some 63), (some ⟨61, true⟩), (.q (.load none (.t 62)))⟩, ⟨(some 64), (some ⟨61, true⟩), (.q (.mov (.t 3)))⟩, ⟨(some 65), (some ⟨61, true⟩), (.q (.bin .sub (.t 64) (.c (.int .i64 1))))⟩, ⟨(some 66), (some ⟨61, true⟩), (.q (.iaddr 1 (.t 63) (.t 65)))⟩, ⟨(some 67), (some ⟨61, true⟩), (.q (.load none (.t 66)))⟩, ⟨(some 68), (some ⟨61, true⟩), (.q (.mov (.t 4)))⟩, ⟨(some 69), (some ⟨61, true⟩), (.q (.bin .geq (.t 67) (.t 68)))⟩, ⟨(some 70), none, (.q (.pick (.t 61) (.t 69) (.c (.bool false))))⟩] [1, 2, 52, 53, 54, 70])
            (.cond (.t 70)
            (.seq
            (.reg 11 [⟨none, none, (.store 1 (.t 2) (.c (.bool false)))⟩] [2])
            .ret)
            .skip))))
         (.reg 12 [⟨(some 71), none, (.q (.bin .add (.t 54) (.c (.int .i64 1))))⟩, ⟨(some 54), none, (.q (.mov (.t 71)))⟩] [1, 2, 52, 53, 54])))))))
   (.seq
    (.seq
     (.reg 13 [⟨(some 72), none, (.q (.load (some 15) (.t 1)))⟩, ⟨(some 73), none, (.call 201 [(.t 72)])⟩] [2, 73])
     (.block 3
      (.rfunc (.t 73) [74, 75]
       (.seq
        (.reg 14 [⟨(some 5), none, (.alloc [(.int .u8 0)])⟩, ⟨none, none, (.store 1 (.t 5) (.t 74))⟩] [2, 5, 75])
        (.reg 15 [⟨(some 6), none, (.q (.mov (.t 75)))⟩] [2, 5, 6]))
       (.block 4
        (.seq
         (.reg 16 [⟨(some 76), none, (.q (.mov (.t 6)))⟩, ⟨(some 77), none, (.q (.mkf 203 [] [(.t 5)]))⟩, ⟨(some 78), none, (.call 202 [(.t 76), (.c (.int .i64 32)), (.t 77)])⟩, ⟨(some 79), none, (.q (.not (.t 78)))⟩] [2, 79])
         (.cond (.t 79)
          (.seq
           (.reg 17 [⟨none, none, (.store 1 (.t 2) (.c (.bool false)))⟩] [])
           .ret)
          .skip))))))
    (.seq
     (.reg 18 [⟨none, none, (.store 1 (.t 2) (.c (.bool true)))⟩] [2])
     .ret)))))
theorem fok141 : FOK Tryz.prog 141 (80, ic141, [(.cell none 2)]) := .mk (pf := [1000001]) (an := [(0, [1, 2]), (1, [1, 2, 7]), (2, [2]), (3, [1, 2, 23]), (4, [2]), (5, [1, 2, 34]), (6, [2]), (7, [1, 2, 52, 53, 54]), (8, [1, 2, 52, 53, 54, 55]), (9, [1, 2, 3, 4, 52, 53, 54]), (10, [1, 2, 52, 53, 54, 70]), (11, [2]), (12, [1, 2, 52, 53, 54]), (13, [2, 73]), (14, [2, 5, 75]), (15, [2, 5, 6]), (16, [2, 79]), (18, [2])]) (by kernel_rfl) (fnOK_of Tryz.func141 (by kernel_rfl) (by kernel_rfl) (by kernel_rfl))
def ic142 : IC :=
 (.seq
 (.reg 0 [oM 2 (cB false)] [0])
 (.seq
 (.seq
 (.reg 1 [oM 4 0, oQ 5 (.len 1 4), oQ 6 (.bin .lss 5 (cI 1)), oM 7 6, gQ 8 7 false (.mov 0), gQ 9 7 false (.len 1 8), gQ 10 7 false (.bin .gtr 9 (cI 64)), oQ 11 (.pick 7 (cB true) 10), oM 12 11, gQ 13 12 false (.mov 0), gQ 14 12 false (.bin .eql 13 (.c (.str [97, 110, 100]))), oQ 15 (.pick 12 (cB true) 14), oM 16 15, gQ 17 16 false (.mov 0), gQ 18 16 false (.bin .eql 17 (.c (.str [111, 114]))), oQ 19 (.pick 16 (cB true) 18), oM 20 19, gQ 21 20 false (.mov 0), gQ 22 20 false (.bin .eql 21 (.c (.str [105, 102]))), oQ 23 (.pick 20 (cB true) 22), oM 24 23, gQ 25 24 false (.mov 0), gQ 26 24 false (.bin .eql 25 (.c (.str [101, 108, 115, 101]))), oQ 27 (.pick 24 (cB true) 26), oM 28 27, gQ 29 28 false (.mov 0), gQ 30 28 false (.bin .eql 29 (.c (.str [117, 110, 108, 101, 115, 115]))), oQ 31 (.pick 28 (cB true) 30), oM 32 31, gQ 33 32 false (.mov 0), gQ 34 32 false (.bin .eql 33 (.c (.str [119, 105, 116, 104]))), oQ 35 (.pick 32 (cB true) 34), oM 36 35, gQ 37 36 false (.mov 0), gQ 38 36 false (.bin .eql 37 (.c (.str [119, 105, 116, 104, 111, 117, 116]))), oQ 39 (.pick 36 (cB true) 38)] [0, 39])
 (.cond 39
 (.seq
 (.reg 2 [oM 2 (cB false)] [2])
 .ret)
 .skip))
 (.seq
 (.seq
 (.reg 3 [oM 3 (cI 0)] [0, 3])
 (.block 0
 (.loop
 (.seq
 (.seq
 (.reg 4 [oM 40 3, oM 41 0, oQ 42 (.len 1 41), oQ 43 (.bin .lss 40 42)] [0, 3, 43])
 (.cond 43
 .skip
 (.exit 0)))
 (.seq
 (.block 1
 (.seq
 (.reg 6 [oM 46 0, oM 47 3, oQ 48 (.istr 46 47), oK 49 (.call 204 [48]), oQ 50 (.not 49)] [0, 3, 50])
 (.cond 50
 (.seq
 (.reg 7 [oM 2 (cB false)] [2])
 .ret)
 .skip)))
 (.reg 5 [oM 44 3, oQ 45 (.bin .add 44 (cI 1)), oM 3 45] [0, 3]))))))
 (.seq
 (.reg 8 [oM 2 (cB true)] [2])
 .ret))))
theorem fok142 : FOK Tryz.prog 142 (51, ic142, [(.t 2)]) := fokA [] Tryz.func142 (by kernel_rfl) (by kernel_rfl) (by kernel_rfl) (by kernel_rfl)
def ic143 : IC :=
 (.seq
 (.reg 0 [oM 2 (cB false)] [0])
 (.seq
 (.reg 1 [oM 3 0, oK 4 (.call 142 [3]), oM 5 4, gQ 6 5 true (.mov 0), gQ 7 5 true (.istr 6 (cI 0)), gQ 8 5 true (.bin .eql 7 (.c (zU 47))), oQ 9 (.pick 5 8 (cB false)), oM 2 9] [2])
 .ret))
theorem fok143 : FOK Tryz.prog 143 (10, ic143, [(.t 2)]) := fokA [] Tryz.func143 (by kernel_rfl) (by kernel_rfl) (by kernel_rfl) (by kernel_rfl)
def ic144 : IC :=
 (.seq
 (.reg 0 [oK 2 (.boxt 0), oM 4 (cB false)] [1, 2])
 (.seq
 (.seq
 (.reg 1 [oQ 5 (.faddr 0 2), oQ 6 (.load none 5), oQ 7 (.bin .lss 6 (cI 0)), oM 8 7, gQ 9 8 false (.faddr 0 2), gQ 10 8 false (.load none 9), gQ 11 8 false (.bin .gtr 10 (cI 2147483647)), oQ 12 (.pick 8 (cB true) 11), oM 13 12, gQ 14 13 false (.faddr 1 2), gQ 15 13 false (.load none 14), gK 16 13 false (.call 205 [15]), gQ 17 13 false (.not 16), oQ 18 (.pick 13 (cB true) 17)] [1, 2, 18])
 (.cond 18
 (.seq
 (.reg 2 [oM 4 (cB false)] [4])
 .ret)
 .skip))
 (.seq
 (.seq
 (.reg 3 [oQ 19 (.faddr 2 2), oQ 20 (.load none 19), oQ 21 (.bin .eql 20 (.c (.str [])))] [1, 2, 21])
 (.cond 21
 (.seq
 (.reg 4 [oM 22 1, oM 4 22] [4])
 .ret)
 .skip))
 (.seq
 (.reg 5 [oQ 23 (.faddr 2 2), oQ 24 (.load none 23), oK 25 (.call 205 [24]), oM 4 25] [4])
 .ret))))
theorem fok144 : FOK Tryz.prog 144 (26, ic144, [(.t 4)]) := fokA [1000002] Tryz.func144 (by kernel_rfl) (by kernel_rfl) (by kernel_rfl) (by kernel_rfl)
def ic145 : IC :=
 (.seq
 (.reg 0 [oM 2 (.c (.str []))] [0])
 (.seq
 (.seq
 (.reg 1 [oM 3 0] [3])
 (.block 0
 (.seq
 (.reg 2 [oQ 5 (.bin .eql 3 (.c (zU 1))), oM 4 5] [3, 4])
 (.cond 4
 (.seq
 (.reg 3 [oM 2 (.c (.str [110, 111, 97, 114, 99, 104]))] [2])
 .ret)
 (.seq
 (.reg 4 [oQ 7 (.bin .eql 3 (.c (zU 2))), oM 6 7] [3, 6])
 (.cond 6
 (.seq
 (.reg 5 [oM 2 (.c (.str [120, 56, 54, 95, 54, 52]))] [2])
 .ret)
 (.seq
 (.reg 6 [oQ 9 (.bin .eql 3 (.c (zU 3))), oM 8 9] [3, 8])
 (.cond 8
 (.seq
 (.reg 7 [oM 2 (.c (.str [105, 54, 56, 54]))] [2])
 .ret)
 (.seq
 (.reg 8 [oQ 11 (.bin .eql 3 (.c (zU 4))), oM 10 11] [10])
 (.cond 10
 (.seq
 (.reg 9 [oM 2 (.c (.str [97, 97, 114, 99, 104, 54, 52]))] [2])
 .ret)
 .skip))))))))))
 (.seq
 (.reg 10 [oM 2 (.c (.str []))] [2])
 .ret)))
theorem fok145 : FOK Tryz.prog 145 (12, ic145, [(.t 2)]) := fokA [] Tryz.func145 (by kernel_rfl) (by kernel_rfl) (by kernel_rfl) (by kernel_rfl)
def ic146 : IC :=
 (.seq
 (.reg 0 [oM 2 (cB false)] [0])
 (.seq
 (.seq
 (.reg 1 [oM 4 0, oQ 5 (.len 0 4), oQ 6 (.bin .gtr 5 (cI 32))] [0, 6])
 (.cond 6
 (.seq
 (.reg 2 [oM 2 (cB false)] [2])
 .ret)
 .skip))
 (.seq
 (.seq
 (.reg 3 [oM 3 (cI 0)] [0, 3])
 (.block 0
 (.loop
 (.seq
 (.seq
 (.reg 4 [oM 7 3, oM 8 0, oQ 9 (.len 0 8), oQ 10 (.bin .lss 7 9)] [0, 3, 10])
 (.cond 10
 .skip
 (.exit 0)))
 (.seq
 (.block 1
 (.seq
 (.reg 6 [oM 13 0, oM 14 3, oQ 15 (.iaddr 5 13 14), oQ 16 (.load (some 5) 15), oK 17 (.call 99 [16]), oQ 18 (.not 17)] [0, 3, 18])
 (.cond 18
 (.seq
 (.reg 7 [oM 2 (cB false)] [2])
 .ret)
 .skip)))
 (.reg 5 [oM 11 3, oQ 12 (.bin .add 11 (cI 1)), oM 3 12] [0, 3]))))))
 (.seq
 (.reg 8 [oM 2 (cB true)] [2])
 .ret))))
theorem fok146 : FOK Tryz.prog 146 (19, ic146, [(.t 2)]) := fokA [] Tryz.func146 (by kernel_rfl) (by kernel_rfl) (by kernel_rfl) (by kernel_rfl)
def ic147 : IC :=
 (.seq
 (.reg 0 [oM 4 (cB false)] [0, 1])
 (.seq
 (.seq
 (.reg 1 [oM 6 0, oQ 7 (.len 0 6), oQ 8 (.bin .gtr 7 (cI 32))] [0, 1, 8])
 (.cond 8
 (.seq
 (.reg 2 [oM 4 (cB false)] [4])
 .ret)
 .skip))
 (.seq
 (.seq
 (.reg 3 [oM 5 (cI 0)] [0, 1, 5])
 (.block 0
 (.loop
 (.seq
 (.seq
 (.reg 4 [oM 9 5, oM 10 0, oQ 11 (.len 0 10), oQ 12 (.bin .lss 9 11)] [0, 1, 5, 12])
 (.cond 12
 .skip
 (.exit 0)))
 (.seq
 (.block 1
 (.seq
 (.reg 6 [oM 15 0, oM 16 5, oQ 17 (.iaddr 7 15 16), oQ 18 (.load (some 7) 17), oM 19 1, oK 20 (.call 206 [18, 19]), oQ 21 (.bin .neq 20 (cI 0))] [0, 1, 5, 21])
 (.cond 21
 (.seq
 (.reg 7 [oM 4 (cB false)] [4])
 .ret)
 .skip)))
 (.reg 5 [oM 13 5, oQ 14 (.bin .add 13 (cI 1)), oM 5 14] [0, 1, 5]))))))
 (.seq
 (.reg 8 [oM 4 (cB true)] [4])
 .ret))))
theorem fok147 : FOK Tryz.prog 147 (22, ic147, [(.t 4)]) := fokA [] Tryz.func147 (by kernel_rfl) (by kernel_rfl) (by kernel_rfl) (by kernel_rfl)
def ic148 : IC :=
(.seq
 (.reg 0 [⟨(some 2), none, (.q (.mov (.c .nilslice)))⟩] [0])
 (.seq
  (.reg 1 [⟨(some 3), none, (.q (.mov (.c .nilslice)))⟩] [0, 3])
  (.seq
   (.seq
    (.reg 2 [⟨(some 4), none, (.q (.mov (.c (.int .i64 0))))⟩] [0, 3, 4])
    (.block 0
     (.loop
      (.seq
       (.seq
        (.reg 3 [⟨(some 5), none, (.q (.mov (.t 4)))⟩, ⟨(some 6), none, (.q (.mov (.t 0)))⟩, ⟨(some 7), none, (.q (.len 0 (.t 6)))⟩, ⟨(some 8), none, (.q (.bin .lss (.t 5) (.t 7)))⟩] [0, 3, 4, 8])
        (.cond (.t 8)
         .skip
         (.exit 0)))
       (.seq
        (.block 1
         (.reg 5 [⟨(some 11), none, (.q (.mov (.t 3)))⟩, ⟨(some 12), none, (.q (.mov (.t 0)))⟩, ⟨(some 13), none, (.q (.mov (.t 4)))⟩, ⟨(some 14), none, (.q (.iaddr 7 (.t 12) (.t 13)))⟩, ⟨(some 15), none, (.q (.load (some 7) (.t 14)))⟩, ⟨(some 16), none, (.call 207 [(.t 15)])⟩, ⟨(some 17), none, (.bslt 7 1 [(.int .u8 0), (.str []), (.int .u8 0), (.int .i64 0), (.str []), (.str []), .nilslice] [⟨0, ⟨7, (.t 16)⟩⟩])⟩, ⟨(some 18), none, (.app 7 (.t 11) (.t 17))⟩, ⟨(some 3), none, (.q (.mov (.t 18)))⟩] [0, 3, 4]))
        (.reg 4 [⟨(some 9), none, (.q (.mov (.t 4)))⟩, ⟨(some 10), none, (.q (.bin .add (.t 9) (.c (.int .i64 1))))⟩, ⟨(some 4), none, (.q (.mov (.t 10)))⟩] [0, 3, 4]))))))
   (.seq
    (.reg 6 [⟨(some 19), none, (.q (.mov (.t 3)))⟩, ⟨(some 2), none, (.q (.mov (.t 19)))⟩] [2])
    .ret))))
theorem fok148 : FOK Tryz.prog 148 (20, ic148, [(.t 2)]) := .mk (pf := [1000017]) (an := [(0, [0]), (1, [0, 3]), (2, [0, 3, 4]), (3, [0, 3, 4, 8]), (4, [0, 3, 4]), (5, [0, 3, 4]), (6, [2])]) (by kernel_rfl) (fnOK_of Tryz.func148 (by kernel_rfl) (by kernel_rfl) (by kernel_rfl))
def ic149 : IC :=
(.seq
 (.reg 0 [⟨(some 2), none, (.q (.mov (.c (.bool false))))⟩] [0])
 (.seq
  (.reg 1 [⟨(some 3), none, (.q (.mov (.t 0)))⟩, ⟨(some 4), none, (.q (.bin .geq (.t 3) (.c (.int .u8 1))))⟩, ⟨(some 5), none, (.q (.mov (.t 4)))⟩, ⟨(some 6), (some ⟨5, true⟩), (.q (.mov (.t 0)))⟩, ⟨(some 7), (some ⟨5, true⟩), (.q (.bin .leq (.t 6) (.c (.int .u8 4))))⟩, ⟨(some 8), none, (.q (.pick (.t 5) (.t 7) (.c (.bool false))))⟩, ⟨(some 2), none, (.q (.mov (.t 8)))⟩] [2])
  .ret))
theorem fok149 : FOK Tryz.prog 149 (9, ic149, [(.t 2)]) := .mk (pf := []) (an := [(0, [0]), (1, [2])]) (by kernel_rfl) (fnOK_of Tryz.func149 (by kernel_rfl) (by kernel_rfl) (by kernel_rfl))
def ic150 : IC :=
 (.seq
 (.reg 0 [oM 4 (cI 0)] [0, 1])
 (.seq
 (.seq
 (.reg 1 [oM 6 0, oQ 7 (.len 0 6), oM 8 (cI 0)] [0, 1, 7, 8])
 (.block 0
 (.loop
 (.seq
 (.reg 2 [oQ 9 (.bin .lss 8 7)] [0, 1, 7, 8, 9])
 (.seq
 (.cond 9
 .skip
 (.exit 0))
 (.seq
 (.block 1
 (.seq
 (.reg 3 [oM 10 8, oM 5 10] [0, 1, 5, 7, 8])
 (.seq
 (.reg 4 [oM 11 1, oM 12 0, oM 13 5, oQ 14 (.iaddr 6 12 13), oQ 15 (.load (some 6) 14), oK 16 (.callv 11 [15])] [0, 1, 5, 7, 8, 16])
 (.cond 16
 (.seq
 (.reg 5 [oM 17 5, oM 4 17] [4])
 .ret)
 .skip))))
 (.reg 6 [oQ 18 (.bin .add 8 (cI 1)), oM 8 18] [0, 1, 7, 8])))))))
 (.seq
 (.reg 7 [oM 4 (cI (-1))] [4])
 .ret)))
theorem fok150 : FOK Tryz.prog 150 (19, ic150, [(.t 4)]) := fokA [] Tryz.func150 (by kernel_rfl) (by kernel_rfl) (by kernel_rfl) (by kernel_rfl)
def ic151 : IC :=
(.seq
 (.reg 0 [⟨(some 2), none, (.q (.mov (.c (.bool false))))⟩] [0])
 (.seq
  (.seq
   (.reg 1 [⟨(some 7), none, (.q (.mov (.t 0)))⟩, ⟨(some 8), none, (.q (.len 1 (.t 7)))⟩, ⟨(some 9), none, (.q (.bin .lss (.t 8) (.c (.int .i64 1))))⟩, ⟨(some 10), none, (.q (.mov (.t 9)))⟩, ⟨(some 11), (some ⟨10, false⟩), (.q (.mov (.t 0)))⟩, ⟨(some 12), (some ⟨10, false⟩), (.q (.len 1 (.t 11)))⟩, ⟨(some 13), (some ⟨10, false⟩), (.q (.bin .gtr (.t 12) (.c (.int .i64 64))))⟩, ⟨(some 14), none, (.q (.pick (.t 10) (.c (.bool true)) (.t 13)))⟩] [0, 14])
   (.cond (.t 14)
    (.seq
     (.reg 2 [⟨(some 2), none, (.q (.mov (.c (.bool false))))⟩] [2])
     .ret)
    .skip))
  (.seq
   (.seq
    (.reg 3 [⟨(some 15), none, (.q (.mov (.t 0)))⟩, ⟨(some 16), none, (.srange (.t 15))⟩] [0, 16])
    (.block 0
     (.loop
      (.seq
       (.reg 4 [⟨(some 17), none, (.snext (.t 16))⟩, ⟨(some 18), none, (.q (.ext 0 (.t 17)))⟩] [0, 16, 17, 18])
       (.seq
        (.cond (.t 18)
         .skip
         (.exit 0))
        (.block 1
         (.seq
          (.reg 5 [⟨(some 19), none, (.q (.ext 2 (.t 17)))⟩, ⟨(some 4), none, (.q (.mov (.t 19)))⟩] [0, 4, 16])
          (.seq
           (.reg 6 [⟨(some 20), none, (.q (.mov (.t 4)))⟩, ⟨(some 21), none, (.q (.bin .gtr (.t 20) (.c (.int .i32 126))))⟩, ⟨(some 22), none, (.q (.mov (.t 21)))⟩, ⟨(some 23), (some ⟨22, false⟩), (.q (.mov (.t 4)))⟩, ⟨(some 24), (some ⟨22, false⟩), (.q (.conv .u8 (.t 23)))⟩, ⟨(some 25), (some ⟨22, false⟩), (.call 208 [(.c (.str [97, 98, 99, 100, 101, 102, 103, 104, 105, 106, 107, 108, 109, 110, 111, 112, 113, 114, 115, 116, 117, 118, 119, 120, 121, 122, 65, 66, 67, 68, 69, 70, 71, 72, 73, 74, 75, 76, 77, 78, 79, 80, 81, 82, 83, 84, 85, 86, 87, 88, 89, 90, 48, 49, 50, 51, 52, 53, 54, 55, 56, 57, 46, 95, 43, 45, 47, 58, 64, 126, 94])), (.t 24)])⟩, ⟨(some 26), (some ⟨22, false⟩), (.q (.bin .lss (.t 25) (.c (.int .i64 0))))⟩, ⟨(some 27), none, (.q (.pick (.t 22) (.c (.bool true)) (.t 26)))⟩] [0, 16, 27])
           (.cond (.t 27)
            (.seq
            (.reg 7 [⟨(some 2), none, (.q (.mov (.c (.bool false))))⟩] [2])
            .ret)
            .skip)))))))))
   (.seq
    (.seq
     (.reg 8 [⟨(some 28), none, (.q (.load (some 7) (.g 0)))⟩, ⟨(some 29), none, (.q (.mov (.c (.int .i64 0))))⟩] [0, 28, 29])
     (.block 2
      (.loop
       (.seq
        (.reg 9 [⟨(some 30), none, (.q (.bin .lss (.t 29) (.c (.int .i64 7))))⟩] [0, 28, 29, 30])
        (.seq
         (.cond (.t 30)
          .skip
          (.exit 2))
         (.seq
          (.block 3
           (.seq
            (.reg 10 [⟨(some 31), none, (.q (.idx none 7 1 (.t 28) (.t 29)))⟩, ⟨(some 6), none, (.q (.mov (.t 31)))⟩] [0, 6, 28, 29])
            (.seq
            (.reg 11 [⟨(some 32), none, (.q (.mov (.t 0)))⟩, ⟨(some 33), none, (.q (.mov (.t 6)))⟩, ⟨(some 34), none, (.q (.bin .eql (.t 32) (.t 33)))⟩] [0, 28, 29, 34])
            (.cond (.t 34)
            (.seq
            (.reg 12 [⟨(some 2), none, (.q (.mov (.c (.bool false))))⟩] [2])
            .ret)
            .skip))))
          (.reg 13 [⟨(some 35), none, (.q (.bin .add (.t 29) (.c (.int .i64 1))))⟩, ⟨(some 29), none, (.q (.mov (.t 35)))⟩] [0, 28, 29])))))))
    (.seq
     (.reg 14 [⟨(some 2), none, (.q (.mov (.c (.bool true))))⟩] [2])
     .ret)))))
theorem fok151 : FOK Tryz.prog 151 (36, ic151, [(.t 2)]) := .mk (pf := []) (an := [(0, [0]), (1, [0, 14]), (2, [2]), (3, [0, 16]), (4, [0, 16, 17, 18]), (5, [0, 4, 16]), (6, [0, 16, 27]), (7, [2]), (8, [0, 28, 29]), (9, [0, 28, 29, 30]), (10, [0, 6, 28, 29]), (11, [0, 28, 29, 34]), (12, [2]), (13, [0, 28, 29]), (14, [2])]) (by kernel_rfl) (fnOK_of Tryz.func151 (by kernel_rfl) (by kernel_rfl) (by kernel_rfl))
def ic152 : IC :=
(.seq
 (.reg 0 [⟨(some 2), none, (.q (.mov (.c (.bool false))))⟩] [0])
 (.seq
  (.reg 1 [⟨(some 3), none, (.q (.mov (.t 0)))⟩, ⟨(some 4), none, (.q (.bin .eql (.t 3) (.c (.int .u8 0))))⟩, ⟨(some 5), none, (.q (.mov (.t 4)))⟩, ⟨(some 6), (some ⟨5, false⟩), (.q (.mov (.t 0)))⟩, ⟨(some 7), (some ⟨5, false⟩), (.call 209 [(.t 6)])⟩, ⟨(some 8), (some ⟨5, false⟩), (.q (.bin .neq (.t 7) (.c (.str []))))⟩, ⟨(some 9), none, (.q (.pick (.t 5) (.c (.bool true)) (.t 8)))⟩, ⟨(some 2), none, (.q (.mov (.t 9)))⟩] [2])
  .ret))
theorem fok152 : FOK Tryz.prog 152 (10, ic152, [(.t 2)]) := .mk (pf := []) (an := [(0, [0]), (1, [2])]) (by kernel_rfl) (fnOK_of Tryz.func152 (by kernel_rfl) (by kernel_rfl) (by kernel_rfl))
def ic153 : IC :=
(.seq
 (.reg 0 [⟨(some 2), none, (.q (.mov (.c (.bool false))))⟩] [0])
 (.seq
  (.reg 1 [⟨(some 3), none, (.q (.mov (.t 0)))⟩, ⟨(some 4), none, (.call 151 [(.t 3)])⟩, ⟨(some 5), none, (.q (.mov (.t 4)))⟩, ⟨(some 6), (some ⟨5, true⟩), (.q (.mov (.t 0)))⟩, ⟨(some 7), (some ⟨5, true⟩), (.call 210 [(.t 6), (.c (.str [47]))])⟩, ⟨(some 8), none, (.q (.pick (.t 5) (.t 7) (.c (.bool false))))⟩, ⟨(some 2), none, (.q (.mov (.t 8)))⟩] [2])
  .ret))
theorem fok153 : FOK Tryz.prog 153 (9, ic153, [(.t 2)]) := .mk (pf := []) (an := [(0, [0]), (1, [2])]) (by kernel_rfl) (fnOK_of Tryz.func153 (by kernel_rfl) (by kernel_rfl) (by kernel_rfl))
def ic154 : IC :=
(.seq
 (.reg 0 [⟨(some 2), none, (.boxt (.t 0))⟩, ⟨(some 4), none, (.q (.mov (.c (.bool false))))⟩] [1, 2])
 (.seq
  (.reg 1 [⟨(some 5), none, (.q (.faddr 0 (.t 2)))⟩, ⟨(some 6), none, (.q (.load none (.t 5)))⟩, ⟨(some 7), none, (.q (.bin .geq (.t 6) (.c (.int .i64 0))))⟩, ⟨(some 8), none, (.q (.mov (.t 7)))⟩, ⟨(some 9), (some ⟨8, true⟩), (.q (.faddr 0 (.t 2)))⟩, ⟨(some 10), (some ⟨8, true⟩), (.q (.load none (.t 9)))⟩, ⟨(some 11), (some ⟨8, true⟩), (.q (.bin .leq (.t 10) (.c (.int .i64 2147483647))))⟩, ⟨(some 12), none, (.q (.pick (.t 8) (.t 11) (.c (.bool false))))⟩, ⟨(some 13), none, (.q (.mov (.t 12)))⟩, ⟨(some 14), (some ⟨13, true⟩), (.q (.faddr 1 (.t 2)))⟩, ⟨(some 15), (some ⟨13, true⟩), (.q (.load none (.t 14)))⟩, ⟨(some 16), (some ⟨13, true⟩), (.call 211 [(.t 15)])⟩, ⟨(some 17), none, (.q (.pick (.t 13) (.t 16) (.c (.bool false))))⟩, ⟨(some 18), none, (.q (.mov (.t 17)))⟩, ⟨(some 19), (some ⟨18, true⟩), (.q (.faddr 2 (.t 2)))⟩, ⟨(some 20), (some ⟨18, true⟩), (.q (.load none (.t 19)))⟩, ⟨(some 21), (some ⟨18, true⟩), (.call 211 [(.t 20)])⟩, ⟨(some 22), (some ⟨18, true⟩), (.q (.mov (.t 21)))⟩, ⟨(some 23), (some ⟨22, false⟩), (.q (.mov (.t 1)))⟩, ⟨(some 24), (some ⟨22, false⟩), (.q (.mov (.t 23)))⟩, ⟨(some 25), (some ⟨24, true⟩), (.q (.faddr 2 (.t 2)))⟩, ⟨(some 26), (some ⟨24, true⟩), (.q (.load none (.t 25)))⟩, ⟨(some 27), (some ⟨24, true⟩), (.q (.bin .eql (.t 26) (.c (.str []))))⟩, ⟨(some 28), (some ⟨22, false⟩), (.q (.pick (.t 24) (.t 27) (.c (.bool false))))⟩, ⟨(some 29), (some ⟨18, true⟩), (.q (.pick (.t 22) (.c (.bool true)) (.t 28)))⟩, ⟨(some 30), none, (.q (.pick (.t 18) (.t 29) (.c (.bool false))))⟩, ⟨(some 4), none, (.q (.mov (.t 30)))⟩] [4])
  .ret))
theorem fok154 : FOK Tryz.prog 154 (31, ic154, [(.t 4)]) := .mk (pf := [1000002]) (an := [(0, [1, 2]), (1, [4])]) (by kernel_rfl) (fnOK_of Tryz.func154 (by kernel_rfl) (by kernel_rfl) (by kernel_rfl))
def ic155 : IC :=
 (.seq
 (.reg 0 [oM 4 (cI 0)] [0, 1])
 (.seq
 (.seq
 (.reg 1 [oM 6 0, oQ 7 (.len 0 6), oM 8 (cI 0)] [0, 1, 7, 8])
 (.block 0
 (.loop
 (.seq
 (.reg 2 [oQ 9 (.bin .lss 8 7)] [0, 1, 7, 8, 9])
 (.seq
 (.cond 9
 .skip
 (.exit 0))
 (.seq
 (.block 1
 (.seq
 (.reg 3 [oM 10 8, oM 5 10] [0, 1, 5, 7, 8])
 (.seq
 (.reg 4 [oM 11 1, oM 12 0, oM 13 5, oQ 14 (.iaddr 2 12 13), oQ 15 (.load (some 2) 14), oK 16 (.callv 11 [15])] [0, 1, 5, 7, 8, 16])
 (.cond 16
 (.seq
 (.reg 5 [oM 17 5, oM 4 17] [4])
 .ret)
 .skip))))
 (.reg 6 [oQ 18 (.bin .add 8 (cI 1)), oM 8 18] [0, 1, 7, 8])))))))
 (.seq
 (.reg 7 [oM 4 (cI (-1))] [4])
 .ret)))
theorem fok155 : FOK Tryz.prog 155 (19, ic155, [(.t 4)]) := fokA [] Tryz.func155 (by kernel_rfl) (by kernel_rfl) (by kernel_rfl) (by kernel_rfl)
def ic156 : IC :=
 (.seq
 (.reg 0 [oM 2 (.c .nilslice)] [0])
 (.seq
 (.seq
 (.reg 1 [oM 3 0, oQ 4 (.isnil (.slice 57) false 3)] [0, 4])
 (.cond 4
 (.seq
 (.reg 2 [oM 2 (.c .nilslice)] [2])
 .ret)
 .skip))
 (.seq
 (.reg 3 [oK 5 (.bsl 6 0 [(zU 0), (.str []), (zU 0), (zI 0), (.str []), (.str [])] []), oM 6 0, oK 7 (.app 6 5 6), oM 2 7] [2])
 .ret)))
theorem fok156 : FOK Tryz.prog 156 (8, ic156, [(.t 2)]) := fokA [] Tryz.func156 (by kernel_rfl) (by kernel_rfl) (by kernel_rfl) (by kernel_rfl)
def ic157 : IC :=
 (.seq
 (.reg 0 [oM 2 (.c .nilslice)] [0])
 (.seq
 (.seq
 (.reg 1 [oM 3 0, oQ 4 (.isnil (.slice 60) false 3)] [0, 4])
 (.cond 4
 (.seq
 (.reg 2 [oM 2 (.c .nilslice)] [2])
 .ret)
 .skip))
 (.seq
 (.reg 3 [oK 5 (.bsl 2 0 [(zU 0), (zI 0)] []), oM 6 0, oK 7 (.app 2 5 6), oM 2 7] [2])
 .ret)))
theorem fok157 : FOK Tryz.prog 157 (8, ic157, [(.t 2)]) := fokA [] Tryz.func157 (by kernel_rfl) (by kernel_rfl) (by kernel_rfl) (by kernel_rfl)
def ic158 : IC :=
 (.seq
 (.reg 0 [oM 2 (cB false)] [0])
 (.seq
 (.reg 1 [oM 3 0, oQ 4 (.bin .eql 3 (.c (zU 0))), oM 5 4, gQ 6 5 false (.mov 0), gQ 7 5 false (.bin .eql 6 (.c (zU 1))), oQ 8 (.pick 5 (cB true) 7), oM 9 8, gQ 10 9 false (.mov 0), gQ 11 9 false (.bin .eql 10 (.c (zU 2))), oQ 12 (.pick 9 (cB true) 11), oM 13 12, gQ 14 13 false (.mov 0), gQ 15 13 false (.bin .eql 14 (.c (zU 3))), oQ 16 (.pick 13 (cB true) 15), oM 17 16, gQ 18 17 false (.mov 0), gQ 19 17 false (.bin .eql 18 (.c (zU 4))), oQ 20 (.pick 17 (cB true) 19), oM 21 20, gQ 22 21 false (.mov 0), gQ 23 21 false (.bin .eql 22 (.c (zU 6))), oQ 24 (.pick 21 (cB true) 23), oM 2 24] [2])
 .ret))
theorem fok158 : FOK Tryz.prog 158 (25, ic158, [(.t 2)]) := fokA [] Tryz.func158 (by kernel_rfl) (by kernel_rfl) (by kernel_rfl) (by kernel_rfl)
def ic159 : IC :=
 (.seq
 (.reg 0 [oK 3 (.boxt 1), oM 4 (.c .nilslice)] [0, 3])
 (.seq
 (.seq
 (.reg 1 [oM 5 0, oQ 6 (.isnil (.pointer 180) false 5)] [0, 3, 6])
 (.cond 6
 (.seq
 (.reg 2 [oM 4 (.c .nilslice)] [4])
 .ret)
 .skip))
 (.seq
 (.dreg 3 [oM 7 0, oM 8 0, oQ 9 (.nchk 8), oQ 10 (.faddr 1 9), oQ 11 (.load none 10), oQ 12 (.faddr 0 3), oQ 13 (.load none 12), oQ 14 (.lkp 2 .nilslice false 11 13), oQ 15 (.mkf 212 [] [3]), oK 16 (.call 129 [7, 14, 15]), oM 4 16] false [4])
 .ret)))
theorem fok159 : FOK Tryz.prog 159 (17, ic159, [(.t 4)]) := fokA [1000003] Tryz.func159 (by kernel_rfl) (by kernel_rfl) (by kernel_rfl) (by kernel_rfl)
def ic160 : IC :=
 (.seq
 (.reg 0 [oM 3 (cB false)] [0, 1])
 (.seq
 (.reg 1 [oQ 4 (.load none 1), oM 5 0, oK 6 (.call 119 [4, 5]), oQ 7 (.not 6), oM 3 7] [3])
 .ret))
theorem fok160 : FOK Tryz.prog 160 (8, ic160, [(.t 3)]) := fokA [] Tryz.func160 (by kernel_rfl) (by kernel_rfl) (by kernel_rfl) (by kernel_rfl)
def ic161 : IC :=
 (.seq
 (.reg 0 [oM 3 (cB false)] [0, 1])
 (.seq
 (.reg 1 [oQ 4 (.load none 1), oM 5 0, oK 6 (.call 119 [4, 5]), oM 7 6, gQ 8 7 false (.load none 1), gQ 9 7 false (.mov 0), gK 10 7 false (.call 70 [8, 9]), gQ 11 7 false (.not 10), oQ 12 (.pick 7 (cB true) 11), oM 3 12] [3])
 .ret))
theorem fok161 : FOK Tryz.prog 161 (13, ic161, [(.t 3)]) := fokA [] Tryz.func161 (by kernel_rfl) (by kernel_rfl) (by kernel_rfl) (by kernel_rfl)
end Go.Id.Tryz
