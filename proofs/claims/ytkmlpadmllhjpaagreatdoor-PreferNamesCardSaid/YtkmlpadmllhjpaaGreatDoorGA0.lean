/- The compiled codes of functions, written by a program out of the given form. Conditions: none. -/
import Derived.Test.YtkmlpadmllhjpaaGreatDoorFwW
import Derived.Test.YtkmlpadmllhjpaaGreatDoorProg
set_option linter.all false
namespace Go.Id.Tryz
open Go Go.Id Go.Proofs
def allF0 : List Nat := List.range 310
/-- chandlery/chandlerylaw25.PreferNames -/
def ic5 : IC :=
 (.seq
 (.reg 0 [oM 0 (cB false)] [])
 (.seq
 (.reg 1 [oM 1 (.c .nilptr)] [1])
 (.seq
 (.reg 2 [oK 19 (.call 33 [(.c .nilptr)]), oM 18 19, oQ 20 (.ext 0 18), oQ 21 (.ext 1 18), oM 2 20, oM 3 21] [1, 3])
 (.seq
 (.seq
 (.reg 3 [oK 22 (.call 34 []), oQ 23 (.not 22), oM 24 23, oQ 25 (.pick 24 (cB true) (cB false)), oM 26 25, oQ 27 (.pick 26 (cB true) (cB false)), oM 28 27, gQ 29 28 false (.mov 3), gQ 30 28 false (.bin .neq 29 (cI 2)), oQ 31 (.pick 28 (cB true) 30), oM 32 31, gQ 33 32 false (.mov 1), gK 34 32 false (.call 35 [33, (cI 0)]), oQ 35 (.pick 32 (cB true) 34), oM 36 35, gQ 37 36 false (.mov 1), gK 38 36 false (.call 36 [37, (cI 0), (cI 1)]), oQ 39 (.pick 36 (cB true) 38), oM 40 39, gQ 41 40 false (.mov 1), gK 42 40 false (.bslt 1 1 [(zI 0)] [⟨0, ⟨1, (cI 0)⟩⟩]), gK 43 40 false (.call 37 [41, 42]), gQ 44 40 false (.len 0 43), gQ 45 40 false (.mov 1), gK 46 40 false (.call 38 [45, (cI 0)]), gQ 47 40 false (.len 0 46), gQ 48 40 false (.bin .add 44 47), gQ 49 40 false (.mov 1), gK 50 40 false (.call 39 [49, (cI 0)]), gQ 51 40 false (.len 0 50), gQ 52 40 false (.bin .add 48 51), gQ 53 40 false (.mov 1), gK 54 40 false (.call 40 [53, (cI 0)]), gQ 55 40 false (.len 0 54), gQ 56 40 false (.bin .add 52 55), gQ 57 40 false (.bin .neq 56 (cI 0)), oQ 58 (.pick 40 (cB true) 57)] [58])
 (.cond 58
 (.seq
 (.reg 4 [oM 0 (cB false)] [0])
 .ret)
 .skip))
 (.seq
 (.reg 5 [oM 4 (.f 41)] [4])
 (.seq
 (.reg 6 [oK 59 (.pcall 42 [(.c (.str [97])), (.c (.str [50]))]), oK 60 (.pcall 42 [(.c (.str [98])), (.c (.str [49]))]), oK 61 (.bsl 15 2 [(.str []), (zI 0), (.str []), (.str []), (zU 0), (.str []), .nilslice, .nilslice, .nilslice, .nilslice, .nilslice, .nilslice, .nilslice, .nilslice, .nilslice] [⟨0, ⟨15, 59⟩⟩, ⟨15, ⟨15, 60⟩⟩]), oM 5 61] [4, 5])
 (.seq
 (.reg 7 [oM 62 5, oM 63 4, oK 64 (.callv 63 [(.c (.str [99]))]), oM 65 4, oK 66 (.callv 65 [(.c (.str [120]))]), oK 67 (.bslt 7 2 [(zU 0), (.str []), (zU 0), (zI 0), (.str []), (.str []), .nilslice] [⟨0, ⟨7, 64⟩⟩, ⟨7, ⟨7, 66⟩⟩]), oQ 68 (.bld [(zU 0), (.str []), (zU 0), (zI 0), (.str []), (.str []), .nilslice] [⟨0, ⟨1, (.c (zU 4))⟩⟩, ⟨6, ⟨1, 67⟩⟩]), oK 69 (.bslt 7 1 [(zU 0), (.str []), (zU 0), (zI 0), (.str []), (.str []), .nilslice] [⟨0, ⟨7, 68⟩⟩]), oQ 70 (.iaddr 15 62 (cI 0)), oQ 71 (.faddr 12 70), oN (.store 1 71 69)] [4, 5])
 (.seq
 (.reg 8 [oK 72 (.pcall 42 [(.c (.str [99])), (.c (.str [49]))]), oK 73 (.pcall 42 [(.c (.str [100])), (.c (.str [49]))]), oK 74 (.pcall 42 [(.c (.str [101])), (.c (.str [57]))]), oK 6 (.alloc [(.str []), (zI 0), (.str []), (.str []), (zU 0), (.str []), .nilslice, .nilslice, .nilslice, .nilslice, .nilslice, .nilslice, .nilslice, .nilslice, .nilslice]), oK 7 (.alloc [(.str []), (zI 0), (.str []), (.str []), (zU 0), (.str []), .nilslice, .nilslice, .nilslice, .nilslice, .nilslice, .nilslice, .nilslice, .nilslice, .nilslice]), oK 8 (.alloc [(.str []), (zI 0), (.str []), (.str []), (zU 0), (.str []), .nilslice, .nilslice, .nilslice, .nilslice, .nilslice, .nilslice, .nilslice, .nilslice, .nilslice]), oN (.store 15 6 72), oN (.store 15 7 73), oN (.store 15 8 74)] [4, 5, 6, 7, 8])
 (.seq
 (.reg 9 [oM 75 4, oK 76 (.callv 75 [(.c (.str [97]))]), oM 77 4, oK 78 (.callv 77 [(.c (.str [98]))]), oK 79 (.bslt 7 2 [(zU 0), (.str []), (zU 0), (zI 0), (.str []), (.str []), .nilslice] [⟨0, ⟨7, 76⟩⟩, ⟨7, ⟨7, 78⟩⟩]), oQ 80 (.bld [(zU 0), (.str []), (zU 0), (zI 0), (.str []), (.str []), .nilslice] [⟨0, ⟨1, (.c (zU 2))⟩⟩, ⟨6, ⟨1, 79⟩⟩]), oK 81 (.bslt 7 1 [(zU 0), (.str []), (zU 0), (zI 0), (.str []), (.str []), .nilslice] [⟨0, ⟨7, 80⟩⟩]), oQ 82 (.faddr 13 7), oN (.store 1 82 81)] [4, 5, 6, 7, 8])
 (.seq
 (.reg 10 [oM 83 4, oK 84 (.callv 83 [(.c (.str [97]))]), oM 85 4, oK 86 (.callv 85 [(.c (.str [99]))]), oK 87 (.bslt 7 2 [(zU 0), (.str []), (zU 0), (zI 0), (.str []), (.str []), .nilslice] [⟨0, ⟨7, 84⟩⟩, ⟨7, ⟨7, 86⟩⟩]), oQ 88 (.bld [(zU 0), (.str []), (zU 0), (zI 0), (.str []), (.str []), .nilslice] [⟨0, ⟨1, (.c (zU 2))⟩⟩, ⟨6, ⟨1, 87⟩⟩]), oK 89 (.bslt 7 1 [(zU 0), (.str []), (zU 0), (zI 0), (.str []), (.str []), .nilslice] [⟨0, ⟨7, 88⟩⟩]), oQ 90 (.faddr 13 8), oN (.store 1 90 89)] [5, 6, 7, 8])
 (.seq
 (.reg 11 [oK 91 (.pcall 42 [(.c (.str [97])), (.c (.str [57]))]), oK 92 (.pcall 42 [(.c (.str [97])), (.c (.str [57]))]), oK 93 (.pcall 42 [(.c (.str [111])), (.c (.str [53]))]), oK 94 (.pcall 42 [(.c (.str [97])), (.c (.str [49]))]), oK 9 (.alloc [(.str []), (zI 0), (.str []), (.str []), (zU 0), (.str []), .nilslice, .nilslice, .nilslice, .nilslice, .nilslice, .nilslice, .nilslice, .nilslice, .nilslice]), oK 10 (.alloc [(.str []), (zI 0), (.str []), (.str []), (zU 0), (.str []), .nilslice, .nilslice, .nilslice, .nilslice, .nilslice, .nilslice, .nilslice, .nilslice, .nilslice]), oK 11 (.alloc [(.str []), (zI 0), (.str []), (.str []), (zU 0), (.str []), .nilslice, .nilslice, .nilslice, .nilslice, .nilslice, .nilslice, .nilslice, .nilslice, .nilslice]), oK 12 (.alloc [(.str []), (zI 0), (.str []), (.str []), (zU 0), (.str []), .nilslice, .nilslice, .nilslice, .nilslice, .nilslice, .nilslice, .nilslice, .nilslice, .nilslice]), oN (.store 15 9 91), oN (.store 15 10 92), oN (.store 15 11 93), oN (.store 15 12 94)] [5, 6, 7, 8, 9, 10, 11, 12])
 (.seq
 (.reg 12 [oQ 95 (.faddr 4 9), oN (.store 1 95 (.c (zU 3)))] [5, 6, 7, 8, 9, 10, 11, 12])
 (.seq
 (.reg 13 [oQ 96 (.faddr 4 10), oN (.store 1 96 (.c (zU 4)))] [5, 6, 7, 8, 9, 10, 11, 12])
 (.seq
 (.reg 14 [oQ 97 (.bld [(.str []), (zU 0), (zI 0), (.str []), (.str [])] [⟨0, ⟨1, (.c (.str [97]))⟩⟩]), oK 98 (.bslt 5 1 [(.str []), (zU 0), (zI 0), (.str []), (.str [])] [⟨0, ⟨5, 97⟩⟩]), oQ 99 (.faddr 9 11), oN (.store 1 99 98)] [5, 6, 7, 8, 9, 10, 11, 12])
 (.seq
 (.dreg 15 [oQ 100 (.load (some 15) 6), oQ 101 (.load (some 15) 7), oQ 102 (.load (some 15) 8), oQ 103 (.load (some 15) 9), oQ 104 (.load (some 15) 10), oQ 105 (.load (some 15) 11), oQ 106 (.load (some 15) 12), oK 107 (.pcall 42 [(.c (.str [97])), (.c (.str [51]))]), oK 108 (.bslt 15 8 [(.str []), (zI 0), (.str []), (.str []), (zU 0), (.str []), .nilslice, .nilslice, .nilslice, .nilslice, .nilslice, .nilslice, .nilslice, .nilslice, .nilslice] [⟨0, ⟨15, 100⟩⟩, ⟨15, ⟨15, 101⟩⟩, ⟨30, ⟨15, 102⟩⟩, ⟨45, ⟨15, 103⟩⟩, ⟨60, ⟨15, 104⟩⟩, ⟨75, ⟨15, 105⟩⟩, ⟨90, ⟨15, 106⟩⟩, ⟨105, ⟨15, 107⟩⟩]), oQ 109 (.bld [(zI 0), .nilslice] [⟨1, ⟨1, 108⟩⟩]), oK 110 (.pcall 42 [(.c (.str [97])), (.c (.str [51]))]), oK 111 (.bslt 15 1 [(.str []), (zI 0), (.str []), (.str []), (zU 0), (.str []), .nilslice, .nilslice, .nilslice, .nilslice, .nilslice, .nilslice, .nilslice, .nilslice, .nilslice] [⟨0, ⟨15, 110⟩⟩]), oQ 112 (.bld [(zI 0), .nilslice] [⟨0, ⟨1, (cI 7)⟩⟩, ⟨1, ⟨1, 111⟩⟩]), oK 113 (.bslt 2 2 [(zI 0), .nilslice] [⟨0, ⟨2, 109⟩⟩, ⟨2, ⟨2, 112⟩⟩]), oM 13 113] false [5, 13])
 (.seq
 (.reg 16 [oM 115 13, oM 116 5, oQ 117 (.bld [(zU 0), (zI 0)] [⟨0, ⟨1, (.c (zU 4))⟩⟩]), oQ 118 (.bld [(zU 0), (zI 0)] [⟨0, ⟨1, (.c (zU 3))⟩⟩]), oK 119 (.bslt 2 2 [(zU 0), (zI 0)] [⟨0, ⟨2, 117⟩⟩, ⟨2, ⟨2, 118⟩⟩]), oQ 120 (.bld [(zU 0), (.bool false), .nilslice, .nilslice, (zI 0)] [⟨0, ⟨1, (.c (zU 2))⟩⟩, ⟨3, ⟨1, 119⟩⟩]), oK 121 (.call 43 [115, 116, 120]), oM 114 121, oQ 122 (.ext 0 114), oQ 123 (.ext 1 114), oQ 124 (.ext 2 114), oQ 125 (.ext 3 114), oM 14 122, oM 15 123, oM 16 124, oM 17 125] [14, 17])
 (.seq
 (.seq
 (.reg 17 [oM 126 17, oQ 127 (.not 126), oM 128 127, gQ 129 128 false (.mov 14), gK 130 128 false (.call 35 [129, (cI 2)]), gQ 131 128 false (.not 130), oQ 132 (.pick 128 (cB true) 131), oM 133 132, gQ 134 133 false (.mov 14), gK 135 133 false (.call 35 [134, (cI 3)]), gQ 136 133 false (.not 135), oQ 137 (.pick 133 (cB true) 136), oM 138 137, gQ 139 138 false (.mov 14), gK 140 138 false (.call 35 [139, (cI 4)]), oQ 141 (.pick 138 (cB true) 140), oM 142 141, gQ 143 142 false (.mov 14), gK 144 142 false (.call 35 [143, (cI 0)]), oQ 145 (.pick 142 (cB true) 144), oM 146 145, gQ 147 146 false (.mov 14), gK 148 146 false (.call 35 [147, (cI (-1))]), oQ 149 (.pick 146 (cB true) 148), oM 150 149, gQ 151 150 false (.mov 14), gK 152 150 false (.call 35 [151, (cI 11)]), oQ 153 (.pick 150 (cB true) 152), oM 154 153, gQ 155 154 false (.mov 14), gK 156 154 false (.call 36 [155, (cI 2), (cI 4)]), gQ 157 154 false (.not 156), oQ 158 (.pick 154 (cB true) 157), oM 159 158, gQ 160 159 false (.mov 14), gK 161 159 false (.call 36 [160, (cI 4), (cI 5)]), gQ 162 159 false (.not 161), oQ 163 (.pick 159 (cB true) 162), oM 164 163, gQ 165 164 false (.mov 14), gK 166 164 false (.call 36 [165, (cI 5), (cI 6)]), gQ 167 164 false (.not 166), oQ 168 (.pick 164 (cB true) 167), oM 169 168, gQ 170 169 false (.mov 14), gK 171 169 false (.call 36 [170, (cI 6), (cI 5)]), oQ 172 (.pick 169 (cB true) 171), oM 173 172, gQ 174 173 false (.mov 14), gK 175 173 false (.call 36 [174, (cI 2), (cI 2)]), oQ 176 (.pick 173 (cB true) 175), oM 177 176, gQ 178 177 false (.mov 14), gK 179 177 false (.call 36 [178, (cI 0), (cI 11)]), oQ 180 (.pick 177 (cB true) 179), oM 181 180, gQ 182 181 false (.mov 14), gK 183 181 false (.call 36 [182, (cI (-1)), (cI 0)]), oQ 184 (.pick 181 (cB true) 183)] [14, 184])
 (.cond 184
 (.seq
 (.reg 18 [oM 0 (cB false)] [0])
 .ret)
 .skip))
 (.seq
 (.reg 19 [oM 185 14, oK 186 (.call 38 [185, (cI 0)]), oK 187 (.bslt 1 7 [(zI 0)] [⟨0, ⟨1, (cI 0)⟩⟩, ⟨1, ⟨1, (cI 10)⟩⟩, ⟨2, ⟨1, (cI 7)⟩⟩, ⟨3, ⟨1, (cI 9)⟩⟩, ⟨4, ⟨1, (cI 8)⟩⟩, ⟨5, ⟨1, (cI 5)⟩⟩, ⟨6, ⟨1, (cI 6)⟩⟩]), oK 188 (.call 44 [186, 187]), oM 189 188, gQ 190 189 true (.mov 14), gK 191 189 true (.call 39 [190, (cI 0)]), gK 192 189 true (.bslt 1 7 [(zI 0)] [⟨0, ⟨1, (cI 5)⟩⟩, ⟨1, ⟨1, (cI 6)⟩⟩, ⟨2, ⟨1, (cI 10)⟩⟩, ⟨3, ⟨1, (cI 9)⟩⟩, ⟨4, ⟨1, (cI 0)⟩⟩, ⟨5, ⟨1, (cI 8)⟩⟩, ⟨6, ⟨1, (cI 7)⟩⟩]), gK 193 189 true (.call 44 [191, 192]), oQ 194 (.pick 189 193 (cB false)), oM 195 194, gQ 196 195 true (.mov 14), gK 197 195 true (.call 40 [196, (cI 0)]), gK 198 195 true (.bslt 1 7 [(zI 0)] [⟨0, ⟨1, (cI 5)⟩⟩, ⟨1, ⟨1, (cI 6)⟩⟩, ⟨2, ⟨1, (cI 10)⟩⟩, ⟨3, ⟨1, (cI 9)⟩⟩, ⟨4, ⟨1, (cI 8)⟩⟩, ⟨5, ⟨1, (cI 7)⟩⟩, ⟨6, ⟨1, (cI 0)⟩⟩]), gK 199 195 true (.call 44 [197, 198]), oQ 200 (.pick 195 199 (cB false)), oM 201 200, gQ 202 201 true (.mov 14), gK 203 201 true (.call 38 [202, (cI 1)]), gK 204 201 true (.bslt 1 1 [(zI 0)] [⟨0, ⟨1, (cI 1)⟩⟩]), gK 205 201 true (.call 44 [203, 204]), oQ 206 (.pick 201 205 (cB false)), oM 207 206, gQ 208 207 true (.mov 14), gK 209 207 true (.call 38 [208, (cI 2)]), gK 210 207 true (.call 44 [209, (.c .nilslice)]), oQ 211 (.pick 207 210 (cB false)), oM 212 211, gQ 213 212 true (.mov 14), gK 214 212 true (.call 40 [213, (cI (-1))]), gK 215 212 true (.call 44 [214, (.c .nilslice)]), oQ 216 (.pick 212 215 (cB false)), oM 217 216, gQ 218 217 true (.mov 14), gK 219 217 true (.bslt 1 2 [(zI 0)] [⟨0, ⟨1, (cI 11)⟩⟩, ⟨1, ⟨1, (cI (-1))⟩⟩]), gK 220 217 true (.call 37 [218, 219]), gK 221 217 true (.call 44 [220, (.c .nilslice)]), oQ 222 (.pick 217 221 (cB false)), oM 223 222, gQ 224 223 true (.mov 14), gK 225 223 true (.call 37 [224, (.c .nilslice)]), gK 226 223 true (.call 44 [225, (.c .nilslice)]), oQ 227 (.pick 223 226 (cB false)), oM 228 227, gQ 229 228 true (.mov 14), gK 230 228 true (.bslt 1 7 [(zI 0)] [⟨0, ⟨1, (cI 6)⟩⟩, ⟨1, ⟨1, (cI 5)⟩⟩, ⟨2, ⟨1, (cI 4)⟩⟩, ⟨3, ⟨1, (cI 3)⟩⟩, ⟨4, ⟨1, (cI 2)⟩⟩, ⟨5, ⟨1, (cI 1)⟩⟩, ⟨6, ⟨1, (cI 0)⟩⟩]), gK 231 228 true (.call 37 [229, 230]), gK 232 228 true (.bslt 1 7 [(zI 0)] [⟨0, ⟨1, (cI 0)⟩⟩, ⟨1, ⟨1, (cI 1)⟩⟩, ⟨2, ⟨1, (cI 2)⟩⟩, ⟨3, ⟨1, (cI 3)⟩⟩, ⟨4, ⟨1, (cI 4)⟩⟩, ⟨5, ⟨1, (cI 5)⟩⟩, ⟨6, ⟨1, (cI 6)⟩⟩]), gK 233 228 true (.call 44 [231, 232]), oQ 234 (.pick 228 233 (cB false)), oM 0 234] [0])
 .ret))))))))))))))))))
theorem fok5 : FOK Tryz.prog 5 (235, ic5, [(.t 0)]) := fokA ([1000042, 1000067, 1000069, 1000079, 1000081, 1000087, 1000089, 1000098, 1000108, 1000111, 1000113, 1000119, 1000187, 1000192, 1000198, 1000204, 1000219, 1000230, 1000232] ++ [42]) Tryz.func5 (by kernel_rfl) (by kernel_rfl) (by kernel_rfl) (by kernel_rfl)
/-- chandlery/ask.New -/
def ic6 : IC :=
 (.seq
 (.reg 0 [oK 2 (.boxt 0), oK 3 (.boxt 1), oM 4 (.c .nilptr), oM 5 (cI 0)] [2, 3])
 (.seq
 (.block 0
 (.seq
 (.reg 1 [oQ 13 (.load none 2), oQ 14 (.isnil (.pointer 119) false 13), oM 12 14] [2, 3, 12])
 (.cond 12
 (.seq
 (.reg 2 [oM 4 (.c .nilptr), oM 5 (cI 2)] [4, 5])
 .ret)
 (.seq
 (.reg 3 [oQ 16 (.faddr 0 3), oQ 17 (.load none 16), oK 18 (.call 45 [17]), oQ 19 (.not 18), oM 20 19, gQ 21 20 false (.faddr 4 3), gQ 22 20 false (.load none 21), gQ 23 20 false (.bin .lss 22 (cI 0)), oQ 24 (.pick 20 (cB true) 23), oM 25 24, gQ 26 25 false (.faddr 4 3), gQ 27 25 false (.load none 26), gQ 28 25 false (.bin .gtr 27 (cI 1099511627776)), oQ 29 (.pick 25 (cB true) 28), oM 15 29] [2, 3, 15])
 (.cond 15
 (.seq
 (.reg 4 [oM 4 (.c .nilptr), oM 5 (cI 1)] [4, 5])
 .ret)
 (.seq
 (.reg 5 [oQ 31 (.faddr 2 3), oQ 32 (.load none 31), oQ 33 (.len 0 32), oQ 34 (.bin .gtr 33 (cI 64)), oM 35 34, gQ 36 35 false (.faddr 3 3), gQ 37 35 false (.load none 36), gQ 38 35 false (.len 0 37), gQ 39 35 false (.bin .gtr 38 (cI 64)), oQ 40 (.pick 35 (cB true) 39), oM 30 40] [2, 3, 30])
 (.cond 30
 (.seq
 (.reg 6 [oM 4 (.c .nilptr), oM 5 (cI 40)] [4, 5])
 .ret)
 (.seq
 (.reg 7 [oQ 42 (.faddr 2 3), oQ 43 (.load none 42), oK 44 (.call 46 [43, (.f 47)]), oM 41 44] [2, 3, 41])
 (.cond 41
 (.seq
 (.reg 8 [oM 4 (.c .nilptr), oM 5 (cI 4)] [4, 5])
 .ret)
 (.seq
 (.reg 9 [oQ 46 (.faddr 3 3), oQ 47 (.load none 46), oQ 48 (.mkf 50 [] [3, 2]), oK 49 (.call 49 [47, 48]), oM 45 49] [2, 3, 45])
 (.cond 45
 (.seq
 (.reg 10 [oM 4 (.c .nilptr), oM 5 (cI 5)] [4, 5])
 .ret)
 .skip)))))))))))
 (.seq
 (.reg 11 [oQ 51 (.load none 2), oK 52 (.call 53 [51]), oM 50 52, oQ 53 (.ext 0 50), oQ 54 (.ext 1 50), oM 6 53, oM 7 54] [2, 3, 6, 7])
 (.seq
 (.seq
 (.reg 12 [oM 55 7, oQ 56 (.bin .neq 55 (cI 0))] [2, 3, 6, 7, 56])
 (.cond 56
 (.seq
 (.reg 13 [oM 57 7, oM 4 (.c .nilptr), oM 5 57] [4, 5])
 .ret)
 .skip))
 (.seq
 (.dreg 14 [oQ 58 (.load none 2), oM 59 6, oQ 60 (.load (some 5) 3), oK 61 (.pcall 54 [60]), oQ 62 (.bld [.nilptr, .nilptr, (zU 0), (.bool false), .nilslice, .nilslice, (zI 0), .nilslice] [⟨0, ⟨1, 58⟩⟩, ⟨1, ⟨1, 59⟩⟩, ⟨2, ⟨5, 61⟩⟩]), oK 63 (.box 62), oM 8 63] false [2, 8])
 (.seq
 (.seq
 (.reg 15 [oQ 64 (.load none 2), oK 65 (.call 55 [64]), oM 66 (cI 0)] [2, 8, 65, 66])
 (.block 1
 (.loop
 (.seq
 (.reg 16 [oQ 67 (.bin .lss 66 65)] [2, 8, 65, 66, 67])
 (.seq
 (.cond 67
 .skip
 (.exit 1))
 (.seq
 (.block 2
 (.seq
 (.reg 17 [oM 68 66, oM 9 68] [2, 8, 9, 65, 66])
 (.seq
 (.reg 18 [oQ 70 (.load none 2), oM 71 9, oK 72 (.call 56 [70, 71]), oM 69 72, oQ 73 (.ext 0 69), oQ 74 (.ext 1 69), oK 10 (.alloc [(.str []), (zI 0), (.str []), (.str []), (zU 0), (.str []), .nilslice, .nilslice, .nilslice, .nilslice, .nilslice, .nilslice, .nilslice, .nilslice, .nilslice]), oN (.store 15 10 73), oM 11 74] [2, 8, 10, 11, 65, 66])
 (.seq
 (.seq
 (.reg 19 [oM 75 11, oQ 76 (.bin .neq 75 (cI 0))] [2, 8, 10, 11, 65, 66, 76])
 (.cond 76
 (.seq
 (.reg 20 [oM 77 11, oM 4 (.c .nilptr), oM 5 77] [4, 5])
 .ret)
 .skip))
 (.dreg 21 [oM 78 8, oM 79 8, oQ 80 (.nchk 79), oQ 81 (.faddr 7 80), oQ 82 (.load none 81), oQ 83 (.load (some 15) 10), oK 84 (.bslt 15 1 [(.str []), (zI 0), (.str []), (.str []), (zU 0), (.str []), .nilslice, .nilslice, .nilslice, .nilslice, .nilslice, .nilslice, .nilslice, .nilslice, .nilslice] [⟨0, ⟨15, 83⟩⟩]), oK 85 (.app 15 82 84), oQ 86 (.nchk 78), oQ 87 (.faddr 7 86), oN (.store 1 87 85)] true [2, 8, 65, 66])))))
 (.reg 22 [oQ 88 (.bin .add 66 (cI 1)), oM 66 88] [2, 8, 65, 66])))))))
 (.seq
 (.reg 23 [oM 89 8, oM 4 89, oM 5 (cI 0)] [4, 5])
 .ret)))))))
theorem fok6 : FOK Tryz.prog 6 (90, ic6, [(.t 4), (.t 5)]) := fokA ([1000002, 1000003, 1000084] ++ [54]) Tryz.func6 (by kernel_rfl) (by kernel_rfl) (by kernel_rfl) (by kernel_rfl)
/-- (*chandlery/ask.Ask).Pool -/
def ic9 : IC :=
 (.seq
 (.reg 0 [oM 2 (.c .nilptr)] [0])
 (.seq
 (.seq
 (.reg 1 [oM 3 0, oQ 4 (.isnil (.pointer 103) false 3)] [0, 4])
 (.cond 4
 (.seq
 (.reg 2 [oM 2 (.c .nilptr)] [2])
 .ret)
 .skip))
 (.seq
 (.reg 3 [oM 5 0, oQ 6 (.nchk 5), oQ 7 (.faddr 0 6), oQ 8 (.load none 7), oM 2 8] [2])
 .ret)))
theorem fok9 : FOK Tryz.prog 9 (9, ic9, [(.t 2)]) := fokA [] Tryz.func9 (by kernel_rfl) (by kernel_rfl) (by kernel_rfl) (by kernel_rfl)
/-- (*chandlery/ask.Ask).Request -/
def ic12 : IC :=
 (.seq
 (.reg 0 [oK 2 (.alloc [(zU 0), (.bool false), .nilslice, .nilslice, (zI 0)])] [0, 2])
 (.seq
 (.seq
 (.reg 1 [oM 3 0, oQ 4 (.isnil (.pointer 103) false 3)] [0, 2, 4])
 (.cond 4
 (.seq
 (.reg 2 [oQ 5 (.bld [(zU 0), (.bool false), .nilslice, .nilslice, (zI 0)] []), oN (.store 5 2 5)] [2])
 .ret)
 .skip))
 (.seq
 (.reg 3 [oM 6 0, oQ 7 (.nchk 6), oQ 8 (.faddr 2 7), oQ 9 (.load (some 5) 8), oK 10 (.call 54 [9]), oN (.store 5 2 10)] [2])
 .ret)))
theorem fok12 : FOK Tryz.prog 12 (11, ic12, [(.cell (some 5) 2)]) := fokA [] Tryz.func12 (by kernel_rfl) (by kernel_rfl) (by kernel_rfl) (by kernel_rfl)
/-- (*chandlery/ask.Ask).Fits -/
def ic13 : IC :=
 (.seq
 (.reg 0 [oM 4 (cB false)] [0, 1])
 (.seq
 (.dreg 1 [oM 5 0, oM 6 1, oK 7 (.call 57 [5, 6]), oM 8 7, gQ 9 8 true (.mov 0), gQ 10 8 true (.nchk 9), gQ 11 8 true (.faddr 2 10), gQ 12 8 true (.faddr 0 11), gQ 13 8 true (.load none 12), gQ 14 8 true (.mov 0), gQ 15 8 true (.nchk 14), gQ 16 8 true (.faddr 7 15), gQ 17 8 true (.load none 16), gQ 18 8 true (.mov 1), gQ 19 8 true (.iaddr 15 17 18), gQ 20 8 true (.faddr 4 19), gQ 21 8 true (.load none 20), gK 22 8 true (.call 58 [13, 21]), oQ 23 (.pick 8 22 (cB false)), oM 4 23] false [4])
 .ret))
theorem fok13 : FOK Tryz.prog 13 (24, ic13, [(.t 4)]) := fokA [] Tryz.func13 (by kernel_rfl) (by kernel_rfl) (by kernel_rfl) (by kernel_rfl)
/-- (*chandlery/ask.Ask).Dropped -/
def ic15 : IC :=
 (.seq
 (.reg 0 [oM 4 (cB false)] [0, 1])
 (.seq
 (.reg 1 [oM 5 0, oM 6 1, oK 7 (.call 61 [5, 6]), oM 8 7, gQ 9 8 true (.mov 0), gQ 10 8 true (.mov 1), gK 11 8 true (.call 62 [9, (.c (zU 1)), 10]), oQ 12 (.pick 8 11 (cB false)), oM 4 12] [4])
 .ret))
theorem fok15 : FOK Tryz.prog 15 (13, ic15, [(.t 4)]) := fokA [] Tryz.func15 (by kernel_rfl) (by kernel_rfl) (by kernel_rfl) (by kernel_rfl)
/-- (*chandlery/ask.Ask).Successors -/
def ic17 : IC :=
 (.seq
 (.reg 0 [oK 2 (.boxt 0), oM 4 (.c .nilslice)] [1, 2])
 (.seq
 (.seq
 (.reg 1 [oQ 12 (.load none 2), oM 13 1, oK 14 (.call 63 [12, 13]), oQ 15 (.not 14)] [1, 2, 15])
 (.cond 15
 (.seq
 (.reg 2 [oM 4 (.c .nilslice)] [4])
 .ret)
 .skip))
 (.seq
 (.reg 3 [oQ 16 (.load none 2), oQ 17 (.nchk 16), oQ 18 (.faddr 7 17), oQ 19 (.load none 18), oM 20 1, oQ 21 (.iaddr 15 19 20), oQ 22 (.load (some 15) 21), oK 5 (.alloc [(.str []), (zI 0), (.str []), (.str []), (zU 0), (.str []), .nilslice, .nilslice, .nilslice, .nilslice, .nilslice, .nilslice, .nilslice, .nilslice, .nilslice]), oN (.store 15 5 22)] [1, 2, 5])
 (.seq
 (.reg 4 [oQ 23 (.load none 2), oM 24 1, oK 25 (.call 62 [23, (.c (zU 3)), 24]), oM 26 25, gQ 27 26 false (.load none 2), gQ 28 26 false (.mov 1), gK 29 26 false (.call 64 [27, (.c (zU 4)), 28]), oQ 30 (.pick 26 (cB true) 29), oK 6 (.alloc [(.bool false)]), oN (.store 1 6 30)] [1, 2, 5, 6])
 (.seq
 (.reg 5 [oQ 31 (.load none 2), oM 32 1, oK 33 (.call 62 [31, (.c (zU 4)), 32]), oK 7 (.alloc [(.bool false)]), oN (.store 1 7 33)] [1, 2, 5, 6, 7])
 (.seq
 (.reg 6 [oQ 34 (.mkf 65 [] [5, 6, 7, 2]), oM 8 34] [1, 2, 8])
 (.seq
 (.reg 7 [oQ 35 (.load none 2), oQ 36 (.nchk 35), oQ 37 (.faddr 1 36), oQ 38 (.load none 37), oM 39 1, oK 40 (.call 67 [38, 39]), oM 9 40] [1, 2, 8, 9])
 (.seq
 (.seq
 (.reg 8 [oQ 41 (.load none 2), oQ 42 (.nchk 41), oQ 43 (.faddr 7 42), oQ 44 (.load none 43), oQ 45 (.len 0 44), oM 46 (cI 0)] [1, 8, 9, 44, 45, 46])
 (.block 0
 (.loop
 (.seq
 (.reg 9 [oQ 47 (.bin .lss 46 45)] [1, 8, 9, 44, 45, 46, 47])
 (.seq
 (.cond 47
 .skip
 (.exit 0))
 (.seq
 (.block 1
 (.seq
 (.reg 10 [oM 48 46, oQ 49 (.iaddr 15 44 46), oQ 50 (.load (some 15) 49), oK 11 (.alloc [(.str []), (zI 0), (.str []), (.str []), (zU 0), (.str []), .nilslice, .nilslice, .nilslice, .nilslice, .nilslice, .nilslice, .nilslice, .nilslice, .nilslice]), oM 10 48, oN (.store 15 11 50)] [1, 8, 9, 10, 11, 44, 45, 46])
 (.seq
 (.reg 11 [oM 51 10, oM 52 1, oQ 53 (.bin .eql 51 52), oM 54 53, gQ 55 54 false (.mov 8), gQ 56 54 false (.load (some 15) 11), gK 57 54 false (.callv 55 [56]), oQ 58 (.pick 54 (cB true) 57)] [1, 8, 9, 10, 44, 45, 46, 58])
 (.cond 58
 (.reg 12 [oM 59 9, oM 60 10, oK 61 (.bslt 1 1 [(zI 0)] [⟨0, ⟨1, 60⟩⟩]), oK 62 (.app 1 59 61), oM 9 62] [1, 8, 9, 44, 45, 46])
 .skip))))
 (.reg 13 [oQ 63 (.bin .add 46 (cI 1)), oM 46 63] [1, 8, 9, 44, 45, 46])))))))
 (.seq
 (.reg 14 [oM 64 9, oK 65 (.call 68 [64])] [9])
 (.seq
 (.reg 15 [oM 66 9, oK 67 (.call 69 [66]), oM 4 67] [4])
 .ret))))))))))
theorem fok17 : FOK Tryz.prog 17 (68, ic17, [(.t 4)]) := fokA [1000002, 1000061] Tryz.func17 (by kernel_rfl) (by kernel_rfl) (by kernel_rfl) (by kernel_rfl)
/-- chandlery/pool.New -/
def ic22 : IC :=
(.seq
 (.reg 0 [⟨(some 4), none, (.q (.mov (.c .nilptr)))⟩, ⟨(some 5), none, (.q (.mov (.c (.int .i64 0))))⟩] [0, 1])
 (.seq
  (.reg 1 [⟨(some 14), none, (.q (.mov (.t 1)))⟩, ⟨(some 15), none, (.q (.len 0 (.t 14)))⟩, ⟨(some 6), none, (.q (.mov (.t 15)))⟩] [0, 1, 6])
  (.seq
   (.seq
    (.reg 2 [⟨(some 16), none, (.q (.mov (.t 0)))⟩, ⟨(some 17), none, (.q (.len 0 (.t 16)))⟩, ⟨(some 18), none, (.q (.mov (.c (.int .i64 0))))⟩] [0, 1, 6, 16, 17, 18])
    (.block 0
     (.loop
      (.seq
       (.reg 3 [⟨(some 19), none, (.q (.bin .lss (.t 18) (.t 17)))⟩] [0, 1, 6, 16, 17, 18, 19])
       (.seq
        (.cond (.t 19)
         .skip
         (.exit 0))
        (.seq
         (.block 1
          (.seq
           (.reg 4 [⟨(some 20), none, (.q (.iaddr 2 (.t 16) (.t 18)))⟩, ⟨(some 21), none, (.q (.load (some 2) (.t 20)))⟩, ⟨(some 8), none, (.alloc [(.int .i64 0), .nilslice])⟩, ⟨none, none, (.store 2 (.t 8) (.t 21))⟩] [0, 1, 6, 8, 16, 17, 18])
           (.reg 5 [⟨(some 22), none, (.q (.mov (.t 6)))⟩, ⟨(some 23), none, (.q (.faddr 1 (.t 8)))⟩, ⟨(some 24), none, (.q (.load none (.t 23)))⟩, ⟨(some 25), none, (.q (.len 0 (.t 24)))⟩, ⟨(some 26), none, (.q (.bin .add (.t 22) (.t 25)))⟩, ⟨(some 6), none, (.q (.mov (.t 26)))⟩] [0, 1, 6, 16, 17, 18])))
         (.reg 6 [⟨(some 27), none, (.q (.bin .add (.t 18) (.c (.int .i64 1))))⟩, ⟨(some 18), none, (.q (.mov (.t 27)))⟩] [0, 1, 6, 16, 17, 18])))))))
   (.seq
    (.seq
     (.reg 7 [⟨(some 28), none, (.q (.mov (.t 0)))⟩, ⟨(some 29), none, (.q (.len 0 (.t 28)))⟩, ⟨(some 30), none, (.q (.bin .gtr (.t 29) (.c (.int .i64 16))))⟩, ⟨(some 31), none, (.q (.mov (.t 30)))⟩, ⟨(some 32), (some ⟨31, false⟩), (.q (.mov (.t 6)))⟩, ⟨(some 33), (some ⟨31, false⟩), (.q (.bin .gtr (.t 32) (.c (.int .i64 256))))⟩, ⟨(some 34), none, (.q (.pick (.t 31) (.c (.bool true)) (.t 33)))⟩] [0, 1, 34])
     (.cond (.t 34)
      (.seq
       (.reg 8 [⟨(some 4), none, (.q (.mov (.c .nilptr)))⟩, ⟨(some 5), none, (.q (.mov (.c (.int .i64 40))))⟩] [4, 5])
       .ret)
      .skip))
    (.seq
     (.reg 9 [⟨(some 35), none, (.q (.mov (.t 1)))⟩, ⟨(some 36), none, (.q (.len 0 (.t 35)))⟩, ⟨(some 37), none, .mkmap⟩, ⟨(some 38), none, (.q (.bld [.nilslice, (.int .i64 0), .nilmap] [⟨1, ⟨1, (.t 36)⟩⟩, ⟨2, ⟨1, (.t 37)⟩⟩]))⟩, ⟨(some 39), none, (.box (.t 38))⟩, ⟨(some 9), none, (.q (.mov (.t 39)))⟩] [0, 1, 9])
     (.seq
      (.seq
       (.reg 10 [⟨(some 40), none, (.q (.mov (.t 9)))⟩, ⟨(some 41), none, (.q (.mov (.t 1)))⟩, ⟨(some 42), none, (.call 79 [(.t 40), (.t 41), (.c (.int .i64 (-1))), (.c (.int .i64 1025))])⟩, ⟨(some 10), none, (.q (.mov (.t 42)))⟩] [0, 9, 10])
       (.seq
        (.reg 11 [⟨(some 43), none, (.q (.mov (.t 10)))⟩, ⟨(some 44), none, (.q (.bin .neq (.t 43) (.c (.int .i64 0))))⟩] [0, 9, 10, 44])
        (.cond (.t 44)
         (.seq
          (.reg 12 [⟨(some 45), none, (.q (.mov (.t 10)))⟩, ⟨(some 4), none, (.q (.mov (.c .nilptr)))⟩, ⟨(some 5), none, (.q (.mov (.t 45)))⟩] [4, 5])
          .ret)
         .skip)))
      (.seq
       (.seq
        (.reg 13 [⟨(some 46), none, (.q (.mov (.t 0)))⟩, ⟨(some 47), none, (.q (.len 0 (.t 46)))⟩, ⟨(some 48), none, (.q (.mov (.c (.int .i64 0))))⟩] [9, 46, 47, 48])
        (.block 2
         (.loop
          (.seq
           (.reg 14 [⟨(some 49), none, (.q (.bin .lss (.t 48) (.t 47)))⟩] [9, 46, 47, 48, 49])
           (.seq
            (.cond (.t 49)
            .skip
            (.exit 2))
            (.seq
            (.block 3
            (.seq
            (.reg 15 [⟨(some 50), none, (.q (.mov (.t 48)))⟩, ⟨(some 51), none, (.q (.iaddr 2 (.t 46) (.t 48)))⟩, ⟨(some 52), none, (.q (.load (some 2) (.t 51)))⟩, ⟨(some 12), none, (.alloc [(.int .i64 0), .nilslice])⟩, ⟨(some 11), none, (.q (.mov (.t 50)))⟩, ⟨none, none, (.store 2 (.t 12) (.t 52))⟩] [9, 11, 12, 46, 47, 48])
            (.seq
            (.seq
            (.reg 16 [⟨(some 53), none, (.q (.faddr 0 (.t 12)))⟩, ⟨(some 54), none, (.q (.load none (.t 53)))⟩, ⟨(some 55), none, (.q (.bin .lss (.t 54) (.c (.int .i64 0))))⟩, ⟨(some 56), none, (.q (.mov (.t 55)))⟩, ⟨(some 57), (some ⟨56, false⟩), (.q (.faddr 0 (.t 12)))⟩, ⟨(some 58), (some ⟨56, false⟩), (.q (.load none (.t 57)))⟩, ⟨(some 59), (some ⟨56, false⟩), (.q (.bin .gtr (.t 58) (.c (.int .i64 1024))))⟩, ⟨(some 60), none, (.q (.pick (.t 56) (.c (.bool true)) (.t 59)))⟩] [9, 11, 12, 46, 47, 48, 60])
            (.cond (.t 60)
            (.seq
            (.reg 17 [⟨(some 4), none, (.q (.mov (.c .nilptr)))⟩, ⟨(some 5), none, (.q (.mov (.c (.int .i64 4))))⟩] [4, 5])
            .ret)
            .skip))
            (.seq
            (.reg 18 [⟨(some 61), none, (.q (.mov (.t 9)))⟩, ⟨(some 62), none, (.q (.faddr 1 (.t 12)))⟩, ⟨(some 63), none, (.q (.load none (.t 62)))⟩, ⟨(some 64), none, (.q (.mov (.t 11)))⟩, ⟨(some 65), none, (.q (.faddr 0 (.t 12)))⟩, ⟨(some 66), none, (.q (.load none (.t 65)))⟩, ⟨(some 67), none, (.call 79 [(.t 61), (.t 63), (.t 64), (.t 66)])⟩, ⟨(some 13), none, (.q (.mov (.t 67)))⟩] [9, 13, 46, 47, 48])
            (.seq
            (.reg 19 [⟨(some 68), none, (.q (.mov (.t 13)))⟩, ⟨(some 69), none, (.q (.bin .neq (.t 68) (.c (.int .i64 0))))⟩] [9, 13, 46, 47, 48, 69])
            (.cond (.t 69)
            (.seq
            (.reg 20 [⟨(some 70), none, (.q (.mov (.t 13)))⟩, ⟨(some 4), none, (.q (.mov (.c .nilptr)))⟩, ⟨(some 5), none, (.q (.mov (.t 70)))⟩] [4, 5])
            .ret)
            .skip))))))
            (.reg 21 [⟨(some 71), none, (.q (.bin .add (.t 48) (.c (.int .i64 1))))⟩, ⟨(some 48), none, (.q (.mov (.t 71)))⟩] [9, 46, 47, 48])))))))
       (.seq
        (.reg 22 [⟨(some 72), none, (.q (.mov (.t 9)))⟩, ⟨(some 4), none, (.q (.mov (.t 72)))⟩, ⟨(some 5), none, (.q (.mov (.c (.int .i64 0))))⟩] [4, 5])
        .ret))))))))
theorem fok22 : FOK Tryz.prog 22 (73, ic22, [(.t 4), (.t 5)]) := .mk (pf := []) (an := [(0, [0, 1]), (1, [0, 1, 6]), (2, [0, 1, 6, 16, 17, 18]), (3, [0, 1, 6, 16, 17, 18, 19]), (4, [0, 1, 6, 8, 16, 17, 18]), (5, [0, 1, 6, 16, 17, 18]), (6, [0, 1, 6, 16, 17, 18]), (7, [0, 1, 34]), (8, [4, 5]), (9, [0, 1, 9]), (10, [0, 9, 10]), (11, [0, 9, 10, 44]), (12, [4, 5]), (13, [9, 46, 47, 48]), (14, [9, 46, 47, 48, 49]), (15, [9, 11, 12, 46, 47, 48]), (16, [9, 11, 12, 46, 47, 48, 60]), (17, [4, 5]), (18, [9, 13, 46, 47, 48]), (19, [9, 13, 46, 47, 48, 69]), (20, [4, 5]), (21, [9, 46, 47, 48]), (22, [4, 5])]) (by kernel_rfl) (fnOK_of Tryz.func22 (by kernel_rfl) (by kernel_rfl) (by kernel_rfl))
/-- chandlery/prefer.New -/
def ic33 : IC :=
 (.seq
 (.reg 0 [oM 2 (.c .nilptr), oM 3 (cI 0)] [0])
 (.seq
 (.seq
 (.reg 1 [oM 20 0, oQ 21 (.isnil (.pointer 103) false 20)] [0, 21])
 (.cond 21
 (.seq
 (.reg 2 [oM 2 (.c .nilptr), oM 3 (cI 2)] [2, 3])
 .ret)
 .skip))
 (.seq
 (.reg 3 [oM 22 0, oM 23 0, oK 24 (.call 9 [23]), oM 25 0, oK 26 (.call 12 [25]), oQ 27 (.fld none 0 26), oQ 28 (.bld [.nilptr, .nilptr, (zU 0), .nilslice, .nilslice] [⟨0, ⟨1, 22⟩⟩, ⟨1, ⟨1, 24⟩⟩, ⟨2, ⟨1, 27⟩⟩]), oK 29 (.box 28), oM 4 29] [4])
 (.seq
 (.seq
 (.reg 4 [oM 30 4, oQ 31 (.nchk 30), oQ 32 (.faddr 1 31), oQ 33 (.load none 32), oK 34 (.call 55 [33]), oM 35 (cI 0)] [4, 34, 35])
 (.block 0
 (.loop
 (.seq
 (.reg 5 [oQ 36 (.bin .lss 35 34)] [4, 34, 35, 36])
 (.seq
 (.cond 36
 .skip
 (.exit 0))
 (.seq
 (.block 1
 (.seq
 (.reg 6 [oM 37 35, oM 5 37] [4, 5, 34, 35])
 (.seq
 (.reg 7 [oM 39 4, oQ 40 (.nchk 39), oQ 41 (.faddr 1 40), oQ 42 (.load none 41), oM 43 5, oK 44 (.call 56 [42, 43]), oM 38 44, oQ 45 (.ext 0 38), oQ 46 (.ext 1 38), oK 6 (.alloc [(.str []), (zI 0), (.str []), (.str []), (zU 0), (.str []), .nilslice, .nilslice, .nilslice, .nilslice, .nilslice, .nilslice, .nilslice, .nilslice, .nilslice]), oN (.store 15 6 45), oM 7 46] [4, 6, 7, 34, 35])
 (.seq
 (.seq
 (.reg 8 [oM 47 7, oQ 48 (.bin .neq 47 (cI 0))] [4, 6, 7, 34, 35, 48])
 (.cond 48
 (.seq
 (.reg 9 [oM 49 7, oM 2 (.c .nilptr), oM 3 49] [2, 3])
 .ret)
 .skip))
 (.dreg 10 [oM 50 4, oM 51 4, oQ 52 (.nchk 51), oQ 53 (.faddr 3 52), oQ 54 (.load none 53), oQ 55 (.load (some 15) 6), oK 56 (.bslt 15 1 [(.str []), (zI 0), (.str []), (.str []), (zU 0), (.str []), .nilslice, .nilslice, .nilslice, .nilslice, .nilslice, .nilslice, .nilslice, .nilslice, .nilslice] [⟨0, ⟨15, 55⟩⟩]), oK 57 (.app 15 54 56), oQ 58 (.nchk 50), oQ 59 (.faddr 3 58), oN (.store 1 59 57)] true [4, 34, 35])))))
 (.reg 11 [oQ 60 (.bin .add 35 (cI 1)), oM 35 60] [4, 34, 35])))))))
 (.seq
 (.reg 12 [oM 62 4, oQ 63 (.nchk 62), oQ 64 (.faddr 1 63), oQ 65 (.load none 64), oK 66 (.call 91 [65]), oM 61 66, oQ 67 (.ext 0 61), oQ 68 (.ext 1 61), oK 8 (.alloc [.nilptr]), oN (.store 1 8 67), oM 9 68] [4, 8, 9])
 (.seq
 (.seq
 (.reg 13 [oM 69 9, oQ 70 (.bin .neq 69 (cI 0))] [4, 8, 9, 70])
 (.cond 70
 (.seq
 (.reg 14 [oM 71 9, oM 2 (.c .nilptr), oM 3 71] [2, 3])
 .ret)
 .skip))
 (.seq
 (.reg 15 [oK 10 (.alloc [.nilslice])] [4, 8, 10])
 (.seq
 (.reg 16 [oM 11 (.c .nilslice)] [4, 8, 10, 11])
 (.seq
 (.seq
 (.dreg 17 [oM 72 4, oQ 73 (.nchk 72), oQ 74 (.faddr 3 73), oQ 75 (.load none 74), oM 76 4, oQ 77 (.nchk 76), oQ 78 (.faddr 1 77), oQ 79 (.load none 78), oK 80 (.pcall 52 [79]), oQ 81 (.slc 15 75 none (some 80)), oQ 82 (.len 0 81), oM 83 (cI 0)] false [4, 8, 10, 11, 81, 82, 83])
 (.block 2
 (.loop
 (.seq
 (.reg 18 [oQ 84 (.bin .lss 83 82)] [4, 8, 10, 11, 81, 82, 83, 84])
 (.seq
 (.cond 84
 .skip
 (.exit 2))
 (.seq
 (.block 3
 (.seq
 (.reg 19 [oM 85 83, oQ 86 (.iaddr 15 81 83), oQ 87 (.load (some 15) 86), oK 13 (.alloc [(.str []), (zI 0), (.str []), (.str []), (zU 0), (.str []), .nilslice, .nilslice, .nilslice, .nilslice, .nilslice, .nilslice, .nilslice, .nilslice, .nilslice]), oM 12 85, oN (.store 15 13 87)] [4, 8, 10, 11, 12, 13, 81, 82, 83])
 (.seq
 (.reg 20 [oQ 88 (.load none 10), oM 89 12, oK 90 (.bslt 1 1 [(zI 0)] [⟨0, ⟨1, 89⟩⟩]), oK 91 (.app 1 88 90), oN (.store 1 10 91)] [4, 8, 10, 11, 13, 81, 82, 83])
 (.seq
 (.reg 21 [oQ 92 (.faddr 12 13), oQ 93 (.load none 92), oQ 94 (.len 0 93), oM 95 (cI 0)] [4, 8, 10, 11, 81, 82, 83, 93, 94, 95])
 (.block 4
 (.loop
 (.seq
 (.reg 22 [oQ 96 (.bin .lss 95 94)] [4, 8, 10, 11, 81, 82, 83, 93, 94, 95, 96])
 (.seq
 (.cond 96
 .skip
 (.exit 4))
 (.seq
 (.block 5
 (.seq
 (.reg 23 [oQ 97 (.iaddr 7 93 95), oQ 98 (.load (some 7) 97), oK 15 (.alloc [(zU 0), (.str []), (zU 0), (zI 0), (.str []), (.str []), .nilslice]), oN (.store 7 15 98)] [4, 8, 10, 11, 15, 81, 82, 83, 93, 94, 95])
 (.reg 24 [oM 99 11, oQ 100 (.load (some 7) 15), oK 101 (.call 92 [100]), oK 102 (.app 5 99 101), oM 11 102] [4, 8, 10, 11, 81, 82, 83, 93, 94, 95])))
 (.reg 25 [oQ 103 (.bin .add 95 (cI 1)), oM 95 103] [4, 8, 10, 11, 81, 82, 83, 93, 94, 95]))))))))))
 (.reg 26 [oQ 104 (.bin .add 83 (cI 1)), oM 83 104] [4, 8, 10, 11, 81, 82, 83])))))))
 (.seq
 (.seq
 (.reg 27 [oM 105 4, oQ 106 (.nchk 105), oQ 107 (.faddr 3 106), oQ 108 (.load none 107), oQ 109 (.len 0 108), oM 110 (cI 0)] [4, 8, 10, 11, 108, 109, 110])
 (.block 6
 (.loop
 (.seq
 (.reg 28 [oQ 111 (.bin .lss 110 109)] [4, 8, 10, 11, 108, 109, 110, 111])
 (.seq
 (.cond 111
 .skip
 (.exit 6))
 (.seq
 (.block 7
 (.seq
 (.reg 29 [oQ 112 (.iaddr 15 108 110), oQ 113 (.load (some 15) 112), oK 17 (.alloc [(.str []), (zI 0), (.str []), (.str []), (zU 0), (.str []), .nilslice, .nilslice, .nilslice, .nilslice, .nilslice, .nilslice, .nilslice, .nilslice, .nilslice]), oN (.store 15 17 113)] [4, 8, 10, 11, 17, 108, 109, 110])
 (.seq
 (.reg 30 [oM 114 11, oQ 115 (.mkf 94 [] [17]), oK 116 (.call 93 [114, 115]), oM 18 116] [4, 8, 10, 11, 17, 18, 108, 109, 110])
 (.seq
 (.reg 31 [oQ 117 (.faddr 13 17), oQ 118 (.load none 117), oQ 119 (.mkf 97 [] [8, 10]), oK 120 (.call 96 [118, 119]), oM 19 120] [4, 8, 10, 11, 18, 19, 108, 109, 110])
 (.reg 32 [oM 121 4, oM 122 4, oQ 123 (.nchk 122), oQ 124 (.faddr 4 123), oQ 125 (.load none 124), oM 126 18, oM 127 126, gQ 128 127 false (.mov 19), oQ 129 (.pick 127 (cB true) 128), oK 130 (.bslt 1 1 [(.bool false)] [⟨0, ⟨1, 129⟩⟩]), oK 131 (.app 1 125 130), oQ 132 (.nchk 121), oQ 133 (.faddr 4 132), oN (.store 1 133 131)] [4, 8, 10, 11, 108, 109, 110])))))
 (.reg 33 [oQ 134 (.bin .add 110 (cI 1)), oM 110 134] [4, 8, 10, 11, 108, 109, 110])))))))
 (.seq
 (.reg 34 [oM 135 4, oM 2 135, oM 3 (cI 0)] [2, 3])
 .ret)))))))))))
theorem fok33 : FOK Tryz.prog 33 (136, ic33, [(.t 2), (.t 3)]) := fokA ([1000056, 1000090, 1000130] ++ [52]) Tryz.func33 (by kernel_rfl) (by kernel_rfl) (by kernel_rfl) (by kernel_rfl)
/-- chandlery/chandlerylaw25.works -/
def ic34 : IC :=
 (.seq
 (.reg 0 [oM 0 (cB false)] [])
 (.seq
 (.reg 1 [oK 6 (.call 42 [(.c (.str [97])), (.c (.str [49]))]), oK 7 (.call 42 [(.c (.str [97])), (.c (.str [50]))]), oK 8 (.bslt 15 2 [(.str []), (zI 0), (.str []), (.str []), (zU 0), (.str []), .nilslice, .nilslice, .nilslice, .nilslice, .nilslice, .nilslice, .nilslice, .nilslice, .nilslice] [⟨0, ⟨15, 6⟩⟩, ⟨15, ⟨15, 7⟩⟩]), oQ 9 (.bld [(zI 0), .nilslice] [⟨0, ⟨1, (cI 1)⟩⟩, ⟨1, ⟨1, 8⟩⟩]), oK 10 (.call 42 [(.c (.str [97])), (.c (.str [49]))]), oK 11 (.bslt 15 1 [(.str []), (zI 0), (.str []), (.str []), (zU 0), (.str []), .nilslice, .nilslice, .nilslice, .nilslice, .nilslice, .nilslice, .nilslice, .nilslice, .nilslice] [⟨0, ⟨15, 10⟩⟩]), oQ 12 (.bld [(zI 0), .nilslice] [⟨0, ⟨1, (cI 9)⟩⟩, ⟨1, ⟨1, 11⟩⟩]), oK 13 (.bslt 2 2 [(zI 0), .nilslice] [⟨0, ⟨2, 9⟩⟩, ⟨2, ⟨2, 12⟩⟩]), oM 1 13] [1])
 (.seq
 (.reg 2 [oM 15 1, oK 16 (.call 42 [(.c (.str [122])), (.c (.str [48]))]), oK 17 (.bslt 15 1 [(.str []), (zI 0), (.str []), (.str []), (zU 0), (.str []), .nilslice, .nilslice, .nilslice, .nilslice, .nilslice, .nilslice, .nilslice, .nilslice, .nilslice] [⟨0, ⟨15, 16⟩⟩]), oQ 18 (.bld [(zU 0), (.bool false), .nilslice, .nilslice, (zI 0)] [⟨0, ⟨1, (.c (zU 2))⟩⟩]), oK 19 (.call 43 [15, 17, 18]), oM 14 19, oQ 20 (.ext 0 14), oQ 21 (.ext 1 14), oQ 22 (.ext 2 14), oQ 23 (.ext 3 14), oM 2 20, oM 3 21, oM 4 22, oM 5 23] [2, 5])
 (.seq
 (.reg 3 [oM 24 5, oM 25 24, gQ 26 25 true (.mov 2), gK 27 25 true (.call 36 [26, (cI 2), (cI 1)]), oQ 28 (.pick 25 27 (cB false)), oM 29 28, gQ 30 29 true (.mov 2), gK 31 29 true (.call 36 [30, (cI 1), (cI 2)]), gQ 32 29 true (.not 31), oQ 33 (.pick 29 32 (cB false)), oM 34 33, gQ 35 34 true (.mov 2), gK 36 34 true (.call 36 [35, (cI 3), (cI 2)]), oQ 37 (.pick 34 36 (cB false)), oM 38 37, gQ 39 38 true (.mov 2), gK 40 38 true (.call 36 [39, (cI 0), (cI 3)]), oQ 41 (.pick 38 40 (cB false)), oM 42 41, gQ 43 42 true (.mov 2), gK 44 42 true (.bslt 1 5 [(zI 0)] [⟨0, ⟨1, (cI 1)⟩⟩, ⟨1, ⟨1, (cI 2)⟩⟩, ⟨2, ⟨1, (cI 3)⟩⟩, ⟨3, ⟨1, (cI 0)⟩⟩, ⟨4, ⟨1, (cI 1)⟩⟩]), gK 45 42 true (.call 37 [43, 44]), gK 46 42 true (.bslt 1 4 [(zI 0)] [⟨0, ⟨1, (cI 0)⟩⟩, ⟨1, ⟨1, (cI 3)⟩⟩, ⟨2, ⟨1, (cI 2)⟩⟩, ⟨3, ⟨1, (cI 1)⟩⟩]), gK 47 42 true (.call 44 [45, 46]), oQ 48 (.pick 42 47 (cB false)), oM 0 48] [0])
 .ret))))
theorem fok34 : FOK Tryz.prog 34 (49, ic34, [(.t 0)]) := fokA [1000008, 1000011, 1000013, 1000017, 1000044, 1000046] Tryz.func34 (by kernel_rfl) (by kernel_rfl) (by kernel_rfl) (by kernel_rfl)
/-- (*chandlery/prefer.Order).Liked -/
def ic35 : IC :=
 (.seq
 (.reg 0 [oM 4 (cB false)] [0, 1])
 (.seq
 (.reg 1 [oM 5 0, oM 6 1, oK 7 (.call 99 [5, 6]), oM 8 7, gQ 9 8 true (.mov 0), gQ 10 8 true (.nchk 9), gQ 11 8 true (.faddr 4 10), gQ 12 8 true (.load none 11), gQ 13 8 true (.mov 1), gQ 14 8 true (.iaddr 1 12 13), gQ 15 8 true (.load none 14), oQ 16 (.pick 8 15 (cB false)), oM 4 16] [4])
 .ret))
theorem fok35 : FOK Tryz.prog 35 (17, ic35, [(.t 4)]) := fokA [] Tryz.func35 (by kernel_rfl) (by kernel_rfl) (by kernel_rfl) (by kernel_rfl)
/-- (*chandlery/prefer.Order).Better -/
def ic36 : IC :=
 (.seq
 (.reg 0 [oM 6 (cB false)] [0, 1, 2])
 (.seq
 (.reg 1 [oM 7 0, oM 8 1, oK 9 (.call 99 [7, 8]), oM 10 9, gQ 11 10 true (.mov 0), gQ 12 10 true (.mov 2), gK 13 10 true (.call 99 [11, 12]), oQ 14 (.pick 10 13 (cB false)), oM 15 14, gQ 16 15 true (.mov 0), gQ 17 15 true (.mov 1), gQ 18 15 true (.mov 2), gK 19 15 true (.call 100 [16, 17, 18]), gQ 20 15 true (.bin .lss 19 (cI 0)), oQ 21 (.pick 15 20 (cB false)), oM 6 21] [6])
 .ret))
theorem fok36 : FOK Tryz.prog 36 (22, ic36, [(.t 6)]) := fokA [] Tryz.func36 (by kernel_rfl) (by kernel_rfl) (by kernel_rfl) (by kernel_rfl)
/-- (*chandlery/prefer.Order).Sort -/
def ic37 : IC :=
 (.seq
 (.reg 0 [oK 2 (.boxt 0), oM 4 (.c .nilslice)] [1, 2])
 (.seq
 (.reg 1 [oM 6 1, oK 7 (.call 101 [6]), oQ 8 (.mkf 102 [] [2]), oK 9 (.call 70 [7, 8]), oM 5 9] [2, 5])
 (.seq
 (.seq
 (.reg 2 [oM 10 5, oQ 11 (.len 0 10), oQ 12 (.bin .eql 11 (cI 0))] [2, 5, 12])
 (.cond 12
 (.seq
 (.reg 3 [oM 4 (.c .nilslice)] [4])
 .ret)
 .skip))
 (.seq
 (.reg 4 [oM 13 5, oQ 14 (.load none 2), oQ 15 (.mkf 100 [14] []), oK 16 (.call 83 [13, 15])] [5])
 (.seq
 (.reg 5 [oM 17 5, oK 18 (.call 69 [17]), oM 4 18] [4])
 .ret)))))
theorem fok37 : FOK Tryz.prog 37 (19, ic37, [(.t 4)]) := fokA [1000002] Tryz.func37 (by kernel_rfl) (by kernel_rfl) (by kernel_rfl) (by kernel_rfl)
/-- (*chandlery/prefer.Order).Stays -/
def ic38 : IC :=
 (.seq
 (.reg 0 [oK 3 (.boxt 1), oM 4 (.c .nilslice)] [0, 3])
 (.seq
 (.reg 1 [oM 5 0, oQ 6 (.load none 3), oQ 7 (.mkf 104 [] [3]), oK 8 (.bslt 1 1 [.nilfunc] [⟨0, ⟨1, 7⟩⟩]), oK 9 (.call 103 [5, 6, 8]), oM 4 9] [4])
 .ret))
theorem fok38 : FOK Tryz.prog 38 (10, ic38, [(.t 4)]) := fokA [1000003, 1000008] Tryz.func38 (by kernel_rfl) (by kernel_rfl) (by kernel_rfl) (by kernel_rfl)
/-- (*chandlery/prefer.Order).GoesUp -/
def ic39 : IC :=
 (.seq
 (.reg 0 [oM 4 (.c .nilslice)] [0, 1])
 (.seq
 (.reg 1 [oM 5 0, oM 6 1, oM 7 0, oM 8 1, oK 9 (.call 106 [7, 8]), oK 10 (.bslt 1 1 [.nilfunc] [⟨0, ⟨1, 9⟩⟩]), oK 11 (.call 103 [5, 6, 10]), oM 4 11] [4])
 .ret))
theorem fok39 : FOK Tryz.prog 39 (12, ic39, [(.t 4)]) := fokA [1000010] Tryz.func39 (by kernel_rfl) (by kernel_rfl) (by kernel_rfl) (by kernel_rfl)
/-- (*chandlery/prefer.Order).Syncs -/
def ic40 : IC :=
 (.seq
 (.reg 0 [oK 2 (.boxt 0), oM 4 (.c .nilslice)] [1, 2])
 (.seq
 (.dreg 1 [oQ 5 (.load none 2), oM 6 1, oQ 7 (.mkf 107 [] [2]), oQ 8 (.load none 2), oM 9 1, oK 10 (.pcall 106 [8, 9]), oK 11 (.bslt 1 2 [.nilfunc] [⟨0, ⟨1, 7⟩⟩, ⟨1, ⟨1, 10⟩⟩]), oK 12 (.pcall 103 [5, 6, 11]), oM 4 12] false [4])
 .ret))
theorem fok40 : FOK Tryz.prog 40 (13, ic40, [(.t 4)]) := fokA ([1000002, 1000011] ++ [103, 106]) Tryz.func40 (by kernel_rfl) (by kernel_rfl) (by kernel_rfl) (by kernel_rfl)
/-- chandlery/chandlerylaw25.PreferNames$1 -/
def ic41 : IC :=
 (.seq
 (.reg 0 [oK 2 (.alloc [(zU 0), (.str []), (zU 0), (zI 0), (.str []), (.str []), .nilslice])] [0, 2])
 (.seq
 (.reg 1 [oM 3 0, oQ 4 (.bld [(.str []), (zU 0), (zI 0), (.str []), (.str [])] [⟨0, ⟨1, 3⟩⟩]), oQ 5 (.bld [(zU 0), (.str []), (zU 0), (zI 0), (.str []), (.str []), .nilslice] [⟨0, ⟨1, (.c (zU 1))⟩⟩, ⟨1, ⟨5, 4⟩⟩]), oN (.store 7 2 5)] [2])
 .ret))
theorem fok41 : FOK Tryz.prog 41 (6, ic41, [(.cell (some 7) 2)]) := fokA [] Tryz.func41 (by kernel_rfl) (by kernel_rfl) (by kernel_rfl) (by kernel_rfl)
/-- chandlery/chandlerylaw25.bare -/
def ic42 : IC :=
 (.seq
 (.reg 0 [oK 4 (.alloc [(.str []), (zI 0), (.str []), (.str []), (zU 0), (.str []), .nilslice, .nilslice, .nilslice, .nilslice, .nilslice, .nilslice, .nilslice, .nilslice, .nilslice])] [0, 1, 4])
 (.seq
 (.reg 1 [oM 5 0, oM 6 1, oQ 7 (.bld [(zI 0), (.str []), (.str [])] [⟨1, ⟨1, 6⟩⟩, ⟨2, ⟨1, (.c (.str [49]))⟩⟩]), oQ 8 (.bld [(.str []), (zI 0), (.str []), (.str []), (zU 0), (.str []), .nilslice, .nilslice, .nilslice, .nilslice, .nilslice, .nilslice, .nilslice, .nilslice, .nilslice] [⟨0, ⟨1, 5⟩⟩, ⟨1, ⟨3, 7⟩⟩, ⟨4, ⟨1, (.c (zU 2))⟩⟩]), oN (.store 15 4 8)] [4])
 .ret))
theorem fok42 : FOK Tryz.prog 42 (9, ic42, [(.cell (some 15) 4)]) := fokA [] Tryz.func42 (by kernel_rfl) (by kernel_rfl) (by kernel_rfl) (by kernel_rfl)
/-- chandlery/chandlerylaw25.of -/
def ic43 : IC :=
 (.seq
 (.reg 0 [oK 5 (.boxt 2), oM 6 (.c .nilptr), oM 7 (.c .nilptr), oM 8 (.c .nilptr), oM 9 (cB false)] [0, 1, 5])
 (.seq
 (.reg 1 [oM 16 0, oM 17 1, oK 18 (.call 22 [16, 17]), oM 15 18, oQ 19 (.ext 0 15), oQ 20 (.ext 1 15), oM 10 19, oM 11 20] [5, 10, 11])
 (.seq
 (.seq
 (.reg 2 [oM 21 11, oQ 22 (.bin .neq 21 (cI 0))] [5, 10, 22])
 (.cond 22
 (.seq
 (.reg 3 [oM 6 (.c .nilptr), oM 7 (.c .nilptr), oM 8 (.c .nilptr), oM 9 (cB false)] [6, 7, 8, 9])
 .ret)
 .skip))
 (.seq
 (.reg 4 [oM 24 10, oQ 25 (.load (some 5) 5), oK 26 (.call 6 [24, 25]), oM 23 26, oQ 27 (.ext 0 23), oQ 28 (.ext 1 23), oM 12 27, oM 11 28] [10, 11, 12])
 (.seq
 (.seq
 (.reg 5 [oM 29 11, oQ 30 (.bin .neq 29 (cI 0))] [10, 12, 30])
 (.cond 30
 (.seq
 (.reg 6 [oM 6 (.c .nilptr), oM 7 (.c .nilptr), oM 8 (.c .nilptr), oM 9 (cB false)] [6, 7, 8, 9])
 .ret)
 .skip))
 (.seq
 (.reg 7 [oM 32 12, oK 33 (.call 33 [32]), oM 31 33, oQ 34 (.ext 0 31), oQ 35 (.ext 1 31), oM 13 34, oM 14 35] [10, 12, 13, 14])
 (.seq
 (.reg 8 [oM 36 13, oM 37 12, oM 38 10, oM 39 14, oQ 40 (.bin .eql 39 (cI 0)), oM 41 40, gQ 42 41 true (.mov 13), gQ 43 41 true (.isnil (.pointer 141) true 42), oQ 44 (.pick 41 43 (cB false)), oM 6 36, oM 7 37, oM 8 38, oM 9 44] [6, 7, 8, 9])
 .ret)))))))
theorem fok43 : FOK Tryz.prog 43 (45, ic43, [(.t 6), (.t 7), (.t 8), (.t 9)]) := fokA [1000005] Tryz.func43 (by kernel_rfl) (by kernel_rfl) (by kernel_rfl) (by kernel_rfl)
/-- chandlery/chandlerylaw25.are -/
def ic44 : IC :=
 (.seq
 (.reg 0 [oM 4 (cB false)] [0, 1])
 (.seq
 (.reg 1 [oM 5 0, oM 6 1, oK 7 (.call 80 [5, 6]), oM 4 7] [4])
 .ret))
theorem fok44 : FOK Tryz.prog 44 (8, ic44, [(.t 4)]) := fokA [] Tryz.func44 (by kernel_rfl) (by kernel_rfl) (by kernel_rfl) (by kernel_rfl)
/-- chandlery/arch.Machine -/
def ic45 : IC :=
 (.seq
 (.reg 0 [oM 2 (cB false)] [0])
 (.seq
 (.reg 1 [oM 3 0, oK 4 (.call 109 [3]), oM 5 4, gQ 6 5 true (.mov 0), gQ 7 5 true (.bin .neq 6 (.c (zU 1))), oQ 8 (.pick 5 7 (cB false)), oM 2 8] [2])
 .ret))
theorem fok45 : FOK Tryz.prog 45 (9, ic45, [(.t 2)]) := fokA [] Tryz.func45 (by kernel_rfl) (by kernel_rfl) (by kernel_rfl) (by kernel_rfl)
/-- slices.ContainsFunc[[]chandlery/api.Job,chandlery/api.Job] -/
def ic46 : IC :=
 (.seq
 (.reg 0 [oM 4 (cB false)] [0, 1])
 (.seq
 (.reg 1 [oM 5 0, oM 6 1, oK 7 (.call 110 [5, 6]), oQ 8 (.bin .geq 7 (cI 0)), oM 4 8] [4])
 .ret))
theorem fok46 : FOK Tryz.prog 46 (9, ic46, [(.t 4)]) := fokA [] Tryz.func46 (by kernel_rfl) (by kernel_rfl) (by kernel_rfl) (by kernel_rfl)
/-- chandlery/ask.New$1 -/
def ic47 : IC :=
 (.seq
 (.reg 0 [oK 1 (.boxt 0), oM 2 (cB false)] [1])
 (.seq
 (.reg 1 [oQ 3 (.faddr 0 1), oQ 4 (.load none 3), oQ 5 (.bin .lss 4 (.c (zU 1))), oM 6 5, gQ 7 6 false (.faddr 0 1), gQ 8 6 false (.load none 7), gQ 9 6 false (.bin .gtr 8 (.c (zU 4))), oQ 10 (.pick 6 (cB true) 9), oM 11 10, gQ 12 11 false (.faddr 1 1), gQ 13 11 false (.load (some 5) 12), gK 14 11 false (.call 48 [13]), gQ 15 11 false (.not 14), oQ 16 (.pick 11 (cB true) 15), oM 2 16] [2])
 .ret))
theorem fok47 : FOK Tryz.prog 47 (17, ic47, [(.t 2)]) := fokA [1000001] Tryz.func47 (by kernel_rfl) (by kernel_rfl) (by kernel_rfl) (by kernel_rfl)
/-- chandlery/dep.May -/
def ic48 : IC :=
(.seq
 (.reg 0 [⟨(some 1), none, (.boxt (.t 0))⟩, ⟨(some 2), none, (.q (.mov (.c (.bool false))))⟩] [1])
 (.seq
  (.block 0
   (.seq
    (.reg 1 [⟨(some 4), none, (.q (.faddr 0 (.t 1)))⟩, ⟨(some 5), none, (.q (.load none (.t 4)))⟩, ⟨(some 6), none, (.call 111 [(.t 5)])⟩, ⟨(some 7), none, (.q (.not (.t 6)))⟩, ⟨(some 8), none, (.q (.mov (.t 7)))⟩, ⟨(some 9), (some ⟨8, false⟩), (.q (.faddr 1 (.t 1)))⟩, ⟨(some 10), (some ⟨8, false⟩), (.q (.load none (.t 9)))⟩, ⟨(some 11), (some ⟨8, false⟩), (.call 112 [(.t 10)])⟩, ⟨(some 12), (some ⟨8, false⟩), (.q (.not (.t 11)))⟩, ⟨(some 13), none, (.q (.pick (.t 8) (.c (.bool true)) (.t 12)))⟩, ⟨(some 3), none, (.q (.mov (.t 13)))⟩] [1, 3])
    (.cond (.t 3)
     (.seq
      (.reg 2 [⟨(some 2), none, (.q (.mov (.c (.bool false))))⟩] [2])
      .ret)
     (.seq
      (.reg 3 [⟨(some 15), none, (.q (.faddr 1 (.t 1)))⟩, ⟨(some 16), none, (.q (.load none (.t 15)))⟩, ⟨(some 17), none, (.q (.bin .eql (.t 16) (.c (.int .u8 0))))⟩, ⟨(some 14), none, (.q (.mov (.t 17)))⟩] [1, 14])
      (.cond (.t 14)
       (.seq
        (.reg 4 [⟨(some 18), none, (.q (.faddr 2 (.t 1)))⟩, ⟨(some 19), none, (.q (.load (some 3) (.t 18)))⟩, ⟨(some 20), none, (.q (.bld [(.int .i64 0), (.str []), (.str [])] []))⟩, ⟨(some 21), none, (.q (.eqs [1, 2, 2] true false (.t 19) (.t 20)))⟩, ⟨(some 2), none, (.q (.mov (.t 21)))⟩] [2])
        .ret)
       .skip)))))
  (.seq
   (.reg 5 [⟨(some 22), none, (.q (.faddr 0 (.t 1)))⟩, ⟨(some 23), none, (.q (.load none (.t 22)))⟩, ⟨(some 24), none, (.call 113 [(.t 23)])⟩, ⟨(some 25), none, (.q (.not (.t 24)))⟩, ⟨(some 26), none, (.q (.mov (.t 25)))⟩, ⟨(some 27), (some ⟨26, true⟩), (.q (.faddr 2 (.t 1)))⟩, ⟨(some 28), (some ⟨26, true⟩), (.q (.load (some 3) (.t 27)))⟩, ⟨(some 29), (some ⟨26, true⟩), (.call 114 [(.t 28), (.c (.bool true))])⟩, ⟨(some 30), none, (.q (.pick (.t 26) (.t 29) (.c (.bool false))))⟩, ⟨(some 2), none, (.q (.mov (.t 30)))⟩] [2])
   .ret)))
theorem fok48 : FOK Tryz.prog 48 (31, ic48, [(.t 2)]) := .mk (pf := [1000001]) (an := [(0, [1]), (1, [1, 3]), (2, [2]), (3, [1, 14]), (4, [2]), (5, [2])]) (by kernel_rfl) (fnOK_of Tryz.func48 (by kernel_rfl) (by kernel_rfl) (by kernel_rfl))
/-- slices.ContainsFunc[[]chandlery/api.Edit,chandlery/api.Edit] -/
def ic49 : IC :=
 (.seq
 (.reg 0 [oM 4 (cB false)] [0, 1])
 (.seq
 (.reg 1 [oM 5 0, oM 6 1, oK 7 (.call 115 [5, 6]), oQ 8 (.bin .geq 7 (cI 0)), oM 4 8] [4])
 .ret))
theorem fok49 : FOK Tryz.prog 49 (9, ic49, [(.t 4)]) := fokA [] Tryz.func49 (by kernel_rfl) (by kernel_rfl) (by kernel_rfl) (by kernel_rfl)
/-- chandlery/ask.New$2 -/
def ic50 : IC :=
 (.seq
 (.reg 0 [oK 3 (.boxt 0), oM 4 (cB false)] [1, 2, 3])
 (.seq
 (.dreg 1 [oQ 5 (.load (some 2) 3), oQ 6 (.faddr 2 1), oQ 7 (.load none 6), oQ 8 (.len 0 7), oQ 9 (.load none 2), oK 10 (.pcall 52 [9]), oK 11 (.pcall 51 [5, 8, 10]), oQ 12 (.not 11), oM 4 12] false [4])
 .ret))
theorem fok50 : FOK Tryz.prog 50 (13, ic50, [(.t 4)]) := fokA ([1000003] ++ [51, 52]) Tryz.func50 (by kernel_rfl) (by kernel_rfl) (by kernel_rfl) (by kernel_rfl)
/-- chandlery/ask.may -/
def ic51 : IC :=
 (.seq
 (.reg 0 [oK 3 (.boxt 0), oM 6 (cB false)] [1, 2, 3])
 (.seq
 (.reg 1 [oM 8 2, oM 7 8] [1, 3, 7])
 (.seq
 (.seq
 (.reg 2 [oQ 9 (.faddr 0 3), oQ 10 (.load none 9), oQ 11 (.bin .eql 10 (.c (zU 1)))] [1, 3, 7, 11])
 (.cond 11
 (.reg 3 [oM 12 1, oM 7 12] [3, 7])
 .skip))
 (.seq
 (.reg 4 [oQ 13 (.faddr 0 3), oQ 14 (.load none 13), oQ 15 (.bin .geq 14 (.c (zU 1))), oM 16 15, gQ 17 16 true (.faddr 0 3), gQ 18 16 true (.load none 17), gQ 19 16 true (.bin .leq 18 (.c (zU 4))), oQ 20 (.pick 16 19 (cB false)), oM 21 20, gQ 22 21 true (.faddr 1 3), gQ 23 21 true (.load none 22), gQ 24 21 true (.bin .geq 23 (cI 0)), oQ 25 (.pick 21 24 (cB false)), oM 26 25, gQ 27 26 true (.faddr 1 3), gQ 28 26 true (.load none 27), gQ 29 26 true (.mov 7), gQ 30 26 true (.bin .lss 28 29), oQ 31 (.pick 26 30 (cB false)), oM 6 31] [6])
 .ret))))
theorem fok51 : FOK Tryz.prog 51 (32, ic51, [(.t 6)]) := fokA [1000003] Tryz.func51 (by kernel_rfl) (by kernel_rfl) (by kernel_rfl) (by kernel_rfl)
/-- (*chandlery/pool.Pool).Installed -/
def ic52 : IC :=
(.seq
 (.reg 0 [⟨(some 2), none, (.q (.mov (.c (.int .i64 0))))⟩] [0])
 (.seq
  (.seq
   (.reg 1 [⟨(some 3), none, (.q (.mov (.t 0)))⟩, ⟨(some 4), none, (.q (.isnil (.pointer 119) false (.t 3)))⟩] [0, 4])
   (.cond (.t 4)
    (.seq
     (.reg 2 [⟨(some 2), none, (.q (.mov (.c (.int .i64 0))))⟩] [2])
     .ret)
    .skip))
  (.seq
   (.reg 3 [⟨(some 5), none, (.q (.mov (.t 0)))⟩, ⟨(some 6), none, (.q (.nchk (.t 5)))⟩, ⟨(some 7), none, (.q (.faddr 1 (.t 6)))⟩, ⟨(some 8), none, (.q (.load none (.t 7)))⟩, ⟨(some 2), none, (.q (.mov (.t 8)))⟩] [2])
   .ret)))
theorem fok52 : FOK Tryz.prog 52 (9, ic52, [(.t 2)]) := .mk (pf := []) (an := [(0, [0]), (1, [0, 4]), (2, [2]), (3, [2])]) (by kernel_rfl) (fnOK_of Tryz.func52 (by kernel_rfl) (by kernel_rfl) (by kernel_rfl))
/-- chandlery/match.New -/
def ic53 : IC :=
(.seq
 (.reg 0 [⟨(some 2), none, (.q (.mov (.c .nilptr)))⟩, ⟨(some 3), none, (.q (.mov (.c (.int .i64 0))))⟩] [0])
 (.seq
  (.seq
   (.reg 1 [⟨(some 11), none, (.q (.mov (.t 0)))⟩, ⟨(some 12), none, (.q (.isnil (.pointer 119) false (.t 11)))⟩] [0, 12])
   (.cond (.t 12)
    (.seq
     (.reg 2 [⟨(some 2), none, (.q (.mov (.c .nilptr)))⟩, ⟨(some 3), none, (.q (.mov (.c (.int .i64 2))))⟩] [2, 3])
     .ret)
    .skip))
  (.seq
   (.reg 3 [⟨(some 13), none, .mkmap⟩, ⟨(some 14), none, .mkmap⟩, ⟨(some 15), none, .mkmap⟩, ⟨(some 16), none, (.q (.bld [.nilslice, .nilmap, .nilmap, .nilmap] [⟨1, ⟨1, (.t 13)⟩⟩, ⟨2, ⟨1, (.t 14)⟩⟩, ⟨3, ⟨1, (.t 15)⟩⟩]))⟩, ⟨(some 17), none, (.box (.t 16))⟩, ⟨(some 4), none, (.q (.mov (.t 17)))⟩] [0, 4])
   (.seq
    (.seq
     (.reg 4 [⟨(some 18), none, (.q (.mov (.t 0)))⟩, ⟨(some 19), none, (.call 55 [(.t 18)])⟩, ⟨(some 20), none, (.q (.mov (.c (.int .i64 0))))⟩] [0, 4, 19, 20])
     (.block 0
      (.loop
       (.seq
        (.reg 5 [⟨(some 21), none, (.q (.bin .lss (.t 20) (.t 19)))⟩] [0, 4, 19, 20, 21])
        (.seq
         (.cond (.t 21)
          .skip
          (.exit 0))
         (.seq
          (.block 1
           (.seq
            (.reg 6 [⟨(some 22), none, (.q (.mov (.t 20)))⟩, ⟨(some 5), none, (.q (.mov (.t 22)))⟩] [0, 4, 5, 19, 20])
            (.seq
            (.reg 7 [⟨(some 24), none, (.q (.mov (.t 0)))⟩, ⟨(some 25), none, (.q (.mov (.t 5)))⟩, ⟨(some 26), none, (.call 56 [(.t 24), (.t 25)])⟩, ⟨(some 23), none, (.q (.mov (.t 26)))⟩, ⟨(some 27), none, (.q (.ext 0 (.t 23)))⟩, ⟨(some 28), none, (.q (.ext 1 (.t 23)))⟩, ⟨(some 6), none, (.alloc [(.str []), (.int .i64 0), (.str []), (.str []), (.int .u8 0), (.str []), .nilslice, .nilslice, .nilslice, .nilslice, .nilslice, .nilslice, .nilslice, .nilslice, .nilslice])⟩, ⟨none, none, (.store 15 (.t 6) (.t 27))⟩, ⟨(some 7), none, (.q (.mov (.t 28)))⟩] [0, 4, 5, 6, 7, 19, 20])
            (.seq
            (.seq
            (.reg 8 [⟨(some 29), none, (.q (.mov (.t 7)))⟩, ⟨(some 30), none, (.q (.bin .neq (.t 29) (.c (.int .i64 0))))⟩] [0, 4, 5, 6, 7, 19, 20, 30])
            (.cond (.t 30)
            (.seq
            (.reg 9 [⟨(some 31), none, (.q (.mov (.t 7)))⟩, ⟨(some 2), none, (.q (.mov (.c .nilptr)))⟩, ⟨(some 3), none, (.q (.mov (.t 31)))⟩] [2, 3])
            .ret)
            .skip))
            (.seq
            (.dreg 10 [⟨(some 32), none, (.q (.mov (.t 4)))⟩, ⟨(some 33), none, (.q (.mov (.t 4)))⟩, ⟨(some 34), none, (.q (.nchk (.t 33)))⟩, ⟨(some 35), none, (.q (.faddr 0 (.t 34)))⟩, ⟨(some 36), none, (.q (.load none (.t 35)))⟩, ⟨(some 37), none, (.q (.load (some 15) (.t 6)))⟩, ⟨(some 38), none, (.bslt 15 1 [(.str []), (.int .i64 0), (.str []), (.str []), (.int .u8 0), (.str []), .nilslice, .nilslice, .nilslice, .nilslice, .nilslice, .nilslice, .nilslice, .nilslice, .nilslice] [⟨0, ⟨15, (.t 37)⟩⟩])⟩, ⟨(some 39), none, (.app 15 (.t 36) (.t 38))⟩, ⟨(some 40), none, (.q (.nchk (.t 32)))⟩, ⟨(some 41), none, (.q (.faddr 0 (.t 40)))⟩, ⟨none, none, (.store 1 (.t 41) (.t 39))⟩] true [0, 4, 5, 6, 19, 20])
            (.seq
            (.dreg 11 [⟨(some 42), none, (.q (.mov (.t 4)))⟩, ⟨(some 43), none, (.q (.nchk (.t 42)))⟩, ⟨(some 44), none, (.q (.faddr 2 (.t 43)))⟩, ⟨(some 45), none, (.q (.load none (.t 44)))⟩, ⟨(some 46), none, (.q (.faddr 0 (.t 6)))⟩, ⟨(some 47), none, (.q (.load none (.t 46)))⟩, ⟨(some 48), none, (.q (.mov (.t 4)))⟩, ⟨(some 49), none, (.q (.nchk (.t 48)))⟩, ⟨(some 50), none, (.q (.faddr 2 (.t 49)))⟩, ⟨(some 51), none, (.q (.load none (.t 50)))⟩, ⟨(some 52), none, (.q (.faddr 0 (.t 6)))⟩, ⟨(some 53), none, (.q (.load none (.t 52)))⟩, ⟨(some 54), none, (.q (.lkp 2 .nilslice false (.t 51) (.t 53)))⟩, ⟨(some 55), none, (.q (.mov (.t 5)))⟩, ⟨(some 56), none, (.bslt 1 1 [(.int .i64 0)] [⟨0, ⟨1, (.t 55)⟩⟩])⟩, ⟨(some 57), none, (.app 1 (.t 54) (.t 56))⟩, ⟨none, none, (.mupd 2 (.t 45) (.t 47) (.t 57))⟩] true [0, 4, 5, 6, 19, 20])
            (.seq
            (.seq
            (.reg 12 [⟨(some 58), none, (.q (.load (some 15) (.t 6)))⟩, ⟨(some 59), none, (.call 116 [(.t 58)])⟩, ⟨(some 60), none, (.mrange (.t 59))⟩] [0, 4, 5, 6, 19, 20, 60])
            (.block 2
            (.loop
            (.seq
            (.reg 13 [⟨(some 61), none, (.mnext (.t 60))⟩, ⟨(some 62), none, (.q (.ext 0 (.t 61)))⟩] [0, 4, 5, 6, 19, 20, 60, 62])
            (.seq
            (.cond (.t 62)
            .skip
            (.exit 2))
            (.block 3
            (.seq
            (.reg 14 [⟨(some 63), none, (.ment (.t 60))⟩, ⟨(some 64), none, (.q (.ext 0 (.t 63)))⟩, ⟨(some 8), none, (.q (.mov (.t 64)))⟩] [0, 4, 5, 6, 8, 19, 20, 60])
            (.dreg 15 [⟨(some 65), none, (.q (.mov (.t 4)))⟩, ⟨(some 66), none, (.q (.nchk (.t 65)))⟩, ⟨(some 67), none, (.q (.faddr 1 (.t 66)))⟩, ⟨(some 68), none, (.q (.load none (.t 67)))⟩, ⟨(some 69), none, (.q (.mov (.t 8)))⟩, ⟨(some 70), none, (.q (.mov (.t 4)))⟩, ⟨(some 71), none, (.q (.nchk (.t 70)))⟩, ⟨(some 72), none, (.q (.faddr 1 (.t 71)))⟩, ⟨(some 73), none, (.q (.load none (.t 72)))⟩, ⟨(some 74), none, (.q (.mov (.t 8)))⟩, ⟨(some 75), none, (.q (.lkp 2 .nilslice false (.t 73) (.t 74)))⟩, ⟨(some 76), none, (.q (.mov (.t 5)))⟩, ⟨(some 77), none, (.bslt 1 1 [(.int .i64 0)] [⟨0, ⟨1, (.t 76)⟩⟩])⟩, ⟨(some 78), none, (.app 1 (.t 75) (.t 77))⟩, ⟨none, none, (.mupd 2 (.t 68) (.t 69) (.t 78))⟩] true [0, 4, 5, 6, 19, 20, 60]))))))))
            (.seq
            (.reg 16 [⟨(some 79), none, (.q (.faddr 9 (.t 6)))⟩, ⟨(some 80), none, (.q (.load none (.t 79)))⟩, ⟨(some 81), none, (.q (.len 0 (.t 80)))⟩, ⟨(some 82), none, (.q (.mov (.c (.int .i64 0))))⟩] [0, 4, 5, 19, 20, 80, 81, 82])
            (.block 4
            (.loop
            (.seq
            (.reg 17 [⟨(some 83), none, (.q (.bin .lss (.t 82) (.t 81)))⟩] [0, 4, 5, 19, 20, 80, 81, 82, 83])
            (.seq
            (.cond (.t 83)
            .skip
            (.exit 4))
            (.seq
            (.block 5
            (.seq
            (.reg 18 [⟨(some 84), none, (.q (.iaddr 5 (.t 80) (.t 82)))⟩, ⟨(some 85), none, (.q (.load (some 5) (.t 84)))⟩, ⟨(some 10), none, (.alloc [(.str []), (.int .u8 0), (.int .i64 0), (.str []), (.str [])])⟩, ⟨none, none, (.store 5 (.t 10) (.t 85))⟩] [0, 4, 5, 10, 19, 20, 80, 81, 82])
            (.seq
            (.dreg 19 [⟨(some 86), none, (.q (.mov (.t 4)))⟩, ⟨(some 87), none, (.q (.nchk (.t 86)))⟩, ⟨(some 88), none, (.q (.faddr 3 (.t 87)))⟩, ⟨(some 89), none, (.q (.load none (.t 88)))⟩, ⟨(some 90), none, (.q (.faddr 0 (.t 10)))⟩, ⟨(some 91), none, (.q (.load none (.t 90)))⟩, ⟨(some 92), none, (.q (.lkp 2 .nilslice false (.t 89) (.t 91)))⟩, ⟨(some 93), none, (.q (.mov (.t 5)))⟩, ⟨(some 94), none, (.call 117 [(.t 92), (.t 93)])⟩, ⟨(some 95), none, (.q (.not (.t 94)))⟩] false [0, 4, 5, 10, 19, 20, 80, 81, 82, 95])
            (.cond (.t 95)
            (.dreg 20 [⟨(some 96), none, (.q (.mov (.t 4)))⟩, ⟨(some 97), none, (.q (.nchk (.t 96)))⟩, ⟨(some 98), none, (.q (.faddr 3 (.t 97)))⟩, ⟨(some 99), none, (.q (.load none (.t 98)))⟩, ⟨(some 100), none, (.q (.faddr 0 (.t 10)))⟩, ⟨(some 101), none, (.q (.load none (.t 100)))⟩, ⟨(some 102), none, (.q (.mov (.t 4)))⟩, ⟨(some 103), none, (.q (.nchk (.t 102)))⟩, ⟨(some 104), none, (.q (.faddr 3 (.t 103)))⟩, ⟨(some 105), none, (.q (.load none (.t 104)))⟩, ⟨(some 106), none, (.q (.faddr 0 (.t 10)))⟩, ⟨(some 107), none, (.q (.load none (.t 106)))⟩, ⟨(some 108), none, (.q (.lkp 2 .nilslice false (.t 105) (.t 107)))⟩, ⟨(some 109), none, (.q (.mov (.t 5)))⟩, ⟨(some 110), none, (.bslt 1 1 [(.int .i64 0)] [⟨0, ⟨1, (.t 109)⟩⟩])⟩, ⟨(some 111), none, (.app 1 (.t 108) (.t 110))⟩, ⟨none, none, (.mupd 2 (.t 99) (.t 101) (.t 111))⟩] true [0, 4, 5, 19, 20, 80, 81, 82])
            .skip))))
            (.reg 21 [⟨(some 112), none, (.q (.bin .add (.t 82) (.c (.int .i64 1))))⟩, ⟨(some 82), none, (.q (.mov (.t 112)))⟩] [0, 4, 5, 19, 20, 80, 81, 82]))))))))))))))
          (.reg 22 [⟨(some 113), none, (.q (.bin .add (.t 20) (.c (.int .i64 1))))⟩, ⟨(some 20), none, (.q (.mov (.t 113)))⟩] [0, 4, 19, 20])))))))
    (.seq
     (.reg 23 [⟨(some 114), none, (.q (.mov (.t 4)))⟩, ⟨(some 2), none, (.q (.mov (.t 114)))⟩, ⟨(some 3), none, (.q (.mov (.c (.int .i64 0))))⟩] [2, 3])
     .ret)))))
theorem fok53 : FOK Tryz.prog 53 (115, ic53, [(.t 2), (.t 3)]) := .mk (pf := [1000038, 1000056, 1000077, 1000110]) (an := [(0, [0]), (1, [0, 12]), (2, [2, 3]), (3, [0, 4]), (4, [0, 4, 19, 20]), (5, [0, 4, 19, 20, 21]), (6, [0, 4, 5, 19, 20]), (7, [0, 4, 5, 6, 7, 19, 20]), (8, [0, 4, 5, 6, 7, 19, 20, 30]), (9, [2, 3]), (10, [0, 4, 5, 6, 19, 20]), (11, [0, 4, 5, 6, 19, 20]), (12, [0, 4, 5, 6, 19, 20, 60]), (13, [0, 4, 5, 6, 19, 20, 60, 62]), (14, [0, 4, 5, 6, 8, 19, 20, 60]), (15, [0, 4, 5, 6, 19, 20, 60]), (16, [0, 4, 5, 19, 20, 80, 81, 82]), (17, [0, 4, 5, 19, 20, 80, 81, 82, 83]), (18, [0, 4, 5, 10, 19, 20, 80, 81, 82]), (19, [0, 4, 5, 10, 19, 20, 80, 81, 82, 95]), (20, [0, 4, 5, 19, 20, 80, 81, 82]), (21, [0, 4, 5, 19, 20, 80, 81, 82]), (22, [0, 4, 19, 20]), (23, [2, 3])]) (by kernel_rfl) (fnOK_of Tryz.func53 (by kernel_rfl) (by kernel_rfl) (by kernel_rfl))
/-- chandlery/ask.own -/
def ic54 : IC :=
 (.seq
 (.reg 0 [oK 1 (.box 0), oK 2 (.alloc [(zU 0), (.bool false), .nilslice, .nilslice, (zI 0)])] [1, 2])
 (.seq
 (.dreg 1 [oQ 3 (.faddr 2 1), oQ 4 (.load none 3), oK 5 (.pcall 118 [4]), oQ 6 (.faddr 3 1), oQ 7 (.load none 6), oK 8 (.pcall 119 [7]), oQ 9 (.faddr 2 1), oN (.store 1 9 5), oQ 10 (.faddr 3 1), oN (.store 1 10 8)] false [1, 2])
 (.seq
 (.reg 2 [oQ 11 (.load (some 5) 1), oN (.store 5 2 11)] [2])
 .ret)))
theorem fok54 : FOK Tryz.prog 54 (12, ic54, [(.cell (some 5) 2)]) := fokA ([] ++ [118, 119]) Tryz.func54 (by kernel_rfl) (by kernel_rfl) (by kernel_rfl) (by kernel_rfl)
/-- (*chandlery/pool.Pool).Count -/
def ic55 : IC :=
(.seq
 (.reg 0 [⟨(some 2), none, (.q (.mov (.c (.int .i64 0))))⟩] [0])
 (.seq
  (.seq
   (.reg 1 [⟨(some 3), none, (.q (.mov (.t 0)))⟩, ⟨(some 4), none, (.q (.isnil (.pointer 119) false (.t 3)))⟩] [0, 4])
   (.cond (.t 4)
    (.seq
     (.reg 2 [⟨(some 2), none, (.q (.mov (.c (.int .i64 0))))⟩] [2])
     .ret)
    .skip))
  (.seq
   (.reg 3 [⟨(some 5), none, (.q (.mov (.t 0)))⟩, ⟨(some 6), none, (.q (.nchk (.t 5)))⟩, ⟨(some 7), none, (.q (.faddr 0 (.t 6)))⟩, ⟨(some 8), none, (.q (.load none (.t 7)))⟩, ⟨(some 9), none, (.q (.len 0 (.t 8)))⟩, ⟨(some 2), none, (.q (.mov (.t 9)))⟩] [2])
   .ret)))
theorem fok55 : FOK Tryz.prog 55 (10, ic55, [(.t 2)]) := .mk (pf := []) (an := [(0, [0]), (1, [0, 4]), (2, [2]), (3, [2])]) (by kernel_rfl) (fnOK_of Tryz.func55 (by kernel_rfl) (by kernel_rfl) (by kernel_rfl))
/-- (*chandlery/pool.Pool).Package -/
def ic56 : IC :=
(.seq
 (.reg 0 [⟨(some 4), none, (.alloc [(.str []), (.int .i64 0), (.str []), (.str []), (.int .u8 0), (.str []), .nilslice, .nilslice, .nilslice, .nilslice, .nilslice, .nilslice, .nilslice, .nilslice, .nilslice])⟩, ⟨(some 5), none, (.q (.mov (.c (.int .i64 0))))⟩] [0, 1, 4])
 (.seq
  (.seq
   (.reg 1 [⟨(some 6), none, (.q (.mov (.t 0)))⟩, ⟨(some 7), none, (.q (.isnil (.pointer 119) false (.t 6)))⟩, ⟨(some 8), none, (.q (.mov (.t 7)))⟩, ⟨(some 9), (some ⟨8, false⟩), (.q (.mov (.t 0)))⟩, ⟨(some 10), (some ⟨8, false⟩), (.q (.nchk (.t 9)))⟩, ⟨(some 11), (some ⟨8, false⟩), (.q (.faddr 0 (.t 10)))⟩, ⟨(some 12), (some ⟨8, false⟩), (.q (.load none (.t 11)))⟩, ⟨(some 13), (some ⟨8, false⟩), (.q (.mov (.t 1)))⟩, ⟨(some 14), (some ⟨8, false⟩), (.call 120 [(.t 12), (.t 13)])⟩, ⟨(some 15), (some ⟨8, false⟩), (.q (.not (.t 14)))⟩, ⟨(some 16), none, (.q (.pick (.t 8) (.c (.bool true)) (.t 15)))⟩] [0, 1, 4, 16])
   (.cond (.t 16)
    (.seq
     (.reg 2 [⟨(some 17), none, (.q (.bld [(.str []), (.int .i64 0), (.str []), (.str []), (.int .u8 0), (.str []), .nilslice, .nilslice, .nilslice, .nilslice, .nilslice, .nilslice, .nilslice, .nilslice, .nilslice] []))⟩, ⟨none, none, (.store 15 (.t 4) (.t 17))⟩, ⟨(some 5), none, (.q (.mov (.c (.int .i64 5))))⟩] [4, 5])
     .ret)
    .skip))
  (.seq
   (.reg 3 [⟨(some 18), none, (.q (.mov (.t 0)))⟩, ⟨(some 19), none, (.q (.nchk (.t 18)))⟩, ⟨(some 20), none, (.q (.faddr 0 (.t 19)))⟩, ⟨(some 21), none, (.q (.load none (.t 20)))⟩, ⟨(some 22), none, (.q (.mov (.t 1)))⟩, ⟨(some 23), none, (.q (.iaddr 17 (.t 21) (.t 22)))⟩, ⟨(some 24), none, (.q (.faddr 0 (.t 23)))⟩, ⟨(some 25), none, (.q (.load (some 15) (.t 24)))⟩, ⟨(some 26), none, (.call 121 [(.t 25)])⟩, ⟨none, none, (.store 15 (.t 4) (.t 26))⟩, ⟨(some 5), none, (.q (.mov (.c (.int .i64 0))))⟩] [4, 5])
   .ret)))
theorem fok56 : FOK Tryz.prog 56 (27, ic56, [(.cell (some 15) 4), (.t 5)]) := .mk (pf := []) (an := [(0, [0, 1, 4]), (1, [0, 1, 4, 16]), (2, [4, 5]), (3, [4, 5])]) (by kernel_rfl) (fnOK_of Tryz.func56 (by kernel_rfl) (by kernel_rfl) (by kernel_rfl))
/-- (*chandlery/ask.Ask).is -/
def ic57 : IC :=
 (.seq
 (.reg 0 [oM 4 (cB false)] [0, 1])
 (.seq
 (.reg 1 [oM 5 0, oQ 6 (.isnil (.pointer 103) true 5), oM 7 6, gQ 8 7 true (.mov 1), gQ 9 7 true (.bin .geq 8 (cI 0)), oQ 10 (.pick 7 9 (cB false)), oM 11 10, gQ 12 11 true (.mov 1), gQ 13 11 true (.mov 0), gQ 14 11 true (.nchk 13), gQ 15 11 true (.faddr 7 14), gQ 16 11 true (.load none 15), gQ 17 11 true (.len 0 16), gQ 18 11 true (.bin .lss 12 17), oQ 19 (.pick 11 18 (cB false)), oM 4 19] [4])
 .ret))
theorem fok57 : FOK Tryz.prog 57 (20, ic57, [(.t 4)]) := fokA [] Tryz.func57 (by kernel_rfl) (by kernel_rfl) (by kernel_rfl) (by kernel_rfl)
/-- chandlery/arch.Fits -/
def ic58 : IC :=
 (.seq
 (.reg 0 [oM 4 (cB false)] [0, 1])
 (.seq
 (.reg 1 [oM 5 0, oM 6 1, oK 7 (.call 122 [5, 6]), oQ 8 (.bin .gtr 7 (cI 0)), oM 4 8] [4])
 .ret))
theorem fok58 : FOK Tryz.prog 58 (9, ic58, [(.t 4)]) := fokA [] Tryz.func58 (by kernel_rfl) (by kernel_rfl) (by kernel_rfl) (by kernel_rfl)
/-- chandlery/arch.Apart -/
def ic59 : IC :=
 (.seq
 (.reg 0 [oM 4 (cB false)] [0, 1])
 (.seq
 (.reg 1 [oM 5 0, oK 6 (.call 45 [5]), oM 7 6, gQ 8 7 true (.mov 1), gK 9 7 true (.call 45 [8]), oQ 10 (.pick 7 9 (cB false)), oM 11 10, gQ 12 11 true (.mov 0), gQ 13 11 true (.mov 1), gQ 14 11 true (.bin .neq 12 13), oQ 15 (.pick 11 14 (cB false)), oM 4 15] [4])
 .ret))
theorem fok59 : FOK Tryz.prog 59 (16, ic59, [(.t 4)]) := fokA [] Tryz.func59 (by kernel_rfl) (by kernel_rfl) (by kernel_rfl) (by kernel_rfl)
/-- chandlery/evr.Compare -/
def ic60 : IC :=
 (.seq
 (.reg 0 [oK 2 (.boxt 0), oK 3 (.boxt 1), oM 4 (cI 0)] [2, 3])
 (.seq
 (.reg 1 [oQ 5 (.mkf 124 [] [2, 3]), oQ 6 (.mkf 125 [] [2, 3]), oQ 7 (.mkf 127 [] [2, 3]), oK 8 (.bslt 1 3 [.nilfunc] [⟨0, ⟨1, 5⟩⟩, ⟨1, ⟨1, 6⟩⟩, ⟨2, ⟨1, 7⟩⟩]), oK 9 (.call 123 [8]), oM 4 9] [4])
 .ret))
theorem fok60 : FOK Tryz.prog 60 (10, ic60, [(.t 4)]) := fokA [1000002, 1000003, 1000008] Tryz.func60 (by kernel_rfl) (by kernel_rfl) (by kernel_rfl) (by kernel_rfl)
/-- (*chandlery/ask.Ask).job -/
def ic61 : IC :=
 (.seq
 (.reg 0 [oM 4 (cB false)] [0, 1])
 (.seq
 (.reg 1 [oM 5 0, oQ 6 (.isnil (.pointer 103) true 5), oM 7 6, gQ 8 7 true (.mov 1), gQ 9 7 true (.bin .geq 8 (cI 0)), oQ 10 (.pick 7 9 (cB false)), oM 11 10, gQ 12 11 true (.mov 1), gQ 13 11 true (.mov 0), gQ 14 11 true (.nchk 13), gQ 15 11 true (.faddr 2 14), gQ 16 11 true (.faddr 2 15), gQ 17 11 true (.load none 16), gQ 18 11 true (.len 0 17), gQ 19 11 true (.bin .lss 12 18), oQ 20 (.pick 11 19 (cB false)), oM 4 20] [4])
 .ret))
theorem fok61 : FOK Tryz.prog 61 (21, ic61, [(.t 4)]) := fokA [] Tryz.func61 (by kernel_rfl) (by kernel_rfl) (by kernel_rfl) (by kernel_rfl)
/-- (*chandlery/ask.Ask).edited -/
def ic62 : IC :=
 (.seq
 (.reg 0 [oM 6 (cB false)] [0, 1, 2])
 (.seq
 (.reg 1 [oM 7 0, oQ 8 (.nchk 7), oQ 9 (.faddr 2 8), oQ 10 (.faddr 3 9), oQ 11 (.load none 10), oM 12 1, oM 13 2, oQ 14 (.bld [(zU 0), (zI 0)] [⟨0, ⟨1, 12⟩⟩, ⟨1, ⟨1, 13⟩⟩]), oK 15 (.call 128 [11, 14]), oM 6 15] [6])
 .ret))
theorem fok62 : FOK Tryz.prog 62 (16, ic62, [(.t 6)]) := fokA [] Tryz.func62 (by kernel_rfl) (by kernel_rfl) (by kernel_rfl) (by kernel_rfl)
/-- (*chandlery/ask.Ask).installed -/
def ic63 : IC :=
 (.seq
 (.reg 0 [oM 4 (cB false)] [0, 1])
 (.seq
 (.reg 1 [oM 5 0, oM 6 1, oK 7 (.call 57 [5, 6]), oM 8 7, gQ 9 8 true (.mov 1), gQ 10 8 true (.mov 0), gQ 11 8 true (.nchk 10), gQ 12 8 true (.faddr 0 11), gQ 13 8 true (.load none 12), gK 14 8 true (.call 52 [13]), gQ 15 8 true (.bin .lss 9 14), oQ 16 (.pick 8 15 (cB false)), oM 4 16] [4])
 .ret))
theorem fok63 : FOK Tryz.prog 63 (17, ic63, [(.t 4)]) := fokA [] Tryz.func63 (by kernel_rfl) (by kernel_rfl) (by kernel_rfl) (by kernel_rfl)
/-- (*chandlery/ask.Ask).named -/
def ic64 : IC :=
 (.seq
 (.reg 0 [oM 6 (cB false)] [0, 1, 2])
 (.seq
 (.seq
 (.reg 1 [oM 9 0, oQ 10 (.nchk 9), oQ 11 (.faddr 2 10), oQ 12 (.faddr 2 11), oQ 13 (.load none 12), oQ 14 (.len 0 13), oM 15 (cI 0)] [0, 1, 2, 13, 14, 15])
 (.block 0
 (.loop
 (.seq
 (.reg 2 [oQ 16 (.bin .lss 15 14)] [0, 1, 2, 13, 14, 15, 16])
 (.seq
 (.cond 16
 .skip
 (.exit 0))
 (.seq
 (.block 1
 (.seq
 (.reg 3 [oM 17 15, oQ 18 (.iaddr 6 13 15), oQ 19 (.load (some 6) 18), oK 8 (.alloc [(zU 0), (.str []), (zU 0), (zI 0), (.str []), (.str [])]), oM 7 17, oN (.store 6 8 19)] [0, 1, 2, 7, 8, 13, 14, 15])
 (.seq
 (.dreg 4 [oQ 20 (.faddr 0 8), oQ 21 (.load none 20), oM 22 1, oQ 23 (.bin .eql 21 22), oM 24 23, gQ 25 24 true (.mov 0), gQ 26 24 true (.mov 7), gK 27 24 true (.pcall 15 [25, 26]), gQ 28 24 true (.not 27), oQ 29 (.pick 24 28 (cB false)), oM 30 29, gQ 31 30 true (.mov 0), gQ 32 30 true (.nchk 31), gQ 33 30 true (.faddr 1 32), gQ 34 30 true (.load none 33), gQ 35 30 true (.faddr 1 8), gQ 36 30 true (.load (some 5) 35), gK 37 30 true (.pcall 73 [34, 36]), gQ 38 30 true (.mov 2), gK 39 30 true (.pcall 117 [37, 38]), oQ 40 (.pick 30 39 (cB false))] false [0, 1, 2, 13, 14, 15, 40])
 (.cond 40
 (.seq
 (.reg 5 [oM 6 (cB true)] [6])
 .ret)
 .skip))))
 (.reg 6 [oQ 41 (.bin .add 15 (cI 1)), oM 15 41] [0, 1, 2, 13, 14, 15])))))))
 (.seq
 (.reg 7 [oM 6 (cB false)] [6])
 .ret)))
theorem fok64 : FOK Tryz.prog 64 (42, ic64, [(.t 6)]) := fokA ([] ++ [15, 73, 117]) Tryz.func64 (by kernel_rfl) (by kernel_rfl) (by kernel_rfl) (by kernel_rfl)
/-- (*chandlery/ask.Ask).Successors$1 -/
def ic65 : IC :=
 (.seq
 (.reg 0 [oK 5 (.boxt 0), oM 6 (cB false)] [1, 2, 3, 4, 5])
 (.seq
 (.reg 1 [oQ 7 (.faddr 0 5), oQ 8 (.load none 7), oQ 9 (.faddr 0 1), oQ 10 (.load none 9), oQ 11 (.bin .eql 8 10), oM 12 11, gQ 13 12 true (.load none 2), gQ 14 12 true (.mov 13), gQ 15 14 false (.faddr 1 5), gQ 16 14 false (.load (some 3) 15), gQ 17 14 false (.faddr 1 1), gQ 18 14 false (.load (some 3) 17), gK 19 14 false (.call 60 [16, 18]), gQ 20 14 false (.bin .geq 19 (cI 0)), gQ 21 12 true (.pick 14 (cB true) 20), oQ 22 (.pick 12 21 (cB false)), oM 23 22, gQ 24 23 true (.load none 3), gQ 25 23 true (.mov 24), gQ 26 25 false (.faddr 4 5), gQ 27 25 false (.load none 26), gQ 28 25 false (.faddr 4 1), gQ 29 25 false (.load none 28), gK 30 25 false (.call 66 [27, 29]), gQ 31 23 true (.pick 25 (cB true) 30), oQ 32 (.pick 23 31 (cB false)), oM 33 32, gQ 34 33 true (.load none 4), gQ 35 33 true (.nchk 34), gQ 36 33 true (.faddr 2 35), gQ 37 33 true (.faddr 1 36), gQ 38 33 true (.load none 37), gQ 39 33 true (.mov 38), gQ 40 39 false (.faddr 5 5), gQ 41 39 false (.load none 40), gQ 42 39 false (.faddr 5 1), gQ 43 39 false (.load none 42), gQ 44 39 false (.bin .eql 41 43), gQ 45 33 true (.pick 39 (cB true) 44), oQ 46 (.pick 33 45 (cB false)), oM 6 46] [6])
 .ret))
theorem fok65 : FOK Tryz.prog 65 (47, ic65, [(.t 6)]) := fokA [1000005] Tryz.func65 (by kernel_rfl) (by kernel_rfl) (by kernel_rfl) (by kernel_rfl)
/-- chandlery/arch.Follows -/
def ic66 : IC :=
 (.seq
 (.reg 0 [oM 4 (cB false)] [0, 1])
 (.seq
 (.reg 1 [oM 5 0, oK 6 (.call 109 [5]), oM 7 6, gQ 8 7 true (.mov 1), gK 9 7 true (.call 109 [8]), oQ 10 (.pick 7 9 (cB false)), oM 11 10, gQ 12 11 true (.mov 0), gQ 13 11 true (.mov 1), gK 14 11 true (.call 59 [12, 13]), gQ 15 11 true (.not 14), oQ 16 (.pick 11 15 (cB false)), oM 4 16] [4])
 .ret))
theorem fok66 : FOK Tryz.prog 66 (17, ic66, [(.t 4)]) := fokA [] Tryz.func66 (by kernel_rfl) (by kernel_rfl) (by kernel_rfl) (by kernel_rfl)
/-- (*chandlery/match.Index).Obsoleters -/
def ic67 : IC :=
 (.seq
 (.reg 0 [oK 2 (.boxt 0), oK 3 (.boxt 1), oM 4 (.c .nilslice)] [2, 3])
 (.seq
 (.seq
 (.reg 1 [oQ 5 (.load none 2), oQ 6 (.load none 3), oK 7 (.call 129 [5, 6]), oQ 8 (.not 7)] [2, 3, 8])
 (.cond 8
 (.seq
 (.reg 2 [oM 4 (.c .nilslice)] [4])
 .ret)
 .skip))
 (.seq
 (.dreg 3 [oQ 9 (.load none 2), oQ 10 (.load none 2), oQ 11 (.nchk 10), oQ 12 (.faddr 3 11), oQ 13 (.load none 12), oQ 14 (.load none 2), oQ 15 (.nchk 14), oQ 16 (.faddr 0 15), oQ 17 (.load none 16), oQ 18 (.load none 3), oQ 19 (.iaddr 15 17 18), oQ 20 (.faddr 0 19), oQ 21 (.load none 20), oQ 22 (.lkp 2 .nilslice false 13 21), oQ 23 (.mkf 131 [] [3, 2]), oK 24 (.call 130 [9, 22, 23]), oM 4 24] false [4])
 .ret)))
theorem fok67 : FOK Tryz.prog 67 (25, ic67, [(.t 4)]) := fokA [1000002, 1000003] Tryz.func67 (by kernel_rfl) (by kernel_rfl) (by kernel_rfl) (by kernel_rfl)
/-- slices.Sort[[]int,int] -/
def ic68 : IC :=
 (.seq
 (.reg 0 [oM 3 0, oQ 4 (.len 0 3), oM 2 4] [0, 2])
 (.reg 1 [oM 5 0, oM 6 2, oM 7 2, oQ 8 (.conv .u64 7), oK 9 (.call 134 [8]), oK 10 (.call 133 [5, (cI 0), 6, 9])] []))
theorem fok68 : FOK Tryz.prog 68 (11, ic68, []) := fokA [] Tryz.func68 (by kernel_rfl) (by kernel_rfl) (by kernel_rfl) (by kernel_rfl)
/-- slices.Compact[[]int,int] -/
def ic69 : IC :=
 (.seq
 (.reg 0 [oM 2 (.c .nilslice)] [0])
 (.seq
 (.seq
 (.reg 1 [oM 6 0, oQ 7 (.len 0 6), oQ 8 (.bin .lss 7 (cI 2))] [0, 8])
 (.cond 8
 (.seq
 (.reg 2 [oM 9 0, oM 2 9] [2])
 .ret)
 .skip))
 (.seq
 (.seq
 (.reg 3 [oM 3 (cI 1)] [0, 3])
 (.block 0
 (.loop
 (.seq
 (.seq
 (.reg 4 [oM 10 3, oM 11 0, oQ 12 (.len 0 11), oQ 13 (.bin .lss 10 12)] [0, 3, 13])
 (.cond 13
 .skip
 (.exit 0)))
 (.seq
 (.block 1
 (.seq
 (.dreg 6 [oM 16 0, oM 17 3, oQ 18 (.iaddr 1 16 17), oQ 19 (.load none 18), oM 20 0, oM 21 3, oQ 22 (.bin .sub 21 (cI 1)), oQ 23 (.iaddr 1 20 22), oQ 24 (.load none 23), oQ 25 (.bin .eql 19 24)] false [0, 3, 25])
 (.cond 25
 (.seq
 (.reg 7 [oM 26 0, oM 27 3, oQ 28 (.slc 1 26 (some 27) none), oM 4 28] [0, 3, 4])
 (.seq
 (.seq
 (.reg 8 [oM 5 (cI 1)] [0, 3, 4, 5])
 (.block 2
 (.loop
 (.seq
 (.seq
 (.reg 9 [oM 29 5, oM 30 4, oQ 31 (.len 0 30), oQ 32 (.bin .lss 29 31)] [0, 3, 4, 5, 32])
 (.cond 32
 .skip
 (.exit 2)))
 (.seq
 (.block 3
 (.seq
 (.dreg 11 [oM 35 4, oM 36 5, oQ 37 (.iaddr 1 35 36), oQ 38 (.load none 37), oM 39 4, oM 40 5, oQ 41 (.bin .sub 40 (cI 1)), oQ 42 (.iaddr 1 39 41), oQ 43 (.load none 42), oQ 44 (.bin .neq 38 43)] false [0, 3, 4, 5, 44])
 (.cond 44
 (.seq
 (.reg 12 [oM 45 0, oM 46 3, oM 47 4, oM 48 5, oQ 49 (.iaddr 1 47 48), oQ 50 (.load none 49), oQ 51 (.iaddr 1 45 46), oN (.store 1 51 50)] [0, 3, 4, 5])
 (.reg 13 [oM 52 3, oQ 53 (.bin .add 52 (cI 1)), oM 3 53] [0, 3, 4, 5]))
 .skip)))
 (.reg 10 [oM 33 5, oQ 34 (.bin .add 33 (cI 1)), oM 5 34] [0, 3, 4, 5]))))))
 (.seq
 (.reg 14 [oM 54 0, oM 55 3, oQ 56 (.slc 1 54 (some 55) none), oN (.clr 1 [(zI 0)] 56)] [0, 3])
 (.seq
 (.reg 15 [oM 57 0, oM 58 3, oQ 59 (.slc 1 57 none (some 58)), oM 2 59] [2])
 .ret))))
 .skip)))
 (.reg 5 [oM 14 3, oQ 15 (.bin .add 14 (cI 1)), oM 3 15] [0, 3]))))))
 (.seq
 (.reg 16 [oM 60 0, oM 2 60] [2])
 .ret))))
theorem fok69 : FOK Tryz.prog 69 (61, ic69, [(.t 2)]) := fokA [] Tryz.func69 (by kernel_rfl) (by kernel_rfl) (by kernel_rfl) (by kernel_rfl)
/-- slices.DeleteFunc[[]int,int] -/
def ic70 : IC :=
 (.seq
 (.reg 0 [oM 4 (.c .nilslice)] [0, 1])
 (.seq
 (.reg 1 [oM 8 0, oM 9 1, oK 10 (.call 135 [8, 9]), oM 5 10] [0, 1, 5])
 (.seq
 (.seq
 (.reg 2 [oM 11 5, oQ 12 (.bin .eql 11 (cI (-1)))] [0, 1, 5, 12])
 (.cond 12
 (.seq
 (.reg 3 [oM 13 0, oM 4 13] [4])
 .ret)
 .skip))
 (.seq
 (.seq
 (.reg 4 [oM 14 5, oQ 15 (.bin .add 14 (cI 1)), oM 6 15] [0, 1, 5, 6])
 (.block 0
 (.loop
 (.seq
 (.seq
 (.reg 5 [oM 16 6, oM 17 0, oQ 18 (.len 0 17), oQ 19 (.bin .lss 16 18)] [0, 1, 5, 6, 19])
 (.cond 19
 .skip
 (.exit 0)))
 (.seq
 (.block 1
 (.seq
 (.reg 7 [oM 22 0, oM 23 6, oQ 24 (.iaddr 1 22 23), oQ 25 (.load none 24), oM 7 25] [0, 1, 5, 6, 7])
 (.seq
 (.reg 8 [oM 26 1, oM 27 7, oK 28 (.callv 26 [27]), oQ 29 (.not 28)] [0, 1, 5, 6, 7, 29])
 (.cond 29
 (.seq
 (.reg 9 [oM 30 0, oM 31 5, oM 32 7, oQ 33 (.iaddr 1 30 31), oN (.store 1 33 32)] [0, 1, 5, 6])
 (.reg 10 [oM 34 5, oQ 35 (.bin .add 34 (cI 1)), oM 5 35] [0, 1, 5, 6]))
 .skip))))
 (.reg 6 [oM 20 6, oQ 21 (.bin .add 20 (cI 1)), oM 6 21] [0, 1, 5, 6]))))))
 (.seq
 (.reg 11 [oM 36 0, oM 37 5, oQ 38 (.slc 1 36 (some 37) none), oN (.clr 1 [(zI 0)] 38)] [0, 5])
 (.seq
 (.reg 12 [oM 39 0, oM 40 5, oQ 41 (.slc 1 39 none (some 40)), oM 4 41] [4])
 .ret))))))
theorem fok70 : FOK Tryz.prog 70 (42, ic70, [(.t 4)]) := fokA [] Tryz.func70 (by kernel_rfl) (by kernel_rfl) (by kernel_rfl) (by kernel_rfl)
/-- (*chandlery/match.Index).Providers -/
def ic72 : IC :=
 (.seq
 (.reg 0 [oK 3 (.boxt 1), oM 4 (.c .nilslice)] [0, 3])
 (.seq
 (.seq
 (.reg 1 [oM 5 0, oQ 6 (.isnil (.pointer 160) false 5)] [0, 3, 6])
 (.cond 6
 (.seq
 (.reg 2 [oM 4 (.c .nilslice)] [4])
 .ret)
 .skip))
 (.seq
 (.dreg 3 [oM 7 0, oM 8 0, oQ 9 (.nchk 8), oQ 10 (.faddr 1 9), oQ 11 (.load none 10), oQ 12 (.faddr 0 3), oQ 13 (.load none 12), oQ 14 (.lkp 2 .nilslice false 11 13), oQ 15 (.mkf 136 [] [3]), oK 16 (.call 130 [7, 14, 15]), oM 4 16] false [4])
 .ret)))
theorem fok72 : FOK Tryz.prog 72 (17, ic72, [(.t 4)]) := fokA [1000003] Tryz.func72 (by kernel_rfl) (by kernel_rfl) (by kernel_rfl) (by kernel_rfl)
/-- (*chandlery/match.Index).Named -/
def ic73 : IC :=
 (.seq
 (.reg 0 [oK 3 (.boxt 1), oM 4 (.c .nilslice)] [0, 3])
 (.seq
 (.seq
 (.reg 1 [oM 5 0, oQ 6 (.isnil (.pointer 160) false 5)] [0, 3, 6])
 (.cond 6
 (.seq
 (.reg 2 [oM 4 (.c .nilslice)] [4])
 .ret)
 .skip))
 (.seq
 (.dreg 3 [oM 7 0, oM 8 0, oQ 9 (.nchk 8), oQ 10 (.faddr 2 9), oQ 11 (.load none 10), oQ 12 (.faddr 0 3), oQ 13 (.load none 12), oQ 14 (.lkp 2 .nilslice false 11 13), oQ 15 (.mkf 137 [] [3]), oK 16 (.call 130 [7, 14, 15]), oM 4 16] false [4])
 .ret)))
theorem fok73 : FOK Tryz.prog 73 (17, ic73, [(.t 4)]) := fokA [1000003] Tryz.func73 (by kernel_rfl) (by kernel_rfl) (by kernel_rfl) (by kernel_rfl)
/-- (*chandlery/pool.Pool).add -/
def ic79 : IC :=
(.seq
 (.reg 0 [⟨(some 8), none, (.q (.mov (.c (.int .i64 0))))⟩] [0, 1, 2, 3])
 (.seq
  (.seq
   (.reg 1 [⟨(some 11), none, (.q (.mov (.t 1)))⟩, ⟨(some 12), none, (.q (.len 0 (.t 11)))⟩, ⟨(some 13), none, (.q (.mov (.c (.int .i64 0))))⟩] [0, 2, 3, 11, 12, 13])
   (.block 0
    (.loop
     (.seq
      (.reg 2 [⟨(some 14), none, (.q (.bin .lss (.t 13) (.t 12)))⟩] [0, 2, 3, 11, 12, 13, 14])
      (.seq
       (.cond (.t 14)
        .skip
        (.exit 0))
       (.seq
        (.block 1
         (.seq
          (.reg 3 [⟨(some 15), none, (.q (.iaddr 15 (.t 11) (.t 13)))⟩, ⟨(some 16), none, (.q (.load (some 15) (.t 15)))⟩, ⟨(some 10), none, (.alloc [(.str []), (.int .i64 0), (.str []), (.str []), (.int .u8 0), (.str []), .nilslice, .nilslice, .nilslice, .nilslice, .nilslice, .nilslice, .nilslice, .nilslice, .nilslice])⟩, ⟨none, none, (.store 15 (.t 10) (.t 16))⟩] [0, 2, 3, 10, 11, 12, 13])
          (.seq
           (.seq
            (.reg 4 [⟨(some 17), none, (.q (.load (some 15) (.t 10)))⟩, ⟨(some 18), none, (.pcall 143 [(.t 17)])⟩, ⟨(some 19), none, (.q (.not (.t 18)))⟩] [0, 2, 3, 10, 11, 12, 13, 19])
            (.cond (.t 19)
            (.seq
            (.reg 5 [⟨(some 8), none, (.q (.mov (.c (.int .i64 4))))⟩] [8])
            .ret)
            .skip))
           (.seq
            (.dreg 6 [⟨(some 20), none, (.q (.mov (.t 0)))⟩, ⟨(some 21), none, (.q (.nchk (.t 20)))⟩, ⟨(some 22), none, (.q (.faddr 2 (.t 21)))⟩, ⟨(some 23), none, (.q (.load none (.t 22)))⟩, ⟨(some 24), none, (.q (.faddr 0 (.t 10)))⟩, ⟨(some 25), none, (.q (.load none (.t 24)))⟩, ⟨(some 26), none, (.q (.mov (.t 0)))⟩, ⟨(some 27), none, (.q (.nchk (.t 26)))⟩, ⟨(some 28), none, (.q (.faddr 2 (.t 27)))⟩, ⟨(some 29), none, (.q (.load none (.t 28)))⟩, ⟨(some 30), none, (.q (.faddr 0 (.t 10)))⟩, ⟨(some 31), none, (.q (.load none (.t 30)))⟩, ⟨(some 32), none, (.q (.lkp 2 .nilslice false (.t 29) (.t 31)))⟩, ⟨(some 33), none, (.q (.mov (.t 0)))⟩, ⟨(some 34), none, (.q (.nchk (.t 33)))⟩, ⟨(some 35), none, (.q (.faddr 0 (.t 34)))⟩, ⟨(some 36), none, (.q (.load none (.t 35)))⟩, ⟨(some 37), none, (.q (.len 0 (.t 36)))⟩, ⟨(some 38), none, (.bslt 1 1 [(.int .i64 0)] [⟨0, ⟨1, (.t 37)⟩⟩])⟩, ⟨(some 39), none, (.app 1 (.t 32) (.t 38))⟩, ⟨none, none, (.mupd 2 (.t 23) (.t 25) (.t 39))⟩] true [0, 2, 3, 10, 11, 12, 13])
            (.dreg 7 [⟨(some 40), none, (.q (.mov (.t 0)))⟩, ⟨(some 41), none, (.q (.mov (.t 0)))⟩, ⟨(some 42), none, (.q (.nchk (.t 41)))⟩, ⟨(some 43), none, (.q (.faddr 0 (.t 42)))⟩, ⟨(some 44), none, (.q (.load none (.t 43)))⟩, ⟨(some 45), none, (.q (.load (some 15) (.t 10)))⟩, ⟨(some 46), none, (.pcall 121 [(.t 45)])⟩, ⟨(some 47), none, (.q (.mov (.t 2)))⟩, ⟨(some 48), none, (.q (.mov (.t 3)))⟩, ⟨(some 49), none, (.q (.bld [(.str []), (.int .i64 0), (.str []), (.str []), (.int .u8 0), (.str []), .nilslice, .nilslice, .nilslice, .nilslice, .nilslice, .nilslice, .nilslice, .nilslice, .nilslice, (.int .i64 0), (.int .i64 0)] [⟨0, ⟨15, (.t 46)⟩⟩, ⟨15, ⟨1, (.t 47)⟩⟩, ⟨16, ⟨1, (.t 48)⟩⟩]))⟩, ⟨(some 50), none, (.bslt 17 1 [(.str []), (.int .i64 0), (.str []), (.str []), (.int .u8 0), (.str []), .nilslice, .nilslice, .nilslice, .nilslice, .nilslice, .nilslice, .nilslice, .nilslice, .nilslice, (.int .i64 0), (.int .i64 0)] [⟨0, ⟨17, (.t 49)⟩⟩])⟩, ⟨(some 51), none, (.app 17 (.t 44) (.t 50))⟩, ⟨(some 52), none, (.q (.nchk (.t 40)))⟩, ⟨(some 53), none, (.q (.faddr 0 (.t 52)))⟩, ⟨none, none, (.store 1 (.t 53) (.t 51))⟩] true [0, 2, 3, 11, 12, 13])))))
        (.reg 8 [⟨(some 54), none, (.q (.bin .add (.t 13) (.c (.int .i64 1))))⟩, ⟨(some 13), none, (.q (.mov (.t 54)))⟩] [0, 2, 3, 11, 12, 13])))))))
  (.seq
   (.reg 9 [⟨(some 8), none, (.q (.mov (.c (.int .i64 0))))⟩] [8])
   .ret)))
theorem fok79 : FOK Tryz.prog 79 (55, ic79, [(.t 8)]) := .mk (pf := ([1000038, 1000050] ++ allF0)) (an := [(0, [0, 1, 2, 3]), (1, [0, 2, 3, 11, 12, 13]), (2, [0, 2, 3, 11, 12, 13, 14]), (3, [0, 2, 3, 10, 11, 12, 13]), (4, [0, 2, 3, 10, 11, 12, 13, 19]), (5, [8]), (6, [0, 2, 3, 10, 11, 12, 13]), (7, [0, 2, 3, 11, 12, 13]), (8, [0, 2, 3, 11, 12, 13]), (9, [8])]) (by kernel_rfl) (fnOK_of Tryz.func79 (by kernel_rfl) (by kernel_rfl) (by kernel_rfl))
/-- chandlery/chandleryref13.Numbers -/
def ic80 : IC :=
 (.seq
 (.reg 0 [oM 4 (cB false)] [0, 1])
 (.seq
 (.seq
 (.reg 1 [oM 6 0, oQ 7 (.len 0 6), oM 8 1, oQ 9 (.len 0 8), oQ 10 (.bin .neq 7 9)] [0, 1, 10])
 (.cond 10
 (.seq
 (.reg 2 [oM 4 (cB false)] [4])
 .ret)
 .skip))
 (.seq
 (.seq
 (.reg 3 [oM 5 (cI 0)] [0, 1, 5])
 (.block 0
 (.loop
 (.seq
 (.seq
 (.reg 4 [oM 11 5, oM 12 0, oQ 13 (.len 0 12), oQ 14 (.bin .lss 11 13)] [0, 1, 5, 14])
 (.cond 14
 .skip
 (.exit 0)))
 (.seq
 (.block 1
 (.seq
 (.dreg 6 [oM 17 0, oM 18 5, oQ 19 (.iaddr 1 17 18), oQ 20 (.load none 19), oM 21 1, oM 22 5, oQ 23 (.iaddr 1 21 22), oQ 24 (.load none 23), oQ 25 (.bin .neq 20 24)] false [0, 1, 5, 25])
 (.cond 25
 (.seq
 (.reg 7 [oM 4 (cB false)] [4])
 .ret)
 .skip)))
 (.reg 5 [oM 15 5, oQ 16 (.bin .add 15 (cI 1)), oM 5 16] [0, 1, 5]))))))
 (.seq
 (.reg 8 [oM 4 (cB true)] [4])
 .ret))))
theorem fok80 : FOK Tryz.prog 80 (26, ic80, [(.t 4)]) := fokA [] Tryz.func80 (by kernel_rfl) (by kernel_rfl) (by kernel_rfl) (by kernel_rfl)
/-- slices.SortFunc[[]int,int] -/
def ic83 : IC :=
 (.seq
 (.reg 0 [oM 5 0, oQ 6 (.len 0 5), oM 4 6] [0, 1, 4])
 (.reg 1 [oM 7 0, oM 8 4, oM 9 4, oQ 10 (.conv .u64 9), oK 11 (.call 134 [10]), oM 12 1, oK 13 (.call 146 [7, (cI 0), 8, 11, 12])] []))
theorem fok83 : FOK Tryz.prog 83 (14, ic83, []) := fokA [] Tryz.func83 (by kernel_rfl) (by kernel_rfl) (by kernel_rfl) (by kernel_rfl)
/-- cmp.Compare[int] -/
def ic84 : IC :=
 (.seq
 (.reg 0 [oM 4 (cI 0)] [0, 1])
 (.seq
 (.reg 1 [oM 7 0, oK 8 (.call 147 [7]), oM 5 8] [0, 1, 5])
 (.seq
 (.reg 2 [oM 9 1, oK 10 (.call 147 [9]), oM 6 10] [0, 1, 5, 6])
 (.seq
 (.seq
 (.reg 3 [oM 11 5] [0, 1, 6, 11])
 (.cond 11
 (.seq
 (.seq
 (.reg 4 [oM 12 6] [12])
 (.cond 12
 (.seq
 (.reg 5 [oM 4 (cI 0)] [4])
 .ret)
 .skip))
 (.seq
 (.reg 6 [oM 4 (cI (-1))] [4])
 .ret))
 .skip))
 (.seq
 (.seq
 (.reg 7 [oM 13 6] [0, 1, 13])
 (.cond 13
 (.seq
 (.reg 8 [oM 4 (cI 1)] [4])
 .ret)
 .skip))
 (.seq
 (.seq
 (.reg 9 [oM 14 0, oM 15 1, oQ 16 (.bin .lss 14 15)] [0, 1, 16])
 (.cond 16
 (.seq
 (.reg 10 [oM 4 (cI (-1))] [4])
 .ret)
 .skip))
 (.seq
 (.seq
 (.reg 11 [oM 17 0, oM 18 1, oQ 19 (.bin .gtr 17 18)] [19])
 (.cond 19
 (.seq
 (.reg 12 [oM 4 (cI 1)] [4])
 .ret)
 .skip))
 (.seq
 (.reg 13 [oM 4 (cI 0)] [4])
 .ret))))))))
theorem fok84 : FOK Tryz.prog 84 (20, ic84, [(.t 4)]) := fokA [] Tryz.func84 (by kernel_rfl) (by kernel_rfl) (by kernel_rfl) (by kernel_rfl)
/-- chandlery/truth.New -/
def ic91 : IC :=
 (.seq
 (.reg 0 [oM 2 (.c .nilptr), oM 3 (cI 0)] [0])
 (.seq
 (.reg 1 [oM 7 0, oK 8 (.call 53 [7]), oM 6 8, oQ 9 (.ext 0 6), oQ 10 (.ext 1 6), oM 4 9, oM 5 10] [0, 4, 5])
 (.seq
 (.seq
 (.reg 2 [oM 11 5, oQ 12 (.bin .neq 11 (cI 0))] [0, 4, 5, 12])
 (.cond 12
 (.seq
 (.reg 3 [oM 13 5, oM 2 (.c .nilptr), oM 3 13] [2, 3])
 .ret)
 .skip))
 (.seq
 (.reg 4 [oM 14 4, oM 15 0, oK 16 (.call 55 [15]), oQ 17 (.bld [.nilptr, (zI 0)] [⟨0, ⟨1, 14⟩⟩, ⟨1, ⟨1, 16⟩⟩]), oK 18 (.boxt 17), oM 2 18, oM 3 (cI 0)] [2, 3])
 .ret))))
theorem fok91 : FOK Tryz.prog 91 (19, ic91, [(.t 2), (.t 3)]) := fokA [1000018] Tryz.func91 (by kernel_rfl) (by kernel_rfl) (by kernel_rfl) (by kernel_rfl)
/-- chandlery/shape.Atoms -/
def ic92 : IC :=
 (.seq
 (.reg 0 [oK 1 (.boxt 0), oM 2 (.c .nilslice)] [1, 2])
 (.seq
 (.reg 1 [oK 3 (.alloc [.nilslice])] [1, 2, 3])
 (.seq
 (.seq
 (.reg 2 [oQ 5 (.load (some 7) 1), oK 6 (.call 155 [5])] [2, 3, 6])
 (.block 0
 (.rfunc 6 [7, 8]
 (.reg 3 [oK 4 (.alloc [(zU 0), (.str []), (zU 0), (zI 0), (.str []), (.str []), .nilslice]), oN (.store 7 4 7)] [3, 4])
 (.block 1
 (.seq
 (.reg 4 [oQ 9 (.faddr 0 4), oQ 10 (.load none 9), oQ 11 (.bin .eql 10 (.c (zU 1)))] [3, 4, 11])
 (.cond 11
 (.reg 5 [oQ 12 (.load none 3), oQ 13 (.faddr 1 4), oQ 14 (.load (some 5) 13), oK 15 (.bslt 5 1 [(.str []), (zU 0), (zI 0), (.str []), (.str [])] [⟨0, ⟨5, 14⟩⟩]), oK 16 (.app 5 12 15), oN (.store 1 3 16)] [])
 .skip))))))
 (.seq
 (.reg 6 [oQ 17 (.load none 3), oM 2 17] [2])
 .ret))))
theorem fok92 : FOK Tryz.prog 92 (18, ic92, [(.t 2)]) := fokA [1000001, 1000015] Tryz.func92 (by kernel_rfl) (by kernel_rfl) (by kernel_rfl) (by kernel_rfl)
/-- slices.ContainsFunc[[]chandlery/api.Dep,chandlery/api.Dep] -/
def ic93 : IC :=
(.seq
 (.reg 0 [⟨(some 4), none, (.q (.mov (.c (.bool false))))⟩] [0, 1])
 (.seq
  (.reg 1 [⟨(some 5), none, (.q (.mov (.t 0)))⟩, ⟨(some 6), none, (.q (.mov (.t 1)))⟩, ⟨(some 7), none, (.call 156 [(.t 5), (.t 6)])⟩, ⟨(some 8), none, (.q (.bin .geq (.t 7) (.c (.int .i64 0))))⟩, ⟨(some 4), none, (.q (.mov (.t 8)))⟩] [4])
  .ret))
theorem fok93 : FOK Tryz.prog 93 (9, ic93, [(.t 4)]) := .mk (pf := []) (an := [(0, [0, 1]), (1, [4])]) (by kernel_rfl) (fnOK_of Tryz.func93 (by kernel_rfl) (by kernel_rfl) (by kernel_rfl))
/-- chandlery/prefer.New$1 -/
def ic94 : IC :=
 (.seq
 (.reg 0 [oK 2 (.boxt 0), oM 3 (cB false)] [1, 2])
 (.seq
 (.reg 1 [oQ 4 (.load (some 15) 1), oQ 5 (.load (some 5) 2), oK 6 (.call 95 [4, 5]), oM 3 6] [3])
 .ret))
theorem fok94 : FOK Tryz.prog 94 (7, ic94, [(.t 3)]) := fokA [1000002] Tryz.func94 (by kernel_rfl) (by kernel_rfl) (by kernel_rfl) (by kernel_rfl)
/-- chandlery/pkg.Provides -/
def ic95 : IC :=
 (.seq
 (.reg 0 [oK 2 (.boxt 0), oK 3 (.boxt 1), oM 4 (cB false)] [2, 3])
 (.seq
 (.seq
 (.reg 1 [oQ 5 (.load (some 15) 2), oQ 6 (.load (some 5) 3), oK 7 (.call 138 [5, 6]), oM 8 7, gQ 9 8 false (.faddr 6 2), gQ 10 8 false (.load none 9), gQ 11 8 false (.mkf 157 [] [3]), gK 12 8 false (.call 93 [10, 11]), oQ 13 (.pick 8 (cB true) 12)] [2, 3, 13])
 (.cond 13
 (.seq
 (.reg 2 [oM 4 (cB true)] [4])
 .ret)
 .skip))
 (.seq
 (.reg 3 [oQ 14 (.faddr 1 3), oQ 15 (.load none 14), oQ 16 (.bin .eql 15 (.c (zU 0))), oM 17 16, gQ 18 17 true (.faddr 14 2), gQ 19 17 true (.load none 18), gQ 20 17 true (.faddr 0 3), gQ 21 17 true (.load none 20), gK 22 17 true (.call 159 [19, 21]), oQ 23 (.pick 17 22 (cB false)), oM 4 23] [4])
 .ret)))
theorem fok95 : FOK Tryz.prog 95 (24, ic95, [(.t 4)]) := fokA [1000002, 1000003] Tryz.func95 (by kernel_rfl) (by kernel_rfl) (by kernel_rfl) (by kernel_rfl)
/-- slices.ContainsFunc[[]chandlery/api.Rich,chandlery/api.Rich] -/
def ic96 : IC :=
(.seq
 (.reg 0 [⟨(some 4), none, (.q (.mov (.c (.bool false))))⟩] [0, 1])
 (.seq
  (.reg 1 [⟨(some 5), none, (.q (.mov (.t 0)))⟩, ⟨(some 6), none, (.q (.mov (.t 1)))⟩, ⟨(some 7), none, (.call 160 [(.t 5), (.t 6)])⟩, ⟨(some 8), none, (.q (.bin .geq (.t 7) (.c (.int .i64 0))))⟩, ⟨(some 4), none, (.q (.mov (.t 8)))⟩] [4])
  .ret))
theorem fok96 : FOK Tryz.prog 96 (9, ic96, [(.t 4)]) := .mk (pf := []) (an := [(0, [0, 1]), (1, [4])]) (by kernel_rfl) (fnOK_of Tryz.func96 (by kernel_rfl) (by kernel_rfl) (by kernel_rfl))
/-- chandlery/prefer.New$2 -/
def ic97 : IC :=
 (.seq
 (.reg 0 [oK 3 (.boxt 0), oM 4 (cB false)] [1, 2, 3])
 (.seq
 (.reg 1 [oQ 5 (.load none 1), oQ 6 (.load none 2), oQ 7 (.load (some 7) 3), oK 8 (.call 98 [5, 6, 7]), oM 4 8] [4])
 .ret))
theorem fok97 : FOK Tryz.prog 97 (9, ic97, [(.t 4)]) := fokA [1000003] Tryz.func97 (by kernel_rfl) (by kernel_rfl) (by kernel_rfl) (by kernel_rfl)
/-- (*chandlery/truth.Truth).Satisfies -/
def ic98 : IC :=
 (.seq
 (.reg 0 [oK 5 (.boxt 2), oM 6 (cB false)] [0, 1, 5])
 (.seq
 (.dreg 1 [oM 7 0, oQ 8 (.isnil (.pointer 189) true 7), oM 9 8, gQ 10 9 true (.load (some 7) 5), gK 11 9 true (.pcall 161 [10]), oQ 12 (.pick 9 11 (cB false)), oM 13 12, gQ 14 13 true (.mov 0), gQ 15 13 true (.mov 1), gK 16 13 true (.pcall 162 [14, 15]), gQ 17 13 true (.load (some 7) 5), gK 18 13 true (.pcall 163 [16, 17]), oQ 19 (.pick 13 18 (cB false)), oM 6 19] false [6])
 .ret))
theorem fok98 : FOK Tryz.prog 98 (20, ic98, [(.t 6)]) := fokA ([1000005] ++ [161, 162, 163]) Tryz.func98 (by kernel_rfl) (by kernel_rfl) (by kernel_rfl) (by kernel_rfl)
/-- (*chandlery/prefer.Order).is -/
def ic99 : IC :=
 (.seq
 (.reg 0 [oM 4 (cB false)] [0, 1])
 (.seq
 (.reg 1 [oM 5 0, oQ 6 (.isnil (.pointer 141) true 5), oM 7 6, gQ 8 7 true (.mov 1), gQ 9 7 true (.bin .geq 8 (cI 0)), oQ 10 (.pick 7 9 (cB false)), oM 11 10, gQ 12 11 true (.mov 1), gQ 13 11 true (.mov 0), gQ 14 11 true (.nchk 13), gQ 15 11 true (.faddr 3 14), gQ 16 11 true (.load none 15), gQ 17 11 true (.len 0 16), gQ 18 11 true (.bin .lss 12 17), oQ 19 (.pick 11 18 (cB false)), oM 4 19] [4])
 .ret))
theorem fok99 : FOK Tryz.prog 99 (20, ic99, [(.t 4)]) := fokA [] Tryz.func99 (by kernel_rfl) (by kernel_rfl) (by kernel_rfl) (by kernel_rfl)
/-- (*chandlery/prefer.Order).compare -/
def ic100 : IC :=
 (.seq
 (.reg 0 [oK 3 (.boxt 0), oK 4 (.boxt 1), oK 5 (.boxt 2), oM 6 (cI 0)] [3, 4, 5])
 (.seq
 (.dreg 1 [oQ 9 (.load none 3), oQ 10 (.nchk 9), oQ 11 (.faddr 3 10), oQ 12 (.load none 11), oQ 13 (.load none 4), oQ 14 (.iaddr 15 12 13), oQ 15 (.load (some 15) 14), oQ 16 (.ldt none 3), oQ 17 (.nchk 16), oQ 18 (.faddr 3 17), oQ 19 (.ldt none 18), oQ 20 (.ldt none 5), oQ 21 (.iaddr 15 19 20), oQ 22 (.ldt (some 15) 21), oK 7 (.alloc [(.str []), (zI 0), (.str []), (.str []), (zU 0), (.str []), .nilslice, .nilslice, .nilslice, .nilslice, .nilslice, .nilslice, .nilslice, .nilslice, .nilslice]), oK 8 (.alloc [(.str []), (zI 0), (.str []), (.str []), (zU 0), (.str []), .nilslice, .nilslice, .nilslice, .nilslice, .nilslice, .nilslice, .nilslice, .nilslice, .nilslice]), oN (.store 15 7 15), oN (.store 15 8 22)] false [3, 4, 5, 7, 8])
 (.seq
 (.reg 2 [oQ 23 (.mkf 165 [] [3, 4, 5]), oQ 24 (.mkf 166 [] [3, 7, 8]), oQ 25 (.mkf 167 [] [3, 5, 4]), oQ 26 (.mkf 169 [] [3, 4, 5]), oQ 27 (.mkf 170 [] [8, 7]), oQ 28 (.mkf 171 [] [4, 5]), oK 29 (.bslt 1 6 [.nilfunc] [⟨0, ⟨1, 23⟩⟩, ⟨1, ⟨1, 24⟩⟩, ⟨2, ⟨1, 25⟩⟩, ⟨3, ⟨1, 26⟩⟩, ⟨4, ⟨1, 27⟩⟩, ⟨5, ⟨1, 28⟩⟩]), oK 30 (.call 164 [29]), oM 6 30] [6])
 .ret)))
theorem fok100 : FOK Tryz.prog 100 (31, ic100, [(.t 6)]) := fokA [1000003, 1000004, 1000005, 1000016, 1000019, 1000020, 1000022, 1000029] Tryz.func100 (by kernel_rfl) (by kernel_rfl) (by kernel_rfl) (by kernel_rfl)
/-- slices.Clone[[]int,int] -/
def ic101 : IC :=
(.seq
 (.reg 0 [⟨(some 2), none, (.q (.mov (.c .nilslice)))⟩] [0])
 (.seq
  (.seq
   (.reg 1 [⟨(some 3), none, (.q (.mov (.t 0)))⟩, ⟨(some 4), none, (.q (.isnil (.slice 3) false (.t 3)))⟩] [0, 4])
   (.cond (.t 4)
    (.seq
     (.reg 2 [⟨(some 2), none, (.q (.mov (.c .nilslice)))⟩] [2])
     .ret)
    .skip))
  (.seq
   (.reg 3 [⟨(some 5), none, (.bsl 1 0 [(.int .i64 0)] [])⟩, ⟨(some 6), none, (.q (.mov (.t 0)))⟩, ⟨(some 7), none, (.app 1 (.t 5) (.t 6))⟩, ⟨(some 2), none, (.q (.mov (.t 7)))⟩] [2])
   .ret)))
theorem fok101 : FOK Tryz.prog 101 (8, ic101, [(.t 2)]) := .mk (pf := []) (an := [(0, [0]), (1, [0, 4]), (2, [2]), (3, [2])]) (by kernel_rfl) (fnOK_of Tryz.func101 (by kernel_rfl) (by kernel_rfl) (by kernel_rfl))
/-- (*chandlery/prefer.Order).Sort$1 -/
def ic102 : IC :=
 (.seq
 (.reg 0 [oM 3 (cB false)] [0, 1])
 (.seq
 (.reg 1 [oQ 4 (.load none 1), oM 5 0, oK 6 (.call 99 [4, 5]), oQ 7 (.not 6), oM 3 7] [3])
 .ret))
theorem fok102 : FOK Tryz.prog 102 (8, ic102, [(.t 3)]) := fokA [] Tryz.func102 (by kernel_rfl) (by kernel_rfl) (by kernel_rfl) (by kernel_rfl)
/-- (*chandlery/prefer.Order).ways -/
def ic103 : IC :=
 (.seq
 (.reg 0 [oK 3 (.boxt 0), oK 5 (.boxt 2), oM 6 (.c .nilslice)] [1, 3, 5])
 (.seq
 (.seq
 (.reg 1 [oQ 8 (.load none 3), oM 9 1, oK 10 (.call 99 [8, 9]), oQ 11 (.not 10)] [1, 3, 5, 11])
 (.cond 11
 (.seq
 (.reg 2 [oM 6 (.c .nilslice)] [6])
 .ret)
 .skip))
 (.seq
 (.reg 3 [oQ 12 (.load none 3), oQ 13 (.nchk 12), oQ 14 (.faddr 0 13), oQ 15 (.load none 14), oM 16 1, oK 17 (.call 17 [15, 16]), oM 7 17] [3, 5, 7])
 (.seq
 (.reg 4 [oM 18 7, oQ 19 (.mkf 172 [] [5, 3]), oK 20 (.call 83 [18, 19])] [7])
 (.seq
 (.reg 5 [oM 21 7, oM 6 21] [6])
 .ret)))))
theorem fok103 : FOK Tryz.prog 103 (22, ic103, [(.t 6)]) := fokA [1000003, 1000005] Tryz.func103 (by kernel_rfl) (by kernel_rfl) (by kernel_rfl) (by kernel_rfl)
/-- (*chandlery/prefer.Order).Stays$1 -/
def ic104 : IC :=
 (.seq
 (.reg 0 [oM 5 (cI 0)] [0, 1, 2])
 (.seq
 (.dreg 1 [oM 6 0, oQ 7 (.load none 2), oQ 8 (.bin .eql 6 7), oK 9 (.pcall 105 [8]), oM 10 1, oQ 11 (.load none 2), oQ 12 (.bin .eql 10 11), oK 13 (.pcall 105 [12]), oK 14 (.pcall 84 [9, 13]), oM 5 14] false [5])
 .ret))
theorem fok104 : FOK Tryz.prog 104 (15, ic104, [(.t 5)]) := fokA ([] ++ [84, 105]) Tryz.func104 (by kernel_rfl) (by kernel_rfl) (by kernel_rfl) (by kernel_rfl)
/-- chandlery/prefer.yes -/
def ic105 : IC :=
 (.seq
 (.reg 0 [oM 2 (cI 0)] [0])
 (.seq
 (.seq
 (.reg 1 [oM 3 0] [3])
 (.cond 3
 (.seq
 (.reg 2 [oM 2 (cI 0)] [2])
 .ret)
 .skip))
 (.seq
 (.reg 3 [oM 2 (cI 1)] [2])
 .ret)))
theorem fok105 : FOK Tryz.prog 105 (4, ic105, [(.t 2)]) := fokA [] Tryz.func105 (by kernel_rfl) (by kernel_rfl) (by kernel_rfl) (by kernel_rfl)
/-- (*chandlery/prefer.Order).up -/
def ic106 : IC :=
 (.seq
 (.reg 0 [oK 2 (.boxt 0), oK 3 (.boxt 1), oM 4 (.c .nilfunc)] [2, 3])
 (.seq
 (.reg 1 [oQ 5 (.mkf 173 [] [2, 3]), oM 4 5] [4])
 .ret))
theorem fok106 : FOK Tryz.prog 106 (6, ic106, [(.t 4)]) := fokA [1000002, 1000003] Tryz.func106 (by kernel_rfl) (by kernel_rfl) (by kernel_rfl) (by kernel_rfl)
/-- (*chandlery/prefer.Order).Syncs$1 -/
def ic107 : IC :=
 (.seq
 (.reg 0 [oM 5 (cI 0)] [0, 1, 2])
 (.seq
 (.dreg 1 [oQ 6 (.load none 2), oQ 7 (.nchk 6), oQ 8 (.faddr 1 7), oQ 9 (.load none 8), oM 10 0, oK 11 (.pcall 108 [9, 10]), oQ 12 (.bin .geq 11 (cI 0)), oK 13 (.pcall 105 [12]), oQ 14 (.load none 2), oQ 15 (.nchk 14), oQ 16 (.faddr 1 15), oQ 17 (.load none 16), oM 18 1, oK 19 (.pcall 108 [17, 18]), oQ 20 (.bin .geq 19 (cI 0)), oK 21 (.pcall 105 [20]), oK 22 (.pcall 84 [13, 21]), oM 5 22] false [5])
 .ret))
theorem fok107 : FOK Tryz.prog 107 (23, ic107, [(.t 5)]) := fokA ([] ++ [84, 105, 108]) Tryz.func107 (by kernel_rfl) (by kernel_rfl) (by kernel_rfl) (by kernel_rfl)
/-- (*chandlery/pool.Pool).Repo -/
def ic108 : IC :=
(.seq
 (.reg 0 [⟨(some 4), none, (.q (.mov (.c (.int .i64 0))))⟩] [0, 1])
 (.seq
  (.seq
   (.reg 1 [⟨(some 5), none, (.q (.mov (.t 0)))⟩, ⟨(some 6), none, (.q (.isnil (.pointer 119) false (.t 5)))⟩, ⟨(some 7), none, (.q (.mov (.t 6)))⟩, ⟨(some 8), (some ⟨7, false⟩), (.q (.mov (.t 0)))⟩, ⟨(some 9), (some ⟨7, false⟩), (.q (.nchk (.t 8)))⟩, ⟨(some 10), (some ⟨7, false⟩), (.q (.faddr 0 (.t 9)))⟩, ⟨(some 11), (some ⟨7, false⟩), (.q (.load none (.t 10)))⟩, ⟨(some 12), (some ⟨7, false⟩), (.q (.mov (.t 1)))⟩, ⟨(some 13), (some ⟨7, false⟩), (.call 120 [(.t 11), (.t 12)])⟩, ⟨(some 14), (some ⟨7, false⟩), (.q (.not (.t 13)))⟩, ⟨(some 15), none, (.q (.pick (.t 7) (.c (.bool true)) (.t 14)))⟩] [0, 1, 15])
   (.cond (.t 15)
    (.seq
     (.reg 2 [⟨(some 4), none, (.q (.mov (.c (.int .i64 (-1)))))⟩] [4])
     .ret)
    .skip))
  (.seq
   (.reg 3 [⟨(some 16), none, (.q (.mov (.t 0)))⟩, ⟨(some 17), none, (.q (.nchk (.t 16)))⟩, ⟨(some 18), none, (.q (.faddr 0 (.t 17)))⟩, ⟨(some 19), none, (.q (.load none (.t 18)))⟩, ⟨(some 20), none, (.q (.mov (.t 1)))⟩, ⟨(some 21), none, (.q (.iaddr 17 (.t 19) (.t 20)))⟩, ⟨(some 22), none, (.q (.faddr 15 (.t 21)))⟩, ⟨(some 23), none, (.q (.load none (.t 22)))⟩, ⟨(some 4), none, (.q (.mov (.t 23)))⟩] [4])
   .ret)))
theorem fok108 : FOK Tryz.prog 108 (24, ic108, [(.t 4)]) := .mk (pf := []) (an := [(0, [0, 1]), (1, [0, 1, 15]), (2, [4]), (3, [4])]) (by kernel_rfl) (fnOK_of Tryz.func108 (by kernel_rfl) (by kernel_rfl) (by kernel_rfl))
/-- chandlery/arch.is -/
def ic109 : IC :=
(.seq
 (.reg 0 [⟨(some 2), none, (.q (.mov (.c (.bool false))))⟩] [0])
 (.seq
  (.reg 1 [⟨(some 3), none, (.q (.mov (.t 0)))⟩, ⟨(some 4), none, (.q (.bin .geq (.t 3) (.c (.int .u8 1))))⟩, ⟨(some 5), none, (.q (.mov (.t 4)))⟩, ⟨(some 6), (some ⟨5, true⟩), (.q (.mov (.t 0)))⟩, ⟨(some 7), (some ⟨5, true⟩), (.q (.bin .leq (.t 6) (.c (.int .u8 4))))⟩, ⟨(some 8), none, (.q (.pick (.t 5) (.t 7) (.c (.bool false))))⟩, ⟨(some 2), none, (.q (.mov (.t 8)))⟩] [2])
  .ret))
theorem fok109 : FOK Tryz.prog 109 (9, ic109, [(.t 2)]) := .mk (pf := []) (an := [(0, [0]), (1, [2])]) (by kernel_rfl) (fnOK_of Tryz.func109 (by kernel_rfl) (by kernel_rfl) (by kernel_rfl))
/-- slices.IndexFunc[[]chandlery/api.Job,chandlery/api.Job] -/
def ic110 : IC :=
 (.seq
 (.reg 0 [oM 4 (cI 0)] [0, 1])
 (.seq
 (.seq
 (.reg 1 [oM 6 0, oQ 7 (.len 0 6), oM 8 (cI 0)] [0, 1, 7, 8])
 (.block 0
 (.loop
 (.seq
 (.reg 2 [oQ 9 (.bin .lss 8 7)] [0, 1, 7, 8, 9])
 (.seq
 (.cond 9
 .skip
 (.exit 0))
 (.seq
 (.block 1
 (.seq
 (.reg 3 [oM 10 8, oM 5 10] [0, 1, 5, 7, 8])
 (.seq
 (.reg 4 [oM 11 1, oM 12 0, oM 13 5, oQ 14 (.iaddr 6 12 13), oQ 15 (.load (some 6) 14), oK 16 (.callv 11 [15])] [0, 1, 5, 7, 8, 16])
 (.cond 16
 (.seq
 (.reg 5 [oM 17 5, oM 4 17] [4])
 .ret)
 .skip))))
 (.reg 6 [oQ 18 (.bin .add 8 (cI 1)), oM 8 18] [0, 1, 7, 8])))))))
 (.seq
 (.reg 7 [oM 4 (cI (-1))] [4])
 .ret)))
theorem fok110 : FOK Tryz.prog 110 (19, ic110, [(.t 4)]) := fokA [] Tryz.func110 (by kernel_rfl) (by kernel_rfl) (by kernel_rfl) (by kernel_rfl)
/-- chandlery/dep.Name -/
def ic111 : IC :=
(.seq
 (.reg 0 [⟨(some 2), none, (.q (.mov (.c (.bool false))))⟩] [0])
 (.seq
  (.seq
   (.reg 1 [⟨(some 7), none, (.q (.mov (.t 0)))⟩, ⟨(some 8), none, (.q (.len 1 (.t 7)))⟩, ⟨(some 9), none, (.q (.bin .lss (.t 8) (.c (.int .i64 1))))⟩, ⟨(some 10), none, (.q (.mov (.t 9)))⟩, ⟨(some 11), (some ⟨10, false⟩), (.q (.mov (.t 0)))⟩, ⟨(some 12), (some ⟨10, false⟩), (.q (.len 1 (.t 11)))⟩, ⟨(some 13), (some ⟨10, false⟩), (.q (.bin .gtr (.t 12) (.c (.int .i64 64))))⟩, ⟨(some 14), none, (.q (.pick (.t 10) (.c (.bool true)) (.t 13)))⟩] [0, 14])
   (.cond (.t 14)
    (.seq
     (.reg 2 [⟨(some 2), none, (.q (.mov (.c (.bool false))))⟩] [2])
     .ret)
    .skip))
  (.seq
   (.seq
    (.reg 3 [⟨(some 15), none, (.q (.mov (.t 0)))⟩, ⟨(some 16), none, (.srange (.t 15))⟩] [0, 16])
    (.block 0
     (.loop
      (.seq
       (.reg 4 [⟨(some 17), none, (.snext (.t 16))⟩, ⟨(some 18), none, (.q (.ext 0 (.t 17)))⟩] [0, 16, 17, 18])
       (.seq
        (.cond (.t 18)
         .skip
         (.exit 0))
        (.block 1
         (.seq
          (.reg 5 [⟨(some 19), none, (.q (.ext 2 (.t 17)))⟩, ⟨(some 4), none, (.q (.mov (.t 19)))⟩] [0, 4, 16])
          (.seq
           (.reg 6 [⟨(some 20), none, (.q (.mov (.t 4)))⟩, ⟨(some 21), none, (.q (.bin .gtr (.t 20) (.c (.int .i32 126))))⟩, ⟨(some 22), none, (.q (.mov (.t 21)))⟩, ⟨(some 23), (some ⟨22, false⟩), (.q (.mov (.t 4)))⟩, ⟨(some 24), (some ⟨22, false⟩), (.q (.conv .u8 (.t 23)))⟩, ⟨(some 25), (some ⟨22, false⟩), (.call 176 [(.c (.str [97, 98, 99, 100, 101, 102, 103, 104, 105, 106, 107, 108, 109, 110, 111, 112, 113, 114, 115, 116, 117, 118, 119, 120, 121, 122, 65, 66, 67, 68, 69, 70, 71, 72, 73, 74, 75, 76, 77, 78, 79, 80, 81, 82, 83, 84, 85, 86, 87, 88, 89, 90, 48, 49, 50, 51, 52, 53, 54, 55, 56, 57, 46, 95, 43, 45, 47, 58, 64, 126, 94])), (.t 24)])⟩, ⟨(some 26), (some ⟨22, false⟩), (.q (.bin .lss (.t 25) (.c (.int .i64 0))))⟩, ⟨(some 27), none, (.q (.pick (.t 22) (.c (.bool true)) (.t 26)))⟩] [0, 16, 27])
           (.cond (.t 27)
            (.seq
            (.reg 7 [⟨(some 2), none, (.q (.mov (.c (.bool false))))⟩] [2])
            .ret)
            .skip)))))))))
   (.seq
    (.seq
     (.reg 8 [⟨(some 28), none, (.q (.load (some 7) (.g 0)))⟩, ⟨(some 29), none, (.q (.mov (.c (.int .i64 0))))⟩] [0, 28, 29])
     (.block 2
      (.loop
       (.seq
        (.reg 9 [⟨(some 30), none, (.q (.bin .lss (.t 29) (.c (.int .i64 7))))⟩] [0, 28, 29, 30])
        (.seq
         (.cond (.t 30)
          .skip
          (.exit 2))
         (.seq
          (.block 3
           (.seq
            (.reg 10 [⟨(some 31), none, (.q (.idx none 7 1 (.t 28) (.t 29)))⟩, ⟨(some 6), none, (.q (.mov (.t 31)))⟩] [0, 6, 28, 29])
            (.seq
            (.reg 11 [⟨(some 32), none, (.q (.mov (.t 0)))⟩, ⟨(some 33), none, (.q (.mov (.t 6)))⟩, ⟨(some 34), none, (.q (.bin .eql (.t 32) (.t 33)))⟩] [0, 28, 29, 34])
            (.cond (.t 34)
            (.seq
            (.reg 12 [⟨(some 2), none, (.q (.mov (.c (.bool false))))⟩] [2])
            .ret)
            .skip))))
          (.reg 13 [⟨(some 35), none, (.q (.bin .add (.t 29) (.c (.int .i64 1))))⟩, ⟨(some 29), none, (.q (.mov (.t 35)))⟩] [0, 28, 29])))))))
    (.seq
     (.reg 14 [⟨(some 2), none, (.q (.mov (.c (.bool true))))⟩] [2])
     .ret)))))
theorem fok111 : FOK Tryz.prog 111 (36, ic111, [(.t 2)]) := .mk (pf := []) (an := [(0, [0]), (1, [0, 14]), (2, [2]), (3, [0, 16]), (4, [0, 16, 17, 18]), (5, [0, 4, 16]), (6, [0, 16, 27]), (7, [2]), (8, [0, 28, 29]), (9, [0, 28, 29, 30]), (10, [0, 6, 28, 29]), (11, [0, 28, 29, 34]), (12, [2]), (13, [0, 28, 29]), (14, [2])]) (by kernel_rfl) (fnOK_of Tryz.func111 (by kernel_rfl) (by kernel_rfl) (by kernel_rfl))
/-- chandlery/span.May -/
def ic112 : IC :=
(.seq
 (.reg 0 [⟨(some 2), none, (.q (.mov (.c (.bool false))))⟩] [0])
 (.seq
  (.reg 1 [⟨(some 3), none, (.q (.mov (.t 0)))⟩, ⟨(some 4), none, (.q (.bin .eql (.t 3) (.c (.int .u8 0))))⟩, ⟨(some 5), none, (.q (.mov (.t 4)))⟩, ⟨(some 6), (some ⟨5, false⟩), (.q (.mov (.t 0)))⟩, ⟨(some 7), (some ⟨5, false⟩), (.call 177 [(.t 6)])⟩, ⟨(some 8), (some ⟨5, false⟩), (.q (.bin .neq (.t 7) (.c (.str []))))⟩, ⟨(some 9), none, (.q (.pick (.t 5) (.c (.bool true)) (.t 8)))⟩, ⟨(some 2), none, (.q (.mov (.t 9)))⟩] [2])
  .ret))
theorem fok112 : FOK Tryz.prog 112 (10, ic112, [(.t 2)]) := .mk (pf := []) (an := [(0, [0]), (1, [2])]) (by kernel_rfl) (fnOK_of Tryz.func112 (by kernel_rfl) (by kernel_rfl) (by kernel_rfl))
/-- chandlery/dep.File -/
def ic113 : IC :=
(.seq
 (.reg 0 [⟨(some 2), none, (.q (.mov (.c (.bool false))))⟩] [0])
 (.seq
  (.reg 1 [⟨(some 3), none, (.q (.mov (.t 0)))⟩, ⟨(some 4), none, (.call 111 [(.t 3)])⟩, ⟨(some 5), none, (.q (.mov (.t 4)))⟩, ⟨(some 6), (some ⟨5, true⟩), (.q (.mov (.t 0)))⟩, ⟨(some 7), (some ⟨5, true⟩), (.call 178 [(.t 6), (.c (.str [47]))])⟩, ⟨(some 8), none, (.q (.pick (.t 5) (.t 7) (.c (.bool false))))⟩, ⟨(some 2), none, (.q (.mov (.t 8)))⟩] [2])
  .ret))
theorem fok113 : FOK Tryz.prog 113 (9, ic113, [(.t 2)]) := .mk (pf := []) (an := [(0, [0]), (1, [2])]) (by kernel_rfl) (fnOK_of Tryz.func113 (by kernel_rfl) (by kernel_rfl) (by kernel_rfl))
/-- chandlery/evr.May -/
def ic114 : IC :=
(.seq
 (.reg 0 [⟨(some 2), none, (.boxt (.t 0))⟩, ⟨(some 4), none, (.q (.mov (.c (.bool false))))⟩] [1, 2])
 (.seq
  (.reg 1 [⟨(some 5), none, (.q (.faddr 0 (.t 2)))⟩, ⟨(some 6), none, (.q (.load none (.t 5)))⟩, ⟨(some 7), none, (.q (.bin .geq (.t 6) (.c (.int .i64 0))))⟩, ⟨(some 8), none, (.q (.mov (.t 7)))⟩, ⟨(some 9), (some ⟨8, true⟩), (.q (.faddr 0 (.t 2)))⟩, ⟨(some 10), (some ⟨8, true⟩), (.q (.load none (.t 9)))⟩, ⟨(some 11), (some ⟨8, true⟩), (.q (.bin .leq (.t 10) (.c (.int .i64 2147483647))))⟩, ⟨(some 12), none, (.q (.pick (.t 8) (.t 11) (.c (.bool false))))⟩, ⟨(some 13), none, (.q (.mov (.t 12)))⟩, ⟨(some 14), (some ⟨13, true⟩), (.q (.faddr 1 (.t 2)))⟩, ⟨(some 15), (some ⟨13, true⟩), (.q (.load none (.t 14)))⟩, ⟨(some 16), (some ⟨13, true⟩), (.call 179 [(.t 15)])⟩, ⟨(some 17), none, (.q (.pick (.t 13) (.t 16) (.c (.bool false))))⟩, ⟨(some 18), none, (.q (.mov (.t 17)))⟩, ⟨(some 19), (some ⟨18, true⟩), (.q (.faddr 2 (.t 2)))⟩, ⟨(some 20), (some ⟨18, true⟩), (.q (.load none (.t 19)))⟩, ⟨(some 21), (some ⟨18, true⟩), (.call 179 [(.t 20)])⟩, ⟨(some 22), (some ⟨18, true⟩), (.q (.mov (.t 21)))⟩, ⟨(some 23), (some ⟨22, false⟩), (.q (.mov (.t 1)))⟩, ⟨(some 24), (some ⟨22, false⟩), (.q (.mov (.t 23)))⟩, ⟨(some 25), (some ⟨24, true⟩), (.q (.faddr 2 (.t 2)))⟩, ⟨(some 26), (some ⟨24, true⟩), (.q (.load none (.t 25)))⟩, ⟨(some 27), (some ⟨24, true⟩), (.q (.bin .eql (.t 26) (.c (.str []))))⟩, ⟨(some 28), (some ⟨22, false⟩), (.q (.pick (.t 24) (.t 27) (.c (.bool false))))⟩, ⟨(some 29), (some ⟨18, true⟩), (.q (.pick (.t 22) (.c (.bool true)) (.t 28)))⟩, ⟨(some 30), none, (.q (.pick (.t 18) (.t 29) (.c (.bool false))))⟩, ⟨(some 4), none, (.q (.mov (.t 30)))⟩] [4])
  .ret))
theorem fok114 : FOK Tryz.prog 114 (31, ic114, [(.t 4)]) := .mk (pf := [1000002]) (an := [(0, [1, 2]), (1, [4])]) (by kernel_rfl) (fnOK_of Tryz.func114 (by kernel_rfl) (by kernel_rfl) (by kernel_rfl))
/-- slices.IndexFunc[[]chandlery/api.Edit,chandlery/api.Edit] -/
def ic115 : IC :=
 (.seq
 (.reg 0 [oM 4 (cI 0)] [0, 1])
 (.seq
 (.seq
 (.reg 1 [oM 6 0, oQ 7 (.len 0 6), oM 8 (cI 0)] [0, 1, 7, 8])
 (.block 0
 (.loop
 (.seq
 (.reg 2 [oQ 9 (.bin .lss 8 7)] [0, 1, 7, 8, 9])
 (.seq
 (.cond 9
 .skip
 (.exit 0))
 (.seq
 (.block 1
 (.seq
 (.reg 3 [oM 10 8, oM 5 10] [0, 1, 5, 7, 8])
 (.seq
 (.reg 4 [oM 11 1, oM 12 0, oM 13 5, oQ 14 (.iaddr 2 12 13), oQ 15 (.load (some 2) 14), oK 16 (.callv 11 [15])] [0, 1, 5, 7, 8, 16])
 (.cond 16
 (.seq
 (.reg 5 [oM 17 5, oM 4 17] [4])
 .ret)
 .skip))))
 (.reg 6 [oQ 18 (.bin .add 8 (cI 1)), oM 8 18] [0, 1, 7, 8])))))))
 (.seq
 (.reg 7 [oM 4 (cI (-1))] [4])
 .ret)))
theorem fok115 : FOK Tryz.prog 115 (19, ic115, [(.t 4)]) := fokA [] Tryz.func115 (by kernel_rfl) (by kernel_rfl) (by kernel_rfl) (by kernel_rfl)
/-- chandlery/match.offered -/
def ic116 : IC :=
(.seq
 (.reg 0 [⟨(some 1), none, (.boxt (.t 0))⟩, ⟨(some 2), none, (.q (.mov (.c .nilmap)))⟩] [1])
 (.seq
  (.reg 1 [⟨(some 8), none, .mkmap⟩, ⟨(some 9), none, (.q (.faddr 0 (.t 1)))⟩, ⟨(some 10), none, (.q (.load none (.t 9)))⟩, ⟨(some 11), none, (.q (.bld [] []))⟩, ⟨none, none, (.mupd 2 (.t 8) (.t 10) (.t 11))⟩, ⟨(some 12), none, (.q (.mov (.t 8)))⟩, ⟨(some 3), none, (.q (.mov (.t 12)))⟩] [1, 3])
  (.seq
   (.seq
    (.reg 2 [⟨(some 13), none, (.q (.faddr 6 (.t 1)))⟩, ⟨(some 14), none, (.q (.load none (.t 13)))⟩, ⟨(some 15), none, (.q (.len 0 (.t 14)))⟩, ⟨(some 16), none, (.q (.mov (.c (.int .i64 0))))⟩] [1, 3, 14, 15, 16])
    (.block 0
     (.loop
      (.seq
       (.reg 3 [⟨(some 17), none, (.q (.bin .lss (.t 16) (.t 15)))⟩] [1, 3, 14, 15, 16, 17])
       (.seq
        (.cond (.t 17)
         .skip
         (.exit 0))
        (.seq
         (.block 1
          (.seq
           (.reg 4 [⟨(some 18), none, (.q (.iaddr 5 (.t 14) (.t 16)))⟩, ⟨(some 19), none, (.q (.load (some 5) (.t 18)))⟩, ⟨(some 5), none, (.alloc [(.str []), (.int .u8 0), (.int .i64 0), (.str []), (.str [])])⟩, ⟨none, none, (.store 5 (.t 5) (.t 19))⟩] [1, 3, 5, 14, 15, 16])
           (.reg 5 [⟨(some 20), none, (.q (.mov (.t 3)))⟩, ⟨(some 21), none, (.q (.faddr 0 (.t 5)))⟩, ⟨(some 22), none, (.q (.load none (.t 21)))⟩, ⟨(some 23), none, (.q (.bld [] []))⟩, ⟨none, none, (.mupd 2 (.t 20) (.t 22) (.t 23))⟩] [1, 3, 14, 15, 16])))
         (.reg 6 [⟨(some 24), none, (.q (.bin .add (.t 16) (.c (.int .i64 1))))⟩, ⟨(some 16), none, (.q (.mov (.t 24)))⟩] [1, 3, 14, 15, 16])))))))
   (.seq
    (.seq
     (.reg 7 [⟨(some 25), none, (.q (.faddr 14 (.t 1)))⟩, ⟨(some 26), none, (.q (.load none (.t 25)))⟩, ⟨(some 27), none, (.q (.len 0 (.t 26)))⟩, ⟨(some 28), none, (.q (.mov (.c (.int .i64 0))))⟩] [3, 26, 27, 28])
     (.block 2
      (.loop
       (.seq
        (.reg 8 [⟨(some 29), none, (.q (.bin .lss (.t 28) (.t 27)))⟩] [3, 26, 27, 28, 29])
        (.seq
         (.cond (.t 29)
          .skip
          (.exit 2))
         (.seq
          (.block 3
           (.seq
            (.reg 9 [⟨(some 30), none, (.q (.iaddr 1 (.t 26) (.t 28)))⟩, ⟨(some 31), none, (.q (.load none (.t 30)))⟩, ⟨(some 7), none, (.q (.mov (.t 31)))⟩] [3, 7, 26, 27, 28])
            (.reg 10 [⟨(some 32), none, (.q (.mov (.t 3)))⟩, ⟨(some 33), none, (.q (.mov (.t 7)))⟩, ⟨(some 34), none, (.q (.bld [] []))⟩, ⟨none, none, (.mupd 2 (.t 32) (.t 33) (.t 34))⟩] [3, 26, 27, 28])))
          (.reg 11 [⟨(some 35), none, (.q (.bin .add (.t 28) (.c (.int .i64 1))))⟩, ⟨(some 28), none, (.q (.mov (.t 35)))⟩] [3, 26, 27, 28])))))))
    (.seq
     (.reg 12 [⟨(some 36), none, (.q (.mov (.t 3)))⟩, ⟨(some 2), none, (.q (.mov (.t 36)))⟩] [2])
     .ret)))))
theorem fok116 : FOK Tryz.prog 116 (37, ic116, [(.t 2)]) := .mk (pf := [1000001]) (an := [(0, [1]), (1, [1, 3]), (2, [1, 3, 14, 15, 16]), (3, [1, 3, 14, 15, 16, 17]), (4, [1, 3, 5, 14, 15, 16]), (5, [1, 3, 14, 15, 16]), (6, [1, 3, 14, 15, 16]), (7, [3, 26, 27, 28]), (8, [3, 26, 27, 28, 29]), (9, [3, 7, 26, 27, 28]), (10, [3, 26, 27, 28]), (11, [3, 26, 27, 28]), (12, [2])]) (by kernel_rfl) (fnOK_of Tryz.func116 (by kernel_rfl) (by kernel_rfl) (by kernel_rfl))
/-- slices.Contains[[]int,int] -/
def ic117 : IC :=
(.seq
 (.reg 0 [⟨(some 4), none, (.q (.mov (.c (.bool false))))⟩] [0, 1])
 (.seq
  (.reg 1 [⟨(some 5), none, (.q (.mov (.t 0)))⟩, ⟨(some 6), none, (.q (.mov (.t 1)))⟩, ⟨(some 7), none, (.call 180 [(.t 5), (.t 6)])⟩, ⟨(some 8), none, (.q (.bin .geq (.t 7) (.c (.int .i64 0))))⟩, ⟨(some 4), none, (.q (.mov (.t 8)))⟩] [4])
  .ret))
theorem fok117 : FOK Tryz.prog 117 (9, ic117, [(.t 4)]) := .mk (pf := []) (an := [(0, [0, 1]), (1, [4])]) (by kernel_rfl) (fnOK_of Tryz.func117 (by kernel_rfl) (by kernel_rfl) (by kernel_rfl))
/-- slices.Clone[[]chandlery/api.Job,chandlery/api.Job] -/
def ic118 : IC :=
 (.seq
 (.reg 0 [oM 2 (.c .nilslice)] [0])
 (.seq
 (.seq
 (.reg 1 [oM 3 0, oQ 4 (.isnil (.slice 59) false 3)] [0, 4])
 (.cond 4
 (.seq
 (.reg 2 [oM 2 (.c .nilslice)] [2])
 .ret)
 .skip))
 (.seq
 (.reg 3 [oK 5 (.bsl 6 0 [(zU 0), (.str []), (zU 0), (zI 0), (.str []), (.str [])] []), oM 6 0, oK 7 (.app 6 5 6), oM 2 7] [2])
 .ret)))
theorem fok118 : FOK Tryz.prog 118 (8, ic118, [(.t 2)]) := fokA [] Tryz.func118 (by kernel_rfl) (by kernel_rfl) (by kernel_rfl) (by kernel_rfl)
/-- slices.Clone[[]chandlery/api.Edit,chandlery/api.Edit] -/
def ic119 : IC :=
 (.seq
 (.reg 0 [oM 2 (.c .nilslice)] [0])
 (.seq
 (.seq
 (.reg 1 [oM 3 0, oQ 4 (.isnil (.slice 63) false 3)] [0, 4])
 (.cond 4
 (.seq
 (.reg 2 [oM 2 (.c .nilslice)] [2])
 .ret)
 .skip))
 (.seq
 (.reg 3 [oK 5 (.bsl 2 0 [(zU 0), (zI 0)] []), oM 6 0, oK 7 (.app 2 5 6), oM 2 7] [2])
 .ret)))
theorem fok119 : FOK Tryz.prog 119 (8, ic119, [(.t 2)]) := fokA [] Tryz.func119 (by kernel_rfl) (by kernel_rfl) (by kernel_rfl) (by kernel_rfl)
/-- (chandlery/pool.rows).is -/
def ic120 : IC :=
(.seq
 (.reg 0 [⟨(some 4), none, (.q (.mov (.c (.bool false))))⟩] [0, 1])
 (.seq
  (.reg 1 [⟨(some 5), none, (.q (.mov (.t 1)))⟩, ⟨(some 6), none, (.q (.bin .geq (.t 5) (.c (.int .i64 0))))⟩, ⟨(some 7), none, (.q (.mov (.t 6)))⟩, ⟨(some 8), (some ⟨7, true⟩), (.q (.mov (.t 1)))⟩, ⟨(some 9), (some ⟨7, true⟩), (.q (.mov (.t 0)))⟩, ⟨(some 10), (some ⟨7, true⟩), (.q (.len 0 (.t 9)))⟩, ⟨(some 11), (some ⟨7, true⟩), (.q (.bin .lss (.t 8) (.t 10)))⟩, ⟨(some 12), none, (.q (.pick (.t 7) (.t 11) (.c (.bool false))))⟩, ⟨(some 4), none, (.q (.mov (.t 12)))⟩] [4])
  .ret))
theorem fok120 : FOK Tryz.prog 120 (13, ic120, [(.t 4)]) := .mk (pf := []) (an := [(0, [0, 1]), (1, [4])]) (by kernel_rfl) (fnOK_of Tryz.func120 (by kernel_rfl) (by kernel_rfl) (by kernel_rfl))
/-- chandlery/pkg.Copy -/
def ic121 : IC :=
(.seq
 (.reg 0 [⟨(some 1), none, (.box (.t 0))⟩, ⟨(some 2), none, (.alloc [(.str []), (.int .i64 0), (.str []), (.str []), (.int .u8 0), (.str []), .nilslice, .nilslice, .nilslice, .nilslice, .nilslice, .nilslice, .nilslice, .nilslice, .nilslice])⟩] [1, 2])
 (.seq
  (.dreg 1 [⟨(some 7), none, (.q (.faddr 6 (.t 1)))⟩, ⟨(some 8), none, (.q (.load none (.t 7)))⟩, ⟨(some 9), none, (.pcall 181 [(.t 8)])⟩, ⟨(some 10), none, (.q (.faddr 9 (.t 1)))⟩, ⟨(some 11), none, (.q (.load none (.t 10)))⟩, ⟨(some 12), none, (.pcall 181 [(.t 11)])⟩, ⟨(some 13), none, (.q (.faddr 14 (.t 1)))⟩, ⟨(some 14), none, (.q (.load none (.t 13)))⟩, ⟨(some 15), none, (.pcall 182 [(.t 14)])⟩, ⟨(some 16), none, (.q (.faddr 6 (.t 1)))⟩, ⟨none, none, (.store 1 (.t 16) (.t 9))⟩, ⟨(some 17), none, (.q (.faddr 9 (.t 1)))⟩, ⟨none, none, (.store 1 (.t 17) (.t 12))⟩, ⟨(some 18), none, (.q (.faddr 14 (.t 1)))⟩, ⟨none, none, (.store 1 (.t 18) (.t 15))⟩] false [1, 2])
  (.seq
   (.seq
    (.reg 2 [⟨(some 19), none, (.q (.faddr 7 (.t 1)))⟩, ⟨(some 20), none, (.q (.faddr 8 (.t 1)))⟩, ⟨(some 21), none, (.q (.faddr 10 (.t 1)))⟩, ⟨(some 22), none, (.q (.faddr 11 (.t 1)))⟩, ⟨(some 23), none, (.q (.faddr 12 (.t 1)))⟩, ⟨(some 24), none, (.q (.faddr 13 (.t 1)))⟩, ⟨(some 25), none, (.bslt 1 6 [.nilptr] [⟨0, ⟨1, (.t 19)⟩⟩, ⟨1, ⟨1, (.t 20)⟩⟩, ⟨2, ⟨1, (.t 21)⟩⟩, ⟨3, ⟨1, (.t 22)⟩⟩, ⟨4, ⟨1, (.t 23)⟩⟩, ⟨5, ⟨1, (.t 24)⟩⟩])⟩, ⟨(some 26), none, (.q (.len 0 (.t 25)))⟩, ⟨(some 27), none, (.q (.mov (.c (.int .i64 0))))⟩] [1, 2, 25, 26, 27])
    (.block 0
     (.loop
      (.seq
       (.reg 3 [⟨(some 28), none, (.q (.bin .lss (.t 27) (.t 26)))⟩] [1, 2, 25, 26, 27, 28])
       (.seq
        (.cond (.t 28)
         .skip
         (.exit 0))
        (.seq
         (.block 1
          (.seq
           (.reg 4 [⟨(some 29), none, (.q (.iaddr 1 (.t 25) (.t 27)))⟩, ⟨(some 30), none, (.q (.load none (.t 29)))⟩, ⟨(some 4), none, (.q (.mov (.t 30)))⟩] [1, 2, 4, 25, 26, 27])
           (.seq
            (.reg 5 [⟨(some 31), none, (.q (.mov (.t 4)))⟩, ⟨(some 32), none, (.q (.mov (.t 4)))⟩, ⟨(some 33), none, (.q (.nchk (.t 32)))⟩, ⟨(some 34), none, (.q (.load none (.t 33)))⟩, ⟨(some 35), none, (.call 183 [(.t 34)])⟩, ⟨(some 36), none, (.q (.nchk (.t 31)))⟩, ⟨none, none, (.store 1 (.t 36) (.t 35))⟩] [1, 2, 4, 25, 26, 27])
            (.seq
            (.reg 6 [⟨(some 37), none, (.q (.mov (.t 4)))⟩, ⟨(some 38), none, (.q (.nchk (.t 37)))⟩, ⟨(some 39), none, (.q (.load none (.t 38)))⟩, ⟨(some 40), none, (.q (.len 0 (.t 39)))⟩, ⟨(some 41), none, (.q (.mov (.c (.int .i64 0))))⟩] [1, 2, 4, 25, 26, 27, 39, 40, 41])
            (.block 2
            (.loop
            (.seq
            (.reg 7 [⟨(some 42), none, (.q (.bin .lss (.t 41) (.t 40)))⟩] [1, 2, 4, 25, 26, 27, 39, 40, 41, 42])
            (.seq
            (.cond (.t 42)
            .skip
            (.exit 2))
            (.seq
            (.block 3
            (.seq
            (.reg 8 [⟨(some 43), none, (.q (.mov (.t 41)))⟩, ⟨(some 44), none, (.q (.iaddr 7 (.t 39) (.t 41)))⟩, ⟨(some 45), none, (.q (.load (some 7) (.t 44)))⟩, ⟨(some 6), none, (.alloc [(.int .u8 0), (.str []), (.int .u8 0), (.int .i64 0), (.str []), (.str []), .nilslice])⟩, ⟨(some 5), none, (.q (.mov (.t 43)))⟩, ⟨none, none, (.store 7 (.t 6) (.t 45))⟩] [1, 2, 4, 5, 6, 25, 26, 27, 39, 40, 41])
            (.dreg 9 [⟨(some 46), none, (.q (.mov (.t 4)))⟩, ⟨(some 47), none, (.q (.nchk (.t 46)))⟩, ⟨(some 48), none, (.q (.load none (.t 47)))⟩, ⟨(some 49), none, (.q (.mov (.t 5)))⟩, ⟨(some 50), none, (.q (.load (some 7) (.t 6)))⟩, ⟨(some 51), none, (.pcall 184 [(.t 50)])⟩, ⟨(some 52), none, (.q (.iaddr 7 (.t 48) (.t 49)))⟩, ⟨none, none, (.store 7 (.t 52) (.t 51))⟩] false [1, 2, 4, 25, 26, 27, 39, 40, 41])))
            (.reg 10 [⟨(some 53), none, (.q (.bin .add (.t 41) (.c (.int .i64 1))))⟩, ⟨(some 41), none, (.q (.mov (.t 53)))⟩] [1, 2, 4, 25, 26, 27, 39, 40, 41]))))))))))
         (.reg 11 [⟨(some 54), none, (.q (.bin .add (.t 27) (.c (.int .i64 1))))⟩, ⟨(some 27), none, (.q (.mov (.t 54)))⟩] [1, 2, 25, 26, 27])))))))
   (.seq
    (.reg 12 [⟨(some 55), none, (.q (.load (some 15) (.t 1)))⟩, ⟨none, none, (.store 15 (.t 2) (.t 55))⟩] [2])
    .ret))))
theorem fok121 : FOK Tryz.prog 121 (56, ic121, [(.cell (some 15) 2)]) := .mk (pf := ([1000025] ++ List.filter (fun k => k != 183) allF0)) (an := [(0, [1, 2]), (1, [1, 2]), (2, [1, 2, 25, 26, 27]), (3, [1, 2, 25, 26, 27, 28]), (4, [1, 2, 4, 25, 26, 27]), (5, [1, 2, 4, 25, 26, 27]), (6, [1, 2, 4, 25, 26, 27, 39, 40, 41]), (7, [1, 2, 4, 25, 26, 27, 39, 40, 41, 42]), (8, [1, 2, 4, 5, 6, 25, 26, 27, 39, 40, 41]), (9, [1, 2, 4, 25, 26, 27, 39, 40, 41]), (10, [1, 2, 4, 25, 26, 27, 39, 40, 41]), (11, [1, 2, 25, 26, 27]), (12, [2])]) (by kernel_rfl) (fnOK_of Tryz.func121 (by kernel_rfl) (by kernel_rfl) (by kernel_rfl))
/-- chandlery/arch.Score -/
def ic122 : IC :=
 (.seq
 (.reg 0 [oM 4 (cI 0)] [0, 1])
 (.seq
 (.seq
 (.reg 1 [oM 5 0, oK 6 (.call 109 [5]), oQ 7 (.not 6), oM 8 7, gQ 9 8 false (.mov 1), gK 10 8 false (.call 109 [9]), gQ 11 8 false (.not 10), oQ 12 (.pick 8 (cB true) 11)] [0, 1, 12])
 (.cond 12
 (.seq
 (.reg 2 [oM 4 (cI 0)] [4])
 .ret)
 .skip))
 (.seq
 (.reg 3 [oK 13 (.call 185 []), oM 14 0, oQ 15 (.idx (some 5) 5 5 13 14), oM 16 1, oQ 17 (.idx none 5 1 15 16), oM 4 17] [4])
 .ret)))
theorem fok122 : FOK Tryz.prog 122 (18, ic122, [(.t 4)]) := fokA [] Tryz.func122 (by kernel_rfl) (by kernel_rfl) (by kernel_rfl) (by kernel_rfl)
/-- chandlery/evr.first -/
def ic123 : IC :=
 (.seq
 (.reg 0 [oM 2 (cI 0)] [0])
 (.seq
 (.seq
 (.reg 1 [oM 6 0, oQ 7 (.len 0 6), oM 8 (cI 0)] [6, 7, 8])
 (.block 0
 (.loop
 (.seq
 (.reg 2 [oQ 9 (.bin .lss 8 7)] [6, 7, 8, 9])
 (.seq
 (.cond 9
 .skip
 (.exit 0))
 (.seq
 (.block 1
 (.seq
 (.reg 3 [oQ 10 (.iaddr 1 6 8), oQ 11 (.load none 10), oM 4 11] [4, 6, 7, 8])
 (.seq
 (.reg 4 [oM 12 4, oK 13 (.callv 12 []), oM 5 13] [5, 6, 7, 8])
 (.seq
 (.reg 5 [oM 14 5, oQ 15 (.bin .neq 14 (cI 0))] [5, 6, 7, 8, 15])
 (.cond 15
 (.seq
 (.reg 6 [oM 16 5, oM 2 16] [2])
 .ret)
 .skip)))))
 (.reg 7 [oQ 17 (.bin .add 8 (cI 1)), oM 8 17] [6, 7, 8])))))))
 (.seq
 (.reg 8 [oM 2 (cI 0)] [2])
 .ret)))
theorem fok123 : FOK Tryz.prog 123 (18, ic123, [(.t 2)]) := fokA [] Tryz.func123 (by kernel_rfl) (by kernel_rfl) (by kernel_rfl) (by kernel_rfl)
/-- chandlery/evr.Compare$1 -/
def ic124 : IC :=
 (.seq
 (.reg 0 [oM 2 (cI 0)] [0, 1])
 (.seq
 (.reg 1 [oQ 3 (.faddr 0 0), oQ 4 (.load none 3), oQ 5 (.faddr 0 1), oQ 6 (.load none 5), oK 7 (.call 84 [4, 6]), oM 2 7] [2])
 .ret))
theorem fok124 : FOK Tryz.prog 124 (8, ic124, [(.t 2)]) := fokA [] Tryz.func124 (by kernel_rfl) (by kernel_rfl) (by kernel_rfl) (by kernel_rfl)
/-- chandlery/evr.Compare$2 -/
def ic125 : IC :=
 (.seq
 (.reg 0 [oM 2 (cI 0)] [0, 1])
 (.seq
 (.reg 1 [oQ 3 (.faddr 1 0), oQ 4 (.load none 3), oQ 5 (.faddr 1 1), oQ 6 (.load none 5), oK 7 (.call 126 [4, 6]), oM 2 7] [2])
 .ret))
theorem fok125 : FOK Tryz.prog 125 (8, ic125, [(.t 2)]) := fokA [] Tryz.func125 (by kernel_rfl) (by kernel_rfl) (by kernel_rfl) (by kernel_rfl)
/-- chandlery/vercmp.Compare -/
def ic126 : IC :=
 (.seq
 (.reg 0 [oM 4 (cI 0)] [0, 1])
 (.seq
 (.reg 1 [oM 9 0, oK 10 (.call 186 [9]), oQ 11 (.bld [(zU 0), (.str [])] [⟨0, ⟨1, (.c (zU 2))⟩⟩]), oK 12 (.bslt 2 1 [(zU 0), (.str [])] [⟨0, ⟨2, 11⟩⟩]), oK 13 (.app 2 10 12), oM 14 1, oK 15 (.call 186 [14]), oQ 16 (.bld [(zU 0), (.str [])] [⟨0, ⟨1, (.c (zU 2))⟩⟩]), oK 17 (.bslt 2 1 [(zU 0), (.str [])] [⟨0, ⟨2, 16⟩⟩]), oK 18 (.app 2 15 17), oM 5 13, oM 6 18] [5, 6])
 (.seq
 (.seq
 (.reg 2 [oM 19 5, oQ 20 (.len 0 19), oM 21 6, oQ 22 (.len 0 21), oQ 23 (.mm false 20 22), oM 24 (cI 0)] [5, 6, 23, 24])
 (.block 0
 (.loop
 (.seq
 (.reg 3 [oQ 25 (.bin .lss 24 23)] [5, 6, 23, 24, 25])
 (.seq
 (.cond 25
 .skip
 (.exit 0))
 (.seq
 (.block 1
 (.seq
 (.reg 4 [oM 26 24, oM 7 26] [5, 6, 7, 23, 24])
 (.seq
 (.dreg 5 [oM 27 5, oM 28 7, oQ 29 (.iaddr 2 27 28), oQ 30 (.load (some 2) 29), oM 31 6, oM 32 7, oQ 33 (.iaddr 2 31 32), oQ 34 (.load (some 2) 33), oK 35 (.call 187 [30, 34]), oM 8 35] false [5, 6, 8, 23, 24])
 (.seq
 (.reg 6 [oM 36 8, oQ 37 (.bin .neq 36 (cI 0))] [5, 6, 8, 23, 24, 37])
 (.cond 37
 (.seq
 (.reg 7 [oM 38 8, oM 4 38] [4])
 .ret)
 .skip)))))
 (.reg 8 [oQ 39 (.bin .add 24 (cI 1)), oM 24 39] [5, 6, 23, 24])))))))
 (.seq
 (.reg 9 [oM 4 (cI 0)] [4])
 .ret))))
theorem fok126 : FOK Tryz.prog 126 (40, ic126, [(.t 4)]) := fokA [1000012, 1000017] Tryz.func126 (by kernel_rfl) (by kernel_rfl) (by kernel_rfl) (by kernel_rfl)
/-- chandlery/evr.Compare$3 -/
def ic127 : IC :=
 (.seq
 (.reg 0 [oM 2 (cI 0)] [0, 1])
 (.seq
 (.seq
 (.reg 1 [oQ 3 (.faddr 2 0), oQ 4 (.load none 3), oQ 5 (.bin .eql 4 (.c (.str []))), oM 6 5, gQ 7 6 false (.faddr 2 1), gQ 8 6 false (.load none 7), gQ 9 6 false (.bin .eql 8 (.c (.str []))), oQ 10 (.pick 6 (cB true) 9)] [0, 1, 10])
 (.cond 10
 (.seq
 (.reg 2 [oM 2 (cI 0)] [2])
 .ret)
 .skip))
 (.seq
 (.reg 3 [oQ 11 (.faddr 2 0), oQ 12 (.load none 11), oQ 13 (.faddr 2 1), oQ 14 (.load none 13), oK 15 (.call 126 [12, 14]), oM 2 15] [2])
 .ret)))
theorem fok127 : FOK Tryz.prog 127 (16, ic127, [(.t 2)]) := fokA [] Tryz.func127 (by kernel_rfl) (by kernel_rfl) (by kernel_rfl) (by kernel_rfl)
/-- slices.Contains[[]chandlery/api.Edit,chandlery/api.Edit] -/
def ic128 : IC :=
 (.seq
 (.reg 0 [oK 3 (.boxt 1), oM 4 (cB false)] [0, 3])
 (.seq
 (.reg 1 [oM 5 0, oQ 6 (.load (some 2) 3), oK 7 (.call 188 [5, 6]), oQ 8 (.bin .geq 7 (cI 0)), oM 4 8] [4])
 .ret))
theorem fok128 : FOK Tryz.prog 128 (9, ic128, [(.t 4)]) := fokA [1000003] Tryz.func128 (by kernel_rfl) (by kernel_rfl) (by kernel_rfl) (by kernel_rfl)
/-- (*chandlery/match.Index).is -/
def ic129 : IC :=
 (.seq
 (.reg 0 [oM 4 (cB false)] [0, 1])
 (.seq
 (.reg 1 [oM 5 0, oQ 6 (.isnil (.pointer 160) true 5), oM 7 6, gQ 8 7 true (.mov 1), gQ 9 7 true (.bin .geq 8 (cI 0)), oQ 10 (.pick 7 9 (cB false)), oM 11 10, gQ 12 11 true (.mov 1), gQ 13 11 true (.mov 0), gQ 14 11 true (.nchk 13), gQ 15 11 true (.faddr 0 14), gQ 16 11 true (.load none 15), gQ 17 11 true (.len 0 16), gQ 18 11 true (.bin .lss 12 17), oQ 19 (.pick 11 18 (cB false)), oM 4 19] [4])
 .ret))
theorem fok129 : FOK Tryz.prog 129 (20, ic129, [(.t 4)]) := fokA [] Tryz.func129 (by kernel_rfl) (by kernel_rfl) (by kernel_rfl) (by kernel_rfl)
/-- (*chandlery/match.Index).sift -/
def ic130 : IC :=
 (.seq
 (.reg 0 [oM 6 (.c .nilslice)] [0, 1, 2])
 (.seq
 (.reg 1 [oM 7 (.c .nilslice)] [0, 1, 2, 7])
 (.seq
 (.seq
 (.reg 2 [oM 10 1, oQ 11 (.len 0 10), oM 12 (cI 0)] [0, 2, 7, 10, 11, 12])
 (.block 0
 (.loop
 (.seq
 (.reg 3 [oQ 13 (.bin .lss 12 11)] [0, 2, 7, 10, 11, 12, 13])
 (.seq
 (.cond 13
 .skip
 (.exit 0))
 (.seq
 (.block 1
 (.seq
 (.reg 4 [oQ 14 (.iaddr 1 10 12), oQ 15 (.load none 14), oM 9 15] [0, 2, 7, 9, 10, 11, 12])
 (.seq
 (.reg 5 [oM 16 2, oM 17 0, oQ 18 (.nchk 17), oQ 19 (.faddr 0 18), oQ 20 (.load none 19), oM 21 9, oQ 22 (.iaddr 15 20 21), oQ 23 (.load (some 15) 22), oM 24 9, oK 25 (.callv 16 [23, 24])] [0, 2, 7, 9, 10, 11, 12, 25])
 (.cond 25
 (.reg 6 [oM 26 7, oM 27 9, oK 28 (.bslt 1 1 [(zI 0)] [⟨0, ⟨1, 27⟩⟩]), oK 29 (.app 1 26 28), oM 7 29] [0, 2, 7, 10, 11, 12])
 .skip))))
 (.reg 7 [oQ 30 (.bin .add 12 (cI 1)), oM 12 30] [0, 2, 7, 10, 11, 12])))))))
 (.seq
 (.reg 8 [oM 31 7, oM 6 31] [6])
 .ret))))
theorem fok130 : FOK Tryz.prog 130 (32, ic130, [(.t 6)]) := fokA [1000028] Tryz.func130 (by kernel_rfl) (by kernel_rfl) (by kernel_rfl) (by kernel_rfl)
/-- (*chandlery/match.Index).Obsoleters$1 -/
def ic131 : IC :=
 (.seq
 (.reg 0 [oK 4 (.boxt 0), oM 6 (cB false)] [1, 2, 3, 4])
 (.seq
 (.dreg 1 [oM 7 1, oQ 8 (.load none 2), oQ 9 (.bin .neq 7 8), oM 10 9, gQ 11 10 true (.load (some 15) 4), gQ 12 10 true (.load none 3), gQ 13 10 true (.nchk 12), gQ 14 10 true (.faddr 0 13), gQ 15 10 true (.load none 14), gQ 16 10 true (.load none 2), gQ 17 10 true (.iaddr 15 15 16), gQ 18 10 true (.load (some 15) 17), gK 19 10 true (.call 132 [11, 18]), oQ 20 (.pick 10 19 (cB false)), oM 6 20] false [6])
 .ret))
theorem fok131 : FOK Tryz.prog 131 (21, ic131, [(.t 6)]) := fokA [1000004] Tryz.func131 (by kernel_rfl) (by kernel_rfl) (by kernel_rfl) (by kernel_rfl)
/-- chandlery/pkg.Obsoletes -/
def ic132 : IC :=
 (.seq
 (.reg 0 [oK 2 (.boxt 0), oK 3 (.boxt 1), oM 4 (cB false)] [2, 3])
 (.seq
 (.reg 1 [oQ 5 (.faddr 9 2), oQ 6 (.load none 5), oQ 7 (.mkf 189 [] [3]), oK 8 (.call 93 [6, 7]), oM 4 8] [4])
 .ret))
theorem fok132 : FOK Tryz.prog 132 (9, ic132, [(.t 4)]) := fokA [1000002, 1000003] Tryz.func132 (by kernel_rfl) (by kernel_rfl) (by kernel_rfl) (by kernel_rfl)
/-- slices.pdqsortOrdered[int] -/
def ic133 : IC :=
 (.seq
 (.reg 0 [oM 8 (cB true)] [0, 1, 2, 3, 8])
 (.seq
 (.reg 1 [oM 9 (cB true)] [0, 1, 2, 3, 8, 9])
 (.block 0
 (.loop
 (.block 1
 (.seq
 (.reg 2 [oM 19 2, oM 20 1, oQ 21 (.bin .sub 19 20), oM 10 21] [0, 1, 2, 3, 8, 9, 10])
 (.seq
 (.seq
 (.reg 3 [oM 22 10, oQ 23 (.bin .leq 22 (cI 12))] [0, 1, 2, 3, 8, 9, 10, 23])
 (.cond 23
 (.seq
 (.reg 4 [oM 24 0, oM 25 1, oM 26 2, oK 27 (.call 190 [24, 25, 26])] [])
 .ret)
 .skip))
 (.seq
 (.seq
 (.reg 5 [oM 28 3, oQ 29 (.bin .eql 28 (cI 0))] [0, 1, 2, 3, 8, 9, 10, 29])
 (.cond 29
 (.seq
 (.reg 6 [oM 30 0, oM 31 1, oM 32 2, oK 33 (.call 191 [30, 31, 32])] [])
 .ret)
 .skip))
 (.seq
 (.seq
 (.reg 7 [oM 34 8, oQ 35 (.not 34)] [0, 1, 2, 3, 8, 9, 10, 35])
 (.cond 35
 (.seq
 (.reg 8 [oM 36 0, oM 37 1, oM 38 2, oK 39 (.call 192 [36, 37, 38])] [0, 1, 2, 3, 8, 9, 10])
 (.reg 9 [oM 40 3, oQ 41 (.bin .sub 40 (cI 1)), oM 3 41] [0, 1, 2, 3, 8, 9, 10]))
 .skip))
 (.seq
 (.reg 10 [oM 43 0, oM 44 1, oM 45 2, oK 46 (.call 193 [43, 44, 45]), oM 42 46, oQ 47 (.ext 0 42), oQ 48 (.ext 1 42), oM 11 47, oM 12 48] [0, 1, 2, 3, 8, 9, 10, 11, 12])
 (.seq
 (.seq
 (.reg 11 [oM 49 12, oQ 50 (.bin .eql 49 (cI 2))] [0, 1, 2, 3, 8, 9, 10, 11, 12, 50])
 (.cond 50
 (.seq
 (.reg 12 [oM 51 0, oM 52 1, oM 53 2, oK 54 (.call 194 [51, 52, 53])] [0, 1, 2, 3, 8, 9, 10, 11])
 (.seq
 (.reg 13 [oM 55 2, oQ 56 (.bin .sub 55 (cI 1)), oM 57 11, oM 58 1, oQ 59 (.bin .sub 57 58), oQ 60 (.bin .sub 56 59), oM 11 60] [0, 1, 2, 3, 8, 9, 10, 11])
 (.reg 14 [oM 12 (cI 1)] [0, 1, 2, 3, 8, 9, 10, 11, 12])))
 .skip))
 (.seq
 (.seq
 (.reg 15 [oM 61 8, oM 62 61, gQ 63 62 true (.mov 9), oQ 64 (.pick 62 63 (cB false)), oM 65 64, gQ 66 65 true (.mov 12), gQ 67 65 true (.bin .eql 66 (cI 1)), oQ 68 (.pick 65 67 (cB false))] [0, 1, 2, 3, 8, 9, 10, 11, 68])
 (.cond 68
 (.seq
 (.reg 16 [oM 69 0, oM 70 1, oM 71 2, oK 72 (.call 195 [69, 70, 71])] [0, 1, 2, 3, 8, 9, 10, 11, 72])
 (.cond 72
 .ret
 .skip))
 .skip))
 (.seq
 (.seq
 (.dreg 17 [oM 73 1, oQ 74 (.bin .gtr 73 (cI 0)), oM 75 74, gQ 76 75 true (.mov 0), gQ 77 75 true (.mov 1), gQ 78 75 true (.bin .sub 77 (cI 1)), gQ 79 75 true (.iaddr 1 76 78), gQ 80 75 true (.load none 79), gQ 81 75 true (.mov 0), gQ 82 75 true (.mov 11), gQ 83 75 true (.iaddr 1 81 82), gQ 84 75 true (.load none 83), gK 85 75 true (.call 196 [80, 84]), gQ 86 75 true (.not 85), oQ 87 (.pick 75 86 (cB false))] false [0, 1, 2, 3, 8, 9, 10, 11, 87])
 (.cond 87
 (.seq
 (.reg 18 [oM 88 0, oM 89 1, oM 90 2, oM 91 11, oK 92 (.call 197 [88, 89, 90, 91]), oM 13 92] [0, 2, 3, 8, 9, 13])
 (.seq
 (.reg 19 [oM 93 13, oM 1 93] [0, 1, 2, 3, 8, 9])
 (.exit 1)))
 .skip))
 (.seq
 (.reg 20 [oM 95 0, oM 96 1, oM 97 2, oM 98 11, oK 99 (.call 198 [95, 96, 97, 98]), oM 94 99, oQ 100 (.ext 0 94), oQ 101 (.ext 1 94), oM 14 100, oM 15 101] [0, 1, 2, 3, 10, 14, 15])
 (.seq
 (.reg 21 [oM 102 15, oM 9 102] [0, 1, 2, 3, 9, 10, 14])
 (.seq
 (.reg 22 [oM 103 14, oM 104 1, oQ 105 (.bin .sub 103 104), oM 106 2, oM 107 14, oQ 108 (.bin .sub 106 107), oM 16 105, oM 17 108] [0, 1, 2, 3, 9, 10, 14, 16, 17])
 (.seq
 (.reg 23 [oM 109 10, oQ 110 (.bin .quo 109 (cI 8)), oM 18 110] [0, 1, 2, 3, 9, 14, 16, 17, 18])
 (.seq
 (.reg 24 [oM 111 16, oM 112 17, oQ 113 (.bin .lss 111 112)] [0, 1, 2, 3, 9, 14, 16, 17, 18, 113])
 (.cond 113
 (.seq
 (.reg 25 [oM 114 16, oM 115 18, oQ 116 (.bin .geq 114 115), oM 8 116] [0, 1, 2, 3, 8, 9, 14])
 (.seq
 (.reg 26 [oM 117 0, oM 118 1, oM 119 14, oM 120 3, oK 121 (.call 133 [117, 118, 119, 120])] [0, 2, 3, 8, 9, 14])
 (.reg 27 [oM 122 14, oQ 123 (.bin .add 122 (cI 1)), oM 1 123] [0, 1, 2, 3, 8, 9])))
 (.seq
 (.reg 28 [oM 124 17, oM 125 18, oQ 126 (.bin .geq 124 125), oM 8 126] [0, 1, 2, 3, 8, 9, 14])
 (.seq
 (.reg 29 [oM 127 0, oM 128 14, oQ 129 (.bin .add 128 (cI 1)), oM 130 2, oM 131 3, oK 132 (.call 133 [127, 129, 130, 131])] [0, 1, 3, 8, 9, 14])
 (.reg 30 [oM 133 14, oM 2 133] [0, 1, 2, 3, 8, 9]))))))))))))))))))))))
theorem fok133 : FOK Tryz.prog 133 (134, ic133, []) := fokA [] Tryz.func133 (by kernel_rfl) (by kernel_rfl) (by kernel_rfl) (by kernel_rfl)
/-- math/bits.Len -/
def ic134 : IC :=
 (.seq
 (.reg 0 [oM 2 (cI 0)] [0])
 (.seq
 (.cond (cB false)
 (.seq
 (.reg 1 [oM 3 0, oQ 4 (.conv .u32 3), oK 5 (.call 199 [4]), oM 2 5] [2])
 .ret)
 .skip)
 (.seq
 (.reg 2 [oM 6 0, oK 7 (.call 200 [6]), oM 2 7] [2])
 .ret)))
theorem fok134 : FOK Tryz.prog 134 (8, ic134, [(.t 2)]) := fokA [] Tryz.func134 (by kernel_rfl) (by kernel_rfl) (by kernel_rfl) (by kernel_rfl)
/-- slices.IndexFunc[[]int,int] -/
def ic135 : IC :=
 (.seq
 (.reg 0 [oM 4 (cI 0)] [0, 1])
 (.seq
 (.seq
 (.reg 1 [oM 6 0, oQ 7 (.len 0 6), oM 8 (cI 0)] [0, 1, 7, 8])
 (.block 0
 (.loop
 (.seq
 (.reg 2 [oQ 9 (.bin .lss 8 7)] [0, 1, 7, 8, 9])
 (.seq
 (.cond 9
 .skip
 (.exit 0))
 (.seq
 (.block 1
 (.seq
 (.reg 3 [oM 10 8, oM 5 10] [0, 1, 5, 7, 8])
 (.seq
 (.reg 4 [oM 11 1, oM 12 0, oM 13 5, oQ 14 (.iaddr 1 12 13), oQ 15 (.load none 14), oK 16 (.callv 11 [15])] [0, 1, 5, 7, 8, 16])
 (.cond 16
 (.seq
 (.reg 5 [oM 17 5, oM 4 17] [4])
 .ret)
 .skip))))
 (.reg 6 [oQ 18 (.bin .add 8 (cI 1)), oM 8 18] [0, 1, 7, 8])))))))
 (.seq
 (.reg 7 [oM 4 (cI (-1))] [4])
 .ret)))
theorem fok135 : FOK Tryz.prog 135 (19, ic135, [(.t 4)]) := fokA [] Tryz.func135 (by kernel_rfl) (by kernel_rfl) (by kernel_rfl) (by kernel_rfl)
/-- (*chandlery/match.Index).Providers$1 -/
def ic136 : IC :=
 (.seq
 (.reg 0 [oK 3 (.boxt 0), oM 5 (cB false)] [2, 3])
 (.seq
 (.reg 1 [oQ 6 (.load (some 15) 3), oQ 7 (.load (some 5) 2), oK 8 (.call 95 [6, 7]), oM 5 8] [5])
 .ret))
theorem fok136 : FOK Tryz.prog 136 (9, ic136, [(.t 5)]) := fokA [1000003] Tryz.func136 (by kernel_rfl) (by kernel_rfl) (by kernel_rfl) (by kernel_rfl)
/-- (*chandlery/match.Index).Named$1 -/
def ic137 : IC :=
 (.seq
 (.reg 0 [oK 3 (.boxt 0), oM 5 (cB false)] [2, 3])
 (.seq
 (.reg 1 [oQ 6 (.load (some 15) 3), oQ 7 (.load (some 5) 2), oK 8 (.call 138 [6, 7]), oM 5 8] [5])
 .ret))
theorem fok137 : FOK Tryz.prog 137 (9, ic137, [(.t 5)]) := fokA [1000003] Tryz.func137 (by kernel_rfl) (by kernel_rfl) (by kernel_rfl) (by kernel_rfl)
/-- chandlery/pkg.Named -/
def ic138 : IC :=
 (.seq
 (.reg 0 [oK 2 (.boxt 0), oK 3 (.boxt 1), oM 4 (cB false)] [2, 3])
 (.seq
 (.dreg 1 [oQ 5 (.load (some 15) 2), oK 6 (.pcall 201 [5]), oQ 7 (.load (some 5) 3), oK 8 (.pcall 158 [6, 7]), oM 4 8] false [4])
 .ret))
theorem fok138 : FOK Tryz.prog 138 (9, ic138, [(.t 4)]) := fokA ([1000002, 1000003] ++ [158, 201]) Tryz.func138 (by kernel_rfl) (by kernel_rfl) (by kernel_rfl) (by kernel_rfl)
/-- slices.ContainsFunc[[]int,int] -/
def ic140 : IC :=
 (.seq
 (.reg 0 [oM 4 (cB false)] [0, 1])
 (.seq
 (.reg 1 [oM 5 0, oM 6 1, oK 7 (.call 135 [5, 6]), oQ 8 (.bin .geq 7 (cI 0)), oM 4 8] [4])
 .ret))
theorem fok140 : FOK Tryz.prog 140 (9, ic140, [(.t 4)]) := fokA [] Tryz.func140 (by kernel_rfl) (by kernel_rfl) (by kernel_rfl) (by kernel_rfl)
/-- chandlery/pkg.May -/
def ic143 : IC :=
(.seq
 (.reg 0 [⟨(some 1), none, (.boxt (.t 0))⟩, ⟨(some 2), none, (.alloc [(.bool false)])⟩] [1, 2])
 (.seq
  (.block 0
   (.seq
    (.reg 1 [⟨(some 8), none, (.q (.faddr 0 (.t 1)))⟩, ⟨(some 9), none, (.q (.load none (.t 8)))⟩, ⟨(some 10), none, (.call 111 [(.t 9)])⟩, ⟨(some 11), none, (.q (.not (.t 10)))⟩, ⟨(some 12), none, (.q (.mov (.t 11)))⟩, ⟨(some 13), (some ⟨12, false⟩), (.q (.faddr 0 (.t 1)))⟩, ⟨(some 14), (some ⟨12, false⟩), (.q (.load none (.t 13)))⟩, ⟨(some 15), (some ⟨12, false⟩), (.call 113 [(.t 14)])⟩, ⟨(some 16), none, (.q (.pick (.t 12) (.c (.bool true)) (.t 15)))⟩, ⟨(some 17), none, (.q (.mov (.t 16)))⟩, ⟨(some 18), (some ⟨17, false⟩), (.q (.faddr 1 (.t 1)))⟩, ⟨(some 19), (some ⟨17, false⟩), (.q (.load (some 3) (.t 18)))⟩, ⟨(some 20), (some ⟨17, false⟩), (.call 114 [(.t 19), (.c (.bool false))])⟩, ⟨(some 21), (some ⟨17, false⟩), (.q (.not (.t 20)))⟩, ⟨(some 22), none, (.q (.pick (.t 17) (.c (.bool true)) (.t 21)))⟩, ⟨(some 7), none, (.q (.mov (.t 22)))⟩] [1, 2, 7])
    (.cond (.t 7)
     (.seq
      (.reg 2 [⟨none, none, (.store 1 (.t 2) (.c (.bool false)))⟩] [2])
      .ret)
     (.seq
      (.reg 3 [⟨(some 24), none, (.q (.faddr 4 (.t 1)))⟩, ⟨(some 25), none, (.q (.load none (.t 24)))⟩, ⟨(some 26), none, (.call 203 [(.t 25)])⟩, ⟨(some 27), none, (.q (.bin .eql (.t 26) (.c (.str []))))⟩, ⟨(some 28), none, (.q (.mov (.t 27)))⟩, ⟨(some 29), (some ⟨28, false⟩), (.q (.faddr 5 (.t 1)))⟩, ⟨(some 30), (some ⟨28, false⟩), (.q (.load none (.t 29)))⟩, ⟨(some 31), (some ⟨28, false⟩), (.q (.len 1 (.t 30)))⟩, ⟨(some 32), (some ⟨28, false⟩), (.q (.bin .gtr (.t 31) (.c (.int .i64 64))))⟩, ⟨(some 33), none, (.q (.pick (.t 28) (.c (.bool true)) (.t 32)))⟩, ⟨(some 23), none, (.q (.mov (.t 33)))⟩] [1, 2, 23])
      (.cond (.t 23)
       (.seq
        (.reg 4 [⟨none, none, (.store 1 (.t 2) (.c (.bool false)))⟩] [2])
        .ret)
       (.seq
        (.reg 5 [⟨(some 35), none, (.q (.faddr 6 (.t 1)))⟩, ⟨(some 36), none, (.q (.load none (.t 35)))⟩, ⟨(some 37), none, (.call 204 [(.t 36), (.c (.int .i64 32)), (.f 48)])⟩, ⟨(some 38), none, (.q (.not (.t 37)))⟩, ⟨(some 39), none, (.q (.mov (.t 38)))⟩, ⟨(some 40), (some ⟨39, false⟩), (.q (.faddr 9 (.t 1)))⟩, ⟨(some 41), (some ⟨39, false⟩), (.q (.load none (.t 40)))⟩, ⟨(some 42), (some ⟨39, false⟩), (.call 204 [(.t 41), (.c (.int .i64 32)), (.f 48)])⟩, ⟨(some 43), (some ⟨39, false⟩), (.q (.not (.t 42)))⟩, ⟨(some 44), none, (.q (.pick (.t 39) (.c (.bool true)) (.t 43)))⟩, ⟨(some 45), none, (.q (.mov (.t 44)))⟩, ⟨(some 46), (some ⟨45, false⟩), (.q (.faddr 14 (.t 1)))⟩, ⟨(some 47), (some ⟨45, false⟩), (.q (.load none (.t 46)))⟩, ⟨(some 48), (some ⟨45, false⟩), (.call 205 [(.t 47), (.c (.int .i64 32)), (.f 113)])⟩, ⟨(some 49), (some ⟨45, false⟩), (.q (.not (.t 48)))⟩, ⟨(some 50), none, (.q (.pick (.t 45) (.c (.bool true)) (.t 49)))⟩, ⟨(some 34), none, (.q (.mov (.t 50)))⟩] [1, 2, 34])
        (.cond (.t 34)
         (.seq
          (.reg 6 [⟨none, none, (.store 1 (.t 2) (.c (.bool false)))⟩] [2])
          .ret)
         .skip)))))))
  (.seq
   (.seq
    (.reg 7 [⟨(some 51), none, (.q (.faddr 14 (.t 1)))⟩, ⟨(some 52), none, (.q (.load none (.t 51)))⟩, ⟨(some 53), none, (.q (.len 0 (.t 52)))⟩, ⟨(some 54), none, (.q (.mov (.c (.int .i64 0))))⟩] [1, 2, 52, 53, 54])
    (.block 1
     (.loop
      (.seq
       (.reg 8 [⟨(some 55), none, (.q (.bin .lss (.t 54) (.t 53)))⟩] [1, 2, 52, 53, 54, 55])
       (.seq
        (.cond (.t 55)
         .skip
         (.exit 1))
        (.seq
         (.block 2
          (.seq
           (.reg 9 [⟨(some 56), none, (.q (.mov (.t 54)))⟩, ⟨(some 57), none, (.q (.iaddr 1 (.t 52) (.t 54)))⟩, ⟨(some 58), none, (.q (.load none (.t 57)))⟩, ⟨(some 3), none, (.q (.mov (.t 56)))⟩, ⟨(some 4), none, (.q (.mov (.t 58)))⟩] [1, 2, 3, 4, 52, 53, 54])
           (.seq
            (.reg 10 [⟨(some 59), none, (.q (.mov (.t 3)))⟩, ⟨(some 60), none, (.q (.bin .gtr (.t 59) (.c (.int .i64 0))))⟩, ⟨(some 61), none, (.q (.mov (.t 60)))⟩, ⟨(some 62), (some ⟨61, true⟩), (.q (.faddr 14 (.t 1)))⟩, ⟨(some 63), (some ⟨61, true⟩), (.q (.load none (.t 62)))⟩, ⟨(some 64), (some ⟨61, true⟩), (.q (.mov (.t 3)))⟩, ⟨(some 65), (some ⟨61, true⟩), (.q (.bin .sub (.t 64) (.c (.int .i64 1))))⟩, ⟨(some 66), (some ⟨61, true⟩), (.q (.iaddr 1 (.t 63) (.t 65)))⟩, ⟨(some 67), (some ⟨61, true⟩), (.q (.load none (.t 66)))⟩, ⟨(some 68), (some ⟨61, true⟩), (.q (.mov (.t 4)))⟩, ⟨(some 69), (some ⟨61, true⟩), (.q (.bin .geq (.t 67) (.t 68)))⟩, ⟨(some 70), none, (.q (.pick (.t 61) (.t 69) (.c (.bool false))))⟩] [1, 2, 52, 53, 54, 70])
            (.cond (.t 70)
            (.seq
            (.reg 11 [⟨none, none, (.store 1 (.t 2) (.c (.bool false)))⟩] [2])
            .ret)
            .skip))))
         (.reg 12 [⟨(some 71), none, (.q (.bin .add (.t 54) (.c (.int .i64 1))))⟩, ⟨(some 54), none, (.q (.mov (.t 71)))⟩] [1, 2, 52, 53, 54])))))))
   (.seq
    (.seq
     (.reg 13 [⟨(some 72), none, (.q (.load (some 15) (.t 1)))⟩, ⟨(some 73), none, (.call 206 [(.t 72)])⟩] [2, 73])
     (.block 3
      (.rfunc (.t 73) [74, 75]
       (.seq
        (.reg 14 [⟨(some 5), none, (.alloc [(.int .u8 0)])⟩, ⟨none, none, (.store 1 (.t 5) (.t 74))⟩] [2, 5, 75])
        (.reg 15 [⟨(some 6), none, (.q (.mov (.t 75)))⟩] [2, 5, 6]))
       (.block 4
        (.seq
         (.reg 16 [⟨(some 76), none, (.q (.mov (.t 6)))⟩, ⟨(some 77), none, (.q (.mkf 208 [] [(.t 5)]))⟩, ⟨(some 78), none, (.call 207 [(.t 76), (.c (.int .i64 32)), (.t 77)])⟩, ⟨(some 79), none, (.q (.not (.t 78)))⟩] [2, 79])
         (.cond (.t 79)
          (.seq
           (.reg 17 [⟨none, none, (.store 1 (.t 2) (.c (.bool false)))⟩] [])
           .ret)
          .skip))))))
    (.seq
     (.reg 18 [⟨none, none, (.store 1 (.t 2) (.c (.bool true)))⟩] [2])
     .ret)))))
theorem fok143 : FOK Tryz.prog 143 (80, ic143, [(.cell none 2)]) := .mk (pf := [1000001]) (an := [(0, [1, 2]), (1, [1, 2, 7]), (2, [2]), (3, [1, 2, 23]), (4, [2]), (5, [1, 2, 34]), (6, [2]), (7, [1, 2, 52, 53, 54]), (8, [1, 2, 52, 53, 54, 55]), (9, [1, 2, 3, 4, 52, 53, 54]), (10, [1, 2, 52, 53, 54, 70]), (11, [2]), (12, [1, 2, 52, 53, 54]), (13, [2, 73]), (14, [2, 5, 75]), (15, [2, 5, 6]), (16, [2, 79]), (18, [2])]) (by kernel_rfl) (fnOK_of Tryz.func143 (by kernel_rfl) (by kernel_rfl) (by kernel_rfl))
/-- slices.pdqsortCmpFunc[int] -/
def ic146 : IC :=
 (.seq
 (.reg 0 [oM 10 (cB true)] [0, 1, 2, 3, 4, 10])
 (.seq
 (.reg 1 [oM 11 (cB true)] [0, 1, 2, 3, 4, 10, 11])
 (.block 0
 (.loop
 (.block 1
 (.seq
 (.reg 2 [oM 21 2, oM 22 1, oQ 23 (.bin .sub 21 22), oM 12 23] [0, 1, 2, 3, 4, 10, 11, 12])
 (.seq
 (.seq
 (.reg 3 [oM 24 12, oQ 25 (.bin .leq 24 (cI 12))] [0, 1, 2, 3, 4, 10, 11, 12, 25])
 (.cond 25
 (.seq
 (.reg 4 [oM 26 0, oM 27 1, oM 28 2, oM 29 4, oK 30 (.call 210 [26, 27, 28, 29])] [])
 .ret)
 .skip))
 (.seq
 (.seq
 (.reg 5 [oM 31 3, oQ 32 (.bin .eql 31 (cI 0))] [0, 1, 2, 3, 4, 10, 11, 12, 32])
 (.cond 32
 (.seq
 (.reg 6 [oM 33 0, oM 34 1, oM 35 2, oM 36 4, oK 37 (.call 211 [33, 34, 35, 36])] [])
 .ret)
 .skip))
 (.seq
 (.seq
 (.reg 7 [oM 38 10, oQ 39 (.not 38)] [0, 1, 2, 3, 4, 10, 11, 12, 39])
 (.cond 39
 (.seq
 (.reg 8 [oM 40 0, oM 41 1, oM 42 2, oM 43 4, oK 44 (.call 212 [40, 41, 42, 43])] [0, 1, 2, 3, 4, 10, 11, 12])
 (.reg 9 [oM 45 3, oQ 46 (.bin .sub 45 (cI 1)), oM 3 46] [0, 1, 2, 3, 4, 10, 11, 12]))
 .skip))
 (.seq
 (.reg 10 [oM 48 0, oM 49 1, oM 50 2, oM 51 4, oK 52 (.call 213 [48, 49, 50, 51]), oM 47 52, oQ 53 (.ext 0 47), oQ 54 (.ext 1 47), oM 13 53, oM 14 54] [0, 1, 2, 3, 4, 10, 11, 12, 13, 14])
 (.seq
 (.seq
 (.reg 11 [oM 55 14, oQ 56 (.bin .eql 55 (cI 2))] [0, 1, 2, 3, 4, 10, 11, 12, 13, 14, 56])
 (.cond 56
 (.seq
 (.reg 12 [oM 57 0, oM 58 1, oM 59 2, oM 60 4, oK 61 (.call 214 [57, 58, 59, 60])] [0, 1, 2, 3, 4, 10, 11, 12, 13])
 (.seq
 (.reg 13 [oM 62 2, oQ 63 (.bin .sub 62 (cI 1)), oM 64 13, oM 65 1, oQ 66 (.bin .sub 64 65), oQ 67 (.bin .sub 63 66), oM 13 67] [0, 1, 2, 3, 4, 10, 11, 12, 13])
 (.reg 14 [oM 14 (cI 1)] [0, 1, 2, 3, 4, 10, 11, 12, 13, 14])))
 .skip))
 (.seq
 (.seq
 (.reg 15 [oM 68 10, oM 69 68, gQ 70 69 true (.mov 11), oQ 71 (.pick 69 70 (cB false)), oM 72 71, gQ 73 72 true (.mov 14), gQ 74 72 true (.bin .eql 73 (cI 1)), oQ 75 (.pick 72 74 (cB false))] [0, 1, 2, 3, 4, 10, 11, 12, 13, 75])
 (.cond 75
 (.seq
 (.reg 16 [oM 76 0, oM 77 1, oM 78 2, oM 79 4, oK 80 (.call 215 [76, 77, 78, 79])] [0, 1, 2, 3, 4, 10, 11, 12, 13, 80])
 (.cond 80
 .ret
 .skip))
 .skip))
 (.seq
 (.seq
 (.dreg 17 [oM 81 1, oQ 82 (.bin .gtr 81 (cI 0)), oM 83 82, gQ 84 83 true (.mov 4), gQ 85 83 true (.mov 0), gQ 86 83 true (.mov 1), gQ 87 83 true (.bin .sub 86 (cI 1)), gQ 88 83 true (.iaddr 1 85 87), gQ 89 83 true (.load none 88), gQ 90 83 true (.mov 0), gQ 91 83 true (.mov 13), gQ 92 83 true (.iaddr 1 90 91), gQ 93 83 true (.load none 92), gK 94 83 true (.callv 84 [89, 93]), gQ 95 83 true (.bin .lss 94 (cI 0)), gQ 96 83 true (.not 95), oQ 97 (.pick 83 96 (cB false))] false [0, 1, 2, 3, 4, 10, 11, 12, 13, 97])
 (.cond 97
 (.seq
 (.reg 18 [oM 98 0, oM 99 1, oM 100 2, oM 101 13, oM 102 4, oK 103 (.call 216 [98, 99, 100, 101, 102]), oM 15 103] [0, 2, 3, 4, 10, 11, 15])
 (.seq
 (.reg 19 [oM 104 15, oM 1 104] [0, 1, 2, 3, 4, 10, 11])
 (.exit 1)))
 .skip))
 (.seq
 (.reg 20 [oM 106 0, oM 107 1, oM 108 2, oM 109 13, oM 110 4, oK 111 (.call 217 [106, 107, 108, 109, 110]), oM 105 111, oQ 112 (.ext 0 105), oQ 113 (.ext 1 105), oM 16 112, oM 17 113] [0, 1, 2, 3, 4, 12, 16, 17])
 (.seq
 (.reg 21 [oM 114 17, oM 11 114] [0, 1, 2, 3, 4, 11, 12, 16])
 (.seq
 (.reg 22 [oM 115 16, oM 116 1, oQ 117 (.bin .sub 115 116), oM 118 2, oM 119 16, oQ 120 (.bin .sub 118 119), oM 18 117, oM 19 120] [0, 1, 2, 3, 4, 11, 12, 16, 18, 19])
 (.seq
 (.reg 23 [oM 121 12, oQ 122 (.bin .quo 121 (cI 8)), oM 20 122] [0, 1, 2, 3, 4, 11, 16, 18, 19, 20])
 (.seq
 (.reg 24 [oM 123 18, oM 124 19, oQ 125 (.bin .lss 123 124)] [0, 1, 2, 3, 4, 11, 16, 18, 19, 20, 125])
 (.cond 125
 (.seq
 (.reg 25 [oM 126 18, oM 127 20, oQ 128 (.bin .geq 126 127), oM 10 128] [0, 1, 2, 3, 4, 10, 11, 16])
 (.seq
 (.reg 26 [oM 129 0, oM 130 1, oM 131 16, oM 132 3, oM 133 4, oK 134 (.call 146 [129, 130, 131, 132, 133])] [0, 2, 3, 4, 10, 11, 16])
 (.reg 27 [oM 135 16, oQ 136 (.bin .add 135 (cI 1)), oM 1 136] [0, 1, 2, 3, 4, 10, 11])))
 (.seq
 (.reg 28 [oM 137 19, oM 138 20, oQ 139 (.bin .geq 137 138), oM 10 139] [0, 1, 2, 3, 4, 10, 11, 16])
 (.seq
 (.reg 29 [oM 140 0, oM 141 16, oQ 142 (.bin .add 141 (cI 1)), oM 143 2, oM 144 3, oM 145 4, oK 146 (.call 146 [140, 142, 143, 144, 145])] [0, 1, 3, 4, 10, 11, 16])
 (.reg 30 [oM 147 16, oM 2 147] [0, 1, 2, 3, 4, 10, 11]))))))))))))))))))))))
theorem fok146 : FOK Tryz.prog 146 (148, ic146, []) := fokA [] Tryz.func146 (by kernel_rfl) (by kernel_rfl) (by kernel_rfl) (by kernel_rfl)
/-- cmp.isNaN[int] -/
def ic147 : IC :=
 (.seq
 (.reg 0 [oM 2 (cB false)] [0])
 (.seq
 (.reg 1 [oM 3 0, oM 4 0, oQ 5 (.bin .neq 3 4), oM 2 5] [2])
 .ret))
theorem fok147 : FOK Tryz.prog 147 (6, ic147, [(.t 2)]) := fokA [] Tryz.func147 (by kernel_rfl) (by kernel_rfl) (by kernel_rfl) (by kernel_rfl)
/-- chandlery/shape.parts -/
def ic155 : IC :=
(.seq
 (.reg 0 [⟨(some 1), none, (.boxt (.t 0))⟩, ⟨(some 2), none, (.q (.mov (.c .nilfunc)))⟩] [1])
 (.seq
  (.reg 1 [⟨(some 3), none, (.alloc [.nilfunc])⟩] [1, 3])
  (.seq
   (.reg 2 [⟨(some 4), none, (.q (.mkf 220 [] [(.t 3)]))⟩, ⟨none, none, (.store 1 (.t 3) (.t 4))⟩] [1, 3])
   (.seq
    (.reg 3 [⟨(some 5), none, (.q (.mkf 221 [] [(.t 3), (.t 1)]))⟩, ⟨(some 2), none, (.q (.mov (.t 5)))⟩] [2])
    .ret))))
theorem fok155 : FOK Tryz.prog 155 (6, ic155, [(.t 2)]) := .mk (pf := [1000001]) (an := [(0, [1]), (1, [1, 3]), (2, [1, 3]), (3, [2])]) (by kernel_rfl) (fnOK_of Tryz.func155 (by kernel_rfl) (by kernel_rfl) (by kernel_rfl))
/-- slices.IndexFunc[[]chandlery/api.Dep,chandlery/api.Dep] -/
def ic156 : IC :=
(.seq
 (.reg 0 [⟨(some 4), none, (.q (.mov (.c (.int .i64 0))))⟩] [0, 1])
 (.seq
  (.seq
   (.reg 1 [⟨(some 6), none, (.q (.mov (.t 0)))⟩, ⟨(some 7), none, (.q (.len 0 (.t 6)))⟩, ⟨(some 8), none, (.q (.mov (.c (.int .i64 0))))⟩] [0, 1, 7, 8])
   (.block 0
    (.loop
     (.seq
      (.reg 2 [⟨(some 9), none, (.q (.bin .lss (.t 8) (.t 7)))⟩] [0, 1, 7, 8, 9])
      (.seq
       (.cond (.t 9)
        .skip
        (.exit 0))
       (.seq
        (.block 1
         (.seq
          (.reg 3 [⟨(some 10), none, (.q (.mov (.t 8)))⟩, ⟨(some 5), none, (.q (.mov (.t 10)))⟩] [0, 1, 5, 7, 8])
          (.seq
           (.reg 4 [⟨(some 11), none, (.q (.mov (.t 1)))⟩, ⟨(some 12), none, (.q (.mov (.t 0)))⟩, ⟨(some 13), none, (.q (.mov (.t 5)))⟩, ⟨(some 14), none, (.q (.iaddr 5 (.t 12) (.t 13)))⟩, ⟨(some 15), none, (.q (.load (some 5) (.t 14)))⟩, ⟨(some 16), none, (.callv (.t 11) [(.t 15)])⟩] [0, 1, 5, 7, 8, 16])
           (.cond (.t 16)
            (.seq
            (.reg 5 [⟨(some 17), none, (.q (.mov (.t 5)))⟩, ⟨(some 4), none, (.q (.mov (.t 17)))⟩] [4])
            .ret)
            .skip))))
        (.reg 6 [⟨(some 18), none, (.q (.bin .add (.t 8) (.c (.int .i64 1))))⟩, ⟨(some 8), none, (.q (.mov (.t 18)))⟩] [0, 1, 7, 8])))))))
  (.seq
   (.reg 7 [⟨(some 4), none, (.q (.mov (.c (.int .i64 (-1)))))⟩] [4])
   .ret)))
theorem fok156 : FOK Tryz.prog 156 (19, ic156, [(.t 4)]) := .mk (pf := []) (an := [(0, [0, 1]), (1, [0, 1, 7, 8]), (2, [0, 1, 7, 8, 9]), (3, [0, 1, 5, 7, 8]), (4, [0, 1, 5, 7, 8, 16]), (5, [4]), (6, [0, 1, 7, 8]), (7, [4])]) (by kernel_rfl) (fnOK_of Tryz.func156 (by kernel_rfl) (by kernel_rfl) (by kernel_rfl))
/-- chandlery/pkg.Provides$1 -/
def ic157 : IC :=
 (.seq
 (.reg 0 [oK 2 (.boxt 0), oM 3 (cB false)] [1, 2])
 (.seq
 (.reg 1 [oQ 4 (.load (some 5) 2), oQ 5 (.load (some 5) 1), oK 6 (.call 158 [4, 5]), oM 3 6] [3])
 .ret))
theorem fok157 : FOK Tryz.prog 157 (7, ic157, [(.t 3)]) := fokA [1000002] Tryz.func157 (by kernel_rfl) (by kernel_rfl) (by kernel_rfl) (by kernel_rfl)
/-- chandlery/pkg.meets -/
def ic158 : IC :=
 (.seq
 (.reg 0 [oK 2 (.boxt 0), oK 3 (.boxt 1), oM 4 (cB false)] [2, 3])
 (.seq
 (.reg 1 [oQ 5 (.faddr 0 2), oQ 6 (.load none 5), oQ 7 (.faddr 0 3), oQ 8 (.load none 7), oQ 9 (.bin .eql 6 8), oM 10 9, gQ 11 10 true (.load (some 5) 2), gQ 12 10 true (.load (some 5) 3), gK 13 10 true (.call 222 [11, 12]), oQ 14 (.pick 10 13 (cB false)), oM 4 14] [4])
 .ret))
theorem fok158 : FOK Tryz.prog 158 (15, ic158, [(.t 4)]) := fokA [1000002, 1000003] Tryz.func158 (by kernel_rfl) (by kernel_rfl) (by kernel_rfl) (by kernel_rfl)
/-- slices.Contains[[]string,string] -/
def ic159 : IC :=
 (.seq
 (.reg 0 [oM 4 (cB false)] [0, 1])
 (.seq
 (.reg 1 [oM 5 0, oM 6 1, oK 7 (.call 223 [5, 6]), oQ 8 (.bin .geq 7 (cI 0)), oM 4 8] [4])
 .ret))
theorem fok159 : FOK Tryz.prog 159 (9, ic159, [(.t 4)]) := fokA [] Tryz.func159 (by kernel_rfl) (by kernel_rfl) (by kernel_rfl) (by kernel_rfl)
/-- slices.IndexFunc[[]chandlery/api.Rich,chandlery/api.Rich] -/
def ic160 : IC :=
(.seq
 (.reg 0 [⟨(some 4), none, (.q (.mov (.c (.int .i64 0))))⟩] [0, 1])
 (.seq
  (.seq
   (.reg 1 [⟨(some 6), none, (.q (.mov (.t 0)))⟩, ⟨(some 7), none, (.q (.len 0 (.t 6)))⟩, ⟨(some 8), none, (.q (.mov (.c (.int .i64 0))))⟩] [0, 1, 7, 8])
   (.block 0
    (.loop
     (.seq
      (.reg 2 [⟨(some 9), none, (.q (.bin .lss (.t 8) (.t 7)))⟩] [0, 1, 7, 8, 9])
      (.seq
       (.cond (.t 9)
        .skip
        (.exit 0))
       (.seq
        (.block 1
         (.seq
          (.reg 3 [⟨(some 10), none, (.q (.mov (.t 8)))⟩, ⟨(some 5), none, (.q (.mov (.t 10)))⟩] [0, 1, 5, 7, 8])
          (.seq
           (.reg 4 [⟨(some 11), none, (.q (.mov (.t 1)))⟩, ⟨(some 12), none, (.q (.mov (.t 0)))⟩, ⟨(some 13), none, (.q (.mov (.t 5)))⟩, ⟨(some 14), none, (.q (.iaddr 7 (.t 12) (.t 13)))⟩, ⟨(some 15), none, (.q (.load (some 7) (.t 14)))⟩, ⟨(some 16), none, (.callv (.t 11) [(.t 15)])⟩] [0, 1, 5, 7, 8, 16])
           (.cond (.t 16)
            (.seq
            (.reg 5 [⟨(some 17), none, (.q (.mov (.t 5)))⟩, ⟨(some 4), none, (.q (.mov (.t 17)))⟩] [4])
            .ret)
            .skip))))
        (.reg 6 [⟨(some 18), none, (.q (.bin .add (.t 8) (.c (.int .i64 1))))⟩, ⟨(some 8), none, (.q (.mov (.t 18)))⟩] [0, 1, 7, 8])))))))
  (.seq
   (.reg 7 [⟨(some 4), none, (.q (.mov (.c (.int .i64 (-1)))))⟩] [4])
   .ret)))
theorem fok160 : FOK Tryz.prog 160 (19, ic160, [(.t 4)]) := .mk (pf := []) (an := [(0, [0, 1]), (1, [0, 1, 7, 8]), (2, [0, 1, 7, 8, 9]), (3, [0, 1, 5, 7, 8]), (4, [0, 1, 5, 7, 8, 16]), (5, [4]), (6, [0, 1, 7, 8]), (7, [4])]) (by kernel_rfl) (fnOK_of Tryz.func160 (by kernel_rfl) (by kernel_rfl) (by kernel_rfl))
/-- chandlery/rich.Whole -/
def ic161 : IC :=
 (.seq
 (.reg 0 [oK 1 (.boxt 0), oM 2 (cB false)] [1])
 (.seq
 (.reg 1 [oQ 7 (.load (some 7) 1), oK 8 (.call 224 [7]), oM 6 8, oQ 9 (.ext 0 6), oQ 10 (.ext 1 6), oQ 11 (.ext 2 6), oM 3 9, oM 4 10, oM 5 11] [3, 4, 5])
 (.seq
 (.reg 2 [oM 12 5, oM 13 12, gQ 14 13 true (.mov 3), gQ 15 13 true (.bin .leq 14 (cI 24)), oQ 16 (.pick 13 15 (cB false)), oM 17 16, gQ 18 17 true (.mov 4), gQ 19 17 true (.bin .leq 18 (cI 8)), oQ 20 (.pick 17 19 (cB false)), oM 2 20] [2])
 .ret)))
theorem fok161 : FOK Tryz.prog 161 (21, ic161, [(.t 2)]) := fokA [1000001] Tryz.func161 (by kernel_rfl) (by kernel_rfl) (by kernel_rfl) (by kernel_rfl)
/-- (*chandlery/truth.Truth).state -/
def ic162 : IC :=
 (.seq
 (.reg 0 [oK 4 (.alloc [.nilptr, .nilslice])] [0, 1, 4])
 (.seq
 (.reg 1 [oM 8 0, oM 9 0, oQ 10 (.nchk 9), oQ 11 (.faddr 1 10), oQ 12 (.load none 11), oK 13 (.mksl 1 [(.bool false)] 12), oQ 14 (.bld [.nilptr, .nilslice] [⟨0, ⟨1, 8⟩⟩, ⟨1, ⟨1, 13⟩⟩]), oK 5 (.alloc [.nilptr, .nilslice]), oN (.store 2 5 14)] [0, 1, 4, 5])
 (.seq
 (.seq
 (.reg 2 [oM 15 1, oQ 16 (.len 0 15), oM 17 (cI 0)] [0, 4, 5, 15, 16, 17])
 (.block 0
 (.loop
 (.seq
 (.reg 3 [oQ 18 (.bin .lss 17 16)] [0, 4, 5, 15, 16, 17, 18])
 (.seq
 (.cond 18
 .skip
 (.exit 0))
 (.seq
 (.block 1
 (.seq
 (.reg 4 [oQ 19 (.iaddr 1 15 17), oQ 20 (.load none 19), oM 7 20] [0, 4, 5, 7, 15, 16, 17])
 (.seq
 (.reg 5 [oM 21 7, oQ 22 (.bin .geq 21 (cI 0)), oM 23 22, gQ 24 23 true (.mov 7), gQ 25 23 true (.mov 0), gQ 26 23 true (.nchk 25), gQ 27 23 true (.faddr 1 26), gQ 28 23 true (.load none 27), gQ 29 23 true (.bin .lss 24 28), oQ 30 (.pick 23 29 (cB false))] [0, 4, 5, 7, 15, 16, 17, 30])
 (.cond 30
 (.reg 6 [oQ 31 (.faddr 1 5), oQ 32 (.load none 31), oM 33 7, oQ 34 (.iaddr 1 32 33), oN (.store 1 34 (cB true))] [0, 4, 5, 15, 16, 17])
 .skip))))
 (.reg 7 [oQ 35 (.bin .add 17 (cI 1)), oM 17 35] [0, 4, 5, 15, 16, 17])))))))
 (.seq
 (.reg 8 [oQ 36 (.load (some 2) 5), oN (.store 2 4 36)] [4])
 .ret))))
theorem fok162 : FOK Tryz.prog 162 (37, ic162, [(.cell (some 2) 4)]) := fokA [] Tryz.func162 (by kernel_rfl) (by kernel_rfl) (by kernel_rfl) (by kernel_rfl)
/-- (chandlery/truth.asked).is -/
def ic163 : IC :=
 (.seq
 (.reg 0 [oK 2 (.boxt 0), oK 3 (.boxt 1), oM 4 (cB false)] [2, 3])
 (.seq
 (.reg 1 [oQ 6 (.bld [.nilfunc, .nilfunc, .nilfunc, .nilfunc, .nilfunc, .nilfunc, .nilfunc, .nilfunc] [⟨1, ⟨1, (.f 225)⟩⟩, ⟨2, ⟨1, (.f 226)⟩⟩, ⟨3, ⟨1, (.f 227)⟩⟩, ⟨4, ⟨1, (.f 228)⟩⟩, ⟨5, ⟨1, (.f 229)⟩⟩, ⟨6, ⟨1, (.f 230)⟩⟩, ⟨7, ⟨1, (.f 231)⟩⟩]), oK 5 (.alloc [.nilfunc, .nilfunc, .nilfunc, .nilfunc, .nilfunc, .nilfunc, .nilfunc, .nilfunc]), oN (.store 8 5 6)] [2, 3, 5])
 (.seq
 (.dreg 2 [oQ 7 (.faddr 0 3), oQ 8 (.load none 7), oQ 9 (.aaddr 8 1 5 8), oQ 10 (.load none 9), oQ 11 (.load (some 2) 2), oQ 12 (.load (some 7) 3), oK 13 (.callv 10 [11, 12]), oM 4 13] false [4])
 .ret)))
theorem fok163 : FOK Tryz.prog 163 (14, ic163, [(.t 4)]) := fokA [1000002, 1000003] Tryz.func163 (by kernel_rfl) (by kernel_rfl) (by kernel_rfl) (by kernel_rfl)
/-- chandlery/prefer.first -/
def ic164 : IC :=
 (.seq
 (.reg 0 [oM 2 (cI 0)] [0])
 (.seq
 (.seq
 (.reg 1 [oM 6 0, oQ 7 (.len 0 6), oM 8 (cI 0)] [6, 7, 8])
 (.block 0
 (.loop
 (.seq
 (.reg 2 [oQ 9 (.bin .lss 8 7)] [6, 7, 8, 9])
 (.seq
 (.cond 9
 .skip
 (.exit 0))
 (.seq
 (.block 1
 (.seq
 (.reg 3 [oQ 10 (.iaddr 1 6 8), oQ 11 (.load none 10), oM 4 11] [4, 6, 7, 8])
 (.seq
 (.reg 4 [oM 12 4, oK 13 (.callv 12 []), oM 5 13] [5, 6, 7, 8])
 (.seq
 (.reg 5 [oM 14 5, oQ 15 (.bin .neq 14 (cI 0))] [5, 6, 7, 8, 15])
 (.cond 15
 (.seq
 (.reg 6 [oM 16 5, oM 2 16] [2])
 .ret)
 .skip)))))
 (.reg 7 [oQ 17 (.bin .add 8 (cI 1)), oM 8 17] [6, 7, 8])))))))
 (.seq
 (.reg 8 [oM 2 (cI 0)] [2])
 .ret)))
theorem fok164 : FOK Tryz.prog 164 (18, ic164, [(.t 2)]) := fokA [] Tryz.func164 (by kernel_rfl) (by kernel_rfl) (by kernel_rfl) (by kernel_rfl)
/-- (*chandlery/prefer.Order).compare$1 -/
def ic165 : IC :=
 (.seq
 (.reg 0 [oM 3 (cI 0)] [0, 1, 2])
 (.seq
 (.dreg 1 [oQ 4 (.load none 0), oQ 5 (.nchk 4), oQ 6 (.faddr 0 5), oQ 7 (.load none 6), oQ 8 (.load none 1), oK 9 (.pcall 13 [7, 8]), oK 10 (.pcall 105 [9]), oQ 11 (.load none 0), oQ 12 (.nchk 11), oQ 13 (.faddr 0 12), oQ 14 (.load none 13), oQ 15 (.load none 2), oK 16 (.pcall 13 [14, 15]), oK 17 (.pcall 105 [16]), oK 18 (.pcall 84 [10, 17]), oM 3 18] false [3])
 .ret))
theorem fok165 : FOK Tryz.prog 165 (19, ic165, [(.t 3)]) := fokA ([] ++ [13, 84, 105]) Tryz.func165 (by kernel_rfl) (by kernel_rfl) (by kernel_rfl) (by kernel_rfl)
/-- (*chandlery/prefer.Order).compare$2 -/
def ic166 : IC :=
 (.seq
 (.reg 0 [oM 3 (cI 0)] [0, 1, 2])
 (.seq
 (.dreg 1 [oQ 4 (.load none 0), oQ 5 (.nchk 4), oQ 6 (.faddr 2 5), oQ 7 (.load none 6), oQ 8 (.faddr 4 1), oQ 9 (.load none 8), oK 10 (.pcall 122 [7, 9]), oQ 11 (.load none 0), oQ 12 (.nchk 11), oQ 13 (.faddr 2 12), oQ 14 (.load none 13), oQ 15 (.faddr 4 2), oQ 16 (.load none 15), oK 17 (.pcall 122 [14, 16]), oK 18 (.pcall 84 [10, 17]), oM 3 18] false [3])
 .ret))
theorem fok166 : FOK Tryz.prog 166 (19, ic166, [(.t 3)]) := fokA ([] ++ [84, 122]) Tryz.func166 (by kernel_rfl) (by kernel_rfl) (by kernel_rfl) (by kernel_rfl)
/-- (*chandlery/prefer.Order).compare$3 -/
def ic167 : IC :=
 (.seq
 (.reg 0 [oM 3 (cI 0)] [0, 1, 2])
 (.seq
 (.dreg 1 [oQ 4 (.load none 0), oQ 5 (.nchk 4), oQ 6 (.faddr 1 5), oQ 7 (.load none 6), oQ 8 (.load none 1), oK 9 (.pcall 168 [7, 8]), oQ 10 (.load none 0), oQ 11 (.nchk 10), oQ 12 (.faddr 1 11), oQ 13 (.load none 12), oQ 14 (.load none 2), oK 15 (.pcall 168 [13, 14]), oK 16 (.pcall 84 [9, 15]), oM 3 16] false [3])
 .ret))
theorem fok167 : FOK Tryz.prog 167 (17, ic167, [(.t 3)]) := fokA ([] ++ [84, 168]) Tryz.func167 (by kernel_rfl) (by kernel_rfl) (by kernel_rfl) (by kernel_rfl)
/-- (*chandlery/pool.Pool).Priority -/
def ic168 : IC :=
(.seq
 (.reg 0 [⟨(some 4), none, (.q (.mov (.c (.int .i64 0))))⟩] [0, 1])
 (.seq
  (.seq
   (.reg 1 [⟨(some 5), none, (.q (.mov (.t 0)))⟩, ⟨(some 6), none, (.q (.isnil (.pointer 119) false (.t 5)))⟩, ⟨(some 7), none, (.q (.mov (.t 6)))⟩, ⟨(some 8), (some ⟨7, false⟩), (.q (.mov (.t 0)))⟩, ⟨(some 9), (some ⟨7, false⟩), (.q (.nchk (.t 8)))⟩, ⟨(some 10), (some ⟨7, false⟩), (.q (.faddr 0 (.t 9)))⟩, ⟨(some 11), (some ⟨7, false⟩), (.q (.load none (.t 10)))⟩, ⟨(some 12), (some ⟨7, false⟩), (.q (.mov (.t 1)))⟩, ⟨(some 13), (some ⟨7, false⟩), (.call 120 [(.t 11), (.t 12)])⟩, ⟨(some 14), (some ⟨7, false⟩), (.q (.not (.t 13)))⟩, ⟨(some 15), none, (.q (.pick (.t 7) (.c (.bool true)) (.t 14)))⟩] [0, 1, 15])
   (.cond (.t 15)
    (.seq
     (.reg 2 [⟨(some 4), none, (.q (.mov (.c (.int .i64 0))))⟩] [4])
     .ret)
    .skip))
  (.seq
   (.reg 3 [⟨(some 16), none, (.q (.mov (.t 0)))⟩, ⟨(some 17), none, (.q (.nchk (.t 16)))⟩, ⟨(some 18), none, (.q (.faddr 0 (.t 17)))⟩, ⟨(some 19), none, (.q (.load none (.t 18)))⟩, ⟨(some 20), none, (.q (.mov (.t 1)))⟩, ⟨(some 21), none, (.q (.iaddr 17 (.t 19) (.t 20)))⟩, ⟨(some 22), none, (.q (.faddr 16 (.t 21)))⟩, ⟨(some 23), none, (.q (.load none (.t 22)))⟩, ⟨(some 4), none, (.q (.mov (.t 23)))⟩] [4])
   .ret)))
theorem fok168 : FOK Tryz.prog 168 (24, ic168, [(.t 4)]) := .mk (pf := []) (an := [(0, [0, 1]), (1, [0, 1, 15]), (2, [4]), (3, [4])]) (by kernel_rfl) (fnOK_of Tryz.func168 (by kernel_rfl) (by kernel_rfl) (by kernel_rfl))
/-- (*chandlery/prefer.Order).compare$4 -/
def ic169 : IC :=
 (.seq
 (.reg 0 [oM 3 (cI 0)] [0, 1, 2])
 (.seq
 (.dreg 1 [oQ 4 (.load none 0), oQ 5 (.nchk 4), oQ 6 (.faddr 4 5), oQ 7 (.load none 6), oQ 8 (.load none 1), oQ 9 (.iaddr 1 7 8), oQ 10 (.load none 9), oK 11 (.pcall 105 [10]), oQ 12 (.load none 0), oQ 13 (.nchk 12), oQ 14 (.faddr 4 13), oQ 15 (.load none 14), oQ 16 (.load none 2), oQ 17 (.iaddr 1 15 16), oQ 18 (.load none 17), oK 19 (.pcall 105 [18]), oK 20 (.pcall 84 [11, 19]), oM 3 20] false [3])
 .ret))
theorem fok169 : FOK Tryz.prog 169 (21, ic169, [(.t 3)]) := fokA ([] ++ [84, 105]) Tryz.func169 (by kernel_rfl) (by kernel_rfl) (by kernel_rfl) (by kernel_rfl)
/-- (*chandlery/prefer.Order).compare$5 -/
def ic170 : IC :=
 (.seq
 (.reg 0 [oM 2 (cI 0)] [0, 1])
 (.seq
 (.reg 1 [oQ 3 (.faddr 1 0), oQ 4 (.load (some 3) 3), oQ 5 (.faddr 1 1), oQ 6 (.load (some 3) 5), oK 7 (.call 60 [4, 6]), oM 2 7] [2])
 .ret))
theorem fok170 : FOK Tryz.prog 170 (8, ic170, [(.t 2)]) := fokA [] Tryz.func170 (by kernel_rfl) (by kernel_rfl) (by kernel_rfl) (by kernel_rfl)
/-- (*chandlery/prefer.Order).compare$6 -/
def ic171 : IC :=
 (.seq
 (.reg 0 [oM 2 (cI 0)] [0, 1])
 (.seq
 (.reg 1 [oQ 3 (.load none 0), oQ 4 (.load none 1), oK 5 (.call 84 [3, 4]), oM 2 5] [2])
 .ret))
theorem fok171 : FOK Tryz.prog 171 (6, ic171, [(.t 2)]) := fokA [] Tryz.func171 (by kernel_rfl) (by kernel_rfl) (by kernel_rfl) (by kernel_rfl)
/-- (*chandlery/prefer.Order).ways$1 -/
def ic172 : IC :=
 (.seq
 (.reg 0 [oM 6 (cI 0)] [0, 1, 2, 3])
 (.seq
 (.seq
 (.reg 1 [oQ 10 (.load none 2), oQ 11 (.len 0 10), oM 12 (cI 0)] [0, 1, 3, 10, 11, 12])
 (.block 0
 (.loop
 (.seq
 (.reg 2 [oQ 13 (.bin .lss 12 11)] [0, 1, 3, 10, 11, 12, 13])
 (.seq
 (.cond 13
 .skip
 (.exit 0))
 (.seq
 (.block 1
 (.seq
 (.reg 3 [oQ 14 (.iaddr 1 10 12), oQ 15 (.load none 14), oM 8 15] [0, 1, 3, 8, 10, 11, 12])
 (.seq
 (.reg 4 [oM 16 8, oM 17 0, oM 18 1, oK 19 (.callv 16 [17, 18]), oM 9 19] [0, 1, 3, 9, 10, 11, 12])
 (.seq
 (.reg 5 [oM 20 9, oQ 21 (.bin .neq 20 (cI 0))] [0, 1, 3, 9, 10, 11, 12, 21])
 (.cond 21
 (.seq
 (.reg 6 [oM 22 9, oM 6 22] [6])
 .ret)
 .skip)))))
 (.reg 7 [oQ 23 (.bin .add 12 (cI 1)), oM 12 23] [0, 1, 3, 10, 11, 12])))))))
 (.seq
 (.reg 8 [oQ 24 (.load none 3), oM 25 0, oM 26 1, oK 27 (.call 100 [24, 25, 26]), oM 6 27] [6])
 .ret)))
theorem fok172 : FOK Tryz.prog 172 (28, ic172, [(.t 6)]) := fokA [] Tryz.func172 (by kernel_rfl) (by kernel_rfl) (by kernel_rfl) (by kernel_rfl)
/-- (*chandlery/prefer.Order).up$1 -/
def ic173 : IC :=
 (.seq
 (.reg 0 [oM 6 (cI 0)] [0, 1, 2, 3])
 (.seq
 (.dreg 1 [oQ 9 (.load none 2), oQ 10 (.nchk 9), oQ 11 (.faddr 3 10), oQ 12 (.load none 11), oM 13 0, oQ 14 (.iaddr 15 12 13), oQ 15 (.load (some 15) 14), oQ 16 (.ldt none 2), oQ 17 (.nchk 16), oQ 18 (.faddr 3 17), oQ 19 (.ldt none 18), oM 20 1, oQ 21 (.iaddr 15 19 20), oQ 22 (.ldt (some 15) 21), oK 7 (.alloc [(.str []), (zI 0), (.str []), (.str []), (zU 0), (.str []), .nilslice, .nilslice, .nilslice, .nilslice, .nilslice, .nilslice, .nilslice, .nilslice, .nilslice]), oK 8 (.alloc [(.str []), (zI 0), (.str []), (.str []), (zU 0), (.str []), .nilslice, .nilslice, .nilslice, .nilslice, .nilslice, .nilslice, .nilslice, .nilslice, .nilslice]), oN (.store 15 7 15), oN (.store 15 8 22)] false [2, 3, 7, 8])
 (.seq
 (.reg 2 [oQ 23 (.mkf 174 [] [7, 2, 3, 8]), oQ 24 (.mkf 175 [] [8, 7]), oK 25 (.bslt 1 2 [.nilfunc] [⟨0, ⟨1, 23⟩⟩, ⟨1, ⟨1, 24⟩⟩]), oK 26 (.call 164 [25]), oM 6 26] [6])
 .ret)))
theorem fok173 : FOK Tryz.prog 173 (27, ic173, [(.t 6)]) := fokA [1000016, 1000019, 1000022, 1000025] Tryz.func173 (by kernel_rfl) (by kernel_rfl) (by kernel_rfl) (by kernel_rfl)
/-- (*chandlery/prefer.Order).up$1$1 -/
def ic174 : IC :=
 (.seq
 (.reg 0 [oM 4 (cI 0)] [0, 1, 2, 3])
 (.seq
 (.dreg 1 [oQ 5 (.faddr 0 0), oQ 6 (.load none 5), oQ 7 (.load none 1), oQ 8 (.nchk 7), oQ 9 (.faddr 3 8), oQ 10 (.load none 9), oQ 11 (.load none 2), oQ 12 (.iaddr 15 10 11), oQ 13 (.faddr 0 12), oQ 14 (.load none 13), oQ 15 (.bin .eql 6 14), oK 16 (.pcall 105 [15]), oQ 17 (.faddr 0 3), oQ 18 (.load none 17), oQ 19 (.load none 1), oQ 20 (.nchk 19), oQ 21 (.faddr 3 20), oQ 22 (.load none 21), oQ 23 (.load none 2), oQ 24 (.iaddr 15 22 23), oQ 25 (.faddr 0 24), oQ 26 (.load none 25), oQ 27 (.bin .eql 18 26), oK 28 (.pcall 105 [27]), oK 29 (.pcall 84 [16, 28]), oM 4 29] false [4])
 .ret))
theorem fok174 : FOK Tryz.prog 174 (30, ic174, [(.t 4)]) := fokA ([] ++ [84, 105]) Tryz.func174 (by kernel_rfl) (by kernel_rfl) (by kernel_rfl) (by kernel_rfl)
/-- (*chandlery/prefer.Order).up$1$2 -/
def ic175 : IC :=
 (.seq
 (.reg 0 [oM 2 (cI 0)] [0, 1])
 (.seq
 (.reg 1 [oQ 3 (.faddr 1 0), oQ 4 (.load (some 3) 3), oQ 5 (.faddr 1 1), oQ 6 (.load (some 3) 5), oK 7 (.call 60 [4, 6]), oM 2 7] [2])
 .ret))
theorem fok175 : FOK Tryz.prog 175 (8, ic175, [(.t 2)]) := fokA [] Tryz.func175 (by kernel_rfl) (by kernel_rfl) (by kernel_rfl) (by kernel_rfl)
/-- strings.IndexByte -/
def ic176 : IC :=
(.seq
 (.reg 0 [⟨(some 4), none, (.q (.mov (.c (.int .i64 0))))⟩] [0, 1])
 (.seq
  (.reg 1 [⟨(some 5), none, (.q (.mov (.t 0)))⟩, ⟨(some 6), none, (.q (.mov (.t 1)))⟩, ⟨(some 7), none, (.call 232 [(.t 5), (.t 6)])⟩, ⟨(some 4), none, (.q (.mov (.t 7)))⟩] [4])
  .ret))
theorem fok176 : FOK Tryz.prog 176 (8, ic176, [(.t 4)]) := .mk (pf := []) (an := [(0, [0, 1]), (1, [4])]) (by kernel_rfl) (fnOK_of Tryz.func176 (by kernel_rfl) (by kernel_rfl) (by kernel_rfl))
end Go.Id.Tryz
