/- The compiled codes of functions, written by a program out of the given form. Conditions: none. -/
import Derived.Test.YtkmlpadmllhjpaaGreatDoorFwW
import Derived.Test.YtkmlpadmllhjpaaGreatDoorProg
set_option linter.all false
namespace Go.Id.Tryz
open Go Go.Id Go.Proofs
def allF0 : List Nat := List.range 310
/-- chandlery/chandlerylaw15.AskNames -/
def ic3 : IC :=
 (.seq
 (.reg 0 [oM 0 (cB false)] [])
 (.seq
 (.reg 1 [oM 1 (.c .nilptr)] [1])
 (.seq
 (.reg 2 [oK 41 (.pcall 7 [(.c .nilslice), (.c .nilslice)]), oK 42 (.call 6 [(.c .nilptr), 41]), oM 40 42, oQ 43 (.ext 0 40), oQ 44 (.ext 1 40), oM 2 43, oM 3 44] [1, 3])
 (.seq
 (.seq
 (.reg 3 [oK 45 (.call 8 []), oQ 46 (.not 45), oM 47 46, oQ 48 (.pick 47 (cB true) (cB false)), oM 49 48, oQ 50 (.pick 49 (cB true) (cB false)), oM 51 50, oQ 52 (.pick 51 (cB true) (cB false)), oM 53 52, oQ 54 (.pick 53 (cB true) (cB false)), oM 55 54, oQ 56 (.pick 55 (cB true) (cB false)), oM 57 56, gQ 58 57 false (.mov 3), gQ 59 57 false (.bin .neq 58 (cI 2)), oQ 60 (.pick 57 (cB true) 59), oM 61 60, gQ 62 61 false (.mov 1), gK 63 61 false (.call 9 [62]), gQ 64 61 false (.isnil (.pointer 119) true 63), oQ 65 (.pick 61 (cB true) 64), oM 66 65, gQ 67 66 false (.mov 1), gK 68 66 false (.call 10 [67]), gQ 69 66 false (.isnil (.pointer 160) true 68), oQ 70 (.pick 66 (cB true) 69), oM 71 70, gQ 72 71 false (.mov 1), gK 73 71 false (.call 12 [72]), gQ 74 71 false (.bld [(zU 0), (.bool false), .nilslice, .nilslice, (zI 0)] []), gK 75 71 false (.call 11 [73, 74]), gQ 76 71 false (.not 75), oQ 77 (.pick 71 (cB true) 76), oM 78 77, gQ 79 78 false (.mov 1), gK 80 78 false (.call 13 [79, (cI 0)]), oQ 81 (.pick 78 (cB true) 80), oM 82 81, gQ 83 82 false (.mov 1), gK 84 82 false (.call 14 [83, (cI 0), (cI 1)]), oQ 85 (.pick 82 (cB true) 84), oM 86 85, gQ 87 86 false (.mov 1), gK 88 86 false (.call 15 [87, (cI 0)]), oQ 89 (.pick 86 (cB true) 88), oM 90 89, gQ 91 90 false (.mov 1), gK 92 90 false (.call 16 [91, (cI 0)]), oQ 93 (.pick 90 (cB true) 92), oM 94 93, gQ 95 94 false (.mov 1), gK 96 94 false (.call 17 [95, (cI 0)]), gQ 97 94 false (.len 0 96), gQ 98 94 false (.mov 1), gK 99 94 false (.call 18 [98, (cI 0)]), gQ 100 94 false (.len 0 99), gQ 101 94 false (.bin .add 97 100), gQ 102 94 false (.mov 1), gK 103 94 false (.call 19 [102, (cI 0)]), gQ 104 94 false (.len 0 103), gQ 105 94 false (.bin .add 101 104), gQ 106 94 false (.bin .neq 105 (cI 0)), oQ 107 (.pick 94 (cB true) 106), oM 108 107, gQ 109 108 false (.mov 1), gK 110 108 false (.pcall 20 [109, (cI 0), (.c .nilslice)]), gQ 111 108 false (.not 110), oQ 112 (.pick 108 (cB true) 111)] [112])
 (.cond 112
 (.seq
 (.reg 4 [oM 0 (cB false)] [0])
 .ret)
 .skip))
 (.seq
 (.reg 5 [oK 113 (.call 21 [(.c (.str [97])), (.c (.str [50]))]), oK 114 (.call 21 [(.c (.str [99])), (.c (.str [49]))]), oK 115 (.bslt 15 2 [(.str []), (zI 0), (.str []), (.str []), (zU 0), (.str []), .nilslice, .nilslice, .nilslice, .nilslice, .nilslice, .nilslice, .nilslice, .nilslice, .nilslice] [⟨0, ⟨15, 113⟩⟩, ⟨15, ⟨15, 114⟩⟩]), oM 4 115] [4])
 (.seq
 (.reg 6 [oK 117 (.call 23 []), oM 118 4, oK 119 (.call 22 [117, 118]), oM 116 119, oQ 120 (.ext 0 116), oQ 121 (.ext 1 116), oM 5 120, oM 6 121] [4, 5])
 (.seq
 (.reg 7 [oK 122 (.pcall 24 [(.c (zU 1)), (.c (.str [97]))]), oK 123 (.bslt 6 1 [(zU 0), (.str []), (zU 0), (zI 0), (.str []), (.str [])] [⟨0, ⟨6, 122⟩⟩]), oM 7 123] [4, 5, 7])
 (.seq
 (.reg 8 [oQ 124 (.bld [(.str []), (zU 0), (zI 0), (.str []), (.str [])] [⟨0, ⟨1, (.c (.str [97]))⟩⟩, ⟨1, ⟨1, (.c (zU 7))⟩⟩]), oQ 125 (.bld [(zU 0), (.str []), (zU 0), (zI 0), (.str []), (.str [])] [⟨0, ⟨1, (.c (zU 1))⟩⟩, ⟨1, ⟨5, 124⟩⟩]), oK 8 (.alloc [(zU 0), (.str []), (zU 0), (zI 0), (.str []), (.str [])]), oN (.store 6 8 125)] [4, 5, 7, 8])
 (.seq
 (.seq
 (.dreg 9 [oQ 126 (.bld [(zU 0), (.bool false), .nilslice, .nilslice, (zI 0)] []), oQ 127 (.bld [(zU 0), (.bool false), .nilslice, .nilslice, (zI 0), (zI 0)] [⟨0, ⟨5, 126⟩⟩, ⟨5, ⟨1, (cI 1)⟩⟩]), oQ 128 (.bld [(zU 0), (.bool false), .nilslice, .nilslice, (zI 0)] [⟨0, ⟨1, (.c (zU 1))⟩⟩]), oQ 129 (.bld [(zU 0), (.bool false), .nilslice, .nilslice, (zI 0), (zI 0)] [⟨0, ⟨5, 128⟩⟩, ⟨5, ⟨1, (cI 1)⟩⟩]), oQ 130 (.bld [(zU 0), (.bool false), .nilslice, .nilslice, (zI 0)] [⟨0, ⟨1, (.c (zU 2))⟩⟩, ⟨4, ⟨1, (cI (-1))⟩⟩]), oQ 131 (.bld [(zU 0), (.bool false), .nilslice, .nilslice, (zI 0), (zI 0)] [⟨0, ⟨5, 130⟩⟩, ⟨5, ⟨1, (cI 1)⟩⟩]), oQ 132 (.bld [(zU 0), (.bool false), .nilslice, .nilslice, (zI 0)] [⟨0, ⟨1, (.c (zU 2))⟩⟩, ⟨4, ⟨1, (cI 1099511627777)⟩⟩]), oQ 133 (.bld [(zU 0), (.bool false), .nilslice, .nilslice, (zI 0), (zI 0)] [⟨0, ⟨5, 132⟩⟩, ⟨5, ⟨1, (cI 1)⟩⟩]), oK 134 (.bslt 6 65 [(zU 0), (.str []), (zU 0), (zI 0), (.str []), (.str [])] []), oK 135 (.pcall 7 [134, (.c .nilslice)]), oQ 136 (.bld [(zU 0), (.bool false), .nilslice, .nilslice, (zI 0), (zI 0)] [⟨0, ⟨5, 135⟩⟩, ⟨5, ⟨1, (cI 40)⟩⟩]), oK 137 (.bslt 2 65 [(zU 0), (zI 0)] []), oK 138 (.pcall 7 [(.c .nilslice), 137]), oQ 139 (.bld [(zU 0), (.bool false), .nilslice, .nilslice, (zI 0), (zI 0)] [⟨0, ⟨5, 138⟩⟩, ⟨5, ⟨1, (cI 40)⟩⟩]), oK 140 (.pcall 24 [(.c (zU 0)), (.c (.str [97]))]), oK 141 (.bslt 6 1 [(zU 0), (.str []), (zU 0), (zI 0), (.str []), (.str [])] [⟨0, ⟨6, 140⟩⟩]), oK 142 (.pcall 7 [141, (.c .nilslice)]), oQ 143 (.bld [(zU 0), (.bool false), .nilslice, .nilslice, (zI 0), (zI 0)] [⟨0, ⟨5, 142⟩⟩, ⟨5, ⟨1, (cI 4)⟩⟩]), oK 144 (.pcall 24 [(.c (zU 5)), (.c (.str [97]))]), oK 145 (.bslt 6 1 [(zU 0), (.str []), (zU 0), (zI 0), (.str []), (.str [])] [⟨0, ⟨6, 144⟩⟩]), oK 146 (.pcall 7 [145, (.c .nilslice)]), oQ 147 (.bld [(zU 0), (.bool false), .nilslice, .nilslice, (zI 0), (zI 0)] [⟨0, ⟨5, 146⟩⟩, ⟨5, ⟨1, (cI 4)⟩⟩]), oQ 148 (.load (some 6) 8), oK 149 (.bslt 6 1 [(zU 0), (.str []), (zU 0), (zI 0), (.str []), (.str [])] [⟨0, ⟨6, 148⟩⟩]), oK 150 (.pcall 7 [149, (.c .nilslice)]), oQ 151 (.bld [(zU 0), (.bool false), .nilslice, .nilslice, (zI 0), (zI 0)] [⟨0, ⟨5, 150⟩⟩, ⟨5, ⟨1, (cI 4)⟩⟩]), oK 152 (.pcall 24 [(.c (zU 1)), (.c (.str []))]), oK 153 (.bslt 6 1 [(zU 0), (.str []), (zU 0), (zI 0), (.str []), (.str [])] [⟨0, ⟨6, 152⟩⟩]), oK 154 (.pcall 7 [153, (.c .nilslice)]), oQ 155 (.bld [(zU 0), (.bool false), .nilslice, .nilslice, (zI 0), (zI 0)] [⟨0, ⟨5, 154⟩⟩, ⟨5, ⟨1, (cI 4)⟩⟩]), oM 156 7, oQ 157 (.bld [(zU 0), (zI 0)] [⟨0, ⟨1, (.c (zU 1))⟩⟩, ⟨1, ⟨1, (cI 1)⟩⟩]), oK 158 (.bslt 2 1 [(zU 0), (zI 0)] [⟨0, ⟨2, 157⟩⟩]), oK 159 (.pcall 7 [156, 158]), oQ 160 (.bld [(zU 0), (.bool false), .nilslice, .nilslice, (zI 0), (zI 0)] [⟨0, ⟨5, 159⟩⟩, ⟨5, ⟨1, (cI 5)⟩⟩]), oQ 161 (.bld [(zU 0), (zI 0)] [⟨0, ⟨1, (.c (zU 2))⟩⟩, ⟨1, ⟨1, (cI 2)⟩⟩]), oK 162 (.bslt 2 1 [(zU 0), (zI 0)] [⟨0, ⟨2, 161⟩⟩]), oK 163 (.pcall 7 [(.c .nilslice), 162]), oQ 164 (.bld [(zU 0), (.bool false), .nilslice, .nilslice, (zI 0), (zI 0)] [⟨0, ⟨5, 163⟩⟩, ⟨5, ⟨1, (cI 5)⟩⟩]), oQ 165 (.bld [(zU 0), (zI 0)] [⟨0, ⟨1, (.c (zU 5))⟩⟩]), oK 166 (.bslt 2 1 [(zU 0), (zI 0)] [⟨0, ⟨2, 165⟩⟩]), oK 167 (.pcall 7 [(.c .nilslice), 166]), oQ 168 (.bld [(zU 0), (.bool false), .nilslice, .nilslice, (zI 0), (zI 0)] [⟨0, ⟨5, 167⟩⟩, ⟨5, ⟨1, (cI 5)⟩⟩]), oQ 169 (.bld [(zU 0), (zI 0)] []), oK 170 (.bslt 2 1 [(zU 0), (zI 0)] [⟨0, ⟨2, 169⟩⟩]), oK 171 (.pcall 7 [(.c .nilslice), 170]), oQ 172 (.bld [(zU 0), (.bool false), .nilslice, .nilslice, (zI 0), (zI 0)] [⟨0, ⟨5, 171⟩⟩, ⟨5, ⟨1, (cI 5)⟩⟩]), oM 173 7, oQ 174 (.bld [(zU 0), (zI 0)] [⟨0, ⟨1, (.c (zU 1))⟩⟩, ⟨1, ⟨1, (cI (-1))⟩⟩]), oK 175 (.bslt 2 1 [(zU 0), (zI 0)] [⟨0, ⟨2, 174⟩⟩]), oK 176 (.pcall 7 [173, 175]), oQ 177 (.bld [(zU 0), (.bool false), .nilslice, .nilslice, (zI 0), (zI 0)] [⟨0, ⟨5, 176⟩⟩, ⟨5, ⟨1, (cI 5)⟩⟩]), oM 178 7, oQ 179 (.bld [(zU 0), (zI 0)] [⟨0, ⟨1, (.c (zU 1))⟩⟩]), oQ 180 (.bld [(zU 0), (zI 0)] [⟨0, ⟨1, (.c (zU 4))⟩⟩, ⟨1, ⟨1, (cI 1)⟩⟩]), oK 181 (.bslt 2 2 [(zU 0), (zI 0)] [⟨0, ⟨2, 179⟩⟩, ⟨2, ⟨2, 180⟩⟩]), oK 182 (.pcall 7 [178, 181]), oQ 183 (.bld [(zU 0), (.bool false), .nilslice, .nilslice, (zI 0), (zI 0)] [⟨0, ⟨5, 182⟩⟩, ⟨5, ⟨1, (cI 0)⟩⟩]), oK 184 (.bslt 6 16 [(zU 0), (.bool false), .nilslice, .nilslice, (zI 0), (zI 0)] [⟨0, ⟨6, 127⟩⟩, ⟨6, ⟨6, 129⟩⟩, ⟨12, ⟨6, 131⟩⟩, ⟨18, ⟨6, 133⟩⟩, ⟨24, ⟨6, 136⟩⟩, ⟨30, ⟨6, 139⟩⟩, ⟨36, ⟨6, 143⟩⟩, ⟨42, ⟨6, 147⟩⟩, ⟨48, ⟨6, 151⟩⟩, ⟨54, ⟨6, 155⟩⟩, ⟨60, ⟨6, 160⟩⟩, ⟨66, ⟨6, 164⟩⟩, ⟨72, ⟨6, 168⟩⟩, ⟨78, ⟨6, 172⟩⟩, ⟨84, ⟨6, 177⟩⟩, ⟨90, ⟨6, 183⟩⟩]), oQ 185 (.len 0 184), oM 186 (cI 0)] false [4, 5, 184, 185, 186])
 (.block 0
 (.loop
 (.seq
 (.reg 10 [oQ 187 (.bin .lss 186 185)] [4, 5, 184, 185, 186, 187])
 (.seq
 (.cond 187
 .skip
 (.exit 0))
 (.seq
 (.block 1
 (.seq
 (.reg 11 [oQ 188 (.iaddr 6 184 186), oQ 189 (.load (some 6) 188), oK 10 (.alloc [(zU 0), (.bool false), .nilslice, .nilslice, (zI 0), (zI 0)]), oN (.store 6 10 189)] [4, 5, 10, 184, 185, 186])
 (.seq
 (.reg 12 [oM 191 5, oQ 192 (.faddr 0 10), oQ 193 (.load (some 5) 192), oK 194 (.call 6 [191, 193]), oM 190 194, oQ 195 (.ext 0 190), oQ 196 (.ext 1 190), oM 11 195, oM 12 196] [4, 5, 10, 11, 12, 184, 185, 186])
 (.seq
 (.reg 13 [oM 197 12, oQ 198 (.faddr 5 10), oQ 199 (.load none 198), oQ 200 (.bin .neq 197 199), oM 201 200, gQ 202 201 false (.mov 11), gQ 203 201 false (.isnil (.pointer 103) false 202), gQ 204 201 false (.mov 12), gQ 205 201 false (.bin .neq 204 (cI 0)), gQ 206 201 false (.eqs [0] false true 203 205), oQ 207 (.pick 201 (cB true) 206)] [4, 5, 184, 185, 186, 207])
 (.cond 207
 (.seq
 (.reg 14 [oM 0 (cB false)] [0])
 .ret)
 .skip)))))
 (.reg 15 [oQ 208 (.bin .add 186 (cI 1)), oM 186 208] [4, 5, 184, 185, 186])))))))
 (.seq
 (.reg 16 [oK 209 (.pcall 24 [(.c (zU 1)), (.c (.str [98]))]), oK 210 (.pcall 24 [(.c (zU 2)), (.c (.str [97]))]), oK 211 (.pcall 24 [(.c (zU 3)), (.c (.str [97]))]), oK 212 (.pcall 24 [(.c (zU 4)), (.c (.str [97]))]), oK 213 (.pcall 24 [(.c (zU 4)), (.c (.str [99]))]), oK 214 (.pcall 24 [(.c (zU 3)), (.c (.str [122]))]), oK 215 (.bslt 6 6 [(zU 0), (.str []), (zU 0), (zI 0), (.str []), (.str [])] [⟨0, ⟨6, 209⟩⟩, ⟨6, ⟨6, 210⟩⟩, ⟨12, ⟨6, 211⟩⟩, ⟨18, ⟨6, 212⟩⟩, ⟨24, ⟨6, 213⟩⟩, ⟨30, ⟨6, 214⟩⟩]), oM 13 215] [4, 13])
 (.seq
 (.reg 17 [oK 217 (.call 23 []), oM 218 4, oM 219 13, oQ 220 (.bld [(zU 0), (zI 0)] [⟨0, ⟨1, (.c (zU 1))⟩⟩, ⟨1, ⟨1, (cI 1)⟩⟩]), oK 221 (.bslt 2 1 [(zU 0), (zI 0)] [⟨0, ⟨2, 220⟩⟩]), oK 222 (.pcall 7 [219, 221]), oK 223 (.call 25 [217, 218, 222]), oM 216 223, oQ 224 (.ext 0 216), oQ 225 (.ext 1 216), oQ 226 (.ext 2 216), oM 14 224, oM 15 225, oM 16 226] [4, 14, 16])
 (.seq
 (.seq
 (.reg 18 [oM 227 16, oQ 228 (.not 227), oM 229 228, gQ 230 229 false (.mov 14), gK 231 229 false (.call 19 [230, (cI 0)]), gK 232 229 false (.bslt 1 1 [(zI 0)] [⟨0, ⟨1, (cI 4)⟩⟩]), gK 233 229 false (.call 26 [231, 232]), gQ 234 229 false (.not 233), oQ 235 (.pick 229 (cB true) 234), oM 236 235, gQ 237 236 false (.mov 14), gK 238 236 false (.call 19 [237, (cI 1)]), gK 239 236 false (.bslt 1 3 [(zI 0)] [⟨0, ⟨1, (cI 0)⟩⟩, ⟨1, ⟨1, (cI 2)⟩⟩, ⟨2, ⟨1, (cI 3)⟩⟩]), gK 240 236 false (.call 26 [238, 239]), gQ 241 236 false (.not 240), oQ 242 (.pick 236 (cB true) 241), oM 243 242, gQ 244 243 false (.mov 14), gK 245 243 false (.call 19 [244, (cI 2)]), gK 246 243 false (.bslt 1 1 [(zI 0)] [⟨0, ⟨1, (cI 0)⟩⟩]), gK 247 243 false (.call 26 [245, 246]), gQ 248 243 false (.not 247), oQ 249 (.pick 243 (cB true) 248), oM 250 249, gQ 251 250 false (.mov 14), gK 252 250 false (.call 19 [251, (cI 4)]), gK 253 250 false (.bslt 1 1 [(zI 0)] [⟨0, ⟨1, (cI 1)⟩⟩]), gK 254 250 false (.call 26 [252, 253]), gQ 255 250 false (.not 254), oQ 256 (.pick 250 (cB true) 255), oM 257 256, gQ 258 257 false (.mov 14), gK 259 257 false (.call 19 [258, (cI 6)]), gK 260 257 false (.call 26 [259, (.c .nilslice)]), gQ 261 257 false (.not 260), oQ 262 (.pick 257 (cB true) 261), oM 263 262, gQ 264 263 false (.mov 14), gK 265 263 false (.call 19 [264, (cI (-1))]), gK 266 263 false (.call 26 [265, (.c .nilslice)]), gQ 267 263 false (.not 266), oQ 268 (.pick 263 (cB true) 267), oM 269 268, gQ 270 269 false (.mov 14), gK 271 269 false (.call 15 [270, (cI 1)]), gQ 272 269 false (.not 271), oQ 273 (.pick 269 (cB true) 272), oM 274 273, gQ 275 274 false (.mov 14), gK 276 274 false (.call 15 [275, (cI 0)]), oQ 277 (.pick 274 (cB true) 276), oM 278 277, gQ 279 278 false (.mov 14), gK 280 278 false (.call 16 [279, (cI 0)]), oQ 281 (.pick 278 (cB true) 280), oM 282 281, gQ 283 282 false (.mov 14), gK 284 282 false (.call 17 [283, (cI 0)]), gK 285 282 false (.bslt 1 4 [(zI 0)] [⟨0, ⟨1, (cI 0)⟩⟩, ⟨1, ⟨1, (cI 2)⟩⟩, ⟨2, ⟨1, (cI 3)⟩⟩, ⟨3, ⟨1, (cI 4)⟩⟩]), gK 286 282 false (.call 26 [284, 285]), gQ 287 282 false (.not 286), oQ 288 (.pick 282 (cB true) 287), oM 289 288, gQ 290 289 false (.mov 14), gK 291 289 false (.call 18 [290, (cI 0)]), gK 292 289 false (.bslt 1 3 [(zI 0)] [⟨0, ⟨1, (cI 2)⟩⟩, ⟨1, ⟨1, (cI 3)⟩⟩, ⟨2, ⟨1, (cI 4)⟩⟩]), gK 293 289 false (.call 26 [291, 292]), gQ 294 289 false (.not 293), oQ 295 (.pick 289 (cB true) 294), oM 296 295, gQ 297 296 false (.mov 14), gK 298 296 false (.call 18 [297, (cI 1)]), gK 299 296 false (.call 26 [298, (.c .nilslice)]), gQ 300 296 false (.not 299), oQ 301 (.pick 296 (cB true) 300), oM 302 301, gQ 303 302 false (.mov 14), gK 304 302 false (.call 17 [303, (cI 1)]), gK 305 302 false (.bslt 1 1 [(zI 0)] [⟨0, ⟨1, (cI 1)⟩⟩]), gK 306 302 false (.call 26 [304, 305]), gQ 307 302 false (.not 306), oQ 308 (.pick 302 (cB true) 307), oM 309 308, gQ 310 309 false (.mov 14), gK 311 309 false (.call 17 [310, (cI 2)]), gK 312 309 false (.call 26 [311, (.c .nilslice)]), gQ 313 309 false (.not 312), oQ 314 (.pick 309 (cB true) 313)] [4, 14, 314])
 (.cond 314
 (.seq
 (.reg 19 [oM 0 (cB false)] [0])
 .ret)
 .skip))
 (.seq
 (.seq
 (.reg 20 [oQ 315 (.bld [(zI 0), .nilslice, (.bool false)] [⟨0, ⟨1, (cI 0)⟩⟩, ⟨1, ⟨1, (.c .nilslice)⟩⟩, ⟨2, ⟨1, (cB false)⟩⟩]), oK 316 (.bslt 1 3 [(zI 0)] [⟨0, ⟨1, (cI 4)⟩⟩, ⟨1, ⟨1, (cI 4)⟩⟩, ⟨2, ⟨1, (cI 9)⟩⟩]), oQ 317 (.bld [(zI 0), .nilslice, (.bool false)] [⟨0, ⟨1, (cI 0)⟩⟩, ⟨1, ⟨1, 316⟩⟩, ⟨2, ⟨1, (cB true)⟩⟩]), oQ 318 (.bld [(zI 0), .nilslice, (.bool false)] [⟨0, ⟨1, (cI 1)⟩⟩, ⟨1, ⟨1, (.c .nilslice)⟩⟩, ⟨2, ⟨1, (cB true)⟩⟩]), oK 319 (.bslt 1 1 [(zI 0)] [⟨0, ⟨1, (cI 3)⟩⟩]), oQ 320 (.bld [(zI 0), .nilslice, (.bool false)] [⟨0, ⟨1, (cI 1)⟩⟩, ⟨1, ⟨1, 319⟩⟩, ⟨2, ⟨1, (cB false)⟩⟩]), oK 321 (.bslt 1 2 [(zI 0)] [⟨0, ⟨1, (cI 1)⟩⟩, ⟨1, ⟨1, (cI 4)⟩⟩]), oQ 322 (.bld [(zI 0), .nilslice, (.bool false)] [⟨0, ⟨1, (cI 1)⟩⟩, ⟨1, ⟨1, 321⟩⟩, ⟨2, ⟨1, (cB true)⟩⟩]), oQ 323 (.bld [(zI 0), .nilslice, (.bool false)] [⟨0, ⟨1, (cI 2)⟩⟩, ⟨1, ⟨1, (.c .nilslice)⟩⟩, ⟨2, ⟨1, (cB false)⟩⟩]), oK 324 (.bslt 1 1 [(zI 0)] [⟨0, ⟨1, (cI 0)⟩⟩]), oQ 325 (.bld [(zI 0), .nilslice, (.bool false)] [⟨0, ⟨1, (cI 2)⟩⟩, ⟨1, ⟨1, 324⟩⟩, ⟨2, ⟨1, (cB true)⟩⟩]), oK 326 (.bslt 1 1 [(zI 0)] [⟨0, ⟨1, (cI 4)⟩⟩]), oQ 327 (.bld [(zI 0), .nilslice, (.bool false)] [⟨0, ⟨1, (cI 2)⟩⟩, ⟨1, ⟨1, 326⟩⟩, ⟨2, ⟨1, (cB true)⟩⟩]), oK 328 (.bslt 1 1 [(zI 0)] [⟨0, ⟨1, (cI 0)⟩⟩]), oQ 329 (.bld [(zI 0), .nilslice, (.bool false)] [⟨0, ⟨1, (cI 3)⟩⟩, ⟨1, ⟨1, 328⟩⟩, ⟨2, ⟨1, (cB false)⟩⟩]), oK 330 (.bslt 1 1 [(zI 0)] [⟨0, ⟨1, (cI 2)⟩⟩]), oQ 331 (.bld [(zI 0), .nilslice, (.bool false)] [⟨0, ⟨1, (cI 3)⟩⟩, ⟨1, ⟨1, 330⟩⟩, ⟨2, ⟨1, (cB true)⟩⟩]), oQ 332 (.bld [(zI 0), .nilslice, (.bool false)] [⟨0, ⟨1, (cI 4)⟩⟩, ⟨1, ⟨1, (.c .nilslice)⟩⟩, ⟨2, ⟨1, (cB true)⟩⟩]), oQ 333 (.bld [(zI 0), .nilslice, (.bool false)] [⟨0, ⟨1, (cI 5)⟩⟩, ⟨1, ⟨1, (.c .nilslice)⟩⟩, ⟨2, ⟨1, (cB true)⟩⟩]), oQ 334 (.bld [(zI 0), .nilslice, (.bool false)] [⟨0, ⟨1, (cI 6)⟩⟩, ⟨1, ⟨1, (.c .nilslice)⟩⟩, ⟨2, ⟨1, (cB true)⟩⟩]), oQ 335 (.bld [(zI 0), .nilslice, (.bool false)] [⟨0, ⟨1, (cI (-1))⟩⟩, ⟨1, ⟨1, (.c .nilslice)⟩⟩, ⟨2, ⟨1, (cB true)⟩⟩]), oK 336 (.bslt 3 14 [(zI 0), .nilslice, (.bool false)] [⟨0, ⟨3, 315⟩⟩, ⟨3, ⟨3, 317⟩⟩, ⟨6, ⟨3, 318⟩⟩, ⟨9, ⟨3, 320⟩⟩, ⟨12, ⟨3, 322⟩⟩, ⟨15, ⟨3, 323⟩⟩, ⟨18, ⟨3, 325⟩⟩, ⟨21, ⟨3, 327⟩⟩, ⟨24, ⟨3, 329⟩⟩, ⟨27, ⟨3, 331⟩⟩, ⟨30, ⟨3, 332⟩⟩, ⟨33, ⟨3, 333⟩⟩, ⟨36, ⟨3, 334⟩⟩, ⟨39, ⟨3, 335⟩⟩]), oQ 337 (.len 0 336), oM 338 (cI 0)] [4, 14, 336, 337, 338])
 (.block 2
 (.loop
 (.seq
 (.reg 21 [oQ 339 (.bin .lss 338 337)] [4, 14, 336, 337, 338, 339])
 (.seq
 (.cond 339
 .skip
 (.exit 2))
 (.seq
 (.block 3
 (.seq
 (.reg 22 [oQ 340 (.iaddr 3 336 338), oQ 341 (.load (some 3) 340), oK 18 (.alloc [(zI 0), .nilslice, (.bool false)]), oN (.store 3 18 341)] [4, 14, 18, 336, 337, 338])
 (.seq
 (.dreg 23 [oM 342 14, oQ 343 (.faddr 0 18), oQ 344 (.load none 343), oQ 345 (.faddr 1 18), oQ 346 (.load none 345), oK 347 (.pcall 20 [342, 344, 346]), oQ 348 (.faddr 2 18), oQ 349 (.load none 348), oQ 350 (.eqs [0] false true 347 349)] false [4, 14, 336, 337, 338, 350])
 (.cond 350
 (.seq
 (.reg 24 [oM 0 (cB false)] [0])
 .ret)
 .skip))))
 (.reg 25 [oQ 351 (.bin .add 338 (cI 1)), oM 338 351] [4, 14, 336, 337, 338])))))))
 (.seq
 (.reg 26 [oK 353 (.call 23 []), oM 354 4, oK 355 (.pcall 24 [(.c (zU 2)), (.c (.str [97]))]), oK 356 (.bslt 6 1 [(zU 0), (.str []), (zU 0), (zI 0), (.str []), (.str [])] [⟨0, ⟨6, 355⟩⟩]), oQ 357 (.bld [(zU 0), (zI 0)] [⟨0, ⟨1, (.c (zU 2))⟩⟩, ⟨1, ⟨1, (cI 1)⟩⟩]), oK 358 (.bslt 2 1 [(zU 0), (zI 0)] [⟨0, ⟨2, 357⟩⟩]), oK 359 (.pcall 7 [356, 358]), oK 360 (.call 25 [353, 354, 359]), oM 352 360, oQ 361 (.ext 0 352), oQ 362 (.ext 1 352), oQ 363 (.ext 2 352), oM 19 361, oM 20 362, oM 21 363] [4, 19, 21])
 (.seq
 (.seq
 (.reg 27 [oM 364 21, oQ 365 (.not 364), oM 366 365, gQ 367 366 false (.mov 19), gK 368 366 false (.call 16 [367, (cI 0)]), gQ 369 366 false (.not 368), oQ 370 (.pick 366 (cB true) 369), oM 371 370, gQ 372 371 false (.mov 19), gK 373 371 false (.call 16 [372, (cI 1)]), gQ 374 371 false (.not 373), oQ 375 (.pick 371 (cB true) 374), oM 376 375, gQ 377 376 false (.mov 19), gK 378 376 false (.call 16 [377, (cI 2)]), oQ 379 (.pick 376 (cB true) 378), oM 380 379, gQ 381 380 false (.mov 19), gK 382 380 false (.call 16 [381, (cI (-1))]), oQ 383 (.pick 380 (cB true) 382), oM 384 383, gQ 385 384 false (.mov 19), gK 386 384 false (.call 17 [385, (cI 0)]), gK 387 384 false (.bslt 1 3 [(zI 0)] [⟨0, ⟨1, (cI 0)⟩⟩, ⟨1, ⟨1, (cI 3)⟩⟩, ⟨2, ⟨1, (cI 4)⟩⟩]), gK 388 384 false (.call 26 [386, 387]), gQ 389 384 false (.not 388), oQ 390 (.pick 384 (cB true) 389)] [4, 390])
 (.cond 390
 (.seq
 (.reg 28 [oM 0 (cB false)] [0])
 .ret)
 .skip))
 (.seq
 (.reg 29 [oK 391 (.call 21 [(.c (.str [99])), (.c (.str [50]))]), oK 392 (.call 21 [(.c (.str [99])), (.c (.str [50]))]), oK 393 (.call 21 [(.c (.str [99])), (.c (.str [50]))]), oK 22 (.alloc [(.str []), (zI 0), (.str []), (.str []), (zU 0), (.str []), .nilslice, .nilslice, .nilslice, .nilslice, .nilslice, .nilslice, .nilslice, .nilslice, .nilslice]), oK 23 (.alloc [(.str []), (zI 0), (.str []), (.str []), (zU 0), (.str []), .nilslice, .nilslice, .nilslice, .nilslice, .nilslice, .nilslice, .nilslice, .nilslice, .nilslice]), oK 24 (.alloc [(.str []), (zI 0), (.str []), (.str []), (zU 0), (.str []), .nilslice, .nilslice, .nilslice, .nilslice, .nilslice, .nilslice, .nilslice, .nilslice, .nilslice]), oN (.store 15 22 391), oN (.store 15 23 392), oN (.store 15 24 393)] [4, 22, 23, 24])
 (.seq
 (.reg 30 [oQ 394 (.faddr 5 22), oN (.store 1 394 (.c (.str [118])))] [4, 22, 23, 24])
 (.seq
 (.reg 31 [oQ 395 (.faddr 4 23), oN (.store 1 395 (.c (zU 3)))] [4, 22, 23, 24])
 (.seq
 (.reg 32 [oQ 396 (.faddr 4 24), oN (.store 1 396 (.c (zU 1)))] [4, 22, 23, 24])
 (.seq
 (.reg 33 [oQ 397 (.load (some 15) 22), oQ 398 (.load (some 15) 23), oQ 399 (.load (some 15) 24), oK 400 (.bslt 15 3 [(.str []), (zI 0), (.str []), (.str []), (zU 0), (.str []), .nilslice, .nilslice, .nilslice, .nilslice, .nilslice, .nilslice, .nilslice, .nilslice, .nilslice] [⟨0, ⟨15, 397⟩⟩, ⟨15, ⟨15, 398⟩⟩, ⟨30, ⟨15, 399⟩⟩]), oQ 401 (.bld [(zI 0), .nilslice] [⟨1, ⟨1, 400⟩⟩]), oK 402 (.bslt 2 1 [(zI 0), .nilslice] [⟨0, ⟨2, 401⟩⟩]), oM 25 402] [4, 25])
 (.seq
 (.reg 34 [oM 404 25, oM 405 4, oK 406 (.pcall 7 [(.c .nilslice), (.c .nilslice)]), oK 407 (.call 25 [404, 405, 406]), oM 403 407, oQ 408 (.ext 0 403), oQ 409 (.ext 1 403), oQ 410 (.ext 2 403), oM 26 408, oM 27 409, oM 28 410] [4, 25, 26, 28])
 (.seq
 (.reg 35 [oK 411 (.pcall 7 [(.c .nilslice), (.c .nilslice)]), oK 29 (.alloc [(zU 0), (.bool false), .nilslice, .nilslice, (zI 0)]), oN (.store 5 29 411)] [4, 25, 26, 28, 29])
 (.seq
 (.reg 36 [oQ 412 (.faddr 1 29), oN (.store 1 412 (cB true))] [4, 25, 26, 28, 29])
 (.seq
 (.reg 37 [oM 414 25, oM 415 4, oQ 416 (.load (some 5) 29), oK 417 (.call 25 [414, 415, 416]), oM 413 417, oQ 418 (.ext 0 413), oQ 419 (.ext 1 413), oQ 420 (.ext 2 413), oM 30 418, oM 31 419, oM 32 420] [4, 25, 26, 28, 30, 32])
 (.seq
 (.reg 38 [oM 422 25, oM 423 4, oQ 424 (.bld [(zU 0), (zI 0)] [⟨0, ⟨1, (.c (zU 4))⟩⟩, ⟨1, ⟨1, (cI 1)⟩⟩]), oK 425 (.bslt 2 1 [(zU 0), (zI 0)] [⟨0, ⟨2, 424⟩⟩]), oK 426 (.pcall 7 [(.c .nilslice), 425]), oK 427 (.call 25 [422, 423, 426]), oM 421 427, oQ 428 (.ext 0 421), oQ 429 (.ext 1 421), oQ 430 (.ext 2 421), oM 33 428, oM 34 429, oM 35 430] [4, 25, 26, 28, 30, 32, 33, 35])
 (.seq
 (.reg 39 [oK 431 (.pcall 7 [(.c .nilslice), (.c .nilslice)]), oK 36 (.alloc [(zU 0), (.bool false), .nilslice, .nilslice, (zI 0)]), oN (.store 5 36 431)] [4, 25, 26, 28, 30, 32, 33, 35, 36])
 (.seq
 (.reg 40 [oQ 432 (.faddr 0 36), oN (.store 1 432 (.c (zU 4)))] [4, 25, 26, 28, 30, 32, 33, 35, 36])
 (.seq
 (.reg 41 [oM 434 25, oM 435 4, oQ 436 (.load (some 5) 36), oK 437 (.call 25 [434, 435, 436]), oM 433 437, oQ 438 (.ext 0 433), oQ 439 (.ext 1 433), oQ 440 (.ext 2 433), oM 37 438, oM 38 439, oM 39 440] [26, 28, 30, 32, 33, 35, 37, 39])
 (.seq
 (.reg 42 [oM 441 28, oM 442 441, gQ 443 442 true (.mov 32), oQ 444 (.pick 442 443 (cB false)), oM 445 444, gQ 446 445 true (.mov 35), oQ 447 (.pick 445 446 (cB false)), oM 448 447, gQ 449 448 true (.mov 39), oQ 450 (.pick 448 449 (cB false)), oM 451 450, gQ 452 451 true (.mov 26), gK 453 451 true (.call 17 [452, (cI 1)]), gK 454 451 true (.bslt 1 2 [(zI 0)] [⟨0, ⟨1, (cI 1)⟩⟩, ⟨1, ⟨1, (cI 4)⟩⟩]), gK 455 451 true (.call 26 [453, 454]), oQ 456 (.pick 451 455 (cB false)), oM 457 456, gQ 458 457 true (.mov 30), gK 459 457 true (.call 17 [458, (cI 1)]), gK 460 457 true (.bslt 1 3 [(zI 0)] [⟨0, ⟨1, (cI 1)⟩⟩, ⟨1, ⟨1, (cI 2)⟩⟩, ⟨2, ⟨1, (cI 4)⟩⟩]), gK 461 457 true (.call 26 [459, 460]), oQ 462 (.pick 457 461 (cB false)), oM 463 462, gQ 464 463 true (.mov 33), gK 465 463 true (.call 17 [464, (cI 1)]), gK 466 463 true (.bslt 1 3 [(zI 0)] [⟨0, ⟨1, (cI 1)⟩⟩, ⟨1, ⟨1, (cI 3)⟩⟩, ⟨2, ⟨1, (cI 4)⟩⟩]), gK 467 463 true (.call 26 [465, 466]), oQ 468 (.pick 463 467 (cB false)), oM 469 468, gQ 470 469 true (.mov 37), gK 471 469 true (.call 13 [470, (cI 4)]), oQ 472 (.pick 469 471 (cB false)), oM 473 472, gQ 474 473 true (.mov 37), gK 475 473 true (.call 13 [474, (cI 2)]), gQ 476 473 true (.not 475), oQ 477 (.pick 473 476 (cB false)), oM 478 477, gQ 479 478 true (.mov 37), gK 480 478 true (.call 18 [479, (cI 1)]), gK 481 478 true (.bslt 1 1 [(zI 0)] [⟨0, ⟨1, (cI 4)⟩⟩]), gK 482 478 true (.call 26 [480, 481]), oQ 483 (.pick 478 482 (cB false)), oM 484 483, gQ 485 484 true (.mov 26), gK 486 484 true (.call 13 [485, (cI (-1))]), gQ 487 484 true (.not 486), oQ 488 (.pick 484 487 (cB false)), oM 489 488, gQ 490 489 true (.mov 26), gK 491 489 true (.call 13 [490, (cI 5)]), gQ 492 489 true (.not 491), oQ 493 (.pick 489 492 (cB false)), oM 494 493, gQ 495 494 true (.mov 26), gK 496 494 true (.call 14 [495, (cI 1), (cI 1)]), gQ 497 494 true (.not 496), oQ 498 (.pick 494 497 (cB false)), oM 499 498, gQ 500 499 true (.mov 26), gK 501 499 true (.call 14 [500, (cI 2), (cI 4)]), oQ 502 (.pick 499 501 (cB false)), oM 503 502, gQ 504 503 true (.mov 26), gK 505 503 true (.call 14 [504, (cI 0), (cI 1)]), gQ 506 503 true (.not 505), oQ 507 (.pick 503 506 (cB false)), oM 508 507, gQ 509 508 true (.mov 26), gK 510 508 true (.call 14 [509, (cI 2), (cI 3)]), gQ 511 508 true (.not 510), oQ 512 (.pick 508 511 (cB false)), oM 0 512] [0])
 .ret)))))))))))))))))))))))))))))
theorem fok3 : FOK Tryz.prog 3 (513, ic3, [(.t 0)]) := fokA ([1000115, 1000123, 1000134, 1000137, 1000141, 1000145, 1000149, 1000153, 1000158, 1000162, 1000166, 1000170, 1000175, 1000181, 1000184, 1000215, 1000221, 1000232, 1000239, 1000246, 1000253, 1000285, 1000292, 1000305, 1000316, 1000319, 1000321, 1000324, 1000326, 1000328, 1000330, 1000336, 1000356, 1000358, 1000387, 1000400, 1000402, 1000425, 1000454, 1000460, 1000466, 1000481] ++ [7, 20, 24]) Tryz.func3 (by kernel_rfl) (by kernel_rfl) (by kernel_rfl) (by kernel_rfl)
/-- chandlery/ask.New -/
def ic6 : IC :=
 (.seq
 (.reg 0 [oK 2 (.boxt 0), oK 3 (.boxt 1), oM 4 (.c .nilptr), oM 5 (cI 0)] [2, 3])
 (.seq
 (.block 0
 (.seq
 (.reg 1 [oQ 13 (.load none 2), oQ 14 (.isnil (.pointer 119) false 13), oM 12 14] [2, 3, 12])
 (.cond 12
 (.seq
 (.reg 2 [oM 4 (.c .nilptr), oM 5 (cI 2)] [4, 5])
 .ret)
 (.seq
 (.reg 3 [oQ 16 (.faddr 0 3), oQ 17 (.load none 16), oK 18 (.call 45 [17]), oQ 19 (.not 18), oM 20 19, gQ 21 20 false (.faddr 4 3), gQ 22 20 false (.load none 21), gQ 23 20 false (.bin .lss 22 (cI 0)), oQ 24 (.pick 20 (cB true) 23), oM 25 24, gQ 26 25 false (.faddr 4 3), gQ 27 25 false (.load none 26), gQ 28 25 false (.bin .gtr 27 (cI 1099511627776)), oQ 29 (.pick 25 (cB true) 28), oM 15 29] [2, 3, 15])
 (.cond 15
 (.seq
 (.reg 4 [oM 4 (.c .nilptr), oM 5 (cI 1)] [4, 5])
 .ret)
 (.seq
 (.reg 5 [oQ 31 (.faddr 2 3), oQ 32 (.load none 31), oQ 33 (.len 0 32), oQ 34 (.bin .gtr 33 (cI 64)), oM 35 34, gQ 36 35 false (.faddr 3 3), gQ 37 35 false (.load none 36), gQ 38 35 false (.len 0 37), gQ 39 35 false (.bin .gtr 38 (cI 64)), oQ 40 (.pick 35 (cB true) 39), oM 30 40] [2, 3, 30])
 (.cond 30
 (.seq
 (.reg 6 [oM 4 (.c .nilptr), oM 5 (cI 40)] [4, 5])
 .ret)
 (.seq
 (.reg 7 [oQ 42 (.faddr 2 3), oQ 43 (.load none 42), oK 44 (.call 46 [43, (.f 47)]), oM 41 44] [2, 3, 41])
 (.cond 41
 (.seq
 (.reg 8 [oM 4 (.c .nilptr), oM 5 (cI 4)] [4, 5])
 .ret)
 (.seq
 (.reg 9 [oQ 46 (.faddr 3 3), oQ 47 (.load none 46), oQ 48 (.mkf 50 [] [3, 2]), oK 49 (.call 49 [47, 48]), oM 45 49] [2, 3, 45])
 (.cond 45
 (.seq
 (.reg 10 [oM 4 (.c .nilptr), oM 5 (cI 5)] [4, 5])
 .ret)
 .skip)))))))))))
 (.seq
 (.reg 11 [oQ 51 (.load none 2), oK 52 (.call 53 [51]), oM 50 52, oQ 53 (.ext 0 50), oQ 54 (.ext 1 50), oM 6 53, oM 7 54] [2, 3, 6, 7])
 (.seq
 (.seq
 (.reg 12 [oM 55 7, oQ 56 (.bin .neq 55 (cI 0))] [2, 3, 6, 7, 56])
 (.cond 56
 (.seq
 (.reg 13 [oM 57 7, oM 4 (.c .nilptr), oM 5 57] [4, 5])
 .ret)
 .skip))
 (.seq
 (.dreg 14 [oQ 58 (.load none 2), oM 59 6, oQ 60 (.load (some 5) 3), oK 61 (.pcall 54 [60]), oQ 62 (.bld [.nilptr, .nilptr, (zU 0), (.bool false), .nilslice, .nilslice, (zI 0), .nilslice] [⟨0, ⟨1, 58⟩⟩, ⟨1, ⟨1, 59⟩⟩, ⟨2, ⟨5, 61⟩⟩]), oK 63 (.box 62), oM 8 63] false [2, 8])
 (.seq
 (.seq
 (.reg 15 [oQ 64 (.load none 2), oK 65 (.call 55 [64]), oM 66 (cI 0)] [2, 8, 65, 66])
 (.block 1
 (.loop
 (.seq
 (.reg 16 [oQ 67 (.bin .lss 66 65)] [2, 8, 65, 66, 67])
 (.seq
 (.cond 67
 .skip
 (.exit 1))
 (.seq
 (.block 2
 (.seq
 (.reg 17 [oM 68 66, oM 9 68] [2, 8, 9, 65, 66])
 (.seq
 (.reg 18 [oQ 70 (.load none 2), oM 71 9, oK 72 (.call 56 [70, 71]), oM 69 72, oQ 73 (.ext 0 69), oQ 74 (.ext 1 69), oK 10 (.alloc [(.str []), (zI 0), (.str []), (.str []), (zU 0), (.str []), .nilslice, .nilslice, .nilslice, .nilslice, .nilslice, .nilslice, .nilslice, .nilslice, .nilslice]), oN (.store 15 10 73), oM 11 74] [2, 8, 10, 11, 65, 66])
 (.seq
 (.seq
 (.reg 19 [oM 75 11, oQ 76 (.bin .neq 75 (cI 0))] [2, 8, 10, 11, 65, 66, 76])
 (.cond 76
 (.seq
 (.reg 20 [oM 77 11, oM 4 (.c .nilptr), oM 5 77] [4, 5])
 .ret)
 .skip))
 (.dreg 21 [oM 78 8, oM 79 8, oQ 80 (.nchk 79), oQ 81 (.faddr 7 80), oQ 82 (.load none 81), oQ 83 (.load (some 15) 10), oK 84 (.bslt 15 1 [(.str []), (zI 0), (.str []), (.str []), (zU 0), (.str []), .nilslice, .nilslice, .nilslice, .nilslice, .nilslice, .nilslice, .nilslice, .nilslice, .nilslice] [⟨0, ⟨15, 83⟩⟩]), oK 85 (.app 15 82 84), oQ 86 (.nchk 78), oQ 87 (.faddr 7 86), oN (.store 1 87 85)] true [2, 8, 65, 66])))))
 (.reg 22 [oQ 88 (.bin .add 66 (cI 1)), oM 66 88] [2, 8, 65, 66])))))))
 (.seq
 (.reg 23 [oM 89 8, oM 4 89, oM 5 (cI 0)] [4, 5])
 .ret)))))))
theorem fok6 : FOK Tryz.prog 6 (90, ic6, [(.t 4), (.t 5)]) := fokA ([1000002, 1000003, 1000084] ++ [54]) Tryz.func6 (by kernel_rfl) (by kernel_rfl) (by kernel_rfl) (by kernel_rfl)
/-- chandlery/chandlerylaw15.req -/
def ic7 : IC :=
 (.seq
 (.reg 0 [oK 4 (.alloc [(zU 0), (.bool false), .nilslice, .nilslice, (zI 0)])] [0, 1, 4])
 (.seq
 (.reg 1 [oM 5 0, oM 6 1, oQ 7 (.bld [(zU 0), (.bool false), .nilslice, .nilslice, (zI 0)] [⟨0, ⟨1, (.c (zU 2))⟩⟩, ⟨2, ⟨1, 5⟩⟩, ⟨3, ⟨1, 6⟩⟩]), oN (.store 5 4 7)] [4])
 .ret))
theorem fok7 : FOK Tryz.prog 7 (8, ic7, [(.cell (some 5) 4)]) := fokA [] Tryz.func7 (by kernel_rfl) (by kernel_rfl) (by kernel_rfl) (by kernel_rfl)
/-- chandlery/chandlerylaw15.works -/
def ic8 : IC :=
 (.seq
 (.reg 0 [oM 0 (cB false)] [])
 (.seq
 (.reg 1 [oK 12 (.pcall 21 [(.c (.str [97])), (.c (.str [50]))]), oK 13 (.bslt 15 1 [(.str []), (zI 0), (.str []), (.str []), (zU 0), (.str []), .nilslice, .nilslice, .nilslice, .nilslice, .nilslice, .nilslice, .nilslice, .nilslice, .nilslice] [⟨0, ⟨15, 12⟩⟩]), oM 1 13] [1])
 (.seq
 (.reg 2 [oK 15 (.call 23 []), oM 16 1, oK 17 (.pcall 7 [(.c .nilslice), (.c .nilslice)]), oK 18 (.pcall 25 [15, 16, 17]), oM 14 18, oQ 19 (.ext 0 14), oQ 20 (.ext 1 14), oQ 21 (.ext 2 14), oM 2 19, oM 3 20, oM 4 21] [1, 2, 4])
 (.seq
 (.reg 3 [oK 23 (.call 23 []), oM 24 1, oQ 25 (.bld [(zU 0), (zI 0)] [⟨0, ⟨1, (.c (zU 3))⟩⟩]), oK 26 (.bslt 2 1 [(zU 0), (zI 0)] [⟨0, ⟨2, 25⟩⟩]), oK 27 (.pcall 7 [(.c .nilslice), 26]), oK 28 (.pcall 25 [23, 24, 27]), oM 22 28, oQ 29 (.ext 0 22), oQ 30 (.ext 1 22), oQ 31 (.ext 2 22), oM 5 29, oM 6 30, oM 7 31] [2, 4, 5, 7])
 (.seq
 (.reg 4 [oK 32 (.pcall 21 [(.c (.str [97])), (.c (.str [49]))]), oK 8 (.alloc [(.str []), (zI 0), (.str []), (.str []), (zU 0), (.str []), .nilslice, .nilslice, .nilslice, .nilslice, .nilslice, .nilslice, .nilslice, .nilslice, .nilslice]), oN (.store 15 8 32)] [2, 4, 5, 7, 8])
 (.seq
 (.reg 5 [oQ 33 (.faddr 4 8), oN (.store 1 33 (.c (zU 3)))] [2, 4, 5, 7, 8])
 (.seq
 (.dreg 6 [oK 35 (.pcall 21 [(.c (.str [97])), (.c (.str [49]))]), oQ 36 (.load (some 15) 8), oK 37 (.pcall 21 [(.c (.str [97])), (.c (.str [50]))]), oK 38 (.bslt 15 3 [(.str []), (zI 0), (.str []), (.str []), (zU 0), (.str []), .nilslice, .nilslice, .nilslice, .nilslice, .nilslice, .nilslice, .nilslice, .nilslice, .nilslice] [⟨0, ⟨15, 35⟩⟩, ⟨15, ⟨15, 36⟩⟩, ⟨30, ⟨15, 37⟩⟩]), oQ 39 (.bld [(zI 0), .nilslice] [⟨1, ⟨1, 38⟩⟩]), oK 40 (.bslt 2 1 [(zI 0), .nilslice] [⟨0, ⟨2, 39⟩⟩]), oK 41 (.pcall 7 [(.c .nilslice), (.c .nilslice)]), oK 42 (.pcall 25 [40, (.c .nilslice), 41]), oM 34 42, oQ 43 (.ext 0 34), oQ 44 (.ext 1 34), oQ 45 (.ext 2 34), oM 9 43, oM 10 44, oM 11 45] false [2, 4, 5, 7, 9, 11])
 (.seq
 (.reg 7 [oM 46 4, oM 47 46, gQ 48 47 true (.mov 7), oQ 49 (.pick 47 48 (cB false)), oM 50 49, gQ 51 50 true (.mov 11), oQ 52 (.pick 50 51 (cB false)), oM 53 52, gQ 54 53 true (.mov 2), gK 55 53 true (.call 17 [54, (cI 0)]), gK 56 53 true (.bslt 1 3 [(zI 0)] [⟨0, ⟨1, (cI 0)⟩⟩, ⟨1, ⟨1, (cI 2)⟩⟩, ⟨2, ⟨1, (cI 3)⟩⟩]), gK 57 53 true (.call 26 [55, 56]), oQ 58 (.pick 53 57 (cB false)), oM 59 58, gQ 60 59 true (.mov 5), gK 61 59 true (.call 17 [60, (cI 0)]), gK 62 59 true (.bslt 1 4 [(zI 0)] [⟨0, ⟨1, (cI 0)⟩⟩, ⟨1, ⟨1, (cI 1)⟩⟩, ⟨2, ⟨1, (cI 2)⟩⟩, ⟨3, ⟨1, (cI 3)⟩⟩]), gK 63 59 true (.call 26 [61, 62]), oQ 64 (.pick 59 63 (cB false)), oM 65 64, gQ 66 65 true (.mov 9), gK 67 65 true (.call 14 [66, (cI 0), (cI 1)]), gQ 68 65 true (.not 67), oQ 69 (.pick 65 68 (cB false)), oM 70 69, gQ 71 70 true (.mov 9), gK 72 70 true (.call 14 [71, (cI 0), (cI 2)]), oQ 73 (.pick 70 72 (cB false)), oM 74 73, gQ 75 74 true (.mov 9), gK 76 74 true (.call 14 [75, (cI 1), (cI 2)]), oQ 77 (.pick 74 76 (cB false)), oM 0 77] [0])
 .ret))))))))
theorem fok8 : FOK Tryz.prog 8 (78, ic8, [(.t 0)]) := fokA ([1000013, 1000026, 1000038, 1000040, 1000056, 1000062] ++ [7, 21, 25]) Tryz.func8 (by kernel_rfl) (by kernel_rfl) (by kernel_rfl) (by kernel_rfl)
/-- (*chandlery/ask.Ask).Pool -/
def ic9 : IC :=
 (.seq
 (.reg 0 [oM 2 (.c .nilptr)] [0])
 (.seq
 (.seq
 (.reg 1 [oM 3 0, oQ 4 (.isnil (.pointer 103) false 3)] [0, 4])
 (.cond 4
 (.seq
 (.reg 2 [oM 2 (.c .nilptr)] [2])
 .ret)
 .skip))
 (.seq
 (.reg 3 [oM 5 0, oQ 6 (.nchk 5), oQ 7 (.faddr 0 6), oQ 8 (.load none 7), oM 2 8] [2])
 .ret)))
theorem fok9 : FOK Tryz.prog 9 (9, ic9, [(.t 2)]) := fokA [] Tryz.func9 (by kernel_rfl) (by kernel_rfl) (by kernel_rfl) (by kernel_rfl)
/-- (*chandlery/ask.Ask).Index -/
def ic10 : IC :=
 (.seq
 (.reg 0 [oM 2 (.c .nilptr)] [0])
 (.seq
 (.seq
 (.reg 1 [oM 3 0, oQ 4 (.isnil (.pointer 103) false 3)] [0, 4])
 (.cond 4
 (.seq
 (.reg 2 [oM 2 (.c .nilptr)] [2])
 .ret)
 .skip))
 (.seq
 (.reg 3 [oM 5 0, oQ 6 (.nchk 5), oQ 7 (.faddr 1 6), oQ 8 (.load none 7), oM 2 8] [2])
 .ret)))
theorem fok10 : FOK Tryz.prog 10 (9, ic10, [(.t 2)]) := fokA [] Tryz.func10 (by kernel_rfl) (by kernel_rfl) (by kernel_rfl) (by kernel_rfl)
/-- chandlery/chandlerylaw15.same -/
def ic11 : IC :=
 (.seq
 (.reg 0 [oK 2 (.boxt 0), oK 3 (.boxt 1), oM 4 (cB false)] [2, 3])
 (.seq
 (.seq
 (.reg 1 [oQ 7 (.faddr 0 2), oQ 8 (.load none 7), oQ 9 (.faddr 0 3), oQ 10 (.load none 9), oQ 11 (.bin .neq 8 10), oM 12 11, gQ 13 12 false (.faddr 1 2), gQ 14 12 false (.load none 13), gQ 15 12 false (.faddr 1 3), gQ 16 12 false (.load none 15), gQ 17 12 false (.eqs [0] false true 14 16), oQ 18 (.pick 12 (cB true) 17), oM 19 18, gQ 20 19 false (.faddr 4 2), gQ 21 19 false (.load none 20), gQ 22 19 false (.faddr 4 3), gQ 23 19 false (.load none 22), gQ 24 19 false (.bin .neq 21 23), oQ 25 (.pick 19 (cB true) 24), oM 26 25, gQ 27 26 false (.faddr 2 2), gQ 28 26 false (.load none 27), gQ 29 26 false (.len 0 28), gQ 30 26 false (.faddr 2 3), gQ 31 26 false (.load none 30), gQ 32 26 false (.len 0 31), gQ 33 26 false (.bin .neq 29 32), oQ 34 (.pick 26 (cB true) 33), oM 35 34, gQ 36 35 false (.faddr 3 2), gQ 37 35 false (.load none 36), gQ 38 35 false (.len 0 37), gQ 39 35 false (.faddr 3 3), gQ 40 35 false (.load none 39), gQ 41 35 false (.len 0 40), gQ 42 35 false (.bin .neq 38 41), oQ 43 (.pick 35 (cB true) 42)] [2, 3, 43])
 (.cond 43
 (.seq
 (.reg 2 [oM 4 (cB false)] [4])
 .ret)
 .skip))
 (.seq
 (.seq
 (.reg 3 [oM 5 (cI 0)] [2, 3, 5])
 (.block 0
 (.loop
 (.seq
 (.seq
 (.reg 4 [oM 44 5, oQ 45 (.faddr 2 2), oQ 46 (.load none 45), oQ 47 (.len 0 46), oQ 48 (.bin .lss 44 47)] [2, 3, 5, 48])
 (.cond 48
 .skip
 (.exit 0)))
 (.seq
 (.block 1
 (.seq
 (.dreg 6 [oQ 51 (.faddr 2 2), oQ 52 (.load none 51), oM 53 5, oQ 54 (.iaddr 6 52 53), oQ 55 (.load (some 6) 54), oQ 56 (.faddr 2 3), oQ 57 (.load none 56), oM 58 5, oQ 59 (.iaddr 6 57 58), oQ 60 (.load (some 6) 59), oQ 61 (.eqs [1, 2, 1, 1, 2, 2] true true 55 60)] false [2, 3, 5, 61])
 (.cond 61
 (.seq
 (.reg 7 [oM 4 (cB false)] [4])
 .ret)
 .skip)))
 (.reg 5 [oM 49 5, oQ 50 (.bin .add 49 (cI 1)), oM 5 50] [2, 3, 5]))))))
 (.seq
 (.seq
 (.reg 8 [oM 6 (cI 0)] [2, 3, 6])
 (.block 2
 (.loop
 (.seq
 (.seq
 (.reg 9 [oM 62 6, oQ 63 (.faddr 3 2), oQ 64 (.load none 63), oQ 65 (.len 0 64), oQ 66 (.bin .lss 62 65)] [2, 3, 6, 66])
 (.cond 66
 .skip
 (.exit 2)))
 (.seq
 (.block 3
 (.seq
 (.dreg 11 [oQ 69 (.faddr 3 2), oQ 70 (.load none 69), oM 71 6, oQ 72 (.iaddr 2 70 71), oQ 73 (.load (some 2) 72), oQ 74 (.faddr 3 3), oQ 75 (.load none 74), oM 76 6, oQ 77 (.iaddr 2 75 76), oQ 78 (.load (some 2) 77), oQ 79 (.eqs [1, 1] true true 73 78)] false [2, 3, 6, 79])
 (.cond 79
 (.seq
 (.reg 12 [oM 4 (cB false)] [4])
 .ret)
 .skip)))
 (.reg 10 [oM 67 6, oQ 68 (.bin .add 67 (cI 1)), oM 6 68] [2, 3, 6]))))))
 (.seq
 (.reg 13 [oM 4 (cB true)] [4])
 .ret)))))
theorem fok11 : FOK Tryz.prog 11 (80, ic11, [(.t 4)]) := fokA [1000002, 1000003] Tryz.func11 (by kernel_rfl) (by kernel_rfl) (by kernel_rfl) (by kernel_rfl)
/-- (*chandlery/ask.Ask).Request -/
def ic12 : IC :=
 (.seq
 (.reg 0 [oK 2 (.alloc [(zU 0), (.bool false), .nilslice, .nilslice, (zI 0)])] [0, 2])
 (.seq
 (.seq
 (.reg 1 [oM 3 0, oQ 4 (.isnil (.pointer 103) false 3)] [0, 2, 4])
 (.cond 4
 (.seq
 (.reg 2 [oQ 5 (.bld [(zU 0), (.bool false), .nilslice, .nilslice, (zI 0)] []), oN (.store 5 2 5)] [2])
 .ret)
 .skip))
 (.seq
 (.reg 3 [oM 6 0, oQ 7 (.nchk 6), oQ 8 (.faddr 2 7), oQ 9 (.load (some 5) 8), oK 10 (.call 54 [9]), oN (.store 5 2 10)] [2])
 .ret)))
theorem fok12 : FOK Tryz.prog 12 (11, ic12, [(.cell (some 5) 2)]) := fokA [] Tryz.func12 (by kernel_rfl) (by kernel_rfl) (by kernel_rfl) (by kernel_rfl)
/-- (*chandlery/ask.Ask).Fits -/
def ic13 : IC :=
 (.seq
 (.reg 0 [oM 4 (cB false)] [0, 1])
 (.seq
 (.dreg 1 [oM 5 0, oM 6 1, oK 7 (.call 57 [5, 6]), oM 8 7, gQ 9 8 true (.mov 0), gQ 10 8 true (.nchk 9), gQ 11 8 true (.faddr 2 10), gQ 12 8 true (.faddr 0 11), gQ 13 8 true (.load none 12), gQ 14 8 true (.mov 0), gQ 15 8 true (.nchk 14), gQ 16 8 true (.faddr 7 15), gQ 17 8 true (.load none 16), gQ 18 8 true (.mov 1), gQ 19 8 true (.iaddr 15 17 18), gQ 20 8 true (.faddr 4 19), gQ 21 8 true (.load none 20), gK 22 8 true (.call 58 [13, 21]), oQ 23 (.pick 8 22 (cB false)), oM 4 23] false [4])
 .ret))
theorem fok13 : FOK Tryz.prog 13 (24, ic13, [(.t 4)]) := fokA [] Tryz.func13 (by kernel_rfl) (by kernel_rfl) (by kernel_rfl) (by kernel_rfl)
/-- (*chandlery/ask.Ask).Twins -/
def ic14 : IC :=
 (.seq
 (.reg 0 [oM 6 (cB false)] [0, 1, 2])
 (.seq
 (.seq
 (.reg 1 [oM 9 0, oM 10 1, oK 11 (.call 57 [9, 10]), oQ 12 (.not 11), oM 13 12, gQ 14 13 false (.mov 0), gQ 15 13 false (.mov 2), gK 16 13 false (.call 57 [14, 15]), gQ 17 13 false (.not 16), oQ 18 (.pick 13 (cB true) 17), oM 19 18, gQ 20 19 false (.mov 1), gQ 21 19 false (.mov 2), gQ 22 19 false (.bin .eql 20 21), oQ 23 (.pick 19 (cB true) 22)] [0, 1, 2, 23])
 (.cond 23
 (.seq
 (.reg 2 [oM 6 (cB false)] [6])
 .ret)
 .skip))
 (.seq
 (.dreg 3 [oM 24 0, oQ 25 (.nchk 24), oQ 26 (.faddr 7 25), oQ 27 (.load none 26), oM 28 1, oQ 29 (.iaddr 15 27 28), oQ 30 (.load (some 15) 29), oM 31 0, oQ 32 (.nchk 31), oQ 33 (.faddr 7 32), oQ 34 (.ldt none 33), oM 35 2, oQ 36 (.iaddr 15 34 35), oQ 37 (.ldt (some 15) 36), oK 7 (.alloc [(.str []), (zI 0), (.str []), (.str []), (zU 0), (.str []), .nilslice, .nilslice, .nilslice, .nilslice, .nilslice, .nilslice, .nilslice, .nilslice, .nilslice]), oK 8 (.alloc [(.str []), (zI 0), (.str []), (.str []), (zU 0), (.str []), .nilslice, .nilslice, .nilslice, .nilslice, .nilslice, .nilslice, .nilslice, .nilslice, .nilslice]), oN (.store 15 7 30), oN (.store 15 8 37)] false [7, 8])
 (.seq
 (.reg 4 [oQ 38 (.faddr 0 7), oQ 39 (.load none 38), oQ 40 (.faddr 0 8), oQ 41 (.load none 40), oQ 42 (.bin .eql 39 41), oM 43 42, gQ 44 43 true (.faddr 4 7), gQ 45 43 true (.load none 44), gQ 46 43 true (.faddr 4 8), gQ 47 43 true (.load none 46), gK 48 43 true (.call 59 [45, 47]), gQ 49 43 true (.mov 48), gQ 50 49 true (.faddr 1 7), gQ 51 49 true (.load (some 3) 50), gQ 52 49 true (.faddr 1 8), gQ 53 49 true (.load (some 3) 52), gK 54 49 true (.call 60 [51, 53]), gQ 55 49 true (.bin .eql 54 (cI 0)), gQ 56 43 true (.pick 49 55 (cB false)), gQ 57 43 true (.not 56), oQ 58 (.pick 43 57 (cB false)), oM 6 58] [6])
 .ret))))
theorem fok14 : FOK Tryz.prog 14 (59, ic14, [(.t 6)]) := fokA [1000034, 1000037] Tryz.func14 (by kernel_rfl) (by kernel_rfl) (by kernel_rfl) (by kernel_rfl)
/-- (*chandlery/ask.Ask).Dropped -/
def ic15 : IC :=
 (.seq
 (.reg 0 [oM 4 (cB false)] [0, 1])
 (.seq
 (.reg 1 [oM 5 0, oM 6 1, oK 7 (.call 61 [5, 6]), oM 8 7, gQ 9 8 true (.mov 0), gQ 10 8 true (.mov 1), gK 11 8 true (.call 62 [9, (.c (zU 1)), 10]), oQ 12 (.pick 8 11 (cB false)), oM 4 12] [4])
 .ret))
theorem fok15 : FOK Tryz.prog 15 (13, ic15, [(.t 4)]) := fokA [] Tryz.func15 (by kernel_rfl) (by kernel_rfl) (by kernel_rfl) (by kernel_rfl)
/-- (*chandlery/ask.Ask).Goes -/
def ic16 : IC :=
 (.seq
 (.reg 0 [oM 4 (cB false)] [0, 1])
 (.seq
 (.reg 1 [oM 5 0, oM 6 1, oK 7 (.call 63 [5, 6]), oM 8 7, gQ 9 8 true (.mov 0), gQ 10 8 true (.mov 1), gK 11 8 true (.call 64 [9, (.c (zU 2)), 10]), gQ 12 8 true (.mov 11), gQ 13 12 false (.mov 0), gQ 14 12 false (.mov 1), gK 15 12 false (.call 62 [13, (.c (zU 2)), 14]), gQ 16 8 true (.pick 12 (cB true) 15), oQ 17 (.pick 8 16 (cB false)), oM 4 17] [4])
 .ret))
theorem fok16 : FOK Tryz.prog 16 (18, ic16, [(.t 4)]) := fokA [] Tryz.func16 (by kernel_rfl) (by kernel_rfl) (by kernel_rfl) (by kernel_rfl)
/-- (*chandlery/ask.Ask).Successors -/
def ic17 : IC :=
 (.seq
 (.reg 0 [oK 2 (.boxt 0), oM 4 (.c .nilslice)] [1, 2])
 (.seq
 (.seq
 (.reg 1 [oQ 12 (.load none 2), oM 13 1, oK 14 (.call 63 [12, 13]), oQ 15 (.not 14)] [1, 2, 15])
 (.cond 15
 (.seq
 (.reg 2 [oM 4 (.c .nilslice)] [4])
 .ret)
 .skip))
 (.seq
 (.reg 3 [oQ 16 (.load none 2), oQ 17 (.nchk 16), oQ 18 (.faddr 7 17), oQ 19 (.load none 18), oM 20 1, oQ 21 (.iaddr 15 19 20), oQ 22 (.load (some 15) 21), oK 5 (.alloc [(.str []), (zI 0), (.str []), (.str []), (zU 0), (.str []), .nilslice, .nilslice, .nilslice, .nilslice, .nilslice, .nilslice, .nilslice, .nilslice, .nilslice]), oN (.store 15 5 22)] [1, 2, 5])
 (.seq
 (.reg 4 [oQ 23 (.load none 2), oM 24 1, oK 25 (.call 62 [23, (.c (zU 3)), 24]), oM 26 25, gQ 27 26 false (.load none 2), gQ 28 26 false (.mov 1), gK 29 26 false (.call 64 [27, (.c (zU 4)), 28]), oQ 30 (.pick 26 (cB true) 29), oK 6 (.alloc [(.bool false)]), oN (.store 1 6 30)] [1, 2, 5, 6])
 (.seq
 (.reg 5 [oQ 31 (.load none 2), oM 32 1, oK 33 (.call 62 [31, (.c (zU 4)), 32]), oK 7 (.alloc [(.bool false)]), oN (.store 1 7 33)] [1, 2, 5, 6, 7])
 (.seq
 (.reg 6 [oQ 34 (.mkf 65 [] [5, 6, 7, 2]), oM 8 34] [1, 2, 8])
 (.seq
 (.reg 7 [oQ 35 (.load none 2), oQ 36 (.nchk 35), oQ 37 (.faddr 1 36), oQ 38 (.load none 37), oM 39 1, oK 40 (.call 67 [38, 39]), oM 9 40] [1, 2, 8, 9])
 (.seq
 (.seq
 (.reg 8 [oQ 41 (.load none 2), oQ 42 (.nchk 41), oQ 43 (.faddr 7 42), oQ 44 (.load none 43), oQ 45 (.len 0 44), oM 46 (cI 0)] [1, 8, 9, 44, 45, 46])
 (.block 0
 (.loop
 (.seq
 (.reg 9 [oQ 47 (.bin .lss 46 45)] [1, 8, 9, 44, 45, 46, 47])
 (.seq
 (.cond 47
 .skip
 (.exit 0))
 (.seq
 (.block 1
 (.seq
 (.reg 10 [oM 48 46, oQ 49 (.iaddr 15 44 46), oQ 50 (.load (some 15) 49), oK 11 (.alloc [(.str []), (zI 0), (.str []), (.str []), (zU 0), (.str []), .nilslice, .nilslice, .nilslice, .nilslice, .nilslice, .nilslice, .nilslice, .nilslice, .nilslice]), oM 10 48, oN (.store 15 11 50)] [1, 8, 9, 10, 11, 44, 45, 46])
 (.seq
 (.reg 11 [oM 51 10, oM 52 1, oQ 53 (.bin .eql 51 52), oM 54 53, gQ 55 54 false (.mov 8), gQ 56 54 false (.load (some 15) 11), gK 57 54 false (.callv 55 [56]), oQ 58 (.pick 54 (cB true) 57)] [1, 8, 9, 10, 44, 45, 46, 58])
 (.cond 58
 (.reg 12 [oM 59 9, oM 60 10, oK 61 (.bslt 1 1 [(zI 0)] [⟨0, ⟨1, 60⟩⟩]), oK 62 (.app 1 59 61), oM 9 62] [1, 8, 9, 44, 45, 46])
 .skip))))
 (.reg 13 [oQ 63 (.bin .add 46 (cI 1)), oM 46 63] [1, 8, 9, 44, 45, 46])))))))
 (.seq
 (.reg 14 [oM 64 9, oK 65 (.call 68 [64])] [9])
 (.seq
 (.reg 15 [oM 66 9, oK 67 (.call 69 [66]), oM 4 67] [4])
 .ret))))))))))
theorem fok17 : FOK Tryz.prog 17 (68, ic17, [(.t 4)]) := fokA [1000002, 1000061] Tryz.func17 (by kernel_rfl) (by kernel_rfl) (by kernel_rfl) (by kernel_rfl)
/-- (*chandlery/ask.Ask).Newcomers -/
def ic18 : IC :=
 (.seq
 (.reg 0 [oK 2 (.boxt 0), oM 4 (.c .nilslice)] [1, 2])
 (.seq
 (.seq
 (.reg 1 [oQ 5 (.load none 2), oM 6 1, oK 7 (.call 63 [5, 6]), oQ 8 (.not 7)] [1, 2, 8])
 (.cond 8
 (.seq
 (.reg 2 [oM 4 (.c .nilslice)] [4])
 .ret)
 .skip))
 (.seq
 (.reg 3 [oQ 9 (.load none 2), oM 10 1, oK 11 (.call 17 [9, 10]), oQ 12 (.mkf 71 [] [2]), oK 13 (.call 70 [11, 12]), oM 4 13] [4])
 .ret)))
theorem fok18 : FOK Tryz.prog 18 (14, ic18, [(.t 4)]) := fokA [1000002] Tryz.func18 (by kernel_rfl) (by kernel_rfl) (by kernel_rfl) (by kernel_rfl)
/-- (*chandlery/ask.Ask).Meant -/
def ic19 : IC :=
 (.seq
 (.reg 0 [oK 2 (.boxt 0), oM 4 (.c .nilslice)] [1, 2])
 (.seq
 (.seq
 (.reg 1 [oQ 7 (.load none 2), oM 8 1, oK 9 (.call 61 [7, 8]), oQ 10 (.not 9)] [1, 2, 10])
 (.cond 10
 (.seq
 (.reg 2 [oM 4 (.c .nilslice)] [4])
 .ret)
 .skip))
 (.seq
 (.reg 3 [oQ 11 (.load none 2), oQ 12 (.nchk 11), oQ 13 (.faddr 2 12), oQ 14 (.faddr 2 13), oQ 15 (.load none 14), oM 16 1, oQ 17 (.iaddr 6 15 16), oQ 18 (.load (some 6) 17), oK 5 (.alloc [(zU 0), (.str []), (zU 0), (zI 0), (.str []), (.str [])]), oN (.store 6 5 18)] [2, 5])
 (.seq
 (.seq
 (.reg 4 [oQ 19 (.faddr 0 5), oQ 20 (.load none 19), oQ 21 (.bin .eql 20 (.c (zU 1)))] [2, 5, 21])
 (.cond 21
 (.seq
 (.dreg 5 [oQ 22 (.load none 2), oQ 23 (.nchk 22), oQ 24 (.faddr 1 23), oQ 25 (.load none 24), oQ 26 (.faddr 1 5), oQ 27 (.load (some 5) 26), oK 28 (.call 72 [25, 27]), oM 4 28] false [4])
 .ret)
 .skip))
 (.seq
 (.dreg 6 [oQ 29 (.load none 2), oQ 30 (.nchk 29), oQ 31 (.faddr 1 30), oQ 32 (.load none 31), oQ 33 (.faddr 1 5), oQ 34 (.load (some 5) 33), oK 35 (.call 73 [32, 34]), oM 6 35] false [2, 5, 6])
 (.seq
 (.seq
 (.reg 7 [oQ 36 (.faddr 0 5), oQ 37 (.load none 36), oQ 38 (.bin .eql 37 (.c (zU 2)))] [2, 6, 38])
 (.cond 38
 (.seq
 (.reg 8 [oM 39 6, oM 4 39] [4])
 .ret)
 .skip))
 (.seq
 (.reg 9 [oM 40 6, oQ 41 (.mkf 74 [] [2]), oK 42 (.call 70 [40, 41]), oM 4 42] [4])
 .ret)))))))
theorem fok19 : FOK Tryz.prog 19 (43, ic19, [(.t 4)]) := fokA [1000002] Tryz.func19 (by kernel_rfl) (by kernel_rfl) (by kernel_rfl) (by kernel_rfl)
/-- (*chandlery/ask.Ask).Fulfils -/
def ic20 : IC :=
 (.seq
 (.reg 0 [oM 6 (cB false)] [0, 1, 2])
 (.seq
 (.seq
 (.reg 1 [oM 8 0, oM 9 1, oK 10 (.call 61 [8, 9]), oQ 11 (.not 10)] [0, 1, 2, 11])
 (.cond 11
 (.seq
 (.reg 2 [oM 6 (cB true)] [6])
 .ret)
 .skip))
 (.seq
 (.reg 3 [oQ 12 (.bld [.nilfunc, .nilfunc, .nilfunc, .nilfunc, .nilfunc] [⟨1, ⟨1, (.f 75)⟩⟩, ⟨2, ⟨1, (.f 76)⟩⟩, ⟨3, ⟨1, (.f 77)⟩⟩, ⟨4, ⟨1, (.f 78)⟩⟩]), oK 7 (.alloc [.nilfunc, .nilfunc, .nilfunc, .nilfunc, .nilfunc]), oN (.store 5 7 12)] [0, 1, 2, 7])
 (.seq
 (.reg 4 [oM 13 0, oQ 14 (.nchk 13), oQ 15 (.faddr 2 14), oQ 16 (.faddr 2 15), oQ 17 (.load none 16), oM 18 1, oQ 19 (.iaddr 6 17 18), oQ 20 (.faddr 0 19), oQ 21 (.load none 20), oQ 22 (.aaddr 5 1 7 21), oQ 23 (.load none 22), oM 24 0, oM 25 1, oM 26 2, oK 27 (.callv 23 [24, 25, 26]), oM 6 27] [6])
 .ret))))
theorem fok20 : FOK Tryz.prog 20 (28, ic20, [(.t 6)]) := fokA [] Tryz.func20 (by kernel_rfl) (by kernel_rfl) (by kernel_rfl) (by kernel_rfl)
/-- chandlery/chandlerylaw15.bare -/
def ic21 : IC :=
 (.seq
 (.reg 0 [oK 4 (.alloc [(.str []), (zI 0), (.str []), (.str []), (zU 0), (.str []), .nilslice, .nilslice, .nilslice, .nilslice, .nilslice, .nilslice, .nilslice, .nilslice, .nilslice])] [0, 1, 4])
 (.seq
 (.reg 1 [oM 5 0, oM 6 1, oQ 7 (.bld [(zI 0), (.str []), (.str [])] [⟨1, ⟨1, 6⟩⟩, ⟨2, ⟨1, (.c (.str [49]))⟩⟩]), oQ 8 (.bld [(.str []), (zI 0), (.str []), (.str []), (zU 0), (.str []), .nilslice, .nilslice, .nilslice, .nilslice, .nilslice, .nilslice, .nilslice, .nilslice, .nilslice] [⟨0, ⟨1, 5⟩⟩, ⟨1, ⟨3, 7⟩⟩, ⟨4, ⟨1, (.c (zU 2))⟩⟩]), oN (.store 15 4 8)] [4])
 .ret))
theorem fok21 : FOK Tryz.prog 21 (9, ic21, [(.cell (some 15) 4)]) := fokA [] Tryz.func21 (by kernel_rfl) (by kernel_rfl) (by kernel_rfl) (by kernel_rfl)
/-- chandlery/pool.New -/
def ic22 : IC :=
(.seq
 (.reg 0 [⟨(some 4), none, (.q (.mov (.c .nilptr)))⟩, ⟨(some 5), none, (.q (.mov (.c (.int .i64 0))))⟩] [0, 1])
 (.seq
  (.reg 1 [⟨(some 14), none, (.q (.mov (.t 1)))⟩, ⟨(some 15), none, (.q (.len 0 (.t 14)))⟩, ⟨(some 6), none, (.q (.mov (.t 15)))⟩] [0, 1, 6])
  (.seq
   (.seq
    (.reg 2 [⟨(some 16), none, (.q (.mov (.t 0)))⟩, ⟨(some 17), none, (.q (.len 0 (.t 16)))⟩, ⟨(some 18), none, (.q (.mov (.c (.int .i64 0))))⟩] [0, 1, 6, 16, 17, 18])
    (.block 0
     (.loop
      (.seq
       (.reg 3 [⟨(some 19), none, (.q (.bin .lss (.t 18) (.t 17)))⟩] [0, 1, 6, 16, 17, 18, 19])
       (.seq
        (.cond (.t 19)
         .skip
         (.exit 0))
        (.seq
         (.block 1
          (.seq
           (.reg 4 [⟨(some 20), none, (.q (.iaddr 2 (.t 16) (.t 18)))⟩, ⟨(some 21), none, (.q (.load (some 2) (.t 20)))⟩, ⟨(some 8), none, (.alloc [(.int .i64 0), .nilslice])⟩, ⟨none, none, (.store 2 (.t 8) (.t 21))⟩] [0, 1, 6, 8, 16, 17, 18])
           (.reg 5 [⟨(some 22), none, (.q (.mov (.t 6)))⟩, ⟨(some 23), none, (.q (.faddr 1 (.t 8)))⟩, ⟨(some 24), none, (.q (.load none (.t 23)))⟩, ⟨(some 25), none, (.q (.len 0 (.t 24)))⟩, ⟨(some 26), none, (.q (.bin .add (.t 22) (.t 25)))⟩, ⟨(some 6), none, (.q (.mov (.t 26)))⟩] [0, 1, 6, 16, 17, 18])))
         (.reg 6 [⟨(some 27), none, (.q (.bin .add (.t 18) (.c (.int .i64 1))))⟩, ⟨(some 18), none, (.q (.mov (.t 27)))⟩] [0, 1, 6, 16, 17, 18])))))))
   (.seq
    (.seq
     (.reg 7 [⟨(some 28), none, (.q (.mov (.t 0)))⟩, ⟨(some 29), none, (.q (.len 0 (.t 28)))⟩, ⟨(some 30), none, (.q (.bin .gtr (.t 29) (.c (.int .i64 16))))⟩, ⟨(some 31), none, (.q (.mov (.t 30)))⟩, ⟨(some 32), (some ⟨31, false⟩), (.q (.mov (.t 6)))⟩, ⟨(some 33), (some ⟨31, false⟩), (.q (.bin .gtr (.t 32) (.c (.int .i64 256))))⟩, ⟨(some 34), none, (.q (.pick (.t 31) (.c (.bool true)) (.t 33)))⟩] [0, 1, 34])
     (.cond (.t 34)
      (.seq
       (.reg 8 [⟨(some 4), none, (.q (.mov (.c .nilptr)))⟩, ⟨(some 5), none, (.q (.mov (.c (.int .i64 40))))⟩] [4, 5])
       .ret)
      .skip))
    (.seq
     (.reg 9 [⟨(some 35), none, (.q (.mov (.t 1)))⟩, ⟨(some 36), none, (.q (.len 0 (.t 35)))⟩, ⟨(some 37), none, .mkmap⟩, ⟨(some 38), none, (.q (.bld [.nilslice, (.int .i64 0), .nilmap] [⟨1, ⟨1, (.t 36)⟩⟩, ⟨2, ⟨1, (.t 37)⟩⟩]))⟩, ⟨(some 39), none, (.box (.t 38))⟩, ⟨(some 9), none, (.q (.mov (.t 39)))⟩] [0, 1, 9])
     (.seq
      (.seq
       (.reg 10 [⟨(some 40), none, (.q (.mov (.t 9)))⟩, ⟨(some 41), none, (.q (.mov (.t 1)))⟩, ⟨(some 42), none, (.call 79 [(.t 40), (.t 41), (.c (.int .i64 (-1))), (.c (.int .i64 1025))])⟩, ⟨(some 10), none, (.q (.mov (.t 42)))⟩] [0, 9, 10])
       (.seq
        (.reg 11 [⟨(some 43), none, (.q (.mov (.t 10)))⟩, ⟨(some 44), none, (.q (.bin .neq (.t 43) (.c (.int .i64 0))))⟩] [0, 9, 10, 44])
        (.cond (.t 44)
         (.seq
          (.reg 12 [⟨(some 45), none, (.q (.mov (.t 10)))⟩, ⟨(some 4), none, (.q (.mov (.c .nilptr)))⟩, ⟨(some 5), none, (.q (.mov (.t 45)))⟩] [4, 5])
          .ret)
         .skip)))
      (.seq
       (.seq
        (.reg 13 [⟨(some 46), none, (.q (.mov (.t 0)))⟩, ⟨(some 47), none, (.q (.len 0 (.t 46)))⟩, ⟨(some 48), none, (.q (.mov (.c (.int .i64 0))))⟩] [9, 46, 47, 48])
        (.block 2
         (.loop
          (.seq
           (.reg 14 [⟨(some 49), none, (.q (.bin .lss (.t 48) (.t 47)))⟩] [9, 46, 47, 48, 49])
           (.seq
            (.cond (.t 49)
            .skip
            (.exit 2))
            (.seq
            (.block 3
            (.seq
            (.reg 15 [⟨(some 50), none, (.q (.mov (.t 48)))⟩, ⟨(some 51), none, (.q (.iaddr 2 (.t 46) (.t 48)))⟩, ⟨(some 52), none, (.q (.load (some 2) (.t 51)))⟩, ⟨(some 12), none, (.alloc [(.int .i64 0), .nilslice])⟩, ⟨(some 11), none, (.q (.mov (.t 50)))⟩, ⟨none, none, (.store 2 (.t 12) (.t 52))⟩] [9, 11, 12, 46, 47, 48])
            (.seq
            (.seq
            (.reg 16 [⟨(some 53), none, (.q (.faddr 0 (.t 12)))⟩, ⟨(some 54), none, (.q (.load none (.t 53)))⟩, ⟨(some 55), none, (.q (.bin .lss (.t 54) (.c (.int .i64 0))))⟩, ⟨(some 56), none, (.q (.mov (.t 55)))⟩, ⟨(some 57), (some ⟨56, false⟩), (.q (.faddr 0 (.t 12)))⟩, ⟨(some 58), (some ⟨56, false⟩), (.q (.load none (.t 57)))⟩, ⟨(some 59), (some ⟨56, false⟩), (.q (.bin .gtr (.t 58) (.c (.int .i64 1024))))⟩, ⟨(some 60), none, (.q (.pick (.t 56) (.c (.bool true)) (.t 59)))⟩] [9, 11, 12, 46, 47, 48, 60])
            (.cond (.t 60)
            (.seq
            (.reg 17 [⟨(some 4), none, (.q (.mov (.c .nilptr)))⟩, ⟨(some 5), none, (.q (.mov (.c (.int .i64 4))))⟩] [4, 5])
            .ret)
            .skip))
            (.seq
            (.reg 18 [⟨(some 61), none, (.q (.mov (.t 9)))⟩, ⟨(some 62), none, (.q (.faddr 1 (.t 12)))⟩, ⟨(some 63), none, (.q (.load none (.t 62)))⟩, ⟨(some 64), none, (.q (.mov (.t 11)))⟩, ⟨(some 65), none, (.q (.faddr 0 (.t 12)))⟩, ⟨(some 66), none, (.q (.load none (.t 65)))⟩, ⟨(some 67), none, (.call 79 [(.t 61), (.t 63), (.t 64), (.t 66)])⟩, ⟨(some 13), none, (.q (.mov (.t 67)))⟩] [9, 13, 46, 47, 48])
            (.seq
            (.reg 19 [⟨(some 68), none, (.q (.mov (.t 13)))⟩, ⟨(some 69), none, (.q (.bin .neq (.t 68) (.c (.int .i64 0))))⟩] [9, 13, 46, 47, 48, 69])
            (.cond (.t 69)
            (.seq
            (.reg 20 [⟨(some 70), none, (.q (.mov (.t 13)))⟩, ⟨(some 4), none, (.q (.mov (.c .nilptr)))⟩, ⟨(some 5), none, (.q (.mov (.t 70)))⟩] [4, 5])
            .ret)
            .skip))))))
            (.reg 21 [⟨(some 71), none, (.q (.bin .add (.t 48) (.c (.int .i64 1))))⟩, ⟨(some 48), none, (.q (.mov (.t 71)))⟩] [9, 46, 47, 48])))))))
       (.seq
        (.reg 22 [⟨(some 72), none, (.q (.mov (.t 9)))⟩, ⟨(some 4), none, (.q (.mov (.t 72)))⟩, ⟨(some 5), none, (.q (.mov (.c (.int .i64 0))))⟩] [4, 5])
        .ret))))))))
theorem fok22 : FOK Tryz.prog 22 (73, ic22, [(.t 4), (.t 5)]) := .mk (pf := []) (an := [(0, [0, 1]), (1, [0, 1, 6]), (2, [0, 1, 6, 16, 17, 18]), (3, [0, 1, 6, 16, 17, 18, 19]), (4, [0, 1, 6, 8, 16, 17, 18]), (5, [0, 1, 6, 16, 17, 18]), (6, [0, 1, 6, 16, 17, 18]), (7, [0, 1, 34]), (8, [4, 5]), (9, [0, 1, 9]), (10, [0, 9, 10]), (11, [0, 9, 10, 44]), (12, [4, 5]), (13, [9, 46, 47, 48]), (14, [9, 46, 47, 48, 49]), (15, [9, 11, 12, 46, 47, 48]), (16, [9, 11, 12, 46, 47, 48, 60]), (17, [4, 5]), (18, [9, 13, 46, 47, 48]), (19, [9, 13, 46, 47, 48, 69]), (20, [4, 5]), (21, [9, 46, 47, 48]), (22, [4, 5])]) (by kernel_rfl) (fnOK_of Tryz.func22 (by kernel_rfl) (by kernel_rfl) (by kernel_rfl))
/-- chandlery/chandlerylaw15.three -/
def ic23 : IC :=
 (.seq
 (.reg 0 [oM 0 (.c .nilslice)] [])
 (.seq
 (.reg 1 [oK 2 (.pcall 21 [(.c (.str [98])), (.c (.str [49]))]), oK 1 (.alloc [(.str []), (zI 0), (.str []), (.str []), (zU 0), (.str []), .nilslice, .nilslice, .nilslice, .nilslice, .nilslice, .nilslice, .nilslice, .nilslice, .nilslice]), oN (.store 15 1 2)] [1])
 (.seq
 (.reg 2 [oQ 3 (.bld [(.str []), (zU 0), (zI 0), (.str []), (.str [])] [⟨0, ⟨1, (.c (.str [97]))⟩⟩]), oK 4 (.bslt 5 1 [(.str []), (zU 0), (zI 0), (.str []), (.str [])] [⟨0, ⟨5, 3⟩⟩]), oQ 5 (.faddr 9 1), oN (.store 1 5 4)] [1])
 (.seq
 (.dreg 3 [oK 6 (.pcall 21 [(.c (.str [97])), (.c (.str [49]))]), oK 7 (.pcall 21 [(.c (.str [97])), (.c (.str [51]))]), oQ 8 (.load (some 15) 1), oK 9 (.bslt 15 3 [(.str []), (zI 0), (.str []), (.str []), (zU 0), (.str []), .nilslice, .nilslice, .nilslice, .nilslice, .nilslice, .nilslice, .nilslice, .nilslice, .nilslice] [⟨0, ⟨15, 6⟩⟩, ⟨15, ⟨15, 7⟩⟩, ⟨30, ⟨15, 8⟩⟩]), oQ 10 (.bld [(zI 0), .nilslice] [⟨1, ⟨1, 9⟩⟩]), oK 11 (.bslt 2 1 [(zI 0), .nilslice] [⟨0, ⟨2, 10⟩⟩]), oM 0 11] false [0])
 .ret))))
theorem fok23 : FOK Tryz.prog 23 (12, ic23, [(.t 0)]) := fokA ([1000004, 1000009, 1000011] ++ [21]) Tryz.func23 (by kernel_rfl) (by kernel_rfl) (by kernel_rfl) (by kernel_rfl)
/-- chandlery/chandlerylaw15.job -/
def ic24 : IC :=
 (.seq
 (.reg 0 [oK 4 (.alloc [(zU 0), (.str []), (zU 0), (zI 0), (.str []), (.str [])])] [0, 1, 4])
 (.seq
 (.reg 1 [oM 5 0, oM 6 1, oQ 7 (.bld [(.str []), (zU 0), (zI 0), (.str []), (.str [])] [⟨0, ⟨1, 6⟩⟩]), oQ 8 (.bld [(zU 0), (.str []), (zU 0), (zI 0), (.str []), (.str [])] [⟨0, ⟨1, 5⟩⟩, ⟨1, ⟨5, 7⟩⟩]), oN (.store 6 4 8)] [4])
 .ret))
theorem fok24 : FOK Tryz.prog 24 (9, ic24, [(.cell (some 6) 4)]) := fokA [] Tryz.func24 (by kernel_rfl) (by kernel_rfl) (by kernel_rfl) (by kernel_rfl)
/-- chandlery/chandlerylaw15.of -/
def ic25 : IC :=
 (.seq
 (.reg 0 [oK 5 (.boxt 2), oM 6 (.c .nilptr), oM 7 (.c .nilptr), oM 8 (cB false)] [0, 1, 5])
 (.seq
 (.reg 1 [oM 14 0, oM 15 1, oK 16 (.call 22 [14, 15]), oM 13 16, oQ 17 (.ext 0 13), oQ 18 (.ext 1 13), oM 9 17, oM 10 18] [5, 9, 10])
 (.seq
 (.seq
 (.reg 2 [oM 19 10, oQ 20 (.bin .neq 19 (cI 0))] [5, 9, 20])
 (.cond 20
 (.seq
 (.reg 3 [oM 6 (.c .nilptr), oM 7 (.c .nilptr), oM 8 (cB false)] [6, 7, 8])
 .ret)
 .skip))
 (.seq
 (.reg 4 [oM 22 9, oQ 23 (.load (some 5) 5), oK 24 (.call 6 [22, 23]), oM 21 24, oQ 25 (.ext 0 21), oQ 26 (.ext 1 21), oM 11 25, oM 12 26] [9, 11, 12])
 (.seq
 (.reg 5 [oM 27 11, oM 28 9, oM 29 12, oQ 30 (.bin .eql 29 (cI 0)), oM 31 30, gQ 32 31 true (.mov 11), gQ 33 31 true (.isnil (.pointer 103) true 32), oQ 34 (.pick 31 33 (cB false)), oM 6 27, oM 7 28, oM 8 34] [6, 7, 8])
 .ret)))))
theorem fok25 : FOK Tryz.prog 25 (35, ic25, [(.t 6), (.t 7), (.t 8)]) := fokA [1000005] Tryz.func25 (by kernel_rfl) (by kernel_rfl) (by kernel_rfl) (by kernel_rfl)
/-- chandlery/chandlerylaw15.are -/
def ic26 : IC :=
 (.seq
 (.reg 0 [oM 4 (cB false)] [0, 1])
 (.seq
 (.reg 1 [oM 5 0, oM 6 1, oK 7 (.call 80 [5, 6]), oM 4 7] [4])
 .ret))
theorem fok26 : FOK Tryz.prog 26 (8, ic26, [(.t 4)]) := fokA [] Tryz.func26 (by kernel_rfl) (by kernel_rfl) (by kernel_rfl) (by kernel_rfl)
/-- chandlery/arch.Machine -/
def ic45 : IC :=
 (.seq
 (.reg 0 [oM 2 (cB false)] [0])
 (.seq
 (.reg 1 [oM 3 0, oK 4 (.call 109 [3]), oM 5 4, gQ 6 5 true (.mov 0), gQ 7 5 true (.bin .neq 6 (.c (zU 1))), oQ 8 (.pick 5 7 (cB false)), oM 2 8] [2])
 .ret))
theorem fok45 : FOK Tryz.prog 45 (9, ic45, [(.t 2)]) := fokA [] Tryz.func45 (by kernel_rfl) (by kernel_rfl) (by kernel_rfl) (by kernel_rfl)
/-- slices.ContainsFunc[[]chandlery/api.Job,chandlery/api.Job] -/
def ic46 : IC :=
 (.seq
 (.reg 0 [oM 4 (cB false)] [0, 1])
 (.seq
 (.reg 1 [oM 5 0, oM 6 1, oK 7 (.call 110 [5, 6]), oQ 8 (.bin .geq 7 (cI 0)), oM 4 8] [4])
 .ret))
theorem fok46 : FOK Tryz.prog 46 (9, ic46, [(.t 4)]) := fokA [] Tryz.func46 (by kernel_rfl) (by kernel_rfl) (by kernel_rfl) (by kernel_rfl)
/-- chandlery/ask.New$1 -/
def ic47 : IC :=
 (.seq
 (.reg 0 [oK 1 (.boxt 0), oM 2 (cB false)] [1])
 (.seq
 (.reg 1 [oQ 3 (.faddr 0 1), oQ 4 (.load none 3), oQ 5 (.bin .lss 4 (.c (zU 1))), oM 6 5, gQ 7 6 false (.faddr 0 1), gQ 8 6 false (.load none 7), gQ 9 6 false (.bin .gtr 8 (.c (zU 4))), oQ 10 (.pick 6 (cB true) 9), oM 11 10, gQ 12 11 false (.faddr 1 1), gQ 13 11 false (.load (some 5) 12), gK 14 11 false (.call 48 [13]), gQ 15 11 false (.not 14), oQ 16 (.pick 11 (cB true) 15), oM 2 16] [2])
 .ret))
theorem fok47 : FOK Tryz.prog 47 (17, ic47, [(.t 2)]) := fokA [1000001] Tryz.func47 (by kernel_rfl) (by kernel_rfl) (by kernel_rfl) (by kernel_rfl)
/-- chandlery/dep.May -/
def ic48 : IC :=
(.seq
 (.reg 0 [⟨(some 1), none, (.boxt (.t 0))⟩, ⟨(some 2), none, (.q (.mov (.c (.bool false))))⟩] [1])
 (.seq
  (.block 0
   (.seq
    (.reg 1 [⟨(some 4), none, (.q (.faddr 0 (.t 1)))⟩, ⟨(some 5), none, (.q (.load none (.t 4)))⟩, ⟨(some 6), none, (.call 111 [(.t 5)])⟩, ⟨(some 7), none, (.q (.not (.t 6)))⟩, ⟨(some 8), none, (.q (.mov (.t 7)))⟩, ⟨(some 9), (some ⟨8, false⟩), (.q (.faddr 1 (.t 1)))⟩, ⟨(some 10), (some ⟨8, false⟩), (.q (.load none (.t 9)))⟩, ⟨(some 11), (some ⟨8, false⟩), (.call 112 [(.t 10)])⟩, ⟨(some 12), (some ⟨8, false⟩), (.q (.not (.t 11)))⟩, ⟨(some 13), none, (.q (.pick (.t 8) (.c (.bool true)) (.t 12)))⟩, ⟨(some 3), none, (.q (.mov (.t 13)))⟩] [1, 3])
    (.cond (.t 3)
     (.seq
      (.reg 2 [⟨(some 2), none, (.q (.mov (.c (.bool false))))⟩] [2])
      .ret)
     (.seq
      (.reg 3 [⟨(some 15), none, (.q (.faddr 1 (.t 1)))⟩, ⟨(some 16), none, (.q (.load none (.t 15)))⟩, ⟨(some 17), none, (.q (.bin .eql (.t 16) (.c (.int .u8 0))))⟩, ⟨(some 14), none, (.q (.mov (.t 17)))⟩] [1, 14])
      (.cond (.t 14)
       (.seq
        (.reg 4 [⟨(some 18), none, (.q (.faddr 2 (.t 1)))⟩, ⟨(some 19), none, (.q (.load (some 3) (.t 18)))⟩, ⟨(some 20), none, (.q (.bld [(.int .i64 0), (.str []), (.str [])] []))⟩, ⟨(some 21), none, (.q (.eqs [1, 2, 2] true false (.t 19) (.t 20)))⟩, ⟨(some 2), none, (.q (.mov (.t 21)))⟩] [2])
        .ret)
       .skip)))))
  (.seq
   (.reg 5 [⟨(some 22), none, (.q (.faddr 0 (.t 1)))⟩, ⟨(some 23), none, (.q (.load none (.t 22)))⟩, ⟨(some 24), none, (.call 113 [(.t 23)])⟩, ⟨(some 25), none, (.q (.not (.t 24)))⟩, ⟨(some 26), none, (.q (.mov (.t 25)))⟩, ⟨(some 27), (some ⟨26, true⟩), (.q (.faddr 2 (.t 1)))⟩, ⟨(some 28), (some ⟨26, true⟩), (.q (.load (some 3) (.t 27)))⟩, ⟨(some 29), (some ⟨26, true⟩), (.call 114 [(.t 28), (.c (.bool true))])⟩, ⟨(some 30), none, (.q (.pick (.t 26) (.t 29) (.c (.bool false))))⟩, ⟨(some 2), none, (.q (.mov (.t 30)))⟩] [2])
   .ret)))
theorem fok48 : FOK Tryz.prog 48 (31, ic48, [(.t 2)]) := .mk (pf := [1000001]) (an := [(0, [1]), (1, [1, 3]), (2, [2]), (3, [1, 14]), (4, [2]), (5, [2])]) (by kernel_rfl) (fnOK_of Tryz.func48 (by kernel_rfl) (by kernel_rfl) (by kernel_rfl))
/-- slices.ContainsFunc[[]chandlery/api.Edit,chandlery/api.Edit] -/
def ic49 : IC :=
 (.seq
 (.reg 0 [oM 4 (cB false)] [0, 1])
 (.seq
 (.reg 1 [oM 5 0, oM 6 1, oK 7 (.call 115 [5, 6]), oQ 8 (.bin .geq 7 (cI 0)), oM 4 8] [4])
 .ret))
theorem fok49 : FOK Tryz.prog 49 (9, ic49, [(.t 4)]) := fokA [] Tryz.func49 (by kernel_rfl) (by kernel_rfl) (by kernel_rfl) (by kernel_rfl)
/-- chandlery/ask.New$2 -/
def ic50 : IC :=
 (.seq
 (.reg 0 [oK 3 (.boxt 0), oM 4 (cB false)] [1, 2, 3])
 (.seq
 (.dreg 1 [oQ 5 (.load (some 2) 3), oQ 6 (.faddr 2 1), oQ 7 (.load none 6), oQ 8 (.len 0 7), oQ 9 (.load none 2), oK 10 (.pcall 52 [9]), oK 11 (.pcall 51 [5, 8, 10]), oQ 12 (.not 11), oM 4 12] false [4])
 .ret))
theorem fok50 : FOK Tryz.prog 50 (13, ic50, [(.t 4)]) := fokA ([1000003] ++ [51, 52]) Tryz.func50 (by kernel_rfl) (by kernel_rfl) (by kernel_rfl) (by kernel_rfl)
/-- chandlery/ask.may -/
def ic51 : IC :=
 (.seq
 (.reg 0 [oK 3 (.boxt 0), oM 6 (cB false)] [1, 2, 3])
 (.seq
 (.reg 1 [oM 8 2, oM 7 8] [1, 3, 7])
 (.seq
 (.seq
 (.reg 2 [oQ 9 (.faddr 0 3), oQ 10 (.load none 9), oQ 11 (.bin .eql 10 (.c (zU 1)))] [1, 3, 7, 11])
 (.cond 11
 (.reg 3 [oM 12 1, oM 7 12] [3, 7])
 .skip))
 (.seq
 (.reg 4 [oQ 13 (.faddr 0 3), oQ 14 (.load none 13), oQ 15 (.bin .geq 14 (.c (zU 1))), oM 16 15, gQ 17 16 true (.faddr 0 3), gQ 18 16 true (.load none 17), gQ 19 16 true (.bin .leq 18 (.c (zU 4))), oQ 20 (.pick 16 19 (cB false)), oM 21 20, gQ 22 21 true (.faddr 1 3), gQ 23 21 true (.load none 22), gQ 24 21 true (.bin .geq 23 (cI 0)), oQ 25 (.pick 21 24 (cB false)), oM 26 25, gQ 27 26 true (.faddr 1 3), gQ 28 26 true (.load none 27), gQ 29 26 true (.mov 7), gQ 30 26 true (.bin .lss 28 29), oQ 31 (.pick 26 30 (cB false)), oM 6 31] [6])
 .ret))))
theorem fok51 : FOK Tryz.prog 51 (32, ic51, [(.t 6)]) := fokA [1000003] Tryz.func51 (by kernel_rfl) (by kernel_rfl) (by kernel_rfl) (by kernel_rfl)
/-- (*chandlery/pool.Pool).Installed -/
def ic52 : IC :=
(.seq
 (.reg 0 [⟨(some 2), none, (.q (.mov (.c (.int .i64 0))))⟩] [0])
 (.seq
  (.seq
   (.reg 1 [⟨(some 3), none, (.q (.mov (.t 0)))⟩, ⟨(some 4), none, (.q (.isnil (.pointer 119) false (.t 3)))⟩] [0, 4])
   (.cond (.t 4)
    (.seq
     (.reg 2 [⟨(some 2), none, (.q (.mov (.c (.int .i64 0))))⟩] [2])
     .ret)
    .skip))
  (.seq
   (.reg 3 [⟨(some 5), none, (.q (.mov (.t 0)))⟩, ⟨(some 6), none, (.q (.nchk (.t 5)))⟩, ⟨(some 7), none, (.q (.faddr 1 (.t 6)))⟩, ⟨(some 8), none, (.q (.load none (.t 7)))⟩, ⟨(some 2), none, (.q (.mov (.t 8)))⟩] [2])
   .ret)))
theorem fok52 : FOK Tryz.prog 52 (9, ic52, [(.t 2)]) := .mk (pf := []) (an := [(0, [0]), (1, [0, 4]), (2, [2]), (3, [2])]) (by kernel_rfl) (fnOK_of Tryz.func52 (by kernel_rfl) (by kernel_rfl) (by kernel_rfl))
/-- chandlery/match.New -/
def ic53 : IC :=
(.seq
 (.reg 0 [⟨(some 2), none, (.q (.mov (.c .nilptr)))⟩, ⟨(some 3), none, (.q (.mov (.c (.int .i64 0))))⟩] [0])
 (.seq
  (.seq
   (.reg 1 [⟨(some 11), none, (.q (.mov (.t 0)))⟩, ⟨(some 12), none, (.q (.isnil (.pointer 119) false (.t 11)))⟩] [0, 12])
   (.cond (.t 12)
    (.seq
     (.reg 2 [⟨(some 2), none, (.q (.mov (.c .nilptr)))⟩, ⟨(some 3), none, (.q (.mov (.c (.int .i64 2))))⟩] [2, 3])
     .ret)
    .skip))
  (.seq
   (.reg 3 [⟨(some 13), none, .mkmap⟩, ⟨(some 14), none, .mkmap⟩, ⟨(some 15), none, .mkmap⟩, ⟨(some 16), none, (.q (.bld [.nilslice, .nilmap, .nilmap, .nilmap] [⟨1, ⟨1, (.t 13)⟩⟩, ⟨2, ⟨1, (.t 14)⟩⟩, ⟨3, ⟨1, (.t 15)⟩⟩]))⟩, ⟨(some 17), none, (.box (.t 16))⟩, ⟨(some 4), none, (.q (.mov (.t 17)))⟩] [0, 4])
   (.seq
    (.seq
     (.reg 4 [⟨(some 18), none, (.q (.mov (.t 0)))⟩, ⟨(some 19), none, (.call 55 [(.t 18)])⟩, ⟨(some 20), none, (.q (.mov (.c (.int .i64 0))))⟩] [0, 4, 19, 20])
     (.block 0
      (.loop
       (.seq
        (.reg 5 [⟨(some 21), none, (.q (.bin .lss (.t 20) (.t 19)))⟩] [0, 4, 19, 20, 21])
        (.seq
         (.cond (.t 21)
          .skip
          (.exit 0))
         (.seq
          (.block 1
           (.seq
            (.reg 6 [⟨(some 22), none, (.q (.mov (.t 20)))⟩, ⟨(some 5), none, (.q (.mov (.t 22)))⟩] [0, 4, 5, 19, 20])
            (.seq
            (.reg 7 [⟨(some 24), none, (.q (.mov (.t 0)))⟩, ⟨(some 25), none, (.q (.mov (.t 5)))⟩, ⟨(some 26), none, (.call 56 [(.t 24), (.t 25)])⟩, ⟨(some 23), none, (.q (.mov (.t 26)))⟩, ⟨(some 27), none, (.q (.ext 0 (.t 23)))⟩, ⟨(some 28), none, (.q (.ext 1 (.t 23)))⟩, ⟨(some 6), none, (.alloc [(.str []), (.int .i64 0), (.str []), (.str []), (.int .u8 0), (.str []), .nilslice, .nilslice, .nilslice, .nilslice, .nilslice, .nilslice, .nilslice, .nilslice, .nilslice])⟩, ⟨none, none, (.store 15 (.t 6) (.t 27))⟩, ⟨(some 7), none, (.q (.mov (.t 28)))⟩] [0, 4, 5, 6, 7, 19, 20])
            (.seq
            (.seq
            (.reg 8 [⟨(some 29), none, (.q (.mov (.t 7)))⟩, ⟨(some 30), none, (.q (.bin .neq (.t 29) (.c (.int .i64 0))))⟩] [0, 4, 5, 6, 7, 19, 20, 30])
            (.cond (.t 30)
            (.seq
            (.reg 9 [⟨(some 31), none, (.q (.mov (.t 7)))⟩, ⟨(some 2), none, (.q (.mov (.c .nilptr)))⟩, ⟨(some 3), none, (.q (.mov (.t 31)))⟩] [2, 3])
            .ret)
            .skip))
            (.seq
            (.dreg 10 [⟨(some 32), none, (.q (.mov (.t 4)))⟩, ⟨(some 33), none, (.q (.mov (.t 4)))⟩, ⟨(some 34), none, (.q (.nchk (.t 33)))⟩, ⟨(some 35), none, (.q (.faddr 0 (.t 34)))⟩, ⟨(some 36), none, (.q (.load none (.t 35)))⟩, ⟨(some 37), none, (.q (.load (some 15) (.t 6)))⟩, ⟨(some 38), none, (.bslt 15 1 [(.str []), (.int .i64 0), (.str []), (.str []), (.int .u8 0), (.str []), .nilslice, .nilslice, .nilslice, .nilslice, .nilslice, .nilslice, .nilslice, .nilslice, .nilslice] [⟨0, ⟨15, (.t 37)⟩⟩])⟩, ⟨(some 39), none, (.app 15 (.t 36) (.t 38))⟩, ⟨(some 40), none, (.q (.nchk (.t 32)))⟩, ⟨(some 41), none, (.q (.faddr 0 (.t 40)))⟩, ⟨none, none, (.store 1 (.t 41) (.t 39))⟩] true [0, 4, 5, 6, 19, 20])
            (.seq
            (.dreg 11 [⟨(some 42), none, (.q (.mov (.t 4)))⟩, ⟨(some 43), none, (.q (.nchk (.t 42)))⟩, ⟨(some 44), none, (.q (.faddr 2 (.t 43)))⟩, ⟨(some 45), none, (.q (.load none (.t 44)))⟩, ⟨(some 46), none, (.q (.faddr 0 (.t 6)))⟩, ⟨(some 47), none, (.q (.load none (.t 46)))⟩, ⟨(some 48), none, (.q (.mov (.t 4)))⟩, ⟨(some 49), none, (.q (.nchk (.t 48)))⟩, ⟨(some 50), none, (.q (.faddr 2 (.t 49)))⟩, ⟨(some 51), none, (.q (.load none (.t 50)))⟩, ⟨(some 52), none, (.q (.faddr 0 (.t 6)))⟩, ⟨(some 53), none, (.q (.load none (.t 52)))⟩, ⟨(some 54), none, (.q (.lkp 2 .nilslice false (.t 51) (.t 53)))⟩, ⟨(some 55), none, (.q (.mov (.t 5)))⟩, ⟨(some 56), none, (.bslt 1 1 [(.int .i64 0)] [⟨0, ⟨1, (.t 55)⟩⟩])⟩, ⟨(some 57), none, (.app 1 (.t 54) (.t 56))⟩, ⟨none, none, (.mupd 2 (.t 45) (.t 47) (.t 57))⟩] true [0, 4, 5, 6, 19, 20])
            (.seq
            (.seq
            (.reg 12 [⟨(some 58), none, (.q (.load (some 15) (.t 6)))⟩, ⟨(some 59), none, (.call 116 [(.t 58)])⟩, ⟨(some 60), none, (.mrange (.t 59))⟩] [0, 4, 5, 6, 19, 20, 60])
            (.block 2
            (.loop
            (.seq
            (.reg 13 [⟨(some 61), none, (.mnext (.t 60))⟩, ⟨(some 62), none, (.q (.ext 0 (.t 61)))⟩] [0, 4, 5, 6, 19, 20, 60, 62])
            (.seq
            (.cond (.t 62)
            .skip
            (.exit 2))
            (.block 3
            (.seq
            (.reg 14 [⟨(some 63), none, (.ment (.t 60))⟩, ⟨(some 64), none, (.q (.ext 0 (.t 63)))⟩, ⟨(some 8), none, (.q (.mov (.t 64)))⟩] [0, 4, 5, 6, 8, 19, 20, 60])
            (.dreg 15 [⟨(some 65), none, (.q (.mov (.t 4)))⟩, ⟨(some 66), none, (.q (.nchk (.t 65)))⟩, ⟨(some 67), none, (.q (.faddr 1 (.t 66)))⟩, ⟨(some 68), none, (.q (.load none (.t 67)))⟩, ⟨(some 69), none, (.q (.mov (.t 8)))⟩, ⟨(some 70), none, (.q (.mov (.t 4)))⟩, ⟨(some 71), none, (.q (.nchk (.t 70)))⟩, ⟨(some 72), none, (.q (.faddr 1 (.t 71)))⟩, ⟨(some 73), none, (.q (.load none (.t 72)))⟩, ⟨(some 74), none, (.q (.mov (.t 8)))⟩, ⟨(some 75), none, (.q (.lkp 2 .nilslice false (.t 73) (.t 74)))⟩, ⟨(some 76), none, (.q (.mov (.t 5)))⟩, ⟨(some 77), none, (.bslt 1 1 [(.int .i64 0)] [⟨0, ⟨1, (.t 76)⟩⟩])⟩, ⟨(some 78), none, (.app 1 (.t 75) (.t 77))⟩, ⟨none, none, (.mupd 2 (.t 68) (.t 69) (.t 78))⟩] true [0, 4, 5, 6, 19, 20, 60]))))))))
            (.seq
            (.reg 16 [⟨(some 79), none, (.q (.faddr 9 (.t 6)))⟩, ⟨(some 80), none, (.q (.load none (.t 79)))⟩, ⟨(some 81), none, (.q (.len 0 (.t 80)))⟩, ⟨(some 82), none, (.q (.mov (.c (.int .i64 0))))⟩] [0, 4, 5, 19, 20, 80, 81, 82])
            (.block 4
            (.loop
            (.seq
            (.reg 17 [⟨(some 83), none, (.q (.bin .lss (.t 82) (.t 81)))⟩] [0, 4, 5, 19, 20, 80, 81, 82, 83])
            (.seq
            (.cond (.t 83)
            .skip
            (.exit 4))
            (.seq
            (.block 5
            (.seq
            (.reg 18 [⟨(some 84), none, (.q (.iaddr 5 (.t 80) (.t 82)))⟩, ⟨(some 85), none, (.q (.load (some 5) (.t 84)))⟩, ⟨(some 10), none, (.alloc [(.str []), (.int .u8 0), (.int .i64 0), (.str []), (.str [])])⟩, ⟨none, none, (.store 5 (.t 10) (.t 85))⟩] [0, 4, 5, 10, 19, 20, 80, 81, 82])
            (.seq
            (.dreg 19 [⟨(some 86), none, (.q (.mov (.t 4)))⟩, ⟨(some 87), none, (.q (.nchk (.t 86)))⟩, ⟨(some 88), none, (.q (.faddr 3 (.t 87)))⟩, ⟨(some 89), none, (.q (.load none (.t 88)))⟩, ⟨(some 90), none, (.q (.faddr 0 (.t 10)))⟩, ⟨(some 91), none, (.q (.load none (.t 90)))⟩, ⟨(some 92), none, (.q (.lkp 2 .nilslice false (.t 89) (.t 91)))⟩, ⟨(some 93), none, (.q (.mov (.t 5)))⟩, ⟨(some 94), none, (.call 117 [(.t 92), (.t 93)])⟩, ⟨(some 95), none, (.q (.not (.t 94)))⟩] false [0, 4, 5, 10, 19, 20, 80, 81, 82, 95])
            (.cond (.t 95)
            (.dreg 20 [⟨(some 96), none, (.q (.mov (.t 4)))⟩, ⟨(some 97), none, (.q (.nchk (.t 96)))⟩, ⟨(some 98), none, (.q (.faddr 3 (.t 97)))⟩, ⟨(some 99), none, (.q (.load none (.t 98)))⟩, ⟨(some 100), none, (.q (.faddr 0 (.t 10)))⟩, ⟨(some 101), none, (.q (.load none (.t 100)))⟩, ⟨(some 102), none, (.q (.mov (.t 4)))⟩, ⟨(some 103), none, (.q (.nchk (.t 102)))⟩, ⟨(some 104), none, (.q (.faddr 3 (.t 103)))⟩, ⟨(some 105), none, (.q (.load none (.t 104)))⟩, ⟨(some 106), none, (.q (.faddr 0 (.t 10)))⟩, ⟨(some 107), none, (.q (.load none (.t 106)))⟩, ⟨(some 108), none, (.q (.lkp 2 .nilslice false (.t 105) (.t 107)))⟩, ⟨(some 109), none, (.q (.mov (.t 5)))⟩, ⟨(some 110), none, (.bslt 1 1 [(.int .i64 0)] [⟨0, ⟨1, (.t 109)⟩⟩])⟩, ⟨(some 111), none, (.app 1 (.t 108) (.t 110))⟩, ⟨none, none, (.mupd 2 (.t 99) (.t 101) (.t 111))⟩] true [0, 4, 5, 19, 20, 80, 81, 82])
            .skip))))
            (.reg 21 [⟨(some 112), none, (.q (.bin .add (.t 82) (.c (.int .i64 1))))⟩, ⟨(some 82), none, (.q (.mov (.t 112)))⟩] [0, 4, 5, 19, 20, 80, 81, 82]))))))))))))))
          (.reg 22 [⟨(some 113), none, (.q (.bin .add (.t 20) (.c (.int .i64 1))))⟩, ⟨(some 20), none, (.q (.mov (.t 113)))⟩] [0, 4, 19, 20])))))))
    (.seq
     (.reg 23 [⟨(some 114), none, (.q (.mov (.t 4)))⟩, ⟨(some 2), none, (.q (.mov (.t 114)))⟩, ⟨(some 3), none, (.q (.mov (.c (.int .i64 0))))⟩] [2, 3])
     .ret)))))
theorem fok53 : FOK Tryz.prog 53 (115, ic53, [(.t 2), (.t 3)]) := .mk (pf := [1000038, 1000056, 1000077, 1000110]) (an := [(0, [0]), (1, [0, 12]), (2, [2, 3]), (3, [0, 4]), (4, [0, 4, 19, 20]), (5, [0, 4, 19, 20, 21]), (6, [0, 4, 5, 19, 20]), (7, [0, 4, 5, 6, 7, 19, 20]), (8, [0, 4, 5, 6, 7, 19, 20, 30]), (9, [2, 3]), (10, [0, 4, 5, 6, 19, 20]), (11, [0, 4, 5, 6, 19, 20]), (12, [0, 4, 5, 6, 19, 20, 60]), (13, [0, 4, 5, 6, 19, 20, 60, 62]), (14, [0, 4, 5, 6, 8, 19, 20, 60]), (15, [0, 4, 5, 6, 19, 20, 60]), (16, [0, 4, 5, 19, 20, 80, 81, 82]), (17, [0, 4, 5, 19, 20, 80, 81, 82, 83]), (18, [0, 4, 5, 10, 19, 20, 80, 81, 82]), (19, [0, 4, 5, 10, 19, 20, 80, 81, 82, 95]), (20, [0, 4, 5, 19, 20, 80, 81, 82]), (21, [0, 4, 5, 19, 20, 80, 81, 82]), (22, [0, 4, 19, 20]), (23, [2, 3])]) (by kernel_rfl) (fnOK_of Tryz.func53 (by kernel_rfl) (by kernel_rfl) (by kernel_rfl))
/-- chandlery/ask.own -/
def ic54 : IC :=
 (.seq
 (.reg 0 [oK 1 (.box 0), oK 2 (.alloc [(zU 0), (.bool false), .nilslice, .nilslice, (zI 0)])] [1, 2])
 (.seq
 (.dreg 1 [oQ 3 (.faddr 2 1), oQ 4 (.load none 3), oK 5 (.pcall 118 [4]), oQ 6 (.faddr 3 1), oQ 7 (.load none 6), oK 8 (.pcall 119 [7]), oQ 9 (.faddr 2 1), oN (.store 1 9 5), oQ 10 (.faddr 3 1), oN (.store 1 10 8)] false [1, 2])
 (.seq
 (.reg 2 [oQ 11 (.load (some 5) 1), oN (.store 5 2 11)] [2])
 .ret)))
theorem fok54 : FOK Tryz.prog 54 (12, ic54, [(.cell (some 5) 2)]) := fokA ([] ++ [118, 119]) Tryz.func54 (by kernel_rfl) (by kernel_rfl) (by kernel_rfl) (by kernel_rfl)
/-- (*chandlery/pool.Pool).Count -/
def ic55 : IC :=
(.seq
 (.reg 0 [⟨(some 2), none, (.q (.mov (.c (.int .i64 0))))⟩] [0])
 (.seq
  (.seq
   (.reg 1 [⟨(some 3), none, (.q (.mov (.t 0)))⟩, ⟨(some 4), none, (.q (.isnil (.pointer 119) false (.t 3)))⟩] [0, 4])
   (.cond (.t 4)
    (.seq
     (.reg 2 [⟨(some 2), none, (.q (.mov (.c (.int .i64 0))))⟩] [2])
     .ret)
    .skip))
  (.seq
   (.reg 3 [⟨(some 5), none, (.q (.mov (.t 0)))⟩, ⟨(some 6), none, (.q (.nchk (.t 5)))⟩, ⟨(some 7), none, (.q (.faddr 0 (.t 6)))⟩, ⟨(some 8), none, (.q (.load none (.t 7)))⟩, ⟨(some 9), none, (.q (.len 0 (.t 8)))⟩, ⟨(some 2), none, (.q (.mov (.t 9)))⟩] [2])
   .ret)))
theorem fok55 : FOK Tryz.prog 55 (10, ic55, [(.t 2)]) := .mk (pf := []) (an := [(0, [0]), (1, [0, 4]), (2, [2]), (3, [2])]) (by kernel_rfl) (fnOK_of Tryz.func55 (by kernel_rfl) (by kernel_rfl) (by kernel_rfl))
/-- (*chandlery/pool.Pool).Package -/
def ic56 : IC :=
(.seq
 (.reg 0 [⟨(some 4), none, (.alloc [(.str []), (.int .i64 0), (.str []), (.str []), (.int .u8 0), (.str []), .nilslice, .nilslice, .nilslice, .nilslice, .nilslice, .nilslice, .nilslice, .nilslice, .nilslice])⟩, ⟨(some 5), none, (.q (.mov (.c (.int .i64 0))))⟩] [0, 1, 4])
 (.seq
  (.seq
   (.reg 1 [⟨(some 6), none, (.q (.mov (.t 0)))⟩, ⟨(some 7), none, (.q (.isnil (.pointer 119) false (.t 6)))⟩, ⟨(some 8), none, (.q (.mov (.t 7)))⟩, ⟨(some 9), (some ⟨8, false⟩), (.q (.mov (.t 0)))⟩, ⟨(some 10), (some ⟨8, false⟩), (.q (.nchk (.t 9)))⟩, ⟨(some 11), (some ⟨8, false⟩), (.q (.faddr 0 (.t 10)))⟩, ⟨(some 12), (some ⟨8, false⟩), (.q (.load none (.t 11)))⟩, ⟨(some 13), (some ⟨8, false⟩), (.q (.mov (.t 1)))⟩, ⟨(some 14), (some ⟨8, false⟩), (.call 120 [(.t 12), (.t 13)])⟩, ⟨(some 15), (some ⟨8, false⟩), (.q (.not (.t 14)))⟩, ⟨(some 16), none, (.q (.pick (.t 8) (.c (.bool true)) (.t 15)))⟩] [0, 1, 4, 16])
   (.cond (.t 16)
    (.seq
     (.reg 2 [⟨(some 17), none, (.q (.bld [(.str []), (.int .i64 0), (.str []), (.str []), (.int .u8 0), (.str []), .nilslice, .nilslice, .nilslice, .nilslice, .nilslice, .nilslice, .nilslice, .nilslice, .nilslice] []))⟩, ⟨none, none, (.store 15 (.t 4) (.t 17))⟩, ⟨(some 5), none, (.q (.mov (.c (.int .i64 5))))⟩] [4, 5])
     .ret)
    .skip))
  (.seq
   (.reg 3 [⟨(some 18), none, (.q (.mov (.t 0)))⟩, ⟨(some 19), none, (.q (.nchk (.t 18)))⟩, ⟨(some 20), none, (.q (.faddr 0 (.t 19)))⟩, ⟨(some 21), none, (.q (.load none (.t 20)))⟩, ⟨(some 22), none, (.q (.mov (.t 1)))⟩, ⟨(some 23), none, (.q (.iaddr 17 (.t 21) (.t 22)))⟩, ⟨(some 24), none, (.q (.faddr 0 (.t 23)))⟩, ⟨(some 25), none, (.q (.load (some 15) (.t 24)))⟩, ⟨(some 26), none, (.call 121 [(.t 25)])⟩, ⟨none, none, (.store 15 (.t 4) (.t 26))⟩, ⟨(some 5), none, (.q (.mov (.c (.int .i64 0))))⟩] [4, 5])
   .ret)))
theorem fok56 : FOK Tryz.prog 56 (27, ic56, [(.cell (some 15) 4), (.t 5)]) := .mk (pf := []) (an := [(0, [0, 1, 4]), (1, [0, 1, 4, 16]), (2, [4, 5]), (3, [4, 5])]) (by kernel_rfl) (fnOK_of Tryz.func56 (by kernel_rfl) (by kernel_rfl) (by kernel_rfl))
/-- (*chandlery/ask.Ask).is -/
def ic57 : IC :=
 (.seq
 (.reg 0 [oM 4 (cB false)] [0, 1])
 (.seq
 (.reg 1 [oM 5 0, oQ 6 (.isnil (.pointer 103) true 5), oM 7 6, gQ 8 7 true (.mov 1), gQ 9 7 true (.bin .geq 8 (cI 0)), oQ 10 (.pick 7 9 (cB false)), oM 11 10, gQ 12 11 true (.mov 1), gQ 13 11 true (.mov 0), gQ 14 11 true (.nchk 13), gQ 15 11 true (.faddr 7 14), gQ 16 11 true (.load none 15), gQ 17 11 true (.len 0 16), gQ 18 11 true (.bin .lss 12 17), oQ 19 (.pick 11 18 (cB false)), oM 4 19] [4])
 .ret))
theorem fok57 : FOK Tryz.prog 57 (20, ic57, [(.t 4)]) := fokA [] Tryz.func57 (by kernel_rfl) (by kernel_rfl) (by kernel_rfl) (by kernel_rfl)
/-- chandlery/arch.Fits -/
def ic58 : IC :=
 (.seq
 (.reg 0 [oM 4 (cB false)] [0, 1])
 (.seq
 (.reg 1 [oM 5 0, oM 6 1, oK 7 (.call 122 [5, 6]), oQ 8 (.bin .gtr 7 (cI 0)), oM 4 8] [4])
 .ret))
theorem fok58 : FOK Tryz.prog 58 (9, ic58, [(.t 4)]) := fokA [] Tryz.func58 (by kernel_rfl) (by kernel_rfl) (by kernel_rfl) (by kernel_rfl)
/-- chandlery/arch.Apart -/
def ic59 : IC :=
 (.seq
 (.reg 0 [oM 4 (cB false)] [0, 1])
 (.seq
 (.reg 1 [oM 5 0, oK 6 (.call 45 [5]), oM 7 6, gQ 8 7 true (.mov 1), gK 9 7 true (.call 45 [8]), oQ 10 (.pick 7 9 (cB false)), oM 11 10, gQ 12 11 true (.mov 0), gQ 13 11 true (.mov 1), gQ 14 11 true (.bin .neq 12 13), oQ 15 (.pick 11 14 (cB false)), oM 4 15] [4])
 .ret))
theorem fok59 : FOK Tryz.prog 59 (16, ic59, [(.t 4)]) := fokA [] Tryz.func59 (by kernel_rfl) (by kernel_rfl) (by kernel_rfl) (by kernel_rfl)
/-- chandlery/evr.Compare -/
def ic60 : IC :=
 (.seq
 (.reg 0 [oK 2 (.boxt 0), oK 3 (.boxt 1), oM 4 (cI 0)] [2, 3])
 (.seq
 (.reg 1 [oQ 5 (.mkf 124 [] [2, 3]), oQ 6 (.mkf 125 [] [2, 3]), oQ 7 (.mkf 127 [] [2, 3]), oK 8 (.bslt 1 3 [.nilfunc] [⟨0, ⟨1, 5⟩⟩, ⟨1, ⟨1, 6⟩⟩, ⟨2, ⟨1, 7⟩⟩]), oK 9 (.call 123 [8]), oM 4 9] [4])
 .ret))
theorem fok60 : FOK Tryz.prog 60 (10, ic60, [(.t 4)]) := fokA [1000002, 1000003, 1000008] Tryz.func60 (by kernel_rfl) (by kernel_rfl) (by kernel_rfl) (by kernel_rfl)
/-- (*chandlery/ask.Ask).job -/
def ic61 : IC :=
 (.seq
 (.reg 0 [oM 4 (cB false)] [0, 1])
 (.seq
 (.reg 1 [oM 5 0, oQ 6 (.isnil (.pointer 103) true 5), oM 7 6, gQ 8 7 true (.mov 1), gQ 9 7 true (.bin .geq 8 (cI 0)), oQ 10 (.pick 7 9 (cB false)), oM 11 10, gQ 12 11 true (.mov 1), gQ 13 11 true (.mov 0), gQ 14 11 true (.nchk 13), gQ 15 11 true (.faddr 2 14), gQ 16 11 true (.faddr 2 15), gQ 17 11 true (.load none 16), gQ 18 11 true (.len 0 17), gQ 19 11 true (.bin .lss 12 18), oQ 20 (.pick 11 19 (cB false)), oM 4 20] [4])
 .ret))
theorem fok61 : FOK Tryz.prog 61 (21, ic61, [(.t 4)]) := fokA [] Tryz.func61 (by kernel_rfl) (by kernel_rfl) (by kernel_rfl) (by kernel_rfl)
/-- (*chandlery/ask.Ask).edited -/
def ic62 : IC :=
 (.seq
 (.reg 0 [oM 6 (cB false)] [0, 1, 2])
 (.seq
 (.reg 1 [oM 7 0, oQ 8 (.nchk 7), oQ 9 (.faddr 2 8), oQ 10 (.faddr 3 9), oQ 11 (.load none 10), oM 12 1, oM 13 2, oQ 14 (.bld [(zU 0), (zI 0)] [⟨0, ⟨1, 12⟩⟩, ⟨1, ⟨1, 13⟩⟩]), oK 15 (.call 128 [11, 14]), oM 6 15] [6])
 .ret))
theorem fok62 : FOK Tryz.prog 62 (16, ic62, [(.t 6)]) := fokA [] Tryz.func62 (by kernel_rfl) (by kernel_rfl) (by kernel_rfl) (by kernel_rfl)
/-- (*chandlery/ask.Ask).installed -/
def ic63 : IC :=
 (.seq
 (.reg 0 [oM 4 (cB false)] [0, 1])
 (.seq
 (.reg 1 [oM 5 0, oM 6 1, oK 7 (.call 57 [5, 6]), oM 8 7, gQ 9 8 true (.mov 1), gQ 10 8 true (.mov 0), gQ 11 8 true (.nchk 10), gQ 12 8 true (.faddr 0 11), gQ 13 8 true (.load none 12), gK 14 8 true (.call 52 [13]), gQ 15 8 true (.bin .lss 9 14), oQ 16 (.pick 8 15 (cB false)), oM 4 16] [4])
 .ret))
theorem fok63 : FOK Tryz.prog 63 (17, ic63, [(.t 4)]) := fokA [] Tryz.func63 (by kernel_rfl) (by kernel_rfl) (by kernel_rfl) (by kernel_rfl)
/-- (*chandlery/ask.Ask).named -/
def ic64 : IC :=
 (.seq
 (.reg 0 [oM 6 (cB false)] [0, 1, 2])
 (.seq
 (.seq
 (.reg 1 [oM 9 0, oQ 10 (.nchk 9), oQ 11 (.faddr 2 10), oQ 12 (.faddr 2 11), oQ 13 (.load none 12), oQ 14 (.len 0 13), oM 15 (cI 0)] [0, 1, 2, 13, 14, 15])
 (.block 0
 (.loop
 (.seq
 (.reg 2 [oQ 16 (.bin .lss 15 14)] [0, 1, 2, 13, 14, 15, 16])
 (.seq
 (.cond 16
 .skip
 (.exit 0))
 (.seq
 (.block 1
 (.seq
 (.reg 3 [oM 17 15, oQ 18 (.iaddr 6 13 15), oQ 19 (.load (some 6) 18), oK 8 (.alloc [(zU 0), (.str []), (zU 0), (zI 0), (.str []), (.str [])]), oM 7 17, oN (.store 6 8 19)] [0, 1, 2, 7, 8, 13, 14, 15])
 (.seq
 (.dreg 4 [oQ 20 (.faddr 0 8), oQ 21 (.load none 20), oM 22 1, oQ 23 (.bin .eql 21 22), oM 24 23, gQ 25 24 true (.mov 0), gQ 26 24 true (.mov 7), gK 27 24 true (.pcall 15 [25, 26]), gQ 28 24 true (.not 27), oQ 29 (.pick 24 28 (cB false)), oM 30 29, gQ 31 30 true (.mov 0), gQ 32 30 true (.nchk 31), gQ 33 30 true (.faddr 1 32), gQ 34 30 true (.load none 33), gQ 35 30 true (.faddr 1 8), gQ 36 30 true (.load (some 5) 35), gK 37 30 true (.pcall 73 [34, 36]), gQ 38 30 true (.mov 2), gK 39 30 true (.pcall 117 [37, 38]), oQ 40 (.pick 30 39 (cB false))] false [0, 1, 2, 13, 14, 15, 40])
 (.cond 40
 (.seq
 (.reg 5 [oM 6 (cB true)] [6])
 .ret)
 .skip))))
 (.reg 6 [oQ 41 (.bin .add 15 (cI 1)), oM 15 41] [0, 1, 2, 13, 14, 15])))))))
 (.seq
 (.reg 7 [oM 6 (cB false)] [6])
 .ret)))
theorem fok64 : FOK Tryz.prog 64 (42, ic64, [(.t 6)]) := fokA ([] ++ [15, 73, 117]) Tryz.func64 (by kernel_rfl) (by kernel_rfl) (by kernel_rfl) (by kernel_rfl)
/-- (*chandlery/ask.Ask).Successors$1 -/
def ic65 : IC :=
 (.seq
 (.reg 0 [oK 5 (.boxt 0), oM 6 (cB false)] [1, 2, 3, 4, 5])
 (.seq
 (.reg 1 [oQ 7 (.faddr 0 5), oQ 8 (.load none 7), oQ 9 (.faddr 0 1), oQ 10 (.load none 9), oQ 11 (.bin .eql 8 10), oM 12 11, gQ 13 12 true (.load none 2), gQ 14 12 true (.mov 13), gQ 15 14 false (.faddr 1 5), gQ 16 14 false (.load (some 3) 15), gQ 17 14 false (.faddr 1 1), gQ 18 14 false (.load (some 3) 17), gK 19 14 false (.call 60 [16, 18]), gQ 20 14 false (.bin .geq 19 (cI 0)), gQ 21 12 true (.pick 14 (cB true) 20), oQ 22 (.pick 12 21 (cB false)), oM 23 22, gQ 24 23 true (.load none 3), gQ 25 23 true (.mov 24), gQ 26 25 false (.faddr 4 5), gQ 27 25 false (.load none 26), gQ 28 25 false (.faddr 4 1), gQ 29 25 false (.load none 28), gK 30 25 false (.call 66 [27, 29]), gQ 31 23 true (.pick 25 (cB true) 30), oQ 32 (.pick 23 31 (cB false)), oM 33 32, gQ 34 33 true (.load none 4), gQ 35 33 true (.nchk 34), gQ 36 33 true (.faddr 2 35), gQ 37 33 true (.faddr 1 36), gQ 38 33 true (.load none 37), gQ 39 33 true (.mov 38), gQ 40 39 false (.faddr 5 5), gQ 41 39 false (.load none 40), gQ 42 39 false (.faddr 5 1), gQ 43 39 false (.load none 42), gQ 44 39 false (.bin .eql 41 43), gQ 45 33 true (.pick 39 (cB true) 44), oQ 46 (.pick 33 45 (cB false)), oM 6 46] [6])
 .ret))
theorem fok65 : FOK Tryz.prog 65 (47, ic65, [(.t 6)]) := fokA [1000005] Tryz.func65 (by kernel_rfl) (by kernel_rfl) (by kernel_rfl) (by kernel_rfl)
/-- chandlery/arch.Follows -/
def ic66 : IC :=
 (.seq
 (.reg 0 [oM 4 (cB false)] [0, 1])
 (.seq
 (.reg 1 [oM 5 0, oK 6 (.call 109 [5]), oM 7 6, gQ 8 7 true (.mov 1), gK 9 7 true (.call 109 [8]), oQ 10 (.pick 7 9 (cB false)), oM 11 10, gQ 12 11 true (.mov 0), gQ 13 11 true (.mov 1), gK 14 11 true (.call 59 [12, 13]), gQ 15 11 true (.not 14), oQ 16 (.pick 11 15 (cB false)), oM 4 16] [4])
 .ret))
theorem fok66 : FOK Tryz.prog 66 (17, ic66, [(.t 4)]) := fokA [] Tryz.func66 (by kernel_rfl) (by kernel_rfl) (by kernel_rfl) (by kernel_rfl)
/-- (*chandlery/match.Index).Obsoleters -/
def ic67 : IC :=
 (.seq
 (.reg 0 [oK 2 (.boxt 0), oK 3 (.boxt 1), oM 4 (.c .nilslice)] [2, 3])
 (.seq
 (.seq
 (.reg 1 [oQ 5 (.load none 2), oQ 6 (.load none 3), oK 7 (.call 129 [5, 6]), oQ 8 (.not 7)] [2, 3, 8])
 (.cond 8
 (.seq
 (.reg 2 [oM 4 (.c .nilslice)] [4])
 .ret)
 .skip))
 (.seq
 (.dreg 3 [oQ 9 (.load none 2), oQ 10 (.load none 2), oQ 11 (.nchk 10), oQ 12 (.faddr 3 11), oQ 13 (.load none 12), oQ 14 (.load none 2), oQ 15 (.nchk 14), oQ 16 (.faddr 0 15), oQ 17 (.load none 16), oQ 18 (.load none 3), oQ 19 (.iaddr 15 17 18), oQ 20 (.faddr 0 19), oQ 21 (.load none 20), oQ 22 (.lkp 2 .nilslice false 13 21), oQ 23 (.mkf 131 [] [3, 2]), oK 24 (.call 130 [9, 22, 23]), oM 4 24] false [4])
 .ret)))
theorem fok67 : FOK Tryz.prog 67 (25, ic67, [(.t 4)]) := fokA [1000002, 1000003] Tryz.func67 (by kernel_rfl) (by kernel_rfl) (by kernel_rfl) (by kernel_rfl)
/-- slices.Sort[[]int,int] -/
def ic68 : IC :=
 (.seq
 (.reg 0 [oM 3 0, oQ 4 (.len 0 3), oM 2 4] [0, 2])
 (.reg 1 [oM 5 0, oM 6 2, oM 7 2, oQ 8 (.conv .u64 7), oK 9 (.call 134 [8]), oK 10 (.call 133 [5, (cI 0), 6, 9])] []))
theorem fok68 : FOK Tryz.prog 68 (11, ic68, []) := fokA [] Tryz.func68 (by kernel_rfl) (by kernel_rfl) (by kernel_rfl) (by kernel_rfl)
/-- slices.Compact[[]int,int] -/
def ic69 : IC :=
 (.seq
 (.reg 0 [oM 2 (.c .nilslice)] [0])
 (.seq
 (.seq
 (.reg 1 [oM 6 0, oQ 7 (.len 0 6), oQ 8 (.bin .lss 7 (cI 2))] [0, 8])
 (.cond 8
 (.seq
 (.reg 2 [oM 9 0, oM 2 9] [2])
 .ret)
 .skip))
 (.seq
 (.seq
 (.reg 3 [oM 3 (cI 1)] [0, 3])
 (.block 0
 (.loop
 (.seq
 (.seq
 (.reg 4 [oM 10 3, oM 11 0, oQ 12 (.len 0 11), oQ 13 (.bin .lss 10 12)] [0, 3, 13])
 (.cond 13
 .skip
 (.exit 0)))
 (.seq
 (.block 1
 (.seq
 (.dreg 6 [oM 16 0, oM 17 3, oQ 18 (.iaddr 1 16 17), oQ 19 (.load none 18), oM 20 0, oM 21 3, oQ 22 (.bin .sub 21 (cI 1)), oQ 23 (.iaddr 1 20 22), oQ 24 (.load none 23), oQ 25 (.bin .eql 19 24)] false [0, 3, 25])
 (.cond 25
 (.seq
 (.reg 7 [oM 26 0, oM 27 3, oQ 28 (.slc 1 26 (some 27) none), oM 4 28] [0, 3, 4])
 (.seq
 (.seq
 (.reg 8 [oM 5 (cI 1)] [0, 3, 4, 5])
 (.block 2
 (.loop
 (.seq
 (.seq
 (.reg 9 [oM 29 5, oM 30 4, oQ 31 (.len 0 30), oQ 32 (.bin .lss 29 31)] [0, 3, 4, 5, 32])
 (.cond 32
 .skip
 (.exit 2)))
 (.seq
 (.block 3
 (.seq
 (.dreg 11 [oM 35 4, oM 36 5, oQ 37 (.iaddr 1 35 36), oQ 38 (.load none 37), oM 39 4, oM 40 5, oQ 41 (.bin .sub 40 (cI 1)), oQ 42 (.iaddr 1 39 41), oQ 43 (.load none 42), oQ 44 (.bin .neq 38 43)] false [0, 3, 4, 5, 44])
 (.cond 44
 (.seq
 (.reg 12 [oM 45 0, oM 46 3, oM 47 4, oM 48 5, oQ 49 (.iaddr 1 47 48), oQ 50 (.load none 49), oQ 51 (.iaddr 1 45 46), oN (.store 1 51 50)] [0, 3, 4, 5])
 (.reg 13 [oM 52 3, oQ 53 (.bin .add 52 (cI 1)), oM 3 53] [0, 3, 4, 5]))
 .skip)))
 (.reg 10 [oM 33 5, oQ 34 (.bin .add 33 (cI 1)), oM 5 34] [0, 3, 4, 5]))))))
 (.seq
 (.reg 14 [oM 54 0, oM 55 3, oQ 56 (.slc 1 54 (some 55) none), oN (.clr 1 [(zI 0)] 56)] [0, 3])
 (.seq
 (.reg 15 [oM 57 0, oM 58 3, oQ 59 (.slc 1 57 none (some 58)), oM 2 59] [2])
 .ret))))
 .skip)))
 (.reg 5 [oM 14 3, oQ 15 (.bin .add 14 (cI 1)), oM 3 15] [0, 3]))))))
 (.seq
 (.reg 16 [oM 60 0, oM 2 60] [2])
 .ret))))
theorem fok69 : FOK Tryz.prog 69 (61, ic69, [(.t 2)]) := fokA [] Tryz.func69 (by kernel_rfl) (by kernel_rfl) (by kernel_rfl) (by kernel_rfl)
/-- slices.DeleteFunc[[]int,int] -/
def ic70 : IC :=
 (.seq
 (.reg 0 [oM 4 (.c .nilslice)] [0, 1])
 (.seq
 (.reg 1 [oM 8 0, oM 9 1, oK 10 (.call 135 [8, 9]), oM 5 10] [0, 1, 5])
 (.seq
 (.seq
 (.reg 2 [oM 11 5, oQ 12 (.bin .eql 11 (cI (-1)))] [0, 1, 5, 12])
 (.cond 12
 (.seq
 (.reg 3 [oM 13 0, oM 4 13] [4])
 .ret)
 .skip))
 (.seq
 (.seq
 (.reg 4 [oM 14 5, oQ 15 (.bin .add 14 (cI 1)), oM 6 15] [0, 1, 5, 6])
 (.block 0
 (.loop
 (.seq
 (.seq
 (.reg 5 [oM 16 6, oM 17 0, oQ 18 (.len 0 17), oQ 19 (.bin .lss 16 18)] [0, 1, 5, 6, 19])
 (.cond 19
 .skip
 (.exit 0)))
 (.seq
 (.block 1
 (.seq
 (.reg 7 [oM 22 0, oM 23 6, oQ 24 (.iaddr 1 22 23), oQ 25 (.load none 24), oM 7 25] [0, 1, 5, 6, 7])
 (.seq
 (.reg 8 [oM 26 1, oM 27 7, oK 28 (.callv 26 [27]), oQ 29 (.not 28)] [0, 1, 5, 6, 7, 29])
 (.cond 29
 (.seq
 (.reg 9 [oM 30 0, oM 31 5, oM 32 7, oQ 33 (.iaddr 1 30 31), oN (.store 1 33 32)] [0, 1, 5, 6])
 (.reg 10 [oM 34 5, oQ 35 (.bin .add 34 (cI 1)), oM 5 35] [0, 1, 5, 6]))
 .skip))))
 (.reg 6 [oM 20 6, oQ 21 (.bin .add 20 (cI 1)), oM 6 21] [0, 1, 5, 6]))))))
 (.seq
 (.reg 11 [oM 36 0, oM 37 5, oQ 38 (.slc 1 36 (some 37) none), oN (.clr 1 [(zI 0)] 38)] [0, 5])
 (.seq
 (.reg 12 [oM 39 0, oM 40 5, oQ 41 (.slc 1 39 none (some 40)), oM 4 41] [4])
 .ret))))))
theorem fok70 : FOK Tryz.prog 70 (42, ic70, [(.t 4)]) := fokA [] Tryz.func70 (by kernel_rfl) (by kernel_rfl) (by kernel_rfl) (by kernel_rfl)
/-- (*chandlery/ask.Ask).Newcomers$1 -/
def ic71 : IC :=
 (.seq
 (.reg 0 [oM 3 (cB false)] [0, 1])
 (.seq
 (.reg 1 [oQ 4 (.load none 1), oM 5 0, oK 6 (.call 63 [4, 5]), oM 7 6, gQ 8 7 false (.load none 1), gQ 9 7 false (.mov 0), gK 10 7 false (.call 13 [8, 9]), gQ 11 7 false (.not 10), oQ 12 (.pick 7 (cB true) 11), oM 3 12] [3])
 .ret))
theorem fok71 : FOK Tryz.prog 71 (13, ic71, [(.t 3)]) := fokA [] Tryz.func71 (by kernel_rfl) (by kernel_rfl) (by kernel_rfl) (by kernel_rfl)
/-- (*chandlery/match.Index).Providers -/
def ic72 : IC :=
 (.seq
 (.reg 0 [oK 3 (.boxt 1), oM 4 (.c .nilslice)] [0, 3])
 (.seq
 (.seq
 (.reg 1 [oM 5 0, oQ 6 (.isnil (.pointer 160) false 5)] [0, 3, 6])
 (.cond 6
 (.seq
 (.reg 2 [oM 4 (.c .nilslice)] [4])
 .ret)
 .skip))
 (.seq
 (.dreg 3 [oM 7 0, oM 8 0, oQ 9 (.nchk 8), oQ 10 (.faddr 1 9), oQ 11 (.load none 10), oQ 12 (.faddr 0 3), oQ 13 (.load none 12), oQ 14 (.lkp 2 .nilslice false 11 13), oQ 15 (.mkf 136 [] [3]), oK 16 (.call 130 [7, 14, 15]), oM 4 16] false [4])
 .ret)))
theorem fok72 : FOK Tryz.prog 72 (17, ic72, [(.t 4)]) := fokA [1000003] Tryz.func72 (by kernel_rfl) (by kernel_rfl) (by kernel_rfl) (by kernel_rfl)
/-- (*chandlery/match.Index).Named -/
def ic73 : IC :=
 (.seq
 (.reg 0 [oK 3 (.boxt 1), oM 4 (.c .nilslice)] [0, 3])
 (.seq
 (.seq
 (.reg 1 [oM 5 0, oQ 6 (.isnil (.pointer 160) false 5)] [0, 3, 6])
 (.cond 6
 (.seq
 (.reg 2 [oM 4 (.c .nilslice)] [4])
 .ret)
 .skip))
 (.seq
 (.dreg 3 [oM 7 0, oM 8 0, oQ 9 (.nchk 8), oQ 10 (.faddr 2 9), oQ 11 (.load none 10), oQ 12 (.faddr 0 3), oQ 13 (.load none 12), oQ 14 (.lkp 2 .nilslice false 11 13), oQ 15 (.mkf 137 [] [3]), oK 16 (.call 130 [7, 14, 15]), oM 4 16] false [4])
 .ret)))
theorem fok73 : FOK Tryz.prog 73 (17, ic73, [(.t 4)]) := fokA [1000003] Tryz.func73 (by kernel_rfl) (by kernel_rfl) (by kernel_rfl) (by kernel_rfl)
/-- (*chandlery/ask.Ask).Meant$1 -/
def ic74 : IC :=
 (.seq
 (.reg 0 [oM 3 (cB false)] [0, 1])
 (.seq
 (.reg 1 [oQ 4 (.load none 1), oM 5 0, oK 6 (.call 63 [4, 5]), oQ 7 (.not 6), oM 3 7] [3])
 .ret))
theorem fok74 : FOK Tryz.prog 74 (8, ic74, [(.t 3)]) := fokA [] Tryz.func74 (by kernel_rfl) (by kernel_rfl) (by kernel_rfl) (by kernel_rfl)
/-- (*chandlery/ask.Ask).install -/
def ic75 : IC :=
 (.seq
 (.reg 0 [oM 6 (cB false)] [0, 1, 2])
 (.seq
 (.reg 1 [oM 7 2, oM 8 0, oM 9 1, oK 10 (.call 19 [8, 9]), oK 11 (.call 139 [7, 10]), oM 6 11] [6])
 .ret))
theorem fok75 : FOK Tryz.prog 75 (12, ic75, [(.t 6)]) := fokA [] Tryz.func75 (by kernel_rfl) (by kernel_rfl) (by kernel_rfl) (by kernel_rfl)
/-- (*chandlery/ask.Ask).erase -/
def ic76 : IC :=
 (.seq
 (.reg 0 [oM 6 (cB false)] [0, 1, 2])
 (.seq
 (.reg 1 [oM 7 2, oM 8 0, oM 9 1, oK 10 (.call 19 [8, 9]), oK 11 (.call 139 [7, 10]), oQ 12 (.not 11), oM 6 12] [6])
 .ret))
theorem fok76 : FOK Tryz.prog 76 (13, ic76, [(.t 6)]) := fokA [] Tryz.func76 (by kernel_rfl) (by kernel_rfl) (by kernel_rfl) (by kernel_rfl)
/-- (*chandlery/ask.Ask).upgrade -/
def ic77 : IC :=
 (.seq
 (.reg 0 [oK 3 (.boxt 0), oK 5 (.boxt 2), oM 6 (cB false)] [1, 3, 5])
 (.seq
 (.reg 1 [oQ 7 (.load none 3), oM 8 1, oK 9 (.call 19 [7, 8]), oQ 10 (.mkf 141 [] [5, 3]), oK 11 (.call 140 [9, 10]), oQ 12 (.not 11), oM 6 12] [6])
 .ret))
theorem fok77 : FOK Tryz.prog 77 (13, ic77, [(.t 6)]) := fokA [1000003, 1000005] Tryz.func77 (by kernel_rfl) (by kernel_rfl) (by kernel_rfl) (by kernel_rfl)
/-- (*chandlery/ask.Ask).sync -/
def ic78 : IC :=
 (.seq
 (.reg 0 [oK 3 (.boxt 0), oK 5 (.boxt 2), oM 6 (cB false)] [1, 3, 5])
 (.seq
 (.reg 1 [oQ 7 (.load none 3), oM 8 1, oK 9 (.call 19 [7, 8]), oQ 10 (.mkf 142 [] [3, 5]), oK 11 (.call 140 [9, 10]), oQ 12 (.not 11), oM 6 12] [6])
 .ret))
theorem fok78 : FOK Tryz.prog 78 (13, ic78, [(.t 6)]) := fokA [1000003, 1000005] Tryz.func78 (by kernel_rfl) (by kernel_rfl) (by kernel_rfl) (by kernel_rfl)
/-- (*chandlery/pool.Pool).add -/
def ic79 : IC :=
(.seq
 (.reg 0 [⟨(some 8), none, (.q (.mov (.c (.int .i64 0))))⟩] [0, 1, 2, 3])
 (.seq
  (.seq
   (.reg 1 [⟨(some 11), none, (.q (.mov (.t 1)))⟩, ⟨(some 12), none, (.q (.len 0 (.t 11)))⟩, ⟨(some 13), none, (.q (.mov (.c (.int .i64 0))))⟩] [0, 2, 3, 11, 12, 13])
   (.block 0
    (.loop
     (.seq
      (.reg 2 [⟨(some 14), none, (.q (.bin .lss (.t 13) (.t 12)))⟩] [0, 2, 3, 11, 12, 13, 14])
      (.seq
       (.cond (.t 14)
        .skip
        (.exit 0))
       (.seq
        (.block 1
         (.seq
          (.reg 3 [⟨(some 15), none, (.q (.iaddr 15 (.t 11) (.t 13)))⟩, ⟨(some 16), none, (.q (.load (some 15) (.t 15)))⟩, ⟨(some 10), none, (.alloc [(.str []), (.int .i64 0), (.str []), (.str []), (.int .u8 0), (.str []), .nilslice, .nilslice, .nilslice, .nilslice, .nilslice, .nilslice, .nilslice, .nilslice, .nilslice])⟩, ⟨none, none, (.store 15 (.t 10) (.t 16))⟩] [0, 2, 3, 10, 11, 12, 13])
          (.seq
           (.seq
            (.reg 4 [⟨(some 17), none, (.q (.load (some 15) (.t 10)))⟩, ⟨(some 18), none, (.pcall 143 [(.t 17)])⟩, ⟨(some 19), none, (.q (.not (.t 18)))⟩] [0, 2, 3, 10, 11, 12, 13, 19])
            (.cond (.t 19)
            (.seq
            (.reg 5 [⟨(some 8), none, (.q (.mov (.c (.int .i64 4))))⟩] [8])
            .ret)
            .skip))
           (.seq
            (.dreg 6 [⟨(some 20), none, (.q (.mov (.t 0)))⟩, ⟨(some 21), none, (.q (.nchk (.t 20)))⟩, ⟨(some 22), none, (.q (.faddr 2 (.t 21)))⟩, ⟨(some 23), none, (.q (.load none (.t 22)))⟩, ⟨(some 24), none, (.q (.faddr 0 (.t 10)))⟩, ⟨(some 25), none, (.q (.load none (.t 24)))⟩, ⟨(some 26), none, (.q (.mov (.t 0)))⟩, ⟨(some 27), none, (.q (.nchk (.t 26)))⟩, ⟨(some 28), none, (.q (.faddr 2 (.t 27)))⟩, ⟨(some 29), none, (.q (.load none (.t 28)))⟩, ⟨(some 30), none, (.q (.faddr 0 (.t 10)))⟩, ⟨(some 31), none, (.q (.load none (.t 30)))⟩, ⟨(some 32), none, (.q (.lkp 2 .nilslice false (.t 29) (.t 31)))⟩, ⟨(some 33), none, (.q (.mov (.t 0)))⟩, ⟨(some 34), none, (.q (.nchk (.t 33)))⟩, ⟨(some 35), none, (.q (.faddr 0 (.t 34)))⟩, ⟨(some 36), none, (.q (.load none (.t 35)))⟩, ⟨(some 37), none, (.q (.len 0 (.t 36)))⟩, ⟨(some 38), none, (.bslt 1 1 [(.int .i64 0)] [⟨0, ⟨1, (.t 37)⟩⟩])⟩, ⟨(some 39), none, (.app 1 (.t 32) (.t 38))⟩, ⟨none, none, (.mupd 2 (.t 23) (.t 25) (.t 39))⟩] true [0, 2, 3, 10, 11, 12, 13])
            (.dreg 7 [⟨(some 40), none, (.q (.mov (.t 0)))⟩, ⟨(some 41), none, (.q (.mov (.t 0)))⟩, ⟨(some 42), none, (.q (.nchk (.t 41)))⟩, ⟨(some 43), none, (.q (.faddr 0 (.t 42)))⟩, ⟨(some 44), none, (.q (.load none (.t 43)))⟩, ⟨(some 45), none, (.q (.load (some 15) (.t 10)))⟩, ⟨(some 46), none, (.pcall 121 [(.t 45)])⟩, ⟨(some 47), none, (.q (.mov (.t 2)))⟩, ⟨(some 48), none, (.q (.mov (.t 3)))⟩, ⟨(some 49), none, (.q (.bld [(.str []), (.int .i64 0), (.str []), (.str []), (.int .u8 0), (.str []), .nilslice, .nilslice, .nilslice, .nilslice, .nilslice, .nilslice, .nilslice, .nilslice, .nilslice, (.int .i64 0), (.int .i64 0)] [⟨0, ⟨15, (.t 46)⟩⟩, ⟨15, ⟨1, (.t 47)⟩⟩, ⟨16, ⟨1, (.t 48)⟩⟩]))⟩, ⟨(some 50), none, (.bslt 17 1 [(.str []), (.int .i64 0), (.str []), (.str []), (.int .u8 0), (.str []), .nilslice, .nilslice, .nilslice, .nilslice, .nilslice, .nilslice, .nilslice, .nilslice, .nilslice, (.int .i64 0), (.int .i64 0)] [⟨0, ⟨17, (.t 49)⟩⟩])⟩, ⟨(some 51), none, (.app 17 (.t 44) (.t 50))⟩, ⟨(some 52), none, (.q (.nchk (.t 40)))⟩, ⟨(some 53), none, (.q (.faddr 0 (.t 52)))⟩, ⟨none, none, (.store 1 (.t 53) (.t 51))⟩] true [0, 2, 3, 11, 12, 13])))))
        (.reg 8 [⟨(some 54), none, (.q (.bin .add (.t 13) (.c (.int .i64 1))))⟩, ⟨(some 13), none, (.q (.mov (.t 54)))⟩] [0, 2, 3, 11, 12, 13])))))))
  (.seq
   (.reg 9 [⟨(some 8), none, (.q (.mov (.c (.int .i64 0))))⟩] [8])
   .ret)))
theorem fok79 : FOK Tryz.prog 79 (55, ic79, [(.t 8)]) := .mk (pf := ([1000038, 1000050] ++ allF0)) (an := [(0, [0, 1, 2, 3]), (1, [0, 2, 3, 11, 12, 13]), (2, [0, 2, 3, 11, 12, 13, 14]), (3, [0, 2, 3, 10, 11, 12, 13]), (4, [0, 2, 3, 10, 11, 12, 13, 19]), (5, [8]), (6, [0, 2, 3, 10, 11, 12, 13]), (7, [0, 2, 3, 11, 12, 13]), (8, [0, 2, 3, 11, 12, 13]), (9, [8])]) (by kernel_rfl) (fnOK_of Tryz.func79 (by kernel_rfl) (by kernel_rfl) (by kernel_rfl))
/-- chandlery/chandleryref13.Numbers -/
def ic80 : IC :=
 (.seq
 (.reg 0 [oM 4 (cB false)] [0, 1])
 (.seq
 (.seq
 (.reg 1 [oM 6 0, oQ 7 (.len 0 6), oM 8 1, oQ 9 (.len 0 8), oQ 10 (.bin .neq 7 9)] [0, 1, 10])
 (.cond 10
 (.seq
 (.reg 2 [oM 4 (cB false)] [4])
 .ret)
 .skip))
 (.seq
 (.seq
 (.reg 3 [oM 5 (cI 0)] [0, 1, 5])
 (.block 0
 (.loop
 (.seq
 (.seq
 (.reg 4 [oM 11 5, oM 12 0, oQ 13 (.len 0 12), oQ 14 (.bin .lss 11 13)] [0, 1, 5, 14])
 (.cond 14
 .skip
 (.exit 0)))
 (.seq
 (.block 1
 (.seq
 (.dreg 6 [oM 17 0, oM 18 5, oQ 19 (.iaddr 1 17 18), oQ 20 (.load none 19), oM 21 1, oM 22 5, oQ 23 (.iaddr 1 21 22), oQ 24 (.load none 23), oQ 25 (.bin .neq 20 24)] false [0, 1, 5, 25])
 (.cond 25
 (.seq
 (.reg 7 [oM 4 (cB false)] [4])
 .ret)
 .skip)))
 (.reg 5 [oM 15 5, oQ 16 (.bin .add 15 (cI 1)), oM 5 16] [0, 1, 5]))))))
 (.seq
 (.reg 8 [oM 4 (cB true)] [4])
 .ret))))
theorem fok80 : FOK Tryz.prog 80 (26, ic80, [(.t 4)]) := fokA [] Tryz.func80 (by kernel_rfl) (by kernel_rfl) (by kernel_rfl) (by kernel_rfl)
/-- cmp.Compare[int] -/
def ic84 : IC :=
 (.seq
 (.reg 0 [oM 4 (cI 0)] [0, 1])
 (.seq
 (.reg 1 [oM 7 0, oK 8 (.call 147 [7]), oM 5 8] [0, 1, 5])
 (.seq
 (.reg 2 [oM 9 1, oK 10 (.call 147 [9]), oM 6 10] [0, 1, 5, 6])
 (.seq
 (.seq
 (.reg 3 [oM 11 5] [0, 1, 6, 11])
 (.cond 11
 (.seq
 (.seq
 (.reg 4 [oM 12 6] [12])
 (.cond 12
 (.seq
 (.reg 5 [oM 4 (cI 0)] [4])
 .ret)
 .skip))
 (.seq
 (.reg 6 [oM 4 (cI (-1))] [4])
 .ret))
 .skip))
 (.seq
 (.seq
 (.reg 7 [oM 13 6] [0, 1, 13])
 (.cond 13
 (.seq
 (.reg 8 [oM 4 (cI 1)] [4])
 .ret)
 .skip))
 (.seq
 (.seq
 (.reg 9 [oM 14 0, oM 15 1, oQ 16 (.bin .lss 14 15)] [0, 1, 16])
 (.cond 16
 (.seq
 (.reg 10 [oM 4 (cI (-1))] [4])
 .ret)
 .skip))
 (.seq
 (.seq
 (.reg 11 [oM 17 0, oM 18 1, oQ 19 (.bin .gtr 17 18)] [19])
 (.cond 19
 (.seq
 (.reg 12 [oM 4 (cI 1)] [4])
 .ret)
 .skip))
 (.seq
 (.reg 13 [oM 4 (cI 0)] [4])
 .ret))))))))
theorem fok84 : FOK Tryz.prog 84 (20, ic84, [(.t 4)]) := fokA [] Tryz.func84 (by kernel_rfl) (by kernel_rfl) (by kernel_rfl) (by kernel_rfl)
/-- slices.ContainsFunc[[]chandlery/api.Dep,chandlery/api.Dep] -/
def ic93 : IC :=
(.seq
 (.reg 0 [⟨(some 4), none, (.q (.mov (.c (.bool false))))⟩] [0, 1])
 (.seq
  (.reg 1 [⟨(some 5), none, (.q (.mov (.t 0)))⟩, ⟨(some 6), none, (.q (.mov (.t 1)))⟩, ⟨(some 7), none, (.call 156 [(.t 5), (.t 6)])⟩, ⟨(some 8), none, (.q (.bin .geq (.t 7) (.c (.int .i64 0))))⟩, ⟨(some 4), none, (.q (.mov (.t 8)))⟩] [4])
  .ret))
theorem fok93 : FOK Tryz.prog 93 (9, ic93, [(.t 4)]) := .mk (pf := []) (an := [(0, [0, 1]), (1, [4])]) (by kernel_rfl) (fnOK_of Tryz.func93 (by kernel_rfl) (by kernel_rfl) (by kernel_rfl))
/-- chandlery/pkg.Provides -/
def ic95 : IC :=
 (.seq
 (.reg 0 [oK 2 (.boxt 0), oK 3 (.boxt 1), oM 4 (cB false)] [2, 3])
 (.seq
 (.seq
 (.reg 1 [oQ 5 (.load (some 15) 2), oQ 6 (.load (some 5) 3), oK 7 (.call 138 [5, 6]), oM 8 7, gQ 9 8 false (.faddr 6 2), gQ 10 8 false (.load none 9), gQ 11 8 false (.mkf 157 [] [3]), gK 12 8 false (.call 93 [10, 11]), oQ 13 (.pick 8 (cB true) 12)] [2, 3, 13])
 (.cond 13
 (.seq
 (.reg 2 [oM 4 (cB true)] [4])
 .ret)
 .skip))
 (.seq
 (.reg 3 [oQ 14 (.faddr 1 3), oQ 15 (.load none 14), oQ 16 (.bin .eql 15 (.c (zU 0))), oM 17 16, gQ 18 17 true (.faddr 14 2), gQ 19 17 true (.load none 18), gQ 20 17 true (.faddr 0 3), gQ 21 17 true (.load none 20), gK 22 17 true (.call 159 [19, 21]), oQ 23 (.pick 17 22 (cB false)), oM 4 23] [4])
 .ret)))
theorem fok95 : FOK Tryz.prog 95 (24, ic95, [(.t 4)]) := fokA [1000002, 1000003] Tryz.func95 (by kernel_rfl) (by kernel_rfl) (by kernel_rfl) (by kernel_rfl)
/-- slices.ContainsFunc[[]chandlery/api.Rich,chandlery/api.Rich] -/
def ic96 : IC :=
(.seq
 (.reg 0 [⟨(some 4), none, (.q (.mov (.c (.bool false))))⟩] [0, 1])
 (.seq
  (.reg 1 [⟨(some 5), none, (.q (.mov (.t 0)))⟩, ⟨(some 6), none, (.q (.mov (.t 1)))⟩, ⟨(some 7), none, (.call 160 [(.t 5), (.t 6)])⟩, ⟨(some 8), none, (.q (.bin .geq (.t 7) (.c (.int .i64 0))))⟩, ⟨(some 4), none, (.q (.mov (.t 8)))⟩] [4])
  .ret))
theorem fok96 : FOK Tryz.prog 96 (9, ic96, [(.t 4)]) := .mk (pf := []) (an := [(0, [0, 1]), (1, [4])]) (by kernel_rfl) (fnOK_of Tryz.func96 (by kernel_rfl) (by kernel_rfl) (by kernel_rfl))
/-- slices.Clone[[]int,int] -/
def ic101 : IC :=
(.seq
 (.reg 0 [⟨(some 2), none, (.q (.mov (.c .nilslice)))⟩] [0])
 (.seq
  (.seq
   (.reg 1 [⟨(some 3), none, (.q (.mov (.t 0)))⟩, ⟨(some 4), none, (.q (.isnil (.slice 3) false (.t 3)))⟩] [0, 4])
   (.cond (.t 4)
    (.seq
     (.reg 2 [⟨(some 2), none, (.q (.mov (.c .nilslice)))⟩] [2])
     .ret)
    .skip))
  (.seq
   (.reg 3 [⟨(some 5), none, (.bsl 1 0 [(.int .i64 0)] [])⟩, ⟨(some 6), none, (.q (.mov (.t 0)))⟩, ⟨(some 7), none, (.app 1 (.t 5) (.t 6))⟩, ⟨(some 2), none, (.q (.mov (.t 7)))⟩] [2])
   .ret)))
theorem fok101 : FOK Tryz.prog 101 (8, ic101, [(.t 2)]) := .mk (pf := []) (an := [(0, [0]), (1, [0, 4]), (2, [2]), (3, [2])]) (by kernel_rfl) (fnOK_of Tryz.func101 (by kernel_rfl) (by kernel_rfl) (by kernel_rfl))
/-- (*chandlery/pool.Pool).Repo -/
def ic108 : IC :=
(.seq
 (.reg 0 [⟨(some 4), none, (.q (.mov (.c (.int .i64 0))))⟩] [0, 1])
 (.seq
  (.seq
   (.reg 1 [⟨(some 5), none, (.q (.mov (.t 0)))⟩, ⟨(some 6), none, (.q (.isnil (.pointer 119) false (.t 5)))⟩, ⟨(some 7), none, (.q (.mov (.t 6)))⟩, ⟨(some 8), (some ⟨7, false⟩), (.q (.mov (.t 0)))⟩, ⟨(some 9), (some ⟨7, false⟩), (.q (.nchk (.t 8)))⟩, ⟨(some 10), (some ⟨7, false⟩), (.q (.faddr 0 (.t 9)))⟩, ⟨(some 11), (some ⟨7, false⟩), (.q (.load none (.t 10)))⟩, ⟨(some 12), (some ⟨7, false⟩), (.q (.mov (.t 1)))⟩, ⟨(some 13), (some ⟨7, false⟩), (.call 120 [(.t 11), (.t 12)])⟩, ⟨(some 14), (some ⟨7, false⟩), (.q (.not (.t 13)))⟩, ⟨(some 15), none, (.q (.pick (.t 7) (.c (.bool true)) (.t 14)))⟩] [0, 1, 15])
   (.cond (.t 15)
    (.seq
     (.reg 2 [⟨(some 4), none, (.q (.mov (.c (.int .i64 (-1)))))⟩] [4])
     .ret)
    .skip))
  (.seq
   (.reg 3 [⟨(some 16), none, (.q (.mov (.t 0)))⟩, ⟨(some 17), none, (.q (.nchk (.t 16)))⟩, ⟨(some 18), none, (.q (.faddr 0 (.t 17)))⟩, ⟨(some 19), none, (.q (.load none (.t 18)))⟩, ⟨(some 20), none, (.q (.mov (.t 1)))⟩, ⟨(some 21), none, (.q (.iaddr 17 (.t 19) (.t 20)))⟩, ⟨(some 22), none, (.q (.faddr 15 (.t 21)))⟩, ⟨(some 23), none, (.q (.load none (.t 22)))⟩, ⟨(some 4), none, (.q (.mov (.t 23)))⟩] [4])
   .ret)))
theorem fok108 : FOK Tryz.prog 108 (24, ic108, [(.t 4)]) := .mk (pf := []) (an := [(0, [0, 1]), (1, [0, 1, 15]), (2, [4]), (3, [4])]) (by kernel_rfl) (fnOK_of Tryz.func108 (by kernel_rfl) (by kernel_rfl) (by kernel_rfl))
/-- chandlery/arch.is -/
def ic109 : IC :=
(.seq
 (.reg 0 [⟨(some 2), none, (.q (.mov (.c (.bool false))))⟩] [0])
 (.seq
  (.reg 1 [⟨(some 3), none, (.q (.mov (.t 0)))⟩, ⟨(some 4), none, (.q (.bin .geq (.t 3) (.c (.int .u8 1))))⟩, ⟨(some 5), none, (.q (.mov (.t 4)))⟩, ⟨(some 6), (some ⟨5, true⟩), (.q (.mov (.t 0)))⟩, ⟨(some 7), (some ⟨5, true⟩), (.q (.bin .leq (.t 6) (.c (.int .u8 4))))⟩, ⟨(some 8), none, (.q (.pick (.t 5) (.t 7) (.c (.bool false))))⟩, ⟨(some 2), none, (.q (.mov (.t 8)))⟩] [2])
  .ret))
theorem fok109 : FOK Tryz.prog 109 (9, ic109, [(.t 2)]) := .mk (pf := []) (an := [(0, [0]), (1, [2])]) (by kernel_rfl) (fnOK_of Tryz.func109 (by kernel_rfl) (by kernel_rfl) (by kernel_rfl))
/-- slices.IndexFunc[[]chandlery/api.Job,chandlery/api.Job] -/
def ic110 : IC :=
 (.seq
 (.reg 0 [oM 4 (cI 0)] [0, 1])
 (.seq
 (.seq
 (.reg 1 [oM 6 0, oQ 7 (.len 0 6), oM 8 (cI 0)] [0, 1, 7, 8])
 (.block 0
 (.loop
 (.seq
 (.reg 2 [oQ 9 (.bin .lss 8 7)] [0, 1, 7, 8, 9])
 (.seq
 (.cond 9
 .skip
 (.exit 0))
 (.seq
 (.block 1
 (.seq
 (.reg 3 [oM 10 8, oM 5 10] [0, 1, 5, 7, 8])
 (.seq
 (.reg 4 [oM 11 1, oM 12 0, oM 13 5, oQ 14 (.iaddr 6 12 13), oQ 15 (.load (some 6) 14), oK 16 (.callv 11 [15])] [0, 1, 5, 7, 8, 16])
 (.cond 16
 (.seq
 (.reg 5 [oM 17 5, oM 4 17] [4])
 .ret)
 .skip))))
 (.reg 6 [oQ 18 (.bin .add 8 (cI 1)), oM 8 18] [0, 1, 7, 8])))))))
 (.seq
 (.reg 7 [oM 4 (cI (-1))] [4])
 .ret)))
theorem fok110 : FOK Tryz.prog 110 (19, ic110, [(.t 4)]) := fokA [] Tryz.func110 (by kernel_rfl) (by kernel_rfl) (by kernel_rfl) (by kernel_rfl)
/-- chandlery/dep.Name -/
def ic111 : IC :=
(.seq
 (.reg 0 [⟨(some 2), none, (.q (.mov (.c (.bool false))))⟩] [0])
 (.seq
  (.seq
   (.reg 1 [⟨(some 7), none, (.q (.mov (.t 0)))⟩, ⟨(some 8), none, (.q (.len 1 (.t 7)))⟩, ⟨(some 9), none, (.q (.bin .lss (.t 8) (.c (.int .i64 1))))⟩, ⟨(some 10), none, (.q (.mov (.t 9)))⟩, ⟨(some 11), (some ⟨10, false⟩), (.q (.mov (.t 0)))⟩, ⟨(some 12), (some ⟨10, false⟩), (.q (.len 1 (.t 11)))⟩, ⟨(some 13), (some ⟨10, false⟩), (.q (.bin .gtr (.t 12) (.c (.int .i64 64))))⟩, ⟨(some 14), none, (.q (.pick (.t 10) (.c (.bool true)) (.t 13)))⟩] [0, 14])
   (.cond (.t 14)
    (.seq
     (.reg 2 [⟨(some 2), none, (.q (.mov (.c (.bool false))))⟩] [2])
     .ret)
    .skip))
  (.seq
   (.seq
    (.reg 3 [⟨(some 15), none, (.q (.mov (.t 0)))⟩, ⟨(some 16), none, (.srange (.t 15))⟩] [0, 16])
    (.block 0
     (.loop
      (.seq
       (.reg 4 [⟨(some 17), none, (.snext (.t 16))⟩, ⟨(some 18), none, (.q (.ext 0 (.t 17)))⟩] [0, 16, 17, 18])
       (.seq
        (.cond (.t 18)
         .skip
         (.exit 0))
        (.block 1
         (.seq
          (.reg 5 [⟨(some 19), none, (.q (.ext 2 (.t 17)))⟩, ⟨(some 4), none, (.q (.mov (.t 19)))⟩] [0, 4, 16])
          (.seq
           (.reg 6 [⟨(some 20), none, (.q (.mov (.t 4)))⟩, ⟨(some 21), none, (.q (.bin .gtr (.t 20) (.c (.int .i32 126))))⟩, ⟨(some 22), none, (.q (.mov (.t 21)))⟩, ⟨(some 23), (some ⟨22, false⟩), (.q (.mov (.t 4)))⟩, ⟨(some 24), (some ⟨22, false⟩), (.q (.conv .u8 (.t 23)))⟩, ⟨(some 25), (some ⟨22, false⟩), (.call 176 [(.c (.str [97, 98, 99, 100, 101, 102, 103, 104, 105, 106, 107, 108, 109, 110, 111, 112, 113, 114, 115, 116, 117, 118, 119, 120, 121, 122, 65, 66, 67, 68, 69, 70, 71, 72, 73, 74, 75, 76, 77, 78, 79, 80, 81, 82, 83, 84, 85, 86, 87, 88, 89, 90, 48, 49, 50, 51, 52, 53, 54, 55, 56, 57, 46, 95, 43, 45, 47, 58, 64, 126, 94])), (.t 24)])⟩, ⟨(some 26), (some ⟨22, false⟩), (.q (.bin .lss (.t 25) (.c (.int .i64 0))))⟩, ⟨(some 27), none, (.q (.pick (.t 22) (.c (.bool true)) (.t 26)))⟩] [0, 16, 27])
           (.cond (.t 27)
            (.seq
            (.reg 7 [⟨(some 2), none, (.q (.mov (.c (.bool false))))⟩] [2])
            .ret)
            .skip)))))))))
   (.seq
    (.seq
     (.reg 8 [⟨(some 28), none, (.q (.load (some 7) (.g 0)))⟩, ⟨(some 29), none, (.q (.mov (.c (.int .i64 0))))⟩] [0, 28, 29])
     (.block 2
      (.loop
       (.seq
        (.reg 9 [⟨(some 30), none, (.q (.bin .lss (.t 29) (.c (.int .i64 7))))⟩] [0, 28, 29, 30])
        (.seq
         (.cond (.t 30)
          .skip
          (.exit 2))
         (.seq
          (.block 3
           (.seq
            (.reg 10 [⟨(some 31), none, (.q (.idx none 7 1 (.t 28) (.t 29)))⟩, ⟨(some 6), none, (.q (.mov (.t 31)))⟩] [0, 6, 28, 29])
            (.seq
            (.reg 11 [⟨(some 32), none, (.q (.mov (.t 0)))⟩, ⟨(some 33), none, (.q (.mov (.t 6)))⟩, ⟨(some 34), none, (.q (.bin .eql (.t 32) (.t 33)))⟩] [0, 28, 29, 34])
            (.cond (.t 34)
            (.seq
            (.reg 12 [⟨(some 2), none, (.q (.mov (.c (.bool false))))⟩] [2])
            .ret)
            .skip))))
          (.reg 13 [⟨(some 35), none, (.q (.bin .add (.t 29) (.c (.int .i64 1))))⟩, ⟨(some 29), none, (.q (.mov (.t 35)))⟩] [0, 28, 29])))))))
    (.seq
     (.reg 14 [⟨(some 2), none, (.q (.mov (.c (.bool true))))⟩] [2])
     .ret)))))
theorem fok111 : FOK Tryz.prog 111 (36, ic111, [(.t 2)]) := .mk (pf := []) (an := [(0, [0]), (1, [0, 14]), (2, [2]), (3, [0, 16]), (4, [0, 16, 17, 18]), (5, [0, 4, 16]), (6, [0, 16, 27]), (7, [2]), (8, [0, 28, 29]), (9, [0, 28, 29, 30]), (10, [0, 6, 28, 29]), (11, [0, 28, 29, 34]), (12, [2]), (13, [0, 28, 29]), (14, [2])]) (by kernel_rfl) (fnOK_of Tryz.func111 (by kernel_rfl) (by kernel_rfl) (by kernel_rfl))
/-- chandlery/span.May -/
def ic112 : IC :=
(.seq
 (.reg 0 [⟨(some 2), none, (.q (.mov (.c (.bool false))))⟩] [0])
 (.seq
  (.reg 1 [⟨(some 3), none, (.q (.mov (.t 0)))⟩, ⟨(some 4), none, (.q (.bin .eql (.t 3) (.c (.int .u8 0))))⟩, ⟨(some 5), none, (.q (.mov (.t 4)))⟩, ⟨(some 6), (some ⟨5, false⟩), (.q (.mov (.t 0)))⟩, ⟨(some 7), (some ⟨5, false⟩), (.call 177 [(.t 6)])⟩, ⟨(some 8), (some ⟨5, false⟩), (.q (.bin .neq (.t 7) (.c (.str []))))⟩, ⟨(some 9), none, (.q (.pick (.t 5) (.c (.bool true)) (.t 8)))⟩, ⟨(some 2), none, (.q (.mov (.t 9)))⟩] [2])
  .ret))
theorem fok112 : FOK Tryz.prog 112 (10, ic112, [(.t 2)]) := .mk (pf := []) (an := [(0, [0]), (1, [2])]) (by kernel_rfl) (fnOK_of Tryz.func112 (by kernel_rfl) (by kernel_rfl) (by kernel_rfl))
/-- chandlery/dep.File -/
def ic113 : IC :=
(.seq
 (.reg 0 [⟨(some 2), none, (.q (.mov (.c (.bool false))))⟩] [0])
 (.seq
  (.reg 1 [⟨(some 3), none, (.q (.mov (.t 0)))⟩, ⟨(some 4), none, (.call 111 [(.t 3)])⟩, ⟨(some 5), none, (.q (.mov (.t 4)))⟩, ⟨(some 6), (some ⟨5, true⟩), (.q (.mov (.t 0)))⟩, ⟨(some 7), (some ⟨5, true⟩), (.call 178 [(.t 6), (.c (.str [47]))])⟩, ⟨(some 8), none, (.q (.pick (.t 5) (.t 7) (.c (.bool false))))⟩, ⟨(some 2), none, (.q (.mov (.t 8)))⟩] [2])
  .ret))
theorem fok113 : FOK Tryz.prog 113 (9, ic113, [(.t 2)]) := .mk (pf := []) (an := [(0, [0]), (1, [2])]) (by kernel_rfl) (fnOK_of Tryz.func113 (by kernel_rfl) (by kernel_rfl) (by kernel_rfl))
/-- chandlery/evr.May -/
def ic114 : IC :=
(.seq
 (.reg 0 [⟨(some 2), none, (.boxt (.t 0))⟩, ⟨(some 4), none, (.q (.mov (.c (.bool false))))⟩] [1, 2])
 (.seq
  (.reg 1 [⟨(some 5), none, (.q (.faddr 0 (.t 2)))⟩, ⟨(some 6), none, (.q (.load none (.t 5)))⟩, ⟨(some 7), none, (.q (.bin .geq (.t 6) (.c (.int .i64 0))))⟩, ⟨(some 8), none, (.q (.mov (.t 7)))⟩, ⟨(some 9), (some ⟨8, true⟩), (.q (.faddr 0 (.t 2)))⟩, ⟨(some 10), (some ⟨8, true⟩), (.q (.load none (.t 9)))⟩, ⟨(some 11), (some ⟨8, true⟩), (.q (.bin .leq (.t 10) (.c (.int .i64 2147483647))))⟩, ⟨(some 12), none, (.q (.pick (.t 8) (.t 11) (.c (.bool false))))⟩, ⟨(some 13), none, (.q (.mov (.t 12)))⟩, ⟨(some 14), (some ⟨13, true⟩), (.q (.faddr 1 (.t 2)))⟩, ⟨(some 15), (some ⟨13, true⟩), (.q (.load none (.t 14)))⟩, ⟨(some 16), (some ⟨13, true⟩), (.call 179 [(.t 15)])⟩, ⟨(some 17), none, (.q (.pick (.t 13) (.t 16) (.c (.bool false))))⟩, ⟨(some 18), none, (.q (.mov (.t 17)))⟩, ⟨(some 19), (some ⟨18, true⟩), (.q (.faddr 2 (.t 2)))⟩, ⟨(some 20), (some ⟨18, true⟩), (.q (.load none (.t 19)))⟩, ⟨(some 21), (some ⟨18, true⟩), (.call 179 [(.t 20)])⟩, ⟨(some 22), (some ⟨18, true⟩), (.q (.mov (.t 21)))⟩, ⟨(some 23), (some ⟨22, false⟩), (.q (.mov (.t 1)))⟩, ⟨(some 24), (some ⟨22, false⟩), (.q (.mov (.t 23)))⟩, ⟨(some 25), (some ⟨24, true⟩), (.q (.faddr 2 (.t 2)))⟩, ⟨(some 26), (some ⟨24, true⟩), (.q (.load none (.t 25)))⟩, ⟨(some 27), (some ⟨24, true⟩), (.q (.bin .eql (.t 26) (.c (.str []))))⟩, ⟨(some 28), (some ⟨22, false⟩), (.q (.pick (.t 24) (.t 27) (.c (.bool false))))⟩, ⟨(some 29), (some ⟨18, true⟩), (.q (.pick (.t 22) (.c (.bool true)) (.t 28)))⟩, ⟨(some 30), none, (.q (.pick (.t 18) (.t 29) (.c (.bool false))))⟩, ⟨(some 4), none, (.q (.mov (.t 30)))⟩] [4])
  .ret))
theorem fok114 : FOK Tryz.prog 114 (31, ic114, [(.t 4)]) := .mk (pf := [1000002]) (an := [(0, [1, 2]), (1, [4])]) (by kernel_rfl) (fnOK_of Tryz.func114 (by kernel_rfl) (by kernel_rfl) (by kernel_rfl))
/-- slices.IndexFunc[[]chandlery/api.Edit,chandlery/api.Edit] -/
def ic115 : IC :=
 (.seq
 (.reg 0 [oM 4 (cI 0)] [0, 1])
 (.seq
 (.seq
 (.reg 1 [oM 6 0, oQ 7 (.len 0 6), oM 8 (cI 0)] [0, 1, 7, 8])
 (.block 0
 (.loop
 (.seq
 (.reg 2 [oQ 9 (.bin .lss 8 7)] [0, 1, 7, 8, 9])
 (.seq
 (.cond 9
 .skip
 (.exit 0))
 (.seq
 (.block 1
 (.seq
 (.reg 3 [oM 10 8, oM 5 10] [0, 1, 5, 7, 8])
 (.seq
 (.reg 4 [oM 11 1, oM 12 0, oM 13 5, oQ 14 (.iaddr 2 12 13), oQ 15 (.load (some 2) 14), oK 16 (.callv 11 [15])] [0, 1, 5, 7, 8, 16])
 (.cond 16
 (.seq
 (.reg 5 [oM 17 5, oM 4 17] [4])
 .ret)
 .skip))))
 (.reg 6 [oQ 18 (.bin .add 8 (cI 1)), oM 8 18] [0, 1, 7, 8])))))))
 (.seq
 (.reg 7 [oM 4 (cI (-1))] [4])
 .ret)))
theorem fok115 : FOK Tryz.prog 115 (19, ic115, [(.t 4)]) := fokA [] Tryz.func115 (by kernel_rfl) (by kernel_rfl) (by kernel_rfl) (by kernel_rfl)
/-- chandlery/match.offered -/
def ic116 : IC :=
(.seq
 (.reg 0 [⟨(some 1), none, (.boxt (.t 0))⟩, ⟨(some 2), none, (.q (.mov (.c .nilmap)))⟩] [1])
 (.seq
  (.reg 1 [⟨(some 8), none, .mkmap⟩, ⟨(some 9), none, (.q (.faddr 0 (.t 1)))⟩, ⟨(some 10), none, (.q (.load none (.t 9)))⟩, ⟨(some 11), none, (.q (.bld [] []))⟩, ⟨none, none, (.mupd 2 (.t 8) (.t 10) (.t 11))⟩, ⟨(some 12), none, (.q (.mov (.t 8)))⟩, ⟨(some 3), none, (.q (.mov (.t 12)))⟩] [1, 3])
  (.seq
   (.seq
    (.reg 2 [⟨(some 13), none, (.q (.faddr 6 (.t 1)))⟩, ⟨(some 14), none, (.q (.load none (.t 13)))⟩, ⟨(some 15), none, (.q (.len 0 (.t 14)))⟩, ⟨(some 16), none, (.q (.mov (.c (.int .i64 0))))⟩] [1, 3, 14, 15, 16])
    (.block 0
     (.loop
      (.seq
       (.reg 3 [⟨(some 17), none, (.q (.bin .lss (.t 16) (.t 15)))⟩] [1, 3, 14, 15, 16, 17])
       (.seq
        (.cond (.t 17)
         .skip
         (.exit 0))
        (.seq
         (.block 1
          (.seq
           (.reg 4 [⟨(some 18), none, (.q (.iaddr 5 (.t 14) (.t 16)))⟩, ⟨(some 19), none, (.q (.load (some 5) (.t 18)))⟩, ⟨(some 5), none, (.alloc [(.str []), (.int .u8 0), (.int .i64 0), (.str []), (.str [])])⟩, ⟨none, none, (.store 5 (.t 5) (.t 19))⟩] [1, 3, 5, 14, 15, 16])
           (.reg 5 [⟨(some 20), none, (.q (.mov (.t 3)))⟩, ⟨(some 21), none, (.q (.faddr 0 (.t 5)))⟩, ⟨(some 22), none, (.q (.load none (.t 21)))⟩, ⟨(some 23), none, (.q (.bld [] []))⟩, ⟨none, none, (.mupd 2 (.t 20) (.t 22) (.t 23))⟩] [1, 3, 14, 15, 16])))
         (.reg 6 [⟨(some 24), none, (.q (.bin .add (.t 16) (.c (.int .i64 1))))⟩, ⟨(some 16), none, (.q (.mov (.t 24)))⟩] [1, 3, 14, 15, 16])))))))
   (.seq
    (.seq
     (.reg 7 [⟨(some 25), none, (.q (.faddr 14 (.t 1)))⟩, ⟨(some 26), none, (.q (.load none (.t 25)))⟩, ⟨(some 27), none, (.q (.len 0 (.t 26)))⟩, ⟨(some 28), none, (.q (.mov (.c (.int .i64 0))))⟩] [3, 26, 27, 28])
     (.block 2
      (.loop
       (.seq
        (.reg 8 [⟨(some 29), none, (.q (.bin .lss (.t 28) (.t 27)))⟩] [3, 26, 27, 28, 29])
        (.seq
         (.cond (.t 29)
          .skip
          (.exit 2))
         (.seq
          (.block 3
           (.seq
            (.reg 9 [⟨(some 30), none, (.q (.iaddr 1 (.t 26) (.t 28)))⟩, ⟨(some 31), none, (.q (.load none (.t 30)))⟩, ⟨(some 7), none, (.q (.mov (.t 31)))⟩] [3, 7, 26, 27, 28])
            (.reg 10 [⟨(some 32), none, (.q (.mov (.t 3)))⟩, ⟨(some 33), none, (.q (.mov (.t 7)))⟩, ⟨(some 34), none, (.q (.bld [] []))⟩, ⟨none, none, (.mupd 2 (.t 32) (.t 33) (.t 34))⟩] [3, 26, 27, 28])))
          (.reg 11 [⟨(some 35), none, (.q (.bin .add (.t 28) (.c (.int .i64 1))))⟩, ⟨(some 28), none, (.q (.mov (.t 35)))⟩] [3, 26, 27, 28])))))))
    (.seq
     (.reg 12 [⟨(some 36), none, (.q (.mov (.t 3)))⟩, ⟨(some 2), none, (.q (.mov (.t 36)))⟩] [2])
     .ret)))))
theorem fok116 : FOK Tryz.prog 116 (37, ic116, [(.t 2)]) := .mk (pf := [1000001]) (an := [(0, [1]), (1, [1, 3]), (2, [1, 3, 14, 15, 16]), (3, [1, 3, 14, 15, 16, 17]), (4, [1, 3, 5, 14, 15, 16]), (5, [1, 3, 14, 15, 16]), (6, [1, 3, 14, 15, 16]), (7, [3, 26, 27, 28]), (8, [3, 26, 27, 28, 29]), (9, [3, 7, 26, 27, 28]), (10, [3, 26, 27, 28]), (11, [3, 26, 27, 28]), (12, [2])]) (by kernel_rfl) (fnOK_of Tryz.func116 (by kernel_rfl) (by kernel_rfl) (by kernel_rfl))
/-- slices.Contains[[]int,int] -/
def ic117 : IC :=
(.seq
 (.reg 0 [⟨(some 4), none, (.q (.mov (.c (.bool false))))⟩] [0, 1])
 (.seq
  (.reg 1 [⟨(some 5), none, (.q (.mov (.t 0)))⟩, ⟨(some 6), none, (.q (.mov (.t 1)))⟩, ⟨(some 7), none, (.call 180 [(.t 5), (.t 6)])⟩, ⟨(some 8), none, (.q (.bin .geq (.t 7) (.c (.int .i64 0))))⟩, ⟨(some 4), none, (.q (.mov (.t 8)))⟩] [4])
  .ret))
theorem fok117 : FOK Tryz.prog 117 (9, ic117, [(.t 4)]) := .mk (pf := []) (an := [(0, [0, 1]), (1, [4])]) (by kernel_rfl) (fnOK_of Tryz.func117 (by kernel_rfl) (by kernel_rfl) (by kernel_rfl))
/-- slices.Clone[[]chandlery/api.Job,chandlery/api.Job] -/
def ic118 : IC :=
 (.seq
 (.reg 0 [oM 2 (.c .nilslice)] [0])
 (.seq
 (.seq
 (.reg 1 [oM 3 0, oQ 4 (.isnil (.slice 59) false 3)] [0, 4])
 (.cond 4
 (.seq
 (.reg 2 [oM 2 (.c .nilslice)] [2])
 .ret)
 .skip))
 (.seq
 (.reg 3 [oK 5 (.bsl 6 0 [(zU 0), (.str []), (zU 0), (zI 0), (.str []), (.str [])] []), oM 6 0, oK 7 (.app 6 5 6), oM 2 7] [2])
 .ret)))
theorem fok118 : FOK Tryz.prog 118 (8, ic118, [(.t 2)]) := fokA [] Tryz.func118 (by kernel_rfl) (by kernel_rfl) (by kernel_rfl) (by kernel_rfl)
/-- slices.Clone[[]chandlery/api.Edit,chandlery/api.Edit] -/
def ic119 : IC :=
 (.seq
 (.reg 0 [oM 2 (.c .nilslice)] [0])
 (.seq
 (.seq
 (.reg 1 [oM 3 0, oQ 4 (.isnil (.slice 63) false 3)] [0, 4])
 (.cond 4
 (.seq
 (.reg 2 [oM 2 (.c .nilslice)] [2])
 .ret)
 .skip))
 (.seq
 (.reg 3 [oK 5 (.bsl 2 0 [(zU 0), (zI 0)] []), oM 6 0, oK 7 (.app 2 5 6), oM 2 7] [2])
 .ret)))
theorem fok119 : FOK Tryz.prog 119 (8, ic119, [(.t 2)]) := fokA [] Tryz.func119 (by kernel_rfl) (by kernel_rfl) (by kernel_rfl) (by kernel_rfl)
/-- (chandlery/pool.rows).is -/
def ic120 : IC :=
(.seq
 (.reg 0 [⟨(some 4), none, (.q (.mov (.c (.bool false))))⟩] [0, 1])
 (.seq
  (.reg 1 [⟨(some 5), none, (.q (.mov (.t 1)))⟩, ⟨(some 6), none, (.q (.bin .geq (.t 5) (.c (.int .i64 0))))⟩, ⟨(some 7), none, (.q (.mov (.t 6)))⟩, ⟨(some 8), (some ⟨7, true⟩), (.q (.mov (.t 1)))⟩, ⟨(some 9), (some ⟨7, true⟩), (.q (.mov (.t 0)))⟩, ⟨(some 10), (some ⟨7, true⟩), (.q (.len 0 (.t 9)))⟩, ⟨(some 11), (some ⟨7, true⟩), (.q (.bin .lss (.t 8) (.t 10)))⟩, ⟨(some 12), none, (.q (.pick (.t 7) (.t 11) (.c (.bool false))))⟩, ⟨(some 4), none, (.q (.mov (.t 12)))⟩] [4])
  .ret))
theorem fok120 : FOK Tryz.prog 120 (13, ic120, [(.t 4)]) := .mk (pf := []) (an := [(0, [0, 1]), (1, [4])]) (by kernel_rfl) (fnOK_of Tryz.func120 (by kernel_rfl) (by kernel_rfl) (by kernel_rfl))
/-- chandlery/pkg.Copy -/
def ic121 : IC :=
(.seq
 (.reg 0 [⟨(some 1), none, (.box (.t 0))⟩, ⟨(some 2), none, (.alloc [(.str []), (.int .i64 0), (.str []), (.str []), (.int .u8 0), (.str []), .nilslice, .nilslice, .nilslice, .nilslice, .nilslice, .nilslice, .nilslice, .nilslice, .nilslice])⟩] [1, 2])
 (.seq
  (.dreg 1 [⟨(some 7), none, (.q (.faddr 6 (.t 1)))⟩, ⟨(some 8), none, (.q (.load none (.t 7)))⟩, ⟨(some 9), none, (.pcall 181 [(.t 8)])⟩, ⟨(some 10), none, (.q (.faddr 9 (.t 1)))⟩, ⟨(some 11), none, (.q (.load none (.t 10)))⟩, ⟨(some 12), none, (.pcall 181 [(.t 11)])⟩, ⟨(some 13), none, (.q (.faddr 14 (.t 1)))⟩, ⟨(some 14), none, (.q (.load none (.t 13)))⟩, ⟨(some 15), none, (.pcall 182 [(.t 14)])⟩, ⟨(some 16), none, (.q (.faddr 6 (.t 1)))⟩, ⟨none, none, (.store 1 (.t 16) (.t 9))⟩, ⟨(some 17), none, (.q (.faddr 9 (.t 1)))⟩, ⟨none, none, (.store 1 (.t 17) (.t 12))⟩, ⟨(some 18), none, (.q (.faddr 14 (.t 1)))⟩, ⟨none, none, (.store 1 (.t 18) (.t 15))⟩] false [1, 2])
  (.seq
   (.seq
    (.reg 2 [⟨(some 19), none, (.q (.faddr 7 (.t 1)))⟩, ⟨(some 20), none, (.q (.faddr 8 (.t 1)))⟩, ⟨(some 21), none, (.q (.faddr 10 (.t 1)))⟩, ⟨(some 22), none, (.q (.faddr 11 (.t 1)))⟩, ⟨(some 23), none, (.q (.faddr 12 (.t 1)))⟩, ⟨(some 24), none, (.q (.faddr 13 (.t 1)))⟩, ⟨(some 25), none, (.bslt 1 6 [.nilptr] [⟨0, ⟨1, (.t 19)⟩⟩, ⟨1, ⟨1, (.t 20)⟩⟩, ⟨2, ⟨1, (.t 21)⟩⟩, ⟨3, ⟨1, (.t 22)⟩⟩, ⟨4, ⟨1, (.t 23)⟩⟩, ⟨5, ⟨1, (.t 24)⟩⟩])⟩, ⟨(some 26), none, (.q (.len 0 (.t 25)))⟩, ⟨(some 27), none, (.q (.mov (.c (.int .i64 0))))⟩] [1, 2, 25, 26, 27])
    (.block 0
     (.loop
      (.seq
       (.reg 3 [⟨(some 28), none, (.q (.bin .lss (.t 27) (.t 26)))⟩] [1, 2, 25, 26, 27, 28])
       (.seq
        (.cond (.t 28)
         .skip
         (.exit 0))
        (.seq
         (.block 1
          (.seq
           (.reg 4 [⟨(some 29), none, (.q (.iaddr 1 (.t 25) (.t 27)))⟩, ⟨(some 30), none, (.q (.load none (.t 29)))⟩, ⟨(some 4), none, (.q (.mov (.t 30)))⟩] [1, 2, 4, 25, 26, 27])
           (.seq
            (.reg 5 [⟨(some 31), none, (.q (.mov (.t 4)))⟩, ⟨(some 32), none, (.q (.mov (.t 4)))⟩, ⟨(some 33), none, (.q (.nchk (.t 32)))⟩, ⟨(some 34), none, (.q (.load none (.t 33)))⟩, ⟨(some 35), none, (.call 183 [(.t 34)])⟩, ⟨(some 36), none, (.q (.nchk (.t 31)))⟩, ⟨none, none, (.store 1 (.t 36) (.t 35))⟩] [1, 2, 4, 25, 26, 27])
            (.seq
            (.reg 6 [⟨(some 37), none, (.q (.mov (.t 4)))⟩, ⟨(some 38), none, (.q (.nchk (.t 37)))⟩, ⟨(some 39), none, (.q (.load none (.t 38)))⟩, ⟨(some 40), none, (.q (.len 0 (.t 39)))⟩, ⟨(some 41), none, (.q (.mov (.c (.int .i64 0))))⟩] [1, 2, 4, 25, 26, 27, 39, 40, 41])
            (.block 2
            (.loop
            (.seq
            (.reg 7 [⟨(some 42), none, (.q (.bin .lss (.t 41) (.t 40)))⟩] [1, 2, 4, 25, 26, 27, 39, 40, 41, 42])
            (.seq
            (.cond (.t 42)
            .skip
            (.exit 2))
            (.seq
            (.block 3
            (.seq
            (.reg 8 [⟨(some 43), none, (.q (.mov (.t 41)))⟩, ⟨(some 44), none, (.q (.iaddr 7 (.t 39) (.t 41)))⟩, ⟨(some 45), none, (.q (.load (some 7) (.t 44)))⟩, ⟨(some 6), none, (.alloc [(.int .u8 0), (.str []), (.int .u8 0), (.int .i64 0), (.str []), (.str []), .nilslice])⟩, ⟨(some 5), none, (.q (.mov (.t 43)))⟩, ⟨none, none, (.store 7 (.t 6) (.t 45))⟩] [1, 2, 4, 5, 6, 25, 26, 27, 39, 40, 41])
            (.dreg 9 [⟨(some 46), none, (.q (.mov (.t 4)))⟩, ⟨(some 47), none, (.q (.nchk (.t 46)))⟩, ⟨(some 48), none, (.q (.load none (.t 47)))⟩, ⟨(some 49), none, (.q (.mov (.t 5)))⟩, ⟨(some 50), none, (.q (.load (some 7) (.t 6)))⟩, ⟨(some 51), none, (.pcall 184 [(.t 50)])⟩, ⟨(some 52), none, (.q (.iaddr 7 (.t 48) (.t 49)))⟩, ⟨none, none, (.store 7 (.t 52) (.t 51))⟩] false [1, 2, 4, 25, 26, 27, 39, 40, 41])))
            (.reg 10 [⟨(some 53), none, (.q (.bin .add (.t 41) (.c (.int .i64 1))))⟩, ⟨(some 41), none, (.q (.mov (.t 53)))⟩] [1, 2, 4, 25, 26, 27, 39, 40, 41]))))))))))
         (.reg 11 [⟨(some 54), none, (.q (.bin .add (.t 27) (.c (.int .i64 1))))⟩, ⟨(some 27), none, (.q (.mov (.t 54)))⟩] [1, 2, 25, 26, 27])))))))
   (.seq
    (.reg 12 [⟨(some 55), none, (.q (.load (some 15) (.t 1)))⟩, ⟨none, none, (.store 15 (.t 2) (.t 55))⟩] [2])
    .ret))))
theorem fok121 : FOK Tryz.prog 121 (56, ic121, [(.cell (some 15) 2)]) := .mk (pf := ([1000025] ++ List.filter (fun k => k != 183) allF0)) (an := [(0, [1, 2]), (1, [1, 2]), (2, [1, 2, 25, 26, 27]), (3, [1, 2, 25, 26, 27, 28]), (4, [1, 2, 4, 25, 26, 27]), (5, [1, 2, 4, 25, 26, 27]), (6, [1, 2, 4, 25, 26, 27, 39, 40, 41]), (7, [1, 2, 4, 25, 26, 27, 39, 40, 41, 42]), (8, [1, 2, 4, 5, 6, 25, 26, 27, 39, 40, 41]), (9, [1, 2, 4, 25, 26, 27, 39, 40, 41]), (10, [1, 2, 4, 25, 26, 27, 39, 40, 41]), (11, [1, 2, 25, 26, 27]), (12, [2])]) (by kernel_rfl) (fnOK_of Tryz.func121 (by kernel_rfl) (by kernel_rfl) (by kernel_rfl))
/-- chandlery/arch.Score -/
def ic122 : IC :=
 (.seq
 (.reg 0 [oM 4 (cI 0)] [0, 1])
 (.seq
 (.seq
 (.reg 1 [oM 5 0, oK 6 (.call 109 [5]), oQ 7 (.not 6), oM 8 7, gQ 9 8 false (.mov 1), gK 10 8 false (.call 109 [9]), gQ 11 8 false (.not 10), oQ 12 (.pick 8 (cB true) 11)] [0, 1, 12])
 (.cond 12
 (.seq
 (.reg 2 [oM 4 (cI 0)] [4])
 .ret)
 .skip))
 (.seq
 (.reg 3 [oK 13 (.call 185 []), oM 14 0, oQ 15 (.idx (some 5) 5 5 13 14), oM 16 1, oQ 17 (.idx none 5 1 15 16), oM 4 17] [4])
 .ret)))
theorem fok122 : FOK Tryz.prog 122 (18, ic122, [(.t 4)]) := fokA [] Tryz.func122 (by kernel_rfl) (by kernel_rfl) (by kernel_rfl) (by kernel_rfl)
/-- chandlery/evr.first -/
def ic123 : IC :=
 (.seq
 (.reg 0 [oM 2 (cI 0)] [0])
 (.seq
 (.seq
 (.reg 1 [oM 6 0, oQ 7 (.len 0 6), oM 8 (cI 0)] [6, 7, 8])
 (.block 0
 (.loop
 (.seq
 (.reg 2 [oQ 9 (.bin .lss 8 7)] [6, 7, 8, 9])
 (.seq
 (.cond 9
 .skip
 (.exit 0))
 (.seq
 (.block 1
 (.seq
 (.reg 3 [oQ 10 (.iaddr 1 6 8), oQ 11 (.load none 10), oM 4 11] [4, 6, 7, 8])
 (.seq
 (.reg 4 [oM 12 4, oK 13 (.callv 12 []), oM 5 13] [5, 6, 7, 8])
 (.seq
 (.reg 5 [oM 14 5, oQ 15 (.bin .neq 14 (cI 0))] [5, 6, 7, 8, 15])
 (.cond 15
 (.seq
 (.reg 6 [oM 16 5, oM 2 16] [2])
 .ret)
 .skip)))))
 (.reg 7 [oQ 17 (.bin .add 8 (cI 1)), oM 8 17] [6, 7, 8])))))))
 (.seq
 (.reg 8 [oM 2 (cI 0)] [2])
 .ret)))
theorem fok123 : FOK Tryz.prog 123 (18, ic123, [(.t 2)]) := fokA [] Tryz.func123 (by kernel_rfl) (by kernel_rfl) (by kernel_rfl) (by kernel_rfl)
/-- chandlery/evr.Compare$1 -/
def ic124 : IC :=
 (.seq
 (.reg 0 [oM 2 (cI 0)] [0, 1])
 (.seq
 (.reg 1 [oQ 3 (.faddr 0 0), oQ 4 (.load none 3), oQ 5 (.faddr 0 1), oQ 6 (.load none 5), oK 7 (.call 84 [4, 6]), oM 2 7] [2])
 .ret))
theorem fok124 : FOK Tryz.prog 124 (8, ic124, [(.t 2)]) := fokA [] Tryz.func124 (by kernel_rfl) (by kernel_rfl) (by kernel_rfl) (by kernel_rfl)
/-- chandlery/evr.Compare$2 -/
def ic125 : IC :=
 (.seq
 (.reg 0 [oM 2 (cI 0)] [0, 1])
 (.seq
 (.reg 1 [oQ 3 (.faddr 1 0), oQ 4 (.load none 3), oQ 5 (.faddr 1 1), oQ 6 (.load none 5), oK 7 (.call 126 [4, 6]), oM 2 7] [2])
 .ret))
theorem fok125 : FOK Tryz.prog 125 (8, ic125, [(.t 2)]) := fokA [] Tryz.func125 (by kernel_rfl) (by kernel_rfl) (by kernel_rfl) (by kernel_rfl)
/-- chandlery/vercmp.Compare -/
def ic126 : IC :=
 (.seq
 (.reg 0 [oM 4 (cI 0)] [0, 1])
 (.seq
 (.reg 1 [oM 9 0, oK 10 (.call 186 [9]), oQ 11 (.bld [(zU 0), (.str [])] [⟨0, ⟨1, (.c (zU 2))⟩⟩]), oK 12 (.bslt 2 1 [(zU 0), (.str [])] [⟨0, ⟨2, 11⟩⟩]), oK 13 (.app 2 10 12), oM 14 1, oK 15 (.call 186 [14]), oQ 16 (.bld [(zU 0), (.str [])] [⟨0, ⟨1, (.c (zU 2))⟩⟩]), oK 17 (.bslt 2 1 [(zU 0), (.str [])] [⟨0, ⟨2, 16⟩⟩]), oK 18 (.app 2 15 17), oM 5 13, oM 6 18] [5, 6])
 (.seq
 (.seq
 (.reg 2 [oM 19 5, oQ 20 (.len 0 19), oM 21 6, oQ 22 (.len 0 21), oQ 23 (.mm false 20 22), oM 24 (cI 0)] [5, 6, 23, 24])
 (.block 0
 (.loop
 (.seq
 (.reg 3 [oQ 25 (.bin .lss 24 23)] [5, 6, 23, 24, 25])
 (.seq
 (.cond 25
 .skip
 (.exit 0))
 (.seq
 (.block 1
 (.seq
 (.reg 4 [oM 26 24, oM 7 26] [5, 6, 7, 23, 24])
 (.seq
 (.dreg 5 [oM 27 5, oM 28 7, oQ 29 (.iaddr 2 27 28), oQ 30 (.load (some 2) 29), oM 31 6, oM 32 7, oQ 33 (.iaddr 2 31 32), oQ 34 (.load (some 2) 33), oK 35 (.call 187 [30, 34]), oM 8 35] false [5, 6, 8, 23, 24])
 (.seq
 (.reg 6 [oM 36 8, oQ 37 (.bin .neq 36 (cI 0))] [5, 6, 8, 23, 24, 37])
 (.cond 37
 (.seq
 (.reg 7 [oM 38 8, oM 4 38] [4])
 .ret)
 .skip)))))
 (.reg 8 [oQ 39 (.bin .add 24 (cI 1)), oM 24 39] [5, 6, 23, 24])))))))
 (.seq
 (.reg 9 [oM 4 (cI 0)] [4])
 .ret))))
theorem fok126 : FOK Tryz.prog 126 (40, ic126, [(.t 4)]) := fokA [1000012, 1000017] Tryz.func126 (by kernel_rfl) (by kernel_rfl) (by kernel_rfl) (by kernel_rfl)
/-- chandlery/evr.Compare$3 -/
def ic127 : IC :=
 (.seq
 (.reg 0 [oM 2 (cI 0)] [0, 1])
 (.seq
 (.seq
 (.reg 1 [oQ 3 (.faddr 2 0), oQ 4 (.load none 3), oQ 5 (.bin .eql 4 (.c (.str []))), oM 6 5, gQ 7 6 false (.faddr 2 1), gQ 8 6 false (.load none 7), gQ 9 6 false (.bin .eql 8 (.c (.str []))), oQ 10 (.pick 6 (cB true) 9)] [0, 1, 10])
 (.cond 10
 (.seq
 (.reg 2 [oM 2 (cI 0)] [2])
 .ret)
 .skip))
 (.seq
 (.reg 3 [oQ 11 (.faddr 2 0), oQ 12 (.load none 11), oQ 13 (.faddr 2 1), oQ 14 (.load none 13), oK 15 (.call 126 [12, 14]), oM 2 15] [2])
 .ret)))
theorem fok127 : FOK Tryz.prog 127 (16, ic127, [(.t 2)]) := fokA [] Tryz.func127 (by kernel_rfl) (by kernel_rfl) (by kernel_rfl) (by kernel_rfl)
/-- slices.Contains[[]chandlery/api.Edit,chandlery/api.Edit] -/
def ic128 : IC :=
 (.seq
 (.reg 0 [oK 3 (.boxt 1), oM 4 (cB false)] [0, 3])
 (.seq
 (.reg 1 [oM 5 0, oQ 6 (.load (some 2) 3), oK 7 (.call 188 [5, 6]), oQ 8 (.bin .geq 7 (cI 0)), oM 4 8] [4])
 .ret))
theorem fok128 : FOK Tryz.prog 128 (9, ic128, [(.t 4)]) := fokA [1000003] Tryz.func128 (by kernel_rfl) (by kernel_rfl) (by kernel_rfl) (by kernel_rfl)
/-- (*chandlery/match.Index).is -/
def ic129 : IC :=
 (.seq
 (.reg 0 [oM 4 (cB false)] [0, 1])
 (.seq
 (.reg 1 [oM 5 0, oQ 6 (.isnil (.pointer 160) true 5), oM 7 6, gQ 8 7 true (.mov 1), gQ 9 7 true (.bin .geq 8 (cI 0)), oQ 10 (.pick 7 9 (cB false)), oM 11 10, gQ 12 11 true (.mov 1), gQ 13 11 true (.mov 0), gQ 14 11 true (.nchk 13), gQ 15 11 true (.faddr 0 14), gQ 16 11 true (.load none 15), gQ 17 11 true (.len 0 16), gQ 18 11 true (.bin .lss 12 17), oQ 19 (.pick 11 18 (cB false)), oM 4 19] [4])
 .ret))
theorem fok129 : FOK Tryz.prog 129 (20, ic129, [(.t 4)]) := fokA [] Tryz.func129 (by kernel_rfl) (by kernel_rfl) (by kernel_rfl) (by kernel_rfl)
/-- (*chandlery/match.Index).sift -/
def ic130 : IC :=
 (.seq
 (.reg 0 [oM 6 (.c .nilslice)] [0, 1, 2])
 (.seq
 (.reg 1 [oM 7 (.c .nilslice)] [0, 1, 2, 7])
 (.seq
 (.seq
 (.reg 2 [oM 10 1, oQ 11 (.len 0 10), oM 12 (cI 0)] [0, 2, 7, 10, 11, 12])
 (.block 0
 (.loop
 (.seq
 (.reg 3 [oQ 13 (.bin .lss 12 11)] [0, 2, 7, 10, 11, 12, 13])
 (.seq
 (.cond 13
 .skip
 (.exit 0))
 (.seq
 (.block 1
 (.seq
 (.reg 4 [oQ 14 (.iaddr 1 10 12), oQ 15 (.load none 14), oM 9 15] [0, 2, 7, 9, 10, 11, 12])
 (.seq
 (.reg 5 [oM 16 2, oM 17 0, oQ 18 (.nchk 17), oQ 19 (.faddr 0 18), oQ 20 (.load none 19), oM 21 9, oQ 22 (.iaddr 15 20 21), oQ 23 (.load (some 15) 22), oM 24 9, oK 25 (.callv 16 [23, 24])] [0, 2, 7, 9, 10, 11, 12, 25])
 (.cond 25
 (.reg 6 [oM 26 7, oM 27 9, oK 28 (.bslt 1 1 [(zI 0)] [⟨0, ⟨1, 27⟩⟩]), oK 29 (.app 1 26 28), oM 7 29] [0, 2, 7, 10, 11, 12])
 .skip))))
 (.reg 7 [oQ 30 (.bin .add 12 (cI 1)), oM 12 30] [0, 2, 7, 10, 11, 12])))))))
 (.seq
 (.reg 8 [oM 31 7, oM 6 31] [6])
 .ret))))
theorem fok130 : FOK Tryz.prog 130 (32, ic130, [(.t 6)]) := fokA [1000028] Tryz.func130 (by kernel_rfl) (by kernel_rfl) (by kernel_rfl) (by kernel_rfl)
/-- (*chandlery/match.Index).Obsoleters$1 -/
def ic131 : IC :=
 (.seq
 (.reg 0 [oK 4 (.boxt 0), oM 6 (cB false)] [1, 2, 3, 4])
 (.seq
 (.dreg 1 [oM 7 1, oQ 8 (.load none 2), oQ 9 (.bin .neq 7 8), oM 10 9, gQ 11 10 true (.load (some 15) 4), gQ 12 10 true (.load none 3), gQ 13 10 true (.nchk 12), gQ 14 10 true (.faddr 0 13), gQ 15 10 true (.load none 14), gQ 16 10 true (.load none 2), gQ 17 10 true (.iaddr 15 15 16), gQ 18 10 true (.load (some 15) 17), gK 19 10 true (.call 132 [11, 18]), oQ 20 (.pick 10 19 (cB false)), oM 6 20] false [6])
 .ret))
theorem fok131 : FOK Tryz.prog 131 (21, ic131, [(.t 6)]) := fokA [1000004] Tryz.func131 (by kernel_rfl) (by kernel_rfl) (by kernel_rfl) (by kernel_rfl)
/-- chandlery/pkg.Obsoletes -/
def ic132 : IC :=
 (.seq
 (.reg 0 [oK 2 (.boxt 0), oK 3 (.boxt 1), oM 4 (cB false)] [2, 3])
 (.seq
 (.reg 1 [oQ 5 (.faddr 9 2), oQ 6 (.load none 5), oQ 7 (.mkf 189 [] [3]), oK 8 (.call 93 [6, 7]), oM 4 8] [4])
 .ret))
theorem fok132 : FOK Tryz.prog 132 (9, ic132, [(.t 4)]) := fokA [1000002, 1000003] Tryz.func132 (by kernel_rfl) (by kernel_rfl) (by kernel_rfl) (by kernel_rfl)
/-- slices.pdqsortOrdered[int] -/
def ic133 : IC :=
 (.seq
 (.reg 0 [oM 8 (cB true)] [0, 1, 2, 3, 8])
 (.seq
 (.reg 1 [oM 9 (cB true)] [0, 1, 2, 3, 8, 9])
 (.block 0
 (.loop
 (.block 1
 (.seq
 (.reg 2 [oM 19 2, oM 20 1, oQ 21 (.bin .sub 19 20), oM 10 21] [0, 1, 2, 3, 8, 9, 10])
 (.seq
 (.seq
 (.reg 3 [oM 22 10, oQ 23 (.bin .leq 22 (cI 12))] [0, 1, 2, 3, 8, 9, 10, 23])
 (.cond 23
 (.seq
 (.reg 4 [oM 24 0, oM 25 1, oM 26 2, oK 27 (.call 190 [24, 25, 26])] [])
 .ret)
 .skip))
 (.seq
 (.seq
 (.reg 5 [oM 28 3, oQ 29 (.bin .eql 28 (cI 0))] [0, 1, 2, 3, 8, 9, 10, 29])
 (.cond 29
 (.seq
 (.reg 6 [oM 30 0, oM 31 1, oM 32 2, oK 33 (.call 191 [30, 31, 32])] [])
 .ret)
 .skip))
 (.seq
 (.seq
 (.reg 7 [oM 34 8, oQ 35 (.not 34)] [0, 1, 2, 3, 8, 9, 10, 35])
 (.cond 35
 (.seq
 (.reg 8 [oM 36 0, oM 37 1, oM 38 2, oK 39 (.call 192 [36, 37, 38])] [0, 1, 2, 3, 8, 9, 10])
 (.reg 9 [oM 40 3, oQ 41 (.bin .sub 40 (cI 1)), oM 3 41] [0, 1, 2, 3, 8, 9, 10]))
 .skip))
 (.seq
 (.reg 10 [oM 43 0, oM 44 1, oM 45 2, oK 46 (.call 193 [43, 44, 45]), oM 42 46, oQ 47 (.ext 0 42), oQ 48 (.ext 1 42), oM 11 47, oM 12 48] [0, 1, 2, 3, 8, 9, 10, 11, 12])
 (.seq
 (.seq
 (.reg 11 [oM 49 12, oQ 50 (.bin .eql 49 (cI 2))] [0, 1, 2, 3, 8, 9, 10, 11, 12, 50])
 (.cond 50
 (.seq
 (.reg 12 [oM 51 0, oM 52 1, oM 53 2, oK 54 (.call 194 [51, 52, 53])] [0, 1, 2, 3, 8, 9, 10, 11])
 (.seq
 (.reg 13 [oM 55 2, oQ 56 (.bin .sub 55 (cI 1)), oM 57 11, oM 58 1, oQ 59 (.bin .sub 57 58), oQ 60 (.bin .sub 56 59), oM 11 60] [0, 1, 2, 3, 8, 9, 10, 11])
 (.reg 14 [oM 12 (cI 1)] [0, 1, 2, 3, 8, 9, 10, 11, 12])))
 .skip))
 (.seq
 (.seq
 (.reg 15 [oM 61 8, oM 62 61, gQ 63 62 true (.mov 9), oQ 64 (.pick 62 63 (cB false)), oM 65 64, gQ 66 65 true (.mov 12), gQ 67 65 true (.bin .eql 66 (cI 1)), oQ 68 (.pick 65 67 (cB false))] [0, 1, 2, 3, 8, 9, 10, 11, 68])
 (.cond 68
 (.seq
 (.reg 16 [oM 69 0, oM 70 1, oM 71 2, oK 72 (.call 195 [69, 70, 71])] [0, 1, 2, 3, 8, 9, 10, 11, 72])
 (.cond 72
 .ret
 .skip))
 .skip))
 (.seq
 (.seq
 (.dreg 17 [oM 73 1, oQ 74 (.bin .gtr 73 (cI 0)), oM 75 74, gQ 76 75 true (.mov 0), gQ 77 75 true (.mov 1), gQ 78 75 true (.bin .sub 77 (cI 1)), gQ 79 75 true (.iaddr 1 76 78), gQ 80 75 true (.load none 79), gQ 81 75 true (.mov 0), gQ 82 75 true (.mov 11), gQ 83 75 true (.iaddr 1 81 82), gQ 84 75 true (.load none 83), gK 85 75 true (.call 196 [80, 84]), gQ 86 75 true (.not 85), oQ 87 (.pick 75 86 (cB false))] false [0, 1, 2, 3, 8, 9, 10, 11, 87])
 (.cond 87
 (.seq
 (.reg 18 [oM 88 0, oM 89 1, oM 90 2, oM 91 11, oK 92 (.call 197 [88, 89, 90, 91]), oM 13 92] [0, 2, 3, 8, 9, 13])
 (.seq
 (.reg 19 [oM 93 13, oM 1 93] [0, 1, 2, 3, 8, 9])
 (.exit 1)))
 .skip))
 (.seq
 (.reg 20 [oM 95 0, oM 96 1, oM 97 2, oM 98 11, oK 99 (.call 198 [95, 96, 97, 98]), oM 94 99, oQ 100 (.ext 0 94), oQ 101 (.ext 1 94), oM 14 100, oM 15 101] [0, 1, 2, 3, 10, 14, 15])
 (.seq
 (.reg 21 [oM 102 15, oM 9 102] [0, 1, 2, 3, 9, 10, 14])
 (.seq
 (.reg 22 [oM 103 14, oM 104 1, oQ 105 (.bin .sub 103 104), oM 106 2, oM 107 14, oQ 108 (.bin .sub 106 107), oM 16 105, oM 17 108] [0, 1, 2, 3, 9, 10, 14, 16, 17])
 (.seq
 (.reg 23 [oM 109 10, oQ 110 (.bin .quo 109 (cI 8)), oM 18 110] [0, 1, 2, 3, 9, 14, 16, 17, 18])
 (.seq
 (.reg 24 [oM 111 16, oM 112 17, oQ 113 (.bin .lss 111 112)] [0, 1, 2, 3, 9, 14, 16, 17, 18, 113])
 (.cond 113
 (.seq
 (.reg 25 [oM 114 16, oM 115 18, oQ 116 (.bin .geq 114 115), oM 8 116] [0, 1, 2, 3, 8, 9, 14])
 (.seq
 (.reg 26 [oM 117 0, oM 118 1, oM 119 14, oM 120 3, oK 121 (.call 133 [117, 118, 119, 120])] [0, 2, 3, 8, 9, 14])
 (.reg 27 [oM 122 14, oQ 123 (.bin .add 122 (cI 1)), oM 1 123] [0, 1, 2, 3, 8, 9])))
 (.seq
 (.reg 28 [oM 124 17, oM 125 18, oQ 126 (.bin .geq 124 125), oM 8 126] [0, 1, 2, 3, 8, 9, 14])
 (.seq
 (.reg 29 [oM 127 0, oM 128 14, oQ 129 (.bin .add 128 (cI 1)), oM 130 2, oM 131 3, oK 132 (.call 133 [127, 129, 130, 131])] [0, 1, 3, 8, 9, 14])
 (.reg 30 [oM 133 14, oM 2 133] [0, 1, 2, 3, 8, 9]))))))))))))))))))))))
theorem fok133 : FOK Tryz.prog 133 (134, ic133, []) := fokA [] Tryz.func133 (by kernel_rfl) (by kernel_rfl) (by kernel_rfl) (by kernel_rfl)
/-- math/bits.Len -/
def ic134 : IC :=
 (.seq
 (.reg 0 [oM 2 (cI 0)] [0])
 (.seq
 (.cond (cB false)
 (.seq
 (.reg 1 [oM 3 0, oQ 4 (.conv .u32 3), oK 5 (.call 199 [4]), oM 2 5] [2])
 .ret)
 .skip)
 (.seq
 (.reg 2 [oM 6 0, oK 7 (.call 200 [6]), oM 2 7] [2])
 .ret)))
theorem fok134 : FOK Tryz.prog 134 (8, ic134, [(.t 2)]) := fokA [] Tryz.func134 (by kernel_rfl) (by kernel_rfl) (by kernel_rfl) (by kernel_rfl)
/-- slices.IndexFunc[[]int,int] -/
def ic135 : IC :=
 (.seq
 (.reg 0 [oM 4 (cI 0)] [0, 1])
 (.seq
 (.seq
 (.reg 1 [oM 6 0, oQ 7 (.len 0 6), oM 8 (cI 0)] [0, 1, 7, 8])
 (.block 0
 (.loop
 (.seq
 (.reg 2 [oQ 9 (.bin .lss 8 7)] [0, 1, 7, 8, 9])
 (.seq
 (.cond 9
 .skip
 (.exit 0))
 (.seq
 (.block 1
 (.seq
 (.reg 3 [oM 10 8, oM 5 10] [0, 1, 5, 7, 8])
 (.seq
 (.reg 4 [oM 11 1, oM 12 0, oM 13 5, oQ 14 (.iaddr 1 12 13), oQ 15 (.load none 14), oK 16 (.callv 11 [15])] [0, 1, 5, 7, 8, 16])
 (.cond 16
 (.seq
 (.reg 5 [oM 17 5, oM 4 17] [4])
 .ret)
 .skip))))
 (.reg 6 [oQ 18 (.bin .add 8 (cI 1)), oM 8 18] [0, 1, 7, 8])))))))
 (.seq
 (.reg 7 [oM 4 (cI (-1))] [4])
 .ret)))
theorem fok135 : FOK Tryz.prog 135 (19, ic135, [(.t 4)]) := fokA [] Tryz.func135 (by kernel_rfl) (by kernel_rfl) (by kernel_rfl) (by kernel_rfl)
/-- (*chandlery/match.Index).Providers$1 -/
def ic136 : IC :=
 (.seq
 (.reg 0 [oK 3 (.boxt 0), oM 5 (cB false)] [2, 3])
 (.seq
 (.reg 1 [oQ 6 (.load (some 15) 3), oQ 7 (.load (some 5) 2), oK 8 (.call 95 [6, 7]), oM 5 8] [5])
 .ret))
theorem fok136 : FOK Tryz.prog 136 (9, ic136, [(.t 5)]) := fokA [1000003] Tryz.func136 (by kernel_rfl) (by kernel_rfl) (by kernel_rfl) (by kernel_rfl)
/-- (*chandlery/match.Index).Named$1 -/
def ic137 : IC :=
 (.seq
 (.reg 0 [oK 3 (.boxt 0), oM 5 (cB false)] [2, 3])
 (.seq
 (.reg 1 [oQ 6 (.load (some 15) 3), oQ 7 (.load (some 5) 2), oK 8 (.call 138 [6, 7]), oM 5 8] [5])
 .ret))
theorem fok137 : FOK Tryz.prog 137 (9, ic137, [(.t 5)]) := fokA [1000003] Tryz.func137 (by kernel_rfl) (by kernel_rfl) (by kernel_rfl) (by kernel_rfl)
/-- chandlery/pkg.Named -/
def ic138 : IC :=
 (.seq
 (.reg 0 [oK 2 (.boxt 0), oK 3 (.boxt 1), oM 4 (cB false)] [2, 3])
 (.seq
 (.dreg 1 [oQ 5 (.load (some 15) 2), oK 6 (.pcall 201 [5]), oQ 7 (.load (some 5) 3), oK 8 (.pcall 158 [6, 7]), oM 4 8] false [4])
 .ret))
theorem fok138 : FOK Tryz.prog 138 (9, ic138, [(.t 4)]) := fokA ([1000002, 1000003] ++ [158, 201]) Tryz.func138 (by kernel_rfl) (by kernel_rfl) (by kernel_rfl) (by kernel_rfl)
/-- chandlery/ask.some -/
def ic139 : IC :=
 (.seq
 (.reg 0 [oK 2 (.boxt 0), oM 4 (cB false)] [1, 2])
 (.seq
 (.reg 1 [oM 5 1, oQ 6 (.mkf 202 [] [2]), oK 7 (.call 140 [5, 6]), oM 4 7] [4])
 .ret))
theorem fok139 : FOK Tryz.prog 139 (8, ic139, [(.t 4)]) := fokA [1000002] Tryz.func139 (by kernel_rfl) (by kernel_rfl) (by kernel_rfl) (by kernel_rfl)
/-- slices.ContainsFunc[[]int,int] -/
def ic140 : IC :=
 (.seq
 (.reg 0 [oM 4 (cB false)] [0, 1])
 (.seq
 (.reg 1 [oM 5 0, oM 6 1, oK 7 (.call 135 [5, 6]), oQ 8 (.bin .geq 7 (cI 0)), oM 4 8] [4])
 .ret))
theorem fok140 : FOK Tryz.prog 140 (9, ic140, [(.t 4)]) := fokA [] Tryz.func140 (by kernel_rfl) (by kernel_rfl) (by kernel_rfl) (by kernel_rfl)
/-- (*chandlery/ask.Ask).upgrade$1 -/
def ic141 : IC :=
 (.seq
 (.reg 0 [oM 4 (cB false)] [0, 1, 2])
 (.seq
 (.dreg 1 [oQ 5 (.load none 1), oQ 6 (.load none 2), oM 7 0, oK 8 (.pcall 17 [6, 7]), oK 9 (.pcall 139 [5, 8]), oQ 10 (.not 9), oM 4 10] false [4])
 .ret))
theorem fok141 : FOK Tryz.prog 141 (11, ic141, [(.t 4)]) := fokA ([] ++ [17, 139]) Tryz.func141 (by kernel_rfl) (by kernel_rfl) (by kernel_rfl) (by kernel_rfl)
/-- (*chandlery/ask.Ask).sync$1 -/
def ic142 : IC :=
 (.seq
 (.reg 0 [oM 4 (cB false)] [0, 1, 2])
 (.seq
 (.reg 1 [oQ 6 (.load none 1), oM 7 0, oK 8 (.call 18 [6, 7]), oM 5 8] [2, 5])
 (.seq
 (.reg 2 [oM 9 5, oQ 10 (.len 0 9), oQ 11 (.bin .gtr 10 (cI 0)), oM 12 11, gQ 13 12 true (.load none 2), gQ 14 12 true (.mov 5), gK 15 12 true (.call 139 [13, 14]), gQ 16 12 true (.not 15), oQ 17 (.pick 12 16 (cB false)), oM 4 17] [4])
 .ret)))
theorem fok142 : FOK Tryz.prog 142 (18, ic142, [(.t 4)]) := fokA [] Tryz.func142 (by kernel_rfl) (by kernel_rfl) (by kernel_rfl) (by kernel_rfl)
/-- chandlery/pkg.May -/
def ic143 : IC :=
(.seq
 (.reg 0 [⟨(some 1), none, (.boxt (.t 0))⟩, ⟨(some 2), none, (.alloc [(.bool false)])⟩] [1, 2])
 (.seq
  (.block 0
   (.seq
    (.reg 1 [⟨(some 8), none, (.q (.faddr 0 (.t 1)))⟩, ⟨(some 9), none, (.q (.load none (.t 8)))⟩, ⟨(some 10), none, (.call 111 [(.t 9)])⟩, ⟨(some 11), none, (.q (.not (.t 10)))⟩, ⟨(some 12), none, (.q (.mov (.t 11)))⟩, ⟨(some 13), (some ⟨12, false⟩), (.q (.faddr 0 (.t 1)))⟩, ⟨(some 14), (some ⟨12, false⟩), (.q (.load none (.t 13)))⟩, ⟨(some 15), (some ⟨12, false⟩), (.call 113 [(.t 14)])⟩, ⟨(some 16), none, (.q (.pick (.t 12) (.c (.bool true)) (.t 15)))⟩, ⟨(some 17), none, (.q (.mov (.t 16)))⟩, ⟨(some 18), (some ⟨17, false⟩), (.q (.faddr 1 (.t 1)))⟩, ⟨(some 19), (some ⟨17, false⟩), (.q (.load (some 3) (.t 18)))⟩, ⟨(some 20), (some ⟨17, false⟩), (.call 114 [(.t 19), (.c (.bool false))])⟩, ⟨(some 21), (some ⟨17, false⟩), (.q (.not (.t 20)))⟩, ⟨(some 22), none, (.q (.pick (.t 17) (.c (.bool true)) (.t 21)))⟩, ⟨(some 7), none, (.q (.mov (.t 22)))⟩] [1, 2, 7])
    (.cond (.t 7)
     (.seq
      (.reg 2 [⟨none, none, (.store 1 (.t 2) (.c (.bool false)))⟩] [2])
      .ret)
     (.seq
      (.reg 3 [⟨(some 24), none, (.q (.faddr 4 (.t 1)))⟩, ⟨(some 25), none, (.q (.load none (.t 24)))⟩, ⟨(some 26), none, (.call 203 [(.t 25)])⟩, ⟨(some 27), none, (.q (.bin .eql (.t 26) (.c (.str []))))⟩, ⟨(some 28), none, (.q (.mov (.t 27)))⟩, ⟨(some 29), (some ⟨28, false⟩), (.q (.faddr 5 (.t 1)))⟩, ⟨(some 30), (some ⟨28, false⟩), (.q (.load none (.t 29)))⟩, ⟨(some 31), (some ⟨28, false⟩), (.q (.len 1 (.t 30)))⟩, ⟨(some 32), (some ⟨28, false⟩), (.q (.bin .gtr (.t 31) (.c (.int .i64 64))))⟩, ⟨(some 33), none, (.q (.pick (.t 28) (.c (.bool true)) (.t 32)))⟩, ⟨(some 23), none, (.q (.mov (.t 33)))⟩] [1, 2, 23])
      (.cond (.t 23)
       (.seq
        (.reg 4 [⟨none, none, (.store 1 (.t 2) (.c (.bool false)))⟩] [2])
        .ret)
       (.seq
        (.reg 5 [⟨(some 35), none, (.q (.faddr 6 (.t 1)))⟩, ⟨(some 36), none, (.q (.load none (.t 35)))⟩, ⟨(some 37), none, (.call 204 [(.t 36), (.c (.int .i64 32)), (.f 48)])⟩, ⟨(some 38), none, (.q (.not (.t 37)))⟩, ⟨(some 39), none, (.q (.mov (.t 38)))⟩, ⟨(some 40), (some ⟨39, false⟩), (.q (.faddr 9 (.t 1)))⟩, ⟨(some 41), (some ⟨39, false⟩), (.q (.load none (.t 40)))⟩, ⟨(some 42), (some ⟨39, false⟩), (.call 204 [(.t 41), (.c (.int .i64 32)), (.f 48)])⟩, ⟨(some 43), (some ⟨39, false⟩), (.q (.not (.t 42)))⟩, ⟨(some 44), none, (.q (.pick (.t 39) (.c (.bool true)) (.t 43)))⟩, ⟨(some 45), none, (.q (.mov (.t 44)))⟩, ⟨(some 46), (some ⟨45, false⟩), (.q (.faddr 14 (.t 1)))⟩, ⟨(some 47), (some ⟨45, false⟩), (.q (.load none (.t 46)))⟩, ⟨(some 48), (some ⟨45, false⟩), (.call 205 [(.t 47), (.c (.int .i64 32)), (.f 113)])⟩, ⟨(some 49), (some ⟨45, false⟩), (.q (.not (.t 48)))⟩, ⟨(some 50), none, (.q (.pick (.t 45) (.c (.bool true)) (.t 49)))⟩, ⟨(some 34), none, (.q (.mov (.t 50)))⟩] [1, 2, 34])
        (.cond (.t 34)
         (.seq
          (.reg 6 [⟨none, none, (.store 1 (.t 2) (.c (.bool false)))⟩] [2])
          .ret)
         .skip)))))))
  (.seq
   (.seq
    (.reg 7 [⟨(some 51), none, (.q (.faddr 14 (.t 1)))⟩, ⟨(some 52), none, (.q (.load none (.t 51)))⟩, ⟨(some 53), none, (.q (.len 0 (.t 52)))⟩, ⟨(some 54), none, (.q (.mov (.c (.int .i64 0))))⟩] [1, 2, 52, 53, 54])
    (.block 1
     (.loop
      (.seq
       (.reg 8 [⟨(some 55), none, (.q (.bin .lss (.t 54) (.t 53)))⟩] [1, 2, 52, 53, 54, 55])
       (.seq
        (.cond (.t 55)
         .skip
         (.exit 1))
        (.seq
         (.block 2
          (.seq
           (.reg 9 [⟨(some 56), none, (.q (.mov (.t 54)))⟩, ⟨(some 57), none, (.q (.iaddr 1 (.t 52) (.t 54)))⟩, ⟨(some 58), none, (.q (.load none (.t 57)))⟩, ⟨(some 3), none, (.q (.mov (.t 56)))⟩, ⟨(some 4), none, (.q (.mov (.t 58)))⟩] [1, 2, 3, 4, 52, 53, 54])
           (.seq
            (.reg 10 [⟨(some 59), none, (.q (.mov (.t 3)))⟩, ⟨(some 60), none, (.q (.bin .gtr (.t 59) (.c (.int .i64 0))))⟩, ⟨(some 61), none, (.q (.mov (.t 60)))⟩, ⟨(some 62), (some ⟨61, true⟩), (.q (.faddr 14 (.t 1)))⟩, ⟨(some 63), (some ⟨61, true⟩), (.q (.load none (.t 62)))⟩, ⟨(some 64), (some ⟨61, true⟩), (.q (.mov (.t 3)))⟩, ⟨(some 65), (some ⟨61, true⟩), (.q (.bin .sub (.t 64) (.c (.int .i64 1))))⟩, ⟨(some 66), (some ⟨61, true⟩), (.q (.iaddr 1 (.t 63) (.t 65)))⟩, ⟨(some 67), (some ⟨61, true⟩), (.q (.load none (.t 66)))⟩, ⟨(some 68), (some ⟨61, true⟩), (.q (.mov (.t 4)))⟩, ⟨(some 69), (some ⟨61, true⟩), (.q (.bin .geq (.t 67) (.t 68)))⟩, ⟨(some 70), none, (.q (.pick (.t 61) (.t 69) (.c (.bool false))))⟩] [1, 2, 52, 53, 54, 70])
            (.cond (.t 70)
            (.seq
            (.reg 11 [⟨none, none, (.store 1 (.t 2) (.c (.bool false)))⟩] [2])
            .ret)
            .skip))))
         (.reg 12 [⟨(some 71), none, (.q (.bin .add (.t 54) (.c (.int .i64 1))))⟩, ⟨(some 54), none, (.q (.mov (.t 71)))⟩] [1, 2, 52, 53, 54])))))))
   (.seq
    (.seq
     (.reg 13 [⟨(some 72), none, (.q (.load (some 15) (.t 1)))⟩, ⟨(some 73), none, (.call 206 [(.t 72)])⟩] [2, 73])
     (.block 3
      (.rfunc (.t 73) [74, 75]
       (.seq
        (.reg 14 [⟨(some 5), none, (.alloc [(.int .u8 0)])⟩, ⟨none, none, (.store 1 (.t 5) (.t 74))⟩] [2, 5, 75])
        (.reg 15 [⟨(some 6), none, (.q (.mov (.t 75)))⟩] [2, 5, 6]))
       (.block 4
        (.seq
         (.reg 16 [⟨(some 76), none, (.q (.mov (.t 6)))⟩, ⟨(some 77), none, (.q (.mkf 208 [] [(.t 5)]))⟩, ⟨(some 78), none, (.call 207 [(.t 76), (.c (.int .i64 32)), (.t 77)])⟩, ⟨(some 79), none, (.q (.not (.t 78)))⟩] [2, 79])
         (.cond (.t 79)
          (.seq
           (.reg 17 [⟨none, none, (.store 1 (.t 2) (.c (.bool false)))⟩] [])
           .ret)
          .skip))))))
    (.seq
     (.reg 18 [⟨none, none, (.store 1 (.t 2) (.c (.bool true)))⟩] [2])
     .ret)))))
theorem fok143 : FOK Tryz.prog 143 (80, ic143, [(.cell none 2)]) := .mk (pf := [1000001]) (an := [(0, [1, 2]), (1, [1, 2, 7]), (2, [2]), (3, [1, 2, 23]), (4, [2]), (5, [1, 2, 34]), (6, [2]), (7, [1, 2, 52, 53, 54]), (8, [1, 2, 52, 53, 54, 55]), (9, [1, 2, 3, 4, 52, 53, 54]), (10, [1, 2, 52, 53, 54, 70]), (11, [2]), (12, [1, 2, 52, 53, 54]), (13, [2, 73]), (14, [2, 5, 75]), (15, [2, 5, 6]), (16, [2, 79]), (18, [2])]) (by kernel_rfl) (fnOK_of Tryz.func143 (by kernel_rfl) (by kernel_rfl) (by kernel_rfl))
/-- cmp.isNaN[int] -/
def ic147 : IC :=
 (.seq
 (.reg 0 [oM 2 (cB false)] [0])
 (.seq
 (.reg 1 [oM 3 0, oM 4 0, oQ 5 (.bin .neq 3 4), oM 2 5] [2])
 .ret))
theorem fok147 : FOK Tryz.prog 147 (6, ic147, [(.t 2)]) := fokA [] Tryz.func147 (by kernel_rfl) (by kernel_rfl) (by kernel_rfl) (by kernel_rfl)
/-- chandlery/shape.parts -/
def ic155 : IC :=
(.seq
 (.reg 0 [⟨(some 1), none, (.boxt (.t 0))⟩, ⟨(some 2), none, (.q (.mov (.c .nilfunc)))⟩] [1])
 (.seq
  (.reg 1 [⟨(some 3), none, (.alloc [.nilfunc])⟩] [1, 3])
  (.seq
   (.reg 2 [⟨(some 4), none, (.q (.mkf 220 [] [(.t 3)]))⟩, ⟨none, none, (.store 1 (.t 3) (.t 4))⟩] [1, 3])
   (.seq
    (.reg 3 [⟨(some 5), none, (.q (.mkf 221 [] [(.t 3), (.t 1)]))⟩, ⟨(some 2), none, (.q (.mov (.t 5)))⟩] [2])
    .ret))))
theorem fok155 : FOK Tryz.prog 155 (6, ic155, [(.t 2)]) := .mk (pf := [1000001]) (an := [(0, [1]), (1, [1, 3]), (2, [1, 3]), (3, [2])]) (by kernel_rfl) (fnOK_of Tryz.func155 (by kernel_rfl) (by kernel_rfl) (by kernel_rfl))
/-- slices.IndexFunc[[]chandlery/api.Dep,chandlery/api.Dep] -/
def ic156 : IC :=
(.seq
 (.reg 0 [⟨(some 4), none, (.q (.mov (.c (.int .i64 0))))⟩] [0, 1])
 (.seq
  (.seq
   (.reg 1 [⟨(some 6), none, (.q (.mov (.t 0)))⟩, ⟨(some 7), none, (.q (.len 0 (.t 6)))⟩, ⟨(some 8), none, (.q (.mov (.c (.int .i64 0))))⟩] [0, 1, 7, 8])
   (.block 0
    (.loop
     (.seq
      (.reg 2 [⟨(some 9), none, (.q (.bin .lss (.t 8) (.t 7)))⟩] [0, 1, 7, 8, 9])
      (.seq
       (.cond (.t 9)
        .skip
        (.exit 0))
       (.seq
        (.block 1
         (.seq
          (.reg 3 [⟨(some 10), none, (.q (.mov (.t 8)))⟩, ⟨(some 5), none, (.q (.mov (.t 10)))⟩] [0, 1, 5, 7, 8])
          (.seq
           (.reg 4 [⟨(some 11), none, (.q (.mov (.t 1)))⟩, ⟨(some 12), none, (.q (.mov (.t 0)))⟩, ⟨(some 13), none, (.q (.mov (.t 5)))⟩, ⟨(some 14), none, (.q (.iaddr 5 (.t 12) (.t 13)))⟩, ⟨(some 15), none, (.q (.load (some 5) (.t 14)))⟩, ⟨(some 16), none, (.callv (.t 11) [(.t 15)])⟩] [0, 1, 5, 7, 8, 16])
           (.cond (.t 16)
            (.seq
            (.reg 5 [⟨(some 17), none, (.q (.mov (.t 5)))⟩, ⟨(some 4), none, (.q (.mov (.t 17)))⟩] [4])
            .ret)
            .skip))))
        (.reg 6 [⟨(some 18), none, (.q (.bin .add (.t 8) (.c (.int .i64 1))))⟩, ⟨(some 8), none, (.q (.mov (.t 18)))⟩] [0, 1, 7, 8])))))))
  (.seq
   (.reg 7 [⟨(some 4), none, (.q (.mov (.c (.int .i64 (-1)))))⟩] [4])
   .ret)))
theorem fok156 : FOK Tryz.prog 156 (19, ic156, [(.t 4)]) := .mk (pf := []) (an := [(0, [0, 1]), (1, [0, 1, 7, 8]), (2, [0, 1, 7, 8, 9]), (3, [0, 1, 5, 7, 8]), (4, [0, 1, 5, 7, 8, 16]), (5, [4]), (6, [0, 1, 7, 8]), (7, [4])]) (by kernel_rfl) (fnOK_of Tryz.func156 (by kernel_rfl) (by kernel_rfl) (by kernel_rfl))
/-- chandlery/pkg.Provides$1 -/
def ic157 : IC :=
 (.seq
 (.reg 0 [oK 2 (.boxt 0), oM 3 (cB false)] [1, 2])
 (.seq
 (.reg 1 [oQ 4 (.load (some 5) 2), oQ 5 (.load (some 5) 1), oK 6 (.call 158 [4, 5]), oM 3 6] [3])
 .ret))
theorem fok157 : FOK Tryz.prog 157 (7, ic157, [(.t 3)]) := fokA [1000002] Tryz.func157 (by kernel_rfl) (by kernel_rfl) (by kernel_rfl) (by kernel_rfl)
/-- chandlery/pkg.meets -/
def ic158 : IC :=
 (.seq
 (.reg 0 [oK 2 (.boxt 0), oK 3 (.boxt 1), oM 4 (cB false)] [2, 3])
 (.seq
 (.reg 1 [oQ 5 (.faddr 0 2), oQ 6 (.load none 5), oQ 7 (.faddr 0 3), oQ 8 (.load none 7), oQ 9 (.bin .eql 6 8), oM 10 9, gQ 11 10 true (.load (some 5) 2), gQ 12 10 true (.load (some 5) 3), gK 13 10 true (.call 222 [11, 12]), oQ 14 (.pick 10 13 (cB false)), oM 4 14] [4])
 .ret))
theorem fok158 : FOK Tryz.prog 158 (15, ic158, [(.t 4)]) := fokA [1000002, 1000003] Tryz.func158 (by kernel_rfl) (by kernel_rfl) (by kernel_rfl) (by kernel_rfl)
/-- slices.Contains[[]string,string] -/
def ic159 : IC :=
 (.seq
 (.reg 0 [oM 4 (cB false)] [0, 1])
 (.seq
 (.reg 1 [oM 5 0, oM 6 1, oK 7 (.call 223 [5, 6]), oQ 8 (.bin .geq 7 (cI 0)), oM 4 8] [4])
 .ret))
theorem fok159 : FOK Tryz.prog 159 (9, ic159, [(.t 4)]) := fokA [] Tryz.func159 (by kernel_rfl) (by kernel_rfl) (by kernel_rfl) (by kernel_rfl)
/-- slices.IndexFunc[[]chandlery/api.Rich,chandlery/api.Rich] -/
def ic160 : IC :=
(.seq
 (.reg 0 [⟨(some 4), none, (.q (.mov (.c (.int .i64 0))))⟩] [0, 1])
 (.seq
  (.seq
   (.reg 1 [⟨(some 6), none, (.q (.mov (.t 0)))⟩, ⟨(some 7), none, (.q (.len 0 (.t 6)))⟩, ⟨(some 8), none, (.q (.mov (.c (.int .i64 0))))⟩] [0, 1, 7, 8])
   (.block 0
    (.loop
     (.seq
      (.reg 2 [⟨(some 9), none, (.q (.bin .lss (.t 8) (.t 7)))⟩] [0, 1, 7, 8, 9])
      (.seq
       (.cond (.t 9)
        .skip
        (.exit 0))
       (.seq
        (.block 1
         (.seq
          (.reg 3 [⟨(some 10), none, (.q (.mov (.t 8)))⟩, ⟨(some 5), none, (.q (.mov (.t 10)))⟩] [0, 1, 5, 7, 8])
          (.seq
           (.reg 4 [⟨(some 11), none, (.q (.mov (.t 1)))⟩, ⟨(some 12), none, (.q (.mov (.t 0)))⟩, ⟨(some 13), none, (.q (.mov (.t 5)))⟩, ⟨(some 14), none, (.q (.iaddr 7 (.t 12) (.t 13)))⟩, ⟨(some 15), none, (.q (.load (some 7) (.t 14)))⟩, ⟨(some 16), none, (.callv (.t 11) [(.t 15)])⟩] [0, 1, 5, 7, 8, 16])
           (.cond (.t 16)
            (.seq
            (.reg 5 [⟨(some 17), none, (.q (.mov (.t 5)))⟩, ⟨(some 4), none, (.q (.mov (.t 17)))⟩] [4])
            .ret)
            .skip))))
        (.reg 6 [⟨(some 18), none, (.q (.bin .add (.t 8) (.c (.int .i64 1))))⟩, ⟨(some 8), none, (.q (.mov (.t 18)))⟩] [0, 1, 7, 8])))))))
  (.seq
   (.reg 7 [⟨(some 4), none, (.q (.mov (.c (.int .i64 (-1)))))⟩] [4])
   .ret)))
theorem fok160 : FOK Tryz.prog 160 (19, ic160, [(.t 4)]) := .mk (pf := []) (an := [(0, [0, 1]), (1, [0, 1, 7, 8]), (2, [0, 1, 7, 8, 9]), (3, [0, 1, 5, 7, 8]), (4, [0, 1, 5, 7, 8, 16]), (5, [4]), (6, [0, 1, 7, 8]), (7, [4])]) (by kernel_rfl) (fnOK_of Tryz.func160 (by kernel_rfl) (by kernel_rfl) (by kernel_rfl))
/-- (*chandlery/pool.Pool).Priority -/
def ic168 : IC :=
(.seq
 (.reg 0 [⟨(some 4), none, (.q (.mov (.c (.int .i64 0))))⟩] [0, 1])
 (.seq
  (.seq
   (.reg 1 [⟨(some 5), none, (.q (.mov (.t 0)))⟩, ⟨(some 6), none, (.q (.isnil (.pointer 119) false (.t 5)))⟩, ⟨(some 7), none, (.q (.mov (.t 6)))⟩, ⟨(some 8), (some ⟨7, false⟩), (.q (.mov (.t 0)))⟩, ⟨(some 9), (some ⟨7, false⟩), (.q (.nchk (.t 8)))⟩, ⟨(some 10), (some ⟨7, false⟩), (.q (.faddr 0 (.t 9)))⟩, ⟨(some 11), (some ⟨7, false⟩), (.q (.load none (.t 10)))⟩, ⟨(some 12), (some ⟨7, false⟩), (.q (.mov (.t 1)))⟩, ⟨(some 13), (some ⟨7, false⟩), (.call 120 [(.t 11), (.t 12)])⟩, ⟨(some 14), (some ⟨7, false⟩), (.q (.not (.t 13)))⟩, ⟨(some 15), none, (.q (.pick (.t 7) (.c (.bool true)) (.t 14)))⟩] [0, 1, 15])
   (.cond (.t 15)
    (.seq
     (.reg 2 [⟨(some 4), none, (.q (.mov (.c (.int .i64 0))))⟩] [4])
     .ret)
    .skip))
  (.seq
   (.reg 3 [⟨(some 16), none, (.q (.mov (.t 0)))⟩, ⟨(some 17), none, (.q (.nchk (.t 16)))⟩, ⟨(some 18), none, (.q (.faddr 0 (.t 17)))⟩, ⟨(some 19), none, (.q (.load none (.t 18)))⟩, ⟨(some 20), none, (.q (.mov (.t 1)))⟩, ⟨(some 21), none, (.q (.iaddr 17 (.t 19) (.t 20)))⟩, ⟨(some 22), none, (.q (.faddr 16 (.t 21)))⟩, ⟨(some 23), none, (.q (.load none (.t 22)))⟩, ⟨(some 4), none, (.q (.mov (.t 23)))⟩] [4])
   .ret)))
theorem fok168 : FOK Tryz.prog 168 (24, ic168, [(.t 4)]) := .mk (pf := []) (an := [(0, [0, 1]), (1, [0, 1, 15]), (2, [4]), (3, [4])]) (by kernel_rfl) (fnOK_of Tryz.func168 (by kernel_rfl) (by kernel_rfl) (by kernel_rfl))
/-- strings.IndexByte -/
def ic176 : IC :=
(.seq
 (.reg 0 [⟨(some 4), none, (.q (.mov (.c (.int .i64 0))))⟩] [0, 1])
 (.seq
  (.reg 1 [⟨(some 5), none, (.q (.mov (.t 0)))⟩, ⟨(some 6), none, (.q (.mov (.t 1)))⟩, ⟨(some 7), none, (.call 232 [(.t 5), (.t 6)])⟩, ⟨(some 4), none, (.q (.mov (.t 7)))⟩] [4])
  .ret))
theorem fok176 : FOK Tryz.prog 176 (8, ic176, [(.t 4)]) := .mk (pf := []) (an := [(0, [0, 1]), (1, [4])]) (by kernel_rfl) (fnOK_of Tryz.func176 (by kernel_rfl) (by kernel_rfl) (by kernel_rfl))
end Go.Id.Tryz
