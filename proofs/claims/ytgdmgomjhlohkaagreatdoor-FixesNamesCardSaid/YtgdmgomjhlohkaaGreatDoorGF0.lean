/- The compiled codes of functions, written by a program out of the given form. Conditions: none. -/
import Derived.Test.YtgdmgomjhlohkaaGreatDoorFwW
import Derived.Test.YtgdmgomjhlohkaaGreatDoorProg
set_option linter.all false
namespace Go.Id.Tryz
open Go Go.Id Go.Proofs
def allF0 : List Nat := List.range 352
def ic3 : IC :=
 (.seq
 (.reg 0 [oM 0 (cB false)] [])
 (.seq
 (.reg 1 [oK 44 (.call 5 [(.c .nilptr), (.c .nilslice), (cI 1)]), oM 43 44, oQ 45 (.ext 0 43), oQ 46 (.ext 1 43), oQ 47 (.ext 2 43), oM 1 45, oM 2 46, oM 3 47] [3])
 (.seq
 (.seq
 (.reg 2 [oK 48 (.call 6 []), oQ 49 (.not 48), oM 50 49, oQ 51 (.pick 50 (cB true) (cB false)), oM 52 51, oQ 53 (.pick 52 (cB true) (cB false)), oM 54 53, oQ 55 (.pick 54 (cB true) (cB false)), oM 56 55, oQ 57 (.pick 56 (cB true) (cB false)), oM 58 57, gQ 59 58 false (.mov 3), gQ 60 58 false (.bin .neq 59 (cI 2)), oQ 61 (.pick 58 (cB true) 60), oM 62 61, gK 63 62 false (.call 7 [(.c .nilptr), (.c .nilslice)]), gQ 64 62 false (.bin .neq 63 (cI 0)), oQ 65 (.pick 62 (cB true) 64), oM 66 65, gQ 67 66 false (.bld [(zU 0), (zI 0), (zI 0)] [⟨0, ⟨1, (.c (zU 2))⟩⟩]), gK 68 66 false (.call 8 [67]), gQ 69 66 false (.len 0 68), gQ 70 66 false (.bld [(zU 0), (zI 0), (zI 0)] []), gK 71 66 false (.call 8 [70]), gQ 72 66 false (.len 0 71), gQ 73 66 false (.bin .add 69 72), gQ 74 66 false (.bld [(zU 0), (zI 0), (zI 0)] [⟨0, ⟨1, (.c (zU 9))⟩⟩]), gK 75 66 false (.call 8 [74]), gQ 76 66 false (.len 0 75), gQ 77 66 false (.bin .add 73 76), gQ 78 66 false (.bin .neq 77 (cI 0)), oQ 79 (.pick 66 (cB true) 78), oM 80 79, gQ 81 80 false (.bld [(zU 0), (zI 0), (zI 0)] [⟨0, ⟨1, (.c (zU 7))⟩⟩, ⟨1, ⟨1, (cI 7)⟩⟩]), gK 82 80 false (.call 8 [81]), gQ 83 80 false (.bld [(zU 0), (zI 0)] [⟨0, ⟨1, (.c (zU 1))⟩⟩, ⟨1, ⟨1, (cI 7)⟩⟩]), gK 84 80 false (.bslt 2 1 [(zU 0), (zI 0)] [⟨0, ⟨2, 83⟩⟩]), gK 85 80 false (.call 9 [82, 84]), gQ 86 80 false (.not 85), oQ 87 (.pick 80 (cB true) 86), oM 88 87, gQ 89 88 false (.bld [(zU 0), (zI 0), (zI 0)] [⟨0, ⟨1, (.c (zU 6))⟩⟩, ⟨1, ⟨1, (cI (-1))⟩⟩]), gK 90 88 false (.call 8 [89]), gQ 91 88 false (.len 0 90), gQ 92 88 false (.bin .neq 91 (cI 3)), oQ 93 (.pick 88 (cB true) 92)] [93])
 (.cond 93
 (.seq
 (.reg 3 [oM 0 (cB false)] [0])
 .ret)
 .skip))
 (.seq
 (.reg 4 [oM 4 (.f 10)] [4])
 (.seq
 (.reg 5 [oM 94 4, oK 95 (.callv 94 [(.c (.str [98])), (.c (.str [49])), (.c (zU 1))]), oK 5 (.alloc [(.str []), (zI 0), (.str []), (.str []), (zU 0), (.str []), .nilslice, .nilslice, .nilslice, .nilslice, .nilslice, .nilslice, .nilslice, .nilslice, .nilslice]), oN (.store 15 5 95)] [4, 5])
 (.seq
 (.reg 6 [oQ 96 (.bld [(zI 0), (.str []), (.str [])] [⟨1, ⟨1, (.c (.str [50]))⟩⟩]), oQ 97 (.bld [(.str []), (zU 0), (zI 0), (.str []), (.str [])] [⟨0, ⟨1, (.c (.str [97]))⟩⟩, ⟨1, ⟨1, (.c (zU 2))⟩⟩, ⟨2, ⟨3, 96⟩⟩]), oQ 98 (.bld [(zU 0), (.str []), (zU 0), (zI 0), (.str []), (.str []), .nilslice] [⟨0, ⟨1, (.c (zU 1))⟩⟩, ⟨1, ⟨5, 97⟩⟩]), oK 99 (.bslt 7 1 [(zU 0), (.str []), (zU 0), (zI 0), (.str []), (.str []), .nilslice] [⟨0, ⟨7, 98⟩⟩]), oQ 100 (.faddr 8 5), oN (.store 1 100 99)] [4, 5])
 (.seq
 (.oreg 7 [(0, oM 101 4, 0), (2, oM 103 4, 0), (4, oQ 105 (.load (some 15) 5), 0), (1, oK 102 (.callv 101 [(.c (.str [97])), (.c (.str [49])), (.c (zU 2))]), 16), (3, oK 104 (.callv 103 [(.c (.str [97])), (.c (.str [51])), (.c (zU 3))]), 16), (5, oK 106 (.bslt 15 3 [(.str []), (zI 0), (.str []), (.str []), (zU 0), (.str []), .nilslice, .nilslice, .nilslice, .nilslice, .nilslice, .nilslice, .nilslice, .nilslice, .nilslice] [⟨0, ⟨15, 102⟩⟩, ⟨15, ⟨15, 104⟩⟩, ⟨30, ⟨15, 105⟩⟩]), 0), (6, oQ 107 (.bld [(zI 0), .nilslice] [⟨1, ⟨1, 106⟩⟩]), 0), (7, oK 108 (.bslt 2 1 [(zI 0), .nilslice] [⟨0, ⟨2, 107⟩⟩]), 0), (8, oM 6 108, 0)] [4, 6])
 (.seq
 (.reg 8 [oM 109 4, oK 110 (.callv 109 [(.c (.str [97])), (.c (.str [50])), (.c (zU 2))]), oK 111 (.bslt 15 1 [(.str []), (zI 0), (.str []), (.str []), (zU 0), (.str []), .nilslice, .nilslice, .nilslice, .nilslice, .nilslice, .nilslice, .nilslice, .nilslice, .nilslice] [⟨0, ⟨15, 110⟩⟩]), oM 7 111] [6, 7])
 (.seq
 (.reg 9 [oM 113 6, oM 114 7, oQ 115 (.bld [(.str []), (zU 0), (zI 0), (.str []), (.str [])] [⟨0, ⟨1, (.c (.str [98]))⟩⟩]), oQ 116 (.bld [(zU 0), (.str []), (zU 0), (zI 0), (.str []), (.str [])] [⟨0, ⟨1, (.c (zU 1))⟩⟩, ⟨1, ⟨5, 115⟩⟩]), oK 117 (.bslt 6 1 [(zU 0), (.str []), (zU 0), (zI 0), (.str []), (.str [])] [⟨0, ⟨6, 116⟩⟩]), oQ 118 (.bld [(zU 0), (.bool false), .nilslice, .nilslice, (zI 0)] [⟨0, ⟨1, (.c (zU 2))⟩⟩, ⟨2, ⟨1, 117⟩⟩]), oK 119 (.call 11 [113, 114, 118]), oM 112 119, oQ 120 (.ext 0 112), oQ 121 (.ext 1 112), oM 8 120, oM 9 121] [6, 7, 8, 9])
 (.seq
 (.reg 10 [oQ 122 (.bld [(zU 0), (zI 0), (zI 0)] [⟨0, ⟨1, (.c (zU 7))⟩⟩]), oQ 123 (.bld [(zU 0), (zI 0), (zI 0)] [⟨0, ⟨1, (.c (zU 6))⟩⟩]), oQ 124 (.bld [(zU 0), (zI 0), (zI 0)] [⟨0, ⟨1, (.c (zU 3))⟩⟩, ⟨1, ⟨1, (cI 3)⟩⟩]), oK 125 (.bslt 3 3 [(zU 0), (zI 0), (zI 0)] [⟨0, ⟨3, 122⟩⟩, ⟨3, ⟨3, 123⟩⟩, ⟨6, ⟨3, 124⟩⟩]), oM 10 125] [6, 7, 8, 9, 10])
 (.seq
 (.reg 11 [oM 127 8, oM 128 10, oK 129 (.call 5 [127, 128, (cI 1099511627776)]), oM 126 129, oQ 130 (.ext 0 126), oQ 131 (.ext 1 126), oQ 132 (.ext 2 126), oM 11 130, oM 12 131, oM 13 132] [6, 7, 8, 9, 10, 11, 12, 13])
 (.seq
 (.seq
 (.reg 12 [oM 133 9, oQ 134 (.not 133), oM 135 134, gQ 136 135 false (.mov 13), gQ 137 135 false (.bin .neq 136 (cI 0)), oQ 138 (.pick 135 (cB true) 137), oM 139 138, gQ 140 139 false (.mov 11), gQ 141 139 false (.bld [(zU 0), (zI 0)] [⟨0, ⟨1, (.c (zU 1))⟩⟩]), gQ 142 139 false (.bld [(zU 0), (zI 0)] [⟨0, ⟨1, (.c (zU 2))⟩⟩]), gQ 143 139 false (.bld [(zU 0), (zI 0)] [⟨0, ⟨1, (.c (zU 3))⟩⟩]), gQ 144 139 false (.bld [(zU 0), (zI 0)] [⟨0, ⟨1, (.c (zU 4))⟩⟩]), gK 145 139 false (.bslt 2 4 [(zU 0), (zI 0)] [⟨0, ⟨2, 141⟩⟩, ⟨2, ⟨2, 142⟩⟩, ⟨4, ⟨2, 143⟩⟩, ⟨6, ⟨2, 144⟩⟩]), gK 146 139 false (.call 9 [140, 145]), gQ 147 139 false (.not 146), oQ 148 (.pick 139 (cB true) 147)] [6, 7, 8, 10, 11, 12, 148])
 (.cond 148
 (.seq
 (.reg 13 [oM 0 (cB false)] [0])
 .ret)
 .skip))
 (.seq
 (.dreg 14 [oM 150 8, oM 151 10, oQ 152 (.iaddr 3 151 (cI 1)), oQ 153 (.load (some 3) 152), oM 154 10, oQ 155 (.iaddr 3 154 (cI 0)), oQ 156 (.load (some 3) 155), oM 157 10, oQ 158 (.iaddr 3 157 (cI 2)), oQ 159 (.load (some 3) 158), oM 160 10, oQ 161 (.iaddr 3 160 (cI 1)), oQ 162 (.load (some 3) 161), oK 163 (.bslt 3 4 [(zU 0), (zI 0), (zI 0)] [⟨0, ⟨3, 153⟩⟩, ⟨3, ⟨3, 156⟩⟩, ⟨6, ⟨3, 159⟩⟩, ⟨9, ⟨3, 162⟩⟩]), oK 164 (.call 5 [150, 163, (cI 1099511627776)]), oM 149 164, oQ 165 (.ext 0 149), oQ 166 (.ext 1 149), oQ 167 (.ext 2 149), oM 14 165, oM 15 166, oM 16 167] false [6, 7, 8, 10, 11, 12, 14, 16])
 (.seq
 (.reg 15 [oM 169 8, oM 170 10, oM 171 12, oK 172 (.call 5 [169, 170, 171]), oM 168 172, oQ 173 (.ext 0 168), oQ 174 (.ext 1 168), oQ 175 (.ext 2 168), oM 17 173, oM 18 174, oM 19 175] [6, 7, 8, 10, 11, 12, 14, 16, 17, 19])
 (.seq
 (.seq
 (.reg 16 [oM 176 16, oQ 177 (.bin .neq 176 (cI 0)), oM 178 177, gQ 179 178 false (.mov 14), gQ 180 178 false (.len 0 179), gQ 181 178 false (.bin .neq 180 (cI 4)), oQ 182 (.pick 178 (cB true) 181), oM 183 182, gQ 184 183 false (.mov 14), gQ 185 183 false (.iaddr 2 184 (cI 3)), gQ 186 183 false (.faddr 0 185), gQ 187 183 false (.load none 186), gQ 188 183 false (.bin .neq 187 (.c (zU 1))), oQ 189 (.pick 183 (cB true) 188), oM 190 189, gQ 191 190 false (.mov 19), gQ 192 190 false (.bin .neq 191 (cI 0)), oQ 193 (.pick 190 (cB true) 192), oM 194 193, gQ 195 194 false (.mov 11), gQ 196 194 false (.mov 17), gK 197 194 false (.call 9 [195, 196]), gQ 198 194 false (.not 197), oQ 199 (.pick 194 (cB true) 198)] [6, 7, 8, 10, 12, 199])
 (.cond 199
 (.seq
 (.reg 17 [oM 0 (cB false)] [0])
 .ret)
 .skip))
 (.seq
 (.seq
 (.reg 18 [oM 200 12, oQ 201 (.bin .gtr 200 (cI 0))] [6, 7, 8, 10, 12, 201])
 (.cond 201
 (.seq
 (.reg 19 [oM 203 8, oM 204 10, oM 205 12, oQ 206 (.bin .sub 205 (cI 1)), oK 207 (.call 5 [203, 204, 206]), oM 202 207, oQ 208 (.ext 0 202), oQ 209 (.ext 1 202), oQ 210 (.ext 2 202), oM 20 208, oM 21 209, oM 22 210] [6, 7, 8, 10, 20, 21, 22])
 (.seq
 (.reg 20 [oM 211 22, oQ 212 (.bin .neq 211 (cI 44)), oM 213 212, gQ 214 213 false (.mov 20), gQ 215 213 false (.len 0 214), gQ 216 213 false (.bin .neq 215 (cI 0)), oQ 217 (.pick 213 (cB true) 216), oM 218 217, gQ 219 218 false (.mov 21), gQ 220 218 false (.bin .neq 219 (cI 0)), oQ 221 (.pick 218 (cB true) 220)] [6, 7, 8, 10, 221])
 (.cond 221
 (.seq
 (.reg 21 [oM 0 (cB false)] [0])
 .ret)
 .skip)))
 .skip))
 (.seq
 (.reg 22 [oM 223 8, oM 224 10, oK 225 (.call 5 [223, 224, (cI (-1))]), oM 222 225, oQ 226 (.ext 0 222), oQ 227 (.ext 1 222), oQ 228 (.ext 2 222), oM 23 226, oM 24 227, oM 25 228] [6, 7, 8, 10, 25])
 (.seq
 (.reg 23 [oM 230 8, oM 231 10, oK 232 (.call 5 [230, 231, (cI 1099511627777)]), oM 229 232, oQ 233 (.ext 0 229), oQ 234 (.ext 1 229), oQ 235 (.ext 2 229), oM 26 233, oM 27 234, oM 28 235] [6, 7, 8, 25, 28])
 (.seq
 (.reg 24 [oM 237 8, oQ 238 (.bld [(zU 0), (zI 0), (zI 0)] [⟨0, ⟨1, (.c (zU 6))⟩⟩, ⟨1, ⟨1, (cI 1)⟩⟩]), oK 239 (.bslt 3 1 [(zU 0), (zI 0), (zI 0)] [⟨0, ⟨3, 238⟩⟩]), oK 240 (.call 5 [237, 239, (cI 9)]), oM 236 240, oQ 241 (.ext 0 236), oQ 242 (.ext 1 236), oQ 243 (.ext 2 236), oM 29 241, oM 30 242, oM 31 243] [6, 7, 8, 25, 28, 31])
 (.seq
 (.reg 25 [oM 245 8, oQ 246 (.bld [(zU 0), (zI 0), (zI 0)] []), oK 247 (.bslt 3 1 [(zU 0), (zI 0), (zI 0)] [⟨0, ⟨3, 246⟩⟩]), oK 248 (.call 5 [245, 247, (cI 9)]), oM 244 248, oQ 249 (.ext 0 244), oQ 250 (.ext 1 244), oQ 251 (.ext 2 244), oM 32 249, oM 33 250, oM 34 251] [6, 7, 8, 25, 28, 31, 34])
 (.seq
 (.reg 26 [oM 253 8, oK 254 (.call 5 [253, (.c .nilslice), (cI 0)]), oM 252 254, oQ 255 (.ext 0 252), oQ 256 (.ext 1 252), oQ 257 (.ext 2 252), oM 35 255, oM 36 256, oM 37 257] [6, 7, 25, 28, 31, 34, 35, 36, 37])
 (.seq
 (.seq
 (.reg 27 [oM 258 25, oQ 259 (.bin .neq 258 (cI 1)), oM 260 259, gQ 261 260 false (.mov 28), gQ 262 260 false (.bin .neq 261 (cI 1)), oQ 263 (.pick 260 (cB true) 262), oM 264 263, gQ 265 264 false (.mov 31), gQ 266 264 false (.bin .neq 265 (cI 4)), oQ 267 (.pick 264 (cB true) 266), oM 268 267, gQ 269 268 false (.mov 34), gQ 270 268 false (.bin .neq 269 (cI 4)), oQ 271 (.pick 268 (cB true) 270), oM 272 271, gQ 273 272 false (.mov 37), gQ 274 272 false (.bin .neq 273 (cI 0)), oQ 275 (.pick 272 (cB true) 274), oM 276 275, gQ 277 276 false (.mov 35), gQ 278 276 false (.len 0 277), gQ 279 276 false (.bin .neq 278 (cI 0)), oQ 280 (.pick 276 (cB true) 279), oM 281 280, gQ 282 281 false (.mov 36), gQ 283 281 false (.bin .neq 282 (cI 0)), oQ 284 (.pick 281 (cB true) 283)] [6, 7, 284])
 (.cond 284
 (.seq
 (.reg 28 [oM 0 (cB false)] [0])
 .ret)
 .skip))
 (.seq
 (.reg 29 [oM 286 6, oM 287 7, oK 288 (.call 12 [(cI 64)]), oQ 289 (.bld [(zU 0), (.bool false), .nilslice, .nilslice, (zI 0)] [⟨0, ⟨1, (.c (zU 2))⟩⟩, ⟨3, ⟨1, 288⟩⟩]), oK 290 (.call 11 [286, 287, 289]), oM 285 290, oQ 291 (.ext 0 285), oQ 292 (.ext 1 285), oM 38 291, oM 39 292] [38, 39])
 (.seq
 (.reg 30 [oM 294 38, oQ 295 (.bld [(zU 0), (zI 0), (zI 0)] [⟨0, ⟨1, (.c (zU 6))⟩⟩]), oK 296 (.bslt 3 1 [(zU 0), (zI 0), (zI 0)] [⟨0, ⟨3, 295⟩⟩]), oK 297 (.call 5 [294, 296, (cI 1099511627776)]), oM 293 297, oQ 298 (.ext 0 293), oQ 299 (.ext 1 293), oQ 300 (.ext 2 293), oM 40 298, oM 41 299, oM 42 300] [39, 40, 42])
 (.seq
 (.reg 31 [oM 301 39, oM 302 301, gQ 303 302 true (.mov 42), gQ 304 302 true (.bin .eql 303 (cI 0)), oQ 305 (.pick 302 304 (cB false)), oM 306 305, gQ 307 306 true (.mov 40), gQ 308 306 true (.len 0 307), gQ 309 306 true (.bin .eql 308 (cI 0)), oQ 310 (.pick 306 309 (cB false)), oM 0 310] [0])
 .ret)))))))))))))))))))))))))
theorem fok3 : FOK Tryz.prog 3 (311, ic3, [(.t 0)]) := fokA [1000084, 1000099, 1000106, 1000108, 1000111, 1000117, 1000125, 1000145, 1000163, 1000239, 1000247, 1000296, 2000000] Tryz.func3 (by kernel_rfl) (by kernel_rfl) (by kernel_rfl) (by kernel_rfl)
def ic5 : IC :=
 (.seq
 (.reg 0 [oK 3 (.boxt 0), oK 4 (.boxt 1), oK 5 (.boxt 2), oK 6 (.alloc [.nilslice]), oK 7 (.alloc [(zI 0)]), oK 8 (.alloc [(zI 0)])] [3, 4, 5, 6, 7, 8])
 (.seq
 (.block 0
 (.seq
 (.reg 1 [oQ 16 (.load none 3), oQ 17 (.isnil (.pointer 167) false 16), oM 15 17] [3, 4, 5, 6, 7, 8, 15])
 (.cond 15
 (.seq
 (.reg 2 [oN (.store 1 6 (.c .nilslice)), oN (.store 1 7 (cI 0)), oN (.store 1 8 (cI 2))] [6, 7, 8])
 .ret)
 (.seq
 (.reg 3 [oQ 19 (.load none 5), oQ 20 (.bin .lss 19 (cI 0)), oM 21 20, gQ 22 21 false (.load none 5), gQ 23 21 false (.bin .gtr 22 (cI 1099511627776)), oQ 24 (.pick 21 (cB true) 23), oM 18 24] [3, 4, 5, 6, 7, 8, 18])
 (.cond 18
 (.seq
 (.reg 4 [oN (.store 1 6 (.c .nilslice)), oN (.store 1 7 (cI 0)), oN (.store 1 8 (cI 1))] [6, 7, 8])
 .ret)
 .skip)))))
 (.seq
 (.reg 5 [oQ 26 (.load none 3), oK 27 (.call 20 [26]), oM 25 27, oQ 28 (.ext 0 25), oQ 29 (.ext 1 25), oK 9 (.alloc [.nilptr]), oN (.store 1 9 28), oN (.store 1 8 29)] [3, 4, 5, 6, 7, 8, 9])
 (.seq
 (.seq
 (.reg 6 [oQ 30 (.load none 8), oQ 31 (.bin .neq 30 (cI 0))] [3, 4, 5, 6, 7, 8, 9, 31])
 (.cond 31
 (.seq
 (.oreg 7 [(0, oQ 32 (.load none 8), 0), (1, oN (.store 1 6 (.c .nilslice)), 1), (2, oN (.store 1 7 (cI 0)), 1), (3, oN (.store 1 8 32), 0)] [6, 7, 8])
 .ret)
 .skip))
 (.seq
 (.seq
 (.reg 8 [oQ 33 (.load none 4), oQ 34 (.mkf 22 [] [9]), oK 35 (.call 21 [33, 34])] [3, 4, 5, 6, 7, 8, 35])
 (.cond 35
 (.seq
 (.reg 9 [oN (.store 1 6 (.c .nilslice)), oN (.store 1 7 (cI 0)), oN (.store 1 8 (cI 4))] [6, 7, 8])
 .ret)
 .skip))
 (.seq
 (.seq
 (.reg 10 [oQ 36 (.load none 4), oK 37 (.call 24 [36])] [3, 4, 5, 6, 7, 8, 37])
 (.block 1
 (.rfunc 37 [38]
 (.reg 11 [oK 10 (.alloc [(zU 0), (zI 0)]), oN (.store 2 10 38)] [3, 4, 5, 6, 7, 8, 10])
 (.block 2
 (.seq
 (.reg 12 [oQ 39 (.load none 3), oQ 40 (.load (some 2) 10), oK 41 (.call 25 [39, 40]), oM 11 41] [4, 5, 6, 7, 8, 10, 11])
 (.seq
 (.seq
 (.reg 13 [oM 42 11, oQ 43 (.isnil (.pointer 167) false 42)] [4, 5, 6, 7, 8, 10, 11, 43])
 (.cond 43
 (.exit 2)
 .skip))
 (.seq
 (.reg 14 [oM 45 11, oK 46 (.call 26 [45]), oM 44 46, oQ 47 (.ext 0 44), oQ 48 (.ext 1 44), oM 12 47, oM 13 48] [4, 5, 6, 7, 8, 10, 12, 13])
 (.seq
 (.seq
 (.reg 15 [oM 49 13, oQ 50 (.bin .neq 49 (cI 0))] [4, 5, 6, 7, 8, 10, 12, 13, 50])
 (.cond 50
 (.seq
 (.reg 16 [oM 51 13, oN (.store 1 6 (.c .nilslice)), oN (.store 1 7 (cI 0)), oN (.store 1 8 51)] [])
 .ret)
 .skip))
 (.seq
 (.dreg 17 [oM 53 12, oK 54 (.pcall 28 [53]), oM 55 12, oQ 56 (.load none 4), oK 57 (.pcall 29 [55, 56]), oQ 58 (.load none 5), oQ 59 (.load none 7), oQ 60 (.bin .sub 58 59), oK 61 (.pcall 27 [54, 57, 60]), oM 52 61, oQ 62 (.ext 0 52), oQ 63 (.ext 1 52), oK 14 (.alloc [(.bool false), .nilslice, (zI 0), .nilslice, .nilslice]), oN (.store 5 14 62), oM 13 63] false [6, 7, 8, 10, 13, 14])
 (.seq
 (.seq
 (.reg 18 [oM 64 13, oQ 65 (.bin .neq 64 (cI 0))] [6, 7, 8, 10, 13, 14, 65])
 (.cond 65
 (.seq
 (.reg 19 [oM 66 13, oN (.store 1 6 (.c .nilslice)), oN (.store 1 7 (cI 0)), oN (.store 1 8 66)] [])
 .ret)
 .skip))
 (.seq
 (.reg 20 [oQ 67 (.load none 7), oQ 68 (.faddr 2 14), oQ 69 (.load none 68), oQ 70 (.bin .add 67 69), oN (.store 1 7 70)] [6, 10, 14])
 (.seq
 (.reg 21 [oQ 71 (.faddr 0 14), oQ 72 (.load none 71)] [6, 10, 72])
 (.cond 72
 (.reg 22 [oQ 73 (.load none 6), oQ 74 (.load (some 2) 10), oK 75 (.bslt 2 1 [(zU 0), (zI 0)] [⟨0, ⟨2, 74⟩⟩]), oK 76 (.app 2 73 75), oN (.store 1 6 76)] [])
 .skip)))))))))))))
 (.seq
 (.oreg 23 [(0, oQ 77 (.load none 6), 0), (1, oQ 78 (.load none 7), 0), (2, oN (.store 1 6 77), 2), (3, oN (.store 1 7 78), 0), (4, oN (.store 1 8 (cI 0)), 0)] [6, 7, 8])
 .ret)))))))
theorem fok5 : FOK Tryz.prog 5 (79, ic5, [(.cell none 6), (.cell none 7), (.cell none 8)]) := fokA [1000003, 1000004, 1000005, 1000075, 2000000, 27, 28, 29] Tryz.func5 (by kernel_rfl) (by kernel_rfl) (by kernel_rfl) (by kernel_rfl)
def ic6 : IC :=
 (.seq
 (.reg 0 [oM 0 (cB false)] [])
 (.seq
 (.reg 1 [oK 11 (.call 30 []), oQ 12 (.bld [(zU 0), (.bool false), .nilslice, .nilslice, (zI 0)] [⟨0, ⟨1, (.c (zU 2))⟩⟩]), oK 13 (.call 11 [(.c .nilslice), 11, 12]), oM 10 13, oQ 14 (.ext 0 10), oQ 15 (.ext 1 10), oM 1 14, oM 2 15] [1, 2])
 (.seq
 (.seq
 (.reg 2 [oM 16 2, oQ 17 (.not 16)] [1, 17])
 (.cond 17
 (.seq
 (.reg 3 [oM 0 (cB false)] [0])
 .ret)
 .skip))
 (.seq
 (.reg 4 [oQ 18 (.bld [(zU 0), (zI 0), (zI 0)] [⟨0, ⟨1, (.c (zU 6))⟩⟩]), oK 3 (.alloc [(zU 0), (zI 0), (zI 0)]), oN (.store 3 3 18)] [1, 3])
 (.seq
 (.reg 5 [oM 20 1, oQ 21 (.bld [(zU 0), (zI 0), (zI 0)] [⟨0, ⟨1, (.c (zU 2))⟩⟩]), oQ 22 (.load (some 3) 3), oK 23 (.bslt 3 2 [(zU 0), (zI 0), (zI 0)] [⟨0, ⟨3, 21⟩⟩, ⟨3, ⟨3, 22⟩⟩]), oK 24 (.call 5 [20, 23, (cI 1099511627776)]), oM 19 24, oQ 25 (.ext 0 19), oQ 26 (.ext 1 19), oQ 27 (.ext 2 19), oM 4 25, oM 5 26, oM 6 27] [1, 3, 4, 6])
 (.seq
 (.reg 6 [oM 29 1, oQ 30 (.load (some 3) 3), oK 31 (.bslt 3 1 [(zU 0), (zI 0), (zI 0)] [⟨0, ⟨3, 30⟩⟩]), oK 32 (.call 5 [29, 31, (cI 1099511627776)]), oM 28 32, oQ 33 (.ext 0 28), oQ 34 (.ext 1 28), oQ 35 (.ext 2 28), oM 7 33, oM 8 34, oM 9 35] [4, 6, 7, 9])
 (.seq
 (.reg 7 [oM 36 6, oQ 37 (.bin .eql 36 (cI 0)), oM 38 37, gQ 39 38 true (.mov 4), gQ 40 38 true (.bld [(zU 0), (zI 0)] [⟨0, ⟨1, (.c (zU 2))⟩⟩]), gK 41 38 true (.bslt 2 1 [(zU 0), (zI 0)] [⟨0, ⟨2, 40⟩⟩]), gK 42 38 true (.call 9 [39, 41]), oQ 43 (.pick 38 42 (cB false)), oM 44 43, gQ 45 44 true (.mov 9), gQ 46 44 true (.bin .eql 45 (cI 0)), oQ 47 (.pick 44 46 (cB false)), oM 48 47, gQ 49 48 true (.mov 7), gQ 50 48 true (.bld [(zU 0), (zI 0)] [⟨0, ⟨1, (.c (zU 2))⟩⟩]), gQ 51 48 true (.bld [(zU 0), (zI 0)] [⟨0, ⟨1, (.c (zU 3))⟩⟩]), gQ 52 48 true (.bld [(zU 0), (zI 0)] [⟨0, ⟨1, (.c (zU 4))⟩⟩]), gK 53 48 true (.bslt 2 3 [(zU 0), (zI 0)] [⟨0, ⟨2, 50⟩⟩, ⟨2, ⟨2, 51⟩⟩, ⟨4, ⟨2, 52⟩⟩]), gK 54 48 true (.call 9 [49, 53]), oQ 55 (.pick 48 54 (cB false)), oM 0 55] [0])
 .ret)))))))
theorem fok6 : FOK Tryz.prog 6 (56, ic6, [(.t 0)]) := fokA [1000023, 1000031, 1000041, 1000053, 2000000] Tryz.func6 (by kernel_rfl) (by kernel_rfl) (by kernel_rfl) (by kernel_rfl)
def ic7 : IC :=
 (.seq
 (.reg 0 [oM 4 (cI 0)] [0, 1, 4])
 (.seq
 (.reg 1 [oM 10 0, oK 11 (.call 26 [10]), oM 9 11, oQ 12 (.ext 0 9), oQ 13 (.ext 1 9), oM 5 12, oM 6 13] [1, 4, 5, 6])
 (.seq
 (.seq
 (.reg 2 [oM 14 6, oQ 15 (.bin .neq 14 (cI 0))] [1, 4, 5, 15])
 (.cond 15
 (.seq
 (.reg 3 [oM 4 (cI 0)] [4])
 .ret)
 .skip))
 (.seq
 (.reg 4 [oM 16 5, oK 17 (.call 28 [16]), oK 18 (.call 31 [17]), oK 7 (.alloc [(zI 0)]), oK 8 (.alloc [(zI 0)]), oN (.store 1 7 (cI 0)), oN (.store 1 8 18)] [1, 4, 7, 8])
 (.seq
 (.seq
 (.reg 5 [oM 19 1, oK 20 (.call 24 [19])] [4, 7, 8, 20])
 (.block 0
 (.rfunc 20 [21]
 .skip
 (.block 1
 (.reg 6 [oQ 22 (.load none 7), oQ 23 (.load none 8), oQ 24 (.bin .add 22 23), oQ 25 (.mm false 24 (cI 1099511627776)), oN (.store 1 7 25)] [])))))
 (.seq
 (.reg 7 [oQ 26 (.load none 7), oM 4 26] [4])
 .ret))))))
theorem fok7 : FOK Tryz.prog 7 (27, ic7, [(.t 4)]) := fokA [2000000] Tryz.func7 (by kernel_rfl) (by kernel_rfl) (by kernel_rfl) (by kernel_rfl)
def ic8 : IC :=
 (.seq
 (.reg 0 [oK 1 (.boxt 0), oM 2 (.c .nilslice)] [1])
 (.seq
 (.seq
 (.reg 1 [oQ 3 (.faddr 0 1), oQ 4 (.load none 3)] [1, 4])
 (.block 0
 (.seq
 (.reg 2 [oQ 6 (.bin .eql 4 (.c (zU 7))), oM 5 6] [1, 4, 5])
 (.cond 5
 (.seq
 (.reg 3 [oQ 7 (.faddr 1 1), oQ 8 (.load none 7), oQ 9 (.bld [(zU 0), (zI 0)] [⟨0, ⟨1, (.c (zU 1))⟩⟩, ⟨1, ⟨1, 8⟩⟩]), oK 10 (.bslt 2 1 [(zU 0), (zI 0)] [⟨0, ⟨2, 9⟩⟩]), oM 2 10] [2])
 .ret)
 (.seq
 (.reg 4 [oQ 12 (.bin .eql 4 (.c (zU 6))), oM 11 12] [1, 11])
 (.cond 11
 (.seq
 (.reg 5 [oQ 13 (.faddr 1 1), oQ 14 (.load none 13), oQ 15 (.bld [(zU 0), (zI 0)] [⟨0, ⟨1, (.c (zU 2))⟩⟩, ⟨1, ⟨1, 14⟩⟩]), oQ 16 (.faddr 1 1), oQ 17 (.load none 16), oQ 18 (.bld [(zU 0), (zI 0)] [⟨0, ⟨1, (.c (zU 3))⟩⟩, ⟨1, ⟨1, 17⟩⟩]), oQ 19 (.faddr 1 1), oQ 20 (.load none 19), oQ 21 (.bld [(zU 0), (zI 0)] [⟨0, ⟨1, (.c (zU 4))⟩⟩, ⟨1, ⟨1, 20⟩⟩]), oK 22 (.bslt 2 3 [(zU 0), (zI 0)] [⟨0, ⟨2, 15⟩⟩, ⟨2, ⟨2, 18⟩⟩, ⟨4, ⟨2, 21⟩⟩]), oM 2 22] [2])
 .ret)
 .skip))))))
 (.seq
 (.reg 6 [oM 2 (.c .nilslice)] [2])
 .ret)))
theorem fok8 : FOK Tryz.prog 8 (23, ic8, [(.t 2)]) := fokA [1000001, 1000010, 1000022, 2000000] Tryz.func8 (by kernel_rfl) (by kernel_rfl) (by kernel_rfl) (by kernel_rfl)
def ic9 : IC :=
 (.seq
 (.reg 0 [oM 4 (cB false)] [0, 1])
 (.seq
 (.seq
 (.reg 1 [oM 6 0, oQ 7 (.len 0 6), oM 8 1, oQ 9 (.len 0 8), oQ 10 (.bin .neq 7 9)] [0, 1, 10])
 (.cond 10
 (.seq
 (.reg 2 [oM 4 (cB false)] [4])
 .ret)
 .skip))
 (.seq
 (.seq
 (.reg 3 [oM 5 (cI 0)] [0, 1, 5])
 (.block 0
 (.loop
 (.seq
 (.seq
 (.reg 4 [oM 11 5, oM 12 0, oQ 13 (.len 0 12), oQ 14 (.bin .lss 11 13)] [0, 1, 5, 14])
 (.cond 14
 .skip
 (.exit 0)))
 (.seq
 (.block 1
 (.seq
 (.dreg 6 [oM 17 0, oM 18 5, oQ 19 (.iaddr 2 17 18), oQ 20 (.load (some 2) 19), oM 21 1, oM 22 5, oQ 23 (.iaddr 2 21 22), oQ 24 (.load (some 2) 23), oQ 25 (.eqs [1, 1] true true 20 24)] false [0, 1, 5, 25])
 (.cond 25
 (.seq
 (.reg 7 [oM 4 (cB false)] [4])
 .ret)
 .skip)))
 (.reg 5 [oM 15 5, oQ 16 (.bin .add 15 (cI 1)), oM 5 16] [0, 1, 5]))))))
 (.seq
 (.reg 8 [oM 4 (cB true)] [4])
 .ret))))
theorem fok9 : FOK Tryz.prog 9 (26, ic9, [(.t 4)]) := fokA [2000000] Tryz.func9 (by kernel_rfl) (by kernel_rfl) (by kernel_rfl) (by kernel_rfl)
def ic10 : IC :=
 (.seq
 (.reg 0 [oK 6 (.alloc [(.str []), (zI 0), (.str []), (.str []), (zU 0), (.str []), .nilslice, .nilslice, .nilslice, .nilslice, .nilslice, .nilslice, .nilslice, .nilslice, .nilslice])] [0, 1, 2, 6])
 (.seq
 (.reg 1 [oM 7 0, oM 8 1, oQ 9 (.bld [(zI 0), (.str []), (.str [])] [⟨1, ⟨1, 8⟩⟩, ⟨2, ⟨1, (.c (.str [49]))⟩⟩]), oM 10 2, oQ 11 (.bld [(.str []), (zI 0), (.str []), (.str []), (zU 0), (.str []), .nilslice, .nilslice, .nilslice, .nilslice, .nilslice, .nilslice, .nilslice, .nilslice, .nilslice] [⟨0, ⟨1, 7⟩⟩, ⟨1, ⟨3, 9⟩⟩, ⟨4, ⟨1, 10⟩⟩]), oN (.store 15 6 11)] [6])
 .ret))
theorem fok10 : FOK Tryz.prog 10 (12, ic10, [(.cell (some 15) 6)]) := fokA [2000000] Tryz.func10 (by kernel_rfl) (by kernel_rfl) (by kernel_rfl) (by kernel_rfl)
def ic11 : IC :=
 (.seq
 (.reg 0 [oK 5 (.boxt 2), oM 6 (.c .nilptr), oM 7 (cB false)] [0, 1, 5])
 (.seq
 (.reg 1 [oM 12 0, oM 13 1, oK 14 (.call 32 [12, 13]), oM 11 14, oQ 15 (.ext 0 11), oQ 16 (.ext 1 11), oM 8 15, oM 9 16] [5, 8, 9])
 (.seq
 (.seq
 (.reg 2 [oM 17 9, oQ 18 (.bin .neq 17 (cI 0))] [5, 8, 18])
 (.cond 18
 (.seq
 (.reg 3 [oM 6 (.c .nilptr), oM 7 (cB false)] [6, 7])
 .ret)
 .skip))
 (.seq
 (.reg 4 [oM 20 8, oQ 21 (.load (some 5) 5), oK 22 (.call 33 [20, 21]), oM 19 22, oQ 23 (.ext 0 19), oQ 24 (.ext 1 19), oM 10 23, oM 9 24] [9, 10])
 (.seq
 (.reg 5 [oM 25 10, oM 26 9, oQ 27 (.bin .eql 26 (cI 0)), oM 28 27, gQ 29 28 true (.mov 10), gQ 30 28 true (.isnil (.pointer 167) true 29), oQ 31 (.pick 28 30 (cB false)), oM 6 25, oM 7 31] [6, 7])
 .ret)))))
theorem fok11 : FOK Tryz.prog 11 (32, ic11, [(.t 6), (.t 7)]) := fokA [1000005, 2000000] Tryz.func11 (by kernel_rfl) (by kernel_rfl) (by kernel_rfl) (by kernel_rfl)
def ic12 : IC :=
 (.seq
 (.reg 0 [oM 2 (.c .nilslice)] [0])
 (.seq
 (.reg 1 [oM 3 (.c .nilslice)] [0, 3])
 (.seq
 (.seq
 (.reg 2 [oM 4 (cI 0)] [0, 3, 4])
 (.block 0
 (.loop
 (.seq
 (.seq
 (.reg 3 [oM 5 4, oM 6 0, oQ 7 (.bin .lss 5 6)] [0, 3, 4, 7])
 (.cond 7
 .skip
 (.exit 0)))
 (.seq
 (.block 1
 (.reg 5 [oM 10 3, oQ 11 (.bld [(zU 0), (zI 0)] [⟨0, ⟨1, (.c (zU 3))⟩⟩]), oK 12 (.bslt 2 1 [(zU 0), (zI 0)] [⟨0, ⟨2, 11⟩⟩]), oK 13 (.app 2 10 12), oM 3 13] [0, 3, 4]))
 (.reg 4 [oM 8 4, oQ 9 (.bin .add 8 (cI 1)), oM 4 9] [0, 3, 4]))))))
 (.seq
 (.reg 6 [oM 14 3, oM 2 14] [2])
 .ret))))
theorem fok12 : FOK Tryz.prog 12 (15, ic12, [(.t 2)]) := fokA [1000012, 2000000] Tryz.func12 (by kernel_rfl) (by kernel_rfl) (by kernel_rfl) (by kernel_rfl)
def ic20 : IC :=
 (.seq
 (.reg 0 [oM 2 (.c .nilptr), oM 3 (cI 0)] [0])
 (.seq
 (.seq
 (.reg 1 [oM 10 0, oQ 11 (.isnil (.pointer 167) false 10)] [0, 11])
 (.cond 11
 (.seq
 (.reg 2 [oM 2 (.c .nilptr), oM 3 (cI 2)] [2, 3])
 .ret)
 .skip))
 (.seq
 (.reg 3 [oM 13 0, oK 14 (.call 40 [13]), oK 15 (.call 39 [14]), oM 12 15, oQ 16 (.ext 0 12), oQ 17 (.ext 1 12), oM 4 16, oM 5 17] [0, 4, 5])
 (.seq
 (.seq
 (.reg 4 [oM 18 5, oQ 19 (.bin .neq 18 (cI 0))] [0, 4, 5, 19])
 (.cond 19
 (.seq
 (.reg 5 [oM 20 5, oM 2 (.c .nilptr), oM 3 20] [2, 3])
 .ret)
 .skip))
 (.seq
 (.reg 6 [oM 21 0, oM 22 4, oK 23 .mkmap, oQ 24 (.bld [.nilptr, .nilptr, .nilslice, .nilslice, .nilmap] [⟨0, ⟨1, 21⟩⟩, ⟨1, ⟨1, 22⟩⟩, ⟨4, ⟨1, 23⟩⟩]), oK 25 (.box 24), oM 6 25] [0, 6])
 (.seq
 (.seq
 (.reg 7 [oM 26 0, oK 27 (.call 40 [26]), oK 28 (.call 41 [27]), oM 29 (cI 0)] [0, 6, 28, 29])
 (.block 0
 (.loop
 (.seq
 (.reg 8 [oQ 30 (.bin .lss 29 28)] [0, 6, 28, 29, 30])
 (.seq
 (.cond 30
 .skip
 (.exit 0))
 (.seq
 (.block 1
 (.seq
 (.reg 9 [oM 31 29, oM 7 31] [0, 6, 7, 28, 29])
 (.seq
 (.reg 10 [oM 33 0, oK 34 (.call 40 [33]), oM 35 7, oK 36 (.call 42 [34, 35]), oM 32 36, oQ 37 (.ext 0 32), oQ 38 (.ext 1 32), oK 8 (.alloc [(.str []), (zI 0), (.str []), (.str []), (zU 0), (.str []), .nilslice, .nilslice, .nilslice, .nilslice, .nilslice, .nilslice, .nilslice, .nilslice, .nilslice]), oN (.store 15 8 37), oM 9 38] [0, 6, 8, 9, 28, 29])
 (.seq
 (.seq
 (.reg 11 [oM 39 9, oQ 40 (.bin .neq 39 (cI 0))] [0, 6, 8, 9, 28, 29, 40])
 (.cond 40
 (.seq
 (.reg 12 [oM 41 9, oM 2 (.c .nilptr), oM 3 41] [2, 3])
 .ret)
 .skip))
 (.oreg 13 [(0, oM 42 6, 0), (1, oM 43 6, 0), (2, oQ 44 (.nchk 43), 0), (3, oQ 45 (.faddr 2 44), 0), (4, oQ 46 (.load none 45), 0), (5, oQ 47 (.load (some 15) 8), 0), (6, oK 48 (.bslt 15 1 [(.str []), (zI 0), (.str []), (.str []), (zU 0), (.str []), .nilslice, .nilslice, .nilslice, .nilslice, .nilslice, .nilslice, .nilslice, .nilslice, .nilslice] [⟨0, ⟨15, 47⟩⟩]), 0), (7, oK 49 (.app 15 46 48), 0), (8, oQ 50 (.nchk 42), 0), (9, oQ 51 (.faddr 2 50), 0), (10, oN (.store 1 51 49), 0)] [0, 6, 28, 29])))))
 (.reg 14 [oQ 52 (.bin .add 29 (cI 1)), oM 29 52] [0, 6, 28, 29])))))))
 (.seq
 (.reg 15 [oM 53 6, oK 54 (.call 43 [53])] [6])
 (.seq
 (.reg 16 [oM 55 6, oM 2 55, oM 3 (cI 0)] [2, 3])
 .ret))))))))
theorem fok20 : FOK Tryz.prog 20 (56, ic20, [(.t 2), (.t 3)]) := fokA [1000048, 2000000] Tryz.func20 (by kernel_rfl) (by kernel_rfl) (by kernel_rfl) (by kernel_rfl)
def ic21 : IC :=
 (.seq
 (.reg 0 [oM 4 (cB false)] [0, 1])
 (.seq
 (.reg 1 [oM 5 0, oM 6 1, oK 7 (.call 44 [5, 6]), oQ 8 (.bin .geq 7 (cI 0)), oM 4 8] [4])
 .ret))
theorem fok21 : FOK Tryz.prog 21 (9, ic21, [(.t 4)]) := fokA [2000000] Tryz.func21 (by kernel_rfl) (by kernel_rfl) (by kernel_rfl) (by kernel_rfl)
def ic22 : IC :=
 (.seq
 (.reg 0 [oK 2 (.boxt 0), oM 3 (cB false)] [1, 2])
 (.seq
 (.reg 1 [oQ 4 (.load none 1), oQ 5 (.load (some 3) 2), oK 6 (.call 23 [4, 5]), oQ 7 (.not 6), oM 3 7] [3])
 .ret))
theorem fok22 : FOK Tryz.prog 22 (8, ic22, [(.t 3)]) := fokA [1000002, 2000000] Tryz.func22 (by kernel_rfl) (by kernel_rfl) (by kernel_rfl) (by kernel_rfl)
def ic23 : IC :=
 (.seq
 (.reg 0 [oK 3 (.boxt 1), oM 4 (cB false)] [0, 3])
 (.seq
 (.seq
 (.reg 1 [oM 7 0, oQ 8 (.isnil (.pointer 115) false 7)] [0, 3, 8])
 (.cond 8
 (.seq
 (.reg 2 [oM 4 (cB false)] [4])
 .ret)
 .skip))
 (.seq
 (.dreg 3 [oM 10 0, oQ 11 (.nchk 10), oQ 12 (.faddr 4 11), oQ 13 (.load none 12), oQ 14 (.load (some 3) 3), oQ 15 (.lkp 6 (.agg []) true 13 14), oM 9 15, oQ 16 (.ext 0 9), oQ 17 (.ext 1 9), oK 5 (.alloc []), oN (.store 0 5 16), oM 6 17] false [6])
 (.seq
 (.reg 4 [oM 18 6, oM 4 18] [4])
 .ret))))
theorem fok23 : FOK Tryz.prog 23 (19, ic23, [(.t 4)]) := fokA [1000003, 2000000] Tryz.func23 (by kernel_rfl) (by kernel_rfl) (by kernel_rfl) (by kernel_rfl)
def ic24 : IC :=
 (.seq
 (.reg 0 [oK 1 (.boxt 0), oM 2 (.c .nilfunc)] [1])
 (.seq
 (.reg 1 [oQ 3 (.mkf 45 [] [1]), oM 2 3] [2])
 .ret))
theorem fok24 : FOK Tryz.prog 24 (4, ic24, [(.t 2)]) := fokA [1000001, 2000000] Tryz.func24 (by kernel_rfl) (by kernel_rfl) (by kernel_rfl) (by kernel_rfl)
def ic25 : IC :=
 (.seq
 (.reg 0 [oK 3 (.boxt 1), oM 4 (.c .nilptr)] [0, 3])
 (.seq
 (.reg 1 [oM 8 0, oK 9 (.call 46 [8]), oK 5 (.alloc [(zU 0), (.bool false), .nilslice, .nilslice, (zI 0)]), oN (.store 5 5 9)] [0, 3, 5])
 (.seq
 (.reg 2 [oQ 10 (.faddr 3 5), oQ 11 (.load none 10), oQ 12 (.load (some 2) 3), oK 13 (.bslt 2 1 [(zU 0), (zI 0)] [⟨0, ⟨2, 12⟩⟩]), oK 14 (.app 2 11 13), oQ 15 (.faddr 3 5), oN (.store 1 15 14)] [0, 5])
 (.seq
 (.oreg 3 [(0, oM 17 0, 0), (2, oQ 19 (.load (some 5) 5), 0), (1, oK 18 (.call 40 [17]), 4), (3, oK 20 (.call 33 [18, 19]), 0), (4, oM 16 20, 0), (5, oQ 21 (.ext 0 16), 0), (6, oQ 22 (.ext 1 16), 0), (7, oM 6 21, 0), (8, oM 7 22, 0)] [6, 7])
 (.seq
 (.seq
 (.reg 4 [oM 23 7, oQ 24 (.bin .neq 23 (cI 0))] [6, 24])
 (.cond 24
 (.seq
 (.reg 5 [oM 4 (.c .nilptr)] [4])
 .ret)
 .skip))
 (.seq
 (.reg 6 [oM 25 6, oM 4 25] [4])
 .ret))))))
theorem fok25 : FOK Tryz.prog 25 (26, ic25, [(.t 4)]) := fokA [1000003, 1000013, 2000000] Tryz.func25 (by kernel_rfl) (by kernel_rfl) (by kernel_rfl) (by kernel_rfl)
def ic26 : IC :=
 (.seq
 (.reg 0 [oM 2 (.c .nilptr), oM 3 (cI 0)] [0])
 (.seq
 (.reg 1 [oM 14 0, oK 15 (.call 20 [14]), oM 13 15, oQ 16 (.ext 0 13), oQ 17 (.ext 1 13), oM 4 16, oM 5 17] [0, 4, 5])
 (.seq
 (.seq
 (.reg 2 [oM 18 5, oQ 19 (.bin .neq 18 (cI 0))] [0, 4, 5, 19])
 (.cond 19
 (.seq
 (.reg 3 [oM 20 5, oM 2 (.c .nilptr), oM 3 20] [2, 3])
 .ret)
 .skip))
 (.seq
 (.reg 4 [oM 22 0, oK 23 (.call 40 [22]), oK 24 (.call 47 [23]), oM 21 24, oQ 25 (.ext 0 21), oQ 26 (.ext 1 21), oM 6 25, oM 5 26] [0, 4, 5, 6])
 (.seq
 (.seq
 (.reg 5 [oM 27 5, oQ 28 (.bin .neq 27 (cI 0))] [0, 4, 5, 6, 28])
 (.cond 28
 (.seq
 (.reg 6 [oM 29 5, oM 2 (.c .nilptr), oM 3 29] [2, 3])
 .ret)
 .skip))
 (.seq
 (.reg 7 [oM 30 0, oM 31 4, oM 32 6, oM 33 4, oK 34 (.call 48 [33]), oQ 35 (.bld [.nilptr, .nilptr, .nilptr, .nilslice, .nilslice] [⟨0, ⟨1, 30⟩⟩, ⟨1, ⟨1, 31⟩⟩, ⟨2, ⟨1, 32⟩⟩, ⟨3, ⟨1, 34⟩⟩]), oK 36 (.box 35), oM 7 36] [7])
 (.seq
 (.reg 8 [oK 37 .mkmap, oM 38 7, oQ 39 (.mkf 49 [38] []), oN (.mupd 1 37 (.c (zU 1)) 39), oM 40 7, oQ 41 (.mkf 50 [40] []), oN (.mupd 1 37 (.c (zU 2)) 41), oM 42 7, oQ 43 (.mkf 51 [42] []), oN (.mupd 1 37 (.c (zU 3)) 43), oM 44 7, oQ 45 (.mkf 52 [44] []), oN (.mupd 1 37 (.c (zU 4)) 45), oM 46 7, oQ 47 (.mkf 53 [46] []), oN (.mupd 1 37 (.c (zU 5)) 47), oM 48 7, oQ 49 (.mkf 54 [48] []), oN (.mupd 1 37 (.c (zU 6)) 49), oM 50 7, oQ 51 (.mkf 55 [50] []), oN (.mupd 1 37 (.c (zU 7)) 51), oM 52 37, oM 8 52] [7, 8])
 (.seq
 (.seq
 (.reg 9 [oM 53 7, oQ 54 (.nchk 53), oQ 55 (.faddr 3 54), oQ 56 (.load none 55), oQ 57 (.len 0 56), oM 58 (cI 0)] [7, 8, 56, 57, 58])
 (.block 0
 (.loop
 (.seq
 (.reg 10 [oQ 59 (.bin .lss 58 57)] [7, 8, 56, 57, 58, 59])
 (.seq
 (.cond 59
 .skip
 (.exit 0))
 (.seq
 (.block 1
 (.seq
 (.reg 11 [oQ 60 (.iaddr 3 56 58), oQ 61 (.load (some 3) 60), oK 10 (.alloc [(zU 0), (zI 0), (zI 0)]), oN (.store 3 10 61)] [7, 8, 10, 56, 57, 58])
 (.seq
 (.reg 12 [oM 63 8, oQ 64 (.faddr 0 10), oQ 65 (.load none 64), oQ 66 (.lkp 1 .nilfunc false 63 65), oQ 67 (.load (some 3) 10), oK 68 (.callv 66 [67]), oM 62 68, oQ 69 (.ext 0 62), oQ 70 (.ext 1 62), oM 11 69, oM 12 70] [7, 8, 11, 12, 56, 57, 58])
 (.seq
 (.seq
 (.reg 13 [oM 71 12, oQ 72 (.bin .neq 71 (cI 0))] [7, 8, 11, 12, 56, 57, 58, 72])
 (.cond 72
 (.seq
 (.reg 14 [oM 73 12, oM 2 (.c .nilptr), oM 3 73] [2, 3])
 .ret)
 .skip))
 (.reg 15 [oM 74 7, oM 75 7, oQ 76 (.nchk 75), oQ 77 (.faddr 4 76), oQ 78 (.load none 77), oM 79 11, oK 80 (.bslt 1 1 [.nilslice] [⟨0, ⟨1, 79⟩⟩]), oK 81 (.app 1 78 80), oQ 82 (.nchk 74), oQ 83 (.faddr 4 82), oN (.store 1 83 81)] [7, 8, 56, 57, 58])))))
 (.reg 16 [oQ 84 (.bin .add 58 (cI 1)), oM 58 84] [7, 8, 56, 57, 58])))))))
 (.seq
 (.reg 17 [oM 85 7, oM 2 85, oM 3 (cI 0)] [2, 3])
 .ret)))))))))
theorem fok26 : FOK Tryz.prog 26 (86, ic26, [(.t 2), (.t 3)]) := fokA [1000080, 2000000] Tryz.func26 (by kernel_rfl) (by kernel_rfl) (by kernel_rfl) (by kernel_rfl)
def ic27 : IC :=
 (.seq
 (.reg 0 [oK 6 (.alloc [(.bool false), .nilslice, (zI 0), .nilslice, .nilslice]), oM 7 (cI 0)] [0, 1, 2, 6])
 (.scope
 (.seq
 (.reg 1 [oM 26 0, oK 27 (.call 56 [26]), oM 25 27, oQ 28 (.ext 0 25), oQ 29 (.ext 1 25), oM 8 28, oM 9 29] [0, 1, 2, 6, 8, 9])
 (.seq
 (.seq
 (.reg 2 [oM 30 9, oQ 31 (.bin .neq 30 (cI 0)), oM 32 31, gQ 33 32 false (.mov 2), gQ 34 32 false (.bin .lss 33 (cI 0)), oQ 35 (.pick 32 (cB true) 34), oM 36 35, gQ 37 36 false (.mov 2), gQ 38 36 false (.bin .gtr 37 (cI 1099511627776)), oQ 39 (.pick 36 (cB true) 38)] [0, 1, 2, 6, 8, 39])
 (.cond 39
 (.seq
 (.reg 3 [oQ 40 (.bld [(.bool false), .nilslice, (zI 0), .nilslice, .nilslice] []), oN (.store 5 6 40), oM 7 (cI 1)] [6, 7])
 .ret)
 .skip))
 (.seq
 (.reg 4 [oM 41 8, oM 42 0, oQ 43 (.bld [.nilptr, (zI 0), .nilslice, (zI 0)] [⟨0, ⟨1, 41⟩⟩, ⟨1, ⟨1, 42⟩⟩]), oK 44 (.box 43), oM 10 44] [0, 1, 2, 6, 8, 10])
 (.seq
 (.seq
 (.reg 5 [oM 45 1, oQ 46 (.len 0 45), oM 47 (cI 0)] [0, 2, 6, 8, 10, 45, 46, 47])
 (.block 0
 (.loop
 (.seq
 (.reg 6 [oQ 48 (.bin .lss 47 46)] [0, 2, 6, 8, 10, 45, 46, 47, 48])
 (.seq
 (.cond 48
 .skip
 (.exit 0))
 (.seq
 (.block 1
 (.seq
 (.reg 7 [oQ 49 (.iaddr 1 45 47), oQ 50 (.load none 49), oM 12 50] [0, 2, 6, 8, 10, 12, 45, 46, 47])
 (.seq
 (.reg 8 [oM 51 10, oM 52 12, oK 53 (.call 57 [51, 52]), oM 13 53] [0, 2, 6, 8, 10, 13, 45, 46, 47])
 (.seq
 (.reg 9 [oM 54 13, oQ 55 (.bin .neq 54 (cI 0))] [0, 2, 6, 8, 10, 13, 45, 46, 47, 55])
 (.cond 55
 (.seq
 (.reg 10 [oQ 56 (.bld [(.bool false), .nilslice, (zI 0), .nilslice, .nilslice] []), oM 57 13, oN (.store 5 6 56), oM 7 57] [6, 7])
 .ret)
 .skip)))))
 (.reg 11 [oQ 58 (.bin .add 47 (cI 1)), oM 47 58] [0, 2, 6, 8, 10, 45, 46, 47])))))))
 (.seq
 (.reg 12 [oK 14 (.alloc [(.bool false), .nilslice, (zI 0), .nilslice, .nilslice])] [0, 2, 6, 8, 10, 14])
 (.seq
 .skip
 (.seq
 (.block 2
 (.loop
 (.block 3
 (.seq
 (.reg 13 [oM 60 10, oK 61 (.call 58 [60]), oM 59 61, oQ 62 (.ext 0 59), oQ 63 (.ext 1 59), oM 15 62, oM 16 63] [0, 2, 6, 8, 10, 14, 15, 16])
 (.seq
 (.seq
 (.reg 14 [oM 64 15, oQ 65 (.bin .eql 64 (cI 2))] [0, 2, 6, 8, 10, 14, 15, 16, 65])
 (.cond 65
 (.exit 2)
 .skip))
 (.seq
 (.seq
 (.reg 15 [oQ 66 (.faddr 2 14), oQ 67 (.load none 66), oM 68 2, oQ 69 (.bin .eql 67 68)] [0, 2, 6, 8, 10, 14, 15, 16, 69])
 (.cond 69
 (.seq
 (.reg 16 [oQ 70 (.bld [(.bool false), .nilslice, (zI 0), .nilslice, .nilslice] []), oN (.store 5 6 70), oM 7 (cI 44)] [6, 7])
 .ret)
 .skip))
 (.seq
 (.reg 17 [oQ 71 (.faddr 2 14), oQ 72 (.load none 71), oQ 73 (.bin .add 72 (cI 1)), oQ 74 (.faddr 2 14), oN (.store 1 74 73)] [0, 2, 6, 8, 10, 14, 15, 16])
 (.seq
 (.seq
 (.reg 18 [oM 75 15, oQ 76 (.bin .eql 75 (cI 1))] [0, 2, 6, 8, 10, 14, 16, 76])
 (.cond 76
 (.seq
 (.seq
 (.reg 19 [oM 77 8, oM 78 16, oQ 79 (.bin .add 78 (cI 1)), oQ 80 (.neg 79), oK 81 (.call 59 [77, 80]), oM 17 81] [0, 2, 6, 8, 10, 14, 17])
 (.seq
 (.reg 20 [oM 82 17, oQ 83 (.bin .neq 82 (cI 0))] [0, 2, 6, 8, 10, 14, 17, 83])
 (.cond 83
 (.seq
 (.reg 21 [oQ 84 (.bld [(.bool false), .nilslice, (zI 0), .nilslice, .nilslice] []), oM 85 17, oN (.store 5 6 84), oM 7 85] [6, 7])
 .ret)
 .skip)))
 (.exit 3))
 .skip))
 (.seq
 (.oreg 22 [(0, oM 87 8, 0), (2, oM 89 10, 0), (3, oQ 90 (.nchk 89), 0), (4, oQ 91 (.faddr 2 90), 0), (5, oQ 92 (.load none 91), 0), (6, oM 93 16, 0), (1, oK 88 (.call 61 [87]), 32), (7, oK 94 (.call 60 [88, 92, 93]), 0), (8, oM 86 94, 0), (9, oQ 95 (.ext 0 86), 0), (10, oQ 96 (.ext 1 86), 0), (11, oQ 97 (.ext 2 86), 0), (12, oQ 98 (.ext 3 86), 0), (13, oM 18 95, 0), (14, oM 19 96, 0), (15, oM 20 97, 0), (16, oM 21 98, 0)] [0, 2, 6, 8, 10, 14, 18, 19, 20, 21])
 (.seq
 (.block 4
 (.seq
 (.reg 23 [oM 100 21, oQ 101 (.bin .neq 100 (cI 0)), oM 99 101] [0, 2, 6, 8, 10, 14, 18, 19, 20, 21, 99])
 (.cond 99
 (.seq
 (.reg 24 [oQ 102 (.bld [(.bool false), .nilslice, (zI 0), .nilslice, .nilslice] []), oM 103 21, oN (.store 5 6 102), oM 7 103] [6, 7])
 .ret)
 (.seq
 (.reg 25 [oM 105 19, oQ 106 (.bin .lss 105 (cI 0)), oM 104 106] [0, 2, 6, 8, 10, 14, 18, 19, 20, 104])
 (.cond 104
 (.seq
 (.reg 26 [oM 107 20, oQ 108 (.faddr 4 14), oN (.store 1 108 107)] [6, 14])
 (.seq
 (.reg 27 [oQ 109 (.load (some 5) 14), oN (.store 5 6 109), oM 7 (cI 0)] [6, 7])
 .ret))
 .skip)))))
 (.seq
 (.reg 28 [oQ 110 (.faddr 3 14), oQ 111 (.load none 110), oM 112 20, oK 113 (.bslt 1 1 [.nilslice] [⟨0, ⟨1, 112⟩⟩]), oK 114 (.app 1 111 113), oQ 115 (.faddr 3 14), oN (.store 1 115 114)] [0, 2, 6, 8, 10, 14, 18, 19])
 (.seq
 (.seq
 (.reg 29 [oM 116 8, oM 117 19, oK 118 (.call 62 [116, 117]), oM 22 118] [0, 2, 6, 8, 10, 14, 18, 22])
 (.seq
 (.reg 30 [oM 119 22, oQ 120 (.bin .neq 119 (cI 0))] [0, 2, 6, 8, 10, 14, 18, 22, 120])
 (.cond 120
 (.seq
 (.reg 31 [oQ 121 (.bld [(.bool false), .nilslice, (zI 0), .nilslice, .nilslice] []), oM 122 22, oN (.store 5 6 121), oM 7 122] [6, 7])
 .ret)
 .skip)))
 (.seq
 (.reg 32 [oM 123 10, oQ 124 (.nchk 123), oQ 125 (.faddr 3 124), oN (.store 1 125 (cI 0))] [0, 2, 6, 8, 10, 14, 18])
 (.seq
 (.reg 33 [oM 126 10, oM 127 18, oK 128 (.call 57 [126, 127]), oM 23 128] [0, 2, 6, 8, 10, 14, 23])
 (.seq
 (.reg 34 [oM 129 23, oQ 130 (.bin .neq 129 (cI 0))] [0, 2, 6, 8, 10, 14, 23, 130])
 (.cond 130
 (.seq
 (.reg 35 [oQ 131 (.bld [(.bool false), .nilslice, (zI 0), .nilslice, .nilslice] []), oM 132 23, oN (.store 5 6 131), oM 7 132] [6, 7])
 .ret)
 .skip))))))))))))))))
 (.seq
 (.dreg 36 [oM 133 0, oK 134 (.mksl 1 [(.bool false)] 133), oQ 135 (.faddr 0 14), oN (.store 1 135 (cB true)), oQ 136 (.faddr 1 14), oN (.store 1 136 134)] false [0, 6, 8, 14])
 (.seq
 (.seq
 (.reg 37 [oM 137 0, oM 138 (cI 0)] [6, 8, 14, 137, 138])
 (.block 5
 (.loop
 (.seq
 (.reg 38 [oQ 139 (.bin .lss 138 137)] [6, 8, 14, 137, 138, 139])
 (.seq
 (.cond 139
 .skip
 (.exit 5))
 (.seq
 (.block 6
 (.seq
 (.reg 39 [oM 140 138, oM 24 140] [6, 8, 14, 24, 137, 138])
 (.oreg 40 [(0, oQ 141 (.faddr 1 14), 0), (1, oQ 142 (.load none 141), 0), (2, oM 143 24, 0), (3, oM 144 8, 0), (4, oM 145 24, 0), (5, oQ 146 (.bin .add 145 (cI 1)), 0), (6, oK 147 (.call 63 [144, 146]), 2), (7, oQ 148 (.bin .eql 147 (cI 1)), 0), (8, oQ 149 (.iaddr 1 142 143), 0), (9, oN (.store 1 149 148), 0)] [6, 8, 14, 137, 138])))
 (.reg 41 [oQ 150 (.bin .add 138 (cI 1)), oM 138 150] [6, 8, 14, 137, 138])))))))
 (.seq
 (.reg 42 [oQ 151 (.load (some 5) 14), oN (.store 5 6 151), oM 7 (cI 0)] [6, 7])
 .ret))))))))))))
theorem fok27 : FOK Tryz.prog 27 (152, ic27, [(.cell (some 5) 6), (.t 7)]) := fokA [1000113, 2000000] Tryz.func27 (by kernel_rfl) (by kernel_rfl) (by kernel_rfl) (by kernel_rfl)
def ic28 : IC :=
 (.seq
 (.reg 0 [oM 2 (cI 0)] [0])
 (.seq
 (.seq
 (.reg 1 [oM 3 0, oQ 4 (.isnil (.pointer 129) false 3)] [0, 4])
 (.cond 4
 (.seq
 (.reg 2 [oM 2 (cI 0)] [2])
 .ret)
 .skip))
 (.seq
 (.reg 3 [oM 5 0, oQ 6 (.nchk 5), oQ 7 (.faddr 2 6), oQ 8 (.load none 7), oK 9 (.call 64 [8]), oM 2 9] [2])
 .ret)))
theorem fok28 : FOK Tryz.prog 28 (10, ic28, [(.t 2)]) := fokA [2000000] Tryz.func28 (by kernel_rfl) (by kernel_rfl) (by kernel_rfl) (by kernel_rfl)
def ic29 : IC :=
 (.seq
 (.reg 0 [oM 4 (.c .nilslice)] [0, 1])
 (.seq
 (.reg 1 [oM 8 0, oK 9 (.call 65 [8]), oM 5 9] [0, 1, 5])
 (.seq
 (.seq
 (.reg 2 [oM 10 0, oK 11 (.call 34 [10]), oQ 12 (.len 0 11), oM 13 (cI 0)] [0, 1, 5, 11, 12, 13])
 (.block 0
 (.loop
 (.seq
 (.reg 3 [oQ 14 (.bin .lss 13 12)] [0, 1, 5, 11, 12, 13, 14])
 (.seq
 (.cond 14
 .skip
 (.exit 0))
 (.seq
 (.block 1
 (.seq
 (.reg 4 [oM 15 13, oQ 16 (.iaddr 3 11 13), oQ 17 (.load (some 3) 16), oK 7 (.alloc [(zU 0), (zI 0), (zI 0)]), oM 6 15, oN (.store 3 7 17)] [0, 1, 5, 6, 7, 11, 12, 13])
 (.seq
 (.reg 5 [oM 18 1, oQ 19 (.load (some 3) 7), oK 20 (.call 66 [18, 19])] [0, 1, 5, 6, 11, 12, 13, 20])
 (.cond 20
 (.reg 6 [oM 21 5, oM 22 0, oM 23 6, oK 24 (.call 67 [22, 23]), oK 25 (.app 1 21 24), oM 5 25] [0, 1, 5, 11, 12, 13])
 .skip))))
 (.reg 7 [oQ 26 (.bin .add 13 (cI 1)), oM 13 26] [0, 1, 5, 11, 12, 13])))))))
 (.seq
 (.reg 8 [oM 27 5, oM 4 27] [4])
 .ret))))
theorem fok29 : FOK Tryz.prog 29 (28, ic29, [(.t 4)]) := fokA [2000000] Tryz.func29 (by kernel_rfl) (by kernel_rfl) (by kernel_rfl) (by kernel_rfl)
def ic30 : IC :=
 (.seq
 (.reg 0 [oM 0 (.c .nilslice)] [])
 (.seq
 (.reg 1 [oQ 1 (.bld [(zI 0), (.str []), (.str [])] [⟨1, ⟨1, (.c (.str [49]))⟩⟩, ⟨2, ⟨1, (.c (.str [49]))⟩⟩]), oQ 2 (.bld [(.str []), (zU 0), (zI 0), (.str []), (.str [])] [⟨0, ⟨1, (.c (.str [120]))⟩⟩]), oQ 3 (.bld [(zU 0), (.str []), (zU 0), (zI 0), (.str []), (.str []), .nilslice] [⟨0, ⟨1, (.c (zU 1))⟩⟩, ⟨1, ⟨5, 2⟩⟩]), oK 4 (.bslt 7 1 [(zU 0), (.str []), (zU 0), (zI 0), (.str []), (.str []), .nilslice] [⟨0, ⟨7, 3⟩⟩]), oQ 5 (.bld [(.str []), (zI 0), (.str []), (.str []), (zU 0), (.str []), .nilslice, .nilslice, .nilslice, .nilslice, .nilslice, .nilslice, .nilslice, .nilslice, .nilslice] [⟨0, ⟨1, (.c (.str [97]))⟩⟩, ⟨1, ⟨3, 1⟩⟩, ⟨4, ⟨1, (.c (zU 2))⟩⟩, ⟨7, ⟨1, 4⟩⟩]), oK 6 (.bslt 15 1 [(.str []), (zI 0), (.str []), (.str []), (zU 0), (.str []), .nilslice, .nilslice, .nilslice, .nilslice, .nilslice, .nilslice, .nilslice, .nilslice, .nilslice] [⟨0, ⟨15, 5⟩⟩]), oM 0 6] [0])
 .ret))
theorem fok30 : FOK Tryz.prog 30 (7, ic30, [(.t 0)]) := fokA [1000004, 1000006, 2000000] Tryz.func30 (by kernel_rfl) (by kernel_rfl) (by kernel_rfl) (by kernel_rfl)
def ic31 : IC :=
 (.seq
 (.reg 0 [oM 2 (cI 0)] [0])
 (.seq
 (.block 0
 (.seq
 (.reg 1 [oM 4 0, oQ 5 (.bin .lss 4 (cI 0)), oM 3 5] [0, 3])
 (.cond 3
 (.seq
 (.reg 2 [oM 2 (cI 0)] [2])
 .ret)
 (.seq
 (.reg 3 [oM 7 0, oQ 8 (.bin .gtr 7 (cI 40)), oM 6 8] [0, 6])
 (.cond 6
 (.seq
 (.reg 4 [oM 2 (cI 1099511627776)] [2])
 .ret)
 .skip)))))
 (.seq
 (.reg 5 [oM 9 0, oQ 10 (.bin .add 9 (cI 1)), oM 11 0, oQ 12 (.bin .add 11 (cI 1)), oQ 13 (.bin .shl 10 12), oQ 14 (.mm false 13 (cI 1099511627776)), oM 2 14] [2])
 .ret)))
theorem fok31 : FOK Tryz.prog 31 (15, ic31, [(.t 2)]) := fokA [2000000] Tryz.func31 (by kernel_rfl) (by kernel_rfl) (by kernel_rfl) (by kernel_rfl)
def ic32 : IC :=
(.seq
 (.reg 0 [⟨(some 4), none, (.q (.mov (.c .nilptr)))⟩, ⟨(some 5), none, (.q (.mov (.c (.int .i64 0))))⟩] [0, 1])
 (.seq
  (.reg 1 [⟨(some 14), none, (.q (.mov (.t 1)))⟩, ⟨(some 15), none, (.q (.len 0 (.t 14)))⟩, ⟨(some 6), none, (.q (.mov (.t 15)))⟩] [0, 1, 6])
  (.seq
   (.seq
    (.reg 2 [⟨(some 16), none, (.q (.mov (.t 0)))⟩, ⟨(some 17), none, (.q (.len 0 (.t 16)))⟩, ⟨(some 18), none, (.q (.mov (.c (.int .i64 0))))⟩] [0, 1, 6, 16, 17, 18])
    (.block 0
     (.loop
      (.seq
       (.reg 3 [⟨(some 19), none, (.q (.bin .lss (.t 18) (.t 17)))⟩] [0, 1, 6, 16, 17, 18, 19])
       (.seq
        (.cond (.t 19)
         .skip
         (.exit 0))
        (.seq
         (.block 1
          (.seq
           (.reg 4 [⟨(some 20), none, (.q (.iaddr 2 (.t 16) (.t 18)))⟩, ⟨(some 21), none, (.q (.load (some 2) (.t 20)))⟩, ⟨(some 8), none, (.alloc [(.int .i64 0), .nilslice])⟩, ⟨none, none, (.store 2 (.t 8) (.t 21))⟩] [0, 1, 6, 8, 16, 17, 18])
           (.reg 5 [⟨(some 22), none, (.q (.mov (.t 6)))⟩, ⟨(some 23), none, (.q (.faddr 1 (.t 8)))⟩, ⟨(some 24), none, (.q (.load none (.t 23)))⟩, ⟨(some 25), none, (.q (.len 0 (.t 24)))⟩, ⟨(some 26), none, (.q (.bin .add (.t 22) (.t 25)))⟩, ⟨(some 6), none, (.q (.mov (.t 26)))⟩] [0, 1, 6, 16, 17, 18])))
         (.reg 6 [⟨(some 27), none, (.q (.bin .add (.t 18) (.c (.int .i64 1))))⟩, ⟨(some 18), none, (.q (.mov (.t 27)))⟩] [0, 1, 6, 16, 17, 18])))))))
   (.seq
    (.seq
     (.reg 7 [⟨(some 28), none, (.q (.mov (.t 0)))⟩, ⟨(some 29), none, (.q (.len 0 (.t 28)))⟩, ⟨(some 30), none, (.q (.bin .gtr (.t 29) (.c (.int .i64 16))))⟩, ⟨(some 31), none, (.q (.mov (.t 30)))⟩, ⟨(some 32), (some ⟨31, false⟩), (.q (.mov (.t 6)))⟩, ⟨(some 33), (some ⟨31, false⟩), (.q (.bin .gtr (.t 32) (.c (.int .i64 256))))⟩, ⟨(some 34), none, (.q (.pick (.t 31) (.c (.bool true)) (.t 33)))⟩] [0, 1, 34])
     (.cond (.t 34)
      (.seq
       (.reg 8 [⟨(some 4), none, (.q (.mov (.c .nilptr)))⟩, ⟨(some 5), none, (.q (.mov (.c (.int .i64 40))))⟩] [4, 5])
       .ret)
      .skip))
    (.seq
     (.reg 9 [⟨(some 35), none, (.q (.mov (.t 1)))⟩, ⟨(some 36), none, (.q (.len 0 (.t 35)))⟩, ⟨(some 37), none, .mkmap⟩, ⟨(some 38), none, (.q (.bld [.nilslice, (.int .i64 0), .nilmap] [⟨1, ⟨1, (.t 36)⟩⟩, ⟨2, ⟨1, (.t 37)⟩⟩]))⟩, ⟨(some 39), none, (.box (.t 38))⟩, ⟨(some 9), none, (.q (.mov (.t 39)))⟩] [0, 1, 9])
     (.seq
      (.seq
       (.reg 10 [⟨(some 40), none, (.q (.mov (.t 9)))⟩, ⟨(some 41), none, (.q (.mov (.t 1)))⟩, ⟨(some 42), none, (.call 68 [(.t 40), (.t 41), (.c (.int .i64 (-1))), (.c (.int .i64 1025))])⟩, ⟨(some 10), none, (.q (.mov (.t 42)))⟩] [0, 9, 10])
       (.seq
        (.reg 11 [⟨(some 43), none, (.q (.mov (.t 10)))⟩, ⟨(some 44), none, (.q (.bin .neq (.t 43) (.c (.int .i64 0))))⟩] [0, 9, 10, 44])
        (.cond (.t 44)
         (.seq
          (.reg 12 [⟨(some 45), none, (.q (.mov (.t 10)))⟩, ⟨(some 4), none, (.q (.mov (.c .nilptr)))⟩, ⟨(some 5), none, (.q (.mov (.t 45)))⟩] [4, 5])
          .ret)
         .skip)))
      (.seq
       (.seq
        (.reg 13 [⟨(some 46), none, (.q (.mov (.t 0)))⟩, ⟨(some 47), none, (.q (.len 0 (.t 46)))⟩, ⟨(some 48), none, (.q (.mov (.c (.int .i64 0))))⟩] [9, 46, 47, 48])
        (.block 2
         (.loop
          (.seq
           (.reg 14 [⟨(some 49), none, (.q (.bin .lss (.t 48) (.t 47)))⟩] [9, 46, 47, 48, 49])
           (.seq
            (.cond (.t 49)
            .skip
            (.exit 2))
            (.seq
            (.block 3
            (.seq
            (.reg 15 [⟨(some 50), none, (.q (.mov (.t 48)))⟩, ⟨(some 51), none, (.q (.iaddr 2 (.t 46) (.t 48)))⟩, ⟨(some 52), none, (.q (.load (some 2) (.t 51)))⟩, ⟨(some 12), none, (.alloc [(.int .i64 0), .nilslice])⟩, ⟨(some 11), none, (.q (.mov (.t 50)))⟩, ⟨none, none, (.store 2 (.t 12) (.t 52))⟩] [9, 11, 12, 46, 47, 48])
            (.seq
            (.seq
            (.reg 16 [⟨(some 53), none, (.q (.faddr 0 (.t 12)))⟩, ⟨(some 54), none, (.q (.load none (.t 53)))⟩, ⟨(some 55), none, (.q (.bin .lss (.t 54) (.c (.int .i64 0))))⟩, ⟨(some 56), none, (.q (.mov (.t 55)))⟩, ⟨(some 57), (some ⟨56, false⟩), (.q (.faddr 0 (.t 12)))⟩, ⟨(some 58), (some ⟨56, false⟩), (.q (.load none (.t 57)))⟩, ⟨(some 59), (some ⟨56, false⟩), (.q (.bin .gtr (.t 58) (.c (.int .i64 1024))))⟩, ⟨(some 60), none, (.q (.pick (.t 56) (.c (.bool true)) (.t 59)))⟩] [9, 11, 12, 46, 47, 48, 60])
            (.cond (.t 60)
            (.seq
            (.reg 17 [⟨(some 4), none, (.q (.mov (.c .nilptr)))⟩, ⟨(some 5), none, (.q (.mov (.c (.int .i64 4))))⟩] [4, 5])
            .ret)
            .skip))
            (.seq
            (.reg 18 [⟨(some 61), none, (.q (.mov (.t 9)))⟩, ⟨(some 62), none, (.q (.faddr 1 (.t 12)))⟩, ⟨(some 63), none, (.q (.load none (.t 62)))⟩, ⟨(some 64), none, (.q (.mov (.t 11)))⟩, ⟨(some 65), none, (.q (.faddr 0 (.t 12)))⟩, ⟨(some 66), none, (.q (.load none (.t 65)))⟩, ⟨(some 67), none, (.call 68 [(.t 61), (.t 63), (.t 64), (.t 66)])⟩, ⟨(some 13), none, (.q (.mov (.t 67)))⟩] [9, 13, 46, 47, 48])
            (.seq
            (.reg 19 [⟨(some 68), none, (.q (.mov (.t 13)))⟩, ⟨(some 69), none, (.q (.bin .neq (.t 68) (.c (.int .i64 0))))⟩] [9, 13, 46, 47, 48, 69])
            (.cond (.t 69)
            (.seq
            (.reg 20 [⟨(some 70), none, (.q (.mov (.t 13)))⟩, ⟨(some 4), none, (.q (.mov (.c .nilptr)))⟩, ⟨(some 5), none, (.q (.mov (.t 70)))⟩] [4, 5])
            .ret)
            .skip))))))
            (.reg 21 [⟨(some 71), none, (.q (.bin .add (.t 48) (.c (.int .i64 1))))⟩, ⟨(some 48), none, (.q (.mov (.t 71)))⟩] [9, 46, 47, 48])))))))
       (.seq
        (.reg 22 [⟨(some 72), none, (.q (.mov (.t 9)))⟩, ⟨(some 4), none, (.q (.mov (.t 72)))⟩, ⟨(some 5), none, (.q (.mov (.c (.int .i64 0))))⟩] [4, 5])
        .ret))))))))
theorem fok32 : FOK Tryz.prog 32 (73, ic32, [(.t 4), (.t 5)]) := .mk (pf := []) (an := [(0, [0, 1]), (1, [0, 1, 6]), (2, [0, 1, 6, 16, 17, 18]), (3, [0, 1, 6, 16, 17, 18, 19]), (4, [0, 1, 6, 8, 16, 17, 18]), (5, [0, 1, 6, 16, 17, 18]), (6, [0, 1, 6, 16, 17, 18]), (7, [0, 1, 34]), (8, [4, 5]), (9, [0, 1, 9]), (10, [0, 9, 10]), (11, [0, 9, 10, 44]), (12, [4, 5]), (13, [9, 46, 47, 48]), (14, [9, 46, 47, 48, 49]), (15, [9, 11, 12, 46, 47, 48]), (16, [9, 11, 12, 46, 47, 48, 60]), (17, [4, 5]), (18, [9, 13, 46, 47, 48]), (19, [9, 13, 46, 47, 48, 69]), (20, [4, 5]), (21, [9, 46, 47, 48]), (22, [4, 5])]) (by kernel_rfl) (fnOK_of Tryz.func32 (by kernel_rfl) (by kernel_rfl) (by kernel_rfl))
def ic33 : IC :=
 (.seq
 (.reg 0 [oK 2 (.boxt 0), oK 3 (.boxt 1), oM 4 (.c .nilptr), oM 5 (cI 0)] [2, 3])
 (.seq
 (.block 0
 (.seq
 (.reg 1 [oQ 13 (.load none 2), oQ 14 (.isnil (.pointer 154) false 13), oM 12 14] [2, 3, 12])
 (.cond 12
 (.seq
 (.reg 2 [oM 4 (.c .nilptr), oM 5 (cI 2)] [4, 5])
 .ret)
 (.seq
 (.reg 3 [oQ 16 (.faddr 0 3), oQ 17 (.load none 16), oK 18 (.call 69 [17]), oQ 19 (.not 18), oM 20 19, gQ 21 20 false (.faddr 4 3), gQ 22 20 false (.load none 21), gQ 23 20 false (.bin .lss 22 (cI 0)), oQ 24 (.pick 20 (cB true) 23), oM 25 24, gQ 26 25 false (.faddr 4 3), gQ 27 25 false (.load none 26), gQ 28 25 false (.bin .gtr 27 (cI 1099511627776)), oQ 29 (.pick 25 (cB true) 28), oM 15 29] [2, 3, 15])
 (.cond 15
 (.seq
 (.reg 4 [oM 4 (.c .nilptr), oM 5 (cI 1)] [4, 5])
 .ret)
 (.seq
 (.reg 5 [oQ 31 (.faddr 2 3), oQ 32 (.load none 31), oQ 33 (.len 0 32), oQ 34 (.bin .gtr 33 (cI 64)), oM 35 34, gQ 36 35 false (.faddr 3 3), gQ 37 35 false (.load none 36), gQ 38 35 false (.len 0 37), gQ 39 35 false (.bin .gtr 38 (cI 64)), oQ 40 (.pick 35 (cB true) 39), oM 30 40] [2, 3, 30])
 (.cond 30
 (.seq
 (.reg 6 [oM 4 (.c .nilptr), oM 5 (cI 40)] [4, 5])
 .ret)
 (.seq
 (.reg 7 [oQ 42 (.faddr 2 3), oQ 43 (.load none 42), oK 44 (.call 70 [43, (.f 71)]), oM 41 44] [2, 3, 41])
 (.cond 41
 (.seq
 (.reg 8 [oM 4 (.c .nilptr), oM 5 (cI 4)] [4, 5])
 .ret)
 (.seq
 (.reg 9 [oQ 46 (.faddr 3 3), oQ 47 (.load none 46), oQ 48 (.mkf 74 [] [3, 2]), oK 49 (.call 73 [47, 48]), oM 45 49] [2, 3, 45])
 (.cond 45
 (.seq
 (.reg 10 [oM 4 (.c .nilptr), oM 5 (cI 5)] [4, 5])
 .ret)
 .skip)))))))))))
 (.seq
 (.reg 11 [oQ 51 (.load none 2), oK 52 (.call 77 [51]), oM 50 52, oQ 53 (.ext 0 50), oQ 54 (.ext 1 50), oM 6 53, oM 7 54] [2, 3, 6, 7])
 (.seq
 (.seq
 (.reg 12 [oM 55 7, oQ 56 (.bin .neq 55 (cI 0))] [2, 3, 6, 7, 56])
 (.cond 56
 (.seq
 (.reg 13 [oM 57 7, oM 4 (.c .nilptr), oM 5 57] [4, 5])
 .ret)
 .skip))
 (.seq
 (.oreg 14 [(0, oQ 58 (.load none 2), 0), (1, oM 59 6, 0), (2, oQ 60 (.load (some 5) 3), 0), (3, oK 61 (.call 78 [60]), 1), (4, oQ 62 (.bld [.nilptr, .nilptr, (zU 0), (.bool false), .nilslice, .nilslice, (zI 0), .nilslice] [⟨0, ⟨1, 58⟩⟩, ⟨1, ⟨1, 59⟩⟩, ⟨2, ⟨5, 61⟩⟩]), 0), (5, oK 63 (.box 62), 0), (6, oM 8 63, 0)] [2, 8])
 (.seq
 (.seq
 (.reg 15 [oQ 64 (.load none 2), oK 65 (.call 41 [64]), oM 66 (cI 0)] [2, 8, 65, 66])
 (.block 1
 (.loop
 (.seq
 (.reg 16 [oQ 67 (.bin .lss 66 65)] [2, 8, 65, 66, 67])
 (.seq
 (.cond 67
 .skip
 (.exit 1))
 (.seq
 (.block 2
 (.seq
 (.reg 17 [oM 68 66, oM 9 68] [2, 8, 9, 65, 66])
 (.seq
 (.reg 18 [oQ 70 (.load none 2), oM 71 9, oK 72 (.call 42 [70, 71]), oM 69 72, oQ 73 (.ext 0 69), oQ 74 (.ext 1 69), oK 10 (.alloc [(.str []), (zI 0), (.str []), (.str []), (zU 0), (.str []), .nilslice, .nilslice, .nilslice, .nilslice, .nilslice, .nilslice, .nilslice, .nilslice, .nilslice]), oN (.store 15 10 73), oM 11 74] [2, 8, 10, 11, 65, 66])
 (.seq
 (.seq
 (.reg 19 [oM 75 11, oQ 76 (.bin .neq 75 (cI 0))] [2, 8, 10, 11, 65, 66, 76])
 (.cond 76
 (.seq
 (.reg 20 [oM 77 11, oM 4 (.c .nilptr), oM 5 77] [4, 5])
 .ret)
 .skip))
 (.oreg 21 [(0, oM 78 8, 0), (1, oM 79 8, 0), (2, oQ 80 (.nchk 79), 0), (3, oQ 81 (.faddr 7 80), 0), (4, oQ 82 (.load none 81), 0), (5, oQ 83 (.load (some 15) 10), 0), (6, oK 84 (.bslt 15 1 [(.str []), (zI 0), (.str []), (.str []), (zU 0), (.str []), .nilslice, .nilslice, .nilslice, .nilslice, .nilslice, .nilslice, .nilslice, .nilslice, .nilslice] [⟨0, ⟨15, 83⟩⟩]), 0), (7, oK 85 (.app 15 82 84), 0), (8, oQ 86 (.nchk 78), 0), (9, oQ 87 (.faddr 7 86), 0), (10, oN (.store 1 87 85), 0)] [2, 8, 65, 66])))))
 (.reg 22 [oQ 88 (.bin .add 66 (cI 1)), oM 66 88] [2, 8, 65, 66])))))))
 (.seq
 (.reg 23 [oM 89 8, oM 4 89, oM 5 (cI 0)] [4, 5])
 .ret)))))))
theorem fok33 : FOK Tryz.prog 33 (90, ic33, [(.t 4), (.t 5)]) := fokA [1000002, 1000003, 1000084, 2000000] Tryz.func33 (by kernel_rfl) (by kernel_rfl) (by kernel_rfl) (by kernel_rfl)
def ic34 : IC :=
 (.seq
 (.reg 0 [oM 2 (.c .nilslice)] [0])
 (.seq
 (.seq
 (.reg 1 [oM 3 0, oQ 4 (.isnil (.pointer 129) false 3)] [0, 4])
 (.cond 4
 (.seq
 (.reg 2 [oM 2 (.c .nilslice)] [2])
 .ret)
 .skip))
 (.seq
 (.reg 3 [oM 5 0, oQ 6 (.nchk 5), oQ 7 (.faddr 3 6), oQ 8 (.load none 7), oK 9 (.call 79 [8]), oM 2 9] [2])
 .ret)))
theorem fok34 : FOK Tryz.prog 34 (10, ic34, [(.t 2)]) := fokA [2000000] Tryz.func34 (by kernel_rfl) (by kernel_rfl) (by kernel_rfl) (by kernel_rfl)
def ic39 : IC :=
 (.seq
 (.reg 0 [oM 2 (.c .nilptr), oM 3 (cI 0)] [0])
 (.seq
 (.reg 1 [oM 7 0, oK 8 (.call 77 [7]), oM 6 8, oQ 9 (.ext 0 6), oQ 10 (.ext 1 6), oM 4 9, oM 5 10] [0, 4, 5])
 (.seq
 (.seq
 (.reg 2 [oM 11 5, oQ 12 (.bin .neq 11 (cI 0))] [0, 4, 5, 12])
 (.cond 12
 (.seq
 (.reg 3 [oM 13 5, oM 2 (.c .nilptr), oM 3 13] [2, 3])
 .ret)
 .skip))
 (.seq
 (.reg 4 [oM 14 4, oM 15 0, oK 16 (.call 41 [15]), oQ 17 (.bld [.nilptr, (zI 0)] [⟨0, ⟨1, 14⟩⟩, ⟨1, ⟨1, 16⟩⟩]), oK 18 (.boxt 17), oM 2 18, oM 3 (cI 0)] [2, 3])
 .ret))))
theorem fok39 : FOK Tryz.prog 39 (19, ic39, [(.t 2), (.t 3)]) := fokA [1000018, 2000000] Tryz.func39 (by kernel_rfl) (by kernel_rfl) (by kernel_rfl) (by kernel_rfl)
def ic40 : IC :=
 (.seq
 (.reg 0 [oM 2 (.c .nilptr)] [0])
 (.seq
 (.seq
 (.reg 1 [oM 3 0, oQ 4 (.isnil (.pointer 167) false 3)] [0, 4])
 (.cond 4
 (.seq
 (.reg 2 [oM 2 (.c .nilptr)] [2])
 .ret)
 .skip))
 (.seq
 (.reg 3 [oM 5 0, oQ 6 (.nchk 5), oQ 7 (.faddr 0 6), oQ 8 (.load none 7), oM 2 8] [2])
 .ret)))
theorem fok40 : FOK Tryz.prog 40 (9, ic40, [(.t 2)]) := fokA [2000000] Tryz.func40 (by kernel_rfl) (by kernel_rfl) (by kernel_rfl) (by kernel_rfl)
def ic41 : IC :=
(.seq
 (.reg 0 [⟨(some 2), none, (.q (.mov (.c (.int .i64 0))))⟩] [0])
 (.seq
  (.seq
   (.reg 1 [⟨(some 3), none, (.q (.mov (.t 0)))⟩, ⟨(some 4), none, (.q (.isnil (.pointer 154) false (.t 3)))⟩] [0, 4])
   (.cond (.t 4)
    (.seq
     (.reg 2 [⟨(some 2), none, (.q (.mov (.c (.int .i64 0))))⟩] [2])
     .ret)
    .skip))
  (.seq
   (.reg 3 [⟨(some 5), none, (.q (.mov (.t 0)))⟩, ⟨(some 6), none, (.q (.nchk (.t 5)))⟩, ⟨(some 7), none, (.q (.faddr 0 (.t 6)))⟩, ⟨(some 8), none, (.q (.load none (.t 7)))⟩, ⟨(some 9), none, (.q (.len 0 (.t 8)))⟩, ⟨(some 2), none, (.q (.mov (.t 9)))⟩] [2])
   .ret)))
theorem fok41 : FOK Tryz.prog 41 (10, ic41, [(.t 2)]) := .mk (pf := []) (an := [(0, [0]), (1, [0, 4]), (2, [2]), (3, [2])]) (by kernel_rfl) (fnOK_of Tryz.func41 (by kernel_rfl) (by kernel_rfl) (by kernel_rfl))
def ic42 : IC :=
(.seq
 (.reg 0 [⟨(some 4), none, (.alloc [(.str []), (.int .i64 0), (.str []), (.str []), (.int .u8 0), (.str []), .nilslice, .nilslice, .nilslice, .nilslice, .nilslice, .nilslice, .nilslice, .nilslice, .nilslice])⟩, ⟨(some 5), none, (.q (.mov (.c (.int .i64 0))))⟩] [0, 1, 4])
 (.seq
  (.seq
   (.reg 1 [⟨(some 6), none, (.q (.mov (.t 0)))⟩, ⟨(some 7), none, (.q (.isnil (.pointer 154) false (.t 6)))⟩, ⟨(some 8), none, (.q (.mov (.t 7)))⟩, ⟨(some 9), (some ⟨8, false⟩), (.q (.mov (.t 0)))⟩, ⟨(some 10), (some ⟨8, false⟩), (.q (.nchk (.t 9)))⟩, ⟨(some 11), (some ⟨8, false⟩), (.q (.faddr 0 (.t 10)))⟩, ⟨(some 12), (some ⟨8, false⟩), (.q (.load none (.t 11)))⟩, ⟨(some 13), (some ⟨8, false⟩), (.q (.mov (.t 1)))⟩, ⟨(some 14), (some ⟨8, false⟩), (.call 88 [(.t 12), (.t 13)])⟩, ⟨(some 15), (some ⟨8, false⟩), (.q (.not (.t 14)))⟩, ⟨(some 16), none, (.q (.pick (.t 8) (.c (.bool true)) (.t 15)))⟩] [0, 1, 4, 16])
   (.cond (.t 16)
    (.seq
     (.reg 2 [⟨(some 17), none, (.q (.bld [(.str []), (.int .i64 0), (.str []), (.str []), (.int .u8 0), (.str []), .nilslice, .nilslice, .nilslice, .nilslice, .nilslice, .nilslice, .nilslice, .nilslice, .nilslice] []))⟩, ⟨none, none, (.store 15 (.t 4) (.t 17))⟩, ⟨(some 5), none, (.q (.mov (.c (.int .i64 5))))⟩] [4, 5])
     .ret)
    .skip))
  (.seq
   (.reg 3 [⟨(some 18), none, (.q (.mov (.t 0)))⟩, ⟨(some 19), none, (.q (.nchk (.t 18)))⟩, ⟨(some 20), none, (.q (.faddr 0 (.t 19)))⟩, ⟨(some 21), none, (.q (.load none (.t 20)))⟩, ⟨(some 22), none, (.q (.mov (.t 1)))⟩, ⟨(some 23), none, (.q (.iaddr 17 (.t 21) (.t 22)))⟩, ⟨(some 24), none, (.q (.faddr 0 (.t 23)))⟩, ⟨(some 25), none, (.q (.load (some 15) (.t 24)))⟩, ⟨(some 26), none, (.call 89 [(.t 25)])⟩, ⟨none, none, (.store 15 (.t 4) (.t 26))⟩, ⟨(some 5), none, (.q (.mov (.c (.int .i64 0))))⟩] [4, 5])
   .ret)))
theorem fok42 : FOK Tryz.prog 42 (27, ic42, [(.cell (some 15) 4), (.t 5)]) := .mk (pf := []) (an := [(0, [0, 1, 4]), (1, [0, 1, 4, 16]), (2, [4, 5]), (3, [4, 5])]) (by kernel_rfl) (fnOK_of Tryz.func42 (by kernel_rfl) (by kernel_rfl) (by kernel_rfl))
def ic43 : IC :=
 (.seq
 (.seq
 (.reg 0 [oM 11 0, oQ 12 (.nchk 11), oQ 13 (.faddr 2 12), oQ 14 (.load none 13), oQ 15 (.len 0 14), oM 16 (cI 0)] [0, 14, 15, 16])
 (.block 0
 (.loop
 (.seq
 (.reg 1 [oQ 17 (.bin .lss 16 15)] [0, 14, 15, 16, 17])
 (.seq
 (.cond 17
 .skip
 (.exit 0))
 (.seq
 (.block 1
 (.seq
 (.reg 2 [oM 18 16, oQ 19 (.iaddr 15 14 16), oQ 20 (.load (some 15) 19), oK 3 (.alloc [(.str []), (zI 0), (.str []), (.str []), (zU 0), (.str []), .nilslice, .nilslice, .nilslice, .nilslice, .nilslice, .nilslice, .nilslice, .nilslice, .nilslice]), oM 2 18, oN (.store 15 3 20)] [0, 2, 3, 14, 15, 16])
 (.seq
 (.seq
 (.reg 3 [oM 21 0, oQ 22 (.nchk 21), oQ 23 (.faddr 0 22), oQ 24 (.load none 23), oM 25 2, oK 26 (.call 90 [24, 25]), oQ 27 (.not 26)] [0, 2, 3, 14, 15, 16, 27])
 (.cond 27
 (.reg 4 [oM 28 0, oM 29 2, oK 30 (.call 91 [28, (.c (zU 1)), 29, (cI 0)])] [0, 2, 3, 14, 15, 16])
 .skip))
 (.seq
 (.reg 5 [oQ 31 (.faddr 7 3), oQ 32 (.load none 31), oQ 33 (.len 0 32), oQ 34 (.bld [(zU 0), (zI 0)] [⟨0, ⟨1, (.c (zU 2))⟩⟩, ⟨1, ⟨1, 33⟩⟩]), oQ 35 (.faddr 8 3), oQ 36 (.load none 35), oQ 37 (.len 0 36), oQ 38 (.bld [(zU 0), (zI 0)] [⟨0, ⟨1, (.c (zU 3))⟩⟩, ⟨1, ⟨1, 37⟩⟩]), oQ 39 (.faddr 9 3), oQ 40 (.load none 39), oQ 41 (.len 0 40), oQ 42 (.bld [(zU 0), (zI 0)] [⟨0, ⟨1, (.c (zU 4))⟩⟩, ⟨1, ⟨1, 41⟩⟩]), oQ 43 (.bld [(zU 0), (zI 0), (zU 0), (zI 0), (zU 0), (zI 0)] [⟨0, ⟨2, 34⟩⟩, ⟨2, ⟨2, 38⟩⟩, ⟨4, ⟨2, 42⟩⟩]), oM 44 (cI 0)] [0, 2, 14, 15, 16, 43, 44])
 (.block 2
 (.loop
 (.seq
 (.reg 6 [oQ 45 (.bin .lss 44 (cI 3))] [0, 2, 14, 15, 16, 43, 44, 45])
 (.seq
 (.cond 45
 .skip
 (.exit 2))
 (.seq
 (.block 3
 (.seq
 (.reg 7 [oQ 46 (.idx (some 2) 3 2 43 44), oK 5 (.alloc [(zU 0), (zI 0)]), oN (.store 2 5 46)] [0, 2, 5, 14, 15, 16, 43, 44])
 (.seq
 (.reg 8 [oQ 47 (.faddr 1 5), oQ 48 (.load none 47), oM 49 (cI 0)] [0, 2, 5, 14, 15, 16, 43, 44, 48, 49])
 (.block 4
 (.loop
 (.seq
 (.reg 9 [oQ 50 (.bin .lss 49 48)] [0, 2, 5, 14, 15, 16, 43, 44, 48, 49, 50])
 (.seq
 (.cond 50
 .skip
 (.exit 4))
 (.seq
 (.block 5
 (.seq
 (.reg 10 [oM 51 49, oM 6 51] [0, 2, 5, 6, 14, 15, 16, 43, 44, 48, 49])
 (.reg 11 [oM 52 0, oQ 53 (.faddr 0 5), oQ 54 (.load none 53), oM 55 2, oM 56 6, oK 57 (.call 91 [52, 54, 55, 56])] [0, 2, 5, 14, 15, 16, 43, 44, 48, 49])))
 (.reg 12 [oQ 58 (.bin .add 49 (cI 1)), oM 49 58] [0, 2, 5, 14, 15, 16, 43, 44, 48, 49])))))))))
 (.reg 13 [oQ 59 (.bin .add 44 (cI 1)), oM 44 59] [0, 2, 14, 15, 16, 43, 44]))))))))))
 (.reg 14 [oQ 60 (.bin .add 16 (cI 1)), oM 16 60] [0, 14, 15, 16])))))))
 (.seq
 (.seq
 (.reg 15 [oM 61 0, oQ 62 (.nchk 61), oQ 63 (.faddr 2 62), oQ 64 (.load none 63), oQ 65 (.len 0 64), oM 66 (cI 0)] [0, 65, 66])
 (.block 6
 (.loop
 (.seq
 (.reg 16 [oQ 67 (.bin .lss 66 65)] [0, 65, 66, 67])
 (.seq
 (.cond 67
 .skip
 (.exit 6))
 (.seq
 (.block 7
 (.seq
 (.reg 17 [oM 68 66, oM 7 68] [0, 7, 65, 66])
 (.seq
 (.reg 18 [oM 69 7, oQ 70 (.bin .add 69 (cI 1)), oM 8 70] [0, 7, 8, 65, 66])
 (.block 8
 (.loop
 (.seq
 (.seq
 (.reg 19 [oM 71 8, oM 72 0, oQ 73 (.nchk 72), oQ 74 (.faddr 2 73), oQ 75 (.load none 74), oQ 76 (.len 0 75), oQ 77 (.bin .lss 71 76)] [0, 7, 8, 65, 66, 77])
 (.cond 77
 .skip
 (.exit 8)))
 (.seq
 (.block 9
 (.seq
 (.reg 21 [oM 80 0, oQ 81 (.nchk 80), oQ 82 (.faddr 0 81), oQ 83 (.load none 82), oM 84 7, oM 85 8, oK 86 (.call 92 [83, 84, 85])] [0, 7, 8, 65, 66, 86])
 (.cond 86
 (.reg 22 [oM 87 0, oM 88 7, oM 89 8, oK 90 (.call 91 [87, (.c (zU 5)), 88, 89])] [0, 7, 8, 65, 66])
 .skip)))
 (.reg 20 [oM 78 8, oQ 79 (.bin .add 78 (cI 1)), oM 8 79] [0, 7, 8, 65, 66]))))))))
 (.reg 23 [oQ 91 (.bin .add 66 (cI 1)), oM 66 91] [0, 65, 66])))))))
 (.seq
 (.seq
 (.reg 24 [oM 92 0, oQ 93 (.nchk 92), oQ 94 (.faddr 0 93), oQ 95 (.load none 94), oK 96 (.call 40 [95]), oK 97 (.call 76 [96]), oM 98 (cI 0)] [0, 97, 98])
 (.block 10
 (.loop
 (.seq
 (.reg 25 [oQ 99 (.bin .lss 98 97)] [0, 97, 98, 99])
 (.seq
 (.cond 99
 .skip
 (.exit 10))
 (.seq
 (.block 11
 (.seq
 (.reg 26 [oM 100 98, oM 9 100] [0, 9, 97, 98])
 (.seq
 (.reg 27 [oM 101 0, oQ 102 (.nchk 101), oQ 103 (.faddr 0 102), oQ 104 (.load none 103), oM 105 9, oK 106 (.call 93 [104, 105]), oQ 107 (.not 106)] [0, 9, 97, 98, 107])
 (.cond 107
 (.reg 28 [oM 108 0, oM 109 9, oK 110 (.call 91 [108, (.c (zU 6)), 109, (cI 0)])] [0, 97, 98])
 .skip))))
 (.reg 29 [oQ 111 (.bin .add 98 (cI 1)), oM 98 111] [0, 97, 98])))))))
 (.seq
 (.reg 30 [oM 112 0, oQ 113 (.nchk 112), oQ 114 (.faddr 0 113), oQ 115 (.load none 114), oK 116 (.call 46 [115]), oQ 117 (.fld none 2 116), oQ 118 (.len 0 117), oM 119 (cI 0)] [0, 118, 119])
 (.block 12
 (.loop
 (.seq
 (.reg 31 [oQ 120 (.bin .lss 119 118)] [0, 118, 119, 120])
 (.seq
 (.cond 120
 .skip
 (.exit 12))
 (.seq
 (.block 13
 (.seq
 (.reg 32 [oM 121 119, oM 10 121] [0, 10, 118, 119])
 (.seq
 (.reg 33 [oM 122 0, oQ 123 (.nchk 122), oQ 124 (.faddr 0 123), oQ 125 (.load none 124), oM 126 10, oK 127 (.call 94 [125, 126]), oQ 128 (.not 127)] [0, 10, 118, 119, 128])
 (.cond 128
 (.reg 34 [oM 129 0, oM 130 10, oK 131 (.call 91 [129, (.c (zU 7)), 130, (cI 0)])] [0, 118, 119])
 .skip))))
 (.reg 35 [oQ 132 (.bin .add 119 (cI 1)), oM 119 132] [0, 118, 119]))))))))))
theorem fok43 : FOK Tryz.prog 43 (133, ic43, []) := fokA [2000000] Tryz.func43 (by kernel_rfl) (by kernel_rfl) (by kernel_rfl) (by kernel_rfl)
def ic44 : IC :=
 (.seq
 (.reg 0 [oM 4 (cI 0)] [0, 1])
 (.seq
 (.seq
 (.reg 1 [oM 6 0, oQ 7 (.len 0 6), oM 8 (cI 0)] [0, 1, 7, 8])
 (.block 0
 (.loop
 (.seq
 (.reg 2 [oQ 9 (.bin .lss 8 7)] [0, 1, 7, 8, 9])
 (.seq
 (.cond 9
 .skip
 (.exit 0))
 (.seq
 (.block 1
 (.seq
 (.reg 3 [oM 10 8, oM 5 10] [0, 1, 5, 7, 8])
 (.seq
 (.reg 4 [oM 11 1, oM 12 0, oM 13 5, oQ 14 (.iaddr 3 12 13), oQ 15 (.load (some 3) 14), oK 16 (.callv 11 [15])] [0, 1, 5, 7, 8, 16])
 (.cond 16
 (.seq
 (.reg 5 [oM 17 5, oM 4 17] [4])
 .ret)
 .skip))))
 (.reg 6 [oQ 18 (.bin .add 8 (cI 1)), oM 8 18] [0, 1, 7, 8])))))))
 (.seq
 (.reg 7 [oM 4 (cI (-1))] [4])
 .ret)))
theorem fok44 : FOK Tryz.prog 44 (19, ic44, [(.t 4)]) := fokA [2000000] Tryz.func44 (by kernel_rfl) (by kernel_rfl) (by kernel_rfl) (by kernel_rfl)
def ic45 : IC :=
 (.seq
 (.reg 0 [oK 10 .mkmap, oM 3 10] [0, 1, 3])
 (.seq
 (.reg 1 [oQ 11 (.load none 1), oQ 12 (.len 0 11), oM 13 (cI 0)] [0, 3, 11, 12, 13])
 (.block 0
 (.loop
 (.seq
 (.reg 2 [oQ 14 (.bin .lss 13 12)] [0, 3, 11, 12, 13, 14])
 (.seq
 (.cond 14
 .skip
 (.exit 0))
 (.seq
 (.block 1
 (.seq
 (.reg 3 [oQ 15 (.iaddr 3 11 13), oQ 16 (.load (some 3) 15), oK 5 (.alloc [(zU 0), (zI 0), (zI 0)]), oN (.store 3 5 16)] [0, 3, 5, 11, 12, 13])
 (.seq
 (.reg 4 [oQ 17 (.load (some 3) 5), oK 18 (.call 8 [17]), oQ 19 (.len 0 18), oM 20 (cI 0)] [0, 3, 11, 12, 13, 18, 19, 20])
 (.block 2
 (.loop
 (.seq
 (.reg 5 [oQ 21 (.bin .lss 20 19)] [0, 3, 11, 12, 13, 18, 19, 20, 21])
 (.seq
 (.cond 21
 .skip
 (.exit 2))
 (.seq
 (.block 3
 (.seq
 (.reg 6 [oQ 22 (.iaddr 2 18 20), oQ 23 (.load (some 2) 22), oK 7 (.alloc [(zU 0), (zI 0)]), oN (.store 2 7 23)] [0, 3, 7, 11, 12, 13, 18, 19, 20])
 (.seq
 (.seq
 (.reg 7 [oM 25 3, oQ 26 (.load (some 2) 7), oQ 27 (.lkp 5 (.agg []) true 25 26), oM 24 27, oQ 28 (.ext 0 24), oQ 29 (.ext 1 24), oK 8 (.alloc []), oN (.store 0 8 28), oM 9 29] [0, 3, 7, 9, 11, 12, 13, 18, 19, 20])
 (.seq
 (.reg 8 [oM 30 9] [0, 3, 7, 11, 12, 13, 18, 19, 20, 30])
 (.cond 30
 (.exit 3)
 .skip)))
 (.seq
 (.reg 9 [oM 31 3, oQ 32 (.load (some 2) 7), oQ 33 (.bld [] []), oN (.mupd 5 31 32 33)] [0, 3, 7, 11, 12, 13, 18, 19, 20])
 (.seq
 (.reg 10 [oM 34 0, oQ 35 (.load (some 2) 7), oK 36 (.callv 34 [35]), oQ 37 (.not 36)] [0, 3, 11, 12, 13, 18, 19, 20, 37])
 (.cond 37
 .ret
 .skip))))))
 (.reg 11 [oQ 38 (.bin .add 20 (cI 1)), oM 20 38] [0, 3, 11, 12, 13, 18, 19, 20])))))))))
 (.reg 12 [oQ 39 (.bin .add 13 (cI 1)), oM 13 39] [0, 3, 11, 12, 13]))))))))
theorem fok45 : FOK Tryz.prog 45 (40, ic45, []) := fokA [2000000] Tryz.func45 (by kernel_rfl) (by kernel_rfl) (by kernel_rfl) (by kernel_rfl)
def ic46 : IC :=
 (.seq
 (.reg 0 [oK 2 (.alloc [(zU 0), (.bool false), .nilslice, .nilslice, (zI 0)])] [0, 2])
 (.seq
 (.seq
 (.reg 1 [oM 3 0, oQ 4 (.isnil (.pointer 167) false 3)] [0, 2, 4])
 (.cond 4
 (.seq
 (.reg 2 [oQ 5 (.bld [(zU 0), (.bool false), .nilslice, .nilslice, (zI 0)] []), oN (.store 5 2 5)] [2])
 .ret)
 .skip))
 (.seq
 (.reg 3 [oM 6 0, oQ 7 (.nchk 6), oQ 8 (.faddr 2 7), oQ 9 (.load (some 5) 8), oK 10 (.call 78 [9]), oN (.store 5 2 10)] [2])
 .ret)))
theorem fok46 : FOK Tryz.prog 46 (11, ic46, [(.cell (some 5) 2)]) := fokA [2000000] Tryz.func46 (by kernel_rfl) (by kernel_rfl) (by kernel_rfl) (by kernel_rfl)
def ic47 : IC :=
 (.seq
 (.reg 0 [oM 2 (.c .nilptr), oM 3 (cI 0)] [0])
 (.seq
 (.reg 1 [oM 11 0, oK 12 (.call 77 [11]), oM 10 12, oQ 13 (.ext 0 10), oQ 14 (.ext 1 10), oM 4 13, oM 5 14] [0, 4, 5])
 (.seq
 (.seq
 (.reg 2 [oM 15 5, oQ 16 (.bin .neq 15 (cI 0))] [0, 4, 5, 16])
 (.cond 16
 (.seq
 (.reg 3 [oM 17 5, oM 2 (.c .nilptr), oM 3 17] [2, 3])
 .ret)
 .skip))
 (.seq
 (.reg 4 [oM 18 4, oK 19 .mkmap, oQ 20 (.bld [.nilptr, .nilslice, (zI 0), .nilslice, .nilmap] [⟨0, ⟨1, 18⟩⟩, ⟨4, ⟨1, 19⟩⟩]), oK 21 (.box 20), oM 6 21] [0, 6])
 (.seq
 (.seq
 (.reg 5 [oM 22 0, oK 23 (.call 41 [22]), oM 24 (cI 0)] [0, 6, 23, 24])
 (.block 0
 (.loop
 (.seq
 (.reg 6 [oQ 25 (.bin .lss 24 23)] [0, 6, 23, 24, 25])
 (.seq
 (.cond 25
 .skip
 (.exit 0))
 (.seq
 (.block 1
 (.seq
 (.reg 7 [oM 26 24, oM 7 26] [0, 6, 7, 23, 24])
 (.seq
 (.reg 8 [oM 28 0, oM 29 7, oK 30 (.call 42 [28, 29]), oM 27 30, oQ 31 (.ext 0 27), oQ 32 (.ext 1 27), oK 8 (.alloc [(.str []), (zI 0), (.str []), (.str []), (zU 0), (.str []), .nilslice, .nilslice, .nilslice, .nilslice, .nilslice, .nilslice, .nilslice, .nilslice, .nilslice]), oN (.store 15 8 31), oM 9 32] [0, 6, 8, 9, 23, 24])
 (.seq
 (.seq
 (.reg 9 [oM 33 9, oQ 34 (.bin .neq 33 (cI 0))] [0, 6, 8, 9, 23, 24, 34])
 (.cond 34
 (.seq
 (.reg 10 [oM 35 9, oM 2 (.c .nilptr), oM 3 35] [2, 3])
 .ret)
 .skip))
 (.oreg 11 [(0, oM 36 6, 0), (1, oM 37 6, 0), (2, oQ 38 (.nchk 37), 0), (3, oQ 39 (.faddr 1 38), 0), (4, oQ 40 (.load none 39), 0), (5, oQ 41 (.load (some 15) 8), 0), (6, oK 42 (.bslt 15 1 [(.str []), (zI 0), (.str []), (.str []), (zU 0), (.str []), .nilslice, .nilslice, .nilslice, .nilslice, .nilslice, .nilslice, .nilslice, .nilslice, .nilslice] [⟨0, ⟨15, 41⟩⟩]), 0), (7, oK 43 (.app 15 40 42), 0), (8, oQ 44 (.nchk 36), 0), (9, oQ 45 (.faddr 1 44), 0), (10, oN (.store 1 45 43), 0)] [0, 6, 23, 24])))))
 (.reg 12 [oQ 46 (.bin .add 24 (cI 1)), oM 24 46] [0, 6, 23, 24])))))))
 (.seq
 (.reg 13 [oM 47 6, oM 2 47, oM 3 (cI 0)] [2, 3])
 .ret))))))
theorem fok47 : FOK Tryz.prog 47 (48, ic47, [(.t 2), (.t 3)]) := fokA [1000042, 2000000] Tryz.func47 (by kernel_rfl) (by kernel_rfl) (by kernel_rfl) (by kernel_rfl)
def ic48 : IC :=
 (.seq
 (.reg 0 [oM 2 (.c .nilslice)] [0])
 (.seq
 (.seq
 (.reg 1 [oM 3 0, oQ 4 (.isnil (.pointer 115) false 3)] [0, 4])
 (.cond 4
 (.seq
 (.reg 2 [oM 2 (.c .nilslice)] [2])
 .ret)
 .skip))
 (.seq
 (.reg 3 [oM 5 0, oQ 6 (.nchk 5), oQ 7 (.faddr 3 6), oQ 8 (.load none 7), oK 9 (.call 79 [8]), oM 2 9] [2])
 .ret)))
theorem fok48 : FOK Tryz.prog 48 (10, ic48, [(.t 2)]) := fokA [2000000] Tryz.func48 (by kernel_rfl) (by kernel_rfl) (by kernel_rfl) (by kernel_rfl)
def ic49 : IC :=
 (.seq
 (.reg 0 [oK 3 (.boxt 1), oM 4 (.c .nilslice), oM 5 (cI 0)] [3])
 (.seq
 (.reg 1 [oQ 6 (.faddr 1 3), oQ 7 (.load none 6), oK 8 (.bslt 1 1 [(zI 0)] [⟨0, ⟨1, 7⟩⟩]), oK 9 (.call 95 [8]), oK 10 (.bslt 1 1 [.nilslice] [⟨0, ⟨1, 9⟩⟩]), oM 4 10, oM 5 (cI 0)] [4, 5])
 .ret))
theorem fok49 : FOK Tryz.prog 49 (11, ic49, [(.t 4), (.t 5)]) := fokA [1000003, 1000008, 1000010, 2000000] Tryz.func49 (by kernel_rfl) (by kernel_rfl) (by kernel_rfl) (by kernel_rfl)
def ic50 : IC :=
 (.seq
 (.reg 0 [oK 3 (.boxt 1), oM 4 (.c .nilslice), oM 5 (cI 0)] [0, 3])
 (.seq
 (.dreg 1 [oM 10 0, oQ 11 (.nchk 10), oQ 12 (.faddr 0 11), oQ 13 (.load none 12), oK 14 (.pcall 40 [13]), oQ 15 (.faddr 1 3), oQ 16 (.load none 15), oK 17 (.pcall 42 [14, 16]), oM 9 17, oQ 18 (.ext 0 9), oQ 19 (.ext 1 9), oK 6 (.alloc [(.str []), (zI 0), (.str []), (.str []), (zU 0), (.str []), .nilslice, .nilslice, .nilslice, .nilslice, .nilslice, .nilslice, .nilslice, .nilslice, .nilslice]), oN (.store 15 6 18), oM 7 19] false [0, 3, 6, 7])
 (.seq
 (.seq
 (.reg 2 [oM 20 7, oQ 21 (.bin .neq 20 (cI 0))] [0, 3, 6, 7, 21])
 (.cond 21
 (.seq
 (.reg 3 [oM 22 7, oM 4 (.c .nilslice), oM 5 22] [4, 5])
 .ret)
 .skip))
 (.seq
 (.dreg 4 [oM 24 0, oQ 25 (.nchk 24), oQ 26 (.faddr 2 25), oQ 27 (.load none 26), oQ 28 (.faddr 7 6), oQ 29 (.load none 28), oQ 30 (.faddr 2 3), oQ 31 (.load none 30), oQ 32 (.iaddr 7 29 31), oQ 33 (.load (some 7) 32), oK 34 (.call 96 [27, 33, (cI (-1))]), oM 23 34, oQ 35 (.ext 0 23), oQ 36 (.ext 1 23), oM 8 35, oM 7 36] false [3, 7, 8])
 (.seq
 (.reg 5 [oQ 37 (.faddr 1 3), oQ 38 (.load none 37), oK 39 (.bslt 1 1 [(zI 0)] [⟨0, ⟨1, 38⟩⟩]), oK 40 (.call 95 [39]), oM 41 8, oK 42 (.bslt 1 1 [(zI 0)] [⟨0, ⟨1, 41⟩⟩]), oK 43 (.app 1 40 42), oK 44 (.bslt 1 1 [.nilslice] [⟨0, ⟨1, 43⟩⟩]), oM 45 7, oM 4 44, oM 5 45] [4, 5])
 .ret)))))
theorem fok50 : FOK Tryz.prog 50 (46, ic50, [(.t 4), (.t 5)]) := fokA [1000003, 1000039, 1000042, 1000044, 2000000, 40, 42] Tryz.func50 (by kernel_rfl) (by kernel_rfl) (by kernel_rfl) (by kernel_rfl)
def ic51 : IC :=
 (.seq
 (.reg 0 [oK 3 (.boxt 1), oM 4 (.c .nilslice), oM 5 (cI 0)] [0, 3])
 (.seq
 (.dreg 1 [oM 10 0, oQ 11 (.nchk 10), oQ 12 (.faddr 0 11), oQ 13 (.load none 12), oK 14 (.pcall 40 [13]), oQ 15 (.faddr 1 3), oQ 16 (.load none 15), oK 17 (.pcall 42 [14, 16]), oM 9 17, oQ 18 (.ext 0 9), oQ 19 (.ext 1 9), oK 6 (.alloc [(.str []), (zI 0), (.str []), (.str []), (zU 0), (.str []), .nilslice, .nilslice, .nilslice, .nilslice, .nilslice, .nilslice, .nilslice, .nilslice, .nilslice]), oN (.store 15 6 18), oM 7 19] false [0, 3, 6, 7])
 (.seq
 (.seq
 (.reg 2 [oM 20 7, oQ 21 (.bin .neq 20 (cI 0))] [0, 3, 6, 7, 21])
 (.cond 21
 (.seq
 (.reg 3 [oM 22 7, oM 4 (.c .nilslice), oM 5 22] [4, 5])
 .ret)
 .skip))
 (.seq
 (.dreg 4 [oM 24 0, oQ 25 (.nchk 24), oQ 26 (.faddr 2 25), oQ 27 (.load none 26), oQ 28 (.faddr 8 6), oQ 29 (.load none 28), oQ 30 (.faddr 2 3), oQ 31 (.load none 30), oQ 32 (.iaddr 7 29 31), oQ 33 (.load (some 7) 32), oQ 34 (.faddr 1 3), oQ 35 (.load none 34), oK 36 (.call 96 [27, 33, 35]), oM 23 36, oQ 37 (.ext 0 23), oQ 38 (.ext 1 23), oM 8 37, oM 7 38] false [3, 7, 8])
 (.seq
 (.reg 5 [oQ 39 (.faddr 1 3), oQ 40 (.load none 39), oK 41 (.bslt 1 1 [(zI 0)] [⟨0, ⟨1, 40⟩⟩]), oK 42 (.call 95 [41]), oM 43 8, oQ 44 (.neg 43), oK 45 (.bslt 1 1 [(zI 0)] [⟨0, ⟨1, 44⟩⟩]), oK 46 (.app 1 42 45), oK 47 (.bslt 1 1 [.nilslice] [⟨0, ⟨1, 46⟩⟩]), oM 48 7, oM 4 47, oM 5 48] [4, 5])
 .ret)))))
theorem fok51 : FOK Tryz.prog 51 (49, ic51, [(.t 4), (.t 5)]) := fokA [1000003, 1000041, 1000045, 1000047, 2000000, 40, 42] Tryz.func51 (by kernel_rfl) (by kernel_rfl) (by kernel_rfl) (by kernel_rfl)
def ic52 : IC :=
 (.seq
 (.reg 0 [oK 3 (.boxt 1), oM 4 (.c .nilslice), oM 5 (cI 0)] [0, 3])
 (.seq
 (.dreg 1 [oM 12 0, oQ 13 (.nchk 12), oQ 14 (.faddr 0 13), oQ 15 (.load none 14), oK 16 (.pcall 40 [15]), oQ 17 (.faddr 1 3), oQ 18 (.load none 17), oK 19 (.pcall 42 [16, 18]), oM 11 19, oQ 20 (.ext 0 11), oQ 21 (.ext 1 11), oK 6 (.alloc [(.str []), (zI 0), (.str []), (.str []), (zU 0), (.str []), .nilslice, .nilslice, .nilslice, .nilslice, .nilslice, .nilslice, .nilslice, .nilslice, .nilslice]), oN (.store 15 6 20), oM 7 21] false [0, 3, 6, 7])
 (.seq
 (.seq
 (.reg 2 [oM 22 7, oQ 23 (.bin .neq 22 (cI 0))] [0, 3, 6, 7, 23])
 (.cond 23
 (.seq
 (.reg 3 [oM 24 7, oM 4 (.c .nilslice), oM 5 24] [4, 5])
 .ret)
 .skip))
 (.seq
 (.reg 4 [oM 8 (.c .nilslice)] [0, 3, 6, 8])
 (.seq
 (.seq
 (.oreg 5 [(0, oM 25 0, 0), (1, oQ 26 (.nchk 25), 0), (2, oQ 27 (.faddr 0 26), 0), (3, oQ 28 (.load none 27), 0), (5, oQ 30 (.faddr 9 6), 0), (6, oQ 31 (.load none 30), 0), (7, oQ 32 (.faddr 2 3), 0), (8, oQ 33 (.load none 32), 0), (9, oQ 34 (.iaddr 5 31 33), 0), (10, oQ 35 (.load (some 5) 34), 0), (13, oM 38 (cI 0), 0), (4, oK 29 (.call 97 [28]), 1344), (11, oK 36 (.call 98 [29, 35]), 0), (12, oQ 37 (.len 0 36), 0)] [3, 8, 36, 37, 38])
 (.block 0
 (.loop
 (.seq
 (.reg 6 [oQ 39 (.bin .lss 38 37)] [3, 8, 36, 37, 38, 39])
 (.seq
 (.cond 39
 .skip
 (.exit 0))
 (.seq
 (.block 1
 (.seq
 (.reg 7 [oQ 40 (.iaddr 1 36 38), oQ 41 (.load none 40), oM 10 41] [3, 8, 10, 36, 37, 38])
 (.seq
 (.reg 8 [oM 42 10, oQ 43 (.faddr 1 3), oQ 44 (.load none 43), oQ 45 (.bin .neq 42 44)] [3, 8, 10, 36, 37, 38, 45])
 (.cond 45
 (.reg 9 [oM 46 8, oQ 47 (.faddr 1 3), oQ 48 (.load none 47), oM 49 10, oK 50 (.bslt 1 2 [(zI 0)] [⟨0, ⟨1, 48⟩⟩, ⟨1, ⟨1, 49⟩⟩]), oK 51 (.call 95 [50]), oK 52 (.bslt 1 1 [.nilslice] [⟨0, ⟨1, 51⟩⟩]), oK 53 (.app 1 46 52), oM 8 53] [3, 8, 36, 37, 38])
 .skip))))
 (.reg 10 [oQ 54 (.bin .add 38 (cI 1)), oM 38 54] [3, 8, 36, 37, 38])))))))
 (.seq
 (.reg 11 [oM 55 8, oM 4 55, oM 5 (cI 0)] [4, 5])
 .ret))))))
theorem fok52 : FOK Tryz.prog 52 (56, ic52, [(.t 4), (.t 5)]) := fokA [1000003, 1000050, 1000052, 2000000, 40, 42] Tryz.func52 (by kernel_rfl) (by kernel_rfl) (by kernel_rfl) (by kernel_rfl)
def ic53 : IC :=
 (.seq
 (.reg 0 [oK 3 (.boxt 1), oM 4 (.c .nilslice), oM 5 (cI 0)] [3])
 (.seq
 (.reg 1 [oQ 6 (.faddr 1 3), oQ 7 (.load none 6), oQ 8 (.faddr 2 3), oQ 9 (.load none 8), oK 10 (.bslt 1 2 [(zI 0)] [⟨0, ⟨1, 7⟩⟩, ⟨1, ⟨1, 9⟩⟩]), oK 11 (.call 95 [10]), oK 12 (.bslt 1 1 [.nilslice] [⟨0, ⟨1, 11⟩⟩]), oM 4 12, oM 5 (cI 0)] [4, 5])
 .ret))
theorem fok53 : FOK Tryz.prog 53 (13, ic53, [(.t 4), (.t 5)]) := fokA [1000003, 1000010, 1000012, 2000000] Tryz.func53 (by kernel_rfl) (by kernel_rfl) (by kernel_rfl) (by kernel_rfl)
def ic54 : IC :=
 (.seq
 (.reg 0 [oK 3 (.boxt 1), oM 4 (.c .nilslice), oM 5 (cI 0)] [0, 3])
 (.seq
 (.dreg 1 [oM 6 0, oQ 7 (.nchk 6), oQ 8 (.faddr 0 7), oQ 9 (.load none 8), oQ 10 (.faddr 1 3), oQ 11 (.load none 10), oK 12 (.call 100 [9, 11]), oK 13 (.call 99 [12]), oK 14 (.bslt 1 1 [.nilslice] [⟨0, ⟨1, 13⟩⟩]), oM 4 14, oM 5 (cI 0)] false [4, 5])
 .ret))
theorem fok54 : FOK Tryz.prog 54 (15, ic54, [(.t 4), (.t 5)]) := fokA [1000003, 1000014, 2000000] Tryz.func54 (by kernel_rfl) (by kernel_rfl) (by kernel_rfl) (by kernel_rfl)
def ic55 : IC :=
 (.seq
 (.reg 0 [oK 3 (.boxt 1), oM 4 (.c .nilslice), oM 5 (cI 0)] [0, 3])
 (.seq
 (.oreg 1 [(0, oM 12 0, 0), (1, oQ 13 (.nchk 12), 0), (2, oQ 14 (.faddr 0 13), 0), (3, oQ 15 (.load none 14), 0), (6, oQ 18 (.faddr 1 3), 0), (7, oQ 19 (.load none 18), 0), (11, oM 23 0, 0), (12, oQ 24 (.nchk 23), 0), (13, oQ 25 (.faddr 0 24), 0), (14, oQ 26 (.load none 25), 0), (15, oQ 27 (.faddr 1 3), 0), (16, oQ 28 (.load none 27), 0), (4, oK 16 (.call 46 [15]), 82048), (5, oQ 17 (.fld none 2 16), 0), (8, oQ 20 (.iaddr 6 17 19), 0), (9, oQ 21 (.faddr 0 20), 0), (10, oQ 22 (.load none 21), 0), (17, oK 29 (.call 101 [26, 28]), 1152), (18, oM 6 22, 0), (19, oM 7 29, 0)] [0, 6, 7])
 (.seq
 (.seq
 (.reg 2 [oM 30 6, oQ 31 (.bin .eql 30 (.c (zU 1)))] [0, 6, 7, 31])
 (.cond 31
 (.seq
 (.reg 3 [oM 32 7, oK 33 (.call 99 [32]), oK 34 (.bslt 1 1 [.nilslice] [⟨0, ⟨1, 33⟩⟩]), oM 4 34, oM 5 (cI 0)] [4, 5])
 .ret)
 .skip))
 (.seq
 (.reg 4 [oM 8 (.c .nilslice)] [0, 6, 7, 8])
 (.seq
 (.seq
 (.reg 5 [oM 35 7, oQ 36 (.len 0 35), oM 37 (cI 0)] [0, 6, 8, 35, 36, 37])
 (.block 0
 (.loop
 (.seq
 (.reg 6 [oQ 38 (.bin .lss 37 36)] [0, 6, 8, 35, 36, 37, 38])
 (.seq
 (.cond 38
 .skip
 (.exit 0))
 (.seq
 (.block 1
 (.seq
 (.reg 7 [oQ 39 (.iaddr 1 35 37), oQ 40 (.load none 39), oM 10 40] [0, 6, 8, 10, 35, 36, 37])
 (.seq
 (.reg 8 [oM 41 10, oK 42 (.bslt 1 1 [(zI 0)] [⟨0, ⟨1, 41⟩⟩]), oK 43 (.call 95 [42]), oM 11 43] [0, 6, 8, 10, 11, 35, 36, 37])
 (.seq
 (.seq
 (.reg 9 [oM 44 6] [0, 6, 8, 10, 11, 35, 36, 37, 44])
 (.block 2
 (.seq
 (.reg 10 [oQ 46 (.bin .eql 44 (.c (zU 3))), oM 45 46] [0, 6, 8, 10, 11, 35, 36, 37, 44, 45])
 (.cond 45
 (.reg 11 [oM 47 0, oQ 48 (.nchk 47), oQ 49 (.faddr 0 48), oQ 50 (.load none 49), oM 51 10, oK 52 (.call 100 [50, 51]), oK 53 (.call 99 [52]), oM 11 53] [0, 6, 8, 11, 35, 36, 37])
 (.seq
 (.reg 12 [oQ 55 (.bin .eql 44 (.c (zU 4))), oM 54 55] [0, 6, 8, 10, 11, 35, 36, 37, 54])
 (.cond 54
 (.seq
 (.reg 13 [oM 56 0, oQ 57 (.nchk 56), oQ 58 (.faddr 0 57), oQ 59 (.load none 58), oM 60 10, oK 61 (.call 102 [59, 60]), oK 62 (.call 99 [61]), oM 11 62] [0, 6, 8, 11, 35, 36, 37])
 (.seq
 (.reg 14 [oM 63 11, oQ 64 (.len 0 63), oQ 65 (.bin .eql 64 (cI 0))] [0, 6, 8, 11, 35, 36, 37, 65])
 (.cond 65
 (.exit 1)
 .skip)))
 .skip))))))
 (.reg 15 [oM 66 8, oM 67 11, oK 68 (.bslt 1 1 [.nilslice] [⟨0, ⟨1, 67⟩⟩]), oK 69 (.app 1 66 68), oM 8 69] [0, 6, 8, 35, 36, 37])))))
 (.reg 16 [oQ 70 (.bin .add 37 (cI 1)), oM 37 70] [0, 6, 8, 35, 36, 37])))))))
 (.seq
 (.reg 17 [oM 71 8, oM 4 71, oM 5 (cI 0)] [4, 5])
 .ret))))))
theorem fok55 : FOK Tryz.prog 55 (72, ic55, [(.t 4), (.t 5)]) := fokA [1000003, 1000034, 1000042, 1000068, 2000000] Tryz.func55 (by kernel_rfl) (by kernel_rfl) (by kernel_rfl) (by kernel_rfl)
def ic56 : IC :=
 (.seq
 (.reg 0 [oM 2 (.c .nilptr), oM 3 (cI 0)] [0])
 (.seq
 (.reg 1 [oM 7 0, oK 8 (.call 103 [7]), oM 6 8, oQ 9 (.ext 0 6), oQ 10 (.ext 1 6), oM 4 9, oM 5 10] [4, 5])
 (.seq
 (.seq
 (.reg 2 [oM 11 5, oQ 12 (.bin .neq 11 (cI 0))] [4, 5, 12])
 (.cond 12
 (.seq
 (.reg 3 [oM 13 5, oM 2 (.c .nilptr), oM 3 13] [2, 3])
 .ret)
 .skip))
 (.seq
 (.reg 4 [oM 14 4, oQ 15 (.bld [.nilptr] [⟨0, ⟨1, 14⟩⟩]), oK 16 .mkmap, oQ 17 (.bld [.nilptr, .nilslice, .nilslice, .nilmap, (zI 0), .nilslice] [⟨0, ⟨1, 15⟩⟩, ⟨3, ⟨1, 16⟩⟩]), oK 18 (.box 17), oM 2 18, oM 3 (cI 0)] [2, 3])
 .ret))))
theorem fok56 : FOK Tryz.prog 56 (19, ic56, [(.t 2), (.t 3)]) := fokA [2000000] Tryz.func56 (by kernel_rfl) (by kernel_rfl) (by kernel_rfl) (by kernel_rfl)
def ic57 : IC :=
 (.seq
 (.reg 0 [oM 4 (cI 0)] [0, 1])
 (.seq
 (.reg 1 [oM 8 0, oQ 9 (.nchk 8), oQ 10 (.faddr 0 9), oQ 11 (.load none 10), oM 12 1, oK 13 (.call 104 [11, 12]), oM 7 13, oQ 14 (.ext 0 7), oQ 15 (.ext 1 7), oM 5 14, oM 6 15] [0, 1, 6])
 (.seq
 (.reg 2 [oM 16 0, oM 17 0, oQ 18 (.nchk 17), oQ 19 (.faddr 2 18), oQ 20 (.load none 19), oM 21 1, oK 22 (.bslt 1 1 [.nilslice] [⟨0, ⟨1, 21⟩⟩]), oK 23 (.app 1 20 22), oQ 24 (.nchk 16), oQ 25 (.faddr 2 24), oN (.store 1 25 23)] [6])
 (.seq
 (.reg 3 [oM 26 6, oM 4 26] [4])
 .ret))))
theorem fok57 : FOK Tryz.prog 57 (27, ic57, [(.t 4)]) := fokA [1000022, 2000000] Tryz.func57 (by kernel_rfl) (by kernel_rfl) (by kernel_rfl) (by kernel_rfl)
def ic58 : IC :=
 (.seq
 (.reg 0 [oM 2 (cI 0), oM 3 (cI 0)] [0])
 (.seq
 (.seq
 (.reg 1 [oM 5 0, oQ 6 (.nchk 5), oQ 7 (.faddr 0 6), oQ 8 (.load none 7), oK 9 (.call 105 [8]), oM 4 9] [0, 4])
 (.seq
 (.reg 2 [oM 10 4, oQ 11 (.bin .geq 10 (cI 0))] [0, 4, 11])
 (.cond 11
 (.seq
 (.reg 3 [oM 12 4, oM 2 (cI 0), oM 3 12] [2, 3])
 .ret)
 .skip)))
 (.seq
 (.block 0
 (.loop
 (.seq
 (.seq
 (.dreg 4 [oM 13 0, oQ 14 (.nchk 13), oQ 15 (.faddr 3 14), oQ 16 (.load none 15), oM 17 0, oQ 18 (.nchk 17), oQ 19 (.faddr 1 18), oQ 20 (.load none 19), oQ 21 (.bin .lss 16 20)] false [0, 21])
 (.cond 21
 .skip
 (.exit 0)))
 (.seq
 (.block 1
 (.seq
 (.dreg 6 [oM 29 0, oQ 30 (.nchk 29), oQ 31 (.faddr 0 30), oQ 32 (.load none 31), oM 33 0, oQ 34 (.nchk 33), oQ 35 (.faddr 3 34), oQ 36 (.load none 35), oQ 37 (.bin .add 36 (cI 1)), oK 38 (.call 63 [32, 37]), oQ 39 (.bin .eql 38 (cI 0))] false [0, 39])
 (.cond 39
 (.seq
 (.dreg 7 [oM 40 0, oQ 41 (.nchk 40), oQ 42 (.faddr 3 41), oQ 43 (.load none 42), oM 2 (cI 1), oM 3 43] false [2, 3])
 .ret)
 .skip)))
 (.reg 5 [oM 22 0, oQ 23 (.nchk 22), oQ 24 (.faddr 3 23), oQ 25 (.load none 24), oQ 26 (.bin .add 25 (cI 1)), oQ 27 (.nchk 22), oQ 28 (.faddr 3 27), oN (.store 1 28 26)] [0])))))
 (.seq
 (.reg 8 [oM 2 (cI 2), oM 3 (cI 0)] [2, 3])
 .ret))))
theorem fok58 : FOK Tryz.prog 58 (44, ic58, [(.t 2), (.t 3)]) := fokA [2000000] Tryz.func58 (by kernel_rfl) (by kernel_rfl) (by kernel_rfl) (by kernel_rfl)
def ic59 : IC :=
 (.seq
 (.reg 0 [oM 4 (cI 0)] [0, 1])
 (.seq
 (.seq
 (.reg 1 [oM 5 0, oQ 6 (.isnil (.pointer 202) false 5)] [0, 1, 6])
 (.cond 6
 (.seq
 (.reg 2 [oM 4 (cI 2)] [4])
 .ret)
 .skip))
 (.seq
 (.reg 3 [oM 7 0, oQ 8 (.nchk 7), oQ 9 (.faddr 0 8), oQ 10 (.faddr 0 9), oQ 11 (.load none 10), oM 12 1, oK 13 (.call 106 [11, 12]), oM 4 13] [4])
 .ret)))
theorem fok59 : FOK Tryz.prog 59 (14, ic59, [(.t 4)]) := fokA [2000000] Tryz.func59 (by kernel_rfl) (by kernel_rfl) (by kernel_rfl) (by kernel_rfl)
def ic60 : IC :=
 (.seq
 (.reg 0 [oM 6 (.c .nilslice), oM 7 (cI 0), oM 8 (.c .nilslice), oM 9 (cI 0)] [0, 1, 2, 6, 7])
 (.seq
 (.block 0
 (.seq
 (.reg 1 [oM 26 0, oQ 27 (.isnil (.pointer 252) false 26), oM 25 27] [0, 1, 2, 6, 7, 25])
 (.cond 25
 (.seq
 (.reg 2 [oM 6 (.c .nilslice), oM 7 (cI 0), oM 8 (.c .nilslice), oM 9 (cI 2)] [6, 7, 8, 9])
 .ret)
 (.seq
 (.reg 3 [oM 29 2, oQ 30 (.bin .lss 29 (cI 0)), oM 31 30, gQ 32 31 false (.mov 2), gQ 33 31 false (.mov 1), gQ 34 31 false (.len 0 33), gQ 35 31 false (.bin .geq 32 34), oQ 36 (.pick 31 (cB true) 35), oM 28 36] [0, 1, 2, 6, 7, 28])
 (.cond 28
 (.seq
 (.reg 4 [oM 6 (.c .nilslice), oM 7 (cI 0), oM 8 (.c .nilslice), oM 9 (cI 1)] [6, 7, 8, 9])
 .ret)
 .skip)))))
 (.seq
 (.reg 5 [oM 37 0, oM 38 1, oM 39 0, oK 40 (.call 107 [39]), oK 41 (.mksl 1 [(zI 0)] 40), oK 42 .mkmap, oQ 43 (.bld [.nilptr, .nilslice, .nilslice, .nilmap] [⟨0, ⟨1, 37⟩⟩, ⟨1, ⟨1, 38⟩⟩, ⟨2, ⟨1, 41⟩⟩, ⟨3, ⟨1, 42⟩⟩]), oK 44 (.box 43), oM 10 44] [0, 1, 2, 6, 7, 10])
 (.seq
 (.seq
 (.reg 6 [oM 45 0, oK 46 (.call 108 [45]), oM 47 (cI 0)] [0, 1, 2, 6, 7, 10, 46, 47])
 (.block 1
 (.loop
 (.seq
 (.reg 7 [oQ 48 (.bin .lss 47 46)] [0, 1, 2, 6, 7, 10, 46, 47, 48])
 (.seq
 (.cond 48
 .skip
 (.exit 1))
 (.seq
 (.block 2
 (.seq
 (.reg 8 [oM 49 47, oM 11 49] [0, 1, 2, 6, 7, 10, 11, 46, 47])
 (.oreg 9 [(0, oM 50 10, 0), (1, oQ 51 (.nchk 50), 0), (2, oQ 52 (.faddr 2 51), 0), (3, oQ 53 (.load none 52), 0), (4, oM 54 0, 0), (5, oM 55 11, 0), (8, oM 58 11, 0), (6, oK 56 (.call 110 [54, 55]), 8), (7, oK 57 (.call 109 [56]), 8), (9, oQ 59 (.iaddr 1 53 57), 0), (10, oN (.store 1 59 58), 0)] [0, 1, 2, 6, 7, 10, 46, 47])))
 (.reg 10 [oQ 60 (.bin .add 47 (cI 1)), oM 47 60] [0, 1, 2, 6, 7, 10, 46, 47])))))))
 (.seq
 (.seq
 (.oreg 11 [(0, oM 61 10, 0), (1, oM 62 1, 0), (2, oM 63 2, 0), (3, oQ 64 (.iaddr 1 62 63), 0), (4, oQ 65 (.load none 64), 0), (5, oM 66 0, 0), (6, oK 67 (.call 108 [66]), 16), (7, oK 68 (.call 111 [61, 65, (cI 0), 67]), 0), (8, oM 12 68, 0)] [0, 1, 2, 6, 7, 10, 12])
 (.seq
 (.reg 12 [oM 69 12, oQ 70 (.bin .neq 69 (cI 0))] [0, 1, 2, 6, 7, 10, 12, 70])
 (.cond 70
 (.seq
 (.reg 13 [oM 71 12, oM 6 (.c .nilslice), oM 7 (cI 0), oM 8 (.c .nilslice), oM 9 71] [6, 7, 8, 9])
 .ret)
 .skip)))
 (.seq
 (.seq
 (.reg 14 [oM 73 10, oK 74 (.call 112 [73]), oM 72 74, oQ 75 (.ext 0 72), oQ 76 (.ext 1 72), oM 13 75, oM 14 76] [0, 1, 2, 6, 7, 10, 14])
 (.seq
 (.reg 15 [oM 77 14, oQ 78 (.bin .eql 77 (cI 0)), oM 79 78, gQ 80 79 true (.mov 0), gK 81 79 true (.call 113 [80]), gQ 82 79 true (.bin .gtr 81 (cI 0)), oQ 83 (.pick 79 82 (cB false))] [0, 1, 2, 6, 7, 10, 83])
 (.cond 83
 (.seq
 (.reg 16 [oM 6 (.c .nilslice), oM 7 (cI 0), oM 8 (.c .nilslice), oM 9 (cI 7)] [6, 7, 8, 9])
 .ret)
 .skip)))
 (.seq
 (.reg 17 [oM 84 2, oK 85 (.bsl 1 1 [(zI 0)] [⟨0, ⟨1, 84⟩⟩]), oM 8 85] [0, 1, 6, 7, 8, 10])
 (.seq
 (.block 3
 (.loop
 (.block 4
 (.seq
 (.reg 18 [oM 87 10, oK 88 (.call 112 [87]), oM 86 88, oQ 89 (.ext 0 86), oQ 90 (.ext 1 86), oM 15 89, oM 16 90] [0, 1, 6, 7, 8, 10, 15, 16])
 (.seq
 (.seq
 (.reg 19 [oM 91 16, oQ 92 (.bin .eql 91 (cI 0)), oM 93 92, gQ 94 93 true (.mov 0), gK 95 93 true (.call 113 [94]), gQ 96 93 true (.bin .eql 95 (cI 0)), oQ 97 (.pick 93 96 (cB false))] [0, 1, 6, 7, 8, 10, 15, 16, 97])
 (.cond 97
 (.seq
 (.reg 20 [oM 98 8, oM 6 (.c .nilslice), oM 7 (cI (-1)), oM 8 98, oM 9 (cI 0)] [6, 7, 8, 9])
 .ret)
 .skip))
 (.seq
 (.seq
 (.reg 21 [oM 99 16, oQ 100 (.bin .eql 99 (cI 1)), oM 101 100, gQ 102 101 true (.mov 0), gK 103 101 true (.call 113 [102]), gQ 104 101 true (.bin .gtr 103 (cI 0)), oQ 105 (.pick 101 104 (cB false))] [0, 1, 6, 7, 8, 10, 15, 105])
 (.cond 105
 (.exit 3)
 .skip))
 (.seq
 (.reg 22 [oM 106 0, oM 107 15, oK 108 (.call 110 [106, 107]), oM 17 108] [0, 1, 6, 7, 8, 10, 15, 17])
 (.seq
 (.reg 23 [oM 109 0, oM 110 17, oK 111 (.call 109 [110]), oK 112 (.call 114 [109, 111]), oM 18 112] [0, 1, 6, 7, 8, 10, 15, 17, 18])
 (.seq
 (.seq
 (.reg 24 [oM 113 18, oQ 114 (.bin .lss 113 (cI 0)), oM 115 114, gQ 116 115 false (.mov 18), gQ 117 115 false (.mov 1), gQ 118 115 false (.len 0 117), gQ 119 115 false (.bin .geq 116 118), oQ 120 (.pick 115 (cB true) 119)] [0, 1, 6, 7, 8, 10, 15, 17, 18, 120])
 (.cond 120
 (.seq
 (.reg 25 [oM 6 (.c .nilslice), oM 7 (cI 0), oM 8 (.c .nilslice), oM 9 (cI 7)] [6, 7, 8, 9])
 .ret)
 .skip))
 (.seq
 (.reg 26 [oM 121 10, oQ 122 (.nchk 121), oQ 123 (.faddr 3 122), oQ 124 (.load none 123), oM 125 15, oN (.st (.mdel 1) [124, 125])] [0, 1, 6, 7, 8, 10, 15, 17, 18])
 (.seq
 (.seq
 (.reg 27 [oM 126 10, oM 127 1, oM 128 18, oQ 129 (.iaddr 1 127 128), oQ 130 (.load none 129), oM 131 17, oM 132 15, oK 133 (.call 111 [126, 130, 131, 132]), oM 19 133] [0, 1, 6, 7, 8, 10, 18, 19])
 (.seq
 (.reg 28 [oM 134 19, oQ 135 (.bin .neq 134 (cI 0))] [0, 1, 6, 7, 8, 10, 18, 19, 135])
 (.cond 135
 (.seq
 (.reg 29 [oM 136 19, oM 6 (.c .nilslice), oM 7 (cI 0), oM 8 (.c .nilslice), oM 9 136] [6, 7, 8, 9])
 .ret)
 .skip)))
 (.reg 30 [oM 137 8, oM 138 18, oK 139 (.bslt 1 1 [(zI 0)] [⟨0, ⟨1, 138⟩⟩]), oK 140 (.app 1 137 139), oM 8 140] [0, 1, 6, 7, 8, 10]))))))))))))
 (.seq
 (.seq
 (.reg 31 [oM 141 0, oK 142 (.call 108 [141]), oM 143 (cI 0)] [0, 6, 7, 8, 10, 142, 143])
 (.block 5
 (.loop
 (.seq
 (.reg 32 [oQ 144 (.bin .lss 143 142)] [0, 6, 7, 8, 10, 142, 143, 144])
 (.seq
 (.cond 144
 .skip
 (.exit 5))
 (.seq
 (.block 6
 (.seq
 (.reg 33 [oM 145 143, oM 20 145] [0, 6, 7, 8, 10, 20, 142, 143])
 (.seq
 (.oreg 34 [(0, oM 147 10, 0), (1, oQ 148 (.nchk 147), 0), (2, oQ 149 (.faddr 3 148), 0), (3, oQ 150 (.load none 149), 0), (4, oM 151 0, 0), (7, oM 154 20, 0), (5, oK 152 (.call 108 [151]), 8), (6, oQ 153 (.bin .sub 152 (cI 1)), 0), (8, oQ 155 (.bin .sub 153 154), 0), (9, oQ 156 (.lkp 1 (zI 0) true 150 155), 0), (10, oM 146 156, 0), (11, oQ 157 (.ext 0 146), 0), (12, oQ 158 (.ext 1 146), 0), (13, oM 21 157, 0), (14, oM 22 158, 0)] [0, 6, 7, 8, 10, 21, 22, 142, 143])
 (.seq
 (.reg 35 [oM 159 22] [0, 6, 7, 8, 10, 21, 142, 143, 159])
 (.cond 159
 (.reg 36 [oM 160 6, oM 161 21, oK 162 (.bslt 1 1 [(zI 0)] [⟨0, ⟨1, 161⟩⟩]), oK 163 (.app 1 160 162), oM 6 163] [0, 6, 7, 8, 10, 142, 143])
 .skip)))))
 (.reg 37 [oQ 164 (.bin .add 143 (cI 1)), oM 143 164] [0, 6, 7, 8, 10, 142, 143])))))))
 (.seq
 (.seq
 (.reg 38 [oM 165 6, oQ 166 (.slc 1 165 (some (cI 1)) none), oQ 167 (.len 0 166), oM 168 (cI 0)] [0, 6, 7, 8, 166, 167, 168])
 (.block 7
 (.loop
 (.seq
 (.reg 39 [oQ 169 (.bin .lss 168 167)] [0, 6, 7, 8, 166, 167, 168, 169])
 (.seq
 (.cond 169
 .skip
 (.exit 7))
 (.seq
 (.block 8
 (.seq
 (.reg 40 [oQ 170 (.iaddr 1 166 168), oQ 171 (.load none 170), oM 24 171] [0, 6, 7, 8, 24, 166, 167, 168])
 (.reg 41 [oM 172 7, oM 173 0, oM 174 24, oK 175 (.call 109 [174]), oK 176 (.call 115 [173, 175]), oQ 177 (.mm true 172 176), oM 7 177] [0, 6, 7, 8, 166, 167, 168])))
 (.reg 42 [oQ 178 (.bin .add 168 (cI 1)), oM 168 178] [0, 6, 7, 8, 166, 167, 168])))))))
 (.seq
 (.reg 43 [oM 179 6, oM 180 7, oM 181 8, oM 6 179, oM 7 180, oM 8 181, oM 9 (cI 0)] [6, 7, 8, 9])
 .ret)))))))))))
theorem fok60 : FOK Tryz.prog 60 (182, ic60, [(.t 6), (.t 7), (.t 8), (.t 9)]) := fokA [1000139, 1000162, 2000000] Tryz.func60 (by kernel_rfl) (by kernel_rfl) (by kernel_rfl) (by kernel_rfl)
def ic61 : IC :=
 (.seq
 (.reg 0 [oM 2 (.c .nilptr)] [0])
 (.seq
 (.seq
 (.reg 1 [oM 3 0, oQ 4 (.isnil (.pointer 202) false 3)] [0, 4])
 (.cond 4
 (.seq
 (.reg 2 [oM 2 (.c .nilptr)] [2])
 .ret)
 .skip))
 (.seq
 (.reg 3 [oM 5 0, oQ 6 (.nchk 5), oQ 7 (.faddr 0 6), oQ 8 (.faddr 0 7), oQ 9 (.load none 8), oK 10 (.call 116 [9]), oM 2 10] [2])
 .ret)))
theorem fok61 : FOK Tryz.prog 61 (11, ic61, [(.t 2)]) := fokA [2000000] Tryz.func61 (by kernel_rfl) (by kernel_rfl) (by kernel_rfl) (by kernel_rfl)
end Go.Id.Tryz
