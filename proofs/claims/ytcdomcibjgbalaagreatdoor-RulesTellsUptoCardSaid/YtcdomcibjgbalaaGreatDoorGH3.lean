/- The compiled codes of functions,written by a program out of the given form. Conditions: none. -/
import Derived.Test.YtcdomcibjgbalaaGreatDoorGHR
import Derived.Test.YtcdomcibjgbalaaGreatDoorFwRo
import Derived.Test.YtcdomcibjgbalaaGreatDoorProg
set_option linter.all false
namespace Go.Id.Tryz
open Go Go.Id Go.Proofs
def kw9:List Nat:=List.range 311
def ic233:IC:=dC rt 37 0x41b82aa2031d050b1d050d24b7792cd30638 [q1]
theorem fok233:FOK Tryz.prog 233 (7,ic233,[(.t 3)]):=ae2 [1000002] Tryz.func233
def ic234:IC:=dC rt 53 0x76a2aeacfc79cf49734438 []
theorem fok234:FOK Tryz.prog 234 (9,ic234,[(.t 4)]):=ae2 [] Tryz.func234
def ic235:IC:=dC rt 31 0x862a68008080652719080e780438 [.k (.q (.bld [zI 0,zI 0,zI 0,zI 0,zI 0,zI 0,zI 0,zI 0,zI 0,zI 0,zI 0,zI 0,zI 0,zI 0,zI 0,zI 0,zI 0,zI 0,zI 0,zI 0,zI 0,zI 0,zI 0,zI 0,zI 0] [⟨10,⟨5,.t 1⟩⟩,⟨15,⟨5,.t 2⟩⟩,⟨20,⟨5,.t 3⟩⟩])),.k (.q (.bld [zI 0,zI 0,zI 0,zI 0,zI 0] [⟨1,⟨1,cI 2⟩⟩,⟨4,⟨1,cI 1⟩⟩])),.k (.q (.bld [zI 0,zI 0,zI 0,zI 0,zI 0] [⟨1,⟨1,cI 2⟩⟩,⟨3,⟨1,cI 1⟩⟩])),.k (.q (.bld [zI 0,zI 0,zI 0,zI 0,zI 0] [⟨1,⟨1,cI 2⟩⟩,⟨2,⟨1,cI 1⟩⟩,⟨3,⟨1,cI 3⟩⟩])),.k (.alloc [zI 0,zI 0,zI 0,zI 0,zI 0,zI 0,zI 0,zI 0,zI 0,zI 0,zI 0,zI 0,zI 0,zI 0,zI 0,zI 0,zI 0,zI 0,zI 0,zI 0,zI 0,zI 0,zI 0,zI 0,zI 0])]
theorem fok235:FOK Tryz.prog 235 (5,ic235,[(.cell (some 25) 0)]):=ae2 [] Tryz.func235
def ic236:IC:=dC rt 29 0x8616146802c224fd5c8a6538 []
theorem fok236:FOK Tryz.prog 236 (5,ic236,[(.t 2)]):=ae2 [] Tryz.func236
def ic237:IC:=dC rt 34 0x76a203160d1c0d18004c2cd30638 []
theorem fok237:FOK Tryz.prog 237 (7,ic237,[(.t 3)]):=ae2 [] Tryz.func237
def ic238:IC:=dC rt 190 0xf2685d5a2d034a6acc0867ce410303067c48a848a904036b7c84fd43ba310503cc0842037480d6ca2c03310603067ca5446e44410702aa961281 [.k (.aj3 1 1 [zI 0] [⟨0,⟨1,.t 14⟩⟩]),.k (.q (.neg T13)),q0,q0]
theorem fok238:FOK Tryz.prog 238 (19,ic238,[(.t 2)]):=ae2 [1000015] Tryz.func238
def ic239:IC:=dC rt 119 0x86526800c266f37f561fb61ab2c3480b950002029459435b94f360f8961381 []
theorem fok239:FOK Tryz.prog 239 (20,ic239,[(.t 2)]):=ae2 [] Tryz.func239
def ic240:IC:=dC rt 39 0x41b82aa203bb0c1d070c24d6792cd30638 [q1]
theorem fok240:FOK Tryz.prog 240 (7,ic240,[(.t 3)]):=ae2 [1000002] Tryz.func240
def ic241:IC:=dC rt 43 0x41b82aa203bb0c1d070c24d679882cd3f0 [q1]
theorem fok241:FOK Tryz.prog 241 (8,ic241,[(.t 3)]):=ae2 [1000002] Tryz.func241
def ic242:IC:=dC rt 35 0x8616130068022a160d7f562a960638 [.k (.q (.idx none 3 1 T3 T5)),.k (.q (.bld [zU 0,zU 0,zU 0] [⟨0,⟨1,.c (zU 1)⟩⟩,⟨1,⟨1,.c (zU 2)⟩⟩,⟨2,⟨1,.c (zU 4)⟩⟩]))]
theorem fok242:FOK Tryz.prog 242 (7,ic242,[(.t 2)]):=ae2 [] Tryz.func242
def ic243:IC:=dC rt 24 0x41452a5a68022a960338 [.k (.q (.mkf 254 [] [.t 1])),q17,q1]
theorem fok243:FOK Tryz.prog 243 (4,ic243,[(.t 2)]):=ae2 [1000001] Tryz.func243
def ic244:IC:=dC rt 218 0x8652685d7e034a6acc0867ce410303067c48a848a904036b7c84fd43ba4105036b7c0edbaa18034c470e4d0602748ac70703067ca5446e44414402aa961181 []
theorem fok244:FOK Tryz.prog 244 (18,ic244,[(.t 2)]):=ae2 [] Tryz.func244
def ic245:IC:=dC rt 297 0x76e268984b240101090aba99456bac0101090ab74a0345060bdb4751ed0c42062d5f470c4d0504e2700604e3c507450d42062d58470df904165665c5484510676218014c2d6f47104d5304e3c55113676218054c2d137d134d5f04165665705804e238 [q4,q4]
theorem fok245:FOK Tryz.prog 245 (20,ic245,[(.t 4)]):=ae2 [] Tryz.func245
def ic246:IC:=dC rt 297 0x76e268984b240102090aba99456bac0102090ab74a0345060bdb4751ed0c42062d5f470c4d0504e2700604e3c507450d42062d58470df904165665c5484510676218014c2d6f47104d5304e3c55113676218054c2d137d134d5f04165665705804e238 [q4,q4]
theorem fok246:FOK Tryz.prog 246 (20,ic246,[(.t 4)]):=ae2 [] Tryz.func246
def ic252:IC:=dC rt 224 0x76e2f1070867ce99457c48a848a903987cfeba4104987c10d14b74b37b00f847104d05047469c706457ca5446e442d12e704e338 [q4]
theorem fok252:FOK Tryz.prog 252 (19,ic252,[(.t 4)]):=ae2 [] Tryz.func252
def ic253:IC:=dC rt 31 0x8616146802c2240104090a12538a6538 []
theorem fok253:FOK Tryz.prog 253 (5,ic253,[(.t 2)]):=ae2 [] Tryz.func253
def ic254:IC:=dC rt 503 0x76037e038cf10348c21c9ce91801634748893501994503041c9caa1e4c25ff5ca45eef27020e040e0e4d0345038baabaed45038baa9d033502363395cb45038b23088f047b9f130450aa1c9ce91801632205501c9caa1e4c25ff085778047b006322444723086d026c0339310645038baa9d034a0745038b28088f047b9f13044728c1444503041c9c74aa2a8d04c32d5c394a4845030430088f047b4613054730c1534503048d04ad0100090a158d04c3345c39415145033d088f047b7a1300821d020e04264c8822e13d7d3d0855 [.x (.c (.str [48])),.k (.q (.gl3 T41 (some T42) (some T43))),.k (.alloc [zU 0,.str []]),.k (.q (.bld [zU 0,.str []] [⟨0,⟨1,.t 13⟩⟩]))]
theorem fok254:FOK Tryz.prog 254 (62,ic254,[]):=ae2 ([]++[255]) Tryz.func254 (by kernel_rfl) (by kernel_rfl) (by kernel_rfl) (by kernel_rfl)
def ic255:IC:=dC rt 280 0x861613008e6c00685d160dd77e082cd3054703ee1613018e384103c04bd75e08b72d4447064104021613038e384105000967cf1361088218a6137a08e482cf1341084e30034b18a6135a08e423072c482d177d484106021613048e3841071867cf1330088218a6133908e42c18711e7d18f9021613058e7048021613008e38 []
theorem fok255:FOK Tryz.prog 255 (31,ic255,[(.t 2)]):=ae2 [] Tryz.func255
def ic256:IC:=dC rt 297 0x76161465f10c679a1450629a14f4470c4d02ae69c5034515d1e99a5650621e0a4987138008220447154d04ae621e0a492401050963731908c505456bac0106090a2c1a0820000c20010d2d1e082a27010009d40e1d421e71064106981f4206471fe7ae240107090ad4697044aeac0108094c732481 [.k (.alloc [.bool false,.bool false,.bool false,.bool false,.bool false,.bool false,.bool false,.bool false,.bool false,.bool false,.bool false,.bool false,.bool false,.bool false,.bool false,.bool false,.bool false,.bool false,.bool false,.bool false,.bool false,.bool false,.bool false,.bool false,.bool false,.bool false,.bool false,.bool false,.bool false,.bool false,.bool false,.bool false,.bool false,.bool false,.bool false,.bool false,.bool false,.bool false,.bool false,.bool false,.bool false,.bool false,.bool false,.bool false,.bool false,.bool false,.bool false,.bool false,.bool false,.bool false,.bool false,.bool false,.bool false,.bool false,.bool false,.bool false,.bool false,.bool false,.bool false,.bool false,.bool false,.bool false,.bool false,.bool false,.bool false,.bool false,.bool false,.bool false,.bool false,.bool false,.bool false,.bool false,.bool false,.bool false,.bool false,.bool false,.bool false,.bool false,.bool false,.bool false,.bool false,.bool false,.bool false,.bool false,.bool false,.bool false,.bool false,.bool false,.bool false,.bool false,.bool false,.bool false,.bool false,.bool false,.bool false,.bool false,.bool false,.bool false,.bool false,.bool false,.bool false,.bool false,.bool false,.bool false,.bool false,.bool false,.bool false,.bool false,.bool false,.bool false,.bool false,.bool false,.bool false,.bool false,.bool false,.bool false,.bool false,.bool false,.bool false,.bool false,.bool false,.bool false,.bool false,.bool false,.bool false,.bool false,.bool false,.bool false,.bool false,.bool false,.bool false,.bool false,.bool false,.bool false,.bool false,.bool false,.bool false,.bool false,.bool false,.bool false,.bool false,.bool false,.bool false,.bool false,.bool false,.bool false,.bool false,.bool false,.bool false,.bool false,.bool false,.bool false,.bool false,.bool false,.bool false,.bool false,.bool false,.bool false,.bool false,.bool false,.bool false,.bool false,.bool false,.bool false,.bool false,.bool false,.bool false,.bool false,.bool false,.bool false,.bool false,.bool false,.bool false,.bool false,.bool false,.bool false,.bool false,.bool false,.bool false,.bool false,.bool false,.bool false,.bool false,.bool false,.bool false,.bool false,.bool false,.bool false,.bool false,.bool false,.bool false,.bool false,.bool false,.bool false,.bool false,.bool false,.bool false,.bool false,.bool false,.bool false,.bool false,.bool false,.bool false,.bool false,.bool false,.bool false,.bool false,.bool false,.bool false,.bool false,.bool false,.bool false,.bool false,.bool false,.bool false,.bool false,.bool false,.bool false,.bool false,.bool false,.bool false,.bool false,.bool false,.bool false,.bool false,.bool false,.bool false,.bool false,.bool false,.bool false,.bool false,.bool false,.bool false,.bool false,.bool false,.bool false,.bool false,.bool false,.bool false,.bool false,.bool false,.bool false,.bool false,.bool false,.bool false,.bool false,.bool false,.bool false,.bool false,.bool false,.bool false,.bool false,.bool false,.bool false,.bool false,.bool false])]
theorem fok256:FOK Tryz.prog 256 (37,ic256,[(.t 4)]):=ae2 [] Tryz.func256
def ic257:IC:=dC rt 34 0x86a202c2160d18034c960538 []
theorem fok257:FOK Tryz.prog 257 (6,ic257,[(.t 2)]):=ae2 [] Tryz.func257
def ic258:IC:=dC rt 34 0x86a202c2160d18034c960538 []
theorem fok258:FOK Tryz.prog 258 (6,ic258,[(.t 2)]):=ae2 [] Tryz.func258
def ic260:IC:=dC rt 436 0x76161465f10bd19a12534751c6001167180612468287126408e447114d03ae240109090a73907004cba4054105006b4b2ab74a06006b176787fcbf3107006b9b2ab7394144006b079b24010a090a2c074148cb078360560a2a9b24010b094c4a530507226787fc224d51072ac32308132d4d5f048360560a80697058048360560a80732b08705e09672a624b874924010c09150d63102cf520000f0720642c7134423342347148414f044048733581 [q0,.k (.q (.conv .u64 T45)),q10,q10,q10,q10,.k (.q (.ei5 24 1 T5 (cI 0))),q10,.k (.q (.neg T24)),.k (.q (.conv .u64 T20)),.k (.alloc [zU 0,zU 0,zU 0,zU 0,zU 0,zU 0,zU 0,zU 0,zU 0,zU 0,zU 0,zU 0,zU 0,zU 0,zU 0,zU 0,zU 0,zU 0,zU 0,zU 0,zU 0,zU 0,zU 0,zU 0])]
theorem fok260:FOK Tryz.prog 260 (54,ic260,[(.t 4)]):=ae2 [] Tryz.func260
def ic261:IC:=dC rt 118 0x7616146c0036f10d67e9187249821e0a496218004c220547588935013102454b2a2c004103ae736f38 [.k (.q (.gl3 T14 (some (cI 1)) none))]
theorem fok261:FOK Tryz.prog 261 (17,ic261,[(.t 4)]):=ae2 [] Tryz.func261
def ic265:IC:=dC rt 111 0x86161477b5c28712534704ee4b4b7f562a8ab9024b18440a12024b18440a12027f12022a965e38 [.k (.q (.gl3 (.c (.str [48,48,48,49,48,50,48,51,48,52,48,53,48,54,48,55,48,56,48,57,49,48,49,49,49,50,49,51,49,52,49,53,49,54,49,55,49,56,49,57,50,48,50,49,50,50,50,51,50,52,50,53,50,54,50,55,50,56,50,57,51,48,51,49,51,50,51,51,51,52,51,53,51,54,51,55,51,56,51,57,52,48,52,49,52,50,52,51,52,52,52,53,52,54,52,55,52,56,52,57,53,48,53,49,53,50,53,51,53,52,53,53,53,54,53,55,53,56,53,57,54,48,54,49,54,50,54,51,54,52,54,53,54,54,54,55,54,56,54,57,55,48,55,49,55,50,55,51,55,52,55,53,55,54,55,55,55,56,55,57,56,48,56,49,56,50,56,51,56,52,56,53,56,54,56,55,56,56,56,57,57,48,57,49,57,50,57,51,57,52,57,53,57,54,57,55,57,56,57,57])) (some T10) (some T13))),.k (.q (.gl3 (.c (.str [48,49,50,51,52,53,54,55,56,57,97,98,99,100,101,102,103,104,105,106,107,108,109,110,111,112,113,114,115,116,117,118,119,120,121,122])) (some T5) (some T7)))]
theorem fok265:FOK Tryz.prog 265 (15,ic265,[(.t 2)]):=ae2 [] Tryz.func265
end Go.Id.Tryz
