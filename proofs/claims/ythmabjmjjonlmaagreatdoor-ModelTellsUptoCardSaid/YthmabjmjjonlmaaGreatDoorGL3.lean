/- The compiled codes of functions,written by a program out of the given form. Conditions: none. -/
import Derived.Test.YthmabjmjjonlmaaGreatDoorGLR
import Derived.Test.YthmabjmjjonlmaaGreatDoorProg
set_option linter.all false
namespace Go.Id.Tryz
open Go Go.Id Go.Proofs
def kl6:List Nat:=List.range 328
def ic241:IC:=dC rt 311 0x535d8650627d5d54710d4218499207af004f71b318499207af0023bc544a0fd2b61162e15d05ab77b1570280b1b58efc2c05ea5d05164d05794e4a164c050471db71b318498918499207ae92006552c6060471db812a25010f090a18490d0aae92004f71b38125010f090a184989ae92002307782c83 [.k (.q (.neg T32)),q3,q0]
theorem fok241:FOK Tryz.prog 241 (45,ic241,[(.t 4)]):=ad8 ([1000002,1000003]++[271]) Tryz.func241 (by kernel_rfl) (by kernel_rfl) (by kernel_rfl) (by kernel_rfl)
def ic242:IC:=dC rt 39 0x53640486610445b10cad0727050e04f938 [q29,q8,q3]
theorem fok242:FOK Tryz.prog 242 (8,ic242,[(.cell (some 5) 4)]):=ad8 [1000003] Tryz.func242
def ic243:IC:=dC rt 213 0x53642ae87d64704558c39f647049cf49bb03640570160b2c05c6046405706e1d028045811b02461d020a2a4a104c05048165b0066470c943c5fb12de04f838 [q4,.k (.q (.eqs [1,1] true false T11 T15)),q3]
theorem fok243:FOK Tryz.prog 243 (19,ic243,[(.t 4)]):=ad8 [1000003] Tryz.func243
def ic244:IC:=dC rt 34 0xb78802160c160dae46a20538 []
theorem fok244:FOK Tryz.prog 244 (6,ic244,[(.t 2)]):=ad8 [] Tryz.func244
def ic245:IC:=dC rt 67 0xb7026861005dad03d95d0645240110096906873b4105021c80a25f38 [.c (.by1 T6 [7] (.reg 3 [oK 4 (.alloc [zU 0,.str []]),oN (.store 2 T4 T7)] [3,4]) (.block 1 (.reg 4 [oQ 8 (.load none T3),oQ 9 (.load (some 2) T4),oK 10 (.ar9 2 1 [zU 0,.str []] [⟨0,⟨2,.t 9⟩⟩]),oK 11 (.app 2 T8 T10),oN (.store 1 T3 T11)] []))),.k (.alloc [.aa1]),q1]
theorem fok245:FOK Tryz.prog 245 (13,ic245,[(.t 2)]):=ad8 [1000010] Tryz.func245
def ic246:IC:=dC rt 203 0x535d8655615d0555d95d0567730d42af054f73b3af05ed4a6731035d0571db19015701b31901b5ca080d0a2c0539c6040473db73b325011209898171db71b325011309892a250111090a782183 [.k (.ar9 1 3 [zI 0] [⟨0,⟨1,.t 25⟩⟩,⟨1,⟨1,.t 26⟩⟩,⟨2,⟨1,.t 31⟩⟩]),q3,q0]
theorem fok246:FOK Tryz.prog 246 (34,ic246,[(.t 4)]):=ad8 ([1000002,1000003,1000032]++[273,274,275]) Tryz.func246 (by kernel_rfl) (by kernel_rfl) (by kernel_rfl) (by kernel_rfl)
def ic247:IC:=dC rt 41 0xa5da8803c00ce50c2489722c038d38 [q0]
theorem fok247:FOK Tryz.prog 247 (7,ic247,[(.t 3)]):=ad8 [1000002] Tryz.func247
def ic259:IC:=dC rt 38 0x7588031c0c452473722c038d38 []
theorem fok259:FOK Tryz.prog 259 (7,ic259,[(.t 3)]):=ad8 [] Tryz.func259
def ic260:IC:=dC rt 41 0x7588031c0c45248a727c2cdf0738 []
theorem fok260:FOK Tryz.prog 260 (8,ic260,[(.t 3)]):=ad8 [] Tryz.func260
def ic261:IC:=dC rt 64 0x7588031c0c45248a724f1c5a452478727c23052cdf5f38 []
theorem fok261:FOK Tryz.prog 261 (13,ic261,[(.t 3)]):=ad8 [] Tryz.func261
def ic262:IC:=dC rt 219 0x75e8eb704558c39f447049cf49bb035e70160b2c0541045e70104d0145811b05461d7e26b94a104c05048165b0064470c943c5fb12de04f838 [q4]
theorem fok262:FOK Tryz.prog 262 (19,ic262,[(.t 4)]):=ad8 [] Tryz.func262
def ic263:IC:=dC rt 219 0x75e8eb704558c39f447049cf49bb035e70160b2c0541045e70104d014581c1464226b94a104c05048165b0064470c943c5fb12de04f838 [q4]
theorem fok263:FOK Tryz.prog 263 (19,ic263,[(.t 4)]):=ad8 [] Tryz.func263
def ic264:IC:=dC rt 220 0x75e8eb704558c39f447049cf49bb035e70160b2c0541045e70104d014581c446990a26b94a104c05048165b0064470c943c5fb12de04f838 [q4]
theorem fok264:FOK Tryz.prog 264 (19,ic264,[(.t 4)]):=ad8 [] Tryz.func264
def ic265:IC:=dC rt 374 0xa55d042a62502d077de0040e4d02990e0456260c461769664a0ed207502d07e1e004564f730e0442af06f34f730e0442af07f32c01eae01b08cb1d089e0e044258c34105e01b08cb1d081e08cf1e08bb06e0491b08cb1d08c40d0b99692008ad4927070e490e20dee01b08cb1d0826081c80990e4956f6260d0c461769267626e607502d07b049e01b08cb1d08c91d08c51db4274c5107dd2d0738 [q7,q0]
theorem fok265:FOK Tryz.prog 265 (40,ic265,[(.t 7)]):=ad8 [1000004] Tryz.func265
def ic266:IC:=dC rt 21 0x31001c0c990c45260c0b106907 []
theorem fok266:FOK Tryz.prog 266 (8,ic266,[]):=ad8 [] Tryz.func266
def ic268:IC:=dC rt 31 0xb72a610086866227c70e000e0438 [.k (.q (.bld [zI 0,zI 0,zI 0,zI 0,zI 0,zI 0,zI 0,zI 0,zI 0,zI 0,zI 0,zI 0,zI 0,zI 0,zI 0,zI 0,zI 0,zI 0,zI 0,zI 0,zI 0,zI 0,zI 0,zI 0,zI 0] [⟨10,⟨5,.t 1⟩⟩,⟨15,⟨5,.t 2⟩⟩,⟨20,⟨5,.t 3⟩⟩])),.k (.q (.bld [zI 0,zI 0,zI 0,zI 0,zI 0] [⟨1,⟨1,cI 2⟩⟩,⟨4,⟨1,cI 1⟩⟩])),.k (.q (.bld [zI 0,zI 0,zI 0,zI 0,zI 0] [⟨1,⟨1,cI 2⟩⟩,⟨3,⟨1,cI 1⟩⟩])),.k (.q (.bld [zI 0,zI 0,zI 0,zI 0,zI 0] [⟨1,⟨1,cI 2⟩⟩,⟨2,⟨1,cI 1⟩⟩,⟨3,⟨1,cI 3⟩⟩])),.k (.alloc [zI 0,zI 0,zI 0,zI 0,zI 0,zI 0,zI 0,zI 0,zI 0,zI 0,zI 0,zI 0,zI 0,zI 0,zI 0,zI 0,zI 0,zI 0,zI 0,zI 0,zI 0,zI 0,zI 0,zI 0,zI 0])]
theorem fok268:FOK Tryz.prog 268 (5,ic268,[(.cell (some 25) 0)]):=ad8 [] Tryz.func268
def ic269:IC:=dC rt 46 0x535dad038805c00ce57724010e09462cbcf1 [q0]
theorem fok269:FOK Tryz.prog 269 (9,ic269,[(.t 5)]):=ad8 [1000003] Tryz.func269
def ic270:IC:=dC rt 154 0x535d86507d5d67c00ce50c2489724f9edb2a24d97223bc674a0dd2b6116285a171b3af004f1a66db73b324011a09892206781783 [.k (.q (.mkf 281 [] [.t 3])),q3,q0]
theorem fok270:FOK Tryz.prog 270 (24,ic270,[(.t 4)]):=ad8 [1000002,1000003] Tryz.func270
def ic271:IC:=dC rt 35 0xb716130061da160d82012a2c028d38 [.k (.q (.idx none 3 1 T3 T5)),.k (.q (.bld [zU 0,zU 0,zU 0] [⟨0,⟨1,.c (zU 1)⟩⟩,⟨1,⟨1,.c (zU 2)⟩⟩,⟨2,⟨1,.c (zU 4)⟩⟩]))]
theorem fok271:FOK Tryz.prog 271 (7,ic271,[(.t 2)]):=ad8 [] Tryz.func271
def ic272:IC:=dC rt 26 0xa52a6861daa20338 [.k (.q (.mkf 283 [] [.t 1])),q17,q0]
theorem fok272:FOK Tryz.prog 272 (4,ic272,[(.t 2)]):=ad8 [1000001] Tryz.func272
def ic273:IC:=dC rt 214 0xb7556164a003475d06704558c3410303067049cf49bb0403b870c10d0b422c05410503b8700e4d059aae464a0e4c0602812c02b007030670c943c5434143029aa21183 []
theorem fok273:FOK Tryz.prog 273 (18,ic273,[(.t 2)]):=ad8 [] Tryz.func273
def ic274:IC:=dC rt 300 0x75e8615e4524011e090a2c059fd75624011e090a2c06470344060b4d054a5bea0c4da75f4a0c4c0504e8850604f8b207440d4da7674a0de6b6120162b249446e8b5c462d6e4a104c5104f8b25b958bbd462d1376134c5fb6120162856704e838 [q4,q4]
theorem fok274:FOK Tryz.prog 274 (20,ic274,[(.t 4)]):=ad8 [] Tryz.func274
def ic275:IC:=dC rt 300 0x75e8615e4524011f090a2c059fd75624011f090a2c06470344060b4d054a5bea0c4da75f4a0c4c0504e8850604f8b207440d4da7674a0de6b6120162b249446e8b5c462d6e4a104c5104f8b25b958bbd462d1376134c5fb6120162856704e838 [q4,q4]
theorem fok275:FOK Tryz.prog 275 (20,ic275,[(.t 4)]):=ad8 [] Tryz.func275
def ic281:IC:=dC rt 40 0xa5da8803e50be50d24c5722c038d38 [q0]
theorem fok281:FOK Tryz.prog 281 (7,ic281,[(.t 3)]):=ad8 [1000002] Tryz.func281
def ic282:IC:=dC rt 54 0x75e2d401210946a89c78f1 []
theorem fok282:FOK Tryz.prog 282 (9,ic282,[(.t 4)]):=ad8 [] Tryz.func282
def ic283:IC:=dC rt 497 0x7503a00390eb0349160c1c5afd5c894a498c35019f44a11c5a9a1e4625011c090aad662a6227020e040e0e4c0344037b9a2c05ea44037b9a8e0335023633c60544037b2308730e0442a892044f9a1c5afd5c8922054f1c5a9a1e4625011c0957000e0442a48922434a23086d026b0339310644037b9a8e03470744037b2808730e0442a892044a28d14344a11c5a819a2a710e04e92d6039474944a13008730e0442af054a30d15144a1710e044224011d090a15710e04e9346039415b44033d08730e0442ae9200a61d020e0426467c22bc3d763d0852 [.x (.c (.str [48])),.k (.q (.hg9 T41 (some T42) (some T43))),.k (.alloc [zU 0,.str []]),.k (.q (.bld [zU 0,.str []] [⟨0,⟨1,.t 13⟩⟩]))]
theorem fok283:FOK Tryz.prog 283 (62,ic283,[]):=ad8 ([]++[284]) Tryz.func283 (by kernel_rfl) (by kernel_rfl) (by kernel_rfl) (by kernel_rfl)
def ic284:IC:=dC rt 281 0xb71613007f6b006164160daf7e082cdf054a039f021613017f384103000645af5e08d5434a064104021613037f384105004945a8926108a6f7927a08caa6a89241084b300345f7925a08ca23072c492d1776494106021613047f384107180845a8923008a6f7923908ca2c18b41e7618e6021613057f8549021613007f38 []
theorem fok284:FOK Tryz.prog 284 (31,ic284,[(.t 2)]):=ad8 [] Tryz.func284
def ic285:IC:=dC rt 300 0x75161462eb5f457914e7791423034a0cd2044565b20344154d01fd791201e71e9c5c928008ed4a154c04048b1e9c240122098978c7b205d756240123090a2cfe20000c20010d2d1e082a270100097a0e1d4d1e088d41065e1f4d064a1fde0445240124090a7a65854304d401250946782483 [.k (.alloc [.bool false,.bool false,.bool false,.bool false,.bool false,.bool false,.bool false,.bool false,.bool false,.bool false,.bool false,.bool false,.bool false,.bool false,.bool false,.bool false,.bool false,.bool false,.bool false,.bool false,.bool false,.bool false,.bool false,.bool false,.bool false,.bool false,.bool false,.bool false,.bool false,.bool false,.bool false,.bool false,.bool false,.bool false,.bool false,.bool false,.bool false,.bool false,.bool false,.bool false,.bool false,.bool false,.bool false,.bool false,.bool false,.bool false,.bool false,.bool false,.bool false,.bool false,.bool false,.bool false,.bool false,.bool false,.bool false,.bool false,.bool false,.bool false,.bool false,.bool false,.bool false,.bool false,.bool false,.bool false,.bool false,.bool false,.bool false,.bool false,.bool false,.bool false,.bool false,.bool false,.bool false,.bool false,.bool false,.bool false,.bool false,.bool false,.bool false,.bool false,.bool false,.bool false,.bool false,.bool false,.bool false,.bool false,.bool false,.bool false,.bool false,.bool false,.bool false,.bool false,.bool false,.bool false,.bool false,.bool false,.bool false,.bool false,.bool false,.bool false,.bool false,.bool false,.bool false,.bool false,.bool false,.bool false,.bool false,.bool false,.bool false,.bool false,.bool false,.bool false,.bool false,.bool false,.bool false,.bool false,.bool false,.bool false,.bool false,.bool false,.bool false,.bool false,.bool false,.bool false,.bool false,.bool false,.bool false,.bool false,.bool false,.bool false,.bool false,.bool false,.bool false,.bool false,.bool false,.bool false,.bool false,.bool false,.bool false,.bool false,.bool false,.bool false,.bool false,.bool false,.bool false,.bool false,.bool false,.bool false,.bool false,.bool false,.bool false,.bool false,.bool false,.bool false,.bool false,.bool false,.bool false,.bool false,.bool false,.bool false,.bool false,.bool false,.bool false,.bool false,.bool false,.bool false,.bool false,.bool false,.bool false,.bool false,.bool false,.bool false,.bool false,.bool false,.bool false,.bool false,.bool false,.bool false,.bool false,.bool false,.bool false,.bool false,.bool false,.bool false,.bool false,.bool false,.bool false,.bool false,.bool false,.bool false,.bool false,.bool false,.bool false,.bool false,.bool false,.bool false,.bool false,.bool false,.bool false,.bool false,.bool false,.bool false,.bool false,.bool false,.bool false,.bool false,.bool false,.bool false,.bool false,.bool false,.bool false,.bool false,.bool false,.bool false,.bool false,.bool false,.bool false,.bool false,.bool false,.bool false,.bool false,.bool false,.bool false,.bool false,.bool false,.bool false,.bool false,.bool false,.bool false,.bool false,.bool false,.bool false,.bool false,.bool false,.bool false,.bool false,.bool false,.bool false,.bool false,.bool false,.bool false,.bool false,.bool false,.bool false,.bool false,.bool false,.bool false,.bool false,.bool false,.bool false,.bool false,.bool false,.bool false,.bool false,.bool false,.bool false])]
theorem fok285:FOK Tryz.prog 285 (37,ic285,[(.t 4)]):=ad8 [] Tryz.func285
def ic286:IC:=dC rt 34 0xb78802160c160dae46a20538 []
theorem fok286:FOK Tryz.prog 286 (6,ic286,[(.t 2)]):=ad8 [] Tryz.func286
def ic287:IC:=dC rt 34 0xb78802160c160dae46a20538 []
theorem fok287:FOK Tryz.prog 287 (6,ic287,[(.t 2)]):=ad8 [] Tryz.func287
def ic289:IC:=dC rt 221 0x75e8eb704558c39f447049cf49bb035e70160b2c0541045e70104d014581c14642a4b94a104c05048165b0064470c943c5fb12de04f838 [q4]
theorem fok289:FOK Tryz.prog 289 (19,ic289,[(.t 4)]):=ad8 [] Tryz.func289
def ic290:IC:=dC rt 120 0x7516146b0036eb6745fd187e4ea61e9c56a44622054a678c3501310244452a2c0041a145786e38 [.k (.q (.hg9 T14 (some (cI 1)) none))]
theorem fok290:FOK Tryz.prog 290 (17,ic290,[(.t 4)]):=ad8 [] Tryz.func290
end Go.Id.Tryz
