/- The codes of functions,worked out of the given form. Conditions: none. -/
import Derived.Test.YthjhfdodeghbpaaGreatDoorFwZb
import Derived.Test.YthjhfdodeghbpaaGreatDoorProg
set_option linter.all false
set_option maxRecDepth 100000
set_option maxHeartbeats 4000000
set_option linter.all false
namespace Go.Id.Tryz
open Go Go.Id Go.Proofs
def ic246:=ev Tryz.prog Tryz.f246 []
def fok246:=fo [] ic246 Tryz.func246
def ic247:=ev Tryz.prog Tryz.f247 []
def fok247:=fo [] ic247 Tryz.func247
def ic248:=ev Tryz.prog Tryz.f248 []
def fok248:=fo [] ic248 Tryz.func248
def ic249:=ev Tryz.prog Tryz.f249 [1000002]
def fok249:=fo [1000002] ic249 Tryz.func249
def ic250:=ev Tryz.prog Tryz.f250 [1000002]
def fok250:=fo [1000002] ic250 Tryz.func250
def ic251:=ev Tryz.prog Tryz.f251 [1000002]
def fok251:=fo [1000002] ic251 Tryz.func251
def ic252:=ev Tryz.prog Tryz.f252 [1000002]
def fok252:=fo [1000002] ic252 Tryz.func252
def ic253:=ev Tryz.prog Tryz.f253 []
def fok253:=fo [] ic253 Tryz.func253
def ic254:=ev Tryz.prog Tryz.f254 []
def fok254:=fo [] ic254 Tryz.func254
def ic255:=ev Tryz.prog Tryz.f255 []
def fok255:=fo [] ic255 Tryz.func255
def ic256:=ev Tryz.prog Tryz.f256 []
def fok256:=fo [] ic256 Tryz.func256
def ic257:=ev Tryz.prog Tryz.f257 []
def fok257:=fo [] ic257 Tryz.func257
def ic258:=ev Tryz.prog Tryz.f258 []
def fok258:=fo [] ic258 Tryz.func258
def ic259:=ev Tryz.prog Tryz.f259 []
def fok259:=fo [] ic259 Tryz.func259
def ic260:=ev Tryz.prog Tryz.f260 []
def fok260:=fo [] ic260 Tryz.func260
def ic261:=ev Tryz.prog Tryz.f261 []
def fok261:=fo [] ic261 Tryz.func261
def ic262:=ev Tryz.prog Tryz.f262 []
def fok262:=fo [] ic262 Tryz.func262
def ic263:=ev Tryz.prog Tryz.f263 []
def fok263:=fo [] ic263 Tryz.func263
def ic264:=ev Tryz.prog Tryz.f264 [1000015]
def fok264:=fo [1000015] ic264 Tryz.func264
def ic265:=ev Tryz.prog Tryz.f265 []
def fok265:=fo [] ic265 Tryz.func265
def ic266:=ev Tryz.prog Tryz.f266 [1000002]
def fok266:=fo [1000002] ic266 Tryz.func266
def ic267:=ev Tryz.prog Tryz.f267 [1000002]
def fok267:=fo [1000002] ic267 Tryz.func267
def ic268:=ev Tryz.prog Tryz.f268 [1000001]
def fok268:=fo [1000001] ic268 Tryz.func268
def ic269:=ev Tryz.prog Tryz.f269 []
def fok269:=fo [] ic269 Tryz.func269
def ic270:=ev Tryz.prog Tryz.f270 []
def fok270:=fo [] ic270 Tryz.func270
def ic271:=ev Tryz.prog Tryz.f271 []
def fok271:=fo [] ic271 Tryz.func271
def ic273:=ev Tryz.prog Tryz.f273 []
def fok273:=fo [] ic273 Tryz.func273
def ic274:=ev Tryz.prog Tryz.f274 []
def fok274:=fo [] ic274 Tryz.func274
def ic277:=ev Tryz.prog Tryz.f277 []
def fok277:=fo [] ic277 Tryz.func277
def ic278:=ev Tryz.prog Tryz.f278 []
def fok278:=fo [] ic278 Tryz.func278
def ic279:=ev Tryz.prog Tryz.f279 []
def fok279:=fo [] ic279 Tryz.func279
def ic280:=ev Tryz.prog Tryz.f280 []
def fok280:=fo [] ic280 Tryz.func280
def ic281:=ev Tryz.prog Tryz.f281 [282]
def fok281:=fo [282] ic281 Tryz.func281
def ic282:=ev Tryz.prog Tryz.f282 []
def fok282:=fo [] ic282 Tryz.func282
def ic283:=ev Tryz.prog Tryz.f283 []
def fok283:=fo [] ic283 Tryz.func283
def ic284:=ev Tryz.prog Tryz.f284 []
def fok284:=fo [] ic284 Tryz.func284
def ic285:=ev Tryz.prog Tryz.f285 []
def fok285:=fo [] ic285 Tryz.func285
end Go.Id.Tryz
