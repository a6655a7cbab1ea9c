/- The codes of functions,worked out of the given form. Conditions: none. -/
import Derived.Test.YtlpijcemoicebaaGreatDoorFwZb
import Derived.Test.YtlpijcemoicebaaGreatDoorProg
set_option linter.all false
set_option maxRecDepth 100000
set_option maxHeartbeats 4000000
set_option linter.all false
namespace Go.Id.Tryz
open Go Go.Id Go.Proofs Tryz
def fok290:=fo [] func290
def fok291:=fo [] func291
def fok292:=fo [] func292
def fok293:=fo [] func293
def fok294:=fo [1000002] func294
def fok295:=fo [1000002] func295
def fok296:=fo [1000002] func296
def fok297:=fo [1000002] func297
def fok298:=fo [] func298
def fok299:=fo [] func299
def fok300:=fo [] func300
def fok301:=fo [] func301
def fok302:=fo [] func302
def fok303:=fo [] func303
def fok304:=fo [] func304
def fok305:=fo [] func305
def fok306:=fo [] func306
def fok307:=fo [] func307
def fok308:=fo [1000001,1000011] func308
def fok309:=fo [1000006] func309
def fok310:=fo [1000024,1000065] func310
def fok311:=fo [1000002,1000003] func311
def fok312:=fo [] func312
def fok313:=fo [] func313
def fok314:=fo [] func314
def fok315:=fo [1000015] func315
def fok316:=fo [] func316
def fok317:=fo [1000002] func317
def fok318:=fo [1000002] func318
def fok319:=fo [1000001] func319
def fok320:=fo [] func320
def fok321:=fo [] func321
def fok322:=fo [] func322
def fok324:=fo [] func324
def fok325:=fo [] func325
def fok328:=fo [] func328
def fok329:=fo [] func329
def fok330:=fo [] func330
def fok331:=fo [1000007] func331
def fok332:=fo [1000002,1000003,1000006,1000007] func332
def fok333:=fo [] func333
def fok334:=fo [] func334
def fok335:=fo [336] func335
def fok336:=fo [] func336
def fok337:=fo [] func337
def fok338:=fo [] func338
def fok339:=fo [] func339
def fok341:=fo [] func341
def fok342:=fo [] func342
def fok343:=fo [] func343
def fok347:=fo [] func347
end Go.Id.Tryz
