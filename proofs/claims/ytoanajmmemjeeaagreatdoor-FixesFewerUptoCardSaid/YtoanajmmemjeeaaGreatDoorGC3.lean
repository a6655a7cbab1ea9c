/- The codes of functions,worked out of the given form. Conditions: none. -/
import Derived.Test.YtoanajmmemjeeaaGreatDoorFwTf
import Derived.Test.YtoanajmmemjeeaaGreatDoorProg
set_option linter.all false
set_option maxRecDepth 100000
set_option maxHeartbeats 4000000
set_option linter.all false
namespace Go.Id.Tryz
open Go Go.Id Go.Proofs Tryz
def fok244:=fo [1000002] func244
def fok245:=fo [] func245
def fok247:=fo [] func247
def fok248:=fo [249] func248
def fok249:=fo [] func249
def fok250:=fo [] func250
def fok251:=fo [] func251
def fok252:=fo [] func252
def fok253:=fo [] func253
def fok254:=fo [] func254
def fok255:=fo [1000015] func255
def fok256:=fo [] func256
def fok257:=fo [1000002] func257
def fok258:=fo [1000002] func258
def fok259:=fo [] func259
def fok265:=fo [] func265
def fok266:=fo [] func266
def fok270:=fo [] func270
def fok275:=fo [] func275
def fok278:=fo [] func278
end Go.Id.Tryz
