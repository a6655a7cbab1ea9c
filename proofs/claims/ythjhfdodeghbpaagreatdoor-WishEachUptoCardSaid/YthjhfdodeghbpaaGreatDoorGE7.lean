/- The codes of functions,worked out of the given form. Conditions: none. -/
import Derived.Test.YthjhfdodeghbpaaGreatDoorFwZb
import Derived.Test.YthjhfdodeghbpaaGreatDoorProg
set_option linter.all false
set_option maxRecDepth 100000
set_option maxHeartbeats 4000000
set_option linter.all false
namespace Go.Id.Tryz
open Go Go.Id Go.Proofs
def ic287:=ev Tryz.prog Tryz.f287 []
def fok287:=fo [] ic287 Tryz.func287
def ic288:=ev Tryz.prog Tryz.f288 []
def fok288:=fo [] ic288 Tryz.func288
def ic289:=ev Tryz.prog Tryz.f289 []
def fok289:=fo [] ic289 Tryz.func289
def ic293:=ev Tryz.prog Tryz.f293 []
def fok293:=fo [] ic293 Tryz.func293
end Go.Id.Tryz
