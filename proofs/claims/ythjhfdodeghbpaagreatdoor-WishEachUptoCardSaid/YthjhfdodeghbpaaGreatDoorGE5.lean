/- The codes of functions,worked out of the given form. Conditions: none. -/
import Derived.Test.YthjhfdodeghbpaaGreatDoorFwZb
import Derived.Test.YthjhfdodeghbpaaGreatDoorProg
set_option linter.all false
set_option maxRecDepth 100000
set_option maxHeartbeats 4000000
set_option linter.all false
namespace Go.Id.Tryz
open Go Go.Id Go.Proofs
def ic207:=ev Tryz.prog Tryz.f207 []
def fok207:=fo [] ic207 Tryz.func207
def ic208:=ev Tryz.prog Tryz.f208 [113,155,156]
def fok208:=fo [113,155,156] ic208 Tryz.func208
def ic209:=ev Tryz.prog Tryz.f209 [155,210]
def fok209:=fo [155,210] ic209 Tryz.func209
def ic210:=ev Tryz.prog Tryz.f210 []
def fok210:=fo [] ic210 Tryz.func210
def ic211:=ev Tryz.prog Tryz.f211 [155,212]
def fok211:=fo [155,212] ic211 Tryz.func211
def ic212:=ev Tryz.prog Tryz.f212 []
def fok212:=fo [] ic212 Tryz.func212
def ic213:=ev Tryz.prog Tryz.f213 [155,156]
def fok213:=fo [155,156] ic213 Tryz.func213
def ic214:=ev Tryz.prog Tryz.f214 []
def fok214:=fo [] ic214 Tryz.func214
def ic215:=ev Tryz.prog Tryz.f215 []
def fok215:=fo [] ic215 Tryz.func215
def ic216:=ev Tryz.prog Tryz.f216 []
def fok216:=fo [] ic216 Tryz.func216
def ic217:=ev Tryz.prog Tryz.f217 [1000016,1000019,1000022,1000025]
def fok217:=fo [1000016,1000019,1000022,1000025] ic217 Tryz.func217
def ic218:=ev Tryz.prog Tryz.f218 [155,156]
def fok218:=fo [155,156] ic218 Tryz.func218
def ic219:=ev Tryz.prog Tryz.f219 []
def fok219:=fo [] ic219 Tryz.func219
def ic220:=ev Tryz.prog Tryz.f220 []
def fok220:=fo [] ic220 Tryz.func220
def ic221:=ev Tryz.prog Tryz.f221 []
def fok221:=fo [] ic221 Tryz.func221
def ic223:=ev Tryz.prog Tryz.f223 [1000053]
def fok223:=fo [1000053] ic223 Tryz.func223
def ic224:=ev Tryz.prog Tryz.f224 [1000003]
def fok224:=fo [1000003] ic224 Tryz.func224
def ic225:=ev Tryz.prog Tryz.f225 []
def fok225:=fo [] ic225 Tryz.func225
def ic226:=ev Tryz.prog Tryz.f226 [1000004,1000022]
def fok226:=fo [1000004,1000022] ic226 Tryz.func226
def ic227:=ev Tryz.prog Tryz.f227 [1000028,1000029,1000035,1000044]
def fok227:=fo [1000028,1000029,1000035,1000044] ic227 Tryz.func227
def ic228:=ev Tryz.prog Tryz.f228 [1000019,1000025,1000030,1000035,1000036,1000048]
def fok228:=fo [1000019,1000025,1000030,1000035,1000036,1000048] ic228 Tryz.func228
def ic229:=ev Tryz.prog Tryz.f229 [1000002,1000003]
def fok229:=fo [1000002,1000003] ic229 Tryz.func229
def ic230:=ev Tryz.prog Tryz.f230 [1000003]
def fok230:=fo [1000003] ic230 Tryz.func230
def ic231:=ev Tryz.prog Tryz.f231 [1000003]
def fok231:=fo [1000003] ic231 Tryz.func231
def ic232:=ev Tryz.prog Tryz.f232 [1000010]
def fok232:=fo [1000010] ic232 Tryz.func232
def ic233:=ev Tryz.prog Tryz.f233 ([1000002,1000003,1000032]++[269,270,271])
def fok233:=fo ([1000002,1000003,1000032]++[269,270,271]) ic233 Tryz.func233
def ic234:=ev Tryz.prog Tryz.f234 [1000002]
def fok234:=fo [1000002] ic234 Tryz.func234
def ic245:=ev Tryz.prog Tryz.f245 []
def fok245:=fo [] ic245 Tryz.func245
end Go.Id.Tryz
