/- The codes of functions,worked out of the given form. Conditions: none. -/
import Derived.Test.YthjhfdodeghbpaaGreatDoorFwZb
import Derived.Test.YthjhfdodeghbpaaGreatDoorProg
set_option linter.all false
set_option maxRecDepth 100000
set_option maxHeartbeats 4000000
set_option linter.all false
namespace Go.Id.Tryz
open Go Go.Id Go.Proofs
def ic48:=ev Tryz.prog Tryz.f48 [1000034,1000035,1000036,1000038,1000055]
def fok48:=fo [1000034,1000035,1000036,1000038,1000055] ic48 Tryz.func48
def ic49:=ev Tryz.prog Tryz.f49 [1000001]
def fok49:=fo [1000001] ic49 Tryz.func49
def ic50:=ev Tryz.prog Tryz.f50 ([1000025]++List.filter (fun k=>k != 104) jt9)
def fok50:=fo ([1000025]++List.filter (fun k=>k != 104) jt9) ic50 Tryz.func50
def ic51:=ev Tryz.prog Tryz.f51 []
def fok51:=fo [] ic51 Tryz.func51
def ic52:=ev Tryz.prog Tryz.f52 []
def fok52:=fo [] ic52 Tryz.func52
def ic53:=ev Tryz.prog Tryz.f53 []
def fok53:=fo [] ic53 Tryz.func53
def ic54:=ev Tryz.prog Tryz.f54 []
def fok54:=fo [] ic54 Tryz.func54
def ic55:=ev Tryz.prog Tryz.f55 []
def fok55:=fo [] ic55 Tryz.func55
def ic56:=ev Tryz.prog Tryz.f56 [1000002]
def fok56:=fo [1000002] ic56 Tryz.func56
def ic57:=ev Tryz.prog Tryz.f57 []
def fok57:=fo [] ic57 Tryz.func57
def ic58:=ev Tryz.prog Tryz.f58 [1000001]
def fok58:=fo [1000001] ic58 Tryz.func58
def ic59:=ev Tryz.prog Tryz.f59 []
def fok59:=fo [] ic59 Tryz.func59
def ic60:=ev Tryz.prog Tryz.f60 []
def fok60:=fo [] ic60 Tryz.func60
def ic61:=ev Tryz.prog Tryz.f61 []
def fok61:=fo [] ic61 Tryz.func61
def ic62:=ev Tryz.prog Tryz.f62 []
def fok62:=fo [] ic62 Tryz.func62
def ic63:=ev Tryz.prog Tryz.f63 []
def fok63:=fo [] ic63 Tryz.func63
def ic64:=ev Tryz.prog Tryz.f64 []
def fok64:=fo [] ic64 Tryz.func64
def ic65:=ev Tryz.prog Tryz.f65 []
def fok65:=fo [] ic65 Tryz.func65
def ic66:=ev Tryz.prog Tryz.f66 [1000002]
def fok66:=fo [1000002] ic66 Tryz.func66
def ic67:=ev Tryz.prog Tryz.f67 []
def fok67:=fo [] ic67 Tryz.func67
def ic68:=ev Tryz.prog Tryz.f68 []
def fok68:=fo [] ic68 Tryz.func68
def ic69:=ev Tryz.prog Tryz.f69 [1000016]
def fok69:=fo [1000016] ic69 Tryz.func69
def ic70:=ev Tryz.prog Tryz.f70 ([1000004]++[118])
def fok70:=fo ([1000004]++[118]) ic70 Tryz.func70
def ic71:=ev Tryz.prog Tryz.f71 []
def fok71:=fo [] ic71 Tryz.func71
def ic72:=ev Tryz.prog Tryz.f72 [1000003]
def fok72:=fo [1000003] ic72 Tryz.func72
def ic73:=ev Tryz.prog Tryz.f73 [1000016]
def fok73:=fo [1000016] ic73 Tryz.func73
def ic74:=ev Tryz.prog Tryz.f74 [1000002,1000061]
def fok74:=fo [1000002,1000061] ic74 Tryz.func74
def ic75:=ev Tryz.prog Tryz.f75 []
def fok75:=fo [] ic75 Tryz.func75
def ic76:=ev Tryz.prog Tryz.f76 [1000002]
def fok76:=fo [1000002] ic76 Tryz.func76
def ic77:=ev Tryz.prog Tryz.f77 [1000002]
def fok77:=fo [1000002] ic77 Tryz.func77
def ic78:=ev Tryz.prog Tryz.f78 [1000001,1000015]
def fok78:=fo [1000001,1000015] ic78 Tryz.func78
def ic79:=ev Tryz.prog Tryz.f79 []
def fok79:=fo [] ic79 Tryz.func79
def ic80:=ev Tryz.prog Tryz.f80 [1000002]
def fok80:=fo [1000002] ic80 Tryz.func80
def ic81:=ev Tryz.prog Tryz.f81 [1000002,1000003]
def fok81:=fo [1000002,1000003] ic81 Tryz.func81
def ic82:=ev Tryz.prog Tryz.f82 []
def fok82:=fo [] ic82 Tryz.func82
def ic83:=ev Tryz.prog Tryz.f83 [1000003]
def fok83:=fo [1000003] ic83 Tryz.func83
def ic84:=ev Tryz.prog Tryz.f84 ([1000005]++[143,144,145])
def fok84:=fo ([1000005]++[143,144,145]) ic84 Tryz.func84
def ic85:=ev Tryz.prog Tryz.f85 [1000035]
def fok85:=fo [1000035] ic85 Tryz.func85
def ic86:=ev Tryz.prog Tryz.f86 [1000024,1000025,1000026,1000036]
def fok86:=fo [1000024,1000025,1000026,1000036] ic86 Tryz.func86
def ic87:=ev Tryz.prog Tryz.f87 [1000002]
def fok87:=fo [1000002] ic87 Tryz.func87
end Go.Id.Tryz
