/- The codes of functions,worked out of the given form. Conditions: none. -/
import Derived.Test.YthjhfdodeghbpaaGreatDoorFwZb
import Derived.Test.YthjhfdodeghbpaaGreatDoorProg
set_option linter.all false
set_option maxRecDepth 100000
set_option maxHeartbeats 4000000
set_option linter.all false
namespace Go.Id.Tryz
open Go Go.Id Go.Proofs
def ic18:=ev Tryz.prog Tryz.f18 []
def fok18:=fo [] ic18 Tryz.func18
def ic19:=ev Tryz.prog Tryz.f19 []
def fok19:=fo [] ic19 Tryz.func19
def ic20:=ev Tryz.prog Tryz.f20 [1000001]
def fok20:=fo [1000001] ic20 Tryz.func20
def ic21:=ev Tryz.prog Tryz.f21 [1000001]
def fok21:=fo [1000001] ic21 Tryz.func21
def ic22:=ev Tryz.prog Tryz.f22 []
def fok22:=fo [] ic22 Tryz.func22
def ic23:=ev Tryz.prog Tryz.f23 ([1000003]++[24,25])
def fok23:=fo ([1000003]++[24,25]) ic23 Tryz.func23
def ic24:=ev Tryz.prog Tryz.f24 [1000003]
def fok24:=fo [1000003] ic24 Tryz.func24
def ic25:=ev Tryz.prog Tryz.f25 []
def fok25:=fo [] ic25 Tryz.func25
def ic26:=ev Tryz.prog Tryz.f26 [1000038,1000056,1000077,1000110]
def fok26:=fo [1000038,1000056,1000077,1000110] ic26 Tryz.func26
def ic27:=ev Tryz.prog Tryz.f27 [60,61]
def fok27:=fo [60,61] ic27 Tryz.func27
def ic28:=ev Tryz.prog Tryz.f28 []
def fok28:=fo [] ic28 Tryz.func28
def ic29:=ev Tryz.prog Tryz.f29 []
def fok29:=fo [] ic29 Tryz.func29
def ic30:=ev Tryz.prog Tryz.f30 []
def fok30:=fo [] ic30 Tryz.func30
def ic31:=ev Tryz.prog Tryz.f31 [1000001]
def fok31:=fo [1000001] ic31 Tryz.func31
def ic32:=ev Tryz.prog Tryz.f32 [1000048]
def fok32:=fo [1000048] ic32 Tryz.func32
def ic33:=ev Tryz.prog Tryz.f33 [1000042]
def fok33:=fo [1000042] ic33 Tryz.func33
def ic34:=ev Tryz.prog Tryz.f34 []
def fok34:=fo [] ic34 Tryz.func34
def ic35:=ev Tryz.prog Tryz.f35 []
def fok35:=fo [] ic35 Tryz.func35
def ic36:=ev Tryz.prog Tryz.f36 [1000003,1000008,1000010]
def fok36:=fo [1000003,1000008,1000010] ic36 Tryz.func36
def ic37:=ev Tryz.prog Tryz.f37 ([1000003,1000039,1000042,1000044]++[29,34])
def fok37:=fo ([1000003,1000039,1000042,1000044]++[29,34]) ic37 Tryz.func37
def ic38:=ev Tryz.prog Tryz.f38 ([1000003,1000041,1000045,1000047]++[29,34])
def fok38:=fo ([1000003,1000041,1000045,1000047]++[29,34]) ic38 Tryz.func38
def ic39:=ev Tryz.prog Tryz.f39 ([1000003,1000050,1000052]++[29,34,71,72])
def fok39:=fo ([1000003,1000050,1000052]++[29,34,71,72]) ic39 Tryz.func39
def ic40:=ev Tryz.prog Tryz.f40 [1000003,1000010,1000012]
def fok40:=fo [1000003,1000010,1000012] ic40 Tryz.func40
def ic41:=ev Tryz.prog Tryz.f41 [1000003,1000014]
def fok41:=fo [1000003,1000014] ic41 Tryz.func41
def ic42:=ev Tryz.prog Tryz.f42 ([1000003,1000034,1000042,1000068]++[75,76])
def fok42:=fo ([1000003,1000034,1000042,1000068]++[75,76]) ic42 Tryz.func42
def ic43:=ev Tryz.prog Tryz.f43 ([1000056,1000090,1000130]++[25])
def fok43:=fo ([1000056,1000090,1000130]++[25]) ic43 Tryz.func43
def ic44:=ev Tryz.prog Tryz.f44 [1000018]
def fok44:=fo [1000018] ic44 Tryz.func44
def ic45:=ev Tryz.prog Tryz.f45 [1000006,76,87]
def fok45:=fo [1000006,76,87] ic45 Tryz.func45
def ic46:=ev Tryz.prog Tryz.f46 [1000019]
def fok46:=fo [1000019] ic46 Tryz.func46
def ic47:=ev Tryz.prog Tryz.f47 [29,34]
def fok47:=fo [29,34] ic47 Tryz.func47
end Go.Id.Tryz
