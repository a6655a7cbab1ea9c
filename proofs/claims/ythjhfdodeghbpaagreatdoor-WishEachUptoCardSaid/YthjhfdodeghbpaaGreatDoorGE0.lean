/- The codes of functions,worked out of the given form. Conditions: none. -/
import Derived.Test.YthjhfdodeghbpaaGreatDoorFwZb
import Derived.Test.YthjhfdodeghbpaaGreatDoorProg
set_option linter.all false
set_option maxRecDepth 100000
set_option maxHeartbeats 4000000
set_option linter.all false
namespace Go.Id.Tryz
open Go Go.Id Go.Proofs
def ic3:=ev Tryz.prog Tryz.f3 [1000005,1000138,1000139]
def fok3:=fo [1000005,1000138,1000139] ic3 Tryz.func3
def ic4:=ev Tryz.prog Tryz.f4 [1000006]
def fok4:=fo [1000006] ic4 Tryz.func4
def ic5:=ev Tryz.prog Tryz.f5 [1000007,1000009,1000011,1000068,1000069,1000093,1000094,1000118,1000119]
def fok5:=fo [1000007,1000009,1000011,1000068,1000069,1000093,1000094,1000118,1000119] ic5 Tryz.func5
def ic6:=ev Tryz.prog Tryz.f6 ([1000005]++[12,13])
def fok6:=fo ([1000005]++[12,13]) ic6 Tryz.func6
def ic7:=ev Tryz.prog Tryz.f7 []
def fok7:=fo [] ic7 Tryz.func7
def ic8:=ev Tryz.prog Tryz.f8 [1000001,1000062]
def fok8:=fo [1000001,1000062] ic8 Tryz.func8
def ic9:=ev Tryz.prog Tryz.f9 []
def fok9:=fo [] ic9 Tryz.func9
def ic10:=ev Tryz.prog Tryz.f10 []
def fok10:=fo [] ic10 Tryz.func10
def ic11:=ev Tryz.prog Tryz.f11 ([1000002,1000003,1000084]++[27])
def fok11:=fo ([1000002,1000003,1000084]++[27]) ic11 Tryz.func11
def ic12:=ev Tryz.prog Tryz.f12 [1000005,1000119]
def fok12:=fo [1000005,1000119] ic12 Tryz.func12
def ic13:=ev Tryz.prog Tryz.f13 []
def fok13:=fo [] ic13 Tryz.func13
def ic14:=ev Tryz.prog Tryz.f14 [1000080]
def fok14:=fo [1000080] ic14 Tryz.func14
def ic15:=ev Tryz.prog Tryz.f15 [1000060,1000070]
def fok15:=fo [1000060,1000070] ic15 Tryz.func15
def ic16:=ev Tryz.prog Tryz.f16 []
def fok16:=fo [] ic16 Tryz.func16
def ic17:=ev Tryz.prog Tryz.f17 ([1000038,1000050]++jt9)
def fok17:=fo ([1000038,1000050]++jt9) ic17 Tryz.func17
end Go.Id.Tryz
