/- The codes of functions,worked out of the given form. Conditions: none. -/
import Derived.Test.YtlpijcemoicebaaGreatDoorFwZb
import Derived.Test.YtlpijcemoicebaaGreatDoorProg
set_option linter.all false
set_option maxRecDepth 100000
set_option maxHeartbeats 4000000
set_option linter.all false
namespace Go.Id.Tryz
open Go Go.Id Go.Proofs Tryz
def fok3:=fo ([1000005,1000114,1000115,1000185,1000186]++[8]) func3
def fok4:=fo [1000006] func4
def fok5:=fo [1000007,1000009,1000011,1000068,1000069,1000093,1000094,1000118,1000119] func5
def fok6:=fo ([1000005]++[16,17]) func6
def fok7:=fo [1000037,1000072,1000145,1000164,1000168,1000189,1000225,1000254,1000272,1000289,1000291] func7
def fok8:=fo [1000001] func8
def fok9:=fo [] func9
def fok10:=fo [] func10
def fok11:=fo [] func11
def fok12:=fo [1000001,1000062] func12
def fok13:=fo [] func13
def fok14:=fo [] func14
def fok15:=fo ([1000002,1000003,1000084]++[41]) func15
def fok16:=fo [1000005,1000119] func16
def fok17:=fo [] func17
def fok18:=fo [1000080] func18
def fok19:=fo [1000060,1000070] func19
def fok20:=fo [1000025,1000055] func20
def fok21:=fo [] func21
def fok22:=fo [1000024] func22
def fok23:=fo [] func23
def fok24:=fo [] func24
def fok25:=fo [] func25
def fok26:=fo [] func26
def fok27:=fo [1000005] func27
def fok28:=fo [1000017] func28
def fok29:=fo [] func29
def fok30:=fo [] func30
def fok31:=fo ([1000038,1000050]++KL) func31
def fok32:=fo [] func32
def fok33:=fo [] func33
def fok34:=fo [1000001] func34
def fok35:=fo [1000001] func35
def fok36:=fo [] func36
def fok37:=fo ([1000003]++[38,39]) func37
def fok38:=fo [1000003] func38
def fok39:=fo [] func39
def fok40:=fo [1000038,1000056,1000077,1000110] func40
def fok41:=fo [82,83] func41
def fok42:=fo [] func42
def fok43:=fo [] func43
def fok44:=fo [] func44
def fok45:=fo [1000001] func45
def fok46:=fo [1000048] func46
def fok47:=fo [1000042] func47
def fok48:=fo [] func48
def fok49:=fo [] func49
def fok50:=fo [1000003,1000008,1000010] func50
def fok51:=fo ([1000003,1000039,1000042,1000044]++[43,48]) func51
def fok52:=fo ([1000003,1000041,1000045,1000047]++[43,48]) func52
def fok53:=fo ([1000003,1000050,1000052]++[43,48,93,94]) func53
def fok54:=fo [1000003,1000010,1000012] func54
def fok55:=fo [1000003,1000014] func55
def fok56:=fo ([1000003,1000034,1000042,1000068]++[97,98]) func56
def fok57:=fo ([1000056,1000090,1000130]++[39]) func57
def fok58:=fo [1000018] func58
def fok59:=fo [1000006,98,109] func59
def fok60:=fo [1000019] func60
def fok61:=fo [43,48] func61
def fok62:=fo [1000034,1000035,1000036,1000038,1000055] func62
end Go.Id.Tryz
