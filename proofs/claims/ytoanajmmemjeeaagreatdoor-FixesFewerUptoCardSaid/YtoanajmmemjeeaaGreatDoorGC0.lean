/- The codes of functions,worked out of the given form. Conditions: none. -/
import Derived.Test.YtoanajmmemjeeaaGreatDoorFwTf
import Derived.Test.YtoanajmmemjeeaaGreatDoorProg
set_option linter.all false
set_option maxRecDepth 100000
set_option maxHeartbeats 4000000
set_option linter.all false
namespace Go.Id.Tryz
open Go Go.Id Go.Proofs Tryz
def fok3:=fo [1000006] func3
def fok4:=fo [1000023,1000031,1000041,1000053] func4
def fok5:=fo [1000006] func5
def fok6:=fo [1000005] func6
def fok7:=fo [1000048] func7
def fok8:=fo [] func8
def fok9:=fo ([1000003,1000004,1000005,1000032,1000075,1000078]++[29,30,31]) func9
def fok10:=fo [1000001,1000010,1000022] func10
def fok11:=fo [1000003] func11
def fok12:=fo [1000004,1000006] func12
def fok13:=fo [] func13
def fok14:=fo [1000051] func14
def fok15:=fo [] func15
def fok16:=fo ([1000002,1000003,1000084]++[43]) func16
def fok17:=fo [1000018] func17
def fok18:=fo [] func18
def fok19:=fo [] func19
def fok20:=fo [] func20
def fok21:=fo [] func21
def fok22:=fo [] func22
def fok23:=fo [] func23
def fok24:=fo [1000002] func24
def fok25:=fo [1000003] func25
def fok26:=fo [1000001] func26
def fok27:=fo ([1000003,1000013]++[16,18]) func27
def fok28:=fo [1000080] func28
def fok29:=fo [1000113] func29
def fok30:=fo [] func30
def fok31:=fo [] func31
def fok32:=fo [] func32
def fok33:=fo ([1000038,1000050]++JK) func33
def fok34:=fo [] func34
def fok35:=fo [] func35
def fok36:=fo [1000001] func36
def fok37:=fo [1000001] func37
def fok38:=fo [] func38
def fok39:=fo ([1000003]++[40,41]) func39
def fok40:=fo [1000003] func40
def fok41:=fo [] func41
def fok42:=fo [1000038,1000056,1000077,1000110] func42
def fok43:=fo [85,86] func43
def fok44:=fo [] func44
def fok45:=fo ([1000025]++List.filter (fun k=>k != 89) JK) func45
def fok46:=fo [] func46
def fok47:=fo [1000019] func47
def fok48:=fo [1000034,1000037] func48
def fok49:=fo [] func49
def fok50:=fo [] func50
def fok51:=fo [] func51
def fok52:=fo [] func52
def fok53:=fo [] func53
def fok54:=fo [1000042] func54
def fok55:=fo [1000003,1000008,1000010] func55
def fok56:=fo ([1000003,1000039,1000042,1000044]++[18,20]) func56
end Go.Id.Tryz
