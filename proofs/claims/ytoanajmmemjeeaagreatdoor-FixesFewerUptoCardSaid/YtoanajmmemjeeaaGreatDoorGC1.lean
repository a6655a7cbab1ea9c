/- The codes of functions,worked out of the given form. Conditions: none. -/
import Derived.Test.YtoanajmmemjeeaaGreatDoorFwTf
import Derived.Test.YtoanajmmemjeeaaGreatDoorProg
set_option linter.all false
set_option maxRecDepth 100000
set_option maxHeartbeats 4000000
set_option linter.all false
namespace Go.Id.Tryz
open Go Go.Id Go.Proofs Tryz
def fok57:=fo ([1000003,1000041,1000045,1000047]++[18,20]) func57
def fok58:=fo ([1000003,1000050,1000052]++[18,20,101,102]) func58
def fok59:=fo [1000003,1000010,1000012] func59
def fok60:=fo [1000003,1000014] func60
def fok61:=fo ([1000003,1000034,1000042,1000068]++[50,105]) func61
def fok62:=fo [] func62
def fok63:=fo [1000022] func63
def fok64:=fo [] func64
def fok65:=fo [] func65
def fok66:=fo [1000139,1000162,112,113,114] func66
def fok67:=fo [] func67
def fok68:=fo [1000042] func68
def fok69:=fo [] func69
def fok70:=fo [] func70
def fok71:=fo [] func71
def fok72:=fo [] func72
def fok73:=fo [1000003] func73
def fok74:=fo [] func74
def fok75:=fo [1000001] func75
def fok76:=fo [] func76
def fok77:=fo [] func77
def fok78:=fo [] func78
def fok79:=fo [] func79
def fok80:=fo [] func80
def fok81:=fo [1000002] func81
def fok82:=fo [] func82
def fok83:=fo [1000001] func83
def fok84:=fo [] func84
def fok85:=fo [] func85
def fok86:=fo [] func86
def fok87:=fo [] func87
def fok88:=fo [] func88
def fok89:=fo [] func89
def fok90:=fo ([1000001,1000022]++JK) func90
def fok91:=fo [] func91
def fok92:=fo [] func92
def fok93:=fo [] func93
def fok94:=fo [1000002,1000003,1000008] func94
def fok95:=fo [] func95
def fok96:=fo [51,84,102] func96
def fok97:=fo [] func97
def fok98:=fo [] func98
def fok99:=fo [1000016] func99
def fok100:=fo ([1000004]++[146]) func100
def fok101:=fo [] func101
def fok102:=fo [1000003] func102
def fok103:=fo [1000016] func103
def fok104:=fo [1000002,1000061] func104
def fok105:=fo [1000002] func105
def fok106:=fo [1000002] func106
def fok107:=fo [1000011] func107
def fok108:=fo ([1000002,1000029,1000044,1000054,1000067]++[163]) func108
def fok109:=fo [] func109
def fok110:=fo [1000024] func110
def fok111:=fo [] func111
def fok112:=fo [] func112
def fok113:=fo [] func113
def fok114:=fo [] func114
def fok115:=fo [113] func115
def fok116:=fo [113,117,119] func116
def fok117:=fo [] func117
def fok118:=fo [] func118
def fok119:=fo [] func119
def fok120:=fo [1000021] func120
def fok121:=fo [] func121
def fok122:=fo [] func122
def fok123:=fo [1000020] func123
def fok124:=fo [1000003] func124
def fok125:=fo [1000015] func125
def fok126:=fo [] func126
def fok127:=fo [1000005] func127
def fok128:=fo [1000005] func128
def fok129:=fo [1000001] func129
def fok130:=fo [1000005] func130
def fok131:=fo [1000002] func131
def fok132:=fo [1000002,1000003] func132
def fok133:=fo [] func133
def fok134:=fo [] func134
def fok135:=fo [] func135
def fok136:=fo [] func136
end Go.Id.Tryz
