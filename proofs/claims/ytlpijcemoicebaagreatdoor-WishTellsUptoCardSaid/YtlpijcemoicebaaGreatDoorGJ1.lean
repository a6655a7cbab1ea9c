/- The codes of functions,worked out of the given form. Conditions: none. -/
import Derived.Test.YtlpijcemoicebaaGreatDoorFwZb
import Derived.Test.YtlpijcemoicebaaGreatDoorProg
set_option linter.all false
set_option maxRecDepth 100000
set_option maxHeartbeats 4000000
set_option linter.all false
namespace Go.Id.Tryz
open Go Go.Id Go.Proofs Tryz
def fok63:=fo [] func63
def fok64:=fo [] func64
def fok65:=fo [1000063] func65
def fok66:=fo [1000003,1000021] func66
def fok67:=fo [1000003,1000021] func67
def fok68:=fo [1000034] func68
def fok69:=fo [1000001] func69
def fok70:=fo [1000005] func70
def fok71:=fo [1000001] func71
def fok72:=fo ([1000025]++List.filter (fun k=>k != 135) KL) func72
def fok73:=fo [] func73
def fok74:=fo [] func74
def fok75:=fo [] func75
def fok76:=fo [] func76
def fok77:=fo [] func77
def fok78:=fo [1000002] func78
def fok79:=fo [] func79
def fok80:=fo [1000001] func80
def fok81:=fo [] func81
def fok82:=fo [] func82
def fok83:=fo [] func83
def fok84:=fo [] func84
def fok85:=fo [] func85
def fok86:=fo [] func86
def fok87:=fo [] func87
def fok88:=fo [1000002] func88
def fok89:=fo [] func89
def fok90:=fo [] func90
def fok91:=fo [1000016] func91
def fok92:=fo ([1000004]++[149]) func92
def fok93:=fo [] func93
def fok94:=fo [1000003] func94
def fok95:=fo [1000016] func95
def fok96:=fo [1000002,1000061] func96
def fok97:=fo [] func97
def fok98:=fo [1000002] func98
def fok99:=fo [1000002] func99
def fok100:=fo [1000001,1000015] func100
def fok101:=fo [] func101
def fok102:=fo [1000002] func102
def fok103:=fo [1000002,1000003] func103
def fok104:=fo [] func104
def fok105:=fo [1000003] func105
def fok106:=fo ([1000005]++[174,175,176]) func106
def fok107:=fo [1000035] func107
def fok108:=fo [1000024,1000025,1000026,1000036] func108
def fok109:=fo [1000002] func109
def fok110:=fo [1000010] func110
def fok111:=fo ([1000002,1000011]++[183,184]) func111
def fok112:=fo [1000003,1000008] func112
def fok113:=fo [1000006,1000031,1000032,1000034,3000000] func113
def fok114:=fo [1000008] func114
def fok115:=fo [1000008] func115
def fok116:=fo [] func116
def fok117:=fo [] func117
def fok118:=fo [1000002,1000003] func118
def fok119:=fo ([1000002,1000003]++[193,194]) func119
def fok120:=fo [1000020,1000023] func120
def fok121:=fo [1000001] func121
def fok122:=fo [1000001] func122
def fok123:=fo [1000001] func123
def fok124:=fo [] func124
def fok125:=fo [1000005,1000010] func125
def fok126:=fo [] func126
def fok127:=fo [1000005] func127
def fok128:=fo [1000005] func128
def fok129:=fo [1000001] func129
def fok130:=fo [1000005] func130
def fok131:=fo [1000002] func131
def fok132:=fo [1000002,1000003] func132
def fok133:=fo [] func133
def fok134:=fo [] func134
def fok135:=fo [] func135
def fok136:=fo ([1000001,1000022]++KL) func136
def fok137:=fo [] func137
def fok138:=fo [] func138
def fok139:=fo [] func139
def fok140:=fo [] func140
def fok141:=fo [] func141
def fok142:=fo [] func142
def fok143:=fo [] func143
def fok144:=fo [] func144
def fok145:=fo [1000019] func145
def fok146:=fo [1000034,1000037] func146
def fok147:=fo [] func147
def fok148:=fo [] func148
def fok149:=fo [1000001] func149
def fok150:=fo [1000004] func150
def fok151:=fo [1000028] func151
def fok152:=fo [1000003] func152
def fok153:=fo ([1000002,1000003]++[171,218]) func153
def fok154:=fo [] func154
def fok155:=fo [] func155
def fok156:=fo [81,94,148] func156
def fok157:=fo [1000005] func157
def fok158:=fo [1000002,1000003,1000008] func158
def fok159:=fo [] func159
def fok160:=fo [1000002,1000003] func160
def fok161:=fo [] func161
def fok162:=fo [] func162
def fok163:=fo [] func163
def fok164:=fo [1000003] func164
def fok165:=fo [] func165
end Go.Id.Tryz
