/- The codes of functions,worked out of the given form. Conditions: none. -/
import Derived.Test.YtoanajmmemjeeaaGreatDoorFwTf
import Derived.Test.YtoanajmmemjeeaaGreatDoorProg
set_option linter.all false
set_option maxRecDepth 100000
set_option maxHeartbeats 4000000
set_option linter.all false
namespace Go.Id.Tryz
open Go Go.Id Go.Proofs Tryz
def fok137:=fo [] func137
def fok138:=fo [] func138
def fok139:=fo [] func139
def fok140:=fo [] func140
def fok141:=fo [] func141
def fok142:=fo [] func142
def fok143:=fo [1000012,1000017] func143
def fok144:=fo [] func144
def fok145:=fo [1000003] func145
def fok146:=fo [1000001] func146
def fok147:=fo [1000004] func147
def fok148:=fo [1000028] func148
def fok149:=fo [1000003] func149
def fok150:=fo ([1000002,1000003]++[197,198]) func150
def fok151:=fo [1000005] func151
def fok152:=fo [] func152
def fok153:=fo [1000002,1000003] func153
def fok154:=fo [] func154
def fok155:=fo [] func155
def fok156:=fo [1000003] func156
def fok157:=fo [] func157
def fok158:=fo [] func158
def fok159:=fo [] func159
def fok160:=fo [] func160
def fok161:=fo [] func161
def fok162:=fo [] func162
def fok163:=fo [] func163
def fok164:=fo [1000073,2000000] func164
def fok165:=fo [1000002,1000031] func165
def fok166:=fo [1000002,1000098,1000102,2000000] func166
def fok167:=fo [] func167
def fok168:=fo [1000032] func168
def fok169:=fo [1000002] func169
def fok170:=fo [] func170
def fok171:=fo [] func171
def fok172:=fo [] func172
def fok173:=fo [] func173
def fok174:=fo [] func174
def fok175:=fo [1000002] func175
def fok176:=fo [] func176
def fok177:=fo [] func177
def fok178:=fo [] func178
def fok179:=fo [] func179
def fok180:=fo [1000002] func180
def fok181:=fo [1000001] func181
def fok182:=fo [1000001] func182
def fok183:=fo [] func183
def fok184:=fo [] func184
def fok185:=fo [] func185
def fok186:=fo [] func186
def fok187:=fo [] func187
def fok188:=fo [1000010] func188
def fok189:=fo ([1000002,1000003,1000032]++[220,221,222]) func189
def fok190:=fo [1000003] func190
def fok191:=fo [1000004] func191
def fok192:=fo [1000004] func192
def fok193:=fo [1000004] func193
def fok194:=fo [1000004,1000034] func194
def fok195:=fo [1000004,1000034] func195
def fok196:=fo [1000004,1000025] func196
def fok197:=fo [1000002,1000003] func197
def fok198:=fo [1000001] func198
def fok199:=fo [] func199
def fok200:=fo [1000004] func200
def fok201:=fo [1000002,1000003] func201
def fok204:=fo [1000003] func204
def fok205:=fo [1000002,1000003] func205
def fok206:=fo [] func206
def fok207:=fo [] func207
def fok208:=fo [] func208
def fok209:=fo [] func209
def fok210:=fo [] func210
def fok211:=fo [] func211
def fok212:=fo [] func212
def fok213:=fo [] func213
def fok214:=fo [] func214
def fok215:=fo [] func215
def fok216:=fo [1000004] func216
def fok217:=fo [] func217
def fok219:=fo [1000001] func219
def fok220:=fo [] func220
def fok221:=fo [] func221
def fok222:=fo [] func222
def fok223:=fo [1000053] func223
def fok224:=fo [1000003] func224
def fok225:=fo [] func225
def fok226:=fo [1000004,1000022] func226
def fok227:=fo [1000028,1000029,1000035,1000044] func227
def fok228:=fo [1000019,1000025,1000030,1000035,1000036,1000048] func228
def fok229:=fo [1000002,1000003] func229
def fok230:=fo ([1000002,1000003]++[259]) func230
def fok231:=fo [1000003] func231
def fok232:=fo [1000002] func232
end Go.Id.Tryz
