/- Codes that are printed closely,walked. Conditions: none; over any program. -/
import Derived.Test.YtcdomcibjgbalaaGreatDoorT6
import Derived.Test.YtcdomcibjgbalaaGreatDoorMsb
open Nat renaming lt_of_lt_of_le→za,le_add_right→zc,le_trans→zd
open List renaming length_map→zb,getD_eq_getElem?_getD→ze,flatten_cons→zf,map_cons→zg,length_append→zi
open Option renaming some→zh
set_option linter.all false
private theorem om{P:Prop}(h:P:=by omega):P:=h
namespace Go.Id
open Go
theorem kv7 {d:Nat}{q:IQ}:oQ d q=⟨zh d,none,.q q⟩:=nr rfl
theorem kv8 {d:Nat}{x:IX}:oM d x=⟨zh d,none,.q (.mov x)⟩:=nr rfl
theorem kv9 {d:Nat}{k:IK}:oK d k=⟨zh d,none,k⟩:=nr rfl
theorem kw1 {d s:Nat}{w:Bool}{q:IQ}:gQ d s w q=⟨zh d,zh (s,w),.q q⟩:=nr rfl
theorem kw2 {d s:Nat}{w:Bool}{k:IK}:gK d s w k=⟨zh d,zh (s,w),k⟩:=nr rfl
theorem kw3 {k:IK}:oN k=⟨none,none,k⟩:=nr rfl
theorem kw4 {n:Int}:cI n=.c (.int .i64 n):=nr rfl
theorem kw5 {b:Bool}:cB b=.c (.bool b):=nr rfl
theorem kw6 {n:Int}:zI n=.int .i64 n:=nr rfl
theorem kw7 {n:Int}:zU n=.int .u8 n:=nr rfl
attribute [go_sem] kv7 kv8 kv9 kw1 kw2 kw3 kw4 kw5 kw6 kw7
attribute [go_sem] decide_true decide_false reduceCtorEq Int.reduceLT Int.reduceLE Int.reduceToNat Int.reduceAdd Nat.reduceEqDiff Nat.reduceAdd Nat.reduceMul Nat.reduceLT Nat.reduceLeDiff
attribute [go_sem ↓] reduceIte
theorem nZ {a b:Nat} (h:Nat.ble a b=true):a<=b:=Nat.le_of_ble_eq_true h
abbrev T0:IX:=.t 0
abbrev T1:IX:=.t 1
abbrev T2:IX:=.t 2
abbrev T3:IX:=.t 3
abbrev T4:IX:=.t 4
abbrev T5:IX:=.t 5
abbrev T6:IX:=.t 6
abbrev T7:IX:=.t 7
abbrev T8:IX:=.t 8
abbrev T9:IX:=.t 9
abbrev T10:IX:=.t 10
abbrev T11:IX:=.t 11
abbrev T12:IX:=.t 12
abbrev T13:IX:=.t 13
abbrev T14:IX:=.t 14
abbrev T15:IX:=.t 15
abbrev T16:IX:=.t 16
abbrev T17:IX:=.t 17
abbrev T18:IX:=.t 18
abbrev T19:IX:=.t 19
abbrev T20:IX:=.t 20
abbrev T21:IX:=.t 21
abbrev T22:IX:=.t 22
abbrev T23:IX:=.t 23
abbrev T24:IX:=.t 24
abbrev T25:IX:=.t 25
abbrev T26:IX:=.t 26
abbrev T27:IX:=.t 27
abbrev T28:IX:=.t 28
abbrev T29:IX:=.t 29
abbrev T30:IX:=.t 30
abbrev T31:IX:=.t 31
abbrev T32:IX:=.t 32
abbrev T33:IX:=.t 33
abbrev T34:IX:=.t 34
abbrev T35:IX:=.t 35
abbrev T36:IX:=.t 36
abbrev T37:IX:=.t 37
abbrev T38:IX:=.t 38
abbrev T39:IX:=.t 39
abbrev T40:IX:=.t 40
abbrev T41:IX:=.t 41
abbrev T42:IX:=.t 42
abbrev T43:IX:=.t 43
abbrev T44:IX:=.t 44
abbrev T45:IX:=.t 45
abbrev T46:IX:=.t 46
abbrev T47:IX:=.t 47
abbrev T48:IX:=.t 48
abbrev T49:IX:=.t 49
abbrev T50:IX:=.t 50
abbrev T51:IX:=.t 51
abbrev T52:IX:=.t 52
abbrev T53:IX:=.t 53
abbrev T54:IX:=.t 54
abbrev T55:IX:=.t 55
abbrev T56:IX:=.t 56
abbrev T57:IX:=.t 57
abbrev T58:IX:=.t 58
abbrev T59:IX:=.t 59
abbrev T60:IX:=.t 60
abbrev T61:IX:=.t 61
abbrev T62:IX:=.t 62
abbrev T63:IX:=.t 63
abbrev T64:IX:=.t 64
abbrev T65:IX:=.t 65
abbrev T66:IX:=.t 66
abbrev T67:IX:=.t 67
abbrev T68:IX:=.t 68
abbrev T69:IX:=.t 69
abbrev T70:IX:=.t 70
abbrev T71:IX:=.t 71
abbrev T72:IX:=.t 72
abbrev T73:IX:=.t 73
abbrev T74:IX:=.t 74
abbrev T75:IX:=.t 75
abbrev T76:IX:=.t 76
abbrev T77:IX:=.t 77
abbrev T78:IX:=.t 78
abbrev T79:IX:=.t 79
abbrev T80:IX:=.t 80
abbrev T81:IX:=.t 81
abbrev T82:IX:=.t 82
abbrev T83:IX:=.t 83
abbrev T84:IX:=.t 84
abbrev T85:IX:=.t 85
abbrev T86:IX:=.t 86
abbrev T87:IX:=.t 87
abbrev T88:IX:=.t 88
abbrev T89:IX:=.t 89
abbrev T90:IX:=.t 90
abbrev T91:IX:=.t 91
abbrev T92:IX:=.t 92
abbrev T93:IX:=.t 93
abbrev T94:IX:=.t 94
abbrev T95:IX:=.t 95
abbrev T96:IX:=.t 96
abbrev T97:IX:=.t 97
abbrev T98:IX:=.t 98
abbrev T99:IX:=.t 99
abbrev T100:IX:=.t 100
abbrev T101:IX:=.t 101
abbrev T102:IX:=.t 102
abbrev T103:IX:=.t 103
abbrev T104:IX:=.t 104
abbrev T105:IX:=.t 105
abbrev T106:IX:=.t 106
abbrev T107:IX:=.t 107
abbrev T108:IX:=.t 108
abbrev T109:IX:=.t 109
abbrev T110:IX:=.t 110
abbrev T111:IX:=.t 111
abbrev T112:IX:=.t 112
abbrev T113:IX:=.t 113
abbrev T114:IX:=.t 114
abbrev T115:IX:=.t 115
abbrev T116:IX:=.t 116
abbrev T117:IX:=.t 117
abbrev T118:IX:=.t 118
abbrev T119:IX:=.t 119
abbrev T120:IX:=.t 120
abbrev T121:IX:=.t 121
abbrev T122:IX:=.t 122
abbrev T123:IX:=.t 123
abbrev T124:IX:=.t 124
abbrev T125:IX:=.t 125
abbrev T126:IX:=.t 126
abbrev T127:IX:=.t 127
abbrev T128:IX:=.t 128
abbrev T129:IX:=.t 129
abbrev T130:IX:=.t 130
abbrev T131:IX:=.t 131
abbrev T132:IX:=.t 132
abbrev T133:IX:=.t 133
abbrev T134:IX:=.t 134
abbrev T135:IX:=.t 135
abbrev T136:IX:=.t 136
abbrev T137:IX:=.t 137
abbrev T138:IX:=.t 138
abbrev T139:IX:=.t 139
abbrev T140:IX:=.t 140
abbrev T141:IX:=.t 141
abbrev T142:IX:=.t 142
abbrev T143:IX:=.t 143
abbrev T144:IX:=.t 144
abbrev T145:IX:=.t 145
abbrev T146:IX:=.t 146
abbrev T147:IX:=.t 147
abbrev T148:IX:=.t 148
abbrev T149:IX:=.t 149
abbrev T150:IX:=.t 150
abbrev T151:IX:=.t 151
abbrev T152:IX:=.t 152
abbrev T153:IX:=.t 153
abbrev T154:IX:=.t 154
abbrev T155:IX:=.t 155
abbrev T156:IX:=.t 156
abbrev T157:IX:=.t 157
abbrev T158:IX:=.t 158
abbrev T159:IX:=.t 159
abbrev T160:IX:=.t 160
abbrev T161:IX:=.t 161
abbrev T162:IX:=.t 162
abbrev T163:IX:=.t 163
abbrev T164:IX:=.t 164
abbrev T165:IX:=.t 165
abbrev T166:IX:=.t 166
abbrev T167:IX:=.t 167
abbrev T168:IX:=.t 168
abbrev T169:IX:=.t 169
abbrev T170:IX:=.t 170
abbrev T171:IX:=.t 171
abbrev T172:IX:=.t 172
abbrev T173:IX:=.t 173
abbrev T174:IX:=.t 174
abbrev T175:IX:=.t 175
abbrev T176:IX:=.t 176
abbrev T177:IX:=.t 177
abbrev T178:IX:=.t 178
abbrev T179:IX:=.t 179
abbrev T180:IX:=.t 180
abbrev T181:IX:=.t 181
abbrev T182:IX:=.t 182
abbrev T183:IX:=.t 183
abbrev T184:IX:=.t 184
abbrev T185:IX:=.t 185
abbrev T186:IX:=.t 186
abbrev T187:IX:=.t 187
abbrev T188:IX:=.t 188
abbrev T189:IX:=.t 189
abbrev T190:IX:=.t 190
abbrev T191:IX:=.t 191
variable {P:Program} {E:Nat->IV} {σ:Store} {N n0 id:Nat} {fr:Frm} {pt:PT} {ct:CT} {Q:Exit->Frm->Store->Prop} {K:IV->Store->Prop}
theorem ak1 {P:IV->Prop}{a:IV}(h:P a):∀v∈[a],P v:=by simpa using h
theorem ah6 {P:IV->Prop}{a b:IV}(h:P a)(h2:P b):∀v∈[a,b],P v:=by simpa using ⟨h,h2⟩
theorem ce2 {P:IV->Prop}{a b c:IV}(h:P a)(h2:P b)(h3:P c):∀v∈[a,b,c],P v:=by simpa using ⟨h,h2,h3⟩
theorem jr2 {P:IV->Prop}{a b c d:IV}(h:P a)(h2:P b)(h3:P c)(h4:P d):∀v∈[a,b,c,d],P v:=by simpa using ⟨h,h2,h3,h4⟩
theorem jb7 {P:IV->Prop}{a b c d e:IV}(h:P a)(h2:P b)(h3:P c)(h4:P d)(h5:P e):∀v∈[a,b,c,d,e],P v:=by simpa using ⟨h,h2,h3,h4,h5⟩
theorem kg6 {P:IV->Prop}{a b c d e f:IV}(h:P a)(h2:P b)(h3:P c)(h4:P d)(h5:P e)(h6:P f):∀v∈[a,b,c,d,e,f],P v:=by simpa using ⟨h,h2,h3,h4,h5,h6⟩
theorem kg7 {ag:Option Nat}{x:IX}:evq E fr σ (.ldt ag x)=jj6 ag (x.ev E fr):=nr rfl
theorem jr3 {cs:List IV}:jj6 none (.ab8 cs)=cs.head?:=nr rfl
theorem jr4 {n:Nat}{cs:List IV}:jj6 (zh n) (.ab8 cs)=if n<=cs.length then zh (.agg (cs.take n)) else none:=nr rfl
attribute [go_sem] kg7 jr3 jr4
end Go.Id
namespace Go.Id
open Go Go.Id.Md
variable {P:Program} {E:Nat->IV} {σ s t:Store} {v:IV} {zs:List Int} {lo:Nat}
abbrev bh4 (n:Int):IV:=.int .i64 n
def ci5 (s:Store)(lo:Nat)(v:IV)(zs:List Int):Prop :=
 (v=.aa1/\zs=[])\/∃id cs,lo<=id/\id<s.next/\v=.slice id 0 zs.length 1/\s.obj id=zh (.row cs)/\cs.take zs.length=zs.map bh4/\zs.length<=cs.length
def ai4 (s:Store)(lo:Nat)(v:IV)(zs:List Int):Prop :=
 (v=.aa1/\zs=[])\/∃id,lo<=id/\id<s.next/\v=.slice id 0 zs.length 1/\s.obj id=zh (.row (zs.map bh4))
theorem ai4.w (h:ai4 s lo v zs):ci5 s lo v zs:=by
 rcases h with h|⟨id,h1,h2,h3,h4⟩
 ·exact .inl h
 ·exact .inr ⟨id,_,h1,h2,h3,h4,by rw[List.take_of_length_le (by simp)],by simp⟩
structure Kept (σ s:Store):Prop where
 next:σ.next<=s.next
 obj:∀i,i<σ.next->s.obj i=σ.obj i
theorem Kept.refl (σ:Store):Kept σ σ:=⟨Nat.le_refl _,λ_ _=>rfl⟩
theorem Kept.trans (h:Kept σ s)(h2:Kept s t):Kept σ t:=⟨zd h.next h2.next,λi hi=>by rw[h2.obj i (za hi h.next),h.obj i hi]⟩
def ka1 (σ:Store)(zs:List Int)(v:IV)(s:Store):Prop:=Kept σ s/\ci5 s σ.next v zs
def bo1 (σ:Store)(zs:List Int)(v:IV)(s:Store):Prop:=Kept σ s/\ai4 s σ.next v zs
theorem bo1.w (h:bo1 σ zs v s):ka1 σ zs v s:=⟨h.1,h.2.w⟩
theorem ea5 {cs:List IV}(h:cs.take zs.length=zs.map bh4){i:Nat}(hi:i<zs.length):cs.getD i .undef=bh4 zs[i]:=by
 have h1:(cs.take zs.length)[i]? = (zs.map bh4)[i]?:=by rw[h]
 rw[List.getElem?_take,if_pos hi,List.getElem?_map,List.getElem?_eq_getElem hi] at h1;rw[ze,h1];rfl
theorem ci5.frz {S:Nat->Prop}(h:ci5 s lo v zs)(hS:∀i,lo<=i->¬S i):Frz s S v (.aa3 (zs.map Md.ae1)):=by
 rcases h with ⟨rfl,rfl⟩|⟨id,cs,h1,h2,rfl,h4,h5,h6⟩
 ·exact .bz3
 ·refine .slice id 0 zs.length 1 cs (zs.map Md.ae1) (hS id h1) (.inr h4) (by rw[zb]) om (λi hi=>?_) λi hi j hj=>?_
  ·simp[ze,hi,Md.ae1]
  ·have hj0:j=0:=om;subst hj0;have e2:((zs.map Md.ae1).getD i []).getD 0 .undef=bh4 zs[i]:=by simp[ze,hi,Md.ae1]
   rw[e2,Nat.zero_add,Nat.mul_one,Nat.add_zero,ea5 h5 hi];exact .keep _ (.int _ _)
theorem ir2 {f:Nat}{args:List IV}(h:∀σ,C P E f args σ (ka1 σ zs)):PC P E f args (.aa3 (zs.map Md.ae1)):=
 gr7 λσ _=>(h σ).mono λv s ⟨h1,h2⟩=>⟨h1.obj,h1.next,h2.frz λi hi hl=>Nat.lt_irrefl _ (za hl hi)⟩
theorem ea6 {f:Nat}{args:List IV}(h:∀σ,C P E f args σ (bo1 σ zs)):PC P E f args (.aa3 (zs.map Md.ae1)):=
 ir2 λσ=>(h σ).mono λ_ _=>bo1.w
theorem ai4.grow (h:Grow s v 1 (zs.map Md.ae1))(hlo:∀id,v=.slice id 0 zs.length 1->lo<=id):ai4 s lo v zs:=by
 have hfl:∀zs:List Int,(zs.map Md.ae1).flatten=zs.map bh4:=λzs=>by
  induction zs with
  | nil=>rfl
  | cons z zs ih=>simp only[zg,zf,ih];rfl
 rcases h with ⟨rfl,h⟩|⟨id,rfl,ho,hid⟩
 ·exact .inl ⟨rfl,List.map_eq_nil_iff.1 h⟩
 ·rw[zb] at hlo;exact .inr ⟨id,hlo id rfl,hid,by rw[zb],by rw[ho,hfl]⟩
theorem ai4.gr (h:ai4 s lo v zs):Grow s v 1 (zs.map Md.ae1):=by
 have hfl:∀zs:List Int,(zs.map Md.ae1).flatten=zs.map bh4:=λzs=>by
  induction zs with
  | nil=>rfl
  | cons z zs ih=>simp only[zg,zf,ih];rfl
 rcases h with ⟨rfl,rfl⟩|⟨id,h1,h2,rfl,ho⟩
 ·exact .inl ⟨rfl,rfl⟩
 ·exact .inr ⟨id,by rw[zb],by rw[ho,hfl],h2⟩
theorem az9 {nid:Nat}(h:ai4 s lo v zs)(n:Int)(hn:zs.length<2147483648) :
  as2 s nid 1 v (.aa3 [[.int .i64 n]])=zh (.slice nid 0 (zs.length+1) 1,(ae9 v s).put nid (.row ((zs++[n]).map bh4))):=by
 have hg:=ai2 (nid:=nid) (e:=[.int .i64 n]) h.gr (λx hx=>by obtain ⟨y,_,rfl⟩:=List.mem_map.1 hx;exact ⟨rfl,rfl⟩) ⟨rfl,rfl⟩ (by rw[zb];exact hn);rw[hg,zb];congr 4;rw[List.flatten_append,List.map_append];congr 1;generalize zs=l
 induction l with
 | nil=>rfl
 | cons z zs ih=>simp only[zg,zf,ih];rfl
theorem gq8 (h:ai4 s lo v zs){i:Nat}(hi:i<lo):(ae9 v s).obj i=s.obj i:=by
 rcases h with ⟨rfl,_⟩|⟨id,h1,h2,rfl,ho⟩
 ·rfl
 ·show (if i=id then none else s.obj i)=s.obj i;rw[if_neg om]
theorem Kept.up (h:Kept σ s)(n:Nat):Kept σ ⟨s.next+n,s.obj⟩:=⟨zd h.next (zc _ _),h.obj⟩
theorem ai4.up (h:ai4 s lo v zs)(n:Nat):ai4 ⟨s.next+n,s.obj⟩ lo v zs:=by
 rcases h with h|⟨id,h1,h2,h3,h4⟩
 ·exact .inl h
 ·exact .inr ⟨id,h1,za h2 (zc _ _),h3,h4⟩
theorem ci5.up (h:ci5 s lo v zs)(n:Nat):ci5 ⟨s.next+n,s.obj⟩ lo v zs:=by
 rcases h with h|⟨id,cs,h1,h2,h3,h4⟩
 ·exact .inl h
 ·exact .inr ⟨id,cs,h1,za h2 (zc _ _),h3,h4⟩
theorem ai4.kept (h:ai4 s lo v zs)(hk:Kept s t):ai4 t lo v zs:=by
 rcases h with h|⟨id,h1,h2,h3,h4⟩
 ·exact .inl h
 ·exact .inr ⟨id,h1,za h2 hk.next,h3,by rw[hk.obj id h2];exact h4⟩
theorem ci5.kept (h:ci5 s lo v zs)(hk:Kept s t):ci5 t lo v zs:=by
 rcases h with h|⟨id,cs,h1,h2,h3,h4,h5⟩
 ·exact .inl h
 ·exact .inr ⟨id,cs,h1,za h2 hk.next,h3,by rw[hk.obj id h2];exact h4,h5⟩
theorem Kept.low {k:Nat}(h:Kept ⟨σ.next+k,σ.obj⟩ s):Kept σ s:=⟨zd (zc _ k) h.next,λi hi=>h.obj i (za hi (zc _ k))⟩
theorem ai4.low {lo':Nat}(h:ai4 s lo v zs)(hl:lo'<=lo):ai4 s lo' v zs:=by
 rcases h with h|⟨id,h1,h2⟩
 ·exact .inl h
 ·exact .inr ⟨id,zd hl h1,h2⟩
theorem ci5.low {lo':Nat}(h:ci5 s lo v zs)(hl:lo'<=lo):ci5 s lo' v zs:=by
 rcases h with h|⟨id,cs,h1,h2⟩
 ·exact .inl h
 ·exact .inr ⟨id,cs,zd hl h1,h2⟩
theorem Kept.box (t:Store)(A B:aj2):Kept t ⟨t.next+1,(((⟨t.next+1,t.obj⟩:Store).put t.next A).put t.next B).obj⟩:=⟨Nat.le_succ _,λi hi=>by
 have h:¬i=t.next:=om;show (if i=t.next then _ else if i=t.next then _ else t.obj i)=_;rw[if_neg h,if_neg h]⟩
theorem gq9:∀zs:List Int,(zs.map Md.ae1).flatten=zs.map bh4:=λzs=>by
 induction zs with
 | nil=>rfl
 | cons z zs ih=>simp only[zg,zf,ih];rfl
theorem ek6 (zs:List Int):(zs.map bh4).all IV.leaf=true:=by
 rw[List.all_map];exact List.all_eq_true.2 λ_ _=>rfl
theorem ib8 {nid:Nat}{xs:List Int}(h:ai4 s lo v zs)(hn:zs.length+xs.length<=2147483648) :
  ∃v' σ',as2 s nid 1 v (.aa3 (xs.map Md.ae1))=zh (v',σ')/\σ'.next=s.next/\(∀i,i<lo->i≠nid->σ'.obj i=s.obj i)/\∀τ:Store,τ.obj=σ'.obj->nid<τ.next->s.next<=τ.next->lo<=nid->ai4 τ lo v' (zs++xs):=by
 have hsrc:bx4 s 1 (.aa3 (xs.map Md.ae1))=zh (xs.length,xs.map bh4):=by
  have h1:(xs.map Md.ae1).all (λe=>e.length==1)=true:=List.all_eq_true.2 λx hx=>by
   obtain ⟨y,_,rfl⟩:=List.mem_map.1 hx;rfl
  simp only[bx4,h1,if_true,zb,gq9]
 have hx0:¬((xs.map bh4).all IV.leaf=false):=by rw[ek6];decide
 unfold as2;rw[hsrc];simp only[hx0,if_false];by_cases h0:xs.length=0
 ·have hxs:xs=[]:=List.length_eq_zero_iff.1 h0;subst hxs;rw[List.append_nil];rcases h with ⟨rfl,he⟩|⟨id,i1,i2,rfl,ho⟩
  ·exact ⟨.aa1,s,rfl,rfl,λ_ _ _=>rfl,λτ _ _ _ _=>.inl ⟨rfl,he⟩⟩
  ·simp only[ho,List.length_nil,and_self,if_true];exact ⟨_,_,rfl,rfl,λ_ _ _=>rfl,λτ h1 _ h3 _=>.inr ⟨id,i1,om,rfl,by rw[h1];exact ho⟩⟩
 ·rcases h with ⟨rfl,he⟩|⟨id,i1,i2,rfl,ho⟩
  ·subst he;have hle:xs.length<=2147483648:=by simpa using hn
   simp only[h0,if_false,hle,if_true];refine ⟨_,_,rfl,rfl,λi _ hi=>if_neg hi,λτ h1 h2 _ h4=>.inr ⟨nid,h4,h2,by rw[List.nil_append],?_⟩⟩;rw[h1,aa5,if_pos rfl,List.nil_append]
  ·have h1:0+zs.length*1=(zs.map bh4).length:=by rw[zb];omega
   simp only[ho,h0,and_false,if_false,h1,hn,List.drop_zero,ek6,and_self,if_true];refine ⟨_,_,rfl,rfl,λi hi hne=>?_,λτ h3 h4 _ h6=>.inr ⟨nid,h6,h4,by rw[zi],?_⟩⟩
   ·show (if i=nid then _ else if i=id then none else s.obj i)=_;rw[if_neg hne,if_neg om]
   ·rw[h3,aa5,if_pos rfl,List.map_append]
    try rfl
theorem ib9 {gv:IV}{esz b nid k:Nat}{es:List (List IV)}{e cs:List IV}{A B:aj2}(hg:Grow s gv esz es)(h:∀x∈es,x.length=esz/\x.all IV.leaf=true)(he:e.length=esz/\e.all IV.leaf=true)(hn:es.length<2147483648)
  (hb:s.obj b=zh (.cells cs)) (hbl:b<s.next) (hnid:s.next<nid) :
  ∃s1,as2 ⟨s.next+1+k,(((⟨s.next+1,s.obj⟩:Store).put s.next A).put s.next B).obj⟩ nid esz gv (.aa3 [e])=zh (.slice nid 0 (es.length+1) esz,s1)/\s1.next=s.next+1+k/\s1.obj b=zh (.cells cs) /\
   ∀cs' nx,nid<nx->Grow ⟨nx,(s1.put b (.cells cs')).obj⟩ (.slice nid 0 (es.length+1) esz) esz (es++[e]):=by
 have ho:∀i,i<s.next->(((⟨s.next+1,s.obj⟩:Store).put s.next A).put s.next B).obj i=s.obj i:=λi hi=>by
  show (if i=s.next then _ else if i=s.next then _ else s.obj i)=_;rw[if_neg om,if_neg om]
 have hg1:Grow ⟨s.next+1+k,(((⟨s.next+1,s.obj⟩:Store).put s.next A).put s.next B).obj⟩ gv esz es:=Grow.mono (σ:=s) hg (by show s.next<=s.next+1+k;omega) λid _ hid=>ho id hid
 have hb1:(((⟨s.next+1,s.obj⟩:Store).put s.next A).put s.next B).obj b=zh (.cells cs):=by rw[ho b hbl,hb]
 refine ⟨_,ai2 hg1 h he hn,by rw[aa8,ab7],?_,λcs' nx hnx=>?_⟩
 ·rw[aa5,if_neg om];exact af5 hg1 b _ hb1 (λ_ e=>by cases e)
 ·refine Grow.new (v:=.aa1) hnx ?_;show (if nid=b then _ else if nid=nid then _ else _)=_;rw[if_neg om,if_pos rfl]
theorem bb2 (hk:Kept σ s)(h:ai4 s σ.next v zs)(n:Int){a nid:Nat}(h1:s.next<=nid)(h2:nid<s.next+a){cs:List IV}(hc:cs=(zs++[n]).map bh4) :
  Kept σ ((ae9 v ⟨s.next+a,s.obj⟩).put nid (.row cs))/\ai4 ((ae9 v ⟨s.next+a,s.obj⟩).put nid (.row cs)) σ.next (.slice nid 0 (zs.length+1) 1) (zs++[n]):=by
 subst hc;have hn:(ae9 v ⟨s.next+a,s.obj⟩).next=s.next+a:=ab7 v;refine ⟨⟨?_,λi hi=>?_⟩,.inr ⟨nid,zd hk.next h1,?_,by rw[zi,List.length_singleton],?_⟩⟩
 ·show σ.next<=(ae9 v _).next;rw[hn];exact zd hk.next (zc _ _)
 ·have hne:i≠nid:=λe=>by have:=hk.next;omega
  show (if i=nid then _ else (ae9 v ⟨s.next+a,s.obj⟩).obj i)=_;rw[if_neg hne,gq8 (h.up a) hi];exact hk.obj i hi
 ·show nid<(ae9 v _).next;rw[hn];exact h2
 ·show (if nid=nid then _ else _)=_;rw[if_pos rfl]
end Go.Id
