/- The interpreter,turned so that the kernel runs it in fewer steps; it is the same function. Conditions: none; over any program. -/
import Derived.Test.YtihiokikiejcpaaGreatDoorT6
import Derived.Test.YtihiokikiejcpaaGreatDoorFwQ
import Derived.Test.YtihiokikiejcpaaGreatDoorMb
import Derived.Test.YtihiokikiejcpaaGreatDoorFwV
import Derived.Shelf.Sort.Plain
import Derived.Shelf.Slices.In.SortNone
import Derived.SizedLaws
set_option linter.all false
namespace Go.Id
open Go
noncomputable section
variable {E:Nat->IV} {fr:Frm}
end
end Go.Id
/- Codes,part by part; blocks let go at a call. Conditions: none; over any program. -/
namespace Go.Id
open Go
variable {P:Program} {E:Nat->IV} {σ σ':Store} {N n0:Nat} {fr:Frm}
def ge6 (P:Program)(E:Nat->IV)(N n0:Nat)(b:IC)(Q:Exit->Frm->Store->Prop):Exit->Frm->Store->Prop
 | .normal,fr,σ=>RI P E N n0 b fr σ Q
 | e,fr,σ=>Q e fr σ
theorem iq5 {b:IC}{Q:Exit->Frm->Store->Prop}:ge6 P E N n0 b Q .normal fr σ=RI P E N n0 b fr σ Q:=nr rfl
theorem iq6 {b:IC}{Q:Exit->Frm->Store->Prop}:ge6 P E N n0 b Q .ret fr σ=Q .ret fr σ:=nr rfl
theorem iq7 {b:IC}{i:Nat}{Q:Exit->Frm->Store->Prop}:ge6 P E N n0 b Q (.exit i) fr σ=Q (.exit i) fr σ:=nr rfl
attribute [go_sem] iq5 iq6 iq7
theorem ab8 {x:IC}{Q:Exit->Frm->Store->Prop}(h:wpT noP noC P E N n0 x fr σ Q):RI P E N n0 x fr σ Q:=bf6 x fr σ Q (ba9 noT x fr σ Q h)
theorem ab2 {a b:IC}{Q:Exit->Frm->Store->Prop}(h:RI P E N n0 a fr σ (ge6 P E N n0 b Q)):RI P E N n0 (.seq a b) fr σ Q:=by
 intro pf an c hc
 cases c with
 | seq x y=>
  simp only[az9] at hc;split at hc
  ·rename_i xa xb hx hy;cases hc;refine hs8 ((h pf an x hx).mono ?_);intro e f s q
   cases e with
   | normal=>exact q pf an y hy
   | _=>exact q
  ·cases hc
 | region id ops draw=>
  exfalso;simp only[az9] at hc;split at hc
  ·cases hc
  ·split at hc<;>first|(cases hc; done)|(split at hc<;>cases hc)
  ·cases hc
 | cond c a b=>simp only[az9] at hc; split at hc<;>cases hc
 | block id a=>obtain ⟨_,_,h⟩:=map_some hc; cases h
 | scope a=>obtain ⟨_,_,h⟩:=map_some hc; cases h
 | loop a=>obtain ⟨_,_,h⟩:=map_some hc; cases h
 | rangeFunc g ps a b=>
  simp only[az9] at hc;split at hc
  ·split at hc<;>cases hc
  ·cases hc
 | _=>cases hc
theorem ge7 {f:Nat}{ic:IC}{irs:List IR}{args:List IV}{Qc:IV->Store->Prop}(hf:FOK P f (N,ic,irs))(hl:args.length<=N)
  (h:RI P E N σ.next ic (bd5 args 0) σ (fm9 irs Qc)):C P E f args σ Qc:=by
 obtain ⟨_,pf,an,fn,h1,h2,h3,h4⟩:=hf
 cases hb:fn.body with
 | none=>rw[hb] at h3; cases h3
 | some c=>
  rw[hb] at h3;refine ia7 h1 hb h2 hl ((h pf an c h3).mono ?_);intro e fr' σ' q;have q:=ct8 q;cases e<;>first|(obtain ⟨vs,q1,q2⟩:=q; exact ⟨vs,by rw[gq9 _ _ h4]; exact q1,q2⟩)|exact q
theorem ib1 {f:Nat}{ic:IC}{irs:List IR}{args:List IV}{v:IV}(hE:∀ g,Bnd 0 (E g))(hf:FOK P f (N,ic,irs))(hl:args.length<=N)(ha:∀ a∈args,Bnd 0 a)
  (h:RI P E N 0 ic (bd5 args 0) emp (fm9 irs fun v' σ'=>dk5 σ' 0 v' v)):PC P E f args v :=
 ee8 hE ha (ge7 (σ:=emp) hf hl h)
theorem eo7 {S:Nat->Bool}:(σ.kills S).next=σ.next:=nr rfl
theorem bs7 {S:Nat->Bool}{i:Nat}:(σ.kills S).obj i=if S i=true then σ.obj i else none:=nr rfl
attribute [go_sem] eo7 bs7
theorem gz7 {f:Nat}{args args':List IV}{v:IV}(hl:args'.length=args.length)(ha:∀ σ i,i<args.length->Frz σ (fun _=>true=true) (args.getD i .undef) (args'.getD i .undef))(h:PC P E f args' v):PC P E f args v:=fun σ=>
 id3 (S:=fun _=>true) hl (ha σ) (h σ)
end Go.Id
namespace Go.Id
open Go
variable {P:Program} {E:Nat->IV} {σ σ':Store} {N n0:Nat} {fr:Frm}
end Go.Id
set_option linter.all false
namespace Go.Id
open Go
theorem iz2 {d:Nat}{q:IQ}:oQ d q=⟨some d,none,.q q⟩:=nr rfl
theorem iz3 {d:Nat}{x:IX}:oM d x=⟨some d,none,.q (.mov x)⟩:=nr rfl
theorem iz4 {d:Nat}{k:IK}:oK d k=⟨some d,none,k⟩:=nr rfl
theorem iz5 {d s:Nat}{w:Bool}{q:IQ}:gQ d s w q=⟨some d,some (s,w),.q q⟩:=nr rfl
theorem iz6 {d s:Nat}{w:Bool}{k:IK}:gK d s w k=⟨some d,some (s,w),k⟩:=nr rfl
theorem iz7 {k:IK}:oN k=⟨none,none,k⟩:=nr rfl
theorem iz8 {n:Int}:cI n=.c (.int .i64 n):=nr rfl
theorem iz9 {b:Bool}:cB b=.c (.bool b):=nr rfl
theorem ja1 {n:Int}:zI n=.int .i64 n:=nr rfl
theorem ja2 {n:Int}:zU n=.int .u8 n:=nr rfl
attribute [go_sem] iz2 iz3 iz4 iz5 iz6 iz7 iz8 iz9 ja1 ja2
attribute [go_sem] decide_true decide_false reduceCtorEq Int.reduceLT Int.reduceLE Int.reduceToNat Int.reduceAdd Nat.reduceEqDiff Nat.reduceAdd Nat.reduceMul Nat.reduceLT Nat.reduceLeDiff
attribute [go_sem ↓] reduceIte
theorem nZ {a b:Nat} (h:Nat.ble a b=true):a<=b:=Nat.le_of_ble_eq_true h
abbrev T0:IX:=.t 0
abbrev T1:IX:=.t 1
abbrev T2:IX:=.t 2
abbrev T3:IX:=.t 3
abbrev T4:IX:=.t 4
abbrev T5:IX:=.t 5
abbrev T6:IX:=.t 6
abbrev T7:IX:=.t 7
abbrev T8:IX:=.t 8
abbrev T9:IX:=.t 9
abbrev T10:IX:=.t 10
abbrev T11:IX:=.t 11
abbrev T12:IX:=.t 12
abbrev T13:IX:=.t 13
abbrev T14:IX:=.t 14
abbrev T15:IX:=.t 15
abbrev T16:IX:=.t 16
abbrev T17:IX:=.t 17
abbrev T18:IX:=.t 18
abbrev T19:IX:=.t 19
abbrev T20:IX:=.t 20
abbrev T21:IX:=.t 21
abbrev T22:IX:=.t 22
abbrev T23:IX:=.t 23
abbrev T24:IX:=.t 24
abbrev T25:IX:=.t 25
abbrev T26:IX:=.t 26
abbrev T27:IX:=.t 27
abbrev T28:IX:=.t 28
abbrev T29:IX:=.t 29
abbrev T30:IX:=.t 30
abbrev T31:IX:=.t 31
abbrev T32:IX:=.t 32
abbrev T33:IX:=.t 33
abbrev T34:IX:=.t 34
abbrev T35:IX:=.t 35
abbrev T36:IX:=.t 36
abbrev T37:IX:=.t 37
abbrev T38:IX:=.t 38
abbrev T39:IX:=.t 39
abbrev T40:IX:=.t 40
abbrev T41:IX:=.t 41
abbrev T42:IX:=.t 42
abbrev T43:IX:=.t 43
abbrev T44:IX:=.t 44
abbrev T45:IX:=.t 45
abbrev T46:IX:=.t 46
abbrev T47:IX:=.t 47
abbrev T48:IX:=.t 48
abbrev T49:IX:=.t 49
abbrev T50:IX:=.t 50
abbrev T51:IX:=.t 51
abbrev T52:IX:=.t 52
abbrev T53:IX:=.t 53
abbrev T54:IX:=.t 54
abbrev T55:IX:=.t 55
abbrev T56:IX:=.t 56
abbrev T57:IX:=.t 57
abbrev T58:IX:=.t 58
abbrev T59:IX:=.t 59
abbrev T60:IX:=.t 60
abbrev T61:IX:=.t 61
abbrev T62:IX:=.t 62
abbrev T63:IX:=.t 63
abbrev T64:IX:=.t 64
abbrev T65:IX:=.t 65
abbrev T66:IX:=.t 66
abbrev T67:IX:=.t 67
abbrev T68:IX:=.t 68
abbrev T69:IX:=.t 69
abbrev T70:IX:=.t 70
abbrev T71:IX:=.t 71
abbrev T72:IX:=.t 72
abbrev T73:IX:=.t 73
abbrev T74:IX:=.t 74
abbrev T75:IX:=.t 75
abbrev T76:IX:=.t 76
abbrev T77:IX:=.t 77
abbrev T78:IX:=.t 78
abbrev T79:IX:=.t 79
abbrev T80:IX:=.t 80
abbrev T81:IX:=.t 81
abbrev T82:IX:=.t 82
abbrev T83:IX:=.t 83
abbrev T84:IX:=.t 84
abbrev T85:IX:=.t 85
abbrev T86:IX:=.t 86
abbrev T87:IX:=.t 87
abbrev T88:IX:=.t 88
abbrev T89:IX:=.t 89
abbrev T90:IX:=.t 90
abbrev T91:IX:=.t 91
abbrev T92:IX:=.t 92
abbrev T93:IX:=.t 93
abbrev T94:IX:=.t 94
abbrev T95:IX:=.t 95
abbrev T96:IX:=.t 96
abbrev T97:IX:=.t 97
abbrev T98:IX:=.t 98
abbrev T99:IX:=.t 99
abbrev T100:IX:=.t 100
abbrev T101:IX:=.t 101
abbrev T102:IX:=.t 102
abbrev T103:IX:=.t 103
abbrev T104:IX:=.t 104
abbrev T105:IX:=.t 105
abbrev T106:IX:=.t 106
abbrev T107:IX:=.t 107
abbrev T108:IX:=.t 108
abbrev T109:IX:=.t 109
abbrev T110:IX:=.t 110
abbrev T111:IX:=.t 111
abbrev T112:IX:=.t 112
abbrev T113:IX:=.t 113
abbrev T114:IX:=.t 114
abbrev T115:IX:=.t 115
abbrev T116:IX:=.t 116
abbrev T117:IX:=.t 117
abbrev T118:IX:=.t 118
abbrev T119:IX:=.t 119
abbrev T120:IX:=.t 120
abbrev T121:IX:=.t 121
abbrev T122:IX:=.t 122
abbrev T123:IX:=.t 123
abbrev T124:IX:=.t 124
abbrev T125:IX:=.t 125
abbrev T126:IX:=.t 126
abbrev T127:IX:=.t 127
abbrev T128:IX:=.t 128
abbrev T129:IX:=.t 129
abbrev T130:IX:=.t 130
abbrev T131:IX:=.t 131
abbrev T132:IX:=.t 132
abbrev T133:IX:=.t 133
abbrev T134:IX:=.t 134
abbrev T135:IX:=.t 135
abbrev T136:IX:=.t 136
abbrev T137:IX:=.t 137
abbrev T138:IX:=.t 138
abbrev T139:IX:=.t 139
abbrev T140:IX:=.t 140
abbrev T141:IX:=.t 141
abbrev T142:IX:=.t 142
abbrev T143:IX:=.t 143
abbrev T144:IX:=.t 144
abbrev T145:IX:=.t 145
abbrev T146:IX:=.t 146
abbrev T147:IX:=.t 147
abbrev T148:IX:=.t 148
abbrev T149:IX:=.t 149
abbrev T150:IX:=.t 150
abbrev T151:IX:=.t 151
abbrev T152:IX:=.t 152
abbrev T153:IX:=.t 153
abbrev T154:IX:=.t 154
abbrev T155:IX:=.t 155
abbrev T156:IX:=.t 156
abbrev T157:IX:=.t 157
abbrev T158:IX:=.t 158
abbrev T159:IX:=.t 159
abbrev T160:IX:=.t 160
abbrev T161:IX:=.t 161
abbrev T162:IX:=.t 162
abbrev T163:IX:=.t 163
abbrev T164:IX:=.t 164
abbrev T165:IX:=.t 165
abbrev T166:IX:=.t 166
abbrev T167:IX:=.t 167
abbrev T168:IX:=.t 168
abbrev T169:IX:=.t 169
abbrev T170:IX:=.t 170
abbrev T171:IX:=.t 171
abbrev T172:IX:=.t 172
abbrev T173:IX:=.t 173
abbrev T174:IX:=.t 174
abbrev T175:IX:=.t 175
abbrev T176:IX:=.t 176
abbrev T177:IX:=.t 177
end Go.Id
set_option linter.all false
namespace Go.Id
open Go
variable {P:Program} {E:Nat->IV} {σ:Store} {N n0 id:Nat} {fr:Frm} {pt:PT} {ct:CT} {Q:Exit->Frm->Store->Prop} {K:IV->Store->Prop}
theorem fn5 {P:IV->Prop}{a:IV}(h:P a):∀ v∈[a],P v:=by simpa using h
theorem au8 {P:IV->Prop}{a b:IV}(h:P a)(h2:P b):∀ v∈[a,b],P v:=by simpa using ⟨h,h2⟩
theorem dy4 {P:IV->Prop}{a b c:IV}(h:P a)(h2:P b)(h3:P c):∀ v∈[a,b,c],P v:=by simpa using ⟨h,h2,h3⟩
theorem gf7 {P:IV->Prop}{a b c d:IV}(h:P a)(h2:P b)(h3:P c)(h4:P d):∀ v∈[a,b,c,d],P v:=by simpa using ⟨h,h2,h3,h4⟩
theorem ha9 {P:IV->Prop}{a b c d e:IV}(h:P a)(h2:P b)(h3:P c)(h4:P d)(h5:P e):∀ v∈[a,b,c,d,e],P v:=by simpa using ⟨h,h2,h3,h4,h5⟩
theorem ir2 {ag:Option Nat}{x:IX}:evq E fr σ (.ldt ag x)=hn6 ag (x.ev E fr):=nr rfl
theorem id4 {cs:List IV}:hn6 none (.ad4 cs)=cs.head?:=nr rfl
theorem id5 {n:Nat}{cs:List IV}:hn6 (some n) (.ad4 cs)=if n<=cs.length then some (.agg (cs.take n)) else none:=nr rfl
attribute [go_sem] ir2 id4 id5
end Go.Id
set_option linter.all false
namespace Go.Id
open Go Go.Id.Md
variable {P:Program} {E:Nat->IV} {σ s t:Store} {v:IV} {zs:List Int} {lo:Nat}
abbrev as4 (n:Int):IV:=.int .i64 n
def ee6 (s:Store)(lo:Nat)(v:IV)(zs:List Int):Prop :=
 (v=.aa1/\zs=[])\/∃ id cs,lo<=id/\id<s.next/\v=.slice id 0 zs.length 1/\s.obj id=some (.row cs)/\cs.take zs.length=zs.map as4/\zs.length<=cs.length
def ad1 (s:Store)(lo:Nat)(v:IV)(zs:List Int):Prop :=
 (v=.aa1/\zs=[])\/∃ id,lo<=id/\id<s.next/\v=.slice id 0 zs.length 1/\s.obj id=some (.row (zs.map as4))
theorem ad1.w (h:ad1 s lo v zs):ee6 s lo v zs:=by
 rcases h with h|⟨id,h1,h2,h3,h4⟩
 ·exact .inl h
 ·exact .inr ⟨id,_,h1,h2,h3,h4,by rw[List.take_of_length_le (by simp)],by simp⟩
structure Kept (σ s:Store):Prop where
 next:σ.next<=s.next
 obj:∀ i,i<σ.next->s.obj i=σ.obj i
theorem Kept.refl (σ:Store):Kept σ σ:=⟨Nat.le_refl _,fun _ _=>rfl⟩
theorem Kept.trans (h:Kept σ s)(h2:Kept s t):Kept σ t:=⟨Nat.le_trans h.next h2.next,fun i hi=>by rw[h2.obj i (Nat.lt_of_lt_of_le hi h.next),h.obj i hi]⟩
def iy8 (σ:Store)(zs:List Int)(v:IV)(s:Store):Prop:=Kept σ s/\ee6 s σ.next v zs
def fm5 (σ:Store)(zs:List Int)(v:IV)(s:Store):Prop:=Kept σ s/\ad1 s σ.next v zs
theorem fm5.w (h:fm5 σ zs v s):iy8 σ zs v s:=⟨h.1,h.2.w⟩
theorem fm6 {cs:List IV}(h:cs.take zs.length=zs.map as4){i:Nat}(hi:i<zs.length):cs.getD i .undef=as4 zs[i]:=by
 have h1:(cs.take zs.length)[i]? = (zs.map as4)[i]?:=by rw[h]
 rw[List.getElem?_take,if_pos hi,List.getElem?_map,List.getElem?_eq_getElem hi] at h1;rw[List.getD_eq_getElem?_getD,h1]; rfl
theorem ee6.frz {S:Nat->Prop}(h:ee6 s lo v zs)(hS:∀ i,lo<=i->¬ S i):Frz s S v (.aa3 (zs.map Md.af9)):=by
 rcases h with ⟨rfl,rfl⟩|⟨id,cs,h1,h2,rfl,h4,h5,h6⟩
 ·exact .dm9
 ·refine .slice id 0 zs.length 1 cs (zs.map Md.af9) (hS id h1) (.inr h4) (by rw[List.length_map]) (by omega) (fun i hi=>?_) fun i hi j hj=>?_
  ·simp[List.getD_eq_getElem?_getD,hi,Md.af9]
  ·have hj0:j=0:=by omega
   subst hj0;have e2:((zs.map Md.af9).getD i []).getD 0 .undef=as4 zs[i]:=by simp[List.getD_eq_getElem?_getD,hi,Md.af9]
   rw[e2,Nat.zero_add,Nat.mul_one,Nat.add_zero,fm6 h5 hi];exact .keep _ (.int _ _)
theorem ad1.grow (h:Grow s v 1 (zs.map Md.af9))(hlo:∀ id,v=.slice id 0 zs.length 1->lo<=id):ad1 s lo v zs:=by
 have hfl:∀ zs:List Int,(zs.map Md.af9).flatten=zs.map as4:=fun zs=>by
  induction zs with
  | nil=>rfl
  | cons z zs ih=>simp only[List.map_cons,List.flatten_cons,ih]; rfl
 rcases h with ⟨rfl,h⟩|⟨id,rfl,ho,hid⟩
 ·exact .inl ⟨rfl,List.map_eq_nil_iff.1 h⟩
 ·rw[List.length_map] at hlo;exact .inr ⟨id,hlo id rfl,hid,by rw[List.length_map],by rw[ho,hfl]⟩
theorem ad1.gr (h:ad1 s lo v zs):Grow s v 1 (zs.map Md.af9):=by
 have hfl:∀ zs:List Int,(zs.map Md.af9).flatten=zs.map as4:=fun zs=>by
  induction zs with
  | nil=>rfl
  | cons z zs ih=>simp only[List.map_cons,List.flatten_cons,ih]; rfl
 rcases h with ⟨rfl,rfl⟩|⟨id,h1,h2,rfl,ho⟩
 ·exact .inl ⟨rfl,rfl⟩
 ·exact .inr ⟨id,by rw[List.length_map],by rw[ho,hfl],h2⟩
theorem bd6 {nid:Nat}(h:ad1 s lo v zs)(n:Int)(hn:zs.length<2147483648) :
  an5 s nid 1 v (.aa3 [[.int .i64 n]])=some (.slice nid 0 (zs.length+1) 1,(ad7 v s).put nid (.row ((zs++[n]).map as4))):=by
 have hg:=aj6 (nid:=nid) (e:=[.int .i64 n]) h.gr (fun x hx=>by obtain ⟨y,_,rfl⟩:=List.mem_map.1 hx; exact ⟨rfl,rfl⟩) ⟨rfl,rfl⟩ (by rw[List.length_map]; exact hn);rw[hg,List.length_map];congr 4;rw[List.flatten_append,List.map_append];congr 1;generalize zs=l
 induction l with
 | nil=>rfl
 | cons z zs ih=>simp only[List.map_cons,List.flatten_cons,ih]; rfl
theorem aq7 (h:ad1 s lo v zs){i:Nat}(hi:i<lo):(ad7 v s).obj i=s.obj i:=by
 rcases h with ⟨rfl,_⟩|⟨id,h1,h2,rfl,ho⟩
 ·rfl
 ·show (if i=id then none else s.obj i)=s.obj i;rw[if_neg (by omega)]
theorem Kept.up (h:Kept σ s)(n:Nat):Kept σ ⟨s.next+n,s.obj⟩:=⟨Nat.le_trans h.next (Nat.le_add_right _ _),h.obj⟩
theorem ad1.up (h:ad1 s lo v zs)(n:Nat):ad1 ⟨s.next+n,s.obj⟩ lo v zs:=by
 rcases h with h|⟨id,h1,h2,h3,h4⟩
 ·exact .inl h
 ·exact .inr ⟨id,h1,Nat.lt_of_lt_of_le h2 (Nat.le_add_right _ _),h3,h4⟩
theorem ee6.up (h:ee6 s lo v zs)(n:Nat):ee6 ⟨s.next+n,s.obj⟩ lo v zs:=by
 rcases h with h|⟨id,cs,h1,h2,h3,h4⟩
 ·exact .inl h
 ·exact .inr ⟨id,cs,h1,Nat.lt_of_lt_of_le h2 (Nat.le_add_right _ _),h3,h4⟩
theorem ad1.kept (h:ad1 s lo v zs)(hk:Kept s t):ad1 t lo v zs:=by
 rcases h with h|⟨id,h1,h2,h3,h4⟩
 ·exact .inl h
 ·exact .inr ⟨id,h1,Nat.lt_of_lt_of_le h2 hk.next,h3,by rw[hk.obj id h2]; exact h4⟩
theorem ee6.kept (h:ee6 s lo v zs)(hk:Kept s t):ee6 t lo v zs:=by
 rcases h with h|⟨id,cs,h1,h2,h3,h4,h5⟩
 ·exact .inl h
 ·exact .inr ⟨id,cs,h1,Nat.lt_of_lt_of_le h2 hk.next,h3,by rw[hk.obj id h2]; exact h4,h5⟩
theorem Kept.low {k:Nat}(h:Kept ⟨σ.next+k,σ.obj⟩ s):Kept σ s:=⟨Nat.le_trans (Nat.le_add_right _ k) h.next,fun i hi=>h.obj i (Nat.lt_of_lt_of_le hi (Nat.le_add_right _ k))⟩
theorem ad1.low {lo':Nat}(h:ad1 s lo v zs)(hl:lo'<=lo):ad1 s lo' v zs:=by
 rcases h with h|⟨id,h1,h2⟩
 ·exact .inl h
 ·exact .inr ⟨id,Nat.le_trans hl h1,h2⟩
theorem ee6.low {lo':Nat}(h:ee6 s lo v zs)(hl:lo'<=lo):ee6 s lo' v zs:=by
 rcases h with h|⟨id,cs,h1,h2⟩
 ·exact .inl h
 ·exact .inr ⟨id,cs,Nat.le_trans hl h1,h2⟩
theorem Kept.box (t:Store)(A B:ak4):Kept t ⟨t.next+1,(((⟨t.next+1,t.obj⟩:Store).put t.next A).put t.next B).obj⟩:=⟨Nat.le_succ _,fun i hi=>by
 have h:¬ i=t.next:=by omega
 show (if i=t.next then _ else if i=t.next then _ else t.obj i)=_;rw[if_neg h,if_neg h]⟩
theorem bg4 (zs:List Int):(zs.map as4).all IV.leaf=true:=by
 rw[List.all_map]; exact List.all_eq_true.2 fun _ _=>rfl
theorem ge4 (hk:Kept σ s)(h:ad1 s σ.next v zs)(n:Int){a nid:Nat}(h1:s.next<=nid)(h2:nid<s.next+a){cs:List IV}(hc:cs=(zs++[n]).map as4) :
  Kept σ ((ad7 v ⟨s.next+a,s.obj⟩).put nid (.row cs))/\ad1 ((ad7 v ⟨s.next+a,s.obj⟩).put nid (.row cs)) σ.next (.slice nid 0 (zs.length+1) 1) (zs++[n]):=by
 subst hc;have hn:(ad7 v ⟨s.next+a,s.obj⟩).next=s.next+a:=ac1 v;refine ⟨⟨?_,fun i hi=>?_⟩,.inr ⟨nid,Nat.le_trans hk.next h1,?_,by rw[List.length_append,List.length_singleton],?_⟩⟩
 ·show σ.next<=(ad7 v _).next;rw[hn]; exact Nat.le_trans hk.next (Nat.le_add_right _ _)
 ·have hne:i≠nid:=fun e=>by have:=hk.next; omega
  show (if i=nid then _ else (ad7 v ⟨s.next+a,s.obj⟩).obj i)=_;rw[if_neg hne,aq7 (h.up a) hi];exact hk.obj i hi
 ·show nid<(ad7 v _).next;rw[hn]; exact h2
 ·show (if nid=nid then _ else _)=_;rw[if_pos rfl]
end Go.Id
set_option linter.all false
namespace Go.Id
open Go
section
theorem fi4 {s:Store}{v:IV}{esz nid:Nat}{es xs:List (List IV)}(hg:Grow s v esz es)(h:∀ x∈es,x.length=esz/\x.all IV.leaf=true)(hx:∀ x∈xs,x.length=esz/\x.all IV.leaf=true)(hn:es.length+xs.length<=2147483648) :
  (xs=[]/\an5 s nid esz v (.aa3 xs)=some (v,s))\/an5 s nid esz v (.aa3 xs)=some (.slice nid 0 (es.length+xs.length) esz,(ad7 v s).put nid (.row (es++xs).flatten)):=by
 have hsrc:ax8 s esz (.aa3 xs)=some (xs.length,xs.flatten):=by
  have h1:xs.all (fun e=>e.length==esz)=true:=List.all_eq_true.2 fun x hm=>by rw[(hx x hm).1]; simp
  simp only[ax8,h1,if_true]
 have hl:xs.flatten.all IV.leaf=true:=bg1 fun x hm=>(hx x hm).2
 have hl2:es.flatten.all IV.leaf=true:=bg1 fun x hm=>(h x hm).2
 have hfl:es.flatten.length=es.length*esz:=as3 fun x hm=>(h x hm).1
 have hn2:xs.length<=2147483648:=by omega
 by_cases h0:xs.length=0
 ·have hxe:xs=[]:=List.length_eq_zero_iff.1 h0;subst hxe;refine .inl ⟨rfl,?_⟩;unfold an5;rw[hsrc];rcases hg with ⟨rfl,rfl⟩|⟨id,rfl,ho,hid⟩
  ·simp
  ·simp[ho]
 ·refine .inr ?_;unfold an5;rw[hsrc];rcases hg with ⟨rfl,rfl⟩|⟨id,rfl,ho,hid⟩
  ·simp[hl,h0,hn2,ad7]
  ·simp[hl,ho,h0,hfl,hl2,hn,ad7]
theorem bf7 {s:Store}{v:IV}{esz nid:Nat}{es xs:List (List IV)}(hg:Grow s v esz es)(h:∀ x∈es,x.length=esz/\x.all IV.leaf=true)(hx:∀ x∈xs,x.length=esz/\x.all IV.leaf=true)(hn:es.length+xs.length<=2147483648)(hnid:nid<s.next) :
  ∃ v' s',an5 s nid esz v (.aa3 xs)=some (v',s')/\s'.next=s.next/\Grow s' v' esz (es++xs)/\(∀ i,i≠nid->(∀ k,v≠.slice i 0 k esz)->s'.obj i=s.obj i)/\(v'=v\/v'=.slice nid 0 (es.length+xs.length) esz):=by
 rcases fi4 (nid:=nid) hg h hx hn with ⟨rfl,h1⟩|h1
 ·exact ⟨v,s,h1,rfl,by rw[List.append_nil]; exact hg,fun _ _ _=>rfl,.inl rfl⟩
 ·refine ⟨_,_,h1,by rw[aa6,ac1],.inr ⟨nid,by rw[List.length_append],by rw[aa2,if_pos rfl],by rw[aa6,ac1]; exact hnid⟩,fun i hi hv=>?_,.inr rfl⟩;rw[aa2,if_neg hi];rcases hg with ⟨rfl,_⟩|⟨id,rfl,_,_⟩
  ·rfl
  ·show (if i=id then none else s.obj i)=_;rw[if_neg fun e=>hv _ (by rw[e])]
end
end Go.Id
set_option linter.all false
namespace Go.Id
open Go
variable {P:Program} {E:Nat->IV} {σ σ':Store} {N n0:Nat} {fr:Frm}
def de3 (P:Program)(E:Nat->IV)(base:Nat):List YO->Frm->Store->(Frm->Store->Prop)->Prop
 | [],fr,σ,K=>K fr σ
 | (i,o,m)::rest,fr,σ,K=>(m=0/\o.guard=none)/\opT noP noC P E o.op (base+i) fr σ fun v σ'=>de3 P E base rest (fr.ak3 o.dst v) σ' K
def gx4 (P:Program)(E:Nat->IV)(base:Nat)(rest:List YO)(d:Option Nat)(fr:Frm)(K:Frm->Store->Prop):IV->Store->Prop:=fun v σ'=>de3 P E base rest (fr.ak3 d v) σ' K
theorem dw5 {base:Nat}{K:Frm->Store->Prop}:∀ (ops:List YO) (L:List LE) (fr:Frm) (σ:Store),de3 P E base ops fr σ K->aq9 P E (gc4 base ops) L fr σ K:=by
 intro ops
 induction ops with
 | nil=>intro L fr σ h; exact h
 | cons o os ih=>
  obtain ⟨i,⟨d,g,op⟩,m⟩:=o;rintro L fr σ ⟨⟨hm,hg⟩,h⟩;simp only at hm hg h;subst hm;subst hg;refine .inl ⟨rfl,ai7 (fun v s k=>⟨bf9,ih _ _ _ k⟩) (ba8 noT h)⟩
theorem gc5 {id:Nat}{ops:List YO}{keep:List Nat}{Q:Exit->Frm->Store->Prop}(h:de3 P E σ.next ops fr ⟨σ.next+ops.length,σ.obj⟩ (fn2 keep Q)):RI P E N n0 (.en3 id ops keep) fr σ Q :=
 ab8 (show wpT noP noC P E N n0 (.en3 id ops keep) fr σ Q from dw5 ops [] fr _ h)
variable {base i:Nat} {Kf:Frm->Store->Prop} {d:Option Nat} {rest:List YO}
theorem iv4:de3 P E base [] fr σ Kf=Kf fr σ:=nr rfl
theorem iv5 {op:IK}:de3 P E base ((i,⟨d,none,op⟩,0)::rest) fr σ Kf=opT noP noC P E op (base+i) fr σ (gx4 P E base rest d fr Kf):=by
 simp[de3]; rfl
theorem iv6 {d:Nat}(v:IV):gx4 P E base rest (some d) fr Kf v σ=de3 P E base rest ((d,v)::fr) σ Kf:=nr rfl
theorem il9 (v:IV):gx4 P E base rest none fr Kf v σ=de3 P E base rest fr σ Kf:=nr rfl
theorem im1:List.length ([]:List YO)=0:=nr rfl
theorem im2 {y:YO}:List.length (y::rest)=rest.length+1:=nr rfl
attribute [go_sem] iv4 iv5 iv6 il9 im1 im2
end Go.Id
set_option linter.all false
namespace Go.Id
open Go
variable {P:Program} {E:Nat->IV} {σ σ':Store} {N n0:Nat} {fr:Frm}
def dw6 (E:Nat->IV):List LE->Nat->Store->Prop
 | [],_,_=>True
 | e::L,m,σ=>(e.1<0\/(m.testBit e.1=true->evq E [] σ e.2.1=some e.2.2))/\dw6 E L m σ
theorem gx5 {m:Nat}:∀ {L:List LE},dw6 E L m σ->gc2 E L m σ:=by
 intro L
 induction L with
 | nil=>intro _ e he; cases he
 | cons a L ih=>
  rintro ⟨h1,h2⟩ e he;rcases List.mem_cons.1 he with rfl|he
  ·exact h1.resolve_left (Nat.not_lt_zero _)
  ·exact ih h2 e he
def de4 (P:Program)(E:Nat->IV)(base:Nat):List YO->List LE->Frm->Store->(Frm->Store->Prop)->Prop
 | [],_,fr,σ,K=>K fr σ
 | (i,o,m)::rest,L,fr,σ,K=>o.guard=none/\opT noP noC P E o.op (base+i) fr σ fun v σ'=>dw6 E L m σ'/\de4 P E base rest (ax6 E fr i o.op v L) (fr.ak3 o.dst v) σ' K
def gx6 (P:Program)(E:Nat->IV)(base:Nat)(rest:List YO)(L:List LE)(m:Nat)(d:Option Nat)(fr:Frm)(i:Nat)(op:IK)(K:Frm->Store->Prop):IV->Store->Prop:=fun v σ'=>dw6 E L m σ'/\de4 P E base rest (ax6 E fr i op v L) (fr.ak3 d v) σ' K
theorem dw7 {base:Nat}{K:Frm->Store->Prop}:∀ (ops:List YO) (L:List LE) (fr:Frm) (σ:Store),de4 P E base ops L fr σ K->aq9 P E (gc4 base ops) L fr σ K:=by
 intro ops
 induction ops with
 | nil=>intro L fr σ h; exact h
 | cons o os ih=>
  obtain ⟨i,⟨d,g,op⟩,m⟩:=o;rintro L fr σ ⟨hg,h⟩;simp only at hg h;subst hg;refine .inl ⟨rfl,ai7 (fun v s k=>⟨gx5 k.1,ih _ _ _ k.2⟩) (ba8 noT h)⟩
theorem gc6 {id:Nat}{ops:List YO}{keep:List Nat}{Q:Exit->Frm->Store->Prop}(h:de4 P E σ.next ops [] fr ⟨σ.next+ops.length,σ.obj⟩ (fn2 keep Q)):RI P E N n0 (.en3 id ops keep) fr σ Q :=
 ab8 (show wpT noP noC P E N n0 (.en3 id ops keep) fr σ Q from dw7 ops [] fr _ h)
variable {base i m:Nat} {Kf:Frm->Store->Prop} {d:Option Nat} {rest:List YO} {L:List LE}
theorem iv7:de4 P E base [] L fr σ Kf=Kf fr σ:=nr rfl
theorem iv8 {op:IK}:de4 P E base ((i,⟨d,none,op⟩,m)::rest) L fr σ Kf=opT noP noC P E op (base+i) fr σ (gx6 P E base rest L m d fr i op Kf):=by
 simp[de4]; rfl
theorem iv9 {d:Nat}{op:IK}(v:IV):gx6 P E base rest L m (some d) fr i op Kf v σ=(dw6 E L m σ/\de4 P E base rest (ax6 E fr i op v L) ((d,v)::fr) σ Kf):=nr rfl
theorem im3 {op:IK}(v:IV):gx6 P E base rest L m none fr i op Kf v σ=(dw6 E L m σ/\de4 P E base rest (ax6 E fr i op v L) fr σ Kf):=nr rfl
theorem im4:dw6 E [] m σ=True:=nr rfl
theorem im5:∀ L:List LE,dw6 E L 0 σ=True:=by
 intro L
 induction L with
 | nil=>rfl
 | cons e L ih=>simp[dw6,ih]
theorem hu7 {j:Nat}{q:IQ}{v:IV}(h:m.testBit j=false):dw6 E ((j,q,v)::L) m σ=dw6 E L m σ:=by simp[dw6,h]
theorem hu8 {j:Nat}{q:IQ}{v:IV}(h:m.testBit j=true):dw6 E ((j,q,v)::L) m σ=(evq E [] σ q=some v/\dw6 E L m σ):=by simp[dw6,h]
theorem it7 {q:IQ}{v:IV}(h:q.kind=0):ax6 E fr i (.q q) v L=L:=by simp[ax6,h]
theorem iw1 {a:Option Nat}{x:IX}{v:IV}:ax6 E fr i (.q (.load a x)) v L=(i,.load a (.c (x.ev E fr)),v)::L:=by
 have:(IQ.load a x).kind≠0:=by simp[IQ.kind]
 simp[ax6,this,cq8]
theorem im6 {t:Nat}{x y z:IX}{v:IV}:ax6 E fr i (.cr3 t x y z) v L=L:=nr rfl
theorem im7 {n:Nat}{x:IX}{v:IV}:ax6 E fr i (.q (.ab1 n x)) v L=L:=it7 rfl
theorem im8 {x:IX}{v:IV}:ax6 E fr i (.q (.mov x)) v L=L:=it7 rfl
attribute [go_sem] iv7 iv8 iv9 im3 im4 im5 iw1 im6 im7 im8
end Go.Id
set_option linter.all false
namespace Go.Id
open Go Go.Sort
variable {P:Program} {w w':World} {ρ ρ':Rho} {E:Nat->IV} {σ:Store}
theorem cn5 (n k:Nat):Ext n ρ w ρ (Sort.ahead w k):=⟨Nat.le_refl _,fun _ _=>rfl,fun _ r _ _ h=>⟨r,h,rfl⟩,fun i B d h=>.inl ⟨i,d,h⟩,fun _ _ _ h=>.inl h,fun _ h=>h,fun _ _ h=>h,rfl,rfl,⟨rfl,Nat.le_add_right _ _⟩,fun _ L h=>⟨L,h⟩,rfl⟩
theorem fm7 (hs:Sim E ρ w σ)(k:Nat):Sim E ρ (Sort.ahead w k) σ :=
 ⟨hs.inj,hs.lt,fun i B d h=>let ⟨o,h1,h2⟩:=hs.obj i B d h; ⟨o,h1,h2.mono (cn5 0 k) rfl⟩,hs.dead,hs.fresh,hs.ao5,fun g=>(hs.env g).mono (cn5 0 k),hs.nx,hs.xlt⟩
theorem df3 (w:World)(os:Array Obj){b:Nat}(h:b<w.heap.size):(Sort.grow w os).heap[b]? = w.heap[b]?:=by
 show (w.heap++os)[b]? = _;rw[Array.getElem?_append_left h]
theorem fm8 {b:Nat}{o:Obj}(h:w.heap[b]? = some o):b<w.heap.size:=(Array.getElem?_eq_some_iff.1 h).1
theorem bs6 (n:Nat)(os:Array Obj):Ext n ρ w ρ (Sort.grow w os):=
 ⟨by show _<=(w.heap++os).size; simp,fun b h=>df3 w os h.1,fun b r el fz h=>⟨r,by rw[df3 w os (fm8 h)]; exact h,rfl⟩,fun i B d h=>.inl ⟨i,d,h⟩,fun _ _ _ h=>.inl h,fun _ h=>h,fun _ _ h=>h,rfl,rfl,⟨rfl,Nat.le_refl _⟩,fun l L h=>⟨L,by rw[df3 w os (fm8 h)]; exact h⟩,rfl⟩
theorem ge5 (hs:Sim E ρ w σ)(os:Array Obj):Sim E ρ (Sort.grow w os) σ :=
 ⟨hs.inj,fun i B d h=>Nat.lt_of_lt_of_le (hs.lt i B d h) (bs6 (ρ:=ρ) 0 os).size,fun i B d h=>let ⟨o,h1,h2⟩:=hs.obj i B d h; ⟨o,h1,h2.mono (bs6 0 os) (df3 w os (hs.lt i B d h))⟩,hs.dead,hs.fresh,hs.ao5,fun g=>(hs.env g).mono (bs6 0 os),hs.nx,fun b h=>Nat.lt_of_lt_of_le (hs.xlt b h) (bs6 (ρ:=ρ) (w:=w) 0 os).size⟩
theorem putRow_set {α:Type}[Inhabited α](enc:α->Value)(w:World)(B off:Nat)(d:Array α){rcs:Array Value}{el:TypeId}{fz:Nat×Nat}(h:w.heap[B]? = some (.cells rcs el fz)) :
  Sort.putRow enc w B off d=w.setRow B (Sort.putCells enc off d rcs):=by
 unfold Sort.putRow Sort.mapBlock World.setRow;congr 1;apply Array.ext_getElem?;intro k;simp only[Array.getElem?_modify];by_cases hk:B=k
 ·subst hk;simp only[if_true,h,Option.map_some,Sort.onCells]
 ·simp[hk]
theorem gz6 {α:Type}[Inhabited α]{enc:α->Value}{en:α->IV}{srt:List α->List α}{f:Nat}
  (hv:∀ (ρ:Rho) (w:World) (x:α),VR ρ w (en x) (enc x)) (hinv:∀ (ρ:Rho) (w:World) (x:α) (r:Value),VR ρ w (en x) r->r=enc x)
  (hl:∀ l,(srt l).length=l.length) (h0:srt []=[])
  (hk:∀ (blk off cap:Nat) (zs:List α) (w:World),Sort.Holds enc w blk off zs.toArray->blk<w.heap.size->zs.length<4611686018427387904->Calls P f #[.slice (some ⟨blk,off,none⟩) zs.length cap] w fun e w'=>
   e=.returned (.tuple #[])/\∃ n os,w'=Sort.grow (Sort.putRow enc (Sort.ahead w n) blk off (srt zs).toArray) os)
  (hn:∀ (p:Option Addr) (cap:Nat) (w:World),Calls P f #[.slice p 0 cap] w fun e w'=>e=.returned (.tuple #[])/\w'=w)
  {id:Nat} {zs:List α} (hz:zs.length<4611686018427387904) (ho:σ.obj id=some (.row (zs.map en))) :
  C P E f [.slice id 0 zs.length 1] σ fun v s=>v=.tuple []/\s=σ.put id (.row ((srt zs).map en)):=by
 intro ρ w rargs hs hr;obtain ⟨hr1,hr2⟩:=hr;have hv0:=hr2 0 (by simp);obtain ⟨al⟩:=rargs
 match al,hr1,hv0 with
 | [r],_,hv0=>
  have hv0:VR ρ w (.slice id 0 zs.length 1) r:=hv0
  have empty:∀ (p:Option Addr) (cap:Nat),r=.slice p 0 cap->zs.length=0->CallsIn Fence.wide 0 P f #[r] w fun e w'=>∃ v r ρ' σ',e=.returned r/\(v=IV.tuple []/\σ'=σ.put id (.row ((srt zs).map en)))/\Sim E ρ' w' σ'/\VR ρ' w' v r/\ay1 σ.next ρ w ρ' w':=by
   intro p cap er hz0;have hz0:zs=[]:=List.length_eq_zero_iff.1 hz0;subst hz0;rw[er];refine callsIn_wide.2 ((hn p cap w).mono ?_);rintro e w' ⟨rfl,rfl⟩
   have hput:σ.put id (.row (([]:List α).map en))=σ:=by
    unfold Store.put;congr 1;funext i;by_cases h:i=id
    ·subst h; simpa using ho.symm
    ·simp[h]
   exact ⟨.tuple [],_,ρ,σ,rfl,⟨rfl,by rw[h0]; exact hput.symm⟩,hs,.tuple [] #[] rfl (fun i hi=>by simp at hi),ay1.refl _ _ _⟩
  by_cases hz0:zs.length=0
  ·rw[hz0] at hv0
   cases hv0 with
   | slice _ _ _ _ B d cap rcs el fz hid hb hsz hle=>exact empty _ _ rfl hz0
   | ag3 _ _ _ B d a hid=>exact empty _ _ rfl hz0
   | ag4 _ _ _ _ cap ad hid hle=>exact empty _ _ rfl hz0
  ·obtain ⟨m,hm⟩:∃ m,m=zs.length:=⟨_,rfl⟩;rw[<- hm] at hv0
   cases hv0 with
   | slice _ _ _ _ B d cap rcs el fz hid hb hsz hle=>
    subst hm;obtain ⟨o,h1,h2⟩:=hs.obj id B d hid;rw[ho] at h1;cases h1;obtain ⟨rcs',el',hb',hsz',hvs⟩:=h2;rw[hb] at hb';cases hb';rw[List.length_map] at hsz' hvs
    have hcell:∀ j (h:j<zs.length),rcs[d+j]? = some (enc zs[j]):=fun j h=>by
     have:=hvs j h;have e1:(zs.map en).getD j .undef=en zs[j]:=by simp[List.getD_eq_getElem?_getD,h]
     rw[e1] at this;have:=hinv _ _ _ _ this;have hlt:d+j<rcs.size:=by omega
     rw[ac7 _ _ _ hlt] at this;rw[Array.getElem?_eq_getElem hlt,this]
    have hH:Sort.Holds enc w B (d+0) zs.toArray:=fun j hj=>by
     have hj':j<zs.length:=by simpa using hj
     refine ⟨?_,?_⟩
     ·simp only[World.cell?,hb,Option.isSome_none,Bool.false_eq_true,if_false,Nat.add_zero];rw[hcell j hj'];congr 2;rw[getElem!_pos _ j hj]; simp
     ·simp[World.frozen?,hb]
    refine callsIn_wide.2 ((hk B (d+0) cap zs w hH (hs.lt id B d hid) hz).mono ?_);rintro e w' ⟨rfl,n,os,rfl⟩;have hba:(Sort.ahead w n).heap[B]? = some (.cells rcs el (0,0)):=hb;rw[putRow_set enc _ B _ _ hba];have hsa:=fm7 hs n;generalize hnew:Sort.putCells enc (d+0) (srt zs).toArray rcs=new;have hnsz:new.size=rcs.size:=by rw[<- hnew]; simp[Sort.putCells]
    have hx1:∀ m,Ext m ρ (Sort.ahead w n) ρ ((Sort.ahead w n).setRow B new):=fun m=>an4 (n:=m) (new:=new) hid hba hnsz
    have hs1:Sim E ρ ((Sort.ahead w n).setRow B new) (σ.put id (.row ((srt zs).map en))):=by
     refine av9 hsa hid hba hnsz ⟨new,el,setRow_heap _ B rcs new el (0,0) hba,?_,fun k hk'=>?_⟩
     ·rw[hnsz,List.length_map,hl]; exact hsz'
     ·rw[List.length_map,hl] at hk';have hlt:d+k<rcs.size:=by omega
      have hks:k<(srt zs).length:=by rw[hl]; exact hk'
      have e1:((srt zs).map en).getD k .undef=en (srt zs)[k]:=by simp[List.getD_eq_getElem?_getD,hks]
      have e2:new.getD (d+k) undef=enc (srt zs)[k]:=by
       rw[<- hnew];rw[ac7 _ _ _ (by simpa [Sort.putCells] using hlt)];have c1:d+0<=d+k/\d+k<d+0+(srt zs).toArray.size:=by simp; omega
       simp only[Sort.putCells,Array.getElem_mapIdx,c1,and_self,if_true];congr 1;rw[getElem!_pos _ _ (by simp; omega)];simp
      rw[e1,e2];exact hv _ _ _
    exact ⟨.tuple [],_,ρ,_,rfl,⟨rfl,rfl⟩,ge5 hs1 os,.tuple [] #[] rfl (fun i hi=>by simp at hi),(((cn5 σ.next n).trans (hx1 σ.next) (Nat.le_refl _)).trans (bs6 σ.next os) (Nat.le_refl _)).weak (Nat.le_refl _)⟩
   | ag3=>exact absurd hm.symm hz0
   | ag4 _ _ _ _ cap ad hid hle=>rw[hs.dead id hid] at ho; cases ho
end Go.Id
set_option linter.all false
namespace Go.Id
open Go
variable {P:Program} {E:Nat->IV} {σ σ':Store}
def ge8 (f:IV->IV->Bool):List (IV×IV)->List (IV×IV)->Bool
 | [],y=>match y with
  | []=>true
  | _=>false
 | a::aZ,y=>match y with
  | b::bs=>f a.1 b.1&&f a.2 b.2&&ge8 f aZ bs
  | _=>false
theorem ge9 {f:IV->IV->Bool}(hf:∀ a b,f a b=true->a=b):∀ x y,ge8 f x y=true->x=y:=by
 intro x
 induction x with
 | nil=>intro y h; cases y with
  | nil=>rfl
  | cons b y=>cases h
 | cons a x ih=>intro y h; cases y with
  | nil=>cases h
  | cons b y=>
   obtain ⟨a1,a2⟩:=a;obtain ⟨b1,b2⟩:=b;simp only[ge8,Bool.and_eq_true] at h;rw[hf _ _ h.1.1,hf _ _ h.1.2,ih y h.2]
def do5:Nat->IV->IV->Bool
 | 0,_,_=>false
 | n+1,a,b=>match a with
  | .al4 x=>match b with
   | .al4 y=>ge8 (do5 n) x y
   | _=>false
  | .ad4 x=>match b with
   | .ad4 y=>cn3 (do5 n) x y
   | _=>false
  | .aa3 x=>match b with
   | .aa3 y=>dn8 (do5 n) x y
   | _=>false
  | .agg x=>match b with
   | .agg y=>cn3 (do5 n) x y
   | _=>false
  | .tuple x=>match b with
   | .tuple y=>cn3 (do5 n) x y
   | _=>false
  | a=>gd7 (n+1) a b
theorem gf1:∀ (n:Nat) (a b:IV),do5 n a b=true->a=b:=by
 intro n
 induction n with
 | zero=>intro a b h; cases h
 | succ n ih=>
  intro a b h
  cases a with
  | al4 x=>cases b with
   | al4 y=>rw[ge9 ih _ _ h]
   | _=>cases h
  | ad4 x=>cases b with
   | ad4 y=>rw[bd4 ih _ _ h]
   | _=>cases h
  | aa3 x=>cases b with
   | aa3 y=>rw[dn9 ih _ _ h]
   | _=>cases h
  | agg x=>cases b with
   | agg y=>rw[bd4 ih _ _ h]
   | _=>cases h
  | tuple x=>cases b with
   | tuple y=>rw[bd4 ih _ _ h]
   | _=>cases h
  | _=>exact gz3 (n+1) _ _ h
def wkL (f:IV->IV->Bool):List IV->List IV->Bool
 | [],y=>match y with
  | []=>true
  | _=>false
 | a::aZ,y=>match y with
  | b::bs=>f a b&&wkL f aZ bs
  | _=>false
theorem ay3 {f:IV->IV->Bool}:∀ x y,wkL f x y=true->y.length=x.length/\∀ i,i<x.length->f (x.getD i .undef) (y.getD i .undef)=true:=by
 intro x
 induction x with
 | nil=>intro y h; cases y with
  | nil=>exact ⟨rfl,fun i hi=>absurd hi (Nat.not_lt_zero _)⟩
  | cons b y=>cases h
 | cons a x ih=>intro y h; cases y with
  | nil=>cases h
  | cons b y=>
   simp only[wkL,Bool.and_eq_true] at h;obtain ⟨h1,h2⟩:=ih y h.2;refine ⟨by simp[h1],fun i hi=>?_⟩
   cases i with
   | zero=>exact h.1
   | succ i=>exact h2 i (by simpa using hi)
def wkR (f:IV->IV->Bool):List (List IV)->List (List IV)->Bool
 | [],y=>match y with
  | []=>true
  | _=>false
 | a::aZ,y=>match y with
  | b::bs=>wkL f a b&&wkR f aZ bs
  | _=>false
theorem gf2 {f:IV->IV->Bool}:∀ x y,wkR f x y=true->y.length=x.length/\∀ i,i<x.length->wkL f (x.getD i []) (y.getD i [])=true:=by
 intro x
 induction x with
 | nil=>intro y h; cases y with
  | nil=>exact ⟨rfl,fun i hi=>absurd hi (Nat.not_lt_zero _)⟩
  | cons b y=>cases h
 | cons a x ih=>intro y h; cases y with
  | nil=>cases h
  | cons b y=>
   simp only[wkR,Bool.and_eq_true] at h;obtain ⟨h1,h2⟩:=ih y h.2;refine ⟨by simp[h1],fun i hi=>?_⟩
   cases i with
   | zero=>exact h.1
   | succ i=>exact h2 i (by simpa using hi)
def wkB:Nat->IV->IV->Bool
 | 0,_,_=>false
 | n+1,a,b=>match a with
  | .aa1=>match b with
   | .aa3 y=>match y with
    | []=>true
    | _=>false
   | .aa1=>true
   | _=>false
  | .aa3 x=>match b with
   | .aa3 y=>wkR (wkB n) x y
   | _=>false
  | .agg x=>match b with
   | .agg y=>wkL (wkB n) x y
   | _=>false
  | .ad4 x=>match b with
   | .ad4 y=>wkL (wkB n) x y
   | _=>false
  | a=>ap8 (n+1) a&&do5 (n+1) a b
theorem gz8:∀ (n:Nat) (a b:IV),wkB n a b=true->∀ (σ:Store) (S:Nat->Prop),Frz σ S a b:=by
 intro n
 induction n with
 | zero=>intro a b h; cases h
 | succ n ih=>
  intro a b h σ S
  have eqc:∀ a b:IV,(ap8 (n+1) a&&do5 (n+1) a b)=true->Frz σ S a b:=fun a b h=>by
   simp only[Bool.and_eq_true] at h;rw[<- gf1 _ _ _ h.2];exact .keep _ ((ax1 _ _ h.1).weak fun i hi=>absurd hi (Nat.not_lt_zero _))
  cases a with
  | aa1=>cases b with
   | aa3 y=>cases y with
    | nil=>exact .dm9
    | cons _ _=>cases h
   | aa1=>exact .keep _ .aa1
   | _=>cases h
  | aa3 x=>cases b with
   | aa3 y=>
    obtain ⟨h1,h2⟩:=gf2 _ _ h
    exact .aa3 _ _ h1 (fun i hi=>(ay3 _ _ (h2 i hi)).1) fun i hi j hj=>ih _ _ ((ay3 _ _ (h2 i hi)).2 j hj) σ S
   | _=>cases h
  | agg x=>cases b with
   | agg y=>exact .agg _ _ (ay3 _ _ h).1 fun i hi=>ih _ _ ((ay3 _ _ h).2 i hi) σ S
   | _=>cases h
  | ad4 x=>cases b with
   | ad4 y=>exact .ad4 _ _ (ay3 _ _ h).1 fun i hi=>ih _ _ ((ay3 _ _ h).2 i hi) σ S
   | _=>cases h
  | _=>exact eqc _ _ h
theorem gz9 {f:Nat}{args args':List IV}{v:IV}(hw:wkL (wkB 1000) args args'=true)(h:PC P E f args' v):PC P E f args v :=
 gz7 (ay3 _ _ hw).1 (fun σ i hi=>gz8 1000 _ _ ((ay3 _ _ hw).2 i hi) σ _) h
end Go.Id
set_option linter.all false
namespace Go.Id
open Go
variable {H:Type} {enc:TypeId×Value->H} {P:Program} {w:World} {base:Nat} {sp:Nat->Bool} {held:Bool}
def Rdg (enc:TypeId×Value->H)(P:Program)(w:World)(base:Nat)(sp:Nat->Bool)(held:Bool)(n:Nat)(t:TypeId)(d:DataW H):Prop :=
 ∃ cs ps,DataW.trod enc P w base sp held n t cs=some (d,ps)
def WT (P:Program)(t:TypeId)(d:DataW H):Prop:=∀ k∈d.weights P t,k<=reachBytes
theorem cg6 {n:Nat}{t:TypeId}{d:DataW H}{k:IntKind}(hu:P.underlying t=some (.int k))(h:Rdg enc P w base sp held n t d):∃ z,d=.lit (.int k z)/\(Lit.int k z).wf=true/\∀ m,n<=m->dv P m t d=some [.int k z]:=by
 obtain ⟨cs,ps,h⟩:=h;have hn:n≠0:=fun e=>by subst e; simp[DataW.trod] at h
 obtain ⟨z,rfl,hx,hw⟩:=DataW.trod_int hu h;cases hx;refine ⟨z,rfl,hw,fun m hm=>?_⟩
 cases m with
 | zero=>omega
 | succ m=>simp only[dv,hu]
theorem da7 {n:Nat}{t:TypeId}{d:DataW H}(hu:P.underlying t=some .string)(h:Rdg enc P w base sp held n t d)(hw:WT P t d):∃ s:List UInt8,s.length<2^62/\∀ m,n<=m->dv P m t d=some [.str s]:=by
 obtain ⟨cs,ps,h⟩:=h;have hn:n≠0:=fun e=>by subst e; simp[DataW.trod] at h
 obtain ⟨s,rfl,hx,_⟩:=DataW.trod_string hu h;cases hx;refine ⟨s.data.toList,?_,fun m hm=>?_⟩
 ·have:=hw s.data.toList.length (by simp[DataW.weights]);have:=reachBytes_lt;omega
 ·cases m with
  | zero=>omega
  | succ m=>simp only[dv,hu]
theorem bb7 {n:Nat}{t:TypeId}{d:DataW H}{fs:Array Field}(hu:P.underlying t=some (.struct fs))(h:Rdg enc P w base sp held n t d)(hw:WT P t d) :
  ∃ n' ds,n=n'+1/\d=.agg ds/\ds.length=fs.size/\∀ (i:Nat) (f:Field) (d':DataW H),fs[i]? = some f->ds[i]? = some d'->Rdg enc P w base sp held n' f.type d'/\WT P f.type d':=by
 obtain ⟨cs,ps,h⟩:=h;obtain ⟨xs,n',rfl,hx,_,hl,hf⟩:=DataW.trod_struct hu h;cases hx;refine ⟨n',xs.map (·.1),rfl,rfl,by rw[List.length_map,hl],fun i f d' h1 h2=>⟨?_,fun k hk=>?_⟩⟩
 ·rw[List.getElem?_map] at h2
  cases hxi:xs[i]? with
  | none=>rw[hxi] at h2; cases h2
  | some x=>
   rw[hxi] at h2;cases h2;exact ⟨_,x.2,by rw[hf i f h1,hxi]⟩
 ·refine hw k ?_;simp only[DataW.weights,hu];exact DataW.weights_mem_each (j:=i) (t:=f.type) (d:=d') (by rw[List.getElem?_map]; simp[h1]) h2 k hk
theorem cr5 {e:TypeId}{k:Nat}:∀ {l:List (DataW H)} {d:DataW H},d∈l->k∈d.weights P e->k∈DataW.weightsAll P e l:=by
 intro l
 induction l with
 | nil=>intro d h; cases h
 | cons x xs ih=>
  intro d h hk;simp only[DataW.weightsAll,List.mem_append];rcases List.mem_cons.1 h with rfl|h
  ·exact .inl hk
  ·exact .inr (ih h hk)
theorem bd7 {α:Type}{n:Nat}{t e:TypeId}{d:DataW H}{c:Nat}(f:α->List IV)(ok:α->Prop)(hu:P.underlying t=some (.slice e))(hc:P.cellsOf e=c)(hc0:c≠0)(hb:1<=P.bytesOf e)(hl:∀ a,(f a).length=c)
  (ih:∀ n' d',n'<n->Rdg enc P w base sp held n' e d'->WT P e d'->∃ a,ok a/\∀ m,n'<=m->dv P m e d'=some (f a))
  (h:Rdg enc P w base sp held n t d) (hw:WT P t d):∃ l:List α,l.length<2^62/\(∀ a∈l,ok a)/\∀ m,n<=m->dv P m t d=some [.aa3 (l.map f)]:=by
 obtain ⟨cs,ps,h⟩:=h;have hn:n≠0:=fun e=>by subst e; simp[DataW.trod] at h
 rcases DataW.trod_slice hu h with ⟨rfl,hx⟩|⟨a,len,cap,elems,rest,n',rfl,rfl,hx,_,_,_,hlen,hel,_,_⟩
 ·cases hx;refine ⟨[],by simp,fun a ha=>(by cases ha),fun m hm=>?_⟩
  cases m with
  | zero=>omega
  | succ m=>simp only[dv,hu]; rfl
 ·cases hx
  have hsz:elems.length<2^62:=by
   have h1:=hw ((elems.length+rest.length)*P.bytesOf e) (by simp[DataW.weights,hu]);have h2:(elems.length+rest.length)*1<=(elems.length+rest.length)*P.bytesOf e:=Nat.mul_le_mul_left _ hb;have:=reachBytes_lt;omega
  have hel':∀ x∈elems,Rdg enc P w base sp held n' e x.1:=by
   intro x hx;obtain ⟨i,hi,he⟩:=List.mem_iff_getElem.1 hx;have h1:=hel i (by omega);rw[List.getElem?_eq_getElem hi,he] at h1;obtain ⟨ci,_,h2⟩:=Option.bind_eq_some_iff.1 h1;exact ⟨ci,x.2,h2⟩
  have hwe:∀ x∈elems,WT P e x.1:=by
   intro x hx k hk;refine hw k ?_;simp only[DataW.weights,hu,List.mem_cons,List.mem_append];exact .inr (.inl (cr5 (List.mem_map_of_mem (f:=fun x:DataW H×List MemPlace=>x.1) hx) hk))
  have key:∀ ys:List (DataW H×List MemPlace),(∀ x∈ys,x∈elems)->∃ l:List α,l.length=ys.length/\(∀ a∈l,ok a)/\∀ m,n'<=m->dvS (dv P m e) c (ys.map (·.1))=some (l.map f):=by
   intro ys
   induction ys with
   | nil=>intro _; exact ⟨[],rfl,fun a ha=>(by cases ha),fun m _=>rfl⟩
   | cons y ys ih2=>
    intro hin;obtain ⟨l,l1,l2,l3⟩:=ih2 fun x hx=>hin x (List.mem_cons_of_mem _ hx)
    have hy:=hin y (List.mem_cons_self ..);obtain ⟨a,a1,a2⟩:=ih n' y.1 (Nat.lt_succ_self _) (hel' y hy) (hwe y hy);refine ⟨a::l,by simp[l1],fun b hb=>?_,fun m hm=>?_⟩
    ·rcases List.mem_cons.1 hb with rfl|hb
     ·exact a1
     ·exact l2 b hb
    ·simp only[List.map_cons,dvS,a2 m hm,hl a,if_true,l3 m hm]
  obtain ⟨l,l1,l2,l3⟩:=key elems fun x hx=>hx
  refine ⟨l,by omega,l2,fun m hm=>?_⟩
  cases m with
  | zero=>omega
  | succ m=>
   subst hc;simp only[dv,hu,if_neg hc0,l3 m (by omega)]
end Go.Id
