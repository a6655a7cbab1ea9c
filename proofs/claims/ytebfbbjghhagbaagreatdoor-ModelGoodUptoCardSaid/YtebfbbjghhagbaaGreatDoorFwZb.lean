/- The interpreter,turned so that the kernel runs it in fewer steps; it is the same function. Conditions: none; over any program. -/
import Derived.Test.YtebfbbjghhagbaaGreatDoorFwQ
import Derived.Test.YtebfbbjghhagbaaGreatDoorMv
import Derived.Test.YtebfbbjghhagbaaGreatDoorFwW
import Derived.Shelf.Sort.Plain
import Derived.Shelf.Slices.In.SortNone
import Derived.SizedLaws
set_option linter.all false
namespace Go.Id
open Go
noncomputable section
variable {E:Nat->IV} {fr:Frm}
end
end Go.Id
/- Codes,part by part; blocks let go at a call. Conditions: none; over any program. -/
namespace Go.Id
open Go
variable {P:Program} {E:Nat->IV} {σ σ':Store} {N n0:Nat} {fr:Frm}
def gt7 (P:Program)(E:Nat->IV)(N n0:Nat)(b:IC)(Q:Exit->Frm->Store->Prop):Exit->Frm->Store->Prop
 | .normal,fr,σ=>RI P E N n0 b fr σ Q
 | e,fr,σ=>Q e fr σ
theorem jg7 {b:IC}{Q:Exit->Frm->Store->Prop}:gt7 P E N n0 b Q .normal fr σ=RI P E N n0 b fr σ Q:=nr rfl
theorem jg8 {b:IC}{Q:Exit->Frm->Store->Prop}:gt7 P E N n0 b Q .ret fr σ=Q .ret fr σ:=nr rfl
theorem jg9 {b:IC}{i:Nat}{Q:Exit->Frm->Store->Prop}:gt7 P E N n0 b Q (.exit i) fr σ=Q (.exit i) fr σ:=nr rfl
attribute [go_sem] jg7 jg8 jg9
theorem ai3 {x:IC}{Q:Exit->Frm->Store->Prop}(h:wpT noP noC P E N n0 x fr σ Q):RI P E N n0 x fr σ Q:=bm2 x fr σ Q (bg3 noT x fr σ Q h)
theorem ae5 {a b:IC}{Q:Exit->Frm->Store->Prop}(h:RI P E N n0 a fr σ (gt7 P E N n0 b Q)):RI P E N n0 (.seq a b) fr σ Q:=by
 intro pf an c hc
 cases c with
 | seq x y=>
  simp only[bf4] at hc;split at hc
  ·rename_i xa xb hx hy;cases hc;refine in9 ((h pf an x hx).mono ?_);intro e f s q
   cases e with
   | normal=>exact q pf an y hy
   | _=>exact q
  ·cases hc
 | region id ops draw=>
  exfalso;simp only[bf4] at hc;split at hc
  ·cases hc
  ·split at hc<;>first|(cases hc; done)|(split at hc<;>cases hc)
  ·cases hc
 | cond c a b=>simp only[bf4] at hc; split at hc<;>cases hc
 | block id a=>obtain ⟨_,_,h⟩:=map_some hc; cases h
 | scope a=>obtain ⟨_,_,h⟩:=map_some hc; cases h
 | loop a=>obtain ⟨_,_,h⟩:=map_some hc; cases h
 | rangeFunc g ps a b=>
  simp only[bf4] at hc;split at hc
  ·split at hc<;>cases hc
  ·cases hc
 | _=>cases hc
theorem is3 {f:Nat}{ic:IC}{irs:List IR}{args:List IV}{Qc:IV->Store->Prop}(hf:FOK P f (N,ic,irs))(hl:args.length<=N)
  (h:RI P E N σ.next ic (bi6 args 0) σ (ga8 irs Qc)):C P E f args σ Qc:=by
 obtain ⟨_,pf,an,fn,h1,h2,h3,h4⟩:=hf
 cases hb:fn.body with
 | none=>rw[hb] at h3; cases h3
 | some c=>
  rw[hb] at h3;refine ir8 h1 hb h2 hl ((h pf an c h3).mono ?_);intro e fr' σ' q;have q:=dc9 q;cases e<;>first|(obtain ⟨vs,q1,q2⟩:=q; exact ⟨vs,by rw[hm9 _ _ h4]; exact q1,q2⟩)|exact q
theorem ib8 {f:Nat}{ic:IC}{irs:List IR}{args:List IV}{v:IV}(hE:∀ g,Bnd 0 (E g))(hf:FOK P f (N,ic,irs))(hl:args.length<=N)(ha:∀ a∈args,Bnd 0 a)
  (h:RI P E N 0 ic (bi6 args 0) emp (ga8 irs fun v' σ'=>bt7 σ' 0 v' v)):PC P E f args v :=
 es7 hE ha (is3 (σ:=emp) hf hl h)
theorem fd9 {S:Nat->Bool}:(σ.kills S).next=σ.next:=nr rfl
theorem ga7 {S:Nat->Bool}{i:Nat}:(σ.kills S).obj i=if S i=true then σ.obj i else none:=nr rfl
attribute [go_sem] fd9 ga7
theorem ct6 {f:Nat}{args args':List IV}{v:IV}(hl:args'.length=args.length)(ha:∀ σ i,i<args.length->Frz σ (fun _=>true=true) (args.getD i .undef) (args'.getD i .undef))(h:PC P E f args' v):PC P E f args v:=fun σ=>
 gb3 (S:=fun _=>true) hl (ha σ) (h σ)
end Go.Id
namespace Go.Id
open Go
variable {P:Program} {E:Nat->IV} {σ σ':Store} {N n0:Nat} {fr:Frm}
end Go.Id
set_option linter.all false
namespace Go.Id
open Go
theorem jo4 {d:Nat}{q:IQ}:oQ d q=⟨some d,none,.q q⟩:=nr rfl
theorem jo5 {d:Nat}{x:IX}:oM d x=⟨some d,none,.q (.mov x)⟩:=nr rfl
theorem jo6 {d:Nat}{k:IK}:oK d k=⟨some d,none,k⟩:=nr rfl
theorem jo7 {d s:Nat}{w:Bool}{q:IQ}:gQ d s w q=⟨some d,some (s,w),.q q⟩:=nr rfl
theorem jo8 {d s:Nat}{w:Bool}{k:IK}:gK d s w k=⟨some d,some (s,w),k⟩:=nr rfl
theorem jo9 {k:IK}:oN k=⟨none,none,k⟩:=nr rfl
theorem jp1 {n:Int}:cI n=.c (.int .i64 n):=nr rfl
theorem jp2 {b:Bool}:cB b=.c (.bool b):=nr rfl
theorem jp3 {n:Int}:zI n=.int .i64 n:=nr rfl
theorem jp4 {n:Int}:zU n=.int .u8 n:=nr rfl
attribute [go_sem] jo4 jo5 jo6 jo7 jo8 jo9 jp1 jp2 jp3 jp4
attribute [go_sem] decide_true decide_false reduceCtorEq Int.reduceLT Int.reduceLE Int.reduceToNat Int.reduceAdd Nat.reduceEqDiff Nat.reduceAdd Nat.reduceMul Nat.reduceLT Nat.reduceLeDiff
attribute [go_sem ↓] reduceIte
theorem nZ {a b:Nat} (h:Nat.ble a b=true):a<=b:=Nat.le_of_ble_eq_true h
abbrev T0:IX:=.t 0
abbrev T1:IX:=.t 1
abbrev T2:IX:=.t 2
abbrev T3:IX:=.t 3
abbrev T4:IX:=.t 4
abbrev T5:IX:=.t 5
abbrev T6:IX:=.t 6
abbrev T7:IX:=.t 7
abbrev T8:IX:=.t 8
abbrev T9:IX:=.t 9
abbrev T10:IX:=.t 10
abbrev T11:IX:=.t 11
abbrev T12:IX:=.t 12
abbrev T13:IX:=.t 13
abbrev T14:IX:=.t 14
abbrev T15:IX:=.t 15
abbrev T16:IX:=.t 16
abbrev T17:IX:=.t 17
abbrev T18:IX:=.t 18
abbrev T19:IX:=.t 19
abbrev T20:IX:=.t 20
abbrev T21:IX:=.t 21
abbrev T22:IX:=.t 22
abbrev T23:IX:=.t 23
abbrev T24:IX:=.t 24
abbrev T25:IX:=.t 25
abbrev T26:IX:=.t 26
abbrev T27:IX:=.t 27
abbrev T28:IX:=.t 28
abbrev T29:IX:=.t 29
abbrev T30:IX:=.t 30
abbrev T31:IX:=.t 31
abbrev T32:IX:=.t 32
abbrev T33:IX:=.t 33
abbrev T34:IX:=.t 34
abbrev T35:IX:=.t 35
abbrev T36:IX:=.t 36
abbrev T37:IX:=.t 37
abbrev T38:IX:=.t 38
abbrev T39:IX:=.t 39
abbrev T40:IX:=.t 40
abbrev T41:IX:=.t 41
abbrev T42:IX:=.t 42
abbrev T43:IX:=.t 43
abbrev T44:IX:=.t 44
abbrev T45:IX:=.t 45
abbrev T46:IX:=.t 46
abbrev T47:IX:=.t 47
abbrev T48:IX:=.t 48
abbrev T49:IX:=.t 49
abbrev T50:IX:=.t 50
abbrev T51:IX:=.t 51
abbrev T52:IX:=.t 52
abbrev T53:IX:=.t 53
abbrev T54:IX:=.t 54
abbrev T55:IX:=.t 55
abbrev T56:IX:=.t 56
abbrev T57:IX:=.t 57
abbrev T58:IX:=.t 58
abbrev T59:IX:=.t 59
abbrev T60:IX:=.t 60
abbrev T61:IX:=.t 61
abbrev T62:IX:=.t 62
abbrev T63:IX:=.t 63
abbrev T64:IX:=.t 64
abbrev T65:IX:=.t 65
abbrev T66:IX:=.t 66
abbrev T67:IX:=.t 67
abbrev T68:IX:=.t 68
abbrev T69:IX:=.t 69
abbrev T70:IX:=.t 70
abbrev T71:IX:=.t 71
abbrev T72:IX:=.t 72
abbrev T73:IX:=.t 73
abbrev T74:IX:=.t 74
abbrev T75:IX:=.t 75
abbrev T76:IX:=.t 76
abbrev T77:IX:=.t 77
abbrev T78:IX:=.t 78
abbrev T79:IX:=.t 79
abbrev T80:IX:=.t 80
abbrev T81:IX:=.t 81
abbrev T82:IX:=.t 82
abbrev T83:IX:=.t 83
abbrev T84:IX:=.t 84
abbrev T85:IX:=.t 85
abbrev T86:IX:=.t 86
abbrev T87:IX:=.t 87
abbrev T88:IX:=.t 88
abbrev T89:IX:=.t 89
abbrev T90:IX:=.t 90
abbrev T91:IX:=.t 91
abbrev T92:IX:=.t 92
abbrev T93:IX:=.t 93
abbrev T94:IX:=.t 94
abbrev T95:IX:=.t 95
abbrev T96:IX:=.t 96
abbrev T97:IX:=.t 97
abbrev T98:IX:=.t 98
abbrev T99:IX:=.t 99
abbrev T100:IX:=.t 100
abbrev T101:IX:=.t 101
abbrev T102:IX:=.t 102
abbrev T103:IX:=.t 103
abbrev T104:IX:=.t 104
abbrev T105:IX:=.t 105
abbrev T106:IX:=.t 106
abbrev T107:IX:=.t 107
abbrev T108:IX:=.t 108
abbrev T109:IX:=.t 109
abbrev T110:IX:=.t 110
abbrev T111:IX:=.t 111
abbrev T112:IX:=.t 112
abbrev T113:IX:=.t 113
abbrev T114:IX:=.t 114
abbrev T115:IX:=.t 115
abbrev T116:IX:=.t 116
abbrev T117:IX:=.t 117
abbrev T118:IX:=.t 118
abbrev T119:IX:=.t 119
abbrev T120:IX:=.t 120
abbrev T121:IX:=.t 121
abbrev T122:IX:=.t 122
abbrev T123:IX:=.t 123
abbrev T124:IX:=.t 124
abbrev T125:IX:=.t 125
abbrev T126:IX:=.t 126
abbrev T127:IX:=.t 127
abbrev T128:IX:=.t 128
abbrev T129:IX:=.t 129
abbrev T130:IX:=.t 130
abbrev T131:IX:=.t 131
abbrev T132:IX:=.t 132
abbrev T133:IX:=.t 133
abbrev T134:IX:=.t 134
abbrev T135:IX:=.t 135
abbrev T136:IX:=.t 136
abbrev T137:IX:=.t 137
abbrev T138:IX:=.t 138
abbrev T139:IX:=.t 139
abbrev T140:IX:=.t 140
abbrev T141:IX:=.t 141
abbrev T142:IX:=.t 142
abbrev T143:IX:=.t 143
abbrev T144:IX:=.t 144
abbrev T145:IX:=.t 145
abbrev T146:IX:=.t 146
abbrev T147:IX:=.t 147
abbrev T148:IX:=.t 148
abbrev T149:IX:=.t 149
abbrev T150:IX:=.t 150
abbrev T151:IX:=.t 151
abbrev T152:IX:=.t 152
abbrev T153:IX:=.t 153
abbrev T154:IX:=.t 154
abbrev T155:IX:=.t 155
abbrev T156:IX:=.t 156
abbrev T157:IX:=.t 157
abbrev T158:IX:=.t 158
abbrev T159:IX:=.t 159
abbrev T160:IX:=.t 160
abbrev T161:IX:=.t 161
abbrev T162:IX:=.t 162
abbrev T163:IX:=.t 163
abbrev T164:IX:=.t 164
abbrev T165:IX:=.t 165
end Go.Id
set_option linter.all false
namespace Go.Id
open Go
variable {P:Program} {E:Nat->IV} {σ:Store} {N n0 id:Nat} {fr:Frm} {pt:PT} {ct:CT} {Q:Exit->Frm->Store->Prop} {K:IV->Store->Prop}
theorem ai8 {P:IV->Prop}{a:IV}(h:P a):∀ v∈[a],P v:=by simpa using h
theorem aj9 {P:IV->Prop}{a b:IV}(h:P a)(h2:P b):∀ v∈[a,b],P v:=by simpa using ⟨h,h2⟩
theorem ba2 {P:IV->Prop}{a b c:IV}(h:P a)(h2:P b)(h3:P c):∀ v∈[a,b,c],P v:=by simpa using ⟨h,h2,h3⟩
theorem ic7 {P:IV->Prop}{a b c d:IV}(h:P a)(h2:P b)(h3:P c)(h4:P d):∀ v∈[a,b,c,d],P v:=by simpa using ⟨h,h2,h3,h4⟩
theorem it3 {P:IV->Prop}{a b c d e:IV}(h:P a)(h2:P b)(h3:P c)(h4:P d)(h5:P e):∀ v∈[a,b,c,d,e],P v:=by simpa using ⟨h,h2,h3,h4,h5⟩
theorem jh4 {P:IV->Prop}{a b c d e f:IV}(h:P a)(h2:P b)(h3:P c)(h4:P d)(h5:P e)(h6:P f):∀ v∈[a,b,c,d,e,f],P v:=by simpa using ⟨h,h2,h3,h4,h5,h6⟩
theorem jh5 {ag:Option Nat}{x:IX}:evq E fr σ (.ldt ag x)=il6 ag (x.ev E fr):=nr rfl
theorem it4 {cs:List IV}:il6 none (.ab8 cs)=cs.head?:=nr rfl
theorem it5 {n:Nat}{cs:List IV}:il6 (some n) (.ab8 cs)=if n<=cs.length then some (.agg (cs.take n)) else none:=nr rfl
attribute [go_sem] jh5 it4 it5
end Go.Id
set_option linter.all false
namespace Go.Id
open Go Go.Id.Md
variable {P:Program} {E:Nat->IV} {σ s t:Store} {v:IV} {zs:List Int} {lo:Nat}
abbrev da4 (n:Int):IV:=.int .i64 n
def ei4 (s:Store)(lo:Nat)(v:IV)(zs:List Int):Prop :=
 (v=.aa1/\zs=[])\/∃ id cs,lo<=id/\id<s.next/\v=.slice id 0 zs.length 1/\s.obj id=some (.row cs)/\cs.take zs.length=zs.map da4/\zs.length<=cs.length
def aw6 (s:Store)(lo:Nat)(v:IV)(zs:List Int):Prop :=
 (v=.aa1/\zs=[])\/∃ id,lo<=id/\id<s.next/\v=.slice id 0 zs.length 1/\s.obj id=some (.row (zs.map da4))
theorem aw6.w (h:aw6 s lo v zs):ei4 s lo v zs:=by
 rcases h with h|⟨id,h1,h2,h3,h4⟩
 ·exact .inl h
 ·exact .inr ⟨id,_,h1,h2,h3,h4,by rw[List.take_of_length_le (by simp)],by simp⟩
structure Kept (σ s:Store):Prop where
 next:σ.next<=s.next
 obj:∀ i,i<σ.next->s.obj i=σ.obj i
theorem Kept.refl (σ:Store):Kept σ σ:=⟨Nat.le_refl _,fun _ _=>rfl⟩
theorem Kept.trans (h:Kept σ s)(h2:Kept s t):Kept σ t:=⟨Nat.le_trans h.next h2.next,fun i hi=>by rw[h2.obj i (Nat.lt_of_lt_of_le hi h.next),h.obj i hi]⟩
def ja6 (σ:Store)(zs:List Int)(v:IV)(s:Store):Prop:=Kept σ s/\ei4 s σ.next v zs
def da5 (σ:Store)(zs:List Int)(v:IV)(s:Store):Prop:=Kept σ s/\aw6 s σ.next v zs
theorem da5.w (h:da5 σ zs v s):ja6 σ zs v s:=⟨h.1,h.2.w⟩
theorem ei5 {cs:List IV}(h:cs.take zs.length=zs.map da4){i:Nat}(hi:i<zs.length):cs.getD i .undef=da4 zs[i]:=by
 have h1:(cs.take zs.length)[i]? = (zs.map da4)[i]?:=by rw[h]
 rw[List.getElem?_take,if_pos hi,List.getElem?_map,List.getElem?_eq_getElem hi] at h1;rw[List.getD_eq_getElem?_getD,h1]; rfl
theorem ei4.frz {S:Nat->Prop}(h:ei4 s lo v zs)(hS:∀ i,lo<=i->¬ S i):Frz s S v (.aa5 (zs.map Md.ah6)):=by
 rcases h with ⟨rfl,rfl⟩|⟨id,cs,h1,h2,rfl,h4,h5,h6⟩
 ·exact .bu6
 ·refine .slice id 0 zs.length 1 cs (zs.map Md.ah6) (hS id h1) (.inr h4) (by rw[List.length_map]) (by omega) (fun i hi=>?_) fun i hi j hj=>?_
  ·simp[List.getD_eq_getElem?_getD,hi,Md.ah6]
  ·have hj0:j=0:=by omega
   subst hj0;have e2:((zs.map Md.ah6).getD i []).getD 0 .undef=da4 zs[i]:=by simp[List.getD_eq_getElem?_getD,hi,Md.ah6]
   rw[e2,Nat.zero_add,Nat.mul_one,Nat.add_zero,ei5 h5 hi];exact .keep _ (.int _ _)
theorem is2 {f:Nat}{args:List IV}(h:∀ σ,C P E f args σ (ja6 σ zs)):PC P E f args (.aa5 (zs.map Md.ah6)):=
 gb2 fun σ _=>(h σ).mono fun v s ⟨h1,h2⟩=>⟨h1.obj,h1.next,h2.frz fun i hi hl=>Nat.lt_irrefl _ (Nat.lt_of_lt_of_le hl hi)⟩
theorem aw6.grow (h:Grow s v 1 (zs.map Md.ah6))(hlo:∀ id,v=.slice id 0 zs.length 1->lo<=id):aw6 s lo v zs:=by
 have hfl:∀ zs:List Int,(zs.map Md.ah6).flatten=zs.map da4:=fun zs=>by
  induction zs with
  | nil=>rfl
  | cons z zs ih=>simp only[List.map_cons,List.flatten_cons,ih]; rfl
 rcases h with ⟨rfl,h⟩|⟨id,rfl,ho,hid⟩
 ·exact .inl ⟨rfl,List.map_eq_nil_iff.1 h⟩
 ·rw[List.length_map] at hlo;exact .inr ⟨id,hlo id rfl,hid,by rw[List.length_map],by rw[ho,hfl]⟩
theorem aw6.gr (h:aw6 s lo v zs):Grow s v 1 (zs.map Md.ah6):=by
 have hfl:∀ zs:List Int,(zs.map Md.ah6).flatten=zs.map da4:=fun zs=>by
  induction zs with
  | nil=>rfl
  | cons z zs ih=>simp only[List.map_cons,List.flatten_cons,ih]; rfl
 rcases h with ⟨rfl,rfl⟩|⟨id,h1,h2,rfl,ho⟩
 ·exact .inl ⟨rfl,rfl⟩
 ·exact .inr ⟨id,by rw[List.length_map],by rw[ho,hfl],h2⟩
theorem ga2 {nid:Nat}(h:aw6 s lo v zs)(n:Int)(hn:zs.length<2147483648) :
  bf6 s nid 1 v (.aa5 [[.int .i64 n]])=some (.slice nid 0 (zs.length+1) 1,(ai7 v s).put nid (.row ((zs++[n]).map da4))):=by
 have hg:=al4 (nid:=nid) (e:=[.int .i64 n]) h.gr (fun x hx=>by obtain ⟨y,_,rfl⟩:=List.mem_map.1 hx; exact ⟨rfl,rfl⟩) ⟨rfl,rfl⟩ (by rw[List.length_map]; exact hn);rw[hg,List.length_map];congr 4;rw[List.flatten_append,List.map_append];congr 1;generalize zs=l
 induction l with
 | nil=>rfl
 | cons z zs ih=>simp only[List.map_cons,List.flatten_cons,ih]; rfl
theorem ga3 (h:aw6 s lo v zs){i:Nat}(hi:i<lo):(ai7 v s).obj i=s.obj i:=by
 rcases h with ⟨rfl,_⟩|⟨id,h1,h2,rfl,ho⟩
 ·rfl
 ·show (if i=id then none else s.obj i)=s.obj i;rw[if_neg (by omega)]
theorem Kept.up (h:Kept σ s)(n:Nat):Kept σ ⟨s.next+n,s.obj⟩:=⟨Nat.le_trans h.next (Nat.le_add_right _ _),h.obj⟩
theorem aw6.up (h:aw6 s lo v zs)(n:Nat):aw6 ⟨s.next+n,s.obj⟩ lo v zs:=by
 rcases h with h|⟨id,h1,h2,h3,h4⟩
 ·exact .inl h
 ·exact .inr ⟨id,h1,Nat.lt_of_lt_of_le h2 (Nat.le_add_right _ _),h3,h4⟩
theorem ei4.up (h:ei4 s lo v zs)(n:Nat):ei4 ⟨s.next+n,s.obj⟩ lo v zs:=by
 rcases h with h|⟨id,cs,h1,h2,h3,h4⟩
 ·exact .inl h
 ·exact .inr ⟨id,cs,h1,Nat.lt_of_lt_of_le h2 (Nat.le_add_right _ _),h3,h4⟩
theorem aw6.kept (h:aw6 s lo v zs)(hk:Kept s t):aw6 t lo v zs:=by
 rcases h with h|⟨id,h1,h2,h3,h4⟩
 ·exact .inl h
 ·exact .inr ⟨id,h1,Nat.lt_of_lt_of_le h2 hk.next,h3,by rw[hk.obj id h2]; exact h4⟩
theorem ei4.kept (h:ei4 s lo v zs)(hk:Kept s t):ei4 t lo v zs:=by
 rcases h with h|⟨id,cs,h1,h2,h3,h4,h5⟩
 ·exact .inl h
 ·exact .inr ⟨id,cs,h1,Nat.lt_of_lt_of_le h2 hk.next,h3,by rw[hk.obj id h2]; exact h4,h5⟩
theorem Kept.low {k:Nat}(h:Kept ⟨σ.next+k,σ.obj⟩ s):Kept σ s:=⟨Nat.le_trans (Nat.le_add_right _ k) h.next,fun i hi=>h.obj i (Nat.lt_of_lt_of_le hi (Nat.le_add_right _ k))⟩
theorem aw6.low {lo':Nat}(h:aw6 s lo v zs)(hl:lo'<=lo):aw6 s lo' v zs:=by
 rcases h with h|⟨id,h1,h2⟩
 ·exact .inl h
 ·exact .inr ⟨id,Nat.le_trans hl h1,h2⟩
theorem ei4.low {lo':Nat}(h:ei4 s lo v zs)(hl:lo'<=lo):ei4 s lo' v zs:=by
 rcases h with h|⟨id,cs,h1,h2⟩
 ·exact .inl h
 ·exact .inr ⟨id,cs,Nat.le_trans hl h1,h2⟩
theorem Kept.box (t:Store)(A B:ak4):Kept t ⟨t.next+1,(((⟨t.next+1,t.obj⟩:Store).put t.next A).put t.next B).obj⟩:=⟨Nat.le_succ _,fun i hi=>by
 have h:¬ i=t.next:=by omega
 show (if i=t.next then _ else if i=t.next then _ else t.obj i)=_;rw[if_neg h,if_neg h]⟩
theorem ga4:∀ zs:List Int,(zs.map Md.ah6).flatten=zs.map da4:=fun zs=>by
 induction zs with
 | nil=>rfl
 | cons z zs ih=>simp only[List.map_cons,List.flatten_cons,ih]; rfl
theorem dz2 (zs:List Int):(zs.map da4).all IV.leaf=true:=by
 rw[List.all_map]; exact List.all_eq_true.2 fun _ _=>rfl
theorem es4 {nid:Nat}{xs:List Int}(h:aw6 s lo v zs)(hn:zs.length+xs.length<=2147483648) :
  ∃ v' σ',bf6 s nid 1 v (.aa5 (xs.map Md.ah6))=some (v',σ')/\σ'.next=s.next/\(∀ i,i<lo->i≠nid->σ'.obj i=s.obj i)/\∀ τ:Store,τ.obj=σ'.obj->nid<τ.next->s.next<=τ.next->lo<=nid->aw6 τ lo v' (zs++xs):=by
 have hsrc:cc5 s 1 (.aa5 (xs.map Md.ah6))=some (xs.length,xs.map da4):=by
  have h1:(xs.map Md.ah6).all (fun e=>e.length==1)=true:=List.all_eq_true.2 fun x hx=>by
   obtain ⟨y,_,rfl⟩:=List.mem_map.1 hx; rfl
  simp only[cc5,h1,if_true,List.length_map,ga4]
 have hx0:¬ ((xs.map da4).all IV.leaf=false):=by rw[dz2]; decide
 unfold bf6;rw[hsrc];simp only[hx0,if_false];by_cases h0:xs.length=0
 ·have hxs:xs=[]:=List.length_eq_zero_iff.1 h0;subst hxs;rw[List.append_nil];rcases h with ⟨rfl,he⟩|⟨id,i1,i2,rfl,ho⟩
  ·exact ⟨.aa1,s,rfl,rfl,fun _ _ _=>rfl,fun τ _ _ _ _=>.inl ⟨rfl,he⟩⟩
  ·simp only[ho,List.length_nil,and_self,if_true];exact ⟨_,_,rfl,rfl,fun _ _ _=>rfl,fun τ h1 _ h3 _=>.inr ⟨id,i1,by omega,rfl,by rw[h1]; exact ho⟩⟩
 ·rcases h with ⟨rfl,he⟩|⟨id,i1,i2,rfl,ho⟩
  ·subst he;have hle:xs.length<=2147483648:=by simpa using hn
   simp only[h0,if_false,hle,if_true];refine ⟨_,_,rfl,rfl,fun i _ hi=>if_neg hi,fun τ h1 h2 _ h4=>.inr ⟨nid,h4,h2,by rw[List.nil_append],?_⟩⟩;rw[h1,aa7,if_pos rfl,List.nil_append]
  ·have h1:0+zs.length*1=(zs.map da4).length:=by rw[List.length_map]; omega
   simp only[ho,h0,and_false,if_false,h1,hn,List.drop_zero,dz2,and_self,if_true];refine ⟨_,_,rfl,rfl,fun i hi hne=>?_,fun τ h3 h4 _ h6=>.inr ⟨nid,h6,h4,by rw[List.length_append],?_⟩⟩
   ·show (if i=nid then _ else if i=id then none else s.obj i)=_;rw[if_neg hne,if_neg (by omega)]
   ·rw[h3,aa7,if_pos rfl,List.map_append]
    try rfl
theorem gt5 {gv:IV}{esz b nid k:Nat}{es:List (List IV)}{e cs:List IV}{A B:ak4}(hg:Grow s gv esz es)(h:∀ x∈es,x.length=esz/\x.all IV.leaf=true)(he:e.length=esz/\e.all IV.leaf=true)(hn:es.length<2147483648)
  (hb:s.obj b=some (.cells cs)) (hbl:b<s.next) (hnid:s.next<nid) :
  ∃ s1,bf6 ⟨s.next+1+k,(((⟨s.next+1,s.obj⟩:Store).put s.next A).put s.next B).obj⟩ nid esz gv (.aa5 [e])=some (.slice nid 0 (es.length+1) esz,s1)/\s1.next=s.next+1+k/\s1.obj b=some (.cells cs) /\
   ∀ cs' nx,nid<nx->Grow ⟨nx,(s1.put b (.cells cs')).obj⟩ (.slice nid 0 (es.length+1) esz) esz (es++[e]):=by
 have ho:∀ i,i<s.next->(((⟨s.next+1,s.obj⟩:Store).put s.next A).put s.next B).obj i=s.obj i:=fun i hi=>by
  show (if i=s.next then _ else if i=s.next then _ else s.obj i)=_;rw[if_neg (by omega),if_neg (by omega)]
 have hg1:Grow ⟨s.next+1+k,(((⟨s.next+1,s.obj⟩:Store).put s.next A).put s.next B).obj⟩ gv esz es:=Grow.mono (σ:=s) hg (by show s.next<=s.next+1+k; omega) fun id _ hid=>ho id hid
 have hb1:(((⟨s.next+1,s.obj⟩:Store).put s.next A).put s.next B).obj b=some (.cells cs):=by rw[ho b hbl,hb]
 refine ⟨_,al4 hg1 h he hn,by rw[ab5,ad8],?_,fun cs' nx hnx=>?_⟩
 ·rw[aa7,if_neg (by omega)];exact af7 hg1 b _ hb1 (fun _ e=>by cases e)
 ·refine Grow.new (v:=.aa1) hnx ?_;show (if nid=b then _ else if nid=nid then _ else _)=_;rw[if_neg (by omega),if_pos rfl]
theorem es5 (hk:Kept σ s)(h:aw6 s σ.next v zs)(n:Int){a nid:Nat}(h1:s.next<=nid)(h2:nid<s.next+a){cs:List IV}(hc:cs=(zs++[n]).map da4) :
  Kept σ ((ai7 v ⟨s.next+a,s.obj⟩).put nid (.row cs))/\aw6 ((ai7 v ⟨s.next+a,s.obj⟩).put nid (.row cs)) σ.next (.slice nid 0 (zs.length+1) 1) (zs++[n]):=by
 subst hc;have hn:(ai7 v ⟨s.next+a,s.obj⟩).next=s.next+a:=ad8 v;refine ⟨⟨?_,fun i hi=>?_⟩,.inr ⟨nid,Nat.le_trans hk.next h1,?_,by rw[List.length_append,List.length_singleton],?_⟩⟩
 ·show σ.next<=(ai7 v _).next;rw[hn]; exact Nat.le_trans hk.next (Nat.le_add_right _ _)
 ·have hne:i≠nid:=fun e=>by have:=hk.next; omega
  show (if i=nid then _ else (ai7 v ⟨s.next+a,s.obj⟩).obj i)=_;rw[if_neg hne,ga3 (h.up a) hi];exact hk.obj i hi
 ·show nid<(ai7 v _).next;rw[hn]; exact h2
 ·show (if nid=nid then _ else _)=_;rw[if_pos rfl]
end Go.Id
set_option linter.all false
namespace Go.Id
open Go
theorem do5 {P:Program}{E:Nat->IV}{N n0:Nat}{fr:Frm}{σ:Store}{x:IC}{Q:Exit->Frm->Store->Prop}(I:Nat->Frm->Store->Prop)(n:Nat)(h:I 0 fr σ)
  (hI:∀ i fr σ,i<=n->I i fr σ->RI P E N n0 x fr σ (upQ I i n Q)):RI P E N n0 (.loop x) fr σ Q:=by
 refine gu7 (fun m fr σ=>∃ i,i<=n/\m=n-i/\I i fr σ) n ⟨0,Nat.zero_le _,rfl,h⟩ ?_;rintro m fr σ ⟨i,hi,rfl,hi0⟩;refine az4 (hI i fr σ hi hi0) ?_;intro e f s q
 cases e with
 | normal=>exact ⟨n-(i+1),by have:=q.1; omega,i+1,q.1,rfl,q.2⟩
 | _=>exact q
section
theorem fw5 {s:Store}{v:IV}{esz nid:Nat}{es xs:List (List IV)}(hg:Grow s v esz es)(h:∀ x∈es,x.length=esz/\x.all IV.leaf=true)(hx:∀ x∈xs,x.length=esz/\x.all IV.leaf=true)(hn:es.length+xs.length<=2147483648) :
  (xs=[]/\bf6 s nid esz v (.aa5 xs)=some (v,s))\/bf6 s nid esz v (.aa5 xs)=some (.slice nid 0 (es.length+xs.length) esz,(ai7 v s).put nid (.row (es++xs).flatten)):=by
 have hsrc:cc5 s esz (.aa5 xs)=some (xs.length,xs.flatten):=by
  have h1:xs.all (fun e=>e.length==esz)=true:=List.all_eq_true.2 fun x hm=>by rw[(hx x hm).1]; simp
  simp only[cc5,h1,if_true]
 have hl:xs.flatten.all IV.leaf=true:=bx7 fun x hm=>(hx x hm).2
 have hl2:es.flatten.all IV.leaf=true:=bx7 fun x hm=>(h x hm).2
 have hfl:es.flatten.length=es.length*esz:=am4 fun x hm=>(h x hm).1
 have hn2:xs.length<=2147483648:=by omega
 by_cases h0:xs.length=0
 ·have hxe:xs=[]:=List.length_eq_zero_iff.1 h0;subst hxe;refine .inl ⟨rfl,?_⟩;unfold bf6;rw[hsrc];rcases hg with ⟨rfl,rfl⟩|⟨id,rfl,ho,hid⟩
  ·simp
  ·simp[ho]
 ·refine .inr ?_;unfold bf6;rw[hsrc];rcases hg with ⟨rfl,rfl⟩|⟨id,rfl,ho,hid⟩
  ·simp[hl,h0,hn2,ai7]
  ·simp[hl,ho,h0,hfl,hl2,hn,ai7]
theorem bm3 {s:Store}{v:IV}{esz nid:Nat}{es xs:List (List IV)}(hg:Grow s v esz es)(h:∀ x∈es,x.length=esz/\x.all IV.leaf=true)(hx:∀ x∈xs,x.length=esz/\x.all IV.leaf=true)(hn:es.length+xs.length<=2147483648)(hnid:nid<s.next) :
  ∃ v' s',bf6 s nid esz v (.aa5 xs)=some (v',s')/\s'.next=s.next/\Grow s' v' esz (es++xs)/\(∀ i,i≠nid->(∀ k,v≠.slice i 0 k esz)->s'.obj i=s.obj i)/\(v'=v\/v'=.slice nid 0 (es.length+xs.length) esz):=by
 rcases fw5 (nid:=nid) hg h hx hn with ⟨rfl,h1⟩|h1
 ·exact ⟨v,s,h1,rfl,by rw[List.append_nil]; exact hg,fun _ _ _=>rfl,.inl rfl⟩
 ·refine ⟨_,_,h1,by rw[ab5,ad8],.inr ⟨nid,by rw[List.length_append],by rw[aa7,if_pos rfl],by rw[ab5,ad8]; exact hnid⟩,fun i hi hv=>?_,.inr rfl⟩;rw[aa7,if_neg hi];rcases hg with ⟨rfl,_⟩|⟨id,rfl,_,_⟩
  ·rfl
  ·show (if i=id then none else s.obj i)=_;rw[if_neg fun e=>hv _ (by rw[e])]
end
end Go.Id
set_option linter.all false
namespace Go.Id
open Go
variable {P:Program} {E:Nat->IV} {σ σ':Store} {N n0:Nat} {fr:Frm}
def dp1 (P:Program)(E:Nat->IV)(base:Nat):List YO->Frm->Store->(Frm->Store->Prop)->Prop
 | [],fr,σ,K=>K fr σ
 | (i,o,m)::rest,fr,σ,K=>(m=0/\o.guard=none)/\opT noP noC P E o.op (base+i) fr σ fun v σ'=>dp1 P E base rest (fr.ao4 o.dst v) σ' K
def hy9 (P:Program)(E:Nat->IV)(base:Nat)(rest:List YO)(d:Option Nat)(fr:Frm)(K:Frm->Store->Prop):IV->Store->Prop:=fun v σ'=>dp1 P E base rest (fr.ao4 d v) σ' K
theorem eh7 {base:Nat}{K:Frm->Store->Prop}:∀ (ops:List YO) (L:List LE) (fr:Frm) (σ:Store),dp1 P E base ops fr σ K->ax5 P E (hl7 base ops) L fr σ K:=by
 intro ops
 induction ops with
 | nil=>intro L fr σ h; exact h
 | cons o os ih=>
  obtain ⟨i,⟨d,g,op⟩,m⟩:=o;rintro L fr σ ⟨⟨hm,hg⟩,h⟩;simp only at hm hg h;subst hm;subst hg;refine .inl ⟨rfl,am3 (fun v s k=>⟨bm6,ih _ _ _ k⟩) (bn1 noT h)⟩
theorem gr6 {id:Nat}{ops:List YO}{keep:List Nat}{Q:Exit->Frm->Store->Prop}(h:dp1 P E σ.next ops fr ⟨σ.next+ops.length,σ.obj⟩ (gu5 keep Q)):RI P E N n0 (.gq5 id ops keep) fr σ Q :=
 ai3 (show wpT noP noC P E N n0 (.gq5 id ops keep) fr σ Q from eh7 ops [] fr _ h)
variable {base i:Nat} {Kf:Frm->Store->Prop} {d:Option Nat} {rest:List YO}
theorem jl2:dp1 P E base [] fr σ Kf=Kf fr σ:=nr rfl
theorem jl3 {op:IK}:dp1 P E base ((i,⟨d,none,op⟩,0)::rest) fr σ Kf=opT noP noC P E op (base+i) fr σ (hy9 P E base rest d fr Kf):=by
 simp[dp1]; rfl
theorem jl4 {d:Nat}(v:IV):hy9 P E base rest (some d) fr Kf v σ=dp1 P E base rest ((d,v)::fr) σ Kf:=nr rfl
theorem jc8 (v:IV):hy9 P E base rest none fr Kf v σ=dp1 P E base rest fr σ Kf:=nr rfl
theorem jc9:List.length ([]:List YO)=0:=nr rfl
theorem jd1 {y:YO}:List.length (y::rest)=rest.length+1:=nr rfl
attribute [go_sem] jl2 jl3 jl4 jc8 jc9 jd1
theorem fc9 {a t vs:List IV}{k:Nat}:ay1 (a++t) (a.length+k) vs=a++ay1 t k vs:=by
 unfold ay1;rw[List.take_append,List.take_of_length_le (by omega),List.drop_append,List.drop_of_length_le (by omega)];have e1:a.length+k-a.length=k:=by omega
 have e2:a.length+k+vs.length-a.length=k+vs.length:=by omega
 rw[e1,e2]; simp
end Go.Id
set_option linter.all false
namespace Go.Id
open Go Go.Sort
variable {P:Program} {w w':World} {ρ ρ':Rho} {E:Nat->IV} {σ:Store}
theorem ct5 (n k:Nat):Ext n ρ w ρ (Sort.ahead w k):=⟨Nat.le_refl _,fun _ _=>rfl,fun _ r _ _ h=>⟨r,h,rfl⟩,fun i B d h=>.inl ⟨i,d,h⟩,fun _ _ _ h=>.inl h,fun _ h=>h,fun _ _ h=>h,rfl,rfl,⟨rfl,Nat.le_add_right _ _⟩,fun _ L h=>⟨L,h⟩,rfl⟩
theorem ga5 (hs:Sim E ρ w σ)(k:Nat):Sim E ρ (Sort.ahead w k) σ :=
 ⟨hs.inj,hs.lt,fun i B d h=>let ⟨o,h1,h2⟩:=hs.obj i B d h; ⟨o,h1,h2.mono (ct5 0 k) rfl⟩,hs.dead,hs.fresh,hs.av3,fun g=>(hs.env g).mono (ct5 0 k),hs.nx,hs.xlt⟩
theorem dp9 (w:World)(os:Array Obj){b:Nat}(h:b<w.heap.size):(Sort.grow w os).heap[b]? = w.heap[b]?:=by
 show (w.heap++os)[b]? = _;rw[Array.getElem?_append_left h]
theorem ga6 {b:Nat}{o:Obj}(h:w.heap[b]? = some o):b<w.heap.size:=(Array.getElem?_eq_some_iff.1 h).1
theorem by3 (n:Nat)(os:Array Obj):Ext n ρ w ρ (Sort.grow w os):=
 ⟨by show _<=(w.heap++os).size; simp,fun b h=>dp9 w os h.1,fun b r el fz h=>⟨r,by rw[dp9 w os (ga6 h)]; exact h,rfl⟩,fun i B d h=>.inl ⟨i,d,h⟩,fun _ _ _ h=>.inl h,fun _ h=>h,fun _ _ h=>h,rfl,rfl,⟨rfl,Nat.le_refl _⟩,fun l L h=>⟨L,by rw[dp9 w os (ga6 h)]; exact h⟩,rfl⟩
theorem gt6 (hs:Sim E ρ w σ)(os:Array Obj):Sim E ρ (Sort.grow w os) σ :=
 ⟨hs.inj,fun i B d h=>Nat.lt_of_lt_of_le (hs.lt i B d h) (by3 (ρ:=ρ) 0 os).size,fun i B d h=>let ⟨o,h1,h2⟩:=hs.obj i B d h; ⟨o,h1,h2.mono (by3 0 os) (dp9 w os (hs.lt i B d h))⟩,hs.dead,hs.fresh,hs.av3,fun g=>(hs.env g).mono (by3 0 os),hs.nx,fun b h=>Nat.lt_of_lt_of_le (hs.xlt b h) (by3 (ρ:=ρ) (w:=w) 0 os).size⟩
theorem putRow_set {α:Type}[Inhabited α](enc:α->Value)(w:World)(B off:Nat)(d:Array α){rcs:Array Value}{el:TypeId}{fz:Nat×Nat}(h:w.heap[B]? = some (.cells rcs el fz)) :
  Sort.putRow enc w B off d=w.setRow B (Sort.putCells enc off d rcs):=by
 unfold Sort.putRow Sort.mapBlock World.setRow;congr 1;apply Array.ext_getElem?;intro k;simp only[Array.getElem?_modify];by_cases hk:B=k
 ·subst hk;simp only[if_true,h,Option.map_some,Sort.onCells]
 ·simp[hk]
theorem ib7 {α:Type}[Inhabited α]{enc:α->Value}{en:α->IV}{srt:List α->List α}{f:Nat}
  (hv:∀ (ρ:Rho) (w:World) (x:α),VR ρ w (en x) (enc x)) (hinv:∀ (ρ:Rho) (w:World) (x:α) (r:Value),VR ρ w (en x) r->r=enc x)
  (hl:∀ l,(srt l).length=l.length) (h0:srt []=[])
  (hk:∀ (blk off cap:Nat) (zs:List α) (w:World),Sort.Holds enc w blk off zs.toArray->blk<w.heap.size->zs.length<4611686018427387904->Calls P f #[.slice (some ⟨blk,off,none⟩) zs.length cap] w fun e w'=>
   e=.returned (.tuple #[])/\∃ n os,w'=Sort.grow (Sort.putRow enc (Sort.ahead w n) blk off (srt zs).toArray) os)
  (hn:∀ (p:Option Addr) (cap:Nat) (w:World),Calls P f #[.slice p 0 cap] w fun e w'=>e=.returned (.tuple #[])/\w'=w)
  {id:Nat} {zs:List α} (hz:zs.length<4611686018427387904) (ho:σ.obj id=some (.row (zs.map en))) :
  C P E f [.slice id 0 zs.length 1] σ fun v s=>v=.tuple []/\s=σ.put id (.row ((srt zs).map en)):=by
 intro ρ w rargs hs hr;obtain ⟨hr1,hr2⟩:=hr;have hv0:=hr2 0 (by simp);obtain ⟨al⟩:=rargs
 match al,hr1,hv0 with
 | [r],_,hv0=>
  have hv0:VR ρ w (.slice id 0 zs.length 1) r:=hv0
  have empty:∀ (p:Option Addr) (cap:Nat),r=.slice p 0 cap->zs.length=0->CallsIn Fence.wide 0 P f #[r] w fun e w'=>∃ v r ρ' σ',e=.returned r/\(v=IV.tuple []/\σ'=σ.put id (.row ((srt zs).map en)))/\Sim E ρ' w' σ'/\VR ρ' w' v r/\be9 σ.next ρ w ρ' w':=by
   intro p cap er hz0;have hz0:zs=[]:=List.length_eq_zero_iff.1 hz0;subst hz0;rw[er];refine callsIn_wide.2 ((hn p cap w).mono ?_);rintro e w' ⟨rfl,rfl⟩
   have hput:σ.put id (.row (([]:List α).map en))=σ:=by
    unfold Store.put;congr 1;funext i;by_cases h:i=id
    ·subst h; simpa using ho.symm
    ·simp[h]
   exact ⟨.tuple [],_,ρ,σ,rfl,⟨rfl,by rw[h0]; exact hput.symm⟩,hs,.tuple [] #[] rfl (fun i hi=>by simp at hi),be9.refl _ _ _⟩
  by_cases hz0:zs.length=0
  ·rw[hz0] at hv0
   cases hv0 with
   | slice _ _ _ _ B d cap rcs el fz hid hb hsz hle=>exact empty _ _ rfl hz0
   | am1 _ _ _ B d a hid=>exact empty _ _ rfl hz0
   | al1 _ _ _ _ cap ad hid hle=>exact empty _ _ rfl hz0
  ·obtain ⟨m,hm⟩:∃ m,m=zs.length:=⟨_,rfl⟩;rw[<- hm] at hv0
   cases hv0 with
   | slice _ _ _ _ B d cap rcs el fz hid hb hsz hle=>
    subst hm;obtain ⟨o,h1,h2⟩:=hs.obj id B d hid;rw[ho] at h1;cases h1;obtain ⟨rcs',el',hb',hsz',hvs⟩:=h2;rw[hb] at hb';cases hb';rw[List.length_map] at hsz' hvs
    have hcell:∀ j (h:j<zs.length),rcs[d+j]? = some (enc zs[j]):=fun j h=>by
     have:=hvs j h;have e1:(zs.map en).getD j .undef=en zs[j]:=by simp[List.getD_eq_getElem?_getD,h]
     rw[e1] at this;have:=hinv _ _ _ _ this;have hlt:d+j<rcs.size:=by omega
     rw[ad7 _ _ _ hlt] at this;rw[Array.getElem?_eq_getElem hlt,this]
    have hH:Sort.Holds enc w B (d+0) zs.toArray:=fun j hj=>by
     have hj':j<zs.length:=by simpa using hj
     refine ⟨?_,?_⟩
     ·simp only[World.cell?,hb,Option.isSome_none,Bool.false_eq_true,if_false,Nat.add_zero];rw[hcell j hj'];congr 2;rw[getElem!_pos _ j hj]; simp
     ·simp[World.frozen?,hb]
    refine callsIn_wide.2 ((hk B (d+0) cap zs w hH (hs.lt id B d hid) hz).mono ?_);rintro e w' ⟨rfl,n,os,rfl⟩;have hba:(Sort.ahead w n).heap[B]? = some (.cells rcs el (0,0)):=hb;rw[putRow_set enc _ B _ _ hba];have hsa:=ga5 hs n;generalize hnew:Sort.putCells enc (d+0) (srt zs).toArray rcs=new;have hnsz:new.size=rcs.size:=by rw[<- hnew]; simp[Sort.putCells]
    have hx1:∀ m,Ext m ρ (Sort.ahead w n) ρ ((Sort.ahead w n).setRow B new):=fun m=>ax3 (n:=m) (new:=new) hid hba hnsz
    have hs1:Sim E ρ ((Sort.ahead w n).setRow B new) (σ.put id (.row ((srt zs).map en))):=by
     refine bo8 hsa hid hba hnsz ⟨new,el,setRow_heap _ B rcs new el (0,0) hba,?_,fun k hk'=>?_⟩
     ·rw[hnsz,List.length_map,hl]; exact hsz'
     ·rw[List.length_map,hl] at hk';have hlt:d+k<rcs.size:=by omega
      have hks:k<(srt zs).length:=by rw[hl]; exact hk'
      have e1:((srt zs).map en).getD k .undef=en (srt zs)[k]:=by simp[List.getD_eq_getElem?_getD,hks]
      have e2:new.getD (d+k) undef=enc (srt zs)[k]:=by
       rw[<- hnew];rw[ad7 _ _ _ (by simpa [Sort.putCells] using hlt)];have c1:d+0<=d+k/\d+k<d+0+(srt zs).toArray.size:=by simp; omega
       simp only[Sort.putCells,Array.getElem_mapIdx,c1,and_self,if_true];congr 1;rw[getElem!_pos _ _ (by simp; omega)];simp
      rw[e1,e2];exact hv _ _ _
    exact ⟨.tuple [],_,ρ,_,rfl,⟨rfl,rfl⟩,gt6 hs1 os,.tuple [] #[] rfl (fun i hi=>by simp at hi),(((ct5 σ.next n).trans (hx1 σ.next) (Nat.le_refl _)).trans (by3 σ.next os) (Nat.le_refl _)).weak (Nat.le_refl _)⟩
   | am1=>exact absurd hm.symm hz0
   | al1 _ _ _ _ cap ad hid hle=>rw[hs.dead id hid] at ho; cases ho
end Go.Id
set_option linter.all false
namespace Go.Id
open Go
variable {P:Program} {E:Nat->IV} {σ σ':Store}
def gt8 (f:IV->IV->Bool):List (IV×IV)->List (IV×IV)->Bool
 | [],y=>match y with
  | []=>true
  | _=>false
 | a::aZ,y=>match y with
  | b::bs=>f a.1 b.1&&f a.2 b.2&&gt8 f aZ bs
  | _=>false
theorem gt9 {f:IV->IV->Bool}(hf:∀ a b,f a b=true->a=b):∀ x y,gt8 f x y=true->x=y:=by
 intro x
 induction x with
 | nil=>intro y h; cases y with
  | nil=>rfl
  | cons b y=>cases h
 | cons a x ih=>intro y h; cases y with
  | nil=>cases h
  | cons b y=>
   obtain ⟨a1,a2⟩:=a;obtain ⟨b1,b2⟩:=b;simp only[gt8,Bool.and_eq_true] at h;rw[hf _ _ h.1.1,hf _ _ h.1.2,ih y h.2]
def dz3:Nat->IV->IV->Bool
 | 0,_,_=>false
 | n+1,a,b=>match a with
  | .al6 x=>match b with
   | .al6 y=>gt8 (dz3 n) x y
   | _=>false
  | .ab8 x=>match b with
   | .ab8 y=>ct3 (dz3 n) x y
   | _=>false
  | .aa5 x=>match b with
   | .aa5 y=>dy5 (dz3 n) x y
   | _=>false
  | .agg x=>match b with
   | .agg y=>ct3 (dz3 n) x y
   | _=>false
  | .tuple x=>match b with
   | .tuple y=>ct3 (dz3 n) x y
   | _=>false
  | a=>gs8 (n+1) a b
theorem gu1:∀ (n:Nat) (a b:IV),dz3 n a b=true->a=b:=by
 intro n
 induction n with
 | zero=>intro a b h; cases h
 | succ n ih=>
  intro a b h
  cases a with
  | al6 x=>cases b with
   | al6 y=>rw[gt9 ih _ _ h]
   | _=>cases h
  | ab8 x=>cases b with
   | ab8 y=>rw[bi5 ih _ _ h]
   | _=>cases h
  | aa5 x=>cases b with
   | aa5 y=>rw[dy6 ih _ _ h]
   | _=>cases h
  | agg x=>cases b with
   | agg y=>rw[bi5 ih _ _ h]
   | _=>cases h
  | tuple x=>cases b with
   | tuple y=>rw[bi5 ih _ _ h]
   | _=>cases h
  | _=>exact ia9 (n+1) _ _ h
def wkL (f:IV->IV->Bool):List IV->List IV->Bool
 | [],y=>match y with
  | []=>true
  | _=>false
 | a::aZ,y=>match y with
  | b::bs=>f a b&&wkL f aZ bs
  | _=>false
theorem bd4 {f:IV->IV->Bool}:∀ x y,wkL f x y=true->y.length=x.length/\∀ i,i<x.length->f (x.getD i .undef) (y.getD i .undef)=true:=by
 intro x
 induction x with
 | nil=>intro y h; cases y with
  | nil=>exact ⟨rfl,fun i hi=>absurd hi (Nat.not_lt_zero _)⟩
  | cons b y=>cases h
 | cons a x ih=>intro y h; cases y with
  | nil=>cases h
  | cons b y=>
   simp only[wkL,Bool.and_eq_true] at h;obtain ⟨h1,h2⟩:=ih y h.2;refine ⟨by simp[h1],fun i hi=>?_⟩
   cases i with
   | zero=>exact h.1
   | succ i=>exact h2 i (by simpa using hi)
def wkR (f:IV->IV->Bool):List (List IV)->List (List IV)->Bool
 | [],y=>match y with
  | []=>true
  | _=>false
 | a::aZ,y=>match y with
  | b::bs=>wkL f a b&&wkR f aZ bs
  | _=>false
theorem gu2 {f:IV->IV->Bool}:∀ x y,wkR f x y=true->y.length=x.length/\∀ i,i<x.length->wkL f (x.getD i []) (y.getD i [])=true:=by
 intro x
 induction x with
 | nil=>intro y h; cases y with
  | nil=>exact ⟨rfl,fun i hi=>absurd hi (Nat.not_lt_zero _)⟩
  | cons b y=>cases h
 | cons a x ih=>intro y h; cases y with
  | nil=>cases h
  | cons b y=>
   simp only[wkR,Bool.and_eq_true] at h;obtain ⟨h1,h2⟩:=ih y h.2;refine ⟨by simp[h1],fun i hi=>?_⟩
   cases i with
   | zero=>exact h.1
   | succ i=>exact h2 i (by simpa using hi)
def wkB:Nat->IV->IV->Bool
 | 0,_,_=>false
 | n+1,a,b=>match a with
  | .aa1=>match b with
   | .aa5 y=>match y with
    | []=>true
    | _=>false
   | .aa1=>true
   | _=>false
  | .aa5 x=>match b with
   | .aa5 y=>wkR (wkB n) x y
   | _=>false
  | .agg x=>match b with
   | .agg y=>wkL (wkB n) x y
   | _=>false
  | .ab8 x=>match b with
   | .ab8 y=>wkL (wkB n) x y
   | _=>false
  | a=>au1 (n+1) a&&dz3 (n+1) a b
theorem ib9:∀ (n:Nat) (a b:IV),wkB n a b=true->∀ (σ:Store) (S:Nat->Prop),Frz σ S a b:=by
 intro n
 induction n with
 | zero=>intro a b h; cases h
 | succ n ih=>
  intro a b h σ S
  have eqc:∀ a b:IV,(au1 (n+1) a&&dz3 (n+1) a b)=true->Frz σ S a b:=fun a b h=>by
   simp only[Bool.and_eq_true] at h;rw[<- gu1 _ _ _ h.2];exact .keep _ ((ax6 _ _ h.1).weak fun i hi=>absurd hi (Nat.not_lt_zero _))
  cases a with
  | aa1=>cases b with
   | aa5 y=>cases y with
    | nil=>exact .bu6
    | cons _ _=>cases h
   | aa1=>exact .keep _ .aa1
   | _=>cases h
  | aa5 x=>cases b with
   | aa5 y=>
    obtain ⟨h1,h2⟩:=gu2 _ _ h
    exact .aa5 _ _ h1 (fun i hi=>(bd4 _ _ (h2 i hi)).1) fun i hi j hj=>ih _ _ ((bd4 _ _ (h2 i hi)).2 j hj) σ S
   | _=>cases h
  | agg x=>cases b with
   | agg y=>exact .agg _ _ (bd4 _ _ h).1 fun i hi=>ih _ _ ((bd4 _ _ h).2 i hi) σ S
   | _=>cases h
  | ab8 x=>cases b with
   | ab8 y=>exact .ab8 _ _ (bd4 _ _ h).1 fun i hi=>ih _ _ ((bd4 _ _ h).2 i hi) σ S
   | _=>cases h
  | _=>exact eqc _ _ h
theorem ic1 {f:Nat}{args args':List IV}{v:IV}(hw:wkL (wkB 1000) args args'=true)(h:PC P E f args' v):PC P E f args v :=
 ct6 (bd4 _ _ hw).1 (fun σ i hi=>ib9 1000 _ _ ((bd4 _ _ hw).2 i hi) σ _) h
end Go.Id
set_option linter.all false
namespace Go.Id
open Go
variable {H:Type} {enc:TypeId×Value->H} {P:Program} {w:World} {base:Nat} {sp:Nat->Bool} {held:Bool}
def Rdg (enc:TypeId×Value->H)(P:Program)(w:World)(base:Nat)(sp:Nat->Bool)(held:Bool)(n:Nat)(t:TypeId)(d:DataW H):Prop :=
 ∃ cs ps,DataW.trod enc P w base sp held n t cs=some (d,ps)
def WT (P:Program)(t:TypeId)(d:DataW H):Prop:=∀ k∈d.weights P t,k<=reachBytes
theorem bk3 {n:Nat}{t:TypeId}{d:DataW H}{k:IntKind}(hu:P.underlying t=some (.int k))(h:Rdg enc P w base sp held n t d):∃ z,d=.lit (.int k z)/\(Lit.int k z).wf=true/\∀ m,n<=m->dv P m t d=some [.int k z]:=by
 obtain ⟨cs,ps,h⟩:=h;have hn:n≠0:=fun e=>by subst e; simp[DataW.trod] at h
 obtain ⟨z,rfl,hx,hw⟩:=DataW.trod_int hu h;cases hx;refine ⟨z,rfl,hw,fun m hm=>?_⟩
 cases m with
 | zero=>omega
 | succ m=>simp only[dv,hu]
theorem cu3 {n:Nat}{t:TypeId}{d:DataW H}(hu:P.underlying t=some .string)(h:Rdg enc P w base sp held n t d)(hw:WT P t d):∃ s:List UInt8,s.length<2^62/\∀ m,n<=m->dv P m t d=some [.str s]:=by
 obtain ⟨cs,ps,h⟩:=h;have hn:n≠0:=fun e=>by subst e; simp[DataW.trod] at h
 obtain ⟨s,rfl,hx,_⟩:=DataW.trod_string hu h;cases hx;refine ⟨s.data.toList,?_,fun m hm=>?_⟩
 ·have:=hw s.data.toList.length (by simp[DataW.weights]);have:=reachBytes_lt;omega
 ·cases m with
  | zero=>omega
  | succ m=>simp only[dv,hu]
theorem av7 {n:Nat}{t:TypeId}{d:DataW H}{fs:Array Field}(hu:P.underlying t=some (.struct fs))(h:Rdg enc P w base sp held n t d)(hw:WT P t d) :
  ∃ n' ds,n=n'+1/\d=.agg ds/\ds.length=fs.size/\∀ (i:Nat) (f:Field) (d':DataW H),fs[i]? = some f->ds[i]? = some d'->Rdg enc P w base sp held n' f.type d'/\WT P f.type d':=by
 obtain ⟨cs,ps,h⟩:=h;obtain ⟨xs,n',rfl,hx,_,hl,hf⟩:=DataW.trod_struct hu h;cases hx;refine ⟨n',xs.map (·.1),rfl,rfl,by rw[List.length_map,hl],fun i f d' h1 h2=>⟨?_,fun k hk=>?_⟩⟩
 ·rw[List.getElem?_map] at h2
  cases hxi:xs[i]? with
  | none=>rw[hxi] at h2; cases h2
  | some x=>
   rw[hxi] at h2;cases h2;exact ⟨_,x.2,by rw[hf i f h1,hxi]⟩
 ·refine hw k ?_;simp only[DataW.weights,hu];exact DataW.weights_mem_each (j:=i) (t:=f.type) (d:=d') (by rw[List.getElem?_map]; simp[h1]) h2 k hk
theorem da6 {e:TypeId}{k:Nat}:∀ {l:List (DataW H)} {d:DataW H},d∈l->k∈d.weights P e->k∈DataW.weightsAll P e l:=by
 intro l
 induction l with
 | nil=>intro d h; cases h
 | cons x xs ih=>
  intro d h hk;simp only[DataW.weightsAll,List.mem_append];rcases List.mem_cons.1 h with rfl|h
  ·exact .inl hk
  ·exact .inr (ih h hk)
theorem ba3 {α:Type}{n:Nat}{t e:TypeId}{d:DataW H}{c:Nat}(f:α->List IV)(ok:α->Prop)(hu:P.underlying t=some (.slice e))(hc:P.cellsOf e=c)(hc0:c≠0)(hb:1<=P.bytesOf e)(hl:∀ a,(f a).length=c)
  (ih:∀ n' d',n'<n->Rdg enc P w base sp held n' e d'->WT P e d'->∃ a,ok a/\∀ m,n'<=m->dv P m e d'=some (f a))
  (h:Rdg enc P w base sp held n t d) (hw:WT P t d):∃ l:List α,l.length<2^62/\(∀ a∈l,ok a)/\∀ m,n<=m->dv P m t d=some [.aa5 (l.map f)]:=by
 obtain ⟨cs,ps,h⟩:=h;have hn:n≠0:=fun e=>by subst e; simp[DataW.trod] at h
 rcases DataW.trod_slice hu h with ⟨rfl,hx⟩|⟨a,len,cap,elems,rest,n',rfl,rfl,hx,_,_,_,hlen,hel,_,_⟩
 ·cases hx;refine ⟨[],by simp,fun a ha=>(by cases ha),fun m hm=>?_⟩
  cases m with
  | zero=>omega
  | succ m=>simp only[dv,hu]; rfl
 ·cases hx
  have hsz:elems.length<2^62:=by
   have h1:=hw ((elems.length+rest.length)*P.bytesOf e) (by simp[DataW.weights,hu]);have h2:(elems.length+rest.length)*1<=(elems.length+rest.length)*P.bytesOf e:=Nat.mul_le_mul_left _ hb;have:=reachBytes_lt;omega
  have hel':∀ x∈elems,Rdg enc P w base sp held n' e x.1:=by
   intro x hx;obtain ⟨i,hi,he⟩:=List.mem_iff_getElem.1 hx;have h1:=hel i (by omega);rw[List.getElem?_eq_getElem hi,he] at h1;obtain ⟨ci,_,h2⟩:=Option.bind_eq_some_iff.1 h1;exact ⟨ci,x.2,h2⟩
  have hwe:∀ x∈elems,WT P e x.1:=by
   intro x hx k hk;refine hw k ?_;simp only[DataW.weights,hu,List.mem_cons,List.mem_append];exact .inr (.inl (da6 (List.mem_map_of_mem (f:=fun x:DataW H×List MemPlace=>x.1) hx) hk))
  have key:∀ ys:List (DataW H×List MemPlace),(∀ x∈ys,x∈elems)->∃ l:List α,l.length=ys.length/\(∀ a∈l,ok a)/\∀ m,n'<=m->dvS (dv P m e) c (ys.map (·.1))=some (l.map f):=by
   intro ys
   induction ys with
   | nil=>intro _; exact ⟨[],rfl,fun a ha=>(by cases ha),fun m _=>rfl⟩
   | cons y ys ih2=>
    intro hin;obtain ⟨l,l1,l2,l3⟩:=ih2 fun x hx=>hin x (List.mem_cons_of_mem _ hx)
    have hy:=hin y (List.mem_cons_self ..);obtain ⟨a,a1,a2⟩:=ih n' y.1 (Nat.lt_succ_self _) (hel' y hy) (hwe y hy);refine ⟨a::l,by simp[l1],fun b hb=>?_,fun m hm=>?_⟩
    ·rcases List.mem_cons.1 hb with rfl|hb
     ·exact a1
     ·exact l2 b hb
    ·simp only[List.map_cons,dvS,a2 m hm,hl a,if_true,l3 m hm]
  obtain ⟨l,l1,l2,l3⟩:=key elems fun x hx=>hx
  refine ⟨l,by omega,l2,fun m hm=>?_⟩
  cases m with
  | zero=>omega
  | succ m=>
   subst hc;simp only[dv,hu,if_neg hc0,l3 m (by omega)]
end Go.Id
