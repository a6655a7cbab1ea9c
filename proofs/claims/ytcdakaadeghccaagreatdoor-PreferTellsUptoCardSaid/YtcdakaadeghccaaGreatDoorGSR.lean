/- Codes that are printed closely,walked. Conditions: none; over any program. -/
import Derived.Test.YtcdakaadeghccaaGreatDoorT6
import Derived.Test.YtcdakaadeghccaaGreatDoorFwQ
import Derived.Test.YtcdakaadeghccaaGreatDoorMv
import Derived.Shelf.Sort.Plain
import Derived.Shelf.Slices.In.SortNone
import Derived.SizedLaws
open Option renaming some→za,none→zg
open List renaming length_map→zb,getD_eq_getElem?_getD→zd,flatten_cons→zh,map_cons→zj,length_eq_zero_iff→zk,length_append→zm,getElem?_map→zn,all_eq_true→zo,mem_cons→zq,getElem?_eq_getElem→zr
open Nat renaming lt_of_lt_of_le→zc,le_add_right→ze,le_trans→zf,le_refl→zi,not_lt_zero→zp
open Bool renaming and_eq_true→zl
open Int renaming ofNat→zt
set_option linter.all false
namespace Go.Id
open Go
theorem kd7 {d:Nat}{q:IQ}:oQ d q=⟨za d,zg,.q q⟩:=nr rfl
theorem kd8 {d:Nat}{x:IX}:oM d x=⟨za d,zg,.q (.mov x)⟩:=nr rfl
theorem kd9 {d:Nat}{k:IK}:oK d k=⟨za d,zg,k⟩:=nr rfl
theorem ke1 {d s:Nat}{w:Bool}{q:IQ}:gQ d s w q=⟨za d,za (s,w),.q q⟩:=nr rfl
theorem ke2 {d s:Nat}{w:Bool}{k:IK}:gK d s w k=⟨za d,za (s,w),k⟩:=nr rfl
theorem ke3 {k:IK}:oN k=⟨zg,zg,k⟩:=nr rfl
theorem ke4 {n:Int}:cI n=.c (.int .i64 n):=nr rfl
theorem ke5 {b:Bool}:cB b=.c (.bool b):=nr rfl
theorem ke6 {n:Int}:zI n=.int .i64 n:=nr rfl
theorem ke7 {n:Int}:zU n=.int .u8 n:=nr rfl
attribute [go_sem] kd7 kd8 kd9 ke1 ke2 ke3 ke4 ke5 ke6 ke7
attribute [go_sem] decide_true decide_false reduceCtorEq Int.reduceLT Int.reduceLE Int.reduceToNat Int.reduceAdd Nat.reduceEqDiff Nat.reduceAdd Nat.reduceMul Nat.reduceLT Nat.reduceLeDiff
attribute [go_sem ↓] reduceIte
theorem nZ {a b:Nat} (h:Nat.ble a b=true):a<=b:=Nat.le_of_ble_eq_true h
abbrev T0:IX:=.t 0
abbrev T1:IX:=.t 1
abbrev T2:IX:=.t 2
abbrev T3:IX:=.t 3
abbrev T4:IX:=.t 4
abbrev T5:IX:=.t 5
abbrev T6:IX:=.t 6
abbrev T7:IX:=.t 7
abbrev T8:IX:=.t 8
abbrev T9:IX:=.t 9
abbrev T10:IX:=.t 10
abbrev T11:IX:=.t 11
abbrev T12:IX:=.t 12
abbrev T13:IX:=.t 13
abbrev T14:IX:=.t 14
abbrev T15:IX:=.t 15
abbrev T16:IX:=.t 16
abbrev T17:IX:=.t 17
abbrev T18:IX:=.t 18
abbrev T19:IX:=.t 19
abbrev T20:IX:=.t 20
abbrev T21:IX:=.t 21
abbrev T22:IX:=.t 22
abbrev T23:IX:=.t 23
abbrev T24:IX:=.t 24
abbrev T25:IX:=.t 25
abbrev T26:IX:=.t 26
abbrev T27:IX:=.t 27
abbrev T28:IX:=.t 28
abbrev T29:IX:=.t 29
abbrev T30:IX:=.t 30
abbrev T31:IX:=.t 31
abbrev T32:IX:=.t 32
abbrev T33:IX:=.t 33
abbrev T34:IX:=.t 34
abbrev T35:IX:=.t 35
abbrev T36:IX:=.t 36
abbrev T37:IX:=.t 37
abbrev T38:IX:=.t 38
abbrev T39:IX:=.t 39
abbrev T40:IX:=.t 40
abbrev T41:IX:=.t 41
abbrev T42:IX:=.t 42
abbrev T43:IX:=.t 43
abbrev T44:IX:=.t 44
abbrev T45:IX:=.t 45
abbrev T46:IX:=.t 46
abbrev T47:IX:=.t 47
abbrev T48:IX:=.t 48
abbrev T49:IX:=.t 49
abbrev T50:IX:=.t 50
abbrev T51:IX:=.t 51
abbrev T52:IX:=.t 52
abbrev T53:IX:=.t 53
abbrev T54:IX:=.t 54
abbrev T55:IX:=.t 55
abbrev T56:IX:=.t 56
abbrev T57:IX:=.t 57
abbrev T58:IX:=.t 58
abbrev T59:IX:=.t 59
abbrev T60:IX:=.t 60
abbrev T61:IX:=.t 61
abbrev T62:IX:=.t 62
abbrev T63:IX:=.t 63
abbrev T64:IX:=.t 64
abbrev T65:IX:=.t 65
abbrev T66:IX:=.t 66
abbrev T67:IX:=.t 67
abbrev T68:IX:=.t 68
abbrev T69:IX:=.t 69
abbrev T70:IX:=.t 70
abbrev T71:IX:=.t 71
abbrev T72:IX:=.t 72
abbrev T73:IX:=.t 73
abbrev T74:IX:=.t 74
abbrev T75:IX:=.t 75
abbrev T76:IX:=.t 76
abbrev T77:IX:=.t 77
abbrev T78:IX:=.t 78
abbrev T79:IX:=.t 79
abbrev T80:IX:=.t 80
abbrev T81:IX:=.t 81
abbrev T82:IX:=.t 82
abbrev T83:IX:=.t 83
abbrev T84:IX:=.t 84
abbrev T85:IX:=.t 85
abbrev T86:IX:=.t 86
abbrev T87:IX:=.t 87
abbrev T88:IX:=.t 88
abbrev T89:IX:=.t 89
abbrev T90:IX:=.t 90
abbrev T91:IX:=.t 91
abbrev T92:IX:=.t 92
abbrev T93:IX:=.t 93
abbrev T94:IX:=.t 94
abbrev T95:IX:=.t 95
abbrev T96:IX:=.t 96
abbrev T97:IX:=.t 97
abbrev T98:IX:=.t 98
abbrev T99:IX:=.t 99
abbrev T100:IX:=.t 100
abbrev T101:IX:=.t 101
abbrev T102:IX:=.t 102
abbrev T103:IX:=.t 103
abbrev T104:IX:=.t 104
abbrev T105:IX:=.t 105
abbrev T106:IX:=.t 106
abbrev T107:IX:=.t 107
abbrev T108:IX:=.t 108
abbrev T109:IX:=.t 109
abbrev T110:IX:=.t 110
abbrev T111:IX:=.t 111
abbrev T112:IX:=.t 112
abbrev T113:IX:=.t 113
abbrev T114:IX:=.t 114
abbrev T115:IX:=.t 115
abbrev T116:IX:=.t 116
abbrev T117:IX:=.t 117
abbrev T118:IX:=.t 118
abbrev T119:IX:=.t 119
abbrev T120:IX:=.t 120
abbrev T121:IX:=.t 121
abbrev T122:IX:=.t 122
abbrev T123:IX:=.t 123
abbrev T124:IX:=.t 124
abbrev T125:IX:=.t 125
abbrev T126:IX:=.t 126
abbrev T127:IX:=.t 127
abbrev T128:IX:=.t 128
abbrev T129:IX:=.t 129
end Go.Id
set_option linter.all false
set_option linter.all false
namespace Go.Id
open Go
inductive RR where
 | x (a:IX)
 | k (a:IK)
 | c (a:IC)
def hR (l:List RR):RR:=l.headD (.c .skip)
def xR:RR->IX
 | .x a=>a
 | _=>.t 0
def kR:RR->IK
 | .k a=>a
 | _=>.bu8
def cR:RR->IC
 | .c a=>a
 | _=>.skip
def hN (l:List Nat):Nat:=l.headD 0
def hX (l:List IX):IX:=l.headD (.t 0)
def hC (l:List IC):IC:=l.headD .skip
def bo:Nat->BinOp
 | 0=>.eql
 | 1=>.lss
 | 2=>.add
 | 3=>.neq
 | 4=>.geq
 | 5=>.gtr
 | 6=>.leq
 | 7=>.sub
 | 8=>.mul
 | 9=>.and
 | 10=>.or
 | 11=>.xor
 | 12=>.shl
 | 13=>.shr
 | 14=>.quo
 | 15=>.rem
 | _=>.andNot
abbrev St:=Nat->List IC->List af7->Nat->Option (Nat×Bool)->List IX->List Nat->List RR->IC
def em (q:IK)(c:St)(n:Nat)(k:List IC)(o:List af7)(d:Nat)(g:Option (Nat×Bool))(r:List RR):IC:=c n k (⟨za d,g,q⟩::o) (d-1) g [] [] r
def dz (t:Nat)(c:St)(n:Nat)(k:List IC)(o:List af7)(d:Nat)(g:Option (Nat×Bool))(x:List IX)(m:List Nat)(r:List RR):IC:=match t with
 | 0=>c n k o d g x (0::m) r
 | 1=>c n k o d g x (1::m) r
 | 2=>c n k o d g x (2::m) r
 | 3=>c n k o d g x (3::m) r
 | 4=>c n k o d g x (4::m) r
 | 5=>c n k o d g x (5::m) r
 | 6=>c n k o d g x (6::m) r
 | 7=>c n k o d g x (7::m) r
 | 8=>c (n/256) k o d g x (n%256::m) r
 | 9=>c (n/65536) k o d g x (n%65536::m) r
 | 10=>c n k o d g (.t (d-1)::x) m r
 | 11=>c n k o d g (.t (d-2)::x) m r
 | 12=>c n k o d g (.t (d-3)::x) m r
 | 13=>c n k o d g (.t (d-4)::x) m r
 | 14=>c n k o d g (.t (hN m)::x) m.tail r
 | 15=>c n k o d g (.t (d-hN m)::x) m.tail r
 | 16=>c n k o d g (.c (.bool false)::x) m r
 | 17=>c n k o d g (.c (.bool true)::x) m r
 | 18=>c n k o d g (.c (.int .i64 (zt (hN m)))::x) m.tail r
 | 19=>c n k o d g (.c (.int .u8 (zt (hN m)))::x) m.tail r
 | 20=>c n k o d g (.c (.str [])::x) m r
 | 21=>c n k o d g (xR (hR r)::x) m r.tail
 | 22=>em (.q (.mov (hX x))) c n k o d g r
 | 23=>em (.q (.not (hX x))) c n k o d g r
 | 24=>em (.q (.bin (bo (hN m)) (hX x) (hX x.tail))) c n k o d g r
 | 25=>em (.q (.len (hN m) (hX x))) c n k o d g r
 | 26=>em (.q (.bd9 (hN m) (hX x))) c n k o d g r
 | 27=>em (.q (.dy1 (hN m) (hX x) (hX x.tail))) c n k o d g r
 | 28=>em (.q (.load zg (hX x))) c n k o d g r
 | 29=>em (.q (.load (za (hN m)) (hX x))) c n k o d g r
 | 30=>em (.q (.ig6 (hX x) (hX x.tail))) c n k o d g r
 | 31=>em (.q (.ig7 (hX x))) c n k o d g r
 | 32=>em (.q (.ext (hN m) (hX x))) c n k o d g r
 | 33=>em (.q (.pick (hX x) (hX x.tail) (hX x.tail.tail))) c n k o d g r
 | 34=>c n k (⟨za d,g,.q (.pick (.t (d-hN m)) (.t (d-1)) (.c (.bool false)))⟩::o) (d-1) (za (d-hN m,true)) [] [] r
 | 35=>c n k (⟨za d,g,.q (.pick (.t (d-hN m)) (.c (.bool true)) (.t (d-1)))⟩::o) (d-1) (za (d-hN m,false)) [] [] r
 | 36=>em (.call (hN m) x) c n k o d g r
 | 37=>em (.bi6 (hN m) x) c n k o d g r
 | 38=>em (.cx2 (hX x) x.tail) c n k o d g r
 | 39=>c n k (⟨zg,g,.store (hN m) (hX x) (hX x.tail)⟩::o) d g [] [] r
 | 40=>em (.app (hN m) (hX x) (hX x.tail)) c n k o d g r
 | 41=>em (.box (hX x)) c n k o d g r
 | 42=>em (kR (hR r)) c n k o d g r.tail
 | 43=>c n k (⟨zg,g,kR (hR r)⟩::o) d g [] [] r.tail
 | 44=>c n k (⟨za (hN m),g,.q (.mov (.t d))⟩::o) d g [] [] r
 | 45=>c n k o (hN m) g x [] r
 | 46=>c n k o d zg x m r
 | 47=>c n k o d (za (d-hN m,true)) x m.tail r
 | 48=>c n k o d (za (d-hN m,false)) x m.tail r
 | 49=>c n (.reg (hN m) o m.tail::k) [] d zg [] [] r
 | 50=>c n (.gw6 (hN m.tail) o ((hN m==1)) m.tail.tail::k) [] d zg [] [] r
 | 51=>c n (.seq (hC k) (hC k.tail)::k.tail.tail) o d g x m r
 | 52=>c n (.cond (hX x) (hC k) (hC k.tail)::k.tail.tail) o d g [] m r
 | 53=>c n (.block (hN m) (hC k)::k.tail) o d g x [] r
 | 54=>c n (.loop (hC k)::k.tail) o d g x m r
 | 55=>c n (.exit (hN m)::k) o d g x [] r
 | 56=>c n (.ret::k) o d g x m r
 | 57=>c n (.skip::k) o d g x m r
 | 58=>c n (.scope (hC k)::k.tail) o d g x m r
 | 59=>c n (cR (hR r)::k) o d g x m r.tail
 | 60=>c n k o d (za (hN m,true)) x m.tail r
 | _=>c n k o d (za (hN m,false)) x m.tail r
def dq (R:Nat):Nat->St
 | 0,_,k,_,_,_,_,_,_=>hC k
 | f+1,n,k,o,d,g,x,m,r=>if n%256<64 then dz (n%256) (dq R f) (n/256) k o d g x m r else dq R f (n/256*65536+R/65536^(n%256-64)%65536) k o d g x m r
def dC (R f n:Nat)(r:List RR):IC:=dq R f n [] [] 0 zg [] [] r
variable {c:St} {n d:Nat} {k:List IC} {o:List af7} {g:Option (Nat×Bool)} {x:List IX} {m:List Nat} {r:List RR}
theorem dz0:dz 0 c n k o d g x m r=c n k o d g x (0::m) r:=nr rfl
theorem dz1:dz 1 c n k o d g x m r=c n k o d g x (1::m) r:=nr rfl
theorem dz2:dz 2 c n k o d g x m r=c n k o d g x (2::m) r:=nr rfl
theorem dz3:dz 3 c n k o d g x m r=c n k o d g x (3::m) r:=nr rfl
theorem dz4:dz 4 c n k o d g x m r=c n k o d g x (4::m) r:=nr rfl
theorem dz5:dz 5 c n k o d g x m r=c n k o d g x (5::m) r:=nr rfl
theorem dz6:dz 6 c n k o d g x m r=c n k o d g x (6::m) r:=nr rfl
theorem dz7:dz 7 c n k o d g x m r=c n k o d g x (7::m) r:=nr rfl
theorem dz8:dz 8 c n k o d g x m r=c (n/256) k o d g x (n%256::m) r:=nr rfl
theorem dz9:dz 9 c n k o d g x m r=c (n/65536) k o d g x (n%65536::m) r:=nr rfl
theorem ju1:dz 10 c n k o d g x m r=c n k o d g (.t (d-1)::x) m r:=nr rfl
theorem ju2:dz 11 c n k o d g x m r=c n k o d g (.t (d-2)::x) m r:=nr rfl
theorem ju3:dz 12 c n k o d g x m r=c n k o d g (.t (d-3)::x) m r:=nr rfl
theorem ju4:dz 13 c n k o d g x m r=c n k o d g (.t (d-4)::x) m r:=nr rfl
theorem ju5:dz 14 c n k o d g x m r=c n k o d g (.t (hN m)::x) m.tail r:=nr rfl
theorem ju6:dz 15 c n k o d g x m r=c n k o d g (.t (d-hN m)::x) m.tail r:=nr rfl
theorem ju7:dz 16 c n k o d g x m r=c n k o d g (.c (.bool false)::x) m r:=nr rfl
theorem ju8:dz 17 c n k o d g x m r=c n k o d g (.c (.bool true)::x) m r:=nr rfl
theorem ju9:dz 18 c n k o d g x m r=c n k o d g (.c (.int .i64 (zt (hN m)))::x) m.tail r:=nr rfl
theorem jv1:dz 19 c n k o d g x m r=c n k o d g (.c (.int .u8 (zt (hN m)))::x) m.tail r:=nr rfl
theorem jv2:dz 20 c n k o d g x m r=c n k o d g (.c (.str [])::x) m r:=nr rfl
theorem jv3:dz 21 c n k o d g x m r=c n k o d g (xR (hR r)::x) m r.tail:=nr rfl
theorem jv4:dz 22 c n k o d g x m r=c n k (⟨za d,g,.q (.mov (hX x))⟩::o) (d-1) g [] [] r:=nr rfl
theorem jv5:dz 23 c n k o d g x m r=c n k (⟨za d,g,.q (.not (hX x))⟩::o) (d-1) g [] [] r:=nr rfl
theorem jv6:dz 24 c n k o d g x m r=c n k (⟨za d,g,.q (.bin (bo (hN m)) (hX x) (hX x.tail))⟩::o) (d-1) g [] [] r:=nr rfl
theorem jv7:dz 25 c n k o d g x m r=c n k (⟨za d,g,.q (.len (hN m) (hX x))⟩::o) (d-1) g [] [] r:=nr rfl
theorem jv8:dz 26 c n k o d g x m r=c n k (⟨za d,g,.q (.bd9 (hN m) (hX x))⟩::o) (d-1) g [] [] r:=nr rfl
theorem jv9:dz 27 c n k o d g x m r=c n k (⟨za d,g,.q (.dy1 (hN m) (hX x) (hX x.tail))⟩::o) (d-1) g [] [] r:=nr rfl
theorem jw1:dz 28 c n k o d g x m r=c n k (⟨za d,g,.q (.load zg (hX x))⟩::o) (d-1) g [] [] r:=nr rfl
theorem jw2:dz 29 c n k o d g x m r=c n k (⟨za d,g,.q (.load (za (hN m)) (hX x))⟩::o) (d-1) g [] [] r:=nr rfl
theorem jw3:dz 30 c n k o d g x m r=c n k (⟨za d,g,.q (.ig6 (hX x) (hX x.tail))⟩::o) (d-1) g [] [] r:=nr rfl
theorem jw4:dz 31 c n k o d g x m r=c n k (⟨za d,g,.q (.ig7 (hX x))⟩::o) (d-1) g [] [] r:=nr rfl
theorem jw5:dz 32 c n k o d g x m r=c n k (⟨za d,g,.q (.ext (hN m) (hX x))⟩::o) (d-1) g [] [] r:=nr rfl
theorem jw6:dz 33 c n k o d g x m r=c n k (⟨za d,g,.q (.pick (hX x) (hX x.tail) (hX x.tail.tail))⟩::o) (d-1) g [] [] r:=nr rfl
theorem jw7:dz 34 c n k o d g x m r=c n k (⟨za d,g,.q (.pick (.t (d-hN m)) (.t (d-1)) (.c (.bool false)))⟩::o) (d-1) (za (d-hN m,true)) [] [] r:=nr rfl
theorem jw8:dz 35 c n k o d g x m r=c n k (⟨za d,g,.q (.pick (.t (d-hN m)) (.c (.bool true)) (.t (d-1)))⟩::o) (d-1) (za (d-hN m,false)) [] [] r:=nr rfl
theorem jw9:dz 36 c n k o d g x m r=c n k (⟨za d,g,.call (hN m) x⟩::o) (d-1) g [] [] r:=nr rfl
theorem jx1:dz 37 c n k o d g x m r=c n k (⟨za d,g,.bi6 (hN m) x⟩::o) (d-1) g [] [] r:=nr rfl
theorem jx2:dz 38 c n k o d g x m r=c n k (⟨za d,g,.cx2 (hX x) x.tail⟩::o) (d-1) g [] [] r:=nr rfl
theorem jx3:dz 39 c n k o d g x m r=c n k (⟨zg,g,.store (hN m) (hX x) (hX x.tail)⟩::o) d g [] [] r:=nr rfl
theorem jx4:dz 40 c n k o d g x m r=c n k (⟨za d,g,.app (hN m) (hX x) (hX x.tail)⟩::o) (d-1) g [] [] r:=nr rfl
theorem jx5:dz 41 c n k o d g x m r=c n k (⟨za d,g,.box (hX x)⟩::o) (d-1) g [] [] r:=nr rfl
theorem jx6:dz 42 c n k o d g x m r=c n k (⟨za d,g,kR (hR r)⟩::o) (d-1) g [] [] r.tail:=nr rfl
theorem jx7:dz 43 c n k o d g x m r=c n k (⟨zg,g,kR (hR r)⟩::o) d g [] [] r.tail:=nr rfl
theorem jx8:dz 44 c n k o d g x m r=c n k (⟨za (hN m),g,.q (.mov (.t d))⟩::o) d g [] [] r:=nr rfl
theorem jx9:dz 45 c n k o d g x m r=c n k o (hN m) g x [] r:=nr rfl
theorem jy1:dz 46 c n k o d g x m r=c n k o d zg x m r:=nr rfl
theorem jy2:dz 47 c n k o d g x m r=c n k o d (za (d-hN m,true)) x m.tail r:=nr rfl
theorem jy3:dz 48 c n k o d g x m r=c n k o d (za (d-hN m,false)) x m.tail r:=nr rfl
theorem jy4:dz 49 c n k o d g x m r=c n (.reg (hN m) o m.tail::k) [] d zg [] [] r:=nr rfl
theorem jy5:dz 50 c n k o d g x m r=c n (.gw6 (hN m.tail) o ((hN m==1)) m.tail.tail::k) [] d zg [] [] r:=nr rfl
theorem jy6:dz 51 c n k o d g x m r=c n (.seq (hC k) (hC k.tail)::k.tail.tail) o d g x m r:=nr rfl
theorem jy7:dz 52 c n k o d g x m r=c n (.cond (hX x) (hC k) (hC k.tail)::k.tail.tail) o d g [] m r:=nr rfl
theorem jy8:dz 53 c n k o d g x m r=c n (.block (hN m) (hC k)::k.tail) o d g x [] r:=nr rfl
theorem jy9:dz 54 c n k o d g x m r=c n (.loop (hC k)::k.tail) o d g x m r:=nr rfl
theorem jz2:dz 55 c n k o d g x m r=c n (.exit (hN m)::k) o d g x [] r:=nr rfl
theorem jz3:dz 56 c n k o d g x m r=c n (.ret::k) o d g x m r:=nr rfl
theorem jz4:dz 57 c n k o d g x m r=c n (.skip::k) o d g x m r:=nr rfl
theorem jz5:dz 58 c n k o d g x m r=c n (.scope (hC k)::k.tail) o d g x m r:=nr rfl
theorem jz6:dz 59 c n k o d g x m r=c n (cR (hR r)::k) o d g x m r.tail:=nr rfl
theorem jz7:dz 60 c n k o d g x m r=c n k o d (za (hN m,true)) x m.tail r:=nr rfl
theorem jz8:dz 61 c n k o d g x m r=c n k o d (za (hN m,false)) x m.tail r:=nr rfl
theorem hN0 {a:Nat}{l:List Nat}:hN (a::l)=a:=nr rfl
theorem hX0 {a:IX}{l:List IX}:hX (a::l)=a:=nr rfl
theorem hC0 {a:IC}{l:List IC}:hC (a::l)=a:=nr rfl
theorem hR0 {a:RR}{l:List RR}:hR (a::l)=a:=nr rfl
theorem dq0 {R:Nat}:dq R 0 n k o d g x m r=hC k:=nr rfl
theorem dq1 {R f:Nat}:dq R (f+1) n k o d g x m r=if n%256<64 then dz (n%256) (dq R f) (n/256) k o d g x m r else dq R f (n/256*65536+R/65536^(n%256-64)%65536) k o d g x m r:=nr rfl
attribute [go_sem] dz0 dz1 dz2 dz3 dz4 dz5 dz6 dz7 dz8 dz9 ju1 ju2 ju3 ju4 ju5 ju6 ju7 ju8 ju9 jv1 jv2 jv3 jv4 jv5 jv6 jv7 jv8 jv9 jw1 jw2 jw3 jw4 jw5 jw6 jw7 jw8 jw9 jx1 jx2 jx3 jx4 jx5 jx6 jx7 jx8 jx9 jy1 jy2 jy3 jy4 jy5 jy6 jy7 jy8 jy9 jz2 jz3 jz4 jz5 jz6 jz7 jz8 hN0 hX0 hC0 hR0 dq0 dq1 xR kR cR bo dC Nat.reduceMod Nat.reduceDiv Nat.reducePow Nat.reduceSub Nat.reduceBEq Int.reduceOfNat List.tail_cons
end Go.Id
set_option linter.all false
namespace Go.Id
open Go
noncomputable section
variable {E:Nat->IV} {fr:Frm}
end
end Go.Id
/- Codes,part by part; blocks let go at a call. Conditions: none; over any program. -/
namespace Go.Id
open Go
variable {P:Program} {E:Nat->IV} {σ σ':Store} {N n0:Nat} {fr:Frm}
def gz4 (P:Program)(E:Nat->IV)(N n0:Nat)(b:IC)(Q:Exit->Frm->Store->Prop):Exit->Frm->Store->Prop
 | .normal,fr,σ=>RI P E N n0 b fr σ Q
 | e,fr,σ=>Q e fr σ
theorem jp5 {b:IC}{Q:Exit->Frm->Store->Prop}:gz4 P E N n0 b Q .normal fr σ=RI P E N n0 b fr σ Q:=nr rfl
theorem jp6 {b:IC}{Q:Exit->Frm->Store->Prop}:gz4 P E N n0 b Q .ret fr σ=Q .ret fr σ:=nr rfl
theorem jp7 {b:IC}{i:Nat}{Q:Exit->Frm->Store->Prop}:gz4 P E N n0 b Q (.exit i) fr σ=Q (.exit i) fr σ:=nr rfl
attribute [go_sem] jp5 jp6 jp7
theorem an1 {x:IC}{Q:Exit->Frm->Store->Prop}(h:wpT noP noC P E N n0 x fr σ Q):RI P E N n0 x fr σ Q:=bm2 x fr σ Q (bf5 noT x fr σ Q h)
theorem aj4 {a b:IC}{Q:Exit->Frm->Store->Prop}(h:RI P E N n0 a fr σ (gz4 P E N n0 b Q)):RI P E N n0 (.seq a b) fr σ Q:=by
 intro pf an c hc
 cases c with
 | seq x y=>
  simp only[be7] at hc;split at hc
  ·rename_i xa xb hx hy;cases hc;refine iw7 ((h pf an x hx).mono ?_);intro e f s q
   cases e with
   | normal=>exact q pf an y hy
   | _=>exact q
  ·cases hc
 | region id ops draw=>
  exfalso;simp only[be7] at hc;split at hc
  ·cases hc
  ·split at hc<;>first|(cases hc; done)|(split at hc<;>cases hc)
  ·cases hc
 | cond c a b=>simp only[be7] at hc; split at hc<;>cases hc
 | block id a=>obtain ⟨_,_,h⟩:=map_some hc; cases h
 | scope a=>obtain ⟨_,_,h⟩:=map_some hc; cases h
 | loop a=>obtain ⟨_,_,h⟩:=map_some hc; cases h
 | rangeFunc g ps a b=>
  simp only[be7] at hc;split at hc
  ·split at hc<;>cases hc
  ·cases hc
 | _=>cases hc
theorem ja9 {f:Nat}{ic:IC}{irs:List IR}{args:List IV}{Qc:IV->Store->Prop}(hf:FOK P f (N,ic,irs))(hl:args.length<=N)
  (h:RI P E N σ.next ic (bk5 args 0) σ (gt5 irs Qc)):C P E f args σ Qc:=by
 obtain ⟨_,pf,an,fn,h1,h2,h3,h4⟩:=hf
 cases hb:fn.body with
 | none=>rw[hb] at h3; cases h3
 | some c=>
  rw[hb] at h3;refine ja6 h1 hb h2 hl ((h pf an c h3).mono ?_);intro e fr' σ' q;have q:=de8 q;cases e<;>first|(obtain ⟨vs,q1,q2⟩:=q; exact ⟨vs,by rw[ia9 _ _ h4]; exact q1,q2⟩)|exact q
theorem fi8 {S:Nat->Bool}:(σ.kills S).next=σ.next:=nr rfl
theorem ge6 {S:Nat->Bool}{i:Nat}:(σ.kills S).obj i=if S i=true then σ.obj i else zg:=nr rfl
attribute [go_sem] fi8 ge6
theorem em1 {f:Nat}{args args':List IV}{v:IV}(hl:args'.length=args.length)(ha:∀ σ i,i<args.length->Frz σ (fun _=>true=true) (args.getD i .undef) (args'.getD i .undef))(h:PC P E f args' v):PC P E f args v:=fun σ=>
 ew8 (S:=fun _=>true) hl (ha σ) (h σ)
end Go.Id
namespace Go.Id
open Go
variable {P:Program} {E:Nat->IV} {σ σ':Store} {N n0:Nat} {fr:Frm}
end Go.Id
set_option linter.all false
namespace Go.Id
open Go
variable {P:Program} {E:Nat->IV} {σ:Store} {N n0 id:Nat} {fr:Frm} {pt:PT} {ct:CT} {Q:Exit->Frm->Store->Prop} {K:IV->Store->Prop}
theorem ao4 {P:IV->Prop}{a:IV}(h:P a):∀ v∈[a],P v:=by simpa using h
theorem ae9 {P:IV->Prop}{a b:IV}(h:P a)(h2:P b):∀ v∈[a,b],P v:=by simpa using ⟨h,h2⟩
theorem at1 {P:IV->Prop}{a b c:IV}(h:P a)(h2:P b)(h3:P c):∀ v∈[a,b,c],P v:=by simpa using ⟨h,h2,h3⟩
theorem en4 {P:IV->Prop}{a b c d:IV}(h:P a)(h2:P b)(h3:P c)(h4:P d):∀ v∈[a,b,c,d],P v:=by simpa using ⟨h,h2,h3,h4⟩
theorem il5 {P:IV->Prop}{a b c d e:IV}(h:P a)(h2:P b)(h3:P c)(h4:P d)(h5:P e):∀ v∈[a,b,c,d,e],P v:=by simpa using ⟨h,h2,h3,h4,h5⟩
theorem jq2 {P:IV->Prop}{a b c d e f:IV}(h:P a)(h2:P b)(h3:P c)(h4:P d)(h5:P e)(h6:P f):∀ v∈[a,b,c,d,e,f],P v:=by simpa using ⟨h,h2,h3,h4,h5,h6⟩
theorem jq3 {ag:Option Nat}{x:IX}:evq E fr σ (.ldt ag x)=iu7 ag (x.ev E fr):=nr rfl
theorem jc7 {cs:List IV}:iu7 zg (.ab5 cs)=cs.head?:=nr rfl
theorem jc8 {n:Nat}{cs:List IV}:iu7 (za n) (.ab5 cs)=if n<=cs.length then za (.agg (cs.take n)) else zg:=nr rfl
attribute [go_sem] jq3 jc7 jc8
end Go.Id
set_option linter.all false
namespace Go.Id
open Go Go.Id.Md
variable {P:Program} {E:Nat->IV} {σ s t:Store} {v:IV} {zs:List Int} {lo:Nat}
abbrev bk6 (n:Int):IV:=.int .i64 n
def el8 (s:Store)(lo:Nat)(v:IV)(zs:List Int):Prop :=
 (v=.aa1/\zs=[])\/∃ id cs,lo<=id/\id<s.next/\v=.slice id 0 zs.length 1/\s.obj id=za (.row cs)/\cs.take zs.length=zs.map bk6/\zs.length<=cs.length
def aj3 (s:Store)(lo:Nat)(v:IV)(zs:List Int):Prop :=
 (v=.aa1/\zs=[])\/∃ id,lo<=id/\id<s.next/\v=.slice id 0 zs.length 1/\s.obj id=za (.row (zs.map bk6))
theorem aj3.w (h:aj3 s lo v zs):el8 s lo v zs:=by
 rcases h with h|⟨id,h1,h2,h3,h4⟩
 ·exact .inl h
 ·exact .inr ⟨id,_,h1,h2,h3,h4,by rw[List.take_of_length_le (by simp)],by simp⟩
structure Kept (σ s:Store):Prop where
 next:σ.next<=s.next
 obj:∀ i,i<σ.next->s.obj i=σ.obj i
theorem Kept.refl (σ:Store):Kept σ σ:=⟨zi _,fun _ _=>rfl⟩
theorem Kept.trans (h:Kept σ s)(h2:Kept s t):Kept σ t:=⟨zf h.next h2.next,fun i hi=>by rw[h2.obj i (zc hi h.next),h.obj i hi]⟩
def jp4 (σ:Store)(zs:List Int)(v:IV)(s:Store):Prop:=Kept σ s/\el8 s σ.next v zs
def eb4 (σ:Store)(zs:List Int)(v:IV)(s:Store):Prop:=Kept σ s/\aj3 s σ.next v zs
theorem eb4.w (h:eb4 σ zs v s):jp4 σ zs v s:=⟨h.1,h.2.w⟩
theorem el9 {cs:List IV}(h:cs.take zs.length=zs.map bk6){i:Nat}(hi:i<zs.length):cs.getD i .undef=bk6 zs[i]:=by
 have h1:(cs.take zs.length)[i]? = (zs.map bk6)[i]?:=by rw[h]
 rw[List.getElem?_take,if_pos hi,zn,zr hi] at h1;rw[zd,h1]; rfl
theorem el8.frz {S:Nat->Prop}(h:el8 s lo v zs)(hS:∀ i,lo<=i->¬ S i):Frz s S v (.aa4 (zs.map Md.ae4)):=by
 rcases h with ⟨rfl,rfl⟩|⟨id,cs,h1,h2,rfl,h4,h5,h6⟩
 ·exact .dc1
 ·refine .slice id 0 zs.length 1 cs (zs.map Md.ae4) (hS id h1) (.inr h4) (by rw[zb]) (by omega) (fun i hi=>?_) fun i hi j hj=>?_
  ·simp[zd,hi,Md.ae4]
  ·have hj0:j=0:=by omega
   subst hj0;have e2:((zs.map Md.ae4).getD i []).getD 0 .undef=bk6 zs[i]:=by simp[zd,hi,Md.ae4]
   rw[e2,Nat.zero_add,Nat.mul_one,Nat.add_zero,el9 h5 hi];exact .keep _ (.int _ _)
theorem aj3.grow (h:Grow s v 1 (zs.map Md.ae4))(hlo:∀ id,v=.slice id 0 zs.length 1->lo<=id):aj3 s lo v zs:=by
 have hfl:∀ zs:List Int,(zs.map Md.ae4).flatten=zs.map bk6:=fun zs=>by
  induction zs with
  | nil=>rfl
  | cons z zs ih=>simp only[zj,zh,ih]; rfl
 rcases h with ⟨rfl,h⟩|⟨id,rfl,ho,hid⟩
 ·exact .inl ⟨rfl,List.map_eq_nil_iff.1 h⟩
 ·rw[zb] at hlo;exact .inr ⟨id,hlo id rfl,hid,by rw[zb],by rw[ho,hfl]⟩
theorem aj3.gr (h:aj3 s lo v zs):Grow s v 1 (zs.map Md.ae4):=by
 have hfl:∀ zs:List Int,(zs.map Md.ae4).flatten=zs.map bk6:=fun zs=>by
  induction zs with
  | nil=>rfl
  | cons z zs ih=>simp only[zj,zh,ih]; rfl
 rcases h with ⟨rfl,rfl⟩|⟨id,h1,h2,rfl,ho⟩
 ·exact .inl ⟨rfl,rfl⟩
 ·exact .inr ⟨id,by rw[zb],by rw[ho,hfl],h2⟩
theorem cx3 {nid:Nat}(h:aj3 s lo v zs)(n:Int)(hn:zs.length<2147483648) :
  as5 s nid 1 v (.aa4 [[.int .i64 n]])=za (.slice nid 0 (zs.length+1) 1,(ag2 v s).put nid (.row ((zs++[n]).map bk6))):=by
 have hg:=am4 (nid:=nid) (e:=[.int .i64 n]) h.gr (fun x hx=>by obtain ⟨y,_,rfl⟩:=List.mem_map.1 hx; exact ⟨rfl,rfl⟩) ⟨rfl,rfl⟩ (by rw[zb]; exact hn);rw[hg,zb];congr 4;rw[List.flatten_append,List.map_append];congr 1;generalize zs=l
 induction l with
 | nil=>rfl
 | cons z zs ih=>simp only[zj,zh,ih]; rfl
theorem cx4 (h:aj3 s lo v zs){i:Nat}(hi:i<lo):(ag2 v s).obj i=s.obj i:=by
 rcases h with ⟨rfl,_⟩|⟨id,h1,h2,rfl,ho⟩
 ·rfl
 ·show (if i=id then zg else s.obj i)=s.obj i;rw[if_neg (by omega)]
theorem Kept.up (h:Kept σ s)(n:Nat):Kept σ ⟨s.next+n,s.obj⟩:=⟨zf h.next (ze _ _),h.obj⟩
theorem aj3.up (h:aj3 s lo v zs)(n:Nat):aj3 ⟨s.next+n,s.obj⟩ lo v zs:=by
 rcases h with h|⟨id,h1,h2,h3,h4⟩
 ·exact .inl h
 ·exact .inr ⟨id,h1,zc h2 (ze _ _),h3,h4⟩
theorem el8.up (h:el8 s lo v zs)(n:Nat):el8 ⟨s.next+n,s.obj⟩ lo v zs:=by
 rcases h with h|⟨id,cs,h1,h2,h3,h4⟩
 ·exact .inl h
 ·exact .inr ⟨id,cs,h1,zc h2 (ze _ _),h3,h4⟩
theorem aj3.kept (h:aj3 s lo v zs)(hk:Kept s t):aj3 t lo v zs:=by
 rcases h with h|⟨id,h1,h2,h3,h4⟩
 ·exact .inl h
 ·exact .inr ⟨id,h1,zc h2 hk.next,h3,by rw[hk.obj id h2]; exact h4⟩
theorem el8.kept (h:el8 s lo v zs)(hk:Kept s t):el8 t lo v zs:=by
 rcases h with h|⟨id,cs,h1,h2,h3,h4,h5⟩
 ·exact .inl h
 ·exact .inr ⟨id,cs,h1,zc h2 hk.next,h3,by rw[hk.obj id h2]; exact h4,h5⟩
theorem Kept.low {k:Nat}(h:Kept ⟨σ.next+k,σ.obj⟩ s):Kept σ s:=⟨zf (ze _ k) h.next,fun i hi=>h.obj i (zc hi (ze _ k))⟩
theorem aj3.low {lo':Nat}(h:aj3 s lo v zs)(hl:lo'<=lo):aj3 s lo' v zs:=by
 rcases h with h|⟨id,h1,h2⟩
 ·exact .inl h
 ·exact .inr ⟨id,zf hl h1,h2⟩
theorem el8.low {lo':Nat}(h:el8 s lo v zs)(hl:lo'<=lo):el8 s lo' v zs:=by
 rcases h with h|⟨id,cs,h1,h2⟩
 ·exact .inl h
 ·exact .inr ⟨id,cs,zf hl h1,h2⟩
theorem Kept.box (t:Store)(A B:al8):Kept t ⟨t.next+1,(((⟨t.next+1,t.obj⟩:Store).put t.next A).put t.next B).obj⟩:=⟨Nat.le_succ _,fun i hi=>by
 have h:¬ i=t.next:=by omega
 show (if i=t.next then _ else if i=t.next then _ else t.obj i)=_;rw[if_neg h,if_neg h]⟩
theorem ge3:∀ zs:List Int,(zs.map Md.ae4).flatten=zs.map bk6:=fun zs=>by
 induction zs with
 | nil=>rfl
 | cons z zs ih=>simp only[zj,zh,ih]; rfl
theorem bz7 (zs:List Int):(zs.map bk6).all IV.leaf=true:=by
 rw[List.all_map]; exact zo.2 fun _ _=>rfl
theorem ew4 {nid:Nat}{xs:List Int}(h:aj3 s lo v zs)(hn:zs.length+xs.length<=2147483648) :
  ∃ v' σ',as5 s nid 1 v (.aa4 (xs.map Md.ae4))=za (v',σ')/\σ'.next=s.next/\(∀ i,i<lo->i≠nid->σ'.obj i=s.obj i)/\∀ τ:Store,τ.obj=σ'.obj->nid<τ.next->s.next<=τ.next->lo<=nid->aj3 τ lo v' (zs++xs):=by
 have hsrc:bl8 s 1 (.aa4 (xs.map Md.ae4))=za (xs.length,xs.map bk6):=by
  have h1:(xs.map Md.ae4).all (fun e=>e.length==1)=true:=zo.2 fun x hx=>by
   obtain ⟨y,_,rfl⟩:=List.mem_map.1 hx; rfl
  simp only[bl8,h1,if_true,zb,ge3]
 have hx0:¬ ((xs.map bk6).all IV.leaf=false):=by rw[bz7]; decide
 unfold as5;rw[hsrc];simp only[hx0,if_false];by_cases h0:xs.length=0
 ·have hxs:xs=[]:=zk.1 h0;subst hxs;rw[List.append_nil];rcases h with ⟨rfl,he⟩|⟨id,i1,i2,rfl,ho⟩
  ·exact ⟨.aa1,s,rfl,rfl,fun _ _ _=>rfl,fun τ _ _ _ _=>.inl ⟨rfl,he⟩⟩
  ·simp only[ho,List.length_nil,and_self,if_true];exact ⟨_,_,rfl,rfl,fun _ _ _=>rfl,fun τ h1 _ h3 _=>.inr ⟨id,i1,by omega,rfl,by rw[h1]; exact ho⟩⟩
 ·rcases h with ⟨rfl,he⟩|⟨id,i1,i2,rfl,ho⟩
  ·subst he;have hle:xs.length<=2147483648:=by simpa using hn
   simp only[h0,if_false,hle,if_true];refine ⟨_,_,rfl,rfl,fun i _ hi=>if_neg hi,fun τ h1 h2 _ h4=>.inr ⟨nid,h4,h2,by rw[List.nil_append],?_⟩⟩;rw[h1,aa5,if_pos rfl,List.nil_append]
  ·have h1:0+zs.length*1=(zs.map bk6).length:=by rw[zb]; omega
   simp only[ho,h0,and_false,if_false,h1,hn,List.drop_zero,bz7,and_self,if_true];refine ⟨_,_,rfl,rfl,fun i hi hne=>?_,fun τ h3 h4 _ h6=>.inr ⟨nid,h6,h4,by rw[zm],?_⟩⟩
   ·show (if i=nid then _ else if i=id then zg else s.obj i)=_;rw[if_neg hne,if_neg (by omega)]
   ·rw[h3,aa5,if_pos rfl,List.map_append]
    try rfl
theorem ew5 {gv:IV}{esz b nid k:Nat}{es:List (List IV)}{e cs:List IV}{A B:al8}(hg:Grow s gv esz es)(h:∀ x∈es,x.length=esz/\x.all IV.leaf=true)(he:e.length=esz/\e.all IV.leaf=true)(hn:es.length<2147483648)
  (hb:s.obj b=za (.cells cs)) (hbl:b<s.next) (hnid:s.next<nid) :
  ∃ s1,as5 ⟨s.next+1+k,(((⟨s.next+1,s.obj⟩:Store).put s.next A).put s.next B).obj⟩ nid esz gv (.aa4 [e])=za (.slice nid 0 (es.length+1) esz,s1)/\s1.next=s.next+1+k/\s1.obj b=za (.cells cs) /\
   ∀ cs' nx,nid<nx->Grow ⟨nx,(s1.put b (.cells cs')).obj⟩ (.slice nid 0 (es.length+1) esz) esz (es++[e]):=by
 have ho:∀ i,i<s.next->(((⟨s.next+1,s.obj⟩:Store).put s.next A).put s.next B).obj i=s.obj i:=fun i hi=>by
  show (if i=s.next then _ else if i=s.next then _ else s.obj i)=_;rw[if_neg (by omega),if_neg (by omega)]
 have hg1:Grow ⟨s.next+1+k,(((⟨s.next+1,s.obj⟩:Store).put s.next A).put s.next B).obj⟩ gv esz es:=Grow.mono (σ:=s) hg (by show s.next<=s.next+1+k; omega) fun id _ hid=>ho id hid
 have hb1:(((⟨s.next+1,s.obj⟩:Store).put s.next A).put s.next B).obj b=za (.cells cs):=by rw[ho b hbl,hb]
 refine ⟨_,am4 hg1 h he hn,by rw[aa7,ac9],?_,fun cs' nx hnx=>?_⟩
 ·rw[aa5,if_neg (by omega)];exact ah3 hg1 b _ hb1 (fun _ e=>by cases e)
 ·refine Grow.new (v:=.aa1) hnx ?_;show (if nid=b then _ else if nid=nid then _ else _)=_;rw[if_neg (by omega),if_pos rfl]
theorem ew6 (hk:Kept σ s)(h:aj3 s σ.next v zs)(n:Int){a nid:Nat}(h1:s.next<=nid)(h2:nid<s.next+a){cs:List IV}(hc:cs=(zs++[n]).map bk6) :
  Kept σ ((ag2 v ⟨s.next+a,s.obj⟩).put nid (.row cs))/\aj3 ((ag2 v ⟨s.next+a,s.obj⟩).put nid (.row cs)) σ.next (.slice nid 0 (zs.length+1) 1) (zs++[n]):=by
 subst hc;have hn:(ag2 v ⟨s.next+a,s.obj⟩).next=s.next+a:=ac9 v;refine ⟨⟨?_,fun i hi=>?_⟩,.inr ⟨nid,zf hk.next h1,?_,by rw[zm,List.length_singleton],?_⟩⟩
 ·show σ.next<=(ag2 v _).next;rw[hn]; exact zf hk.next (ze _ _)
 ·have hne:i≠nid:=fun e=>by have:=hk.next; omega
  show (if i=nid then _ else (ag2 v ⟨s.next+a,s.obj⟩).obj i)=_;rw[if_neg hne,cx4 (h.up a) hi];exact hk.obj i hi
 ·show nid<(ag2 v _).next;rw[hn]; exact h2
 ·show (if nid=nid then _ else _)=_;rw[if_pos rfl]
end Go.Id
set_option linter.all false
namespace Go.Id
open Go
section
theorem gb6 {s:Store}{v:IV}{esz nid:Nat}{es xs:List (List IV)}(hg:Grow s v esz es)(h:∀ x∈es,x.length=esz/\x.all IV.leaf=true)(hx:∀ x∈xs,x.length=esz/\x.all IV.leaf=true)(hn:es.length+xs.length<=2147483648) :
  (xs=[]/\as5 s nid esz v (.aa4 xs)=za (v,s))\/as5 s nid esz v (.aa4 xs)=za (.slice nid 0 (es.length+xs.length) esz,(ag2 v s).put nid (.row (es++xs).flatten)):=by
 have hsrc:bl8 s esz (.aa4 xs)=za (xs.length,xs.flatten):=by
  have h1:xs.all (fun e=>e.length==esz)=true:=zo.2 fun x hm=>by rw[(hx x hm).1]; simp
  simp only[bl8,h1,if_true]
 have hl:xs.flatten.all IV.leaf=true:=ba8 fun x hm=>(hx x hm).2
 have hl2:es.flatten.all IV.leaf=true:=ba8 fun x hm=>(h x hm).2
 have hfl:es.flatten.length=es.length*esz:=as6 fun x hm=>(h x hm).1
 have hn2:xs.length<=2147483648:=by omega
 by_cases h0:xs.length=0
 ·have hxe:xs=[]:=zk.1 h0;subst hxe;refine .inl ⟨rfl,?_⟩;unfold as5;rw[hsrc];rcases hg with ⟨rfl,rfl⟩|⟨id,rfl,ho,hid⟩
  ·simp
  ·simp[ho]
 ·refine .inr ?_;unfold as5;rw[hsrc];rcases hg with ⟨rfl,rfl⟩|⟨id,rfl,ho,hid⟩
  ·simp[hl,h0,hn2,ag2]
  ·simp[hl,ho,h0,hfl,hl2,hn,ag2]
theorem by6 {s:Store}{v:IV}{esz nid:Nat}{es xs:List (List IV)}(hg:Grow s v esz es)(h:∀ x∈es,x.length=esz/\x.all IV.leaf=true)(hx:∀ x∈xs,x.length=esz/\x.all IV.leaf=true)(hn:es.length+xs.length<=2147483648)(hnid:nid<s.next) :
  ∃ v' s',as5 s nid esz v (.aa4 xs)=za (v',s')/\s'.next=s.next/\Grow s' v' esz (es++xs)/\(∀ i,i≠nid->(∀ k,v≠.slice i 0 k esz)->s'.obj i=s.obj i)/\(v'=v\/v'=.slice nid 0 (es.length+xs.length) esz):=by
 rcases gb6 (nid:=nid) hg h hx hn with ⟨rfl,h1⟩|h1
 ·exact ⟨v,s,h1,rfl,by rw[List.append_nil]; exact hg,fun _ _ _=>rfl,.inl rfl⟩
 ·refine ⟨_,_,h1,by rw[aa7,ac9],.inr ⟨nid,by rw[zm],by rw[aa5,if_pos rfl],by rw[aa7,ac9]; exact hnid⟩,fun i hi hv=>?_,.inr rfl⟩;rw[aa5,if_neg hi];rcases hg with ⟨rfl,_⟩|⟨id,rfl,_,_⟩
  ·rfl
  ·show (if i=id then zg else s.obj i)=_;rw[if_neg fun e=>hv _ (by rw[e])]
end
end Go.Id
set_option linter.all false
namespace Go.Id
open Go
variable {P:Program} {E:Nat->IV} {σ σ':Store} {N n0:Nat} {fr:Frm}
def gd1 (P:Program)(E:Nat->IV)(base:Nat):List YO->Frm->Store->(Frm->Store->Prop)->Prop
 | [],fr,σ,K=>K fr σ
 | (i,o,m)::rest,fr,σ,K=>(m=0/\o.guard=zg)/\opT noP noC P E o.op (base+i) fr σ fun v σ'=>gd1 P E base rest (fr.bc2 o.dst v) σ' K
def ix8 (P:Program)(E:Nat->IV)(base:Nat)(rest:List YO)(d:Option Nat)(fr:Frm)(K:Frm->Store->Prop):IV->Store->Prop:=fun v σ'=>gd1 P E base rest (fr.bc2 d v) σ' K
variable {base i:Nat} {Kf:Frm->Store->Prop} {d:Option Nat} {rest:List YO}
theorem ka6:gd1 P E base [] fr σ Kf=Kf fr σ:=nr rfl
theorem ka7 {d:Nat}(v:IV):ix8 P E base rest (za d) fr Kf v σ=gd1 P E base rest ((d,v)::fr) σ Kf:=nr rfl
theorem jl5 (v:IV):ix8 P E base rest zg fr Kf v σ=gd1 P E base rest fr σ Kf:=nr rfl
theorem jl6:List.length ([]:List YO)=0:=nr rfl
theorem jl7 {y:YO}:List.length (y::rest)=rest.length+1:=nr rfl
attribute [go_sem] ka6  ka7 jl5 jl6 jl7
end Go.Id
set_option linter.all false
namespace Go.Id
open Go Go.Sort
variable {P:Program} {w w':World} {ρ ρ':Rho} {E:Nat->IV} {σ:Store}
theorem cx5 (n k:Nat):Ext n ρ w ρ (Sort.ahead w k):=⟨zi _,fun _ _=>rfl,fun _ r _ _ h=>⟨r,h,rfl⟩,fun i B d h=>.inl ⟨i,d,h⟩,fun _ _ _ h=>.inl h,fun _ h=>h,fun _ _ h=>h,rfl,rfl,⟨rfl,ze _ _⟩,fun _ L h=>⟨L,h⟩,rfl⟩
theorem ge4 (hs:Sim E ρ w σ)(k:Nat):Sim E ρ (Sort.ahead w k) σ :=
 ⟨hs.inj,hs.lt,fun i B d h=>let ⟨o,h1,h2⟩:=hs.obj i B d h; ⟨o,h1,h2.mono (cx5 0 k) rfl⟩,hs.dead,hs.fresh,hs.av7,fun g=>(hs.env g).mono (cx5 0 k),hs.nx,hs.xlt⟩
theorem dr3 (w:World)(os:Array Obj){b:Nat}(h:b<w.heap.size):(Sort.grow w os).heap[b]? = w.heap[b]?:=by
 show (w.heap++os)[b]? = _;rw[Array.getElem?_append_left h]
theorem ge5 {b:Nat}{o:Obj}(h:w.heap[b]? = za o):b<w.heap.size:=(Array.getElem?_eq_some_iff.1 h).1
theorem bz8 (n:Nat)(os:Array Obj):Ext n ρ w ρ (Sort.grow w os):=
 ⟨by show _<=(w.heap++os).size; simp,fun b h=>dr3 w os h.1,fun b r el fz h=>⟨r,by rw[dr3 w os (ge5 h)]; exact h,rfl⟩,fun i B d h=>.inl ⟨i,d,h⟩,fun _ _ _ h=>.inl h,fun _ h=>h,fun _ _ h=>h,rfl,rfl,⟨rfl,zi _⟩,fun l L h=>⟨L,by rw[dr3 w os (ge5 h)]; exact h⟩,rfl⟩
theorem gz3 (hs:Sim E ρ w σ)(os:Array Obj):Sim E ρ (Sort.grow w os) σ :=
 ⟨hs.inj,fun i B d h=>zc (hs.lt i B d h) (bz8 (ρ:=ρ) 0 os).size,fun i B d h=>let ⟨o,h1,h2⟩:=hs.obj i B d h; ⟨o,h1,h2.mono (bz8 0 os) (dr3 w os (hs.lt i B d h))⟩,hs.dead,hs.fresh,hs.av7,fun g=>(hs.env g).mono (bz8 0 os),hs.nx,fun b h=>zc (hs.xlt b h) (bz8 (ρ:=ρ) (w:=w) 0 os).size⟩
theorem putRow_set {α:Type}[Inhabited α](enc:α->Value)(w:World)(B off:Nat)(d:Array α){rcs:Array Value}{el:TypeId}{fz:Nat×Nat}(h:w.heap[B]? = za (.cells rcs el fz)) :
  Sort.putRow enc w B off d=w.setRow B (Sort.putCells enc off d rcs):=by
 unfold Sort.putRow Sort.mapBlock World.setRow;congr 1;apply Array.ext_getElem?;intro k;simp only[Array.getElem?_modify];by_cases hk:B=k
 ·subst hk;simp only[if_true,h,Option.map_some,Sort.onCells]
 ·simp[hk]
theorem ik7 {α:Type}[Inhabited α]{enc:α->Value}{en:α->IV}{srt:List α->List α}{f:Nat}
  (hv:∀ (ρ:Rho) (w:World) (x:α),VR ρ w (en x) (enc x)) (hinv:∀ (ρ:Rho) (w:World) (x:α) (r:Value),VR ρ w (en x) r->r=enc x)
  (hl:∀ l,(srt l).length=l.length) (h0:srt []=[])
  (hk:∀ (blk off cap:Nat) (zs:List α) (w:World),Sort.Holds enc w blk off zs.toArray->blk<w.heap.size->zs.length<4611686018427387904->Calls P f #[.slice (za ⟨blk,off,zg⟩) zs.length cap] w fun e w'=>
   e=.returned (.tuple #[])/\∃ n os,w'=Sort.grow (Sort.putRow enc (Sort.ahead w n) blk off (srt zs).toArray) os)
  (hn:∀ (p:Option Addr) (cap:Nat) (w:World),Calls P f #[.slice p 0 cap] w fun e w'=>e=.returned (.tuple #[])/\w'=w)
  {id:Nat} {zs:List α} (hz:zs.length<4611686018427387904) (ho:σ.obj id=za (.row (zs.map en))) :
  C P E f [.slice id 0 zs.length 1] σ fun v s=>v=.tuple []/\s=σ.put id (.row ((srt zs).map en)):=by
 intro ρ w rargs hs hr;obtain ⟨hr1,hr2⟩:=hr;have hv0:=hr2 0 (by simp);obtain ⟨al⟩:=rargs
 match al,hr1,hv0 with
 | [r],_,hv0=>
  have hv0:VR ρ w (.slice id 0 zs.length 1) r:=hv0
  have empty:∀ (p:Option Addr) (cap:Nat),r=.slice p 0 cap->zs.length=0->CallsIn Fence.wide 0 P f #[r] w fun e w'=>∃ v r ρ' σ',e=.returned r/\(v=IV.tuple []/\σ'=σ.put id (.row ((srt zs).map en)))/\Sim E ρ' w' σ'/\VR ρ' w' v r/\bf1 σ.next ρ w ρ' w':=by
   intro p cap er hz0;have hz0:zs=[]:=zk.1 hz0;subst hz0;rw[er];refine callsIn_wide.2 ((hn p cap w).mono ?_);rintro e w' ⟨rfl,rfl⟩
   have hput:σ.put id (.row (([]:List α).map en))=σ:=by
    unfold Store.put;congr 1;funext i;by_cases h:i=id
    ·subst h; simpa using ho.symm
    ·simp[h]
   exact ⟨.tuple [],_,ρ,σ,rfl,⟨rfl,by rw[h0]; exact hput.symm⟩,hs,.tuple [] #[] rfl (fun i hi=>by simp at hi),bf1.refl _ _ _⟩
  by_cases hz0:zs.length=0
  ·rw[hz0] at hv0
   cases hv0 with
   | slice _ _ _ _ B d cap rcs el fz hid hb hsz hle=>exact empty _ _ rfl hz0
   | am9 _ _ _ B d a hid=>exact empty _ _ rfl hz0
   | al9 _ _ _ _ cap ad hid hle=>exact empty _ _ rfl hz0
  ·obtain ⟨m,hm⟩:∃ m,m=zs.length:=⟨_,rfl⟩;rw[<- hm] at hv0
   cases hv0 with
   | slice _ _ _ _ B d cap rcs el fz hid hb hsz hle=>
    subst hm;obtain ⟨o,h1,h2⟩:=hs.obj id B d hid;rw[ho] at h1;cases h1;obtain ⟨rcs',el',hb',hsz',hvs⟩:=h2;rw[hb] at hb';cases hb';rw[zb] at hsz' hvs
    have hcell:∀ j (h:j<zs.length),rcs[d+j]? = za (enc zs[j]):=fun j h=>by
     have:=hvs j h;have e1:(zs.map en).getD j .undef=en zs[j]:=by simp[zd,h]
     rw[e1] at this;have:=hinv _ _ _ _ this;have hlt:d+j<rcs.size:=by omega
     rw[ae3 _ _ _ hlt] at this;rw[Array.getElem?_eq_getElem hlt,this]
    have hH:Sort.Holds enc w B (d+0) zs.toArray:=fun j hj=>by
     have hj':j<zs.length:=by simpa using hj
     refine ⟨?_,?_⟩
     ·simp only[World.cell?,hb,Option.isSome_none,Bool.false_eq_true,if_false,Nat.add_zero];rw[hcell j hj'];congr 2;rw[getElem!_pos _ j hj]; simp
     ·simp[World.frozen?,hb]
    refine callsIn_wide.2 ((hk B (d+0) cap zs w hH (hs.lt id B d hid) hz).mono ?_);rintro e w' ⟨rfl,n,os,rfl⟩;have hba:(Sort.ahead w n).heap[B]? = za (.cells rcs el (0,0)):=hb;rw[putRow_set enc _ B _ _ hba];have hsa:=ge4 hs n;generalize hnew:Sort.putCells enc (d+0) (srt zs).toArray rcs=new;have hnsz:new.size=rcs.size:=by rw[<- hnew]; simp[Sort.putCells]
    have hx1:∀ m,Ext m ρ (Sort.ahead w n) ρ ((Sort.ahead w n).setRow B new):=fun m=>aw7 (n:=m) (new:=new) hid hba hnsz
    have hs1:Sim E ρ ((Sort.ahead w n).setRow B new) (σ.put id (.row ((srt zs).map en))):=by
     refine bp2 hsa hid hba hnsz ⟨new,el,setRow_heap _ B rcs new el (0,0) hba,?_,fun k hk'=>?_⟩
     ·rw[hnsz,zb,hl]; exact hsz'
     ·rw[zb,hl] at hk';have hlt:d+k<rcs.size:=by omega
      have hks:k<(srt zs).length:=by rw[hl]; exact hk'
      have e1:((srt zs).map en).getD k .undef=en (srt zs)[k]:=by simp[zd,hks]
      have e2:new.getD (d+k) undef=enc (srt zs)[k]:=by
       rw[<- hnew];rw[ae3 _ _ _ (by simpa [Sort.putCells] using hlt)];have c1:d+0<=d+k/\d+k<d+0+(srt zs).toArray.size:=by simp; omega
       simp only[Sort.putCells,Array.getElem_mapIdx,c1,and_self,if_true];congr 1;rw[getElem!_pos _ _ (by simp; omega)];simp
      rw[e1,e2];exact hv _ _ _
    exact ⟨.tuple [],_,ρ,_,rfl,⟨rfl,rfl⟩,gz3 hs1 os,.tuple [] #[] rfl (fun i hi=>by simp at hi),(((cx5 σ.next n).trans (hx1 σ.next) (zi _)).trans (bz8 σ.next os) (zi _)).weak (zi _)⟩
   | am9=>exact absurd hm.symm hz0
   | al9 _ _ _ _ cap ad hid hle=>rw[hs.dead id hid] at ho; cases ho
end Go.Id
set_option linter.all false
namespace Go.Id
open Go
variable {P:Program} {E:Nat->IV} {σ σ':Store}
def gz5 (f:IV->IV->Bool):List (IV×IV)->List (IV×IV)->Bool
 | [],y=>match y with
  | []=>true
  | _=>false
 | a::aZ,y=>match y with
  | b::bs=>f a.1 b.1&&f a.2 b.2&&gz5 f aZ bs
  | _=>false
theorem gz6 {f:IV->IV->Bool}(hf:∀ a b,f a b=true->a=b):∀ x y,gz5 f x y=true->x=y:=by
 intro x
 induction x with
 | nil=>intro y h; cases y with
  | nil=>rfl
  | cons b y=>cases h
 | cons a x ih=>intro y h; cases y with
  | nil=>cases h
  | cons b y=>
   obtain ⟨a1,a2⟩:=a;obtain ⟨b1,b2⟩:=b;simp only[gz5,zl] at h;rw[hf _ _ h.1.1,hf _ _ h.1.2,ih y h.2]
def eb5:Nat->IV->IV->Bool
 | 0,_,_=>false
 | n+1,a,b=>match a with
  | .an9 x=>match b with
   | .an9 y=>gz5 (eb5 n) x y
   | _=>false
  | .ab5 x=>match b with
   | .ab5 y=>cw9 (eb5 n) x y
   | _=>false
  | .aa4 x=>match b with
   | .aa4 y=>ea6 (eb5 n) x y
   | _=>false
  | .agg x=>match b with
   | .agg y=>cw9 (eb5 n) x y
   | _=>false
  | .tuple x=>match b with
   | .tuple y=>cw9 (eb5 n) x y
   | _=>false
  | a=>gy6 (n+1) a b
theorem gz7:∀ (n:Nat) (a b:IV),eb5 n a b=true->a=b:=by
 intro n
 induction n with
 | zero=>intro a b h; cases h
 | succ n ih=>
  intro a b h
  cases a with
  | an9 x=>cases b with
   | an9 y=>rw[gz6 ih _ _ h]
   | _=>cases h
  | ab5 x=>cases b with
   | ab5 y=>rw[bi5 ih _ _ h]
   | _=>cases h
  | aa4 x=>cases b with
   | aa4 y=>rw[ea7 ih _ _ h]
   | _=>cases h
  | agg x=>cases b with
   | agg y=>rw[bi5 ih _ _ h]
   | _=>cases h
  | tuple x=>cases b with
   | tuple y=>rw[bi5 ih _ _ h]
   | _=>cases h
  | _=>exact ik4 (n+1) _ _ h
def wkL (f:IV->IV->Bool):List IV->List IV->Bool
 | [],y=>match y with
  | []=>true
  | _=>false
 | a::aZ,y=>match y with
  | b::bs=>f a b&&wkL f aZ bs
  | _=>false
theorem bc5 {f:IV->IV->Bool}:∀ x y,wkL f x y=true->y.length=x.length/\∀ i,i<x.length->f (x.getD i .undef) (y.getD i .undef)=true:=by
 intro x
 induction x with
 | nil=>intro y h; cases y with
  | nil=>exact ⟨rfl,fun i hi=>absurd hi (zp _)⟩
  | cons b y=>cases h
 | cons a x ih=>intro y h; cases y with
  | nil=>cases h
  | cons b y=>
   simp only[wkL,zl] at h;obtain ⟨h1,h2⟩:=ih y h.2;refine ⟨by simp[h1],fun i hi=>?_⟩
   cases i with
   | zero=>exact h.1
   | succ i=>exact h2 i (by simpa using hi)
def wkR (f:IV->IV->Bool):List (List IV)->List (List IV)->Bool
 | [],y=>match y with
  | []=>true
  | _=>false
 | a::aZ,y=>match y with
  | b::bs=>wkL f a b&&wkR f aZ bs
  | _=>false
theorem gz8 {f:IV->IV->Bool}:∀ x y,wkR f x y=true->y.length=x.length/\∀ i,i<x.length->wkL f (x.getD i []) (y.getD i [])=true:=by
 intro x
 induction x with
 | nil=>intro y h; cases y with
  | nil=>exact ⟨rfl,fun i hi=>absurd hi (zp _)⟩
  | cons b y=>cases h
 | cons a x ih=>intro y h; cases y with
  | nil=>cases h
  | cons b y=>
   simp only[wkR,zl] at h;obtain ⟨h1,h2⟩:=ih y h.2;refine ⟨by simp[h1],fun i hi=>?_⟩
   cases i with
   | zero=>exact h.1
   | succ i=>exact h2 i (by simpa using hi)
def wkB:Nat->IV->IV->Bool
 | 0,_,_=>false
 | n+1,a,b=>match a with
  | .aa1=>match b with
   | .aa4 y=>match y with
    | []=>true
    | _=>false
   | .aa1=>true
   | _=>false
  | .aa4 x=>match b with
   | .aa4 y=>wkR (wkB n) x y
   | _=>false
  | .agg x=>match b with
   | .agg y=>wkL (wkB n) x y
   | _=>false
  | .ab5 x=>match b with
   | .ab5 y=>wkL (wkB n) x y
   | _=>false
  | a=>as9 (n+1) a&&eb5 (n+1) a b
theorem ik8:∀ (n:Nat) (a b:IV),wkB n a b=true->∀ (σ:Store) (S:Nat->Prop),Frz σ S a b:=by
 intro n
 induction n with
 | zero=>intro a b h; cases h
 | succ n ih=>
  intro a b h σ S
  have eqc:∀ a b:IV,(as9 (n+1) a&&eb5 (n+1) a b)=true->Frz σ S a b:=fun a b h=>by
   simp only[zl] at h;rw[<- gz7 _ _ _ h.2];exact .keep _ ((ax1 _ _ h.1).weak fun i hi=>absurd hi (zp _))
  cases a with
  | aa1=>cases b with
   | aa4 y=>cases y with
    | nil=>exact .dc1
    | cons _ _=>cases h
   | aa1=>exact .keep _ .aa1
   | _=>cases h
  | aa4 x=>cases b with
   | aa4 y=>
    obtain ⟨h1,h2⟩:=gz8 _ _ h
    exact .aa4 _ _ h1 (fun i hi=>(bc5 _ _ (h2 i hi)).1) fun i hi j hj=>ih _ _ ((bc5 _ _ (h2 i hi)).2 j hj) σ S
   | _=>cases h
  | agg x=>cases b with
   | agg y=>exact .agg _ _ (bc5 _ _ h).1 fun i hi=>ih _ _ ((bc5 _ _ h).2 i hi) σ S
   | _=>cases h
  | ab5 x=>cases b with
   | ab5 y=>exact .ab5 _ _ (bc5 _ _ h).1 fun i hi=>ih _ _ ((bc5 _ _ h).2 i hi) σ S
   | _=>cases h
  | _=>exact eqc _ _ h
theorem jb5 {f:Nat}{args args':List IV}{v:IV}(hw:wkL (wkB 1000) args args'=true)(h:PC P E f args' v):PC P E f args v :=
 em1 (bc5 _ _ hw).1 (fun σ i hi=>ik8 1000 _ _ ((bc5 _ _ hw).2 i hi) σ _) h
end Go.Id
set_option linter.all false
namespace Go.Id
open Go
variable {H:Type} {enc:TypeId×Value->H} {P:Program} {w:World} {base:Nat} {sp:Nat->Bool} {held:Bool}
def Rdg (enc:TypeId×Value->H)(P:Program)(w:World)(base:Nat)(sp:Nat->Bool)(held:Bool)(n:Nat)(t:TypeId)(d:DataW H):Prop :=
 ∃ cs ps,DataW.trod enc P w base sp held n t cs=za (d,ps)
def WT (P:Program)(t:TypeId)(d:DataW H):Prop:=∀ k∈d.weights P t,k<=reachBytes
theorem bg2 {n:Nat}{t:TypeId}{d:DataW H}{k:IntKind}(hu:P.underlying t=za (.int k))(h:Rdg enc P w base sp held n t d):∃ z,d=.lit (.int k z)/\(Lit.int k z).wf=true/\∀ m,n<=m->dv P m t d=za [.int k z]:=by
 obtain ⟨cs,ps,h⟩:=h;have hn:n≠0:=fun e=>by subst e; simp[DataW.trod] at h
 obtain ⟨z,rfl,hx,hw⟩:=DataW.trod_int hu h;cases hx;refine ⟨z,rfl,hw,fun m hm=>?_⟩
 cases m with
 | zero=>omega
 | succ m=>simp only[dv,hu]
theorem cy1 {n:Nat}{t:TypeId}{d:DataW H}(hu:P.underlying t=za .string)(h:Rdg enc P w base sp held n t d)(hw:WT P t d):∃ s:List UInt8,s.length<2^62/\∀ m,n<=m->dv P m t d=za [.str s]:=by
 obtain ⟨cs,ps,h⟩:=h;have hn:n≠0:=fun e=>by subst e; simp[DataW.trod] at h
 obtain ⟨s,rfl,hx,_⟩:=DataW.trod_string hu h;cases hx;refine ⟨s.data.toList,?_,fun m hm=>?_⟩
 ·have:=hw s.data.toList.length (by simp[DataW.weights]);have:=reachBytes_lt;omega
 ·cases m with
  | zero=>omega
  | succ m=>simp only[dv,hu]
theorem av2 {n:Nat}{t:TypeId}{d:DataW H}{fs:Array Field}(hu:P.underlying t=za (.struct fs))(h:Rdg enc P w base sp held n t d)(hw:WT P t d) :
  ∃ n' ds,n=n'+1/\d=.agg ds/\ds.length=fs.size/\∀ (i:Nat) (f:Field) (d':DataW H),fs[i]? = za f->ds[i]? = za d'->Rdg enc P w base sp held n' f.type d'/\WT P f.type d':=by
 obtain ⟨cs,ps,h⟩:=h;obtain ⟨xs,n',rfl,hx,_,hl,hf⟩:=DataW.trod_struct hu h;cases hx;refine ⟨n',xs.map (·.1),rfl,rfl,by rw[zb,hl],fun i f d' h1 h2=>⟨?_,fun k hk=>?_⟩⟩
 ·rw[zn] at h2
  cases hxi:xs[i]? with
  | none=>rw[hxi] at h2; cases h2
  | some x=>
   rw[hxi] at h2;cases h2;exact ⟨_,x.2,by rw[hf i f h1,hxi]⟩
 ·refine hw k ?_;simp only[DataW.weights,hu];exact DataW.weights_mem_each (j:=i) (t:=f.type) (d:=d') (by rw[zn]; simp[h1]) h2 k hk
theorem dc5 {e:TypeId}{k:Nat}:∀ {l:List (DataW H)} {d:DataW H},d∈l->k∈d.weights P e->k∈DataW.weightsAll P e l:=by
 intro l
 induction l with
 | nil=>intro d h; cases h
 | cons x xs ih=>
  intro d h hk;simp only[DataW.weightsAll,List.mem_append];rcases zq.1 h with rfl|h
  ·exact .inl hk
  ·exact .inr (ih h hk)
theorem az6 {α:Type}{n:Nat}{t e:TypeId}{d:DataW H}{c:Nat}(f:α->List IV)(ok:α->Prop)(hu:P.underlying t=za (.slice e))(hc:P.cellsOf e=c)(hc0:c≠0)(hb:1<=P.bytesOf e)(hl:∀ a,(f a).length=c)
  (ih:∀ n' d',n'<n->Rdg enc P w base sp held n' e d'->WT P e d'->∃ a,ok a/\∀ m,n'<=m->dv P m e d'=za (f a))
  (h:Rdg enc P w base sp held n t d) (hw:WT P t d):∃ l:List α,l.length<2^62/\(∀ a∈l,ok a)/\∀ m,n<=m->dv P m t d=za [.aa4 (l.map f)]:=by
 obtain ⟨cs,ps,h⟩:=h;have hn:n≠0:=fun e=>by subst e; simp[DataW.trod] at h
 rcases DataW.trod_slice hu h with ⟨rfl,hx⟩|⟨a,len,cap,elems,rest,n',rfl,rfl,hx,_,_,_,hlen,hel,_,_⟩
 ·cases hx;refine ⟨[],by simp,fun a ha=>(by cases ha),fun m hm=>?_⟩
  cases m with
  | zero=>omega
  | succ m=>simp only[dv,hu]; rfl
 ·cases hx
  have hsz:elems.length<2^62:=by
   have h1:=hw ((elems.length+rest.length)*P.bytesOf e) (by simp[DataW.weights,hu]);have h2:(elems.length+rest.length)*1<=(elems.length+rest.length)*P.bytesOf e:=Nat.mul_le_mul_left _ hb;have:=reachBytes_lt;omega
  have hel':∀ x∈elems,Rdg enc P w base sp held n' e x.1:=by
   intro x hx;obtain ⟨i,hi,he⟩:=List.mem_iff_getElem.1 hx;have h1:=hel i (by omega);rw[zr hi,he] at h1;obtain ⟨ci,_,h2⟩:=Option.bind_eq_some_iff.1 h1;exact ⟨ci,x.2,h2⟩
  have hwe:∀ x∈elems,WT P e x.1:=by
   intro x hx k hk;refine hw k ?_;simp only[DataW.weights,hu,zq,List.mem_append];exact .inr (.inl (dc5 (List.mem_map_of_mem (f:=fun x:DataW H×List MemPlace=>x.1) hx) hk))
  have key:∀ ys:List (DataW H×List MemPlace),(∀ x∈ys,x∈elems)->∃ l:List α,l.length=ys.length/\(∀ a∈l,ok a)/\∀ m,n'<=m->dvS (dv P m e) c (ys.map (·.1))=za (l.map f):=by
   intro ys
   induction ys with
   | nil=>intro _; exact ⟨[],rfl,fun a ha=>(by cases ha),fun m _=>rfl⟩
   | cons y ys ih2=>
    intro hin;obtain ⟨l,l1,l2,l3⟩:=ih2 fun x hx=>hin x (List.mem_cons_of_mem _ hx)
    have hy:=hin y (List.mem_cons_self ..);obtain ⟨a,a1,a2⟩:=ih n' y.1 (Nat.lt_succ_self _) (hel' y hy) (hwe y hy);refine ⟨a::l,by simp[l1],fun b hb=>?_,fun m hm=>?_⟩
    ·rcases zq.1 hb with rfl|hb
     ·exact a1
     ·exact l2 b hb
    ·simp only[zj,dvS,a2 m hm,hl a,if_true,l3 m hm]
  obtain ⟨l,l1,l2,l3⟩:=key elems fun x hx=>hx
  refine ⟨l,by omega,l2,fun m hm=>?_⟩
  cases m with
  | zero=>omega
  | succ m=>
   subst hc;simp only[dv,hu,if_neg hc0,l3 m (by omega)]
end Go.Id
set_option linter.all false
namespace Go.Id.Tryz
open Go Go.Id
def rt:Nat:=0xa1052c032c054797230466960890530705065551020a53454104615e6968073862545d2d7d045a684538086c40061a0223031b5c0e051c7c8503510492060216d046452d09427d489b13083143044e020c46010245484424187f0f071a061b575a995b31624040072c061408b065474018000e0622030c4242040416052d12084f588abd0bb5600e340b1d57562c5b4ea5410d0a334b420111084302060a18076e0655005a2d2a2d7200130840021a5c4467188898a46d010447952d080f812c0e0318011d075424184a8e448f36700061835d632c02082d40044303080e275c35006f462d022a2a4102185e084b040a170a07455b4110084a440e0160654e01030a400343510e021a00524740050405494d642d050a441800033332083839371b01430533350c0a08460e0816152d04194a55430a562c04410142001f591802080a010a1610010e3839164c0a1a0d080f081201410040010841502e0203160a0c0833410b081200340e000a0a08090840000b0a08081c0a000108403331160e
def q0:RR:=.k (.dc4 (.t 0))
def q1:RR:=.x (.c .aa1)
def q2:RR:=.k (.dc4 (.t 1))
def q3:RR:=.x (.c .ae7)
def q4:RR:=.x (cI (-1))
def q5:RR:=.k (.alloc [.str [],zI 0,.str [],.str [],zU 0,.str [],.aa1,.aa1,.aa1,.aa1,.aa1,.aa1,.aa1,.aa1,.aa1])
def q6:RR:=.k (.dc4 (.t 2))
def q7:RR:=.k (.alloc [zU 0,.str [],zU 0,zI 0,.str [],.str [],.aa1])
def q8:RR:=.k (.alloc [.str [],zU 0,zI 0,.str [],.str []])
def q9:RR:=.x (.c .ad5)
def q10:RR:=.k (.bsl 1 0 [zI 0] [])
def q11:RR:=.k (.alloc [.aa1])
def q12:RR:=.k (.alloc [.bool false])
def q13:RR:=.k (.q (.bld [] []))
def q14:RR:=.k (.alloc [zI 0])
def q15:RR:=.k (.q (.bld [zU 0,.str []] [⟨0,⟨1,.c (zU 2)⟩⟩]))
def q16:RR:=.k (.q (.bld [zI 0,zI 0,.bool false,zU 0] [⟨0,⟨1,cI 2⟩⟩,⟨1,⟨1,cI 24⟩⟩,⟨2,⟨1,.c (.bool true)⟩⟩,⟨3,⟨1,.c (zU 3)⟩⟩]))
def q17:RR:=.k (.ax8 1 1 [zI 0] [⟨0,⟨1,.t 27⟩⟩])
def q18:RR:=.k (.q (.bld [zI 0,.str [],.str []] []))
def q19:RR:=.k (.q (.ba5 (.pointer 59) false (.t 3)))
def q20:RR:=.k (.alloc [zU 0,.bool false,.aa1,.aa1,zI 0])
def q21:RR:=.k (.q (.ba5 (.pointer 82) false (.t 3)))
def q22:RR:=.k (.q (.ldt (za 15) (.t 21)))
def q23:RR:=.k (.q (.ba5 (.pointer 59) false (.t 5)))
def q24:RR:=.k (.alloc [.ae7,.aa1])
def q25:RR:=.k (.q (.ba5 (.pointer 82) true (.t 5)))
def q26:RR:=.k (.q (.bld [.str [],zU 0,zI 0,.str [],.str []] [⟨0,⟨1,.t 5⟩⟩,⟨1,⟨1,.c (zU 2)⟩⟩,⟨2,⟨3,.t 6⟩⟩]))
def q27:RR:=.k (.q (.lkp 2 .aa1 false (.t 11) (.t 13)))
def q28:RR:=.k (.q (.ba5 (.pointer 132) false (.t 5)))
attribute [go_sem] rt q0 q1 q2 q3 q4 q5 q6 q7 q8 q9 q10 q11 q12 q13 q14 q15 q16 q17 q18 q19 q20 q21 q22 q23 q24 q25 q26 q27 q28
end Go.Id.Tryz
