/- Codes written as numerals: how they are read. Conditions: none; over any program. -/
import Derived.Test.YtcdomcibjgbalaaGreatDoorFwRo
import Derived.Test.YtcdomcibjgbalaaGreatDoorT6
import Derived.Test.YtcdomcibjgbalaaGreatDoorFwQ
import Derived.Shelf.Sort.Plain
import Derived.Shelf.Slices.In.SortNone
import Derived.SizedLaws
open Option renaming some→za,none→zd
open Bool renaming and_eq_true→zb
open List renaming length_map→zc,getD_eq_getElem?_getD→zg,mem_cons→zh,length_eq_zero_iff→zi,getElem?_map→zl
open Nat renaming le_refl→ze,not_lt_zero→zf,lt_of_lt_of_le→zk
open Int renaming ofNat→zj
set_option linter.all false
set_option linter.all false
namespace Go.Id
open Go
inductive RR where
 | x (a:IX)
 | k (a:IK)
 | c (a:IC)
def hR (l:List RR):RR:=l.headD (.c .skip)
def xR:RR->IX
 | .x a=>a
 | _=>.t 0
def kR:RR->IK
 | .k a=>a
 | _=>.ck6
def cR:RR->IC
 | .c a=>a
 | _=>.skip
def hN (l:List Nat):Nat:=l.headD 0
def hX (l:List IX):IX:=l.headD (.t 0)
def hC (l:List IC):IC:=l.headD .skip
def bo:Nat->BinOp
 | 0=>.eql
 | 1=>.lss
 | 2=>.add
 | 3=>.neq
 | 4=>.geq
 | 5=>.gtr
 | 6=>.leq
 | 7=>.sub
 | 8=>.mul
 | 9=>.and
 | 10=>.or
 | 11=>.xor
 | 12=>.shl
 | 13=>.shr
 | 14=>.quo
 | 15=>.rem
 | _=>.andNot
abbrev St:=Nat->List IC->List ae7->Nat->Option (Nat×Bool)->List IX->List Nat->List RR->IC
def em (q:IK)(c:St)(n:Nat)(k:List IC)(o:List ae7)(d:Nat)(g:Option (Nat×Bool))(r:List RR):IC:=c n k (⟨za d,g,q⟩::o) (d-1) g [] [] r
def dz (t:Nat)(c:St)(n:Nat)(k:List IC)(o:List ae7)(d:Nat)(g:Option (Nat×Bool))(x:List IX)(m:List Nat)(r:List RR):IC:=match t with
 | 0=>c n k o d g x (0::m) r
 | 1=>c n k o d g x (1::m) r
 | 2=>c n k o d g x (2::m) r
 | 3=>c n k o d g x (3::m) r
 | 4=>c n k o d g x (4::m) r
 | 5=>c n k o d g x (5::m) r
 | 6=>c n k o d g x (6::m) r
 | 7=>c n k o d g x (7::m) r
 | 8=>c (n/256) k o d g x (n%256::m) r
 | 9=>c (n/65536) k o d g x (n%65536::m) r
 | 10=>c n k o d g (.t (d-1)::x) m r
 | 11=>c n k o d g (.t (d-2)::x) m r
 | 12=>c n k o d g (.t (d-3)::x) m r
 | 13=>c n k o d g (.t (d-4)::x) m r
 | 14=>c n k o d g (.t (hN m)::x) m.tail r
 | 15=>c n k o d g (.t (d-hN m)::x) m.tail r
 | 16=>c n k o d g (.c (.bool false)::x) m r
 | 17=>c n k o d g (.c (.bool true)::x) m r
 | 18=>c n k o d g (.c (.int .i64 (zj (hN m)))::x) m.tail r
 | 19=>c n k o d g (.c (.int .u8 (zj (hN m)))::x) m.tail r
 | 20=>c n k o d g (.c (.str [])::x) m r
 | 21=>c n k o d g (xR (hR r)::x) m r.tail
 | 22=>em (.q (.mov (hX x))) c n k o d g r
 | 23=>em (.q (.not (hX x))) c n k o d g r
 | 24=>em (.q (.bin (bo (hN m)) (hX x) (hX x.tail))) c n k o d g r
 | 25=>em (.q (.len (hN m) (hX x))) c n k o d g r
 | 26=>em (.q (.bg4 (hN m) (hX x))) c n k o d g r
 | 27=>em (.q (.ei4 (hN m) (hX x) (hX x.tail))) c n k o d g r
 | 28=>em (.q (.load zd (hX x))) c n k o d g r
 | 29=>em (.q (.load (za (hN m)) (hX x))) c n k o d g r
 | 30=>em (.q (.ix1 (hX x) (hX x.tail))) c n k o d g r
 | 31=>em (.q (.ip6 (hX x))) c n k o d g r
 | 32=>em (.q (.ext (hN m) (hX x))) c n k o d g r
 | 33=>em (.q (.pick (hX x) (hX x.tail) (hX x.tail.tail))) c n k o d g r
 | 34=>c n k (⟨za d,g,.q (.pick (.t (d-hN m)) (.t (d-1)) (.c (.bool false)))⟩::o) (d-1) (za (d-hN m,true)) [] [] r
 | 35=>c n k (⟨za d,g,.q (.pick (.t (d-hN m)) (.c (.bool true)) (.t (d-1)))⟩::o) (d-1) (za (d-hN m,false)) [] [] r
 | 36=>em (.call (hN m) x) c n k o d g r
 | 37=>em (.bb1 (hN m) x) c n k o d g r
 | 38=>em (.cw7 (hX x) x.tail) c n k o d g r
 | 39=>c n k (⟨zd,g,.store (hN m) (hX x) (hX x.tail)⟩::o) d g [] [] r
 | 40=>em (.app (hN m) (hX x) (hX x.tail)) c n k o d g r
 | 41=>em (.box (hX x)) c n k o d g r
 | 42=>em (kR (hR r)) c n k o d g r.tail
 | 43=>c n k (⟨zd,g,kR (hR r)⟩::o) d g [] [] r.tail
 | 44=>c n k (⟨za (hN m),g,.q (.mov (.t d))⟩::o) d g [] [] r
 | 45=>c n k o (hN m) g x [] r
 | 46=>c n k o d zd x m r
 | 47=>c n k o d (za (d-hN m,true)) x m.tail r
 | 48=>c n k o d (za (d-hN m,false)) x m.tail r
 | 49=>c n (.reg (hN m) o m.tail::k) [] d zd [] [] r
 | 50=>c n (.hw6 (hN m.tail) o ((hN m==1)) m.tail.tail::k) [] d zd [] [] r
 | 51=>c n (.seq (hC k) (hC k.tail)::k.tail.tail) o d g x m r
 | 52=>c n (.cond (hX x) (hC k) (hC k.tail)::k.tail.tail) o d g [] m r
 | 53=>c n (.block (hN m) (hC k)::k.tail) o d g x [] r
 | 54=>c n (.loop (hC k)::k.tail) o d g x m r
 | 55=>c n (.exit (hN m)::k) o d g x [] r
 | 56=>c n (.ret::k) o d g x m r
 | 57=>c n (.skip::k) o d g x m r
 | 58=>c n (.scope (hC k)::k.tail) o d g x m r
 | 59=>c n (cR (hR r)::k) o d g x m r.tail
 | 60=>c n k o d (za (hN m,true)) x m.tail r
 | _=>c n k o d (za (hN m,false)) x m.tail r
def dq (R:Nat):Nat->St
 | 0,_,k,_,_,_,_,_,_=>hC k
 | f+1,n,k,o,d,g,x,m,r=>if n%256<64 then dz (n%256) (dq R f) (n/256) k o d g x m r else dq R f (n/256*65536+R/65536^(n%256-64)%65536) k o d g x m r
def dC (R f n:Nat)(r:List RR):IC:=dq R f n [] [] 0 zd [] [] r
variable {c:St} {n d:Nat} {k:List IC} {o:List ae7} {g:Option (Nat×Bool)} {x:List IX} {m:List Nat} {r:List RR}
theorem dz0:dz 0 c n k o d g x m r=c n k o d g x (0::m) r:=nr rfl
theorem dz1:dz 1 c n k o d g x m r=c n k o d g x (1::m) r:=nr rfl
theorem dz2:dz 2 c n k o d g x m r=c n k o d g x (2::m) r:=nr rfl
theorem dz3:dz 3 c n k o d g x m r=c n k o d g x (3::m) r:=nr rfl
theorem dz4:dz 4 c n k o d g x m r=c n k o d g x (4::m) r:=nr rfl
theorem dz5:dz 5 c n k o d g x m r=c n k o d g x (5::m) r:=nr rfl
theorem dz6:dz 6 c n k o d g x m r=c n k o d g x (6::m) r:=nr rfl
theorem dz7:dz 7 c n k o d g x m r=c n k o d g x (7::m) r:=nr rfl
theorem dz8:dz 8 c n k o d g x m r=c (n/256) k o d g x (n%256::m) r:=nr rfl
theorem dz9:dz 9 c n k o d g x m r=c (n/65536) k o d g x (n%65536::m) r:=nr rfl
theorem kl9:dz 10 c n k o d g x m r=c n k o d g (.t (d-1)::x) m r:=nr rfl
theorem km1:dz 11 c n k o d g x m r=c n k o d g (.t (d-2)::x) m r:=nr rfl
theorem km2:dz 12 c n k o d g x m r=c n k o d g (.t (d-3)::x) m r:=nr rfl
theorem km3:dz 13 c n k o d g x m r=c n k o d g (.t (d-4)::x) m r:=nr rfl
theorem km4:dz 14 c n k o d g x m r=c n k o d g (.t (hN m)::x) m.tail r:=nr rfl
theorem km5:dz 15 c n k o d g x m r=c n k o d g (.t (d-hN m)::x) m.tail r:=nr rfl
theorem km6:dz 16 c n k o d g x m r=c n k o d g (.c (.bool false)::x) m r:=nr rfl
theorem km7:dz 17 c n k o d g x m r=c n k o d g (.c (.bool true)::x) m r:=nr rfl
theorem km8:dz 18 c n k o d g x m r=c n k o d g (.c (.int .i64 (zj (hN m)))::x) m.tail r:=nr rfl
theorem km9:dz 19 c n k o d g x m r=c n k o d g (.c (.int .u8 (zj (hN m)))::x) m.tail r:=nr rfl
theorem kn1:dz 20 c n k o d g x m r=c n k o d g (.c (.str [])::x) m r:=nr rfl
theorem kn2:dz 21 c n k o d g x m r=c n k o d g (xR (hR r)::x) m r.tail:=nr rfl
theorem kn3:dz 22 c n k o d g x m r=c n k (⟨za d,g,.q (.mov (hX x))⟩::o) (d-1) g [] [] r:=nr rfl
theorem kn4:dz 23 c n k o d g x m r=c n k (⟨za d,g,.q (.not (hX x))⟩::o) (d-1) g [] [] r:=nr rfl
theorem kn5:dz 24 c n k o d g x m r=c n k (⟨za d,g,.q (.bin (bo (hN m)) (hX x) (hX x.tail))⟩::o) (d-1) g [] [] r:=nr rfl
theorem kn6:dz 25 c n k o d g x m r=c n k (⟨za d,g,.q (.len (hN m) (hX x))⟩::o) (d-1) g [] [] r:=nr rfl
theorem kn7:dz 26 c n k o d g x m r=c n k (⟨za d,g,.q (.bg4 (hN m) (hX x))⟩::o) (d-1) g [] [] r:=nr rfl
theorem kn8:dz 27 c n k o d g x m r=c n k (⟨za d,g,.q (.ei4 (hN m) (hX x) (hX x.tail))⟩::o) (d-1) g [] [] r:=nr rfl
theorem kn9:dz 28 c n k o d g x m r=c n k (⟨za d,g,.q (.load zd (hX x))⟩::o) (d-1) g [] [] r:=nr rfl
theorem ko1:dz 29 c n k o d g x m r=c n k (⟨za d,g,.q (.load (za (hN m)) (hX x))⟩::o) (d-1) g [] [] r:=nr rfl
theorem ko2:dz 30 c n k o d g x m r=c n k (⟨za d,g,.q (.ix1 (hX x) (hX x.tail))⟩::o) (d-1) g [] [] r:=nr rfl
theorem ko3:dz 31 c n k o d g x m r=c n k (⟨za d,g,.q (.ip6 (hX x))⟩::o) (d-1) g [] [] r:=nr rfl
theorem ko4:dz 32 c n k o d g x m r=c n k (⟨za d,g,.q (.ext (hN m) (hX x))⟩::o) (d-1) g [] [] r:=nr rfl
theorem ko5:dz 33 c n k o d g x m r=c n k (⟨za d,g,.q (.pick (hX x) (hX x.tail) (hX x.tail.tail))⟩::o) (d-1) g [] [] r:=nr rfl
theorem ko6:dz 34 c n k o d g x m r=c n k (⟨za d,g,.q (.pick (.t (d-hN m)) (.t (d-1)) (.c (.bool false)))⟩::o) (d-1) (za (d-hN m,true)) [] [] r:=nr rfl
theorem ko7:dz 35 c n k o d g x m r=c n k (⟨za d,g,.q (.pick (.t (d-hN m)) (.c (.bool true)) (.t (d-1)))⟩::o) (d-1) (za (d-hN m,false)) [] [] r:=nr rfl
theorem ko8:dz 36 c n k o d g x m r=c n k (⟨za d,g,.call (hN m) x⟩::o) (d-1) g [] [] r:=nr rfl
theorem ko9:dz 37 c n k o d g x m r=c n k (⟨za d,g,.bb1 (hN m) x⟩::o) (d-1) g [] [] r:=nr rfl
theorem kp4:dz 38 c n k o d g x m r=c n k (⟨za d,g,.cw7 (hX x) x.tail⟩::o) (d-1) g [] [] r:=nr rfl
theorem kp6:dz 39 c n k o d g x m r=c n k (⟨zd,g,.store (hN m) (hX x) (hX x.tail)⟩::o) d g [] [] r:=nr rfl
theorem kp7:dz 40 c n k o d g x m r=c n k (⟨za d,g,.app (hN m) (hX x) (hX x.tail)⟩::o) (d-1) g [] [] r:=nr rfl
theorem kp8:dz 41 c n k o d g x m r=c n k (⟨za d,g,.box (hX x)⟩::o) (d-1) g [] [] r:=nr rfl
theorem kp9:dz 42 c n k o d g x m r=c n k (⟨za d,g,kR (hR r)⟩::o) (d-1) g [] [] r.tail:=nr rfl
theorem kq1:dz 43 c n k o d g x m r=c n k (⟨zd,g,kR (hR r)⟩::o) d g [] [] r.tail:=nr rfl
theorem kq2:dz 44 c n k o d g x m r=c n k (⟨za (hN m),g,.q (.mov (.t d))⟩::o) d g [] [] r:=nr rfl
theorem kq3:dz 45 c n k o d g x m r=c n k o (hN m) g x [] r:=nr rfl
theorem kq4:dz 46 c n k o d g x m r=c n k o d zd x m r:=nr rfl
theorem kq5:dz 47 c n k o d g x m r=c n k o d (za (d-hN m,true)) x m.tail r:=nr rfl
theorem kq6:dz 48 c n k o d g x m r=c n k o d (za (d-hN m,false)) x m.tail r:=nr rfl
theorem kq7:dz 49 c n k o d g x m r=c n (.reg (hN m) o m.tail::k) [] d zd [] [] r:=nr rfl
theorem kq8:dz 50 c n k o d g x m r=c n (.hw6 (hN m.tail) o ((hN m==1)) m.tail.tail::k) [] d zd [] [] r:=nr rfl
theorem kq9:dz 51 c n k o d g x m r=c n (.seq (hC k) (hC k.tail)::k.tail.tail) o d g x m r:=nr rfl
theorem kr1:dz 52 c n k o d g x m r=c n (.cond (hX x) (hC k) (hC k.tail)::k.tail.tail) o d g [] m r:=nr rfl
theorem kr2:dz 53 c n k o d g x m r=c n (.block (hN m) (hC k)::k.tail) o d g x [] r:=nr rfl
theorem kr3:dz 54 c n k o d g x m r=c n (.loop (hC k)::k.tail) o d g x m r:=nr rfl
theorem kr4:dz 55 c n k o d g x m r=c n (.exit (hN m)::k) o d g x [] r:=nr rfl
theorem kr5:dz 56 c n k o d g x m r=c n (.ret::k) o d g x m r:=nr rfl
theorem kr6:dz 57 c n k o d g x m r=c n (.skip::k) o d g x m r:=nr rfl
theorem kr7:dz 58 c n k o d g x m r=c n (.scope (hC k)::k.tail) o d g x m r:=nr rfl
theorem kr8:dz 59 c n k o d g x m r=c n (cR (hR r)::k) o d g x m r.tail:=nr rfl
theorem kr9:dz 60 c n k o d g x m r=c n k o d (za (hN m,true)) x m.tail r:=nr rfl
theorem ks1:dz 61 c n k o d g x m r=c n k o d (za (hN m,false)) x m.tail r:=nr rfl
theorem hN0 {a:Nat}{l:List Nat}:hN (a::l)=a:=nr rfl
theorem hX0 {a:IX}{l:List IX}:hX (a::l)=a:=nr rfl
theorem hC0 {a:IC}{l:List IC}:hC (a::l)=a:=nr rfl
theorem hR0 {a:RR}{l:List RR}:hR (a::l)=a:=nr rfl
theorem dq0 {R:Nat}:dq R 0 n k o d g x m r=hC k:=nr rfl
theorem dq1 {R f:Nat}:dq R (f+1) n k o d g x m r=if n%256<64 then dz (n%256) (dq R f) (n/256) k o d g x m r else dq R f (n/256*65536+R/65536^(n%256-64)%65536) k o d g x m r:=nr rfl
attribute [go_sem] dz0 dz1 dz2 dz3 dz4 dz5 dz6 dz7 dz8 dz9 kl9 km1 km2 km3 km4 km5 km6 km7 km8 km9 kn1 kn2 kn3 kn4 kn5 kn6 kn7 kn8 kn9 ko1 ko2 ko3 ko4 ko5 ko6 ko7 ko8 ko9 kp4 kp6 kp7 kp8 kp9 kq1 kq2 kq3 kq4 kq5 kq6 kq7 kq8 kq9 kr1 kr2 kr3 kr4 kr5 kr6 kr7 kr8 kr9 ks1 hN0 hX0 hC0 hR0 dq0 dq1 xR kR cR bo dC Nat.reduceMod Nat.reduceDiv Nat.reducePow Nat.reduceSub Nat.reduceBEq Int.reduceOfNat List.tail_cons
end Go.Id
set_option linter.all false
namespace Go.Id
open Go
noncomputable section
variable {E:Nat->IV} {fr:Frm}
end
end Go.Id
/- Codes,part by part; blocks let go at a call. Conditions: none; over any program. -/
namespace Go.Id
open Go
variable {P:Program} {E:Nat->IV} {σ σ':Store} {N n0:Nat} {fr:Frm}
def ic2 (P:Program)(E:Nat->IV)(N n0:Nat)(b:IC)(Q:Exit->Frm->Store->Prop):Exit->Frm->Store->Prop
 | .normal,fr,σ=>RI P E N n0 b fr σ Q
 | e,fr,σ=>Q e fr σ
theorem kf9 {b:IC}{Q:Exit->Frm->Store->Prop}:ic2 P E N n0 b Q .normal fr σ=RI P E N n0 b fr σ Q:=nr rfl
theorem kg1 {b:IC}{Q:Exit->Frm->Store->Prop}:ic2 P E N n0 b Q .ret fr σ=Q .ret fr σ:=nr rfl
theorem kg2 {b:IC}{i:Nat}{Q:Exit->Frm->Store->Prop}:ic2 P E N n0 b Q (.exit i) fr σ=Q (.exit i) fr σ:=nr rfl
attribute [go_sem] kf9 kg1 kg2
theorem ad6 {x:IC}{Q:Exit->Frm->Store->Prop}(h:wpT noP noC P E N n0 x fr σ Q):RI P E N n0 x fr σ Q:=bo7 x fr σ Q (bi1 noT x fr σ Q h)
theorem ab9 {a b:IC}{Q:Exit->Frm->Store->Prop}(h:RI P E N n0 a fr σ (ic2 P E N n0 b Q)):RI P E N n0 (.seq a b) fr σ Q:=by
 intro pf an c hc
 cases c with
 | seq x y=>
  simp only[bh3] at hc;split at hc
  ·rename_i xa xb hx hy;cases hc;refine jl8 ((h pf an x hx).mono ?_);intro e f s q
   cases e with
   | normal=>exact q pf an y hy
   | _=>exact q
  ·cases hc
 | region id ops draw=>
  exfalso;simp only[bh3] at hc;split at hc
  ·cases hc
  ·split at hc<;>first|(cases hc;done)|(split at hc<;>cases hc)
  ·cases hc
 | cond c a b=>simp only[bh3] at hc;split at hc<;>cases hc
 | block id a=>obtain ⟨_,_,h⟩:=map_some hc;cases h
 | scope a=>obtain ⟨_,_,h⟩:=map_some hc;cases h
 | loop a=>obtain ⟨_,_,h⟩:=map_some hc;cases h
 | rangeFunc g ps a b=>
  simp only[bh3] at hc;split at hc
  ·split at hc<;>cases hc
  ·cases hc
 | _=>cases hc
theorem id3 {f:Nat}{ic:IC}{irs:List IR}{args:List IV}{Qc:IV->Store->Prop}(hf:FOK P f (N,ic,irs))(hl:args.length<=N)
  (h:RI P E N σ.next ic (bl9 args 0) σ (gr4 irs Qc)):C P E f args σ Qc:=by
 obtain ⟨_,pf,an,fn,h1,h2,h3,h4⟩:=hf
 cases hb:fn.body with
 | none=>rw[hb] at h3;cases h3
 | some c=>
  rw[hb] at h3;refine jp7 h1 hb h2 hl ((h pf an c h3).mono ?_);intro e fr' σ' q;have q:=dm2 q;cases e<;>first|(obtain ⟨vs,q1,q2⟩:=q;exact ⟨vs,by rw[ir3 _ _ h4];exact q1,q2⟩)|exact q
theorem jq1 {f:Nat}{ic:IC}{irs:List IR}{args:List IV}{v:IV}(hE:∀g,Bnd 0 (E g))(hf:FOK P f (N,ic,irs))(hl:args.length<=N)(ha:∀a∈args,Bnd 0 a)
  (h:RI P E N 0 ic (bl9 args 0) emp (gr4 irs λv' σ'=>cb5 σ' 0 v' v)):PC P E f args v :=
 fg6 hE ha (id3 (σ:=emp) hf hl h)
theorem fu3 {S:Nat->Bool}:(σ.kills S).next=σ.next:=nr rfl
theorem gr3 {S:Nat->Bool}{i:Nat}:(σ.kills S).obj i=if S i=true then σ.obj i else zd:=nr rfl
attribute [go_sem] fu3 gr3
theorem ev5 {f:Nat}{args args':List IV}{v:IV}(hl:args'.length=args.length)(ha:∀σ i,i<args.length->Frz σ (λ_=>true=true) (args.getD i .undef) (args'.getD i .undef))(h:PC P E f args' v):PC P E f args v:=λσ=>
 el3 (S:=λ_=>true) hl (ha σ) (h σ)
end Go.Id
namespace Go.Id
open Go
variable {P:Program} {E:Nat->IV} {σ σ':Store} {N n0:Nat} {fr:Frm}
end Go.Id
set_option linter.all false
namespace Go.Id
open Go
theorem av5 {P:Program}{E:Nat->IV}{N n0:Nat}{fr:Frm}{σ:Store}{x:IC}{Q:Exit->Frm->Store->Prop}(I:Nat->Frm->Store->Prop)(n:Nat)(h:I 0 fr σ)
  (hI:∀i fr σ,i<=n->I i fr σ->RI P E N n0 x fr σ (upQ I i n Q)):RI P E N n0 (.loop x) fr σ Q:=by
 refine ie3 (λm fr σ=>∃i,i<=n/\m=n-i/\I i fr σ) n ⟨0,Nat.zero_le _,rfl,h⟩ ?_;rintro m fr σ ⟨i,hi,rfl,hi0⟩;refine an3 (hI i fr σ hi hi0) ?_;intro e f s q
 cases e with
 | normal=>exact ⟨n-(i+1),by have:=q.1;omega,i+1,q.1,rfl,q.2⟩
 | _=>exact q
section
theorem gm8 {s:Store}{v:IV}{esz nid:Nat}{es xs:List (List IV)}(hg:Grow s v esz es)(h:∀x∈es,x.length=esz/\x.all IV.leaf=true)(hx:∀x∈xs,x.length=esz/\x.all IV.leaf=true)(hn:es.length+xs.length<=2147483648) :
  (xs=[]/\as2 s nid esz v (.aa3 xs)=za (v,s))\/as2 s nid esz v (.aa3 xs)=za (.slice nid 0 (es.length+xs.length) esz,(ae9 v s).put nid (.row (es++xs).flatten)):=by
 have hsrc:bx4 s esz (.aa3 xs)=za (xs.length,xs.flatten):=by
  have h1:xs.all (λe=>e.length==esz)=true:=List.all_eq_true.2 λx hm=>by rw[(hx x hm).1];simp
  simp only[bx4,h1,if_true]
 have hl:xs.flatten.all IV.leaf=true:=cd1 λx hm=>(hx x hm).2
 have hl2:es.flatten.all IV.leaf=true:=cd1 λx hm=>(h x hm).2
 have hfl:es.flatten.length=es.length*esz:=bl6 λx hm=>(h x hm).1
 have hn2:xs.length<=2147483648:=by omega
 by_cases h0:xs.length=0
 ·have hxe:xs=[]:=zi.1 h0;subst hxe;refine .inl ⟨rfl,?_⟩;unfold as2;rw[hsrc];rcases hg with ⟨rfl,rfl⟩|⟨id,rfl,ho,hid⟩
  ·simp
  ·simp[ho]
 ·refine .inr ?_;unfold as2;rw[hsrc];rcases hg with ⟨rfl,rfl⟩|⟨id,rfl,ho,hid⟩
  ·simp[hl,h0,hn2,ae9]
  ·simp[hl,ho,h0,hfl,hl2,hn,ae9]
theorem ej3 {s:Store}{v:IV}{esz nid:Nat}{es xs:List (List IV)}(hg:Grow s v esz es)(h:∀x∈es,x.length=esz/\x.all IV.leaf=true)(hx:∀x∈xs,x.length=esz/\x.all IV.leaf=true)(hn:es.length+xs.length<=2147483648)(hnid:nid<s.next) :
  ∃v' s',as2 s nid esz v (.aa3 xs)=za (v',s')/\s'.next=s.next/\Grow s' v' esz (es++xs)/\(∀i,i≠nid->(∀k,v≠.slice i 0 k esz)->s'.obj i=s.obj i)/\(v'=v\/v'=.slice nid 0 (es.length+xs.length) esz):=by
 rcases gm8 (nid:=nid) hg h hx hn with ⟨rfl,h1⟩|h1
 ·exact ⟨v,s,h1,rfl,by rw[List.append_nil];exact hg,λ_ _ _=>rfl,.inl rfl⟩
 ·refine ⟨_,_,h1,by rw[aa8,ab7],.inr ⟨nid,by rw[List.length_append],by rw[aa5,if_pos rfl],by rw[aa8,ab7];exact hnid⟩,λi hi hv=>?_,.inr rfl⟩;rw[aa5,if_neg hi];rcases hg with ⟨rfl,_⟩|⟨id,rfl,_,_⟩
  ·rfl
  ·show (if i=id then zd else s.obj i)=_;rw[if_neg λe=>hv _ (by rw[e])]
end
end Go.Id
set_option linter.all false
namespace Go.Id
open Go
variable {P:Program} {E:Nat->IV} {σ σ':Store} {N n0:Nat} {fr:Frm}
def dy7 (P:Program)(E:Nat->IV)(base:Nat):List YO->Frm->Store->(Frm->Store->Prop)->Prop
 | [],fr,σ,K=>K fr σ
 | (i,o,m)::rest,fr,σ,K=>(m=0/\o.guard=zd)/\opT noP noC P E o.op (base+i) fr σ λv σ'=>dy7 P E base rest (fr.ap3 o.dst v) σ' K
def iy5 (P:Program)(E:Nat->IV)(base:Nat)(rest:List YO)(d:Option Nat)(fr:Frm)(K:Frm->Store->Prop):IV->Store->Prop:=λv σ'=>dy7 P E base rest (fr.ap3 d v) σ' K
theorem eu8 {base:Nat}{K:Frm->Store->Prop}:∀(ops:List YO) (L:List LE) (fr:Frm) (σ:Store),dy7 P E base ops fr σ K->ax3 P E (iq2 base ops) L fr σ K:=by
 intro ops
 induction ops with
 | nil=>intro L fr σ h;exact h
 | cons o os ih=>
  obtain ⟨i,⟨d,g,op⟩,m⟩:=o;rintro L fr σ ⟨⟨hm,hg⟩,h⟩;simp only at hm hg h;subst hm;subst hg;refine .inl ⟨rfl,am7 (λv s k=>⟨bp1,ih _ _ _ k⟩) (bp4 noT h)⟩
theorem hz6 {id:Nat}{ops:List YO}{keep:List Nat}{Q:Exit->Frm->Store->Prop}(h:dy7 P E σ.next ops fr ⟨σ.next+ops.length,σ.obj⟩ (ie1 keep Q)):RI P E N n0 (.hw9 id ops keep) fr σ Q :=
 ad6 (show wpT noP noC P E N n0 (.hw9 id ops keep) fr σ Q from eu8 ops [] fr _ h)
variable {base i:Nat} {Kf:Frm->Store->Prop} {d:Option Nat} {rest:List YO}
theorem ks5:dy7 P E base [] fr σ Kf=Kf fr σ:=nr rfl
theorem ks6 {op:IK}:dy7 P E base ((i,⟨d,zd,op⟩,0)::rest) fr σ Kf=opT noP noC P E op (base+i) fr σ (iy5 P E base rest d fr Kf):=by
 simp[dy7];rfl
theorem ks7 {d:Nat}(v:IV):iy5 P E base rest (za d) fr Kf v σ=dy7 P E base rest ((d,v)::fr) σ Kf:=nr rfl
theorem kb9 (v:IV):iy5 P E base rest zd fr Kf v σ=dy7 P E base rest fr σ Kf:=nr rfl
theorem kc1:List.length ([]:List YO)=0:=nr rfl
theorem kc2 {y:YO}:List.length (y::rest)=rest.length+1:=nr rfl
attribute [go_sem] ks5 ks6 ks7 kb9 kc1 kc2
end Go.Id
set_option linter.all false
namespace Go.Id
open Go Go.Sort
variable {P:Program} {w w':World} {ρ ρ':Rho} {E:Nat->IV} {σ:Store}
theorem dc6 (n k:Nat):Ext n ρ w ρ (Sort.ahead w k):=⟨ze _,λ_ _=>rfl,λ_ r _ _ h=>⟨r,h,rfl⟩,λi B d h=>.inl ⟨i,d,h⟩,λ_ _ _ h=>.inl h,λ_ h=>h,λ_ _ h=>h,rfl,rfl,⟨rfl,Nat.le_add_right _ _⟩,λ_ L h=>⟨L,h⟩,rfl⟩
theorem gr1 (hs:Sim E ρ w σ)(k:Nat):Sim E ρ (Sort.ahead w k) σ :=
 ⟨hs.inj,hs.lt,λi B d h=>let ⟨o,h1,h2⟩:=hs.obj i B d h;⟨o,h1,h2.mono (dc6 0 k) rfl⟩,hs.dead,hs.fresh,hs.av3,λg=>(hs.env g).mono (dc6 0 k),hs.nx,hs.xlt⟩
theorem ea7 (w:World)(os:Array Obj){b:Nat}(h:b<w.heap.size):(Sort.grow w os).heap[b]? = w.heap[b]?:=by
 show (w.heap++os)[b]? = _;rw[Array.getElem?_append_left h]
theorem gr2 {b:Nat}{o:Obj}(h:w.heap[b]? = za o):b<w.heap.size:=(Array.getElem?_eq_some_iff.1 h).1
theorem cd7 (n:Nat)(os:Array Obj):Ext n ρ w ρ (Sort.grow w os):=
 ⟨by show _<=(w.heap++os).size;simp,λb h=>ea7 w os h.1,λb r el fz h=>⟨r,by rw[ea7 w os (gr2 h)];exact h,rfl⟩,λi B d h=>.inl ⟨i,d,h⟩,λ_ _ _ h=>.inl h,λ_ h=>h,λ_ _ h=>h,rfl,rfl,⟨rfl,ze _⟩,λl L h=>⟨L,by rw[ea7 w os (gr2 h)];exact h⟩,rfl⟩
theorem ic1 (hs:Sim E ρ w σ)(os:Array Obj):Sim E ρ (Sort.grow w os) σ :=
 ⟨hs.inj,λi B d h=>zk (hs.lt i B d h) (cd7 (ρ:=ρ) 0 os).size,λi B d h=>let ⟨o,h1,h2⟩:=hs.obj i B d h;⟨o,h1,h2.mono (cd7 0 os) (ea7 w os (hs.lt i B d h))⟩,hs.dead,hs.fresh,hs.av3,λg=>(hs.env g).mono (cd7 0 os),hs.nx,λb h=>zk (hs.xlt b h) (cd7 (ρ:=ρ) (w:=w) 0 os).size⟩
theorem putRow_set {α:Type}[Inhabited α](enc:α->Value)(w:World)(B off:Nat)(d:Array α){rcs:Array Value}{el:TypeId}{fz:Nat×Nat}(h:w.heap[B]? = za (.cells rcs el fz)) :
  Sort.putRow enc w B off d=w.setRow B (Sort.putCells enc off d rcs):=by
 unfold Sort.putRow Sort.mapBlock World.setRow;congr 1;apply Array.ext_getElem?;intro k;simp only[Array.getElem?_modify];by_cases hk:B=k
 ·subst hk;simp only[if_true,h,Option.map_some,Sort.onCells]
 ·simp[hk]
theorem ja5 {α:Type}[Inhabited α]{enc:α->Value}{en:α->IV}{srt:List α->List α}{f:Nat}
  (hv:∀(ρ:Rho) (w:World) (x:α),VR ρ w (en x) (enc x)) (hinv:∀(ρ:Rho) (w:World) (x:α) (r:Value),VR ρ w (en x) r->r=enc x)
  (hl:∀l,(srt l).length=l.length) (h0:srt []=[])
  (hk:∀(blk off cap:Nat) (zs:List α) (w:World),Sort.Holds enc w blk off zs.toArray->blk<w.heap.size->zs.length<4611686018427387904->Calls P f #[.slice (za ⟨blk,off,zd⟩) zs.length cap] w λe w'=>
   e=.returned (.tuple #[])/\∃n os,w'=Sort.grow (Sort.putRow enc (Sort.ahead w n) blk off (srt zs).toArray) os)
  (hn:∀(p:Option Addr) (cap:Nat) (w:World),Calls P f #[.slice p 0 cap] w λe w'=>e=.returned (.tuple #[])/\w'=w)
  {id:Nat} {zs:List α} (hz:zs.length<4611686018427387904) (ho:σ.obj id=za (.row (zs.map en))) :
  C P E f [.slice id 0 zs.length 1] σ λv s=>v=.tuple []/\s=σ.put id (.row ((srt zs).map en)):=by
 intro ρ w rargs hs hr;obtain ⟨hr1,hr2⟩:=hr;have hv0:=hr2 0 (by simp);obtain ⟨al⟩:=rargs
 match al,hr1,hv0 with
 | [r],_,hv0=>
  have hv0:VR ρ w (.slice id 0 zs.length 1) r:=hv0
  have empty:∀(p:Option Addr) (cap:Nat),r=.slice p 0 cap->zs.length=0->CallsIn Fence.wide 0 P f #[r] w λe w'=>∃v r ρ' σ',e=.returned r/\(v=IV.tuple []/\σ'=σ.put id (.row ((srt zs).map en)))/\Sim E ρ' w' σ'/\VR ρ' w' v r/\bg5 σ.next ρ w ρ' w':=by
   intro p cap er hz0;have hz0:zs=[]:=zi.1 hz0;subst hz0;rw[er];refine callsIn_wide.2 ((hn p cap w).mono ?_);rintro e w' ⟨rfl,rfl⟩
   have hput:σ.put id (.row (([]:List α).map en))=σ:=by
    unfold Store.put;congr 1;funext i;by_cases h:i=id
    ·subst h;simpa using ho.symm
    ·simp[h]
   exact ⟨.tuple [],_,ρ,σ,rfl,⟨rfl,by rw[h0];exact hput.symm⟩,hs,.tuple [] #[] rfl (λi hi=>by simp at hi),bg5.refl _ _ _⟩
  by_cases hz0:zs.length=0
  ·rw[hz0] at hv0
   cases hv0 with
   | slice _ _ _ _ B d cap rcs el fz hid hb hsz hle=>exact empty _ _ rfl hz0
   | am6 _ _ _ B d a hid=>exact empty _ _ rfl hz0
   | al5 _ _ _ _ cap ad hid hle=>exact empty _ _ rfl hz0
  ·obtain ⟨m,hm⟩:∃m,m=zs.length:=⟨_,rfl⟩;rw[<- hm] at hv0
   cases hv0 with
   | slice _ _ _ _ B d cap rcs el fz hid hb hsz hle=>
    subst hm;obtain ⟨o,h1,h2⟩:=hs.obj id B d hid;rw[ho] at h1;cases h1;obtain ⟨rcs',el',hb',hsz',hvs⟩:=h2;rw[hb] at hb';cases hb';rw[zc] at hsz' hvs
    have hcell:∀j (h:j<zs.length),rcs[d+j]? = za (enc zs[j]):=λj h=>by
     have:=hvs j h;have e1:(zs.map en).getD j .undef=en zs[j]:=by simp[zg,h]
     rw[e1] at this;have:=hinv _ _ _ _ this;have hlt:d+j<rcs.size:=by omega
     rw[ae4 _ _ _ hlt] at this;rw[Array.getElem?_eq_getElem hlt,this]
    have hH:Sort.Holds enc w B (d+0) zs.toArray:=λj hj=>by
     have hj':j<zs.length:=by simpa using hj
     refine ⟨?_,?_⟩
     ·simp only[World.cell?,hb,Option.isSome_none,Bool.false_eq_true,if_false,Nat.add_zero];rw[hcell j hj'];congr 2;rw[getElem!_pos _ j hj];simp
     ·simp[World.frozen?,hb]
    refine callsIn_wide.2 ((hk B (d+0) cap zs w hH (hs.lt id B d hid) hz).mono ?_);rintro e w' ⟨rfl,n,os,rfl⟩;have hba:(Sort.ahead w n).heap[B]? = za (.cells rcs el (0,0)):=hb;rw[putRow_set enc _ B _ _ hba];have hsa:=gr1 hs n;generalize hnew:Sort.putCells enc (d+0) (srt zs).toArray rcs=new;have hnsz:new.size=rcs.size:=by rw[<- hnew];simp[Sort.putCells]
    have hx1:∀m,Ext m ρ (Sort.ahead w n) ρ ((Sort.ahead w n).setRow B new):=λm=>ax1 (n:=m) (new:=new) hid hba hnsz
    have hs1:Sim E ρ ((Sort.ahead w n).setRow B new) (σ.put id (.row ((srt zs).map en))):=by
     refine bs2 hsa hid hba hnsz ⟨new,el,setRow_heap _ B rcs new el (0,0) hba,?_,λk hk'=>?_⟩
     ·rw[hnsz,zc,hl];exact hsz'
     ·rw[zc,hl] at hk';have hlt:d+k<rcs.size:=by omega
      have hks:k<(srt zs).length:=by rw[hl];exact hk'
      have e1:((srt zs).map en).getD k .undef=en (srt zs)[k]:=by simp[zg,hks]
      have e2:new.getD (d+k) undef=enc (srt zs)[k]:=by
       rw[<- hnew];rw[ae4 _ _ _ (by simpa [Sort.putCells] using hlt)];have c1:d+0<=d+k/\d+k<d+0+(srt zs).toArray.size:=by simp;omega
       simp only[Sort.putCells,Array.getElem_mapIdx,c1,and_self,if_true];congr 1;rw[getElem!_pos _ _ (by simp;omega)];simp
      rw[e1,e2];exact hv _ _ _
    exact ⟨.tuple [],_,ρ,_,rfl,⟨rfl,rfl⟩,ic1 hs1 os,.tuple [] #[] rfl (λi hi=>by simp at hi),(((dc6 σ.next n).trans (hx1 σ.next) (ze _)).trans (cd7 σ.next os) (ze _)).weak (ze _)⟩
   | am6=>exact absurd hm.symm hz0
   | al5 _ _ _ _ cap ad hid hle=>rw[hs.dead id hid] at ho;cases ho
end Go.Id
set_option linter.all false
namespace Go.Id
open Go
variable {P:Program} {E:Nat->IV} {σ σ':Store}
def id4 (f:IV->IV->Bool):List (IV×IV)->List (IV×IV)->Bool
 | [],y=>match y with
  | []=>true
  | _=>false
 | a::aZ,y=>match y with
  | b::bs=>f a.1 b.1&&f a.2 b.2&&id4 f aZ bs
  | _=>false
theorem id5 {f:IV->IV->Bool}(hf:∀a b,f a b=true->a=b):∀x y,id4 f x y=true->x=y:=by
 intro x
 induction x with
 | nil=>intro y h;cases y with
  | nil=>rfl
  | cons b y=>cases h
 | cons a x ih=>intro y h;cases y with
  | nil=>cases h
  | cons b y=>
   obtain ⟨a1,a2⟩:=a;obtain ⟨b1,b2⟩:=b;simp only[id4,zb] at h;rw[hf _ _ h.1.1,hf _ _ h.1.2,ih y h.2]
def ek7:Nat->IV->IV->Bool
 | 0,_,_=>false
 | n+1,a,b=>match a with
  | .al4 x=>match b with
   | .al4 y=>id4 (ek7 n) x y
   | _=>false
  | .ab8 x=>match b with
   | .ab8 y=>dc4 (ek7 n) x y
   | _=>false
  | .aa3 x=>match b with
   | .aa3 y=>ej9 (ek7 n) x y
   | _=>false
  | .agg x=>match b with
   | .agg y=>dc4 (ek7 n) x y
   | _=>false
  | .tuple x=>match b with
   | .tuple y=>dc4 (ek7 n) x y
   | _=>false
  | a=>ia7 (n+1) a b
theorem id6:∀(n:Nat) (a b:IV),ek7 n a b=true->a=b:=by
 intro n
 induction n with
 | zero=>intro a b h;cases h
 | succ n ih=>
  intro a b h
  cases a with
  | al4 x=>cases b with
   | al4 y=>rw[id5 ih _ _ h]
   | _=>cases h
  | ab8 x=>cases b with
   | ab8 y=>rw[bl8 ih _ _ h]
   | _=>cases h
  | aa3 x=>cases b with
   | aa3 y=>rw[ek1 ih _ _ h]
   | _=>cases h
  | agg x=>cases b with
   | agg y=>rw[bl8 ih _ _ h]
   | _=>cases h
  | tuple x=>cases b with
   | tuple y=>rw[bl8 ih _ _ h]
   | _=>cases h
  | _=>exact ja2 (n+1) _ _ h
def wkL (f:IV->IV->Bool):List IV->List IV->Bool
 | [],y=>match y with
  | []=>true
  | _=>false
 | a::aZ,y=>match y with
  | b::bs=>f a b&&wkL f aZ bs
  | _=>false
theorem bf1 {f:IV->IV->Bool}:∀x y,wkL f x y=true->y.length=x.length/\∀i,i<x.length->f (x.getD i .undef) (y.getD i .undef)=true:=by
 intro x
 induction x with
 | nil=>intro y h;cases y with
  | nil=>exact ⟨rfl,λi hi=>absurd hi (zf _)⟩
  | cons b y=>cases h
 | cons a x ih=>intro y h;cases y with
  | nil=>cases h
  | cons b y=>
   simp only[wkL,zb] at h;obtain ⟨h1,h2⟩:=ih y h.2;refine ⟨by simp[h1],λi hi=>?_⟩
   cases i with
   | zero=>exact h.1
   | succ i=>exact h2 i (by simpa using hi)
def wkR (f:IV->IV->Bool):List (List IV)->List (List IV)->Bool
 | [],y=>match y with
  | []=>true
  | _=>false
 | a::aZ,y=>match y with
  | b::bs=>wkL f a b&&wkR f aZ bs
  | _=>false
theorem id7 {f:IV->IV->Bool}:∀x y,wkR f x y=true->y.length=x.length/\∀i,i<x.length->wkL f (x.getD i []) (y.getD i [])=true:=by
 intro x
 induction x with
 | nil=>intro y h;cases y with
  | nil=>exact ⟨rfl,λi hi=>absurd hi (zf _)⟩
  | cons b y=>cases h
 | cons a x ih=>intro y h;cases y with
  | nil=>cases h
  | cons b y=>
   simp only[wkR,zb] at h;obtain ⟨h1,h2⟩:=ih y h.2;refine ⟨by simp[h1],λi hi=>?_⟩
   cases i with
   | zero=>exact h.1
   | succ i=>exact h2 i (by simpa using hi)
def wkB:Nat->IV->IV->Bool
 | 0,_,_=>false
 | n+1,a,b=>match a with
  | .aa1=>match b with
   | .aa3 y=>match y with
    | []=>true
    | _=>false
   | .aa1=>true
   | _=>false
  | .aa3 x=>match b with
   | .aa3 y=>wkR (wkB n) x y
   | _=>false
  | .agg x=>match b with
   | .agg y=>wkL (wkB n) x y
   | _=>false
  | .ab8 x=>match b with
   | .ab8 y=>wkL (wkB n) x y
   | _=>false
  | a=>au3 (n+1) a&&ek7 (n+1) a b
theorem ja6:∀(n:Nat) (a b:IV),wkB n a b=true->∀(σ:Store) (S:Nat->Prop),Frz σ S a b:=by
 intro n
 induction n with
 | zero=>intro a b h;cases h
 | succ n ih=>
  intro a b h σ S
  have eqc:∀a b:IV,(au3 (n+1) a&&ek7 (n+1) a b)=true->Frz σ S a b:=λa b h=>by
   simp only[zb] at h;rw[<- id6 _ _ _ h.2];exact .keep _ ((ax4 _ _ h.1).weak λi hi=>absurd hi (zf _))
  cases a with
  | aa1=>cases b with
   | aa3 y=>cases y with
    | nil=>exact .bz3
    | cons _ _=>cases h
   | aa1=>exact .keep _ .aa1
   | _=>cases h
  | aa3 x=>cases b with
   | aa3 y=>
    obtain ⟨h1,h2⟩:=id7 _ _ h
    exact .aa3 _ _ h1 (λi hi=>(bf1 _ _ (h2 i hi)).1) λi hi j hj=>ih _ _ ((bf1 _ _ (h2 i hi)).2 j hj) σ S
   | _=>cases h
  | agg x=>cases b with
   | agg y=>exact .agg _ _ (bf1 _ _ h).1 λi hi=>ih _ _ ((bf1 _ _ h).2 i hi) σ S
   | _=>cases h
  | ab8 x=>cases b with
   | ab8 y=>exact .ab8 _ _ (bf1 _ _ h).1 λi hi=>ih _ _ ((bf1 _ _ h).2 i hi) σ S
   | _=>cases h
  | _=>exact eqc _ _ h
theorem ja7 {f:Nat}{args args':List IV}{v:IV}(hw:wkL (wkB 1000) args args'=true)(h:PC P E f args' v):PC P E f args v :=
 ev5 (bf1 _ _ hw).1 (λσ i hi=>ja6 1000 _ _ ((bf1 _ _ hw).2 i hi) σ _) h
end Go.Id
set_option linter.all false
namespace Go.Id
open Go
variable {H:Type} {enc:TypeId×Value->H} {P:Program} {w:World} {base:Nat} {sp:Nat->Bool} {held:Bool}
def Rdg (enc:TypeId×Value->H)(P:Program)(w:World)(base:Nat)(sp:Nat->Bool)(held:Bool)(n:Nat)(t:TypeId)(d:DataW H):Prop :=
 ∃cs ps,DataW.trod enc P w base sp held n t cs=za (d,ps)
def WT (P:Program)(t:TypeId)(d:DataW H):Prop:=∀k∈d.weights P t,k<=reachBytes
theorem bp8 {n:Nat}{t:TypeId}{d:DataW H}{k:IntKind}(hu:P.underlying t=za (.int k))(h:Rdg enc P w base sp held n t d):∃z,d=.lit (.int k z)/\(Lit.int k z).wf=true/\∀m,n<=m->dv P m t d=za [.int k z]:=by
 obtain ⟨cs,ps,h⟩:=h;have hn:n≠0:=λe=>by subst e;simp[DataW.trod] at h
 obtain ⟨z,rfl,hx,hw⟩:=DataW.trod_int hu h;cases hx;refine ⟨z,rfl,hw,λm hm=>?_⟩
 cases m with
 | zero=>omega
 | succ m=>simp only[dv,hu]
theorem dd5 {n:Nat}{t:TypeId}{d:DataW H}(hu:P.underlying t=za .string)(h:Rdg enc P w base sp held n t d)(hw:WT P t d):∃s:List UInt8,s.length<2^62/\∀m,n<=m->dv P m t d=za [.str s]:=by
 obtain ⟨cs,ps,h⟩:=h;have hn:n≠0:=λe=>by subst e;simp[DataW.trod] at h
 obtain ⟨s,rfl,hx,_⟩:=DataW.trod_string hu h;cases hx;refine ⟨s.data.toList,?_,λm hm=>?_⟩
 ·have:=hw s.data.toList.length (by simp[DataW.weights]);have:=reachBytes_lt;omega
 ·cases m with
  | zero=>omega
  | succ m=>simp only[dv,hu]
theorem av6 {n:Nat}{t:TypeId}{d:DataW H}{fs:Array Field}(hu:P.underlying t=za (.struct fs))(h:Rdg enc P w base sp held n t d)(hw:WT P t d) :
  ∃n' ds,n=n'+1/\d=.agg ds/\ds.length=fs.size/\∀(i:Nat) (f:Field) (d':DataW H),fs[i]? = za f->ds[i]? = za d'->Rdg enc P w base sp held n' f.type d'/\WT P f.type d':=by
 obtain ⟨cs,ps,h⟩:=h;obtain ⟨xs,n',rfl,hx,_,hl,hf⟩:=DataW.trod_struct hu h;cases hx;refine ⟨n',xs.map (·.1),rfl,rfl,by rw[zc,hl],λi f d' h1 h2=>⟨?_,λk hk=>?_⟩⟩
 ·rw[zl] at h2
  cases hxi:xs[i]? with
  | none=>rw[hxi] at h2;cases h2
  | some x=>
   rw[hxi] at h2;cases h2;exact ⟨_,x.2,by rw[hf i f h1,hxi]⟩
 ·refine hw k ?_;simp only[DataW.weights,hu];exact DataW.weights_mem_each (j:=i) (t:=f.type) (d:=d') (by rw[zl];simp[h1]) h2 k hk
theorem dj3 {e:TypeId}{k:Nat}:∀ {l:List (DataW H)} {d:DataW H},d∈l->k∈d.weights P e->k∈DataW.weightsAll P e l:=by
 intro l
 induction l with
 | nil=>intro d h;cases h
 | cons x xs ih=>
  intro d h hk;simp only[DataW.weightsAll,List.mem_append];rcases zh.1 h with rfl|h
  ·exact .inl hk
  ·exact .inr (ih h hk)
theorem bb3 {α:Type}{n:Nat}{t e:TypeId}{d:DataW H}{c:Nat}(f:α->List IV)(ok:α->Prop)(hu:P.underlying t=za (.slice e))(hc:P.cellsOf e=c)(hc0:c≠0)(hb:1<=P.bytesOf e)(hl:∀a,(f a).length=c)
  (ih:∀n' d',n'<n->Rdg enc P w base sp held n' e d'->WT P e d'->∃a,ok a/\∀m,n'<=m->dv P m e d'=za (f a))
  (h:Rdg enc P w base sp held n t d) (hw:WT P t d):∃l:List α,l.length<2^62/\(∀a∈l,ok a)/\∀m,n<=m->dv P m t d=za [.aa3 (l.map f)]:=by
 obtain ⟨cs,ps,h⟩:=h;have hn:n≠0:=λe=>by subst e;simp[DataW.trod] at h
 rcases DataW.trod_slice hu h with ⟨rfl,hx⟩|⟨a,len,cap,elems,rest,n',rfl,rfl,hx,_,_,_,hlen,hel,_,_⟩
 ·cases hx;refine ⟨[],by simp,λa ha=>(by cases ha),λm hm=>?_⟩
  cases m with
  | zero=>omega
  | succ m=>simp only[dv,hu];rfl
 ·cases hx
  have hsz:elems.length<2^62:=by
   have h1:=hw ((elems.length+rest.length)*P.bytesOf e) (by simp[DataW.weights,hu]);have h2:(elems.length+rest.length)*1<=(elems.length+rest.length)*P.bytesOf e:=Nat.mul_le_mul_left _ hb;have:=reachBytes_lt;omega
  have hel':∀x∈elems,Rdg enc P w base sp held n' e x.1:=by
   intro x hx;obtain ⟨i,hi,he⟩:=List.mem_iff_getElem.1 hx;have h1:=hel i (by omega);rw[List.getElem?_eq_getElem hi,he] at h1;obtain ⟨ci,_,h2⟩:=Option.bind_eq_some_iff.1 h1;exact ⟨ci,x.2,h2⟩
  have hwe:∀x∈elems,WT P e x.1:=by
   intro x hx k hk;refine hw k ?_;simp only[DataW.weights,hu,zh,List.mem_append];exact .inr (.inl (dj3 (List.mem_map_of_mem (f:=λx:DataW H×List MemPlace=>x.1) hx) hk))
  have key:∀ys:List (DataW H×List MemPlace),(∀x∈ys,x∈elems)->∃l:List α,l.length=ys.length/\(∀a∈l,ok a)/\∀m,n'<=m->dvS (dv P m e) c (ys.map (·.1))=za (l.map f):=by
   intro ys
   induction ys with
   | nil=>intro _;exact ⟨[],rfl,λa ha=>(by cases ha),λm _=>rfl⟩
   | cons y ys ih2=>
    intro hin;obtain ⟨l,l1,l2,l3⟩:=ih2 λx hx=>hin x (List.mem_cons_of_mem _ hx)
    have hy:=hin y (List.mem_cons_self ..);obtain ⟨a,a1,a2⟩:=ih n' y.1 (Nat.lt_succ_self _) (hel' y hy) (hwe y hy);refine ⟨a::l,by simp[l1],λb hb=>?_,λm hm=>?_⟩
    ·rcases zh.1 hb with rfl|hb
     ·exact a1
     ·exact l2 b hb
    ·simp only[List.map_cons,dvS,a2 m hm,hl a,if_true,l3 m hm]
  obtain ⟨l,l1,l2,l3⟩:=key elems λx hx=>hx
  refine ⟨l,by omega,l2,λm hm=>?_⟩
  cases m with
  | zero=>omega
  | succ m=>
   subst hc;simp only[dv,hu,if_neg hc0,l3 m (by omega)]
end Go.Id
set_option linter.all false
namespace Go.Id.Tryz
open Go Go.Id
def rt:Nat:=0x9c43160b0d0b494794a15d044d440f721b080fa62c082303b243865a774507382a6599024a04250808b1400219598d034d077212364a22035a655265052d16112304632d24086766420548511608b3439a13280115080e05032d1a0242011c08189f5baf0863060700050d0a612d589355314a02554a187a2764160c0831000617080204140840041d4f2c05700345022c060e030004070a844c020a340b1208528c044b43246224515f4003924187a70ba0060a600e2a2d7501616846433347040a11087f6e0e0140061846410245050e028a2d33324b665e4f89916c0113081a782d021a64853604052c026d00170a1859540035001b014007504b08382a2a600a522d084707444318030a084c000e4a0154455b184005692d050a082d55411008562c39373335050602032c04410142001f572d04010e0c0a4001161018020c080e080003080a19461615010a0d080a1a1201383941000a0816490b084e2e0f08160a08410b0a4000334112000908340e000a000108081c0a08403331160e
def q0:RR:=.x (.c .aa1)
def q1:RR:=.k (.cu6 (.t 0))
def q2:RR:=.x (.c .ae3)
def q3:RR:=.k (.cu6 (.t 1))
def q4:RR:=.x (cI (-1))
def q5:RR:=.k (.alloc [.str [],zI 0,.str [],.str [],zU 0,.str [],.aa1,.aa1,.aa1,.aa1,.aa1,.aa1,.aa1,.aa1,.aa1])
def q6:RR:=.k (.alloc [zU 0,.str [],zU 0,zI 0,.str [],.str [],.aa1])
def q7:RR:=.k .ck6
def q8:RR:=.k (.cu6 (.t 2))
def q9:RR:=.k (.alloc [.str [],zU 0,zI 0,.str [],.str []])
def q10:RR:=.k (.st .nev [])
def q11:RR:=.k (.q (.au1 (.pointer 89) false (.t 3)))
def q12:RR:=.k (.q (.neg (.t 32)))
def q13:RR:=.k (.q (.bld [] []))
def q14:RR:=.k (.alloc [zU 0,.str [],zU 0,zI 0,.str [],.str []])
def q15:RR:=.k (.q (.au1 (.pointer 127) false (.t 3)))
def q16:RR:=.k (.alloc [.bool false])
def q17:RR:=.x (.c .ad7)
def q18:RR:=.k (.q (.bld [zU 0,.str []] [⟨0,⟨1,.c (zU 2)⟩⟩]))
def q19:RR:=.k (.q (.bld [zI 0,zI 0,.bool false,zU 0] [⟨0,⟨1,cI 2⟩⟩,⟨1,⟨1,cI 24⟩⟩,⟨2,⟨1,.c (.bool true)⟩⟩,⟨3,⟨1,.c (zU 3)⟩⟩]))
def q20:RR:=.k (.aj3 1 1 [.aa1] [⟨0,⟨1,.t 67⟩⟩])
def q21:RR:=.k (.aj3 1 1 [zI 0] [⟨0,⟨1,.t 38⟩⟩])
def q22:RR:=.k (.q (.au1 (.pointer 111) false (.t 3)))
def q23:RR:=.k (.q (.bld [zI 0,.str [],.str []] []))
def q24:RR:=.k (.alloc [zU 0,.bool false,.aa1,.aa1,zI 0])
def q25:RR:=.k (.aj3 1 1 [.aa1] [⟨0,⟨1,.t 43⟩⟩])
def q26:RR:=.k (.aj3 1 1 [zI 0] [⟨0,⟨1,.t 41⟩⟩])
def q27:RR:=.k (.aj3 1 1 [zI 0] [⟨0,⟨1,.t 20⟩⟩])
def q28:RR:=.k (.aj3 1 1 [zI 0] [⟨0,⟨1,.t 15⟩⟩])
def q29:RR:=.k (.q (.lkp 2 .aa1 false (.t 11) (.t 13)))
def q30:RR:=.k (.q (.au1 (.pointer 154) false (.t 5)))
def q31:RR:=.k (.q (.bld [.str [],zU 0,zI 0,.str [],.str []] [⟨0,⟨1,.t 5⟩⟩,⟨1,⟨1,.c (zU 2)⟩⟩,⟨2,⟨3,.t 6⟩⟩]))
def q32:RR:=.k (.q (.au1 (.pointer 127) true (.t 5)))
def q33:RR:=.k (.aj3 1 2 [zI 0] [⟨0,⟨1,.t 29⟩⟩,⟨1,⟨1,.t 33⟩⟩])
attribute [go_sem] rt q0 q1 q2 q3 q4 q5 q6 q7 q8 q9 q10 q11 q12 q13 q14 q15 q16 q17 q18 q19 q20 q21 q22 q23 q24 q25 q26 q27 q28 q29 q30 q31 q32 q33
end Go.Id.Tryz
