/- The library's sort by a function,walked: the partitions. Conditions: what is compared is answered by a pure function. -/
import Derived.Test.YtcdakaadeghccaaGreatDoorTSUB
import Derived.Sort.LotC
import Derived.Test.YtcdakaadeghccaaGreatDoorGSR
import Derived.Sort.LotD3
import Derived.Sort.AssemblyPlain
import Derived.Test.YtcdakaadeghccaaGreatDoorTSSH
import Derived.Test.YtcdakaadeghccaaGreatDoorMv
import Derived.Test.YtcdakaadeghccaaGreatDoorTSXC
import Derived.Test.YtcdakaadeghccaaGreatDoorTSNC
import Derived.Test.YtcdakaadeghccaaGreatDoorTSPE
open Nat renaming le_add_right→za,le_refl→zb,mul_one→zc,lt_of_lt_of_le→ze,le_trans→zh,zero_le→zv,reduceAdd→zx,not_lt_zero→z4,lt_or_ge→z7
open List renaming map_cons→zd,getD_eq_getElem?_getD→zf,length_append→zi,nil_append→zj,length_nil→zk,map_nil→zl,length_cons→zm,cons_append→zn,mem_cons→zp,length_map→zq,append_nil→zr,mem_cons_self→zt,not_mem_nil→zy,mem_map→zz,length_singleton→z0,drop_length→z3,exists_cons_of_ne_nil→z5,perm_nil→z6,length_filter_le→z8,mem_iff_getElem→z9,mem_cons_of_mem→qa,mem_singleton→qc
open Option renaming some→zg
open Bool renaming and_eq_true→zo,not_false→zu,not_true→zw,false_eq_true→qd
open Array renaming extract_size→qb
set_option linter.all false
set_option maxRecDepth 100000
set_option maxHeartbeats 1000000
private theorem om{P:Prop}(h:P:=by omega):P:=h
namespace Go.Id.Tryz
open Go Go.Id Go.Proofs
section
variable {α:Type} [Inhabited α] (emb:α->Int) (tl:List IV) {cf:α->α->Int} {g:Nat} {first cap:List IV} {id:Nat}
theorem SO.up {d:Array α}{σ u v:Store}(h:SO emb tl id d σ u)(h1:v.obj=u.obj)(h2:u.next<=v.next):SO emb tl id d σ v:=⟨zh h.next h2,fun i hi=>by rw[h1]; exact h.other i hi,by rw[h1]; exact h.row⟩
theorem dw2 {p:α->Bool}{d:Array α}{j i:Nat}(h:i<=j)(hp:p d[i]! = true):Go.Sort.scanUp p d j i=Go.Sort.scanUp p d j (i+1):=by
 rw[Go.Sort.scanUp,if_pos (by simp[h,hp])]
theorem bu5 {p:α->Bool}{d:Array α}{j i:Nat}(h:i<=j->p d[i]! = false):Go.Sort.scanUp p d j i=i:=by
 rw[Go.Sort.scanUp,if_neg];intro hc;simp only[zo,decide_eq_true_eq] at hc;rw[h hc.1] at hc; exact absurd hc.2 (by decide)
theorem cp3 {p:α->Bool}{d:Array α}{j i:Nat}(hi:1<=i)(h:i<=j)(hp:p d[j]! = true):Go.Sort.scanDown p d i j=Go.Sort.scanDown p d i (j-1):=by
 obtain ⟨j',rfl⟩:∃ j',j=j'+1:=⟨j-1,om⟩;rw[Go.Sort.scanDown,if_pos (by simp[h,hp])]; rfl
theorem ba3 {p:α->Bool}{d:Array α}{j i:Nat}(h:i<=j->p d[j]! = false):Go.Sort.scanDown p d i j=j:=by
 cases j with
 | zero=>rfl
 | succ j=>
  rw[Go.Sort.scanDown,if_neg];intro hc;simp only[zo,decide_eq_true_eq] at hc;rw[h hc.1] at hc; exact absurd hc.2 (by decide)
theorem bk1 {P:Program}{E:Nat->IV}{N n0:Nat}{fr:Frm}{σ:Store}{x:IC}{Q:Exit->Frm->Store->Prop}(Qm:Exit->Frm->Store->Prop)(h:RI P E N n0 (.loop x) fr σ Qm)(hm:∀ e f s,Qm e f s->Q e f s):RI P E N n0 (.loop x) fr σ Q:=be1 h hm
theorem bk2 {x y:α}(h:cf x y<0):ltOf cf x y=true:=decide_eq_true h
theorem ay2 {x y:α}(h:¬ cf x y<0):ltOf cf x y=false:=decide_eq_false h
theorem hw9 (hC:cd3 emb cf g first cap){σ:Store}(d:Array α)(a b pv:Nat)(hap:a<=pv)(hpb:pv<b)(hb:b<=d.size)(hz:d.size<2^40)(ho:σ.obj id=zg (.row (bb7 emb tl d))) :
  C Tryz.prog EE 179 [.slice id 0 d.size 1,.int .i64 a,.int .i64 b,.int .i64 pv,.func (.func g) first cap] σ fun v s=>v=.int .i64 (Go.Sort.partitionEqual (ltOf cf) d a b pv).1/\SO emb tl id (Go.Sort.partitionEqual (ltOf cf) d a b pv).2 σ s:=by
 refine C_f fok179 (nZ rfl) ?_;have c2:(0:Int)<=(a:Int):=om
 have c3:(a:Int)<d.size:=om
 have c4:(0:Int)<=(pv:Int):=om
 have c5:(pv:Int)<d.size:=om
 have w0:=ac4 (i:=a) om;have w1:=bl6 (a:=b) om om;obtain ⟨r1,r2,r3,r4,r5⟩:=ak2 emb tl (d:=d) (i:=a) (j:=pv) om om;simp only[ic179,go_sem,c2,c3,c4,c5,w0,w1,ho,r1,r2,r3,r4,r5,zc];unfold Go.Sort.partitionEqual;refine ab1 noT (fun k fr t=>∃ (i j:Nat) (dk:Array α),fr=[(0,.slice id 0 d.size 1),(1,.int .i64 a),(4,.func (.func g) first cap),(11,.int .i64 (i:Int)),(12,.int .i64 (j:Int))]/\SO emb tl id dk σ t/\dk.size=d.size/\a+1<=i/\i<=j+1/\j<b/\k<=i/\Go.Sort.partEqLoop (ltOf cf) a i j dk=Go.Sort.partEqLoop (ltOf cf) a (a+1) (b-1) (Go.Sort.swp d a pv)) (b+1) ⟨a+1,b-1,_,rfl,⟨?_,fun m hm=>?_,?_⟩,by rw[swp_size],om,om,om,zv _,rfl⟩ ?_
 ·first|omega|(simp only[aa7]; omega)
 ·simp only[aa5,hm,if_false]
 ·simp only[aa5,if_true]
 rintro k fr t hk ⟨i,j,dk,rfl,hS,hsz,hai,hij,hjb,hki,hI⟩;simp only[go_sem]
 -- up
 refine bk1 (fun e f s=>e=.exit 2/\∃ i2:Nat,f=[(0,.slice id 0 d.size 1),(1,.int .i64 a),(4,.func (.func g) first cap),(11,.int .i64 (i2:Int)),(12,.int .i64 (j:Int)),(47,.bool false)]/\SO emb tl id dk σ s/\t.next<=s.next/\i2=Go.Sort.scanUp (fun x=>!ltOf cf dk[a]! x) dk j i)
  (ab1 noT (fun k2 fr u=>∃ i2:Nat,fr=[(0,.slice id 0 d.size 1),(1,.int .i64 a),(4,.func (.func g) first cap),(11,.int .i64 (i2:Int)),(12,.int .i64 (j:Int))]/\SO emb tl id dk σ u/\t.next<=u.next/\i2=i+k2/\i2<=j+1/\Go.Sort.scanUp (fun x=>!ltOf cf dk[a]! x) dk j i2=Go.Sort.scanUp (fun x=>!ltOf cf dk[a]! x) dk j i) (j+1-i) ⟨i,rfl,hS,zb _,rfl,hij,rfl⟩ ?_) ?_
 ·rintro k2 fr u hk2 ⟨i2,rfl,hS,htn,hi2,hi2j,hI2⟩;have xa:=ak1 emb tl (d:=dk) (k:=a) om;by_cases hle:i2<=j
  ·have d1:(i2:Int)<=(j:Int):=om
   have d2:(0:Int)<=(i2:Int):=om
   have d3:(i2:Int)<d.size:=om
   have w2:=ac4 (i:=i2) om;have xi:=ak1 emb tl (d:=dk) (k:=i2) om;have hc:=hC.pc dk[a]! dk[i2]!;simp only[go_sem,d1,d2,d3,c2,c3,hS.row,xa,xi,zc];refine am8 hC.ok hc ?_;by_cases hcf:cf dk[a]! dk[i2]! < 0
   ·have hst:=bu5 (p:=fun x=>!ltOf cf dk[a]! x) (d:=dk) (i:=i2) (j:=j) (fun _=>by simp only[bk2 hcf,zw]);simp only[go_sem,hcf];exact ⟨i2,rfl,hS.up emb tl rfl (za _ _),zh htn (za _ _),by rw[<- hI2,hst]⟩
   ·have hst:=dw2 (p:=fun x=>!ltOf cf dk[a]! x) (d:=dk) hle (by simp only[ay2 hcf,zu]);simp only[go_sem,hcf,w2];exact ⟨om,i2+1,rfl,hS.up emb tl rfl (za _ _),zh htn (za _ _),om,om,by rw[<- hI2,hst]⟩
  ·have d1:¬ (i2:Int)<=(j:Int):=om
   have hst:=bu5 (p:=fun x=>!ltOf cf dk[a]! x) (d:=dk) (i:=i2) (j:=j) (fun h=>absurd h hle);simp only[go_sem,d1];exact ⟨i2,rfl,hS.up emb tl rfl (za _ _),zh htn (za _ _),by rw[<- hI2,hst]⟩
 rintro e f u ⟨rfl,i2,rfl,hS,htn,hi2⟩;obtain ⟨g1,g2,_,_⟩:=Go.Sort.scanUp_spec (fun x=>!ltOf cf dk[a]! x) dk j _ i rfl;have g2:=g2 hij;simp only[go_sem]
 -- down
 refine bk1 (fun e f s=>e=.exit 4/\∃ j2:Nat,f=[(0,.slice id 0 d.size 1),(1,.int .i64 a),(4,.func (.func g) first cap),(11,.int .i64 (i2:Int)),(12,.int .i64 (j2:Int)),(65,.bool false)]/\SO emb tl id dk σ s/\u.next<=s.next/\j2=Go.Sort.scanDown (fun x=>ltOf cf dk[a]! x) dk i2 j)
  (ab1 noT (fun k2 fr v=>∃ (j2:Nat) (rst:Frm),fr=(0,.slice id 0 d.size 1)::(1,.int .i64 a)::(4,.func (.func g) first cap)::(11,.int .i64 (i2:Int))::(12,.int .i64 (j2:Int))::rst/\SO emb tl id dk σ v/\u.next<=v.next/\j2+k2=j/\i2<=j2+1/\Go.Sort.scanDown (fun x=>ltOf cf dk[a]! x) dk i2 j2=Go.Sort.scanDown (fun x=>ltOf cf dk[a]! x) dk i2 j) (j+1) ⟨j,_,rfl,hS,zb _,rfl,om,rfl⟩ ?_) ?_
 ·rintro k2 fr v hk2 ⟨j2,rst,rfl,hS,hun,hj2,hij2,hI2⟩;have xa:=ak1 emb tl (d:=dk) (k:=a) om;by_cases hle:i2<=j2
  ·have d1:(i2:Int)<=(j2:Int):=om
   have d2:(0:Int)<=(j2:Int):=om
   have d3:(j2:Int)<d.size:=om
   have w2:=bl6 (a:=j2) om om;have xi:=ak1 emb tl (d:=dk) (k:=j2) om;have hc:=hC.pc dk[a]! dk[j2]!;simp only[go_sem,d1,d2,d3,c2,c3,hS.row,xa,xi,zc];refine am8 hC.ok hc ?_;by_cases hcf:cf dk[a]! dk[j2]! < 0
   ·have hst:=cp3 (p:=fun x=>ltOf cf dk[a]! x) (d:=dk) (i:=i2) (j:=j2) om hle (bk2 hcf);simp only[go_sem,hcf,w2];exact ⟨om,j2-1,_,rfl,hS.up emb tl rfl (za _ _),zh hun (za _ _),om,om,by rw[<- hI2,hst]⟩
   ·have hst:=ba3 (p:=fun x=>ltOf cf dk[a]! x) (d:=dk) (i:=i2) (j:=j2) (fun _=>ay2 hcf);simp only[go_sem,hcf];exact ⟨j2,rfl,hS.up emb tl rfl (za _ _),zh hun (za _ _),by rw[<- hI2,hst]⟩
  ·have d1:¬ (i2:Int)<=(j2:Int):=om
   have hst:=ba3 (p:=fun x=>ltOf cf dk[a]! x) (d:=dk) (i:=i2) (j:=j2) (fun h=>absurd h hle);simp only[go_sem,d1];exact ⟨j2,rfl,hS.up emb tl rfl (za _ _),zh hun (za _ _),by rw[<- hI2,hst]⟩
 rintro e f v ⟨rfl,j2,rfl,hS,hun,hj2⟩;obtain ⟨v1,v2,_,v4⟩:=Go.Sort.scanDown_spec (fun x=>ltOf cf dk[a]! x) dk i2 j;obtain ⟨_,_,_,u4⟩:=Go.Sort.scanUp_spec (fun x=>!ltOf cf dk[a]! x) dk j _ i rfl;have v2:=v2 om;rw[Go.Sort.partEqLoop_eq] at hI;rw[<- hi2] at hI u4 g1 g2;rw[<- hj2] at hI v1 v2 v4;by_cases hgt:i2>j2
 ·have d1:(j2:Int)<(i2:Int):=om
  rw[if_pos hgt] at hI;simp only[go_sem,d1];rw[<- hI];exact ⟨rfl,hS.up emb tl rfl (zb _)⟩
 ·have d1:¬ (j2:Int)<(i2:Int):=om
  rw[if_neg hgt] at hI
  have hne:i2<j2:=by
   rcases z7 i2 j2 with h|h
   ·exact h
   ·have e:i2=j2:=om
    have f1:=u4 om;have f2:=v4 om om;rw[<- e] at f2;simp only[Bool.not_eq_false'] at f1;rw[f1] at f2; cases f2
  have p1:(0:Int)<=(i2:Int):=om
  have p2:(i2:Int)<d.size:=om
  have p3:(0:Int)<=(j2:Int):=om
  have p4:(j2:Int)<d.size:=om
  have w2:=ac4 (i:=i2) om;have w3:=bl6 (a:=j2) om om;obtain ⟨r1,r2,r3,r4,r5⟩:=ak2 emb tl (d:=dk) (i:=i2) (j:=j2) om om;simp only[go_sem,d1,p1,p2,p3,p4,w2,w3,hS.row,r1,r2,r3,r4,r5,zc];refine ⟨om,i2+1,j2-1,Go.Sort.swp dk i2 j2,rfl,⟨?_,fun m hm=>?_,?_⟩,by rw[swp_size]; exact hsz,om,om,om,om,hI⟩
  ·have:=hS.next; first|omega|(simp only[aa7]; omega)
  ·simp only[aa5,hm,if_false]; exact hS.other m hm
  ·simp only[aa5,if_true]
theorem ji5 (hC:cd3 emb cf g first cap){σ:Store}(d:Array α)(a b pv:Nat)(hap:a<=pv)(hpb:pv<b)(hb:b<=d.size)(hz:d.size<2^40)(ho:σ.obj id=zg (.row (bb7 emb tl d))) :
  C Tryz.prog EE 180 [.slice id 0 d.size 1,.int .i64 a,.int .i64 b,.int .i64 pv,.func (.func g) first cap] σ fun v s=>(∃ ap,v=.tuple [.int .i64 (Go.Sort.partition (ltOf cf) d a b pv).1,.bool ap])/\SO emb tl id (Go.Sort.partition (ltOf cf) d a b pv).2.2 σ s:=by
 refine C_f fok180 (nZ rfl) ?_;have c2:(0:Int)<=(a:Int):=om
 have c3:(a:Int)<d.size:=om
 have c4:(0:Int)<=(pv:Int):=om
 have c5:(pv:Int)<d.size:=om
 have w0:=ac4 (i:=a) om;have w1:=bl6 (a:=b) om om;obtain ⟨r1,r2,r3,r4,r5⟩:=ak2 emb tl (d:=d) (i:=a) (j:=pv) om om;simp only[ic180,go_sem,c2,c3,c4,c5,w0,w1,ho,r1,r2,r3,r4,r5,zc];obtain ⟨D0,hd1⟩:∃ D0,D0=Go.Sort.swp d a pv:=⟨_,rfl⟩;have hsz:D0.size=d.size:=by rw[hd1,swp_size]
 obtain ⟨i0,hi0⟩:∃ i0,i0=a+1:=⟨_,rfl⟩;obtain ⟨j0,hj0⟩:∃ j0,j0=b-1:=⟨_,rfl⟩;have hij:i0<=j0+1:=om
 rw[<- hi0,<- hj0];rw[<- hd1]
 refine bk1 (fun e f s=>e=.exit 0/\∃ i2:Nat,f=[(0,.slice id 0 d.size 1),(1,.int .i64 a),(4,.func (.func g) first cap),(12,.int .i64 (i2:Int)),(13,.int .i64 (j0:Int)),(47,.bool false)]/\SO emb tl id D0 σ s/\i2=Go.Sort.scanUp (fun x=>ltOf cf x D0[a]!) D0 j0 i0)
  (ab1 noT (fun k2 fr u=>∃ (i2:Nat) (rst:Frm),fr=(0,.slice id 0 d.size 1)::(1,.int .i64 a)::(4,.func (.func g) first cap)::(12,.int .i64 (i2:Int))::(13,.int .i64 (j0:Int))::rst/\SO emb tl id D0 σ u/\i2=i0+k2/\i2<=j0+1/\Go.Sort.scanUp (fun x=>ltOf cf x D0[a]!) D0 j0 i2=Go.Sort.scanUp (fun x=>ltOf cf x D0[a]!) D0 j0 i0) (j0+1-i0) ⟨i0,_,rfl,⟨by first|omega|(simp only[aa7]; omega),fun m hm=>by simp only[aa5,hm,if_false],by simp only[aa5,if_true]⟩,rfl,hij,rfl⟩ ?_) ?_
 ·rintro k2 fr u hk2 ⟨i2,rst,rfl,hS,hi2,hi2j,hI2⟩;have xa:=ak1 emb tl (d:=D0) (k:=a) om;by_cases hle:i2<=j0
  ·have d1:(i2:Int)<=(j0:Int):=om
   have d2:(0:Int)<=(i2:Int):=om
   have d3:(i2:Int)<d.size:=om
   have w2:=ac4 (i:=i2) om;have xi:=ak1 emb tl (d:=D0) (k:=i2) om;have hc:=hC.pc D0[i2]! D0[a]!;simp only[go_sem,d1,d2,d3,c2,c3,hS.row,xa,xi,zc];refine am8 hC.ok hc ?_;by_cases hcf:cf D0[i2]! D0[a]! < 0
   ·have hst:=dw2 (p:=fun x=>ltOf cf x D0[a]!) (d:=D0) hle (bk2 hcf);simp only[go_sem,hcf,w2];exact ⟨om,i2+1,_,rfl,hS.up emb tl rfl (za _ _),om,om,by rw[<- hI2,hst]⟩
   ·have hst:=bu5 (p:=fun x=>ltOf cf x D0[a]!) (d:=D0) (i:=i2) (j:=j0) (fun _=>ay2 hcf);simp only[go_sem,hcf];exact ⟨i2,rfl,hS.up emb tl rfl (za _ _),by rw[<- hI2,hst]⟩
  ·have d1:¬ (i2:Int)<=(j0:Int):=om
   have hst:=bu5 (p:=fun x=>ltOf cf x D0[a]!) (d:=D0) (i:=i2) (j:=j0) (fun h=>absurd h hle);simp only[go_sem,d1];exact ⟨i2,rfl,hS.up emb tl rfl (za _ _),by rw[<- hI2,hst]⟩
 rintro e f u ⟨rfl,i2,rfl,hS,hi2⟩;obtain ⟨g1,g2,_,_⟩:=Go.Sort.scanUp_spec (fun x=>ltOf cf x D0[a]!) D0 j0 _ i0 rfl;have g2:=g2 hij;simp only[go_sem]
 refine bk1 (fun e f s=>e=.exit 2/\∃ j2:Nat,f=[(0,.slice id 0 d.size 1),(1,.int .i64 a),(4,.func (.func g) first cap),(12,.int .i64 (i2:Int)),(13,.int .i64 (j2:Int)),(66,.bool false)]/\SO emb tl id D0 σ s/\j2=Go.Sort.scanDown (fun x=>!ltOf cf x D0[a]!) D0 i2 j0)
  (ab1 noT (fun k2 fr v=>∃ (j2:Nat) (rst:Frm),fr=(0,.slice id 0 d.size 1)::(1,.int .i64 a)::(4,.func (.func g) first cap)::(12,.int .i64 (i2:Int))::(13,.int .i64 (j2:Int))::rst/\SO emb tl id D0 σ v/\j2+k2=j0/\i2<=j2+1/\Go.Sort.scanDown (fun x=>!ltOf cf x D0[a]!) D0 i2 j2=Go.Sort.scanDown (fun x=>!ltOf cf x D0[a]!) D0 i2 j0) (j0+1) ⟨j0,_,rfl,hS,rfl,om,rfl⟩ ?_) ?_
 ·rintro k2 fr v hk2 ⟨j2,rst,rfl,hS,hj2,hij2,hI2⟩;have xa:=ak1 emb tl (d:=D0) (k:=a) om;by_cases hle:i2<=j2
  ·have d1:(i2:Int)<=(j2:Int):=om
   have d2:(0:Int)<=(j2:Int):=om
   have d3:(j2:Int)<d.size:=om
   have w2:=bl6 (a:=j2) om om;have xi:=ak1 emb tl (d:=D0) (k:=j2) om;have hc:=hC.pc D0[j2]! D0[a]!;simp only[go_sem,d1,d2,d3,c2,c3,hS.row,xa,xi,zc];refine am8 hC.ok hc ?_;by_cases hcf:cf D0[j2]! D0[a]! < 0
   ·have hst:=ba3 (p:=fun x=>!ltOf cf x D0[a]!) (d:=D0) (i:=i2) (j:=j2) (fun _=>by simp only[bk2 hcf,zw]);simp only[go_sem,hcf];exact ⟨j2,rfl,hS.up emb tl rfl (za _ _),by rw[<- hI2,hst]⟩
   ·have hst:=cp3 (p:=fun x=>!ltOf cf x D0[a]!) (d:=D0) (i:=i2) (j:=j2) om hle (by simp only[ay2 hcf,zu]);simp only[go_sem,hcf,w2];exact ⟨om,j2-1,_,rfl,hS.up emb tl rfl (za _ _),om,om,by rw[<- hI2,hst]⟩
  ·have d1:¬ (i2:Int)<=(j2:Int):=om
   have hst:=ba3 (p:=fun x=>!ltOf cf x D0[a]!) (d:=D0) (i:=i2) (j:=j2) (fun h=>absurd h hle);simp only[go_sem,d1];exact ⟨j2,rfl,hS.up emb tl rfl (za _ _),by rw[<- hI2,hst]⟩
 rintro e f v ⟨rfl,j2,rfl,hS,hj2⟩;obtain ⟨v1,v2,_,v4⟩:=Go.Sort.scanDown_spec (fun x=>!ltOf cf x D0[a]!) D0 i2 j0;obtain ⟨_,_,_,u4⟩:=Go.Sort.scanUp_spec (fun x=>ltOf cf x D0[a]!) D0 j0 _ i0 rfl;have v2:=v2 om;rw[<- hi2] at u4 g1 g2;rw[<- hj2] at v1 v2 v4
 have hne:¬ i2>j2->i2<j2:=fun hgt=>by
  rcases z7 i2 j2 with h|h
  ·exact h
  ·have e:i2=j2:=om
   have f1:=u4 om;have f2:=v4 om om;rw[<- e] at f2;rw[f1] at f2; cases f2
 have hp:Go.Sort.partition (ltOf cf) d a b pv=if i2>j2 then (j2,true,Go.Sort.swp D0 j2 a) else ((Go.Sort.partLoop (ltOf cf) a (i2+1) (j2-1) (Go.Sort.swp D0 i2 j2)).1,false,Go.Sort.swp (Go.Sort.partLoop (ltOf cf) a (i2+1) (j2-1) (Go.Sort.swp D0 i2 j2)).2 (Go.Sort.partLoop (ltOf cf) a (i2+1) (j2-1) (Go.Sort.swp D0 i2 j2)).1 a):=by
  rw[hj2,hi2,hd1,hi0,hj0]; rfl
 rw[hp];have p3:(0:Int)<=(j2:Int):=om
 have p4:(j2:Int)<d.size:=om
 by_cases hgt:i2>j2
 ·have e1:(j2:Int)<(i2:Int):=om
  obtain ⟨r1,r2,r3,r4,r5⟩:=ak2 emb tl (d:=D0) (i:=j2) (j:=a) om om;rw[if_pos hgt];simp only[go_sem,e1,c2,c3,p3,p4,hS.row,r1,r2,r3,r4,r5,zc];refine ⟨⟨_,rfl⟩,?_,fun m hm=>?_,?_⟩
  ·have:=hS.next; first|omega|(simp only[aa7]; omega)
  ·simp only[aa5,hm,if_false]; exact hS.other m hm
  ·simp only[aa5,if_true]
 have e1:¬ (j2:Int)<(i2:Int):=om
 have hlt:=hne hgt;have p1:(0:Int)<=(i2:Int):=om
 have p2:(i2:Int)<d.size:=om
 have w2:=ac4 (i:=i2) om;have w3:=bl6 (a:=j2) om om;obtain ⟨r1,r2,r3,r4,r5⟩:=ak2 emb tl (d:=D0) (i:=i2) (j:=j2) om om;rw[if_neg hgt];simp only[go_sem,e1,p1,p2,p3,p4,w2,w3,hS.row,r1,r2,r3,r4,r5,zc];obtain ⟨F,hF⟩:∃ F,F=Go.Sort.partLoop (ltOf cf) a (i2+1) (j2-1) (Go.Sort.swp D0 i2 j2):=⟨_,rfl⟩;rw[<- hF];refine ab1 noT (fun k fr t=>∃ (i j:Nat) (dk:Array α),fr=[(0,.slice id 0 d.size 1),(1,.int .i64 a),(4,.func (.func g) first cap),(12,.int .i64 (i:Int)),(13,.int .i64 (j:Int))]/\SO emb tl id dk σ t/\dk.size=d.size/\a+1<=i/\i<=j+1/\j<b/\k<=i/\Go.Sort.partLoop (ltOf cf) a i j dk=F) (b+1) ⟨i2+1,j2-1,_,rfl,⟨?_,fun m hm=>?_,?_⟩,by rw[swp_size]; exact hsz,om,om,om,zv _,hF.symm⟩ ?_
 ·have:=hS.next; first|omega|(simp only[aa7]; omega)
 ·simp only[aa5,hm,if_false]; exact hS.other m hm
 ·simp only[aa5,if_true]
 rintro k fr t hk ⟨i,j,dk,rfl,hS,hsz,hai,hij,hjb,hki,hI⟩;simp only[go_sem]
 refine bk1 (fun e f s=>e=.exit 6/\∃ i2:Nat,f=[(0,.slice id 0 d.size 1),(1,.int .i64 a),(4,.func (.func g) first cap),(12,.int .i64 (i2:Int)),(13,.int .i64 (j:Int)),(120,.bool false)]/\SO emb tl id dk σ s/\i2=Go.Sort.scanUp (fun x=>ltOf cf x dk[a]!) dk j i)
  (ab1 noT (fun k2 fr u=>∃ (i2:Nat) (rst:Frm),fr=(0,.slice id 0 d.size 1)::(1,.int .i64 a)::(4,.func (.func g) first cap)::(12,.int .i64 (i2:Int))::(13,.int .i64 (j:Int))::rst/\SO emb tl id dk σ u/\i2=i+k2/\i2<=j+1/\Go.Sort.scanUp (fun x=>ltOf cf x dk[a]!) dk j i2=Go.Sort.scanUp (fun x=>ltOf cf x dk[a]!) dk j i) (j+1-i) ⟨i,_,rfl,hS,rfl,hij,rfl⟩ ?_) ?_
 ·rintro k2 fr u hk2 ⟨i2,rst,rfl,hS,hi2,hi2j,hI2⟩;have xa:=ak1 emb tl (d:=dk) (k:=a) om;by_cases hle:i2<=j
  ·have d1:(i2:Int)<=(j:Int):=om
   have d2:(0:Int)<=(i2:Int):=om
   have d3:(i2:Int)<d.size:=om
   have w2:=ac4 (i:=i2) om;have xi:=ak1 emb tl (d:=dk) (k:=i2) om;have hc:=hC.pc dk[i2]! dk[a]!;simp only[go_sem,d1,d2,d3,c2,c3,hS.row,xa,xi,zc];refine am8 hC.ok hc ?_;by_cases hcf:cf dk[i2]! dk[a]! < 0
   ·have hst:=dw2 (p:=fun x=>ltOf cf x dk[a]!) (d:=dk) hle (bk2 hcf);simp only[go_sem,hcf,w2];exact ⟨om,i2+1,_,rfl,hS.up emb tl rfl (za _ _),om,om,by rw[<- hI2,hst]⟩
   ·have hst:=bu5 (p:=fun x=>ltOf cf x dk[a]!) (d:=dk) (i:=i2) (j:=j) (fun _=>ay2 hcf);simp only[go_sem,hcf];exact ⟨i2,rfl,hS.up emb tl rfl (za _ _),by rw[<- hI2,hst]⟩
  ·have d1:¬ (i2:Int)<=(j:Int):=om
   have hst:=bu5 (p:=fun x=>ltOf cf x dk[a]!) (d:=dk) (i:=i2) (j:=j) (fun h=>absurd h hle);simp only[go_sem,d1];exact ⟨i2,rfl,hS.up emb tl rfl (za _ _),by rw[<- hI2,hst]⟩
 rintro e f u ⟨rfl,i2,rfl,hS,hi2⟩;obtain ⟨g1,g2,_,_⟩:=Go.Sort.scanUp_spec (fun x=>ltOf cf x dk[a]!) dk j _ i rfl;have g2:=g2 hij;simp only[go_sem]
 refine bk1 (fun e f s=>e=.exit 8/\∃ j2:Nat,f=[(0,.slice id 0 d.size 1),(1,.int .i64 a),(4,.func (.func g) first cap),(12,.int .i64 (i2:Int)),(13,.int .i64 (j2:Int)),(139,.bool false)]/\SO emb tl id dk σ s/\j2=Go.Sort.scanDown (fun x=>!ltOf cf x dk[a]!) dk i2 j)
  (ab1 noT (fun k2 fr v=>∃ (j2:Nat) (rst:Frm),fr=(0,.slice id 0 d.size 1)::(1,.int .i64 a)::(4,.func (.func g) first cap)::(12,.int .i64 (i2:Int))::(13,.int .i64 (j2:Int))::rst/\SO emb tl id dk σ v/\j2+k2=j/\i2<=j2+1/\Go.Sort.scanDown (fun x=>!ltOf cf x dk[a]!) dk i2 j2=Go.Sort.scanDown (fun x=>!ltOf cf x dk[a]!) dk i2 j) (j+1) ⟨j,_,rfl,hS,rfl,om,rfl⟩ ?_) ?_
 ·rintro k2 fr v hk2 ⟨j2,rst,rfl,hS,hj2,hij2,hI2⟩;have xa:=ak1 emb tl (d:=dk) (k:=a) om;by_cases hle:i2<=j2
  ·have d1:(i2:Int)<=(j2:Int):=om
   have d2:(0:Int)<=(j2:Int):=om
   have d3:(j2:Int)<d.size:=om
   have w2:=bl6 (a:=j2) om om;have xi:=ak1 emb tl (d:=dk) (k:=j2) om;have hc:=hC.pc dk[j2]! dk[a]!;simp only[go_sem,d1,d2,d3,c2,c3,hS.row,xa,xi,zc];refine am8 hC.ok hc ?_;by_cases hcf:cf dk[j2]! dk[a]! < 0
   ·have hst:=ba3 (p:=fun x=>!ltOf cf x dk[a]!) (d:=dk) (i:=i2) (j:=j2) (fun _=>by simp only[bk2 hcf,zw]);simp only[go_sem,hcf];exact ⟨j2,rfl,hS.up emb tl rfl (za _ _),by rw[<- hI2,hst]⟩
   ·have hst:=cp3 (p:=fun x=>!ltOf cf x dk[a]!) (d:=dk) (i:=i2) (j:=j2) om hle (by simp only[ay2 hcf,zu]);simp only[go_sem,hcf,w2];exact ⟨om,j2-1,_,rfl,hS.up emb tl rfl (za _ _),om,om,by rw[<- hI2,hst]⟩
  ·have d1:¬ (i2:Int)<=(j2:Int):=om
   have hst:=ba3 (p:=fun x=>!ltOf cf x dk[a]!) (d:=dk) (i:=i2) (j:=j2) (fun h=>absurd h hle);simp only[go_sem,d1];exact ⟨j2,rfl,hS.up emb tl rfl (za _ _),by rw[<- hI2,hst]⟩
 rintro e f v ⟨rfl,j2,rfl,hS,hj2⟩;obtain ⟨v1,v2,_,v4⟩:=Go.Sort.scanDown_spec (fun x=>!ltOf cf x dk[a]!) dk i2 j;obtain ⟨_,_,_,u4⟩:=Go.Sort.scanUp_spec (fun x=>ltOf cf x dk[a]!) dk j _ i rfl;have v2:=v2 om;rw[<- hi2] at u4 g1 g2;rw[<- hj2] at v1 v2 v4
 have hne:¬ i2>j2->i2<j2:=fun hgt=>by
  rcases z7 i2 j2 with h|h
  ·exact h
  ·have e:i2=j2:=om
   have f1:=u4 om;have f2:=v4 om om;rw[<- e] at f2;rw[f1] at f2; cases f2
 rw[Go.Sort.partLoop_eq] at hI;rw[<- hi2] at hI;rw[<- hj2] at hI;have p3:(0:Int)<=(j2:Int):=om
 have p4:(j2:Int)<d.size:=om
 by_cases hgt:i2>j2
 ·have e1:(j2:Int)<(i2:Int):=om
  obtain ⟨r1,r2,r3,r4,r5⟩:=ak2 emb tl (d:=dk) (i:=j2) (j:=a) om om;rw[if_pos hgt] at hI;rw[<- hI];simp only[go_sem,e1,c2,c3,p3,p4,hS.row,r1,r2,r3,r4,r5,zc];refine ⟨⟨_,rfl⟩,?_,fun m hm=>?_,?_⟩
  ·have:=hS.next; first|omega|(simp only[aa7]; omega)
  ·simp only[aa5,hm,if_false]; exact hS.other m hm
  ·simp only[aa5,if_true]
 have e1:¬ (j2:Int)<(i2:Int):=om
 have hlt:=hne hgt;have p1:(0:Int)<=(i2:Int):=om
 have p2:(i2:Int)<d.size:=om
 have w2:=ac4 (i:=i2) om;have w3:=bl6 (a:=j2) om om;obtain ⟨r1,r2,r3,r4,r5⟩:=ak2 emb tl (d:=dk) (i:=i2) (j:=j2) om om;rw[if_neg hgt] at hI;simp only[go_sem,e1,p1,p2,p3,p4,w2,w3,hS.row,r1,r2,r3,r4,r5,zc];refine ⟨om,i2+1,j2-1,Go.Sort.swp dk i2 j2,rfl,⟨?_,fun m hm=>?_,?_⟩,by rw[swp_size]; exact hsz,om,om,om,om,hI⟩
 ·have:=hS.next; first|omega|(simp only[aa7]; omega)
 ·simp only[aa5,hm,if_false]; exact hS.other m hm
 ·simp only[aa5,if_true]
end
end Go.Id.Tryz
namespace Go.Id.Tryz
open Go Go.Id Go.Proofs
theorem hx8 {P:Program}{E:Nat->IV}{N n0:Nat}{fr:Frm}{σ:Store}{x:IC}{Q:Exit->Frm->Store->Prop}(I:Nat->Frm->Store->Prop)(n:Nat)(h:I 0 fr σ)
  (hI:∀ i fr σ,i<=n->I i fr σ->RI P E N n0 x fr σ (upQ I i n Q)):RI P E N n0 (.loop x) fr σ Q:=by
 refine ew9 (fun m fr σ=>∃ i,i<=n/\m=n-i/\I i fr σ) n ⟨0,zv _,rfl,h⟩ ?_;rintro m fr σ ⟨i,hi,rfl,hi0⟩;refine be1 (hI i fr σ hi hi0) ?_;intro e f s q
 cases e with
 | normal=>exact ⟨n-(i+1),by have:=q.1; omega,i+1,q.1,rfl,q.2⟩
 | _=>exact q
section
variable {α:Type} [Inhabited α] (emb:α->Int) (tl:List IV) {cf:α->α->Int} {g:Nat} {first cap:List IV} {id:Nat}
theorem ei1 {lt:α->α->Bool}{d:Array α}{b i:Nat}(h:i<b)(hp:lt d[i]! d[i-1]! = false):Go.Sort.scanSorted lt d b i=Go.Sort.scanSorted lt d b (i+1):=by
 rw[Go.Sort.scanSorted,if_pos (by simp[h,hp])]
theorem cr6 {lt:α->α->Bool}{d:Array α}{b i:Nat}(h:i<b->lt d[i]! d[i-1]! = true):Go.Sort.scanSorted lt d b i=i:=by
 rw[Go.Sort.scanSorted,if_neg];intro hc;simp only[zo,decide_eq_true_eq,Bool.not_eq_true'] at hc;rw[h hc.1] at hc; exact absurd hc.2 (by decide)
theorem ei2 (lt:α->α->Bool):∀ (j:Nat) (d:Array α),(Go.Sort.shiftDown lt j d).size=d.size:=by
 intro j
 induction j with
 | zero=>intro d; rfl
 | succ j ih=>
  intro d;rw[Go.Sort.shiftDown];split
  ·rfl
  ·rw[ih,swp_size]
theorem fw4 (lt:α->α->Bool)(b:Nat):∀ (n j:Nat) (d:Array α),b-j<=n->(Go.Sort.shiftUp lt b j d).size=d.size:=by
 intro n
 induction n with
 | zero=>intro j d h; rw[Go.Sort.shiftUp,if_neg om]
 | succ n ih=>
  intro j d h;rw[Go.Sort.shiftUp]
  repeat' split
  ·rfl
  ·rw[ih _ _ om,swp_size]
  ·rfl
theorem fw5 (lt:α->α->Bool)(a i:Nat)(d:Array α):(Go.Sort.fixDown lt a i d).size=d.size:=by
 unfold Go.Sort.fixDown;split
 ·exact ei2 lt _ _
 ·rfl
theorem hx9 (lt:α->α->Bool)(b i:Nat)(d:Array α):(Go.Sort.fixUp lt b i d).size=d.size:=by
 unfold Go.Sort.fixUp;split
 ·exact fw4 lt b _ _ _ (zb _)
 ·rfl
theorem gs3 (hC:cd3 emb cf g first cap){σ:Store}(d:Array α)(a b:Nat)(hab:a<b)(hb:b<=d.size)(hz:d.size<2^40)(ho:σ.obj id=zg (.row (bb7 emb tl d))) :
  C Tryz.prog EE 178 [.slice id 0 d.size 1,.int .i64 a,.int .i64 b,.func (.func g) first cap] σ fun v s=>v=.bool (Go.Sort.partialInsertionSort (ltOf cf) d a b).2/\SO emb tl id (Go.Sort.partialInsertionSort (ltOf cf) d a b).1 σ s:=by
 refine ja9 fok178 (nZ rfl) ?_;have w0:=ac4 (i:=a) om;have wba:=fx3 (a:=b) (b:=a) om om;simp only[ic178,go_sem];refine aj4 (an1 ?_);simp only[go_sem];refine aj4 (an1 ?_);simp only[go_sem,w0];refine aj4 (aj4 (an1 ?_));simp only[go_sem];unfold Go.Sort.partialInsertionSort;refine ca4 (hx8 (fun k fr t=>∃ (i:Nat) (dk:Array α),fr=[(0,.slice id 0 d.size 1),(1,.int .i64 a),(2,.int .i64 b),(3,.func (.func g) first cap),(9,.int .i64 (i:Int)),(10,.int .i64 (k:Int))]/\SO emb tl id dk σ t/\dk.size=d.size/\a+1<=i/\i<=b/\Go.Sort.partialIns (ltOf cf) a b (5-k) i dk=Go.Sort.partialIns (ltOf cf) a b 5 (a+1) d) 5 ⟨a+1,d,rfl,⟨zb _,fun _ _=>rfl,ho⟩,rfl,om,om,rfl⟩ ?_);rintro k fr t hk ⟨i0,dk,rfl,hS,hsz,hai,hib,hI⟩;by_cases hk5:k<5
 case neg=>
  have e5:k=5:=om
  subst e5;have c5:¬ ((5:Nat):Int)<5:=by decide
  refine aj4 (an1 ?_);have e0:Go.Sort.partialIns (ltOf cf) a b (5-5) i0 dk=(dk,false):=rfl;rw[e0] at hI;simp only[go_sem,c5];refine an1 ?_;simp only[go_sem];rw[<- hI];exact ⟨rfl,hS.next,hS.other,hS.row⟩
 have c5:(k:Int)<5:=om
 obtain ⟨s,hs⟩:∃ s,5-k=s+1:=⟨4-k,om⟩;have hs':5-(k+1)=s:=om
 rw[hs,Go.Sort.partialIns_succ] at hI;refine aj4 (an1 ?_);simp only[go_sem,c5];refine aj4 (ca4 ?_)
 -- what is in order
 refine aj4 (ca4 (bk1 (fun e f s=>e=.exit 2/\f=[(0,.slice id 0 d.size 1),(1,.int .i64 a),(2,.int .i64 b),(3,.func (.func g) first cap),(9,.int .i64 (Go.Sort.scanSorted (ltOf cf) dk b i0:Nat)),(10,.int .i64 (k:Int)),(36,.bool false)]/\SO emb tl id dk σ s/\i0<=Go.Sort.scanSorted (ltOf cf) dk b i0/\Go.Sort.scanSorted (ltOf cf) dk b i0<=b)
  (ab1 noT (fun k2 fr u=>∃ (i:Nat) (rst:Frm),fr=(0,.slice id 0 d.size 1)::(1,.int .i64 a)::(2,.int .i64 b)::(3,.func (.func g) first cap)::(9,.int .i64 (i:Int))::(10,.int .i64 (k:Int))::rst/\SO emb tl id dk σ u/\i=i0+k2/\i<=b/\Go.Sort.scanSorted (ltOf cf) dk b i=Go.Sort.scanSorted (ltOf cf) dk b i0) (b-i0) ⟨i0,_,rfl,⟨hS.next,hS.other,hS.row⟩,rfl,hib,rfl⟩ ?_) ?_))
 ·rintro k2 fr u hk2 ⟨i,rst,rfl,hS,hi,hib,hI⟩;by_cases hlt:i<b
  ·have d1:(i:Int)<(b:Int):=om
   have d2:(0:Int)<=(i:Int):=om
   have d3:(i:Int)<d.size:=om
   have d4:(0:Int)<=((i-1:Nat):Int):=om
   have d5:((i-1:Nat):Int)<d.size:=om
   have w1:=bl6 (a:=i) om om;have w2:=ac4 (i:=i) om;have x1:=ak1 emb tl (d:=dk) (k:=i) om;have x2:=ak1 emb tl (d:=dk) (k:=i-1) om;have hc:=hC.pc dk[i]! dk[i-1]!;simp only[go_sem,d1,d2,d3,d4,d5,w1,hS.row,x1,x2,zc];refine am8 hC.ok hc ?_;by_cases hcf:cf dk[i]! dk[i-1]! < 0
   ·have hst:=cr6 (lt:=ltOf cf) (d:=dk) (b:=b) (i:=i) (fun _=>bk2 hcf);rw[hst] at hI;simp only[go_sem,hcf];refine ⟨by rw[hI],hS.up emb tl rfl (za _ _),om,om⟩
   ·have hst:=ei1 (lt:=ltOf cf) (d:=dk) hlt (ay2 hcf);simp only[go_sem,hcf,w2];exact ⟨om,i+1,_,rfl,hS.up emb tl rfl (za _ _),om,om,by rw[<- hI,hst]⟩
  ·have d1:¬ (i:Int)<(b:Int):=om
   have hst:=cr6 (lt:=ltOf cf) (d:=dk) (b:=b) (i:=i) (fun h=>absurd h hlt);rw[hst] at hI;simp only[go_sem,d1];refine ⟨by rw[hI],hS.up emb tl rfl (za _ _),om,om⟩
 rintro e f u ⟨rfl,rfl,hS,g1,g2⟩;generalize Go.Sort.scanSorted (ltOf cf) dk b i0=i at *;simp only[go_sem];refine aj4 (an1 ?_);by_cases hib2:i=b
 ·have d1:(i:Int)=(b:Int):=om
  rw[if_pos hib2] at hI;simp only[go_sem,d1];rw[<- hI];exact ⟨rfl,hS.next,hS.other,hS.row⟩
 have d1:¬ (i:Int)=(b:Int):=om
 rw[if_neg hib2] at hI;simp only[go_sem,d1];refine aj4 (an1 ?_);by_cases h50:b-a<50
 ·have d2:((b-a:Nat):Int)<50:=om
  rw[if_pos h50] at hI;simp only[go_sem,wba,d2];rw[<- hI];exact ⟨rfl,hS.next,hS.other,hS.row⟩
 have d2:¬ ((b-a:Nat):Int)<50:=om
 rw[if_neg h50] at hI;simp only[go_sem,wba,d2];have p1:(0:Int)<=(i:Int):=om
 have p2:(i:Int)<d.size:=om
 have p3:(0:Int)<=((i-1:Nat):Int):=om
 have p4:((i-1:Nat):Int)<d.size:=om
 have w1:=bl6 (a:=i) om om;obtain ⟨r1,r2,r3,r4,r5⟩:=ak2 emb tl (d:=dk) (i:=i) (j:=i-1) om om;refine aj4 (an1 ?_);simp only[go_sem,p1,p2,p3,p4,w1,hS.row,r1,r2,r3,r4,r5,zc]
 -- the lesser one to the left
 refine aj4 (be1 (Q:=fun e f s=>e=.normal/\(∃ rst:Frm,f=(0,.slice id 0 d.size 1)::(1,.int .i64 a)::(2,.int .i64 b)::(3,.func (.func g) first cap)::(9,.int .i64 (i:Int))::(10,.int .i64 (k:Int))::rst)/\SO emb tl id (Go.Sort.fixDown (ltOf cf) a i (Go.Sort.swp dk i (i-1))) σ s) (an1 ?_) ?_)
 ·have wia:=fx3 (a:=i) (b:=a) om om;by_cases h2:i-a≥2
  ·have e1:(2:Int)<=((i-a:Nat):Int):=om
   have hfx:Go.Sort.fixDown (ltOf cf) a i (Go.Sort.swp dk i (i-1))=Go.Sort.shiftDown (ltOf cf) (i-1) (Go.Sort.swp dk i (i-1)):=by unfold Go.Sort.fixDown; rw[if_pos h2]
   rw[hfx];simp only[go_sem,wia,e1,w1];refine ab1 noT (fun k2 fr u=>∃ (j:Nat) (dj:Array α) (rst:Frm),fr=(0,.slice id 0 d.size 1)::(1,.int .i64 a)::(2,.int .i64 b)::(3,.func (.func g) first cap)::(9,.int .i64 (i:Int))::(10,.int .i64 (k:Int))::(11,.int .i64 (j:Int))::rst/\SO emb tl id dj σ u/\dj.size=d.size/\j+k2=i-1/\Go.Sort.shiftDown (ltOf cf) j dj=Go.Sort.shiftDown (ltOf cf) (i-1) (Go.Sort.swp dk i (i-1))) i ⟨i-1,_,_,rfl,⟨by (have:=hS.next; first|omega|(simp only[aa7]; omega)),fun m hm=>by simp only[aa5,hm,if_false]; exact hS.other m hm,by simp only[aa5,if_true]⟩,by rw[swp_size]; exact hsz,rfl,rfl⟩ ?_;rintro k2 fr u hk2 ⟨j,dj,rst,rfl,hS,hszj,hj,hIj⟩
   cases j with
   | zero=>
    have e2:Go.Sort.shiftDown (ltOf cf) 0 dj=dj:=rfl;have e3:¬ (1:Int)<=((0:Nat):Int):=by decide
    have e0:(((0:Nat):Int))=0:=rfl;have e4:¬ (1:Int)<=0:=by decide
    rw[e2] at hIj;simp only[go_sem,e0,e4];rw[<- hIj]
    exact ⟨⟨_,rfl⟩,hS.next,hS.other,hS.row⟩
   | succ j=>
    have e3:(1:Int)<=((j+1:Nat):Int):=om
    have d2:(0:Int)<=((j+1:Nat):Int):=om
    have d3:((j+1:Nat):Int)<d.size:=om
    have d4:(0:Int)<=(j:Int):=om
    have d5:(j:Int)<d.size:=om
    have w3:IntKind.i64.wrap (((j+1:Nat):Int)-1)=(j:Int):=by rw[wrap64 om om]; omega
    have hc:=hC.pc dj[j+1]! dj[j]!;obtain ⟨r1,r2,r3,r4,r5⟩:=ak2 emb tl (d:=dj) (i:=j+1) (j:=j) om om;rw[Go.Sort.shiftDown] at hIj;simp only[go_sem,e3,d2,d3,d4,d5,w3,hS.row,r1,r2,zc];refine am8 hC.ok hc ?_;by_cases hcf:cf dj[j+1]! dj[j]! < 0
    ·rw[bk2 hcf] at hIj;simp only[zw,qd,if_false] at hIj;simp only[go_sem,hcf,d2,d3,d4,d5,w3,hS.row,r1,r2,r3,r4,r5,zc];exact ⟨om,j,Go.Sort.swp dj (j+1) j,_,rfl,⟨by (have:=hS.next; first|omega|(simp only[aa7]; omega)),fun m hm=>by simp only[aa5,hm,if_false]; exact hS.other m hm,by simp only[aa5,if_true]⟩,by rw[swp_size]; exact hszj,om,hIj⟩
    ·rw[ay2 hcf] at hIj;simp only[zu,if_true] at hIj;simp only[go_sem,hcf];rw[<- hIj];exact ⟨⟨_,rfl⟩,hS.up emb tl rfl (za _ _)⟩
  ·have e1:¬ (2:Int)<=((i-a:Nat):Int):=om
   have hfx:Go.Sort.fixDown (ltOf cf) a i (Go.Sort.swp dk i (i-1))=Go.Sort.swp dk i (i-1):=by unfold Go.Sort.fixDown; rw[if_neg h2]
   rw[hfx];simp only[go_sem,wia,e1];exact ⟨⟨_,rfl⟩,⟨by (have:=hS.next; first|omega|(simp only[aa7]; omega)),fun m hm=>by simp only[aa5,hm,if_false]; exact hS.other m hm,by simp only[aa5,if_true]⟩⟩
 rintro e f u2 ⟨rfl,⟨rst,rfl⟩,hS⟩;have hs1:(Go.Sort.fixDown (ltOf cf) a i (Go.Sort.swp dk i (i-1))).size=d.size:=by rw[fw5,swp_size]; exact hsz
 generalize Go.Sort.fixDown (ltOf cf) a i (Go.Sort.swp dk i (i-1))=D1 at *;simp only[go_sem]
 -- the greater one to the right
 refine be1 (Q:=fun e f s=>e=.normal/\(∃ rst:Frm,f=(0,.slice id 0 d.size 1)::(1,.int .i64 a)::(2,.int .i64 b)::(3,.func (.func g) first cap)::(9,.int .i64 (i:Int))::(10,.int .i64 (k:Int))::rst)/\SO emb tl id (Go.Sort.fixUp (ltOf cf) b i D1) σ s) (an1 ?_) ?_
 ·have wbi:=fx3 (a:=b) (b:=i) om om;by_cases h2:b-i≥2
  ·have e1:(2:Int)<=((b-i:Nat):Int):=om
   have wi1:=ac4 (i:=i) om;have hfx:Go.Sort.fixUp (ltOf cf) b i D1=Go.Sort.shiftUp (ltOf cf) b (i+1) D1:=by unfold Go.Sort.fixUp; rw[if_pos h2]
   rw[hfx];simp only[go_sem,wbi,e1,wi1];refine ab1 noT (fun k2 fr u=>∃ (j:Nat) (dj:Array α) (rst:Frm),fr=(0,.slice id 0 d.size 1)::(1,.int .i64 a)::(2,.int .i64 b)::(3,.func (.func g) first cap)::(9,.int .i64 (i:Int))::(10,.int .i64 (k:Int))::(12,.int .i64 (j:Int))::rst/\SO emb tl id dj σ u/\dj.size=d.size/\j=i+1+k2/\Go.Sort.shiftUp (ltOf cf) b j dj=Go.Sort.shiftUp (ltOf cf) b (i+1) D1) b ⟨i+1,_,_,rfl,hS.up emb tl rfl (zb _),hs1,rfl,rfl⟩ ?_;rintro k2 fr u hk2 ⟨j,dj,rst,rfl,hS,hszj,hj,hIj⟩;by_cases hlt:j<b
   ·have e3:(j:Int)<(b:Int):=om
    have d2:(0:Int)<=(j:Int):=om
    have d3:(j:Int)<d.size:=om
    have d4:(0:Int)<=((j-1:Nat):Int):=om
    have d5:((j-1:Nat):Int)<d.size:=om
    have w3:=bl6 (a:=j) om om;have w4:=ac4 (i:=j) om;have hc:=hC.pc dj[j]! dj[j-1]!;obtain ⟨r1,r2,r3,r4,r5⟩:=ak2 emb tl (d:=dj) (i:=j) (j:=j-1) om om;rw[Go.Sort.shiftUp,if_pos hlt] at hIj;simp only[go_sem,e3,d2,d3,d4,d5,w3,hS.row,r1,r2,zc];refine am8 hC.ok hc ?_;by_cases hcf:cf dj[j]! dj[j-1]! < 0
    ·rw[bk2 hcf] at hIj;simp only[zw,qd,if_false] at hIj;simp only[go_sem,hcf,d2,d3,d4,d5,w3,w4,hS.row,r1,r2,r3,r4,r5,zc];exact ⟨om,j+1,Go.Sort.swp dj j (j-1),_,rfl,⟨by (have:=hS.next; first|omega|(simp only[aa7]; omega)),fun m hm=>by simp only[aa5,hm,if_false]; exact hS.other m hm,by simp only[aa5,if_true]⟩,by rw[swp_size]; exact hszj,om,hIj⟩
    ·rw[ay2 hcf] at hIj;simp only[zu,if_true] at hIj;simp only[go_sem,hcf];rw[<- hIj];exact ⟨⟨_,rfl⟩,hS.up emb tl rfl (za _ _)⟩
   ·have e3:¬ (j:Int)<(b:Int):=om
    rw[Go.Sort.shiftUp,if_neg hlt] at hIj;simp only[go_sem,e3];rw[<- hIj];exact ⟨⟨_,rfl⟩,hS.next,hS.other,hS.row⟩
  ·have e1:¬ (2:Int)<=((b-i:Nat):Int):=om
   have hfx:Go.Sort.fixUp (ltOf cf) b i D1=D1:=by unfold Go.Sort.fixUp; rw[if_neg h2]
   rw[hfx];simp only[go_sem,wbi,e1];exact ⟨⟨_,rfl⟩,hS.next,hS.other,hS.row⟩
 rintro e f u3 ⟨rfl,⟨rst3,rfl⟩,hS⟩;have hs3:(Go.Sort.fixUp (ltOf cf) b i D1).size=d.size:=by rw[hx9]; exact hs1
 have wk:=ac4 (i:=k) om;simp only[go_sem];refine an1 ?_;simp only[go_sem,wk];exact ⟨om,i,_,rfl,hS.up emb tl rfl (zb _),hs3,om,g2,by rw[hs']; exact hI⟩
end
end Go.Id.Tryz
namespace Go.Id.Tryz
open Go Go.Id Go.Proofs
section
variable {α:Type} [Inhabited α] (emb:α->Int) (tl:List IV) {cf:α->α->Int} {g:Nat} {first cap:List IV} {id:Nat}
theorem SKp.up {d:Array α}{σ u v:Store}(h:SKp emb tl id d σ u)(h1:v.obj=u.obj)(h2:u.next<=v.next):SKp emb tl id d σ v:=⟨zh h.next h2,fun i hi hn=>by rw[h1]; exact h.other i hi hn,by rw[h1]; exact h.row⟩
theorem js4 (hC:cd3 emb cf g first cap)(hO:Go.Sort.SWO (ltOf cf)):∀ (N a b lim:Nat) (d:Array α) (σ:Store),b-a<N->a<=b->b<=d.size->d.size<256->lim<2^40->Go.Sort.Below (ltOf cf) a b d->id<σ.next->σ.obj id=zg (.row (bb7 emb tl d)) ->
  C Tryz.prog EE 120 [.slice id 0 d.size 1,.int .i64 a,.int .i64 b,.int .i64 lim,.func (.func g) first cap] σ fun v s=>v=.tuple []/\∃ d',Go.Sort.PermIn a b d d'/\Go.Sort.SortedIn (ltOf cf) a b d'/\SKp emb tl id d' σ s:=by
 intro N
 induction N with
 | zero=>intro a b lim d σ h; exact absurd h (z4 _)
 | succ N ih=>
 intro a b lim d σ hN hab hb hz hlim hB hid ho;refine ja9 fok120 (nZ rfl) ?_;simp only[ic120,go_sem];refine aj4 (an1 ?_);simp only[go_sem];refine aj4 (an1 ?_);simp only[go_sem];refine ca4 (ew9 (fun m fr t=>∃ (a' b' lim':Nat) (wb wp:Bool) (dk:Array α),fr=[(0,.slice id 0 d.size 1),(1,.int .i64 a'),(2,.int .i64 b'),(3,.int .i64 lim'),(4,.func (.func g) first cap),(10,.bool wb),(11,.bool wp)]/\m=b'-a'/\a<=a'/\a'<=b'/\b'<=b/\lim'<=lim/\dk.size=d.size/\Go.Sort.Below (ltOf cf) a' b' dk/\SKp emb tl id dk σ t/\∀ R,Go.Sort.PermIn a' b' dk R->Go.Sort.SortedIn (ltOf cf) a' b' R->Go.Sort.PermIn a b d R/\Go.Sort.SortedIn (ltOf cf) a b R) (b-a) ⟨a,b,lim,true,true,d,rfl,rfl,zb _,hab,zb _,zb _,rfl,hB,⟨zb _,fun _ _ _=>rfl,ho⟩,fun R h1 h2=>⟨h1,h2⟩⟩ ?_);rintro m fr t ⟨a',b',lim',wb,wp,dk,rfl,rfl,haa,hab',hbb,hll,hsz,hB,hS,hF⟩;have hidt:id<t.next:=ze hid hS.next;have wlen:=fx3 (a:=b') (b:=a') hab' om;refine ca4 (aj4 (an1 ?_));simp only[go_sem,wlen]
 -- few
 refine aj4 (an1 ?_);by_cases h12:b'-a'<=12
 ·have c1:((b'-a':Nat):Int)<=12:=om
  have hi:=gr6 emb tl hC dk a' b' hab' om om hS.row;rw[hsz] at hi;simp only[go_sem,c1];refine ad3 fok173 hi ?_;rintro v s ⟨rfl,h1⟩;refine ⟨h1.next,?_⟩;obtain ⟨q1,q2⟩:=Go.Sort.insertionSort_holds hO dk a' b' hab' om;obtain ⟨f1,f2⟩:=hF _ q1 q2;simp only[go_sem];exact ⟨_,f1,f2,hS.trans emb tl h1.kp⟩
 have c1:¬ ((b'-a':Nat):Int)<=12:=om
 simp only[go_sem,c1]
 -- the heap
 refine aj4 (an1 ?_);by_cases h0:lim'=0
 ·have c2:((lim':Nat):Int)=0:=om
  have hi:=fw2 emb tl hC dk a' b' om om om hS.row;rw[hsz] at hi;simp only[go_sem,c2];refine ad3 fok174 hi ?_;rintro v s ⟨rfl,h1⟩;refine ⟨h1.next,?_⟩;obtain ⟨q1,q2⟩:=Go.Sort.heapSort_holds hO dk a' b' hab' om;obtain ⟨f1,f2⟩:=hF _ q1 q2;simp only[go_sem];exact ⟨_,f1,f2,hS.trans emb tl h1.kp⟩
 have c2:¬ ((lim':Nat):Int)=0:=om
 simp only[go_sem,c2]
 -- patterns
 refine aj4 (be1 (Q:=fun e f s=>e=.normal/\∃ (lim2:Nat) (rst:Frm) (dj:Array α),f=(0,.slice id 0 d.size 1)::(1,.int .i64 a')::(2,.int .i64 b')::(3,.int .i64 lim2)::(4,.func (.func g) first cap)::(10,.bool wb)::(11,.bool wp)::(12,.int .i64 (b'-a':Nat))::rst/\lim2<=lim/\Go.Sort.PermIn a' b' dk dj/\SKp emb tl id dj σ s) (an1 ?_) ?_)
 ·cases wb with
  | true=>
   simp only[go_sem]
   exact ⟨lim',_,dk,rfl,hll,Go.Sort.permIn_refl dk a' b',hS.up emb tl rfl (zb _)⟩
  | false=>
   have hi:=it6 emb tl dk a' b' (.func (.func g) first cap) om om om hidt hS.row;rw[hsz] at hi;have wl:=bl6 (a:=lim') om om;simp only[go_sem];refine ad3 fok175 hi ?_;rintro v s ⟨rfl,dj,hp,h1⟩;refine ⟨h1.next,?_⟩;simp only[go_sem,wl];exact ⟨lim'-1,_,dj,rfl,om,hp,(hS.trans emb tl h1).up emb tl rfl (zb _)⟩
 rintro e f t ⟨rfl,lim2,rst,d2,rfl,hl2,hP2,hS2⟩;have hs2:d2.size=d.size:=by rw[hP2.1]; exact hsz
 have hid2:id<t.next:=ze hid hS2.next;clear c1 c2 wlen hS hidt;simp only[go_sem]
 -- the pivot
 refine aj4 (an1 ?_);have hch:=hv9 emb tl hC d2 a' b' om om om hid2 hS2.row;rw[hs2] at hch;simp only[go_sem];refine ad3 fok176 hch ?_;rintro v t3 ⟨⟨pv,hh,rfl,hp1,hp2⟩,h3⟩;refine ⟨h3.next,?_⟩;have hS3:=hS2.trans emb tl h3;have hid3:id<t3.next:=ze hid hS3.next;clear h3;simp only[go_sem];refine aj4 (be1 (Q:=fun e f s=>e=.normal/\∃ (pv:Nat) (hh:Int) (rst:Frm) (dj:Array α),f=(0,.slice id 0 d.size 1)::(1,.int .i64 a')::(2,.int .i64 b')::(3,.int .i64 lim2)::(4,.func (.func g) first cap)::(10,.bool wb)::(11,.bool wp)::(12,.int .i64 (b'-a':Nat))::(13,.int .i64 pv)::(14,.int .i64 hh)::rst/\a'<=pv/\pv<b'/\Go.Sort.PermIn a' b' dk dj/\SKp emb tl id dj σ s) (an1 ?_) ?_)
 ·by_cases e2:hh=2
  ·have hrv:=gr7 emb tl d2 a' b' (.func (.func g) first cap) (f:=[]) om om om hS3.row;rw[hs2] at hrv;have w1:=bl6 (a:=b') om om;have w2:=fx3 (a:=pv) (b:=a') hp1 om;have w3:=fx3 (a:=b'-1) (b:=pv-a') om om;simp only[go_sem,e2];refine ad3 fok177 hrv ?_;rintro v s ⟨rfl,h1⟩;refine ⟨h1.next,?_⟩;simp only[go_sem,w1,w2,w3];exact ⟨_,_,_,_,rfl,om,om,Go.Sort.permIn_trans _ _ _ a' b' hP2 (Go.Sort.reverseRange_holds d2 a' b' hab' om),(hS3.trans emb tl h1.kp).up emb tl rfl (zb _)⟩
  ·simp only[go_sem,e2];exact ⟨_,_,_,_,rfl,hp1,hp2,hP2,hS3.up emb tl rfl (zb _)⟩
 clear hS3 hid3 hp1 hp2 pv hh hch;rintro e f t ⟨rfl,pv,hh,rst,d3,rfl,hp1,hp2,hP3,hS3⟩;have hs3:d3.size=d.size:=by rw[hP3.1]; exact hsz
 clear hP2 hS2 hs2 hid2;simp only[go_sem]
 -- nearly in order
 refine aj4 (be1 (Q:=fun e f s=>(e=.ret/\∃ dj,Go.Sort.PermIn a' b' dk dj/\Go.Sort.SortedIn (ltOf cf) a' b' dj/\SKp emb tl id dj σ s)\/(e=.normal/\∃ (rst:Frm) (dj:Array α),f=(0,.slice id 0 d.size 1)::(1,.int .i64 a')::(2,.int .i64 b')::(3,.int .i64 lim2)::(4,.func (.func g) first cap)::(10,.bool wb)::(11,.bool wp)::(12,.int .i64 (b'-a':Nat))::(13,.int .i64 pv)::rst/\Go.Sort.PermIn a' b' dk dj/\SKp emb tl id dj σ s)) (an1 ?_) ?_)
 ·by_cases hgo:(wb=true/\wp=true)/\hh=1
  ·obtain ⟨⟨rfl,rfl⟩,e1⟩:=hgo;have hpi:=gs3 emb tl hC d3 a' b' om om om hS3.row;rw[hs3] at hpi;have hB3:=hB.perm om hP3;obtain ⟨q1,q2⟩:=Go.Sort.partialInsertionSort_holds hO d3 a' b' om om hB3;simp only[go_sem,e1];refine ad3 fok178 hpi ?_;rintro v s ⟨rfl,h1⟩;refine ⟨h1.next,?_⟩;generalize Go.Sort.partialInsertionSort (ltOf cf) d3 a' b'=pr at *;obtain ⟨dp,bp⟩:=pr
   cases bp with
   | true=>
    simp only[go_sem]
    first|exact .inl ⟨rfl,dp,Go.Sort.permIn_trans _ _ _ a' b' hP3 q1,q2 rfl,hS3.trans emb tl h1.kp⟩|exact .inl ⟨trivial,dp,Go.Sort.permIn_trans _ _ _ a' b' hP3 q1,q2 rfl,hS3.trans emb tl h1.kp⟩|exact .inl ⟨dp,Go.Sort.permIn_trans _ _ _ a' b' hP3 q1,q2 rfl,hS3.trans emb tl h1.kp⟩|exact ⟨dp,Go.Sort.permIn_trans _ _ _ a' b' hP3 q1,q2 rfl,hS3.trans emb tl h1.kp⟩
   | false=>
    simp only[go_sem]
    first|exact .inr ⟨rfl,_,dp,rfl,Go.Sort.permIn_trans _ _ _ a' b' hP3 q1,(hS3.trans emb tl h1.kp).up emb tl rfl (zb _)⟩|exact .inr ⟨trivial,_,dp,rfl,Go.Sort.permIn_trans _ _ _ a' b' hP3 q1,(hS3.trans emb tl h1.kp).up emb tl rfl (zb _)⟩|exact .inr ⟨_,dp,rfl,Go.Sort.permIn_trans _ _ _ a' b' hP3 q1,(hS3.trans emb tl h1.kp).up emb tl rfl (zb _)⟩|exact ⟨_,dp,rfl,Go.Sort.permIn_trans _ _ _ a' b' hP3 q1,(hS3.trans emb tl h1.kp).up emb tl rfl (zb _)⟩
  ·have hsk:(wb&&wp&&decide (hh=1))=false:=by
    cases wb<;>cases wp<;>simp at hgo ⊢;exact hgo
   cases wb with
   | false=>
    simp only[go_sem]
    first|exact .inr ⟨rfl,_,d3,rfl,hP3,hS3.up emb tl rfl (zb _)⟩|exact .inr ⟨trivial,_,d3,rfl,hP3,hS3.up emb tl rfl (zb _)⟩|exact .inr ⟨_,d3,rfl,hP3,hS3.up emb tl rfl (zb _)⟩|exact ⟨_,d3,rfl,hP3,hS3.up emb tl rfl (zb _)⟩
   | true=>
    cases wp with
    | false=>
     simp only[go_sem]
     first|exact .inr ⟨rfl,_,d3,rfl,hP3,hS3.up emb tl rfl (zb _)⟩|exact .inr ⟨trivial,_,d3,rfl,hP3,hS3.up emb tl rfl (zb _)⟩|exact .inr ⟨_,d3,rfl,hP3,hS3.up emb tl rfl (zb _)⟩|exact ⟨_,d3,rfl,hP3,hS3.up emb tl rfl (zb _)⟩
    | true=>
     have e1:¬ hh=1:=by simpa using hsk
     simp only[go_sem,e1]
     first|exact .inr ⟨rfl,_,d3,rfl,hP3,hS3.up emb tl rfl (zb _)⟩|exact .inr ⟨trivial,_,d3,rfl,hP3,hS3.up emb tl rfl (zb _)⟩|exact .inr ⟨_,d3,rfl,hP3,hS3.up emb tl rfl (zb _)⟩|exact ⟨_,d3,rfl,hP3,hS3.up emb tl rfl (zb _)⟩
 rintro e f t4 (⟨rfl,dj,q1,q2,hS⟩|⟨rfl,rst,d4,rfl,hP4,hS4⟩)
 ·obtain ⟨f1,f2⟩:=hF _ q1 q2;simp only[go_sem];exact ⟨_,f1,f2,hS⟩
 have hs4:d4.size=d.size:=by rw[hP4.1]; exact hsz
 have hB4:=hB.perm om hP4;have hF4:∀ R,Go.Sort.PermIn a' b' d4 R->Go.Sort.SortedIn (ltOf cf) a' b' R->Go.Sort.PermIn a b d R/\Go.Sort.SortedIn (ltOf cf) a b R:=fun R h1 h2=>hF R (Go.Sort.permIn_trans _ _ _ a' b' hP4 h1) h2
 have hid4:id<t4.next:=ze hid hS4.next;clear hP3 hS3 hs3 hP4 hF hB;simp only[go_sem]
 -- many that are the same
 have z1:(0:Int)<=(pv:Int):=om
 have z2:(pv:Int)<d.size:=om
 have xp:=ak1 emb tl (d:=d4) (k:=pv) om;refine aj4 (be1 (Q:=fun e f s=>(e=.exit 1/\∃ (mid:Nat) (dj:Array α),f=[(0,.slice id 0 d.size 1),(1,.int .i64 mid),(2,.int .i64 b'),(3,.int .i64 lim2),(4,.func (.func g) first cap),(10,.bool wb),(11,.bool wp)]/\a'<mid/\mid<=b'/\dj.size=d.size/\Go.Sort.Below (ltOf cf) mid b' dj/\SKp emb tl id dj σ s/\∀ R,Go.Sort.PermIn mid b' dj R->Go.Sort.SortedIn (ltOf cf) mid b' R->Go.Sort.PermIn a b d R/\Go.Sort.SortedIn (ltOf cf) a b R)\/(e=.normal/\∃ (rst:Frm),f=(0,.slice id 0 d.size 1)::(1,.int .i64 a')::(2,.int .i64 b')::(3,.int .i64 lim2)::(4,.func (.func g) first cap)::(10,.bool wb)::(11,.bool wp)::(12,.int .i64 (b'-a':Nat))::(13,.int .i64 pv)::rst/\SKp emb tl id d4 σ s)) (an1 ?_) ?_)
 ·by_cases ha0:0<a'
  ·have y0:(0:Int)<(a':Int):=om
   have y1:(0:Int)<=((a'-1:Nat):Int):=om
   have y2:((a'-1:Nat):Int)<d.size:=om
   have w1:=bl6 (a:=a') om om;have xa:=ak1 emb tl (d:=d4) (k:=a'-1) om;have hc:=hC.pc d4[a'-1]! d4[pv]!;simp only[go_sem,y0,y1,y2,z1,z2,w1,hS4.row,xa,xp,zc];refine am8 hC.ok hc ?_;by_cases hcf:cf d4[a'-1]! d4[pv]! < 0
   ·simp only[go_sem,hcf]
    first|exact .inr ⟨rfl,_,rfl,hS4.up emb tl rfl (za _ _)⟩|exact .inr ⟨trivial,_,rfl,hS4.up emb tl rfl (za _ _)⟩|exact .inr ⟨_,rfl,hS4.up emb tl rfl (za _ _)⟩|exact ⟨_,rfl,hS4.up emb tl rfl (za _ _)⟩
   ·obtain ⟨mid,d5,hx⟩:∃ mid d5,Go.Sort.partitionEqual (ltOf cf) d4 a' b' pv=(mid,d5):=⟨_,_,rfl⟩;have hpe:=fun U (h:SKp emb tl id d4 σ U)=>hw9 emb tl hC (σ:=U) d4 a' b' pv hp1 hp2 om om h.row
    rw[hs4,hx] at hpe;have hpe2:=fun U (h:SKp emb tl id d4 σ U)=>(hpe U h).mono (Q':=fun v s=>v=.int .i64 mid/\U.next<=s.next/\SKp emb tl id d5 σ s) fun v s ⟨e,h1⟩=>⟨e,h1.next,h.trans emb tl h1.kp⟩
    simp only[go_sem,hcf];refine ad3 fok179 (hpe2 _ (hS4.up emb tl rfl (za _ _))) ?_;rintro v s ⟨rfl,h1n,h1⟩;refine ⟨h1n,?_⟩;obtain ⟨r1,r2,r3,r4,r5⟩:=Go.Sort.round_eq hO (Go.Sort.partitionEqual_holds (ltOf cf)) ha0 hp1 hp2 om hB4 (ay2 hcf) hx;simp only[go_sem]
    first|exact .inl ⟨rfl,mid,d5,rfl,r1,r2,r3.trans hs4,r4,h1.up emb tl rfl (zb _),fun R k1 k2=>hF4 R (r5 R k1 k2).1 (r5 R k1 k2).2⟩|exact .inl ⟨trivial,mid,d5,rfl,r1,r2,r3.trans hs4,r4,h1.up emb tl rfl (zb _),fun R k1 k2=>hF4 R (r5 R k1 k2).1 (r5 R k1 k2).2⟩|exact .inl ⟨mid,d5,rfl,r1,r2,r3.trans hs4,r4,h1.up emb tl rfl (zb _),fun R k1 k2=>hF4 R (r5 R k1 k2).1 (r5 R k1 k2).2⟩
  ·have y0:¬ (0:Int)<(a':Int):=om
   simp only[go_sem,y0]
   first|exact .inr ⟨rfl,_,rfl,hS4.up emb tl rfl (za _ _)⟩|exact .inr ⟨trivial,_,rfl,hS4.up emb tl rfl (za _ _)⟩|exact .inr ⟨_,rfl,hS4.up emb tl rfl (za _ _)⟩|exact ⟨_,rfl,hS4.up emb tl rfl (za _ _)⟩
 rintro e f t5 (⟨rfl,mid,d5,rfl,m1,m2,m3,m4,m5,m6⟩|⟨rfl,rst,rfl,hS5⟩)
 ·simp only[go_sem];exact ⟨b'-mid,om,mid,b',lim2,wb,wp,d5,rfl,rfl,om,m2,hbb,hl2,m3,m4,m5,m6⟩
 have hid5:id<t5.next:=ze hid hS5.next;clear xp z1 z2 hid4 hS4;simp only[go_sem]
 -- parted
 have hpt:=ji5 emb tl hC (σ:=t5) d4 a' b' pv hp1 hp2 om om hS5.row;obtain ⟨mid,ap0,d6,hx⟩:∃ mid ap0 d6,Go.Sort.partition (ltOf cf) d4 a' b' pv=(mid,ap0,d6):=⟨_,_,_,rfl⟩;rw[hs4,hx] at hpt;refine aj4 (an1 ?_);simp only[go_sem];refine ad3 fok180 hpt ?_;rintro v t6 ⟨⟨ap,rfl⟩,h6⟩;refine ⟨h6.next,?_⟩;obtain ⟨r1,r2,r3,r4,r5,r6,r7⟩:=Go.Sort.round_part hO (Go.Sort.partition_holds (ltOf cf)) hp1 hp2 (show b'<=d4.size by omega) hB4 hx;have hS6:=hS5.trans emb tl h6.kp;have hid6:id<t6.next:=ze hid hS6.next;clear h6 hS5;have hs6:d6.size=d.size:=r3.trans hs4;have w1:=fx3 (a:=mid) (b:=a') r1 om;have w2:=fx3 (a:=b') (b:=mid) om om;have n8:¬ ((8:Int)=0):=by decide
 have w3:IntKind.i64.wrap (((b'-a':Nat):Int).tdiv 8)=(((b'-a')/8:Nat):Int):=by
  have:((b'-a':Nat):Int).tdiv 8=(((b'-a')/8:Nat):Int):=by rw[Int.tdiv_eq_ediv_of_nonneg om]; omega
  rw[this,wrap64 om om]
 have w4:=ac4 (i:=mid) om;simp only[go_sem];refine aj4 (an1 ?_);simp only[go_sem];refine aj4 (an1 ?_);simp only[go_sem,w1,w2];refine aj4 (an1 ?_);simp only[go_sem,n8,w3];refine aj4 (an1 ?_);simp only[go_sem];by_cases hlr:mid-a'<b'-mid
 ·have c3:((mid-a':Nat):Int)<((b'-mid:Nat):Int):=om
  have hih:=fun U (h:SKp emb tl id d6 σ U)=>ih a' mid lim2 d6 U om r1 om om om r4 (ze hid h.next) h.row
  rw[hs6] at hih;refine an1 ?_;simp only[go_sem,c3];refine ad3 fok120 (hih _ (hS6.up emb tl rfl (zb _))) ?_;rintro v t7 ⟨rfl,d7,k1,k2,h7⟩;refine ⟨h7.next,?_⟩;obtain ⟨g1,g2⟩:=r6 d7 k1 k2;have hS7:=(hS6.up emb tl (v:=t6) rfl (zb _)).trans emb tl h7;simp only[go_sem,w4];exact ⟨b'-(mid+1),om,mid+1,b',lim2,_,ap,d7,rfl,rfl,om,om,hbb,hl2,by rw[k1.1]; exact hs6,g1,hS7.up emb tl rfl (zb _),fun R h1 h2=>hF4 R (g2 R h1 h2).1 (g2 R h1 h2).2⟩
 ·have c3:¬ ((mid-a':Nat):Int)<((b'-mid:Nat):Int):=om
  have hih:=fun U (h:SKp emb tl id d6 σ U)=>ih (mid+1) b' lim2 d6 U om om om om om r5 (ze hid h.next) h.row
  rw[hs6] at hih;refine an1 ?_;simp only[go_sem,c3,w4];refine ad3 fok120 (hih _ (hS6.up emb tl rfl (zb _))) ?_;rintro v t7 ⟨rfl,d7,k1,k2,h7⟩;refine ⟨h7.next,?_⟩;obtain ⟨g1,g2⟩:=r7 d7 k1 k2;have hS7:=(hS6.up emb tl (v:=t6) rfl (zb _)).trans emb tl h7;simp only[go_sem];exact ⟨mid-a',om,a',mid,lim2,_,ap,d7,rfl,rfl,om,om,om,hl2,by rw[k1.1]; exact hs6,g1,hS7.up emb tl rfl (zb _),fun R h1 h2=>hF4 R (g2 R h1 h2).1 (g2 R h1 h2).2⟩
theorem do4 (hC:cd3 emb cf g first cap)(hO:Go.Sort.SWO (ltOf cf)){σ:Store}(d:Array α)(hz:d.size<256)(hid:id<σ.next)(ho:σ.obj id=zg (.row (bb7 emb tl d))) :
  C Tryz.prog EE 62 [.slice id 0 d.size 1,.func (.func g) first cap] σ fun v s=>v=.tuple []/\∃ d',Go.Sort.PermIn 0 d.size d d'/\Go.Sort.SortedIn (ltOf cf) 0 d.size d'/\SKp emb tl id d' σ s:=by
 refine C_f fok62 (nZ rfl) ?_
 have w0:IntKind.u64.wrap (d.size:Int)=d.size:=by
  show (d.size:Int)%18446744073709551616=d.size;omega
 simp only[ic62,go_sem,w0];refine aa3 fok121 (gs2 d.size hz) ?_;simp only[go_sem];have h8:=(cd6 d.size hz).1;refine ad3 fok120 (js4 emb tl hC hO (d.size+1) 0 d.size _ d σ om (zv _) (zb _) hz om (.inl rfl) hid ho) ?_;rintro v s ⟨rfl,hs⟩;obtain ⟨d',q1,q2,q3⟩:=hs;refine ⟨q3.next,?_⟩;simp only[go_sem];exact ⟨d',q1,q2,q3⟩
end
end Go.Id.Tryz
namespace Go.Id.Tryz
open Go Go.Id Go.Proofs Go.Shelf Go.Id.Md
theorem hy5 (σ:Store):C Tryz.prog EE 60 [.aa4 []] σ (eb4 σ []):=by
 refine ev9 ?_ ?_
 ·refine C_f fok60 (nZ rfl) ?_;simp only[ic60,go_sem,al2];exact ⟨Kept.refl σ,.inl ⟨rfl,rfl⟩⟩
 ·refine C_f fok60 (nZ rfl) ?_;simp only[ic60,go_sem,al2];rw[bp5 (by simp only[aa5,if_true]) rfl];simp only[go_sem];refine ⟨⟨by show σ.next<=σ.next+2; omega,fun i hi=>?_⟩,.inr ⟨σ.next,zb _,by show σ.next<σ.next+2; omega,rfl,by simp only[aa5,if_true]; rfl⟩⟩;have:¬ i=σ.next:=om
  simp only[aa5,this,if_false]
theorem hy6 (o:ag6):PC Tryz.prog EE 16 [o.v,.aa4 []] (.aa4 []):=by
 refine ae5 hE fok16 (nZ rfl) (ae9 (ah6 o) (ai1 [])) ?_;have olf:o.v.leaf=true:=rfl;have ocs:o.v.cs=[o.v]:=rfl;simp only[ic16,go_sem,olf,ocs];refine ad3 fok60 (hy5 _) ?_;rintro v s ⟨hk,hrow⟩;refine ⟨hk.next,?_⟩;simp only[go_sem];refine ad3 fok59 (jr4 (zs:=[]) (fun z=>!o.a.is z) (by simp) hrow.w fok61.1 (ao4 (ai3 (ah6 o))) fun z _=>fe1 o z) ?_;rintro v s2 ⟨⟨hn2,_⟩,hr2⟩;refine ⟨hn2,?_⟩;rcases hr2 with ⟨rfl,_⟩|⟨id,cs,h1,h2,rfl,_⟩
 ·simp only[go_sem];exact .dc1
 ·simp only[go_sem,List.filter_nil];exact .dc1
theorem ei3 (o:ag6)(hO:OOK o)(hr:∀ n,o.a.is n=true->(o.a.pk n).evr.rel≠[])(l:List Int)(hl:l.length<256) :
  PC Tryz.prog EE 16 [o.v,.aa4 (l.map Md.ae4)] (.aa4 ((o.bk8 l).map Md.ae4)):=by
 by_cases h0:l=[]
 ·subst h0
  have e:o.bk8 []=[]:=List.eq_nil_iff_forall_not_mem.2 fun x hx=>by
   have:=(o.bn7.1 hx).1;cases this
  rw[e];exact hy6 o
 ·exact et6 o hO hr l h0 om fun inst σ id tl d hd hid ho=>
   (do4 (an7 o) tl (js2 o hO) (kf9 o hr) d om hid ho).mono fun v s ⟨e,d',h1,h2,h3⟩=>⟨e,d',h1,h2,h3.next,h3.row⟩
end Go.Id.Tryz
namespace Go.Id.Tryz
open Go Go.Id Go.Proofs Go.Shelf Go.Id.Md
theorem cf4 {σ:Store}{id nid:Nat}(l:List aa2)(ho:σ.obj id=zg (.row []))(hl:l.length<2^31) :
  ∃ w σ',as5 σ nid 15 (.slice id 0 0 15) (au1 l)=zg (.slice w 0 l.length 15,σ')/\σ'.next=σ.next/\σ'.obj w=zg (.row (l.map aa2.cs).flatten)/\(w=id\/w=nid)/\∀ j,j≠id->j≠nid->σ'.obj j=σ.obj j:=by
 have ha:∀ x∈l.map aa2.cs,x.length=15/\x.all IV.leaf=true:=by
  intro x hx;obtain ⟨y,_,rfl⟩:=zz.1 hx;exact ⟨rfl,rfl⟩
 have hsrc:bl8 σ 15 (.aa4 (l.map aa2.cs))=zg (l.length,(l.map aa2.cs).flatten):=by
  have h1:(l.map aa2.cs).all (fun e=>e.length==15)=true:=List.all_eq_true.2 fun x hx=>by rw[(ha x hx).1]; rfl
  simp only[bl8,h1,if_true,zq]
 have hx1:(l.map aa2.cs).flatten.all IV.leaf=true:=ba8 fun x hx=>(ha x hx).2
 have hx0:¬ ((l.map aa2.cs).flatten.all IV.leaf=false):=by rw[hx1]; decide
 unfold as5;rw[hsrc];simp only[hx0,if_false,ho];by_cases h0:l.length=0
 ·have hxs:l=[]:=List.length_eq_zero_iff.1 h0;subst hxs;exact ⟨id,σ,rfl,rfl,ho,.inl rfl,fun _ _ _=>rfl⟩
 ·have h2:0+l.length<=2147483648:=om
  have h3:l.length<=2147483648:=om
  simp only[h0,and_false,if_false,zk,Nat.zero_mul,Nat.zero_add,List.drop_nil,List.all_nil,and_self,true_and,zj,h3,if_true];refine ⟨nid,_,rfl,rfl,?_,.inr rfl,fun j h3 h4=>?_⟩
  ·rw[aa5,if_pos rfl]
  ·rw[aa5,if_neg h4];show (if j=id then none else σ.obj j)=_;rw[if_neg h3]
end Go.Id.Tryz
namespace Go.Id.Tryz
open Go Go.Id Go.Proofs Go.Shelf Go.Id.Md
theorem gi6 (r:az3):(r.cs.drop 15).head? = zg (.int .i64 r.dl9):=rfl
theorem cq7 (p:Pool)(n:Int):PC Tryz.prog EE 72 [p.v,.int .i64 n] (.int .i64 (p.aw3 n)):=by
 unfold Pool.aw3;have hr:=da2 p.rows n;refine av9 fok72 (nZ rfl) fun σ=>?_
 by_cases h:0<=n/\n<p.rows.length
 ·rw[if_pos h];obtain ⟨k,rfl⟩:=Int.eq_ofNat_of_zero_le h.1;have hk:k<p.rows.length:=om
  have hb:(decide (0<=(k:Int))&&decide ((k:Int)<p.rows.length))=true:=by simp; omega
  rw[hb] at hr;have c1:(k:Int)<p.rows.length:=om
  have c2:(0:Int)<=k:=om
  have hg:(p.rows.map az3.cs).getD k []=p.rows[k].cs:=by simp[zf,hk]
  have e:p.rows.getD (k:Int).toNat ⟨default,0,0⟩=p.rows[k]:=by simp[zf,hk]
  rw[e];simp only[ic72,go_sem,Pool.v];refine aa3 fok87 hr ?_;simp only[go_sem,c1,c2,hg,bd3,gi6,and_self]
 ·rw[if_neg h];have hb:(decide (0<=n)&&decide (n<p.rows.length))=false:=by simpa using h
  rw[hb] at hr;simp only[ic72,go_sem,Pool.v];refine aa3 fok87 hr ?_;simp only[go_sem,and_self]
end Go.Id.Tryz
namespace Go.Id.Tryz
open Go Go.Id Go.Proofs Go.Shelf Go.Id.Md
theorem jf1 (o:ag6)(p q:aa2){i:Nat}(hi:i<o.a.l.length)(h62:o.a.l.length<2^62):PC Tryz.prog EE 128 [.ab5 p.cs,.ab5 [o.v],.ab5 [.int .i64 i],.ab5 q.cs] (.int .i64 (al7 (ag6.bb9 (decide (p.name=(o.a.pk i).name))) (ag6.bb9 (decide (q.name=(o.a.pk i).name))))):=by
 refine ae5 hE fok128 (nZ rfl) (en4 (.ab5 _ (ah7 p)) (ai3 (ah6 o)) (ai3 (.int _ _)) (.ab5 _ (ah7 q))) ?_;have d1:(i:Int)<o.a.l.length:=om
 have d2:(0:Int)<=i:=om
 have g1:(o.a.l.map aa2.cs).getD i []=o.a.l[i].cs:=by simp[zf,hi]
 have hpk:=fv8 o.a hi;rw[hpk];have p0:p.cs.head? = zg (.str p.name):=rfl;have q0:q.cs.head? = zg (.str q.name):=rfl;have i0:(o.a.l[i]).cs.head? = zg (.str (o.a.l[i]).name):=rfl;have y1:=bv6 (decide (p.name=(o.a.l[i]).name));have y2:=bv6 (decide (q.name=(o.a.l[i]).name));have hc:=bb3 (ag6.bb9 (decide (p.name=(o.a.l[i]).name))) (ag6.bb9 (decide (q.name=(o.a.l[i]).name)));rw[dd4];simp only[ic128,go_sem,ac5,af8,p0,d1,d2,g1,i0];refine aa8 (y1) ?_;simp only[go_sem,ac5,af8,q0,d1,d2,g1,i0];refine aa8 (y2) ?_;simp only[go_sem]
 first|refine aa3 fok67 (hc) ?_|refine aa8 (hc) ?_
 simp only[go_sem];exact ax5 rfl
theorem jf2 (p q:aa2)(hp:EVR.small p.evr)(hq:EVR.small q.evr):PC Tryz.prog EE 129 [.ab5 q.cs,.ab5 p.cs] (.int .i64 (ai5 q.evr p.evr)):=by
 refine ae5 hE fok129 (nZ rfl) (ae9 (.ab5 _ (ah7 q)) (.ab5 _ (ah7 p))) ?_;have h:=az7 q.evr p.evr hq hp;have p1:(p.cs.drop 1).take 3=p.evr.cs:=rfl;have q1:(q.cs.drop 1).take 3=q.evr.cs:=rfl;have p2:(p.cs.drop 1).length=14:=rfl;have q2:(q.cs.drop 1).length=14:=rfl;simp only[ic129,go_sem,af8,p1,q1,p2,q2];refine aa3 fok115 (h) ?_;simp only[go_sem];exact ax5 rfl
theorem jf3 (o:ag6)(hO:OOK o){i n m:Nat}(hi:i<o.a.l.length)(hn:n<o.a.l.length)(hm:m<o.a.l.length) :
  PC Tryz.prog EE 127 [.int .i64 n,.int .i64 m,.ab5 [o.v],.ab5 [.int .i64 i]] (.int .i64 (o.upF i n m)):=by
 refine ae5 hE fok127 (nZ rfl) (en4 (.int _ _) (.int _ _) (ai3 (ah6 o)) (ai3 (.int _ _))) ?_;have hlen:=hO.a.len;have hpn:=fv8 o.a hn;have hpm:=fv8 o.a hm;have en:=(hO.a.small _ (List.getElem_mem hn)).1;have em:=(hO.a.small _ (List.getElem_mem hm)).1
 have hv:o.upF i n m=orM [al7 (ag6.bb9 (decide ((o.a.l[n]).name=(o.a.pk i).name))) (ag6.bb9 (decide ((o.a.l[m]).name=(o.a.pk i).name))),ai5 o.a.l[m].evr o.a.l[n].evr]:=by
  unfold ag6.upF ag6.gg9 Md.lex;rw[hpn,hpm];simp only[orM]
  repeat (first|rfl|split)
  all_goals simp_all
 have c1:=jf1 o o.a.l[n] o.a.l[m] hi om;have c5:=jf2 o.a.l[n] o.a.l[m] en em;have b1:=ai3 (ah6 o);have b2:=ai3 (v:=.int .i64 i) (.int _ _);have b4:Bnd 0 (.ab5 o.a.l[n].cs):=.ab5 _ (ah7 _);have b5:Bnd 0 (.ab5 o.a.l[m].cs):=.ab5 _ (ah7 _)
 have hf:=cr5 [(128,[.ab5 o.a.l[n].cs,.ab5 [o.v],.ab5 [.int .i64 i],.ab5 o.a.l[m].cs]),(129,[.ab5 o.a.l[m].cs,.ab5 o.a.l[n].cs])]
  [al7 (ag6.bb9 (decide ((o.a.l[n]).name=(o.a.pk i).name))) (ag6.bb9 (decide ((o.a.l[m]).name=(o.a.pk i).name))),ai5 o.a.l[m].evr o.a.l[n].evr] rfl (by simp)
  (fun f hf c hc=>by
   simp only[zp,zy,or_false] at hf;rcases hf with rfl|rfl
   ·exact en4 b4 b1 b2 b5 c hc
   ·exact ae9 b5 b4 c hc)
  (fun k h1 h2=>by
   match k,h1 with
   | 0,_=>exact ⟨fok128.1,c1⟩
   | 1,_=>exact ⟨fok129.1,c5⟩
   | k+2,h=>simp at h; omega)
 rw[<- hv] at hf;have hov:=dd4 o;have d1:(n:Int)<o.a.l.length:=om
 have d2:(0:Int)<=n:=om
 have d3:(m:Int)<o.a.l.length:=om
 have d4:(0:Int)<=m:=om
 have g1:(o.a.l.map aa2.cs).getD n []=o.a.l[n].cs:=by simp[zf,hn]
 have g2:(o.a.l.map aa2.cs).getD m []=o.a.l[m].cs:=by simp[zf,hm]
 simp only[ic127,go_sem,hov,ac5,d1,d2,d3,d4,g1,g2,af8,ah2,af4];rw[<- hov];generalize hS:Store.mk 18 _=S;have s14:S.obj 14=zg (.cells o.a.l[n].cs):=by rw[<- hS]; simp only[aa5]; rfl
 have s15:S.obj 15=zg (.cells o.a.l[m].cs):=by rw[<- hS]; simp only[aa5,if_true]
 have f14:=bt9 s14 (ah7 _);have f15:=bt9 s15 (ah7 _);have hl1:∀ (x y:IV),[x].length=[y].length:=fun _ _=>rfl
 refine ad3 fok106 (be3 hE (hl1 _ _) (fun i hi=>?_) (by simp[IV.plain]) hf) ?_
 ·match i,hi with
  | 0,_=>
   refine .aa4 _ _ rfl (fun i hi=>?_) fun i hi j hj=>?_
   ·match i,hi with
    | 0,_=>rfl
    | 1,_=>rfl
   ·match i,hi,j,hj with
    | 0,_,0,_=>exact do2 (.cons f14 (.cons (.keep _ b1) (.cons (.keep _ b2) (.cons f15 .nil))))
    | 1,_,0,_=>exact do2 (.cons f15 (.cons f14 .nil))
 rintro v w ⟨rfl,rfl⟩;refine ⟨zb _,?_⟩;simp only[go_sem];exact ax5 rfl
theorem jf4 (o:ag6)(i:Int):PC Tryz.prog EE 70 [o.v,.int .i64 i] (.func (.func 127) [] [.ab5 [o.v],.ab5 [.int .i64 i]]):=by
 refine ae5 hE fok70 (nZ rfl) (ae9 (ah6 o) (.int _ _)) ?_;have olf:o.v.leaf=true:=rfl;have ocs:o.v.cs=[o.v]:=rfl;simp only[ic70,go_sem,olf,ocs];exact .keep _ (.func _ _ _ (fun c hc=>by cases hc) (ae9 (ai3 (ah6 o)) (ai3 (.int _ _))))
theorem gi7 (i n m:Int):PC Tryz.prog EE 66 [.int .i64 n,.int .i64 m,.ab5 [.int .i64 i]] (.int .i64 (ag6.cy9 i n m)):=by
 refine ae5 hE fok66 (nZ rfl) (at1 (.int _ _) (.int _ _) (ai3 (.int _ _))) ?_;have y1:=bv6 (decide (n=i));have y2:=bv6 (decide (m=i));have hc:=bb3 (ag6.bb9 (decide (n=i))) (ag6.bb9 (decide (m=i)));unfold ag6.cy9;simp only[ic66,go_sem];refine aa8 (y1) ?_;simp only[go_sem];refine aa8 (y2) ?_;simp only[go_sem]
 first|refine aa3 fok67 (hc) ?_|refine aa8 (hc) ?_
 simp only[go_sem];exact ax5 rfl
theorem gi8 (o:ag6)(n m:Int):PC Tryz.prog EE 71 [.int .i64 n,.int .i64 m,.ab5 [o.v]] (.int .i64 (o.cz1 n m)):=by
 refine ae5 hE fok71 (nZ rfl) (at1 (.int _ _) (.int _ _) (ai3 (ah6 o))) ?_;have p1:=cq7 o.a.p n;have p2:=cq7 o.a.p m;have y1:=bv6 (decide (0<=o.a.p.aw3 n));have y2:=bv6 (decide (0<=o.a.p.aw3 m));have hc:=bb3 (ag6.bb9 (decide (0<=o.a.p.aw3 n))) (ag6.bb9 (decide (0<=o.a.p.aw3 m)));unfold ag6.cz1;rw[dd4];simp only[ic71,go_sem,ac5];refine aa8 (p1) ?_;simp only[go_sem];refine aa8 (y1) ?_;simp only[go_sem,ac5];refine aa8 (p2) ?_;simp only[go_sem];refine aa8 (y2) ?_;simp only[go_sem]
 first|refine aa3 fok67 (hc) ?_|refine aa8 (hc) ?_
 simp only[go_sem];exact ax5 rfl
structure jf5 (o:ag6) (f:Nat×List IV) (c:Int->Int->Int):Prop where
 ok:okF Tryz.prog f.1=true
 bnd:∀ x∈f.2,Bnd 0 x
 pc:∀ n m:Nat,n<o.a.l.length->m<o.a.l.length->PC Tryz.prog EE f.1 ([.int .i64 n,.int .i64 m]++f.2) (.int .i64 (c n m))
theorem hg7 (o:ag6)(hO:OOK o)(fs:List (Nat×List IV))(cs:List (Int->Int->Int))(hl:fs.length=cs.length)(hn:fs.length<2^40)(hf:∀ k (h1:k<fs.length) (h2:k<cs.length),jf5 o fs[k] cs[k])
  {n m:Nat} (h1:n<o.a.l.length) (h2:m<o.a.l.length):PC Tryz.prog EE 124 [.int .i64 n,.int .i64 m,.ab5 [.aa4 (fs.map fnC)],.ab5 [o.v]] (.int .i64 (ed7 cs o.cmp n m)):=by
 have hbf:Bnd 0 (.aa4 (fs.map fnC)):=.aa4 _ fun e he c hc=>by
  obtain ⟨f,hf',rfl⟩:=zz.1 he;obtain ⟨k,hk,rfl⟩:=z9.1 hf'
  cases hc with
  | head=>exact .func _ _ _ (fun c hc=>by cases hc) (hf k hk om).bnd
  | tail _ h=>cases h
 refine ae5 hE fok124 (nZ rfl) (en4 (.int _ _) (.int _ _) (ai3 hbf) (ai3 (ah6 o))) ?_;have hcmp:=cp1 o hO h1 h2;simp only[ic124,go_sem];refine ab1 noT (fun k fr s=>fr=[(0,.int .i64 n),(1,.int .i64 m),(3,.ab5 [o.v]),(10,.aa4 (fs.map fnC)),(11,.int .i64 fs.length),(12,.int .i64 k)]/\ed7 cs o.cmp n m=ed7 (cs.drop k) o.cmp n m) fs.length ⟨rfl,rfl⟩ ?_;rintro k fr s hle ⟨rfl,hI⟩;by_cases hlt:k<fs.length
 ·obtain ⟨f,hf',hget0,hdr,hget,htk⟩:=ad6 fs k hlt;have hlt2:k<cs.length:=om
  have c1:(k:Int)<fs.length:=om
  have c2:(0:Int)<=k:=om
  have w1:=ac4 (i:=k) om;have hA:=hf k hlt hlt2
  have hfi:fs[k]=f:=by
   have:=List.getElem?_eq_getElem hlt; rw[this] at hget0; exact zg.inj hget0
  rw[hfi] at hA;have hpc:=hA.pc n m h1 h2;rw[List.drop_eq_getElem_cons hlt2] at hI;simp only[ed7,Md.lex] at hI;generalize cs[k] (n:Int) (m:Int)=x at *;simp only[go_sem,c1,c2,hget,fnC];refine am8 hA.ok hpc ?_;by_cases hx:x=0
  ·subst hx;simp only[go_sem,w1];exact ⟨hlt,by simpa using hI⟩
  ·rw[if_neg hx] at hI;simp only[go_sem,hx];rw[hI]; exact ad1 _ _
 ·have hk:k=fs.length:=om
  subst hk;have c1:¬ (fs.length:Int)<fs.length:=om
  rw[hl,z3] at hI;simp only[ed7] at hI;simp only[go_sem,c1];refine aa3 fok55 (hcmp) ?_;simp only[go_sem];rw[hI]; exact ad1 _ _
theorem hg8 {σ:Store}(fv:IV):C Tryz.prog EE 173 [.aa1,.int .i64 0,.int .i64 0,fv] σ fun v s=>v=.tuple []/\σ.next<=s.next:=by
 refine C_f fok173 (nZ rfl) ?_;have w0:IntKind.i64.wrap (0+1)=1:=by decide
 simp only[ic173,go_sem,w0];refine ab1 noT (fun k fr t=>k=0/\fr=[(0,.aa1),(1,.int .i64 0),(2,.int .i64 0),(3,fv),(8,.int .i64 1)]/\σ.next<=t.next) 0 ⟨rfl,rfl,zb _⟩ ?_;rintro k fr t _ ⟨rfl,rfl,ht⟩;simp only[go_sem];exact ht
theorem in9 {σ:Store}(fv:IV):C Tryz.prog EE 62 [.aa1,fv] σ fun v s=>v=.tuple []/\σ.next<=s.next:=by
 have hp:∀ lim:Int,C Tryz.prog EE 120 [.aa1,.int .i64 0,.int .i64 0,.int .i64 lim,fv] σ fun v s=>v=.tuple []/\σ.next<=s.next:=fun lim=>by
  refine C_f fok120 (nZ rfl) ?_;have w0:IntKind.i64.wrap (0-0)=0:=by decide
  have c1:(0:Int)<=12:=by decide
  simp only[ic120,go_sem];refine ab1 noT (fun k fr t=>k=0/\fr=[(0,.aa1),(1,.int .i64 0),(2,.int .i64 0),(3,.int .i64 lim),(4,fv),(10,.bool true),(11,.bool true)]/\σ.next<=t.next) 0 ⟨rfl,rfl,zb _⟩ ?_;rintro k fr t _ ⟨rfl,rfl,ht⟩;simp only[go_sem,w0,c1];refine ad3 fok173 (hg8 fv) ?_;rintro v s ⟨rfl,hs⟩;refine ⟨hs,?_⟩;simp only[go_sem];exact zh ht hs
 refine C_f fok62 (nZ rfl) ?_;have w0:IntKind.u64.wrap 0=0:=by decide
 have hl:=gs2 0 (by decide);simp only[ic62,go_sem,w0];refine aa3 fok121 hl ?_;simp only[go_sem];refine ad3 fok120 (hp _) ?_;rintro v s ⟨rfl,hs⟩;refine ⟨hs,?_⟩;simp only[go_sem];exact hs
theorem kf2 (o:ag6)(hr:∀ n,o.a.is n=true->(o.a.pk n).evr.rel≠[]){c:Int->Int->Int}(hc:WO o.dc9 c):Go.Sort.SWO (ltOf fun x y:fx2 o=>c (an7 o x) (an7 o y)):=by
 have hs:∀ x:fx2 o,o.dc9 (an7 o x):=fun x=>hr _ (by unfold an7; rw[ad9.bn5]; exact decide_eq_true x.2)
 have hself:∀ n,c n n=0:=fun n=>by have:=hc.neg n n; omega
 refine ⟨fun x=>?_,fun x y z h1 h2=>?_,fun x y z h1 h2=>?_⟩
 ·show decide (c (an7 o x) (an7 o x)<0)=false;rw[hself]; rfl
 ·unfold ltOf at *;have t1:=hc.tr (an7 o x) (an7 o y) (an7 o z) (hs x) (hs y) (hs z);have t2:=hc.tr (an7 o z) (an7 o x) (an7 o y) (hs z) (hs x) (hs y);have n1:=hc.neg (an7 o x) (an7 o y);have n2:=hc.neg (an7 o y) (an7 o z);have n3:=hc.neg (an7 o x) (an7 o z);simp only[decide_eq_true_eq] at h1 h2 ⊢;omega
 ·unfold ltOf at *;have t1:=hc.tr (an7 o z) (an7 o y) (an7 o x) (hs z) (hs y) (hs x);have n1:=hc.neg (an7 o x) (an7 o y);have n2:=hc.neg (an7 o y) (an7 o z);have n3:=hc.neg (an7 o x) (an7 o z);simp only[decide_eq_false_iff_not] at h1 h2 ⊢;omega
theorem ep2 (o:ag6)(hO:OOK o)(hr:∀ n,o.a.is n=true->(o.a.pk n).evr.rel≠[])(hp:o.a.l.length<256)(i:Int)(fs:List (Nat×List IV))(cs:List (Int->Int->Int))(hl:fs.length=cs.length)(hn:fs.length<2^40)
  (hf:∀ k (h1:k<fs.length) (h2:k<cs.length),jf5 o fs[k] cs[k]) (hw:∀ c∈cs,WO o.dc9 c) :
  PC Tryz.prog EE 65 [o.v,.int .i64 i,.aa4 (fs.map fnC)] (.aa4 ((o.bn3 cs i).map Md.ae4)):=by
 have hbf:Bnd 0 (.aa4 (fs.map fnC)):=.aa4 _ fun e he c hc=>by
  obtain ⟨f,hf',rfl⟩:=zz.1 he;obtain ⟨k,hk,rfl⟩:=z9.1 hf'
  cases hc with
  | head=>exact .func _ _ _ (fun c hc=>by cases hc) (hf k hk om).bnd
  | tail _ h=>cases h
 refine ae5 hE fok65 (nZ rfl) (at1 (ah6 o) (.int _ _) hbf) ?_;have olf:o.v.leaf=true:=rfl;have ocs:o.v.cs=[o.v]:=rfl;have hi1:=bu1 o i;have hpm:=o.cm7 cs i
 cases his:o.a.is i with
 | false=>
  rw[his] at hi1
  have hsu:o.a.av8 i=[]:=by
   unfold ad9.av8 ad9.inst;rw[his]; rfl
  rw[hsu] at hpm;rw[z6.1 hpm];simp only[ic65,go_sem,olf,ocs];refine aa3 fok50 (hi1) ?_;simp only[go_sem]
  exact .dc1
 | true=>
 rw[his] at hi1;simp only[ic65,go_sem,olf,ocs];refine aa3 fok50 (hi1) ?_;have ohd:∀ c:List IV,o.v=.ab5 (o.a.v::c)->o.v=.ab5 (o.a.v::c):=fun _ h=>h
 have onc:do9 o.v=zg o.v:=rfl;have omv:ce5 0 o.v=zg o.v:=rfl;have old:∀ σ:Store,aw4 σ none o.v=zg o.a.v:=fun _=>rfl
 simp only[go_sem,onc,omv,old];refine ad3 fok123 (fu9 o.a i hO.a _) ?_;rintro v s ⟨hk,hrow⟩;refine ⟨hk.next,?_⟩;simp only[go_sem];rcases hrow with ⟨rfl,h0⟩|⟨id,row,hid1,hid2,rfl,ho,htk,hle⟩
 ·refine ad3 fok62 (in9 _) ?_;rintro v s2 ⟨rfl,hs2⟩;refine ⟨hs2,?_⟩;simp only[go_sem];rw[h0] at hpm;rw[z6.1 hpm];exact .dc1
 -- the numbers that there are,put into their row
 obtain ⟨zs,hzs⟩:∃ zs,zs=o.a.av8 i:=⟨_,rfl⟩;have hzis:∀ z∈zs,∃ k:Nat,z=k/\k<o.a.l.length:=fun z hz=>dv9 (o.av3 (by rw[<- hzs]; exact hz))
 have hzl:zs.length<256:=by
  rw[hzs];unfold ad9.av8;split
  ·exact Nat.lt_of_le_of_lt (av4 _ _) hp
  ·show 0<256; decide
 rw[<- hzs] at htk hle ⊢
 obtain ⟨ds,hds⟩:∃ ds:List (fx2 o),ds.map (an7 o)=zs:=by
  clear htk hle hzs hzl
  induction zs with
  | nil=>exact ⟨[],rfl⟩
  | cons z zs ih=>
   obtain ⟨ds,h⟩:=ih fun y hy=>hzis y (qa _ hy)
   obtain ⟨k,rfl,hk⟩:=hzis z zt;exact ⟨⟨k,hk⟩::ds,by rw[zd,h]; rfl⟩
 have hdl:ds.length=zs.length:=by rw[<- hds,zq]
 obtain ⟨i0,_,hi0⟩:=dv9 his;have inst:Inhabited (fx2 o):=⟨⟨i0,hi0⟩⟩;have hWO:=ds5 o.wo cs hw;have hZ:=ca8 (fun _ _=>o.bj1) cs;have hCm:cd3 (an7 o) (fun x y:fx2 o=>ed7 cs o.cmp (an7 o x) (an7 o y)) 124 [] [.ab5 [.aa4 (fs.map fnC)],.ab5 [o.v]]:=⟨fok124.1,fun x y=>hg7 o hO fs cs hl hn hf x.2 y.2⟩
 have hrw:s.obj id=zg (.row (bb7 (an7 o) (row.drop zs.length) ds.toArray)):=by
  rw[ho,bb7,et4];have h2:ds.toArray.toList.map (fun x=>IV.int .i64 (an7 o x))=zs.map bk6:=by rw[<- hds,List.map_map]; rfl
  rw[h2,<- htk,List.take_append_drop]
 have hsz:ds.toArray.size=zs.length:=hdl;have hS:=do4 (an7 o) (row.drop zs.length) hCm (kf2 o hr hWO) ds.toArray om hid2 hrw;rw[hsz] at hS;refine ad3 fok62 hS ?_;rintro v s3 ⟨rfl,d',hP,hU,hK⟩;refine ⟨hK.next,?_⟩;simp only[go_sem];obtain ⟨zs2,hz2⟩:∃ zs2,d'.toList.map (an7 o)=zs2:=⟨_,rfl⟩;have hd's:d'.size=zs.length:=by rw[hP.1]; exact hdl
 have hz2l:zs2.length=zs.length:=by rw[<- hz2,zq,Array.length_toList,hd's]
 have hpm2:zs2.Perm zs:=by
  have h3:=hP.2.2;have e1:d'.extract 0 zs.length=d':=by rw[<- hd's]; exact qb
  have e2:ds.toArray.extract 0 zs.length=ds.toArray:=by rw[<- hsz]; exact qb
  rw[e1,e2] at h3;have h4:d'.toList.Perm ds:=h3;rw[<- hz2,<- hds];exact h4.map _
 have hup:zs2.Pairwise fun x y=>x=y\/ed7 cs o.cmp x y<0:=by
  refine List.pairwise_iff_getElem.2 fun i j hi hj hij=>?_
  have hi2:i<d'.size:=by rw[hd's]; omega
  have hj2:j<d'.size:=by rw[hd's]; omega
  have h4:=hU i j (zv _) hij om;rw[getElem!_pos d' i hi2,getElem!_pos d' j hj2] at h4;have g1:zs2[i]=an7 o d'[i]:=by simp[<- hz2]
  have g2:zs2[j]=an7 o d'[j]:=by simp[<- hz2]
  rw[g1,g2];unfold ltOf at h4;have h5:¬ ed7 cs o.cmp (an7 o d'[j]) (an7 o d'[i])<0:=of_decide_eq_false h4;have n1:=hWO.neg (an7 o d'[i]) (an7 o d'[j]);by_cases e:ed7 cs o.cmp (an7 o d'[i]) (an7 o d'[j])=0
  ·exact .inl (hZ _ _ e)
  ·exact .inr om
 have hone:zs2=o.bn3 cs i:=by
  unfold ag6.bn3;rw[hzs] at hpm2;exact ed9 (S:=o.dc9) hWO hZ (fun x hx=>hr x (o.av3 hx)) (o.bi8 i) hpm2 hup
 rw[<- hone]
 have hrow2:s3.obj id=zg (.row (zs2.map bk6++row.drop zs.length)):=by
  rw[hK.row,bb7,et4,<- hz2,List.map_map]; rfl
 have hfz:=cv4 (zs:=zs2) hrow2 (by rw[List.take_append_of_le_length (by simp),List.take_of_length_le (by simp)]) (by simp);rw[hz2l] at hfz;exact hfz
end Go.Id.Tryz
namespace Go.Id.Tryz
open Go Go.Id Go.Proofs Go.Shelf Go.Id.Md
theorem gi9 (o:ag6)(i:Int):jf5 o (66,[.ab5 [.int .i64 i]]) (ag6.cy9 i):=
 ⟨fok66.1,ao4 (ai3 (.int _ _)),fun n m _ _=>gi7 i n m⟩
theorem gj1 (o:ag6):jf5 o (71,[.ab5 [o.v]]) o.cz1 :=
 ⟨fok71.1,ao4 (ai3 (ah6 o)),fun n m _ _=>gi8 o n m⟩
theorem gj2 (o:ag6)(hO:OOK o){i:Nat}(hi:i<o.a.l.length):jf5 o (127,[.ab5 [o.v],.ab5 [.int .i64 i]]) (o.upF i):=
 ⟨fok127.1,ae9 (ai3 (ah6 o)) (ai3 (.int _ _)),fun n m h1 h2=>jf3 o hO hi h1 h2⟩
theorem io1 (fs:List (Nat×List IV))(hb:∀ f∈fs,∀ c∈f.2,Bnd 0 c):Bnd 0 (.aa4 (fs.map fnC)):=.aa4 _ fun e he c hc=>by
 obtain ⟨f,hf,rfl⟩:=zz.1 he
 cases hc with
 | head=>exact .func _ _ _ (fun c hc=>by cases hc) (hb f hf)
 | tail _ h=>cases h
theorem ez2 (o:ag6){i:Int}(his:o.a.is i=false)(fs:List (Nat×List IV))(cs:List (Int->Int->Int))(hb:∀ f∈fs,∀ c∈f.2,Bnd 0 c) :
  PC Tryz.prog EE 65 [o.v,.int .i64 i,.aa4 (fs.map fnC)] (.aa4 ((o.bn3 cs i).map Md.ae4)):=by
 refine ae5 hE fok65 (nZ rfl) (at1 (ah6 o) (.int _ _) (io1 fs hb)) ?_;have olf:o.v.leaf=true:=rfl;have ocs:o.v.cs=[o.v]:=rfl;have hi1:=bu1 o i;have hpm:=o.cm7 cs i;rw[his] at hi1
 have hsu:o.a.av8 i=[]:=by
  unfold ad9.av8 ad9.inst;rw[his]; rfl
 rw[hsu] at hpm;rw[z6.1 hpm];simp only[ic65,go_sem,olf,ocs];refine aa3 fok50 (hi1) ?_;simp only[go_sem];exact .dc1
structure hg9 (o:ag6):Prop where
 ok:OOK o
 rel:∀ n,o.a.is n=true->(o.a.pk n).evr.rel≠[]
 few:o.a.l.length<256
theorem hh2 (o:ag6)(hO:hg9 o)(i:Int):PC Tryz.prog EE 18 [o.v,.int .i64 i] (.aa4 ((o.bn3 [ag6.cy9 i] i).map Md.ae4)):=by
 have hw:=ep2 o hO.ok hO.rel hO.few i [(66,[.ab5 [.int .i64 i]])] [ag6.cy9 i] rfl (nZ rfl) (fun k h1 h2=>by
  match k,h1 with
  | 0,_=>exact gi9 o i) (o.ex4 hO.rel)
 refine ae5 hE fok18 (nZ rfl) (ae9 (ah6 o) (.int _ _)) ?_;simp only[zd,zl,fnC] at hw;simp only[ic18,go_sem]
 first|refine aa3 fok65 (hw) ?_|refine aa8 (hw) ?_
 simp only[go_sem];exact .keep _ (ai1 _)
theorem gj3 (o:ag6)(hO:hg9 o)(i:Int):PC Tryz.prog EE 20 [o.v,.int .i64 i] (.aa4 ((o.bn3 [o.upF i] i).map Md.ae4)):=by
 have hw:PC Tryz.prog EE 65 [o.v,.int .i64 i,.aa4 ([(127,[.ab5 [o.v],.ab5 [.int .i64 i]])].map fnC)] (.aa4 ((o.bn3 [o.upF i] i).map Md.ae4)):=by
  cases his:o.a.is i with
  | false=>exact ez2 o his _ _ fun f hf=>by rw[qc] at hf; subst hf; exact ae9 (ai3 (ah6 o)) (ai3 (.int _ _))
  | true=>
   obtain ⟨k,rfl,hk⟩:=dv9 his
   exact ep2 o hO.ok hO.rel hO.few k [_] [_] rfl (nZ rfl) (fun j h1 h2=>by
    match j,h1 with
    | 0,_=>exact gj2 o hO.ok hk) (o.gh6 hO.rel)
 have hu:=jf4 o i;refine ae5 hE fok20 (nZ rfl) (ae9 (ah6 o) (.int _ _)) ?_;simp only[zd,zl,fnC] at hw;simp only[ic20,go_sem]
 first|refine aa3 fok70 (hu) ?_|refine aa8 (hu) ?_
 simp only[go_sem]
 first|refine aa3 fok65 (hw) ?_|refine aa8 (hw) ?_
 simp only[go_sem];exact .keep _ (ai1 _)
theorem hh4 (o:ag6)(hO:hg9 o)(i:Int):PC Tryz.prog EE 22 [o.v,.int .i64 i] (.aa4 ((o.bn3 [o.cz1,o.upF i] i).map Md.ae4)):=by
 have hw:PC Tryz.prog EE 65 [o.v,.int .i64 i,.aa4 ([(71,[.ab5 [o.v]]),(127,[.ab5 [o.v],.ab5 [.int .i64 i]])].map fnC)] (.aa4 ((o.bn3 [o.cz1,o.upF i] i).map Md.ae4)):=by
  cases his:o.a.is i with
  | false=>
   exact ez2 o his _ _ fun f hf=>by
    simp only[zp,zy,or_false] at hf;rcases hf with rfl|rfl
    ·exact ao4 (ai3 (ah6 o))
    ·exact ae9 (ai3 (ah6 o)) (ai3 (.int _ _))
  | true=>
   obtain ⟨k,rfl,hk⟩:=dv9 his
   exact ep2 o hO.ok hO.rel hO.few k [_,_] [_,_] rfl (nZ rfl) (fun j h1 h2=>by
    match j,h1 with
    | 0,_=>exact gj1 o
    | 1,_=>exact gj2 o hO.ok hk) (o.ex5 hO.rel)
 have hu:=jf4 o i;have olf:o.v.leaf=true:=rfl;have ocs:o.v.cs=[o.v]:=rfl;refine ae5 hE fok22 (nZ rfl) (ae9 (ah6 o) (.int _ _)) ?_;simp only[zd,zl,fnC] at hw;simp only[ic22,go_sem,olf,ocs]
 first|refine aa3 fok70 (hu) ?_|refine aa8 (hu) ?_
 simp only[go_sem]
 first|refine aa3 fok65 (hw) ?_|refine aa8 (hw) ?_
 simp only[go_sem];exact .keep _ (ai1 _)
theorem jq7:∀ (ab3:List am5) (w n:Int),(lgP 800 ab3 w n).1<800->0<=n->n+(af5 ab3:Nat)<2^40->(lgP 800 ab3 w n).2=n+(af5 ab3:Nat):=by
 intro ab3
 induction ab3 with
 | nil=>intro w n _ _ _; simp[lgP,af5]
 | cons r rs ih=>
  intro w n h h0 hb;have hs:af5 (r::rs)=r.packages.length+af5 rs:=by simp[af5]
  rw[hs] at hb ⊢;by_cases hw:w<800
  ·have e:lgP 800 (r::rs) w n=lgP 800 rs (wr (wr (w+1)+szL r.packages 800 0)) (wr (n+r.packages.length)):=by rw[lgP,if_pos hw]
   rw[e] at h ⊢;have w1:wr (n+r.packages.length)=n+r.packages.length:=wrap64 om om;rw[w1] at h ⊢;rw[ih _ _ h om om];omega
  ·have e:lgP 800 (r::rs) w n=(w,n):=by rw[lgP,if_neg hw]
   rw[e] at h;exact absurd h hw
theorem ep3 {ab3:List am5}{inst:List aa2}{r:Req}{p:Pool}(hl:cd4 ab3 inst r=false)(hn:ce2 ab3 inst=.inl p):p.rows.length<=40:=by
 unfold cd4 at hl;simp only[Bool.or_eq_false_iff,decide_eq_false_iff_not] at hl;obtain ⟨⟨⟨h1,h2⟩,_⟩,_⟩:=hl;have hp:=bt2 hn
 have hlen:p.rows.length=inst.length+af5 ab3:=by
  have h3:(ad4 p).length=inst.length+af5 ab3:=by
   rw[bn4 hn,zi,List.length_flatMap]; rfl
  rw[<- h3]; simp[ad4]
 have:=jq7 ab3 (szL inst 800 0) inst.length om om (by have:=hp.2.1; omega);omega
end Go.Id.Tryz
namespace Go.Id.Md
open Go Go.Id
theorem ag6.bj2 (o:ag6){i:Int}(h:o.a.av8 i≠[]):o.a.is i=true:=by
 obtain ⟨x,l,hx⟩:=z5 h;have hm:x∈o.a.av8 i:=by rw[hx]; exact zt
 by_cases hi:o.a.is i=true
 ·exact hi
 ·have hin:o.a.inst i=false:=by unfold ad9.inst; simp[show o.a.is i=false by simpa using hi]
  unfold ad9.av8 at hm;rw[hin] at hm;simp at hm
end Go.Id.Md
namespace Go.Id.Tryz
open Go Go.Id Go.Proofs Go.Shelf Go.Id.Md
structure Z25 (o:ag6):Prop where
 rel:∀ n,o.a.is n=true->(o.a.pk n).evr.rel≠[]
 rep:∀ n:Nat,n<o.a.l.length->decide (0<=o.a.p.aw3 n)=!decide ((n:Int)<o.a.p.inst)
theorem Z25.at {o:ag6}(h:Z25 o){n:Int}(hn:o.a.is n=true):decide (0<=o.a.p.aw3 n)=!decide (n<o.a.p.inst):=by
 unfold ad9.is at hn;simp only[zo,decide_eq_true_eq] at hn;obtain ⟨m,rfl⟩:∃ m:Nat,n=m:=⟨n.toNat,om⟩;exact h.rep m om
theorem fs6 (o:ag6)(P:List Int)(hY:Y25 o P)(hZ:Z25 o)(i:Int):PC Tryz.prog EE 19 [yv o.a P,.int .i64 i] (.aa4 ((o.bn3 [ag6.cy9 i] i).map Md.ae4)):=by
 refine ae5 hE fok19 (nZ rfl) (ae9 (db3 o.a P) (.int _ _)) ?_;have hS:=bb6 o.a hY.ok.a i;have hl:=bu3 o.a hY.ok.a i;have hR:=cv6 o P hY 1 (by decide) (o.a.av8 i) om (fun z hz=>o.av3 hz) i (fun h=>o.bj2 h);have hw:gt6 (o.al5 1 i) (o.a.av8 i)=o.bn3 [ag6.cy9 i] i:=eo7 (S:=fun n=>o.a.is n=true) ((ds5 o.wo [ag6.cy9 i] (o.ex4 hZ.rel)).sub fun n hn=>hZ.rel n hn) (ca8 (fun _ _=>o.bj1) _) (fun n m hnm hn hm=>o.im8 hnm) _ (fun x hx=>o.av3 hx) (o.bi8 i);rw[hw] at hR;have hc:(((1:Nat)):Int)=1:=rfl;rw[hc] at hR;simp only[ic19,go_sem,bu6,y_0,ac5,cr4,bd6];rw[<- bu6];refine aa3 fok69 (hS) ?_;simp only[go_sem,ct4,ap4];refine aa3 fok64 (hR) ?_;simp only[go_sem];exact .keep _ (ai1 _)
theorem gj4 (o:ag6)(P:List Int)(hY:Y25 o P)(hZ:Z25 o)(i:Int):PC Tryz.prog EE 21 [yv o.a P,.int .i64 i] (.aa4 ((o.bn3 [o.upF i] i).map Md.ae4)):=by
 refine ae5 hE fok21 (nZ rfl) (ae9 (db3 o.a P) (.int _ _)) ?_;have hS:=bb6 o.a hY.ok.a i;have hl:=bu3 o.a hY.ok.a i;have hR:=cv6 o P hY 2 (by decide) (o.a.av8 i) om (fun z hz=>o.av3 hz) i (fun h=>o.bj2 h);have hw:gt6 (o.al5 2 i) (o.a.av8 i)=o.bn3 [o.upF i] i:=eo7 (S:=fun n=>o.a.is n=true) ((ds5 o.wo [o.upF i] (o.gh6 hZ.rel)).sub fun n hn=>hZ.rel n hn) (ca8 (fun _ _=>o.bj1) _) (fun n m hnm hn hm=>o.im9 i n m) _ (fun x hx=>o.av3 hx) (o.bi8 i);rw[hw] at hR;have hc:(((2:Nat)):Int)=2:=rfl;rw[hc] at hR;simp only[ic21,go_sem,bu6,y_0,ac5,cr4,bd6];rw[<- bu6];refine aa3 fok69 (hS) ?_;simp only[go_sem,ct4,ap4];refine aa3 fok64 (hR) ?_;simp only[go_sem];exact .keep _ (ai1 _)
theorem fs7 (o:ag6)(P:List Int)(hY:Y25 o P)(hZ:Z25 o)(i:Int):PC Tryz.prog EE 23 [yv o.a P,.int .i64 i] (.aa4 ((o.bn3 [o.cz1,o.upF i] i).map Md.ae4)):=by
 refine ae5 hE fok23 (nZ rfl) (ae9 (db3 o.a P) (.int _ _)) ?_;have hS:=bb6 o.a hY.ok.a i;have hl:=bu3 o.a hY.ok.a i;have hR:=cv6 o P hY 3 (by decide) (o.a.av8 i) om (fun z hz=>o.av3 hz) i (fun h=>o.bj2 h);have hw:gt6 (o.al5 3 i) (o.a.av8 i)=o.bn3 [o.cz1,o.upF i] i:=eo7 (S:=fun n=>o.a.is n=true) ((ds5 o.wo [o.cz1,o.upF i] (o.ex5 hZ.rel)).sub fun n hn=>hZ.rel n hn) (ca8 (fun _ _=>o.bj1) _) (fun n m hnm hn hm=>o.in1 i (hZ.at hn) (hZ.at hm)) _ (fun x hx=>o.av3 hx) (o.bi8 i);rw[hw] at hR;have hc:(((3:Nat)):Int)=3:=rfl;rw[hc] at hR;simp only[ic23,go_sem,bu6,y_0,ac5,cr4,bd6];rw[<- bu6];refine aa3 fok69 (hS) ?_;simp only[go_sem,ct4,ap4];refine aa3 fok64 (hR) ?_;simp only[go_sem];exact .keep _ (ai1 _)
theorem fs8 {τ:Store}{v:IV}{zs:List Int}(h:aj3 τ 0 v zs):Frz τ (fun i=>(fun _:Nat=>false) i=true) v (.aa4 (zs.map Md.ae4)):=h.w.frz fun _ _ h=>by cases h
theorem gj5 (o:ag6)(P:List Int)(hY:Y25 o P)(hZ:Z25 o)(l:List Int)(hl:l.length<2^19):PC Tryz.prog EE 17 [yv o.a P,.aa4 (l.map Md.ae4)] (.aa4 ((o.bk8 l).map Md.ae4)):=by
 refine ae5 hE fok17 (nZ rfl) (ae9 (db3 o.a P) (ai1 l)) ?_;simp only[ic17,go_sem,ct4,ap4];refine ab1 noT (fun i fr t=>∃ gv,fr=[(0,yv o.a P),(1,.aa4 (l.map Md.ae4)),(5,gv),(6,.int .i64 (i:Int))]/\aj3 t 0 gv ((l.take i).filter fun n=>o.a.is n)) l.length ⟨.aa1,rfl,.inl ⟨rfl,rfl⟩⟩ ?_;rintro i fr t hi ⟨gv,rfl,hg⟩;by_cases hlt:i<l.length
 ·obtain ⟨z,hz,_,hdr,hget,htk⟩:=ad6 l i hlt;have d1:(i:Int)<l.length:=om
  have d2:(0:Int)<=i:=om
  have w1:=ac4 (i:=i) om;have g:=hget Md.ae4;have hI:=cd7 o.a P z
  have hsn:((l.take (i+1)).filter fun n=>o.a.is n)=((l.take i).filter fun n=>o.a.is n)++if o.a.is z=true then [z] else []:=by
   rw[htk,List.filter_append];congr 1;simp only[List.filter_cons,List.filter_nil]
  have hfl:((l.take i).filter fun n=>o.a.is n).length<=i:=by
   refine zh (z8 _ _) ?_;rw[List.length_take]; omega
  simp only[go_sem,d1,d2,g,Md.ae4,ct4,ap4];refine aa3 fok51 (hI) ?_
  cases hb:o.a.is z with
  | false=>
   rw[hb,if_neg (by decide),zr] at hsn;simp only[go_sem,w1]
   exact ⟨hlt,gv,rfl,by rw[hsn]; exact bu2 hg (by first|exact zb _|exact za _ _) fun _ _=>rfl⟩
  | true=>
   rw[hb,if_pos rfl] at hsn;have hap:=cx3 (nid:=t.next) (aj3.up hg 1) z om;simp only[go_sem,d1,d2,g,Md.ae4,hap,w1];refine ⟨hlt,_,rfl,?_⟩;rw[hsn];refine .inr ⟨t.next,zv _,?_,?_,?_⟩
   ·show t.next<(ag2 gv (⟨t.next+1,t.obj⟩:Store)).next;rw[ac9]; exact Nat.lt_succ_self _
   ·rw[zi]; rfl
   ·simp only[aa5,if_true]
 ·have hi':i=l.length:=om
  subst hi';have d1:¬ (l.length:Int)<l.length:=om
  rw[List.take_length] at hg;obtain ⟨F,hF⟩:∃ F,F=l.filter fun n=>o.a.is n:=⟨_,rfl⟩
  rw[<- hF] at hg;have hFm:∀ z∈F,o.a.is z=true:=fun z hz=>by rw[hF] at hz; simpa using (List.mem_filter.1 hz).2
  have h0:F≠[]->o.a.is 0=true:=fun h=>by
   obtain ⟨x,xs,hx⟩:=z5 h;have:=hFm x (by rw[hx]; exact zt);unfold ad9.is at this ⊢;simp only[zo,decide_eq_true_eq] at this ⊢;omega
  have hFl:F.length<=l.length:=by rw[hF]; exact z8 _ _
  have hR:=cv6 o P hY 0 (by decide) F om hFm 0 h0;obtain ⟨q1,q2⟩:=gh5 (S:=fun n=>o.a.is n=true) (o.wo.sub fun n hn=>hZ.rel n hn) (fun _ _=>o.bj1) (fun n m _ _ _=>o.im7 0 n m) F hFm;have hw:gt6 (o.al5 0 0) F=o.bk8 l:=o.ee2 hZ.rel q1 fun x=>(q2 x).trans (by rw[hF,List.mem_filter])
  rw[hw] at hR;have hc:((0:Nat):Int)=0:=rfl;rw[hc] at hR;have gl:=ef3 hg.gr;have gc:=gl9 hg.gr;simp only[go_sem,d1,ct4,ap4,gl,gc]
  refine ad3 fok64 (ew8 (S:=fun _=>false) (args':=[yv o.a P,.aa4 (F.map Md.ae4),.int .i64 0,.int .i64 0]) rfl (fun k hk=>by
   match k,hk with
   | 0,_=>exact .keep _ ((db3 o.a P).weak fun _ h=>absurd h (z4 _))
   | 1,_=>exact fs8 hg
   | 2,_=>exact .keep _ (.int _ _)
   | 3,_=>exact .keep _ (.int _ _)) (en1 hR)) ?_
  rintro v s ⟨rfl,rfl⟩;refine ⟨zb _,?_⟩;simp only[go_sem];exact .keep _ (ai1 _)
end Go.Id.Tryz
namespace Go.Id.Tryz
open Go Go.Id Go.Proofs Go.Shelf Go.Id.Md
end Go.Id.Tryz
namespace Go.Id.Tryz
open Go Go.Id Go.Proofs Go.Shelf Go.Id.Md
end Go.Id.Tryz
namespace Go.Id.Tryz
open Go Go.Id Go.Proofs Go.Shelf Go.Id.Md
def jf6 (e:Nat)(es:List (List IV)):Prop:=∀ x∈es,x.length=e/\x.all IV.leaf=true
def Far (v w:IV):Prop:=∀ i k e j l f,v=.slice i 0 k e->w=.slice j 0 l f->i≠j
structure Q12 (s:Store) (id:Nat) (n:Int) (k:Nat) (Lv Rv Pv:IV) (eL eR eP:List (List IV)):Prop where
 cell:s.obj id=zg (.cells [Lv,.int .i64 n,Rv,Pv])
 lt:id<s.next
 gL:Grow s Lv 15 eL
 gR:Grow s Rv 1 eR
 gP:Grow s Pv 1 eP
 aL:jf6 15 eL
 aR:jf6 1 eR
 aP:jf6 1 eP
 kL:eL.length<=k
 kR:eR.length<=k
 kP:eP.length<=k
 lr:Far Lv Rv
 lp:Far Lv Pv
 rp:Far Rv Pv
theorem Q12.mono {s s':Store}{id:Nat}{n:Int}{k:Nat}{Lv Rv Pv:IV}{eL eR eP:List (List IV)}(h:Q12 s id n k Lv Rv Pv eL eR eP)(hn:s.next<=s'.next)(ho:∀ i,i<s.next->s'.obj i=s.obj i):Q12 s' id n k Lv Rv Pv eL eR eP :=
 {h with
  cell:=by rw[ho _ h.lt]; exact h.cell
  lt:=ze h.lt hn
  gL:=h.gL.mono hn fun i _ hi=>ho i hi
  gR:=h.gR.mono hn fun i _ hi=>ho i hi
  gP:=h.gP.mono hn fun i _ hi=>ho i hi }
theorem ez3 {s:Store}{v:IV}{e:Nat}{es:List (List IV)}(h:Grow s v e es){i k f:Nat}(hv:v=.slice i 0 k f):i<s.next/\∃ cs,s.obj i=zg (.row cs):=by
 rcases h with ⟨h0,_⟩|⟨j,hj,ho,hl⟩
 ·rw[h0] at hv; cases hv
 ·rw[hj] at hv; cases hv; exact ⟨hl,_,ho⟩
theorem gj6 {s:Store}{v:IV}{i:Nat}(h:∀ k e,v≠.slice i 0 k e){e:Nat}{es:List (List IV)}(hg:Grow s v e es):(ag2 v s).obj i=s.obj i:=by
 rcases hg with ⟨h0,_⟩|⟨j,hj,_,_⟩
 ·rw[h0]; rfl
 ·rw[hj];show (if i=j then none else s.obj i)=_;rw[if_neg fun e=>h _ _ (by rw[hj,e])]
theorem fs9 {s:Store}{v w:IV}{e f m nid:Nat}{es fs:List (List IV)}(hm:s.next<=m)(hg:Grow s v e es)(hw:Grow s w f fs)(hf:Far v w)(hn:∀ i k g,w=.slice i 0 k g->i≠nid)(r:al8) :
  Grow ((ag2 v (⟨m,s.obj⟩:Store)).put nid r) w f fs:=by
 have hg':Grow (⟨m,s.obj⟩:Store) v e es:=hg.mono hm fun _ _ _=>rfl
 refine hw.mono (by rw[aa7,ac9]; exact hm) fun i hv _=>?_
 rw[aa5,if_neg (hn _ _ _ hv),gj6 (fun k g hk=>hf _ _ _ _ _ _ hk hv rfl) hg']
theorem Q12.push {t:Store}{id:Nat}{n:Int}{k:Nat}{Lv Rv Pv:IV}{eL eR eP:List (List IV)}(h:Q12 t id n k Lv Rv Pv eL eR eP)(hk:k<2^20){c:List IV}(hc:c.length=15/\c.all IV.leaf=true)(a b:Int){d1 d2 d3 d4:Nat}(h12:d1<d2)(h23:d2<d3)(h34:d3<d4) :
  ∃ L' R' P' S1 S2 S3,as5 ⟨t.next+d4,t.obj⟩ (t.next+d1) 15 Lv (.aa4 [c])=zg (L',S1)/\S1.obj id=zg (.cells [Lv,.int .i64 n,Rv,Pv])/\as5 S1 (t.next+d2) 1 Rv (.aa4 [[.int .i64 a]])=zg (R',S2)/\S2.obj id=zg (.cells [Lv,.int .i64 n,Rv,Pv]) /\
   as5 S2 (t.next+d3) 1 Pv (.aa4 [[.int .i64 b]])=zg (P',S3)/\S3.obj id=zg (.cells [Lv,.int .i64 n,Rv,Pv])/\(L'.leaf=true/\L'.cs=[L']/\R'.leaf=true/\R'.cs=[R']/\P'.leaf=true/\P'.cs=[P'])/\S3.next=t.next+d4 /\
   ∀ τ:Store,t.next+d4<=τ.next->τ.obj id=zg (.cells [L',.int .i64 n,R',P'])->(∀ i,i≠id->τ.obj i=S3.obj i)->Q12 τ id n (k+1) L' R' P' (eL++[c]) (eR++[[.int .i64 a]]) (eP++[[.int .i64 b]]):=by
 have hcell:=h.cell;have nid1:¬ id=t.next+d1:=by have:=h.lt; omega
 have nid2:¬ id=t.next+d2:=by have:=h.lt; omega
 have nid3:¬ id=t.next+d3:=by have:=h.lt; omega
 have notrow:∀ {s:Store} {v:IV} {e:Nat} {es:List (List IV)},Grow s v e es->s.obj id=zg (.cells [Lv,.int .i64 n,Rv,Pv])->∀ kk ee,v≠.slice id 0 kk ee:=fun hg ho kk ee hv=>by
  obtain ⟨_,cs,hr⟩:=ez3 hg hv;rw[ho] at hr; cases hr
 have old:∀ {s:Store} {v:IV} {e:Nat} {es:List (List IV)},Grow s v e es->s.next=t.next->∀ d i kk g,v=.slice i 0 kk g->i≠t.next+d:=fun hg hs d i kk g hv=>by
  have:=(ez3 hg hv).1; omega
 -- the first row
 have G0:Grow (⟨t.next+d4,t.obj⟩:Store) Lv 15 eL:=h.gL.mono (by show t.next<=t.next+d4; omega) fun _ _ _=>rfl
 have A1:=am4 (nid:=t.next+d1) (e:=c) G0 h.aL hc (by have:=h.kL; omega)
 have c1:((ag2 Lv (⟨t.next+d4,t.obj⟩:Store)).put (t.next+d1) (.row (eL++[c]).flatten)).obj id=zg (.cells [Lv,.int .i64 n,Rv,Pv]):=by
  rw[aa5,if_neg nid1]; exact ah3 G0 id _ hcell (fun _ e=>by cases e)
 have R1:=fs9 (m:=t.next+d4) (nid:=t.next+d1) (za _ _) h.gL h.gR h.lr (old h.gR rfl d1) (.row (eL++[c]).flatten);have P1:=fs9 (m:=t.next+d4) (nid:=t.next+d1) (za _ _) h.gL h.gP h.lp (old h.gP rfl d1) (.row (eL++[c]).flatten);have L1:Grow ((ag2 Lv (⟨t.next+d4,t.obj⟩:Store)).put (t.next+d1) (.row (eL++[c]).flatten)) (.slice (t.next+d1) 0 (eL.length+1) 15) 15 (eL++[c]):=Grow.new (v:=.aa1) (by rw[aa7,ac9]; show _<t.next+d4; omega) (by rw[aa5,if_pos rfl]);have N1:((ag2 Lv (⟨t.next+d4,t.obj⟩:Store)).put (t.next+d1) (.row (eL++[c]).flatten)).next=t.next+d4:=by rw[aa7,ac9]
 generalize (ag2 Lv (⟨t.next+d4,t.obj⟩:Store)).put (t.next+d1) (.row (eL++[c]).flatten)=S1 at *
 -- the second
 have A2:=am4 (nid:=t.next+d2) (e:=[IV.int .i64 a]) R1 h.aR ⟨rfl,rfl⟩ (by have:=h.kR; omega);have e1:(⟨S1.next,S1.obj⟩:Store)=S1:=rfl
 have c2:((ag2 Rv S1).put (t.next+d2) (.row (eR++[[IV.int .i64 a]]).flatten)).obj id=zg (.cells [Lv,.int .i64 n,Rv,Pv]):=by
  rw[aa5,if_neg nid2]; exact ah3 R1 id _ c1 (fun _ e=>by cases e)
 have P2:Grow ((ag2 Rv S1).put (t.next+d2) (.row (eR++[[IV.int .i64 a]]).flatten)) Pv 1 eP:=fs9 (s:=S1) (m:=S1.next) (nid:=t.next+d2) (zb _) R1 P1 h.rp (fun i kk g hv=>old h.gP rfl d2 i kk g hv) _;have L2:Grow ((ag2 Rv S1).put (t.next+d2) (.row (eR++[[IV.int .i64 a]]).flatten)) (.slice (t.next+d1) 0 (eL.length+1) 15) 15 (eL++[c]):=fs9 (s:=S1) (m:=S1.next) (nid:=t.next+d2) (zb _) R1 L1 (fun i kk g j l f hv hw=>by cases hw; exact old h.gR rfl d1 _ _ _ hv) (fun i kk g hv=>by cases hv; omega) _;have R2:Grow ((ag2 Rv S1).put (t.next+d2) (.row (eR++[[IV.int .i64 a]]).flatten)) (.slice (t.next+d2) 0 (eR.length+1) 1) 1 (eR++[[IV.int .i64 a]]):=Grow.new (v:=.aa1) (by rw[aa7,ac9,N1]; omega) (by rw[aa5,if_pos rfl]);have N2:((ag2 Rv S1).put (t.next+d2) (.row (eR++[[IV.int .i64 a]]).flatten)).next=t.next+d4:=by rw[aa7,ac9,N1]
 generalize (ag2 Rv S1).put (t.next+d2) (.row (eR++[[IV.int .i64 a]]).flatten)=S2 at *
 -- the third
 have A3:=am4 (nid:=t.next+d3) (e:=[IV.int .i64 b]) P2 h.aP ⟨rfl,rfl⟩ (by have:=h.kP; omega)
 have c3:((ag2 Pv S2).put (t.next+d3) (.row (eP++[[IV.int .i64 b]]).flatten)).obj id=zg (.cells [Lv,.int .i64 n,Rv,Pv]):=by
  rw[aa5,if_neg nid3]; exact ah3 P2 id _ c2 (fun _ e=>by cases e)
 have L3:Grow ((ag2 Pv S2).put (t.next+d3) (.row (eP++[[IV.int .i64 b]]).flatten)) (.slice (t.next+d1) 0 (eL.length+1) 15) 15 (eL++[c]):=fs9 (s:=S2) (m:=S2.next) (nid:=t.next+d3) (zb _) P2 L2 (fun i kk g j l f hv hw=>by cases hw; exact old h.gP rfl d1 _ _ _ hv) (fun i kk g hv=>by cases hv; omega) _;have R3:Grow ((ag2 Pv S2).put (t.next+d3) (.row (eP++[[IV.int .i64 b]]).flatten)) (.slice (t.next+d2) 0 (eR.length+1) 1) 1 (eR++[[IV.int .i64 a]]):=fs9 (s:=S2) (m:=S2.next) (nid:=t.next+d3) (zb _) P2 R2 (fun i kk g j l f hv hw=>by cases hw; exact old h.gP rfl d2 _ _ _ hv) (fun i kk g hv=>by cases hv; omega) _;have P3:Grow ((ag2 Pv S2).put (t.next+d3) (.row (eP++[[IV.int .i64 b]]).flatten)) (.slice (t.next+d3) 0 (eP.length+1) 1) 1 (eP++[[IV.int .i64 b]]):=Grow.new (v:=.aa1) (by rw[aa7,ac9,N2]; omega) (by rw[aa5,if_pos rfl]);have N3:((ag2 Pv S2).put (t.next+d3) (.row (eP++[[IV.int .i64 b]]).flatten)).next=t.next+d4:=by rw[aa7,ac9,N2]
 generalize (ag2 Pv S2).put (t.next+d3) (.row (eP++[[IV.int .i64 b]]).flatten)=S3 at *;refine ⟨_,_,_,S1,S2,S3,A1,c1,A2,c2,A3,c3,⟨rfl,rfl,rfl,rfl,rfl,rfl⟩,N3,fun τ hτ hcτ hoτ=>?_⟩;have keep:∀ {v:IV} {e:Nat} {es:List (List IV)},Grow S3 v e es->Grow τ v e es:=fun hg=>hg.mono om fun i hv _=>hoτ i fun e=>notrow hg c3 _ _ (by rw[<- e]; exact hv)
 have snocE:∀ {e:Nat} {es:List (List IV)} {x:List IV},jf6 e es->(x.length=e/\x.all IV.leaf=true)->jf6 e (es++[x]):=fun h1 h2 y hy=>by
  rcases List.mem_append.1 hy with hy|hy
  ·exact h1 y hy
  ·rw[qc] at hy; rw[hy]; exact h2
 exact {
  cell:=hcτ
  lt:=by have:=h.lt; omega
  gL:=keep L3
  gR:=keep R3
  gP:=keep P3
  aL:=snocE h.aL hc
  aR:=snocE h.aR ⟨rfl,rfl⟩
  aP:=snocE h.aP ⟨rfl,rfl⟩
  kL:=by rw[zi]; have:=h.kL; simp only[z0]; omega
  kR:=by rw[zi]; have:=h.kR; simp only[z0]; omega
  kP:=by rw[zi]; have:=h.kP; simp only[z0]; omega
  lr:=fun i k e j l f h1 h2=>by cases h1; cases h2; omega
  lp:=fun i k e j l f h1 h2=>by cases h1; cases h2; omega
  rp:=fun i k e j l f h1 h2=>by cases h1; cases h2; omega }
end Go.Id.Tryz
namespace Go.Id.Tryz
open Go Go.Id Go.Proofs Go.Shelf Go.Id.Md
def ho7 (ab3:List am5)(inst:List aa2):List aa2:=inst++ab3.flatMap fun r=>r.packages
theorem ho8 (ab3:List am5)(inst:List aa2)(hN:inst.length+af5 ab3<=256)(hr:ab3.length<=16):PC Tryz.prog EE 8 [az4 ab3,au1 inst] (au1 (ho7 ab3 inst)):=by
 refine ae5 hE fok8 (nZ rfl) (ae9 (bo1 ab3) (aq4 inst)) ?_;have g0:Grow (({ next:=2,obj:=emp.obj }:Store).put 0 (al8.row [])) (.slice 0 0 0 15) 15 []:=.inr ⟨0,rfl,by rw[aa5,if_pos rfl]; rfl,by show 0<2; omega⟩;obtain ⟨v1,t1,a1,n1,q1,_,_⟩:=by6 (nid:=1) (xs:=inst.map aa2.cs) g0 (fun x h=>by cases h) (bb4 _) (by rw[zq,zk]; omega) (by show 1<2; omega)
 rw[zj] at q1;simp only[ic8,go_sem,a1];refine ab1 noT (fun i fr t=>∃ gv,fr=[(0,az4 ab3),(5,gv),(6,.int .i64 (i:Int))]/\Grow t gv 15 ((ho7 (ab3.take i) inst).map aa2.cs)/\(ho7 (ab3.take i) inst).length+af5 (ab3.drop i)=inst.length+af5 ab3) ab3.length ⟨v1,rfl,by simpa [ho7] using q1,by simp[ho7]⟩ ?_;rintro i fr t hle ⟨gv,rfl,hg,hsum⟩;by_cases hlt:i<ab3.length
 ·obtain ⟨a,ha,_,hdr,hget,htk⟩:=ad6 ab3 i hlt;have c1:(i:Int)<ab3.length:=om
  have c2:(0:Int)<=i:=om
  have w1:=ac4 (i:=i) om;rw[cv2 ab3 i a hdr] at hsum
  have hap:ho7 (ab3.take (i+1)) inst=ho7 (ab3.take i) inst++a.packages:=by
   unfold ho7
   have:ab3.take (i+1)=ab3.take i++[a]:=by
    rw[List.take_add_one];have:=congrArg List.head? hdr;rw[List.head?_drop] at this;rw[this]; rfl
   rw[this,List.flatMap_append]; simp
  obtain ⟨v2,t2,a2,n2,q2,_,_⟩:=by6 (nid:=t.next) (xs:=a.packages.map aa2.cs) (hg.mono (σ':=⟨t.next+1,t.obj⟩) (Nat.le_succ _) fun _ _ _=>rfl) (bb4 _) (bb4 _) (by rw[zq,zq]; omega) (Nat.lt_succ_self _)
  simp only[go_sem,c1,c2,hget,bj4,bo3,bo2,am5.cs,a2,w1];refine ⟨hlt,v2,rfl,?_,?_⟩
  ·rw[hap,List.map_append]; exact q2
  ·rw[hap,zi]; omega
 ·have hi':i=ab3.length:=om
  subst hi';have c1:¬ (ab3.length:Int)<ab3.length:=om
  rw[List.take_length] at hg;simp only[go_sem,c1];refine hg.frz (fun x hx=>(bb4 _ x hx).1) (fun _ _=>z4 _) fun e he c hc=>?_
  obtain ⟨y,_,rfl⟩:=zz.1 he;exact ah7 y c hc
def dn4 (all:List aa2)(inst:Int)(r:Req):IV:=if am7 r inst=0 then .tuple [.ab5 (au1 all::.int .i64 inst::r.cs),.int .i64 0] else .tuple [.ae7,.int .i64 (am7 r inst)]
theorem ho9 (all:List aa2)(inst:Int)(r:Req)(hR:fv2 r):PC Tryz.prog EE 7 [au1 all,.int .i64 inst,.agg r.cs] (dn4 all inst r):=by
 refine ae5 hE fok7 (nZ rfl) (at1 (aq4 all) (.int _ _) (.agg _ (be5 r))) ?_;have hm:=ez6 r.aj1;have k0:r.cs.head? = zg (.int .u8 r.aj1):=rfl;have k2:(r.cs.drop 2).head? = zg (bc3 r.ai4):=rfl;have k3:(r.cs.drop 3).head? = zg (aq2 r.ag5):=rfl;have k4:(r.cs.drop 4).head? = zg (.int .i64 r.budget):=rfl;obtain ⟨V,hV⟩:∃ V,dn4 all inst r=V:=⟨_,rfl⟩
 have herr:∀ (s:Store) (e:Int),am7 r inst=e->e≠0->cs9 s 0 (.tuple [.ae7,.int .i64 e]) V:=fun s e h1 h2=>by
  rw[<- hV];unfold dn4;rw[h1,if_neg h2];exact .keep _ (.tuple _ (ae9 .ae7 (.int _ _)))
 rw[hV];by_cases c1:bg8 r.aj1=false
 ·rw[c1] at hm;simp only[ic7,go_sem,ak6,k0];refine aa3 fok38 (hm) ?_;simp only[go_sem];exact herr _ 1 (by unfold am7; rw[if_pos (.inl c1)]) (by decide)
 have c1':bg8 r.aj1=true:=by simpa using c1
 rw[c1'] at hm;by_cases c2:r.budget<0
 ·simp only[ic7,go_sem,ak6,k0];refine aa3 fok38 (hm) ?_;simp only[go_sem,k4,c2];exact herr _ 1 (by unfold am7; rw[if_pos (.inr (.inl c2))]) (by decide)
 by_cases c3:1099511627776<r.budget
 ·simp only[ic7,go_sem,ak6,k0];refine aa3 fok38 (hm) ?_;simp only[go_sem,k4,c2,c3];exact herr _ 1 (by unfold am7; rw[if_pos (.inr (.inr c3))]) (by decide)
 have q1:¬ (bg8 r.aj1=false\/r.budget<0\/1099511627776<r.budget):=fun h=>h.elim c1 fun h=>h.elim c2 c3
 by_cases c4:64<r.ai4.length
 ·have c4':(64:Int)<r.ai4.length:=om
  simp only[ic7,go_sem,ak6,k0];refine aa3 fok38 (hm) ?_;simp only[go_sem,k4,c2,c3,k2,c4'];exact herr _ 40 (by unfold am7; rw[if_neg q1,if_pos (.inl c4)]) (by decide)
 have c4':¬ (64:Int)<r.ai4.length:=om
 by_cases c5:64<r.ag5.length
 ·have c5':(64:Int)<r.ag5.length:=om
  simp only[ic7,go_sem,ak6,k0];refine aa3 fok38 (hm) ?_;simp only[go_sem,k4,c2,c3,k2,k3,c4',c5'];exact herr _ 40 (by unfold am7; rw[if_neg q1,if_pos (.inr c5)]) (by decide)
 have c5':¬ (64:Int)<r.ag5.length:=om
 have q2:¬ (64<r.ai4.length\/64<r.ag5.length):=fun h=>h.elim c4 c5
 simp only[ic7,go_sem,ak6,k0];refine aa3 fok38 (hm) ?_;simp only[go_sem,k4,c2,c3,k2,k3,c4',c5'];refine ab1 noT (fun i fr t=>fr=[(0,au1 all),(1,.int .i64 inst),(5,.ab5 r.cs),(8,.int .i64 (i:Int))]/\(r.ai4.drop i).all ay6=r.ai4.all ay6) r.ai4.length ⟨rfl,rfl⟩ ?_;rintro i fr t hi ⟨rfl,ha⟩;by_cases hlt:i<r.ai4.length
 ·obtain ⟨x,hx,_,hdr,hget,_⟩:=ad6 r.ai4 i hlt;have d1:(i:Int)<r.ai4.length:=om
  have d2:(0:Int)<=i:=om
  have w1:=ac4 (i:=i) om;obtain ⟨hs1,hs2⟩:=hR.iv9 x hx;have hmay:=io8 x.dep om (by have:=hs1.2.2.1; omega) (by have:=hs1.2.2.2; omega);have x0:x.cs.head? = zg (.int .u8 x.kind):=rfl;have x1:=dv4 x;have x2:(x.cs.drop 1).length=5:=rfl;rw[hdr,List.all_cons] at ha
  have hbad:ay6 x=false->am7 r inst=4:=fun h=>by
   rw[h,Bool.false_and] at ha;unfold am7; rw[if_neg q1,if_neg q2,if_pos ha.symm]
  by_cases e1:x.kind<1
  ·have e1':¬ 1<=x.kind:=om
   simp only[go_sem,d1,d2,k2,hget,co7,x0,e1];exact herr _ 4 (hbad (by unfold ay6; simp[e1'])) (by decide)
  by_cases e2:4<x.kind
  ·have e2':¬ x.kind<=4:=om
   simp only[go_sem,d1,d2,k2,hget,co7,x0,e1,e2];exact herr _ 4 (hbad (by unfold ay6; simp[e2'])) (by decide)
  have e1':1<=x.kind:=om
  have e2':x.kind<=4:=om
  simp only[go_sem,d1,d2,k2,hget,co7,x0,x1,x2,e1,e2];refine aa3 fok39 (hmay) ?_
  cases hb:ak5 x.dep with
  | false=>
   simp only[go_sem]
   exact herr _ 4 (hbad (by unfold ay6; simp[hb])) (by decide)
  | true=>
   have:ay6 x=true:=by unfold ay6; simp[e1',e2',hb]
   rw[this,Bool.true_and] at ha;simp only[go_sem,w1];exact ⟨hlt,ha⟩
 have hi':i=r.ai4.length:=om
 subst hi';rw[z3] at ha;have hjm:¬ r.ai4.all ay6=false:=by rw[<- ha]; simp
 have d1:¬ (r.ai4.length:Int)<r.ai4.length:=om
 simp only[go_sem,d1,k2];refine ab1 noT (fun i fr t=>fr=[(0,au1 all),(1,.int .i64 inst),(5,.ab5 r.cs),(9,.int .i64 (i:Int))]/\((r.ag5.drop i).all fun e=>at6 e r.ai4.length inst)=r.ag5.all fun e=>at6 e r.ai4.length inst) r.ag5.length ⟨rfl,rfl⟩ ?_;clear ha;rintro i fr t hi ⟨rfl,ha⟩;by_cases hlt:i<r.ag5.length
 ·obtain ⟨x,hx,_,hdr,hget,_⟩:=ad6 r.ag5 i hlt;have d1:(i:Int)<r.ag5.length:=om
  have d2:(0:Int)<=i:=om
  have w1:=ac4 (i:=i) om;have x0:x.cs.head? = zg (.int .u8 x.kind):=rfl;have x1:(x.cs.drop 1).head? = zg (.int .i64 x.n):=rfl;rw[hdr,List.all_cons] at ha
  have hbad:at6 x r.ai4.length inst=false->am7 r inst=5:=fun h=>by
   rw[h,Bool.false_and] at ha;unfold am7; rw[if_neg q1,if_neg q2,if_neg hjm,if_pos ha.symm]
  have hgood:at6 x r.ai4.length inst=true->((r.ag5.drop (i+1)).all fun e=>at6 e r.ai4.length inst)=r.ag5.all fun e=>at6 e r.ai4.length inst:=fun h=>by
   rw[h,Bool.true_and] at ha; exact ha
  unfold at6 at hbad hgood;by_cases e1:0<=x.n
  case neg=>
   simp only[go_sem,d1,d2,k2,k3,hget,an6,ap3,aj2,x0,x1,e1];exact herr _ 5 (hbad (by simp[e1])) (by decide)
  by_cases e2:x.kind=1
  ·by_cases e3:x.n<r.ai4.length
   ·simp only[go_sem,d1,d2,k2,k3,hget,an6,ap3,aj2,x0,x1,e1,e2,e3,w1];exact ⟨hlt,hgood (by simp[e1,e2,e3])⟩
   ·simp only[go_sem,d1,d2,k2,k3,hget,an6,ap3,aj2,x0,x1,e1,e2,e3];exact herr _ 5 (hbad (by simp[e2,e3])) (by decide)
  ·by_cases e4:1<x.kind
   ·by_cases e5:x.kind<=4
    ·have e6:1<=x.kind:=om
     by_cases e3:x.n<inst
     ·simp only[go_sem,d1,d2,k2,k3,hget,an6,ap3,aj2,x0,x1,e1,e2,e3,e4,e5,w1];exact ⟨hlt,hgood (by simp[e1,e2,e3,e5,e6])⟩
     ·simp only[go_sem,d1,d2,k2,k3,hget,an6,ap3,aj2,x0,x1,e1,e2,e3,e4,e5];exact herr _ 5 (hbad (by simp[e2,e3])) (by decide)
    ·simp only[go_sem,d1,d2,k2,k3,hget,an6,ap3,aj2,x0,x1,e1,e2,e4,e5];exact herr _ 5 (hbad (by simp[e5])) (by decide)
   ·have e6:¬ 1<=x.kind:=om
    simp only[go_sem,d1,d2,k2,k3,hget,an6,ap3,aj2,x0,x1,e1,e2,e4];exact herr _ 5 (hbad (by simp[e6])) (by decide)
 have hi':i=r.ag5.length:=om
 subst hi';rw[z3] at ha;have hem:¬ (r.ag5.all fun e=>at6 e r.ai4.length inst)=false:=by rw[<- ha]; simp
 have d2:¬ (r.ag5.length:Int)<r.ag5.length:=om
 have hz:am7 r inst=0:=by unfold am7; rw[if_neg q1,if_neg q2,if_neg hjm,if_neg hem]
 have hrc:r.cs=[.int .u8 r.aj1,.bool r.vendor,bc3 r.ai4,aq2 r.ag5,.int .i64 r.budget]:=rfl;rw[<- hV];unfold dn4;rw[if_pos hz];have rl:r.cs.length=5:=rfl;simp only[go_sem,d2,k3,rl,bt7,ak6];refine .keep _ (.tuple _ (ae9 (.ab5 _ fun c hc=>?_) (.int _ _)));rcases zp.1 hc with rfl|hc
 ·exact aq4 all
 ·rcases zp.1 hc with rfl|hc
  ·exact .int _ _
  ·exact be5 r c hc
end Go.Id.Tryz
namespace Go.Id.Tryz
open Go Go.Id Go.Proofs Go.Id.Md
end Go.Id.Tryz
namespace Go.Id.Tryz
open Go Go.Id Go.Proofs Go.Id.Md
variable {H:Type} {enc:TypeId×Value->H} {w:World} {base:Nat} {sp:Nat->Bool} {held:Bool}
abbrev Rd (enc:TypeId×Value->H)(w:World)(base:Nat)(sp:Nat->Bool)(held:Bool):=Rdg enc Tryz.prog w base sp held
theorem gl4 {n:Nat}{d:DataW H}(h:Rd enc w base sp held n 64 d)(hw:WT Tryz.prog 64 d):∃ e:EVR,e.fit/\∀ m,n<=m->dv Tryz.prog m 64 d=zg e.cs:=by
 obtain ⟨n',ds,rfl,rfl,hl,hf⟩:=av2 Tryz.underlying64 h hw
 match ds,hl with
 | [d0,d1,d2],_=>
  obtain ⟨r0,w0⟩:=hf 0 _ d0 rfl rfl;obtain ⟨r1,w1⟩:=hf 1 _ d1 rfl rfl;obtain ⟨r2,w2⟩:=hf 2 _ d2 rfl rfl;obtain ⟨z,_,_,e0⟩:=bg2 Tryz.underlying3 r0;obtain ⟨s1,l1,e1⟩:=cy1 Tryz.underlying9 r1 w1;obtain ⟨s2,l2,e2⟩:=cy1 Tryz.underlying9 r2 w2;refine ⟨⟨z,s1,s2⟩,⟨l1,l2⟩,fun m hm=>?_⟩
  cases m with
  | zero=>omega
  | succ m=>
   have c3:Tryz.prog.cellsOf 3=1:=by kernel_rfl
   have c9:Tryz.prog.cellsOf 9=1:=by kernel_rfl
   have ct:Tryz.prog.cellsOf 64=3:=by kernel_rfl
   simp only[dv,Tryz.underlying64,zd,zl,dvF,e0 m om,e1 m om,e2 m om,zm,zk,c3,c9,ct,zn,zj,zr,zx,↓reduceIte];rfl
theorem jg2 {z:Int}(h:(Lit.int .u8 z).wf=true):0<=z/\z<256:=by
 simp only[Lit.wf,zo,decide_eq_true_eq] at h;have e1:IntKind.u8.min=0:=rfl;have e2:IntKind.u8.max=255:=rfl;omega
theorem hk9:Tryz.prog.cellsOf 3=1:=by kernel_rfl
theorem ip7:Tryz.prog.cellsOf 5=1:=by kernel_rfl
theorem hl7:Tryz.prog.cellsOf 9=1:=by kernel_rfl
theorem ip8:Tryz.prog.cellsOf 64=3:=by kernel_rfl
theorem gl5:Tryz.prog.cellsOf 66=5:=by kernel_rfl
theorem gl6:Tryz.prog.cellsOf 101=7:=by kernel_rfl
theorem jg3:Tryz.prog.cellsOf 87=15:=by kernel_rfl
theorem ie4:Tryz.prog.cellsOf 54=2:=by kernel_rfl
theorem jg4:Tryz.prog.cellsOf 83=1:=by kernel_rfl
theorem fb5:Tryz.prog.cellsOf 84=1:=by kernel_rfl
theorem jg5:Tryz.prog.cellsOf 85=1:=by kernel_rfl
theorem jg6:Tryz.prog.cellsOf 23=1:=by kernel_rfl
theorem ie5 {n:Nat}{d:DataW H}(h:Rd enc w base sp held n 66 d)(hw:WT Tryz.prog 66 d):∃ e:Dep,e.fit/\∀ m,n<=m->dv Tryz.prog m 66 d=zg e.cs:=by
 obtain ⟨n',ds,rfl,rfl,hl,hf⟩:=av2 Tryz.underlying66 h hw
 match ds,hl with
 | [d0,d1,d2],_=>
  obtain ⟨r0,w0⟩:=hf 0 _ d0 rfl rfl;obtain ⟨r1,w1⟩:=hf 1 _ d1 rfl rfl;obtain ⟨r2,w2⟩:=hf 2 _ d2 rfl rfl;obtain ⟨s0,l0,e0⟩:=cy1 Tryz.underlying9 r0 w0;obtain ⟨z,_,_,e1⟩:=bg2 Tryz.underlying5 r1;obtain ⟨e,l2,e2⟩:=gl4 r2 w2;refine ⟨⟨s0,z,e⟩,⟨l0,l2⟩,fun m hm=>?_⟩
  cases m with
  | zero=>omega
  | succ m=>
   simp only[dv,Tryz.underlying66,zd,zl,dvF,e0 m om,e1 m om,e2 m om,EVR.cs,zm,zk,hl7,ip7,ip8,gl5,zn,zj,zr,zx,↓reduceIte];rfl
theorem ip9:∀ (n:Nat) (d:DataW H),Rd enc w base sp held n 101 d->WT Tryz.prog 101 d->∃ r:aa6,r.ok/\∀ m,n<=m->dv Tryz.prog m 101 d=zg r.cs:=by
 intro n
 induction n using Nat.strongRecOn with
 | ind n ih=>
  intro d h hw;obtain ⟨n',ds,rfl,rfl,hl,hf⟩:=av2 Tryz.underlying101 h hw
  match ds,hl with
  | [d0,d1,d2],_=>
   obtain ⟨r0,w0⟩:=hf 0 _ d0 rfl rfl;obtain ⟨r1,w1⟩:=hf 1 _ d1 rfl rfl;obtain ⟨r2,w2⟩:=hf 2 _ d2 rfl rfl;obtain ⟨z,_,hz,e0⟩:=bg2 Tryz.underlying5 r0;obtain ⟨e,l1,e1⟩:=ie5 r1 w1;obtain ⟨l,k1,k2,e2⟩:=az6 aa6.cs aa6.ok Tryz.underlying84 gl6 (by decide) (by decide +kernel) (fun r=>by rw[aa6.aq6]; rfl) (fun m d' hm hr hw'=>ih m om d' hr hw') r2 w2;have hz':=jg2 hz;refine ⟨.mk z e l,aa6.in3.2 ⟨hz'.1,hz'.2,l1,k1,k2⟩,fun m hm=>?_⟩
   cases m with
   | zero=>omega
   | succ m=>
    simp only[dv,Tryz.underlying101,zd,zl,dvF,e0 m om,e1 m om,e2 m om,Dep.cs,zm,zk,fb5,ip7,gl5,gl6,zn,zj,zr,zx,↓reduceIte];rw[aa6.aq6];rfl
theorem gl7 {n:Nat}{d:DataW H}(h:Rd enc w base sp held n 83 d)(hw:WT Tryz.prog 83 d):∃ l:List Dep,l.length<2^62/\(∀ a∈l,a.fit)/\∀ m,n<=m->dv Tryz.prog m 83 d=zg [deps l]:=
 az6 Dep.cs Dep.fit Tryz.underlying83 gl5 (by decide) (by decide +kernel) (fun _=>rfl) (fun _ _ _ hr hw'=>ie5 hr hw') h hw
theorem bh6 {n:Nat}{d:DataW H}(h:Rd enc w base sp held n 84 d)(hw:WT Tryz.prog 84 d):∃ l:List aa6,l.length<2^62/\(∀ a∈l,a.ok)/\∀ m,n<=m->dv Tryz.prog m 84 d=zg [af1 l]:=
 az6 aa6.cs aa6.ok Tryz.underlying84 gl6 (by decide) (by decide +kernel) (fun r=>by rw[aa6.aq6]; rfl) (fun m d' _ hr hw'=>ip9 m d' hr hw') h hw
theorem iq1 {n:Nat}{d:DataW H}(h:Rd enc w base sp held n 85 d)(hw:WT Tryz.prog 85 d):∃ l:List Str,l.length<2^62/\(∀ a∈l,a.length<2^62)/\∀ m,n<=m->dv Tryz.prog m 85 d=zg [strs l]:=
 az6 bs8 (fun s:Str=>s.length<2^62) Tryz.underlying85 hl7 (by decide) (by decide +kernel) (fun _=>rfl) (fun _ _ _ hr hw'=>cy1 Tryz.underlying9 hr hw') h hw
theorem jg7 {n:Nat}{d:DataW H}(h:Rd enc w base sp held n 87 d)(hw:WT Tryz.prog 87 d):∃ p:aa2,p.Ok/\∀ m,n<=m->dv Tryz.prog m 87 d=zg p.cs:=by
 obtain ⟨n',ds,rfl,rfl,hl,hf⟩:=av2 Tryz.underlying87 h hw
 match ds,hl with
 | [d0,d1,d2,d3,d4,d5,d6,d7,d8,d9,d10,d11,d12],_=>
  obtain ⟨r0,w0⟩:=hf 0 _ d0 rfl rfl;obtain ⟨r1,w1⟩:=hf 1 _ d1 rfl rfl;obtain ⟨r2,w2⟩:=hf 2 _ d2 rfl rfl;obtain ⟨r3,w3⟩:=hf 3 _ d3 rfl rfl;obtain ⟨r4,w4⟩:=hf 4 _ d4 rfl rfl;obtain ⟨r5,w5⟩:=hf 5 _ d5 rfl rfl;obtain ⟨r6,w6⟩:=hf 6 _ d6 rfl rfl;obtain ⟨r7,w7⟩:=hf 7 _ d7 rfl rfl;obtain ⟨r8,w8⟩:=hf 8 _ d8 rfl rfl;obtain ⟨r9,w9⟩:=hf 9 _ d9 rfl rfl;obtain ⟨r10,w10⟩:=hf 10 _ d10 rfl rfl;obtain ⟨r11,w11⟩:=hf 11 _ d11 rfl rfl;obtain ⟨r12,w12⟩:=hf 12 _ d12 rfl rfl;obtain ⟨x0,l0,e0⟩:=cy1 Tryz.underlying9 r0 w0;obtain ⟨x1,l1,e1⟩:=gl4 r1 w1;obtain ⟨x2,_,_,e2⟩:=bg2 Tryz.underlying5 r2;obtain ⟨x3,l3,e3⟩:=cy1 Tryz.underlying9 r3 w3;obtain ⟨x4,l4,k4,e4⟩:=gl7 r4 w4;obtain ⟨x5,l5,k5,e5⟩:=bh6 r5 w5;obtain ⟨x6,l6,k6,e6⟩:=bh6 r6 w6;obtain ⟨x7,l7,k7,e7⟩:=gl7 r7 w7;obtain ⟨x8,l8,k8,e8⟩:=bh6 r8 w8;obtain ⟨x9,l9,k9,e9⟩:=bh6 r9 w9;obtain ⟨x10,l10,k10,e10⟩:=bh6 r10 w10;obtain ⟨x11,l11,k11,e11⟩:=bh6 r11 w11;obtain ⟨x12,l12,k12,e12⟩:=iq1 r12 w12;refine ⟨⟨x0,x1,x2,x3,x4,x5,x6,x7,x8,x9,x10,x11,x12⟩,⟨l0,l3,l1,⟨l4,k4⟩,⟨l7,k7⟩,⟨l12,k12⟩,?_⟩,fun m hm=>?_⟩
  ·intro x hx;simp only[aa2.rows,zp,zy,or_false] at hx;rcases hx with rfl|rfl|rfl|rfl|rfl|rfl
   ·exact ⟨l5,k5⟩
   ·exact ⟨l6,k6⟩
   ·exact ⟨l8,k8⟩
   ·exact ⟨l9,k9⟩
   ·exact ⟨l10,k10⟩
   ·exact ⟨l11,k11⟩
  cases m with
  | zero=>omega
  | succ m=>
   simp only[dv,Tryz.underlying87,zd,zl,dvF,e0 m om,e1 m om,e2 m om,e3 m om,e4 m om,e5 m om,e6 m om,e7 m om,e8 m om,e9 m om,e10 m om,e11 m om,e12 m om,EVR.cs,zm,zk,hl7,ip7,ip8,jg4,fb5,jg5,jg3,zn,zj,zr,zx,↓reduceIte];rfl
theorem gl8 {n:Nat}{d:DataW H}(h:Rd enc w base sp held n 23 d)(hw:WT Tryz.prog 23 d):∃ l:List aa2,l.length<2^62/\(∀ a∈l,a.Ok)/\∀ m,n<=m->dv Tryz.prog m 23 d=zg [.aa4 (l.map aa2.cs)]:=
 az6 aa2.cs aa2.Ok Tryz.underlying23 jg3 (by decide) (by decide +kernel) (fun _=>rfl) (fun _ _ _ hr hw'=>jg7 hr hw') h hw
theorem iq2 {n:Nat}{d:DataW H}(h:Rd enc w base sp held n 54 d)(hw:WT Tryz.prog 54 d):∃ r:am5,am5.Ok r/\∀ m,n<=m->dv Tryz.prog m 54 d=zg r.cs:=by
 obtain ⟨n',ds,rfl,rfl,hl,hf⟩:=av2 Tryz.underlying54 h hw
 match ds,hl with
 | [d0,d1],_=>
  obtain ⟨r0,w0⟩:=hf 0 _ d0 rfl rfl;obtain ⟨r1,w1⟩:=hf 1 _ d1 rfl rfl;obtain ⟨z,_,_,e0⟩:=bg2 Tryz.underlying3 r0;obtain ⟨l,k1,k2,e1⟩:=gl8 r1 w1;refine ⟨⟨z,l⟩,⟨k1,k2⟩,fun m hm=>?_⟩
  cases m with
  | zero=>omega
  | succ m=>
   simp only[dv,Tryz.underlying54,zd,zl,dvF,e0 m om,e1 m om,zm,zk,hk9,jg6,ie4,zn,zj,zr,zx,↓reduceIte];rfl
theorem hl8 {n:Nat}{d:DataW H}(h:Rd enc w base sp held n 22 d)(hw:WT Tryz.prog 22 d):∃ l:List am5,l.length<2^62/\(∀ a∈l,am5.Ok a)/\∀ m,n<=m->dv Tryz.prog m 22 d=zg [.aa4 (l.map am5.cs)]:=
 az6 am5.cs am5.Ok Tryz.underlying22 ie4 (by decide) (by decide +kernel) (fun _=>rfl) (fun _ _ _ hr hw'=>iq2 hr hw') h hw
end Go.Id.Tryz
namespace Go.Id
open Go Go.Id
mutual
def isz:IV->Nat
 | .str s=>s.length+1
 | .aa4 es=>cr7 es+1
 | _=>1
def bc1:List IV->Nat
 | []=>0
 | c::cs=>isz c+bc1 cs
def cr7:List (List IV)->Nat
 | []=>0
 | e::es=>bc1 e+cr7 es
end
theorem et9 (a b:List IV):bc1 (a++b)=bc1 a+bc1 b:=by
 induction a with
 | nil=>simp[bc1]
 | cons x a ih=>simp only[zn,bc1,ih]; omega
theorem bu7 {α:Type}(f:α->List IV):∀ (l:List α),∀ a∈l,bc1 (f a)<=cr7 (l.map f):=by
 intro l
 induction l with
 | nil=>intro a h; cases h
 | cons x l ih=>
  intro a h;simp only[zd,cr7];rcases zp.1 h with rfl|h
  ·omega
  ·have:=ih a h; omega
theorem as7 {α:Type}(f:α->List IV)(hf:∀ a,1<=bc1 (f a)):∀ (l:List α),l.length<=cr7 (l.map f):=by
 intro l
 induction l with
 | nil=>simp
 | cons x l ih=>
  simp only[zd,cr7,zm];have:=hf x;omega
namespace Md
theorem Dep.szs (d:Dep):bc1 d.cs=d.name.length+d.evr.ver.length+d.evr.rel.length+5:=by
 simp only[Dep.cs,bc1,isz]; omega
theorem aa6.szs (r:aa6):bc1 r.cs=r.dep.name.length+r.dep.evr.ver.length+r.dep.evr.rel.length+cr7 (r.args.map aa6.cs)+7:=by
 rw[aa6.aq6]; simp only[bc1,isz]; omega
theorem aa2.szs (p:aa2):bc1 p.cs=p.name.length+p.evr.ver.length+p.evr.rel.length+p.vendor.length+cr7 (p.provides.map Dep.cs)+cr7 (p.requires.map aa6.cs)+cr7 (p.conflicts.map aa6.cs)+cr7 (p.ab2.map Dep.cs)+cr7 (p.ac6.map aa6.cs)+cr7 (p.ac2.map aa6.cs)+cr7 (p.suggests.map aa6.cs)+cr7 (p.ac1.map aa6.cs)+cr7 (p.files.map bs8)+15:=by
 simp only[aa2.cs,bc1,isz]; omega
theorem am5.szs (r:am5):bc1 r.cs=cr7 (r.packages.map aa2.cs)+2:=by
 simp only[am5.cs,bc1,isz]; omega
theorem fw7 (r:aa6):r.count<=bc1 r.cs:=by
 induction r using aa6.ind with
 | h k d xs ih=>
  rw[aa6.szs]
  have:∀ ys:List aa6,(∀ y∈ys,y∈xs)->aa6.counts ys<=cr7 (ys.map aa6.cs):=by
   intro ys
   induction ys with
   | nil=>intro _; simp[aa6.counts]
   | cons y ys ih2=>
    intro h;have h1:=ih y (h y (zt ..));have h2:=ih2 fun z hz=>h z (qa _ hz)
    simp only[aa6.counts,zd,cr7];omega
  have:=this xs fun y h=>h
  simp only[aa6.count,aa6.args];omega
theorem hz5 (r:aa6):r.ok->bc1 r.cs<2^31->r.fit:=by
 induction r using aa6.ind with
 | h k d xs ih=>
  intro ho hs;obtain ⟨a,b,c,e,f⟩:=aa6.in3.1 ho;rw[aa6.szs] at hs;simp only[aa6.args] at hs;have hl:=as7 aa6.cs (fun r=>by rw[aa6.szs]; omega) xs;refine aa6.ca5.2 ⟨a,b,c,om,fun r hr=>ih r hr (f r hr) ?_⟩;have:=bu7 aa6.cs xs r hr;omega
theorem gs7 {p:aa2}(h:p.Ok)(hs:bc1 p.cs<2^31):p.Fit:=by
 rw[aa2.szs] at hs;have l1:=as7 Dep.cs (fun r=>by rw[Dep.szs]; omega) p.provides;have l2:=as7 Dep.cs (fun r=>by rw[Dep.szs]; omega) p.ab2;have l3:=as7 bs8 (fun r=>by simp only[bs8,bc1,isz]; omega) p.files
 have hr:∀ x∈p.rows,cr7 (x.2.map aa6.cs)<2^31:=by
  intro x hx;simp only[aa2.rows,zp,zy,or_false] at hx;rcases hx with rfl|rfl|rfl|rfl|rfl|rfl<;>simp only[]<;>omega
 exact {
  name:=h.name
  evr:=h.evr
  ax2:=⟨om,h.ax2.2⟩
  obs:=⟨om,h.obs.2⟩
  files:=⟨om,h.files.2⟩
  rich:=fun x hx=>by
   have h1:=hr x hx;have h2:=as7 aa6.cs (fun r=>by rw[aa6.szs]; omega) x.2;refine ⟨om,fun r hr'=>?_⟩;have h3:=bu7 aa6.cs x.2 r hr';have h4:=fw7 r;exact ⟨hz5 r ((h.rich x hx).2 r hr') om,om⟩ }
theorem gs8 (ab3:List am5):af5 ab3<=cr7 (ab3.map am5.cs):=by
 induction ab3 with
 | nil=>simp[af5]
 | cons r rs ih=>
  have h2:=as7 aa2.cs (fun r=>by rw[aa2.szs]; omega) r.packages;have h3:=am5.szs r;simp only[af5,zd,List.sum_cons,cr7] at ih ⊢;omega
end Md
end Go.Id
