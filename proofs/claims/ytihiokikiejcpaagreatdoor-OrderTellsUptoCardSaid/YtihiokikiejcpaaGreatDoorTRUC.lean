/- The library's sort by a function,walked: the heap; a row turned about. Conditions: what is compared is answered by a pure function. -/
import Derived.Test.YtihiokikiejcpaaGreatDoorTRTS
import Derived.Sort.LotB
import Derived.Sort.LotD1
import Derived.Sort.LotC
set_option linter.all false
namespace Go.Id.Tryz
open Go Go.Id Go.Proofs
set_option maxRecDepth 100000
theorem fx8 {a b:Nat}(h:a+b<2^62):IntKind.i64.wrap ((a:Int)+(b:Int))=((a+b:Nat):Int):=by rw[wrap64 (by omega) (by omega)]; omega
theorem fd6 {a b:Nat}(h:b<=a)(h2:a<2^62):IntKind.i64.wrap ((a:Int)-(b:Int))=((a-b:Nat):Int):=by rw[wrap64 (by omega) (by omega)]; omega
theorem bf3 {a:Nat}(h:1<=a)(h2:a<2^62):IntKind.i64.wrap ((a:Int)-1)=((a-1:Nat):Int):=by rw[wrap64 (by omega) (by omega)]; omega
theorem jb4 {a:Nat}(h:a<2^60):IntKind.i64.wrap (2*(a:Int))=((2*a:Nat):Int):=by rw[wrap64 (by omega) (by omega)]; omega
section
variable {α:Type} [Inhabited α] (emb:α->Int) (tl:List IV) {cf:α->α->Int} {g:Nat} {first cap:List IV} {id:Nat}
theorem ag9 {d:Array α}{i j:Nat}(hi:i<d.size)(hj:j<d.size) :
  ((ba1 emb tl d).drop i).head? = some (.int .i64 (emb d[i]!))/\((ba1 emb tl d).drop j).head? = some (.int .i64 (emb d[j]!))/\i+1<=(ba1 emb tl d).length/\j+1<=(ap5 (ba1 emb tl d) i [.int .i64 (emb d[j]!)]).length /\
  ap5 (ap5 (ba1 emb tl d) i [.int .i64 (emb d[j]!)]) j [.int .i64 (emb d[i]!)]=ba1 emb tl (Go.Sort.swp d i j):=
 ⟨ag8 emb tl hi,ag8 emb tl hj,by rw[bn4]; omega,by rw[ae4 (by rw[bn4]; simp only[List.length_singleton]; omega),bn4]; omega,ek2 emb tl hi hj⟩
theorem SO.put {d d':Array α}{σ u:Store}{n:Nat}(h:SO emb tl id d σ u)(hn:σ.next<=n){a:List IV}:SO emb tl id d' σ ⟨n,(((⟨n,u.obj⟩:Store).put id (.row a)).put id (.row (ba1 emb tl d'))).obj⟩:=
 ⟨hn,fun i hi=>by simp only[aa2,hi,if_false]; exact h.other i hi,by simp only[aa2,if_true]⟩
theorem fw6 {f:List IV}{σ:Store}(d:Array α)(a b:Nat)(fv:IV)(hab:a<b)(hb:b<=d.size)(hz:d.size<2^40)(ho:σ.obj id=some (.row (ba1 emb tl d))) :
  C Tryz.prog EE 72 [.slice id 0 d.size 1,.int .i64 a,.int .i64 b,fv] σ fun v s=>v=.tuple []/\SO emb tl id (Go.Sort.reverseRange d a b) σ s:=by
 refine C_f fok72 (nZ rfl) ?_;have w0:=bf3 (a:=b) (by omega) (by omega);simp only[ic72,go_sem,w0];refine ab3 noT (fun k fr t=>∃ (i j:Nat) (dk:Array α),fr=[(0,.slice id 0 d.size 1),(8,.int .i64 (i:Int)),(9,.int .i64 (j:Int))]/\SO emb tl id dk σ t/\dk.size=d.size/\k<=i/\j<d.size/\Go.Sort.reverseLoop i j dk=Go.Sort.reverseRange d a b) d.size ⟨a,b-1,d,rfl,⟨Nat.le_refl _,fun _ _=>rfl,ho⟩,rfl,Nat.zero_le _,by omega,rfl⟩ ?_;rintro k fr t hk ⟨i,j,dk,rfl,hS,hsz,hki,hjd,hI⟩;by_cases hlt:i<j
 ·have c1:(i:Int)<(j:Int):=by omega
  have c2:(0:Int)<=i:=by omega
  have c3:(i:Int)<d.size:=by omega
  have c4:(0:Int)<=j:=by omega
  have c5:(j:Int)<d.size:=by omega
  have w1:=ad2 (i:=i) (by omega);have w2:=bf3 (a:=j) (by omega) (by omega);obtain ⟨r1,r2,r3,r4,r5⟩:=ag9 emb tl (d:=dk) (i:=i) (j:=j) (by omega) (by omega);rw[Go.Sort.reverseLoop,if_pos hlt] at hI;simp only[go_sem,c1,c2,c3,c4,c5,hS.row,r1,r2,r3,r4,r5,w1,w2,Nat.mul_one];refine ⟨by omega,i+1,j-1,Go.Sort.swp dk i j,rfl,⟨?_,fun m hm=>?_,?_⟩,by rw[swp_size]; exact hsz,by omega,by omega,hI⟩
  ·have:=hS.next; simp only[aa6]; omega
  ·simp only[aa2,hm,if_false]; exact hS.other m hm
  ·simp only[aa2,if_true]
 ·have c1:¬ (i:Int)<(j:Int):=by omega
  rw[Go.Sort.reverseLoop,if_neg hlt] at hI;simp only[go_sem,c1];rw[<- hI];exact ⟨hS.next,hS.other,hS.row⟩
theorem bv7 (lt:α->α->Bool)(hi fst:Nat):∀ (n root:Nat) (d:Array α),hi-root<=n->(Go.Sort.siftDown lt hi fst root d).size=d.size:=by
 intro n
 induction n with
 | zero=>
  intro root d h
  rw[Go.Sort.siftDown,dif_pos (by omega)]
 | succ n ih=>
  intro root d h;rw[Go.Sort.siftDown]
  repeat' split
  all_goals first|rfl|(rw[ih _ _ (by omega),swp_size])
theorem dc6 (hC:cf8 emb cf g first cap){σ:Store}(d:Array α)(lo hi fst:Nat)(hb:fst+hi<=d.size)(hz:d.size<2^40)(hlo:lo<2^40)(ho:σ.obj id=some (.row (ba1 emb tl d))) :
  C Tryz.prog EE 105 [.slice id 0 d.size 1,.int .i64 lo,.int .i64 hi,.int .i64 fst,.func (.func g) first cap] σ fun v s=>v=.tuple []/\SO emb tl id (Go.Sort.siftDown (ltOf cf) hi fst lo d) σ s:=by
 refine C_f fok105 (nZ rfl) ?_;simp only[ic105,go_sem];refine ab3 noT (fun k fr t=>∃ (root:Nat) (dk:Array α),fr=[(0,.slice id 0 d.size 1),(2,.int .i64 hi),(3,.int .i64 fst),(4,.func (.func g) first cap),(10,.int .i64 (root:Int))]/\SO emb tl id dk σ t/\dk.size=d.size/\k<=root/\root<2^40/\Go.Sort.siftDown (ltOf cf) hi fst root dk=Go.Sort.siftDown (ltOf cf) hi fst lo d) hi ⟨lo,d,rfl,⟨Nat.le_refl _,fun _ _=>rfl,ho⟩,rfl,Nat.zero_le _,hlo,rfl⟩ ?_;rintro k fr t hk ⟨root,dk,rfl,hS,hsz,hkr,hrt,hI⟩;have w1:=jb4 (a:=root) (by omega);have w2:=ad2 (i:=2*root) (by omega);have w3:=ad2 (i:=2*root+1) (by omega);rw[Go.Sort.siftDown] at hI;by_cases hge:2*root+1≥hi
 ·have c1:((hi:Nat):Int)<=((2*root+1:Nat):Int):=by omega
  rw[dif_pos hge] at hI;simp only[go_sem,w1,w2,c1];rw[<- hI];exact ⟨hS.next,hS.other,hS.row⟩
 have c1:¬ ((hi:Nat):Int)<=((2*root+1:Nat):Int):=by omega
 have v1:=fx8 (a:=fst) (b:=root) (by omega);have v2:=fx8 (a:=fst) (b:=2*root+1) (by omega);have v3:=ad2 (i:=fst+(2*root+1)) (by omega);have p1:(0:Int)<=((fst+(2*root+1):Nat):Int):=by omega
 have p2:((fst+(2*root+1):Nat):Int)<d.size:=by omega
 have p3:(0:Int)<=((fst+root:Nat):Int):=by omega
 have p4:((fst+root:Nat):Int)<d.size:=by omega
 rw[dif_neg hge] at hI;have x1:=ag8 emb tl (d:=dk) (k:=fst+(2*root+1)) (by omega);have x0:=ag8 emb tl (d:=dk) (k:=fst+root) (by omega);by_cases h2:2*root+2<hi
 ·have c2:((2*root+1+1:Nat):Int)<hi:=by omega
  have p5:(0:Int)<=((fst+(2*root+1)+1:Nat):Int):=by omega
  have p6:((fst+(2*root+1)+1:Nat):Int)<d.size:=by omega
  have x2:=ag8 emb tl (d:=dk) (k:=fst+(2*root+1)+1) (by omega);have e2:(2*root+1+1<hi)=True:=eq_true (by omega);have hc1:=hC.pc dk[fst+(2*root+1)]! dk[fst+(2*root+1)+1]!;simp only[go_sem,w1,w2,w3,c1,c2,p1,p2,p5,p6,v2,v3,x1,x2,hS.row,Nat.mul_one];refine am1 hC.ok hc1 ?_;by_cases hcf:cf dk[fst+(2*root+1)]! dk[fst+(2*root+1)+1]! < 0
  ·have hl2:ltOf cf dk[fst+(2*root+1)]! dk[fst+(2*root+1)+1]! = true:=decide_eq_true hcf;have hh:decide (2*root+1+1<hi)=true:=decide_eq_true (by omega);rw[hl2,hh,Bool.and_self,if_pos rfl] at hI;simp only[h2,dite_true] at hI;have e3:2*root+1+1=2*root+2:=by omega
   have v4:=fx8 (a:=fst) (b:=2*root+2) (by omega);have q1:(0:Int)<=((fst+(2*root+2):Nat):Int):=by omega
   have q2:((fst+(2*root+2):Nat):Int)<d.size:=by omega
   have x4:=ag8 emb tl (d:=dk) (k:=fst+(2*root+2)) (by omega);have hc2:=hC.pc dk[fst+root]! dk[fst+(2*root+2)]!;simp only[go_sem,hcf,w3,e3,v1,v4,p3,p4,q1,q2,x0,x4,hS.row,Nat.mul_one];refine am1 hC.ok hc2 ?_;by_cases hcg:cf dk[fst+root]! dk[fst+(2*root+2)]! < 0
   ·have hl3:ltOf cf dk[fst+root]! dk[fst+(2*root+2)]! = true:=decide_eq_true hcg;rw[hl3] at hI;simp only[Bool.not_true,Bool.false_eq_true,if_false] at hI;obtain ⟨r1,r2,r3,r4,r5⟩:=ag9 emb tl (d:=dk) (i:=fst+root) (j:=fst+(2*root+2)) (by omega) (by omega);simp only[go_sem,hcg,v1,v4,p3,p4,q1,q2,r1,r2,r3,r4,r5,hS.row,Nat.mul_one];refine ⟨by omega,2*root+2,Go.Sort.swp dk (fst+root) (fst+(2*root+2)),rfl,⟨?_,fun m hm=>?_,?_⟩,by rw[swp_size]; exact hsz,by omega,by omega,hI⟩
    ·have:=hS.next; simp only[aa6]; omega
    ·simp only[aa2,hm,if_false]; exact hS.other m hm
    ·simp only[aa2,if_true]
   ·have hl3:ltOf cf dk[fst+root]! dk[fst+(2*root+2)]! = false:=decide_eq_false hcg;rw[hl3] at hI;simp only[Bool.not_false,if_true] at hI;simp only[go_sem,hcg];rw[<- hI];exact ⟨by have:=hS.next; show σ.next<=t.next+_+_; omega,hS.other,hS.row⟩
  ·have hl2:ltOf cf dk[fst+(2*root+1)]! dk[fst+(2*root+1)+1]! = false:=decide_eq_false hcf;rw[hl2,Bool.and_false,if_neg (by decide)] at hI;have hc2:=hC.pc dk[fst+root]! dk[fst+(2*root+1)]!;simp only[go_sem,hcf,v1,v2,p3,p4,p1,p2,x0,x1,hS.row,Nat.mul_one];refine am1 hC.ok hc2 ?_;by_cases hcg:cf dk[fst+root]! dk[fst+(2*root+1)]! < 0
   ·have hl3:ltOf cf dk[fst+root]! dk[fst+(2*root+1)]! = true:=decide_eq_true hcg;rw[hl3] at hI;simp only[Bool.not_true,Bool.false_eq_true,if_false] at hI;obtain ⟨r1,r2,r3,r4,r5⟩:=ag9 emb tl (d:=dk) (i:=fst+root) (j:=fst+(2*root+1)) (by omega) (by omega);simp only[go_sem,hcg,v1,v2,p3,p4,p1,p2,r1,r2,r3,r4,r5,hS.row,Nat.mul_one];refine ⟨by omega,2*root+1,Go.Sort.swp dk (fst+root) (fst+(2*root+1)),rfl,⟨?_,fun m hm=>?_,?_⟩,by rw[swp_size]; exact hsz,by omega,by omega,hI⟩
    ·have:=hS.next; simp only[aa6]; omega
    ·simp only[aa2,hm,if_false]; exact hS.other m hm
    ·simp only[aa2,if_true]
   ·have hl3:ltOf cf dk[fst+root]! dk[fst+(2*root+1)]! = false:=decide_eq_false hcg;rw[hl3] at hI;simp only[Bool.not_false,if_true] at hI;simp only[go_sem,hcg];rw[<- hI];exact ⟨by have:=hS.next; show σ.next<=t.next+_+_; omega,hS.other,hS.row⟩
 ·have c2:¬ ((2*root+1+1:Nat):Int)<hi:=by omega
  have hh:decide (2*root+1+1<hi)=false:=decide_eq_false (by omega);rw[hh,Bool.false_and,if_neg (by decide)] at hI;have hc2:=hC.pc dk[fst+root]! dk[fst+(2*root+1)]!;simp only[go_sem,w1,w2,w3,c1,c2,v1,v2,p3,p4,p1,p2,x0,x1,hS.row,Nat.mul_one];refine am1 hC.ok hc2 ?_;by_cases hcg:cf dk[fst+root]! dk[fst+(2*root+1)]! < 0
  ·have hl3:ltOf cf dk[fst+root]! dk[fst+(2*root+1)]! = true:=decide_eq_true hcg;rw[hl3] at hI;simp only[Bool.not_true,Bool.false_eq_true,if_false] at hI;obtain ⟨r1,r2,r3,r4,r5⟩:=ag9 emb tl (d:=dk) (i:=fst+root) (j:=fst+(2*root+1)) (by omega) (by omega);simp only[go_sem,hcg,v1,v2,p3,p4,p1,p2,r1,r2,r3,r4,r5,hS.row,Nat.mul_one];refine ⟨by omega,2*root+1,Go.Sort.swp dk (fst+root) (fst+(2*root+1)),rfl,⟨?_,fun m hm=>?_,?_⟩,by rw[swp_size]; exact hsz,by omega,by omega,hI⟩
   ·have:=hS.next; simp only[aa6]; omega
   ·simp only[aa2,hm,if_false]; exact hS.other m hm
   ·simp only[aa2,if_true]
  ·have hl3:ltOf cf dk[fst+root]! dk[fst+(2*root+1)]! = false:=decide_eq_false hcg;rw[hl3] at hI;simp only[Bool.not_false,if_true] at hI;simp only[go_sem,hcg];rw[<- hI];exact ⟨by have:=hS.next; show σ.next<=t.next+_+_; omega,hS.other,hS.row⟩
theorem fc3 (hC:cf8 emb cf g first cap){σ:Store}(d:Array α)(a b:Nat)(hab:a<b)(hb:b<=d.size)(hz:d.size<2^40)(ho:σ.obj id=some (.row (ba1 emb tl d))) :
  C Tryz.prog EE 69 [.slice id 0 d.size 1,.int .i64 a,.int .i64 b,.func (.func g) first cap] σ fun v s=>v=.tuple []/\SO emb tl id (Go.Sort.heapSort (ltOf cf) d a b) σ s:=by
 refine C_f fok69 (nZ rfl) ?_;have w0:=fd6 (a:=b) (b:=a) (by omega) (by omega);obtain ⟨hi,hhi⟩:∃ hi,hi=b-a:=⟨_,rfl⟩;rw[<- hhi] at w0;have w1:=bf3 (a:=hi) (by omega) (by omega)
 have w2:IntKind.i64.wrap (((hi-1:Nat):Int).tdiv 2)=(((hi-1)/2+1:Nat):Int)-1:=by
  have:((hi-1:Nat):Int).tdiv 2=(((hi-1)/2:Nat):Int):=by
   rw[Int.tdiv_eq_ediv_of_nonneg (by omega)]; omega
  rw[this,wrap64 (by omega) (by omega)]; omega
 unfold Go.Sort.heapSort;rw[<- hhi];have n2:¬ ((2:Int)=0):=by decide
 simp only[ic69,go_sem,w0,w1,w2,n2];refine ab3 noT (fun k fr t=>∃ (r:Nat) (dk:Array α),fr=[(0,.slice id 0 d.size 1),(3,.func (.func g) first cap),(8,.int .i64 a),(9,.int .i64 0),(10,.int .i64 hi),(11,.int .i64 ((r:Int)-1))]/\r+k=(hi-1)/2+1/\SO emb tl id dk σ t/\dk.size=d.size/\Go.Sort.heapBuild (ltOf cf) hi a r dk=Go.Sort.heapBuild (ltOf cf) hi a ((hi-1)/2+1) d) ((hi-1)/2+1) ⟨_,d,rfl,rfl,⟨Nat.le_refl _,fun _ _=>rfl,ho⟩,rfl,rfl⟩ ?_;rintro k fr t hk ⟨r,dk,rfl,hrk,hS,hsz,hI⟩
 cases r with
 | succ r=>
  have e1:(((r+1:Nat):Int)-1)=(r:Int):=by omega
  have c1:(0:Int)<=(r:Int):=by omega
  have w3:IntKind.i64.wrap ((r:Int)-1)=(r:Int)-1:=wrap64 (by omega) (by omega);have hs1:=dc6 emb tl hC (id:=id) (σ:=t) dk r hi a (by omega) (by omega) (by omega) hS.row;rw[hsz] at hs1;simp only[go_sem,e1,c1];refine ad3 fok105 hs1 ?_;rintro v s ⟨rfl,h1⟩;refine ⟨h1.next,?_⟩;simp only[go_sem,w3]
  refine ⟨by omega,r,_,rfl,by omega,hS.trans emb tl h1,by rw[bv7 _ _ _ _ _ _ (Nat.le_refl _)]; exact hsz,hI⟩
 | zero=>
  have e1:¬ (0:Int)<=0-1:=by decide
  have e0:(((0:Nat):Int))=0:=rfl;have e2:Go.Sort.heapBuild (ltOf cf) hi a 0 dk=dk:=rfl;rw[e2] at hI;have w4:(((hi-1:Nat):Int))=((hi:Nat):Int)-1:=by omega
  simp only[go_sem,e0,e1,w1,w4];rw[<- hI];refine ab3 noT (fun k fr t=>∃ (r:Nat) (dj:Array α),fr=[(0,.slice id 0 d.size 1),(3,.func (.func g) first cap),(8,.int .i64 a),(9,.int .i64 0),(12,.int .i64 ((r:Int)-1))]/\r+k=hi/\SO emb tl id dj σ t/\dj.size=d.size/\Go.Sort.heapPop (ltOf cf) a r dj=Go.Sort.heapPop (ltOf cf) a hi dk) hi ⟨_,dk,rfl,rfl,⟨by have:=hS.next; show σ.next<=t.next; omega,hS.other,hS.row⟩,hsz,rfl⟩ ?_;rintro k fr t hk ⟨r,dj,rfl,hrk,hS,hsz,hI⟩
  cases r with
  | succ r=>
   have e1:(((r+1:Nat):Int)-1)=(r:Int):=by omega
   have c1:(0:Int)<=(r:Int):=by omega
   have c2:(0:Int)<=(a:Int):=by omega
   have c3:(a:Int)<d.size:=by omega
   have c4:(0:Int)<=((a+r:Nat):Int):=by omega
   have c5:((a+r:Nat):Int)<d.size:=by omega
   have v1:=fx8 (a:=a) (b:=r) (by omega);have w3:IntKind.i64.wrap ((r:Int)-1)=(r:Int)-1:=wrap64 (by omega) (by omega);obtain ⟨r1,r2,r3,r4,r5⟩:=ag9 emb tl (d:=dj) (i:=a) (j:=a+r) (by omega) (by omega);simp only[go_sem,e1,c1,c2,c3,c4,c5,v1,r1,r2,r3,r4,r5,hS.row,Nat.mul_one]
   have hs1:∀ U:Store,SO emb tl id (Go.Sort.swp dj a (a+r)) σ U->C Tryz.prog EE 105 [.slice id 0 d.size 1,.int .i64 0,.int .i64 r,.int .i64 a,.func (.func g) first cap] U fun v s=>v=.tuple []/\σ.next<=U.next/\SO emb tl id (Go.Sort.swp dj a (a+r)) σ U/\SO emb tl id (Go.Sort.siftDown (ltOf cf) r a 0 (Go.Sort.swp dj a (a+r))) U s:=fun U hU=>by
    have h:=dc6 emb tl hC (id:=id) (σ:=U) (Go.Sort.swp dj a (a+r)) 0 r a (by rw[swp_size]; omega) (by rw[swp_size]; omega) (by omega) hU.row;rw[swp_size,hsz] at h;exact h.mono fun v s ⟨e,h⟩=>⟨e,hU.next,hU,h⟩
   refine ad3 fok105 (hs1 _ ⟨?_,fun m hm=>?_,?_⟩) ?_
   ·have:=hS.next; simp only[aa6]; omega
   ·simp only[aa2,hm,if_false]; exact hS.other m hm
   ·simp only[aa2,if_true]
   rintro v s ⟨rfl,_,hUs,h1⟩;refine ⟨h1.next,?_⟩;simp only[go_sem,w3]
   refine ⟨by omega,r,_,rfl,by omega,hUs.trans emb tl h1,by rw[bv7 _ _ _ _ _ _ (Nat.le_refl _),swp_size]; exact hsz,hI⟩
  | zero=>
   have e1:¬ (0:Int)<=0-1:=by decide
   have e0:(((0:Nat):Int))=0:=rfl;have e2:Go.Sort.heapPop (ltOf cf) a 0 dj=dj:=rfl;rw[e2] at hI;simp only[go_sem,e0,e1];rw[<- hI];exact ⟨hS.next,hS.other,hS.row⟩
end
section
variable {α:Type} [Inhabited α] (emb:α->Int) (tl:List IV) {cf:α->α->Int} {g:Nat} {first cap:List IV} {id:Nat}
structure SKp (id:Nat) (d':Array α) (σ s:Store):Prop where
 next:σ.next<=s.next
 other:∀ i,i<σ.next->i≠id->s.obj i=σ.obj i
 row:s.obj id=some (.row (ba1 emb tl d'))
theorem SO.kp {d:Array α}{σ s:Store}(h:SO emb tl id d σ s):SKp emb tl id d σ s:=⟨h.next,fun i _ hi=>h.other i hi,h.row⟩
theorem SKp.trans {d d':Array α}{σ s t:Store}(h:SKp emb tl id d σ s)(h2:SKp emb tl id d' s t):SKp emb tl id d' σ t :=
 ⟨Nat.le_trans h.next h2.next,fun i hi hn=>by rw[h2.other i (Nat.lt_of_lt_of_le hi h.next) hn,h.other i hi hn],h2.row⟩
structure Bx (c:Nat) (σ s:Store):Prop where
 next:σ.next<=s.next
 other:∀ i,i≠c->s.obj i=σ.obj i
 box:∃ z:Int,s.obj c=some (.cells [.int .i64 z])
theorem Bx.trans {c:Nat}{σ s t:Store}(h:Bx c σ s)(h2:Bx c s t):Bx c σ t:=⟨Nat.le_trans h.next h2.next,fun i hi=>by rw[h2.other i hi,h.other i hi],h2.box⟩
theorem dj6 (hC:cf8 emb cf g first cap){σ:Store}(d:Array α)(a b c:Nat)(z:Int)(ha:a<d.size)(hb:b<d.size)(hc:c≠id)(ho:σ.obj id=some (.row (ba1 emb tl d)))(hbx:σ.obj c=some (.cells [.int .i64 z])) :
  C Tryz.prog EE 123 [.slice id 0 d.size 1,.int .i64 a,.int .i64 b,.ptr c 0,.func (.func g) first cap] σ fun v s=>(v=.tuple [.int .i64 a,.int .i64 b]\/v=.tuple [.int .i64 b,.int .i64 a])/\Bx c σ s:=by
 refine C_f fok123 (nZ rfl) ?_;have c1:(0:Int)<=(a:Int):=by omega
 have c2:(a:Int)<d.size:=by omega
 have c3:(0:Int)<=(b:Int):=by omega
 have c4:(b:Int)<d.size:=by omega
 have x1:=ag8 emb tl ha;have x2:=ag8 emb tl hb;have hcm:=hC.pc d[b]! d[a]!;simp only[ic123,go_sem,c1,c2,c3,c4,x1,x2,ho,Nat.mul_one];refine am1 hC.ok hcm ?_;by_cases hcf:cf d[b]! d[a]! < 0
 ·simp only[go_sem,hcf,hbx];exact ⟨.inr (by first|rfl|trivial),by simp only[aa6]; omega,fun i hi=>by simp only[aa2,hi,if_false],_,by simp only[aa2,if_true]; rfl⟩
 ·simp only[go_sem,hcf];exact ⟨.inl (by first|rfl|trivial),Nat.le_add_right _ _,fun _ _=>rfl,z,hbx⟩
theorem ek3 (hC:cf8 emb cf g first cap){σ:Store}(d:Array α)(a b e c:Nat)(z:Int)(ha:a<d.size)(hb:b<d.size)(he:e<d.size)(hc:c≠id)(ho:σ.obj id=some (.row (ba1 emb tl d)))(hbx:σ.obj c=some (.cells [.int .i64 z])) :
  C Tryz.prog EE 109 [.slice id 0 d.size 1,.int .i64 a,.int .i64 b,.int .i64 e,.ptr c 0,.func (.func g) first cap] σ fun v s=>(∃ m:Nat,v=.int .i64 m/\(m=a\/m=b\/m=e))/\Bx c σ s:=by
 refine C_f fok109 (nZ rfl) ?_;simp only[ic109,go_sem];refine ad3 fok123 (dj6 emb tl hC d a b c z ha hb hc ho hbx) ?_;rintro v s ⟨hv,h1⟩;obtain ⟨z1,hz1⟩:=h1.box;refine ⟨h1.next,?_⟩;have key:∀ x y:Nat,((x=a/\y=b)\/(x=b/\y=a))->v=.tuple [.int .i64 x,.int .i64 y]->x<d.size/\y<d.size:=fun x y h _=>by omega
 obtain ⟨x,y,hxy,rfl⟩:∃ x y:Nat,((x=a/\y=b)\/(x=b/\y=a))/\v=.tuple [.int .i64 x,.int .i64 y]:=by
  rcases hv with rfl|rfl
  ·exact ⟨a,b,.inl ⟨rfl,rfl⟩,rfl⟩
  ·exact ⟨b,a,.inr ⟨rfl,rfl⟩,rfl⟩
 have hx:x<d.size:=by omega
 have hy:y<d.size:=by omega
 have ho1:s.obj id=some (.row (ba1 emb tl d)):=by rw[h1.other id (Ne.symm hc)]; exact ho
 simp only[go_sem];refine ad3 fok123 (dj6 emb tl hC d y e c z1 hy he hc ho1 hz1) ?_;rintro v s2 ⟨hv,h2⟩;obtain ⟨z2,hz2⟩:=h2.box;refine ⟨h2.next,?_⟩
 obtain ⟨p,q,hpq,rfl⟩:∃ p q:Nat,((p=y/\q=e)\/(p=e/\q=y))/\v=.tuple [.int .i64 p,.int .i64 q]:=by
  rcases hv with rfl|rfl
  ·exact ⟨y,e,.inl ⟨rfl,rfl⟩,rfl⟩
  ·exact ⟨e,y,.inr ⟨rfl,rfl⟩,rfl⟩
 have hp:p<d.size:=by omega
 have ho2:s2.obj id=some (.row (ba1 emb tl d)):=by rw[h2.other id (Ne.symm hc)]; exact ho1
 simp only[go_sem];refine ad3 fok123 (dj6 emb tl hC d x p c z2 hx hp hc ho2 hz2) ?_;rintro v s3 ⟨hv,h3⟩;refine ⟨h3.next,?_⟩
 obtain ⟨m,n,hmn,rfl⟩:∃ m n:Nat,((m=x/\n=p)\/(m=p/\n=x))/\v=.tuple [.int .i64 m,.int .i64 n]:=by
  rcases hv with rfl|rfl
  ·exact ⟨x,p,.inl ⟨rfl,rfl⟩,rfl⟩
  ·exact ⟨p,x,.inr ⟨rfl,rfl⟩,rfl⟩
 simp only[go_sem];exact ⟨⟨n,rfl,by omega⟩,(h1.trans h2).trans h3⟩
theorem ec3 (hC:cf8 emb cf g first cap){σ:Store}(d:Array α)(a c:Nat)(z:Int)(ha:1<=a)(hb:a+1<d.size)(hz:d.size<2^40)(hc:c≠id)(ho:σ.obj id=some (.row (ba1 emb tl d)))(hbx:σ.obj c=some (.cells [.int .i64 z])) :
  C Tryz.prog EE 108 [.slice id 0 d.size 1,.int .i64 a,.ptr c 0,.func (.func g) first cap] σ fun v s=>(∃ m:Nat,v=.int .i64 m/\a-1<=m/\m<=a+1)/\Bx c σ s:=by
 refine C_f fok108 (nZ rfl) ?_;have w1:=bf3 (a:=a) ha (by omega);have w2:=ad2 (i:=a) (by omega);simp only[ic108,go_sem,w1,w2];refine ad3 fok109 (ek3 emb tl hC d (a-1) a (a+1) c z (by omega) (by omega) hb hc ho hbx) ?_;rintro v s ⟨⟨m,rfl,hm⟩,h⟩;refine ⟨h.next,?_⟩;simp only[go_sem];exact ⟨⟨m,rfl,by omega,by omega⟩,h⟩
theorem go5 (hC:cf8 emb cf g first cap){σ:Store}(d:Array α)(a b:Nat)(hab:a+12<b)(hb:b<=d.size)(hz:d.size<2^40)(hid:id<σ.next)(ho:σ.obj id=some (.row (ba1 emb tl d))) :
  C Tryz.prog EE 71 [.slice id 0 d.size 1,.int .i64 a,.int .i64 b,.func (.func g) first cap] σ fun v s=>(∃ (m:Nat) (h:Int),v=.tuple [.int .i64 m,.int .i64 h]/\a<=m/\m<b)/\SKp emb tl id d σ s:=by
 refine C_f fok71 (nZ rfl) ?_;obtain ⟨l,hl⟩:∃ l,l=b-a:=⟨_,rfl⟩;have w0:=fd6 (a:=b) (b:=a) (by omega) (by omega);rw[<- hl] at w0;have n4:¬ ((4:Int)=0):=by decide
 have q4:IntKind.i64.wrap ((l:Int).tdiv 4)=((l/4:Nat):Int):=by
  have:(l:Int).tdiv 4=((l/4:Nat):Int):=by rw[Int.tdiv_eq_ediv_of_nonneg (by omega)]; omega
  rw[this,wrap64 (by omega) (by omega)]
 have m1:IntKind.i64.wrap (((l/4:Nat):Int)*1)=((l/4:Nat):Int):=by rw[wrap64 (by omega) (by omega)]; omega
 have m2:IntKind.i64.wrap (((l/4:Nat):Int)*2)=((l/4*2:Nat):Int):=by rw[wrap64 (by omega) (by omega)]; omega
 have m3:IntKind.i64.wrap (((l/4:Nat):Int)*3)=((l/4*3:Nat):Int):=by rw[wrap64 (by omega) (by omega)]; omega
 have a1:=fx8 (a:=a) (b:=l/4) (by omega);have a2:=fx8 (a:=a) (b:=l/4*2) (by omega);have a3:=fx8 (a:=a) (b:=l/4*3) (by omega);have c8:(8:Int)<=(l:Int):=by omega
 have hne:σ.next≠id:=by omega
 simp only[ic71,go_sem,w0,n4,q4,m1,m2,m3,a1,a2,a3,c8]
 -- the last median,and what is told of it
 have fin:∀ (u:Store) (i j k:Nat) (z:Int),a<=i->i<b->a<=j->j<b->a<=k->k<b->σ.next<u.next->(∀ x,x<σ.next->u.obj x=σ.obj x)->u.obj σ.next=some (.cells [.int .i64 z])->C Tryz.prog EE 109 [.slice id 0 d.size 1,.int .i64 i,.int .i64 j,.int .i64 k,.ptr σ.next 0,.func (.func g) first cap] u fun v s=>∃ m:Nat,v=.int .i64 m/\a<=m/\m<b/\u.next<=s.next/\(∀ x,x<σ.next->s.obj x=σ.obj x)/\∃ z:Int,s.obj σ.next=some (.cells [.int .i64 z]):=fun u i j k z h1 h2 h3 h4 h5 h6 h7 h8 h9=>
  (ek3 emb tl hC d i j k σ.next z (by omega) (by omega) (by omega) hne (by rw[h8 id hid]; exact ho) h9).mono fun v s ⟨⟨m,e,hm⟩,h⟩=>⟨m,e,by omega,by omega,h.next,fun x hx=>by rw[h.other x (by omega)]; exact h8 x hx,h.box⟩
 have sw:∀ (s:Store) (m:Nat),a<=m->m<b->σ.next<=s.next->(∀ x,x<σ.next->s.obj x=σ.obj x)->∀ h:Int,(∃ (m':Nat) (h':Int),IV.tuple [.int .i64 m,.int .i64 h]=.tuple [.int .i64 m',.int .i64 h']/\a<=m'/\m'<b)/\SKp emb tl id d σ s:=fun s m h1 h2 h3 h4 h=>⟨⟨m,h,rfl,h1,h2⟩,h3,fun x hx _=>h4 x hx,by rw[h4 id hid]; exact ho⟩
 have adj:∀ (u:Store) (i:Nat) (z:Int),a+1<=i->i+1<b->σ.next<u.next->(∀ x,x<σ.next->u.obj x=σ.obj x)->u.obj σ.next=some (.cells [.int .i64 z])->C Tryz.prog EE 108 [.slice id 0 d.size 1,.int .i64 i,.ptr σ.next 0,.func (.func g) first cap] u fun v s=>∃ m:Nat,v=.int .i64 m/\a<=m/\m<b/\u.next<=s.next/\(∀ x,x<σ.next->s.obj x=σ.obj x)/\∃ z:Int,s.obj σ.next=some (.cells [.int .i64 z]):=fun u i z h1 h2 h7 h8 h9=>
  (ec3 emb tl hC d i σ.next z (by omega) (by omega) hz hne (by rw[h8 id hid]; exact ho) h9).mono fun v s ⟨⟨m,e,hm,hm2⟩,h⟩=>⟨m,e,by omega,by omega,h.next,fun x hx=>by rw[h.other x (by omega)]; exact h8 x hx,h.box⟩
 have start:∀ x,x<σ.next->(Store.put ⟨σ.next+1,σ.obj⟩ σ.next (.cells [.int .i64 0])).obj x=σ.obj x:=fun x hx=>by
  have:¬ x=σ.next:=by omega
  simp only[aa2,this,if_false]
 have zero:(Store.put ⟨σ.next+1,σ.obj⟩ σ.next (.cells [.int .i64 0])).obj σ.next=some (.cells [.int .i64 0]):=by simp only[aa2,if_true]
 by_cases h50:50<=l
 ·have c50:(50:Int)<=(l:Int):=by omega
  simp only[go_sem,c50];refine ad3 fok108 (adj _ (a+l/4) 0 (by omega) (by omega) (by first|exact Nat.lt_succ_self _|(simp only[aa6]; omega)) start zero) ?_;rintro v s1 ⟨i,rfl,i1,i2,n1,o1,z1,b1⟩;refine ⟨n1,?_⟩;have n1':σ.next<s1.next:=Nat.lt_of_lt_of_le (by first|exact Nat.lt_succ_self _|(simp only[aa6]; omega)) n1;simp only[go_sem];refine ad3 fok108 (adj s1 (a+l/4*2) z1 (by omega) (by omega) n1' o1 b1) ?_;rintro v s2 ⟨j,rfl,j1,j2,n2,o2,z2,b2⟩;refine ⟨n2,?_⟩;simp only[go_sem];refine ad3 fok108 (adj s2 (a+l/4*3) z2 (by omega) (by omega) (by omega) o2 b2) ?_;rintro v s3 ⟨k,rfl,k1,k2,n3,o3,z3,b3⟩;refine ⟨n3,?_⟩;simp only[go_sem];refine ad3 fok109 (fin s3 i j k z3 i1 i2 j1 j2 k1 k2 (by omega) o3 b3) ?_;rintro v s4 ⟨m,rfl,m1,m2,n4,o4,z4,b4⟩;refine ⟨n4,?_⟩;have hs:=sw s4 m m1 m2 (by omega) o4;by_cases e0:z4=0
  ·simp only[go_sem,b4,e0]; exact hs _
  by_cases e1:z4=12
  ·simp only[go_sem,b4,e0,e1]; exact hs _
  simp only[go_sem,b4,e0,e1]; exact hs _
 ·have c50:¬ (50:Int)<=(l:Int):=by omega
  simp only[go_sem,c50];refine ad3 fok109 (fin _ (a+l/4) (a+l/4*2) (a+l/4*3) 0 (by omega) (by omega) (by omega) (by omega) (by omega) (by omega) (by first|exact Nat.lt_succ_self _|(simp only[aa6]; omega)) start zero) ?_;rintro v s4 ⟨m,rfl,m1,m2,n4,o4,z4,b4⟩;refine ⟨n4,?_⟩;have n4':σ.next<=s4.next:=Nat.le_trans (by first|exact Nat.le_succ _|(simp only[aa6]; omega)) n4;have hs:=sw s4 m m1 m2 n4' o4;by_cases e0:z4=0
  ·simp only[go_sem,b4,e0]; exact hs _
  by_cases e1:z4=12
  ·simp only[go_sem,b4,e0,e1]; exact hs _
  simp only[go_sem,b4,e0,e1]; exact hs _
end
def fw7:List UInt8:=[0,1,2,2,3,3,3,3,4,4,4,4,4,4,4,4,5,5,5,5,5,5,5,5,5,5,5,5,5,5,5,5,6,6,6,6,6,6,6,6,6,6,6,6,6,6,6,6,6,6,6,6,6,6,6,6,6,6,6,6,6,6,6,6,7,7,7,7,7,7,7,7,7,7,7,7,7,7,7,7,7,7,7,7,7,7,7,7,7,7,7,7,7,7,7,7,7,7,7,7,7,7,7,7,7,7,7,7,7,7,7,7,7,7,7,7,7,7,7,7,7,7,7,7,7,7,7,7,8,8,8,8,8,8,8,8,8,8,8,8,8,8,8,8,8,8,8,8,8,8,8,8,8,8,8,8,8,8,8,8,8,8,8,8,8,8,8,8,8,8,8,8,8,8,8,8,8,8,8,8,8,8,8,8,8,8,8,8,8,8,8,8,8,8,8,8,8,8,8,8,8,8,8,8,8,8,8,8,8,8,8,8,8,8,8,8,8,8,8,8,8,8,8,8,8,8,8,8,8,8,8,8,8,8,8,8,8,8,8,8,8,8,8,8,8,8,8,8,8,8,8,8,8,8,8,8]
theorem fw8:∀ n:Nat,n<256->fw7[n]? = some (UInt8.ofNat (Go.Sort.bitsLen n)):=by
 have h:∀ n:Fin 256,fw7[n.1]? = some (UInt8.ofNat (Go.Sort.bitsLen n.1)):=by decide +kernel
 exact fun n hn=>h ⟨n,hn⟩
theorem bv8:∀ n:Nat,n<256->Go.Sort.bitsLen n<=8/\2^Go.Sort.bitsLen n<=2*n+1/\(UInt8.ofNat (Go.Sort.bitsLen n)).toNat=Go.Sort.bitsLen n:=by
 have h:∀ n:Fin 256,Go.Sort.bitsLen n.1<=8/\2^Go.Sort.bitsLen n.1<=2*n.1+1/\(UInt8.ofNat (Go.Sort.bitsLen n.1)).toNat=Go.Sort.bitsLen n.1:=by decide +kernel
 exact fun n hn=>h ⟨n,hn⟩
theorem go6 {n:Nat}(hn:n<256):dc9 (.str [0,1,2,2,3,3,3,3,4,4,4,4,4,4,4,4,5,5,5,5,5,5,5,5,5,5,5,5,5,5,5,5,6,6,6,6,6,6,6,6,6,6,6,6,6,6,6,6,6,6,6,6,6,6,6,6,6,6,6,6,6,6,6,6,7,7,7,7,7,7,7,7,7,7,7,7,7,7,7,7,7,7,7,7,7,7,7,7,7,7,7,7,7,7,7,7,7,7,7,7,7,7,7,7,7,7,7,7,7,7,7,7,7,7,7,7,7,7,7,7,7,7,7,7,7,7,7,7,8,8,8,8,8,8,8,8,8,8,8,8,8,8,8,8,8,8,8,8,8,8,8,8,8,8,8,8,8,8,8,8,8,8,8,8,8,8,8,8,8,8,8,8,8,8,8,8,8,8,8,8,8,8,8,8,8,8,8,8,8,8,8,8,8,8,8,8,8,8,8,8,8,8,8,8,8,8,8,8,8,8,8,8,8,8,8,8,8,8,8,8,8,8,8,8,8,8,8,8,8,8,8,8,8,8,8,8,8,8,8,8,8,8,8,8,8,8,8,8,8,8,8,8,8,8,8,8]) (.int .u8 n)=some (.int .u8 (Go.Sort.bitsLen n:Nat)):=by
 have h1:=fw8 n hn;have h0:(0:Int)<=(n:Int):=by omega
 show (if 0<=(n:Int) then (fw7[((n:Int)).toNat]?).map fun b=>IV.int .u8 b.toNat else none)=_;rw[if_pos h0,Int.toNat_natCast,h1];show some (IV.int .u8 ((UInt8.ofNat (Go.Sort.bitsLen n)).toNat:Nat))=_;rw[(bv8 n hn).2.2]
theorem go7 (n:Nat)(hn:n<256):PC Tryz.prog EE 77 [.int .u64 n] (.int .i64 (Go.Sort.bitsLen n:Nat)):=by
 refine av1 fok77 (nZ rfl) fun σ=>?_
 have c1:¬ (4294967296:Int)<=n:=by omega
 have c2:¬ (65536:Int)<=n:=by omega
 have c3:¬ (256:Int)<=n:=by omega
 have w1:IntKind.u8.wrap (n:Int)=n:=by
  show (n:Int)%256=n;omega
 have h8:=(bv8 n hn).1;have w2:IntKind.i64.wrap ((Go.Sort.bitsLen n:Nat):Int)=(Go.Sort.bitsLen n:Nat):=wrap64 (by omega) (by omega);have w3:IntKind.i64.wrap (0+((Go.Sort.bitsLen n:Nat):Int))=(Go.Sort.bitsLen n:Nat):=by rw[Int.zero_add]; exact w2
 simp only[ic77,go_sem,c1,c2,c3,w1,go6 hn,w2,w3,and_self]
theorem fw9 (n:Nat)(hn:n<256):PC Tryz.prog EE 34 [.int .u64 n] (.int .i64 (Go.Sort.bitsLen n:Nat)):=by
 refine av1 fok34 (nZ rfl) fun σ=>?_
 simp only[ic34,go_sem];refine aa5 fok77 (go7 n hn) ?_;simp only[go_sem,and_self]
theorem hm7 (n:Nat)(hn:n<256):PC Tryz.prog EE 106 [.int .i64 n] (.int .u64 (2^Go.Sort.bitsLen n:Nat)):=by
 refine av1 fok106 (nZ rfl) fun σ=>?_
 have w0:IntKind.u64.wrap (n:Int)=n:=by
  show (n:Int)%18446744073709551616=n;omega
 obtain ⟨h8,hp,_⟩:=bv8 n hn;have h0:(0:Int)<=((Go.Sort.bitsLen n:Nat):Int):=by omega
 have w1:IntKind.u64.wrap (1*2^min (Go.Sort.bitsLen n) 64)=(2^Go.Sort.bitsLen n:Nat):=by
  have e:min (Go.Sort.bitsLen n) 64=Go.Sort.bitsLen n:=Nat.min_eq_left (by omega);rw[e,Int.one_mul];have e2:((2:Int)^Go.Sort.bitsLen n)=((2^Go.Sort.bitsLen n:Nat):Int):=by norm_cast
  rw[e2];have:2^Go.Sort.bitsLen n<=511:=Nat.le_trans hp (by omega);generalize 2^Go.Sort.bitsLen n=q at *;show (q:Int)%18446744073709551616=_;omega
 have b64:IntKind.u64.bits=64:=rfl;simp only[ic106,go_sem,w0];refine aa5 fok34 (fw9 n hn) ?_;simp only[go_sem,h0,b64,w1,and_self]
theorem fc4:∀ n:Nat,1<=n->n<256->2^Go.Sort.bitsLen n<=2*n:=by
 have h:∀ n:Fin 256,1<=n.1->2^Go.Sort.bitsLen n.1<=2*n.1:=by decide +kernel
 exact fun n h1 hn=>h ⟨n,hn⟩ h1
theorem hm8 (a b:Int):∃ c:Nat,c<2^64/\ap9 .xor (.int .u64 a) (.int .u64 b)=some (.int .u64 c):=by
 have h:ap9 .xor (.int .u64 a) (.int .u64 b)=some (.int .u64 (IntKind.u64.wrap ((BitVec.ofInt 64 a ^^^ BitVec.ofInt 64 b).toNat:Int))):=by simp[ap9,dc8]; rfl
 have hl:(BitVec.ofInt 64 a ^^^ BitVec.ofInt 64 b).toNat<2^64:=BitVec.isLt _;refine ⟨_,hl,?_⟩;rw[h];congr 2;show (((BitVec.ofInt 64 a ^^^ BitVec.ofInt 64 b).toNat:Nat):Int)%18446744073709551616=_;omega
theorem it2 (a b:Nat)(hb:b<2^64):∃ c:Nat,c<=b/\ap9 .and (.int .u64 a) (.int .u64 b)=some (.int .u64 c):=by
 have h:ap9 .and (.int .u64 a) (.int .u64 b)=some (.int .u64 (IntKind.u64.wrap ((BitVec.ofInt 64 a &&& BitVec.ofInt 64 b).toNat:Int))):=by simp[ap9,dc8]; rfl
 have hl:(BitVec.ofInt 64 a &&& BitVec.ofInt 64 b).toNat<=b:=by
  rw[BitVec.toNat_and];refine Nat.le_trans Nat.and_le_right ?_;simp[BitVec.toNat_ofInt];omega
 refine ⟨_,hl,?_⟩;rw[h];congr 2;show (((BitVec.ofInt 64 a &&& BitVec.ofInt 64 b).toNat:Nat):Int)%18446744073709551616=_;omega
theorem hm9 {σ:Store}{r:Nat}{x:Int}(ho:σ.obj r=some (.cells [.int .u64 x])) :
  C Tryz.prog EE 107 [.ptr r 0] σ fun v s=>∃ y:Nat,y<2^64/\v=.int .u64 y/\σ.next<=s.next/\(∀ i,i≠r->s.obj i=σ.obj i)/\s.obj r=some (.cells [.int .u64 y]):=by
 refine C_f fok107 (nZ rfl) ?_;obtain ⟨y1,h1,k1⟩:=hm8 x (IntKind.u64.wrap (x*2^min (13:Int).toNat IntKind.u64.bits));obtain ⟨y2,h2,k2⟩:=hm8 (y1:Int) ((y1:Int).fdiv (2^min (7:Int).toNat IntKind.u64.bits));obtain ⟨y3,h3,k3⟩:=hm8 (y2:Int) (IntKind.u64.wrap ((y2:Int)*2^min (17:Int).toNat IntKind.u64.bits));generalize hA:IntKind.u64.wrap (x*2^min (13:Int).toNat IntKind.u64.bits)=A at *;generalize hB:(y1:Int).fdiv (2^min (7:Int).toNat IntKind.u64.bits)=B at *;generalize hD:IntKind.u64.wrap ((y2:Int)*2^min (17:Int).toNat IntKind.u64.bits)=D at *;have s1:ap9 .shl (.int .u64 x) (.int .u64 13)=some (.int .u64 A):=by rw[do8,if_pos (by decide),hA]
 have s2:ap9 .shr (.int .u64 y1) (.int .u64 7)=some (.int .u64 B):=by rw[dy1,if_pos (by decide),hB]
 have s3:ap9 .shl (.int .u64 y2) (.int .u64 17)=some (.int .u64 D):=by rw[do8,if_pos (by decide),hD]
 simp only[ic107,go_sem,ho,s1,s2,s3,k1,k2,k3];exact ⟨y3,h3,by first|rfl|trivial,by first|omega|(simp only[aa6]; omega),fun i hi=>by simp only[hi,if_false],by first|rfl|trivial⟩
section
variable {α:Type} [Inhabited α] (emb:α->Int) (tl:List IV) {cf:α->α->Int} {g:Nat} {first cap:List IV} {id:Nat}
theorem hn4 {σ:Store}(d:Array α)(a b:Nat)(fv:IV)(hab:a+12<b)(hb:b<=d.size)(hz:d.size<256)(hid:id<σ.next)(ho:σ.obj id=some (.row (ba1 emb tl d))) :
  C Tryz.prog EE 70 [.slice id 0 d.size 1,.int .i64 a,.int .i64 b,fv] σ fun v s=>v=.tuple []/\∃ d',Go.Sort.PermIn a b d d'/\SKp emb tl id d' σ s:=by
 refine C_f fok70 (nZ rfl) ?_;obtain ⟨l,hl⟩:∃ l,l=b-a:=⟨_,rfl⟩;have w0:=fd6 (a:=b) (b:=a) (by omega) (by omega);rw[<- hl] at w0;have n4:¬ ((4:Int)=0):=by decide
 have q4:IntKind.i64.wrap ((l:Int).tdiv 4)=((l/4:Nat):Int):=by
  have:(l:Int).tdiv 4=((l/4:Nat):Int):=by rw[Int.tdiv_eq_ediv_of_nonneg (by omega)]; omega
  rw[this,wrap64 (by omega) (by omega)]
 have m2:IntKind.i64.wrap (((l/4:Nat):Int)*2)=((l/4*2:Nat):Int):=by rw[wrap64 (by omega) (by omega)]; omega
 have a2:=fx8 (a:=a) (b:=l/4*2) (by omega);obtain ⟨base,hbase⟩:∃ base,base+1=a+l/4*2:=⟨a+l/4*2-1,by omega⟩;rw[<- hbase] at a2;have a3:IntKind.i64.wrap (((base+1:Nat):Int)-1)=((base+0:Nat):Int):=by rw[wrap64 (by omega) (by omega)]; omega
 have a4:=ad2 (i:=base+1) (by omega);have c8:(8:Int)<=(l:Int):=by omega
 have u0:IntKind.u64.wrap (l:Int)=l:=by
  show (l:Int)%18446744073709551616=l;omega
 have hne:σ.next≠id:=by omega
 have hnp:=hm7 l (by omega);have h2:=fc4 l (by omega) (by omega);obtain ⟨Q,hQ⟩:∃ Q,Q=2^Go.Sort.bitsLen l:=⟨_,rfl⟩;have hQ0:0<Q:=by rw[hQ]; exact Nat.pow_pos (by decide)
 rw[<- hQ] at hnp h2;simp only[ic70,go_sem,w0,c8,u0];refine aa5 fok106 hnp ?_;simp only[go_sem,n4,q4,m2,a2,a3];refine ab3 noT (fun k fr t=>∃ (dk:Array α) (y:Int),fr=[(0,.slice id 0 d.size 1),(1,.int .i64 a),(8,.int .i64 l),(9,.ptr σ.next 0),(10,.int .u64 Q),(11,.int .i64 ((base+k:Nat):Int))]/\σ.next<t.next/\(∀ x,x<σ.next->x≠id->t.obj x=σ.obj x)/\t.obj id=some (.row (ba1 emb tl dk))/\t.obj σ.next=some (.cells [.int .u64 y])/\dk.size=d.size/\Go.Sort.PermIn a b d dk) 3 ⟨d,l,rfl,by show σ.next<σ.next+1; omega,fun x hx _=>?_,?_,?_,rfl,Go.Sort.permIn_refl d a b⟩ ?_
 ·have:¬ x=σ.next:=by omega
  simp only[aa2,this,if_false]
 ·have:¬ id=σ.next:=by omega
  simp only[aa2,this,if_false]; exact ho
 ·simp only[aa2,if_true]
 rintro k fr t hk ⟨dk,y,rfl,hn,hoth,hrow,hbox,hsz,hP⟩;by_cases h3:k<3
 ·have c1:((base+k:Nat):Int)<=((base+1+1:Nat):Int):=by omega
  have w1:=ad2 (i:=base+k) (by omega);simp only[go_sem,n4,q4,m2,a2,a4,c1];refine ad3 fok107 (hm9 hbox) ?_;rintro v s ⟨y',hy',rfl,hn1,ho1,hb1⟩;refine ⟨hn1,?_⟩
  have u1:IntKind.u64.wrap ((Q:Int)-1)=((Q-1:Nat):Int):=by
   show ((Q:Int)-1)%18446744073709551616=_;omega
  obtain ⟨c,hc1,hc2⟩:=it2 y' (Q-1) (by omega);have u2:IntKind.i64.wrap (c:Int)=c:=wrap64 (by omega) (by omega);have hrow1:s.obj id=some (.row (ba1 emb tl dk)):=by rw[ho1 id (by omega)]; exact hrow
  have goon:∀ (o:Nat),o<l->∀ (U:Store),U.obj=s.obj->s.next<=U.next->True:=fun _ _ _ _ _=>trivial
  by_cases hge:l<=c
  ·have d1:(l:Int)<=c:=by omega
   have u3:=fd6 (a:=c) (b:=l) hge (by omega);obtain ⟨o,hoo⟩:∃ o,o=c-l:=⟨_,rfl⟩;rw[<- hoo] at u3;have v1:=fx8 (a:=a) (b:=o) (by omega);have p1:(0:Int)<=((base+k:Nat):Int):=by omega
   have p2:((base+k:Nat):Int)<d.size:=by omega
   have p3:(0:Int)<=((a+o:Nat):Int):=by omega
   have p4:((a+o:Nat):Int)<d.size:=by omega
   obtain ⟨r1,r2,r3,r4,r5⟩:=ag9 emb tl (d:=dk) (i:=base+k) (j:=a+o) (by omega) (by omega);simp only[go_sem,u1,hc2,u2,d1,u3,v1,p1,p2,p3,p4,r1,r2,r3,r4,r5,hrow1,w1,Nat.mul_one];refine ⟨h3,Go.Sort.swp dk (base+k) (a+o),y',rfl,?_,fun x hx hxi=>?_,?_,?_,by rw[swp_size]; exact hsz,Go.Sort.permIn_trans _ _ _ a b hP (Go.Sort.swp_permIn dk a b _ _ (by omega) (by omega) (by omega) (by omega) (by omega))⟩
   ·first|omega|(simp only[aa6]; omega)
   ·simp only[aa2,hxi,if_false]; rw[ho1 x (by omega)]; exact hoth x hx hxi
   ·simp only[aa2,if_true]
   ·simp only[aa2,hne,if_false]; exact hb1
  ·have d1:¬ (l:Int)<=c:=by omega
   have v1:=fx8 (a:=a) (b:=c) (by omega);have p1:(0:Int)<=((base+k:Nat):Int):=by omega
   have p2:((base+k:Nat):Int)<d.size:=by omega
   have p3:(0:Int)<=((a+c:Nat):Int):=by omega
   have p4:((a+c:Nat):Int)<d.size:=by omega
   obtain ⟨r1,r2,r3,r4,r5⟩:=ag9 emb tl (d:=dk) (i:=base+k) (j:=a+c) (by omega) (by omega);simp only[go_sem,u1,hc2,u2,d1,v1,p1,p2,p3,p4,r1,r2,r3,r4,r5,hrow1,w1,Nat.mul_one];refine ⟨h3,Go.Sort.swp dk (base+k) (a+c),y',rfl,?_,fun x hx hxi=>?_,?_,?_,by rw[swp_size]; exact hsz,Go.Sort.permIn_trans _ _ _ a b hP (Go.Sort.swp_permIn dk a b _ _ (by omega) (by omega) (by omega) (by omega) (by omega))⟩
   ·first|omega|(simp only[aa6]; omega)
   ·simp only[aa2,hxi,if_false]; rw[ho1 x (by omega)]; exact hoth x hx hxi
   ·simp only[aa2,if_true]
   ·simp only[aa2,hne,if_false]; exact hb1
 ·have e3:k=3:=by omega
  subst e3;have c1:¬ ((base+3:Nat):Int)<=((base+1+1:Nat):Int):=by omega
  simp only[go_sem,n4,q4,m2,a2,a4,c1];exact ⟨dk,hP,by omega,hoth,hrow⟩
end
section
variable {α:Type} [Inhabited α] (emb:α->Int) (tl:List IV) {cf:α->α->Int} {g:Nat} {first cap:List IV} {id:Nat}
theorem SO.up {d:Array α}{σ u v:Store}(h:SO emb tl id d σ u)(h1:v.obj=u.obj)(h2:u.next<=v.next):SO emb tl id d σ v:=⟨Nat.le_trans h.next h2,fun i hi=>by rw[h1]; exact h.other i hi,by rw[h1]; exact h.row⟩
theorem dj7 {p:α->Bool}{d:Array α}{j i:Nat}(h:i<=j)(hp:p d[i]! = true):Go.Sort.scanUp p d j i=Go.Sort.scanUp p d j (i+1):=by
 rw[Go.Sort.scanUp,if_pos (by simp[h,hp])]
theorem bn5 {p:α->Bool}{d:Array α}{j i:Nat}(h:i<=j->p d[i]! = false):Go.Sort.scanUp p d j i=i:=by
 rw[Go.Sort.scanUp,if_neg];intro hc;simp only[Bool.and_eq_true,decide_eq_true_eq] at hc;rw[h hc.1] at hc; exact absurd hc.2 (by decide)
theorem cf9 {p:α->Bool}{d:Array α}{j i:Nat}(hi:1<=i)(h:i<=j)(hp:p d[j]! = true):Go.Sort.scanDown p d i j=Go.Sort.scanDown p d i (j-1):=by
 obtain ⟨j',rfl⟩:∃ j',j=j'+1:=⟨j-1,by omega⟩;rw[Go.Sort.scanDown,if_pos (by simp[h,hp])]; rfl
theorem aw5 {p:α->Bool}{d:Array α}{j i:Nat}(h:i<=j->p d[j]! = false):Go.Sort.scanDown p d i j=j:=by
 cases j with
 | zero=>rfl
 | succ j=>
  rw[Go.Sort.scanDown,if_neg];intro hc;simp only[Bool.and_eq_true,decide_eq_true_eq] at hc;rw[h hc.1] at hc; exact absurd hc.2 (by decide)
theorem ak6 {P:Program}{E:Nat->IV}{N n0:Nat}{fr:Frm}{σ:Store}{x:IC}{Q:Exit->Frm->Store->Prop}(Qm:Exit->Frm->Store->Prop)(h:RI P E N n0 (.loop x) fr σ Qm)(hm:∀ e f s,Qm e f s->Q e f s):RI P E N n0 (.loop x) fr σ Q:=az4 h hm
theorem be2 {x y:α}(h:cf x y<0):ltOf cf x y=true:=decide_eq_true h
theorem as9 {x y:α}(h:¬ cf x y<0):ltOf cf x y=false:=decide_eq_false h
theorem go8 (hC:cf8 emb cf g first cap){σ:Store}(d:Array α)(a b pv:Nat)(hap:a<=pv)(hpb:pv<b)(hb:b<=d.size)(hz:d.size<2^40)(ho:σ.obj id=some (.row (ba1 emb tl d))) :
  C Tryz.prog EE 74 [.slice id 0 d.size 1,.int .i64 a,.int .i64 b,.int .i64 pv,.func (.func g) first cap] σ fun v s=>v=.int .i64 (Go.Sort.partitionEqual (ltOf cf) d a b pv).1/\SO emb tl id (Go.Sort.partitionEqual (ltOf cf) d a b pv).2 σ s:=by
 refine C_f fok74 (nZ rfl) ?_;have c2:(0:Int)<=(a:Int):=by omega
 have c3:(a:Int)<d.size:=by omega
 have c4:(0:Int)<=(pv:Int):=by omega
 have c5:(pv:Int)<d.size:=by omega
 have w0:=ad2 (i:=a) (by omega);have w1:=bf3 (a:=b) (by omega) (by omega);obtain ⟨r1,r2,r3,r4,r5⟩:=ag9 emb tl (d:=d) (i:=a) (j:=pv) (by omega) (by omega);simp only[ic74,go_sem,c2,c3,c4,c5,w0,w1,ho,r1,r2,r3,r4,r5,Nat.mul_one];unfold Go.Sort.partitionEqual;refine ab3 noT (fun k fr t=>∃ (i j:Nat) (dk:Array α),fr=[(0,.slice id 0 d.size 1),(1,.int .i64 a),(4,.func (.func g) first cap),(11,.int .i64 (i:Int)),(12,.int .i64 (j:Int))]/\SO emb tl id dk σ t/\dk.size=d.size/\a+1<=i/\i<=j+1/\j<b/\k<=i/\Go.Sort.partEqLoop (ltOf cf) a i j dk=Go.Sort.partEqLoop (ltOf cf) a (a+1) (b-1) (Go.Sort.swp d a pv)) (b+1) ⟨a+1,b-1,_,rfl,⟨?_,fun m hm=>?_,?_⟩,by rw[swp_size],by omega,by omega,by omega,Nat.zero_le _,rfl⟩ ?_
 ·first|omega|(simp only[aa6]; omega)
 ·simp only[aa2,hm,if_false]
 ·simp only[aa2,if_true]
 rintro k fr t hk ⟨i,j,dk,rfl,hS,hsz,hai,hij,hjb,hki,hI⟩;simp only[go_sem]
 -- up
 refine ak6 (fun e f s=>e=.exit 2/\∃ i2:Nat,f=[(0,.slice id 0 d.size 1),(1,.int .i64 a),(4,.func (.func g) first cap),(11,.int .i64 (i2:Int)),(12,.int .i64 (j:Int)),(47,.bool false)]/\SO emb tl id dk σ s/\t.next<=s.next/\i2=Go.Sort.scanUp (fun x=>!ltOf cf dk[a]! x) dk j i)
  (ab3 noT (fun k2 fr u=>∃ i2:Nat,fr=[(0,.slice id 0 d.size 1),(1,.int .i64 a),(4,.func (.func g) first cap),(11,.int .i64 (i2:Int)),(12,.int .i64 (j:Int))]/\SO emb tl id dk σ u/\t.next<=u.next/\i2=i+k2/\i2<=j+1/\Go.Sort.scanUp (fun x=>!ltOf cf dk[a]! x) dk j i2=Go.Sort.scanUp (fun x=>!ltOf cf dk[a]! x) dk j i) (j+1-i) ⟨i,rfl,hS,Nat.le_refl _,rfl,hij,rfl⟩ ?_) ?_
 ·rintro k2 fr u hk2 ⟨i2,rfl,hS,htn,hi2,hi2j,hI2⟩;have xa:=ag8 emb tl (d:=dk) (k:=a) (by omega);by_cases hle:i2<=j
  ·have d1:(i2:Int)<=(j:Int):=by omega
   have d2:(0:Int)<=(i2:Int):=by omega
   have d3:(i2:Int)<d.size:=by omega
   have w2:=ad2 (i:=i2) (by omega);have xi:=ag8 emb tl (d:=dk) (k:=i2) (by omega);have hc:=hC.pc dk[a]! dk[i2]!;simp only[go_sem,d1,d2,d3,c2,c3,hS.row,xa,xi,Nat.mul_one];refine am1 hC.ok hc ?_;by_cases hcf:cf dk[a]! dk[i2]! < 0
   ·have hst:=bn5 (p:=fun x=>!ltOf cf dk[a]! x) (d:=dk) (i:=i2) (j:=j) (fun _=>by simp only[be2 hcf,Bool.not_true]);simp only[go_sem,hcf];exact ⟨i2,rfl,hS.up emb tl rfl (Nat.le_add_right _ _),Nat.le_trans htn (Nat.le_add_right _ _),by rw[<- hI2,hst]⟩
   ·have hst:=dj7 (p:=fun x=>!ltOf cf dk[a]! x) (d:=dk) hle (by simp only[as9 hcf,Bool.not_false]);simp only[go_sem,hcf,w2];exact ⟨by omega,i2+1,rfl,hS.up emb tl rfl (Nat.le_add_right _ _),Nat.le_trans htn (Nat.le_add_right _ _),by omega,by omega,by rw[<- hI2,hst]⟩
  ·have d1:¬ (i2:Int)<=(j:Int):=by omega
   have hst:=bn5 (p:=fun x=>!ltOf cf dk[a]! x) (d:=dk) (i:=i2) (j:=j) (fun h=>absurd h hle);simp only[go_sem,d1];exact ⟨i2,rfl,hS.up emb tl rfl (Nat.le_add_right _ _),Nat.le_trans htn (Nat.le_add_right _ _),by rw[<- hI2,hst]⟩
 rintro e f u ⟨rfl,i2,rfl,hS,htn,hi2⟩;obtain ⟨g1,g2,_,_⟩:=Go.Sort.scanUp_spec (fun x=>!ltOf cf dk[a]! x) dk j _ i rfl;have g2:=g2 hij;simp only[go_sem]
 -- down
 refine ak6 (fun e f s=>e=.exit 4/\∃ j2:Nat,f=[(0,.slice id 0 d.size 1),(1,.int .i64 a),(4,.func (.func g) first cap),(11,.int .i64 (i2:Int)),(12,.int .i64 (j2:Int)),(65,.bool false)]/\SO emb tl id dk σ s/\u.next<=s.next/\j2=Go.Sort.scanDown (fun x=>ltOf cf dk[a]! x) dk i2 j)
  (ab3 noT (fun k2 fr v=>∃ (j2:Nat) (rst:Frm),fr=(0,.slice id 0 d.size 1)::(1,.int .i64 a)::(4,.func (.func g) first cap)::(11,.int .i64 (i2:Int))::(12,.int .i64 (j2:Int))::rst/\SO emb tl id dk σ v/\u.next<=v.next/\j2+k2=j/\i2<=j2+1/\Go.Sort.scanDown (fun x=>ltOf cf dk[a]! x) dk i2 j2=Go.Sort.scanDown (fun x=>ltOf cf dk[a]! x) dk i2 j) (j+1) ⟨j,_,rfl,hS,Nat.le_refl _,rfl,by omega,rfl⟩ ?_) ?_
 ·rintro k2 fr v hk2 ⟨j2,rst,rfl,hS,hun,hj2,hij2,hI2⟩;have xa:=ag8 emb tl (d:=dk) (k:=a) (by omega);by_cases hle:i2<=j2
  ·have d1:(i2:Int)<=(j2:Int):=by omega
   have d2:(0:Int)<=(j2:Int):=by omega
   have d3:(j2:Int)<d.size:=by omega
   have w2:=bf3 (a:=j2) (by omega) (by omega);have xi:=ag8 emb tl (d:=dk) (k:=j2) (by omega);have hc:=hC.pc dk[a]! dk[j2]!;simp only[go_sem,d1,d2,d3,c2,c3,hS.row,xa,xi,Nat.mul_one];refine am1 hC.ok hc ?_;by_cases hcf:cf dk[a]! dk[j2]! < 0
   ·have hst:=cf9 (p:=fun x=>ltOf cf dk[a]! x) (d:=dk) (i:=i2) (j:=j2) (by omega) hle (be2 hcf);simp only[go_sem,hcf,w2];exact ⟨by omega,j2-1,_,rfl,hS.up emb tl rfl (Nat.le_add_right _ _),Nat.le_trans hun (Nat.le_add_right _ _),by omega,by omega,by rw[<- hI2,hst]⟩
   ·have hst:=aw5 (p:=fun x=>ltOf cf dk[a]! x) (d:=dk) (i:=i2) (j:=j2) (fun _=>as9 hcf);simp only[go_sem,hcf];exact ⟨j2,rfl,hS.up emb tl rfl (Nat.le_add_right _ _),Nat.le_trans hun (Nat.le_add_right _ _),by rw[<- hI2,hst]⟩
  ·have d1:¬ (i2:Int)<=(j2:Int):=by omega
   have hst:=aw5 (p:=fun x=>ltOf cf dk[a]! x) (d:=dk) (i:=i2) (j:=j2) (fun h=>absurd h hle);simp only[go_sem,d1];exact ⟨j2,rfl,hS.up emb tl rfl (Nat.le_add_right _ _),Nat.le_trans hun (Nat.le_add_right _ _),by rw[<- hI2,hst]⟩
 rintro e f v ⟨rfl,j2,rfl,hS,hun,hj2⟩;obtain ⟨v1,v2,_,v4⟩:=Go.Sort.scanDown_spec (fun x=>ltOf cf dk[a]! x) dk i2 j;obtain ⟨_,_,_,u4⟩:=Go.Sort.scanUp_spec (fun x=>!ltOf cf dk[a]! x) dk j _ i rfl;have v2:=v2 (by omega);rw[Go.Sort.partEqLoop_eq] at hI;rw[<- hi2] at hI u4 g1 g2;rw[<- hj2] at hI v1 v2 v4;by_cases hgt:i2>j2
 ·have d1:(j2:Int)<(i2:Int):=by omega
  rw[if_pos hgt] at hI;simp only[go_sem,d1];rw[<- hI];exact ⟨rfl,hS.up emb tl rfl (Nat.le_refl _)⟩
 ·have d1:¬ (j2:Int)<(i2:Int):=by omega
  rw[if_neg hgt] at hI
  have hne:i2<j2:=by
   rcases Nat.lt_or_ge i2 j2 with h|h
   ·exact h
   ·have e:i2=j2:=by omega
    have f1:=u4 (by omega);have f2:=v4 (by omega) (by omega);rw[<- e] at f2;simp only[Bool.not_eq_false'] at f1;rw[f1] at f2; cases f2
  have p1:(0:Int)<=(i2:Int):=by omega
  have p2:(i2:Int)<d.size:=by omega
  have p3:(0:Int)<=(j2:Int):=by omega
  have p4:(j2:Int)<d.size:=by omega
  have w2:=ad2 (i:=i2) (by omega);have w3:=bf3 (a:=j2) (by omega) (by omega);obtain ⟨r1,r2,r3,r4,r5⟩:=ag9 emb tl (d:=dk) (i:=i2) (j:=j2) (by omega) (by omega);simp only[go_sem,d1,p1,p2,p3,p4,w2,w3,hS.row,r1,r2,r3,r4,r5,Nat.mul_one];refine ⟨by omega,i2+1,j2-1,Go.Sort.swp dk i2 j2,rfl,⟨?_,fun m hm=>?_,?_⟩,by rw[swp_size]; exact hsz,by omega,by omega,by omega,by omega,hI⟩
  ·have:=hS.next; first|omega|(simp only[aa6]; omega)
  ·simp only[aa2,hm,if_false]; exact hS.other m hm
  ·simp only[aa2,if_true]
theorem ii8 (hC:cf8 emb cf g first cap){σ:Store}(d:Array α)(a b pv:Nat)(hap:a<=pv)(hpb:pv<b)(hb:b<=d.size)(hz:d.size<2^40)(ho:σ.obj id=some (.row (ba1 emb tl d))) :
  C Tryz.prog EE 75 [.slice id 0 d.size 1,.int .i64 a,.int .i64 b,.int .i64 pv,.func (.func g) first cap] σ fun v s=>(∃ ap,v=.tuple [.int .i64 (Go.Sort.partition (ltOf cf) d a b pv).1,.bool ap])/\SO emb tl id (Go.Sort.partition (ltOf cf) d a b pv).2.2 σ s:=by
 refine C_f fok75 (nZ rfl) ?_;have c2:(0:Int)<=(a:Int):=by omega
 have c3:(a:Int)<d.size:=by omega
 have c4:(0:Int)<=(pv:Int):=by omega
 have c5:(pv:Int)<d.size:=by omega
 have w0:=ad2 (i:=a) (by omega);have w1:=bf3 (a:=b) (by omega) (by omega);obtain ⟨r1,r2,r3,r4,r5⟩:=ag9 emb tl (d:=d) (i:=a) (j:=pv) (by omega) (by omega);simp only[ic75,go_sem,c2,c3,c4,c5,w0,w1,ho,r1,r2,r3,r4,r5,Nat.mul_one];obtain ⟨D0,hd1⟩:∃ D0,D0=Go.Sort.swp d a pv:=⟨_,rfl⟩;have hsz:D0.size=d.size:=by rw[hd1,swp_size]
 obtain ⟨i0,hi0⟩:∃ i0,i0=a+1:=⟨_,rfl⟩;obtain ⟨j0,hj0⟩:∃ j0,j0=b-1:=⟨_,rfl⟩;have hij:i0<=j0+1:=by omega
 rw[<- hi0,<- hj0];rw[<- hd1]
 refine ak6 (fun e f s=>e=.exit 0/\∃ i2:Nat,f=[(0,.slice id 0 d.size 1),(1,.int .i64 a),(4,.func (.func g) first cap),(12,.int .i64 (i2:Int)),(13,.int .i64 (j0:Int)),(47,.bool false)]/\SO emb tl id D0 σ s/\i2=Go.Sort.scanUp (fun x=>ltOf cf x D0[a]!) D0 j0 i0)
  (ab3 noT (fun k2 fr u=>∃ (i2:Nat) (rst:Frm),fr=(0,.slice id 0 d.size 1)::(1,.int .i64 a)::(4,.func (.func g) first cap)::(12,.int .i64 (i2:Int))::(13,.int .i64 (j0:Int))::rst/\SO emb tl id D0 σ u/\i2=i0+k2/\i2<=j0+1/\Go.Sort.scanUp (fun x=>ltOf cf x D0[a]!) D0 j0 i2=Go.Sort.scanUp (fun x=>ltOf cf x D0[a]!) D0 j0 i0) (j0+1-i0) ⟨i0,_,rfl,⟨by first|omega|(simp only[aa6]; omega),fun m hm=>by simp only[aa2,hm,if_false],by simp only[aa2,if_true]⟩,rfl,hij,rfl⟩ ?_) ?_
 ·rintro k2 fr u hk2 ⟨i2,rst,rfl,hS,hi2,hi2j,hI2⟩;have xa:=ag8 emb tl (d:=D0) (k:=a) (by omega);by_cases hle:i2<=j0
  ·have d1:(i2:Int)<=(j0:Int):=by omega
   have d2:(0:Int)<=(i2:Int):=by omega
   have d3:(i2:Int)<d.size:=by omega
   have w2:=ad2 (i:=i2) (by omega);have xi:=ag8 emb tl (d:=D0) (k:=i2) (by omega);have hc:=hC.pc D0[i2]! D0[a]!;simp only[go_sem,d1,d2,d3,c2,c3,hS.row,xa,xi,Nat.mul_one];refine am1 hC.ok hc ?_;by_cases hcf:cf D0[i2]! D0[a]! < 0
   ·have hst:=dj7 (p:=fun x=>ltOf cf x D0[a]!) (d:=D0) hle (be2 hcf);simp only[go_sem,hcf,w2];exact ⟨by omega,i2+1,_,rfl,hS.up emb tl rfl (Nat.le_add_right _ _),by omega,by omega,by rw[<- hI2,hst]⟩
   ·have hst:=bn5 (p:=fun x=>ltOf cf x D0[a]!) (d:=D0) (i:=i2) (j:=j0) (fun _=>as9 hcf);simp only[go_sem,hcf];exact ⟨i2,rfl,hS.up emb tl rfl (Nat.le_add_right _ _),by rw[<- hI2,hst]⟩
  ·have d1:¬ (i2:Int)<=(j0:Int):=by omega
   have hst:=bn5 (p:=fun x=>ltOf cf x D0[a]!) (d:=D0) (i:=i2) (j:=j0) (fun h=>absurd h hle);simp only[go_sem,d1];exact ⟨i2,rfl,hS.up emb tl rfl (Nat.le_add_right _ _),by rw[<- hI2,hst]⟩
 rintro e f u ⟨rfl,i2,rfl,hS,hi2⟩;obtain ⟨g1,g2,_,_⟩:=Go.Sort.scanUp_spec (fun x=>ltOf cf x D0[a]!) D0 j0 _ i0 rfl;have g2:=g2 hij;simp only[go_sem]
 refine ak6 (fun e f s=>e=.exit 2/\∃ j2:Nat,f=[(0,.slice id 0 d.size 1),(1,.int .i64 a),(4,.func (.func g) first cap),(12,.int .i64 (i2:Int)),(13,.int .i64 (j2:Int)),(66,.bool false)]/\SO emb tl id D0 σ s/\j2=Go.Sort.scanDown (fun x=>!ltOf cf x D0[a]!) D0 i2 j0)
  (ab3 noT (fun k2 fr v=>∃ (j2:Nat) (rst:Frm),fr=(0,.slice id 0 d.size 1)::(1,.int .i64 a)::(4,.func (.func g) first cap)::(12,.int .i64 (i2:Int))::(13,.int .i64 (j2:Int))::rst/\SO emb tl id D0 σ v/\j2+k2=j0/\i2<=j2+1/\Go.Sort.scanDown (fun x=>!ltOf cf x D0[a]!) D0 i2 j2=Go.Sort.scanDown (fun x=>!ltOf cf x D0[a]!) D0 i2 j0) (j0+1) ⟨j0,_,rfl,hS,rfl,by omega,rfl⟩ ?_) ?_
 ·rintro k2 fr v hk2 ⟨j2,rst,rfl,hS,hj2,hij2,hI2⟩;have xa:=ag8 emb tl (d:=D0) (k:=a) (by omega);by_cases hle:i2<=j2
  ·have d1:(i2:Int)<=(j2:Int):=by omega
   have d2:(0:Int)<=(j2:Int):=by omega
   have d3:(j2:Int)<d.size:=by omega
   have w2:=bf3 (a:=j2) (by omega) (by omega);have xi:=ag8 emb tl (d:=D0) (k:=j2) (by omega);have hc:=hC.pc D0[j2]! D0[a]!;simp only[go_sem,d1,d2,d3,c2,c3,hS.row,xa,xi,Nat.mul_one];refine am1 hC.ok hc ?_;by_cases hcf:cf D0[j2]! D0[a]! < 0
   ·have hst:=aw5 (p:=fun x=>!ltOf cf x D0[a]!) (d:=D0) (i:=i2) (j:=j2) (fun _=>by simp only[be2 hcf,Bool.not_true]);simp only[go_sem,hcf];exact ⟨j2,rfl,hS.up emb tl rfl (Nat.le_add_right _ _),by rw[<- hI2,hst]⟩
   ·have hst:=cf9 (p:=fun x=>!ltOf cf x D0[a]!) (d:=D0) (i:=i2) (j:=j2) (by omega) hle (by simp only[as9 hcf,Bool.not_false]);simp only[go_sem,hcf,w2];exact ⟨by omega,j2-1,_,rfl,hS.up emb tl rfl (Nat.le_add_right _ _),by omega,by omega,by rw[<- hI2,hst]⟩
  ·have d1:¬ (i2:Int)<=(j2:Int):=by omega
   have hst:=aw5 (p:=fun x=>!ltOf cf x D0[a]!) (d:=D0) (i:=i2) (j:=j2) (fun h=>absurd h hle);simp only[go_sem,d1];exact ⟨j2,rfl,hS.up emb tl rfl (Nat.le_add_right _ _),by rw[<- hI2,hst]⟩
 rintro e f v ⟨rfl,j2,rfl,hS,hj2⟩;obtain ⟨v1,v2,_,v4⟩:=Go.Sort.scanDown_spec (fun x=>!ltOf cf x D0[a]!) D0 i2 j0;obtain ⟨_,_,_,u4⟩:=Go.Sort.scanUp_spec (fun x=>ltOf cf x D0[a]!) D0 j0 _ i0 rfl;have v2:=v2 (by omega);rw[<- hi2] at u4 g1 g2;rw[<- hj2] at v1 v2 v4
 have hne:¬ i2>j2->i2<j2:=fun hgt=>by
  rcases Nat.lt_or_ge i2 j2 with h|h
  ·exact h
  ·have e:i2=j2:=by omega
   have f1:=u4 (by omega);have f2:=v4 (by omega) (by omega);rw[<- e] at f2;rw[f1] at f2; cases f2
 have hp:Go.Sort.partition (ltOf cf) d a b pv=if i2>j2 then (j2,true,Go.Sort.swp D0 j2 a) else ((Go.Sort.partLoop (ltOf cf) a (i2+1) (j2-1) (Go.Sort.swp D0 i2 j2)).1,false,Go.Sort.swp (Go.Sort.partLoop (ltOf cf) a (i2+1) (j2-1) (Go.Sort.swp D0 i2 j2)).2 (Go.Sort.partLoop (ltOf cf) a (i2+1) (j2-1) (Go.Sort.swp D0 i2 j2)).1 a):=by
  rw[hj2,hi2,hd1,hi0,hj0]; rfl
 rw[hp];have p3:(0:Int)<=(j2:Int):=by omega
 have p4:(j2:Int)<d.size:=by omega
 by_cases hgt:i2>j2
 ·have e1:(j2:Int)<(i2:Int):=by omega
  obtain ⟨r1,r2,r3,r4,r5⟩:=ag9 emb tl (d:=D0) (i:=j2) (j:=a) (by omega) (by omega);rw[if_pos hgt];simp only[go_sem,e1,c2,c3,p3,p4,hS.row,r1,r2,r3,r4,r5,Nat.mul_one];refine ⟨⟨_,rfl⟩,?_,fun m hm=>?_,?_⟩
  ·have:=hS.next; first|omega|(simp only[aa6]; omega)
  ·simp only[aa2,hm,if_false]; exact hS.other m hm
  ·simp only[aa2,if_true]
 have e1:¬ (j2:Int)<(i2:Int):=by omega
 have hlt:=hne hgt;have p1:(0:Int)<=(i2:Int):=by omega
 have p2:(i2:Int)<d.size:=by omega
 have w2:=ad2 (i:=i2) (by omega);have w3:=bf3 (a:=j2) (by omega) (by omega);obtain ⟨r1,r2,r3,r4,r5⟩:=ag9 emb tl (d:=D0) (i:=i2) (j:=j2) (by omega) (by omega);rw[if_neg hgt];simp only[go_sem,e1,p1,p2,p3,p4,w2,w3,hS.row,r1,r2,r3,r4,r5,Nat.mul_one];obtain ⟨F,hF⟩:∃ F,F=Go.Sort.partLoop (ltOf cf) a (i2+1) (j2-1) (Go.Sort.swp D0 i2 j2):=⟨_,rfl⟩;rw[<- hF];refine ab3 noT (fun k fr t=>∃ (i j:Nat) (dk:Array α),fr=[(0,.slice id 0 d.size 1),(1,.int .i64 a),(4,.func (.func g) first cap),(12,.int .i64 (i:Int)),(13,.int .i64 (j:Int))]/\SO emb tl id dk σ t/\dk.size=d.size/\a+1<=i/\i<=j+1/\j<b/\k<=i/\Go.Sort.partLoop (ltOf cf) a i j dk=F) (b+1) ⟨i2+1,j2-1,_,rfl,⟨?_,fun m hm=>?_,?_⟩,by rw[swp_size]; exact hsz,by omega,by omega,by omega,Nat.zero_le _,hF.symm⟩ ?_
 ·have:=hS.next; first|omega|(simp only[aa6]; omega)
 ·simp only[aa2,hm,if_false]; exact hS.other m hm
 ·simp only[aa2,if_true]
 rintro k fr t hk ⟨i,j,dk,rfl,hS,hsz,hai,hij,hjb,hki,hI⟩;simp only[go_sem]
 refine ak6 (fun e f s=>e=.exit 6/\∃ i2:Nat,f=[(0,.slice id 0 d.size 1),(1,.int .i64 a),(4,.func (.func g) first cap),(12,.int .i64 (i2:Int)),(13,.int .i64 (j:Int)),(120,.bool false)]/\SO emb tl id dk σ s/\i2=Go.Sort.scanUp (fun x=>ltOf cf x dk[a]!) dk j i)
  (ab3 noT (fun k2 fr u=>∃ (i2:Nat) (rst:Frm),fr=(0,.slice id 0 d.size 1)::(1,.int .i64 a)::(4,.func (.func g) first cap)::(12,.int .i64 (i2:Int))::(13,.int .i64 (j:Int))::rst/\SO emb tl id dk σ u/\i2=i+k2/\i2<=j+1/\Go.Sort.scanUp (fun x=>ltOf cf x dk[a]!) dk j i2=Go.Sort.scanUp (fun x=>ltOf cf x dk[a]!) dk j i) (j+1-i) ⟨i,_,rfl,hS,rfl,hij,rfl⟩ ?_) ?_
 ·rintro k2 fr u hk2 ⟨i2,rst,rfl,hS,hi2,hi2j,hI2⟩;have xa:=ag8 emb tl (d:=dk) (k:=a) (by omega);by_cases hle:i2<=j
  ·have d1:(i2:Int)<=(j:Int):=by omega
   have d2:(0:Int)<=(i2:Int):=by omega
   have d3:(i2:Int)<d.size:=by omega
   have w2:=ad2 (i:=i2) (by omega);have xi:=ag8 emb tl (d:=dk) (k:=i2) (by omega);have hc:=hC.pc dk[i2]! dk[a]!;simp only[go_sem,d1,d2,d3,c2,c3,hS.row,xa,xi,Nat.mul_one];refine am1 hC.ok hc ?_;by_cases hcf:cf dk[i2]! dk[a]! < 0
   ·have hst:=dj7 (p:=fun x=>ltOf cf x dk[a]!) (d:=dk) hle (be2 hcf);simp only[go_sem,hcf,w2];exact ⟨by omega,i2+1,_,rfl,hS.up emb tl rfl (Nat.le_add_right _ _),by omega,by omega,by rw[<- hI2,hst]⟩
   ·have hst:=bn5 (p:=fun x=>ltOf cf x dk[a]!) (d:=dk) (i:=i2) (j:=j) (fun _=>as9 hcf);simp only[go_sem,hcf];exact ⟨i2,rfl,hS.up emb tl rfl (Nat.le_add_right _ _),by rw[<- hI2,hst]⟩
  ·have d1:¬ (i2:Int)<=(j:Int):=by omega
   have hst:=bn5 (p:=fun x=>ltOf cf x dk[a]!) (d:=dk) (i:=i2) (j:=j) (fun h=>absurd h hle);simp only[go_sem,d1];exact ⟨i2,rfl,hS.up emb tl rfl (Nat.le_add_right _ _),by rw[<- hI2,hst]⟩
 rintro e f u ⟨rfl,i2,rfl,hS,hi2⟩;obtain ⟨g1,g2,_,_⟩:=Go.Sort.scanUp_spec (fun x=>ltOf cf x dk[a]!) dk j _ i rfl;have g2:=g2 hij;simp only[go_sem]
 refine ak6 (fun e f s=>e=.exit 8/\∃ j2:Nat,f=[(0,.slice id 0 d.size 1),(1,.int .i64 a),(4,.func (.func g) first cap),(12,.int .i64 (i2:Int)),(13,.int .i64 (j2:Int)),(139,.bool false)]/\SO emb tl id dk σ s/\j2=Go.Sort.scanDown (fun x=>!ltOf cf x dk[a]!) dk i2 j)
  (ab3 noT (fun k2 fr v=>∃ (j2:Nat) (rst:Frm),fr=(0,.slice id 0 d.size 1)::(1,.int .i64 a)::(4,.func (.func g) first cap)::(12,.int .i64 (i2:Int))::(13,.int .i64 (j2:Int))::rst/\SO emb tl id dk σ v/\j2+k2=j/\i2<=j2+1/\Go.Sort.scanDown (fun x=>!ltOf cf x dk[a]!) dk i2 j2=Go.Sort.scanDown (fun x=>!ltOf cf x dk[a]!) dk i2 j) (j+1) ⟨j,_,rfl,hS,rfl,by omega,rfl⟩ ?_) ?_
 ·rintro k2 fr v hk2 ⟨j2,rst,rfl,hS,hj2,hij2,hI2⟩;have xa:=ag8 emb tl (d:=dk) (k:=a) (by omega);by_cases hle:i2<=j2
  ·have d1:(i2:Int)<=(j2:Int):=by omega
   have d2:(0:Int)<=(j2:Int):=by omega
   have d3:(j2:Int)<d.size:=by omega
   have w2:=bf3 (a:=j2) (by omega) (by omega);have xi:=ag8 emb tl (d:=dk) (k:=j2) (by omega);have hc:=hC.pc dk[j2]! dk[a]!;simp only[go_sem,d1,d2,d3,c2,c3,hS.row,xa,xi,Nat.mul_one];refine am1 hC.ok hc ?_;by_cases hcf:cf dk[j2]! dk[a]! < 0
   ·have hst:=aw5 (p:=fun x=>!ltOf cf x dk[a]!) (d:=dk) (i:=i2) (j:=j2) (fun _=>by simp only[be2 hcf,Bool.not_true]);simp only[go_sem,hcf];exact ⟨j2,rfl,hS.up emb tl rfl (Nat.le_add_right _ _),by rw[<- hI2,hst]⟩
   ·have hst:=cf9 (p:=fun x=>!ltOf cf x dk[a]!) (d:=dk) (i:=i2) (j:=j2) (by omega) hle (by simp only[as9 hcf,Bool.not_false]);simp only[go_sem,hcf,w2];exact ⟨by omega,j2-1,_,rfl,hS.up emb tl rfl (Nat.le_add_right _ _),by omega,by omega,by rw[<- hI2,hst]⟩
  ·have d1:¬ (i2:Int)<=(j2:Int):=by omega
   have hst:=aw5 (p:=fun x=>!ltOf cf x dk[a]!) (d:=dk) (i:=i2) (j:=j2) (fun h=>absurd h hle);simp only[go_sem,d1];exact ⟨j2,rfl,hS.up emb tl rfl (Nat.le_add_right _ _),by rw[<- hI2,hst]⟩
 rintro e f v ⟨rfl,j2,rfl,hS,hj2⟩;obtain ⟨v1,v2,_,v4⟩:=Go.Sort.scanDown_spec (fun x=>!ltOf cf x dk[a]!) dk i2 j;obtain ⟨_,_,_,u4⟩:=Go.Sort.scanUp_spec (fun x=>ltOf cf x dk[a]!) dk j _ i rfl;have v2:=v2 (by omega);rw[<- hi2] at u4 g1 g2;rw[<- hj2] at v1 v2 v4
 have hne:¬ i2>j2->i2<j2:=fun hgt=>by
  rcases Nat.lt_or_ge i2 j2 with h|h
  ·exact h
  ·have e:i2=j2:=by omega
   have f1:=u4 (by omega);have f2:=v4 (by omega) (by omega);rw[<- e] at f2;rw[f1] at f2; cases f2
 rw[Go.Sort.partLoop_eq] at hI;rw[<- hi2] at hI;rw[<- hj2] at hI;have p3:(0:Int)<=(j2:Int):=by omega
 have p4:(j2:Int)<d.size:=by omega
 by_cases hgt:i2>j2
 ·have e1:(j2:Int)<(i2:Int):=by omega
  obtain ⟨r1,r2,r3,r4,r5⟩:=ag9 emb tl (d:=dk) (i:=j2) (j:=a) (by omega) (by omega);rw[if_pos hgt] at hI;rw[<- hI];simp only[go_sem,e1,c2,c3,p3,p4,hS.row,r1,r2,r3,r4,r5,Nat.mul_one];refine ⟨⟨_,rfl⟩,?_,fun m hm=>?_,?_⟩
  ·have:=hS.next; first|omega|(simp only[aa6]; omega)
  ·simp only[aa2,hm,if_false]; exact hS.other m hm
  ·simp only[aa2,if_true]
 have e1:¬ (j2:Int)<(i2:Int):=by omega
 have hlt:=hne hgt;have p1:(0:Int)<=(i2:Int):=by omega
 have p2:(i2:Int)<d.size:=by omega
 have w2:=ad2 (i:=i2) (by omega);have w3:=bf3 (a:=j2) (by omega) (by omega);obtain ⟨r1,r2,r3,r4,r5⟩:=ag9 emb tl (d:=dk) (i:=i2) (j:=j2) (by omega) (by omega);rw[if_neg hgt] at hI;simp only[go_sem,e1,p1,p2,p3,p4,w2,w3,hS.row,r1,r2,r3,r4,r5,Nat.mul_one];refine ⟨by omega,i2+1,j2-1,Go.Sort.swp dk i2 j2,rfl,⟨?_,fun m hm=>?_,?_⟩,by rw[swp_size]; exact hsz,by omega,by omega,by omega,by omega,hI⟩
 ·have:=hS.next; first|omega|(simp only[aa6]; omega)
 ·simp only[aa2,hm,if_false]; exact hS.other m hm
 ·simp only[aa2,if_true]
end
end Go.Id.Tryz
