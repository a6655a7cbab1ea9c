/- The library's sort by a function,walked: what is nearly in order. Conditions: what is compared is answered by a pure function. -/
import Derived.Test.YtihiokikiejcpaaGreatDoorTRUC
import Derived.Test.YtihiokikiejcpaaGreatDoorFwZb
import Derived.Sort.LotD3
import Derived.Sort.AssemblyPlain
set_option linter.all false
namespace Go.Id.Tryz
open Go Go.Id Go.Proofs
set_option maxRecDepth 100000
theorem bn6 {P:Program}{E:Nat->IV}{N n0:Nat}{fr:Frm}{σ:Store}{x:IC}{Q:Exit->Frm->Store->Prop}(I:Nat->Frm->Store->Prop)(n:Nat)(h:I 0 fr σ)
  (hI:∀ i fr σ,i<=n->I i fr σ->RI P E N n0 x fr σ (upQ I i n Q)):RI P E N n0 (.loop x) fr σ Q:=by
 refine ee9 (fun m fr σ=>∃ i,i<=n/\m=n-i/\I i fr σ) n ⟨0,Nat.zero_le _,rfl,h⟩ ?_;rintro m fr σ ⟨i,hi,rfl,hi0⟩;refine az4 (hI i fr σ hi hi0) ?_;intro e f s q
 cases e with
 | normal=>exact ⟨n-(i+1),by have:=q.1; omega,i+1,q.1,rfl,q.2⟩
 | _=>exact q
section
variable {α:Type} [Inhabited α] (emb:α->Int) (tl:List IV) {cf:α->α->Int} {g:Nat} {first cap:List IV} {id:Nat}
theorem dt4 {lt:α->α->Bool}{d:Array α}{b i:Nat}(h:i<b)(hp:lt d[i]! d[i-1]! = false):Go.Sort.scanSorted lt d b i=Go.Sort.scanSorted lt d b (i+1):=by
 rw[Go.Sort.scanSorted,if_pos (by simp[h,hp])]
theorem ch2 {lt:α->α->Bool}{d:Array α}{b i:Nat}(h:i<b->lt d[i]! d[i-1]! = true):Go.Sort.scanSorted lt d b i=i:=by
 rw[Go.Sort.scanSorted,if_neg];intro hc;simp only[Bool.and_eq_true,decide_eq_true_eq,Bool.not_eq_true'] at hc;rw[h hc.1] at hc; exact absurd hc.2 (by decide)
theorem dt5 (lt:α->α->Bool):∀ (j:Nat) (d:Array α),(Go.Sort.shiftDown lt j d).size=d.size:=by
 intro j
 induction j with
 | zero=>intro d; rfl
 | succ j ih=>
  intro d;rw[Go.Sort.shiftDown];split
  ·rfl
  ·rw[ih,swp_size]
theorem fc5 (lt:α->α->Bool)(b:Nat):∀ (n j:Nat) (d:Array α),b-j<=n->(Go.Sort.shiftUp lt b j d).size=d.size:=by
 intro n
 induction n with
 | zero=>intro j d h; rw[Go.Sort.shiftUp,if_neg (by omega)]
 | succ n ih=>
  intro j d h;rw[Go.Sort.shiftUp]
  repeat' split
  ·rfl
  ·rw[ih _ _ (by omega),swp_size]
  ·rfl
theorem fc6 (lt:α->α->Bool)(a i:Nat)(d:Array α):(Go.Sort.fixDown lt a i d).size=d.size:=by
 unfold Go.Sort.fixDown;split
 ·exact dt5 lt _ _
 ·rfl
theorem go9 (lt:α->α->Bool)(b i:Nat)(d:Array α):(Go.Sort.fixUp lt b i d).size=d.size:=by
 unfold Go.Sort.fixUp;split
 ·exact fc5 lt b _ _ _ (Nat.le_refl _)
 ·rfl
theorem fx1 (hC:cf8 emb cf g first cap){σ:Store}(d:Array α)(a b:Nat)(hab:a<b)(hb:b<=d.size)(hz:d.size<2^40)(ho:σ.obj id=some (.row (ba1 emb tl d))) :
  C Tryz.prog EE 73 [.slice id 0 d.size 1,.int .i64 a,.int .i64 b,.func (.func g) first cap] σ fun v s=>v=.bool (Go.Sort.partialInsertionSort (ltOf cf) d a b).2/\SO emb tl id (Go.Sort.partialInsertionSort (ltOf cf) d a b).1 σ s:=by
 refine ge7 fok73 (nZ rfl) ?_;have w0:=ad2 (i:=a) (by omega);have wba:=fd6 (a:=b) (b:=a) (by omega) (by omega);simp only[ic73];refine ab2 (ab8 ?_);simp only[go_sem];refine ab2 (ab8 ?_);simp only[go_sem,w0];refine ab2 (ab2 (ab8 ?_));simp only[go_sem];unfold Go.Sort.partialInsertionSort;refine ai8 (bn6 (fun k fr t=>∃ (i:Nat) (dk:Array α),fr=[(0,.slice id 0 d.size 1),(1,.int .i64 a),(2,.int .i64 b),(3,.func (.func g) first cap),(9,.int .i64 (i:Int)),(10,.int .i64 (k:Int))]/\SO emb tl id dk σ t/\dk.size=d.size/\a+1<=i/\i<=b/\Go.Sort.partialIns (ltOf cf) a b (5-k) i dk=Go.Sort.partialIns (ltOf cf) a b 5 (a+1) d) 5 ⟨a+1,d,rfl,⟨Nat.le_refl _,fun _ _=>rfl,ho⟩,rfl,by omega,by omega,rfl⟩ ?_);rintro k fr t hk ⟨i0,dk,rfl,hS,hsz,hai,hib,hI⟩;by_cases hk5:k<5
 case neg=>
  have e5:k=5:=by omega
  subst e5;have c5:¬ ((5:Nat):Int)<5:=by decide
  refine ab2 (ab8 ?_);have e0:Go.Sort.partialIns (ltOf cf) a b (5-5) i0 dk=(dk,false):=rfl;rw[e0] at hI;simp only[go_sem,c5];refine ab8 ?_;simp only[go_sem];rw[<- hI];exact ⟨rfl,hS.next,hS.other,hS.row⟩
 have c5:(k:Int)<5:=by omega
 obtain ⟨s,hs⟩:∃ s,5-k=s+1:=⟨4-k,by omega⟩;have hs':5-(k+1)=s:=by omega
 rw[hs,Go.Sort.partialIns_succ] at hI;refine ab2 (ab8 ?_);simp only[go_sem,c5];refine ab2 (ai8 ?_)
 -- what is in order
 refine ab2 (ai8 (ak6 (fun e f s=>e=.exit 2/\f=[(0,.slice id 0 d.size 1),(1,.int .i64 a),(2,.int .i64 b),(3,.func (.func g) first cap),(9,.int .i64 (Go.Sort.scanSorted (ltOf cf) dk b i0:Nat)),(10,.int .i64 (k:Int)),(36,.bool false)]/\SO emb tl id dk σ s/\i0<=Go.Sort.scanSorted (ltOf cf) dk b i0/\Go.Sort.scanSorted (ltOf cf) dk b i0<=b)
  (ab3 noT (fun k2 fr u=>∃ (i:Nat) (rst:Frm),fr=(0,.slice id 0 d.size 1)::(1,.int .i64 a)::(2,.int .i64 b)::(3,.func (.func g) first cap)::(9,.int .i64 (i:Int))::(10,.int .i64 (k:Int))::rst/\SO emb tl id dk σ u/\i=i0+k2/\i<=b/\Go.Sort.scanSorted (ltOf cf) dk b i=Go.Sort.scanSorted (ltOf cf) dk b i0) (b-i0) ⟨i0,_,rfl,⟨hS.next,hS.other,hS.row⟩,rfl,hib,rfl⟩ ?_) ?_))
 ·rintro k2 fr u hk2 ⟨i,rst,rfl,hS,hi,hib,hI⟩;by_cases hlt:i<b
  ·have d1:(i:Int)<(b:Int):=by omega
   have d2:(0:Int)<=(i:Int):=by omega
   have d3:(i:Int)<d.size:=by omega
   have d4:(0:Int)<=((i-1:Nat):Int):=by omega
   have d5:((i-1:Nat):Int)<d.size:=by omega
   have w1:=bf3 (a:=i) (by omega) (by omega);have w2:=ad2 (i:=i) (by omega);have x1:=ag8 emb tl (d:=dk) (k:=i) (by omega);have x2:=ag8 emb tl (d:=dk) (k:=i-1) (by omega);have hc:=hC.pc dk[i]! dk[i-1]!;simp only[go_sem,d1,d2,d3,d4,d5,w1,hS.row,x1,x2,Nat.mul_one];refine am1 hC.ok hc ?_;by_cases hcf:cf dk[i]! dk[i-1]! < 0
   ·have hst:=ch2 (lt:=ltOf cf) (d:=dk) (b:=b) (i:=i) (fun _=>be2 hcf);rw[hst] at hI;simp only[go_sem,hcf];refine ⟨by rw[hI],hS.up emb tl rfl (Nat.le_add_right _ _),by omega,by omega⟩
   ·have hst:=dt4 (lt:=ltOf cf) (d:=dk) hlt (as9 hcf);simp only[go_sem,hcf,w2];exact ⟨by omega,i+1,_,rfl,hS.up emb tl rfl (Nat.le_add_right _ _),by omega,by omega,by rw[<- hI,hst]⟩
  ·have d1:¬ (i:Int)<(b:Int):=by omega
   have hst:=ch2 (lt:=ltOf cf) (d:=dk) (b:=b) (i:=i) (fun h=>absurd h hlt);rw[hst] at hI;simp only[go_sem,d1];refine ⟨by rw[hI],hS.up emb tl rfl (Nat.le_add_right _ _),by omega,by omega⟩
 rintro e f u ⟨rfl,rfl,hS,g1,g2⟩;generalize Go.Sort.scanSorted (ltOf cf) dk b i0=i at *;simp only[go_sem];refine ab2 (ab8 ?_);by_cases hib2:i=b
 ·have d1:(i:Int)=(b:Int):=by omega
  rw[if_pos hib2] at hI;simp only[go_sem,d1];rw[<- hI];exact ⟨rfl,hS.next,hS.other,hS.row⟩
 have d1:¬ (i:Int)=(b:Int):=by omega
 rw[if_neg hib2] at hI;simp only[go_sem,d1];refine ab2 (ab8 ?_);by_cases h50:b-a<50
 ·have d2:((b-a:Nat):Int)<50:=by omega
  rw[if_pos h50] at hI;simp only[go_sem,wba,d2];rw[<- hI];exact ⟨rfl,hS.next,hS.other,hS.row⟩
 have d2:¬ ((b-a:Nat):Int)<50:=by omega
 rw[if_neg h50] at hI;simp only[go_sem,wba,d2];have p1:(0:Int)<=(i:Int):=by omega
 have p2:(i:Int)<d.size:=by omega
 have p3:(0:Int)<=((i-1:Nat):Int):=by omega
 have p4:((i-1:Nat):Int)<d.size:=by omega
 have w1:=bf3 (a:=i) (by omega) (by omega);obtain ⟨r1,r2,r3,r4,r5⟩:=ag9 emb tl (d:=dk) (i:=i) (j:=i-1) (by omega) (by omega);refine ab2 (ab8 ?_);simp only[go_sem,p1,p2,p3,p4,w1,hS.row,r1,r2,r3,r4,r5,Nat.mul_one]
 -- the lesser one to the left
 refine ab2 (az4 (Q:=fun e f s=>e=.normal/\(∃ rst:Frm,f=(0,.slice id 0 d.size 1)::(1,.int .i64 a)::(2,.int .i64 b)::(3,.func (.func g) first cap)::(9,.int .i64 (i:Int))::(10,.int .i64 (k:Int))::rst)/\SO emb tl id (Go.Sort.fixDown (ltOf cf) a i (Go.Sort.swp dk i (i-1))) σ s) (ab8 ?_) ?_)
 ·have wia:=fd6 (a:=i) (b:=a) (by omega) (by omega);by_cases h2:i-a≥2
  ·have e1:(2:Int)<=((i-a:Nat):Int):=by omega
   have hfx:Go.Sort.fixDown (ltOf cf) a i (Go.Sort.swp dk i (i-1))=Go.Sort.shiftDown (ltOf cf) (i-1) (Go.Sort.swp dk i (i-1)):=by unfold Go.Sort.fixDown; rw[if_pos h2]
   rw[hfx];simp only[go_sem,wia,e1,w1];refine ab3 noT (fun k2 fr u=>∃ (j:Nat) (dj:Array α) (rst:Frm),fr=(0,.slice id 0 d.size 1)::(1,.int .i64 a)::(2,.int .i64 b)::(3,.func (.func g) first cap)::(9,.int .i64 (i:Int))::(10,.int .i64 (k:Int))::(11,.int .i64 (j:Int))::rst/\SO emb tl id dj σ u/\dj.size=d.size/\j+k2=i-1/\Go.Sort.shiftDown (ltOf cf) j dj=Go.Sort.shiftDown (ltOf cf) (i-1) (Go.Sort.swp dk i (i-1))) i ⟨i-1,_,_,rfl,⟨by (have:=hS.next; first|omega|(simp only[aa6]; omega)),fun m hm=>by simp only[aa2,hm,if_false]; exact hS.other m hm,by simp only[aa2,if_true]⟩,by rw[swp_size]; exact hsz,rfl,rfl⟩ ?_;rintro k2 fr u hk2 ⟨j,dj,rst,rfl,hS,hszj,hj,hIj⟩
   cases j with
   | zero=>
    have e2:Go.Sort.shiftDown (ltOf cf) 0 dj=dj:=rfl;have e3:¬ (1:Int)<=((0:Nat):Int):=by decide
    have e0:(((0:Nat):Int))=0:=rfl;have e4:¬ (1:Int)<=0:=by decide
    rw[e2] at hIj;simp only[go_sem,e0,e4];rw[<- hIj]
    exact ⟨⟨_,rfl⟩,hS.next,hS.other,hS.row⟩
   | succ j=>
    have e3:(1:Int)<=((j+1:Nat):Int):=by omega
    have d2:(0:Int)<=((j+1:Nat):Int):=by omega
    have d3:((j+1:Nat):Int)<d.size:=by omega
    have d4:(0:Int)<=(j:Int):=by omega
    have d5:(j:Int)<d.size:=by omega
    have w3:IntKind.i64.wrap (((j+1:Nat):Int)-1)=(j:Int):=by rw[wrap64 (by omega) (by omega)]; omega
    have hc:=hC.pc dj[j+1]! dj[j]!;obtain ⟨r1,r2,r3,r4,r5⟩:=ag9 emb tl (d:=dj) (i:=j+1) (j:=j) (by omega) (by omega);rw[Go.Sort.shiftDown] at hIj;simp only[go_sem,e3,d2,d3,d4,d5,w3,hS.row,r1,r2,Nat.mul_one];refine am1 hC.ok hc ?_;by_cases hcf:cf dj[j+1]! dj[j]! < 0
    ·rw[be2 hcf] at hIj;simp only[Bool.not_true,Bool.false_eq_true,if_false] at hIj;simp only[go_sem,hcf,d2,d3,d4,d5,w3,hS.row,r1,r2,r3,r4,r5,Nat.mul_one];exact ⟨by omega,j,Go.Sort.swp dj (j+1) j,_,rfl,⟨by (have:=hS.next; first|omega|(simp only[aa6]; omega)),fun m hm=>by simp only[aa2,hm,if_false]; exact hS.other m hm,by simp only[aa2,if_true]⟩,by rw[swp_size]; exact hszj,by omega,hIj⟩
    ·rw[as9 hcf] at hIj;simp only[Bool.not_false,if_true] at hIj;simp only[go_sem,hcf];rw[<- hIj];exact ⟨⟨_,rfl⟩,hS.up emb tl rfl (Nat.le_add_right _ _)⟩
  ·have e1:¬ (2:Int)<=((i-a:Nat):Int):=by omega
   have hfx:Go.Sort.fixDown (ltOf cf) a i (Go.Sort.swp dk i (i-1))=Go.Sort.swp dk i (i-1):=by unfold Go.Sort.fixDown; rw[if_neg h2]
   rw[hfx];simp only[go_sem,wia,e1];exact ⟨⟨_,rfl⟩,⟨by (have:=hS.next; first|omega|(simp only[aa6]; omega)),fun m hm=>by simp only[aa2,hm,if_false]; exact hS.other m hm,by simp only[aa2,if_true]⟩⟩
 rintro e f u2 ⟨rfl,⟨rst,rfl⟩,hS⟩;have hs1:(Go.Sort.fixDown (ltOf cf) a i (Go.Sort.swp dk i (i-1))).size=d.size:=by rw[fc6,swp_size]; exact hsz
 generalize Go.Sort.fixDown (ltOf cf) a i (Go.Sort.swp dk i (i-1))=D1 at *;simp only[go_sem]
 -- the greater one to the right
 refine az4 (Q:=fun e f s=>e=.normal/\(∃ rst:Frm,f=(0,.slice id 0 d.size 1)::(1,.int .i64 a)::(2,.int .i64 b)::(3,.func (.func g) first cap)::(9,.int .i64 (i:Int))::(10,.int .i64 (k:Int))::rst)/\SO emb tl id (Go.Sort.fixUp (ltOf cf) b i D1) σ s) (ab8 ?_) ?_
 ·have wbi:=fd6 (a:=b) (b:=i) (by omega) (by omega);by_cases h2:b-i≥2
  ·have e1:(2:Int)<=((b-i:Nat):Int):=by omega
   have wi1:=ad2 (i:=i) (by omega);have hfx:Go.Sort.fixUp (ltOf cf) b i D1=Go.Sort.shiftUp (ltOf cf) b (i+1) D1:=by unfold Go.Sort.fixUp; rw[if_pos h2]
   rw[hfx];simp only[go_sem,wbi,e1,wi1];refine ab3 noT (fun k2 fr u=>∃ (j:Nat) (dj:Array α) (rst:Frm),fr=(0,.slice id 0 d.size 1)::(1,.int .i64 a)::(2,.int .i64 b)::(3,.func (.func g) first cap)::(9,.int .i64 (i:Int))::(10,.int .i64 (k:Int))::(12,.int .i64 (j:Int))::rst/\SO emb tl id dj σ u/\dj.size=d.size/\j=i+1+k2/\Go.Sort.shiftUp (ltOf cf) b j dj=Go.Sort.shiftUp (ltOf cf) b (i+1) D1) b ⟨i+1,_,_,rfl,hS.up emb tl rfl (Nat.le_refl _),hs1,rfl,rfl⟩ ?_;rintro k2 fr u hk2 ⟨j,dj,rst,rfl,hS,hszj,hj,hIj⟩;by_cases hlt:j<b
   ·have e3:(j:Int)<(b:Int):=by omega
    have d2:(0:Int)<=(j:Int):=by omega
    have d3:(j:Int)<d.size:=by omega
    have d4:(0:Int)<=((j-1:Nat):Int):=by omega
    have d5:((j-1:Nat):Int)<d.size:=by omega
    have w3:=bf3 (a:=j) (by omega) (by omega);have w4:=ad2 (i:=j) (by omega);have hc:=hC.pc dj[j]! dj[j-1]!;obtain ⟨r1,r2,r3,r4,r5⟩:=ag9 emb tl (d:=dj) (i:=j) (j:=j-1) (by omega) (by omega);rw[Go.Sort.shiftUp,if_pos hlt] at hIj;simp only[go_sem,e3,d2,d3,d4,d5,w3,hS.row,r1,r2,Nat.mul_one];refine am1 hC.ok hc ?_;by_cases hcf:cf dj[j]! dj[j-1]! < 0
    ·rw[be2 hcf] at hIj;simp only[Bool.not_true,Bool.false_eq_true,if_false] at hIj;simp only[go_sem,hcf,d2,d3,d4,d5,w3,w4,hS.row,r1,r2,r3,r4,r5,Nat.mul_one];exact ⟨by omega,j+1,Go.Sort.swp dj j (j-1),_,rfl,⟨by (have:=hS.next; first|omega|(simp only[aa6]; omega)),fun m hm=>by simp only[aa2,hm,if_false]; exact hS.other m hm,by simp only[aa2,if_true]⟩,by rw[swp_size]; exact hszj,by omega,hIj⟩
    ·rw[as9 hcf] at hIj;simp only[Bool.not_false,if_true] at hIj;simp only[go_sem,hcf];rw[<- hIj];exact ⟨⟨_,rfl⟩,hS.up emb tl rfl (Nat.le_add_right _ _)⟩
   ·have e3:¬ (j:Int)<(b:Int):=by omega
    rw[Go.Sort.shiftUp,if_neg hlt] at hIj;simp only[go_sem,e3];rw[<- hIj];exact ⟨⟨_,rfl⟩,hS.next,hS.other,hS.row⟩
  ·have e1:¬ (2:Int)<=((b-i:Nat):Int):=by omega
   have hfx:Go.Sort.fixUp (ltOf cf) b i D1=D1:=by unfold Go.Sort.fixUp; rw[if_neg h2]
   rw[hfx];simp only[go_sem,wbi,e1];exact ⟨⟨_,rfl⟩,hS.next,hS.other,hS.row⟩
 rintro e f u3 ⟨rfl,⟨rst3,rfl⟩,hS⟩;have hs3:(Go.Sort.fixUp (ltOf cf) b i D1).size=d.size:=by rw[go9]; exact hs1
 have wk:=ad2 (i:=k) (by omega);simp only[go_sem];refine ab8 ?_;simp only[go_sem,wk];exact ⟨by omega,i,_,rfl,hS.up emb tl rfl (Nat.le_refl _),hs3,by omega,g2,by rw[hs']; exact hI⟩
end
section
variable {α:Type} [Inhabited α] (emb:α->Int) (tl:List IV) {cf:α->α->Int} {g:Nat} {first cap:List IV} {id:Nat}
theorem SKp.up {d:Array α}{σ u v:Store}(h:SKp emb tl id d σ u)(h1:v.obj=u.obj)(h2:u.next<=v.next):SKp emb tl id d σ v:=⟨Nat.le_trans h.next h2,fun i hi hn=>by rw[h1]; exact h.other i hi hn,by rw[h1]; exact h.row⟩
theorem it3 (hC:cf8 emb cf g first cap)(hO:Go.Sort.SWO (ltOf cf)):∀ (N a b lim:Nat) (d:Array α) (σ:Store),b-a<N->a<=b->b<=d.size->d.size<256->lim<2^40->Go.Sort.Below (ltOf cf) a b d->id<σ.next->σ.obj id=some (.row (ba1 emb tl d)) ->
  C Tryz.prog EE 33 [.slice id 0 d.size 1,.int .i64 a,.int .i64 b,.int .i64 lim,.func (.func g) first cap] σ fun v s=>v=.tuple []/\∃ d',Go.Sort.PermIn a b d d'/\Go.Sort.SortedIn (ltOf cf) a b d'/\SKp emb tl id d' σ s:=by
 intro N
 induction N with
 | zero=>intro a b lim d σ h; exact absurd h (Nat.not_lt_zero _)
 | succ N ih=>
 intro a b lim d σ hN hab hb hz hlim hB hid ho;refine ge7 fok33 (nZ rfl) ?_;simp only[ic33];refine ab2 (ab8 ?_);simp only[go_sem];refine ab2 (ab8 ?_);simp only[go_sem];refine ai8 (ee9 (fun m fr t=>∃ (a' b' lim':Nat) (wb wp:Bool) (dk:Array α),fr=[(0,.slice id 0 d.size 1),(1,.int .i64 a'),(2,.int .i64 b'),(3,.int .i64 lim'),(4,.func (.func g) first cap),(10,.bool wb),(11,.bool wp)]/\m=b'-a'/\a<=a'/\a'<=b'/\b'<=b/\lim'<=lim/\dk.size=d.size/\Go.Sort.Below (ltOf cf) a' b' dk/\SKp emb tl id dk σ t/\∀ R,Go.Sort.PermIn a' b' dk R->Go.Sort.SortedIn (ltOf cf) a' b' R->Go.Sort.PermIn a b d R/\Go.Sort.SortedIn (ltOf cf) a b R) (b-a) ⟨a,b,lim,true,true,d,rfl,rfl,Nat.le_refl _,hab,Nat.le_refl _,Nat.le_refl _,rfl,hB,⟨Nat.le_refl _,fun _ _ _=>rfl,ho⟩,fun R h1 h2=>⟨h1,h2⟩⟩ ?_);rintro m fr t ⟨a',b',lim',wb,wp,dk,rfl,rfl,haa,hab',hbb,hll,hsz,hB,hS,hF⟩;have hidt:id<t.next:=Nat.lt_of_lt_of_le hid hS.next;have wlen:=fd6 (a:=b') (b:=a') hab' (by omega);refine ai8 (ab2 (ab8 ?_));simp only[go_sem,wlen]
 -- few
 refine ab2 (ab8 ?_);by_cases h12:b'-a'<=12
 ·have c1:((b'-a':Nat):Int)<=12:=by omega
  have hi:=fw5 emb tl hC dk a' b' hab' (by omega) (by omega) hS.row;rw[hsz] at hi;simp only[go_sem,c1];refine ad3 fok68 hi ?_;rintro v s ⟨rfl,h1⟩;refine ⟨h1.next,?_⟩;obtain ⟨q1,q2⟩:=Go.Sort.insertionSort_holds hO dk a' b' hab' (by omega);obtain ⟨f1,f2⟩:=hF _ q1 q2;simp only[go_sem];exact ⟨_,f1,f2,hS.trans emb tl h1.kp⟩
 have c1:¬ ((b'-a':Nat):Int)<=12:=by omega
 simp only[go_sem,c1]
 -- the heap
 refine ab2 (ab8 ?_);by_cases h0:lim'=0
 ·have c2:((lim':Nat):Int)=0:=by omega
  have hi:=fc3 emb tl hC dk a' b' (by omega) (by omega) (by omega) hS.row;rw[hsz] at hi;simp only[go_sem,c2];refine ad3 fok69 hi ?_;rintro v s ⟨rfl,h1⟩;refine ⟨h1.next,?_⟩;obtain ⟨q1,q2⟩:=Go.Sort.heapSort_holds hO dk a' b' hab' (by omega);obtain ⟨f1,f2⟩:=hF _ q1 q2;simp only[go_sem];exact ⟨_,f1,f2,hS.trans emb tl h1.kp⟩
 have c2:¬ ((lim':Nat):Int)=0:=by omega
 simp only[go_sem,c2]
 -- patterns
 refine ab2 (az4 (Q:=fun e f s=>e=.normal/\∃ (lim2:Nat) (rst:Frm) (dj:Array α),f=(0,.slice id 0 d.size 1)::(1,.int .i64 a')::(2,.int .i64 b')::(3,.int .i64 lim2)::(4,.func (.func g) first cap)::(10,.bool wb)::(11,.bool wp)::(12,.int .i64 (b'-a':Nat))::rst/\lim2<=lim/\Go.Sort.PermIn a' b' dk dj/\SKp emb tl id dj σ s) (ab8 ?_) ?_)
 ·cases wb with
  | true=>
   simp only[go_sem]
   exact ⟨lim',_,dk,rfl,hll,Go.Sort.permIn_refl dk a' b',hS.up emb tl rfl (Nat.le_refl _)⟩
  | false=>
   have hi:=hn4 emb tl dk a' b' (.func (.func g) first cap) (by omega) (by omega) (by omega) hidt hS.row;rw[hsz] at hi;have wl:=bf3 (a:=lim') (by omega) (by omega);simp only[go_sem];refine ad3 fok70 hi ?_;rintro v s ⟨rfl,dj,hp,h1⟩;refine ⟨h1.next,?_⟩;simp only[go_sem,wl];exact ⟨lim'-1,_,dj,rfl,by omega,hp,(hS.trans emb tl h1).up emb tl rfl (Nat.le_refl _)⟩
 rintro e f t ⟨rfl,lim2,rst,d2,rfl,hl2,hP2,hS2⟩;have hs2:d2.size=d.size:=by rw[hP2.1]; exact hsz
 have hid2:id<t.next:=Nat.lt_of_lt_of_le hid hS2.next;clear c1 c2 wlen hS hidt;simp only[go_sem]
 -- the pivot
 refine ab2 (ab8 ?_);have hch:=go5 emb tl hC d2 a' b' (by omega) (by omega) (by omega) hid2 hS2.row;rw[hs2] at hch;simp only[go_sem];refine ad3 fok71 hch ?_;rintro v t3 ⟨⟨pv,hh,rfl,hp1,hp2⟩,h3⟩;refine ⟨h3.next,?_⟩;have hS3:=hS2.trans emb tl h3;have hid3:id<t3.next:=Nat.lt_of_lt_of_le hid hS3.next;clear h3;simp only[go_sem];refine ab2 (az4 (Q:=fun e f s=>e=.normal/\∃ (pv:Nat) (hh:Int) (rst:Frm) (dj:Array α),f=(0,.slice id 0 d.size 1)::(1,.int .i64 a')::(2,.int .i64 b')::(3,.int .i64 lim2)::(4,.func (.func g) first cap)::(10,.bool wb)::(11,.bool wp)::(12,.int .i64 (b'-a':Nat))::(13,.int .i64 pv)::(14,.int .i64 hh)::rst/\a'<=pv/\pv<b'/\Go.Sort.PermIn a' b' dk dj/\SKp emb tl id dj σ s) (ab8 ?_) ?_)
 ·by_cases e2:hh=2
  ·have hrv:=fw6 emb tl d2 a' b' (.func (.func g) first cap) (f:=[]) (by omega) (by omega) (by omega) hS3.row;rw[hs2] at hrv;have w1:=bf3 (a:=b') (by omega) (by omega);have w2:=fd6 (a:=pv) (b:=a') hp1 (by omega);have w3:=fd6 (a:=b'-1) (b:=pv-a') (by omega) (by omega);simp only[go_sem,e2];refine ad3 fok72 hrv ?_;rintro v s ⟨rfl,h1⟩;refine ⟨h1.next,?_⟩;simp only[go_sem,w1,w2,w3];exact ⟨_,_,_,_,rfl,by omega,by omega,Go.Sort.permIn_trans _ _ _ a' b' hP2 (Go.Sort.reverseRange_holds d2 a' b' hab' (by omega)),(hS3.trans emb tl h1.kp).up emb tl rfl (Nat.le_refl _)⟩
  ·simp only[go_sem,e2];exact ⟨_,_,_,_,rfl,hp1,hp2,hP2,hS3.up emb tl rfl (Nat.le_refl _)⟩
 clear hS3 hid3 hp1 hp2 pv hh hch;rintro e f t ⟨rfl,pv,hh,rst,d3,rfl,hp1,hp2,hP3,hS3⟩;have hs3:d3.size=d.size:=by rw[hP3.1]; exact hsz
 clear hP2 hS2 hs2 hid2;simp only[go_sem]
 -- nearly in order
 refine ab2 (az4 (Q:=fun e f s=>(e=.ret/\∃ dj,Go.Sort.PermIn a' b' dk dj/\Go.Sort.SortedIn (ltOf cf) a' b' dj/\SKp emb tl id dj σ s)\/(e=.normal/\∃ (rst:Frm) (dj:Array α),f=(0,.slice id 0 d.size 1)::(1,.int .i64 a')::(2,.int .i64 b')::(3,.int .i64 lim2)::(4,.func (.func g) first cap)::(10,.bool wb)::(11,.bool wp)::(12,.int .i64 (b'-a':Nat))::(13,.int .i64 pv)::rst/\Go.Sort.PermIn a' b' dk dj/\SKp emb tl id dj σ s)) (ab8 ?_) ?_)
 ·by_cases hgo:(wb=true/\wp=true)/\hh=1
  ·obtain ⟨⟨rfl,rfl⟩,e1⟩:=hgo;have hpi:=fx1 emb tl hC d3 a' b' (by omega) (by omega) (by omega) hS3.row;rw[hs3] at hpi;have hB3:=hB.perm (by omega) hP3;obtain ⟨q1,q2⟩:=Go.Sort.partialInsertionSort_holds hO d3 a' b' (by omega) (by omega) hB3;simp only[go_sem,e1];refine ad3 fok73 hpi ?_;rintro v s ⟨rfl,h1⟩;refine ⟨h1.next,?_⟩;generalize Go.Sort.partialInsertionSort (ltOf cf) d3 a' b'=pr at *;obtain ⟨dp,bp⟩:=pr
   cases bp with
   | true=>
    simp only[go_sem]
    first|exact .inl ⟨rfl,dp,Go.Sort.permIn_trans _ _ _ a' b' hP3 q1,q2 rfl,hS3.trans emb tl h1.kp⟩|exact .inl ⟨trivial,dp,Go.Sort.permIn_trans _ _ _ a' b' hP3 q1,q2 rfl,hS3.trans emb tl h1.kp⟩|exact .inl ⟨dp,Go.Sort.permIn_trans _ _ _ a' b' hP3 q1,q2 rfl,hS3.trans emb tl h1.kp⟩|exact ⟨dp,Go.Sort.permIn_trans _ _ _ a' b' hP3 q1,q2 rfl,hS3.trans emb tl h1.kp⟩
   | false=>
    simp only[go_sem]
    first|exact .inr ⟨rfl,_,dp,rfl,Go.Sort.permIn_trans _ _ _ a' b' hP3 q1,(hS3.trans emb tl h1.kp).up emb tl rfl (Nat.le_refl _)⟩|exact .inr ⟨trivial,_,dp,rfl,Go.Sort.permIn_trans _ _ _ a' b' hP3 q1,(hS3.trans emb tl h1.kp).up emb tl rfl (Nat.le_refl _)⟩|exact .inr ⟨_,dp,rfl,Go.Sort.permIn_trans _ _ _ a' b' hP3 q1,(hS3.trans emb tl h1.kp).up emb tl rfl (Nat.le_refl _)⟩|exact ⟨_,dp,rfl,Go.Sort.permIn_trans _ _ _ a' b' hP3 q1,(hS3.trans emb tl h1.kp).up emb tl rfl (Nat.le_refl _)⟩
  ·have hsk:(wb&&wp&&decide (hh=1))=false:=by
    cases wb<;>cases wp<;>simp at hgo ⊢;exact hgo
   cases wb with
   | false=>
    simp only[go_sem]
    first|exact .inr ⟨rfl,_,d3,rfl,hP3,hS3.up emb tl rfl (Nat.le_refl _)⟩|exact .inr ⟨trivial,_,d3,rfl,hP3,hS3.up emb tl rfl (Nat.le_refl _)⟩|exact .inr ⟨_,d3,rfl,hP3,hS3.up emb tl rfl (Nat.le_refl _)⟩|exact ⟨_,d3,rfl,hP3,hS3.up emb tl rfl (Nat.le_refl _)⟩
   | true=>
    cases wp with
    | false=>
     simp only[go_sem]
     first|exact .inr ⟨rfl,_,d3,rfl,hP3,hS3.up emb tl rfl (Nat.le_refl _)⟩|exact .inr ⟨trivial,_,d3,rfl,hP3,hS3.up emb tl rfl (Nat.le_refl _)⟩|exact .inr ⟨_,d3,rfl,hP3,hS3.up emb tl rfl (Nat.le_refl _)⟩|exact ⟨_,d3,rfl,hP3,hS3.up emb tl rfl (Nat.le_refl _)⟩
    | true=>
     have e1:¬ hh=1:=by simpa using hsk
     simp only[go_sem,e1]
     first|exact .inr ⟨rfl,_,d3,rfl,hP3,hS3.up emb tl rfl (Nat.le_refl _)⟩|exact .inr ⟨trivial,_,d3,rfl,hP3,hS3.up emb tl rfl (Nat.le_refl _)⟩|exact .inr ⟨_,d3,rfl,hP3,hS3.up emb tl rfl (Nat.le_refl _)⟩|exact ⟨_,d3,rfl,hP3,hS3.up emb tl rfl (Nat.le_refl _)⟩
 rintro e f t4 (⟨rfl,dj,q1,q2,hS⟩|⟨rfl,rst,d4,rfl,hP4,hS4⟩)
 ·obtain ⟨f1,f2⟩:=hF _ q1 q2;simp only[go_sem];exact ⟨_,f1,f2,hS⟩
 have hs4:d4.size=d.size:=by rw[hP4.1]; exact hsz
 have hB4:=hB.perm (by omega) hP4;have hF4:∀ R,Go.Sort.PermIn a' b' d4 R->Go.Sort.SortedIn (ltOf cf) a' b' R->Go.Sort.PermIn a b d R/\Go.Sort.SortedIn (ltOf cf) a b R:=fun R h1 h2=>hF R (Go.Sort.permIn_trans _ _ _ a' b' hP4 h1) h2
 have hid4:id<t4.next:=Nat.lt_of_lt_of_le hid hS4.next;clear hP3 hS3 hs3 hP4 hF hB;simp only[go_sem]
 -- many that are the same
 have z1:(0:Int)<=(pv:Int):=by omega
 have z2:(pv:Int)<d.size:=by omega
 have xp:=ag8 emb tl (d:=d4) (k:=pv) (by omega);refine ab2 (az4 (Q:=fun e f s=>(e=.exit 1/\∃ (mid:Nat) (dj:Array α),f=[(0,.slice id 0 d.size 1),(1,.int .i64 mid),(2,.int .i64 b'),(3,.int .i64 lim2),(4,.func (.func g) first cap),(10,.bool wb),(11,.bool wp)]/\a'<mid/\mid<=b'/\dj.size=d.size/\Go.Sort.Below (ltOf cf) mid b' dj/\SKp emb tl id dj σ s/\∀ R,Go.Sort.PermIn mid b' dj R->Go.Sort.SortedIn (ltOf cf) mid b' R->Go.Sort.PermIn a b d R/\Go.Sort.SortedIn (ltOf cf) a b R)\/(e=.normal/\∃ (rst:Frm),f=(0,.slice id 0 d.size 1)::(1,.int .i64 a')::(2,.int .i64 b')::(3,.int .i64 lim2)::(4,.func (.func g) first cap)::(10,.bool wb)::(11,.bool wp)::(12,.int .i64 (b'-a':Nat))::(13,.int .i64 pv)::rst/\SKp emb tl id d4 σ s)) (ab8 ?_) ?_)
 ·by_cases ha0:0<a'
  ·have y0:(0:Int)<(a':Int):=by omega
   have y1:(0:Int)<=((a'-1:Nat):Int):=by omega
   have y2:((a'-1:Nat):Int)<d.size:=by omega
   have w1:=bf3 (a:=a') (by omega) (by omega);have xa:=ag8 emb tl (d:=d4) (k:=a'-1) (by omega);have hc:=hC.pc d4[a'-1]! d4[pv]!;simp only[go_sem,y0,y1,y2,z1,z2,w1,hS4.row,xa,xp,Nat.mul_one];refine am1 hC.ok hc ?_;by_cases hcf:cf d4[a'-1]! d4[pv]! < 0
   ·simp only[go_sem,hcf]
    first|exact .inr ⟨rfl,_,rfl,hS4.up emb tl rfl (Nat.le_add_right _ _)⟩|exact .inr ⟨trivial,_,rfl,hS4.up emb tl rfl (Nat.le_add_right _ _)⟩|exact .inr ⟨_,rfl,hS4.up emb tl rfl (Nat.le_add_right _ _)⟩|exact ⟨_,rfl,hS4.up emb tl rfl (Nat.le_add_right _ _)⟩
   ·obtain ⟨mid,d5,hx⟩:∃ mid d5,Go.Sort.partitionEqual (ltOf cf) d4 a' b' pv=(mid,d5):=⟨_,_,rfl⟩;have hpe:=fun U (h:SKp emb tl id d4 σ U)=>go8 emb tl hC (σ:=U) d4 a' b' pv hp1 hp2 (by omega) (by omega) h.row
    rw[hs4,hx] at hpe;have hpe2:=fun U (h:SKp emb tl id d4 σ U)=>(hpe U h).mono (Q':=fun v s=>v=.int .i64 mid/\U.next<=s.next/\SKp emb tl id d5 σ s) fun v s ⟨e,h1⟩=>⟨e,h1.next,h.trans emb tl h1.kp⟩
    simp only[go_sem,hcf];refine ad3 fok74 (hpe2 _ (hS4.up emb tl rfl (Nat.le_add_right _ _))) ?_;rintro v s ⟨rfl,h1n,h1⟩;refine ⟨h1n,?_⟩;obtain ⟨r1,r2,r3,r4,r5⟩:=Go.Sort.round_eq hO (Go.Sort.partitionEqual_holds (ltOf cf)) ha0 hp1 hp2 (by omega) hB4 (as9 hcf) hx;simp only[go_sem]
    first|exact .inl ⟨rfl,mid,d5,rfl,r1,r2,r3.trans hs4,r4,h1.up emb tl rfl (Nat.le_refl _),fun R k1 k2=>hF4 R (r5 R k1 k2).1 (r5 R k1 k2).2⟩|exact .inl ⟨trivial,mid,d5,rfl,r1,r2,r3.trans hs4,r4,h1.up emb tl rfl (Nat.le_refl _),fun R k1 k2=>hF4 R (r5 R k1 k2).1 (r5 R k1 k2).2⟩|exact .inl ⟨mid,d5,rfl,r1,r2,r3.trans hs4,r4,h1.up emb tl rfl (Nat.le_refl _),fun R k1 k2=>hF4 R (r5 R k1 k2).1 (r5 R k1 k2).2⟩
  ·have y0:¬ (0:Int)<(a':Int):=by omega
   simp only[go_sem,y0]
   first|exact .inr ⟨rfl,_,rfl,hS4.up emb tl rfl (Nat.le_add_right _ _)⟩|exact .inr ⟨trivial,_,rfl,hS4.up emb tl rfl (Nat.le_add_right _ _)⟩|exact .inr ⟨_,rfl,hS4.up emb tl rfl (Nat.le_add_right _ _)⟩|exact ⟨_,rfl,hS4.up emb tl rfl (Nat.le_add_right _ _)⟩
 rintro e f t5 (⟨rfl,mid,d5,rfl,m1,m2,m3,m4,m5,m6⟩|⟨rfl,rst,rfl,hS5⟩)
 ·simp only[go_sem];exact ⟨b'-mid,by omega,mid,b',lim2,wb,wp,d5,rfl,rfl,by omega,m2,hbb,hl2,m3,m4,m5,m6⟩
 have hid5:id<t5.next:=Nat.lt_of_lt_of_le hid hS5.next;clear xp z1 z2 hid4 hS4;simp only[go_sem]
 -- parted
 have hpt:=ii8 emb tl hC (σ:=t5) d4 a' b' pv hp1 hp2 (by omega) (by omega) hS5.row;obtain ⟨mid,ap0,d6,hx⟩:∃ mid ap0 d6,Go.Sort.partition (ltOf cf) d4 a' b' pv=(mid,ap0,d6):=⟨_,_,_,rfl⟩;rw[hs4,hx] at hpt;refine ab2 (ab8 ?_);simp only[go_sem];refine ad3 fok75 hpt ?_;rintro v t6 ⟨⟨ap,rfl⟩,h6⟩;refine ⟨h6.next,?_⟩;obtain ⟨r1,r2,r3,r4,r5,r6,r7⟩:=Go.Sort.round_part hO (Go.Sort.partition_holds (ltOf cf)) hp1 hp2 (show b'<=d4.size by omega) hB4 hx;have hS6:=hS5.trans emb tl h6.kp;have hid6:id<t6.next:=Nat.lt_of_lt_of_le hid hS6.next;clear h6 hS5;have hs6:d6.size=d.size:=r3.trans hs4;have w1:=fd6 (a:=mid) (b:=a') r1 (by omega);have w2:=fd6 (a:=b') (b:=mid) (by omega) (by omega);have n8:¬ ((8:Int)=0):=by decide
 have w3:IntKind.i64.wrap (((b'-a':Nat):Int).tdiv 8)=(((b'-a')/8:Nat):Int):=by
  have:((b'-a':Nat):Int).tdiv 8=(((b'-a')/8:Nat):Int):=by rw[Int.tdiv_eq_ediv_of_nonneg (by omega)]; omega
  rw[this,wrap64 (by omega) (by omega)]
 have w4:=ad2 (i:=mid) (by omega);simp only[go_sem];refine ab2 (ab8 ?_);simp only[go_sem];refine ab2 (ab8 ?_);simp only[go_sem,w1,w2];refine ab2 (ab8 ?_);simp only[go_sem,n8,w3];refine ab2 (ab8 ?_);simp only[go_sem];by_cases hlr:mid-a'<b'-mid
 ·have c3:((mid-a':Nat):Int)<((b'-mid:Nat):Int):=by omega
  have hih:=fun U (h:SKp emb tl id d6 σ U)=>ih a' mid lim2 d6 U (by omega) r1 (by omega) (by omega) (by omega) r4 (Nat.lt_of_lt_of_le hid h.next) h.row
  rw[hs6] at hih;refine ab8 ?_;simp only[go_sem,c3];refine ad3 fok33 (hih _ (hS6.up emb tl rfl (Nat.le_refl _))) ?_;rintro v t7 ⟨rfl,d7,k1,k2,h7⟩;refine ⟨h7.next,?_⟩;obtain ⟨g1,g2⟩:=r6 d7 k1 k2;have hS7:=(hS6.up emb tl (v:=t6) rfl (Nat.le_refl _)).trans emb tl h7;simp only[go_sem,w4];exact ⟨b'-(mid+1),by omega,mid+1,b',lim2,_,ap,d7,rfl,rfl,by omega,by omega,hbb,hl2,by rw[k1.1]; exact hs6,g1,hS7.up emb tl rfl (Nat.le_refl _),fun R h1 h2=>hF4 R (g2 R h1 h2).1 (g2 R h1 h2).2⟩
 ·have c3:¬ ((mid-a':Nat):Int)<((b'-mid:Nat):Int):=by omega
  have hih:=fun U (h:SKp emb tl id d6 σ U)=>ih (mid+1) b' lim2 d6 U (by omega) (by omega) (by omega) (by omega) (by omega) r5 (Nat.lt_of_lt_of_le hid h.next) h.row
  rw[hs6] at hih;refine ab8 ?_;simp only[go_sem,c3,w4];refine ad3 fok33 (hih _ (hS6.up emb tl rfl (Nat.le_refl _))) ?_;rintro v t7 ⟨rfl,d7,k1,k2,h7⟩;refine ⟨h7.next,?_⟩;obtain ⟨g1,g2⟩:=r7 d7 k1 k2;have hS7:=(hS6.up emb tl (v:=t6) rfl (Nat.le_refl _)).trans emb tl h7;simp only[go_sem];exact ⟨mid-a',by omega,a',mid,lim2,_,ap,d7,rfl,rfl,by omega,by omega,by omega,hl2,by rw[k1.1]; exact hs6,g1,hS7.up emb tl rfl (Nat.le_refl _),fun R h1 h2=>hF4 R (g2 R h1 h2).1 (g2 R h1 h2).2⟩
theorem fc7 (hC:cf8 emb cf g first cap)(hO:Go.Sort.SWO (ltOf cf)){σ:Store}(d:Array α)(hz:d.size<256)(hid:id<σ.next)(ho:σ.obj id=some (.row (ba1 emb tl d))) :
  C Tryz.prog EE 17 [.slice id 0 d.size 1,.func (.func g) first cap] σ fun v s=>v=.tuple []/\∃ d',Go.Sort.PermIn 0 d.size d d'/\Go.Sort.SortedIn (ltOf cf) 0 d.size d'/\SKp emb tl id d' σ s:=by
 refine C_f fok17 (nZ rfl) ?_
 have w0:IntKind.u64.wrap (d.size:Int)=d.size:=by
  show (d.size:Int)%18446744073709551616=d.size;omega
 simp only[ic17,go_sem,w0];refine aa5 fok34 (fw9 d.size hz) ?_;simp only[go_sem];have h8:=(bv8 d.size hz).1;refine ad3 fok33 (it3 emb tl hC hO (d.size+1) 0 d.size _ d σ (by omega) (Nat.zero_le _) (Nat.le_refl _) hz (by omega) (.inl rfl) hid ho) ?_;rintro v s ⟨rfl,hs⟩;obtain ⟨d',q1,q2,q3⟩:=hs;refine ⟨q3.next,?_⟩;simp only[go_sem];exact ⟨d',q1,q2,q3⟩
end
end Go.Id.Tryz
